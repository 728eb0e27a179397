/-
  A layer of contracts over the abstract machine. Lemmas alone; no condition.
-/
import Derived.Test.YtalcbebjpgfnfaaGreatA1
import Derived.OpenShut
import Derived.ChangeArms
import Derived.DataReads
import Derived.IntWalk
namespace Go.RM
open Go
section
variable {T : cr} {tab : List XE} {one : Bool} {fl base : Nat} {E E' E2 : Env} {hp hp' hp2 : List AB} {aJ amb' : bN} {H H' H2 : Hp} {ρ : Nat → Nat → Option Nat} {g : aI} {O : Nat → Prop}
mutual
def AV.di (n:Nat):AV→Bool
 | .fl _=>true
 | .sl _ _=>true
 | .pt _ _=>true
 | .fn _ a b=>ig n a && ig n b
 | .ag a=>ig n a
 | .tp a=>ig n a
 | .oq _=>true
 | .cv=>true
 | .ptr j _ _=>Nat.blt j n
 | .bX j _ _ _ _=>Nat.blt j n
 | .om j=>Nat.blt j n
def ig (n:Nat):List AV→Bool
 | []=>true
 | a :: l=>a.di n && ig n l
end
theorem nk {n:Nat}:∀ {l:List AV},ig n l=true→∀ (i:Nat) (a:AV),l[i]?=some a→a.di n=true
 | [],_,i,a,h=>by cases h
 | x :: l,h,i,a,ha=>by
  simp only [ig,Bool.and_eq_true] at h
  cases i with
  | zero=>cases ha;exact h.1
  | succ i=>exact nk h.2 i a (by simpa using ha)
def fN (n:Nat) (ρ:Nat→Nat→Option Nat):Nat→Nat→Option Nat:=fun j v=>if j < n then ρ j v else none
theorem AR.di {n:Nat} {v:AV} {u:Value} (h:AR ρ g O v u):v.di n=true→AR (fN n ρ) g O v u:=by
 have lt:∀ {j:Nat},Nat.blt j n=true→j < n:=fun h=>Nat.le_of_ble_eq_true h
 induction h with
 | d h=>intro _;exact .d h
 | cv=>intro _;exact .cv
 | ptr h=>intro hd;simp only [AV.di] at hd;exact .ptr (by rw [fN,if_pos (lt hd)];exact h)
 | bX h=>intro hd;simp only [AV.di] at hd;exact .bX (by rw [fN,if_pos (lt hd)];exact h)
 | tT=>intro _;exact .tT
 | om h=>intro hd;simp only [AV.di] at hd;exact .om (by rw [fN,if_pos (lt hd)];exact h)
 | fn ha hb h1 h2 ih1 ih2 =>
  intro hd
  simp only [AV.di,Bool.and_eq_true] at hd
  exact .fn ha hb (fun i x u hx hu=>ih1 i x u hx hu (nk hd.1 i x hx)) (fun i x u hx hu=>ih2 i x u hx hu (nk hd.2 i x hx))
 | ag ha h1 ih=>intro hd;simp only [AV.di] at hd;exact .ag ha (fun i x u hx hu=>ih i x u hx hu (nk hd i x hx))
 | tp ha h1 ih=>intro hd;simp only [AV.di] at hd;exact .tp ha (fun i x u hx hu=>ih i x u hx hu (nk hd i x hx))
def AB.di (n:Nat):AB→Bool
 | .cells cs _ _=>ig n cs
 | .dZ _ _=>true
 | .map ents _=>ents.all fun p=>p.1.di n && p.2.1.di n
 | .iter j _ _ _=>Nat.blt j n
 | .gone=>true
def ai (st st':cy):Prop:=st'.fl=st.fl∧∀ (E:Env) (base:Nat) (s:St),qp E base st s→∃ E',qp E' base st' s∧lW st.fl base E st.hp s.hp E' st'.hp s.hp
theorem ai.refl (st:cy):ai st st:=⟨rfl,fun E _ _ h=>⟨E,h,.refl⟩⟩
theorem ai.trans {a b c:cy} (h:ai a b) (k:ai b c):ai a c:=⟨k.1.trans h.1,fun E base s hs=>by
 obtain ⟨E1,h1,h2⟩:=h.2 E base s hs
 obtain ⟨E2,k1,k2⟩:=k.2 E1 base s h1
 rw [h.1] at k2
 exact ⟨E2,k1,h2.trans k2⟩⟩
theorem FY.er {st st':cy} (h:FY st st'):ai st st':=⟨h.2.2.1,fun E _ _ hs=>⟨E,h.rel hs,by rw [h.1];exact .refl⟩⟩
theorem az.aK {c:Code} {st st':cy} {K:Exit→cy→Prop} (hw:ai st st') (h:az T tab one c st' K):az T tab one c st K:=by
 intro E base s hs
 obtain ⟨E1,hs1,hf⟩:=hw.2 E base s hs
 obtain ⟨m,L,h1,h2,h3⟩:=h E1 base s hs1
 refine ⟨m,L,h1,h2,fun p hp=>?_⟩
 obtain ⟨E',st2,k1,k0,k2,k3⟩:=h3 p hp
 rw [hw.1] at k3
 exact ⟨E',st2,k1,k0.trans hw.1,k2,hf.trans k3⟩
def aX:List (Nat × AV)→Nat→AV
 | [],_=>.cv
 | (i,v) :: l,t=>bif Nat.beq t i then v else aX l t
theorem ED {fr:Nat→AV}:∀ {l:List (Nat × AV)},(∀ p ∈ l,fr p.1=p.2)→∀ t,aX l t=fr t∨aX l t=.cv
 | [],_,t=>.inr rfl
 | (i,v) :: l,h,t=>by
  unfold aX
  rw [Tr.beq_eq]
  by_cases hti:t=i
  ·rw [decide_eq_true hti]
   exact .inl (by rw [hti,h (i,v) (by simp)];rfl)
  ·rw [decide_eq_false hti]
   exact ED (fun p hp=>h p (List.mem_cons_of_mem _ hp)) t
def zh (fr:Nat→AV):List (Nat × AV)→Prop
 | []=>True
 | (i,v) :: l=>fr i=v∧zh fr l
theorem zh.mem {fr:Nat→AV}:∀ {l:List (Nat × AV)},zh fr l→∀ p ∈ l,fr p.1=p.2
 | [],_,p,hp=>by cases hp
 | (i,v) :: l,h,p,hp=>by
  rcases List.mem_cons.1 hp with rfl|hp
  ·exact h.1
  ·exact h.2.mem p hp
theorem ai.slots {st:cy} {l:List (Nat × AV)} {hp:List AB} (h:zh st.fr l) (hh:st.hp=hp):ai st ⟨aX l,hp,st.aJ,st.rd,st.fl⟩ :=
 FY.er ⟨hh.symm,⟨rfl,rfl⟩,rfl,fun t=>ED h.mem t⟩
theorem ai.cut {st:cy} {n:Nat} (hn:st.fl≤n) (hfr:∀ t,(st.fr t).di n=true) (hh:(st.hp.take n).all (AB.di n)=true):ai st ⟨st.fr,st.hp.take n,st.aJ,st.rd,st.fl⟩:=by
 refine ⟨rfl,fun E base s hs=>?_⟩
 have hr:=hs.h
 rw [List.all_eq_true] at hh
 have hown:∀ k,Own (fN n E.ρ) (st.hp.take n) k→Own E.ρ st.hp k:=by
  rintro k ⟨j,b,aD,h1,h2,h3⟩
  rw [List.getElem?_take] at h1
  split at h1
  ·rename_i hlt
   rw [fN,if_pos hlt] at h3
   exact ⟨j,b,aD,h1,h2,h3⟩
  ·cases h1
 have hO:∀ k b,s.hp.get k=some b→¬ E.O st.hp k→s.hp.get k=some b∧¬ ({E with ρ:=fN n E.ρ}:Env).O (st.hp.take n) k :=
  fun k b hk ho=>⟨hk,fun h=>ho (h.imp (hown k) id)⟩
 have har:∀ {v:AV} {u:Value},AR E.ρ s.hp.get (E.O st.hp) v u→v.di n=true→AR (fN n E.ρ) s.hp.get (({E with ρ:=fN n E.ρ}:Env).O (st.hp.take n)) v u :=
  fun h hi=>(h.di hi).mono (fun _ _ _ h=>h) hO
 refine ⟨{E with ρ:=fN n E.ρ},⟨⟨hr.wf,fun j b aD hj hv=>?_,fun j j' aD ver' k h1 h2=>?_,fun j v k hk=>?_,fun j b aD v h1 h2 h3=>?_,fun j v hj=>?_,fun k hk=>hr.sup k (hown k hk),fun k hk=>hr.jh k (hown k hk),hr.dx,hr.ds,hr.sn,hr.xn,fun k hk=>hr.qG k (hk.imp (hown k) id),hr.bn,hr.aJ⟩,hs.rd,fun t=>har (hs.fr t) (hfr t)⟩,
  ⟨Nat.le_refl _,fun j v k hj hk=>?_,fun k hk=>.inl (hown k hk),fun _ h=>.inl h,fun _ h=>.inl h,fun _ h=>h,fun _ h=>.inl h,fun _ _ _ _=>rfl,Nat.min_le_left _ _⟩⟩
 ·have hb:=hh b (List.mem_of_getElem? hj)
  rw [List.getElem?_take] at hj
  split at hj
  ·rename_i hlt
   rcases hr.iy j b aD hj hv with ⟨k,b',q1,q2,q3⟩|⟨q1,q2⟩
   ·refine .inl ⟨k,b',by show fN _ _ _ _=_;rw [fN,if_pos hlt];exact q1,q2,?_⟩
    cases b with
    | cells cs es aD =>
     obtain ⟨cs',rfl,h⟩:=q3
     exact ⟨cs',rfl,h.1,fun i a u ha hu=>har (h.2 i a u ha hu) (nk hb i a ha)⟩
    | dZ p q=>exact q3
    | map ents clock =>
     obtain ⟨es,rfl,h1,h2⟩:=q3
     refine ⟨es,rfl,h1,fun i k v born x hx hy=>?_⟩
     simp only [AB.di,List.all_eq_true,Bool.and_eq_true] at hb
     have:=hb _ (List.mem_of_getElem? hx)
     exact ⟨har (h2 i k v born x hx hy).1 this.1,har (h2 i k v born x hx hy).2.1 this.2,(h2 i k v born x hx hy).2.2⟩
    | iter j since seen stepped =>
     obtain ⟨m,rfl,h⟩:=q3
     refine ⟨m,rfl,?_⟩
     show fN _ _ _ _=_
     rw [fN,if_pos (show j < n from Nat.le_of_ble_eq_true hb)];exact h
    | gone=>exact q3
   ·exact .inr ⟨by show fN _ _ _ _=_;rw [fN,if_pos hlt];exact q1,q2⟩
  ·cases hj
 ·have key:∀ {j v:Nat},fN n E.ρ j v=some k→E.ρ j v=some k:=fun {j v} h=>by
   unfold fN at h
   split at h
   ·exact h
   ·cases h
  exact hr.inj j j' aD ver' k (key h1) (key h2)
 ·have hk:fN n E.ρ j v=some k:=hk
  unfold fN at hk
  split at hk
  ·exact hr.rn _ _ _ hk
  ·cases hk
 ·rw [List.getElem?_take] at h1
  split at h1
  ·rename_i hlt
   show fN _ _ _ _=_
   rw [fN,if_pos hlt]
   exact hr.fresh j b aD v h1 h2 h3
  ·cases h1
 ·show fN _ _ _ _=_
  unfold fN
  split
  ·rename_i hlt
   refine hr.new j v ?_
   simp only [List.length_take] at hj
   omega
  ·rfl
 ·show fN _ _ _ _=_
  rw [fN,if_pos (by omega)]
  exact hk
theorem wX {n:Nat}:∀ {l:List (Nat × AV)},(l.all fun p=>p.2.di n)=true→∀ t,(aX l t).di n=true
 | [],_,t=>rfl
 | (i,v) :: l,h,t=>by
  simp only [List.all_cons,Bool.and_eq_true] at h
  unfold aX
  cases Nat.beq t i with
  | true=>exact h.1
  | false=>exact wX h.2 t
theorem ai.to {st:cy} {l:List (Nat × AV)} {hp:List AB} (n:Nat) (hh:st.hp.take n=hp) (hs:zh st.fr l) (hn:st.fl≤n) (hl:(l.all fun p=>p.2.di n)=true) (hb:hp.all (AB.di n)=true):ai st ⟨aX l,hp,st.aJ,st.rd,st.fl⟩:=by
 subst hh
 exact (ai.slots hs rfl).trans (ai.cut hn (wX hl) hb)
def HL {σ:Type} (P:σ→Prop) (I:σ→cy) (m:σ→Nat) (K:Exit→cy→Prop) (x:σ) (e:Exit) (s:cy):Prop :=
 match e with
 | .normal=>∃ y,P y∧m y < m x∧ai s (I y)
 | e=>K e s
theorem az.loop {σ:Type} {body:Code} {K:Exit→cy→Prop} (P:σ→Prop) (I:σ→cy) (m:σ→Nat) (h:∀ x,P x→az T tab one body (I x) (HL P I m K x)):∀ x,P x→az T tab one (.loop body) (I x) K:=by
 have key:∀ (n:Nat) (x:σ),P x→m x < n→∀ (E:Env) (base:Nat) (s:St),qp E base (I x) s→∃ k L,RX T tab k (.loop body s)=some L∧rm one L fun r=>∃ e s',r=.out e s'∧sV E base (I x) s (K e) s':=by
  intro n
  induction n with
  | zero=>intro x _ hx;omega
  | succ n ih =>
   intro x hP hx E base s hs
   obtain ⟨k0,L0,h1,h2,h3⟩:=h x hP E base s hs
   obtain ⟨k,M,hk,q1,q2⟩:=fI (one:=one) (L:=L0) (f:=fun k (p:Exit × St)=>fA (RX T tab k) body p) (P:=fun r=>∃ e s',r=.out e s'∧sV E base (I x) s (K e) s') (fun a b p M hab hp=>by
     unfold fA at hp ⊢
     split at hp
     ·exact gy hab _ _ hp
     ·exact hp) k0 h2 (fun p hp=>by
    obtain ⟨E',st',k1,kf,k2,k3⟩:=h3 p hp
    obtain ⟨e,s'⟩:=p
    have other:(fA (RX T tab 0) body (e,s')=some [.out e s'])→K e st'→∃ m M,fA (RX T tab m) body (e,s')=some M∧rm one M fun r=>∃ e s',r=.out e s'∧sV E base (I x) s (K e) s' :=
     fun h1 h2=>⟨0,_,h1,.single ⟨e,s',rfl,E',st',h2,kf,k2,k3⟩⟩
    cases e with
    | normal =>
     obtain ⟨y,hPy,hy,hw⟩:=k1
     obtain ⟨E1,hs1,hf1⟩:=hw.2 E' base s' k2
     obtain ⟨k,L,r1,r2,r3⟩:=ih y hPy (by omega) E1 base s' hs1
     refine ⟨k,L,r1,r2,fun r hr=>?_⟩
     obtain ⟨e,s2,rfl,E2,st2,j1,jf,j2,j3⟩:=r3 r hr
     have e1:(I y).fl=(I x).fl:=hw.1.trans kf
     rw [e1] at j3
     rw [kf] at hf1
     exact ⟨e,s2,rfl,E2,st2,j1,jf.trans e1,j2,(k3.trans hf1).trans j3⟩
    | _=>exact other rfl k1)
   refine ⟨k+1,M,?_,q2⟩
   rw [JF,qW,fH (gy hk) _ _ _ h1]
   exact q1
 intro x hP E base s hs
 obtain ⟨k,L,h1,h2,h3⟩:=key (m x+1) x hP (Nat.lt_succ_self _) E base s hs
 obtain ⟨k',M,hk,q1,q2⟩:=fI (one:=one) (L:=L) (f:=fun _ (r:ia)=>Bw r) (P:=fun p=>sV E base (I x) s (K p.1) p.2) (fun _ _ _ _ _ h=>h) k h2 (fun r hr=>by
  obtain ⟨e,s',rfl,h⟩:=h3 r hr
  exact ⟨0,_,rfl,.single h⟩)
 refine ⟨k',M,?_,q2⟩
 rw [nO,gy hk _ _ h1]
 exact q1
inductive Fz (hp:List AB):AV→AV→Prop
 | deep {v:AV}:v.deep=true→Fz hp v v
 | nil {b:Bool}:Fz hp (.fl (.slice none 0 0)) (.sl [] b)
 | full {els:List (List AV)}:Fz hp (.sl els true) (.sl els false)
 | row {j aD o n c es:Nat} {cs:List AV} {els:List (List AV)} {b:Bool}:hp[j]?=some (.cells cs es aD)→o+n * es≤cs.length→els.length=n→(∀ el ∈ els,el.length=es)→els.flatten=(cs.drop o).take (n * es)→bw els.flatten=true→(b=true→c=n) →
  Fz hp (.bX j aD o n c) (.sl els b)
 | ag {a b:List AV}:a.length=b.length→(∀ (i:Nat) (x y:AV),a[i]?=some x→b[i]?=some y→Fz hp x y)→Fz hp (.ag a) (.ag b)
theorem Fz.dr {X:Nat→Prop} (h:aY E base hp aJ H) (hX:∀ k,X k→E.X k) {r v:AV} (hf:Fz hp r v):∀ {u:Value},AR E.ρ H.get (E.O hp) r u→DR H.get X v u:=by
 have weak:∀ {v:AV} {u:Value},DR H.get (E.O hp) v u→DR H.get X v u:=fun h=>h.mono fun k b hk ho=>⟨hk,fun hx=>ho (.inr (hX k hx))⟩
 induction hf with
 | deep hd=>intro u ha;exact weak (ha.deep hd)
 | nil=>intro u ha;rw [ha.iH.1];exact .nil
 | full =>
  intro u ha
  cases weak ha.mS with
  | nil=>exact .nil
  | sl q1 q2 q3 q4 q5 q6 q7=>exact .sl q1 q2 q3 q4 q5 q6 (fun h=>Bool.noConfusion h)
 | row h1 h2 h3 h4 h5 h6 h7 =>
  rename_i j aD o n c es cs els b
  intro u ha
  rcases ha.iE with ⟨k,hk,rfl⟩|⟨rfl,rfl,rfl⟩
  ·obtain ⟨cs',q1,q2⟩:=h.cells h1 hk
   have hok:Own E.ρ hp k:=⟨j,_,aD,h1,rfl,hk⟩
   have hnx:¬ X k:=fun hx=>h.jh k hok (hX k hx)
   refine .sl (es:=es) q1 hnx (by rw [←q2.1];exact h2) h3 (fun i el he=>h4 el (List.mem_of_getElem? he)) (fun i el jj a u he hx hu=>?_) h7
   have hjj:jj < es:=by rw [←h4 el (List.mem_of_getElem? he)];exact (List.getElem?_eq_some_iff.1 hx).1
   have hat:=gJ h4 i el jj he hjj
   have hi:i < n:=by rw [←h3];exact (List.getElem?_eq_some_iff.1 he).1
   have jk:a.deep=true:=by
    refine gW h6 (i * es+jj) a ?_
    rw [hat];exact hx
   rw [h5,List.getElem?_take,List.getElem?_drop] at hat
   have hlt:i * es+jj < n * es:=by
    have:(i+1) * es≤n * es:=Nat.mul_le_mul_right _ hi
    rw [Nat.add_mul,Nat.one_mul] at this
    omega
   rw [if_pos hlt,hx,←Nat.add_assoc] at hat
   exact weak ((q2.2 _ a u hat hu).deep jk)
  ·simp only [List.length_eq_zero_iff] at h3
   subst h3
   exact .nil
 | ag hl h1 ih =>
  rename_i a b
  intro u ha
  have hal:∃ us:Array Value,u=.agg us∧gI E.ρ H.get (E.O hp) a us.toList:=by
   cases ha with
   | d h=>cases h with
    | ag ha h1=>exact ⟨_,rfl,ha,fun i a u x y=>.d (h1 i a u x y)⟩
   | ag ha h1=>exact ⟨_,rfl,ha,h1⟩
  obtain ⟨us,rfl,h2⟩:=hal
  refine .ag (by rw [←hl];exact h2.1) (fun i x w hx hw=>?_)
  have hi:i < a.length:=by rw [hl];exact (List.getElem?_eq_some_iff.1 hx).1
  have hai:a[i]?=some a[i]:=List.getElem?_eq_getElem hi
  exact ih i _ x hai hx (h2.2 i _ w hai hw)
def rM (hp:List AB):List AV→List AV→Prop
 | [],[]=>True
 | r :: rs,v :: vs=>Fz hp r v∧rM hp rs vs
 | _,_=>False
theorem rM.dr {X:Nat→Prop} (h:aY E base hp aJ H) (hX:∀ k,X k→E.X k):∀ {rs vs:List AV} {us:List Value},rM hp rs vs→gI E.ρ H.get (E.O hp) rs us→rL H.get X vs us
 | [],[],us,_,ha=>⟨ha.1,fun i a u hx=>by cases hx⟩
 | r :: rs,v :: vs,[],_,ha=>absurd ha.1 (by simp)
 | r :: rs,v :: vs,u :: us,hf,ha=>by
  have:=rM.dr h hX hf.2 (us:=us) ⟨by simpa using ha.1,fun i a u x y=>ha.2 (i+1) a u (by simpa using x) (by simpa using y)⟩
  refine ⟨by simp [this.1],fun i a w hx hw=>?_⟩
  cases i with
  | zero=>cases hx;cases hw;exact hf.1.dr h hX (ha.2 0 r u rfl rfl)
  | succ i=>exact this.2 i a w (by simpa using hx) (by simpa using hw)
 | [],_ :: _,_,hf,_=>hf.elim
 | _ :: _,[],_,hf,_=>by simp [rM] at hf
theorem Ct (h:aY E base hp aJ H) {t:TypeId} {a:AV} {u:Value} (ha:AR E.ρ H.get (E.O hp) a u) {K:AV→List AB→Prop} (hw:fT T t a hp K):∃ w b,iV T t u H.get=some (w,.none)∧K b hp∧AR E.ρ H.get (E.O hp) b w:=by
 unfold fT at hw
 split at hw
 ·rename_i cs o lU s bytes zero agg cI eP hty
  obtain ⟨k,d,cs',own,e,rfl,h1,h2,h3,h4⟩:=ha.dA.dA
  unfold iV addr?
  simp only [h1,cells?,hty]
  obtain ⟨u,a,e1,e2,e3⟩:=mm (ρ:=E.ρ) (fun i a u x y=>.d (h4 i a u x y)) h3 hw
  rw [e1]
  exact ⟨u,a,rfl,e2,e3⟩
 ·rename_i j aD o lU s bytes zero agg cI eP hty
  obtain ⟨cs,es,h1,h2⟩:=hw
  obtain ⟨k,hk,rfl⟩:=ha.dV
  obtain ⟨cs',h3,h4⟩:=h.cells h1 hk
  unfold iV addr?
  simp only [h3,cells?,hty]
  obtain ⟨u,a,e1,e2,e3⟩:=mm (d:=0) (fun i a u x y=>h4.2 i a u x (by rw [Nat.zero_add] at y;exact y)) (by rw [h4.1];omega) h2
  rw [Nat.zero_add] at e1
  rw [e1]
  exact ⟨u,a,rfl,e2,e3⟩
 ·exact hw.elim
def LD (T:cr) (s:cy) (r:ResultVar) (K:AV→Prop):Prop :=
 match r with
 | .tmp t=>K (s.fr t)
 | .cell a t=>fT T t (s.fr a) s.hp fun v _=>K v
def qH (T:cr) (s:cy):List ResultVar→(List AV→Prop)→Prop
 | [],K=>K []
 | r :: rs,K=>LD T s r fun v=>qH T s rs fun vs=>K (v :: vs)
def yI:List AV→AV
 | [v]=>v
 | vs=>.tp vs
theorem mz {st:cy} {s:St} (hs:qp E base st s):∀ {rs:List ResultVar} {K:List AV→Prop},qH T st rs K→∃ us as,l5 T s.fr s.hp rs=some us∧K as∧gI E.ρ s.hp.get (E.O st.hp) as us
 | [],K,h=>⟨[],[],rfl,h,.nil⟩
 | r :: rs,K,h=>by
  have h:LD T st r fun v=>qH T st rs fun vs=>K (v :: vs):=h
  have one:∃ u a,yS T s.fr s.hp r=some u∧AR E.ρ s.hp.get (E.O st.hp) a u∧qH T st rs fun vs=>K (a :: vs):=by
   unfold LD at h
   cases r with
   | tmp t=>exact ⟨_,_,rfl,hs.fr t,h⟩
   | cell a t =>
    obtain ⟨u,b,r1,r2,r3⟩:=Ct hs.h (hs.fr a) h
    exact ⟨u,b,by unfold yS;simp only [r1,Option.map_some],r3,r2⟩
  obtain ⟨u,a,h1,h2,h3⟩:=one
  obtain ⟨us,as,k1,k2,k3⟩:=mz hs h3
  exact ⟨u :: us,a :: as,by unfold l5;simp only [h1,k1,Option.map_some],k2,.cons h2 k3⟩
def JK (T:cr) (rs:List ResultVar) (v:AV) (e:Exit) (s:cy):Prop :=
 match e with
 | .normal|.ret=>qH T s rs fun as=>∃ vs,rM s.hp as vs∧yI vs=v
 | _=>False
def Cu (args:List AV):Nat→AV:=fun t=>args.getD t .cv
def noEntry (tab:List XE) (f:FuncId):Bool:=tab.all fun e=>!Nat.beq e.f f
theorem qa {f:FuncId} (args:List Value) (H:Hp):∀ {tab:List XE},noEntry tab f=true→look tab f args H=none
 | [],_=>rfl
 | e :: l,h=>by
  simp only [noEntry,List.all_cons,Bool.and_eq_true,Bool.not_eq_true'] at h
  have h1:qF e f args H=none:=by unfold qF;rw [h.1];rfl
  show (match qF e f args H with|some r=>some r|none=>look l f args H)=none
  rw [h1]
  exact qa args H h.2
theorem wY {args:List AV} {us:List Value} (h:gI ρ g O args us):mP ρ g O (Cu args) (setArgs .leaf 0 us):=by
 intro t
 rw [uK,Tr.m6]
 unfold Cu
 by_cases ht:t < args.length
 ·rw [if_pos ⟨Nat.zero_le _,by rw [←h.1];omega⟩,Nat.sub_zero,List.getD_eq_getElem?_getD,List.getElem?_eq_getElem ht,List.getElem?_eq_getElem (by rw [←h.1];exact ht:t < us.length)]
  exact h.2 t _ _ (List.getElem?_eq_getElem ht) (List.getElem?_eq_getElem _)
 ·rw [List.getD_eq_getElem?_getD,List.getElem?_eq_none (by omega)]
  exact .cv
theorem JL {X:Nat→Prop} {vs:List AV} {us:List Value} (h:rL g X vs us):DR g X (yI vs) (dy us):=by
 have tup:∀ {vs:List AV} {us:List Value},rL g X vs us→DR g X (.tp vs) (.tuple us.toArray):=fun h=>.tp (by simpa using h.1) (fun i x u hx hu=>h.2 i x u hx (by simpa using hu))
 match vs,us,h with
 | [v],[u],h=>exact h.2 0 v u rfl rfl
 | [],[],h=>exact tup h
 | v :: w :: vs,u :: x :: us,h=>exact tup h
 | [],_ :: _,h=>exact absurd h.1 (by simp)
 | [_],[],h=>exact absurd h.1 (by simp)
 | [_],_ :: _ :: _,h=>exact absurd h.1 (by simp)
 | _ :: _ :: _,[],h=>exact absurd h.1 (by simp)
 | _ :: _ :: _,[_],h=>exact absurd h.1 (by simp)
theorem af.body {f:FuncId} {fn:Func} {c:Code} {first caps args:List AV} {v:AV} (hf:T.fn.get f=some fn) (hb:fn.body=some c) (hn:noEntry tab f=true) (hv:v.deep=true)
  (hw:az T tab one c ⟨Cu (first++args++caps),[],bN.none,false,0⟩ (JK T fn.results.toList v)):af T tab one (.fn f first caps) args v:=by
 refine ⟨hv,fun X H u us hwf hX hF ha=>?_⟩
 cases hF with
 | fn l1 l2 d1 d2 =>
  rename_i a' b'
  have hfirst:rL H.get X first a'.toList:=⟨l1,d1⟩
  have hcaps:rL H.get X caps b'.toList:=⟨l2,d2⟩
  have hall:=rL.append (rL.append hfirst ha) hcaps
  refine ⟨.fn f (a'.toList++us++b'.toList),rfl,?_⟩
  let E:Env:=⟨fun _ _=>none,fun _=>False,fun _=>False,X⟩
  have hno:∀ k,¬ Own E.ρ [] k:=fun k ⟨j,b,aD,h,_⟩=>by cases h
  have hO:∀ k,E.O [] k→X k:=fun k h=>h.elim (fun h=>(hno k h).elim) id
  have hrel:aY E H.n [] bN.none H :=
   {wf:=hwf,iy:=fun j b aD h _=>(by cases h),inj:=fun j j' aD ver' k h=>(by cases h),rn:=fun j v k h=>(by cases h),fresh:=fun j b aD v h=>(by cases h),new:=fun _ _ _=>rfl,
    sup:=fun k h=>(hno k h).elim,jh:=fun k h=>(hno k h).elim,dx:=fun k h=>h.elim,ds:=fun k h=>h.elim,sn:=fun k h=>h.elim,xn:=hX,
    qG:=fun k h=>h.elim (fun h=>(hno k h).elim) (fun h=>h.elim),bn:=Nat.le_refl _,aJ:=trivial}
  have harl:gI E.ρ H.get (E.O []) (first++args++caps) (a'.toList++us++b'.toList) :=
   ⟨hall.1,fun i a u x y=>.d ((hall.2 i a u x y).mono fun k b hk ho=>⟨hk,fun h=>ho (hO k h)⟩)⟩
  obtain ⟨m,L,h1,h2,h3⟩:=hw E H.n ⟨setArgs .leaf 0 (a'.toList++us++b'.toList),H,false⟩ ⟨hrel,rfl,wY harl⟩
  obtain ⟨m',M,hm,q1,q2,q3⟩:=fI (one:=one) (L:=L) (f:=fun _ (p:Exit × St)=>fQ T fn.results.toList p) (P:=fun r=>∃ w H',r=.ret w H'∧H.n≤H'.n∧Wf H'∧(∀ k,k < H.n→H'.get k=H.get k)∧min H.lo H.n≤H'.lo∧DR H'.get X v w)
   (fun _ _ _ _ _ h=>h) m h2 (fun p hp=>by
    obtain ⟨E',st',k1,_,k2,k3⟩:=h3 p hp
    obtain ⟨e,s'⟩:=p
    have done:(e=.normal∨e=.ret)→(qH T st' fn.results.toList fun as=>∃ vs,rM st'.hp as vs∧yI vs=v)→∃ (_:Nat) (M:List ia),fQ T fn.results.toList (e,s')=some M∧rm one M fun r=>∃ w H',r=.ret w H'∧H.n≤H'.n∧Wf H'∧(∀ k,k < H.n→H'.get k=H.get k)∧min H.lo H.n≤H'.lo∧DR H'.get X v w:=by
     intro he hr
     obtain ⟨ws,as,r1,⟨vs,r2,r3⟩,r4⟩:=mz k2 hr
     refine ⟨0,[.ret (dy ws) s'.hp],?_,.single ⟨_,_,rfl,k3.n,k2.h.wf,fun k hk=>k3.same k hk (hno k) (fun h=>h),k3.lo,?_⟩⟩
     ·unfold fQ
      rcases he with rfl|rfl <;> simp only [r1,Option.map_some]
     ·rw [←r3]
      exact JL (r2.dr k2.h (fun k hk=>k3.xk k hk) r4)
    cases e with
    | normal=>exact done (.inl rfl) k1
    | ret=>exact done (.inr rfl) k1
    | _=>exact k1.elim)
  refine ⟨m'+1,M,?_,q2,q3⟩
  show RX T tab (m'+1) (.call f _ H)=_
  rw [Av,qa _ _ hn]
  simp only
  rw [k8,hf]
  simp only [hb]
  rw [fH (gy hm) _ _ _ h1]
  exact q1
end
end Go.RM
namespace Go.RM
open Go
section
variable {T : cr} {tab : List XE} {one : Bool} {fl base : Nat} {E E' E2 : Env} {hp hp' hp2 : List AB} {aJ amb' : bN} {H H' H2 : Hp} {ρ ρ2 : Nat → Nat → Option Nat} {g g2 : aI} {O O2 : Nat → Prop}
def K7 (r:Option (Value × cK)) (K:AV→Prop) (R R2:AV→Value→Prop):Prop:=∃ u a,r=some (u,.none)∧K a∧R a u∧R2 a u
theorem FZ {t:TypeId} {a:AV} {i:Nat} {u:Value} (ha:AR ρ g O a u) (hb:AR ρ2 g2 O2 a u) {K:AV→List AB→Prop} (hw:ku T t a i hp K):K7 (eA T t u i) (K · hp) (AR ρ g O) (AR ρ2 g2 O2):=by
 unfold ku at hw
 split at hw
 ·rename_i cs o fs s bytes z agg cI eP hty
  obtain ⟨off,s',h1,h2,h3⟩:=hw
  obtain ⟨k,d,cs',own,e,rfl,q1,q2,q3,q4⟩:=ha.dA.dA
  obtain ⟨k2,d2,cs2,own2,e2,hu,r1,r2,r3,r4⟩:=hb.dA.dA
  simp only [Value.pointer.injEq,Option.some.injEq,Addr.mk.injEq] at hu
  obtain ⟨rfl,hd,_⟩:=hu
  obtain rfl:d=d2:=by omega
  unfold eA addr?
  simp only [hty,h1,Nat.ble_eq_true_of_le h2,cond_true]
  refine ⟨_,.pt cs (o+off),rfl,h3,?_,?_⟩ <;> unfold ptr <;> rw [Nat.add_assoc]
  ·exact .d (.pt q1 q2 q3 q4)
  ·exact .d (.pt r1 r2 r3 r4)
 ·rename_i j aD o fs s bytes z agg cI eP hty
  obtain ⟨off,s',h1,h2,h3⟩:=hw
  obtain ⟨k,hk,rfl⟩:=ha.dV
  obtain ⟨k2,hk2,hu⟩:=hb.dV
  simp only [Value.pointer.injEq,Option.some.injEq,Addr.mk.injEq,and_true] at hu
  obtain rfl:=hu
  unfold eA addr?
  simp only [hty,h1,Nat.ble_eq_true_of_le h2,cond_true]
  exact ⟨_,_,rfl,h3,.ptr hk,.ptr hk2⟩
 ·exact hw.elim
theorem yJ {t:TypeId} {a ix:AV} {u x:Value} (ha:AR ρ g O a u) (hb:AR ρ2 g2 O2 a u) (hx:AR ρ g O ix x) {K:AV→List AB→Prop} (hw:cO T t a ix hp K):K7 (eD T t u x) (K · hp) (AR ρ g O) (AR ρ2 g2 O2):=by
 unfold cO at hw
 split at hw
 ·rename_i j len el s bytes z agg cI eP hj hty
  have hix:=jv hj hx
  obtain ⟨h0,hw⟩:=hw
  unfold eD
  simp only [hix,hty]
  split at hw
  ·obtain ⟨k,d,cs',own,e,rfl,q1,q2,q3,q4⟩:=ha.dA.dA
   obtain ⟨k2,d2,cs2,own2,e2,hu,r1,r2,r3,r4⟩:=hb.dA.dA
   simp only [Value.pointer.injEq,Option.some.injEq,Addr.mk.injEq] at hu
   obtain ⟨rfl,hd,_⟩:=hu
   obtain rfl:d=d2:=by omega
   simp only [addr?]
   rw [mo h0]
   refine ⟨_,_,rfl,hw,?_,?_⟩ <;> unfold ptr <;> rw [Nat.add_assoc]
   ·exact .d (.pt q1 q2 q3 q4)
   ·exact .d (.pt r1 r2 r3 r4)
  ·obtain ⟨k,hk,rfl⟩:=ha.dV
   obtain ⟨k2,hk2,hu⟩:=hb.dV
   simp only [Value.pointer.injEq,Option.some.injEq,Addr.mk.injEq,and_true] at hu
   obtain rfl:=hu
   simp only [addr?]
   rw [mo h0]
   exact ⟨_,_,rfl,hw,.ptr hk,.ptr hk2⟩
  ·exact hw.elim
 ·rename_i j el s bytes z agg cI eP hj hty
  have hix:=jv hj hx
  unfold eD
  simp only [hix,hty]
  split at hw
  ·rename_i els f
   obtain ⟨el,⟨h0,h1⟩,h2,h3⟩:=hw
   have mk:∀ {g:aI} {O:Nat→Prop} {k o n c:Nat},DR g O (.sl els f) (.slice (some ⟨k,o,none⟩) n c)→n=els.length∧DR g O (.pt el 0) (ptr k (o+j.toNat * eP)):=by
    intro g O k o n c h
    cases h with
    | sl q1 q2 q3 q4 q5 q6 q7 =>
     rename_i es cs own e
     have hlt:j.toNat < els.length:=(List.getElem?_eq_some_iff.1 h1).1
     have hes:es=eP:=by rw [←q5 _ _ h1,h2]
     subst hes
     have hle:(j.toNat+1) * es≤n * es:=Nat.mul_le_mul_right _ (by omega)
     rw [Nat.add_mul,Nat.one_mul] at hle
     exact ⟨q4.symm,.pt (d:=o+j.toNat * es) (o:=0) q1 q2 (by rw [h2];omega) fun i a u hi hu=>q6 _ _ i a u h1 hi hu⟩
   have hlt:j.toNat < els.length:=(List.getElem?_eq_some_iff.1 h1).1
   have h4:=ha.mS
   have h5:=hb.mS
   cases h4 with
   | nil=>cases h1
   | sl q1 q2 q3 q4 q5 q6 q7 =>
    rename_i k o n c es cs own e
    obtain ⟨e1,p1⟩:=mk (.sl q1 q2 q3 q4 q5 q6 q7:DR g O (.sl els f) (.slice (some ⟨k,o,none⟩) n c))
    obtain ⟨_,p2⟩:=mk h5
    show K7 (qo eP k o n j) _ _ _
    rw [mo ⟨h0,by omega⟩]
    exact ⟨_,_,rfl,h3,.d p1,.d p2⟩
  ·rename_i i aD o n c
   obtain ⟨h0,h1⟩:=hw
   rcases ha.iE with ⟨k,hk,rfl⟩|⟨rfl,rfl,rfl⟩
   ·rcases hb.iE with ⟨k2,hk2,hu⟩|⟨_,_,hu⟩
    ·simp only [Value.slice.injEq,Option.some.injEq,Addr.mk.injEq,and_true] at hu
     obtain rfl:=hu
     show K7 (qo eP k o n j) _ _ _
     rw [mo h0]
     exact ⟨_,_,rfl,h1,.ptr hk,.ptr hk2⟩
    ·cases hu
   ·omega
  ·exact hw.elim
 ·exact hw.elim
theorem HM {t:TypeId} {cs:List AV} {o:Nat} {u:Value} (ha:AR ρ g O (.pt cs o) u) (hb:AR ρ2 g2 O2 (.pt cs o) u) (hc:∀ k b,g2 k=some b→¬ O2 k→g k=some b) {K:AV→List AB→Prop} (hw:fT T t (.pt cs o) hp K) :
  K7 (iV T t u g) (K · hp) (AR ρ g O) (AR ρ2 g2 O2):=by
 unfold fT at hw
 split at hw
 ·rename_i cs0 o0 lU s bytes zero agg cI eP hpt hty
  cases hpt
  obtain ⟨k,d,cs',own,e,rfl,h1,h2,h3,h4⟩:=ha.dA.dA
  obtain ⟨k2,d2,cs2,own2,e2,hu,r1,r2,r3,r4⟩:=hb.dA.dA
  simp only [Value.pointer.injEq,Option.some.injEq,Addr.mk.injEq] at hu
  obtain ⟨rfl,hd,_⟩:=hu
  obtain rfl:d=d2:=by omega
  have:=hc _ _ r1 r2
  rw [h1] at this
  cases this
  unfold iV addr?
  simp only [h1,cells?,hty]
  unfold Cf at hw
  cases agg with
  | true =>
   obtain ⟨w1,w2⟩:=hw
   simp only [cond_true]
   rw [oV (by omega)]
   have mk:∀ {ρ:Nat→Nat→Option Nat} {g:aI} {O:Nat→Prop},(∀ (i:Nat) (a:AV) (u:Value),cs[i]?=some a→cs'[d+i]?=some u→DR g O a u)→AR ρ g O (.ag ((cs.drop o).take s)) (.agg ((cs'.drop (d+o)).take s).toArray):=by
    intro ρ g O h
    refine .d (.ag ?_ ?_)
    ·simp;omega
    ·intro i x u hx hu
     simp only [List.getElem?_take,List.getElem?_drop] at hx hu
     split at hx
     ·rw [if_pos (by assumption)] at hu
      exact h _ x u hx (by rw [←Nat.add_assoc];exact hu)
     ·cases hx
   exact ⟨_,_,rfl,w2,mk h4,mk r4⟩
  | false =>
   obtain ⟨v,w1,w2⟩:=hw
   have hlt:=(List.getElem?_eq_some_iff.1 w1).1
   have hcc:cs'[d+o]?=some (cs'[d+o]'(by omega)):=List.getElem?_eq_getElem _
   simp only [cond_false]
   rw [hcc]
   exact ⟨_,v,rfl,w2,.d (h4 o v _ w1 hcc),.d (r4 o v _ w1 hcc)⟩
 ·rename_i hpt _
  cases hpt
 ·exact hw.elim
theorem Cv {a:AV} {i:Nat} {u:Value} (ha:AR ρ g O a u) (hb:AR ρ2 g2 O2 a u) {K:AV→List AB→Prop} (hw:kK a i hp K):K7 (gC u i) (K · hp) (AR ρ g O) (AR ρ2 g2 O2):=by
 unfold kK at hw
 split at hw
 ·obtain ⟨v,h1,h2⟩:=hw
  obtain ⟨us,rfl,h3⟩:=ha.wS
  obtain ⟨us2,hu,h3'⟩:=hb.wS
  cases hu
  obtain ⟨x,h4,h5⟩:=h3.get h1
  unfold gC
  simp only [h4,Option.map_some]
  exact ⟨_,_,rfl,h2,h5,h3'.2 i v x h1 h4⟩
 ·exact hw.elim
theorem JM {a:AV} {u:Value} (ha:AR ρ g O a u) (hb:AR ρ2 g2 O2 a u) {K:AV→List AB→Prop} (hw:sO a hp K):K7 (jn u) (K · hp) (AR ρ g O) (AR ρ2 g2 O2):=by
 unfold sO at hw
 split at hw
 ·obtain ⟨k,d,cs',own,e,rfl,_⟩:=ha.dA.dA
  exact ⟨_,_,rfl,hw,ha,hb⟩
 ·obtain ⟨k,hk,rfl⟩:=ha.dV
  exact ⟨_,_,rfl,hw,ha,hb⟩
 ·exact hw.elim
def Cw (o:Op) (fr:Nat→AV):Option (List Operand) :=
 match o with
 | .move x=>some [x]
 | .assign x=>some [x]
 | .fieldAddr _ a _=>some [a]
 | .indexAddr _ a _=>some [a]
 | .extract x _=>some [x]
 | .nilCheck x=>some [x]
 | .load _ a=>match aQ fr a with
  | .pt ..=>some [a]
  | _=>none
 | _=>none
theorem Cx {own:Bool} {o:Op} {fr:Nat→AV} {tm:Tr Value} (hf:mP ρ g O fr tm) {xs:List Operand} (hm:Cw o fr=some xs) (hb:∀ x ∈ xs,AR ρ2 g2 O2 (aQ fr x) (bL tm x)) (hc:∀ k b,g2 k=some b→¬ O2 k→g k=some b)
  {n:Nat} {K:AV→List AB→Prop} (hw:wpOp T own o fr hp K):K7 (kV T n o (bL tm) g) (K · hp) (AR ρ g O) (AR ρ2 g2 O2):=by
 have ev:=fun x=>mQ hf x
 unfold Cw at hm
 split at hm
 ·cases hm;exact ⟨_,_,rfl,hw,ev _,hb _ (by simp)⟩
 ·cases hm;exact ⟨_,_,rfl,hw,ev _,hb _ (by simp)⟩
 ·cases hm;exact FZ (ev _) (hb _ (by simp)) hw
 ·cases hm;exact yJ (ev _) (hb _ (by simp)) (ev _) hw
 ·cases hm;exact Cv (ev _) (hb _ (by simp)) hw
 ·cases hm;exact JM (ev _) (hb _ (by simp)) hw
 ·split at hm
  ·rename_i t a _ cs oo hpt
   cases hm
   have e1:=ev a
   have e2:=hb a (by simp)
   rw [hpt] at e1 e2
   have hw:fT T t (aQ fr a) hp K:=hw
   rw [hpt] at hw
   exact HM e1 e2 hc hw
  ·cases hm
 ·cases hm
structure Acc where
 own:Option Nat
 b:Nat
 wr:Bool
structure rq where
 i:Nat
 acc:List Acc
 al:Bool
 call:Bool
def wZ (v:AV) (b:Nat) (wr:Bool):Option (List Acc) :=
 match v with
 | .pt ..|.sl ..=>some [⟨none,b,wr⟩]
 | .ptr j _ _|.bX j _ _ _ _|.om j=>some [⟨some j,b,wr⟩]
 | .fl _|.ag _|.tp _|.fn ..=>some []
 | _=>none
def HN (o:Op) (fr:Nat→AV) (br:Operand→Nat):Option (List Acc) :=
 match o with
 | .load _ a=>wZ (aQ fr a) (br a) false
 | .store _ a _=>wZ (aQ fr a) (br a) true
 | .call ⟨.builtin .append,args,_⟩=>match args.toList with
  | [s,x]=>match wZ (aQ fr x) (br x) false,wZ (aQ fr s) (br s) true with
   | some l,some m=>some (l++m)
   | _,_=>none
  | _=>none
 | .call ⟨.builtin .len,args,_⟩=>match args.toList with
  | [x]=>wZ (aQ fr x) (br x) false
  | _=>none
 | .lookup _ m _ _=>wZ (aQ fr m) (br m) false
 | .mapEntry _ m _=>wZ (aQ fr m) (br m) true
 | .entryStore _ m _ _=>wZ (aQ fr m) (br m) true
 | .range ..|.next ..|.entry ..|.mapUpdate ..=>none
 | _=>some []
def news? (o:Op):Bool :=
 match o with
 | .move _|.assign _|.pick ..|.load ..|.store ..|.fieldAddr ..|.indexAddr ..|.index ..|.field ..|.binOp ..|.unOp ..|.convert ..|.makeInterface ..|.extract ..|.build ..|.makeFunc ..|.nilCheck ..|.slice ..|.lookup ..|.mapEntry ..|.entryStore ..=>false
 | .call ⟨.builtin .append,_,_⟩=>true
 | .call ⟨.builtin _,_,_⟩=>false
 | _=>true
theorem DH {o:Option Value} {v:Value} {e:cK} (h:cE o=some (v,e)):e.news=false:=by obtain ⟨_,_,rfl⟩:=qS h;rfl
theorem map_none {o:Option Value} {v:Value} {e:cK} (h:(o.map fun v=>(v,cK.none))=some (v,e)):e.news=false:=by
 simp only [Option.map_eq_some_iff] at h
 obtain ⟨_,_,q⟩:=h
 cases q;rfl
theorem i5 {c:Bool} {o:Option Value} {v:Value} {e:cK} (h:(bif c then cE o else none)=some (v,e)):e.news=false:=by
 cases c with
 | true=>exact DH h
 | false=>cases h
theorem Cy {n:Nat} {o:Op} {r:Operand→Value} {v:Value} {e:cK} (h:kV T n o r g=some (v,e)) (hn:news? o=false):e.news=false:=by
 have bin:∀ {o:BinOp} {t:TypeId} {x y:Operand} {a b:Value},hU T.P o t x y a b=some (v,e)→e.news=false:=by
  intro o t x y a b h
  have slow:fk T.P o t x y a b=some (v,e)→e.news=false:=fun h=>by unfold fk at h;exact i5 h
  unfold hU at h
  split at h
  ·split at h
   ·cases h;rfl
   ·exact slow h
  ·exact slow h
 cases o <;> first
  | (simp only [news?,Bool.true_eq_false] at hn;done)
  | skip
 case move x=>simp only [kV] at h;cases h;rfl
 case assign x=>simp only [kV] at h;cases h;rfl
 case build t parts =>
  simp only [kV] at h
  unfold qR at h
  split at h
  ·rename_i lU sz by' z cI eP _
   cases hz:z.cells.toList.all bF with
   | true =>
    rw [hz] at h
    simp only [cond_true,Option.map_eq_some_iff] at h
    obtain ⟨_,_,q⟩:=h
    cases q
    rfl
   | false=>rw [hz] at h;cases h
  ·cases h
 case pick c a b =>
  simp only [kV] at h
  unfold uF at h
  split at h
  ·cases h;rfl
  ·cases h
 case load t a =>
  simp only [kV] at h
  unfold iV at h
  split at h
  ·split at h
   ·rename_i cs own es lU s bytes zero agg cI eP _ _
    cases agg
    ·exact map_none h
    ·simp only [cond_true,Option.map_eq_some_iff] at h
     obtain ⟨_,_,q⟩:=h
     cases q;rfl
   ·cases h
  ·cases h
 case store t a x =>
  simp only [kV] at h
  unfold kS at h
  split at h
  ·split at h
   ·rename_i cs own es _ _ _ _ _ _ _ _ _
    revert h
    cases (own && Nat.beq (r x).cells.toList.length _ && _ && (r x).cells.toList.all bQ) <;> intro h
    ·cases h
    ·cases h;rfl
   ·cases h
  ·cases h
 case fieldAddr t a i =>
  simp only [kV] at h
  unfold eA at h
  split at h
  ·split at h
   ·rename_i off s _
    cases hb:Nat.ble 1 s <;> rw [hb] at h <;> cases h
    rfl
   ·cases h
  ·cases h
 case indexAddr t a ix =>
  simp only [kV] at h
  have idx:∀ {a b c:Nat} {j:Int},qo a b c n j=some (v,e)→e.news=false:=by
   intro a b c j h
   unfold qo at h
   cases hb:(G3 0 j && FA j (.ofNat n)) <;> rw [hb] at h <;> cases h
   rfl
  have idx:∀ {a b c d:Nat} {j:Int},qo a b c d j=some (v,e)→e.news=false:=by
   intro a b c d j h
   unfold qo at h
   cases hb:(G3 0 j && FA j (.ofNat d)) <;> rw [hb] at h <;> cases h
   rfl
  unfold eD at h
  split at h
  ·split at h
   ·exact idx h
   ·cases h
  ·split at h
   ·exact idx h
   ·cases h
  ·cases h
 case index t a ix=>simp only [kV] at h;exact i5 h
 case field t a i=>simp only [kV] at h;exact i5 h
 case binOp o t x y p=>simp only [kV] at h;exact bin h
 case unOp o t x=>simp only [kV] at h;exact i5 h
 case convert s d x=>simp only [kV] at h;exact i5 h
 case makeInterface t x=>simp only [kV] at h;exact i5 h
 case extract x i =>
  simp only [kV] at h
  unfold gC at h
  split at h
  ·exact map_none h
  ·cases h
 case lookup t m k ok=>simp only [kV] at h;exact map_none h
 case mapEntry t m k =>
  simp only [kV] at h
  unfold fq at h
  split at h
  ·split at h
   ·unfold mY at h
    split at h
    ·split at h
     ·rename_i e _
      cases hb:Instr.sameBits 10000 e.key (r k) <;> rw [hb] at h <;> cases h
      rfl
     ·cases h
    ·rename_i z _ _
     cases hb:flat z <;> rw [hb] at h <;> cases h
     rfl
    ·cases h
   ·cases h
  ·cases h
 case entryStore t m s x =>
  simp only [kV,Option.map_eq_some_iff] at h
  obtain ⟨e',h1,h2⟩:=h
  cases h2
  unfold dH at h1
  split at h1
  ·split at h1
   ·split at h1
    ·cases h1;rfl
    ·cases h1
   ·cases h1
  ·cases h1
 case makeFunc f a b =>
  simp only [kV] at h
  unfold mZ at h
  split at h
  ·cases h;rfl
  ·cases h
 case nilCheck x =>
  simp only [kV] at h
  unfold jn at h
  split at h
  ·cases h;rfl
  ·cases h
 case slice t x lo hi mx =>
  cases mx with
  | some _=>simp [kV] at h
  | none =>
   simp only [kV] at h
   unfold iw at h
   split at h
   ·exact i5 h
   ·exact map_none h
 case call c =>
  obtain ⟨ce,args,tys⟩:=c
  cases ce with
  | builtin b =>
   have h:iW T n b (args.toList.map r) tys.toList g=some (v,e):=h
   unfold iW at h
   cases b <;> first|(simp [news?] at hn;done)|skip
   all_goals first|(simp at h;done)|skip
   case len =>
    simp only at h
    split at h
    ·unfold kU at h
     repeat' split at h
     all_goals first|(simp only [Option.some.injEq,Prod.mk.injEq] at h;obtain ⟨_,rfl⟩:=h;rfl)|(simp at h;done)
    ·simp at h
   case min =>
    simp only at h
    unfold z5 at h
    split at h
    ·simp only [Option.some.injEq,Prod.mk.injEq] at h;obtain ⟨_,rfl⟩:=h;rfl
    ·exact i5 h
   case max =>
    simp only at h
    unfold z6 at h
    split at h
    ·simp only [Option.some.injEq,Prod.mk.injEq] at h;obtain ⟨_,rfl⟩:=h;rfl
    ·exact i5 h
  | _=>simp [kV,Bu] at h
end
end Go.RM
namespace Go.RM
open Go
section
variable {T : cr} {tab : List XE} {one : Bool} {fl base : Nat} {E E' E2 : Env} {hp hp' hp2 : List AB} {aJ amb' : bN} {H H' H2 : Hp} {ρ ρ2 : Nat → Nat → Option Nat} {g g2 : aI} {O O2 : Nat → Prop}
structure fJ where
 E:Env
 hp:List AB
 H:Hp
abbrev fJ.ar (z:fJ):AV→Value→Prop:=AR z.E.ρ z.H.get (z.E.O z.hp)
structure ua (base:Nat) (aJ:bN) (tr:Nat→fJ) (i:Nat):Prop where
 rel:∀ b,b≤i→aY (tr b).E base (tr b).hp aJ (tr b).H
 ext:∀ b c,b≤c→c≤i→Ext base (tr b).E (tr b).hp (tr b).H (tr c).E (tr c).hp (tr c).H
def snoc (tr:Nat→fJ) (i:Nat) (z:fJ):Nat→fJ:=fun b=>if b≤i then tr b else z
theorem cP {tr:Nat→fJ} {i:Nat} {z:fJ} {b:Nat} (h:b≤i):snoc tr i z b=tr b:=if_pos h
theorem cH {tr:Nat→fJ} {i:Nat} {z:fJ} {b:Nat} (h:i < b):snoc tr i z b=z:=if_neg (by omega)
theorem ua.snoc {tr:Nat→fJ} {i:Nat} {z:fJ} (h:ua base aJ tr i) (hz:aY z.E base z.hp aJ z.H) (he:Ext base (tr i).E (tr i).hp (tr i).H z.E z.hp z.H):ua base aJ (snoc tr i z) (i+1):=by
 refine ⟨fun b hb=>?_,fun b c hbc hc=>?_⟩
 ·by_cases hbi:b≤i
  ·rw [cP hbi];exact h.rel b hbi
  ·rw [cH (by omega)];exact hz
 ·by_cases hci:c≤i
  ·rw [cP hci,cP (by omega)];exact h.ext b c hbc hci
  ·rw [cH (by omega:i < c)]
   by_cases hbi:b≤i
   ·rw [cP hbi];exact (h.ext b i hbi (Nat.le_refl _)).trans he
   ·rw [cH (by omega)];exact .refl
def jO (tr:Nat→fJ) (i:Nat) (p:Acc) (k:Nat):Prop :=
 p.b≤i∧k < (tr p.b).H.n∧match p.own with
  | some j=>∃ aD,(tr i).E.ρ j aD=some k∧(p.wr=true→Own (tr i).E.ρ (tr i).hp k)
  | none=>¬ (tr p.b).E.O (tr p.b).hp k
structure Jz (tr:Nat→fJ) (x:rq) (t:Tc):Prop where
 idx:t.idx=x.i
 a:t.a=(tr x.i).H.n
 b:t.b=(tr (x.i+1)).H.n
 al:x.al=false→x.call=false→t.a=t.b
 call:t.call=x.call
 rd:∀ k ∈ t.rd,∃ p ∈ x.acc,p.wr=false∧jO tr x.i p k
 wr:∀ k ∈ t.wr,∃ p ∈ x.acc,p.wr=true∧jO tr x.i p k
theorem jO.snoc {tr:Nat→fJ} {i i0:Nat} {z:fJ} {p:Acc} {k:Nat} (h:jO tr i0 p k) (hi:i0≤i):jO (snoc tr i z) i0 p k:=by
 obtain ⟨h1,h2,h3⟩:=h
 refine ⟨h1,by rw [cP (by omega)];exact h2,?_⟩
 rw [cP hi,cP (by omega)]
 exact h3
theorem Jz.snoc {tr:Nat→fJ} {i:Nat} {z:fJ} {x:rq} {t:Tc} (h:Jz tr x t) (hi:x.i < i):Jz (snoc tr i z) x t :=
 ⟨h.idx,by rw [cP (by omega)];exact h.a,by rw [cP (by omega)];exact h.b,h.al,h.call,
  fun k hk=>by obtain ⟨p,a,b,c⟩:=h.rd k hk;exact ⟨p,a,b,c.snoc (by omega)⟩,fun k hk=>by obtain ⟨p,a,b,c⟩:=h.wr k hk;exact ⟨p,a,b,c.snoc (by omega)⟩⟩
def AL (i:Nat) (p q:Acc):Bool :=
 (!p.wr && !q.wr) || (match p.own,q.own with
  | some j,some j'=>!Nat.beq j j'
  | some _,none=>p.wr && Nat.ble q.b i
  | none,some _=>!p.wr
  | none,none=>false)
def AM (x y:rq):Bool :=
 x.acc.all (fun p=>y.acc.all (AL x.i p)) && ((!x.al && !x.call) || y.acc.all (fun q=>Nat.ble q.b x.i)) && (!x.call || y.acc.all (fun q=>!q.wr)) && (!y.call || x.acc.all (fun p=>!p.wr))
def jB (b:List Nat):List rq→Bool
 | []=>true
 | y :: l=>l.all (fun x=>(b.getD y.i 0).testBit x.i || AM x y) && jB b l
theorem DI {tr:Nat→fJ} {n:Nat} (ht:ua base aJ tr n) {i l:Nat} (hil:i < l) (hl:l≤n) {p q:Acc} {k:Nat} (hp:jO tr i p k) (hq:jO tr l q k) (hw:p.wr=true∨q.wr=true) (hf:AL i p q=true):False:=by
 obtain ⟨p1,p2,p3⟩:=hp
 obtain ⟨q1,q2,q3⟩:=hq
 have eil:=ht.ext i l (by omega) hl
 have back:∀ {b c:Nat},b≤c→c≤n→Own (tr c).E.ρ (tr c).hp k→k < (tr b).H.n→Own (tr b).E.ρ (tr b).hp k:=fun hbc hcn ho hk=>((ht.ext _ _ hbc hcn).own k ho).elim id (fun h=>by omega)
 unfold AL at hf
 rw [Bool.or_eq_true] at hf
 rcases hf with hf|hf
 ·simp only [Bool.and_eq_true,Bool.not_eq_true'] at hf
  rcases hw with h|h
  ·rw [hf.1] at h;cases h
  ·rw [hf.2] at h;cases h
 ·cases hpo:p.own with
  | some j =>
   rw [hpo] at hf p3
   obtain ⟨aD,r1,r2⟩:=p3
   cases hqo:q.own with
   | some j' =>
    rw [hqo] at hf q3
    obtain ⟨ver',s1,s2⟩:=q3
    have:=(ht.rel l hl).inj j j' aD ver' k (eil.Ce _ _ _ r1) s1
    subst this
    simp only [nY,Bool.not_true] at hf
    cases hf
   | none =>
    rw [hqo] at hf q3
    simp only [Bool.and_eq_true] at hf
    have hb:=Nat.le_of_ble_eq_true hf.2
    exact q3 (.inl (back hb (by omega) (r2 hf.1) q2))
  | none =>
   rw [hpo] at hf p3
   cases hqo:q.own with
   | some j' =>
    rw [hqo] at hf q3
    simp only [Bool.not_eq_true'] at hf
    obtain ⟨ver',s1,s2⟩:=q3
    have hqw:q.wr=true:=by
     rcases hw with h|h
     ·rw [hf] at h;cases h
     ·exact h
    exact p3 (.inl (back (by omega) hl (s2 hqw) p2))
   | none=>rw [hqo] at hf;cases hf
theorem F0 {tr:Nat→fJ} {n:Nat} (ht:ua base aJ tr n) {x y:rq} {s t:Tc} (hs:Jz tr x s) (hy:Jz tr y t) (hxy:x.i < y.i) (hn:y.i≤n) (hf:AM x y=true):conflict s t=false:=by
 cases hc:conflict s t with
 | false=>rfl
 | true =>
  exfalso
  unfold AM at hf
  simp only [Bool.and_eq_true,List.all_eq_true,Bool.or_eq_true,Bool.not_eq_true'] at hf
  obtain ⟨⟨⟨f1,f2⟩,f3⟩,f4⟩:=hf
  have two:∀ {k:Nat} {p q:Acc},p ∈ x.acc→q ∈ y.acc→jO tr x.i p k→jO tr y.i q k→(p.wr=true∨q.wr=true)→False:=fun hp hq ap aq hw=>DI ht hxy hn ap aq hw (f1 _ hp _ hq)
  have inn:∀ {k:Nat} {q:Acc},q ∈ y.acc→jO tr y.i q k→s.a≤k→k < s.b→False:=by
   intro k q hq aq h1 h2
   rcases f2 with h|h
   ·have:=hs.al h.1 h.2;omega
   ·have:=Nat.le_of_ble_eq_true (h q hq)
    have:=(ht.ext q.b x.i this (by omega)).n
    have:=aq.2.1
    rw [hs.a] at h1
    omega
  have out:∀ {k:Nat} {p:Acc},jO tr x.i p k→t.a≤k→False:=by
   intro k p ap h1
   have:=(ht.ext p.b x.i ap.1 (by omega)).n
   have:=(ht.ext x.i y.i (by omega) hn).n
   have:=ap.2.1
   rw [hy.a] at h1
   omega
  unfold conflict at hc
  simp only [Bool.or_eq_true,Bool.and_eq_true,Bool.not_eq_true'] at hc
  rcases hc with (((((((hc|hc)|hc)|hc)|hc)|hc)|hc)|hc)|hc
  ·obtain ⟨k,k1,k2⟩:=nc.1 hc
   obtain ⟨p,p1,p2,p3⟩:=hs.wr k k1
   obtain ⟨q,q1,q2,q3⟩:=hy.rd k k2
   exact two p1 q1 p3 q3 (.inl p2)
  ·obtain ⟨k,k1,k2⟩:=nc.1 hc
   obtain ⟨p,p1,p2,p3⟩:=hs.wr k k1
   obtain ⟨q,q1,q2,q3⟩:=hy.wr k k2
   exact two p1 q1 p3 q3 (.inl p2)
  ·obtain ⟨k,k1,k2⟩:=nc.1 hc
   obtain ⟨q,q1,q2,q3⟩:=hy.wr k k1
   obtain ⟨p,p1,p2,p3⟩:=hs.rd k k2
   exact two p1 q1 p3 q3 (.inr q2)
  ·rw [hs.call] at hc
   cases hw:t.wr with
   | nil=>rw [hw] at hc;simp at hc
   | cons k l =>
    obtain ⟨q,q1,q2,q3⟩:=hy.wr k (by rw [hw];simp)
    rcases f3 with h|h
    ·rw [hc.1] at h;cases h
    ·rw [h q q1] at q2;cases q2
  ·rw [hy.call] at hc
   cases hw:s.wr with
   | nil=>rw [hw] at hc;simp at hc
   | cons k l =>
    obtain ⟨p,p1,p2,p3⟩:=hs.wr k (by rw [hw];simp)
    rcases f4 with h|h
    ·rw [hc.1] at h;cases h
    ·rw [h p p1] at p2;cases p2
  ·obtain ⟨k,k1,k2,k3⟩:=within_iff.1 hc
   obtain ⟨q,q1,q2,q3⟩:=hy.rd k k1
   exact inn q1 q3 k2 k3
  ·obtain ⟨k,k1,k2,k3⟩:=within_iff.1 hc
   obtain ⟨q,q1,q2,q3⟩:=hy.wr k k1
   exact inn q1 q3 k2 k3
  ·obtain ⟨k,k1,k2,k3⟩:=within_iff.1 hc
   obtain ⟨p,p1,p2,p3⟩:=hs.rd k k1
   exact out p3 k2
  ·obtain ⟨k,k1,k2,k3⟩:=within_iff.1 hc
   obtain ⟨p,p1,p2,p3⟩:=hs.wr k k1
   exact out p3 k2
inductive qq (tr:Nat→fJ):Nat→List rq→List Ev→Prop
 | nil:qq tr 0 [] []
 | cons {i:Nat} {x:rq} {ev:Ev} {l:List rq} {m:List Ev}:qq tr i l m→x.i=i→Jz tr x ev.t→qq tr (i+1) (x :: l) (ev :: m)
theorem qq.lt {tr:Nat→fJ} {i:Nat} {l:List rq} {m:List Ev} (h:qq tr i l m):∀ x ∈ l,x.i < i:=by
 induction h with
 | nil=>intro x hx;cases hx
 | cons _ hi _ ih =>
  intro y hy
  rcases List.mem_cons.1 hy with rfl|hy
  ·omega
  ·have:=ih y hy;omega
theorem qq.snoc {tr:Nat→fJ} {i:Nat} {z:fJ} {l:List rq} {m:List Ev}:∀ {j:Nat},qq tr j l m→j≤i→qq (snoc tr i z) j l m:=by
 intro j h
 induction h with
 | nil=>intro _;exact .nil
 | cons _ hi he ih=>intro hj;exact .cons (ih (by omega)) hi (he.snoc (by omega))
theorem qq.pairs {tr:Nat→fJ} {n:Nat} (ht:ua base aJ tr n) {b:List Nat} {i:Nat} {l:List rq} {m:List Ev} (h:qq tr i l m):i≤n→jB b l=true→fP T b m=true:=by
 induction h with
 | nil=>intro _ _;rfl
 | cons hl hi he ih =>
  rename_i i y ev l m
  intro hn hc
  simp only [jB,Bool.and_eq_true,List.all_eq_true] at hc
  simp only [fP,Bool.and_eq_true,List.all_eq_true]
  refine ⟨?_,ih (by omega) hc.2⟩
  have hc1:=hc.1
  clear ih hc
  have key:∀ {j:Nat} {l:List rq} {m:List Ev},qq tr j l m→(∀ x ∈ l,(b.getD y.i 0).testBit x.i=true∨AM x y=true)→j≤y.i→∀ s ∈ m,(!conflict s.t ev.t || (b.getD ev.t.idx 0).testBit s.t.idx || spare T s ev)=true:=by
   intro j l m h
   induction h with
   | nil=>intro _ _ s hs;cases hs
   | cons hl' hi' he' ih' =>
    rename_i x ev' _ _
    intro hx hj s hs
    rcases List.mem_cons.1 hs with rfl|hs
    ·rcases hx x (by simp) with h|h
     ·rw [he.idx,he'.idx,h];simp
     ·rw [F0 ht he' he (by omega) (by omega) h];simp
    ·exact ih' (fun z hz=>hx z (List.mem_cons_of_mem _ hz)) (by omega) s hs
  exact key hl (fun x hx=>by simpa using hc1 x hx) (by omega)
def nq (dst:Option Tmp) (bt:Nat→Nat) (b:Nat):Nat→Nat :=
 match dst with
 | some d=>fun t=>bif Nat.beq t d then b else bt t
 | none=>bt
def AN (bt:Nat→Nat):Operand→Nat
 | .tmp t=>bt t
 | _=>0
def qI (o:Op) (fr:Nat→AV) (bt:Nat→Nat) (i:Nat):Nat :=
 match Cw o fr with
 | some [x]=>AN bt x
 | _=>i+1
def ej (v:AV):Prop:=v.deep=true∧∀ (g:aI) (O O':Nat→Prop) (u:Value),DR g O v u→DR g O' v u
def Handed (hp:List AB) (as vs:List AV) (v:AV):Prop:=(vs=as∧bw as=true)∨(rM hp as vs∧ej v)
theorem EE {F:AV} {as:List AV} {hp:List AB} {T:cr} {tab:List XE} {P:AV→Prop} (hF:F.deep=true) (ha:bw as=true) (h:∃ v,af T tab true F as v∧P v):F.deep=true∧∃ vs v,Handed hp as vs v∧af T tab true F vs v∧P v:=by
 obtain ⟨v,h1,h2⟩:=h
 exact ⟨hF,as,v,.inl ⟨rfl,ha⟩,h1,h2⟩
def eG (T:cr) (tab:List XE) (mu:Tmp→Bool) (dst:Option Tmp) (op:Op) (i:Nat) (bt:Nat→Nat) (fr:Nat→AV) (hp:List AB) (K:(Nat→AV)→List AB→(Nat→Nat)→rq→Prop):Prop :=
 match fc op with
 | .call f args=>force (NI T.P fr f) fun F=>fh (args.map (aQ fr)) fun as=>F.deep=true∧∃ vs v,Handed hp as vs v∧af T tab true F vs v∧gX dst fr v fun fr'=>K fr' hp (nq dst bt (i+1)) ⟨i,[],true,true⟩
 | .next _=>False
 | .plain=>∃ a,HN op fr (AN bt)=some a∧wpOp T (JI mu dst) op fr hp fun v hp'=>force v fun v=>gX dst fr v fun fr'=>K fr' hp' (nq dst bt (qI op fr bt i)) ⟨i,a,news? op,false⟩
def jU (T:cr) (tab:List XE) (mu:Tmp→Bool) (ops:Array Oper):List Oper→Nat→(Nat→Nat)→List rq→cy→(cy→Prop)→Prop
 | [],_,_,acc,st,K=>jB (iq ops) acc=true∧K st
 | ⟨dst,op,_,_,_,gd⟩ :: l,i,bt,acc,⟨fr,hp,aJ,rd,fl⟩,K =>
  cC ops.toList gd fr (eG T tab mu dst op i bt fr hp fun fr' hp' bt' x=>jU T tab mu ops l (i+1) bt' (x :: acc) ⟨fr',hp',aJ,rd,fl⟩ K)
   (gX dst fr (.tp []) fun fr'=>jU T tab mu ops l (i+1) (nq dst bt 0) (⟨i,[],false,false⟩ :: acc) ⟨fr',hp,aJ,rd,fl⟩ K)
def jC (tr:Nat→fJ) (i:Nat) (bt:Nat→Nat) (fr:Nat→AV) (tm:Tr Value):Prop:=∀ t,bt t≤i∧(tr (bt t)).ar (fr t) ((tm.get t).getD undef)
theorem jC.put {tr:Nat→fJ} {i:Nat} {bt:Nat→Nat} {fr:Nat→AV} {tm:Tr Value} {z:fJ} (h:jC tr i bt fr tm) {b:Nat} {v:AV} {u:Value} (hb:b≤i+1) (hv:(snoc tr i z b).ar v u) (d:Option Tmp):jC (snoc tr i z) (i+1) (nq d bt b) (AJ fr d v) (fY tm d u):=by
 intro t
 have old:bt t≤i+1∧(snoc tr i z (bt t)).ar (fr t) ((tm.get t).getD undef):=⟨by have:=(h t).1;omega,by rw [cP (h t).1];exact (h t).2⟩
 cases d with
 | none=>exact old
 | some d =>
  show (bif Nat.beq t d then b else bt t)≤_∧(snoc tr i z (bif Nat.beq t d then b else bt t)).ar (bif Nat.beq t d then v else fr t) (((tm.set d u).get t).getD undef)
  rw [Tr.jA,Tr.beq_eq]
  by_cases htd:t=d
  ·rw [if_pos htd,decide_eq_true htd];exact ⟨hb,hv⟩
  ·rw [if_neg htd,decide_eq_false htd];exact old
theorem jC.eval {tr:Nat→fJ} {i:Nat} {bt:Nat→Nat} {fr:Nat→AV} {tm:Tr Value} (h:jC tr i bt fr tm) (x:Operand):AN bt x≤i∧(tr (AN bt x)).ar (aQ fr x) (bL tm x):=by
 cases x with
 | tmp t=>exact h t
 | const v =>
  refine ⟨Nat.zero_le _,?_⟩
  show (tr 0).ar (bif flat v then sL v else .cv) v
  cases hf:flat v with
  | true=>exact mj hf
  | false=>exact .cv
 | func f=>exact ⟨Nat.zero_le _,.fn rfl rfl (fun i x u hx=>by cases hx) (fun i x u hx=>by cases hx)⟩
 | global g=>exact ⟨Nat.zero_le _,.cv⟩
theorem sX {tr:Nat→fJ} {i:Nat} (ht:ua base aJ tr i) {v:AV} {u:Value} {b:Nat} {wr:Bool} {l:List Acc} (h:wZ v b wr=some l) (hb:b≤i) (hv:(tr b).ar v u) (hi:(tr i).ar v u)
  (hw:wr=true→∀ j aD o,(v=.ptr j aD o∨∃ n c,v=.bX j aD o n c)→∃ cs es,(tr i).hp[j]?=some (.cells cs es aD)) (hom:wr=true→∀ j,v=.om j→∃ b,(tr i).hp[j]?=some b∧b.ver?=some 0) :
  ∀ k ∈ dw u,∃ p ∈ l,p.wr=wr∧jO tr i p k:=by
 have deepk:∀ {k:Nat} {x:bE},(tr b).H.get k=some x→¬ (tr b).E.O (tr b).hp k→jO tr i ⟨none,b,wr⟩ k:=fun h1 h2=>⟨hb,(ht.rel b hb).wf.lt h1,h2⟩
 have ownk:∀ {j aD k:Nat},(tr b).E.ρ j aD=some k→(wr=true→∃ b,(tr i).hp[j]?=some b∧b.ver?=some aD)→jO tr i ⟨some j,b,wr⟩ k:=by
  intro j aD k h1 h2
  have h3:=(ht.ext b i hb (Nat.le_refl _)).Ce _ _ _ h1
  refine ⟨hb,(ht.rel b hb).rn _ _ _ h1,aD,h3,fun hwr=>?_⟩
  obtain ⟨x,hc,hx⟩:=h2 hwr
  exact ⟨j,x,aD,hc,hx,h3⟩
 intro k hk
 unfold wZ at h
 split at h
 ·cases h
  obtain ⟨k',d,cs,own,e,rfl,q1,q2,_⟩:=hv.dA.dA
  obtain rfl:k=k':=by simpa [dw] using hk
  exact ⟨_,by simp,rfl,deepk q1 q2⟩
 ·cases h
  cases hv.mS with
  | nil=>simp [dw] at hk
  | sl q1 q2 =>
   rename_i k' o' n' c' es' cs' own' e' _ _ _ _ _
   obtain rfl:k=k':=by simpa [dw] using hk
   exact ⟨_,by simp,rfl,deepk q1 q2⟩
 ·rename_i j aD o
  cases h
  obtain ⟨k',hk',rfl⟩:=hv.dV
  obtain rfl:k=k':=by simpa [dw] using hk
  exact ⟨_,by simp,rfl,ownk hk' fun hwr=>(let ⟨_,_,h⟩:=hw hwr j aD o (.inl rfl);⟨_,h,rfl⟩)⟩
 ·rename_i j aD o n c
  cases h
  rcases hv.iE with ⟨k',hk',rfl⟩|⟨_,_,rfl⟩
  ·obtain rfl:k=k':=by simpa [dw] using hk
   exact ⟨_,by simp,rfl,ownk hk' fun hwr=>(let ⟨_,_,h⟩:=hw hwr j aD o (.inr ⟨n,c,rfl⟩);⟨_,h,rfl⟩)⟩
  ·simp [dw] at hk
 ·rename_i j
  cases h
  obtain ⟨k',hk',rfl⟩:=hv.qZ
  obtain rfl:k=k':=by simpa [dw] using hk
  exact ⟨_,by simp,rfl,ownk hk' fun hwr=>hom hwr j rfl⟩
 ·exfalso
  obtain ⟨rfl,hf⟩:=hv.iH
  revert hk
  unfold dw
  split
  ·simp [bF] at hf
  ·simp [bF] at hf
  ·simp [bF] at hf
  ·simp
 ·exfalso
  cases hv with
  | d h=>cases h with
   | ag=>simp [dw] at hk
  | ag=>simp [dw] at hk
 ·exfalso
  obtain ⟨us,rfl,_⟩:=hv.wS
  simp [dw] at hk
 ·exfalso
  cases hv with
  | d h=>cases h with
   | fn=>simp [dw] at hk
  | fn=>simp [dw] at hk
 ·cases h
theorem zj {e:cK} (h:e.news=false):(H.app e).n=H.n:=by cases e <;> first|rfl|cases h
theorem DJ {t:TypeId} {a x:AV} {K:AV→List AB→Prop} (hw:dW T t a x hp K) {j aD o:Nat} (h:a=.ptr j aD o∨∃ n c,a=.bX j aD o n c):∃ cs es,hp[j]?=some (.cells cs es aD):=by
 unfold dW at hw
 split at hw
 ·obtain ⟨cs,es,h1,_⟩:=hw
  rcases h with h|⟨n,c,h⟩
  ·cases h;exact ⟨cs,es,h1⟩
  ·cases h
 ·exact hw.elim
theorem HO {own:Bool} {t:TypeId} {a x:AV} {K:AV→List AB→Prop} (hw:jM T own t a x hp K) {j aD o:Nat} (h:a=.ptr j aD o∨∃ n c,a=.bX j aD o n c):∃ cs es,hp[j]?=some (.cells cs es aD):=by
 unfold jM at hw
 split at hw
 ·obtain ⟨_,els,_,_,hw⟩:=hw
  split at hw
  ·rcases h with h|⟨n,c,h⟩ <;> cases h
  ·rcases h with h|⟨n,c,h⟩ <;> cases h
  ·obtain ⟨cs,h1,_⟩:=hw
   rcases h with h|⟨n,c,h⟩
   ·cases h
   ·cases h;exact ⟨cs,_,h1⟩
  ·exact hw.elim
 ·exact hw.elim
theorem HP {t:TypeId} {a x:AV} {K:AV→List AB→Prop} (hw:dW T t a x hp K) (j:Nat):a ≠ .om j:=fun h=>by
 subst h
 unfold dW at hw
 exact hw.elim
theorem LF {own:Bool} {t:TypeId} {a x:AV} {K:AV→List AB→Prop} (hw:jM T own t a x hp K) (j:Nat):a ≠ .om j:=fun h=>by
 subst h
 unfold jM at hw
 split at hw
 ·obtain ⟨_,els,_,_,hw⟩:=hw
  exact hw.elim
 ·exact hw.elim
theorem DK {t:TypeId} {m k:AV} {K:AV→List AB→Prop} (hw:iI T t m k hp K) {j:Nat} (h:m=.om j):∃ b,hp[j]?=some b∧b.ver?=some 0:=by
 subst h
 obtain ⟨ents,clock,_,_,_,_,_,h1,_⟩:=hw
 exact ⟨_,h1,rfl⟩
theorem F2 {t:TypeId} {m k:AV} {K:AV→List AB→Prop} (hw:iI T t m k hp K) {j aD o:Nat} (h:m=.ptr j aD o∨∃ n c,m=.bX j aD o n c):False:=by
 rcases h with rfl|⟨n,c,rfl⟩ <;> exact hw
theorem Cz {m s v:AV} {K:AV→List AB→Prop} (hw:fU m s v hp K) {j:Nat} (h:m=.om j):∃ b,hp[j]?=some b∧b.ver?=some 0:=by
 subst h
 obtain ⟨ents,clock,_,_,_,h1,_⟩:=hw
 exact ⟨_,h1,rfl⟩
theorem DL {m s v:AV} {K:AV→List AB→Prop} (hw:fU m s v hp K) {j aD o:Nat} (h:m=.ptr j aD o∨∃ n c,m=.bX j aD o n c):False:=by
 rcases h with rfl|⟨n,c,rfl⟩ <;> exact hw
theorem EF {tr:Nat→fJ} {i:Nat} (ht:ua base aJ tr i) {bt:Nat→Nat} {fr:Nat→AV} {tm:Tr Value} (hb:jC tr i bt fr tm) {own:Bool} {o:Op} {l:List Acc} (h:HN o fr (AN bt)=some l)
  {K:AV→List AB→Prop} (hw:wpOp T own o fr (tr i).hp K):∃ r w,qw o (bL tm)=some (r,w)∧(∀ k ∈ r,∃ p ∈ l,p.wr=false∧jO tr i p k)∧(∀ k ∈ w,∃ p ∈ l,p.wr=true∧jO tr i p k):=by
 have now:∀ x,(tr i).ar (aQ fr x) (bL tm x):=fun x=>(ht.ext _ i (hb.eval x).1 (Nat.le_refl _)).ar (ht.rel _ (hb.eval x).1).wf (hb.eval x).2
 have rd:∀ {x:Operand} {l:List Acc},wZ (aQ fr x) (AN bt x) false=some l→∀ k ∈ dw (bL tm x),∃ p ∈ l,p.wr=false∧jO tr i p k :=
  fun {x l} h=>sX ht h (hb.eval x).1 (hb.eval x).2 (now x) (fun h=>Bool.noConfusion h) (fun h=>Bool.noConfusion h)
 have nil:∀ (Q:Nat→Prop),∀ k ∈ ([]:List Nat),Q k:=fun Q k hk=>by cases hk
 unfold HN at h
 split at h
 ·exact ⟨_,_,rfl,rd h,nil _⟩
 ·rename_i t a x
  exact ⟨_,_,rfl,nil _,sX ht h (hb.eval a).1 (hb.eval a).2 (now a) (fun _ j aD o hj=>DJ (show dW T t (aQ fr a) (aQ fr x) (tr i).hp K from cU (K:=fun v=>dW T t (aQ fr a) v (tr i).hp K) hw) hj) (fun _ j he=>absurd he (HP (show dW T t (aQ fr a) (aQ fr x) (tr i).hp K from cU (K:=fun v=>dW T t (aQ fr a) v (tr i).hp K) hw) j))⟩
 ·rename_i args tys
  split at h
  ·rename_i s x hargs
   split at h
   ·rename_i l1 l2 h1 h2
    cases h
    have hw:jw T own .append (args.toList.map (aQ fr)) tys.toList (tr i).hp K:=gq hw
    rw [hargs] at hw
    have happ:∃ t,jM T own t (aQ fr s) (aQ fr x) (tr i).hp K:=by
     unfold jw at hw
     simp only [List.map_cons,List.map_nil] at hw
     split at hw
     ·rename_i s' x' t u hsx _
      cases hsx
      split at hw
      ·exact ⟨_,hw⟩
      ·exact hw.elim
     ·exact hw.elim
    obtain ⟨t,happ⟩:=happ
    refine ⟨dw (bL tm x),dw (bL tm s),by simp [qw,hargs],fun k hk=>?_,fun k hk=>?_⟩
    ·obtain ⟨p,a,b⟩:=rd h1 k hk
     exact ⟨p,List.mem_append_left _ a,b⟩
    ·obtain ⟨p,a,b⟩:=sX ht h2 (hb.eval s).1 (hb.eval s).2 (now s) (fun _ j aD o hj=>HO happ hj) (fun _ j he=>absurd he (LF happ j)) k hk
     exact ⟨p,List.mem_append_right _ a,b⟩
   ·cases h
  ·cases h
 ·rename_i args tys
  split at h
  ·rename_i x hargs
   exact ⟨dw (bL tm x),[],by simp [qw,hargs],rd h,nil _⟩
  ·cases h
 ·exact ⟨_,_,rfl,rd h,nil _⟩
 ·rename_i t m k
  exact ⟨_,_,rfl,nil _,sX ht h (hb.eval m).1 (hb.eval m).2 (now m) (fun _ j aD o hj=>(F2 (show iI T t (aQ fr m) (aQ fr k) (tr i).hp K from hw) hj).elim) (fun _ j hj=>DK (show iI T t (aQ fr m) (aQ fr k) (tr i).hp K from hw) hj)⟩
 ·rename_i t m a x
  exact ⟨_,_,rfl,nil _,sX ht h (hb.eval m).1 (hb.eval m).2 (now m) (fun _ j aD o hj=>(DL (show fU (aQ fr m) (aQ fr a) (aQ fr x) (tr i).hp K from hw) hj).elim) (fun _ j hj=>Cz (show fU (aQ fr m) (aQ fr a) (aQ fr x) (tr i).hp K from hw) hj)⟩
 ·cases h
 ·cases h
 ·cases h
 ·cases h
 ·rename_i n1 n2 n3 n4 n5 n6 n7 n8 n9 n10 n11
  cases h
  refine ⟨[],[],?_,nil _,nil _⟩
  unfold qw
  split <;> first
   | rfl
   | exact absurd rfl (n1 _ _)|exact absurd rfl (n2 _ _ _)|exact absurd rfl (n3 _ _)|exact absurd rfl (n4 _ _)
   | exact absurd rfl (n5 _ _ _ _)|exact absurd rfl (n6 _ _ _)|exact absurd rfl (n7 _ _ _ _)|exact absurd rfl (n8 _ _)|exact absurd rfl (n9 _ _)|exact absurd rfl (n10 _)|exact absurd rfl (n11 _ _ _ _)
theorem aY.grow (hr:aY E base hp aJ H) (hn:H.n≤H'.n) (hwf:Wf H') (hsame:∀ k,k < H.n→H'.get k=H.get k) (hlo:min H.lo base≤H'.lo):aY E base hp aJ H'∧Ext base E hp H E hp H':=by
 have e:Ext base E hp H E hp H':=⟨hn,rfl,rfl,rfl,fun _ _ _ h=>h,fun _ h=>.inl h,fun k hk _=>hsame k hk,hlo⟩
 refine ⟨⟨hwf,fun j x aD hj hvx=>?_,hr.inj,fun j v k hk=>Nat.lt_of_lt_of_le (hr.rn j v k hk) hn,hr.fresh,hr.new,hr.sup,hr.jh,hr.dx,hr.ds,fun k hk=>Nat.lt_of_lt_of_le (hr.sn k hk) hn,fun k hk=>Nat.lt_of_lt_of_le (hr.xn k hk) hn,hr.qG,Nat.le_trans hr.bn hn,aJ.st hr.aJ (fun k hk=>hsame k (hr.sn k hk)) hn⟩,e⟩
 rcases hr.iy j x aD hj hvx with ⟨k,b',q1,q2,q3⟩|q
 ·exact .inl ⟨k,b',q1,by rw [hsame k (hr.wf.lt q2)];exact q2,e.br hr.wf q3⟩
 ·exact .inr q
theorem nZ {mu:Tmp→Bool} {ops:Array Oper}:∀ {l:List Oper} {i:Nat} {bt:Nat→Nat} {acc:List rq} {evs:List Ev} {st:cy} {K:cy→Prop} {tr:Nat→fJ} {s:St},jU T tab mu ops l i bt acc st K →
  ua base st.aJ tr i→(tr i).hp=st.hp→(tr i).H=s.hp→s.rd=st.rd→jC tr i bt st.fr s.fr→qq tr i acc evs →
  ∃ m s',cR T (RX T tab m) ops l i s evs=some [s']∧∃ E' st',K st'∧st'.fl=st.fl∧qp E' base st' s'∧Ext base (tr 0).E (tr 0).hp (tr 0).H E' st'.hp s'.hp
 | [],i,bt,acc,evs,st,K,tr,s,h,ht,h1,h2,h3,hb,he=>by
  obtain ⟨hc,hk⟩:=h
  have hrel:=ht.rel i (Nat.le_refl _)
  have hok:eL T ops evs=true:=by
   unfold eL
   cases hq:(evs.all fun e=>e.t.wr.isEmpty && Nat.beq e.t.a e.t.b) with
   | true=>rfl
   | false=>exact he.pairs ht (Nat.le_refl _) hc
  refine ⟨0,s,by rw [gU,hok];rfl,(tr i).E,st,hk,rfl,⟨by rw [←h1,←h2];exact hrel,h3,fun t=>?_⟩,by rw [←h1,←h2];exact ht.ext 0 i (Nat.zero_le _) (Nat.le_refl _)⟩
  have:=(ht.ext _ i (hb t).1 (Nat.le_refl _)).ar (ht.rel _ (hb t).1).wf (hb t).2
  rw [←h1,←h2]
  exact this
 | o :: l,i,bt,acc,evs,st,K,tr,s,h,ht,h1,h2,h3,hb,he=>by
  have h:cC ops.toList o.guard st.fr (eG T tab mu o.dst o.op i bt st.fr st.hp fun fr' hp' bt' x=>jU T tab mu ops l (i+1) bt' (x :: acc) ⟨fr',hp',st.aJ,st.rd,st.fl⟩ K)
   (gX o.dst st.fr (.tp []) fun fr'=>jU T tab mu ops l (i+1) (nq o.dst bt 0) (⟨i,[],false,false⟩ :: acc) ⟨fr',st.hp,st.aJ,st.rd,st.fl⟩ K):=h
  have hrel:=ht.rel i (Nat.le_refl _)
  have hfr:mP (tr i).E.ρ (tr i).H.get ((tr i).E.O (tr i).hp) st.fr s.fr:=fun t=>(ht.ext _ i (hb t).1 (Nat.le_refl _)).ar (ht.rel _ (hb t).1).wf (hb t).2
  have hz0:(snoc tr i (tr i) 0)=tr 0:=cP (Nat.zero_le _)
  rcases sW hfr h with ⟨hg,h⟩|⟨hg,h⟩
  ·
   have go:∀ (z:fJ) (v:AV) (u:Value) (b:Nat) (x:rq) (t:Tc) (m0:Nat),aY z.E base z.hp st.aJ z.H→Ext base (tr i).E (tr i).hp (tr i).H z.E z.hp z.H→b≤i+1→(snoc tr i z b).ar v u→x.i=i→Jz (snoc tr i z) x t →
     (∀ m,m0≤m→bY T (RX T tab m) o.op i s=some (u,z.H,t))→jU T tab mu ops l (i+1) (nq o.dst bt b) (x :: acc) ⟨AJ st.fr o.dst v,z.hp,st.aJ,st.rd,st.fl⟩ K →
     ∃ m s',cR T (RX T tab m) ops (o :: l) i s evs=some [s']∧∃ E' st',K st'∧st'.fl=st.fl∧qp E' base st' s'∧Ext base (tr 0).E (tr 0).hp (tr 0).H E' st'.hp s'.hp:=by
    intro z v u b x t m0 hz he' hbi hv hxi hx hd hw
    obtain ⟨m,s',r1,r2⟩:=nZ (s:=⟨fY s.fr o.dst u,z.H,s.rd⟩) (evs:=⟨o,s,u,z.H,t⟩ :: evs) hw (ht.snoc hz he') (by rw [cH (Nat.lt_succ_self _)]) (by rw [cH (Nat.lt_succ_self _)]) h3 (hb.put hbi hv o.dst) (.cons (he.snoc (Nat.le_refl _)) hxi hx)
    rw [cP (Nat.zero_le _)] at r2
    refine ⟨max m0 m,s',?_,r2⟩
    rw [cQ,hg]
    simp only [cond_true,hd _ (Nat.le_max_left _ _)]
    exact mh (gy (Nat.le_max_right _ _)) _ _ _ _ _ _ r1
   unfold eG at h
   split at h
   ·rename_i f args hk
    have h:=gq (cU h)
    obtain ⟨hF,vs,v,hhand,⟨hvd,hpure⟩,h⟩:=h
    have hF':=(AK hfr f).deep hF
    have hget:({s.hp with lo:=s.hp.n}:Hp).get=(tr i).H.get:=by rw [h2];rfl
    obtain ⟨goal,hgo,m0,L,q1,q2,q3⟩:∃ goal,dI (m5 T.P s.fr f) (args.map (bL s.fr))=some goal ∧
      ∃ m L,RX T tab m (jF {s.hp with lo:=s.hp.n} goal)=some L∧(true=true→∃ r,L=[r])∧∀ r ∈ L,∃ w H',r=.ret w H' ∧
       ({s.hp with lo:=s.hp.n}:Hp).n≤H'.n∧Wf H'∧(∀ k,k < ({s.hp with lo:=s.hp.n}:Hp).n→H'.get k=({s.hp with lo:=s.hp.n}:Hp).get k)∧min ({s.hp with lo:=s.hp.n}:Hp).lo ({s.hp with lo:=s.hp.n}:Hp).n≤H'.lo∧DR H'.get ((tr i).E.O (tr i).hp) v w:=by
     rcases hhand with ⟨rfl,hA⟩|⟨hz,hfree⟩
     ·have hA':=(gi hfr args).deep hA
      exact hpure ((tr i).E.O (tr i).hp) {s.hp with lo:=s.hp.n} _ _ (by rw [h2] at hrel;exact hrel.wf) (fun k hk=>by
       have:k < (tr i).H.n:=hk.elim (fun h=>hrel.nj h) (hrel.xn k)
       rw [h2] at this;exact this) (by rw [hget];exact hF') (by rw [hget];exact hA')
     ·obtain ⟨goal,hgo,m0,L,q1,q2,q3⟩:=hpure (tr i).E.X {s.hp with lo:=s.hp.n} _ _ (by rw [h2] at hrel;exact hrel.wf) (fun k hk=>by
       have:k < (tr i).H.n:=hrel.xn k hk
       rw [h2] at this;exact this) (by rw [hget];exact hF'.mono fun k b hk ho=>⟨hk,fun hx=>ho (.inr hx)⟩) (by
        rw [hget]
        rw [←h1] at hz
        exact hz.dr hrel (fun _ h=>h) (gi hfr args))
      refine ⟨goal,hgo,m0,L,q1,q2,fun r hm=>?_⟩
      obtain ⟨w,H',e1,e2,e3,e4,e5,e6⟩:=q3 r hm
      exact ⟨w,H',e1,e2,e3,e4,e5,hfree.2 _ _ _ _ e6⟩
    obtain ⟨r,hr⟩:=q2 rfl
    subst hr
    obtain ⟨w,H',rfl,hn,hwf,hsame,hlo,hdr⟩:=q3 r (by simp)
    obtain ⟨g1,g2⟩:=hrel.grow (H':={H' with lo:=s.hp.lo}) (by rw [h2];exact hn) hwf (fun k hk=>by
     have:=hsame k (by rw [←h2];exact hk)
     rw [h2];exact this) (by rw [h2];exact Nat.min_le_left _ _)
    refine go ⟨(tr i).E,st.hp,{H' with lo:=s.hp.lo}⟩ v w (i+1) ⟨i,[],true,true⟩ ⟨i,[],[],true,s.hp.n,H'.n⟩ m0 (by rw [←h1];exact g1) (by rw [←h1];exact g2) (Nat.le_refl _) ?_ rfl ?_ (fun m hm=>?_) (gY h)
    ·rw [cH (Nat.lt_succ_self _)]
     refine .d ?_
     show DR H'.get ((tr i).E.O st.hp) v w
     rw [←h1];exact hdr
    ·refine ⟨rfl,by rw [cP (Nat.le_refl _),h2],by rw [cH (Nat.lt_succ_self _)],fun h=>Bool.noConfusion h,rfl,fun k hk=>(by cases hk),fun k hk=>(by cases hk)⟩
    ·unfold bY
     simp only [hk,hgo,gy hm _ _ q1]
     have:Nat.ble s.hp.n H'.lo=true:=Nat.ble_eq_true_of_le (by
      have:min s.hp.n s.hp.n≤H'.lo:=hlo
      omega)
     rw [this];rfl
   ·exact h.elim
   ·rename_i hk
    obtain ⟨a,hacc,hw⟩:=h
    have hw':=hw
    rw [←h1] at hw'
    obtain ⟨r,w,ht1,ht2,ht3⟩:=EF ht hb hacc hw'
    have evr:∀ (z:fJ) (u:Value) (e:cK),kV T s.hp.n o.op (bL s.fr) s.hp.get=some (u,e)→z.H=s.hp.app e→Jz (snoc tr i z) ⟨i,a,news? o.op,false⟩ ⟨i,r,w,false,s.hp.n,(s.hp.app e).n⟩:=by
     intro z u e hop hz
     refine ⟨rfl,by rw [cP (Nat.le_refl _),h2],by rw [cH (Nat.lt_succ_self _),hz],fun hal _=>(zj (Cy hop hal)).symm,rfl,fun k hk=>?_,fun k hk=>?_⟩
     ·obtain ⟨p,p1,p2,p3⟩:=ht2 k hk;exact ⟨p,p1,p2,p3.snoc (Nat.le_refl _)⟩
     ·obtain ⟨p,p1,p2,p3⟩:=ht3 k hk;exact ⟨p,p1,p2,p3.snoc (Nat.le_refl _)⟩
    have drw:∀ (u:Value) (e:cK) (m:Nat),kV T s.hp.n o.op (bL s.fr) s.hp.get=some (u,e)→bY T (RX T tab m) o.op i s=some (u,s.hp.app e,⟨i,r,w,false,s.hp.n,(s.hp.app e).n⟩):=by
     intro u e m hop
     unfold bY
     simp only [hk,ht1,hop]
    by_cases hm:∃ x,Cw o.op st.fr=some [x]
    ·obtain ⟨x,hm⟩:=hm
     have hbirth:qI o.op st.fr bt i=AN bt x:=by unfold qI;rw [hm]
     have hbx:=hb.eval x
     have eb:=ht.ext _ i hbx.1 (Nat.le_refl _)
     obtain ⟨u,v,r1,r2,r3,r4⟩:=Cx (ρ2:=(tr (AN bt x)).E.ρ) (g2:=(tr (AN bt x)).H.get) (O2:=(tr (AN bt x)).E.O (tr (AN bt x)).hp) (n:=s.hp.n) hfr hm (fun y hy=>by
      obtain rfl:=List.mem_singleton.1 hy;exact hbx.2) (fun k b hk ho=>(eb.keep (ht.rel _ hbx.1).wf k b hk ho).1) hw
     rw [h2] at r1
     have hz:(tr i).H=s.hp.app .none:=h2
     rw [hbirth] at r2
     refine go (tr i) v u (AN bt x) ⟨i,a,news? o.op,false⟩ ⟨i,r,w,false,s.hp.n,(s.hp.app .none).n⟩ 0 hrel .refl (by omega) (by rw [cP hbx.1];exact r4) rfl (evr _ u .none r1 hz) (fun m _=>by rw [hz];exact drw u .none m r1) (by rw [h1];exact gY (cU r2))
    ·have hbirth:qI o.op st.fr bt i=i+1:=by
      unfold qI
      split
      ·rename_i x hx;exact absurd ⟨x,hx⟩ hm
      ·rfl
     obtain ⟨u,e,E',v,hp',r1,r2,r3,r4,r5⟩:=rj hrel hfr hw'
     rw [h2] at r1 r3 r4 r5
     rw [hbirth] at r2
     refine go ⟨E',hp',s.hp.app e⟩ v u (i+1) ⟨i,a,news? o.op,false⟩ ⟨i,r,w,false,s.hp.n,(s.hp.app e).n⟩ 0 r3 (by rw [h2];exact r4) (Nat.le_refl _) (by rw [cH (Nat.lt_succ_self _)];exact r5) rfl (evr _ u e r1 rfl) (fun m _=>drw u e m r1) (gY (cU r2))
  ·obtain ⟨m,s',r1,r2⟩:=nZ (s:=⟨fY s.fr o.dst undef,s.hp,s.rd⟩) (evs:=⟨o,s,undef,s.hp,⟨i,[],[],false,s.hp.n,s.hp.n⟩⟩ :: evs) (gY h) (ht.snoc (z:=tr i) hrel .refl) (by rw [cH (Nat.lt_succ_self _)];exact h1) (by rw [cH (Nat.lt_succ_self _)];exact h2) h3
    (hb.put (Nat.zero_le _) wW o.dst) (.cons (he.snoc (Nat.le_refl _)) rfl ⟨rfl,by rw [cP (Nat.le_refl _),h2],by rw [cH (Nat.lt_succ_self _),h2],fun _ _=>rfl,rfl,fun k hk=>(by cases hk),fun k hk=>(by cases hk)⟩)
   rw [hz0] at r2
   refine ⟨m,s',?_,r2⟩
   rw [cQ,hg]
   exact r1
def AO (T:cr) (tab:List XE) (one:Bool) (mu:Tmp→Bool) (ops:Array Oper) (c:Nat) (st:cy) (K:cy→Prop):Prop :=
 jU T tab mu ops (ops.toList.take c) 0 (fun _=>0) [] st fun s=>wpOps T tab one mu ops.toList (ops.toList.drop c) s K
theorem az.draw {id:Nat} {ops:Array Oper} {mu:Tmp→Bool} {st:cy} {K:Exit→cy→Prop} (h:AO T tab one mu ops (gF ops) st (K .normal)):az T tab one (.region id ops true) st K:=by
 intro E base s hs
 obtain ⟨m,s',r1,E',st',r2,r3,r4,r5⟩:=nZ (base:=base) (tr:=fun _=>⟨E,st.hp,s.hp⟩) (evs:=[]) h ⟨fun _ _=>hs.h,fun _ _ _ _=>.refl⟩ rfl rfl hs.rd (fun t=>⟨Nat.le_refl _,hs.fr t⟩) .nil
 obtain ⟨m2,L,q1,q2,q3⟩:=jN r2 r4
 refine ⟨max m m2,L.map fun s=>(.normal,s),?_,fun h1=>?_,fun p hp=>?_⟩
 ·rw [gV]
  have:cS T (RX T tab (max m m2)) ops s=some L:=by
   cases hn:vc ops with
   | none =>
    unfold cS
    simp only [hn,mh (gy (Nat.le_max_left m m2)) _ _ _ _ _ _ r1]
    exact js (gy (Nat.le_max_right _ _)) _ _ _ _ q1
   | some c =>
    have ht:=FT hn
    rw [ht,List.take_length] at r1
    rw [ht,List.drop_length,l7] at q1
    cases q1
    exact Cd ht (mh (gy (Nat.le_max_left m m2)) _ _ _ _ _ _ r1)
  simp only [cond_true,this]
 ·obtain ⟨p,hp⟩:=q2 h1
  exact ⟨_,by rw [hp];rfl⟩
 ·obtain ⟨s2,hm,rfl⟩:=List.mem_map.1 hp
  obtain ⟨E2,st2,k1,k2,k3,k4⟩:=q3 s2 hm
  rw [r3] at k2 k4
  exact ⟨E2,st2,k1,k2,k3,r5.JH.trans k4⟩
def mT (T:cr) (tab:List XE) (one:Bool) (mu:Tmp→Bool):Code→cy→(Exit→cy→Prop)→Prop
 | .skip,st,K=>K .normal st
 | .label _,st,K=>K .normal st
 | .region _ ops false,st,K=>wpOps T tab one mu ops.toList ops.toList st (K .normal)
 | .region _ ops true,st,K=>AO T tab one mu ops (gF ops) st (K .normal)
 | .seq a b,st,K=>mT T tab one mu a st (yH (fun s=>mT T tab one mu b s K) K)
 | .cond c a b,st,K=>match aQ st.fr c with
  | .fl (.bool t)=>(t=true→mT T tab one mu a st K)∧(t=false→mT T tab one mu b st K)
  | _=>False
 | .block id c,st,K=>mT T tab one mu c st (jx id K)
 | .exit id,st,K=>K (.exit id) st
 | .ret,st,K=>K .ret st
 | .scope c,st,K=>mT T tab one mu c st (tZ K)
 | c,st,K=>az T tab one c st K
theorem aa {mu:Tmp→Bool}:∀ {c:Code} {st:cy} {K:Exit→cy→Prop},mT T tab one mu c st K→az T tab one c st K:=by
 intro c
 induction c with
 | skip=>intro st K h;exact .here (fun _ _=>rfl) h
 | label l=>intro st K h;exact .here (fun _ _=>rfl) h
 | region id ops draw =>
  intro st K h
  cases draw with
  | false=>exact .ops h
  | true=>exact .draw h
 | seq a b iha ihb =>
  intro st K h
  refine .seq (iha h |>.mono fun e s hk=>?_)
  cases e <;> first|exact ihb hk|exact hk
 | cond c a b iha ihb =>
  intro st K h
  unfold mT at h
  split at h
  ·rename_i t ht
   exact .cond ht (fun e=>iha (h.1 e)) (fun e=>ihb (h.2 e))
  ·exact h.elim
 | block id c ih=>intro st K h;exact .block (ih h)
 | exit id=>intro st K h;exact .here (fun _ _=>rfl) h
 | ret=>intro st K h;exact .here (fun _ _=>rfl) h
 | scope c ih=>intro st K h;exact .scope (ih h)
 | _=>intro st K h;exact h
end
end Go.RM
namespace Go.RM
open Go
inductive Sh where
 | int (k:IntKind)
 | bool
 | str
 | slice (s:Sh)
 | nil
 | cons (s:Sh) (l:Sh)
 | arr (n:Nat) (s:Sh)
def Sh.cells:Sh→Nat
 | .int _=>1
 | .bool=>1
 | .str=>1
 | .slice _=>1
 | .nil=>0
 | .cons s l=>s.cells+l.cells
 | .arr n s=>n * s.cells
inductive TV:Sh→List AV→Prop
 | int {k:IntKind} {n:Int}:(Lit.int k n).wf=true→TV (.int k) [.fl (.int k n)]
 | bool {b:Bool}:TV .bool [.fl (.bool b)]
 | str {s:ByteArray}:s.size≤maxLen→TV .str [.fl (.string s)]
 | slice {s:Sh} {els:List (List AV)}:els.length≤maxLen→(∀ el ∈ els,TV s el)→TV (.slice s) [.sl els false]
 | nil:TV .nil []
 | cons {s l:Sh} {a b:List AV}:TV s a→TV l b→TV (.cons s l) (a++b)
 | arr {n:Nat} {s:Sh} {els:List (List AV)}:els.length=n→(∀ el ∈ els,TV s el)→TV (.arr n s) els.flatten
mutual
def lX (P:Program):Nat→Sh→TypeId→Bool
 | 0,_,_=>false
 | _+1,.int k,t=>match P.underlying t with
  | some (.int k')=>decide (k=k')
  | _=>false
 | _+1,.bool,t=>match P.underlying t with
  | some .bool=>true
  | _=>false
 | _+1,.str,t=>match P.underlying t with
  | some .string=>true
  | _=>false
 | d+1,.slice s,t=>match P.underlying t with
  | some (.slice e)=>Nat.beq (P.cellsOf e) s.cells && (Nat.ble 1 s.cells && lX P d s e)
  | _=>false
 | d+1,.nil,t=>match P.underlying t with
  | some (.struct fs)=>Nat.beq (P.cellsOf t) 0 && uc P d .nil fs.toList 0
  | _=>false
 | d+1,.cons s l,t=>match P.underlying t with
  | some (.struct fs)=>Nat.beq (P.cellsOf t) (s.cells+l.cells) && uc P d (.cons s l) fs.toList 0
  | _=>false
 | d+1,.arr n s,t=>match P.underlying t with
  | some (.array m e)=>Nat.beq n m && Nat.beq (P.cellsOf e) s.cells && Nat.beq (P.cellsOf t) (n * s.cells) && lX P d s e
  | _=>false
def uc (P:Program):Nat→Sh→List Field→Nat→Bool
 | 0,_,_,_=>false
 | _+1,.nil,[],_=>true
 | d+1,.cons s l,f :: fs,o=>Nat.beq f.offset o && Nat.beq (P.cellsOf f.type) s.cells && lX P d s f.type && uc P d l fs (o+s.cells)
 | _+1,_,_,_=>false
end
section
variable {P : Program} {w : World}
structure LS (γ:Gm) (H:Hp) (w:World):Prop where
 hr:HR γ H.get w
 wf:Wf H
 fr:∀ k,H.n≤k→γ.loc k=none
 un:∀ k a,H.get k=some a→a.own=false∧a ≠ .dead
structure LE (γ:Gm) (H:Hp) (γ':Gm) (H':Hp):Prop where
 le:γ.Le γ'
 n:H.n≤H'.n
 same:∀ k,k < H.n→H'.get k=H.get k
theorem LE.refl {γ:Gm} {H:Hp}:LE γ H γ H:=⟨Gm.Le.refl γ,Nat.le_refl _,fun _ _=>rfl⟩
theorem LE.trans {γ γ1 γ2:Gm} {H H1 H2:Hp} (a:LE γ H γ1 H1) (b:LE γ1 H1 γ2 H2):LE γ H γ2 H2 :=
 ⟨a.le.trans b.le,Nat.le_trans a.n b.n,fun k hk=>(b.same k (Nat.lt_of_lt_of_le hk a.n)).trans (a.same k hk)⟩
abbrev EG:Nat→Prop:=fun _=>False
theorem LE.dr {γ γ':Gm} {H H':Hp} (e:LE γ H γ' H') (hw:Wf H) {v:AV} {u:Value} (h:DR H.get EG v u):DR H'.get EG v u :=
 h.mono fun k b hk _=>⟨by rw [e.same k (hw.lt hk)];exact hk,fun h=>h⟩
theorem LE.MB {γ γ':Gm} {H H':Hp} (e:LE γ H γ' H') (hw:Wf H) {v:List AV} {u:List Value} (h:rL H.get EG v u):rL H'.get EG v u:=⟨h.1,fun i a u x y=>e.dr hw (h.2 i a u x y)⟩
def Lk (w:World) (s:Sh) (cs:List Value):Prop:=∀ (γ:Gm) (H:Hp),LS γ H w→∃ γ' H' us avs,LE γ H γ' H'∧LS γ' H' w∧us.length=cs.length∧cD γ' us cs∧rL H'.get EG avs us∧TV s avs∧avs.length=s.cells
theorem Lk.flat {s:Sh} {v:Value} (hf:bF v=true) (ht:TV s [.fl v]) (hs:s.cells=1):Lk w s [v]:=fun γ H h =>
 ⟨γ,H,[v],[.fl v],.refl,h,rfl,cD.cons (.flat hf) (cD.nil γ),⟨rfl,fun i a u x y=>by
  cases i with
  | zero=>cases x;cases y;exact .fl hf
  | succ i=>simp at x⟩,ht,hs.symm⟩
theorem Lk.list {s:Sh}:∀ {csl:List (List Value)},(∀ cs ∈ csl,Lk w s cs∧cs.length=s.cells)→∀ (γ:Gm) (H:Hp),LS γ H w→∃ (γ':Gm) (H':Hp) (us:List Value) (els:List (List AV)),LE γ H γ' H'∧LS γ' H' w∧us.length=csl.flatten.length∧cD γ' us csl.flatten∧rL H'.get EG els.flatten us ∧
  els.length=csl.length∧(∀ el ∈ els,TV s el∧el.length=s.cells)
 | [],_,γ,H,h=>⟨γ,H,[],[],.refl,h,rfl,cD.nil γ,⟨rfl,fun i a u x=>by cases x⟩,rfl,fun el he=>by cases he⟩
 | cs :: csl,hl,γ,H,h=>by
  obtain ⟨γ1,H1,us1,av1,e1,h1,l1,v1,d1,t1,c1⟩:=(hl cs (by simp)).1 γ H h
  obtain ⟨γ2,H2,us2,els,e2,h2,l2,v2,d2,t2,c2⟩:=Lk.list (fun c hc=>hl c (List.mem_cons_of_mem _ hc)) γ1 H1 h1
  refine ⟨γ2,H2,us1++us2,av1 :: els,e1.trans e2,h2,by simp [l1,l2],?_,?_,by simp [t2],fun el he=>?_⟩
  ·rw [List.flatten_cons];exact (v1.mono e2.le).append v2
  ·rw [List.flatten_cons];exact (e2.MB h1.wf d1).append d2
  ·rcases List.mem_cons.1 he with rfl|he
   ·exact ⟨t1,c1⟩
   ·exact c2 el he
theorem LS.row {γ:Gm} {H:Hp} (h:LS γ H w) {b o:Nat} {cs':Array Value} {e:TypeId} {fz:Nat × Nat} (hb:w.heap[b]?=some (.cells cs' e fz)) {us:List Value} (hc:dU γ us cs' o) :
  ∃ γ',γ'={γ with loc:=fun i=>if i=H.n then some (b,o) else γ.loc i}∧LE γ H γ' (H.push (.cells us false 0))∧LS γ' (H.push (.cells us false 0)) w∧γ'.loc H.n=some (b,o):=by
 have hle:γ.Le {γ with loc:=fun i=>if i=H.n then some (b,o) else γ.loc i}:=by
  refine ⟨fun k x hk=>?_,fun k x hk=>rfl,rfl⟩
  show (if k=H.n then _ else _)=_
  rw [if_neg (fun hkn=>by rw [hkn,h.fr _ (Nat.le_refl _)] at hk;cases hk)]
  exact hk
 have hlt:b < w.heap.size:=(Array.getElem?_eq_some_iff.1 hb).1
 have hget:∀ k a,(H.push (.cells us false 0)).get k=some a→(k < H.n∧H.get k=some a)∨(k=H.n∧a=.cells us false 0):=by
  intro k a hk
  rw [Hp.fB] at hk
  split at hk
  ·rename_i hkn;cases hk;exact .inr ⟨hkn,rfl⟩
  ·exact .inl ⟨h.wf.lt hk,hk⟩
 have hun:∀ k a,(H.push (.cells us false 0)).get k=some a→a.own=false∧a ≠ .dead:=by
  intro k a hk
  rcases hget k a hk with ⟨_,h1⟩|⟨_,rfl⟩
  ·exact h.un k a h1
  ·exact ⟨rfl,by simp⟩
 refine ⟨_,rfl,⟨hle,Nat.le_succ _,fun k hk=>cB hk⟩,⟨⟨fun k b' o' a hk hl=>?_,fun k k' b' o' o2 a a' hk ho=>?_,fun k b' o' hl=>?_,h.hr.base⟩,(eT.push H _).wf h.wf,fun k hk=>?_,hun⟩,if_pos rfl⟩
 ·have hl:(if k=H.n then some (b,o) else γ.loc k)=some (b',o'):=hl
  rcases hget k a hk with ⟨h1,h2⟩|⟨rfl,rfl⟩
  ·rw [if_neg (by omega)] at hl
   exact (h.hr.iy k b' o' a h2 hl).mono hle hl rfl
  ·rw [if_pos rfl] at hl
   cases hl
   exact ⟨cs',e,fz,hb,hc.mono hle,fun h=>Bool.noConfusion h⟩
 ·rw [(hun k a hk).1] at ho;cases ho
 ·have hl:(if k=H.n then some (b,o) else γ.loc k)=some (b',o'):=hl
  split at hl
  ·cases hl;exact hlt
  ·exact h.hr.lt k b' o' hl
 ·show (if k=H.n then _ else _)=_
  have:H.n+1≤k:=hk
  rw [if_neg (by omega)];exact h.fr k (by omega)
variable {D : Type} {enc : TypeId × Value → D} {base : Nat} {spare : Nat → Bool} {held : Bool}
theorem HQ {b:Addr} {n:Nat} {cs:List Value} (h:w.cells? base b n=some cs):cs.length=n∧∀ i,i < n→w.cell? (b.add i)=cs[i]?:=by
 unfold World.cells? at h
 split at h
 ·refine ⟨by simpa using mapM_some_length h,fun i hi=>mapM_some_get h i i (by simp [hi])⟩
 ·cases h
theorem zk {a:Addr} {v:Value} (h:w.cell? a=some v):a.spot=none∧∃ c e fz,w.heap[a.block]?=some (.cells c e fz)∧c[a.off]?=some v:=by
 unfold World.cell? at h
 split at h
 ·rename_i c e fz hb
  split at h
  ·cases h
  ·rename_i hs
   exact ⟨by simpa using hs,c,e,fz,hb,h⟩
 ·cases h
theorem qb (a:Addr) (n:Nat):(a.add n).block=a.block:=by unfold Addr.add;split <;> rfl
theorem EH (a:Addr) (n:Nat):(a.add n).off=a.off+n:=by unfold Addr.add;split <;> simp_all
mutual
theorem lk (P:Program):∀ (d:Nat) (s:Sh) (t:TypeId),lX P d s t=true→∀ (fuel:Nat) (cs:List Value) (x:DataW D × List MemPlace),DataW.trod enc P w base spare held fuel t cs=some x→Lk w s cs∧cs.length=s.cells
 | 0,_,_,h=>by simp [lX] at h
 | d+1,.int k,t,h=>by
  intro fuel cs x hx
  unfold lX at h
  split at h
  ·rename_i k' hu
   obtain rfl:=of_decide_eq_true h
   obtain ⟨n,rfl,_,hw⟩:=DataW.trod_int hu hx
   exact ⟨.flat rfl (.int hw) rfl,rfl⟩
  ·cases h
 | d+1,.bool,t,h=>by
  intro fuel cs x hx
  unfold lX at h
  split at h
  ·rename_i hu
   obtain ⟨b,rfl,_⟩:=DataW.trod_bool hu hx
   exact ⟨.flat rfl .bool rfl,rfl⟩
  ·cases h
 | d+1,.str,t,h=>by
  intro fuel cs x hx
  unfold lX at h
  split at h
  ·rename_i hu
   obtain ⟨s,rfl,_,hw⟩:=DataW.trod_string hu hx
   exact ⟨.flat rfl (.str hw) rfl,rfl⟩
  ·cases h
 | d+1,.slice s,t,h=>by
  intro fuel cs x hx
  unfold lX at h
  split at h
  ·rename_i e hu
   simp only [Bool.and_eq_true] at h
   have hsz:=Nat.eq_of_beq_eq_true h.1
   rcases DataW.trod_slice hu hx with ⟨rfl,_⟩|⟨a,len,cap,elems,rest,n,_,rfl,_,_,hlc,hcm,hel,hat,_⟩
   ·refine ⟨fun γ H hs=>⟨γ,H,[.slice none 0 0],[.sl [] false],.refl,hs,rfl,cD.cons (.flat rfl) (cD.nil γ),⟨rfl,fun i a u x y=>?_⟩,.slice (Nat.zero_le _) (fun el he=>by cases he),rfl⟩,rfl⟩
    cases i with
    | zero=>cases x;cases y;exact .nil
    | succ i=>simp at x
   ·
    let csl:List (List Value):=(List.range len).map fun i=>(w.cells? base (a.add (i * P.cellsOf e)) (P.cellsOf e)).getD []
    have hlen:csl.length=len:=by simp [csl]
    have hcs:∀ i,i < len→∃ ci y,csl[i]?=some ci∧w.cells? base (a.add (i * P.cellsOf e)) (P.cellsOf e)=some ci∧DataW.trod enc P w base spare held n e ci=some y:=by
     intro i hi
     have h1:=hat i hi
     have h2:elems[i]?=some (elems[i]'(by omega)):=List.getElem?_eq_getElem _
     rw [h2,Option.bind_eq_some_iff] at h1
     obtain ⟨ci,c1,c2⟩:=h1
     exact ⟨ci,_,by simp [csl,hi,c1],c1,c2⟩
    have hall:∀ ci ∈ csl,Lk w s ci∧ci.length=s.cells:=by
     intro ci hci
     obtain ⟨i,hi,rfl⟩:=List.getElem_of_mem hci
     obtain ⟨cj,y,q1,q2,q3⟩:=hcs i (by omega)
     rw [List.getElem?_eq_getElem hi] at q1
     cases q1
     exact lk P d s e h.2.2 n _ y q3
    refine ⟨fun γ H hs=>?_,rfl⟩
    obtain ⟨γ1,H1,us,els,e1,h1,l1,v1,d1,t1,c1⟩:=Lk.list hall γ H hs
    have htv:TV (.slice s) [.sl els false]:=.slice (by rw [t1,hlen];omega) (fun el he=>(c1 el he).1)
    have hfin:∀ (u:Value) (γ':Gm) (H':Hp),LE γ1 H1 γ' H'→LS γ' H' w→VR γ' u (.slice (some a) len cap)→DR H'.get EG (.sl els false) u →
      ∃ γ' H' us avs,LE γ H γ' H'∧LS γ' H' w∧us.length=[Value.slice (some a) len cap].length∧cD γ' us [.slice (some a) len cap]∧rL H'.get EG avs us∧TV (.slice s) avs∧avs.length=(Sh.slice s).cells:=by
     intro u γ' H' he hs' hv hd
     refine ⟨γ',H',[u],[.sl els false],e1.trans he,hs',rfl,cD.cons hv (cD.nil γ'),⟨rfl,fun i a w x y=>?_⟩,htv,rfl⟩
     cases i with
     | zero=>cases x;cases y;exact hd
     | succ i=>simp at x
    have hfl:∀ el ∈ csl,el.length=s.cells:=fun el he=>(hall el he).2
    have hels:∀ el ∈ els,el.length=s.cells:=fun el he=>(c1 el he).2
    have hne:els.length=len:=t1.trans hlen
    by_cases h0:len * s.cells=0
    ·
     have hg:∀ k a,(H1.push (.cells us false 0)).get k=some a→(k < H1.n∧H1.get k=some a)∨(k=H1.n∧a=.cells us false 0):=by
      intro k a hk
      rw [Hp.fB] at hk
      split at hk
      ·rename_i hkn;cases hk;exact .inr ⟨hkn,rfl⟩
      ·exact .inl ⟨h1.wf.lt hk,hk⟩
     have hus:us=[]:=List.length_eq_zero_iff.1 (by rw [l1,dc hfl,hlen];exact h0)
     by_cases hl0:len=0
     ·subst hl0
      refine hfin (.slice (some ⟨H1.n,0,none⟩) 0 2) γ1 (H1.push (.cells us false 0)) ⟨Gm.Le.refl γ1,Nat.le_succ _,fun k hk=>cB hk⟩ ⟨⟨fun k b o a hk hl=>?_,fun k k' b o o' a a' hk ho=>?_,h1.hr.lt,h1.hr.base⟩,(eT.push H1 _).wf h1.wf,fun k hk=>h1.fr k (by have:H1.n+1≤k:=hk;omega),fun k a hk=>?_⟩ (.fC (by omega) (fun h=>by omega)) ?_
      ·rcases hg k a hk with ⟨_,q⟩|⟨rfl,_⟩
       ·exact h1.hr.iy k b o a q hl
       ·rw [h1.fr _ (Nat.le_refl _)] at hl;cases hl
      ·rcases hg k a hk with ⟨_,q⟩|⟨_,rfl⟩
       ·rw [(h1.un k a q).1] at ho;cases ho
       ·cases ho
      ·rcases hg k a hk with ⟨_,q⟩|⟨_,rfl⟩
       ·exact h1.un k a q
       ·exact ⟨rfl,by simp⟩
      ·exact .row (es:=s.cells) (own:=false) (e:=0) ju (fun h=>h) hels hne (by
        have hd:=d1
        rw [hus] at hd ⊢
        exact ⟨hd.1,fun i a u x y=>by cases y⟩) (fun h=>Bool.noConfusion h)
     ·
      exfalso
      have hz:s.cells=0:=by
       rcases Nat.mul_eq_zero.1 h0 with h|h
       ·exact absurd h hl0
       ·exact h
      have:=Nat.le_of_ble_eq_true h.2.1
      omega
    ·have hpos:0 < len∧0 < s.cells:=by
      constructor
      ·apply Nat.pos_of_ne_zero;intro h;rw [h] at h0;simp at h0
      ·apply Nat.pos_of_ne_zero;intro h;rw [h] at h0;simp at h0
     have hcell:∀ i ci,csl[i]?=some ci→∀ j,j < s.cells→(∀ v,ci[j]?=some v→w.cell? ((a.add (i * s.cells)).add j)=some v):=by
      intro i ci hi j hj v hv
      obtain ⟨cj,y,q1,q2,q3⟩:=hcs i (by rw [←hlen];exact (List.getElem?_eq_some_iff.1 hi).1)
      rw [q1] at hi;cases hi
      rw [hsz] at q2
      obtain ⟨_,r2⟩:=HQ q2
      rw [r2 j hj];exact hv
     obtain ⟨c0,y0,z1,z2,z3⟩:=hcs 0 hpos.1
     have hz0:c0.length=s.cells:=hfl c0 (List.mem_of_getElem? z1)
     have hv0:c0[0]?=some (c0[0]'(by omega)):=List.getElem?_eq_getElem _
     obtain ⟨sp,cs',e',fz,hb,_⟩:=zk (hcell 0 c0 z1 0 hpos.2 _ hv0)
     rw [qb,qb] at hb
     have hspot:a.spot=none:=by
      have:((a.add (0 * s.cells)).add 0).spot=none:=sp
      simpa [Addr.add] using this
     have hcr:dU γ1 us cs' a.off:=by
      intro j v hj
      have hjl:j < len * s.cells:=by rw [←hlen,←dc hfl,←l1];exact (List.getElem?_eq_some_iff.1 hj).1
      obtain ⟨v',q1,q2⟩:=v1.get hj
      have hi:j / s.cells < len:=(Nat.div_lt_iff_lt_mul hpos.2).2 hjl
      have hm:j % s.cells < s.cells:=Nat.mod_lt _ hpos.2
      obtain ⟨ci,y,p1,p2,p3⟩:=hcs _ hi
      have hdecomp:j / s.cells * s.cells+j % s.cells=j:=by rw [Nat.mul_comm];exact Nat.div_add_mod j s.cells
      have hf:=gJ hfl _ ci (j % s.cells) p1 hm
      rw [hdecomp,q1] at hf
      obtain ⟨_,c2,e2,f2,b1,b2⟩:=zk (hcell _ ci p1 _ hm v' hf.symm)
      rw [qb,qb,hb] at b1
      cases b1
      rw [EH,EH,Nat.add_assoc,hdecomp] at b2
      exact ⟨v',b2,q2⟩
     obtain ⟨γ2,_,e2,h2,hloc⟩:=h1.row hb hcr
     refine hfin (.slice (some ⟨H1.n,0,none⟩) len (len+2)) γ2 _ e2 h2 ?_ ?_
     ·have:=VR.slice (γ:=γ2) (k:=H1.n) (o:=0) (n:=len) (c:=len+2) (c':=cap) hloc hlc (fun h=>by omega) (fun h=>by omega)
      have ha:(⟨a.block,a.off+0,none⟩:Addr)=a:=by cases a;simp at hspot;subst hspot;rfl
      rw [ha] at this
      exact this
     ·exact .row (es:=s.cells) ju (fun h=>h) hels hne (e2.MB h1.wf d1) (fun h=>Bool.noConfusion h)
  ·cases h
 | d+1,.nil,t,h=>by
  intro fuel cs x hx
  unfold lX at h
  split at h
  ·rename_i fs hu
   simp only [Bool.and_eq_true] at h
   obtain ⟨xs,n,_,_,hl,_,hf⟩:=DataW.trod_struct hu hx
   have hz:=Nat.eq_of_beq_eq_true h.1
   obtain rfl:=List.length_eq_zero_iff.1 (hl.trans hz)
   exact ⟨fun γ H hs=>⟨γ,H,[],[],.refl,hs,rfl,cD.nil γ,⟨rfl,fun i a u x=>by cases x⟩,.nil,rfl⟩,rfl⟩
  ·cases h
 | d+1,.cons s l,t,h=>by
  intro fuel cs x hx
  unfold lX at h
  split at h
  ·rename_i fs hu
   simp only [Bool.and_eq_true] at h
   obtain ⟨xs,n,_,_,hl,hxl,hf⟩:=DataW.trod_struct hu hx
   have hz:=Nat.eq_of_beq_eq_true h.1
   have:=MH P d (.cons s l) fs.toList 0 h.2 n cs (by rw [hl,hz];simp [Sh.cells]) (fun i f hi=>by
    rw [Array.getElem?_toList] at hi
    rw [hf i f hi]
    have hlt:i < xs.length:=by rw [hxl];exact (Array.getElem?_eq_some_iff.1 hi).1
    exact ⟨_,List.getElem?_eq_getElem hlt⟩)
   rw [List.drop_zero] at this
   exact ⟨this,by rw [hl,hz];rfl⟩
  ·cases h
 | d+1,.arr m s,t,h=>by
  intro fuel cs x hx
  unfold lX at h
  split at h
  ·rename_i m' e hu
   simp only [Bool.and_eq_true] at h
   obtain ⟨⟨⟨h1,h2⟩,h3⟩,h4⟩:=h
   obtain rfl:=Nat.eq_of_beq_eq_true h1
   have hsz:=Nat.eq_of_beq_eq_true h2
   have htot:=Nat.eq_of_beq_eq_true h3
   have hx':∃ n,cs.length=P.cellsOf t∧∀ i,i < m→∃ y,DataW.trod enc P w base spare held n e ((cs.drop (i * P.cellsOf e)).take (P.cellsOf e))=some y:=by
    obtain ⟨xs,n,_,_,hl,hxl,hp⟩:=DataW.trod_array hu hx
    exact ⟨n,hl,fun i hi=>by
     rw [hp i hi]
     exact ⟨_,List.getElem?_eq_getElem (by omega)⟩⟩
   obtain ⟨n,hl,hel⟩:=hx'
   rw [hsz] at hel
   rw [htot] at hl
   let csl:List (List Value):=(List.range m).map fun i=>(cs.drop (i * s.cells)).take s.cells
   have hflat:csl.flatten=cs:=by
    have key:∀ (m:Nat) (cs:List Value),cs.length=m * s.cells→((List.range m).map fun i=>(cs.drop (i * s.cells)).take s.cells).flatten=cs:=by
     intro m
     induction m with
     | zero=>intro cs h;rw [Nat.zero_mul] at h;simp [List.length_eq_zero_iff.1 h]
     | succ m ih =>
      intro cs h
      rw [List.range_succ_eq_map,List.map_cons,List.map_map,List.flatten_cons,Nat.zero_mul,List.drop_zero]
      have hd:(cs.drop s.cells).length=m * s.cells:=by rw [List.length_drop,h,Nat.add_mul];omega
      have e:=ih (cs.drop s.cells) hd
      have:((fun i=>(cs.drop (i * s.cells)).take s.cells) ∘ Nat.succ)=fun i=>((cs.drop s.cells).drop (i * s.cells)).take s.cells:=by
       funext i
       simp only [Function.comp,List.drop_drop]
       rw [show s.cells+i * s.cells=Nat.succ i * s.cells by rw [Nat.succ_mul];omega]
      rw [this,e]
      exact List.take_append_drop _ _
    exact key m cs hl
   have hall:∀ ci ∈ csl,Lk w s ci∧ci.length=s.cells:=by
    intro ci hci
    obtain ⟨i,hi,rfl⟩:=List.mem_map.1 hci
    obtain ⟨y,hy⟩:=hel i (by simpa using hi)
    exact lk P d s e h4 n _ y hy
   refine ⟨fun γ H hs=>?_,hl⟩
   obtain ⟨γ1,H1,us,els,e1,q1,l1,v1,d1,t1,c1⟩:=Lk.list hall γ H hs
   rw [hflat] at l1 v1
   have hels:els.length=m:=by rw [t1];simp [csl]
   exact ⟨γ1,H1,us,els.flatten,e1,q1,l1,v1,d1,.arr hels (fun el he=>(c1 el he).1),by
    rw [dc (fun el he=>(c1 el he).2),hels];rfl⟩
  ·cases h
theorem MH (P:Program):∀ (d:Nat) (l:Sh) (fs:List Field) (o:Nat),uc P d l fs o=true→∀ (n:Nat) (cs:List Value),cs.length=o+l.cells→(∀ (i:Nat) (f:Field),fs[i]?=some f→∃ y,DataW.trod enc P w base spare held n f.type ((cs.drop f.offset).take (P.cellsOf f.type))=some y) →
  Lk w l (cs.drop o)
 | 0,_,_,_,h=>by simp [uc] at h
 | d+1,.nil,[],o,_=>by
  intro n cs hl _
  have:cs.drop o=[]:=List.length_eq_zero_iff.1 (by rw [List.length_drop,hl];simp [Sh.cells])
  rw [this]
  exact fun γ H hs=>⟨γ,H,[],[],.refl,hs,rfl,cD.nil γ,⟨rfl,fun i a u x=>by cases x⟩,.nil,rfl⟩
 | d+1,.cons s l,f :: fs,o,h=>by
  intro n cs hl hf
  simp only [uc,Bool.and_eq_true] at h
  obtain ⟨⟨⟨h1,h2⟩,h3⟩,h4⟩:=h
  have ho:=Nat.eq_of_beq_eq_true h1
  have hsz:=Nat.eq_of_beq_eq_true h2
  obtain ⟨y,hy⟩:=hf 0 f rfl
  rw [ho,hsz] at hy
  obtain ⟨k1,k2⟩:=lk P d s f.type h3 n _ y hy
  have k3:=MH P d l fs (o+s.cells) h4 n cs (by rw [hl];simp [Sh.cells];omega) (fun i g hi=>hf (i+1) g (by simpa using hi))
  have hsplit:cs.drop o=(cs.drop o).take s.cells++cs.drop (o+s.cells):=by
   rw [←List.drop_drop];exact (List.take_append_drop _ _).symm
  intro γ H hs
  obtain ⟨γ1,H1,us1,av1,e1,q1,l1,v1,d1,t1,c1⟩:=k1 γ H hs
  obtain ⟨γ2,H2,us2,av2,e2,q2,l2,v2,d2,t2,c2⟩:=k3 γ1 H1 q1
  rw [hsplit]
  exact ⟨γ2,H2,us1++us2,av1++av2,e1.trans e2,q2,by simp [l1,l2],(v1.mono e2.le).append v2,(e2.MB q1.wf d1).append d2,.cons t1 t2,by simp [c1,c2,Sh.cells]⟩
 | d+1,.nil,_ :: _,_,h=>by simp [uc] at h
 | d+1,.cons _ _,[],_,h=>by simp [uc] at h
 | d+1,.int _,_,_,h=>by simp [uc] at h
 | d+1,.bool,_,_,h=>by simp [uc] at h
 | d+1,.str,_,_,h=>by simp [uc] at h
 | d+1,.slice _,_,_,h=>by simp [uc] at h
 | d+1,.arr _ _,_,_,h=>by simp [uc] at h
end
end
end Go.RM
namespace Go.RM
open Go
section
variable {P : Program} {w : World} {D : Type} {enc : TypeId × Value → D} {base : Nat} {spare : Nat → Bool} {held : Bool}
def uS:Sh→List AV→AV
 | .nil,l=>.ag l
 | .cons _ _,l=>.ag l
 | .arr _ _,l=>.ag l
 | _,l=>l.headD .cv
def DM:List Sh→List AV→Prop
 | [],[]=>True
 | s :: l,a :: as=>(∃ avs,TV s avs∧a=uS s avs)∧DM l as
 | _,_=>False
theorem vE {s:Sh} {v:Value} (hv:v.cells.toList=[v]) (hs:∀ l,uS s l=l.headD .cv) (h1:s.cells=1) (hl:Lk w s v.cells.toList) (γ:Gm) (H:Hp) (h:LS γ H w) :
  ∃ γ' H' u a,LE γ H γ' H'∧LS γ' H' w∧VR γ' u v∧DR H'.get EG a u∧∃ avs,TV s avs∧a=uS s avs:=by
 rw [hv] at hl
 obtain ⟨γ',H',us,avs,e,q,l1,v1,d1,t1,c1⟩:=hl γ H h
 match us,l1 with
 | [u],_ =>
  match avs,c1.trans h1 with
  | [a],_=>exact ⟨γ',H',u,a,e,q,v1.2 0 u v rfl rfl,d1.2 0 a u rfl rfl,[a],t1,by rw [hs];rfl⟩
theorem JN {s:Sh} {cs:Array Value} (hs:∀ l,uS s l=.ag l) (hl:Lk w s cs.toList) (γ:Gm) (H:Hp) (h:LS γ H w) :
  ∃ γ' H' u a,LE γ H γ' H'∧LS γ' H' w∧VR γ' u (.agg cs)∧DR H'.get EG a u∧∃ avs,TV s avs∧a=uS s avs:=by
 obtain ⟨γ',H',us,avs,e,q,l1,v1,d1,t1,c1⟩:=hl γ H h
 refine ⟨γ',H',.agg us.toArray,.ag avs,e,q,?_,.ag (by simpa using d1.1) (fun i a u x y=>d1.2 i a u x (by simpa using y)),avs,t1,(hs _).symm⟩
 have:=VR.kW v1
 simpa using this
theorem JO {d:Nat} {s:Sh} {t:TypeId} (hsh:lX P d s t=true) {v:Value} {x:DataW D} {ps:List MemPlace} {r:Reach} {b:Nat} (hok:Value.okWide P w r b t v) (ht:DataW.Trod enc P w base spare held t v x ps) (γ:Gm) (H:Hp) (h:LS γ H w) :
  ∃ γ' H' u a,LE γ H γ' H'∧LS γ' H' w∧VR γ' u v∧DR H'.get EG a u∧∃ avs,TV s avs∧a=uS s avs:=by
 obtain ⟨fuel,ht⟩:=ht
 obtain ⟨hl,_⟩:=lk P d s t hsh fuel _ _ ht
 have agg:(∃ cs,v=.agg cs)→(∀ l,uS s l=.ag l)→∃ γ' H' u a,LE γ H γ' H'∧LS γ' H' w∧VR γ' u v∧DR H'.get EG a u∧∃ avs,TV s avs∧a=uS s avs:=by
  rintro ⟨cs,rfl⟩ hs
  exact JN hs hl γ H h
 cases d with
 | zero=>simp [lX] at hsh
 | succ d =>
  cases s with
  | int k =>
   unfold lX at hsh
   split at hsh
   ·rename_i k' hu
    unfold Value.okWide at hok
    rw [hu] at hok
    simp only [Cell.okWide,hu,Cell.ok] at hok
    cases v <;> simp at hok
    exact vE rfl (fun _=>rfl) rfl hl γ H h
   ·cases hsh
  | bool =>
   unfold lX at hsh
   split at hsh
   ·rename_i hu
    unfold Value.okWide at hok
    rw [hu] at hok
    simp only [Cell.okWide,hu,Cell.ok] at hok
    cases v <;> simp at hok
    exact vE rfl (fun _=>rfl) rfl hl γ H h
   ·cases hsh
  | str =>
   unfold lX at hsh
   split at hsh
   ·rename_i hu
    unfold Value.okWide at hok
    rw [hu] at hok
    simp only [Cell.okWide,hu,Cell.ok] at hok
    cases v <;> simp at hok
    exact vE rfl (fun _=>rfl) rfl hl γ H h
   ·cases hsh
  | slice s =>
   unfold lX at hsh
   split at hsh
   ·rename_i e hu
    unfold Value.okWide at hok
    rw [hu] at hok
    simp only [Cell.okWide,hu,Cell.ok] at hok
    cases v <;> simp at hok
    exact vE rfl (fun _=>rfl) rfl hl γ H h
   ·cases hsh
  | nil =>
   unfold lX at hsh
   split at hsh
   ·rename_i fs hu
    unfold Value.okWide at hok
    rw [hu] at hok
    exact agg ⟨_,hok.choose_spec.1⟩ (fun _=>rfl)
   ·cases hsh
  | cons s l =>
   unfold lX at hsh
   split at hsh
   ·rename_i fs hu
    unfold Value.okWide at hok
    rw [hu] at hok
    exact agg ⟨_,hok.choose_spec.1⟩ (fun _=>rfl)
   ·cases hsh
  | arr n s =>
   unfold lX at hsh
   split at hsh
   ·rename_i m e hu
    unfold Value.okWide at hok
    rw [hu] at hok
    exact agg ⟨_,hok.choose_spec.1⟩ (fun _=>rfl)
   ·cases hsh
def zl (P:Program) (d:Nat):List Sh→List TypeId→Bool
 | [],[]=>true
 | s :: l,t :: ts=>lX P d s t && zl P d l ts
 | _,_=>false
theorem CA {d:Nat} {r:Reach} {b:Nat}:∀ {ss:List Sh} {ts:List TypeId} {vs:List Value} {ds:List (DataW D)} {ps:List MemPlace},zl P d ss ts=true→DataW.TrodAll enc P w base spare held ts vs ds ps →
  (∀ (j:Nat) t v,ts[j]?=some t→vs[j]?=some v→Value.okWide P w r b t v)→∀ (γ:Gm) (H:Hp),LS γ H w→∃ γ' H' us as,LE γ H γ' H'∧LS γ' H' w∧cD γ' us vs∧rL H'.get EG as us∧DM ss as
 | [],[],[],[],ps,_,_,_,γ,H,h=>⟨γ,H,[],[],.refl,h,cD.nil γ,⟨rfl,fun i a u x=>by cases x⟩,trivial⟩
 | s :: ss,t :: ts,v :: vs,x :: ds,ps,hs,ht,hok,γ,H,h=>by
  simp only [zl,Bool.and_eq_true] at hs
  obtain ⟨p,q,h1,h2,_⟩:=ht
  obtain ⟨γ1,H1,u,a,e1,q1,v1,d1,t1⟩:=JO hs.1 (hok 0 t v rfl rfl) h1 γ H h
  obtain ⟨γ2,H2,us,as,e2,q2,v2,d2,t2⟩:=CA hs.2 h2 (fun j t v a b=>hok (j+1) t v (by simpa using a) (by simpa using b)) γ1 H1 q1
  refine ⟨γ2,H2,u :: us,a :: as,e1.trans e2,q2,cD.cons (v1.mono e2.le) v2,⟨by simp [d2.1],fun i b w hb hw=>?_⟩,t1,t2⟩
  cases i with
  | zero=>cases hb;cases hw;exact e2.dr q1.wf d1
  | succ i=>exact d2.2 i b w (by simpa using hb) (by simpa using hw)
 | [],_ :: _,_,_,_,h,_,_,_,_,_=>by simp [zl] at h
 | _ :: _,[],_,_,_,h,_,_,_,_,_=>by simp [zl] at h
 | [],[],_ :: _,_,_,_,h,_,_,_,_=>by simp [DataW.TrodAll] at h
 | [],[],[],_ :: _,_,_,h,_,_,_,_=>by simp [DataW.TrodAll] at h
 | _ :: _,_ :: _,[],_,_,_,h,_,_,_,_=>by simp [DataW.TrodAll] at h
 | _ :: _,_ :: _,_ :: _,[],_,_,h,_,_,_,_=>by simp [DataW.TrodAll] at h
theorem LS.empty (w:World):LS ⟨fun _=>none,fun _=>0,w.heap.size⟩ Hp.empty w :=
 ⟨⟨fun k b o a h _=>(by cases h),fun k k' b o o' a a' h=>(by cases h),fun k b o h=>(by cases h),Nat.le_refl _⟩,B7,fun _ _=>rfl,fun k a h=>(by cases h)⟩
end
section
variable {T : cr} {tab : List XE} {one : Bool}
open Go.RowKit in
theorem DN (hT:cL T) (hm:T.P.follows .mixedOrders=true) (ht:∀ e ∈ tab,fG T e) {f:FuncId} {v:Value} (hf:bF v=true) {D:Type} {enc:TypeId × Value→D} {base:Nat} {spare:Nat→Bool} {held:Bool} {d:Nat} {r:Reach} {b:Nat}
  {ss:List Sh} {ts:List TypeId} {args:Array Value} {ds:List (DataW D)} {ps:List MemPlace} {w:World} (hs:zl T.P d ss ts=true) (htr:DataW.TrodAll enc T.P w base spare held ts args.toList ds ps)
  (hok:∀ (j:Nat) t v,ts[j]?=some t→args.toList[j]?=some v→Value.okWide T.P w r b t v) (hp:∀ as,DM ss as→af T tab one (.fn f [] []) as (.fl v)) :
  Calls T.P f args w fun e w'=>e=.returned v∧Below w.heap.size w w':=by
 obtain ⟨γ,H,us,as,e,q,v1,d1,t1⟩:=CA hs htr hok _ _ (LS.empty w)
 obtain ⟨goal,hg,m,L,h1,_,h3⟩:=(hp as t1).2 EG H (.func (.func f) #[] #[]) us q.wf (fun k h=>h.elim) (.fn rfl rfl (fun i x u h=>by cases h) (fun i x u h=>by cases h)) d1
 have hgoal:goal=.fn f us:=by
  have:dI (.func (.func f) #[] #[]) us=some (.fn f us):=by simp [dI]
  rw [this] at hg
  exact (Option.some.inj hg).symm
 subst hgoal
 have hS:cN T (RX T tab m) m:=B9 ht (wN hT hm ht m)
 have hN:∃ N,∀ r ∈ L,r.hp.n≤N:=by
  clear h3 h1
  rename_i hone
  clear hone
  induction L with
  | nil=>exact ⟨0,fun r hr=>by cases hr⟩
  | cons a l ih =>
   obtain ⟨N,hN⟩:=ih
   refine ⟨max a.hp.n N,fun r hr=>?_⟩
   rcases List.mem_cons.1 hr with rfl|hr
   ·omega
   ·have:=hN r hr;omega
 obtain ⟨N,hN⟩:=hN
 have hB:γ.B=w.heap.size:=e.le.B
 have hc:=(hS.call f us H L h1).2 γ w args.toList N q.wf q.hr (fun k hk _=>q.fr k hk) hN v1
 refine callsIn_wide.1 (CallsIn.mono (F:=FW none) hc fun en w' hR=>?_)
 obtain ⟨x,hp',x',γ1,hmem,rfl,hv,hst⟩:=hR
 obtain ⟨y,H',hy,_,_,_,_,hdr⟩:=h3 _ hmem
 cases hy
 have hx:x=v:=by
  cases hdr with
  | fl h=>rfl
 subst hx
 refine ⟨by rw [hv.dm hf],?_⟩
 rw [←hB]
 exact hst.jg.below q.hr
end
end Go.RM
namespace Go.RM
open Go
def dR (a b:AV):Prop:=∀ (ρ:Nat→Nat→Option Nat) (g:aI) (O:Nat→Prop) (u:Value),AR ρ g O a u→AR ρ g O b u
theorem dR.refl (a:AV):dR a a:=fun _ _ _ _ h=>h
theorem dR.of {a b:AV} (h:a=b):dR a b:=h ▸ .refl a
theorem dR.nil (b:Bool):dR (.fl (.slice none 0 0)) (.sl [] b):=fun _ _ _ u h=>by
 rw [h.iH.1]
 exact .d .nil
theorem dR.full {els:List (List AV)} {f:Bool}:dR (.sl els f) (.sl els false):=fun _ _ _ u h=>by
 have h:=h.deep rfl
 cases h with
 | nil=>exact .d .nil
 | sl h1 h2 h3 h4 h5 h6 h7=>exact .d (.sl h1 h2 h3 h4 h5 h6 (fun h=>by cases h))
def AP (fr:Nat→AV):List (Nat × AV)→Prop
 | []=>True
 | (i,v) :: l=>dR (fr i) v∧AP fr l
theorem zm {fr:Nat→AV}:∀ {l:List (Nat × AV)},AP fr l→∀ t,dR (fr t) (aX l t)
 | [],_,t=>fun _ _ _ _ _=>.cv
 | (i,v) :: l,h,t=>by
  unfold aX
  rw [Tr.beq_eq]
  by_cases hti:t=i
  ·rw [decide_eq_true hti,hti]
   exact h.1
  ·rw [decide_eq_false hti]
   exact zm h.2 t
variable {T : cr} {tab : List XE} {one : Bool}
theorem ai.soft {st:cy} {l:List (Nat × AV)} (h:AP st.fr l):ai st ⟨aX l,st.hp,st.aJ,st.rd,st.fl⟩ :=
 ⟨rfl,fun E _ _ hs=>⟨E,⟨hs.h,hs.rd,fun t=>zm h t _ _ _ _ (hs.fr t)⟩,.refl⟩⟩
theorem ai.MI {st:cy} {l:List (Nat × AV)} {hp:List AB} (n:Nat) (hh:st.hp.take n=hp) (hs:AP st.fr l) (hn:st.fl≤n) (hl:(l.all fun p=>p.2.di n)=true) (hb:hp.all (AB.di n)=true):ai st ⟨aX l,hp,st.aJ,st.rd,st.fl⟩:=by
 subst hh
 exact (ai.soft hs).trans (ai.cut hn (wX hl) hb)
def i6:List AV→List AV→Prop
 | [],[]=>True
 | a :: l,b :: m=>dR a b∧i6 l m
 | _,_=>False
theorem i6.MJ {a x:AV} (h:dR a x):i6 [a] [x]:=⟨h,trivial⟩
theorem i6.two {a b x y:AV} (h:dR a x) (k:dR b y):i6 [a,b] [x,y]:=⟨h,k,trivial⟩
theorem i6.three {a b c x y z:AV} (h:dR a x) (k:dR b y) (l:dR c z):i6 [a,b,c] [x,y,z]:=⟨h,k,l,trivial⟩
theorem i6.cons {a x:AV} {as xs:List AV} (h:dR a x) (k:i6 as xs):i6 (a :: as) (x :: xs):=⟨h,k⟩
theorem i6.nil:i6 [] []:=trivial
theorem i6.Bs {ρ:Nat→Nat→Option Nat} {g:aI} {O:Nat→Prop}:∀ {as bs:List AV} {us:List Value},i6 as bs→gI ρ g O as us→gI ρ g O bs us
 | [],[],_,_,h=>h
 | a :: as,b :: bs,[],_,h=>absurd h.1 (by simp)
 | a :: as,b :: bs,u :: us,hs,h=>by
  have:=i6.Bs hs.2 (us:=us) ⟨by simpa using h.1,fun i a u x y=>h.2 (i+1) a u (by simpa using x) (by simpa using y)⟩
  refine ⟨by simp [this.1],fun i c w hc hw=>?_⟩
  cases i with
  | zero=>cases hc;cases hw;exact hs.1 _ _ _ _ (h.2 0 a u rfl rfl)
  | succ i=>exact this.2 i c w (by simpa using hc) (by simpa using hw)
 | [],_ :: _,_,hs,_=>hs.elim
 | _ :: _,[],_,hs,_=>hs.elim
theorem bl.soft {F:AV} {args vs:List AV} {hp:List AB} {aJ:bN} {Q:AV→List AB→bN→Prop} (hs:i6 args vs) (h:bl T tab one F vs hp aJ Q):bl T tab one F args hp aJ Q :=
 fun E base H u us hr hf ha=>h E base H u us hr hf (hs.Bs ha)
theorem bO {mu:Tmp→Bool} {st:cy} {K:Exit→cy→Prop} (h:K .normal st):mT T tab one mu .skip st K:=h
theorem bg {mu:Tmp→Bool} {a b:Code} {st:cy} {K:Exit→cy→Prop} (h:mT T tab one mu a st (yH (fun s=>mT T tab one mu b s K) K)):mT T tab one mu (.seq a b) st K:=h
theorem fK {mu:Tmp→Bool} {id:Nat} {c:Code} {st:cy} {K:Exit→cy→Prop} (h:mT T tab one mu c st (jx id K)):mT T tab one mu (.block id c) st K:=h
theorem w4 {mu:Tmp→Bool} {id:Nat} {ops:Array Oper} {st:cy} {K:Exit→cy→Prop} (h:AO T tab one mu ops (gF ops) st (K .normal)):mT T tab one mu (.region id ops true) st K:=h
theorem aT {mu:Tmp→Bool} {id:Nat} {ops:Array Oper} {st:cy} {K:Exit→cy→Prop} (h:wpOps T tab one mu ops.toList ops.toList st (K .normal)):mT T tab one mu (.region id ops false) st K:=h
theorem aU {Q:cy→Prop} {K:Exit→cy→Prop} {s:cy} (h:Q s):yH Q K .normal s:=h
theorem ej.fl (v:Value):ej (.fl v):=⟨rfl,fun _ _ _ _ h=>by cases h with|fl h=>exact .fl h⟩
theorem ej.list {l:List AV} (h:∀ a ∈ l,ej a) {g:aI} {O O':Nat→Prop} {us:List Value} (hd:∀ (i:Nat) (a:AV) (u:Value),l[i]?=some a→us[i]?=some u→DR g O a u) :
 ∀ (i:Nat) (a:AV) (u:Value),l[i]?=some a→us[i]?=some u→DR g O' a u:=fun i a u h1 h2=>(h a (List.mem_of_getElem? h1)).2 g O O' u (hd i a u h1 h2)
theorem CB {l:List AV} (h:∀ a ∈ l,a.deep=true):bw l=true:=by
 induction l with
 | nil=>rfl
 | cons a l ih =>
  simp only [bw,Bool.and_eq_true]
  exact ⟨h a (by simp),ih fun b hb=>h b (List.mem_cons_of_mem _ hb)⟩
theorem ej.tp {l:List AV} (h:∀ a ∈ l,ej a):ej (.tp l):=⟨by simp only [AV.deep];exact CB fun a ha=>(h a ha).1,fun _ _ _ _ hd=>by
 cases hd with
 | tp h1 h2=>exact .tp h1 (ej.list h h2)⟩
theorem ej.ag {l:List AV} (h:∀ a ∈ l,ej a):ej (.ag l):=⟨by simp only [AV.deep];exact CB fun a ha=>(h a ha).1,fun _ _ _ _ hd=>by
 cases hd with
 | ag h1 h2=>exact .ag h1 (ej.list h h2)⟩
theorem rM.MJ {hp:List AB} {a x:AV} (h:Fz hp a x):rM hp [a] [x]:=⟨h,trivial⟩
theorem rM.two {hp:List AB} {a b x y:AV} (h:Fz hp a x) (k:Fz hp b y):rM hp [a,b] [x,y]:=⟨h,k,trivial⟩
theorem rM.three {hp:List AB} {a b c x y z:AV} (h:Fz hp a x) (k:Fz hp b y) (l:Fz hp c z):rM hp [a,b,c] [x,y,z]:=⟨h,k,l,trivial⟩
theorem rM.cons {hp:List AB} {a x:AV} {as xs:List AV} (h:Fz hp a x) (k:rM hp as xs):rM hp (a :: as) (x :: xs):=⟨h,k⟩
theorem rM.nil {hp:List AB}:rM hp [] []:=trivial
theorem af.F3 {F:AV} {args vs:List AV} {v:AV} {hp:List AB} {aJ:bN} (h:af T tab one F vs v) (hF:F.deep=true) (hz:rM hp args vs) (hfree:ej v) {Q:AV→List AB→bN→Prop} (hq:Q v hp aJ):bl T tab one F args hp aJ Q:=by
 intro E base H u us hr hf ha
 obtain ⟨hd,h⟩:=h
 obtain ⟨goal,hg,m,L,h1,h2,h3⟩:=h E.X H u us hr.wf (fun k hk=>hr.xn k hk) ((hf.deep hF).mono fun k b hk ho=>⟨hk,fun hx=>ho (.inr hx)⟩) (hz.dr hr (fun _ h=>h) ha)
 refine ⟨goal,hg,m,L,h1,h2,fun r hm=>?_⟩
 obtain ⟨w,H',rfl,hn,hwf,hsame,hlo,hv⟩:=h3 r hm
 have e:Ext base E hp H E hp H':=⟨hn,rfl,rfl,rfl,fun _ _ _ h=>h,fun _ h=>.inl h,fun k hk _=>hsame k hk,by have:=hr.bn;omega⟩
 refine ⟨w,H',rfl,E,v,hp,aJ,hq,⟨hwf,fun j x aD hj hvx=>?_,hr.inj,fun j v k hk=>Nat.lt_of_lt_of_le (hr.rn j v k hk) hn,hr.fresh,hr.new,hr.sup,hr.jh,hr.dx,hr.ds,fun k hk=>Nat.lt_of_lt_of_le (hr.sn k hk) hn,fun k hk=>Nat.lt_of_lt_of_le (hr.xn k hk) hn,hr.qG,Nat.le_trans hr.bn hn,aJ.st hr.aJ (fun k hk=>hsame k (hr.sn k hk)) hn⟩,.d (hfree.2 _ _ _ _ hv),e.JH⟩
 rcases hr.iy j x aD hj hvx with ⟨k,b',q1,q2,q3⟩|q
 ·exact .inl ⟨k,b',q1,by rw [hsame k (hr.wf.lt q2)];exact q2,e.br hr.wf q3⟩
 ·exact .inr q
end Go.RM
namespace Go.RM
open Go
section
variable {T : cr} {tab : List XE} {one : Bool} {fl base base1 : Nat} {E E' E1 E2 E4 : Env} {hp hp' hp1 hp2 hp4 : List AB} {aJ amb' amb4 : bN} {H H' H1 H2 H4 : Hp} {ρ ρ' : Nat → Nat → Option Nat} {g g' : aI} {O O' : Nat → Prop}
theorem BR.mono {b:AB} {b':bE} (h:BR ρ g O b b') (hr:∀ j v k,ρ j v=some k→ρ' j v=some k) (hg:∀ k b,g k=some b→¬ O k→g' k=some b∧¬ O' k):BR ρ' g' O' b b':=by
 cases b with
 | cells cs es aD=>obtain ⟨cs',rfl,h⟩:=h;exact ⟨cs',rfl,h.mono hr hg⟩
 | dZ s p=>exact h
 | map ents clock =>
  obtain ⟨es,rfl,h1,h2⟩:=h
  exact ⟨es,rfl,h1,fun i k v born x hx hy=>⟨(h2 i k v born x hx hy).1.mono hr hg,(h2 i k v born x hx hy).2.1.mono hr hg,(h2 i k v born x hx hy).2.2⟩⟩
 | iter j since seen stepped=>obtain ⟨m,rfl,h⟩:=h;exact ⟨m,rfl,hr _ _ _ h⟩
 | gone=>exact h
theorem aY.view (h:aY E base hp aJ H) {X':Nat→Prop} (hwf:Wf H1) (hn:H.n≤H1.n) (hX:∀ k,E.X k→X' k) (hX2:∀ k,X' k→E.X k∨H.n≤k) (hXn:∀ k,X' k→k < H1.n)
  (heq:∀ k,k < H.n→(¬ E.X k∨E.S k)→H1.get k=H.get k) (hb:∀ k,Own E.ρ hp k∨E.D k→base1≤k) (hbn:base1≤H1.n):aY {E with X:=X'} base1 hp aJ H1:=by
 have keep:∀ k b,H.get k=some b→¬ E.O hp k→H1.get k=some b∧¬ ({E with X:=X'}:Env).O hp k:=fun k b hk ho=>by
  have hlt:=h.wf.lt hk
  refine ⟨by rw [heq k hlt (.inl fun hx=>ho (.inr hx))];exact hk,fun ho'=>?_⟩
  rcases ho' with h1|h1
  ·exact ho (.inl h1)
  ·rcases hX2 k h1 with h2|h2
   ·exact ho (.inr h2)
   ·omega
 refine ⟨hwf,fun j x aD hj hv=>?_,h.inj,fun j v k hk=>Nat.lt_of_lt_of_le (h.rn j v k hk) hn,h.fresh,h.new,h.sup,fun k hk hx=>?_,fun k hd=>hX k (h.dx k hd),h.ds,fun k hk=>Nat.lt_of_lt_of_le (h.sn k hk) hn,hXn,hb,hbn,aJ.st h.aJ (fun k hk=>heq k (h.sn k hk) (.inr hk)) hn⟩
 ·rcases h.iy j x aD hj hv with ⟨k,b',q1,q2,q3⟩|q
  ·have hok:Own E.ρ hp k:=⟨j,x,aD,hj,hv,q1⟩
   exact .inl ⟨k,b',q1,by rw [heq k (h.wf.lt q2) (.inl (h.jh k hok))];exact q2,q3.mono (fun _ _ _ h=>h) keep⟩
  ·exact .inr q
 ·rcases hX2 k hx with h2|h2
  ·exact h.jh k hk h2
  ·have:=h.nj hk;omega
theorem aY.HS (h:aY E base hp aJ H):aY E 0 hp aJ H:={h with qG:=fun _ _=>Nat.zero_le _,bn:=Nat.zero_le _}
theorem lW.HS (h:lW fl base E hp H E' hp' H'):lW fl 0 E hp H E' hp' H':={h with lo:=by omega}
def HT (fl0:Nat) (E0:Env) (hp0:List AB) (H0:Hp) (iy:bE) (Q:List AB→bN→Prop):bN where
 P D S g n:=(∀ k,k≤H0.n→S k)∧g H0.n=some iy∧∃ (E':Env) (b':Nat) (hp':List AB) (amb':bN) (H':Hp),Q hp' amb'∧aY E' b' hp' amb' H'∧lW fl0 0 E0 hp0 H0 E' hp' H'∧H'.n≤n∧(E'.X H0.n∧¬ E'.S H0.n) ∧
  (∀ k,k < H'.n→S k∨E'.X k)∧(∀ k,E'.S k→S k)∧(∀ k,S k→k ≠ H0.n→g k=H'.get k)∧(∀ k,Own E'.ρ hp' k∨E'.D k∨k=H0.n→D k)
 st:=by
  rintro D S g g' n n' ⟨h1,h2,E',b',hp',amb',H',q1,q2,q3,q4,q5,q6,q7,q8,q9⟩ hs hn
  exact ⟨h1,by rw [hs _ (h1 _ (Nat.le_refl _))];exact h2,E',b',hp',amb',H',q1,q2,q3,Nat.le_trans q4 hn,q5,q6,q7,fun k hk hne=>by rw [hs k hk];exact q8 k hk hne,q9⟩
theorem F4 {fl0:Nat} {E0:Env} {hp0:List AB} {H0:Hp} {iy blk' b0:bE} {Q Q':List AB→bN→Prop} (hr:aY E1 base1 hp (HT fl0 E0 hp0 H0 iy Q) H)
  (hX:∀ k,k < H.n→E1.S k∨E.X k) (hXl:E.X H0.n) (hSl:¬ E.S H0.n) (hS:∀ k,E.S k→E1.S k) (hD:∀ k,Own E.ρ hp1 k∨E.D k∨k=H0.n→E1.D k) (hlow:∀ k,k≤H0.n→E1.S k)
  (f0:lW fl0 0 E0 hp0 H0 E hp1 H) (h4:aY E4 base1 hp4 amb4 H4) (F:lW fl0 base1 E hp1 (H.put H0.n b0) E4 hp4 H4) (hQ:Q' hp4 amb4) :
  ∃ E5,aY E5 base1 hp (HT fl0 E0 hp0 H0 blk' Q') (H4.put H0.n blk')∧lW hp.length base1 E1 hp H E5 hp (H4.put H0.n blk'):=by
 have hln:H0.n < H.n:=hr.sn _ (hlow _ (Nat.le_refl _))
 have hn:H.n≤H4.n:=F.n
 have hD1:E1.D H0.n:=hD _ (.inr (.inr rfl))
 have same:∀ k,k < H.n→¬ E1.D k→(H4.put H0.n blk').get k=H.get k:=fun k hk hd=>by
  have hne:k ≠ H0.n:=fun e=>hd (e ▸ hD1)
  rw [cg hne,F.same k hk (fun h=>hd (hD k (.inl h))) (fun h=>hd (hD k (.inr (.inl h)))),cg hne]
 let X':Nat→Prop:=fun k=>E1.X k∨(H.n≤k∧k < H4.n)
 let S':Nat→Prop:=fun k=>E1.S k∨(H.n≤k∧k < H4.n)
 let D':Nat→Prop:=fun k=>E1.D k∨(H.n≤k∧(Own E4.ρ hp4 k∨E4.D k))
 have hnew:∀ k,Own E4.ρ hp4 k∨E4.D k→k < H4.n:=fun k h=>h.elim (fun h=>h4.nj h) (fun h=>h4.sn k (h4.ds k h))
 have keep:∀ k b,H.get k=some b→¬ E1.O hp k→(H4.put H0.n blk').get k=some b∧¬ (⟨E1.ρ,D',S',X'⟩:Env).O hp k:=fun k b hk ho=>by
  have hlt:=hr.wf.lt hk
  refine ⟨by rw [same k hlt (fun hd=>ho (.inr (hr.dx k hd)))];exact hk,fun ho'=>?_⟩
  rcases ho' with h1|h1|h1
  ·exact ho (.inl h1)
  ·exact ho (.inr h1)
  ·omega
 refine ⟨⟨E1.ρ,D',S',X'⟩,⟨fun k hk=>?_,fun j x aD hj hv=>?_,hr.inj,fun j v k hk=>Nat.lt_of_lt_of_le (hr.rn j v k hk) hn,hr.fresh,hr.new,fun k hk hs=>?_,fun k hk hx=>?_,fun k hd=>?_,fun k hd=>?_,fun k hs=>?_,fun k hx=>?_,fun k hd=>?_,Nat.le_trans hr.bn hn,?_⟩,
  ⟨hn,fun _ _ _ _ h=>h,fun k hk=>.inl hk,fun k hd=>hd.imp id And.left,fun k hd=>hd.imp id And.left,fun k hx=>.inl hx,fun k hd=>hd.imp id And.left,fun k hk _ hd=>same k hk hd,?_⟩⟩
 ·have hk:H4.n≤k:=hk
  rw [cg (by omega)];exact h4.wf k hk
 ·rcases hr.iy j x aD hj hv with ⟨k,b',q1,q2,q3⟩|q
  ·have hok:Own E1.ρ hp k:=⟨j,x,aD,hj,hv,q1⟩
   exact .inl ⟨k,b',q1,by rw [same k (hr.wf.lt q2) (fun hd=>hr.jh k hok (hr.dx k hd))];exact q2,q3.mono (fun _ _ _ h=>h) keep⟩
  ·exact .inr q
 ·rcases hs with h1|h1
  ·exact hr.sup k hk h1
  ·have:=hr.nj hk;omega
 ·rcases hx with h1|h1
  ·exact hr.jh k hk h1
  ·have:=hr.nj hk;omega
 ·rcases hd with h1|h1
  ·exact .inl (hr.dx k h1)
  ·exact .inr ⟨h1.1,hnew k h1.2⟩
 ·rcases hd with h1|h1
  ·exact .inl (hr.ds k h1)
  ·exact .inr ⟨h1.1,hnew k h1.2⟩
 ·rcases hs with h1|h1
  ·exact Nat.lt_of_lt_of_le (hr.sn k h1) hn
  ·exact h1.2
 ·rcases hx with h1|h1
  ·exact Nat.lt_of_lt_of_le (hr.xn k h1) hn
  ·exact h1.2
 ·rcases hd with h1|h1|h1
  ·exact hr.qG k (.inl h1)
  ·exact hr.qG k (.inr h1)
  ·exact h4.qG k h1.2
 ·have f0':lW fl0 0 E0 hp0 H0 E hp1 (H.put H0.n b0):=⟨f0.n,f0.Ce,f0.own,f0.d,f0.x,f0.xk,f0.s,fun k hk h1 h2=>by rw [cg (by omega)];exact f0.same k hk h1 h2,by omega⟩
  refine ⟨fun k hk=>.inl (hlow k hk),i4,E4,base1,hp4,amb4,H4,hQ,h4,f0'.trans F.HS,Nat.le_refl _,⟨F.xk _ hXl,fun hs=>?_⟩,fun k hk=>?_,fun k hs=>?_,fun k _ hne=>cg hne,fun k hk=>?_⟩
  ·rcases F.s _ hs with h1|h1
   ·exact hSl h1
   ·have:H.n≤H0.n:=h1;omega
  ·by_cases hlt:k < H.n
   ·exact (hX k hlt).imp .inl (F.xk k)
   ·exact .inl (.inr ⟨by omega,hk⟩)
  ·rcases F.s k hs with h1|h1
   ·exact .inl (hS k h1)
   ·exact .inr ⟨h1,h4.sn k hs⟩
  ·rcases hk with h1|h1|h1
   ·rcases F.own k h1 with h2|h2
    ·exact .inl (hD k (.inl h2))
    ·exact .inr ⟨h2,.inl h1⟩
   ·rcases F.d k h1 with h2|h2
    ·exact .inl (hD k (.inr (.inl h2)))
    ·exact .inr ⟨h2,.inr h1⟩
   ·exact .inl (hD k (.inr (.inr h1)))
 ·have h1:=F.lo
  have h2:=hr.qG _ (.inr hD1)
  have h3:(H.put H0.n b0).lo=min H.lo H0.n:=rfl
  have h4:(H4.put H0.n blk').lo=min H4.lo H0.n:=rfl
  omega
def DO (T:cr) (tab:List XE) (one:Bool) (u:Value) (x:List AV) (a:bN) (Q:Bool→bN→Prop):Prop :=
 ∀ hp,bl T tab one (.oq u) x hp a fun v hp' a'=>hp'=hp∧∃ b,v=.fl (.bool b)∧Q b a'
def DP (J:bN) (Stop:bN→Prop) (b:Bool) (a:bN):Prop:=(b=true∧a=J)∨(b=false∧Stop a)
def lD (T:cr) (tab:List XE) (one:Bool) (F:AV) (xs:List (List AV)):Prop :=
 (∃ f a b,F=.fn f a b)∧F.deep=true∧(∀ x ∈ xs,∀ a ∈ x,ej a)∧∀ (u:Value) (J:Nat→bN) (Stop:bN→Prop),(∀ (i:Nat) (x:List AV),xs[i]?=some x→DO T tab one u x (J i) (DP (J (i+1)) Stop)) →
  bl T tab one F [.oq u] [] (J 0) fun _ _ a'=>a'=J xs.length∨Stop a'
def NS (T:cr) (rs:List ResultVar) (Q:bN→Prop) (e:Exit) (s:cy):Prop :=
 match e with
 | .normal|.ret=>qH T s rs fun _=>Q s.aJ
 | _=>False
theorem lD.body {f:FuncId} {fn:Func} {c:Code} {first caps:List AV} {xs:List (List AV)} (hf:T.fn.get f=some fn) (hb:fn.body=some c) (hn:noEntry tab f=true) (hd:(AV.fn f first caps).deep=true) (hfree:∀ x ∈ xs,∀ a ∈ x,ej a)
  (hw:∀ (u:Value) (J:Nat→bN) (Stop:bN→Prop),(∀ (i:Nat) (x:List AV),xs[i]?=some x→DO T tab one u x (J i) (DP (J (i+1)) Stop)) →
   az T tab one c ⟨Cu (first++[.oq u]++caps),[],J 0,false,0⟩ (NS T fn.results.toList fun a'=>a'=J xs.length∨Stop a')):lD T tab one (.fn f first caps) xs:=by
 refine ⟨⟨f,first,caps,rfl⟩,hd,hfree,fun u J Stop hy E base H v us hr hF ha=>?_⟩
 have hF:=hF.deep hd
 cases hF with
 | fn l1 l2 d1 d2 =>
  rename_i a' b'
  have hall:gI E.ρ H.get (E.O []) (first++[.oq u]++caps) (a'.toList++us++b'.toList):=gI.append (gI.append (rL.Bs ⟨l1,d1⟩) ha) (rL.Bs ⟨l2,d2⟩)
  refine ⟨.fn f (a'.toList++us++b'.toList),rfl,?_⟩
  obtain ⟨m,L,h1,h2,h3⟩:=hw u J Stop hy E base ⟨setArgs .leaf 0 (a'.toList++us++b'.toList),H,false⟩ ⟨hr,rfl,wY hall⟩
  obtain ⟨m',M,hm,q1,q2,q3⟩:=fI (one:=one) (L:=L) (f:=fun _ (p:Exit × St)=>fQ T fn.results.toList p) (P:=fun r=>∃ w H',r=.ret w H'∧∃ E' a hp' amb',(amb'=J xs.length∨Stop amb')∧aY E' base hp' amb' H'∧AR E'.ρ H'.get (E'.O hp') a w∧lW ([]:List AB).length base E [] H E' hp' H')
   (fun _ _ _ _ _ h=>h) m h2 (fun p hp=>by
    obtain ⟨E',st',k1,_,k2,k3⟩:=h3 p hp
    obtain ⟨e,s'⟩:=p
    have done:(e=.normal∨e=.ret)→(qH T st' fn.results.toList fun _=>st'.aJ=J xs.length∨Stop st'.aJ)→∃ (_:Nat) (M:List ia),fQ T fn.results.toList (e,s')=some M∧rm one M fun r=>∃ w H',r=.ret w H'∧∃ E' a hp' amb',(amb'=J xs.length∨Stop amb')∧aY E' base hp' amb' H'∧AR E'.ρ H'.get (E'.O hp') a w∧lW ([]:List AB).length base E [] H E' hp' H':=by
     intro he hr
     obtain ⟨ws,as,r1,r2,r3⟩:=mz k2 hr
     refine ⟨0,[.ret (dy ws) s'.hp],?_,.single ⟨_,_,rfl,E',.cv,st'.hp,st'.aJ,r2,k2.h,.cv,k3⟩⟩
     unfold fQ
     rcases he with rfl|rfl <;> simp only [r1,Option.map_some]
    cases e with
    | normal=>exact done (.inl rfl) k1
    | ret=>exact done (.inr rfl) k1
    | _=>exact k1.elim)
  refine ⟨m'+1,M,?_,q2,q3⟩
  show RX T tab (m'+1) (.call f _ H)=_
  rw [Av,qa _ _ hn]
  simp only
  rw [k8,hf]
  simp only [hb]
  rw [fH (gy hm) _ _ _ h1]
  exact q1
def EI (fr:Nat→AV):List (Tmp × AV)→Nat→AV
 | []=>fr
 | (d,v) :: l=>EI (fun t=>bif Nat.beq t d then v else fr t) l
theorem CC:∀ (ps:List Tmp) {x:List AV} {us:List Value} {fr:Nat→AV} {tm:Tr Value},mP ρ g O fr tm→gI ρ g O x us→mP ρ g O (EI fr (ps.zip x)) (fy tm (ps.zip us))
 | [],_,_,_,_,h,_=>h
 | p :: ps,[],[],_,_,h,_=>h
 | p :: ps,a :: x,u :: us,fr,tm,h,ha=>by
  simp only [List.zip_cons_cons,EI,fy]
  exact CC ps (sS h (ha.2 0 a u rfl rfl) (some p)) ⟨by simpa using ha.1,fun i a u x y=>ha.2 (i+1) a u (by simpa using x) (by simpa using y)⟩
 | p :: ps,[],_ :: _,_,_,_,ha=>absurd ha.1 (by simp)
 | p :: ps,_ :: _,[],_,_,_,ha=>absurd ha.1 (by simp)
def Ot (P:cy→Prop) (e:Exit) (s:cy):Prop :=
 match e with
 | .normal=>s.rd=true∧P s
 | _=>False
def LG (K:Exit→cy→Prop) (st:cy) (hpn:List AB) (an:bN) (pn:Prop) (e:Exit) (s:cy):Prop :=
 match e with
 | .normal=>pn∧∃ fr',ai s ⟨fr',hpn,an,s.rd,s.fl⟩
 | .ret=>K .ret ⟨st.fr,s.hp,s.aJ,st.rd,st.fl⟩
 | .exit id=>K (.exit id) ⟨st.fr,s.hp,s.aJ,st.rd,st.fl⟩
 | _=>False
theorem w5 {a b:Rec} (h:ji a b) {l:Nat} {bd:Code} {p:Exit × St} {M:List ia} (e:cZ T a l bd p=some M):cZ T b l bd p=some M:=by
 unfold cZ at e ⊢
 split at e
 ·split at e
  ·rename_i pend2 fr2 ps2 as2 bd2 hl2
   cases hq:bJ T a bd ⟨p.2.fr,p.2.hp.put l (.loop .busy pend2 fr2 ps2 as2 bd2),true⟩ with
   | none=>rw [hq] at e;cases e
   | some M2=>rw [hq] at e;rw [fH h _ _ _ hq];exact e
  ·cases e
 ·cases e
theorem ai.MK {st:cy} {fr':Nat→AV} {hp:List AB} {a:bN} {rd:Bool} {n:Nat} (h:ai st ⟨fr',hp,a,rd,n⟩) {s:St} (hs:qp E base st s):∃ E',aY E' base hp a s.hp∧lW st.fl base E st.hp s.hp E' hp s.hp:=by
 obtain ⟨E',h1,h2⟩:=h.2 E base s hs
 exact ⟨E',h1.h,h2⟩
theorem az.range {f:Operand} {ps:Array Tmp} {as bd:Code} {st:cy} {K:Exit→cy→Prop} {xs:List (List AV)} (Hs:Nat→List AB) (As:Nat→bN) (Ps:Nat→Prop) {rdv:Bool} (hrd:st.rd=rdv) (hgen:lD T tab one (aQ st.fr f) xs) (h0:Hs 0=st.hp) (ha0:As 0=st.aJ) (hp0:Ps 0)
  (hround:∀ (i:Nat) (x:List AV),xs[i]?=some x→Ps i→x.length=ps.toList.length∧az T tab one as ⟨EI st.fr (ps.toList.zip x),Hs i,As i,true,st.hp.length⟩ (Ot fun s=>az T tab one bd s (LG K st (Hs (i+1)) (As (i+1)) (Ps (i+1)))))
  (hend:Ps xs.length→K .normal ⟨st.fr,Hs xs.length,As xs.length,rdv,st.fl⟩):az T tab one (.rangeFunc f ps as bd) st K:=by
 intro E base s hs
 obtain ⟨⟨gf,ga,gb,hF⟩,jk,hfree,hgen⟩:=hgen
 subst hrd
 let l:=s.hp.n
 let LP:bE→(List AB→bN→Prop)→bN:=HT st.hp.length E st.hp s.hp
 let blkR:bE:=.loop .ready none s.fr ps as bd
 let J:Nat→bN:=fun i=>LP blkR fun hp' amb'=>hp'=Hs i∧amb'=As i∧Ps i
 let Stop:bN→Prop:=fun a=>∃ pend e,((e=Exit.ret∧pend=Code.ret)∨∃ id,e=Exit.exit id∧pend=Code.exit id)∧a=LP (.loop .done (some pend) s.fr ps as bd) fun hp' amb'=>K e ⟨st.fr,hp',amb',st.rd,st.fl⟩
 let u:Value:=.func (.yield l) #[] #[]
 have hy:∀ (i:Nat) (x:List AV),xs[i]?=some x→DO T tab one u x (J i) (DP (J (i+1)) Stop):=by
  intro i x hx hp E1 base1 H w us hr hw ha
  have hwu:w=u:=by
   cases hw with
   | d h=>cases h;rfl
  subst hwu
  obtain ⟨hlow,hl,E',b',hp',amb',H',⟨rfl,rfl,hPi⟩,q2,q3,q4,⟨q5,q5'⟩,q6,q7,q8,q9⟩:=hr.aJ
  obtain ⟨hxl,hround⟩:=hround i x hx hPi
  refine ⟨.yield l ([]++us),rfl,?_⟩
  rw [List.nil_append]
  have hln:l < H.n:=hr.sn _ (hlow _ (Nat.le_refl _))
  let X2:Nat→Prop:=fun k=>E'.X k∨(k < H.n∧¬ E1.S k)
  have hv:aY {E' with X:=X2} base1 (Hs i) (As i) H:=q2.view hr.wf q4 (fun k h=>.inl h) (fun k h=>by
    rcases h with h|h
    ·exact .inl h
    ·by_cases hk:k < H'.n
     ·exact .inl ((q6 k hk).resolve_left h.2)
     ·exact .inr (by omega)) (fun k h=>h.elim (fun h=>Nat.lt_of_lt_of_le (q2.xn k h) q4) And.left)
   (fun k hk h=>by
    rcases h with h|h
    ·exact q8 k ((q6 k hk).resolve_right h) (fun e=>h (e ▸ q5))
    ·exact q8 k (q7 k h) (fun e=>q5' (e ▸ h))) (fun k hk=>hr.qG k (.inr (q9 k (hk.imp id .inl)))) hr.bn
  have f0:lW st.hp.length 0 E st.hp s.hp {E' with X:=X2} (Hs i) H:=⟨Nat.le_trans q3.n q4,q3.Ce,q3.own,q3.d,fun k h=>by
    rcases h with h|h
    ·exact q3.x k h
    ·by_cases hk:k < s.hp.n
     ·exact absurd (hlow k (Nat.le_of_lt hk)) h.2
     ·exact .inr (by omega),fun k h=>.inl (q3.xk k h),q3.s,fun k hk h1 h2=>by rw [q8 k (hlow k (Nat.le_of_lt hk)) (by omega)];exact q3.same k hk h1 h2,by omega⟩
  have hfrm:mP E'.ρ H.get (({E' with X:=X2}:Env).O (Hs i)) st.fr s.fr:=fun t=>f0.ar hs.h.HS (hs.fr t)
  have hargs:gI E'.ρ H.get (({E' with X:=X2}:Env).O (Hs i)) x us:=⟨ha.1,fun i a u h1 h2=>.d ((hfree x (List.mem_of_getElem? hx) a (List.mem_of_getElem? h1)).2 _ _ _ _ ((ha.2 i a u h1 h2).deep (hfree x (List.mem_of_getElem? hx) a (List.mem_of_getElem? h1)).1))⟩
  obtain ⟨m1,L1,a1,a2,a3⟩:=hround {E' with X:=X2} base1 ⟨fy s.fr (ps.toList.zip us),H,true⟩ ⟨hv,rfl,CC _ hfrm hargs⟩
  have hXl2:X2 s.hp.n:=.inl q5
  obtain ⟨m,M,hm,z1,z2⟩:=fI (one:=one) (L:=L1) (f:=fun m (p:Exit × St)=>cZ T (RX T tab m) l bd p) (P:=fun r=>∃ w H',r=.ret w H'∧∃ E5 a hp5 amb5,(hp5=hp∧∃ b,a=.fl (.bool b)∧DP (J (i+1)) Stop b amb5)∧aY E5 base1 hp5 amb5 H'∧AR E5.ρ H'.get (E5.O hp5) a w∧lW hp.length base1 E1 hp H E5 hp5 H')
   (fun n m x M hnm hx=>w5 (gy hnm) hx) m1 a2 (fun p hp0=>by
    obtain ⟨E2,st2,k1,k2,k3,k4⟩:=a3 p hp0
    obtain ⟨e,p⟩:=p
    cases e with
    | normal =>
     obtain ⟨hrd2,hbd⟩:=k1
     have gl:p.hp.get l=some blkR:=by
      rw [k4.same l hln (fun h=>hv.jh _ h hXl2) (fun h=>q5' (q2.ds _ h))];exact hl
     have hl2:l < p.hp.n:=Nat.lt_of_lt_of_le hln k4.n
     have hX2l:E2.X l:=k4.xk l hXl2
     have hS2l:¬ E2.S l:=fun h=>by
      rcases k4.s l h with h|h
      ·exact q5' h
      ·have:H.n≤l:=h;omega
     let bB:bE:=.loop .busy none s.fr ps as bd
     have hv2:aY E2 base1 st2.hp st2.aJ (p.hp.put l bB):=k3.h.view (X':=E2.X) (fun k hk=>by
       have hk:p.hp.n≤k:=hk
       rw [cg (by omega)];exact k3.h.wf k hk) (Nat.le_refl _) (fun _ h=>h) (fun _ h=>.inl h) k3.h.xn (fun k hk h=>cg fun e=>by
       subst e
       exact h.elim (fun h=>h hX2l) hS2l) k3.h.qG k3.h.bn
     have har2:mP E2.ρ (p.hp.put l bB).get (E2.O st2.hp) st2.fr p.fr:=fun t=>(k3.fr t).mono (fun _ _ _ h=>h) (fun k b hk ho=>⟨by rw [cg (fun e=>by subst e;exact ho (.inr hX2l))];exact hk,ho⟩)
     obtain ⟨m2,L2,b1,b2,b3⟩:=hbd E2 base1 ⟨p.fr,p.hp.put l bB,true⟩ ⟨hv2,hrd2.symm,har2⟩
     have F1:lW st.hp.length base1 {E' with X:=X2} (Hs i) (H.put l bB) E2 st2.hp (p.hp.put l bB):=⟨k4.n,k4.Ce,k4.own,k4.d,k4.x,k4.xk,k4.s,fun k hk h1 h2=>by
       by_cases hkl:k=l
       ·subst hkl;rw [i4,i4]
       ·rw [cg hkl,cg hkl];exact k4.same k hk h1 h2,by
       have h5:min H.lo base1≤p.hp.lo:=k4.lo
       have h3:(H.put l bB).lo=min H.lo l:=rfl
       have h4:(p.hp.put l bB).lo=min p.hp.lo l:=rfl
       omega⟩
     have back:∀ {E4:Env} {hp4:List AB} {amb4:bN} {q:St} (blk':bE) {Q':List AB→bN→Prop},aY E4 base1 hp4 amb4 q.hp→lW st.hp.length base1 E2 st2.hp (p.hp.put l bB) E4 hp4 q.hp→Q' hp4 amb4 →
       ∃ E5,aY E5 base1 hp (LP blk' Q') (q.hp.put l blk')∧lW hp.length base1 E1 hp H E5 hp (q.hp.put l blk'):=by
      intro E4 hp4 amb4 q blk' Q' h4 f4 hQ
      exact F4 (E:={E' with X:=X2}) hr (fun k hk=>by
        by_cases hs1:E1.S k
        ·exact .inl hs1
        ·exact .inr (.inr ⟨hk,hs1⟩)) hXl2 q5' q7 q9 hlow f0 h4 (F1.trans f4) hQ
     refine ⟨max m2 0,?_⟩
     obtain ⟨m3,M3,hm3,y1,y2⟩:=fI (one:=one) (L:=L2) (f:=fun _ (q:Exit × St)=>gS l q) (P:=fun r=>∃ w H',r=.ret w H'∧∃ E5 a hp5 amb5,(hp5=hp∧∃ b,a=.fl (.bool b)∧DP (J (i+1)) Stop b amb5)∧aY E5 base1 hp5 amb5 H'∧AR E5.ρ H'.get (E5.O hp5) a w∧lW hp.length base1 E1 hp H E5 hp5 H')
      (fun _ _ _ _ _ h=>h) 0 b2 (fun q hq=>by
       obtain ⟨E3,st3,j1,j2,j3,j4⟩:=b3 q hq
       obtain ⟨e,q⟩:=q
       have gl2:q.hp.get l=some bB:=by
        rw [j4.same l hl2 (fun h=>hv2.jh _ h hX2l) (fun h=>hS2l (hv2.ds _ h))];exact i4
       have jfl:st2.fl=st.hp.length:=k2
       cases e with
       | normal =>
        obtain ⟨hPn,fr',hwk⟩:=j1
        obtain ⟨E4,h4,f4⟩:=hwk.MK j3
        rw [j2,jfl] at f4
        rw [jfl] at j4
        obtain ⟨E5,x1,x2⟩:=back (q:=q) (.loop .ready none s.fr ps as bd) (Q':=fun hp' amb'=>hp'=Hs (i+1)∧amb'=As (i+1)∧Ps (i+1)) h4 (j4.trans f4) ⟨rfl,rfl,hPn⟩
        exact ⟨0,[.ret (.bool true) (q.hp.put l (.loop .ready none s.fr ps as bd))],by unfold gS;simp only [gl2,bB],.single ⟨_,_,rfl,E5,.fl (.bool true),hp,_,⟨rfl,true,rfl,.inl ⟨rfl,rfl⟩⟩,x1,.d (.fl rfl),x2⟩⟩
       | ret =>
        rw [jfl] at j4
        obtain ⟨E5,x1,x2⟩:=back (q:=q) (.loop .done (some .ret) s.fr ps as bd) (Q':=fun hp' amb'=>K .ret ⟨st.fr,hp',amb',st.rd,st.fl⟩) j3.h j4 j1
        exact ⟨0,[.ret (.bool false) (q.hp.put l (.loop .done (some .ret) s.fr ps as bd))],by unfold gS;simp only [gl2,bB],.single ⟨_,_,rfl,E5,.fl (.bool false),hp,_,⟨rfl,false,rfl,.inr ⟨rfl,.ret,.ret,.inl ⟨rfl,rfl⟩,rfl⟩⟩,x1,.d (.fl rfl),x2⟩⟩
       | exit id =>
        rw [jfl] at j4
        obtain ⟨E5,x1,x2⟩:=back (q:=q) (.loop .done (some (.exit id)) s.fr ps as bd) (Q':=fun hp' amb'=>K (.exit id) ⟨st.fr,hp',amb',st.rd,st.fl⟩) j3.h j4 j1
        exact ⟨0,[.ret (.bool false) (q.hp.put l (.loop .done (some (.exit id)) s.fr ps as bd))],by unfold gS;simp only [gl2,bB],.single ⟨_,_,rfl,E5,.fl (.bool false),hp,_,⟨rfl,false,rfl,.inr ⟨rfl,.exit id,.exit id,.inr ⟨id,rfl,rfl⟩,rfl⟩⟩,x1,.d (.fl rfl),x2⟩⟩
       | _=>exact j1.elim)
     refine ⟨M3,?_,y2⟩
     unfold cZ
     simp only [gl,blkR]
     rw [fH (gy (Nat.le_max_left m2 0)) _ _ _ b1]
     exact y1
    | _=>exact k1.elim)
  refine ⟨m+1,M,?_,z2⟩
  show RX T tab (m+1) (.round l us H)=_
  rw [HG,oS,hl]
  simp only [blkR]
  rw [show Nat.beq us.length ps.toList.length=true by rw [←ha.1,hxl];exact Nat.beq_refl _]
  simp only [cond_true]
  rw [fH (gy hm) _ _ _ a1]
  exact z1
 let E1:Env:=⟨fun _ _=>none,fun k=>Own E.ρ st.hp k∨E.D k∨k=l,fun k=>k≤l,fun k=>Own E.ρ st.hp k∨E.X k∨k=l⟩
 have hno:∀ k,¬ Own E1.ρ [] k:=fun k ⟨j,b,aD,h,_⟩=>by cases h
 have hwf1:Wf (s.hp.push blkR):=(eT.push s.hp blkR).wf hs.h.wf
 have hrel1:aY E1 base [] (J 0) (s.hp.push blkR) :=
  {wf:=hwf1,iy:=fun j b aD h _=>(by cases h),inj:=fun j j' aD ver' k h=>(by cases h),rn:=fun j v k h=>(by cases h),fresh:=fun j b aD v h=>(by cases h),new:=fun _ _ _=>rfl,
   sup:=fun k h=>(hno k h).elim,jh:=fun k h=>(hno k h).elim,dx:=fun k h=>h.imp id (fun h=>h.imp (hs.h.dx k) id),
   ds:=fun k h=>by
    rcases h with h|h|h
    ·exact Nat.le_of_lt (hs.h.nj h)
    ·exact Nat.le_of_lt (hs.h.sn k (hs.h.ds k h))
    ·exact Nat.le_of_eq h
   sn:=fun k h=>Nat.lt_succ_of_le h
   xn:=fun k h=>by
    show k < s.hp.n+1
    rcases h with h|h|h
    ·exact Nat.lt_succ_of_lt (hs.h.nj h)
    ·exact Nat.lt_succ_of_lt (hs.h.xn k h)
    ·have:k=s.hp.n:=h;omega
   qG:=fun k h=>by
    rcases h with h|h|h|h
    ·exact (hno k h).elim
    ·exact hs.h.qG k (.inl h)
    ·exact hs.h.qG k (.inr h)
    ·rw [h];exact hs.h.bn
   bn:=Nat.le_succ_of_le hs.h.bn
   aJ:=by
    refine ⟨fun k h=>h,ju,{E with X:=fun k=>E.X k∨k=s.hp.n},base,st.hp,st.aJ,s.hp.push blkR,⟨h0.symm,ha0.symm,hp0⟩,hs.h.view hwf1 (Nat.le_succ _) (fun k h=>.inl h) (fun k h=>h.imp id (fun h=>Nat.le_of_eq h.symm)) (fun k h=>?_) (fun k hk _=>cB hk) hs.h.qG (Nat.le_succ_of_le hs.h.bn),
     ⟨Nat.le_succ _,fun _ _ _ _ h=>h,fun _ h=>.inl h,fun _ h=>.inl h,fun k h=>h.imp id (fun h=>Nat.le_of_eq h.symm),fun _ h=>.inl h,fun _ h=>.inl h,fun k hk _ _=>cB hk,by omega⟩,Nat.le_refl _,⟨.inr rfl,fun h=>Nat.lt_irrefl _ (hs.h.sn _ h)⟩,fun k hk=>.inl (Nat.le_of_lt_succ hk),fun k h=>Nat.le_of_lt (hs.h.sn k h),fun _ _ _=>rfl,fun k h=>h⟩
    show k < s.hp.n+1
    rcases h with h|h
    ·exact Nat.lt_succ_of_lt (hs.h.xn k h)
    ·omega}
 have hFv:=mQ hs.fr f
 have hdF:=hFv.deep jk
 have hF1:AR E1.ρ (s.hp.push blkR).get (E1.O []) (aQ st.fr f) (bL s.fr f):=.d (hdF.mono fun k b hk ho=>by
  have hlt:=hs.h.wf.lt hk
  refine ⟨by rw [cB hlt];exact hk,fun h=>?_⟩
  rcases h with h|h|h|h
  ·exact hno k h
  ·exact ho (.inl h)
  ·exact ho (.inr h)
  ·have:k=s.hp.n:=h;omega)
 obtain ⟨goal,hgo,m,L,c1,c2,c3⟩:=hgen u J Stop hy E1 base (s.hp.push blkR) _ [u] hrel1 hF1 (.cons (.d (.oq rfl)) .nil)
 have hgfn:∃ as',goal=.fn gf as':=by
  rw [hF] at hdF
  generalize bL s.fr f=fv at hdF hgo
  cases hdF with
  | fn _ _ _ _=>exact ⟨_,by cases hgo;rfl⟩
 obtain ⟨as',rfl⟩:=hgfn
 obtain ⟨m',M,hm,z1,z2⟩:=fI (one:=one) (L:=L) (f:=fun _ (r:ia)=>jH l s.fr s.rd r) (P:=fun p=>sV E base st s (K p.1) p.2) (fun _ _ _ _ _ h=>h) m c2 (fun r hr=>by
  obtain ⟨w,H2,rfl,E2,a,hp2,amb2,k1,k2,k3,k4⟩:=c3 r hr
  have fin:∀ {iy:bE} (blk':bE) {Q:List AB→bN→Prop} {e:Exit},amb2=LP iy Q→(∀ hp' amb',Q hp' amb'→K e ⟨st.fr,hp',amb',st.rd,st.fl⟩)→H2.get l=some iy∧sV E base st s (K e) ⟨s.fr,H2.put l blk',s.rd⟩:=by
   intro iy blk' Q e ha hQ
   subst ha
   obtain ⟨hlow,hl,E',b',hp',amb',H',q1,q2,q3,q4,⟨q5,q5'⟩,q6,q7,q8,q9⟩:=k2.aJ
   have hln:l < H2.n:=k2.sn _ (hlow _ (Nat.le_refl _))
   have hbl:base≤l:=k2.qG _ (.inr (q9 _ (.inr (.inr rfl))))
   have hg2:∀ k,E2.S k→k ≠ l→(H2.put l blk').get k=H'.get k:=fun k h1 h2=>by rw [cg h2];exact q8 k h1 h2
   have hfin:aY {E' with X:=fun k=>E'.X k∨(k < H2.n∧¬ E2.S k)} base hp' amb' (H2.put l blk'):=q2.view (fun k hk=>by
      have hk:H2.n≤k:=hk
      rw [cg (by omega)];exact k2.wf k hk) q4 (fun k h=>.inl h) (fun k h=>by
     rcases h with h|h
     ·exact .inl h
     ·by_cases hk:k < H'.n
      ·exact .inl ((q6 k hk).resolve_left h.2)
      ·exact .inr (by omega)) (fun k h=>h.elim (fun h=>Nat.lt_of_lt_of_le (q2.xn k h) q4) And.left)
    (fun k hk h=>by
     rcases h with h|h
     ·exact hg2 k ((q6 k hk).resolve_right h) (fun e=>h (e ▸ q5))
     ·exact hg2 k (q7 k h) (fun e=>q5' (by have e:k=s.hp.n:=e;rw [←e];exact h))) (fun k hk=>k2.qG k (.inr (q9 k (hk.imp id .inl)))) k2.bn
   have ff:lW st.hp.length base E st.hp s.hp {E' with X:=fun k=>E'.X k∨(k < H2.n∧¬ E2.S k)} hp' (H2.put l blk'):=⟨Nat.le_trans q3.n q4,q3.Ce,q3.own,q3.d,fun k h=>by
     rcases h with h|h
     ·exact q3.x k h
     ·by_cases hk:k < s.hp.n
      ·exact absurd (hlow k (Nat.le_of_lt hk)) h.2
      ·exact .inr (by omega),fun k h=>.inl (q3.xk k h),q3.s,fun k hk h1 h2=>by rw [hg2 k (hlow k (Nat.le_of_lt hk)) (Nat.ne_of_lt hk)];exact q3.same k hk h1 h2,by
     have h1:=k4.lo
     have h2:(s.hp.push blkR).lo=s.hp.lo:=rfl
     have h3:(H2.put l blk').lo=min H2.lo l:=rfl
     omega⟩
   exact ⟨hl,_,⟨st.fr,hp',amb',st.rd,st.fl⟩,hQ _ _ q1,rfl,⟨hfin,hs.rd,fun t=>ff.ar hs.h (hs.fr t)⟩,ff.low hs.h _⟩
  rcases k1 with k1|⟨pend,e,hpe,k1⟩
  ·obtain ⟨g1,g2⟩:=fin (.loop .exhausted none s.fr ps as bd) (e:=.normal) k1 (fun hp' amb' ⟨h1,h2,h3⟩=>by subst h1;subst h2;exact hend h3)
   exact ⟨0,[(.normal,⟨s.fr,H2.put l (.loop .exhausted none s.fr ps as bd),s.rd⟩)],by unfold jH;simp only [g1,blkR],.single g2⟩
  ·obtain ⟨g1,g2⟩:=fin (.loop .exhausted (some pend) s.fr ps as bd) (e:=e) k1 (fun _ _ h=>h)
   rcases hpe with ⟨rfl,rfl⟩|⟨id,rfl,rfl⟩
   ·exact ⟨0,[(.ret,⟨s.fr,H2.put l (.loop .exhausted (some .ret) s.fr ps as bd),s.rd⟩)],by unfold jH;simp only [g1],.single g2⟩
   ·exact ⟨0,[(.exit id,⟨s.fr,H2.put l (.loop .exhausted (some (.exit id)) s.fr ps as bd),s.rd⟩)],by unfold jH;simp only [g1],.single g2⟩)
 refine ⟨m',M,?_,z2⟩
 rw [mb]
 unfold nI
 have hgo':dI (bL s.fr f) [Value.func (Fn.yield s.hp.n) #[] #[]]=some (.fn gf as'):=hgo
 simp only [hgo']
 have:RX T tab m' (.call gf as' (s.hp.push (.loop .ready none s.fr ps as bd)))=some L:=gy hm _ _ c1
 rw [this]
 exact z1
theorem af.closed {f:FuncId} {v:Value} (h:∀ H,look tab f [] H=some (v,H)) (hv:bF v=true):af T tab one (.fn f [] []) [] (.fl v):=by
 refine ⟨rfl,fun X H u us hwf hX hF ha=>?_⟩
 cases hF with
 | fn l1 l2 d1 d2 =>
  rename_i a' b'
  have h1:a'.toList=[]:=List.length_eq_zero_iff.1 l1.symm
  have h2:b'.toList=[]:=List.length_eq_zero_iff.1 l2.symm
  have h3:us=[]:=List.length_eq_zero_iff.1 ha.1.symm
  refine ⟨.fn f [],by simp [dI,h1,h2,h3],0,[.ret v H],?_,fun _=>⟨_,rfl⟩,fun r hr=>?_⟩
  ·show rx tab (wM tab T 0) (.call f [] H)=_
   unfold rx
   simp only [h H]
  ·obtain rfl:=List.mem_singleton.1 hr
   exact ⟨v,H,rfl,Nat.le_refl _,hwf,fun _ _=>rfl,Nat.min_le_left _ _,.fl hv⟩
end
end Go.RM
namespace Go.RM
open Go
theorem JP {P:Program} {t:TypeId} {x y:Operand} {m n:Int} (h0:0≤m) (h2:1≤n):hU P .rem t x y (.int .i64 m) (.int .i64 n)=some (.int .i64 (m % n),.none):=by
 have hn:n ≠ 0:=by omega
 have h:hU P .rem t x y (.int .i64 m) (.int .i64 n)=some (.int .i64 (m.tmod n),.none):=by
  show fk P .rem t x y (.int .i64 m) (.int .i64 n)=_
  unfold fk
  simp only [flat,bF,Bool.and_self,cond_true]
  have:(do eqGuard BinOp.rem t x y (Value.int IntKind.i64 m) (Value.int IntKind.i64 n);binOp BinOp.rem t (Value.int IntKind.i64 m) (Value.int IntKind.i64 n):Sem Value)=pure (.int .i64 (m.tmod n)):=by
   show Op.intDiv .rem .i64 m n=_
   unfold Op.intDiv
   rw [if_neg hn]
  rw [this]
  rfl
 rw [h,IntWalk.rem_in m n h0]
theorem JQ {P:Program} {t:TypeId} {x y:Operand} {m n:Int} (h0:0≤m) (h1:m≤9223372036854775807) (h2:1≤n):hU P .quo t x y (.int .i64 m) (.int .i64 n)=some (.int .i64 (m / n),.none):=by
 have hn:n ≠ 0:=by omega
 have h:hU P .quo t x y (.int .i64 m) (.int .i64 n)=some (.int .i64 (IntKind.i64.wrap (m.tdiv n)),.none):=by
  show fk P .quo t x y (.int .i64 m) (.int .i64 n)=_
  unfold fk
  simp only [flat,bF,Bool.and_self,cond_true]
  have:(do eqGuard BinOp.quo t x y (Value.int IntKind.i64 m) (Value.int IntKind.i64 n);binOp BinOp.quo t (Value.int IntKind.i64 m) (Value.int IntKind.i64 n):Sem Value)=pure (.int .i64 (IntKind.i64.wrap (m.tdiv n))):=by
   show Op.intDiv .quo .i64 m n=_
   unfold Op.intDiv
   rw [if_neg hn]
  rw [this]
  rfl
 rw [h,IntWalk.i64_quo m n ⟨h0,h1,h2⟩]
section
variable {T : cr} {tab : List XE} {one : Bool} {mu : Tmp → Bool}
theorem uT {ops:List Oper} {j:Nat} {want:Bool} {fr:Nat→AV} {yes no:Prop} {d:Tmp} {a0 a1 a2 a3 a4} {b:Bool} (h1:ops[j]?=some ⟨some d,a0,a1,a2,a3,a4⟩) (h2:fr d=.fl (.bool b)) (h3:b=want) (y:yes):cC ops (some (j,want)) fr yes no:=by
 unfold cC
 simp only [h1,h2]
 exact bC h3 y
theorem w6 {ops:List Oper} {j:Nat} {want:Bool} {fr:Nat→AV} {yes no:Prop} {d:Tmp} {a0 a1 a2 a3 a4} {b:Bool} (h1:ops[j]?=some ⟨some d,a0,a1,a2,a3,a4⟩) (h2:fr d=.fl (.bool b)) (h3:b=!want) (n:no):cC ops (some (j,want)) fr yes no:=by
 unfold cC
 simp only [h1,h2]
 exact bS h3 n
theorem mU {ops:List Oper} {j:Nat} {want:Bool} {fr:Nat→AV} {yes no:Prop} {d:Tmp} {a0 a1 a2 a3 a4} {b:Bool} (h1:ops[j]?=some ⟨some d,a0,a1,a2,a3,a4⟩) (h2:fr d=.fl (.bool b)) (y:b=want→yes) (n:b=(!want)→no):cC ops (some (j,want)) fr yes no:=by
 unfold cC
 simp only [h1,h2]
 exact ⟨y,n⟩
theorem AQ {ops:List Oper} {j:Nat} {want:Bool} {fr:Nat→AV} {yes no:Prop} {d:Tmp} {a0 a1 a2 a3 a4} {vs:List AV} (h1:ops[j]?=some ⟨some d,a0,a1,a2,a3,a4⟩) (h2:fr d=.tp vs) (n:no):cC ops (some (j,want)) fr yes no:=by
 unfold cC
 simp only [h1,h2]
 exact n
end
end Go.RM
namespace Go.RM
open Go
theorem HU {v:AV} {K:AV→Prop} (h:K v):force v K:=by cases v <;> exact h
section
variable {T : cr} {tab : List XE} {one : Bool} {mu : Tmp → Bool} {own : Bool} {fr : Nat → AV} {hp : List AB} {aJ : bN} {rd : Bool} {fl : Nat} {K : AV → List AB → Prop} {KE : Exit → cy → Prop} {KS : cy → Prop} {st : cy} {dst : Option Tmp}
theorem c1 (h:KE .normal st):mT T tab one mu .skip st KE:=h
theorem c2 {a b:Code} (h:mT T tab one mu a st (yH (fun s=>mT T tab one mu b s KE) KE)):mT T tab one mu (.seq a b) st KE:=h
theorem c3 {id:Nat} {c:Code} (h:mT T tab one mu c st (jx id KE)):mT T tab one mu (.block id c) st KE:=h
theorem c4 {id:Nat} {l:List Oper} (h:wpOps T tab one mu l l st (KE .normal)):mT T tab one mu (.region id l.toArray false) st KE:=h
theorem c5 {id:Nat} {l l1 l2:List Oper} {c:Nat} (hc:gF l.toArray=c) (h1:l.take c=l1) (h2:l.drop c=l2) (h:jU T tab mu l.toArray l1 0 (fun _=>0) [] st fun s=>wpOps T tab one mu l l2 s (KE .normal)):mT T tab one mu (.region id l.toArray true) st KE:=by
 subst hc h1 h2
 exact h
theorem c6 {id:Nat} (h:KE (.exit id) st):mT T tab one mu (.exit id) st KE:=h
theorem c7 (h:KE .ret st):mT T tab one mu .ret st KE:=h
theorem c8 {c:Code} (h:mT T tab one mu c st (tZ KE)):mT T tab one mu (.scope c) st KE:=h
theorem c9 {Q:cy→Prop} (h:Q st):yH Q KE .normal st:=h
theorem d1 {Q:cy→Prop} (h:KE .ret st):yH Q KE .ret st:=h
theorem d2 {Q:cy→Prop} {id:Nat} (h:KE (.exit id) st):yH Q KE (.exit id) st:=h
theorem d3 {id:Nat} (h:KE .normal st):jx id KE .normal st:=h
theorem d4 {id:Nat} (h:KE .ret st):jx id KE .ret st:=h
theorem d5 {id id':Nat} (hb:Nat.beq id' id=true) (h:KE .normal st):jx id KE (.exit id') st:=by unfold jx;simp only [hb,cond_true];exact h
theorem d6 {id id':Nat} (hb:Nat.beq id' id=false) (h:KE (.exit id') st):jx id KE (.exit id') st:=by unfold jx;simp only [hb,cond_false];exact h
theorem d7 (h:KE .normal st):tZ KE .normal st:=h
theorem d8 (h:KE .ret st):tZ KE .ret st:=h
theorem d9 {id:Nat} (h:KE (.exit id) st):tZ KE (.exit id) st:=h
theorem e1 {c:Operand} {a b:Code} {t:Bool} (hc:aQ st.fr c=.fl (.bool t)) (h:(t=true→mT T tab one mu a st KE)∧(t=false→mT T tab one mu b st KE)):mT T tab one mu (.cond c a b) st KE:=by
 show (match aQ st.fr c with|.fl (.bool t)=>_|_=>False)
 rw [hc];exact h
theorem e2 {c:Operand} {a b:Code} {t:Bool} (hc:aQ st.fr c=.fl (.bool t)) (ht:t=true) (h:mT T tab one mu a st KE):mT T tab one mu (.cond c a b) st KE:=e1 hc (JJ ht h)
theorem e3 {c:Operand} {a b:Code} {t:Bool} (hc:aQ st.fr c=.fl (.bool t)) (ht:t=false) (h:mT T tab one mu b st KE):mT T tab one mu (.cond c a b) st KE:=e1 hc (LC ht h)
theorem o1 {ops:List Oper} (h:KS st):wpOps T tab one mu ops [] st KS:=h
theorem o2 {ops:List Oper} {op:Op} {a1 a2 a3 gd} {l:List Oper}
 (h:cC ops gd fr (sU T tab one mu dst op fr hp aJ rd fl fun st'=>wpOps T tab one mu ops l st' KS) (gX dst fr (.tp []) fun fr'=>wpOps T tab one mu ops l ⟨fr',hp,aJ,rd,fl⟩ KS)):wpOps T tab one mu ops (⟨dst,op,a1,a2,a3,gd⟩ :: l) ⟨fr,hp,aJ,rd,fl⟩ KS:=h
theorem o3 {ops:Array Oper} {op:Op} {a1 a2 a3 gd} {l:List Oper} {i:Nat} {bt:Nat→Nat} {acc:List rq}
 (h:cC ops.toList gd fr (eG T tab mu dst op i bt fr hp fun fr' hp' bt' x=>jU T tab mu ops l (i+1) bt' (x :: acc) ⟨fr',hp',aJ,rd,fl⟩ KS)
  (gX dst fr (.tp []) fun fr'=>jU T tab mu ops l (i+1) (nq dst bt 0) (⟨i,[],false,false⟩ :: acc) ⟨fr',hp,aJ,rd,fl⟩ KS)):jU T tab mu ops (⟨dst,op,a1,a2,a3,gd⟩ :: l) i bt acc ⟨fr,hp,aJ,rd,fl⟩ KS:=h
theorem o4 {ops:List Oper} {yes no:Prop} (h:yes):cC ops none fr yes no:=h
theorem o5 {d:Tmp} {v:AV} {P:(Nat→AV)→Prop} (h:P fun t=>bif Nat.beq t d then v else fr t):gX (some d) fr v P:=h
theorem o6 {v:AV} {P:(Nat→AV)→Prop} (h:P fr):gX none fr v P:=h
theorem o7 {f:Operand} {l:List Operand} {tys} (h:force (aQ fr f) fun F=>fh (l.map (aQ fr)) fun as=>bl T tab one F as hp aJ fun v hp' amb'=>gX dst fr v fun fr'=>KS ⟨fr',hp',amb',rd,fl⟩) :
 sU T tab one mu dst (.call ⟨.value f,l.toArray,tys⟩) fr hp aJ rd fl KS:=h
theorem o8 {op:Op} (hk:fc op=.plain) (h:wpOp T (JI mu dst) op fr hp fun v hp'=>force v fun v=>gX dst fr v fun fr'=>KS ⟨fr',hp',aJ,rd,fl⟩):sU T tab one mu dst op fr hp aJ rd fl KS:=by
 unfold sU;rw [hk];exact h
theorem o9 {x:Operand} {l:List Operand} {f:Operand→AV} {P:List AV→Prop} (h:force (f x) fun a=>fh (l.map f) fun l=>P (a :: l)):fh ((x :: l).map f) P:=h
theorem p1 {f:Operand→AV} {P:List AV→Prop} (h:P []):fh (([]:List Operand).map f) P:=h
theorem p2 {x:Operand} (h:K (aQ fr x) hp):wpOp T own (.move x) fr hp K:=h
theorem p3 {x:Operand} (h:K (aQ fr x) hp):wpOp T own (.assign x) fr hp K:=h
theorem p4 {c a b:Operand} (h:tU (aQ fr c) (aQ fr a) (aQ fr b) hp K):wpOp T own (.pick c a b) fr hp K:=h
theorem p5 {o:BinOp} {t e:TypeId} {x y:Operand} (h:ee T o t x y (aQ fr x) (aQ fr y) hp K):wpOp T own (.binOp o t x y e) fr hp K:=h
theorem p6 {x:Operand} {t:TypeId} (h:force (aQ fr x) fun v=>sP T t v hp K):wpOp T own (.call ⟨.builtin .len,[x].toArray,[t].toArray⟩) fr hp K:=HU (cU h)
theorem p7 {f:FuncId} {a b:List Operand} (h:fh (a.map (aQ fr)) fun a=>fh (b.map (aQ fr)) fun b=>K (.fn f a b) hp):wpOp T own (.makeFunc (.func f) a.toArray b.toArray) fr hp K:=h
theorem p8 {x:Operand} (h:sO (aQ fr x) hp K):wpOp T own (.nilCheck x) fr hp K:=h
theorem p9 {op:Op} {i:Nat} {bt:Nat→Nat} {KD:(Nat→AV)→List AB→(Nat→Nat)→rq→Prop} (hk:fc op=.plain) (h:∃ a,HN op fr (AN bt)=some a∧wpOp T (JI mu dst) op fr hp fun v hp'=>force v fun v=>gX dst fr v fun fr'=>KD fr' hp' (nq dst bt (qI op fr bt i)) ⟨i,a,news? op,false⟩) :
  eG T tab mu dst op i bt fr hp KD:=by
 unfold eG;rw [hk];exact h
theorem sY {v:AV} {P:AV→Prop} (h:P v):force v P:=by cases v <;> exact h
theorem qc:∀ {l:List AV} {P:List AV→Prop},P l→fh l P
 | [],_,h=>h
 | _ :: _,_,h=>sY (qc (P:=fun _=>_) h)
theorem EJ {f:Operand} {l:List Operand} {tys} {i:Nat} {bt:Nat→Nat} {KD:(Nat→AV)→List AB→(Nat→Nat)→rq→Prop} (h:(aQ fr f).deep=true∧∃ vs v,Handed hp (l.map (aQ fr)) vs v∧af T tab true (aQ fr f) vs v∧gX dst fr v fun fr'=>KD fr' hp (nq dst bt (i+1)) ⟨i,[],true,true⟩) :
  eG T tab mu dst (.call ⟨.value f,l.toArray,tys⟩) i bt fr hp KD:=by
 show force (aQ fr f) fun F=>fh (l.map (aQ fr)) fun as=>F.deep=true∧∃ vs v,Handed hp as vs v∧af T tab true F vs v∧gX dst fr v fun fr'=>KD fr' hp (nq dst bt (i+1)) ⟨i,[],true,true⟩
 generalize aQ fr f=F at h ⊢
 generalize l.map (aQ fr)=as at h ⊢
 exact sY (qc (P:=fun as=>F.deep=true∧∃ vs v,Handed hp as vs v∧af T tab true F vs v∧gX dst fr v fun fr'=>KD fr' hp (nq dst bt (i+1)) ⟨i,[],true,true⟩) h)
theorem n1 {f:Operand} {l:List Operand} {tys} {i:Nat} {bt:Nat→Nat} {KD:(Nat→AV)→List AB→(Nat→Nat)→rq→Prop} (h:force (aQ fr f) fun F=>fh (l.map (aQ fr)) fun as=>F.deep=true∧bw as=true∧∃ v,af T tab true F as v∧gX dst fr v fun fr'=>KD fr' hp (nq dst bt (i+1)) ⟨i,[],true,true⟩) :
  eG T tab mu dst (.call ⟨.value f,l.toArray,tys⟩) i bt fr hp KD:=by
 have h:=gq (cU h)
 obtain ⟨h1,h2,v,h3,h4⟩:=h
 exact EJ ⟨h1,_,v,.inl ⟨rfl,h2⟩,h3,h4⟩
theorem n2 {f:Operand} {l:List Operand} {tys} {i:Nat} {bt:Nat→Nat} {KD:(Nat→AV)→List AB→(Nat→Nat)→rq→Prop} {F v:AV} {as vs:List AV} (hp':af T tab true F vs v) (hf:aQ fr f=F) (ha:l.map (aQ fr)=as) (hF:F.deep=true) (hz:rM hp as vs) (hv:ej v) (h:gX dst fr v fun fr'=>KD fr' hp (nq dst bt (i+1)) ⟨i,[],true,true⟩) :
  eG T tab mu dst (.call ⟨.value f,l.toArray,tys⟩) i bt fr hp KD:=by
 subst hf ha
 exact EJ ⟨hF,vs,v,.inr ⟨hz,hv⟩,hp',h⟩
theorem n3 {x:Operand} {t:TypeId} {b:Bool} (hb:aQ fr x=.fl (.bool b)) (h:K (.fl (.bool (!b))) hp):wpOp T own (.unOp .not t x) fr hp K:=by
 show HI T .not (aQ fr x) hp K
 rw [hb];exact h
theorem n4 {x y:Operand} {tys:Array TypeId} {m n:Int} (hx:aQ fr x=.fl (.int .i64 m)) (hy:aQ fr y=.fl (.int .i64 n)) (h:K (.fl (.int .i64 (min m n))) hp):wpOp T own (.call ⟨.builtin .min,[x,y].toArray,tys⟩) fr hp K:=by
 show force (aQ fr x) fun a=>force (aQ fr y) fun b=>Ez T [a,b] hp K
 rw [hx,hy];exact h
theorem n5 {x y:Operand} {tys:Array TypeId} {m n:Int} (hx:aQ fr x=.fl (.int .i64 m)) (hy:aQ fr y=.fl (.int .i64 n)) (h:K (.fl (.int .i64 (max m n))) hp):wpOp T own (.call ⟨.builtin .max,[x,y].toArray,tys⟩) fr hp K:=by
 show force (aQ fr x) fun a=>force (aQ fr y) fun b=>EA T [a,b] hp K
 rw [hx,hy];exact h
section
variable {v : AV} {P : AV → Prop}
theorem f1 {x:Value} (hv:v=.fl x) (h:P (.fl x)):force v P:=by subst hv;exact h
theorem f2 {a:List (List AV)} {b:Bool} (hv:v=.sl a b) (h:P (.sl a b)):force v P:=by subst hv;exact h
theorem f3 {a:List AV} {b:Nat} (hv:v=.pt a b) (h:P (.pt a b)):force v P:=by subst hv;exact h
theorem f4 {a:FuncId} {b c:List AV} (hv:v=.fn a b c) (h:P (.fn a b c)):force v P:=by subst hv;exact h
theorem f5 {a:List AV} (hv:v=.ag a) (h:P (.ag a)):force v P:=by subst hv;exact h
theorem f6 {a:List AV} (hv:v=.tp a) (h:P (.tp a)):force v P:=by subst hv;exact h
theorem f7 {a b c:Nat} (hv:v=.ptr a b c) (h:P (.ptr a b c)):force v P:=by subst hv;exact h
theorem f8 {a b c d e:Nat} (hv:v=.bX a b c d e) (h:P (.bX a b c d e)):force v P:=by subst hv;exact h
theorem f9 {a:Nat} (hv:v=.om a) (h:P (.om a)):force v P:=by subst hv;exact h
theorem g1 {a:Value} (hv:v=.oq a) (h:P (.oq a)):force v P:=by subst hv;exact h
theorem g2 (hv:v=.cv) (h:P .cv):force v P:=by subst hv;exact h
end
section
variable {c a b : AV} {t x y : Bool}
theorem k1 (hc:c=.fl (.bool t)) (h:kz t a b hp K):tU c a b hp K:=by subst hc;exact h
theorem k2 (ht:t=true) (h:K a hp):kz t a b hp K:=by
 subst ht
 unfold kz
 split
 ·exact h
 ·exact And.intro (fun _=>h) (fun e=>Bool.noConfusion e)
theorem k3 (ht:t=false) (h:K b hp):kz t a b hp K:=by
 subst ht
 unfold kz
 split
 ·exact h
 ·exact And.intro (fun e=>Bool.noConfusion e) (fun _=>h)
theorem k4 (ha:a=.fl (.bool x)) (hb:b=.fl (.bool y)) (h:K (.fl (.bool (bif t then x else y))) hp):kz t a b hp K:=by subst ha hb;exact h
end
section
variable {a b : AV} {m n : Int} {t : TypeId} {x y : Operand}
theorem b1 (ha:a=.fl (.int .i64 m)) (hb:b=.fl (.int .i64 n)) (hh:-9223372036854775808≤m+n∧m+n≤9223372036854775807) (h:K (.fl (.int .i64 (m+n))) hp):ee T .add t x y a b hp K:=by subst ha hb;exact ⟨hh,h⟩
theorem b2 (ha:a=.fl (.int .i64 m)) (hb:b=.fl (.int .i64 n)) (hh:-9223372036854775808≤m - n∧m - n≤9223372036854775807) (h:K (.fl (.int .i64 (m - n))) hp):ee T .sub t x y a b hp K:=by subst ha hb;exact ⟨hh,h⟩
theorem b3 (ha:a=.fl (.int .i64 m)) (hb:b=.fl (.int .i64 n)) (hh:-9223372036854775808≤m * n∧m * n≤9223372036854775807) (h:K (.fl (.int .i64 (m * n))) hp):ee T .mul t x y a b hp K:=by subst ha hb;exact ⟨hh,h⟩
theorem b4 (ha:a=.fl (.int .i64 m)) (hb:b=.fl (.int .i64 n)) (h:K (.fl (.bool (decide (m=n)))) hp):ee T .eql t x y a b hp K:=by subst ha hb;exact h
theorem b5 (ha:a=.fl (.int .i64 m)) (hb:b=.fl (.int .i64 n)) (h:K (.fl (.bool (!decide (m=n)))) hp):ee T .neq t x y a b hp K:=by subst ha hb;exact h
theorem b6 (ha:a=.fl (.int .i64 m)) (hb:b=.fl (.int .i64 n)) (h:K (.fl (.bool (decide (m < n)))) hp):ee T .lss t x y a b hp K:=by subst ha hb;exact h
theorem b7 (ha:a=.fl (.int .i64 m)) (hb:b=.fl (.int .i64 n)) (h:K (.fl (.bool (decide (m≤n)))) hp):ee T .leq t x y a b hp K:=by subst ha hb;exact h
theorem b8 (ha:a=.fl (.int .i64 m)) (hb:b=.fl (.int .i64 n)) (h:K (.fl (.bool (decide (n < m)))) hp):ee T .gtr t x y a b hp K:=by subst ha hb;exact h
theorem b9 (ha:a=.fl (.int .i64 m)) (hb:b=.fl (.int .i64 n)) (h:K (.fl (.bool (decide (n≤m)))) hp):ee T .geq t x y a b hp K:=by subst ha hb;exact h
theorem r1 (ha:a=.fl (.int .i64 m)) (hb:b=.fl (.int .i64 n)) (h0:0≤m∧1≤n) (h:K (.fl (.int .i64 (m % n))) hp):ee T .rem t x y a b hp K:=by
 subst ha hb;exact ⟨_,JP h0.1 h0.2,rfl,h⟩
theorem r2 (ha:a=.fl (.int .i64 m)) (hb:b=.fl (.int .i64 n)) (h0:(0≤m∧m≤9223372036854775807)∧1≤n) (h:K (.fl (.int .i64 (m / n))) hp):ee T .quo t x y a b hp K:=by
 subst ha hb;exact ⟨_,JQ h0.1.1 h0.1.2 h0.2,rfl,h⟩
end
section
variable {v : AV} {t : TypeId}
theorem l1 {e:TypeId} {a1 a2 a3 a4 a5 a6} {els:List (List AV)} {f:Bool} (ht:T.ty.get t=some ⟨.slice e,a1,a2,a3,a4,a5,a6⟩) (h:K (.fl (.int .i64 els.length)) hp):sP T t (.sl els f) hp K:=by
 unfold sP;rw [ht];exact h
theorem l2 {e:TypeId} {a1 a2 a3 a4 a5 a6} {j aD o n c:Nat} (ht:T.ty.get t=some ⟨.slice e,a1,a2,a3,a4,a5,a6⟩) (h:K (.fl (.int .i64 n)) hp):sP T t (.bX j aD o n c) hp K:=by
 unfold sP;rw [ht];exact h
theorem l3 {a:List AV} {b:Nat} (hv:v=.pt a b) (h:K (.pt a b) hp):sO v hp K:=by subst hv;exact h
theorem l4 {a b c:Nat} (hv:v=.ptr a b c) (h:K (.ptr a b c) hp):sO v hp K:=by subst hv;exact h
end
end
end Go.RM
