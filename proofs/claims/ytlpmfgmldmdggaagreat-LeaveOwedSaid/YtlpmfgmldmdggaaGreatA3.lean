/-
  A layer of contracts over the abstract machine. Lemmas alone; no condition.
-/
import Derived.Test.YtlpmfgmldmdggaaGreatA1
import Derived.Test.YtlpmfgmldmdggaaGreatA2
import Derived.IntWalk
namespace Go.RM
open Go
section
variable {T : bh} {tab : List XE} {one : Bool} {fl base base1 : Nat} {E E' E1 E2 E4 : Env} {hp hp' hp1 hp2 hp4 : List AB} {av amb' amb4 : bw} {H H' H1 H2 H4 : Hp} {ρ ρ' : Nat → Nat → Option Nat} {g g' : az} {O O' : Nat → Prop}
theorem BR.mono {b:AB} {b':aV} (h:BR ρ g O b b') (hr:∀ j v k,ρ j v=some k→ρ' j v=some k) (hg:∀ k b,g k=some b→¬ O k→g' k=some b∧¬ O' k):BR ρ' g' O' b b':=by
 cases b with
 | cells cs es ax=>obtain ⟨cs',rfl,h⟩:=h;exact ⟨cs',rfl,h.mono hr hg⟩
 | dD s p=>exact h
 | map ents clock =>
  obtain ⟨es,rfl,h1,h2⟩:=h
  exact ⟨es,rfl,h1,fun i k v born x hx hy=>⟨(h2 i k v born x hx hy).1.mono hr hg,(h2 i k v born x hx hy).2.1.mono hr hg,(h2 i k v born x hx hy).2.2⟩⟩
 | iter j since seen stepped=>obtain ⟨m,rfl,h⟩:=h;exact ⟨m,rfl,hr _ _ _ h⟩
 | gone=>exact h
theorem aK.view (h:aK E base hp av H) {X':Nat→Prop} (hwf:Wf H1) (hn:H.n≤H1.n) (hX:∀ k,E.X k→X' k) (hX2:∀ k,X' k→E.X k∨H.n≤k) (hXn:∀ k,X' k→k < H1.n)
  (heq:∀ k,k < H.n→(¬ E.X k∨E.S k)→H1.get k=H.get k) (hb:∀ k,Own E.ρ hp k∨E.D k→base1≤k) (hbn:base1≤H1.n):aK {E with X:=X'} base1 hp av H1:=by
 have keep:∀ k b,H.get k=some b→¬ E.O hp k→H1.get k=some b∧¬ ({E with X:=X'}:Env).O hp k:=fun k b hk ho=>by
  have hlt:=h.wf.lt hk
  refine ⟨by rw [heq k hlt (.inl fun hx=>ho (.inr hx))];exact hk,fun ho'=>?_⟩
  rcases ho' with h1|h1
  ·exact ho (.inl h1)
  ·rcases hX2 k h1 with h2|h2
   ·exact ho (.inr h2)
   ·omega
 refine ⟨hwf,fun j x ax hj hv=>?_,h.inj,fun j v k hk=>Nat.lt_of_lt_of_le (h.rn j v k hk) hn,h.fresh,h.new,h.sup,fun k hk hx=>?_,fun k hd=>hX k (h.dx k hd),h.ds,fun k hk=>Nat.lt_of_lt_of_le (h.sn k hk) hn,hXn,hb,hbn,av.st h.av (fun k hk=>heq k (h.sn k hk) (.inr hk)) hn⟩
 ·rcases h.gC j x ax hj hv with ⟨k,b',q1,q2,q3⟩|q
  ·have hok:Own E.ρ hp k:=⟨j,x,ax,hj,hv,q1⟩
   exact .inl ⟨k,b',q1,by rw [heq k (h.wf.lt q2) (.inl (h.iL k hok))];exact q2,q3.mono (fun _ _ _ h=>h) keep⟩
  ·exact .inr q
 ·rcases hX2 k hx with h2|h2
  ·exact h.iL k hk h2
  ·have:=h.mC hk;omega
theorem aK.Gn (h:aK E base hp av H):aK E 0 hp av H:={h with qp:=fun _ _=>Nat.zero_le _,bn:=Nat.zero_le _}
theorem iK.Gn (h:iK fl base E hp H E' hp' H'):iK fl 0 E hp H E' hp' H':={h with lo:=by omega}
def Gp (fl0:Nat) (E0:Env) (hp0:List AB) (H0:Hp) (gC:aV) (Q:List AB→bw→Prop):bw where
 P D S g n:=(∀ k,k≤H0.n→S k)∧g H0.n=some gC∧∃ (E':Env) (b':Nat) (hp':List AB) (amb':bw) (H':Hp),Q hp' amb'∧aK E' b' hp' amb' H'∧iK fl0 0 E0 hp0 H0 E' hp' H'∧H'.n≤n∧(E'.X H0.n∧¬ E'.S H0.n) ∧
  (∀ k,k < H'.n→S k∨E'.X k)∧(∀ k,E'.S k→S k)∧(∀ k,S k→k ≠ H0.n→g k=H'.get k)∧(∀ k,Own E'.ρ hp' k∨E'.D k∨k=H0.n→D k)
 st:=by
  rintro D S g g' n n' ⟨h1,h2,E',b',hp',amb',H',q1,q2,q3,q4,q5,q6,q7,q8,q9⟩ hs hn
  exact ⟨h1,by rw [hs _ (h1 _ (Nat.le_refl _))];exact h2,E',b',hp',amb',H',q1,q2,q3,Nat.le_trans q4 hn,q5,q6,q7,fun k hk hne=>by rw [hs k hk];exact q8 k hk hne,q9⟩
theorem EX {fl0:Nat} {E0:Env} {hp0:List AB} {H0:Hp} {gC blk' b0:aV} {Q Q':List AB→bw→Prop} (hr:aK E1 base1 hp (Gp fl0 E0 hp0 H0 gC Q) H)
  (hX:∀ k,k < H.n→E1.S k∨E.X k) (hXl:E.X H0.n) (hSl:¬ E.S H0.n) (hS:∀ k,E.S k→E1.S k) (hD:∀ k,Own E.ρ hp1 k∨E.D k∨k=H0.n→E1.D k) (hlow:∀ k,k≤H0.n→E1.S k)
  (f0:iK fl0 0 E0 hp0 H0 E hp1 H) (h4:aK E4 base1 hp4 amb4 H4) (F:iK fl0 base1 E hp1 (H.put H0.n b0) E4 hp4 H4) (hQ:Q' hp4 amb4) :
  ∃ E5,aK E5 base1 hp (Gp fl0 E0 hp0 H0 blk' Q') (H4.put H0.n blk')∧iK hp.length base1 E1 hp H E5 hp (H4.put H0.n blk'):=by
 have hln:H0.n < H.n:=hr.sn _ (hlow _ (Nat.le_refl _))
 have hn:H.n≤H4.n:=F.n
 have hD1:E1.D H0.n:=hD _ (.inr (.inr rfl))
 have same:∀ k,k < H.n→¬ E1.D k→(H4.put H0.n blk').get k=H.get k:=fun k hk hd=>by
  have hne:k ≠ H0.n:=fun e=>hd (e ▸ hD1)
  rw [bH hne,F.same k hk (fun h=>hd (hD k (.inl h))) (fun h=>hd (hD k (.inr (.inl h)))),bH hne]
 let X':Nat→Prop:=fun k=>E1.X k∨(H.n≤k∧k < H4.n)
 let S':Nat→Prop:=fun k=>E1.S k∨(H.n≤k∧k < H4.n)
 let D':Nat→Prop:=fun k=>E1.D k∨(H.n≤k∧(Own E4.ρ hp4 k∨E4.D k))
 have hnew:∀ k,Own E4.ρ hp4 k∨E4.D k→k < H4.n:=fun k h=>h.elim (fun h=>h4.mC h) (fun h=>h4.sn k (h4.ds k h))
 have keep:∀ k b,H.get k=some b→¬ E1.O hp k→(H4.put H0.n blk').get k=some b∧¬ (⟨E1.ρ,D',S',X'⟩:Env).O hp k:=fun k b hk ho=>by
  have hlt:=hr.wf.lt hk
  refine ⟨by rw [same k hlt (fun hd=>ho (.inr (hr.dx k hd)))];exact hk,fun ho'=>?_⟩
  rcases ho' with h1|h1|h1
  ·exact ho (.inl h1)
  ·exact ho (.inr h1)
  ·omega
 refine ⟨⟨E1.ρ,D',S',X'⟩,⟨fun k hk=>?_,fun j x ax hj hv=>?_,hr.inj,fun j v k hk=>Nat.lt_of_lt_of_le (hr.rn j v k hk) hn,hr.fresh,hr.new,fun k hk hs=>?_,fun k hk hx=>?_,fun k hd=>?_,fun k hd=>?_,fun k hs=>?_,fun k hx=>?_,fun k hd=>?_,Nat.le_trans hr.bn hn,?_⟩,
  ⟨hn,fun _ _ _ _ h=>h,fun k hk=>.inl hk,fun k hd=>hd.imp id And.left,fun k hd=>hd.imp id And.left,fun k hx=>.inl hx,fun k hd=>hd.imp id And.left,fun k hk _ hd=>same k hk hd,?_⟩⟩
 ·have hk:H4.n≤k:=hk
  rw [bH (by omega)];exact h4.wf k hk
 ·rcases hr.gC j x ax hj hv with ⟨k,b',q1,q2,q3⟩|q
  ·have hok:Own E1.ρ hp k:=⟨j,x,ax,hj,hv,q1⟩
   exact .inl ⟨k,b',q1,by rw [same k (hr.wf.lt q2) (fun hd=>hr.iL k hok (hr.dx k hd))];exact q2,q3.mono (fun _ _ _ h=>h) keep⟩
  ·exact .inr q
 ·rcases hs with h1|h1
  ·exact hr.sup k hk h1
  ·have:=hr.mC hk;omega
 ·rcases hx with h1|h1
  ·exact hr.iL k hk h1
  ·have:=hr.mC hk;omega
 ·rcases hd with h1|h1
  ·exact .inl (hr.dx k h1)
  ·exact .inr ⟨h1.1,hnew k h1.2⟩
 ·rcases hd with h1|h1
  ·exact .inl (hr.ds k h1)
  ·exact .inr ⟨h1.1,hnew k h1.2⟩
 ·rcases hs with h1|h1
  ·exact Nat.lt_of_lt_of_le (hr.sn k h1) hn
  ·exact h1.2
 ·rcases hx with h1|h1
  ·exact Nat.lt_of_lt_of_le (hr.xn k h1) hn
  ·exact h1.2
 ·rcases hd with h1|h1|h1
  ·exact hr.qp k (.inl h1)
  ·exact hr.qp k (.inr h1)
  ·exact h4.qp k h1.2
 ·have f0':iK fl0 0 E0 hp0 H0 E hp1 (H.put H0.n b0):=⟨f0.n,f0.Bw,f0.own,f0.d,f0.x,f0.xk,f0.s,fun k hk h1 h2=>by rw [bH (by omega)];exact f0.same k hk h1 h2,by omega⟩
  refine ⟨fun k hk=>.inl (hlow k hk),iE,E4,base1,hp4,amb4,H4,hQ,h4,f0'.trans F.Gn,Nat.le_refl _,⟨F.xk _ hXl,fun hs=>?_⟩,fun k hk=>?_,fun k hs=>?_,fun k _ hne=>bH hne,fun k hk=>?_⟩
  ·rcases F.s _ hs with h1|h1
   ·exact hSl h1
   ·have:H.n≤H0.n:=h1;omega
  ·by_cases hlt:k < H.n
   ·exact (hX k hlt).imp .inl (F.xk k)
   ·exact .inl (.inr ⟨by omega,hk⟩)
  ·rcases F.s k hs with h1|h1
   ·exact .inl (hS k h1)
   ·exact .inr ⟨h1,h4.sn k hs⟩
  ·rcases hk with h1|h1|h1
   ·rcases F.own k h1 with h2|h2
    ·exact .inl (hD k (.inl h2))
    ·exact .inr ⟨h2,.inl h1⟩
   ·rcases F.d k h1 with h2|h2
    ·exact .inl (hD k (.inr (.inl h2)))
    ·exact .inr ⟨h2,.inr h1⟩
   ·exact .inl (hD k (.inr (.inr h1)))
 ·have h1:=F.lo
  have h2:=hr.qp _ (.inr hD1)
  have h3:(H.put H0.n b0).lo=min H.lo H0.n:=rfl
  have h4:(H4.put H0.n blk').lo=min H4.lo H0.n:=rfl
  omega
def C9 (T:bh) (tab:List XE) (one:Bool) (u:Value) (x:List AV) (a:bw) (Q:Bool→bw→Prop):Prop :=
 ∀ hp,ai T tab one (.oq u) x hp a fun v hp' a'=>hp'=hp∧∃ b,v=.fl (.bool b)∧Q b a'
def Gq (J:bw) (Stop:bw→Prop) (b:Bool) (a:bw):Prop:=(b=true∧a=J)∨(b=false∧Stop a)
def JA (T:bh) (tab:List XE) (one:Bool) (F:AV) (xs:List (List AV)):Prop :=
 (∃ f a b,F=.fn f a b)∧F.deep=true∧(∀ x ∈ xs,∀ a ∈ x,iM a)∧∀ (u:Value) (J:Nat→bw) (Stop:bw→Prop),(∀ (i:Nat) (x:List AV),xs[i]?=some x→C9 T tab one u x (J i) (Gq (J (i+1)) Stop)) →
  ai T tab one F [.oq u] [] (J 0) fun _ _ a'=>a'=J xs.length∨Stop a'
def Ld (T:bh) (rs:List ResultVar) (Q:bw→Prop) (e:Exit) (s:aR):Prop :=
 match e with
 | .normal|.ret=>ij T s rs fun _=>Q s.av
 | _=>False
theorem JA.body {f:FuncId} {fn:Func} {c:Code} {first caps:List AV} {xs:List (List AV)} (hf:T.fn.get f=some fn) (hb:fn.body=some c) (hn:noEntry tab f=true) (hd:(AV.fn f first caps).deep=true) (hfree:∀ x ∈ xs,∀ a ∈ x,iM a)
  (hw:∀ (u:Value) (J:Nat→bw) (Stop:bw→Prop),(∀ (i:Nat) (x:List AV),xs[i]?=some x→C9 T tab one u x (J i) (Gq (J (i+1)) Stop)) →
   aC T tab one c ⟨uh (first++[.oq u]++caps),[],J 0,false,0⟩ (Ld T fn.results.toList fun a'=>a'=J xs.length∨Stop a')):JA T tab one (.fn f first caps) xs:=by
 refine ⟨⟨f,first,caps,rfl⟩,hd,hfree,fun u J Stop hy E base H v us hr hF ha=>?_⟩
 have hF:=hF.deep hd
 cases hF with
 | fn l1 l2 d1 d2 =>
  rename_i a' b'
  have hall:fh E.ρ H.get (E.O []) (first++[.oq u]++caps) (a'.toList++us++b'.toList):=fh.append (fh.append (rY.Av ⟨l1,d1⟩) ha) (rY.Av ⟨l2,d2⟩)
  refine ⟨.fn f (a'.toList++us++b'.toList),rfl,?_⟩
  obtain ⟨m,L,h1,h2,h3⟩:=hw u J Stop hy E base ⟨setArgs .leaf 0 (a'.toList++us++b'.toList),H,false⟩ ⟨hr,rfl,mG hall⟩
  obtain ⟨m',M,hm,q1,q2,q3⟩:=cB (one:=one) (L:=L) (f:=fun _ (p:Exit × St)=>fc T fn.results.toList p) (P:=fun r=>∃ w H',r=.ret w H'∧∃ E' a hp' amb',(amb'=J xs.length∨Stop amb')∧aK E' base hp' amb' H'∧AR E'.ρ H'.get (E'.O hp') a w∧iK ([]:List AB).length base E [] H E' hp' H')
   (fun _ _ _ _ _ h=>h) m h2 (fun p hp=>by
    obtain ⟨E',st',k1,_,k2,k3⟩:=h3 p hp
    obtain ⟨e,s'⟩:=p
    have done:(e=.normal∨e=.ret)→(ij T st' fn.results.toList fun _=>st'.av=J xs.length∨Stop st'.av)→∃ (_:Nat) (M:List eV),fc T fn.results.toList (e,s')=some M∧k9 one M fun r=>∃ w H',r=.ret w H'∧∃ E' a hp' amb',(amb'=J xs.length∨Stop amb')∧aK E' base hp' amb' H'∧AR E'.ρ H'.get (E'.O hp') a w∧iK ([]:List AB).length base E [] H E' hp' H':=by
     intro he hr
     obtain ⟨ws,as,r1,r2,r3⟩:=iq k2 hr
     refine ⟨0,[.ret (aW ws) s'.hp],?_,.single ⟨_,_,rfl,E',.bL,st'.hp,st'.av,r2,k2.h,.bL,k3⟩⟩
     unfold fc
     rcases he with rfl|rfl <;> simp only [r1,Option.map_some]
    cases e with
    | normal=>exact done (.inl rfl) k1
    | ret=>exact done (.inr rfl) k1
    | _=>exact k1.elim)
  refine ⟨m'+1,M,?_,q2,q3⟩
  show RX T tab (m'+1) (.call f _ H)=_
  rw [rX,jd _ _ hn]
  simp only
  rw [gQ,hf]
  simp only [hb]
  rw [dX (dR hm) _ _ _ h1]
  exact q1
def DU (fr:Nat→AV):List (Tmp × AV)→Nat→AV
 | []=>fr
 | (d,v) :: l=>DU (fun t=>bif Nat.beq t d then v else fr t) l
theorem BS:∀ (ps:List Tmp) {x:List AV} {us:List Value} {fr:Nat→AV} {tm:Tr Value},nq ρ g O fr tm→fh ρ g O x us→nq ρ g O (DU fr (ps.zip x)) (eH tm (ps.zip us))
 | [],_,_,_,_,h,_=>h
 | p :: ps,[],[],_,_,h,_=>h
 | p :: ps,a :: x,u :: us,fr,tm,h,ha=>by
  simp only [List.zip_cons_cons,DU,eH]
  exact BS ps (jr h (ha.2 0 a u rfl rfl) (some p)) ⟨by simpa using ha.1,fun i a u x y=>ha.2 (i+1) a u (by simpa using x) (by simpa using y)⟩
 | p :: ps,[],_ :: _,_,_,_,ha=>absurd ha.1 (by simp)
 | p :: ps,_ :: _,[],_,_,_,ha=>absurd ha.1 (by simp)
def LM (P:aR→Prop) (e:Exit) (s:aR):Prop :=
 match e with
 | .normal=>s.rd=true∧P s
 | _=>False
def JB (K:Exit→aR→Prop) (st:aR) (hpn:List AB) (an:bw) (pn:Prop) (e:Exit) (s:aR):Prop :=
 match e with
 | .normal=>pn∧∃ fr',aj s ⟨fr',hpn,an,s.rd,s.fl⟩
 | .ret=>K .ret ⟨st.fr,s.hp,s.av,st.rd,st.fl⟩
 | .exit id=>K (.exit id) ⟨st.fr,s.hp,s.av,st.rd,st.fl⟩
 | _=>False
theorem wN {a b:Rec} (h:eY a b) {l:Nat} {bd:Code} {p:Exit × St} {M:List eV} (e:cN T a l bd p=some M):cN T b l bd p=some M:=by
 unfold cN at e ⊢
 split at e
 ·split at e
  ·rename_i pend2 fr2 ps2 as2 bd2 hl2
   cases hq:aZ T a bd ⟨p.2.fr,p.2.hp.put l (.loop .busy pend2 fr2 ps2 as2 bd2),true⟩ with
   | none=>rw [hq] at e;cases e
   | some M2=>rw [hq] at e;rw [dX h _ _ _ hq];exact e
  ·cases e
 ·cases e
theorem aj.KM {st:aR} {fr':Nat→AV} {hp:List AB} {a:bw} {rd:Bool} {n:Nat} (h:aj st ⟨fr',hp,a,rd,n⟩) {s:St} (hs:jD E base st s):∃ E',aK E' base hp a s.hp∧iK st.fl base E st.hp s.hp E' hp s.hp:=by
 obtain ⟨E',h1,h2⟩:=h.2 E base s hs
 exact ⟨E',h1.h,h2⟩
theorem aC.range {f:Operand} {ps:Array Tmp} {as bd:Code} {st:aR} {K:Exit→aR→Prop} {xs:List (List AV)} (Hs:Nat→List AB) (As:Nat→bw) (Ps:Nat→Prop) {rdv:Bool} (hrd:st.rd=rdv) (hgen:JA T tab one (aS st.fr f) xs) (h0:Hs 0=st.hp) (ha0:As 0=st.av) (hp0:Ps 0)
  (hround:∀ (i:Nat) (x:List AV),xs[i]?=some x→Ps i→x.length=ps.toList.length∧aC T tab one as ⟨DU st.fr (ps.toList.zip x),Hs i,As i,true,st.hp.length⟩ (LM fun s=>aC T tab one bd s (JB K st (Hs (i+1)) (As (i+1)) (Ps (i+1)))))
  (hend:Ps xs.length→K .normal ⟨st.fr,Hs xs.length,As xs.length,rdv,st.fl⟩):aC T tab one (.rangeFunc f ps as bd) st K:=by
 intro E base s hs
 obtain ⟨⟨gf,ga,gb,hF⟩,hdeep,hfree,hgen⟩:=hgen
 subst hrd
 let l:=s.hp.n
 let LP:aV→(List AB→bw→Prop)→bw:=Gp st.hp.length E st.hp s.hp
 let blkR:aV:=.loop .ready none s.fr ps as bd
 let J:Nat→bw:=fun i=>LP blkR fun hp' amb'=>hp'=Hs i∧amb'=As i∧Ps i
 let Stop:bw→Prop:=fun a=>∃ pend e,((e=Exit.ret∧pend=Code.ret)∨∃ id,e=Exit.exit id∧pend=Code.exit id)∧a=LP (.loop .done (some pend) s.fr ps as bd) fun hp' amb'=>K e ⟨st.fr,hp',amb',st.rd,st.fl⟩
 let u:Value:=.func (.yield l) #[] #[]
 have hy:∀ (i:Nat) (x:List AV),xs[i]?=some x→C9 T tab one u x (J i) (Gq (J (i+1)) Stop):=by
  intro i x hx hp E1 base1 H w us hr hw ha
  have hwu:w=u:=by
   cases hw with
   | d h=>cases h;rfl
  subst hwu
  obtain ⟨hlow,hl,E',b',hp',amb',H',⟨rfl,rfl,hPi⟩,q2,q3,q4,⟨q5,q5'⟩,q6,q7,q8,q9⟩:=hr.av
  obtain ⟨hxl,hround⟩:=hround i x hx hPi
  refine ⟨.yield l ([]++us),rfl,?_⟩
  rw [List.nil_append]
  have hln:l < H.n:=hr.sn _ (hlow _ (Nat.le_refl _))
  let X2:Nat→Prop:=fun k=>E'.X k∨(k < H.n∧¬ E1.S k)
  have hv:aK {E' with X:=X2} base1 (Hs i) (As i) H:=q2.view hr.wf q4 (fun k h=>.inl h) (fun k h=>by
    rcases h with h|h
    ·exact .inl h
    ·by_cases hk:k < H'.n
     ·exact .inl ((q6 k hk).resolve_left h.2)
     ·exact .inr (by omega)) (fun k h=>h.elim (fun h=>Nat.lt_of_lt_of_le (q2.xn k h) q4) And.left)
   (fun k hk h=>by
    rcases h with h|h
    ·exact q8 k ((q6 k hk).resolve_right h) (fun e=>h (e ▸ q5))
    ·exact q8 k (q7 k h) (fun e=>q5' (e ▸ h))) (fun k hk=>hr.qp k (.inr (q9 k (hk.imp id .inl)))) hr.bn
  have f0:iK st.hp.length 0 E st.hp s.hp {E' with X:=X2} (Hs i) H:=⟨Nat.le_trans q3.n q4,q3.Bw,q3.own,q3.d,fun k h=>by
    rcases h with h|h
    ·exact q3.x k h
    ·by_cases hk:k < s.hp.n
     ·exact absurd (hlow k (Nat.le_of_lt hk)) h.2
     ·exact .inr (by omega),fun k h=>.inl (q3.xk k h),q3.s,fun k hk h1 h2=>by rw [q8 k (hlow k (Nat.le_of_lt hk)) (by omega)];exact q3.same k hk h1 h2,by omega⟩
  have hfrm:nq E'.ρ H.get (({E' with X:=X2}:Env).O (Hs i)) st.fr s.fr:=fun t=>f0.ar hs.h.Gn (hs.fr t)
  have hargs:fh E'.ρ H.get (({E' with X:=X2}:Env).O (Hs i)) x us:=⟨ha.1,fun i a u h1 h2=>.d ((hfree x (List.mem_of_getElem? hx) a (List.mem_of_getElem? h1)).2 _ _ _ _ ((ha.2 i a u h1 h2).deep (hfree x (List.mem_of_getElem? hx) a (List.mem_of_getElem? h1)).1))⟩
  obtain ⟨m1,L1,a1,a2,a3⟩:=hround {E' with X:=X2} base1 ⟨eH s.fr (ps.toList.zip us),H,true⟩ ⟨hv,rfl,BS _ hfrm hargs⟩
  have hXl2:X2 s.hp.n:=.inl q5
  obtain ⟨m,M,hm,z1,z2⟩:=cB (one:=one) (L:=L1) (f:=fun m (p:Exit × St)=>cN T (RX T tab m) l bd p) (P:=fun r=>∃ w H',r=.ret w H'∧∃ E5 a hp5 amb5,(hp5=hp∧∃ b,a=.fl (.bool b)∧Gq (J (i+1)) Stop b amb5)∧aK E5 base1 hp5 amb5 H'∧AR E5.ρ H'.get (E5.O hp5) a w∧iK hp.length base1 E1 hp H E5 hp5 H')
   (fun n m x M hnm hx=>wN (dR hnm) hx) m1 a2 (fun p hp0=>by
    obtain ⟨E2,st2,k1,k2,k3,k4⟩:=a3 p hp0
    obtain ⟨e,p⟩:=p
    cases e with
    | normal =>
     obtain ⟨hrd2,hbd⟩:=k1
     have gl:p.hp.get l=some blkR:=by
      rw [k4.same l hln (fun h=>hv.iL _ h hXl2) (fun h=>q5' (q2.ds _ h))];exact hl
     have hl2:l < p.hp.n:=Nat.lt_of_lt_of_le hln k4.n
     have hX2l:E2.X l:=k4.xk l hXl2
     have hS2l:¬ E2.S l:=fun h=>by
      rcases k4.s l h with h|h
      ·exact q5' h
      ·have:H.n≤l:=h;omega
     let bB:aV:=.loop .busy none s.fr ps as bd
     have hv2:aK E2 base1 st2.hp st2.av (p.hp.put l bB):=k3.h.view (X':=E2.X) (fun k hk=>by
       have hk:p.hp.n≤k:=hk
       rw [bH (by omega)];exact k3.h.wf k hk) (Nat.le_refl _) (fun _ h=>h) (fun _ h=>.inl h) k3.h.xn (fun k hk h=>bH fun e=>by
       subst e
       exact h.elim (fun h=>h hX2l) hS2l) k3.h.qp k3.h.bn
     have har2:nq E2.ρ (p.hp.put l bB).get (E2.O st2.hp) st2.fr p.fr:=fun t=>(k3.fr t).mono (fun _ _ _ h=>h) (fun k b hk ho=>⟨by rw [bH (fun e=>by subst e;exact ho (.inr hX2l))];exact hk,ho⟩)
     obtain ⟨m2,L2,b1,b2,b3⟩:=hbd E2 base1 ⟨p.fr,p.hp.put l bB,true⟩ ⟨hv2,hrd2.symm,har2⟩
     have F1:iK st.hp.length base1 {E' with X:=X2} (Hs i) (H.put l bB) E2 st2.hp (p.hp.put l bB):=⟨k4.n,k4.Bw,k4.own,k4.d,k4.x,k4.xk,k4.s,fun k hk h1 h2=>by
       by_cases hkl:k=l
       ·subst hkl;rw [iE,iE]
       ·rw [bH hkl,bH hkl];exact k4.same k hk h1 h2,by
       have h5:min H.lo base1≤p.hp.lo:=k4.lo
       have h3:(H.put l bB).lo=min H.lo l:=rfl
       have h4:(p.hp.put l bB).lo=min p.hp.lo l:=rfl
       omega⟩
     have back:∀ {E4:Env} {hp4:List AB} {amb4:bw} {q:St} (blk':aV) {Q':List AB→bw→Prop},aK E4 base1 hp4 amb4 q.hp→iK st.hp.length base1 E2 st2.hp (p.hp.put l bB) E4 hp4 q.hp→Q' hp4 amb4 →
       ∃ E5,aK E5 base1 hp (LP blk' Q') (q.hp.put l blk')∧iK hp.length base1 E1 hp H E5 hp (q.hp.put l blk'):=by
      intro E4 hp4 amb4 q blk' Q' h4 f4 hQ
      exact EX (E:={E' with X:=X2}) hr (fun k hk=>by
        by_cases hs1:E1.S k
        ·exact .inl hs1
        ·exact .inr (.inr ⟨hk,hs1⟩)) hXl2 q5' q7 q9 hlow f0 h4 (F1.trans f4) hQ
     refine ⟨max m2 0,?_⟩
     obtain ⟨m3,M3,hm3,y1,y2⟩:=cB (one:=one) (L:=L2) (f:=fun _ (q:Exit × St)=>gm l q) (P:=fun r=>∃ w H',r=.ret w H'∧∃ E5 a hp5 amb5,(hp5=hp∧∃ b,a=.fl (.bool b)∧Gq (J (i+1)) Stop b amb5)∧aK E5 base1 hp5 amb5 H'∧AR E5.ρ H'.get (E5.O hp5) a w∧iK hp.length base1 E1 hp H E5 hp5 H')
      (fun _ _ _ _ _ h=>h) 0 b2 (fun q hq=>by
       obtain ⟨E3,st3,j1,j2,j3,j4⟩:=b3 q hq
       obtain ⟨e,q⟩:=q
       have gl2:q.hp.get l=some bB:=by
        rw [j4.same l hl2 (fun h=>hv2.iL _ h hX2l) (fun h=>hS2l (hv2.ds _ h))];exact iE
       have jfl:st2.fl=st.hp.length:=k2
       cases e with
       | normal =>
        obtain ⟨hPn,fr',hwk⟩:=j1
        obtain ⟨E4,h4,f4⟩:=hwk.KM j3
        rw [j2,jfl] at f4
        rw [jfl] at j4
        obtain ⟨E5,x1,x2⟩:=back (q:=q) (.loop .ready none s.fr ps as bd) (Q':=fun hp' amb'=>hp'=Hs (i+1)∧amb'=As (i+1)∧Ps (i+1)) h4 (j4.trans f4) ⟨rfl,rfl,hPn⟩
        exact ⟨0,[.ret (.bool true) (q.hp.put l (.loop .ready none s.fr ps as bd))],by unfold gm;simp only [gl2,bB],.single ⟨_,_,rfl,E5,.fl (.bool true),hp,_,⟨rfl,true,rfl,.inl ⟨rfl,rfl⟩⟩,x1,.d (.fl rfl),x2⟩⟩
       | ret =>
        rw [jfl] at j4
        obtain ⟨E5,x1,x2⟩:=back (q:=q) (.loop .done (some .ret) s.fr ps as bd) (Q':=fun hp' amb'=>K .ret ⟨st.fr,hp',amb',st.rd,st.fl⟩) j3.h j4 j1
        exact ⟨0,[.ret (.bool false) (q.hp.put l (.loop .done (some .ret) s.fr ps as bd))],by unfold gm;simp only [gl2,bB],.single ⟨_,_,rfl,E5,.fl (.bool false),hp,_,⟨rfl,false,rfl,.inr ⟨rfl,.ret,.ret,.inl ⟨rfl,rfl⟩,rfl⟩⟩,x1,.d (.fl rfl),x2⟩⟩
       | exit id =>
        rw [jfl] at j4
        obtain ⟨E5,x1,x2⟩:=back (q:=q) (.loop .done (some (.exit id)) s.fr ps as bd) (Q':=fun hp' amb'=>K (.exit id) ⟨st.fr,hp',amb',st.rd,st.fl⟩) j3.h j4 j1
        exact ⟨0,[.ret (.bool false) (q.hp.put l (.loop .done (some (.exit id)) s.fr ps as bd))],by unfold gm;simp only [gl2,bB],.single ⟨_,_,rfl,E5,.fl (.bool false),hp,_,⟨rfl,false,rfl,.inr ⟨rfl,.exit id,.exit id,.inr ⟨id,rfl,rfl⟩,rfl⟩⟩,x1,.d (.fl rfl),x2⟩⟩
       | _=>exact j1.elim)
     refine ⟨M3,?_,y2⟩
     unfold cN
     simp only [gl,blkR]
     rw [dX (dR (Nat.le_max_left m2 0)) _ _ _ b1]
     exact y1
    | _=>exact k1.elim)
  refine ⟨m+1,M,?_,z2⟩
  show RX T tab (m+1) (.round l us H)=_
  rw [F7,ou,hl]
  simp only [blkR]
  rw [show Nat.beq us.length ps.toList.length=true by rw [←ha.1,hxl];exact Nat.beq_refl _]
  simp only [cond_true]
  rw [dX (dR hm) _ _ _ a1]
  exact z1
 let E1:Env:=⟨fun _ _=>none,fun k=>Own E.ρ st.hp k∨E.D k∨k=l,fun k=>k≤l,fun k=>Own E.ρ st.hp k∨E.X k∨k=l⟩
 have hno:∀ k,¬ Own E1.ρ [] k:=fun k ⟨j,b,ax,h,_⟩=>by cases h
 have hwf1:Wf (s.hp.push blkR):=(cQ.push s.hp blkR).wf hs.h.wf
 have hrel1:aK E1 base [] (J 0) (s.hp.push blkR) :=
  {wf:=hwf1,gC:=fun j b ax h _=>(by cases h),inj:=fun j j' ax ver' k h=>(by cases h),rn:=fun j v k h=>(by cases h),fresh:=fun j b ax v h=>(by cases h),new:=fun _ _ _=>rfl,
   sup:=fun k h=>(hno k h).elim,iL:=fun k h=>(hno k h).elim,dx:=fun k h=>h.imp id (fun h=>h.imp (hs.h.dx k) id),
   ds:=fun k h=>by
    rcases h with h|h|h
    ·exact Nat.le_of_lt (hs.h.mC h)
    ·exact Nat.le_of_lt (hs.h.sn k (hs.h.ds k h))
    ·exact Nat.le_of_eq h
   sn:=fun k h=>Nat.lt_succ_of_le h
   xn:=fun k h=>by
    show k < s.hp.n+1
    rcases h with h|h|h
    ·exact Nat.lt_succ_of_lt (hs.h.mC h)
    ·exact Nat.lt_succ_of_lt (hs.h.xn k h)
    ·have:k=s.hp.n:=h;omega
   qp:=fun k h=>by
    rcases h with h|h|h|h
    ·exact (hno k h).elim
    ·exact hs.h.qp k (.inl h)
    ·exact hs.h.qp k (.inr h)
    ·rw [h];exact hs.h.bn
   bn:=Nat.le_succ_of_le hs.h.bn
   av:=by
    refine ⟨fun k h=>h,jb,{E with X:=fun k=>E.X k∨k=s.hp.n},base,st.hp,st.av,s.hp.push blkR,⟨h0.symm,ha0.symm,hp0⟩,hs.h.view hwf1 (Nat.le_succ _) (fun k h=>.inl h) (fun k h=>h.imp id (fun h=>Nat.le_of_eq h.symm)) (fun k h=>?_) (fun k hk _=>bZ hk) hs.h.qp (Nat.le_succ_of_le hs.h.bn),
     ⟨Nat.le_succ _,fun _ _ _ _ h=>h,fun _ h=>.inl h,fun _ h=>.inl h,fun k h=>h.imp id (fun h=>Nat.le_of_eq h.symm),fun _ h=>.inl h,fun _ h=>.inl h,fun k hk _ _=>bZ hk,by omega⟩,Nat.le_refl _,⟨.inr rfl,fun h=>Nat.lt_irrefl _ (hs.h.sn _ h)⟩,fun k hk=>.inl (Nat.le_of_lt_succ hk),fun k h=>Nat.le_of_lt (hs.h.sn k h),fun _ _ _=>rfl,fun k h=>h⟩
    show k < s.hp.n+1
    rcases h with h|h
    ·exact Nat.lt_succ_of_lt (hs.h.xn k h)
    ·omega}
 have hFv:=gR hs.fr f
 have hdF:=hFv.deep hdeep
 have hF1:AR E1.ρ (s.hp.push blkR).get (E1.O []) (aS st.fr f) (aL s.fr f):=.d (hdF.mono fun k b hk ho=>by
  have hlt:=hs.h.wf.lt hk
  refine ⟨by rw [bZ hlt];exact hk,fun h=>?_⟩
  rcases h with h|h|h|h
  ·exact hno k h
  ·exact ho (.inl h)
  ·exact ho (.inr h)
  ·have:k=s.hp.n:=h;omega)
 obtain ⟨goal,hgo,m,L,c1,c2,c3⟩:=hgen u J Stop hy E1 base (s.hp.push blkR) _ [u] hrel1 hF1 (.cons (.d (.oq rfl)) .nil)
 have hgfn:∃ as',goal=.fn gf as':=by
  rw [hF] at hdF
  generalize aL s.fr f=fv at hdF hgo
  cases hdF with
  | fn _ _ _ _=>exact ⟨_,by cases hgo;rfl⟩
 obtain ⟨as',rfl⟩:=hgfn
 obtain ⟨m',M,hm,z1,z2⟩:=cB (one:=one) (L:=L) (f:=fun _ (r:eV)=>ju l s.fr s.rd r) (P:=fun p=>qI E base st s (K p.1) p.2) (fun _ _ _ _ _ h=>h) m c2 (fun r hr=>by
  obtain ⟨w,H2,rfl,E2,a,hp2,amb2,k1,k2,k3,k4⟩:=c3 r hr
  have fin:∀ {gC:aV} (blk':aV) {Q:List AB→bw→Prop} {e:Exit},amb2=LP gC Q→(∀ hp' amb',Q hp' amb'→K e ⟨st.fr,hp',amb',st.rd,st.fl⟩)→H2.get l=some gC∧qI E base st s (K e) ⟨s.fr,H2.put l blk',s.rd⟩:=by
   intro gC blk' Q e ha hQ
   subst ha
   obtain ⟨hlow,hl,E',b',hp',amb',H',q1,q2,q3,q4,⟨q5,q5'⟩,q6,q7,q8,q9⟩:=k2.av
   have hln:l < H2.n:=k2.sn _ (hlow _ (Nat.le_refl _))
   have hbl:base≤l:=k2.qp _ (.inr (q9 _ (.inr (.inr rfl))))
   have hg2:∀ k,E2.S k→k ≠ l→(H2.put l blk').get k=H'.get k:=fun k h1 h2=>by rw [bH h2];exact q8 k h1 h2
   have hfin:aK {E' with X:=fun k=>E'.X k∨(k < H2.n∧¬ E2.S k)} base hp' amb' (H2.put l blk'):=q2.view (fun k hk=>by
      have hk:H2.n≤k:=hk
      rw [bH (by omega)];exact k2.wf k hk) q4 (fun k h=>.inl h) (fun k h=>by
     rcases h with h|h
     ·exact .inl h
     ·by_cases hk:k < H'.n
      ·exact .inl ((q6 k hk).resolve_left h.2)
      ·exact .inr (by omega)) (fun k h=>h.elim (fun h=>Nat.lt_of_lt_of_le (q2.xn k h) q4) And.left)
    (fun k hk h=>by
     rcases h with h|h
     ·exact hg2 k ((q6 k hk).resolve_right h) (fun e=>h (e ▸ q5))
     ·exact hg2 k (q7 k h) (fun e=>q5' (by have e:k=s.hp.n:=e;rw [←e];exact h))) (fun k hk=>k2.qp k (.inr (q9 k (hk.imp id .inl)))) k2.bn
   have ff:iK st.hp.length base E st.hp s.hp {E' with X:=fun k=>E'.X k∨(k < H2.n∧¬ E2.S k)} hp' (H2.put l blk'):=⟨Nat.le_trans q3.n q4,q3.Bw,q3.own,q3.d,fun k h=>by
     rcases h with h|h
     ·exact q3.x k h
     ·by_cases hk:k < s.hp.n
      ·exact absurd (hlow k (Nat.le_of_lt hk)) h.2
      ·exact .inr (by omega),fun k h=>.inl (q3.xk k h),q3.s,fun k hk h1 h2=>by rw [hg2 k (hlow k (Nat.le_of_lt hk)) (Nat.ne_of_lt hk)];exact q3.same k hk h1 h2,by
     have h1:=k4.lo
     have h2:(s.hp.push blkR).lo=s.hp.lo:=rfl
     have h3:(H2.put l blk').lo=min H2.lo l:=rfl
     omega⟩
   exact ⟨hl,_,⟨st.fr,hp',amb',st.rd,st.fl⟩,hQ _ _ q1,rfl,⟨hfin,hs.rd,fun t=>ff.ar hs.h (hs.fr t)⟩,ff.low hs.h _⟩
  rcases k1 with k1|⟨pend,e,hpe,k1⟩
  ·obtain ⟨g1,g2⟩:=fin (.loop .exhausted none s.fr ps as bd) (e:=.normal) k1 (fun hp' amb' ⟨h1,h2,h3⟩=>by subst h1;subst h2;exact hend h3)
   exact ⟨0,[(.normal,⟨s.fr,H2.put l (.loop .exhausted none s.fr ps as bd),s.rd⟩)],by unfold ju;simp only [g1,blkR],.single g2⟩
  ·obtain ⟨g1,g2⟩:=fin (.loop .exhausted (some pend) s.fr ps as bd) (e:=e) k1 (fun _ _ h=>h)
   rcases hpe with ⟨rfl,rfl⟩|⟨id,rfl,rfl⟩
   ·exact ⟨0,[(.ret,⟨s.fr,H2.put l (.loop .exhausted (some .ret) s.fr ps as bd),s.rd⟩)],by unfold ju;simp only [g1],.single g2⟩
   ·exact ⟨0,[(.exit id,⟨s.fr,H2.put l (.loop .exhausted (some (.exit id)) s.fr ps as bd),s.rd⟩)],by unfold ju;simp only [g1],.single g2⟩)
 refine ⟨m',M,?_,z2⟩
 rw [lB]
 unfold mR
 have hgo':bQ (aL s.fr f) [Value.func (Fn.yield s.hp.n) #[] #[]]=some (.fn gf as'):=hgo
 simp only [hgo']
 have:RX T tab m' (.call gf as' (s.hp.push (.loop .ready none s.fr ps as bd)))=some L:=dR hm _ _ c1
 rw [this]
 exact z1
theorem af.closed {f:FuncId} {v:Value} (h:∀ H,look tab f [] H=some (v,H)) (hv:aP v=true):af T tab one (.fn f [] []) [] (.fl v):=by
 refine ⟨rfl,fun X H u us hwf hX hF ha=>?_⟩
 cases hF with
 | fn l1 l2 d1 d2 =>
  rename_i a' b'
  have h1:a'.toList=[]:=List.length_eq_zero_iff.1 l1.symm
  have h2:b'.toList=[]:=List.length_eq_zero_iff.1 l2.symm
  have h3:us=[]:=List.length_eq_zero_iff.1 ha.1.symm
  refine ⟨.fn f [],by simp [bQ,h1,h2,h3],0,[.ret v H],?_,fun _=>⟨_,rfl⟩,fun r hr=>?_⟩
  ·show rx tab (uO tab T 0) (.call f [] H)=_
   unfold rx
   simp only [h H]
  ·obtain rfl:=List.mem_singleton.1 hr
   exact ⟨v,H,rfl,Nat.le_refl _,hwf,fun _ _=>rfl,Nat.min_le_left _ _,.fl hv⟩
end
end Go.RM
namespace Go.RM
open Go
theorem HZ {P:Program} {t:TypeId} {x y:Operand} {m n:Int} (h0:0≤m) (h2:1≤n):lT P .rem t x y (.int .i64 m) (.int .i64 n)=some (.int .i64 (m % n),.none):=by
 have hn:n ≠ 0:=by omega
 have h:lT P .rem t x y (.int .i64 m) (.int .i64 n)=some (.int .i64 (m.tmod n),.none):=by
  show fG P .rem t x y (.int .i64 m) (.int .i64 n)=_
  unfold fG
  simp only [flat,aP,Bool.and_self,cond_true]
  have:(do eqGuard BinOp.rem t x y (Value.int IntKind.i64 m) (Value.int IntKind.i64 n);binOp BinOp.rem t (Value.int IntKind.i64 m) (Value.int IntKind.i64 n):Sem Value)=pure (.int .i64 (m.tmod n)):=by
   show Op.intDiv .rem .i64 m n=_
   unfold Op.intDiv
   rw [if_neg hn]
  rw [this]
  rfl
 rw [h,IntWalk.rem_in m n h0]
theorem H6 {P:Program} {t:TypeId} {x y:Operand} {m n:Int} (h0:0≤m) (h1:m≤9223372036854775807) (h2:1≤n):lT P .quo t x y (.int .i64 m) (.int .i64 n)=some (.int .i64 (m / n),.none):=by
 have hn:n ≠ 0:=by omega
 have h:lT P .quo t x y (.int .i64 m) (.int .i64 n)=some (.int .i64 (IntKind.i64.wrap (m.tdiv n)),.none):=by
  show fG P .quo t x y (.int .i64 m) (.int .i64 n)=_
  unfold fG
  simp only [flat,aP,Bool.and_self,cond_true]
  have:(do eqGuard BinOp.quo t x y (Value.int IntKind.i64 m) (Value.int IntKind.i64 n);binOp BinOp.quo t (Value.int IntKind.i64 m) (Value.int IntKind.i64 n):Sem Value)=pure (.int .i64 (IntKind.i64.wrap (m.tdiv n))):=by
   show Op.intDiv .quo .i64 m n=_
   unfold Op.intDiv
   rw [if_neg hn]
  rw [this]
  rfl
 rw [h,IntWalk.i64_quo m n ⟨h0,h1,h2⟩]
section
variable {T : bh} {tab : List XE} {one : Bool} {mu : Tmp → Bool}
theorem uq {ops:List Oper} {j:Nat} {want:Bool} {fr:Nat→AV} {yes no:Prop} {d:Tmp} {a0 a1 a2 a3 a4} {b:Bool} (h1:ops[j]?=some ⟨some d,a0,a1,a2,a3,a4⟩) (h2:fr d=.fl (.bool b)) (h3:b=want) (y:yes):cY ops (some (j,want)) fr yes no:=by
 unfold cY
 simp only [h1,h2]
 exact fW h3 y
theorem wO {ops:List Oper} {j:Nat} {want:Bool} {fr:Nat→AV} {yes no:Prop} {d:Tmp} {a0 a1 a2 a3 a4} {b:Bool} (h1:ops[j]?=some ⟨some d,a0,a1,a2,a3,a4⟩) (h2:fr d=.fl (.bool b)) (h3:b=!want) (n:no):cY ops (some (j,want)) fr yes no:=by
 unfold cY
 simp only [h1,h2]
 exact gK h3 n
theorem Ai {ops:List Oper} {j:Nat} {want:Bool} {fr:Nat→AV} {yes no:Prop} {d:Tmp} {a0 a1 a2 a3 a4} {vs:List AV} (h1:ops[j]?=some ⟨some d,a0,a1,a2,a3,a4⟩) (h2:fr d=.tp vs) (n:no):cY ops (some (j,want)) fr yes no:=by
 unfold cY
 simp only [h1,h2]
 exact n
end
end Go.RM
namespace Go.RM
open Go
theorem Gr {v:AV} {K:AV→Prop} (h:K v):force v K:=by cases v <;> exact h
section
variable {T : bh} {tab : List XE} {one : Bool} {mu : Tmp → Bool} {own : Bool} {fr : Nat → AV} {hp : List AB} {av : bw} {rd : Bool} {fl : Nat} {K : AV → List AB → Prop} {KE : Exit → aR → Prop} {KS : aR → Prop} {st : aR} {dst : Option Tmp}
theorem c1 (h:KE .normal st):kE T tab one mu .skip st KE:=h
theorem c2 {a b:Code} (h:kE T tab one mu a st (yc (fun s=>kE T tab one mu b s KE) KE)):kE T tab one mu (.seq a b) st KE:=h
theorem c3 {id:Nat} {c:Code} (h:kE T tab one mu c st (kX id KE)):kE T tab one mu (.block id c) st KE:=h
theorem c4 {id:Nat} {l:List Oper} (h:wpOps T tab one mu l l st (KE .normal)):kE T tab one mu (.region id l.toArray false) st KE:=h
theorem c5 {id:Nat} {l l1 l2:List Oper} {c:Nat} (hc:gy l.toArray=c) (h1:l.take c=l1) (h2:l.drop c=l2) (h:jg T tab mu l.toArray l1 0 (fun _=>0) [] st fun s=>wpOps T tab one mu l l2 s (KE .normal)):kE T tab one mu (.region id l.toArray true) st KE:=by
 subst hc h1 h2
 exact h
theorem c6 {id:Nat} (h:KE (.exit id) st):kE T tab one mu (.exit id) st KE:=h
theorem c7 (h:KE .ret st):kE T tab one mu .ret st KE:=h
theorem c8 {c:Code} (h:kE T tab one mu c st (th KE)):kE T tab one mu (.scope c) st KE:=h
theorem c9 {Q:aR→Prop} (h:Q st):yc Q KE .normal st:=h
theorem d1 {Q:aR→Prop} (h:KE .ret st):yc Q KE .ret st:=h
theorem d2 {Q:aR→Prop} {id:Nat} (h:KE (.exit id) st):yc Q KE (.exit id) st:=h
theorem d3 {id:Nat} (h:KE .normal st):kX id KE .normal st:=h
theorem d4 {id:Nat} (h:KE .ret st):kX id KE .ret st:=h
theorem d5 {id id':Nat} (hb:Nat.beq id' id=true) (h:KE .normal st):kX id KE (.exit id') st:=by unfold kX;simp only [hb,cond_true];exact h
theorem d6 {id id':Nat} (hb:Nat.beq id' id=false) (h:KE (.exit id') st):kX id KE (.exit id') st:=by unfold kX;simp only [hb,cond_false];exact h
theorem d7 (h:KE .normal st):th KE .normal st:=h
theorem d8 (h:KE .ret st):th KE .ret st:=h
theorem d9 {id:Nat} (h:KE (.exit id) st):th KE (.exit id) st:=h
theorem e1 {c:Operand} {a b:Code} {t:Bool} (hc:aS st.fr c=.fl (.bool t)) (h:(t=true→kE T tab one mu a st KE)∧(t=false→kE T tab one mu b st KE)):kE T tab one mu (.cond c a b) st KE:=by
 show (match aS st.fr c with|.fl (.bool t)=>_|_=>False)
 rw [hc];exact h
theorem e2 {c:Operand} {a b:Code} {t:Bool} (hc:aS st.fr c=.fl (.bool t)) (ht:t=true) (h:kE T tab one mu a st KE):kE T tab one mu (.cond c a b) st KE:=e1 hc (HP ht h)
theorem e3 {c:Operand} {a b:Code} {t:Bool} (hc:aS st.fr c=.fl (.bool t)) (ht:t=false) (h:kE T tab one mu b st KE):kE T tab one mu (.cond c a b) st KE:=e1 hc (Jx ht h)
theorem o1 {ops:List Oper} (h:KS st):wpOps T tab one mu ops [] st KS:=h
theorem o2 {ops:List Oper} {op:Op} {a1 a2 a3 gd} {l:List Oper}
 (h:cY ops gd fr (so T tab one mu dst op fr hp av rd fl fun st'=>wpOps T tab one mu ops l st' KS) (gv dst fr (.tp []) fun fr'=>wpOps T tab one mu ops l ⟨fr',hp,av,rd,fl⟩ KS)):wpOps T tab one mu ops (⟨dst,op,a1,a2,a3,gd⟩ :: l) ⟨fr,hp,av,rd,fl⟩ KS:=h
theorem o3 {ops:Array Oper} {op:Op} {a1 a2 a3 gd} {l:List Oper} {i:Nat} {bt:Nat→Nat} {acc:List jW}
 (h:cY ops.toList gd fr (je T tab mu dst op i bt fr hp fun fr' hp' bt' x=>jg T tab mu ops l (i+1) bt' (x :: acc) ⟨fr',hp',av,rd,fl⟩ KS)
  (gv dst fr (.tp []) fun fr'=>jg T tab mu ops l (i+1) (nU dst bt 0) (⟨i,[],false,false⟩ :: acc) ⟨fr',hp,av,rd,fl⟩ KS)):jg T tab mu ops (⟨dst,op,a1,a2,a3,gd⟩ :: l) i bt acc ⟨fr,hp,av,rd,fl⟩ KS:=h
theorem o4 {ops:List Oper} {yes no:Prop} (h:yes):cY ops none fr yes no:=h
theorem o5 {d:Tmp} {v:AV} {P:(Nat→AV)→Prop} (h:P fun t=>bif Nat.beq t d then v else fr t):gv (some d) fr v P:=h
theorem o6 {v:AV} {P:(Nat→AV)→Prop} (h:P fr):gv none fr v P:=h
theorem o7 {f:Operand} {l:List Operand} {tys} (h:force (aS fr f) fun F=>eT (l.map (aS fr)) fun as=>ai T tab one F as hp av fun v hp' amb'=>gv dst fr v fun fr'=>KS ⟨fr',hp',amb',rd,fl⟩) :
 so T tab one mu dst (.call ⟨.value f,l.toArray,tys⟩) fr hp av rd fl KS:=h
theorem o8 {op:Op} (hk:cv op=.plain) (h:wpOp T (EO mu dst) op fr hp fun v hp'=>force v fun v=>gv dst fr v fun fr'=>KS ⟨fr',hp',av,rd,fl⟩):so T tab one mu dst op fr hp av rd fl KS:=by
 unfold so;rw [hk];exact h
theorem o9 {x:Operand} {l:List Operand} {f:Operand→AV} {P:List AV→Prop} (h:force (f x) fun a=>eT (l.map f) fun l=>P (a :: l)):eT ((x :: l).map f) P:=h
theorem p1 {f:Operand→AV} {P:List AV→Prop} (h:P []):eT (([]:List Operand).map f) P:=h
theorem p2 {x:Operand} (h:K (aS fr x) hp):wpOp T own (.move x) fr hp K:=h
theorem p3 {x:Operand} (h:K (aS fr x) hp):wpOp T own (.assign x) fr hp K:=h
theorem p4 {c a b:Operand} (h:s8 (aS fr c) (aS fr a) (aS fr b) hp K):wpOp T own (.pick c a b) fr hp K:=h
theorem p5 {o:BinOp} {t e:TypeId} {x y:Operand} (h:iQ T o t x y (aS fr x) (aS fr y) hp K):wpOp T own (.binOp o t x y e) fr hp K:=h
theorem p6 {x:Operand} {t:TypeId} (h:force (aS fr x) fun v=>sj T t v hp K):wpOp T own (.call ⟨.builtin .len,[x].toArray,[t].toArray⟩) fr hp K:=Gr (dH h)
theorem p7 {f:FuncId} {a b:List Operand} (h:eT (a.map (aS fr)) fun a=>eT (b.map (aS fr)) fun b=>K (.fn f a b) hp):wpOp T own (.makeFunc (.func f) a.toArray b.toArray) fr hp K:=h
theorem p8 {x:Operand} (h:si (aS fr x) hp K):wpOp T own (.nilCheck x) fr hp K:=h
theorem p9 {op:Op} {i:Nat} {bt:Nat→Nat} {KD:(Nat→AV)→List AB→(Nat→Nat)→jW→Prop} (hk:cv op=.plain) (h:∃ a,Gg op fr (EU bt)=some a∧wpOp T (EO mu dst) op fr hp fun v hp'=>force v fun v=>gv dst fr v fun fr'=>KD fr' hp' (nU dst bt (yP op fr bt i)) ⟨i,a,news? op,false⟩) :
  je T tab mu dst op i bt fr hp KD:=by
 unfold je;rw [hk];exact h
theorem wP {v:AV} {P:AV→Prop} (h:P v):force v P:=by cases v <;> exact h
theorem tn:∀ {l:List AV} {P:List AV→Prop},P l→eT l P
 | [],_,h=>h
 | _ :: _,_,h=>wP (tn (P:=fun _=>_) h)
theorem DV {f:Operand} {l:List Operand} {tys} {i:Nat} {bt:Nat→Nat} {KD:(Nat→AV)→List AB→(Nat→Nat)→jW→Prop} (h:(aS fr f).deep=true∧∃ vs v,Handed hp (l.map (aS fr)) vs v∧af T tab true (aS fr f) vs v∧gv dst fr v fun fr'=>KD fr' hp (nU dst bt (i+1)) ⟨i,[],true,true⟩) :
  je T tab mu dst (.call ⟨.value f,l.toArray,tys⟩) i bt fr hp KD:=by
 show force (aS fr f) fun F=>eT (l.map (aS fr)) fun as=>F.deep=true∧∃ vs v,Handed hp as vs v∧af T tab true F vs v∧gv dst fr v fun fr'=>KD fr' hp (nU dst bt (i+1)) ⟨i,[],true,true⟩
 generalize aS fr f=F at h ⊢
 generalize l.map (aS fr)=as at h ⊢
 exact wP (tn (P:=fun as=>F.deep=true∧∃ vs v,Handed hp as vs v∧af T tab true F vs v∧gv dst fr v fun fr'=>KD fr' hp (nU dst bt (i+1)) ⟨i,[],true,true⟩) h)
theorem n1 {f:Operand} {l:List Operand} {tys} {i:Nat} {bt:Nat→Nat} {KD:(Nat→AV)→List AB→(Nat→Nat)→jW→Prop} (h:force (aS fr f) fun F=>eT (l.map (aS fr)) fun as=>F.deep=true∧de as=true∧∃ v,af T tab true F as v∧gv dst fr v fun fr'=>KD fr' hp (nU dst bt (i+1)) ⟨i,[],true,true⟩) :
  je T tab mu dst (.call ⟨.value f,l.toArray,tys⟩) i bt fr hp KD:=by
 have h:=ic (dH h)
 obtain ⟨h1,h2,v,h3,h4⟩:=h
 exact DV ⟨h1,_,v,.inl ⟨rfl,h2⟩,h3,h4⟩
theorem n2 {f:Operand} {l:List Operand} {tys} {i:Nat} {bt:Nat→Nat} {KD:(Nat→AV)→List AB→(Nat→Nat)→jW→Prop} {F v:AV} {as vs:List AV} (hp':af T tab true F vs v) (hf:aS fr f=F) (ha:l.map (aS fr)=as) (hF:F.deep=true) (hz:Af hp as vs) (hv:iM v) (h:gv dst fr v fun fr'=>KD fr' hp (nU dst bt (i+1)) ⟨i,[],true,true⟩) :
  je T tab mu dst (.call ⟨.value f,l.toArray,tys⟩) i bt fr hp KD:=by
 subst hf ha
 exact DV ⟨hF,vs,v,.inr ⟨hz,hv⟩,hp',h⟩
theorem n3 {x:Operand} {t:TypeId} {b:Bool} (hb:aS fr x=.fl (.bool b)) (h:K (.fl (.bool (!b))) hp):wpOp T own (.unOp .not t x) fr hp K:=by
 show HO T .not (aS fr x) hp K
 rw [hb];exact h
theorem n4 {x y:Operand} {tys:Array TypeId} {m n:Int} (hx:aS fr x=.fl (.int .i64 m)) (hy:aS fr y=.fl (.int .i64 n)) (h:K (.fl (.int .i64 (min m n))) hp):wpOp T own (.call ⟨.builtin .min,[x,y].toArray,tys⟩) fr hp K:=by
 show force (aS fr x) fun a=>force (aS fr y) fun b=>DL T [a,b] hp K
 rw [hx,hy];exact h
theorem n5 {x y:Operand} {tys:Array TypeId} {m n:Int} (hx:aS fr x=.fl (.int .i64 m)) (hy:aS fr y=.fl (.int .i64 n)) (h:K (.fl (.int .i64 (max m n))) hp):wpOp T own (.call ⟨.builtin .max,[x,y].toArray,tys⟩) fr hp K:=by
 show force (aS fr x) fun a=>force (aS fr y) fun b=>DM T [a,b] hp K
 rw [hx,hy];exact h
section
variable {v : AV} {P : AV → Prop}
theorem f1 {x:Value} (hv:v=.fl x) (h:P (.fl x)):force v P:=by subst hv;exact h
theorem f2 {a:List (List AV)} {b:Bool} (hv:v=.sl a b) (h:P (.sl a b)):force v P:=by subst hv;exact h
theorem f3 {a:List AV} {b:Nat} (hv:v=.pt a b) (h:P (.pt a b)):force v P:=by subst hv;exact h
theorem f4 {a:FuncId} {b c:List AV} (hv:v=.fn a b c) (h:P (.fn a b c)):force v P:=by subst hv;exact h
theorem f5 {a:List AV} (hv:v=.ag a) (h:P (.ag a)):force v P:=by subst hv;exact h
theorem f6 {a:List AV} (hv:v=.tp a) (h:P (.tp a)):force v P:=by subst hv;exact h
theorem f7 {a b c:Nat} (hv:v=.ptr a b c) (h:P (.ptr a b c)):force v P:=by subst hv;exact h
theorem f8 {a b c d e:Nat} (hv:v=.cS a b c d e) (h:P (.cS a b c d e)):force v P:=by subst hv;exact h
theorem f9 {a:Nat} (hv:v=.om a) (h:P (.om a)):force v P:=by subst hv;exact h
theorem g1 {a:Value} (hv:v=.oq a) (h:P (.oq a)):force v P:=by subst hv;exact h
theorem g2 (hv:v=.bL) (h:P .bL):force v P:=by subst hv;exact h
end
section
variable {c a b : AV} {t x y : Bool}
theorem k1 (hc:c=.fl (.bool t)) (h:kn t a b hp K):s8 c a b hp K:=by subst hc;exact h
theorem k2 (ht:t=true) (h:K a hp):kn t a b hp K:=by
 subst ht
 unfold kn
 split
 ·exact h
 ·exact And.intro (fun _=>h) (fun e=>Bool.noConfusion e)
theorem k3 (ht:t=false) (h:K b hp):kn t a b hp K:=by
 subst ht
 unfold kn
 split
 ·exact h
 ·exact And.intro (fun e=>Bool.noConfusion e) (fun _=>h)
theorem k4 (ha:a=.fl (.bool x)) (hb:b=.fl (.bool y)) (h:K (.fl (.bool (bif t then x else y))) hp):kn t a b hp K:=by subst ha hb;exact h
end
section
variable {a b : AV} {m n : Int} {t : TypeId} {x y : Operand}
theorem b1 (ha:a=.fl (.int .i64 m)) (hb:b=.fl (.int .i64 n)) (hh:-9223372036854775808≤m+n∧m+n≤9223372036854775807) (h:K (.fl (.int .i64 (m+n))) hp):iQ T .add t x y a b hp K:=by subst ha hb;exact ⟨hh,h⟩
theorem b2 (ha:a=.fl (.int .i64 m)) (hb:b=.fl (.int .i64 n)) (hh:-9223372036854775808≤m - n∧m - n≤9223372036854775807) (h:K (.fl (.int .i64 (m - n))) hp):iQ T .sub t x y a b hp K:=by subst ha hb;exact ⟨hh,h⟩
theorem b3 (ha:a=.fl (.int .i64 m)) (hb:b=.fl (.int .i64 n)) (hh:-9223372036854775808≤m * n∧m * n≤9223372036854775807) (h:K (.fl (.int .i64 (m * n))) hp):iQ T .mul t x y a b hp K:=by subst ha hb;exact ⟨hh,h⟩
theorem b4 (ha:a=.fl (.int .i64 m)) (hb:b=.fl (.int .i64 n)) (h:K (.fl (.bool (decide (m=n)))) hp):iQ T .eql t x y a b hp K:=by subst ha hb;exact h
theorem b5 (ha:a=.fl (.int .i64 m)) (hb:b=.fl (.int .i64 n)) (h:K (.fl (.bool (!decide (m=n)))) hp):iQ T .neq t x y a b hp K:=by subst ha hb;exact h
theorem b6 (ha:a=.fl (.int .i64 m)) (hb:b=.fl (.int .i64 n)) (h:K (.fl (.bool (decide (m < n)))) hp):iQ T .lss t x y a b hp K:=by subst ha hb;exact h
theorem b7 (ha:a=.fl (.int .i64 m)) (hb:b=.fl (.int .i64 n)) (h:K (.fl (.bool (decide (m≤n)))) hp):iQ T .leq t x y a b hp K:=by subst ha hb;exact h
theorem b8 (ha:a=.fl (.int .i64 m)) (hb:b=.fl (.int .i64 n)) (h:K (.fl (.bool (decide (n < m)))) hp):iQ T .gtr t x y a b hp K:=by subst ha hb;exact h
theorem b9 (ha:a=.fl (.int .i64 m)) (hb:b=.fl (.int .i64 n)) (h:K (.fl (.bool (decide (n≤m)))) hp):iQ T .geq t x y a b hp K:=by subst ha hb;exact h
theorem r1 (ha:a=.fl (.int .i64 m)) (hb:b=.fl (.int .i64 n)) (h0:0≤m∧1≤n) (h:K (.fl (.int .i64 (m % n))) hp):iQ T .rem t x y a b hp K:=by
 subst ha hb;exact ⟨_,HZ h0.1 h0.2,rfl,h⟩
theorem r2 (ha:a=.fl (.int .i64 m)) (hb:b=.fl (.int .i64 n)) (h0:(0≤m∧m≤9223372036854775807)∧1≤n) (h:K (.fl (.int .i64 (m / n))) hp):iQ T .quo t x y a b hp K:=by
 subst ha hb;exact ⟨_,H6 h0.1.1 h0.1.2 h0.2,rfl,h⟩
end
section
variable {v : AV} {t : TypeId}
theorem l1 {e:TypeId} {a1 a2 a3 a4 a5 a6} {els:List (List AV)} {f:Bool} (ht:T.ty.get t=some ⟨.slice e,a1,a2,a3,a4,a5,a6⟩) (h:K (.fl (.int .i64 els.length)) hp):sj T t (.sl els f) hp K:=by
 unfold sj;rw [ht];exact h
theorem l2 {e:TypeId} {a1 a2 a3 a4 a5 a6} {j ax o n c:Nat} (ht:T.ty.get t=some ⟨.slice e,a1,a2,a3,a4,a5,a6⟩) (h:K (.fl (.int .i64 n)) hp):sj T t (.cS j ax o n c) hp K:=by
 unfold sj;rw [ht];exact h
theorem l3 {a:List AV} {b:Nat} (hv:v=.pt a b) (h:K (.pt a b) hp):si v hp K:=by subst hv;exact h
theorem l4 {a b c:Nat} (hv:v=.ptr a b c) (h:K (.ptr a b c) hp):si v hp K:=by subst hv;exact h
end
end
end Go.RM
namespace Go.RM
open Go
section
variable {T : bh} {tab : List XE} {one : Bool} {mu : Tmp → Bool} {base : Nat} {E : Env} {hp : List AB} {av : bw} {H : Hp} {ρ : Nat → Nat → Option Nat} {g : az} {O O' : Nat → Prop}
theorem qK {a b:Code} {st:aR} {K:Exit→aR→Prop} (h:kE T tab one mu a st (yc (fun s=>aC T tab one b s K) K)):aC T tab one (.seq a b) st K:=.seq (aa h)
def aO (j:Nat) (ρ:Nat→Nat→Option Nat):Nat→Nat→Option Nat:=fun i v=>if i=j then none else ρ i v
mutual
def AV.mO (j:Nat):AV→Bool
 | .fl _=>true
 | .sl _ _=>true
 | .pt _ _=>true
 | .fn _ a b=>BT j a && BT j b
 | .ag a=>BT j a
 | .tp a=>BT j a
 | .oq _=>true
 | .bL=>true
 | .ptr i _ _=>!Nat.beq i j
 | .cS i _ _ _ _=>!Nat.beq i j
 | .om i=>!Nat.beq i j
def BT (j:Nat):List AV→Bool
 | []=>true
 | a :: l=>a.mO j && BT j l
end
theorem dg {j:Nat}:∀ {l:List AV},BT j l=true→∀ (i:Nat) (a:AV),l[i]?=some a→a.mO j=true
 | [],_,i,a,h=>by cases h
 | x :: l,h,i,a,ha=>by
  simp only [BT,Bool.and_eq_true] at h
  cases i with
  | zero=>cases ha;exact h.1
  | succ i=>exact dg h.2 i a (by simpa using ha)
theorem gw {i j:Nat} (h:(!Nat.beq i j)=true):i ≠ j:=by
 intro e
 subst e
 rw [Nat.beq_refl] at h
 cases h
theorem AR.mO {j:Nat} (hO:∀ k,O' k→O k) {v:AV} {u:Value} (h:AR ρ g O v u):v.mO j=true→AR (aO j ρ) g O' v u:=by
 induction h with
 | d h=>intro _;exact .d (h.mono fun k b hk ho=>⟨hk,fun h=>ho (hO k h)⟩)
 | bL=>intro _;exact .bL
 | ptr h=>intro hd;simp only [AV.mO] at hd;exact .ptr (by rw [aO,if_neg (gw hd)];exact h)
 | cS h=>intro hd;simp only [AV.mO] at hd;exact .cS (by rw [aO,if_neg (gw hd)];exact h)
 | qE hc=>intro _;exact .qE hc
 | om h=>intro hd;simp only [AV.mO] at hd;exact .om (by rw [aO,if_neg (gw hd)];exact h)
 | fn ha hb h1 h2 ih1 ih2 =>
  intro hd
  simp only [AV.mO,Bool.and_eq_true] at hd
  exact .fn ha hb (fun i x u hx hu=>ih1 i x u hx hu (dg hd.1 i x hx)) (fun i x u hx hu=>ih2 i x u hx hu (dg hd.2 i x hx))
 | ag ha h1 ih=>intro hd;simp only [AV.mO] at hd;exact .ag ha (fun i x u hx hu=>ih i x u hx hu (dg hd i x hx))
 | tp ha h1 ih=>intro hd;simp only [AV.mO] at hd;exact .tp ha (fun i x u hx hu=>ih i x u hx hu (dg hd i x hx))
def AB.mO (j:Nat):AB→Bool
 | .cells cs _ _=>BT j cs
 | .dD _ _=>true
 | .map ents _=>ents.all fun p=>p.1.mO j && p.2.1.mO j
 | .iter i _ _ _=>!Nat.beq i j
 | .gone=>true
inductive Gv (j ax:Nat) (cs:List AV):AV→AV→Prop
 | same {a:AV}:a.mO j=true→Gv j ax cs a a
 | ptr {o:Nat}:Gv j ax cs (.ptr j ax o) (.pt cs o)
 | row {o n c:Nat} {els:List (List AV)} {b:Bool} (es:Nat):o+n * es≤cs.length→els.length=n→(∀ el ∈ els,el.length=es)→els.flatten=(cs.drop o).take (n * es)→(b=true→c=n)→Gv j ax cs (.cS j ax o n c) (.sl els b)
 | bL {a:AV}:Gv j ax cs a .bL
def wQ (j ax:Nat) (cs:List AV) (fr:Nat→AV):List (Nat × AV)→Prop
 | []=>True
 | (i,v) :: l=>Gv j ax cs (fr i) v∧wQ j ax cs fr l
theorem Aj {j ax:Nat} {cs:List AV} {fr:Nat→AV}:∀ {l:List (Nat × AV)},wQ j ax cs fr l→∀ t,Gv j ax cs (fr t) (bM l t)
 | [],_,t=>.bL
 | (i,v) :: l,h,t=>by
  unfold bM
  rw [Tr.beq_eq]
  by_cases hti:t=i
  ·rw [decide_eq_true hti,hti]
   exact h.1
  ·rw [decide_eq_false hti]
   exact Aj h.2 t
theorem aj.Lf {st:aR} {l:List (Nat × AV)} {j ax es:Nat} {cs:List AV} (hj:st.hp[j]?=some (.cells cs es ax)) (hn:st.fl≤j) (hd:de cs=true) (hs:wQ j ax cs st.fr l) (hb:∀ (i:Nat) (b:AB),st.hp[i]?=some b→i ≠ j→b.mO j=true) :
  aj st ⟨bM l,st.hp.set j .gone,st.av,st.rd,st.fl⟩:=by
 have hlt:j < st.hp.length:=(List.getElem?_eq_some_iff.1 hj).1
 refine ⟨rfl,fun E base s hs'=>?_⟩
 have hr:=hs'.h
 have hget:∀ (i:Nat) (b:AB) (ax:Nat),(st.hp.set j .gone)[i]?=some b→b.ver?=some ax→i ≠ j∧st.hp[i]?=some b:=by
  intro i b ax hi hv
  by_cases hij:i=j
  ·subst hij;rw [List.getElem?_set_self hlt] at hi;cases hi;cases hv
  ·rw [List.getElem?_set_ne (Ne.symm hij)] at hi;exact ⟨hij,hi⟩
 have hdr:∀ {i v k:Nat},aO j E.ρ i v=some k→i ≠ j∧E.ρ i v=some k:=by
  intro i v k h
  unfold aO at h
  split at h
  ·cases h
  ·rename_i hne;exact ⟨hne,h⟩
 have hown:∀ k,Own (aO j E.ρ) (st.hp.set j .gone) k→Own E.ρ st.hp k:=by
  rintro k ⟨i,b,v,h1,h2,h3⟩
  exact ⟨i,b,v,(hget i b v h1 h2).2,h2,(hdr h3).2⟩
 have hOs:∀ k,({E with ρ:=aO j E.ρ}:Env).O (st.hp.set j .gone) k→E.O st.hp k:=fun k h=>h.imp (hown k) id
 have hpt:∀ {o:Nat} {u:Value},AR E.ρ s.hp.get (E.O st.hp) (.ptr j ax o) u→AR (aO j E.ρ) s.hp.get (({E with ρ:=aO j E.ρ}:Env).O (st.hp.set j .gone)) (.pt cs o) u:=by
  intro o u h
  obtain ⟨k,hk,rfl⟩:=h.dy
  obtain ⟨cs',q1,q2⟩:=hr.cells hj hk
  have hnO:¬ ({E with ρ:=aO j E.ρ}:Env).O (st.hp.set j .gone) k:=by
   rintro (⟨i,b,v,h1,h2,h3⟩|hx)
   ·have:=hdr h3
    exact this.1 (hr.inj i j v ax k this.2 hk)
   ·exact hr.iL k ⟨j,_,ax,hj,rfl,hk⟩ hx
  have:=q2.deep hd
  refine .d (?_:DR _ _ (.pt cs o) (.pointer (some ⟨k,o,none⟩)))
  have h0:DR s.hp.get (({E with ρ:=aO j E.ρ}:Env).O (st.hp.set j .gone)) (.pt cs o) (.pointer (some ⟨k,0+o,none⟩)) :=
   .pt q1 hnO (by rw [Nat.zero_add,this.1];exact Nat.le_refl _) (fun i a u x y=>(this.2 i a u x (by rw [Nat.zero_add] at y;exact y)).mono fun k b hk ho=>⟨hk,fun h=>ho (hOs k h)⟩)
  rw [Nat.zero_add] at h0
  exact h0
 have hrow:∀ {o n c:Nat} {els:List (List AV)} {b:Bool} {u:Value} (es:Nat),o+n * es≤cs.length→els.length=n→(∀ el ∈ els,el.length=es)→els.flatten=(cs.drop o).take (n * es)→(b=true→c=n)→AR E.ρ s.hp.get (E.O st.hp) (.cS j ax o n c) u →
   AR (aO j E.ρ) s.hp.get (({E with ρ:=aO j E.ρ}:Env).O (st.hp.set j .gone)) (.sl els b) u:=by
  intro o n c els b u es g1 g2 g3 g4 g5 h
  rcases h.eE with ⟨k,hk,rfl⟩|⟨rfl,rfl,rfl⟩
  ·obtain ⟨cs',q1,q2⟩:=hr.cells hj hk
   have hnO:¬ ({E with ρ:=aO j E.ρ}:Env).O (st.hp.set j .gone) k:=by
    rintro (⟨i,b,v,h1,h2,h3⟩|hx)
    ·have:=hdr h3
     exact this.1 (hr.inj i j v ax k this.2 hk)
    ·exact hr.iL k ⟨j,_,ax,hj,rfl,hk⟩ hx
   have hdp:=q2.deep hd
   refine .d (.sl (es:=es) q1 hnO (by rw [←q2.1];exact g1) g2 (fun i el he=>g3 el (List.mem_of_getElem? he)) (fun i el jj a u he hx hu=>?_) g5)
   have hjj:jj < es:=by rw [←g3 el (List.mem_of_getElem? he)];exact (List.getElem?_eq_some_iff.1 hx).1
   have hat:=fj g3 i el jj he hjj
   have hi:i < n:=by rw [←g2];exact (List.getElem?_eq_some_iff.1 he).1
   rw [g4,List.getElem?_take,List.getElem?_drop] at hat
   have hlt:i * es+jj < n * es:=by
    have:(i+1) * es≤n * es:=Nat.mul_le_mul_right _ hi
    rw [Nat.add_mul,Nat.one_mul] at this
    omega
   rw [if_pos hlt,hx,←Nat.add_assoc] at hat
   exact (hdp.2 _ a u hat hu).mono fun k b hk ho=>⟨hk,fun h=>ho (hOs k h)⟩
  ·simp only [List.length_eq_zero_iff] at g2
   subst g2
   exact .d .nil
 have hgv:∀ {a b:AV} {u:Value},Gv j ax cs a b→AR E.ρ s.hp.get (E.O st.hp) a u→AR (aO j E.ρ) s.hp.get (({E with ρ:=aO j E.ρ}:Env).O (st.hp.set j .gone)) b u:=by
  intro a b u hg h
  cases hg with
  | same hn=>exact h.mO hOs hn
  | ptr=>exact hpt h
  | row es g1 g2 g3 g4 g5=>exact hrow es g1 g2 g3 g4 g5 h
  | bL=>exact .bL
 refine ⟨{E with ρ:=aO j E.ρ},⟨⟨hr.wf,fun i b v hi hv=>?_,fun i i' v v' k h1 h2=>hr.inj i i' v v' k (hdr h1).2 (hdr h2).2,fun i v k hk=>hr.rn i v k (hdr hk).2,fun i b v w h1 h2 h3=>?_,fun i v hi=>?_,fun k hk=>hr.sup k (hown k hk),fun k hk=>hr.iL k (hown k hk),hr.dx,hr.ds,hr.sn,hr.xn,fun k hk=>hr.qp k (hk.imp (hown k) id),hr.bn,hr.av⟩,hs'.rd,fun t=>hgv (Aj hs t) (hs'.fr t)⟩,
  ⟨Nat.le_refl _,fun i v k hi hk=>?_,fun k hk=>.inl (hown k hk),fun _ h=>.inl h,fun _ h=>.inl h,fun _ h=>h,fun _ h=>.inl h,fun _ _ _ _=>rfl,Nat.min_le_left _ _⟩⟩
 ·obtain ⟨hij,hi'⟩:=hget i b v hi hv
  have hbn:=hb i b hi' hij
  rcases hr.gC i b v hi' hv with ⟨k,b',q1,q2,q3⟩|⟨q1,q2⟩
  ·refine .inl ⟨k,b',by show aO j E.ρ i v=_;rw [aO,if_neg hij];exact q1,q2,?_⟩
   cases b with
   | cells cs2 es2 ver2 =>
    obtain ⟨cs',rfl,h⟩:=q3
    exact ⟨cs',rfl,h.1,fun i a u ha hu=>(h.2 i a u ha hu).mO hOs (dg hbn i a ha)⟩
   | dD p q=>exact q3
   | map ents clock =>
    obtain ⟨es,rfl,h1,h2⟩:=q3
    refine ⟨es,rfl,h1,fun i k v born x hx hy=>?_⟩
    simp only [AB.mO,List.all_eq_true,Bool.and_eq_true] at hbn
    have:=hbn _ (List.mem_of_getElem? hx)
    exact ⟨(h2 i k v born x hx hy).1.mO hOs this.1,(h2 i k v born x hx hy).2.1.mO hOs this.2,(h2 i k v born x hx hy).2.2⟩
   | iter i2 since seen stepped =>
    obtain ⟨m,rfl,h⟩:=q3
    exact ⟨m,rfl,by show aO j E.ρ i2 0=_;rw [aO,if_neg (gw hbn)];exact h⟩
   | gone=>exact q3
  ·exact .inr ⟨by show aO j E.ρ i v=_;rw [aO,if_neg hij];exact q1,q2⟩
 ·obtain ⟨hij,h1⟩:=hget i b v h1 h2
  show aO j E.ρ i w=none
  rw [aO,if_neg hij];exact hr.fresh i b v w h1 h2 h3
 ·show aO j E.ρ i v=none
  unfold aO
  split
  ·rfl
  ·exact hr.new i v (by simpa using hi)
 ·show aO j E.ρ i v=some k
  rw [aO,if_neg (by omega)];exact hk
def Ak (j:Nat):Nat→List AB→Bool
 | _,[]=>true
 | i,b :: l=>(Nat.beq i j || b.mO j) && Ak j (i+1) l
theorem wR {j:Nat}:∀ {l:List AB} {i0:Nat},Ak j i0 l=true→∀ (i:Nat) (b:AB),l[i]?=some b→i0+i ≠ j→b.mO j=true
 | [],_,_,i,b,h,_=>by cases h
 | x :: l,i0,h,i,b,hb,hne=>by
  simp only [Ak,Bool.and_eq_true,Bool.or_eq_true] at h
  cases i with
  | zero =>
   cases hb
   rcases h.1 with h|h
   ·exact absurd (Nat.eq_of_beq_eq_true h) hne
   ·exact h
  | succ i=>exact wR h.2 i b (by simpa using hb) (by omega)
theorem aj.giveUp {st:aR} {l:List (Nat × AV)} (j:Nat) {ax es:Nat} {cs:List AV} {hp:List AB} (hj:st.hp[j]?=some (.cells cs es ax)) (hn:st.fl≤j) (hd:de cs=true) (hs:wQ j ax cs st.fr l) (hb:Ak j 0 st.hp=true) (hh:st.hp.set j .gone=hp) :
  aj st ⟨bM l,hp,st.av,st.rd,st.fl⟩:=by
 subst hh
 exact aj.Lf hj hn hd hs fun i b h hne=>wR hb i b h (by omega)
end
end Go.RM
namespace Go.RM
open Go
theorem eW.tq {j ax c:Nat} (hc:c≤2:=by decide):eW (.fl (.slice none 0 0)) (.cS j ax 0 0 c):=fun _ _ _ u h=>by
 rw [h.eR.1]
 exact .qE hc
theorem aj.tu {st:aR} (es:Nat):aj st ⟨st.fr,st.hp++[.cells [] es 0],st.av,st.rd,st.fl⟩:=by
 refine ⟨rfl,fun E base s hs=>?_⟩
 have hr:=hs.h
 have hget:∀ (i:Nat) (b:AB),(st.hp++[AB.cells [] es 0])[i]?=some b→(i < st.hp.length∧st.hp[i]?=some b)∨(i=st.hp.length∧b=.cells [] es 0):=by
  intro i b hi
  by_cases hlt:i < st.hp.length
  ·rw [List.getElem?_append_left hlt] at hi;exact .inl ⟨hlt,hi⟩
  ·rw [List.getElem?_append_right (by omega)] at hi
   have h0:i - st.hp.length=0:=by
    apply Nat.eq_zero_of_not_pos
    intro hp0
    rw [List.getElem?_eq_none (by simp;omega)] at hi
    cases hi
   rw [h0] at hi
   cases hi
   exact .inr ⟨by omega,rfl⟩
 have hown:∀ k,Own E.ρ (st.hp++[.cells [] es 0]) k→Own E.ρ st.hp k:=by
  rintro k ⟨i,b,v,h1,h2,h3⟩
  rcases hget i b h1 with ⟨_,h1⟩|⟨rfl,rfl⟩
  ·exact ⟨i,b,v,h1,h2,h3⟩
  ·rw [hr.new _ v (Nat.le_refl _)] at h3;cases h3
 have hO:∀ k,E.O (st.hp++[.cells [] es 0]) k→E.O st.hp k:=fun k h=>h.imp (hown k) id
 have keep:∀ k b,s.hp.get k=some b→¬ E.O st.hp k→s.hp.get k=some b∧¬ E.O (st.hp++[.cells [] es 0]) k:=fun k b hk ho=>⟨hk,fun h=>ho (hO k h)⟩
 have har:∀ {v:AV} {u:Value},AR E.ρ s.hp.get (E.O st.hp) v u→AR E.ρ s.hp.get (E.O (st.hp++[.cells [] es 0])) v u:=fun h=>h.mono (fun _ _ _ h=>h) keep
 refine ⟨E,⟨⟨hr.wf,fun i b v hi hv=>?_,hr.inj,hr.rn,fun i b v w h1 h2 h3=>?_,fun i v hi=>hr.new i v (by simp at hi;omega),fun k hk=>hr.sup k (hown k hk),fun k hk=>hr.iL k (hown k hk),hr.dx,hr.ds,hr.sn,hr.xn,fun k hk=>hr.qp k (hk.imp (hown k) id),hr.bn,hr.av⟩,hs.rd,fun t=>har (hs.fr t)⟩,
  ⟨Nat.le_refl _,fun _ _ _ _ h=>h,fun k hk=>.inl (hown k hk),fun _ h=>.inl h,fun _ h=>.inl h,fun _ h=>h,fun _ h=>.inl h,fun _ _ _ _=>rfl,Nat.min_le_left _ _⟩⟩
 ·rcases hget i b hi with ⟨_,hi'⟩|⟨rfl,rfl⟩
  ·rcases hr.gC i b v hi' hv with ⟨k,b',q1,q2,q3⟩|q
   ·refine .inl ⟨k,b',q1,q2,?_⟩
    cases b with
    | cells cs2 es2 ver2 =>
     obtain ⟨cs',rfl,h⟩:=q3
     exact ⟨cs',rfl,h.1,fun i a u ha hu=>har (h.2 i a u ha hu)⟩
    | dD p q=>exact q3
    | map ents clock =>
     obtain ⟨es,rfl,h1,h2⟩:=q3
     exact ⟨es,rfl,h1,fun i k v born x hx hy=>⟨har (h2 i k v born x hx hy).1,har (h2 i k v born x hx hy).2.1,(h2 i k v born x hx hy).2.2⟩⟩
    | iter i2 since seen stepped=>exact q3
    | gone=>exact q3
   ·exact .inr q
  ·cases hv
   exact .inr ⟨hr.new _ _ (Nat.le_refl _),es,rfl⟩
 ·rcases hget i b h1 with ⟨_,h1⟩|⟨rfl,rfl⟩
  ·exact hr.fresh i b v w h1 h2 h3
  ·exact hr.new _ _ (Nat.le_refl _)
theorem q1 {σ:Type} {P:σ→Prop} {I:σ→aR} {m:σ→Nat} {K:Exit→aR→Prop} {x:σ} {s:aR} (h:K .ret s):Gd P I m K x .ret s:=h
theorem q2 {σ:Type} {P:σ→Prop} {I:σ→aR} {m:σ→Nat} {K:Exit→aR→Prop} {x:σ} {s:aR} {id:Nat} (h:K (.exit id) s):Gd P I m K x (.exit id) s:=h
end Go.RM
namespace Go.RM
open Go
theorem aj.JC {st:aR} (j:Nat) {es ax:Nat} {cs ds:List AV} {hp:List AB} (hj:st.hp[j]?=some (.cells cs es ax)) (hs:ir cs ds) (hh:st.hp.set j (.cells ds es ax)=hp):aj st ⟨st.fr,hp,st.av,st.rd,st.fl⟩:=by
 subst hh
 refine ⟨rfl,fun E base s hs'=>?_⟩
 have hr:=hs'.h
 have hlt:j < st.hp.length:=(List.getElem?_eq_some_iff.1 hj).1
 have hget:∀ (i:Nat) (b:AB),(st.hp.set j (.cells ds es ax))[i]?=some b→(i ≠ j∧st.hp[i]?=some b)∨(i=j∧b=.cells ds es ax):=by
  intro i b hi
  by_cases he:i=j
  ·subst he
   rw [List.getElem?_set_self hlt] at hi
   cases hi
   exact .inr ⟨rfl,rfl⟩
  ·rw [List.getElem?_set_ne (Ne.symm he)] at hi
   exact .inl ⟨he,hi⟩
 have hown:∀ k,Own E.ρ (st.hp.set j (.cells ds es ax)) k→Own E.ρ st.hp k:=by
  rintro k ⟨i,b,v,h1,h2,h3⟩
  rcases hget i b h1 with ⟨_,h1⟩|⟨rfl,rfl⟩
  ·exact ⟨i,b,v,h1,h2,h3⟩
  ·cases h2
   exact ⟨i,_,_,hj,rfl,h3⟩
 have hO:∀ k,E.O (st.hp.set j (.cells ds es ax)) k→E.O st.hp k:=fun k h=>h.imp (hown k) id
 have keep:∀ k b,s.hp.get k=some b→¬ E.O st.hp k→s.hp.get k=some b∧¬ E.O (st.hp.set j (.cells ds es ax)) k:=fun k b hk ho=>⟨hk,fun h=>ho (hO k h)⟩
 have har:∀ {v:AV} {u:Value},AR E.ρ s.hp.get (E.O st.hp) v u→AR E.ρ s.hp.get (E.O (st.hp.set j (.cells ds es ax))) v u:=fun h=>h.mono (fun _ _ _ h=>h) keep
 refine ⟨E,⟨⟨hr.wf,fun i b v hi hv=>?_,hr.inj,hr.rn,fun i b v w h1 h2 h3=>?_,fun i v hi=>hr.new i v (by simpa using hi),fun k hk=>hr.sup k (hown k hk),fun k hk=>hr.iL k (hown k hk),hr.dx,hr.ds,hr.sn,hr.xn,fun k hk=>hr.qp k (hk.imp (hown k) id),hr.bn,hr.av⟩,hs'.rd,fun t=>har (hs'.fr t)⟩,
  ⟨Nat.le_refl _,fun _ _ _ _ h=>h,fun k hk=>.inl (hown k hk),fun _ h=>.inl h,fun _ h=>.inl h,fun _ h=>h,fun _ h=>.inl h,fun _ _ _ _=>rfl,Nat.min_le_left _ _⟩⟩
 ·rcases hget i b hi with ⟨_,hi'⟩|⟨rfl,rfl⟩
  ·rcases hr.gC i b v hi' hv with ⟨k,b',q1,q2,q3⟩|q
   ·refine .inl ⟨k,b',q1,q2,?_⟩
    cases b with
    | cells cs2 es2 ver2 =>
     obtain ⟨cs',rfl,h⟩:=q3
     exact ⟨cs',rfl,h.1,fun i a u ha hu=>har (h.2 i a u ha hu)⟩
    | dD p q=>exact q3
    | map ents clock =>
     obtain ⟨es,rfl,h1,h2⟩:=q3
     exact ⟨es,rfl,h1,fun i k v born x hx hy=>⟨har (h2 i k v born x hx hy).1,har (h2 i k v born x hx hy).2.1,(h2 i k v born x hx hy).2.2⟩⟩
    | iter i2 since seen stepped=>exact q3
    | gone=>exact q3
   ·exact .inr q
  ·cases hv
   rcases hr.gC i _ ax hj rfl with ⟨k,b',q1,q2,q3⟩|⟨q1,es',q2⟩
   ·refine .inl ⟨k,b',q1,q2,?_⟩
    obtain ⟨cs',rfl,h⟩:=q3
    have h':=ir.Av hs h
    exact ⟨cs',rfl,h'.1,fun i a u ha hu=>har (h'.2 i a u ha hu)⟩
   ·cases q2
    cases ds with
    | nil=>exact .inr ⟨q1,_,rfl⟩
    | cons a l=>exact hs.elim
 ·rcases hget i b h1 with ⟨_,h1⟩|⟨rfl,rfl⟩
  ·exact hr.fresh i b v w h1 h2 h3
  ·cases h2
   exact hr.fresh i _ _ w hj rfl h3
end Go.RM
namespace Go.RM
open Go
theorem Gs {α:Type} {l:List α} {j:Nat} {a:α} (h:l[j]?=some a):l.set j a=l:=by
 apply List.ext_getElem?
 intro i
 rw [List.getElem?_set]
 split
 ·rename_i hij
  subst hij
  rw [h]
  split
  ·rfl
  ·rename_i hn
   exact absurd (List.getElem?_eq_some_iff.1 h).1 hn
 ·rfl
theorem H7 {hp:List AB} {es bs:Nat} {x:AV} {els:List (List AV)} {j ax n c:Nat} {cs:List AV} {K:AV→List AB→Prop} (hx:yM hp es x els) (h1:els.flatten.all AV.one=true) (hj:hp[j]?=some (.cells cs es ax)) (hl:cs.length=n * es) (hc:c=n∨c=n+1)
  (hb:(n+els.length) * bs≤140737488355328∧n+els.length≤9223372036854775807) (hk:∀ v c',(c'=n+els.length∨c'=n+els.length+1)→K (.cS j v 0 (n+els.length) c') (hp.set j (.cells (cs++els.flatten) es v))) :
  ∃ els,yM hp es x els∧els.flatten.all AV.one=true∧∃ cs,hp[j]?=some (.cells cs es ax)∧cs.length=n * es∧(c=n∨c=n+1)∧((n+els.length) * bs≤140737488355328∧n+els.length≤9223372036854775807)∧(els=[]→K (.cS j ax 0 n c) hp) ∧
   (els ≠ []→K (.cS j (ax+1) 0 (n+els.length) (n+els.length+1)) (hp.set j (.cells (cs++els.flatten) es (ax+1)))):=by
 refine ⟨els,hx,h1,cs,hj,hl,hc,hb,fun he=>?_,fun _=>hk _ _ (.inr rfl)⟩
 subst he
 have h2:=hk ax c (by simpa using hc)
 rw [List.flatten_nil,List.append_nil,Gs hj] at h2
 exact h2
theorem uS {T:bh} {own:Bool} {fr:Nat→AV} {hp:List AB} {K:AV→List AB→Prop} {s x:Operand} {t u e:TypeId} {a1 a2 a3 a4 a5 a6} {j ax n c:Nat} {els:List (List AV)} {f:Bool} {cs:List AV} {inf:yh} (hs:aS fr s=.cS j ax 0 n c) (hx:aS fr x=.sl els f)
  (hu:T.ty.get u=some ⟨.slice e,a1,a2,a3,a4,a5,a6⟩) (hi:elem? T t=some inf) (hz:bJ inf=true) (hel:∀ el ∈ els,el.length=inf.size) (h1:els.flatten.all AV.one=true) (hj:hp[j]?=some (.cells cs inf.size ax)) (hl:cs.length=n * inf.size) (hc:c=n∨c=n+1)
  (hb:(n+els.length) * inf.bytes≤140737488355328∧n+els.length≤9223372036854775807) (hk:∀ v c',(c'=n+els.length∨c'=n+els.length+1)→K (.cS j v 0 (n+els.length) c') (hp.set j (.cells (cs++els.flatten) inf.size v))) :
  RM.wpOp T own (.call ⟨.builtin .append,[s,x].toArray,[t,u].toArray⟩) fr hp K:=by
 show force (aS fr s) fun a=>force (aS fr x) fun b=>mE T own .append [a,b] [t,u] hp K
 rw [hs,hx]
 show (match T.ty.get u with|some ⟨.slice _,_,_,_,_,_,_⟩=>oN T own t (.cS j ax 0 n c) (.sl els f) hp K|_=>False)
 rw [hu]
 show oN T own t (.cS j ax 0 n c) (.sl els f) hp K
 unfold oN
 rw [hi]
 obtain ⟨els',q1,q2,q3⟩:=H7 (hp:=hp) (K:=K) (x:=.sl els f) ⟨hel,rfl⟩ h1 hj hl hc hb hk
 exact ⟨hz,els',q1,q2,.inl ⟨rfl,q3⟩⟩
end Go.RM
namespace Go.RM
open Go
section
variable {T : bh} {tab : List XE} {one : Bool} {base : Nat} {E : Env} {hp : List AB} {av : bw} {H : Hp} {ρ : Nat → Nat → Option Nat} {g : az} {O O' : Nat → Prop}
def dA (a b:Nat) (ρ:Nat→Nat→Option Nat):Nat→Nat→Option Nat:=fun i v=>if i=a then ρ b v else if i=b then none else ρ i v
theorem AR.move {a b:Nat} (hO:∀ k,O' k→O k) {v:AV} {u:Value} (h:AR ρ g O v u):v.mO a=true→v.mO b=true→AR (dA a b ρ) g O' v u:=by
 have hm:∀ {i w:Nat},i ≠ a→i ≠ b→dA a b ρ i w=ρ i w:=fun {i w} h1 h2=>by unfold dA;rw [if_neg h1,if_neg h2]
 induction h with
 | d h=>intro _ _;exact .d (h.mono fun k b hk ho=>⟨hk,fun hx=>ho (hO k hx)⟩)
 | bL=>intro _ _;exact .bL
 | ptr h=>intro h1 h2;exact .ptr (by rw [hm (gw h1) (gw h2)];exact h)
 | cS h=>intro h1 h2;exact .cS (by rw [hm (gw h1) (gw h2)];exact h)
 | qE hc=>intro _ _;exact .qE hc
 | om h=>intro h1 h2;exact .om (by rw [hm (gw h1) (gw h2)];exact h)
 | fn ha hb h1 h2 ih1 ih2 =>
  intro n1 n2
  simp only [AV.mO,Bool.and_eq_true] at n1 n2
  exact .fn ha hb (fun i x u hx hu=>ih1 i x u hx hu (dg n1.1 i x hx) (dg n2.1 i x hx)) (fun i x u hx hu=>ih2 i x u hx hu (dg n1.2 i x hx) (dg n2.2 i x hx))
 | ag ha h1 ih=>intro n1 n2;simp only [AV.mO] at n1 n2;exact .ag ha (fun i x u hx hu=>ih i x u hx hu (dg n1 i x hx) (dg n2 i x hx))
 | tp ha h1 ih=>intro n1 n2;simp only [AV.mO] at n1 n2;exact .tp ha (fun i x u hx hu=>ih i x u hx hu (dg n1 i x hx) (dg n2 i x hx))
inductive Mv (a b:Nat):AV→AV→Prop
 | same {v:AV}:v.mO a=true→v.mO b=true→Mv a b v v
 | ptr {ax o:Nat}:Mv a b (.ptr b ax o) (.ptr a ax o)
 | cS {ax o n c:Nat}:Mv a b (.cS b ax o n c) (.cS a ax o n c)
 | bL {v:AV}:Mv a b v .bL
def Da (a b:Nat) (fr:Nat→AV):List (Nat × AV)→Prop
 | []=>True
 | (i,v) :: l=>Mv a b (fr i) v∧Da a b fr l
theorem DW {a b:Nat} {fr:Nat→AV}:∀ {l:List (Nat × AV)},Da a b fr l→∀ t,Mv a b (fr t) (bM l t)
 | [],_,t=>.bL
 | (i,v) :: l,h,t=>by
  unfold bM
  rw [Tr.beq_eq]
  by_cases hti:t=i
  ·rw [decide_eq_true hti,hti]
   exact h.1
  ·rw [decide_eq_false hti]
   exact DW h.2 t
theorem aj.move {st:aR} {l:List (Nat × AV)} (a b:Nat) {x y:AB} (hab:a ≠ b) (hja:st.hp[a]?=some y) (hjb:st.hp[b]?=some x) (hn:st.fl≤a) (hn2:st.fl≤b) (hs:Da a b st.fr l)
  (hb:∀ (i:Nat) (z:AB),st.hp[i]?=some z→i ≠ a→z.mO a=true∧z.mO b=true) :
  aj st ⟨bM l,(st.hp.set a x).set b .gone,st.av,st.rd,st.fl⟩:=by
 have hla:a < st.hp.length:=(List.getElem?_eq_some_iff.1 hja).1
 have hlb:b < st.hp.length:=(List.getElem?_eq_some_iff.1 hjb).1
 refine ⟨rfl,fun E base s hs'=>?_⟩
 have hr:=hs'.h
 have hget:∀ (i:Nat) (z:AB) (ax:Nat),((st.hp.set a x).set b .gone)[i]?=some z→z.ver?=some ax→(i=a∧z=x)∨(i ≠ a∧i ≠ b∧st.hp[i]?=some z):=by
  intro i z ax hi hv
  by_cases hib:i=b
  ·subst hib
   rw [List.getElem?_set_self (by rw [List.length_set];exact hlb)] at hi
   cases hi;cases hv
  ·rw [List.getElem?_set_ne (Ne.symm hib)] at hi
   by_cases hia:i=a
   ·subst hia
    rw [List.getElem?_set_self hla] at hi
    cases hi;exact .inl ⟨rfl,rfl⟩
   ·rw [List.getElem?_set_ne (Ne.symm hia)] at hi
    exact .inr ⟨hia,hib,hi⟩
 have hma:∀ {v:Nat},dA a b E.ρ a v=E.ρ b v:=fun {v}=>by unfold dA;rw [if_pos rfl]
 have hmo:∀ {i v:Nat},i ≠ a→i ≠ b→dA a b E.ρ i v=E.ρ i v:=fun {i v} h1 h2=>by unfold dA;rw [if_neg h1,if_neg h2]
 have hmi:∀ {i v k:Nat},dA a b E.ρ i v=some k→(i=a∧E.ρ b v=some k)∨(i ≠ a∧i ≠ b∧E.ρ i v=some k):=by
  intro i v k h
  unfold dA at h
  split at h
  ·rename_i h1;exact .inl ⟨h1,h⟩
  ·split at h
   ·cases h
   ·rename_i h1 h2;exact .inr ⟨h1,h2,h⟩
 have hown:∀ k,Own (dA a b E.ρ) ((st.hp.set a x).set b .gone) k→Own E.ρ st.hp k:=by
  rintro k ⟨i,z,v,h1,h2,h3⟩
  rcases hget i z v h1 h2 with ⟨rfl,rfl⟩|⟨n1,n2,h4⟩
  ·rw [hma] at h3;exact ⟨b,_,v,hjb,h2,h3⟩
  ·rw [hmo n1 n2] at h3;exact ⟨i,z,v,h4,h2,h3⟩
 have hOs:∀ k,({E with ρ:=dA a b E.ρ}:Env).O ((st.hp.set a x).set b .gone) k→E.O st.hp k:=fun k h=>h.imp (hown k) id
 have hmv:∀ {v w:AV} {u:Value},Mv a b v w→AR E.ρ s.hp.get (E.O st.hp) v u→AR (dA a b E.ρ) s.hp.get (({E with ρ:=dA a b E.ρ}:Env).O ((st.hp.set a x).set b .gone)) w u:=by
  intro v w u hm h
  cases hm with
  | same n1 n2=>exact h.move hOs n1 n2
  | ptr =>
   obtain ⟨k,hk,rfl⟩:=h.dy
   exact .ptr (by rw [hma];exact hk)
  | cS =>
   rcases h.eE with ⟨k,hk,rfl⟩|⟨rfl,rfl,rfl⟩
   ·exact .cS (by rw [hma];exact hk)
   ·exact .qE h.mD
  | bL=>exact .bL
 have hbr:∀ (z:AB) (z':aV),z.mO a=true→z.mO b=true→BR E.ρ s.hp.get (E.O st.hp) z z'→BR (dA a b E.ρ) s.hp.get (({E with ρ:=dA a b E.ρ}:Env).O ((st.hp.set a x).set b .gone)) z z':=by
  intro z z' n1 n2 q3
  cases z with
  | cells cs2 es2 ver2 =>
   obtain ⟨cs',rfl,h⟩:=q3
   exact ⟨cs',rfl,h.1,fun i v u ha hu=>(h.2 i v u ha hu).move hOs (dg n1 i v ha) (dg n2 i v ha)⟩
  | dD p q=>exact q3
  | map ents clock =>
   obtain ⟨es,rfl,h1,h2⟩:=q3
   refine ⟨es,rfl,h1,fun i k v born e hx hy=>?_⟩
   simp only [AB.mO,List.all_eq_true,Bool.and_eq_true] at n1 n2
   have m1:=n1 _ (List.mem_of_getElem? hx)
   have m2:=n2 _ (List.mem_of_getElem? hx)
   exact ⟨(h2 i k v born e hx hy).1.move hOs m1.1 m2.1,(h2 i k v born e hx hy).2.1.move hOs m1.2 m2.2,(h2 i k v born e hx hy).2.2⟩
  | iter i2 since seen stepped =>
   obtain ⟨m,rfl,h⟩:=q3
   exact ⟨m,rfl,by show dA a b E.ρ i2 0=_;rw [hmo (gw n1) (gw n2)];exact h⟩
  | gone=>exact q3
 refine ⟨{E with ρ:=dA a b E.ρ},⟨⟨hr.wf,fun i z v hi hv=>?_,fun i i' v v' k h1 h2=>?_,fun i v k hk=>?_,fun i z v w h1 h2 h3=>?_,fun i v hi=>?_,fun k hk=>hr.sup k (hown k hk),fun k hk=>hr.iL k (hown k hk),hr.dx,hr.ds,hr.sn,hr.xn,fun k hk=>hr.qp k (hk.imp (hown k) id),hr.bn,hr.av⟩,hs'.rd,fun t=>hmv (DW hs t) (hs'.fr t)⟩,
  ⟨Nat.le_refl _,fun i v k hi hk=>?_,fun k hk=>.inl (hown k hk),fun _ h=>.inl h,fun _ h=>.inl h,fun _ h=>h,fun _ h=>.inl h,fun _ _ _ _=>rfl,Nat.min_le_left _ _⟩⟩
 ·rcases hget i z v hi hv with ⟨rfl,rfl⟩|⟨n1,n2,h4⟩
  ·have hz:=hb b _ hjb (Ne.symm hab)
   rcases hr.gC b _ v hjb hv with ⟨k,b',q1,q2,q3⟩|⟨q1,q2⟩
   ·exact .inl ⟨k,b',by show dA _ b E.ρ _ v=_;rw [hma];exact q1,q2,hbr _ _ hz.1 hz.2 q3⟩
   ·exact .inr ⟨by show dA _ b E.ρ _ v=_;rw [hma];exact q1,q2⟩
  ·have hz:=hb i z h4 n1
   rcases hr.gC i z v h4 hv with ⟨k,b',q1,q2,q3⟩|⟨q1,q2⟩
   ·exact .inl ⟨k,b',by show dA a b E.ρ i v=_;rw [hmo n1 n2];exact q1,q2,hbr _ _ hz.1 hz.2 q3⟩
   ·exact .inr ⟨by show dA a b E.ρ i v=_;rw [hmo n1 n2];exact q1,q2⟩
 ·rcases hmi h1 with ⟨e1,p1⟩|⟨n1,n2,p1⟩
  ·rcases hmi h2 with ⟨e2,p2⟩|⟨m1,m2,p2⟩
   ·rw [e1,e2]
   ·exact absurd (hr.inj b i' v v' k p1 p2).symm m2
  ·rcases hmi h2 with ⟨e2,p2⟩|⟨m1,m2,p2⟩
   ·exact absurd (hr.inj i b v v' k p1 p2) n2
   ·exact hr.inj i i' v v' k p1 p2
 ·rcases hmi hk with ⟨rfl,h⟩|⟨_,_,h⟩
  ·exact hr.rn b v k h
  ·exact hr.rn i v k h
 ·rcases hget i z v h1 h2 with ⟨rfl,rfl⟩|⟨n1,n2,h4⟩
  ·show dA _ b E.ρ _ w=none
   rw [hma];exact hr.fresh b _ v w hjb h2 h3
  ·show dA a b E.ρ i w=none
   rw [hmo n1 n2];exact hr.fresh i z v w h4 h2 h3
 ·show dA a b E.ρ i v=none
  have hi:st.hp.length≤i:=by simpa using hi
  rw [hmo (by omega) (by omega)]
  exact hr.new i v hi
 ·show dA a b E.ρ i v=some k
  rw [hmo (by omega) (by omega)];exact hk
def Lg (T:bh) (rs:List ResultVar) (Q:AV→List AB→bw→Prop) (e:Exit) (s:aR):Prop :=
 match e with
 | .normal|.ret=>ij T s rs fun as=>Q (l6 as) s.hp s.av
 | _=>False
theorem Al {vs:List AV} {us:List Value} (h:fh ρ g O vs us):AR ρ g O (l6 vs) (aW us):=by
 match vs,us,h with
 | [],[],_=>exact .tp rfl (fun i x u hx=>by cases hx)
 | [v],[u],h=>exact h.2 0 v u rfl rfl
 | a :: b :: l,c :: d :: m,h=>exact .tp (by simpa using h.1) (fun i x u hx hu=>h.2 i x u hx (by simpa using hu))
 | [],u :: us,h=>exact absurd h.1 (by simp)
 | v :: vs,[],h=>exact absurd h.1 (by simp)
 | [v],a :: b :: l,h=>exact absurd h.1 (by simp)
 | a :: b :: l,[v],h=>exact absurd h.1 (by simp)
theorem ai.body {f:FuncId} {fn:Func} {c:Code} {first caps args:List AV} {Q:AV→List AB→bw→Prop} (hf:T.fn.get f=some fn) (hb:fn.body=some c) (hn:noEntry tab f=true)
  (hw:aC T tab one c ⟨uh (first++args++caps),hp,av,false,hp.length⟩ (Lg T fn.results.toList Q)):ai T tab one (.fn f first caps) args hp av Q:=by
 intro E base H u us hr hF ha
 obtain ⟨fs,cs,rfl,h1,h2⟩:∃ fs cs,u=.func (.func f) fs cs∧fh E.ρ H.get (E.O hp) first fs.toList∧fh E.ρ H.get (E.O hp) caps cs.toList:=by
  cases hF with
  | d h=>cases h with
   | fn ha hb h1 h2=>exact ⟨_,_,rfl,⟨ha,fun i x u hx hu=>.d (h1 i x u hx hu)⟩,⟨hb,fun i x u hx hu=>.d (h2 i x u hx hu)⟩⟩
  | fn ha hb h1 h2=>exact ⟨_,_,rfl,⟨ha,h1⟩,⟨hb,h2⟩⟩
 refine ⟨.fn f (fs.toList++us++cs.toList),rfl,?_⟩
 have hargs:=(h1.append ha).append h2
 obtain ⟨m,L,h1,h2,h3⟩:=hw E base ⟨setArgs .leaf 0 (fs.toList++us++cs.toList),H,false⟩ ⟨hr,rfl,mG hargs⟩
 obtain ⟨m',M,hm,q1,q2,q3⟩:=cB (one:=one) (L:=L) (f:=fun _ (p:Exit × St)=>fc T fn.results.toList p)
  (P:=fun r=>∃ w H',r=.ret w H'∧∃ E' a hp' amb',Q a hp' amb'∧aK E' base hp' amb' H'∧AR E'.ρ H'.get (E'.O hp') a w∧iK hp.length base E hp H E' hp' H')
  (fun _ _ _ _ _ h=>h) m h2 (fun p hp'=>by
   obtain ⟨E',st',k1,k0,k2,k3⟩:=h3 p hp'
   obtain ⟨e,s'⟩:=p
   have done:(e=.normal∨e=.ret)→(ij T st' fn.results.toList fun as=>Q (l6 as) st'.hp st'.av)→∃ (_:Nat) (M:List eV),fc T fn.results.toList (e,s')=some M ∧
     k9 one M fun r=>∃ w H',r=.ret w H'∧∃ E' a hp' amb',Q a hp' amb'∧aK E' base hp' amb' H'∧AR E'.ρ H'.get (E'.O hp') a w∧iK hp.length base E hp H E' hp' H':=by
    intro he hr
    obtain ⟨ws,as,r1,r2,r4⟩:=iq k2 hr
    refine ⟨0,[.ret (aW ws) s'.hp],?_,.single ⟨_,_,rfl,E',l6 as,st'.hp,st'.av,r2,k2.h,Al r4,k3⟩⟩
    unfold fc
    rcases he with rfl|rfl <;> simp only [r1,Option.map_some]
   cases e with
   | normal=>exact done (.inl rfl) k1
   | ret=>exact done (.inr rfl) k1
   | _=>exact k1.elim)
 refine ⟨m'+1,M,?_,q2,q3⟩
 show RX T tab (m'+1) (.call f _ H)=_
 rw [rX,jd _ _ hn]
 simp only
 rw [gQ,hf]
 simp only [hb]
 rw [dX (dR hm) _ _ _ h1]
 exact q1
end
end Go.RM
namespace Go.RM
open Go
section
variable {T : bh} {tab : List XE} {one : Bool}
end
end Go.RM
namespace Go.RM
open Go
section
variable {T : bh} {tab : List XE} {one : Bool}
def wS (a b:AV):Prop:=∀ (g:az) (O:Nat→Prop) (u:Value),DR g O a u→DR g O b u
theorem wS.refl (a:AV):wS a a:=fun _ _ _ h=>h
theorem wS.nil (b:Bool):wS (.fl (.slice none 0 0)) (.sl [] b):=fun _ _ u h=>by
 cases h with
 | fl=>exact .nil
theorem wS.full {els:List (List AV)}:wS (.sl els true) (.sl els false):=fun _ _ u h=>by
 cases h with
 | nil=>exact .nil
 | sl q1 q2 q3 q4 q5 q6 q7=>exact .sl q1 q2 q3 q4 q5 q6 (fun h=>Bool.noConfusion h)
def wT:List AV→List AV→Prop
 | [],[]=>True
 | a :: l,b :: m=>wS a b∧wT l m
 | _,_=>False
theorem wT.Kl {g:az} {O:Nat→Prop}:∀ {as bs:List AV} {us:List Value},wT as bs→rY g O as us→rY g O bs us
 | [],[],us,_,h=>h
 | a :: l,b :: m,[],_,h=>absurd h.1 (by simp)
 | a :: l,b :: m,u :: us,hs,h=>by
  have ih:=wT.Kl (g:=g) (O:=O) (us:=us) hs.2 ⟨by simpa using h.1,fun i a v x y=>h.2 (i+1) a v (by simpa using x) (by simpa using y)⟩
  refine ⟨by simpa using ih.1,fun i x v hx hv=>?_⟩
  cases i with
  | zero=>cases hx;cases hv;exact hs.1 _ _ _ (h.2 0 a u rfl rfl)
  | succ i=>exact ih.2 i x v (by simpa using hx) (by simpa using hv)
 | [],_ :: _,_,hs,_=>hs.elim
 | _ :: _,[],_,hs,_=>hs.elim
theorem af.soft {F:AV} {args args':List AV} {v:AV} (h:af T tab one F args v) (hs:wT args' args):af T tab one F args' v :=
 ⟨h.1,fun X H u us hw hX hF ha=>h.2 X H u us hw hX hF (hs.Kl ha)⟩
end
end Go.RM
namespace Go.RM
open Go
section
variable {T : bh} {tab : List XE} {one : Bool} {base : Nat} {E : Env} {hp : List AB} {av : bw} {H : Hp}
end
end Go.RM
namespace Go.RM
open Go
end Go.RM
namespace Go.RM
open Go
section
variable {T : bh} {tab : List XE} {one : Bool} {fl base : Nat} {E E' E2 : Env} {hp hp' hp2 : List AB} {av amb' : bw} {H H' H2 : Hp} {ρ ρ2 : Nat → Nat → Option Nat} {g g2 : az} {O O2 : Nat → Prop}
end
end Go.RM
namespace Go.RM
open Go
section
variable {T : bh} {tab : List XE} {one : Bool} {base : Nat} {E : Env} {hp : List AB} {av : bw} {H : Hp}
inductive Fq (hp:List AB):AV→AV→Prop
 | fz {a v:AV}:Fz hp a v→Fq hp a v
 | ptr {j ax o es:Nat} {cs:List AV}:hp[j]?=some (.cells cs es ax)→de cs=true→Fq hp (.ptr j ax o) (.pt cs o)
 | fn {f:FuncId} {a b x y:List AV}:a.length=x.length→b.length=y.length→(∀ (i:Nat) (u v:AV),a[i]?=some u→x[i]?=some v→Fq hp u v)→(∀ (i:Nat) (u v:AV),b[i]?=some u→y[i]?=some v→Fq hp u v)→Fq hp (.fn f a b) (.fn f x y)
theorem AR.H8 {ρ:Nat→Nat→Option Nat} {g:az} {O:Nat→Prop} {f:FuncId} {a b:List AV} {u:Value} (h:AR ρ g O (.fn f a b) u):∃ a' b',u=.func (.func f) a' b'∧fh ρ g O a a'.toList∧fh ρ g O b b'.toList:=by
 cases h with
 | d h=>cases h with
  | fn ha hb h1 h2=>exact ⟨_,_,rfl,⟨ha,fun i x u hx hu=>.d (h1 i x u hx hu)⟩,⟨hb,fun i x u hx hu=>.d (h2 i x u hx hu)⟩⟩
 | fn ha hb h1 h2=>exact ⟨_,_,rfl,⟨ha,h1⟩,⟨hb,h2⟩⟩
theorem Fq.dr {X:Nat→Prop} (h:aK E base hp av H) (hX:∀ k,X k→E.X k) {r v:AV} (hf:Fq hp r v):∀ {u:Value},AR E.ρ H.get (E.O hp) r u→DR H.get X v u:=by
 have weak:∀ {v:AV} {u:Value},DR H.get (E.O hp) v u→DR H.get X v u:=fun h=>h.mono fun k b hk ho=>⟨hk,fun hx=>ho (.inr (hX k hx))⟩
 induction hf with
 | fz hz=>intro u ha;exact hz.dr h hX ha
 | ptr h1 hd =>
  rename_i j ax o es cs
  intro u ha
  obtain ⟨k,hk,rfl⟩:=ha.dy
  obtain ⟨cs',q1,q2⟩:=h.cells h1 hk
  have hok:Own E.ρ hp k:=⟨j,_,ax,h1,rfl,hk⟩
  have hnx:¬ X k:=fun hx=>h.iL k hok (hX k hx)
  have:=DR.pt (g:=H.get) (O:=X) (l:=cs) (k:=k) (d:=0) (o:=o) (cs:=cs') q1 hnx (by rw [Nat.zero_add,q2.1];exact Nat.le_refl _) (fun i a u hx hu=>by
   rw [Nat.zero_add] at hu
   exact weak ((q2.2 i a u hx hu).deep (ia hd i a hx)))
  rw [Nat.zero_add] at this
  exact this
 | @fn f a b x y h1 h2 _ _ ih1 ih2 =>
  intro u ha
  obtain ⟨a',b',rfl,p1,p2⟩:=ha.H8
  refine .fn (by rw [←h1];exact p1.1) (by rw [←h2];exact p2.1) (fun i v w hv hw=>?_) (fun i v w hv hw=>?_)
  ·have hi:i < a.length:=by rw [h1];exact (List.getElem?_eq_some_iff.1 hv).1
   have hai:a[i]?=some a[i]:=List.getElem?_eq_getElem hi
   exact ih1 i _ v hai hv (p1.2 i _ w hai hw)
  ·have hi:i < b.length:=by rw [h2];exact (List.getElem?_eq_some_iff.1 hv).1
   have hai:b[i]?=some b[i]:=List.getElem?_eq_getElem hi
   exact ih2 i _ v hai hv (p2.2 i _ w hai hw)
def e7 (hp:List AB):List AV→List AV→Prop
 | [],[]=>True
 | r :: rs,v :: vs=>Fq hp r v∧e7 hp rs vs
 | _,_=>False
theorem e7.dr {X:Nat→Prop} (h:aK E base hp av H) (hX:∀ k,X k→E.X k):∀ {rs vs:List AV} {us:List Value},e7 hp rs vs→fh E.ρ H.get (E.O hp) rs us→rY H.get X vs us
 | [],[],us,_,ha=>⟨ha.1,fun i a u hx=>by cases hx⟩
 | r :: rs,v :: vs,[],_,ha=>absurd ha.1 (by simp)
 | r :: rs,v :: vs,u :: us,hf,ha=>by
  have:=e7.dr h hX hf.2 (us:=us) ⟨by simpa using ha.1,fun i a u x y=>ha.2 (i+1) a u (by simpa using x) (by simpa using y)⟩
  refine ⟨by simp [this.1],fun i a w hx hw=>?_⟩
  cases i with
  | zero=>cases hx;cases hw;exact hf.1.dr h hX (ha.2 0 r u rfl rfl)
  | succ i=>exact this.2 i a w (by simpa using hx) (by simpa using hw)
 | [],_ :: _,_,hf,_=>hf.elim
 | _ :: _,[],_,hf,_=>by simp [e7] at hf
theorem e7.I9 {f:FuncId} {a b x y:List AV} (h1:e7 hp a x) (h2:e7 hp b y):Fq hp (.fn f a b) (.fn f x y):=by
 have key:∀ {a x:List AV},e7 hp a x→a.length=x.length∧∀ (i:Nat) (u v:AV),a[i]?=some u→x[i]?=some v→Fq hp u v:=by
  intro a
  induction a with
  | nil =>
   intro x h
   cases x with
   | nil=>exact ⟨rfl,fun i u v hu=>by cases hu⟩
   | cons=>exact h.elim
  | cons r rs ih =>
   intro x h
   cases x with
   | nil=>simp [e7] at h
   | cons v vs =>
    obtain ⟨l,k⟩:=ih h.2
    refine ⟨by simp [l],fun i u w hu hw=>?_⟩
    cases i with
    | zero=>cases hu;cases hw;exact h.1
    | succ i=>exact k i u w (by simpa using hu) (by simpa using hw)
 exact .fn (key h1).1 (key h2).1 (key h1).2 (key h2).2
theorem af.ur {F F':AV} {args vs:List AV} {v:AV} (h:af T tab one F' vs v) (hF:Fq hp F F') (hz:e7 hp args vs) (hfree:iM v) {Q:AV→List AB→bw→Prop} (hq:Q v hp av):ai T tab one F args hp av Q:=by
 intro E base H u us hr hf ha
 obtain ⟨hd,h⟩:=h
 obtain ⟨goal,hg,m,L,h1,h2,h3⟩:=h E.X H u us hr.wf (fun k hk=>hr.xn k hk) (hF.dr hr (fun _ h=>h) hf) (hz.dr hr (fun _ h=>h) ha)
 refine ⟨goal,hg,m,L,h1,h2,fun r hm=>?_⟩
 obtain ⟨w,H',rfl,hn,hwf,hsame,hlo,hv⟩:=h3 r hm
 have e:Ext base E hp H E hp H':=⟨hn,rfl,rfl,rfl,fun _ _ _ h=>h,fun _ h=>.inl h,fun k hk _=>hsame k hk,by have:=hr.bn;omega⟩
 refine ⟨w,H',rfl,E,v,hp,av,hq,⟨hwf,fun j x ax hj hvx=>?_,hr.inj,fun j v k hk=>Nat.lt_of_lt_of_le (hr.rn j v k hk) hn,hr.fresh,hr.new,hr.sup,hr.iL,hr.dx,hr.ds,fun k hk=>Nat.lt_of_lt_of_le (hr.sn k hk) hn,fun k hk=>Nat.lt_of_lt_of_le (hr.xn k hk) hn,hr.qp,Nat.le_trans hr.bn hn,av.st hr.av (fun k hk=>hsame k (hr.sn k hk)) hn⟩,.d (hfree.2 _ _ _ _ hv),e.DN⟩
 rcases hr.gC j x ax hj hvx with ⟨k,b',q1,q2,q3⟩|q
 ·exact .inl ⟨k,b',q1,by rw [hsame k (hr.wf.lt q2)];exact q2,e.br hr.wf q3⟩
 ·exact .inr q
theorem e7.nil:e7 hp [] []:=trivial
theorem e7.cons {a x:AV} {as xs:List AV} (h:Fq hp a x) (k:e7 hp as xs):e7 hp (a :: as) (x :: xs):=⟨h,k⟩
theorem Fq.deep {v:AV} (h:v.deep=true):Fq hp v v:=.fz (.deep h)
end
end Go.RM
namespace Go.RM
open Go
section
variable {T : bh} {tab : List XE} {one : Bool} {mu : Tmp → Bool} {dst : Option Tmp} {fr : Nat → AV} {hp : List AB} {av : bw} {rd : Bool} {fl : Nat} {KS : aR → Prop}
theorem om {r:Operand} {name:String} {l:List Operand} {tys} {F:AV} (hF:yO T.P (aS fr r) name=F) (h:force F fun F=>eT (l.map (aS fr)) fun as=>ai T tab one F as hp av fun v hp' amb'=>gv dst fr v fun fr'=>KS ⟨fr',hp',amb',rd,fl⟩) :
  so T tab one mu dst (.call ⟨.invoke r name,l.toArray,tys⟩) fr hp av rd fl KS:=by
 subst hF
 exact h
theorem nm {r:Operand} {name:String} {l:List Operand} {tys} {i:Nat} {bt:Nat→Nat} {KD:(Nat→AV)→List AB→(Nat→Nat)→jW→Prop} {F v:AV} {as:List AV} (hp':af T tab true F as v) (hF:yO T.P (aS fr r) name=F) (ha:l.map (aS fr)=as) (hd:F.deep=true) (hda:de as=true)
  (h:gv dst fr v fun fr'=>KD fr' hp (nU dst bt (i+1)) ⟨i,[],true,true⟩):je T tab mu dst (.call ⟨.invoke r name,l.toArray,tys⟩) i bt fr hp KD:=by
 show force (yO T.P (aS fr r) name) fun F=>eT (l.map (aS fr)) fun as=>F.deep=true∧∃ vs v,Handed hp as vs v∧af T tab true F vs v∧gv dst fr v fun fr'=>KD fr' hp (nU dst bt (i+1)) ⟨i,[],true,true⟩
 rw [hF,ha]
 exact wP (tn (P:=fun as=>F.deep=true∧∃ vs v,Handed hp as vs v∧af T tab true F vs v∧gv dst fr v fun fr'=>KD fr' hp (nU dst bt (i+1)) ⟨i,[],true,true⟩) ⟨hd,as,v,.inl ⟨rfl,hda⟩,hp',h⟩)
end
end Go.RM
namespace Go.RM
open Go
section
variable {T : bh} {tab : List XE} {one : Bool} {mu : Tmp → Bool} {KE : Exit → aR → Prop} {st : aR}
theorem EY {l:List Oper} (hd:l.any ym=false):gy l.toArray=l.length:=by
 unfold gy
 have:l.findIdx? ym=none:=by
  rw [List.findIdx?_eq_none_iff]
  intro x hx
  rw [List.any_eq_false] at hd
  simpa using hd x hx
 simp only [this]
theorem LN {id:Nat} {l:List Oper} (hd:l.any ym=false) (h:jg T tab mu l.toArray l 0 (fun _=>0) [] st (KE .normal)):kE T tab one mu (.region id l.toArray true) st KE:=by
 refine c5 (EY hd) rfl rfl ?_
 rw [List.take_length,List.drop_length]
 exact h
end
end Go.RM
namespace Go.RM
open Go
section
variable {T : bh} {tab : List XE} {one : Bool} {mu : Tmp → Bool} {own : Bool} {fr : Nat → AV} {hp : List AB} {K : AV → List AB → Prop} {t : TypeId} {iP : TypeDesc} {s by' : Nat} {z : Option Value} {agg : Bool} {bO : List (Nat × Nat)} {cy : Nat}
theorem LO {a:Operand} {cs:List AV} {o:Nat} (ha:aS fr a=.pt cs o) (ht:T.ty.get t=some ⟨iP,s,by',z,true,bO,cy⟩) (hl:Nat.ble (o+s) cs.length=true) (h:K (.ag ((cs.drop o).take s)) hp):wpOp T own (.load t a) fr hp K:=by
 show fV T t (aS fr a) hp K
 unfold fV
 simp only [ha,ht]
 exact ⟨Nat.le_of_ble_eq_true hl,h⟩
theorem LQ {a:Operand} {cs:List AV} {o:Nat} {v:AV} (ha:aS fr a=.pt cs o) (ht:T.ty.get t=some ⟨iP,s,by',z,false,bO,cy⟩) (hv:cs[o]?=some v) (h:K v hp):wpOp T own (.load t a) fr hp K:=by
 show fV T t (aS fr a) hp K
 unfold fV
 simp only [ha,ht]
 exact ⟨v,hv,h⟩
theorem LB {a:Operand} {j ax o es:Nat} {cs:List AV} (ha:aS fr a=.ptr j ax o) (ht:T.ty.get t=some ⟨iP,s,by',z,true,bO,cy⟩) (hj:hp[j]?=some (.cells cs es ax)) (hl:Nat.ble (o+s) cs.length=true) (h:K (.ag ((cs.drop o).take s)) hp):wpOp T own (.load t a) fr hp K:=by
 show fV T t (aS fr a) hp K
 unfold fV
 simp only [ha,ht]
 exact ⟨cs,es,hj,Nat.le_of_ble_eq_true hl,h⟩
theorem Km {a:Operand} {j ax o es:Nat} {cs:List AV} {v:AV} (ha:aS fr a=.ptr j ax o) (ht:T.ty.get t=some ⟨iP,s,by',z,false,bO,cy⟩) (hj:hp[j]?=some (.cells cs es ax)) (hv:cs[o]?=some v) (h:K v hp):wpOp T own (.load t a) fr hp K:=by
 show fV T t (aS fr a) hp K
 unfold fV
 simp only [ha,ht]
 exact ⟨cs,es,hj,v,hv,h⟩
theorem LR {a:Operand} {i:Nat} {cs:List AV} {o off sz:Nat} {fs} (ha:aS fr a=.pt cs o) (ht:T.ty.get t=some ⟨.struct fs,s,by',z,agg,bO,cy⟩) (hf:bO[i]?=some (off,sz)) (h1:Nat.ble 1 sz=true) (h:K (.pt cs (o+off)) hp):wpOp T own (.fieldAddr t a i) fr hp K:=by
 show kj T t (aS fr a) i hp K
 unfold kj
 simp only [ha,ht]
 exact ⟨off,sz,hf,Nat.le_of_ble_eq_true h1,h⟩
theorem LU {a:Operand} {i:Nat} {j ax o off sz:Nat} {fs} (ha:aS fr a=.ptr j ax o) (ht:T.ty.get t=some ⟨.struct fs,s,by',z,agg,bO,cy⟩) (hf:bO[i]?=some (off,sz)) (h1:Nat.ble 1 sz=true) (h:K (.ptr j ax (o+off)) hp):wpOp T own (.fieldAddr t a i) fr hp K:=by
 show kj T t (aS fr a) i hp K
 unfold kj
 simp only [ha,ht]
 exact ⟨off,sz,hf,Nat.le_of_ble_eq_true h1,h⟩
theorem LV {v:Value} (ht:T.ty.get t=some ⟨iP,s,by',some v,agg,bO,cy⟩) (h1:v.cells.toList.all aP=true) (h:K (.ptr hp.length 0 0) (hp++[.cells (v.cells.toList.map .fl) 0 0])):wpOp T own (.alloc t) fr hp K:=by
 show r0 T t hp K
 unfold r0
 simp only [ht]
 exact ⟨h1,h⟩
theorem Lh {x:Operand} (h:force (aS fr x) fun v=>yJ own v hp K):wpOp T own (.box t x) fr hp K:=h
theorem LW {v:AV} (ho:own=false) (h1:v.kV=true) (h2:v.cells.all AV.one=true) (h3:de v.cells=true) (h:K (.pt v.cells 0) hp):yJ own v hp K:=by
 subst ho
 exact ⟨h1,h2,h3,h⟩
theorem LX {v:AV} (ho:own=true) (h1:v.kV=true) (h2:v.cells.all AV.one=true) (h:K (.ptr hp.length 0 0) (hp++[.cells v.cells 0 0])):yJ own v hp K:=by
 subst ho
 exact ⟨h1,h2,h⟩
theorem JD {a x:Operand} (h:force (aS fr x) fun v=>dN T t (aS fr a) v hp K):wpOp T own (.store t a x) fr hp K:=h
theorem uT {a v:AV} {j ax o es:Nat} {cs:List AV} (ha:a=.ptr j ax o) (ht:T.ty.get t=some ⟨iP,s,by',z,agg,bO,cy⟩) (hj:hp[j]?=some (.cells cs es ax)) (h1:v.kV=true) (h2:v.cells.all AV.one=true) (h3:v.cells.length=s) (h4:Nat.ble (o+s) cs.length=true) (h:K .bL (hp.set j (.cells (cX cs v.cells o) es ax))):dN T t a v hp K:=by
 unfold dN
 simp only [ha,ht]
 exact ⟨cs,es,hj,h1,h2,h3,Nat.le_of_ble_eq_true h4,h⟩
theorem JE {l:List (Nat × Operand)} (h:kW (l.map fun p=>(p.1,aS fr p.2)) fun ps=>nu T t ps hp K):wpOp T own (.build t l.toArray) fr hp K:=h
theorem H9 {l:List (Nat × Operand)} {len:Nat} (h:kW (l.map fun p=>(p.1,aS fr p.2)) fun ps=>dO T own t len ps hp K):wpOp T own (.buildSlice t len l.toArray) fr hp K:=h
theorem LY {P:List (Nat × AV)→Prop} (h:P []):kW (([]:List (Nat × Operand)).map fun p=>(p.1,aS fr p.2)) P:=h
theorem LZ {i:Nat} {x:Operand} {l:List (Nat × Operand)} {P:List (Nat × AV)→Prop} (h:force (aS fr x) fun a=>kW (l.map fun p=>(p.1,aS fr p.2)) fun l=>P ((i,a) :: l)):kW (((i,x) :: l).map fun p=>(p.1,aS fr p.2)) P:=h
theorem K9 {v:Value} {parts:List (Nat × AV)} {cs:List AV} (ht:T.ty.get t=some ⟨iP,s,by',some v,true,bO,cy⟩) (h1:v.cells.toList.all aP=true) (h2:BF (gM iP bO cy) (v.cells.toList.map .fl) parts=some cs) (h:K (.ag cs) hp):nu T t parts hp K:=by
 unfold nu
 simp only [ht]
 exact ⟨h1,cs,h2,h⟩
theorem L3 {len:Nat} {parts:List (Nat × AV)} {inf:yh} (ho:own=false) (hi:elem? T t=some inf) (h1:Nat.ble (len * inf.size) 65536=true) (h2:bJ inf=true) (h3:lM inf.size 0 parts=true) (h4:Nat.beq parts.length len=true) (h5:de (parts.map (·.2.cells)).flatten=true) (h:K (.sl (parts.map (·.2.cells)) true) hp):dO T own t len parts hp K:=by
 subst ho
 unfold dO
 simp only [hi]
 exact ⟨h1,h2,h3,h4,h5,h⟩
theorem L4 {len:Nat} {parts:List (Nat × AV)} {inf:yh} (ho:own=true) (hi:elem? T t=some inf) (h1:Nat.ble (len * inf.size) 65536=true) (h2:bJ inf=true) (h3:lM inf.size 0 parts=true) (h4:Nat.beq parts.length len=true) (h:K (.cS hp.length 0 0 len len) (hp++[.cells (parts.map (·.2.cells)).flatten inf.size 0])):dO T own t len parts hp K:=by
 subst ho
 unfold dO
 simp only [hi]
 exact ⟨h1,h2,h3,h4,h⟩
theorem L5 {x:Operand} {i:Nat} {vs:List AV} {v:AV} (ha:aS fr x=.tp vs) (hv:vs[i]?=some v) (h:K v hp):wpOp T own (.extract x i) fr hp K:=by
 show kD (aS fr x) i hp K
 rw [ha]
 exact ⟨v,hv,h⟩
theorem LC {a x:Operand} {e:TypeId} {els:List (List AV)} {f:Bool} {j:Int} {el:List AV} (ha:aS fr a=.sl els f) (hx:aS fr x=.fl (.int .i64 j)) (ht:T.ty.get t=some ⟨.slice e,s,by',z,agg,bO,cy⟩) (hat:els[j.toNat]?=some el) (h0:0≤j) (hl:el.length=cy) (h:K (.pt el 0) hp):wpOp T own (.indexAddr t a x) fr hp K:=by
 show cA T t (aS fr a) (aS fr x) hp K
 rw [ha,hx]
 unfold cA
 simp only [asInt,ht]
 exact ⟨el,⟨h0,hat⟩,hl,h⟩
theorem L6 {a x:Operand} {e:TypeId} {i ax o n c:Nat} {j:Int} (ha:aS fr a=.cS i ax o n c) (hx:aS fr x=.fl (.int .i64 j)) (ht:T.ty.get t=some ⟨.slice e,s,by',z,agg,bO,cy⟩) (h0:0≤j∧j < (n:Int)) (h:K (.ptr i ax (o+j.toNat * cy)) hp):wpOp T own (.indexAddr t a x) fr hp K:=by
 show cA T t (aS fr a) (aS fr x) hp K
 rw [ha,hx]
 unfold cA
 simp only [asInt,ht]
 exact ⟨h0,h⟩
theorem L7 {a x:Operand} {e:TypeId} {len:Nat} {cs:List AV} {o:Nat} {j:Int} (ha:aS fr a=.pt cs o) (hx:aS fr x=.fl (.int .i64 j)) (ht:T.ty.get t=some ⟨.array len e,s,by',z,agg,bO,cy⟩) (h0:0≤j∧j < (len:Int)) (h:K (.pt cs (o+j.toNat * cy)) hp):wpOp T own (.indexAddr t a x) fr hp K:=by
 show cA T t (aS fr a) (aS fr x) hp K
 rw [ha,hx]
 unfold cA
 simp only [asInt,ht]
 exact ⟨h0,h⟩
theorem L8 {a x:Operand} {e:TypeId} {len:Nat} {i ax o:Nat} {j:Int} (ha:aS fr a=.ptr i ax o) (hx:aS fr x=.fl (.int .i64 j)) (ht:T.ty.get t=some ⟨.array len e,s,by',z,agg,bO,cy⟩) (h0:0≤j∧j < (len:Int)) (h:K (.ptr i ax (o+j.toNat * cy)) hp):wpOp T own (.indexAddr t a x) fr hp K:=by
 show cA T t (aS fr a) (aS fr x) hp K
 rw [ha,hx]
 unfold cA
 simp only [asInt,ht]
 exact ⟨h0,h⟩
end
end Go.RM
namespace Go.RM
open Go
section
variable {T : bh} {own : Bool} {fr : Nat → AV} {hp : List AB} {K : AV → List AB → Prop} {t : TypeId}
theorem L9 {l c:Operand} {n:Nat} {inf:yh} (hi:elem? T t=some inf) (hl:aS fr l=.fl (.int .i64 (Int.ofNat n))) (hc:aS fr c=.fl (.int .i64 (Int.ofNat n))) (hb:inf.bytes * n≤140737488355328∧n≤9223372036854775807) (hz:bJ inf=true) (h:K (.cS hp.length 0 0 n n) (hp++[.cells ((bT (zeroCells inf) (n * inf.size)).map .fl) inf.size 0])):wpOp T own (.makeSlice t l c) fr hp K:=by
 show wD T t (aS fr l) (aS fr c) hp K
 unfold wD
 simp only [hi,hl,hc]
 refine ⟨n,n,rfl,rfl,⟨Nat.le_refl _,hb⟩,hz,?_⟩
 rw [show Nat.beq n n=true from Nat.beq_refl n]
 exact h
end
end Go.RM
namespace Go.RM
open Go
section
variable {T : bh} {own : Bool} {fr : Nat → AV} {hp : List AB} {K : AV → List AB → Prop} {s x : Operand} {t u e : TypeId} {a1 a2 a3 a4 a5 a6} {els : List (List AV)} {f : Bool} {inf : yh}
end
end Go.RM
namespace Go.RM
open Go
end Go.RM
namespace Go.RM
open Go
section
variable {T : bh} {tab : List XE} {one : Bool} {fl base : Nat} {E E' E2 : Env} {hp hp' hp2 : List AB} {av amb' : bw} {H H' H2 : Hp} {ρ ρ2 : Nat → Nat → Option Nat} {g g2 : az} {O O2 : Nat → Prop}
def Li (T:bh) (tab:List XE) (mu:Tmp→Bool) (ops:Array Oper) (c:Nat) (K:aR→Prop) (acc:List jW) (st:aR):Prop :=
 match ops.toList[c]? with
 | some o=>match cv o.op with
  | .call f args=>cY ops.toList o.guard st.fr (force (K4 T.P st.fr f) fun F=>eT (args.map (aS st.fr)) fun as=>F.deep=true∧∃ vs v,Handed st.hp as vs v∧af T tab false F vs v∧pO (qV ops) (⟨c,[],true,true⟩ :: acc)=true ∧
   gv o.dst st.fr v fun fr'=>wpOps T tab false mu ops.toList (ops.toList.drop (c+1)) ⟨fr',st.hp,st.av,st.rd,st.fl⟩ K) False
  | _=>False
 | none=>False
def sw (T:bh) (tab:List XE) (mu:Tmp→Bool) (ops:Array Oper) (c:Nat) (K:aR→Prop):List Oper→Nat→(Nat→Nat)→List jW→aR→Prop
 | [],i,_,acc,st=>i=c∧Li T tab mu ops c K acc st
 | ⟨dst,op,_,_,_,gd⟩ :: l,i,bt,acc,⟨fr,hp,av,rd,fl⟩ =>
  cY ops.toList gd fr (je T tab mu dst op i bt fr hp fun fr' hp' bt' x=>sw T tab mu ops c K l (i+1) bt' (x :: acc) ⟨fr',hp',av,rd,fl⟩)
   (gv dst fr (.tp []) fun fr'=>sw T tab mu ops c K l (i+1) (nU dst bt 0) (⟨i,[],false,false⟩ :: acc) ⟨fr',hp,av,rd,fl⟩)
section
variable {mu : Tmp → Bool} {ops : Array Oper} {K : aR → Prop} {c i : Nat} {bt : Nat → Nat} {acc : List jW} {fr : Nat → AV} {rd : Bool}
theorem Mb {dst:Option Tmp} {op:Op} {a1 a2 a3 gd} {l:List Oper} (h:cY ops.toList gd fr (je T tab mu dst op i bt fr hp fun fr' hp' bt' x=>sw T tab mu ops c K l (i+1) bt' (x :: acc) ⟨fr',hp',av,rd,fl⟩)
 (gv dst fr (.tp []) fun fr'=>sw T tab mu ops c K l (i+1) (nU dst bt 0) (⟨i,[],false,false⟩ :: acc) ⟨fr',hp,av,rd,fl⟩)):sw T tab mu ops c K (⟨dst,op,a1,a2,a3,gd⟩ :: l) i bt acc ⟨fr,hp,av,rd,fl⟩:=h
end
end
end Go.RM
namespace Go.RM
open Go
end Go.RM
namespace Go.RM
structure Hd (h:Prop):Prop where
 x:h
theorem u1 {g h : Prop} (q : h) (k : Hd h → g := by
    intro hd
    first
    | with_reducible (first | refine RM.c1 ?_ | refine RM.c2 ?_ | refine RM.c3 ?_ | refine RM.c4 ?_ | refine RM.c6 ?_ | refine RM.c7 ?_ | refine RM.c8 ?_ | refine RM.c9 ?_ | refine RM.d1 ?_ | refine RM.d2 ?_ | refine RM.d3 ?_ | refine RM.d4 ?_ | refine RM.d7 ?_ | refine RM.d8 ?_ | refine RM.d9 ?_ | refine RM.o1 ?_ | refine RM.o2 ?_ | refine RM.o3 ?_ | refine RM.o4 ?_ | refine RM.o5 ?_ | refine RM.o6 ?_ | refine RM.o7 ?_ | refine RM.o9 ?_ | refine RM.p1 ?_ | refine RM.p2 ?_ | refine RM.p3 ?_ | refine RM.p4 ?_ | refine RM.p5 ?_ | refine RM.p6 ?_ | refine RM.p7 ?_ | refine RM.p8 ?_ | refine RM.q1 ?_ | refine RM.q2 ?_ | refine RM.Lh ?_ | refine RM.JD ?_ | refine RM.JE ?_ | refine RM.H9 ?_ | refine RM.LY ?_ | refine RM.LZ ?_ | refine RM.Mb ?_)
    | ((with_reducible show force _ _); first | refine RM.f1 rfl ?_ | refine RM.f2 rfl ?_ | refine RM.f3 rfl ?_ | refine RM.f4 rfl ?_ | refine RM.f5 rfl ?_ | refine RM.f6 rfl ?_ | refine RM.f7 rfl ?_ | refine RM.f8 rfl ?_ | refine RM.f9 rfl ?_ | refine RM.g1 rfl ?_ | refine RM.g2 rfl ?_)
    | ((with_reducible show RM.wpOp _ _ _ _ _ _); first
      | ((with_reducible show RM.wpOp _ _ (.load _ _) _ _ _); first | refine RM.LQ rfl rfl rfl ?_ | refine RM.LO rfl rfl rfl ?_ | refine RM.Km rfl rfl rfl rfl ?_ | refine RM.LB rfl rfl rfl rfl ?_)
      | ((with_reducible show RM.wpOp _ _ (.fieldAddr _ _ _) _ _ _); first | refine RM.LR rfl rfl rfl rfl ?_ | refine RM.LU rfl rfl rfl rfl ?_)
      | ((with_reducible show RM.wpOp _ _ (.alloc _) _ _ _); refine RM.LV rfl rfl ?_)
      | ((with_reducible show RM.wpOp _ _ (.extract _ _) _ _ _); refine RM.L5 rfl rfl ?_)
      | ((with_reducible show RM.wpOp _ _ (.indexAddr _ _ _) _ _ _); first | refine RM.LC rfl rfl rfl (by assumption) (by omega) rfl ?_ | refine RM.LC rfl rfl rfl rfl (by omega) rfl ?_ | refine RM.L6 rfl rfl rfl (by omega) ?_ | refine RM.L7 rfl rfl rfl (by omega) ?_ | refine RM.L8 rfl rfl rfl (by omega) ?_)
      | ((with_reducible show RM.wpOp _ _ (.makeSlice _ _ _) _ _ _); refine RM.L9 rfl rfl rfl (by decide) rfl ?_)
      | ((with_reducible show RM.wpOp _ _ (.unOp _ _ _) _ _ _); refine RM.n3 rfl ?_)
      | ((with_reducible show RM.wpOp _ _ (.call _) _ _ _); first | refine RM.n4 rfl rfl ?_ | refine RM.n5 rfl rfl ?_))
    | ((with_reducible show kE _ _ _ _ (.region _ _ true) _ _); first | refine RM.LN rfl ?_ | refine RM.c5 (by kernel_rfl) rfl rfl ?_)
    | ((with_reducible show so _ _ _ _ _ _ _ _ _ _ _ _); refine RM.o8 rfl ?_)
    | ((with_reducible show je _ _ _ _ _ _ _ _ _ _); first | refine RM.p9 rfl ?_ | refine RM.n1 ?_)
    | ((with_reducible show cY _ _ _ _ _); first | refine uq rfl rfl rfl ?_ | refine wO rfl rfl rfl ?_ | refine Ai rfl rfl ?_ | refine uq rfl rfl (by assumption) ?_ | refine wO rfl rfl (by assumption) ?_)
    | ((with_reducible show kE _ _ _ _ (.cond _ _ _) _ _); first | refine RM.e2 rfl rfl ?_ | refine RM.e3 rfl rfl ?_ | refine RM.e2 rfl (by assumption) ?_ | refine RM.e3 rfl (by assumption) ?_)
    | ((with_reducible show s8 _ _ _ _ _); refine RM.k1 rfl ?_)
    | ((with_reducible show kn _ _ _ _ _); first | refine RM.k2 rfl ?_ | refine RM.k3 rfl ?_ | refine RM.k2 (by assumption) ?_ | refine RM.k3 (by assumption) ?_ | refine RM.k4 rfl rfl ?_)
    | ((with_reducible show iQ _ _ _ _ _ _ _ _ _); first | refine RM.b4 rfl rfl ?_ | refine RM.b5 rfl rfl ?_ | refine RM.b6 rfl rfl ?_ | refine RM.b7 rfl rfl ?_ | refine RM.b8 rfl rfl ?_ | refine RM.b9 rfl rfl ?_ | refine RM.b1 rfl rfl (by omega) ?_ | refine RM.b2 rfl rfl (by omega) ?_ | refine RM.b3 rfl rfl (by omega) ?_ | refine RM.r1 rfl rfl (by omega) ?_ | refine RM.r2 rfl rfl (by omega) ?_)
    | ((with_reducible show sj _ _ _ _ _); first | refine RM.l1 rfl ?_ | refine RM.l2 rfl ?_)
    | ((with_reducible show si _ _ _); first | refine RM.l3 rfl ?_ | refine RM.l4 rfl ?_)
    | ((with_reducible show kX _ _ _ _); first | refine RM.d5 rfl ?_ | refine RM.d6 rfl ?_)
    | ((with_reducible show yJ _ _ _ _); first | refine RM.LW rfl rfl rfl rfl ?_ | refine RM.LX rfl rfl rfl ?_)
    | ((with_reducible show dN _ _ _ _ _ _); refine RM.uT rfl rfl rfl rfl rfl rfl rfl ?_)
    | ((with_reducible show nu _ _ _ _ _); refine RM.K9 rfl rfl rfl ?_)
    | ((with_reducible show dO _ _ _ _ _ _ _); first | refine RM.L3 rfl rfl rfl rfl rfl rfl rfl ?_ | refine RM.L4 rfl rfl rfl rfl rfl rfl ?_)
    | ((with_reducible show ai _ _ _ _ _ _ _ _); refine af.call (by assumption) rfl rfl ?_)
    | ((with_reducible show pO _ _ = true ∧ _); refine And.intro (by kernel_rfl) ?_)
    | ((with_reducible show ∃ _, Gg _ _ _ = some _ ∧ _); refine ⟨_, rfl, ?_⟩)
    | ((with_reducible show AV.deep _ = true ∧ _); refine ⟨rfl, rfl, ?_⟩)
    | ((with_reducible show ∃ _, af _ _ _ _ _ _ ∧ _); refine ⟨_, by assumption, ?_⟩)
    exact hd.x) : g := k ⟨q⟩
theorem u2 {g h:Prop} (q:h) (k:Hd h→g:=by
 intro hd
 first
 | refine ⟨_,rfl,?_⟩
 | refine ⟨_,_,rfl,by decide,?_⟩
 | refine ⟨rfl,rfl,rfl,?_⟩
 | refine ⟨rfl,rfl,?_⟩
 | refine ⟨_,_,rfl,_,rfl,?_⟩
 | refine And.intro (Nat.le_of_ble_eq_true rfl) ?_
 | refine And.intro (by omega) ?_
 | refine ⟨_,_,rfl,rfl,_,rfl,rfl,?_⟩
 | refine And.intro (by kernel_rfl) ?_
 | refine ⟨rfl,rfl,rfl,rfl,rfl,?_⟩
 | refine ⟨_,_,rfl,rfl,rfl,rfl,Nat.le_of_ble_eq_true rfl,?_⟩
 | refine ⟨_,_,rfl,Nat.le_of_ble_eq_true rfl,?_⟩
 exact hd.x):g:=k ⟨q⟩
end Go.RM
namespace Go.RM
open Go
section
variable {T : bh} {tab : List XE} {one : Bool} {fl base : Nat} {E E' E2 : Env} {hp hp' hp2 : List AB} {av amb' : bw} {H H' H2 : Hp} {ρ ρ2 : Nat → Nat → Option Nat} {g g2 : az} {O O2 : Nat → Prop}
structure wX (tr:Nat→cx) (x:jW) (t:Tc):Prop where
 ev:HT tr x t
 K5:∀ k ∈ t.rd,∃ p ∈ x.acc,p.wr=false∧cF tr x.i p k∧(p.own.isSome=true→Own (tr x.i).E.ρ (tr x.i).hp k)
 keep:x.call=true→(tr (x.i+1)).E=(tr x.i).E∧(tr (x.i+1)).hp=(tr x.i).hp
theorem wX.snoc {tr:Nat→cx} {i:Nat} {z:cx} {x:jW} {t:Tc} (h:wX tr x t) (hi:x.i < i):wX (snoc tr i z) x t :=
 ⟨h.ev.snoc hi,fun k hk=>by
  obtain ⟨p,a,b,c,d⟩:=h.K5 k hk
  exact ⟨p,a,b,c.snoc (by omega),fun ho=>by rw [cO (by omega)];exact d ho⟩,
  fun hc=>by rw [cO (by omega),cO (by omega)];exact h.keep hc⟩
theorem cF.DY {tr:Nat→cx} {i:Nat} {p:Acc} {k:Nat} (h:cF tr i p k) (ho:p.own.isSome=true) (hw:p.wr=true):Own (tr i).E.ρ (tr i).hp k:=by
 obtain ⟨_,_,h3⟩:=h
 cases hp:p.own with
 | none=>rw [hp] at ho;cases ho
 | some j =>
  rw [hp] at h3
  obtain ⟨_,_,h4⟩:=h3
  exact h4 hw
def u9 (x y:jW):Bool :=
 x.acc.all (fun p=>y.acc.all (pN x.i p)) && ((!x.al && !x.call) || y.acc.all (fun q=>Nat.ble q.b x.i || (x.call && q.own.isSome))) && (!x.call || y.acc.all (fun q=>!q.wr)) && (!y.call || x.acc.all (fun p=>!p.wr))
def JG (b:List Nat):List jW→Bool
 | []=>true
 | y :: l=>l.all (fun x=>(b.getD y.i 0).testBit x.i || u9 x y) && JG b l
theorem Dd {tr:Nat→cx} {n:Nat} (ht:oO base av tr n) {x y:jW} {s t:Tc} (hs:wX tr x s) (hy:wX tr y t) (hxy:x.i < y.i) (hn:y.i≤n) (hf:u9 x y=true):conflict s t=false:=by
 cases hc:conflict s t with
 | false=>rfl
 | true =>
  exfalso
  unfold u9 at hf
  simp only [Bool.and_eq_true,List.all_eq_true,Bool.or_eq_true,Bool.not_eq_true'] at hf
  obtain ⟨⟨⟨f1,f2⟩,f3⟩,f4⟩:=hf
  have two:∀ {k:Nat} {p q:Acc},p ∈ x.acc→q ∈ y.acc→cF tr x.i p k→cF tr y.i q k→(p.wr=true∨q.wr=true)→False:=fun hp hq ap aq hw=>qJ ht hxy hn ap aq hw (f1 _ hp _ hq)
  have inn:∀ {k:Nat} {q:Acc},q ∈ y.acc→cF tr y.i q k→(q.own.isSome=true→Own (tr y.i).E.ρ (tr y.i).hp k)→s.a≤k→k < s.b→False:=by
   intro k q hq aq lq h1 h2
   rcases f2 with h|h
   ·have:=hs.ev.al h.1 h.2;omega
   ·rcases h q hq with h|⟨hcl,hos⟩
    ·have:=Nat.le_of_ble_eq_true h
     have:=(ht.ext q.b x.i this (by omega)).n
     have:=aq.2.1
     rw [hs.ev.a] at h1
     omega
    ·have hk:=hs.keep hcl
     rw [hs.ev.b] at h2
     rw [hs.ev.a] at h1
     rcases (ht.ext (x.i+1) y.i (by omega) hn).own k (lq hos) with h|h
     ·rw [hk.1,hk.2] at h
      have:=(ht.rel x.i (by omega)).mC h
      omega
     ·omega
  have out:∀ {k:Nat} {p:Acc},cF tr x.i p k→t.a≤k→False:=by
   intro k p ap h1
   have:=(ht.ext p.b x.i ap.1 (by omega)).n
   have:=(ht.ext x.i y.i (by omega) hn).n
   have:=ap.2.1
   rw [hy.ev.a] at h1
   omega
  unfold conflict at hc
  simp only [Bool.or_eq_true,Bool.and_eq_true,Bool.not_eq_true'] at hc
  rcases hc with (((((((hc|hc)|hc)|hc)|hc)|hc)|hc)|hc)|hc
  ·obtain ⟨k,k1,k2⟩:=ej.1 hc
   obtain ⟨p,p1,p2,p3⟩:=hs.ev.wr k k1
   obtain ⟨q,q1,q2,q3⟩:=hy.ev.rd k k2
   exact two p1 q1 p3 q3 (.inl p2)
  ·obtain ⟨k,k1,k2⟩:=ej.1 hc
   obtain ⟨p,p1,p2,p3⟩:=hs.ev.wr k k1
   obtain ⟨q,q1,q2,q3⟩:=hy.ev.wr k k2
   exact two p1 q1 p3 q3 (.inl p2)
  ·obtain ⟨k,k1,k2⟩:=ej.1 hc
   obtain ⟨q,q1,q2,q3⟩:=hy.ev.wr k k1
   obtain ⟨p,p1,p2,p3⟩:=hs.ev.rd k k2
   exact two p1 q1 p3 q3 (.inr q2)
  ·rw [hs.ev.call] at hc
   cases hw:t.wr with
   | nil=>rw [hw] at hc;simp at hc
   | cons k l =>
    obtain ⟨q,q1,q2,q3⟩:=hy.ev.wr k (by rw [hw];simp)
    rcases f3 with h|h
    ·rw [hc.1] at h;cases h
    ·rw [h q q1] at q2;cases q2
  ·rw [hy.ev.call] at hc
   cases hw:s.wr with
   | nil=>rw [hw] at hc;simp at hc
   | cons k l =>
    obtain ⟨p,p1,p2,p3⟩:=hs.ev.wr k (by rw [hw];simp)
    rcases f4 with h|h
    ·rw [hc.1] at h;cases h
    ·rw [h p p1] at p2;cases p2
  ·obtain ⟨k,k1,k2,k3⟩:=within_iff.1 hc
   obtain ⟨q,q1,q2,q3,q4⟩:=hy.K5 k k1
   exact inn q1 q3 q4 k2 k3
  ·obtain ⟨k,k1,k2,k3⟩:=within_iff.1 hc
   obtain ⟨q,q1,q2,q3⟩:=hy.ev.wr k k1
   exact inn q1 q3 (fun ho=>q3.DY ho q2) k2 k3
  ·obtain ⟨k,k1,k2,k3⟩:=within_iff.1 hc
   obtain ⟨p,p1,p2,p3⟩:=hs.ev.rd k k1
   exact out p3 k2
  ·obtain ⟨k,k1,k2,k3⟩:=within_iff.1 hc
   obtain ⟨p,p1,p2,p3⟩:=hs.ev.wr k k1
   exact out p3 k2
inductive oP (tr:Nat→cx):Nat→List jW→List Ev→Prop
 | nil:oP tr 0 [] []
 | cons {i:Nat} {x:jW} {ev:Ev} {l:List jW} {m:List Ev}:oP tr i l m→x.i=i→wX tr x ev.t→oP tr (i+1) (x :: l) (ev :: m)
theorem oP.lt {tr:Nat→cx} {i:Nat} {l:List jW} {m:List Ev} (h:oP tr i l m):∀ x ∈ l,x.i < i:=by
 induction h with
 | nil=>intro x hx;cases hx
 | cons _ hi _ ih =>
  intro y hy
  rcases List.mem_cons.1 hy with rfl|hy
  ·omega
  ·have:=ih y hy;omega
theorem oP.snoc {tr:Nat→cx} {i:Nat} {z:cx} {l:List jW} {m:List Ev}:∀ {j:Nat},oP tr j l m→j≤i→oP (snoc tr i z) j l m:=by
 intro j h
 induction h with
 | nil=>intro _;exact .nil
 | cons _ hi he ih=>intro hj;exact .cons (ih (by omega)) hi (he.snoc (by omega))
theorem oP.pairs {tr:Nat→cx} {n:Nat} (ht:oO base av tr n) {b:List Nat} {i:Nat} {l:List jW} {m:List Ev} (h:oP tr i l m):i≤n→JG b l=true→cW T b m=true:=by
 induction h with
 | nil=>intro _ _;rfl
 | cons hl hi he ih =>
  rename_i i y ev l m
  intro hn hc
  simp only [JG,Bool.and_eq_true,List.all_eq_true] at hc
  simp only [cW,Bool.and_eq_true,List.all_eq_true]
  refine ⟨?_,ih (by omega) hc.2⟩
  have hc1:=hc.1
  clear ih hc
  have key:∀ {j:Nat} {l:List jW} {m:List Ev},oP tr j l m→(∀ x ∈ l,(b.getD y.i 0).testBit x.i=true∨u9 x y=true)→j≤y.i→∀ s ∈ m,(!conflict s.t ev.t || (b.getD ev.t.idx 0).testBit s.t.idx || spare T s ev)=true:=by
   intro j l m h
   induction h with
   | nil=>intro _ _ s hs;cases hs
   | cons hl' hi' he' ih' =>
    rename_i x ev' _ _
    intro hx hj s hs
    rcases List.mem_cons.1 hs with rfl|hs
    ·rcases hx x (by simp) with h|h
     ·rw [he.ev.idx,he'.ev.idx,h];simp
     ·rw [Dd ht he' he (by omega) (by omega) h];simp
    ·exact ih' (fun z hz=>hx z (List.mem_cons_of_mem _ hz)) (by omega) s hs
  exact key hl (fun x hx=>by simpa using hc1 x hx) (by omega)
variable {mu : Tmp → Bool} {fr : Nat → AV} {KS : aR → Prop} {rd : Bool} {dst : Option Tmp}
end
end Go.RM
namespace Go.RM
open Go
section
variable {T : bh} {tab : List XE} {one : Bool} {fl base : Nat} {E E' E2 : Env} {hp hp' hp2 : List AB} {av amb' : bw} {H H' H2 : Hp} {ρ ρ2 : Nat → Nat → Option Nat} {g g2 : az} {O O2 : Nat → Prop}
def wY (i:Nat) (p q:Acc):Bool :=
 (!p.wr && !q.wr) || (match p.own,q.own with
  | some j,some j'=>!Nat.beq j j'
  | some _,none=>Nat.ble q.b i
  | none,some _=>!p.wr
  | none,none=>false)
theorem BV {tr:Nat→cx} {n:Nat} (ht:oO base av tr n) {i l:Nat} (hil:i < l) (hl:l≤n) {p q:Acc} {k:Nat} (hp:cF tr i p k) (hpo:p.own.isSome=true→Own (tr i).E.ρ (tr i).hp k) (hq:cF tr l q k) (hw:p.wr=true∨q.wr=true) (hf:wY i p q=true):False:=by
 by_cases h:pN i p q=true
 ·exact qJ ht hil hl hp hq hw h
 ·obtain ⟨p1,p2,p3⟩:=hp
  obtain ⟨q1,q2,q3⟩:=hq
  have back:∀ {b c:Nat},b≤c→c≤n→Own (tr c).E.ρ (tr c).hp k→k < (tr b).H.n→Own (tr b).E.ρ (tr b).hp k:=fun hbc hcn ho hk=>((ht.ext _ _ hbc hcn).own k ho).elim id (fun h=>by omega)
  unfold wY at hf
  unfold pN at h
  rw [Bool.or_eq_true] at hf
  rw [Bool.or_eq_true,not_or] at h
  rcases hf with hf|hf
  ·exact h.1 hf
  ·cases hpo':p.own with
   | some j =>
    rw [hpo'] at hf h hpo
    cases hqo:q.own with
    | some j'=>rw [hqo] at hf h;exact h.2 hf
    | none =>
     rw [hqo] at hf q3
     have hb:=Nat.le_of_ble_eq_true hf
     exact q3 (.inl (back hb (by omega) (hpo rfl) q2))
   | none =>
    rw [hpo'] at hf h
    cases hqo:q.own with
    | some j'=>rw [hqo] at hf h;exact h.2 hf
    | none=>rw [hqo] at hf;cases hf
def sy (x y:jW):Bool :=
 x.acc.all (fun p=>y.acc.all (wY x.i p)) && ((!x.al && !x.call) || y.acc.all (fun q=>Nat.ble q.b x.i || (x.call && q.own.isSome))) && (!x.call || y.acc.all (fun q=>!q.wr)) && (!y.call || x.acc.all (fun p=>!p.wr))
def JH (b:List Nat):List jW→Bool
 | []=>true
 | y :: l=>l.all (fun x=>(b.getD y.i 0).testBit x.i || sy x y) && JH b l
theorem wZ {tr:Nat→cx} {n:Nat} (ht:oO base av tr n) {x y:jW} {s t:Tc} (hs:wX tr x s) (hy:wX tr y t) (hxy:x.i < y.i) (hn:y.i≤n) (hf:sy x y=true):conflict s t=false:=by
 cases hc:conflict s t with
 | false=>rfl
 | true =>
  exfalso
  unfold sy at hf
  simp only [Bool.and_eq_true,List.all_eq_true,Bool.or_eq_true,Bool.not_eq_true'] at hf
  obtain ⟨⟨⟨f1,f2⟩,f3⟩,f4⟩:=hf
  have two:∀ {k:Nat} {p q:Acc},p ∈ x.acc→q ∈ y.acc→cF tr x.i p k→cF tr y.i q k→(p.own.isSome=true→Own (tr x.i).E.ρ (tr x.i).hp k)→(p.wr=true∨q.wr=true)→False:=fun hp hq ap aq ho hw=>BV ht hxy hn ap ho aq hw (f1 _ hp _ hq)
  have inn:∀ {k:Nat} {q:Acc},q ∈ y.acc→cF tr y.i q k→(q.own.isSome=true→Own (tr y.i).E.ρ (tr y.i).hp k)→s.a≤k→k < s.b→False:=by
   intro k q hq aq lq h1 h2
   rcases f2 with h|h
   ·have:=hs.ev.al h.1 h.2;omega
   ·rcases h q hq with h|⟨hcl,hos⟩
    ·have:=Nat.le_of_ble_eq_true h
     have:=(ht.ext q.b x.i this (by omega)).n
     have:=aq.2.1
     rw [hs.ev.a] at h1
     omega
    ·have hk:=hs.keep hcl
     rw [hs.ev.b] at h2
     rw [hs.ev.a] at h1
     rcases (ht.ext (x.i+1) y.i (by omega) hn).own k (lq hos) with h|h
     ·rw [hk.1,hk.2] at h
      have:=(ht.rel x.i (by omega)).mC h
      omega
     ·omega
  have out:∀ {k:Nat} {p:Acc},cF tr x.i p k→t.a≤k→False:=by
   intro k p ap h1
   have:=(ht.ext p.b x.i ap.1 (by omega)).n
   have:=(ht.ext x.i y.i (by omega) hn).n
   have:=ap.2.1
   rw [hy.ev.a] at h1
   omega
  unfold conflict at hc
  simp only [Bool.or_eq_true,Bool.and_eq_true,Bool.not_eq_true'] at hc
  rcases hc with (((((((hc|hc)|hc)|hc)|hc)|hc)|hc)|hc)|hc
  ·obtain ⟨k,k1,k2⟩:=ej.1 hc
   obtain ⟨p,p1,p2,p3⟩:=hs.ev.wr k k1
   obtain ⟨q,q1,q2,q3⟩:=hy.ev.rd k k2
   exact two p1 q1 p3 q3 (fun ho=>p3.DY ho p2) (.inl p2)
  ·obtain ⟨k,k1,k2⟩:=ej.1 hc
   obtain ⟨p,p1,p2,p3⟩:=hs.ev.wr k k1
   obtain ⟨q,q1,q2,q3⟩:=hy.ev.wr k k2
   exact two p1 q1 p3 q3 (fun ho=>p3.DY ho p2) (.inl p2)
  ·obtain ⟨k,k1,k2⟩:=ej.1 hc
   obtain ⟨q,q1,q2,q3⟩:=hy.ev.wr k k1
   obtain ⟨p,p1,p2,p3,p4⟩:=hs.K5 k k2
   exact two p1 q1 p3 q3 p4 (.inr q2)
  ·rw [hs.ev.call] at hc
   cases hw:t.wr with
   | nil=>rw [hw] at hc;simp at hc
   | cons k l =>
    obtain ⟨q,q1,q2,q3⟩:=hy.ev.wr k (by rw [hw];simp)
    rcases f3 with h|h
    ·rw [hc.1] at h;cases h
    ·rw [h q q1] at q2;cases q2
  ·rw [hy.ev.call] at hc
   cases hw:s.wr with
   | nil=>rw [hw] at hc;simp at hc
   | cons k l =>
    obtain ⟨p,p1,p2,p3⟩:=hs.ev.wr k (by rw [hw];simp)
    rcases f4 with h|h
    ·rw [hc.1] at h;cases h
    ·rw [h p p1] at p2;cases p2
  ·obtain ⟨k,k1,k2,k3⟩:=within_iff.1 hc
   obtain ⟨q,q1,q2,q3,q4⟩:=hy.K5 k k1
   exact inn q1 q3 q4 k2 k3
  ·obtain ⟨k,k1,k2,k3⟩:=within_iff.1 hc
   obtain ⟨q,q1,q2,q3⟩:=hy.ev.wr k k1
   exact inn q1 q3 (fun ho=>q3.DY ho q2) k2 k3
  ·obtain ⟨k,k1,k2,k3⟩:=within_iff.1 hc
   obtain ⟨p,p1,p2,p3⟩:=hs.ev.rd k k1
   exact out p3 k2
  ·obtain ⟨k,k1,k2,k3⟩:=within_iff.1 hc
   obtain ⟨p,p1,p2,p3⟩:=hs.ev.wr k k1
   exact out p3 k2
inductive oQ (tr:Nat→cx):Nat→List jW→List Ev→Prop
 | nil:oQ tr 0 [] []
 | cons {i:Nat} {x:jW} {ev:Ev} {l:List jW} {m:List Ev}:oQ tr i l m→x.i=i→wX tr x ev.t→oQ tr (i+1) (x :: l) (ev :: m)
theorem oQ.lt {tr:Nat→cx} {i:Nat} {l:List jW} {m:List Ev} (h:oQ tr i l m):∀ x ∈ l,x.i < i:=by
 induction h with
 | nil=>intro x hx;cases hx
 | cons _ hi _ ih =>
  intro y hy
  rcases List.mem_cons.1 hy with rfl|hy
  ·omega
  ·have:=ih y hy;omega
theorem oQ.snoc {tr:Nat→cx} {i:Nat} {z:cx} {l:List jW} {m:List Ev}:∀ {j:Nat},oQ tr j l m→j≤i→oQ (snoc tr i z) j l m:=by
 intro j h
 induction h with
 | nil=>intro _;exact .nil
 | cons _ hi he ih=>intro hj;exact .cons (ih (by omega)) hi (he.snoc (by omega))
theorem oQ.pairs {tr:Nat→cx} {n:Nat} (ht:oO base av tr n) {b:List Nat} {i:Nat} {l:List jW} {m:List Ev} (h:oQ tr i l m):i≤n→JH b l=true→cW T b m=true:=by
 induction h with
 | nil=>intro _ _;rfl
 | cons hl hi he ih =>
  rename_i i y ev l m
  intro hn hc
  simp only [JH,Bool.and_eq_true,List.all_eq_true] at hc
  simp only [cW,Bool.and_eq_true,List.all_eq_true]
  refine ⟨?_,ih (by omega) hc.2⟩
  have hc1:=hc.1
  clear ih hc
  have key:∀ {j:Nat} {l:List jW} {m:List Ev},oQ tr j l m→(∀ x ∈ l,(b.getD y.i 0).testBit x.i=true∨sy x y=true)→j≤y.i→∀ s ∈ m,(!conflict s.t ev.t || (b.getD ev.t.idx 0).testBit s.t.idx || spare T s ev)=true:=by
   intro j l m h
   induction h with
   | nil=>intro _ _ s hs;cases hs
   | cons hl' hi' he' ih' =>
    rename_i x ev' _ _
    intro hx hj s hs
    rcases List.mem_cons.1 hs with rfl|hs
    ·rcases hx x (by simp) with h|h
     ·rw [he.ev.idx,he'.ev.idx,h];simp
     ·rw [wZ ht he' he (by omega) (by omega) h];simp
    ·exact ih' (fun z hz=>hx z (List.mem_cons_of_mem _ hz)) (by omega) s hs
  exact key hl (fun x hx=>by simpa using hc1 x hx) (by omega)
variable {mu : Tmp → Bool} {fr : Nat → AV} {KS : aR → Prop} {rd : Bool} {dst : Option Tmp}
end
end Go.RM
namespace Go.RM
open Go
section
variable {T : bh} {tab : List XE} {one : Bool} {fl base : Nat} {E E' E2 : Env} {hp hp' hp2 : List AB} {av amb' : bw} {H H' H2 : Hp} {ρ ρ2 : Nat → Nat → Option Nat} {g g2 : az} {O O2 : Nat → Prop} {r : Rec}
theorem mI {α β:Type} (a:α) (l:List α) (f:α→Option (List β)) {x y:List β} (h1:f a=some x) (h2:aN l f=some y):aN (a :: l) f=some (x++y):=by
 cases l with
 | nil =>
  rw [iW] at h2
  cases h2
  rw [cT,h1,List.append_nil]
 | cons b l =>
  rw [eC,h1]
  simp only [h2,Option.map_some]
theorem pS {α β:Type} {a:α} {l:List α} {f:α→Option (List β)} {z:List β} (h:aN (a :: l) f=some z):∃ x y,f a=some x∧aN l f=some y∧z=x++y:=by
 cases l with
 | nil=>exact ⟨z,[],h,rfl,(List.append_nil _).symm⟩
 | cons b l =>
  rw [eC] at h
  cases hx:f a with
  | none=>rw [hx] at h;cases h
  | some x =>
   rw [hx] at h
   simp only [Option.map_eq_some_iff] at h
   obtain ⟨y,hy,rfl⟩:=h
   exact ⟨x,y,rfl,hy,rfl⟩
theorem yW {α β:Type} {f:α→Option (List β)}:∀ {a b:List α} {z:List β},aN (a++b) f=some z→∃ x y,aN a f=some x∧aN b f=some y∧z=x++y
 | [],b,z,h=>⟨[],z,rfl,h,rfl⟩
 | c :: a,b,z,h=>by
  obtain ⟨x,y,h1,h2,rfl⟩:=pS (l:=a++b) h
  obtain ⟨u,v,h3,h4,rfl⟩:=yW h2
  exact ⟨x++u,v,mI _ _ _ h1 h3,h4,(List.append_assoc _ _ _).symm⟩
theorem oR {α β γ:Type} {f:α→Option (List β)} {k:β→Option (List γ)} {h:α→Option (List γ)} (hh:∀ x N M,f x=some N→aN N k=some M→h x=some M):∀ {L0:List α} {L:List β} {M:List γ},aN L0 f=some L→aN L k=some M→aN L0 h=some M
 | [],L,M,h1,h2=>by
  rw [iW] at h1
  cases h1
  exact h2
 | a :: l,L,M,h1,h2=>by
  obtain ⟨x,y,q1,q2,rfl⟩:=pS h1
  obtain ⟨u,v,q3,q4,rfl⟩:=yW h2
  exact mI _ _ _ (hh a x u q1 q3) (oR hh q2 q4)
theorem lR {ops ops':List Oper}:∀ (l:List Oper) (st:St),(l.all fun o=>o.guard.isNone)=true→aH T r ops l st=aH T r ops' l st
 | [],_,_=>rfl
 | o :: l,st,h=>by
  rw [List.all_cons,Bool.and_eq_true] at h
  have hg:o.guard=none:=Option.isNone_iff_eq_none.1 h.1
  have e:(fun p:Value × Hp=>aH T r ops l ⟨cP st.fr o.dst p.1,p.2,st.rd⟩)=fun p=>aH T r ops' l ⟨cP st.fr o.dst p.1,p.2,st.rd⟩:=funext fun p=>lR l _ h.2
  rw [bK,bK,hg,e,lR l _ h.2]
  rfl
theorem oS {ops:List Oper}:∀ (a b:List Oper) (st:St) {L M:List St},aH T r ops a st=some L→aN L (aH T r ops b)=some M→aH T r ops (a++b) st=some M
 | [],b,st,L,M,h1,h2=>by
  rw [fR] at h1
  cases h1
  exact h2
 | o :: a,b,st,L,M,h1,h2=>by
  rw [bK] at h1
  rw [List.cons_append,bK]
  cases hg:aQ ops st.fr o.guard with
  | false =>
   rw [hg] at h1
   exact oS a b _ h1 h2
  | true =>
   rw [hg] at h1
   simp only [cond_true] at h1 ⊢
   cases ho:ee T r o.op st with
   | none=>rw [ho] at h1;cases h1
   | some L0 =>
    rw [ho] at h1
    exact oR (fun x N M q1 q2=>oS a b _ q1 q2) h1 h2
theorem w5 {f:St→Option (List St)} {ψ:Exit × St→Option (List (Exit × St))} (hψ:∀ s,ψ (.normal,s)=(f s).map (List.map fun s=>(.normal,s))):∀ {M:List St} {L:List (Exit × St)},aN (M.map fun s=>(Exit.normal,s)) ψ=some L→∃ N,aN M f=some N∧L=N.map fun s=>(.normal,s)
 | [],L,h=>by
  rw [List.map_nil,iW] at h
  cases h
  exact ⟨[],rfl,rfl⟩
 | s :: M,L,h=>by
  rw [List.map_cons] at h
  obtain ⟨x,y,q1,q2,rfl⟩:=pS h
  rw [hψ,Option.map_eq_some_iff] at q1
  obtain ⟨u,q1,rfl⟩:=q1
  obtain ⟨v,q3,rfl⟩:=w5 hψ q2
  exact ⟨u++v,mI _ _ _ q1 q3,by rw [List.map_append]⟩
theorem aC.Gy {id id1 id2:Nat} {l l1 l2:List Oper} {st:aR} {K:Exit→aR→Prop} (hl:l=l1++l2) (hg:(l.all fun o=>o.guard.isNone)=true)
  (h:aC T tab one (.seq (.region id1 l1.toArray false) (.region id2 l2.toArray false)) st K):aC T tab one (.region id l.toArray false) st K:=by
 subst hl
 intro E base s hs
 obtain ⟨m,L,h1,h2⟩:=h E base s hs
 refine ⟨m,L,?_,h2⟩
 rw [List.all_append,Bool.and_eq_true] at hg
 rw [kB,dM] at h1
 simp only [cond_false] at h1
 cases he:aH T (RX T tab m) l1 l1 s with
 | none=>rw [he] at h1;cases h1
 | some M =>
  rw [he] at h1
  obtain ⟨N,q1,rfl⟩:=w5 (f:=aH T (RX T tab m) l2 l2) (fun s=>by
   show (match _root_.cond false _ (aH T (RX T tab m) l2 l2 s) with
    | some L=>some (L.map fun s=>(Exit.normal,s))
    | none=>none)=_
   simp only [cond_false]
   cases aH T (RX T tab m) l2 l2 s <;> rfl) h1
  rw [dM]
  have:aH T (RX T tab m) (l1++l2) (l1++l2) s=some N:=by
   refine oS l1 l2 s (L:=M) ?_ ?_
   ·rw [lR l1 s hg.1,he]
   ·rw [←q1]
    congr 1
    exact funext fun s=>lR l2 s hg.2
  simp only [cond_false,this]
theorem yX (a:Nat) (l:List Nat):within a a l=false:=by
 unfold within
 rw [List.any_eq_false]
 intro k _ hk
 simp only [Bool.and_eq_true] at hk
 have h1:=Nat.le_of_ble_eq_true hk.1
 have h2:Nat.ble (k+1) a=true:=hk.2
 have h2:=Nat.le_of_ble_eq_true h2
 omega
theorem De (l:List Nat):meets l []=false:=by
 unfold meets
 rw [List.any_eq_false]
 intro k _ h
 cases h
theorem w6 (a b:Nat):within a b []=false:=rfl
end
end Go.RM
namespace Go.RM
open Go
section
variable {T : bh} {tab : List XE} {one : Bool} {fl base : Nat} {E E' E2 : Env} {hp hp' hp2 : List AB} {av amb' : bw} {H H' H2 : Hp} {ρ ρ2 : Nat → Nat → Option Nat} {g g2 : az} {O O2 : Nat → Prop} {r : Rec}
end
end Go.RM
namespace Go.RM
open Go
section
variable {T : bh} {tab : List XE} {one : Bool} {fl base : Nat} {E E' E2 : Env} {hp hp' hp2 : List AB} {av amb' : bw} {H H' H2 : Hp} {ρ ρ2 : Nat → Nat → Option Nat} {g g2 : az} {O O2 : Nat → Prop}
inductive Am where
 | pl (x:jW)
 | quiet (i:Nat)
 | span (i i0 i1:Nat)
def Am.i:Am→Nat
 | .pl x=>x.i
 | .quiet i=>i
 | .span i _ _=>i
inductive w7 (tr:Nat→cx):Am→Tc→Prop
 | pl {x:jW} {t:Tc}:wX tr x t→w7 tr (.pl x) t
 | quiet {i:Nat} {t:Tc}:t.idx=i→t.rd=[]→t.wr=[]→t.call=false→t.a=t.b→w7 tr (.quiet i) t
 | span {i i0 i1:Nat} {t:Tc}:t.idx=i→t.rd=[]→t.call=true→i0≤i→(∀ k ∈ t.wr,(tr i0).H.n≤k)→(tr i0).H.n≤t.a→t.b≤(tr i1).H.n→w7 tr (.span i i0 i1) t
theorem w7.idx {tr:Nat→cx} {x:Am} {t:Tc} (h:w7 tr x t):t.idx=x.i:=by
 cases h with
 | pl h=>exact h.ev.idx
 | quiet h=>exact h
 | span h=>exact h
def Am.top:Am→Nat
 | .pl x=>x.i+1
 | .quiet i=>i+1
 | .span i _ i1=>max (i+1) i1
theorem w7.snoc {tr:Nat→cx} {i:Nat} {z:cx} {x:Am} {t:Tc} (h:w7 tr x t) (hi:x.top≤i):w7 (snoc tr i z) x t:=by
 cases h with
 | pl h=>exact .pl (h.snoc (by have:_+1≤i:=hi;omega))
 | quiet a b c d e=>exact .quiet a b c d e
 | span a b c d f g k =>
  rename_i i' i0 i1
  have hi:max (i'+1) i1≤i:=hi
  refine .span a b c d ?_ ?_ ?_
  ·rw [cO (by omega)];exact f
  ·rw [cO (by omega)];exact g
  ·rw [cO (by omega)];exact k
def BW:Am→Am→Bool
 | .quiet _,_=>true
 | _,.quiet _=>true
 | .pl x,.pl y=>sy x y
 | .pl x,.span _ i0 _=>x.acc.all (fun p=>Nat.ble p.b i0 && !p.wr) && !x.call && !x.al
 | .span _ _ _,.pl y=>y.acc.isEmpty && !y.call && !y.al
 | .span _ _ _,.span _ _ _=>false
theorem nA {s t:Tc} (h:t.rd=[]∧t.wr=[]∧t.call=false∧t.a=t.b):conflict s t=false∧conflict t s=false:=by
 obtain ⟨h1,h2,h3,h4⟩:=h
 have mn:∀ l,meets [] l=false:=fun _=>rfl
 unfold conflict
 rw [h1,h2,h3,h4]
 constructor <;> simp [mn,De,w6,yX]
theorem Gz {tr:Nat→cx} {n:Nat} (ht:oO base av tr n) {x y:Am} {s t:Tc} (hs:w7 tr x s) (hy:w7 tr y t) (hxy:x.i < y.i) (hn:y.top≤n) (hf:BW x y=true):conflict s t=false:=by
 have emp:∀ {y:jW} {t:Tc},wX tr y t→y.acc.isEmpty=true→y.call=false→y.al=false→t.rd=[]∧t.wr=[]∧t.call=false∧t.a=t.b:=by
  intro y t h h1 h2 h3
  have h1:y.acc=[]:=List.isEmpty_iff.1 h1
  refine ⟨List.eq_nil_iff_forall_not_mem.2 fun k hk=>?_,List.eq_nil_iff_forall_not_mem.2 fun k hk=>?_,by rw [h.ev.call];exact h2,h.ev.al h3 h2⟩
  ·obtain ⟨p,hp,_⟩:=h.ev.rd k hk
   rw [h1] at hp;cases hp
  ·obtain ⟨p,hp,_⟩:=h.ev.wr k hk
   rw [h1] at hp;cases hp
 cases hs with
 | quiet a b c d e=>exact (nA ⟨b,c,d,e⟩).2
 | pl hx =>
  cases hy with
  | quiet a b c d e=>exact (nA ⟨b,c,d,e⟩).1
  | pl hy=>exact wZ ht hx hy hxy (by have:_+1≤n:=hn;omega) hf
  | span a b c d f g k =>
   rename_i x i i0 i1
   have hxy:x.i < i:=hxy
   have hn:max (i+1) i1≤n:=hn
   simp only [BW,Bool.and_eq_true,List.all_eq_true,Bool.not_eq_true'] at hf
   obtain ⟨⟨f1,f2⟩,f3⟩:=hf
   have hw:s.wr=[]:=List.eq_nil_iff_forall_not_mem.2 fun q hq=>by
    obtain ⟨p,hp,h1,_⟩:=hx.ev.wr q hq
    have:=(f1 p hp).2
    rw [h1] at this;cases this
   have hr:∀ q ∈ s.rd,q < (tr i0).H.n:=fun q hq=>by
    obtain ⟨p,hp,_,h2⟩:=hx.ev.rd q hq
    have h3:=Nat.le_of_ble_eq_true (f1 p hp).1
    have:=(ht.ext p.b i0 h3 (by omega)).n
    have:=h2.2.1
    omega
   have hc:s.call=false:=by rw [hx.ev.call];exact f2
   have hab:=hx.ev.al f3 f2
   cases hcf:conflict s t with
   | false=>rfl
   | true =>
    exfalso
    unfold conflict at hcf
    rw [hw,hc,b,hab] at hcf
    have mn:∀ l,meets [] l=false:=fun _=>rfl
    simp only [mn,w6,yX,Bool.false_and,Bool.false_or,Bool.or_false,List.isEmpty_nil,Bool.not_true,Bool.and_false,Bool.or_eq_true] at hcf
    rcases hcf with hcf|hcf
    ·obtain ⟨q,q1,q2⟩:=ej.1 hcf
     have:=f q q1
     have:=hr q q2
     omega
    ·obtain ⟨q,q1,q2,_⟩:=within_iff.1 hcf
     have:=hr q q1
     omega
 | span a b c d f g k =>
  cases hy with
  | quiet a b c d e=>exact (nA ⟨b,c,d,e⟩).1
  | pl hy =>
   simp only [BW,Bool.and_eq_true,Bool.not_eq_true'] at hf
   exact (nA (emp hy hf.1.1 hf.1.2 hf.2)).1
  | span=>cases hf
def JI (b:List Nat):List Am→Bool
 | []=>true
 | y :: l=>l.all (fun x=>(b.getD y.i 0).testBit x.i || BW x y) && JI b l
inductive nR (tr:Nat→cx) (n:Nat):Nat→List Am→List Ev→Prop
 | nil:nR tr n 0 [] []
 | cons {i:Nat} {x:Am} {ev:Ev} {l:List Am} {m:List Ev}:nR tr n i l m→x.i=i→x.top≤n→w7 tr x ev.t→nR tr n (i+1) (x :: l) (ev :: m)
theorem nR.lt {tr:Nat→cx} {n i:Nat} {l:List Am} {m:List Ev} (h:nR tr n i l m):∀ x ∈ l,x.i < i:=by
 induction h with
 | nil=>intro x hx;cases hx
 | cons _ hi _ _ ih =>
  intro y hy
  rcases List.mem_cons.1 hy with rfl|hy
  ·omega
  ·have:=ih y hy;omega
theorem nR.snoc {tr:Nat→cx} {n n':Nat} {z:cx} {i:Nat} {l:List Am} {m:List Ev} (h:nR tr n i l m) (hn:n≤n'):nR (snoc tr n z) n' i l m:=by
 induction h with
 | nil=>exact .nil
 | cons _ hi ht he ih=>exact .cons ih hi (by omega) (he.snoc ht)
theorem nR.pairs {tr:Nat→cx} {n:Nat} (ht:oO base av tr n) {b:List Nat} {i:Nat} {l:List Am} {m:List Ev} (h:nR tr n i l m):JI b l=true→cW T b m=true:=by
 induction h with
 | nil=>intro _;rfl
 | cons hl hi htop he ih =>
  rename_i i y ev l m
  intro hc
  simp only [JI,Bool.and_eq_true,List.all_eq_true] at hc
  simp only [cW,Bool.and_eq_true,List.all_eq_true]
  refine ⟨?_,ih hc.2⟩
  have hc1:=hc.1
  clear ih hc
  have key:∀ {j:Nat} {l:List Am} {m:List Ev},nR tr n j l m→(∀ x ∈ l,(b.getD y.i 0).testBit x.i=true∨BW x y=true)→j≤y.i→∀ s ∈ m,(!conflict s.t ev.t || (b.getD ev.t.idx 0).testBit s.t.idx || spare T s ev)=true:=by
   intro j l m h
   induction h with
   | nil=>intro _ _ s hs;cases hs
   | cons hl' hi' htop' he' ih' =>
    rename_i x ev' _ _
    intro hx hj s hs
    rcases List.mem_cons.1 hs with rfl|hs
    ·rcases hx x (by simp) with h|h
     ·rw [he.idx,he'.idx,h];simp
     ·rw [Gz ht he' he (by omega) htop h];simp
    ·exact ih' (fun z hz=>hx z (List.mem_cons_of_mem _ hz)) (by omega) s hs
  exact key hl (fun x hx=>by simpa using hc1 x hx) (by omega)
structure Lm (T:bh) (base:Nat) (av:bw) (tr:Nat→cx) (i:Nat) (bt:Nat→Nat) (acc:List Am) (fr:Nat→AV) (hp:List AB) (s:St) (evs:List Ev):Prop where
 ht:oO base av tr i
 h1:(tr i).hp=hp
 h2:(tr i).H=s.hp
 hb:js tr i bt fr s.fr
 he:nR tr i i acc evs
def DZ (fr:Nat→AV) (tm:Tr Value):Prop:=∀ x c,aS fr x=.fl c→aL tm x=c
theorem DZ.put {fr:Nat→AV} {tm:Tr Value} (h:DZ fr tm) {a:AV} {v:Value} (ha:∀ c,a=.fl c→v=c) (d:Option Tmp):DZ (tf fr d a) (cP tm d v):=by
 cases d with
 | none=>exact h
 | some d =>
  intro x c hx
  cases x with
  | tmp t =>
   have hx:(bif Nat.beq t d then a else fr t)=.fl c:=hx
   show ((tm.set d v).get t).getD undef=c
   rw [Tr.gn]
   rw [Tr.beq_eq] at hx
   by_cases htd:t=d
   ·rw [decide_eq_true htd] at hx
    rw [if_pos htd]
    exact ha c hx
   ·rw [decide_eq_false htd] at hx
    rw [if_neg htd]
    exact h (.tmp t) c hx
  | const w=>exact h (.const w) c hx
  | global g=>exact h (.global g) c hx
  | func f=>exact h (.func f) c hx
theorem js.flat {tr:Nat→cx} {n:Nat} {bt:Nat→Nat} {fr:Nat→AV} {tm:Tr Value} (hb:js tr n bt fr tm):DZ fr tm:=fun x c hx=>by
 have:=(hb.eval x).2
 rw [hx] at this
 exact this.eR.1
end
end Go.RM
namespace Go.RM
open Go
section
variable {T : bh} {tab : List XE} {one : Bool} {fl base : Nat} {E E' E2 : Env} {hp hp' hp2 : List AB} {av amb' : bw} {H H' H2 : Hp} {r : Rec}
end
end Go.RM
namespace Go.RM
open Go
section
variable {T : bh} {tab : List XE} {one : Bool} {base : Nat} {E E' : Env} {st st' : aR} {s s' : St} {n n' : Nat}
inductive nV where
 | e (x:Exit)
 | eK (a:AV)
def KN (E:Env) (hp:List AB) (H:Hp):jv→nV→Prop
 | .e x,y=>y=.e x
 | .eK v,y=>∃ a,y=.eK a∧AR E.ρ H.get (E.O hp) a v
def jX (E:Env) (base:Nat) (st:aR) (s:St) (K:nV→aR→Prop) (p:jv × St):Prop :=
 ∃ E' st' y,K y st'∧st'.fl=st.fl∧jD E' base st' p.2∧iK st.fl base E st.hp s.hp E' st'.hp p.2.hp∧KN E' st'.hp p.2.hp p.1 y
def ak (T:bh) (tab:List XE) (one:Bool) (n:Nat) (c:Code) (st:aR) (K:nV→aR→Prop):Prop :=
 ∀ (E:Env) (base:Nat) (s:St),jD E base st s→∃ m L,bC T (RX T tab m) (fJ T (RX T tab m) n) c s=some L∧k9 one L (jX E base st s K)
theorem tE {a:Rec}:∀ {n k:Nat},n≤k→oI (fJ T a n) (fJ T a k)
 | 0,_,_=>fun _ _ e=>by cases e
 | n+1,0,h=>by omega
 | n+1,k+1,h=>fun j L e=>Bv (fun _ _ h=>h) (tE (Nat.le_of_succ_le_succ h)) j L e
theorem ak.fuel {c:Code} {K:nV→aR→Prop} (hn:n≤n') (h:ak T tab one n c st K):ak T tab one n' c st K:=by
 intro E base s hs
 obtain ⟨m,L,h1,h2⟩:=h E base s hs
 exact ⟨m,L,mB (fun _ _ h=>h) (tE hn) _ _ _ h1,h2⟩
theorem jE {m m':Nat} (hm:m≤m') {c:Code} {s:St} {L:List (jv × St)} (h:bC T (RX T tab m) (fJ T (RX T tab m) n) c s=some L):bC T (RX T tab m') (fJ T (RX T tab m') n) c s=some L :=
 mB (dR hm) (nk (dR hm) n) _ _ _ h
theorem jX.from {K:nV→aR→Prop} {E1:Env} {uT:aR} {s1:St} {p:jv × St} (hfl:uT.fl=st.fl) (hf:iK st.fl base E st.hp s.hp E1 uT.hp s1.hp) (h:jX E1 base uT s1 K p):jX E base st s K p:=by
 obtain ⟨E',st',y,k1,k0,k2,k3,k4⟩:=h
 rw [hfl] at k3
 exact ⟨E',st',y,k1,k0.trans hfl,k2,hf.trans k3,k4⟩
theorem ak.bx {c:Code} {K:nV→aR→Prop} (hw:aj st st') (h:ak T tab one n c st' K):ak T tab one n c st K:=by
 intro E base s hs
 obtain ⟨E1,hs1,hf⟩:=hw.2 E base s hs
 obtain ⟨m,L,h1,h2,h3⟩:=h E1 base s hs1
 exact ⟨m,L,h1,h2,fun p hp=>jX.from hw.1 hf (h3 p hp)⟩
def GK (Kb:aR→Prop) (K:nV→aR→Prop) (y:nV) (s:aR):Prop :=
 match y with
 | .e .normal=>Kb s
 | y=>K y s
theorem ak.seq {a b:Code} {K:nV→aR→Prop} (h:ak T tab one n a st (GK (fun s=>ak T tab one n b s K) K)):ak T tab one n (.seq a b) st K:=by
 intro E base s hs
 obtain ⟨m0,L0,h1,h2,h3⟩:=h E base s hs
 obtain ⟨m,M,hm,q1,q2⟩:=cB (one:=one) (L:=L0) (f:=fun m (p:jv × St)=>qY (bC T (RX T tab m) (fJ T (RX T tab m) n) b) p) (P:=jX E base st s K) (fun i j x M hij hx=>by
   rcases m6 hx with ⟨e1,e2⟩|⟨e1,rfl⟩
   ·obtain ⟨z,s2⟩:=x
    simp only at e1
    subst e1
    exact jE hij e2
   ·obtain ⟨z,s2⟩:=x
    unfold qY at hx ⊢
    simp only at hx ⊢ e1) m0 h2 (fun p hp=>by
  obtain ⟨E',st',y,k1,k0,k2,k3,k4⟩:=h3 p hp
  obtain ⟨z,s'⟩:=p
  cases z with
  | eK v =>
   obtain ⟨a,rfl,ha⟩:=k4
   exact ⟨0,[(.eK v,s')],rfl,.single ⟨E',st',_,k1,k0,k2,k3,a,rfl,ha⟩⟩
  | e x =>
   obtain rfl:y=.e x:=k4
   cases x with
   | normal =>
    obtain ⟨m,M,r1,r2,r3⟩:=k1 E' base s' k2
    exact ⟨m,M,r1,r2,fun q hq=>jX.from k0 k3 (r3 q hq)⟩
   | _=>exact ⟨0,[(_,s')],rfl,.single ⟨E',st',_,k1,k0,k2,k3,rfl⟩⟩)
 refine ⟨m,M,?_,q2⟩
 rw [iZ,jE hm h1]
 exact q1
theorem ak.cond {c:Operand} {a b:Code} {K:nV→aR→Prop} {t:Bool} (hc:aS st.fr c=.fl (.bool t)) (h1:t=true→ak T tab one n a st K) (h2:t=false→ak T tab one n b st K):ak T tab one n (.cond c a b) st K:=by
 intro E base s hs
 have:=gR hs.fr c
 rw [hc] at this
 have hv:=this.eR.1
 cases t with
 | true =>
  obtain ⟨m,L,q1,q2⟩:=h1 rfl E base s hs
  exact ⟨m,L,by rw [gX,hv];exact q1,q2⟩
 | false =>
  obtain ⟨m,L,q1,q2⟩:=h2 rfl E base s hs
  exact ⟨m,L,by rw [gX,hv];exact q1,q2⟩
def D9 (id:Nat) (K:nV→aR→Prop) (y:nV) (s:aR):Prop :=
 match y with
 | .e (.exit id')=>bif Nat.beq id' id then K (.e .normal) s else K (.e (.exit id')) s
 | y=>K y s
theorem ak.block {id:Nat} {c:Code} {K:nV→aR→Prop} (h:ak T tab one n c st (D9 id K)):ak T tab one n (.block id c) st K:=by
 intro E base s hs
 obtain ⟨m,L,q1,q2,q3⟩:=h E base s hs
 refine ⟨m,L.map (fq id),by rw [iC,q1],fun h1=>?_,fun p hp=>?_⟩
 ·obtain ⟨p,hp⟩:=q2 h1
  exact ⟨_,by rw [hp];rfl⟩
 ·obtain ⟨p0,hm,rfl⟩:=List.mem_map.1 hp
  obtain ⟨E',st',y,k1,k0,k2,k3,k4⟩:=q3 p0 hm
  obtain ⟨z,s'⟩:=p0
  cases z with
  | eK v =>
   obtain ⟨a,rfl,ha⟩:=k4
   exact ⟨E',st',_,k1,k0,k2,k3,a,rfl,ha⟩
  | e x =>
   obtain rfl:y=.e x:=k4
   unfold D9 at k1
   cases x with
   | exit id' =>
    simp only at k1
    unfold fq
    simp only
    cases hb:Nat.beq id' id with
    | true=>rw [hb] at k1;exact ⟨E',st',_,k1,k0,k2,k3,rfl⟩
    | false=>rw [hb] at k1;exact ⟨E',st',_,k1,k0,k2,k3,rfl⟩
   | _=>exact ⟨E',st',_,k1,k0,k2,k3,rfl⟩
theorem ak.here {c:Code} {e:Exit} {K:nV→aR→Prop} (hc:∀ rec recP s,bC T rec recP c s=some [(.e e,s)]) (h:K (.e e) st):ak T tab one n c st K :=
 fun E _ s hs=>⟨0,[(.e e,s)],hc _ _ s,.single ⟨E,st,_,h,rfl,hs,.refl,rfl⟩⟩
def uy (T:bh) (tab:List XE):Prop:=∀ g fn,T.Ct.get g=some fn→T.fn.get g=none∧T.Cw.get g=none∧noEntry tab g=true
theorem JK (hT:uy T tab) {g:FuncId} {fn:Func} (hg:T.Ct.get g=some fn) (args:List Value) (H:Hp):∀ m,RX T tab m (.call g args H)=none
 | 0=>by
  obtain ⟨_,_,h3⟩:=hT g fn hg
  show (match look tab g args H with
   | some (v,H')=>some [eV.ret v H']
   | none=>uO tab T 0 (.call g args H))=none
  rw [jd _ _ h3]
  rfl
 | m+1=>by
  obtain ⟨h1,h2,h3⟩:=hT g fn hg
  rw [rX,jd _ _ h3]
  simp only
  rw [gQ,h1]
  simp only
  unfold nK
  rw [h2]
theorem Ik (hT:uy T tab) {m:Nat} {recP:mS→Option (List dJ)} {o:Op} {st:St} {M:List (Value × Hp)} (h:ee T (RX T tab m) o st=some M):eL T (RX T tab m) recP o st=some (M.map fun p=>.ret p.1 p.2):=by
 unfold eL
 split
 ·rename_i x hx
  unfold lu at hx
  split at hx
  ·cases h
  ·cases hx
 ·split
  ·rename_i g as hg
   obtain ⟨f,args,hk,hgo⟩:=rH hg
   have hp:∃ fn,T.Ct.get g=some fn:=by
    unfold mT at hg
    rw [hk] at hg
    simp only at hg
    rw [hgo] at hg
    simp only at hg
    cases hq:T.Ct.get g with
    | none=>rw [hq] at hg;cases hg
    | some fn=>exact ⟨fn,rfl⟩
   obtain ⟨fn,hp⟩:=hp
   unfold ee at h
   rw [hk] at h
   simp only at h
   rw [hgo] at h
   simp only at h
   have:=JK hT hp as st.hp m
   rw [show jT st.hp (.fn g as)=.call g as st.hp from rfl,this] at h
   cases h
  ·rw [h]
   rfl
theorem pT {α β γ:Type} (f:α→β) (g:β→Option (List γ)):∀ L:List α,aN (L.map f) g=aN L fun x=>g (f x)
 | []=>rfl
 | [_]=>rfl
 | a :: b :: l=>by
  have ih:=pT f g (b :: l)
  rw [List.map_cons,List.map_cons,eC,eC]
  rw [List.map_cons] at ih
  rw [ih]
theorem qM {α β γ:Type} {f:α→Option (List β)} {g:α→Option (List γ)} (k:β→γ) (h:∀ x M,f x=some M→g x=some (M.map k)):∀ {L:List α} {M:List β},aN L f=some M→aN L g=some (M.map k)
 | [],M,e=>by rw [iW] at e ⊢;cases e;rfl
 | [x],M,e=>by rw [cT] at e ⊢;exact h _ _ e
 | x :: y :: l,M,e=>by
  rw [eC] at e ⊢
  cases hx:f x with
  | none=>rw [hx] at e;cases e
  | some X =>
   rw [hx] at e
   simp only [Option.map_eq_some_iff] at e
   obtain ⟨Y,hY,rfl⟩:=e
   rw [h _ _ hx]
   simp only [qM k h hY,Option.map_some,List.map_append]
theorem tF (hT:uy T tab) {m:Nat} {recP:mS→Option (List dJ)} (ops:List Oper):∀ (l:List Oper) (st:St) (L:List St),aH T (RX T tab m) ops l st=some L→aI T (RX T tab m) recP ops l st=some (L.map fun s=>(none,s)):=by
 intro l
 induction l with
 | nil=>intro st L h;rw [fR] at h;cases h;rfl
 | cons o l ih =>
  intro st L h
  rw [bK] at h
  rw [cq]
  cases hg:aQ ops st.fr o.guard with
  | false=>rw [hg] at h;exact ih ⟨cP st.fr o.dst undef,st.hp,st.rd⟩ L h
  | true =>
   rw [hg] at h
   simp only [cond_true] at h ⊢
   cases ha:ee T (RX T tab m) o.op st with
   | none=>rw [ha] at h;cases h
   | some A =>
    rw [ha] at h
    rw [Ik hT ha]
    simp only at h ⊢
    rw [pT]
    exact qM _ (fun p M hp=>ih _ _ hp) h
theorem ak.ops (hT:uy T tab) {id:Nat} {ops:Array Oper} {mu:Tmp→Bool} {K:nV→aR→Prop} (h:wpOps T tab one mu ops.toList ops.toList st (K (.e .normal))):ak T tab one n (.region id ops false) st K:=by
 intro E base s hs
 obtain ⟨m,L,q1,q2,q3⟩:=fX h hs
 refine ⟨m,(L.map fun s=>((none:Option Value),s)).map eX,by rw [cr];simp only [cond_false,tF hT _ _ _ _ q1],fun h1=>?_,fun p hp=>?_⟩
 ·obtain ⟨p,hp⟩:=q2 h1
  exact ⟨_,by rw [hp];rfl⟩
 ·obtain ⟨q,hq,rfl⟩:=List.mem_map.1 hp
  obtain ⟨s',hm,rfl⟩:=List.mem_map.1 hq
  obtain ⟨E',st',k1,k0,k2,k3⟩:=q3 s' hm
  exact ⟨E',st',.e .normal,k1,k0,k2,k3,rfl⟩
def JL {σ:Type} (P:σ→Prop) (I:σ→aR) (mz:σ→Nat) (K:nV→aR→Prop) (x:σ) (y:nV) (s:aR):Prop :=
 match y with
 | .e .normal=>∃ z,P z∧mz z < mz x∧aj s (I z)
 | y=>K y s
theorem ak.loop {σ:Type} {body:Code} {K:nV→aR→Prop} (P:σ→Prop) (I:σ→aR) (mz:σ→Nat) (h:∀ x,P x→ak T tab one n body (I x) (JL P I mz K x)) (x:σ) (hx:P x):ak T tab one (n+mz x+1) (.loop body) (I x) K:=by
 have key:∀ (k:Nat) (x:σ),P x→mz x < k→∀ (E:Env) (base:Nat) (s:St),jD E base (I x) s→∃ m L,fJ T (RX T tab m) (n+k) (.loop body s)=some L∧k9 one L fun r=>∃ q:jv × St,r=.out q.1 q.2∧jX E base (I x) s K q:=by
  intro k
  induction k with
  | zero=>intro x _ hx;omega
  | succ k ih =>
   intro x hP hx E base s hs
   obtain ⟨k0,L0,h1,h2,h3⟩:=(h x hP).fuel (Nat.le_add_right n k) E base s hs
   obtain ⟨m,M,hk,q1,q2⟩:=cB (one:=one) (L:=L0) (f:=fun m (p:jv × St)=>fO (fJ T (RX T tab m) (n+k)) body p) (P:=fun r=>∃ q:jv × St,r=.out q.1 q.2∧jX E base (I x) s K q) (fun a b p M hab hp=>by
     obtain ⟨z,s2⟩:=p
     unfold fO at hp ⊢
     simp only at hp ⊢
     split at hp
     ·exact nk (dR hab) _ _ _ hp
     ·exact hp) k0 h2 (fun p hp=>by
    obtain ⟨E',st',y,k1,kf,k2,k3,k4⟩:=h3 p hp
    obtain ⟨z,s'⟩:=p
    cases z with
    | eK v =>
     obtain ⟨a,rfl,ha⟩:=k4
     exact ⟨0,[.out (.eK v) s'],rfl,.single ⟨(.eK v,s'),rfl,E',st',_,k1,kf,k2,k3,a,rfl,ha⟩⟩
    | e e =>
     obtain rfl:y=.e e:=k4
     cases e with
     | normal =>
      obtain ⟨z,hPz,hz,hw⟩:=k1
      obtain ⟨E1,hs1,hf1⟩:=hw.2 E' base s' k2
      obtain ⟨m,L,r1,r2,r3⟩:=ih z hPz (by omega) E1 base s' hs1
      refine ⟨m,L,r1,r2,fun r hr=>?_⟩
      obtain ⟨q,rfl,hq⟩:=r3 r hr
      rw [kf] at hf1
      exact ⟨q,rfl,jX.from (hw.1.trans kf) (k3.trans hf1) hq⟩
     | _=>exact ⟨0,[.out (.e _) s'],rfl,.single ⟨(.e _,s'),rfl,E',st',_,k1,kf,k2,k3,rfl⟩⟩)
   refine ⟨m,M,?_,q2⟩
   show jU T (RX T tab m) (fJ T (RX T tab m) (n+k)) (.loop body s)=_
   unfold jU
   simp only [jE hk h1]
   exact q1
 intro E base s hs
 obtain ⟨m,L,h1,h2,h3⟩:=key (mz x+1) x hx (Nat.lt_succ_self _) E base s hs
 obtain ⟨m',M,hm,q1,q2⟩:=cB (one:=one) (L:=L) (f:=fun _ (r:dJ)=>zx r) (P:=jX E base (I x) s K) (fun _ _ _ _ _ h=>h) m h2 (fun r hr=>by
  obtain ⟨q,rfl,hq⟩:=h3 r hr
  exact ⟨0,_,rfl,.single hq⟩)
 refine ⟨m',M,?_,q2⟩
 rw [lD,show n+mz x+1=n+(mz x+1) from rfl,nk (dR hm) _ _ _ h1]
 exact q1
inductive xh where
 | ret (a:AV)
 | eK (a:AV)
def JM (E:Env) (hp:List AB):dJ→xh→Prop
 | .ret v H,y=>∃ a,y=.ret a∧AR E.ρ H.get (E.O hp) a v
 | .eK v H,y=>∃ a,y=.eK a∧AR E.ρ H.get (E.O hp) a v
 | .out ..,_=>False
def di (T:bh) (tab:List XE) (one:Bool) (n:Nat) (F:AV) (args:List AV) (hp:List AB) (av:bw) (Q:xh→List AB→bw→Prop):Prop :=
 ∀ (E:Env) (base:Nat) (H:Hp) (u:Value) (us:List Value),aK E base hp av H→AR E.ρ H.get (E.O hp) F u→fh E.ρ H.get (E.O hp) args us→∃ g as fn,bQ u us=some (.fn g as)∧T.Ct.get g=some fn ∧
  ∃ m L,fJ T (RX T tab m) n (.call g as H)=some L∧(one=true→∃ r,L=[r])∧∀ r ∈ L,∃ E' y hp' amb',Q y hp' amb'∧aK E' base hp' amb' r.hp∧JM E' hp' r y∧iK hp.length base E hp H E' hp' r.hp
def KO (T:bh) (rs:List ResultVar) (Q:xh→List AB→bw→Prop) (y:nV) (st:aR):Prop :=
 match y with
 | .e .normal=>ij T st rs fun as=>Q (.ret (l6 as)) st.hp st.av
 | .e .ret=>ij T st rs fun as=>Q (.ret (l6 as)) st.hp st.av
 | .eK a=>Q (.eK a) st.hp st.av
 | _=>False
theorem di.body {hp:List AB} {av:bw} {f:FuncId} {fn:Func} {c:Code} {first caps args:List AV} {Q:xh→List AB→bw→Prop} (hf:T.Ct.get f=some fn) (hb:fn.body=some c)
  (hw:ak T tab one n c ⟨uh (first++args++caps),hp,av,false,hp.length⟩ (KO T fn.results.toList Q)):di T tab one (n+1) (.fn f first caps) args hp av Q:=by
 intro E base H u us hr hF ha
 obtain ⟨fs,cs,rfl,h1,h2⟩:∃ fs cs,u=.func (.func f) fs cs∧fh E.ρ H.get (E.O hp) first fs.toList∧fh E.ρ H.get (E.O hp) caps cs.toList:=by
  cases hF with
  | d h=>cases h with
   | fn ha hb h1 h2=>exact ⟨_,_,rfl,⟨ha,fun i x u hx hu=>.d (h1 i x u hx hu)⟩,⟨hb,fun i x u hx hu=>.d (h2 i x u hx hu)⟩⟩
  | fn ha hb h1 h2=>exact ⟨_,_,rfl,⟨ha,h1⟩,⟨hb,h2⟩⟩
 refine ⟨f,fs.toList++us++cs.toList,fn,rfl,hf,?_⟩
 have hargs:=(h1.append ha).append h2
 obtain ⟨m,L,h1,h2,h3⟩:=hw E base ⟨setArgs .leaf 0 (fs.toList++us++cs.toList),H,false⟩ ⟨hr,rfl,mG hargs⟩
 obtain ⟨m',M,hm,q1,q2,q3⟩:=cB (one:=one) (L:=L) (f:=fun _ (p:jv × St)=>jw T fn.results.toList p)
  (P:=fun r=>∃ E' y hp' amb',Q y hp' amb'∧aK E' base hp' amb' r.hp∧JM E' hp' r y∧iK hp.length base E hp H E' hp' r.hp)
  (fun _ _ _ _ _ h=>h) m h2 (fun p hp'=>by
   obtain ⟨E',st',y,k1,k0,k2,k3,k4⟩:=h3 p hp'
   obtain ⟨z,s'⟩:=p
   cases z with
   | eK v =>
    obtain ⟨a,rfl,hav⟩:=k4
    exact ⟨0,[.eK v s'.hp],rfl,.single ⟨E',.eK a,st'.hp,st'.av,k1,k2.h,⟨a,rfl,hav⟩,k3⟩⟩
   | e x =>
    obtain rfl:y=.e x:=k4
    have done:(x=.normal∨x=.ret)→(ij T st' fn.results.toList fun as=>Q (.ret (l6 as)) st'.hp st'.av)→∃ (_:Nat) (M:List dJ),jw T fn.results.toList (.e x,s')=some M ∧
      k9 one M fun r=>∃ E' y hp' amb',Q y hp' amb'∧aK E' base hp' amb' r.hp∧JM E' hp' r y∧iK hp.length base E hp H E' hp' r.hp:=by
     intro he hr
     obtain ⟨ws,as,r1,r2,r4⟩:=iq k2 hr
     refine ⟨0,[.ret (aW ws) s'.hp],?_,.single ⟨E',.ret (l6 as),st'.hp,st'.av,r2,k2.h,⟨l6 as,rfl,Al r4⟩,k3⟩⟩
     unfold jw
     rcases he with rfl|rfl <;> simp only [r1,Option.map_some]
    cases x with
    | normal=>exact done (.inl rfl) k1
    | ret=>exact done (.inr rfl) k1
    | _=>exact k1.elim)
 refine ⟨m',M,?_,q2,q3⟩
 show jU T (RX T tab m') (fJ T (RX T tab m') n) (.call f _ H)=_
 unfold jU
 simp only [hf,hb,jE hm h1]
 exact q1
theorem ak.JN {id:Nat} {dst:Option Tmp} {x:Operand} {ty:TypeId} {pos:String} {after:Array Edge} {K:nV→aR→Prop} {t:TypeId} {v:Value} (hx:aS st.fr x=.fl (.iface t v)) (hk:K (.eK (.fl (.iface t v))) st) :
  ak T tab one n (.region id #[⟨dst,.panic x,ty,pos,after,none⟩] false) st K:=by
 intro E base s hs
 have h1:=gR hs.fr x
 have h2:=h1
 rw [hx] at h1
 have hv:aL s.fr x=.iface t v:=h1.eR.1
 refine ⟨0,[(.eK (.iface t v),⟨s.fr,s.hp,s.rd⟩)],?_,.single ⟨E,st,.eK (.fl (.iface t v)),hk,rfl,hs,.refl,_,rfl,by rw [hx,hv] at h2;exact h2⟩⟩
 rw [cr]
 simp only [cond_false]
 show (match aI T (RX T tab 0) (fJ T (RX T tab 0) n) [⟨dst,.panic x,ty,pos,after,none⟩] [⟨dst,.panic x,ty,pos,after,none⟩] s with
  | some L=>some (L.map eX)
  | none=>none)=_
 have he:aI T (RX T tab 0) (fJ T (RX T tab 0) n) [⟨dst,.panic x,ty,pos,after,none⟩] [⟨dst,.panic x,ty,pos,after,none⟩] s=some [(some (.iface t v),⟨s.fr,s.hp,s.rd⟩)]:=by
  rw [cq]
  show _root_.cond true _ _=_
  have ha:eL T (RX T tab 0) (fJ T (RX T tab 0) n) (.panic x) s=some [.eK (.iface t v) s.hp]:=by
   unfold eL
   rw [show lu (.panic x)=some x from rfl]
   simp only
   rw [hv]
   rfl
  simp only [cond_true,ha]
  rfl
 rw [he]
 rfl
def GM (k:St→Option (List (Option Value × St))) (p:Option Value × St):Option (List (Option Value × St)) :=
 match p.1 with
 | none=>k p.2
 | some v=>some [(some v,p.2)]
theorem nC {rec:Rec} {recP:mS→Option (List dJ)} {ops ops':List Oper}:∀ (l:List Oper),(l.all fun o=>o.guard.isNone)=true→∀ st,aI T rec recP ops l st=aI T rec recP ops' l st
 | [],_,_=>rfl
 | o :: l,h,st=>by
  simp only [List.all_cons,Bool.and_eq_true] at h
  have hg:o.guard=none:=by simpa using h.1
  rw [cq,cq,hg]
  show _root_.cond true _ _=_root_.cond true _ _
  simp only [cond_true]
  have:aI T rec recP ops l=aI T rec recP ops' l:=funext fun s=>nC l h.2 s
  rw [this]
theorem kr {rec:Rec} {recP:mS→Option (List dJ)} {ops:List Oper}:∀ (a b:List Oper) (st:St) {L M:List (Option Value × St)},aI T rec recP ops a st=some L→aN L (GM (aI T rec recP ops b))=some M→aI T rec recP ops (a++b) st=some M
 | [],b,st,L,M,h1,h2=>by
  rw [j9] at h1
  cases h1
  exact h2
 | o :: a,b,st,L,M,h1,h2=>by
  rw [cq] at h1
  rw [List.cons_append,cq]
  cases hg:aQ ops st.fr o.guard with
  | false =>
   rw [hg] at h1
   exact kr a b _ h1 h2
  | true =>
   rw [hg] at h1
   simp only [cond_true] at h1 ⊢
   cases ho:eL T rec recP o.op st with
   | none=>rw [ho] at h1;cases h1
   | some L0 =>
    rw [ho] at h1
    refine oR (fun x N M q1 q2=>?_) h1 h2
    rcases oA q1 with ⟨v,h3,rfl,h4⟩|⟨v,h3,rfl,rfl⟩
    ·exact kr a b _ h4 q2
    ·exact q2
theorem y8 {k:St→Option (List (Option Value × St))} {ψ:jv × St→Option (List (jv × St))} (h1:∀ s,ψ (.e .normal,s)=(k s).map (List.map eX)) (h2:∀ v s,ψ (.eK v,s)=some [(.eK v,s)]):∀ {M:List (Option Value × St)} {L:List (jv × St)},aN (M.map eX) ψ=some L→∃ N,aN M (GM k)=some N∧L=N.map eX
 | [],L,h=>by
  rw [List.map_nil,iW] at h
  cases h
  exact ⟨[],rfl,rfl⟩
 | p :: M,L,h=>by
  rw [List.map_cons] at h
  obtain ⟨x,y,q1,q2,rfl⟩:=pS h
  obtain ⟨v,q3,rfl⟩:=y8 h1 h2 q2
  obtain ⟨z,s⟩:=p
  cases z with
  | none =>
   rw [show eX (none,s)=(.e .normal,s) from rfl,h1,Option.map_eq_some_iff] at q1
   obtain ⟨u,q1,rfl⟩:=q1
   exact ⟨u++v,mI _ _ _ q1 q3,by rw [List.map_append]⟩
  | some w =>
   rw [show eX (some w,s)=(.eK w,s) from rfl,h2] at q1
   cases q1
   exact ⟨[(some w,s)]++v,mI _ _ _ rfl q3,by rw [List.map_append];rfl⟩
theorem ak.Gy {id id1 id2:Nat} {l l1 l2:List Oper} {K:nV→aR→Prop} (hl:l=l1++l2) (hg:(l.all fun o=>o.guard.isNone)=true)
  (h:ak T tab one n (.seq (.region id1 l1.toArray false) (.region id2 l2.toArray false)) st K):ak T tab one n (.region id l.toArray false) st K:=by
 subst hl
 intro E base s hs
 obtain ⟨m,L,h1,h2⟩:=h E base s hs
 refine ⟨m,L,?_,h2⟩
 rw [List.all_append,Bool.and_eq_true] at hg
 rw [iZ,cr] at h1
 simp only [cond_false] at h1
 cases he:aI T (RX T tab m) (fJ T (RX T tab m) n) l1 l1 s with
 | none=>rw [he] at h1;cases h1
 | some M =>
  rw [he] at h1
  obtain ⟨N,q1,rfl⟩:=y8 (k:=aI T (RX T tab m) (fJ T (RX T tab m) n) l2 l2) (fun s=>by
   show (match aI T (RX T tab m) (fJ T (RX T tab m) n) l2 l2 s with
    | some L=>some (L.map eX)
    | none=>none)=_
   cases aI T (RX T tab m) (fJ T (RX T tab m) n) l2 l2 s <;> rfl) (fun v s=>rfl) h1
  rw [cr]
  have:aI T (RX T tab m) (fJ T (RX T tab m) n) (l1++l2) (l1++l2) s=some N:=by
   refine kr l1 l2 s (L:=M) ?_ ?_
   ·rw [nC (ops':=l1) l1 hg.1,he]
   ·rw [←q1]
    congr 1
    exact congrArg GM (funext fun s=>nC l2 hg.2 s)
  simp only [cond_false,this]
theorem ak.draw {id:Nat} {ops:Array Oper} {K:nV→aR→Prop} (hno:qZ T ops=none) (h:aC T tab one (.region id ops true) st fun e s=>K (.e e) s):ak T tab one n (.region id ops true) st K:=by
 intro E base s hs
 obtain ⟨m,L,q1,q2,q3⟩:=h E base s hs
 rw [dM] at q1
 simp only [cond_true] at q1
 cases hd:cm T (RX T tab m) ops s with
 | none=>rw [hd] at q1;cases q1
 | some M =>
  rw [hd] at q1
  simp only [Option.some.injEq] at q1
  subst q1
  refine ⟨m,M.map fun s=>(.e .normal,s),by
   rw [cr]
   unfold cz
   simp only [cond_true,hno,hd,List.map_map]
   rfl,fun h1=>?_,fun p hp=>?_⟩
  ·obtain ⟨p,hp⟩:=q2 h1
   cases M with
   | nil=>cases hp
   | cons a l =>
    cases l with
    | nil=>exact ⟨_,rfl⟩
    | cons b l=>cases hp
  ·obtain ⟨s',hm,rfl⟩:=List.mem_map.1 hp
   obtain ⟨E',st',k1,k0,k2,k3⟩:=q3 (.normal,s') (List.mem_map.2 ⟨s',hm,rfl⟩)
   exact ⟨E',st',.e .normal,k1,k0,k2,k3,rfl⟩
end
end Go.RM
