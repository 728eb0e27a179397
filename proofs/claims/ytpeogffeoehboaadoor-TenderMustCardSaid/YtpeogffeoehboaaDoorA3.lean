/-
  A layer of contracts over the abstract machine. Lemmas alone; no condition.
-/
import Derived.Test.YtpeogffeoehboaaDoorA1
import Derived.Test.YtpeogffeoehboaaDoorA2
import Derived.IntWalk
namespace Go.RM
open Go
section
variable {T : bz} {tab : List XE} {one : Bool} {fl base base1 : Nat} {E E' E1 E2 E4 : Env} {hp hp' hp1 hp2 hp4 : List AB} {aE amb' amb4 : bG} {H H' H1 H2 H4 : Hp} {ρ ρ' : Nat → Nat → Option Nat} {g g' : aH} {O O' : Nat → Prop}
theorem BR.mono {b:AB} {b':bg} (h:BR ρ g O b b') (hr:∀ j v k,ρ j v=some k→ρ' j v=some k) (hg:∀ k b,g k=some b→¬ O k→g' k=some b∧¬ O' k):BR ρ' g' O' b b':=by
 cases b with
 | cells cs es aB=>obtain ⟨cs',rfl,h⟩:=h;exact ⟨cs',rfl,h.mono hr hg⟩
 | dy s p=>exact h
 | map aI clock =>
  obtain ⟨es,rfl,h1,h2⟩:=h
  exact ⟨es,rfl,h1,fun i k v born x hx hy=>⟨(h2 i k v born x hx hy).1.mono hr hg,(h2 i k v born x hx hy).2.1.mono hr hg,(h2 i k v born x hx hy).2.2⟩⟩
 | iter j since seen stepped=>obtain ⟨m,rfl,h⟩:=h;exact ⟨m,rfl,hr _ _ _ h⟩
 | gone=>exact h
theorem aQ.view (h:aQ E base hp aE H) {X':Nat→Prop} (hwf:Wf H1) (hn:H.n≤H1.n) (hX:∀ k,E.X k→X' k) (hX2:∀ k,X' k→E.X k∨H.n≤k) (hXn:∀ k,X' k→k < H1.n)
  (heq:∀ k,k < H.n→(¬ E.X k∨E.S k)→H1.get k=H.get k) (hb:∀ k,Own E.ρ hp k∨E.D k→base1≤k) (hbn:base1≤H1.n):aQ {E with X:=X'} base1 hp aE H1:=by
 have keep:∀ k b,H.get k=some b→¬ E.O hp k→H1.get k=some b∧¬ ({E with X:=X'}:Env).O hp k:=fun k b hk ho=>by
  have hlt:=h.wf.lt hk
  refine ⟨by rw [heq k hlt (.inl fun hx=>ho (.inr hx))];exact hk,fun ho'=>?_⟩
  rcases ho' with h1|h1
  ·exact ho (.inl h1)
  ·rcases hX2 k h1 with h2|h2
   ·exact ho (.inr h2)
   ·omega
 refine ⟨hwf,fun j x aB hj hv=>?_,h.inj,fun j v k hk=>Nat.lt_of_lt_of_le (h.rn j v k hk) hn,h.fresh,h.new,h.sup,fun k hk hx=>?_,fun k hd=>hX k (h.dx k hd),h.ds,fun k hk=>Nat.lt_of_lt_of_le (h.sn k hk) hn,hXn,hb,hbn,aE.st h.aE (fun k hk=>heq k (h.sn k hk) (.inr hk)) hn⟩
 ·rcases h.fU j x aB hj hv with ⟨k,b',q1,q2,q3⟩|q
  ·have hok:Own E.ρ hp k:=⟨j,x,aB,hj,hv,q1⟩
   exact .inl ⟨k,b',q1,by rw [heq k (h.wf.lt q2) (.inl (h.gZ k hok))];exact q2,q3.mono (fun _ _ _ h=>h) keep⟩
  ·exact .inr q
 ·rcases hX2 k hx with h2|h2
  ·exact h.gZ k hk h2
  ·have:=h.iV hk;omega
theorem aQ.JS (h:aQ E base hp aE H):aQ E 0 hp aE H:={h with nJ:=fun _ _=>Nat.zero_le _,bn:=Nat.zero_le _}
theorem jL.JS (h:jL fl base E hp H E' hp' H'):jL fl 0 E hp H E' hp' H':={h with lo:=by omega}
def JT (fl0:Nat) (E0:Env) (hp0:List AB) (H0:Hp) (fU:bg) (Q:List AB→bG→Prop):bG where
 P D S g n:=(∀ k,k≤H0.n→S k)∧g H0.n=some fU∧∃ (E':Env) (b':Nat) (hp':List AB) (amb':bG) (H':Hp),Q hp' amb'∧aQ E' b' hp' amb' H'∧jL fl0 0 E0 hp0 H0 E' hp' H'∧H'.n≤n∧(E'.X H0.n∧¬ E'.S H0.n) ∧
  (∀ k,k < H'.n→S k∨E'.X k)∧(∀ k,E'.S k→S k)∧(∀ k,S k→k ≠ H0.n→g k=H'.get k)∧(∀ k,Own E'.ρ hp' k∨E'.D k∨k=H0.n→D k)
 st:=by
  rintro D S g g' n n' ⟨h1,h2,E',b',hp',amb',H',q1,q2,q3,q4,q5,q6,q7,q8,q9⟩ hs hn
  exact ⟨h1,by rw [hs _ (h1 _ (Nat.le_refl _))];exact h2,E',b',hp',amb',H',q1,q2,q3,Nat.le_trans q4 hn,q5,q6,q7,fun k hk hne=>by rw [hs k hk];exact q8 k hk hne,q9⟩
theorem Ge {fl0:Nat} {E0:Env} {hp0:List AB} {H0:Hp} {fU blk' b0:bg} {Q Q':List AB→bG→Prop} (hr:aQ E1 base1 hp (JT fl0 E0 hp0 H0 fU Q) H)
  (hX:∀ k,k < H.n→E1.S k∨E.X k) (hXl:E.X H0.n) (hSl:¬ E.S H0.n) (hS:∀ k,E.S k→E1.S k) (hD:∀ k,Own E.ρ hp1 k∨E.D k∨k=H0.n→E1.D k) (hlow:∀ k,k≤H0.n→E1.S k)
  (f0:jL fl0 0 E0 hp0 H0 E hp1 H) (h4:aQ E4 base1 hp4 amb4 H4) (F:jL fl0 base1 E hp1 (H.put H0.n b0) E4 hp4 H4) (hQ:Q' hp4 amb4) :
  ∃ E5,aQ E5 base1 hp (JT fl0 E0 hp0 H0 blk' Q') (H4.put H0.n blk')∧jL hp.length base1 E1 hp H E5 hp (H4.put H0.n blk'):=by
 have hln:H0.n < H.n:=hr.sn _ (hlow _ (Nat.le_refl _))
 have hn:H.n≤H4.n:=F.n
 have hD1:E1.D H0.n:=hD _ (.inr (.inr rfl))
 have same:∀ k,k < H.n→¬ E1.D k→(H4.put H0.n blk').get k=H.get k:=fun k hk hd=>by
  have hne:k ≠ H0.n:=fun e=>hd (e ▸ hD1)
  rw [bN hne,F.same k hk (fun h=>hd (hD k (.inl h))) (fun h=>hd (hD k (.inr (.inl h)))),bN hne]
 let X':Nat→Prop:=fun k=>E1.X k∨(H.n≤k∧k < H4.n)
 let S':Nat→Prop:=fun k=>E1.S k∨(H.n≤k∧k < H4.n)
 let D':Nat→Prop:=fun k=>E1.D k∨(H.n≤k∧(Own E4.ρ hp4 k∨E4.D k))
 have hnew:∀ k,Own E4.ρ hp4 k∨E4.D k→k < H4.n:=fun k h=>h.elim (fun h=>h4.iV h) (fun h=>h4.sn k (h4.ds k h))
 have keep:∀ k b,H.get k=some b→¬ E1.O hp k→(H4.put H0.n blk').get k=some b∧¬ (⟨E1.ρ,D',S',X'⟩:Env).O hp k:=fun k b hk ho=>by
  have hlt:=hr.wf.lt hk
  refine ⟨by rw [same k hlt (fun hd=>ho (.inr (hr.dx k hd)))];exact hk,fun ho'=>?_⟩
  rcases ho' with h1|h1|h1
  ·exact ho (.inl h1)
  ·exact ho (.inr h1)
  ·omega
 refine ⟨⟨E1.ρ,D',S',X'⟩,⟨fun k hk=>?_,fun j x aB hj hv=>?_,hr.inj,fun j v k hk=>Nat.lt_of_lt_of_le (hr.rn j v k hk) hn,hr.fresh,hr.new,fun k hk hs=>?_,fun k hk hx=>?_,fun k hd=>?_,fun k hd=>?_,fun k hs=>?_,fun k hx=>?_,fun k hd=>?_,Nat.le_trans hr.bn hn,?_⟩,
  ⟨hn,fun _ _ _ _ h=>h,fun k hk=>.inl hk,fun k hd=>hd.imp id And.left,fun k hd=>hd.imp id And.left,fun k hx=>.inl hx,fun k hd=>hd.imp id And.left,fun k hk _ hd=>same k hk hd,?_⟩⟩
 ·have hk:H4.n≤k:=hk
  rw [bN (by omega)];exact h4.wf k hk
 ·rcases hr.fU j x aB hj hv with ⟨k,b',q1,q2,q3⟩|q
  ·have hok:Own E1.ρ hp k:=⟨j,x,aB,hj,hv,q1⟩
   exact .inl ⟨k,b',q1,by rw [same k (hr.wf.lt q2) (fun hd=>hr.gZ k hok (hr.dx k hd))];exact q2,q3.mono (fun _ _ _ h=>h) keep⟩
  ·exact .inr q
 ·rcases hs with h1|h1
  ·exact hr.sup k hk h1
  ·have:=hr.iV hk;omega
 ·rcases hx with h1|h1
  ·exact hr.gZ k hk h1
  ·have:=hr.iV hk;omega
 ·rcases hd with h1|h1
  ·exact .inl (hr.dx k h1)
  ·exact .inr ⟨h1.1,hnew k h1.2⟩
 ·rcases hd with h1|h1
  ·exact .inl (hr.ds k h1)
  ·exact .inr ⟨h1.1,hnew k h1.2⟩
 ·rcases hs with h1|h1
  ·exact Nat.lt_of_lt_of_le (hr.sn k h1) hn
  ·exact h1.2
 ·rcases hx with h1|h1
  ·exact Nat.lt_of_lt_of_le (hr.xn k h1) hn
  ·exact h1.2
 ·rcases hd with h1|h1|h1
  ·exact hr.nJ k (.inl h1)
  ·exact hr.nJ k (.inr h1)
  ·exact h4.nJ k h1.2
 ·have f0':jL fl0 0 E0 hp0 H0 E hp1 (H.put H0.n b0):=⟨f0.n,f0.AF,f0.own,f0.d,f0.x,f0.xk,f0.s,fun k hk h1 h2=>by rw [bN (by omega)];exact f0.same k hk h1 h2,by omega⟩
  refine ⟨fun k hk=>.inl (hlow k hk),fZ,E4,base1,hp4,amb4,H4,hQ,h4,f0'.trans F.JS,Nat.le_refl _,⟨F.xk _ hXl,fun hs=>?_⟩,fun k hk=>?_,fun k hs=>?_,fun k _ hne=>bN hne,fun k hk=>?_⟩
  ·rcases F.s _ hs with h1|h1
   ·exact hSl h1
   ·have:H.n≤H0.n:=h1;omega
  ·by_cases hlt:k < H.n
   ·exact (hX k hlt).imp .inl (F.xk k)
   ·exact .inl (.inr ⟨by omega,hk⟩)
  ·rcases F.s k hs with h1|h1
   ·exact .inl (hS k h1)
   ·exact .inr ⟨h1,h4.sn k hs⟩
  ·rcases hk with h1|h1|h1
   ·rcases F.own k h1 with h2|h2
    ·exact .inl (hD k (.inl h2))
    ·exact .inr ⟨h2,.inl h1⟩
   ·rcases F.d k h1 with h2|h2
    ·exact .inl (hD k (.inr (.inl h2)))
    ·exact .inr ⟨h2,.inr h1⟩
   ·exact .inl (hD k (.inr (.inr h1)))
 ·have h1:=F.lo
  have h2:=hr.nJ _ (.inr hD1)
  have h3:(H.put H0.n b0).lo=min H.lo H0.n:=rfl
  have h4:(H4.put H0.n blk').lo=min H4.lo H0.n:=rfl
  omega
def z7 (T:bz) (tab:List XE) (one:Bool) (u:Value) (x:List AV) (a:bG) (Q:Bool→bG→Prop):Prop :=
 ∀ hp,av T tab one (.oq u) x hp a fun v hp' a'=>hp'=hp∧∃ b,v=.fl (.bool b)∧Q b a'
def DO (J:bG) (Stop:bG→Prop) (b:Bool) (a:bG):Prop:=(b=true∧a=J)∨(b=false∧Stop a)
def B6 (T:bz) (tab:List XE) (one:Bool) (F:AV) (xs:List (List AV)):Prop :=
 (∃ f a b,F=.fn f a b)∧F.deep=true∧(∀ x ∈ xs,∀ a ∈ x,fA a)∧∀ (u:Value) (J:Nat→bG) (Stop:bG→Prop),(∀ (i:Nat) (x:List AV),xs[i]?=some x→z7 T tab one u x (J i) (DO (J (i+1)) Stop)) →
  av T tab one F [.oq u] [] (J 0) fun _ _ a'=>a'=J xs.length∨Stop a'
def Sa (T:bz) (rs:List ResultVar) (Q:bG→Prop) (e:Exit) (s:bK):Prop :=
 match e with
 | .normal|.ret=>pJ T s rs fun _=>Q s.aE
 | _=>False
theorem B6.body {f:FuncId} {fn:Func} {c:Code} {first caps:List AV} {xs:List (List AV)} (hf:T.fn.get f=some fn) (hb:fn.body=some c) (hn:noEntry tab f=true) (hd:(AV.fn f first caps).deep=true) (hfree:∀ x ∈ xs,∀ a ∈ x,fA a)
  (hw:∀ (u:Value) (J:Nat→bG) (Stop:bG→Prop),(∀ (i:Nat) (x:List AV),xs[i]?=some x→z7 T tab one u x (J i) (DO (J (i+1)) Stop)) →
   aA T tab one c ⟨B0 (first++[.oq u]++caps),[],J 0,false,0⟩ (Sa T fn.results.toList fun a'=>a'=J xs.length∨Stop a')):B6 T tab one (.fn f first caps) xs:=by
 refine ⟨⟨f,first,caps,rfl⟩,hd,hfree,fun u J Stop hy E base H v us hr hF ha=>?_⟩
 have hF:=hF.deep hd
 cases hF with
 | fn l1 l2 d1 d2 =>
  rename_i a' b'
  have hall:fy E.ρ H.get (E.O []) (first++[.oq u]++caps) (a'.toList++us++b'.toList):=fy.append (fy.append (pH.AE ⟨l1,d1⟩) ha) (pH.AE ⟨l2,d2⟩)
  refine ⟨.fn f (a'.toList++us++b'.toList),rfl,?_⟩
  obtain ⟨m,L,h1,h2,h3⟩:=hw u J Stop hy E base ⟨setArgs .leaf 0 (a'.toList++us++b'.toList),H,false⟩ ⟨hr,rfl,vL hall⟩
  obtain ⟨m',M,hm,q1,q2,q3⟩:=eU (one:=one) (L:=L) (f:=fun _ (p:Exit × St)=>fe T fn.results.toList p) (P:=fun r=>∃ w H',r=.ret w H'∧∃ E' a hp' amb',(amb'=J xs.length∨Stop amb')∧aQ E' base hp' amb' H'∧AR E'.ρ H'.get (E'.O hp') a w∧jL ([]:List AB).length base E [] H E' hp' H')
   (fun _ _ _ _ _ h=>h) m h2 (fun p hp=>by
    obtain ⟨E',st',k1,_,k2,k3⟩:=h3 p hp
    obtain ⟨e,s'⟩:=p
    have done:(e=.normal∨e=.ret)→(pJ T st' fn.results.toList fun _=>st'.aE=J xs.length∨Stop st'.aE)→∃ (_:Nat) (M:List gk),fe T fn.results.toList (e,s')=some M∧pZ one M fun r=>∃ w H',r=.ret w H'∧∃ E' a hp' amb',(amb'=J xs.length∨Stop amb')∧aQ E' base hp' amb' H'∧AR E'.ρ H'.get (E'.O hp') a w∧jL ([]:List AB).length base E [] H E' hp' H':=by
     intro he hr
     obtain ⟨ws,as,r1,r2,r3⟩:=kB k2 hr
     refine ⟨0,[.ret (cU ws) s'.hp],?_,.single ⟨_,_,rfl,E',.bM,st'.hp,st'.aE,r2,k2.h,.bM,k3⟩⟩
     unfold fe
     rcases he with rfl|rfl <;> simp only [r1,Option.map_some]
    cases e with
    | normal=>exact done (.inl rfl) k1
    | ret=>exact done (.inr rfl) k1
    | _=>exact k1.elim)
  refine ⟨m'+1,M,?_,q2,q3⟩
  show RX T tab (m'+1) (.call f _ H)=_
  rw [zP,oD _ _ hn]
  simp only
  rw [jB,hf]
  simp only [hb]
  rw [dD (dm hm) _ _ _ h1]
  exact q1
def Ff (fr:Nat→AV):List (Tmp × AV)→Nat→AV
 | []=>fr
 | (d,v) :: l=>Ff (fun t=>bif Nat.beq t d then v else fr t) l
theorem B7:∀ (ps:List Tmp) {x:List AV} {us:List Value} {fr:Nat→AV} {tm:Tr Value},hG ρ g O fr tm→fy ρ g O x us→hG ρ g O (Ff fr (ps.zip x)) (eM tm (ps.zip us))
 | [],_,_,_,_,h,_=>h
 | p :: ps,[],[],_,_,h,_=>h
 | p :: ps,a :: x,u :: us,fr,tm,h,ha=>by
  simp only [List.zip_cons_cons,Ff,eM]
  exact B7 ps (mB h (ha.2 0 a u rfl rfl) (some p)) ⟨by simpa using ha.1,fun i a u x y=>ha.2 (i+1) a u (by simpa using x) (by simpa using y)⟩
 | p :: ps,[],_ :: _,_,_,_,ha=>absurd ha.1 (by simp)
 | p :: ps,_ :: _,[],_,_,_,ha=>absurd ha.1 (by simp)
def SV (P:bK→Prop) (e:Exit) (s:bK):Prop :=
 match e with
 | .normal=>s.rd=true∧P s
 | _=>False
def O8 (K:Exit→bK→Prop) (st:bK) (hpn:List AB) (an:bG) (pn:Prop) (e:Exit) (s:bK):Prop :=
 match e with
 | .normal=>pn∧∃ fr',aj s ⟨fr',hpn,an,s.rd,s.fl⟩
 | .ret=>K .ret ⟨st.fr,s.hp,s.aE,st.rd,st.fl⟩
 | .exit id=>K (.exit id) ⟨st.fr,s.hp,s.aE,st.rd,st.fl⟩
 | _=>False
theorem vN {a b:Rec} (h:iq a b) {l:Nat} {bd:Code} {p:Exit × St} {M:List gk} (e:cN T a l bd p=some M):cN T b l bd p=some M:=by
 unfold cN at e ⊢
 split at e
 ·split at e
  ·rename_i pend2 fr2 ps2 as2 bd2 hl2
   cases hq:bp T a bd ⟨p.2.fr,p.2.hp.put l (.loop .busy pend2 fr2 ps2 as2 bd2),true⟩ with
   | none=>rw [hq] at e;cases e
   | some M2=>rw [hq] at e;rw [dD h _ _ _ hq];exact e
  ·cases e
 ·cases e
theorem aj.Rn {st:bK} {fr':Nat→AV} {hp:List AB} {a:bG} {rd:Bool} {n:Nat} (h:aj st ⟨fr',hp,a,rd,n⟩) {s:St} (hs:mC E base st s):∃ E',aQ E' base hp a s.hp∧jL st.fl base E st.hp s.hp E' hp s.hp:=by
 obtain ⟨E',h1,h2⟩:=h.2 E base s hs
 exact ⟨E',h1.h,h2⟩
theorem aA.range {f:Operand} {ps:Array Tmp} {as bd:Code} {st:bK} {K:Exit→bK→Prop} {xs:List (List AV)} (Hs:Nat→List AB) (As:Nat→bG) (Ps:Nat→Prop) {rdv:Bool} (hrd:st.rd=rdv) (hgen:B6 T tab one (aN st.fr f) xs) (h0:Hs 0=st.hp) (ha0:As 0=st.aE) (hp0:Ps 0)
  (hround:∀ (i:Nat) (x:List AV),xs[i]?=some x→Ps i→x.length=ps.toList.length∧aA T tab one as ⟨Ff st.fr (ps.toList.zip x),Hs i,As i,true,st.hp.length⟩ (SV fun s=>aA T tab one bd s (O8 K st (Hs (i+1)) (As (i+1)) (Ps (i+1)))))
  (hend:Ps xs.length→K .normal ⟨st.fr,Hs xs.length,As xs.length,rdv,st.fl⟩):aA T tab one (.rangeFunc f ps as bd) st K:=by
 intro E base s hs
 obtain ⟨⟨gf,ga,gb,hF⟩,hdeep,hfree,hgen⟩:=hgen
 subst hrd
 let l:=s.hp.n
 let LP:bg→(List AB→bG→Prop)→bG:=JT st.hp.length E st.hp s.hp
 let blkR:bg:=.loop .ready none s.fr ps as bd
 let J:Nat→bG:=fun i=>LP blkR fun hp' amb'=>hp'=Hs i∧amb'=As i∧Ps i
 let Stop:bG→Prop:=fun a=>∃ pend e,((e=Exit.ret∧pend=Code.ret)∨∃ id,e=Exit.exit id∧pend=Code.exit id)∧a=LP (.loop .done (some pend) s.fr ps as bd) fun hp' amb'=>K e ⟨st.fr,hp',amb',st.rd,st.fl⟩
 let u:Value:=.func (.yield l) #[] #[]
 have hy:∀ (i:Nat) (x:List AV),xs[i]?=some x→z7 T tab one u x (J i) (DO (J (i+1)) Stop):=by
  intro i x hx hp E1 base1 H w us hr hw ha
  have hwu:w=u:=by
   cases hw with
   | d h=>cases h;rfl
  subst hwu
  obtain ⟨hlow,hl,E',b',hp',amb',H',⟨rfl,rfl,hPi⟩,q2,q3,q4,⟨q5,q5'⟩,q6,q7,q8,q9⟩:=hr.aE
  obtain ⟨hxl,hround⟩:=hround i x hx hPi
  refine ⟨.yield l ([]++us),rfl,?_⟩
  rw [List.nil_append]
  have hln:l < H.n:=hr.sn _ (hlow _ (Nat.le_refl _))
  let X2:Nat→Prop:=fun k=>E'.X k∨(k < H.n∧¬ E1.S k)
  have hv:aQ {E' with X:=X2} base1 (Hs i) (As i) H:=q2.view hr.wf q4 (fun k h=>.inl h) (fun k h=>by
    rcases h with h|h
    ·exact .inl h
    ·by_cases hk:k < H'.n
     ·exact .inl ((q6 k hk).resolve_left h.2)
     ·exact .inr (by omega)) (fun k h=>h.elim (fun h=>Nat.lt_of_lt_of_le (q2.xn k h) q4) And.left)
   (fun k hk h=>by
    rcases h with h|h
    ·exact q8 k ((q6 k hk).resolve_right h) (fun e=>h (e ▸ q5))
    ·exact q8 k (q7 k h) (fun e=>q5' (e ▸ h))) (fun k hk=>hr.nJ k (.inr (q9 k (hk.imp id .inl)))) hr.bn
  have f0:jL st.hp.length 0 E st.hp s.hp {E' with X:=X2} (Hs i) H:=⟨Nat.le_trans q3.n q4,q3.AF,q3.own,q3.d,fun k h=>by
    rcases h with h|h
    ·exact q3.x k h
    ·by_cases hk:k < s.hp.n
     ·exact absurd (hlow k (Nat.le_of_lt hk)) h.2
     ·exact .inr (by omega),fun k h=>.inl (q3.xk k h),q3.s,fun k hk h1 h2=>by rw [q8 k (hlow k (Nat.le_of_lt hk)) (by omega)];exact q3.same k hk h1 h2,by omega⟩
  have hfrm:hG E'.ρ H.get (({E' with X:=X2}:Env).O (Hs i)) st.fr s.fr:=fun t=>f0.ar hs.h.JS (hs.fr t)
  have hargs:fy E'.ρ H.get (({E' with X:=X2}:Env).O (Hs i)) x us:=⟨ha.1,fun i a u h1 h2=>.d ((hfree x (List.mem_of_getElem? hx) a (List.mem_of_getElem? h1)).2 _ _ _ _ ((ha.2 i a u h1 h2).deep (hfree x (List.mem_of_getElem? hx) a (List.mem_of_getElem? h1)).1))⟩
  obtain ⟨m1,L1,a1,a2,a3⟩:=hround {E' with X:=X2} base1 ⟨eM s.fr (ps.toList.zip us),H,true⟩ ⟨hv,rfl,B7 _ hfrm hargs⟩
  have hXl2:X2 s.hp.n:=.inl q5
  obtain ⟨m,M,hm,z1,z2⟩:=eU (one:=one) (L:=L1) (f:=fun m (p:Exit × St)=>cN T (RX T tab m) l bd p) (P:=fun r=>∃ w H',r=.ret w H'∧∃ E5 a hp5 amb5,(hp5=hp∧∃ b,a=.fl (.bool b)∧DO (J (i+1)) Stop b amb5)∧aQ E5 base1 hp5 amb5 H'∧AR E5.ρ H'.get (E5.O hp5) a w∧jL hp.length base1 E1 hp H E5 hp5 H')
   (fun n m x M hnm hx=>vN (dm hnm) hx) m1 a2 (fun p hp0=>by
    obtain ⟨E2,st2,k1,k2,k3,k4⟩:=a3 p hp0
    obtain ⟨e,p⟩:=p
    cases e with
    | normal =>
     obtain ⟨hrd2,hbd⟩:=k1
     have gl:p.hp.get l=some blkR:=by
      rw [k4.same l hln (fun h=>hv.gZ _ h hXl2) (fun h=>q5' (q2.ds _ h))];exact hl
     have hl2:l < p.hp.n:=Nat.lt_of_lt_of_le hln k4.n
     have hX2l:E2.X l:=k4.xk l hXl2
     have hS2l:¬ E2.S l:=fun h=>by
      rcases k4.s l h with h|h
      ·exact q5' h
      ·have:H.n≤l:=h;omega
     let bB:bg:=.loop .busy none s.fr ps as bd
     have hv2:aQ E2 base1 st2.hp st2.aE (p.hp.put l bB):=k3.h.view (X':=E2.X) (fun k hk=>by
       have hk:p.hp.n≤k:=hk
       rw [bN (by omega)];exact k3.h.wf k hk) (Nat.le_refl _) (fun _ h=>h) (fun _ h=>.inl h) k3.h.xn (fun k hk h=>bN fun e=>by
       subst e
       exact h.elim (fun h=>h hX2l) hS2l) k3.h.nJ k3.h.bn
     have har2:hG E2.ρ (p.hp.put l bB).get (E2.O st2.hp) st2.fr p.fr:=fun t=>(k3.fr t).mono (fun _ _ _ h=>h) (fun k b hk ho=>⟨by rw [bN (fun e=>by subst e;exact ho (.inr hX2l))];exact hk,ho⟩)
     obtain ⟨m2,L2,b1,b2,b3⟩:=hbd E2 base1 ⟨p.fr,p.hp.put l bB,true⟩ ⟨hv2,hrd2.symm,har2⟩
     have F1:jL st.hp.length base1 {E' with X:=X2} (Hs i) (H.put l bB) E2 st2.hp (p.hp.put l bB):=⟨k4.n,k4.AF,k4.own,k4.d,k4.x,k4.xk,k4.s,fun k hk h1 h2=>by
       by_cases hkl:k=l
       ·subst hkl;rw [fZ,fZ]
       ·rw [bN hkl,bN hkl];exact k4.same k hk h1 h2,by
       have h5:min H.lo base1≤p.hp.lo:=k4.lo
       have h3:(H.put l bB).lo=min H.lo l:=rfl
       have h4:(p.hp.put l bB).lo=min p.hp.lo l:=rfl
       omega⟩
     have back:∀ {E4:Env} {hp4:List AB} {amb4:bG} {q:St} (blk':bg) {Q':List AB→bG→Prop},aQ E4 base1 hp4 amb4 q.hp→jL st.hp.length base1 E2 st2.hp (p.hp.put l bB) E4 hp4 q.hp→Q' hp4 amb4 →
       ∃ E5,aQ E5 base1 hp (LP blk' Q') (q.hp.put l blk')∧jL hp.length base1 E1 hp H E5 hp (q.hp.put l blk'):=by
      intro E4 hp4 amb4 q blk' Q' h4 f4 hQ
      exact Ge (E:={E' with X:=X2}) hr (fun k hk=>by
        by_cases hs1:E1.S k
        ·exact .inl hs1
        ·exact .inr (.inr ⟨hk,hs1⟩)) hXl2 q5' q7 q9 hlow f0 h4 (F1.trans f4) hQ
     refine ⟨max m2 0,?_⟩
     obtain ⟨m3,M3,hm3,y1,y2⟩:=eU (one:=one) (L:=L2) (f:=fun _ (q:Exit × St)=>fX l q) (P:=fun r=>∃ w H',r=.ret w H'∧∃ E5 a hp5 amb5,(hp5=hp∧∃ b,a=.fl (.bool b)∧DO (J (i+1)) Stop b amb5)∧aQ E5 base1 hp5 amb5 H'∧AR E5.ρ H'.get (E5.O hp5) a w∧jL hp.length base1 E1 hp H E5 hp5 H')
      (fun _ _ _ _ _ h=>h) 0 b2 (fun q hq=>by
       obtain ⟨E3,st3,j1,j2,j3,j4⟩:=b3 q hq
       obtain ⟨e,q⟩:=q
       have gl2:q.hp.get l=some bB:=by
        rw [j4.same l hl2 (fun h=>hv2.gZ _ h hX2l) (fun h=>hS2l (hv2.ds _ h))];exact fZ
       have jfl:st2.fl=st.hp.length:=k2
       cases e with
       | normal =>
        obtain ⟨hPn,fr',hwk⟩:=j1
        obtain ⟨E4,h4,f4⟩:=hwk.Rn j3
        rw [j2,jfl] at f4
        rw [jfl] at j4
        obtain ⟨E5,x1,x2⟩:=back (q:=q) (.loop .ready none s.fr ps as bd) (Q':=fun hp' amb'=>hp'=Hs (i+1)∧amb'=As (i+1)∧Ps (i+1)) h4 (j4.trans f4) ⟨rfl,rfl,hPn⟩
        exact ⟨0,[.ret (.bool true) (q.hp.put l (.loop .ready none s.fr ps as bd))],by unfold fX;simp only [gl2,bB],.single ⟨_,_,rfl,E5,.fl (.bool true),hp,_,⟨rfl,true,rfl,.inl ⟨rfl,rfl⟩⟩,x1,.d (.fl rfl),x2⟩⟩
       | ret =>
        rw [jfl] at j4
        obtain ⟨E5,x1,x2⟩:=back (q:=q) (.loop .done (some .ret) s.fr ps as bd) (Q':=fun hp' amb'=>K .ret ⟨st.fr,hp',amb',st.rd,st.fl⟩) j3.h j4 j1
        exact ⟨0,[.ret (.bool false) (q.hp.put l (.loop .done (some .ret) s.fr ps as bd))],by unfold fX;simp only [gl2,bB],.single ⟨_,_,rfl,E5,.fl (.bool false),hp,_,⟨rfl,false,rfl,.inr ⟨rfl,.ret,.ret,.inl ⟨rfl,rfl⟩,rfl⟩⟩,x1,.d (.fl rfl),x2⟩⟩
       | exit id =>
        rw [jfl] at j4
        obtain ⟨E5,x1,x2⟩:=back (q:=q) (.loop .done (some (.exit id)) s.fr ps as bd) (Q':=fun hp' amb'=>K (.exit id) ⟨st.fr,hp',amb',st.rd,st.fl⟩) j3.h j4 j1
        exact ⟨0,[.ret (.bool false) (q.hp.put l (.loop .done (some (.exit id)) s.fr ps as bd))],by unfold fX;simp only [gl2,bB],.single ⟨_,_,rfl,E5,.fl (.bool false),hp,_,⟨rfl,false,rfl,.inr ⟨rfl,.exit id,.exit id,.inr ⟨id,rfl,rfl⟩,rfl⟩⟩,x1,.d (.fl rfl),x2⟩⟩
       | _=>exact j1.elim)
     refine ⟨M3,?_,y2⟩
     unfold cN
     simp only [gl,blkR]
     rw [dD (dm (Nat.le_max_left m2 0)) _ _ _ b1]
     exact y1
    | _=>exact k1.elim)
  refine ⟨m+1,M,?_,z2⟩
  show RX T tab (m+1) (.round l us H)=_
  rw [JI,nF,hl]
  simp only [blkR]
  rw [show Nat.beq us.length ps.toList.length=true by rw [←ha.1,hxl];exact Nat.beq_refl _]
  simp only [cond_true]
  rw [dD (dm hm) _ _ _ a1]
  exact z1
 let E1:Env:=⟨fun _ _=>none,fun k=>Own E.ρ st.hp k∨E.D k∨k=l,fun k=>k≤l,fun k=>Own E.ρ st.hp k∨E.X k∨k=l⟩
 have hno:∀ k,¬ Own E1.ρ [] k:=fun k ⟨j,b,aB,h,_⟩=>by cases h
 have hwf1:Wf (s.hp.push blkR):=(dQ.push s.hp blkR).wf hs.h.wf
 have hrel1:aQ E1 base [] (J 0) (s.hp.push blkR) :=
  {wf:=hwf1,fU:=fun j b aB h _=>(by cases h),inj:=fun j j' aB ver' k h=>(by cases h),rn:=fun j v k h=>(by cases h),fresh:=fun j b aB v h=>(by cases h),new:=fun _ _ _=>rfl,
   sup:=fun k h=>(hno k h).elim,gZ:=fun k h=>(hno k h).elim,dx:=fun k h=>h.imp id (fun h=>h.imp (hs.h.dx k) id),
   ds:=fun k h=>by
    rcases h with h|h|h
    ·exact Nat.le_of_lt (hs.h.iV h)
    ·exact Nat.le_of_lt (hs.h.sn k (hs.h.ds k h))
    ·exact Nat.le_of_eq h
   sn:=fun k h=>Nat.lt_succ_of_le h
   xn:=fun k h=>by
    show k < s.hp.n+1
    rcases h with h|h|h
    ·exact Nat.lt_succ_of_lt (hs.h.iV h)
    ·exact Nat.lt_succ_of_lt (hs.h.xn k h)
    ·have:k=s.hp.n:=h;omega
   nJ:=fun k h=>by
    rcases h with h|h|h|h
    ·exact (hno k h).elim
    ·exact hs.h.nJ k (.inl h)
    ·exact hs.h.nJ k (.inr h)
    ·rw [h];exact hs.h.bn
   bn:=Nat.le_succ_of_le hs.h.bn
   aE:=by
    refine ⟨fun k h=>h,iE,{E with X:=fun k=>E.X k∨k=s.hp.n},base,st.hp,st.aE,s.hp.push blkR,⟨h0.symm,ha0.symm,hp0⟩,hs.h.view hwf1 (Nat.le_succ _) (fun k h=>.inl h) (fun k h=>h.imp id (fun h=>Nat.le_of_eq h.symm)) (fun k h=>?_) (fun k hk _=>cg hk) hs.h.nJ (Nat.le_succ_of_le hs.h.bn),
     ⟨Nat.le_succ _,fun _ _ _ _ h=>h,fun _ h=>.inl h,fun _ h=>.inl h,fun k h=>h.imp id (fun h=>Nat.le_of_eq h.symm),fun _ h=>.inl h,fun _ h=>.inl h,fun k hk _ _=>cg hk,by omega⟩,Nat.le_refl _,⟨.inr rfl,fun h=>Nat.lt_irrefl _ (hs.h.sn _ h)⟩,fun k hk=>.inl (Nat.le_of_lt_succ hk),fun k h=>Nat.le_of_lt (hs.h.sn k h),fun _ _ _=>rfl,fun k h=>h⟩
    show k < s.hp.n+1
    rcases h with h|h
    ·exact Nat.lt_succ_of_lt (hs.h.xn k h)
    ·omega}
 have hFv:=fM hs.fr f
 have hdF:=hFv.deep hdeep
 have hF1:AR E1.ρ (s.hp.push blkR).get (E1.O []) (aN st.fr f) (aG s.fr f):=.d (hdF.mono fun k b hk ho=>by
  have hlt:=hs.h.wf.lt hk
  refine ⟨by rw [cg hlt];exact hk,fun h=>?_⟩
  rcases h with h|h|h|h
  ·exact hno k h
  ·exact ho (.inl h)
  ·exact ho (.inr h)
  ·have:k=s.hp.n:=h;omega)
 obtain ⟨goal,hgo,m,L,c1,c2,c3⟩:=hgen u J Stop hy E1 base (s.hp.push blkR) _ [u] hrel1 hF1 (.cons (.d (.oq rfl)) .nil)
 have hgfn:∃ as',goal=.fn gf as':=by
  rw [hF] at hdF
  generalize aG s.fr f=fv at hdF hgo
  cases hdF with
  | fn _ _ _ _=>exact ⟨_,by cases hgo;rfl⟩
 obtain ⟨as',rfl⟩:=hgfn
 obtain ⟨m',M,hm,z1,z2⟩:=eU (one:=one) (L:=L) (f:=fun _ (r:gk)=>iP l s.fr s.rd r) (P:=fun p=>qY E base st s (K p.1) p.2) (fun _ _ _ _ _ h=>h) m c2 (fun r hr=>by
  obtain ⟨w,H2,rfl,E2,a,hp2,amb2,k1,k2,k3,k4⟩:=c3 r hr
  have fin:∀ {fU:bg} (blk':bg) {Q:List AB→bG→Prop} {e:Exit},amb2=LP fU Q→(∀ hp' amb',Q hp' amb'→K e ⟨st.fr,hp',amb',st.rd,st.fl⟩)→H2.get l=some fU∧qY E base st s (K e) ⟨s.fr,H2.put l blk',s.rd⟩:=by
   intro fU blk' Q e ha hQ
   subst ha
   obtain ⟨hlow,hl,E',b',hp',amb',H',q1,q2,q3,q4,⟨q5,q5'⟩,q6,q7,q8,q9⟩:=k2.aE
   have hln:l < H2.n:=k2.sn _ (hlow _ (Nat.le_refl _))
   have hbl:base≤l:=k2.nJ _ (.inr (q9 _ (.inr (.inr rfl))))
   have hg2:∀ k,E2.S k→k ≠ l→(H2.put l blk').get k=H'.get k:=fun k h1 h2=>by rw [bN h2];exact q8 k h1 h2
   have hfin:aQ {E' with X:=fun k=>E'.X k∨(k < H2.n∧¬ E2.S k)} base hp' amb' (H2.put l blk'):=q2.view (fun k hk=>by
      have hk:H2.n≤k:=hk
      rw [bN (by omega)];exact k2.wf k hk) q4 (fun k h=>.inl h) (fun k h=>by
     rcases h with h|h
     ·exact .inl h
     ·by_cases hk:k < H'.n
      ·exact .inl ((q6 k hk).resolve_left h.2)
      ·exact .inr (by omega)) (fun k h=>h.elim (fun h=>Nat.lt_of_lt_of_le (q2.xn k h) q4) And.left)
    (fun k hk h=>by
     rcases h with h|h
     ·exact hg2 k ((q6 k hk).resolve_right h) (fun e=>h (e ▸ q5))
     ·exact hg2 k (q7 k h) (fun e=>q5' (by have e:k=s.hp.n:=e;rw [←e];exact h))) (fun k hk=>k2.nJ k (.inr (q9 k (hk.imp id .inl)))) k2.bn
   have ff:jL st.hp.length base E st.hp s.hp {E' with X:=fun k=>E'.X k∨(k < H2.n∧¬ E2.S k)} hp' (H2.put l blk'):=⟨Nat.le_trans q3.n q4,q3.AF,q3.own,q3.d,fun k h=>by
     rcases h with h|h
     ·exact q3.x k h
     ·by_cases hk:k < s.hp.n
      ·exact absurd (hlow k (Nat.le_of_lt hk)) h.2
      ·exact .inr (by omega),fun k h=>.inl (q3.xk k h),q3.s,fun k hk h1 h2=>by rw [hg2 k (hlow k (Nat.le_of_lt hk)) (Nat.ne_of_lt hk)];exact q3.same k hk h1 h2,by
     have h1:=k4.lo
     have h2:(s.hp.push blkR).lo=s.hp.lo:=rfl
     have h3:(H2.put l blk').lo=min H2.lo l:=rfl
     omega⟩
   exact ⟨hl,_,⟨st.fr,hp',amb',st.rd,st.fl⟩,hQ _ _ q1,rfl,⟨hfin,hs.rd,fun t=>ff.ar hs.h (hs.fr t)⟩,ff.low hs.h _⟩
  rcases k1 with k1|⟨pend,e,hpe,k1⟩
  ·obtain ⟨g1,g2⟩:=fin (.loop .exhausted none s.fr ps as bd) (e:=.normal) k1 (fun hp' amb' ⟨h1,h2,h3⟩=>by subst h1;subst h2;exact hend h3)
   exact ⟨0,[(.normal,⟨s.fr,H2.put l (.loop .exhausted none s.fr ps as bd),s.rd⟩)],by unfold iP;simp only [g1,blkR],.single g2⟩
  ·obtain ⟨g1,g2⟩:=fin (.loop .exhausted (some pend) s.fr ps as bd) (e:=e) k1 (fun _ _ h=>h)
   rcases hpe with ⟨rfl,rfl⟩|⟨id,rfl,rfl⟩
   ·exact ⟨0,[(.ret,⟨s.fr,H2.put l (.loop .exhausted (some .ret) s.fr ps as bd),s.rd⟩)],by unfold iP;simp only [g1],.single g2⟩
   ·exact ⟨0,[(.exit id,⟨s.fr,H2.put l (.loop .exhausted (some (.exit id)) s.fr ps as bd),s.rd⟩)],by unfold iP;simp only [g1],.single g2⟩)
 refine ⟨m',M,?_,z2⟩
 rw [kg]
 unfold lR
 have hgo':cF (aG s.fr f) [Value.func (Fn.yield s.hp.n) #[] #[]]=some (.fn gf as'):=hgo
 simp only [hgo']
 have:RX T tab m' (.call gf as' (s.hp.push (.loop .ready none s.fr ps as bd)))=some L:=dm hm _ _ c1
 rw [this]
 exact z1
theorem ah.closed {f:FuncId} {v:Value} (h:∀ H,look tab f [] H=some (v,H)) (hv:aS v=true):ah T tab one (.fn f [] []) [] (.fl v):=by
 refine ⟨rfl,fun X H u us hwf hX hF ha=>?_⟩
 cases hF with
 | fn l1 l2 d1 d2 =>
  rename_i a' b'
  have h1:a'.toList=[]:=List.length_eq_zero_iff.1 l1.symm
  have h2:b'.toList=[]:=List.length_eq_zero_iff.1 l2.symm
  have h3:us=[]:=List.length_eq_zero_iff.1 ha.1.symm
  refine ⟨.fn f [],by simp [cF,h1,h2,h3],0,[.ret v H],?_,fun _=>⟨_,rfl⟩,fun r hr=>?_⟩
  ·show rx tab (tX tab T 0) (.call f [] H)=_
   unfold rx
   simp only [h H]
  ·obtain rfl:=List.mem_singleton.1 hr
   exact ⟨v,H,rfl,Nat.le_refl _,hwf,fun _ _=>rfl,Nat.min_le_left _ _,.fl hv⟩
end
theorem Lx {P:Program} {t:TypeId} {x y:Operand} {m n:Int} (h0:0≤m) (h2:1≤n):dz P .rem t x y (.int .i64 m) (.int .i64 n)=some (.int .i64 (m % n),.none):=by
 have hn:n ≠ 0:=by omega
 have h:dz P .rem t x y (.int .i64 m) (.int .i64 n)=some (.int .i64 (m.tmod n),.none):=by
  show fC P .rem t x y (.int .i64 m) (.int .i64 n)=_
  unfold fC
  simp only [flat,aS,Bool.and_self,cond_true]
  have:(do eqGuard BinOp.rem t x y (Value.int IntKind.i64 m) (Value.int IntKind.i64 n);binOp BinOp.rem t (Value.int IntKind.i64 m) (Value.int IntKind.i64 n):Sem Value)=pure (.int .i64 (m.tmod n)):=by
   show Op.intDiv .rem .i64 m n=_
   unfold Op.intDiv
   rw [if_neg hn]
  rw [this]
  rfl
 rw [h,IntWalk.rem_in m n h0]
theorem Ly {P:Program} {t:TypeId} {x y:Operand} {m n:Int} (h0:0≤m) (h1:m≤9223372036854775807) (h2:1≤n):dz P .quo t x y (.int .i64 m) (.int .i64 n)=some (.int .i64 (m / n),.none):=by
 have hn:n ≠ 0:=by omega
 have h:dz P .quo t x y (.int .i64 m) (.int .i64 n)=some (.int .i64 (IntKind.i64.wrap (m.tdiv n)),.none):=by
  show fC P .quo t x y (.int .i64 m) (.int .i64 n)=_
  unfold fC
  simp only [flat,aS,Bool.and_self,cond_true]
  have:(do eqGuard BinOp.quo t x y (Value.int IntKind.i64 m) (Value.int IntKind.i64 n);binOp BinOp.quo t (Value.int IntKind.i64 m) (Value.int IntKind.i64 n):Sem Value)=pure (.int .i64 (IntKind.i64.wrap (m.tdiv n))):=by
   show Op.intDiv .quo .i64 m n=_
   unfold Op.intDiv
   rw [if_neg hn]
  rw [this]
  rfl
 rw [h,IntWalk.i64_quo m n ⟨h0,h1,h2⟩]
section
variable {T : bz} {tab : List XE} {one : Bool} {mu : Tmp → Bool}
theorem tB {ops:List Oper} {j:Nat} {want:Bool} {fr:Nat→AV} {yes no:Prop} {d:Tmp} {a0 a1 a2 a3 a4} {b:Bool} (h1:ops[j]?=some ⟨some d,a0,a1,a2,a3,a4⟩) (h2:fr d=.fl (.bool b)) (h3:b=want) (y:yes):cK ops (some (j,want)) fr yes no:=by
 unfold cK
 simp only [h1,h2]
 exact fQ h3 y
theorem vO {ops:List Oper} {j:Nat} {want:Bool} {fr:Nat→AV} {yes no:Prop} {d:Tmp} {a0 a1 a2 a3 a4} {b:Bool} (h1:ops[j]?=some ⟨some d,a0,a1,a2,a3,a4⟩) (h2:fr d=.fl (.bool b)) (h3:b=!want) (n:no):cK ops (some (j,want)) fr yes no:=by
 unfold cK
 simp only [h1,h2]
 exact gv h3 n
theorem z8 {ops:List Oper} {j:Nat} {want:Bool} {fr:Nat→AV} {yes no:Prop} {d:Tmp} {a0 a1 a2 a3 a4} {vs:List AV} (h1:ops[j]?=some ⟨some d,a0,a1,a2,a3,a4⟩) (h2:fr d=.tp vs) (n:no):cK ops (some (j,want)) fr yes no:=by
 unfold cK
 simp only [h1,h2]
 exact n
end
theorem JU {v:AV} {K:AV→Prop} (h:K v):force v K:=by cases v <;> exact h
section
variable {T : bz} {tab : List XE} {one : Bool} {mu : Tmp → Bool} {own : Bool} {fr : Nat → AV} {hp : List AB} {aE : bG} {rd : Bool} {fl : Nat} {K : AV → List AB → Prop} {KE : Exit → bK → Prop} {KS : bK → Prop} {st : bK} {dst : Option Tmp}
theorem c1 (h:KE .normal st):nt T tab one mu .skip st KE:=h
theorem c2 {a b:Code} (h:nt T tab one mu a st (vJ (fun s=>nt T tab one mu b s KE) KE)):nt T tab one mu (.seq a b) st KE:=h
theorem c3 {id:Nat} {c:Code} (h:nt T tab one mu c st (jM id KE)):nt T tab one mu (.block id c) st KE:=h
theorem c4 {id:Nat} {l:List Oper} (h:wpOps T tab one mu l l st (KE .normal)):nt T tab one mu (.region id l.toArray false) st KE:=h
theorem c5 {id:Nat} {l l1 l2:List Oper} {c:Nat} (hc:eA l.toArray=c) (h1:l.take c=l1) (h2:l.drop c=l2) (h:jc T tab mu l.toArray l1 0 (fun _=>0) [] st fun s=>wpOps T tab one mu l l2 s (KE .normal)):nt T tab one mu (.region id l.toArray true) st KE:=by
 subst hc h1 h2
 exact h
theorem c6 {id:Nat} (h:KE (.exit id) st):nt T tab one mu (.exit id) st KE:=h
theorem c7 (h:KE .ret st):nt T tab one mu .ret st KE:=h
theorem c8 {c:Code} (h:nt T tab one mu c st (sG KE)):nt T tab one mu (.scope c) st KE:=h
theorem c9 {Q:bK→Prop} (h:Q st):vJ Q KE .normal st:=h
theorem d1 {Q:bK→Prop} (h:KE .ret st):vJ Q KE .ret st:=h
theorem d2 {Q:bK→Prop} {id:Nat} (h:KE (.exit id) st):vJ Q KE (.exit id) st:=h
theorem d3 {id:Nat} (h:KE .normal st):jM id KE .normal st:=h
theorem d4 {id:Nat} (h:KE .ret st):jM id KE .ret st:=h
theorem d5 {id id':Nat} (hb:Nat.beq id' id=true) (h:KE .normal st):jM id KE (.exit id') st:=by unfold jM;simp only [hb,cond_true];exact h
theorem d6 {id id':Nat} (hb:Nat.beq id' id=false) (h:KE (.exit id') st):jM id KE (.exit id') st:=by unfold jM;simp only [hb,cond_false];exact h
theorem d7 (h:KE .normal st):sG KE .normal st:=h
theorem d8 (h:KE .ret st):sG KE .ret st:=h
theorem d9 {id:Nat} (h:KE (.exit id) st):sG KE (.exit id) st:=h
theorem e1 {c:Operand} {a b:Code} {t:Bool} (hc:aN st.fr c=.fl (.bool t)) (h:(t=true→nt T tab one mu a st KE)∧(t=false→nt T tab one mu b st KE)):nt T tab one mu (.cond c a b) st KE:=by
 show (match aN st.fr c with|.fl (.bool t)=>_|_=>False)
 rw [hc];exact h
theorem e2 {c:Operand} {a b:Code} {t:Bool} (hc:aN st.fr c=.fl (.bool t)) (ht:t=true) (h:nt T tab one mu a st KE):nt T tab one mu (.cond c a b) st KE:=e1 hc (Lm ht h)
theorem e3 {c:Operand} {a b:Code} {t:Bool} (hc:aN st.fr c=.fl (.bool t)) (ht:t=false) (h:nt T tab one mu b st KE):nt T tab one mu (.cond c a b) st KE:=e1 hc (O5 ht h)
theorem o1 {ops:List Oper} (h:KS st):wpOps T tab one mu ops [] st KS:=h
theorem o2 {ops:List Oper} {op:Op} {a1 a2 a3 gd} {l:List Oper}
 (h:cK ops gd fr (qX T tab one mu dst op fr hp aE rd fl fun st'=>wpOps T tab one mu ops l st' KS) (fk dst fr (.tp []) fun fr'=>wpOps T tab one mu ops l ⟨fr',hp,aE,rd,fl⟩ KS)):wpOps T tab one mu ops (⟨dst,op,a1,a2,a3,gd⟩ :: l) ⟨fr,hp,aE,rd,fl⟩ KS:=h
theorem o3 {ops:Array Oper} {op:Op} {a1 a2 a3 gd} {l:List Oper} {i:Nat} {bt:Nat→Nat} {acc:List gN}
 (h:cK ops.toList gd fr (eC T tab mu dst op i bt fr hp fun fr' hp' bt' x=>jc T tab mu ops l (i+1) bt' (x :: acc) ⟨fr',hp',aE,rd,fl⟩ KS)
  (fk dst fr (.tp []) fun fr'=>jc T tab mu ops l (i+1) (gC dst bt 0) (⟨i,[],false,false⟩ :: acc) ⟨fr',hp,aE,rd,fl⟩ KS)):jc T tab mu ops (⟨dst,op,a1,a2,a3,gd⟩ :: l) i bt acc ⟨fr,hp,aE,rd,fl⟩ KS:=h
theorem o4 {ops:List Oper} {yes no:Prop} (h:yes):cK ops none fr yes no:=h
theorem o5 {d:Tmp} {v:AV} {P:(Nat→AV)→Prop} (h:P fun t=>bif Nat.beq t d then v else fr t):fk (some d) fr v P:=h
theorem o6 {v:AV} {P:(Nat→AV)→Prop} (h:P fr):fk none fr v P:=h
theorem o7 {f:Operand} {l:List Operand} {tys} (h:force (aN fr f) fun F=>fj (l.map (aN fr)) fun as=>av T tab one F as hp aE fun v hp' amb'=>fk dst fr v fun fr'=>KS ⟨fr',hp',amb',rd,fl⟩) :
 qX T tab one mu dst (.call ⟨.value f,l.toArray,tys⟩) fr hp aE rd fl KS:=h
theorem o8 {op:Op} (hk:cG op=.plain) (h:wpOp T (Ll mu dst) op fr hp fun v hp'=>force v fun v=>fk dst fr v fun fr'=>KS ⟨fr',hp',aE,rd,fl⟩):qX T tab one mu dst op fr hp aE rd fl KS:=by
 unfold qX;rw [hk];exact h
theorem o9 {x:Operand} {l:List Operand} {f:Operand→AV} {P:List AV→Prop} (h:force (f x) fun a=>fj (l.map f) fun l=>P (a :: l)):fj ((x :: l).map f) P:=h
theorem p1 {f:Operand→AV} {P:List AV→Prop} (h:P []):fj (([]:List Operand).map f) P:=h
theorem p2 {x:Operand} (h:K (aN fr x) hp):wpOp T own (.move x) fr hp K:=h
theorem p3 {x:Operand} (h:K (aN fr x) hp):wpOp T own (.assign x) fr hp K:=h
theorem p4 {c a b:Operand} (h:sC (aN fr c) (aN fr a) (aN fr b) hp K):wpOp T own (.pick c a b) fr hp K:=h
theorem p5 {o:BinOp} {t e:TypeId} {x y:Operand} (h:aL T o t x y (aN fr x) (aN fr y) hp K):wpOp T own (.binOp o t x y e) fr hp K:=h
theorem p6 {x:Operand} {t:TypeId} (h:force (aN fr x) fun v=>qU T t v hp K):wpOp T own (.call ⟨.builtin .len,[x].toArray,[t].toArray⟩) fr hp K:=JU (bu h)
theorem p7 {f:FuncId} {a b:List Operand} (h:fj (a.map (aN fr)) fun a=>fj (b.map (aN fr)) fun b=>K (.fn f a b) hp):wpOp T own (.makeFunc (.func f) a.toArray b.toArray) fr hp K:=h
theorem p8 {x:Operand} (h:qS (aN fr x) hp K):wpOp T own (.nilCheck x) fr hp K:=h
theorem p9 {op:Op} {i:Nat} {bt:Nat→Nat} {KD:(Nat→AV)→List AB→(Nat→Nat)→gN→Prop} (hk:cG op=.plain) (h:∃ a,DH op fr (oX bt)=some a∧wpOp T (Ll mu dst) op fr hp fun v hp'=>force v fun v=>fk dst fr v fun fr'=>KD fr' hp' (gC dst bt (kC op fr bt i)) ⟨i,a,news? op,false⟩) :
  eC T tab mu dst op i bt fr hp KD:=by
 unfold eC;rw [hk];exact h
theorem B8 {v:AV} {P:AV→Prop} (h:P v):force v P:=by cases v <;> exact h
theorem yq:∀ {l:List AV} {P:List AV→Prop},P l→fj l P
 | [],_,h=>h
 | _ :: _,_,h=>B8 (yq (P:=fun _=>_) h)
theorem Fg {f:Operand} {l:List Operand} {tys} {i:Nat} {bt:Nat→Nat} {KD:(Nat→AV)→List AB→(Nat→Nat)→gN→Prop} (h:(aN fr f).deep=true∧∃ vs v,Handed hp (l.map (aN fr)) vs v∧ah T tab true (aN fr f) vs v∧fk dst fr v fun fr'=>KD fr' hp (gC dst bt (i+1)) ⟨i,[],true,true⟩) :
  eC T tab mu dst (.call ⟨.value f,l.toArray,tys⟩) i bt fr hp KD:=by
 show force (aN fr f) fun F=>fj (l.map (aN fr)) fun as=>F.deep=true∧∃ vs v,Handed hp as vs v∧ah T tab true F vs v∧fk dst fr v fun fr'=>KD fr' hp (gC dst bt (i+1)) ⟨i,[],true,true⟩
 generalize aN fr f=F at h ⊢
 generalize l.map (aN fr)=as at h ⊢
 exact B8 (yq (P:=fun as=>F.deep=true∧∃ vs v,Handed hp as vs v∧ah T tab true F vs v∧fk dst fr v fun fr'=>KD fr' hp (gC dst bt (i+1)) ⟨i,[],true,true⟩) h)
theorem n1 {f:Operand} {l:List Operand} {tys} {i:Nat} {bt:Nat→Nat} {KD:(Nat→AV)→List AB→(Nat→Nat)→gN→Prop} (h:force (aN fr f) fun F=>fj (l.map (aN fr)) fun as=>F.deep=true∧cJ as=true∧∃ v,ah T tab true F as v∧fk dst fr v fun fr'=>KD fr' hp (gC dst bt (i+1)) ⟨i,[],true,true⟩) :
  eC T tab mu dst (.call ⟨.value f,l.toArray,tys⟩) i bt fr hp KD:=by
 have h:=eT (bu h)
 obtain ⟨h1,h2,v,h3,h4⟩:=h
 exact Fg ⟨h1,_,v,.inl ⟨rfl,h2⟩,h3,h4⟩
theorem n2 {f:Operand} {l:List Operand} {tys} {i:Nat} {bt:Nat→Nat} {KD:(Nat→AV)→List AB→(Nat→Nat)→gN→Prop} {F v:AV} {as vs:List AV} (hp':ah T tab true F vs v) (hf:aN fr f=F) (ha:l.map (aN fr)=as) (hF:F.deep=true) (hz:nk hp as vs) (hv:fA v) (h:fk dst fr v fun fr'=>KD fr' hp (gC dst bt (i+1)) ⟨i,[],true,true⟩) :
  eC T tab mu dst (.call ⟨.value f,l.toArray,tys⟩) i bt fr hp KD:=by
 subst hf ha
 exact Fg ⟨hF,vs,v,.inr ⟨hz,hv⟩,hp',h⟩
theorem n3 {x:Operand} {t:TypeId} {b:Bool} (hb:aN fr x=.fl (.bool b)) (h:K (.fl (.bool (!b))) hp):wpOp T own (.unOp .not t x) fr hp K:=by
 show Lj T .not (aN fr x) hp K
 rw [hb];exact h
theorem n4 {x y:Operand} {tys:Array TypeId} {m n:Int} (hx:aN fr x=.fl (.int .i64 m)) (hy:aN fr y=.fl (.int .i64 n)) (h:K (.fl (.int .i64 (min m n))) hp):wpOp T own (.call ⟨.builtin .min,[x,y].toArray,tys⟩) fr hp K:=by
 show force (aN fr x) fun a=>force (aN fr y) fun b=>EY T [a,b] hp K
 rw [hx,hy];exact h
theorem n5 {x y:Operand} {tys:Array TypeId} {m n:Int} (hx:aN fr x=.fl (.int .i64 m)) (hy:aN fr y=.fl (.int .i64 n)) (h:K (.fl (.int .i64 (max m n))) hp):wpOp T own (.call ⟨.builtin .max,[x,y].toArray,tys⟩) fr hp K:=by
 show force (aN fr x) fun a=>force (aN fr y) fun b=>EZ T [a,b] hp K
 rw [hx,hy];exact h
section
variable {v : AV} {P : AV → Prop}
theorem f1 {x:Value} (hv:v=.fl x) (h:P (.fl x)):force v P:=by subst hv;exact h
theorem f2 {a:List (List AV)} {b:Bool} (hv:v=.sl a b) (h:P (.sl a b)):force v P:=by subst hv;exact h
theorem f3 {a:List AV} {b:Nat} (hv:v=.pt a b) (h:P (.pt a b)):force v P:=by subst hv;exact h
theorem f4 {a:FuncId} {b c:List AV} (hv:v=.fn a b c) (h:P (.fn a b c)):force v P:=by subst hv;exact h
theorem f5 {a:List AV} (hv:v=.ag a) (h:P (.ag a)):force v P:=by subst hv;exact h
theorem f6 {a:List AV} (hv:v=.tp a) (h:P (.tp a)):force v P:=by subst hv;exact h
theorem f7 {a b c:Nat} (hv:v=.ptr a b c) (h:P (.ptr a b c)):force v P:=by subst hv;exact h
theorem f8 {a b c d e:Nat} (hv:v=.bI a b c d e) (h:P (.bI a b c d e)):force v P:=by subst hv;exact h
theorem f9 {a:Nat} (hv:v=.om a) (h:P (.om a)):force v P:=by subst hv;exact h
theorem g1 {a:Value} (hv:v=.oq a) (h:P (.oq a)):force v P:=by subst hv;exact h
theorem g2 (hv:v=.bM) (h:P .bM):force v P:=by subst hv;exact h
end
section
variable {c a b : AV} {t x y : Bool}
theorem k1 (hc:c=.fl (.bool t)) (h:jm t a b hp K):sC c a b hp K:=by subst hc;exact h
theorem k2 (ht:t=true) (h:K a hp):jm t a b hp K:=by
 subst ht
 unfold jm
 split
 ·exact h
 ·exact And.intro (fun _=>h) (fun e=>Bool.noConfusion e)
theorem k3 (ht:t=false) (h:K b hp):jm t a b hp K:=by
 subst ht
 unfold jm
 split
 ·exact h
 ·exact And.intro (fun e=>Bool.noConfusion e) (fun _=>h)
theorem k4 (ha:a=.fl (.bool x)) (hb:b=.fl (.bool y)) (h:K (.fl (.bool (bif t then x else y))) hp):jm t a b hp K:=by subst ha hb;exact h
end
section
variable {a b : AV} {m n : Int} {t : TypeId} {x y : Operand}
theorem b1 (ha:a=.fl (.int .i64 m)) (hb:b=.fl (.int .i64 n)) (hh:-9223372036854775808≤m+n∧m+n≤9223372036854775807) (h:K (.fl (.int .i64 (m+n))) hp):aL T .add t x y a b hp K:=by subst ha hb;exact ⟨hh,h⟩
theorem b2 (ha:a=.fl (.int .i64 m)) (hb:b=.fl (.int .i64 n)) (hh:-9223372036854775808≤m - n∧m - n≤9223372036854775807) (h:K (.fl (.int .i64 (m - n))) hp):aL T .sub t x y a b hp K:=by subst ha hb;exact ⟨hh,h⟩
theorem b3 (ha:a=.fl (.int .i64 m)) (hb:b=.fl (.int .i64 n)) (hh:-9223372036854775808≤m * n∧m * n≤9223372036854775807) (h:K (.fl (.int .i64 (m * n))) hp):aL T .mul t x y a b hp K:=by subst ha hb;exact ⟨hh,h⟩
theorem b4 (ha:a=.fl (.int .i64 m)) (hb:b=.fl (.int .i64 n)) (h:K (.fl (.bool (decide (m=n)))) hp):aL T .eql t x y a b hp K:=by subst ha hb;exact h
theorem b5 (ha:a=.fl (.int .i64 m)) (hb:b=.fl (.int .i64 n)) (h:K (.fl (.bool (!decide (m=n)))) hp):aL T .neq t x y a b hp K:=by subst ha hb;exact h
theorem b6 (ha:a=.fl (.int .i64 m)) (hb:b=.fl (.int .i64 n)) (h:K (.fl (.bool (decide (m < n)))) hp):aL T .lss t x y a b hp K:=by subst ha hb;exact h
theorem b7 (ha:a=.fl (.int .i64 m)) (hb:b=.fl (.int .i64 n)) (h:K (.fl (.bool (decide (m≤n)))) hp):aL T .leq t x y a b hp K:=by subst ha hb;exact h
theorem b8 (ha:a=.fl (.int .i64 m)) (hb:b=.fl (.int .i64 n)) (h:K (.fl (.bool (decide (n < m)))) hp):aL T .gtr t x y a b hp K:=by subst ha hb;exact h
theorem b9 (ha:a=.fl (.int .i64 m)) (hb:b=.fl (.int .i64 n)) (h:K (.fl (.bool (decide (n≤m)))) hp):aL T .geq t x y a b hp K:=by subst ha hb;exact h
theorem r1 (ha:a=.fl (.int .i64 m)) (hb:b=.fl (.int .i64 n)) (h0:0≤m∧1≤n) (h:K (.fl (.int .i64 (m % n))) hp):aL T .rem t x y a b hp K:=by
 subst ha hb;exact ⟨_,Lx h0.1 h0.2,rfl,h⟩
theorem r2 (ha:a=.fl (.int .i64 m)) (hb:b=.fl (.int .i64 n)) (h0:(0≤m∧m≤9223372036854775807)∧1≤n) (h:K (.fl (.int .i64 (m / n))) hp):aL T .quo t x y a b hp K:=by
 subst ha hb;exact ⟨_,Ly h0.1.1 h0.1.2 h0.2,rfl,h⟩
end
section
variable {v : AV} {t : TypeId}
theorem l1 {e:TypeId} {a1 a2 a3 a4 a5 a6} {els:List (List AV)} {f:Bool} (ht:T.ty.get t=some ⟨.slice e,a1,a2,a3,a4,a5,a6⟩) (h:K (.fl (.int .i64 els.length)) hp):qU T t (.sl els f) hp K:=by
 unfold qU;rw [ht];exact h
theorem l2 {e:TypeId} {a1 a2 a3 a4 a5 a6} {j aB o n c:Nat} (ht:T.ty.get t=some ⟨.slice e,a1,a2,a3,a4,a5,a6⟩) (h:K (.fl (.int .i64 n)) hp):qU T t (.bI j aB o n c) hp K:=by
 unfold qU;rw [ht];exact h
theorem l3 {a:List AV} {b:Nat} (hv:v=.pt a b) (h:K (.pt a b) hp):qS v hp K:=by subst hv;exact h
theorem l4 {a b c:Nat} (hv:v=.ptr a b c) (h:K (.ptr a b c) hp):qS v hp K:=by subst hv;exact h
end
end
section
variable {T : bz} {tab : List XE} {one : Bool} {mu : Tmp → Bool} {base : Nat} {E : Env} {hp : List AB} {aE : bG} {H : Hp} {ρ : Nat → Nat → Option Nat} {g : aH} {O O' : Nat → Prop}
theorem cS {a b:Code} {st:bK} {K:Exit→bK→Prop} (h:nt T tab one mu a st (vJ (fun s=>aA T tab one b s K) K)):aA T tab one (.seq a b) st K:=.seq (aa h)
def cE (j:Nat) (ρ:Nat→Nat→Option Nat):Nat→Nat→Option Nat:=fun i v=>if i=j then none else ρ i v
mutual
def AV.gO (j:Nat):AV→Bool
 | .fl _=>true
 | .sl _ _=>true
 | .pt _ _=>true
 | .fn _ a b=>vP j a && vP j b
 | .ag a=>vP j a
 | .tp a=>vP j a
 | .oq _=>true
 | .bM=>true
 | .ptr i _ _=>!Nat.beq i j
 | .bI i _ _ _ _=>!Nat.beq i j
 | .om i=>!Nat.beq i j
def vP (j:Nat):List AV→Bool
 | []=>true
 | a :: l=>a.gO j && vP j l
end
theorem cT {j:Nat}:∀ {l:List AV},vP j l=true→∀ (i:Nat) (a:AV),l[i]?=some a→a.gO j=true
 | [],_,i,a,h=>by cases h
 | x :: l,h,i,a,ha=>by
  simp only [vP,Bool.and_eq_true] at h
  cases i with
  | zero=>cases ha;exact h.1
  | succ i=>exact cT h.2 i a (by simpa using ha)
theorem fF {i j:Nat} (h:(!Nat.beq i j)=true):i ≠ j:=by
 intro e
 subst e
 rw [Nat.beq_refl] at h
 cases h
theorem AR.gO {j:Nat} (hO:∀ k,O' k→O k) {v:AV} {u:Value} (h:AR ρ g O v u):v.gO j=true→AR (cE j ρ) g O' v u:=by
 induction h with
 | d h=>intro _;exact .d (h.mono fun k b hk ho=>⟨hk,fun h=>ho (hO k h)⟩)
 | bM=>intro _;exact .bM
 | ptr h=>intro hd;simp only [AV.gO] at hd;exact .ptr (by rw [cE,if_neg (fF hd)];exact h)
 | bI h=>intro hd;simp only [AV.gO] at hd;exact .bI (by rw [cE,if_neg (fF hd)];exact h)
 | pV=>intro _;exact .pV
 | om h=>intro hd;simp only [AV.gO] at hd;exact .om (by rw [cE,if_neg (fF hd)];exact h)
 | fn ha hb h1 h2 ih1 ih2 =>
  intro hd
  simp only [AV.gO,Bool.and_eq_true] at hd
  exact .fn ha hb (fun i x u hx hu=>ih1 i x u hx hu (cT hd.1 i x hx)) (fun i x u hx hu=>ih2 i x u hx hu (cT hd.2 i x hx))
 | ag ha h1 ih=>intro hd;simp only [AV.gO] at hd;exact .ag ha (fun i x u hx hu=>ih i x u hx hu (cT hd i x hx))
 | tp ha h1 ih=>intro hd;simp only [AV.gO] at hd;exact .tp ha (fun i x u hx hu=>ih i x u hx hu (cT hd i x hx))
def AB.gO (j:Nat):AB→Bool
 | .cells cs _ _=>vP j cs
 | .dy _ _=>true
 | .map aI _=>aI.all fun p=>p.1.gO j && p.2.1.gO j
 | .iter i _ _ _=>!Nat.beq i j
 | .gone=>true
inductive Gv (j aB:Nat) (cs:List AV):AV→AV→Prop
 | same {a:AV}:a.gO j=true→Gv j aB cs a a
 | ptr {o:Nat}:Gv j aB cs (.ptr j aB o) (.pt cs o)
 | row {o n c:Nat} {els:List (List AV)} {b:Bool} (es:Nat):o+n * es≤cs.length→els.length=n→(∀ el ∈ els,el.length=es)→els.flatten=(cs.drop o).take (n * es)→(b=true→c=n)→Gv j aB cs (.bI j aB o n c) (.sl els b)
 | bM {a:AV}:Gv j aB cs a .bM
def Aa (j aB:Nat) (cs:List AV) (fr:Nat→AV):List (Nat × AV)→Prop
 | []=>True
 | (i,v) :: l=>Gv j aB cs (fr i) v∧Aa j aB cs fr l
theorem Fh {j aB:Nat} {cs:List AV} {fr:Nat→AV}:∀ {l:List (Nat × AV)},Aa j aB cs fr l→∀ t,Gv j aB cs (fr t) (bx l t)
 | [],_,t=>.bM
 | (i,v) :: l,h,t=>by
  unfold bx
  rw [Tr.beq_eq]
  by_cases hti:t=i
  ·rw [decide_eq_true hti,hti]
   exact h.1
  ·rw [decide_eq_false hti]
   exact Fh h.2 t
theorem aj.Sb {st:bK} {l:List (Nat × AV)} {j aB es:Nat} {cs:List AV} (hj:st.hp[j]?=some (.cells cs es aB)) (hn:st.fl≤j) (hd:cJ cs=true) (hs:Aa j aB cs st.fr l) (hb:∀ (i:Nat) (b:AB),st.hp[i]?=some b→i ≠ j→b.gO j=true) :
  aj st ⟨bx l,st.hp.set j .gone,st.aE,st.rd,st.fl⟩:=by
 have hlt:j < st.hp.length:=(List.getElem?_eq_some_iff.1 hj).1
 refine ⟨rfl,fun E base s hs'=>?_⟩
 have hr:=hs'.h
 have hget:∀ (i:Nat) (b:AB) (aB:Nat),(st.hp.set j .gone)[i]?=some b→b.ver?=some aB→i ≠ j∧st.hp[i]?=some b:=by
  intro i b aB hi hv
  by_cases hij:i=j
  ·subst hij;rw [List.getElem?_set_self hlt] at hi;cases hi;cases hv
  ·rw [List.getElem?_set_ne (Ne.symm hij)] at hi;exact ⟨hij,hi⟩
 have hdr:∀ {i v k:Nat},cE j E.ρ i v=some k→i ≠ j∧E.ρ i v=some k:=by
  intro i v k h
  unfold cE at h
  split at h
  ·cases h
  ·rename_i hne;exact ⟨hne,h⟩
 have hown:∀ k,Own (cE j E.ρ) (st.hp.set j .gone) k→Own E.ρ st.hp k:=by
  rintro k ⟨i,b,v,h1,h2,h3⟩
  exact ⟨i,b,v,(hget i b v h1 h2).2,h2,(hdr h3).2⟩
 have hOs:∀ k,({E with ρ:=cE j E.ρ}:Env).O (st.hp.set j .gone) k→E.O st.hp k:=fun k h=>h.imp (hown k) id
 have hpt:∀ {o:Nat} {u:Value},AR E.ρ s.hp.get (E.O st.hp) (.ptr j aB o) u→AR (cE j E.ρ) s.hp.get (({E with ρ:=cE j E.ρ}:Env).O (st.hp.set j .gone)) (.pt cs o) u:=by
  intro o u h
  obtain ⟨k,hk,rfl⟩:=h.cW
  obtain ⟨cs',q1,q2⟩:=hr.cells hj hk
  have hnO:¬ ({E with ρ:=cE j E.ρ}:Env).O (st.hp.set j .gone) k:=by
   rintro (⟨i,b,v,h1,h2,h3⟩|hx)
   ·have:=hdr h3
    exact this.1 (hr.inj i j v aB k this.2 hk)
   ·exact hr.gZ k ⟨j,_,aB,hj,rfl,hk⟩ hx
  have:=q2.deep hd
  refine .d (?_:DR _ _ (.pt cs o) (.pointer (some ⟨k,o,none⟩)))
  have h0:DR s.hp.get (({E with ρ:=cE j E.ρ}:Env).O (st.hp.set j .gone)) (.pt cs o) (.pointer (some ⟨k,0+o,none⟩)) :=
   .pt q1 hnO (by rw [Nat.zero_add,this.1];exact Nat.le_refl _) (fun i a u x y=>(this.2 i a u x (by rw [Nat.zero_add] at y;exact y)).mono fun k b hk ho=>⟨hk,fun h=>ho (hOs k h)⟩)
  rw [Nat.zero_add] at h0
  exact h0
 have hrow:∀ {o n c:Nat} {els:List (List AV)} {b:Bool} {u:Value} (es:Nat),o+n * es≤cs.length→els.length=n→(∀ el ∈ els,el.length=es)→els.flatten=(cs.drop o).take (n * es)→(b=true→c=n)→AR E.ρ s.hp.get (E.O st.hp) (.bI j aB o n c) u →
   AR (cE j E.ρ) s.hp.get (({E with ρ:=cE j E.ρ}:Env).O (st.hp.set j .gone)) (.sl els b) u:=by
  intro o n c els b u es g1 g2 g3 g4 g5 h
  rcases h.eH with ⟨k,hk,rfl⟩|⟨rfl,rfl,rfl⟩
  ·obtain ⟨cs',q1,q2⟩:=hr.cells hj hk
   have hnO:¬ ({E with ρ:=cE j E.ρ}:Env).O (st.hp.set j .gone) k:=by
    rintro (⟨i,b,v,h1,h2,h3⟩|hx)
    ·have:=hdr h3
     exact this.1 (hr.inj i j v aB k this.2 hk)
    ·exact hr.gZ k ⟨j,_,aB,hj,rfl,hk⟩ hx
   have hdp:=q2.deep hd
   refine .d (.sl (es:=es) q1 hnO (by rw [←q2.1];exact g1) g2 (fun i el he=>g3 el (List.mem_of_getElem? he)) (fun i el jj a u he hx hu=>?_) g5)
   have hjj:jj < es:=by rw [←g3 el (List.mem_of_getElem? he)];exact (List.getElem?_eq_some_iff.1 hx).1
   have hat:=fN g3 i el jj he hjj
   have hi:i < n:=by rw [←g2];exact (List.getElem?_eq_some_iff.1 he).1
   rw [g4,List.getElem?_take,List.getElem?_drop] at hat
   have hlt:i * es+jj < n * es:=by
    have:(i+1) * es≤n * es:=Nat.mul_le_mul_right _ hi
    rw [Nat.add_mul,Nat.one_mul] at this
    omega
   rw [if_pos hlt,hx,←Nat.add_assoc] at hat
   exact (hdp.2 _ a u hat hu).mono fun k b hk ho=>⟨hk,fun h=>ho (hOs k h)⟩
  ·simp only [List.length_eq_zero_iff] at g2
   subst g2
   exact .d .nil
 have hgv:∀ {a b:AV} {u:Value},Gv j aB cs a b→AR E.ρ s.hp.get (E.O st.hp) a u→AR (cE j E.ρ) s.hp.get (({E with ρ:=cE j E.ρ}:Env).O (st.hp.set j .gone)) b u:=by
  intro a b u hg h
  cases hg with
  | same hn=>exact h.gO hOs hn
  | ptr=>exact hpt h
  | row es g1 g2 g3 g4 g5=>exact hrow es g1 g2 g3 g4 g5 h
  | bM=>exact .bM
 refine ⟨{E with ρ:=cE j E.ρ},⟨⟨hr.wf,fun i b v hi hv=>?_,fun i i' v v' k h1 h2=>hr.inj i i' v v' k (hdr h1).2 (hdr h2).2,fun i v k hk=>hr.rn i v k (hdr hk).2,fun i b v w h1 h2 h3=>?_,fun i v hi=>?_,fun k hk=>hr.sup k (hown k hk),fun k hk=>hr.gZ k (hown k hk),hr.dx,hr.ds,hr.sn,hr.xn,fun k hk=>hr.nJ k (hk.imp (hown k) id),hr.bn,hr.aE⟩,hs'.rd,fun t=>hgv (Fh hs t) (hs'.fr t)⟩,
  ⟨Nat.le_refl _,fun i v k hi hk=>?_,fun k hk=>.inl (hown k hk),fun _ h=>.inl h,fun _ h=>.inl h,fun _ h=>h,fun _ h=>.inl h,fun _ _ _ _=>rfl,Nat.min_le_left _ _⟩⟩
 ·obtain ⟨hij,hi'⟩:=hget i b v hi hv
  have hbn:=hb i b hi' hij
  rcases hr.fU i b v hi' hv with ⟨k,b',q1,q2,q3⟩|⟨q1,q2⟩
  ·refine .inl ⟨k,b',by show cE j E.ρ i v=_;rw [cE,if_neg hij];exact q1,q2,?_⟩
   cases b with
   | cells cs2 es2 ver2 =>
    obtain ⟨cs',rfl,h⟩:=q3
    exact ⟨cs',rfl,h.1,fun i a u ha hu=>(h.2 i a u ha hu).gO hOs (cT hbn i a ha)⟩
   | dy p q=>exact q3
   | map aI clock =>
    obtain ⟨es,rfl,h1,h2⟩:=q3
    refine ⟨es,rfl,h1,fun i k v born x hx hy=>?_⟩
    simp only [AB.gO,List.all_eq_true,Bool.and_eq_true] at hbn
    have:=hbn _ (List.mem_of_getElem? hx)
    exact ⟨(h2 i k v born x hx hy).1.gO hOs this.1,(h2 i k v born x hx hy).2.1.gO hOs this.2,(h2 i k v born x hx hy).2.2⟩
   | iter i2 since seen stepped =>
    obtain ⟨m,rfl,h⟩:=q3
    exact ⟨m,rfl,by show cE j E.ρ i2 0=_;rw [cE,if_neg (fF hbn)];exact h⟩
   | gone=>exact q3
  ·exact .inr ⟨by show cE j E.ρ i v=_;rw [cE,if_neg hij];exact q1,q2⟩
 ·obtain ⟨hij,h1⟩:=hget i b v h1 h2
  show cE j E.ρ i w=none
  rw [cE,if_neg hij];exact hr.fresh i b v w h1 h2 h3
 ·show cE j E.ρ i v=none
  unfold cE
  split
  ·rfl
  ·exact hr.new i v (by simpa using hi)
 ·show cE j E.ρ i v=some k
  rw [cE,if_neg (by omega)];exact hk
def vQ (j:Nat):Nat→List AB→Bool
 | _,[]=>true
 | i,b :: l=>(Nat.beq i j || b.gO j) && vQ j (i+1) l
theorem vR {j:Nat}:∀ {l:List AB} {i0:Nat},vQ j i0 l=true→∀ (i:Nat) (b:AB),l[i]?=some b→i0+i ≠ j→b.gO j=true
 | [],_,_,i,b,h,_=>by cases h
 | x :: l,i0,h,i,b,hb,hne=>by
  simp only [vQ,Bool.and_eq_true,Bool.or_eq_true] at h
  cases i with
  | zero =>
   cases hb
   rcases h.1 with h|h
   ·exact absurd (Nat.eq_of_beq_eq_true h) hne
   ·exact h
  | succ i=>exact vR h.2 i b (by simpa using hb) (by omega)
theorem aj.giveUp {st:bK} {l:List (Nat × AV)} (j:Nat) {aB es:Nat} {cs:List AV} {hp:List AB} (hj:st.hp[j]?=some (.cells cs es aB)) (hn:st.fl≤j) (hd:cJ cs=true) (hs:Aa j aB cs st.fr l) (hb:vQ j 0 st.hp=true) (hh:st.hp.set j .gone=hp) :
  aj st ⟨bx l,hp,st.aE,st.rd,st.fl⟩:=by
 subst hh
 exact aj.Sb hj hn hd hs fun i b h hne=>vR hb i b h (by omega)
end
theorem bO.qb {j aB c:Nat}:bO (.fl (.slice none 0 0)) (.bI j aB 0 0 c):=fun _ _ _ u h=>by
 rw [h.dL.1]
 exact .pV
theorem aj.qc {st:bK} (es:Nat):aj st ⟨st.fr,st.hp++[.cells [] es 0],st.aE,st.rd,st.fl⟩:=by
 refine ⟨rfl,fun E base s hs=>?_⟩
 have hr:=hs.h
 have hget:∀ (i:Nat) (b:AB),(st.hp++[AB.cells [] es 0])[i]?=some b→(i < st.hp.length∧st.hp[i]?=some b)∨(i=st.hp.length∧b=.cells [] es 0):=by
  intro i b hi
  by_cases hlt:i < st.hp.length
  ·rw [List.getElem?_append_left hlt] at hi;exact .inl ⟨hlt,hi⟩
  ·rw [List.getElem?_append_right (by omega)] at hi
   have h0:i - st.hp.length=0:=by
    apply Nat.eq_zero_of_not_pos
    intro hp0
    rw [List.getElem?_eq_none (by simp;omega)] at hi
    cases hi
   rw [h0] at hi
   cases hi
   exact .inr ⟨by omega,rfl⟩
 have hown:∀ k,Own E.ρ (st.hp++[.cells [] es 0]) k→Own E.ρ st.hp k:=by
  rintro k ⟨i,b,v,h1,h2,h3⟩
  rcases hget i b h1 with ⟨_,h1⟩|⟨rfl,rfl⟩
  ·exact ⟨i,b,v,h1,h2,h3⟩
  ·rw [hr.new _ v (Nat.le_refl _)] at h3;cases h3
 have hO:∀ k,E.O (st.hp++[.cells [] es 0]) k→E.O st.hp k:=fun k h=>h.imp (hown k) id
 have keep:∀ k b,s.hp.get k=some b→¬ E.O st.hp k→s.hp.get k=some b∧¬ E.O (st.hp++[.cells [] es 0]) k:=fun k b hk ho=>⟨hk,fun h=>ho (hO k h)⟩
 have har:∀ {v:AV} {u:Value},AR E.ρ s.hp.get (E.O st.hp) v u→AR E.ρ s.hp.get (E.O (st.hp++[.cells [] es 0])) v u:=fun h=>h.mono (fun _ _ _ h=>h) keep
 refine ⟨E,⟨⟨hr.wf,fun i b v hi hv=>?_,hr.inj,hr.rn,fun i b v w h1 h2 h3=>?_,fun i v hi=>hr.new i v (by simp at hi;omega),fun k hk=>hr.sup k (hown k hk),fun k hk=>hr.gZ k (hown k hk),hr.dx,hr.ds,hr.sn,hr.xn,fun k hk=>hr.nJ k (hk.imp (hown k) id),hr.bn,hr.aE⟩,hs.rd,fun t=>har (hs.fr t)⟩,
  ⟨Nat.le_refl _,fun _ _ _ _ h=>h,fun k hk=>.inl (hown k hk),fun _ h=>.inl h,fun _ h=>.inl h,fun _ h=>h,fun _ h=>.inl h,fun _ _ _ _=>rfl,Nat.min_le_left _ _⟩⟩
 ·rcases hget i b hi with ⟨_,hi'⟩|⟨rfl,rfl⟩
  ·rcases hr.fU i b v hi' hv with ⟨k,b',q1,q2,q3⟩|q
   ·refine .inl ⟨k,b',q1,q2,?_⟩
    cases b with
    | cells cs2 es2 ver2 =>
     obtain ⟨cs',rfl,h⟩:=q3
     exact ⟨cs',rfl,h.1,fun i a u ha hu=>har (h.2 i a u ha hu)⟩
    | dy p q=>exact q3
    | map aI clock =>
     obtain ⟨es,rfl,h1,h2⟩:=q3
     exact ⟨es,rfl,h1,fun i k v born x hx hy=>⟨har (h2 i k v born x hx hy).1,har (h2 i k v born x hx hy).2.1,(h2 i k v born x hx hy).2.2⟩⟩
    | iter i2 since seen stepped=>exact q3
    | gone=>exact q3
   ·exact .inr q
  ·cases hv
   exact .inr ⟨hr.new _ _ (Nat.le_refl _),es,rfl⟩
 ·rcases hget i b h1 with ⟨_,h1⟩|⟨rfl,rfl⟩
  ·exact hr.fresh i b v w h1 h2 h3
  ·exact hr.new _ _ (Nat.le_refl _)
theorem q1 {σ:Type} {P:σ→Prop} {I:σ→bK} {m:σ→Nat} {K:Exit→bK→Prop} {x:σ} {s:bK} (h:K .ret s):JL P I m K x .ret s:=h
theorem q2 {σ:Type} {P:σ→Prop} {I:σ→bK} {m:σ→Nat} {K:Exit→bK→Prop} {x:σ} {s:bK} {id:Nat} (h:K (.exit id) s):JL P I m K x (.exit id) s:=h
theorem aj.O9 {st:bK} (j:Nat) {es aB:Nat} {cs ds:List AV} {hp:List AB} (hj:st.hp[j]?=some (.cells cs es aB)) (hs:dS cs ds) (hh:st.hp.set j (.cells ds es aB)=hp):aj st ⟨st.fr,hp,st.aE,st.rd,st.fl⟩:=by
 subst hh
 refine ⟨rfl,fun E base s hs'=>?_⟩
 have hr:=hs'.h
 have hlt:j < st.hp.length:=(List.getElem?_eq_some_iff.1 hj).1
 have hget:∀ (i:Nat) (b:AB),(st.hp.set j (.cells ds es aB))[i]?=some b→(i ≠ j∧st.hp[i]?=some b)∨(i=j∧b=.cells ds es aB):=by
  intro i b hi
  by_cases he:i=j
  ·subst he
   rw [List.getElem?_set_self hlt] at hi
   cases hi
   exact .inr ⟨rfl,rfl⟩
  ·rw [List.getElem?_set_ne (Ne.symm he)] at hi
   exact .inl ⟨he,hi⟩
 have hown:∀ k,Own E.ρ (st.hp.set j (.cells ds es aB)) k→Own E.ρ st.hp k:=by
  rintro k ⟨i,b,v,h1,h2,h3⟩
  rcases hget i b h1 with ⟨_,h1⟩|⟨rfl,rfl⟩
  ·exact ⟨i,b,v,h1,h2,h3⟩
  ·cases h2
   exact ⟨i,_,_,hj,rfl,h3⟩
 have hO:∀ k,E.O (st.hp.set j (.cells ds es aB)) k→E.O st.hp k:=fun k h=>h.imp (hown k) id
 have keep:∀ k b,s.hp.get k=some b→¬ E.O st.hp k→s.hp.get k=some b∧¬ E.O (st.hp.set j (.cells ds es aB)) k:=fun k b hk ho=>⟨hk,fun h=>ho (hO k h)⟩
 have har:∀ {v:AV} {u:Value},AR E.ρ s.hp.get (E.O st.hp) v u→AR E.ρ s.hp.get (E.O (st.hp.set j (.cells ds es aB))) v u:=fun h=>h.mono (fun _ _ _ h=>h) keep
 refine ⟨E,⟨⟨hr.wf,fun i b v hi hv=>?_,hr.inj,hr.rn,fun i b v w h1 h2 h3=>?_,fun i v hi=>hr.new i v (by simpa using hi),fun k hk=>hr.sup k (hown k hk),fun k hk=>hr.gZ k (hown k hk),hr.dx,hr.ds,hr.sn,hr.xn,fun k hk=>hr.nJ k (hk.imp (hown k) id),hr.bn,hr.aE⟩,hs'.rd,fun t=>har (hs'.fr t)⟩,
  ⟨Nat.le_refl _,fun _ _ _ _ h=>h,fun k hk=>.inl (hown k hk),fun _ h=>.inl h,fun _ h=>.inl h,fun _ h=>h,fun _ h=>.inl h,fun _ _ _ _=>rfl,Nat.min_le_left _ _⟩⟩
 ·rcases hget i b hi with ⟨_,hi'⟩|⟨rfl,rfl⟩
  ·rcases hr.fU i b v hi' hv with ⟨k,b',q1,q2,q3⟩|q
   ·refine .inl ⟨k,b',q1,q2,?_⟩
    cases b with
    | cells cs2 es2 ver2 =>
     obtain ⟨cs',rfl,h⟩:=q3
     exact ⟨cs',rfl,h.1,fun i a u ha hu=>har (h.2 i a u ha hu)⟩
    | dy p q=>exact q3
    | map aI clock =>
     obtain ⟨es,rfl,h1,h2⟩:=q3
     exact ⟨es,rfl,h1,fun i k v born x hx hy=>⟨har (h2 i k v born x hx hy).1,har (h2 i k v born x hx hy).2.1,(h2 i k v born x hx hy).2.2⟩⟩
    | iter i2 since seen stepped=>exact q3
    | gone=>exact q3
   ·exact .inr q
  ·cases hv
   rcases hr.fU i _ aB hj rfl with ⟨k,b',q1,q2,q3⟩|⟨q1,es',q2⟩
   ·refine .inl ⟨k,b',q1,q2,?_⟩
    obtain ⟨cs',rfl,h⟩:=q3
    have h':=dS.AE hs h
    exact ⟨cs',rfl,h'.1,fun i a u ha hu=>har (h'.2 i a u ha hu)⟩
   ·cases q2
    cases ds with
    | nil=>exact .inr ⟨q1,_,rfl⟩
    | cons a l=>exact hs.elim
 ·rcases hget i b h1 with ⟨_,h1⟩|⟨rfl,rfl⟩
  ·exact hr.fresh i b v w h1 h2 h3
  ·cases h2
   exact hr.fresh i _ _ w hj rfl h3
theorem B9 {α:Type} {l:List α} {j:Nat} {a:α} (h:l[j]?=some a):l.set j a=l:=by
 apply List.ext_getElem?
 intro i
 rw [List.getElem?_set]
 split
 ·rename_i hij
  subst hij
  rw [h]
  split
  ·rfl
  ·rename_i hn
   exact absurd (List.getElem?_eq_some_iff.1 h).1 hn
 ·rfl
theorem Lz {hp:List AB} {es bs:Nat} {x:AV} {els:List (List AV)} {j aB n c:Nat} {cs:List AV} {K:AV→List AB→Prop} (hx:BU hp es x els) (h1:els.flatten.all AV.one=true) (hj:hp[j]?=some (.cells cs es aB)) (hl:cs.length=n * es) (hc:c=n∨c=n+1)
  (hb:(n+els.length) * bs≤140737488355328∧n+els.length≤9223372036854775807) (hk:∀ v c',(c'=n+els.length∨c'=n+els.length+1)→K (.bI j v 0 (n+els.length) c') (hp.set j (.cells (cs++els.flatten) es v))) :
  ∃ els,BU hp es x els∧els.flatten.all AV.one=true∧∃ cs,hp[j]?=some (.cells cs es aB)∧cs.length=n * es∧(c=n∨c=n+1)∧((n+els.length) * bs≤140737488355328∧n+els.length≤9223372036854775807)∧(els=[]→K (.bI j aB 0 n c) hp) ∧
   (els ≠ []→K (.bI j (aB+1) 0 (n+els.length) (n+els.length+1)) (hp.set j (.cells (cs++els.flatten) es (aB+1)))):=by
 refine ⟨els,hx,h1,cs,hj,hl,hc,hb,fun he=>?_,fun _=>hk _ _ (.inr rfl)⟩
 subst he
 have h2:=hk aB c (by simpa using hc)
 rw [List.flatten_nil,List.append_nil,B9 hj] at h2
 exact h2
theorem DP {T:bz} {own:Bool} {fr:Nat→AV} {hp:List AB} {K:AV→List AB→Prop} {s x:Operand} {t u e:TypeId} {a1 a2 a3 a4 a5 a6} {j aB n c:Nat} {els:List (List AV)} {f:Bool} {cs:List AV} {inf:rM} (hs:aN fr s=.bI j aB 0 n c) (hx:aN fr x=.sl els f)
  (hu:T.ty.get u=some ⟨.slice e,a1,a2,a3,a4,a5,a6⟩) (hi:elem? T t=some inf) (hz:bl inf=true) (hel:∀ el ∈ els,el.length=inf.size) (h1:els.flatten.all AV.one=true) (hj:hp[j]?=some (.cells cs inf.size aB)) (hl:cs.length=n * inf.size) (hc:c=n∨c=n+1)
  (hb:(n+els.length) * inf.bytes≤140737488355328∧n+els.length≤9223372036854775807) (hk:∀ v c',(c'=n+els.length∨c'=n+els.length+1)→K (.bI j v 0 (n+els.length) c') (hp.set j (.cells (cs++els.flatten) inf.size v))) :
  RM.wpOp T own (.call ⟨.builtin .append,[s,x].toArray,[t,u].toArray⟩) fr hp K:=by
 show force (aN fr s) fun a=>force (aN fr x) fun b=>gh T own .append [a,b] [t,u] hp K
 rw [hs,hx]
 show (match T.ty.get u with|some ⟨.slice _,_,_,_,_,_,_⟩=>fP T own t (.bI j aB 0 n c) (.sl els f) hp K|_=>False)
 rw [hu]
 show fP T own t (.bI j aB 0 n c) (.sl els f) hp K
 unfold fP
 rw [hi]
 exact ⟨hz,Lz (hp:=hp) (K:=K) ⟨hel,rfl⟩ h1 hj hl hc hb hk⟩
section
variable {T : bz} {tab : List XE} {one : Bool} {base : Nat} {E : Env} {hp : List AB} {aE : bG} {H : Hp} {ρ : Nat → Nat → Option Nat} {g : aH} {O O' : Nat → Prop}
def bf (a b:Nat) (ρ:Nat→Nat→Option Nat):Nat→Nat→Option Nat:=fun i v=>if i=a then ρ b v else if i=b then none else ρ i v
theorem AR.move {a b:Nat} (hO:∀ k,O' k→O k) {v:AV} {u:Value} (h:AR ρ g O v u):v.gO a=true→v.gO b=true→AR (bf a b ρ) g O' v u:=by
 have hm:∀ {i w:Nat},i ≠ a→i ≠ b→bf a b ρ i w=ρ i w:=fun {i w} h1 h2=>by unfold bf;rw [if_neg h1,if_neg h2]
 induction h with
 | d h=>intro _ _;exact .d (h.mono fun k b hk ho=>⟨hk,fun hx=>ho (hO k hx)⟩)
 | bM=>intro _ _;exact .bM
 | ptr h=>intro h1 h2;exact .ptr (by rw [hm (fF h1) (fF h2)];exact h)
 | bI h=>intro h1 h2;exact .bI (by rw [hm (fF h1) (fF h2)];exact h)
 | pV=>intro _ _;exact .pV
 | om h=>intro h1 h2;exact .om (by rw [hm (fF h1) (fF h2)];exact h)
 | fn ha hb h1 h2 ih1 ih2 =>
  intro n1 n2
  simp only [AV.gO,Bool.and_eq_true] at n1 n2
  exact .fn ha hb (fun i x u hx hu=>ih1 i x u hx hu (cT n1.1 i x hx) (cT n2.1 i x hx)) (fun i x u hx hu=>ih2 i x u hx hu (cT n1.2 i x hx) (cT n2.2 i x hx))
 | ag ha h1 ih=>intro n1 n2;simp only [AV.gO] at n1 n2;exact .ag ha (fun i x u hx hu=>ih i x u hx hu (cT n1 i x hx) (cT n2 i x hx))
 | tp ha h1 ih=>intro n1 n2;simp only [AV.gO] at n1 n2;exact .tp ha (fun i x u hx hu=>ih i x u hx hu (cT n1 i x hx) (cT n2 i x hx))
inductive Mv (a b:Nat):AV→AV→Prop
 | same {v:AV}:v.gO a=true→v.gO b=true→Mv a b v v
 | ptr {aB o:Nat}:Mv a b (.ptr b aB o) (.ptr a aB o)
 | bI {aB o n c:Nat}:Mv a b (.bI b aB o n c) (.bI a aB o n c)
 | bM {v:AV}:Mv a b v .bM
def vS (a b:Nat) (fr:Nat→AV):List (Nat × AV)→Prop
 | []=>True
 | (i,v) :: l=>Mv a b (fr i) v∧vS a b fr l
theorem Ab {a b:Nat} {fr:Nat→AV}:∀ {l:List (Nat × AV)},vS a b fr l→∀ t,Mv a b (fr t) (bx l t)
 | [],_,t=>.bM
 | (i,v) :: l,h,t=>by
  unfold bx
  rw [Tr.beq_eq]
  by_cases hti:t=i
  ·rw [decide_eq_true hti,hti]
   exact h.1
  ·rw [decide_eq_false hti]
   exact Ab h.2 t
theorem aj.move {st:bK} {l:List (Nat × AV)} (a b:Nat) {x y:AB} (hab:a ≠ b) (hja:st.hp[a]?=some y) (hjb:st.hp[b]?=some x) (hn:st.fl≤a) (hn2:st.fl≤b) (hs:vS a b st.fr l)
  (hb:∀ (i:Nat) (z:AB),st.hp[i]?=some z→i ≠ a→z.gO a=true∧z.gO b=true) :
  aj st ⟨bx l,(st.hp.set a x).set b .gone,st.aE,st.rd,st.fl⟩:=by
 have hla:a < st.hp.length:=(List.getElem?_eq_some_iff.1 hja).1
 have hlb:b < st.hp.length:=(List.getElem?_eq_some_iff.1 hjb).1
 refine ⟨rfl,fun E base s hs'=>?_⟩
 have hr:=hs'.h
 have hget:∀ (i:Nat) (z:AB) (aB:Nat),((st.hp.set a x).set b .gone)[i]?=some z→z.ver?=some aB→(i=a∧z=x)∨(i ≠ a∧i ≠ b∧st.hp[i]?=some z):=by
  intro i z aB hi hv
  by_cases hib:i=b
  ·subst hib
   rw [List.getElem?_set_self (by rw [List.length_set];exact hlb)] at hi
   cases hi;cases hv
  ·rw [List.getElem?_set_ne (Ne.symm hib)] at hi
   by_cases hia:i=a
   ·subst hia
    rw [List.getElem?_set_self hla] at hi
    cases hi;exact .inl ⟨rfl,rfl⟩
   ·rw [List.getElem?_set_ne (Ne.symm hia)] at hi
    exact .inr ⟨hia,hib,hi⟩
 have hma:∀ {v:Nat},bf a b E.ρ a v=E.ρ b v:=fun {v}=>by unfold bf;rw [if_pos rfl]
 have hmo:∀ {i v:Nat},i ≠ a→i ≠ b→bf a b E.ρ i v=E.ρ i v:=fun {i v} h1 h2=>by unfold bf;rw [if_neg h1,if_neg h2]
 have hmi:∀ {i v k:Nat},bf a b E.ρ i v=some k→(i=a∧E.ρ b v=some k)∨(i ≠ a∧i ≠ b∧E.ρ i v=some k):=by
  intro i v k h
  unfold bf at h
  split at h
  ·rename_i h1;exact .inl ⟨h1,h⟩
  ·split at h
   ·cases h
   ·rename_i h1 h2;exact .inr ⟨h1,h2,h⟩
 have hown:∀ k,Own (bf a b E.ρ) ((st.hp.set a x).set b .gone) k→Own E.ρ st.hp k:=by
  rintro k ⟨i,z,v,h1,h2,h3⟩
  rcases hget i z v h1 h2 with ⟨rfl,rfl⟩|⟨n1,n2,h4⟩
  ·rw [hma] at h3;exact ⟨b,_,v,hjb,h2,h3⟩
  ·rw [hmo n1 n2] at h3;exact ⟨i,z,v,h4,h2,h3⟩
 have hOs:∀ k,({E with ρ:=bf a b E.ρ}:Env).O ((st.hp.set a x).set b .gone) k→E.O st.hp k:=fun k h=>h.imp (hown k) id
 have hmv:∀ {v w:AV} {u:Value},Mv a b v w→AR E.ρ s.hp.get (E.O st.hp) v u→AR (bf a b E.ρ) s.hp.get (({E with ρ:=bf a b E.ρ}:Env).O ((st.hp.set a x).set b .gone)) w u:=by
  intro v w u hm h
  cases hm with
  | same n1 n2=>exact h.move hOs n1 n2
  | ptr =>
   obtain ⟨k,hk,rfl⟩:=h.cW
   exact .ptr (by rw [hma];exact hk)
  | bI =>
   rcases h.eH with ⟨k,hk,rfl⟩|⟨rfl,rfl,rfl⟩
   ·exact .bI (by rw [hma];exact hk)
   ·exact .pV
  | bM=>exact .bM
 have hbr:∀ (z:AB) (z':bg),z.gO a=true→z.gO b=true→BR E.ρ s.hp.get (E.O st.hp) z z'→BR (bf a b E.ρ) s.hp.get (({E with ρ:=bf a b E.ρ}:Env).O ((st.hp.set a x).set b .gone)) z z':=by
  intro z z' n1 n2 q3
  cases z with
  | cells cs2 es2 ver2 =>
   obtain ⟨cs',rfl,h⟩:=q3
   exact ⟨cs',rfl,h.1,fun i v u ha hu=>(h.2 i v u ha hu).move hOs (cT n1 i v ha) (cT n2 i v ha)⟩
  | dy p q=>exact q3
  | map aI clock =>
   obtain ⟨es,rfl,h1,h2⟩:=q3
   refine ⟨es,rfl,h1,fun i k v born e hx hy=>?_⟩
   simp only [AB.gO,List.all_eq_true,Bool.and_eq_true] at n1 n2
   have m1:=n1 _ (List.mem_of_getElem? hx)
   have m2:=n2 _ (List.mem_of_getElem? hx)
   exact ⟨(h2 i k v born e hx hy).1.move hOs m1.1 m2.1,(h2 i k v born e hx hy).2.1.move hOs m1.2 m2.2,(h2 i k v born e hx hy).2.2⟩
  | iter i2 since seen stepped =>
   obtain ⟨m,rfl,h⟩:=q3
   exact ⟨m,rfl,by show bf a b E.ρ i2 0=_;rw [hmo (fF n1) (fF n2)];exact h⟩
  | gone=>exact q3
 refine ⟨{E with ρ:=bf a b E.ρ},⟨⟨hr.wf,fun i z v hi hv=>?_,fun i i' v v' k h1 h2=>?_,fun i v k hk=>?_,fun i z v w h1 h2 h3=>?_,fun i v hi=>?_,fun k hk=>hr.sup k (hown k hk),fun k hk=>hr.gZ k (hown k hk),hr.dx,hr.ds,hr.sn,hr.xn,fun k hk=>hr.nJ k (hk.imp (hown k) id),hr.bn,hr.aE⟩,hs'.rd,fun t=>hmv (Ab hs t) (hs'.fr t)⟩,
  ⟨Nat.le_refl _,fun i v k hi hk=>?_,fun k hk=>.inl (hown k hk),fun _ h=>.inl h,fun _ h=>.inl h,fun _ h=>h,fun _ h=>.inl h,fun _ _ _ _=>rfl,Nat.min_le_left _ _⟩⟩
 ·rcases hget i z v hi hv with ⟨rfl,rfl⟩|⟨n1,n2,h4⟩
  ·have hz:=hb b _ hjb (Ne.symm hab)
   rcases hr.fU b _ v hjb hv with ⟨k,b',q1,q2,q3⟩|⟨q1,q2⟩
   ·exact .inl ⟨k,b',by show bf _ b E.ρ _ v=_;rw [hma];exact q1,q2,hbr _ _ hz.1 hz.2 q3⟩
   ·exact .inr ⟨by show bf _ b E.ρ _ v=_;rw [hma];exact q1,q2⟩
  ·have hz:=hb i z h4 n1
   rcases hr.fU i z v h4 hv with ⟨k,b',q1,q2,q3⟩|⟨q1,q2⟩
   ·exact .inl ⟨k,b',by show bf a b E.ρ i v=_;rw [hmo n1 n2];exact q1,q2,hbr _ _ hz.1 hz.2 q3⟩
   ·exact .inr ⟨by show bf a b E.ρ i v=_;rw [hmo n1 n2];exact q1,q2⟩
 ·rcases hmi h1 with ⟨e1,p1⟩|⟨n1,n2,p1⟩
  ·rcases hmi h2 with ⟨e2,p2⟩|⟨m1,m2,p2⟩
   ·rw [e1,e2]
   ·exact absurd (hr.inj b i' v v' k p1 p2).symm m2
  ·rcases hmi h2 with ⟨e2,p2⟩|⟨m1,m2,p2⟩
   ·exact absurd (hr.inj i b v v' k p1 p2) n2
   ·exact hr.inj i i' v v' k p1 p2
 ·rcases hmi hk with ⟨rfl,h⟩|⟨_,_,h⟩
  ·exact hr.rn b v k h
  ·exact hr.rn i v k h
 ·rcases hget i z v h1 h2 with ⟨rfl,rfl⟩|⟨n1,n2,h4⟩
  ·show bf _ b E.ρ _ w=none
   rw [hma];exact hr.fresh b _ v w hjb h2 h3
  ·show bf a b E.ρ i w=none
   rw [hmo n1 n2];exact hr.fresh i z v w h4 h2 h3
 ·show bf a b E.ρ i v=none
  have hi:st.hp.length≤i:=by simpa using hi
  rw [hmo (by omega) (by omega)]
  exact hr.new i v hi
 ·show bf a b E.ρ i v=some k
  rw [hmo (by omega) (by omega)];exact hk
def mE (a b:Nat):Nat→List AB→Bool
 | _,[]=>true
 | i,z :: l=>(Nat.beq i a || (z.gO a && z.gO b)) && mE a b (i+1) l
theorem tC {a b:Nat}:∀ {l:List AB} {i0:Nat},mE a b i0 l=true→∀ (i:Nat) (z:AB),l[i]?=some z→i0+i ≠ a→z.gO a=true∧z.gO b=true
 | [],_,_,i,z,h,_=>by cases h
 | x :: l,i0,h,i,z,hb,hne=>by
  simp only [mE,Bool.and_eq_true,Bool.or_eq_true] at h
  cases i with
  | zero =>
   cases hb
   rcases h.1 with h|h
   ·exact absurd (Nat.eq_of_beq_eq_true h) hne
   ·exact h
  | succ i=>exact tC h.2 i z (by simpa using hb) (by omega)
theorem aj.DQ {st:bK} {l:List (Nat × AV)} (a b:Nat) {x y:AB} {hp:List AB} (hab:a ≠ b) (hja:st.hp[a]?=some y) (hjb:st.hp[b]?=some x) (hn:st.fl≤a) (hn2:st.fl≤b) (hs:vS a b st.fr l) (hb:mE a b 0 st.hp=true) (hh:(st.hp.set a x).set b .gone=hp) :
  aj st ⟨bx l,hp,st.aE,st.rd,st.fl⟩:=by
 subst hh
 exact aj.move a b hab hja hjb hn hn2 hs fun i z h hne=>tC hb i z h (by omega)
def Sc (T:bz) (rs:List ResultVar) (Q:AV→List AB→bG→Prop) (e:Exit) (s:bK):Prop :=
 match e with
 | .normal|.ret=>pJ T s rs fun as=>Q (BZ as) s.hp s.aE
 | _=>False
theorem LA {vs:List AV} {us:List Value} (h:fy ρ g O vs us):AR ρ g O (BZ vs) (cU us):=by
 match vs,us,h with
 | [],[],_=>exact .tp rfl (fun i x u hx=>by cases hx)
 | [v],[u],h=>exact h.2 0 v u rfl rfl
 | a :: b :: l,c :: d :: m,h=>exact .tp (by simpa using h.1) (fun i x u hx hu=>h.2 i x u hx (by simpa using hu))
 | [],u :: us,h=>exact absurd h.1 (by simp)
 | v :: vs,[],h=>exact absurd h.1 (by simp)
 | [v],a :: b :: l,h=>exact absurd h.1 (by simp)
 | a :: b :: l,[v],h=>exact absurd h.1 (by simp)
theorem av.body {f:FuncId} {fn:Func} {c:Code} {first caps args:List AV} {Q:AV→List AB→bG→Prop} (hf:T.fn.get f=some fn) (hb:fn.body=some c) (hn:noEntry tab f=true)
  (hw:aA T tab one c ⟨B0 (first++args++caps),hp,aE,false,hp.length⟩ (Sc T fn.results.toList Q)):av T tab one (.fn f first caps) args hp aE Q:=by
 intro E base H u us hr hF ha
 obtain ⟨fs,cs,rfl,h1,h2⟩:∃ fs cs,u=.func (.func f) fs cs∧fy E.ρ H.get (E.O hp) first fs.toList∧fy E.ρ H.get (E.O hp) caps cs.toList:=by
  cases hF with
  | d h=>cases h with
   | fn ha hb h1 h2=>exact ⟨_,_,rfl,⟨ha,fun i x u hx hu=>.d (h1 i x u hx hu)⟩,⟨hb,fun i x u hx hu=>.d (h2 i x u hx hu)⟩⟩
  | fn ha hb h1 h2=>exact ⟨_,_,rfl,⟨ha,h1⟩,⟨hb,h2⟩⟩
 refine ⟨.fn f (fs.toList++us++cs.toList),rfl,?_⟩
 have hargs:=(h1.append ha).append h2
 obtain ⟨m,L,h1,h2,h3⟩:=hw E base ⟨setArgs .leaf 0 (fs.toList++us++cs.toList),H,false⟩ ⟨hr,rfl,vL hargs⟩
 obtain ⟨m',M,hm,q1,q2,q3⟩:=eU (one:=one) (L:=L) (f:=fun _ (p:Exit × St)=>fe T fn.results.toList p)
  (P:=fun r=>∃ w H',r=.ret w H'∧∃ E' a hp' amb',Q a hp' amb'∧aQ E' base hp' amb' H'∧AR E'.ρ H'.get (E'.O hp') a w∧jL hp.length base E hp H E' hp' H')
  (fun _ _ _ _ _ h=>h) m h2 (fun p hp'=>by
   obtain ⟨E',st',k1,k0,k2,k3⟩:=h3 p hp'
   obtain ⟨e,s'⟩:=p
   have done:(e=.normal∨e=.ret)→(pJ T st' fn.results.toList fun as=>Q (BZ as) st'.hp st'.aE)→∃ (_:Nat) (M:List gk),fe T fn.results.toList (e,s')=some M ∧
     pZ one M fun r=>∃ w H',r=.ret w H'∧∃ E' a hp' amb',Q a hp' amb'∧aQ E' base hp' amb' H'∧AR E'.ρ H'.get (E'.O hp') a w∧jL hp.length base E hp H E' hp' H':=by
    intro he hr
    obtain ⟨ws,as,r1,r2,r4⟩:=kB k2 hr
    refine ⟨0,[.ret (cU ws) s'.hp],?_,.single ⟨_,_,rfl,E',BZ as,st'.hp,st'.aE,r2,k2.h,LA r4,k3⟩⟩
    unfold fe
    rcases he with rfl|rfl <;> simp only [r1,Option.map_some]
   cases e with
   | normal=>exact done (.inl rfl) k1
   | ret=>exact done (.inr rfl) k1
   | _=>exact k1.elim)
 refine ⟨m'+1,M,?_,q2,q3⟩
 show RX T tab (m'+1) (.call f _ H)=_
 rw [zP,oD _ _ hn]
 simp only
 rw [jB,hf]
 simp only [hb]
 rw [dD (dm hm) _ _ _ h1]
 exact q1
end
section
variable {T : bz} {tab : List XE} {one : Bool}
end
section
variable {T : bz} {tab : List XE} {one : Bool}
def vT (a b:AV):Prop:=∀ (g:aH) (O:Nat→Prop) (u:Value),DR g O a u→DR g O b u
theorem vT.refl (a:AV):vT a a:=fun _ _ _ h=>h
theorem vT.nil (b:Bool):vT (.fl (.slice none 0 0)) (.sl [] b):=fun _ _ u h=>by
 cases h with
 | fl=>exact .nil
theorem vT.full {els:List (List AV)}:vT (.sl els true) (.sl els false):=fun _ _ u h=>by
 cases h with
 | nil=>exact .nil
 | sl q1 q2 q3 q4 q5 q6 q7=>exact .sl q1 q2 q3 q4 q5 q6 (fun h=>Bool.noConfusion h)
def vU:List AV→List AV→Prop
 | [],[]=>True
 | a :: l,b :: m=>vT a b∧vU l m
 | _,_=>False
theorem vU.Qd {g:aH} {O:Nat→Prop}:∀ {as bs:List AV} {us:List Value},vU as bs→pH g O as us→pH g O bs us
 | [],[],us,_,h=>h
 | a :: l,b :: m,[],_,h=>absurd h.1 (by simp)
 | a :: l,b :: m,u :: us,hs,h=>by
  have ih:=vU.Qd (g:=g) (O:=O) (us:=us) hs.2 ⟨by simpa using h.1,fun i a v x y=>h.2 (i+1) a v (by simpa using x) (by simpa using y)⟩
  refine ⟨by simpa using ih.1,fun i x v hx hv=>?_⟩
  cases i with
  | zero=>cases hx;cases hv;exact hs.1 _ _ _ (h.2 0 a u rfl rfl)
  | succ i=>exact ih.2 i x v (by simpa using hx) (by simpa using hv)
 | [],_ :: _,_,hs,_=>hs.elim
 | _ :: _,[],_,hs,_=>hs.elim
theorem ah.soft {F:AV} {args args':List AV} {v:AV} (h:ah T tab one F args v) (hs:vU args' args):ah T tab one F args' v :=
 ⟨h.1,fun X H u us hw hX hF ha=>h.2 X H u us hw hX hF (hs.Qd ha)⟩
end
section
variable {T : bz} {tab : List XE} {one : Bool} {base : Nat} {E : Env} {hp : List AB} {aE : bG} {H : Hp}
theorem tD (a:Nat) (l:List Nat):within a a l=false:=by
 unfold within
 rw [List.any_eq_false]
 intro k _ h
 rw [Bool.and_eq_true] at h
 have h1:=Nat.le_of_ble_eq_true h.1
 have h2:Nat.ble (k+1) a=true:=h.2
 have h2:=Nat.le_of_ble_eq_true h2
 omega
theorem dM {B S:Bool} {i j n:Nat} {r r' w:List Nat} (h:w=[]∨r=[]):(!conflict ⟨i,r,[],false,n,n⟩ ⟨j,r',w,false,n,n⟩ || B || S)=true:=by
 have:conflict ⟨i,r,[],false,n,n⟩ ⟨j,r',w,false,n,n⟩=false:=by
  unfold conflict
  rcases h with rfl|rfl
  ·simp [tD,meets]
  ·simp [tD,meets]
 rw [this];rfl
theorem jN {B S C:Bool} (h:B=true):(!C || B || S)=true:=by
 rw [h,Bool.or_true,Bool.true_or]
theorem LB {B S C:Bool} (h:S=true):(!C || B || S)=true:=by
 rw [h,Bool.or_true]
theorem mF {rec:pO→Option (List gk)} {o:Op} {fr:Nat→AV} {tm:Tr Value} {i:Nat} {rd:Bool} {r w:List Nat} {d:Option Tmp} {K:AV→List AB→Prop} (hr:aQ E base hp aE H) (hf:hG E.ρ H.get (E.O hp) fr tm) (hk:cG o=.plain) (hn:news? o=false) (ht:gV o (aG tm)=some (r,w))
  (hw:wpOp T false o fr hp K):∃ u e E' v hp',aW T rec o i ⟨tm,H,rd⟩=some (u,H.app e,⟨i,r,w,false,H.n,H.n⟩)∧K v hp'∧aQ E' base hp' aE (H.app e)∧Ext base E hp H E' hp' (H.app e)∧AR E'.ρ (H.app e).get (E'.O hp') v u ∧
   hG E'.ρ (H.app e).get (E'.O hp') (mA fr d v) (cu tm d u)∧(H.app e).n=H.n∧gR T H.n o (aG tm) H.get=some (u,e):=by
 obtain ⟨u,e,E',v,hp',r1,r2,r3,r4,r5⟩:=iH hr hf hw
 have hnn:(H.app e).n=H.n:=oH (nQ r1 hn)
 refine ⟨u,e,E',v,hp',?_,r2,r3,r4,r5,mB (fun t=>r4.ar hr.wf (hf t)) r5 d,hnn,r1⟩
 unfold aW
 simp only [hk,ht,r1,hnn]
def JV (b:List Nat):Bool:=(b.getD 4 0).testBit 0 && ((b.getD 6 0).testBit 0 && ((b.getD 4 0).testBit 1 && ((b.getD 6 0).testBit 1 && ((b.getD 6 0).testBit 2 && ((b.getD 5 0).testBit 4 && (b.getD 6 0).testBit 4)))))
theorem Gf {mt:TypeId} {m k:Operand} {fr:Nat→AV} {K:AV→List AB→Prop} {own:Bool} (hw:wpOp T own (.lookup mt m k false) fr hp K):∃ j,aN fr m=.om j:=by
 have hw:lC T mt (aN fr m) (aN fr k) false hp K:=hw
 unfold lC at hw
 split at hw
 ·rename_i j h;exact ⟨j,h⟩
 ·exact hw.elim
end
theorem wrap_i64 {n:Int} (h0:0≤n) (h1:n < 9223372036854775808):IntKind.wrap .i64 n=n:=by
 have hm:n % 18446744073709551616=n:=Int.emod_eq_of_lt h0 (by omega)
 show (if (true && decide (n % 18446744073709551616 ≥ 9223372036854775808))=true then n % 18446744073709551616 - 18446744073709551616 else n % 18446744073709551616)=n
 rw [hm,if_neg (by simp;omega)]
theorem LC {w m n:Nat} (hm:m < 2 ^ w) (hn:n < 2 ^ w):(BitVec.ofInt w (m:Int) ||| BitVec.ofInt w (n:Int)).toNat=m ||| n:=by
 rw [BitVec.toNat_or,BitVec.ofInt_natCast,BitVec.ofInt_natCast,BitVec.toNat_ofNat,BitVec.toNat_ofNat,Nat.mod_eq_of_lt hm,Nat.mod_eq_of_lt hn]
theorem vV {P:Program} {t:TypeId} {x y:Operand} {m j:Nat} (hj:j < 8):dz P .shr t x y (.int .u8 (m:Int)) (.int .i64 (j:Int))=some (.int .u8 ((m / 2 ^ j:Nat):Int),.none):=by
 have h:dz P .shr t x y (.int .u8 (m:Int)) (.int .i64 (j:Int))=some (.int .u8 ((m:Int).fdiv (2 ^ j)),.none):=by
  match j,hj with
  | 0,_|1,_|2,_|3,_|4,_|5,_|6,_|7,_=>rfl
 rw [h,Int.fdiv_eq_ediv_of_nonneg _ (Int.pow_nonneg (by decide)),Int.natCast_ediv,Int.natCast_pow]
 rfl
theorem vW {P:Program} {t:TypeId} {x y:Operand} {m:Nat}:dz P .rem t x y (.int .u8 (m:Int)) (.int .u8 2)=some (.int .u8 ((m % 2:Nat):Int),.none):=by
 have h:dz P .rem t x y (.int .u8 (m:Int)) (.int .u8 2)=some (.int .u8 ((m:Int).tmod 2),.none):=rfl
 rw [h]
 rfl
section
variable {T : bz} {a b : AV} {t : TypeId} {x y : Operand} {hp : List AB} {K : AV → List AB → Prop}
theorem Fi {m j:Nat} (ha:a=.fl (.int .u8 (m:Int))) (hb:b=.fl (.int .i64 (j:Int))) (hj:j < 8) (h:K (.fl (.int .u8 ((m / 2 ^ j:Nat):Int))) hp):aL T .shr t x y a b hp K:=by
 subst ha hb
 exact ⟨_,_,rfl,rfl,.int .u8 ((m / 2 ^ j:Nat):Int),vV hj,rfl,h⟩
theorem Fj {m:Nat} (ha:a=.fl (.int .u8 (m:Int))) (hb:b=.fl (.int .u8 2)) (h:K (.fl (.int .u8 ((m % 2:Nat):Int))) hp):aL T .rem t x y a b hp K:=by
 subst ha hb
 exact ⟨_,_,rfl,rfl,.int .u8 ((m % 2:Nat):Int),vW,rfl,h⟩
end
section
variable {T : bz} {tab : List XE} {one : Bool} {fl base : Nat} {E E' E2 : Env} {hp hp' hp2 : List AB} {aE amb' : bG} {H H' H2 : Hp} {ρ ρ2 : Nat → Nat → Option Nat} {g g2 : aH} {O O2 : Nat → Prop}
end
section
variable {T : bz} {tab : List XE} {one : Bool} {base : Nat} {E : Env} {hp : List AB} {aE : bG} {H : Hp}
inductive Fq (hp:List AB):AV→AV→Prop
 | fz {a v:AV}:Fz hp a v→Fq hp a v
 | ptr {j aB o es:Nat} {cs:List AV}:hp[j]?=some (.cells cs es aB)→cJ cs=true→Fq hp (.ptr j aB o) (.pt cs o)
 | fn {f:FuncId} {a b x y:List AV}:a.length=x.length→b.length=y.length→(∀ (i:Nat) (u v:AV),a[i]?=some u→x[i]?=some v→Fq hp u v)→(∀ (i:Nat) (u v:AV),b[i]?=some u→y[i]?=some v→Fq hp u v)→Fq hp (.fn f a b) (.fn f x y)
theorem AR.LD {ρ:Nat→Nat→Option Nat} {g:aH} {O:Nat→Prop} {f:FuncId} {a b:List AV} {u:Value} (h:AR ρ g O (.fn f a b) u):∃ a' b',u=.func (.func f) a' b'∧fy ρ g O a a'.toList∧fy ρ g O b b'.toList:=by
 cases h with
 | d h=>cases h with
  | fn ha hb h1 h2=>exact ⟨_,_,rfl,⟨ha,fun i x u hx hu=>.d (h1 i x u hx hu)⟩,⟨hb,fun i x u hx hu=>.d (h2 i x u hx hu)⟩⟩
 | fn ha hb h1 h2=>exact ⟨_,_,rfl,⟨ha,h1⟩,⟨hb,h2⟩⟩
theorem Fq.dr {X:Nat→Prop} (h:aQ E base hp aE H) (hX:∀ k,X k→E.X k) {r v:AV} (hf:Fq hp r v):∀ {u:Value},AR E.ρ H.get (E.O hp) r u→DR H.get X v u:=by
 have weak:∀ {v:AV} {u:Value},DR H.get (E.O hp) v u→DR H.get X v u:=fun h=>h.mono fun k b hk ho=>⟨hk,fun hx=>ho (.inr (hX k hx))⟩
 induction hf with
 | fz hz=>intro u ha;exact hz.dr h hX ha
 | ptr h1 hd =>
  rename_i j aB o es cs
  intro u ha
  obtain ⟨k,hk,rfl⟩:=ha.cW
  obtain ⟨cs',q1,q2⟩:=h.cells h1 hk
  have hok:Own E.ρ hp k:=⟨j,_,aB,h1,rfl,hk⟩
  have hnx:¬ X k:=fun hx=>h.gZ k hok (hX k hx)
  have:=DR.pt (g:=H.get) (O:=X) (l:=cs) (k:=k) (d:=0) (o:=o) (cs:=cs') q1 hnx (by rw [Nat.zero_add,q2.1];exact Nat.le_refl _) (fun i a u hx hu=>by
   rw [Nat.zero_add] at hu
   exact weak ((q2.2 i a u hx hu).deep (gL hd i a hx)))
  rw [Nat.zero_add] at this
  exact this
 | @fn f a b x y h1 h2 _ _ ih1 ih2 =>
  intro u ha
  obtain ⟨a',b',rfl,p1,p2⟩:=ha.LD
  refine .fn (by rw [←h1];exact p1.1) (by rw [←h2];exact p2.1) (fun i v w hv hw=>?_) (fun i v w hv hw=>?_)
  ·have hi:i < a.length:=by rw [h1];exact (List.getElem?_eq_some_iff.1 hv).1
   have hai:a[i]?=some a[i]:=List.getElem?_eq_getElem hi
   exact ih1 i _ v hai hv (p1.2 i _ w hai hw)
  ·have hi:i < b.length:=by rw [h2];exact (List.getElem?_eq_some_iff.1 hv).1
   have hai:b[i]?=some b[i]:=List.getElem?_eq_getElem hi
   exact ih2 i _ v hai hv (p2.2 i _ w hai hw)
def ia (hp:List AB):List AV→List AV→Prop
 | [],[]=>True
 | r :: rs,v :: vs=>Fq hp r v∧ia hp rs vs
 | _,_=>False
theorem ia.dr {X:Nat→Prop} (h:aQ E base hp aE H) (hX:∀ k,X k→E.X k):∀ {rs vs:List AV} {us:List Value},ia hp rs vs→fy E.ρ H.get (E.O hp) rs us→pH H.get X vs us
 | [],[],us,_,ha=>⟨ha.1,fun i a u hx=>by cases hx⟩
 | r :: rs,v :: vs,[],_,ha=>absurd ha.1 (by simp)
 | r :: rs,v :: vs,u :: us,hf,ha=>by
  have:=ia.dr h hX hf.2 (us:=us) ⟨by simpa using ha.1,fun i a u x y=>ha.2 (i+1) a u (by simpa using x) (by simpa using y)⟩
  refine ⟨by simp [this.1],fun i a w hx hw=>?_⟩
  cases i with
  | zero=>cases hx;cases hw;exact hf.1.dr h hX (ha.2 0 r u rfl rfl)
  | succ i=>exact this.2 i a w (by simpa using hx) (by simpa using hw)
 | [],_ :: _,_,hf,_=>hf.elim
 | _ :: _,[],_,hf,_=>by simp [ia] at hf
theorem ia.Qe {f:FuncId} {a b x y:List AV} (h1:ia hp a x) (h2:ia hp b y):Fq hp (.fn f a b) (.fn f x y):=by
 have key:∀ {a x:List AV},ia hp a x→a.length=x.length∧∀ (i:Nat) (u v:AV),a[i]?=some u→x[i]?=some v→Fq hp u v:=by
  intro a
  induction a with
  | nil =>
   intro x h
   cases x with
   | nil=>exact ⟨rfl,fun i u v hu=>by cases hu⟩
   | cons=>exact h.elim
  | cons r rs ih =>
   intro x h
   cases x with
   | nil=>simp [ia] at h
   | cons v vs =>
    obtain ⟨l,k⟩:=ih h.2
    refine ⟨by simp [l],fun i u w hu hw=>?_⟩
    cases i with
    | zero=>cases hu;cases hw;exact h.1
    | succ i=>exact k i u w (by simpa using hu) (by simpa using hw)
 exact .fn (key h1).1 (key h2).1 (key h1).2 (key h2).2
theorem ah.yu {F F':AV} {args vs:List AV} {v:AV} (h:ah T tab one F' vs v) (hF:Fq hp F F') (hz:ia hp args vs) (hfree:fA v) {Q:AV→List AB→bG→Prop} (hq:Q v hp aE):av T tab one F args hp aE Q:=by
 intro E base H u us hr hf ha
 obtain ⟨hd,h⟩:=h
 obtain ⟨goal,hg,m,L,h1,h2,h3⟩:=h E.X H u us hr.wf (fun k hk=>hr.xn k hk) (hF.dr hr (fun _ h=>h) hf) (hz.dr hr (fun _ h=>h) ha)
 refine ⟨goal,hg,m,L,h1,h2,fun r hm=>?_⟩
 obtain ⟨w,H',rfl,hn,hwf,hsame,hlo,hv⟩:=h3 r hm
 have e:Ext base E hp H E hp H':=⟨hn,rfl,rfl,rfl,fun _ _ _ h=>h,fun _ h=>.inl h,fun k hk _=>hsame k hk,by have:=hr.bn;omega⟩
 refine ⟨w,H',rfl,E,v,hp,aE,hq,⟨hwf,fun j x aB hj hvx=>?_,hr.inj,fun j v k hk=>Nat.lt_of_lt_of_le (hr.rn j v k hk) hn,hr.fresh,hr.new,hr.sup,hr.gZ,hr.dx,hr.ds,fun k hk=>Nat.lt_of_lt_of_le (hr.sn k hk) hn,fun k hk=>Nat.lt_of_lt_of_le (hr.xn k hk) hn,hr.nJ,Nat.le_trans hr.bn hn,aE.st hr.aE (fun k hk=>hsame k (hr.sn k hk)) hn⟩,.d (hfree.2 _ _ _ _ hv),e.DG⟩
 rcases hr.fU j x aB hj hvx with ⟨k,b',q1,q2,q3⟩|q
 ·exact .inl ⟨k,b',q1,by rw [hsame k (hr.wf.lt q2)];exact q2,e.br hr.wf q3⟩
 ·exact .inr q
theorem ia.nil:ia hp [] []:=trivial
theorem ia.cons {a x:AV} {as xs:List AV} (h:Fq hp a x) (k:ia hp as xs):ia hp (a :: as) (x :: xs):=⟨h,k⟩
theorem Fq.deep {v:AV} (h:v.deep=true):Fq hp v v:=.fz (.deep h)
end
section
variable {T : bz} {tab : List XE} {one : Bool} {mu : Tmp → Bool} {dst : Option Tmp} {fr : Nat → AV} {hp : List AB} {aE : bG} {rd : Bool} {fl : Nat} {KS : bK → Prop}
theorem om {r:Operand} {name:String} {l:List Operand} {tys} {F:AV} (hF:E9 T.P (aN fr r) name=F) (h:force F fun F=>fj (l.map (aN fr)) fun as=>av T tab one F as hp aE fun v hp' amb'=>fk dst fr v fun fr'=>KS ⟨fr',hp',amb',rd,fl⟩) :
  qX T tab one mu dst (.call ⟨.invoke r name,l.toArray,tys⟩) fr hp aE rd fl KS:=by
 subst hF
 exact h
end
section
variable {T : bz} {tab : List XE} {one : Bool} {mu : Tmp → Bool} {KE : Exit → bK → Prop} {st : bK}
theorem Gg {l:List Oper} (hd:l.any ux=false):eA l.toArray=l.length:=by
 unfold eA
 have:l.findIdx? ux=none:=by
  rw [List.findIdx?_eq_none_iff]
  intro x hx
  rw [List.any_eq_false] at hd
  simpa using hd x hx
 simp only [this]
theorem SW {id:Nat} {l:List Oper} (hd:l.any ux=false) (h:jc T tab mu l.toArray l 0 (fun _=>0) [] st (KE .normal)):nt T tab one mu (.region id l.toArray true) st KE:=by
 refine c5 (Gg hd) rfl rfl ?_
 rw [List.take_length,List.drop_length]
 exact h
end
section
variable {T : bz} {tab : List XE} {one : Bool} {mu : Tmp → Bool} {own : Bool} {fr : Nat → AV} {hp : List AB} {K : AV → List AB → Prop} {t : TypeId} {und : TypeDesc} {s by' : Nat} {z : Option Value} {agg : Bool} {cq : List (Nat × Nat)} {cA : Nat}
theorem SX {a:Operand} {cs:List AV} {o:Nat} (ha:aN fr a=.pt cs o) (ht:T.ty.get t=some ⟨und,s,by',z,true,cq,cA⟩) (hl:Nat.ble (o+s) cs.length=true) (h:K (.ag ((cs.drop o).take s)) hp):wpOp T own (.load t a) fr hp K:=by
 show eR T t (aN fr a) hp K
 unfold eR
 simp only [ha,ht]
 exact ⟨Nat.le_of_ble_eq_true hl,h⟩
theorem Qf {a:Operand} {cs:List AV} {o:Nat} {v:AV} (ha:aN fr a=.pt cs o) (ht:T.ty.get t=some ⟨und,s,by',z,false,cq,cA⟩) (hv:cs[o]?=some v) (h:K v hp):wpOp T own (.load t a) fr hp K:=by
 show eR T t (aN fr a) hp K
 unfold eR
 simp only [ha,ht]
 exact ⟨v,hv,h⟩
theorem SY {a:Operand} {j aB o es:Nat} {cs:List AV} (ha:aN fr a=.ptr j aB o) (ht:T.ty.get t=some ⟨und,s,by',z,true,cq,cA⟩) (hj:hp[j]?=some (.cells cs es aB)) (hl:Nat.ble (o+s) cs.length=true) (h:K (.ag ((cs.drop o).take s)) hp):wpOp T own (.load t a) fr hp K:=by
 show eR T t (aN fr a) hp K
 unfold eR
 simp only [ha,ht]
 exact ⟨cs,es,hj,Nat.le_of_ble_eq_true hl,h⟩
theorem LF {a:Operand} {j aB o es:Nat} {cs:List AV} {v:AV} (ha:aN fr a=.ptr j aB o) (ht:T.ty.get t=some ⟨und,s,by',z,false,cq,cA⟩) (hj:hp[j]?=some (.cells cs es aB)) (hv:cs[o]?=some v) (h:K v hp):wpOp T own (.load t a) fr hp K:=by
 show eR T t (aN fr a) hp K
 unfold eR
 simp only [ha,ht]
 exact ⟨cs,es,hj,v,hv,h⟩
theorem SZ {a:Operand} {i:Nat} {cs:List AV} {o off sz:Nat} {fs} (ha:aN fr a=.pt cs o) (ht:T.ty.get t=some ⟨.struct fs,s,by',z,agg,cq,cA⟩) (hf:cq[i]?=some (off,sz)) (h1:Nat.ble 1 sz=true) (h:K (.pt cs (o+off)) hp):wpOp T own (.fieldAddr t a i) fr hp K:=by
 show jl T t (aN fr a) i hp K
 unfold jl
 simp only [ha,ht]
 exact ⟨off,sz,hf,Nat.le_of_ble_eq_true h1,h⟩
theorem S0 {a:Operand} {i:Nat} {j aB o off sz:Nat} {fs} (ha:aN fr a=.ptr j aB o) (ht:T.ty.get t=some ⟨.struct fs,s,by',z,agg,cq,cA⟩) (hf:cq[i]?=some (off,sz)) (h1:Nat.ble 1 sz=true) (h:K (.ptr j aB (o+off)) hp):wpOp T own (.fieldAddr t a i) fr hp K:=by
 show jl T t (aN fr a) i hp K
 unfold jl
 simp only [ha,ht]
 exact ⟨off,sz,hf,Nat.le_of_ble_eq_true h1,h⟩
theorem S1 {v:Value} (ht:T.ty.get t=some ⟨und,s,by',some v,agg,cq,cA⟩) (h1:v.cells.toList.all aS=true) (h:K (.ptr hp.length 0 0) (hp++[.cells (v.cells.toList.map .fl) 0 0])):wpOp T own (.alloc t) fr hp K:=by
 show qP T t hp K
 unfold qP
 simp only [ht]
 exact ⟨h1,h⟩
theorem Sd {x:Operand} (h:force (aN fr x) fun v=>yd own v hp K):wpOp T own (.box t x) fr hp K:=h
theorem Ro {v:AV} (ho:own=false) (h1:v.jI=true) (h2:v.cells.all AV.one=true) (h3:cJ v.cells=true) (h:K (.pt v.cells 0) hp):yd own v hp K:=by
 subst ho
 exact ⟨h1,h2,h3,h⟩
theorem S2 {v:AV} (ho:own=true) (h1:v.jI=true) (h2:v.cells.all AV.one=true) (h:K (.ptr hp.length 0 0) (hp++[.cells v.cells 0 0])):yd own v hp K:=by
 subst ho
 exact ⟨h1,h2,h⟩
theorem Pb {a x:Operand} (h:force (aN fr x) fun v=>cR T t (aN fr a) v hp K):wpOp T own (.store t a x) fr hp K:=h
theorem ND {a v:AV} {j aB o es:Nat} {cs:List AV} (ha:a=.ptr j aB o) (ht:T.ty.get t=some ⟨und,s,by',z,agg,cq,cA⟩) (hj:hp[j]?=some (.cells cs es aB)) (h1:v.jI=true) (h2:v.cells.all AV.one=true) (h3:v.cells.length=s) (h4:Nat.ble (o+s) cs.length=true) (h:K .bM (hp.set j (.cells (cX cs v.cells o) es aB))):cR T t a v hp K:=by
 unfold cR
 simp only [ha,ht]
 exact ⟨cs,es,hj,h1,h2,h3,Nat.le_of_ble_eq_true h4,h⟩
theorem Pc {l:List (Nat × Operand)} (h:jK (l.map fun p=>(p.1,aN fr p.2)) fun ps=>mo T t ps hp K):wpOp T own (.build t l.toArray) fr hp K:=h
theorem LG {l:List (Nat × Operand)} {len:Nat} (h:jK (l.map fun p=>(p.1,aN fr p.2)) fun ps=>dH T own t len ps hp K):wpOp T own (.buildSlice t len l.toArray) fr hp K:=h
theorem S3 {P:List (Nat × AV)→Prop} (h:P []):jK (([]:List (Nat × Operand)).map fun p=>(p.1,aN fr p.2)) P:=h
theorem S4 {i:Nat} {x:Operand} {l:List (Nat × Operand)} {P:List (Nat × AV)→Prop} (h:force (aN fr x) fun a=>jK (l.map fun p=>(p.1,aN fr p.2)) fun l=>P ((i,a) :: l)):jK (((i,x) :: l).map fun p=>(p.1,aN fr p.2)) P:=h
theorem R7 {v:Value} {parts:List (Nat × AV)} {cs:List AV} (ht:T.ty.get t=some ⟨und,s,by',some v,true,cq,cA⟩) (h1:v.cells.toList.all aS=true) (h2:di (gy und cq cA) (v.cells.toList.map .fl) parts=some cs) (h:K (.ag cs) hp):mo T t parts hp K:=by
 unfold mo
 simp only [ht]
 exact ⟨h1,cs,h2,h⟩
theorem S5 {len:Nat} {parts:List (Nat × AV)} {inf:rM} (ho:own=false) (hi:elem? T t=some inf) (h1:Nat.ble (len * inf.size) 65536=true) (h2:bl inf=true) (h3:kA inf.size 0 parts=true) (h4:Nat.beq parts.length len=true) (h5:cJ (parts.map (·.2.cells)).flatten=true) (h:K (.sl (parts.map (·.2.cells)) true) hp):dH T own t len parts hp K:=by
 subst ho
 unfold dH
 simp only [hi]
 exact ⟨h1,h2,h3,h4,h5,h⟩
theorem S6 {len:Nat} {parts:List (Nat × AV)} {inf:rM} (ho:own=true) (hi:elem? T t=some inf) (h1:Nat.ble (len * inf.size) 65536=true) (h2:bl inf=true) (h3:kA inf.size 0 parts=true) (h4:Nat.beq parts.length len=true) (h:K (.bI hp.length 0 0 len len) (hp++[.cells (parts.map (·.2.cells)).flatten inf.size 0])):dH T own t len parts hp K:=by
 subst ho
 unfold dH
 simp only [hi]
 exact ⟨h1,h2,h3,h4,h⟩
theorem Sg {x:Operand} {i:Nat} {vs:List AV} {v:AV} (ha:aN fr x=.tp vs) (hv:vs[i]?=some v) (h:K v hp):wpOp T own (.extract x i) fr hp K:=by
 show ju (aN fr x) i hp K
 rw [ha]
 exact ⟨v,hv,h⟩
theorem SE {a x:Operand} {e:TypeId} {els:List (List AV)} {f:Bool} {j:Int} {el:List AV} (ha:aN fr a=.sl els f) (hx:aN fr x=.fl (.int .i64 j)) (ht:T.ty.get t=some ⟨.slice e,s,by',z,agg,cq,cA⟩) (hat:els[j.toNat]?=some el) (h0:0≤j) (hl:el.length=cA) (h:K (.pt el 0) hp):wpOp T own (.indexAddr t a x) fr hp K:=by
 show cy T t (aN fr a) (aN fr x) hp K
 rw [ha,hx]
 unfold cy
 simp only [asInt,ht]
 exact ⟨el,⟨h0,hat⟩,hl,h⟩
theorem S7 {a x:Operand} {e:TypeId} {i aB o n c:Nat} {j:Int} (ha:aN fr a=.bI i aB o n c) (hx:aN fr x=.fl (.int .i64 j)) (ht:T.ty.get t=some ⟨.slice e,s,by',z,agg,cq,cA⟩) (h0:0≤j∧j < (n:Int)) (h:K (.ptr i aB (o+j.toNat * cA)) hp):wpOp T own (.indexAddr t a x) fr hp K:=by
 show cy T t (aN fr a) (aN fr x) hp K
 rw [ha,hx]
 unfold cy
 simp only [asInt,ht]
 exact ⟨h0,h⟩
theorem S8 {a x:Operand} {e:TypeId} {len:Nat} {cs:List AV} {o:Nat} {j:Int} (ha:aN fr a=.pt cs o) (hx:aN fr x=.fl (.int .i64 j)) (ht:T.ty.get t=some ⟨.array len e,s,by',z,agg,cq,cA⟩) (h0:0≤j∧j < (len:Int)) (h:K (.pt cs (o+j.toNat * cA)) hp):wpOp T own (.indexAddr t a x) fr hp K:=by
 show cy T t (aN fr a) (aN fr x) hp K
 rw [ha,hx]
 unfold cy
 simp only [asInt,ht]
 exact ⟨h0,h⟩
theorem S9 {a x:Operand} {e:TypeId} {len:Nat} {i aB o:Nat} {j:Int} (ha:aN fr a=.ptr i aB o) (hx:aN fr x=.fl (.int .i64 j)) (ht:T.ty.get t=some ⟨.array len e,s,by',z,agg,cq,cA⟩) (h0:0≤j∧j < (len:Int)) (h:K (.ptr i aB (o+j.toNat * cA)) hp):wpOp T own (.indexAddr t a x) fr hp K:=by
 show cy T t (aN fr a) (aN fr x) hp K
 rw [ha,hx]
 unfold cy
 simp only [asInt,ht]
 exact ⟨h0,h⟩
end
section
variable {T : bz} {own : Bool} {fr : Nat → AV} {hp : List AB} {K : AV → List AB → Prop} {t : TypeId}
theorem Ta {l c:Operand} {n:Nat} {inf:rM} (hi:elem? T t=some inf) (hl:aN fr l=.fl (.int .i64 (Int.ofNat n))) (hc:aN fr c=.fl (.int .i64 (Int.ofNat n))) (hb:inf.bytes * n≤140737488355328∧n≤9223372036854775807) (hz:bl inf=true) (h:K (.bI hp.length 0 0 n n) (hp++[.cells ((bV (zeroCells inf) (n * inf.size)).map .fl) inf.size 0])):wpOp T own (.makeSlice t l c) fr hp K:=by
 show vG T t (aN fr l) (aN fr c) hp K
 unfold vG
 simp only [hi,hl,hc]
 refine ⟨n,n,rfl,rfl,⟨Nat.le_refl _,hb⟩,hz,?_⟩
 rw [show Nat.beq n n=true from Nat.beq_refl n]
 exact h
end
section
variable {T : bz} {own : Bool} {fr : Nat → AV} {hp : List AB} {K : AV → List AB → Prop} {s x : Operand} {t u e : TypeId} {a1 a2 a3 a4 a5 a6} {els : List (List AV)} {f : Bool} {inf : rM}
end
theorem Ca {w m n:Nat} (hm:m < 2 ^ w) (hn:n < 2 ^ w):(BitVec.ofInt w (m:Int) &&& BitVec.ofInt w (n:Int)).toNat=m &&& n:=by
 rw [BitVec.toNat_and,BitVec.ofInt_natCast,BitVec.ofInt_natCast,BitVec.toNat_ofNat,BitVec.toNat_ofNat,Nat.mod_eq_of_lt hm,Nat.mod_eq_of_lt hn]
section
variable {T : bz} {tab : List XE} {one : Bool} {fl base : Nat} {E E' E2 : Env} {hp hp' hp2 : List AB} {aE amb' : bG} {H H' H2 : Hp} {ρ ρ2 : Nat → Nat → Option Nat} {g g2 : aH} {O O2 : Nat → Prop}
abbrev Fk (T:bz) (tab:List XE) (base:Nat) (ops:Array Oper) (c:Nat) (K:bK→Prop) (l:List Oper) (i:Nat) (evs:List Ev) (st:bK) (tr:Nat→bw) (s:St):Prop :=
 ∃ m L,eK T (RX T tab m) ops l (qq T (RX T tab m) ops c) i s evs=some L∧∀ s' ∈ L,∃ E' st',K st'∧st'.fl=st.fl∧mC E' base st' s'∧jL st.fl base (tr 0).E (tr 0).hp (tr 0).H E' st'.hp s'.hp
theorem DS {mu:Tmp→Bool} {ops:Array Oper} {o:Oper} {l:List Oper} {i:Nat} {bt:Nat→Nat} {acc:List gN} {evs:List Ev} {st:bK} {K:bK→Prop} {tr:Nat→bw} {s:St} {c:Nat} {X:List Oper→Nat→(Nat→Nat)→List gN→bK→Prop}
  (hX:∀ {bt:Nat→Nat} {acc:List gN} {evs:List Ev} {st:bK} {tr:Nat→bw} {s:St},X l (i+1) bt acc st→iW base st.aE tr (i+1)→(tr (i+1)).hp=st.hp→(tr (i+1)).H=s.hp→s.rd=st.rd→cL tr (i+1) bt st.fr s.fr→oW tr (i+1) acc evs→Fk T tab base ops c K l (i+1) evs st tr s)
  (h:cK ops.toList o.guard st.fr (eC T tab mu o.dst o.op i bt st.fr st.hp fun fr' hp' bt' x=>X l (i+1) bt' (x :: acc) ⟨fr',hp',st.aE,st.rd,st.fl⟩)
   (fk o.dst st.fr (.tp []) fun fr'=>X l (i+1) (gC o.dst bt 0) (⟨i,[],false,false⟩ :: acc) ⟨fr',st.hp,st.aE,st.rd,st.fl⟩))
  (ht:iW base st.aE tr i) (h1:(tr i).hp=st.hp) (h2:(tr i).H=s.hp) (h3:s.rd=st.rd) (hb:cL tr i bt st.fr s.fr) (he:oW tr i acc evs):Fk T tab base ops c K (o :: l) i evs st tr s:=by
 have hrel:=ht.rel i (Nat.le_refl _)
 have hfr:hG (tr i).E.ρ (tr i).H.get ((tr i).E.O (tr i).hp) st.fr s.fr:=fun t=>(ht.ext _ i (hb t).1 (Nat.le_refl _)).ar (ht.rel _ (hb t).1).wf (hb t).2
 have hz0:(snoc tr i (tr i) 0)=tr 0:=aU (Nat.zero_le _)
 rcases nO hfr h with ⟨hg,h⟩|⟨hg,h⟩
 ·
  have go:∀ (z:bw) (v:AV) (u:Value) (b:Nat) (x:gN) (t:Tc) (m0:Nat),aQ z.E base z.hp st.aE z.H→Ext base (tr i).E (tr i).hp (tr i).H z.E z.hp z.H→b≤i+1→(snoc tr i z b).ar v u→x.i=i→JN (snoc tr i z) x t →
    (∀ m,m0≤m→aW T (RX T tab m) o.op i s=some (u,z.H,t))→X l (i+1) (gC o.dst bt b) (x :: acc) ⟨mA st.fr o.dst v,z.hp,st.aE,st.rd,st.fl⟩ →
    Fk T tab base ops c K (o :: l) i evs st tr s:=by
   intro z v u b x t m0 hz he' hbi hv hxi hx hd hw
   obtain ⟨m,L,r1,r2⟩:=hX (s:=⟨cu s.fr o.dst u,z.H,s.rd⟩) (evs:=⟨o,s,u,z.H,t⟩ :: evs) hw (ht.snoc hz he') (by rw [aY (Nat.lt_succ_self _)]) (by rw [aY (Nat.lt_succ_self _)]) h3 (hb.put hbi hv o.dst) (.cons (he.snoc (Nat.le_refl _)) hxi hx)
   rw [aU (Nat.zero_le _)] at r2
   refine ⟨max m0 m,L,?_,r2⟩
   rw [eP,hg]
   simp only [cond_true,hd _ (Nat.le_max_left _ _)]
   exact mg (dm (Nat.le_max_right m0 m)) ops (fun _ _ _=>BJ (dm (Nat.le_max_right m0 m))) _ _ _ _ _ r1
  unfold eC at h
  split at h
  ·rename_i f args hk
   have h:=eT (bu h)
   obtain ⟨hF,vs,v,hhand,⟨hvd,hpure⟩,h⟩:=h
   have hF':=(pY hfr f).deep hF
   have hget:({s.hp with lo:=s.hp.n}:Hp).get=(tr i).H.get:=by rw [h2];rfl
   obtain ⟨goal,hgo,m0,L,q1,q2,q3⟩:∃ goal,cF (jd T.P s.fr f) (args.map (aG s.fr))=some goal ∧
     ∃ m L,RX T tab m (gI {s.hp with lo:=s.hp.n} goal)=some L∧(true=true→∃ r,L=[r])∧∀ r ∈ L,∃ w H',r=.ret w H' ∧
      ({s.hp with lo:=s.hp.n}:Hp).n≤H'.n∧Wf H'∧(∀ k,k < ({s.hp with lo:=s.hp.n}:Hp).n→H'.get k=({s.hp with lo:=s.hp.n}:Hp).get k)∧min ({s.hp with lo:=s.hp.n}:Hp).lo ({s.hp with lo:=s.hp.n}:Hp).n≤H'.lo∧DR H'.get ((tr i).E.O (tr i).hp) v w:=by
    rcases hhand with ⟨rfl,hA⟩|⟨hz,hfree⟩
    ·have hA':=(dF hfr args).deep hA
     exact hpure ((tr i).E.O (tr i).hp) {s.hp with lo:=s.hp.n} _ _ (by rw [h2] at hrel;exact hrel.wf) (fun k hk=>by
      have:k < (tr i).H.n:=hk.elim (fun h=>hrel.iV h) (hrel.xn k)
      rw [h2] at this;exact this) (by rw [hget];exact hF') (by rw [hget];exact hA')
    ·obtain ⟨goal,hgo,m0,L,q1,q2,q3⟩:=hpure (tr i).E.X {s.hp with lo:=s.hp.n} _ _ (by rw [h2] at hrel;exact hrel.wf) (fun k hk=>by
      have:k < (tr i).H.n:=hrel.xn k hk
      rw [h2] at this;exact this) (by rw [hget];exact hF'.mono fun k b hk ho=>⟨hk,fun hx=>ho (.inr hx)⟩) (by
       rw [hget]
       rw [←h1] at hz
       exact hz.dr hrel (fun _ h=>h) (dF hfr args))
     refine ⟨goal,hgo,m0,L,q1,q2,fun r hm=>?_⟩
     obtain ⟨w,H',e1,e2,e3,e4,e5,e6⟩:=q3 r hm
     exact ⟨w,H',e1,e2,e3,e4,e5,hfree.2 _ _ _ _ e6⟩
   obtain ⟨r,hr⟩:=q2 rfl
   subst hr
   obtain ⟨w,H',rfl,hn,hwf,hsame,hlo,hdr⟩:=q3 r (by simp)
   obtain ⟨g1,g2⟩:=hrel.grow (H':={H' with lo:=s.hp.lo}) (by rw [h2];exact hn) hwf (fun k hk=>by
    have:=hsame k (by rw [←h2];exact hk)
    rw [h2];exact this) (by rw [h2];exact Nat.min_le_left _ _)
   refine go ⟨(tr i).E,st.hp,{H' with lo:=s.hp.lo}⟩ v w (i+1) ⟨i,[],true,true⟩ ⟨i,[],[],true,s.hp.n,H'.n⟩ m0 (by rw [←h1];exact g1) (by rw [←h1];exact g2) (Nat.le_refl _) ?_ rfl ?_ (fun m hm=>?_) (cm h)
   ·rw [aY (Nat.lt_succ_self _)]
    refine .d ?_
    show DR H'.get ((tr i).E.O st.hp) v w
    rw [←h1];exact hdr
   ·refine ⟨rfl,by rw [aU (Nat.le_refl _),h2],by rw [aY (Nat.lt_succ_self _)],fun h=>Bool.noConfusion h,rfl,fun k hk=>(by cases hk),fun k hk=>(by cases hk)⟩
   ·unfold aW
    simp only [hk,hgo,dm hm _ _ q1]
    have:Nat.ble s.hp.n H'.lo=true:=Nat.ble_eq_true_of_le (by
     have:min s.hp.n s.hp.n≤H'.lo:=hlo
     omega)
    rw [k9 this]
  ·exact h.elim
  ·rename_i hk
   obtain ⟨a,hacc,hw⟩:=h
   have hw':=hw
   rw [←h1] at hw'
   obtain ⟨r,w,ht1,ht2,ht3⟩:=rj ht hb hacc hw'
   have evr:∀ (z:bw) (u:Value) (e:bL),gR T s.hp.n o.op (aG s.fr) s.hp.get=some (u,e)→z.H=s.hp.app e→JN (snoc tr i z) ⟨i,a,news? o.op,false⟩ ⟨i,r,w,false,s.hp.n,(s.hp.app e).n⟩:=by
    intro z u e hop hz
    refine ⟨rfl,by rw [aU (Nat.le_refl _),h2],by rw [aY (Nat.lt_succ_self _),hz],fun hal _=>(oH (nQ hop hal)).symm,rfl,fun k hk=>?_,fun k hk=>?_⟩
    ·obtain ⟨p,p1,p2,p3⟩:=ht2 k hk;exact ⟨p,p1,p2,p3.snoc (Nat.le_refl _)⟩
    ·obtain ⟨p,p1,p2,p3⟩:=ht3 k hk;exact ⟨p,p1,p2,p3.snoc (Nat.le_refl _)⟩
   have drw:∀ (u:Value) (e:bL) (m:Nat),gR T s.hp.n o.op (aG s.fr) s.hp.get=some (u,e)→aW T (RX T tab m) o.op i s=some (u,s.hp.app e,⟨i,r,w,false,s.hp.n,(s.hp.app e).n⟩):=by
    intro u e m hop
    unfold aW
    simp only [hk,ht1,hop]
   by_cases hm:∃ x,yh o.op st.fr=some [x]
   ·obtain ⟨x,hm⟩:=hm
    have hbirth:kC o.op st.fr bt i=oX bt x:=by unfold kC;rw [hm]
    have hbx:=hb.eval x
    have eb:=ht.ext _ i hbx.1 (Nat.le_refl _)
    obtain ⟨u,v,r1,r2,r3,r4⟩:=vM (ρ2:=(tr (oX bt x)).E.ρ) (g2:=(tr (oX bt x)).H.get) (O2:=(tr (oX bt x)).E.O (tr (oX bt x)).hp) (n:=s.hp.n) hfr hm (fun y hy=>by
     obtain rfl:=List.mem_singleton.1 hy;exact hbx.2) (fun k b hk ho=>(eb.keep (ht.rel _ hbx.1).wf k b hk ho).1) hw
    rw [h2] at r1
    have hz:(tr i).H=s.hp.app .none:=h2
    rw [hbirth] at r2
    refine go (tr i) v u (oX bt x) ⟨i,a,news? o.op,false⟩ ⟨i,r,w,false,s.hp.n,(s.hp.app .none).n⟩ 0 hrel .refl (by omega) (by rw [aU hbx.1];exact r4) rfl (evr _ u .none r1 hz) (fun m _=>by rw [hz];exact drw u .none m r1) (by rw [h1];exact cm (bu r2))
   ·have hbirth:kC o.op st.fr bt i=i+1:=by
     unfold kC
     split
     ·rename_i x hx;exact absurd ⟨x,hx⟩ hm
     ·rfl
    obtain ⟨u,e,E',v,hp',r1,r2,r3,r4,r5⟩:=iH hrel hfr hw'
    rw [h2] at r1 r3 r4 r5
    rw [hbirth] at r2
    refine go ⟨E',hp',s.hp.app e⟩ v u (i+1) ⟨i,a,news? o.op,false⟩ ⟨i,r,w,false,s.hp.n,(s.hp.app e).n⟩ 0 r3 (by rw [h2];exact r4) (Nat.le_refl _) (by rw [aY (Nat.lt_succ_self _)];exact r5) rfl (evr _ u e r1 rfl) (fun m _=>drw u e m r1) (cm (bu r2))
 ·obtain ⟨m,L,r1,r2⟩:=hX (s:=⟨cu s.fr o.dst undef,s.hp,s.rd⟩) (evs:=⟨o,s,undef,s.hp,⟨i,[],[],false,s.hp.n,s.hp.n⟩⟩ :: evs) (cm h) (ht.snoc (z:=tr i) hrel .refl) (by rw [aY (Nat.lt_succ_self _)];exact h1) (by rw [aY (Nat.lt_succ_self _)];exact h2) h3
   (hb.put (Nat.zero_le _) qW o.dst) (.cons (he.snoc (Nat.le_refl _)) rfl ⟨rfl,by rw [aU (Nat.le_refl _),h2],by rw [aY (Nat.lt_succ_self _),h2],fun _ _=>rfl,rfl,fun k hk=>(by cases hk),fun k hk=>(by cases hk)⟩)
  rw [hz0] at r2
  refine ⟨m,L,?_,r2⟩
  rw [eP,hg]
  exact r1
def Rp (T:bz) (tab:List XE) (mu:Tmp→Bool) (ops:Array Oper) (c:Nat) (K:bK→Prop) (acc:List gN) (st:bK):Prop :=
 match ops.toList[c]? with
 | some o=>match cG o.op with
  | .call f args=>cK ops.toList o.guard st.fr (force (NB T.P st.fr f) fun F=>fj (args.map (aN st.fr)) fun as=>F.deep=true∧∃ vs v,Handed st.hp as vs v∧ah T tab false F vs v∧oG (ql ops) (⟨c,[],true,true⟩ :: acc)=true ∧
   fk o.dst st.fr v fun fr'=>wpOps T tab false mu ops.toList (ops.toList.drop (c+1)) ⟨fr',st.hp,st.aE,st.rd,st.fl⟩ K) False
  | _=>False
 | none=>False
def kD (T:bz) (tab:List XE) (mu:Tmp→Bool) (ops:Array Oper) (c:Nat) (K:bK→Prop):List Oper→Nat→(Nat→Nat)→List gN→bK→Prop
 | [],i,_,acc,st=>i=c∧Rp T tab mu ops c K acc st
 | ⟨dst,op,_,_,_,gd⟩ :: l,i,bt,acc,⟨fr,hp,aE,rd,fl⟩ =>
  cK ops.toList gd fr (eC T tab mu dst op i bt fr hp fun fr' hp' bt' x=>kD T tab mu ops c K l (i+1) bt' (x :: acc) ⟨fr',hp',aE,rd,fl⟩)
   (fk dst fr (.tp []) fun fr'=>kD T tab mu ops c K l (i+1) (gC dst bt 0) (⟨i,[],false,false⟩ :: acc) ⟨fr',hp,aE,rd,fl⟩)
theorem pK {mu:Tmp→Bool} {ops:Array Oper} {c:Nat} {K:bK→Prop}:∀ {l:List Oper} {i:Nat} {bt:Nat→Nat} {acc:List gN} {evs:List Ev} {st:bK} {tr:Nat→bw} {s:St},kD T tab mu ops c K l i bt acc st →
  iW base st.aE tr i→(tr i).hp=st.hp→(tr i).H=s.hp→s.rd=st.rd→cL tr i bt st.fr s.fr→oW tr i acc evs→Fk T tab base ops c K l i evs st tr s
 | o :: l,i,bt,acc,evs,st,tr,s,h,ht,h1,h2,h3,hb,he=>DS (X:=fun l i bt acc st=>kD T tab mu ops c K l i bt acc st) (fun h=>pK h) h ht h1 h2 h3 hb he
 | [],i,bt,acc,evs,st,tr,s,h,ht,h1,h2,h3,hb,he=>by
  obtain ⟨rfl,h⟩:=h
  have hrel:=ht.rel i (Nat.le_refl _)
  have hfr:hG (tr i).E.ρ (tr i).H.get ((tr i).E.O (tr i).hp) st.fr s.fr:=fun t=>(ht.ext _ i (hb t).1 (Nat.le_refl _)).ar (ht.rel _ (hb t).1).wf (hb t).2
  unfold Rp at h
  split at h
  ·rename_i o ho
   split at h
   ·rename_i f args hk
    rcases nO hfr h with ⟨hg,h⟩|⟨_,h⟩
    case inr=>exact h.elim
    have h:=eT (bu h)
    obtain ⟨hF,vs,v,hhand,⟨hvd,hpure⟩,hchk,h⟩:=h
    have h:=cm h
    have hF':=(pY hfr f).deep hF
    have hget:({s.hp with lo:=s.hp.n}:Hp).get=(tr i).H.get:=by rw [h2];rfl
    obtain ⟨goal,hgo,m0,R,q1,q2,q3⟩:∃ goal,cF (jd T.P s.fr f) (args.map (aG s.fr))=some goal ∧
      ∃ m L,RX T tab m (gI {s.hp with lo:=s.hp.n} goal)=some L∧(false=true→∃ r,L=[r])∧∀ r ∈ L,∃ w H',r=.ret w H' ∧
       ({s.hp with lo:=s.hp.n}:Hp).n≤H'.n∧Wf H'∧(∀ k,k < ({s.hp with lo:=s.hp.n}:Hp).n→H'.get k=({s.hp with lo:=s.hp.n}:Hp).get k)∧min ({s.hp with lo:=s.hp.n}:Hp).lo ({s.hp with lo:=s.hp.n}:Hp).n≤H'.lo∧DR H'.get ((tr i).E.O (tr i).hp) v w:=by
     rcases hhand with ⟨rfl,hA⟩|⟨hz,hfree⟩
     ·have hA':=(dF hfr args).deep hA
      exact hpure ((tr i).E.O (tr i).hp) {s.hp with lo:=s.hp.n} _ _ (by rw [h2] at hrel;exact hrel.wf) (fun k hk=>by
       have:k < (tr i).H.n:=hk.elim (fun h=>hrel.iV h) (hrel.xn k)
       rw [h2] at this;exact this) (by rw [hget];exact hF') (by rw [hget];exact hA')
     ·obtain ⟨goal,hgo,m0,L,q1,q2,q3⟩:=hpure (tr i).E.X {s.hp with lo:=s.hp.n} _ _ (by rw [h2] at hrel;exact hrel.wf) (fun k hk=>by
        have:k < (tr i).H.n:=hrel.xn k hk
        rw [h2] at this;exact this) (by rw [hget];exact hF'.mono fun k b hk ho=>⟨hk,fun hx=>ho (.inr hx)⟩) (by
        rw [hget]
        rw [←h1] at hz
        exact hz.dr hrel (fun _ h=>h) (dF hfr args))
      refine ⟨goal,hgo,m0,L,q1,q2,fun r hm=>?_⟩
      obtain ⟨w,H',e1,e2,e3,e4,e5,e6⟩:=q3 r hm
      exact ⟨w,H',e1,e2,e3,e4,e5,hfree.2 _ _ _ _ e6⟩
    have hone:∀ r ∈ R,∃ w H',r=.ret w H'∧uy i s r=some [(w,({H' with lo:=s.hp.lo}:Hp),(⟨i,[],[],true,s.hp.n,H'.n⟩:Tc))] ∧
      cC T ops (⟨o,s,w,{H' with lo:=s.hp.lo},⟨i,[],[],true,s.hp.n,H'.n⟩⟩ :: evs)=true ∧
      mC (tr i).E base ⟨mA st.fr o.dst v,st.hp,st.aE,st.rd,st.fl⟩ ⟨cu s.fr o.dst w,{H' with lo:=s.hp.lo},s.rd⟩∧Ext base (tr 0).E (tr 0).hp (tr 0).H (tr i).E st.hp {H' with lo:=s.hp.lo}:=fun r hr=>by
     obtain ⟨w,H',rfl,hn,hwf,hsame,hlo,hdr⟩:=q3 r hr
     obtain ⟨g1,g2⟩:=hrel.grow (H':={H' with lo:=s.hp.lo}) (by rw [h2];exact hn) hwf (fun k hk=>by
      have:=hsame k (by rw [←h2];exact hk)
      rw [h2];exact this) (by rw [h2];exact Nat.min_le_left _ _)
     rw [h1] at g1 g2
     have hble:Nat.ble s.hp.n H'.lo=true:=Nat.ble_eq_true_of_le (by
      have:min s.hp.n s.hp.n≤H'.lo:=hlo
      omega)
     let z:bw:=⟨(tr i).E,st.hp,{H' with lo:=s.hp.lo}⟩
     have htz:iW base st.aE (snoc tr i z) (i+1):=ht.snoc (z:=z) g1 (by rw [h1];exact g2)
     have hev:oW (snoc tr i z) (i+1) (⟨i,[],true,true⟩ :: acc) (⟨o,s,w,{H' with lo:=s.hp.lo},⟨i,[],[],true,s.hp.n,H'.n⟩⟩ :: evs) :=
      .cons (he.snoc (Nat.le_refl _)) rfl ⟨rfl,by rw [aU (Nat.le_refl _),h2],by rw [aY (Nat.lt_succ_self _)],fun h=>Bool.noConfusion h,rfl,fun k hk=>(by cases hk),fun k hk=>(by cases hk)⟩
     refine ⟨w,H',rfl,?_,?_,⟨g1,h3,fun t=>?_⟩,?_⟩
     ·show some [ij i s w H']=_
      rw [k9 hble]
     ·unfold cC
      generalize hE:((⟨o,s,w,{H' with lo:=s.hp.lo},⟨i,[],[],true,s.hp.n,H'.n⟩⟩:Ev) :: evs)=evs' at *
      cases (evs'.all fun e=>e.t.wr.isEmpty && Nat.beq e.t.a e.t.b) with
      | true=>rfl
      | false=>exact hev.pairs htz (Nat.le_refl _) hchk
     ·have hb':=(hb.put (z:=z) (v:=v) (u:=w) (Nat.le_refl _) (by
       rw [aY (Nat.lt_succ_self _)]
       refine .d ?_
       show DR H'.get ((tr i).E.O st.hp) v w
       rw [←h1];exact hdr) o.dst) t
      have:=(htz.ext _ (i+1) hb'.1 (Nat.le_refl _)).ar (htz.rel _ hb'.1).wf hb'.2
      rw [aY (Nat.lt_succ_self _)] at this
      exact this
     ·have:=htz.ext 0 (i+1) (Nat.zero_le _) (Nat.le_refl _)
      rw [aU (Nat.zero_le _),aY (Nat.lt_succ_self _)] at this
      exact this
    obtain ⟨P,hP⟩:∃ P,bJ R (uy i s)=some P:=by
     obtain ⟨_,M,_,hM,_⟩:=eU (one:=false) (L:=R) (f:=fun _ r=>uy i s r) (P:=fun _=>True) (fun _ _ _ _ _ h=>h) 0 (fun h=>Bool.noConfusion h) (fun r hr=>by
      obtain ⟨w,H',_,e,_⟩:=hone r hr
      exact ⟨0,_,e,fun h=>Bool.noConfusion h,fun _ _=>trivial⟩)
     exact ⟨M,hM⟩
    have hPr:∀ p ∈ P,∃ w H',p=(w,({H' with lo:=s.hp.lo}:Hp),(⟨i,[],[],true,s.hp.n,H'.n⟩:Tc))∧gk.ret w H' ∈ R:=fun p hp=>by
     obtain ⟨r,hr,Pr,e1,e2⟩:=gA hP p hp
     obtain ⟨w,H',rfl,e3,_⟩:=hone r hr
     rw [e3] at e1
     cases e1
     exact ⟨w,H',List.mem_singleton.1 e2,hr⟩
    obtain ⟨m,L,hm,hL,_,hLs⟩:=eU (one:=false) (L:=P) (f:=fun m (p:Value × Hp × Tc)=>aM T (RX T tab m) ops.toList (ops.toList.drop (i+1)) ⟨cu s.fr o.dst p.1,p.2.1,s.rd⟩)
     (P:=fun s'=>∃ E' st',K st'∧st'.fl=st.fl∧mC E' base st' s'∧jL st.fl base (tr 0).E (tr 0).hp (tr 0).H E' st'.hp s'.hp) (fun a b x M hab hx=>gB (dm hab) _ _ _ _ hx) m0 (fun h=>Bool.noConfusion h) (fun p hp=>by
      obtain ⟨w,H',rfl,hr⟩:=hPr p hp
      obtain ⟨w',H'',e0,_,_,hrel2,hext⟩:=hone _ hr
      cases e0
      obtain ⟨m2,L2,k1,k2,k3⟩:=gM h hrel2
      refine ⟨m2,L2,k1,fun h=>Bool.noConfusion h,fun s' hs'=>?_⟩
      obtain ⟨E2,st2,j1,j2,j3,j4⟩:=k3 s' hs'
      exact ⟨E2,st2,j1,j2,j3,hext.DG.trans j4⟩)
    refine ⟨m,L,?_,hLs⟩
    rw [w8]
    unfold qq
    have hdm:iN T (RX T tab m) ops o i s=some P:=by
     unfold iN
     rw [hg,cond_true]
     unfold ej
     simp only [hk,hgo,dm hm _ _ q1]
     exact hP
    simp only [ho,hdm]
    have hall:(P.all fun p=>cC T ops (⟨o,s,p.1,p.2.1,p.2.2⟩ :: evs))=true:=by
     rw [List.all_eq_true]
     intro p hp
     obtain ⟨w,H',rfl,hr⟩:=hPr p hp
     obtain ⟨w',H'',e0,_,hd,_⟩:=hone _ hr
     cases e0
     exact hd
    rw [hall]
    exact hL
   ·exact h.elim
  ·exact h.elim
theorem aA.nd {id:Nat} (c:Nat) {l:List Oper} {mu:Tmp→Bool} {st:bK} {K:Exit→bK→Prop} (hc:qp l.toArray=some c) (h:kD T tab mu l.toArray c (K .normal) (l.take c) 0 (fun _=>0) [] st):aA T tab false (.region id l.toArray true) st K:=by
 intro E base s hs
 obtain ⟨m,L,r1,r2⟩:=pK (base:=base) (tr:=fun _=>⟨E,st.hp,s.hp⟩) (evs:=[]) h ⟨fun _ _=>hs.h,fun _ _ _ _=>.refl⟩ rfl rfl hs.rd (fun t=>⟨Nat.le_refl _,hs.fr t⟩) .nil
 refine ⟨m,L.map fun s=>(.normal,s),?_,fun h1=>Bool.noConfusion h1,fun p hp=>?_⟩
 ·rw [bQ]
  have:bE T (RX T tab m) l.toArray s=some L:=by
   unfold bE
   rw [hc]
   exact r1
  simp only [cond_true,this]
 ·obtain ⟨s2,hm,rfl⟩:=List.mem_map.1 hp
  obtain ⟨E2,st2,k1,k2,k3,k4⟩:=r2 s2 hm
  exact ⟨E2,st2,k1,k2,k3,k4⟩
section
variable {mu : Tmp → Bool} {ops : Array Oper} {K : bK → Prop} {c i : Nat} {bt : Nat → Nat} {acc : List gN} {fr : Nat → AV} {rd : Bool}
theorem Tb {dst:Option Tmp} {op:Op} {a1 a2 a3 gd} {l:List Oper} (h:cK ops.toList gd fr (eC T tab mu dst op i bt fr hp fun fr' hp' bt' x=>kD T tab mu ops c K l (i+1) bt' (x :: acc) ⟨fr',hp',aE,rd,fl⟩)
 (fk dst fr (.tp []) fun fr'=>kD T tab mu ops c K l (i+1) (gC dst bt 0) (⟨i,[],false,false⟩ :: acc) ⟨fr',hp,aE,rd,fl⟩)):kD T tab mu ops c K (⟨dst,op,a1,a2,a3,gd⟩ :: l) i bt acc ⟨fr,hp,aE,rd,fl⟩:=h
end
end
end Go.RM
namespace Go.RM
structure Hd (h:Prop):Prop where
 x:h
theorem u1 {g h : Prop} (q : h) (k : Hd h → g := by
    intro hd
    first
    | with_reducible (first | refine RM.c1 ?_ | refine RM.c2 ?_ | refine RM.c3 ?_ | refine RM.c4 ?_ | refine RM.c6 ?_ | refine RM.c7 ?_ | refine RM.c8 ?_ | refine RM.c9 ?_ | refine RM.d1 ?_ | refine RM.d2 ?_ | refine RM.d3 ?_ | refine RM.d4 ?_ | refine RM.d7 ?_ | refine RM.d8 ?_ | refine RM.d9 ?_ | refine RM.o1 ?_ | refine RM.o2 ?_ | refine RM.o3 ?_ | refine RM.o4 ?_ | refine RM.o5 ?_ | refine RM.o6 ?_ | refine RM.o7 ?_ | refine RM.o9 ?_ | refine RM.p1 ?_ | refine RM.p2 ?_ | refine RM.p3 ?_ | refine RM.p4 ?_ | refine RM.p5 ?_ | refine RM.p6 ?_ | refine RM.p7 ?_ | refine RM.p8 ?_ | refine RM.q1 ?_ | refine RM.q2 ?_ | refine RM.Sd ?_ | refine RM.Pb ?_ | refine RM.Pc ?_ | refine RM.LG ?_ | refine RM.S3 ?_ | refine RM.S4 ?_ | refine RM.Tb ?_)
    | ((with_reducible show force _ _); first | refine RM.f1 rfl ?_ | refine RM.f2 rfl ?_ | refine RM.f3 rfl ?_ | refine RM.f4 rfl ?_ | refine RM.f5 rfl ?_ | refine RM.f6 rfl ?_ | refine RM.f7 rfl ?_ | refine RM.f8 rfl ?_ | refine RM.f9 rfl ?_ | refine RM.g1 rfl ?_ | refine RM.g2 rfl ?_)
    | ((with_reducible show RM.wpOp _ _ _ _ _ _); first
      | ((with_reducible show RM.wpOp _ _ (.load _ _) _ _ _); first | refine RM.Qf rfl rfl rfl ?_ | refine RM.SX rfl rfl rfl ?_ | refine RM.LF rfl rfl rfl rfl ?_ | refine RM.SY rfl rfl rfl rfl ?_)
      | ((with_reducible show RM.wpOp _ _ (.fieldAddr _ _ _) _ _ _); first | refine RM.SZ rfl rfl rfl rfl ?_ | refine RM.S0 rfl rfl rfl rfl ?_)
      | ((with_reducible show RM.wpOp _ _ (.alloc _) _ _ _); refine RM.S1 rfl rfl ?_)
      | ((with_reducible show RM.wpOp _ _ (.extract _ _) _ _ _); refine RM.Sg rfl rfl ?_)
      | ((with_reducible show RM.wpOp _ _ (.indexAddr _ _ _) _ _ _); first | refine RM.SE rfl rfl rfl (by assumption) (by omega) rfl ?_ | refine RM.SE rfl rfl rfl rfl (by omega) rfl ?_ | refine RM.S7 rfl rfl rfl (by omega) ?_ | refine RM.S8 rfl rfl rfl (by omega) ?_ | refine RM.S9 rfl rfl rfl (by omega) ?_)
      | ((with_reducible show RM.wpOp _ _ (.makeSlice _ _ _) _ _ _); refine RM.Ta rfl rfl rfl (by decide) rfl ?_)
      | ((with_reducible show RM.wpOp _ _ (.unOp _ _ _) _ _ _); refine RM.n3 rfl ?_)
      | ((with_reducible show RM.wpOp _ _ (.call _) _ _ _); first | refine RM.n4 rfl rfl ?_ | refine RM.n5 rfl rfl ?_))
    | ((with_reducible show nt _ _ _ _ (.region _ _ true) _ _); first | refine RM.SW rfl ?_ | refine RM.c5 (by kernel_rfl) rfl rfl ?_)
    | ((with_reducible show qX _ _ _ _ _ _ _ _ _ _ _ _); refine RM.o8 rfl ?_)
    | ((with_reducible show eC _ _ _ _ _ _ _ _ _ _); first | refine RM.p9 rfl ?_ | refine RM.n1 ?_)
    | ((with_reducible show cK _ _ _ _ _); first | refine tB rfl rfl rfl ?_ | refine vO rfl rfl rfl ?_ | refine z8 rfl rfl ?_ | refine tB rfl rfl (by assumption) ?_ | refine vO rfl rfl (by assumption) ?_)
    | ((with_reducible show nt _ _ _ _ (.cond _ _ _) _ _); first | refine RM.e2 rfl rfl ?_ | refine RM.e3 rfl rfl ?_ | refine RM.e2 rfl (by assumption) ?_ | refine RM.e3 rfl (by assumption) ?_)
    | ((with_reducible show sC _ _ _ _ _); refine RM.k1 rfl ?_)
    | ((with_reducible show jm _ _ _ _ _); first | refine RM.k2 rfl ?_ | refine RM.k3 rfl ?_ | refine RM.k2 (by assumption) ?_ | refine RM.k3 (by assumption) ?_ | refine RM.k4 rfl rfl ?_)
    | ((with_reducible show aL _ _ _ _ _ _ _ _ _); first | refine RM.b4 rfl rfl ?_ | refine RM.b5 rfl rfl ?_ | refine RM.b6 rfl rfl ?_ | refine RM.b7 rfl rfl ?_ | refine RM.b8 rfl rfl ?_ | refine RM.b9 rfl rfl ?_ | refine RM.b1 rfl rfl (by omega) ?_ | refine RM.b2 rfl rfl (by omega) ?_ | refine RM.b3 rfl rfl (by omega) ?_ | refine RM.r1 rfl rfl (by omega) ?_ | refine RM.r2 rfl rfl (by omega) ?_)
    | ((with_reducible show qU _ _ _ _ _); first | refine RM.l1 rfl ?_ | refine RM.l2 rfl ?_)
    | ((with_reducible show qS _ _ _); first | refine RM.l3 rfl ?_ | refine RM.l4 rfl ?_)
    | ((with_reducible show jM _ _ _ _); first | refine RM.d5 rfl ?_ | refine RM.d6 rfl ?_)
    | ((with_reducible show yd _ _ _ _); first | refine RM.Ro rfl rfl rfl rfl ?_ | refine RM.S2 rfl rfl rfl ?_)
    | ((with_reducible show cR _ _ _ _ _ _); refine RM.ND rfl rfl rfl rfl rfl rfl rfl ?_)
    | ((with_reducible show mo _ _ _ _ _); refine RM.R7 rfl rfl rfl ?_)
    | ((with_reducible show dH _ _ _ _ _ _ _); first | refine RM.S5 rfl rfl rfl rfl rfl rfl rfl ?_ | refine RM.S6 rfl rfl rfl rfl rfl rfl ?_)
    | ((with_reducible show av _ _ _ _ _ _ _ _); refine ah.call (by assumption) rfl rfl ?_)
    | ((with_reducible show oG _ _ = true ∧ _); refine And.intro (by kernel_rfl) ?_)
    | ((with_reducible show ∃ _, DH _ _ _ = some _ ∧ _); refine ⟨_, rfl, ?_⟩)
    | ((with_reducible show AV.deep _ = true ∧ _); refine ⟨rfl, rfl, ?_⟩)
    | ((with_reducible show ∃ _, ah _ _ _ _ _ _ ∧ _); refine ⟨_, by assumption, ?_⟩)
    exact hd.x) : g := k ⟨q⟩
theorem u2 {g h:Prop} (q:h) (k:Hd h→g:=by
 intro hd
 first
 | refine ⟨_,rfl,?_⟩
 | refine ⟨_,_,rfl,by decide,?_⟩
 | refine ⟨rfl,rfl,rfl,?_⟩
 | refine ⟨rfl,rfl,?_⟩
 | refine ⟨_,_,rfl,_,rfl,?_⟩
 | refine And.intro (Nat.le_of_ble_eq_true rfl) ?_
 | refine And.intro (by omega) ?_
 | refine ⟨_,_,rfl,rfl,_,rfl,rfl,?_⟩
 | refine And.intro (by kernel_rfl) ?_
 | refine ⟨rfl,rfl,rfl,rfl,rfl,?_⟩
 | refine ⟨_,_,rfl,rfl,rfl,rfl,Nat.le_of_ble_eq_true rfl,?_⟩
 | refine ⟨_,_,rfl,Nat.le_of_ble_eq_true rfl,?_⟩
 exact hd.x):g:=k ⟨q⟩
open Go
theorem wrap_u64 {n:Nat} (h:n < 18446744073709551616):IntKind.wrap .u64 (n:Int)=(n:Int):=by
 show ((BitVec.ofInt 64 (n:Int)).toNat:Int)=_
 rw [BitVec.ofInt_natCast,BitVec.toNat_ofNat,Nat.mod_eq_of_lt h]
theorem J6 {P:Program} {t:TypeId} {x y:Operand} {m n:Nat} (hm:m < 18446744073709551616) (hn:n < 18446744073709551616):dz P .and t x y (.int .u64 (m:Int)) (.int .u64 (n:Int))=some (.int .u64 ((m &&& n:Nat):Int),.none):=by
 have h:dz P .and t x y (.int .u64 (m:Int)) (.int .u64 (n:Int))=some (.int .u64 (IntKind.wrap .u64 ((BitVec.ofInt 64 (m:Int) &&& BitVec.ofInt 64 (n:Int)).toNat:Int)),.none):=rfl
 rw [h,Ca (by omega) (by omega),wrap_u64 (Nat.lt_of_le_of_lt Nat.and_le_left hm)]
theorem LR {P:Program} {t:TypeId} {x y:Operand} {m n:Nat} (hm:m < 18446744073709551616) (hn:n < 18446744073709551616):dz P .or t x y (.int .u64 (m:Int)) (.int .u64 (n:Int))=some (.int .u64 ((m ||| n:Nat):Int),.none):=by
 have h:dz P .or t x y (.int .u64 (m:Int)) (.int .u64 (n:Int))=some (.int .u64 (IntKind.wrap .u64 ((BitVec.ofInt 64 (m:Int) ||| BitVec.ofInt 64 (n:Int)).toNat:Int)),.none):=rfl
 rw [h,LC (by omega) (by omega),wrap_u64 (Nat.or_lt_two_pow (n:=64) hm hn)]
theorem J7 {P:Program} {t:TypeId} {x y:Operand} {j:Nat} (hj:j < 8):dz P .shl t x y (.int .u64 1) (.int .i64 (j:Int))=some (.int .u64 ((2 ^ j:Nat):Int),.none):=by
 match j,hj with
 | 0,_|1,_|2,_|3,_|4,_|5,_|6,_|7,_=>rfl
theorem J8 {P:Program} {t:TypeId} {x y:Operand} {m j:Nat} (hj:j < 8):dz P .shr t x y (.int .u64 (m:Int)) (.int .i64 (j:Int))=some (.int .u64 ((m / 2 ^ j:Nat):Int),.none):=by
 have h:dz P .shr t x y (.int .u64 (m:Int)) (.int .i64 (j:Int))=some (.int .u64 ((m:Int).fdiv (2 ^ j)),.none):=by
  match j,hj with
  | 0,_|1,_|2,_|3,_|4,_|5,_|6,_|7,_=>rfl
 rw [h,Int.fdiv_eq_ediv_of_nonneg _ (Int.pow_nonneg (by decide)),Int.natCast_ediv,Int.natCast_pow]
 rfl
theorem LU {P:Program} {t:TypeId} {x y:Operand} {m n:Int}:dz P .eql t x y (.int .u64 m) (.int .u64 n)=some (.bool (decide (m=n)),.none):=rfl
theorem J9 {P:Program} {t:TypeId} {x y:Operand} {m n:Int}:dz P .neq t x y (.int .u64 m) (.int .u64 n)=some (.bool (!decide (m=n)),.none):=rfl
theorem Ka {P:Program} {t:TypeId} {x y:Operand} {m n:Int}:dz P .lss t x y (.int .u64 m) (.int .u64 n)=some (.bool (decide (m < n)),.none):=rfl
theorem Kc {P:Program} {t:TypeId} {x y:Operand} {m:Nat} (h1:1≤m) (hm:m < 18446744073709551616):dz P .sub t x y (.int .u64 (m:Int)) (.int .u64 1)=some (.int .u64 ((m - 1:Nat):Int),.none):=by
 have h:dz P .sub t x y (.int .u64 (m:Int)) (.int .u64 1)=some (.int .u64 (IntKind.wrap .u64 ((m:Int) - 1)),.none):=rfl
 rw [h,show (m:Int) - 1=((m - 1:Nat):Int) by omega,wrap_u64 (by omega)]
theorem Ke {P:Program} {t:TypeId} {x y:Operand} {m:Nat} (hm:m < 18446744073709551615):dz P .add t x y (.int .u64 (m:Int)) (.int .u64 1)=some (.int .u64 ((m+1:Nat):Int),.none):=by
 have h:dz P .add t x y (.int .u64 (m:Int)) (.int .u64 1)=some (.int .u64 (IntKind.wrap .u64 ((m:Int)+1)),.none):=rfl
 rw [h,show (m:Int)+1=((m+1:Nat):Int) by omega,wrap_u64 (by omega)]
section
variable {T : bz} {a b : AV} {t : TypeId} {x y : Operand} {hp : List AB} {K : AV → List AB → Prop}
theorem Ci {m n:Nat} (ha:a=.fl (.int .u64 (m:Int))) (hb:b=.fl (.int .u64 (n:Int))) (hm:m < 18446744073709551616) (hn:n < 18446744073709551616) (h:K (.fl (.int .u64 ((m &&& n:Nat):Int))) hp):aL T .and t x y a b hp K:=by
 subst ha hb
 exact ⟨_,_,rfl,rfl,.int .u64 ((m &&& n:Nat):Int),J6 hm hn,rfl,h⟩
theorem Sj {m n:Nat} (ha:a=.fl (.int .u64 (m:Int))) (hb:b=.fl (.int .u64 (n:Int))) (hm:m < 18446744073709551616) (hn:n < 18446744073709551616) (h:K (.fl (.int .u64 ((m ||| n:Nat):Int))) hp):aL T .or t x y a b hp K:=by
 subst ha hb
 exact ⟨_,_,rfl,rfl,.int .u64 ((m ||| n:Nat):Int),LR hm hn,rfl,h⟩
theorem Fs {j:Nat} (ha:a=.fl (.int .u64 1)) (hb:b=.fl (.int .i64 (j:Int))) (hj:j < 8) (h:K (.fl (.int .u64 ((2 ^ j:Nat):Int))) hp):aL T .shl t x y a b hp K:=by
 subst ha hb
 exact ⟨_,_,rfl,rfl,.int .u64 ((2 ^ j:Nat):Int),J7 hj,rfl,h⟩
theorem v7 {m j:Nat} (ha:a=.fl (.int .u64 (m:Int))) (hb:b=.fl (.int .i64 (j:Int))) (hj:j < 8) (h:K (.fl (.int .u64 ((m / 2 ^ j:Nat):Int))) hp):aL T .shr t x y a b hp K:=by
 subst ha hb
 exact ⟨_,_,rfl,rfl,.int .u64 ((m / 2 ^ j:Nat):Int),J8 hj,rfl,h⟩
theorem DZ {m n:Int} (ha:a=.fl (.int .u64 m)) (hb:b=.fl (.int .u64 n)) (h:K (.fl (.bool (decide (m=n)))) hp):aL T .eql t x y a b hp K:=by
 subst ha hb
 exact ⟨_,_,rfl,rfl,.bool (decide (m=n)),LU,rfl,h⟩
theorem NH {m n:Int} (ha:a=.fl (.int .u64 m)) (hb:b=.fl (.int .u64 n)) (h:K (.fl (.bool (!decide (m=n)))) hp):aL T .neq t x y a b hp K:=by
 subst ha hb
 exact ⟨_,_,rfl,rfl,.bool (!decide (m=n)),J9,rfl,h⟩
theorem Kf {m n:Int} (ha:a=.fl (.int .u64 m)) (hb:b=.fl (.int .u64 n)) (h:K (.fl (.bool (decide (m < n)))) hp):aL T .lss t x y a b hp K:=by
 subst ha hb
 exact ⟨_,_,rfl,rfl,.bool (decide (m < n)),Ka,rfl,h⟩
theorem Rt {m:Nat} (ha:a=.fl (.int .u64 (m:Int))) (hb:b=.fl (.int .u64 1)) (h1:1≤m) (hm:m < 18446744073709551616) (h:K (.fl (.int .u64 ((m - 1:Nat):Int))) hp):aL T .sub t x y a b hp K:=by
 subst ha hb
 exact ⟨_,_,rfl,rfl,.int .u64 ((m - 1:Nat):Int),Kc h1 hm,rfl,h⟩
theorem Kg {m:Nat} (ha:a=.fl (.int .u64 (m:Int))) (hb:b=.fl (.int .u64 1)) (hm:m < 18446744073709551615) (h:K (.fl (.int .u64 ((m+1:Nat):Int))) hp):aL T .add t x y a b hp K:=by
 subst ha hb
 exact ⟨_,_,rfl,rfl,.int .u64 ((m+1:Nat):Int),Ke hm,rfl,h⟩
theorem qd {m:Nat} (ha:a=.fl (.int .u64 (m:Int))) (hb:b=.fl (.int .u64 1)) (hm:m < 18446744073709551616) (h:K (.fl (.int .u64 ((m % 2:Nat):Int))) hp):aL T .and t x y a b hp K:=by
 rw [←Nat.and_one_is_mod] at h
 exact Ci (n:=1) ha hb hm (by decide) h
end
theorem Po {T:bz} {fr:Nat→AV} {hp:List AB} {K:AV→List AB→Prop} {s x:Operand} {t u e:TypeId} {a1 a2 a3 a4 a5 a6} {els0 els:List (List AV)} {f:Bool} {inf:rM} (hs:aN fr s=.sl els0 true) (hx:aN fr x=.sl els f)
  (hu:T.ty.get u=some ⟨.slice e,a1,a2,a3,a4,a5,a6⟩) (hi:elem? T t=some inf) (hz:bl inf=true) (h0:∀ el ∈ els0,el.length=inf.size) (hel:∀ el ∈ els,el.length=inf.size) (h1:els.flatten.all AV.one=true) (hne:els ≠ [])
  (hb:(els0.length+els.length) * inf.bytes≤140737488355328∧els0.length+els.length≤9223372036854775807) (hd:cJ els.flatten=true) (hk:K (.sl (els0++els) false) hp) :
  RM.wpOp T false (.call ⟨.builtin .append,[s,x].toArray,[t,u].toArray⟩) fr hp K:=by
 show force (aN fr s) fun a=>force (aN fr x) fun b=>gh T false .append [a,b] [t,u] hp K
 rw [hs,hx]
 show (match T.ty.get u with|some ⟨.slice _,_,_,_,_,_,_⟩=>fP T false t (.sl els0 true) (.sl els f) hp K|_=>False)
 rw [hu]
 show fP T false t (.sl els0 true) (.sl els f) hp K
 unfold fP
 rw [hi]
 exact ⟨hz,els,⟨hel,rfl⟩,h1,h0,hb,fun e=>absurd e hne,fun _=>⟨hd,hk⟩⟩
section
variable {T : bz} {own : Bool} {fr : Nat → AV} {hp : List AB} {K : AV → List AB → Prop} {t : TypeId} {s by' cA : Nat} {z : Option Value} {agg : Bool} {cq : List (Nat × Nat)}
theorem SH {x hi:Operand} {cs:List AV} {o len h:Nat} {e:TypeId} {els:List (List AV)} (hx:aN fr x=.pt cs o) (hh:aN fr hi=.fl (.int .i64 (h:Int))) (ht:T.ty.get t=some ⟨.array len e,s,by',z,agg,cq,cA⟩)
  (hb:h≤len∧o+h * cA≤cs.length) (h1:1≤cA) (he:els.length=h∧(∀ el ∈ els,el.length=cA)∧els.flatten=(cs.drop o).take (h * cA)) (k:K (.sl els (Nat.beq h len)) hp):wpOp T own (.slice t x none (some hi) none) fr hp K:=by
 show qT T t (aN fr x) none (some (aN fr hi)) hp K
 rw [hx,hh]
 unfold qT
 simp only [ht]
 refine ⟨0,h,els,rfl,rfl,⟨Nat.zero_le _,hb.1,hb.2⟩,h1,?_,k⟩
 rw [Nat.zero_mul,Nat.add_zero,Nat.sub_zero]
 exact he
theorem Tg {x hi mx:Operand} {inf:rM} {j aB o n c h:Nat} (hx:aN fr x=.bI j aB o n c) (hh:aN fr hi=.fl (.int .i64 (h:Int))) (hm:aN fr mx=.fl (.int .i64 (h:Int))) (hi':elem? T t=some inf) (hb:h≤n) (h1:1≤inf.size)
  (k:K (.bI j aB (o+0 * inf.size) (h - 0) (h - 0)) hp):wpOp T own (.slice t x none (some hi) (some mx)) fr hp K:=by
 show nL T t (aN fr x) none (aN fr hi) (aN fr mx) hp K
 rw [hx,hh,hm]
 unfold nL
 simp only [hi']
 exact ⟨0,h,rfl,rfl,rfl,⟨Nat.zero_le _,hb⟩,h1,k⟩
theorem SI {o:BinOp} {x y:Operand} {a:AV} {els:List (List AV)} {f b:Bool} (ha:a=.sl els f) (hne:els ≠ []) (ht:iM T.P t=true) (ho:gU o=some (.bool b,.none)) (k:K (.fl (.bool b)) hp):aL T o t x y a (.fl (.slice none 0 0)) hp K:=by
 subst ha
 exact ⟨hne,ht,_,ho,k⟩
theorem Rv {o:BinOp} {x y:Operand} {a:AV} {j aB p n c:Nat} {b:Bool} (ha:a=.bI j aB p n c) (hne:n ≠ 0) (ht:iM T.P t=true) (ho:gU o=some (.bool b,.none)) (k:K (.fl (.bool b)) hp):aL T o t x y a (.fl (.slice none 0 0)) hp K:=by
 subst ha
 exact ⟨hne,ht,_,ho,k⟩
theorem SJ {x:Operand} {kt et:TypeId} {j clock:Nat} {aI:List (AV × AV × Nat)} (hx:aN fr x=.om j) (ht:T.ty.get t=some ⟨.map kt et,s,by',z,agg,cq,cA⟩) (hj:hp[j]?=some (.map aI clock)) (k:K (.tp []) (hp.set j (.map [] clock))) :
  wpOp T own (.call ⟨.builtin .clear,[x].toArray,[t].toArray⟩) fr hp K:=by
 show force (aN fr x) fun a=>oC T t a hp K
 rw [hx]
 show oC T t (.om j) hp K
 unfold oC
 simp only [ht]
 exact ⟨aI,clock,hj,k⟩
end
inductive As (s st:bK):Prop
 | is (h:aj s st)
 | no (h:False)
theorem As.aX {s st:bK}:As s st→aj s st
 | .is h=>h
 | .no h=>h.elim
theorem cutAt {T:bz} {tab:List XE} {one:Bool} {a b:Code} {st st':bK} {K:Exit→bK→Prop} (h1:aA T tab one a st (vJ (fun s=>As s st') K)) (h2:aA T tab one b st' K):aA T tab one (.seq a b) st K :=
 .seq (h1.mono fun e s h=>by cases e <;> first|exact .aX h.aX h2|exact h)
theorem Kn {P:Program} {t:TypeId} {x y:Operand} {m j:Nat} (hj:j=1∨j=2∨j=4∨j=8∨j=16∨j=32):dz P .shr t x y (.int .u64 (m:Int)) (.int .u64 (j:Int))=some (.int .u64 ((m / 2 ^ j:Nat):Int),.none):=by
 have h:dz P .shr t x y (.int .u64 (m:Int)) (.int .u64 (j:Int))=some (.int .u64 ((m:Int).fdiv (2 ^ j)),.none):=by
  rcases hj with rfl|rfl|rfl|rfl|rfl|rfl <;> rfl
 rw [h,Int.fdiv_eq_ediv_of_nonneg _ (Int.pow_nonneg (by decide)),Int.natCast_ediv,Int.natCast_pow]
 rfl
theorem Ko {P:Program} {t:TypeId} {x y:Operand} {m n:Nat} (hm:m+n < 18446744073709551616):dz P .add t x y (.int .u64 (m:Int)) (.int .u64 (n:Int))=some (.int .u64 ((m+n:Nat):Int),.none):=by
 have h:dz P .add t x y (.int .u64 (m:Int)) (.int .u64 (n:Int))=some (.int .u64 (IntKind.wrap .u64 ((m:Int)+(n:Int))),.none):=rfl
 rw [h,show (m:Int)+(n:Int)=((m+n:Nat):Int) by omega,wrap_u64 hm]
theorem Kq {P:Program} {t:TypeId} {x y:Operand} {m n:Nat} (hm:m < 4611686018427387904) (hn:n < 4611686018427387904):dz P .and t x y (.int .i64 (m:Int)) (.int .i64 (n:Int))=some (.int .i64 ((m &&& n:Nat):Int),.none):=by
 have h:dz P .and t x y (.int .i64 (m:Int)) (.int .i64 (n:Int))=some (.int .i64 (IntKind.wrap .i64 ((BitVec.ofInt 64 (m:Int) &&& BitVec.ofInt 64 (n:Int)).toNat:Int)),.none):=rfl
 have hle:m &&& n≤m:=Nat.and_le_left
 rw [h,Ca (by omega) (by omega),wrap_i64 (by omega) (by omega)]
section
variable {T : bz} {a b : AV} {t : TypeId} {x y : Operand} {hp : List AB} {K : AV → List AB → Prop}
theorem yF {m j:Nat} (ha:a=.fl (.int .u64 (m:Int))) (hb:b=.fl (.int .u64 (j:Int))) (hj:j=1∨j=2∨j=4∨j=8∨j=16∨j=32) (h:K (.fl (.int .u64 ((m / 2 ^ j:Nat):Int))) hp):aL T .shr t x y a b hp K:=by
 subst ha hb
 exact ⟨_,_,rfl,rfl,.int .u64 ((m / 2 ^ j:Nat):Int),Kn hj,rfl,h⟩
theorem FB {m n:Nat} (ha:a=.fl (.int .u64 (m:Int))) (hb:b=.fl (.int .u64 (n:Int))) (hm:m+n < 18446744073709551616) (h:K (.fl (.int .u64 ((m+n:Nat):Int))) hp):aL T .add t x y a b hp K:=by
 subst ha hb
 exact ⟨_,_,rfl,rfl,.int .u64 ((m+n:Nat):Int),Ko hm,rfl,h⟩
theorem Rx {m n:Nat} (ha:a=.fl (.int .i64 (m:Int))) (hb:b=.fl (.int .i64 (n:Int))) (hm:m < 4611686018427387904) (hn:n < 4611686018427387904) (h:K (.fl (.int .i64 ((m &&& n:Nat):Int))) hp):aL T .and t x y a b hp K:=by
 subst ha hb
 exact ⟨.int .i64 ((m &&& n:Nat):Int),Kq hm hn,rfl,h⟩
end
section
variable {T : bz} {tab : List XE} {one : Bool} {base : Nat} {E : Env} {hp : List AB} {aE : bG} {H : Hp}
def Ej (T:bz) (t2 mt t3 t4:TypeId) (p0 p1 q:Operand) (x0 x1 x2 x3 x4 x5:Tmp) (st:bK) (K:bK→Prop):Prop :=
 wpOp T false (.move p0) st.fr st.hp fun v0 h0=>force v0 fun v0=>fk (some x0) st.fr v0 fun f0 =>
 wpOp T false (.load t2 p1) f0 h0 fun v1 h1=>force v1 fun v1=>fk (some x1) f0 v1 fun f1 =>
 wpOp T false (.lookup mt (.tmp x0) (.tmp x1) false) f1 h1 fun v2 h2=>∃ c:Int,v2=.fl (.int .i64 c)∧fk (some x2) f1 (.fl (.int .i64 c)) fun f2 =>
 wpOp T false (.binOp .add t3 (.tmp x2) q t4) f2 h2 fun v3 h3=>force v3 fun v3=>fk (some x3) f2 v3 fun f3 =>
 wpOp T false (.mapEntry mt (.tmp x0) (.tmp x1)) f3 h3 fun v4 h4=>wpOp T false (.lookup mt (.tmp x0) (.tmp x1) false) f1 h4 (fun v _=>v=.fl (.int .i64 c))∧(force v4 fun v4=>fk (some x4) f3 v4 fun f4 =>
 wpOp T false (.extract (.tmp x4) 1) f4 h4 fun v5 h5=>force v5 fun v5=>fk (some x5) f4 v5 fun f5 =>
 wpOp T false (.entryStore mt (.tmp x0) (.tmp x5) (.tmp x3)) f5 h5 fun _ h6=>K ⟨f5,h6,st.aE,st.rd,st.fl⟩)
theorem aA.GB {id:Nat} {ops:Array Oper} {t2 mt t3 t4:TypeId} {p0 p1 q:Operand} {x0 x1 x2 x3 x4 x5:Tmp} {y0 z0 w0 y1 z1 w1 y2 z2 w2 y3 z3 w3 y4 z4 w4 y5 z5 w5 y6 z6 w6} {st:bK} {K:Exit→bK→Prop}
  (hops:ops.toList=[⟨some x0,.move p0,y0,z0,w0,none⟩,⟨some x1,.load t2 p1,y1,z1,w1,none⟩,⟨some x2,.lookup mt (.tmp x0) (.tmp x1) false,y2,z2,w2,none⟩,⟨some x3,.binOp .add t3 (.tmp x2) q t4,y3,z3,w3,none⟩,
   ⟨some x4,.mapEntry mt (.tmp x0) (.tmp x1),y4,z4,w4,none⟩,⟨some x5,.extract (.tmp x4) 1,y5,z5,w5,none⟩,⟨none,.entryStore mt (.tmp x0) (.tmp x5) (.tmp x3),y6,z6,w6,none⟩])
  (hb:JV (ql ops)=true) (hw:Ej T t2 mt t3 t4 p0 p1 q x0 x1 x2 x3 x4 x5 st (K .normal)):aA T tab one (.region id ops true) st K:=by
 intro E base s hs
 obtain ⟨sfr,shp,srd⟩:=s
 unfold Ej at hw
 obtain ⟨u0,e0,E0,v0,h0,d0,k0,g0,ex0,a0,f0,n0,_⟩:=mF (rec:=RX T tab 0) (i:=0) (rd:=srd) (d:=some x0) hs.h hs.fr rfl rfl rfl hw
 have k0:=cm (bu k0)
 obtain ⟨u1,e1,E1,v1,h1,d1,k1,g1,Sg,a1,f1,n1,_⟩:=mF (rec:=RX T tab 0) (i:=1) (rd:=srd) (d:=some x1) g0 f0 rfl rfl rfl k0
 have k1:=cm (bu k1)
 obtain ⟨j,hj⟩:=Gf k1
 obtain ⟨km,_,hkm⟩:∃ km,E1.ρ j 0=some km∧aG (cu (cu sfr (some x0) u0) (some x1) u1) (.tmp x0)=.map (some km):=by
  have:=fM f1 (.tmp x0)
  rw [hj] at this
  exact this.mq
 obtain ⟨u2,e2,E2,v2,h2,d2,k2,g2,ex2,a2,f2,n2,o2⟩:=mF (rec:=RX T tab 0) (i:=2) (rd:=srd) (d:=some x2) g1 f1 rfl rfl rfl k1
 obtain ⟨c,hc,k2⟩:=k2
 rw [←hc] at k2
 have k2:=cm k2
 obtain ⟨u3,e3,E3,v3,h3,d3,k3,g3,ex3,a3,f3,n3,_⟩:=mF (rec:=RX T tab 0) (i:=3) (rd:=srd) (d:=some x3) g2 f2 rfl rfl rfl k2
 have k3:=cm (bu k3)
 obtain ⟨u4,e4,E4,v4,h4,d4,k4,g4,ex4,a4,f4,n4,_⟩:=mF (rec:=RX T tab 0) (i:=4) (rd:=srd) (d:=some x4) g3 f3 rfl rfl rfl k3
 obtain ⟨hlook,k4⟩:=k4
 have k4:=cm (bu k4)
 obtain ⟨u5,e5,E5,v5,h5,d5,k5,g5,ex5,a5,f5,n5,_⟩:=mF (rec:=RX T tab 0) (i:=5) (rd:=srd) (d:=some x5) g4 f4 rfl rfl rfl k4
 have k5:=cm (bu k5)
 obtain ⟨u6,e6,E6,v6,h6,d6,k6,g6,ex6,a6,f6,n6,_⟩:=mF (rec:=RX T tab 0) (i:=6) (rd:=srd) (d:=none) g5 f5 rfl rfl rfl k5
 have ex24:=(ex2.trans ex3).trans ex4
 have f1':hG E4.ρ ((((((shp.app e0).app e1).app e2).app e3).app e4)).get (E4.O h4) _ _:=fun t=>ex24.ar g1.wf (f1 t)
 obtain ⟨u',e',E',v',hp',q1,q2,q3,q4,q5⟩:=iH g4 f1' hlook
 have hu2:u2=.int .i64 c:=by rw [hc] at a2;exact a2.dL.1
 have hu':u'=.int .i64 c:=by rw [q2,hc] at q5;exact q5.dL.1
 have he':e'=.none:=by
  have q1:(jg T mt _ _ false _).map (fun v=>(v,bL.none))=some (u',e'):=q1
  rw [Option.map_eq_some_iff] at q1
  obtain ⟨_,_,h⟩:=q1
  cases h;rfl
 rw [hu',he'] at q1
 simp only [JV,Bool.and_eq_true] at hb
 obtain ⟨b04,b06,b14,b16,b26,b45,b46⟩:=hb
 rw [n0] at d1 n1
 rw [n1] at d2 n2
 rw [n2] at d3 n3
 rw [n3] at d4 n4
 rw [n4] at d5 n5
 rw [n5] at d6 n6
 rw [n4] at q1
 refine ⟨0,[(.normal,⟨_,_,srd⟩)],?_,.single ⟨E6,_,k6,rfl,⟨g6,hs.rd,f6⟩,((((((ex0.trans Sg).trans ex2).trans ex3).trans ex4).trans ex5).trans ex6).DG⟩⟩
 rw [bQ]
 have htl:eA ops=ops.toList.length:=by
  unfold eA
  rw [show ops.toList.findIdx? ux=none by rw [hops];rfl]
 have hdt:∀ X,bh T (RX T tab 0) ops ops.toList 0 ⟨sfr,shp,srd⟩ []=some [X]→bE T (RX T tab 0) ops ⟨sfr,shp,srd⟩=some [X]:=fun X h=>kq htl h
 simp only [cond_true]
 rw [hdt]
 ·rfl
 simp only [hops]
 rw [aJ]
 simp only [aZ,cond_true]
 rw [d0]
 simp only
 rw [aJ]
 simp only [aZ,cond_true]
 rw [d1]
 simp only
 rw [aJ]
 simp only [aZ,cond_true]
 rw [d2]
 simp only
 rw [aJ]
 simp only [aZ,cond_true]
 rw [d3]
 simp only
 rw [aJ]
 simp only [aZ,cond_true]
 rw [d4]
 simp only
 rw [aJ]
 simp only [aZ,cond_true]
 rw [d5]
 simp only
 rw [aJ]
 simp only [aZ,cond_true]
 rw [d6]
 simp only
 rw [cV]
 have hd:∀ evs,bY T (ql ops) evs=true→cC T ops evs=true:=fun evs h=>by
  unfold cC
  cases evs.all fun e=>e.t.wr.isEmpty && Nat.beq e.t.a e.t.b with
  | true=>rfl
  | false=>exact h
 rw [hd _ ?_]
 ·rfl
 ·simp only [bY,List.all_cons,List.all_nil,Bool.and_true,Bool.and_eq_true]
  refine ⟨⟨dM (.inr rfl),jN b46,dM (.inr rfl),jN b26,jN b16,jN b06⟩,
   ⟨jN b45,dM (.inl rfl),dM (.inl rfl),dM (.inl rfl),dM (.inl rfl)⟩,
   ⟨dM (.inr rfl),LB ?_,jN b14,jN b04⟩,
   ⟨dM (.inl rfl),dM (.inl rfl),dM (.inl rfl)⟩,⟨dM (.inl rfl),dM (.inl rfl)⟩,dM (.inl rfl)⟩
  unfold spare
  simp only [hkm,ct,hu2]
  have hq:gR T ((shp.app e0).app e1).n (Op.lookup mt (Operand.tmp x0) (Operand.tmp x1) false) (aG (cu (cu sfr (some x0) u0) (some x1) u1)) (((((shp.app e0).app e1).app e2).app e3).app e4).get=some (Value.int IntKind.i64 c,bL.none):=by
   rw [show ((shp.app e0).app e1).n=shp.n from n1];exact q1
  rw [hq]
  have hn:shp.n.beq shp.n=true:=Nat.beq_refl _
  have hi:CW c c=true:=by rw [C1];simp
  simp only [hn,CX,hi]
  rfl
end
section
variable {T : bz} {tab : List XE} {one : Bool} {fl base : Nat} {E E' E2 : Env} {hp hp' hp2 : List AB} {aE amb' : bG} {H H' H2 : Hp} {ρ ρ2 : Nat → Nat → Option Nat} {g g2 : aH} {O O2 : Nat → Prop}
structure qf (tr:Nat→bw) (x:gN) (t:Tc):Prop where
 ev:JN tr x t
 R4:∀ k ∈ t.rd,∃ p ∈ x.acc,p.wr=false∧dK tr x.i p k∧(p.own.isSome=true→Own (tr x.i).E.ρ (tr x.i).hp k)
 keep:x.call=true→(tr (x.i+1)).E=(tr x.i).E∧(tr (x.i+1)).hp=(tr x.i).hp
theorem qf.snoc {tr:Nat→bw} {i:Nat} {z:bw} {x:gN} {t:Tc} (h:qf tr x t) (hi:x.i < i):qf (snoc tr i z) x t :=
 ⟨h.ev.snoc hi,fun k hk=>by
  obtain ⟨p,a,b,c,d⟩:=h.R4 k hk
  exact ⟨p,a,b,c.snoc (by omega),fun ho=>by rw [aU (by omega)];exact d ho⟩,
  fun hc=>by rw [aU (by omega),aU (by omega)];exact h.keep hc⟩
theorem dK.FH {tr:Nat→bw} {i:Nat} {p:Acc} {k:Nat} (h:dK tr i p k) (ho:p.own.isSome=true) (hw:p.wr=true):Own (tr i).E.ρ (tr i).hp k:=by
 obtain ⟨_,_,h3⟩:=h
 cases hp:p.own with
 | none=>rw [hp] at ho;cases ho
 | some j =>
  rw [hp] at h3
  obtain ⟨_,_,h4⟩:=h3
  exact h4 hw
def Aw (o:Op):Bool :=
 match o with
 | .lookup ..=>false
 | .call ⟨.builtin .append,_,_⟩=>false
 | .call ⟨.builtin .len,_,_⟩=>false
 | _=>true
theorem L8 {tr:Nat→bw} {i:Nat} (ht:iW base aE tr i) {bt:Nat→Nat} {fr:Nat→AV} {tm:Tr Value} (hb:cL tr i bt fr tm) {own:Bool} {o:Op} (hro:Aw o=true) {l:List Acc} (h:DH o fr (oX bt)=some l)
  {K:AV→List AB→Prop} (hw:wpOp T own o fr (tr i).hp K) {r w:List Nat} (hto:gV o (aG tm)=some (r,w)):∀ k ∈ r,∃ p ∈ l,p.wr=false∧dK tr i p k∧(p.own.isSome=true→Own (tr i).E.ρ (tr i).hp k):=by
 intro k hk
 obtain ⟨r',w',e1,e2,_⟩:=rj ht hb h hw
 rw [hto] at e1
 simp only [Option.some.injEq,Prod.mk.injEq] at e1
 obtain ⟨rfl,rfl⟩:=e1
 by_cases hl:∃ t a,o=.load t a
 ·obtain ⟨t,a,rfl⟩:=hl
  have now:(tr i).ar (aN fr a) (aG tm a):=(ht.ext _ i (hb.eval a).1 (Nat.le_refl _)).ar (ht.rel _ (hb.eval a).1).wf (hb.eval a).2
  obtain ⟨p,p1,p2,p3⟩:=e2 k hk
  refine ⟨p,p1,p2,p3,fun ho=>?_⟩
  have hw:eR T t (aN fr a) (tr i).hp K:=hw
  have h:qZ (aN fr a) (oX bt a) false=some l:=h
  have hk:k ∈ ct (aG tm a):=by
   simp only [gV,Option.some.injEq,Prod.mk.injEq] at hto
   rw [hto.1];exact hk
  cases hv:aN fr a with
  | ptr j aB o =>
   rw [hv] at now hw
   obtain ⟨k',q1,q2⟩:=now.cW
   rw [q2] at hk
   obtain rfl:k=k':=by simpa [ct] using hk
   unfold eR at hw
   split at hw
   ·rename_i e _
    cases e
   ·rename_i e _
    cases e
    obtain ⟨cs,es,h1,_⟩:=hw
    exact ⟨j,_,aB,h1,rfl,q1⟩
   ·exact hw.elim
  | pt =>
   rw [hv] at h
   simp only [qZ,Option.some.injEq] at h
   subst h
   obtain rfl:=List.mem_singleton.1 p1
   cases ho
  | _ =>
   rw [hv] at hw
   unfold eR at hw
   split at hw
   ·rename_i e _
    cases e
   ·rename_i e _
    cases e
   ·exact hw.elim
 ·exfalso
  revert hto hk
  unfold gV
  split
  ·rename_i t a
   exact absurd ⟨t,a,rfl⟩ hl
  ·intro h hk;cases h;cases hk
  ·cases hro
  ·intro h hk;cases h;cases hk
  ·intro h hk;cases h;cases hk
  ·intro h hk;cases h;cases hk
  ·intro h _;cases h
  ·intro h _;cases h
  ·intro h _;cases h
  ·cases hro
  ·cases hro
  ·intro h _;cases h
  ·intro h hk;cases h;cases hk
def uj (x y:gN):Bool :=
 x.acc.all (fun p=>y.acc.all (oF x.i p)) && ((!x.al && !x.call) || y.acc.all (fun q=>Nat.ble q.b x.i || (x.call && q.own.isSome))) && (!x.call || y.acc.all (fun q=>!q.wr)) && (!y.call || x.acc.all (fun p=>!p.wr))
def PR (b:List Nat):List gN→Bool
 | []=>true
 | y :: l=>l.all (fun x=>(b.getD y.i 0).testBit x.i || uj x y) && PR b l
theorem Ek {tr:Nat→bw} {n:Nat} (ht:iW base aE tr n) {x y:gN} {s t:Tc} (hs:qf tr x s) (hy:qf tr y t) (hxy:x.i < y.i) (hn:y.i≤n) (hf:uj x y=true):conflict s t=false:=by
 cases hc:conflict s t with
 | false=>rfl
 | true =>
  exfalso
  unfold uj at hf
  simp only [Bool.and_eq_true,List.all_eq_true,Bool.or_eq_true,Bool.not_eq_true'] at hf
  obtain ⟨⟨⟨f1,f2⟩,f3⟩,f4⟩:=hf
  have two:∀ {k:Nat} {p q:Acc},p ∈ x.acc→q ∈ y.acc→dK tr x.i p k→dK tr y.i q k→(p.wr=true∨q.wr=true)→False:=fun hp hq ap aq hw=>qa ht hxy hn ap aq hw (f1 _ hp _ hq)
  have inn:∀ {k:Nat} {q:Acc},q ∈ y.acc→dK tr y.i q k→(q.own.isSome=true→Own (tr y.i).E.ρ (tr y.i).hp k)→s.a≤k→k < s.b→False:=by
   intro k q hq aq lq h1 h2
   rcases f2 with h|h
   ·have:=hs.ev.al h.1 h.2;omega
   ·rcases h q hq with h|⟨hcl,hos⟩
    ·have:=Nat.le_of_ble_eq_true h
     have:=(ht.ext q.b x.i this (by omega)).n
     have:=aq.2.1
     rw [hs.ev.a] at h1
     omega
    ·have hk:=hs.keep hcl
     rw [hs.ev.b] at h2
     rw [hs.ev.a] at h1
     rcases (ht.ext (x.i+1) y.i (by omega) hn).own k (lq hos) with h|h
     ·rw [hk.1,hk.2] at h
      have:=(ht.rel x.i (by omega)).iV h
      omega
     ·omega
  have out:∀ {k:Nat} {p:Acc},dK tr x.i p k→t.a≤k→False:=by
   intro k p ap h1
   have:=(ht.ext p.b x.i ap.1 (by omega)).n
   have:=(ht.ext x.i y.i (by omega) hn).n
   have:=ap.2.1
   rw [hy.ev.a] at h1
   omega
  unfold conflict at hc
  simp only [Bool.or_eq_true,Bool.and_eq_true,Bool.not_eq_true'] at hc
  rcases hc with (((((((hc|hc)|hc)|hc)|hc)|hc)|hc)|hc)|hc
  ·obtain ⟨k,k1,k2⟩:=dZ.1 hc
   obtain ⟨p,p1,p2,p3⟩:=hs.ev.wr k k1
   obtain ⟨q,q1,q2,q3⟩:=hy.ev.rd k k2
   exact two p1 q1 p3 q3 (.inl p2)
  ·obtain ⟨k,k1,k2⟩:=dZ.1 hc
   obtain ⟨p,p1,p2,p3⟩:=hs.ev.wr k k1
   obtain ⟨q,q1,q2,q3⟩:=hy.ev.wr k k2
   exact two p1 q1 p3 q3 (.inl p2)
  ·obtain ⟨k,k1,k2⟩:=dZ.1 hc
   obtain ⟨q,q1,q2,q3⟩:=hy.ev.wr k k1
   obtain ⟨p,p1,p2,p3⟩:=hs.ev.rd k k2
   exact two p1 q1 p3 q3 (.inr q2)
  ·rw [hs.ev.call] at hc
   cases hw:t.wr with
   | nil=>rw [hw] at hc;simp at hc
   | cons k l =>
    obtain ⟨q,q1,q2,q3⟩:=hy.ev.wr k (by rw [hw];simp)
    rcases f3 with h|h
    ·rw [hc.1] at h;cases h
    ·rw [h q q1] at q2;cases q2
  ·rw [hy.ev.call] at hc
   cases hw:s.wr with
   | nil=>rw [hw] at hc;simp at hc
   | cons k l =>
    obtain ⟨p,p1,p2,p3⟩:=hs.ev.wr k (by rw [hw];simp)
    rcases f4 with h|h
    ·rw [hc.1] at h;cases h
    ·rw [h p p1] at p2;cases p2
  ·obtain ⟨k,k1,k2,k3⟩:=within_iff.1 hc
   obtain ⟨q,q1,q2,q3,q4⟩:=hy.R4 k k1
   exact inn q1 q3 q4 k2 k3
  ·obtain ⟨k,k1,k2,k3⟩:=within_iff.1 hc
   obtain ⟨q,q1,q2,q3⟩:=hy.ev.wr k k1
   exact inn q1 q3 (fun ho=>q3.FH ho q2) k2 k3
  ·obtain ⟨k,k1,k2,k3⟩:=within_iff.1 hc
   obtain ⟨p,p1,p2,p3⟩:=hs.ev.rd k k1
   exact out p3 k2
  ·obtain ⟨k,k1,k2,k3⟩:=within_iff.1 hc
   obtain ⟨p,p1,p2,p3⟩:=hs.ev.wr k k1
   exact out p3 k2
inductive nW (tr:Nat→bw):Nat→List gN→List Ev→Prop
 | nil:nW tr 0 [] []
 | cons {i:Nat} {x:gN} {ev:Ev} {l:List gN} {m:List Ev}:nW tr i l m→x.i=i→qf tr x ev.t→nW tr (i+1) (x :: l) (ev :: m)
theorem nW.lt {tr:Nat→bw} {i:Nat} {l:List gN} {m:List Ev} (h:nW tr i l m):∀ x ∈ l,x.i < i:=by
 induction h with
 | nil=>intro x hx;cases hx
 | cons _ hi _ ih =>
  intro y hy
  rcases List.mem_cons.1 hy with rfl|hy
  ·omega
  ·have:=ih y hy;omega
theorem nW.snoc {tr:Nat→bw} {i:Nat} {z:bw} {l:List gN} {m:List Ev}:∀ {j:Nat},nW tr j l m→j≤i→nW (snoc tr i z) j l m:=by
 intro j h
 induction h with
 | nil=>intro _;exact .nil
 | cons _ hi he ih=>intro hj;exact .cons (ih (by omega)) hi (he.snoc (by omega))
theorem nW.pairs {tr:Nat→bw} {n:Nat} (ht:iW base aE tr n) {b:List Nat} {i:Nat} {l:List gN} {m:List Ev} (h:nW tr i l m):i≤n→PR b l=true→bY T b m=true:=by
 induction h with
 | nil=>intro _ _;rfl
 | cons hl hi he ih =>
  rename_i i y ev l m
  intro hn hc
  simp only [PR,Bool.and_eq_true,List.all_eq_true] at hc
  simp only [bY,Bool.and_eq_true,List.all_eq_true]
  refine ⟨?_,ih (by omega) hc.2⟩
  have hc1:=hc.1
  clear ih hc
  have key:∀ {j:Nat} {l:List gN} {m:List Ev},nW tr j l m→(∀ x ∈ l,(b.getD y.i 0).testBit x.i=true∨uj x y=true)→j≤y.i→∀ s ∈ m,(!conflict s.t ev.t || (b.getD ev.t.idx 0).testBit s.t.idx || spare T s ev)=true:=by
   intro j l m h
   induction h with
   | nil=>intro _ _ s hs;cases hs
   | cons hl' hi' he' ih' =>
    rename_i x ev' _ _
    intro hx hj s hs
    rcases List.mem_cons.1 hs with rfl|hs
    ·rcases hx x (by simp) with h|h
     ·rw [he.ev.idx,he'.ev.idx,h];simp
     ·rw [Ek ht he' he (by omega) (by omega) h];simp
    ·exact ih' (fun z hz=>hx z (List.mem_cons_of_mem _ hz)) (by omega) s hs
  exact key hl (fun x hx=>by simpa using hc1 x hx) (by omega)
variable {mu : Tmp → Bool} {fr : Nat → AV} {KS : bK → Prop} {rd : Bool} {dst : Option Tmp}
end
end Go.RM
