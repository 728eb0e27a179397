/-
  A layer of contracts over the abstract machine. Lemmas alone; no condition.
-/
import Derived.Test.YtpeogffeoehboaaGreatDoorA2
import Derived.IntWalk
namespace Go.RM
open Go
section
variable {T : bJ} {tab : List XE} {one : Bool} {fl base base1 : Nat} {E E' E1 E2 E4 : Env} {hp hp' hp1 hp2 hp4 : List AB} {aE amb' amb4 : bA} {H H' H1 H2 H4 : Hp} {ρ ρ' : Nat → Nat → Option Nat} {g g' : aH} {O O' : Nat → Prop}
theorem BR.mono {b:AB} {b':bu} (h:BR ρ g O b b') (hr:∀ j v k,ρ j v=some k→ρ' j v=some k) (hg:∀ k b,g k=some b→¬ O k→g' k=some b∧¬ O' k):BR ρ' g' O' b b':=by
 cases b with
 | cells cs es aA=>obtain ⟨cs',rfl,h⟩:=h;exact ⟨cs',rfl,h.mono hr hg⟩
 | dU s p=>exact h
 | map aK clock =>obtain ⟨es,rfl,h1,h2⟩:=h;exact ⟨es,rfl,h1,fun i k v born x hx hy=>⟨(h2 i k v born x hx hy).1.mono hr hg,(h2 i k v born x hx hy).2.1.mono hr hg,(h2 i k v born x hx hy).2.2⟩⟩
 | iter j since seen stepped=>obtain ⟨m,rfl,h⟩:=h;exact ⟨m,rfl,hr _ _ _ h⟩
 | gone=>exact h
theorem aR.view (h:aR E base hp aE H) {X':Nat→Prop} (hwf:Wf H1) (hn:H.n≤H1.n) (hX:∀ k,E.X k→X' k) (hX2:∀ k,X' k→E.X k∨H.n≤k) (hXn:∀ k,X' k→k < H1.n)
  (heq:∀ k,k < H.n→(¬ E.X k∨E.S k)→H1.get k=H.get k) (hb:∀ k,Own E.ρ hp k∨E.D k→base1≤k) (hbn:base1≤H1.n):aR {E with X:=X'} base1 hp aE H1:=by
 have keep:∀ k b,H.get k=some b→¬ E.O hp k→H1.get k=some b∧¬ ({E with X:=X'}:Env).O hp k:=fun k b hk ho=>by
  have hlt:=h.wf.lt hk;refine ⟨by rw [heq k hlt (.inl fun hx=>ho (.inr hx))];exact hk,fun ho'=>?_⟩
  rcases ho' with h1|h1
  ·exact ho (.inl h1)
  ·rcases hX2 k h1 with h2|h2
   ·exact ho (.inr h2)
   ·omega
 refine ⟨hwf,fun j x aA hj hv=>?_,h.inj,fun j v k hk=>Nat.lt_of_lt_of_le (h.rn j v k hk) hn,h.fresh,h.new,h.sup,fun k hk hx=>?_,fun k hd=>hX k (h.dx k hd),h.ds,fun k hk=>Nat.lt_of_lt_of_le (h.sn k hk) hn,hXn,hb,hbn,aE.st h.aE (fun k hk=>heq k (h.sn k hk) (.inr hk)) hn⟩
 ·rcases h.gE j x aA hj hv with ⟨k,b',q1,q2,q3⟩|q
  ·have hok:Own E.ρ hp k:=⟨j,x,aA,hj,hv,q1⟩;exact .inl ⟨k,b',q1,by rw [heq k (h.wf.lt q2) (.inl (h.iM k hok))];exact q2,q3.mono (fun _ _ _ h=>h) keep⟩
  ·exact .inr q
 ·rcases hX2 k hx with h2|h2
  ·exact h.iM k hk h2
  ·have:=h.iE hk;omega
theorem aR.La (h:aR E base hp aE H):aR E 0 hp aE H:={h with pV:=fun _ _=>qq5 _,bn:=qq5 _}
theorem j9.La (h:j9 fl base E hp H E' hp' H'):j9 fl 0 E hp H E' hp' H':={h with lo:=by omega}
def Lc (fl0:Nat) (E0:Env) (hp0:List AB) (H0:Hp) (gE:bu) (Q:List AB→bA→Prop):bA where
 P D S g n:=(∀ k,k≤H0.n→S k)∧g H0.n=some gE∧∃ (E':Env) (b':Nat) (hp':List AB) (amb':bA) (H':Hp),Q hp' amb'∧aR E' b' hp' amb' H'∧j9 fl0 0 E0 hp0 H0 E' hp' H'∧H'.n≤n∧(E'.X H0.n∧¬ E'.S H0.n) ∧
  (∀ k,k < H'.n→S k∨E'.X k)∧(∀ k,E'.S k→S k)∧(∀ k,S k→k ≠ H0.n→g k=H'.get k)∧(∀ k,Own E'.ρ hp' k∨E'.D k∨k=H0.n→D k)
 st:=by rintro D S g g' n n' ⟨h1,h2,E',b',hp',amb',H',q1,q2,q3,q4,q5,q6,q7,q8,q9⟩ hs hn;exact ⟨h1,by rw [hs _ (h1 _ (qq6 _))];exact h2,E',b',hp',amb',H',q1,q2,q3,Nat.le_trans q4 hn,q5,q6,q7,fun k hk hne=>by rw [hs k hk];exact q8 k hk hne,q9⟩
theorem Hr {fl0:Nat} {E0:Env} {hp0:List AB} {H0:Hp} {gE blk' b0:bu} {Q Q':List AB→bA→Prop} (hr:aR E1 base1 hp (Lc fl0 E0 hp0 H0 gE Q) H)
  (hX:∀ k,k < H.n→E1.S k∨E.X k) (hXl:E.X H0.n) (hSl:¬ E.S H0.n) (hS:∀ k,E.S k→E1.S k) (hD:∀ k,Own E.ρ hp1 k∨E.D k∨k=H0.n→E1.D k) (hlow:∀ k,k≤H0.n→E1.S k)
  (f0:j9 fl0 0 E0 hp0 H0 E hp1 H) (h4:aR E4 base1 hp4 amb4 H4) (F:j9 fl0 base1 E hp1 (H.put H0.n b0) E4 hp4 H4) (hQ:Q' hp4 amb4) :
  ∃ E5,aR E5 base1 hp (Lc fl0 E0 hp0 H0 blk' Q') (H4.put H0.n blk')∧j9 hp.length base1 E1 hp H E5 hp (H4.put H0.n blk'):=by
 have hln:H0.n < H.n:=hr.sn _ (hlow _ (qq6 _));have hn:H.n≤H4.n:=F.n;have hD1:E1.D H0.n:=hD _ (.inr (.inr rfl));have same:∀ k,k < H.n→¬ E1.D k→(H4.put H0.n blk').get k=H.get k:=fun k hk hd=>by have hne:k ≠ H0.n:=fun e=>hd (e ▸ hD1);rw [bV hne,F.same k hk (fun h=>hd (hD k (.inl h))) (fun h=>hd (hD k (.inr (.inl h)))),bV hne]
 let X':Nat→Prop:=fun k=>E1.X k∨(H.n≤k∧k < H4.n)
 let S':Nat→Prop:=fun k=>E1.S k∨(H.n≤k∧k < H4.n)
 let D':Nat→Prop:=fun k=>E1.D k∨(H.n≤k∧(Own E4.ρ hp4 k∨E4.D k))
 have hnew:∀ k,Own E4.ρ hp4 k∨E4.D k→k < H4.n:=fun k h=>h.elim (fun h=>h4.iE h) (fun h=>h4.sn k (h4.ds k h))
 have keep:∀ k b,H.get k=some b→¬ E1.O hp k→(H4.put H0.n blk').get k=some b∧¬ (⟨E1.ρ,D',S',X'⟩:Env).O hp k:=fun k b hk ho=>by
  have hlt:=hr.wf.lt hk;refine ⟨by rw [same k hlt (fun hd=>ho (.inr (hr.dx k hd)))];exact hk,fun ho'=>?_⟩
  rcases ho' with h1|h1|h1
  ·exact ho (.inl h1)
  ·exact ho (.inr h1)
  ·omega
 refine ⟨⟨E1.ρ,D',S',X'⟩,⟨fun k hk=>?_,fun j x aA hj hv=>?_,hr.inj,fun j v k hk=>Nat.lt_of_lt_of_le (hr.rn j v k hk) hn,hr.fresh,hr.new,fun k hk hs=>?_,fun k hk hx=>?_,fun k hd=>?_,fun k hd=>?_,fun k hs=>?_,fun k hx=>?_,fun k hd=>?_,Nat.le_trans hr.bn hn,?_⟩,
  ⟨hn,fun _ _ _ _ h=>h,fun k hk=>.inl hk,fun k hd=>hd.imp id And.left,fun k hd=>hd.imp id And.left,fun k hx=>.inl hx,fun k hd=>hd.imp id And.left,fun k hk _ hd=>same k hk hd,?_⟩⟩
 ·have hk:H4.n≤k:=hk;rw [bV (by omega)];exact h4.wf k hk
 ·rcases hr.gE j x aA hj hv with ⟨k,b',q1,q2,q3⟩|q
  ·have hok:Own E1.ρ hp k:=⟨j,x,aA,hj,hv,q1⟩;exact .inl ⟨k,b',q1,by rw [same k (hr.wf.lt q2) (fun hd=>hr.iM k hok (hr.dx k hd))];exact q2,q3.mono (fun _ _ _ h=>h) keep⟩
  ·exact .inr q
 ·rcases hs with h1|h1
  ·exact hr.sup k hk h1
  ·have:=hr.iE hk;omega
 ·rcases hx with h1|h1
  ·exact hr.iM k hk h1
  ·have:=hr.iE hk;omega
 ·rcases hd with h1|h1
  ·exact .inl (hr.dx k h1)
  ·exact .inr ⟨h1.1,hnew k h1.2⟩
 ·rcases hd with h1|h1
  ·exact .inl (hr.ds k h1)
  ·exact .inr ⟨h1.1,hnew k h1.2⟩
 ·rcases hs with h1|h1
  ·exact Nat.lt_of_lt_of_le (hr.sn k h1) hn
  ·exact h1.2
 ·rcases hx with h1|h1
  ·exact Nat.lt_of_lt_of_le (hr.xn k h1) hn
  ·exact h1.2
 ·rcases hd with h1|h1|h1
  ·exact hr.pV k (.inl h1)
  ·exact hr.pV k (.inr h1)
  ·exact h4.pV k h1.2
 ·have f0':j9 fl0 0 E0 hp0 H0 E hp1 (H.put H0.n b0):=⟨f0.n,f0.BK,f0.own,f0.d,f0.x,f0.xk,f0.s,fun k hk h1 h2=>by rw [bV (by omega)];exact f0.same k hk h1 h2,by omega⟩;refine ⟨fun k hk=>.inl (hlow k hk),gz,E4,base1,hp4,amb4,H4,hQ,h4,f0'.trans F.La,qq6 _,⟨F.xk _ hXl,fun hs=>?_⟩,fun k hk=>?_,fun k hs=>?_,fun k _ hne=>bV hne,fun k hk=>?_⟩
  ·rcases F.s _ hs with h1|h1
   ·exact hSl h1
   ·have:H.n≤H0.n:=h1;omega
  ·by_cases hlt:k < H.n
   ·exact (hX k hlt).imp .inl (F.xk k)
   ·exact .inl (.inr ⟨by omega,hk⟩)
  ·rcases F.s k hs with h1|h1
   ·exact .inl (hS k h1)
   ·exact .inr ⟨h1,h4.sn k hs⟩
  ·rcases hk with h1|h1|h1
   ·rcases F.own k h1 with h2|h2
    ·exact .inl (hD k (.inl h2))
    ·exact .inr ⟨h2,.inl h1⟩
   ·rcases F.d k h1 with h2|h2
    ·exact .inl (hD k (.inr (.inl h2)))
    ·exact .inr ⟨h2,.inr h1⟩
   ·exact .inl (hD k (.inr (.inr h1)))
 ·have h1:=F.lo;have h2:=hr.pV _ (.inr hD1);have h3:(H.put H0.n b0).lo=min H.lo H0.n:=rfl;have h4:(H4.put H0.n blk').lo=min H4.lo H0.n:=rfl;omega
def Be (T:bJ) (tab:List XE) (one:Bool) (u:Value) (x:List AV) (a:bA) (Q:Bool→bA→Prop):Prop :=
 ∀ hp,az T tab one (.oq u) x hp a fun v hp' a'=>hp'=hp∧∃ b,v=.fl (.bool b)∧Q b a'
def EP (J:bA) (Stop:bA→Prop) (b:Bool) (a:bA):Prop:=(b=true∧a=J)∨(b=false∧Stop a)
def ER (T:bJ) (tab:List XE) (one:Bool) (F:AV) (xs:List (List AV)):Prop :=
 (∃ f a b,F=.fn f a b)∧F.deep=true∧(∀ x ∈ xs,∀ a ∈ x,fA a)∧∀ (u:Value) (J:Nat→bA) (Stop:bA→Prop),(∀ (i:Nat) (x:List AV),xs[i]?=some x→Be T tab one u x (J i) (EP (J (i+1)) Stop)) →
  az T tab one F [.oq u] [] (J 0) fun _ _ a'=>a'=J xs.length∨Stop a'
def Tj (T:bJ) (rs:List ResultVar) (Q:bA→Prop) (e:Exit) (s:bU):Prop :=
 match e with
 | .normal|.ret=>qC T s rs fun _=>Q s.aE
 | _=>False
theorem ER.body {f:FuncId} {fn:Func} {c:Code} {first caps:List AV} {xs:List (List AV)} (hf:T.fn.get f=some fn) (hb:fn.body=some c) (hn:noEntry tab f=true) (hd:(AV.fn f first caps).deep=true) (hfree:∀ x ∈ xs,∀ a ∈ x,fA a)
  (hw:∀ (u:Value) (J:Nat→bA) (Stop:bA→Prop),(∀ (i:Nat) (x:List AV),xs[i]?=some x→Be T tab one u x (J i) (EP (J (i+1)) Stop)) →
   av T tab one c ⟨CT (first++[.oq u]++caps),[],J 0,false,0⟩ (Tj T fn.results.toList fun a'=>a'=J xs.length∨Stop a')):ER T tab one (.fn f first caps) xs:=by
 refine ⟨⟨f,first,caps,rfl⟩,hd,hfree,fun u J Stop hy E base H v us hr hF ha=>?_⟩;have hF:=hF.deep hd
 cases hF with
 | fn l1 l2 d1 d2 =>
  rename_i a' b';have hall:fP E.ρ H.get (E.O []) (first++[.oq u]++caps) (a'.toList++us++b'.toList):=fP.append (fP.append (qA.BJ ⟨l1,d1⟩) ha) (qA.BJ ⟨l2,d2⟩);refine ⟨.fn f (a'.toList++us++b'.toList),rfl,?_⟩;obtain ⟨m,L,h1,h2,h3⟩:=hw u J Stop hy E base ⟨setArgs .leaf 0 (a'.toList++us++b'.toList),H,false⟩ ⟨hr,rfl,wT hall⟩
  obtain ⟨m',M,hm,q1,q2,q3⟩:=fq (one:=one) (L:=L) (f:=fun _ (p:Exit × St)=>fG T fn.results.toList p) (P:=fun r=>∃ w H',r=.ret w H'∧∃ E' a hp' amb',(amb'=J xs.length∨Stop amb')∧aR E' base hp' amb' H'∧AR E'.ρ H'.get (E'.O hp') a w∧j9 ([]:List AB).length base E [] H E' hp' H')
   (fun _ _ _ _ _ h=>h) m h2 (fun p hp=>by
    obtain ⟨E',st',k1,_,k2,k3⟩:=h3 p hp;obtain ⟨e,s'⟩:=p
    have done:(e=.normal∨e=.ret)→(qC T st' fn.results.toList fun _=>st'.aE=J xs.length∨Stop st'.aE)→∃ (_:Nat) (M:List gC),fG T fn.results.toList (e,s')=some M∧qS one M fun r=>∃ w H',r=.ret w H'∧∃ E' a hp' amb',(amb'=J xs.length∨Stop amb')∧aR E' base hp' amb' H'∧AR E'.ρ H'.get (E'.O hp') a w∧j9 ([]:List AB).length base E [] H E' hp' H':=by
     intro he hr;obtain ⟨ws,as,r1,r2,r3⟩:=lI k2 hr;refine ⟨0,[.ret (dn ws) s'.hp],?_,.single ⟨_,_,rfl,E',.bX,st'.hp,st'.aE,r2,k2.h,.bX,k3⟩⟩;unfold fG
     rcases he with rfl|rfl <;> simp only [r1,Option.map_some]
    cases e with
    | normal=>exact done (.inl rfl) k1
    | ret=>exact done (.inr rfl) k1
    | _=>exact k1.elim)
  refine ⟨m'+1,M,?_,q2,q3⟩;show RX T tab (m'+1) (.call f _ H)=_;rw [AZ,pY _ _ hn];simp only;rw [kC,hf];simp only [hb];rw [dO (dj hm) _ _ _ h1];exact q1
def Gj (fr:Nat→AV):List (Tmp × AV)→Nat→AV
 | []=>fr
 | (d,v) :: l=>Gj (fun t=>bif Nat.beq t d then v else fr t) l
theorem CZ:∀ (ps:List Tmp) {x:List AV} {us:List Value} {fr:Nat→AV} {tm:Tr Value},iF ρ g O fr tm→fP ρ g O x us→iF ρ g O (Gj fr (ps.zip x)) (fh tm (ps.zip us))
 | [],_,_,_,_,h,_=>h
 | p :: ps,[],[],_,_,h,_=>h
 | p :: ps,a :: x,u :: us,fr,tm,h,ha=>by simp only [List.zip_cons_cons,Gj,fh];exact CZ ps (lH h (ha.2 0 a u rfl rfl) (some p)) ⟨by simpa using ha.1,fun i a u x y=>ha.2 (i+1) a u (by simpa using x) (by simpa using y)⟩
 | p :: ps,[],_ :: _,_,_,_,ha=>absurd ha.1 (by simp)
 | p :: ps,_ :: _,[],_,_,_,ha=>absurd ha.1 (by simp)
def T4 (P:bU→Prop) (e:Exit) (s:bU):Prop :=
 match e with
 | .normal=>s.rd=true∧P s
 | _=>False
def Qv (K:Exit→bU→Prop) (st:bU) (hpn:List AB) (an:bA) (pn:Prop) (e:Exit) (s:bU):Prop :=
 match e with
 | .normal=>pn∧∃ fr',ah s ⟨fr',hpn,an,s.rd,s.fl⟩
 | .ret=>K .ret ⟨st.fr,s.hp,s.aE,st.rd,st.fl⟩
 | .exit id=>K (.exit id) ⟨st.fr,s.hp,s.aE,st.rd,st.fl⟩
 | _=>False
theorem wV {a b:Rec} (h:iR a b) {l:Nat} {bd:Code} {p:Exit × St} {M:List gC} (e:cY T a l bd p=some M):cY T b l bd p=some M:=by
 unfold cY at e ⊢;split at e
 ·split at e
  ·rename_i pend2 fr2 ps2 as2 bd2 hl2
   cases hq:bE T a bd ⟨p.2.fr,p.2.hp.put l (.loop .busy pend2 fr2 ps2 as2 bd2),true⟩ with
   | none=>rw [hq] at e;cases e
   | some M2=>rw [hq] at e;rw [dO h _ _ _ hq];exact e
  ·cases e
 ·cases e
theorem ah.SD {st:bU} {fr':Nat→AV} {hp:List AB} {a:bA} {rd:Bool} {n:Nat} (h:ah st ⟨fr',hp,a,rd,n⟩) {s:St} (hs:kZ E base st s):∃ E',aR E' base hp a s.hp∧j9 st.fl base E st.hp s.hp E' hp s.hp:=by obtain ⟨E',h1,h2⟩:=h.2 E base s hs;exact ⟨E',h1.h,h2⟩
theorem av.range {f:Operand} {ps:Array Tmp} {as bd:Code} {st:bU} {K:Exit→bU→Prop} {xs:List (List AV)} (Hs:Nat→List AB) (As:Nat→bA) (Ps:Nat→Prop) {rdv:Bool} (hrd:st.rd=rdv) (hgen:ER T tab one (aN st.fr f) xs) (h0:Hs 0=st.hp) (ha0:As 0=st.aE) (hp0:Ps 0)
  (hround:∀ (i:Nat) (x:List AV),xs[i]?=some x→Ps i→x.length=ps.toList.length∧av T tab one as ⟨Gj st.fr (ps.toList.zip x),Hs i,As i,true,st.hp.length⟩ (T4 fun s=>av T tab one bd s (Qv K st (Hs (i+1)) (As (i+1)) (Ps (i+1)))))
  (hend:Ps xs.length→K .normal ⟨st.fr,Hs xs.length,As xs.length,rdv,st.fl⟩):av T tab one (.rangeFunc f ps as bd) st K:=by
 intro E base s hs;obtain ⟨⟨gf,ga,gb,hF⟩,hdeep,hfree,hgen⟩:=hgen;subst hrd
 let l:=s.hp.n
 let LP:bu→(List AB→bA→Prop)→bA:=Lc st.hp.length E st.hp s.hp
 let blkR:bu:=.loop .ready none s.fr ps as bd
 let J:Nat→bA:=fun i=>LP blkR fun hp' amb'=>hp'=Hs i∧amb'=As i∧Ps i
 let Stop:bA→Prop:=fun a=>∃ pend e,((e=Exit.ret∧pend=Code.ret)∨∃ id,e=Exit.exit id∧pend=Code.exit id)∧a=LP (.loop .done (some pend) s.fr ps as bd) fun hp' amb'=>K e ⟨st.fr,hp',amb',st.rd,st.fl⟩
 let u:Value:=.func (.yield l) #[] #[]
 have hy:∀ (i:Nat) (x:List AV),xs[i]?=some x→Be T tab one u x (J i) (EP (J (i+1)) Stop):=by
  intro i x hx hp E1 base1 H w us hr hw ha
  have hwu:w=u:=by
   cases hw with
   | d h=>cases h;rfl
  subst hwu;obtain ⟨hlow,hl,E',b',hp',amb',H',⟨rfl,rfl,hPi⟩,q2,q3,q4,⟨q5,q5'⟩,q6,q7,q8,q9⟩:=hr.aE;obtain ⟨hxl,hround⟩:=hround i x hx hPi;refine ⟨.yield l ([]++us),rfl,?_⟩;rw [List.nil_append];have hln:l < H.n:=hr.sn _ (hlow _ (qq6 _))
  let X2:Nat→Prop:=fun k=>E'.X k∨(k < H.n∧¬ E1.S k)
  have hv:aR {E' with X:=X2} base1 (Hs i) (As i) H:=q2.view hr.wf q4 (fun k h=>.inl h) (fun k h=>by
    rcases h with h|h
    ·exact .inl h
    ·by_cases hk:k < H'.n
     ·exact .inl ((q6 k hk).resolve_left h.2)
     ·exact .inr (by omega)) (fun k h=>h.elim (fun h=>Nat.lt_of_lt_of_le (q2.xn k h) q4) And.left)
   (fun k hk h=>by
    rcases h with h|h
    ·exact q8 k ((q6 k hk).resolve_right h) (fun e=>h (e ▸ q5))
    ·exact q8 k (q7 k h) (fun e=>q5' (e ▸ h))) (fun k hk=>hr.pV k (.inr (q9 k (hk.imp id .inl)))) hr.bn
  have f0:j9 st.hp.length 0 E st.hp s.hp {E' with X:=X2} (Hs i) H:=⟨Nat.le_trans q3.n q4,q3.BK,q3.own,q3.d,fun k h=>by
    rcases h with h|h
    ·exact q3.x k h
    ·by_cases hk:k < s.hp.n
     ·exact absurd (hlow k (Nat.le_of_lt hk)) h.2
     ·exact .inr (by omega),fun k h=>.inl (q3.xk k h),q3.s,fun k hk h1 h2=>by rw [q8 k (hlow k (Nat.le_of_lt hk)) (by omega)];exact q3.same k hk h1 h2,by omega⟩
  have hfrm:iF E'.ρ H.get (({E' with X:=X2}:Env).O (Hs i)) st.fr s.fr:=fun t=>f0.ar hs.h.La (hs.fr t);have hargs:fP E'.ρ H.get (({E' with X:=X2}:Env).O (Hs i)) x us:=⟨ha.1,fun i a u h1 h2=>.d ((hfree x (List.mem_of_getElem? hx) a (List.mem_of_getElem? h1)).2 _ _ _ _ ((ha.2 i a u h1 h2).deep (hfree x (List.mem_of_getElem? hx) a (List.mem_of_getElem? h1)).1))⟩;obtain ⟨m1,L1,a1,a2,a3⟩:=hround {E' with X:=X2} base1 ⟨fh s.fr (ps.toList.zip us),H,true⟩ ⟨hv,rfl,CZ _ hfrm hargs⟩;have hXl2:X2 s.hp.n:=.inl q5
  obtain ⟨m,M,hm,z1,z2⟩:=fq (one:=one) (L:=L1) (f:=fun m (p:Exit × St)=>cY T (RX T tab m) l bd p) (P:=fun r=>∃ w H',r=.ret w H'∧∃ E5 a hp5 amb5,(hp5=hp∧∃ b,a=.fl (.bool b)∧EP (J (i+1)) Stop b amb5)∧aR E5 base1 hp5 amb5 H'∧AR E5.ρ H'.get (E5.O hp5) a w∧j9 hp.length base1 E1 hp H E5 hp5 H')
   (fun n m x M hnm hx=>wV (dj hnm) hx) m1 a2 (fun p hp0=>by
    obtain ⟨E2,st2,k1,k2,k3,k4⟩:=a3 p hp0;obtain ⟨e,p⟩:=p
    cases e with
    | normal =>
     obtain ⟨hrd2,hbd⟩:=k1;have gl:p.hp.get l=some blkR:=by rw [k4.same l hln (fun h=>hv.iM _ h hXl2) (fun h=>q5' (q2.ds _ h))];exact hl
     have hl2:l < p.hp.n:=Nat.lt_of_lt_of_le hln k4.n;have hX2l:E2.X l:=k4.xk l hXl2
     have hS2l:¬ E2.S l:=fun h=>by
      rcases k4.s l h with h|h
      ·exact q5' h
      ·have:H.n≤l:=h;omega
     let bB:bu:=.loop .busy none s.fr ps as bd
     have hv2:aR E2 base1 st2.hp st2.aE (p.hp.put l bB):=k3.h.view (X':=E2.X) (fun k hk=>by
       have hk:p.hp.n≤k:=hk
       rw [bV (by omega)];exact k3.h.wf k hk) (qq6 _) (fun _ h=>h) (fun _ h=>.inl h) k3.h.xn (fun k hk h=>bV fun e=>by
       subst e
       exact h.elim (fun h=>h hX2l) hS2l) k3.h.pV k3.h.bn
     have har2:iF E2.ρ (p.hp.put l bB).get (E2.O st2.hp) st2.fr p.fr:=fun t=>(k3.fr t).mono (fun _ _ _ h=>h) (fun k b hk ho=>⟨by rw [bV (fun e=>by subst e;exact ho (.inr hX2l))];exact hk,ho⟩);obtain ⟨m2,L2,b1,b2,b3⟩:=hbd E2 base1 ⟨p.fr,p.hp.put l bB,true⟩ ⟨hv2,hrd2.symm,har2⟩
     have F1:j9 st.hp.length base1 {E' with X:=X2} (Hs i) (H.put l bB) E2 st2.hp (p.hp.put l bB):=⟨k4.n,k4.BK,k4.own,k4.d,k4.x,k4.xk,k4.s,fun k hk h1 h2=>by
       by_cases hkl:k=l
       ·subst hkl;rw [gz,gz]
       ·rw [bV hkl,bV hkl];exact k4.same k hk h1 h2,by
       have h5:min H.lo base1≤p.hp.lo:=k4.lo;have h3:(H.put l bB).lo=min H.lo l:=rfl;have h4:(p.hp.put l bB).lo=min p.hp.lo l:=rfl
       omega⟩
     have back:∀ {E4:Env} {hp4:List AB} {amb4:bA} {q:St} (blk':bu) {Q':List AB→bA→Prop},aR E4 base1 hp4 amb4 q.hp→j9 st.hp.length base1 E2 st2.hp (p.hp.put l bB) E4 hp4 q.hp→Q' hp4 amb4 →
       ∃ E5,aR E5 base1 hp (LP blk' Q') (q.hp.put l blk')∧j9 hp.length base1 E1 hp H E5 hp (q.hp.put l blk'):=by
      intro E4 hp4 amb4 q blk' Q' h4 f4 hQ
      exact Hr (E:={E' with X:=X2}) hr (fun k hk=>by
        by_cases hs1:E1.S k
        ·exact .inl hs1
        ·exact .inr (.inr ⟨hk,hs1⟩)) hXl2 q5' q7 q9 hlow f0 h4 (F1.trans f4) hQ
     refine ⟨max m2 0,?_⟩
     obtain ⟨m3,M3,hm3,y1,y2⟩:=fq (one:=one) (L:=L2) (f:=fun _ (q:Exit × St)=>gx l q) (P:=fun r=>∃ w H',r=.ret w H'∧∃ E5 a hp5 amb5,(hp5=hp∧∃ b,a=.fl (.bool b)∧EP (J (i+1)) Stop b amb5)∧aR E5 base1 hp5 amb5 H'∧AR E5.ρ H'.get (E5.O hp5) a w∧j9 hp.length base1 E1 hp H E5 hp5 H')
      (fun _ _ _ _ _ h=>h) 0 b2 (fun q hq=>by
       obtain ⟨E3,st3,j1,j2,j3,j4⟩:=b3 q hq;obtain ⟨e,q⟩:=q;have gl2:q.hp.get l=some bB:=by rw [j4.same l hl2 (fun h=>hv2.iM _ h hX2l) (fun h=>hS2l (hv2.ds _ h))];exact gz
       have jfl:st2.fl=st.hp.length:=k2
       cases e with
       | normal =>obtain ⟨hPn,fr',hwk⟩:=j1;obtain ⟨E4,h4,f4⟩:=hwk.SD j3;rw [j2,jfl] at f4;rw [jfl] at j4;obtain ⟨E5,x1,x2⟩:=back (q:=q) (.loop .ready none s.fr ps as bd) (Q':=fun hp' amb'=>hp'=Hs (i+1)∧amb'=As (i+1)∧Ps (i+1)) h4 (j4.trans f4) ⟨rfl,rfl,hPn⟩;exact ⟨0,[.ret (.bool true) (q.hp.put l (.loop .ready none s.fr ps as bd))],by unfold gx;simp only [gl2,bB],.single ⟨_,_,rfl,E5,.fl (.bool true),hp,_,⟨rfl,true,rfl,.inl ⟨rfl,rfl⟩⟩,x1,.d (.fl rfl),x2⟩⟩
       | ret =>rw [jfl] at j4;obtain ⟨E5,x1,x2⟩:=back (q:=q) (.loop .done (some .ret) s.fr ps as bd) (Q':=fun hp' amb'=>K .ret ⟨st.fr,hp',amb',st.rd,st.fl⟩) j3.h j4 j1;exact ⟨0,[.ret (.bool false) (q.hp.put l (.loop .done (some .ret) s.fr ps as bd))],by unfold gx;simp only [gl2,bB],.single ⟨_,_,rfl,E5,.fl (.bool false),hp,_,⟨rfl,false,rfl,.inr ⟨rfl,.ret,.ret,.inl ⟨rfl,rfl⟩,rfl⟩⟩,x1,.d (.fl rfl),x2⟩⟩
       | exit id =>rw [jfl] at j4;obtain ⟨E5,x1,x2⟩:=back (q:=q) (.loop .done (some (.exit id)) s.fr ps as bd) (Q':=fun hp' amb'=>K (.exit id) ⟨st.fr,hp',amb',st.rd,st.fl⟩) j3.h j4 j1;exact ⟨0,[.ret (.bool false) (q.hp.put l (.loop .done (some (.exit id)) s.fr ps as bd))],by unfold gx;simp only [gl2,bB],.single ⟨_,_,rfl,E5,.fl (.bool false),hp,_,⟨rfl,false,rfl,.inr ⟨rfl,.exit id,.exit id,.inr ⟨id,rfl,rfl⟩,rfl⟩⟩,x1,.d (.fl rfl),x2⟩⟩
       | _=>exact j1.elim)
     refine ⟨M3,?_,y2⟩;unfold cY;simp only [gl,blkR];rw [dO (dj (Nat.le_max_left m2 0)) _ _ _ b1];exact y1
    | _=>exact k1.elim)
  refine ⟨m+1,M,?_,z2⟩;show RX T tab (m+1) (.round l us H)=_;rw [KY,oM,hl];simp only [blkR];rw [show Nat.beq us.length ps.toList.length=true by rw [←ha.1,hxl];exact Nat.beq_refl _];simp only [cond_true];rw [dO (dj hm) _ _ _ a1];exact z1
 let E1:Env:=⟨fun _ _=>none,fun k=>Own E.ρ st.hp k∨E.D k∨k=l,fun k=>k≤l,fun k=>Own E.ρ st.hp k∨E.X k∨k=l⟩
 have hno:∀ k,¬ Own E1.ρ [] k:=fun k ⟨j,b,aA,h,_⟩=>by cases h
 have hwf1:Wf (s.hp.push blkR):=(ej.push s.hp blkR).wf hs.h.wf
 have hrel1:aR E1 base [] (J 0) (s.hp.push blkR) :=
  {wf:=hwf1,gE:=fun j b aA h _=>(by cases h),inj:=fun j j' aA ver' k h=>(by cases h),rn:=fun j v k h=>(by cases h),fresh:=fun j b aA v h=>(by cases h),new:=fun _ _ _=>rfl,
   sup:=fun k h=>(hno k h).elim,iM:=fun k h=>(hno k h).elim,dx:=fun k h=>h.imp id (fun h=>h.imp (hs.h.dx k) id),
   ds:=fun k h=>by
    rcases h with h|h|h
    ·exact Nat.le_of_lt (hs.h.iE h)
    ·exact Nat.le_of_lt (hs.h.sn k (hs.h.ds k h))
    ·exact Nat.le_of_eq h
   sn:=fun k h=>Nat.lt_succ_of_le h
   xn:=fun k h=>by
    show k < s.hp.n+1
    rcases h with h|h|h
    ·exact Nat.lt_succ_of_lt (hs.h.iE h)
    ·exact Nat.lt_succ_of_lt (hs.h.xn k h)
    ·have:k=s.hp.n:=h;omega
   pV:=fun k h=>by
    rcases h with h|h|h|h
    ·exact (hno k h).elim
    ·exact hs.h.pV k (.inl h)
    ·exact hs.h.pV k (.inr h)
    ·rw [h];exact hs.h.bn
   bn:=Nat.le_succ_of_le hs.h.bn
   aE:=by
    refine ⟨fun k h=>h,je,{E with X:=fun k=>E.X k∨k=s.hp.n},base,st.hp,st.aE,s.hp.push blkR,⟨h0.symm,ha0.symm,hp0⟩,hs.h.view hwf1 (Nat.le_succ _) (fun k h=>.inl h) (fun k h=>h.imp id (fun h=>Nat.le_of_eq h.symm)) (fun k h=>?_) (fun k hk _=>cy hk) hs.h.pV (Nat.le_succ_of_le hs.h.bn),
     ⟨Nat.le_succ _,fun _ _ _ _ h=>h,fun _ h=>.inl h,fun _ h=>.inl h,fun k h=>h.imp id (fun h=>Nat.le_of_eq h.symm),fun _ h=>.inl h,fun _ h=>.inl h,fun k hk _ _=>cy hk,by omega⟩,qq6 _,⟨.inr rfl,fun h=>Nat.lt_irrefl _ (hs.h.sn _ h)⟩,fun k hk=>.inl (Nat.le_of_lt_succ hk),fun k h=>Nat.le_of_lt (hs.h.sn k h),fun _ _ _=>rfl,fun k h=>h⟩
    show k < s.hp.n+1
    rcases h with h|h
    ·exact Nat.lt_succ_of_lt (hs.h.xn k h)
    ·omega}
 have hFv:=gh hs.fr f;have hdF:=hFv.deep hdeep
 have hF1:AR E1.ρ (s.hp.push blkR).get (E1.O []) (aN st.fr f) (aF s.fr f):=.d (hdF.mono fun k b hk ho=>by
  have hlt:=hs.h.wf.lt hk;refine ⟨by rw [cy hlt];exact hk,fun h=>?_⟩
  rcases h with h|h|h|h
  ·exact hno k h
  ·exact ho (.inl h)
  ·exact ho (.inr h)
  ·have:k=s.hp.n:=h;omega)
 obtain ⟨goal,hgo,m,L,c1,c2,c3⟩:=hgen u J Stop hy E1 base (s.hp.push blkR) _ [u] hrel1 hF1 (.cons (.d (.oq rfl)) .nil)
 have hgfn:∃ as',goal=.fn gf as':=by
  rw [hF] at hdF;generalize aF s.fr f=fv at hdF hgo
  cases hdF with
  | fn _ _ _ _=>exact ⟨_,by cases hgo;rfl⟩
 obtain ⟨as',rfl⟩:=hgfn
 obtain ⟨m',M,hm,z1,z2⟩:=fq (one:=one) (L:=L) (f:=fun _ (r:gC)=>jv l s.fr s.rd r) (P:=fun p=>sC E base st s (K p.1) p.2) (fun _ _ _ _ _ h=>h) m c2 (fun r hr=>by
  obtain ⟨w,H2,rfl,E2,a,hp2,amb2,k1,k2,k3,k4⟩:=c3 r hr
  have fin:∀ {gE:bu} (blk':bu) {Q:List AB→bA→Prop} {e:Exit},amb2=LP gE Q→(∀ hp' amb',Q hp' amb'→K e ⟨st.fr,hp',amb',st.rd,st.fl⟩)→H2.get l=some gE∧sC E base st s (K e) ⟨s.fr,H2.put l blk',s.rd⟩:=by
   intro gE blk' Q e ha hQ;subst ha;obtain ⟨hlow,hl,E',b',hp',amb',H',q1,q2,q3,q4,⟨q5,q5'⟩,q6,q7,q8,q9⟩:=k2.aE;have hln:l < H2.n:=k2.sn _ (hlow _ (qq6 _));have hbl:base≤l:=k2.pV _ (.inr (q9 _ (.inr (.inr rfl))));have hg2:∀ k,E2.S k→k ≠ l→(H2.put l blk').get k=H'.get k:=fun k h1 h2=>by rw [bV h2];exact q8 k h1 h2
   have hfin:aR {E' with X:=fun k=>E'.X k∨(k < H2.n∧¬ E2.S k)} base hp' amb' (H2.put l blk'):=q2.view (fun k hk=>by
      have hk:H2.n≤k:=hk
      rw [bV (by omega)];exact k2.wf k hk) q4 (fun k h=>.inl h) (fun k h=>by
     rcases h with h|h
     ·exact .inl h
     ·by_cases hk:k < H'.n
      ·exact .inl ((q6 k hk).resolve_left h.2)
      ·exact .inr (by omega)) (fun k h=>h.elim (fun h=>Nat.lt_of_lt_of_le (q2.xn k h) q4) And.left)
    (fun k hk h=>by
     rcases h with h|h
     ·exact hg2 k ((q6 k hk).resolve_right h) (fun e=>h (e ▸ q5))
     ·exact hg2 k (q7 k h) (fun e=>q5' (by have e:k=s.hp.n:=e;rw [←e];exact h))) (fun k hk=>k2.pV k (.inr (q9 k (hk.imp id .inl)))) k2.bn
   have ff:j9 st.hp.length base E st.hp s.hp {E' with X:=fun k=>E'.X k∨(k < H2.n∧¬ E2.S k)} hp' (H2.put l blk'):=⟨Nat.le_trans q3.n q4,q3.BK,q3.own,q3.d,fun k h=>by
     rcases h with h|h
     ·exact q3.x k h
     ·by_cases hk:k < s.hp.n
      ·exact absurd (hlow k (Nat.le_of_lt hk)) h.2
      ·exact .inr (by omega),fun k h=>.inl (q3.xk k h),q3.s,fun k hk h1 h2=>by rw [hg2 k (hlow k (Nat.le_of_lt hk)) (Nat.ne_of_lt hk)];exact q3.same k hk h1 h2,by
     have h1:=k4.lo;have h2:(s.hp.push blkR).lo=s.hp.lo:=rfl;have h3:(H2.put l blk').lo=min H2.lo l:=rfl
     omega⟩
   exact ⟨hl,_,⟨st.fr,hp',amb',st.rd,st.fl⟩,hQ _ _ q1,rfl,⟨hfin,hs.rd,fun t=>ff.ar hs.h (hs.fr t)⟩,ff.low hs.h _⟩
  rcases k1 with k1|⟨pend,e,hpe,k1⟩
  ·obtain ⟨g1,g2⟩:=fin (.loop .exhausted none s.fr ps as bd) (e:=.normal) k1 (fun hp' amb' ⟨h1,h2,h3⟩=>by subst h1;subst h2;exact hend h3);exact ⟨0,[(.normal,⟨s.fr,H2.put l (.loop .exhausted none s.fr ps as bd),s.rd⟩)],by unfold jv;simp only [g1,blkR],.single g2⟩
  ·obtain ⟨g1,g2⟩:=fin (.loop .exhausted (some pend) s.fr ps as bd) (e:=e) k1 (fun _ _ h=>h)
   rcases hpe with ⟨rfl,rfl⟩|⟨id,rfl,rfl⟩
   ·exact ⟨0,[(.ret,⟨s.fr,H2.put l (.loop .exhausted (some .ret) s.fr ps as bd),s.rd⟩)],by unfold jv;simp only [g1],.single g2⟩
   ·exact ⟨0,[(.exit id,⟨s.fr,H2.put l (.loop .exhausted (some (.exit id)) s.fr ps as bd),s.rd⟩)],by unfold jv;simp only [g1],.single g2⟩)
 refine ⟨m',M,?_,z2⟩;rw [lz];unfold mP;have hgo':cO (aF s.fr f) [Value.func (Fn.yield s.hp.n) #[] #[]]=some (.fn gf as'):=hgo;simp only [hgo'];have:RX T tab m' (.call gf as' (s.hp.push (.loop .ready none s.fr ps as bd)))=some L:=dj hm _ _ c1;rw [this];exact z1
theorem aj.closed {f:FuncId} {v:Value} (h:∀ H,look tab f [] H=some (v,H)) (hv:aV v=true):aj T tab one (.fn f [] []) [] (.fl v):=by
 refine ⟨rfl,fun X H u us hwf hX hF ha=>?_⟩
 cases hF with
 | fn l1 l2 d1 d2 =>
  rename_i a' b';have h1:a'.toList=[]:=List.length_eq_zero_iff.1 l1.symm;have h2:b'.toList=[]:=List.length_eq_zero_iff.1 l2.symm;have h3:us=[]:=List.length_eq_zero_iff.1 ha.1.symm;refine ⟨.fn f [],by simp [cO,h1,h2,h3],0,[.ret v H],?_,fun _=>⟨_,rfl⟩,fun r hr=>?_⟩
  ·show rx tab (vc tab T 0) (.call f [] H)=_;unfold rx;simp only [h H]
  ·obtain rfl:=List.mem_singleton.1 hr;exact ⟨v,H,rfl,qq6 _,hwf,fun _ _=>rfl,Nat.min_le_left _ _,.fl hv⟩
end
theorem MY {P:Program} {t:TypeId} {x y:Operand} {m n:Int} (h0:0≤m) (h2:1≤n):fV P .rem t x y (.int .i64 m) (.int .i64 n)=some (.int .i64 (m % n),.none):=by
 have hn:n ≠ 0:=by omega
 have h:fV P .rem t x y (.int .i64 m) (.int .i64 n)=some (.int .i64 (m.tmod n),.none):=by
  show gP P .rem t x y (.int .i64 m) (.int .i64 n)=_;unfold gP;simp only [flat,aV,Bool.and_self,cond_true];have:(do eqGuard BinOp.rem t x y (Value.int IntKind.i64 m) (Value.int IntKind.i64 n);binOp BinOp.rem t (Value.int IntKind.i64 m) (Value.int IntKind.i64 n):Sem Value)=pure (.int .i64 (m.tmod n)):=by show Op.intDiv .rem .i64 m n=_;unfold Op.intDiv;rw [if_neg hn]
  rw [this];rfl
 rw [h,IntWalk.rem_in m n h0]
theorem MZ {P:Program} {t:TypeId} {x y:Operand} {m n:Int} (h0:0≤m) (h1:m≤9223372036854775807) (h2:1≤n):fV P .quo t x y (.int .i64 m) (.int .i64 n)=some (.int .i64 (m / n),.none):=by
 have hn:n ≠ 0:=by omega
 have h:fV P .quo t x y (.int .i64 m) (.int .i64 n)=some (.int .i64 (IntKind.i64.wrap (m.tdiv n)),.none):=by
  show gP P .quo t x y (.int .i64 m) (.int .i64 n)=_;unfold gP;simp only [flat,aV,Bool.and_self,cond_true];have:(do eqGuard BinOp.quo t x y (Value.int IntKind.i64 m) (Value.int IntKind.i64 n);binOp BinOp.quo t (Value.int IntKind.i64 m) (Value.int IntKind.i64 n):Sem Value)=pure (.int .i64 (IntKind.i64.wrap (m.tdiv n))):=by show Op.intDiv .quo .i64 m n=_;unfold Op.intDiv;rw [if_neg hn]
  rw [this];rfl
 rw [h,IntWalk.i64_quo m n ⟨h0,h1,h2⟩]
section
variable {T : bJ} {tab : List XE} {one : Bool} {mu : Tmp → Bool}
theorem uI {ops:List Oper} {j:Nat} {want:Bool} {fr:Nat→AV} {yes no:Prop} {d:Tmp} {a0 a1 a2 a3 a4} {b:Bool} (h1:ops[j]?=some ⟨some d,a0,a1,a2,a3,a4⟩) (h2:fr d=.fl (.bool b)) (h3:b=want) (y:yes):cW ops (some (j,want)) fr yes no:=by unfold cW;simp only [h1,h2];exact gm h3 y
theorem wW {ops:List Oper} {j:Nat} {want:Bool} {fr:Nat→AV} {yes no:Prop} {d:Tmp} {a0 a1 a2 a3 a4} {b:Bool} (h1:ops[j]?=some ⟨some d,a0,a1,a2,a3,a4⟩) (h2:fr d=.fl (.bool b)) (h3:b=!want) (n:no):cW ops (some (j,want)) fr yes no:=by unfold cW;simp only [h1,h2];exact gR h3 n
theorem Bf {ops:List Oper} {j:Nat} {want:Bool} {fr:Nat→AV} {yes no:Prop} {d:Tmp} {a0 a1 a2 a3 a4} {vs:List AV} (h1:ops[j]?=some ⟨some d,a0,a1,a2,a3,a4⟩) (h2:fr d=.tp vs) (n:no):cW ops (some (j,want)) fr yes no:=by unfold cW;simp only [h1,h2];exact n
end
theorem Ld {v:AV} {K:AV→Prop} (h:K v):force v K:=by cases v <;> exact h
section
variable {T : bJ} {tab : List XE} {one : Bool} {mu : Tmp → Bool} {own : Bool} {fr : Nat → AV} {hp : List AB} {aE : bA} {rd : Bool} {fl : Nat} {K : AV → List AB → Prop} {KE : Exit → bU → Prop} {KS : bU → Prop} {st : bU} {dst : Option Tmp}
theorem c1 (h:KE .normal st):oB T tab one mu .skip st KE:=h
theorem c2 {a b:Code} (h:oB T tab one mu a st (wR (fun s=>oB T tab one mu b s KE) KE)):oB T tab one mu (.seq a b) st KE:=h
theorem c3 {id:Nat} {c:Code} (h:oB T tab one mu c st (kM id KE)):oB T tab one mu (.block id c) st KE:=h
theorem c4 {id:Nat} {l:List Oper} (h:wpOps T tab one mu l l st (KE .normal)):oB T tab one mu (.region id l.toArray false) st KE:=h
theorem c5 {id:Nat} {l l1 l2:List Oper} {c:Nat} (hc:ez l.toArray=c) (h1:l.take c=l1) (h2:l.drop c=l2) (h:jK T tab mu l.toArray l1 0 (fun _=>0) [] st fun s=>wpOps T tab one mu l l2 s (KE .normal)):oB T tab one mu (.region id l.toArray true) st KE:=by subst hc h1 h2;exact h
theorem c6 {id:Nat} (h:KE (.exit id) st):oB T tab one mu (.exit id) st KE:=h
theorem c7 (h:KE .ret st):oB T tab one mu .ret st KE:=h
theorem c8 {c:Code} (h:oB T tab one mu c st (tM KE)):oB T tab one mu (.scope c) st KE:=h
theorem c9 {Q:bU→Prop} (h:Q st):wR Q KE .normal st:=h
theorem d1 {Q:bU→Prop} (h:KE .ret st):wR Q KE .ret st:=h
theorem d2 {Q:bU→Prop} {id:Nat} (h:KE (.exit id) st):wR Q KE (.exit id) st:=h
theorem d3 {id:Nat} (h:KE .normal st):kM id KE .normal st:=h
theorem d4 {id:Nat} (h:KE .ret st):kM id KE .ret st:=h
theorem d5 {id id':Nat} (hb:Nat.beq id' id=true) (h:KE .normal st):kM id KE (.exit id') st:=by unfold kM;simp only [hb,cond_true];exact h
theorem d6 {id id':Nat} (hb:Nat.beq id' id=false) (h:KE (.exit id') st):kM id KE (.exit id') st:=by unfold kM;simp only [hb,cond_false];exact h
theorem d7 (h:KE .normal st):tM KE .normal st:=h
theorem d8 (h:KE .ret st):tM KE .ret st:=h
theorem d9 {id:Nat} (h:KE (.exit id) st):tM KE (.exit id) st:=h
theorem e1 {c:Operand} {a b:Code} {t:Bool} (hc:aN st.fr c=.fl (.bool t)) (h:(t=true→oB T tab one mu a st KE)∧(t=false→oB T tab one mu b st KE)):oB T tab one mu (.cond c a b) st KE:=by show (match aN st.fr c with|.fl (.bool t)=>_|_=>False);rw [hc];exact h
theorem e2 {c:Operand} {a b:Code} {t:Bool} (hc:aN st.fr c=.fl (.bool t)) (ht:t=true) (h:oB T tab one mu a st KE):oB T tab one mu (.cond c a b) st KE:=e1 hc (MR ht h)
theorem e3 {c:Operand} {a b:Code} {t:Bool} (hc:aN st.fr c=.fl (.bool t)) (ht:t=false) (h:oB T tab one mu b st KE):oB T tab one mu (.cond c a b) st KE:=e1 hc (Qs ht h)
theorem o1 {ops:List Oper} (h:KS st):wpOps T tab one mu ops [] st KS:=h
theorem o2 {ops:List Oper} {op:Op} {a1 a2 a3 gd} {l:List Oper}
 (h:cW ops gd fr (sB T tab one mu dst op fr hp aE rd fl fun st'=>wpOps T tab one mu ops l st' KS) (fK dst fr (.tp []) fun fr'=>wpOps T tab one mu ops l ⟨fr',hp,aE,rd,fl⟩ KS)):wpOps T tab one mu ops (⟨dst,op,a1,a2,a3,gd⟩ :: l) ⟨fr,hp,aE,rd,fl⟩ KS:=h
theorem o3 {ops:Array Oper} {op:Op} {a1 a2 a3 gd} {l:List Oper} {i:Nat} {bt:Nat→Nat} {acc:List hU}
 (h:cW ops.toList gd fr (eD T tab mu dst op i bt fr hp fun fr' hp' bt' x=>jK T tab mu ops l (i+1) bt' (x :: acc) ⟨fr',hp',aE,rd,fl⟩ KS)
  (fK dst fr (.tp []) fun fr'=>jK T tab mu ops l (i+1) (gL dst bt 0) (⟨i,[],false,false⟩ :: acc) ⟨fr',hp,aE,rd,fl⟩ KS)):jK T tab mu ops (⟨dst,op,a1,a2,a3,gd⟩ :: l) i bt acc ⟨fr,hp,aE,rd,fl⟩ KS:=h
theorem o4 {ops:List Oper} {yes no:Prop} (h:yes):cW ops none fr yes no:=h
theorem o5 {d:Tmp} {v:AV} {P:(Nat→AV)→Prop} (h:P fun t=>bif Nat.beq t d then v else fr t):fK (some d) fr v P:=h
theorem o6 {v:AV} {P:(Nat→AV)→Prop} (h:P fr):fK none fr v P:=h
theorem o7 {f:Operand} {l:List Operand} {tys} (h:force (aN fr f) fun F=>fJ (l.map (aN fr)) fun as=>az T tab one F as hp aE fun v hp' amb'=>fK dst fr v fun fr'=>KS ⟨fr',hp',amb',rd,fl⟩) :
 sB T tab one mu dst (.call ⟨.value f,l.toArray,tys⟩) fr hp aE rd fl KS:=h
theorem o8 {op:Op} (hk:cP op=.plain) (h:wpOp T (MQ mu dst) op fr hp fun v hp'=>force v fun v=>fK dst fr v fun fr'=>KS ⟨fr',hp',aE,rd,fl⟩):sB T tab one mu dst op fr hp aE rd fl KS:=by unfold sB;rw [hk];exact h
theorem o9 {x:Operand} {l:List Operand} {f:Operand→AV} {P:List AV→Prop} (h:force (f x) fun a=>fJ (l.map f) fun l=>P (a :: l)):fJ ((x :: l).map f) P:=h
theorem p1 {f:Operand→AV} {P:List AV→Prop} (h:P []):fJ (([]:List Operand).map f) P:=h
theorem p2 {x:Operand} (h:K (aN fr x) hp):wpOp T own (.move x) fr hp K:=h
theorem p3 {x:Operand} (h:K (aN fr x) hp):wpOp T own (.assign x) fr hp K:=h
theorem p4 {c a b:Operand} (h:tI (aN fr c) (aN fr a) (aN fr b) hp K):wpOp T own (.pick c a b) fr hp K:=h
theorem p5 {o:BinOp} {t e:TypeId} {x y:Operand} (h:bk T o t x y (aN fr x) (aN fr y) hp K):wpOp T own (.binOp o t x y e) fr hp K:=h
theorem p6 {x:Operand} {t:TypeId} (h:force (aN fr x) fun v=>sx T t v hp K):wpOp T own (.call ⟨.builtin .len,[x].toArray,[t].toArray⟩) fr hp K:=Ld (bf h)
theorem p7 {f:FuncId} {a b:List Operand} (h:fJ (a.map (aN fr)) fun a=>fJ (b.map (aN fr)) fun b=>K (.fn f a b) hp):wpOp T own (.makeFunc (.func f) a.toArray b.toArray) fr hp K:=h
theorem p8 {x:Operand} (h:sw (aN fr x) hp K):wpOp T own (.nilCheck x) fr hp K:=h
theorem p9 {op:Op} {i:Nat} {bt:Nat→Nat} {KD:(Nat→AV)→List AB→(Nat→Nat)→hU→Prop} (hk:cP op=.plain) (h:∃ a,EI op fr (ny bt)=some a∧wpOp T (MQ mu dst) op fr hp fun v hp'=>force v fun v=>fK dst fr v fun fr'=>KD fr' hp' (gL dst bt (iT op fr bt i)) ⟨i,a,news? op,false⟩) :
  eD T tab mu dst op i bt fr hp KD:=by
 unfold eD;rw [hk];exact h
theorem C1 {v:AV} {P:AV→Prop} (h:P v):force v P:=by cases v <;> exact h
theorem zu:∀ {l:List AV} {P:List AV→Prop},P l→fJ l P
 | [],_,h=>h
 | _ :: _,_,h=>C1 (zu (P:=fun _=>_) h)
theorem Gk {f:Operand} {l:List Operand} {tys} {i:Nat} {bt:Nat→Nat} {KD:(Nat→AV)→List AB→(Nat→Nat)→hU→Prop} (h:(aN fr f).deep=true∧∃ vs v,Handed hp (l.map (aN fr)) vs v∧aj T tab true (aN fr f) vs v∧fK dst fr v fun fr'=>KD fr' hp (gL dst bt (i+1)) ⟨i,[],true,true⟩) :
  eD T tab mu dst (.call ⟨.value f,l.toArray,tys⟩) i bt fr hp KD:=by
 show force (aN fr f) fun F=>fJ (l.map (aN fr)) fun as=>F.deep=true∧∃ vs v,Handed hp as vs v∧aj T tab true F vs v∧fK dst fr v fun fr'=>KD fr' hp (gL dst bt (i+1)) ⟨i,[],true,true⟩;generalize aN fr f=F at h ⊢;generalize l.map (aN fr)=as at h ⊢;exact C1 (zu (P:=fun as=>F.deep=true∧∃ vs v,Handed hp as vs v∧aj T tab true F vs v∧fK dst fr v fun fr'=>KD fr' hp (gL dst bt (i+1)) ⟨i,[],true,true⟩) h)
theorem n1 {f:Operand} {l:List Operand} {tys} {i:Nat} {bt:Nat→Nat} {KD:(Nat→AV)→List AB→(Nat→Nat)→hU→Prop} (h:force (aN fr f) fun F=>fJ (l.map (aN fr)) fun as=>F.deep=true∧cC as=true∧∃ v,aj T tab true F as v∧fK dst fr v fun fr'=>KD fr' hp (gL dst bt (i+1)) ⟨i,[],true,true⟩) :
  eD T tab mu dst (.call ⟨.value f,l.toArray,tys⟩) i bt fr hp KD:=by
 have h:=eJ (bf h);obtain ⟨h1,h2,v,h3,h4⟩:=h;exact Gk ⟨h1,_,v,.inl ⟨rfl,h2⟩,h3,h4⟩
theorem n2 {f:Operand} {l:List Operand} {tys} {i:Nat} {bt:Nat→Nat} {KD:(Nat→AV)→List AB→(Nat→Nat)→hU→Prop} {F v:AV} {as vs:List AV} (hp':aj T tab true F vs v) (hf:aN fr f=F) (ha:l.map (aN fr)=as) (hF:F.deep=true) (hz:l7 hp as vs) (hv:fA v) (h:fK dst fr v fun fr'=>KD fr' hp (gL dst bt (i+1)) ⟨i,[],true,true⟩) :
  eD T tab mu dst (.call ⟨.value f,l.toArray,tys⟩) i bt fr hp KD:=by
 subst hf ha;exact Gk ⟨hF,vs,v,.inr ⟨hz,hv⟩,hp',h⟩
theorem n3 {x:Operand} {t:TypeId} {b:Bool} (hb:aN fr x=.fl (.bool b)) (h:K (.fl (.bool (!b))) hp):wpOp T own (.unOp .not t x) fr hp K:=by show MP T .not (aN fr x) hp K;rw [hb];exact h
theorem n4 {x y:Operand} {tys:Array TypeId} {m n:Int} (hx:aN fr x=.fl (.int .i64 m)) (hy:aN fr y=.fl (.int .i64 n)) (h:K (.fl (.int .i64 (min m n))) hp):wpOp T own (.call ⟨.builtin .min,[x,y].toArray,tys⟩) fr hp K:=by show force (aN fr x) fun a=>force (aN fr y) fun b=>F9 T [a,b] hp K;rw [hx,hy];exact h
theorem n5 {x y:Operand} {tys:Array TypeId} {m n:Int} (hx:aN fr x=.fl (.int .i64 m)) (hy:aN fr y=.fl (.int .i64 n)) (h:K (.fl (.int .i64 (max m n))) hp):wpOp T own (.call ⟨.builtin .max,[x,y].toArray,tys⟩) fr hp K:=by show force (aN fr x) fun a=>force (aN fr y) fun b=>Ga T [a,b] hp K;rw [hx,hy];exact h
section
variable {v : AV} {P : AV → Prop}
theorem f1 {x:Value} (hv:v=.fl x) (h:P (.fl x)):force v P:=by subst hv;exact h
theorem f2 {a:List (List AV)} {b:Bool} (hv:v=.sl a b) (h:P (.sl a b)):force v P:=by subst hv;exact h
theorem f3 {a:List AV} {b:Nat} (hv:v=.pt a b) (h:P (.pt a b)):force v P:=by subst hv;exact h
theorem f4 {a:FuncId} {b c:List AV} (hv:v=.fn a b c) (h:P (.fn a b c)):force v P:=by subst hv;exact h
theorem f5 {a:List AV} (hv:v=.ag a) (h:P (.ag a)):force v P:=by subst hv;exact h
theorem f6 {a:List AV} (hv:v=.tp a) (h:P (.tp a)):force v P:=by subst hv;exact h
theorem f7 {a b c:Nat} (hv:v=.ptr a b c) (h:P (.ptr a b c)):force v P:=by subst hv;exact h
theorem f8 {a b c d e:Nat} (hv:v=.bg a b c d e) (h:P (.bg a b c d e)):force v P:=by subst hv;exact h
theorem f9 {a:Nat} (hv:v=.om a) (h:P (.om a)):force v P:=by subst hv;exact h
theorem g1 {a:Value} (hv:v=.oq a) (h:P (.oq a)):force v P:=by subst hv;exact h
theorem g2 (hv:v=.bX) (h:P .bX):force v P:=by subst hv;exact h
end
section
variable {c a b : AV} {t x y : Bool}
theorem k1 (hc:c=.fl (.bool t)) (h:jS t a b hp K):tI c a b hp K:=by subst hc;exact h
theorem k2 (ht:t=true) (h:K a hp):jS t a b hp K:=by
 subst ht;unfold jS;split
 ·exact h
 ·exact And.intro (fun _=>h) (fun e=>Bool.noConfusion e)
theorem k3 (ht:t=false) (h:K b hp):jS t a b hp K:=by
 subst ht;unfold jS;split
 ·exact h
 ·exact And.intro (fun e=>Bool.noConfusion e) (fun _=>h)
theorem k4 (ha:a=.fl (.bool x)) (hb:b=.fl (.bool y)) (h:K (.fl (.bool (bif t then x else y))) hp):jS t a b hp K:=by subst ha hb;exact h
end
section
variable {a b : AV} {m n : Int} {t : TypeId} {x y : Operand}
theorem b1 (ha:a=.fl (.int .i64 m)) (hb:b=.fl (.int .i64 n)) (hh:-9223372036854775808≤m+n∧m+n≤9223372036854775807) (h:K (.fl (.int .i64 (m+n))) hp):bk T .add t x y a b hp K:=by subst ha hb;exact ⟨hh,h⟩
theorem b2 (ha:a=.fl (.int .i64 m)) (hb:b=.fl (.int .i64 n)) (hh:-9223372036854775808≤m - n∧m - n≤9223372036854775807) (h:K (.fl (.int .i64 (m - n))) hp):bk T .sub t x y a b hp K:=by subst ha hb;exact ⟨hh,h⟩
theorem b3 (ha:a=.fl (.int .i64 m)) (hb:b=.fl (.int .i64 n)) (hh:-9223372036854775808≤m * n∧m * n≤9223372036854775807) (h:K (.fl (.int .i64 (m * n))) hp):bk T .mul t x y a b hp K:=by subst ha hb;exact ⟨hh,h⟩
theorem b4 (ha:a=.fl (.int .i64 m)) (hb:b=.fl (.int .i64 n)) (h:K (.fl (.bool (decide (m=n)))) hp):bk T .eql t x y a b hp K:=by subst ha hb;exact h
theorem b5 (ha:a=.fl (.int .i64 m)) (hb:b=.fl (.int .i64 n)) (h:K (.fl (.bool (!decide (m=n)))) hp):bk T .neq t x y a b hp K:=by subst ha hb;exact h
theorem b6 (ha:a=.fl (.int .i64 m)) (hb:b=.fl (.int .i64 n)) (h:K (.fl (.bool (decide (m < n)))) hp):bk T .lss t x y a b hp K:=by subst ha hb;exact h
theorem b7 (ha:a=.fl (.int .i64 m)) (hb:b=.fl (.int .i64 n)) (h:K (.fl (.bool (decide (m≤n)))) hp):bk T .leq t x y a b hp K:=by subst ha hb;exact h
theorem b8 (ha:a=.fl (.int .i64 m)) (hb:b=.fl (.int .i64 n)) (h:K (.fl (.bool (decide (n < m)))) hp):bk T .gtr t x y a b hp K:=by subst ha hb;exact h
theorem b9 (ha:a=.fl (.int .i64 m)) (hb:b=.fl (.int .i64 n)) (h:K (.fl (.bool (decide (n≤m)))) hp):bk T .geq t x y a b hp K:=by subst ha hb;exact h
theorem r1 (ha:a=.fl (.int .i64 m)) (hb:b=.fl (.int .i64 n)) (h0:0≤m∧1≤n) (h:K (.fl (.int .i64 (m % n))) hp):bk T .rem t x y a b hp K:=by subst ha hb;exact ⟨_,MY h0.1 h0.2,rfl,h⟩
theorem r2 (ha:a=.fl (.int .i64 m)) (hb:b=.fl (.int .i64 n)) (h0:(0≤m∧m≤9223372036854775807)∧1≤n) (h:K (.fl (.int .i64 (m / n))) hp):bk T .quo t x y a b hp K:=by subst ha hb;exact ⟨_,MZ h0.1.1 h0.1.2 h0.2,rfl,h⟩
end
section
variable {v : AV} {t : TypeId}
theorem l1 {e:TypeId} {a1 a2 a3 a4 a5 a6} {els:List (List AV)} {f:Bool} (ht:T.ty.get t=some ⟨.slice e,a1,a2,a3,a4,a5,a6⟩) (h:K (.fl (.int .i64 els.length)) hp):sx T t (.sl els f) hp K:=by unfold sx;rw [ht];exact h
theorem l2 {e:TypeId} {a1 a2 a3 a4 a5 a6} {j aA o n c:Nat} (ht:T.ty.get t=some ⟨.slice e,a1,a2,a3,a4,a5,a6⟩) (h:K (.fl (.int .i64 n)) hp):sx T t (.bg j aA o n c) hp K:=by unfold sx;rw [ht];exact h
theorem l3 {a:List AV} {b:Nat} (hv:v=.pt a b) (h:K (.pt a b) hp):sw v hp K:=by subst hv;exact h
theorem l4 {a b c:Nat} (hv:v=.ptr a b c) (h:K (.ptr a b c) hp):sw v hp K:=by subst hv;exact h
end
end
section
variable {T : bJ} {tab : List XE} {one : Bool} {mu : Tmp → Bool} {base : Nat} {E : Env} {hp : List AB} {aE : bA} {H : Hp} {ρ : Nat → Nat → Option Nat} {g : aH} {O O' : Nat → Prop}
theorem bx {a b:Code} {st:bU} {K:Exit→bU→Prop} (h:oB T tab one mu a st (wR (fun s=>av T tab one b s K) K)):av T tab one (.seq a b) st K:=.seq (aa h)
def cR (j:Nat) (ρ:Nat→Nat→Option Nat):Nat→Nat→Option Nat:=fun i v=>if i=j then none else ρ i v
mutual
def AV.gS (j:Nat):AV→Bool
 | .fl _=>true
 | .sl _ _=>true
 | .pt _ _=>true
 | .fn _ a b=>vi j a && vi j b
 | .ag a=>vi j a
 | .tp a=>vi j a
 | .oq _=>true
 | .bX=>true
 | .ptr i _ _=>!Nat.beq i j
 | .bg i _ _ _ _=>!Nat.beq i j
 | .om i=>!Nat.beq i j
def vi (j:Nat):List AV→Bool
 | []=>true
 | a :: l=>a.gS j && vi j l
end
theorem dP {j:Nat}:∀ {l:List AV},vi j l=true→∀ (i:Nat) (a:AV),l[i]?=some a→a.gS j=true
 | [],_,i,a,h=>by cases h
 | x :: l,h,i,a,ha=>by
  simp only [vi,qq7] at h
  cases i with
  | zero=>cases ha;exact h.1
  | succ i=>exact dP h.2 i a (by simpa using ha)
theorem gT {i j:Nat} (h:(!Nat.beq i j)=true):i ≠ j:=by intro e;subst e;rw [Nat.beq_refl] at h;cases h
theorem AR.gS {j:Nat} (hO:∀ k,O' k→O k) {v:AV} {u:Value} (h:AR ρ g O v u):v.gS j=true→AR (cR j ρ) g O' v u:=by
 induction h with
 | d h=>intro _;exact .d (h.mono fun k b hk ho=>⟨hk,fun h=>ho (hO k h)⟩)
 | bX=>intro _;exact .bX
 | ptr h=>intro hd;simp only [AV.gS] at hd;exact .ptr (by rw [cR,if_neg (gT hd)];exact h)
 | bg h=>intro hd;simp only [AV.gS] at hd;exact .bg (by rw [cR,if_neg (gT hd)];exact h)
 | si=>intro _;exact .si
 | om h=>intro hd;simp only [AV.gS] at hd;exact .om (by rw [cR,if_neg (gT hd)];exact h)
 | fn ha hb h1 h2 ih1 ih2 =>intro hd;simp only [AV.gS,qq7] at hd;exact .fn ha hb (fun i x u hx hu=>ih1 i x u hx hu (dP hd.1 i x hx)) (fun i x u hx hu=>ih2 i x u hx hu (dP hd.2 i x hx))
 | ag ha h1 ih=>intro hd;simp only [AV.gS] at hd;exact .ag ha (fun i x u hx hu=>ih i x u hx hu (dP hd i x hx))
 | tp ha h1 ih=>intro hd;simp only [AV.gS] at hd;exact .tp ha (fun i x u hx hu=>ih i x u hx hu (dP hd i x hx))
def AB.gS (j:Nat):AB→Bool
 | .cells cs _ _=>vi j cs
 | .dU _ _=>true
 | .map aK _=>aK.all fun p=>p.1.gS j && p.2.1.gS j
 | .iter i _ _ _=>!Nat.beq i j
 | .gone=>true
inductive Gv (j aA:Nat) (cs:List AV):AV→AV→Prop
 | same {a:AV}:a.gS j=true→Gv j aA cs a a
 | ptr {o:Nat}:Gv j aA cs (.ptr j aA o) (.pt cs o)
 | row {o n c:Nat} {els:List (List AV)} {b:Bool} (es:Nat):o+n * es≤cs.length→els.length=n→(∀ el ∈ els,el.length=es)→els.flatten=(cs.drop o).take (n * es)→(b=true→c=n)→Gv j aA cs (.bg j aA o n c) (.sl els b)
 | bX {a:AV}:Gv j aA cs a .bX
def Bg (j aA:Nat) (cs:List AV) (fr:Nat→AV):List (Nat × AV)→Prop
 | []=>True
 | (i,v) :: l=>Gv j aA cs (fr i) v∧Bg j aA cs fr l
theorem Gl {j aA:Nat} {cs:List AV} {fr:Nat→AV}:∀ {l:List (Nat × AV)},Bg j aA cs fr l→∀ t,Gv j aA cs (fr t) (aZ l t)
 | [],_,t=>.bX
 | (i,v) :: l,h,t=>by
  unfold aZ;rw [Tr.beq_eq];by_cases hti:t=i
  ·rw [decide_eq_true hti,hti];exact h.1
  ·rw [decide_eq_false hti];exact Gl h.2 t
theorem ah.Tk {st:bU} {l:List (Nat × AV)} {j aA es:Nat} {cs:List AV} (hj:st.hp[j]?=some (.cells cs es aA)) (hn:st.fl≤j) (hd:cC cs=true) (hs:Bg j aA cs st.fr l) (hb:∀ (i:Nat) (b:AB),st.hp[i]?=some b→i ≠ j→b.gS j=true) :
  ah st ⟨aZ l,st.hp.set j .gone,st.aE,st.rd,st.fl⟩:=by
 have hlt:j < st.hp.length:=(List.getElem?_eq_some_iff.1 hj).1;refine ⟨rfl,fun E base s hs'=>?_⟩;have hr:=hs'.h
 have hget:∀ (i:Nat) (b:AB) (aA:Nat),(st.hp.set j .gone)[i]?=some b→b.ver?=some aA→i ≠ j∧st.hp[i]?=some b:=by
  intro i b aA hi hv;by_cases hij:i=j
  ·subst hij;rw [List.getElem?_set_self hlt] at hi;cases hi;cases hv
  ·rw [List.getElem?_set_ne (Ne.symm hij)] at hi;exact ⟨hij,hi⟩
 have hdr:∀ {i v k:Nat},cR j E.ρ i v=some k→i ≠ j∧E.ρ i v=some k:=by
  intro i v k h;unfold cR at h;split at h
  ·cases h
  ·rename_i hne;exact ⟨hne,h⟩
 have hown:∀ k,Own (cR j E.ρ) (st.hp.set j .gone) k→Own E.ρ st.hp k:=by rintro k ⟨i,b,v,h1,h2,h3⟩;exact ⟨i,b,v,(hget i b v h1 h2).2,h2,(hdr h3).2⟩
 have hOs:∀ k,({E with ρ:=cR j E.ρ}:Env).O (st.hp.set j .gone) k→E.O st.hp k:=fun k h=>h.imp (hown k) id
 have hpt:∀ {o:Nat} {u:Value},AR E.ρ s.hp.get (E.O st.hp) (.ptr j aA o) u→AR (cR j E.ρ) s.hp.get (({E with ρ:=cR j E.ρ}:Env).O (st.hp.set j .gone)) (.pt cs o) u:=by
  intro o u h;obtain ⟨k,hk,rfl⟩:=h.dJ;obtain ⟨cs',q1,q2⟩:=hr.cells hj hk
  have hnO:¬ ({E with ρ:=cR j E.ρ}:Env).O (st.hp.set j .gone) k:=by
   rintro (⟨i,b,v,h1,h2,h3⟩|hx)
   ·have:=hdr h3;exact this.1 (hr.inj i j v aA k this.2 hk)
   ·exact hr.iM k ⟨j,_,aA,hj,rfl,hk⟩ hx
  have:=q2.deep hd;refine .d (?_:DR _ _ (.pt cs o) (.pointer (some ⟨k,o,none⟩)))
  have h0:DR s.hp.get (({E with ρ:=cR j E.ρ}:Env).O (st.hp.set j .gone)) (.pt cs o) (.pointer (some ⟨k,0+o,none⟩)) :=
   .pt q1 hnO (by rw [Nat.zero_add,this.1];exact qq6 _) (fun i a u x y=>(this.2 i a u x (by rw [Nat.zero_add] at y;exact y)).mono fun k b hk ho=>⟨hk,fun h=>ho (hOs k h)⟩)
  rw [Nat.zero_add] at h0;exact h0
 have hrow:∀ {o n c:Nat} {els:List (List AV)} {b:Bool} {u:Value} (es:Nat),o+n * es≤cs.length→els.length=n→(∀ el ∈ els,el.length=es)→els.flatten=(cs.drop o).take (n * es)→(b=true→c=n)→AR E.ρ s.hp.get (E.O st.hp) (.bg j aA o n c) u →
   AR (cR j E.ρ) s.hp.get (({E with ρ:=cR j E.ρ}:Env).O (st.hp.set j .gone)) (.sl els b) u:=by
  intro o n c els b u es g1 g2 g3 g4 g5 h
  rcases h.fI with ⟨k,hk,rfl⟩|⟨rfl,rfl,rfl⟩
  ·obtain ⟨cs',q1,q2⟩:=hr.cells hj hk
   have hnO:¬ ({E with ρ:=cR j E.ρ}:Env).O (st.hp.set j .gone) k:=by
    rintro (⟨i,b,v,h1,h2,h3⟩|hx)
    ·have:=hdr h3;exact this.1 (hr.inj i j v aA k this.2 hk)
    ·exact hr.iM k ⟨j,_,aA,hj,rfl,hk⟩ hx
   have hdp:=q2.deep hd;refine .d (.sl (es:=es) q1 hnO (by rw [←q2.1];exact g1) g2 (fun i el he=>g3 el (List.mem_of_getElem? he)) (fun i el jj a u he hx hu=>?_) g5);have hjj:jj < es:=by rw [←g3 el (List.mem_of_getElem? he)];exact (List.getElem?_eq_some_iff.1 hx).1
   have hat:=gi g3 i el jj he hjj;have hi:i < n:=by rw [←g2];exact (List.getElem?_eq_some_iff.1 he).1
   rw [g4,List.getElem?_take,List.getElem?_drop] at hat;have hlt:i * es+jj < n * es:=by have:(i+1) * es≤n * es:=Nat.mul_le_mul_right _ hi;rw [Nat.add_mul,Nat.one_mul] at this;omega
   rw [if_pos hlt,hx,←Nat.add_assoc] at hat;exact (hdp.2 _ a u hat hu).mono fun k b hk ho=>⟨hk,fun h=>ho (hOs k h)⟩
  ·simp only [List.length_eq_zero_iff] at g2;subst g2;exact .d .nil
 have hgv:∀ {a b:AV} {u:Value},Gv j aA cs a b→AR E.ρ s.hp.get (E.O st.hp) a u→AR (cR j E.ρ) s.hp.get (({E with ρ:=cR j E.ρ}:Env).O (st.hp.set j .gone)) b u:=by
  intro a b u hg h
  cases hg with
  | same hn=>exact h.gS hOs hn
  | ptr=>exact hpt h
  | row es g1 g2 g3 g4 g5=>exact hrow es g1 g2 g3 g4 g5 h
  | bX=>exact .bX
 refine ⟨{E with ρ:=cR j E.ρ},⟨⟨hr.wf,fun i b v hi hv=>?_,fun i i' v v' k h1 h2=>hr.inj i i' v v' k (hdr h1).2 (hdr h2).2,fun i v k hk=>hr.rn i v k (hdr hk).2,fun i b v w h1 h2 h3=>?_,fun i v hi=>?_,fun k hk=>hr.sup k (hown k hk),fun k hk=>hr.iM k (hown k hk),hr.dx,hr.ds,hr.sn,hr.xn,fun k hk=>hr.pV k (hk.imp (hown k) id),hr.bn,hr.aE⟩,hs'.rd,fun t=>hgv (Gl hs t) (hs'.fr t)⟩,
  ⟨qq6 _,fun i v k hi hk=>?_,fun k hk=>.inl (hown k hk),fun _ h=>.inl h,fun _ h=>.inl h,fun _ h=>h,fun _ h=>.inl h,fun _ _ _ _=>rfl,Nat.min_le_left _ _⟩⟩
 ·obtain ⟨hij,hi'⟩:=hget i b v hi hv;have hbn:=hb i b hi' hij
  rcases hr.gE i b v hi' hv with ⟨k,b',q1,q2,q3⟩|⟨q1,q2⟩
  ·refine .inl ⟨k,b',by show cR j E.ρ i v=_;rw [cR,if_neg hij];exact q1,q2,?_⟩
   cases b with
   | cells cs2 es2 ver2 =>obtain ⟨cs',rfl,h⟩:=q3;exact ⟨cs',rfl,h.1,fun i a u ha hu=>(h.2 i a u ha hu).gS hOs (dP hbn i a ha)⟩
   | dU p q=>exact q3
   | map aK clock =>obtain ⟨es,rfl,h1,h2⟩:=q3;refine ⟨es,rfl,h1,fun i k v born x hx hy=>?_⟩;simp only [AB.gS,List.all_eq_true,qq7] at hbn;have:=hbn _ (List.mem_of_getElem? hx);exact ⟨(h2 i k v born x hx hy).1.gS hOs this.1,(h2 i k v born x hx hy).2.1.gS hOs this.2,(h2 i k v born x hx hy).2.2⟩
   | iter i2 since seen stepped =>obtain ⟨m,rfl,h⟩:=q3;exact ⟨m,rfl,by show cR j E.ρ i2 0=_;rw [cR,if_neg (gT hbn)];exact h⟩
   | gone=>exact q3
  ·exact .inr ⟨by show cR j E.ρ i v=_;rw [cR,if_neg hij];exact q1,q2⟩
 ·obtain ⟨hij,h1⟩:=hget i b v h1 h2;show cR j E.ρ i w=none;rw [cR,if_neg hij];exact hr.fresh i b v w h1 h2 h3
 ·show cR j E.ρ i v=none;unfold cR;split
  ·rfl
  ·exact hr.new i v (by simpa using hi)
 ·show cR j E.ρ i v=some k;rw [cR,if_neg (by omega)];exact hk
def qW (j:Nat):Nat→List AB→Bool
 | _,[]=>true
 | i,b :: l=>(Nat.beq i j || b.gS j) && qW j (i+1) l
theorem wX {j:Nat}:∀ {l:List AB} {i0:Nat},qW j i0 l=true→∀ (i:Nat) (b:AB),l[i]?=some b→i0+i ≠ j→b.gS j=true
 | [],_,_,i,b,h,_=>by cases h
 | x :: l,i0,h,i,b,hb,hne=>by
  simp only [qW,qq7,Bool.or_eq_true] at h
  cases i with
  | zero =>
   cases hb
   rcases h.1 with h|h
   ·exact absurd (Nat.eq_of_beq_eq_true h) hne
   ·exact h
  | succ i=>exact wX h.2 i b (by simpa using hb) (by omega)
theorem ah.giveUp {st:bU} {l:List (Nat × AV)} (j:Nat) {aA es:Nat} {cs:List AV} {hp:List AB} (hj:st.hp[j]?=some (.cells cs es aA)) (hn:st.fl≤j) (hd:cC cs=true) (hs:Bg j aA cs st.fr l) (hb:qW j 0 st.hp=true) (hh:st.hp.set j .gone=hp) :
  ah st ⟨aZ l,hp,st.aE,st.rd,st.fl⟩:=by
 subst hh;exact ah.Tk hj hn hd hs fun i b h hne=>wX hb i b h (by omega)
end
theorem aW.jk {j aA c:Nat}:aW (.fl (.slice none 0 0)) (.bg j aA 0 0 c):=fun _ _ _ u h=>by rw [h.dW.1];exact .si
theorem ah.jl {st:bU} (es:Nat):ah st ⟨st.fr,st.hp++[.cells [] es 0],st.aE,st.rd,st.fl⟩:=by
 refine ⟨rfl,fun E base s hs=>?_⟩;have hr:=hs.h
 have hget:∀ (i:Nat) (b:AB),(st.hp++[AB.cells [] es 0])[i]?=some b→(i < st.hp.length∧st.hp[i]?=some b)∨(i=st.hp.length∧b=.cells [] es 0):=by
  intro i b hi;by_cases hlt:i < st.hp.length
  ·rw [List.getElem?_append_left hlt] at hi;exact .inl ⟨hlt,hi⟩
  ·rw [List.getElem?_append_right (by omega)] at hi;have h0:i - st.hp.length=0:=by apply Nat.eq_zero_of_not_pos;intro hp0;rw [List.getElem?_eq_none (by simp;omega)] at hi;cases hi
   rw [h0] at hi;cases hi;exact .inr ⟨by omega,rfl⟩
 have hown:∀ k,Own E.ρ (st.hp++[.cells [] es 0]) k→Own E.ρ st.hp k:=by
  rintro k ⟨i,b,v,h1,h2,h3⟩
  rcases hget i b h1 with ⟨_,h1⟩|⟨rfl,rfl⟩
  ·exact ⟨i,b,v,h1,h2,h3⟩
  ·rw [hr.new _ v (qq6 _)] at h3;cases h3
 have hO:∀ k,E.O (st.hp++[.cells [] es 0]) k→E.O st.hp k:=fun k h=>h.imp (hown k) id;have keep:∀ k b,s.hp.get k=some b→¬ E.O st.hp k→s.hp.get k=some b∧¬ E.O (st.hp++[.cells [] es 0]) k:=fun k b hk ho=>⟨hk,fun h=>ho (hO k h)⟩;have har:∀ {v:AV} {u:Value},AR E.ρ s.hp.get (E.O st.hp) v u→AR E.ρ s.hp.get (E.O (st.hp++[.cells [] es 0])) v u:=fun h=>h.mono (fun _ _ _ h=>h) keep
 refine ⟨E,⟨⟨hr.wf,fun i b v hi hv=>?_,hr.inj,hr.rn,fun i b v w h1 h2 h3=>?_,fun i v hi=>hr.new i v (by simp at hi;omega),fun k hk=>hr.sup k (hown k hk),fun k hk=>hr.iM k (hown k hk),hr.dx,hr.ds,hr.sn,hr.xn,fun k hk=>hr.pV k (hk.imp (hown k) id),hr.bn,hr.aE⟩,hs.rd,fun t=>har (hs.fr t)⟩,
  ⟨qq6 _,fun _ _ _ _ h=>h,fun k hk=>.inl (hown k hk),fun _ h=>.inl h,fun _ h=>.inl h,fun _ h=>h,fun _ h=>.inl h,fun _ _ _ _=>rfl,Nat.min_le_left _ _⟩⟩
 ·rcases hget i b hi with ⟨_,hi'⟩|⟨rfl,rfl⟩
  ·rcases hr.gE i b v hi' hv with ⟨k,b',q1,q2,q3⟩|q
   ·refine .inl ⟨k,b',q1,q2,?_⟩
    cases b with
    | cells cs2 es2 ver2 =>obtain ⟨cs',rfl,h⟩:=q3;exact ⟨cs',rfl,h.1,fun i a u ha hu=>har (h.2 i a u ha hu)⟩
    | dU p q=>exact q3
    | map aK clock =>obtain ⟨es,rfl,h1,h2⟩:=q3;exact ⟨es,rfl,h1,fun i k v born x hx hy=>⟨har (h2 i k v born x hx hy).1,har (h2 i k v born x hx hy).2.1,(h2 i k v born x hx hy).2.2⟩⟩
    | iter i2 since seen stepped=>exact q3
    | gone=>exact q3
   ·exact .inr q
  ·cases hv;exact .inr ⟨hr.new _ _ (qq6 _),es,rfl⟩
 ·rcases hget i b h1 with ⟨_,h1⟩|⟨rfl,rfl⟩
  ·exact hr.fresh i b v w h1 h2 h3
  ·exact hr.new _ _ (qq6 _)
theorem q1 {σ:Type} {P:σ→Prop} {I:σ→bU} {m:σ→Nat} {K:Exit→bU→Prop} {x:σ} {s:bU} (h:K .ret s):K2 P I m K x .ret s:=h
theorem q2 {σ:Type} {P:σ→Prop} {I:σ→bU} {m:σ→Nat} {K:Exit→bU→Prop} {x:σ} {s:bU} {id:Nat} (h:K (.exit id) s):K2 P I m K x (.exit id) s:=h
theorem ah.Qw {st:bU} (j:Nat) {es aA:Nat} {cs ds:List AV} {hp:List AB} (hj:st.hp[j]?=some (.cells cs es aA)) (hs:cm cs ds) (hh:st.hp.set j (.cells ds es aA)=hp):ah st ⟨st.fr,hp,st.aE,st.rd,st.fl⟩:=by
 subst hh;refine ⟨rfl,fun E base s hs'=>?_⟩;have hr:=hs'.h;have hlt:j < st.hp.length:=(List.getElem?_eq_some_iff.1 hj).1
 have hget:∀ (i:Nat) (b:AB),(st.hp.set j (.cells ds es aA))[i]?=some b→(i ≠ j∧st.hp[i]?=some b)∨(i=j∧b=.cells ds es aA):=by
  intro i b hi;by_cases he:i=j
  ·subst he;rw [List.getElem?_set_self hlt] at hi;cases hi;exact .inr ⟨rfl,rfl⟩
  ·rw [List.getElem?_set_ne (Ne.symm he)] at hi;exact .inl ⟨he,hi⟩
 have hown:∀ k,Own E.ρ (st.hp.set j (.cells ds es aA)) k→Own E.ρ st.hp k:=by
  rintro k ⟨i,b,v,h1,h2,h3⟩
  rcases hget i b h1 with ⟨_,h1⟩|⟨rfl,rfl⟩
  ·exact ⟨i,b,v,h1,h2,h3⟩
  ·cases h2;exact ⟨i,_,_,hj,rfl,h3⟩
 have hO:∀ k,E.O (st.hp.set j (.cells ds es aA)) k→E.O st.hp k:=fun k h=>h.imp (hown k) id;have keep:∀ k b,s.hp.get k=some b→¬ E.O st.hp k→s.hp.get k=some b∧¬ E.O (st.hp.set j (.cells ds es aA)) k:=fun k b hk ho=>⟨hk,fun h=>ho (hO k h)⟩;have har:∀ {v:AV} {u:Value},AR E.ρ s.hp.get (E.O st.hp) v u→AR E.ρ s.hp.get (E.O (st.hp.set j (.cells ds es aA))) v u:=fun h=>h.mono (fun _ _ _ h=>h) keep
 refine ⟨E,⟨⟨hr.wf,fun i b v hi hv=>?_,hr.inj,hr.rn,fun i b v w h1 h2 h3=>?_,fun i v hi=>hr.new i v (by simpa using hi),fun k hk=>hr.sup k (hown k hk),fun k hk=>hr.iM k (hown k hk),hr.dx,hr.ds,hr.sn,hr.xn,fun k hk=>hr.pV k (hk.imp (hown k) id),hr.bn,hr.aE⟩,hs'.rd,fun t=>har (hs'.fr t)⟩,
  ⟨qq6 _,fun _ _ _ _ h=>h,fun k hk=>.inl (hown k hk),fun _ h=>.inl h,fun _ h=>.inl h,fun _ h=>h,fun _ h=>.inl h,fun _ _ _ _=>rfl,Nat.min_le_left _ _⟩⟩
 ·rcases hget i b hi with ⟨_,hi'⟩|⟨rfl,rfl⟩
  ·rcases hr.gE i b v hi' hv with ⟨k,b',q1,q2,q3⟩|q
   ·refine .inl ⟨k,b',q1,q2,?_⟩
    cases b with
    | cells cs2 es2 ver2 =>obtain ⟨cs',rfl,h⟩:=q3;exact ⟨cs',rfl,h.1,fun i a u ha hu=>har (h.2 i a u ha hu)⟩
    | dU p q=>exact q3
    | map aK clock =>obtain ⟨es,rfl,h1,h2⟩:=q3;exact ⟨es,rfl,h1,fun i k v born x hx hy=>⟨har (h2 i k v born x hx hy).1,har (h2 i k v born x hx hy).2.1,(h2 i k v born x hx hy).2.2⟩⟩
    | iter i2 since seen stepped=>exact q3
    | gone=>exact q3
   ·exact .inr q
  ·cases hv
   rcases hr.gE i _ aA hj rfl with ⟨k,b',q1,q2,q3⟩|⟨q1,es',q2⟩
   ·refine .inl ⟨k,b',q1,q2,?_⟩;obtain ⟨cs',rfl,h⟩:=q3;have h':=cm.BJ hs h;exact ⟨cs',rfl,h'.1,fun i a u ha hu=>har (h'.2 i a u ha hu)⟩
   ·cases q2
    cases ds with
    | nil=>exact .inr ⟨q1,_,rfl⟩
    | cons a l=>exact hs.elim
 ·rcases hget i b h1 with ⟨_,h1⟩|⟨rfl,rfl⟩
  ·exact hr.fresh i b v w h1 h2 h3
  ·cases h2;exact hr.fresh i _ _ w hj rfl h3
theorem C2 {α:Type} {l:List α} {j:Nat} {a:α} (h:l[j]?=some a):l.set j a=l:=by
 apply List.ext_getElem?;intro i;rw [List.getElem?_set];split
 ·rename_i hij;subst hij;rw [h];split
  ·rfl
  ·rename_i hn;exact absurd (List.getElem?_eq_some_iff.1 h).1 hn
 ·rfl
theorem M0 {hp:List AB} {es bs:Nat} {x:AV} {els:List (List AV)} {j aA n c:Nat} {cs:List AV} {K:AV→List AB→Prop} (hx:CO hp es x els) (h1:els.flatten.all AV.one=true) (hj:hp[j]?=some (.cells cs es aA)) (hl:cs.length=n * es) (hc:c=n∨c=n+1)
  (hb:(n+els.length) * bs≤140737488355328∧n+els.length≤9223372036854775807) (hk:∀ v c',(c'=n+els.length∨c'=n+els.length+1)→K (.bg j v 0 (n+els.length) c') (hp.set j (.cells (cs++els.flatten) es v))) :
  ∃ els,CO hp es x els∧els.flatten.all AV.one=true∧∃ cs,hp[j]?=some (.cells cs es aA)∧cs.length=n * es∧(c=n∨c=n+1)∧((n+els.length) * bs≤140737488355328∧n+els.length≤9223372036854775807)∧(els=[]→K (.bg j aA 0 n c) hp) ∧
   (els ≠ []→K (.bg j (aA+1) 0 (n+els.length) (n+els.length+1)) (hp.set j (.cells (cs++els.flatten) es (aA+1)))):=by
 refine ⟨els,hx,h1,cs,hj,hl,hc,hb,fun he=>?_,fun _=>hk _ _ (.inr rfl)⟩;subst he;have h2:=hk aA c (by simpa using hc);rw [List.flatten_nil,List.append_nil,C2 hj] at h2;exact h2
theorem l5 {T:bJ} {own:Bool} {fr:Nat→AV} {hp:List AB} {K:AV→List AB→Prop} {s x:Operand} {t u e:TypeId} {a1 a2 a3 a4 a5 a6} {j aA n c:Nat} {els:List (List AV)} {f:Bool} {cs:List AV} {inf:rB} (hs:aN fr s=.bg j aA 0 n c) (hx:aN fr x=.sl els f)
  (hu:T.ty.get u=some ⟨.slice e,a1,a2,a3,a4,a5,a6⟩) (hi:elem? T t=some inf) (hz:bD inf=true) (hel:∀ el ∈ els,el.length=inf.size) (h1:els.flatten.all AV.one=true) (hj:hp[j]?=some (.cells cs inf.size aA)) (hl:cs.length=n * inf.size) (hc:c=n∨c=n+1)
  (hb:(n+els.length) * inf.bytes≤140737488355328∧n+els.length≤9223372036854775807) (hk:∀ v c',(c'=n+els.length∨c'=n+els.length+1)→K (.bg j v 0 (n+els.length) c') (hp.set j (.cells (cs++els.flatten) inf.size v))) :
  RM.wpOp T own (.call ⟨.builtin .append,[s,x].toArray,[t,u].toArray⟩) fr hp K:=by
 show force (aN fr s) fun a=>force (aN fr x) fun b=>gA T own .append [a,b] [t,u] hp K;rw [hs,hx];show (match T.ty.get u with|some ⟨.slice _,_,_,_,_,_,_⟩=>gk T own t (.bg j aA 0 n c) (.sl els f) hp K|_=>False);rw [hu];show gk T own t (.bg j aA 0 n c) (.sl els f) hp K;unfold gk;rw [hi];exact ⟨hz,M0 (hp:=hp) (K:=K) ⟨hel,rfl⟩ h1 hj hl hc hb hk⟩
section
variable {T : bJ} {tab : List XE} {one : Bool} {base : Nat} {E : Env} {hp : List AB} {aE : bA} {H : Hp} {ρ : Nat → Nat → Option Nat} {g : aH} {O O' : Nat → Prop}
def dL (a b:Nat) (ρ:Nat→Nat→Option Nat):Nat→Nat→Option Nat:=fun i v=>if i=a then ρ b v else if i=b then none else ρ i v
theorem AR.move {a b:Nat} (hO:∀ k,O' k→O k) {v:AV} {u:Value} (h:AR ρ g O v u):v.gS a=true→v.gS b=true→AR (dL a b ρ) g O' v u:=by
 have hm:∀ {i w:Nat},i ≠ a→i ≠ b→dL a b ρ i w=ρ i w:=fun {i w} h1 h2=>by unfold dL;rw [if_neg h1,if_neg h2]
 induction h with
 | d h=>intro _ _;exact .d (h.mono fun k b hk ho=>⟨hk,fun hx=>ho (hO k hx)⟩)
 | bX=>intro _ _;exact .bX
 | ptr h=>intro h1 h2;exact .ptr (by rw [hm (gT h1) (gT h2)];exact h)
 | bg h=>intro h1 h2;exact .bg (by rw [hm (gT h1) (gT h2)];exact h)
 | si=>intro _ _;exact .si
 | om h=>intro h1 h2;exact .om (by rw [hm (gT h1) (gT h2)];exact h)
 | fn ha hb h1 h2 ih1 ih2 =>intro n1 n2;simp only [AV.gS,qq7] at n1 n2;exact .fn ha hb (fun i x u hx hu=>ih1 i x u hx hu (dP n1.1 i x hx) (dP n2.1 i x hx)) (fun i x u hx hu=>ih2 i x u hx hu (dP n1.2 i x hx) (dP n2.2 i x hx))
 | ag ha h1 ih=>intro n1 n2;simp only [AV.gS] at n1 n2;exact .ag ha (fun i x u hx hu=>ih i x u hx hu (dP n1 i x hx) (dP n2 i x hx))
 | tp ha h1 ih=>intro n1 n2;simp only [AV.gS] at n1 n2;exact .tp ha (fun i x u hx hu=>ih i x u hx hu (dP n1 i x hx) (dP n2 i x hx))
inductive Mv (a b:Nat):AV→AV→Prop
 | same {v:AV}:v.gS a=true→v.gS b=true→Mv a b v v
 | ptr {aA o:Nat}:Mv a b (.ptr b aA o) (.ptr a aA o)
 | bg {aA o n c:Nat}:Mv a b (.bg b aA o n c) (.bg a aA o n c)
 | bX {v:AV}:Mv a b v .bX
def Bh (a b:Nat) (fr:Nat→AV):List (Nat × AV)→Prop
 | []=>True
 | (i,v) :: l=>Mv a b (fr i) v∧Bh a b fr l
theorem Gn {a b:Nat} {fr:Nat→AV}:∀ {l:List (Nat × AV)},Bh a b fr l→∀ t,Mv a b (fr t) (aZ l t)
 | [],_,t=>.bX
 | (i,v) :: l,h,t=>by
  unfold aZ;rw [Tr.beq_eq];by_cases hti:t=i
  ·rw [decide_eq_true hti,hti];exact h.1
  ·rw [decide_eq_false hti];exact Gn h.2 t
theorem ah.move {st:bU} {l:List (Nat × AV)} (a b:Nat) {x y:AB} (hab:a ≠ b) (hja:st.hp[a]?=some y) (hjb:st.hp[b]?=some x) (hn:st.fl≤a) (hn2:st.fl≤b) (hs:Bh a b st.fr l)
  (hb:∀ (i:Nat) (z:AB),st.hp[i]?=some z→i ≠ a→z.gS a=true∧z.gS b=true) :
  ah st ⟨aZ l,(st.hp.set a x).set b .gone,st.aE,st.rd,st.fl⟩:=by
 have hla:a < st.hp.length:=(List.getElem?_eq_some_iff.1 hja).1;have hlb:b < st.hp.length:=(List.getElem?_eq_some_iff.1 hjb).1;refine ⟨rfl,fun E base s hs'=>?_⟩;have hr:=hs'.h
 have hget:∀ (i:Nat) (z:AB) (aA:Nat),((st.hp.set a x).set b .gone)[i]?=some z→z.ver?=some aA→(i=a∧z=x)∨(i ≠ a∧i ≠ b∧st.hp[i]?=some z):=by
  intro i z aA hi hv;by_cases hib:i=b
  ·subst hib;rw [List.getElem?_set_self (by rw [List.length_set];exact hlb)] at hi;cases hi;cases hv
  ·rw [List.getElem?_set_ne (Ne.symm hib)] at hi;by_cases hia:i=a
   ·subst hia;rw [List.getElem?_set_self hla] at hi;cases hi;exact .inl ⟨rfl,rfl⟩
   ·rw [List.getElem?_set_ne (Ne.symm hia)] at hi;exact .inr ⟨hia,hib,hi⟩
 have hma:∀ {v:Nat},dL a b E.ρ a v=E.ρ b v:=fun {v}=>by unfold dL;rw [if_pos rfl]
 have hmo:∀ {i v:Nat},i ≠ a→i ≠ b→dL a b E.ρ i v=E.ρ i v:=fun {i v} h1 h2=>by unfold dL;rw [if_neg h1,if_neg h2]
 have hmi:∀ {i v k:Nat},dL a b E.ρ i v=some k→(i=a∧E.ρ b v=some k)∨(i ≠ a∧i ≠ b∧E.ρ i v=some k):=by
  intro i v k h;unfold dL at h;split at h
  ·rename_i h1;exact .inl ⟨h1,h⟩
  ·split at h
   ·cases h
   ·rename_i h1 h2;exact .inr ⟨h1,h2,h⟩
 have hown:∀ k,Own (dL a b E.ρ) ((st.hp.set a x).set b .gone) k→Own E.ρ st.hp k:=by
  rintro k ⟨i,z,v,h1,h2,h3⟩
  rcases hget i z v h1 h2 with ⟨rfl,rfl⟩|⟨n1,n2,h4⟩
  ·rw [hma] at h3;exact ⟨b,_,v,hjb,h2,h3⟩
  ·rw [hmo n1 n2] at h3;exact ⟨i,z,v,h4,h2,h3⟩
 have hOs:∀ k,({E with ρ:=dL a b E.ρ}:Env).O ((st.hp.set a x).set b .gone) k→E.O st.hp k:=fun k h=>h.imp (hown k) id
 have hmv:∀ {v w:AV} {u:Value},Mv a b v w→AR E.ρ s.hp.get (E.O st.hp) v u→AR (dL a b E.ρ) s.hp.get (({E with ρ:=dL a b E.ρ}:Env).O ((st.hp.set a x).set b .gone)) w u:=by
  intro v w u hm h
  cases hm with
  | same n1 n2=>exact h.move hOs n1 n2
  | ptr =>obtain ⟨k,hk,rfl⟩:=h.dJ;exact .ptr (by rw [hma];exact hk)
  | bg =>
   rcases h.fI with ⟨k,hk,rfl⟩|⟨rfl,rfl,rfl⟩
   ·exact .bg (by rw [hma];exact hk)
   ·exact .si
  | bX=>exact .bX
 have hbr:∀ (z:AB) (z':bu),z.gS a=true→z.gS b=true→BR E.ρ s.hp.get (E.O st.hp) z z'→BR (dL a b E.ρ) s.hp.get (({E with ρ:=dL a b E.ρ}:Env).O ((st.hp.set a x).set b .gone)) z z':=by
  intro z z' n1 n2 q3
  cases z with
  | cells cs2 es2 ver2 =>obtain ⟨cs',rfl,h⟩:=q3;exact ⟨cs',rfl,h.1,fun i v u ha hu=>(h.2 i v u ha hu).move hOs (dP n1 i v ha) (dP n2 i v ha)⟩
  | dU p q=>exact q3
  | map aK clock =>obtain ⟨es,rfl,h1,h2⟩:=q3;refine ⟨es,rfl,h1,fun i k v born e hx hy=>?_⟩;simp only [AB.gS,List.all_eq_true,qq7] at n1 n2;have m1:=n1 _ (List.mem_of_getElem? hx);have m2:=n2 _ (List.mem_of_getElem? hx);exact ⟨(h2 i k v born e hx hy).1.move hOs m1.1 m2.1,(h2 i k v born e hx hy).2.1.move hOs m1.2 m2.2,(h2 i k v born e hx hy).2.2⟩
  | iter i2 since seen stepped =>obtain ⟨m,rfl,h⟩:=q3;exact ⟨m,rfl,by show dL a b E.ρ i2 0=_;rw [hmo (gT n1) (gT n2)];exact h⟩
  | gone=>exact q3
 refine ⟨{E with ρ:=dL a b E.ρ},⟨⟨hr.wf,fun i z v hi hv=>?_,fun i i' v v' k h1 h2=>?_,fun i v k hk=>?_,fun i z v w h1 h2 h3=>?_,fun i v hi=>?_,fun k hk=>hr.sup k (hown k hk),fun k hk=>hr.iM k (hown k hk),hr.dx,hr.ds,hr.sn,hr.xn,fun k hk=>hr.pV k (hk.imp (hown k) id),hr.bn,hr.aE⟩,hs'.rd,fun t=>hmv (Gn hs t) (hs'.fr t)⟩,
  ⟨qq6 _,fun i v k hi hk=>?_,fun k hk=>.inl (hown k hk),fun _ h=>.inl h,fun _ h=>.inl h,fun _ h=>h,fun _ h=>.inl h,fun _ _ _ _=>rfl,Nat.min_le_left _ _⟩⟩
 ·rcases hget i z v hi hv with ⟨rfl,rfl⟩|⟨n1,n2,h4⟩
  ·have hz:=hb b _ hjb (Ne.symm hab)
   rcases hr.gE b _ v hjb hv with ⟨k,b',q1,q2,q3⟩|⟨q1,q2⟩
   ·exact .inl ⟨k,b',by show dL _ b E.ρ _ v=_;rw [hma];exact q1,q2,hbr _ _ hz.1 hz.2 q3⟩
   ·exact .inr ⟨by show dL _ b E.ρ _ v=_;rw [hma];exact q1,q2⟩
  ·have hz:=hb i z h4 n1
   rcases hr.gE i z v h4 hv with ⟨k,b',q1,q2,q3⟩|⟨q1,q2⟩
   ·exact .inl ⟨k,b',by show dL a b E.ρ i v=_;rw [hmo n1 n2];exact q1,q2,hbr _ _ hz.1 hz.2 q3⟩
   ·exact .inr ⟨by show dL a b E.ρ i v=_;rw [hmo n1 n2];exact q1,q2⟩
 ·rcases hmi h1 with ⟨e1,p1⟩|⟨n1,n2,p1⟩
  ·rcases hmi h2 with ⟨e2,p2⟩|⟨m1,m2,p2⟩
   ·rw [e1,e2]
   ·exact absurd (hr.inj b i' v v' k p1 p2).symm m2
  ·rcases hmi h2 with ⟨e2,p2⟩|⟨m1,m2,p2⟩
   ·exact absurd (hr.inj i b v v' k p1 p2) n2
   ·exact hr.inj i i' v v' k p1 p2
 ·rcases hmi hk with ⟨rfl,h⟩|⟨_,_,h⟩
  ·exact hr.rn b v k h
  ·exact hr.rn i v k h
 ·rcases hget i z v h1 h2 with ⟨rfl,rfl⟩|⟨n1,n2,h4⟩
  ·show dL _ b E.ρ _ w=none;rw [hma];exact hr.fresh b _ v w hjb h2 h3
  ·show dL a b E.ρ i w=none;rw [hmo n1 n2];exact hr.fresh i z v w h4 h2 h3
 ·show dL a b E.ρ i v=none;have hi:st.hp.length≤i:=by simpa using hi
  rw [hmo (by omega) (by omega)];exact hr.new i v hi
 ·show dL a b E.ρ i v=some k;rw [hmo (by omega) (by omega)];exact hk
def nB (a b:Nat):Nat→List AB→Bool
 | _,[]=>true
 | i,z :: l=>(Nat.beq i a || (z.gS a && z.gS b)) && nB a b (i+1) l
theorem uJ {a b:Nat}:∀ {l:List AB} {i0:Nat},nB a b i0 l=true→∀ (i:Nat) (z:AB),l[i]?=some z→i0+i ≠ a→z.gS a=true∧z.gS b=true
 | [],_,_,i,z,h,_=>by cases h
 | x :: l,i0,h,i,z,hb,hne=>by
  simp only [nB,qq7,Bool.or_eq_true] at h
  cases i with
  | zero =>
   cases hb
   rcases h.1 with h|h
   ·exact absurd (Nat.eq_of_beq_eq_true h) hne
   ·exact h
  | succ i=>exact uJ h.2 i z (by simpa using hb) (by omega)
theorem ah.ES {st:bU} {l:List (Nat × AV)} (a b:Nat) {x y:AB} {hp:List AB} (hab:a ≠ b) (hja:st.hp[a]?=some y) (hjb:st.hp[b]?=some x) (hn:st.fl≤a) (hn2:st.fl≤b) (hs:Bh a b st.fr l) (hb:nB a b 0 st.hp=true) (hh:(st.hp.set a x).set b .gone=hp) :
  ah st ⟨aZ l,hp,st.aE,st.rd,st.fl⟩:=by
 subst hh;exact ah.move a b hab hja hjb hn hn2 hs fun i z h hne=>uJ hb i z h (by omega)
def Tl (T:bJ) (rs:List ResultVar) (Q:AV→List AB→bA→Prop) (e:Exit) (s:bU):Prop :=
 match e with
 | .normal|.ret=>qC T s rs fun as=>Q (CS as) s.hp s.aE
 | _=>False
theorem M4 {vs:List AV} {us:List Value} (h:fP ρ g O vs us):AR ρ g O (CS vs) (dn us):=by
 match vs,us,h with
 | [],[],_=>exact .tp rfl (fun i x u hx=>by cases hx)
 | [v],[u],h=>exact h.2 0 v u rfl rfl
 | a :: b :: l,c :: d :: m,h=>exact .tp (by simpa using h.1) (fun i x u hx hu=>h.2 i x u hx (by simpa using hu))
 | [],u :: us,h=>exact absurd h.1 (by simp)
 | v :: vs,[],h=>exact absurd h.1 (by simp)
 | [v],a :: b :: l,h=>exact absurd h.1 (by simp)
 | a :: b :: l,[v],h=>exact absurd h.1 (by simp)
theorem az.body {f:FuncId} {fn:Func} {c:Code} {first caps args:List AV} {Q:AV→List AB→bA→Prop} (hf:T.fn.get f=some fn) (hb:fn.body=some c) (hn:noEntry tab f=true)
  (hw:av T tab one c ⟨CT (first++args++caps),hp,aE,false,hp.length⟩ (Tl T fn.results.toList Q)):az T tab one (.fn f first caps) args hp aE Q:=by
 intro E base H u us hr hF ha
 obtain ⟨fs,cs,rfl,h1,h2⟩:∃ fs cs,u=.func (.func f) fs cs∧fP E.ρ H.get (E.O hp) first fs.toList∧fP E.ρ H.get (E.O hp) caps cs.toList:=by
  cases hF with
  | d h=>cases h with
   | fn ha hb h1 h2=>exact ⟨_,_,rfl,⟨ha,fun i x u hx hu=>.d (h1 i x u hx hu)⟩,⟨hb,fun i x u hx hu=>.d (h2 i x u hx hu)⟩⟩
  | fn ha hb h1 h2=>exact ⟨_,_,rfl,⟨ha,h1⟩,⟨hb,h2⟩⟩
 refine ⟨.fn f (fs.toList++us++cs.toList),rfl,?_⟩;have hargs:=(h1.append ha).append h2;obtain ⟨m,L,h1,h2,h3⟩:=hw E base ⟨setArgs .leaf 0 (fs.toList++us++cs.toList),H,false⟩ ⟨hr,rfl,wT hargs⟩
 obtain ⟨m',M,hm,q1,q2,q3⟩:=fq (one:=one) (L:=L) (f:=fun _ (p:Exit × St)=>fG T fn.results.toList p)
  (P:=fun r=>∃ w H',r=.ret w H'∧∃ E' a hp' amb',Q a hp' amb'∧aR E' base hp' amb' H'∧AR E'.ρ H'.get (E'.O hp') a w∧j9 hp.length base E hp H E' hp' H')
  (fun _ _ _ _ _ h=>h) m h2 (fun p hp'=>by
   obtain ⟨E',st',k1,k0,k2,k3⟩:=h3 p hp';obtain ⟨e,s'⟩:=p
   have done:(e=.normal∨e=.ret)→(qC T st' fn.results.toList fun as=>Q (CS as) st'.hp st'.aE)→∃ (_:Nat) (M:List gC),fG T fn.results.toList (e,s')=some M ∧
     qS one M fun r=>∃ w H',r=.ret w H'∧∃ E' a hp' amb',Q a hp' amb'∧aR E' base hp' amb' H'∧AR E'.ρ H'.get (E'.O hp') a w∧j9 hp.length base E hp H E' hp' H':=by
    intro he hr;obtain ⟨ws,as,r1,r2,r4⟩:=lI k2 hr;refine ⟨0,[.ret (dn ws) s'.hp],?_,.single ⟨_,_,rfl,E',CS as,st'.hp,st'.aE,r2,k2.h,M4 r4,k3⟩⟩;unfold fG
    rcases he with rfl|rfl <;> simp only [r1,Option.map_some]
   cases e with
   | normal=>exact done (.inl rfl) k1
   | ret=>exact done (.inr rfl) k1
   | _=>exact k1.elim)
 refine ⟨m'+1,M,?_,q2,q3⟩;show RX T tab (m'+1) (.call f _ H)=_;rw [AZ,pY _ _ hn];simp only;rw [kC,hf];simp only [hb];rw [dO (dj hm) _ _ _ h1];exact q1
end
section
variable {T : bJ} {tab : List XE} {one : Bool}
end
section
variable {T : bJ} {tab : List XE} {one : Bool}
def wY (a b:AV):Prop:=∀ (g:aH) (O:Nat→Prop) (u:Value),DR g O a u→DR g O b u
theorem wY.refl (a:AV):wY a a:=fun _ _ _ h=>h
theorem wY.nil (b:Bool):wY (.fl (.slice none 0 0)) (.sl [] b):=fun _ _ u h=>by
 cases h with
 | fl=>exact .nil
theorem wY.full {els:List (List AV)}:wY (.sl els true) (.sl els false):=fun _ _ u h=>by
 cases h with
 | nil=>exact .nil
 | sl q1 q2 q3 q4 q5 q6 q7=>exact .sl q1 q2 q3 q4 q5 q6 (fun h=>Bool.noConfusion h)
def wZ:List AV→List AV→Prop
 | [],[]=>True
 | a :: l,b :: m=>wY a b∧wZ l m
 | _,_=>False
theorem wZ.Ro {g:aH} {O:Nat→Prop}:∀ {as bs:List AV} {us:List Value},wZ as bs→qA g O as us→qA g O bs us
 | [],[],us,_,h=>h
 | a :: l,b :: m,[],_,h=>absurd h.1 (by simp)
 | a :: l,b :: m,u :: us,hs,h=>by
  have ih:=wZ.Ro (g:=g) (O:=O) (us:=us) hs.2 ⟨by simpa using h.1,fun i a v x y=>h.2 (i+1) a v (by simpa using x) (by simpa using y)⟩;refine ⟨by simpa using ih.1,fun i x v hx hv=>?_⟩
  cases i with
  | zero=>cases hx;cases hv;exact hs.1 _ _ _ (h.2 0 a u rfl rfl)
  | succ i=>exact ih.2 i x v (by simpa using hx) (by simpa using hv)
 | [],_ :: _,_,hs,_=>hs.elim
 | _ :: _,[],_,hs,_=>hs.elim
theorem aj.soft {F:AV} {args args':List AV} {v:AV} (h:aj T tab one F args v) (hs:wZ args' args):aj T tab one F args' v :=
 ⟨h.1,fun X H u us hw hX hF ha=>h.2 X H u us hw hX hF (hs.Ro ha)⟩
end
section
variable {T : bJ} {tab : List XE} {one : Bool} {base : Nat} {E : Env} {hp : List AB} {aE : bA} {H : Hp}
theorem uK (a:Nat) (l:List Nat):within a a l=false:=by unfold within;rw [List.any_eq_false];intro k _ h;rw [qq7] at h;have h1:=Nat.le_of_ble_eq_true h.1;have h2:Nat.ble (k+1) a=true:=h.2;have h2:=Nat.le_of_ble_eq_true h2;omega
theorem dX {B S:Bool} {i j n:Nat} {r r' w:List Nat} (h:w=[]∨r=[]):(!conflict ⟨i,r,[],false,n,n⟩ ⟨j,r',w,false,n,n⟩ || B || S)=true:=by
 have:conflict ⟨i,r,[],false,n,n⟩ ⟨j,r',w,false,n,n⟩=false:=by
  unfold conflict
  rcases h with rfl|rfl
  ·simp [uK,meets]
  ·simp [uK,meets]
 rw [this];rfl
theorem kN {B S C:Bool} (h:B=true):(!C || B || S)=true:=by rw [h,Bool.or_true,Bool.true_or]
theorem M5 {B S C:Bool} (h:S=true):(!C || B || S)=true:=by rw [h,Bool.or_true]
theorem nC {rec:qI→Option (List gC)} {o:Op} {fr:Nat→AV} {tm:Tr Value} {i:Nat} {rd:Bool} {r w:List Nat} {d:Option Tmp} {K:AV→List AB→Prop} (hr:aR E base hp aE H) (hf:iF E.ρ H.get (E.O hp) fr tm) (hk:cP o=.plain) (hn:news? o=false) (ht:iA o (aF tm)=some (r,w))
  (hw:wpOp T false o fr hp K):∃ u e E' v hp',aP T rec o i ⟨tm,H,rd⟩=some (u,H.app e,⟨i,r,w,false,H.n,H.n⟩)∧K v hp'∧aR E' base hp' aE (H.app e)∧Ext base E hp H E' hp' (H.app e)∧AR E'.ρ (H.app e).get (E'.O hp') v u ∧
   iF E'.ρ (H.app e).get (E'.O hp') (kY fr d v) (cD tm d u)∧(H.app e).n=H.n∧gX T H.n o (aF tm) H.get=some (u,e):=by
 obtain ⟨u,e,E',v,hp',r1,r2,r3,r4,r5⟩:=hJ hr hf hw;have hnn:(H.app e).n=H.n:=mF (mE r1 hn);refine ⟨u,e,E',v,hp',?_,r2,r3,r4,r5,lH (fun t=>r4.ar hr.wf (hf t)) r5 d,hnn,r1⟩;unfold aP;simp only [hk,ht,r1,hnn]
def Lf (b:List Nat):Bool:=(b.getD 4 0).testBit 0 && ((b.getD 6 0).testBit 0 && ((b.getD 4 0).testBit 1 && ((b.getD 6 0).testBit 1 && ((b.getD 6 0).testBit 2 && ((b.getD 5 0).testBit 4 && (b.getD 6 0).testBit 4)))))
theorem Ht {mt:TypeId} {m k:Operand} {fr:Nat→AV} {K:AV→List AB→Prop} {own:Bool} (hw:wpOp T own (.lookup mt m k false) fr hp K):∃ j,aN fr m=.om j:=by
 have hw:mC T mt (aN fr m) (aN fr k) false hp K:=hw;unfold mC at hw;split at hw
 ·rename_i j h;exact ⟨j,h⟩
 ·exact hw.elim
end
theorem M6 {w m n:Nat} (hm:m < 2 ^ w) (hn:n < 2 ^ w):(BitVec.ofInt w (m:Int) ||| BitVec.ofInt w (n:Int)).toNat=m ||| n:=by rw [BitVec.toNat_or,BitVec.ofInt_natCast,BitVec.ofInt_natCast,BitVec.toNat_ofNat,BitVec.toNat_ofNat,Nat.mod_eq_of_lt hm,Nat.mod_eq_of_lt hn]
section
variable {T : bJ} {tab : List XE} {one : Bool} {fl base : Nat} {E E' E2 : Env} {hp hp' hp2 : List AB} {aE amb' : bA} {H H' H2 : Hp} {ρ ρ2 : Nat → Nat → Option Nat} {g g2 : aH} {O O2 : Nat → Prop}
end
section
variable {T : bJ} {tab : List XE} {one : Bool} {base : Nat} {E : Env} {hp : List AB} {aE : bA} {H : Hp}
inductive Fq (hp:List AB):AV→AV→Prop
 | fz {a v:AV}:Fz hp a v→Fq hp a v
 | ptr {j aA o es:Nat} {cs:List AV}:hp[j]?=some (.cells cs es aA)→cC cs=true→Fq hp (.ptr j aA o) (.pt cs o)
 | fn {f:FuncId} {a b x y:List AV}:a.length=x.length→b.length=y.length→(∀ (i:Nat) (u v:AV),a[i]?=some u→x[i]?=some v→Fq hp u v)→(∀ (i:Nat) (u v:AV),b[i]?=some u→y[i]?=some v→Fq hp u v)→Fq hp (.fn f a b) (.fn f x y)
theorem AR.M7 {ρ:Nat→Nat→Option Nat} {g:aH} {O:Nat→Prop} {f:FuncId} {a b:List AV} {u:Value} (h:AR ρ g O (.fn f a b) u):∃ a' b',u=.func (.func f) a' b'∧fP ρ g O a a'.toList∧fP ρ g O b b'.toList:=by
 cases h with
 | d h=>cases h with
  | fn ha hb h1 h2=>exact ⟨_,_,rfl,⟨ha,fun i x u hx hu=>.d (h1 i x u hx hu)⟩,⟨hb,fun i x u hx hu=>.d (h2 i x u hx hu)⟩⟩
 | fn ha hb h1 h2=>exact ⟨_,_,rfl,⟨ha,h1⟩,⟨hb,h2⟩⟩
theorem Fq.dr {X:Nat→Prop} (h:aR E base hp aE H) (hX:∀ k,X k→E.X k) {r v:AV} (hf:Fq hp r v):∀ {u:Value},AR E.ρ H.get (E.O hp) r u→DR H.get X v u:=by
 have weak:∀ {v:AV} {u:Value},DR H.get (E.O hp) v u→DR H.get X v u:=fun h=>h.mono fun k b hk ho=>⟨hk,fun hx=>ho (.inr (hX k hx))⟩
 induction hf with
 | fz hz=>intro u ha;exact hz.dr h hX ha
 | ptr h1 hd =>
  rename_i j aA o es cs;intro u ha;obtain ⟨k,hk,rfl⟩:=ha.dJ;obtain ⟨cs',q1,q2⟩:=h.cells h1 hk;have hok:Own E.ρ hp k:=⟨j,_,aA,h1,rfl,hk⟩;have hnx:¬ X k:=fun hx=>h.iM k hok (hX k hx)
  have:=DR.pt (g:=H.get) (O:=X) (l:=cs) (k:=k) (d:=0) (o:=o) (cs:=cs') q1 hnx (by rw [Nat.zero_add,q2.1];exact qq6 _) (fun i a u hx hu=>by
   rw [Nat.zero_add] at hu
   exact weak ((q2.2 i a u hx hu).deep (ij hd i a hx)))
  rw [Nat.zero_add] at this;exact this
 | @fn f a b x y h1 h2 _ _ ih1 ih2 =>
  intro u ha;obtain ⟨a',b',rfl,p1,p2⟩:=ha.M7;refine .fn (by rw [←h1];exact p1.1) (by rw [←h2];exact p2.1) (fun i v w hv hw=>?_) (fun i v w hv hw=>?_)
  ·have hi:i < a.length:=by rw [h1];exact (List.getElem?_eq_some_iff.1 hv).1
   have hai:a[i]?=some a[i]:=List.getElem?_eq_getElem hi;exact ih1 i _ v hai hv (p1.2 i _ w hai hw)
  ·have hi:i < b.length:=by rw [h2];exact (List.getElem?_eq_some_iff.1 hv).1
   have hai:b[i]?=some b[i]:=List.getElem?_eq_getElem hi;exact ih2 i _ v hai hv (p2.2 i _ w hai hw)
def iL (hp:List AB):List AV→List AV→Prop
 | [],[]=>True
 | r :: rs,v :: vs=>Fq hp r v∧iL hp rs vs
 | _,_=>False
theorem iL.dr {X:Nat→Prop} (h:aR E base hp aE H) (hX:∀ k,X k→E.X k):∀ {rs vs:List AV} {us:List Value},iL hp rs vs→fP E.ρ H.get (E.O hp) rs us→qA H.get X vs us
 | [],[],us,_,ha=>⟨ha.1,fun i a u hx=>by cases hx⟩
 | r :: rs,v :: vs,[],_,ha=>absurd ha.1 (by simp)
 | r :: rs,v :: vs,u :: us,hf,ha=>by
  have:=iL.dr h hX hf.2 (us:=us) ⟨by simpa using ha.1,fun i a u x y=>ha.2 (i+1) a u (by simpa using x) (by simpa using y)⟩;refine ⟨by simp [this.1],fun i a w hx hw=>?_⟩
  cases i with
  | zero=>cases hx;cases hw;exact hf.1.dr h hX (ha.2 0 r u rfl rfl)
  | succ i=>exact this.2 i a w (by simpa using hx) (by simpa using hw)
 | [],_ :: _,_,hf,_=>hf.elim
 | _ :: _,[],_,hf,_=>by simp [iL] at hf
theorem iL.Rp {f:FuncId} {a b x y:List AV} (h1:iL hp a x) (h2:iL hp b y):Fq hp (.fn f a b) (.fn f x y):=by
 have key:∀ {a x:List AV},iL hp a x→a.length=x.length∧∀ (i:Nat) (u v:AV),a[i]?=some u→x[i]?=some v→Fq hp u v:=by
  intro a
  induction a with
  | nil =>
   intro x h
   cases x with
   | nil=>exact ⟨rfl,fun i u v hu=>by cases hu⟩
   | cons=>exact h.elim
  | cons r rs ih =>
   intro x h
   cases x with
   | nil=>simp [iL] at h
   | cons v vs =>
    obtain ⟨l,k⟩:=ih h.2;refine ⟨by simp [l],fun i u w hu hw=>?_⟩
    cases i with
    | zero=>cases hu;cases hw;exact h.1
    | succ i=>exact k i u w (by simpa using hu) (by simpa using hw)
 exact .fn (key h1).1 (key h2).1 (key h1).2 (key h2).2
theorem aj.zw {F F':AV} {args vs:List AV} {v:AV} (h:aj T tab one F' vs v) (hF:Fq hp F F') (hz:iL hp args vs) (hfree:fA v) {Q:AV→List AB→bA→Prop} (hq:Q v hp aE):az T tab one F args hp aE Q:=by
 intro E base H u us hr hf ha;obtain ⟨hd,h⟩:=h;obtain ⟨goal,hg,m,L,h1,h2,h3⟩:=h E.X H u us hr.wf (fun k hk=>hr.xn k hk) (hF.dr hr (fun _ h=>h) hf) (hz.dr hr (fun _ h=>h) ha);refine ⟨goal,hg,m,L,h1,h2,fun r hm=>?_⟩;obtain ⟨w,H',rfl,hn,hwf,hsame,hlo,hv⟩:=h3 r hm;have e:Ext base E hp H E hp H':=⟨hn,rfl,rfl,rfl,fun _ _ _ h=>h,fun _ h=>.inl h,fun k hk _=>hsame k hk,by have:=hr.bn;omega⟩;refine ⟨w,H',rfl,E,v,hp,aE,hq,⟨hwf,fun j x aA hj hvx=>?_,hr.inj,fun j v k hk=>Nat.lt_of_lt_of_le (hr.rn j v k hk) hn,hr.fresh,hr.new,hr.sup,hr.iM,hr.dx,hr.ds,fun k hk=>Nat.lt_of_lt_of_le (hr.sn k hk) hn,fun k hk=>Nat.lt_of_lt_of_le (hr.xn k hk) hn,hr.pV,Nat.le_trans hr.bn hn,aE.st hr.aE (fun k hk=>hsame k (hr.sn k hk)) hn⟩,.d (hfree.2 _ _ _ _ hv),e.fS⟩
 rcases hr.gE j x aA hj hvx with ⟨k,b',q1,q2,q3⟩|q
 ·exact .inl ⟨k,b',q1,by rw [hsame k (hr.wf.lt q2)];exact q2,e.br hr.wf q3⟩
 ·exact .inr q
theorem iL.nil:iL hp [] []:=trivial
theorem iL.cons {a x:AV} {as xs:List AV} (h:Fq hp a x) (k:iL hp as xs):iL hp (a :: as) (x :: xs):=⟨h,k⟩
theorem Fq.deep {v:AV} (h:v.deep=true):Fq hp v v:=.fz (.deep h)
end
section
variable {T : bJ} {tab : List XE} {one : Bool} {mu : Tmp → Bool} {dst : Option Tmp} {fr : Nat → AV} {hp : List AB} {aE : bA} {rd : Bool} {fl : Nat} {KS : bU → Prop}
theorem om {r:Operand} {name:String} {l:List Operand} {tys} {F:AV} (hF:Gd T.P (aN fr r) name=F) (h:force F fun F=>fJ (l.map (aN fr)) fun as=>az T tab one F as hp aE fun v hp' amb'=>fK dst fr v fun fr'=>KS ⟨fr',hp',amb',rd,fl⟩) :
  sB T tab one mu dst (.call ⟨.invoke r name,l.toArray,tys⟩) fr hp aE rd fl KS:=by
 subst hF;exact h
end
section
variable {T : bJ} {tab : List XE} {one : Bool} {mu : Tmp → Bool} {KE : Exit → bU → Prop} {st : bU}
theorem Hu {l:List Oper} (hd:l.any vv=false):ez l.toArray=l.length:=by
 unfold ez;have:l.findIdx? vv=none:=by rw [List.findIdx?_eq_none_iff];intro x hx;rw [List.any_eq_false] at hd;simpa using hd x hx
 simp only [this]
theorem T5 {id:Nat} {l:List Oper} (hd:l.any vv=false) (h:jK T tab mu l.toArray l 0 (fun _=>0) [] st (KE .normal)):oB T tab one mu (.region id l.toArray true) st KE:=by refine c5 (Hu hd) rfl rfl ?_;rw [List.take_length,List.drop_length];exact h
end
section
variable {T : bJ} {tab : List XE} {one : Bool} {mu : Tmp → Bool} {own : Bool} {fr : Nat → AV} {hp : List AB} {K : AV → List AB → Prop} {t : TypeId} {und : TypeDesc} {s by' : Nat} {z : Option Value} {agg : Bool} {cz : List (Nat × Nat)} {cM : Nat}
theorem T6 {a:Operand} {cs:List AV} {o:Nat} (ha:aN fr a=.pt cs o) (ht:T.ty.get t=some ⟨und,s,by',z,true,cz,cM⟩) (hl:Nat.ble (o+s) cs.length=true) (h:K (.ag ((cs.drop o).take s)) hp):wpOp T own (.load t a) fr hp K:=by show fo T t (aN fr a) hp K;unfold fo;simp only [ha,ht];exact ⟨Nat.le_of_ble_eq_true hl,h⟩
theorem T7 {a:Operand} {cs:List AV} {o:Nat} {v:AV} (ha:aN fr a=.pt cs o) (ht:T.ty.get t=some ⟨und,s,by',z,false,cz,cM⟩) (hv:cs[o]?=some v) (h:K v hp):wpOp T own (.load t a) fr hp K:=by show fo T t (aN fr a) hp K;unfold fo;simp only [ha,ht];exact ⟨v,hv,h⟩
theorem T8 {a:Operand} {j aA o es:Nat} {cs:List AV} (ha:aN fr a=.ptr j aA o) (ht:T.ty.get t=some ⟨und,s,by',z,true,cz,cM⟩) (hj:hp[j]?=some (.cells cs es aA)) (hl:Nat.ble (o+s) cs.length=true) (h:K (.ag ((cs.drop o).take s)) hp):wpOp T own (.load t a) fr hp K:=by show fo T t (aN fr a) hp K;unfold fo;simp only [ha,ht];exact ⟨cs,es,hj,Nat.le_of_ble_eq_true hl,h⟩
theorem MA {a:Operand} {j aA o es:Nat} {cs:List AV} {v:AV} (ha:aN fr a=.ptr j aA o) (ht:T.ty.get t=some ⟨und,s,by',z,false,cz,cM⟩) (hj:hp[j]?=some (.cells cs es aA)) (hv:cs[o]?=some v) (h:K v hp):wpOp T own (.load t a) fr hp K:=by show fo T t (aN fr a) hp K;unfold fo;simp only [ha,ht];exact ⟨cs,es,hj,v,hv,h⟩
theorem T9 {a:Operand} {i:Nat} {cs:List AV} {o off sz:Nat} {fs} (ha:aN fr a=.pt cs o) (ht:T.ty.get t=some ⟨.struct fs,s,by',z,agg,cz,cM⟩) (hf:cz[i]?=some (off,sz)) (h1:Nat.ble 1 sz=true) (h:K (.pt cs (o+off)) hp):wpOp T own (.fieldAddr t a i) fr hp K:=by show jR T t (aN fr a) i hp K;unfold jR;simp only [ha,ht];exact ⟨off,sz,hf,Nat.le_of_ble_eq_true h1,h⟩
theorem Ua {a:Operand} {i:Nat} {j aA o off sz:Nat} {fs} (ha:aN fr a=.ptr j aA o) (ht:T.ty.get t=some ⟨.struct fs,s,by',z,agg,cz,cM⟩) (hf:cz[i]?=some (off,sz)) (h1:Nat.ble 1 sz=true) (h:K (.ptr j aA (o+off)) hp):wpOp T own (.fieldAddr t a i) fr hp K:=by show jR T t (aN fr a) i hp K;unfold jR;simp only [ha,ht];exact ⟨off,sz,hf,Nat.le_of_ble_eq_true h1,h⟩
theorem Ub {v:Value} (ht:T.ty.get t=some ⟨und,s,by',some v,agg,cz,cM⟩) (h1:v.cells.toList.all aV=true) (h:K (.ptr hp.length 0 0) (hp++[.cells (v.cells.toList.map .fl) 0 0])):wpOp T own (.alloc t) fr hp K:=by show sk T t hp K;unfold sk;simp only [ht];exact ⟨h1,h⟩
theorem Tm {x:Operand} (h:force (aN fr x) fun v=>zg own v hp K):wpOp T own (.box t x) fr hp K:=h
theorem Hv {v:AV} (ho:own=false) (h1:v.kJ=true) (h2:v.cells.all AV.one=true) (h3:cC v.cells=true) (h:K (.pt v.cells 0) hp):zg own v hp K:=by subst ho;exact ⟨h1,h2,h3,h⟩
theorem TN {v:AV} (ho:own=true) (h1:v.kJ=true) (h2:v.cells.all AV.one=true) (h:K (.ptr hp.length 0 0) (hp++[.cells v.cells 0 0])):zg own v hp K:=by subst ho;exact ⟨h1,h2,h⟩
theorem Qx {a x:Operand} (h:force (aN fr x) fun v=>di T t (aN fr a) v hp K):wpOp T own (.store t a x) fr hp K:=h
theorem O5 {a v:AV} {j aA o es:Nat} {cs:List AV} (ha:a=.ptr j aA o) (ht:T.ty.get t=some ⟨und,s,by',z,agg,cz,cM⟩) (hj:hp[j]?=some (.cells cs es aA)) (h1:v.kJ=true) (h2:v.cells.all AV.one=true) (h3:v.cells.length=s) (h4:Nat.ble (o+s) cs.length=true) (h:K .bX (hp.set j (.cells (dy cs v.cells o) es aA))):di T t a v hp K:=by unfold di;simp only [ha,ht];exact ⟨cs,es,hj,h1,h2,h3,Nat.le_of_ble_eq_true h4,h⟩
theorem Qy {l:List (Nat × Operand)} (h:kL (l.map fun p=>(p.1,aN fr p.2)) fun ps=>nt T t ps hp K):wpOp T own (.build t l.toArray) fr hp K:=h
theorem M8 {l:List (Nat × Operand)} {len:Nat} (h:kL (l.map fun p=>(p.1,aN fr p.2)) fun ps=>dS T own t len ps hp K):wpOp T own (.buildSlice t len l.toArray) fr hp K:=h
theorem Uc {P:List (Nat × AV)→Prop} (h:P []):kL (([]:List (Nat × Operand)).map fun p=>(p.1,aN fr p.2)) P:=h
theorem Ud {i:Nat} {x:Operand} {l:List (Nat × Operand)} {P:List (Nat × AV)→Prop} (h:force (aN fr x) fun a=>kL (l.map fun p=>(p.1,aN fr p.2)) fun l=>P ((i,a) :: l)):kL (((i,x) :: l).map fun p=>(p.1,aN fr p.2)) P:=h
theorem Tf {v:Value} {parts:List (Nat × AV)} {cs:List AV} (ht:T.ty.get t=some ⟨und,s,by',some v,true,cz,cM⟩) (h1:v.cells.toList.all aV=true) (h2:cS (gW und cz cM) (v.cells.toList.map .fl) parts=some cs) (h:K (.ag cs) hp):nt T t parts hp K:=by unfold nt;simp only [ht];exact ⟨h1,cs,h2,h⟩
theorem Ue {len:Nat} {parts:List (Nat × AV)} {inf:rB} (ho:own=false) (hi:elem? T t=some inf) (h1:Nat.ble (len * inf.size) 65536=true) (h2:bD inf=true) (h3:lG inf.size 0 parts=true) (h4:Nat.beq parts.length len=true) (h5:cC (parts.map (·.2.cells)).flatten=true) (h:K (.sl (parts.map (·.2.cells)) true) hp):dS T own t len parts hp K:=by subst ho;unfold dS;simp only [hi];exact ⟨h1,h2,h3,h4,h5,h⟩
theorem Uf {len:Nat} {parts:List (Nat × AV)} {inf:rB} (ho:own=true) (hi:elem? T t=some inf) (h1:Nat.ble (len * inf.size) 65536=true) (h2:bD inf=true) (h3:lG inf.size 0 parts=true) (h4:Nat.beq parts.length len=true) (h:K (.bg hp.length 0 0 len len) (hp++[.cells (parts.map (·.2.cells)).flatten inf.size 0])):dS T own t len parts hp K:=by subst ho;unfold dS;simp only [hi];exact ⟨h1,h2,h3,h4,h⟩
theorem Tn {x:Operand} {i:Nat} {vs:List AV} {v:AV} (ha:aN fr x=.tp vs) (hv:vs[i]?=some v) (h:K v hp):wpOp T own (.extract x i) fr hp K:=by show j8 (aN fr x) i hp K;rw [ha];exact ⟨v,hv,h⟩
theorem TP {a x:Operand} {e:TypeId} {els:List (List AV)} {f:Bool} {j:Int} {el:List AV} (ha:aN fr a=.sl els f) (hx:aN fr x=.fl (.int .i64 j)) (ht:T.ty.get t=some ⟨.slice e,s,by',z,agg,cz,cM⟩) (hat:els[j.toNat]?=some el) (h0:0≤j) (hl:el.length=cM) (h:K (.pt el 0) hp):wpOp T own (.indexAddr t a x) fr hp K:=by show cJ T t (aN fr a) (aN fr x) hp K;rw [ha,hx];unfold cJ;simp only [asInt,ht];exact ⟨el,⟨h0,hat⟩,hl,h⟩
theorem Ug {a x:Operand} {e:TypeId} {i aA o n c:Nat} {j:Int} (ha:aN fr a=.bg i aA o n c) (hx:aN fr x=.fl (.int .i64 j)) (ht:T.ty.get t=some ⟨.slice e,s,by',z,agg,cz,cM⟩) (h0:0≤j∧j < (n:Int)) (h:K (.ptr i aA (o+j.toNat * cM)) hp):wpOp T own (.indexAddr t a x) fr hp K:=by show cJ T t (aN fr a) (aN fr x) hp K;rw [ha,hx];unfold cJ;simp only [asInt,ht];exact ⟨h0,h⟩
theorem Uh {a x:Operand} {e:TypeId} {len:Nat} {cs:List AV} {o:Nat} {j:Int} (ha:aN fr a=.pt cs o) (hx:aN fr x=.fl (.int .i64 j)) (ht:T.ty.get t=some ⟨.array len e,s,by',z,agg,cz,cM⟩) (h0:0≤j∧j < (len:Int)) (h:K (.pt cs (o+j.toNat * cM)) hp):wpOp T own (.indexAddr t a x) fr hp K:=by show cJ T t (aN fr a) (aN fr x) hp K;rw [ha,hx];unfold cJ;simp only [asInt,ht];exact ⟨h0,h⟩
theorem Ui {a x:Operand} {e:TypeId} {len:Nat} {i aA o:Nat} {j:Int} (ha:aN fr a=.ptr i aA o) (hx:aN fr x=.fl (.int .i64 j)) (ht:T.ty.get t=some ⟨.array len e,s,by',z,agg,cz,cM⟩) (h0:0≤j∧j < (len:Int)) (h:K (.ptr i aA (o+j.toNat * cM)) hp):wpOp T own (.indexAddr t a x) fr hp K:=by show cJ T t (aN fr a) (aN fr x) hp K;rw [ha,hx];unfold cJ;simp only [asInt,ht];exact ⟨h0,h⟩
end
section
variable {T : bJ} {own : Bool} {fr : Nat → AV} {hp : List AB} {K : AV → List AB → Prop} {t : TypeId}
theorem Uj {l c:Operand} {n:Nat} {inf:rB} (hi:elem? T t=some inf) (hl:aN fr l=.fl (.int .i64 (Int.ofNat n))) (hc:aN fr c=.fl (.int .i64 (Int.ofNat n))) (hb:inf.bytes * n≤140737488355328∧n≤9223372036854775807) (hz:bD inf=true) (h:K (.bg hp.length 0 0 n n) (hp++[.cells ((cr (zeroCells inf) (n * inf.size)).map .fl) inf.size 0])):wpOp T own (.makeSlice t l c) fr hp K:=by show wO T t (aN fr l) (aN fr c) hp K;unfold wO;simp only [hi,hl,hc];refine ⟨n,n,rfl,rfl,⟨qq6 _,hb⟩,hz,?_⟩;rw [show Nat.beq n n=true from Nat.beq_refl n];exact h
end
section
variable {T : bJ} {own : Bool} {fr : Nat → AV} {hp : List AB} {K : AV → List AB → Prop} {s x : Operand} {t u e : TypeId} {a1 a2 a3 a4 a5 a6} {els : List (List AV)} {f : Bool} {inf : rB}
end
theorem Lg {w m n:Nat} (hm:m < 2 ^ w) (hn:n < 2 ^ w):(BitVec.ofInt w (m:Int) &&& BitVec.ofInt w (n:Int)).toNat=m &&& n:=by rw [BitVec.toNat_and,BitVec.ofInt_natCast,BitVec.ofInt_natCast,BitVec.toNat_ofNat,BitVec.toNat_ofNat,Nat.mod_eq_of_lt hm,Nat.mod_eq_of_lt hn]
section
variable {T : bJ} {tab : List XE} {one : Bool} {fl base : Nat} {E E' E2 : Env} {hp hp' hp2 : List AB} {aE amb' : bA} {H H' H2 : Hp} {ρ ρ2 : Nat → Nat → Option Nat} {g g2 : aH} {O O2 : Nat → Prop}
abbrev Gp (T:bJ) (tab:List XE) (base:Nat) (ops:Array Oper) (c:Nat) (K:bU→Prop) (l:List Oper) (i:Nat) (evs:List Ev) (st:bU) (tr:Nat→bC) (s:St):Prop :=
 ∃ m L,fe T (RX T tab m) ops l (rG T (RX T tab m) ops c) i s evs=some L∧∀ s' ∈ L,∃ E' st',K st'∧st'.fl=st.fl∧kZ E' base st' s'∧j9 st.fl base (tr 0).E (tr 0).hp (tr 0).H E' st'.hp s'.hp
theorem ET {mu:Tmp→Bool} {ops:Array Oper} {o:Oper} {l:List Oper} {i:Nat} {bt:Nat→Nat} {acc:List hU} {evs:List Ev} {st:bU} {K:bU→Prop} {tr:Nat→bC} {s:St} {c:Nat} {X:List Oper→Nat→(Nat→Nat)→List hU→bU→Prop}
  (hX:∀ {bt:Nat→Nat} {acc:List hU} {evs:List Ev} {st:bU} {tr:Nat→bC} {s:St},X l (i+1) bt acc st→ji base st.aE tr (i+1)→(tr (i+1)).hp=st.hp→(tr (i+1)).H=s.hp→s.rd=st.rd→cX tr (i+1) bt st.fr s.fr→qo tr (i+1) acc evs→Gp T tab base ops c K l (i+1) evs st tr s)
  (h:cW ops.toList o.guard st.fr (eD T tab mu o.dst o.op i bt st.fr st.hp fun fr' hp' bt' x=>X l (i+1) bt' (x :: acc) ⟨fr',hp',st.aE,st.rd,st.fl⟩)
   (fK o.dst st.fr (.tp []) fun fr'=>X l (i+1) (gL o.dst bt 0) (⟨i,[],false,false⟩ :: acc) ⟨fr',st.hp,st.aE,st.rd,st.fl⟩))
  (ht:ji base st.aE tr i) (h1:(tr i).hp=st.hp) (h2:(tr i).H=s.hp) (h3:s.rd=st.rd) (hb:cX tr i bt st.fr s.fr) (he:qo tr i acc evs):Gp T tab base ops c K (o :: l) i evs st tr s:=by
 have hrel:=ht.rel i (qq6 _);have hfr:iF (tr i).E.ρ (tr i).H.get ((tr i).E.O (tr i).hp) st.fr s.fr:=fun t=>(ht.ext _ i (hb t).1 (qq6 _)).ar (ht.rel _ (hb t).1).wf (hb t).2;have hz0:(snoc tr i (tr i) 0)=tr 0:=aS (qq5 _)
 rcases oV hfr h with ⟨hg,h⟩|⟨hg,h⟩
 ·
  have go:∀ (z:bC) (v:AV) (u:Value) (b:Nat) (x:hU) (t:Tc) (m0:Nat),aR z.E base z.hp st.aE z.H→Ext base (tr i).E (tr i).hp (tr i).H z.E z.hp z.H→b≤i+1→(snoc tr i z b).ar v u→x.i=i→K4 (snoc tr i z) x t →
    (∀ m,m0≤m→aP T (RX T tab m) o.op i s=some (u,z.H,t))→X l (i+1) (gL o.dst bt b) (x :: acc) ⟨kY st.fr o.dst v,z.hp,st.aE,st.rd,st.fl⟩ →
    Gp T tab base ops c K (o :: l) i evs st tr s:=by
   intro z v u b x t m0 hz he' hbi hv hxi hx hd hw;obtain ⟨m,L,r1,r2⟩:=hX (s:=⟨cD s.fr o.dst u,z.H,s.rd⟩) (evs:=⟨o,s,u,z.H,t⟩ :: evs) hw (ht.snoc hz he') (by rw [aU (Nat.lt_succ_self _)]) (by rw [aU (Nat.lt_succ_self _)]) h3 (hb.put hbi hv o.dst) (.cons (he.snoc (qq6 _)) hxi hx);rw [aS (qq5 _)] at r2;refine ⟨max m0 m,L,?_,r2⟩;rw [fm,hg];simp only [cond_true,hd _ (Nat.le_max_left _ _)];exact nj (dj (Nat.le_max_right m0 m)) ops (fun _ _ _=>CE (dj (Nat.le_max_right m0 m))) _ _ _ _ _ r1
  unfold eD at h;split at h
  ·rename_i f args hk;have h:=eJ (bf h);obtain ⟨hF,vs,v,hhand,⟨hvd,hpure⟩,h⟩:=h;have hF':=(nx hfr f).deep hF;have hget:({s.hp with lo:=s.hp.n}:Hp).get=(tr i).H.get:=by rw [h2];rfl
   obtain ⟨goal,hgo,m0,L,q1,q2,q3⟩:∃ goal,cO (iP T.P s.fr f) (args.map (aF s.fr))=some goal ∧
     ∃ m L,RX T tab m (gJ {s.hp with lo:=s.hp.n} goal)=some L∧(true=true→∃ r,L=[r])∧∀ r ∈ L,∃ w H',r=.ret w H' ∧
      ({s.hp with lo:=s.hp.n}:Hp).n≤H'.n∧Wf H'∧(∀ k,k < ({s.hp with lo:=s.hp.n}:Hp).n→H'.get k=({s.hp with lo:=s.hp.n}:Hp).get k)∧min ({s.hp with lo:=s.hp.n}:Hp).lo ({s.hp with lo:=s.hp.n}:Hp).n≤H'.lo∧DR H'.get ((tr i).E.O (tr i).hp) v w:=by
    rcases hhand with ⟨rfl,hA⟩|⟨hz,hfree⟩
    ·have hA':=(cV hfr args).deep hA
     exact hpure ((tr i).E.O (tr i).hp) {s.hp with lo:=s.hp.n} _ _ (by rw [h2] at hrel;exact hrel.wf) (fun k hk=>by
      have:k < (tr i).H.n:=hk.elim (fun h=>hrel.iE h) (hrel.xn k)
      rw [h2] at this;exact this) (by rw [hget];exact hF') (by rw [hget];exact hA')
    ·obtain ⟨goal,hgo,m0,L,q1,q2,q3⟩:=hpure (tr i).E.X {s.hp with lo:=s.hp.n} _ _ (by rw [h2] at hrel;exact hrel.wf) (fun k hk=>by
      have:k < (tr i).H.n:=hrel.xn k hk
      rw [h2] at this;exact this) (by rw [hget];exact hF'.mono fun k b hk ho=>⟨hk,fun hx=>ho (.inr hx)⟩) (by
       rw [hget];rw [←h1] at hz
       exact hz.dr hrel (fun _ h=>h) (cV hfr args))
     refine ⟨goal,hgo,m0,L,q1,q2,fun r hm=>?_⟩;obtain ⟨w,H',e1,e2,e3,e4,e5,e6⟩:=q3 r hm;exact ⟨w,H',e1,e2,e3,e4,e5,hfree.2 _ _ _ _ e6⟩
   obtain ⟨r,hr⟩:=q2 rfl;subst hr;obtain ⟨w,H',rfl,hn,hwf,hsame,hlo,hdr⟩:=q3 r (by simp)
   obtain ⟨g1,g2⟩:=hrel.grow (H':={H' with lo:=s.hp.lo}) (by rw [h2];exact hn) hwf (fun k hk=>by
    have:=hsame k (by rw [←h2];exact hk)
    rw [h2];exact this) (by rw [h2];exact Nat.min_le_left _ _)
   refine go ⟨(tr i).E,st.hp,{H' with lo:=s.hp.lo}⟩ v w (i+1) ⟨i,[],true,true⟩ ⟨i,[],[],true,s.hp.n,H'.n⟩ m0 (by rw [←h1];exact g1) (by rw [←h1];exact g2) (qq6 _) ?_ rfl ?_ (fun m hm=>?_) (bQ h)
   ·rw [aU (Nat.lt_succ_self _)];refine .d ?_;show DR H'.get ((tr i).E.O st.hp) v w;rw [←h1];exact hdr
   ·refine ⟨rfl,by rw [aS (qq6 _),h2],by rw [aU (Nat.lt_succ_self _)],fun h=>Bool.noConfusion h,rfl,fun k hk=>(by cases hk),fun k hk=>(by cases hk)⟩
   ·unfold aP;simp only [hk,hgo,dj hm _ _ q1]
    have:Nat.ble s.hp.n H'.lo=true:=Nat.ble_eq_true_of_le (by
     have:min s.hp.n s.hp.n≤H'.lo:=hlo
     omega)
    rw [i6 this]
  ·exact h.elim
  ·rename_i hk;obtain ⟨a,hacc,hw⟩:=h;have hw':=hw;rw [←h1] at hw';obtain ⟨r,w,ht1,ht2,ht3⟩:=qb ht hb hacc hw'
   have evr:∀ (z:bC) (u:Value) (e:bS),gX T s.hp.n o.op (aF s.fr) s.hp.get=some (u,e)→z.H=s.hp.app e→K4 (snoc tr i z) ⟨i,a,news? o.op,false⟩ ⟨i,r,w,false,s.hp.n,(s.hp.app e).n⟩:=by
    intro z u e hop hz;refine ⟨rfl,by rw [aS (qq6 _),h2],by rw [aU (Nat.lt_succ_self _),hz],fun hal _=>(mF (mE hop hal)).symm,rfl,fun k hk=>?_,fun k hk=>?_⟩
    ·obtain ⟨p,p1,p2,p3⟩:=ht2 k hk;exact ⟨p,p1,p2,p3.snoc (qq6 _)⟩
    ·obtain ⟨p,p1,p2,p3⟩:=ht3 k hk;exact ⟨p,p1,p2,p3.snoc (qq6 _)⟩
   have drw:∀ (u:Value) (e:bS) (m:Nat),gX T s.hp.n o.op (aF s.fr) s.hp.get=some (u,e)→aP T (RX T tab m) o.op i s=some (u,s.hp.app e,⟨i,r,w,false,s.hp.n,(s.hp.app e).n⟩):=by intro u e m hop;unfold aP;simp only [hk,ht1,hop]
   by_cases hm:∃ x,wU o.op st.fr=some [x]
   ·obtain ⟨x,hm⟩:=hm;have hbirth:iT o.op st.fr bt i=ny bt x:=by unfold iT;rw [hm]
    have hbx:=hb.eval x;have eb:=ht.ext _ i hbx.1 (qq6 _);obtain ⟨u,v,r1,r2,r3,r4⟩:=sD (ρ2:=(tr (ny bt x)).E.ρ) (g2:=(tr (ny bt x)).H.get) (O2:=(tr (ny bt x)).E.O (tr (ny bt x)).hp) (n:=s.hp.n) hfr hm (fun y hy=>by obtain rfl:=List.mem_singleton.1 hy;exact hbx.2) (fun k b hk ho=>(eb.keep (ht.rel _ hbx.1).wf k b hk ho).1) hw;rw [h2] at r1;have hz:(tr i).H=s.hp.app .none:=h2;rw [hbirth] at r2;refine go (tr i) v u (ny bt x) ⟨i,a,news? o.op,false⟩ ⟨i,r,w,false,s.hp.n,(s.hp.app .none).n⟩ 0 hrel .refl (by omega) (by rw [aS hbx.1];exact r4) rfl (evr _ u .none r1 hz) (fun m _=>by rw [hz];exact drw u .none m r1) (by rw [h1];exact bQ (bf r2))
   ·have hbirth:iT o.op st.fr bt i=i+1:=by
     unfold iT;split
     ·rename_i x hx;exact absurd ⟨x,hx⟩ hm
     ·rfl
    obtain ⟨u,e,E',v,hp',r1,r2,r3,r4,r5⟩:=hJ hrel hfr hw';rw [h2] at r1 r3 r4 r5;rw [hbirth] at r2;refine go ⟨E',hp',s.hp.app e⟩ v u (i+1) ⟨i,a,news? o.op,false⟩ ⟨i,r,w,false,s.hp.n,(s.hp.app e).n⟩ 0 r3 (by rw [h2];exact r4) (qq6 _) (by rw [aU (Nat.lt_succ_self _)];exact r5) rfl (evr _ u e r1 rfl) (fun m _=>drw u e m r1) (bQ (bf r2))
 ·obtain ⟨m,L,r1,r2⟩:=hX (s:=⟨cD s.fr o.dst undef,s.hp,s.rd⟩) (evs:=⟨o,s,undef,s.hp,⟨i,[],[],false,s.hp.n,s.hp.n⟩⟩ :: evs) (bQ h) (ht.snoc (z:=tr i) hrel .refl) (by rw [aU (Nat.lt_succ_self _)];exact h1) (by rw [aU (Nat.lt_succ_self _)];exact h2) h3
   (hb.put (qq5 _) sA o.dst) (.cons (he.snoc (qq6 _)) rfl ⟨rfl,by rw [aS (qq6 _),h2],by rw [aU (Nat.lt_succ_self _),h2],fun _ _=>rfl,rfl,fun k hk=>(by cases hk),fun k hk=>(by cases hk)⟩)
  rw [hz0] at r2;refine ⟨m,L,?_,r2⟩;rw [fm,hg];exact r1
def SE (T:bJ) (tab:List XE) (mu:Tmp→Bool) (ops:Array Oper) (c:Nat) (K:bU→Prop) (acc:List hU) (st:bU):Prop :=
 match ops.toList[c]? with
 | some o=>match cP o.op with
  | .call f args=>cW ops.toList o.guard st.fr (force (Mz T.P st.fr f) fun F=>fJ (args.map (aN st.fr)) fun as=>F.deep=true∧∃ vs v,Handed st.hp as vs v∧aj T tab false F vs v∧qa (pM ops) (⟨c,[],true,true⟩ :: acc)=true ∧
   fK o.dst st.fr v fun fr'=>wpOps T tab false mu ops.toList (ops.toList.drop (c+1)) ⟨fr',st.hp,st.aE,st.rd,st.fl⟩ K) False
  | _=>False
 | none=>False
def lJ (T:bJ) (tab:List XE) (mu:Tmp→Bool) (ops:Array Oper) (c:Nat) (K:bU→Prop):List Oper→Nat→(Nat→Nat)→List hU→bU→Prop
 | [],i,_,acc,st=>i=c∧SE T tab mu ops c K acc st
 | ⟨dst,op,_,_,_,gd⟩ :: l,i,bt,acc,⟨fr,hp,aE,rd,fl⟩ =>
  cW ops.toList gd fr (eD T tab mu dst op i bt fr hp fun fr' hp' bt' x=>lJ T tab mu ops c K l (i+1) bt' (x :: acc) ⟨fr',hp',aE,rd,fl⟩)
   (fK dst fr (.tp []) fun fr'=>lJ T tab mu ops c K l (i+1) (gL dst bt 0) (⟨i,[],false,false⟩ :: acc) ⟨fr',hp,aE,rd,fl⟩)
theorem qD {mu:Tmp→Bool} {ops:Array Oper} {c:Nat} {K:bU→Prop}:∀ {l:List Oper} {i:Nat} {bt:Nat→Nat} {acc:List hU} {evs:List Ev} {st:bU} {tr:Nat→bC} {s:St},lJ T tab mu ops c K l i bt acc st →
  ji base st.aE tr i→(tr i).hp=st.hp→(tr i).H=s.hp→s.rd=st.rd→cX tr i bt st.fr s.fr→qo tr i acc evs→Gp T tab base ops c K l i evs st tr s
 | o :: l,i,bt,acc,evs,st,tr,s,h,ht,h1,h2,h3,hb,he=>ET (X:=fun l i bt acc st=>lJ T tab mu ops c K l i bt acc st) (fun h=>qD h) h ht h1 h2 h3 hb he
 | [],i,bt,acc,evs,st,tr,s,h,ht,h1,h2,h3,hb,he=>by
  obtain ⟨rfl,h⟩:=h;have hrel:=ht.rel i (qq6 _);have hfr:iF (tr i).E.ρ (tr i).H.get ((tr i).E.O (tr i).hp) st.fr s.fr:=fun t=>(ht.ext _ i (hb t).1 (qq6 _)).ar (ht.rel _ (hb t).1).wf (hb t).2;unfold SE at h;split at h
  ·rename_i o ho;split at h
   ·rename_i f args hk
    rcases oV hfr h with ⟨hg,h⟩|⟨_,h⟩
    case inr=>exact h.elim
    have h:=eJ (bf h);obtain ⟨hF,vs,v,hhand,⟨hvd,hpure⟩,hchk,h⟩:=h;have h:=bQ h;have hF':=(nx hfr f).deep hF;have hget:({s.hp with lo:=s.hp.n}:Hp).get=(tr i).H.get:=by rw [h2];rfl
    obtain ⟨goal,hgo,m0,R,q1,q2,q3⟩:∃ goal,cO (iP T.P s.fr f) (args.map (aF s.fr))=some goal ∧
      ∃ m L,RX T tab m (gJ {s.hp with lo:=s.hp.n} goal)=some L∧(false=true→∃ r,L=[r])∧∀ r ∈ L,∃ w H',r=.ret w H' ∧
       ({s.hp with lo:=s.hp.n}:Hp).n≤H'.n∧Wf H'∧(∀ k,k < ({s.hp with lo:=s.hp.n}:Hp).n→H'.get k=({s.hp with lo:=s.hp.n}:Hp).get k)∧min ({s.hp with lo:=s.hp.n}:Hp).lo ({s.hp with lo:=s.hp.n}:Hp).n≤H'.lo∧DR H'.get ((tr i).E.O (tr i).hp) v w:=by
     rcases hhand with ⟨rfl,hA⟩|⟨hz,hfree⟩
     ·have hA':=(cV hfr args).deep hA
      exact hpure ((tr i).E.O (tr i).hp) {s.hp with lo:=s.hp.n} _ _ (by rw [h2] at hrel;exact hrel.wf) (fun k hk=>by
       have:k < (tr i).H.n:=hk.elim (fun h=>hrel.iE h) (hrel.xn k)
       rw [h2] at this;exact this) (by rw [hget];exact hF') (by rw [hget];exact hA')
     ·obtain ⟨goal,hgo,m0,L,q1,q2,q3⟩:=hpure (tr i).E.X {s.hp with lo:=s.hp.n} _ _ (by rw [h2] at hrel;exact hrel.wf) (fun k hk=>by
        have:k < (tr i).H.n:=hrel.xn k hk
        rw [h2] at this;exact this) (by rw [hget];exact hF'.mono fun k b hk ho=>⟨hk,fun hx=>ho (.inr hx)⟩) (by
        rw [hget];rw [←h1] at hz
        exact hz.dr hrel (fun _ h=>h) (cV hfr args))
      refine ⟨goal,hgo,m0,L,q1,q2,fun r hm=>?_⟩;obtain ⟨w,H',e1,e2,e3,e4,e5,e6⟩:=q3 r hm;exact ⟨w,H',e1,e2,e3,e4,e5,hfree.2 _ _ _ _ e6⟩
    have hone:∀ r ∈ R,∃ w H',r=.ret w H'∧vw i s r=some [(w,({H' with lo:=s.hp.lo}:Hp),(⟨i,[],[],true,s.hp.n,H'.n⟩:Tc))] ∧
      cA T ops (⟨o,s,w,{H' with lo:=s.hp.lo},⟨i,[],[],true,s.hp.n,H'.n⟩⟩ :: evs)=true ∧
      kZ (tr i).E base ⟨kY st.fr o.dst v,st.hp,st.aE,st.rd,st.fl⟩ ⟨cD s.fr o.dst w,{H' with lo:=s.hp.lo},s.rd⟩∧Ext base (tr 0).E (tr 0).hp (tr 0).H (tr i).E st.hp {H' with lo:=s.hp.lo}:=fun r hr=>by
     obtain ⟨w,H',rfl,hn,hwf,hsame,hlo,hdr⟩:=q3 r hr
     obtain ⟨g1,g2⟩:=hrel.grow (H':={H' with lo:=s.hp.lo}) (by rw [h2];exact hn) hwf (fun k hk=>by
      have:=hsame k (by rw [←h2];exact hk)
      rw [h2];exact this) (by rw [h2];exact Nat.min_le_left _ _)
     rw [h1] at g1 g2
     have hble:Nat.ble s.hp.n H'.lo=true:=Nat.ble_eq_true_of_le (by
      have:min s.hp.n s.hp.n≤H'.lo:=hlo
      omega)
     let z:bC:=⟨(tr i).E,st.hp,{H' with lo:=s.hp.lo}⟩
     have htz:ji base st.aE (snoc tr i z) (i+1):=ht.snoc (z:=z) g1 (by rw [h1];exact g2)
     have hev:qo (snoc tr i z) (i+1) (⟨i,[],true,true⟩ :: acc) (⟨o,s,w,{H' with lo:=s.hp.lo},⟨i,[],[],true,s.hp.n,H'.n⟩⟩ :: evs) :=
      .cons (he.snoc (qq6 _)) rfl ⟨rfl,by rw [aS (qq6 _),h2],by rw [aU (Nat.lt_succ_self _)],fun h=>Bool.noConfusion h,rfl,fun k hk=>(by cases hk),fun k hk=>(by cases hk)⟩
     refine ⟨w,H',rfl,?_,?_,⟨g1,h3,fun t=>?_⟩,?_⟩
     ·show some [iQ i s w H']=_;rw [i6 hble]
     ·unfold cA
      generalize hE:((⟨o,s,w,{H' with lo:=s.hp.lo},⟨i,[],[],true,s.hp.n,H'.n⟩⟩:Ev) :: evs)=evs' at *
      cases (evs'.all fun e=>e.t.wr.isEmpty && Nat.beq e.t.a e.t.b) with
      | true=>rfl
      | false=>exact hev.pairs htz (qq6 _) hchk
     ·have hb':=(hb.put (z:=z) (v:=v) (u:=w) (qq6 _) (by
       rw [aU (Nat.lt_succ_self _)];refine .d ?_;show DR H'.get ((tr i).E.O st.hp) v w
       rw [←h1];exact hdr) o.dst) t
      have:=(htz.ext _ (i+1) hb'.1 (qq6 _)).ar (htz.rel _ hb'.1).wf hb'.2;rw [aU (Nat.lt_succ_self _)] at this;exact this
     ·have:=htz.ext 0 (i+1) (qq5 _) (qq6 _);rw [aS (qq5 _),aU (Nat.lt_succ_self _)] at this;exact this
    obtain ⟨P,hP⟩:∃ P,bR R (vw i s)=some P:=by
     obtain ⟨_,M,_,hM,_⟩:=fq (one:=false) (L:=R) (f:=fun _ r=>vw i s r) (P:=fun _=>True) (fun _ _ _ _ _ h=>h) 0 (fun h=>Bool.noConfusion h) (fun r hr=>by
      obtain ⟨w,H',_,e,_⟩:=hone r hr
      exact ⟨0,_,e,fun h=>Bool.noConfusion h,fun _ _=>trivial⟩)
     exact ⟨M,hM⟩
    have hPr:∀ p ∈ P,∃ w H',p=(w,({H' with lo:=s.hp.lo}:Hp),(⟨i,[],[],true,s.hp.n,H'.n⟩:Tc))∧gC.ret w H' ∈ R:=fun p hp=>by obtain ⟨r,hr,Pr,e1,e2⟩:=gZ hP p hp;obtain ⟨w,H',rfl,e3,_⟩:=hone r hr;rw [e3] at e1;cases e1;exact ⟨w,H',List.mem_singleton.1 e2,hr⟩
    obtain ⟨m,L,hm,hL,_,hLs⟩:=fq (one:=false) (L:=P) (f:=fun m (p:Value × Hp × Tc)=>aO T (RX T tab m) ops.toList (ops.toList.drop (i+1)) ⟨cD s.fr o.dst p.1,p.2.1,s.rd⟩)
     (P:=fun s'=>∃ E' st',K st'∧st'.fl=st.fl∧kZ E' base st' s'∧j9 st.fl base (tr 0).E (tr 0).hp (tr 0).H E' st'.hp s'.hp) (fun a b x M hab hx=>hH (dj hab) _ _ _ _ hx) m0 (fun h=>Bool.noConfusion h) (fun p hp=>by
      obtain ⟨w,H',rfl,hr⟩:=hPr p hp;obtain ⟨w',H'',e0,_,_,hrel2,hext⟩:=hone _ hr;cases e0;obtain ⟨m2,L2,k1,k2,k3⟩:=gn h hrel2;refine ⟨m2,L2,k1,fun h=>Bool.noConfusion h,fun s' hs'=>?_⟩;obtain ⟨E2,st2,j1,j2,j3,j4⟩:=k3 s' hs'
      exact ⟨E2,st2,j1,j2,j3,hext.fS.trans j4⟩)
    refine ⟨m,L,?_,hLs⟩;rw [x6];unfold rG;have hdm:ju T (RX T tab m) ops o i s=some P:=by unfold ju;rw [hg,cond_true];unfold eM;simp only [hk,hgo,dj hm _ _ q1];exact hP
    simp only [ho,hdm];have hall:(P.all fun p=>cA T ops (⟨o,s,p.1,p.2.1,p.2.2⟩ :: evs))=true:=by rw [List.all_eq_true];intro p hp;obtain ⟨w,H',rfl,hr⟩:=hPr p hp;obtain ⟨w',H'',e0,_,hd,_⟩:=hone _ hr;cases e0;exact hd
    rw [hall];exact hL
   ·exact h.elim
  ·exact h.elim
theorem av.nd {id:Nat} (c:Nat) {l:List Oper} {mu:Tmp→Bool} {st:bU} {K:Exit→bU→Prop} (hc:qJ l.toArray=some c) (h:lJ T tab mu l.toArray c (K .normal) (l.take c) 0 (fun _=>0) [] st):av T tab false (.region id l.toArray true) st K:=by
 intro E base s hs;obtain ⟨m,L,r1,r2⟩:=qD (base:=base) (tr:=fun _=>⟨E,st.hp,s.hp⟩) (evs:=[]) h ⟨fun _ _=>hs.h,fun _ _ _ _=>.refl⟩ rfl rfl hs.rd (fun t=>⟨qq6 _,hs.fr t⟩) .nil;refine ⟨m,L.map fun s=>(.normal,s),?_,fun h1=>Bool.noConfusion h1,fun p hp=>?_⟩
 ·rw [bP];have:bH T (RX T tab m) l.toArray s=some L:=by unfold bH;rw [hc];exact r1
  simp only [cond_true,this]
 ·obtain ⟨s2,hm,rfl⟩:=List.mem_map.1 hp;obtain ⟨E2,st2,k1,k2,k3,k4⟩:=r2 s2 hm;exact ⟨E2,st2,k1,k2,k3,k4⟩
section
variable {mu : Tmp → Bool} {ops : Array Oper} {K : bU → Prop} {c i : Nat} {bt : Nat → Nat} {acc : List hU} {fr : Nat → AV} {rd : Bool}
theorem Uk {dst:Option Tmp} {op:Op} {a1 a2 a3 gd} {l:List Oper} (h:cW ops.toList gd fr (eD T tab mu dst op i bt fr hp fun fr' hp' bt' x=>lJ T tab mu ops c K l (i+1) bt' (x :: acc) ⟨fr',hp',aE,rd,fl⟩)
 (fK dst fr (.tp []) fun fr'=>lJ T tab mu ops c K l (i+1) (gL dst bt 0) (⟨i,[],false,false⟩ :: acc) ⟨fr',hp,aE,rd,fl⟩)):lJ T tab mu ops c K (⟨dst,op,a1,a2,a3,gd⟩ :: l) i bt acc ⟨fr,hp,aE,rd,fl⟩:=h
end
end
end Go.RM
namespace Go.RM
structure Hd (h:Prop):Prop where
 x:h
theorem u1 {g h : Prop} (q : h) (k : Hd h → g := by
    intro hd;first
    | with_reducible (first | refine RM.c1 ?_ | refine RM.c2 ?_ | refine RM.c3 ?_ | refine RM.c4 ?_ | refine RM.c6 ?_ | refine RM.c7 ?_ | refine RM.c8 ?_ | refine RM.c9 ?_ | refine RM.d1 ?_ | refine RM.d2 ?_ | refine RM.d3 ?_ | refine RM.d4 ?_ | refine RM.d7 ?_ | refine RM.d8 ?_ | refine RM.d9 ?_ | refine RM.o1 ?_ | refine RM.o2 ?_ | refine RM.o3 ?_ | refine RM.o4 ?_ | refine RM.o5 ?_ | refine RM.o6 ?_ | refine RM.o7 ?_ | refine RM.o9 ?_ | refine RM.p1 ?_ | refine RM.p2 ?_ | refine RM.p3 ?_ | refine RM.p4 ?_ | refine RM.p5 ?_ | refine RM.p6 ?_ | refine RM.p7 ?_ | refine RM.p8 ?_ | refine RM.q1 ?_ | refine RM.q2 ?_ | refine RM.Tm ?_ | refine RM.Qx ?_ | refine RM.Qy ?_ | refine RM.M8 ?_ | refine RM.Uc ?_ | refine RM.Ud ?_ | refine RM.Uk ?_)
    | ((with_reducible show force _ _); first | refine RM.f1 rfl ?_ | refine RM.f2 rfl ?_ | refine RM.f3 rfl ?_ | refine RM.f4 rfl ?_ | refine RM.f5 rfl ?_ | refine RM.f6 rfl ?_ | refine RM.f7 rfl ?_ | refine RM.f8 rfl ?_ | refine RM.f9 rfl ?_ | refine RM.g1 rfl ?_ | refine RM.g2 rfl ?_)
    | ((with_reducible show RM.wpOp _ _ _ _ _ _); first
      | ((with_reducible show RM.wpOp _ _ (.load _ _) _ _ _); first | refine RM.T7 rfl rfl rfl ?_ | refine RM.T6 rfl rfl rfl ?_ | refine RM.MA rfl rfl rfl rfl ?_ | refine RM.T8 rfl rfl rfl rfl ?_)
      | ((with_reducible show RM.wpOp _ _ (.fieldAddr _ _ _) _ _ _); first | refine RM.T9 rfl rfl rfl rfl ?_ | refine RM.Ua rfl rfl rfl rfl ?_)
      | ((with_reducible show RM.wpOp _ _ (.alloc _) _ _ _); refine RM.Ub rfl rfl ?_)
      | ((with_reducible show RM.wpOp _ _ (.extract _ _) _ _ _); refine RM.Tn rfl rfl ?_)
      | ((with_reducible show RM.wpOp _ _ (.indexAddr _ _ _) _ _ _); first | refine RM.TP rfl rfl rfl (by assumption) (by omega) rfl ?_ | refine RM.TP rfl rfl rfl rfl (by omega) rfl ?_ | refine RM.Ug rfl rfl rfl (by omega) ?_ | refine RM.Uh rfl rfl rfl (by omega) ?_ | refine RM.Ui rfl rfl rfl (by omega) ?_)
      | ((with_reducible show RM.wpOp _ _ (.makeSlice _ _ _) _ _ _); refine RM.Uj rfl rfl rfl (by decide) rfl ?_)
      | ((with_reducible show RM.wpOp _ _ (.unOp _ _ _) _ _ _); refine RM.n3 rfl ?_)
      | ((with_reducible show RM.wpOp _ _ (.call _) _ _ _); first | refine RM.n4 rfl rfl ?_ | refine RM.n5 rfl rfl ?_))
    | ((with_reducible show oB _ _ _ _ (.region _ _ true) _ _); first | refine RM.T5 rfl ?_ | refine RM.c5 (by kernel_rfl) rfl rfl ?_)
    | ((with_reducible show sB _ _ _ _ _ _ _ _ _ _ _ _); refine RM.o8 rfl ?_)
    | ((with_reducible show eD _ _ _ _ _ _ _ _ _ _); first | refine RM.p9 rfl ?_ | refine RM.n1 ?_)
    | ((with_reducible show cW _ _ _ _ _); first | refine uI rfl rfl rfl ?_ | refine wW rfl rfl rfl ?_ | refine Bf rfl rfl ?_ | refine uI rfl rfl (by assumption) ?_ | refine wW rfl rfl (by assumption) ?_)
    | ((with_reducible show oB _ _ _ _ (.cond _ _ _) _ _); first | refine RM.e2 rfl rfl ?_ | refine RM.e3 rfl rfl ?_ | refine RM.e2 rfl (by assumption) ?_ | refine RM.e3 rfl (by assumption) ?_)
    | ((with_reducible show tI _ _ _ _ _); refine RM.k1 rfl ?_)
    | ((with_reducible show jS _ _ _ _ _); first | refine RM.k2 rfl ?_ | refine RM.k3 rfl ?_ | refine RM.k2 (by assumption) ?_ | refine RM.k3 (by assumption) ?_ | refine RM.k4 rfl rfl ?_)
    | ((with_reducible show bk _ _ _ _ _ _ _ _ _); first | refine RM.b4 rfl rfl ?_ | refine RM.b5 rfl rfl ?_ | refine RM.b6 rfl rfl ?_ | refine RM.b7 rfl rfl ?_ | refine RM.b8 rfl rfl ?_ | refine RM.b9 rfl rfl ?_ | refine RM.b1 rfl rfl (by omega) ?_ | refine RM.b2 rfl rfl (by omega) ?_ | refine RM.b3 rfl rfl (by omega) ?_ | refine RM.r1 rfl rfl (by omega) ?_ | refine RM.r2 rfl rfl (by omega) ?_)
    | ((with_reducible show sx _ _ _ _ _); first | refine RM.l1 rfl ?_ | refine RM.l2 rfl ?_)
    | ((with_reducible show sw _ _ _); first | refine RM.l3 rfl ?_ | refine RM.l4 rfl ?_)
    | ((with_reducible show kM _ _ _ _); first | refine RM.d5 rfl ?_ | refine RM.d6 rfl ?_)
    | ((with_reducible show zg _ _ _ _); first | refine RM.Hv rfl rfl rfl rfl ?_ | refine RM.TN rfl rfl rfl ?_)
    | ((with_reducible show di _ _ _ _ _ _); refine RM.O5 rfl rfl rfl rfl rfl rfl rfl ?_)
    | ((with_reducible show nt _ _ _ _ _); refine RM.Tf rfl rfl rfl ?_)
    | ((with_reducible show dS _ _ _ _ _ _ _); first | refine RM.Ue rfl rfl rfl rfl rfl rfl rfl ?_ | refine RM.Uf rfl rfl rfl rfl rfl rfl ?_)
    | ((with_reducible show az _ _ _ _ _ _ _ _); refine aj.call (by assumption) rfl rfl ?_)
    | ((with_reducible show qa _ _ = true ∧ _); refine And.intro (by kernel_rfl) ?_)
    | ((with_reducible show ∃ _, EI _ _ _ = some _ ∧ _); refine ⟨_, rfl, ?_⟩)
    | ((with_reducible show AV.deep _ = true ∧ _); refine ⟨rfl, rfl, ?_⟩)
    | ((with_reducible show ∃ _, aj _ _ _ _ _ _ ∧ _); refine ⟨_, by assumption, ?_⟩)
    exact hd.x) : g := k ⟨q⟩
theorem u2 {g h:Prop} (q:h) (k:Hd h→g:=by
 intro hd;first
 | refine ⟨_,rfl,?_⟩
 | refine ⟨_,_,rfl,by decide,?_⟩
 | refine ⟨rfl,rfl,rfl,?_⟩
 | refine ⟨rfl,rfl,?_⟩
 | refine ⟨_,_,rfl,_,rfl,?_⟩
 | refine And.intro (Nat.le_of_ble_eq_true rfl) ?_
 | refine And.intro (by omega) ?_
 | refine ⟨_,_,rfl,rfl,_,rfl,rfl,?_⟩
 | refine And.intro (by kernel_rfl) ?_
 | refine ⟨rfl,rfl,rfl,rfl,rfl,?_⟩
 | refine ⟨_,_,rfl,rfl,rfl,rfl,Nat.le_of_ble_eq_true rfl,?_⟩
 | refine ⟨_,_,rfl,Nat.le_of_ble_eq_true rfl,?_⟩
 exact hd.x):g:=k ⟨q⟩
open Go
theorem wrap_u64 {n:Nat} (h:n < 18446744073709551616):IntKind.wrap .u64 (n:Int)=(n:Int):=by show ((BitVec.ofInt 64 (n:Int)).toNat:Int)=_;rw [BitVec.ofInt_natCast,BitVec.toNat_ofNat,Nat.mod_eq_of_lt h]
theorem Lv {P:Program} {t:TypeId} {x y:Operand} {m n:Nat} (hm:m < 18446744073709551616) (hn:n < 18446744073709551616):fV P .and t x y (.int .u64 (m:Int)) (.int .u64 (n:Int))=some (.int .u64 ((m &&& n:Nat):Int),.none):=by have h:fV P .and t x y (.int .u64 (m:Int)) (.int .u64 (n:Int))=some (.int .u64 (IntKind.wrap .u64 ((BitVec.ofInt 64 (m:Int) &&& BitVec.ofInt 64 (n:Int)).toNat:Int)),.none):=rfl;rw [h,Lg (by omega) (by omega),wrap_u64 (Nat.lt_of_le_of_lt Nat.and_le_left hm)]
theorem Nk {P:Program} {t:TypeId} {x y:Operand} {m n:Nat} (hm:m < 18446744073709551616) (hn:n < 18446744073709551616):fV P .or t x y (.int .u64 (m:Int)) (.int .u64 (n:Int))=some (.int .u64 ((m ||| n:Nat):Int),.none):=by have h:fV P .or t x y (.int .u64 (m:Int)) (.int .u64 (n:Int))=some (.int .u64 (IntKind.wrap .u64 ((BitVec.ofInt 64 (m:Int) ||| BitVec.ofInt 64 (n:Int)).toNat:Int)),.none):=rfl;rw [h,M6 (by omega) (by omega),wrap_u64 (Nat.or_lt_two_pow (n:=64) hm hn)]
theorem Lw {P:Program} {t:TypeId} {x y:Operand} {j:Nat} (hj:j < 8):fV P .shl t x y (.int .u64 1) (.int .i64 (j:Int))=some (.int .u64 ((2 ^ j:Nat):Int),.none):=by
 match j,hj with
 | 0,_|1,_|2,_|3,_|4,_|5,_|6,_|7,_=>rfl
theorem Lx {P:Program} {t:TypeId} {x y:Operand} {m j:Nat} (hj:j < 8):fV P .shr t x y (.int .u64 (m:Int)) (.int .i64 (j:Int))=some (.int .u64 ((m / 2 ^ j:Nat):Int),.none):=by
 have h:fV P .shr t x y (.int .u64 (m:Int)) (.int .i64 (j:Int))=some (.int .u64 ((m:Int).fdiv (2 ^ j)),.none):=by
  match j,hj with
  | 0,_|1,_|2,_|3,_|4,_|5,_|6,_|7,_=>rfl
 rw [h,Int.fdiv_eq_ediv_of_nonneg _ (Int.pow_nonneg (by decide)),Int.natCast_ediv,Int.natCast_pow];rfl
theorem Nl {P:Program} {t:TypeId} {x y:Operand} {m n:Int}:fV P .eql t x y (.int .u64 m) (.int .u64 n)=some (.bool (decide (m=n)),.none):=rfl
theorem Ly {P:Program} {t:TypeId} {x y:Operand} {m n:Int}:fV P .neq t x y (.int .u64 m) (.int .u64 n)=some (.bool (!decide (m=n)),.none):=rfl
theorem Lz {P:Program} {t:TypeId} {x y:Operand} {m n:Int}:fV P .lss t x y (.int .u64 m) (.int .u64 n)=some (.bool (decide (m < n)),.none):=rfl
theorem LA {P:Program} {t:TypeId} {x y:Operand} {m:Nat} (h1:1≤m) (hm:m < 18446744073709551616):fV P .sub t x y (.int .u64 (m:Int)) (.int .u64 1)=some (.int .u64 ((m - 1:Nat):Int),.none):=by have h:fV P .sub t x y (.int .u64 (m:Int)) (.int .u64 1)=some (.int .u64 (IntKind.wrap .u64 ((m:Int) - 1)),.none):=rfl;rw [h,show (m:Int) - 1=((m - 1:Nat):Int) by omega,wrap_u64 (by omega)]
theorem LB {P:Program} {t:TypeId} {x y:Operand} {m:Nat} (hm:m < 18446744073709551615):fV P .add t x y (.int .u64 (m:Int)) (.int .u64 1)=some (.int .u64 ((m+1:Nat):Int),.none):=by have h:fV P .add t x y (.int .u64 (m:Int)) (.int .u64 1)=some (.int .u64 (IntKind.wrap .u64 ((m:Int)+1)),.none):=rfl;rw [h,show (m:Int)+1=((m+1:Nat):Int) by omega,wrap_u64 (by omega)]
section
variable {T : bJ} {a b : AV} {t : TypeId} {x y : Operand} {hp : List AB} {K : AV → List AB → Prop}
theorem O7 {m n:Nat} (ha:a=.fl (.int .u64 (m:Int))) (hb:b=.fl (.int .u64 (n:Int))) (hm:m < 18446744073709551616) (hn:n < 18446744073709551616) (h:K (.fl (.int .u64 ((m &&& n:Nat):Int))) hp):bk T .and t x y a b hp K:=by subst ha hb;exact ⟨_,_,rfl,rfl,.int .u64 ((m &&& n:Nat):Int),Lv hm hn,rfl,h⟩
theorem Tq {m n:Nat} (ha:a=.fl (.int .u64 (m:Int))) (hb:b=.fl (.int .u64 (n:Int))) (hm:m < 18446744073709551616) (hn:n < 18446744073709551616) (h:K (.fl (.int .u64 ((m ||| n:Nat):Int))) hp):bk T .or t x y a b hp K:=by subst ha hb;exact ⟨_,_,rfl,rfl,.int .u64 ((m ||| n:Nat):Int),Nk hm hn,rfl,h⟩
theorem Gr {j:Nat} (ha:a=.fl (.int .u64 1)) (hb:b=.fl (.int .i64 (j:Int))) (hj:j < 8) (h:K (.fl (.int .u64 ((2 ^ j:Nat):Int))) hp):bk T .shl t x y a b hp K:=by subst ha hb;exact ⟨_,_,rfl,rfl,.int .u64 ((2 ^ j:Nat):Int),Lw hj,rfl,h⟩
theorem w9 {m j:Nat} (ha:a=.fl (.int .u64 (m:Int))) (hb:b=.fl (.int .i64 (j:Int))) (hj:j < 8) (h:K (.fl (.int .u64 ((m / 2 ^ j:Nat):Int))) hp):bk T .shr t x y a b hp K:=by subst ha hb;exact ⟨_,_,rfl,rfl,.int .u64 ((m / 2 ^ j:Nat):Int),Lx hj,rfl,h⟩
theorem EY {m n:Int} (ha:a=.fl (.int .u64 m)) (hb:b=.fl (.int .u64 n)) (h:K (.fl (.bool (decide (m=n)))) hp):bk T .eql t x y a b hp K:=by subst ha hb;exact ⟨_,_,rfl,rfl,.bool (decide (m=n)),Nl,rfl,h⟩
theorem O8 {m n:Int} (ha:a=.fl (.int .u64 m)) (hb:b=.fl (.int .u64 n)) (h:K (.fl (.bool (!decide (m=n)))) hp):bk T .neq t x y a b hp K:=by subst ha hb;exact ⟨_,_,rfl,rfl,.bool (!decide (m=n)),Ly,rfl,h⟩
theorem LC {m n:Int} (ha:a=.fl (.int .u64 m)) (hb:b=.fl (.int .u64 n)) (h:K (.fl (.bool (decide (m < n)))) hp):bk T .lss t x y a b hp K:=by subst ha hb;exact ⟨_,_,rfl,rfl,.bool (decide (m < n)),Lz,rfl,h⟩
theorem SI {m:Nat} (ha:a=.fl (.int .u64 (m:Int))) (hb:b=.fl (.int .u64 1)) (h1:1≤m) (hm:m < 18446744073709551616) (h:K (.fl (.int .u64 ((m - 1:Nat):Int))) hp):bk T .sub t x y a b hp K:=by subst ha hb;exact ⟨_,_,rfl,rfl,.int .u64 ((m - 1:Nat):Int),LA h1 hm,rfl,h⟩
theorem LD {m:Nat} (ha:a=.fl (.int .u64 (m:Int))) (hb:b=.fl (.int .u64 1)) (hm:m < 18446744073709551615) (h:K (.fl (.int .u64 ((m+1:Nat):Int))) hp):bk T .add t x y a b hp K:=by subst ha hb;exact ⟨_,_,rfl,rfl,.int .u64 ((m+1:Nat):Int),LB hm,rfl,h⟩
theorem qY {m:Nat} (ha:a=.fl (.int .u64 (m:Int))) (hb:b=.fl (.int .u64 1)) (hm:m < 18446744073709551616) (h:K (.fl (.int .u64 ((m % 2:Nat):Int))) hp):bk T .and t x y a b hp K:=by rw [←Nat.and_one_is_mod] at h;exact O7 (n:=1) ha hb hm (by decide) h
end
theorem QH {T:bJ} {fr:Nat→AV} {hp:List AB} {K:AV→List AB→Prop} {s x:Operand} {t u e:TypeId} {a1 a2 a3 a4 a5 a6} {els0 els:List (List AV)} {f:Bool} {inf:rB} (hs:aN fr s=.sl els0 true) (hx:aN fr x=.sl els f)
  (hu:T.ty.get u=some ⟨.slice e,a1,a2,a3,a4,a5,a6⟩) (hi:elem? T t=some inf) (hz:bD inf=true) (h0:∀ el ∈ els0,el.length=inf.size) (hel:∀ el ∈ els,el.length=inf.size) (h1:els.flatten.all AV.one=true) (hne:els ≠ [])
  (hb:(els0.length+els.length) * inf.bytes≤140737488355328∧els0.length+els.length≤9223372036854775807) (hd:cC els.flatten=true) (hk:K (.sl (els0++els) false) hp) :
  RM.wpOp T false (.call ⟨.builtin .append,[s,x].toArray,[t,u].toArray⟩) fr hp K:=by
 show force (aN fr s) fun a=>force (aN fr x) fun b=>gA T false .append [a,b] [t,u] hp K;rw [hs,hx];show (match T.ty.get u with|some ⟨.slice _,_,_,_,_,_,_⟩=>gk T false t (.sl els0 true) (.sl els f) hp K|_=>False);rw [hu];show gk T false t (.sl els0 true) (.sl els f) hp K;unfold gk;rw [hi];exact ⟨hz,els,⟨hel,rfl⟩,h1,h0,hb,fun e=>absurd e hne,fun _=>⟨hd,hk⟩⟩
section
variable {T : bJ} {own : Bool} {fr : Nat → AV} {hp : List AB} {K : AV → List AB → Prop} {t : TypeId} {s by' cM : Nat} {z : Option Value} {agg : Bool} {cz : List (Nat × Nat)}
theorem TS {x hi:Operand} {cs:List AV} {o len h:Nat} {e:TypeId} {els:List (List AV)} (hx:aN fr x=.pt cs o) (hh:aN fr hi=.fl (.int .i64 (h:Int))) (ht:T.ty.get t=some ⟨.array len e,s,by',z,agg,cz,cM⟩)
  (hb:h≤len∧o+h * cM≤cs.length) (h1:1≤cM) (he:els.length=h∧(∀ el ∈ els,el.length=cM)∧els.flatten=(cs.drop o).take (h * cM)) (k:K (.sl els (Nat.beq h len)) hp):wpOp T own (.slice t x none (some hi) none) fr hp K:=by
 show jT T t (aN fr x) none (some (aN fr hi)) hp K;rw [hx,hh];unfold jT;simp only [ht];refine ⟨0,h,els,rfl,rfl,⟨qq5 _,hb.1,hb.2⟩,h1,?_,k⟩;rw [Nat.zero_mul,Nat.add_zero,Nat.sub_zero];exact he
theorem Um {x hi mx:Operand} {inf:rB} {j aA o n c h:Nat} (hx:aN fr x=.bg j aA o n c) (hh:aN fr hi=.fl (.int .i64 (h:Int))) (hm:aN fr mx=.fl (.int .i64 (h:Int))) (hi':elem? T t=some inf) (hb:h≤n) (h1:1≤inf.size)
  (k:K (.bg j aA (o+0 * inf.size) (h - 0) (h - 0)) hp):wpOp T own (.slice t x none (some hi) (some mx)) fr hp K:=by
 show oR T t (aN fr x) none (aN fr hi) (aN fr mx) hp K;rw [hx,hh,hm];unfold oR;simp only [hi'];exact ⟨0,h,rfl,rfl,rfl,⟨qq5 _,hb⟩,h1,k⟩
theorem TU {o:BinOp} {x y:Operand} {a:AV} {els:List (List AV)} {f b:Bool} (ha:a=.sl els f) (hne:els ≠ []) (ht:jt T.P t=true) (ho:iz o=some (.bool b,.none)) (k:K (.fl (.bool b)) hp):bk T o t x y a (.fl (.slice none 0 0)) hp K:=by subst ha;exact ⟨hne,ht,_,ho,k⟩
theorem SL {o:BinOp} {x y:Operand} {a:AV} {j aA p n c:Nat} {b:Bool} (ha:a=.bg j aA p n c) (hne:n ≠ 0) (ht:jt T.P t=true) (ho:iz o=some (.bool b,.none)) (k:K (.fl (.bool b)) hp):bk T o t x y a (.fl (.slice none 0 0)) hp K:=by subst ha;exact ⟨hne,ht,_,ho,k⟩
theorem TW {x:Operand} {kt et:TypeId} {j clock:Nat} {aK:List (AV × AV × Nat)} (hx:aN fr x=.om j) (ht:T.ty.get t=some ⟨.map kt et,s,by',z,agg,cz,cM⟩) (hj:hp[j]?=some (.map aK clock)) (k:K (.tp []) (hp.set j (.map [] clock))) :
  wpOp T own (.call ⟨.builtin .clear,[x].toArray,[t].toArray⟩) fr hp K:=by
 show force (aN fr x) fun a=>pX T t a hp K;rw [hx];show pX T t (.om j) hp K;unfold pX;simp only [ht];exact ⟨aK,clock,hj,k⟩
end
inductive As (s st:bU):Prop
 | is (h:ah s st)
 | no (h:False)
theorem As.aJ {s st:bU}:As s st→ah s st
 | .is h=>h
 | .no h=>h.elim
theorem cutAt {T:bJ} {tab:List XE} {one:Bool} {a b:Code} {st st':bU} {K:Exit→bU→Prop} (h1:av T tab one a st (wR (fun s=>As s st') K)) (h2:av T tab one b st' K):av T tab one (.seq a b) st K :=
 .seq (h1.mono fun e s h=>by cases e <;> first|exact .aJ h.aJ h2|exact h)
section
variable {T : bJ} {tab : List XE} {one : Bool} {base : Nat} {E : Env} {hp : List AB} {aE : bA} {H : Hp} {ρ : Nat → Nat → Option Nat} {g : aH} {O O' : Nat → Prop}
inductive MB (a b:Nat):AB→AB→Prop
 | same {z:AB}:z.gS a=true→z.gS b=true→MB a b z z
 | cells {cs cs':List AV} {es aA:Nat}:cs.length=cs'.length→(∀ (i:Nat) (v w:AV),cs[i]?=some v→cs'[i]?=some w→Mv a b v w)→MB a b (.cells cs es aA) (.cells cs' es aA)
theorem MB.empty {a b v:Nat} {z z':AB} (h:MB a b z z') (hz:∃ es,z=.cells [] es v):∃ es,z'=.cells [] es v:=by
 cases h with
 | same _ _=>exact hz
 | cells hl _ =>obtain ⟨es,he⟩:=hz;cases he;exact ⟨_,by rw [List.length_eq_zero_iff.1 hl.symm]⟩
theorem MB.aA {a b:Nat} {z z':AB} (h:MB a b z z'):z.ver?=z'.ver?:=by cases h <;> rfl
end
section
variable {T : bJ} {tab : List XE} {one : Bool} {fl base : Nat} {E E' E2 : Env} {hp hp' hp2 : List AB} {aE amb' : bA} {H H' H2 : Hp} {ρ ρ2 : Nat → Nat → Option Nat} {g g2 : aH} {O O2 : Nat → Prop}
structure oY (tr:Nat→bC) (x:hU) (t:Tc):Prop where
 ev:K4 tr x t
 S6:∀ k ∈ t.rd,∃ p ∈ x.acc,p.wr=false∧dV tr x.i p k∧(p.own.isSome=true→Own (tr x.i).E.ρ (tr x.i).hp k)
 keep:x.call=true→(tr (x.i+1)).E=(tr x.i).E∧(tr (x.i+1)).hp=(tr x.i).hp
theorem oY.snoc {tr:Nat→bC} {i:Nat} {z:bC} {x:hU} {t:Tc} (h:oY tr x t) (hi:x.i < i):oY (snoc tr i z) x t :=
 ⟨h.ev.snoc hi,fun k hk=>by
  obtain ⟨p,a,b,c,d⟩:=h.S6 k hk
  exact ⟨p,a,b,c.snoc (by omega),fun ho=>by rw [aS (by omega)];exact d ho⟩,
  fun hc=>by rw [aS (by omega),aS (by omega)];exact h.keep hc⟩
theorem dV.GB {tr:Nat→bC} {i:Nat} {p:Acc} {k:Nat} (h:dV tr i p k) (ho:p.own.isSome=true) (hw:p.wr=true):Own (tr i).E.ρ (tr i).hp k:=by
 obtain ⟨_,_,h3⟩:=h
 cases hp:p.own with
 | none=>rw [hp] at ho;cases ho
 | some j =>rw [hp] at h3;obtain ⟨_,_,h4⟩:=h3;exact h4 hw
def yE (o:Op):Bool :=
 match o with
 | .lookup ..=>false
 | .call ⟨.builtin .append,_,_⟩=>false
 | .call ⟨.builtin .len,_,_⟩=>false
 | _=>true
theorem Nx {tr:Nat→bC} {i:Nat} (ht:ji base aE tr i) {bt:Nat→Nat} {fr:Nat→AV} {tm:Tr Value} (hb:cX tr i bt fr tm) {own:Bool} {o:Op} (hro:yE o=true) {l:List Acc} (h:EI o fr (ny bt)=some l)
  {K:AV→List AB→Prop} (hw:wpOp T own o fr (tr i).hp K) {r w:List Nat} (hto:iA o (aF tm)=some (r,w)):∀ k ∈ r,∃ p ∈ l,p.wr=false∧dV tr i p k∧(p.own.isSome=true→Own (tr i).E.ρ (tr i).hp k):=by
 intro k hk;obtain ⟨r',w',e1,e2,_⟩:=qb ht hb h hw;rw [hto] at e1;simp only [qq9,Prod.mk.injEq] at e1;obtain ⟨rfl,rfl⟩:=e1;by_cases hl:∃ t a,o=.load t a
 ·obtain ⟨t,a,rfl⟩:=hl;have now:(tr i).ar (aN fr a) (aF tm a):=(ht.ext _ i (hb.eval a).1 (qq6 _)).ar (ht.rel _ (hb.eval a).1).wf (hb.eval a).2;obtain ⟨p,p1,p2,p3⟩:=e2 k hk;refine ⟨p,p1,p2,p3,fun ho=>?_⟩;have hw:fo T t (aN fr a) (tr i).hp K:=hw;have h:qU (aN fr a) (ny bt a) false=some l:=h;have hk:k ∈ cE (aF tm a):=by simp only [iA,qq9,Prod.mk.injEq] at hto;rw [hto.1];exact hk
  cases hv:aN fr a with
  | ptr j aA o =>
   rw [hv] at now hw;obtain ⟨k',q1,q2⟩:=now.dJ;rw [q2] at hk;obtain rfl:k=k':=by simpa [cE] using hk
   unfold fo at hw;split at hw
   ·rename_i e _;cases e
   ·rename_i e _;cases e;obtain ⟨cs,es,h1,_⟩:=hw;exact ⟨j,_,aA,h1,rfl,q1⟩
   ·exact hw.elim
  | pt =>rw [hv] at h;simp only [qU,qq9] at h;subst h;obtain rfl:=List.mem_singleton.1 p1;cases ho
  | _ =>
   rw [hv] at hw;unfold fo at hw;split at hw
   ·rename_i e _;cases e
   ·rename_i e _;cases e
   ·exact hw.elim
 ·exfalso;revert hto hk;unfold iA;split
  ·rename_i t a;exact absurd ⟨t,a,rfl⟩ hl
  ·intro h hk;cases h;cases hk
  ·cases hro
  ·intro h hk;cases h;cases hk
  ·intro h hk;cases h;cases hk
  ·intro h hk;cases h;cases hk
  ·intro h _;cases h
  ·intro h _;cases h
  ·intro h _;cases h
  ·cases hro
  ·cases hro
  ·intro h _;cases h
  ·intro h hk;cases h;cases hk
def vp (x y:hU):Bool :=
 x.acc.all (fun p=>y.acc.all (pZ x.i p)) && ((!x.al && !x.call) || y.acc.all (fun q=>Nat.ble q.b x.i || (x.call && q.own.isSome))) && (!x.call || y.acc.all (fun q=>!q.wr)) && (!y.call || x.acc.all (fun p=>!p.wr))
def QU (b:List Nat):List hU→Bool
 | []=>true
 | y :: l=>l.all (fun x=>(b.getD y.i 0).testBit x.i || vp x y) && QU b l
theorem Fe {tr:Nat→bC} {n:Nat} (ht:ji base aE tr n) {x y:hU} {s t:Tc} (hs:oY tr x s) (hy:oY tr y t) (hxy:x.i < y.i) (hn:y.i≤n) (hf:vp x y=true):conflict s t=false:=by
 cases hc:conflict s t with
 | false=>rfl
 | true =>
  exfalso;unfold vp at hf;simp only [qq7,List.all_eq_true,Bool.or_eq_true,Bool.not_eq_true'] at hf;obtain ⟨⟨⟨f1,f2⟩,f3⟩,f4⟩:=hf;have two:∀ {k:Nat} {p q:Acc},p ∈ x.acc→q ∈ y.acc→dV tr x.i p k→dV tr y.i q k→(p.wr=true∨q.wr=true)→False:=fun hp hq ap aq hw=>qV ht hxy hn ap aq hw (f1 _ hp _ hq)
  have inn:∀ {k:Nat} {q:Acc},q ∈ y.acc→dV tr y.i q k→(q.own.isSome=true→Own (tr y.i).E.ρ (tr y.i).hp k)→s.a≤k→k < s.b→False:=by
   intro k q hq aq lq h1 h2
   rcases f2 with h|h
   ·have:=hs.ev.al h.1 h.2;omega
   ·rcases h q hq with h|⟨hcl,hos⟩
    ·have:=Nat.le_of_ble_eq_true h;have:=(ht.ext q.b x.i this (by omega)).n;have:=aq.2.1;rw [hs.ev.a] at h1;omega
    ·have hk:=hs.keep hcl;rw [hs.ev.b] at h2;rw [hs.ev.a] at h1
     rcases (ht.ext (x.i+1) y.i (by omega) hn).own k (lq hos) with h|h
     ·rw [hk.1,hk.2] at h;have:=(ht.rel x.i (by omega)).iE h;omega
     ·omega
  have out:∀ {k:Nat} {p:Acc},dV tr x.i p k→t.a≤k→False:=by intro k p ap h1;have:=(ht.ext p.b x.i ap.1 (by omega)).n;have:=(ht.ext x.i y.i (by omega) hn).n;have:=ap.2.1;rw [hy.ev.a] at h1;omega
  unfold conflict at hc;simp only [Bool.or_eq_true,qq7,Bool.not_eq_true'] at hc
  rcases hc with (((((((hc|hc)|hc)|hc)|hc)|hc)|hc)|hc)|hc
  ·obtain ⟨k,k1,k2⟩:=eG.1 hc;obtain ⟨p,p1,p2,p3⟩:=hs.ev.wr k k1;obtain ⟨q,q1,q2,q3⟩:=hy.ev.rd k k2;exact two p1 q1 p3 q3 (.inl p2)
  ·obtain ⟨k,k1,k2⟩:=eG.1 hc;obtain ⟨p,p1,p2,p3⟩:=hs.ev.wr k k1;obtain ⟨q,q1,q2,q3⟩:=hy.ev.wr k k2;exact two p1 q1 p3 q3 (.inl p2)
  ·obtain ⟨k,k1,k2⟩:=eG.1 hc;obtain ⟨q,q1,q2,q3⟩:=hy.ev.wr k k1;obtain ⟨p,p1,p2,p3⟩:=hs.ev.rd k k2;exact two p1 q1 p3 q3 (.inr q2)
  ·rw [hs.ev.call] at hc
   cases hw:t.wr with
   | nil=>rw [hw] at hc;simp at hc
   | cons k l =>
    obtain ⟨q,q1,q2,q3⟩:=hy.ev.wr k (by rw [hw];simp)
    rcases f3 with h|h
    ·rw [hc.1] at h;cases h
    ·rw [h q q1] at q2;cases q2
  ·rw [hy.ev.call] at hc
   cases hw:s.wr with
   | nil=>rw [hw] at hc;simp at hc
   | cons k l =>
    obtain ⟨p,p1,p2,p3⟩:=hs.ev.wr k (by rw [hw];simp)
    rcases f4 with h|h
    ·rw [hc.1] at h;cases h
    ·rw [h p p1] at p2;cases p2
  ·obtain ⟨k,k1,k2,k3⟩:=within_iff.1 hc;obtain ⟨q,q1,q2,q3,q4⟩:=hy.S6 k k1;exact inn q1 q3 q4 k2 k3
  ·obtain ⟨k,k1,k2,k3⟩:=within_iff.1 hc;obtain ⟨q,q1,q2,q3⟩:=hy.ev.wr k k1;exact inn q1 q3 (fun ho=>q3.GB ho q2) k2 k3
  ·obtain ⟨k,k1,k2,k3⟩:=within_iff.1 hc;obtain ⟨p,p1,p2,p3⟩:=hs.ev.rd k k1;exact out p3 k2
  ·obtain ⟨k,k1,k2,k3⟩:=within_iff.1 hc;obtain ⟨p,p1,p2,p3⟩:=hs.ev.wr k k1;exact out p3 k2
inductive oZ (tr:Nat→bC):Nat→List hU→List Ev→Prop
 | nil:oZ tr 0 [] []
 | cons {i:Nat} {x:hU} {ev:Ev} {l:List hU} {m:List Ev}:oZ tr i l m→x.i=i→oY tr x ev.t→oZ tr (i+1) (x :: l) (ev :: m)
theorem oZ.lt {tr:Nat→bC} {i:Nat} {l:List hU} {m:List Ev} (h:oZ tr i l m):∀ x ∈ l,x.i < i:=by
 induction h with
 | nil=>intro x hx;cases hx
 | cons _ hi _ ih =>
  intro y hy
  rcases List.mem_cons.1 hy with rfl|hy
  ·omega
  ·have:=ih y hy;omega
theorem oZ.snoc {tr:Nat→bC} {i:Nat} {z:bC} {l:List hU} {m:List Ev}:∀ {j:Nat},oZ tr j l m→j≤i→oZ (snoc tr i z) j l m:=by
 intro j h
 induction h with
 | nil=>intro _;exact .nil
 | cons _ hi he ih=>intro hj;exact .cons (ih (by omega)) hi (he.snoc (by omega))
theorem oZ.pairs {tr:Nat→bC} {n:Nat} (ht:ji base aE tr n) {b:List Nat} {i:Nat} {l:List hU} {m:List Ev} (h:oZ tr i l m):i≤n→QU b l=true→bT T b m=true:=by
 induction h with
 | nil=>intro _ _;rfl
 | cons hl hi he ih =>
  rename_i i y ev l m;intro hn hc;simp only [QU,qq7,List.all_eq_true] at hc;simp only [bT,qq7,List.all_eq_true];refine ⟨?_,ih (by omega) hc.2⟩;have hc1:=hc.1;clear ih hc
  have key:∀ {j:Nat} {l:List hU} {m:List Ev},oZ tr j l m→(∀ x ∈ l,(b.getD y.i 0).testBit x.i=true∨vp x y=true)→j≤y.i→∀ s ∈ m,(!conflict s.t ev.t || (b.getD ev.t.idx 0).testBit s.t.idx || spare T s ev)=true:=by
   intro j l m h
   induction h with
   | nil=>intro _ _ s hs;cases hs
   | cons hl' hi' he' ih' =>
    rename_i x ev' _ _;intro hx hj s hs
    rcases List.mem_cons.1 hs with rfl|hs
    ·rcases hx x (by simp) with h|h
     ·rw [he.ev.idx,he'.ev.idx,h];simp
     ·rw [Fe ht he' he (by omega) (by omega) h];simp
    ·exact ih' (fun z hz=>hx z (List.mem_cons_of_mem _ hz)) (by omega) s hs
  exact key hl (fun x hx=>by simpa using hc1 x hx) (by omega)
variable {mu : Tmp → Bool} {fr : Nat → AV} {KS : bU → Prop} {rd : Bool} {dst : Option Tmp}
end
theorem qq1 {T tab one c st K} (h:oB T tab one (fun _=>false) c st K):av T tab one c st K:=aa h
theorem qq2 {T tab one a b st K} (h:oB T tab one (fun _=>false) a st (wR (fun s=>av T tab one b s K) K)):av T tab one (.seq a b) st K:=bx h
theorem qq3 {T tab one F l hp a Q} (h:az T tab one F l hp a Q):az T tab one F l hp a Q:=h
theorem qq4 {T own t x i fr hp K} (h:RM.wpOp T own (.indexAddr t x i) fr hp K):RM.wpOp T own (.indexAddr t x i) fr hp K:=h
end Go.RM
