/-
  A layer of contracts over the abstract machine. Lemmas alone; no condition.
-/
import Derived.Test.YtlpmfgmldmdggaaGreatA1
import Derived.OpenShut
import Derived.ChangeArms
import Derived.DataReads
import Derived.IntWalk
namespace Go.RM
open Go
structure bO where
 fr:Nat→AV
 hp:List AB
 aC:bJ
 rd:Bool
 fl:Nat
structure lq (fl base:Nat) (E:Env) (hp:List AB) (H:Hp) (E':Env) (hp':List AB) (H':Hp):Prop where
 n:H.n≤H'.n
 zM:∀ j v k,j < fl→E.ρ j v=some k→E'.ρ j v=some k
 own:∀ k,Own E'.ρ hp' k→Own E.ρ hp k∨H.n≤k
 d:∀ k,E'.D k→E.D k∨H.n≤k
 x:∀ k,E'.X k→E.X k∨H.n≤k
 xk:∀ k,E.X k→E'.X k
 s:∀ k,E'.S k→E.S k∨H.n≤k
 same:∀ k,k < H.n→¬ Own E.ρ hp k→¬ E.D k→H'.get k=H.get k
 lo:min H.lo base≤H'.lo
section
variable {T : bC} {tab : List XE} {one : Bool} {fl base : Nat} {E E' E2 : Env} {hp hp' hp2 : List AB} {aC amb' : bJ} {H H' H2 : Hp} {ρ : Nat → Nat → Option Nat} {g : aG} {O : Nat → Prop}
theorem lq.refl:lq fl base E hp H E hp H:=⟨qq6 _,fun _ _ _ _ h=>h,fun _ h=>.inl h,fun _ h=>.inl h,fun _ h=>.inl h,fun _ h=>h,fun _ h=>.inl h,fun _ _ _ _=>rfl,Nat.min_le_left _ _⟩
theorem lq.trans (a:lq fl base E hp H E' hp' H') (b:lq fl base E' hp' H' E2 hp2 H2):lq fl base E hp H E2 hp2 H2:=by
 have step:∀ {P P' P2:Nat→Prop},(∀ k,P' k→P k∨H.n≤k)→(∀ k,P2 k→P' k∨H'.n≤k)→∀ k,P2 k→P k∨H.n≤k:=by
  intro P P' P2 h1 h2 k hk
  rcases h2 k hk with h|h
  ·exact h1 k h
  ·exact .inr (Nat.le_trans a.n h)
 refine ⟨Nat.le_trans a.n b.n,fun j v k hl h=>b.zM j v k hl (a.zM j v k hl h),step a.own b.own,step a.d b.d,step a.x b.x,fun k h=>b.xk k (a.xk k h),step a.s b.s,fun k hk ho hd=>?_,?_⟩
 ·rw [b.same k (Nat.lt_of_lt_of_le hk a.n) (fun h=>(a.own k h).elim ho (fun h=>by omega)) (fun h=>(a.d k h).elim hd (fun h=>by omega)),a.same k hk ho hd]
 ·have:=a.lo;have:=b.lo;omega
theorem Ext.Ho (e:Ext base E hp H E' hp' H'):lq fl base E hp H E' hp' H' :=
 ⟨e.n,fun j v k _ h=>e.zM j v k h,e.own,fun k h=>.inl (by rw [←e.d];exact h),fun k h=>.inl (by rw [←e.x];exact h),fun k h=>by rw [e.x];exact h,fun k h=>.inl (by rw [←e.s];exact h),fun k hk ho _=>e.same k hk ho,e.lo⟩
theorem lq.keep (e:lq fl base E hp H E' hp' H') (h:aX E base hp aC H):∀ k b,H.get k=some b→¬ E.O hp k→H'.get k=some b∧¬ E'.O hp' k:=by
 intro k b hk ho;have hlt:=h.wf.lt hk;refine ⟨by rw [e.same k hlt (fun h=>ho (.inl h)) (fun hd=>ho (.inr (h.dx k hd)))];exact hk,fun h'=>?_⟩
 rcases h' with h'|h'
 ·rcases e.own k h' with h'|h'
  ·exact ho (.inl h')
  ·omega
 ·rcases e.x k h' with h'|h'
  ·exact ho (.inr h')
  ·omega
theorem lq.full (e:lq hp.length base E hp H E' hp' H') (h:aX E base hp aC H):∀ j v k,E.ρ j v=some k→E'.ρ j v=some k:=fun j v k hk=>by
 by_cases hj:j < hp.length
 ·exact e.zM j v k hj hk
 ·rw [h.new j v (by omega)] at hk;cases hk
theorem lq.low (e:lq hp.length base E hp H E' hp' H') (h:aX E base hp aC H) (fl:Nat):lq fl base E hp H E' hp' H':=⟨e.n,fun j v k _ hk=>e.full h j v k hk,e.own,e.d,e.x,e.xk,e.s,e.same,e.lo⟩
theorem lq.ar (e:lq hp.length base E hp H E' hp' H') (h:aX E base hp aC H) {v:AV} {u:Value} (ha:AR E.ρ H.get (E.O hp) v u):AR E'.ρ H'.get (E'.O hp') v u:=ha.mono (e.full h) (e.keep h)
theorem lq.fr (e:lq hp.length base E hp H E' hp' H') (h:aX E base hp aC H) {fr:Nat→AV} {tm:Tr Value} (hf:lQ E.ρ H.get (E.O hp) fr tm):lQ E'.ρ H'.get (E'.O hp') fr tm:=fun t=>e.ar h (hf t)
def A4 (fr:Nat→AV) (d:Option Tmp) (v:AV):Nat→AV :=
 match d with
 | some d=>fun t=>bif Nat.beq t d then v else fr t
 | none=>fr
theorem ot {fr:Nat→AV} {tm:Tr Value} (h:lQ ρ g O fr tm) {v:AV} {u:Value} (hv:AR ρ g O v u) (d:Option Tmp):lQ ρ g O (A4 fr d v) (cY tm d u):=by
 cases d with
 | none=>exact h
 | some d =>
  intro t;show AR ρ g O (bif Nat.beq t d then v else fr t) (((tm.set d u).get t).getD undef);rw [Tr.gk,Tr.beq_eq];by_cases htd:t=d
  ·rw [if_pos htd,decide_eq_true htd];exact hv
  ·rw [if_neg htd,decide_eq_false htd];exact h t
structure qR (E:Env) (base:Nat) (st:bO) (s:St):Prop where
 h:aX E base st.hp st.aC s.hp
 rd:s.rd=st.rd
 fr:lQ E.ρ s.hp.get (E.O st.hp) st.fr s.fr
def au (T:bC) (tab:List XE) (one:Bool) (F:AV) (args:List AV) (hp:List AB) (aC:bJ) (Q:AV→List AB→bJ→Prop):Prop :=
 ∀ (E:Env) (base:Nat) (H:Hp) (u:Value) (us:List Value),aX E base hp aC H→AR E.ρ H.get (E.O hp) F u→fB E.ρ H.get (E.O hp) args us→∃ goal,cy u us=some goal ∧
  ∃ m L,RX T tab m (jS H goal)=some L∧(one=true→∃ r,L=[r])∧∀ r ∈ L,∃ w H',r=.ret w H' ∧
   ∃ E' a hp' amb',Q a hp' amb'∧aX E' base hp' amb' H'∧AR E'.ρ H'.get (E'.O hp') a w∧lq hp.length base E hp H E' hp' H'
def ah (T:bC) (tab:List XE) (one:Bool) (F:AV) (args:List AV) (v:AV):Prop :=
 v.deep=true∧∀ (X:Nat→Prop) (H:Hp) (u:Value) (us:List Value),Wf H→(∀ k,X k→k < H.n)→DR H.get X F u→si H.get X args us→∃ goal,cy u us=some goal ∧
  ∃ m L,RX T tab m (jS H goal)=some L∧(one=true→∃ r,L=[r])∧∀ r ∈ L,∃ w H',r=.ret w H' ∧
   H.n≤H'.n∧Wf H'∧(∀ k,k < H.n→H'.get k=H.get k)∧min H.lo H.n≤H'.lo∧DR H'.get X v w
theorem ah.call {F:AV} {args:List AV} {v:AV} (h:ah T tab one F args v) (hF:F.deep=true) (hargs:cV args=true) {Q:AV→List AB→bJ→Prop} (hq:Q v hp aC):au T tab one F args hp aC Q:=by
 intro E base H u us hr hf ha;obtain ⟨hd,h⟩:=h;obtain ⟨goal,hg,m,L,h1,h2,h3⟩:=h (E.O hp) H u us hr.wf (fun k hk=>hk.elim (fun h=>hr.nK h) (hr.xn k)) (hf.deep hF) (ha.deep hargs);refine ⟨goal,hg,m,L,h1,h2,fun r hm=>?_⟩;obtain ⟨w,H',rfl,hn,hwf,hsame,hlo,hv⟩:=h3 r hm;have e:Ext base E hp H E hp H':=⟨hn,rfl,rfl,rfl,fun _ _ _ h=>h,fun _ h=>.inl h,fun k hk _=>hsame k hk,by have:=hr.bn;omega⟩;refine ⟨w,H',rfl,E,v,hp,aC,hq,⟨hwf,fun j x aE hj hvx=>?_,hr.inj,fun j v k hk=>Nat.lt_of_lt_of_le (hr.rn j v k hk) hn,hr.fresh,hr.new,hr.sup,hr.gW,hr.dx,hr.ds,fun k hk=>Nat.lt_of_lt_of_le (hr.sn k hk) hn,fun k hk=>Nat.lt_of_lt_of_le (hr.xn k hk) hn,hr.oX,Nat.le_trans hr.bn hn,aC.st hr.aC (fun k hk=>hsame k (hr.sn k hk)) hn⟩,.d hv,e.Ho⟩
 rcases hr.gm j x aE hj hvx with ⟨k,b',q1,q2,q3⟩|q
 ·exact .inl ⟨k,b',q1,by rw [hsame k (hr.wf.lt q2)];exact q2,e.br hr.wf q3⟩
 ·exact .inr q
theorem au.mono {F:AV} {args:List AV} {Q Q':AV→List AB→bJ→Prop} (h:au T tab one F args hp aC Q) (hq:∀ a hp aC,Q a hp aC→Q' a hp aC):au T tab one F args hp aC Q':=by intro E base H u us hr hf ha;obtain ⟨goal,hg,m,L,h1,h2,h3⟩:=h E base H u us hr hf ha;refine ⟨goal,hg,m,L,h1,h2,fun r hm=>?_⟩;obtain ⟨w,H',rfl,E',a,hp',amb',q1,q2⟩:=h3 r hm;exact ⟨w,H',rfl,E',a,hp',amb',hq _ _ _ q1,q2⟩
theorem A5:AR ρ g O (.tp []) undef:=.d (.tp rfl (fun i a u hx=>by cases hx))
def dA (ops:List Oper) (gd:Option (Nat × Bool)) (fr:Nat→AV) (yes no:Prop):Prop :=
 match gd with
 | none=>yes
 | some (j,want)=>match ops[j]? with
  | some ⟨some d,_,_,_,_,_⟩=>match fr d with
   | .fl (.bool b)=>(b=want→yes)∧(b=(!want)→no)
   | .tp _=>no
   | _=>False
  | _=>False
def gY (d:Option Tmp) (fr:Nat→AV) (v:AV) (K:(Nat→AV)→Prop):Prop :=
 match d with
 | some d=>K fun t=>bif Nat.beq t d then v else fr t
 | none=>K fr
theorem kT {d:Option Tmp} {fr:Nat→AV} {v:AV} {K:(Nat→AV)→Prop} (h:gY d fr v K):K (A4 fr d v):=by cases d <;> exact h
def HF (mu:Tmp→Bool):Option Tmp→Bool
 | some d=>mu d
 | none=>false
def xS (P:Program) (v:AV) (name:String):AV :=
 match v with
 | .fl (.iface t x)=>match aK P (method (P.types.size+Made.depth) t x name) with
  | some (f,v)=>bif flat v then .fn f [qL v] [] else .cA
  | none=>.cA
 | _=>.cA
def LI (P:Program) (fr:Nat→AV):KA→AV
 | .op f=>bh fr f
 | .DI r name=>xS P (bh fr r) name
theorem Fy {ρ:Nat→Nat→Option Nat} {g:aG} {O:Nat→Prop} {P:Program} {v:AV} {u:Value} (hr:AR ρ g O v u) (name:String):AR ρ g O (xS P v name) (uI P u name):=by
 unfold xS;split
 ·rename_i t x;obtain ⟨e1,_⟩:=hr.eU;rw [e1];unfold uI;simp only
  cases hp:aK P (method (P.types.size+Made.depth) t x name) with
  | none=>exact .cA
  | some p =>
   obtain ⟨f,v⟩:=p;simp only
   cases hv:flat v with
   | true =>
    simp only [cond_true];refine .fn (a:=[qL v]) (b:=[]) (a':=#[v]) (b':=#[]) rfl rfl (fun i x u hx hu=>?_) (fun i x u hx=>by cases hx)
    cases i with
    | zero =>cases hx;cases hu;exact kP hv
    | succ i=>cases hx
   | false=>exact .cA
 ·exact .cA
theorem FA {ρ:Nat→Nat→Option Nat} {g:aG} {O:Nat→Prop} {P:Program} {fr:Nat→AV} {tm:Tr Value} (h:lQ ρ g O fr tm) (f:KA):AR ρ g O (LI P fr f) (lD P tm f):=by
 cases f with
 | op f=>exact ji h f
 | DI r name=>exact Fy (ji h r) name
def qS (T:bC) (tab:List XE) (one:Bool) (mu:Tmp→Bool) (dst:Option Tmp) (op:Op) (fr:Nat→AV) (hp:List AB) (aC:bJ) (rd:Bool) (fl:Nat) (K:bO→Prop):Prop :=
 match cS op with
 | .call f args=>force (LI T.P fr f) fun F=>eB (args.map (bh fr)) fun as=>au T tab one F as hp aC fun v hp' amb'=>gY dst fr v fun fr'=>K ⟨fr',hp',amb',rd,fl⟩
 | .next it=>one=false∧force (bh fr it) fun x=>y9 x hp fun v hp'=>gY dst fr v fun fr'=>K ⟨fr',hp',aC,rd,fl⟩
 | .plain=>wpOp T (HF mu dst) op fr hp fun v hp'=>force v fun v=>gY dst fr v fun fr'=>K ⟨fr',hp',aC,rd,fl⟩
def wpOps (T:bC) (tab:List XE) (one:Bool) (mu:Tmp→Bool) (ops:List Oper):List Oper→bO→(bO→Prop)→Prop
 | [],st,K=>K st
 | ⟨dst,op,_,_,_,gd⟩ :: l,⟨fr,hp,aC,rd,fl⟩,K=>dA ops gd fr (qS T tab one mu dst op fr hp aC rd fl fun st'=>wpOps T tab one mu ops l st' K) (gY dst fr (.tp []) fun fr'=>wpOps T tab one mu ops l ⟨fr',hp,aC,rd,fl⟩ K)
def pQ {β:Type} (one:Bool) (L:List β) (P:β→Prop):Prop:=(one=true→∃ p,L=[p])∧∀ p ∈ L,P p
theorem pQ.single {β:Type} {p:β} {P:β→Prop} (h:P p):pQ one [p] P:=⟨fun _=>⟨p,rfl⟩,fun q hq=>by obtain rfl:=List.mem_singleton.1 hq;exact h⟩
theorem fE {α β:Type} {f:Nat→α→Option (List β)} {P:β→Prop} (mono:∀ n m x M,n≤m→f n x=some M→f m x=some M):∀ {L:List α} (n0:Nat),(one=true→∃ x,L=[x])→(∀ x ∈ L,∃ m M,f m x=some M∧pQ one M P) →
  ∃ m M,n0≤m∧bp L (f m)=some M∧pQ one M P
 | [],n0,h1,_=>⟨n0,[],qq6 _,rfl,⟨fun h=>absurd (h1 h) (fun ⟨x,hx⟩=>by cases hx),fun p hp=>by cases hp⟩⟩
 | [x],n0,_,h=>by obtain ⟨m,M,h1,h2⟩:=h x (by simp);exact ⟨max n0 m,M,Nat.le_max_left _ _,by rw [dH];exact mono m _ x M (Nat.le_max_right _ _) h1,h2⟩
 | x :: y :: l,n0,h1,h=>by
  have hone:one=false:=by
   cases hb:one with
   | false=>rfl
   | true=>obtain ⟨z,hz⟩:=h1 hb;cases hz
  have hno:one=true→False:=fun h=>by rw [hone] at h;cases h
  obtain ⟨m,M,a1,a2⟩:=h x (by simp);obtain ⟨m',M',b0,b1,b2⟩:=fE mono (L:=y :: l) (max n0 m) (fun h=>(hno h).elim) (fun z hz=>h z (List.mem_cons_of_mem _ hz));have hle:=Nat.max_le.1 b0;refine ⟨m',M++M',hle.1,?_,⟨fun h=>(hno h).elim,fun p hp=>?_⟩⟩
  ·rw [gu,mono m m' x M hle.2 a1];simp only [b1,Option.map_some]
  ·rcases List.mem_append.1 hp with hp|hp
   ·exact a2.2 p hp
   ·exact b2.2 p hp
def qT (E:Env) (base:Nat) (st:bO) (s:St) (K:bO→Prop) (s':St):Prop:=∃ E' st',K st'∧st'.fl=st.fl∧qR E' base st' s'∧lq st.fl base E st.hp s.hp E' st'.hp s'.hp
theorem fF {b want:Bool} {yes no:Prop} (h:b=want) (y:yes):(b=want→yes)∧(b=(!want)→no):=by subst h;exact ⟨fun _=>y,fun h'=>by cases b <;> cases h'⟩
theorem gn {b want:Bool} {yes no:Prop} (h:b=(!want)) (n:no):(b=want→yes)∧(b=(!want)→no):=by subst h;exact ⟨fun h'=>(by cases want <;> cases h'),fun _=>n⟩
theorem HG {t:Bool} {a b:Prop} (h:t=true) (y:a):(t=true→a)∧(t=false→b):=by subst h;exact ⟨fun _=>y,fun h'=>by cases h'⟩
theorem JJ {t:Bool} {a b:Prop} (h:t=false) (y:b):(t=true→a)∧(t=false→b):=by subst h;exact ⟨fun h'=>(by cases h'),fun _=>y⟩
theorem A6 {ops:List Oper} {gd:Option (Nat × Bool)} {fr:Nat→AV} {tm:Tr Value} (hf:lQ ρ g O fr tm) {yes no:Prop} (h:dA ops gd fr yes no):(bu ops tm gd=true∧yes)∨(bu ops tm gd=false∧no):=by
 unfold dA at h;unfold bu;split at h
 ·exact .inl ⟨rfl,h⟩
 ·rename_i j want;split at h
  ·rename_i d o1 o2 o3 o4 o5 ho;simp only [ho];split at h
   ·rename_i b hb;have:=hf d;rw [hb] at this;have hv:=this.eU.1
    cases hd:tm.get d with
    | none=>rw [hd] at hv;cases hv
    | some v =>rw [hd] at hv;simp only [Option.getD_some] at hv;subst hv;simp only;cases b <;> cases want <;> first|exact .inl ⟨rfl,h.1 rfl⟩|exact .inr ⟨rfl,h.2 rfl⟩
   ·rename_i vs hb;have:=hf d;rw [hb] at this;obtain ⟨us,hv,_⟩:=this.vK
    cases hd:tm.get d with
    | none=>exact .inr ⟨rfl,h⟩
    | some v =>rw [hd] at hv;simp only [Option.getD_some] at hv;subst hv;exact .inr ⟨rfl,h⟩
   ·exact h.elim
  ·exact h.elim
theorem kU {mu:Tmp→Bool} {ops:List Oper}:∀ {l:List Oper} {st:bO} {K:bO→Prop},wpOps T tab one mu ops l st K→∀ {E:Env} {base:Nat} {s:St},qR E base st s →
  ∃ m L,aV T (RX T tab m) ops l s=some L∧pQ one L (qT E base st s K)
 | [],st,K,h,E,base,s,hs=>⟨0,[s],rfl,.single ⟨E,st,h,rfl,hs,.refl⟩⟩
 | o :: l,st,K,h,E,base,s,hs=>by
  have h:dA ops o.guard st.fr (qS T tab one mu o.dst o.op st.fr st.hp st.aC st.rd st.fl fun st'=>wpOps T tab one mu ops l st' K) (gY o.dst st.fr (.tp []) fun fr'=>wpOps T tab one mu ops l ⟨fr',st.hp,st.aC,st.rd,st.fl⟩ K):=h
  rcases A6 hs.fr h with ⟨hg,h⟩|⟨hg,h⟩
  ·
   have rest:∀ {E':Env} {st':bO} {s':St},st'.fl=st.fl→lq st.fl base E st.hp s.hp E' st'.hp s'.hp→qR E' base st' s'→wpOps T tab one mu ops l st' K→∃ m L,aV T (RX T tab m) ops l s'=some L∧pQ one L (qT E base st s K):=by intro E' st' s' hfl hfm hs' hw;obtain ⟨m,L,h1,h2,h3⟩:=kU hw hs';refine ⟨m,L,h1,h2,fun p hp=>?_⟩;obtain ⟨E2,st2,k1,k0,k2,k3⟩:=h3 p hp;rw [hfl] at k3;exact ⟨E2,st2,k1,k0.trans hfl,k2,hfm.trans k3⟩
   have fin:∀ (m0:Nat) (L0:List (Value × Hp)),(∀ m,m0≤m→dS T (RX T tab m) o.op s=some L0)→(one=true→∃ x,L0=[x])→(∀ p ∈ L0,∃ m L,aV T (RX T tab m) ops l ⟨cY s.fr o.dst p.1,p.2,s.rd⟩=some L∧pQ one L (qT E base st s K)) →
     ∃ m L,aV T (RX T tab m) ops (o :: l) s=some L∧pQ one L (qT E base st s K):=by
    intro m0 L0 h0 h1 h2;obtain ⟨m,M,hm,q1,q2⟩:=fE (one:=one) (f:=fun m (p:Value × Hp)=>aV T (RX T tab m) ops l ⟨cY s.fr o.dst p.1,p.2,s.rd⟩) (P:=qT E base st s K) (fun n m x M hnm hx=>iG (gV hnm) ops l _ M hx) m0 h1 h2;refine ⟨m,M,?_,q2⟩;rw [bU,hg];simp only [cond_true,h0 m hm];exact q1
   unfold qS at h;split at h
   ·rename_i f args hk;have h:=gK (dP h);obtain ⟨goal,hgo,m0,L0,q1,q2,q3⟩:=h E base s.hp _ _ hs.h (FA hs.fr f) (i7 hs.fr args)
    have hval:∃ V,bp L0 valOf=some V∧(one=true→∃ x,V=[x])∧∀ p ∈ V,∃ r ∈ L0,r=.ret p.1 p.2:=by
     have:∀ (L:List eF),(∀ r ∈ L,∃ w H',r=eF.ret w H')→∃ V,bp L valOf=some V∧V.length=L.length∧∀ p ∈ V,∃ r ∈ L,r=.ret p.1 p.2:=by
      intro L
      induction L with
      | nil=>intro _;exact ⟨[],rfl,rfl,fun p hp=>by cases hp⟩
      | cons r L ih =>
       intro hr;obtain ⟨w,H',hrr⟩:=hr r (by simp);obtain ⟨V,v1,v2,v3⟩:=ih (fun r' h'=>hr r' (List.mem_cons_of_mem _ h'))
       cases L with
       | nil =>refine ⟨[(w,H')],by rw [dH,hrr];rfl,rfl,fun p hp=>?_⟩;obtain rfl:=List.mem_singleton.1 hp;exact ⟨r,by simp,hrr⟩
       | cons r2 L2 =>
        refine ⟨(w,H') :: V,?_,by simp [v2],fun p hp=>?_⟩
        ·rw [gu,hrr];simp only [valOf,v1,Option.map_some];rfl
        ·rcases List.mem_cons.1 hp with rfl|hp
         ·exact ⟨r,by simp,hrr⟩
         ·obtain ⟨r',m1,m2⟩:=v3 p hp;exact ⟨r',List.mem_cons_of_mem _ m1,m2⟩
     obtain ⟨V,v1,v2,v3⟩:=this L0 (fun r hr=>by obtain ⟨w,H',e,_⟩:=q3 r hr;exact ⟨w,H',e⟩);refine ⟨V,v1,fun h1=>?_,v3⟩;obtain ⟨r,hr⟩:=q2 h1;subst hr
     match V,v2 with
     | [x],_=>exact ⟨x,rfl⟩
    obtain ⟨V,v1,v2,v3⟩:=hval;refine fin m0 V (fun m hm=>?_) v2 (fun p hp=>?_)
    ·unfold dS;simp only [hk,hgo,gV hm _ _ q1];exact v1
    ·obtain ⟨r,hr,hrr⟩:=v3 p hp;obtain ⟨w,H',e1,E',a,hp',amb',k1,k2,k3,k4⟩:=q3 r hr;rw [hrr] at e1;cases e1;exact rest (st':=⟨A4 st.fr o.dst a,hp',amb',st.rd,st.fl⟩) rfl (k4.low hs.h _) ⟨k2,hs.rd,ot (k4.fr hs.h hs.fr) k3 o.dst⟩ (kT k1)
   ·rename_i it hk;obtain ⟨hone,h⟩:=h;obtain ⟨L,q1,q2⟩:=xg hs.h (ji hs.fr it) (dP h);refine fin 0 (L.map fun (v,e)=>(v,s.hp.app e)) (fun m _=>?_) (fun h1=>by rw [hone] at h1;cases h1) (fun p hp=>?_)
    ·unfold dS;simp only [hk,q1,Option.map_some]
    ·obtain ⟨x,hx,rfl⟩:=List.mem_map.1 hp;obtain ⟨E',a,hp',k1,k2,k3,k4⟩:=q2 x hx;exact rest (st':=⟨A4 st.fr o.dst a,hp',st.aC,st.rd,st.fl⟩) rfl k3.Ho ⟨k2,hs.rd,ot (k3.Ho.fr hs.h hs.fr) k4 o.dst⟩ (kT k1)
   ·rename_i hk;obtain ⟨u,e,E',a,hp',r1,r2,r3,r4,r5⟩:=vR hs.h hs.fr h;refine fin 0 [(u,s.hp.app e)] (fun m _=>?_) (fun _=>⟨_,rfl⟩) (fun p hp=>?_)
    ·unfold dS;simp only [hk,r1]
    ·obtain rfl:=List.mem_singleton.1 hp;exact rest (st':=⟨A4 st.fr o.dst a,hp',st.aC,st.rd,st.fl⟩) rfl r4.Ho ⟨r3,hs.rd,ot (r4.Ho.fr hs.h hs.fr) r5 o.dst⟩ (kT (dP r2))
  ·obtain ⟨m,L,h1,h2⟩:=kU (kT h) (E:=E) (base:=base) (s:=⟨cY s.fr o.dst undef,s.hp,s.rd⟩) ⟨hs.h,hs.rd,ot hs.fr A5 o.dst⟩;refine ⟨m,L,?_,h2⟩;rw [bU,hg];exact h1
def ay (T:bC) (tab:List XE) (one:Bool) (c:Code) (st:bO) (K:Exit→bO→Prop):Prop :=
 ∀ (E:Env) (base:Nat) (s:St),qR E base st s→∃ m L,bH T (RX T tab m) c s=some L∧pQ one L fun p=>qT E base st s (K p.1) p.2
theorem ay.mono {c:Code} {st:bO} {K K':Exit→bO→Prop} (h:ay T tab one c st K) (hk:∀ e s,K e s→K' e s):ay T tab one c st K':=by intro E base s hs;obtain ⟨m,L,h1,h2,h3⟩:=h E base s hs;refine ⟨m,L,h1,h2,fun p hp=>?_⟩;obtain ⟨E',st',k1,k2⟩:=h3 p hp;exact ⟨E',st',hk _ _ k1,k2⟩
def FB (st st':bO):Prop:=st'.hp=st.hp∧(st'.aC=st.aC∧st'.rd=st.rd)∧st'.fl=st.fl∧∀ t,st'.fr t=st.fr t∨st'.fr t=.cA
theorem FB.rel {st st':bO} (h:FB st st') {s:St} (hs:qR E base st s):qR E base st' s:=by
 obtain ⟨h1,⟨h2,h3⟩,h0,h4⟩:=h;refine ⟨by rw [h1,h2];exact hs.h,by rw [h3];exact hs.rd,fun t=>?_⟩;rw [h1]
 rcases h4 t with h|h
 ·rw [h];exact hs.fr t
 ·rw [h];exact .cA
def qU (Kb:bO→Prop) (K:Exit→bO→Prop) (e:Exit) (s:bO):Prop :=
 match e with
 | .normal=>Kb s
 | e=>K e s
theorem ay.seq {a b:Code} {st:bO} {K:Exit→bO→Prop} (h:ay T tab one a st (qU (fun s=>ay T tab one b s K) K)):ay T tab one (.seq a b) st K:=by
 intro E base s hs;obtain ⟨m0,L0,h1,h2,h3⟩:=h E base s hs
 obtain ⟨m,M,hm,q1,q2⟩:=fE (one:=one) (L:=L0) (f:=fun m (p:Exit × St)=>uK (bH T (RX T tab m) b) p) (P:=fun p=>qT E base st s (K p.1) p.2) (fun n m x M hnm hx=>by
   unfold uK at hx ⊢;split at hx
   ·exact dV (gV hnm) _ _ _ hx
   ·exact hx) m0 h2 (fun p hp=>by
  obtain ⟨E',st',k1,k0,k2,k3⟩:=h3 p hp;obtain ⟨e,s'⟩:=p;have other:(∀ st',qU (fun s=>ay T tab one b s K) K e st'=K e st')→(uK (bH T (RX T tab 0) b) (e,s')=some [(e,s')])→∃ m M,uK (bH T (RX T tab m) b) (e,s')=some M∧pQ one M fun p=>qT E base st s (K p.1) p.2:=by intro h1 h2;refine ⟨0,[(e,s')],h2,.single ⟨E',st',?_,k0,k2,k3⟩⟩;rw [←h1];exact k1
  cases e with
  | normal =>obtain ⟨m,M,r1,r2,r3⟩:=k1 E' base s' k2;refine ⟨m,M,r1,r2,fun q hq=>?_⟩;obtain ⟨E2,st2,j1,j0,j2,j3⟩:=r3 q hq;rw [k0] at j3;exact ⟨E2,st2,j1,j0.trans k0,j2,k3.trans j3⟩
  | _=>exact other (fun _=>rfl) rfl)
 refine ⟨m,M,?_,q2⟩;rw [lJ,dV (gV hm) _ _ _ h1];exact q1
theorem ay.cond {c:Operand} {a b:Code} {st:bO} {K:Exit→bO→Prop} {t:Bool} (hc:bh st.fr c=.fl (.bool t)) (h1:t=true→ay T tab one a st K) (h2:t=false→ay T tab one b st K):ay T tab one (.cond c a b) st K:=by
 intro E base s hs;have:=ji hs.fr c;rw [hc] at this;have hv:=this.eU.1
 cases t with
 | true =>obtain ⟨m,L,q1,q2⟩:=h1 rfl E base s hs;exact ⟨m,L,by rw [jY,hv];exact q1,q2⟩
 | false =>obtain ⟨m,L,q1,q2⟩:=h2 rfl E base s hs;exact ⟨m,L,by rw [jY,hv];exact q1,q2⟩
def kj (id:Nat) (K:Exit→bO→Prop) (e:Exit) (s:bO):Prop :=
 match e with
 | .exit id'=>bif Nat.beq id' id then K .normal s else K (.exit id') s
 | e=>K e s
theorem ay.block {id:Nat} {c:Code} {st:bO} {K:Exit→bO→Prop} (h:ay T tab one c st (kj id K)):ay T tab one (.block id c) st K:=by
 intro E base s hs;obtain ⟨m,L,q1,q2,q3⟩:=h E base s hs;refine ⟨m,L.map (fJ id),by rw [kI,q1],fun h1=>?_,fun p hp=>?_⟩
 ·obtain ⟨p,hp⟩:=q2 h1;exact ⟨_,by rw [hp];rfl⟩
 ·obtain ⟨p0,hm,rfl⟩:=List.mem_map.1 hp;obtain ⟨E',st',k1,k2,k3⟩:=q3 p0 hm;obtain ⟨e,s'⟩:=p0;unfold kj at k1
  cases e with
  | exit id' =>
   simp only [fJ];simp only at k1
   cases hb:Nat.beq id' id with
   | true=>rw [hb] at k1;exact ⟨E',st',k1,k2,k3⟩
   | false=>rw [hb] at k1;exact ⟨E',st',k1,k2,k3⟩
  | _=>exact ⟨E',st',k1,k2,k3⟩
theorem ay.ops {id:Nat} {ops:Array Oper} {mu:Tmp→Bool} {st:bO} {K:Exit→bO→Prop} (h:wpOps T tab one mu ops.toList ops.toList st (K .normal)):ay T tab one (.region id ops false) st K:=by
 intro E base s hs;obtain ⟨m,L,q1,q2,q3⟩:=kU h hs;refine ⟨m,L.map fun s=>(.normal,s),by rw [dU];simp only [cond_false,q1],fun h1=>?_,fun p hp=>?_⟩
 ·obtain ⟨p,hp⟩:=q2 h1;exact ⟨_,by rw [hp];rfl⟩
 ·obtain ⟨s',hm,rfl⟩:=List.mem_map.1 hp;exact q3 s' hm
theorem ay.here {c:Code} {e:Exit} {st:bO} {K:Exit→bO→Prop} (hc:∀ rec s,bH T rec c s=some [(e,s)]) (h:K e st):ay T tab one c st K :=
 fun E _ s hs=>⟨0,[(e,s)],hc _ _,.single ⟨E,st,h,rfl,hs,.refl⟩⟩
def sx (K:Exit→bO→Prop) (e:Exit) (s:bO):Prop :=
 match e with
 | .goto _=>False
 | e=>K e s
theorem ay.scope {c:Code} {st:bO} {K:Exit→bO→Prop} (h:ay T tab one c st (sx K)):ay T tab one (.scope c) st K:=by
 intro E base s hs;obtain ⟨m,L,q1,q2,q3⟩:=h E base s hs;refine ⟨m,L,?_,q2,fun p hp=>?_⟩
 ·rw [kK,q1];unfold uL;have:L.all noGoto=true:=by rw [List.all_eq_true];intro p hp;obtain ⟨_,_,k1,_⟩:=q3 p hp;obtain ⟨e,s'⟩:=p;cases e <;> first|rfl|exact k1.elim
  simp only [this,cond_true]
 ·obtain ⟨E',st',k1,k2⟩:=q3 p hp;refine ⟨E',st',?_,k2⟩;obtain ⟨e,s'⟩:=p;cases e <;> first|exact k1|exact k1.elim
end
end Go.RM
namespace Go.RM
open Go
section
variable {T : bC} {tab : List XE} {one : Bool} {fl base : Nat} {E E' E2 : Env} {hp hp' hp2 : List AB} {aC amb' : bJ} {H H' H2 : Hp} {ρ : Nat → Nat → Option Nat} {g : aG} {O : Nat → Prop}
mutual
def AV.gZ (n:Nat):AV→Bool
 | .fl _=>true
 | .sl _ _=>true
 | .pt _ _=>true
 | .fn _ a b=>sy n a && sy n b
 | .ag a=>sy n a
 | .tp a=>sy n a
 | .oq _=>true
 | .cA=>true
 | .ptr j _ _=>Nat.blt j n
 | .aL j _ _ _ _=>Nat.blt j n
 | .om j=>Nat.blt j n
def sy (n:Nat):List AV→Bool
 | []=>true
 | a :: l=>a.gZ n && sy n l
end
theorem lR {n:Nat}:∀ {l:List AV},sy n l=true→∀ (i:Nat) (a:AV),l[i]?=some a→a.gZ n=true
 | [],_,i,a,h=>by cases h
 | x :: l,h,i,a,ha=>by
  simp only [sy,qq7] at h
  cases i with
  | zero=>cases ha;exact h.1
  | succ i=>exact lR h.2 i a (by simpa using ha)
def eH (n:Nat) (ρ:Nat→Nat→Option Nat):Nat→Nat→Option Nat:=fun j v=>if j < n then ρ j v else none
theorem AR.gZ {n:Nat} {v:AV} {u:Value} (h:AR ρ g O v u):v.gZ n=true→AR (eH n ρ) g O v u:=by
 have lt:∀ {j:Nat},Nat.blt j n=true→j < n:=fun h=>Nat.le_of_ble_eq_true h
 induction h with
 | d h=>intro _;exact .d h
 | cA=>intro _;exact .cA
 | ptr h=>intro hd;simp only [AV.gZ] at hd;exact .ptr (by rw [eH,if_pos (lt hd)];exact h)
 | aL h=>intro hd;simp only [AV.gZ] at hd;exact .aL (by rw [eH,if_pos (lt hd)];exact h)
 | qK hc=>intro _;exact .qK hc
 | om h=>intro hd;simp only [AV.gZ] at hd;exact .om (by rw [eH,if_pos (lt hd)];exact h)
 | fn ha hb h1 h2 ih1 ih2 =>intro hd;simp only [AV.gZ,qq7] at hd;exact .fn ha hb (fun i x u hx hu=>ih1 i x u hx hu (lR hd.1 i x hx)) (fun i x u hx hu=>ih2 i x u hx hu (lR hd.2 i x hx))
 | ag ha h1 ih=>intro hd;simp only [AV.gZ] at hd;exact .ag ha (fun i x u hx hu=>ih i x u hx hu (lR hd i x hx))
 | tp ha h1 ih=>intro hd;simp only [AV.gZ] at hd;exact .tp ha (fun i x u hx hu=>ih i x u hx hu (lR hd i x hx))
def AB.gZ (n:Nat):AB→Bool
 | .cells cs _ _=>sy n cs
 | .dL _ _=>true
 | .map ents _=>ents.all fun p=>p.1.gZ n && p.2.1.gZ n
 | .iter j _ _ _=>Nat.blt j n
 | .gone=>true
def ak (st st':bO):Prop:=st'.fl=st.fl∧∀ (E:Env) (base:Nat) (s:St),qR E base st s→∃ E',qR E' base st' s∧lq st.fl base E st.hp s.hp E' st'.hp s.hp
theorem ak.refl (st:bO):ak st st:=⟨rfl,fun E _ _ h=>⟨E,h,.refl⟩⟩
theorem ak.trans {a b c:bO} (h:ak a b) (k:ak b c):ak a c:=⟨k.1.trans h.1,fun E base s hs=>by
 obtain ⟨E1,h1,h2⟩:=h.2 E base s hs;obtain ⟨E2,k1,k2⟩:=k.2 E1 base s h1;rw [h.1] at k2
 exact ⟨E2,k1,h2.trans k2⟩⟩
theorem FB.er {st st':bO} (h:FB st st'):ak st st':=⟨h.2.2.1,fun E _ _ hs=>⟨E,h.rel hs,by rw [h.1];exact .refl⟩⟩
theorem ay.aN {c:Code} {st st':bO} {K:Exit→bO→Prop} (hw:ak st st') (h:ay T tab one c st' K):ay T tab one c st K:=by intro E base s hs;obtain ⟨E1,hs1,hf⟩:=hw.2 E base s hs;obtain ⟨m,L,h1,h2,h3⟩:=h E1 base s hs1;refine ⟨m,L,h1,h2,fun p hp=>?_⟩;obtain ⟨E',st2,k1,k0,k2,k3⟩:=h3 p hp;rw [hw.1] at k3;exact ⟨E',st2,k1,k0.trans hw.1,k2,hf.trans k3⟩
def aT:List (Nat × AV)→Nat→AV
 | [],_=>.cA
 | (i,v) :: l,t=>bif Nat.beq t i then v else aT l t
theorem C8 {fr:Nat→AV}:∀ {l:List (Nat × AV)},(∀ p ∈ l,fr p.1=p.2)→∀ t,aT l t=fr t∨aT l t=.cA
 | [],_,t=>.inr rfl
 | (i,v) :: l,h,t=>by
  unfold aT;rw [Tr.beq_eq];by_cases hti:t=i
  ·rw [decide_eq_true hti];exact .inl (by rw [hti,h (i,v) (by simp)];rfl)
  ·rw [decide_eq_false hti];exact C8 (fun p hp=>h p (List.mem_cons_of_mem _ hp)) t
def A7 (fr:Nat→AV):List (Nat × AV)→Prop
 | []=>True
 | (i,v) :: l=>fr i=v∧A7 fr l
theorem A7.mem {fr:Nat→AV}:∀ {l:List (Nat × AV)},A7 fr l→∀ p ∈ l,fr p.1=p.2
 | [],_,p,hp=>by cases hp
 | (i,v) :: l,h,p,hp=>by
  rcases List.mem_cons.1 hp with rfl|hp
  ·exact h.1
  ·exact h.2.mem p hp
theorem ak.slots {st:bO} {l:List (Nat × AV)} {hp:List AB} (h:A7 st.fr l) (hh:st.hp=hp):ak st ⟨aT l,hp,st.aC,st.rd,st.fl⟩ :=
 FB.er ⟨hh.symm,⟨rfl,rfl⟩,rfl,fun t=>C8 h.mem t⟩
theorem ak.cut {st:bO} {n:Nat} (hn:st.fl≤n) (hfr:∀ t,(st.fr t).gZ n=true) (hh:(st.hp.take n).all (AB.gZ n)=true):ak st ⟨st.fr,st.hp.take n,st.aC,st.rd,st.fl⟩:=by
 refine ⟨rfl,fun E base s hs=>?_⟩;have hr:=hs.h;rw [List.all_eq_true] at hh
 have hown:∀ k,Own (eH n E.ρ) (st.hp.take n) k→Own E.ρ st.hp k:=by
  rintro k ⟨j,b,aE,h1,h2,h3⟩;rw [List.getElem?_take] at h1;split at h1
  ·rename_i hlt;rw [eH,if_pos hlt] at h3;exact ⟨j,b,aE,h1,h2,h3⟩
  ·cases h1
 have hO:∀ k b,s.hp.get k=some b→¬ E.O st.hp k→s.hp.get k=some b∧¬ ({E with ρ:=eH n E.ρ}:Env).O (st.hp.take n) k :=
  fun k b hk ho=>⟨hk,fun h=>ho (h.imp (hown k) id)⟩
 have har:∀ {v:AV} {u:Value},AR E.ρ s.hp.get (E.O st.hp) v u→v.gZ n=true→AR (eH n E.ρ) s.hp.get (({E with ρ:=eH n E.ρ}:Env).O (st.hp.take n)) v u :=
  fun h hi=>(h.gZ hi).mono (fun _ _ _ h=>h) hO
 refine ⟨{E with ρ:=eH n E.ρ},⟨⟨hr.wf,fun j b aE hj hv=>?_,fun j j' aE ver' k h1 h2=>?_,fun j v k hk=>?_,fun j b aE v h1 h2 h3=>?_,fun j v hj=>?_,fun k hk=>hr.sup k (hown k hk),fun k hk=>hr.gW k (hown k hk),hr.dx,hr.ds,hr.sn,hr.xn,fun k hk=>hr.oX k (hk.imp (hown k) id),hr.bn,hr.aC⟩,hs.rd,fun t=>har (hs.fr t) (hfr t)⟩,
  ⟨qq6 _,fun j v k hj hk=>?_,fun k hk=>.inl (hown k hk),fun _ h=>.inl h,fun _ h=>.inl h,fun _ h=>h,fun _ h=>.inl h,fun _ _ _ _=>rfl,Nat.min_le_left _ _⟩⟩
 ·have hb:=hh b (List.mem_of_getElem? hj);rw [List.getElem?_take] at hj;split at hj
  ·rename_i hlt
   rcases hr.gm j b aE hj hv with ⟨k,b',q1,q2,q3⟩|⟨q1,q2⟩
   ·refine .inl ⟨k,b',by show eH _ _ _ _=_;rw [eH,if_pos hlt];exact q1,q2,?_⟩
    cases b with
    | cells cs es aE =>obtain ⟨cs',rfl,h⟩:=q3;exact ⟨cs',rfl,h.1,fun i a u ha hu=>har (h.2 i a u ha hu) (lR hb i a ha)⟩
    | dL p q=>exact q3
    | map ents clock =>obtain ⟨es,rfl,h1,h2⟩:=q3;refine ⟨es,rfl,h1,fun i k v born x hx hy=>?_⟩;simp only [AB.gZ,List.all_eq_true,qq7] at hb;have:=hb _ (List.mem_of_getElem? hx);exact ⟨har (h2 i k v born x hx hy).1 this.1,har (h2 i k v born x hx hy).2.1 this.2,(h2 i k v born x hx hy).2.2⟩
    | iter j since seen stepped =>obtain ⟨m,rfl,h⟩:=q3;refine ⟨m,rfl,?_⟩;show eH _ _ _ _=_;rw [eH,if_pos (show j < n from Nat.le_of_ble_eq_true hb)];exact h
    | gone=>exact q3
   ·exact .inr ⟨by show eH _ _ _ _=_;rw [eH,if_pos hlt];exact q1,q2⟩
  ·cases hj
 ·have key:∀ {j v:Nat},eH n E.ρ j v=some k→E.ρ j v=some k:=fun {j v} h=>by
   unfold eH at h;split at h
   ·exact h
   ·cases h
  exact hr.inj j j' aE ver' k (key h1) (key h2)
 ·have hk:eH n E.ρ j v=some k:=hk;unfold eH at hk;split at hk
  ·exact hr.rn _ _ _ hk
  ·cases hk
 ·rw [List.getElem?_take] at h1;split at h1
  ·rename_i hlt;show eH _ _ _ _=_;rw [eH,if_pos hlt];exact hr.fresh j b aE v h1 h2 h3
  ·cases h1
 ·show eH _ _ _ _=_;unfold eH;split
  ·rename_i hlt;refine hr.new j v ?_;simp only [List.length_take] at hj;omega
  ·rfl
 ·show eH _ _ _ _=_;rw [eH,if_pos (by omega)];exact hk
theorem vS {n:Nat}:∀ {l:List (Nat × AV)},(l.all fun p=>p.2.gZ n)=true→∀ t,(aT l t).gZ n=true
 | [],_,t=>rfl
 | (i,v) :: l,h,t=>by
  simp only [List.all_cons,qq7] at h;unfold aT
  cases Nat.beq t i with
  | true=>exact h.1
  | false=>exact vS h.2 t
theorem ak.to {st:bO} {l:List (Nat × AV)} {hp:List AB} (n:Nat) (hh:st.hp.take n=hp) (hs:A7 st.fr l) (hn:st.fl≤n) (hl:(l.all fun p=>p.2.gZ n)=true) (hb:hp.all (AB.gZ n)=true):ak st ⟨aT l,hp,st.aC,st.rd,st.fl⟩:=by subst hh;exact (ak.slots hs rfl).trans (ak.cut hn (vS hl) hb)
def FC {σ:Type} (P:σ→Prop) (I:σ→bO) (m:σ→Nat) (K:Exit→bO→Prop) (x:σ) (e:Exit) (s:bO):Prop :=
 match e with
 | .normal=>∃ y,P y∧m y < m x∧ak s (I y)
 | e=>K e s
theorem ay.loop {σ:Type} {body:Code} {K:Exit→bO→Prop} (P:σ→Prop) (I:σ→bO) (m:σ→Nat) (h:∀ x,P x→ay T tab one body (I x) (FC P I m K x)):∀ x,P x→ay T tab one (.loop body) (I x) K:=by
 have key:∀ (n:Nat) (x:σ),P x→m x < n→∀ (E:Env) (base:Nat) (s:St),qR E base (I x) s→∃ k L,RX T tab k (.loop body s)=some L∧pQ one L fun r=>∃ e s',r=.out e s'∧qT E base (I x) s (K e) s':=by
  intro n
  induction n with
  | zero=>intro x _ hx;omega
  | succ n ih =>
   intro x hP hx E base s hs;obtain ⟨k0,L0,h1,h2,h3⟩:=h x hP E base s hs
   obtain ⟨k,M,hk,q1,q2⟩:=fE (one:=one) (L:=L0) (f:=fun k (p:Exit × St)=>eu (RX T tab k) body p) (P:=fun r=>∃ e s',r=.out e s'∧qT E base (I x) s (K e) s') (fun a b p M hab hp=>by
     unfold eu at hp ⊢;split at hp
     ·exact gV hab _ _ hp
     ·exact hp) k0 h2 (fun p hp=>by
    obtain ⟨E',st',k1,kf,k2,k3⟩:=h3 p hp;obtain ⟨e,s'⟩:=p
    have other:(eu (RX T tab 0) body (e,s')=some [.out e s'])→K e st'→∃ m M,eu (RX T tab m) body (e,s')=some M∧pQ one M fun r=>∃ e s',r=.out e s'∧qT E base (I x) s (K e) s' :=
     fun h1 h2=>⟨0,_,h1,.single ⟨e,s',rfl,E',st',h2,kf,k2,k3⟩⟩
    cases e with
    | normal =>obtain ⟨y,hPy,hy,hw⟩:=k1;obtain ⟨E1,hs1,hf1⟩:=hw.2 E' base s' k2;obtain ⟨k,L,r1,r2,r3⟩:=ih y hPy (by omega) E1 base s' hs1;refine ⟨k,L,r1,r2,fun r hr=>?_⟩;obtain ⟨e,s2,rfl,E2,st2,j1,jf,j2,j3⟩:=r3 r hr;have e1:(I y).fl=(I x).fl:=hw.1.trans kf;rw [e1] at j3;rw [kf] at hf1;exact ⟨e,s2,rfl,E2,st2,j1,jf.trans e1,j2,(k3.trans hf1).trans j3⟩
    | _=>exact other rfl k1)
   refine ⟨k+1,M,?_,q2⟩;rw [HC,pG,dV (gV hk) _ _ _ h1];exact q1
 intro x hP E base s hs;obtain ⟨k,L,h1,h2,h3⟩:=key (m x+1) x hP (Nat.lt_succ_self _) E base s hs
 obtain ⟨k',M,hk,q1,q2⟩:=fE (one:=one) (L:=L) (f:=fun _ (r:eF)=>zR r) (P:=fun p=>qT E base (I x) s (K p.1) p.2) (fun _ _ _ _ _ h=>h) k h2 (fun r hr=>by
  obtain ⟨e,s',rfl,h⟩:=h3 r hr
  exact ⟨0,_,rfl,.single h⟩)
 refine ⟨k',M,?_,q2⟩;rw [mj,gV hk _ _ h1];exact q1
inductive Fz (hp:List AB):AV→AV→Prop
 | deep {v:AV}:v.deep=true→Fz hp v v
 | nil {b:Bool}:Fz hp (.fl (.slice none 0 0)) (.sl [] b)
 | full {els:List (List AV)}:Fz hp (.sl els true) (.sl els false)
 | row {j aE o n c es:Nat} {cs:List AV} {els:List (List AV)} {b:Bool}:hp[j]?=some (.cells cs es aE)→o+n * es≤cs.length→els.length=n→(∀ el ∈ els,el.length=es)→els.flatten=(cs.drop o).take (n * es)→cV els.flatten=true→(b=true→c=n) →
  Fz hp (.aL j aE o n c) (.sl els b)
 | ag {a b:List AV}:a.length=b.length→(∀ (i:Nat) (x y:AV),a[i]?=some x→b[i]?=some y→Fz hp x y)→Fz hp (.ag a) (.ag b)
theorem Fz.dr {X:Nat→Prop} (h:aX E base hp aC H) (hX:∀ k,X k→E.X k) {r v:AV} (hf:Fz hp r v):∀ {u:Value},AR E.ρ H.get (E.O hp) r u→DR H.get X v u:=by
 have weak:∀ {v:AV} {u:Value},DR H.get (E.O hp) v u→DR H.get X v u:=fun h=>h.mono fun k b hk ho=>⟨hk,fun hx=>ho (.inr (hX k hx))⟩
 induction hf with
 | deep hd=>intro u ha;exact weak (ha.deep hd)
 | nil=>intro u ha;rw [ha.eU.1];exact .nil
 | full =>
  intro u ha
  cases weak ha.iJ with
  | nil=>exact .nil
  | sl q1 q2 q3 q4 q5 q6 q7=>exact .sl q1 q2 q3 q4 q5 q6 (fun h=>Bool.noConfusion h)
 | row h1 h2 h3 h4 h5 h6 h7 =>
  rename_i j aE o n c es cs els b;intro u ha
  rcases ha.dW with ⟨k,hk,rfl⟩|⟨rfl,rfl,rfl⟩
  ·obtain ⟨cs',q1,q2⟩:=h.cells h1 hk;have hok:Own E.ρ hp k:=⟨j,_,aE,h1,rfl,hk⟩;have hnx:¬ X k:=fun hx=>h.gW k hok (hX k hx);refine .sl (es:=es) q1 hnx (by rw [←q2.1];exact h2) h3 (fun i el he=>h4 el (List.mem_of_getElem? he)) (fun i el jj a u he hx hu=>?_) h7;have hjj:jj < es:=by rw [←h4 el (List.mem_of_getElem? he)];exact (List.getElem?_eq_some_iff.1 hx).1
   have hat:=ec h4 i el jj he hjj;have hi:i < n:=by rw [←h3];exact (List.getElem?_eq_some_iff.1 he).1
   have hdeep:a.deep=true:=by refine gI h6 (i * es+jj) a ?_;rw [hat];exact hx
   rw [h5,List.getElem?_take,List.getElem?_drop] at hat;have hlt:i * es+jj < n * es:=by have:(i+1) * es≤n * es:=Nat.mul_le_mul_right _ hi;rw [Nat.add_mul,Nat.one_mul] at this;omega
   rw [if_pos hlt,hx,←Nat.add_assoc] at hat;exact weak ((q2.2 _ a u hat hu).deep hdeep)
  ·simp only [List.length_eq_zero_iff] at h3;subst h3;exact .nil
 | ag hl h1 ih =>
  rename_i a b;intro u ha
  have hal:∃ us:Array Value,u=.agg us∧fB E.ρ H.get (E.O hp) a us.toList:=by
   cases ha with
   | d h=>cases h with
    | ag ha h1=>exact ⟨_,rfl,ha,fun i a u x y=>.d (h1 i a u x y)⟩
   | ag ha h1=>exact ⟨_,rfl,ha,h1⟩
  obtain ⟨us,rfl,h2⟩:=hal;refine .ag (by rw [←hl];exact h2.1) (fun i x w hx hw=>?_);have hi:i < a.length:=by rw [hl];exact (List.getElem?_eq_some_iff.1 hx).1
  have hai:a[i]?=some a[i]:=List.getElem?_eq_getElem hi;exact ih i _ x hai hx (h2.2 i _ w hai hw)
def zf (hp:List AB):List AV→List AV→Prop
 | [],[]=>True
 | r :: rs,v :: vs=>Fz hp r v∧zf hp rs vs
 | _,_=>False
theorem zf.dr {X:Nat→Prop} (h:aX E base hp aC H) (hX:∀ k,X k→E.X k):∀ {rs vs:List AV} {us:List Value},zf hp rs vs→fB E.ρ H.get (E.O hp) rs us→si H.get X vs us
 | [],[],us,_,ha=>⟨ha.1,fun i a u hx=>by cases hx⟩
 | r :: rs,v :: vs,[],_,ha=>absurd ha.1 (by simp)
 | r :: rs,v :: vs,u :: us,hf,ha=>by
  have:=zf.dr h hX hf.2 (us:=us) ⟨by simpa using ha.1,fun i a u x y=>ha.2 (i+1) a u (by simpa using x) (by simpa using y)⟩;refine ⟨by simp [this.1],fun i a w hx hw=>?_⟩
  cases i with
  | zero=>cases hx;cases hw;exact hf.1.dr h hX (ha.2 0 r u rfl rfl)
  | succ i=>exact this.2 i a w (by simpa using hx) (by simpa using hw)
 | [],_ :: _,_,hf,_=>hf.elim
 | _ :: _,[],_,hf,_=>by simp [zf] at hf
theorem A8 (h:aX E base hp aC H) {t:TypeId} {a:AV} {u:Value} (ha:AR E.ρ H.get (E.O hp) a u) {K:AV→List AB→Prop} (hw:fC T t a hp K):∃ w b,gO T t u H.get=some (w,.none)∧K b hp∧AR E.ρ H.get (E.O hp) b w:=by
 unfold fC at hw;split at hw
 ·rename_i cs o jH s bytes zero agg cu cD hty;obtain ⟨k,d,cs',own,e,rfl,h1,h2,h3,h4⟩:=ha.cF.cF;unfold gO addr?;simp only [h1,cells?,hty];obtain ⟨u,a,e1,e2,e3⟩:=kQ (ρ:=E.ρ) (fun i a u x y=>.d (h4 i a u x y)) h3 hw;rw [e1];exact ⟨u,a,rfl,e2,e3⟩
 ·rename_i j aE o jH s bytes zero agg cu cD hty;obtain ⟨cs,es,h1,h2⟩:=hw;obtain ⟨k,hk,rfl⟩:=ha.cX;obtain ⟨cs',h3,h4⟩:=h.cells h1 hk;unfold gO addr?;simp only [h3,cells?,hty];obtain ⟨u,a,e1,e2,e3⟩:=kQ (d:=0) (fun i a u x y=>h4.2 i a u x (by rw [Nat.zero_add] at y;exact y)) (by rw [h4.1];omega) h2;rw [Nat.zero_add] at e1;rw [e1];exact ⟨u,a,rfl,e2,e3⟩
 ·exact hw.elim
def JK (T:bC) (s:bO) (r:ResultVar) (K:AV→Prop):Prop :=
 match r with
 | .tmp t=>K (s.fr t)
 | .cell a t=>fC T t (s.fr a) s.hp fun v _=>K v
def oZ (T:bC) (s:bO):List ResultVar→(List AV→Prop)→Prop
 | [],K=>K []
 | r :: rs,K=>JK T s r fun v=>oZ T s rs fun vs=>K (v :: vs)
def zg:List AV→AV
 | [v]=>v
 | vs=>.tp vs
theorem kV {st:bO} {s:St} (hs:qR E base st s):∀ {rs:List ResultVar} {K:List AV→Prop},oZ T st rs K→∃ us as,fK T s.fr s.hp rs=some us∧K as∧fB E.ρ s.hp.get (E.O st.hp) as us
 | [],K,h=>⟨[],[],rfl,h,.nil⟩
 | r :: rs,K,h=>by
  have h:JK T st r fun v=>oZ T st rs fun vs=>K (v :: vs):=h
  have one:∃ u a,xx T s.fr s.hp r=some u∧AR E.ρ s.hp.get (E.O st.hp) a u∧oZ T st rs fun vs=>K (a :: vs):=by
   unfold JK at h
   cases r with
   | tmp t=>exact ⟨_,_,rfl,hs.fr t,h⟩
   | cell a t =>obtain ⟨u,b,r1,r2,r3⟩:=A8 hs.h (hs.fr a) h;exact ⟨u,b,by unfold xx;simp only [r1,Option.map_some],r3,r2⟩
  obtain ⟨u,a,h1,h2,h3⟩:=one;obtain ⟨us,as,k1,k2,k3⟩:=kV hs h3;exact ⟨u :: us,a :: as,by unfold fK;simp only [h1,k1,Option.map_some],k2,.cons h2 k3⟩
def A9 (T:bC) (rs:List ResultVar) (v:AV) (e:Exit) (s:bO):Prop :=
 match e with
 | .normal|.ret=>oZ T s rs fun as=>∃ vs,zf s.hp as vs∧zg vs=v
 | _=>False
def Ba (args:List AV):Nat→AV:=fun t=>args.getD t .cA
def noEntry (tab:List XE) (f:FuncId):Bool:=tab.all fun e=>!Nat.beq e.f f
theorem ou {f:FuncId} (args:List Value) (H:Hp):∀ {tab:List XE},noEntry tab f=true→look tab f args H=none
 | [],_=>rfl
 | e :: l,h=>by
  simp only [noEntry,List.all_cons,qq7,Bool.not_eq_true'] at h;have h1:oV e f args H=none:=by unfold oV;rw [h.1];rfl
  show (match oV e f args H with|some r=>some r|none=>look l f args H)=none;rw [h1];exact ou args H h.2
theorem vT {args:List AV} {us:List Value} (h:fB ρ g O args us):lQ ρ g O (Ba args) (setArgs .leaf 0 us):=by
 intro t;rw [tf,Tr.lG];unfold Ba;by_cases ht:t < args.length
 ·rw [if_pos ⟨qq5 _,by rw [←h.1];omega⟩,Nat.sub_zero,List.getD_eq_getElem?_getD,List.getElem?_eq_getElem ht,List.getElem?_eq_getElem (by rw [←h.1];exact ht:t < us.length)];exact h.2 t _ _ (List.getElem?_eq_getElem ht) (List.getElem?_eq_getElem _)
 ·rw [List.getD_eq_getElem?_getD,List.getElem?_eq_none (by omega)];exact .cA
theorem HH {X:Nat→Prop} {vs:List AV} {us:List Value} (h:si g X vs us):DR g X (zg vs) (bM us):=by
 have tup:∀ {vs:List AV} {us:List Value},si g X vs us→DR g X (.tp vs) (.tuple us.toArray):=fun h=>.tp (by simpa using h.1) (fun i x u hx hu=>h.2 i x u hx (by simpa using hu))
 match vs,us,h with
 | [v],[u],h=>exact h.2 0 v u rfl rfl
 | [],[],h=>exact tup h
 | v :: w :: vs,u :: x :: us,h=>exact tup h
 | [],_ :: _,h=>exact absurd h.1 (by simp)
 | [_],[],h=>exact absurd h.1 (by simp)
 | [_],_ :: _ :: _,h=>exact absurd h.1 (by simp)
 | _ :: _ :: _,[],h=>exact absurd h.1 (by simp)
 | _ :: _ :: _,[_],h=>exact absurd h.1 (by simp)
theorem ah.body {f:FuncId} {fn:Func} {c:Code} {first caps args:List AV} {v:AV} (hf:T.fn.get f=some fn) (hb:fn.body=some c) (hn:noEntry tab f=true) (hv:v.deep=true)
  (hw:ay T tab one c ⟨Ba (first++args++caps),[],bJ.none,false,0⟩ (A9 T fn.results.toList v)):ah T tab one (.fn f first caps) args v:=by
 refine ⟨hv,fun X H u us hwf hX hF ha=>?_⟩
 cases hF with
 | fn l1 l2 d1 d2 =>
  rename_i a' b';have hfirst:si H.get X first a'.toList:=⟨l1,d1⟩
  have hcaps:si H.get X caps b'.toList:=⟨l2,d2⟩;have hall:=si.append (si.append hfirst ha) hcaps;refine ⟨.fn f (a'.toList++us++b'.toList),rfl,?_⟩
  let E:Env:=⟨fun _ _=>none,fun _=>False,fun _=>False,X⟩
  have hno:∀ k,¬ Own E.ρ [] k:=fun k ⟨j,b,aE,h,_⟩=>by cases h
  have hO:∀ k,E.O [] k→X k:=fun k h=>h.elim (fun h=>(hno k h).elim) id
  have hrel:aX E H.n [] bJ.none H :=
   {wf:=hwf,gm:=fun j b aE h _=>(by cases h),inj:=fun j j' aE ver' k h=>(by cases h),rn:=fun j v k h=>(by cases h),fresh:=fun j b aE v h=>(by cases h),new:=fun _ _ _=>rfl,
    sup:=fun k h=>(hno k h).elim,gW:=fun k h=>(hno k h).elim,dx:=fun k h=>h.elim,ds:=fun k h=>h.elim,sn:=fun k h=>h.elim,xn:=hX,
    oX:=fun k h=>h.elim (fun h=>(hno k h).elim) (fun h=>h.elim),bn:=qq6 _,aC:=trivial}
  have harl:fB E.ρ H.get (E.O []) (first++args++caps) (a'.toList++us++b'.toList) :=
   ⟨hall.1,fun i a u x y=>.d ((hall.2 i a u x y).mono fun k b hk ho=>⟨hk,fun h=>ho (hO k h)⟩)⟩
  obtain ⟨m,L,h1,h2,h3⟩:=hw E H.n ⟨setArgs .leaf 0 (a'.toList++us++b'.toList),H,false⟩ ⟨hrel,rfl,vT harl⟩
  obtain ⟨m',M,hm,q1,q2,q3⟩:=fE (one:=one) (L:=L) (f:=fun _ (p:Exit × St)=>eN T fn.results.toList p) (P:=fun r=>∃ w H',r=.ret w H'∧H.n≤H'.n∧Wf H'∧(∀ k,k < H.n→H'.get k=H.get k)∧min H.lo H.n≤H'.lo∧DR H'.get X v w)
   (fun _ _ _ _ _ h=>h) m h2 (fun p hp=>by
    obtain ⟨E',st',k1,_,k2,k3⟩:=h3 p hp;obtain ⟨e,s'⟩:=p
    have done:(e=.normal∨e=.ret)→(oZ T st' fn.results.toList fun as=>∃ vs,zf st'.hp as vs∧zg vs=v)→∃ (_:Nat) (M:List eF),eN T fn.results.toList (e,s')=some M∧pQ one M fun r=>∃ w H',r=.ret w H'∧H.n≤H'.n∧Wf H'∧(∀ k,k < H.n→H'.get k=H.get k)∧min H.lo H.n≤H'.lo∧DR H'.get X v w:=by
     intro he hr;obtain ⟨ws,as,r1,⟨vs,r2,r3⟩,r4⟩:=kV k2 hr;refine ⟨0,[.ret (bM ws) s'.hp],?_,.single ⟨_,_,rfl,k3.n,k2.h.wf,fun k hk=>k3.same k hk (hno k) (fun h=>h),k3.lo,?_⟩⟩
     ·unfold eN
      rcases he with rfl|rfl <;> simp only [r1,Option.map_some]
     ·rw [←r3];exact HH (r2.dr k2.h (fun k hk=>k3.xk k hk) r4)
    cases e with
    | normal=>exact done (.inl rfl) k1
    | ret=>exact done (.inr rfl) k1
    | _=>exact k1.elim)
  refine ⟨m'+1,M,?_,q2,q3⟩;show RX T tab (m'+1) (.call f _ H)=_;rw [yV,ou _ _ hn];simp only;rw [jZ,hf];simp only [hb];rw [dV (gV hm) _ _ _ h1];exact q1
end
end Go.RM
namespace Go.RM
open Go
section
variable {T : bC} {tab : List XE} {one : Bool} {fl base : Nat} {E E' E2 : Env} {hp hp' hp2 : List AB} {aC amb' : bJ} {H H' H2 : Hp} {ρ ρ2 : Nat → Nat → Option Nat} {g g2 : aG} {O O2 : Nat → Prop}
def Jg (r:Option (Value × bY)) (K:AV→Prop) (R R2:AV→Value→Prop):Prop:=∃ u a,r=some (u,.none)∧K a∧R a u∧R2 a u
theorem D9 {t:TypeId} {a:AV} {i:Nat} {u:Value} (ha:AR ρ g O a u) (hb:AR ρ2 g2 O2 a u) {K:AV→List AB→Prop} (hw:jC T t a i hp K):Jg (dM T t u i) (K · hp) (AR ρ g O) (AR ρ2 g2 O2):=by
 unfold jC at hw;split at hw
 ·rename_i cs o fs s bytes z agg cu cD hty;obtain ⟨off,s',h1,h2,h3⟩:=hw;obtain ⟨k,d,cs',own,e,rfl,q1,q2,q3,q4⟩:=ha.cF.cF;obtain ⟨k2,d2,cs2,own2,e2,hu,r1,r2,r3,r4⟩:=hb.cF.cF;simp only [Value.pointer.injEq,qq9,Addr.mk.injEq] at hu;obtain ⟨rfl,hd,_⟩:=hu;obtain rfl:d=d2:=by omega
  unfold dM addr?;simp only [hty,h1,Nat.ble_eq_true_of_le h2,cond_true];refine ⟨_,.pt cs (o+off),rfl,h3,?_,?_⟩ <;> unfold ptr <;> rw [Nat.add_assoc]
  ·exact .d (.pt q1 q2 q3 q4)
  ·exact .d (.pt r1 r2 r3 r4)
 ·rename_i j aE o fs s bytes z agg cu cD hty;obtain ⟨off,s',h1,h2,h3⟩:=hw;obtain ⟨k,hk,rfl⟩:=ha.cX;obtain ⟨k2,hk2,hu⟩:=hb.cX;simp only [Value.pointer.injEq,qq9,Addr.mk.injEq,and_true] at hu;obtain rfl:=hu;unfold dM addr?;simp only [hty,h1,Nat.ble_eq_true_of_le h2,cond_true];exact ⟨_,_,rfl,h3,.ptr hk,.ptr hk2⟩
 ·exact hw.elim
theorem xm {t:TypeId} {a ix:AV} {u x:Value} (ha:AR ρ g O a u) (hb:AR ρ2 g2 O2 a u) (hx:AR ρ g O ix x) {K:AV→List AB→Prop} (hw:cC T t a ix hp K):Jg (dN T t u x) (K · hp) (AR ρ g O) (AR ρ2 g2 O2):=by
 unfold cC at hw;split at hw
 ·rename_i j len el s bytes z agg cu cD hj hty;have hix:=iK hj hx;obtain ⟨h0,hw⟩:=hw;unfold dN;simp only [hix,hty];split at hw
  ·obtain ⟨k,d,cs',own,e,rfl,q1,q2,q3,q4⟩:=ha.cF.cF;obtain ⟨k2,d2,cs2,own2,e2,hu,r1,r2,r3,r4⟩:=hb.cF.cF;simp only [Value.pointer.injEq,qq9,Addr.mk.injEq] at hu;obtain ⟨rfl,hd,_⟩:=hu;obtain rfl:d=d2:=by omega
   simp only [addr?];rw [kR h0];refine ⟨_,_,rfl,hw,?_,?_⟩ <;> unfold ptr <;> rw [Nat.add_assoc]
   ·exact .d (.pt q1 q2 q3 q4)
   ·exact .d (.pt r1 r2 r3 r4)
  ·obtain ⟨k,hk,rfl⟩:=ha.cX;obtain ⟨k2,hk2,hu⟩:=hb.cX;simp only [Value.pointer.injEq,qq9,Addr.mk.injEq,and_true] at hu;obtain rfl:=hu;simp only [addr?];rw [kR h0];exact ⟨_,_,rfl,hw,.ptr hk,.ptr hk2⟩
  ·exact hw.elim
 ·rename_i j el s bytes z agg cu cD hj hty;have hix:=iK hj hx;unfold dN;simp only [hix,hty];split at hw
  ·rename_i els f;obtain ⟨el,⟨h0,h1⟩,h2,h3⟩:=hw
   have mk:∀ {g:aG} {O:Nat→Prop} {k o n c:Nat},DR g O (.sl els f) (.slice (some ⟨k,o,none⟩) n c)→n=els.length∧DR g O (.pt el 0) (ptr k (o+j.toNat * cD)):=by
    intro g O k o n c h
    cases h with
    | sl q1 q2 q3 q4 q5 q6 q7 =>
     rename_i es cs own e;have hlt:j.toNat < els.length:=(List.getElem?_eq_some_iff.1 h1).1;have hes:es=cD:=by rw [←q5 _ _ h1,h2]
     subst hes;have hle:(j.toNat+1) * es≤n * es:=Nat.mul_le_mul_right _ (by omega);rw [Nat.add_mul,Nat.one_mul] at hle;exact ⟨q4.symm,.pt (d:=o+j.toNat * es) (o:=0) q1 q2 (by rw [h2];omega) fun i a u hi hu=>q6 _ _ i a u h1 hi hu⟩
   have hlt:j.toNat < els.length:=(List.getElem?_eq_some_iff.1 h1).1;have h4:=ha.iJ;have h5:=hb.iJ
   cases h4 with
   | nil=>cases h1
   | sl q1 q2 q3 q4 q5 q6 q7 =>rename_i k o n c es cs own e;obtain ⟨e1,p1⟩:=mk (.sl q1 q2 q3 q4 q5 q6 q7:DR g O (.sl els f) (.slice (some ⟨k,o,none⟩) n c));obtain ⟨_,p2⟩:=mk h5;show Jg (oD cD k o n j) _ _ _;rw [kR ⟨h0,by omega⟩];exact ⟨_,_,rfl,h3,.d p1,.d p2⟩
  ·rename_i i aE o n c;obtain ⟨h0,h1⟩:=hw
   rcases ha.dW with ⟨k,hk,rfl⟩|⟨rfl,rfl,rfl⟩
   ·rcases hb.dW with ⟨k2,hk2,hu⟩|⟨_,_,hu⟩
    ·simp only [Value.slice.injEq,qq9,Addr.mk.injEq,and_true] at hu;obtain rfl:=hu;show Jg (oD cD k o n j) _ _ _;rw [kR h0];exact ⟨_,_,rfl,h1,.ptr hk,.ptr hk2⟩
    ·cases hu
   ·omega
  ·exact hw.elim
 ·exact hw.elim
theorem FD {t:TypeId} {cs:List AV} {o:Nat} {u:Value} (ha:AR ρ g O (.pt cs o) u) (hb:AR ρ2 g2 O2 (.pt cs o) u) (hc:∀ k b,g2 k=some b→¬ O2 k→g k=some b) {K:AV→List AB→Prop} (hw:fC T t (.pt cs o) hp K) :
  Jg (gO T t u g) (K · hp) (AR ρ g O) (AR ρ2 g2 O2):=by
 unfold fC at hw;split at hw
 ·rename_i cs0 o0 jH s bytes zero agg cu cD hpt hty;cases hpt;obtain ⟨k,d,cs',own,e,rfl,h1,h2,h3,h4⟩:=ha.cF.cF;obtain ⟨k2,d2,cs2,own2,e2,hu,r1,r2,r3,r4⟩:=hb.cF.cF;simp only [Value.pointer.injEq,qq9,Addr.mk.injEq] at hu;obtain ⟨rfl,hd,_⟩:=hu;obtain rfl:d=d2:=by omega
  have:=hc _ _ r1 r2;rw [h1] at this;cases this;unfold gO addr?;simp only [h1,cells?,hty];unfold AQ at hw
  cases agg with
  | true =>
   obtain ⟨w1,w2⟩:=hw;simp only [cond_true];rw [mH (by omega)]
   have mk:∀ {ρ:Nat→Nat→Option Nat} {g:aG} {O:Nat→Prop},(∀ (i:Nat) (a:AV) (u:Value),cs[i]?=some a→cs'[d+i]?=some u→DR g O a u)→AR ρ g O (.ag ((cs.drop o).take s)) (.agg ((cs'.drop (d+o)).take s).toArray):=by
    intro ρ g O h;refine .d (.ag ?_ ?_)
    ·simp;omega
    ·intro i x u hx hu;simp only [List.getElem?_take,List.getElem?_drop] at hx hu;split at hx
     ·rw [if_pos (by assumption)] at hu;exact h _ x u hx (by rw [←Nat.add_assoc];exact hu)
     ·cases hx
   exact ⟨_,_,rfl,w2,mk h4,mk r4⟩
  | false =>obtain ⟨v,w1,w2⟩:=hw;have hlt:=(List.getElem?_eq_some_iff.1 w1).1;have hcc:cs'[d+o]?=some (cs'[d+o]'(by omega)):=List.getElem?_eq_getElem _;simp only [cond_false];rw [hcc];exact ⟨_,v,rfl,w2,.d (h4 o v _ w1 hcc),.d (r4 o v _ w1 hcc)⟩
 ·rename_i hpt _;cases hpt
 ·exact hw.elim
theorem Bb {a:AV} {i:Nat} {u:Value} (ha:AR ρ g O a u) (hb:AR ρ2 g2 O2 a u) {K:AV→List AB→Prop} (hw:jJ a i hp K):Jg (fk u i) (K · hp) (AR ρ g O) (AR ρ2 g2 O2):=by
 unfold jJ at hw;split at hw
 ·obtain ⟨v,h1,h2⟩:=hw;obtain ⟨us,rfl,h3⟩:=ha.vK;obtain ⟨us2,hu,h3'⟩:=hb.vK;cases hu;obtain ⟨x,h4,h5⟩:=h3.get h1;unfold fk;simp only [h4,Option.map_some];exact ⟨_,_,rfl,h2,h5,h3'.2 i v x h1 h4⟩
 ·exact hw.elim
theorem HI {a:AV} {u:Value} (ha:AR ρ g O a u) (hb:AR ρ2 g2 O2 a u) {K:AV→List AB→Prop} (hw:qO a hp K):Jg (ir u) (K · hp) (AR ρ g O) (AR ρ2 g2 O2):=by
 unfold qO at hw;split at hw
 ·obtain ⟨k,d,cs',own,e,rfl,_⟩:=ha.cF.cF;exact ⟨_,_,rfl,hw,ha,hb⟩
 ·obtain ⟨k,hk,rfl⟩:=ha.cX;exact ⟨_,_,rfl,hw,ha,hb⟩
 ·exact hw.elim
def C9 (o:Op) (fr:Nat→AV):Option (List Operand) :=
 match o with
 | .move x=>some [x]
 | .assign x=>some [x]
 | .fieldAddr _ a _=>some [a]
 | .indexAddr _ a _=>some [a]
 | .extract x _=>some [x]
 | .nilCheck x=>some [x]
 | .load _ a=>match bh fr a with
  | .pt ..=>some [a]
  | _=>none
 | _=>none
theorem FE {own:Bool} {o:Op} {fr:Nat→AV} {tm:Tr Value} (hf:lQ ρ g O fr tm) {xs:List Operand} (hm:C9 o fr=some xs) (hb:∀ x ∈ xs,AR ρ2 g2 O2 (bh fr x) (aY tm x)) (hc:∀ k b,g2 k=some b→¬ O2 k→g k=some b)
  {n:Nat} {K:AV→List AB→Prop} (hw:wpOp T own o fr hp K):Jg (jt T n o (aY tm) g) (K · hp) (AR ρ g O) (AR ρ2 g2 O2):=by
 have ev:=fun x=>ji hf x;unfold C9 at hm;split at hm
 ·cases hm;exact ⟨_,_,rfl,hw,ev _,hb _ (by simp)⟩
 ·cases hm;exact ⟨_,_,rfl,hw,ev _,hb _ (by simp)⟩
 ·cases hm;exact D9 (ev _) (hb _ (by simp)) hw
 ·cases hm;exact xm (ev _) (hb _ (by simp)) (ev _) hw
 ·cases hm;exact Bb (ev _) (hb _ (by simp)) hw
 ·cases hm;exact HI (ev _) (hb _ (by simp)) hw
 ·split at hm
  ·rename_i t a _ cs oo hpt;cases hm;have e1:=ev a;have e2:=hb a (by simp);rw [hpt] at e1 e2;have hw:fC T t (bh fr a) hp K:=hw;rw [hpt] at hw;exact FD e1 e2 hc hw
  ·cases hm
 ·cases hm
structure Acc where
 own:Option Nat
 b:Nat
 wr:Bool
structure uw where
 i:Nat
 acc:List Acc
 al:Bool
 call:Bool
def vU (v:AV) (b:Nat) (wr:Bool):Option (List Acc) :=
 match v with
 | .pt ..|.sl ..=>some [⟨none,b,wr⟩]
 | .ptr j _ _|.aL j _ _ _ _|.om j=>some [⟨some j,b,wr⟩]
 | .fl _|.ag _|.tp _|.fn ..=>some []
 | _=>none
def FF (o:Op) (fr:Nat→AV) (br:Operand→Nat):Option (List Acc) :=
 match o with
 | .load _ a=>vU (bh fr a) (br a) false
 | .store _ a _=>vU (bh fr a) (br a) true
 | .call ⟨.builtin .append,args,_⟩=>match args.toList with
  | [s,x]=>match vU (bh fr x) (br x) false,vU (bh fr s) (br s) true with
   | some l,some m=>some (l++m)
   | _,_=>none
  | _=>none
 | .call ⟨.builtin .len,args,_⟩=>match args.toList with
  | [x]=>vU (bh fr x) (br x) false
  | _=>none
 | .lookup _ m _ _=>vU (bh fr m) (br m) false
 | .mapEntry _ m _=>vU (bh fr m) (br m) true
 | .entryStore _ m _ _=>vU (bh fr m) (br m) true
 | .range ..|.next ..|.entry ..|.mapUpdate ..=>none
 | .call ⟨.builtin .clear,_,_⟩=>none
 | .call ⟨.builtin .copy,_,_⟩=>none
 | _=>some []
def news? (o:Op):Bool :=
 match o with
 | .move _|.assign _|.pick ..|.load ..|.store ..|.fieldAddr ..|.indexAddr ..|.index ..|.field ..|.binOp ..|.unOp ..|.convert ..|.makeInterface ..|.typeAssert ..|.extract ..|.build ..|.makeFunc ..|.nilCheck ..|.slice ..|.lookup ..|.mapEntry ..|.entryStore ..=>false
 | .call ⟨.builtin .append,_,_⟩=>true
 | .call ⟨.builtin _,_,_⟩=>false
 | _=>true
theorem vV {o:Option Value} {v:Value} {e:bY} (h:cR o=some (v,e)):e.news=false:=by obtain ⟨_,_,rfl⟩:=pz h;rfl
theorem map_none {o:Option Value} {v:Value} {e:bY} (h:(o.map fun v=>(v,bY.none))=some (v,e)):e.news=false:=by simp only [Option.map_eq_some_iff] at h;obtain ⟨_,_,q⟩:=h;cases q;rfl
theorem hH {c:Bool} {o:Option Value} {v:Value} {e:bY} (h:(bif c then cR o else none)=some (v,e)):e.news=false:=by
 cases c with
 | true=>exact vV h
 | false=>cases h
theorem FG {n:Nat} {o:Op} {r:Operand→Value} {v:Value} {e:bY} (h:jt T n o r g=some (v,e)) (hn:news? o=false):e.news=false:=by
 have bin:∀ {o:BinOp} {t:TypeId} {x y:Operand} {a b:Value},dF T.P o t x y a b=some (v,e)→e.news=false:=by
  intro o t x y a b h;have slow:gi T.P o t x y a b=some (v,e)→e.news=false:=fun h=>by unfold gi at h;exact hH h
  unfold dF at h;split at h
  ·split at h
   ·cases h;rfl
   ·exact slow h
  ·rw [cond_eq_ite] at h;split at h
   ·unfold js at h;split at h
    ·cases h;rfl
    ·cases h;rfl
    ·cases h
   ·cases h
  ·rw [cond_eq_ite] at h;split at h
   ·unfold js at h;split at h
    ·cases h;rfl
    ·cases h;rfl
    ·cases h
   ·cases h
  ·exact slow h
 cases o <;> first
  | (simp only [news?,Bool.true_eq_false] at hn;done)
  | skip
 case move x=>simp only [jt] at h;cases h;rfl
 case assign x=>simp only [jt] at h;cases h;rfl
 case build t parts =>
  simp only [jt] at h;unfold pq at h;split at h
  ·rename_i jH sz by' z cu cD _
   cases hz:z.cells.toList.all bf with
   | true =>rw [hz] at h;simp only [cond_true,Option.map_eq_some_iff] at h;obtain ⟨_,_,q⟩:=h;cases q;rfl
   | false=>rw [hz] at h;cases h
  ·cases h
 case pick c a b =>
  simp only [jt] at h;unfold sU at h;split at h
  ·cases h;rfl
  ·cases h
 case load t a =>
  simp only [jt] at h;unfold gO at h;split at h
  ·split at h
   ·rename_i cs own es jH s bytes zero agg cu cD _ _;cases agg
    ·exact map_none h
    ·simp only [cond_true,Option.map_eq_some_iff] at h;obtain ⟨_,_,q⟩:=h;cases q;rfl
   ·cases h
  ·cases h
 case store t a x =>
  simp only [jt] at h;unfold jO at h;split at h
  ·split at h
   ·rename_i cs own es _ _ _ _ _ _ _ _ _;revert h;cases (own && Nat.beq (r x).cells.toList.length _ && _ && (r x).cells.toList.all bx) <;> intro h
    ·cases h
    ·cases h;rfl
   ·cases h
  ·cases h
 case fieldAddr t a i =>
  simp only [jt] at h;unfold dM at h;split at h
  ·split at h
   ·rename_i off s _;cases hb:Nat.ble 1 s <;> rw [hb] at h <;> cases h
    rfl
   ·cases h
  ·cases h
 case indexAddr t a ix =>
  simp only [jt] at h
  have idx:∀ {a b c:Nat} {j:Int},oD a b c n j=some (v,e)→e.news=false:=by
   intro a b c j h;unfold oD at h;cases hb:(EK 0 j && DH j (.ofNat n)) <;> rw [hb] at h <;> cases h
   rfl
  have idx:∀ {a b c d:Nat} {j:Int},oD a b c d j=some (v,e)→e.news=false:=by
   intro a b c d j h;unfold oD at h;cases hb:(EK 0 j && DH j (.ofNat d)) <;> rw [hb] at h <;> cases h
   rfl
  unfold dN at h;split at h
  ·split at h
   ·exact idx h
   ·cases h
  ·split at h
   ·exact idx h
   ·cases h
  ·cases h
 case index t a ix =>
  simp only [jt] at h;cases hb:(flat (r a) && flat (r ix)) <;> rw [hb] at h
  ·unfold l5 at h;simp only [cond_false] at h;split at h
   ·split at h
    ·rw [cond_eq_ite] at h;split at h
     ·split at h
      ·cases h;rfl
      ·cases h
     ·cases h
    ·cases h
   ·cases h
  ·exact vV h
 case field t a i=>simp only [jt] at h;exact hH h
 case binOp o t x y p=>simp only [jt] at h;exact bin h
 case unOp o t x=>simp only [jt] at h;exact hH h
 case convert s d x=>simp only [jt] at h;exact hH h
 case makeInterface t x=>simp only [jt] at h;exact hH h
 case typeAssert x t d ok=>simp only [jt] at h;exact hH h
 case extract x i =>
  simp only [jt] at h;unfold fk at h;split at h
  ·exact map_none h
  ·cases h
 case lookup t m k ok=>simp only [jt] at h;exact map_none h
 case mapEntry t m k =>
  simp only [jt] at h;unfold ek at h;split at h
  ·split at h
   ·unfold lB at h;split at h
    ·split at h
     ·rename_i e _;cases hb:Instr.sameBits 10000 e.key (r k) <;> rw [hb] at h <;> cases h
      rfl
     ·cases h
    ·rename_i z _ _;cases hb:flat z <;> rw [hb] at h <;> cases h
     rfl
    ·cases h
   ·cases h
  ·cases h
 case entryStore t m s x =>
  simp only [jt,Option.map_eq_some_iff] at h;obtain ⟨e',h1,h2⟩:=h;cases h2;unfold cQ at h1;split at h1
  ·split at h1
   ·split at h1
    ·cases h1;rfl
    ·cases h1
   ·cases h1
  ·cases h1
 case makeFunc f a b =>
  simp only [jt] at h;unfold lC at h;split at h
  ·cases h;rfl
  ·cases h
 case nilCheck x =>
  simp only [jt] at h;unfold ir at h;split at h
  ·cases h;rfl
  ·cases h
 case slice t x lo hi mx =>
  cases mx with
  | some _ =>
   cases hi with
   | none=>simp [jt] at h
   | some _ =>simp only [jt] at h;exact map_none h
  | none =>
   simp only [jt] at h;unfold fo at h;split at h
   ·exact hH h
   ·exact map_none h
   ·exact map_none h
 case call c =>
  obtain ⟨ce,args,tys⟩:=c
  cases ce with
  | builtin b =>
   have h:gP T n b (args.toList.map r) tys.toList g=some (v,e):=h;unfold gP at h;cases b <;> first|(simp [news?] at hn;done)|skip
   all_goals first|(simp at h;done)|skip
   case clear =>
    simp only at h;split at h
    ·unfold k6 at h;split at h
     ·split at h
      ·cases h;rfl
      ·cases h
     ·split at h
      ·rw [cond_eq_ite] at h;split at h
       ·cases h;rfl
       ·cases h
      ·cases h
     ·cases h
    ·cases h
   case copy =>
    simp only at h;split at h
    ·unfold sS at h;split at h
     ·split at h
      ·split at h
       ·rw [cond_eq_ite] at h;split at h
        ·cases h;rfl
        ·cases h
       ·cases h
      ·cases h
     ·cases h
    ·cases h
   case len =>
    simp only at h;split at h
    ·unfold jR at h;repeat' split at h
     all_goals first|(simp only [qq9,Prod.mk.injEq] at h;obtain ⟨_,rfl⟩:=h;rfl)|(simp at h;done)
    ·simp at h
   case min =>
    simp only at h;unfold yl at h;split at h
    ·simp only [qq9,Prod.mk.injEq] at h;obtain ⟨_,rfl⟩:=h;rfl
    ·exact hH h
   case max =>
    simp only at h;unfold ym at h;split at h
    ·simp only [qq9,Prod.mk.injEq] at h;obtain ⟨_,rfl⟩:=h;rfl
    ·exact hH h
  | _=>simp [jt,zQ] at h
end
end Go.RM
namespace Go.RM
open Go
section
variable {T : bC} {tab : List XE} {one : Bool} {fl base : Nat} {E E' E2 : Env} {hp hp' hp2 : List AB} {aC amb' : bJ} {H H' H2 : Hp} {ρ ρ2 : Nat → Nat → Option Nat} {g g2 : aG} {O O2 : Nat → Prop}
structure fS where
 E:Env
 hp:List AB
 H:Hp
abbrev fS.ar (z:fS):AV→Value→Prop:=AR z.E.ρ z.H.get (z.E.O z.hp)
structure zh (base:Nat) (aC:bJ) (tr:Nat→fS) (i:Nat):Prop where
 rel:∀ b,b≤i→aX (tr b).E base (tr b).hp aC (tr b).H
 ext:∀ b c,b≤c→c≤i→Ext base (tr b).E (tr b).hp (tr b).H (tr c).E (tr c).hp (tr c).H
def snoc (tr:Nat→fS) (i:Nat) (z:fS):Nat→fS:=fun b=>if b≤i then tr b else z
theorem ei {tr:Nat→fS} {i:Nat} {z:fS} {b:Nat} (h:b≤i):snoc tr i z b=tr b:=if_pos h
theorem gp {tr:Nat→fS} {i:Nat} {z:fS} {b:Nat} (h:i < b):snoc tr i z b=z:=if_neg (by omega)
theorem zh.snoc {tr:Nat→fS} {i:Nat} {z:fS} (h:zh base aC tr i) (hz:aX z.E base z.hp aC z.H) (he:Ext base (tr i).E (tr i).hp (tr i).H z.E z.hp z.H):zh base aC (snoc tr i z) (i+1):=by
 refine ⟨fun b hb=>?_,fun b c hbc hc=>?_⟩
 ·by_cases hbi:b≤i
  ·rw [ei hbi];exact h.rel b hbi
  ·rw [gp (by omega)];exact hz
 ·by_cases hci:c≤i
  ·rw [ei hci,ei (by omega)];exact h.ext b c hbc hci
  ·rw [gp (by omega:i < c)];by_cases hbi:b≤i
   ·rw [ei hbi];exact (h.ext b i hbi (qq6 _)).trans he
   ·rw [gp (by omega)];exact .refl
def hU (tr:Nat→fS) (i:Nat) (p:Acc) (k:Nat):Prop :=
 p.b≤i∧k < (tr p.b).H.n∧match p.own with
  | some j=>∃ aE,(tr i).E.ρ j aE=some k∧(p.wr=true→Own (tr i).E.ρ (tr i).hp k)
  | none=>¬ (tr p.b).E.O (tr p.b).hp k
structure Jh (tr:Nat→fS) (x:uw) (t:Tc):Prop where
 idx:t.idx=x.i
 a:t.a=(tr x.i).H.n
 b:t.b=(tr (x.i+1)).H.n
 al:x.al=false→x.call=false→t.a=t.b
 call:t.call=x.call
 rd:∀ k ∈ t.rd,∃ p ∈ x.acc,p.wr=false∧hU tr x.i p k
 wr:∀ k ∈ t.wr,∃ p ∈ x.acc,p.wr=true∧hU tr x.i p k
theorem hU.snoc {tr:Nat→fS} {i i0:Nat} {z:fS} {p:Acc} {k:Nat} (h:hU tr i0 p k) (hi:i0≤i):hU (snoc tr i z) i0 p k:=by obtain ⟨h1,h2,h3⟩:=h;refine ⟨h1,by rw [ei (by omega)];exact h2,?_⟩;rw [ei hi,ei (by omega)];exact h3
theorem Jh.snoc {tr:Nat→fS} {i:Nat} {z:fS} {x:uw} {t:Tc} (h:Jh tr x t) (hi:x.i < i):Jh (snoc tr i z) x t :=
 ⟨h.idx,by rw [ei (by omega)];exact h.a,by rw [ei (by omega)];exact h.b,h.al,h.call,
  fun k hk=>by obtain ⟨p,a,b,c⟩:=h.rd k hk;exact ⟨p,a,b,c.snoc (by omega)⟩,fun k hk=>by obtain ⟨p,a,b,c⟩:=h.wr k hk;exact ⟨p,a,b,c.snoc (by omega)⟩⟩
def zj (i:Nat) (p q:Acc):Bool :=
 (!p.wr && !q.wr) || (match p.own,q.own with
  | some j,some j'=>!Nat.beq j j'
  | some _,none=>p.wr && Nat.ble q.b i
  | none,some _=>!p.wr
  | none,none=>false)
def zk (x y:uw):Bool :=
 x.acc.all (fun p=>y.acc.all (zj x.i p)) && ((!x.al && !x.call) || y.acc.all (fun q=>Nat.ble q.b x.i)) && (!x.call || y.acc.all (fun q=>!q.wr)) && (!y.call || x.acc.all (fun p=>!p.wr))
def ow (b:List Nat):List uw→Bool
 | []=>true
 | y :: l=>l.all (fun x=>(b.getD y.i 0).testBit x.i || zk x y) && ow b l
theorem Cn {tr:Nat→fS} {n:Nat} (ht:zh base aC tr n) {i l:Nat} (hil:i < l) (hl:l≤n) {p q:Acc} {k:Nat} (hp:hU tr i p k) (hq:hU tr l q k) (hw:p.wr=true∨q.wr=true) (hf:zj i p q=true):False:=by
 obtain ⟨p1,p2,p3⟩:=hp;obtain ⟨q1,q2,q3⟩:=hq;have eil:=ht.ext i l (by omega) hl;have back:∀ {b c:Nat},b≤c→c≤n→Own (tr c).E.ρ (tr c).hp k→k < (tr b).H.n→Own (tr b).E.ρ (tr b).hp k:=fun hbc hcn ho hk=>((ht.ext _ _ hbc hcn).own k ho).elim id (fun h=>by omega);unfold zj at hf;rw [Bool.or_eq_true] at hf
 rcases hf with hf|hf
 ·simp only [qq7,Bool.not_eq_true'] at hf
  rcases hw with h|h
  ·rw [hf.1] at h;cases h
  ·rw [hf.2] at h;cases h
 ·cases hpo:p.own with
  | some j =>
   rw [hpo] at hf p3;obtain ⟨aE,r1,r2⟩:=p3
   cases hqo:q.own with
   | some j' =>rw [hqo] at hf q3;obtain ⟨ver',s1,s2⟩:=q3;have:=(ht.rel l hl).inj j j' aE ver' k (eil.zM _ _ _ r1) s1;subst this;simp only [mL,Bool.not_true] at hf;cases hf
   | none =>rw [hqo] at hf q3;simp only [qq7] at hf;have hb:=Nat.le_of_ble_eq_true hf.2;exact q3 (.inl (back hb (by omega) (r2 hf.1) q2))
  | none =>
   rw [hpo] at hf p3
   cases hqo:q.own with
   | some j' =>
    rw [hqo] at hf q3;simp only [Bool.not_eq_true'] at hf;obtain ⟨ver',s1,s2⟩:=q3
    have hqw:q.wr=true:=by
     rcases hw with h|h
     ·rw [hf] at h;cases h
     ·exact h
    exact p3 (.inl (back (by omega) hl (s2 hqw) p2))
   | none=>rw [hqo] at hf;cases hf
theorem Ea {tr:Nat→fS} {n:Nat} (ht:zh base aC tr n) {x y:uw} {s t:Tc} (hs:Jh tr x s) (hy:Jh tr y t) (hxy:x.i < y.i) (hn:y.i≤n) (hf:zk x y=true):conflict s t=false:=by
 cases hc:conflict s t with
 | false=>rfl
 | true =>
  exfalso;unfold zk at hf;simp only [qq7,List.all_eq_true,Bool.or_eq_true,Bool.not_eq_true'] at hf;obtain ⟨⟨⟨f1,f2⟩,f3⟩,f4⟩:=hf;have two:∀ {k:Nat} {p q:Acc},p ∈ x.acc→q ∈ y.acc→hU tr x.i p k→hU tr y.i q k→(p.wr=true∨q.wr=true)→False:=fun hp hq ap aq hw=>Cn ht hxy hn ap aq hw (f1 _ hp _ hq)
  have K4:∀ {k:Nat} {q:Acc},q ∈ y.acc→hU tr y.i q k→s.a≤k→k < s.b→False:=by
   intro k q hq aq h1 h2
   rcases f2 with h|h
   ·have:=hs.al h.1 h.2;omega
   ·have:=Nat.le_of_ble_eq_true (h q hq);have:=(ht.ext q.b x.i this (by omega)).n;have:=aq.2.1;rw [hs.a] at h1;omega
  have out:∀ {k:Nat} {p:Acc},hU tr x.i p k→t.a≤k→False:=by intro k p ap h1;have:=(ht.ext p.b x.i ap.1 (by omega)).n;have:=(ht.ext x.i y.i (by omega) hn).n;have:=ap.2.1;rw [hy.a] at h1;omega
  unfold conflict at hc;simp only [Bool.or_eq_true,qq7,Bool.not_eq_true'] at hc
  rcases hc with (((((((hc|hc)|hc)|hc)|hc)|hc)|hc)|hc)|hc
  ·obtain ⟨k,k1,k2⟩:=lN.1 hc;obtain ⟨p,p1,p2,p3⟩:=hs.wr k k1;obtain ⟨q,q1,q2,q3⟩:=hy.rd k k2;exact two p1 q1 p3 q3 (.inl p2)
  ·obtain ⟨k,k1,k2⟩:=lN.1 hc;obtain ⟨p,p1,p2,p3⟩:=hs.wr k k1;obtain ⟨q,q1,q2,q3⟩:=hy.wr k k2;exact two p1 q1 p3 q3 (.inl p2)
  ·obtain ⟨k,k1,k2⟩:=lN.1 hc;obtain ⟨q,q1,q2,q3⟩:=hy.wr k k1;obtain ⟨p,p1,p2,p3⟩:=hs.rd k k2;exact two p1 q1 p3 q3 (.inr q2)
  ·rw [hs.call] at hc
   cases hw:t.wr with
   | nil=>rw [hw] at hc;simp at hc
   | cons k l =>
    obtain ⟨q,q1,q2,q3⟩:=hy.wr k (by rw [hw];simp)
    rcases f3 with h|h
    ·rw [hc.1] at h;cases h
    ·rw [h q q1] at q2;cases q2
  ·rw [hy.call] at hc
   cases hw:s.wr with
   | nil=>rw [hw] at hc;simp at hc
   | cons k l =>
    obtain ⟨p,p1,p2,p3⟩:=hs.wr k (by rw [hw];simp)
    rcases f4 with h|h
    ·rw [hc.1] at h;cases h
    ·rw [h p p1] at p2;cases p2
  ·obtain ⟨k,k1,k2,k3⟩:=within_iff.1 hc;obtain ⟨q,q1,q2,q3⟩:=hy.rd k k1;exact K4 q1 q3 k2 k3
  ·obtain ⟨k,k1,k2,k3⟩:=within_iff.1 hc;obtain ⟨q,q1,q2,q3⟩:=hy.wr k k1;exact K4 q1 q3 k2 k3
  ·obtain ⟨k,k1,k2,k3⟩:=within_iff.1 hc;obtain ⟨p,p1,p2,p3⟩:=hs.rd k k1;exact out p3 k2
  ·obtain ⟨k,k1,k2,k3⟩:=within_iff.1 hc;obtain ⟨p,p1,p2,p3⟩:=hs.wr k k1;exact out p3 k2
inductive xo (tr:Nat→fS):Nat→List uw→List Ev→Prop
 | nil:xo tr 0 [] []
 | cons {i:Nat} {x:uw} {ev:Ev} {l:List uw} {m:List Ev}:xo tr i l m→x.i=i→Jh tr x ev.t→xo tr (i+1) (x :: l) (ev :: m)
theorem xo.snoc {tr:Nat→fS} {i:Nat} {z:fS} {l:List uw} {m:List Ev}:∀ {j:Nat},xo tr j l m→j≤i→xo (snoc tr i z) j l m:=by
 intro j h
 induction h with
 | nil=>intro _;exact .nil
 | cons _ hi he ih=>intro hj;exact .cons (ih (by omega)) hi (he.snoc (by omega))
theorem xo.pairs {tr:Nat→fS} {n:Nat} (ht:zh base aC tr n) {b:List Nat} {i:Nat} {l:List uw} {m:List Ev} (h:xo tr i l m):i≤n→ow b l=true→eK T b m=true:=by
 induction h with
 | nil=>intro _ _;rfl
 | cons hl hi he ih =>
  rename_i i y ev l m;intro hn hc;simp only [ow,qq7,List.all_eq_true] at hc;simp only [eK,qq7,List.all_eq_true];refine ⟨?_,ih (by omega) hc.2⟩;have hc1:=hc.1;clear ih hc
  have key:∀ {j:Nat} {l:List uw} {m:List Ev},xo tr j l m→(∀ x ∈ l,(b.getD y.i 0).testBit x.i=true∨zk x y=true)→j≤y.i→∀ s ∈ m,(!conflict s.t ev.t || (b.getD ev.t.idx 0).testBit s.t.idx || spare T s ev)=true:=by
   intro j l m h
   induction h with
   | nil=>intro _ _ s hs;cases hs
   | cons hl' hi' he' ih' =>
    rename_i x ev' _ _;intro hx hj s hs
    rcases List.mem_cons.1 hs with rfl|hs
    ·rcases hx x (by simp) with h|h
     ·rw [he.idx,he'.idx,h];simp
     ·rw [Ea ht he' he (by omega) (by omega) h];simp
    ·exact ih' (fun z hz=>hx z (List.mem_cons_of_mem _ hz)) (by omega) s hs
  exact key hl (fun x hx=>by simpa using hc1 x hx) (by omega)
def m6 (dst:Option Tmp) (bt:Nat→Nat) (b:Nat):Nat→Nat :=
 match dst with
 | some d=>fun t=>bif Nat.beq t d then b else bt t
 | none=>bt
def Eb (bt:Nat→Nat):Operand→Nat
 | .tmp t=>bt t
 | _=>0
def xT (o:Op) (fr:Nat→AV) (bt:Nat→Nat) (i:Nat):Nat :=
 match C9 o fr with
 | some [x]=>Eb bt x
 | _=>i+1
def m7 (v:AV):Prop:=v.deep=true∧∀ (g:aG) (O O':Nat→Prop) (u:Value),DR g O v u→DR g O' v u
def Handed (hp:List AB) (as vs:List AV) (v:AV):Prop:=(vs=as∧cV as=true)∨(zf hp as vs∧m7 v)
def iL (T:bC) (tab:List XE) (mu:Tmp→Bool) (dst:Option Tmp) (op:Op) (i:Nat) (bt:Nat→Nat) (fr:Nat→AV) (hp:List AB) (K:(Nat→AV)→List AB→(Nat→Nat)→uw→Prop):Prop :=
 match cS op with
 | .call f args=>force (LI T.P fr f) fun F=>eB (args.map (bh fr)) fun as=>F.deep=true∧∃ vs v,Handed hp as vs v∧ah T tab true F vs v∧gY dst fr v fun fr'=>K fr' hp (m6 dst bt (i+1)) ⟨i,[],true,true⟩
 | .next _=>False
 | .plain=>∃ a,FF op fr (Eb bt)=some a∧wpOp T (HF mu dst) op fr hp fun v hp'=>force v fun v=>gY dst fr v fun fr'=>K fr' hp' (m6 dst bt (xT op fr bt i)) ⟨i,a,news? op,false⟩
def jl (T:bC) (tab:List XE) (mu:Tmp→Bool) (ops:Array Oper):List Oper→Nat→(Nat→Nat)→List uw→bO→(bO→Prop)→Prop
 | [],_,_,acc,st,K=>ow (pZ ops) acc=true∧K st
 | ⟨dst,op,_,_,_,gd⟩ :: l,i,bt,acc,⟨fr,hp,aC,rd,fl⟩,K =>
  dA ops.toList gd fr (iL T tab mu dst op i bt fr hp fun fr' hp' bt' x=>jl T tab mu ops l (i+1) bt' (x :: acc) ⟨fr',hp',aC,rd,fl⟩ K)
   (gY dst fr (.tp []) fun fr'=>jl T tab mu ops l (i+1) (m6 dst bt 0) (⟨i,[],false,false⟩ :: acc) ⟨fr',hp,aC,rd,fl⟩ K)
def mM (tr:Nat→fS) (i:Nat) (bt:Nat→Nat) (fr:Nat→AV) (tm:Tr Value):Prop:=∀ t,bt t≤i∧(tr (bt t)).ar (fr t) ((tm.get t).getD undef)
theorem mM.put {tr:Nat→fS} {i:Nat} {bt:Nat→Nat} {fr:Nat→AV} {tm:Tr Value} {z:fS} (h:mM tr i bt fr tm) {b:Nat} {v:AV} {u:Value} (hb:b≤i+1) (hv:(snoc tr i z b).ar v u) (d:Option Tmp):mM (snoc tr i z) (i+1) (m6 d bt b) (A4 fr d v) (cY tm d u):=by
 intro t;have old:bt t≤i+1∧(snoc tr i z (bt t)).ar (fr t) ((tm.get t).getD undef):=⟨by have:=(h t).1;omega,by rw [ei (h t).1];exact (h t).2⟩
 cases d with
 | none=>exact old
 | some d =>
  show (bif Nat.beq t d then b else bt t)≤_∧(snoc tr i z (bif Nat.beq t d then b else bt t)).ar (bif Nat.beq t d then v else fr t) (((tm.set d u).get t).getD undef);rw [Tr.gk,Tr.beq_eq];by_cases htd:t=d
  ·rw [if_pos htd,decide_eq_true htd];exact ⟨hb,hv⟩
  ·rw [if_neg htd,decide_eq_false htd];exact old
theorem mM.eval {tr:Nat→fS} {i:Nat} {bt:Nat→Nat} {fr:Nat→AV} {tm:Tr Value} (h:mM tr i bt fr tm) (x:Operand):Eb bt x≤i∧(tr (Eb bt x)).ar (bh fr x) (aY tm x):=by
 cases x with
 | tmp t=>exact h t
 | const v =>
  refine ⟨qq5 _,?_⟩;show (tr 0).ar (bif flat v then qL v else .cA) v
  cases hf:flat v with
  | true=>exact kP hf
  | false=>exact .cA
 | func f=>exact ⟨qq5 _,.fn rfl rfl (fun i x u hx=>by cases hx) (fun i x u hx=>by cases hx)⟩
 | global g=>exact ⟨qq5 _,.cA⟩
theorem qV {tr:Nat→fS} {i:Nat} (ht:zh base aC tr i) {v:AV} {u:Value} {b:Nat} {wr:Bool} {l:List Acc} (h:vU v b wr=some l) (hb:b≤i) (hv:(tr b).ar v u) (hi:(tr i).ar v u)
  (hw:wr=true→∀ j aE o,(v=.ptr j aE o∨∃ n c,v=.aL j aE o n c)→∃ cs es,(tr i).hp[j]?=some (.cells cs es aE)) (hom:wr=true→∀ j,v=.om j→∃ b,(tr i).hp[j]?=some b∧b.ver?=some 0) :
  ∀ k ∈ cw u,∃ p ∈ l,p.wr=wr∧hU tr i p k:=by
 have deepk:∀ {k:Nat} {x:bz},(tr b).H.get k=some x→¬ (tr b).E.O (tr b).hp k→hU tr i ⟨none,b,wr⟩ k:=fun h1 h2=>⟨hb,(ht.rel b hb).wf.lt h1,h2⟩;have ownk:∀ {j aE k:Nat},(tr b).E.ρ j aE=some k→(wr=true→∃ b,(tr i).hp[j]?=some b∧b.ver?=some aE)→hU tr i ⟨some j,b,wr⟩ k:=by intro j aE k h1 h2;have h3:=(ht.ext b i hb (qq6 _)).zM _ _ _ h1;refine ⟨hb,(ht.rel b hb).rn _ _ _ h1,aE,h3,fun hwr=>?_⟩;obtain ⟨x,hc,hx⟩:=h2 hwr;exact ⟨j,x,aE,hc,hx,h3⟩
 intro k hk;unfold vU at h;split at h
 ·cases h;obtain ⟨k',d,cs,own,e,rfl,q1,q2,_⟩:=hv.cF.cF;obtain rfl:k=k':=by simpa [cw] using hk
  exact ⟨_,by simp,rfl,deepk q1 q2⟩
 ·cases h
  cases hv.iJ with
  | nil=>simp [cw] at hk
  | sl q1 q2 =>
   rename_i k' o' n' c' es' cs' own' e' _ _ _ _ _;obtain rfl:k=k':=by simpa [cw] using hk
   exact ⟨_,by simp,rfl,deepk q1 q2⟩
 ·rename_i j aE o;cases h;obtain ⟨k',hk',rfl⟩:=hv.cX;obtain rfl:k=k':=by simpa [cw] using hk
  exact ⟨_,by simp,rfl,ownk hk' fun hwr=>(let ⟨_,_,h⟩:=hw hwr j aE o (.inl rfl);⟨_,h,rfl⟩)⟩
 ·rename_i j aE o n c;cases h
  rcases hv.dW with ⟨k',hk',rfl⟩|⟨_,_,rfl⟩
  ·obtain rfl:k=k':=by simpa [cw] using hk
   exact ⟨_,by simp,rfl,ownk hk' fun hwr=>(let ⟨_,_,h⟩:=hw hwr j aE o (.inr ⟨n,c,rfl⟩);⟨_,h,rfl⟩)⟩
  ·simp [cw] at hk
 ·rename_i j;cases h;obtain ⟨k',hk',rfl⟩:=hv.nM;obtain rfl:k=k':=by simpa [cw] using hk
  exact ⟨_,by simp,rfl,ownk hk' fun hwr=>hom hwr j rfl⟩
 ·exfalso;obtain ⟨rfl,hf⟩:=hv.eU;revert hk;unfold cw;split
  ·simp [bf] at hf
  ·simp [bf] at hf
  ·simp [bf] at hf
  ·simp
 ·exfalso
  cases hv with
  | d h=>cases h with
   | ag=>simp [cw] at hk
  | ag=>simp [cw] at hk
 ·exfalso;obtain ⟨us,rfl,_⟩:=hv.vK;simp [cw] at hk
 ·exfalso
  cases hv with
  | d h=>cases h with
   | fn=>simp [cw] at hk
  | fn=>simp [cw] at hk
 ·cases h
theorem Ec {e:bY} (h:e.news=false):(H.app e).n=H.n:=by cases e <;> first|rfl|cases h
theorem Co {t:TypeId} {a x:AV} {K:AV→List AB→Prop} (hw:aR T t a x hp K) {j aE o:Nat} (h:a=.ptr j aE o∨∃ n c,a=.aL j aE o n c):∃ cs es,hp[j]?=some (.cells cs es aE):=by
 unfold aR at hw;split at hw
 ·obtain ⟨cs,es,h1,_⟩:=hw
  rcases h with h|⟨n,c,h⟩
  ·cases h;exact ⟨cs,es,h1⟩
  ·cases h
 ·exact hw.elim
theorem FH {own:Bool} {t:TypeId} {a x:AV} {K:AV→List AB→Prop} (hw:i6 T own t a x hp K) {j aE o:Nat} (h:a=.ptr j aE o∨∃ n c,a=.aL j aE o n c):∃ cs es,hp[j]?=some (.cells cs es aE):=by
 unfold i6 at hw;split at hw
 ·obtain ⟨_,els,_,_,hw⟩:=hw;split at hw
  ·rcases h with h|⟨n,c,h⟩ <;> cases h
  ·rcases h with h|⟨n,c,h⟩ <;> cases h
  ·rcases hw with ⟨_,cs,h1,_⟩|⟨cs,es,h1,_⟩
   ·rcases h with h|⟨n,c,h⟩
    ·cases h
    ·cases h;exact ⟨cs,_,h1⟩
   ·rcases h with h|⟨n,c,h⟩
    ·cases h
    ·cases h;exact ⟨cs,_,h1⟩
  ·exact hw.elim
 ·exact hw.elim
theorem FI {t:TypeId} {a x:AV} {K:AV→List AB→Prop} (hw:aR T t a x hp K) (j:Nat):a ≠ .om j:=fun h=>by subst h;unfold aR at hw;exact hw.elim
theorem JL {own:Bool} {t:TypeId} {a x:AV} {K:AV→List AB→Prop} (hw:i6 T own t a x hp K) (j:Nat):a ≠ .om j:=fun h=>by
 subst h;unfold i6 at hw;split at hw
 ·obtain ⟨_,els,_,_,hw⟩:=hw;exact hw.elim
 ·exact hw.elim
theorem Cp {t:TypeId} {m k:AV} {K:AV→List AB→Prop} (hw:gx T t m k hp K) {j:Nat} (h:m=.om j):∃ b,hp[j]?=some b∧b.ver?=some 0:=by subst h;obtain ⟨ents,clock,_,_,_,_,_,h1,_⟩:=hw;exact ⟨_,h1,rfl⟩
theorem Ed {t:TypeId} {m k:AV} {K:AV→List AB→Prop} (hw:gx T t m k hp K) {j aE o:Nat} (h:m=.ptr j aE o∨∃ n c,m=.aL j aE o n c):False:=by rcases h with rfl|⟨n,c,rfl⟩ <;> exact hw
theorem Bc {m s v:AV} {K:AV→List AB→Prop} (hw:eP m s v hp K) {j:Nat} (h:m=.om j):∃ b,hp[j]?=some b∧b.ver?=some 0:=by subst h;obtain ⟨ents,clock,_,_,_,h1,_⟩:=hw;exact ⟨_,h1,rfl⟩
theorem Cq {m s v:AV} {K:AV→List AB→Prop} (hw:eP m s v hp K) {j aE o:Nat} (h:m=.ptr j aE o∨∃ n c,m=.aL j aE o n c):False:=by rcases h with rfl|⟨n,c,rfl⟩ <;> exact hw
theorem HJ {tr:Nat→fS} {i:Nat} (ht:zh base aC tr i) {bt:Nat→Nat} {fr:Nat→AV} {tm:Tr Value} (hb:mM tr i bt fr tm) {own:Bool} {o:Op} {l:List Acc} (h:FF o fr (Eb bt)=some l)
  {K:AV→List AB→Prop} (hw:wpOp T own o fr (tr i).hp K):∃ r w,oJ o (aY tm)=some (r,w)∧(∀ k ∈ r,∃ p ∈ l,p.wr=false∧hU tr i p k)∧(∀ k ∈ w,∃ p ∈ l,p.wr=true∧hU tr i p k):=by
 have now:∀ x,(tr i).ar (bh fr x) (aY tm x):=fun x=>(ht.ext _ i (hb.eval x).1 (qq6 _)).ar (ht.rel _ (hb.eval x).1).wf (hb.eval x).2
 have rd:∀ {x:Operand} {l:List Acc},vU (bh fr x) (Eb bt x) false=some l→∀ k ∈ cw (aY tm x),∃ p ∈ l,p.wr=false∧hU tr i p k :=
  fun {x l} h=>qV ht h (hb.eval x).1 (hb.eval x).2 (now x) (fun h=>Bool.noConfusion h) (fun h=>Bool.noConfusion h)
 have nil:∀ (Q:Nat→Prop),∀ k ∈ ([]:List Nat),Q k:=fun Q k hk=>by cases hk
 unfold FF at h;split at h
 ·exact ⟨_,_,rfl,rd h,nil _⟩
 ·rename_i t a x;exact ⟨_,_,rfl,nil _,qV ht h (hb.eval a).1 (hb.eval a).2 (now a) (fun _ j aE o hj=>Co (show aR T t (bh fr a) (bh fr x) (tr i).hp K from dP (K:=fun v=>aR T t (bh fr a) v (tr i).hp K) hw) hj) (fun _ j he=>absurd he (FI (show aR T t (bh fr a) (bh fr x) (tr i).hp K from dP (K:=fun v=>aR T t (bh fr a) v (tr i).hp K) hw) j))⟩
 ·rename_i args tys;split at h
  ·rename_i s x hargs;split at h
   ·rename_i l1 l2 h1 h2;cases h;have hw:gJ T own .append (args.toList.map (bh fr)) tys.toList (tr i).hp K:=gK hw;rw [hargs] at hw
    have happ:∃ t,i6 T own t (bh fr s) (bh fr x) (tr i).hp K:=by
     unfold gJ at hw;simp only [List.map_cons,List.map_nil] at hw;split at hw
     ·rename_i s' x' t u hsx _;cases hsx;split at hw
      ·exact ⟨_,hw⟩
      ·exact hw.elim
     ·exact hw.elim
    obtain ⟨t,happ⟩:=happ;refine ⟨cw (aY tm x),cw (aY tm s),by simp [oJ,hargs],fun k hk=>?_,fun k hk=>?_⟩
    ·obtain ⟨p,a,b⟩:=rd h1 k hk;exact ⟨p,List.mem_append_left _ a,b⟩
    ·obtain ⟨p,a,b⟩:=qV ht h2 (hb.eval s).1 (hb.eval s).2 (now s) (fun _ j aE o hj=>FH happ hj) (fun _ j he=>absurd he (JL happ j)) k hk;exact ⟨p,List.mem_append_right _ a,b⟩
   ·cases h
  ·cases h
 ·rename_i args tys;split at h
  ·rename_i x hargs;exact ⟨cw (aY tm x),[],by simp [oJ,hargs],rd h,nil _⟩
  ·cases h
 ·exact ⟨_,_,rfl,rd h,nil _⟩
 ·rename_i t m k;exact ⟨_,_,rfl,nil _,qV ht h (hb.eval m).1 (hb.eval m).2 (now m) (fun _ j aE o hj=>(Ed (show gx T t (bh fr m) (bh fr k) (tr i).hp K from hw) hj).elim) (fun _ j hj=>Cp (show gx T t (bh fr m) (bh fr k) (tr i).hp K from hw) hj)⟩
 ·rename_i t m a x;exact ⟨_,_,rfl,nil _,qV ht h (hb.eval m).1 (hb.eval m).2 (now m) (fun _ j aE o hj=>(Cq (show eP (bh fr m) (bh fr a) (bh fr x) (tr i).hp K from hw) hj).elim) (fun _ j hj=>Bc (show eP (bh fr m) (bh fr a) (bh fr x) (tr i).hp K from hw) hj)⟩
 ·cases h
 ·cases h
 ·cases h
 ·cases h
 ·cases h
 ·cases h
 ·rename_i n1 n2 n3 n4 n5 n6 n7 n8 n9 n10 n11 n12 n13;cases h;refine ⟨[],[],?_,nil _,nil _⟩;unfold oJ
  split <;> first
   | rfl
   | exact absurd rfl (n1 _ _)|exact absurd rfl (n2 _ _ _)|exact absurd rfl (n3 _ _)|exact absurd rfl (n4 _ _)
   | exact absurd rfl (n5 _ _ _ _)|exact absurd rfl (n6 _ _ _)|exact absurd rfl (n7 _ _ _ _)|exact absurd rfl (n8 _ _)|exact absurd rfl (n9 _ _)|exact absurd rfl (n10 _)|exact absurd rfl (n11 _ _ _ _)|exact absurd rfl (n12 _ _)|exact absurd rfl (n13 _ _)
theorem aX.grow (hr:aX E base hp aC H) (hn:H.n≤H'.n) (hwf:Wf H') (hsame:∀ k,k < H.n→H'.get k=H.get k) (hlo:min H.lo base≤H'.lo):aX E base hp aC H'∧Ext base E hp H E hp H':=by
 have e:Ext base E hp H E hp H':=⟨hn,rfl,rfl,rfl,fun _ _ _ h=>h,fun _ h=>.inl h,fun k hk _=>hsame k hk,hlo⟩;refine ⟨⟨hwf,fun j x aE hj hvx=>?_,hr.inj,fun j v k hk=>Nat.lt_of_lt_of_le (hr.rn j v k hk) hn,hr.fresh,hr.new,hr.sup,hr.gW,hr.dx,hr.ds,fun k hk=>Nat.lt_of_lt_of_le (hr.sn k hk) hn,fun k hk=>Nat.lt_of_lt_of_le (hr.xn k hk) hn,hr.oX,Nat.le_trans hr.bn hn,aC.st hr.aC (fun k hk=>hsame k (hr.sn k hk)) hn⟩,e⟩
 rcases hr.gm j x aE hj hvx with ⟨k,b',q1,q2,q3⟩|q
 ·exact .inl ⟨k,b',q1,by rw [hsame k (hr.wf.lt q2)];exact q2,e.br hr.wf q3⟩
 ·exact .inr q
theorem mN {mu:Tmp→Bool} {ops:Array Oper}:∀ {l:List Oper} {i:Nat} {bt:Nat→Nat} {acc:List uw} {evs:List Ev} {st:bO} {K:bO→Prop} {tr:Nat→fS} {s:St},jl T tab mu ops l i bt acc st K →
  zh base st.aC tr i→(tr i).hp=st.hp→(tr i).H=s.hp→s.rd=st.rd→mM tr i bt st.fr s.fr→xo tr i acc evs →
  ∃ m s',cv T (RX T tab m) ops l i s evs=some [s']∧∃ E' st',K st'∧st'.fl=st.fl∧qR E' base st' s'∧Ext base (tr 0).E (tr 0).hp (tr 0).H E' st'.hp s'.hp
 | [],i,bt,acc,evs,st,K,tr,s,h,ht,h1,h2,h3,hb,he=>by
  obtain ⟨hc,hk⟩:=h;have hrel:=ht.rel i (qq6 _)
  have hok:eM T ops evs=true:=by
   unfold eM
   cases hq:(evs.all fun e=>e.t.wr.isEmpty && Nat.beq e.t.a e.t.b) with
   | true=>rfl
   | false=>exact he.pairs ht (qq6 _) hc
  refine ⟨0,s,by rw [fL,hok];rfl,(tr i).E,st,hk,rfl,⟨by rw [←h1,←h2];exact hrel,h3,fun t=>?_⟩,by rw [←h1,←h2];exact ht.ext 0 i (qq5 _) (qq6 _)⟩;have:=(ht.ext _ i (hb t).1 (qq6 _)).ar (ht.rel _ (hb t).1).wf (hb t).2;rw [←h1,←h2];exact this
 | o :: l,i,bt,acc,evs,st,K,tr,s,h,ht,h1,h2,h3,hb,he=>by
  have h:dA ops.toList o.guard st.fr (iL T tab mu o.dst o.op i bt st.fr st.hp fun fr' hp' bt' x=>jl T tab mu ops l (i+1) bt' (x :: acc) ⟨fr',hp',st.aC,st.rd,st.fl⟩ K)
   (gY o.dst st.fr (.tp []) fun fr'=>jl T tab mu ops l (i+1) (m6 o.dst bt 0) (⟨i,[],false,false⟩ :: acc) ⟨fr',st.hp,st.aC,st.rd,st.fl⟩ K):=h
  have hrel:=ht.rel i (qq6 _);have hfr:lQ (tr i).E.ρ (tr i).H.get ((tr i).E.O (tr i).hp) st.fr s.fr:=fun t=>(ht.ext _ i (hb t).1 (qq6 _)).ar (ht.rel _ (hb t).1).wf (hb t).2;have hz0:(snoc tr i (tr i) 0)=tr 0:=ei (qq5 _)
  rcases A6 hfr h with ⟨hg,h⟩|⟨hg,h⟩
  ·
   have go:∀ (z:fS) (v:AV) (u:Value) (b:Nat) (x:uw) (t:Tc) (m0:Nat),aX z.E base z.hp st.aC z.H→Ext base (tr i).E (tr i).hp (tr i).H z.E z.hp z.H→b≤i+1→(snoc tr i z b).ar v u→x.i=i→Jh (snoc tr i z) x t →
     (∀ m,m0≤m→ck T (RX T tab m) o.op i s=some (u,z.H,t))→jl T tab mu ops l (i+1) (m6 o.dst bt b) (x :: acc) ⟨A4 st.fr o.dst v,z.hp,st.aC,st.rd,st.fl⟩ K →
     ∃ m s',cv T (RX T tab m) ops (o :: l) i s evs=some [s']∧∃ E' st',K st'∧st'.fl=st.fl∧qR E' base st' s'∧Ext base (tr 0).E (tr 0).hp (tr 0).H E' st'.hp s'.hp:=by
    intro z v u b x t m0 hz he' hbi hv hxi hx hd hw;obtain ⟨m,s',r1,r2⟩:=mN (s:=⟨cY s.fr o.dst u,z.H,s.rd⟩) (evs:=⟨o,s,u,z.H,t⟩ :: evs) hw (ht.snoc hz he') (by rw [gp (Nat.lt_succ_self _)]) (by rw [gp (Nat.lt_succ_self _)]) h3 (hb.put hbi hv o.dst) (.cons (he.snoc (qq6 _)) hxi hx);rw [ei (qq5 _)] at r2;refine ⟨max m0 m,s',?_,r2⟩;rw [cG,hg];simp only [cond_true,hd _ (Nat.le_max_left _ _)];exact i5 (gV (Nat.le_max_right _ _)) _ _ _ _ _ _ r1
   unfold iL at h;split at h
   ·rename_i f args hk;have h:=gK (dP h);obtain ⟨hF,vs,v,hhand,⟨hvd,hpure⟩,h⟩:=h;have hF':=(FA hfr f).deep hF;have hget:({s.hp with lo:=s.hp.n}:Hp).get=(tr i).H.get:=by rw [h2];rfl
    obtain ⟨goal,hgo,m0,L,q1,q2,q3⟩:∃ goal,cy (lD T.P s.fr f) (args.map (aY s.fr))=some goal ∧
      ∃ m L,RX T tab m (jS {s.hp with lo:=s.hp.n} goal)=some L∧(true=true→∃ r,L=[r])∧∀ r ∈ L,∃ w H',r=.ret w H' ∧
       ({s.hp with lo:=s.hp.n}:Hp).n≤H'.n∧Wf H'∧(∀ k,k < ({s.hp with lo:=s.hp.n}:Hp).n→H'.get k=({s.hp with lo:=s.hp.n}:Hp).get k)∧min ({s.hp with lo:=s.hp.n}:Hp).lo ({s.hp with lo:=s.hp.n}:Hp).n≤H'.lo∧DR H'.get ((tr i).E.O (tr i).hp) v w:=by
     rcases hhand with ⟨rfl,hA⟩|⟨hz,hfree⟩
     ·have hA':=(i7 hfr args).deep hA
      exact hpure ((tr i).E.O (tr i).hp) {s.hp with lo:=s.hp.n} _ _ (by rw [h2] at hrel;exact hrel.wf) (fun k hk=>by
       have:k < (tr i).H.n:=hk.elim (fun h=>hrel.nK h) (hrel.xn k)
       rw [h2] at this;exact this) (by rw [hget];exact hF') (by rw [hget];exact hA')
     ·obtain ⟨goal,hgo,m0,L,q1,q2,q3⟩:=hpure (tr i).E.X {s.hp with lo:=s.hp.n} _ _ (by rw [h2] at hrel;exact hrel.wf) (fun k hk=>by
       have:k < (tr i).H.n:=hrel.xn k hk
       rw [h2] at this;exact this) (by rw [hget];exact hF'.mono fun k b hk ho=>⟨hk,fun hx=>ho (.inr hx)⟩) (by
        rw [hget];rw [←h1] at hz
        exact hz.dr hrel (fun _ h=>h) (i7 hfr args))
      refine ⟨goal,hgo,m0,L,q1,q2,fun r hm=>?_⟩;obtain ⟨w,H',e1,e2,e3,e4,e5,e6⟩:=q3 r hm;exact ⟨w,H',e1,e2,e3,e4,e5,hfree.2 _ _ _ _ e6⟩
    obtain ⟨r,hr⟩:=q2 rfl;subst hr;obtain ⟨w,H',rfl,hn,hwf,hsame,hlo,hdr⟩:=q3 r (by simp)
    obtain ⟨g1,g2⟩:=hrel.grow (H':={H' with lo:=s.hp.lo}) (by rw [h2];exact hn) hwf (fun k hk=>by
     have:=hsame k (by rw [←h2];exact hk)
     rw [h2];exact this) (by rw [h2];exact Nat.min_le_left _ _)
    refine go ⟨(tr i).E,st.hp,{H' with lo:=s.hp.lo}⟩ v w (i+1) ⟨i,[],true,true⟩ ⟨i,[],[],true,s.hp.n,H'.n⟩ m0 (by rw [←h1];exact g1) (by rw [←h1];exact g2) (qq6 _) ?_ rfl ?_ (fun m hm=>?_) (kT h)
    ·rw [gp (Nat.lt_succ_self _)];refine .d ?_;show DR H'.get ((tr i).E.O st.hp) v w;rw [←h1];exact hdr
    ·refine ⟨rfl,by rw [ei (qq6 _),h2],by rw [gp (Nat.lt_succ_self _)],fun h=>Bool.noConfusion h,rfl,fun k hk=>(by cases hk),fun k hk=>(by cases hk)⟩
    ·unfold ck;simp only [hk,hgo,gV hm _ _ q1]
     have:Nat.ble s.hp.n H'.lo=true:=Nat.ble_eq_true_of_le (by
      have:min s.hp.n s.hp.n≤H'.lo:=hlo
      omega)
     rw [DS this]
   ·exact h.elim
   ·rename_i hk;obtain ⟨a,hacc,hw⟩:=h;have hw':=hw;rw [←h1] at hw';obtain ⟨r,w,ht1,ht2,ht3⟩:=HJ ht hb hacc hw'
    have evr:∀ (z:fS) (u:Value) (e:bY),jt T s.hp.n o.op (aY s.fr) s.hp.get=some (u,e)→z.H=s.hp.app e→Jh (snoc tr i z) ⟨i,a,news? o.op,false⟩ ⟨i,r,w,false,s.hp.n,(s.hp.app e).n⟩:=by
     intro z u e hop hz;refine ⟨rfl,by rw [ei (qq6 _),h2],by rw [gp (Nat.lt_succ_self _),hz],fun hal _=>(Ec (FG hop hal)).symm,rfl,fun k hk=>?_,fun k hk=>?_⟩
     ·obtain ⟨p,p1,p2,p3⟩:=ht2 k hk;exact ⟨p,p1,p2,p3.snoc (qq6 _)⟩
     ·obtain ⟨p,p1,p2,p3⟩:=ht3 k hk;exact ⟨p,p1,p2,p3.snoc (qq6 _)⟩
    have drw:∀ (u:Value) (e:bY) (m:Nat),jt T s.hp.n o.op (aY s.fr) s.hp.get=some (u,e)→ck T (RX T tab m) o.op i s=some (u,s.hp.app e,⟨i,r,w,false,s.hp.n,(s.hp.app e).n⟩):=by intro u e m hop;unfold ck;simp only [hk,ht1,hop]
    by_cases hm:∃ x,C9 o.op st.fr=some [x]
    ·obtain ⟨x,hm⟩:=hm;have hbirth:xT o.op st.fr bt i=Eb bt x:=by unfold xT;rw [hm]
     have hbx:=hb.eval x;have eb:=ht.ext _ i hbx.1 (qq6 _);obtain ⟨u,v,r1,r2,r3,r4⟩:=FE (ρ2:=(tr (Eb bt x)).E.ρ) (g2:=(tr (Eb bt x)).H.get) (O2:=(tr (Eb bt x)).E.O (tr (Eb bt x)).hp) (n:=s.hp.n) hfr hm (fun y hy=>by obtain rfl:=List.mem_singleton.1 hy;exact hbx.2) (fun k b hk ho=>(eb.keep (ht.rel _ hbx.1).wf k b hk ho).1) hw;rw [h2] at r1;have hz:(tr i).H=s.hp.app .none:=h2;rw [hbirth] at r2;refine go (tr i) v u (Eb bt x) ⟨i,a,news? o.op,false⟩ ⟨i,r,w,false,s.hp.n,(s.hp.app .none).n⟩ 0 hrel .refl (by omega) (by rw [ei hbx.1];exact r4) rfl (evr _ u .none r1 hz) (fun m _=>by rw [hz];exact drw u .none m r1) (by rw [h1];exact kT (dP r2))
    ·have hbirth:xT o.op st.fr bt i=i+1:=by
      unfold xT;split
      ·rename_i x hx;exact absurd ⟨x,hx⟩ hm
      ·rfl
     obtain ⟨u,e,E',v,hp',r1,r2,r3,r4,r5⟩:=vR hrel hfr hw';rw [h2] at r1 r3 r4 r5;rw [hbirth] at r2;refine go ⟨E',hp',s.hp.app e⟩ v u (i+1) ⟨i,a,news? o.op,false⟩ ⟨i,r,w,false,s.hp.n,(s.hp.app e).n⟩ 0 r3 (by rw [h2];exact r4) (qq6 _) (by rw [gp (Nat.lt_succ_self _)];exact r5) rfl (evr _ u e r1 rfl) (fun m _=>drw u e m r1) (kT (dP r2))
  ·obtain ⟨m,s',r1,r2⟩:=mN (s:=⟨cY s.fr o.dst undef,s.hp,s.rd⟩) (evs:=⟨o,s,undef,s.hp,⟨i,[],[],false,s.hp.n,s.hp.n⟩⟩ :: evs) (kT h) (ht.snoc (z:=tr i) hrel .refl) (by rw [gp (Nat.lt_succ_self _)];exact h1) (by rw [gp (Nat.lt_succ_self _)];exact h2) h3
    (hb.put (qq5 _) A5 o.dst) (.cons (he.snoc (qq6 _)) rfl ⟨rfl,by rw [ei (qq6 _),h2],by rw [gp (Nat.lt_succ_self _),h2],fun _ _=>rfl,rfl,fun k hk=>(by cases hk),fun k hk=>(by cases hk)⟩)
   rw [hz0] at r2;refine ⟨m,s',?_,r2⟩;rw [cG,hg];exact r1
def Da (T:bC) (tab:List XE) (one:Bool) (mu:Tmp→Bool) (ops:Array Oper) (c:Nat) (st:bO) (K:bO→Prop):Prop :=
 jl T tab mu ops (ops.toList.take c) 0 (fun _=>0) [] st fun s=>wpOps T tab one mu ops.toList (ops.toList.drop c) s K
theorem ay.draw {id:Nat} {ops:Array Oper} {mu:Tmp→Bool} {st:bO} {K:Exit→bO→Prop} (h:Da T tab one mu ops (fP ops) st (K .normal)):ay T tab one (.region id ops true) st K:=by
 intro E base s hs;obtain ⟨m,s',r1,E',st',r2,r3,r4,r5⟩:=mN (base:=base) (tr:=fun _=>⟨E,st.hp,s.hp⟩) (evs:=[]) h ⟨fun _ _=>hs.h,fun _ _ _ _=>.refl⟩ rfl rfl hs.rd (fun t=>⟨qq6 _,hs.fr t⟩) .nil;obtain ⟨m2,L,q1,q2,q3⟩:=kU r2 r4;refine ⟨max m m2,L.map fun s=>(.normal,s),?_,fun h1=>?_,fun p hp=>?_⟩
 ·rw [dU]
  have:cH T (RX T tab (max m m2)) ops s=some L:=by
   cases hn:wK ops with
   | none =>unfold cH;simp only [hn,i5 (gV (Nat.le_max_left m m2)) _ _ _ _ _ _ r1];exact iG (gV (Nat.le_max_right _ _)) _ _ _ _ q1
   | some c =>have ht:=D4 hn;rw [ht,List.take_length] at r1;rw [ht,List.drop_length,fu] at q1;cases q1;exact AP ht (i5 (gV (Nat.le_max_left m m2)) _ _ _ _ _ _ r1)
  simp only [cond_true,this]
 ·obtain ⟨p,hp⟩:=q2 h1;exact ⟨_,by rw [hp];rfl⟩
 ·obtain ⟨s2,hm,rfl⟩:=List.mem_map.1 hp;obtain ⟨E2,st2,k1,k2,k3,k4⟩:=q3 s2 hm;rw [r3] at k2 k4;exact ⟨E2,st2,k1,k2,k3,r5.Ho.trans k4⟩
def kA (T:bC) (tab:List XE) (one:Bool) (mu:Tmp→Bool):Code→bO→(Exit→bO→Prop)→Prop
 | .skip,st,K=>K .normal st
 | .label _,st,K=>K .normal st
 | .region _ ops false,st,K=>wpOps T tab one mu ops.toList ops.toList st (K .normal)
 | .region _ ops true,st,K=>Da T tab one mu ops (fP ops) st (K .normal)
 | .seq a b,st,K=>kA T tab one mu a st (qU (fun s=>kA T tab one mu b s K) K)
 | .cond c a b,st,K=>match bh st.fr c with
  | .fl (.bool t)=>(t=true→kA T tab one mu a st K)∧(t=false→kA T tab one mu b st K)
  | _=>False
 | .block id c,st,K=>kA T tab one mu c st (kj id K)
 | .exit id,st,K=>K (.exit id) st
 | .ret,st,K=>K .ret st
 | .scope c,st,K=>kA T tab one mu c st (sx K)
 | c,st,K=>ay T tab one c st K
theorem aa {mu:Tmp→Bool}:∀ {c:Code} {st:bO} {K:Exit→bO→Prop},kA T tab one mu c st K→ay T tab one c st K:=by
 intro c
 induction c with
 | skip=>intro st K h;exact .here (fun _ _=>rfl) h
 | label l=>intro st K h;exact .here (fun _ _=>rfl) h
 | region id ops draw =>
  intro st K h
  cases draw with
  | false=>exact .ops h
  | true=>exact .draw h
 | seq a b iha ihb =>intro st K h;refine .seq (iha h |>.mono fun e s hk=>?_);cases e <;> first|exact ihb hk|exact hk
 | cond c a b iha ihb =>
  intro st K h;unfold kA at h;split at h
  ·rename_i t ht;exact .cond ht (fun e=>iha (h.1 e)) (fun e=>ihb (h.2 e))
  ·exact h.elim
 | block id c ih=>intro st K h;exact .block (ih h)
 | exit id=>intro st K h;exact .here (fun _ _=>rfl) h
 | ret=>intro st K h;exact .here (fun _ _=>rfl) h
 | scope c ih=>intro st K h;exact .scope (ih h)
 | _=>intro st K h;exact h
end
end Go.RM
namespace Go.RM
open Go
inductive Sh where
 | int (k:IntKind)
 | bool
 | str
 | slice (s:Sh)
 | nil
 | cons (s:Sh) (l:Sh)
 | arr (n:Nat) (s:Sh)
def Sh.cells:Sh→Nat
 | .int _=>1
 | .bool=>1
 | .str=>1
 | .slice _=>1
 | .nil=>0
 | .cons s l=>s.cells+l.cells
 | .arr n s=>n * s.cells
inductive TV:Sh→List AV→Prop
 | int {k:IntKind} {n:Int}:(Lit.int k n).wf=true→TV (.int k) [.fl (.int k n)]
 | bool {b:Bool}:TV .bool [.fl (.bool b)]
 | str {s:ByteArray}:s.size≤maxLen→TV .str [.fl (.string s)]
 | slice {s:Sh} {els:List (List AV)}:els.length≤maxLen→(∀ el ∈ els,TV s el)→TV (.slice s) [.sl els false]
 | nil:TV .nil []
 | cons {s l:Sh} {a b:List AV}:TV s a→TV l b→TV (.cons s l) (a++b)
 | arr {n:Nat} {s:Sh} {els:List (List AV)}:els.length=n→(∀ el ∈ els,TV s el)→TV (.arr n s) els.flatten
mutual
def kB (P:Program):Nat→Sh→TypeId→Bool
 | 0,_,_=>false
 | _+1,.int k,t=>match P.underlying t with
  | some (.int k')=>decide (k=k')
  | _=>false
 | _+1,.bool,t=>match P.underlying t with
  | some .bool=>true
  | _=>false
 | _+1,.str,t=>match P.underlying t with
  | some .string=>true
  | _=>false
 | d+1,.slice s,t=>match P.underlying t with
  | some (.slice e)=>Nat.beq (P.cellsOf e) s.cells && (Nat.ble 1 s.cells && kB P d s e)
  | _=>false
 | d+1,.nil,t=>match P.underlying t with
  | some (.struct fs)=>Nat.beq (P.cellsOf t) 0 && sA P d .nil fs.toList 0
  | _=>false
 | d+1,.cons s l,t=>match P.underlying t with
  | some (.struct fs)=>Nat.beq (P.cellsOf t) (s.cells+l.cells) && sA P d (.cons s l) fs.toList 0
  | _=>false
 | d+1,.arr n s,t=>match P.underlying t with
  | some (.array m e)=>Nat.beq n m && Nat.beq (P.cellsOf e) s.cells && Nat.beq (P.cellsOf t) (n * s.cells) && kB P d s e
  | _=>false
def sA (P:Program):Nat→Sh→List Field→Nat→Bool
 | 0,_,_,_=>false
 | _+1,.nil,[],_=>true
 | d+1,.cons s l,f :: fs,o=>Nat.beq f.offset o && Nat.beq (P.cellsOf f.type) s.cells && kB P d s f.type && sA P d l fs (o+s.cells)
 | _+1,_,_,_=>false
end
section
variable {P : Program} {w : World}
structure LS (γ:Gm) (H:Hp) (w:World):Prop where
 hr:HR γ H.get w
 wf:Wf H
 fr:∀ k,H.n≤k→γ.loc k=none
 un:∀ k a,H.get k=some a→a.own=false∧a ≠ .dead
structure LE (γ:Gm) (H:Hp) (γ':Gm) (H':Hp):Prop where
 le:γ.Le γ'
 n:H.n≤H'.n
 same:∀ k,k < H.n→H'.get k=H.get k
theorem LE.refl {γ:Gm} {H:Hp}:LE γ H γ H:=⟨Gm.Le.refl γ,qq6 _,fun _ _=>rfl⟩
theorem LE.trans {γ γ1 γ2:Gm} {H H1 H2:Hp} (a:LE γ H γ1 H1) (b:LE γ1 H1 γ2 H2):LE γ H γ2 H2 :=
 ⟨a.le.trans b.le,Nat.le_trans a.n b.n,fun k hk=>(b.same k (Nat.lt_of_lt_of_le hk a.n)).trans (a.same k hk)⟩
abbrev Db:Nat→Prop:=fun _=>False
theorem LE.dr {γ γ':Gm} {H H':Hp} (e:LE γ H γ' H') (hw:Wf H) {v:AV} {u:Value} (h:DR H.get Db v u):DR H'.get Db v u :=
 h.mono fun k b hk _=>⟨by rw [e.same k (hw.lt hk)];exact hk,fun h=>h⟩
theorem LE.LQ {γ γ':Gm} {H H':Hp} (e:LE γ H γ' H') (hw:Wf H) {v:List AV} {u:List Value} (h:si H.get Db v u):si H'.get Db v u:=⟨h.1,fun i a u x y=>e.dr hw (h.2 i a u x y)⟩
def Lk (w:World) (s:Sh) (cs:List Value):Prop:=∀ (γ:Gm) (H:Hp),LS γ H w→∃ γ' H' us avs,LE γ H γ' H'∧LS γ' H' w∧us.length=cs.length∧bV γ' us cs∧si H'.get Db avs us∧TV s avs∧avs.length=s.cells
theorem Lk.flat {s:Sh} {v:Value} (hf:bf v=true) (ht:TV s [.fl v]) (hs:s.cells=1):Lk w s [v]:=fun γ H h =>
 ⟨γ,H,[v],[.fl v],.refl,h,rfl,bV.cons (.flat hf) (bV.nil γ),⟨rfl,fun i a u x y=>by
  cases i with
  | zero=>cases x;cases y;exact .fl hf
  | succ i=>simp at x⟩,ht,hs.symm⟩
theorem Lk.list {s:Sh}:∀ {csl:List (List Value)},(∀ cs ∈ csl,Lk w s cs∧cs.length=s.cells)→∀ (γ:Gm) (H:Hp),LS γ H w→∃ (γ':Gm) (H':Hp) (us:List Value) (els:List (List AV)),LE γ H γ' H'∧LS γ' H' w∧us.length=csl.flatten.length∧bV γ' us csl.flatten∧si H'.get Db els.flatten us ∧
  els.length=csl.length∧(∀ el ∈ els,TV s el∧el.length=s.cells)
 | [],_,γ,H,h=>⟨γ,H,[],[],.refl,h,rfl,bV.nil γ,⟨rfl,fun i a u x=>by cases x⟩,rfl,fun el he=>by cases he⟩
 | cs :: csl,hl,γ,H,h=>by
  obtain ⟨γ1,H1,us1,av1,e1,h1,l1,v1,d1,t1,c1⟩:=(hl cs (by simp)).1 γ H h;obtain ⟨γ2,H2,us2,els,e2,h2,l2,v2,d2,t2,c2⟩:=Lk.list (fun c hc=>hl c (List.mem_cons_of_mem _ hc)) γ1 H1 h1;refine ⟨γ2,H2,us1++us2,av1 :: els,e1.trans e2,h2,by simp [l1,l2],?_,?_,by simp [t2],fun el he=>?_⟩
  ·rw [List.flatten_cons];exact (v1.mono e2.le).append v2
  ·rw [List.flatten_cons];exact (e2.LQ h1.wf d1).append d2
  ·rcases List.mem_cons.1 he with rfl|he
   ·exact ⟨t1,c1⟩
   ·exact c2 el he
theorem LS.row {γ:Gm} {H:Hp} (h:LS γ H w) {b o:Nat} {cs':Array Value} {e:TypeId} {fz:Nat × Nat} (hb:w.heap[b]?=some (.cells cs' e fz)) {us:List Value} (hc:dj γ us cs' o) :
  ∃ γ',γ'={γ with loc:=fun i=>if i=H.n then some (b,o) else γ.loc i}∧LE γ H γ' (H.push (.cells us false 0))∧LS γ' (H.push (.cells us false 0)) w∧γ'.loc H.n=some (b,o):=by
 have hle:γ.Le {γ with loc:=fun i=>if i=H.n then some (b,o) else γ.loc i}:=by refine ⟨fun k x hk=>?_,fun k x hk=>rfl,rfl⟩;show (if k=H.n then _ else _)=_;rw [if_neg (fun hkn=>by rw [hkn,h.fr _ (qq6 _)] at hk;cases hk)];exact hk
 have hlt:b < w.heap.size:=(Array.getElem?_eq_some_iff.1 hb).1
 have hget:∀ k a,(H.push (.cells us false 0)).get k=some a→(k < H.n∧H.get k=some a)∨(k=H.n∧a=.cells us false 0):=by
  intro k a hk;rw [Hp.ew] at hk;split at hk
  ·rename_i hkn;cases hk;exact .inr ⟨hkn,rfl⟩
  ·exact .inl ⟨h.wf.lt hk,hk⟩
 have hun:∀ k a,(H.push (.cells us false 0)).get k=some a→a.own=false∧a ≠ .dead:=by
  intro k a hk
  rcases hget k a hk with ⟨_,h1⟩|⟨_,rfl⟩
  ·exact h.un k a h1
  ·exact ⟨rfl,by simp⟩
 refine ⟨_,rfl,⟨hle,Nat.le_succ _,fun k hk=>ct hk⟩,⟨⟨fun k b' o' a hk hl=>?_,fun k k' b' o' o2 a a' hk ho=>?_,fun k b' o' hl=>?_,h.hr.base,h.hr.gl⟩,(cO.push H _).wf h.wf,fun k hk=>?_,hun⟩,if_pos rfl⟩
 ·have hl:(if k=H.n then some (b,o) else γ.loc k)=some (b',o'):=hl
  rcases hget k a hk with ⟨h1,h2⟩|⟨rfl,rfl⟩
  ·rw [if_neg (by omega)] at hl;exact (h.hr.gm k b' o' a h2 hl).mono hle hl rfl
  ·rw [if_pos rfl] at hl;cases hl;exact ⟨cs',e,fz,hb,hc.mono hle,fun h=>Bool.noConfusion h⟩
 ·rw [(hun k a hk).1] at ho;cases ho
 ·have hl:(if k=H.n then some (b,o) else γ.loc k)=some (b',o'):=hl;split at hl
  ·cases hl;exact hlt
  ·exact h.hr.lt k b' o' hl
 ·show (if k=H.n then _ else _)=_;have:H.n+1≤k:=hk;rw [if_neg (by omega)];exact h.fr k (by omega)
variable {D : Type} {enc : TypeId × Value → D} {base : Nat} {spare : Nat → Bool} {held : Bool}
theorem FJ {b:Addr} {n:Nat} {cs:List Value} (h:w.cells? base b n=some cs):cs.length=n∧∀ i,i < n→w.cell? (b.add i)=cs[i]?:=by
 unfold World.cells? at h;split at h
 ·refine ⟨by simpa using mapM_some_length h,fun i hi=>mapM_some_get h i i (by simp [hi])⟩
 ·cases h
theorem xU {a:Addr} {v:Value} (h:w.cell? a=some v):a.spot=none∧∃ c e fz,w.heap[a.block]?=some (.cells c e fz)∧c[a.off]?=some v:=by
 unfold World.cell? at h;split at h
 ·rename_i c e fz hb;split at h
  ·cases h
  ·rename_i hs;exact ⟨by simpa using hs,c,e,fz,hb,h⟩
 ·cases h
theorem ox (a:Addr) (n:Nat):(a.add n).block=a.block:=by unfold Addr.add;split <;> rfl
theorem Dc (a:Addr) (n:Nat):(a.add n).off=a.off+n:=by unfold Addr.add;split <;> simp_all
mutual
theorem lk (P:Program):∀ (d:Nat) (s:Sh) (t:TypeId),kB P d s t=true→∀ (fuel:Nat) (cs:List Value) (x:DataW D × List MemPlace),DataW.trod enc P w base spare held fuel t cs=some x→Lk w s cs∧cs.length=s.cells
 | 0,_,_,h=>by simp [kB] at h
 | d+1,.int k,t,h=>by
  intro fuel cs x hx;unfold kB at h;split at h
  ·rename_i k' hu;obtain rfl:=of_decide_eq_true h;obtain ⟨n,rfl,_,hw⟩:=DataW.trod_int hu hx;exact ⟨.flat rfl (.int hw) rfl,rfl⟩
  ·cases h
 | d+1,.bool,t,h=>by
  intro fuel cs x hx;unfold kB at h;split at h
  ·rename_i hu;obtain ⟨b,rfl,_⟩:=DataW.trod_bool hu hx;exact ⟨.flat rfl .bool rfl,rfl⟩
  ·cases h
 | d+1,.str,t,h=>by
  intro fuel cs x hx;unfold kB at h;split at h
  ·rename_i hu;obtain ⟨s,rfl,_,hw⟩:=DataW.trod_string hu hx;exact ⟨.flat rfl (.str hw) rfl,rfl⟩
  ·cases h
 | d+1,.slice s,t,h=>by
  intro fuel cs x hx;unfold kB at h;split at h
  ·rename_i e hu;simp only [qq7] at h;have hsz:=Nat.eq_of_beq_eq_true h.1
   rcases DataW.trod_slice hu hx with ⟨rfl,_⟩|⟨a,len,cap,elems,rest,n,_,rfl,_,_,hlc,hcm,hel,hat,_⟩
   ·refine ⟨fun γ H hs=>⟨γ,H,[.slice none 0 0],[.sl [] false],.refl,hs,rfl,bV.cons (.flat rfl) (bV.nil γ),⟨rfl,fun i a u x y=>?_⟩,.slice (qq5 _) (fun el he=>by cases he),rfl⟩,rfl⟩
    cases i with
    | zero=>cases x;cases y;exact .nil
    | succ i=>simp at x
   ·
    let csl:List (List Value):=(List.range len).map fun i=>(w.cells? base (a.add (i * P.cellsOf e)) (P.cellsOf e)).getD []
    have hlen:csl.length=len:=by simp [csl]
    have hcs:∀ i,i < len→∃ ci y,csl[i]?=some ci∧w.cells? base (a.add (i * P.cellsOf e)) (P.cellsOf e)=some ci∧DataW.trod enc P w base spare held n e ci=some y:=by intro i hi;have h1:=hat i hi;have h2:elems[i]?=some (elems[i]'(by omega)):=List.getElem?_eq_getElem _;rw [h2,Option.bind_eq_some_iff] at h1;obtain ⟨ci,c1,c2⟩:=h1;exact ⟨ci,_,by simp [csl,hi,c1],c1,c2⟩
    have hall:∀ ci ∈ csl,Lk w s ci∧ci.length=s.cells:=by intro ci hci;obtain ⟨i,hi,rfl⟩:=List.getElem_of_mem hci;obtain ⟨cj,y,q1,q2,q3⟩:=hcs i (by omega);rw [List.getElem?_eq_getElem hi] at q1;cases q1;exact lk P d s e h.2.2 n _ y q3
    refine ⟨fun γ H hs=>?_,rfl⟩;obtain ⟨γ1,H1,us,els,e1,h1,l1,v1,d1,t1,c1⟩:=Lk.list hall γ H hs;have htv:TV (.slice s) [.sl els false]:=.slice (by rw [t1,hlen];omega) (fun el he=>(c1 el he).1)
    have hfin:∀ (u:Value) (γ':Gm) (H':Hp),LE γ1 H1 γ' H'→LS γ' H' w→VR γ' u (.slice (some a) len cap)→DR H'.get Db (.sl els false) u →
      ∃ γ' H' us avs,LE γ H γ' H'∧LS γ' H' w∧us.length=[Value.slice (some a) len cap].length∧bV γ' us [.slice (some a) len cap]∧si H'.get Db avs us∧TV (.slice s) avs∧avs.length=(Sh.slice s).cells:=by
     intro u γ' H' he hs' hv hd;refine ⟨γ',H',[u],[.sl els false],e1.trans he,hs',rfl,bV.cons hv (bV.nil γ'),⟨rfl,fun i a w x y=>?_⟩,htv,rfl⟩
     cases i with
     | zero=>cases x;cases y;exact hd
     | succ i=>simp at x
    have hfl:∀ el ∈ csl,el.length=s.cells:=fun el he=>(hall el he).2;have hels:∀ el ∈ els,el.length=s.cells:=fun el he=>(c1 el he).2;have hne:els.length=len:=t1.trans hlen;by_cases h0:len * s.cells=0
    ·
     have hg:∀ k a,(H1.push (.cells us false 0)).get k=some a→(k < H1.n∧H1.get k=some a)∨(k=H1.n∧a=.cells us false 0):=by
      intro k a hk;rw [Hp.ew] at hk;split at hk
      ·rename_i hkn;cases hk;exact .inr ⟨hkn,rfl⟩
      ·exact .inl ⟨h1.wf.lt hk,hk⟩
     have hus:us=[]:=List.length_eq_zero_iff.1 (by rw [l1,dX hfl,hlen];exact h0);by_cases hl0:len=0
     ·subst hl0;refine hfin (.slice (some ⟨H1.n,0,none⟩) 0 2) γ1 (H1.push (.cells us false 0)) ⟨Gm.Le.refl γ1,Nat.le_succ _,fun k hk=>ct hk⟩ ⟨⟨fun k b o a hk hl=>?_,fun k k' b o o' a a' hk ho=>?_,h1.hr.lt,h1.hr.base,h1.hr.gl⟩,(cO.push H1 _).wf h1.wf,fun k hk=>h1.fr k (by have:H1.n+1≤k:=hk;omega),fun k a hk=>?_⟩ (.cI (by omega) (fun h=>by omega) (by omega)) ?_
      ·rcases hg k a hk with ⟨_,q⟩|⟨rfl,_⟩
       ·exact h1.hr.gm k b o a q hl
       ·rw [h1.fr _ (qq6 _)] at hl;cases hl
      ·rcases hg k a hk with ⟨_,q⟩|⟨_,rfl⟩
       ·rw [(h1.un k a q).1] at ho;cases ho
       ·cases ho
      ·rcases hg k a hk with ⟨_,q⟩|⟨_,rfl⟩
       ·exact h1.un k a q
       ·exact ⟨rfl,by simp⟩
      ·exact .row (es:=s.cells) (own:=false) (e:=0) iI (fun h=>h) hels hne (by
        have hd:=d1;rw [hus] at hd ⊢
        exact ⟨hd.1,fun i a u x y=>by cases y⟩) (fun h=>Bool.noConfusion h)
     ·
      exfalso
      have hz:s.cells=0:=by
       rcases Nat.mul_eq_zero.1 h0 with h|h
       ·exact absurd h hl0
       ·exact h
      have:=Nat.le_of_ble_eq_true h.2.1;omega
    ·have hpos:0 < len∧0 < s.cells:=by
      constructor
      ·apply Nat.pos_of_ne_zero;intro h;rw [h] at h0;simp at h0
      ·apply Nat.pos_of_ne_zero;intro h;rw [h] at h0;simp at h0
     have hcell:∀ i ci,csl[i]?=some ci→∀ j,j < s.cells→(∀ v,ci[j]?=some v→w.cell? ((a.add (i * s.cells)).add j)=some v):=by intro i ci hi j hj v hv;obtain ⟨cj,y,q1,q2,q3⟩:=hcs i (by rw [←hlen];exact (List.getElem?_eq_some_iff.1 hi).1);rw [q1] at hi;cases hi;rw [hsz] at q2;obtain ⟨_,r2⟩:=FJ q2;rw [r2 j hj];exact hv
     obtain ⟨c0,y0,z1,z2,z3⟩:=hcs 0 hpos.1;have hz0:c0.length=s.cells:=hfl c0 (List.mem_of_getElem? z1);have hv0:c0[0]?=some (c0[0]'(by omega)):=List.getElem?_eq_getElem _;obtain ⟨sp,cs',e',fz,hb,_⟩:=xU (hcell 0 c0 z1 0 hpos.2 _ hv0);rw [ox,ox] at hb;have hspot:a.spot=none:=by have:((a.add (0 * s.cells)).add 0).spot=none:=sp;simpa [Addr.add] using this
     have hcr:dj γ1 us cs' a.off:=by
      intro j v hj;have hjl:j < len * s.cells:=by rw [←hlen,←dX hfl,←l1];exact (List.getElem?_eq_some_iff.1 hj).1
      obtain ⟨v',q1,q2⟩:=v1.get hj;have hi:j / s.cells < len:=(Nat.div_lt_iff_lt_mul hpos.2).2 hjl;have hm:j % s.cells < s.cells:=Nat.mod_lt _ hpos.2;obtain ⟨ci,y,p1,p2,p3⟩:=hcs _ hi;have hdecomp:j / s.cells * s.cells+j % s.cells=j:=by rw [Nat.mul_comm];exact Nat.div_add_mod j s.cells
      have hf:=ec hfl _ ci (j % s.cells) p1 hm;rw [hdecomp,q1] at hf;obtain ⟨_,c2,e2,f2,b1,b2⟩:=xU (hcell _ ci p1 _ hm v' hf.symm);rw [ox,ox,hb] at b1;cases b1;rw [Dc,Dc,Nat.add_assoc,hdecomp] at b2;exact ⟨v',b2,q2⟩
     obtain ⟨γ2,_,e2,h2,hloc⟩:=h1.row hb hcr;refine hfin (.slice (some ⟨H1.n,0,none⟩) len (len+2)) γ2 _ e2 h2 ?_ ?_
     ·have:=VR.slice (γ:=γ2) (k:=H1.n) (o:=0) (n:=len) (c:=len+2) (c':=cap) hloc hlc (fun h=>by omega) (fun h=>by omega) (fun h=>by omega);have ha:(⟨a.block,a.off+0,none⟩:Addr)=a:=by cases a;simp at hspot;subst hspot;rfl
      rw [ha] at this;exact this
     ·exact .row (es:=s.cells) iI (fun h=>h) hels hne (e2.LQ h1.wf d1) (fun h=>Bool.noConfusion h)
  ·cases h
 | d+1,.nil,t,h=>by
  intro fuel cs x hx;unfold kB at h;split at h
  ·rename_i fs hu;simp only [qq7] at h;obtain ⟨xs,n,_,_,hl,_,hf⟩:=DataW.trod_struct hu hx;have hz:=Nat.eq_of_beq_eq_true h.1;obtain rfl:=List.length_eq_zero_iff.1 (hl.trans hz);exact ⟨fun γ H hs=>⟨γ,H,[],[],.refl,hs,rfl,bV.nil γ,⟨rfl,fun i a u x=>by cases x⟩,.nil,rfl⟩,rfl⟩
  ·cases h
 | d+1,.cons s l,t,h=>by
  intro fuel cs x hx;unfold kB at h;split at h
  ·rename_i fs hu;simp only [qq7] at h;obtain ⟨xs,n,_,_,hl,hxl,hf⟩:=DataW.trod_struct hu hx;have hz:=Nat.eq_of_beq_eq_true h.1
   have:=K5 P d (.cons s l) fs.toList 0 h.2 n cs (by rw [hl,hz];simp [Sh.cells]) (fun i f hi=>by
    rw [Array.getElem?_toList] at hi;rw [hf i f hi];have hlt:i < xs.length:=by rw [hxl];exact (Array.getElem?_eq_some_iff.1 hi).1
    exact ⟨_,List.getElem?_eq_getElem hlt⟩)
   rw [List.drop_zero] at this;exact ⟨this,by rw [hl,hz];rfl⟩
  ·cases h
 | d+1,.arr m s,t,h=>by
  intro fuel cs x hx;unfold kB at h;split at h
  ·rename_i m' e hu;simp only [qq7] at h;obtain ⟨⟨⟨h1,h2⟩,h3⟩,h4⟩:=h;obtain rfl:=Nat.eq_of_beq_eq_true h1;have hsz:=Nat.eq_of_beq_eq_true h2;have htot:=Nat.eq_of_beq_eq_true h3
   have hx':∃ n,cs.length=P.cellsOf t∧∀ i,i < m→∃ y,DataW.trod enc P w base spare held n e ((cs.drop (i * P.cellsOf e)).take (P.cellsOf e))=some y:=by
    obtain ⟨xs,n,_,_,hl,hxl,hp⟩:=DataW.trod_array hu hx
    exact ⟨n,hl,fun i hi=>by
     rw [hp i hi]
     exact ⟨_,List.getElem?_eq_getElem (by omega)⟩⟩
   obtain ⟨n,hl,hel⟩:=hx';rw [hsz] at hel;rw [htot] at hl
   let csl:List (List Value):=(List.range m).map fun i=>(cs.drop (i * s.cells)).take s.cells
   have hflat:csl.flatten=cs:=by
    have key:∀ (m:Nat) (cs:List Value),cs.length=m * s.cells→((List.range m).map fun i=>(cs.drop (i * s.cells)).take s.cells).flatten=cs:=by
     intro m
     induction m with
     | zero=>intro cs h;rw [Nat.zero_mul] at h;simp [List.length_eq_zero_iff.1 h]
     | succ m ih =>
      intro cs h;rw [List.range_succ_eq_map,List.map_cons,List.map_map,List.flatten_cons,Nat.zero_mul,List.drop_zero];have hd:(cs.drop s.cells).length=m * s.cells:=by rw [List.length_drop,h,Nat.add_mul];omega
      have e:=ih (cs.drop s.cells) hd
      have:((fun i=>(cs.drop (i * s.cells)).take s.cells) ∘ Nat.succ)=fun i=>((cs.drop s.cells).drop (i * s.cells)).take s.cells:=by
       funext i
       simp only [Function.comp,List.drop_drop];rw [show s.cells+i * s.cells=Nat.succ i * s.cells by rw [Nat.succ_mul];omega]
      rw [this,e];exact List.take_append_drop _ _
    exact key m cs hl
   have hall:∀ ci ∈ csl,Lk w s ci∧ci.length=s.cells:=by intro ci hci;obtain ⟨i,hi,rfl⟩:=List.mem_map.1 hci;obtain ⟨y,hy⟩:=hel i (by simpa using hi);exact lk P d s e h4 n _ y hy
   refine ⟨fun γ H hs=>?_,hl⟩;obtain ⟨γ1,H1,us,els,e1,q1,l1,v1,d1,t1,c1⟩:=Lk.list hall γ H hs;rw [hflat] at l1 v1;have hels:els.length=m:=by rw [t1];simp [csl]
   exact ⟨γ1,H1,us,els.flatten,e1,q1,l1,v1,d1,.arr hels (fun el he=>(c1 el he).1),by
    rw [dX (fun el he=>(c1 el he).2),hels];rfl⟩
  ·cases h
theorem K5 (P:Program):∀ (d:Nat) (l:Sh) (fs:List Field) (o:Nat),sA P d l fs o=true→∀ (n:Nat) (cs:List Value),cs.length=o+l.cells→(∀ (i:Nat) (f:Field),fs[i]?=some f→∃ y,DataW.trod enc P w base spare held n f.type ((cs.drop f.offset).take (P.cellsOf f.type))=some y) →
  Lk w l (cs.drop o)
 | 0,_,_,_,h=>by simp [sA] at h
 | d+1,.nil,[],o,_=>by intro n cs hl _;have:cs.drop o=[]:=List.length_eq_zero_iff.1 (by rw [List.length_drop,hl];simp [Sh.cells]);rw [this];exact fun γ H hs=>⟨γ,H,[],[],.refl,hs,rfl,bV.nil γ,⟨rfl,fun i a u x=>by cases x⟩,.nil,rfl⟩
 | d+1,.cons s l,f :: fs,o,h=>by
  intro n cs hl hf;simp only [sA,qq7] at h;obtain ⟨⟨⟨h1,h2⟩,h3⟩,h4⟩:=h;have ho:=Nat.eq_of_beq_eq_true h1;have hsz:=Nat.eq_of_beq_eq_true h2;obtain ⟨y,hy⟩:=hf 0 f rfl;rw [ho,hsz] at hy;obtain ⟨k1,k2⟩:=lk P d s f.type h3 n _ y hy;have k3:=K5 P d l fs (o+s.cells) h4 n cs (by rw [hl];simp [Sh.cells];omega) (fun i g hi=>hf (i+1) g (by simpa using hi));have hsplit:cs.drop o=(cs.drop o).take s.cells++cs.drop (o+s.cells):=by rw [←List.drop_drop];exact (List.take_append_drop _ _).symm
  intro γ H hs;obtain ⟨γ1,H1,us1,av1,e1,q1,l1,v1,d1,t1,c1⟩:=k1 γ H hs;obtain ⟨γ2,H2,us2,av2,e2,q2,l2,v2,d2,t2,c2⟩:=k3 γ1 H1 q1;rw [hsplit];exact ⟨γ2,H2,us1++us2,av1++av2,e1.trans e2,q2,by simp [l1,l2],(v1.mono e2.le).append v2,(e2.LQ q1.wf d1).append d2,.cons t1 t2,by simp [c1,c2,Sh.cells]⟩
 | d+1,.nil,_ :: _,_,h=>by simp [sA] at h
 | d+1,.cons _ _,[],_,h=>by simp [sA] at h
 | d+1,.int _,_,_,h=>by simp [sA] at h
 | d+1,.bool,_,_,h=>by simp [sA] at h
 | d+1,.str,_,_,h=>by simp [sA] at h
 | d+1,.slice _,_,_,h=>by simp [sA] at h
 | d+1,.arr _ _,_,_,h=>by simp [sA] at h
end
end
end Go.RM
namespace Go.RM
open Go
section
variable {P : Program} {w : World} {D : Type} {enc : TypeId × Value → D} {base : Nat} {spare : Nat → Bool} {held : Bool}
def tF:Sh→List AV→AV
 | .nil,l=>.ag l
 | .cons _ _,l=>.ag l
 | .arr _ _,l=>.ag l
 | _,l=>l.headD .cA
def Cr:List Sh→List AV→Prop
 | [],[]=>True
 | s :: l,a :: as=>(∃ avs,TV s avs∧a=tF s avs)∧Cr l as
 | _,_=>False
theorem ux {s:Sh} {v:Value} (hv:v.cells.toList=[v]) (hs:∀ l,tF s l=l.headD .cA) (h1:s.cells=1) (hl:Lk w s v.cells.toList) (γ:Gm) (H:Hp) (h:LS γ H w) :
  ∃ γ' H' u a,LE γ H γ' H'∧LS γ' H' w∧VR γ' u v∧DR H'.get Db a u∧∃ avs,TV s avs∧a=tF s avs:=by
 rw [hv] at hl;obtain ⟨γ',H',us,avs,e,q,l1,v1,d1,t1,c1⟩:=hl γ H h
 match us,l1 with
 | [u],_ =>
  match avs,c1.trans h1 with
  | [a],_=>exact ⟨γ',H',u,a,e,q,v1.2 0 u v rfl rfl,d1.2 0 a u rfl rfl,[a],t1,by rw [hs];rfl⟩
theorem HK {s:Sh} {cs:Array Value} (hs:∀ l,tF s l=.ag l) (hl:Lk w s cs.toList) (γ:Gm) (H:Hp) (h:LS γ H w) :
  ∃ γ' H' u a,LE γ H γ' H'∧LS γ' H' w∧VR γ' u (.agg cs)∧DR H'.get Db a u∧∃ avs,TV s avs∧a=tF s avs:=by
 obtain ⟨γ',H',us,avs,e,q,l1,v1,d1,t1,c1⟩:=hl γ H h;refine ⟨γ',H',.agg us.toArray,.ag avs,e,q,?_,.ag (by simpa using d1.1) (fun i a u x y=>d1.2 i a u x (by simpa using y)),avs,t1,(hs _).symm⟩;have:=VR.jW v1;simpa using this
theorem HL {d:Nat} {s:Sh} {t:TypeId} (hsh:kB P d s t=true) {v:Value} {x:DataW D} {ps:List MemPlace} {r:Reach} {b:Nat} (hok:Value.okWide P w r b t v) (ht:DataW.Trod enc P w base spare held t v x ps) (γ:Gm) (H:Hp) (h:LS γ H w) :
  ∃ γ' H' u a,LE γ H γ' H'∧LS γ' H' w∧VR γ' u v∧DR H'.get Db a u∧∃ avs,TV s avs∧a=tF s avs:=by
 obtain ⟨fuel,ht⟩:=ht;obtain ⟨hl,_⟩:=lk P d s t hsh fuel _ _ ht;have agg:(∃ cs,v=.agg cs)→(∀ l,tF s l=.ag l)→∃ γ' H' u a,LE γ H γ' H'∧LS γ' H' w∧VR γ' u v∧DR H'.get Db a u∧∃ avs,TV s avs∧a=tF s avs:=by rintro ⟨cs,rfl⟩ hs;exact HK hs hl γ H h
 cases d with
 | zero=>simp [kB] at hsh
 | succ d =>
  cases s with
  | int k =>
   unfold kB at hsh;split at hsh
   ·rename_i k' hu;unfold Value.okWide at hok;rw [hu] at hok;simp only [Cell.okWide,hu,Cell.ok] at hok;cases v <;> simp at hok
    exact ux rfl (fun _=>rfl) rfl hl γ H h
   ·cases hsh
  | bool =>
   unfold kB at hsh;split at hsh
   ·rename_i hu;unfold Value.okWide at hok;rw [hu] at hok;simp only [Cell.okWide,hu,Cell.ok] at hok;cases v <;> simp at hok
    exact ux rfl (fun _=>rfl) rfl hl γ H h
   ·cases hsh
  | str =>
   unfold kB at hsh;split at hsh
   ·rename_i hu;unfold Value.okWide at hok;rw [hu] at hok;simp only [Cell.okWide,hu,Cell.ok] at hok;cases v <;> simp at hok
    exact ux rfl (fun _=>rfl) rfl hl γ H h
   ·cases hsh
  | slice s =>
   unfold kB at hsh;split at hsh
   ·rename_i e hu;unfold Value.okWide at hok;rw [hu] at hok;simp only [Cell.okWide,hu,Cell.ok] at hok;cases v <;> simp at hok
    exact ux rfl (fun _=>rfl) rfl hl γ H h
   ·cases hsh
  | nil =>
   unfold kB at hsh;split at hsh
   ·rename_i fs hu;unfold Value.okWide at hok;rw [hu] at hok;exact agg ⟨_,hok.choose_spec.1⟩ (fun _=>rfl)
   ·cases hsh
  | cons s l =>
   unfold kB at hsh;split at hsh
   ·rename_i fs hu;unfold Value.okWide at hok;rw [hu] at hok;exact agg ⟨_,hok.choose_spec.1⟩ (fun _=>rfl)
   ·cases hsh
  | arr n s =>
   unfold kB at hsh;split at hsh
   ·rename_i m e hu;unfold Value.okWide at hok;rw [hu] at hok;exact agg ⟨_,hok.choose_spec.1⟩ (fun _=>rfl)
   ·cases hsh
def xV (P:Program) (d:Nat):List Sh→List TypeId→Bool
 | [],[]=>true
 | s :: l,t :: ts=>kB P d s t && xV P d l ts
 | _,_=>false
theorem Bd {d:Nat} {r:Reach} {b:Nat}:∀ {ss:List Sh} {ts:List TypeId} {vs:List Value} {ds:List (DataW D)} {ps:List MemPlace},xV P d ss ts=true→DataW.TrodAll enc P w base spare held ts vs ds ps →
  (∀ (j:Nat) t v,ts[j]?=some t→vs[j]?=some v→Value.okWide P w r b t v)→∀ (γ:Gm) (H:Hp),LS γ H w→∃ γ' H' us as,LE γ H γ' H'∧LS γ' H' w∧bV γ' us vs∧si H'.get Db as us∧Cr ss as
 | [],[],[],[],ps,_,_,_,γ,H,h=>⟨γ,H,[],[],.refl,h,bV.nil γ,⟨rfl,fun i a u x=>by cases x⟩,trivial⟩
 | s :: ss,t :: ts,v :: vs,x :: ds,ps,hs,ht,hok,γ,H,h=>by
  simp only [xV,qq7] at hs;obtain ⟨p,q,h1,h2,_⟩:=ht;obtain ⟨γ1,H1,u,a,e1,q1,v1,d1,t1⟩:=HL hs.1 (hok 0 t v rfl rfl) h1 γ H h;obtain ⟨γ2,H2,us,as,e2,q2,v2,d2,t2⟩:=Bd hs.2 h2 (fun j t v a b=>hok (j+1) t v (by simpa using a) (by simpa using b)) γ1 H1 q1;refine ⟨γ2,H2,u :: us,a :: as,e1.trans e2,q2,bV.cons (v1.mono e2.le) v2,⟨by simp [d2.1],fun i b w hb hw=>?_⟩,t1,t2⟩
  cases i with
  | zero=>cases hb;cases hw;exact e2.dr q1.wf d1
  | succ i=>exact d2.2 i b w (by simpa using hb) (by simpa using hw)
 | [],_ :: _,_,_,_,h,_,_,_,_,_=>by simp [xV] at h
 | _ :: _,[],_,_,_,h,_,_,_,_,_=>by simp [xV] at h
 | [],[],_ :: _,_,_,_,h,_,_,_,_=>by simp [DataW.TrodAll] at h
 | [],[],[],_ :: _,_,_,h,_,_,_,_=>by simp [DataW.TrodAll] at h
 | _ :: _,_ :: _,[],_,_,_,h,_,_,_,_=>by simp [DataW.TrodAll] at h
 | _ :: _,_ :: _,_ :: _,[],_,_,h,_,_,_,_=>by simp [DataW.TrodAll] at h
theorem LS.empty (w:World) (hg:∀ x ∈ GL,x.1 < w.heap.size∧Hu (w.heap[x.1]?) x.2):LS ⟨fun _=>none,fun _=>0,w.heap.size⟩ Hp.empty w :=
 ⟨⟨fun k b o a h _=>(by cases h),fun k k' b o o' a a' h=>(by cases h),fun k b o h=>(by cases h),qq6 _,hg⟩,AJ,fun _ _=>rfl,fun k a h=>(by cases h)⟩
end
section
variable {T : bC} {tab : List XE} {one : Bool}
open Go.RowKit in
theorem Cs (hT:bD T) (hm:T.P.follows .mixedOrders=true) (ht:∀ e ∈ tab,fR T e) {f:FuncId} {v:Value} (hf:bf v=true) {D:Type} {enc:TypeId × Value→D} {base:Nat} {spare:Nat→Bool} {held:Bool} {d:Nat} {r:Reach} {b:Nat}
  {ss:List Sh} {ts:List TypeId} {args:Array Value} {ds:List (DataW D)} {ps:List MemPlace} {w:World} (hs:xV T.P d ss ts=true) (htr:DataW.TrodAll enc T.P w base spare held ts args.toList ds ps)
  (hok:∀ (j:Nat) t v,ts[j]?=some t→args.toList[j]?=some v→Value.okWide T.P w r b t v) (hp:∀ as,Cr ss as→ah T tab one (.fn f [] []) as (.fl v))
  (hgl:∀ x ∈ GL,x.1 < w.heap.size∧Hu (w.heap[x.1]?) x.2:=by intro x hx;exact absurd hx (by simp [GL])) :
  Calls T.P f args w fun e w'=>e=.returned v∧Below w.heap.size w w':=by
 obtain ⟨γ,H,us,as,e,q,v1,d1,t1⟩:=Bd hs htr hok _ _ (LS.empty w hgl);obtain ⟨goal,hg,m,L,h1,_,h3⟩:=(hp as t1).2 Db H (.func (.func f) #[] #[]) us q.wf (fun k h=>h.elim) (.fn rfl rfl (fun i x u h=>by cases h) (fun i x u h=>by cases h)) d1
 have hgoal:goal=.fn f us:=by
  have:cy (.func (.func f) #[] #[]) us=some (.fn f us):=by simp [cy]
  rw [this] at hg;exact (Option.some.inj hg).symm
 subst hgoal;have hS:bA T (RX T tab m) m:=AL ht (vB hT hm ht m)
 have hN:∃ N,∀ r ∈ L,r.hp.n≤N:=by
  clear h3 h1;rename_i hone;clear hone
  induction L with
  | nil=>exact ⟨0,fun r hr=>by cases hr⟩
  | cons a l ih =>
   obtain ⟨N,hN⟩:=ih;refine ⟨max a.hp.n N,fun r hr=>?_⟩
   rcases List.mem_cons.1 hr with rfl|hr
   ·omega
   ·have:=hN r hr;omega
 obtain ⟨N,hN⟩:=hN;have hB:γ.B=w.heap.size:=e.le.B;have hc:=(hS.call f us H L h1).2 γ w args.toList N q.wf q.hr (fun k hk _=>q.fr k hk) hN v1;refine callsIn_wide.1 (CallsIn.mono (F:=FW none) hc fun en w' hR=>?_);obtain ⟨x,hp',x',γ1,hmem,rfl,hv,hst⟩:=hR;obtain ⟨y,H',hy,_,_,_,_,hdr⟩:=h3 _ hmem;cases hy
 have hx:x=v:=by
  cases hdr with
  | fl h=>rfl
 subst hx;refine ⟨by rw [hv.bI hf],?_⟩;rw [←hB];exact hst.fX.below q.hr
end
end Go.RM
namespace Go.RM
open Go
def dI (a b:AV):Prop:=∀ (ρ:Nat→Nat→Option Nat) (g:aG) (O:Nat→Prop) (u:Value),AR ρ g O a u→AR ρ g O b u
theorem dI.refl (a:AV):dI a a:=fun _ _ _ _ h=>h
def zl (fr:Nat→AV):List (Nat × AV)→Prop
 | []=>True
 | (i,v) :: l=>dI (fr i) v∧zl fr l
theorem xW {fr:Nat→AV}:∀ {l:List (Nat × AV)},zl fr l→∀ t,dI (fr t) (aT l t)
 | [],_,t=>fun _ _ _ _ _=>.cA
 | (i,v) :: l,h,t=>by
  unfold aT;rw [Tr.beq_eq];by_cases hti:t=i
  ·rw [decide_eq_true hti,hti];exact h.1
  ·rw [decide_eq_false hti];exact xW h.2 t
variable {T : bC} {tab : List XE} {one : Bool}
theorem ak.soft {st:bO} {l:List (Nat × AV)} (h:zl st.fr l):ak st ⟨aT l,st.hp,st.aC,st.rd,st.fl⟩ :=
 ⟨rfl,fun E _ _ hs=>⟨E,⟨hs.h,hs.rd,fun t=>xW h t _ _ _ _ (hs.fr t)⟩,.refl⟩⟩
theorem ak.HM {st:bO} {l:List (Nat × AV)} {hp:List AB} (n:Nat) (hh:st.hp.take n=hp) (hs:zl st.fr l) (hn:st.fl≤n) (hl:(l.all fun p=>p.2.gZ n)=true) (hb:hp.all (AB.gZ n)=true):ak st ⟨aT l,hp,st.aC,st.rd,st.fl⟩:=by subst hh;exact (ak.soft hs).trans (ak.cut hn (vS hl) hb)
theorem FK {mu:Tmp→Bool} {st:bO} {K:Exit→bO→Prop} (h:K .normal st):kA T tab one mu .skip st K:=h
theorem HN {mu:Tmp→Bool} {a b:Code} {st:bO} {K:Exit→bO→Prop} (h:kA T tab one mu a st (qU (fun s=>kA T tab one mu b s K) K)):kA T tab one mu (.seq a b) st K:=h
theorem HO {mu:Tmp→Bool} {id:Nat} {ops:Array Oper} {st:bO} {K:Exit→bO→Prop} (h:wpOps T tab one mu ops.toList ops.toList st (K .normal)):kA T tab one mu (.region id ops false) st K:=h
theorem Be {Q:bO→Prop} {K:Exit→bO→Prop} {s:bO} (h:Q s):qU Q K .normal s:=h
theorem m7.fl (v:Value):m7 (.fl v):=⟨rfl,fun _ _ _ _ h=>by cases h with|fl h=>exact .fl h⟩
theorem zf.two {hp:List AB} {a b x y:AV} (h:Fz hp a x) (k:Fz hp b y):zf hp [a,b] [x,y]:=⟨h,k,trivial⟩
theorem zf.three {hp:List AB} {a b c x y z:AV} (h:Fz hp a x) (k:Fz hp b y) (l:Fz hp c z):zf hp [a,b,c] [x,y,z]:=⟨h,k,l,trivial⟩
theorem ah.K6 {F:AV} {args vs:List AV} {v:AV} {hp:List AB} {aC:bJ} (h:ah T tab one F vs v) (hF:F.deep=true) (hz:zf hp args vs) (hfree:m7 v) {Q:AV→List AB→bJ→Prop} (hq:Q v hp aC):au T tab one F args hp aC Q:=by
 intro E base H u us hr hf ha;obtain ⟨hd,h⟩:=h;obtain ⟨goal,hg,m,L,h1,h2,h3⟩:=h E.X H u us hr.wf (fun k hk=>hr.xn k hk) ((hf.deep hF).mono fun k b hk ho=>⟨hk,fun hx=>ho (.inr hx)⟩) (hz.dr hr (fun _ h=>h) ha);refine ⟨goal,hg,m,L,h1,h2,fun r hm=>?_⟩;obtain ⟨w,H',rfl,hn,hwf,hsame,hlo,hv⟩:=h3 r hm;have e:Ext base E hp H E hp H':=⟨hn,rfl,rfl,rfl,fun _ _ _ h=>h,fun _ h=>.inl h,fun k hk _=>hsame k hk,by have:=hr.bn;omega⟩;refine ⟨w,H',rfl,E,v,hp,aC,hq,⟨hwf,fun j x aE hj hvx=>?_,hr.inj,fun j v k hk=>Nat.lt_of_lt_of_le (hr.rn j v k hk) hn,hr.fresh,hr.new,hr.sup,hr.gW,hr.dx,hr.ds,fun k hk=>Nat.lt_of_lt_of_le (hr.sn k hk) hn,fun k hk=>Nat.lt_of_lt_of_le (hr.xn k hk) hn,hr.oX,Nat.le_trans hr.bn hn,aC.st hr.aC (fun k hk=>hsame k (hr.sn k hk)) hn⟩,.d (hfree.2 _ _ _ _ hv),e.Ho⟩
 rcases hr.gm j x aE hj hvx with ⟨k,b',q1,q2,q3⟩|q
 ·exact .inl ⟨k,b',q1,by rw [hsame k (hr.wf.lt q2)];exact q2,e.br hr.wf q3⟩
 ·exact .inr q
end Go.RM
namespace Go.RM
open Go
section
variable {T : bC} {tab : List XE} {one : Bool} {fl base base1 : Nat} {E E' E1 E2 E4 : Env} {hp hp' hp1 hp2 hp4 : List AB} {aC amb' amb4 : bJ} {H H' H1 H2 H4 : Hp} {ρ ρ' : Nat → Nat → Option Nat} {g g' : aG} {O O' : Nat → Prop}
theorem BR.mono {b:AB} {b':bz} (h:BR ρ g O b b') (hr:∀ j v k,ρ j v=some k→ρ' j v=some k) (hg:∀ k b,g k=some b→¬ O k→g' k=some b∧¬ O' k):BR ρ' g' O' b b':=by
 cases b with
 | cells cs es aE=>obtain ⟨cs',rfl,h⟩:=h;exact ⟨cs',rfl,h.mono hr hg⟩
 | dL s p=>exact h
 | map ents clock =>obtain ⟨es,rfl,h1,h2⟩:=h;exact ⟨es,rfl,h1,fun i k v born x hx hy=>⟨(h2 i k v born x hx hy).1.mono hr hg,(h2 i k v born x hx hy).2.1.mono hr hg,(h2 i k v born x hx hy).2.2⟩⟩
 | iter j since seen stepped=>obtain ⟨m,rfl,h⟩:=h;exact ⟨m,rfl,hr _ _ _ h⟩
 | gone=>exact h
theorem aX.view (h:aX E base hp aC H) {X':Nat→Prop} (hwf:Wf H1) (hn:H.n≤H1.n) (hX:∀ k,E.X k→X' k) (hX2:∀ k,X' k→E.X k∨H.n≤k) (hXn:∀ k,X' k→k < H1.n)
  (heq:∀ k,k < H.n→(¬ E.X k∨E.S k)→H1.get k=H.get k) (hb:∀ k,Own E.ρ hp k∨E.D k→base1≤k) (hbn:base1≤H1.n):aX {E with X:=X'} base1 hp aC H1:=by
 have keep:∀ k b,H.get k=some b→¬ E.O hp k→H1.get k=some b∧¬ ({E with X:=X'}:Env).O hp k:=fun k b hk ho=>by
  have hlt:=h.wf.lt hk;refine ⟨by rw [heq k hlt (.inl fun hx=>ho (.inr hx))];exact hk,fun ho'=>?_⟩
  rcases ho' with h1|h1
  ·exact ho (.inl h1)
  ·rcases hX2 k h1 with h2|h2
   ·exact ho (.inr h2)
   ·omega
 refine ⟨hwf,fun j x aE hj hv=>?_,h.inj,fun j v k hk=>Nat.lt_of_lt_of_le (h.rn j v k hk) hn,h.fresh,h.new,h.sup,fun k hk hx=>?_,fun k hd=>hX k (h.dx k hd),h.ds,fun k hk=>Nat.lt_of_lt_of_le (h.sn k hk) hn,hXn,hb,hbn,aC.st h.aC (fun k hk=>heq k (h.sn k hk) (.inr hk)) hn⟩
 ·rcases h.gm j x aE hj hv with ⟨k,b',q1,q2,q3⟩|q
  ·have hok:Own E.ρ hp k:=⟨j,x,aE,hj,hv,q1⟩;exact .inl ⟨k,b',q1,by rw [heq k (h.wf.lt q2) (.inl (h.gW k hok))];exact q2,q3.mono (fun _ _ _ h=>h) keep⟩
  ·exact .inr q
 ·rcases hX2 k hx with h2|h2
  ·exact h.gW k hk h2
  ·have:=h.nK hk;omega
theorem aX.FL (h:aX E base hp aC H):aX E 0 hp aC H:={h with oX:=fun _ _=>qq5 _,bn:=qq5 _}
theorem lq.FL (h:lq fl base E hp H E' hp' H'):lq fl 0 E hp H E' hp' H':={h with lo:=by omega}
def FM (fl0:Nat) (E0:Env) (hp0:List AB) (H0:Hp) (gm:bz) (Q:List AB→bJ→Prop):bJ where
 P D S g n:=(∀ k,k≤H0.n→S k)∧g H0.n=some gm∧∃ (E':Env) (b':Nat) (hp':List AB) (amb':bJ) (H':Hp),Q hp' amb'∧aX E' b' hp' amb' H'∧lq fl0 0 E0 hp0 H0 E' hp' H'∧H'.n≤n∧(E'.X H0.n∧¬ E'.S H0.n) ∧
  (∀ k,k < H'.n→S k∨E'.X k)∧(∀ k,E'.S k→S k)∧(∀ k,S k→k ≠ H0.n→g k=H'.get k)∧(∀ k,Own E'.ρ hp' k∨E'.D k∨k=H0.n→D k)
 st:=by rintro D S g g' n n' ⟨h1,h2,E',b',hp',amb',H',q1,q2,q3,q4,q5,q6,q7,q8,q9⟩ hs hn;exact ⟨h1,by rw [hs _ (h1 _ (qq6 _))];exact h2,E',b',hp',amb',H',q1,q2,q3,Nat.le_trans q4 hn,q5,q6,q7,fun k hk hne=>by rw [hs k hk];exact q8 k hk hne,q9⟩
theorem Ee {fl0:Nat} {E0:Env} {hp0:List AB} {H0:Hp} {gm blk' b0:bz} {Q Q':List AB→bJ→Prop} (hr:aX E1 base1 hp (FM fl0 E0 hp0 H0 gm Q) H)
  (hX:∀ k,k < H.n→E1.S k∨E.X k) (hXl:E.X H0.n) (hSl:¬ E.S H0.n) (hS:∀ k,E.S k→E1.S k) (hD:∀ k,Own E.ρ hp1 k∨E.D k∨k=H0.n→E1.D k) (hlow:∀ k,k≤H0.n→E1.S k)
  (f0:lq fl0 0 E0 hp0 H0 E hp1 H) (h4:aX E4 base1 hp4 amb4 H4) (F:lq fl0 base1 E hp1 (H.put H0.n b0) E4 hp4 H4) (hQ:Q' hp4 amb4) :
  ∃ E5,aX E5 base1 hp (FM fl0 E0 hp0 H0 blk' Q') (H4.put H0.n blk')∧lq hp.length base1 E1 hp H E5 hp (H4.put H0.n blk'):=by
 have hln:H0.n < H.n:=hr.sn _ (hlow _ (qq6 _));have hn:H.n≤H4.n:=F.n;have hD1:E1.D H0.n:=hD _ (.inr (.inr rfl));have same:∀ k,k < H.n→¬ E1.D k→(H4.put H0.n blk').get k=H.get k:=fun k hk hd=>by have hne:k ≠ H0.n:=fun e=>hd (e ▸ hD1);rw [bT hne,F.same k hk (fun h=>hd (hD k (.inl h))) (fun h=>hd (hD k (.inr (.inl h)))),bT hne]
 let X':Nat→Prop:=fun k=>E1.X k∨(H.n≤k∧k < H4.n)
 let S':Nat→Prop:=fun k=>E1.S k∨(H.n≤k∧k < H4.n)
 let D':Nat→Prop:=fun k=>E1.D k∨(H.n≤k∧(Own E4.ρ hp4 k∨E4.D k))
 have hnew:∀ k,Own E4.ρ hp4 k∨E4.D k→k < H4.n:=fun k h=>h.elim (fun h=>h4.nK h) (fun h=>h4.sn k (h4.ds k h))
 have keep:∀ k b,H.get k=some b→¬ E1.O hp k→(H4.put H0.n blk').get k=some b∧¬ (⟨E1.ρ,D',S',X'⟩:Env).O hp k:=fun k b hk ho=>by
  have hlt:=hr.wf.lt hk;refine ⟨by rw [same k hlt (fun hd=>ho (.inr (hr.dx k hd)))];exact hk,fun ho'=>?_⟩
  rcases ho' with h1|h1|h1
  ·exact ho (.inl h1)
  ·exact ho (.inr h1)
  ·omega
 refine ⟨⟨E1.ρ,D',S',X'⟩,⟨fun k hk=>?_,fun j x aE hj hv=>?_,hr.inj,fun j v k hk=>Nat.lt_of_lt_of_le (hr.rn j v k hk) hn,hr.fresh,hr.new,fun k hk hs=>?_,fun k hk hx=>?_,fun k hd=>?_,fun k hd=>?_,fun k hs=>?_,fun k hx=>?_,fun k hd=>?_,Nat.le_trans hr.bn hn,?_⟩,
  ⟨hn,fun _ _ _ _ h=>h,fun k hk=>.inl hk,fun k hd=>hd.imp id And.left,fun k hd=>hd.imp id And.left,fun k hx=>.inl hx,fun k hd=>hd.imp id And.left,fun k hk _ hd=>same k hk hd,?_⟩⟩
 ·have hk:H4.n≤k:=hk;rw [bT (by omega)];exact h4.wf k hk
 ·rcases hr.gm j x aE hj hv with ⟨k,b',q1,q2,q3⟩|q
  ·have hok:Own E1.ρ hp k:=⟨j,x,aE,hj,hv,q1⟩;exact .inl ⟨k,b',q1,by rw [same k (hr.wf.lt q2) (fun hd=>hr.gW k hok (hr.dx k hd))];exact q2,q3.mono (fun _ _ _ h=>h) keep⟩
  ·exact .inr q
 ·rcases hs with h1|h1
  ·exact hr.sup k hk h1
  ·have:=hr.nK hk;omega
 ·rcases hx with h1|h1
  ·exact hr.gW k hk h1
  ·have:=hr.nK hk;omega
 ·rcases hd with h1|h1
  ·exact .inl (hr.dx k h1)
  ·exact .inr ⟨h1.1,hnew k h1.2⟩
 ·rcases hd with h1|h1
  ·exact .inl (hr.ds k h1)
  ·exact .inr ⟨h1.1,hnew k h1.2⟩
 ·rcases hs with h1|h1
  ·exact Nat.lt_of_lt_of_le (hr.sn k h1) hn
  ·exact h1.2
 ·rcases hx with h1|h1
  ·exact Nat.lt_of_lt_of_le (hr.xn k h1) hn
  ·exact h1.2
 ·rcases hd with h1|h1|h1
  ·exact hr.oX k (.inl h1)
  ·exact hr.oX k (.inr h1)
  ·exact h4.oX k h1.2
 ·have f0':lq fl0 0 E0 hp0 H0 E hp1 (H.put H0.n b0):=⟨f0.n,f0.zM,f0.own,f0.d,f0.x,f0.xk,f0.s,fun k hk h1 h2=>by rw [bT (by omega)];exact f0.same k hk h1 h2,by omega⟩;refine ⟨fun k hk=>.inl (hlow k hk),gX,E4,base1,hp4,amb4,H4,hQ,h4,f0'.trans F.FL,qq6 _,⟨F.xk _ hXl,fun hs=>?_⟩,fun k hk=>?_,fun k hs=>?_,fun k _ hne=>bT hne,fun k hk=>?_⟩
  ·rcases F.s _ hs with h1|h1
   ·exact hSl h1
   ·have:H.n≤H0.n:=h1;omega
  ·by_cases hlt:k < H.n
   ·exact (hX k hlt).imp .inl (F.xk k)
   ·exact .inl (.inr ⟨by omega,hk⟩)
  ·rcases F.s k hs with h1|h1
   ·exact .inl (hS k h1)
   ·exact .inr ⟨h1,h4.sn k hs⟩
  ·rcases hk with h1|h1|h1
   ·rcases F.own k h1 with h2|h2
    ·exact .inl (hD k (.inl h2))
    ·exact .inr ⟨h2,.inl h1⟩
   ·rcases F.d k h1 with h2|h2
    ·exact .inl (hD k (.inr (.inl h2)))
    ·exact .inr ⟨h2,.inr h1⟩
   ·exact .inl (hD k (.inr (.inr h1)))
 ·have h1:=F.lo;have h2:=hr.oX _ (.inr hD1);have h3:(H.put H0.n b0).lo=min H.lo H0.n:=rfl;have h4:(H4.put H0.n blk').lo=min H4.lo H0.n:=rfl;omega
def Ct (J:bJ) (Stop:bJ→Prop) (b:Bool) (a:bJ):Prop:=(b=true∧a=J)∨(b=false∧Stop a)
def LR (T:bC) (rs:List ResultVar) (Q:bJ→Prop) (e:Exit) (s:bO):Prop :=
 match e with
 | .normal|.ret=>oZ T s rs fun _=>Q s.aC
 | _=>False
def Dd (fr:Nat→AV):List (Tmp × AV)→Nat→AV
 | []=>fr
 | (d,v) :: l=>Dd (fun t=>bif Nat.beq t d then v else fr t) l
theorem Bf:∀ (ps:List Tmp) {x:List AV} {us:List Value} {fr:Nat→AV} {tm:Tr Value},lQ ρ g O fr tm→fB ρ g O x us→lQ ρ g O (Dd fr (ps.zip x)) (ep tm (ps.zip us))
 | [],_,_,_,_,h,_=>h
 | p :: ps,[],[],_,_,h,_=>h
 | p :: ps,a :: x,u :: us,fr,tm,h,ha=>by simp only [List.zip_cons_cons,Dd,ep];exact Bf ps (ot h (ha.2 0 a u rfl rfl) (some p)) ⟨by simpa using ha.1,fun i a u x y=>ha.2 (i+1) a u (by simpa using x) (by simpa using y)⟩
 | p :: ps,[],_ :: _,_,_,_,ha=>absurd ha.1 (by simp)
 | p :: ps,_ :: _,[],_,_,_,ha=>absurd ha.1 (by simp)
def MA (P:bO→Prop) (e:Exit) (s:bO):Prop :=
 match e with
 | .normal=>s.rd=true∧P s
 | _=>False
theorem vW {a b:Rec} (h:eG a b) {l:Nat} {bd:Code} {p:Exit × St} {M:List eF} (e:cN T a l bd p=some M):cN T b l bd p=some M:=by
 unfold cN at e ⊢;split at e
 ·split at e
  ·rename_i pend2 fr2 ps2 as2 bd2 hl2
   cases hq:bH T a bd ⟨p.2.fr,p.2.hp.put l (.loop .busy pend2 fr2 ps2 as2 bd2),true⟩ with
   | none=>rw [hq] at e;cases e
   | some M2=>rw [hq] at e;rw [dV h _ _ _ hq];exact e
  ·cases e
 ·cases e
theorem ak.K7 {st:bO} {fr':Nat→AV} {hp:List AB} {a:bJ} {rd:Bool} {n:Nat} (h:ak st ⟨fr',hp,a,rd,n⟩) {s:St} (hs:qR E base st s):∃ E',aX E' base hp a s.hp∧lq st.fl base E st.hp s.hp E' hp s.hp:=by obtain ⟨E',h1,h2⟩:=h.2 E base s hs;exact ⟨E',h1.h,h2⟩
theorem ah.closed {f:FuncId} {v:Value} (h:∀ H,look tab f [] H=some (v,H)) (hv:bf v=true):ah T tab one (.fn f [] []) [] (.fl v):=by
 refine ⟨rfl,fun X H u us hwf hX hF ha=>?_⟩
 cases hF with
 | fn l1 l2 d1 d2 =>
  rename_i a' b';have h1:a'.toList=[]:=List.length_eq_zero_iff.1 l1.symm;have h2:b'.toList=[]:=List.length_eq_zero_iff.1 l2.symm;have h3:us=[]:=List.length_eq_zero_iff.1 ha.1.symm;refine ⟨.fn f [],by simp [cy,h1,h2,h3],0,[.ret v H],?_,fun _=>⟨_,rfl⟩,fun r hr=>?_⟩
  ·show rx tab (vA tab T 0) (.call f [] H)=_;unfold rx;simp only [h H]
  ·obtain rfl:=List.mem_singleton.1 hr;exact ⟨v,H,rfl,qq6 _,hwf,fun _ _=>rfl,Nat.min_le_left _ _,.fl hv⟩
end
end Go.RM
namespace Go.RM
open Go
theorem HP {P:Program} {t:TypeId} {x y:Operand} {m n:Int} (h0:0≤m) (h2:1≤n):dF P .rem t x y (.int .i64 m) (.int .i64 n)=some (.int .i64 (m % n),.none):=by
 have hn:n ≠ 0:=by omega
 have h:dF P .rem t x y (.int .i64 m) (.int .i64 n)=some (.int .i64 (m.tmod n),.none):=by
  show gi P .rem t x y (.int .i64 m) (.int .i64 n)=_;unfold gi;simp only [flat,bf,Bool.and_self,cond_true];have:(do eqGuard BinOp.rem t x y (Value.int IntKind.i64 m) (Value.int IntKind.i64 n);binOp BinOp.rem t (Value.int IntKind.i64 m) (Value.int IntKind.i64 n):Sem Value)=pure (.int .i64 (m.tmod n)):=by show Op.intDiv .rem .i64 m n=_;unfold Op.intDiv;rw [if_neg hn]
  rw [this];rfl
 rw [h,IntWalk.rem_in m n h0]
theorem HQ {P:Program} {t:TypeId} {x y:Operand} {m n:Int} (h0:0≤m) (h1:m≤9223372036854775807) (h2:1≤n):dF P .quo t x y (.int .i64 m) (.int .i64 n)=some (.int .i64 (m / n),.none):=by
 have hn:n ≠ 0:=by omega
 have h:dF P .quo t x y (.int .i64 m) (.int .i64 n)=some (.int .i64 (IntKind.i64.wrap (m.tdiv n)),.none):=by
  show gi P .quo t x y (.int .i64 m) (.int .i64 n)=_;unfold gi;simp only [flat,bf,Bool.and_self,cond_true];have:(do eqGuard BinOp.quo t x y (Value.int IntKind.i64 m) (Value.int IntKind.i64 n);binOp BinOp.quo t (Value.int IntKind.i64 m) (Value.int IntKind.i64 n):Sem Value)=pure (.int .i64 (IntKind.i64.wrap (m.tdiv n))):=by show Op.intDiv .quo .i64 m n=_;unfold Op.intDiv;rw [if_neg hn]
  rw [this];rfl
 rw [h,IntWalk.i64_quo m n ⟨h0,h1,h2⟩]
section
variable {T : bC} {tab : List XE} {one : Bool} {mu : Tmp → Bool}
theorem tG {ops:List Oper} {j:Nat} {want:Bool} {fr:Nat→AV} {yes no:Prop} {d:Tmp} {a0 a1 a2 a3 a4} {b:Bool} (h1:ops[j]?=some ⟨some d,a0,a1,a2,a3,a4⟩) (h2:fr d=.fl (.bool b)) (h3:b=want) (y:yes):dA ops (some (j,want)) fr yes no:=by unfold dA;simp only [h1,h2];exact fF h3 y
theorem vX {ops:List Oper} {j:Nat} {want:Bool} {fr:Nat→AV} {yes no:Prop} {d:Tmp} {a0 a1 a2 a3 a4} {b:Bool} (h1:ops[j]?=some ⟨some d,a0,a1,a2,a3,a4⟩) (h2:fr d=.fl (.bool b)) (h3:b=!want) (n:no):dA ops (some (j,want)) fr yes no:=by unfold dA;simp only [h1,h2];exact gn h3 n
theorem zm {ops:List Oper} {j:Nat} {want:Bool} {fr:Nat→AV} {yes no:Prop} {d:Tmp} {a0 a1 a2 a3 a4} {vs:List AV} (h1:ops[j]?=some ⟨some d,a0,a1,a2,a3,a4⟩) (h2:fr d=.tp vs) (n:no):dA ops (some (j,want)) fr yes no:=by unfold dA;simp only [h1,h2];exact n
end
end Go.RM
namespace Go.RM
open Go
theorem FN {v:AV} {K:AV→Prop} (h:K v):force v K:=by cases v <;> exact h
section
variable {T : bC} {tab : List XE} {one : Bool} {mu : Tmp → Bool} {own : Bool} {fr : Nat → AV} {hp : List AB} {aC : bJ} {rd : Bool} {fl : Nat} {K : AV → List AB → Prop} {KE : Exit → bO → Prop} {KS : bO → Prop} {st : bO} {dst : Option Tmp}
theorem c1 (h:KE .normal st):kA T tab one mu .skip st KE:=h
theorem c2 {a b:Code} (h:kA T tab one mu a st (qU (fun s=>kA T tab one mu b s KE) KE)):kA T tab one mu (.seq a b) st KE:=h
theorem c3 {id:Nat} {c:Code} (h:kA T tab one mu c st (kj id KE)):kA T tab one mu (.block id c) st KE:=h
theorem c4 {id:Nat} {l:List Oper} (h:wpOps T tab one mu l l st (KE .normal)):kA T tab one mu (.region id l.toArray false) st KE:=h
theorem c5 {id:Nat} {l l1 l2:List Oper} {c:Nat} (hc:fP l.toArray=c) (h1:l.take c=l1) (h2:l.drop c=l2) (h:jl T tab mu l.toArray l1 0 (fun _=>0) [] st fun s=>wpOps T tab one mu l l2 s (KE .normal)):kA T tab one mu (.region id l.toArray true) st KE:=by subst hc h1 h2;exact h
theorem c6 {id:Nat} (h:KE (.exit id) st):kA T tab one mu (.exit id) st KE:=h
theorem c7 (h:KE .ret st):kA T tab one mu .ret st KE:=h
theorem c8 {c:Code} (h:kA T tab one mu c st (sx KE)):kA T tab one mu (.scope c) st KE:=h
theorem c9 {Q:bO→Prop} (h:Q st):qU Q KE .normal st:=h
theorem d1 {Q:bO→Prop} (h:KE .ret st):qU Q KE .ret st:=h
theorem d2 {Q:bO→Prop} {id:Nat} (h:KE (.exit id) st):qU Q KE (.exit id) st:=h
theorem d3 {id:Nat} (h:KE .normal st):kj id KE .normal st:=h
theorem d4 {id:Nat} (h:KE .ret st):kj id KE .ret st:=h
theorem d5 {id id':Nat} (hb:Nat.beq id' id=true) (h:KE .normal st):kj id KE (.exit id') st:=by unfold kj;simp only [hb,cond_true];exact h
theorem d6 {id id':Nat} (hb:Nat.beq id' id=false) (h:KE (.exit id') st):kj id KE (.exit id') st:=by unfold kj;simp only [hb,cond_false];exact h
theorem d7 (h:KE .normal st):sx KE .normal st:=h
theorem d8 (h:KE .ret st):sx KE .ret st:=h
theorem d9 {id:Nat} (h:KE (.exit id) st):sx KE (.exit id) st:=h
theorem e1 {c:Operand} {a b:Code} {t:Bool} (hc:bh st.fr c=.fl (.bool t)) (h:(t=true→kA T tab one mu a st KE)∧(t=false→kA T tab one mu b st KE)):kA T tab one mu (.cond c a b) st KE:=by show (match bh st.fr c with|.fl (.bool t)=>_|_=>False);rw [hc];exact h
theorem e2 {c:Operand} {a b:Code} {t:Bool} (hc:bh st.fr c=.fl (.bool t)) (ht:t=true) (h:kA T tab one mu a st KE):kA T tab one mu (.cond c a b) st KE:=e1 hc (HG ht h)
theorem e3 {c:Operand} {a b:Code} {t:Bool} (hc:bh st.fr c=.fl (.bool t)) (ht:t=false) (h:kA T tab one mu b st KE):kA T tab one mu (.cond c a b) st KE:=e1 hc (JJ ht h)
theorem o1 {ops:List Oper} (h:KS st):wpOps T tab one mu ops [] st KS:=h
theorem o2 {ops:List Oper} {op:Op} {a1 a2 a3 gd} {l:List Oper}
 (h:dA ops gd fr (qS T tab one mu dst op fr hp aC rd fl fun st'=>wpOps T tab one mu ops l st' KS) (gY dst fr (.tp []) fun fr'=>wpOps T tab one mu ops l ⟨fr',hp,aC,rd,fl⟩ KS)):wpOps T tab one mu ops (⟨dst,op,a1,a2,a3,gd⟩ :: l) ⟨fr,hp,aC,rd,fl⟩ KS:=h
theorem o3 {ops:Array Oper} {op:Op} {a1 a2 a3 gd} {l:List Oper} {i:Nat} {bt:Nat→Nat} {acc:List uw}
 (h:dA ops.toList gd fr (iL T tab mu dst op i bt fr hp fun fr' hp' bt' x=>jl T tab mu ops l (i+1) bt' (x :: acc) ⟨fr',hp',aC,rd,fl⟩ KS)
  (gY dst fr (.tp []) fun fr'=>jl T tab mu ops l (i+1) (m6 dst bt 0) (⟨i,[],false,false⟩ :: acc) ⟨fr',hp,aC,rd,fl⟩ KS)):jl T tab mu ops (⟨dst,op,a1,a2,a3,gd⟩ :: l) i bt acc ⟨fr,hp,aC,rd,fl⟩ KS:=h
theorem o4 {ops:List Oper} {yes no:Prop} (h:yes):dA ops none fr yes no:=h
theorem o5 {d:Tmp} {v:AV} {P:(Nat→AV)→Prop} (h:P fun t=>bif Nat.beq t d then v else fr t):gY (some d) fr v P:=h
theorem o6 {v:AV} {P:(Nat→AV)→Prop} (h:P fr):gY none fr v P:=h
theorem o7 {f:Operand} {l:List Operand} {tys} (h:force (bh fr f) fun F=>eB (l.map (bh fr)) fun as=>au T tab one F as hp aC fun v hp' amb'=>gY dst fr v fun fr'=>KS ⟨fr',hp',amb',rd,fl⟩) :
 qS T tab one mu dst (.call ⟨.value f,l.toArray,tys⟩) fr hp aC rd fl KS:=h
theorem o8 {op:Op} (hk:cS op=.plain) (h:wpOp T (HF mu dst) op fr hp fun v hp'=>force v fun v=>gY dst fr v fun fr'=>KS ⟨fr',hp',aC,rd,fl⟩):qS T tab one mu dst op fr hp aC rd fl KS:=by unfold qS;rw [hk];exact h
theorem o9 {x:Operand} {l:List Operand} {f:Operand→AV} {P:List AV→Prop} (h:force (f x) fun a=>eB (l.map f) fun l=>P (a :: l)):eB ((x :: l).map f) P:=h
theorem p1 {f:Operand→AV} {P:List AV→Prop} (h:P []):eB (([]:List Operand).map f) P:=h
theorem p2 {x:Operand} (h:K (bh fr x) hp):wpOp T own (.move x) fr hp K:=h
theorem p3 {x:Operand} (h:K (bh fr x) hp):wpOp T own (.assign x) fr hp K:=h
theorem p4 {c a b:Operand} (h:sj (bh fr c) (bh fr a) (bh fr b) hp K):wpOp T own (.pick c a b) fr hp K:=h
theorem p5 {o:BinOp} {t e:TypeId} {x y:Operand} (h:aQ T o t x y (bh fr x) (bh fr y) hp K):wpOp T own (.binOp o t x y e) fr hp K:=h
theorem p6 {x:Operand} {t:TypeId} (h:force (bh fr x) fun v=>qP T t v hp K):wpOp T own (.call ⟨.builtin .len,[x].toArray,[t].toArray⟩) fr hp K:=FN (dP h)
theorem p7 {f:FuncId} {a b:List Operand} (h:eB (a.map (bh fr)) fun a=>eB (b.map (bh fr)) fun b=>K (.fn f a b) hp):wpOp T own (.makeFunc (.func f) a.toArray b.toArray) fr hp K:=h
theorem p8 {x:Operand} (h:qO (bh fr x) hp K):wpOp T own (.nilCheck x) fr hp K:=h
theorem p9 {op:Op} {i:Nat} {bt:Nat→Nat} {KD:(Nat→AV)→List AB→(Nat→Nat)→uw→Prop} (hk:cS op=.plain) (h:∃ a,FF op fr (Eb bt)=some a∧wpOp T (HF mu dst) op fr hp fun v hp'=>force v fun v=>gY dst fr v fun fr'=>KD fr' hp' (m6 dst bt (xT op fr bt i)) ⟨i,a,news? op,false⟩) :
  iL T tab mu dst op i bt fr hp KD:=by
 unfold iL;rw [hk];exact h
theorem vY {v:AV} {P:AV→Prop} (h:P v):force v P:=by cases v <;> exact h
theorem sB:∀ {l:List AV} {P:List AV→Prop},P l→eB l P
 | [],_,h=>h
 | _ :: _,_,h=>vY (sB (P:=fun _=>_) h)
theorem De {f:Operand} {l:List Operand} {tys} {i:Nat} {bt:Nat→Nat} {KD:(Nat→AV)→List AB→(Nat→Nat)→uw→Prop} (h:(bh fr f).deep=true∧∃ vs v,Handed hp (l.map (bh fr)) vs v∧ah T tab true (bh fr f) vs v∧gY dst fr v fun fr'=>KD fr' hp (m6 dst bt (i+1)) ⟨i,[],true,true⟩) :
  iL T tab mu dst (.call ⟨.value f,l.toArray,tys⟩) i bt fr hp KD:=by
 show force (bh fr f) fun F=>eB (l.map (bh fr)) fun as=>F.deep=true∧∃ vs v,Handed hp as vs v∧ah T tab true F vs v∧gY dst fr v fun fr'=>KD fr' hp (m6 dst bt (i+1)) ⟨i,[],true,true⟩;generalize bh fr f=F at h ⊢;generalize l.map (bh fr)=as at h ⊢;exact vY (sB (P:=fun as=>F.deep=true∧∃ vs v,Handed hp as vs v∧ah T tab true F vs v∧gY dst fr v fun fr'=>KD fr' hp (m6 dst bt (i+1)) ⟨i,[],true,true⟩) h)
theorem n1 {f:Operand} {l:List Operand} {tys} {i:Nat} {bt:Nat→Nat} {KD:(Nat→AV)→List AB→(Nat→Nat)→uw→Prop} (h:force (bh fr f) fun F=>eB (l.map (bh fr)) fun as=>F.deep=true∧cV as=true∧∃ v,ah T tab true F as v∧gY dst fr v fun fr'=>KD fr' hp (m6 dst bt (i+1)) ⟨i,[],true,true⟩) :
  iL T tab mu dst (.call ⟨.value f,l.toArray,tys⟩) i bt fr hp KD:=by
 have h:=gK (dP h);obtain ⟨h1,h2,v,h3,h4⟩:=h;exact De ⟨h1,_,v,.inl ⟨rfl,h2⟩,h3,h4⟩
theorem n2 {f:Operand} {l:List Operand} {tys} {i:Nat} {bt:Nat→Nat} {KD:(Nat→AV)→List AB→(Nat→Nat)→uw→Prop} {F v:AV} {as vs:List AV} (hp':ah T tab true F vs v) (hf:bh fr f=F) (ha:l.map (bh fr)=as) (hF:F.deep=true) (hz:zf hp as vs) (hv:m7 v) (h:gY dst fr v fun fr'=>KD fr' hp (m6 dst bt (i+1)) ⟨i,[],true,true⟩) :
  iL T tab mu dst (.call ⟨.value f,l.toArray,tys⟩) i bt fr hp KD:=by
 subst hf ha;exact De ⟨hF,vs,v,.inr ⟨hz,hv⟩,hp',h⟩
theorem n3 {x:Operand} {t:TypeId} {b:Bool} (hb:bh fr x=.fl (.bool b)) (h:K (.fl (.bool (!b))) hp):wpOp T own (.unOp .not t x) fr hp K:=by show HE T .not (bh fr x) hp K;rw [hb];exact h
theorem n4 {x y:Operand} {tys:Array TypeId} {m n:Int} (hx:bh fr x=.fl (.int .i64 m)) (hy:bh fr y=.fl (.int .i64 n)) (h:K (.fl (.int .i64 (min m n))) hp):wpOp T own (.call ⟨.builtin .min,[x,y].toArray,tys⟩) fr hp K:=by show force (bh fr x) fun a=>force (bh fr y) fun b=>C6 T [a,b] hp K;rw [hx,hy];exact h
theorem n5 {x y:Operand} {tys:Array TypeId} {m n:Int} (hx:bh fr x=.fl (.int .i64 m)) (hy:bh fr y=.fl (.int .i64 n)) (h:K (.fl (.int .i64 (max m n))) hp):wpOp T own (.call ⟨.builtin .max,[x,y].toArray,tys⟩) fr hp K:=by show force (bh fr x) fun a=>force (bh fr y) fun b=>C7 T [a,b] hp K;rw [hx,hy];exact h
section
variable {v : AV} {P : AV → Prop}
theorem f1 {x:Value} (hv:v=.fl x) (h:P (.fl x)):force v P:=by subst hv;exact h
theorem f2 {a:List (List AV)} {b:Bool} (hv:v=.sl a b) (h:P (.sl a b)):force v P:=by subst hv;exact h
theorem f3 {a:List AV} {b:Nat} (hv:v=.pt a b) (h:P (.pt a b)):force v P:=by subst hv;exact h
theorem f4 {a:FuncId} {b c:List AV} (hv:v=.fn a b c) (h:P (.fn a b c)):force v P:=by subst hv;exact h
theorem f5 {a:List AV} (hv:v=.ag a) (h:P (.ag a)):force v P:=by subst hv;exact h
theorem f6 {a:List AV} (hv:v=.tp a) (h:P (.tp a)):force v P:=by subst hv;exact h
theorem f7 {a b c:Nat} (hv:v=.ptr a b c) (h:P (.ptr a b c)):force v P:=by subst hv;exact h
theorem f8 {a b c d e:Nat} (hv:v=.aL a b c d e) (h:P (.aL a b c d e)):force v P:=by subst hv;exact h
theorem f9 {a:Nat} (hv:v=.om a) (h:P (.om a)):force v P:=by subst hv;exact h
theorem g1 {a:Value} (hv:v=.oq a) (h:P (.oq a)):force v P:=by subst hv;exact h
theorem g2 (hv:v=.cA) (h:P .cA):force v P:=by subst hv;exact h
end
section
variable {c a b : AV} {t x y : Bool}
theorem k1 (hc:c=.fl (.bool t)) (h:jD t a b hp K):sj c a b hp K:=by subst hc;exact h
theorem k2 (ht:t=true) (h:K a hp):jD t a b hp K:=by
 subst ht;unfold jD;split
 ·exact h
 ·exact And.intro (fun _=>h) (fun e=>Bool.noConfusion e)
theorem k3 (ht:t=false) (h:K b hp):jD t a b hp K:=by
 subst ht;unfold jD;split
 ·exact h
 ·exact And.intro (fun e=>Bool.noConfusion e) (fun _=>h)
theorem k4 (ha:a=.fl (.bool x)) (hb:b=.fl (.bool y)) (h:K (.fl (.bool (bif t then x else y))) hp):jD t a b hp K:=by subst ha hb;exact h
end
section
variable {a b : AV} {m n : Int} {t : TypeId} {x y : Operand}
theorem b1 (ha:a=.fl (.int .i64 m)) (hb:b=.fl (.int .i64 n)) (hh:-9223372036854775808≤m+n∧m+n≤9223372036854775807) (h:K (.fl (.int .i64 (m+n))) hp):aQ T .add t x y a b hp K:=by subst ha hb;exact ⟨hh,h⟩
theorem b2 (ha:a=.fl (.int .i64 m)) (hb:b=.fl (.int .i64 n)) (hh:-9223372036854775808≤m - n∧m - n≤9223372036854775807) (h:K (.fl (.int .i64 (m - n))) hp):aQ T .sub t x y a b hp K:=by subst ha hb;exact ⟨hh,h⟩
theorem b3 (ha:a=.fl (.int .i64 m)) (hb:b=.fl (.int .i64 n)) (hh:-9223372036854775808≤m * n∧m * n≤9223372036854775807) (h:K (.fl (.int .i64 (m * n))) hp):aQ T .mul t x y a b hp K:=by subst ha hb;exact ⟨hh,h⟩
theorem b4 (ha:a=.fl (.int .i64 m)) (hb:b=.fl (.int .i64 n)) (h:K (.fl (.bool (decide (m=n)))) hp):aQ T .eql t x y a b hp K:=by subst ha hb;exact h
theorem b5 (ha:a=.fl (.int .i64 m)) (hb:b=.fl (.int .i64 n)) (h:K (.fl (.bool (!decide (m=n)))) hp):aQ T .neq t x y a b hp K:=by subst ha hb;exact h
theorem b6 (ha:a=.fl (.int .i64 m)) (hb:b=.fl (.int .i64 n)) (h:K (.fl (.bool (decide (m < n)))) hp):aQ T .lss t x y a b hp K:=by subst ha hb;exact h
theorem b7 (ha:a=.fl (.int .i64 m)) (hb:b=.fl (.int .i64 n)) (h:K (.fl (.bool (decide (m≤n)))) hp):aQ T .leq t x y a b hp K:=by subst ha hb;exact h
theorem b8 (ha:a=.fl (.int .i64 m)) (hb:b=.fl (.int .i64 n)) (h:K (.fl (.bool (decide (n < m)))) hp):aQ T .gtr t x y a b hp K:=by subst ha hb;exact h
theorem b9 (ha:a=.fl (.int .i64 m)) (hb:b=.fl (.int .i64 n)) (h:K (.fl (.bool (decide (n≤m)))) hp):aQ T .geq t x y a b hp K:=by subst ha hb;exact h
theorem r1 (ha:a=.fl (.int .i64 m)) (hb:b=.fl (.int .i64 n)) (h0:0≤m∧1≤n) (h:K (.fl (.int .i64 (m % n))) hp):aQ T .rem t x y a b hp K:=by subst ha hb;exact ⟨_,HP h0.1 h0.2,rfl,h⟩
theorem r2 (ha:a=.fl (.int .i64 m)) (hb:b=.fl (.int .i64 n)) (h0:(0≤m∧m≤9223372036854775807)∧1≤n) (h:K (.fl (.int .i64 (m / n))) hp):aQ T .quo t x y a b hp K:=by subst ha hb;exact ⟨_,HQ h0.1.1 h0.1.2 h0.2,rfl,h⟩
end
section
variable {v : AV} {t : TypeId}
theorem l1 {e:TypeId} {a1 a2 a3 a4 a5 a6} {els:List (List AV)} {f:Bool} (ht:T.ty.get t=some ⟨.slice e,a1,a2,a3,a4,a5,a6⟩) (h:K (.fl (.int .i64 els.length)) hp):qP T t (.sl els f) hp K:=by unfold qP;rw [ht];exact h
theorem l2 {e:TypeId} {a1 a2 a3 a4 a5 a6} {j aE o n c:Nat} (ht:T.ty.get t=some ⟨.slice e,a1,a2,a3,a4,a5,a6⟩) (h:K (.fl (.int .i64 n)) hp):qP T t (.aL j aE o n c) hp K:=by unfold qP;rw [ht];exact h
theorem l3 {a:List AV} {b:Nat} (hv:v=.pt a b) (h:K (.pt a b) hp):qO v hp K:=by subst hv;exact h
theorem l4 {a b c:Nat} (hv:v=.ptr a b c) (h:K (.ptr a b c) hp):qO v hp K:=by subst hv;exact h
end
end
end Go.RM
