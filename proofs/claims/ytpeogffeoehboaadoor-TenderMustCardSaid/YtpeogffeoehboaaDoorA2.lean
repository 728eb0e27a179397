/-
  A layer of contracts over the abstract machine. Lemmas alone; no condition.
-/
import Derived.Test.YtpeogffeoehboaaDoorA1
import Derived.OpenShut
import Derived.ChangeArms
import Derived.DataReads
namespace Go.RM
open Go
structure bK where
 fr:Nat→AV
 hp:List AB
 aE:bG
 rd:Bool
 fl:Nat
structure jL (fl base:Nat) (E:Env) (hp:List AB) (H:Hp) (E':Env) (hp':List AB) (H':Hp):Prop where
 n:H.n≤H'.n
 AF:∀ j v k,j < fl→E.ρ j v=some k→E'.ρ j v=some k
 own:∀ k,Own E'.ρ hp' k→Own E.ρ hp k∨H.n≤k
 d:∀ k,E'.D k→E.D k∨H.n≤k
 x:∀ k,E'.X k→E.X k∨H.n≤k
 xk:∀ k,E.X k→E'.X k
 s:∀ k,E'.S k→E.S k∨H.n≤k
 same:∀ k,k < H.n→¬ Own E.ρ hp k→¬ E.D k→H'.get k=H.get k
 lo:min H.lo base≤H'.lo
section
variable {T : bz} {tab : List XE} {one : Bool} {fl base : Nat} {E E' E2 : Env} {hp hp' hp2 : List AB} {aE amb' : bG} {H H' H2 : Hp} {ρ : Nat → Nat → Option Nat} {g : aH} {O : Nat → Prop}
theorem jL.refl:jL fl base E hp H E hp H:=⟨Nat.le_refl _,fun _ _ _ _ h=>h,fun _ h=>.inl h,fun _ h=>.inl h,fun _ h=>.inl h,fun _ h=>h,fun _ h=>.inl h,fun _ _ _ _=>rfl,Nat.min_le_left _ _⟩
theorem jL.trans (a:jL fl base E hp H E' hp' H') (b:jL fl base E' hp' H' E2 hp2 H2):jL fl base E hp H E2 hp2 H2:=by
 have step:∀ {P P' P2:Nat→Prop},(∀ k,P' k→P k∨H.n≤k)→(∀ k,P2 k→P' k∨H'.n≤k)→∀ k,P2 k→P k∨H.n≤k:=by
  intro P P' P2 h1 h2 k hk
  rcases h2 k hk with h|h
  ·exact h1 k h
  ·exact .inr (Nat.le_trans a.n h)
 refine ⟨Nat.le_trans a.n b.n,fun j v k hl h=>b.AF j v k hl (a.AF j v k hl h),step a.own b.own,step a.d b.d,step a.x b.x,fun k h=>b.xk k (a.xk k h),step a.s b.s,fun k hk ho hd=>?_,?_⟩
 ·rw [b.same k (Nat.lt_of_lt_of_le hk a.n) (fun h=>(a.own k h).elim ho (fun h=>by omega)) (fun h=>(a.d k h).elim hd (fun h=>by omega)),a.same k hk ho hd]
 ·have:=a.lo;have:=b.lo;omega
theorem Ext.DG (e:Ext base E hp H E' hp' H'):jL fl base E hp H E' hp' H' :=
 ⟨e.n,fun j v k _ h=>e.AF j v k h,e.own,fun k h=>.inl (by rw [←e.d];exact h),fun k h=>.inl (by rw [←e.x];exact h),fun k h=>by rw [e.x];exact h,fun k h=>.inl (by rw [←e.s];exact h),fun k hk ho _=>e.same k hk ho,e.lo⟩
theorem jL.keep (e:jL fl base E hp H E' hp' H') (h:aQ E base hp aE H):∀ k b,H.get k=some b→¬ E.O hp k→H'.get k=some b∧¬ E'.O hp' k:=by
 intro k b hk ho
 have hlt:=h.wf.lt hk
 refine ⟨by rw [e.same k hlt (fun h=>ho (.inl h)) (fun hd=>ho (.inr (h.dx k hd)))];exact hk,fun h'=>?_⟩
 rcases h' with h'|h'
 ·rcases e.own k h' with h'|h'
  ·exact ho (.inl h')
  ·omega
 ·rcases e.x k h' with h'|h'
  ·exact ho (.inr h')
  ·omega
theorem jL.full (e:jL hp.length base E hp H E' hp' H') (h:aQ E base hp aE H):∀ j v k,E.ρ j v=some k→E'.ρ j v=some k:=fun j v k hk=>by
 by_cases hj:j < hp.length
 ·exact e.AF j v k hj hk
 ·rw [h.new j v (by omega)] at hk;cases hk
theorem jL.low (e:jL hp.length base E hp H E' hp' H') (h:aQ E base hp aE H) (fl:Nat):jL fl base E hp H E' hp' H':=⟨e.n,fun j v k _ hk=>e.full h j v k hk,e.own,e.d,e.x,e.xk,e.s,e.same,e.lo⟩
theorem jL.ar (e:jL hp.length base E hp H E' hp' H') (h:aQ E base hp aE H) {v:AV} {u:Value} (ha:AR E.ρ H.get (E.O hp) v u):AR E'.ρ H'.get (E'.O hp') v u:=ha.mono (e.full h) (e.keep h)
theorem jL.dr (e:jL fl base E hp H E' hp' H') (h:aQ E base hp aE H) {v:AV} {u:Value} (ha:DR H.get (E.O hp) v u):DR H'.get (E'.O hp') v u:=ha.mono (e.keep h)
theorem jL.fr (e:jL hp.length base E hp H E' hp' H') (h:aQ E base hp aE H) {fr:Nat→AV} {tm:Tr Value} (hf:hG E.ρ H.get (E.O hp) fr tm):hG E'.ρ H'.get (E'.O hp') fr tm:=fun t=>e.ar h (hf t)
def mA (fr:Nat→AV) (d:Option Tmp) (v:AV):Nat→AV :=
 match d with
 | some d=>fun t=>bif Nat.beq t d then v else fr t
 | none=>fr
theorem mB {fr:Nat→AV} {tm:Tr Value} (h:hG ρ g O fr tm) {v:AV} {u:Value} (hv:AR ρ g O v u) (d:Option Tmp):hG ρ g O (mA fr d v) (cu tm d u):=by
 cases d with
 | none=>exact h
 | some d =>
  intro t
  show AR ρ g O (bif Nat.beq t d then v else fr t) (((tm.set d u).get t).getD undef)
  rw [Tr.eE,Tr.beq_eq]
  by_cases htd:t=d
  ·rw [if_pos htd,decide_eq_true htd];exact hv
  ·rw [if_neg htd,decide_eq_false htd];exact h t
structure mC (E:Env) (base:Nat) (st:bK) (s:St):Prop where
 h:aQ E base st.hp st.aE s.hp
 rd:s.rd=st.rd
 fr:hG E.ρ s.hp.get (E.O st.hp) st.fr s.fr
def av (T:bz) (tab:List XE) (one:Bool) (F:AV) (args:List AV) (hp:List AB) (aE:bG) (Q:AV→List AB→bG→Prop):Prop :=
 ∀ (E:Env) (base:Nat) (H:Hp) (u:Value) (us:List Value),aQ E base hp aE H→AR E.ρ H.get (E.O hp) F u→fy E.ρ H.get (E.O hp) args us→∃ goal,cF u us=some goal ∧
  ∃ m L,RX T tab m (gI H goal)=some L∧(one=true→∃ r,L=[r])∧∀ r ∈ L,∃ w H',r=.ret w H' ∧
   ∃ E' a hp' amb',Q a hp' amb'∧aQ E' base hp' amb' H'∧AR E'.ρ H'.get (E'.O hp') a w∧jL hp.length base E hp H E' hp' H'
def ah (T:bz) (tab:List XE) (one:Bool) (F:AV) (args:List AV) (v:AV):Prop :=
 v.deep=true∧∀ (X:Nat→Prop) (H:Hp) (u:Value) (us:List Value),Wf H→(∀ k,X k→k < H.n)→DR H.get X F u→pH H.get X args us→∃ goal,cF u us=some goal ∧
  ∃ m L,RX T tab m (gI H goal)=some L∧(one=true→∃ r,L=[r])∧∀ r ∈ L,∃ w H',r=.ret w H' ∧
   H.n≤H'.n∧Wf H'∧(∀ k,k < H.n→H'.get k=H.get k)∧min H.lo H.n≤H'.lo∧DR H'.get X v w
theorem ah.call {F:AV} {args:List AV} {v:AV} (h:ah T tab one F args v) (hF:F.deep=true) (hargs:cJ args=true) {Q:AV→List AB→bG→Prop} (hq:Q v hp aE):av T tab one F args hp aE Q:=by
 intro E base H u us hr hf ha
 obtain ⟨hd,h⟩:=h
 obtain ⟨goal,hg,m,L,h1,h2,h3⟩:=h (E.O hp) H u us hr.wf (fun k hk=>hk.elim (fun h=>hr.iV h) (hr.xn k)) (hf.deep hF) (ha.deep hargs)
 refine ⟨goal,hg,m,L,h1,h2,fun r hm=>?_⟩
 obtain ⟨w,H',rfl,hn,hwf,hsame,hlo,hv⟩:=h3 r hm
 have e:Ext base E hp H E hp H':=⟨hn,rfl,rfl,rfl,fun _ _ _ h=>h,fun _ h=>.inl h,fun k hk _=>hsame k hk,by have:=hr.bn;omega⟩
 refine ⟨w,H',rfl,E,v,hp,aE,hq,⟨hwf,fun j x aB hj hvx=>?_,hr.inj,fun j v k hk=>Nat.lt_of_lt_of_le (hr.rn j v k hk) hn,hr.fresh,hr.new,hr.sup,hr.gZ,hr.dx,hr.ds,fun k hk=>Nat.lt_of_lt_of_le (hr.sn k hk) hn,fun k hk=>Nat.lt_of_lt_of_le (hr.xn k hk) hn,hr.nJ,Nat.le_trans hr.bn hn,aE.st hr.aE (fun k hk=>hsame k (hr.sn k hk)) hn⟩,.d hv,e.DG⟩
 rcases hr.fU j x aB hj hvx with ⟨k,b',q1,q2,q3⟩|q
 ·exact .inl ⟨k,b',q1,by rw [hsame k (hr.wf.lt q2)];exact q2,e.br hr.wf q3⟩
 ·exact .inr q
theorem ah.weak {F:AV} {args:List AV} {v:AV} (h:ah T tab one F args v):ah T tab false F args v :=
 ⟨h.1,fun X H u us h1 h2 h3 h4=>by
  obtain ⟨goal,hg,m,L,q1,q2,q3⟩:=h.2 X H u us h1 h2 h3 h4
  exact ⟨goal,hg,m,L,q1,fun h=>Bool.noConfusion h,q3⟩⟩
theorem av.mono {F:AV} {args:List AV} {Q Q':AV→List AB→bG→Prop} (h:av T tab one F args hp aE Q) (hq:∀ a hp aE,Q a hp aE→Q' a hp aE):av T tab one F args hp aE Q':=by
 intro E base H u us hr hf ha
 obtain ⟨goal,hg,m,L,h1,h2,h3⟩:=h E base H u us hr hf ha
 refine ⟨goal,hg,m,L,h1,h2,fun r hm=>?_⟩
 obtain ⟨w,H',rfl,E',a,hp',amb',q1,q2⟩:=h3 r hm
 exact ⟨w,H',rfl,E',a,hp',amb',hq _ _ _ q1,q2⟩
theorem qW:AR ρ g O (.tp []) undef:=.d (.tp rfl (fun i a u hx=>by cases hx))
def cK (ops:List Oper) (gd:Option (Nat × Bool)) (fr:Nat→AV) (yes no:Prop):Prop :=
 match gd with
 | none=>yes
 | some (j,want)=>match ops[j]? with
  | some ⟨some d,_,_,_,_,_⟩=>match fr d with
   | .fl (.bool b)=>(b=want→yes)∧(b=(!want)→no)
   | .tp _=>no
   | _=>False
  | _=>False
def fk (d:Option Tmp) (fr:Nat→AV) (v:AV) (K:(Nat→AV)→Prop):Prop :=
 match d with
 | some d=>K fun t=>bif Nat.beq t d then v else fr t
 | none=>K fr
theorem cm {d:Option Tmp} {fr:Nat→AV} {v:AV} {K:(Nat→AV)→Prop} (h:fk d fr v K):K (mA fr d v):=by cases d <;> exact h
def Ll (mu:Tmp→Bool):Option Tmp→Bool
 | some d=>mu d
 | none=>false
def E9 (P:Program) (v:AV) (name:String):AV :=
 match v with
 | .fl (.iface t x)=>match aF P (method (P.types.size+Made.depth) t x name) with
  | some (f,v)=>bif flat v then .fn f [qO v] [] else .bM
  | none=>.bM
 | _=>.bM
def NB (P:Program) (fr:Nat→AV):Qb→AV
 | .op f=>aN fr f
 | .FM r name=>E9 P (aN fr r) name
theorem JK {ρ:Nat→Nat→Option Nat} {g:aH} {O:Nat→Prop} {P:Program} {v:AV} {u:Value} (hr:AR ρ g O v u) (name:String):AR ρ g O (E9 P v name) (uw P u name):=by
 unfold E9
 split
 ·rename_i t x
  obtain ⟨e1,_⟩:=hr.dL
  rw [e1]
  unfold uw
  simp only
  cases hp:aF P (method (P.types.size+Made.depth) t x name) with
  | none=>exact .bM
  | some p =>
   obtain ⟨f,v⟩:=p
   simp only
   cases hv:flat v with
   | true =>
    simp only [cond_true]
    refine .fn (a:=[qO v]) (b:=[]) (a':=#[v]) (b':=#[]) rfl rfl (fun i x u hx hu=>?_) (fun i x u hx=>by cases hx)
    cases i with
    | zero =>
     cases hx
     cases hu
     exact kr hv
    | succ i=>cases hx
   | false=>exact .bM
 ·exact .bM
theorem pY {ρ:Nat→Nat→Option Nat} {g:aH} {O:Nat→Prop} {P:Program} {fr:Nat→AV} {tm:Tr Value} (h:hG ρ g O fr tm) (f:Qb):AR ρ g O (NB P fr f) (jd P tm f):=by
 cases f with
 | op f=>exact fM h f
 | FM r name=>exact JK (fM h r) name
def qX (T:bz) (tab:List XE) (one:Bool) (mu:Tmp→Bool) (dst:Option Tmp) (op:Op) (fr:Nat→AV) (hp:List AB) (aE:bG) (rd:Bool) (fl:Nat) (K:bK→Prop):Prop :=
 match cG op with
 | .call f args=>force (NB T.P fr f) fun F=>fj (args.map (aN fr)) fun as=>av T tab one F as hp aE fun v hp' amb'=>fk dst fr v fun fr'=>K ⟨fr',hp',amb',rd,fl⟩
 | .next it=>one=false∧force (aN fr it) fun x=>zV x hp fun v hp'=>fk dst fr v fun fr'=>K ⟨fr',hp',aE,rd,fl⟩
 | .plain=>wpOp T (Ll mu dst) op fr hp fun v hp'=>force v fun v=>fk dst fr v fun fr'=>K ⟨fr',hp',aE,rd,fl⟩
def wpOps (T:bz) (tab:List XE) (one:Bool) (mu:Tmp→Bool) (ops:List Oper):List Oper→bK→(bK→Prop)→Prop
 | [],st,K=>K st
 | ⟨dst,op,_,_,_,gd⟩ :: l,⟨fr,hp,aE,rd,fl⟩,K=>cK ops gd fr (qX T tab one mu dst op fr hp aE rd fl fun st'=>wpOps T tab one mu ops l st' K) (fk dst fr (.tp []) fun fr'=>wpOps T tab one mu ops l ⟨fr',hp,aE,rd,fl⟩ K)
def pZ {β:Type} (one:Bool) (L:List β) (P:β→Prop):Prop:=(one=true→∃ p,L=[p])∧∀ p ∈ L,P p
theorem pZ.single {β:Type} {p:β} {P:β→Prop} (h:P p):pZ one [p] P:=⟨fun _=>⟨p,rfl⟩,fun q hq=>by obtain rfl:=List.mem_singleton.1 hq;exact h⟩
theorem eU {α β:Type} {f:Nat→α→Option (List β)} {P:β→Prop} (mono:∀ n m x M,n≤m→f n x=some M→f m x=some M):∀ {L:List α} (n0:Nat),(one=true→∃ x,L=[x])→(∀ x ∈ L,∃ m M,f m x=some M∧pZ one M P) →
  ∃ m M,n0≤m∧bJ L (f m)=some M∧pZ one M P
 | [],n0,h1,_=>⟨n0,[],Nat.le_refl _,rfl,⟨fun h=>absurd (h1 h) (fun ⟨x,hx⟩=>by cases hx),fun p hp=>by cases hp⟩⟩
 | [x],n0,_,h=>by
  obtain ⟨m,M,h1,h2⟩:=h x (by simp)
  exact ⟨max n0 m,M,Nat.le_max_left _ _,by rw [cM];exact mono m _ x M (Nat.le_max_right _ _) h1,h2⟩
 | x :: y :: l,n0,h1,h=>by
  have hone:one=false:=by
   cases hb:one with
   | false=>rfl
   | true=>obtain ⟨z,hz⟩:=h1 hb;cases hz
  have hno:one=true→False:=fun h=>by rw [hone] at h;cases h
  obtain ⟨m,M,a1,a2⟩:=h x (by simp)
  obtain ⟨m',M',b0,b1,b2⟩:=eU mono (L:=y :: l) (max n0 m) (fun h=>(hno h).elim) (fun z hz=>h z (List.mem_cons_of_mem _ hz))
  have hle:=Nat.max_le.1 b0
  refine ⟨m',M++M',hle.1,?_,⟨fun h=>(hno h).elim,fun p hp=>?_⟩⟩
  ·rw [gz,mono m m' x M hle.2 a1]
   simp only [b1,Option.map_some]
  ·rcases List.mem_append.1 hp with hp|hp
   ·exact a2.2 p hp
   ·exact b2.2 p hp
def qY (E:Env) (base:Nat) (st:bK) (s:St) (K:bK→Prop) (s':St):Prop:=∃ E' st',K st'∧st'.fl=st.fl∧mC E' base st' s'∧jL st.fl base E st.hp s.hp E' st'.hp s'.hp
theorem fQ {b want:Bool} {yes no:Prop} (h:b=want) (y:yes):(b=want→yes)∧(b=(!want)→no):=by subst h;exact ⟨fun _=>y,fun h'=>by cases b <;> cases h'⟩
theorem gv {b want:Bool} {yes no:Prop} (h:b=(!want)) (n:no):(b=want→yes)∧(b=(!want)→no):=by subst h;exact ⟨fun h'=>(by cases want <;> cases h'),fun _=>n⟩
theorem Lm {t:Bool} {a b:Prop} (h:t=true) (y:a):(t=true→a)∧(t=false→b):=by subst h;exact ⟨fun _=>y,fun h'=>by cases h'⟩
theorem O5 {t:Bool} {a b:Prop} (h:t=false) (y:b):(t=true→a)∧(t=false→b):=by subst h;exact ⟨fun h'=>(by cases h'),fun _=>y⟩
theorem nO {ops:List Oper} {gd:Option (Nat × Bool)} {fr:Nat→AV} {tm:Tr Value} (hf:hG ρ g O fr tm) {yes no:Prop} (h:cK ops gd fr yes no):(aZ ops tm gd=true∧yes)∨(aZ ops tm gd=false∧no):=by
 unfold cK at h
 unfold aZ
 split at h
 ·exact .inl ⟨rfl,h⟩
 ·rename_i j want
  split at h
  ·rename_i d o1 o2 o3 o4 o5 ho
   simp only [ho]
   split at h
   ·rename_i b hb
    have:=hf d
    rw [hb] at this
    have hv:=this.dL.1
    cases hd:tm.get d with
    | none=>rw [hd] at hv;cases hv
    | some v =>
     rw [hd] at hv
     simp only [Option.getD_some] at hv
     subst hv
     simp only
     cases b <;> cases want <;> first|exact .inl ⟨rfl,h.1 rfl⟩|exact .inr ⟨rfl,h.2 rfl⟩
   ·rename_i vs hb
    have:=hf d
    rw [hb] at this
    obtain ⟨us,hv,_⟩:=this.sB
    cases hd:tm.get d with
    | none=>exact .inr ⟨rfl,h⟩
    | some v =>
     rw [hd] at hv
     simp only [Option.getD_some] at hv
     subst hv
     exact .inr ⟨rfl,h⟩
   ·exact h.elim
  ·exact h.elim
theorem gM {mu:Tmp→Bool} {ops:List Oper}:∀ {l:List Oper} {st:bK} {K:bK→Prop},wpOps T tab one mu ops l st K→∀ {E:Env} {base:Nat} {s:St},mC E base st s →
  ∃ m L,aM T (RX T tab m) ops l s=some L∧pZ one L (qY E base st s K)
 | [],st,K,h,E,base,s,hs=>⟨0,[s],rfl,.single ⟨E,st,h,rfl,hs,.refl⟩⟩
 | o :: l,st,K,h,E,base,s,hs=>by
  have h:cK ops o.guard st.fr (qX T tab one mu o.dst o.op st.fr st.hp st.aE st.rd st.fl fun st'=>wpOps T tab one mu ops l st' K) (fk o.dst st.fr (.tp []) fun fr'=>wpOps T tab one mu ops l ⟨fr',st.hp,st.aE,st.rd,st.fl⟩ K):=h
  rcases nO hs.fr h with ⟨hg,h⟩|⟨hg,h⟩
  ·
   have rest:∀ {E':Env} {st':bK} {s':St},st'.fl=st.fl→jL st.fl base E st.hp s.hp E' st'.hp s'.hp→mC E' base st' s'→wpOps T tab one mu ops l st' K→∃ m L,aM T (RX T tab m) ops l s'=some L∧pZ one L (qY E base st s K):=by
    intro E' st' s' hfl hfm hs' hw
    obtain ⟨m,L,h1,h2,h3⟩:=gM hw hs'
    refine ⟨m,L,h1,h2,fun p hp=>?_⟩
    obtain ⟨E2,st2,k1,k0,k2,k3⟩:=h3 p hp
    rw [hfl] at k3
    exact ⟨E2,st2,k1,k0.trans hfl,k2,hfm.trans k3⟩
   have fin:∀ (m0:Nat) (L0:List (Value × Hp)),(∀ m,m0≤m→dI T (RX T tab m) o.op s=some L0)→(one=true→∃ x,L0=[x])→(∀ p ∈ L0,∃ m L,aM T (RX T tab m) ops l ⟨cu s.fr o.dst p.1,p.2,s.rd⟩=some L∧pZ one L (qY E base st s K)) →
     ∃ m L,aM T (RX T tab m) ops (o :: l) s=some L∧pZ one L (qY E base st s K):=by
    intro m0 L0 h0 h1 h2
    obtain ⟨m,M,hm,q1,q2⟩:=eU (one:=one) (f:=fun m (p:Value × Hp)=>aM T (RX T tab m) ops l ⟨cu s.fr o.dst p.1,p.2,s.rd⟩) (P:=qY E base st s K) (fun n m x M hnm hx=>gB (dm hnm) ops l _ M hx) m0 h1 h2
    refine ⟨m,M,?_,q2⟩
    rw [bH,hg]
    simp only [cond_true,h0 m hm]
    exact q1
   unfold qX at h
   split at h
   ·rename_i f args hk
    have h:=eT (bu h)
    obtain ⟨goal,hgo,m0,L0,q1,q2,q3⟩:=h E base s.hp _ _ hs.h (pY hs.fr f) (dF hs.fr args)
    have hval:∃ V,bJ L0 valOf=some V∧(one=true→∃ x,V=[x])∧∀ p ∈ V,∃ r ∈ L0,r=.ret p.1 p.2:=by
     have:∀ (L:List gk),(∀ r ∈ L,∃ w H',r=gk.ret w H')→∃ V,bJ L valOf=some V∧V.length=L.length∧∀ p ∈ V,∃ r ∈ L,r=.ret p.1 p.2:=by
      intro L
      induction L with
      | nil=>intro _;exact ⟨[],rfl,rfl,fun p hp=>by cases hp⟩
      | cons r L ih =>
       intro hr
       obtain ⟨w,H',hrr⟩:=hr r (by simp)
       obtain ⟨V,v1,v2,v3⟩:=ih (fun r' h'=>hr r' (List.mem_cons_of_mem _ h'))
       cases L with
       | nil =>
        refine ⟨[(w,H')],by rw [cM,hrr];rfl,rfl,fun p hp=>?_⟩
        obtain rfl:=List.mem_singleton.1 hp
        exact ⟨r,by simp,hrr⟩
       | cons r2 L2 =>
        refine ⟨(w,H') :: V,?_,by simp [v2],fun p hp=>?_⟩
        ·rw [gz,hrr]
         simp only [valOf,v1,Option.map_some]
         rfl
        ·rcases List.mem_cons.1 hp with rfl|hp
         ·exact ⟨r,by simp,hrr⟩
         ·obtain ⟨r',m1,m2⟩:=v3 p hp
          exact ⟨r',List.mem_cons_of_mem _ m1,m2⟩
     obtain ⟨V,v1,v2,v3⟩:=this L0 (fun r hr=>by obtain ⟨w,H',e,_⟩:=q3 r hr;exact ⟨w,H',e⟩)
     refine ⟨V,v1,fun h1=>?_,v3⟩
     obtain ⟨r,hr⟩:=q2 h1
     subst hr
     match V,v2 with
     | [x],_=>exact ⟨x,rfl⟩
    obtain ⟨V,v1,v2,v3⟩:=hval
    refine fin m0 V (fun m hm=>?_) v2 (fun p hp=>?_)
    ·unfold dI
     simp only [hk,hgo,dm hm _ _ q1]
     exact v1
    ·obtain ⟨r,hr,hrr⟩:=v3 p hp
     obtain ⟨w,H',e1,E',a,hp',amb',k1,k2,k3,k4⟩:=q3 r hr
     rw [hrr] at e1
     cases e1
     exact rest (st':=⟨mA st.fr o.dst a,hp',amb',st.rd,st.fl⟩) rfl (k4.low hs.h _) ⟨k2,hs.rd,mB (k4.fr hs.h hs.fr) k3 o.dst⟩ (cm k1)
   ·rename_i it hk
    obtain ⟨hone,h⟩:=h
    obtain ⟨L,q1,q2⟩:=xx hs.h (fM hs.fr it) (bu h)
    refine fin 0 (L.map fun (v,e)=>(v,s.hp.app e)) (fun m _=>?_) (fun h1=>by rw [hone] at h1;cases h1) (fun p hp=>?_)
    ·unfold dI
     simp only [hk,q1,Option.map_some]
    ·obtain ⟨x,hx,rfl⟩:=List.mem_map.1 hp
     obtain ⟨E',a,hp',k1,k2,k3,k4⟩:=q2 x hx
     exact rest (st':=⟨mA st.fr o.dst a,hp',st.aE,st.rd,st.fl⟩) rfl k3.DG ⟨k2,hs.rd,mB (k3.DG.fr hs.h hs.fr) k4 o.dst⟩ (cm k1)
   ·rename_i hk
    obtain ⟨u,e,E',a,hp',r1,r2,r3,r4,r5⟩:=iH hs.h hs.fr h
    refine fin 0 [(u,s.hp.app e)] (fun m _=>?_) (fun _=>⟨_,rfl⟩) (fun p hp=>?_)
    ·unfold dI
     simp only [hk,r1]
    ·obtain rfl:=List.mem_singleton.1 hp
     exact rest (st':=⟨mA st.fr o.dst a,hp',st.aE,st.rd,st.fl⟩) rfl r4.DG ⟨r3,hs.rd,mB (r4.DG.fr hs.h hs.fr) r5 o.dst⟩ (cm (bu r2))
  ·obtain ⟨m,L,h1,h2⟩:=gM (cm h) (E:=E) (base:=base) (s:=⟨cu s.fr o.dst undef,s.hp,s.rd⟩) ⟨hs.h,hs.rd,mB hs.fr qW o.dst⟩
   refine ⟨m,L,?_,h2⟩
   rw [bH,hg]
   exact h1
def aA (T:bz) (tab:List XE) (one:Bool) (c:Code) (st:bK) (K:Exit→bK→Prop):Prop :=
 ∀ (E:Env) (base:Nat) (s:St),mC E base st s→∃ m L,bp T (RX T tab m) c s=some L∧pZ one L fun p=>qY E base st s (K p.1) p.2
theorem aA.mono {c:Code} {st:bK} {K K':Exit→bK→Prop} (h:aA T tab one c st K) (hk:∀ e s,K e s→K' e s):aA T tab one c st K':=by
 intro E base s hs
 obtain ⟨m,L,h1,h2,h3⟩:=h E base s hs
 refine ⟨m,L,h1,h2,fun p hp=>?_⟩
 obtain ⟨E',st',k1,k2⟩:=h3 p hp
 exact ⟨E',st',hk _ _ k1,k2⟩
def F9 (st st':bK):Prop:=st'.hp=st.hp∧(st'.aE=st.aE∧st'.rd=st.rd)∧st'.fl=st.fl∧∀ t,st'.fr t=st.fr t∨st'.fr t=.bM
theorem F9.rel {st st':bK} (h:F9 st st') {s:St} (hs:mC E base st s):mC E base st' s:=by
 obtain ⟨h1,⟨h2,h3⟩,h0,h4⟩:=h
 refine ⟨by rw [h1,h2];exact hs.h,by rw [h3];exact hs.rd,fun t=>?_⟩
 rw [h1]
 rcases h4 t with h|h
 ·rw [h];exact hs.fr t
 ·rw [h];exact .bM
theorem aA.weak {c:Code} {st st':bK} {K:Exit→bK→Prop} (hw:F9 st st') (h:aA T tab one c st' K):aA T tab one c st K:=by
 intro E base s hs
 obtain ⟨m,L,h1,h2,h3⟩:=h E base s (hw.rel hs)
 refine ⟨m,L,h1,h2,fun p hp=>?_⟩
 obtain ⟨E',st2,k1,k0,k2,k3⟩:=h3 p hp
 rw [hw.2.2.1,hw.1] at k3
 exact ⟨E',st2,k1,k0.trans hw.2.2.1,k2,k3⟩
def vJ (Kb:bK→Prop) (K:Exit→bK→Prop) (e:Exit) (s:bK):Prop :=
 match e with
 | .normal=>Kb s
 | e=>K e s
theorem aA.seq {a b:Code} {st:bK} {K:Exit→bK→Prop} (h:aA T tab one a st (vJ (fun s=>aA T tab one b s K) K)):aA T tab one (.seq a b) st K:=by
 intro E base s hs
 obtain ⟨m0,L0,h1,h2,h3⟩:=h E base s hs
 obtain ⟨m,M,hm,q1,q2⟩:=eU (one:=one) (L:=L0) (f:=fun m (p:Exit × St)=>rR (bp T (RX T tab m) b) p) (P:=fun p=>qY E base st s (K p.1) p.2) (fun n m x M hnm hx=>by
   unfold rR at hx ⊢
   split at hx
   ·exact dD (dm hnm) _ _ _ hx
   ·exact hx) m0 h2 (fun p hp=>by
  obtain ⟨E',st',k1,k0,k2,k3⟩:=h3 p hp
  obtain ⟨e,s'⟩:=p
  have other:(∀ st',vJ (fun s=>aA T tab one b s K) K e st'=K e st')→(rR (bp T (RX T tab 0) b) (e,s')=some [(e,s')])→∃ m M,rR (bp T (RX T tab m) b) (e,s')=some M∧pZ one M fun p=>qY E base st s (K p.1) p.2:=by
   intro h1 h2
   refine ⟨0,[(e,s')],h2,.single ⟨E',st',?_,k0,k2,k3⟩⟩
   rw [←h1];exact k1
  cases e with
  | normal =>
   obtain ⟨m,M,r1,r2,r3⟩:=k1 E' base s' k2
   refine ⟨m,M,r1,r2,fun q hq=>?_⟩
   obtain ⟨E2,st2,j1,j0,j2,j3⟩:=r3 q hq
   rw [k0] at j3
   exact ⟨E2,st2,j1,j0.trans k0,j2,k3.trans j3⟩
  | _=>exact other (fun _=>rfl) rfl)
 refine ⟨m,M,?_,q2⟩
 rw [iz,dD (dm hm) _ _ _ h1]
 exact q1
theorem aA.cond {c:Operand} {a b:Code} {st:bK} {K:Exit→bK→Prop} {t:Bool} (hc:aN st.fr c=.fl (.bool t)) (h1:t=true→aA T tab one a st K) (h2:t=false→aA T tab one b st K):aA T tab one (.cond c a b) st K:=by
 intro E base s hs
 have:=fM hs.fr c
 rw [hc] at this
 have hv:=this.dL.1
 cases t with
 | true =>
  obtain ⟨m,L,q1,q2⟩:=h1 rfl E base s hs
  exact ⟨m,L,by rw [jA,hv];exact q1,q2⟩
 | false =>
  obtain ⟨m,L,q1,q2⟩:=h2 rfl E base s hs
  exact ⟨m,L,by rw [jA,hv];exact q1,q2⟩
def jM (id:Nat) (K:Exit→bK→Prop) (e:Exit) (s:bK):Prop :=
 match e with
 | .exit id'=>bif Nat.beq id' id then K .normal s else K (.exit id') s
 | e=>K e s
theorem aA.block {id:Nat} {c:Code} {st:bK} {K:Exit→bK→Prop} (h:aA T tab one c st (jM id K)):aA T tab one (.block id c) st K:=by
 intro E base s hs
 obtain ⟨m,L,q1,q2,q3⟩:=h E base s hs
 refine ⟨m,L.map (fW id),by rw [j9,q1],fun h1=>?_,fun p hp=>?_⟩
 ·obtain ⟨p,hp⟩:=q2 h1
  exact ⟨_,by rw [hp];rfl⟩
 ·obtain ⟨p0,hm,rfl⟩:=List.mem_map.1 hp
  obtain ⟨E',st',k1,k2,k3⟩:=q3 p0 hm
  obtain ⟨e,s'⟩:=p0
  unfold jM at k1
  cases e with
  | exit id' =>
   simp only [fW]
   simp only at k1
   cases hb:Nat.beq id' id with
   | true=>rw [hb] at k1;exact ⟨E',st',k1,k2,k3⟩
   | false=>rw [hb] at k1;exact ⟨E',st',k1,k2,k3⟩
  | _=>exact ⟨E',st',k1,k2,k3⟩
theorem aA.ops {id:Nat} {ops:Array Oper} {mu:Tmp→Bool} {st:bK} {K:Exit→bK→Prop} (h:wpOps T tab one mu ops.toList ops.toList st (K .normal)):aA T tab one (.region id ops false) st K:=by
 intro E base s hs
 obtain ⟨m,L,q1,q2,q3⟩:=gM h hs
 refine ⟨m,L.map fun s=>(.normal,s),by rw [bQ];simp only [cond_false,q1],fun h1=>?_,fun p hp=>?_⟩
 ·obtain ⟨p,hp⟩:=q2 h1
  exact ⟨_,by rw [hp];rfl⟩
 ·obtain ⟨s',hm,rfl⟩:=List.mem_map.1 hp
  exact q3 s' hm
theorem aA.here {c:Code} {e:Exit} {st:bK} {K:Exit→bK→Prop} (hc:∀ rec s,bp T rec c s=some [(e,s)]) (h:K e st):aA T tab one c st K :=
 fun E _ s hs=>⟨0,[(e,s)],hc _ _,.single ⟨E,st,h,rfl,hs,.refl⟩⟩
def sG (K:Exit→bK→Prop) (e:Exit) (s:bK):Prop :=
 match e with
 | .goto _=>False
 | e=>K e s
theorem aA.scope {c:Code} {st:bK} {K:Exit→bK→Prop} (h:aA T tab one c st (sG K)):aA T tab one (.scope c) st K:=by
 intro E base s hs
 obtain ⟨m,L,q1,q2,q3⟩:=h E base s hs
 refine ⟨m,L,?_,q2,fun p hp=>?_⟩
 ·rw [ki,q1]
  unfold uz
  have:L.all noGoto=true:=by
   rw [List.all_eq_true]
   intro p hp
   obtain ⟨_,_,k1,_⟩:=q3 p hp
   obtain ⟨e,s'⟩:=p
   cases e <;> first|rfl|exact k1.elim
  simp only [this,cond_true]
 ·obtain ⟨E',st',k1,k2⟩:=q3 p hp
  refine ⟨E',st',?_,k2⟩
  obtain ⟨e,s'⟩:=p
  cases e <;> first|exact k1|exact k1.elim
end
section
variable {T : bz} {tab : List XE} {one : Bool} {fl base : Nat} {E E' E2 : Env} {hp hp' hp2 : List AB} {aE amb' : bG} {H H' H2 : Hp} {ρ : Nat → Nat → Option Nat} {g : aH} {O : Nat → Prop}
mutual
def AV.ic (n:Nat):AV→Bool
 | .fl _=>true
 | .sl _ _=>true
 | .pt _ _=>true
 | .fn _ a b=>nP n a && nP n b
 | .ag a=>nP n a
 | .tp a=>nP n a
 | .oq _=>true
 | .bM=>true
 | .ptr j _ _=>Nat.blt j n
 | .bI j _ _ _ _=>Nat.blt j n
 | .om j=>Nat.blt j n
def nP (n:Nat):List AV→Bool
 | []=>true
 | a :: l=>a.ic n && nP n l
end
theorem lD {n:Nat}:∀ {l:List AV},nP n l=true→∀ (i:Nat) (a:AV),l[i]?=some a→a.ic n=true
 | [],_,i,a,h=>by cases h
 | x :: l,h,i,a,ha=>by
  simp only [nP,Bool.and_eq_true] at h
  cases i with
  | zero=>cases ha;exact h.1
  | succ i=>exact lD h.2 i a (by simpa using ha)
def eY (n:Nat) (ρ:Nat→Nat→Option Nat):Nat→Nat→Option Nat:=fun j v=>if j < n then ρ j v else none
theorem AR.ic {n:Nat} {v:AV} {u:Value} (h:AR ρ g O v u):v.ic n=true→AR (eY n ρ) g O v u:=by
 have lt:∀ {j:Nat},Nat.blt j n=true→j < n:=fun h=>Nat.le_of_ble_eq_true h
 induction h with
 | d h=>intro _;exact .d h
 | bM=>intro _;exact .bM
 | ptr h=>intro hd;simp only [AV.ic] at hd;exact .ptr (by rw [eY,if_pos (lt hd)];exact h)
 | bI h=>intro hd;simp only [AV.ic] at hd;exact .bI (by rw [eY,if_pos (lt hd)];exact h)
 | pV=>intro _;exact .pV
 | om h=>intro hd;simp only [AV.ic] at hd;exact .om (by rw [eY,if_pos (lt hd)];exact h)
 | fn ha hb h1 h2 ih1 ih2 =>
  intro hd
  simp only [AV.ic,Bool.and_eq_true] at hd
  exact .fn ha hb (fun i x u hx hu=>ih1 i x u hx hu (lD hd.1 i x hx)) (fun i x u hx hu=>ih2 i x u hx hu (lD hd.2 i x hx))
 | ag ha h1 ih=>intro hd;simp only [AV.ic] at hd;exact .ag ha (fun i x u hx hu=>ih i x u hx hu (lD hd i x hx))
 | tp ha h1 ih=>intro hd;simp only [AV.ic] at hd;exact .tp ha (fun i x u hx hu=>ih i x u hx hu (lD hd i x hx))
def AB.ic (n:Nat):AB→Bool
 | .cells cs _ _=>nP n cs
 | .dy _ _=>true
 | .map aI _=>aI.all fun p=>p.1.ic n && p.2.1.ic n
 | .iter j _ _ _=>Nat.blt j n
 | .gone=>true
def aj (st st':bK):Prop:=st'.fl=st.fl∧∀ (E:Env) (base:Nat) (s:St),mC E base st s→∃ E',mC E' base st' s∧jL st.fl base E st.hp s.hp E' st'.hp s.hp
theorem aj.refl (st:bK):aj st st:=⟨rfl,fun E _ _ h=>⟨E,h,.refl⟩⟩
theorem aj.trans {a b c:bK} (h:aj a b) (k:aj b c):aj a c:=⟨k.1.trans h.1,fun E base s hs=>by
 obtain ⟨E1,h1,h2⟩:=h.2 E base s hs
 obtain ⟨E2,k1,k2⟩:=k.2 E1 base s h1
 rw [h.1] at k2
 exact ⟨E2,k1,h2.trans k2⟩⟩
theorem F9.er {st st':bK} (h:F9 st st'):aj st st':=⟨h.2.2.1,fun E _ _ hs=>⟨E,h.rel hs,by rw [h.1];exact .refl⟩⟩
theorem aA.aX {c:Code} {st st':bK} {K:Exit→bK→Prop} (hw:aj st st') (h:aA T tab one c st' K):aA T tab one c st K:=by
 intro E base s hs
 obtain ⟨E1,hs1,hf⟩:=hw.2 E base s hs
 obtain ⟨m,L,h1,h2,h3⟩:=h E1 base s hs1
 refine ⟨m,L,h1,h2,fun p hp=>?_⟩
 obtain ⟨E',st2,k1,k0,k2,k3⟩:=h3 p hp
 rw [hw.1] at k3
 exact ⟨E',st2,k1,k0.trans hw.1,k2,hf.trans k3⟩
def bx:List (Nat × AV)→Nat→AV
 | [],_=>.bM
 | (i,v) :: l,t=>bif Nat.beq t i then v else bx l t
theorem Fa {fr:Nat→AV}:∀ {l:List (Nat × AV)},(∀ p ∈ l,fr p.1=p.2)→∀ t,bx l t=fr t∨bx l t=.bM
 | [],_,t=>.inr rfl
 | (i,v) :: l,h,t=>by
  unfold bx
  rw [Tr.beq_eq]
  by_cases hti:t=i
  ·rw [decide_eq_true hti]
   exact .inl (by rw [hti,h (i,v) (by simp)];rfl)
  ·rw [decide_eq_false hti]
   exact Fa (fun p hp=>h p (List.mem_cons_of_mem _ hp)) t
def BW (fr:Nat→AV):List (Nat × AV)→Prop
 | []=>True
 | (i,v) :: l=>fr i=v∧BW fr l
theorem BW.mem {fr:Nat→AV}:∀ {l:List (Nat × AV)},BW fr l→∀ p ∈ l,fr p.1=p.2
 | [],_,p,hp=>by cases hp
 | (i,v) :: l,h,p,hp=>by
  rcases List.mem_cons.1 hp with rfl|hp
  ·exact h.1
  ·exact h.2.mem p hp
theorem aj.slots {st:bK} {l:List (Nat × AV)} {hp:List AB} (h:BW st.fr l) (hh:st.hp=hp):aj st ⟨bx l,hp,st.aE,st.rd,st.fl⟩ :=
 F9.er ⟨hh.symm,⟨rfl,rfl⟩,rfl,fun t=>Fa h.mem t⟩
theorem aj.cut {st:bK} {n:Nat} (hn:st.fl≤n) (hfr:∀ t,(st.fr t).ic n=true) (hh:(st.hp.take n).all (AB.ic n)=true):aj st ⟨st.fr,st.hp.take n,st.aE,st.rd,st.fl⟩:=by
 refine ⟨rfl,fun E base s hs=>?_⟩
 have hr:=hs.h
 rw [List.all_eq_true] at hh
 have hown:∀ k,Own (eY n E.ρ) (st.hp.take n) k→Own E.ρ st.hp k:=by
  rintro k ⟨j,b,aB,h1,h2,h3⟩
  rw [List.getElem?_take] at h1
  split at h1
  ·rename_i hlt
   rw [eY,if_pos hlt] at h3
   exact ⟨j,b,aB,h1,h2,h3⟩
  ·cases h1
 have hO:∀ k b,s.hp.get k=some b→¬ E.O st.hp k→s.hp.get k=some b∧¬ ({E with ρ:=eY n E.ρ}:Env).O (st.hp.take n) k :=
  fun k b hk ho=>⟨hk,fun h=>ho (h.imp (hown k) id)⟩
 have har:∀ {v:AV} {u:Value},AR E.ρ s.hp.get (E.O st.hp) v u→v.ic n=true→AR (eY n E.ρ) s.hp.get (({E with ρ:=eY n E.ρ}:Env).O (st.hp.take n)) v u :=
  fun h hi=>(h.ic hi).mono (fun _ _ _ h=>h) hO
 refine ⟨{E with ρ:=eY n E.ρ},⟨⟨hr.wf,fun j b aB hj hv=>?_,fun j j' aB ver' k h1 h2=>?_,fun j v k hk=>?_,fun j b aB v h1 h2 h3=>?_,fun j v hj=>?_,fun k hk=>hr.sup k (hown k hk),fun k hk=>hr.gZ k (hown k hk),hr.dx,hr.ds,hr.sn,hr.xn,fun k hk=>hr.nJ k (hk.imp (hown k) id),hr.bn,hr.aE⟩,hs.rd,fun t=>har (hs.fr t) (hfr t)⟩,
  ⟨Nat.le_refl _,fun j v k hj hk=>?_,fun k hk=>.inl (hown k hk),fun _ h=>.inl h,fun _ h=>.inl h,fun _ h=>h,fun _ h=>.inl h,fun _ _ _ _=>rfl,Nat.min_le_left _ _⟩⟩
 ·have hb:=hh b (List.mem_of_getElem? hj)
  rw [List.getElem?_take] at hj
  split at hj
  ·rename_i hlt
   rcases hr.fU j b aB hj hv with ⟨k,b',q1,q2,q3⟩|⟨q1,q2⟩
   ·refine .inl ⟨k,b',by show eY _ _ _ _=_;rw [eY,if_pos hlt];exact q1,q2,?_⟩
    cases b with
    | cells cs es aB =>
     obtain ⟨cs',rfl,h⟩:=q3
     exact ⟨cs',rfl,h.1,fun i a u ha hu=>har (h.2 i a u ha hu) (lD hb i a ha)⟩
    | dy p q=>exact q3
    | map aI clock =>
     obtain ⟨es,rfl,h1,h2⟩:=q3
     refine ⟨es,rfl,h1,fun i k v born x hx hy=>?_⟩
     simp only [AB.ic,List.all_eq_true,Bool.and_eq_true] at hb
     have:=hb _ (List.mem_of_getElem? hx)
     exact ⟨har (h2 i k v born x hx hy).1 this.1,har (h2 i k v born x hx hy).2.1 this.2,(h2 i k v born x hx hy).2.2⟩
    | iter j since seen stepped =>
     obtain ⟨m,rfl,h⟩:=q3
     refine ⟨m,rfl,?_⟩
     show eY _ _ _ _=_
     rw [eY,if_pos (show j < n from Nat.le_of_ble_eq_true hb)];exact h
    | gone=>exact q3
   ·exact .inr ⟨by show eY _ _ _ _=_;rw [eY,if_pos hlt];exact q1,q2⟩
  ·cases hj
 ·have key:∀ {j v:Nat},eY n E.ρ j v=some k→E.ρ j v=some k:=fun {j v} h=>by
   unfold eY at h
   split at h
   ·exact h
   ·cases h
  exact hr.inj j j' aB ver' k (key h1) (key h2)
 ·have hk:eY n E.ρ j v=some k:=hk
  unfold eY at hk
  split at hk
  ·exact hr.rn _ _ _ hk
  ·cases hk
 ·rw [List.getElem?_take] at h1
  split at h1
  ·rename_i hlt
   show eY _ _ _ _=_
   rw [eY,if_pos hlt]
   exact hr.fresh j b aB v h1 h2 h3
  ·cases h1
 ·show eY _ _ _ _=_
  unfold eY
  split
  ·rename_i hlt
   refine hr.new j v ?_
   simp only [List.length_take] at hj
   omega
  ·rfl
 ·show eY _ _ _ _=_
  rw [eY,if_pos (by omega)]
  exact hk
theorem vK {n:Nat}:∀ {l:List (Nat × AV)},(l.all fun p=>p.2.ic n)=true→∀ t,(bx l t).ic n=true
 | [],_,t=>rfl
 | (i,v) :: l,h,t=>by
  simp only [List.all_cons,Bool.and_eq_true] at h
  unfold bx
  cases Nat.beq t i with
  | true=>exact h.1
  | false=>exact vK h.2 t
theorem aj.to {st:bK} {l:List (Nat × AV)} {hp:List AB} (n:Nat) (hh:st.hp.take n=hp) (hs:BW st.fr l) (hn:st.fl≤n) (hl:(l.all fun p=>p.2.ic n)=true) (hb:hp.all (AB.ic n)=true):aj st ⟨bx l,hp,st.aE,st.rd,st.fl⟩:=by
 subst hh
 exact (aj.slots hs rfl).trans (aj.cut hn (vK hl) hb)
def JL {σ:Type} (P:σ→Prop) (I:σ→bK) (m:σ→Nat) (K:Exit→bK→Prop) (x:σ) (e:Exit) (s:bK):Prop :=
 match e with
 | .normal=>∃ y,P y∧m y < m x∧aj s (I y)
 | e=>K e s
theorem aA.loop {σ:Type} {body:Code} {K:Exit→bK→Prop} (P:σ→Prop) (I:σ→bK) (m:σ→Nat) (h:∀ x,P x→aA T tab one body (I x) (JL P I m K x)):∀ x,P x→aA T tab one (.loop body) (I x) K:=by
 have key:∀ (n:Nat) (x:σ),P x→m x < n→∀ (E:Env) (base:Nat) (s:St),mC E base (I x) s→∃ k L,RX T tab k (.loop body s)=some L∧pZ one L fun r=>∃ e s',r=.out e s'∧qY E base (I x) s (K e) s':=by
  intro n
  induction n with
  | zero=>intro x _ hx;omega
  | succ n ih =>
   intro x hP hx E base s hs
   obtain ⟨k0,L0,h1,h2,h3⟩:=h x hP E base s hs
   obtain ⟨k,M,hk,q1,q2⟩:=eU (one:=one) (L:=L0) (f:=fun k (p:Exit × St)=>eN (RX T tab k) body p) (P:=fun r=>∃ e s',r=.out e s'∧qY E base (I x) s (K e) s') (fun a b p M hab hp=>by
     unfold eN at hp ⊢
     split at hp
     ·exact dm hab _ _ hp
     ·exact hp) k0 h2 (fun p hp=>by
    obtain ⟨E',st',k1,kf,k2,k3⟩:=h3 p hp
    obtain ⟨e,s'⟩:=p
    have other:(eN (RX T tab 0) body (e,s')=some [.out e s'])→K e st'→∃ m M,eN (RX T tab m) body (e,s')=some M∧pZ one M fun r=>∃ e s',r=.out e s'∧qY E base (I x) s (K e) s' :=
     fun h1 h2=>⟨0,_,h1,.single ⟨e,s',rfl,E',st',h2,kf,k2,k3⟩⟩
    cases e with
    | normal =>
     obtain ⟨y,hPy,hy,hw⟩:=k1
     obtain ⟨E1,hs1,hf1⟩:=hw.2 E' base s' k2
     obtain ⟨k,L,r1,r2,r3⟩:=ih y hPy (by omega) E1 base s' hs1
     refine ⟨k,L,r1,r2,fun r hr=>?_⟩
     obtain ⟨e,s2,rfl,E2,st2,j1,jf,j2,j3⟩:=r3 r hr
     have e1:(I y).fl=(I x).fl:=hw.1.trans kf
     rw [e1] at j3
     rw [kf] at hf1
     exact ⟨e,s2,rfl,E2,st2,j1,jf.trans e1,j2,(k3.trans hf1).trans j3⟩
    | _=>exact other rfl k1)
   refine ⟨k+1,M,?_,q2⟩
   rw [Lh,pU,dD (dm hk) _ _ _ h1]
   exact q1
 intro x hP E base s hs
 obtain ⟨k,L,h1,h2,h3⟩:=key (m x+1) x hP (Nat.lt_succ_self _) E base s hs
 obtain ⟨k',M,hk,q1,q2⟩:=eU (one:=one) (L:=L) (f:=fun _ (r:gk)=>AJ r) (P:=fun p=>qY E base (I x) s (K p.1) p.2) (fun _ _ _ _ _ h=>h) k h2 (fun r hr=>by
  obtain ⟨e,s',rfl,h⟩:=h3 r hr
  exact ⟨0,_,rfl,.single h⟩)
 refine ⟨k',M,?_,q2⟩
 rw [lX,dm hk _ _ h1]
 exact q1
inductive Fz (hp:List AB):AV→AV→Prop
 | deep {v:AV}:v.deep=true→Fz hp v v
 | nil {b:Bool}:Fz hp (.fl (.slice none 0 0)) (.sl [] b)
 | full {els:List (List AV)}:Fz hp (.sl els true) (.sl els false)
 | row {j aB o n c es:Nat} {cs:List AV} {els:List (List AV)} {b:Bool}:hp[j]?=some (.cells cs es aB)→o+n * es≤cs.length→els.length=n→(∀ el ∈ els,el.length=es)→els.flatten=(cs.drop o).take (n * es)→cJ els.flatten=true→(b=true→c=n) →
  Fz hp (.bI j aB o n c) (.sl els b)
 | ag {a b:List AV}:a.length=b.length→(∀ (i:Nat) (x y:AV),a[i]?=some x→b[i]?=some y→Fz hp x y)→Fz hp (.ag a) (.ag b)
theorem Fz.dr {X:Nat→Prop} (h:aQ E base hp aE H) (hX:∀ k,X k→E.X k) {r v:AV} (hf:Fz hp r v):∀ {u:Value},AR E.ρ H.get (E.O hp) r u→DR H.get X v u:=by
 have weak:∀ {v:AV} {u:Value},DR H.get (E.O hp) v u→DR H.get X v u:=fun h=>h.mono fun k b hk ho=>⟨hk,fun hx=>ho (.inr (hX k hx))⟩
 induction hf with
 | deep hd=>intro u ha;exact weak (ha.deep hd)
 | nil=>intro u ha;rw [ha.dL.1];exact .nil
 | full =>
  intro u ha
  cases weak ha.iF with
  | nil=>exact .nil
  | sl q1 q2 q3 q4 q5 q6 q7=>exact .sl q1 q2 q3 q4 q5 q6 (fun h=>Bool.noConfusion h)
 | row h1 h2 h3 h4 h5 h6 h7 =>
  rename_i j aB o n c es cs els b
  intro u ha
  rcases ha.eH with ⟨k,hk,rfl⟩|⟨rfl,rfl,rfl⟩
  ·obtain ⟨cs',q1,q2⟩:=h.cells h1 hk
   have hok:Own E.ρ hp k:=⟨j,_,aB,h1,rfl,hk⟩
   have hnx:¬ X k:=fun hx=>h.gZ k hok (hX k hx)
   refine .sl (es:=es) q1 hnx (by rw [←q2.1];exact h2) h3 (fun i el he=>h4 el (List.mem_of_getElem? he)) (fun i el jj a u he hx hu=>?_) h7
   have hjj:jj < es:=by rw [←h4 el (List.mem_of_getElem? he)];exact (List.getElem?_eq_some_iff.1 hx).1
   have hat:=fN h4 i el jj he hjj
   have hi:i < n:=by rw [←h3];exact (List.getElem?_eq_some_iff.1 he).1
   have hdeep:a.deep=true:=by
    refine gL h6 (i * es+jj) a ?_
    rw [hat];exact hx
   rw [h5,List.getElem?_take,List.getElem?_drop] at hat
   have hlt:i * es+jj < n * es:=by
    have:(i+1) * es≤n * es:=Nat.mul_le_mul_right _ hi
    rw [Nat.add_mul,Nat.one_mul] at this
    omega
   rw [if_pos hlt,hx,←Nat.add_assoc] at hat
   exact weak ((q2.2 _ a u hat hu).deep hdeep)
  ·simp only [List.length_eq_zero_iff] at h3
   subst h3
   exact .nil
 | ag hl h1 ih =>
  rename_i a b
  intro u ha
  have hal:∃ us:Array Value,u=.agg us∧fy E.ρ H.get (E.O hp) a us.toList:=by
   cases ha with
   | d h=>cases h with
    | ag ha h1=>exact ⟨_,rfl,ha,fun i a u x y=>.d (h1 i a u x y)⟩
   | ag ha h1=>exact ⟨_,rfl,ha,h1⟩
  obtain ⟨us,rfl,h2⟩:=hal
  refine .ag (by rw [←hl];exact h2.1) (fun i x w hx hw=>?_)
  have hi:i < a.length:=by rw [hl];exact (List.getElem?_eq_some_iff.1 hx).1
  have hai:a[i]?=some a[i]:=List.getElem?_eq_getElem hi
  exact ih i _ x hai hx (h2.2 i _ w hai hw)
def nk (hp:List AB):List AV→List AV→Prop
 | [],[]=>True
 | r :: rs,v :: vs=>Fz hp r v∧nk hp rs vs
 | _,_=>False
theorem nk.dr {X:Nat→Prop} (h:aQ E base hp aE H) (hX:∀ k,X k→E.X k):∀ {rs vs:List AV} {us:List Value},nk hp rs vs→fy E.ρ H.get (E.O hp) rs us→pH H.get X vs us
 | [],[],us,_,ha=>⟨ha.1,fun i a u hx=>by cases hx⟩
 | r :: rs,v :: vs,[],_,ha=>absurd ha.1 (by simp)
 | r :: rs,v :: vs,u :: us,hf,ha=>by
  have:=nk.dr h hX hf.2 (us:=us) ⟨by simpa using ha.1,fun i a u x y=>ha.2 (i+1) a u (by simpa using x) (by simpa using y)⟩
  refine ⟨by simp [this.1],fun i a w hx hw=>?_⟩
  cases i with
  | zero=>cases hx;cases hw;exact hf.1.dr h hX (ha.2 0 r u rfl rfl)
  | succ i=>exact this.2 i a w (by simpa using hx) (by simpa using hw)
 | [],_ :: _,_,hf,_=>hf.elim
 | _ :: _,[],_,hf,_=>by simp [nk] at hf
theorem BX (h:aQ E base hp aE H) {t:TypeId} {a:AV} {u:Value} (ha:AR E.ρ H.get (E.O hp) a u) {K:AV→List AB→Prop} (hw:eR T t a hp K):∃ w b,gS T t u H.get=some (w,.none)∧K b hp∧AR E.ρ H.get (E.O hp) b w:=by
 unfold eR at hw
 split at hw
 ·rename_i cs o und s bytes zero agg cq cA hty
  obtain ⟨k,d,cs',own,e,rfl,h1,h2,h3,h4⟩:=ha.cD.cD
  unfold gS addr?
  simp only [h1,cells?,hty]
  obtain ⟨u,a,e1,e2,e3⟩:=ku (ρ:=E.ρ) (fun i a u x y=>.d (h4 i a u x y)) h3 hw
  rw [e1]
  exact ⟨u,a,rfl,e2,e3⟩
 ·rename_i j aB o und s bytes zero agg cq cA hty
  obtain ⟨cs,es,h1,h2⟩:=hw
  obtain ⟨k,hk,rfl⟩:=ha.cW
  obtain ⟨cs',h3,h4⟩:=h.cells h1 hk
  unfold gS addr?
  simp only [h3,cells?,hty]
  obtain ⟨u,a,e1,e2,e3⟩:=ku (d:=0) (fun i a u x y=>h4.2 i a u x (by rw [Nat.zero_add] at y;exact y)) (by rw [h4.1];omega) h2
  rw [Nat.zero_add] at e1
  rw [e1]
  exact ⟨u,a,rfl,e2,e3⟩
 ·exact hw.elim
def O6 (T:bz) (s:bK) (r:ResultVar) (K:AV→Prop):Prop :=
 match r with
 | .tmp t=>K (s.fr t)
 | .cell a t=>eR T t (s.fr a) s.hp fun v _=>K v
def pJ (T:bz) (s:bK):List ResultVar→(List AV→Prop)→Prop
 | [],K=>K []
 | r :: rs,K=>O6 T s r fun v=>pJ T s rs fun vs=>K (v :: vs)
def BZ:List AV→AV
 | [v]=>v
 | vs=>.tp vs
theorem kB {st:bK} {s:St} (hs:mC E base st s):∀ {rs:List ResultVar} {K:List AV→Prop},pJ T st rs K→∃ us as,j6 T s.fr s.hp rs=some us∧K as∧fy E.ρ s.hp.get (E.O st.hp) as us
 | [],K,h=>⟨[],[],rfl,h,.nil⟩
 | r :: rs,K,h=>by
  have h:O6 T st r fun v=>pJ T st rs fun vs=>K (v :: vs):=h
  have one:∃ u a,xJ T s.fr s.hp r=some u∧AR E.ρ s.hp.get (E.O st.hp) a u∧pJ T st rs fun vs=>K (a :: vs):=by
   unfold O6 at h
   cases r with
   | tmp t=>exact ⟨_,_,rfl,hs.fr t,h⟩
   | cell a t =>
    obtain ⟨u,b,r1,r2,r3⟩:=BX hs.h (hs.fr a) h
    exact ⟨u,b,by unfold xJ;simp only [r1,Option.map_some],r3,r2⟩
  obtain ⟨u,a,h1,h2,h3⟩:=one
  obtain ⟨us,as,k1,k2,k3⟩:=kB hs h3
  exact ⟨u :: us,a :: as,by unfold j6;simp only [h1,k1,Option.map_some],k2,.cons h2 k3⟩
def Rl (T:bz) (rs:List ResultVar) (v:AV) (e:Exit) (s:bK):Prop :=
 match e with
 | .normal|.ret=>pJ T s rs fun as=>∃ vs,nk s.hp as vs∧BZ vs=v
 | _=>False
def B0 (args:List AV):Nat→AV:=fun t=>args.getD t .bM
def noEntry (tab:List XE) (f:FuncId):Bool:=tab.all fun e=>!Nat.beq e.f f
theorem oD {f:FuncId} (args:List Value) (H:Hp):∀ {tab:List XE},noEntry tab f=true→look tab f args H=none
 | [],_=>rfl
 | e :: l,h=>by
  simp only [noEntry,List.all_cons,Bool.and_eq_true,Bool.not_eq_true'] at h
  have h1:lB e f args H=none:=by unfold lB;rw [h.1];rfl
  show (match lB e f args H with|some r=>some r|none=>look l f args H)=none
  rw [h1]
  exact oD args H h.2
theorem vL {args:List AV} {us:List Value} (h:fy ρ g O args us):hG ρ g O (B0 args) (setArgs .leaf 0 us):=by
 intro t
 rw [s9,Tr.k7]
 unfold B0
 by_cases ht:t < args.length
 ·rw [if_pos ⟨Nat.zero_le _,by rw [←h.1];omega⟩,Nat.sub_zero,List.getD_eq_getElem?_getD,List.getElem?_eq_getElem ht,List.getElem?_eq_getElem (by rw [←h.1];exact ht:t < us.length)]
  exact h.2 t _ _ (List.getElem?_eq_getElem ht) (List.getElem?_eq_getElem _)
 ·rw [List.getD_eq_getElem?_getD,List.getElem?_eq_none (by omega)]
  exact .bM
theorem Ln {X:Nat→Prop} {vs:List AV} {us:List Value} (h:pH g X vs us):DR g X (BZ vs) (cU us):=by
 have tup:∀ {vs:List AV} {us:List Value},pH g X vs us→DR g X (.tp vs) (.tuple us.toArray):=fun h=>.tp (by simpa using h.1) (fun i x u hx hu=>h.2 i x u hx (by simpa using hu))
 match vs,us,h with
 | [v],[u],h=>exact h.2 0 v u rfl rfl
 | [],[],h=>exact tup h
 | v :: w :: vs,u :: x :: us,h=>exact tup h
 | [],_ :: _,h=>exact absurd h.1 (by simp)
 | [_],[],h=>exact absurd h.1 (by simp)
 | [_],_ :: _ :: _,h=>exact absurd h.1 (by simp)
 | _ :: _ :: _,[],h=>exact absurd h.1 (by simp)
 | _ :: _ :: _,[_],h=>exact absurd h.1 (by simp)
theorem ah.body {f:FuncId} {fn:Func} {c:Code} {first caps args:List AV} {v:AV} (hf:T.fn.get f=some fn) (hb:fn.body=some c) (hn:noEntry tab f=true) (hv:v.deep=true)
  (hw:aA T tab one c ⟨B0 (first++args++caps),[],bG.none,false,0⟩ (Rl T fn.results.toList v)):ah T tab one (.fn f first caps) args v:=by
 refine ⟨hv,fun X H u us hwf hX hF ha=>?_⟩
 cases hF with
 | fn l1 l2 d1 d2 =>
  rename_i a' b'
  have hfirst:pH H.get X first a'.toList:=⟨l1,d1⟩
  have hcaps:pH H.get X caps b'.toList:=⟨l2,d2⟩
  have hall:=pH.append (pH.append hfirst ha) hcaps
  refine ⟨.fn f (a'.toList++us++b'.toList),rfl,?_⟩
  let E:Env:=⟨fun _ _=>none,fun _=>False,fun _=>False,X⟩
  have hno:∀ k,¬ Own E.ρ [] k:=fun k ⟨j,b,aB,h,_⟩=>by cases h
  have hO:∀ k,E.O [] k→X k:=fun k h=>h.elim (fun h=>(hno k h).elim) id
  have hrel:aQ E H.n [] bG.none H :=
   {wf:=hwf,fU:=fun j b aB h _=>(by cases h),inj:=fun j j' aB ver' k h=>(by cases h),rn:=fun j v k h=>(by cases h),fresh:=fun j b aB v h=>(by cases h),new:=fun _ _ _=>rfl,
    sup:=fun k h=>(hno k h).elim,gZ:=fun k h=>(hno k h).elim,dx:=fun k h=>h.elim,ds:=fun k h=>h.elim,sn:=fun k h=>h.elim,xn:=hX,
    nJ:=fun k h=>h.elim (fun h=>(hno k h).elim) (fun h=>h.elim),bn:=Nat.le_refl _,aE:=trivial}
  have harl:fy E.ρ H.get (E.O []) (first++args++caps) (a'.toList++us++b'.toList) :=
   ⟨hall.1,fun i a u x y=>.d ((hall.2 i a u x y).mono fun k b hk ho=>⟨hk,fun h=>ho (hO k h)⟩)⟩
  obtain ⟨m,L,h1,h2,h3⟩:=hw E H.n ⟨setArgs .leaf 0 (a'.toList++us++b'.toList),H,false⟩ ⟨hrel,rfl,vL harl⟩
  obtain ⟨m',M,hm,q1,q2,q3⟩:=eU (one:=one) (L:=L) (f:=fun _ (p:Exit × St)=>fe T fn.results.toList p) (P:=fun r=>∃ w H',r=.ret w H'∧H.n≤H'.n∧Wf H'∧(∀ k,k < H.n→H'.get k=H.get k)∧min H.lo H.n≤H'.lo∧DR H'.get X v w)
   (fun _ _ _ _ _ h=>h) m h2 (fun p hp=>by
    obtain ⟨E',st',k1,_,k2,k3⟩:=h3 p hp
    obtain ⟨e,s'⟩:=p
    have done:(e=.normal∨e=.ret)→(pJ T st' fn.results.toList fun as=>∃ vs,nk st'.hp as vs∧BZ vs=v)→∃ (_:Nat) (M:List gk),fe T fn.results.toList (e,s')=some M∧pZ one M fun r=>∃ w H',r=.ret w H'∧H.n≤H'.n∧Wf H'∧(∀ k,k < H.n→H'.get k=H.get k)∧min H.lo H.n≤H'.lo∧DR H'.get X v w:=by
     intro he hr
     obtain ⟨ws,as,r1,⟨vs,r2,r3⟩,r4⟩:=kB k2 hr
     refine ⟨0,[.ret (cU ws) s'.hp],?_,.single ⟨_,_,rfl,k3.n,k2.h.wf,fun k hk=>k3.same k hk (hno k) (fun h=>h),k3.lo,?_⟩⟩
     ·unfold fe
      rcases he with rfl|rfl <;> simp only [r1,Option.map_some]
     ·rw [←r3]
      exact Ln (r2.dr k2.h (fun k hk=>k3.xk k hk) r4)
    cases e with
    | normal=>exact done (.inl rfl) k1
    | ret=>exact done (.inr rfl) k1
    | _=>exact k1.elim)
  refine ⟨m'+1,M,?_,q2,q3⟩
  show RX T tab (m'+1) (.call f _ H)=_
  rw [zP,oD _ _ hn]
  simp only
  rw [jB,hf]
  simp only [hb]
  rw [dD (dm hm) _ _ _ h1]
  exact q1
end
section
variable {T : bz} {tab : List XE} {one : Bool} {fl base : Nat} {E E' E2 : Env} {hp hp' hp2 : List AB} {aE amb' : bG} {H H' H2 : Hp} {ρ ρ2 : Nat → Nat → Option Nat} {g g2 : aH} {O O2 : Nat → Prop}
def Two (r:Option (Value × bL)) (K:AV→Prop) (R R2:AV→Value→Prop):Prop:=∃ u a,r=some (u,.none)∧K a∧R a u∧R2 a u
theorem Ga {t:TypeId} {a:AV} {i:Nat} {u:Value} (ha:AR ρ g O a u) (hb:AR ρ2 g2 O2 a u) {K:AV→List AB→Prop} (hw:jl T t a i hp K):Two (dN T t u i) (K · hp) (AR ρ g O) (AR ρ2 g2 O2):=by
 unfold jl at hw
 split at hw
 ·rename_i cs o fs s bytes z agg cq cA hty
  obtain ⟨off,s',h1,h2,h3⟩:=hw
  obtain ⟨k,d,cs',own,e,rfl,q1,q2,q3,q4⟩:=ha.cD.cD
  obtain ⟨k2,d2,cs2,own2,e2,hu,r1,r2,r3,r4⟩:=hb.cD.cD
  simp only [Value.pointer.injEq,Option.some.injEq,Addr.mk.injEq] at hu
  obtain ⟨rfl,hd,_⟩:=hu
  obtain rfl:d=d2:=by omega
  unfold dN addr?
  simp only [hty,h1,Nat.ble_eq_true_of_le h2,cond_true]
  refine ⟨_,.pt cs (o+off),rfl,h3,?_,?_⟩ <;> unfold ptr <;> rw [Nat.add_assoc]
  ·exact .d (.pt q1 q2 q3 q4)
  ·exact .d (.pt r1 r2 r3 r4)
 ·rename_i j aB o fs s bytes z agg cq cA hty
  obtain ⟨off,s',h1,h2,h3⟩:=hw
  obtain ⟨k,hk,rfl⟩:=ha.cW
  obtain ⟨k2,hk2,hu⟩:=hb.cW
  simp only [Value.pointer.injEq,Option.some.injEq,Addr.mk.injEq,and_true] at hu
  obtain rfl:=hu
  unfold dN addr?
  simp only [hty,h1,Nat.ble_eq_true_of_le h2,cond_true]
  exact ⟨_,_,rfl,h3,.ptr hk,.ptr hk2⟩
 ·exact hw.elim
theorem xB {t:TypeId} {a ix:AV} {u x:Value} (ha:AR ρ g O a u) (hb:AR ρ2 g2 O2 a u) (hx:AR ρ g O ix x) {K:AV→List AB→Prop} (hw:cy T t a ix hp K):Two (dO T t u x) (K · hp) (AR ρ g O) (AR ρ2 g2 O2):=by
 unfold cy at hw
 split at hw
 ·rename_i j len el s bytes z agg cq cA hj hty
  have hix:=iG hj hx
  obtain ⟨h0,hw⟩:=hw
  unfold dO
  simp only [hix,hty]
  split at hw
  ·obtain ⟨k,d,cs',own,e,rfl,q1,q2,q3,q4⟩:=ha.cD.cD
   obtain ⟨k2,d2,cs2,own2,e2,hu,r1,r2,r3,r4⟩:=hb.cD.cD
   simp only [Value.pointer.injEq,Option.some.injEq,Addr.mk.injEq] at hu
   obtain ⟨rfl,hd,_⟩:=hu
   obtain rfl:d=d2:=by omega
   simp only [addr?]
   rw [kz h0]
   refine ⟨_,_,rfl,hw,?_,?_⟩ <;> unfold ptr <;> rw [Nat.add_assoc]
   ·exact .d (.pt q1 q2 q3 q4)
   ·exact .d (.pt r1 r2 r3 r4)
  ·obtain ⟨k,hk,rfl⟩:=ha.cW
   obtain ⟨k2,hk2,hu⟩:=hb.cW
   simp only [Value.pointer.injEq,Option.some.injEq,Addr.mk.injEq,and_true] at hu
   obtain rfl:=hu
   simp only [addr?]
   rw [kz h0]
   exact ⟨_,_,rfl,hw,.ptr hk,.ptr hk2⟩
  ·exact hw.elim
 ·rename_i j el s bytes z agg cq cA hj hty
  have hix:=iG hj hx
  unfold dO
  simp only [hix,hty]
  split at hw
  ·rename_i els f
   obtain ⟨el,⟨h0,h1⟩,h2,h3⟩:=hw
   have mk:∀ {g:aH} {O:Nat→Prop} {k o n c:Nat},DR g O (.sl els f) (.slice (some ⟨k,o,none⟩) n c)→n=els.length∧DR g O (.pt el 0) (ptr k (o+j.toNat * cA)):=by
    intro g O k o n c h
    cases h with
    | sl q1 q2 q3 q4 q5 q6 q7 =>
     rename_i es cs own e
     have hlt:j.toNat < els.length:=(List.getElem?_eq_some_iff.1 h1).1
     have hes:es=cA:=by rw [←q5 _ _ h1,h2]
     subst hes
     have hle:(j.toNat+1) * es≤n * es:=Nat.mul_le_mul_right _ (by omega)
     rw [Nat.add_mul,Nat.one_mul] at hle
     exact ⟨q4.symm,.pt (d:=o+j.toNat * es) (o:=0) q1 q2 (by rw [h2];omega) fun i a u hi hu=>q6 _ _ i a u h1 hi hu⟩
   have hlt:j.toNat < els.length:=(List.getElem?_eq_some_iff.1 h1).1
   have h4:=ha.iF
   have h5:=hb.iF
   cases h4 with
   | nil=>cases h1
   | sl q1 q2 q3 q4 q5 q6 q7 =>
    rename_i k o n c es cs own e
    obtain ⟨e1,p1⟩:=mk (.sl q1 q2 q3 q4 q5 q6 q7:DR g O (.sl els f) (.slice (some ⟨k,o,none⟩) n c))
    obtain ⟨_,p2⟩:=mk h5
    show Two (oV cA k o n j) _ _ _
    rw [kz ⟨h0,by omega⟩]
    exact ⟨_,_,rfl,h3,.d p1,.d p2⟩
  ·rename_i i aB o n c
   obtain ⟨h0,h1⟩:=hw
   rcases ha.eH with ⟨k,hk,rfl⟩|⟨rfl,rfl,rfl⟩
   ·rcases hb.eH with ⟨k2,hk2,hu⟩|⟨_,_,hu⟩
    ·simp only [Value.slice.injEq,Option.some.injEq,Addr.mk.injEq,and_true] at hu
     obtain rfl:=hu
     show Two (oV cA k o n j) _ _ _
     rw [kz h0]
     exact ⟨_,_,rfl,h1,.ptr hk,.ptr hk2⟩
    ·cases hu
   ·omega
  ·exact hw.elim
 ·exact hw.elim
theorem JM {t:TypeId} {cs:List AV} {o:Nat} {u:Value} (ha:AR ρ g O (.pt cs o) u) (hb:AR ρ2 g2 O2 (.pt cs o) u) (hc:∀ k b,g2 k=some b→¬ O2 k→g k=some b) {K:AV→List AB→Prop} (hw:eR T t (.pt cs o) hp K) :
  Two (gS T t u g) (K · hp) (AR ρ g O) (AR ρ2 g2 O2):=by
 unfold eR at hw
 split at hw
 ·rename_i cs0 o0 und s bytes zero agg cq cA hpt hty
  cases hpt
  obtain ⟨k,d,cs',own,e,rfl,h1,h2,h3,h4⟩:=ha.cD.cD
  obtain ⟨k2,d2,cs2,own2,e2,hu,r1,r2,r3,r4⟩:=hb.cD.cD
  simp only [Value.pointer.injEq,Option.some.injEq,Addr.mk.injEq] at hu
  obtain ⟨rfl,hd,_⟩:=hu
  obtain rfl:d=d2:=by omega
  have:=hc _ _ r1 r2
  rw [h1] at this
  cases this
  unfold gS addr?
  simp only [h1,cells?,hty]
  unfold BL at hw
  cases agg with
  | true =>
   obtain ⟨w1,w2⟩:=hw
   simp only [cond_true]
   rw [mh (by omega)]
   have mk:∀ {ρ:Nat→Nat→Option Nat} {g:aH} {O:Nat→Prop},(∀ (i:Nat) (a:AV) (u:Value),cs[i]?=some a→cs'[d+i]?=some u→DR g O a u)→AR ρ g O (.ag ((cs.drop o).take s)) (.agg ((cs'.drop (d+o)).take s).toArray):=by
    intro ρ g O h
    refine .d (.ag ?_ ?_)
    ·simp;omega
    ·intro i x u hx hu
     simp only [List.getElem?_take,List.getElem?_drop] at hx hu
     split at hx
     ·rw [if_pos (by assumption)] at hu
      exact h _ x u hx (by rw [←Nat.add_assoc];exact hu)
     ·cases hx
   exact ⟨_,_,rfl,w2,mk h4,mk r4⟩
  | false =>
   obtain ⟨v,w1,w2⟩:=hw
   have hlt:=(List.getElem?_eq_some_iff.1 w1).1
   have hcc:cs'[d+o]?=some (cs'[d+o]'(by omega)):=List.getElem?_eq_getElem _
   simp only [cond_false]
   rw [hcc]
   exact ⟨_,v,rfl,w2,.d (h4 o v _ w1 hcc),.d (r4 o v _ w1 hcc)⟩
 ·rename_i hpt _
  cases hpt
 ·exact hw.elim
theorem B1 {a:AV} {i:Nat} {u:Value} (ha:AR ρ g O a u) (hb:AR ρ2 g2 O2 a u) {K:AV→List AB→Prop} (hw:ju a i hp K):Two (fI u i) (K · hp) (AR ρ g O) (AR ρ2 g2 O2):=by
 unfold ju at hw
 split at hw
 ·obtain ⟨v,h1,h2⟩:=hw
  obtain ⟨us,rfl,h3⟩:=ha.sB
  obtain ⟨us2,hu,h3'⟩:=hb.sB
  cases hu
  obtain ⟨x,h4,h5⟩:=h3.get h1
  unfold fI
  simp only [h4,Option.map_some]
  exact ⟨_,_,rfl,h2,h5,h3'.2 i v x h1 h4⟩
 ·exact hw.elim
theorem Lq {a:AV} {u:Value} (ha:AR ρ g O a u) (hb:AR ρ2 g2 O2 a u) {K:AV→List AB→Prop} (hw:qS a hp K):Two (iy u) (K · hp) (AR ρ g O) (AR ρ2 g2 O2):=by
 unfold qS at hw
 split at hw
 ·obtain ⟨k,d,cs',own,e,rfl,_⟩:=ha.cD.cD
  exact ⟨_,_,rfl,hw,ha,hb⟩
 ·obtain ⟨k,hk,rfl⟩:=ha.cW
  exact ⟨_,_,rfl,hw,ha,hb⟩
 ·exact hw.elim
def yh (o:Op) (fr:Nat→AV):Option (List Operand) :=
 match o with
 | .move x=>some [x]
 | .assign x=>some [x]
 | .fieldAddr _ a _=>some [a]
 | .indexAddr _ a _=>some [a]
 | .extract x _=>some [x]
 | .nilCheck x=>some [x]
 | .load _ a=>match aN fr a with
  | .pt ..=>some [a]
  | _=>none
 | _=>none
theorem vM {own:Bool} {o:Op} {fr:Nat→AV} {tm:Tr Value} (hf:hG ρ g O fr tm) {xs:List Operand} (hm:yh o fr=some xs) (hb:∀ x ∈ xs,AR ρ2 g2 O2 (aN fr x) (aG tm x)) (hc:∀ k b,g2 k=some b→¬ O2 k→g k=some b)
  {n:Nat} {K:AV→List AB→Prop} (hw:wpOp T own o fr hp K):Two (gR T n o (aG tm) g) (K · hp) (AR ρ g O) (AR ρ2 g2 O2):=by
 have ev:=fun x=>fM hf x
 unfold yh at hm
 split at hm
 ·cases hm;exact ⟨_,_,rfl,hw,ev _,hb _ (by simp)⟩
 ·cases hm;exact ⟨_,_,rfl,hw,ev _,hb _ (by simp)⟩
 ·cases hm;exact Ga (ev _) (hb _ (by simp)) hw
 ·cases hm;exact xB (ev _) (hb _ (by simp)) (ev _) hw
 ·cases hm;exact B1 (ev _) (hb _ (by simp)) hw
 ·cases hm;exact Lq (ev _) (hb _ (by simp)) hw
 ·split at hm
  ·rename_i t a _ cs oo hpt
   cases hm
   have e1:=ev a
   have e2:=hb a (by simp)
   rw [hpt] at e1 e2
   have hw:eR T t (aN fr a) hp K:=hw
   rw [hpt] at hw
   exact JM e1 e2 hc hw
  ·cases hm
 ·cases hm
structure Acc where
 own:Option Nat
 b:Nat
 wr:Bool
structure gN where
 i:Nat
 acc:List Acc
 al:Bool
 call:Bool
def qZ (v:AV) (b:Nat) (wr:Bool):Option (List Acc) :=
 match v with
 | .pt ..|.sl ..=>some [⟨none,b,wr⟩]
 | .ptr j _ _|.bI j _ _ _ _|.om j=>some [⟨some j,b,wr⟩]
 | .fl _|.ag _|.tp _|.fn ..=>some []
 | _=>none
def DH (o:Op) (fr:Nat→AV) (br:Operand→Nat):Option (List Acc) :=
 match o with
 | .load _ a=>qZ (aN fr a) (br a) false
 | .store _ a _=>qZ (aN fr a) (br a) true
 | .call ⟨.builtin .append,args,_⟩=>match args.toList with
  | [s,x]=>match qZ (aN fr x) (br x) false,qZ (aN fr s) (br s) true with
   | some l,some m=>some (l++m)
   | _,_=>none
  | _=>none
 | .call ⟨.builtin .len,args,_⟩=>match args.toList with
  | [x]=>qZ (aN fr x) (br x) false
  | _=>none
 | .lookup _ m _ _=>qZ (aN fr m) (br m) false
 | .mapEntry _ m _=>qZ (aN fr m) (br m) true
 | .entryStore _ m _ _=>qZ (aN fr m) (br m) true
 | .range ..|.next ..|.entry ..|.mapUpdate ..=>none
 | .call ⟨.builtin .clear,_,_⟩=>none
 | _=>some []
def news? (o:Op):Bool :=
 match o with
 | .move _|.assign _|.pick ..|.load ..|.store ..|.fieldAddr ..|.indexAddr ..|.index ..|.field ..|.binOp ..|.unOp ..|.convert ..|.makeInterface ..|.extract ..|.build ..|.makeFunc ..|.nilCheck ..|.slice ..|.lookup ..|.mapEntry ..|.entryStore ..=>false
 | .call ⟨.builtin .append,_,_⟩=>true
 | .call ⟨.builtin _,_,_⟩=>false
 | _=>true
theorem DI {o:Option Value} {v:Value} {e:bL} (h:dX o=some (v,e)):e.news=false:=by obtain ⟨_,_,rfl⟩:=pP h;rfl
theorem map_none {o:Option Value} {v:Value} {e:bL} (h:(o.map fun v=>(v,bL.none))=some (v,e)):e.news=false:=by
 simp only [Option.map_eq_some_iff] at h
 obtain ⟨_,_,q⟩:=h
 cases q;rfl
theorem hH {c:Bool} {o:Option Value} {v:Value} {e:bL} (h:(bif c then dX o else none)=some (v,e)):e.news=false:=by
 cases c with
 | true=>exact DI h
 | false=>cases h
theorem nQ {n:Nat} {o:Op} {r:Operand→Value} {v:Value} {e:bL} (h:gR T n o r g=some (v,e)) (hn:news? o=false):e.news=false:=by
 have bin:∀ {o:BinOp} {t:TypeId} {x y:Operand} {a b:Value},dz T.P o t x y a b=some (v,e)→e.news=false:=by
  intro o t x y a b h
  have slow:fC T.P o t x y a b=some (v,e)→e.news=false:=fun h=>by unfold fC at h;exact hH h
  unfold dz at h
  split at h
  ·split at h
   ·cases h;rfl
   ·exact slow h
  ·rw [cond_eq_ite] at h
   split at h
   ·unfold gU at h
    split at h
    ·cases h;rfl
    ·cases h;rfl
    ·cases h
   ·cases h
  ·rw [cond_eq_ite] at h
   split at h
   ·unfold gU at h
    split at h
    ·cases h;rfl
    ·cases h;rfl
    ·cases h
   ·cases h
  ·exact slow h
 cases o <;> first
  | (simp only [news?,Bool.true_eq_false] at hn;done)
  | skip
 case move x=>simp only [gR] at h;cases h;rfl
 case assign x=>simp only [gR] at h;cases h;rfl
 case build t parts =>
  simp only [gR] at h
  unfold pM at h
  split at h
  ·rename_i und sz by' z cq cA _
   cases hz:z.cells.toList.all aS with
   | true =>
    rw [hz] at h
    simp only [cond_true,Option.map_eq_some_iff] at h
    obtain ⟨_,_,q⟩:=h
    cases q
    rfl
   | false=>rw [hz] at h;cases h
  ·cases h
 case pick c a b =>
  simp only [gR] at h
  unfold sY at h
  split at h
  ·cases h;rfl
  ·cases h
 case load t a =>
  simp only [gR] at h
  unfold gS at h
  split at h
  ·split at h
   ·rename_i cs own es und s bytes zero agg cq cA _ _
    cases agg
    ·exact map_none h
    ·simp only [cond_true,Option.map_eq_some_iff] at h
     obtain ⟨_,_,q⟩:=h
     cases q;rfl
   ·cases h
  ·cases h
 case store t a x =>
  simp only [gR] at h
  unfold jx at h
  split at h
  ·split at h
   ·rename_i cs own es _ _ _ _ _ _ _ _ _
    revert h
    cases (own && Nat.beq (r x).cells.toList.length _ && _ && (r x).cells.toList.all bk) <;> intro h
    ·cases h
    ·cases h;rfl
   ·cases h
  ·cases h
 case fieldAddr t a i =>
  simp only [gR] at h
  unfold dN at h
  split at h
  ·split at h
   ·rename_i off s _
    cases hb:Nat.ble 1 s <;> rw [hb] at h <;> cases h
    rfl
   ·cases h
  ·cases h
 case indexAddr t a ix =>
  simp only [gR] at h
  have idx:∀ {a b c:Nat} {j:Int},oV a b c n j=some (v,e)→e.news=false:=by
   intro a b c j h
   unfold oV at h
   cases hb:(GQ 0 j && FL j (.ofNat n)) <;> rw [hb] at h <;> cases h
   rfl
  have idx:∀ {a b c d:Nat} {j:Int},oV a b c d j=some (v,e)→e.news=false:=by
   intro a b c d j h
   unfold oV at h
   cases hb:(GQ 0 j && FL j (.ofNat d)) <;> rw [hb] at h <;> cases h
   rfl
  unfold dO at h
  split at h
  ·split at h
   ·exact idx h
   ·cases h
  ·split at h
   ·exact idx h
   ·cases h
  ·cases h
 case index t a ix=>simp only [gR] at h;exact hH h
 case field t a i=>simp only [gR] at h;exact hH h
 case binOp o t x y p=>simp only [gR] at h;exact bin h
 case unOp o t x=>simp only [gR] at h;exact hH h
 case convert s d x=>simp only [gR] at h;exact hH h
 case makeInterface t x=>simp only [gR] at h;exact hH h
 case extract x i =>
  simp only [gR] at h
  unfold fI at h
  split at h
  ·exact map_none h
  ·cases h
 case lookup t m k ok=>simp only [gR] at h;exact map_none h
 case mapEntry t m k =>
  simp only [gR] at h
  unfold eJ at h
  split at h
  ·split at h
   ·unfold kY at h
    split at h
    ·split at h
     ·rename_i e _
      cases hb:Instr.sameBits 10000 e.key (r k) <;> rw [hb] at h <;> cases h
      rfl
     ·cases h
    ·rename_i z _ _
     cases hb:flat z <;> rw [hb] at h <;> cases h
     rfl
    ·cases h
   ·cases h
  ·cases h
 case entryStore t m s x =>
  simp only [gR,Option.map_eq_some_iff] at h
  obtain ⟨e',h1,h2⟩:=h
  cases h2
  unfold dc at h1
  split at h1
  ·split at h1
   ·split at h1
    ·cases h1;rfl
    ·cases h1
   ·cases h1
  ·cases h1
 case makeFunc f a b =>
  simp only [gR] at h
  unfold kZ at h
  split at h
  ·cases h;rfl
  ·cases h
 case nilCheck x =>
  simp only [gR] at h
  unfold iy at h
  split at h
  ·cases h;rfl
  ·cases h
 case slice t x lo hi mx =>
  cases mx with
  | some _ =>
   cases hi with
   | none=>simp [gR] at h
   | some _ =>
    simp only [gR] at h
    exact map_none h
  | none =>
   simp only [gR] at h
   unfold dh at h
   split at h
   ·exact hH h
   ·exact map_none h
   ·exact map_none h
 case call c =>
  obtain ⟨ce,args,tys⟩:=c
  cases ce with
  | builtin b =>
   have h:dA T n b (args.toList.map r) tys.toList g=some (v,e):=h
   unfold dA at h
   cases b <;> first|(simp [news?] at hn;done)|skip
   all_goals first|(simp at h;done)|skip
   case clear =>
    simp only at h
    split at h
    ·unfold kQ at h
     split at h
     ·split at h
      ·cases h;rfl
      ·cases h
     ·split at h
      ·rw [cond_eq_ite] at h
       split at h
       ·cases h;rfl
       ·cases h
      ·cases h
     ·cases h
    ·cases h
   case len =>
    simp only at h
    split at h
    ·unfold iw at h
     repeat' split at h
     all_goals first|(simp only [Option.some.injEq,Prod.mk.injEq] at h;obtain ⟨_,rfl⟩:=h;rfl)|(simp at h;done)
    ·simp at h
   case min =>
    simp only at h
    unfold yV at h
    split at h
    ·simp only [Option.some.injEq,Prod.mk.injEq] at h;obtain ⟨_,rfl⟩:=h;rfl
    ·exact hH h
   case max =>
    simp only at h
    unfold yW at h
    split at h
    ·simp only [Option.some.injEq,Prod.mk.injEq] at h;obtain ⟨_,rfl⟩:=h;rfl
    ·exact hH h
  | _=>simp [gR,AG] at h
end
section
variable {T : bz} {tab : List XE} {one : Bool} {fl base : Nat} {E E' E2 : Env} {hp hp' hp2 : List AB} {aE amb' : bG} {H H' H2 : Hp} {ρ ρ2 : Nat → Nat → Option Nat} {g g2 : aH} {O O2 : Nat → Prop}
structure bw where
 E:Env
 hp:List AB
 H:Hp
abbrev bw.ar (z:bw):AV→Value→Prop:=AR z.E.ρ z.H.get (z.E.O z.hp)
structure iW (base:Nat) (aE:bG) (tr:Nat→bw) (i:Nat):Prop where
 rel:∀ b,b≤i→aQ (tr b).E base (tr b).hp aE (tr b).H
 ext:∀ b c,b≤c→c≤i→Ext base (tr b).E (tr b).hp (tr b).H (tr c).E (tr c).hp (tr c).H
def snoc (tr:Nat→bw) (i:Nat) (z:bw):Nat→bw:=fun b=>if b≤i then tr b else z
theorem aU {tr:Nat→bw} {i:Nat} {z:bw} {b:Nat} (h:b≤i):snoc tr i z b=tr b:=if_pos h
theorem aY {tr:Nat→bw} {i:Nat} {z:bw} {b:Nat} (h:i < b):snoc tr i z b=z:=if_neg (by omega)
theorem iW.snoc {tr:Nat→bw} {i:Nat} {z:bw} (h:iW base aE tr i) (hz:aQ z.E base z.hp aE z.H) (he:Ext base (tr i).E (tr i).hp (tr i).H z.E z.hp z.H):iW base aE (snoc tr i z) (i+1):=by
 refine ⟨fun b hb=>?_,fun b c hbc hc=>?_⟩
 ·by_cases hbi:b≤i
  ·rw [aU hbi];exact h.rel b hbi
  ·rw [aY (by omega)];exact hz
 ·by_cases hci:c≤i
  ·rw [aU hci,aU (by omega)];exact h.ext b c hbc hci
  ·rw [aY (by omega:i < c)]
   by_cases hbi:b≤i
   ·rw [aU hbi];exact (h.ext b i hbi (Nat.le_refl _)).trans he
   ·rw [aY (by omega)];exact .refl
def dK (tr:Nat→bw) (i:Nat) (p:Acc) (k:Nat):Prop :=
 p.b≤i∧k < (tr p.b).H.n∧match p.own with
  | some j=>∃ aB,(tr i).E.ρ j aB=some k∧(p.wr=true→Own (tr i).E.ρ (tr i).hp k)
  | none=>¬ (tr p.b).E.O (tr p.b).hp k
structure JN (tr:Nat→bw) (x:gN) (t:Tc):Prop where
 idx:t.idx=x.i
 a:t.a=(tr x.i).H.n
 b:t.b=(tr (x.i+1)).H.n
 al:x.al=false→x.call=false→t.a=t.b
 call:t.call=x.call
 rd:∀ k ∈ t.rd,∃ p ∈ x.acc,p.wr=false∧dK tr x.i p k
 wr:∀ k ∈ t.wr,∃ p ∈ x.acc,p.wr=true∧dK tr x.i p k
theorem dK.snoc {tr:Nat→bw} {i i0:Nat} {z:bw} {p:Acc} {k:Nat} (h:dK tr i0 p k) (hi:i0≤i):dK (snoc tr i z) i0 p k:=by
 obtain ⟨h1,h2,h3⟩:=h
 refine ⟨h1,by rw [aU (by omega)];exact h2,?_⟩
 rw [aU hi,aU (by omega)]
 exact h3
theorem JN.snoc {tr:Nat→bw} {i:Nat} {z:bw} {x:gN} {t:Tc} (h:JN tr x t) (hi:x.i < i):JN (snoc tr i z) x t :=
 ⟨h.idx,by rw [aU (by omega)];exact h.a,by rw [aU (by omega)];exact h.b,h.al,h.call,
  fun k hk=>by obtain ⟨p,a,b,c⟩:=h.rd k hk;exact ⟨p,a,b,c.snoc (by omega)⟩,fun k hk=>by obtain ⟨p,a,b,c⟩:=h.wr k hk;exact ⟨p,a,b,c.snoc (by omega)⟩⟩
def oF (i:Nat) (p q:Acc):Bool :=
 (!p.wr && !q.wr) || (match p.own,q.own with
  | some j,some j'=>!Nat.beq j j'
  | some _,none=>p.wr && Nat.ble q.b i
  | none,some _=>!p.wr
  | none,none=>false)
def zY (x y:gN):Bool :=
 x.acc.all (fun p=>y.acc.all (oF x.i p)) && ((!x.al && !x.call) || y.acc.all (fun q=>Nat.ble q.b x.i)) && (!x.call || y.acc.all (fun q=>!q.wr)) && (!y.call || x.acc.all (fun p=>!p.wr))
def oG (b:List Nat):List gN→Bool
 | []=>true
 | y :: l=>l.all (fun x=>(b.getD y.i 0).testBit x.i || zY x y) && oG b l
theorem qa {tr:Nat→bw} {n:Nat} (ht:iW base aE tr n) {i l:Nat} (hil:i < l) (hl:l≤n) {p q:Acc} {k:Nat} (hp:dK tr i p k) (hq:dK tr l q k) (hw:p.wr=true∨q.wr=true) (hf:oF i p q=true):False:=by
 obtain ⟨p1,p2,p3⟩:=hp
 obtain ⟨q1,q2,q3⟩:=hq
 have eil:=ht.ext i l (by omega) hl
 have back:∀ {b c:Nat},b≤c→c≤n→Own (tr c).E.ρ (tr c).hp k→k < (tr b).H.n→Own (tr b).E.ρ (tr b).hp k:=fun hbc hcn ho hk=>((ht.ext _ _ hbc hcn).own k ho).elim id (fun h=>by omega)
 unfold oF at hf
 rw [Bool.or_eq_true] at hf
 rcases hf with hf|hf
 ·simp only [Bool.and_eq_true,Bool.not_eq_true'] at hf
  rcases hw with h|h
  ·rw [hf.1] at h;cases h
  ·rw [hf.2] at h;cases h
 ·cases hpo:p.own with
  | some j =>
   rw [hpo] at hf p3
   obtain ⟨aB,r1,r2⟩:=p3
   cases hqo:q.own with
   | some j' =>
    rw [hqo] at hf q3
    obtain ⟨ver',s1,s2⟩:=q3
    have:=(ht.rel l hl).inj j j' aB ver' k (eil.AF _ _ _ r1) s1
    subst this
    simp only [mw,Bool.not_true] at hf
    cases hf
   | none =>
    rw [hqo] at hf q3
    simp only [Bool.and_eq_true] at hf
    have hb:=Nat.le_of_ble_eq_true hf.2
    exact q3 (.inl (back hb (by omega) (r2 hf.1) q2))
  | none =>
   rw [hpo] at hf p3
   cases hqo:q.own with
   | some j' =>
    rw [hqo] at hf q3
    simp only [Bool.not_eq_true'] at hf
    obtain ⟨ver',s1,s2⟩:=q3
    have hqw:q.wr=true:=by
     rcases hw with h|h
     ·rw [hf] at h;cases h
     ·exact h
    exact p3 (.inl (back (by omega) hl (s2 hqw) p2))
   | none=>rw [hqo] at hf;cases hf
theorem Gb {tr:Nat→bw} {n:Nat} (ht:iW base aE tr n) {x y:gN} {s t:Tc} (hs:JN tr x s) (hy:JN tr y t) (hxy:x.i < y.i) (hn:y.i≤n) (hf:zY x y=true):conflict s t=false:=by
 cases hc:conflict s t with
 | false=>rfl
 | true =>
  exfalso
  unfold zY at hf
  simp only [Bool.and_eq_true,List.all_eq_true,Bool.or_eq_true,Bool.not_eq_true'] at hf
  obtain ⟨⟨⟨f1,f2⟩,f3⟩,f4⟩:=hf
  have two:∀ {k:Nat} {p q:Acc},p ∈ x.acc→q ∈ y.acc→dK tr x.i p k→dK tr y.i q k→(p.wr=true∨q.wr=true)→False:=fun hp hq ap aq hw=>qa ht hxy hn ap aq hw (f1 _ hp _ hq)
  have inn:∀ {k:Nat} {q:Acc},q ∈ y.acc→dK tr y.i q k→s.a≤k→k < s.b→False:=by
   intro k q hq aq h1 h2
   rcases f2 with h|h
   ·have:=hs.al h.1 h.2;omega
   ·have:=Nat.le_of_ble_eq_true (h q hq)
    have:=(ht.ext q.b x.i this (by omega)).n
    have:=aq.2.1
    rw [hs.a] at h1
    omega
  have out:∀ {k:Nat} {p:Acc},dK tr x.i p k→t.a≤k→False:=by
   intro k p ap h1
   have:=(ht.ext p.b x.i ap.1 (by omega)).n
   have:=(ht.ext x.i y.i (by omega) hn).n
   have:=ap.2.1
   rw [hy.a] at h1
   omega
  unfold conflict at hc
  simp only [Bool.or_eq_true,Bool.and_eq_true,Bool.not_eq_true'] at hc
  rcases hc with (((((((hc|hc)|hc)|hc)|hc)|hc)|hc)|hc)|hc
  ·obtain ⟨k,k1,k2⟩:=dZ.1 hc
   obtain ⟨p,p1,p2,p3⟩:=hs.wr k k1
   obtain ⟨q,q1,q2,q3⟩:=hy.rd k k2
   exact two p1 q1 p3 q3 (.inl p2)
  ·obtain ⟨k,k1,k2⟩:=dZ.1 hc
   obtain ⟨p,p1,p2,p3⟩:=hs.wr k k1
   obtain ⟨q,q1,q2,q3⟩:=hy.wr k k2
   exact two p1 q1 p3 q3 (.inl p2)
  ·obtain ⟨k,k1,k2⟩:=dZ.1 hc
   obtain ⟨q,q1,q2,q3⟩:=hy.wr k k1
   obtain ⟨p,p1,p2,p3⟩:=hs.rd k k2
   exact two p1 q1 p3 q3 (.inr q2)
  ·rw [hs.call] at hc
   cases hw:t.wr with
   | nil=>rw [hw] at hc;simp at hc
   | cons k l =>
    obtain ⟨q,q1,q2,q3⟩:=hy.wr k (by rw [hw];simp)
    rcases f3 with h|h
    ·rw [hc.1] at h;cases h
    ·rw [h q q1] at q2;cases q2
  ·rw [hy.call] at hc
   cases hw:s.wr with
   | nil=>rw [hw] at hc;simp at hc
   | cons k l =>
    obtain ⟨p,p1,p2,p3⟩:=hs.wr k (by rw [hw];simp)
    rcases f4 with h|h
    ·rw [hc.1] at h;cases h
    ·rw [h p p1] at p2;cases p2
  ·obtain ⟨k,k1,k2,k3⟩:=within_iff.1 hc
   obtain ⟨q,q1,q2,q3⟩:=hy.rd k k1
   exact inn q1 q3 k2 k3
  ·obtain ⟨k,k1,k2,k3⟩:=within_iff.1 hc
   obtain ⟨q,q1,q2,q3⟩:=hy.wr k k1
   exact inn q1 q3 k2 k3
  ·obtain ⟨k,k1,k2,k3⟩:=within_iff.1 hc
   obtain ⟨p,p1,p2,p3⟩:=hs.rd k k1
   exact out p3 k2
  ·obtain ⟨k,k1,k2,k3⟩:=within_iff.1 hc
   obtain ⟨p,p1,p2,p3⟩:=hs.wr k k1
   exact out p3 k2
inductive oW (tr:Nat→bw):Nat→List gN→List Ev→Prop
 | nil:oW tr 0 [] []
 | cons {i:Nat} {x:gN} {ev:Ev} {l:List gN} {m:List Ev}:oW tr i l m→x.i=i→JN tr x ev.t→oW tr (i+1) (x :: l) (ev :: m)
theorem oW.lt {tr:Nat→bw} {i:Nat} {l:List gN} {m:List Ev} (h:oW tr i l m):∀ x ∈ l,x.i < i:=by
 induction h with
 | nil=>intro x hx;cases hx
 | cons _ hi _ ih =>
  intro y hy
  rcases List.mem_cons.1 hy with rfl|hy
  ·omega
  ·have:=ih y hy;omega
theorem oW.snoc {tr:Nat→bw} {i:Nat} {z:bw} {l:List gN} {m:List Ev}:∀ {j:Nat},oW tr j l m→j≤i→oW (snoc tr i z) j l m:=by
 intro j h
 induction h with
 | nil=>intro _;exact .nil
 | cons _ hi he ih=>intro hj;exact .cons (ih (by omega)) hi (he.snoc (by omega))
theorem oW.pairs {tr:Nat→bw} {n:Nat} (ht:iW base aE tr n) {b:List Nat} {i:Nat} {l:List gN} {m:List Ev} (h:oW tr i l m):i≤n→oG b l=true→bY T b m=true:=by
 induction h with
 | nil=>intro _ _;rfl
 | cons hl hi he ih =>
  rename_i i y ev l m
  intro hn hc
  simp only [oG,Bool.and_eq_true,List.all_eq_true] at hc
  simp only [bY,Bool.and_eq_true,List.all_eq_true]
  refine ⟨?_,ih (by omega) hc.2⟩
  have hc1:=hc.1
  clear ih hc
  have key:∀ {j:Nat} {l:List gN} {m:List Ev},oW tr j l m→(∀ x ∈ l,(b.getD y.i 0).testBit x.i=true∨zY x y=true)→j≤y.i→∀ s ∈ m,(!conflict s.t ev.t || (b.getD ev.t.idx 0).testBit s.t.idx || spare T s ev)=true:=by
   intro j l m h
   induction h with
   | nil=>intro _ _ s hs;cases hs
   | cons hl' hi' he' ih' =>
    rename_i x ev' _ _
    intro hx hj s hs
    rcases List.mem_cons.1 hs with rfl|hs
    ·rcases hx x (by simp) with h|h
     ·rw [he.idx,he'.idx,h];simp
     ·rw [Gb ht he' he (by omega) (by omega) h];simp
    ·exact ih' (fun z hz=>hx z (List.mem_cons_of_mem _ hz)) (by omega) s hs
  exact key hl (fun x hx=>by simpa using hc1 x hx) (by omega)
def gC (dst:Option Tmp) (bt:Nat→Nat) (b:Nat):Nat→Nat :=
 match dst with
 | some d=>fun t=>bif Nat.beq t d then b else bt t
 | none=>bt
def oX (bt:Nat→Nat):Operand→Nat
 | .tmp t=>bt t
 | _=>0
def kC (o:Op) (fr:Nat→AV) (bt:Nat→Nat) (i:Nat):Nat :=
 match yh o fr with
 | some [x]=>oX bt x
 | _=>i+1
def fA (v:AV):Prop:=v.deep=true∧∀ (g:aH) (O O':Nat→Prop) (u:Value),DR g O v u→DR g O' v u
def Handed (hp:List AB) (as vs:List AV) (v:AV):Prop:=(vs=as∧cJ as=true)∨(nk hp as vs∧fA v)
def eC (T:bz) (tab:List XE) (mu:Tmp→Bool) (dst:Option Tmp) (op:Op) (i:Nat) (bt:Nat→Nat) (fr:Nat→AV) (hp:List AB) (K:(Nat→AV)→List AB→(Nat→Nat)→gN→Prop):Prop :=
 match cG op with
 | .call f args=>force (NB T.P fr f) fun F=>fj (args.map (aN fr)) fun as=>F.deep=true∧∃ vs v,Handed hp as vs v∧ah T tab true F vs v∧fk dst fr v fun fr'=>K fr' hp (gC dst bt (i+1)) ⟨i,[],true,true⟩
 | .next _=>False
 | .plain=>∃ a,DH op fr (oX bt)=some a∧wpOp T (Ll mu dst) op fr hp fun v hp'=>force v fun v=>fk dst fr v fun fr'=>K fr' hp' (gC dst bt (kC op fr bt i)) ⟨i,a,news? op,false⟩
def jc (T:bz) (tab:List XE) (mu:Tmp→Bool) (ops:Array Oper):List Oper→Nat→(Nat→Nat)→List gN→bK→(bK→Prop)→Prop
 | [],_,_,acc,st,K=>oG (ql ops) acc=true∧K st
 | ⟨dst,op,_,_,_,gd⟩ :: l,i,bt,acc,⟨fr,hp,aE,rd,fl⟩,K =>
  cK ops.toList gd fr (eC T tab mu dst op i bt fr hp fun fr' hp' bt' x=>jc T tab mu ops l (i+1) bt' (x :: acc) ⟨fr',hp',aE,rd,fl⟩ K)
   (fk dst fr (.tp []) fun fr'=>jc T tab mu ops l (i+1) (gC dst bt 0) (⟨i,[],false,false⟩ :: acc) ⟨fr',hp,aE,rd,fl⟩ K)
def cL (tr:Nat→bw) (i:Nat) (bt:Nat→Nat) (fr:Nat→AV) (tm:Tr Value):Prop:=∀ t,bt t≤i∧(tr (bt t)).ar (fr t) ((tm.get t).getD undef)
theorem cL.put {tr:Nat→bw} {i:Nat} {bt:Nat→Nat} {fr:Nat→AV} {tm:Tr Value} {z:bw} (h:cL tr i bt fr tm) {b:Nat} {v:AV} {u:Value} (hb:b≤i+1) (hv:(snoc tr i z b).ar v u) (d:Option Tmp):cL (snoc tr i z) (i+1) (gC d bt b) (mA fr d v) (cu tm d u):=by
 intro t
 have old:bt t≤i+1∧(snoc tr i z (bt t)).ar (fr t) ((tm.get t).getD undef):=⟨by have:=(h t).1;omega,by rw [aU (h t).1];exact (h t).2⟩
 cases d with
 | none=>exact old
 | some d =>
  show (bif Nat.beq t d then b else bt t)≤_∧(snoc tr i z (bif Nat.beq t d then b else bt t)).ar (bif Nat.beq t d then v else fr t) (((tm.set d u).get t).getD undef)
  rw [Tr.eE,Tr.beq_eq]
  by_cases htd:t=d
  ·rw [if_pos htd,decide_eq_true htd];exact ⟨hb,hv⟩
  ·rw [if_neg htd,decide_eq_false htd];exact old
theorem cL.eval {tr:Nat→bw} {i:Nat} {bt:Nat→Nat} {fr:Nat→AV} {tm:Tr Value} (h:cL tr i bt fr tm) (x:Operand):oX bt x≤i∧(tr (oX bt x)).ar (aN fr x) (aG tm x):=by
 cases x with
 | tmp t=>exact h t
 | const v =>
  refine ⟨Nat.zero_le _,?_⟩
  show (tr 0).ar (bif flat v then qO v else .bM) v
  cases hf:flat v with
  | true=>exact kr hf
  | false=>exact .bM
 | func f=>exact ⟨Nat.zero_le _,.fn rfl rfl (fun i x u hx=>by cases hx) (fun i x u hx=>by cases hx)⟩
 | global g=>exact ⟨Nat.zero_le _,.bM⟩
theorem ri {tr:Nat→bw} {i:Nat} (ht:iW base aE tr i) {v:AV} {u:Value} {b:Nat} {wr:Bool} {l:List Acc} (h:qZ v b wr=some l) (hb:b≤i) (hv:(tr b).ar v u) (hi:(tr i).ar v u)
  (hw:wr=true→∀ j aB o,(v=.ptr j aB o∨∃ n c,v=.bI j aB o n c)→∃ cs es,(tr i).hp[j]?=some (.cells cs es aB)) (hom:wr=true→∀ j,v=.om j→∃ b,(tr i).hp[j]?=some b∧b.ver?=some 0) :
  ∀ k ∈ ct u,∃ p ∈ l,p.wr=wr∧dK tr i p k:=by
 have deepk:∀ {k:Nat} {x:bg},(tr b).H.get k=some x→¬ (tr b).E.O (tr b).hp k→dK tr i ⟨none,b,wr⟩ k:=fun h1 h2=>⟨hb,(ht.rel b hb).wf.lt h1,h2⟩
 have ownk:∀ {j aB k:Nat},(tr b).E.ρ j aB=some k→(wr=true→∃ b,(tr i).hp[j]?=some b∧b.ver?=some aB)→dK tr i ⟨some j,b,wr⟩ k:=by
  intro j aB k h1 h2
  have h3:=(ht.ext b i hb (Nat.le_refl _)).AF _ _ _ h1
  refine ⟨hb,(ht.rel b hb).rn _ _ _ h1,aB,h3,fun hwr=>?_⟩
  obtain ⟨x,hc,hx⟩:=h2 hwr
  exact ⟨j,x,aB,hc,hx,h3⟩
 intro k hk
 unfold qZ at h
 split at h
 ·cases h
  obtain ⟨k',d,cs,own,e,rfl,q1,q2,_⟩:=hv.cD.cD
  obtain rfl:k=k':=by simpa [ct] using hk
  exact ⟨_,by simp,rfl,deepk q1 q2⟩
 ·cases h
  cases hv.iF with
  | nil=>simp [ct] at hk
  | sl q1 q2 =>
   rename_i k' o' n' c' es' cs' own' e' _ _ _ _ _
   obtain rfl:k=k':=by simpa [ct] using hk
   exact ⟨_,by simp,rfl,deepk q1 q2⟩
 ·rename_i j aB o
  cases h
  obtain ⟨k',hk',rfl⟩:=hv.cW
  obtain rfl:k=k':=by simpa [ct] using hk
  exact ⟨_,by simp,rfl,ownk hk' fun hwr=>(let ⟨_,_,h⟩:=hw hwr j aB o (.inl rfl);⟨_,h,rfl⟩)⟩
 ·rename_i j aB o n c
  cases h
  rcases hv.eH with ⟨k',hk',rfl⟩|⟨_,_,rfl⟩
  ·obtain rfl:k=k':=by simpa [ct] using hk
   exact ⟨_,by simp,rfl,ownk hk' fun hwr=>(let ⟨_,_,h⟩:=hw hwr j aB o (.inr ⟨n,c,rfl⟩);⟨_,h,rfl⟩)⟩
  ·simp [ct] at hk
 ·rename_i j
  cases h
  obtain ⟨k',hk',rfl⟩:=hv.mq
  obtain rfl:k=k':=by simpa [ct] using hk
  exact ⟨_,by simp,rfl,ownk hk' fun hwr=>hom hwr j rfl⟩
 ·exfalso
  obtain ⟨rfl,hf⟩:=hv.dL
  revert hk
  unfold ct
  split
  ·simp [aS] at hf
  ·simp [aS] at hf
  ·simp [aS] at hf
  ·simp
 ·exfalso
  cases hv with
  | d h=>cases h with
   | ag=>simp [ct] at hk
  | ag=>simp [ct] at hk
 ·exfalso
  obtain ⟨us,rfl,_⟩:=hv.sB
  simp [ct] at hk
 ·exfalso
  cases hv with
  | d h=>cases h with
   | fn=>simp [ct] at hk
  | fn=>simp [ct] at hk
 ·cases h
theorem oH {e:bL} (h:e.news=false):(H.app e).n=H.n:=by cases e <;> first|rfl|cases h
theorem DJ {t:TypeId} {a x:AV} {K:AV→List AB→Prop} (hw:cR T t a x hp K) {j aB o:Nat} (h:a=.ptr j aB o∨∃ n c,a=.bI j aB o n c):∃ cs es,hp[j]?=some (.cells cs es aB):=by
 unfold cR at hw
 split at hw
 ·obtain ⟨cs,es,h1,_⟩:=hw
  rcases h with h|⟨n,c,h⟩
  ·cases h;exact ⟨cs,es,h1⟩
  ·cases h
 ·exact hw.elim
theorem JO {own:Bool} {t:TypeId} {a x:AV} {K:AV→List AB→Prop} (hw:fP T own t a x hp K) {j aB o:Nat} (h:a=.ptr j aB o∨∃ n c,a=.bI j aB o n c):∃ cs es,hp[j]?=some (.cells cs es aB):=by
 unfold fP at hw
 split at hw
 ·obtain ⟨_,els,_,_,hw⟩:=hw
  split at hw
  ·rcases h with h|⟨n,c,h⟩ <;> cases h
  ·rcases h with h|⟨n,c,h⟩ <;> cases h
  ·obtain ⟨cs,h1,_⟩:=hw
   rcases h with h|⟨n,c,h⟩
   ·cases h
   ·cases h;exact ⟨cs,_,h1⟩
  ·exact hw.elim
 ·exact hw.elim
theorem JP {t:TypeId} {a x:AV} {K:AV→List AB→Prop} (hw:cR T t a x hp K) (j:Nat):a ≠ .om j:=fun h=>by
 subst h
 unfold cR at hw
 exact hw.elim
theorem O7 {own:Bool} {t:TypeId} {a x:AV} {K:AV→List AB→Prop} (hw:fP T own t a x hp K) (j:Nat):a ≠ .om j:=fun h=>by
 subst h
 unfold fP at hw
 split at hw
 ·obtain ⟨_,els,_,_,hw⟩:=hw
  exact hw.elim
 ·exact hw.elim
theorem DK {t:TypeId} {m k:AV} {K:AV→List AB→Prop} (hw:fO T t m k hp K) {j:Nat} (h:m=.om j):∃ b,hp[j]?=some b∧b.ver?=some 0:=by
 subst h
 obtain ⟨aI,clock,_,_,_,_,_,h1,_⟩:=hw
 exact ⟨_,h1,rfl⟩
theorem Gc {t:TypeId} {m k:AV} {K:AV→List AB→Prop} (hw:fO T t m k hp K) {j aB o:Nat} (h:m=.ptr j aB o∨∃ n c,m=.bI j aB o n c):False:=by
 rcases h with rfl|⟨n,c,rfl⟩ <;> exact hw
theorem B2 {m s v:AV} {K:AV→List AB→Prop} (hw:ew m s v hp K) {j:Nat} (h:m=.om j):∃ b,hp[j]?=some b∧b.ver?=some 0:=by
 subst h
 obtain ⟨aI,clock,_,_,_,h1,_⟩:=hw
 exact ⟨_,h1,rfl⟩
theorem DL {m s v:AV} {K:AV→List AB→Prop} (hw:ew m s v hp K) {j aB o:Nat} (h:m=.ptr j aB o∨∃ n c,m=.bI j aB o n c):False:=by
 rcases h with rfl|⟨n,c,rfl⟩ <;> exact hw
theorem rj {tr:Nat→bw} {i:Nat} (ht:iW base aE tr i) {bt:Nat→Nat} {fr:Nat→AV} {tm:Tr Value} (hb:cL tr i bt fr tm) {own:Bool} {o:Op} {l:List Acc} (h:DH o fr (oX bt)=some l)
  {K:AV→List AB→Prop} (hw:wpOp T own o fr (tr i).hp K):∃ r w,gV o (aG tm)=some (r,w)∧(∀ k ∈ r,∃ p ∈ l,p.wr=false∧dK tr i p k)∧(∀ k ∈ w,∃ p ∈ l,p.wr=true∧dK tr i p k):=by
 have now:∀ x,(tr i).ar (aN fr x) (aG tm x):=fun x=>(ht.ext _ i (hb.eval x).1 (Nat.le_refl _)).ar (ht.rel _ (hb.eval x).1).wf (hb.eval x).2
 have rd:∀ {x:Operand} {l:List Acc},qZ (aN fr x) (oX bt x) false=some l→∀ k ∈ ct (aG tm x),∃ p ∈ l,p.wr=false∧dK tr i p k :=
  fun {x l} h=>ri ht h (hb.eval x).1 (hb.eval x).2 (now x) (fun h=>Bool.noConfusion h) (fun h=>Bool.noConfusion h)
 have nil:∀ (Q:Nat→Prop),∀ k ∈ ([]:List Nat),Q k:=fun Q k hk=>by cases hk
 unfold DH at h
 split at h
 ·exact ⟨_,_,rfl,rd h,nil _⟩
 ·rename_i t a x
  exact ⟨_,_,rfl,nil _,ri ht h (hb.eval a).1 (hb.eval a).2 (now a) (fun _ j aB o hj=>DJ (show cR T t (aN fr a) (aN fr x) (tr i).hp K from bu (K:=fun v=>cR T t (aN fr a) v (tr i).hp K) hw) hj) (fun _ j he=>absurd he (JP (show cR T t (aN fr a) (aN fr x) (tr i).hp K from bu (K:=fun v=>cR T t (aN fr a) v (tr i).hp K) hw) j))⟩
 ·rename_i args tys
  split at h
  ·rename_i s x hargs
   split at h
   ·rename_i l1 l2 h1 h2
    cases h
    have hw:gh T own .append (args.toList.map (aN fr)) tys.toList (tr i).hp K:=eT hw
    rw [hargs] at hw
    have happ:∃ t,fP T own t (aN fr s) (aN fr x) (tr i).hp K:=by
     unfold gh at hw
     simp only [List.map_cons,List.map_nil] at hw
     split at hw
     ·rename_i s' x' t u hsx _
      cases hsx
      split at hw
      ·exact ⟨_,hw⟩
      ·exact hw.elim
     ·exact hw.elim
    obtain ⟨t,happ⟩:=happ
    refine ⟨ct (aG tm x),ct (aG tm s),by simp [gV,hargs],fun k hk=>?_,fun k hk=>?_⟩
    ·obtain ⟨p,a,b⟩:=rd h1 k hk
     exact ⟨p,List.mem_append_left _ a,b⟩
    ·obtain ⟨p,a,b⟩:=ri ht h2 (hb.eval s).1 (hb.eval s).2 (now s) (fun _ j aB o hj=>JO happ hj) (fun _ j he=>absurd he (O7 happ j)) k hk
     exact ⟨p,List.mem_append_right _ a,b⟩
   ·cases h
  ·cases h
 ·rename_i args tys
  split at h
  ·rename_i x hargs
   exact ⟨ct (aG tm x),[],by simp [gV,hargs],rd h,nil _⟩
  ·cases h
 ·exact ⟨_,_,rfl,rd h,nil _⟩
 ·rename_i t m k
  exact ⟨_,_,rfl,nil _,ri ht h (hb.eval m).1 (hb.eval m).2 (now m) (fun _ j aB o hj=>(Gc (show fO T t (aN fr m) (aN fr k) (tr i).hp K from hw) hj).elim) (fun _ j hj=>DK (show fO T t (aN fr m) (aN fr k) (tr i).hp K from hw) hj)⟩
 ·rename_i t m a x
  exact ⟨_,_,rfl,nil _,ri ht h (hb.eval m).1 (hb.eval m).2 (now m) (fun _ j aB o hj=>(DL (show ew (aN fr m) (aN fr a) (aN fr x) (tr i).hp K from hw) hj).elim) (fun _ j hj=>B2 (show ew (aN fr m) (aN fr a) (aN fr x) (tr i).hp K from hw) hj)⟩
 ·cases h
 ·cases h
 ·cases h
 ·cases h
 ·cases h
 ·rename_i n1 n2 n3 n4 n5 n6 n7 n8 n9 n10 n11 n12
  cases h
  refine ⟨[],[],?_,nil _,nil _⟩
  unfold gV
  split <;> first
   | rfl
   | exact absurd rfl (n1 _ _)|exact absurd rfl (n2 _ _ _)|exact absurd rfl (n3 _ _)|exact absurd rfl (n4 _ _)
   | exact absurd rfl (n5 _ _ _ _)|exact absurd rfl (n6 _ _ _)|exact absurd rfl (n7 _ _ _ _)|exact absurd rfl (n8 _ _)|exact absurd rfl (n9 _ _)|exact absurd rfl (n10 _)|exact absurd rfl (n11 _ _ _ _)|exact absurd rfl (n12 _ _)
theorem aQ.grow (hr:aQ E base hp aE H) (hn:H.n≤H'.n) (hwf:Wf H') (hsame:∀ k,k < H.n→H'.get k=H.get k) (hlo:min H.lo base≤H'.lo):aQ E base hp aE H'∧Ext base E hp H E hp H':=by
 have e:Ext base E hp H E hp H':=⟨hn,rfl,rfl,rfl,fun _ _ _ h=>h,fun _ h=>.inl h,fun k hk _=>hsame k hk,hlo⟩
 refine ⟨⟨hwf,fun j x aB hj hvx=>?_,hr.inj,fun j v k hk=>Nat.lt_of_lt_of_le (hr.rn j v k hk) hn,hr.fresh,hr.new,hr.sup,hr.gZ,hr.dx,hr.ds,fun k hk=>Nat.lt_of_lt_of_le (hr.sn k hk) hn,fun k hk=>Nat.lt_of_lt_of_le (hr.xn k hk) hn,hr.nJ,Nat.le_trans hr.bn hn,aE.st hr.aE (fun k hk=>hsame k (hr.sn k hk)) hn⟩,e⟩
 rcases hr.fU j x aB hj hvx with ⟨k,b',q1,q2,q3⟩|q
 ·exact .inl ⟨k,b',q1,by rw [hsame k (hr.wf.lt q2)];exact q2,e.br hr.wf q3⟩
 ·exact .inr q
theorem mD {mu:Tmp→Bool} {ops:Array Oper}:∀ {l:List Oper} {i:Nat} {bt:Nat→Nat} {acc:List gN} {evs:List Ev} {st:bK} {K:bK→Prop} {tr:Nat→bw} {s:St},jc T tab mu ops l i bt acc st K →
  iW base st.aE tr i→(tr i).hp=st.hp→(tr i).H=s.hp→s.rd=st.rd→cL tr i bt st.fr s.fr→oW tr i acc evs →
  ∃ m s',bh T (RX T tab m) ops l i s evs=some [s']∧∃ E' st',K st'∧st'.fl=st.fl∧mC E' base st' s'∧Ext base (tr 0).E (tr 0).hp (tr 0).H E' st'.hp s'.hp
 | [],i,bt,acc,evs,st,K,tr,s,h,ht,h1,h2,h3,hb,he=>by
  obtain ⟨hc,hk⟩:=h
  have hrel:=ht.rel i (Nat.le_refl _)
  have hok:cC T ops evs=true:=by
   unfold cC
   cases hq:(evs.all fun e=>e.t.wr.isEmpty && Nat.beq e.t.a e.t.b) with
   | true=>rfl
   | false=>exact he.pairs ht (Nat.le_refl _) hc
  refine ⟨0,s,by rw [cV,hok];rfl,(tr i).E,st,hk,rfl,⟨by rw [←h1,←h2];exact hrel,h3,fun t=>?_⟩,by rw [←h1,←h2];exact ht.ext 0 i (Nat.zero_le _) (Nat.le_refl _)⟩
  have:=(ht.ext _ i (hb t).1 (Nat.le_refl _)).ar (ht.rel _ (hb t).1).wf (hb t).2
  rw [←h1,←h2]
  exact this
 | o :: l,i,bt,acc,evs,st,K,tr,s,h,ht,h1,h2,h3,hb,he=>by
  have h:cK ops.toList o.guard st.fr (eC T tab mu o.dst o.op i bt st.fr st.hp fun fr' hp' bt' x=>jc T tab mu ops l (i+1) bt' (x :: acc) ⟨fr',hp',st.aE,st.rd,st.fl⟩ K)
   (fk o.dst st.fr (.tp []) fun fr'=>jc T tab mu ops l (i+1) (gC o.dst bt 0) (⟨i,[],false,false⟩ :: acc) ⟨fr',st.hp,st.aE,st.rd,st.fl⟩ K):=h
  have hrel:=ht.rel i (Nat.le_refl _)
  have hfr:hG (tr i).E.ρ (tr i).H.get ((tr i).E.O (tr i).hp) st.fr s.fr:=fun t=>(ht.ext _ i (hb t).1 (Nat.le_refl _)).ar (ht.rel _ (hb t).1).wf (hb t).2
  have hz0:(snoc tr i (tr i) 0)=tr 0:=aU (Nat.zero_le _)
  rcases nO hfr h with ⟨hg,h⟩|⟨hg,h⟩
  ·
   have go:∀ (z:bw) (v:AV) (u:Value) (b:Nat) (x:gN) (t:Tc) (m0:Nat),aQ z.E base z.hp st.aE z.H→Ext base (tr i).E (tr i).hp (tr i).H z.E z.hp z.H→b≤i+1→(snoc tr i z b).ar v u→x.i=i→JN (snoc tr i z) x t →
     (∀ m,m0≤m→aW T (RX T tab m) o.op i s=some (u,z.H,t))→jc T tab mu ops l (i+1) (gC o.dst bt b) (x :: acc) ⟨mA st.fr o.dst v,z.hp,st.aE,st.rd,st.fl⟩ K →
     ∃ m s',bh T (RX T tab m) ops (o :: l) i s evs=some [s']∧∃ E' st',K st'∧st'.fl=st.fl∧mC E' base st' s'∧Ext base (tr 0).E (tr 0).hp (tr 0).H E' st'.hp s'.hp:=by
    intro z v u b x t m0 hz he' hbi hv hxi hx hd hw
    obtain ⟨m,s',r1,r2⟩:=mD (s:=⟨cu s.fr o.dst u,z.H,s.rd⟩) (evs:=⟨o,s,u,z.H,t⟩ :: evs) hw (ht.snoc hz he') (by rw [aY (Nat.lt_succ_self _)]) (by rw [aY (Nat.lt_succ_self _)]) h3 (hb.put hbi hv o.dst) (.cons (he.snoc (Nat.le_refl _)) hxi hx)
    rw [aU (Nat.zero_le _)] at r2
    refine ⟨max m0 m,s',?_,r2⟩
    rw [aJ,hg]
    simp only [cond_true,hd _ (Nat.le_max_left _ _)]
    exact fL (dm (Nat.le_max_right _ _)) _ _ _ _ _ _ r1
   unfold eC at h
   split at h
   ·rename_i f args hk
    have h:=eT (bu h)
    obtain ⟨hF,vs,v,hhand,⟨hvd,hpure⟩,h⟩:=h
    have hF':=(pY hfr f).deep hF
    have hget:({s.hp with lo:=s.hp.n}:Hp).get=(tr i).H.get:=by rw [h2];rfl
    obtain ⟨goal,hgo,m0,L,q1,q2,q3⟩:∃ goal,cF (jd T.P s.fr f) (args.map (aG s.fr))=some goal ∧
      ∃ m L,RX T tab m (gI {s.hp with lo:=s.hp.n} goal)=some L∧(true=true→∃ r,L=[r])∧∀ r ∈ L,∃ w H',r=.ret w H' ∧
       ({s.hp with lo:=s.hp.n}:Hp).n≤H'.n∧Wf H'∧(∀ k,k < ({s.hp with lo:=s.hp.n}:Hp).n→H'.get k=({s.hp with lo:=s.hp.n}:Hp).get k)∧min ({s.hp with lo:=s.hp.n}:Hp).lo ({s.hp with lo:=s.hp.n}:Hp).n≤H'.lo∧DR H'.get ((tr i).E.O (tr i).hp) v w:=by
     rcases hhand with ⟨rfl,hA⟩|⟨hz,hfree⟩
     ·have hA':=(dF hfr args).deep hA
      exact hpure ((tr i).E.O (tr i).hp) {s.hp with lo:=s.hp.n} _ _ (by rw [h2] at hrel;exact hrel.wf) (fun k hk=>by
       have:k < (tr i).H.n:=hk.elim (fun h=>hrel.iV h) (hrel.xn k)
       rw [h2] at this;exact this) (by rw [hget];exact hF') (by rw [hget];exact hA')
     ·obtain ⟨goal,hgo,m0,L,q1,q2,q3⟩:=hpure (tr i).E.X {s.hp with lo:=s.hp.n} _ _ (by rw [h2] at hrel;exact hrel.wf) (fun k hk=>by
       have:k < (tr i).H.n:=hrel.xn k hk
       rw [h2] at this;exact this) (by rw [hget];exact hF'.mono fun k b hk ho=>⟨hk,fun hx=>ho (.inr hx)⟩) (by
        rw [hget]
        rw [←h1] at hz
        exact hz.dr hrel (fun _ h=>h) (dF hfr args))
      refine ⟨goal,hgo,m0,L,q1,q2,fun r hm=>?_⟩
      obtain ⟨w,H',e1,e2,e3,e4,e5,e6⟩:=q3 r hm
      exact ⟨w,H',e1,e2,e3,e4,e5,hfree.2 _ _ _ _ e6⟩
    obtain ⟨r,hr⟩:=q2 rfl
    subst hr
    obtain ⟨w,H',rfl,hn,hwf,hsame,hlo,hdr⟩:=q3 r (by simp)
    obtain ⟨g1,g2⟩:=hrel.grow (H':={H' with lo:=s.hp.lo}) (by rw [h2];exact hn) hwf (fun k hk=>by
     have:=hsame k (by rw [←h2];exact hk)
     rw [h2];exact this) (by rw [h2];exact Nat.min_le_left _ _)
    refine go ⟨(tr i).E,st.hp,{H' with lo:=s.hp.lo}⟩ v w (i+1) ⟨i,[],true,true⟩ ⟨i,[],[],true,s.hp.n,H'.n⟩ m0 (by rw [←h1];exact g1) (by rw [←h1];exact g2) (Nat.le_refl _) ?_ rfl ?_ (fun m hm=>?_) (cm h)
    ·rw [aY (Nat.lt_succ_self _)]
     refine .d ?_
     show DR H'.get ((tr i).E.O st.hp) v w
     rw [←h1];exact hdr
    ·refine ⟨rfl,by rw [aU (Nat.le_refl _),h2],by rw [aY (Nat.lt_succ_self _)],fun h=>Bool.noConfusion h,rfl,fun k hk=>(by cases hk),fun k hk=>(by cases hk)⟩
    ·unfold aW
     simp only [hk,hgo,dm hm _ _ q1]
     have:Nat.ble s.hp.n H'.lo=true:=Nat.ble_eq_true_of_le (by
      have:min s.hp.n s.hp.n≤H'.lo:=hlo
      omega)
     rw [k9 this]
   ·exact h.elim
   ·rename_i hk
    obtain ⟨a,hacc,hw⟩:=h
    have hw':=hw
    rw [←h1] at hw'
    obtain ⟨r,w,ht1,ht2,ht3⟩:=rj ht hb hacc hw'
    have evr:∀ (z:bw) (u:Value) (e:bL),gR T s.hp.n o.op (aG s.fr) s.hp.get=some (u,e)→z.H=s.hp.app e→JN (snoc tr i z) ⟨i,a,news? o.op,false⟩ ⟨i,r,w,false,s.hp.n,(s.hp.app e).n⟩:=by
     intro z u e hop hz
     refine ⟨rfl,by rw [aU (Nat.le_refl _),h2],by rw [aY (Nat.lt_succ_self _),hz],fun hal _=>(oH (nQ hop hal)).symm,rfl,fun k hk=>?_,fun k hk=>?_⟩
     ·obtain ⟨p,p1,p2,p3⟩:=ht2 k hk;exact ⟨p,p1,p2,p3.snoc (Nat.le_refl _)⟩
     ·obtain ⟨p,p1,p2,p3⟩:=ht3 k hk;exact ⟨p,p1,p2,p3.snoc (Nat.le_refl _)⟩
    have drw:∀ (u:Value) (e:bL) (m:Nat),gR T s.hp.n o.op (aG s.fr) s.hp.get=some (u,e)→aW T (RX T tab m) o.op i s=some (u,s.hp.app e,⟨i,r,w,false,s.hp.n,(s.hp.app e).n⟩):=by
     intro u e m hop
     unfold aW
     simp only [hk,ht1,hop]
    by_cases hm:∃ x,yh o.op st.fr=some [x]
    ·obtain ⟨x,hm⟩:=hm
     have hbirth:kC o.op st.fr bt i=oX bt x:=by unfold kC;rw [hm]
     have hbx:=hb.eval x
     have eb:=ht.ext _ i hbx.1 (Nat.le_refl _)
     obtain ⟨u,v,r1,r2,r3,r4⟩:=vM (ρ2:=(tr (oX bt x)).E.ρ) (g2:=(tr (oX bt x)).H.get) (O2:=(tr (oX bt x)).E.O (tr (oX bt x)).hp) (n:=s.hp.n) hfr hm (fun y hy=>by
      obtain rfl:=List.mem_singleton.1 hy;exact hbx.2) (fun k b hk ho=>(eb.keep (ht.rel _ hbx.1).wf k b hk ho).1) hw
     rw [h2] at r1
     have hz:(tr i).H=s.hp.app .none:=h2
     rw [hbirth] at r2
     refine go (tr i) v u (oX bt x) ⟨i,a,news? o.op,false⟩ ⟨i,r,w,false,s.hp.n,(s.hp.app .none).n⟩ 0 hrel .refl (by omega) (by rw [aU hbx.1];exact r4) rfl (evr _ u .none r1 hz) (fun m _=>by rw [hz];exact drw u .none m r1) (by rw [h1];exact cm (bu r2))
    ·have hbirth:kC o.op st.fr bt i=i+1:=by
      unfold kC
      split
      ·rename_i x hx;exact absurd ⟨x,hx⟩ hm
      ·rfl
     obtain ⟨u,e,E',v,hp',r1,r2,r3,r4,r5⟩:=iH hrel hfr hw'
     rw [h2] at r1 r3 r4 r5
     rw [hbirth] at r2
     refine go ⟨E',hp',s.hp.app e⟩ v u (i+1) ⟨i,a,news? o.op,false⟩ ⟨i,r,w,false,s.hp.n,(s.hp.app e).n⟩ 0 r3 (by rw [h2];exact r4) (Nat.le_refl _) (by rw [aY (Nat.lt_succ_self _)];exact r5) rfl (evr _ u e r1 rfl) (fun m _=>drw u e m r1) (cm (bu r2))
  ·obtain ⟨m,s',r1,r2⟩:=mD (s:=⟨cu s.fr o.dst undef,s.hp,s.rd⟩) (evs:=⟨o,s,undef,s.hp,⟨i,[],[],false,s.hp.n,s.hp.n⟩⟩ :: evs) (cm h) (ht.snoc (z:=tr i) hrel .refl) (by rw [aY (Nat.lt_succ_self _)];exact h1) (by rw [aY (Nat.lt_succ_self _)];exact h2) h3
    (hb.put (Nat.zero_le _) qW o.dst) (.cons (he.snoc (Nat.le_refl _)) rfl ⟨rfl,by rw [aU (Nat.le_refl _),h2],by rw [aY (Nat.lt_succ_self _),h2],fun _ _=>rfl,rfl,fun k hk=>(by cases hk),fun k hk=>(by cases hk)⟩)
   rw [hz0] at r2
   refine ⟨m,s',?_,r2⟩
   rw [aJ,hg]
   exact r1
def Fb (T:bz) (tab:List XE) (one:Bool) (mu:Tmp→Bool) (ops:Array Oper) (c:Nat) (st:bK) (K:bK→Prop):Prop :=
 jc T tab mu ops (ops.toList.take c) 0 (fun _=>0) [] st fun s=>wpOps T tab one mu ops.toList (ops.toList.drop c) s K
theorem aA.draw {id:Nat} {ops:Array Oper} {mu:Tmp→Bool} {st:bK} {K:Exit→bK→Prop} (h:Fb T tab one mu ops (eA ops) st (K .normal)):aA T tab one (.region id ops true) st K:=by
 intro E base s hs
 obtain ⟨m,s',r1,E',st',r2,r3,r4,r5⟩:=mD (base:=base) (tr:=fun _=>⟨E,st.hp,s.hp⟩) (evs:=[]) h ⟨fun _ _=>hs.h,fun _ _ _ _=>.refl⟩ rfl rfl hs.rd (fun t=>⟨Nat.le_refl _,hs.fr t⟩) .nil
 obtain ⟨m2,L,q1,q2,q3⟩:=gM r2 r4
 refine ⟨max m m2,L.map fun s=>(.normal,s),?_,fun h1=>?_,fun p hp=>?_⟩
 ·rw [bQ]
  have:bE T (RX T tab (max m m2)) ops s=some L:=by
   cases hn:qp ops with
   | none =>
    unfold bE
    simp only [hn,fL (dm (Nat.le_max_left m m2)) _ _ _ _ _ _ r1]
    exact gB (dm (Nat.le_max_right _ _)) _ _ _ _ q1
   | some c =>
    have ht:=yc hn
    rw [ht,List.take_length] at r1
    rw [ht,List.drop_length,dJ] at q1
    cases q1
    exact kq ht (fL (dm (Nat.le_max_left m m2)) _ _ _ _ _ _ r1)
  simp only [cond_true,this]
 ·obtain ⟨p,hp⟩:=q2 h1
  exact ⟨_,by rw [hp];rfl⟩
 ·obtain ⟨s2,hm,rfl⟩:=List.mem_map.1 hp
  obtain ⟨E2,st2,k1,k2,k3,k4⟩:=q3 s2 hm
  rw [r3] at k2 k4
  exact ⟨E2,st2,k1,k2,k3,r5.DG.trans k4⟩
def nt (T:bz) (tab:List XE) (one:Bool) (mu:Tmp→Bool):Code→bK→(Exit→bK→Prop)→Prop
 | .skip,st,K=>K .normal st
 | .label _,st,K=>K .normal st
 | .region _ ops false,st,K=>wpOps T tab one mu ops.toList ops.toList st (K .normal)
 | .region _ ops true,st,K=>Fb T tab one mu ops (eA ops) st (K .normal)
 | .seq a b,st,K=>nt T tab one mu a st (vJ (fun s=>nt T tab one mu b s K) K)
 | .cond c a b,st,K=>match aN st.fr c with
  | .fl (.bool t)=>(t=true→nt T tab one mu a st K)∧(t=false→nt T tab one mu b st K)
  | _=>False
 | .block id c,st,K=>nt T tab one mu c st (jM id K)
 | .exit id,st,K=>K (.exit id) st
 | .ret,st,K=>K .ret st
 | .scope c,st,K=>nt T tab one mu c st (sG K)
 | c,st,K=>aA T tab one c st K
theorem aa {mu:Tmp→Bool}:∀ {c:Code} {st:bK} {K:Exit→bK→Prop},nt T tab one mu c st K→aA T tab one c st K:=by
 intro c
 induction c with
 | skip=>intro st K h;exact .here (fun _ _=>rfl) h
 | label l=>intro st K h;exact .here (fun _ _=>rfl) h
 | region id ops draw =>
  intro st K h
  cases draw with
  | false=>exact .ops h
  | true=>exact .draw h
 | seq a b iha ihb =>
  intro st K h
  refine .seq (iha h |>.mono fun e s hk=>?_)
  cases e <;> first|exact ihb hk|exact hk
 | cond c a b iha ihb =>
  intro st K h
  unfold nt at h
  split at h
  ·rename_i t ht
   exact .cond ht (fun e=>iha (h.1 e)) (fun e=>ihb (h.2 e))
  ·exact h.elim
 | block id c ih=>intro st K h;exact .block (ih h)
 | exit id=>intro st K h;exact .here (fun _ _=>rfl) h
 | ret=>intro st K h;exact .here (fun _ _=>rfl) h
 | scope c ih=>intro st K h;exact .scope (ih h)
 | _=>intro st K h;exact h
end
inductive Sh where
 | int (k:IntKind)
 | bool
 | str
 | slice (s:Sh)
 | nil
 | cons (s:Sh) (l:Sh)
 | arr (n:Nat) (s:Sh)
def Sh.cells:Sh→Nat
 | .int _=>1
 | .bool=>1
 | .str=>1
 | .slice _=>1
 | .nil=>0
 | .cons s l=>s.cells+l.cells
 | .arr n s=>n * s.cells
inductive TV:Sh→List AV→Prop
 | int {k:IntKind} {n:Int}:(Lit.int k n).wf=true→TV (.int k) [.fl (.int k n)]
 | bool {b:Bool}:TV .bool [.fl (.bool b)]
 | str {s:ByteArray}:s.size≤maxLen→TV .str [.fl (.string s)]
 | slice {s:Sh} {els:List (List AV)}:els.length≤maxLen→(∀ el ∈ els,TV s el)→TV (.slice s) [.sl els false]
 | nil:TV .nil []
 | cons {s l:Sh} {a b:List AV}:TV s a→TV l b→TV (.cons s l) (a++b)
 | arr {n:Nat} {s:Sh} {els:List (List AV)}:els.length=n→(∀ el ∈ els,TV s el)→TV (.arr n s) els.flatten
mutual
def jW (P:Program):Nat→Sh→TypeId→Bool
 | 0,_,_=>false
 | _+1,.int k,t=>match P.underlying t with
  | some (.int k')=>decide (k=k')
  | _=>false
 | _+1,.bool,t=>match P.underlying t with
  | some .bool=>true
  | _=>false
 | _+1,.str,t=>match P.underlying t with
  | some .string=>true
  | _=>false
 | d+1,.slice s,t=>match P.underlying t with
  | some (.slice e)=>Nat.beq (P.cellsOf e) s.cells && (Nat.ble 1 s.cells && jW P d s e)
  | _=>false
 | d+1,.nil,t=>match P.underlying t with
  | some (.struct fs)=>Nat.beq (P.cellsOf t) 0 && sH P d .nil fs.toList 0
  | _=>false
 | d+1,.cons s l,t=>match P.underlying t with
  | some (.struct fs)=>Nat.beq (P.cellsOf t) (s.cells+l.cells) && sH P d (.cons s l) fs.toList 0
  | _=>false
 | d+1,.arr n s,t=>match P.underlying t with
  | some (.array m e)=>Nat.beq n m && Nat.beq (P.cellsOf e) s.cells && Nat.beq (P.cellsOf t) (n * s.cells) && jW P d s e
  | _=>false
def sH (P:Program):Nat→Sh→List Field→Nat→Bool
 | 0,_,_,_=>false
 | _+1,.nil,[],_=>true
 | d+1,.cons s l,f :: fs,o=>Nat.beq f.offset o && Nat.beq (P.cellsOf f.type) s.cells && jW P d s f.type && sH P d l fs (o+s.cells)
 | _+1,_,_,_=>false
end
section
variable {P : Program} {w : World}
structure LS (γ:Gm) (H:Hp) (w:World):Prop where
 hr:HR γ H.get w
 wf:Wf H
 fr:∀ k,H.n≤k→γ.loc k=none
 un:∀ k a,H.get k=some a→a.own=false∧a ≠ .dead
structure LE (γ:Gm) (H:Hp) (γ':Gm) (H':Hp):Prop where
 le:γ.Le γ'
 n:H.n≤H'.n
 same:∀ k,k < H.n→H'.get k=H.get k
theorem LE.refl {γ:Gm} {H:Hp}:LE γ H γ H:=⟨Gm.Le.refl γ,Nat.le_refl _,fun _ _=>rfl⟩
theorem LE.trans {γ γ1 γ2:Gm} {H H1 H2:Hp} (a:LE γ H γ1 H1) (b:LE γ1 H1 γ2 H2):LE γ H γ2 H2 :=
 ⟨a.le.trans b.le,Nat.le_trans a.n b.n,fun k hk=>(b.same k (Nat.lt_of_lt_of_le hk a.n)).trans (a.same k hk)⟩
abbrev Fc:Nat→Prop:=fun _=>False
theorem LE.dr {γ γ':Gm} {H H':Hp} (e:LE γ H γ' H') (hw:Wf H) {v:AV} {u:Value} (h:DR H.get Fc v u):DR H'.get Fc v u :=
 h.mono fun k b hk _=>⟨by rw [e.same k (hw.lt hk)];exact hk,fun h=>h⟩
theorem LE.Qd {γ γ':Gm} {H H':Hp} (e:LE γ H γ' H') (hw:Wf H) {v:List AV} {u:List Value} (h:pH H.get Fc v u):pH H'.get Fc v u:=⟨h.1,fun i a u x y=>e.dr hw (h.2 i a u x y)⟩
def Lk (w:World) (s:Sh) (cs:List Value):Prop:=∀ (γ:Gm) (H:Hp),LS γ H w→∃ γ' H' us avs,LE γ H γ' H'∧LS γ' H' w∧us.length=cs.length∧bX γ' us cs∧pH H'.get Fc avs us∧TV s avs∧avs.length=s.cells
theorem Lk.flat {s:Sh} {v:Value} (hf:aS v=true) (ht:TV s [.fl v]) (hs:s.cells=1):Lk w s [v]:=fun γ H h =>
 ⟨γ,H,[v],[.fl v],.refl,h,rfl,bX.cons (.flat hf) (bX.nil γ),⟨rfl,fun i a u x y=>by
  cases i with
  | zero=>cases x;cases y;exact .fl hf
  | succ i=>simp at x⟩,ht,hs.symm⟩
theorem Lk.list {s:Sh}:∀ {csl:List (List Value)},(∀ cs ∈ csl,Lk w s cs∧cs.length=s.cells)→∀ (γ:Gm) (H:Hp),LS γ H w→∃ (γ':Gm) (H':Hp) (us:List Value) (els:List (List AV)),LE γ H γ' H'∧LS γ' H' w∧us.length=csl.flatten.length∧bX γ' us csl.flatten∧pH H'.get Fc els.flatten us ∧
  els.length=csl.length∧(∀ el ∈ els,TV s el∧el.length=s.cells)
 | [],_,γ,H,h=>⟨γ,H,[],[],.refl,h,rfl,bX.nil γ,⟨rfl,fun i a u x=>by cases x⟩,rfl,fun el he=>by cases he⟩
 | cs :: csl,hl,γ,H,h=>by
  obtain ⟨γ1,H1,us1,av1,e1,h1,l1,v1,d1,t1,c1⟩:=(hl cs (by simp)).1 γ H h
  obtain ⟨γ2,H2,us2,els,e2,h2,l2,v2,d2,t2,c2⟩:=Lk.list (fun c hc=>hl c (List.mem_cons_of_mem _ hc)) γ1 H1 h1
  refine ⟨γ2,H2,us1++us2,av1 :: els,e1.trans e2,h2,by simp [l1,l2],?_,?_,by simp [t2],fun el he=>?_⟩
  ·rw [List.flatten_cons];exact (v1.mono e2.le).append v2
  ·rw [List.flatten_cons];exact (e2.Qd h1.wf d1).append d2
  ·rcases List.mem_cons.1 he with rfl|he
   ·exact ⟨t1,c1⟩
   ·exact c2 el he
theorem LS.row {γ:Gm} {H:Hp} (h:LS γ H w) {b o:Nat} {cs':Array Value} {e:TypeId} {fz:Nat × Nat} (hb:w.heap[b]?=some (.cells cs' e fz)) {us:List Value} (hc:dG γ us cs' o) :
  ∃ γ',γ'={γ with loc:=fun i=>if i=H.n then some (b,o) else γ.loc i}∧LE γ H γ' (H.push (.cells us false 0))∧LS γ' (H.push (.cells us false 0)) w∧γ'.loc H.n=some (b,o):=by
 have hle:γ.Le {γ with loc:=fun i=>if i=H.n then some (b,o) else γ.loc i}:=by
  refine ⟨fun k x hk=>?_,fun k x hk=>rfl,rfl⟩
  show (if k=H.n then _ else _)=_
  rw [if_neg (fun hkn=>by rw [hkn,h.fr _ (Nat.le_refl _)] at hk;cases hk)]
  exact hk
 have hlt:b < w.heap.size:=(Array.getElem?_eq_some_iff.1 hb).1
 have hget:∀ k a,(H.push (.cells us false 0)).get k=some a→(k < H.n∧H.get k=some a)∨(k=H.n∧a=.cells us false 0):=by
  intro k a hk
  rw [Hp.eO] at hk
  split at hk
  ·rename_i hkn;cases hk;exact .inr ⟨hkn,rfl⟩
  ·exact .inl ⟨h.wf.lt hk,hk⟩
 have hun:∀ k a,(H.push (.cells us false 0)).get k=some a→a.own=false∧a ≠ .dead:=by
  intro k a hk
  rcases hget k a hk with ⟨_,h1⟩|⟨_,rfl⟩
  ·exact h.un k a h1
  ·exact ⟨rfl,by simp⟩
 refine ⟨_,rfl,⟨hle,Nat.le_succ _,fun k hk=>cg hk⟩,⟨⟨fun k b' o' a hk hl=>?_,fun k k' b' o' o2 a a' hk ho=>?_,fun k b' o' hl=>?_,h.hr.base,h.hr.gl⟩,(dQ.push H _).wf h.wf,fun k hk=>?_,hun⟩,if_pos rfl⟩
 ·have hl:(if k=H.n then some (b,o) else γ.loc k)=some (b',o'):=hl
  rcases hget k a hk with ⟨h1,h2⟩|⟨rfl,rfl⟩
  ·rw [if_neg (by omega)] at hl
   exact (h.hr.fU k b' o' a h2 hl).mono hle hl rfl
  ·rw [if_pos rfl] at hl
   cases hl
   exact ⟨cs',e,fz,hb,hc.mono hle,fun h=>Bool.noConfusion h⟩
 ·rw [(hun k a hk).1] at ho;cases ho
 ·have hl:(if k=H.n then some (b,o) else γ.loc k)=some (b',o'):=hl
  split at hl
  ·cases hl;exact hlt
  ·exact h.hr.lt k b' o' hl
 ·show (if k=H.n then _ else _)=_
  have:H.n+1≤k:=hk
  rw [if_neg (by omega)];exact h.fr k (by omega)
variable {D : Type} {enc : TypeId × Value → D} {base : Nat} {spare : Nat → Bool} {held : Bool}
theorem JQ {b:Addr} {n:Nat} {cs:List Value} (h:w.cells? base b n=some cs):cs.length=n∧∀ i,i < n→w.cell? (b.add i)=cs[i]?:=by
 unfold World.cells? at h
 split at h
 ·refine ⟨by simpa using mapM_some_length h,fun i hi=>mapM_some_get h i i (by simp [hi])⟩
 ·cases h
theorem yl {a:Addr} {v:Value} (h:w.cell? a=some v):a.spot=none∧∃ c e fz,w.heap[a.block]?=some (.cells c e fz)∧c[a.off]?=some v:=by
 unfold World.cell? at h
 split at h
 ·rename_i c e fz hb
  split at h
  ·cases h
  ·rename_i hs
   exact ⟨by simpa using hs,c,e,fz,hb,h⟩
 ·cases h
theorem oI (a:Addr) (n:Nat):(a.add n).block=a.block:=by unfold Addr.add;split <;> rfl
theorem Fe (a:Addr) (n:Nat):(a.add n).off=a.off+n:=by unfold Addr.add;split <;> simp_all
mutual
theorem lk (P:Program):∀ (d:Nat) (s:Sh) (t:TypeId),jW P d s t=true→∀ (fuel:Nat) (cs:List Value) (x:DataW D × List MemPlace),DataW.trod enc P w base spare held fuel t cs=some x→Lk w s cs∧cs.length=s.cells
 | 0,_,_,h=>by simp [jW] at h
 | d+1,.int k,t,h=>by
  intro fuel cs x hx
  unfold jW at h
  split at h
  ·rename_i k' hu
   obtain rfl:=of_decide_eq_true h
   obtain ⟨n,rfl,_,hw⟩:=DataW.trod_int hu hx
   exact ⟨.flat rfl (.int hw) rfl,rfl⟩
  ·cases h
 | d+1,.bool,t,h=>by
  intro fuel cs x hx
  unfold jW at h
  split at h
  ·rename_i hu
   obtain ⟨b,rfl,_⟩:=DataW.trod_bool hu hx
   exact ⟨.flat rfl .bool rfl,rfl⟩
  ·cases h
 | d+1,.str,t,h=>by
  intro fuel cs x hx
  unfold jW at h
  split at h
  ·rename_i hu
   obtain ⟨s,rfl,_,hw⟩:=DataW.trod_string hu hx
   exact ⟨.flat rfl (.str hw) rfl,rfl⟩
  ·cases h
 | d+1,.slice s,t,h=>by
  intro fuel cs x hx
  unfold jW at h
  split at h
  ·rename_i e hu
   simp only [Bool.and_eq_true] at h
   have hsz:=Nat.eq_of_beq_eq_true h.1
   rcases DataW.trod_slice hu hx with ⟨rfl,_⟩|⟨a,len,cap,elems,rest,n,_,rfl,_,_,hlc,hcm,hel,hat,_⟩
   ·refine ⟨fun γ H hs=>⟨γ,H,[.slice none 0 0],[.sl [] false],.refl,hs,rfl,bX.cons (.flat rfl) (bX.nil γ),⟨rfl,fun i a u x y=>?_⟩,.slice (Nat.zero_le _) (fun el he=>by cases he),rfl⟩,rfl⟩
    cases i with
    | zero=>cases x;cases y;exact .nil
    | succ i=>simp at x
   ·
    let csl:List (List Value):=(List.range len).map fun i=>(w.cells? base (a.add (i * P.cellsOf e)) (P.cellsOf e)).getD []
    have hlen:csl.length=len:=by simp [csl]
    have hcs:∀ i,i < len→∃ ci y,csl[i]?=some ci∧w.cells? base (a.add (i * P.cellsOf e)) (P.cellsOf e)=some ci∧DataW.trod enc P w base spare held n e ci=some y:=by
     intro i hi
     have h1:=hat i hi
     have h2:elems[i]?=some (elems[i]'(by omega)):=List.getElem?_eq_getElem _
     rw [h2,Option.bind_eq_some_iff] at h1
     obtain ⟨ci,c1,c2⟩:=h1
     exact ⟨ci,_,by simp [csl,hi,c1],c1,c2⟩
    have hall:∀ ci ∈ csl,Lk w s ci∧ci.length=s.cells:=by
     intro ci hci
     obtain ⟨i,hi,rfl⟩:=List.getElem_of_mem hci
     obtain ⟨cj,y,q1,q2,q3⟩:=hcs i (by omega)
     rw [List.getElem?_eq_getElem hi] at q1
     cases q1
     exact lk P d s e h.2.2 n _ y q3
    refine ⟨fun γ H hs=>?_,rfl⟩
    obtain ⟨γ1,H1,us,els,e1,h1,l1,v1,d1,t1,c1⟩:=Lk.list hall γ H hs
    have htv:TV (.slice s) [.sl els false]:=.slice (by rw [t1,hlen];omega) (fun el he=>(c1 el he).1)
    have hfin:∀ (u:Value) (γ':Gm) (H':Hp),LE γ1 H1 γ' H'→LS γ' H' w→VR γ' u (.slice (some a) len cap)→DR H'.get Fc (.sl els false) u →
      ∃ γ' H' us avs,LE γ H γ' H'∧LS γ' H' w∧us.length=[Value.slice (some a) len cap].length∧bX γ' us [.slice (some a) len cap]∧pH H'.get Fc avs us∧TV (.slice s) avs∧avs.length=(Sh.slice s).cells:=by
     intro u γ' H' he hs' hv hd
     refine ⟨γ',H',[u],[.sl els false],e1.trans he,hs',rfl,bX.cons hv (bX.nil γ'),⟨rfl,fun i a w x y=>?_⟩,htv,rfl⟩
     cases i with
     | zero=>cases x;cases y;exact hd
     | succ i=>simp at x
    have hfl:∀ el ∈ csl,el.length=s.cells:=fun el he=>(hall el he).2
    have hels:∀ el ∈ els,el.length=s.cells:=fun el he=>(c1 el he).2
    have hne:els.length=len:=t1.trans hlen
    by_cases h0:len * s.cells=0
    ·
     have hg:∀ k a,(H1.push (.cells us false 0)).get k=some a→(k < H1.n∧H1.get k=some a)∨(k=H1.n∧a=.cells us false 0):=by
      intro k a hk
      rw [Hp.eO] at hk
      split at hk
      ·rename_i hkn;cases hk;exact .inr ⟨hkn,rfl⟩
      ·exact .inl ⟨h1.wf.lt hk,hk⟩
     have hus:us=[]:=List.length_eq_zero_iff.1 (by rw [l1,eu hfl,hlen];exact h0)
     by_cases hl0:len=0
     ·subst hl0
      refine hfin (.slice (some ⟨H1.n,0,none⟩) 0 2) γ1 (H1.push (.cells us false 0)) ⟨Gm.Le.refl γ1,Nat.le_succ _,fun k hk=>cg hk⟩ ⟨⟨fun k b o a hk hl=>?_,fun k k' b o o' a a' hk ho=>?_,h1.hr.lt,h1.hr.base,h1.hr.gl⟩,(dQ.push H1 _).wf h1.wf,fun k hk=>h1.fr k (by have:H1.n+1≤k:=hk;omega),fun k a hk=>?_⟩ (.cQ (by omega) (fun h=>by omega) (by omega)) ?_
      ·rcases hg k a hk with ⟨_,q⟩|⟨rfl,_⟩
       ·exact h1.hr.fU k b o a q hl
       ·rw [h1.fr _ (Nat.le_refl _)] at hl;cases hl
      ·rcases hg k a hk with ⟨_,q⟩|⟨_,rfl⟩
       ·rw [(h1.un k a q).1] at ho;cases ho
       ·cases ho
      ·rcases hg k a hk with ⟨_,q⟩|⟨_,rfl⟩
       ·exact h1.un k a q
       ·exact ⟨rfl,by simp⟩
      ·exact .row (es:=s.cells) (own:=false) (e:=0) iE (fun h=>h) hels hne (by
        have hd:=d1
        rw [hus] at hd ⊢
        exact ⟨hd.1,fun i a u x y=>by cases y⟩) (fun h=>Bool.noConfusion h)
     ·
      exfalso
      have hz:s.cells=0:=by
       rcases Nat.mul_eq_zero.1 h0 with h|h
       ·exact absurd h hl0
       ·exact h
      have:=Nat.le_of_ble_eq_true h.2.1
      omega
    ·have hpos:0 < len∧0 < s.cells:=by
      constructor
      ·apply Nat.pos_of_ne_zero;intro h;rw [h] at h0;simp at h0
      ·apply Nat.pos_of_ne_zero;intro h;rw [h] at h0;simp at h0
     have hcell:∀ i ci,csl[i]?=some ci→∀ j,j < s.cells→(∀ v,ci[j]?=some v→w.cell? ((a.add (i * s.cells)).add j)=some v):=by
      intro i ci hi j hj v hv
      obtain ⟨cj,y,q1,q2,q3⟩:=hcs i (by rw [←hlen];exact (List.getElem?_eq_some_iff.1 hi).1)
      rw [q1] at hi;cases hi
      rw [hsz] at q2
      obtain ⟨_,r2⟩:=JQ q2
      rw [r2 j hj];exact hv
     obtain ⟨c0,y0,z1,z2,z3⟩:=hcs 0 hpos.1
     have hz0:c0.length=s.cells:=hfl c0 (List.mem_of_getElem? z1)
     have hv0:c0[0]?=some (c0[0]'(by omega)):=List.getElem?_eq_getElem _
     obtain ⟨sp,cs',e',fz,hb,_⟩:=yl (hcell 0 c0 z1 0 hpos.2 _ hv0)
     rw [oI,oI] at hb
     have hspot:a.spot=none:=by
      have:((a.add (0 * s.cells)).add 0).spot=none:=sp
      simpa [Addr.add] using this
     have hcr:dG γ1 us cs' a.off:=by
      intro j v hj
      have hjl:j < len * s.cells:=by rw [←hlen,←eu hfl,←l1];exact (List.getElem?_eq_some_iff.1 hj).1
      obtain ⟨v',q1,q2⟩:=v1.get hj
      have hi:j / s.cells < len:=(Nat.div_lt_iff_lt_mul hpos.2).2 hjl
      have hm:j % s.cells < s.cells:=Nat.mod_lt _ hpos.2
      obtain ⟨ci,y,p1,p2,p3⟩:=hcs _ hi
      have hdecomp:j / s.cells * s.cells+j % s.cells=j:=by rw [Nat.mul_comm];exact Nat.div_add_mod j s.cells
      have hf:=fN hfl _ ci (j % s.cells) p1 hm
      rw [hdecomp,q1] at hf
      obtain ⟨_,c2,e2,f2,b1,b2⟩:=yl (hcell _ ci p1 _ hm v' hf.symm)
      rw [oI,oI,hb] at b1
      cases b1
      rw [Fe,Fe,Nat.add_assoc,hdecomp] at b2
      exact ⟨v',b2,q2⟩
     obtain ⟨γ2,_,e2,h2,hloc⟩:=h1.row hb hcr
     refine hfin (.slice (some ⟨H1.n,0,none⟩) len (len+2)) γ2 _ e2 h2 ?_ ?_
     ·have:=VR.slice (γ:=γ2) (k:=H1.n) (o:=0) (n:=len) (c:=len+2) (c':=cap) hloc hlc (fun h=>by omega) (fun h=>by omega) (fun h=>by omega)
      have ha:(⟨a.block,a.off+0,none⟩:Addr)=a:=by cases a;simp at hspot;subst hspot;rfl
      rw [ha] at this
      exact this
     ·exact .row (es:=s.cells) iE (fun h=>h) hels hne (e2.Qd h1.wf d1) (fun h=>Bool.noConfusion h)
  ·cases h
 | d+1,.nil,t,h=>by
  intro fuel cs x hx
  unfold jW at h
  split at h
  ·rename_i fs hu
   simp only [Bool.and_eq_true] at h
   obtain ⟨xs,n,_,_,hl,_,hf⟩:=DataW.trod_struct hu hx
   have hz:=Nat.eq_of_beq_eq_true h.1
   obtain rfl:=List.length_eq_zero_iff.1 (hl.trans hz)
   exact ⟨fun γ H hs=>⟨γ,H,[],[],.refl,hs,rfl,bX.nil γ,⟨rfl,fun i a u x=>by cases x⟩,.nil,rfl⟩,rfl⟩
  ·cases h
 | d+1,.cons s l,t,h=>by
  intro fuel cs x hx
  unfold jW at h
  split at h
  ·rename_i fs hu
   simp only [Bool.and_eq_true] at h
   obtain ⟨xs,n,_,_,hl,hxl,hf⟩:=DataW.trod_struct hu hx
   have hz:=Nat.eq_of_beq_eq_true h.1
   have:=Rm P d (.cons s l) fs.toList 0 h.2 n cs (by rw [hl,hz];simp [Sh.cells]) (fun i f hi=>by
    rw [Array.getElem?_toList] at hi
    rw [hf i f hi]
    have hlt:i < xs.length:=by rw [hxl];exact (Array.getElem?_eq_some_iff.1 hi).1
    exact ⟨_,List.getElem?_eq_getElem hlt⟩)
   rw [List.drop_zero] at this
   exact ⟨this,by rw [hl,hz];rfl⟩
  ·cases h
 | d+1,.arr m s,t,h=>by
  intro fuel cs x hx
  unfold jW at h
  split at h
  ·rename_i m' e hu
   simp only [Bool.and_eq_true] at h
   obtain ⟨⟨⟨h1,h2⟩,h3⟩,h4⟩:=h
   obtain rfl:=Nat.eq_of_beq_eq_true h1
   have hsz:=Nat.eq_of_beq_eq_true h2
   have htot:=Nat.eq_of_beq_eq_true h3
   have hx':∃ n,cs.length=P.cellsOf t∧∀ i,i < m→∃ y,DataW.trod enc P w base spare held n e ((cs.drop (i * P.cellsOf e)).take (P.cellsOf e))=some y:=by
    obtain ⟨xs,n,_,_,hl,hxl,hp⟩:=DataW.trod_array hu hx
    exact ⟨n,hl,fun i hi=>by
     rw [hp i hi]
     exact ⟨_,List.getElem?_eq_getElem (by omega)⟩⟩
   obtain ⟨n,hl,hel⟩:=hx'
   rw [hsz] at hel
   rw [htot] at hl
   let csl:List (List Value):=(List.range m).map fun i=>(cs.drop (i * s.cells)).take s.cells
   have hflat:csl.flatten=cs:=by
    have key:∀ (m:Nat) (cs:List Value),cs.length=m * s.cells→((List.range m).map fun i=>(cs.drop (i * s.cells)).take s.cells).flatten=cs:=by
     intro m
     induction m with
     | zero=>intro cs h;rw [Nat.zero_mul] at h;simp [List.length_eq_zero_iff.1 h]
     | succ m ih =>
      intro cs h
      rw [List.range_succ_eq_map,List.map_cons,List.map_map,List.flatten_cons,Nat.zero_mul,List.drop_zero]
      have hd:(cs.drop s.cells).length=m * s.cells:=by rw [List.length_drop,h,Nat.add_mul];omega
      have e:=ih (cs.drop s.cells) hd
      have:((fun i=>(cs.drop (i * s.cells)).take s.cells) ∘ Nat.succ)=fun i=>((cs.drop s.cells).drop (i * s.cells)).take s.cells:=by
       funext i
       simp only [Function.comp,List.drop_drop]
       rw [show s.cells+i * s.cells=Nat.succ i * s.cells by rw [Nat.succ_mul];omega]
      rw [this,e]
      exact List.take_append_drop _ _
    exact key m cs hl
   have hall:∀ ci ∈ csl,Lk w s ci∧ci.length=s.cells:=by
    intro ci hci
    obtain ⟨i,hi,rfl⟩:=List.mem_map.1 hci
    obtain ⟨y,hy⟩:=hel i (by simpa using hi)
    exact lk P d s e h4 n _ y hy
   refine ⟨fun γ H hs=>?_,hl⟩
   obtain ⟨γ1,H1,us,els,e1,q1,l1,v1,d1,t1,c1⟩:=Lk.list hall γ H hs
   rw [hflat] at l1 v1
   have hels:els.length=m:=by rw [t1];simp [csl]
   exact ⟨γ1,H1,us,els.flatten,e1,q1,l1,v1,d1,.arr hels (fun el he=>(c1 el he).1),by
    rw [eu (fun el he=>(c1 el he).2),hels];rfl⟩
  ·cases h
theorem Rm (P:Program):∀ (d:Nat) (l:Sh) (fs:List Field) (o:Nat),sH P d l fs o=true→∀ (n:Nat) (cs:List Value),cs.length=o+l.cells→(∀ (i:Nat) (f:Field),fs[i]?=some f→∃ y,DataW.trod enc P w base spare held n f.type ((cs.drop f.offset).take (P.cellsOf f.type))=some y) →
  Lk w l (cs.drop o)
 | 0,_,_,_,h=>by simp [sH] at h
 | d+1,.nil,[],o,_=>by
  intro n cs hl _
  have:cs.drop o=[]:=List.length_eq_zero_iff.1 (by rw [List.length_drop,hl];simp [Sh.cells])
  rw [this]
  exact fun γ H hs=>⟨γ,H,[],[],.refl,hs,rfl,bX.nil γ,⟨rfl,fun i a u x=>by cases x⟩,.nil,rfl⟩
 | d+1,.cons s l,f :: fs,o,h=>by
  intro n cs hl hf
  simp only [sH,Bool.and_eq_true] at h
  obtain ⟨⟨⟨h1,h2⟩,h3⟩,h4⟩:=h
  have ho:=Nat.eq_of_beq_eq_true h1
  have hsz:=Nat.eq_of_beq_eq_true h2
  obtain ⟨y,hy⟩:=hf 0 f rfl
  rw [ho,hsz] at hy
  obtain ⟨k1,k2⟩:=lk P d s f.type h3 n _ y hy
  have k3:=Rm P d l fs (o+s.cells) h4 n cs (by rw [hl];simp [Sh.cells];omega) (fun i g hi=>hf (i+1) g (by simpa using hi))
  have hsplit:cs.drop o=(cs.drop o).take s.cells++cs.drop (o+s.cells):=by
   rw [←List.drop_drop];exact (List.take_append_drop _ _).symm
  intro γ H hs
  obtain ⟨γ1,H1,us1,av1,e1,q1,l1,v1,d1,t1,c1⟩:=k1 γ H hs
  obtain ⟨γ2,H2,us2,av2,e2,q2,l2,v2,d2,t2,c2⟩:=k3 γ1 H1 q1
  rw [hsplit]
  exact ⟨γ2,H2,us1++us2,av1++av2,e1.trans e2,q2,by simp [l1,l2],(v1.mono e2.le).append v2,(e2.Qd q1.wf d1).append d2,.cons t1 t2,by simp [c1,c2,Sh.cells]⟩
 | d+1,.nil,_ :: _,_,h=>by simp [sH] at h
 | d+1,.cons _ _,[],_,h=>by simp [sH] at h
 | d+1,.int _,_,_,h=>by simp [sH] at h
 | d+1,.bool,_,_,h=>by simp [sH] at h
 | d+1,.str,_,_,h=>by simp [sH] at h
 | d+1,.slice _,_,_,h=>by simp [sH] at h
 | d+1,.arr _ _,_,_,h=>by simp [sH] at h
end
end
section
variable {P : Program} {w : World} {D : Type} {enc : TypeId × Value → D} {base : Nat} {spare : Nat → Bool} {held : Bool}
def tA:Sh→List AV→AV
 | .nil,l=>.ag l
 | .cons _ _,l=>.ag l
 | .arr _ _,l=>.ag l
 | _,l=>l.headD .bM
def DM:List Sh→List AV→Prop
 | [],[]=>True
 | s :: l,a :: as=>(∃ avs,TV s avs∧a=tA s avs)∧DM l as
 | _,_=>False
theorem ue {s:Sh} {v:Value} (hv:v.cells.toList=[v]) (hs:∀ l,tA s l=l.headD .bM) (h1:s.cells=1) (hl:Lk w s v.cells.toList) (γ:Gm) (H:Hp) (h:LS γ H w) :
  ∃ γ' H' u a,LE γ H γ' H'∧LS γ' H' w∧VR γ' u v∧DR H'.get Fc a u∧∃ avs,TV s avs∧a=tA s avs:=by
 rw [hv] at hl
 obtain ⟨γ',H',us,avs,e,q,l1,v1,d1,t1,c1⟩:=hl γ H h
 match us,l1 with
 | [u],_ =>
  match avs,c1.trans h1 with
  | [a],_=>exact ⟨γ',H',u,a,e,q,v1.2 0 u v rfl rfl,d1.2 0 a u rfl rfl,[a],t1,by rw [hs];rfl⟩
theorem Ls {s:Sh} {cs:Array Value} (hs:∀ l,tA s l=.ag l) (hl:Lk w s cs.toList) (γ:Gm) (H:Hp) (h:LS γ H w) :
  ∃ γ' H' u a,LE γ H γ' H'∧LS γ' H' w∧VR γ' u (.agg cs)∧DR H'.get Fc a u∧∃ avs,TV s avs∧a=tA s avs:=by
 obtain ⟨γ',H',us,avs,e,q,l1,v1,d1,t1,c1⟩:=hl γ H h
 refine ⟨γ',H',.agg us.toArray,.ag avs,e,q,?_,.ag (by simpa using d1.1) (fun i a u x y=>d1.2 i a u x (by simpa using y)),avs,t1,(hs _).symm⟩
 have:=VR.jz v1
 simpa using this
theorem Lt {d:Nat} {s:Sh} {t:TypeId} (hsh:jW P d s t=true) {v:Value} {x:DataW D} {ps:List MemPlace} {r:Reach} {b:Nat} (hok:Value.okWide P w r b t v) (ht:DataW.Trod enc P w base spare held t v x ps) (γ:Gm) (H:Hp) (h:LS γ H w) :
  ∃ γ' H' u a,LE γ H γ' H'∧LS γ' H' w∧VR γ' u v∧DR H'.get Fc a u∧∃ avs,TV s avs∧a=tA s avs:=by
 obtain ⟨fuel,ht⟩:=ht
 obtain ⟨hl,_⟩:=lk P d s t hsh fuel _ _ ht
 have agg:(∃ cs,v=.agg cs)→(∀ l,tA s l=.ag l)→∃ γ' H' u a,LE γ H γ' H'∧LS γ' H' w∧VR γ' u v∧DR H'.get Fc a u∧∃ avs,TV s avs∧a=tA s avs:=by
  rintro ⟨cs,rfl⟩ hs
  exact Ls hs hl γ H h
 cases d with
 | zero=>simp [jW] at hsh
 | succ d =>
  cases s with
  | int k =>
   unfold jW at hsh
   split at hsh
   ·rename_i k' hu
    unfold Value.okWide at hok
    rw [hu] at hok
    simp only [Cell.okWide,hu,Cell.ok] at hok
    cases v <;> simp at hok
    exact ue rfl (fun _=>rfl) rfl hl γ H h
   ·cases hsh
  | bool =>
   unfold jW at hsh
   split at hsh
   ·rename_i hu
    unfold Value.okWide at hok
    rw [hu] at hok
    simp only [Cell.okWide,hu,Cell.ok] at hok
    cases v <;> simp at hok
    exact ue rfl (fun _=>rfl) rfl hl γ H h
   ·cases hsh
  | str =>
   unfold jW at hsh
   split at hsh
   ·rename_i hu
    unfold Value.okWide at hok
    rw [hu] at hok
    simp only [Cell.okWide,hu,Cell.ok] at hok
    cases v <;> simp at hok
    exact ue rfl (fun _=>rfl) rfl hl γ H h
   ·cases hsh
  | slice s =>
   unfold jW at hsh
   split at hsh
   ·rename_i e hu
    unfold Value.okWide at hok
    rw [hu] at hok
    simp only [Cell.okWide,hu,Cell.ok] at hok
    cases v <;> simp at hok
    exact ue rfl (fun _=>rfl) rfl hl γ H h
   ·cases hsh
  | nil =>
   unfold jW at hsh
   split at hsh
   ·rename_i fs hu
    unfold Value.okWide at hok
    rw [hu] at hok
    exact agg ⟨_,hok.choose_spec.1⟩ (fun _=>rfl)
   ·cases hsh
  | cons s l =>
   unfold jW at hsh
   split at hsh
   ·rename_i fs hu
    unfold Value.okWide at hok
    rw [hu] at hok
    exact agg ⟨_,hok.choose_spec.1⟩ (fun _=>rfl)
   ·cases hsh
  | arr n s =>
   unfold jW at hsh
   split at hsh
   ·rename_i m e hu
    unfold Value.okWide at hok
    rw [hu] at hok
    exact agg ⟨_,hok.choose_spec.1⟩ (fun _=>rfl)
   ·cases hsh
def ym (P:Program) (d:Nat):List Sh→List TypeId→Bool
 | [],[]=>true
 | s :: l,t :: ts=>jW P d s t && ym P d l ts
 | _,_=>false
theorem B3 {d:Nat} {r:Reach} {b:Nat}:∀ {ss:List Sh} {ts:List TypeId} {vs:List Value} {ds:List (DataW D)} {ps:List MemPlace},ym P d ss ts=true→DataW.TrodAll enc P w base spare held ts vs ds ps →
  (∀ (j:Nat) t v,ts[j]?=some t→vs[j]?=some v→Value.okWide P w r b t v)→∀ (γ:Gm) (H:Hp),LS γ H w→∃ γ' H' us as,LE γ H γ' H'∧LS γ' H' w∧bX γ' us vs∧pH H'.get Fc as us∧DM ss as
 | [],[],[],[],ps,_,_,_,γ,H,h=>⟨γ,H,[],[],.refl,h,bX.nil γ,⟨rfl,fun i a u x=>by cases x⟩,trivial⟩
 | s :: ss,t :: ts,v :: vs,x :: ds,ps,hs,ht,hok,γ,H,h=>by
  simp only [ym,Bool.and_eq_true] at hs
  obtain ⟨p,q,h1,h2,_⟩:=ht
  obtain ⟨γ1,H1,u,a,e1,q1,v1,d1,t1⟩:=Lt hs.1 (hok 0 t v rfl rfl) h1 γ H h
  obtain ⟨γ2,H2,us,as,e2,q2,v2,d2,t2⟩:=B3 hs.2 h2 (fun j t v a b=>hok (j+1) t v (by simpa using a) (by simpa using b)) γ1 H1 q1
  refine ⟨γ2,H2,u :: us,a :: as,e1.trans e2,q2,bX.cons (v1.mono e2.le) v2,⟨by simp [d2.1],fun i b w hb hw=>?_⟩,t1,t2⟩
  cases i with
  | zero=>cases hb;cases hw;exact e2.dr q1.wf d1
  | succ i=>exact d2.2 i b w (by simpa using hb) (by simpa using hw)
 | [],_ :: _,_,_,_,h,_,_,_,_,_=>by simp [ym] at h
 | _ :: _,[],_,_,_,h,_,_,_,_,_=>by simp [ym] at h
 | [],[],_ :: _,_,_,_,h,_,_,_,_=>by simp [DataW.TrodAll] at h
 | [],[],[],_ :: _,_,_,h,_,_,_,_=>by simp [DataW.TrodAll] at h
 | _ :: _,_ :: _,[],_,_,_,h,_,_,_,_=>by simp [DataW.TrodAll] at h
 | _ :: _,_ :: _,_ :: _,[],_,_,h,_,_,_,_=>by simp [DataW.TrodAll] at h
theorem LS.empty (w:World) (hg:∀ x ∈ GL,x.1 < w.heap.size∧GP (w.heap[x.1]?) x.2):LS ⟨fun _=>none,fun _=>0,w.heap.size⟩ Hp.empty w :=
 ⟨⟨fun k b o a h _=>(by cases h),fun k k' b o o' a a' h=>(by cases h),fun k b o h=>(by cases h),Nat.le_refl _,hg⟩,Bq,fun _ _=>rfl,fun k a h=>(by cases h)⟩
end
section
variable {T : bz} {tab : List XE} {one : Bool}
open Go.RowKit in
theorem DN (hT:cc T) (hm:T.P.follows .mixedOrders=true) (ht:∀ e ∈ tab,ak T e) {f:FuncId} {v:Value} (hf:aS v=true) {D:Type} {enc:TypeId × Value→D} {base:Nat} {spare:Nat→Bool} {held:Bool} {d:Nat} {r:Reach} {b:Nat}
  {ss:List Sh} {ts:List TypeId} {args:Array Value} {ds:List (DataW D)} {ps:List MemPlace} {w:World} (hs:ym T.P d ss ts=true) (htr:DataW.TrodAll enc T.P w base spare held ts args.toList ds ps)
  (hok:∀ (j:Nat) t v,ts[j]?=some t→args.toList[j]?=some v→Value.okWide T.P w r b t v) (hp:∀ as,DM ss as→ah T tab one (.fn f [] []) as (.fl v))
  (hgl:∀ x ∈ GL,x.1 < w.heap.size∧GP (w.heap[x.1]?) x.2:=by intro x hx;exact absurd hx (by simp [GL])) :
  Calls T.P f args w fun e w'=>e=.returned v∧Below w.heap.size w w':=by
 obtain ⟨γ,H,us,as,e,q,v1,d1,t1⟩:=B3 hs htr hok _ _ (LS.empty w hgl)
 obtain ⟨goal,hg,m,L,h1,_,h3⟩:=(hp as t1).2 Fc H (.func (.func f) #[] #[]) us q.wf (fun k h=>h.elim) (.fn rfl rfl (fun i x u h=>by cases h) (fun i x u h=>by cases h)) d1
 have hgoal:goal=.fn f us:=by
  have:cF (.func (.func f) #[] #[]) us=some (.fn f us):=by simp [cF]
  rw [this] at hg
  exact (Option.some.inj hg).symm
 subst hgoal
 have hS:cx T (RX T tab m) m:=Bs ht (vk hT hm ht m)
 have hN:∃ N,∀ r ∈ L,r.hp.n≤N:=by
  clear h3 h1
  rename_i hone
  clear hone
  induction L with
  | nil=>exact ⟨0,fun r hr=>by cases hr⟩
  | cons a l ih =>
   obtain ⟨N,hN⟩:=ih
   refine ⟨max a.hp.n N,fun r hr=>?_⟩
   rcases List.mem_cons.1 hr with rfl|hr
   ·omega
   ·have:=hN r hr;omega
 obtain ⟨N,hN⟩:=hN
 have hB:γ.B=w.heap.size:=e.le.B
 have hc:=(hS.call f us H L h1).2 γ w args.toList N q.wf q.hr (fun k hk _=>q.fr k hk) hN v1
 refine callsIn_wide.1 (CallsIn.mono (F:=FW none) hc fun en w' hR=>?_)
 obtain ⟨x,hp',x',γ1,hmem,rfl,hv,hst⟩:=hR
 obtain ⟨y,H',hy,_,_,_,_,hdr⟩:=h3 _ hmem
 cases hy
 have hx:x=v:=by
  cases hdr with
  | fl h=>rfl
 subst hx
 refine ⟨by rw [hv.bC hf],?_⟩
 rw [←hB]
 exact hst.h9.below q.hr
end
end Go.RM
namespace Go.RM
open Go
def bO (a b:AV):Prop:=∀ (ρ:Nat→Nat→Option Nat) (g:aH) (O:Nat→Prop) (u:Value),AR ρ g O a u→AR ρ g O b u
theorem bO.refl (a:AV):bO a a:=fun _ _ _ _ h=>h
theorem bO.of {a b:AV} (h:a=b):bO a b:=h ▸ .refl a
theorem bO.nil (b:Bool):bO (.fl (.slice none 0 0)) (.sl [] b):=fun _ _ _ u h=>by
 rw [h.dL.1]
 exact .d .nil
theorem bO.full {els:List (List AV)} {f:Bool}:bO (.sl els f) (.sl els false):=fun _ _ _ u h=>by
 have h:=h.deep rfl
 cases h with
 | nil=>exact .d .nil
 | sl h1 h2 h3 h4 h5 h6 h7=>exact .d (.sl h1 h2 h3 h4 h5 h6 (fun h=>by cases h))
def zZ (fr:Nat→AV):List (Nat × AV)→Prop
 | []=>True
 | (i,v) :: l=>bO (fr i) v∧zZ fr l
theorem yp {fr:Nat→AV}:∀ {l:List (Nat × AV)},zZ fr l→∀ t,bO (fr t) (bx l t)
 | [],_,t=>fun _ _ _ _ _=>.bM
 | (i,v) :: l,h,t=>by
  unfold bx
  rw [Tr.beq_eq]
  by_cases hti:t=i
  ·rw [decide_eq_true hti,hti]
   exact h.1
  ·rw [decide_eq_false hti]
   exact yp h.2 t
variable {T : bz} {tab : List XE} {one : Bool}
theorem aj.soft {st:bK} {l:List (Nat × AV)} (h:zZ st.fr l):aj st ⟨bx l,st.hp,st.aE,st.rd,st.fl⟩ :=
 ⟨rfl,fun E _ _ hs=>⟨E,⟨hs.h,hs.rd,fun t=>yp h t _ _ _ _ (hs.fr t)⟩,.refl⟩⟩
theorem aj.NC {st:bK} {l:List (Nat × AV)} {hp:List AB} (n:Nat) (hh:st.hp.take n=hp) (hs:zZ st.fr l) (hn:st.fl≤n) (hl:(l.all fun p=>p.2.ic n)=true) (hb:hp.all (AB.ic n)=true):aj st ⟨bx l,hp,st.aE,st.rd,st.fl⟩:=by
 subst hh
 exact (aj.soft hs).trans (aj.cut hn (vK hl) hb)
def dS:List AV→List AV→Prop
 | [],[]=>True
 | a :: l,b :: m=>bO a b∧dS l m
 | _,_=>False
theorem dS.Gd {a x:AV} (h:bO a x):dS [a] [x]:=⟨h,trivial⟩
theorem dS.two {a b x y:AV} (h:bO a x) (k:bO b y):dS [a,b] [x,y]:=⟨h,k,trivial⟩
theorem dS.three {a b c x y z:AV} (h:bO a x) (k:bO b y) (l:bO c z):dS [a,b,c] [x,y,z]:=⟨h,k,l,trivial⟩
theorem dS.cons {a x:AV} {as xs:List AV} (h:bO a x) (k:dS as xs):dS (a :: as) (x :: xs):=⟨h,k⟩
theorem dS.nil:dS [] []:=trivial
theorem dS.AE {ρ:Nat→Nat→Option Nat} {g:aH} {O:Nat→Prop}:∀ {as bs:List AV} {us:List Value},dS as bs→fy ρ g O as us→fy ρ g O bs us
 | [],[],_,_,h=>h
 | a :: as,b :: bs,[],_,h=>absurd h.1 (by simp)
 | a :: as,b :: bs,u :: us,hs,h=>by
  have:=dS.AE hs.2 (us:=us) ⟨by simpa using h.1,fun i a u x y=>h.2 (i+1) a u (by simpa using x) (by simpa using y)⟩
  refine ⟨by simp [this.1],fun i c w hc hw=>?_⟩
  cases i with
  | zero=>cases hc;cases hw;exact hs.1 _ _ _ _ (h.2 0 a u rfl rfl)
  | succ i=>exact this.2 i c w (by simpa using hc) (by simpa using hw)
 | [],_ :: _,_,hs,_=>hs.elim
 | _ :: _,[],_,hs,_=>hs.elim
theorem av.soft {F:AV} {args vs:List AV} {hp:List AB} {aE:bG} {Q:AV→List AB→bG→Prop} (hs:dS args vs) (h:av T tab one F vs hp aE Q):av T tab one F args hp aE Q :=
 fun E base H u us hr hf ha=>h E base H u us hr hf (hs.AE ha)
theorem JR {mu:Tmp→Bool} {st:bK} {K:Exit→bK→Prop} (h:K .normal st):nt T tab one mu .skip st K:=h
theorem Lu {mu:Tmp→Bool} {a b:Code} {st:bK} {K:Exit→bK→Prop} (h:nt T tab one mu a st (vJ (fun s=>nt T tab one mu b s K) K)):nt T tab one mu (.seq a b) st K:=h
theorem Lv {mu:Tmp→Bool} {id:Nat} {ops:Array Oper} {st:bK} {K:Exit→bK→Prop} (h:wpOps T tab one mu ops.toList ops.toList st (K .normal)):nt T tab one mu (.region id ops false) st K:=h
theorem B4 {Q:bK→Prop} {K:Exit→bK→Prop} {s:bK} (h:Q s):vJ Q K .normal s:=h
theorem fA.fl (v:Value):fA (.fl v):=⟨rfl,fun _ _ _ _ h=>by cases h with|fl h=>exact .fl h⟩
theorem fA.list {l:List AV} (h:∀ a ∈ l,fA a) {g:aH} {O O':Nat→Prop} {us:List Value} (hd:∀ (i:Nat) (a:AV) (u:Value),l[i]?=some a→us[i]?=some u→DR g O a u) :
 ∀ (i:Nat) (a:AV) (u:Value),l[i]?=some a→us[i]?=some u→DR g O' a u:=fun i a u h1 h2=>(h a (List.mem_of_getElem? h1)).2 g O O' u (hd i a u h1 h2)
theorem B5 {l:List AV} (h:∀ a ∈ l,a.deep=true):cJ l=true:=by
 induction l with
 | nil=>rfl
 | cons a l ih =>
  simp only [cJ,Bool.and_eq_true]
  exact ⟨h a (by simp),ih fun b hb=>h b (List.mem_cons_of_mem _ hb)⟩
theorem fA.tp {l:List AV} (h:∀ a ∈ l,fA a):fA (.tp l):=⟨by simp only [AV.deep];exact B5 fun a ha=>(h a ha).1,fun _ _ _ _ hd=>by
 cases hd with
 | tp h1 h2=>exact .tp h1 (fA.list h h2)⟩
theorem fA.ag {l:List AV} (h:∀ a ∈ l,fA a):fA (.ag l):=⟨by simp only [AV.deep];exact B5 fun a ha=>(h a ha).1,fun _ _ _ _ hd=>by
 cases hd with
 | ag h1 h2=>exact .ag h1 (fA.list h h2)⟩
theorem nk.Gd {hp:List AB} {a x:AV} (h:Fz hp a x):nk hp [a] [x]:=⟨h,trivial⟩
theorem nk.two {hp:List AB} {a b x y:AV} (h:Fz hp a x) (k:Fz hp b y):nk hp [a,b] [x,y]:=⟨h,k,trivial⟩
theorem nk.three {hp:List AB} {a b c x y z:AV} (h:Fz hp a x) (k:Fz hp b y) (l:Fz hp c z):nk hp [a,b,c] [x,y,z]:=⟨h,k,l,trivial⟩
theorem nk.cons {hp:List AB} {a x:AV} {as xs:List AV} (h:Fz hp a x) (k:nk hp as xs):nk hp (a :: as) (x :: xs):=⟨h,k⟩
theorem nk.nil {hp:List AB}:nk hp [] []:=trivial
theorem ah.Lw {F:AV} {args vs:List AV} {v:AV} {hp:List AB} {aE:bG} (h:ah T tab one F vs v) (hF:F.deep=true) (hz:nk hp args vs) (hfree:fA v) {Q:AV→List AB→bG→Prop} (hq:Q v hp aE):av T tab one F args hp aE Q:=by
 intro E base H u us hr hf ha
 obtain ⟨hd,h⟩:=h
 obtain ⟨goal,hg,m,L,h1,h2,h3⟩:=h E.X H u us hr.wf (fun k hk=>hr.xn k hk) ((hf.deep hF).mono fun k b hk ho=>⟨hk,fun hx=>ho (.inr hx)⟩) (hz.dr hr (fun _ h=>h) ha)
 refine ⟨goal,hg,m,L,h1,h2,fun r hm=>?_⟩
 obtain ⟨w,H',rfl,hn,hwf,hsame,hlo,hv⟩:=h3 r hm
 have e:Ext base E hp H E hp H':=⟨hn,rfl,rfl,rfl,fun _ _ _ h=>h,fun _ h=>.inl h,fun k hk _=>hsame k hk,by have:=hr.bn;omega⟩
 refine ⟨w,H',rfl,E,v,hp,aE,hq,⟨hwf,fun j x aB hj hvx=>?_,hr.inj,fun j v k hk=>Nat.lt_of_lt_of_le (hr.rn j v k hk) hn,hr.fresh,hr.new,hr.sup,hr.gZ,hr.dx,hr.ds,fun k hk=>Nat.lt_of_lt_of_le (hr.sn k hk) hn,fun k hk=>Nat.lt_of_lt_of_le (hr.xn k hk) hn,hr.nJ,Nat.le_trans hr.bn hn,aE.st hr.aE (fun k hk=>hsame k (hr.sn k hk)) hn⟩,.d (hfree.2 _ _ _ _ hv),e.DG⟩
 rcases hr.fU j x aB hj hvx with ⟨k,b',q1,q2,q3⟩|q
 ·exact .inl ⟨k,b',q1,by rw [hsame k (hr.wf.lt q2)];exact q2,e.br hr.wf q3⟩
 ·exact .inr q
end Go.RM
