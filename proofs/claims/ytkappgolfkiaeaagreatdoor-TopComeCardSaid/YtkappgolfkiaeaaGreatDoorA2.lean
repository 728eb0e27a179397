/-
  A layer of contracts over the abstract machine. Lemmas alone; no condition.
-/
import Derived.Test.YtkappgolfkiaeaaGreatDoorA1
import Derived.OpenShut
import Derived.ChangeArms
import Derived.DataReads
import Derived.IntWalk
namespace Go.RM
open Go
structure cH where
 fr:Nat→AV
 hp:List AB
 aO:cz
 rd:Bool
 fl:Nat
structure l9 (fl base:Nat) (E:Env) (hp:List AB) (H:Hp) (E':Env) (hp':List AB) (H':Hp):Prop where
 n:H.n≤H'.n
 Cv:∀ j v k,j < fl→E.ρ j v=some k→E'.ρ j v=some k
 own:∀ k,Own E'.ρ hp' k→Own E.ρ hp k∨H.n≤k
 d:∀ k,E'.D k→E.D k∨H.n≤k
 x:∀ k,E'.X k→E.X k∨H.n≤k
 xk:∀ k,E.X k→E'.X k
 s:∀ k,E'.S k→E.S k∨H.n≤k
 same:∀ k,k < H.n→¬ Own E.ρ hp k→¬ E.D k→H'.get k=H.get k
 lo:min H.lo base≤H'.lo
section
variable {T : bL} {tab : List XE} {one : Bool} {fl base : Nat} {E E' E2 : Env} {hp hp' hp2 : List AB} {aO amb' : cz} {H H' H2 : Hp} {ρ : Nat → Nat → Option Nat} {g : aG} {O : Nat → Prop}
theorem l9.refl:l9 fl base E hp H E hp H:=⟨qq6 _,fun _ _ _ _ h=>h,fun _ h=>.inl h,fun _ h=>.inl h,fun _ h=>.inl h,fun _ h=>h,fun _ h=>.inl h,fun _ _ _ _=>rfl,Nat.min_le_left _ _⟩
theorem l9.trans (a:l9 fl base E hp H E' hp' H') (b:l9 fl base E' hp' H' E2 hp2 H2):l9 fl base E hp H E2 hp2 H2:=by
 have step:∀ {P P' P2:Nat→Prop},(∀ k,P' k→P k∨H.n≤k)→(∀ k,P2 k→P' k∨H'.n≤k)→∀ k,P2 k→P k∨H.n≤k:=by
  intro P P' P2 h1 h2 k hk
  rcases h2 k hk with h|h
  ·exact h1 k h
  ·exact .inr (Nat.le_trans a.n h)
 refine ⟨Nat.le_trans a.n b.n,fun j v k hl h=>b.Cv j v k hl (a.Cv j v k hl h),step a.own b.own,step a.d b.d,step a.x b.x,fun k h=>b.xk k (a.xk k h),step a.s b.s,fun k hk ho hd=>?_,?_⟩
 ·rw [b.same k (Nat.lt_of_lt_of_le hk a.n) (fun h=>(a.own k h).elim ho (fun h=>by omega)) (fun h=>(a.d k h).elim hd (fun h=>by omega)),a.same k hk ho hd]
 ·have:=a.lo;have:=b.lo;omega
theorem Ext.MD (e:Ext base E hp H E' hp' H'):l9 fl base E hp H E' hp' H' :=
 ⟨e.n,fun j v k _ h=>e.Cv j v k h,e.own,fun k h=>.inl (by rw [←e.d];exact h),fun k h=>.inl (by rw [←e.x];exact h),fun k h=>by rw [e.x];exact h,fun k h=>.inl (by rw [←e.s];exact h),fun k hk ho _=>e.same k hk ho,e.lo⟩
theorem l9.keep (e:l9 fl base E hp H E' hp' H') (h:aY E base hp aO H):∀ k b,H.get k=some b→¬ E.O hp k→H'.get k=some b∧¬ E'.O hp' k:=by
 intro k b hk ho;have hlt:=h.wf.lt hk;refine ⟨by rw [e.same k hlt (fun h=>ho (.inl h)) (fun hd=>ho (.inr (h.dx k hd)))];exact hk,fun h'=>?_⟩
 rcases h' with h'|h'
 ·rcases e.own k h' with h'|h'
  ·exact ho (.inl h')
  ·omega
 ·rcases e.x k h' with h'|h'
  ·exact ho (.inr h')
  ·omega
theorem l9.full (e:l9 hp.length base E hp H E' hp' H') (h:aY E base hp aO H):∀ j v k,E.ρ j v=some k→E'.ρ j v=some k:=fun j v k hk=>by
 by_cases hj:j < hp.length
 ·exact e.Cv j v k hj hk
 ·rw [h.new j v (by omega)] at hk;cases hk
theorem l9.low (e:l9 hp.length base E hp H E' hp' H') (h:aY E base hp aO H) (fl:Nat):l9 fl base E hp H E' hp' H':=⟨e.n,fun j v k _ hk=>e.full h j v k hk,e.own,e.d,e.x,e.xk,e.s,e.same,e.lo⟩
theorem l9.ar (e:l9 hp.length base E hp H E' hp' H') (h:aY E base hp aO H) {v:AV} {u:Value} (ha:AR E.ρ H.get (E.O hp) v u):AR E'.ρ H'.get (E'.O hp') v u:=ha.mono (e.full h) (e.keep h)
theorem l9.fr (e:l9 hp.length base E hp H E' hp' H') (h:aY E base hp aO H) {fr:Nat→AV} {tm:Tr Value} (hf:jX E.ρ H.get (E.O hp) fr tm):jX E'.ρ H'.get (E'.O hp') fr tm:=fun t=>e.ar h (hf t)
def wN (fr:Nat→AV) (d:Option Tmp) (v:AV):Nat→AV :=
 match d with
 | some d=>fun t=>bif Nat.beq t d then v else fr t
 | none=>fr
theorem sx {fr:Nat→AV} {tm:Tr Value} (h:jX ρ g O fr tm) {v:AV} {u:Value} (hv:AR ρ g O v u) (d:Option Tmp):jX ρ g O (wN fr d v) (fC tm d u):=by
 cases d with
 | none=>exact h
 | some d =>
  intro t;show AR ρ g O (bif Nat.beq t d then v else fr t) (((tm.set d u).get t).getD undef);rw [Tr.iG,Tr.beq_eq];by_cases htd:t=d
  ·rw [if_pos htd,decide_eq_true htd];exact hv
  ·rw [if_neg htd,decide_eq_false htd];exact h t
structure qN (E:Env) (base:Nat) (st:cH) (s:St):Prop where
 h:aY E base st.hp st.aO s.hp
 rd:s.rd=st.rd
 fr:jX E.ρ s.hp.get (E.O st.hp) st.fr s.fr
def aB (T:bL) (tab:List XE) (one:Bool) (F:AV) (args:List AV) (hp:List AB) (aO:cz) (Q:AV→List AB→cz→Prop):Prop :=
 ∀ (E:Env) (base:Nat) (H:Hp) (u:Value) (us:List Value),aY E base hp aO H→AR E.ρ H.get (E.O hp) F u→gE E.ρ H.get (E.O hp) args us→∃ goal,dD u us=some goal ∧
  ∃ m L,RX T tab m (jB H goal)=some L∧(one=true→∃ r,L=[r])∧∀ r ∈ L,∃ w H',r=.ret w H' ∧
   ∃ E' a hp' amb',Q a hp' amb'∧aY E' base hp' amb' H'∧AR E'.ρ H'.get (E'.O hp') a w∧l9 hp.length base E hp H E' hp' H'
def af (T:bL) (tab:List XE) (one:Bool) (F:AV) (args:List AV) (v:AV):Prop :=
 v.deep=true∧∀ (X:Nat→Prop) (H:Hp) (u:Value) (us:List Value),Wf H→(∀ k,X k→k < H.n)→DR H.get X F u→tD H.get X args us→∃ goal,dD u us=some goal ∧
  ∃ m L,RX T tab m (jB H goal)=some L∧(one=true→∃ r,L=[r])∧∀ r ∈ L,∃ w H',r=.ret w H' ∧
   H.n≤H'.n∧Wf H'∧(∀ k,k < H.n→H'.get k=H.get k)∧min H.lo H.n≤H'.lo∧DR H'.get X v w
theorem af.call {F:AV} {args:List AV} {v:AV} (h:af T tab one F args v) (hF:F.deep=true) (hargs:bG args=true) {Q:AV→List AB→cz→Prop} (hq:Q v hp aO):aB T tab one F args hp aO Q:=by
 intro E base H u us hr hf ha;obtain ⟨hd,h⟩:=h;obtain ⟨goal,hg,m,L,h1,h2,h3⟩:=h (E.O hp) H u us hr.wf (fun k hk=>hk.elim (fun h=>hr.kN h) (hr.xn k)) (hf.deep hF) (ha.deep hargs);refine ⟨goal,hg,m,L,h1,h2,fun r hm=>?_⟩;obtain ⟨w,H',rfl,hn,hwf,hsame,hlo,hv⟩:=h3 r hm;have e:Ext base E hp H E hp H':=⟨hn,rfl,rfl,rfl,fun _ _ _ h=>h,fun _ h=>.inl h,fun k hk _=>hsame k hk,by have:=hr.bn;omega⟩;refine ⟨w,H',rfl,E,v,hp,aO,hq,⟨hwf,fun j x aF hj hvx=>?_,hr.inj,fun j v k hk=>Nat.lt_of_lt_of_le (hr.rn j v k hk) hn,hr.fresh,hr.new,hr.sup,hr.jm,hr.dx,hr.ds,fun k hk=>Nat.lt_of_lt_of_le (hr.sn k hk) hn,fun k hk=>Nat.lt_of_lt_of_le (hr.xn k hk) hn,hr.qK,Nat.le_trans hr.bn hn,aO.st hr.aO (fun k hk=>hsame k (hr.sn k hk)) hn⟩,.d hv,e.MD⟩
 rcases hr.gT j x aF hj hvx with ⟨k,b',q1,q2,q3⟩|q
 ·exact .inl ⟨k,b',q1,by rw [hsame k (hr.wf.lt q2)];exact q2,e.br hr.wf q3⟩
 ·exact .inr q
theorem aB.mono {F:AV} {args:List AV} {Q Q':AV→List AB→cz→Prop} (h:aB T tab one F args hp aO Q) (hq:∀ a hp aO,Q a hp aO→Q' a hp aO):aB T tab one F args hp aO Q':=by intro E base H u us hr hf ha;obtain ⟨goal,hg,m,L,h1,h2,h3⟩:=h E base H u us hr hf ha;refine ⟨goal,hg,m,L,h1,h2,fun r hm=>?_⟩;obtain ⟨w,H',rfl,E',a,hp',amb',q1,q2⟩:=h3 r hm;exact ⟨w,H',rfl,E',a,hp',amb',hq _ _ _ q1,q2⟩
theorem wO:AR ρ g O (.tp []) undef:=.d (.tp rfl (fun i a u hx=>by cases hx))
def cG (ops:List Oper) (gd:Option (Nat × Bool)) (fr:Nat→AV) (yes no:Prop):Prop :=
 match gd with
 | none=>yes
 | some (j,want)=>match ops[j]? with
  | some ⟨some d,_,_,_,_,_⟩=>match fr d with
   | .fl (.bool b)=>(b=want→yes)∧(b=(!want)→no)
   | .tp _=>no
   | _=>False
  | _=>False
def gQ (d:Option Tmp) (fr:Nat→AV) (v:AV) (K:(Nat→AV)→Prop):Prop :=
 match d with
 | some d=>K fun t=>bif Nat.beq t d then v else fr t
 | none=>K fr
theorem eN {d:Option Tmp} {fr:Nat→AV} {v:AV} {K:(Nat→AV)→Prop} (h:gQ d fr v K):K (wN fr d v):=by cases d <;> exact h
def MO (mu:Tmp→Bool):Option Tmp→Bool
 | some d=>mu d
 | none=>false
def zj (P:Program) (v:AV) (name:String):AV :=
 match v with
 | .fl (.iface t x)=>match aK P (method (P.types.size+Made.depth) t x name) with
  | some (f,v)=>bif flat v then .fn f [sg v] [] else .cw
  | none=>.cw
 | _=>.cw
def TW (P:Program) (fr:Nat→AV):RC→AV
 | .op f=>bq fr f
 | .Gy r name=>zj P (bq fr r) name
theorem II {ρ:Nat→Nat→Option Nat} {g:aG} {O:Nat→Prop} {P:Program} {v:AV} {u:Value} (hr:AR ρ g O v u) (name:String):AR ρ g O (zj P v name) (vz P u name):=by
 unfold zj;split
 ·rename_i t x;obtain ⟨e1,_⟩:=hr.gq;rw [e1];unfold vz;simp only
  cases hp:aK P (method (P.types.size+Made.depth) t x name) with
  | none=>exact .cw
  | some p =>
   obtain ⟨f,v⟩:=p;simp only
   cases hv:flat v with
   | true =>
    simp only [cond_true];refine .fn (a:=[sg v]) (b:=[]) (a':=#[v]) (b':=#[]) rfl rfl (fun i x u hx hu=>?_) (fun i x u hx=>by cases hx)
    cases i with
    | zero =>cases hx;cases hu;exact lC hv
    | succ i=>cases hx
   | false=>exact .cw
 ·exact .cw
theorem AU {ρ:Nat→Nat→Option Nat} {g:aG} {O:Nat→Prop} {P:Program} {fr:Nat→AV} {tm:Tr Value} (h:jX ρ g O fr tm) (f:RC):AR ρ g O (TW P fr f) (mq P tm f):=by
 cases f with
 | op f=>exact lZ h f
 | Gy r name=>exact II (lZ h r) name
def sy (T:bL) (tab:List XE) (one:Bool) (mu:Tmp→Bool) (dst:Option Tmp) (op:Op) (fr:Nat→AV) (hp:List AB) (aO:cz) (rd:Bool) (fl:Nat) (K:cH→Prop):Prop :=
 match dF op with
 | .call f args=>force (TW T.P fr f) fun F=>fk (args.map (bq fr)) fun as=>aB T tab one F as hp aO fun v hp' amb'=>gQ dst fr v fun fr'=>K ⟨fr',hp',amb',rd,fl⟩
 | .next it=>one=false∧force (bq fr it) fun x=>AM x hp fun v hp'=>gQ dst fr v fun fr'=>K ⟨fr',hp',aO,rd,fl⟩
 | .plain=>wpOp T (MO mu dst) op fr hp fun v hp'=>force v fun v=>gQ dst fr v fun fr'=>K ⟨fr',hp',aO,rd,fl⟩
def wpOps (T:bL) (tab:List XE) (one:Bool) (mu:Tmp→Bool) (ops:List Oper):List Oper→cH→(cH→Prop)→Prop
 | [],st,K=>K st
 | ⟨dst,op,_,_,_,gd⟩ :: l,⟨fr,hp,aO,rd,fl⟩,K=>cG ops gd fr (sy T tab one mu dst op fr hp aO rd fl fun st'=>wpOps T tab one mu ops l st' K) (gQ dst fr (.tp []) fun fr'=>wpOps T tab one mu ops l ⟨fr',hp,aO,rd,fl⟩ K)
def qO {β:Type} (one:Bool) (L:List β) (P:β→Prop):Prop:=(one=true→∃ p,L=[p])∧∀ p ∈ L,P p
theorem qO.single {β:Type} {p:β} {P:β→Prop} (h:P p):qO one [p] P:=⟨fun _=>⟨p,rfl⟩,fun q hq=>by obtain rfl:=List.mem_singleton.1 hq;exact h⟩
theorem gu {α β:Type} {f:Nat→α→Option (List β)} {P:β→Prop} (mono:∀ n m x M,n≤m→f n x=some M→f m x=some M):∀ {L:List α} (n0:Nat),(one=true→∃ x,L=[x])→(∀ x ∈ L,∃ m M,f m x=some M∧qO one M P) →
  ∃ m M,n0≤m∧dj L (f m)=some M∧qO one M P
 | [],n0,h1,_=>⟨n0,[],qq6 _,rfl,⟨fun h=>absurd (h1 h) (fun ⟨x,hx⟩=>by cases hx),fun p hp=>by cases hp⟩⟩
 | [x],n0,_,h=>by obtain ⟨m,M,h1,h2⟩:=h x (by simp);exact ⟨max n0 m,M,Nat.le_max_left _ _,by rw [fP];exact mono m _ x M (Nat.le_max_right _ _) h1,h2⟩
 | x :: y :: l,n0,h1,h=>by
  have hone:one=false:=by
   cases hb:one with
   | false=>rfl
   | true=>obtain ⟨z,hz⟩:=h1 hb;cases hz
  have hno:one=true→False:=fun h=>by rw [hone] at h;cases h
  obtain ⟨m,M,a1,a2⟩:=h x (by simp);obtain ⟨m',M',b0,b1,b2⟩:=gu mono (L:=y :: l) (max n0 m) (fun h=>(hno h).elim) (fun z hz=>h z (List.mem_cons_of_mem _ hz));have hle:=Nat.max_le.1 b0;refine ⟨m',M++M',hle.1,?_,⟨fun h=>(hno h).elim,fun p hp=>?_⟩⟩
  ·rw [kE,mono m m' x M hle.2 a1];simp only [b1,Option.map_some]
  ·rcases List.mem_append.1 hp with hp|hp
   ·exact a2.2 p hp
   ·exact b2.2 p hp
def sA (E:Env) (base:Nat) (st:cH) (s:St) (K:cH→Prop) (s':St):Prop:=∃ E' st',K st'∧st'.fl=st.fl∧qN E' base st' s'∧l9 st.fl base E st.hp s.hp E' st'.hp s'.hp
theorem bD {b want:Bool} {yes no:Prop} (h:b=want) (y:yes):(b=want→yes)∧(b=(!want)→no):=by subst h;exact ⟨fun _=>y,fun h'=>by cases b <;> cases h'⟩
theorem bV {b want:Bool} {yes no:Prop} (h:b=(!want)) (n:no):(b=want→yes)∧(b=(!want)→no):=by subst h;exact ⟨fun h'=>(by cases want <;> cases h'),fun _=>n⟩
theorem MP {t:Bool} {a b:Prop} (h:t=true) (y:a):(t=true→a)∧(t=false→b):=by subst h;exact ⟨fun _=>y,fun h'=>by cases h'⟩
theorem PN {t:Bool} {a b:Prop} (h:t=false) (y:b):(t=true→a)∧(t=false→b):=by subst h;exact ⟨fun h'=>(by cases h'),fun _=>y⟩
theorem wP {ops:List Oper} {gd:Option (Nat × Bool)} {fr:Nat→AV} {tm:Tr Value} (hf:jX ρ g O fr tm) {yes no:Prop} (h:cG ops gd fr yes no):(bX ops tm gd=true∧yes)∨(bX ops tm gd=false∧no):=by
 unfold cG at h;unfold bX;split at h
 ·exact .inl ⟨rfl,h⟩
 ·rename_i j want;split at h
  ·rename_i d o1 o2 o3 o4 o5 ho;simp only [ho];split at h
   ·rename_i b hb;have:=hf d;rw [hb] at this;have hv:=this.gq.1
    cases hd:tm.get d with
    | none=>rw [hd] at hv;cases hv
    | some v =>rw [hd] at hv;simp only [Option.getD_some] at hv;subst hv;simp only;cases b <;> cases want <;> first|exact .inl ⟨rfl,h.1 rfl⟩|exact .inr ⟨rfl,h.2 rfl⟩
   ·rename_i vs hb;have:=hf d;rw [hb] at this;obtain ⟨us,hv,_⟩:=this.wG
    cases hd:tm.get d with
    | none=>exact .inr ⟨rfl,h⟩
    | some v =>rw [hd] at hv;simp only [Option.getD_some] at hv;subst hv;exact .inr ⟨rfl,h⟩
   ·exact h.elim
  ·exact h.elim
theorem lG {mu:Tmp→Bool} {ops:List Oper}:∀ {l:List Oper} {st:cH} {K:cH→Prop},wpOps T tab one mu ops l st K→∀ {E:Env} {base:Nat} {s:St},qN E base st s →
  ∃ m L,bU T (RX T tab m) ops l s=some L∧qO one L (sA E base st s K)
 | [],st,K,h,E,base,s,hs=>⟨0,[s],rfl,.single ⟨E,st,h,rfl,hs,.refl⟩⟩
 | o :: l,st,K,h,E,base,s,hs=>by
  have h:cG ops o.guard st.fr (sy T tab one mu o.dst o.op st.fr st.hp st.aO st.rd st.fl fun st'=>wpOps T tab one mu ops l st' K) (gQ o.dst st.fr (.tp []) fun fr'=>wpOps T tab one mu ops l ⟨fr',st.hp,st.aO,st.rd,st.fl⟩ K):=h
  rcases wP hs.fr h with ⟨hg,h⟩|⟨hg,h⟩
  ·
   have rest:∀ {E':Env} {st':cH} {s':St},st'.fl=st.fl→l9 st.fl base E st.hp s.hp E' st'.hp s'.hp→qN E' base st' s'→wpOps T tab one mu ops l st' K→∃ m L,bU T (RX T tab m) ops l s'=some L∧qO one L (sA E base st s K):=by intro E' st' s' hfl hfm hs' hw;obtain ⟨m,L,h1,h2,h3⟩:=lG hw hs';refine ⟨m,L,h1,h2,fun p hp=>?_⟩;obtain ⟨E2,st2,k1,k0,k2,k3⟩:=h3 p hp;rw [hfl] at k3;exact ⟨E2,st2,k1,k0.trans hfl,k2,hfm.trans k3⟩
   have fin:∀ (m0:Nat) (L0:List (Value × Hp)),(∀ m,m0≤m→gk T (RX T tab m) o.op s=some L0)→(one=true→∃ x,L0=[x])→(∀ p ∈ L0,∃ m L,bU T (RX T tab m) ops l ⟨fC s.fr o.dst p.1,p.2,s.rd⟩=some L∧qO one L (sA E base st s K)) →
     ∃ m L,bU T (RX T tab m) ops (o :: l) s=some L∧qO one L (sA E base st s K):=by
    intro m0 L0 h0 h1 h2;obtain ⟨m,M,hm,q1,q2⟩:=gu (one:=one) (f:=fun m (p:Value × Hp)=>bU T (RX T tab m) ops l ⟨fC s.fr o.dst p.1,p.2,s.rd⟩) (P:=sA E base st s K) (fun n m x M hnm hx=>kL (gH hnm) ops l _ M hx) m0 h1 h2;refine ⟨m,M,?_,q2⟩;rw [eJ,hg];simp only [cond_true,h0 m hm];exact q1
   unfold sy at h;split at h
   ·rename_i f args hk;have h:=fQ (ct h);obtain ⟨goal,hgo,m0,L0,q1,q2,q3⟩:=h E base s.hp _ _ hs.h (AU hs.fr f) (fM hs.fr args)
    have hval:∃ V,dj L0 valOf=some V∧(one=true→∃ x,V=[x])∧∀ p ∈ V,∃ r ∈ L0,r=.ret p.1 p.2:=by
     have:∀ (L:List gL),(∀ r ∈ L,∃ w H',r=gL.ret w H')→∃ V,dj L valOf=some V∧V.length=L.length∧∀ p ∈ V,∃ r ∈ L,r=.ret p.1 p.2:=by
      intro L
      induction L with
      | nil=>intro _;exact ⟨[],rfl,rfl,fun p hp=>by cases hp⟩
      | cons r L ih =>
       intro hr;obtain ⟨w,H',hrr⟩:=hr r (by simp);obtain ⟨V,v1,v2,v3⟩:=ih (fun r' h'=>hr r' (List.mem_cons_of_mem _ h'))
       cases L with
       | nil =>refine ⟨[(w,H')],by rw [fP,hrr];rfl,rfl,fun p hp=>?_⟩;obtain rfl:=List.mem_singleton.1 hp;exact ⟨r,by simp,hrr⟩
       | cons r2 L2 =>
        refine ⟨(w,H') :: V,?_,by simp [v2],fun p hp=>?_⟩
        ·rw [kE,hrr];simp only [valOf,v1,Option.map_some];rfl
        ·rcases List.mem_cons.1 hp with rfl|hp
         ·exact ⟨r,by simp,hrr⟩
         ·obtain ⟨r',m1,m2⟩:=v3 p hp;exact ⟨r',List.mem_cons_of_mem _ m1,m2⟩
     obtain ⟨V,v1,v2,v3⟩:=this L0 (fun r hr=>by obtain ⟨w,H',e,_⟩:=q3 r hr;exact ⟨w,H',e⟩);refine ⟨V,v1,fun h1=>?_,v3⟩;obtain ⟨r,hr⟩:=q2 h1;subst hr
     match V,v2 with
     | [x],_=>exact ⟨x,rfl⟩
    obtain ⟨V,v1,v2,v3⟩:=hval;refine fin m0 V (fun m hm=>?_) v2 (fun p hp=>?_)
    ·unfold gk;simp only [hk,hgo,gH hm _ _ q1];exact v1
    ·obtain ⟨r,hr,hrr⟩:=v3 p hp;obtain ⟨w,H',e1,E',a,hp',amb',k1,k2,k3,k4⟩:=q3 r hr;rw [hrr] at e1;cases e1;exact rest (st':=⟨wN st.fr o.dst a,hp',amb',st.rd,st.fl⟩) rfl (k4.low hs.h _) ⟨k2,hs.rd,sx (k4.fr hs.h hs.fr) k3 o.dst⟩ (eN k1)
   ·rename_i it hk;obtain ⟨hone,h⟩:=h;obtain ⟨L,q1,q2⟩:=yH hs.h (lZ hs.fr it) (ct h);refine fin 0 (L.map fun (v,e)=>(v,s.hp.app e)) (fun m _=>?_) (fun h1=>by rw [hone] at h1;cases h1) (fun p hp=>?_)
    ·unfold gk;simp only [hk,q1,Option.map_some]
    ·obtain ⟨x,hx,rfl⟩:=List.mem_map.1 hp;obtain ⟨E',a,hp',k1,k2,k3,k4⟩:=q2 x hx;exact rest (st':=⟨wN st.fr o.dst a,hp',st.aO,st.rd,st.fl⟩) rfl k3.MD ⟨k2,hs.rd,sx (k3.MD.fr hs.h hs.fr) k4 o.dst⟩ (eN k1)
   ·rename_i hk;obtain ⟨u,e,E',a,hp',r1,r2,r3,r4,r5⟩:=nA hs.h hs.fr h;refine fin 0 [(u,s.hp.app e)] (fun m _=>?_) (fun _=>⟨_,rfl⟩) (fun p hp=>?_)
    ·unfold gk;simp only [hk,r1]
    ·obtain rfl:=List.mem_singleton.1 hp;exact rest (st':=⟨wN st.fr o.dst a,hp',st.aO,st.rd,st.fl⟩) rfl r4.MD ⟨r3,hs.rd,sx (r4.MD.fr hs.h hs.fr) r5 o.dst⟩ (eN (ct r2))
  ·obtain ⟨m,L,h1,h2⟩:=lG (eN h) (E:=E) (base:=base) (s:=⟨fC s.fr o.dst undef,s.hp,s.rd⟩) ⟨hs.h,hs.rd,sx hs.fr wO o.dst⟩;refine ⟨m,L,?_,h2⟩;rw [eJ,hg];exact h1
def aE (T:bL) (tab:List XE) (one:Bool) (c:Code) (st:cH) (K:Exit→cH→Prop):Prop :=
 ∀ (E:Env) (base:Nat) (s:St),qN E base st s→∃ m L,bM T (RX T tab m) c s=some L∧qO one L fun p=>sA E base st s (K p.1) p.2
theorem aE.mono {c:Code} {st:cH} {K K':Exit→cH→Prop} (h:aE T tab one c st K) (hk:∀ e s,K e s→K' e s):aE T tab one c st K':=by intro E base s hs;obtain ⟨m,L,h1,h2,h3⟩:=h E base s hs;refine ⟨m,L,h1,h2,fun p hp=>?_⟩;obtain ⟨E',st',k1,k2⟩:=h3 p hp;exact ⟨E',st',hk _ _ k1,k2⟩
def IJ (st st':cH):Prop:=st'.hp=st.hp∧(st'.aO=st.aO∧st'.rd=st.rd)∧st'.fl=st.fl∧∀ t,st'.fr t=st.fr t∨st'.fr t=.cw
theorem IJ.rel {st st':cH} (h:IJ st st') {s:St} (hs:qN E base st s):qN E base st' s:=by
 obtain ⟨h1,⟨h2,h3⟩,h0,h4⟩:=h;refine ⟨by rw [h1,h2];exact hs.h,by rw [h3];exact hs.rd,fun t=>?_⟩;rw [h1]
 rcases h4 t with h|h
 ·rw [h];exact hs.fr t
 ·rw [h];exact .cw
def wQ (Kb:cH→Prop) (K:Exit→cH→Prop) (e:Exit) (s:cH):Prop :=
 match e with
 | .normal=>Kb s
 | e=>K e s
theorem aE.seq {a b:Code} {st:cH} {K:Exit→cH→Prop} (h:aE T tab one a st (wQ (fun s=>aE T tab one b s K) K)):aE T tab one (.seq a b) st K:=by
 intro E base s hs;obtain ⟨m0,L0,h1,h2,h3⟩:=h E base s hs
 obtain ⟨m,M,hm,q1,q2⟩:=gu (one:=one) (L:=L0) (f:=fun m (p:Exit × St)=>vD (bM T (RX T tab m) b) p) (P:=fun p=>sA E base st s (K p.1) p.2) (fun n m x M hnm hx=>by
   unfold vD at hx ⊢;split at hx
   ·exact fj (gH hnm) _ _ _ hx
   ·exact hx) m0 h2 (fun p hp=>by
  obtain ⟨E',st',k1,k0,k2,k3⟩:=h3 p hp;obtain ⟨e,s'⟩:=p;have other:(∀ st',wQ (fun s=>aE T tab one b s K) K e st'=K e st')→(vD (bM T (RX T tab 0) b) (e,s')=some [(e,s')])→∃ m M,vD (bM T (RX T tab m) b) (e,s')=some M∧qO one M fun p=>sA E base st s (K p.1) p.2:=by intro h1 h2;refine ⟨0,[(e,s')],h2,.single ⟨E',st',?_,k0,k2,k3⟩⟩;rw [←h1];exact k1
  cases e with
  | normal =>obtain ⟨m,M,r1,r2,r3⟩:=k1 E' base s' k2;refine ⟨m,M,r1,r2,fun q hq=>?_⟩;obtain ⟨E2,st2,j1,j0,j2,j3⟩:=r3 q hq;rw [k0] at j3;exact ⟨E2,st2,j1,j0.trans k0,j2,k3.trans j3⟩
  | _=>exact other (fun _=>rfl) rfl)
 refine ⟨m,M,?_,q2⟩;rw [pF,fj (gH hm) _ _ _ h1];exact q1
theorem aE.cond {c:Operand} {a b:Code} {st:cH} {K:Exit→cH→Prop} {t:Bool} (hc:bq st.fr c=.fl (.bool t)) (h1:t=true→aE T tab one a st K) (h2:t=false→aE T tab one b st K):aE T tab one (.cond c a b) st K:=by
 intro E base s hs;have:=lZ hs.fr c;rw [hc] at this;have hv:=this.gq.1
 cases t with
 | true =>obtain ⟨m,L,q1,q2⟩:=h1 rfl E base s hs;exact ⟨m,L,by rw [kF,hv];exact q1,q2⟩
 | false =>obtain ⟨m,L,q1,q2⟩:=h2 rfl E base s hs;exact ⟨m,L,by rw [kF,hv];exact q1,q2⟩
def jM (id:Nat) (K:Exit→cH→Prop) (e:Exit) (s:cH):Prop :=
 match e with
 | .exit id'=>bif Nat.beq id' id then K .normal s else K (.exit id') s
 | e=>K e s
theorem aE.block {id:Nat} {c:Code} {st:cH} {K:Exit→cH→Prop} (h:aE T tab one c st (jM id K)):aE T tab one (.block id c) st K:=by
 intro E base s hs;obtain ⟨m,L,q1,q2,q3⟩:=h E base s hs;refine ⟨m,L.map (gA id),by rw [lg,q1],fun h1=>?_,fun p hp=>?_⟩
 ·obtain ⟨p,hp⟩:=q2 h1;exact ⟨_,by rw [hp];rfl⟩
 ·obtain ⟨p0,hm,rfl⟩:=List.mem_map.1 hp;obtain ⟨E',st',k1,k2,k3⟩:=q3 p0 hm;obtain ⟨e,s'⟩:=p0;unfold jM at k1
  cases e with
  | exit id' =>
   simp only [gA];simp only at k1
   cases hb:Nat.beq id' id with
   | true=>rw [hb] at k1;exact ⟨E',st',k1,k2,k3⟩
   | false=>rw [hb] at k1;exact ⟨E',st',k1,k2,k3⟩
  | _=>exact ⟨E',st',k1,k2,k3⟩
theorem aE.ops {id:Nat} {ops:Array Oper} {mu:Tmp→Bool} {st:cH} {K:Exit→cH→Prop} (h:wpOps T tab one mu ops.toList ops.toList st (K .normal)):aE T tab one (.region id ops false) st K:=by
 intro E base s hs;obtain ⟨m,L,q1,q2,q3⟩:=lG h hs;refine ⟨m,L.map fun s=>(.normal,s),by rw [fG];simp only [cond_false,q1],fun h1=>?_,fun p hp=>?_⟩
 ·obtain ⟨p,hp⟩:=q2 h1;exact ⟨_,by rw [hp];rfl⟩
 ·obtain ⟨s',hm,rfl⟩:=List.mem_map.1 hp;exact q3 s' hm
theorem aE.here {c:Code} {e:Exit} {st:cH} {K:Exit→cH→Prop} (hc:∀ rec s,bM T rec c s=some [(e,s)]) (h:K e st):aE T tab one c st K :=
 fun E _ s hs=>⟨0,[(e,s)],hc _ _,.single ⟨E,st,h,rfl,hs,.refl⟩⟩
def tJ (K:Exit→cH→Prop) (e:Exit) (s:cH):Prop :=
 match e with
 | .goto _=>False
 | e=>K e s
theorem aE.scope {c:Code} {st:cH} {K:Exit→cH→Prop} (h:aE T tab one c st (tJ K)):aE T tab one (.scope c) st K:=by
 intro E base s hs;obtain ⟨m,L,q1,q2,q3⟩:=h E base s hs;refine ⟨m,L,?_,q2,fun p hp=>?_⟩
 ·rw [lz,q1];unfold vE;have:L.all noGoto=true:=by rw [List.all_eq_true];intro p hp;obtain ⟨_,_,k1,_⟩:=q3 p hp;obtain ⟨e,s'⟩:=p;cases e <;> first|rfl|exact k1.elim
  simp only [this,cond_true]
 ·obtain ⟨E',st',k1,k2⟩:=q3 p hp;refine ⟨E',st',?_,k2⟩;obtain ⟨e,s'⟩:=p;cases e <;> first|exact k1|exact k1.elim
end
section
variable {T : bL} {tab : List XE} {one : Bool} {fl base : Nat} {E E' E2 : Env} {hp hp' hp2 : List AB} {aO amb' : cz} {H H' H2 : Hp} {ρ : Nat → Nat → Option Nat} {g : aG} {O : Nat → Prop}
mutual
def AV.jN (n:Nat):AV→Bool
 | .fl _=>true
 | .sl _ _=>true
 | .pt _ _=>true
 | .fn _ a b=>iA n a && iA n b
 | .ag a=>iA n a
 | .tp a=>iA n a
 | .oq _=>true
 | .cw=>true
 | .ptr j _ _=>Nat.blt j n
 | .dw j _ _ _ _=>Nat.blt j n
 | .om j=>Nat.blt j n
def iA (n:Nat):List AV→Bool
 | []=>true
 | a :: l=>a.jN n && iA n l
end
theorem mH {n:Nat}:∀ {l:List AV},iA n l=true→∀ (i:Nat) (a:AV),l[i]?=some a→a.jN n=true
 | [],_,i,a,h=>by cases h
 | x :: l,h,i,a,ha=>by
  simp only [iA,qq7] at h
  cases i with
  | zero=>cases ha;exact h.1
  | succ i=>exact mH h.2 i a (by simpa using ha)
def fA (n:Nat) (ρ:Nat→Nat→Option Nat):Nat→Nat→Option Nat:=fun j v=>if j < n then ρ j v else none
theorem AR.jN {n:Nat} {v:AV} {u:Value} (h:AR ρ g O v u):v.jN n=true→AR (fA n ρ) g O v u:=by
 have lt:∀ {j:Nat},Nat.blt j n=true→j < n:=fun h=>Nat.le_of_ble_eq_true h
 induction h with
 | d h=>intro _;exact .d h
 | cw=>intro _;exact .cw
 | ptr h=>intro hd;simp only [AV.jN] at hd;exact .ptr (by rw [fA,if_pos (lt hd)];exact h)
 | dw h=>intro hd;simp only [AV.jN] at hd;exact .dw (by rw [fA,if_pos (lt hd)];exact h)
 | rZ=>intro _;exact .rZ
 | om h=>intro hd;simp only [AV.jN] at hd;exact .om (by rw [fA,if_pos (lt hd)];exact h)
 | fn ha hb h1 h2 ih1 ih2 =>intro hd;simp only [AV.jN,qq7] at hd;exact .fn ha hb (fun i x u hx hu=>ih1 i x u hx hu (mH hd.1 i x hx)) (fun i x u hx hu=>ih2 i x u hx hu (mH hd.2 i x hx))
 | ag ha h1 ih=>intro hd;simp only [AV.jN] at hd;exact .ag ha (fun i x u hx hu=>ih i x u hx hu (mH hd i x hx))
 | tp ha h1 ih=>intro hd;simp only [AV.jN] at hd;exact .tp ha (fun i x u hx hu=>ih i x u hx hu (mH hd i x hx))
def AB.jN (n:Nat):AB→Bool
 | .cells cs _ _=>iA n cs
 | .dQ _ _=>true
 | .map ents _=>ents.all fun p=>p.1.jN n && p.2.1.jN n
 | .iter j _ _ _=>Nat.blt j n
 | .gone=>true
def ai (st st':cH):Prop:=st'.fl=st.fl∧∀ (E:Env) (base:Nat) (s:St),qN E base st s→∃ E',qN E' base st' s∧l9 st.fl base E st.hp s.hp E' st'.hp s.hp
theorem ai.trans {a b c:cH} (h:ai a b) (k:ai b c):ai a c:=⟨k.1.trans h.1,fun E base s hs=>by
 obtain ⟨E1,h1,h2⟩:=h.2 E base s hs;obtain ⟨E2,k1,k2⟩:=k.2 E1 base s h1;rw [h.1] at k2
 exact ⟨E2,k1,h2.trans k2⟩⟩
theorem IJ.er {st st':cH} (h:IJ st st'):ai st st':=⟨h.2.2.1,fun E _ _ hs=>⟨E,h.rel hs,by rw [h.1];exact .refl⟩⟩
theorem aE.aS {c:Code} {st st':cH} {K:Exit→cH→Prop} (hw:ai st st') (h:aE T tab one c st' K):aE T tab one c st K:=by intro E base s hs;obtain ⟨E1,hs1,hf⟩:=hw.2 E base s hs;obtain ⟨m,L,h1,h2,h3⟩:=h E1 base s hs1;refine ⟨m,L,h1,h2,fun p hp=>?_⟩;obtain ⟨E',st2,k1,k0,k2,k3⟩:=h3 p hp;rw [hw.1] at k3;exact ⟨E',st2,k1,k0.trans hw.1,k2,hf.trans k3⟩
def bA:List (Nat × AV)→Nat→AV
 | [],_=>.cw
 | (i,v) :: l,t=>bif Nat.beq t i then v else bA l t
theorem FL {fr:Nat→AV}:∀ {l:List (Nat × AV)},(∀ p ∈ l,fr p.1=p.2)→∀ t,bA l t=fr t∨bA l t=.cw
 | [],_,t=>.inr rfl
 | (i,v) :: l,h,t=>by
  unfold bA;rw [Tr.beq_eq];by_cases hti:t=i
  ·rw [decide_eq_true hti];exact .inl (by rw [hti,h (i,v) (by simp)];rfl)
  ·rw [decide_eq_false hti];exact FL (fun p hp=>h p (List.mem_cons_of_mem _ hp)) t
def CH (fr:Nat→AV):List (Nat × AV)→Prop
 | []=>True
 | (i,v) :: l=>fr i=v∧CH fr l
theorem CH.mem {fr:Nat→AV}:∀ {l:List (Nat × AV)},CH fr l→∀ p ∈ l,fr p.1=p.2
 | [],_,p,hp=>by cases hp
 | (i,v) :: l,h,p,hp=>by
  rcases List.mem_cons.1 hp with rfl|hp
  ·exact h.1
  ·exact h.2.mem p hp
theorem ai.slots {st:cH} {l:List (Nat × AV)} {hp:List AB} (h:CH st.fr l) (hh:st.hp=hp):ai st ⟨bA l,hp,st.aO,st.rd,st.fl⟩ :=
 IJ.er ⟨hh.symm,⟨rfl,rfl⟩,rfl,fun t=>FL h.mem t⟩
theorem ai.cut {st:cH} {n:Nat} (hn:st.fl≤n) (hfr:∀ t,(st.fr t).jN n=true) (hh:(st.hp.take n).all (AB.jN n)=true):ai st ⟨st.fr,st.hp.take n,st.aO,st.rd,st.fl⟩:=by
 refine ⟨rfl,fun E base s hs=>?_⟩;have hr:=hs.h;rw [List.all_eq_true] at hh
 have hown:∀ k,Own (fA n E.ρ) (st.hp.take n) k→Own E.ρ st.hp k:=by
  rintro k ⟨j,b,aF,h1,h2,h3⟩;rw [List.getElem?_take] at h1;split at h1
  ·rename_i hlt;rw [fA,if_pos hlt] at h3;exact ⟨j,b,aF,h1,h2,h3⟩
  ·cases h1
 have hO:∀ k b,s.hp.get k=some b→¬ E.O st.hp k→s.hp.get k=some b∧¬ ({E with ρ:=fA n E.ρ}:Env).O (st.hp.take n) k :=
  fun k b hk ho=>⟨hk,fun h=>ho (h.imp (hown k) id)⟩
 have har:∀ {v:AV} {u:Value},AR E.ρ s.hp.get (E.O st.hp) v u→v.jN n=true→AR (fA n E.ρ) s.hp.get (({E with ρ:=fA n E.ρ}:Env).O (st.hp.take n)) v u :=
  fun h hi=>(h.jN hi).mono (fun _ _ _ h=>h) hO
 refine ⟨{E with ρ:=fA n E.ρ},⟨⟨hr.wf,fun j b aF hj hv=>?_,fun j j' aF ver' k h1 h2=>?_,fun j v k hk=>?_,fun j b aF v h1 h2 h3=>?_,fun j v hj=>?_,fun k hk=>hr.sup k (hown k hk),fun k hk=>hr.jm k (hown k hk),hr.dx,hr.ds,hr.sn,hr.xn,fun k hk=>hr.qK k (hk.imp (hown k) id),hr.bn,hr.aO⟩,hs.rd,fun t=>har (hs.fr t) (hfr t)⟩,
  ⟨qq6 _,fun j v k hj hk=>?_,fun k hk=>.inl (hown k hk),fun _ h=>.inl h,fun _ h=>.inl h,fun _ h=>h,fun _ h=>.inl h,fun _ _ _ _=>rfl,Nat.min_le_left _ _⟩⟩
 ·have hb:=hh b (List.mem_of_getElem? hj);rw [List.getElem?_take] at hj;split at hj
  ·rename_i hlt
   rcases hr.gT j b aF hj hv with ⟨k,b',q1,q2,q3⟩|⟨q1,q2⟩
   ·refine .inl ⟨k,b',by show fA _ _ _ _=_;rw [fA,if_pos hlt];exact q1,q2,?_⟩
    cases b with
    | cells cs es aF =>obtain ⟨cs',rfl,h⟩:=q3;exact ⟨cs',rfl,h.1,fun i a u ha hu=>har (h.2 i a u ha hu) (mH hb i a ha)⟩
    | dQ p q=>exact q3
    | map ents clock =>obtain ⟨es,rfl,h1,h2⟩:=q3;refine ⟨es,rfl,h1,fun i k v born x hx hy=>?_⟩;simp only [AB.jN,List.all_eq_true,qq7] at hb;have:=hb _ (List.mem_of_getElem? hx);exact ⟨har (h2 i k v born x hx hy).1 this.1,har (h2 i k v born x hx hy).2.1 this.2,(h2 i k v born x hx hy).2.2⟩
    | iter j since seen stepped =>obtain ⟨m,rfl,h⟩:=q3;refine ⟨m,rfl,?_⟩;show fA _ _ _ _=_;rw [fA,if_pos (show j < n from Nat.le_of_ble_eq_true hb)];exact h
    | gone=>exact q3
   ·exact .inr ⟨by show fA _ _ _ _=_;rw [fA,if_pos hlt];exact q1,q2⟩
  ·cases hj
 ·have key:∀ {j v:Nat},fA n E.ρ j v=some k→E.ρ j v=some k:=fun {j v} h=>by
   unfold fA at h;split at h
   ·exact h
   ·cases h
  exact hr.inj j j' aF ver' k (key h1) (key h2)
 ·have hk:fA n E.ρ j v=some k:=hk;unfold fA at hk;split at hk
  ·exact hr.rn _ _ _ hk
  ·cases hk
 ·rw [List.getElem?_take] at h1;split at h1
  ·rename_i hlt;show fA _ _ _ _=_;rw [fA,if_pos hlt];exact hr.fresh j b aF v h1 h2 h3
  ·cases h1
 ·show fA _ _ _ _=_;unfold fA;split
  ·rename_i hlt;refine hr.new j v ?_;simp only [List.length_take] at hj;omega
  ·rfl
 ·show fA _ _ _ _=_;rw [fA,if_pos (by omega)];exact hk
theorem wR {n:Nat}:∀ {l:List (Nat × AV)},(l.all fun p=>p.2.jN n)=true→∀ t,(bA l t).jN n=true
 | [],_,t=>rfl
 | (i,v) :: l,h,t=>by
  simp only [List.all_cons,qq7] at h;unfold bA
  cases Nat.beq t i with
  | true=>exact h.1
  | false=>exact wR h.2 t
theorem ai.to {st:cH} {l:List (Nat × AV)} {hp:List AB} (n:Nat) (hh:st.hp.take n=hp) (hs:CH st.fr l) (hn:st.fl≤n) (hl:(l.all fun p=>p.2.jN n)=true) (hb:hp.all (AB.jN n)=true):ai st ⟨bA l,hp,st.aO,st.rd,st.fl⟩:=by subst hh;exact (ai.slots hs rfl).trans (ai.cut hn (wR hl) hb)
def IK {σ:Type} (P:σ→Prop) (I:σ→cH) (m:σ→Nat) (K:Exit→cH→Prop) (x:σ) (e:Exit) (s:cH):Prop :=
 match e with
 | .normal=>∃ y,P y∧m y < m x∧ai s (I y)
 | e=>K e s
theorem aE.loop {σ:Type} {body:Code} {K:Exit→cH→Prop} (P:σ→Prop) (I:σ→cH) (m:σ→Nat) (h:∀ x,P x→aE T tab one body (I x) (IK P I m K x)):∀ x,P x→aE T tab one (.loop body) (I x) K:=by
 have key:∀ (n:Nat) (x:σ),P x→m x < n→∀ (E:Env) (base:Nat) (s:St),qN E base (I x) s→∃ k L,RX T tab k (.loop body s)=some L∧qO one L fun r=>∃ e s',r=.out e s'∧sA E base (I x) s (K e) s':=by
  intro n
  induction n with
  | zero=>intro x _ hx;omega
  | succ n ih =>
   intro x hP hx E base s hs;obtain ⟨k0,L0,h1,h2,h3⟩:=h x hP E base s hs
   obtain ⟨k,M,hk,q1,q2⟩:=gu (one:=one) (L:=L0) (f:=fun k (p:Exit × St)=>fe (RX T tab k) body p) (P:=fun r=>∃ e s',r=.out e s'∧sA E base (I x) s (K e) s') (fun a b p M hab hp=>by
     unfold fe at hp ⊢;split at hp
     ·exact gH hab _ _ hp
     ·exact hp) k0 h2 (fun p hp=>by
    obtain ⟨E',st',k1,kf,k2,k3⟩:=h3 p hp;obtain ⟨e,s'⟩:=p
    have other:(fe (RX T tab 0) body (e,s')=some [.out e s'])→K e st'→∃ m M,fe (RX T tab m) body (e,s')=some M∧qO one M fun r=>∃ e s',r=.out e s'∧sA E base (I x) s (K e) s' :=
     fun h1 h2=>⟨0,_,h1,.single ⟨e,s',rfl,E',st',h2,kf,k2,k3⟩⟩
    cases e with
    | normal =>obtain ⟨y,hPy,hy,hw⟩:=k1;obtain ⟨E1,hs1,hf1⟩:=hw.2 E' base s' k2;obtain ⟨k,L,r1,r2,r3⟩:=ih y hPy (by omega) E1 base s' hs1;refine ⟨k,L,r1,r2,fun r hr=>?_⟩;obtain ⟨e,s2,rfl,E2,st2,j1,jf,j2,j3⟩:=r3 r hr;have e1:(I y).fl=(I x).fl:=hw.1.trans kf;rw [e1] at j3;rw [kf] at hf1;exact ⟨e,s2,rfl,E2,st2,j1,jf.trans e1,j2,(k3.trans hf1).trans j3⟩
    | _=>exact other rfl k1)
   refine ⟨k+1,M,?_,q2⟩;rw [ML,qG,fj (gH hk) _ _ _ h1];exact q1
 intro x hP E base s hs;obtain ⟨k,L,h1,h2,h3⟩:=key (m x+1) x hP (Nat.lt_succ_self _) E base s hs
 obtain ⟨k',M,hk,q1,q2⟩:=gu (one:=one) (L:=L) (f:=fun _ (r:gL)=>BP r) (P:=fun p=>sA E base (I x) s (K p.1) p.2) (fun _ _ _ _ _ h=>h) k h2 (fun r hr=>by
  obtain ⟨e,s',rfl,h⟩:=h3 r hr
  exact ⟨0,_,rfl,.single h⟩)
 refine ⟨k',M,?_,q2⟩;rw [ng,gH hk _ _ h1];exact q1
inductive Fz (hp:List AB):AV→AV→Prop
 | deep {v:AV}:v.deep=true→Fz hp v v
 | nil {b:Bool}:Fz hp (.fl (.slice none 0 0)) (.sl [] b)
 | full {els:List (List AV)}:Fz hp (.sl els true) (.sl els false)
 | row {j aF o n c es:Nat} {cs:List AV} {els:List (List AV)} {b:Bool}:hp[j]?=some (.cells cs es aF)→o+n * es≤cs.length→els.length=n→(∀ el ∈ els,el.length=es)→els.flatten=(cs.drop o).take (n * es)→bG els.flatten=true→(b=true→c=n) →
  Fz hp (.dw j aF o n c) (.sl els b)
 | ag {a b:List AV}:a.length=b.length→(∀ (i:Nat) (x y:AV),a[i]?=some x→b[i]?=some y→Fz hp x y)→Fz hp (.ag a) (.ag b)
theorem Fz.dr {X:Nat→Prop} (h:aY E base hp aO H) (hX:∀ k,X k→E.X k) {r v:AV} (hf:Fz hp r v):∀ {u:Value},AR E.ρ H.get (E.O hp) r u→DR H.get X v u:=by
 have weak:∀ {v:AV} {u:Value},DR H.get (E.O hp) v u→DR H.get X v u:=fun h=>h.mono fun k b hk ho=>⟨hk,fun hx=>ho (.inr (hX k hx))⟩
 induction hf with
 | deep hd=>intro u ha;exact weak (ha.deep hd)
 | nil=>intro u ha;rw [ha.gq.1];exact .nil
 | full =>
  intro u ha
  cases weak ha.jL with
  | nil=>exact .nil
  | sl q1 q2 q3 q4 q5 q6 q7=>exact .sl q1 q2 q3 q4 q5 q6 (fun h=>Bool.noConfusion h)
 | row h1 h2 h3 h4 h5 h6 h7 =>
  rename_i j aF o n c es cs els b;intro u ha
  rcases ha.fT with ⟨k,hk,rfl⟩|⟨rfl,rfl,rfl⟩
  ·obtain ⟨cs',q1,q2⟩:=h.cells h1 hk;have hok:Own E.ρ hp k:=⟨j,_,aF,h1,rfl,hk⟩;have hnx:¬ X k:=fun hx=>h.jm k hok (hX k hx);refine .sl (es:=es) q1 hnx (by rw [←q2.1];exact h2) h3 (fun i el he=>h4 el (List.mem_of_getElem? he)) (fun i el jj a u he hx hu=>?_) h7;have hjj:jj < es:=by rw [←h4 el (List.mem_of_getElem? he)];exact (List.getElem?_eq_some_iff.1 hx).1
   have hat:=fH h4 i el jj he hjj;have hi:i < n:=by rw [←h3];exact (List.getElem?_eq_some_iff.1 he).1
   have qn:a.deep=true:=by refine gF h6 (i * es+jj) a ?_;rw [hat];exact hx
   rw [h5,List.getElem?_take,List.getElem?_drop] at hat;have hlt:i * es+jj < n * es:=by have:(i+1) * es≤n * es:=Nat.mul_le_mul_right _ hi;rw [Nat.add_mul,Nat.one_mul] at this;omega
   rw [if_pos hlt,hx,←Nat.add_assoc] at hat;exact weak ((q2.2 _ a u hat hu).deep qn)
  ·simp only [List.length_eq_zero_iff] at h3;subst h3;exact .nil
 | ag hl h1 ih =>
  rename_i a b;intro u ha
  have hal:∃ us:Array Value,u=.agg us∧gE E.ρ H.get (E.O hp) a us.toList:=by
   cases ha with
   | d h=>cases h with
    | ag ha h1=>exact ⟨_,rfl,ha,fun i a u x y=>.d (h1 i a u x y)⟩
   | ag ha h1=>exact ⟨_,rfl,ha,h1⟩
  obtain ⟨us,rfl,h2⟩:=hal;refine .ag (by rw [←hl];exact h2.1) (fun i x w hx hw=>?_);have hi:i < a.length:=by rw [hl];exact (List.getElem?_eq_some_iff.1 hx).1
  have hai:a[i]?=some a[i]:=List.getElem?_eq_getElem hi;exact ih i _ x hai hx (h2.2 i _ w hai hw)
def DK (hp:List AB):List AV→List AV→Prop
 | [],[]=>True
 | r :: rs,v :: vs=>Fz hp r v∧DK hp rs vs
 | _,_=>False
theorem DK.dr {X:Nat→Prop} (h:aY E base hp aO H) (hX:∀ k,X k→E.X k):∀ {rs vs:List AV} {us:List Value},DK hp rs vs→gE E.ρ H.get (E.O hp) rs us→tD H.get X vs us
 | [],[],us,_,ha=>⟨ha.1,fun i a u hx=>by cases hx⟩
 | r :: rs,v :: vs,[],_,ha=>absurd ha.1 (by simp)
 | r :: rs,v :: vs,u :: us,hf,ha=>by
  have:=DK.dr h hX hf.2 (us:=us) ⟨by simpa using ha.1,fun i a u x y=>ha.2 (i+1) a u (by simpa using x) (by simpa using y)⟩;refine ⟨by simp [this.1],fun i a w hx hw=>?_⟩
  cases i with
  | zero=>cases hx;cases hw;exact hf.1.dr h hX (ha.2 0 r u rfl rfl)
  | succ i=>exact this.2 i a w (by simpa using hx) (by simpa using hw)
 | [],_ :: _,_,hf,_=>hf.elim
 | _ :: _,[],_,hf,_=>by simp [DK] at hf
theorem CI (h:aY E base hp aO H) {t:TypeId} {a:AV} {u:Value} (ha:AR E.ρ H.get (E.O hp) a u) {K:AV→List AB→Prop} (hw:eF T t a hp K):∃ w b,eV T t u H.get=some (w,.none)∧K b hp∧AR E.ρ H.get (E.O hp) b w:=by
 unfold eF at hw;split at hw
 ·rename_i cs o und s bytes zero agg cJ cS hty;obtain ⟨k,d,cs',own,e,rfl,h1,h2,h3,h4⟩:=ha.cT.cT;unfold eV addr?;simp only [h1,cells?,hty];obtain ⟨u,a,e1,e2,e3⟩:=lD (ρ:=E.ρ) (fun i a u x y=>.d (h4 i a u x y)) h3 hw;rw [e1];exact ⟨u,a,rfl,e2,e3⟩
 ·rename_i j aF o und s bytes zero agg cJ cS hty;obtain ⟨cs,es,h1,h2⟩:=hw;obtain ⟨k,hk,rfl⟩:=ha.di;obtain ⟨cs',h3,h4⟩:=h.cells h1 hk;unfold eV addr?;simp only [h3,cells?,hty];obtain ⟨u,a,e1,e2,e3⟩:=lD (d:=0) (fun i a u x y=>h4.2 i a u x (by rw [Nat.zero_add] at y;exact y)) (by rw [h4.1];omega) h2;rw [Nat.zero_add] at e1;rw [e1];exact ⟨u,a,rfl,e2,e3⟩
 ·exact hw.elim
def PO (T:bL) (s:cH) (r:ResultVar) (K:AV→Prop):Prop :=
 match r with
 | .tmp t=>K (s.fr t)
 | .cell a t=>eF T t (s.fr a) s.hp fun v _=>K v
def qo (T:bL) (s:cH):List ResultVar→(List AV→Prop)→Prop
 | [],K=>K []
 | r :: rs,K=>PO T s r fun v=>qo T s rs fun vs=>K (v :: vs)
def AW:List AV→AV
 | [v]=>v
 | vs=>.tp vs
theorem lH {st:cH} {s:St} (hs:qN E base st s):∀ {rs:List ResultVar} {K:List AV→Prop},qo T st rs K→∃ us as,k7 T s.fr s.hp rs=some us∧K as∧gE E.ρ s.hp.get (E.O st.hp) as us
 | [],K,h=>⟨[],[],rfl,h,.nil⟩
 | r :: rs,K,h=>by
  have h:PO T st r fun v=>qo T st rs fun vs=>K (v :: vs):=h
  have one:∃ u a,yT T s.fr s.hp r=some u∧AR E.ρ s.hp.get (E.O st.hp) a u∧qo T st rs fun vs=>K (a :: vs):=by
   unfold PO at h
   cases r with
   | tmp t=>exact ⟨_,_,rfl,hs.fr t,h⟩
   | cell a t =>obtain ⟨u,b,r1,r2,r3⟩:=CI hs.h (hs.fr a) h;exact ⟨u,b,by unfold yT;simp only [r1,Option.map_some],r3,r2⟩
  obtain ⟨u,a,h1,h2,h3⟩:=one;obtain ⟨us,as,k1,k2,k3⟩:=lH hs h3;exact ⟨u :: us,a :: as,by unfold k7;simp only [h1,k1,Option.map_some],k2,.cons h2 k3⟩
def PR (T:bL) (rs:List ResultVar) (v:AV) (e:Exit) (s:cH):Prop :=
 match e with
 | .normal|.ret=>qo T s rs fun as=>∃ vs,DK s.hp as vs∧AW vs=v
 | _=>False
def CJ (args:List AV):Nat→AV:=fun t=>args.getD t .cw
def noEntry (tab:List XE) (f:FuncId):Bool:=tab.all fun e=>!Nat.beq e.f f
theorem pO {f:FuncId} (args:List Value) (H:Hp):∀ {tab:List XE},noEntry tab f=true→look tab f args H=none
 | [],_=>rfl
 | e :: l,h=>by
  simp only [noEntry,List.all_cons,qq7,Bool.not_eq_true'] at h;have h1:mF e f args H=none:=by unfold mF;rw [h.1];rfl
  show (match mF e f args H with|some r=>some r|none=>look l f args H)=none;rw [h1];exact pO args H h.2
theorem wS {args:List AV} {us:List Value} (h:gE ρ g O args us):jX ρ g O (CJ args) (setArgs .leaf 0 us):=by
 intro t;rw [uB,Tr.mz];unfold CJ;by_cases ht:t < args.length
 ·rw [if_pos ⟨qq5 _,by rw [←h.1];omega⟩,Nat.sub_zero,List.getD_eq_getElem?_getD,List.getElem?_eq_getElem ht,List.getElem?_eq_getElem (by rw [←h.1];exact ht:t < us.length)];exact h.2 t _ _ (List.getElem?_eq_getElem ht) (List.getElem?_eq_getElem _)
 ·rw [List.getD_eq_getElem?_getD,List.getElem?_eq_none (by omega)];exact .cw
theorem MQ {X:Nat→Prop} {vs:List AV} {us:List Value} (h:tD g X vs us):DR g X (AW vs) (dm us):=by
 have tup:∀ {vs:List AV} {us:List Value},tD g X vs us→DR g X (.tp vs) (.tuple us.toArray):=fun h=>.tp (by simpa using h.1) (fun i x u hx hu=>h.2 i x u hx (by simpa using hu))
 match vs,us,h with
 | [v],[u],h=>exact h.2 0 v u rfl rfl
 | [],[],h=>exact tup h
 | v :: w :: vs,u :: x :: us,h=>exact tup h
 | [],_ :: _,h=>exact absurd h.1 (by simp)
 | [_],[],h=>exact absurd h.1 (by simp)
 | [_],_ :: _ :: _,h=>exact absurd h.1 (by simp)
 | _ :: _ :: _,[],h=>exact absurd h.1 (by simp)
 | _ :: _ :: _,[_],h=>exact absurd h.1 (by simp)
theorem af.body {f:FuncId} {fn:Func} {c:Code} {first caps args:List AV} {v:AV} (hf:T.fn.get f=some fn) (hb:fn.body=some c) (hn:noEntry tab f=true) (hv:v.deep=true)
  (hw:aE T tab one c ⟨CJ (first++args++caps),[],cz.none,false,0⟩ (PR T fn.results.toList v)):af T tab one (.fn f first caps) args v:=by
 refine ⟨hv,fun X H u us hwf hX hF ha=>?_⟩
 cases hF with
 | fn l1 l2 d1 d2 =>
  rename_i a' b';have hfirst:tD H.get X first a'.toList:=⟨l1,d1⟩
  have hcaps:tD H.get X caps b'.toList:=⟨l2,d2⟩;have hall:=tD.append (tD.append hfirst ha) hcaps;refine ⟨.fn f (a'.toList++us++b'.toList),rfl,?_⟩
  let E:Env:=⟨fun _ _=>none,fun _=>False,fun _=>False,X⟩
  have hno:∀ k,¬ Own E.ρ [] k:=fun k ⟨j,b,aF,h,_⟩=>by cases h
  have hO:∀ k,E.O [] k→X k:=fun k h=>h.elim (fun h=>(hno k h).elim) id
  have hrel:aY E H.n [] cz.none H :=
   {wf:=hwf,gT:=fun j b aF h _=>(by cases h),inj:=fun j j' aF ver' k h=>(by cases h),rn:=fun j v k h=>(by cases h),fresh:=fun j b aF v h=>(by cases h),new:=fun _ _ _=>rfl,
    sup:=fun k h=>(hno k h).elim,jm:=fun k h=>(hno k h).elim,dx:=fun k h=>h.elim,ds:=fun k h=>h.elim,sn:=fun k h=>h.elim,xn:=hX,
    qK:=fun k h=>h.elim (fun h=>(hno k h).elim) (fun h=>h.elim),bn:=qq6 _,aO:=trivial}
  have harl:gE E.ρ H.get (E.O []) (first++args++caps) (a'.toList++us++b'.toList) :=
   ⟨hall.1,fun i a u x y=>.d ((hall.2 i a u x y).mono fun k b hk ho=>⟨hk,fun h=>ho (hO k h)⟩)⟩
  obtain ⟨m,L,h1,h2,h3⟩:=hw E H.n ⟨setArgs .leaf 0 (a'.toList++us++b'.toList),H,false⟩ ⟨hrel,rfl,wS harl⟩
  obtain ⟨m',M,hm,q1,q2,q3⟩:=gu (one:=one) (L:=L) (f:=fun _ (p:Exit × St)=>fE T fn.results.toList p) (P:=fun r=>∃ w H',r=.ret w H'∧H.n≤H'.n∧Wf H'∧(∀ k,k < H.n→H'.get k=H.get k)∧min H.lo H.n≤H'.lo∧DR H'.get X v w)
   (fun _ _ _ _ _ h=>h) m h2 (fun p hp=>by
    obtain ⟨E',st',k1,_,k2,k3⟩:=h3 p hp;obtain ⟨e,s'⟩:=p
    have done:(e=.normal∨e=.ret)→(qo T st' fn.results.toList fun as=>∃ vs,DK st'.hp as vs∧AW vs=v)→∃ (_:Nat) (M:List gL),fE T fn.results.toList (e,s')=some M∧qO one M fun r=>∃ w H',r=.ret w H'∧H.n≤H'.n∧Wf H'∧(∀ k,k < H.n→H'.get k=H.get k)∧min H.lo H.n≤H'.lo∧DR H'.get X v w:=by
     intro he hr;obtain ⟨ws,as,r1,⟨vs,r2,r3⟩,r4⟩:=lH k2 hr;refine ⟨0,[.ret (dm ws) s'.hp],?_,.single ⟨_,_,rfl,k3.n,k2.h.wf,fun k hk=>k3.same k hk (hno k) (fun h=>h),k3.lo,?_⟩⟩
     ·unfold fE
      rcases he with rfl|rfl <;> simp only [r1,Option.map_some]
     ·rw [←r3];exact MQ (r2.dr k2.h (fun k hk=>k3.xk k hk) r4)
    cases e with
    | normal=>exact done (.inl rfl) k1
    | ret=>exact done (.inr rfl) k1
    | _=>exact k1.elim)
  refine ⟨m'+1,M,?_,q2,q3⟩;show RX T tab (m'+1) (.call f _ H)=_;rw [AD,pO _ _ hn];simp only;rw [kG,hf];simp only [hb];rw [fj (gH hm) _ _ _ h1];exact q1
end
section
variable {T : bL} {tab : List XE} {one : Bool} {fl base : Nat} {E E' E2 : Env} {hp hp' hp2 : List AB} {aO amb' : cz} {H H' H2 : Hp} {ρ ρ2 : Nat → Nat → Option Nat} {g g2 : aG} {O O2 : Nat → Prop}
def Two (r:Option (Value × cv)) (K:AV→Prop) (R R2:AV→Value→Prop):Prop:=∃ u a,r=some (u,.none)∧K a∧R a u∧R2 a u
theorem GY {t:TypeId} {a:AV} {i:Nat} {u:Value} (ha:AR ρ g O a u) (hb:AR ρ2 g2 O2 a u) {K:AV→List AB→Prop} (hw:jY T t a i hp K):Two (dV T t u i) (K · hp) (AR ρ g O) (AR ρ2 g2 O2):=by
 unfold jY at hw;split at hw
 ·rename_i cs o fs s bytes z agg cJ cS hty;obtain ⟨off,s',h1,h2,h3⟩:=hw;obtain ⟨k,d,cs',own,e,rfl,q1,q2,q3,q4⟩:=ha.cT.cT;obtain ⟨k2,d2,cs2,own2,e2,hu,r1,r2,r3,r4⟩:=hb.cT.cT;simp only [Value.pointer.injEq,qq9,Addr.mk.injEq] at hu;obtain ⟨rfl,hd,_⟩:=hu;obtain rfl:d=d2:=by omega
  unfold dV addr?;simp only [hty,h1,Nat.ble_eq_true_of_le h2,cond_true];refine ⟨_,.pt cs (o+off),rfl,h3,?_,?_⟩ <;> unfold ptr <;> rw [Nat.add_assoc]
  ·exact .d (.pt q1 q2 q3 q4)
  ·exact .d (.pt r1 r2 r3 r4)
 ·rename_i j aF o fs s bytes z agg cJ cS hty;obtain ⟨off,s',h1,h2,h3⟩:=hw;obtain ⟨k,hk,rfl⟩:=ha.di;obtain ⟨k2,hk2,hu⟩:=hb.di;simp only [Value.pointer.injEq,qq9,Addr.mk.injEq,and_true] at hu;obtain rfl:=hu;unfold dV addr?;simp only [hty,h1,Nat.ble_eq_true_of_le h2,cond_true];exact ⟨_,_,rfl,h3,.ptr hk,.ptr hk2⟩
 ·exact hw.elim
theorem yK {t:TypeId} {a ix:AV} {u x:Value} (ha:AR ρ g O a u) (hb:AR ρ2 g2 O2 a u) (hx:AR ρ g O ix x) {K:AV→List AB→Prop} (hw:cP T t a ix hp K):Two (dW T t u x) (K · hp) (AR ρ g O) (AR ρ2 g2 O2):=by
 unfold cP at hw;split at hw
 ·rename_i j len el s bytes z agg cJ cS hj hty;have hix:=jq hj hx;obtain ⟨h0,hw⟩:=hw;unfold dW;simp only [hix,hty];split at hw
  ·obtain ⟨k,d,cs',own,e,rfl,q1,q2,q3,q4⟩:=ha.cT.cT;obtain ⟨k2,d2,cs2,own2,e2,hu,r1,r2,r3,r4⟩:=hb.cT.cT;simp only [Value.pointer.injEq,qq9,Addr.mk.injEq] at hu;obtain ⟨rfl,hd,_⟩:=hu;obtain rfl:d=d2:=by omega
   simp only [addr?];rw [lE h0];refine ⟨_,_,rfl,hw,?_,?_⟩ <;> unfold ptr <;> rw [Nat.add_assoc]
   ·exact .d (.pt q1 q2 q3 q4)
   ·exact .d (.pt r1 r2 r3 r4)
  ·obtain ⟨k,hk,rfl⟩:=ha.di;obtain ⟨k2,hk2,hu⟩:=hb.di;simp only [Value.pointer.injEq,qq9,Addr.mk.injEq,and_true] at hu;obtain rfl:=hu;simp only [addr?];rw [lE h0];exact ⟨_,_,rfl,hw,.ptr hk,.ptr hk2⟩
  ·exact hw.elim
 ·rename_i j el s bytes z agg cJ cS hj hty;have hix:=jq hj hx;unfold dW;simp only [hix,hty];split at hw
  ·rename_i els f;obtain ⟨el,⟨h0,h1⟩,h2,h3⟩:=hw
   have mk:∀ {g:aG} {O:Nat→Prop} {k o n c:Nat},DR g O (.sl els f) (.slice (some ⟨k,o,none⟩) n c)→n=els.length∧DR g O (.pt el 0) (ptr k (o+j.toNat * cS)):=by
    intro g O k o n c h
    cases h with
    | sl q1 q2 q3 q4 q5 q6 q7 =>
     rename_i es cs own e;have hlt:j.toNat < els.length:=(List.getElem?_eq_some_iff.1 h1).1;have hes:es=cS:=by rw [←q5 _ _ h1,h2]
     subst hes;have hle:(j.toNat+1) * es≤n * es:=Nat.mul_le_mul_right _ (by omega);rw [Nat.add_mul,Nat.one_mul] at hle;exact ⟨q4.symm,.pt (d:=o+j.toNat * es) (o:=0) q1 q2 (by rw [h2];omega) fun i a u hi hu=>q6 _ _ i a u h1 hi hu⟩
   have hlt:j.toNat < els.length:=(List.getElem?_eq_some_iff.1 h1).1;have h4:=ha.jL;have h5:=hb.jL
   cases h4 with
   | nil=>cases h1
   | sl q1 q2 q3 q4 q5 q6 q7 =>rename_i k o n c es cs own e;obtain ⟨e1,p1⟩:=mk (.sl q1 q2 q3 q4 q5 q6 q7:DR g O (.sl els f) (.slice (some ⟨k,o,none⟩) n c));obtain ⟨_,p2⟩:=mk h5;show Two (qa cS k o n j) _ _ _;rw [lE ⟨h0,by omega⟩];exact ⟨_,_,rfl,h3,.d p1,.d p2⟩
  ·rename_i i aF o n c;obtain ⟨h0,h1⟩:=hw
   rcases ha.fT with ⟨k,hk,rfl⟩|⟨rfl,rfl,rfl⟩
   ·rcases hb.fT with ⟨k2,hk2,hu⟩|⟨_,_,hu⟩
    ·simp only [Value.slice.injEq,qq9,Addr.mk.injEq,and_true] at hu;obtain rfl:=hu;show Two (qa cS k o n j) _ _ _;rw [lE h0];exact ⟨_,_,rfl,h1,.ptr hk,.ptr hk2⟩
    ·cases hu
   ·omega
  ·exact hw.elim
 ·exact hw.elim
theorem IL {t:TypeId} {cs:List AV} {o:Nat} {u:Value} (ha:AR ρ g O (.pt cs o) u) (hb:AR ρ2 g2 O2 (.pt cs o) u) (hc:∀ k b,g2 k=some b→¬ O2 k→g k=some b) {K:AV→List AB→Prop} (hw:eF T t (.pt cs o) hp K) :
  Two (eV T t u g) (K · hp) (AR ρ g O) (AR ρ2 g2 O2):=by
 unfold eF at hw;split at hw
 ·rename_i cs0 o0 und s bytes zero agg cJ cS hpt hty;cases hpt;obtain ⟨k,d,cs',own,e,rfl,h1,h2,h3,h4⟩:=ha.cT.cT;obtain ⟨k2,d2,cs2,own2,e2,hu,r1,r2,r3,r4⟩:=hb.cT.cT;simp only [Value.pointer.injEq,qq9,Addr.mk.injEq] at hu;obtain ⟨rfl,hd,_⟩:=hu;obtain rfl:d=d2:=by omega
  have:=hc _ _ r1 r2;rw [h1] at this;cases this;unfold eV addr?;simp only [h1,cells?,hty];unfold Cw at hw
  cases agg with
  | true =>
   obtain ⟨w1,w2⟩:=hw;simp only [cond_true];rw [oK (by omega)]
   have mk:∀ {ρ:Nat→Nat→Option Nat} {g:aG} {O:Nat→Prop},(∀ (i:Nat) (a:AV) (u:Value),cs[i]?=some a→cs'[d+i]?=some u→DR g O a u)→AR ρ g O (.ag ((cs.drop o).take s)) (.agg ((cs'.drop (d+o)).take s).toArray):=by
    intro ρ g O h;refine .d (.ag ?_ ?_)
    ·simp;omega
    ·intro i x u hx hu;simp only [List.getElem?_take,List.getElem?_drop] at hx hu;split at hx
     ·rw [if_pos (by assumption)] at hu;exact h _ x u hx (by rw [←Nat.add_assoc];exact hu)
     ·cases hx
   exact ⟨_,_,rfl,w2,mk h4,mk r4⟩
  | false =>obtain ⟨v,w1,w2⟩:=hw;have hlt:=(List.getElem?_eq_some_iff.1 w1).1;have hcc:cs'[d+o]?=some (cs'[d+o]'(by omega)):=List.getElem?_eq_getElem _;simp only [cond_false];rw [hcc];exact ⟨_,v,rfl,w2,.d (h4 o v _ w1 hcc),.d (r4 o v _ w1 hcc)⟩
 ·rename_i hpt _;cases hpt
 ·exact hw.elim
theorem CK {a:AV} {i:Nat} {u:Value} (ha:AR ρ g O a u) (hb:AR ρ2 g2 O2 a u) {K:AV→List AB→Prop} (hw:ki a i hp K):Two (gi u i) (K · hp) (AR ρ g O) (AR ρ2 g2 O2):=by
 unfold ki at hw;split at hw
 ·obtain ⟨v,h1,h2⟩:=hw;obtain ⟨us,rfl,h3⟩:=ha.wG;obtain ⟨us2,hu,h3'⟩:=hb.wG;cases hu;obtain ⟨x,h4,h5⟩:=h3.get h1;unfold gi;simp only [h4,Option.map_some];exact ⟨_,_,rfl,h2,h5,h3'.2 i v x h1 h4⟩
 ·exact hw.elim
theorem MR {a:AV} {u:Value} (ha:AR ρ g O a u) (hb:AR ρ2 g2 O2 a u) {K:AV→List AB→Prop} (hw:sk a hp K):Two (jc u) (K · hp) (AR ρ g O) (AR ρ2 g2 O2):=by
 unfold sk at hw;split at hw
 ·obtain ⟨k,d,cs',own,e,rfl,_⟩:=ha.cT.cT;exact ⟨_,_,rfl,hw,ha,hb⟩
 ·obtain ⟨k,hk,rfl⟩:=ha.di;exact ⟨_,_,rfl,hw,ha,hb⟩
 ·exact hw.elim
def zk (o:Op) (fr:Nat→AV):Option (List Operand) :=
 match o with
 | .move x=>some [x]
 | .assign x=>some [x]
 | .fieldAddr _ a _=>some [a]
 | .indexAddr _ a _=>some [a]
 | .extract x _=>some [x]
 | .nilCheck x=>some [x]
 | .load _ a=>match bq fr a with
  | .pt ..=>some [a]
  | _=>none
 | _=>none
theorem wT {own:Bool} {o:Op} {fr:Nat→AV} {tm:Tr Value} (hf:jX ρ g O fr tm) {xs:List Operand} (hm:zk o fr=some xs) (hb:∀ x ∈ xs,AR ρ2 g2 O2 (bq fr x) (aQ tm x)) (hc:∀ k b,g2 k=some b→¬ O2 k→g k=some b)
  {n:Nat} {K:AV→List AB→Prop} (hw:wpOp T own o fr hp K):Two (iU T n o (aQ tm) g) (K · hp) (AR ρ g O) (AR ρ2 g2 O2):=by
 have ev:=fun x=>lZ hf x;unfold zk at hm;split at hm
 ·cases hm;exact ⟨_,_,rfl,hw,ev _,hb _ (by simp)⟩
 ·cases hm;exact ⟨_,_,rfl,hw,ev _,hb _ (by simp)⟩
 ·cases hm;exact GY (ev _) (hb _ (by simp)) hw
 ·cases hm;exact yK (ev _) (hb _ (by simp)) (ev _) hw
 ·cases hm;exact CK (ev _) (hb _ (by simp)) hw
 ·cases hm;exact MR (ev _) (hb _ (by simp)) hw
 ·split at hm
  ·rename_i t a _ cs oo hpt;cases hm;have e1:=ev a;have e2:=hb a (by simp);rw [hpt] at e1 e2;have hw:eF T t (bq fr a) hp K:=hw;rw [hpt] at hw;exact IL e1 e2 hc hw
  ·cases hm
 ·cases hm
structure Acc where
 own:Option Nat
 b:Nat
 wr:Bool
structure kj where
 i:Nat
 acc:List Acc
 al:Bool
 call:Bool
def sB (v:AV) (b:Nat) (wr:Bool):Option (List Acc) :=
 match v with
 | .pt ..|.sl ..=>some [⟨none,b,wr⟩]
 | .ptr j _ _|.dw j _ _ _ _|.om j=>some [⟨some j,b,wr⟩]
 | .fl _|.ag _|.tp _|.fn ..=>some []
 | _=>none
def Eh (o:Op) (fr:Nat→AV) (br:Operand→Nat):Option (List Acc) :=
 match o with
 | .load _ a=>sB (bq fr a) (br a) false
 | .store _ a _=>sB (bq fr a) (br a) true
 | .call ⟨.builtin .append,args,_⟩=>match args.toList with
  | [s,x]=>match sB (bq fr x) (br x) false,sB (bq fr s) (br s) true with
   | some l,some m=>some (l++m)
   | _,_=>none
  | _=>none
 | .call ⟨.builtin .len,args,_⟩=>match args.toList with
  | [x]=>sB (bq fr x) (br x) false
  | _=>none
 | .lookup _ m _ _=>sB (bq fr m) (br m) false
 | .mapEntry _ m _=>sB (bq fr m) (br m) true
 | .entryStore _ m _ _=>sB (bq fr m) (br m) true
 | .range ..|.next ..|.entry ..|.mapUpdate ..=>none
 | .call ⟨.builtin .clear,_,_⟩=>none
 | _=>some []
def news? (o:Op):Bool :=
 match o with
 | .move _|.assign _|.pick ..|.load ..|.store ..|.fieldAddr ..|.indexAddr ..|.index ..|.field ..|.binOp ..|.unOp ..|.convert ..|.makeInterface ..|.extract ..|.build ..|.makeFunc ..|.nilCheck ..|.slice ..|.lookup ..|.mapEntry ..|.entryStore ..=>false
 | .call ⟨.builtin .append,_,_⟩=>true
 | .call ⟨.builtin _,_,_⟩=>false
 | _=>true
theorem Ei {o:Option Value} {v:Value} {e:cv} (h:cW o=some (v,e)):e.news=false:=by obtain ⟨_,_,rfl⟩:=qB h;rfl
theorem map_none {o:Option Value} {v:Value} {e:cv} (h:(o.map fun v=>(v,cv.none))=some (v,e)):e.news=false:=by simp only [Option.map_eq_some_iff] at h;obtain ⟨_,_,q⟩:=h;cases q;rfl
theorem iN {c:Bool} {o:Option Value} {v:Value} {e:cv} (h:(bif c then cW o else none)=some (v,e)):e.news=false:=by
 cases c with
 | true=>exact Ei h
 | false=>cases h
theorem wU {n:Nat} {o:Op} {r:Operand→Value} {v:Value} {e:cv} (h:iU T n o r g=some (v,e)) (hn:news? o=false):e.news=false:=by
 have bin:∀ {o:BinOp} {t:TypeId} {x y:Operand} {a b:Value},eA T.P o t x y a b=some (v,e)→e.news=false:=by
  intro o t x y a b h;have slow:fS T.P o t x y a b=some (v,e)→e.news=false:=fun h=>by unfold fS at h;exact iN h
  unfold eA at h;split at h
  ·split at h
   ·cases h;rfl
   ·exact slow h
  ·rw [cond_eq_ite] at h;split at h
   ·unfold jA at h;split at h
    ·cases h;rfl
    ·cases h;rfl
    ·cases h
   ·cases h
  ·rw [cond_eq_ite] at h;split at h
   ·unfold jA at h;split at h
    ·cases h;rfl
    ·cases h;rfl
    ·cases h
   ·cases h
  ·exact slow h
 cases o <;> first
  | (simp only [news?,Bool.true_eq_false] at hn;done)
  | skip
 case move x=>simp only [iU] at h;cases h;rfl
 case assign x=>simp only [iU] at h;cases h;rfl
 case build t parts =>
  simp only [iU] at h;unfold qz at h;split at h
  ·rename_i und sz by' z cJ cS _
   cases hz:z.cells.toList.all bh with
   | true =>rw [hz] at h;simp only [cond_true,Option.map_eq_some_iff] at h;obtain ⟨_,_,q⟩:=h;cases q;rfl
   | false=>rw [hz] at h;cases h
  ·cases h
 case pick c a b =>
  simp only [iU] at h;unfold uw at h;split at h
  ·cases h;rfl
  ·cases h
 case load t a =>
  simp only [iU] at h;unfold eV at h;split at h
  ·split at h
   ·rename_i cs own es und s bytes zero agg cJ cS _ _;cases agg
    ·exact map_none h
    ·simp only [cond_true,Option.map_eq_some_iff] at h;obtain ⟨_,_,q⟩:=h;cases q;rfl
   ·cases h
  ·cases h
 case store t a x =>
  simp only [iU] at h;unfold eB at h;split at h
  ·split at h
   ·rename_i cs own es _ _ _ _ _ _ _ _ _;revert h;cases (own && Nat.beq (r x).cells.toList.length _ && _ && (r x).cells.toList.all bH) <;> intro h
    ·cases h
    ·cases h;rfl
   ·cases h
  ·cases h
 case fieldAddr t a i =>
  simp only [iU] at h;unfold dV at h;split at h
  ·split at h
   ·rename_i off s _;cases hb:Nat.ble 1 s <;> rw [hb] at h <;> cases h
    rfl
   ·cases h
  ·cases h
 case indexAddr t a ix =>
  simp only [iU] at h
  have idx:∀ {a b c:Nat} {j:Int},qa a b c n j=some (v,e)→e.news=false:=by
   intro a b c j h;unfold qa at h;cases hb:(HQ 0 j && Gx j (.ofNat n)) <;> rw [hb] at h <;> cases h
   rfl
  have idx:∀ {a b c d:Nat} {j:Int},qa a b c d j=some (v,e)→e.news=false:=by
   intro a b c d j h;unfold qa at h;cases hb:(HQ 0 j && Gx j (.ofNat d)) <;> rw [hb] at h <;> cases h
   rfl
  unfold dW at h;split at h
  ·split at h
   ·exact idx h
   ·cases h
  ·split at h
   ·exact idx h
   ·cases h
  ·cases h
 case index t a ix=>simp only [iU] at h;exact iN h
 case field t a i=>simp only [iU] at h;exact iN h
 case binOp o t x y p=>simp only [iU] at h;exact bin h
 case unOp o t x=>simp only [iU] at h;exact iN h
 case convert s d x=>simp only [iU] at h;exact iN h
 case makeInterface t x=>simp only [iU] at h;exact iN h
 case extract x i =>
  simp only [iU] at h;unfold gi at h;split at h
  ·exact map_none h
  ·cases h
 case lookup t m k ok=>simp only [iU] at h;exact map_none h
 case mapEntry t m k =>
  simp only [iU] at h;unfold eY at h;split at h
  ·split at h
   ·unfold mh at h;split at h
    ·split at h
     ·rename_i e _;cases hb:Instr.sameBits 10000 e.key (r k) <;> rw [hb] at h <;> cases h
      rfl
     ·cases h
    ·rename_i z _ _;cases hb:flat z <;> rw [hb] at h <;> cases h
     rfl
    ·cases h
   ·cases h
  ·cases h
 case entryStore t m s x =>
  simp only [iU,Option.map_eq_some_iff] at h;obtain ⟨e',h1,h2⟩:=h;cases h2;unfold dB at h1;split at h1
  ·split at h1
   ·split at h1
    ·cases h1;rfl
    ·cases h1
   ·cases h1
  ·cases h1
 case makeFunc f a b =>
  simp only [iU] at h;unfold mo at h;split at h
  ·cases h;rfl
  ·cases h
 case nilCheck x =>
  simp only [iU] at h;unfold jc at h;split at h
  ·cases h;rfl
  ·cases h
 case slice t x lo hi mx =>
  cases mx with
  | some _ =>
   cases hi with
   | none=>simp [iU] at h
   | some _ =>simp only [iU] at h;exact map_none h
  | none =>
   simp only [iU] at h;unfold gj at h;split at h
   ·exact iN h
   ·exact map_none h
   ·exact map_none h
 case call c =>
  obtain ⟨ce,args,tys⟩:=c
  cases ce with
  | builtin b =>
   have h:iE T n b (args.toList.map r) tys.toList g=some (v,e):=h;unfold iE at h;cases b <;> first|(simp [news?] at hn;done)|skip
   all_goals first|(simp at h;done)|skip
   case clear =>
    simp only at h;split at h
    ·unfold og at h;split at h
     ·split at h
      ·cases h;rfl
      ·cases h
     ·split at h
      ·rw [cond_eq_ite] at h;split at h
       ·cases h;rfl
       ·cases h
      ·cases h
     ·cases h
    ·cases h
   case len =>
    simp only at h;split at h
    ·unfold kA at h;repeat' split at h
     all_goals first|(simp only [qq9,Prod.mk.injEq] at h;obtain ⟨_,rfl⟩:=h;rfl)|(simp at h;done)
    ·simp at h
   case min =>
    simp only at h;unfold zY at h;split at h
    ·simp only [qq9,Prod.mk.injEq] at h;obtain ⟨_,rfl⟩:=h;rfl
    ·exact iN h
   case max =>
    simp only at h;unfold zZ at h;split at h
    ·simp only [qq9,Prod.mk.injEq] at h;obtain ⟨_,rfl⟩:=h;rfl
    ·exact iN h
  | _=>simp [iU,BN] at h
end
section
variable {T : bL} {tab : List XE} {one : Bool} {fl base : Nat} {E E' E2 : Env} {hp hp' hp2 : List AB} {aO amb' : cz} {H H' H2 : Hp} {ρ ρ2 : Nat → Nat → Option Nat} {g g2 : aG} {O O2 : Nat → Prop}
structure cI where
 E:Env
 hp:List AB
 H:Hp
abbrev cI.ar (z:cI):AV→Value→Prop:=AR z.E.ρ z.H.get (z.E.O z.hp)
structure mI (base:Nat) (aO:cz) (tr:Nat→cI) (i:Nat):Prop where
 rel:∀ b,b≤i→aY (tr b).E base (tr b).hp aO (tr b).H
 ext:∀ b c,b≤c→c≤i→Ext base (tr b).E (tr b).hp (tr b).H (tr c).E (tr c).hp (tr c).H
def snoc (tr:Nat→cI) (i:Nat) (z:cI):Nat→cI:=fun b=>if b≤i then tr b else z
theorem bF {tr:Nat→cI} {i:Nat} {z:cI} {b:Nat} (h:b≤i):snoc tr i z b=tr b:=if_pos h
theorem ck {tr:Nat→cI} {i:Nat} {z:cI} {b:Nat} (h:i < b):snoc tr i z b=z:=if_neg (by omega)
theorem mI.snoc {tr:Nat→cI} {i:Nat} {z:cI} (h:mI base aO tr i) (hz:aY z.E base z.hp aO z.H) (he:Ext base (tr i).E (tr i).hp (tr i).H z.E z.hp z.H):mI base aO (snoc tr i z) (i+1):=by
 refine ⟨fun b hb=>?_,fun b c hbc hc=>?_⟩
 ·by_cases hbi:b≤i
  ·rw [bF hbi];exact h.rel b hbi
  ·rw [ck (by omega)];exact hz
 ·by_cases hci:c≤i
  ·rw [bF hci,bF (by omega)];exact h.ext b c hbc hci
  ·rw [ck (by omega:i < c)];by_cases hbi:b≤i
   ·rw [bF hbi];exact (h.ext b i hbi (qq6 _)).trans he
   ·rw [ck (by omega)];exact .refl
def dS (tr:Nat→cI) (i:Nat) (p:Acc) (k:Nat):Prop :=
 p.b≤i∧k < (tr p.b).H.n∧match p.own with
  | some j=>∃ aF,(tr i).E.ρ j aF=some k∧(p.wr=true→Own (tr i).E.ρ (tr i).hp k)
  | none=>¬ (tr p.b).E.O (tr p.b).hp k
structure MS (tr:Nat→cI) (x:kj) (t:Tc):Prop where
 idx:t.idx=x.i
 a:t.a=(tr x.i).H.n
 b:t.b=(tr (x.i+1)).H.n
 al:x.al=false→x.call=false→t.a=t.b
 call:t.call=x.call
 rd:∀ k ∈ t.rd,∃ p ∈ x.acc,p.wr=false∧dS tr x.i p k
 wr:∀ k ∈ t.wr,∃ p ∈ x.acc,p.wr=true∧dS tr x.i p k
theorem dS.snoc {tr:Nat→cI} {i i0:Nat} {z:cI} {p:Acc} {k:Nat} (h:dS tr i0 p k) (hi:i0≤i):dS (snoc tr i z) i0 p k:=by obtain ⟨h1,h2,h3⟩:=h;refine ⟨h1,by rw [bF (by omega)];exact h2,?_⟩;rw [bF hi,bF (by omega)];exact h3
theorem MS.snoc {tr:Nat→cI} {i:Nat} {z:cI} {x:kj} {t:Tc} (h:MS tr x t) (hi:x.i < i):MS (snoc tr i z) x t :=
 ⟨h.idx,by rw [bF (by omega)];exact h.a,by rw [bF (by omega)];exact h.b,h.al,h.call,
  fun k hk=>by obtain ⟨p,a,b,c⟩:=h.rd k hk;exact ⟨p,a,b,c.snoc (by omega)⟩,fun k hk=>by obtain ⟨p,a,b,c⟩:=h.wr k hk;exact ⟨p,a,b,c.snoc (by omega)⟩⟩
def pP (i:Nat) (p q:Acc):Bool :=
 (!p.wr && !q.wr) || (match p.own,q.own with
  | some j,some j'=>!Nat.beq j j'
  | some _,none=>p.wr && Nat.ble q.b i
  | none,some _=>!p.wr
  | none,none=>false)
def AX (x y:kj):Bool :=
 x.acc.all (fun p=>y.acc.all (pP x.i p)) && ((!x.al && !x.call) || y.acc.all (fun q=>Nat.ble q.b x.i)) && (!x.call || y.acc.all (fun q=>!q.wr)) && (!y.call || x.acc.all (fun p=>!p.wr))
def pQ (b:List Nat):List kj→Bool
 | []=>true
 | y :: l=>l.all (fun x=>(b.getD y.i 0).testBit x.i || AX x y) && pQ b l
theorem qP {tr:Nat→cI} {n:Nat} (ht:mI base aO tr n) {i l:Nat} (hil:i < l) (hl:l≤n) {p q:Acc} {k:Nat} (hp:dS tr i p k) (hq:dS tr l q k) (hw:p.wr=true∨q.wr=true) (hf:pP i p q=true):False:=by
 obtain ⟨p1,p2,p3⟩:=hp;obtain ⟨q1,q2,q3⟩:=hq;have eil:=ht.ext i l (by omega) hl;have back:∀ {b c:Nat},b≤c→c≤n→Own (tr c).E.ρ (tr c).hp k→k < (tr b).H.n→Own (tr b).E.ρ (tr b).hp k:=fun hbc hcn ho hk=>((ht.ext _ _ hbc hcn).own k ho).elim id (fun h=>by omega);unfold pP at hf;rw [Bool.or_eq_true] at hf
 rcases hf with hf|hf
 ·simp only [qq7,Bool.not_eq_true'] at hf
  rcases hw with h|h
  ·rw [hf.1] at h;cases h
  ·rw [hf.2] at h;cases h
 ·cases hpo:p.own with
  | some j =>
   rw [hpo] at hf p3;obtain ⟨aF,r1,r2⟩:=p3
   cases hqo:q.own with
   | some j' =>rw [hqo] at hf q3;obtain ⟨ver',s1,s2⟩:=q3;have:=(ht.rel l hl).inj j j' aF ver' k (eil.Cv _ _ _ r1) s1;subst this;simp only [ny,Bool.not_true] at hf;cases hf
   | none =>rw [hqo] at hf q3;simp only [qq7] at hf;have hb:=Nat.le_of_ble_eq_true hf.2;exact q3 (.inl (back hb (by omega) (r2 hf.1) q2))
  | none =>
   rw [hpo] at hf p3
   cases hqo:q.own with
   | some j' =>
    rw [hqo] at hf q3;simp only [Bool.not_eq_true'] at hf;obtain ⟨ver',s1,s2⟩:=q3
    have hqw:q.wr=true:=by
     rcases hw with h|h
     ·rw [hf] at h;cases h
     ·exact h
    exact p3 (.inl (back (by omega) hl (s2 hqw) p2))
   | none=>rw [hqo] at hf;cases hf
theorem GZ {tr:Nat→cI} {n:Nat} (ht:mI base aO tr n) {x y:kj} {s t:Tc} (hs:MS tr x s) (hy:MS tr y t) (hxy:x.i < y.i) (hn:y.i≤n) (hf:AX x y=true):conflict s t=false:=by
 cases hc:conflict s t with
 | false=>rfl
 | true =>
  exfalso;unfold AX at hf;simp only [qq7,List.all_eq_true,Bool.or_eq_true,Bool.not_eq_true'] at hf;obtain ⟨⟨⟨f1,f2⟩,f3⟩,f4⟩:=hf;have two:∀ {k:Nat} {p q:Acc},p ∈ x.acc→q ∈ y.acc→dS tr x.i p k→dS tr y.i q k→(p.wr=true∨q.wr=true)→False:=fun hp hq ap aq hw=>qP ht hxy hn ap aq hw (f1 _ hp _ hq)
  have inn:∀ {k:Nat} {q:Acc},q ∈ y.acc→dS tr y.i q k→s.a≤k→k < s.b→False:=by
   intro k q hq aq h1 h2
   rcases f2 with h|h
   ·have:=hs.al h.1 h.2;omega
   ·have:=Nat.le_of_ble_eq_true (h q hq);have:=(ht.ext q.b x.i this (by omega)).n;have:=aq.2.1;rw [hs.a] at h1;omega
  have out:∀ {k:Nat} {p:Acc},dS tr x.i p k→t.a≤k→False:=by intro k p ap h1;have:=(ht.ext p.b x.i ap.1 (by omega)).n;have:=(ht.ext x.i y.i (by omega) hn).n;have:=ap.2.1;rw [hy.a] at h1;omega
  unfold conflict at hc;simp only [Bool.or_eq_true,qq7,Bool.not_eq_true'] at hc
  rcases hc with (((((((hc|hc)|hc)|hc)|hc)|hc)|hc)|hc)|hc
  ·obtain ⟨k,k1,k2⟩:=eG.1 hc;obtain ⟨p,p1,p2,p3⟩:=hs.wr k k1;obtain ⟨q,q1,q2,q3⟩:=hy.rd k k2;exact two p1 q1 p3 q3 (.inl p2)
  ·obtain ⟨k,k1,k2⟩:=eG.1 hc;obtain ⟨p,p1,p2,p3⟩:=hs.wr k k1;obtain ⟨q,q1,q2,q3⟩:=hy.wr k k2;exact two p1 q1 p3 q3 (.inl p2)
  ·obtain ⟨k,k1,k2⟩:=eG.1 hc;obtain ⟨q,q1,q2,q3⟩:=hy.wr k k1;obtain ⟨p,p1,p2,p3⟩:=hs.rd k k2;exact two p1 q1 p3 q3 (.inr q2)
  ·rw [hs.call] at hc
   cases hw:t.wr with
   | nil=>rw [hw] at hc;simp at hc
   | cons k l =>
    obtain ⟨q,q1,q2,q3⟩:=hy.wr k (by rw [hw];simp)
    rcases f3 with h|h
    ·rw [hc.1] at h;cases h
    ·rw [h q q1] at q2;cases q2
  ·rw [hy.call] at hc
   cases hw:s.wr with
   | nil=>rw [hw] at hc;simp at hc
   | cons k l =>
    obtain ⟨p,p1,p2,p3⟩:=hs.wr k (by rw [hw];simp)
    rcases f4 with h|h
    ·rw [hc.1] at h;cases h
    ·rw [h p p1] at p2;cases p2
  ·obtain ⟨k,k1,k2,k3⟩:=within_iff.1 hc;obtain ⟨q,q1,q2,q3⟩:=hy.rd k k1;exact inn q1 q3 k2 k3
  ·obtain ⟨k,k1,k2,k3⟩:=within_iff.1 hc;obtain ⟨q,q1,q2,q3⟩:=hy.wr k k1;exact inn q1 q3 k2 k3
  ·obtain ⟨k,k1,k2,k3⟩:=within_iff.1 hc;obtain ⟨p,p1,p2,p3⟩:=hs.rd k k1;exact out p3 k2
  ·obtain ⟨k,k1,k2,k3⟩:=within_iff.1 hc;obtain ⟨p,p1,p2,p3⟩:=hs.wr k k1;exact out p3 k2
inductive yL (tr:Nat→cI):Nat→List kj→List Ev→Prop
 | nil:yL tr 0 [] []
 | cons {i:Nat} {x:kj} {ev:Ev} {l:List kj} {m:List Ev}:yL tr i l m→x.i=i→MS tr x ev.t→yL tr (i+1) (x :: l) (ev :: m)
theorem yL.snoc {tr:Nat→cI} {i:Nat} {z:cI} {l:List kj} {m:List Ev}:∀ {j:Nat},yL tr j l m→j≤i→yL (snoc tr i z) j l m:=by
 intro j h
 induction h with
 | nil=>intro _;exact .nil
 | cons _ hi he ih=>intro hj;exact .cons (ih (by omega)) hi (he.snoc (by omega))
theorem yL.pairs {tr:Nat→cI} {n:Nat} (ht:mI base aO tr n) {b:List Nat} {i:Nat} {l:List kj} {m:List Ev} (h:yL tr i l m):i≤n→pQ b l=true→ez T b m=true:=by
 induction h with
 | nil=>intro _ _;rfl
 | cons hl hi he ih =>
  rename_i i y ev l m;intro hn hc;simp only [pQ,qq7,List.all_eq_true] at hc;refine lB ?_;refine ⟨?_,ih (by omega) hc.2⟩;have hc1:=hc.1;clear ih hc
  have key:∀ {j:Nat} {l:List kj} {m:List Ev},yL tr j l m→(∀ x ∈ l,(b.getD y.i 0).testBit x.i=true∨AX x y=true)→j≤y.i→∀ s ∈ m,(!conflict s.t ev.t || (b.getD ev.t.idx 0).testBit s.t.idx)=true:=by
   intro j l m h
   induction h with
   | nil=>intro _ _ s hs;cases hs
   | cons hl' hi' he' ih' =>
    rename_i x ev' _ _;intro hx hj s hs
    rcases List.mem_cons.1 hs with rfl|hs
    ·rcases hx x (by simp) with h|h
     ·rw [he.idx,he'.idx,h];simp
     ·rw [GZ ht he' he (by omega) (by omega) h];simp
    ·exact ih' (fun z hz=>hx z (List.mem_cons_of_mem _ hz)) (by omega) s hs
  exact key hl (fun x hx=>by simpa using hc1 x hx) (by omega)
def jO (dst:Option Tmp) (bt:Nat→Nat) (b:Nat):Nat→Nat :=
 match dst with
 | some d=>fun t=>bif Nat.beq t d then b else bt t
 | none=>bt
def sV (bt:Nat→Nat):Operand→Nat
 | .tmp t=>bt t
 | _=>0
def lI (o:Op) (fr:Nat→AV) (bt:Nat→Nat) (i:Nat):Nat :=
 match zk o fr with
 | some [x]=>sV bt x
 | _=>i+1
def gZ (v:AV):Prop:=v.deep=true∧∀ (g:aG) (O O':Nat→Prop) (u:Value),DR g O v u→DR g O' v u
def Handed (hp:List AB) (as vs:List AV) (v:AV):Prop:=(vs=as∧bG as=true)∨(DK hp as vs∧gZ v)
theorem FM {F:AV} {as:List AV} {hp:List AB} {T:bL} {tab:List XE} {P:AV→Prop} (hF:F.deep=true) (ha:bG as=true) (h:∃ v,af T tab true F as v∧P v):F.deep=true∧∃ vs v,Handed hp as vs v∧af T tab true F vs v∧P v:=by obtain ⟨v,h1,h2⟩:=h;exact ⟨hF,as,v,.inl ⟨rfl,ha⟩,h1,h2⟩
def eU (T:bL) (tab:List XE) (mu:Tmp→Bool) (dst:Option Tmp) (op:Op) (i:Nat) (bt:Nat→Nat) (fr:Nat→AV) (hp:List AB) (K:(Nat→AV)→List AB→(Nat→Nat)→kj→Prop):Prop :=
 match dF op with
 | .call f args=>force (TW T.P fr f) fun F=>fk (args.map (bq fr)) fun as=>F.deep=true∧∃ vs v,Handed hp as vs v∧af T tab true F vs v∧gQ dst fr v fun fr'=>K fr' hp (jO dst bt (i+1)) ⟨i,[],true,true⟩
 | .next _=>False
 | .plain=>∃ a,Eh op fr (sV bt)=some a∧wpOp T (MO mu dst) op fr hp fun v hp'=>force v fun v=>gQ dst fr v fun fr'=>K fr' hp' (jO dst bt (lI op fr bt i)) ⟨i,a,news? op,false⟩
def jP (T:bL) (tab:List XE) (mu:Tmp→Bool) (ops:Array Oper):List Oper→Nat→(Nat→Nat)→List kj→cH→(cH→Prop)→Prop
 | [],_,_,acc,st,K=>pQ (oc ops) acc=true∧K st
 | ⟨dst,op,_,_,_,gd⟩ :: l,i,bt,acc,⟨fr,hp,aO,rd,fl⟩,K =>
  cG ops.toList gd fr (eU T tab mu dst op i bt fr hp fun fr' hp' bt' x=>jP T tab mu ops l (i+1) bt' (x :: acc) ⟨fr',hp',aO,rd,fl⟩ K)
   (gQ dst fr (.tp []) fun fr'=>jP T tab mu ops l (i+1) (jO dst bt 0) (⟨i,[],false,false⟩ :: acc) ⟨fr',hp,aO,rd,fl⟩ K)
def gU (tr:Nat→cI) (i:Nat) (bt:Nat→Nat) (fr:Nat→AV) (tm:Tr Value):Prop:=∀ t,bt t≤i∧(tr (bt t)).ar (fr t) ((tm.get t).getD undef)
theorem gU.put {tr:Nat→cI} {i:Nat} {bt:Nat→Nat} {fr:Nat→AV} {tm:Tr Value} {z:cI} (h:gU tr i bt fr tm) {b:Nat} {v:AV} {u:Value} (hb:b≤i+1) (hv:(snoc tr i z b).ar v u) (d:Option Tmp):gU (snoc tr i z) (i+1) (jO d bt b) (wN fr d v) (fC tm d u):=by
 intro t;have old:bt t≤i+1∧(snoc tr i z (bt t)).ar (fr t) ((tm.get t).getD undef):=⟨by have:=(h t).1;omega,by rw [bF (h t).1];exact (h t).2⟩
 cases d with
 | none=>exact old
 | some d =>
  show (bif Nat.beq t d then b else bt t)≤_∧(snoc tr i z (bif Nat.beq t d then b else bt t)).ar (bif Nat.beq t d then v else fr t) (((tm.set d u).get t).getD undef);rw [Tr.iG,Tr.beq_eq];by_cases htd:t=d
  ·rw [if_pos htd,decide_eq_true htd];exact ⟨hb,hv⟩
  ·rw [if_neg htd,decide_eq_false htd];exact old
theorem gU.eval {tr:Nat→cI} {i:Nat} {bt:Nat→Nat} {fr:Nat→AV} {tm:Tr Value} (h:gU tr i bt fr tm) (x:Operand):sV bt x≤i∧(tr (sV bt x)).ar (bq fr x) (aQ tm x):=by
 cases x with
 | tmp t=>exact h t
 | const v =>
  refine ⟨qq5 _,?_⟩;show (tr 0).ar (bif flat v then sg v else .cw) v
  cases hf:flat v with
  | true=>exact lC hf
  | false=>exact .cw
 | func f=>exact ⟨qq5 _,.fn rfl rfl (fun i x u hx=>by cases hx) (fun i x u hx=>by cases hx)⟩
 | global g=>exact ⟨qq5 _,.cw⟩
theorem sC {tr:Nat→cI} {i:Nat} (ht:mI base aO tr i) {v:AV} {u:Value} {b:Nat} {wr:Bool} {l:List Acc} (h:sB v b wr=some l) (hb:b≤i) (hv:(tr b).ar v u) (hi:(tr i).ar v u)
  (hw:wr=true→∀ j aF o,(v=.ptr j aF o∨∃ n c,v=.dw j aF o n c)→∃ cs es,(tr i).hp[j]?=some (.cells cs es aF)) (hom:wr=true→∀ j,v=.om j→∃ b,(tr i).hp[j]?=some b∧b.ver?=some 0) :
  ∀ k ∈ cB u,∃ p ∈ l,p.wr=wr∧dS tr i p k:=by
 have deepk:∀ {k:Nat} {x:bf},(tr b).H.get k=some x→¬ (tr b).E.O (tr b).hp k→dS tr i ⟨none,b,wr⟩ k:=fun h1 h2=>⟨hb,(ht.rel b hb).wf.lt h1,h2⟩;have ownk:∀ {j aF k:Nat},(tr b).E.ρ j aF=some k→(wr=true→∃ b,(tr i).hp[j]?=some b∧b.ver?=some aF)→dS tr i ⟨some j,b,wr⟩ k:=by intro j aF k h1 h2;have h3:=(ht.ext b i hb (qq6 _)).Cv _ _ _ h1;refine ⟨hb,(ht.rel b hb).rn _ _ _ h1,aF,h3,fun hwr=>?_⟩;obtain ⟨x,hc,hx⟩:=h2 hwr;exact ⟨j,x,aF,hc,hx,h3⟩
 intro k hk;unfold sB at h;split at h
 ·cases h;obtain ⟨k',d,cs,own,e,rfl,q1,q2,_⟩:=hv.cT.cT;obtain rfl:k=k':=by simpa [cB] using hk
  exact ⟨_,by simp,rfl,deepk q1 q2⟩
 ·cases h
  cases hv.jL with
  | nil=>simp [cB] at hk
  | sl q1 q2 =>
   rename_i k' o' n' c' es' cs' own' e' _ _ _ _ _;obtain rfl:k=k':=by simpa [cB] using hk
   exact ⟨_,by simp,rfl,deepk q1 q2⟩
 ·rename_i j aF o;cases h;obtain ⟨k',hk',rfl⟩:=hv.di;obtain rfl:k=k':=by simpa [cB] using hk
  exact ⟨_,by simp,rfl,ownk hk' fun hwr=>(let ⟨_,_,h⟩:=hw hwr j aF o (.inl rfl);⟨_,h,rfl⟩)⟩
 ·rename_i j aF o n c;cases h
  rcases hv.fT with ⟨k',hk',rfl⟩|⟨_,_,rfl⟩
  ·obtain rfl:k=k':=by simpa [cB] using hk
   exact ⟨_,by simp,rfl,ownk hk' fun hwr=>(let ⟨_,_,h⟩:=hw hwr j aF o (.inr ⟨n,c,rfl⟩);⟨_,h,rfl⟩)⟩
  ·simp [cB] at hk
 ·rename_i j;cases h;obtain ⟨k',hk',rfl⟩:=hv.oM;obtain rfl:k=k':=by simpa [cB] using hk
  exact ⟨_,by simp,rfl,ownk hk' fun hwr=>hom hwr j rfl⟩
 ·exfalso;obtain ⟨rfl,hf⟩:=hv.gq;revert hk;unfold cB;split
  ·simp [bh] at hf
  ·simp [bh] at hf
  ·simp [bh] at hf
  ·simp
 ·exfalso
  cases hv with
  | d h=>cases h with
   | ag=>simp [cB] at hk
  | ag=>simp [cB] at hk
 ·exfalso;obtain ⟨us,rfl,_⟩:=hv.wG;simp [cB] at hk
 ·exfalso
  cases hv with
  | d h=>cases h with
   | fn=>simp [cB] at hk
  | fn=>simp [cB] at hk
 ·cases h
theorem tK {e:cv} (h:e.news=false):(H.app e).n=H.n:=by cases e <;> first|rfl|cases h
theorem Ej {t:TypeId} {a x:AV} {K:AV→List AB→Prop} (hw:dN T t a x hp K) {j aF o:Nat} (h:a=.ptr j aF o∨∃ n c,a=.dw j aF o n c):∃ cs es,hp[j]?=some (.cells cs es aF):=by
 unfold dN at hw;split at hw
 ·obtain ⟨cs,es,h1,_⟩:=hw
  rcases h with h|⟨n,c,h⟩
  ·cases h;exact ⟨cs,es,h1⟩
  ·cases h
 ·exact hw.elim
theorem IM {own:Bool} {t:TypeId} {a x:AV} {K:AV→List AB→Prop} (hw:oO T own t a x hp K) {j aF o:Nat} (h:a=.ptr j aF o∨∃ n c,a=.dw j aF o n c):∃ cs es,hp[j]?=some (.cells cs es aF):=by
 unfold oO at hw;split at hw
 ·obtain ⟨_,els,_,_,hw⟩:=hw;split at hw
  ·rcases h with h|⟨n,c,h⟩ <;> cases h
  ·rcases h with h|⟨n,c,h⟩ <;> cases h
  ·obtain ⟨cs,h1,_⟩:=hw
   rcases h with h|⟨n,c,h⟩
   ·cases h
   ·cases h;exact ⟨cs,_,h1⟩
  ·exact hw.elim
 ·exact hw.elim
theorem IP {t:TypeId} {a x:AV} {K:AV→List AB→Prop} (hw:dN T t a x hp K) (j:Nat):a ≠ .om j:=fun h=>by subst h;unfold dN at hw;exact hw.elim
theorem PS {own:Bool} {t:TypeId} {a x:AV} {K:AV→List AB→Prop} (hw:oO T own t a x hp K) (j:Nat):a ≠ .om j:=fun h=>by
 subst h;unfold oO at hw;split at hw
 ·obtain ⟨_,els,_,_,hw⟩:=hw;exact hw.elim
 ·exact hw.elim
theorem Ek {t:TypeId} {m k:AV} {K:AV→List AB→Prop} (hw:gY T t m k hp K) {j:Nat} (h:m=.om j):∃ b,hp[j]?=some b∧b.ver?=some 0:=by subst h;obtain ⟨ents,clock,_,_,_,_,_,h1,_⟩:=hw;exact ⟨_,h1,rfl⟩
theorem G0 {t:TypeId} {m k:AV} {K:AV→List AB→Prop} (hw:gY T t m k hp K) {j aF o:Nat} (h:m=.ptr j aF o∨∃ n c,m=.dw j aF o n c):False:=by rcases h with rfl|⟨n,c,rfl⟩ <;> exact hw
theorem CL {m s v:AV} {K:AV→List AB→Prop} (hw:fI m s v hp K) {j:Nat} (h:m=.om j):∃ b,hp[j]?=some b∧b.ver?=some 0:=by subst h;obtain ⟨ents,clock,_,_,_,h1,_⟩:=hw;exact ⟨_,h1,rfl⟩
theorem El {m s v:AV} {K:AV→List AB→Prop} (hw:fI m s v hp K) {j aF o:Nat} (h:m=.ptr j aF o∨∃ n c,m=.dw j aF o n c):False:=by rcases h with rfl|⟨n,c,rfl⟩ <;> exact hw
theorem sD {tr:Nat→cI} {i:Nat} (ht:mI base aO tr i) {bt:Nat→Nat} {fr:Nat→AV} {tm:Tr Value} (hb:gU tr i bt fr tm) {own:Bool} {o:Op} {l:List Acc} (h:Eh o fr (sV bt)=some l)
  {K:AV→List AB→Prop} (hw:wpOp T own o fr (tr i).hp K):∃ r w,iX o (aQ tm)=some (r,w)∧(∀ k ∈ r,∃ p ∈ l,p.wr=false∧dS tr i p k)∧(∀ k ∈ w,∃ p ∈ l,p.wr=true∧dS tr i p k):=by
 have now:∀ x,(tr i).ar (bq fr x) (aQ tm x):=fun x=>(ht.ext _ i (hb.eval x).1 (qq6 _)).ar (ht.rel _ (hb.eval x).1).wf (hb.eval x).2
 have rd:∀ {x:Operand} {l:List Acc},sB (bq fr x) (sV bt x) false=some l→∀ k ∈ cB (aQ tm x),∃ p ∈ l,p.wr=false∧dS tr i p k :=
  fun {x l} h=>sC ht h (hb.eval x).1 (hb.eval x).2 (now x) (fun h=>Bool.noConfusion h) (fun h=>Bool.noConfusion h)
 have nil:∀ (Q:Nat→Prop),∀ k ∈ ([]:List Nat),Q k:=fun Q k hk=>by cases hk
 unfold Eh at h;split at h
 ·exact ⟨_,_,rfl,rd h,nil _⟩
 ·rename_i t a x;exact ⟨_,_,rfl,nil _,sC ht h (hb.eval a).1 (hb.eval a).2 (now a) (fun _ j aF o hj=>Ej (show dN T t (bq fr a) (bq fr x) (tr i).hp K from ct (K:=fun v=>dN T t (bq fr a) v (tr i).hp K) hw) hj) (fun _ j he=>absurd he (IP (show dN T t (bq fr a) (bq fr x) (tr i).hp K from ct (K:=fun v=>dN T t (bq fr a) v (tr i).hp K) hw) j))⟩
 ·rename_i args tys;split at h
  ·rename_i s x hargs;split at h
   ·rename_i l1 l2 h1 h2;cases h;have hw:mG T own .append (args.toList.map (bq fr)) tys.toList (tr i).hp K:=fQ hw;rw [hargs] at hw
    have happ:∃ t,oO T own t (bq fr s) (bq fr x) (tr i).hp K:=by
     unfold mG at hw;simp only [List.map_cons,List.map_nil] at hw;split at hw
     ·rename_i s' x' t u hsx _;cases hsx;split at hw
      ·exact ⟨_,hw⟩
      ·exact hw.elim
     ·exact hw.elim
    obtain ⟨t,happ⟩:=happ;refine ⟨cB (aQ tm x),cB (aQ tm s),by simp [iX,hargs],fun k hk=>?_,fun k hk=>?_⟩
    ·obtain ⟨p,a,b⟩:=rd h1 k hk;exact ⟨p,List.mem_append_left _ a,b⟩
    ·obtain ⟨p,a,b⟩:=sC ht h2 (hb.eval s).1 (hb.eval s).2 (now s) (fun _ j aF o hj=>IM happ hj) (fun _ j he=>absurd he (PS happ j)) k hk;exact ⟨p,List.mem_append_right _ a,b⟩
   ·cases h
  ·cases h
 ·rename_i args tys;split at h
  ·rename_i x hargs;exact ⟨cB (aQ tm x),[],by simp [iX,hargs],rd h,nil _⟩
  ·cases h
 ·exact ⟨_,_,rfl,rd h,nil _⟩
 ·rename_i t m k;exact ⟨_,_,rfl,nil _,sC ht h (hb.eval m).1 (hb.eval m).2 (now m) (fun _ j aF o hj=>(G0 (show gY T t (bq fr m) (bq fr k) (tr i).hp K from hw) hj).elim) (fun _ j hj=>Ek (show gY T t (bq fr m) (bq fr k) (tr i).hp K from hw) hj)⟩
 ·rename_i t m a x;exact ⟨_,_,rfl,nil _,sC ht h (hb.eval m).1 (hb.eval m).2 (now m) (fun _ j aF o hj=>(El (show fI (bq fr m) (bq fr a) (bq fr x) (tr i).hp K from hw) hj).elim) (fun _ j hj=>CL (show fI (bq fr m) (bq fr a) (bq fr x) (tr i).hp K from hw) hj)⟩
 ·cases h
 ·cases h
 ·cases h
 ·cases h
 ·cases h
 ·rename_i n1 n2 n3 n4 n5 n6 n7 n8 n9 n10 n11 n12;cases h;refine ⟨[],[],?_,nil _,nil _⟩;unfold iX
  split <;> first
   | rfl
   | exact absurd rfl (n1 _ _)|exact absurd rfl (n2 _ _ _)|exact absurd rfl (n3 _ _)|exact absurd rfl (n4 _ _)
   | exact absurd rfl (n5 _ _ _ _)|exact absurd rfl (n6 _ _ _)|exact absurd rfl (n7 _ _ _ _)|exact absurd rfl (n8 _ _)|exact absurd rfl (n9 _ _)|exact absurd rfl (n10 _)|exact absurd rfl (n11 _ _ _ _)|exact absurd rfl (n12 _ _)
theorem aY.grow (hr:aY E base hp aO H) (hn:H.n≤H'.n) (hwf:Wf H') (hsame:∀ k,k < H.n→H'.get k=H.get k) (hlo:min H.lo base≤H'.lo):aY E base hp aO H'∧Ext base E hp H E hp H':=by
 have e:Ext base E hp H E hp H':=⟨hn,rfl,rfl,rfl,fun _ _ _ h=>h,fun _ h=>.inl h,fun k hk _=>hsame k hk,hlo⟩;refine ⟨⟨hwf,fun j x aF hj hvx=>?_,hr.inj,fun j v k hk=>Nat.lt_of_lt_of_le (hr.rn j v k hk) hn,hr.fresh,hr.new,hr.sup,hr.jm,hr.dx,hr.ds,fun k hk=>Nat.lt_of_lt_of_le (hr.sn k hk) hn,fun k hk=>Nat.lt_of_lt_of_le (hr.xn k hk) hn,hr.qK,Nat.le_trans hr.bn hn,aO.st hr.aO (fun k hk=>hsame k (hr.sn k hk)) hn⟩,e⟩
 rcases hr.gT j x aF hj hvx with ⟨k,b',q1,q2,q3⟩|q
 ·exact .inl ⟨k,b',q1,by rw [hsame k (hr.wf.lt q2)];exact q2,e.br hr.wf q3⟩
 ·exact .inr q
theorem nB {mu:Tmp→Bool} {ops:Array Oper}:∀ {l:List Oper} {i:Nat} {bt:Nat→Nat} {acc:List kj} {evs:List Ev} {st:cH} {K:cH→Prop} {tr:Nat→cI} {s:St},jP T tab mu ops l i bt acc st K →
  mI base st.aO tr i→(tr i).hp=st.hp→(tr i).H=s.hp→s.rd=st.rd→gU tr i bt st.fr s.fr→yL tr i acc evs →
  ∃ m s',cg T (RX T tab m) ops l i s evs=some [s']∧∃ E' st',K st'∧st'.fl=st.fl∧qN E' base st' s'∧Ext base (tr 0).E (tr 0).hp (tr 0).H E' st'.hp s'.hp
 | [],i,bt,acc,evs,st,K,tr,s,h,ht,h1,h2,h3,hb,he=>by
  obtain ⟨hc,hk⟩:=h;have hrel:=ht.rel i (qq6 _)
  have hok:dX T ops evs=true:=by
   unfold dX
   cases hq:(evs.all fun e=>e.t.wr.isEmpty && Nat.beq e.t.a e.t.b) with
   | true=>rfl
   | false=>exact he.pairs ht (qq6 _) hc
  refine ⟨0,s,by rw [eK,hok];rfl,(tr i).E,st,hk,rfl,⟨by rw [←h1,←h2];exact hrel,h3,fun t=>?_⟩,by rw [←h1,←h2];exact ht.ext 0 i (qq5 _) (qq6 _)⟩;have:=(ht.ext _ i (hb t).1 (qq6 _)).ar (ht.rel _ (hb t).1).wf (hb t).2;rw [←h1,←h2];exact this
 | o :: l,i,bt,acc,evs,st,K,tr,s,h,ht,h1,h2,h3,hb,he=>by
  have h:cG ops.toList o.guard st.fr (eU T tab mu o.dst o.op i bt st.fr st.hp fun fr' hp' bt' x=>jP T tab mu ops l (i+1) bt' (x :: acc) ⟨fr',hp',st.aO,st.rd,st.fl⟩ K)
   (gQ o.dst st.fr (.tp []) fun fr'=>jP T tab mu ops l (i+1) (jO o.dst bt 0) (⟨i,[],false,false⟩ :: acc) ⟨fr',st.hp,st.aO,st.rd,st.fl⟩ K):=h
  have hrel:=ht.rel i (qq6 _);have hfr:jX (tr i).E.ρ (tr i).H.get ((tr i).E.O (tr i).hp) st.fr s.fr:=fun t=>(ht.ext _ i (hb t).1 (qq6 _)).ar (ht.rel _ (hb t).1).wf (hb t).2;have hz0:(snoc tr i (tr i) 0)=tr 0:=bF (qq5 _)
  rcases wP hfr h with ⟨hg,h⟩|⟨hg,h⟩
  ·
   have go:∀ (z:cI) (v:AV) (u:Value) (b:Nat) (x:kj) (t:Tc) (m0:Nat),aY z.E base z.hp st.aO z.H→Ext base (tr i).E (tr i).hp (tr i).H z.E z.hp z.H→b≤i+1→(snoc tr i z b).ar v u→x.i=i→MS (snoc tr i z) x t →
     (∀ m,m0≤m→bu T (RX T tab m) o.op i s=some (u,z.H,t))→jP T tab mu ops l (i+1) (jO o.dst bt b) (x :: acc) ⟨wN st.fr o.dst v,z.hp,st.aO,st.rd,st.fl⟩ K →
     ∃ m s',cg T (RX T tab m) ops (o :: l) i s evs=some [s']∧∃ E' st',K st'∧st'.fl=st.fl∧qN E' base st' s'∧Ext base (tr 0).E (tr 0).hp (tr 0).H E' st'.hp s'.hp:=by
    intro z v u b x t m0 hz he' hbi hv hxi hx hd hw;obtain ⟨m,s',r1,r2⟩:=nB (s:=⟨fC s.fr o.dst u,z.H,s.rd⟩) (evs:=⟨o,s,u,z.H,t⟩ :: evs) hw (ht.snoc hz he') (by rw [ck (Nat.lt_succ_self _)]) (by rw [ck (Nat.lt_succ_self _)]) h3 (hb.put hbi hv o.dst) (.cons (he.snoc (qq6 _)) hxi hx);rw [bF (qq5 _)] at r2;refine ⟨max m0 m,s',?_,r2⟩;rw [bW,hg];simp only [cond_true,hd _ (Nat.le_max_left _ _)];exact jG (gH (Nat.le_max_right _ _)) _ _ _ _ _ _ r1
   unfold eU at h;split at h
   ·rename_i f args hk;have h:=fQ (ct h);obtain ⟨hF,vs,v,hhand,⟨hvd,hpure⟩,h⟩:=h;have hF':=(AU hfr f).deep hF;have hget:({s.hp with lo:=s.hp.n}:Hp).get=(tr i).H.get:=by rw [h2];rfl
    obtain ⟨goal,hgo,m0,L,q1,q2,q3⟩:∃ goal,dD (mq T.P s.fr f) (args.map (aQ s.fr))=some goal ∧
      ∃ m L,RX T tab m (jB {s.hp with lo:=s.hp.n} goal)=some L∧(true=true→∃ r,L=[r])∧∀ r ∈ L,∃ w H',r=.ret w H' ∧
       ({s.hp with lo:=s.hp.n}:Hp).n≤H'.n∧Wf H'∧(∀ k,k < ({s.hp with lo:=s.hp.n}:Hp).n→H'.get k=({s.hp with lo:=s.hp.n}:Hp).get k)∧min ({s.hp with lo:=s.hp.n}:Hp).lo ({s.hp with lo:=s.hp.n}:Hp).n≤H'.lo∧DR H'.get ((tr i).E.O (tr i).hp) v w:=by
     rcases hhand with ⟨rfl,hA⟩|⟨hz,hfree⟩
     ·have hA':=(fM hfr args).deep hA
      exact hpure ((tr i).E.O (tr i).hp) {s.hp with lo:=s.hp.n} _ _ (by rw [h2] at hrel;exact hrel.wf) (fun k hk=>by
       have:k < (tr i).H.n:=hk.elim (fun h=>hrel.kN h) (hrel.xn k)
       rw [h2] at this;exact this) (by rw [hget];exact hF') (by rw [hget];exact hA')
     ·obtain ⟨goal,hgo,m0,L,q1,q2,q3⟩:=hpure (tr i).E.X {s.hp with lo:=s.hp.n} _ _ (by rw [h2] at hrel;exact hrel.wf) (fun k hk=>by
       have:k < (tr i).H.n:=hrel.xn k hk
       rw [h2] at this;exact this) (by rw [hget];exact hF'.mono fun k b hk ho=>⟨hk,fun hx=>ho (.inr hx)⟩) (by
        rw [hget];rw [←h1] at hz
        exact hz.dr hrel (fun _ h=>h) (fM hfr args))
      refine ⟨goal,hgo,m0,L,q1,q2,fun r hm=>?_⟩;obtain ⟨w,H',e1,e2,e3,e4,e5,e6⟩:=q3 r hm;exact ⟨w,H',e1,e2,e3,e4,e5,hfree.2 _ _ _ _ e6⟩
    obtain ⟨r,hr⟩:=q2 rfl;subst hr;obtain ⟨w,H',rfl,hn,hwf,hsame,hlo,hdr⟩:=q3 r (by simp)
    obtain ⟨g1,g2⟩:=hrel.grow (H':={H' with lo:=s.hp.lo}) (by rw [h2];exact hn) hwf (fun k hk=>by
     have:=hsame k (by rw [←h2];exact hk)
     rw [h2];exact this) (by rw [h2];exact Nat.min_le_left _ _)
    refine go ⟨(tr i).E,st.hp,{H' with lo:=s.hp.lo}⟩ v w (i+1) ⟨i,[],true,true⟩ ⟨i,[],[],true,s.hp.n,H'.n⟩ m0 (by rw [←h1];exact g1) (by rw [←h1];exact g2) (qq6 _) ?_ rfl ?_ (fun m hm=>?_) (eN h)
    ·rw [ck (Nat.lt_succ_self _)];refine .d ?_;show DR H'.get ((tr i).E.O st.hp) v w;rw [←h1];exact hdr
    ·refine ⟨rfl,by rw [bF (qq6 _),h2],by rw [ck (Nat.lt_succ_self _)],fun h=>Bool.noConfusion h,rfl,fun k hk=>(by cases hk),fun k hk=>(by cases hk)⟩
    ·unfold bu;simp only [hk,hgo,gH hm _ _ q1]
     have:Nat.ble s.hp.n H'.lo=true:=Nat.ble_eq_true_of_le (by
      have:min s.hp.n s.hp.n≤H'.lo:=hlo
      omega)
     rw [tj this]
   ·exact h.elim
   ·rename_i hk;obtain ⟨a,hacc,hw⟩:=h;have hw':=hw;rw [←h1] at hw';obtain ⟨r,w,ht1,ht2,ht3⟩:=sD ht hb hacc hw'
    have evr:∀ (z:cI) (u:Value) (e:cv),iU T s.hp.n o.op (aQ s.fr) s.hp.get=some (u,e)→z.H=s.hp.app e→MS (snoc tr i z) ⟨i,a,news? o.op,false⟩ ⟨i,r,w,false,s.hp.n,(s.hp.app e).n⟩:=by
     intro z u e hop hz;refine ⟨rfl,by rw [bF (qq6 _),h2],by rw [ck (Nat.lt_succ_self _),hz],fun hal _=>(tK (wU hop hal)).symm,rfl,fun k hk=>?_,fun k hk=>?_⟩
     ·obtain ⟨p,p1,p2,p3⟩:=ht2 k hk;exact ⟨p,p1,p2,p3.snoc (qq6 _)⟩
     ·obtain ⟨p,p1,p2,p3⟩:=ht3 k hk;exact ⟨p,p1,p2,p3.snoc (qq6 _)⟩
    have drw:∀ (u:Value) (e:cv) (m:Nat),iU T s.hp.n o.op (aQ s.fr) s.hp.get=some (u,e)→bu T (RX T tab m) o.op i s=some (u,s.hp.app e,⟨i,r,w,false,s.hp.n,(s.hp.app e).n⟩):=by intro u e m hop;unfold bu;simp only [hk,ht1,hop]
    by_cases hm:∃ x,zk o.op st.fr=some [x]
    ·obtain ⟨x,hm⟩:=hm;have hbirth:lI o.op st.fr bt i=sV bt x:=by unfold lI;rw [hm]
     have hbx:=hb.eval x;have eb:=ht.ext _ i hbx.1 (qq6 _);obtain ⟨u,v,r1,r2,r3,r4⟩:=wT (ρ2:=(tr (sV bt x)).E.ρ) (g2:=(tr (sV bt x)).H.get) (O2:=(tr (sV bt x)).E.O (tr (sV bt x)).hp) (n:=s.hp.n) hfr hm (fun y hy=>by obtain rfl:=List.mem_singleton.1 hy;exact hbx.2) (fun k b hk ho=>(eb.keep (ht.rel _ hbx.1).wf k b hk ho).1) hw;rw [h2] at r1;have hz:(tr i).H=s.hp.app .none:=h2;rw [hbirth] at r2;refine go (tr i) v u (sV bt x) ⟨i,a,news? o.op,false⟩ ⟨i,r,w,false,s.hp.n,(s.hp.app .none).n⟩ 0 hrel .refl (by omega) (by rw [bF hbx.1];exact r4) rfl (evr _ u .none r1 hz) (fun m _=>by rw [hz];exact drw u .none m r1) (by rw [h1];exact eN (ct r2))
    ·have hbirth:lI o.op st.fr bt i=i+1:=by
      unfold lI;split
      ·rename_i x hx;exact absurd ⟨x,hx⟩ hm
      ·rfl
     obtain ⟨u,e,E',v,hp',r1,r2,r3,r4,r5⟩:=nA hrel hfr hw';rw [h2] at r1 r3 r4 r5;rw [hbirth] at r2;refine go ⟨E',hp',s.hp.app e⟩ v u (i+1) ⟨i,a,news? o.op,false⟩ ⟨i,r,w,false,s.hp.n,(s.hp.app e).n⟩ 0 r3 (by rw [h2];exact r4) (qq6 _) (by rw [ck (Nat.lt_succ_self _)];exact r5) rfl (evr _ u e r1 rfl) (fun m _=>drw u e m r1) (eN (ct r2))
  ·obtain ⟨m,s',r1,r2⟩:=nB (s:=⟨fC s.fr o.dst undef,s.hp,s.rd⟩) (evs:=⟨o,s,undef,s.hp,⟨i,[],[],false,s.hp.n,s.hp.n⟩⟩ :: evs) (eN h) (ht.snoc (z:=tr i) hrel .refl) (by rw [ck (Nat.lt_succ_self _)];exact h1) (by rw [ck (Nat.lt_succ_self _)];exact h2) h3
    (hb.put (qq5 _) wO o.dst) (.cons (he.snoc (qq6 _)) rfl ⟨rfl,by rw [bF (qq6 _),h2],by rw [ck (Nat.lt_succ_self _),h2],fun _ _=>rfl,rfl,fun k hk=>(by cases hk),fun k hk=>(by cases hk)⟩)
   rw [hz0] at r2;refine ⟨m,s',?_,r2⟩;rw [bW,hg];exact r1
def AY (T:bL) (tab:List XE) (one:Bool) (mu:Tmp→Bool) (ops:Array Oper) (c:Nat) (st:cH) (K:cH→Prop):Prop :=
 jP T tab mu ops (ops.toList.take c) 0 (fun _=>0) [] st fun s=>wpOps T tab one mu ops.toList (ops.toList.drop c) s K
theorem aE.draw {id:Nat} {ops:Array Oper} {mu:Tmp→Bool} {st:cH} {K:Exit→cH→Prop} (h:AY T tab one mu ops (fR ops) st (K .normal)):aE T tab one (.region id ops true) st K:=by
 intro E base s hs;obtain ⟨m,s',r1,E',st',r2,r3,r4,r5⟩:=nB (base:=base) (tr:=fun _=>⟨E,st.hp,s.hp⟩) (evs:=[]) h ⟨fun _ _=>hs.h,fun _ _ _ _=>.refl⟩ rfl rfl hs.rd (fun t=>⟨qq6 _,hs.fr t⟩) .nil;obtain ⟨m2,L,q1,q2,q3⟩:=lG r2 r4;refine ⟨max m m2,L.map fun s=>(.normal,s),?_,fun h1=>?_,fun p hp=>?_⟩
 ·rw [fG]
  have:cM T (RX T tab (max m m2)) ops s=some L:=by
   cases hn:vB ops with
   | none =>unfold cM;simp only [hn,jG (gH (Nat.le_max_left m m2)) _ _ _ _ _ _ r1];exact kL (gH (Nat.le_max_right _ _)) _ _ _ _ q1
   | some c =>have ht:=GU hn;rw [ht,List.take_length] at r1;rw [ht,List.drop_length,k9] at q1;cases q1;exact oJ ht (jG (gH (Nat.le_max_left m m2)) _ _ _ _ _ _ r1)
  simp only [cond_true,this]
 ·obtain ⟨p,hp⟩:=q2 h1;exact ⟨_,by rw [hp];rfl⟩
 ·obtain ⟨s2,hm,rfl⟩:=List.mem_map.1 hp;obtain ⟨E2,st2,k1,k2,k3,k4⟩:=q3 s2 hm;rw [r3] at k2 k4;exact ⟨E2,st2,k1,k2,k3,r5.MD.trans k4⟩
def me (T:bL) (tab:List XE) (one:Bool) (mu:Tmp→Bool):Code→cH→(Exit→cH→Prop)→Prop
 | .skip,st,K=>K .normal st
 | .label _,st,K=>K .normal st
 | .region _ ops false,st,K=>wpOps T tab one mu ops.toList ops.toList st (K .normal)
 | .region _ ops true,st,K=>AY T tab one mu ops (fR ops) st (K .normal)
 | .seq a b,st,K=>me T tab one mu a st (wQ (fun s=>me T tab one mu b s K) K)
 | .cond c a b,st,K=>match bq st.fr c with
  | .fl (.bool t)=>(t=true→me T tab one mu a st K)∧(t=false→me T tab one mu b st K)
  | _=>False
 | .block id c,st,K=>me T tab one mu c st (jM id K)
 | .exit id,st,K=>K (.exit id) st
 | .ret,st,K=>K .ret st
 | .scope c,st,K=>me T tab one mu c st (tJ K)
 | c,st,K=>aE T tab one c st K
theorem aa {mu:Tmp→Bool}:∀ {c:Code} {st:cH} {K:Exit→cH→Prop},me T tab one mu c st K→aE T tab one c st K:=by
 intro c
 induction c with
 | skip=>intro st K h;exact .here (fun _ _=>rfl) h
 | label l=>intro st K h;exact .here (fun _ _=>rfl) h
 | region id ops draw =>
  intro st K h
  cases draw with
  | false=>exact .ops h
  | true=>exact .draw h
 | seq a b iha ihb =>intro st K h;refine .seq (iha h |>.mono fun e s hk=>?_);cases e <;> first|exact ihb hk|exact hk
 | cond c a b iha ihb =>
  intro st K h;unfold me at h;split at h
  ·rename_i t ht;exact .cond ht (fun e=>iha (h.1 e)) (fun e=>ihb (h.2 e))
  ·exact h.elim
 | block id c ih=>intro st K h;exact .block (ih h)
 | exit id=>intro st K h;exact .here (fun _ _=>rfl) h
 | ret=>intro st K h;exact .here (fun _ _=>rfl) h
 | scope c ih=>intro st K h;exact .scope (ih h)
 | _=>intro st K h;exact h
end
inductive Sh where
 | int (k:IntKind)
 | bool
 | str
 | slice (s:Sh)
 | nil
 | cons (s:Sh) (l:Sh)
 | arr (n:Nat) (s:Sh)
def Sh.cells:Sh→Nat
 | .int _=>1
 | .bool=>1
 | .str=>1
 | .slice _=>1
 | .nil=>0
 | .cons s l=>s.cells+l.cells
 | .arr n s=>n * s.cells
inductive TV:Sh→List AV→Prop
 | int {k:IntKind} {n:Int}:(Lit.int k n).wf=true→TV (.int k) [.fl (.int k n)]
 | bool {b:Bool}:TV .bool [.fl (.bool b)]
 | str {s:ByteArray}:s.size≤maxLen→TV .str [.fl (.string s)]
 | slice {s:Sh} {els:List (List AV)}:els.length≤maxLen→(∀ el ∈ els,TV s el)→TV (.slice s) [.sl els false]
 | nil:TV .nil []
 | cons {s l:Sh} {a b:List AV}:TV s a→TV l b→TV (.cons s l) (a++b)
 | arr {n:Nat} {s:Sh} {els:List (List AV)}:els.length=n→(∀ el ∈ els,TV s el)→TV (.arr n s) els.flatten
mutual
def kY (P:Program):Nat→Sh→TypeId→Bool
 | 0,_,_=>false
 | _+1,.int k,t=>match P.underlying t with
  | some (.int k')=>decide (k=k')
  | _=>false
 | _+1,.bool,t=>match P.underlying t with
  | some .bool=>true
  | _=>false
 | _+1,.str,t=>match P.underlying t with
  | some .string=>true
  | _=>false
 | d+1,.slice s,t=>match P.underlying t with
  | some (.slice e)=>Nat.beq (P.cellsOf e) s.cells && (Nat.ble 1 s.cells && kY P d s e)
  | _=>false
 | d+1,.nil,t=>match P.underlying t with
  | some (.struct fs)=>Nat.beq (P.cellsOf t) 0 && tL P d .nil fs.toList 0
  | _=>false
 | d+1,.cons s l,t=>match P.underlying t with
  | some (.struct fs)=>Nat.beq (P.cellsOf t) (s.cells+l.cells) && tL P d (.cons s l) fs.toList 0
  | _=>false
 | d+1,.arr n s,t=>match P.underlying t with
  | some (.array m e)=>Nat.beq n m && Nat.beq (P.cellsOf e) s.cells && Nat.beq (P.cellsOf t) (n * s.cells) && kY P d s e
  | _=>false
def tL (P:Program):Nat→Sh→List Field→Nat→Bool
 | 0,_,_,_=>false
 | _+1,.nil,[],_=>true
 | d+1,.cons s l,f :: fs,o=>Nat.beq f.offset o && Nat.beq (P.cellsOf f.type) s.cells && kY P d s f.type && tL P d l fs (o+s.cells)
 | _+1,_,_,_=>false
end
section
variable {P : Program} {w : World}
structure LS (γ:Gm) (H:Hp) (w:World):Prop where
 hr:HR γ H.get w
 wf:Wf H
 fr:∀ k,H.n≤k→γ.loc k=none
 un:∀ k a,H.get k=some a→a.own=false∧a ≠ .dead
structure LE (γ:Gm) (H:Hp) (γ':Gm) (H':Hp):Prop where
 le:γ.Le γ'
 n:H.n≤H'.n
 same:∀ k,k < H.n→H'.get k=H.get k
theorem LE.refl {γ:Gm} {H:Hp}:LE γ H γ H:=⟨Gm.Le.refl γ,qq6 _,fun _ _=>rfl⟩
theorem LE.trans {γ γ1 γ2:Gm} {H H1 H2:Hp} (a:LE γ H γ1 H1) (b:LE γ1 H1 γ2 H2):LE γ H γ2 H2 :=
 ⟨a.le.trans b.le,Nat.le_trans a.n b.n,fun k hk=>(b.same k (Nat.lt_of_lt_of_le hk a.n)).trans (a.same k hk)⟩
abbrev FN:Nat→Prop:=fun _=>False
theorem LE.dr {γ γ':Gm} {H H':Hp} (e:LE γ H γ' H') (hw:Wf H) {v:AV} {u:Value} (h:DR H.get FN v u):DR H'.get FN v u :=
 h.mono fun k b hk _=>⟨by rw [e.same k (hw.lt hk)];exact hk,fun h=>h⟩
theorem LE.T6 {γ γ':Gm} {H H':Hp} (e:LE γ H γ' H') (hw:Wf H) {v:List AV} {u:List Value} (h:tD H.get FN v u):tD H'.get FN v u:=⟨h.1,fun i a u x y=>e.dr hw (h.2 i a u x y)⟩
def Lk (w:World) (s:Sh) (cs:List Value):Prop:=∀ (γ:Gm) (H:Hp),LS γ H w→∃ γ' H' us avs,LE γ H γ' H'∧LS γ' H' w∧us.length=cs.length∧cy γ' us cs∧tD H'.get FN avs us∧TV s avs∧avs.length=s.cells
theorem Lk.flat {s:Sh} {v:Value} (hf:bh v=true) (ht:TV s [.fl v]) (hs:s.cells=1):Lk w s [v]:=fun γ H h =>
 ⟨γ,H,[v],[.fl v],.refl,h,rfl,cy.cons (.flat hf) (cy.nil γ),⟨rfl,fun i a u x y=>by
  cases i with
  | zero=>cases x;cases y;exact .fl hf
  | succ i=>simp at x⟩,ht,hs.symm⟩
theorem Lk.list {s:Sh}:∀ {csl:List (List Value)},(∀ cs ∈ csl,Lk w s cs∧cs.length=s.cells)→∀ (γ:Gm) (H:Hp),LS γ H w→∃ (γ':Gm) (H':Hp) (us:List Value) (els:List (List AV)),LE γ H γ' H'∧LS γ' H' w∧us.length=csl.flatten.length∧cy γ' us csl.flatten∧tD H'.get FN els.flatten us ∧
  els.length=csl.length∧(∀ el ∈ els,TV s el∧el.length=s.cells)
 | [],_,γ,H,h=>⟨γ,H,[],[],.refl,h,rfl,cy.nil γ,⟨rfl,fun i a u x=>by cases x⟩,rfl,fun el he=>by cases he⟩
 | cs :: csl,hl,γ,H,h=>by
  obtain ⟨γ1,H1,us1,av1,e1,h1,l1,v1,d1,t1,c1⟩:=(hl cs (by simp)).1 γ H h;obtain ⟨γ2,H2,us2,els,e2,h2,l2,v2,d2,t2,c2⟩:=Lk.list (fun c hc=>hl c (List.mem_cons_of_mem _ hc)) γ1 H1 h1;refine ⟨γ2,H2,us1++us2,av1 :: els,e1.trans e2,h2,by simp [l1,l2],?_,?_,by simp [t2],fun el he=>?_⟩
  ·rw [List.flatten_cons];exact (v1.mono e2.le).append v2
  ·rw [List.flatten_cons];exact (e2.T6 h1.wf d1).append d2
  ·rcases List.mem_cons.1 he with rfl|he
   ·exact ⟨t1,c1⟩
   ·exact c2 el he
theorem LS.row {γ:Gm} {H:Hp} (h:LS γ H w) {b o:Nat} {cs':Array Value} {e:TypeId} {fz:Nat × Nat} (hb:w.heap[b]?=some (.cells cs' e fz)) {us:List Value} (hc:dM γ us cs' o) :
  ∃ γ',γ'={γ with loc:=fun i=>if i=H.n then some (b,o) else γ.loc i}∧LE γ H γ' (H.push (.cells us false 0))∧LS γ' (H.push (.cells us false 0)) w∧γ'.loc H.n=some (b,o):=by
 have hle:γ.Le {γ with loc:=fun i=>if i=H.n then some (b,o) else γ.loc i}:=by refine ⟨fun k x hk=>?_,fun k x hk=>rfl,rfl⟩;show (if k=H.n then _ else _)=_;rw [if_neg (fun hkn=>by rw [hkn,h.fr _ (qq6 _)] at hk;cases hk)];exact hk
 have hlt:b < w.heap.size:=(Array.getElem?_eq_some_iff.1 hb).1
 have hget:∀ k a,(H.push (.cells us false 0)).get k=some a→(k < H.n∧H.get k=some a)∨(k=H.n∧a=.cells us false 0):=by
  intro k a hk;rw [Hp.fh] at hk;split at hk
  ·rename_i hkn;cases hk;exact .inr ⟨hkn,rfl⟩
  ·exact .inl ⟨h.wf.lt hk,hk⟩
 have hun:∀ k a,(H.push (.cells us false 0)).get k=some a→a.own=false∧a ≠ .dead:=by
  intro k a hk
  rcases hget k a hk with ⟨_,h1⟩|⟨_,rfl⟩
  ·exact h.un k a h1
  ·exact ⟨rfl,by simp⟩
 refine ⟨_,rfl,⟨hle,Nat.le_succ _,fun k hk=>cF hk⟩,⟨⟨fun k b' o' a hk hl=>?_,fun k k' b' o' o2 a a' hk ho=>?_,fun k b' o' hl=>?_,h.hr.base,h.hr.gl⟩,(dZ.push H _).wf h.wf,fun k hk=>?_,hun⟩,if_pos rfl⟩
 ·have hl:(if k=H.n then some (b,o) else γ.loc k)=some (b',o'):=hl
  rcases hget k a hk with ⟨h1,h2⟩|⟨rfl,rfl⟩
  ·rw [if_neg (by omega)] at hl;exact (h.hr.gT k b' o' a h2 hl).mono hle hl rfl
  ·rw [if_pos rfl] at hl;cases hl;exact ⟨cs',e,fz,hb,hc.mono hle,fun h=>Bool.noConfusion h⟩
 ·rw [(hun k a hk).1] at ho;cases ho
 ·have hl:(if k=H.n then some (b,o) else γ.loc k)=some (b',o'):=hl;split at hl
  ·cases hl;exact hlt
  ·exact h.hr.lt k b' o' hl
 ·show (if k=H.n then _ else _)=_;have:H.n+1≤k:=hk;rw [if_neg (by omega)];exact h.fr k (by omega)
variable {D : Type} {enc : TypeId × Value → D} {base : Nat} {spare : Nat → Bool} {held : Bool}
theorem IQ {b:Addr} {n:Nat} {cs:List Value} (h:w.cells? base b n=some cs):cs.length=n∧∀ i,i < n→w.cell? (b.add i)=cs[i]?:=by
 unfold World.cells? at h;split at h
 ·refine ⟨by simpa using mapM_some_length h,fun i hi=>mapM_some_get h i i (by simp [hi])⟩
 ·cases h
theorem zl {a:Addr} {v:Value} (h:w.cell? a=some v):a.spot=none∧∃ c e fz,w.heap[a.block]?=some (.cells c e fz)∧c[a.off]?=some v:=by
 unfold World.cell? at h;split at h
 ·rename_i c e fz hb;split at h
  ·cases h
  ·rename_i hs;exact ⟨by simpa using hs,c,e,fz,hb,h⟩
 ·cases h
theorem pR (a:Addr) (n:Nat):(a.add n).block=a.block:=by unfold Addr.add;split <;> rfl
theorem FO (a:Addr) (n:Nat):(a.add n).off=a.off+n:=by unfold Addr.add;split <;> simp_all
mutual
theorem lk (P:Program):∀ (d:Nat) (s:Sh) (t:TypeId),kY P d s t=true→∀ (fuel:Nat) (cs:List Value) (x:DataW D × List MemPlace),DataW.trod enc P w base spare held fuel t cs=some x→Lk w s cs∧cs.length=s.cells
 | 0,_,_,h=>by simp [kY] at h
 | d+1,.int k,t,h=>by
  intro fuel cs x hx;unfold kY at h;split at h
  ·rename_i k' hu;obtain rfl:=of_decide_eq_true h;obtain ⟨n,rfl,_,hw⟩:=DataW.trod_int hu hx;exact ⟨.flat rfl (.int hw) rfl,rfl⟩
  ·cases h
 | d+1,.bool,t,h=>by
  intro fuel cs x hx;unfold kY at h;split at h
  ·rename_i hu;obtain ⟨b,rfl,_⟩:=DataW.trod_bool hu hx;exact ⟨.flat rfl .bool rfl,rfl⟩
  ·cases h
 | d+1,.str,t,h=>by
  intro fuel cs x hx;unfold kY at h;split at h
  ·rename_i hu;obtain ⟨s,rfl,_,hw⟩:=DataW.trod_string hu hx;exact ⟨.flat rfl (.str hw) rfl,rfl⟩
  ·cases h
 | d+1,.slice s,t,h=>by
  intro fuel cs x hx;unfold kY at h;split at h
  ·rename_i e hu;simp only [qq7] at h;have hsz:=Nat.eq_of_beq_eq_true h.1
   rcases DataW.trod_slice hu hx with ⟨rfl,_⟩|⟨a,len,cap,elems,rest,n,_,rfl,_,_,hlc,hcm,hel,hat,_⟩
   ·refine ⟨fun γ H hs=>⟨γ,H,[.slice none 0 0],[.sl [] false],.refl,hs,rfl,cy.cons (.flat rfl) (cy.nil γ),⟨rfl,fun i a u x y=>?_⟩,.slice (qq5 _) (fun el he=>by cases he),rfl⟩,rfl⟩
    cases i with
    | zero=>cases x;cases y;exact .nil
    | succ i=>simp at x
   ·
    let csl:List (List Value):=(List.range len).map fun i=>(w.cells? base (a.add (i * P.cellsOf e)) (P.cellsOf e)).getD []
    have hlen:csl.length=len:=by simp [csl]
    have hcs:∀ i,i < len→∃ ci y,csl[i]?=some ci∧w.cells? base (a.add (i * P.cellsOf e)) (P.cellsOf e)=some ci∧DataW.trod enc P w base spare held n e ci=some y:=by intro i hi;have h1:=hat i hi;have h2:elems[i]?=some (elems[i]'(by omega)):=List.getElem?_eq_getElem _;rw [h2,Option.bind_eq_some_iff] at h1;obtain ⟨ci,c1,c2⟩:=h1;exact ⟨ci,_,by simp [csl,hi,c1],c1,c2⟩
    have hall:∀ ci ∈ csl,Lk w s ci∧ci.length=s.cells:=by intro ci hci;obtain ⟨i,hi,rfl⟩:=List.getElem_of_mem hci;obtain ⟨cj,y,q1,q2,q3⟩:=hcs i (by omega);rw [List.getElem?_eq_getElem hi] at q1;cases q1;exact lk P d s e h.2.2 n _ y q3
    refine ⟨fun γ H hs=>?_,rfl⟩;obtain ⟨γ1,H1,us,els,e1,h1,l1,v1,d1,t1,c1⟩:=Lk.list hall γ H hs;have htv:TV (.slice s) [.sl els false]:=.slice (by rw [t1,hlen];omega) (fun el he=>(c1 el he).1)
    have hfin:∀ (u:Value) (γ':Gm) (H':Hp),LE γ1 H1 γ' H'→LS γ' H' w→VR γ' u (.slice (some a) len cap)→DR H'.get FN (.sl els false) u →
      ∃ γ' H' us avs,LE γ H γ' H'∧LS γ' H' w∧us.length=[Value.slice (some a) len cap].length∧cy γ' us [.slice (some a) len cap]∧tD H'.get FN avs us∧TV (.slice s) avs∧avs.length=(Sh.slice s).cells:=by
     intro u γ' H' he hs' hv hd;refine ⟨γ',H',[u],[.sl els false],e1.trans he,hs',rfl,cy.cons hv (cy.nil γ'),⟨rfl,fun i a w x y=>?_⟩,htv,rfl⟩
     cases i with
     | zero=>cases x;cases y;exact hd
     | succ i=>simp at x
    have hfl:∀ el ∈ csl,el.length=s.cells:=fun el he=>(hall el he).2;have hels:∀ el ∈ els,el.length=s.cells:=fun el he=>(c1 el he).2;have hne:els.length=len:=t1.trans hlen;by_cases h0:len * s.cells=0
    ·
     have hg:∀ k a,(H1.push (.cells us false 0)).get k=some a→(k < H1.n∧H1.get k=some a)∨(k=H1.n∧a=.cells us false 0):=by
      intro k a hk;rw [Hp.fh] at hk;split at hk
      ·rename_i hkn;cases hk;exact .inr ⟨hkn,rfl⟩
      ·exact .inl ⟨h1.wf.lt hk,hk⟩
     have hus:us=[]:=List.length_eq_zero_iff.1 (by rw [l1,dR hfl,hlen];exact h0);by_cases hl0:len=0
     ·subst hl0;refine hfin (.slice (some ⟨H1.n,0,none⟩) 0 2) γ1 (H1.push (.cells us false 0)) ⟨Gm.Le.refl γ1,Nat.le_succ _,fun k hk=>cF hk⟩ ⟨⟨fun k b o a hk hl=>?_,fun k k' b o o' a a' hk ho=>?_,h1.hr.lt,h1.hr.base,h1.hr.gl⟩,(dZ.push H1 _).wf h1.wf,fun k hk=>h1.fr k (by have:H1.n+1≤k:=hk;omega),fun k a hk=>?_⟩ (.dc (by omega) (fun h=>by omega) (by omega)) ?_
      ·rcases hg k a hk with ⟨_,q⟩|⟨rfl,_⟩
       ·exact h1.hr.gT k b o a q hl
       ·rw [h1.fr _ (qq6 _)] at hl;cases hl
      ·rcases hg k a hk with ⟨_,q⟩|⟨_,rfl⟩
       ·rw [(h1.un k a q).1] at ho;cases ho
       ·cases ho
      ·rcases hg k a hk with ⟨_,q⟩|⟨_,rfl⟩
       ·exact h1.un k a q
       ·exact ⟨rfl,by simp⟩
      ·exact .row (es:=s.cells) (own:=false) (e:=0) jo (fun h=>h) hels hne (by
        have hd:=d1;rw [hus] at hd ⊢
        exact ⟨hd.1,fun i a u x y=>by cases y⟩) (fun h=>Bool.noConfusion h)
     ·
      exfalso
      have hz:s.cells=0:=by
       rcases Nat.mul_eq_zero.1 h0 with h|h
       ·exact absurd h hl0
       ·exact h
      have:=Nat.le_of_ble_eq_true h.2.1;omega
    ·have hpos:0 < len∧0 < s.cells:=by
      constructor
      ·apply Nat.pos_of_ne_zero;intro h;rw [h] at h0;simp at h0
      ·apply Nat.pos_of_ne_zero;intro h;rw [h] at h0;simp at h0
     have hcell:∀ i ci,csl[i]?=some ci→∀ j,j < s.cells→(∀ v,ci[j]?=some v→w.cell? ((a.add (i * s.cells)).add j)=some v):=by intro i ci hi j hj v hv;obtain ⟨cj,y,q1,q2,q3⟩:=hcs i (by rw [←hlen];exact (List.getElem?_eq_some_iff.1 hi).1);rw [q1] at hi;cases hi;rw [hsz] at q2;obtain ⟨_,r2⟩:=IQ q2;rw [r2 j hj];exact hv
     obtain ⟨c0,y0,z1,z2,z3⟩:=hcs 0 hpos.1;have hz0:c0.length=s.cells:=hfl c0 (List.mem_of_getElem? z1);have hv0:c0[0]?=some (c0[0]'(by omega)):=List.getElem?_eq_getElem _;obtain ⟨sp,cs',e',fz,hb,_⟩:=zl (hcell 0 c0 z1 0 hpos.2 _ hv0);rw [pR,pR] at hb;have hspot:a.spot=none:=by have:((a.add (0 * s.cells)).add 0).spot=none:=sp;simpa [Addr.add] using this
     have hcr:dM γ1 us cs' a.off:=by
      intro j v hj;have hjl:j < len * s.cells:=by rw [←hlen,←dR hfl,←l1];exact (List.getElem?_eq_some_iff.1 hj).1
      obtain ⟨v',q1,q2⟩:=v1.get hj;have hi:j / s.cells < len:=(Nat.div_lt_iff_lt_mul hpos.2).2 hjl;have hm:j % s.cells < s.cells:=Nat.mod_lt _ hpos.2;obtain ⟨ci,y,p1,p2,p3⟩:=hcs _ hi;have hdecomp:j / s.cells * s.cells+j % s.cells=j:=by rw [Nat.mul_comm];exact Nat.div_add_mod j s.cells
      have hf:=fH hfl _ ci (j % s.cells) p1 hm;rw [hdecomp,q1] at hf;obtain ⟨_,c2,e2,f2,b1,b2⟩:=zl (hcell _ ci p1 _ hm v' hf.symm);rw [pR,pR,hb] at b1;cases b1;rw [FO,FO,Nat.add_assoc,hdecomp] at b2;exact ⟨v',b2,q2⟩
     obtain ⟨γ2,_,e2,h2,hloc⟩:=h1.row hb hcr;refine hfin (.slice (some ⟨H1.n,0,none⟩) len (len+2)) γ2 _ e2 h2 ?_ ?_
     ·have:=VR.slice (γ:=γ2) (k:=H1.n) (o:=0) (n:=len) (c:=len+2) (c':=cap) hloc hlc (fun h=>by omega) (fun h=>by omega) (fun h=>by omega);have ha:(⟨a.block,a.off+0,none⟩:Addr)=a:=by cases a;simp at hspot;subst hspot;rfl
      rw [ha] at this;exact this
     ·exact .row (es:=s.cells) jo (fun h=>h) hels hne (e2.T6 h1.wf d1) (fun h=>Bool.noConfusion h)
  ·cases h
 | d+1,.nil,t,h=>by
  intro fuel cs x hx;unfold kY at h;split at h
  ·rename_i fs hu;simp only [qq7] at h;obtain ⟨xs,n,_,_,hl,_,hf⟩:=DataW.trod_struct hu hx;have hz:=Nat.eq_of_beq_eq_true h.1;obtain rfl:=List.length_eq_zero_iff.1 (hl.trans hz);exact ⟨fun γ H hs=>⟨γ,H,[],[],.refl,hs,rfl,cy.nil γ,⟨rfl,fun i a u x=>by cases x⟩,.nil,rfl⟩,rfl⟩
  ·cases h
 | d+1,.cons s l,t,h=>by
  intro fuel cs x hx;unfold kY at h;split at h
  ·rename_i fs hu;simp only [qq7] at h;obtain ⟨xs,n,_,_,hl,hxl,hf⟩:=DataW.trod_struct hu hx;have hz:=Nat.eq_of_beq_eq_true h.1
   have:=RO P d (.cons s l) fs.toList 0 h.2 n cs (by rw [hl,hz];simp [Sh.cells]) (fun i f hi=>by
    rw [Array.getElem?_toList] at hi;rw [hf i f hi];have hlt:i < xs.length:=by rw [hxl];exact (Array.getElem?_eq_some_iff.1 hi).1
    exact ⟨_,List.getElem?_eq_getElem hlt⟩)
   rw [List.drop_zero] at this;exact ⟨this,by rw [hl,hz];rfl⟩
  ·cases h
 | d+1,.arr m s,t,h=>by
  intro fuel cs x hx;unfold kY at h;split at h
  ·rename_i m' e hu;simp only [qq7] at h;obtain ⟨⟨⟨h1,h2⟩,h3⟩,h4⟩:=h;obtain rfl:=Nat.eq_of_beq_eq_true h1;have hsz:=Nat.eq_of_beq_eq_true h2;have htot:=Nat.eq_of_beq_eq_true h3
   have hx':∃ n,cs.length=P.cellsOf t∧∀ i,i < m→∃ y,DataW.trod enc P w base spare held n e ((cs.drop (i * P.cellsOf e)).take (P.cellsOf e))=some y:=by
    obtain ⟨xs,n,_,_,hl,hxl,hp⟩:=DataW.trod_array hu hx
    exact ⟨n,hl,fun i hi=>by
     rw [hp i hi]
     exact ⟨_,List.getElem?_eq_getElem (by omega)⟩⟩
   obtain ⟨n,hl,hel⟩:=hx';rw [hsz] at hel;rw [htot] at hl
   let csl:List (List Value):=(List.range m).map fun i=>(cs.drop (i * s.cells)).take s.cells
   have hflat:csl.flatten=cs:=by
    have key:∀ (m:Nat) (cs:List Value),cs.length=m * s.cells→((List.range m).map fun i=>(cs.drop (i * s.cells)).take s.cells).flatten=cs:=by
     intro m
     induction m with
     | zero=>intro cs h;rw [Nat.zero_mul] at h;simp [List.length_eq_zero_iff.1 h]
     | succ m ih =>
      intro cs h;rw [List.range_succ_eq_map,List.map_cons,List.map_map,List.flatten_cons,Nat.zero_mul,List.drop_zero];have hd:(cs.drop s.cells).length=m * s.cells:=by rw [List.length_drop,h,Nat.add_mul];omega
      have e:=ih (cs.drop s.cells) hd
      have:((fun i=>(cs.drop (i * s.cells)).take s.cells) ∘ Nat.succ)=fun i=>((cs.drop s.cells).drop (i * s.cells)).take s.cells:=by
       funext i
       simp only [Function.comp,List.drop_drop];rw [show s.cells+i * s.cells=Nat.succ i * s.cells by rw [Nat.succ_mul];omega]
      rw [this,e];exact List.take_append_drop _ _
    exact key m cs hl
   have hall:∀ ci ∈ csl,Lk w s ci∧ci.length=s.cells:=by intro ci hci;obtain ⟨i,hi,rfl⟩:=List.mem_map.1 hci;obtain ⟨y,hy⟩:=hel i (by simpa using hi);exact lk P d s e h4 n _ y hy
   refine ⟨fun γ H hs=>?_,hl⟩;obtain ⟨γ1,H1,us,els,e1,q1,l1,v1,d1,t1,c1⟩:=Lk.list hall γ H hs;rw [hflat] at l1 v1;have hels:els.length=m:=by rw [t1];simp [csl]
   exact ⟨γ1,H1,us,els.flatten,e1,q1,l1,v1,d1,.arr hels (fun el he=>(c1 el he).1),by
    rw [dR (fun el he=>(c1 el he).2),hels];rfl⟩
  ·cases h
theorem RO (P:Program):∀ (d:Nat) (l:Sh) (fs:List Field) (o:Nat),tL P d l fs o=true→∀ (n:Nat) (cs:List Value),cs.length=o+l.cells→(∀ (i:Nat) (f:Field),fs[i]?=some f→∃ y,DataW.trod enc P w base spare held n f.type ((cs.drop f.offset).take (P.cellsOf f.type))=some y) →
  Lk w l (cs.drop o)
 | 0,_,_,_,h=>by simp [tL] at h
 | d+1,.nil,[],o,_=>by intro n cs hl _;have:cs.drop o=[]:=List.length_eq_zero_iff.1 (by rw [List.length_drop,hl];simp [Sh.cells]);rw [this];exact fun γ H hs=>⟨γ,H,[],[],.refl,hs,rfl,cy.nil γ,⟨rfl,fun i a u x=>by cases x⟩,.nil,rfl⟩
 | d+1,.cons s l,f :: fs,o,h=>by
  intro n cs hl hf;simp only [tL,qq7] at h;obtain ⟨⟨⟨h1,h2⟩,h3⟩,h4⟩:=h;have ho:=Nat.eq_of_beq_eq_true h1;have hsz:=Nat.eq_of_beq_eq_true h2;obtain ⟨y,hy⟩:=hf 0 f rfl;rw [ho,hsz] at hy;obtain ⟨k1,k2⟩:=lk P d s f.type h3 n _ y hy;have k3:=RO P d l fs (o+s.cells) h4 n cs (by rw [hl];simp [Sh.cells];omega) (fun i g hi=>hf (i+1) g (by simpa using hi));have hsplit:cs.drop o=(cs.drop o).take s.cells++cs.drop (o+s.cells):=by rw [←List.drop_drop];exact (List.take_append_drop _ _).symm
  intro γ H hs;obtain ⟨γ1,H1,us1,av1,e1,q1,l1,v1,d1,t1,c1⟩:=k1 γ H hs;obtain ⟨γ2,H2,us2,av2,e2,q2,l2,v2,d2,t2,c2⟩:=k3 γ1 H1 q1;rw [hsplit];exact ⟨γ2,H2,us1++us2,av1++av2,e1.trans e2,q2,by simp [l1,l2],(v1.mono e2.le).append v2,(e2.T6 q1.wf d1).append d2,.cons t1 t2,by simp [c1,c2,Sh.cells]⟩
 | d+1,.nil,_ :: _,_,h=>by simp [tL] at h
 | d+1,.cons _ _,[],_,h=>by simp [tL] at h
 | d+1,.int _,_,_,h=>by simp [tL] at h
 | d+1,.bool,_,_,h=>by simp [tL] at h
 | d+1,.str,_,_,h=>by simp [tL] at h
 | d+1,.slice _,_,_,h=>by simp [tL] at h
 | d+1,.arr _ _,_,_,h=>by simp [tL] at h
end
end
section
variable {P : Program} {w : World} {D : Type} {enc : TypeId × Value → D} {base : Nat} {spare : Nat → Bool} {held : Bool}
def uJ:Sh→List AV→AV
 | .nil,l=>.ag l
 | .cons _ _,l=>.ag l
 | .arr _ _,l=>.ag l
 | _,l=>l.headD .cw
def Em:List Sh→List AV→Prop
 | [],[]=>True
 | s :: l,a :: as=>(∃ avs,TV s avs∧a=uJ s avs)∧Em l as
 | _,_=>False
theorem vk {s:Sh} {v:Value} (hv:v.cells.toList=[v]) (hs:∀ l,uJ s l=l.headD .cw) (h1:s.cells=1) (hl:Lk w s v.cells.toList) (γ:Gm) (H:Hp) (h:LS γ H w) :
  ∃ γ' H' u a,LE γ H γ' H'∧LS γ' H' w∧VR γ' u v∧DR H'.get FN a u∧∃ avs,TV s avs∧a=uJ s avs:=by
 rw [hv] at hl;obtain ⟨γ',H',us,avs,e,q,l1,v1,d1,t1,c1⟩:=hl γ H h
 match us,l1 with
 | [u],_ =>
  match avs,c1.trans h1 with
  | [a],_=>exact ⟨γ',H',u,a,e,q,v1.2 0 u v rfl rfl,d1.2 0 a u rfl rfl,[a],t1,by rw [hs];rfl⟩
theorem MT {s:Sh} {cs:Array Value} (hs:∀ l,uJ s l=.ag l) (hl:Lk w s cs.toList) (γ:Gm) (H:Hp) (h:LS γ H w) :
  ∃ γ' H' u a,LE γ H γ' H'∧LS γ' H' w∧VR γ' u (.agg cs)∧DR H'.get FN a u∧∃ avs,TV s avs∧a=uJ s avs:=by
 obtain ⟨γ',H',us,avs,e,q,l1,v1,d1,t1,c1⟩:=hl γ H h;refine ⟨γ',H',.agg us.toArray,.ag avs,e,q,?_,.ag (by simpa using d1.1) (fun i a u x y=>d1.2 i a u x (by simpa using y)),avs,t1,(hs _).symm⟩;have:=VR.kD v1;simpa using this
theorem MU {d:Nat} {s:Sh} {t:TypeId} (hsh:kY P d s t=true) {v:Value} {x:DataW D} {ps:List MemPlace} {r:Reach} {b:Nat} (hok:Value.okWide P w r b t v) (ht:DataW.Trod enc P w base spare held t v x ps) (γ:Gm) (H:Hp) (h:LS γ H w) :
  ∃ γ' H' u a,LE γ H γ' H'∧LS γ' H' w∧VR γ' u v∧DR H'.get FN a u∧∃ avs,TV s avs∧a=uJ s avs:=by
 obtain ⟨fuel,ht⟩:=ht;obtain ⟨hl,_⟩:=lk P d s t hsh fuel _ _ ht;have agg:(∃ cs,v=.agg cs)→(∀ l,uJ s l=.ag l)→∃ γ' H' u a,LE γ H γ' H'∧LS γ' H' w∧VR γ' u v∧DR H'.get FN a u∧∃ avs,TV s avs∧a=uJ s avs:=by rintro ⟨cs,rfl⟩ hs;exact MT hs hl γ H h
 cases d with
 | zero=>simp [kY] at hsh
 | succ d =>
  cases s with
  | int k =>
   unfold kY at hsh;split at hsh
   ·rename_i k' hu;unfold Value.okWide at hok;rw [hu] at hok;simp only [Cell.okWide,hu,Cell.ok] at hok;cases v <;> simp at hok
    exact vk rfl (fun _=>rfl) rfl hl γ H h
   ·cases hsh
  | bool =>
   unfold kY at hsh;split at hsh
   ·rename_i hu;unfold Value.okWide at hok;rw [hu] at hok;simp only [Cell.okWide,hu,Cell.ok] at hok;cases v <;> simp at hok
    exact vk rfl (fun _=>rfl) rfl hl γ H h
   ·cases hsh
  | str =>
   unfold kY at hsh;split at hsh
   ·rename_i hu;unfold Value.okWide at hok;rw [hu] at hok;simp only [Cell.okWide,hu,Cell.ok] at hok;cases v <;> simp at hok
    exact vk rfl (fun _=>rfl) rfl hl γ H h
   ·cases hsh
  | slice s =>
   unfold kY at hsh;split at hsh
   ·rename_i e hu;unfold Value.okWide at hok;rw [hu] at hok;simp only [Cell.okWide,hu,Cell.ok] at hok;cases v <;> simp at hok
    exact vk rfl (fun _=>rfl) rfl hl γ H h
   ·cases hsh
  | nil =>
   unfold kY at hsh;split at hsh
   ·rename_i fs hu;unfold Value.okWide at hok;rw [hu] at hok;exact agg ⟨_,hok.choose_spec.1⟩ (fun _=>rfl)
   ·cases hsh
  | cons s l =>
   unfold kY at hsh;split at hsh
   ·rename_i fs hu;unfold Value.okWide at hok;rw [hu] at hok;exact agg ⟨_,hok.choose_spec.1⟩ (fun _=>rfl)
   ·cases hsh
  | arr n s =>
   unfold kY at hsh;split at hsh
   ·rename_i m e hu;unfold Value.okWide at hok;rw [hu] at hok;exact agg ⟨_,hok.choose_spec.1⟩ (fun _=>rfl)
   ·cases hsh
def zm (P:Program) (d:Nat):List Sh→List TypeId→Bool
 | [],[]=>true
 | s :: l,t :: ts=>kY P d s t && zm P d l ts
 | _,_=>false
theorem CM {d:Nat} {r:Reach} {b:Nat}:∀ {ss:List Sh} {ts:List TypeId} {vs:List Value} {ds:List (DataW D)} {ps:List MemPlace},zm P d ss ts=true→DataW.TrodAll enc P w base spare held ts vs ds ps →
  (∀ (j:Nat) t v,ts[j]?=some t→vs[j]?=some v→Value.okWide P w r b t v)→∀ (γ:Gm) (H:Hp),LS γ H w→∃ γ' H' us as,LE γ H γ' H'∧LS γ' H' w∧cy γ' us vs∧tD H'.get FN as us∧Em ss as
 | [],[],[],[],ps,_,_,_,γ,H,h=>⟨γ,H,[],[],.refl,h,cy.nil γ,⟨rfl,fun i a u x=>by cases x⟩,trivial⟩
 | s :: ss,t :: ts,v :: vs,x :: ds,ps,hs,ht,hok,γ,H,h=>by
  simp only [zm,qq7] at hs;obtain ⟨p,q,h1,h2,_⟩:=ht;obtain ⟨γ1,H1,u,a,e1,q1,v1,d1,t1⟩:=MU hs.1 (hok 0 t v rfl rfl) h1 γ H h;obtain ⟨γ2,H2,us,as,e2,q2,v2,d2,t2⟩:=CM hs.2 h2 (fun j t v a b=>hok (j+1) t v (by simpa using a) (by simpa using b)) γ1 H1 q1;refine ⟨γ2,H2,u :: us,a :: as,e1.trans e2,q2,cy.cons (v1.mono e2.le) v2,⟨by simp [d2.1],fun i b w hb hw=>?_⟩,t1,t2⟩
  cases i with
  | zero=>cases hb;cases hw;exact e2.dr q1.wf d1
  | succ i=>exact d2.2 i b w (by simpa using hb) (by simpa using hw)
 | [],_ :: _,_,_,_,h,_,_,_,_,_=>by simp [zm] at h
 | _ :: _,[],_,_,_,h,_,_,_,_,_=>by simp [zm] at h
 | [],[],_ :: _,_,_,_,h,_,_,_,_=>by simp [DataW.TrodAll] at h
 | [],[],[],_ :: _,_,_,h,_,_,_,_=>by simp [DataW.TrodAll] at h
 | _ :: _,_ :: _,[],_,_,_,h,_,_,_,_=>by simp [DataW.TrodAll] at h
 | _ :: _,_ :: _,_ :: _,[],_,_,h,_,_,_,_=>by simp [DataW.TrodAll] at h
theorem LS.empty (w:World) (hg:∀ x ∈ GL,x.1 < w.heap.size∧HP (w.heap[x.1]?) x.2):LS ⟨fun _=>none,fun _=>0,w.heap.size⟩ Hp.empty w :=
 ⟨⟨fun k b o a h _=>(by cases h),fun k k' b o o' a a' h=>(by cases h),fun k b o h=>(by cases h),qq6 _,hg⟩,Cq,fun _ _=>rfl,fun k a h=>(by cases h)⟩
end
section
variable {T : bL} {tab : List XE} {one : Bool}
open Go.RowKit in
theorem En (hT:cE T) (hm:T.P.follows .mixedOrders=true) (ht:∀ e ∈ tab,aj T e) {f:FuncId} {v:Value} (hf:bh v=true) {D:Type} {enc:TypeId × Value→D} {base:Nat} {spare:Nat→Bool} {held:Bool} {d:Nat} {r:Reach} {b:Nat}
  {ss:List Sh} {ts:List TypeId} {args:Array Value} {ds:List (DataW D)} {ps:List MemPlace} {w:World} (hs:zm T.P d ss ts=true) (htr:DataW.TrodAll enc T.P w base spare held ts args.toList ds ps)
  (hok:∀ (j:Nat) t v,ts[j]?=some t→args.toList[j]?=some v→Value.okWide T.P w r b t v) (hp:∀ as,Em ss as→af T tab one (.fn f [] []) as (.fl v))
  (hgl:∀ x ∈ GL,x.1 < w.heap.size∧HP (w.heap[x.1]?) x.2:=by intro x hx;exact absurd hx (by simp [GL])) :
  Calls T.P f args w fun e w'=>e=.returned v∧Below w.heap.size w w':=by
 obtain ⟨γ,H,us,as,e,q,v1,d1,t1⟩:=CM hs htr hok _ _ (LS.empty w hgl);obtain ⟨goal,hg,m,L,h1,_,h3⟩:=(hp as t1).2 FN H (.func (.func f) #[] #[]) us q.wf (fun k h=>h.elim) (.fn rfl rfl (fun i x u h=>by cases h) (fun i x u h=>by cases h)) d1
 have hgoal:goal=.fn f us:=by
  have:dD (.func (.func f) #[] #[]) us=some (.fn f us):=by simp [dD]
  rw [this] at hg;exact (Option.some.inj hg).symm
 subst hgoal;have hS:cO T (RX T tab m) m:=Cs ht (wB hT hm ht m)
 have hN:∃ N,∀ r ∈ L,r.hp.n≤N:=by
  clear h3 h1;rename_i hone;clear hone
  induction L with
  | nil=>exact ⟨0,fun r hr=>by cases hr⟩
  | cons a l ih =>
   obtain ⟨N,hN⟩:=ih;refine ⟨max a.hp.n N,fun r hr=>?_⟩
   rcases List.mem_cons.1 hr with rfl|hr
   ·omega
   ·have:=hN r hr;omega
 obtain ⟨N,hN⟩:=hN;have hB:γ.B=w.heap.size:=e.le.B;have hc:=(hS.call f us H L h1).2 γ w args.toList N q.wf q.hr (fun k hk _=>q.fr k hk) hN v1;refine callsIn_wide.1 (CallsIn.mono (F:=FW none) hc fun en w' hR=>?_);obtain ⟨x,hp',x',γ1,hmem,rfl,hv,hst⟩:=hR;obtain ⟨y,H',hy,_,_,_,_,hdr⟩:=h3 _ hmem;cases hy
 have hx:x=v:=by
  cases hdr with
  | fl h=>rfl
 subst hx;refine ⟨by rw [hv.bN hf],?_⟩;rw [←hB];exact hst.iB.below q.hr
end
end Go.RM
namespace Go.RM
open Go
def fJ (a b:AV):Prop:=∀ (ρ:Nat→Nat→Option Nat) (g:aG) (O:Nat→Prop) (u:Value),AR ρ g O a u→AR ρ g O b u
theorem fJ.refl (a:AV):fJ a a:=fun _ _ _ _ h=>h
def AZ (fr:Nat→AV):List (Nat × AV)→Prop
 | []=>True
 | (i,v) :: l=>fJ (fr i) v∧AZ fr l
theorem zn {fr:Nat→AV}:∀ {l:List (Nat × AV)},AZ fr l→∀ t,fJ (fr t) (bA l t)
 | [],_,t=>fun _ _ _ _ _=>.cw
 | (i,v) :: l,h,t=>by
  unfold bA;rw [Tr.beq_eq];by_cases hti:t=i
  ·rw [decide_eq_true hti,hti];exact h.1
  ·rw [decide_eq_false hti];exact zn h.2 t
variable {T : bL} {tab : List XE} {one : Bool}
theorem ai.soft {st:cH} {l:List (Nat × AV)} (h:AZ st.fr l):ai st ⟨bA l,st.hp,st.aO,st.rd,st.fl⟩ :=
 ⟨rfl,fun E _ _ hs=>⟨E,⟨hs.h,hs.rd,fun t=>zn h t _ _ _ _ (hs.fr t)⟩,.refl⟩⟩
theorem ai.RF {st:cH} {l:List (Nat × AV)} {hp:List AB} (n:Nat) (hh:st.hp.take n=hp) (hs:AZ st.fr l) (hn:st.fl≤n) (hl:(l.all fun p=>p.2.jN n)=true) (hb:hp.all (AB.jN n)=true):ai st ⟨bA l,hp,st.aO,st.rd,st.fl⟩:=by subst hh;exact (ai.soft hs).trans (ai.cut hn (wR hl) hb)
theorem bQ {mu:Tmp→Bool} {st:cH} {K:Exit→cH→Prop} (h:K .normal st):me T tab one mu .skip st K:=h
theorem bk {mu:Tmp→Bool} {a b:Code} {st:cH} {K:Exit→cH→Prop} (h:me T tab one mu a st (wQ (fun s=>me T tab one mu b s K) K)):me T tab one mu (.seq a b) st K:=h
theorem fm {mu:Tmp→Bool} {id:Nat} {c:Code} {st:cH} {K:Exit→cH→Prop} (h:me T tab one mu c st (jM id K)):me T tab one mu (.block id c) st K:=h
theorem wV {mu:Tmp→Bool} {id:Nat} {ops:Array Oper} {st:cH} {K:Exit→cH→Prop} (h:AY T tab one mu ops (fR ops) st (K .normal)):me T tab one mu (.region id ops true) st K:=h
theorem bg {mu:Tmp→Bool} {id:Nat} {ops:Array Oper} {st:cH} {K:Exit→cH→Prop} (h:wpOps T tab one mu ops.toList ops.toList st (K .normal)):me T tab one mu (.region id ops false) st K:=h
theorem aZ {Q:cH→Prop} {K:Exit→cH→Prop} {s:cH} (h:Q s):wQ Q K .normal s:=h
theorem gZ.fl (v:Value):gZ (.fl v):=⟨rfl,fun _ _ _ _ h=>by cases h with|fl h=>exact .fl h⟩
theorem gZ.list {l:List AV} (h:∀ a ∈ l,gZ a) {g:aG} {O O':Nat→Prop} {us:List Value} (hd:∀ (i:Nat) (a:AV) (u:Value),l[i]?=some a→us[i]?=some u→DR g O a u) :
 ∀ (i:Nat) (a:AV) (u:Value),l[i]?=some a→us[i]?=some u→DR g O' a u:=fun i a u h1 h2=>(h a (List.mem_of_getElem? h1)).2 g O O' u (hd i a u h1 h2)
theorem IU {l:List AV} (h:∀ a ∈ l,a.deep=true):bG l=true:=by
 induction l with
 | nil=>rfl
 | cons a l ih =>simp only [bG,qq7];exact ⟨h a (by simp),ih fun b hb=>h b (List.mem_cons_of_mem _ hb)⟩
theorem gZ.ag {l:List AV} (h:∀ a ∈ l,gZ a):gZ (.ag l):=⟨by simp only [AV.deep];exact IU fun a ha=>(h a ha).1,fun _ _ _ _ hd=>by
 cases hd with
 | ag h1 h2=>exact .ag h1 (gZ.list h h2)⟩
theorem DK.two {hp:List AB} {a b x y:AV} (h:Fz hp a x) (k:Fz hp b y):DK hp [a,b] [x,y]:=⟨h,k,trivial⟩
theorem af.PT {F:AV} {args vs:List AV} {v:AV} {hp:List AB} {aO:cz} (h:af T tab one F vs v) (hF:F.deep=true) (hz:DK hp args vs) (hfree:gZ v) {Q:AV→List AB→cz→Prop} (hq:Q v hp aO):aB T tab one F args hp aO Q:=by
 intro E base H u us hr hf ha;obtain ⟨hd,h⟩:=h;obtain ⟨goal,hg,m,L,h1,h2,h3⟩:=h E.X H u us hr.wf (fun k hk=>hr.xn k hk) ((hf.deep hF).mono fun k b hk ho=>⟨hk,fun hx=>ho (.inr hx)⟩) (hz.dr hr (fun _ h=>h) ha);refine ⟨goal,hg,m,L,h1,h2,fun r hm=>?_⟩;obtain ⟨w,H',rfl,hn,hwf,hsame,hlo,hv⟩:=h3 r hm;have e:Ext base E hp H E hp H':=⟨hn,rfl,rfl,rfl,fun _ _ _ h=>h,fun _ h=>.inl h,fun k hk _=>hsame k hk,by have:=hr.bn;omega⟩;refine ⟨w,H',rfl,E,v,hp,aO,hq,⟨hwf,fun j x aF hj hvx=>?_,hr.inj,fun j v k hk=>Nat.lt_of_lt_of_le (hr.rn j v k hk) hn,hr.fresh,hr.new,hr.sup,hr.jm,hr.dx,hr.ds,fun k hk=>Nat.lt_of_lt_of_le (hr.sn k hk) hn,fun k hk=>Nat.lt_of_lt_of_le (hr.xn k hk) hn,hr.qK,Nat.le_trans hr.bn hn,aO.st hr.aO (fun k hk=>hsame k (hr.sn k hk)) hn⟩,.d (hfree.2 _ _ _ _ hv),e.MD⟩
 rcases hr.gT j x aF hj hvx with ⟨k,b',q1,q2,q3⟩|q
 ·exact .inl ⟨k,b',q1,by rw [hsame k (hr.wf.lt q2)];exact q2,e.br hr.wf q3⟩
 ·exact .inr q
section
variable {T : bL} {tab : List XE} {one : Bool} {fl base base1 : Nat} {E E' E1 E2 E4 : Env} {hp hp' hp1 hp2 hp4 : List AB} {aO amb' amb4 : cz} {H H' H1 H2 H4 : Hp} {ρ ρ' : Nat → Nat → Option Nat} {g g' : aG} {O O' : Nat → Prop}
theorem BR.mono {b:AB} {b':bf} (h:BR ρ g O b b') (hr:∀ j v k,ρ j v=some k→ρ' j v=some k) (hg:∀ k b,g k=some b→¬ O k→g' k=some b∧¬ O' k):BR ρ' g' O' b b':=by
 cases b with
 | cells cs es aF=>obtain ⟨cs',rfl,h⟩:=h;exact ⟨cs',rfl,h.mono hr hg⟩
 | dQ s p=>exact h
 | map ents clock =>obtain ⟨es,rfl,h1,h2⟩:=h;exact ⟨es,rfl,h1,fun i k v born x hx hy=>⟨(h2 i k v born x hx hy).1.mono hr hg,(h2 i k v born x hx hy).2.1.mono hr hg,(h2 i k v born x hx hy).2.2⟩⟩
 | iter j since seen stepped=>obtain ⟨m,rfl,h⟩:=h;exact ⟨m,rfl,hr _ _ _ h⟩
 | gone=>exact h
theorem aY.view (h:aY E base hp aO H) {X':Nat→Prop} (hwf:Wf H1) (hn:H.n≤H1.n) (hX:∀ k,E.X k→X' k) (hX2:∀ k,X' k→E.X k∨H.n≤k) (hXn:∀ k,X' k→k < H1.n)
  (heq:∀ k,k < H.n→(¬ E.X k∨E.S k)→H1.get k=H.get k) (hb:∀ k,Own E.ρ hp k∨E.D k→base1≤k) (hbn:base1≤H1.n):aY {E with X:=X'} base1 hp aO H1:=by
 have keep:∀ k b,H.get k=some b→¬ E.O hp k→H1.get k=some b∧¬ ({E with X:=X'}:Env).O hp k:=fun k b hk ho=>by
  have hlt:=h.wf.lt hk;refine ⟨by rw [heq k hlt (.inl fun hx=>ho (.inr hx))];exact hk,fun ho'=>?_⟩
  rcases ho' with h1|h1
  ·exact ho (.inl h1)
  ·rcases hX2 k h1 with h2|h2
   ·exact ho (.inr h2)
   ·omega
 refine ⟨hwf,fun j x aF hj hv=>?_,h.inj,fun j v k hk=>Nat.lt_of_lt_of_le (h.rn j v k hk) hn,h.fresh,h.new,h.sup,fun k hk hx=>?_,fun k hd=>hX k (h.dx k hd),h.ds,fun k hk=>Nat.lt_of_lt_of_le (h.sn k hk) hn,hXn,hb,hbn,aO.st h.aO (fun k hk=>heq k (h.sn k hk) (.inr hk)) hn⟩
 ·rcases h.gT j x aF hj hv with ⟨k,b',q1,q2,q3⟩|q
  ·have hok:Own E.ρ hp k:=⟨j,x,aF,hj,hv,q1⟩;exact .inl ⟨k,b',q1,by rw [heq k (h.wf.lt q2) (.inl (h.jm k hok))];exact q2,q3.mono (fun _ _ _ h=>h) keep⟩
  ·exact .inr q
 ·rcases hX2 k hx with h2|h2
  ·exact h.jm k hk h2
  ·have:=h.kN hk;omega
theorem aY.IV (h:aY E base hp aO H):aY E 0 hp aO H:={h with qK:=fun _ _=>qq5 _,bn:=qq5 _}
theorem l9.IV (h:l9 fl base E hp H E' hp' H'):l9 fl 0 E hp H E' hp' H':={h with lo:=by omega}
def IW (fl0:Nat) (E0:Env) (hp0:List AB) (H0:Hp) (gT:bf) (Q:List AB→cz→Prop):cz where
 P D S g n:=(∀ k,k≤H0.n→S k)∧g H0.n=some gT∧∃ (E':Env) (b':Nat) (hp':List AB) (amb':cz) (H':Hp),Q hp' amb'∧aY E' b' hp' amb' H'∧l9 fl0 0 E0 hp0 H0 E' hp' H'∧H'.n≤n∧(E'.X H0.n∧¬ E'.S H0.n) ∧
  (∀ k,k < H'.n→S k∨E'.X k)∧(∀ k,E'.S k→S k)∧(∀ k,S k→k ≠ H0.n→g k=H'.get k)∧(∀ k,Own E'.ρ hp' k∨E'.D k∨k=H0.n→D k)
 st:=by rintro D S g g' n n' ⟨h1,h2,E',b',hp',amb',H',q1,q2,q3,q4,q5,q6,q7,q8,q9⟩ hs hn;exact ⟨h1,by rw [hs _ (h1 _ (qq6 _))];exact h2,E',b',hp',amb',H',q1,q2,q3,Nat.le_trans q4 hn,q5,q6,q7,fun k hk hne=>by rw [hs k hk];exact q8 k hk hne,q9⟩
theorem G1 {fl0:Nat} {E0:Env} {hp0:List AB} {H0:Hp} {gT blk' b0:bf} {Q Q':List AB→cz→Prop} (hr:aY E1 base1 hp (IW fl0 E0 hp0 H0 gT Q) H)
  (hX:∀ k,k < H.n→E1.S k∨E.X k) (hXl:E.X H0.n) (hSl:¬ E.S H0.n) (hS:∀ k,E.S k→E1.S k) (hD:∀ k,Own E.ρ hp1 k∨E.D k∨k=H0.n→E1.D k) (hlow:∀ k,k≤H0.n→E1.S k)
  (f0:l9 fl0 0 E0 hp0 H0 E hp1 H) (h4:aY E4 base1 hp4 amb4 H4) (F:l9 fl0 base1 E hp1 (H.put H0.n b0) E4 hp4 H4) (hQ:Q' hp4 amb4) :
  ∃ E5,aY E5 base1 hp (IW fl0 E0 hp0 H0 blk' Q') (H4.put H0.n blk')∧l9 hp.length base1 E1 hp H E5 hp (H4.put H0.n blk'):=by
 have hln:H0.n < H.n:=hr.sn _ (hlow _ (qq6 _));have hn:H.n≤H4.n:=F.n;have hD1:E1.D H0.n:=hD _ (.inr (.inr rfl));have same:∀ k,k < H.n→¬ E1.D k→(H4.put H0.n blk').get k=H.get k:=fun k hk hd=>by have hne:k ≠ H0.n:=fun e=>hd (e ▸ hD1);rw [bY hne,F.same k hk (fun h=>hd (hD k (.inl h))) (fun h=>hd (hD k (.inr (.inl h)))),bY hne]
 let X':Nat→Prop:=fun k=>E1.X k∨(H.n≤k∧k < H4.n)
 let S':Nat→Prop:=fun k=>E1.S k∨(H.n≤k∧k < H4.n)
 let D':Nat→Prop:=fun k=>E1.D k∨(H.n≤k∧(Own E4.ρ hp4 k∨E4.D k))
 have hnew:∀ k,Own E4.ρ hp4 k∨E4.D k→k < H4.n:=fun k h=>h.elim (fun h=>h4.kN h) (fun h=>h4.sn k (h4.ds k h))
 have keep:∀ k b,H.get k=some b→¬ E1.O hp k→(H4.put H0.n blk').get k=some b∧¬ (⟨E1.ρ,D',S',X'⟩:Env).O hp k:=fun k b hk ho=>by
  have hlt:=hr.wf.lt hk;refine ⟨by rw [same k hlt (fun hd=>ho (.inr (hr.dx k hd)))];exact hk,fun ho'=>?_⟩
  rcases ho' with h1|h1|h1
  ·exact ho (.inl h1)
  ·exact ho (.inr h1)
  ·omega
 refine ⟨⟨E1.ρ,D',S',X'⟩,⟨fun k hk=>?_,fun j x aF hj hv=>?_,hr.inj,fun j v k hk=>Nat.lt_of_lt_of_le (hr.rn j v k hk) hn,hr.fresh,hr.new,fun k hk hs=>?_,fun k hk hx=>?_,fun k hd=>?_,fun k hd=>?_,fun k hs=>?_,fun k hx=>?_,fun k hd=>?_,Nat.le_trans hr.bn hn,?_⟩,
  ⟨hn,fun _ _ _ _ h=>h,fun k hk=>.inl hk,fun k hd=>hd.imp id And.left,fun k hd=>hd.imp id And.left,fun k hx=>.inl hx,fun k hd=>hd.imp id And.left,fun k hk _ hd=>same k hk hd,?_⟩⟩
 ·have hk:H4.n≤k:=hk;rw [bY (by omega)];exact h4.wf k hk
 ·rcases hr.gT j x aF hj hv with ⟨k,b',q1,q2,q3⟩|q
  ·have hok:Own E1.ρ hp k:=⟨j,x,aF,hj,hv,q1⟩;exact .inl ⟨k,b',q1,by rw [same k (hr.wf.lt q2) (fun hd=>hr.jm k hok (hr.dx k hd))];exact q2,q3.mono (fun _ _ _ h=>h) keep⟩
  ·exact .inr q
 ·rcases hs with h1|h1
  ·exact hr.sup k hk h1
  ·have:=hr.kN hk;omega
 ·rcases hx with h1|h1
  ·exact hr.jm k hk h1
  ·have:=hr.kN hk;omega
 ·rcases hd with h1|h1
  ·exact .inl (hr.dx k h1)
  ·exact .inr ⟨h1.1,hnew k h1.2⟩
 ·rcases hd with h1|h1
  ·exact .inl (hr.ds k h1)
  ·exact .inr ⟨h1.1,hnew k h1.2⟩
 ·rcases hs with h1|h1
  ·exact Nat.lt_of_lt_of_le (hr.sn k h1) hn
  ·exact h1.2
 ·rcases hx with h1|h1
  ·exact Nat.lt_of_lt_of_le (hr.xn k h1) hn
  ·exact h1.2
 ·rcases hd with h1|h1|h1
  ·exact hr.qK k (.inl h1)
  ·exact hr.qK k (.inr h1)
  ·exact h4.qK k h1.2
 ·have f0':l9 fl0 0 E0 hp0 H0 E hp1 (H.put H0.n b0):=⟨f0.n,f0.Cv,f0.own,f0.d,f0.x,f0.xk,f0.s,fun k hk h1 h2=>by rw [bY (by omega)];exact f0.same k hk h1 h2,by omega⟩;refine ⟨fun k hk=>.inl (hlow k hk),iM,E4,base1,hp4,amb4,H4,hQ,h4,f0'.trans F.IV,qq6 _,⟨F.xk _ hXl,fun hs=>?_⟩,fun k hk=>?_,fun k hs=>?_,fun k _ hne=>bY hne,fun k hk=>?_⟩
  ·rcases F.s _ hs with h1|h1
   ·exact hSl h1
   ·have:H.n≤H0.n:=h1;omega
  ·by_cases hlt:k < H.n
   ·exact (hX k hlt).imp .inl (F.xk k)
   ·exact .inl (.inr ⟨by omega,hk⟩)
  ·rcases F.s k hs with h1|h1
   ·exact .inl (hS k h1)
   ·exact .inr ⟨h1,h4.sn k hs⟩
  ·rcases hk with h1|h1|h1
   ·rcases F.own k h1 with h2|h2
    ·exact .inl (hD k (.inl h2))
    ·exact .inr ⟨h2,.inl h1⟩
   ·rcases F.d k h1 with h2|h2
    ·exact .inl (hD k (.inr (.inl h2)))
    ·exact .inr ⟨h2,.inr h1⟩
   ·exact .inl (hD k (.inr (.inr h1)))
 ·have h1:=F.lo;have h2:=hr.qK _ (.inr hD1);have h3:(H.put H0.n b0).lo=min H.lo H0.n:=rfl;have h4:(H4.put H0.n blk').lo=min H4.lo H0.n:=rfl;omega
def A0 (T:bL) (tab:List XE) (one:Bool) (u:Value) (x:List AV) (a:cz) (Q:Bool→cz→Prop):Prop :=
 ∀ hp,aB T tab one (.oq u) x hp a fun v hp' a'=>hp'=hp∧∃ b,v=.fl (.bool b)∧Q b a'
def Eo (J:cz) (Stop:cz→Prop) (b:Bool) (a:cz):Prop:=(b=true∧a=J)∨(b=false∧Stop a)
def yM (T:bL) (tab:List XE) (one:Bool) (F:AV) (xs:List (List AV)):Prop :=
 (∃ f a b,F=.fn f a b)∧F.deep=true∧(∀ x ∈ xs,∀ a ∈ x,gZ a)∧∀ (u:Value) (J:Nat→cz) (Stop:cz→Prop),(∀ (i:Nat) (x:List AV),xs[i]?=some x→A0 T tab one u x (J i) (Eo (J (i+1)) Stop)) →
  aB T tab one F [.oq u] [] (J 0) fun _ _ a'=>a'=J xs.length∨Stop a'
def T7 (T:bL) (rs:List ResultVar) (Q:cz→Prop) (e:Exit) (s:cH):Prop :=
 match e with
 | .normal|.ret=>qo T s rs fun _=>Q s.aO
 | _=>False
theorem yM.body {f:FuncId} {fn:Func} {c:Code} {first caps:List AV} {xs:List (List AV)} (hf:T.fn.get f=some fn) (hb:fn.body=some c) (hn:noEntry tab f=true) (hd:(AV.fn f first caps).deep=true) (hfree:∀ x ∈ xs,∀ a ∈ x,gZ a)
  (hw:∀ (u:Value) (J:Nat→cz) (Stop:cz→Prop),(∀ (i:Nat) (x:List AV),xs[i]?=some x→A0 T tab one u x (J i) (Eo (J (i+1)) Stop)) →
   aE T tab one c ⟨CJ (first++[.oq u]++caps),[],J 0,false,0⟩ (T7 T fn.results.toList fun a'=>a'=J xs.length∨Stop a')):yM T tab one (.fn f first caps) xs:=by
 refine ⟨⟨f,first,caps,rfl⟩,hd,hfree,fun u J Stop hy E base H v us hr hF ha=>?_⟩;have hF:=hF.deep hd
 cases hF with
 | fn l1 l2 d1 d2 =>
  rename_i a' b';have hall:gE E.ρ H.get (E.O []) (first++[.oq u]++caps) (a'.toList++us++b'.toList):=gE.append (gE.append (tD.FF ⟨l1,d1⟩) ha) (tD.FF ⟨l2,d2⟩);refine ⟨.fn f (a'.toList++us++b'.toList),rfl,?_⟩;obtain ⟨m,L,h1,h2,h3⟩:=hw u J Stop hy E base ⟨setArgs .leaf 0 (a'.toList++us++b'.toList),H,false⟩ ⟨hr,rfl,wS hall⟩
  obtain ⟨m',M,hm,q1,q2,q3⟩:=gu (one:=one) (L:=L) (f:=fun _ (p:Exit × St)=>fE T fn.results.toList p) (P:=fun r=>∃ w H',r=.ret w H'∧∃ E' a hp' amb',(amb'=J xs.length∨Stop amb')∧aY E' base hp' amb' H'∧AR E'.ρ H'.get (E'.O hp') a w∧l9 ([]:List AB).length base E [] H E' hp' H')
   (fun _ _ _ _ _ h=>h) m h2 (fun p hp=>by
    obtain ⟨E',st',k1,_,k2,k3⟩:=h3 p hp;obtain ⟨e,s'⟩:=p
    have done:(e=.normal∨e=.ret)→(qo T st' fn.results.toList fun _=>st'.aO=J xs.length∨Stop st'.aO)→∃ (_:Nat) (M:List gL),fE T fn.results.toList (e,s')=some M∧qO one M fun r=>∃ w H',r=.ret w H'∧∃ E' a hp' amb',(amb'=J xs.length∨Stop amb')∧aY E' base hp' amb' H'∧AR E'.ρ H'.get (E'.O hp') a w∧l9 ([]:List AB).length base E [] H E' hp' H':=by
     intro he hr;obtain ⟨ws,as,r1,r2,r3⟩:=lH k2 hr;refine ⟨0,[.ret (dm ws) s'.hp],?_,.single ⟨_,_,rfl,E',.cw,st'.hp,st'.aO,r2,k2.h,.cw,k3⟩⟩;unfold fE
     rcases he with rfl|rfl <;> simp only [r1,Option.map_some]
    cases e with
    | normal=>exact done (.inl rfl) k1
    | ret=>exact done (.inr rfl) k1
    | _=>exact k1.elim)
  refine ⟨m'+1,M,?_,q2,q3⟩;show RX T tab (m'+1) (.call f _ H)=_;rw [AD,pO _ _ hn];simp only;rw [kG,hf];simp only [hb];rw [fj (gH hm) _ _ _ h1];exact q1
def FP (fr:Nat→AV):List (Tmp × AV)→Nat→AV
 | []=>fr
 | (d,v) :: l=>FP (fun t=>bif Nat.beq t d then v else fr t) l
theorem CN:∀ (ps:List Tmp) {x:List AV} {us:List Value} {fr:Nat→AV} {tm:Tr Value},jX ρ g O fr tm→gE ρ g O x us→jX ρ g O (FP fr (ps.zip x)) (fc tm (ps.zip us))
 | [],_,_,_,_,h,_=>h
 | p :: ps,[],[],_,_,h,_=>h
 | p :: ps,a :: x,u :: us,fr,tm,h,ha=>by simp only [List.zip_cons_cons,FP,fc];exact CN ps (sx h (ha.2 0 a u rfl rfl) (some p)) ⟨by simpa using ha.1,fun i a u x y=>ha.2 (i+1) a u (by simpa using x) (by simpa using y)⟩
 | p :: ps,[],_ :: _,_,_,_,ha=>absurd ha.1 (by simp)
 | p :: ps,_ :: _,[],_,_,_,ha=>absurd ha.1 (by simp)
def UF (P:cH→Prop) (e:Exit) (s:cH):Prop :=
 match e with
 | .normal=>s.rd=true∧P s
 | _=>False
def PU (K:Exit→cH→Prop) (st:cH) (hpn:List AB) (an:cz) (pn:Prop) (e:Exit) (s:cH):Prop :=
 match e with
 | .normal=>pn∧∃ fr',ai s ⟨fr',hpn,an,s.rd,s.fl⟩
 | .ret=>K .ret ⟨st.fr,s.hp,s.aO,st.rd,st.fl⟩
 | .exit id=>K (.exit id) ⟨st.fr,s.hp,s.aO,st.rd,st.fl⟩
 | _=>False
theorem wW {a b:Rec} (h:iY a b) {l:Nat} {bd:Code} {p:Exit × St} {M:List gL} (e:cX T a l bd p=some M):cX T b l bd p=some M:=by
 unfold cX at e ⊢;split at e
 ·split at e
  ·rename_i pend2 fr2 ps2 as2 bd2 hl2
   cases hq:bM T a bd ⟨p.2.fr,p.2.hp.put l (.loop .busy pend2 fr2 ps2 as2 bd2),true⟩ with
   | none=>rw [hq] at e;cases e
   | some M2=>rw [hq] at e;rw [fj h _ _ _ hq];exact e
  ·cases e
 ·cases e
theorem ai.RP {st:cH} {fr':Nat→AV} {hp:List AB} {a:cz} {rd:Bool} {n:Nat} (h:ai st ⟨fr',hp,a,rd,n⟩) {s:St} (hs:qN E base st s):∃ E',aY E' base hp a s.hp∧l9 st.fl base E st.hp s.hp E' hp s.hp:=by obtain ⟨E',h1,h2⟩:=h.2 E base s hs;exact ⟨E',h1.h,h2⟩
theorem aE.range {f:Operand} {ps:Array Tmp} {as bd:Code} {st:cH} {K:Exit→cH→Prop} {xs:List (List AV)} (Hs:Nat→List AB) (As:Nat→cz) (Ps:Nat→Prop) {rdv:Bool} (hrd:st.rd=rdv) (hgen:yM T tab one (bq st.fr f) xs) (h0:Hs 0=st.hp) (ha0:As 0=st.aO) (hp0:Ps 0)
  (hround:∀ (i:Nat) (x:List AV),xs[i]?=some x→Ps i→x.length=ps.toList.length∧aE T tab one as ⟨FP st.fr (ps.toList.zip x),Hs i,As i,true,st.hp.length⟩ (UF fun s=>aE T tab one bd s (PU K st (Hs (i+1)) (As (i+1)) (Ps (i+1)))))
  (hend:Ps xs.length→K .normal ⟨st.fr,Hs xs.length,As xs.length,rdv,st.fl⟩):aE T tab one (.rangeFunc f ps as bd) st K:=by
 intro E base s hs;obtain ⟨⟨gf,ga,gb,hF⟩,qn,hfree,hgen⟩:=hgen;subst hrd
 let l:=s.hp.n
 let LP:bf→(List AB→cz→Prop)→cz:=IW st.hp.length E st.hp s.hp
 let blkR:bf:=.loop .ready none s.fr ps as bd
 let J:Nat→cz:=fun i=>LP blkR fun hp' amb'=>hp'=Hs i∧amb'=As i∧Ps i
 let Stop:cz→Prop:=fun a=>∃ pend e,((e=Exit.ret∧pend=Code.ret)∨∃ id,e=Exit.exit id∧pend=Code.exit id)∧a=LP (.loop .done (some pend) s.fr ps as bd) fun hp' amb'=>K e ⟨st.fr,hp',amb',st.rd,st.fl⟩
 let u:Value:=.func (.yield l) #[] #[]
 have hy:∀ (i:Nat) (x:List AV),xs[i]?=some x→A0 T tab one u x (J i) (Eo (J (i+1)) Stop):=by
  intro i x hx hp E1 base1 H w us hr hw ha
  have hwu:w=u:=by
   cases hw with
   | d h=>cases h;rfl
  subst hwu;obtain ⟨hlow,hl,E',b',hp',amb',H',⟨rfl,rfl,hPi⟩,q2,q3,q4,⟨q5,q5'⟩,q6,q7,q8,q9⟩:=hr.aO;obtain ⟨hxl,hround⟩:=hround i x hx hPi;refine ⟨.yield l ([]++us),rfl,?_⟩;rw [List.nil_append];have hln:l < H.n:=hr.sn _ (hlow _ (qq6 _))
  let X2:Nat→Prop:=fun k=>E'.X k∨(k < H.n∧¬ E1.S k)
  have hv:aY {E' with X:=X2} base1 (Hs i) (As i) H:=q2.view hr.wf q4 (fun k h=>.inl h) (fun k h=>by
    rcases h with h|h
    ·exact .inl h
    ·by_cases hk:k < H'.n
     ·exact .inl ((q6 k hk).resolve_left h.2)
     ·exact .inr (by omega)) (fun k h=>h.elim (fun h=>Nat.lt_of_lt_of_le (q2.xn k h) q4) And.left)
   (fun k hk h=>by
    rcases h with h|h
    ·exact q8 k ((q6 k hk).resolve_right h) (fun e=>h (e ▸ q5))
    ·exact q8 k (q7 k h) (fun e=>q5' (e ▸ h))) (fun k hk=>hr.qK k (.inr (q9 k (hk.imp id .inl)))) hr.bn
  have f0:l9 st.hp.length 0 E st.hp s.hp {E' with X:=X2} (Hs i) H:=⟨Nat.le_trans q3.n q4,q3.Cv,q3.own,q3.d,fun k h=>by
    rcases h with h|h
    ·exact q3.x k h
    ·by_cases hk:k < s.hp.n
     ·exact absurd (hlow k (Nat.le_of_lt hk)) h.2
     ·exact .inr (by omega),fun k h=>.inl (q3.xk k h),q3.s,fun k hk h1 h2=>by rw [q8 k (hlow k (Nat.le_of_lt hk)) (by omega)];exact q3.same k hk h1 h2,by omega⟩
  have hfrm:jX E'.ρ H.get (({E' with X:=X2}:Env).O (Hs i)) st.fr s.fr:=fun t=>f0.ar hs.h.IV (hs.fr t);have hargs:gE E'.ρ H.get (({E' with X:=X2}:Env).O (Hs i)) x us:=⟨ha.1,fun i a u h1 h2=>.d ((hfree x (List.mem_of_getElem? hx) a (List.mem_of_getElem? h1)).2 _ _ _ _ ((ha.2 i a u h1 h2).deep (hfree x (List.mem_of_getElem? hx) a (List.mem_of_getElem? h1)).1))⟩;obtain ⟨m1,L1,a1,a2,a3⟩:=hround {E' with X:=X2} base1 ⟨fc s.fr (ps.toList.zip us),H,true⟩ ⟨hv,rfl,CN _ hfrm hargs⟩;have hXl2:X2 s.hp.n:=.inl q5
  obtain ⟨m,M,hm,z1,z2⟩:=gu (one:=one) (L:=L1) (f:=fun m (p:Exit × St)=>cX T (RX T tab m) l bd p) (P:=fun r=>∃ w H',r=.ret w H'∧∃ E5 a hp5 amb5,(hp5=hp∧∃ b,a=.fl (.bool b)∧Eo (J (i+1)) Stop b amb5)∧aY E5 base1 hp5 amb5 H'∧AR E5.ρ H'.get (E5.O hp5) a w∧l9 hp.length base1 E1 hp H E5 hp5 H')
   (fun n m x M hnm hx=>wW (gH hnm) hx) m1 a2 (fun p hp0=>by
    obtain ⟨E2,st2,k1,k2,k3,k4⟩:=a3 p hp0;obtain ⟨e,p⟩:=p
    cases e with
    | normal =>
     obtain ⟨hrd2,hbd⟩:=k1;have gl:p.hp.get l=some blkR:=by rw [k4.same l hln (fun h=>hv.jm _ h hXl2) (fun h=>q5' (q2.ds _ h))];exact hl
     have hl2:l < p.hp.n:=Nat.lt_of_lt_of_le hln k4.n;have hX2l:E2.X l:=k4.xk l hXl2
     have hS2l:¬ E2.S l:=fun h=>by
      rcases k4.s l h with h|h
      ·exact q5' h
      ·have:H.n≤l:=h;omega
     let bB:bf:=.loop .busy none s.fr ps as bd
     have hv2:aY E2 base1 st2.hp st2.aO (p.hp.put l bB):=k3.h.view (X':=E2.X) (fun k hk=>by
       have hk:p.hp.n≤k:=hk
       rw [bY (by omega)];exact k3.h.wf k hk) (qq6 _) (fun _ h=>h) (fun _ h=>.inl h) k3.h.xn (fun k hk h=>bY fun e=>by
       subst e
       exact h.elim (fun h=>h hX2l) hS2l) k3.h.qK k3.h.bn
     have har2:jX E2.ρ (p.hp.put l bB).get (E2.O st2.hp) st2.fr p.fr:=fun t=>(k3.fr t).mono (fun _ _ _ h=>h) (fun k b hk ho=>⟨by rw [bY (fun e=>by subst e;exact ho (.inr hX2l))];exact hk,ho⟩);obtain ⟨m2,L2,b1,b2,b3⟩:=hbd E2 base1 ⟨p.fr,p.hp.put l bB,true⟩ ⟨hv2,hrd2.symm,har2⟩
     have F1:l9 st.hp.length base1 {E' with X:=X2} (Hs i) (H.put l bB) E2 st2.hp (p.hp.put l bB):=⟨k4.n,k4.Cv,k4.own,k4.d,k4.x,k4.xk,k4.s,fun k hk h1 h2=>by
       by_cases hkl:k=l
       ·subst hkl;rw [iM,iM]
       ·rw [bY hkl,bY hkl];exact k4.same k hk h1 h2,by
       have h5:min H.lo base1≤p.hp.lo:=k4.lo;have h3:(H.put l bB).lo=min H.lo l:=rfl;have h4:(p.hp.put l bB).lo=min p.hp.lo l:=rfl
       omega⟩
     have back:∀ {E4:Env} {hp4:List AB} {amb4:cz} {q:St} (blk':bf) {Q':List AB→cz→Prop},aY E4 base1 hp4 amb4 q.hp→l9 st.hp.length base1 E2 st2.hp (p.hp.put l bB) E4 hp4 q.hp→Q' hp4 amb4 →
       ∃ E5,aY E5 base1 hp (LP blk' Q') (q.hp.put l blk')∧l9 hp.length base1 E1 hp H E5 hp (q.hp.put l blk'):=by
      intro E4 hp4 amb4 q blk' Q' h4 f4 hQ
      exact G1 (E:={E' with X:=X2}) hr (fun k hk=>by
        by_cases hs1:E1.S k
        ·exact .inl hs1
        ·exact .inr (.inr ⟨hk,hs1⟩)) hXl2 q5' q7 q9 hlow f0 h4 (F1.trans f4) hQ
     refine ⟨max m2 0,?_⟩
     obtain ⟨m3,M3,hm3,y1,y2⟩:=gu (one:=one) (L:=L2) (f:=fun _ (q:Exit × St)=>gB l q) (P:=fun r=>∃ w H',r=.ret w H'∧∃ E5 a hp5 amb5,(hp5=hp∧∃ b,a=.fl (.bool b)∧Eo (J (i+1)) Stop b amb5)∧aY E5 base1 hp5 amb5 H'∧AR E5.ρ H'.get (E5.O hp5) a w∧l9 hp.length base1 E1 hp H E5 hp5 H')
      (fun _ _ _ _ _ h=>h) 0 b2 (fun q hq=>by
       obtain ⟨E3,st3,j1,j2,j3,j4⟩:=b3 q hq;obtain ⟨e,q⟩:=q;have gl2:q.hp.get l=some bB:=by rw [j4.same l hl2 (fun h=>hv2.jm _ h hX2l) (fun h=>hS2l (hv2.ds _ h))];exact iM
       have jfl:st2.fl=st.hp.length:=k2
       cases e with
       | normal =>obtain ⟨hPn,fr',hwk⟩:=j1;obtain ⟨E4,h4,f4⟩:=hwk.RP j3;rw [j2,jfl] at f4;rw [jfl] at j4;obtain ⟨E5,x1,x2⟩:=back (q:=q) (.loop .ready none s.fr ps as bd) (Q':=fun hp' amb'=>hp'=Hs (i+1)∧amb'=As (i+1)∧Ps (i+1)) h4 (j4.trans f4) ⟨rfl,rfl,hPn⟩;exact ⟨0,[.ret (.bool true) (q.hp.put l (.loop .ready none s.fr ps as bd))],by unfold gB;simp only [gl2,bB],.single ⟨_,_,rfl,E5,.fl (.bool true),hp,_,⟨rfl,true,rfl,.inl ⟨rfl,rfl⟩⟩,x1,.d (.fl rfl),x2⟩⟩
       | ret =>rw [jfl] at j4;obtain ⟨E5,x1,x2⟩:=back (q:=q) (.loop .done (some .ret) s.fr ps as bd) (Q':=fun hp' amb'=>K .ret ⟨st.fr,hp',amb',st.rd,st.fl⟩) j3.h j4 j1;exact ⟨0,[.ret (.bool false) (q.hp.put l (.loop .done (some .ret) s.fr ps as bd))],by unfold gB;simp only [gl2,bB],.single ⟨_,_,rfl,E5,.fl (.bool false),hp,_,⟨rfl,false,rfl,.inr ⟨rfl,.ret,.ret,.inl ⟨rfl,rfl⟩,rfl⟩⟩,x1,.d (.fl rfl),x2⟩⟩
       | exit id =>rw [jfl] at j4;obtain ⟨E5,x1,x2⟩:=back (q:=q) (.loop .done (some (.exit id)) s.fr ps as bd) (Q':=fun hp' amb'=>K (.exit id) ⟨st.fr,hp',amb',st.rd,st.fl⟩) j3.h j4 j1;exact ⟨0,[.ret (.bool false) (q.hp.put l (.loop .done (some (.exit id)) s.fr ps as bd))],by unfold gB;simp only [gl2,bB],.single ⟨_,_,rfl,E5,.fl (.bool false),hp,_,⟨rfl,false,rfl,.inr ⟨rfl,.exit id,.exit id,.inr ⟨id,rfl,rfl⟩,rfl⟩⟩,x1,.d (.fl rfl),x2⟩⟩
       | _=>exact j1.elim)
     refine ⟨M3,?_,y2⟩;unfold cX;simp only [gl,blkR];rw [fj (gH (Nat.le_max_left m2 0)) _ _ _ b1];exact y1
    | _=>exact k1.elim)
  refine ⟨m+1,M,?_,z2⟩;show RX T tab (m+1) (.round l us H)=_;rw [IC,oD,hl];simp only [blkR];rw [show Nat.beq us.length ps.toList.length=true by rw [←ha.1,hxl];exact Nat.beq_refl _];simp only [cond_true];rw [fj (gH hm) _ _ _ a1];exact z1
 let E1:Env:=⟨fun _ _=>none,fun k=>Own E.ρ st.hp k∨E.D k∨k=l,fun k=>k≤l,fun k=>Own E.ρ st.hp k∨E.X k∨k=l⟩
 have hno:∀ k,¬ Own E1.ρ [] k:=fun k ⟨j,b,aF,h,_⟩=>by cases h
 have hwf1:Wf (s.hp.push blkR):=(dZ.push s.hp blkR).wf hs.h.wf
 have hrel1:aY E1 base [] (J 0) (s.hp.push blkR) :=
  {wf:=hwf1,gT:=fun j b aF h _=>(by cases h),inj:=fun j j' aF ver' k h=>(by cases h),rn:=fun j v k h=>(by cases h),fresh:=fun j b aF v h=>(by cases h),new:=fun _ _ _=>rfl,
   sup:=fun k h=>(hno k h).elim,jm:=fun k h=>(hno k h).elim,dx:=fun k h=>h.imp id (fun h=>h.imp (hs.h.dx k) id),
   ds:=fun k h=>by
    rcases h with h|h|h
    ·exact Nat.le_of_lt (hs.h.kN h)
    ·exact Nat.le_of_lt (hs.h.sn k (hs.h.ds k h))
    ·exact Nat.le_of_eq h
   sn:=fun k h=>Nat.lt_succ_of_le h
   xn:=fun k h=>by
    show k < s.hp.n+1
    rcases h with h|h|h
    ·exact Nat.lt_succ_of_lt (hs.h.kN h)
    ·exact Nat.lt_succ_of_lt (hs.h.xn k h)
    ·have:k=s.hp.n:=h;omega
   qK:=fun k h=>by
    rcases h with h|h|h|h
    ·exact (hno k h).elim
    ·exact hs.h.qK k (.inl h)
    ·exact hs.h.qK k (.inr h)
    ·rw [h];exact hs.h.bn
   bn:=Nat.le_succ_of_le hs.h.bn
   aO:=by
    refine ⟨fun k h=>h,jo,{E with X:=fun k=>E.X k∨k=s.hp.n},base,st.hp,st.aO,s.hp.push blkR,⟨h0.symm,ha0.symm,hp0⟩,hs.h.view hwf1 (Nat.le_succ _) (fun k h=>.inl h) (fun k h=>h.imp id (fun h=>Nat.le_of_eq h.symm)) (fun k h=>?_) (fun k hk _=>cF hk) hs.h.qK (Nat.le_succ_of_le hs.h.bn),
     ⟨Nat.le_succ _,fun _ _ _ _ h=>h,fun _ h=>.inl h,fun _ h=>.inl h,fun k h=>h.imp id (fun h=>Nat.le_of_eq h.symm),fun _ h=>.inl h,fun _ h=>.inl h,fun k hk _ _=>cF hk,by omega⟩,qq6 _,⟨.inr rfl,fun h=>Nat.lt_irrefl _ (hs.h.sn _ h)⟩,fun k hk=>.inl (Nat.le_of_lt_succ hk),fun k h=>Nat.le_of_lt (hs.h.sn k h),fun _ _ _=>rfl,fun k h=>h⟩
    show k < s.hp.n+1
    rcases h with h|h
    ·exact Nat.lt_succ_of_lt (hs.h.xn k h)
    ·omega}
 have hFv:=lZ hs.fr f;have hdF:=hFv.deep qn
 have hF1:AR E1.ρ (s.hp.push blkR).get (E1.O []) (bq st.fr f) (aQ s.fr f):=.d (hdF.mono fun k b hk ho=>by
  have hlt:=hs.h.wf.lt hk;refine ⟨by rw [cF hlt];exact hk,fun h=>?_⟩
  rcases h with h|h|h|h
  ·exact hno k h
  ·exact ho (.inl h)
  ·exact ho (.inr h)
  ·have:k=s.hp.n:=h;omega)
 obtain ⟨goal,hgo,m,L,c1,c2,c3⟩:=hgen u J Stop hy E1 base (s.hp.push blkR) _ [u] hrel1 hF1 (.cons (.d (.oq rfl)) .nil)
 have hgfn:∃ as',goal=.fn gf as':=by
  rw [hF] at hdF;generalize aQ s.fr f=fv at hdF hgo
  cases hdF with
  | fn _ _ _ _=>exact ⟨_,by cases hgo;rfl⟩
 obtain ⟨as',rfl⟩:=hgfn
 obtain ⟨m',M,hm,z1,z2⟩:=gu (one:=one) (L:=L) (f:=fun _ (r:gL)=>jC l s.fr s.rd r) (P:=fun p=>sA E base st s (K p.1) p.2) (fun _ _ _ _ _ h=>h) m c2 (fun r hr=>by
  obtain ⟨w,H2,rfl,E2,a,hp2,amb2,k1,k2,k3,k4⟩:=c3 r hr
  have fin:∀ {gT:bf} (blk':bf) {Q:List AB→cz→Prop} {e:Exit},amb2=LP gT Q→(∀ hp' amb',Q hp' amb'→K e ⟨st.fr,hp',amb',st.rd,st.fl⟩)→H2.get l=some gT∧sA E base st s (K e) ⟨s.fr,H2.put l blk',s.rd⟩:=by
   intro gT blk' Q e ha hQ;subst ha;obtain ⟨hlow,hl,E',b',hp',amb',H',q1,q2,q3,q4,⟨q5,q5'⟩,q6,q7,q8,q9⟩:=k2.aO;have hln:l < H2.n:=k2.sn _ (hlow _ (qq6 _));have hbl:base≤l:=k2.qK _ (.inr (q9 _ (.inr (.inr rfl))));have hg2:∀ k,E2.S k→k ≠ l→(H2.put l blk').get k=H'.get k:=fun k h1 h2=>by rw [bY h2];exact q8 k h1 h2
   have hfin:aY {E' with X:=fun k=>E'.X k∨(k < H2.n∧¬ E2.S k)} base hp' amb' (H2.put l blk'):=q2.view (fun k hk=>by
      have hk:H2.n≤k:=hk
      rw [bY (by omega)];exact k2.wf k hk) q4 (fun k h=>.inl h) (fun k h=>by
     rcases h with h|h
     ·exact .inl h
     ·by_cases hk:k < H'.n
      ·exact .inl ((q6 k hk).resolve_left h.2)
      ·exact .inr (by omega)) (fun k h=>h.elim (fun h=>Nat.lt_of_lt_of_le (q2.xn k h) q4) And.left)
    (fun k hk h=>by
     rcases h with h|h
     ·exact hg2 k ((q6 k hk).resolve_right h) (fun e=>h (e ▸ q5))
     ·exact hg2 k (q7 k h) (fun e=>q5' (by have e:k=s.hp.n:=e;rw [←e];exact h))) (fun k hk=>k2.qK k (.inr (q9 k (hk.imp id .inl)))) k2.bn
   have ff:l9 st.hp.length base E st.hp s.hp {E' with X:=fun k=>E'.X k∨(k < H2.n∧¬ E2.S k)} hp' (H2.put l blk'):=⟨Nat.le_trans q3.n q4,q3.Cv,q3.own,q3.d,fun k h=>by
     rcases h with h|h
     ·exact q3.x k h
     ·by_cases hk:k < s.hp.n
      ·exact absurd (hlow k (Nat.le_of_lt hk)) h.2
      ·exact .inr (by omega),fun k h=>.inl (q3.xk k h),q3.s,fun k hk h1 h2=>by rw [hg2 k (hlow k (Nat.le_of_lt hk)) (Nat.ne_of_lt hk)];exact q3.same k hk h1 h2,by
     have h1:=k4.lo;have h2:(s.hp.push blkR).lo=s.hp.lo:=rfl;have h3:(H2.put l blk').lo=min H2.lo l:=rfl
     omega⟩
   exact ⟨hl,_,⟨st.fr,hp',amb',st.rd,st.fl⟩,hQ _ _ q1,rfl,⟨hfin,hs.rd,fun t=>ff.ar hs.h (hs.fr t)⟩,ff.low hs.h _⟩
  rcases k1 with k1|⟨pend,e,hpe,k1⟩
  ·obtain ⟨g1,g2⟩:=fin (.loop .exhausted none s.fr ps as bd) (e:=.normal) k1 (fun hp' amb' ⟨h1,h2,h3⟩=>by subst h1;subst h2;exact hend h3);exact ⟨0,[(.normal,⟨s.fr,H2.put l (.loop .exhausted none s.fr ps as bd),s.rd⟩)],by unfold jC;simp only [g1,blkR],.single g2⟩
  ·obtain ⟨g1,g2⟩:=fin (.loop .exhausted (some pend) s.fr ps as bd) (e:=e) k1 (fun _ _ h=>h)
   rcases hpe with ⟨rfl,rfl⟩|⟨id,rfl,rfl⟩
   ·exact ⟨0,[(.ret,⟨s.fr,H2.put l (.loop .exhausted (some .ret) s.fr ps as bd),s.rd⟩)],by unfold jC;simp only [g1],.single g2⟩
   ·exact ⟨0,[(.exit id,⟨s.fr,H2.put l (.loop .exhausted (some (.exit id)) s.fr ps as bd),s.rd⟩)],by unfold jC;simp only [g1],.single g2⟩)
 refine ⟨m',M,?_,z2⟩;rw [lu];unfold mU;have hgo':dD (aQ s.fr f) [Value.func (Fn.yield s.hp.n) #[] #[]]=some (.fn gf as'):=hgo;simp only [hgo'];have:RX T tab m' (.call gf as' (s.hp.push (.loop .ready none s.fr ps as bd)))=some L:=gH hm _ _ c1;rw [this];exact z1
theorem af.closed {f:FuncId} {v:Value} (h:∀ H,look tab f [] H=some (v,H)) (hv:bh v=true):af T tab one (.fn f [] []) [] (.fl v):=by
 refine ⟨rfl,fun X H u us hwf hX hF ha=>?_⟩
 cases hF with
 | fn l1 l2 d1 d2 =>
  rename_i a' b';have h1:a'.toList=[]:=List.length_eq_zero_iff.1 l1.symm;have h2:b'.toList=[]:=List.length_eq_zero_iff.1 l2.symm;have h3:us=[]:=List.length_eq_zero_iff.1 ha.1.symm;refine ⟨.fn f [],by simp [dD,h1,h2,h3],0,[.ret v H],?_,fun _=>⟨_,rfl⟩,fun r hr=>?_⟩
  ·show rx tab (u9 tab T 0) (.call f [] H)=_;unfold rx;simp only [h H]
  ·obtain rfl:=List.mem_singleton.1 hr;exact ⟨v,H,rfl,qq6 _,hwf,fun _ _=>rfl,Nat.min_le_left _ _,.fl hv⟩
end
theorem MV {P:Program} {t:TypeId} {x y:Operand} {m n:Int} (h0:0≤m) (h2:1≤n):eA P .rem t x y (.int .i64 m) (.int .i64 n)=some (.int .i64 (m % n),.none):=by
 have hn:n ≠ 0:=by omega
 have h:eA P .rem t x y (.int .i64 m) (.int .i64 n)=some (.int .i64 (m.tmod n),.none):=by
  show fS P .rem t x y (.int .i64 m) (.int .i64 n)=_;unfold fS;simp only [flat,bh,Bool.and_self,cond_true];have:(do eqGuard BinOp.rem t x y (Value.int IntKind.i64 m) (Value.int IntKind.i64 n);binOp BinOp.rem t (Value.int IntKind.i64 m) (Value.int IntKind.i64 n):Sem Value)=pure (.int .i64 (m.tmod n)):=by show Op.intDiv .rem .i64 m n=_;unfold Op.intDiv;rw [if_neg hn]
  rw [this];rfl
 rw [h,IntWalk.rem_in m n h0]
theorem MW {P:Program} {t:TypeId} {x y:Operand} {m n:Int} (h0:0≤m) (h1:m≤9223372036854775807) (h2:1≤n):eA P .quo t x y (.int .i64 m) (.int .i64 n)=some (.int .i64 (m / n),.none):=by
 have hn:n ≠ 0:=by omega
 have h:eA P .quo t x y (.int .i64 m) (.int .i64 n)=some (.int .i64 (IntKind.i64.wrap (m.tdiv n)),.none):=by
  show fS P .quo t x y (.int .i64 m) (.int .i64 n)=_;unfold fS;simp only [flat,bh,Bool.and_self,cond_true];have:(do eqGuard BinOp.quo t x y (Value.int IntKind.i64 m) (Value.int IntKind.i64 n);binOp BinOp.quo t (Value.int IntKind.i64 m) (Value.int IntKind.i64 n):Sem Value)=pure (.int .i64 (IntKind.i64.wrap (m.tdiv n))):=by show Op.intDiv .quo .i64 m n=_;unfold Op.intDiv;rw [if_neg hn]
  rw [this];rfl
 rw [h,IntWalk.i64_quo m n ⟨h0,h1,h2⟩]
section
variable {T : bL} {tab : List XE} {one : Bool} {mu : Tmp → Bool}
theorem uK {ops:List Oper} {j:Nat} {want:Bool} {fr:Nat→AV} {yes no:Prop} {d:Tmp} {a0 a1 a2 a3 a4} {b:Bool} (h1:ops[j]?=some ⟨some d,a0,a1,a2,a3,a4⟩) (h2:fr d=.fl (.bool b)) (h3:b=want) (y:yes):cG ops (some (j,want)) fr yes no:=by unfold cG;simp only [h1,h2];exact bD h3 y
theorem wX {ops:List Oper} {j:Nat} {want:Bool} {fr:Nat→AV} {yes no:Prop} {d:Tmp} {a0 a1 a2 a3 a4} {b:Bool} (h1:ops[j]?=some ⟨some d,a0,a1,a2,a3,a4⟩) (h2:fr d=.fl (.bool b)) (h3:b=!want) (n:no):cG ops (some (j,want)) fr yes no:=by unfold cG;simp only [h1,h2];exact bV h3 n
theorem qp {ops:List Oper} {j:Nat} {want:Bool} {fr:Nat→AV} {yes no:Prop} {d:Tmp} {a0 a1 a2 a3 a4} {b:Bool} (h1:ops[j]?=some ⟨some d,a0,a1,a2,a3,a4⟩) (h2:fr d=.fl (.bool b)) (y:b=want→yes) (n:b=(!want)→no):cG ops (some (j,want)) fr yes no:=by unfold cG;simp only [h1,h2];exact ⟨y,n⟩
theorem A1 {ops:List Oper} {j:Nat} {want:Bool} {fr:Nat→AV} {yes no:Prop} {d:Tmp} {a0 a1 a2 a3 a4} {vs:List AV} (h1:ops[j]?=some ⟨some d,a0,a1,a2,a3,a4⟩) (h2:fr d=.tp vs) (n:no):cG ops (some (j,want)) fr yes no:=by unfold cG;simp only [h1,h2];exact n
end
end Go.RM
