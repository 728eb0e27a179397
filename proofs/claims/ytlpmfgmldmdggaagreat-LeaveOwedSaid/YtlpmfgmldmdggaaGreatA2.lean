/-
  A layer of contracts over the abstract machine. Lemmas alone; no condition.
-/
import Derived.Test.YtlpmfgmldmdggaaGreatA1
import Derived.OpenShut
import Derived.ChangeArms
import Derived.DataReads
namespace Go.RM
open Go
structure aR where
 fr:Nat→AV
 hp:List AB
 av:bw
 rd:Bool
 fl:Nat
structure iK (fl base:Nat) (E:Env) (hp:List AB) (H:Hp) (E':Env) (hp':List AB) (H':Hp):Prop where
 n:H.n≤H'.n
 Bw:∀ j v k,j < fl→E.ρ j v=some k→E'.ρ j v=some k
 own:∀ k,Own E'.ρ hp' k→Own E.ρ hp k∨H.n≤k
 d:∀ k,E'.D k→E.D k∨H.n≤k
 x:∀ k,E'.X k→E.X k∨H.n≤k
 xk:∀ k,E.X k→E'.X k
 s:∀ k,E'.S k→E.S k∨H.n≤k
 same:∀ k,k < H.n→¬ Own E.ρ hp k→¬ E.D k→H'.get k=H.get k
 lo:min H.lo base≤H'.lo
section
variable {T : bh} {tab : List XE} {one : Bool} {fl base : Nat} {E E' E2 : Env} {hp hp' hp2 : List AB} {av amb' : bw} {H H' H2 : Hp} {ρ : Nat → Nat → Option Nat} {g : az} {O : Nat → Prop}
theorem iK.refl:iK fl base E hp H E hp H:=⟨Nat.le_refl _,fun _ _ _ _ h=>h,fun _ h=>.inl h,fun _ h=>.inl h,fun _ h=>.inl h,fun _ h=>h,fun _ h=>.inl h,fun _ _ _ _=>rfl,Nat.min_le_left _ _⟩
theorem iK.trans (a:iK fl base E hp H E' hp' H') (b:iK fl base E' hp' H' E2 hp2 H2):iK fl base E hp H E2 hp2 H2:=by
 have step:∀ {P P' P2:Nat→Prop},(∀ k,P' k→P k∨H.n≤k)→(∀ k,P2 k→P' k∨H'.n≤k)→∀ k,P2 k→P k∨H.n≤k:=by
  intro P P' P2 h1 h2 k hk
  rcases h2 k hk with h|h
  ·exact h1 k h
  ·exact .inr (Nat.le_trans a.n h)
 refine ⟨Nat.le_trans a.n b.n,fun j v k hl h=>b.Bw j v k hl (a.Bw j v k hl h),step a.own b.own,step a.d b.d,step a.x b.x,fun k h=>b.xk k (a.xk k h),step a.s b.s,fun k hk ho hd=>?_,?_⟩
 ·rw [b.same k (Nat.lt_of_lt_of_le hk a.n) (fun h=>(a.own k h).elim ho (fun h=>by omega)) (fun h=>(a.d k h).elim hd (fun h=>by omega)),a.same k hk ho hd]
 ·have:=a.lo;have:=b.lo;omega
theorem Ext.DN (e:Ext base E hp H E' hp' H'):iK fl base E hp H E' hp' H' :=
 ⟨e.n,fun j v k _ h=>e.Bw j v k h,e.own,fun k h=>.inl (by rw [←e.d];exact h),fun k h=>.inl (by rw [←e.x];exact h),fun k h=>by rw [e.x];exact h,fun k h=>.inl (by rw [←e.s];exact h),fun k hk ho _=>e.same k hk ho,e.lo⟩
theorem iK.keep (e:iK fl base E hp H E' hp' H') (h:aK E base hp av H):∀ k b,H.get k=some b→¬ E.O hp k→H'.get k=some b∧¬ E'.O hp' k:=by
 intro k b hk ho
 have hlt:=h.wf.lt hk
 refine ⟨by rw [e.same k hlt (fun h=>ho (.inl h)) (fun hd=>ho (.inr (h.dx k hd)))];exact hk,fun h'=>?_⟩
 rcases h' with h'|h'
 ·rcases e.own k h' with h'|h'
  ·exact ho (.inl h')
  ·omega
 ·rcases e.x k h' with h'|h'
  ·exact ho (.inr h')
  ·omega
theorem iK.full (e:iK hp.length base E hp H E' hp' H') (h:aK E base hp av H):∀ j v k,E.ρ j v=some k→E'.ρ j v=some k:=fun j v k hk=>by
 by_cases hj:j < hp.length
 ·exact e.Bw j v k hj hk
 ·rw [h.new j v (by omega)] at hk;cases hk
theorem iK.low (e:iK hp.length base E hp H E' hp' H') (h:aK E base hp av H) (fl:Nat):iK fl base E hp H E' hp' H':=⟨e.n,fun j v k _ hk=>e.full h j v k hk,e.own,e.d,e.x,e.xk,e.s,e.same,e.lo⟩
theorem iK.ar (e:iK hp.length base E hp H E' hp' H') (h:aK E base hp av H) {v:AV} {u:Value} (ha:AR E.ρ H.get (E.O hp) v u):AR E'.ρ H'.get (E'.O hp') v u:=ha.mono (e.full h) (e.keep h)
theorem iK.dr (e:iK fl base E hp H E' hp' H') (h:aK E base hp av H) {v:AV} {u:Value} (ha:DR H.get (E.O hp) v u):DR H'.get (E'.O hp') v u:=ha.mono (e.keep h)
theorem iK.fr (e:iK hp.length base E hp H E' hp' H') (h:aK E base hp av H) {fr:Nat→AV} {tm:Tr Value} (hf:nq E.ρ H.get (E.O hp) fr tm):nq E'.ρ H'.get (E'.O hp') fr tm:=fun t=>e.ar h (hf t)
def tf (fr:Nat→AV) (d:Option Tmp) (v:AV):Nat→AV :=
 match d with
 | some d=>fun t=>bif Nat.beq t d then v else fr t
 | none=>fr
theorem jr {fr:Nat→AV} {tm:Tr Value} (h:nq ρ g O fr tm) {v:AV} {u:Value} (hv:AR ρ g O v u) (d:Option Tmp):nq ρ g O (tf fr d v) (cP tm d u):=by
 cases d with
 | none=>exact h
 | some d =>
  intro t
  show AR ρ g O (bif Nat.beq t d then v else fr t) (((tm.set d u).get t).getD undef)
  rw [Tr.gn,Tr.beq_eq]
  by_cases htd:t=d
  ·rw [if_pos htd,decide_eq_true htd];exact hv
  ·rw [if_neg htd,decide_eq_false htd];exact h t
structure jD (E:Env) (base:Nat) (st:aR) (s:St):Prop where
 h:aK E base st.hp st.av s.hp
 rd:s.rd=st.rd
 fr:nq E.ρ s.hp.get (E.O st.hp) st.fr s.fr
def ai (T:bh) (tab:List XE) (one:Bool) (F:AV) (args:List AV) (hp:List AB) (av:bw) (Q:AV→List AB→bw→Prop):Prop :=
 ∀ (E:Env) (base:Nat) (H:Hp) (u:Value) (us:List Value),aK E base hp av H→AR E.ρ H.get (E.O hp) F u→fh E.ρ H.get (E.O hp) args us→∃ goal,bQ u us=some goal ∧
  ∃ m L,RX T tab m (jT H goal)=some L∧(one=true→∃ r,L=[r])∧∀ r ∈ L,∃ w H',r=.ret w H' ∧
   ∃ E' a hp' amb',Q a hp' amb'∧aK E' base hp' amb' H'∧AR E'.ρ H'.get (E'.O hp') a w∧iK hp.length base E hp H E' hp' H'
def af (T:bh) (tab:List XE) (one:Bool) (F:AV) (args:List AV) (v:AV):Prop :=
 v.deep=true∧∀ (X:Nat→Prop) (H:Hp) (u:Value) (us:List Value),Wf H→(∀ k,X k→k < H.n)→DR H.get X F u→rY H.get X args us→∃ goal,bQ u us=some goal ∧
  ∃ m L,RX T tab m (jT H goal)=some L∧(one=true→∃ r,L=[r])∧∀ r ∈ L,∃ w H',r=.ret w H' ∧
   H.n≤H'.n∧Wf H'∧(∀ k,k < H.n→H'.get k=H.get k)∧min H.lo H.n≤H'.lo∧DR H'.get X v w
theorem af.call {F:AV} {args:List AV} {v:AV} (h:af T tab one F args v) (hF:F.deep=true) (hargs:de args=true) {Q:AV→List AB→bw→Prop} (hq:Q v hp av):ai T tab one F args hp av Q:=by
 intro E base H u us hr hf ha
 obtain ⟨hd,h⟩:=h
 obtain ⟨goal,hg,m,L,h1,h2,h3⟩:=h (E.O hp) H u us hr.wf (fun k hk=>hk.elim (fun h=>hr.mC h) (hr.xn k)) (hf.deep hF) (ha.deep hargs)
 refine ⟨goal,hg,m,L,h1,h2,fun r hm=>?_⟩
 obtain ⟨w,H',rfl,hn,hwf,hsame,hlo,hv⟩:=h3 r hm
 have e:Ext base E hp H E hp H':=⟨hn,rfl,rfl,rfl,fun _ _ _ h=>h,fun _ h=>.inl h,fun k hk _=>hsame k hk,by have:=hr.bn;omega⟩
 refine ⟨w,H',rfl,E,v,hp,av,hq,⟨hwf,fun j x ax hj hvx=>?_,hr.inj,fun j v k hk=>Nat.lt_of_lt_of_le (hr.rn j v k hk) hn,hr.fresh,hr.new,hr.sup,hr.iL,hr.dx,hr.ds,fun k hk=>Nat.lt_of_lt_of_le (hr.sn k hk) hn,fun k hk=>Nat.lt_of_lt_of_le (hr.xn k hk) hn,hr.qp,Nat.le_trans hr.bn hn,av.st hr.av (fun k hk=>hsame k (hr.sn k hk)) hn⟩,.d hv,e.DN⟩
 rcases hr.gC j x ax hj hvx with ⟨k,b',q1,q2,q3⟩|q
 ·exact .inl ⟨k,b',q1,by rw [hsame k (hr.wf.lt q2)];exact q2,e.br hr.wf q3⟩
 ·exact .inr q
theorem af.weak {F:AV} {args:List AV} {v:AV} (h:af T tab one F args v):af T tab false F args v :=
 ⟨h.1,fun X H u us h1 h2 h3 h4=>by
  obtain ⟨goal,hg,m,L,q1,q2,q3⟩:=h.2 X H u us h1 h2 h3 h4
  exact ⟨goal,hg,m,L,q1,fun h=>Bool.noConfusion h,q3⟩⟩
theorem ai.mono {F:AV} {args:List AV} {Q Q':AV→List AB→bw→Prop} (h:ai T tab one F args hp av Q) (hq:∀ a hp av,Q a hp av→Q' a hp av):ai T tab one F args hp av Q':=by
 intro E base H u us hr hf ha
 obtain ⟨goal,hg,m,L,h1,h2,h3⟩:=h E base H u us hr hf ha
 refine ⟨goal,hg,m,L,h1,h2,fun r hm=>?_⟩
 obtain ⟨w,H',rfl,E',a,hp',amb',q1,q2⟩:=h3 r hm
 exact ⟨w,H',rfl,E',a,hp',amb',hq _ _ _ q1,q2⟩
theorem wH:AR ρ g O (.tp []) undef:=.d (.tp rfl (fun i a u hx=>by cases hx))
def cY (ops:List Oper) (gd:Option (Nat × Bool)) (fr:Nat→AV) (yes no:Prop):Prop :=
 match gd with
 | none=>yes
 | some (j,want)=>match ops[j]? with
  | some ⟨some d,_,_,_,_,_⟩=>match fr d with
   | .fl (.bool b)=>(b=want→yes)∧(b=(!want)→no)
   | .tp _=>no
   | _=>False
  | _=>False
def gv (d:Option Tmp) (fr:Nat→AV) (v:AV) (K:(Nat→AV)→Prop):Prop :=
 match d with
 | some d=>K fun t=>bif Nat.beq t d then v else fr t
 | none=>K fr
theorem gJ {d:Option Tmp} {fr:Nat→AV} {v:AV} {K:(Nat→AV)→Prop} (h:gv d fr v K):K (tf fr d v):=by cases d <;> exact h
def EO (mu:Tmp→Bool):Option Tmp→Bool
 | some d=>mu d
 | none=>false
def yO (P:Program) (v:AV) (name:String):AV :=
 match v with
 | .fl (.iface t x)=>match au P (method (P.types.size+Made.depth) t x name) with
  | some (f,v)=>bif flat v then .fn f [rZ v] [] else .bL
  | none=>.bL
 | _=>.bL
def K4 (P:Program) (fr:Nat→AV):Kh→AV
 | .op f=>aS fr f
 | .En r name=>yO P (aS fr r) name
theorem Gb {ρ:Nat→Nat→Option Nat} {g:az} {O:Nat→Prop} {P:Program} {v:AV} {u:Value} (hr:AR ρ g O v u) (name:String):AR ρ g O (yO P v name) (vm P u name):=by
 unfold yO
 split
 ·rename_i t x
  obtain ⟨e1,_⟩:=hr.eR
  rw [e1]
  unfold vm
  simp only
  cases hp:au P (method (P.types.size+Made.depth) t x name) with
  | none=>exact .bL
  | some p =>
   obtain ⟨f,v⟩:=p
   simp only
   cases hv:flat v with
   | true =>
    simp only [cond_true]
    refine .fn (a:=[rZ v]) (b:=[]) (a':=#[v]) (b':=#[]) rfl rfl (fun i x u hx hu=>?_) (fun i x u hx=>by cases hx)
    cases i with
    | zero =>
     cases hx
     cases hu
     exact lI hv
    | succ i=>cases hx
   | false=>exact .bL
 ·exact .bL
theorem Gc {ρ:Nat→Nat→Option Nat} {g:az} {O:Nat→Prop} {P:Program} {fr:Nat→AV} {tm:Tr Value} (h:nq ρ g O fr tm) (f:Kh):AR ρ g O (K4 P fr f) (me P tm f):=by
 cases f with
 | op f=>exact gR h f
 | En r name=>exact Gb (gR h r) name
def so (T:bh) (tab:List XE) (one:Bool) (mu:Tmp→Bool) (dst:Option Tmp) (op:Op) (fr:Nat→AV) (hp:List AB) (av:bw) (rd:Bool) (fl:Nat) (K:aR→Prop):Prop :=
 match cv op with
 | .call f args=>force (K4 T.P fr f) fun F=>eT (args.map (aS fr)) fun as=>ai T tab one F as hp av fun v hp' amb'=>gv dst fr v fun fr'=>K ⟨fr',hp',amb',rd,fl⟩
 | .next it=>one=false∧force (aS fr it) fun x=>z9 x hp fun v hp'=>gv dst fr v fun fr'=>K ⟨fr',hp',av,rd,fl⟩
 | .plain=>wpOp T (EO mu dst) op fr hp fun v hp'=>force v fun v=>gv dst fr v fun fr'=>K ⟨fr',hp',av,rd,fl⟩
def wpOps (T:bh) (tab:List XE) (one:Bool) (mu:Tmp→Bool) (ops:List Oper):List Oper→aR→(aR→Prop)→Prop
 | [],st,K=>K st
 | ⟨dst,op,_,_,_,gd⟩ :: l,⟨fr,hp,av,rd,fl⟩,K=>cY ops gd fr (so T tab one mu dst op fr hp av rd fl fun st'=>wpOps T tab one mu ops l st' K) (gv dst fr (.tp []) fun fr'=>wpOps T tab one mu ops l ⟨fr',hp,av,rd,fl⟩ K)
def k9 {β:Type} (one:Bool) (L:List β) (P:β→Prop):Prop:=(one=true→∃ p,L=[p])∧∀ p ∈ L,P p
theorem k9.single {β:Type} {p:β} {P:β→Prop} (h:P p):k9 one [p] P:=⟨fun _=>⟨p,rfl⟩,fun q hq=>by obtain rfl:=List.mem_singleton.1 hq;exact h⟩
theorem cB {α β:Type} {f:Nat→α→Option (List β)} {P:β→Prop} (mono:∀ n m x M,n≤m→f n x=some M→f m x=some M):∀ {L:List α} (n0:Nat),(one=true→∃ x,L=[x])→(∀ x ∈ L,∃ m M,f m x=some M∧k9 one M P) →
  ∃ m M,n0≤m∧aN L (f m)=some M∧k9 one M P
 | [],n0,h1,_=>⟨n0,[],Nat.le_refl _,rfl,⟨fun h=>absurd (h1 h) (fun ⟨x,hx⟩=>by cases hx),fun p hp=>by cases hp⟩⟩
 | [x],n0,_,h=>by
  obtain ⟨m,M,h1,h2⟩:=h x (by simp)
  exact ⟨max n0 m,M,Nat.le_max_left _ _,by rw [cT];exact mono m _ x M (Nat.le_max_right _ _) h1,h2⟩
 | x :: y :: l,n0,h1,h=>by
  have hone:one=false:=by
   cases hb:one with
   | false=>rfl
   | true=>obtain ⟨z,hz⟩:=h1 hb;cases hz
  have hno:one=true→False:=fun h=>by rw [hone] at h;cases h
  obtain ⟨m,M,a1,a2⟩:=h x (by simp)
  obtain ⟨m',M',b0,b1,b2⟩:=cB mono (L:=y :: l) (max n0 m) (fun h=>(hno h).elim) (fun z hz=>h z (List.mem_cons_of_mem _ hz))
  have hle:=Nat.max_le.1 b0
  refine ⟨m',M++M',hle.1,?_,⟨fun h=>(hno h).elim,fun p hp=>?_⟩⟩
  ·rw [eC,mono m m' x M hle.2 a1]
   simp only [b1,Option.map_some]
  ·rcases List.mem_append.1 hp with hp|hp
   ·exact a2.2 p hp
   ·exact b2.2 p hp
def qI (E:Env) (base:Nat) (st:aR) (s:St) (K:aR→Prop) (s':St):Prop:=∃ E' st',K st'∧st'.fl=st.fl∧jD E' base st' s'∧iK st.fl base E st.hp s.hp E' st'.hp s'.hp
theorem fW {b want:Bool} {yes no:Prop} (h:b=want) (y:yes):(b=want→yes)∧(b=(!want)→no):=by subst h;exact ⟨fun _=>y,fun h'=>by cases b <;> cases h'⟩
theorem gK {b want:Bool} {yes no:Prop} (h:b=(!want)) (n:no):(b=want→yes)∧(b=(!want)→no):=by subst h;exact ⟨fun h'=>(by cases want <;> cases h'),fun _=>n⟩
theorem HP {t:Bool} {a b:Prop} (h:t=true) (y:a):(t=true→a)∧(t=false→b):=by subst h;exact ⟨fun _=>y,fun h'=>by cases h'⟩
theorem Jx {t:Bool} {a b:Prop} (h:t=false) (y:b):(t=true→a)∧(t=false→b):=by subst h;exact ⟨fun h'=>(by cases h'),fun _=>y⟩
theorem wI {ops:List Oper} {gd:Option (Nat × Bool)} {fr:Nat→AV} {tm:Tr Value} (hf:nq ρ g O fr tm) {yes no:Prop} (h:cY ops gd fr yes no):(aQ ops tm gd=true∧yes)∨(aQ ops tm gd=false∧no):=by
 unfold cY at h
 unfold aQ
 split at h
 ·exact .inl ⟨rfl,h⟩
 ·rename_i j want
  split at h
  ·rename_i d o1 o2 o3 o4 o5 ho
   simp only [ho]
   split at h
   ·rename_i b hb
    have:=hf d
    rw [hb] at this
    have hv:=this.eR.1
    cases hd:tm.get d with
    | none=>rw [hd] at hv;cases hv
    | some v =>
     rw [hd] at hv
     simp only [Option.getD_some] at hv
     subst hv
     simp only
     cases b <;> cases want <;> first|exact .inl ⟨rfl,h.1 rfl⟩|exact .inr ⟨rfl,h.2 rfl⟩
   ·rename_i vs hb
    have:=hf d
    rw [hb] at this
    obtain ⟨us,hv,_⟩:=this.wA
    cases hd:tm.get d with
    | none=>exact .inr ⟨rfl,h⟩
    | some v =>
     rw [hd] at hv
     simp only [Option.getD_some] at hv
     subst hv
     exact .inr ⟨rfl,h⟩
   ·exact h.elim
  ·exact h.elim
theorem fX {mu:Tmp→Bool} {ops:List Oper}:∀ {l:List Oper} {st:aR} {K:aR→Prop},wpOps T tab one mu ops l st K→∀ {E:Env} {base:Nat} {s:St},jD E base st s →
  ∃ m L,aH T (RX T tab m) ops l s=some L∧k9 one L (qI E base st s K)
 | [],st,K,h,E,base,s,hs=>⟨0,[s],rfl,.single ⟨E,st,h,rfl,hs,.refl⟩⟩
 | o :: l,st,K,h,E,base,s,hs=>by
  have h:cY ops o.guard st.fr (so T tab one mu o.dst o.op st.fr st.hp st.av st.rd st.fl fun st'=>wpOps T tab one mu ops l st' K) (gv o.dst st.fr (.tp []) fun fr'=>wpOps T tab one mu ops l ⟨fr',st.hp,st.av,st.rd,st.fl⟩ K):=h
  rcases wI hs.fr h with ⟨hg,h⟩|⟨hg,h⟩
  ·
   have rest:∀ {E':Env} {st':aR} {s':St},st'.fl=st.fl→iK st.fl base E st.hp s.hp E' st'.hp s'.hp→jD E' base st' s'→wpOps T tab one mu ops l st' K→∃ m L,aH T (RX T tab m) ops l s'=some L∧k9 one L (qI E base st s K):=by
    intro E' st' s' hfl hfm hs' hw
    obtain ⟨m,L,h1,h2,h3⟩:=fX hw hs'
    refine ⟨m,L,h1,h2,fun p hp=>?_⟩
    obtain ⟨E2,st2,k1,k0,k2,k3⟩:=h3 p hp
    rw [hfl] at k3
    exact ⟨E2,st2,k1,k0.trans hfl,k2,hfm.trans k3⟩
   have fin:∀ (m0:Nat) (L0:List (Value × Hp)),(∀ m,m0≤m→ee T (RX T tab m) o.op s=some L0)→(one=true→∃ x,L0=[x])→(∀ p ∈ L0,∃ m L,aH T (RX T tab m) ops l ⟨cP s.fr o.dst p.1,p.2,s.rd⟩=some L∧k9 one L (qI E base st s K)) →
     ∃ m L,aH T (RX T tab m) ops (o :: l) s=some L∧k9 one L (qI E base st s K):=by
    intro m0 L0 h0 h1 h2
    obtain ⟨m,M,hm,q1,q2⟩:=cB (one:=one) (f:=fun m (p:Value × Hp)=>aH T (RX T tab m) ops l ⟨cP s.fr o.dst p.1,p.2,s.rd⟩) (P:=qI E base st s K) (fun n m x M hnm hx=>fU (dR hnm) ops l _ M hx) m0 h1 h2
    refine ⟨m,M,?_,q2⟩
    rw [bK,hg]
    simp only [cond_true,h0 m hm]
    exact q1
   unfold so at h
   split at h
   ·rename_i f args hk
    have h:=ic (dH h)
    obtain ⟨goal,hgo,m0,L0,q1,q2,q3⟩:=h E base s.hp _ _ hs.h (Gc hs.fr f) (iF hs.fr args)
    have hval:∃ V,aN L0 valOf=some V∧(one=true→∃ x,V=[x])∧∀ p ∈ V,∃ r ∈ L0,r=.ret p.1 p.2:=by
     have:∀ (L:List eV),(∀ r ∈ L,∃ w H',r=eV.ret w H')→∃ V,aN L valOf=some V∧V.length=L.length∧∀ p ∈ V,∃ r ∈ L,r=.ret p.1 p.2:=by
      intro L
      induction L with
      | nil=>intro _;exact ⟨[],rfl,rfl,fun p hp=>by cases hp⟩
      | cons r L ih =>
       intro hr
       obtain ⟨w,H',hrr⟩:=hr r (by simp)
       obtain ⟨V,v1,v2,v3⟩:=ih (fun r' h'=>hr r' (List.mem_cons_of_mem _ h'))
       cases L with
       | nil =>
        refine ⟨[(w,H')],by rw [cT,hrr];rfl,rfl,fun p hp=>?_⟩
        obtain rfl:=List.mem_singleton.1 hp
        exact ⟨r,by simp,hrr⟩
       | cons r2 L2 =>
        refine ⟨(w,H') :: V,?_,by simp [v2],fun p hp=>?_⟩
        ·rw [eC,hrr]
         simp only [valOf,v1,Option.map_some]
         rfl
        ·rcases List.mem_cons.1 hp with rfl|hp
         ·exact ⟨r,by simp,hrr⟩
         ·obtain ⟨r',m1,m2⟩:=v3 p hp
          exact ⟨r',List.mem_cons_of_mem _ m1,m2⟩
     obtain ⟨V,v1,v2,v3⟩:=this L0 (fun r hr=>by obtain ⟨w,H',e,_⟩:=q3 r hr;exact ⟨w,H',e⟩)
     refine ⟨V,v1,fun h1=>?_,v3⟩
     obtain ⟨r,hr⟩:=q2 h1
     subst hr
     match V,v2 with
     | [x],_=>exact ⟨x,rfl⟩
    obtain ⟨V,v1,v2,v3⟩:=hval
    refine fin m0 V (fun m hm=>?_) v2 (fun p hp=>?_)
    ·unfold ee
     simp only [hk,hgo,dR hm _ _ q1]
     exact v1
    ·obtain ⟨r,hr,hrr⟩:=v3 p hp
     obtain ⟨w,H',e1,E',a,hp',amb',k1,k2,k3,k4⟩:=q3 r hr
     rw [hrr] at e1
     cases e1
     exact rest (st':=⟨tf st.fr o.dst a,hp',amb',st.rd,st.fl⟩) rfl (k4.low hs.h _) ⟨k2,hs.rd,jr (k4.fr hs.h hs.fr) k3 o.dst⟩ (gJ k1)
   ·rename_i it hk
    obtain ⟨hone,h⟩:=h
    obtain ⟨L,q1,q2⟩:=x9 hs.h (gR hs.fr it) (dH h)
    refine fin 0 (L.map fun (v,e)=>(v,s.hp.app e)) (fun m _=>?_) (fun h1=>by rw [hone] at h1;cases h1) (fun p hp=>?_)
    ·unfold ee
     simp only [hk,q1,Option.map_some]
    ·obtain ⟨x,hx,rfl⟩:=List.mem_map.1 hp
     obtain ⟨E',a,hp',k1,k2,k3,k4⟩:=q2 x hx
     exact rest (st':=⟨tf st.fr o.dst a,hp',st.av,st.rd,st.fl⟩) rfl k3.DN ⟨k2,hs.rd,jr (k3.DN.fr hs.h hs.fr) k4 o.dst⟩ (gJ k1)
   ·rename_i hk
    obtain ⟨u,e,E',a,hp',r1,r2,r3,r4,r5⟩:=qH hs.h hs.fr h
    refine fin 0 [(u,s.hp.app e)] (fun m _=>?_) (fun _=>⟨_,rfl⟩) (fun p hp=>?_)
    ·unfold ee
     simp only [hk,r1]
    ·obtain rfl:=List.mem_singleton.1 hp
     exact rest (st':=⟨tf st.fr o.dst a,hp',st.av,st.rd,st.fl⟩) rfl r4.DN ⟨r3,hs.rd,jr (r4.DN.fr hs.h hs.fr) r5 o.dst⟩ (gJ (dH r2))
  ·obtain ⟨m,L,h1,h2⟩:=fX (gJ h) (E:=E) (base:=base) (s:=⟨cP s.fr o.dst undef,s.hp,s.rd⟩) ⟨hs.h,hs.rd,jr hs.fr wH o.dst⟩
   refine ⟨m,L,?_,h2⟩
   rw [bK,hg]
   exact h1
def aC (T:bh) (tab:List XE) (one:Bool) (c:Code) (st:aR) (K:Exit→aR→Prop):Prop :=
 ∀ (E:Env) (base:Nat) (s:St),jD E base st s→∃ m L,aZ T (RX T tab m) c s=some L∧k9 one L fun p=>qI E base st s (K p.1) p.2
theorem aC.mono {c:Code} {st:aR} {K K':Exit→aR→Prop} (h:aC T tab one c st K) (hk:∀ e s,K e s→K' e s):aC T tab one c st K':=by
 intro E base s hs
 obtain ⟨m,L,h1,h2,h3⟩:=h E base s hs
 refine ⟨m,L,h1,h2,fun p hp=>?_⟩
 obtain ⟨E',st',k1,k2⟩:=h3 p hp
 exact ⟨E',st',hk _ _ k1,k2⟩
def EP (st st':aR):Prop:=st'.hp=st.hp∧(st'.av=st.av∧st'.rd=st.rd)∧st'.fl=st.fl∧∀ t,st'.fr t=st.fr t∨st'.fr t=.bL
theorem EP.rel {st st':aR} (h:EP st st') {s:St} (hs:jD E base st s):jD E base st' s:=by
 obtain ⟨h1,⟨h2,h3⟩,h0,h4⟩:=h
 refine ⟨by rw [h1,h2];exact hs.h,by rw [h3];exact hs.rd,fun t=>?_⟩
 rw [h1]
 rcases h4 t with h|h
 ·rw [h];exact hs.fr t
 ·rw [h];exact .bL
theorem aC.weak {c:Code} {st st':aR} {K:Exit→aR→Prop} (hw:EP st st') (h:aC T tab one c st' K):aC T tab one c st K:=by
 intro E base s hs
 obtain ⟨m,L,h1,h2,h3⟩:=h E base s (hw.rel hs)
 refine ⟨m,L,h1,h2,fun p hp=>?_⟩
 obtain ⟨E',st2,k1,k0,k2,k3⟩:=h3 p hp
 rw [hw.2.2.1,hw.1] at k3
 exact ⟨E',st2,k1,k0.trans hw.2.2.1,k2,k3⟩
def yc (Kb:aR→Prop) (K:Exit→aR→Prop) (e:Exit) (s:aR):Prop :=
 match e with
 | .normal=>Kb s
 | e=>K e s
theorem aC.seq {a b:Code} {st:aR} {K:Exit→aR→Prop} (h:aC T tab one a st (yc (fun s=>aC T tab one b s K) K)):aC T tab one (.seq a b) st K:=by
 intro E base s hs
 obtain ⟨m0,L0,h1,h2,h3⟩:=h E base s hs
 obtain ⟨m,M,hm,q1,q2⟩:=cB (one:=one) (L:=L0) (f:=fun m (p:Exit × St)=>uE (aZ T (RX T tab m) b) p) (P:=fun p=>qI E base st s (K p.1) p.2) (fun n m x M hnm hx=>by
   unfold uE at hx ⊢
   split at hx
   ·exact dX (dR hnm) _ _ _ hx
   ·exact hx) m0 h2 (fun p hp=>by
  obtain ⟨E',st',k1,k0,k2,k3⟩:=h3 p hp
  obtain ⟨e,s'⟩:=p
  have other:(∀ st',yc (fun s=>aC T tab one b s K) K e st'=K e st')→(uE (aZ T (RX T tab 0) b) (e,s')=some [(e,s')])→∃ m M,uE (aZ T (RX T tab m) b) (e,s')=some M∧k9 one M fun p=>qI E base st s (K p.1) p.2:=by
   intro h1 h2
   refine ⟨0,[(e,s')],h2,.single ⟨E',st',?_,k0,k2,k3⟩⟩
   rw [←h1];exact k1
  cases e with
  | normal =>
   obtain ⟨m,M,r1,r2,r3⟩:=k1 E' base s' k2
   refine ⟨m,M,r1,r2,fun q hq=>?_⟩
   obtain ⟨E2,st2,j1,j0,j2,j3⟩:=r3 q hq
   rw [k0] at j3
   exact ⟨E2,st2,j1,j0.trans k0,j2,k3.trans j3⟩
  | _=>exact other (fun _=>rfl) rfl)
 refine ⟨m,M,?_,q2⟩
 rw [kB,dX (dR hm) _ _ _ h1]
 exact q1
theorem aC.cond {c:Operand} {a b:Code} {st:aR} {K:Exit→aR→Prop} {t:Bool} (hc:aS st.fr c=.fl (.bool t)) (h1:t=true→aC T tab one a st K) (h2:t=false→aC T tab one b st K):aC T tab one (.cond c a b) st K:=by
 intro E base s hs
 have:=gR hs.fr c
 rw [hc] at this
 have hv:=this.eR.1
 cases t with
 | true =>
  obtain ⟨m,L,q1,q2⟩:=h1 rfl E base s hs
  exact ⟨m,L,by rw [iX,hv];exact q1,q2⟩
 | false =>
  obtain ⟨m,L,q1,q2⟩:=h2 rfl E base s hs
  exact ⟨m,L,by rw [iX,hv];exact q1,q2⟩
def kX (id:Nat) (K:Exit→aR→Prop) (e:Exit) (s:aR):Prop :=
 match e with
 | .exit id'=>bif Nat.beq id' id then K .normal s else K (.exit id') s
 | e=>K e s
theorem aC.block {id:Nat} {c:Code} {st:aR} {K:Exit→aR→Prop} (h:aC T tab one c st (kX id K)):aC T tab one (.block id c) st K:=by
 intro E base s hs
 obtain ⟨m,L,q1,q2,q3⟩:=h E base s hs
 refine ⟨m,L.map (gk id),by rw [jz,q1],fun h1=>?_,fun p hp=>?_⟩
 ·obtain ⟨p,hp⟩:=q2 h1
  exact ⟨_,by rw [hp];rfl⟩
 ·obtain ⟨p0,hm,rfl⟩:=List.mem_map.1 hp
  obtain ⟨E',st',k1,k2,k3⟩:=q3 p0 hm
  obtain ⟨e,s'⟩:=p0
  unfold kX at k1
  cases e with
  | exit id' =>
   simp only [gk]
   simp only at k1
   cases hb:Nat.beq id' id with
   | true=>rw [hb] at k1;exact ⟨E',st',k1,k2,k3⟩
   | false=>rw [hb] at k1;exact ⟨E',st',k1,k2,k3⟩
  | _=>exact ⟨E',st',k1,k2,k3⟩
theorem aC.ops {id:Nat} {ops:Array Oper} {mu:Tmp→Bool} {st:aR} {K:Exit→aR→Prop} (h:wpOps T tab one mu ops.toList ops.toList st (K .normal)):aC T tab one (.region id ops false) st K:=by
 intro E base s hs
 obtain ⟨m,L,q1,q2,q3⟩:=fX h hs
 refine ⟨m,L.map fun s=>(.normal,s),by rw [dM];simp only [cond_false,q1],fun h1=>?_,fun p hp=>?_⟩
 ·obtain ⟨p,hp⟩:=q2 h1
  exact ⟨_,by rw [hp];rfl⟩
 ·obtain ⟨s',hm,rfl⟩:=List.mem_map.1 hp
  exact q3 s' hm
theorem aC.here {c:Code} {e:Exit} {st:aR} {K:Exit→aR→Prop} (hc:∀ rec s,aZ T rec c s=some [(e,s)]) (h:K e st):aC T tab one c st K :=
 fun E _ s hs=>⟨0,[(e,s)],hc _ _,.single ⟨E,st,h,rfl,hs,.refl⟩⟩
def th (K:Exit→aR→Prop) (e:Exit) (s:aR):Prop :=
 match e with
 | .goto _=>False
 | e=>K e s
theorem aC.scope {c:Code} {st:aR} {K:Exit→aR→Prop} (h:aC T tab one c st (th K)):aC T tab one (.scope c) st K:=by
 intro E base s hs
 obtain ⟨m,L,q1,q2,q3⟩:=h E base s hs
 refine ⟨m,L,?_,q2,fun p hp=>?_⟩
 ·rw [lC,q1]
  unfold vo
  have:L.all noGoto=true:=by
   rw [List.all_eq_true]
   intro p hp
   obtain ⟨_,_,k1,_⟩:=q3 p hp
   obtain ⟨e,s'⟩:=p
   cases e <;> first|rfl|exact k1.elim
  simp only [this,cond_true]
 ·obtain ⟨E',st',k1,k2⟩:=q3 p hp
  refine ⟨E',st',?_,k2⟩
  obtain ⟨e,s'⟩:=p
  cases e <;> first|exact k1|exact k1.elim
end
end Go.RM
namespace Go.RM
open Go
section
variable {T : bh} {tab : List XE} {one : Bool} {fl base : Nat} {E E' E2 : Env} {hp hp' hp2 : List AB} {av amb' : bw} {H H' H2 : Hp} {ρ : Nat → Nat → Option Nat} {g : az} {O : Nat → Prop}
mutual
def AV.ig (n:Nat):AV→Bool
 | .fl _=>true
 | .sl _ _=>true
 | .pt _ _=>true
 | .fn _ a b=>sq n a && sq n b
 | .ag a=>sq n a
 | .tp a=>sq n a
 | .oq _=>true
 | .bL=>true
 | .ptr j _ _=>Nat.blt j n
 | .cS j _ _ _ _=>Nat.blt j n
 | .om j=>Nat.blt j n
def sq (n:Nat):List AV→Bool
 | []=>true
 | a :: l=>a.ig n && sq n l
end
theorem mF {n:Nat}:∀ {l:List AV},sq n l=true→∀ (i:Nat) (a:AV),l[i]?=some a→a.ig n=true
 | [],_,i,a,h=>by cases h
 | x :: l,h,i,a,ha=>by
  simp only [sq,Bool.and_eq_true] at h
  cases i with
  | zero=>cases ha;exact h.1
  | succ i=>exact mF h.2 i a (by simpa using ha)
def eZ (n:Nat) (ρ:Nat→Nat→Option Nat):Nat→Nat→Option Nat:=fun j v=>if j < n then ρ j v else none
theorem AR.ig {n:Nat} {v:AV} {u:Value} (h:AR ρ g O v u):v.ig n=true→AR (eZ n ρ) g O v u:=by
 have lt:∀ {j:Nat},Nat.blt j n=true→j < n:=fun h=>Nat.le_of_ble_eq_true h
 induction h with
 | d h=>intro _;exact .d h
 | bL=>intro _;exact .bL
 | ptr h=>intro hd;simp only [AV.ig] at hd;exact .ptr (by rw [eZ,if_pos (lt hd)];exact h)
 | cS h=>intro hd;simp only [AV.ig] at hd;exact .cS (by rw [eZ,if_pos (lt hd)];exact h)
 | qE hc=>intro _;exact .qE hc
 | om h=>intro hd;simp only [AV.ig] at hd;exact .om (by rw [eZ,if_pos (lt hd)];exact h)
 | fn ha hb h1 h2 ih1 ih2 =>
  intro hd
  simp only [AV.ig,Bool.and_eq_true] at hd
  exact .fn ha hb (fun i x u hx hu=>ih1 i x u hx hu (mF hd.1 i x hx)) (fun i x u hx hu=>ih2 i x u hx hu (mF hd.2 i x hx))
 | ag ha h1 ih=>intro hd;simp only [AV.ig] at hd;exact .ag ha (fun i x u hx hu=>ih i x u hx hu (mF hd i x hx))
 | tp ha h1 ih=>intro hd;simp only [AV.ig] at hd;exact .tp ha (fun i x u hx hu=>ih i x u hx hu (mF hd i x hx))
def AB.ig (n:Nat):AB→Bool
 | .cells cs _ _=>sq n cs
 | .dD _ _=>true
 | .map ents _=>ents.all fun p=>p.1.ig n && p.2.1.ig n
 | .iter j _ _ _=>Nat.blt j n
 | .gone=>true
def aj (st st':aR):Prop:=st'.fl=st.fl∧∀ (E:Env) (base:Nat) (s:St),jD E base st s→∃ E',jD E' base st' s∧iK st.fl base E st.hp s.hp E' st'.hp s.hp
theorem aj.refl (st:aR):aj st st:=⟨rfl,fun E _ _ h=>⟨E,h,.refl⟩⟩
theorem aj.trans {a b c:aR} (h:aj a b) (k:aj b c):aj a c:=⟨k.1.trans h.1,fun E base s hs=>by
 obtain ⟨E1,h1,h2⟩:=h.2 E base s hs
 obtain ⟨E2,k1,k2⟩:=k.2 E1 base s h1
 rw [h.1] at k2
 exact ⟨E2,k1,h2.trans k2⟩⟩
theorem EP.er {st st':aR} (h:EP st st'):aj st st':=⟨h.2.2.1,fun E _ _ hs=>⟨E,h.rel hs,by rw [h.1];exact .refl⟩⟩
theorem aC.bx {c:Code} {st st':aR} {K:Exit→aR→Prop} (hw:aj st st') (h:aC T tab one c st' K):aC T tab one c st K:=by
 intro E base s hs
 obtain ⟨E1,hs1,hf⟩:=hw.2 E base s hs
 obtain ⟨m,L,h1,h2,h3⟩:=h E1 base s hs1
 refine ⟨m,L,h1,h2,fun p hp=>?_⟩
 obtain ⟨E',st2,k1,k0,k2,k3⟩:=h3 p hp
 rw [hw.1] at k3
 exact ⟨E',st2,k1,k0.trans hw.1,k2,hf.trans k3⟩
def bM:List (Nat × AV)→Nat→AV
 | [],_=>.bL
 | (i,v) :: l,t=>bif Nat.beq t i then v else bM l t
theorem DO {fr:Nat→AV}:∀ {l:List (Nat × AV)},(∀ p ∈ l,fr p.1=p.2)→∀ t,bM l t=fr t∨bM l t=.bL
 | [],_,t=>.inr rfl
 | (i,v) :: l,h,t=>by
  unfold bM
  rw [Tr.beq_eq]
  by_cases hti:t=i
  ·rw [decide_eq_true hti]
   exact .inl (by rw [hti,h (i,v) (by simp)];rfl)
  ·rw [decide_eq_false hti]
   exact DO (fun p hp=>h p (List.mem_cons_of_mem _ hp)) t
def BK (fr:Nat→AV):List (Nat × AV)→Prop
 | []=>True
 | (i,v) :: l=>fr i=v∧BK fr l
theorem BK.mem {fr:Nat→AV}:∀ {l:List (Nat × AV)},BK fr l→∀ p ∈ l,fr p.1=p.2
 | [],_,p,hp=>by cases hp
 | (i,v) :: l,h,p,hp=>by
  rcases List.mem_cons.1 hp with rfl|hp
  ·exact h.1
  ·exact h.2.mem p hp
theorem aj.slots {st:aR} {l:List (Nat × AV)} {hp:List AB} (h:BK st.fr l) (hh:st.hp=hp):aj st ⟨bM l,hp,st.av,st.rd,st.fl⟩ :=
 EP.er ⟨hh.symm,⟨rfl,rfl⟩,rfl,fun t=>DO h.mem t⟩
theorem aj.cut {st:aR} {n:Nat} (hn:st.fl≤n) (hfr:∀ t,(st.fr t).ig n=true) (hh:(st.hp.take n).all (AB.ig n)=true):aj st ⟨st.fr,st.hp.take n,st.av,st.rd,st.fl⟩:=by
 refine ⟨rfl,fun E base s hs=>?_⟩
 have hr:=hs.h
 rw [List.all_eq_true] at hh
 have hown:∀ k,Own (eZ n E.ρ) (st.hp.take n) k→Own E.ρ st.hp k:=by
  rintro k ⟨j,b,ax,h1,h2,h3⟩
  rw [List.getElem?_take] at h1
  split at h1
  ·rename_i hlt
   rw [eZ,if_pos hlt] at h3
   exact ⟨j,b,ax,h1,h2,h3⟩
  ·cases h1
 have hO:∀ k b,s.hp.get k=some b→¬ E.O st.hp k→s.hp.get k=some b∧¬ ({E with ρ:=eZ n E.ρ}:Env).O (st.hp.take n) k :=
  fun k b hk ho=>⟨hk,fun h=>ho (h.imp (hown k) id)⟩
 have har:∀ {v:AV} {u:Value},AR E.ρ s.hp.get (E.O st.hp) v u→v.ig n=true→AR (eZ n E.ρ) s.hp.get (({E with ρ:=eZ n E.ρ}:Env).O (st.hp.take n)) v u :=
  fun h hi=>(h.ig hi).mono (fun _ _ _ h=>h) hO
 refine ⟨{E with ρ:=eZ n E.ρ},⟨⟨hr.wf,fun j b ax hj hv=>?_,fun j j' ax ver' k h1 h2=>?_,fun j v k hk=>?_,fun j b ax v h1 h2 h3=>?_,fun j v hj=>?_,fun k hk=>hr.sup k (hown k hk),fun k hk=>hr.iL k (hown k hk),hr.dx,hr.ds,hr.sn,hr.xn,fun k hk=>hr.qp k (hk.imp (hown k) id),hr.bn,hr.av⟩,hs.rd,fun t=>har (hs.fr t) (hfr t)⟩,
  ⟨Nat.le_refl _,fun j v k hj hk=>?_,fun k hk=>.inl (hown k hk),fun _ h=>.inl h,fun _ h=>.inl h,fun _ h=>h,fun _ h=>.inl h,fun _ _ _ _=>rfl,Nat.min_le_left _ _⟩⟩
 ·have hb:=hh b (List.mem_of_getElem? hj)
  rw [List.getElem?_take] at hj
  split at hj
  ·rename_i hlt
   rcases hr.gC j b ax hj hv with ⟨k,b',q1,q2,q3⟩|⟨q1,q2⟩
   ·refine .inl ⟨k,b',by show eZ _ _ _ _=_;rw [eZ,if_pos hlt];exact q1,q2,?_⟩
    cases b with
    | cells cs es ax =>
     obtain ⟨cs',rfl,h⟩:=q3
     exact ⟨cs',rfl,h.1,fun i a u ha hu=>har (h.2 i a u ha hu) (mF hb i a ha)⟩
    | dD p q=>exact q3
    | map ents clock =>
     obtain ⟨es,rfl,h1,h2⟩:=q3
     refine ⟨es,rfl,h1,fun i k v born x hx hy=>?_⟩
     simp only [AB.ig,List.all_eq_true,Bool.and_eq_true] at hb
     have:=hb _ (List.mem_of_getElem? hx)
     exact ⟨har (h2 i k v born x hx hy).1 this.1,har (h2 i k v born x hx hy).2.1 this.2,(h2 i k v born x hx hy).2.2⟩
    | iter j since seen stepped =>
     obtain ⟨m,rfl,h⟩:=q3
     refine ⟨m,rfl,?_⟩
     show eZ _ _ _ _=_
     rw [eZ,if_pos (show j < n from Nat.le_of_ble_eq_true hb)];exact h
    | gone=>exact q3
   ·exact .inr ⟨by show eZ _ _ _ _=_;rw [eZ,if_pos hlt];exact q1,q2⟩
  ·cases hj
 ·have key:∀ {j v:Nat},eZ n E.ρ j v=some k→E.ρ j v=some k:=fun {j v} h=>by
   unfold eZ at h
   split at h
   ·exact h
   ·cases h
  exact hr.inj j j' ax ver' k (key h1) (key h2)
 ·have hk:eZ n E.ρ j v=some k:=hk
  unfold eZ at hk
  split at hk
  ·exact hr.rn _ _ _ hk
  ·cases hk
 ·rw [List.getElem?_take] at h1
  split at h1
  ·rename_i hlt
   show eZ _ _ _ _=_
   rw [eZ,if_pos hlt]
   exact hr.fresh j b ax v h1 h2 h3
  ·cases h1
 ·show eZ _ _ _ _=_
  unfold eZ
  split
  ·rename_i hlt
   refine hr.new j v ?_
   simp only [List.length_take] at hj
   omega
  ·rfl
 ·show eZ _ _ _ _=_
  rw [eZ,if_pos (by omega)]
  exact hk
theorem wJ {n:Nat}:∀ {l:List (Nat × AV)},(l.all fun p=>p.2.ig n)=true→∀ t,(bM l t).ig n=true
 | [],_,t=>rfl
 | (i,v) :: l,h,t=>by
  simp only [List.all_cons,Bool.and_eq_true] at h
  unfold bM
  cases Nat.beq t i with
  | true=>exact h.1
  | false=>exact wJ h.2 t
theorem aj.to {st:aR} {l:List (Nat × AV)} {hp:List AB} (n:Nat) (hh:st.hp.take n=hp) (hs:BK st.fr l) (hn:st.fl≤n) (hl:(l.all fun p=>p.2.ig n)=true) (hb:hp.all (AB.ig n)=true):aj st ⟨bM l,hp,st.av,st.rd,st.fl⟩:=by
 subst hh
 exact (aj.slots hs rfl).trans (aj.cut hn (wJ hl) hb)
def Gd {σ:Type} (P:σ→Prop) (I:σ→aR) (m:σ→Nat) (K:Exit→aR→Prop) (x:σ) (e:Exit) (s:aR):Prop :=
 match e with
 | .normal=>∃ y,P y∧m y < m x∧aj s (I y)
 | e=>K e s
theorem aC.loop {σ:Type} {body:Code} {K:Exit→aR→Prop} (P:σ→Prop) (I:σ→aR) (m:σ→Nat) (h:∀ x,P x→aC T tab one body (I x) (Gd P I m K x)):∀ x,P x→aC T tab one (.loop body) (I x) K:=by
 have key:∀ (n:Nat) (x:σ),P x→m x < n→∀ (E:Env) (base:Nat) (s:St),jD E base (I x) s→∃ k L,RX T tab k (.loop body s)=some L∧k9 one L fun r=>∃ e s',r=.out e s'∧qI E base (I x) s (K e) s':=by
  intro n
  induction n with
  | zero=>intro x _ hx;omega
  | succ n ih =>
   intro x hP hx E base s hs
   obtain ⟨k0,L0,h1,h2,h3⟩:=h x hP E base s hs
   obtain ⟨k,M,hk,q1,q2⟩:=cB (one:=one) (L:=L0) (f:=fun k (p:Exit × St)=>eJ (RX T tab k) body p) (P:=fun r=>∃ e s',r=.out e s'∧qI E base (I x) s (K e) s') (fun a b p M hab hp=>by
     unfold eJ at hp ⊢
     split at hp
     ·exact dR hab _ _ hp
     ·exact hp) k0 h2 (fun p hp=>by
    obtain ⟨E',st',k1,kf,k2,k3⟩:=h3 p hp
    obtain ⟨e,s'⟩:=p
    have other:(eJ (RX T tab 0) body (e,s')=some [.out e s'])→K e st'→∃ m M,eJ (RX T tab m) body (e,s')=some M∧k9 one M fun r=>∃ e s',r=.out e s'∧qI E base (I x) s (K e) s' :=
     fun h1 h2=>⟨0,_,h1,.single ⟨e,s',rfl,E',st',h2,kf,k2,k3⟩⟩
    cases e with
    | normal =>
     obtain ⟨y,hPy,hy,hw⟩:=k1
     obtain ⟨E1,hs1,hf1⟩:=hw.2 E' base s' k2
     obtain ⟨k,L,r1,r2,r3⟩:=ih y hPy (by omega) E1 base s' hs1
     refine ⟨k,L,r1,r2,fun r hr=>?_⟩
     obtain ⟨e,s2,rfl,E2,st2,j1,jf,j2,j3⟩:=r3 r hr
     have e1:(I y).fl=(I x).fl:=hw.1.trans kf
     rw [e1] at j3
     rw [kf] at hf1
     exact ⟨e,s2,rfl,E2,st2,j1,jf.trans e1,j2,(k3.trans hf1).trans j3⟩
    | _=>exact other rfl k1)
   refine ⟨k+1,M,?_,q2⟩
   rw [HM,qz,dX (dR hk) _ _ _ h1]
   exact q1
 intro x hP E base s hs
 obtain ⟨k,L,h1,h2,h3⟩:=key (m x+1) x hP (Nat.lt_succ_self _) E base s hs
 obtain ⟨k',M,hk,q1,q2⟩:=cB (one:=one) (L:=L) (f:=fun _ (r:eV)=>AA r) (P:=fun p=>qI E base (I x) s (K p.1) p.2) (fun _ _ _ _ _ h=>h) k h2 (fun r hr=>by
  obtain ⟨e,s',rfl,h⟩:=h3 r hr
  exact ⟨0,_,rfl,.single h⟩)
 refine ⟨k',M,?_,q2⟩
 rw [m4,dR hk _ _ h1]
 exact q1
inductive Fz (hp:List AB):AV→AV→Prop
 | deep {v:AV}:v.deep=true→Fz hp v v
 | nil {b:Bool}:Fz hp (.fl (.slice none 0 0)) (.sl [] b)
 | full {els:List (List AV)}:Fz hp (.sl els true) (.sl els false)
 | row {j ax o n c es:Nat} {cs:List AV} {els:List (List AV)} {b:Bool}:hp[j]?=some (.cells cs es ax)→o+n * es≤cs.length→els.length=n→(∀ el ∈ els,el.length=es)→els.flatten=(cs.drop o).take (n * es)→de els.flatten=true→(b=true→c=n) →
  Fz hp (.cS j ax o n c) (.sl els b)
 | ag {a b:List AV}:a.length=b.length→(∀ (i:Nat) (x y:AV),a[i]?=some x→b[i]?=some y→Fz hp x y)→Fz hp (.ag a) (.ag b)
theorem Fz.dr {X:Nat→Prop} (h:aK E base hp av H) (hX:∀ k,X k→E.X k) {r v:AV} (hf:Fz hp r v):∀ {u:Value},AR E.ρ H.get (E.O hp) r u→DR H.get X v u:=by
 have weak:∀ {v:AV} {u:Value},DR H.get (E.O hp) v u→DR H.get X v u:=fun h=>h.mono fun k b hk ho=>⟨hk,fun hx=>ho (.inr (hX k hx))⟩
 induction hf with
 | deep hd=>intro u ha;exact weak (ha.deep hd)
 | nil=>intro u ha;rw [ha.eR.1];exact .nil
 | full =>
  intro u ha
  cases weak ha.jN with
  | nil=>exact .nil
  | sl q1 q2 q3 q4 q5 q6 q7=>exact .sl q1 q2 q3 q4 q5 q6 (fun h=>Bool.noConfusion h)
 | row h1 h2 h3 h4 h5 h6 h7 =>
  rename_i j ax o n c es cs els b
  intro u ha
  rcases ha.eE with ⟨k,hk,rfl⟩|⟨rfl,rfl,rfl⟩
  ·obtain ⟨cs',q1,q2⟩:=h.cells h1 hk
   have hok:Own E.ρ hp k:=⟨j,_,ax,h1,rfl,hk⟩
   have hnx:¬ X k:=fun hx=>h.iL k hok (hX k hx)
   refine .sl (es:=es) q1 hnx (by rw [←q2.1];exact h2) h3 (fun i el he=>h4 el (List.mem_of_getElem? he)) (fun i el jj a u he hx hu=>?_) h7
   have hjj:jj < es:=by rw [←h4 el (List.mem_of_getElem? he)];exact (List.getElem?_eq_some_iff.1 hx).1
   have hat:=fj h4 i el jj he hjj
   have hi:i < n:=by rw [←h3];exact (List.getElem?_eq_some_iff.1 he).1
   have hdeep:a.deep=true:=by
    refine ia h6 (i * es+jj) a ?_
    rw [hat];exact hx
   rw [h5,List.getElem?_take,List.getElem?_drop] at hat
   have hlt:i * es+jj < n * es:=by
    have:(i+1) * es≤n * es:=Nat.mul_le_mul_right _ hi
    rw [Nat.add_mul,Nat.one_mul] at this
    omega
   rw [if_pos hlt,hx,←Nat.add_assoc] at hat
   exact weak ((q2.2 _ a u hat hu).deep hdeep)
  ·simp only [List.length_eq_zero_iff] at h3
   subst h3
   exact .nil
 | ag hl h1 ih =>
  rename_i a b
  intro u ha
  have hal:∃ us:Array Value,u=.agg us∧fh E.ρ H.get (E.O hp) a us.toList:=by
   cases ha with
   | d h=>cases h with
    | ag ha h1=>exact ⟨_,rfl,ha,fun i a u x y=>.d (h1 i a u x y)⟩
   | ag ha h1=>exact ⟨_,rfl,ha,h1⟩
  obtain ⟨us,rfl,h2⟩:=hal
  refine .ag (by rw [←hl];exact h2.1) (fun i x w hx hw=>?_)
  have hi:i < a.length:=by rw [hl];exact (List.getElem?_eq_some_iff.1 hx).1
  have hai:a[i]?=some a[i]:=List.getElem?_eq_getElem hi
  exact ih i _ x hai hx (h2.2 i _ w hai hw)
def Af (hp:List AB):List AV→List AV→Prop
 | [],[]=>True
 | r :: rs,v :: vs=>Fz hp r v∧Af hp rs vs
 | _,_=>False
theorem Af.dr {X:Nat→Prop} (h:aK E base hp av H) (hX:∀ k,X k→E.X k):∀ {rs vs:List AV} {us:List Value},Af hp rs vs→fh E.ρ H.get (E.O hp) rs us→rY H.get X vs us
 | [],[],us,_,ha=>⟨ha.1,fun i a u hx=>by cases hx⟩
 | r :: rs,v :: vs,[],_,ha=>absurd ha.1 (by simp)
 | r :: rs,v :: vs,u :: us,hf,ha=>by
  have:=Af.dr h hX hf.2 (us:=us) ⟨by simpa using ha.1,fun i a u x y=>ha.2 (i+1) a u (by simpa using x) (by simpa using y)⟩
  refine ⟨by simp [this.1],fun i a w hx hw=>?_⟩
  cases i with
  | zero=>cases hx;cases hw;exact hf.1.dr h hX (ha.2 0 r u rfl rfl)
  | succ i=>exact this.2 i a w (by simpa using hx) (by simpa using hw)
 | [],_ :: _,_,hf,_=>hf.elim
 | _ :: _,[],_,hf,_=>by simp [Af] at hf
theorem BL (h:aK E base hp av H) {t:TypeId} {a:AV} {u:Value} (ha:AR E.ρ H.get (E.O hp) a u) {K:AV→List AB→Prop} (hw:fV T t a hp K):∃ w b,iw T t u H.get=some (w,.none)∧K b hp∧AR E.ρ H.get (E.O hp) b w:=by
 unfold fV at hw
 split at hw
 ·rename_i cs o iP s bytes zero agg bO cy hty
  obtain ⟨k,d,cs',own,e,rfl,h1,h2,h3,h4⟩:=ha.cD.cD
  unfold iw addr?
  simp only [h1,cells?,hty]
  obtain ⟨u,a,e1,e2,e3⟩:=lJ (ρ:=E.ρ) (fun i a u x y=>.d (h4 i a u x y)) h3 hw
  rw [e1]
  exact ⟨u,a,rfl,e2,e3⟩
 ·rename_i j ax o iP s bytes zero agg bO cy hty
  obtain ⟨cs,es,h1,h2⟩:=hw
  obtain ⟨k,hk,rfl⟩:=ha.dy
  obtain ⟨cs',h3,h4⟩:=h.cells h1 hk
  unfold iw addr?
  simp only [h3,cells?,hty]
  obtain ⟨u,a,e1,e2,e3⟩:=lJ (d:=0) (fun i a u x y=>h4.2 i a u x (by rw [Nat.zero_add] at y;exact y)) (by rw [h4.1];omega) h2
  rw [Nat.zero_add] at e1
  rw [e1]
  exact ⟨u,a,rfl,e2,e3⟩
 ·exact hw.elim
def Jy (T:bh) (s:aR) (r:ResultVar) (K:AV→Prop):Prop :=
 match r with
 | .tmp t=>K (s.fr t)
 | .cell a t=>fV T t (s.fr a) s.hp fun v _=>K v
def ij (T:bh) (s:aR):List ResultVar→(List AV→Prop)→Prop
 | [],K=>K []
 | r :: rs,K=>Jy T s r fun v=>ij T s rs fun vs=>K (v :: vs)
def l6:List AV→AV
 | [v]=>v
 | vs=>.tp vs
theorem iq {st:aR} {s:St} (hs:jD E base st s):∀ {rs:List ResultVar} {K:List AV→Prop},ij T st rs K→∃ us as,e9 T s.fr s.hp rs=some us∧K as∧fh E.ρ s.hp.get (E.O st.hp) as us
 | [],K,h=>⟨[],[],rfl,h,.nil⟩
 | r :: rs,K,h=>by
  have h:Jy T st r fun v=>ij T st rs fun vs=>K (v :: vs):=h
  have one:∃ u a,yp T s.fr s.hp r=some u∧AR E.ρ s.hp.get (E.O st.hp) a u∧ij T st rs fun vs=>K (a :: vs):=by
   unfold Jy at h
   cases r with
   | tmp t=>exact ⟨_,_,rfl,hs.fr t,h⟩
   | cell a t =>
    obtain ⟨u,b,r1,r2,r3⟩:=BL hs.h (hs.fr a) h
    exact ⟨u,b,by unfold yp;simp only [r1,Option.map_some],r3,r2⟩
  obtain ⟨u,a,h1,h2,h3⟩:=one
  obtain ⟨us,as,k1,k2,k3⟩:=iq hs h3
  exact ⟨u :: us,a :: as,by unfold e9;simp only [h1,k1,Option.map_some],k2,.cons h2 k3⟩
def wK (T:bh) (rs:List ResultVar) (v:AV) (e:Exit) (s:aR):Prop :=
 match e with
 | .normal|.ret=>ij T s rs fun as=>∃ vs,Af s.hp as vs∧l6 vs=v
 | _=>False
def uh (args:List AV):Nat→AV:=fun t=>args.getD t .bL
def noEntry (tab:List XE) (f:FuncId):Bool:=tab.all fun e=>!Nat.beq e.f f
theorem jd {f:FuncId} (args:List Value) (H:Hp):∀ {tab:List XE},noEntry tab f=true→look tab f args H=none
 | [],_=>rfl
 | e :: l,h=>by
  simp only [noEntry,List.all_cons,Bool.and_eq_true,Bool.not_eq_true'] at h
  have h1:qn e f args H=none:=by unfold qn;rw [h.1];rfl
  show (match qn e f args H with|some r=>some r|none=>look l f args H)=none
  rw [h1]
  exact jd args H h.2
theorem mG {args:List AV} {us:List Value} (h:fh ρ g O args us):nq ρ g O (uh args) (setArgs .leaf 0 us):=by
 intro t
 rw [tX,Tr.mh]
 unfold uh
 by_cases ht:t < args.length
 ·rw [if_pos ⟨Nat.zero_le _,by rw [←h.1];omega⟩,Nat.sub_zero,List.getD_eq_getElem?_getD,List.getElem?_eq_getElem ht,List.getElem?_eq_getElem (by rw [←h.1];exact ht:t < us.length)]
  exact h.2 t _ _ (List.getElem?_eq_getElem ht) (List.getElem?_eq_getElem _)
 ·rw [List.getD_eq_getElem?_getD,List.getElem?_eq_none (by omega)]
  exact .bL
theorem HQ {X:Nat→Prop} {vs:List AV} {us:List Value} (h:rY g X vs us):DR g X (l6 vs) (aW us):=by
 have tup:∀ {vs:List AV} {us:List Value},rY g X vs us→DR g X (.tp vs) (.tuple us.toArray):=fun h=>.tp (by simpa using h.1) (fun i x u hx hu=>h.2 i x u hx (by simpa using hu))
 match vs,us,h with
 | [v],[u],h=>exact h.2 0 v u rfl rfl
 | [],[],h=>exact tup h
 | v :: w :: vs,u :: x :: us,h=>exact tup h
 | [],_ :: _,h=>exact absurd h.1 (by simp)
 | [_],[],h=>exact absurd h.1 (by simp)
 | [_],_ :: _ :: _,h=>exact absurd h.1 (by simp)
 | _ :: _ :: _,[],h=>exact absurd h.1 (by simp)
 | _ :: _ :: _,[_],h=>exact absurd h.1 (by simp)
theorem af.body {f:FuncId} {fn:Func} {c:Code} {first caps args:List AV} {v:AV} (hf:T.fn.get f=some fn) (hb:fn.body=some c) (hn:noEntry tab f=true) (hv:v.deep=true)
  (hw:aC T tab one c ⟨uh (first++args++caps),[],bw.none,false,0⟩ (wK T fn.results.toList v)):af T tab one (.fn f first caps) args v:=by
 refine ⟨hv,fun X H u us hwf hX hF ha=>?_⟩
 cases hF with
 | fn l1 l2 d1 d2 =>
  rename_i a' b'
  have hfirst:rY H.get X first a'.toList:=⟨l1,d1⟩
  have hcaps:rY H.get X caps b'.toList:=⟨l2,d2⟩
  have hall:=rY.append (rY.append hfirst ha) hcaps
  refine ⟨.fn f (a'.toList++us++b'.toList),rfl,?_⟩
  let E:Env:=⟨fun _ _=>none,fun _=>False,fun _=>False,X⟩
  have hno:∀ k,¬ Own E.ρ [] k:=fun k ⟨j,b,ax,h,_⟩=>by cases h
  have hO:∀ k,E.O [] k→X k:=fun k h=>h.elim (fun h=>(hno k h).elim) id
  have hrel:aK E H.n [] bw.none H :=
   {wf:=hwf,gC:=fun j b ax h _=>(by cases h),inj:=fun j j' ax ver' k h=>(by cases h),rn:=fun j v k h=>(by cases h),fresh:=fun j b ax v h=>(by cases h),new:=fun _ _ _=>rfl,
    sup:=fun k h=>(hno k h).elim,iL:=fun k h=>(hno k h).elim,dx:=fun k h=>h.elim,ds:=fun k h=>h.elim,sn:=fun k h=>h.elim,xn:=hX,
    qp:=fun k h=>h.elim (fun h=>(hno k h).elim) (fun h=>h.elim),bn:=Nat.le_refl _,av:=trivial}
  have harl:fh E.ρ H.get (E.O []) (first++args++caps) (a'.toList++us++b'.toList) :=
   ⟨hall.1,fun i a u x y=>.d ((hall.2 i a u x y).mono fun k b hk ho=>⟨hk,fun h=>ho (hO k h)⟩)⟩
  obtain ⟨m,L,h1,h2,h3⟩:=hw E H.n ⟨setArgs .leaf 0 (a'.toList++us++b'.toList),H,false⟩ ⟨hrel,rfl,mG harl⟩
  obtain ⟨m',M,hm,q1,q2,q3⟩:=cB (one:=one) (L:=L) (f:=fun _ (p:Exit × St)=>fc T fn.results.toList p) (P:=fun r=>∃ w H',r=.ret w H'∧H.n≤H'.n∧Wf H'∧(∀ k,k < H.n→H'.get k=H.get k)∧min H.lo H.n≤H'.lo∧DR H'.get X v w)
   (fun _ _ _ _ _ h=>h) m h2 (fun p hp=>by
    obtain ⟨E',st',k1,_,k2,k3⟩:=h3 p hp
    obtain ⟨e,s'⟩:=p
    have done:(e=.normal∨e=.ret)→(ij T st' fn.results.toList fun as=>∃ vs,Af st'.hp as vs∧l6 vs=v)→∃ (_:Nat) (M:List eV),fc T fn.results.toList (e,s')=some M∧k9 one M fun r=>∃ w H',r=.ret w H'∧H.n≤H'.n∧Wf H'∧(∀ k,k < H.n→H'.get k=H.get k)∧min H.lo H.n≤H'.lo∧DR H'.get X v w:=by
     intro he hr
     obtain ⟨ws,as,r1,⟨vs,r2,r3⟩,r4⟩:=iq k2 hr
     refine ⟨0,[.ret (aW ws) s'.hp],?_,.single ⟨_,_,rfl,k3.n,k2.h.wf,fun k hk=>k3.same k hk (hno k) (fun h=>h),k3.lo,?_⟩⟩
     ·unfold fc
      rcases he with rfl|rfl <;> simp only [r1,Option.map_some]
     ·rw [←r3]
      exact HQ (r2.dr k2.h (fun k hk=>k3.xk k hk) r4)
    cases e with
    | normal=>exact done (.inl rfl) k1
    | ret=>exact done (.inr rfl) k1
    | _=>exact k1.elim)
  refine ⟨m'+1,M,?_,q2,q3⟩
  show RX T tab (m'+1) (.call f _ H)=_
  rw [rX,jd _ _ hn]
  simp only
  rw [gQ,hf]
  simp only [hb]
  rw [dX (dR hm) _ _ _ h1]
  exact q1
end
end Go.RM
namespace Go.RM
open Go
section
variable {T : bh} {tab : List XE} {one : Bool} {fl base : Nat} {E E' E2 : Env} {hp hp' hp2 : List AB} {av amb' : bw} {H H' H2 : Hp} {ρ ρ2 : Nat → Nat → Option Nat} {g g2 : az} {O O2 : Nat → Prop}
def I8 (r:Option (Value × bS)) (K:AV→Prop) (R R2:AV→Value→Prop):Prop:=∃ u a,r=some (u,.none)∧K a∧R a u∧R2 a u
theorem ES {t:TypeId} {a:AV} {i:Nat} {u:Value} (ha:AR ρ g O a u) (hb:AR ρ2 g2 O2 a u) {K:AV→List AB→Prop} (hw:kj T t a i hp K):I8 (dU T t u i) (K · hp) (AR ρ g O) (AR ρ2 g2 O2):=by
 unfold kj at hw
 split at hw
 ·rename_i cs o fs s bytes z agg bO cy hty
  obtain ⟨off,s',h1,h2,h3⟩:=hw
  obtain ⟨k,d,cs',own,e,rfl,q1,q2,q3,q4⟩:=ha.cD.cD
  obtain ⟨k2,d2,cs2,own2,e2,hu,r1,r2,r3,r4⟩:=hb.cD.cD
  simp only [Value.pointer.injEq,Option.some.injEq,Addr.mk.injEq] at hu
  obtain ⟨rfl,hd,_⟩:=hu
  obtain rfl:d=d2:=by omega
  unfold dU addr?
  simp only [hty,h1,Nat.ble_eq_true_of_le h2,cond_true]
  refine ⟨_,.pt cs (o+off),rfl,h3,?_,?_⟩ <;> unfold ptr <;> rw [Nat.add_assoc]
  ·exact .d (.pt q1 q2 q3 q4)
  ·exact .d (.pt r1 r2 r3 r4)
 ·rename_i j ax o fs s bytes z agg bO cy hty
  obtain ⟨off,s',h1,h2,h3⟩:=hw
  obtain ⟨k,hk,rfl⟩:=ha.dy
  obtain ⟨k2,hk2,hu⟩:=hb.dy
  simp only [Value.pointer.injEq,Option.some.injEq,Addr.mk.injEq,and_true] at hu
  obtain rfl:=hu
  unfold dU addr?
  simp only [hty,h1,Nat.ble_eq_true_of_le h2,cond_true]
  exact ⟨_,_,rfl,h3,.ptr hk,.ptr hk2⟩
 ·exact hw.elim
theorem yd {t:TypeId} {a ix:AV} {u x:Value} (ha:AR ρ g O a u) (hb:AR ρ2 g2 O2 a u) (hx:AR ρ g O ix x) {K:AV→List AB→Prop} (hw:cA T t a ix hp K):I8 (dV T t u x) (K · hp) (AR ρ g O) (AR ρ2 g2 O2):=by
 unfold cA at hw
 split at hw
 ·rename_i j len el s bytes z agg bO cy hj hty
  have hix:=jc hj hx
  obtain ⟨h0,hw⟩:=hw
  unfold dV
  simp only [hix,hty]
  split at hw
  ·obtain ⟨k,d,cs',own,e,rfl,q1,q2,q3,q4⟩:=ha.cD.cD
   obtain ⟨k2,d2,cs2,own2,e2,hu,r1,r2,r3,r4⟩:=hb.cD.cD
   simp only [Value.pointer.injEq,Option.some.injEq,Addr.mk.injEq] at hu
   obtain ⟨rfl,hd,_⟩:=hu
   obtain rfl:d=d2:=by omega
   simp only [addr?]
   rw [lK h0]
   refine ⟨_,_,rfl,hw,?_,?_⟩ <;> unfold ptr <;> rw [Nat.add_assoc]
   ·exact .d (.pt q1 q2 q3 q4)
   ·exact .d (.pt r1 r2 r3 r4)
  ·obtain ⟨k,hk,rfl⟩:=ha.dy
   obtain ⟨k2,hk2,hu⟩:=hb.dy
   simp only [Value.pointer.injEq,Option.some.injEq,Addr.mk.injEq,and_true] at hu
   obtain rfl:=hu
   simp only [addr?]
   rw [lK h0]
   exact ⟨_,_,rfl,hw,.ptr hk,.ptr hk2⟩
  ·exact hw.elim
 ·rename_i j el s bytes z agg bO cy hj hty
  have hix:=jc hj hx
  unfold dV
  simp only [hix,hty]
  split at hw
  ·rename_i els f
   obtain ⟨el,⟨h0,h1⟩,h2,h3⟩:=hw
   have mk:∀ {g:az} {O:Nat→Prop} {k o n c:Nat},DR g O (.sl els f) (.slice (some ⟨k,o,none⟩) n c)→n=els.length∧DR g O (.pt el 0) (ptr k (o+j.toNat * cy)):=by
    intro g O k o n c h
    cases h with
    | sl q1 q2 q3 q4 q5 q6 q7 =>
     rename_i es cs own e
     have hlt:j.toNat < els.length:=(List.getElem?_eq_some_iff.1 h1).1
     have hes:es=cy:=by rw [←q5 _ _ h1,h2]
     subst hes
     have hle:(j.toNat+1) * es≤n * es:=Nat.mul_le_mul_right _ (by omega)
     rw [Nat.add_mul,Nat.one_mul] at hle
     exact ⟨q4.symm,.pt (d:=o+j.toNat * es) (o:=0) q1 q2 (by rw [h2];omega) fun i a u hi hu=>q6 _ _ i a u h1 hi hu⟩
   have hlt:j.toNat < els.length:=(List.getElem?_eq_some_iff.1 h1).1
   have h4:=ha.jN
   have h5:=hb.jN
   cases h4 with
   | nil=>cases h1
   | sl q1 q2 q3 q4 q5 q6 q7 =>
    rename_i k o n c es cs own e
    obtain ⟨e1,p1⟩:=mk (.sl q1 q2 q3 q4 q5 q6 q7:DR g O (.sl els f) (.slice (some ⟨k,o,none⟩) n c))
    obtain ⟨_,p2⟩:=mk h5
    show I8 (qa cy k o n j) _ _ _
    rw [lK ⟨h0,by omega⟩]
    exact ⟨_,_,rfl,h3,.d p1,.d p2⟩
  ·rename_i i ax o n c
   obtain ⟨h0,h1⟩:=hw
   rcases ha.eE with ⟨k,hk,rfl⟩|⟨rfl,rfl,rfl⟩
   ·rcases hb.eE with ⟨k2,hk2,hu⟩|⟨_,_,hu⟩
    ·simp only [Value.slice.injEq,Option.some.injEq,Addr.mk.injEq,and_true] at hu
     obtain rfl:=hu
     show I8 (qa cy k o n j) _ _ _
     rw [lK h0]
     exact ⟨_,_,rfl,h1,.ptr hk,.ptr hk2⟩
    ·cases hu
   ·omega
  ·exact hw.elim
 ·exact hw.elim
theorem Ge {t:TypeId} {cs:List AV} {o:Nat} {u:Value} (ha:AR ρ g O (.pt cs o) u) (hb:AR ρ2 g2 O2 (.pt cs o) u) (hc:∀ k b,g2 k=some b→¬ O2 k→g k=some b) {K:AV→List AB→Prop} (hw:fV T t (.pt cs o) hp K) :
  I8 (iw T t u g) (K · hp) (AR ρ g O) (AR ρ2 g2 O2):=by
 unfold fV at hw
 split at hw
 ·rename_i cs0 o0 iP s bytes zero agg bO cy hpt hty
  cases hpt
  obtain ⟨k,d,cs',own,e,rfl,h1,h2,h3,h4⟩:=ha.cD.cD
  obtain ⟨k2,d2,cs2,own2,e2,hu,r1,r2,r3,r4⟩:=hb.cD.cD
  simp only [Value.pointer.injEq,Option.some.injEq,Addr.mk.injEq] at hu
  obtain ⟨rfl,hd,_⟩:=hu
  obtain rfl:d=d2:=by omega
  have:=hc _ _ r1 r2
  rw [h1] at this
  cases this
  unfold iw addr?
  simp only [h1,cells?,hty]
  unfold Bx at hw
  cases agg with
  | true =>
   obtain ⟨w1,w2⟩:=hw
   simp only [cond_true]
   rw [nr (by omega)]
   have mk:∀ {ρ:Nat→Nat→Option Nat} {g:az} {O:Nat→Prop},(∀ (i:Nat) (a:AV) (u:Value),cs[i]?=some a→cs'[d+i]?=some u→DR g O a u)→AR ρ g O (.ag ((cs.drop o).take s)) (.agg ((cs'.drop (d+o)).take s).toArray):=by
    intro ρ g O h
    refine .d (.ag ?_ ?_)
    ·simp;omega
    ·intro i x u hx hu
     simp only [List.getElem?_take,List.getElem?_drop] at hx hu
     split at hx
     ·rw [if_pos (by assumption)] at hu
      exact h _ x u hx (by rw [←Nat.add_assoc];exact hu)
     ·cases hx
   exact ⟨_,_,rfl,w2,mk h4,mk r4⟩
  | false =>
   obtain ⟨v,w1,w2⟩:=hw
   have hlt:=(List.getElem?_eq_some_iff.1 w1).1
   have hcc:cs'[d+o]?=some (cs'[d+o]'(by omega)):=List.getElem?_eq_getElem _
   simp only [cond_false]
   rw [hcc]
   exact ⟨_,v,rfl,w2,.d (h4 o v _ w1 hcc),.d (r4 o v _ w1 hcc)⟩
 ·rename_i hpt _
  cases hpt
 ·exact hw.elim
theorem BM {a:AV} {i:Nat} {u:Value} (ha:AR ρ g O a u) (hb:AR ρ2 g2 O2 a u) {K:AV→List AB→Prop} (hw:kD a i hp K):I8 (fM u i) (K · hp) (AR ρ g O) (AR ρ2 g2 O2):=by
 unfold kD at hw
 split at hw
 ·obtain ⟨v,h1,h2⟩:=hw
  obtain ⟨us,rfl,h3⟩:=ha.wA
  obtain ⟨us2,hu,h3'⟩:=hb.wA
  cases hu
  obtain ⟨x,h4,h5⟩:=h3.get h1
  unfold fM
  simp only [h4,Option.map_some]
  exact ⟨_,_,rfl,h2,h5,h3'.2 i v x h1 h4⟩
 ·exact hw.elim
theorem HS {a:AV} {u:Value} (ha:AR ρ g O a u) (hb:AR ρ2 g2 O2 a u) {K:AV→List AB→Prop} (hw:si a hp K):I8 (iU u) (K · hp) (AR ρ g O) (AR ρ2 g2 O2):=by
 unfold si at hw
 split at hw
 ·obtain ⟨k,d,cs',own,e,rfl,_⟩:=ha.cD.cD
  exact ⟨_,_,rfl,hw,ha,hb⟩
 ·obtain ⟨k,hk,rfl⟩:=ha.dy
  exact ⟨_,_,rfl,hw,ha,hb⟩
 ·exact hw.elim
def DP (o:Op) (fr:Nat→AV):Option (List Operand) :=
 match o with
 | .move x=>some [x]
 | .assign x=>some [x]
 | .fieldAddr _ a _=>some [a]
 | .indexAddr _ a _=>some [a]
 | .extract x _=>some [x]
 | .nilCheck x=>some [x]
 | .load _ a=>match aS fr a with
  | .pt ..=>some [a]
  | _=>none
 | _=>none
theorem Gf {own:Bool} {o:Op} {fr:Nat→AV} {tm:Tr Value} (hf:nq ρ g O fr tm) {xs:List Operand} (hm:DP o fr=some xs) (hb:∀ x ∈ xs,AR ρ2 g2 O2 (aS fr x) (aL tm x)) (hc:∀ k b,g2 k=some b→¬ O2 k→g k=some b)
  {n:Nat} {K:AV→List AB→Prop} (hw:wpOp T own o fr hp K):I8 (jS T n o (aL tm) g) (K · hp) (AR ρ g O) (AR ρ2 g2 O2):=by
 have ev:=fun x=>gR hf x
 unfold DP at hm
 split at hm
 ·cases hm;exact ⟨_,_,rfl,hw,ev _,hb _ (by simp)⟩
 ·cases hm;exact ⟨_,_,rfl,hw,ev _,hb _ (by simp)⟩
 ·cases hm;exact ES (ev _) (hb _ (by simp)) hw
 ·cases hm;exact yd (ev _) (hb _ (by simp)) (ev _) hw
 ·cases hm;exact BM (ev _) (hb _ (by simp)) hw
 ·cases hm;exact HS (ev _) (hb _ (by simp)) hw
 ·split at hm
  ·rename_i t a _ cs oo hpt
   cases hm
   have e1:=ev a
   have e2:=hb a (by simp)
   rw [hpt] at e1 e2
   have hw:fV T t (aS fr a) hp K:=hw
   rw [hpt] at hw
   exact Ge e1 e2 hc hw
  ·cases hm
 ·cases hm
structure Acc where
 own:Option Nat
 b:Nat
 wr:Bool
structure jW where
 i:Nat
 acc:List Acc
 al:Bool
 call:Bool
def wL (v:AV) (b:Nat) (wr:Bool):Option (List Acc) :=
 match v with
 | .pt ..|.sl ..=>some [⟨none,b,wr⟩]
 | .ptr j _ _|.cS j _ _ _ _|.om j=>some [⟨some j,b,wr⟩]
 | .fl _|.ag _|.tp _|.fn ..=>some []
 | _=>none
def Gg (o:Op) (fr:Nat→AV) (br:Operand→Nat):Option (List Acc) :=
 match o with
 | .load _ a=>wL (aS fr a) (br a) false
 | .store _ a _=>wL (aS fr a) (br a) true
 | .call ⟨.builtin .append,args,_⟩=>match args.toList with
  | [s,x]=>match wL (aS fr x) (br x) false,wL (aS fr s) (br s) true with
   | some l,some m=>some (l++m)
   | _,_=>none
  | _=>none
 | .call ⟨.builtin .len,args,_⟩=>match args.toList with
  | [x]=>wL (aS fr x) (br x) false
  | _=>none
 | .lookup _ m _ _=>wL (aS fr m) (br m) false
 | .mapEntry _ m _=>wL (aS fr m) (br m) true
 | .entryStore _ m _ _=>wL (aS fr m) (br m) true
 | .range ..|.next ..|.entry ..|.mapUpdate ..=>none
 | .call ⟨.builtin .clear,_,_⟩=>none
 | .call ⟨.builtin .copy,_,_⟩=>none
 | _=>some []
def news? (o:Op):Bool :=
 match o with
 | .move _|.assign _|.pick ..|.load ..|.store ..|.fieldAddr ..|.indexAddr ..|.index ..|.field ..|.binOp ..|.unOp ..|.convert ..|.makeInterface ..|.typeAssert ..|.extract ..|.build ..|.makeFunc ..|.nilCheck ..|.slice ..|.lookup ..|.mapEntry ..|.entryStore ..=>false
 | .call ⟨.builtin .append,_,_⟩=>true
 | .call ⟨.builtin _,_,_⟩=>false
 | _=>true
theorem wM {o:Option Value} {v:Value} {e:bS} (h:cU o=some (v,e)):e.news=false:=by obtain ⟨_,_,rfl⟩:=qw h;rfl
theorem map_none {o:Option Value} {v:Value} {e:bS} (h:(o.map fun v=>(v,bS.none))=some (v,e)):e.news=false:=by
 simp only [Option.map_eq_some_iff] at h
 obtain ⟨_,_,q⟩:=h
 cases q;rfl
theorem iG {c:Bool} {o:Option Value} {v:Value} {e:bS} (h:(bif c then cU o else none)=some (v,e)):e.news=false:=by
 cases c with
 | true=>exact wM h
 | false=>cases h
theorem Gh {n:Nat} {o:Op} {r:Operand→Value} {v:Value} {e:bS} (h:jS T n o r g=some (v,e)) (hn:news? o=false):e.news=false:=by
 have bin:∀ {o:BinOp} {t:TypeId} {x y:Operand} {a b:Value},lT T.P o t x y a b=some (v,e)→e.news=false:=by
  intro o t x y a b h
  have slow:fG T.P o t x y a b=some (v,e)→e.news=false:=fun h=>by unfold fG at h;exact iG h
  unfold lT at h
  split at h
  ·split at h
   ·cases h;rfl
   ·exact slow h
  ·rw [cond_eq_ite] at h
   split at h
   ·unfold jR at h
    split at h
    ·cases h;rfl
    ·cases h;rfl
    ·cases h
   ·cases h
  ·rw [cond_eq_ite] at h
   split at h
   ·unfold jR at h
    split at h
    ·cases h;rfl
    ·cases h;rfl
    ·cases h
   ·cases h
  ·exact slow h
 cases o <;> first
  | (simp only [news?,Bool.true_eq_false] at hn;done)
  | skip
 case move x=>simp only [jS] at h;cases h;rfl
 case assign x=>simp only [jS] at h;cases h;rfl
 case build t parts =>
  simp only [jS] at h
  unfold qv at h
  split at h
  ·rename_i iP sz by' z bO cy _
   cases hz:z.cells.toList.all aP with
   | true =>
    rw [hz] at h
    simp only [cond_true,Option.map_eq_some_iff] at h
    obtain ⟨_,_,q⟩:=h
    cases q
    rfl
   | false=>rw [hz] at h;cases h
  ·cases h
 case pick c a b =>
  simp only [jS] at h
  unfold tL at h
  split at h
  ·cases h;rfl
  ·cases h
 case load t a =>
  simp only [jS] at h
  unfold iw at h
  split at h
  ·split at h
   ·rename_i cs own es iP s bytes zero agg bO cy _ _
    cases agg
    ·exact map_none h
    ·simp only [cond_true,Option.map_eq_some_iff] at h
     obtain ⟨_,_,q⟩:=h
     cases q;rfl
   ·cases h
  ·cases h
 case store t a x =>
  simp only [jS] at h
  unfold kI at h
  split at h
  ·split at h
   ·rename_i cs own es _ _ _ _ _ _ _ _ _
    revert h
    cases (own && Nat.beq (r x).cells.toList.length _ && _ && (r x).cells.toList.all aU) <;> intro h
    ·cases h
    ·cases h;rfl
   ·cases h
  ·cases h
 case fieldAddr t a i =>
  simp only [jS] at h
  unfold dU at h
  split at h
  ·split at h
   ·rename_i off s _
    cases hb:Nat.ble 1 s <;> rw [hb] at h <;> cases h
    rfl
   ·cases h
  ·cases h
 case indexAddr t a ix =>
  simp only [jS] at h
  have idx:∀ {a b c:Nat} {j:Int},qa a b c n j=some (v,e)→e.news=false:=by
   intro a b c j h
   unfold qa at h
   cases hb:(Fw 0 j && Em j (.ofNat n)) <;> rw [hb] at h <;> cases h
   rfl
  have idx:∀ {a b c d:Nat} {j:Int},qa a b c d j=some (v,e)→e.news=false:=by
   intro a b c d j h
   unfold qa at h
   cases hb:(Fw 0 j && Em j (.ofNat d)) <;> rw [hb] at h <;> cases h
   rfl
  unfold dV at h
  split at h
  ·split at h
   ·exact idx h
   ·cases h
  ·split at h
   ·exact idx h
   ·cases h
  ·cases h
 case index t a ix =>
  simp only [jS] at h
  cases hb:(flat (r a) && flat (r ix)) <;> rw [hb] at h
  ·unfold mQ at h
   simp only [cond_false] at h
   split at h
   ·split at h
    ·rw [cond_eq_ite] at h
     split at h
     ·split at h
      ·cases h;rfl
      ·cases h
     ·cases h
    ·cases h
   ·cases h
  ·exact wM h
 case field t a i=>simp only [jS] at h;exact iG h
 case binOp o t x y p=>simp only [jS] at h;exact bin h
 case unOp o t x=>simp only [jS] at h;exact iG h
 case convert s d x=>simp only [jS] at h;exact iG h
 case makeInterface t x=>simp only [jS] at h;exact iG h
 case typeAssert x t d ok=>simp only [jS] at h;exact iG h
 case extract x i =>
  simp only [jS] at h
  unfold fM at h
  split at h
  ·exact map_none h
  ·cases h
 case lookup t m k ok=>simp only [jS] at h;exact map_none h
 case mapEntry t m k =>
  simp only [jS] at h
  unfold eF at h
  split at h
  ·split at h
   ·unfold l8 at h
    split at h
    ·split at h
     ·rename_i e _
      cases hb:Instr.sameBits 10000 e.key (r k) <;> rw [hb] at h <;> cases h
      rfl
     ·cases h
    ·rename_i z _ _
     cases hb:flat z <;> rw [hb] at h <;> cases h
     rfl
    ·cases h
   ·cases h
  ·cases h
 case entryStore t m s x =>
  simp only [jS,Option.map_eq_some_iff] at h
  obtain ⟨e',h1,h2⟩:=h
  cases h2
  unfold dc at h1
  split at h1
  ·split at h1
   ·split at h1
    ·cases h1;rfl
    ·cases h1
   ·cases h1
  ·cases h1
 case makeFunc f a b =>
  simp only [jS] at h
  unfold mc at h
  split at h
  ·cases h;rfl
  ·cases h
 case nilCheck x =>
  simp only [jS] at h
  unfold iU at h
  split at h
  ·cases h;rfl
  ·cases h
 case slice t x lo hi mx =>
  cases mx with
  | some _ =>
   cases hi with
   | none=>simp [jS] at h
   | some _ =>
    simp only [jS] at h
    exact map_none h
  | none =>
   simp only [jS] at h
   unfold fN at h
   split at h
   ·exact iG h
   ·exact map_none h
   ·exact map_none h
 case call c =>
  obtain ⟨ce,args,tys⟩:=c
  cases ce with
  | builtin b =>
   have h:iy T n b (args.toList.map r) tys.toList g=some (v,e):=h
   unfold iy at h
   cases b <;> first|(simp [news?] at hn;done)|skip
   all_goals first|(simp at h;done)|skip
   case clear =>
    simp only at h
    split at h
    ·unfold nZ at h
     split at h
     ·split at h
      ·cases h;rfl
      ·cases h
     ·split at h
      ·rw [cond_eq_ite] at h
       split at h
       ·cases h;rfl
       ·cases h
      ·cases h
     ·cases h
    ·cases h
   case copy =>
    simp only at h
    split at h
    ·unfold tK at h
     split at h
     ·split at h
      ·split at h
       ·rw [cond_eq_ite] at h
        split at h
        ·cases h;rfl
        ·cases h
       ·cases h
      ·cases h
     ·cases h
    ·cases h
   case len =>
    simp only at h
    split at h
    ·unfold kK at h
     repeat' split at h
     all_goals first|(simp only [Option.some.injEq,Prod.mk.injEq] at h;obtain ⟨_,rfl⟩:=h;rfl)|(simp at h;done)
    ·simp at h
   case min =>
    simp only at h
    unfold zq at h
    split at h
    ·simp only [Option.some.injEq,Prod.mk.injEq] at h;obtain ⟨_,rfl⟩:=h;rfl
    ·exact iG h
   case max =>
    simp only at h
    unfold zu at h
    split at h
    ·simp only [Option.some.injEq,Prod.mk.injEq] at h;obtain ⟨_,rfl⟩:=h;rfl
    ·exact iG h
  | _=>simp [jS,Az] at h
end
end Go.RM
namespace Go.RM
open Go
section
variable {T : bh} {tab : List XE} {one : Bool} {fl base : Nat} {E E' E2 : Env} {hp hp' hp2 : List AB} {av amb' : bw} {H H' H2 : Hp} {ρ ρ2 : Nat → Nat → Option Nat} {g g2 : az} {O O2 : Nat → Prop}
structure cx where
 E:Env
 hp:List AB
 H:Hp
abbrev cx.ar (z:cx):AV→Value→Prop:=AR z.E.ρ z.H.get (z.E.O z.hp)
structure oO (base:Nat) (av:bw) (tr:Nat→cx) (i:Nat):Prop where
 rel:∀ b,b≤i→aK (tr b).E base (tr b).hp av (tr b).H
 ext:∀ b c,b≤c→c≤i→Ext base (tr b).E (tr b).hp (tr b).H (tr c).E (tr c).hp (tr c).H
def snoc (tr:Nat→cx) (i:Nat) (z:cx):Nat→cx:=fun b=>if b≤i then tr b else z
theorem cO {tr:Nat→cx} {i:Nat} {z:cx} {b:Nat} (h:b≤i):snoc tr i z b=tr b:=if_pos h
theorem gL {tr:Nat→cx} {i:Nat} {z:cx} {b:Nat} (h:i < b):snoc tr i z b=z:=if_neg (by omega)
theorem oO.snoc {tr:Nat→cx} {i:Nat} {z:cx} (h:oO base av tr i) (hz:aK z.E base z.hp av z.H) (he:Ext base (tr i).E (tr i).hp (tr i).H z.E z.hp z.H):oO base av (snoc tr i z) (i+1):=by
 refine ⟨fun b hb=>?_,fun b c hbc hc=>?_⟩
 ·by_cases hbi:b≤i
  ·rw [cO hbi];exact h.rel b hbi
  ·rw [gL (by omega)];exact hz
 ·by_cases hci:c≤i
  ·rw [cO hci,cO (by omega)];exact h.ext b c hbc hci
  ·rw [gL (by omega:i < c)]
   by_cases hbi:b≤i
   ·rw [cO hbi];exact (h.ext b i hbi (Nat.le_refl _)).trans he
   ·rw [gL (by omega)];exact .refl
def cF (tr:Nat→cx) (i:Nat) (p:Acc) (k:Nat):Prop :=
 p.b≤i∧k < (tr p.b).H.n∧match p.own with
  | some j=>∃ ax,(tr i).E.ρ j ax=some k∧(p.wr=true→Own (tr i).E.ρ (tr i).hp k)
  | none=>¬ (tr p.b).E.O (tr p.b).hp k
structure HT (tr:Nat→cx) (x:jW) (t:Tc):Prop where
 idx:t.idx=x.i
 a:t.a=(tr x.i).H.n
 b:t.b=(tr (x.i+1)).H.n
 al:x.al=false→x.call=false→t.a=t.b
 call:t.call=x.call
 rd:∀ k ∈ t.rd,∃ p ∈ x.acc,p.wr=false∧cF tr x.i p k
 wr:∀ k ∈ t.wr,∃ p ∈ x.acc,p.wr=true∧cF tr x.i p k
theorem cF.snoc {tr:Nat→cx} {i i0:Nat} {z:cx} {p:Acc} {k:Nat} (h:cF tr i0 p k) (hi:i0≤i):cF (snoc tr i z) i0 p k:=by
 obtain ⟨h1,h2,h3⟩:=h
 refine ⟨h1,by rw [cO (by omega)];exact h2,?_⟩
 rw [cO hi,cO (by omega)]
 exact h3
theorem HT.snoc {tr:Nat→cx} {i:Nat} {z:cx} {x:jW} {t:Tc} (h:HT tr x t) (hi:x.i < i):HT (snoc tr i z) x t :=
 ⟨h.idx,by rw [cO (by omega)];exact h.a,by rw [cO (by omega)];exact h.b,h.al,h.call,
  fun k hk=>by obtain ⟨p,a,b,c⟩:=h.rd k hk;exact ⟨p,a,b,c.snoc (by omega)⟩,fun k hk=>by obtain ⟨p,a,b,c⟩:=h.wr k hk;exact ⟨p,a,b,c.snoc (by omega)⟩⟩
def pN (i:Nat) (p q:Acc):Bool :=
 (!p.wr && !q.wr) || (match p.own,q.own with
  | some j,some j'=>!Nat.beq j j'
  | some _,none=>p.wr && Nat.ble q.b i
  | none,some _=>!p.wr
  | none,none=>false)
def Ag (x y:jW):Bool :=
 x.acc.all (fun p=>y.acc.all (pN x.i p)) && ((!x.al && !x.call) || y.acc.all (fun q=>Nat.ble q.b x.i)) && (!x.call || y.acc.all (fun q=>!q.wr)) && (!y.call || x.acc.all (fun p=>!p.wr))
def pO (b:List Nat):List jW→Bool
 | []=>true
 | y :: l=>l.all (fun x=>(b.getD y.i 0).testBit x.i || Ag x y) && pO b l
theorem qJ {tr:Nat→cx} {n:Nat} (ht:oO base av tr n) {i l:Nat} (hil:i < l) (hl:l≤n) {p q:Acc} {k:Nat} (hp:cF tr i p k) (hq:cF tr l q k) (hw:p.wr=true∨q.wr=true) (hf:pN i p q=true):False:=by
 obtain ⟨p1,p2,p3⟩:=hp
 obtain ⟨q1,q2,q3⟩:=hq
 have eil:=ht.ext i l (by omega) hl
 have back:∀ {b c:Nat},b≤c→c≤n→Own (tr c).E.ρ (tr c).hp k→k < (tr b).H.n→Own (tr b).E.ρ (tr b).hp k:=fun hbc hcn ho hk=>((ht.ext _ _ hbc hcn).own k ho).elim id (fun h=>by omega)
 unfold pN at hf
 rw [Bool.or_eq_true] at hf
 rcases hf with hf|hf
 ·simp only [Bool.and_eq_true,Bool.not_eq_true'] at hf
  rcases hw with h|h
  ·rw [hf.1] at h;cases h
  ·rw [hf.2] at h;cases h
 ·cases hpo:p.own with
  | some j =>
   rw [hpo] at hf p3
   obtain ⟨ax,r1,r2⟩:=p3
   cases hqo:q.own with
   | some j' =>
    rw [hqo] at hf q3
    obtain ⟨ver',s1,s2⟩:=q3
    have:=(ht.rel l hl).inj j j' ax ver' k (eil.Bw _ _ _ r1) s1
    subst this
    simp only [nw,Bool.not_true] at hf
    cases hf
   | none =>
    rw [hqo] at hf q3
    simp only [Bool.and_eq_true] at hf
    have hb:=Nat.le_of_ble_eq_true hf.2
    exact q3 (.inl (back hb (by omega) (r2 hf.1) q2))
  | none =>
   rw [hpo] at hf p3
   cases hqo:q.own with
   | some j' =>
    rw [hqo] at hf q3
    simp only [Bool.not_eq_true'] at hf
    obtain ⟨ver',s1,s2⟩:=q3
    have hqw:q.wr=true:=by
     rcases hw with h|h
     ·rw [hf] at h;cases h
     ·exact h
    exact p3 (.inl (back (by omega) hl (s2 hqw) p2))
   | none=>rw [hqo] at hf;cases hf
theorem ET {tr:Nat→cx} {n:Nat} (ht:oO base av tr n) {x y:jW} {s t:Tc} (hs:HT tr x s) (hy:HT tr y t) (hxy:x.i < y.i) (hn:y.i≤n) (hf:Ag x y=true):conflict s t=false:=by
 cases hc:conflict s t with
 | false=>rfl
 | true =>
  exfalso
  unfold Ag at hf
  simp only [Bool.and_eq_true,List.all_eq_true,Bool.or_eq_true,Bool.not_eq_true'] at hf
  obtain ⟨⟨⟨f1,f2⟩,f3⟩,f4⟩:=hf
  have two:∀ {k:Nat} {p q:Acc},p ∈ x.acc→q ∈ y.acc→cF tr x.i p k→cF tr y.i q k→(p.wr=true∨q.wr=true)→False:=fun hp hq ap aq hw=>qJ ht hxy hn ap aq hw (f1 _ hp _ hq)
  have inn:∀ {k:Nat} {q:Acc},q ∈ y.acc→cF tr y.i q k→s.a≤k→k < s.b→False:=by
   intro k q hq aq h1 h2
   rcases f2 with h|h
   ·have:=hs.al h.1 h.2;omega
   ·have:=Nat.le_of_ble_eq_true (h q hq)
    have:=(ht.ext q.b x.i this (by omega)).n
    have:=aq.2.1
    rw [hs.a] at h1
    omega
  have out:∀ {k:Nat} {p:Acc},cF tr x.i p k→t.a≤k→False:=by
   intro k p ap h1
   have:=(ht.ext p.b x.i ap.1 (by omega)).n
   have:=(ht.ext x.i y.i (by omega) hn).n
   have:=ap.2.1
   rw [hy.a] at h1
   omega
  unfold conflict at hc
  simp only [Bool.or_eq_true,Bool.and_eq_true,Bool.not_eq_true'] at hc
  rcases hc with (((((((hc|hc)|hc)|hc)|hc)|hc)|hc)|hc)|hc
  ·obtain ⟨k,k1,k2⟩:=ej.1 hc
   obtain ⟨p,p1,p2,p3⟩:=hs.wr k k1
   obtain ⟨q,q1,q2,q3⟩:=hy.rd k k2
   exact two p1 q1 p3 q3 (.inl p2)
  ·obtain ⟨k,k1,k2⟩:=ej.1 hc
   obtain ⟨p,p1,p2,p3⟩:=hs.wr k k1
   obtain ⟨q,q1,q2,q3⟩:=hy.wr k k2
   exact two p1 q1 p3 q3 (.inl p2)
  ·obtain ⟨k,k1,k2⟩:=ej.1 hc
   obtain ⟨q,q1,q2,q3⟩:=hy.wr k k1
   obtain ⟨p,p1,p2,p3⟩:=hs.rd k k2
   exact two p1 q1 p3 q3 (.inr q2)
  ·rw [hs.call] at hc
   cases hw:t.wr with
   | nil=>rw [hw] at hc;simp at hc
   | cons k l =>
    obtain ⟨q,q1,q2,q3⟩:=hy.wr k (by rw [hw];simp)
    rcases f3 with h|h
    ·rw [hc.1] at h;cases h
    ·rw [h q q1] at q2;cases q2
  ·rw [hy.call] at hc
   cases hw:s.wr with
   | nil=>rw [hw] at hc;simp at hc
   | cons k l =>
    obtain ⟨p,p1,p2,p3⟩:=hs.wr k (by rw [hw];simp)
    rcases f4 with h|h
    ·rw [hc.1] at h;cases h
    ·rw [h p p1] at p2;cases p2
  ·obtain ⟨k,k1,k2,k3⟩:=within_iff.1 hc
   obtain ⟨q,q1,q2,q3⟩:=hy.rd k k1
   exact inn q1 q3 k2 k3
  ·obtain ⟨k,k1,k2,k3⟩:=within_iff.1 hc
   obtain ⟨q,q1,q2,q3⟩:=hy.wr k k1
   exact inn q1 q3 k2 k3
  ·obtain ⟨k,k1,k2,k3⟩:=within_iff.1 hc
   obtain ⟨p,p1,p2,p3⟩:=hs.rd k k1
   exact out p3 k2
  ·obtain ⟨k,k1,k2,k3⟩:=within_iff.1 hc
   obtain ⟨p,p1,p2,p3⟩:=hs.wr k k1
   exact out p3 k2
inductive uR (tr:Nat→cx):Nat→List jW→List Ev→Prop
 | nil:uR tr 0 [] []
 | cons {i:Nat} {x:jW} {ev:Ev} {l:List jW} {m:List Ev}:uR tr i l m→x.i=i→HT tr x ev.t→uR tr (i+1) (x :: l) (ev :: m)
theorem uR.lt {tr:Nat→cx} {i:Nat} {l:List jW} {m:List Ev} (h:uR tr i l m):∀ x ∈ l,x.i < i:=by
 induction h with
 | nil=>intro x hx;cases hx
 | cons _ hi _ ih =>
  intro y hy
  rcases List.mem_cons.1 hy with rfl|hy
  ·omega
  ·have:=ih y hy;omega
theorem uR.snoc {tr:Nat→cx} {i:Nat} {z:cx} {l:List jW} {m:List Ev}:∀ {j:Nat},uR tr j l m→j≤i→uR (snoc tr i z) j l m:=by
 intro j h
 induction h with
 | nil=>intro _;exact .nil
 | cons _ hi he ih=>intro hj;exact .cons (ih (by omega)) hi (he.snoc (by omega))
theorem uR.pairs {tr:Nat→cx} {n:Nat} (ht:oO base av tr n) {b:List Nat} {i:Nat} {l:List jW} {m:List Ev} (h:uR tr i l m):i≤n→pO b l=true→cW T b m=true:=by
 induction h with
 | nil=>intro _ _;rfl
 | cons hl hi he ih =>
  rename_i i y ev l m
  intro hn hc
  simp only [pO,Bool.and_eq_true,List.all_eq_true] at hc
  simp only [cW,Bool.and_eq_true,List.all_eq_true]
  refine ⟨?_,ih (by omega) hc.2⟩
  have hc1:=hc.1
  clear ih hc
  have key:∀ {j:Nat} {l:List jW} {m:List Ev},uR tr j l m→(∀ x ∈ l,(b.getD y.i 0).testBit x.i=true∨Ag x y=true)→j≤y.i→∀ s ∈ m,(!conflict s.t ev.t || (b.getD ev.t.idx 0).testBit s.t.idx || spare T s ev)=true:=by
   intro j l m h
   induction h with
   | nil=>intro _ _ s hs;cases hs
   | cons hl' hi' he' ih' =>
    rename_i x ev' _ _
    intro hx hj s hs
    rcases List.mem_cons.1 hs with rfl|hs
    ·rcases hx x (by simp) with h|h
     ·rw [he.idx,he'.idx,h];simp
     ·rw [ET ht he' he (by omega) (by omega) h];simp
    ·exact ih' (fun z hz=>hx z (List.mem_cons_of_mem _ hz)) (by omega) s hs
  exact key hl (fun x hx=>by simpa using hc1 x hx) (by omega)
def nU (dst:Option Tmp) (bt:Nat→Nat) (b:Nat):Nat→Nat :=
 match dst with
 | some d=>fun t=>bif Nat.beq t d then b else bt t
 | none=>bt
def EU (bt:Nat→Nat):Operand→Nat
 | .tmp t=>bt t
 | _=>0
def yP (o:Op) (fr:Nat→AV) (bt:Nat→Nat) (i:Nat):Nat :=
 match DP o fr with
 | some [x]=>EU bt x
 | _=>i+1
def iM (v:AV):Prop:=v.deep=true∧∀ (g:az) (O O':Nat→Prop) (u:Value),DR g O v u→DR g O' v u
def Handed (hp:List AB) (as vs:List AV) (v:AV):Prop:=(vs=as∧de as=true)∨(Af hp as vs∧iM v)
def je (T:bh) (tab:List XE) (mu:Tmp→Bool) (dst:Option Tmp) (op:Op) (i:Nat) (bt:Nat→Nat) (fr:Nat→AV) (hp:List AB) (K:(Nat→AV)→List AB→(Nat→Nat)→jW→Prop):Prop :=
 match cv op with
 | .call f args=>force (K4 T.P fr f) fun F=>eT (args.map (aS fr)) fun as=>F.deep=true∧∃ vs v,Handed hp as vs v∧af T tab true F vs v∧gv dst fr v fun fr'=>K fr' hp (nU dst bt (i+1)) ⟨i,[],true,true⟩
 | .next _=>False
 | .plain=>∃ a,Gg op fr (EU bt)=some a∧wpOp T (EO mu dst) op fr hp fun v hp'=>force v fun v=>gv dst fr v fun fr'=>K fr' hp' (nU dst bt (yP op fr bt i)) ⟨i,a,news? op,false⟩
def jg (T:bh) (tab:List XE) (mu:Tmp→Bool) (ops:Array Oper):List Oper→Nat→(Nat→Nat)→List jW→aR→(aR→Prop)→Prop
 | [],_,_,acc,st,K=>pO (qV ops) acc=true∧K st
 | ⟨dst,op,_,_,_,gd⟩ :: l,i,bt,acc,⟨fr,hp,av,rd,fl⟩,K =>
  cY ops.toList gd fr (je T tab mu dst op i bt fr hp fun fr' hp' bt' x=>jg T tab mu ops l (i+1) bt' (x :: acc) ⟨fr',hp',av,rd,fl⟩ K)
   (gv dst fr (.tp []) fun fr'=>jg T tab mu ops l (i+1) (nU dst bt 0) (⟨i,[],false,false⟩ :: acc) ⟨fr',hp,av,rd,fl⟩ K)
def js (tr:Nat→cx) (i:Nat) (bt:Nat→Nat) (fr:Nat→AV) (tm:Tr Value):Prop:=∀ t,bt t≤i∧(tr (bt t)).ar (fr t) ((tm.get t).getD undef)
theorem js.put {tr:Nat→cx} {i:Nat} {bt:Nat→Nat} {fr:Nat→AV} {tm:Tr Value} {z:cx} (h:js tr i bt fr tm) {b:Nat} {v:AV} {u:Value} (hb:b≤i+1) (hv:(snoc tr i z b).ar v u) (d:Option Tmp):js (snoc tr i z) (i+1) (nU d bt b) (tf fr d v) (cP tm d u):=by
 intro t
 have old:bt t≤i+1∧(snoc tr i z (bt t)).ar (fr t) ((tm.get t).getD undef):=⟨by have:=(h t).1;omega,by rw [cO (h t).1];exact (h t).2⟩
 cases d with
 | none=>exact old
 | some d =>
  show (bif Nat.beq t d then b else bt t)≤_∧(snoc tr i z (bif Nat.beq t d then b else bt t)).ar (bif Nat.beq t d then v else fr t) (((tm.set d u).get t).getD undef)
  rw [Tr.gn,Tr.beq_eq]
  by_cases htd:t=d
  ·rw [if_pos htd,decide_eq_true htd];exact ⟨hb,hv⟩
  ·rw [if_neg htd,decide_eq_false htd];exact old
theorem js.eval {tr:Nat→cx} {i:Nat} {bt:Nat→Nat} {fr:Nat→AV} {tm:Tr Value} (h:js tr i bt fr tm) (x:Operand):EU bt x≤i∧(tr (EU bt x)).ar (aS fr x) (aL tm x):=by
 cases x with
 | tmp t=>exact h t
 | const v =>
  refine ⟨Nat.zero_le _,?_⟩
  show (tr 0).ar (bif flat v then rZ v else .bL) v
  cases hf:flat v with
  | true=>exact lI hf
  | false=>exact .bL
 | func f=>exact ⟨Nat.zero_le _,.fn rfl rfl (fun i x u hx=>by cases hx) (fun i x u hx=>by cases hx)⟩
 | global g=>exact ⟨Nat.zero_le _,.bL⟩
theorem sv {tr:Nat→cx} {i:Nat} (ht:oO base av tr i) {v:AV} {u:Value} {b:Nat} {wr:Bool} {l:List Acc} (h:wL v b wr=some l) (hb:b≤i) (hv:(tr b).ar v u) (hi:(tr i).ar v u)
  (hw:wr=true→∀ j ax o,(v=.ptr j ax o∨∃ n c,v=.cS j ax o n c)→∃ cs es,(tr i).hp[j]?=some (.cells cs es ax)) (hom:wr=true→∀ j,v=.om j→∃ b,(tr i).hp[j]?=some b∧b.ver?=some 0) :
  ∀ k ∈ ct u,∃ p ∈ l,p.wr=wr∧cF tr i p k:=by
 have deepk:∀ {k:Nat} {x:aV},(tr b).H.get k=some x→¬ (tr b).E.O (tr b).hp k→cF tr i ⟨none,b,wr⟩ k:=fun h1 h2=>⟨hb,(ht.rel b hb).wf.lt h1,h2⟩
 have ownk:∀ {j ax k:Nat},(tr b).E.ρ j ax=some k→(wr=true→∃ b,(tr i).hp[j]?=some b∧b.ver?=some ax)→cF tr i ⟨some j,b,wr⟩ k:=by
  intro j ax k h1 h2
  have h3:=(ht.ext b i hb (Nat.le_refl _)).Bw _ _ _ h1
  refine ⟨hb,(ht.rel b hb).rn _ _ _ h1,ax,h3,fun hwr=>?_⟩
  obtain ⟨x,hc,hx⟩:=h2 hwr
  exact ⟨j,x,ax,hc,hx,h3⟩
 intro k hk
 unfold wL at h
 split at h
 ·cases h
  obtain ⟨k',d,cs,own,e,rfl,q1,q2,_⟩:=hv.cD.cD
  obtain rfl:k=k':=by simpa [ct] using hk
  exact ⟨_,by simp,rfl,deepk q1 q2⟩
 ·cases h
  cases hv.jN with
  | nil=>simp [ct] at hk
  | sl q1 q2 =>
   rename_i k' o' n' c' es' cs' own' e' _ _ _ _ _
   obtain rfl:k=k':=by simpa [ct] using hk
   exact ⟨_,by simp,rfl,deepk q1 q2⟩
 ·rename_i j ax o
  cases h
  obtain ⟨k',hk',rfl⟩:=hv.dy
  obtain rfl:k=k':=by simpa [ct] using hk
  exact ⟨_,by simp,rfl,ownk hk' fun hwr=>(let ⟨_,_,h⟩:=hw hwr j ax o (.inl rfl);⟨_,h,rfl⟩)⟩
 ·rename_i j ax o n c
  cases h
  rcases hv.eE with ⟨k',hk',rfl⟩|⟨_,_,rfl⟩
  ·obtain rfl:k=k':=by simpa [ct] using hk
   exact ⟨_,by simp,rfl,ownk hk' fun hwr=>(let ⟨_,_,h⟩:=hw hwr j ax o (.inr ⟨n,c,rfl⟩);⟨_,h,rfl⟩)⟩
  ·simp [ct] at hk
 ·rename_i j
  cases h
  obtain ⟨k',hk',rfl⟩:=hv.oL
  obtain rfl:k=k':=by simpa [ct] using hk
  exact ⟨_,by simp,rfl,ownk hk' fun hwr=>hom hwr j rfl⟩
 ·exfalso
  obtain ⟨rfl,hf⟩:=hv.eR
  revert hk
  unfold ct
  split
  ·simp [aP] at hf
  ·simp [aP] at hf
  ·simp [aP] at hf
  ·simp
 ·exfalso
  cases hv with
  | d h=>cases h with
   | ag=>simp [ct] at hk
  | ag=>simp [ct] at hk
 ·exfalso
  obtain ⟨us,rfl,_⟩:=hv.wA
  simp [ct] at hk
 ·exfalso
  cases hv with
  | d h=>cases h with
   | fn=>simp [ct] at hk
  | fn=>simp [ct] at hk
 ·cases h
theorem EV {e:bS} (h:e.news=false):(H.app e).n=H.n:=by cases e <;> first|rfl|cases h
theorem C4 {t:TypeId} {a x:AV} {K:AV→List AB→Prop} (hw:dN T t a x hp K) {j ax o:Nat} (h:a=.ptr j ax o∨∃ n c,a=.cS j ax o n c):∃ cs es,hp[j]?=some (.cells cs es ax):=by
 unfold dN at hw
 split at hw
 ·obtain ⟨cs,es,h1,_⟩:=hw
  rcases h with h|⟨n,c,h⟩
  ·cases h;exact ⟨cs,es,h1⟩
  ·cases h
 ·exact hw.elim
theorem Gi {own:Bool} {t:TypeId} {a x:AV} {K:AV→List AB→Prop} (hw:oN T own t a x hp K) {j ax o:Nat} (h:a=.ptr j ax o∨∃ n c,a=.cS j ax o n c):∃ cs es,hp[j]?=some (.cells cs es ax):=by
 unfold oN at hw
 split at hw
 ·obtain ⟨_,els,_,_,hw⟩:=hw
  split at hw
  ·rcases h with h|⟨n,c,h⟩ <;> cases h
  ·rcases h with h|⟨n,c,h⟩ <;> cases h
  ·rcases hw with ⟨_,cs,h1,_⟩|⟨cs,es,h1,_⟩
   ·rcases h with h|⟨n,c,h⟩
    ·cases h
    ·cases h;exact ⟨cs,_,h1⟩
   ·rcases h with h|⟨n,c,h⟩
    ·cases h
    ·cases h;exact ⟨cs,_,h1⟩
  ·exact hw.elim
 ·exact hw.elim
theorem Gj {t:TypeId} {a x:AV} {K:AV→List AB→Prop} (hw:dN T t a x hp K) (j:Nat):a ≠ .om j:=fun h=>by
 subst h
 unfold dN at hw
 exact hw.elim
theorem Jz {own:Bool} {t:TypeId} {a x:AV} {K:AV→List AB→Prop} (hw:oN T own t a x hp K) (j:Nat):a ≠ .om j:=fun h=>by
 subst h
 unfold oN at hw
 split at hw
 ·obtain ⟨_,els,_,_,hw⟩:=hw
  exact hw.elim
 ·exact hw.elim
theorem C5 {t:TypeId} {m k:AV} {K:AV→List AB→Prop} (hw:gS T t m k hp K) {j:Nat} (h:m=.om j):∃ b,hp[j]?=some b∧b.ver?=some 0:=by
 subst h
 obtain ⟨ents,clock,_,_,_,_,_,h1,_⟩:=hw
 exact ⟨_,h1,rfl⟩
theorem EW {t:TypeId} {m k:AV} {K:AV→List AB→Prop} (hw:gS T t m k hp K) {j ax o:Nat} (h:m=.ptr j ax o∨∃ n c,m=.cS j ax o n c):False:=by
 rcases h with rfl|⟨n,c,rfl⟩ <;> exact hw
theorem BN {m s v:AV} {K:AV→List AB→Prop} (hw:fk m s v hp K) {j:Nat} (h:m=.om j):∃ b,hp[j]?=some b∧b.ver?=some 0:=by
 subst h
 obtain ⟨ents,clock,_,_,_,h1,_⟩:=hw
 exact ⟨_,h1,rfl⟩
theorem C6 {m s v:AV} {K:AV→List AB→Prop} (hw:fk m s v hp K) {j ax o:Nat} (h:m=.ptr j ax o∨∃ n c,m=.cS j ax o n c):False:=by
 rcases h with rfl|⟨n,c,rfl⟩ <;> exact hw
theorem HU {tr:Nat→cx} {i:Nat} (ht:oO base av tr i) {bt:Nat→Nat} {fr:Nat→AV} {tm:Tr Value} (hb:js tr i bt fr tm) {own:Bool} {o:Op} {l:List Acc} (h:Gg o fr (EU bt)=some l)
  {K:AV→List AB→Prop} (hw:wpOp T own o fr (tr i).hp K):∃ r w,qe o (aL tm)=some (r,w)∧(∀ k ∈ r,∃ p ∈ l,p.wr=false∧cF tr i p k)∧(∀ k ∈ w,∃ p ∈ l,p.wr=true∧cF tr i p k):=by
 have now:∀ x,(tr i).ar (aS fr x) (aL tm x):=fun x=>(ht.ext _ i (hb.eval x).1 (Nat.le_refl _)).ar (ht.rel _ (hb.eval x).1).wf (hb.eval x).2
 have rd:∀ {x:Operand} {l:List Acc},wL (aS fr x) (EU bt x) false=some l→∀ k ∈ ct (aL tm x),∃ p ∈ l,p.wr=false∧cF tr i p k :=
  fun {x l} h=>sv ht h (hb.eval x).1 (hb.eval x).2 (now x) (fun h=>Bool.noConfusion h) (fun h=>Bool.noConfusion h)
 have nil:∀ (Q:Nat→Prop),∀ k ∈ ([]:List Nat),Q k:=fun Q k hk=>by cases hk
 unfold Gg at h
 split at h
 ·exact ⟨_,_,rfl,rd h,nil _⟩
 ·rename_i t a x
  exact ⟨_,_,rfl,nil _,sv ht h (hb.eval a).1 (hb.eval a).2 (now a) (fun _ j ax o hj=>C4 (show dN T t (aS fr a) (aS fr x) (tr i).hp K from dH (K:=fun v=>dN T t (aS fr a) v (tr i).hp K) hw) hj) (fun _ j he=>absurd he (Gj (show dN T t (aS fr a) (aS fr x) (tr i).hp K from dH (K:=fun v=>dN T t (aS fr a) v (tr i).hp K) hw) j))⟩
 ·rename_i args tys
  split at h
  ·rename_i s x hargs
   split at h
   ·rename_i l1 l2 h1 h2
    cases h
    have hw:mE T own .append (args.toList.map (aS fr)) tys.toList (tr i).hp K:=ic hw
    rw [hargs] at hw
    have happ:∃ t,oN T own t (aS fr s) (aS fr x) (tr i).hp K:=by
     unfold mE at hw
     simp only [List.map_cons,List.map_nil] at hw
     split at hw
     ·rename_i s' x' t u hsx _
      cases hsx
      split at hw
      ·exact ⟨_,hw⟩
      ·exact hw.elim
     ·exact hw.elim
    obtain ⟨t,happ⟩:=happ
    refine ⟨ct (aL tm x),ct (aL tm s),by simp [qe,hargs],fun k hk=>?_,fun k hk=>?_⟩
    ·obtain ⟨p,a,b⟩:=rd h1 k hk
     exact ⟨p,List.mem_append_left _ a,b⟩
    ·obtain ⟨p,a,b⟩:=sv ht h2 (hb.eval s).1 (hb.eval s).2 (now s) (fun _ j ax o hj=>Gi happ hj) (fun _ j he=>absurd he (Jz happ j)) k hk
     exact ⟨p,List.mem_append_right _ a,b⟩
   ·cases h
  ·cases h
 ·rename_i args tys
  split at h
  ·rename_i x hargs
   exact ⟨ct (aL tm x),[],by simp [qe,hargs],rd h,nil _⟩
  ·cases h
 ·exact ⟨_,_,rfl,rd h,nil _⟩
 ·rename_i t m k
  exact ⟨_,_,rfl,nil _,sv ht h (hb.eval m).1 (hb.eval m).2 (now m) (fun _ j ax o hj=>(EW (show gS T t (aS fr m) (aS fr k) (tr i).hp K from hw) hj).elim) (fun _ j hj=>C5 (show gS T t (aS fr m) (aS fr k) (tr i).hp K from hw) hj)⟩
 ·rename_i t m a x
  exact ⟨_,_,rfl,nil _,sv ht h (hb.eval m).1 (hb.eval m).2 (now m) (fun _ j ax o hj=>(C6 (show fk (aS fr m) (aS fr a) (aS fr x) (tr i).hp K from hw) hj).elim) (fun _ j hj=>BN (show fk (aS fr m) (aS fr a) (aS fr x) (tr i).hp K from hw) hj)⟩
 ·cases h
 ·cases h
 ·cases h
 ·cases h
 ·cases h
 ·cases h
 ·rename_i n1 n2 n3 n4 n5 n6 n7 n8 n9 n10 n11 n12 n13
  cases h
  refine ⟨[],[],?_,nil _,nil _⟩
  unfold qe
  split <;> first
   | rfl
   | exact absurd rfl (n1 _ _)|exact absurd rfl (n2 _ _ _)|exact absurd rfl (n3 _ _)|exact absurd rfl (n4 _ _)
   | exact absurd rfl (n5 _ _ _ _)|exact absurd rfl (n6 _ _ _)|exact absurd rfl (n7 _ _ _ _)|exact absurd rfl (n8 _ _)|exact absurd rfl (n9 _ _)|exact absurd rfl (n10 _)|exact absurd rfl (n11 _ _ _ _)|exact absurd rfl (n12 _ _)|exact absurd rfl (n13 _ _)
theorem aK.grow (hr:aK E base hp av H) (hn:H.n≤H'.n) (hwf:Wf H') (hsame:∀ k,k < H.n→H'.get k=H.get k) (hlo:min H.lo base≤H'.lo):aK E base hp av H'∧Ext base E hp H E hp H':=by
 have e:Ext base E hp H E hp H':=⟨hn,rfl,rfl,rfl,fun _ _ _ h=>h,fun _ h=>.inl h,fun k hk _=>hsame k hk,hlo⟩
 refine ⟨⟨hwf,fun j x ax hj hvx=>?_,hr.inj,fun j v k hk=>Nat.lt_of_lt_of_le (hr.rn j v k hk) hn,hr.fresh,hr.new,hr.sup,hr.iL,hr.dx,hr.ds,fun k hk=>Nat.lt_of_lt_of_le (hr.sn k hk) hn,fun k hk=>Nat.lt_of_lt_of_le (hr.xn k hk) hn,hr.qp,Nat.le_trans hr.bn hn,av.st hr.av (fun k hk=>hsame k (hr.sn k hk)) hn⟩,e⟩
 rcases hr.gC j x ax hj hvx with ⟨k,b',q1,q2,q3⟩|q
 ·exact .inl ⟨k,b',q1,by rw [hsame k (hr.wf.lt q2)];exact q2,e.br hr.wf q3⟩
 ·exact .inr q
theorem kq {mu:Tmp→Bool} {ops:Array Oper}:∀ {l:List Oper} {i:Nat} {bt:Nat→Nat} {acc:List jW} {evs:List Ev} {st:aR} {K:aR→Prop} {tr:Nat→cx} {s:St},jg T tab mu ops l i bt acc st K →
  oO base st.av tr i→(tr i).hp=st.hp→(tr i).H=s.hp→s.rd=st.rd→js tr i bt st.fr s.fr→uR tr i acc evs →
  ∃ m s',ck T (RX T tab m) ops l i s evs=some [s']∧∃ E' st',K st'∧st'.fl=st.fl∧jD E' base st' s'∧Ext base (tr 0).E (tr 0).hp (tr 0).H E' st'.hp s'.hp
 | [],i,bt,acc,evs,st,K,tr,s,h,ht,h1,h2,h3,hb,he=>by
  obtain ⟨hc,hk⟩:=h
  have hrel:=ht.rel i (Nat.le_refl _)
  have hok:e8 T ops evs=true:=by
   unfold e8
   cases hq:(evs.all fun e=>e.t.wr.isEmpty && Nat.beq e.t.a e.t.b) with
   | true=>rfl
   | false=>exact he.pairs ht (Nat.le_refl _) hc
  refine ⟨0,s,by rw [gp,hok];rfl,(tr i).E,st,hk,rfl,⟨by rw [←h1,←h2];exact hrel,h3,fun t=>?_⟩,by rw [←h1,←h2];exact ht.ext 0 i (Nat.zero_le _) (Nat.le_refl _)⟩
  have:=(ht.ext _ i (hb t).1 (Nat.le_refl _)).ar (ht.rel _ (hb t).1).wf (hb t).2
  rw [←h1,←h2]
  exact this
 | o :: l,i,bt,acc,evs,st,K,tr,s,h,ht,h1,h2,h3,hb,he=>by
  have h:cY ops.toList o.guard st.fr (je T tab mu o.dst o.op i bt st.fr st.hp fun fr' hp' bt' x=>jg T tab mu ops l (i+1) bt' (x :: acc) ⟨fr',hp',st.av,st.rd,st.fl⟩ K)
   (gv o.dst st.fr (.tp []) fun fr'=>jg T tab mu ops l (i+1) (nU o.dst bt 0) (⟨i,[],false,false⟩ :: acc) ⟨fr',st.hp,st.av,st.rd,st.fl⟩ K):=h
  have hrel:=ht.rel i (Nat.le_refl _)
  have hfr:nq (tr i).E.ρ (tr i).H.get ((tr i).E.O (tr i).hp) st.fr s.fr:=fun t=>(ht.ext _ i (hb t).1 (Nat.le_refl _)).ar (ht.rel _ (hb t).1).wf (hb t).2
  have hz0:(snoc tr i (tr i) 0)=tr 0:=cO (Nat.zero_le _)
  rcases wI hfr h with ⟨hg,h⟩|⟨hg,h⟩
  ·
   have go:∀ (z:cx) (v:AV) (u:Value) (b:Nat) (x:jW) (t:Tc) (m0:Nat),aK z.E base z.hp st.av z.H→Ext base (tr i).E (tr i).hp (tr i).H z.E z.hp z.H→b≤i+1→(snoc tr i z b).ar v u→x.i=i→HT (snoc tr i z) x t →
     (∀ m,m0≤m→bV T (RX T tab m) o.op i s=some (u,z.H,t))→jg T tab mu ops l (i+1) (nU o.dst bt b) (x :: acc) ⟨tf st.fr o.dst v,z.hp,st.av,st.rd,st.fl⟩ K →
     ∃ m s',ck T (RX T tab m) ops (o :: l) i s evs=some [s']∧∃ E' st',K st'∧st'.fl=st.fl∧jD E' base st' s'∧Ext base (tr 0).E (tr 0).hp (tr 0).H E' st'.hp s'.hp:=by
    intro z v u b x t m0 hz he' hbi hv hxi hx hd hw
    obtain ⟨m,s',r1,r2⟩:=kq (s:=⟨cP s.fr o.dst u,z.H,s.rd⟩) (evs:=⟨o,s,u,z.H,t⟩ :: evs) hw (ht.snoc hz he') (by rw [gL (Nat.lt_succ_self _)]) (by rw [gL (Nat.lt_succ_self _)]) h3 (hb.put hbi hv o.dst) (.cons (he.snoc (Nat.le_refl _)) hxi hx)
    rw [cO (Nat.zero_le _)] at r2
    refine ⟨max m0 m,s',?_,r2⟩
    rw [cG,hg]
    simp only [cond_true,hd _ (Nat.le_max_left _ _)]
    exact hJ (dR (Nat.le_max_right _ _)) _ _ _ _ _ _ r1
   unfold je at h
   split at h
   ·rename_i f args hk
    have h:=ic (dH h)
    obtain ⟨hF,vs,v,hhand,⟨hvd,hpure⟩,h⟩:=h
    have hF':=(Gc hfr f).deep hF
    have hget:({s.hp with lo:=s.hp.n}:Hp).get=(tr i).H.get:=by rw [h2];rfl
    obtain ⟨goal,hgo,m0,L,q1,q2,q3⟩:∃ goal,bQ (me T.P s.fr f) (args.map (aL s.fr))=some goal ∧
      ∃ m L,RX T tab m (jT {s.hp with lo:=s.hp.n} goal)=some L∧(true=true→∃ r,L=[r])∧∀ r ∈ L,∃ w H',r=.ret w H' ∧
       ({s.hp with lo:=s.hp.n}:Hp).n≤H'.n∧Wf H'∧(∀ k,k < ({s.hp with lo:=s.hp.n}:Hp).n→H'.get k=({s.hp with lo:=s.hp.n}:Hp).get k)∧min ({s.hp with lo:=s.hp.n}:Hp).lo ({s.hp with lo:=s.hp.n}:Hp).n≤H'.lo∧DR H'.get ((tr i).E.O (tr i).hp) v w:=by
     rcases hhand with ⟨rfl,hA⟩|⟨hz,hfree⟩
     ·have hA':=(iF hfr args).deep hA
      exact hpure ((tr i).E.O (tr i).hp) {s.hp with lo:=s.hp.n} _ _ (by rw [h2] at hrel;exact hrel.wf) (fun k hk=>by
       have:k < (tr i).H.n:=hk.elim (fun h=>hrel.mC h) (hrel.xn k)
       rw [h2] at this;exact this) (by rw [hget];exact hF') (by rw [hget];exact hA')
     ·obtain ⟨goal,hgo,m0,L,q1,q2,q3⟩:=hpure (tr i).E.X {s.hp with lo:=s.hp.n} _ _ (by rw [h2] at hrel;exact hrel.wf) (fun k hk=>by
       have:k < (tr i).H.n:=hrel.xn k hk
       rw [h2] at this;exact this) (by rw [hget];exact hF'.mono fun k b hk ho=>⟨hk,fun hx=>ho (.inr hx)⟩) (by
        rw [hget]
        rw [←h1] at hz
        exact hz.dr hrel (fun _ h=>h) (iF hfr args))
      refine ⟨goal,hgo,m0,L,q1,q2,fun r hm=>?_⟩
      obtain ⟨w,H',e1,e2,e3,e4,e5,e6⟩:=q3 r hm
      exact ⟨w,H',e1,e2,e3,e4,e5,hfree.2 _ _ _ _ e6⟩
    obtain ⟨r,hr⟩:=q2 rfl
    subst hr
    obtain ⟨w,H',rfl,hn,hwf,hsame,hlo,hdr⟩:=q3 r (by simp)
    obtain ⟨g1,g2⟩:=hrel.grow (H':={H' with lo:=s.hp.lo}) (by rw [h2];exact hn) hwf (fun k hk=>by
     have:=hsame k (by rw [←h2];exact hk)
     rw [h2];exact this) (by rw [h2];exact Nat.min_le_left _ _)
    refine go ⟨(tr i).E,st.hp,{H' with lo:=s.hp.lo}⟩ v w (i+1) ⟨i,[],true,true⟩ ⟨i,[],[],true,s.hp.n,H'.n⟩ m0 (by rw [←h1];exact g1) (by rw [←h1];exact g2) (Nat.le_refl _) ?_ rfl ?_ (fun m hm=>?_) (gJ h)
    ·rw [gL (Nat.lt_succ_self _)]
     refine .d ?_
     show DR H'.get ((tr i).E.O st.hp) v w
     rw [←h1];exact hdr
    ·refine ⟨rfl,by rw [cO (Nat.le_refl _),h2],by rw [gL (Nat.lt_succ_self _)],fun h=>Bool.noConfusion h,rfl,fun k hk=>(by cases hk),fun k hk=>(by cases hk)⟩
    ·unfold bV
     simp only [hk,hgo,dR hm _ _ q1]
     have:Nat.ble s.hp.n H'.lo=true:=Nat.ble_eq_true_of_le (by
      have:min s.hp.n s.hp.n≤H'.lo:=hlo
      omega)
     rw [Ey this]
   ·exact h.elim
   ·rename_i hk
    obtain ⟨a,hacc,hw⟩:=h
    have hw':=hw
    rw [←h1] at hw'
    obtain ⟨r,w,ht1,ht2,ht3⟩:=HU ht hb hacc hw'
    have evr:∀ (z:cx) (u:Value) (e:bS),jS T s.hp.n o.op (aL s.fr) s.hp.get=some (u,e)→z.H=s.hp.app e→HT (snoc tr i z) ⟨i,a,news? o.op,false⟩ ⟨i,r,w,false,s.hp.n,(s.hp.app e).n⟩:=by
     intro z u e hop hz
     refine ⟨rfl,by rw [cO (Nat.le_refl _),h2],by rw [gL (Nat.lt_succ_self _),hz],fun hal _=>(EV (Gh hop hal)).symm,rfl,fun k hk=>?_,fun k hk=>?_⟩
     ·obtain ⟨p,p1,p2,p3⟩:=ht2 k hk;exact ⟨p,p1,p2,p3.snoc (Nat.le_refl _)⟩
     ·obtain ⟨p,p1,p2,p3⟩:=ht3 k hk;exact ⟨p,p1,p2,p3.snoc (Nat.le_refl _)⟩
    have drw:∀ (u:Value) (e:bS) (m:Nat),jS T s.hp.n o.op (aL s.fr) s.hp.get=some (u,e)→bV T (RX T tab m) o.op i s=some (u,s.hp.app e,⟨i,r,w,false,s.hp.n,(s.hp.app e).n⟩):=by
     intro u e m hop
     unfold bV
     simp only [hk,ht1,hop]
    by_cases hm:∃ x,DP o.op st.fr=some [x]
    ·obtain ⟨x,hm⟩:=hm
     have hbirth:yP o.op st.fr bt i=EU bt x:=by unfold yP;rw [hm]
     have hbx:=hb.eval x
     have eb:=ht.ext _ i hbx.1 (Nat.le_refl _)
     obtain ⟨u,v,r1,r2,r3,r4⟩:=Gf (ρ2:=(tr (EU bt x)).E.ρ) (g2:=(tr (EU bt x)).H.get) (O2:=(tr (EU bt x)).E.O (tr (EU bt x)).hp) (n:=s.hp.n) hfr hm (fun y hy=>by
      obtain rfl:=List.mem_singleton.1 hy;exact hbx.2) (fun k b hk ho=>(eb.keep (ht.rel _ hbx.1).wf k b hk ho).1) hw
     rw [h2] at r1
     have hz:(tr i).H=s.hp.app .none:=h2
     rw [hbirth] at r2
     refine go (tr i) v u (EU bt x) ⟨i,a,news? o.op,false⟩ ⟨i,r,w,false,s.hp.n,(s.hp.app .none).n⟩ 0 hrel .refl (by omega) (by rw [cO hbx.1];exact r4) rfl (evr _ u .none r1 hz) (fun m _=>by rw [hz];exact drw u .none m r1) (by rw [h1];exact gJ (dH r2))
    ·have hbirth:yP o.op st.fr bt i=i+1:=by
      unfold yP
      split
      ·rename_i x hx;exact absurd ⟨x,hx⟩ hm
      ·rfl
     obtain ⟨u,e,E',v,hp',r1,r2,r3,r4,r5⟩:=qH hrel hfr hw'
     rw [h2] at r1 r3 r4 r5
     rw [hbirth] at r2
     refine go ⟨E',hp',s.hp.app e⟩ v u (i+1) ⟨i,a,news? o.op,false⟩ ⟨i,r,w,false,s.hp.n,(s.hp.app e).n⟩ 0 r3 (by rw [h2];exact r4) (Nat.le_refl _) (by rw [gL (Nat.lt_succ_self _)];exact r5) rfl (evr _ u e r1 rfl) (fun m _=>drw u e m r1) (gJ (dH r2))
  ·obtain ⟨m,s',r1,r2⟩:=kq (s:=⟨cP s.fr o.dst undef,s.hp,s.rd⟩) (evs:=⟨o,s,undef,s.hp,⟨i,[],[],false,s.hp.n,s.hp.n⟩⟩ :: evs) (gJ h) (ht.snoc (z:=tr i) hrel .refl) (by rw [gL (Nat.lt_succ_self _)];exact h1) (by rw [gL (Nat.lt_succ_self _)];exact h2) h3
    (hb.put (Nat.zero_le _) wH o.dst) (.cons (he.snoc (Nat.le_refl _)) rfl ⟨rfl,by rw [cO (Nat.le_refl _),h2],by rw [gL (Nat.lt_succ_self _),h2],fun _ _=>rfl,rfl,fun k hk=>(by cases hk),fun k hk=>(by cases hk)⟩)
   rw [hz0] at r2
   refine ⟨m,s',?_,r2⟩
   rw [cG,hg]
   exact r1
def DQ (T:bh) (tab:List XE) (one:Bool) (mu:Tmp→Bool) (ops:Array Oper) (c:Nat) (st:aR) (K:aR→Prop):Prop :=
 jg T tab mu ops (ops.toList.take c) 0 (fun _=>0) [] st fun s=>wpOps T tab one mu ops.toList (ops.toList.drop c) s K
theorem aC.draw {id:Nat} {ops:Array Oper} {mu:Tmp→Bool} {st:aR} {K:Exit→aR→Prop} (h:DQ T tab one mu ops (gy ops) st (K .normal)):aC T tab one (.region id ops true) st K:=by
 intro E base s hs
 obtain ⟨m,s',r1,E',st',r2,r3,r4,r5⟩:=kq (base:=base) (tr:=fun _=>⟨E,st.hp,s.hp⟩) (evs:=[]) h ⟨fun _ _=>hs.h,fun _ _ _ _=>.refl⟩ rfl rfl hs.rd (fun t=>⟨Nat.le_refl _,hs.fr t⟩) .nil
 obtain ⟨m2,L,q1,q2,q3⟩:=fX r2 r4
 refine ⟨max m m2,L.map fun s=>(.normal,s),?_,fun h1=>?_,fun p hp=>?_⟩
 ·rw [dM]
  have:cm T (RX T tab (max m m2)) ops s=some L:=by
   cases hn:xF ops with
   | none =>
    unfold cm
    simp only [hn,hJ (dR (Nat.le_max_left m m2)) _ _ _ _ _ _ r1]
    exact fU (dR (Nat.le_max_right _ _)) _ _ _ _ q1
   | some c =>
    have ht:=EJ hn
    rw [ht,List.take_length] at r1
    rw [ht,List.drop_length,fR] at q1
    cases q1
    exact Bu ht (hJ (dR (Nat.le_max_left m m2)) _ _ _ _ _ _ r1)
  simp only [cond_true,this]
 ·obtain ⟨p,hp⟩:=q2 h1
  exact ⟨_,by rw [hp];rfl⟩
 ·obtain ⟨s2,hm,rfl⟩:=List.mem_map.1 hp
  obtain ⟨E2,st2,k1,k2,k3,k4⟩:=q3 s2 hm
  rw [r3] at k2 k4
  exact ⟨E2,st2,k1,k2,k3,r5.DN.trans k4⟩
def kE (T:bh) (tab:List XE) (one:Bool) (mu:Tmp→Bool):Code→aR→(Exit→aR→Prop)→Prop
 | .skip,st,K=>K .normal st
 | .label _,st,K=>K .normal st
 | .region _ ops false,st,K=>wpOps T tab one mu ops.toList ops.toList st (K .normal)
 | .region _ ops true,st,K=>DQ T tab one mu ops (gy ops) st (K .normal)
 | .seq a b,st,K=>kE T tab one mu a st (yc (fun s=>kE T tab one mu b s K) K)
 | .cond c a b,st,K=>match aS st.fr c with
  | .fl (.bool t)=>(t=true→kE T tab one mu a st K)∧(t=false→kE T tab one mu b st K)
  | _=>False
 | .block id c,st,K=>kE T tab one mu c st (kX id K)
 | .exit id,st,K=>K (.exit id) st
 | .ret,st,K=>K .ret st
 | .scope c,st,K=>kE T tab one mu c st (th K)
 | c,st,K=>aC T tab one c st K
theorem aa {mu:Tmp→Bool}:∀ {c:Code} {st:aR} {K:Exit→aR→Prop},kE T tab one mu c st K→aC T tab one c st K:=by
 intro c
 induction c with
 | skip=>intro st K h;exact .here (fun _ _=>rfl) h
 | label l=>intro st K h;exact .here (fun _ _=>rfl) h
 | region id ops draw =>
  intro st K h
  cases draw with
  | false=>exact .ops h
  | true=>exact .draw h
 | seq a b iha ihb =>
  intro st K h
  refine .seq (iha h |>.mono fun e s hk=>?_)
  cases e <;> first|exact ihb hk|exact hk
 | cond c a b iha ihb =>
  intro st K h
  unfold kE at h
  split at h
  ·rename_i t ht
   exact .cond ht (fun e=>iha (h.1 e)) (fun e=>ihb (h.2 e))
  ·exact h.elim
 | block id c ih=>intro st K h;exact .block (ih h)
 | exit id=>intro st K h;exact .here (fun _ _=>rfl) h
 | ret=>intro st K h;exact .here (fun _ _=>rfl) h
 | scope c ih=>intro st K h;exact .scope (ih h)
 | _=>intro st K h;exact h
end
end Go.RM
namespace Go.RM
open Go
inductive Sh where
 | int (k:IntKind)
 | bool
 | str
 | slice (s:Sh)
 | nil
 | cons (s:Sh) (l:Sh)
 | arr (n:Nat) (s:Sh)
def Sh.cells:Sh→Nat
 | .int _=>1
 | .bool=>1
 | .str=>1
 | .slice _=>1
 | .nil=>0
 | .cons s l=>s.cells+l.cells
 | .arr n s=>n * s.cells
inductive TV:Sh→List AV→Prop
 | int {k:IntKind} {n:Int}:(Lit.int k n).wf=true→TV (.int k) [.fl (.int k n)]
 | bool {b:Bool}:TV .bool [.fl (.bool b)]
 | str {s:ByteArray}:s.size≤maxLen→TV .str [.fl (.string s)]
 | slice {s:Sh} {els:List (List AV)}:els.length≤maxLen→(∀ el ∈ els,TV s el)→TV (.slice s) [.sl els false]
 | nil:TV .nil []
 | cons {s l:Sh} {a b:List AV}:TV s a→TV l b→TV (.cons s l) (a++b)
 | arr {n:Nat} {s:Sh} {els:List (List AV)}:els.length=n→(∀ el ∈ els,TV s el)→TV (.arr n s) els.flatten
mutual
def ld (P:Program):Nat→Sh→TypeId→Bool
 | 0,_,_=>false
 | _+1,.int k,t=>match P.underlying t with
  | some (.int k')=>decide (k=k')
  | _=>false
 | _+1,.bool,t=>match P.underlying t with
  | some .bool=>true
  | _=>false
 | _+1,.str,t=>match P.underlying t with
  | some .string=>true
  | _=>false
 | d+1,.slice s,t=>match P.underlying t with
  | some (.slice e)=>Nat.beq (P.cellsOf e) s.cells && (Nat.ble 1 s.cells && ld P d s e)
  | _=>false
 | d+1,.nil,t=>match P.underlying t with
  | some (.struct fs)=>Nat.beq (P.cellsOf t) 0 && tj P d .nil fs.toList 0
  | _=>false
 | d+1,.cons s l,t=>match P.underlying t with
  | some (.struct fs)=>Nat.beq (P.cellsOf t) (s.cells+l.cells) && tj P d (.cons s l) fs.toList 0
  | _=>false
 | d+1,.arr n s,t=>match P.underlying t with
  | some (.array m e)=>Nat.beq n m && Nat.beq (P.cellsOf e) s.cells && Nat.beq (P.cellsOf t) (n * s.cells) && ld P d s e
  | _=>false
def tj (P:Program):Nat→Sh→List Field→Nat→Bool
 | 0,_,_,_=>false
 | _+1,.nil,[],_=>true
 | d+1,.cons s l,f :: fs,o=>Nat.beq f.offset o && Nat.beq (P.cellsOf f.type) s.cells && ld P d s f.type && tj P d l fs (o+s.cells)
 | _+1,_,_,_=>false
end
section
variable {P : Program} {w : World}
structure LS (γ:Gm) (H:Hp) (w:World):Prop where
 hr:HR γ H.get w
 wf:Wf H
 fr:∀ k,H.n≤k→γ.loc k=none
 un:∀ k a,H.get k=some a→a.own=false∧a ≠ .dead
structure LE (γ:Gm) (H:Hp) (γ':Gm) (H':Hp):Prop where
 le:γ.Le γ'
 n:H.n≤H'.n
 same:∀ k,k < H.n→H'.get k=H.get k
theorem LE.refl {γ:Gm} {H:Hp}:LE γ H γ H:=⟨Gm.Le.refl γ,Nat.le_refl _,fun _ _=>rfl⟩
theorem LE.trans {γ γ1 γ2:Gm} {H H1 H2:Hp} (a:LE γ H γ1 H1) (b:LE γ1 H1 γ2 H2):LE γ H γ2 H2 :=
 ⟨a.le.trans b.le,Nat.le_trans a.n b.n,fun k hk=>(b.same k (Nat.lt_of_lt_of_le hk a.n)).trans (a.same k hk)⟩
abbrev DS:Nat→Prop:=fun _=>False
theorem LE.dr {γ γ':Gm} {H H':Hp} (e:LE γ H γ' H') (hw:Wf H) {v:AV} {u:Value} (h:DR H.get DS v u):DR H'.get DS v u :=
 h.mono fun k b hk _=>⟨by rw [e.same k (hw.lt hk)];exact hk,fun h=>h⟩
theorem LE.Kl {γ γ':Gm} {H H':Hp} (e:LE γ H γ' H') (hw:Wf H) {v:List AV} {u:List Value} (h:rY H.get DS v u):rY H'.get DS v u:=⟨h.1,fun i a u x y=>e.dr hw (h.2 i a u x y)⟩
def Lk (w:World) (s:Sh) (cs:List Value):Prop:=∀ (γ:Gm) (H:Hp),LS γ H w→∃ γ' H' us avs,LE γ H γ' H'∧LS γ' H' w∧us.length=cs.length∧bP γ' us cs∧rY H'.get DS avs us∧TV s avs∧avs.length=s.cells
theorem Lk.flat {s:Sh} {v:Value} (hf:aP v=true) (ht:TV s [.fl v]) (hs:s.cells=1):Lk w s [v]:=fun γ H h =>
 ⟨γ,H,[v],[.fl v],.refl,h,rfl,bP.cons (.flat hf) (bP.nil γ),⟨rfl,fun i a u x y=>by
  cases i with
  | zero=>cases x;cases y;exact .fl hf
  | succ i=>simp at x⟩,ht,hs.symm⟩
theorem Lk.list {s:Sh}:∀ {csl:List (List Value)},(∀ cs ∈ csl,Lk w s cs∧cs.length=s.cells)→∀ (γ:Gm) (H:Hp),LS γ H w→∃ (γ':Gm) (H':Hp) (us:List Value) (els:List (List AV)),LE γ H γ' H'∧LS γ' H' w∧us.length=csl.flatten.length∧bP γ' us csl.flatten∧rY H'.get DS els.flatten us ∧
  els.length=csl.length∧(∀ el ∈ els,TV s el∧el.length=s.cells)
 | [],_,γ,H,h=>⟨γ,H,[],[],.refl,h,rfl,bP.nil γ,⟨rfl,fun i a u x=>by cases x⟩,rfl,fun el he=>by cases he⟩
 | cs :: csl,hl,γ,H,h=>by
  obtain ⟨γ1,H1,us1,av1,e1,h1,l1,v1,d1,t1,c1⟩:=(hl cs (by simp)).1 γ H h
  obtain ⟨γ2,H2,us2,els,e2,h2,l2,v2,d2,t2,c2⟩:=Lk.list (fun c hc=>hl c (List.mem_cons_of_mem _ hc)) γ1 H1 h1
  refine ⟨γ2,H2,us1++us2,av1 :: els,e1.trans e2,h2,by simp [l1,l2],?_,?_,by simp [t2],fun el he=>?_⟩
  ·rw [List.flatten_cons];exact (v1.mono e2.le).append v2
  ·rw [List.flatten_cons];exact (e2.Kl h1.wf d1).append d2
  ·rcases List.mem_cons.1 he with rfl|he
   ·exact ⟨t1,c1⟩
   ·exact c2 el he
theorem LS.row {γ:Gm} {H:Hp} (h:LS γ H w) {b o:Nat} {cs':Array Value} {e:TypeId} {fz:Nat × Nat} (hb:w.heap[b]?=some (.cells cs' e fz)) {us:List Value} (hc:dK γ us cs' o) :
  ∃ γ',γ'={γ with loc:=fun i=>if i=H.n then some (b,o) else γ.loc i}∧LE γ H γ' (H.push (.cells us false 0))∧LS γ' (H.push (.cells us false 0)) w∧γ'.loc H.n=some (b,o):=by
 have hle:γ.Le {γ with loc:=fun i=>if i=H.n then some (b,o) else γ.loc i}:=by
  refine ⟨fun k x hk=>?_,fun k x hk=>rfl,rfl⟩
  show (if k=H.n then _ else _)=_
  rw [if_neg (fun hkn=>by rw [hkn,h.fr _ (Nat.le_refl _)] at hk;cases hk)]
  exact hk
 have hlt:b < w.heap.size:=(Array.getElem?_eq_some_iff.1 hb).1
 have hget:∀ k a,(H.push (.cells us false 0)).get k=some a→(k < H.n∧H.get k=some a)∨(k=H.n∧a=.cells us false 0):=by
  intro k a hk
  rw [Hp.eM] at hk
  split at hk
  ·rename_i hkn;cases hk;exact .inr ⟨hkn,rfl⟩
  ·exact .inl ⟨h.wf.lt hk,hk⟩
 have hun:∀ k a,(H.push (.cells us false 0)).get k=some a→a.own=false∧a ≠ .dead:=by
  intro k a hk
  rcases hget k a hk with ⟨_,h1⟩|⟨_,rfl⟩
  ·exact h.un k a h1
  ·exact ⟨rfl,by simp⟩
 refine ⟨_,rfl,⟨hle,Nat.le_succ _,fun k hk=>bZ hk⟩,⟨⟨fun k b' o' a hk hl=>?_,fun k k' b' o' o2 a a' hk ho=>?_,fun k b' o' hl=>?_,h.hr.base,h.hr.gl⟩,(cQ.push H _).wf h.wf,fun k hk=>?_,hun⟩,if_pos rfl⟩
 ·have hl:(if k=H.n then some (b,o) else γ.loc k)=some (b',o'):=hl
  rcases hget k a hk with ⟨h1,h2⟩|⟨rfl,rfl⟩
  ·rw [if_neg (by omega)] at hl
   exact (h.hr.gC k b' o' a h2 hl).mono hle hl rfl
  ·rw [if_pos rfl] at hl
   cases hl
   exact ⟨cs',e,fz,hb,hc.mono hle,fun h=>Bool.noConfusion h⟩
 ·rw [(hun k a hk).1] at ho;cases ho
 ·have hl:(if k=H.n then some (b,o) else γ.loc k)=some (b',o'):=hl
  split at hl
  ·cases hl;exact hlt
  ·exact h.hr.lt k b' o' hl
 ·show (if k=H.n then _ else _)=_
  have:H.n+1≤k:=hk
  rw [if_neg (by omega)];exact h.fr k (by omega)
variable {D : Type} {enc : TypeId × Value → D} {base : Nat} {spare : Nat → Bool} {held : Bool}
theorem Gk {b:Addr} {n:Nat} {cs:List Value} (h:w.cells? base b n=some cs):cs.length=n∧∀ i,i < n→w.cell? (b.add i)=cs[i]?:=by
 unfold World.cells? at h
 split at h
 ·refine ⟨by simpa using mapM_some_length h,fun i hi=>mapM_some_get h i i (by simp [hi])⟩
 ·cases h
theorem yQ {a:Addr} {v:Value} (h:w.cell? a=some v):a.spot=none∧∃ c e fz,w.heap[a.block]?=some (.cells c e fz)∧c[a.off]?=some v:=by
 unfold World.cell? at h
 split at h
 ·rename_i c e fz hb
  split at h
  ·cases h
  ·rename_i hs
   exact ⟨by simpa using hs,c,e,fz,hb,h⟩
 ·cases h
theorem pP (a:Addr) (n:Nat):(a.add n).block=a.block:=by unfold Addr.add;split <;> rfl
theorem DT (a:Addr) (n:Nat):(a.add n).off=a.off+n:=by unfold Addr.add;split <;> simp_all
mutual
theorem lk (P:Program):∀ (d:Nat) (s:Sh) (t:TypeId),ld P d s t=true→∀ (fuel:Nat) (cs:List Value) (x:DataW D × List MemPlace),DataW.trod enc P w base spare held fuel t cs=some x→Lk w s cs∧cs.length=s.cells
 | 0,_,_,h=>by simp [ld] at h
 | d+1,.int k,t,h=>by
  intro fuel cs x hx
  unfold ld at h
  split at h
  ·rename_i k' hu
   obtain rfl:=of_decide_eq_true h
   obtain ⟨n,rfl,_,hw⟩:=DataW.trod_int hu hx
   exact ⟨.flat rfl (.int hw) rfl,rfl⟩
  ·cases h
 | d+1,.bool,t,h=>by
  intro fuel cs x hx
  unfold ld at h
  split at h
  ·rename_i hu
   obtain ⟨b,rfl,_⟩:=DataW.trod_bool hu hx
   exact ⟨.flat rfl .bool rfl,rfl⟩
  ·cases h
 | d+1,.str,t,h=>by
  intro fuel cs x hx
  unfold ld at h
  split at h
  ·rename_i hu
   obtain ⟨s,rfl,_,hw⟩:=DataW.trod_string hu hx
   exact ⟨.flat rfl (.str hw) rfl,rfl⟩
  ·cases h
 | d+1,.slice s,t,h=>by
  intro fuel cs x hx
  unfold ld at h
  split at h
  ·rename_i e hu
   simp only [Bool.and_eq_true] at h
   have hsz:=Nat.eq_of_beq_eq_true h.1
   rcases DataW.trod_slice hu hx with ⟨rfl,_⟩|⟨a,len,cap,elems,rest,n,_,rfl,_,_,hlc,hcm,hel,hat,_⟩
   ·refine ⟨fun γ H hs=>⟨γ,H,[.slice none 0 0],[.sl [] false],.refl,hs,rfl,bP.cons (.flat rfl) (bP.nil γ),⟨rfl,fun i a u x y=>?_⟩,.slice (Nat.zero_le _) (fun el he=>by cases he),rfl⟩,rfl⟩
    cases i with
    | zero=>cases x;cases y;exact .nil
    | succ i=>simp at x
   ·
    let csl:List (List Value):=(List.range len).map fun i=>(w.cells? base (a.add (i * P.cellsOf e)) (P.cellsOf e)).getD []
    have hlen:csl.length=len:=by simp [csl]
    have hcs:∀ i,i < len→∃ ci y,csl[i]?=some ci∧w.cells? base (a.add (i * P.cellsOf e)) (P.cellsOf e)=some ci∧DataW.trod enc P w base spare held n e ci=some y:=by
     intro i hi
     have h1:=hat i hi
     have h2:elems[i]?=some (elems[i]'(by omega)):=List.getElem?_eq_getElem _
     rw [h2,Option.bind_eq_some_iff] at h1
     obtain ⟨ci,c1,c2⟩:=h1
     exact ⟨ci,_,by simp [csl,hi,c1],c1,c2⟩
    have hall:∀ ci ∈ csl,Lk w s ci∧ci.length=s.cells:=by
     intro ci hci
     obtain ⟨i,hi,rfl⟩:=List.getElem_of_mem hci
     obtain ⟨cj,y,q1,q2,q3⟩:=hcs i (by omega)
     rw [List.getElem?_eq_getElem hi] at q1
     cases q1
     exact lk P d s e h.2.2 n _ y q3
    refine ⟨fun γ H hs=>?_,rfl⟩
    obtain ⟨γ1,H1,us,els,e1,h1,l1,v1,d1,t1,c1⟩:=Lk.list hall γ H hs
    have htv:TV (.slice s) [.sl els false]:=.slice (by rw [t1,hlen];omega) (fun el he=>(c1 el he).1)
    have hfin:∀ (u:Value) (γ':Gm) (H':Hp),LE γ1 H1 γ' H'→LS γ' H' w→VR γ' u (.slice (some a) len cap)→DR H'.get DS (.sl els false) u →
      ∃ γ' H' us avs,LE γ H γ' H'∧LS γ' H' w∧us.length=[Value.slice (some a) len cap].length∧bP γ' us [.slice (some a) len cap]∧rY H'.get DS avs us∧TV (.slice s) avs∧avs.length=(Sh.slice s).cells:=by
     intro u γ' H' he hs' hv hd
     refine ⟨γ',H',[u],[.sl els false],e1.trans he,hs',rfl,bP.cons hv (bP.nil γ'),⟨rfl,fun i a w x y=>?_⟩,htv,rfl⟩
     cases i with
     | zero=>cases x;cases y;exact hd
     | succ i=>simp at x
    have hfl:∀ el ∈ csl,el.length=s.cells:=fun el he=>(hall el he).2
    have hels:∀ el ∈ els,el.length=s.cells:=fun el he=>(c1 el he).2
    have hne:els.length=len:=t1.trans hlen
    by_cases h0:len * s.cells=0
    ·
     have hg:∀ k a,(H1.push (.cells us false 0)).get k=some a→(k < H1.n∧H1.get k=some a)∨(k=H1.n∧a=.cells us false 0):=by
      intro k a hk
      rw [Hp.eM] at hk
      split at hk
      ·rename_i hkn;cases hk;exact .inr ⟨hkn,rfl⟩
      ·exact .inl ⟨h1.wf.lt hk,hk⟩
     have hus:us=[]:=List.length_eq_zero_iff.1 (by rw [l1,ez hfl,hlen];exact h0)
     by_cases hl0:len=0
     ·subst hl0
      refine hfin (.slice (some ⟨H1.n,0,none⟩) 0 2) γ1 (H1.push (.cells us false 0)) ⟨Gm.Le.refl γ1,Nat.le_succ _,fun k hk=>bZ hk⟩ ⟨⟨fun k b o a hk hl=>?_,fun k k' b o o' a a' hk ho=>?_,h1.hr.lt,h1.hr.base,h1.hr.gl⟩,(cQ.push H1 _).wf h1.wf,fun k hk=>h1.fr k (by have:H1.n+1≤k:=hk;omega),fun k a hk=>?_⟩ (.cH (by omega) (fun h=>by omega) (by omega)) ?_
      ·rcases hg k a hk with ⟨_,q⟩|⟨rfl,_⟩
       ·exact h1.hr.gC k b o a q hl
       ·rw [h1.fr _ (Nat.le_refl _)] at hl;cases hl
      ·rcases hg k a hk with ⟨_,q⟩|⟨_,rfl⟩
       ·rw [(h1.un k a q).1] at ho;cases ho
       ·cases ho
      ·rcases hg k a hk with ⟨_,q⟩|⟨_,rfl⟩
       ·exact h1.un k a q
       ·exact ⟨rfl,by simp⟩
      ·exact .row (es:=s.cells) (own:=false) (e:=0) jb (fun h=>h) hels hne (by
        have hd:=d1
        rw [hus] at hd ⊢
        exact ⟨hd.1,fun i a u x y=>by cases y⟩) (fun h=>Bool.noConfusion h)
     ·
      exfalso
      have hz:s.cells=0:=by
       rcases Nat.mul_eq_zero.1 h0 with h|h
       ·exact absurd h hl0
       ·exact h
      have:=Nat.le_of_ble_eq_true h.2.1
      omega
    ·have hpos:0 < len∧0 < s.cells:=by
      constructor
      ·apply Nat.pos_of_ne_zero;intro h;rw [h] at h0;simp at h0
      ·apply Nat.pos_of_ne_zero;intro h;rw [h] at h0;simp at h0
     have hcell:∀ i ci,csl[i]?=some ci→∀ j,j < s.cells→(∀ v,ci[j]?=some v→w.cell? ((a.add (i * s.cells)).add j)=some v):=by
      intro i ci hi j hj v hv
      obtain ⟨cj,y,q1,q2,q3⟩:=hcs i (by rw [←hlen];exact (List.getElem?_eq_some_iff.1 hi).1)
      rw [q1] at hi;cases hi
      rw [hsz] at q2
      obtain ⟨_,r2⟩:=Gk q2
      rw [r2 j hj];exact hv
     obtain ⟨c0,y0,z1,z2,z3⟩:=hcs 0 hpos.1
     have hz0:c0.length=s.cells:=hfl c0 (List.mem_of_getElem? z1)
     have hv0:c0[0]?=some (c0[0]'(by omega)):=List.getElem?_eq_getElem _
     obtain ⟨sp,cs',e',fz,hb,_⟩:=yQ (hcell 0 c0 z1 0 hpos.2 _ hv0)
     rw [pP,pP] at hb
     have hspot:a.spot=none:=by
      have:((a.add (0 * s.cells)).add 0).spot=none:=sp
      simpa [Addr.add] using this
     have hcr:dK γ1 us cs' a.off:=by
      intro j v hj
      have hjl:j < len * s.cells:=by rw [←hlen,←ez hfl,←l1];exact (List.getElem?_eq_some_iff.1 hj).1
      obtain ⟨v',q1,q2⟩:=v1.get hj
      have hi:j / s.cells < len:=(Nat.div_lt_iff_lt_mul hpos.2).2 hjl
      have hm:j % s.cells < s.cells:=Nat.mod_lt _ hpos.2
      obtain ⟨ci,y,p1,p2,p3⟩:=hcs _ hi
      have hdecomp:j / s.cells * s.cells+j % s.cells=j:=by rw [Nat.mul_comm];exact Nat.div_add_mod j s.cells
      have hf:=fj hfl _ ci (j % s.cells) p1 hm
      rw [hdecomp,q1] at hf
      obtain ⟨_,c2,e2,f2,b1,b2⟩:=yQ (hcell _ ci p1 _ hm v' hf.symm)
      rw [pP,pP,hb] at b1
      cases b1
      rw [DT,DT,Nat.add_assoc,hdecomp] at b2
      exact ⟨v',b2,q2⟩
     obtain ⟨γ2,_,e2,h2,hloc⟩:=h1.row hb hcr
     refine hfin (.slice (some ⟨H1.n,0,none⟩) len (len+2)) γ2 _ e2 h2 ?_ ?_
     ·have:=VR.slice (γ:=γ2) (k:=H1.n) (o:=0) (n:=len) (c:=len+2) (c':=cap) hloc hlc (fun h=>by omega) (fun h=>by omega) (fun h=>by omega)
      have ha:(⟨a.block,a.off+0,none⟩:Addr)=a:=by cases a;simp at hspot;subst hspot;rfl
      rw [ha] at this
      exact this
     ·exact .row (es:=s.cells) jb (fun h=>h) hels hne (e2.Kl h1.wf d1) (fun h=>Bool.noConfusion h)
  ·cases h
 | d+1,.nil,t,h=>by
  intro fuel cs x hx
  unfold ld at h
  split at h
  ·rename_i fs hu
   simp only [Bool.and_eq_true] at h
   obtain ⟨xs,n,_,_,hl,_,hf⟩:=DataW.trod_struct hu hx
   have hz:=Nat.eq_of_beq_eq_true h.1
   obtain rfl:=List.length_eq_zero_iff.1 (hl.trans hz)
   exact ⟨fun γ H hs=>⟨γ,H,[],[],.refl,hs,rfl,bP.nil γ,⟨rfl,fun i a u x=>by cases x⟩,.nil,rfl⟩,rfl⟩
  ·cases h
 | d+1,.cons s l,t,h=>by
  intro fuel cs x hx
  unfold ld at h
  split at h
  ·rename_i fs hu
   simp only [Bool.and_eq_true] at h
   obtain ⟨xs,n,_,_,hl,hxl,hf⟩:=DataW.trod_struct hu hx
   have hz:=Nat.eq_of_beq_eq_true h.1
   have:=KJ P d (.cons s l) fs.toList 0 h.2 n cs (by rw [hl,hz];simp [Sh.cells]) (fun i f hi=>by
    rw [Array.getElem?_toList] at hi
    rw [hf i f hi]
    have hlt:i < xs.length:=by rw [hxl];exact (Array.getElem?_eq_some_iff.1 hi).1
    exact ⟨_,List.getElem?_eq_getElem hlt⟩)
   rw [List.drop_zero] at this
   exact ⟨this,by rw [hl,hz];rfl⟩
  ·cases h
 | d+1,.arr m s,t,h=>by
  intro fuel cs x hx
  unfold ld at h
  split at h
  ·rename_i m' e hu
   simp only [Bool.and_eq_true] at h
   obtain ⟨⟨⟨h1,h2⟩,h3⟩,h4⟩:=h
   obtain rfl:=Nat.eq_of_beq_eq_true h1
   have hsz:=Nat.eq_of_beq_eq_true h2
   have htot:=Nat.eq_of_beq_eq_true h3
   have hx':∃ n,cs.length=P.cellsOf t∧∀ i,i < m→∃ y,DataW.trod enc P w base spare held n e ((cs.drop (i * P.cellsOf e)).take (P.cellsOf e))=some y:=by
    obtain ⟨xs,n,_,_,hl,hxl,hp⟩:=DataW.trod_array hu hx
    exact ⟨n,hl,fun i hi=>by
     rw [hp i hi]
     exact ⟨_,List.getElem?_eq_getElem (by omega)⟩⟩
   obtain ⟨n,hl,hel⟩:=hx'
   rw [hsz] at hel
   rw [htot] at hl
   let csl:List (List Value):=(List.range m).map fun i=>(cs.drop (i * s.cells)).take s.cells
   have hflat:csl.flatten=cs:=by
    have key:∀ (m:Nat) (cs:List Value),cs.length=m * s.cells→((List.range m).map fun i=>(cs.drop (i * s.cells)).take s.cells).flatten=cs:=by
     intro m
     induction m with
     | zero=>intro cs h;rw [Nat.zero_mul] at h;simp [List.length_eq_zero_iff.1 h]
     | succ m ih =>
      intro cs h
      rw [List.range_succ_eq_map,List.map_cons,List.map_map,List.flatten_cons,Nat.zero_mul,List.drop_zero]
      have hd:(cs.drop s.cells).length=m * s.cells:=by rw [List.length_drop,h,Nat.add_mul];omega
      have e:=ih (cs.drop s.cells) hd
      have:((fun i=>(cs.drop (i * s.cells)).take s.cells) ∘ Nat.succ)=fun i=>((cs.drop s.cells).drop (i * s.cells)).take s.cells:=by
       funext i
       simp only [Function.comp,List.drop_drop]
       rw [show s.cells+i * s.cells=Nat.succ i * s.cells by rw [Nat.succ_mul];omega]
      rw [this,e]
      exact List.take_append_drop _ _
    exact key m cs hl
   have hall:∀ ci ∈ csl,Lk w s ci∧ci.length=s.cells:=by
    intro ci hci
    obtain ⟨i,hi,rfl⟩:=List.mem_map.1 hci
    obtain ⟨y,hy⟩:=hel i (by simpa using hi)
    exact lk P d s e h4 n _ y hy
   refine ⟨fun γ H hs=>?_,hl⟩
   obtain ⟨γ1,H1,us,els,e1,q1,l1,v1,d1,t1,c1⟩:=Lk.list hall γ H hs
   rw [hflat] at l1 v1
   have hels:els.length=m:=by rw [t1];simp [csl]
   exact ⟨γ1,H1,us,els.flatten,e1,q1,l1,v1,d1,.arr hels (fun el he=>(c1 el he).1),by
    rw [ez (fun el he=>(c1 el he).2),hels];rfl⟩
  ·cases h
theorem KJ (P:Program):∀ (d:Nat) (l:Sh) (fs:List Field) (o:Nat),tj P d l fs o=true→∀ (n:Nat) (cs:List Value),cs.length=o+l.cells→(∀ (i:Nat) (f:Field),fs[i]?=some f→∃ y,DataW.trod enc P w base spare held n f.type ((cs.drop f.offset).take (P.cellsOf f.type))=some y) →
  Lk w l (cs.drop o)
 | 0,_,_,_,h=>by simp [tj] at h
 | d+1,.nil,[],o,_=>by
  intro n cs hl _
  have:cs.drop o=[]:=List.length_eq_zero_iff.1 (by rw [List.length_drop,hl];simp [Sh.cells])
  rw [this]
  exact fun γ H hs=>⟨γ,H,[],[],.refl,hs,rfl,bP.nil γ,⟨rfl,fun i a u x=>by cases x⟩,.nil,rfl⟩
 | d+1,.cons s l,f :: fs,o,h=>by
  intro n cs hl hf
  simp only [tj,Bool.and_eq_true] at h
  obtain ⟨⟨⟨h1,h2⟩,h3⟩,h4⟩:=h
  have ho:=Nat.eq_of_beq_eq_true h1
  have hsz:=Nat.eq_of_beq_eq_true h2
  obtain ⟨y,hy⟩:=hf 0 f rfl
  rw [ho,hsz] at hy
  obtain ⟨k1,k2⟩:=lk P d s f.type h3 n _ y hy
  have k3:=KJ P d l fs (o+s.cells) h4 n cs (by rw [hl];simp [Sh.cells];omega) (fun i g hi=>hf (i+1) g (by simpa using hi))
  have hsplit:cs.drop o=(cs.drop o).take s.cells++cs.drop (o+s.cells):=by
   rw [←List.drop_drop];exact (List.take_append_drop _ _).symm
  intro γ H hs
  obtain ⟨γ1,H1,us1,av1,e1,q1,l1,v1,d1,t1,c1⟩:=k1 γ H hs
  obtain ⟨γ2,H2,us2,av2,e2,q2,l2,v2,d2,t2,c2⟩:=k3 γ1 H1 q1
  rw [hsplit]
  exact ⟨γ2,H2,us1++us2,av1++av2,e1.trans e2,q2,by simp [l1,l2],(v1.mono e2.le).append v2,(e2.Kl q1.wf d1).append d2,.cons t1 t2,by simp [c1,c2,Sh.cells]⟩
 | d+1,.nil,_ :: _,_,h=>by simp [tj] at h
 | d+1,.cons _ _,[],_,h=>by simp [tj] at h
 | d+1,.int _,_,_,h=>by simp [tj] at h
 | d+1,.bool,_,_,h=>by simp [tj] at h
 | d+1,.str,_,_,h=>by simp [tj] at h
 | d+1,.slice _,_,_,h=>by simp [tj] at h
 | d+1,.arr _ _,_,_,h=>by simp [tj] at h
end
end
end Go.RM
namespace Go.RM
open Go
section
variable {P : Program} {w : World} {D : Type} {enc : TypeId × Value → D} {base : Nat} {spare : Nat → Bool} {held : Bool}
def uo:Sh→List AV→AV
 | .nil,l=>.ag l
 | .cons _ _,l=>.ag l
 | .arr _ _,l=>.ag l
 | _,l=>l.headD .bL
def C7:List Sh→List AV→Prop
 | [],[]=>True
 | s :: l,a :: as=>(∃ avs,TV s avs∧a=uo s avs)∧C7 l as
 | _,_=>False
theorem u6 {s:Sh} {v:Value} (hv:v.cells.toList=[v]) (hs:∀ l,uo s l=l.headD .bL) (h1:s.cells=1) (hl:Lk w s v.cells.toList) (γ:Gm) (H:Hp) (h:LS γ H w) :
  ∃ γ' H' u a,LE γ H γ' H'∧LS γ' H' w∧VR γ' u v∧DR H'.get DS a u∧∃ avs,TV s avs∧a=uo s avs:=by
 rw [hv] at hl
 obtain ⟨γ',H',us,avs,e,q,l1,v1,d1,t1,c1⟩:=hl γ H h
 match us,l1 with
 | [u],_ =>
  match avs,c1.trans h1 with
  | [a],_=>exact ⟨γ',H',u,a,e,q,v1.2 0 u v rfl rfl,d1.2 0 a u rfl rfl,[a],t1,by rw [hs];rfl⟩
theorem HV {s:Sh} {cs:Array Value} (hs:∀ l,uo s l=.ag l) (hl:Lk w s cs.toList) (γ:Gm) (H:Hp) (h:LS γ H w) :
  ∃ γ' H' u a,LE γ H γ' H'∧LS γ' H' w∧VR γ' u (.agg cs)∧DR H'.get DS a u∧∃ avs,TV s avs∧a=uo s avs:=by
 obtain ⟨γ',H',us,avs,e,q,l1,v1,d1,t1,c1⟩:=hl γ H h
 refine ⟨γ',H',.agg us.toArray,.ag avs,e,q,?_,.ag (by simpa using d1.1) (fun i a u x y=>d1.2 i a u x (by simpa using y)),avs,t1,(hs _).symm⟩
 have:=VR.kO v1
 simpa using this
theorem HW {d:Nat} {s:Sh} {t:TypeId} (hsh:ld P d s t=true) {v:Value} {x:DataW D} {ps:List MemPlace} {r:Reach} {b:Nat} (hok:Value.okWide P w r b t v) (ht:DataW.Trod enc P w base spare held t v x ps) (γ:Gm) (H:Hp) (h:LS γ H w) :
  ∃ γ' H' u a,LE γ H γ' H'∧LS γ' H' w∧VR γ' u v∧DR H'.get DS a u∧∃ avs,TV s avs∧a=uo s avs:=by
 obtain ⟨fuel,ht⟩:=ht
 obtain ⟨hl,_⟩:=lk P d s t hsh fuel _ _ ht
 have agg:(∃ cs,v=.agg cs)→(∀ l,uo s l=.ag l)→∃ γ' H' u a,LE γ H γ' H'∧LS γ' H' w∧VR γ' u v∧DR H'.get DS a u∧∃ avs,TV s avs∧a=uo s avs:=by
  rintro ⟨cs,rfl⟩ hs
  exact HV hs hl γ H h
 cases d with
 | zero=>simp [ld] at hsh
 | succ d =>
  cases s with
  | int k =>
   unfold ld at hsh
   split at hsh
   ·rename_i k' hu
    unfold Value.okWide at hok
    rw [hu] at hok
    simp only [Cell.okWide,hu,Cell.ok] at hok
    cases v <;> simp at hok
    exact u6 rfl (fun _=>rfl) rfl hl γ H h
   ·cases hsh
  | bool =>
   unfold ld at hsh
   split at hsh
   ·rename_i hu
    unfold Value.okWide at hok
    rw [hu] at hok
    simp only [Cell.okWide,hu,Cell.ok] at hok
    cases v <;> simp at hok
    exact u6 rfl (fun _=>rfl) rfl hl γ H h
   ·cases hsh
  | str =>
   unfold ld at hsh
   split at hsh
   ·rename_i hu
    unfold Value.okWide at hok
    rw [hu] at hok
    simp only [Cell.okWide,hu,Cell.ok] at hok
    cases v <;> simp at hok
    exact u6 rfl (fun _=>rfl) rfl hl γ H h
   ·cases hsh
  | slice s =>
   unfold ld at hsh
   split at hsh
   ·rename_i e hu
    unfold Value.okWide at hok
    rw [hu] at hok
    simp only [Cell.okWide,hu,Cell.ok] at hok
    cases v <;> simp at hok
    exact u6 rfl (fun _=>rfl) rfl hl γ H h
   ·cases hsh
  | nil =>
   unfold ld at hsh
   split at hsh
   ·rename_i fs hu
    unfold Value.okWide at hok
    rw [hu] at hok
    exact agg ⟨_,hok.choose_spec.1⟩ (fun _=>rfl)
   ·cases hsh
  | cons s l =>
   unfold ld at hsh
   split at hsh
   ·rename_i fs hu
    unfold Value.okWide at hok
    rw [hu] at hok
    exact agg ⟨_,hok.choose_spec.1⟩ (fun _=>rfl)
   ·cases hsh
  | arr n s =>
   unfold ld at hsh
   split at hsh
   ·rename_i m e hu
    unfold Value.okWide at hok
    rw [hu] at hok
    exact agg ⟨_,hok.choose_spec.1⟩ (fun _=>rfl)
   ·cases hsh
def yR (P:Program) (d:Nat):List Sh→List TypeId→Bool
 | [],[]=>true
 | s :: l,t :: ts=>ld P d s t && yR P d l ts
 | _,_=>false
theorem BO {d:Nat} {r:Reach} {b:Nat}:∀ {ss:List Sh} {ts:List TypeId} {vs:List Value} {ds:List (DataW D)} {ps:List MemPlace},yR P d ss ts=true→DataW.TrodAll enc P w base spare held ts vs ds ps →
  (∀ (j:Nat) t v,ts[j]?=some t→vs[j]?=some v→Value.okWide P w r b t v)→∀ (γ:Gm) (H:Hp),LS γ H w→∃ γ' H' us as,LE γ H γ' H'∧LS γ' H' w∧bP γ' us vs∧rY H'.get DS as us∧C7 ss as
 | [],[],[],[],ps,_,_,_,γ,H,h=>⟨γ,H,[],[],.refl,h,bP.nil γ,⟨rfl,fun i a u x=>by cases x⟩,trivial⟩
 | s :: ss,t :: ts,v :: vs,x :: ds,ps,hs,ht,hok,γ,H,h=>by
  simp only [yR,Bool.and_eq_true] at hs
  obtain ⟨p,q,h1,h2,_⟩:=ht
  obtain ⟨γ1,H1,u,a,e1,q1,v1,d1,t1⟩:=HW hs.1 (hok 0 t v rfl rfl) h1 γ H h
  obtain ⟨γ2,H2,us,as,e2,q2,v2,d2,t2⟩:=BO hs.2 h2 (fun j t v a b=>hok (j+1) t v (by simpa using a) (by simpa using b)) γ1 H1 q1
  refine ⟨γ2,H2,u :: us,a :: as,e1.trans e2,q2,bP.cons (v1.mono e2.le) v2,⟨by simp [d2.1],fun i b w hb hw=>?_⟩,t1,t2⟩
  cases i with
  | zero=>cases hb;cases hw;exact e2.dr q1.wf d1
  | succ i=>exact d2.2 i b w (by simpa using hb) (by simpa using hw)
 | [],_ :: _,_,_,_,h,_,_,_,_,_=>by simp [yR] at h
 | _ :: _,[],_,_,_,h,_,_,_,_,_=>by simp [yR] at h
 | [],[],_ :: _,_,_,_,h,_,_,_,_=>by simp [DataW.TrodAll] at h
 | [],[],[],_ :: _,_,_,h,_,_,_,_=>by simp [DataW.TrodAll] at h
 | _ :: _,_ :: _,[],_,_,_,h,_,_,_,_=>by simp [DataW.TrodAll] at h
 | _ :: _,_ :: _,_ :: _,[],_,_,h,_,_,_,_=>by simp [DataW.TrodAll] at h
theorem LS.empty (w:World) (hg:∀ x ∈ GL,x.1 < w.heap.size∧HE (w.heap[x.1]?) x.2):LS ⟨fun _=>none,fun _=>0,w.heap.size⟩ Hp.empty w :=
 ⟨⟨fun k b o a h _=>(by cases h),fun k k' b o o' a a' h=>(by cases h),fun k b o h=>(by cases h),Nat.le_refl _,hg⟩,Bo,fun _ _=>rfl,fun k a h=>(by cases h)⟩
end
section
variable {T : bh} {tab : List XE} {one : Bool}
open Go.RowKit in
theorem C8 (hT:bf T) (hm:T.P.follows .mixedOrders=true) (ht:∀ e ∈ tab,gA T e) {f:FuncId} {v:Value} (hf:aP v=true) {D:Type} {enc:TypeId × Value→D} {base:Nat} {spare:Nat→Bool} {held:Bool} {d:Nat} {r:Reach} {b:Nat}
  {ss:List Sh} {ts:List TypeId} {args:Array Value} {ds:List (DataW D)} {ps:List MemPlace} {w:World} (hs:yR T.P d ss ts=true) (htr:DataW.TrodAll enc T.P w base spare held ts args.toList ds ps)
  (hok:∀ (j:Nat) t v,ts[j]?=some t→args.toList[j]?=some v→Value.okWide T.P w r b t v) (hp:∀ as,C7 ss as→af T tab one (.fn f [] []) as (.fl v))
  (hgl:∀ x ∈ GL,x.1 < w.heap.size∧HE (w.heap[x.1]?) x.2:=by intro x hx;exact absurd hx (by simp [GL])) :
  Calls T.P f args w fun e w'=>e=.returned v∧Below w.heap.size w w':=by
 obtain ⟨γ,H,us,as,e,q,v1,d1,t1⟩:=BO hs htr hok _ _ (LS.empty w hgl)
 obtain ⟨goal,hg,m,L,h1,_,h3⟩:=(hp as t1).2 DS H (.func (.func f) #[] #[]) us q.wf (fun k h=>h.elim) (.fn rfl rfl (fun i x u h=>by cases h) (fun i x u h=>by cases h)) d1
 have hgoal:goal=.fn f us:=by
  have:bQ (.func (.func f) #[] #[]) us=some (.fn f us):=by simp [bQ]
  rw [this] at hg
  exact (Option.some.inj hg).symm
 subst hgoal
 have hS:aX T (RX T tab m) m:=Bq ht (we hT hm ht m)
 have hN:∃ N,∀ r ∈ L,r.hp.n≤N:=by
  clear h3 h1
  rename_i hone
  clear hone
  induction L with
  | nil=>exact ⟨0,fun r hr=>by cases hr⟩
  | cons a l ih =>
   obtain ⟨N,hN⟩:=ih
   refine ⟨max a.hp.n N,fun r hr=>?_⟩
   rcases List.mem_cons.1 hr with rfl|hr
   ·omega
   ·have:=hN r hr;omega
 obtain ⟨N,hN⟩:=hN
 have hB:γ.B=w.heap.size:=e.le.B
 have hc:=(hS.call f us H L h1).2 γ w args.toList N q.wf q.hr (fun k hk _=>q.fr k hk) hN v1
 refine callsIn_wide.1 (CallsIn.mono (F:=FW none) hc fun en w' hR=>?_)
 obtain ⟨x,hp',x',γ1,hmem,rfl,hv,hst⟩:=hR
 obtain ⟨y,H',hy,_,_,_,_,hdr⟩:=h3 _ hmem
 cases hy
 have hx:x=v:=by
  cases hdr with
  | fl h=>rfl
 subst hx
 refine ⟨by rw [hv.bl hf],?_⟩
 rw [←hB]
 exact hst.gF.below q.hr
end
end Go.RM
namespace Go.RM
open Go
def eW (a b:AV):Prop:=∀ (ρ:Nat→Nat→Option Nat) (g:az) (O:Nat→Prop) (u:Value),AR ρ g O a u→AR ρ g O b u
theorem eW.refl (a:AV):eW a a:=fun _ _ _ _ h=>h
theorem eW.nil (b:Bool):eW (.fl (.slice none 0 0)) (.sl [] b):=fun _ _ _ u h=>by
 rw [h.eR.1]
 exact .d .nil
theorem eW.full {els:List (List AV)} {f:Bool}:eW (.sl els f) (.sl els false):=fun _ _ _ u h=>by
 have h:=h.deep rfl
 cases h with
 | nil=>exact .d .nil
 | sl h1 h2 h3 h4 h5 h6 h7=>exact .d (.sl h1 h2 h3 h4 h5 h6 (fun h=>by cases h))
def Ah (fr:Nat→AV):List (Nat × AV)→Prop
 | []=>True
 | (i,v) :: l=>eW (fr i) v∧Ah fr l
theorem yS {fr:Nat→AV}:∀ {l:List (Nat × AV)},Ah fr l→∀ t,eW (fr t) (bM l t)
 | [],_,t=>fun _ _ _ _ _=>.bL
 | (i,v) :: l,h,t=>by
  unfold bM
  rw [Tr.beq_eq]
  by_cases hti:t=i
  ·rw [decide_eq_true hti,hti]
   exact h.1
  ·rw [decide_eq_false hti]
   exact yS h.2 t
variable {T : bh} {tab : List XE} {one : Bool}
theorem aj.soft {st:aR} {l:List (Nat × AV)} (h:Ah st.fr l):aj st ⟨bM l,st.hp,st.av,st.rd,st.fl⟩ :=
 ⟨rfl,fun E _ _ hs=>⟨E,⟨hs.h,hs.rd,fun t=>yS h t _ _ _ _ (hs.fr t)⟩,.refl⟩⟩
theorem aj.KK {st:aR} {l:List (Nat × AV)} {hp:List AB} (n:Nat) (hh:st.hp.take n=hp) (hs:Ah st.fr l) (hn:st.fl≤n) (hl:(l.all fun p=>p.2.ig n)=true) (hb:hp.all (AB.ig n)=true):aj st ⟨bM l,hp,st.av,st.rd,st.fl⟩:=by
 subst hh
 exact (aj.soft hs).trans (aj.cut hn (wJ hl) hb)
def ir:List AV→List AV→Prop
 | [],[]=>True
 | a :: l,b :: m=>eW a b∧ir l m
 | _,_=>False
theorem ir.two {a b x y:AV} (h:eW a x) (k:eW b y):ir [a,b] [x,y]:=⟨h,k,trivial⟩
theorem ir.cons {a x:AV} {as xs:List AV} (h:eW a x) (k:ir as xs):ir (a :: as) (x :: xs):=⟨h,k⟩
theorem ir.nil:ir [] []:=trivial
theorem ir.Av {ρ:Nat→Nat→Option Nat} {g:az} {O:Nat→Prop}:∀ {as bs:List AV} {us:List Value},ir as bs→fh ρ g O as us→fh ρ g O bs us
 | [],[],_,_,h=>h
 | a :: as,b :: bs,[],_,h=>absurd h.1 (by simp)
 | a :: as,b :: bs,u :: us,hs,h=>by
  have:=ir.Av hs.2 (us:=us) ⟨by simpa using h.1,fun i a u x y=>h.2 (i+1) a u (by simpa using x) (by simpa using y)⟩
  refine ⟨by simp [this.1],fun i c w hc hw=>?_⟩
  cases i with
  | zero=>cases hc;cases hw;exact hs.1 _ _ _ _ (h.2 0 a u rfl rfl)
  | succ i=>exact this.2 i c w (by simpa using hc) (by simpa using hw)
 | [],_ :: _,_,hs,_=>hs.elim
 | _ :: _,[],_,hs,_=>hs.elim
theorem ai.soft {F:AV} {args vs:List AV} {hp:List AB} {av:bw} {Q:AV→List AB→bw→Prop} (hs:ir args vs) (h:ai T tab one F vs hp av Q):ai T tab one F args hp av Q :=
 fun E base H u us hr hf ha=>h E base H u us hr hf (hs.Av ha)
theorem Gl {mu:Tmp→Bool} {st:aR} {K:Exit→aR→Prop} (h:K .normal st):kE T tab one mu .skip st K:=h
theorem HX {mu:Tmp→Bool} {a b:Code} {st:aR} {K:Exit→aR→Prop} (h:kE T tab one mu a st (yc (fun s=>kE T tab one mu b s K) K)):kE T tab one mu (.seq a b) st K:=h
theorem HY {mu:Tmp→Bool} {id:Nat} {ops:Array Oper} {st:aR} {K:Exit→aR→Prop} (h:wpOps T tab one mu ops.toList ops.toList st (K .normal)):kE T tab one mu (.region id ops false) st K:=h
theorem BP {Q:aR→Prop} {K:Exit→aR→Prop} {s:aR} (h:Q s):yc Q K .normal s:=h
theorem iM.fl (v:Value):iM (.fl v):=⟨rfl,fun _ _ _ _ h=>by cases h with|fl h=>exact .fl h⟩
theorem iM.list {l:List AV} (h:∀ a ∈ l,iM a) {g:az} {O O':Nat→Prop} {us:List Value} (hd:∀ (i:Nat) (a:AV) (u:Value),l[i]?=some a→us[i]?=some u→DR g O a u) :
 ∀ (i:Nat) (a:AV) (u:Value),l[i]?=some a→us[i]?=some u→DR g O' a u:=fun i a u h1 h2=>(h a (List.mem_of_getElem? h1)).2 g O O' u (hd i a u h1 h2)
theorem BQ {l:List AV} (h:∀ a ∈ l,a.deep=true):de l=true:=by
 induction l with
 | nil=>rfl
 | cons a l ih =>
  simp only [de,Bool.and_eq_true]
  exact ⟨h a (by simp),ih fun b hb=>h b (List.mem_cons_of_mem _ hb)⟩
theorem iM.tp {l:List AV} (h:∀ a ∈ l,iM a):iM (.tp l):=⟨by simp only [AV.deep];exact BQ fun a ha=>(h a ha).1,fun _ _ _ _ hd=>by
 cases hd with
 | tp h1 h2=>exact .tp h1 (iM.list h h2)⟩
theorem iM.ag {l:List AV} (h:∀ a ∈ l,iM a):iM (.ag l):=⟨by simp only [AV.deep];exact BQ fun a ha=>(h a ha).1,fun _ _ _ _ hd=>by
 cases hd with
 | ag h1 h2=>exact .ag h1 (iM.list h h2)⟩
theorem Af.two {hp:List AB} {a b x y:AV} (h:Fz hp a x) (k:Fz hp b y):Af hp [a,b] [x,y]:=⟨h,k,trivial⟩
theorem Af.cons {hp:List AB} {a x:AV} {as xs:List AV} (h:Fz hp a x) (k:Af hp as xs):Af hp (a :: as) (x :: xs):=⟨h,k⟩
theorem Af.nil {hp:List AB}:Af hp [] []:=trivial
theorem af.KL {F:AV} {args vs:List AV} {v:AV} {hp:List AB} {av:bw} (h:af T tab one F vs v) (hF:F.deep=true) (hz:Af hp args vs) (hfree:iM v) {Q:AV→List AB→bw→Prop} (hq:Q v hp av):ai T tab one F args hp av Q:=by
 intro E base H u us hr hf ha
 obtain ⟨hd,h⟩:=h
 obtain ⟨goal,hg,m,L,h1,h2,h3⟩:=h E.X H u us hr.wf (fun k hk=>hr.xn k hk) ((hf.deep hF).mono fun k b hk ho=>⟨hk,fun hx=>ho (.inr hx)⟩) (hz.dr hr (fun _ h=>h) ha)
 refine ⟨goal,hg,m,L,h1,h2,fun r hm=>?_⟩
 obtain ⟨w,H',rfl,hn,hwf,hsame,hlo,hv⟩:=h3 r hm
 have e:Ext base E hp H E hp H':=⟨hn,rfl,rfl,rfl,fun _ _ _ h=>h,fun _ h=>.inl h,fun k hk _=>hsame k hk,by have:=hr.bn;omega⟩
 refine ⟨w,H',rfl,E,v,hp,av,hq,⟨hwf,fun j x ax hj hvx=>?_,hr.inj,fun j v k hk=>Nat.lt_of_lt_of_le (hr.rn j v k hk) hn,hr.fresh,hr.new,hr.sup,hr.iL,hr.dx,hr.ds,fun k hk=>Nat.lt_of_lt_of_le (hr.sn k hk) hn,fun k hk=>Nat.lt_of_lt_of_le (hr.xn k hk) hn,hr.qp,Nat.le_trans hr.bn hn,av.st hr.av (fun k hk=>hsame k (hr.sn k hk)) hn⟩,.d (hfree.2 _ _ _ _ hv),e.DN⟩
 rcases hr.gC j x ax hj hvx with ⟨k,b',q1,q2,q3⟩|q
 ·exact .inl ⟨k,b',q1,by rw [hsame k (hr.wf.lt q2)];exact q2,e.br hr.wf q3⟩
 ·exact .inr q
end Go.RM
