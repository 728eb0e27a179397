/-
  A layer of contracts over the abstract machine. Lemmas alone; no condition.
-/
import Derived.Test.YtlpmfgmldmdggaaGreatA1
import Derived.OpenShut
import Derived.ChangeArms
import Derived.DataReads
namespace Go.RM
open Go
structure aR where
 fr:Nat→AV
 hp:List AB
 au:bF
 rd:Bool
 fl:Nat
structure iC (fl base:Nat) (E:Env) (hp:List AB) (H:Hp) (E':Env) (hp':List AB) (H':Hp):Prop where
 n:H.n≤H'.n
 AD:∀ j v k,j < fl→E.ρ j v=some k→E'.ρ j v=some k
 own:∀ k,Own E'.ρ hp' k→Own E.ρ hp k∨H.n≤k
 d:∀ k,E'.D k→E.D k∨H.n≤k
 x:∀ k,E'.X k→E.X k∨H.n≤k
 xk:∀ k,E.X k→E'.X k
 s:∀ k,E'.S k→E.S k∨H.n≤k
 same:∀ k,k < H.n→¬ Own E.ρ hp k→¬ E.D k→H'.get k=H.get k
 lo:min H.lo base≤H'.lo
section
variable {T : bf} {tab : List XE} {one : Bool} {fl base : Nat} {E E' E2 : Env} {hp hp' hp2 : List AB} {au amb' : bF} {H H' H2 : Hp} {ρ : Nat → Nat → Option Nat} {g : ax} {O : Nat → Prop}
theorem iC.refl:iC fl base E hp H E hp H:=⟨Nat.le_refl _,fun _ _ _ _ h=>h,fun _ h=>.inl h,fun _ h=>.inl h,fun _ h=>.inl h,fun _ h=>h,fun _ h=>.inl h,fun _ _ _ _=>rfl,Nat.min_le_left _ _⟩
theorem iC.trans (a:iC fl base E hp H E' hp' H') (b:iC fl base E' hp' H' E2 hp2 H2):iC fl base E hp H E2 hp2 H2:=by
 have step:∀ {P P' P2:Nat→Prop},(∀ k,P' k→P k∨H.n≤k)→(∀ k,P2 k→P' k∨H'.n≤k)→∀ k,P2 k→P k∨H.n≤k:=by
  intro P P' P2 h1 h2 k hk
  rcases h2 k hk with h|h
  ·exact h1 k h
  ·exact .inr (Nat.le_trans a.n h)
 refine ⟨Nat.le_trans a.n b.n,fun j v k hl h=>b.AD j v k hl (a.AD j v k hl h),step a.own b.own,step a.d b.d,step a.x b.x,fun k h=>b.xk k (a.xk k h),step a.s b.s,fun k hk ho hd=>?_,?_⟩
 ·rw [b.same k (Nat.lt_of_lt_of_le hk a.n) (fun h=>(a.own k h).elim ho (fun h=>by omega)) (fun h=>(a.d k h).elim hd (fun h=>by omega)),a.same k hk ho hd]
 ·have:=a.lo;have:=b.lo;omega
theorem Ext.CN (e:Ext base E hp H E' hp' H'):iC fl base E hp H E' hp' H' :=
 ⟨e.n,fun j v k _ h=>e.AD j v k h,e.own,fun k h=>.inl (by rw [←e.d];exact h),fun k h=>.inl (by rw [←e.x];exact h),fun k h=>by rw [e.x];exact h,fun k h=>.inl (by rw [←e.s];exact h),fun k hk ho _=>e.same k hk ho,e.lo⟩
theorem iC.keep (e:iC fl base E hp H E' hp' H') (h:aH E base hp au H):∀ k b,H.get k=some b→¬ E.O hp k→H'.get k=some b∧¬ E'.O hp' k:=by
 intro k b hk ho
 have hlt:=h.wf.lt hk
 refine ⟨by rw [e.same k hlt (fun h=>ho (.inl h)) (fun hd=>ho (.inr (h.dx k hd)))];exact hk,fun h'=>?_⟩
 rcases h' with h'|h'
 ·rcases e.own k h' with h'|h'
  ·exact ho (.inl h')
  ·omega
 ·rcases e.x k h' with h'|h'
  ·exact ho (.inr h')
  ·omega
theorem iC.full (e:iC hp.length base E hp H E' hp' H') (h:aH E base hp au H):∀ j v k,E.ρ j v=some k→E'.ρ j v=some k:=fun j v k hk=>by
 by_cases hj:j < hp.length
 ·exact e.AD j v k hj hk
 ·rw [h.new j v (by omega)] at hk;cases hk
theorem iC.low (e:iC hp.length base E hp H E' hp' H') (h:aH E base hp au H) (fl:Nat):iC fl base E hp H E' hp' H':=⟨e.n,fun j v k _ hk=>e.full h j v k hk,e.own,e.d,e.x,e.xk,e.s,e.same,e.lo⟩
theorem iC.ar (e:iC hp.length base E hp H E' hp' H') (h:aH E base hp au H) {v:AV} {u:Value} (ha:AR E.ρ H.get (E.O hp) v u):AR E'.ρ H'.get (E'.O hp') v u:=ha.mono (e.full h) (e.keep h)
theorem iC.dr (e:iC fl base E hp H E' hp' H') (h:aH E base hp au H) {v:AV} {u:Value} (ha:DR H.get (E.O hp) v u):DR H'.get (E'.O hp') v u:=ha.mono (e.keep h)
theorem iC.fr (e:iC hp.length base E hp H E' hp' H') (h:aH E base hp au H) {fr:Nat→AV} {tm:Tr Value} (hf:m4 E.ρ H.get (E.O hp) fr tm):m4 E'.ρ H'.get (E'.O hp') fr tm:=fun t=>e.ar h (hf t)
def sB (fr:Nat→AV) (d:Option Tmp) (v:AV):Nat→AV :=
 match d with
 | some d=>fun t=>bif Nat.beq t d then v else fr t
 | none=>fr
theorem jl {fr:Nat→AV} {tm:Tr Value} (h:m4 ρ g O fr tm) {v:AV} {u:Value} (hv:AR ρ g O v u) (d:Option Tmp):m4 ρ g O (sB fr d v) (cK tm d u):=by
 cases d with
 | none=>exact h
 | some d =>
  intro t
  show AR ρ g O (bif Nat.beq t d then v else fr t) (((tm.set d u).get t).getD undef)
  rw [Tr.fU,Tr.beq_eq]
  by_cases htd:t=d
  ·rw [if_pos htd,decide_eq_true htd];exact hv
  ·rw [if_neg htd,decide_eq_false htd];exact h t
structure jy (E:Env) (base:Nat) (st:aR) (s:St):Prop where
 h:aH E base st.hp st.au s.hp
 rd:s.rd=st.rd
 fr:m4 E.ρ s.hp.get (E.O st.hp) st.fr s.fr
def ah (T:bf) (tab:List XE) (one:Bool) (F:AV) (args:List AV) (hp:List AB) (au:bF) (Q:AV→List AB→bF→Prop):Prop :=
 ∀ (E:Env) (base:Nat) (H:Hp) (u:Value) (us:List Value),aH E base hp au H→AR E.ρ H.get (E.O hp) F u→eY E.ρ H.get (E.O hp) args us→∃ goal,bK u us=some goal ∧
  ∃ m L,RX T tab m (jN H goal)=some L∧(one=true→∃ r,L=[r])∧∀ r ∈ L,∃ w H',r=.ret w H' ∧
   ∃ E' a hp' amb',Q a hp' amb'∧aH E' base hp' amb' H'∧AR E'.ρ H'.get (E'.O hp') a w∧iC hp.length base E hp H E' hp' H'
def af (T:bf) (tab:List XE) (one:Bool) (F:AV) (args:List AV) (v:AV):Prop :=
 v.deep=true∧∀ (X:Nat→Prop) (H:Hp) (u:Value) (us:List Value),Wf H→(∀ k,X k→k < H.n)→DR H.get X F u→rq H.get X args us→∃ goal,bK u us=some goal ∧
  ∃ m L,RX T tab m (jN H goal)=some L∧(one=true→∃ r,L=[r])∧∀ r ∈ L,∃ w H',r=.ret w H' ∧
   H.n≤H'.n∧Wf H'∧(∀ k,k < H.n→H'.get k=H.get k)∧min H.lo H.n≤H'.lo∧DR H'.get X v w
theorem af.call {F:AV} {args:List AV} {v:AV} (h:af T tab one F args v) (hF:F.deep=true) (hargs:dJ args=true) {Q:AV→List AB→bF→Prop} (hq:Q v hp au):ah T tab one F args hp au Q:=by
 intro E base H u us hr hf ha
 obtain ⟨hd,h⟩:=h
 obtain ⟨goal,hg,m,L,h1,h2,h3⟩:=h (E.O hp) H u us hr.wf (fun k hk=>hk.elim (fun h=>hr.mc h) (hr.xn k)) (hf.deep hF) (ha.deep hargs)
 refine ⟨goal,hg,m,L,h1,h2,fun r hm=>?_⟩
 obtain ⟨w,H',rfl,hn,hwf,hsame,hlo,hv⟩:=h3 r hm
 have e:Ext base E hp H E hp H':=⟨hn,rfl,rfl,rfl,fun _ _ _ h=>h,fun _ h=>.inl h,fun k hk _=>hsame k hk,by have:=hr.bn;omega⟩
 refine ⟨w,H',rfl,E,v,hp,au,hq,⟨hwf,fun j x av hj hvx=>?_,hr.inj,fun j v k hk=>Nat.lt_of_lt_of_le (hr.rn j v k hk) hn,hr.fresh,hr.new,hr.sup,hr.iD,hr.dx,hr.ds,fun k hk=>Nat.lt_of_lt_of_le (hr.sn k hk) hn,fun k hk=>Nat.lt_of_lt_of_le (hr.xn k hk) hn,hr.pR,Nat.le_trans hr.bn hn,au.st hr.au (fun k hk=>hsame k (hr.sn k hk)) hn⟩,.d hv,e.CN⟩
 rcases hr.gn j x av hj hvx with ⟨k,b',q1,q2,q3⟩|q
 ·exact .inl ⟨k,b',q1,by rw [hsame k (hr.wf.lt q2)];exact q2,e.br hr.wf q3⟩
 ·exact .inr q
theorem af.weak {F:AV} {args:List AV} {v:AV} (h:af T tab one F args v):af T tab false F args v :=
 ⟨h.1,fun X H u us h1 h2 h3 h4=>by
  obtain ⟨goal,hg,m,L,q1,q2,q3⟩:=h.2 X H u us h1 h2 h3 h4
  exact ⟨goal,hg,m,L,q1,fun h=>Bool.noConfusion h,q3⟩⟩
theorem ah.mono {F:AV} {args:List AV} {Q Q':AV→List AB→bF→Prop} (h:ah T tab one F args hp au Q) (hq:∀ a hp au,Q a hp au→Q' a hp au):ah T tab one F args hp au Q':=by
 intro E base H u us hr hf ha
 obtain ⟨goal,hg,m,L,h1,h2,h3⟩:=h E base H u us hr hf ha
 refine ⟨goal,hg,m,L,h1,h2,fun r hm=>?_⟩
 obtain ⟨w,H',rfl,E',a,hp',amb',q1,q2⟩:=h3 r hm
 exact ⟨w,H',rfl,E',a,hp',amb',hq _ _ _ q1,q2⟩
theorem vC:AR ρ g O (.tp []) undef:=.d (.tp rfl (fun i a u hx=>by cases hx))
def cS (ops:List Oper) (gd:Option (Nat × Bool)) (fr:Nat→AV) (yes no:Prop):Prop :=
 match gd with
 | none=>yes
 | some (j,want)=>match ops[j]? with
  | some ⟨some d,_,_,_,_,_⟩=>match fr d with
   | .fl (.bool b)=>(b=want→yes)∧(b=(!want)→no)
   | .tp _=>no
   | _=>False
  | _=>False
def fY (d:Option Tmp) (fr:Nat→AV) (v:AV) (K:(Nat→AV)→Prop):Prop :=
 match d with
 | some d=>K fun t=>bif Nat.beq t d then v else fr t
 | none=>K fr
theorem gy {d:Option Tmp} {fr:Nat→AV} {v:AV} {K:(Nat→AV)→Prop} (h:fY d fr v K):K (sB fr d v):=by cases d <;> exact h
def DF (mu:Tmp→Bool):Option Tmp→Bool
 | some d=>mu d
 | none=>false
def xP (P:Program) (v:AV) (name:String):AV :=
 match v with
 | .fl (.iface t x)=>match aA P (method (P.types.size+Made.depth) t x name) with
  | some (f,v)=>bif flat v then .fn f [ru v] [] else .bE
  | none=>.bE
 | _=>.bE
def Ju (P:Program) (fr:Nat→AV):ID→AV
 | .op f=>aQ fr f
 | .Df r name=>xP P (aQ fr r) name
theorem EO {ρ:Nat→Nat→Option Nat} {g:ax} {O:Nat→Prop} {P:Program} {v:AV} {u:Value} (hr:AR ρ g O v u) (name:String):AR ρ g O (xP P v name) (uw P u name):=by
 unfold xP
 split
 ·rename_i t x
  obtain ⟨e1,_⟩:=hr.eJ
  rw [e1]
  unfold uw
  simp only
  cases hp:aA P (method (P.types.size+Made.depth) t x name) with
  | none=>exact .bE
  | some p =>
   obtain ⟨f,v⟩:=p
   simp only
   cases hv:flat v with
   | true =>
    simp only [cond_true]
    refine .fn (a:=[ru v]) (b:=[]) (a':=#[v]) (b':=#[]) rfl rfl (fun i x u hx hu=>?_) (fun i x u hx=>by cases hx)
    cases i with
    | zero =>
     cases hx
     cases hu
     exact lA hv
    | succ i=>cases hx
   | false=>exact .bE
 ·exact .bE
theorem EP {ρ:Nat→Nat→Option Nat} {g:ax} {O:Nat→Prop} {P:Program} {fr:Nat→AV} {tm:Tr Value} (h:m4 ρ g O fr tm) (f:ID):AR ρ g O (Ju P fr f) (lW P tm f):=by
 cases f with
 | op f=>exact gG h f
 | Df r name=>exact EO (gG h r) name
def rD (T:bf) (tab:List XE) (one:Bool) (mu:Tmp→Bool) (dst:Option Tmp) (op:Op) (fr:Nat→AV) (hp:List AB) (au:bF) (rd:Bool) (fl:Nat) (K:aR→Prop):Prop :=
 match cm op with
 | .call f args=>force (Ju T.P fr f) fun F=>eK (args.map (aQ fr)) fun as=>ah T tab one F as hp au fun v hp' amb'=>fY dst fr v fun fr'=>K ⟨fr',hp',amb',rd,fl⟩
 | .next it=>one=false∧force (aQ fr it) fun x=>y7 x hp fun v hp'=>fY dst fr v fun fr'=>K ⟨fr',hp',au,rd,fl⟩
 | .plain=>wpOp T (DF mu dst) op fr hp fun v hp'=>force v fun v=>fY dst fr v fun fr'=>K ⟨fr',hp',au,rd,fl⟩
def wpOps (T:bf) (tab:List XE) (one:Bool) (mu:Tmp→Bool) (ops:List Oper):List Oper→aR→(aR→Prop)→Prop
 | [],st,K=>K st
 | ⟨dst,op,_,_,_,gd⟩ :: l,⟨fr,hp,au,rd,fl⟩,K=>cS ops gd fr (rD T tab one mu dst op fr hp au rd fl fun st'=>wpOps T tab one mu ops l st' K) (fY dst fr (.tp []) fun fr'=>wpOps T tab one mu ops l ⟨fr',hp,au,rd,fl⟩ K)
def kT {β:Type} (one:Bool) (L:List β) (P:β→Prop):Prop:=(one=true→∃ p,L=[p])∧∀ p ∈ L,P p
theorem kT.single {β:Type} {p:β} {P:β→Prop} (h:P p):kT one [p] P:=⟨fun _=>⟨p,rfl⟩,fun q hq=>by obtain rfl:=List.mem_singleton.1 hq;exact h⟩
theorem cy {α β:Type} {f:Nat→α→Option (List β)} {P:β→Prop} (mono:∀ n m x M,n≤m→f n x=some M→f m x=some M):∀ {L:List α} (n0:Nat),(one=true→∃ x,L=[x])→(∀ x ∈ L,∃ m M,f m x=some M∧kT one M P) →
  ∃ m M,n0≤m∧aK L (f m)=some M∧kT one M P
 | [],n0,h1,_=>⟨n0,[],Nat.le_refl _,rfl,⟨fun h=>absurd (h1 h) (fun ⟨x,hx⟩=>by cases hx),fun p hp=>by cases hp⟩⟩
 | [x],n0,_,h=>by
  obtain ⟨m,M,h1,h2⟩:=h x (by simp)
  exact ⟨max n0 m,M,Nat.le_max_left _ _,by rw [cN];exact mono m _ x M (Nat.le_max_right _ _) h1,h2⟩
 | x :: y :: l,n0,h1,h=>by
  have hone:one=false:=by
   cases hb:one with
   | false=>rfl
   | true=>obtain ⟨z,hz⟩:=h1 hb;cases hz
  have hno:one=true→False:=fun h=>by rw [hone] at h;cases h
  obtain ⟨m,M,a1,a2⟩:=h x (by simp)
  obtain ⟨m',M',b0,b1,b2⟩:=cy mono (L:=y :: l) (max n0 m) (fun h=>(hno h).elim) (fun z hz=>h z (List.mem_cons_of_mem _ hz))
  have hle:=Nat.max_le.1 b0
  refine ⟨m',M++M',hle.1,?_,⟨fun h=>(hno h).elim,fun p hp=>?_⟩⟩
  ·rw [ej,mono m m' x M hle.2 a1]
   simp only [b1,Option.map_some]
  ·rcases List.mem_append.1 hp with hp|hp
   ·exact a2.2 p hp
   ·exact b2.2 p hp
def qi (E:Env) (base:Nat) (st:aR) (s:St) (K:aR→Prop) (s':St):Prop:=∃ E' st',K st'∧st'.fl=st.fl∧jy E' base st' s'∧iC st.fl base E st.hp s.hp E' st'.hp s'.hp
theorem fM {b want:Bool} {yes no:Prop} (h:b=want) (y:yes):(b=want→yes)∧(b=(!want)→no):=by subst h;exact ⟨fun _=>y,fun h'=>by cases b <;> cases h'⟩
theorem gz {b want:Bool} {yes no:Prop} (h:b=(!want)) (n:no):(b=want→yes)∧(b=(!want)→no):=by subst h;exact ⟨fun h'=>(by cases want <;> cases h'),fun _=>n⟩
theorem Gi {t:Bool} {a b:Prop} (h:t=true) (y:a):(t=true→a)∧(t=false→b):=by subst h;exact ⟨fun _=>y,fun h'=>by cases h'⟩
theorem HP {t:Bool} {a b:Prop} (h:t=false) (y:b):(t=true→a)∧(t=false→b):=by subst h;exact ⟨fun h'=>(by cases h'),fun _=>y⟩
theorem vD {ops:List Oper} {gd:Option (Nat × Bool)} {fr:Nat→AV} {tm:Tr Value} (hf:m4 ρ g O fr tm) {yes no:Prop} (h:cS ops gd fr yes no):(aP ops tm gd=true∧yes)∨(aP ops tm gd=false∧no):=by
 unfold cS at h
 unfold aP
 split at h
 ·exact .inl ⟨rfl,h⟩
 ·rename_i j want
  split at h
  ·rename_i d o1 o2 o3 o4 o5 ho
   simp only [ho]
   split at h
   ·rename_i b hb
    have:=hf d
    rw [hb] at this
    have hv:=this.eJ.1
    cases hd:tm.get d with
    | none=>rw [hd] at hv;cases hv
    | some v =>
     rw [hd] at hv
     simp only [Option.getD_some] at hv
     subst hv
     simp only
     cases b <;> cases want <;> first|exact .inl ⟨rfl,h.1 rfl⟩|exact .inr ⟨rfl,h.2 rfl⟩
   ·rename_i vs hb
    have:=hf d
    rw [hb] at this
    obtain ⟨us,hv,_⟩:=this.vt
    cases hd:tm.get d with
    | none=>exact .inr ⟨rfl,h⟩
    | some v =>
     rw [hd] at hv
     simp only [Option.getD_some] at hv
     subst hv
     exact .inr ⟨rfl,h⟩
   ·exact h.elim
  ·exact h.elim
theorem fN {mu:Tmp→Bool} {ops:List Oper}:∀ {l:List Oper} {st:aR} {K:aR→Prop},wpOps T tab one mu ops l st K→∀ {E:Env} {base:Nat} {s:St},jy E base st s →
  ∃ m L,aE T (RX T tab m) ops l s=some L∧kT one L (qi E base st s K)
 | [],st,K,h,E,base,s,hs=>⟨0,[s],rfl,.single ⟨E,st,h,rfl,hs,.refl⟩⟩
 | o :: l,st,K,h,E,base,s,hs=>by
  have h:cS ops o.guard st.fr (rD T tab one mu o.dst o.op st.fr st.hp st.au st.rd st.fl fun st'=>wpOps T tab one mu ops l st' K) (fY o.dst st.fr (.tp []) fun fr'=>wpOps T tab one mu ops l ⟨fr',st.hp,st.au,st.rd,st.fl⟩ K):=h
  rcases vD hs.fr h with ⟨hg,h⟩|⟨hg,h⟩
  ·
   have rest:∀ {E':Env} {st':aR} {s':St},st'.fl=st.fl→iC st.fl base E st.hp s.hp E' st'.hp s'.hp→jy E' base st' s'→wpOps T tab one mu ops l st' K→∃ m L,aE T (RX T tab m) ops l s'=some L∧kT one L (qi E base st s K):=by
    intro E' st' s' hfl hfm hs' hw
    obtain ⟨m,L,h1,h2,h3⟩:=fN hw hs'
    refine ⟨m,L,h1,h2,fun p hp=>?_⟩
    obtain ⟨E2,st2,k1,k0,k2,k3⟩:=h3 p hp
    rw [hfl] at k3
    exact ⟨E2,st2,k1,k0.trans hfl,k2,hfm.trans k3⟩
   have fin:∀ (m0:Nat) (L0:List (Value × Hp)),(∀ m,m0≤m→dS T (RX T tab m) o.op s=some L0)→(one=true→∃ x,L0=[x])→(∀ p ∈ L0,∃ m L,aE T (RX T tab m) ops l ⟨cK s.fr o.dst p.1,p.2,s.rd⟩=some L∧kT one L (qi E base st s K)) →
     ∃ m L,aE T (RX T tab m) ops (o :: l) s=some L∧kT one L (qi E base st s K):=by
    intro m0 L0 h0 h1 h2
    obtain ⟨m,M,hm,q1,q2⟩:=cy (one:=one) (f:=fun m (p:Value × Hp)=>aE T (RX T tab m) ops l ⟨cK s.fr o.dst p.1,p.2,s.rd⟩) (P:=qi E base st s K) (fun n m x M hnm hx=>fK (dI hnm) ops l _ M hx) m0 h1 h2
    refine ⟨m,M,?_,q2⟩
    rw [bD,hg]
    simp only [cond_true,h0 m hm]
    exact q1
   unfold rD at h
   split at h
   ·rename_i f args hk
    have h:=gV (dw h)
    obtain ⟨goal,hgo,m0,L0,q1,q2,q3⟩:=h E base s.hp _ _ hs.h (EP hs.fr f) (iw hs.fr args)
    have hval:∃ V,aK L0 valOf=some V∧(one=true→∃ x,V=[x])∧∀ p ∈ V,∃ r ∈ L0,r=.ret p.1 p.2:=by
     have:∀ (L:List eM),(∀ r ∈ L,∃ w H',r=eM.ret w H')→∃ V,aK L valOf=some V∧V.length=L.length∧∀ p ∈ V,∃ r ∈ L,r=.ret p.1 p.2:=by
      intro L
      induction L with
      | nil=>intro _;exact ⟨[],rfl,rfl,fun p hp=>by cases hp⟩
      | cons r L ih =>
       intro hr
       obtain ⟨w,H',hrr⟩:=hr r (by simp)
       obtain ⟨V,v1,v2,v3⟩:=ih (fun r' h'=>hr r' (List.mem_cons_of_mem _ h'))
       cases L with
       | nil =>
        refine ⟨[(w,H')],by rw [cN,hrr];rfl,rfl,fun p hp=>?_⟩
        obtain rfl:=List.mem_singleton.1 hp
        exact ⟨r,by simp,hrr⟩
       | cons r2 L2 =>
        refine ⟨(w,H') :: V,?_,by simp [v2],fun p hp=>?_⟩
        ·rw [ej,hrr]
         simp only [valOf,v1,Option.map_some]
         rfl
        ·rcases List.mem_cons.1 hp with rfl|hp
         ·exact ⟨r,by simp,hrr⟩
         ·obtain ⟨r',m1,m2⟩:=v3 p hp
          exact ⟨r',List.mem_cons_of_mem _ m1,m2⟩
     obtain ⟨V,v1,v2,v3⟩:=this L0 (fun r hr=>by obtain ⟨w,H',e,_⟩:=q3 r hr;exact ⟨w,H',e⟩)
     refine ⟨V,v1,fun h1=>?_,v3⟩
     obtain ⟨r,hr⟩:=q2 h1
     subst hr
     match V,v2 with
     | [x],_=>exact ⟨x,rfl⟩
    obtain ⟨V,v1,v2,v3⟩:=hval
    refine fin m0 V (fun m hm=>?_) v2 (fun p hp=>?_)
    ·unfold dS
     simp only [hk,hgo,dI hm _ _ q1]
     exact v1
    ·obtain ⟨r,hr,hrr⟩:=v3 p hp
     obtain ⟨w,H',e1,E',a,hp',amb',k1,k2,k3,k4⟩:=q3 r hr
     rw [hrr] at e1
     cases e1
     exact rest (st':=⟨sB st.fr o.dst a,hp',amb',st.rd,st.fl⟩) rfl (k4.low hs.h _) ⟨k2,hs.rd,jl (k4.fr hs.h hs.fr) k3 o.dst⟩ (gy k1)
   ·rename_i it hk
    obtain ⟨hone,h⟩:=h
    obtain ⟨L,q1,q2⟩:=w6 hs.h (gG hs.fr it) (dw h)
    refine fin 0 (L.map fun (v,e)=>(v,s.hp.app e)) (fun m _=>?_) (fun h1=>by rw [hone] at h1;cases h1) (fun p hp=>?_)
    ·unfold dS
     simp only [hk,q1,Option.map_some]
    ·obtain ⟨x,hx,rfl⟩:=List.mem_map.1 hp
     obtain ⟨E',a,hp',k1,k2,k3,k4⟩:=q2 x hx
     exact rest (st':=⟨sB st.fr o.dst a,hp',st.au,st.rd,st.fl⟩) rfl k3.CN ⟨k2,hs.rd,jl (k3.CN.fr hs.h hs.fr) k4 o.dst⟩ (gy k1)
   ·rename_i hk
    obtain ⟨u,e,E',a,hp',r1,r2,r3,r4,r5⟩:=qh hs.h hs.fr h
    refine fin 0 [(u,s.hp.app e)] (fun m _=>?_) (fun _=>⟨_,rfl⟩) (fun p hp=>?_)
    ·unfold dS
     simp only [hk,r1]
    ·obtain rfl:=List.mem_singleton.1 hp
     exact rest (st':=⟨sB st.fr o.dst a,hp',st.au,st.rd,st.fl⟩) rfl r4.CN ⟨r3,hs.rd,jl (r4.CN.fr hs.h hs.fr) r5 o.dst⟩ (gy (dw r2))
  ·obtain ⟨m,L,h1,h2⟩:=fN (gy h) (E:=E) (base:=base) (s:=⟨cK s.fr o.dst undef,s.hp,s.rd⟩) ⟨hs.h,hs.rd,jl hs.fr vC o.dst⟩
   refine ⟨m,L,?_,h2⟩
   rw [bD,hg]
   exact h1
def aL (T:bf) (tab:List XE) (one:Bool) (c:Code) (st:aR) (K:Exit→aR→Prop):Prop :=
 ∀ (E:Env) (base:Nat) (s:St),jy E base st s→∃ m L,aY T (RX T tab m) c s=some L∧kT one L fun p=>qi E base st s (K p.1) p.2
theorem aL.mono {c:Code} {st:aR} {K K':Exit→aR→Prop} (h:aL T tab one c st K) (hk:∀ e s,K e s→K' e s):aL T tab one c st K':=by
 intro E base s hs
 obtain ⟨m,L,h1,h2,h3⟩:=h E base s hs
 refine ⟨m,L,h1,h2,fun p hp=>?_⟩
 obtain ⟨E',st',k1,k2⟩:=h3 p hp
 exact ⟨E',st',hk _ _ k1,k2⟩
def DG (st st':aR):Prop:=st'.hp=st.hp∧(st'.au=st.au∧st'.rd=st.rd)∧st'.fl=st.fl∧∀ t,st'.fr t=st.fr t∨st'.fr t=.bE
theorem DG.rel {st st':aR} (h:DG st st') {s:St} (hs:jy E base st s):jy E base st' s:=by
 obtain ⟨h1,⟨h2,h3⟩,h0,h4⟩:=h
 refine ⟨by rw [h1,h2];exact hs.h,by rw [h3];exact hs.rd,fun t=>?_⟩
 rw [h1]
 rcases h4 t with h|h
 ·rw [h];exact hs.fr t
 ·rw [h];exact .bE
theorem aL.weak {c:Code} {st st':aR} {K:Exit→aR→Prop} (hw:DG st st') (h:aL T tab one c st' K):aL T tab one c st K:=by
 intro E base s hs
 obtain ⟨m,L,h1,h2,h3⟩:=h E base s (hw.rel hs)
 refine ⟨m,L,h1,h2,fun p hp=>?_⟩
 obtain ⟨E',st2,k1,k0,k2,k3⟩:=h3 p hp
 rw [hw.2.2.1,hw.1] at k3
 exact ⟨E',st2,k1,k0.trans hw.2.2.1,k2,k3⟩
def w9 (Kb:aR→Prop) (K:Exit→aR→Prop) (e:Exit) (s:aR):Prop :=
 match e with
 | .normal=>Kb s
 | e=>K e s
theorem aL.seq {a b:Code} {st:aR} {K:Exit→aR→Prop} (h:aL T tab one a st (w9 (fun s=>aL T tab one b s K) K)):aL T tab one (.seq a b) st K:=by
 intro E base s hs
 obtain ⟨m0,L0,h1,h2,h3⟩:=h E base s hs
 obtain ⟨m,M,hm,q1,q2⟩:=cy (one:=one) (L:=L0) (f:=fun m (p:Exit × St)=>tK (aY T (RX T tab m) b) p) (P:=fun p=>qi E base st s (K p.1) p.2) (fun n m x M hnm hx=>by
   unfold tK at hx ⊢
   split at hx
   ·exact dO (dI hnm) _ _ _ hx
   ·exact hx) m0 h2 (fun p hp=>by
  obtain ⟨E',st',k1,k0,k2,k3⟩:=h3 p hp
  obtain ⟨e,s'⟩:=p
  have other:(∀ st',w9 (fun s=>aL T tab one b s K) K e st'=K e st')→(tK (aY T (RX T tab 0) b) (e,s')=some [(e,s')])→∃ m M,tK (aY T (RX T tab m) b) (e,s')=some M∧kT one M fun p=>qi E base st s (K p.1) p.2:=by
   intro h1 h2
   refine ⟨0,[(e,s')],h2,.single ⟨E',st',?_,k0,k2,k3⟩⟩
   rw [←h1];exact k1
  cases e with
  | normal =>
   obtain ⟨m,M,r1,r2,r3⟩:=k1 E' base s' k2
   refine ⟨m,M,r1,r2,fun q hq=>?_⟩
   obtain ⟨E2,st2,j1,j0,j2,j3⟩:=r3 q hq
   rw [k0] at j3
   exact ⟨E2,st2,j1,j0.trans k0,j2,k3.trans j3⟩
  | _=>exact other (fun _=>rfl) rfl)
 refine ⟨m,M,?_,q2⟩
 rw [kj,dO (dI hm) _ _ _ h1]
 exact q1
theorem aL.cond {c:Operand} {a b:Code} {st:aR} {K:Exit→aR→Prop} {t:Bool} (hc:aQ st.fr c=.fl (.bool t)) (h1:t=true→aL T tab one a st K) (h2:t=false→aL T tab one b st K):aL T tab one (.cond c a b) st K:=by
 intro E base s hs
 have:=gG hs.fr c
 rw [hc] at this
 have hv:=this.eJ.1
 cases t with
 | true =>
  obtain ⟨m,L,q1,q2⟩:=h1 rfl E base s hs
  exact ⟨m,L,by rw [iN,hv];exact q1,q2⟩
 | false =>
  obtain ⟨m,L,q1,q2⟩:=h2 rfl E base s hs
  exact ⟨m,L,by rw [iN,hv];exact q1,q2⟩
def kQ (id:Nat) (K:Exit→aR→Prop) (e:Exit) (s:aR):Prop :=
 match e with
 | .exit id'=>bif Nat.beq id' id then K .normal s else K (.exit id') s
 | e=>K e s
theorem aL.block {id:Nat} {c:Code} {st:aR} {K:Exit→aR→Prop} (h:aL T tab one c st (kQ id K)):aL T tab one (.block id c) st K:=by
 intro E base s hs
 obtain ⟨m,L,q1,q2,q3⟩:=h E base s hs
 refine ⟨m,L.map (fS id),by rw [ju,q1],fun h1=>?_,fun p hp=>?_⟩
 ·obtain ⟨p,hp⟩:=q2 h1
  exact ⟨_,by rw [hp];rfl⟩
 ·obtain ⟨p0,hm,rfl⟩:=List.mem_map.1 hp
  obtain ⟨E',st',k1,k2,k3⟩:=q3 p0 hm
  obtain ⟨e,s'⟩:=p0
  unfold kQ at k1
  cases e with
  | exit id' =>
   simp only [fS]
   simp only at k1
   cases hb:Nat.beq id' id with
   | true=>rw [hb] at k1;exact ⟨E',st',k1,k2,k3⟩
   | false=>rw [hb] at k1;exact ⟨E',st',k1,k2,k3⟩
  | _=>exact ⟨E',st',k1,k2,k3⟩
theorem aL.ops {id:Nat} {ops:Array Oper} {mu:Tmp→Bool} {st:aR} {K:Exit→aR→Prop} (h:wpOps T tab one mu ops.toList ops.toList st (K .normal)):aL T tab one (.region id ops false) st K:=by
 intro E base s hs
 obtain ⟨m,L,q1,q2,q3⟩:=fN h hs
 refine ⟨m,L.map fun s=>(.normal,s),by rw [dD];simp only [cond_false,q1],fun h1=>?_,fun p hp=>?_⟩
 ·obtain ⟨p,hp⟩:=q2 h1
  exact ⟨_,by rw [hp];rfl⟩
 ·obtain ⟨s',hm,rfl⟩:=List.mem_map.1 hp
  exact q3 s' hm
theorem aL.here {c:Code} {e:Exit} {st:aR} {K:Exit→aR→Prop} (hc:∀ rec s,aY T rec c s=some [(e,s)]) (h:K e st):aL T tab one c st K :=
 fun E _ s hs=>⟨0,[(e,s)],hc _ _,.single ⟨E,st,h,rfl,hs,.refl⟩⟩
def sC (K:Exit→aR→Prop) (e:Exit) (s:aR):Prop :=
 match e with
 | .goto _=>False
 | e=>K e s
theorem aL.scope {c:Code} {st:aR} {K:Exit→aR→Prop} (h:aL T tab one c st (sC K)):aL T tab one (.scope c) st K:=by
 intro E base s hs
 obtain ⟨m,L,q1,q2,q3⟩:=h E base s hs
 refine ⟨m,L,?_,q2,fun p hp=>?_⟩
 ·rw [k9,q1]
  unfold uy
  have:L.all noGoto=true:=by
   rw [List.all_eq_true]
   intro p hp
   obtain ⟨_,_,k1,_⟩:=q3 p hp
   obtain ⟨e,s'⟩:=p
   cases e <;> first|rfl|exact k1.elim
  simp only [this,cond_true]
 ·obtain ⟨E',st',k1,k2⟩:=q3 p hp
  refine ⟨E',st',?_,k2⟩
  obtain ⟨e,s'⟩:=p
  cases e <;> first|exact k1|exact k1.elim
end
end Go.RM
namespace Go.RM
open Go
section
variable {T : bf} {tab : List XE} {one : Bool} {fl base : Nat} {E E' E2 : Env} {hp hp' hp2 : List AB} {au amb' : bF} {H H' H2 : Hp} {ρ : Nat → Nat → Option Nat} {g : ax} {O : Nat → Prop}
mutual
def AV.iE (n:Nat):AV→Bool
 | .fl _=>true
 | .sl _ _=>true
 | .pt _ _=>true
 | .fn _ a b=>tX n a && tX n b
 | .ag a=>tX n a
 | .tp a=>tX n a
 | .oq _=>true
 | .bE=>true
 | .ptr j _ _=>Nat.blt j n
 | .dY j _ _ _ _=>Nat.blt j n
 | .om j=>Nat.blt j n
def tX (n:Nat):List AV→Bool
 | []=>true
 | a :: l=>a.iE n && tX n l
end
theorem mh {n:Nat}:∀ {l:List AV},tX n l=true→∀ (i:Nat) (a:AV),l[i]?=some a→a.iE n=true
 | [],_,i,a,h=>by cases h
 | x :: l,h,i,a,ha=>by
  simp only [tX,Bool.and_eq_true] at h
  cases i with
  | zero=>cases ha;exact h.1
  | succ i=>exact mh h.2 i a (by simpa using ha)
def eR (n:Nat) (ρ:Nat→Nat→Option Nat):Nat→Nat→Option Nat:=fun j v=>if j < n then ρ j v else none
theorem AR.iE {n:Nat} {v:AV} {u:Value} (h:AR ρ g O v u):v.iE n=true→AR (eR n ρ) g O v u:=by
 have lt:∀ {j:Nat},Nat.blt j n=true→j < n:=fun h=>Nat.le_of_ble_eq_true h
 induction h with
 | d h=>intro _;exact .d h
 | bE=>intro _;exact .bE
 | ptr h=>intro hd;simp only [AV.iE] at hd;exact .ptr (by rw [eR,if_pos (lt hd)];exact h)
 | dY h=>intro hd;simp only [AV.iE] at hd;exact .dY (by rw [eR,if_pos (lt hd)];exact h)
 | qe hc=>intro _;exact .qe hc
 | om h=>intro hd;simp only [AV.iE] at hd;exact .om (by rw [eR,if_pos (lt hd)];exact h)
 | fn ha hb h1 h2 ih1 ih2 =>
  intro hd
  simp only [AV.iE,Bool.and_eq_true] at hd
  exact .fn ha hb (fun i x u hx hu=>ih1 i x u hx hu (mh hd.1 i x hx)) (fun i x u hx hu=>ih2 i x u hx hu (mh hd.2 i x hx))
 | ag ha h1 ih=>intro hd;simp only [AV.iE] at hd;exact .ag ha (fun i x u hx hu=>ih i x u hx hu (mh hd i x hx))
 | tp ha h1 ih=>intro hd;simp only [AV.iE] at hd;exact .tp ha (fun i x u hx hu=>ih i x u hx hu (mh hd i x hx))
def AB.iE (n:Nat):AB→Bool
 | .cells cs _ _=>tX n cs
 | .dj _ _=>true
 | .map ents _=>ents.all fun p=>p.1.iE n && p.2.1.iE n
 | .iter j _ _ _=>Nat.blt j n
 | .gone=>true
def ai (st st':aR):Prop:=st'.fl=st.fl∧∀ (E:Env) (base:Nat) (s:St),jy E base st s→∃ E',jy E' base st' s∧iC st.fl base E st.hp s.hp E' st'.hp s.hp
theorem ai.refl (st:aR):ai st st:=⟨rfl,fun E _ _ h=>⟨E,h,.refl⟩⟩
theorem ai.trans {a b c:aR} (h:ai a b) (k:ai b c):ai a c:=⟨k.1.trans h.1,fun E base s hs=>by
 obtain ⟨E1,h1,h2⟩:=h.2 E base s hs
 obtain ⟨E2,k1,k2⟩:=k.2 E1 base s h1
 rw [h.1] at k2
 exact ⟨E2,k1,h2.trans k2⟩⟩
theorem DG.er {st st':aR} (h:DG st st'):ai st st':=⟨h.2.2.1,fun E _ _ hs=>⟨E,h.rel hs,by rw [h.1];exact .refl⟩⟩
theorem aL.cr {c:Code} {st st':aR} {K:Exit→aR→Prop} (hw:ai st st') (h:aL T tab one c st' K):aL T tab one c st K:=by
 intro E base s hs
 obtain ⟨E1,hs1,hf⟩:=hw.2 E base s hs
 obtain ⟨m,L,h1,h2,h3⟩:=h E1 base s hs1
 refine ⟨m,L,h1,h2,fun p hp=>?_⟩
 obtain ⟨E',st2,k1,k0,k2,k3⟩:=h3 p hp
 rw [hw.1] at k3
 exact ⟨E',st2,k1,k0.trans hw.1,k2,hf.trans k3⟩
def cz:List (Nat × AV)→Nat→AV
 | [],_=>.bE
 | (i,v) :: l,t=>bif Nat.beq t i then v else cz l t
theorem CO {fr:Nat→AV}:∀ {l:List (Nat × AV)},(∀ p ∈ l,fr p.1=p.2)→∀ t,cz l t=fr t∨cz l t=.bE
 | [],_,t=>.inr rfl
 | (i,v) :: l,h,t=>by
  unfold cz
  rw [Tr.beq_eq]
  by_cases hti:t=i
  ·rw [decide_eq_true hti]
   exact .inl (by rw [hti,h (i,v) (by simp)];rfl)
  ·rw [decide_eq_false hti]
   exact CO (fun p hp=>h p (List.mem_cons_of_mem _ hp)) t
def AQ (fr:Nat→AV):List (Nat × AV)→Prop
 | []=>True
 | (i,v) :: l=>fr i=v∧AQ fr l
theorem AQ.mem {fr:Nat→AV}:∀ {l:List (Nat × AV)},AQ fr l→∀ p ∈ l,fr p.1=p.2
 | [],_,p,hp=>by cases hp
 | (i,v) :: l,h,p,hp=>by
  rcases List.mem_cons.1 hp with rfl|hp
  ·exact h.1
  ·exact h.2.mem p hp
theorem ai.slots {st:aR} {l:List (Nat × AV)} {hp:List AB} (h:AQ st.fr l) (hh:st.hp=hp):ai st ⟨cz l,hp,st.au,st.rd,st.fl⟩ :=
 DG.er ⟨hh.symm,⟨rfl,rfl⟩,rfl,fun t=>CO h.mem t⟩
theorem ai.cut {st:aR} {n:Nat} (hn:st.fl≤n) (hfr:∀ t,(st.fr t).iE n=true) (hh:(st.hp.take n).all (AB.iE n)=true):ai st ⟨st.fr,st.hp.take n,st.au,st.rd,st.fl⟩:=by
 refine ⟨rfl,fun E base s hs=>?_⟩
 have hr:=hs.h
 rw [List.all_eq_true] at hh
 have hown:∀ k,Own (eR n E.ρ) (st.hp.take n) k→Own E.ρ st.hp k:=by
  rintro k ⟨j,b,av,h1,h2,h3⟩
  rw [List.getElem?_take] at h1
  split at h1
  ·rename_i hlt
   rw [eR,if_pos hlt] at h3
   exact ⟨j,b,av,h1,h2,h3⟩
  ·cases h1
 have hO:∀ k b,s.hp.get k=some b→¬ E.O st.hp k→s.hp.get k=some b∧¬ ({E with ρ:=eR n E.ρ}:Env).O (st.hp.take n) k :=
  fun k b hk ho=>⟨hk,fun h=>ho (h.imp (hown k) id)⟩
 have har:∀ {v:AV} {u:Value},AR E.ρ s.hp.get (E.O st.hp) v u→v.iE n=true→AR (eR n E.ρ) s.hp.get (({E with ρ:=eR n E.ρ}:Env).O (st.hp.take n)) v u :=
  fun h hi=>(h.iE hi).mono (fun _ _ _ h=>h) hO
 refine ⟨{E with ρ:=eR n E.ρ},⟨⟨hr.wf,fun j b av hj hv=>?_,fun j j' av ver' k h1 h2=>?_,fun j v k hk=>?_,fun j b av v h1 h2 h3=>?_,fun j v hj=>?_,fun k hk=>hr.sup k (hown k hk),fun k hk=>hr.iD k (hown k hk),hr.dx,hr.ds,hr.sn,hr.xn,fun k hk=>hr.pR k (hk.imp (hown k) id),hr.bn,hr.au⟩,hs.rd,fun t=>har (hs.fr t) (hfr t)⟩,
  ⟨Nat.le_refl _,fun j v k hj hk=>?_,fun k hk=>.inl (hown k hk),fun _ h=>.inl h,fun _ h=>.inl h,fun _ h=>h,fun _ h=>.inl h,fun _ _ _ _=>rfl,Nat.min_le_left _ _⟩⟩
 ·have hb:=hh b (List.mem_of_getElem? hj)
  rw [List.getElem?_take] at hj
  split at hj
  ·rename_i hlt
   rcases hr.gn j b av hj hv with ⟨k,b',q1,q2,q3⟩|⟨q1,q2⟩
   ·refine .inl ⟨k,b',by show eR _ _ _ _=_;rw [eR,if_pos hlt];exact q1,q2,?_⟩
    cases b with
    | cells cs es av =>
     obtain ⟨cs',rfl,h⟩:=q3
     exact ⟨cs',rfl,h.1,fun i a u ha hu=>har (h.2 i a u ha hu) (mh hb i a ha)⟩
    | dj p q=>exact q3
    | map ents clock =>
     obtain ⟨es,rfl,h1,h2⟩:=q3
     refine ⟨es,rfl,h1,fun i k v born x hx hy=>?_⟩
     simp only [AB.iE,List.all_eq_true,Bool.and_eq_true] at hb
     have:=hb _ (List.mem_of_getElem? hx)
     exact ⟨har (h2 i k v born x hx hy).1 this.1,har (h2 i k v born x hx hy).2.1 this.2,(h2 i k v born x hx hy).2.2⟩
    | iter j since seen stepped =>
     obtain ⟨m,rfl,h⟩:=q3
     refine ⟨m,rfl,?_⟩
     show eR _ _ _ _=_
     rw [eR,if_pos (show j < n from Nat.le_of_ble_eq_true hb)];exact h
    | gone=>exact q3
   ·exact .inr ⟨by show eR _ _ _ _=_;rw [eR,if_pos hlt];exact q1,q2⟩
  ·cases hj
 ·have key:∀ {j v:Nat},eR n E.ρ j v=some k→E.ρ j v=some k:=fun {j v} h=>by
   unfold eR at h
   split at h
   ·exact h
   ·cases h
  exact hr.inj j j' av ver' k (key h1) (key h2)
 ·have hk:eR n E.ρ j v=some k:=hk
  unfold eR at hk
  split at hk
  ·exact hr.rn _ _ _ hk
  ·cases hk
 ·rw [List.getElem?_take] at h1
  split at h1
  ·rename_i hlt
   show eR _ _ _ _=_
   rw [eR,if_pos hlt]
   exact hr.fresh j b av v h1 h2 h3
  ·cases h1
 ·show eR _ _ _ _=_
  unfold eR
  split
  ·rename_i hlt
   refine hr.new j v ?_
   simp only [List.length_take] at hj
   omega
  ·rfl
 ·show eR _ _ _ _=_
  rw [eR,if_pos (by omega)]
  exact hk
theorem vE {n:Nat}:∀ {l:List (Nat × AV)},(l.all fun p=>p.2.iE n)=true→∀ t,(cz l t).iE n=true
 | [],_,t=>rfl
 | (i,v) :: l,h,t=>by
  simp only [List.all_cons,Bool.and_eq_true] at h
  unfold cz
  cases Nat.beq t i with
  | true=>exact h.1
  | false=>exact vE h.2 t
theorem ai.to {st:aR} {l:List (Nat × AV)} {hp:List AB} (n:Nat) (hh:st.hp.take n=hp) (hs:AQ st.fr l) (hn:st.fl≤n) (hl:(l.all fun p=>p.2.iE n)=true) (hb:hp.all (AB.iE n)=true):ai st ⟨cz l,hp,st.au,st.rd,st.fl⟩:=by
 subst hh
 exact (ai.slots hs rfl).trans (ai.cut hn (vE hl) hb)
def ES {σ:Type} (P:σ→Prop) (I:σ→aR) (m:σ→Nat) (K:Exit→aR→Prop) (x:σ) (e:Exit) (s:aR):Prop :=
 match e with
 | .normal=>∃ y,P y∧m y < m x∧ai s (I y)
 | e=>K e s
theorem aL.loop {σ:Type} {body:Code} {K:Exit→aR→Prop} (P:σ→Prop) (I:σ→aR) (m:σ→Nat) (h:∀ x,P x→aL T tab one body (I x) (ES P I m K x)):∀ x,P x→aL T tab one (.loop body) (I x) K:=by
 have key:∀ (n:Nat) (x:σ),P x→m x < n→∀ (E:Env) (base:Nat) (s:St),jy E base (I x) s→∃ k L,RX T tab k (.loop body s)=some L∧kT one L fun r=>∃ e s',r=.out e s'∧qi E base (I x) s (K e) s':=by
  intro n
  induction n with
  | zero=>intro x _ hx;omega
  | succ n ih =>
   intro x hP hx E base s hs
   obtain ⟨k0,L0,h1,h2,h3⟩:=h x hP E base s hs
   obtain ⟨k,M,hk,q1,q2⟩:=cy (one:=one) (L:=L0) (f:=fun k (p:Exit × St)=>eC (RX T tab k) body p) (P:=fun r=>∃ e s',r=.out e s'∧qi E base (I x) s (K e) s') (fun a b p M hab hp=>by
     unfold eC at hp ⊢
     split at hp
     ·exact dI hab _ _ hp
     ·exact hp) k0 h2 (fun p hp=>by
    obtain ⟨E',st',k1,kf,k2,k3⟩:=h3 p hp
    obtain ⟨e,s'⟩:=p
    have other:(eC (RX T tab 0) body (e,s')=some [.out e s'])→K e st'→∃ m M,eC (RX T tab m) body (e,s')=some M∧kT one M fun r=>∃ e s',r=.out e s'∧qi E base (I x) s (K e) s' :=
     fun h1 h2=>⟨0,_,h1,.single ⟨e,s',rfl,E',st',h2,kf,k2,k3⟩⟩
    cases e with
    | normal =>
     obtain ⟨y,hPy,hy,hw⟩:=k1
     obtain ⟨E1,hs1,hf1⟩:=hw.2 E' base s' k2
     obtain ⟨k,L,r1,r2,r3⟩:=ih y hPy (by omega) E1 base s' hs1
     refine ⟨k,L,r1,r2,fun r hr=>?_⟩
     obtain ⟨e,s2,rfl,E2,st2,j1,jf,j2,j3⟩:=r3 r hr
     have e1:(I y).fl=(I x).fl:=hw.1.trans kf
     rw [e1] at j3
     rw [kf] at hf1
     exact ⟨e,s2,rfl,E2,st2,j1,jf.trans e1,j2,(k3.trans hf1).trans j3⟩
    | _=>exact other rfl k1)
   refine ⟨k+1,M,?_,q2⟩
   rw [Gf,pZ,dO (dI hk) _ _ _ h1]
   exact q1
 intro x hP E base s hs
 obtain ⟨k,L,h1,h2,h3⟩:=key (m x+1) x hP (Nat.lt_succ_self _) E base s hs
 obtain ⟨k',M,hk,q1,q2⟩:=cy (one:=one) (L:=L) (f:=fun _ (r:eM)=>zG r) (P:=fun p=>qi E base (I x) s (K p.1) p.2) (fun _ _ _ _ _ h=>h) k h2 (fun r hr=>by
  obtain ⟨e,s',rfl,h⟩:=h3 r hr
  exact ⟨0,_,rfl,.single h⟩)
 refine ⟨k',M,?_,q2⟩
 rw [mO,dI hk _ _ h1]
 exact q1
inductive Fz (hp:List AB):AV→AV→Prop
 | deep {v:AV}:v.deep=true→Fz hp v v
 | nil {b:Bool}:Fz hp (.fl (.slice none 0 0)) (.sl [] b)
 | full {els:List (List AV)}:Fz hp (.sl els true) (.sl els false)
 | row {j av o n c es:Nat} {cs:List AV} {els:List (List AV)} {b:Bool}:hp[j]?=some (.cells cs es av)→o+n * es≤cs.length→els.length=n→(∀ el ∈ els,el.length=es)→els.flatten=(cs.drop o).take (n * es)→dJ els.flatten=true→(b=true→c=n) →
  Fz hp (.dY j av o n c) (.sl els b)
 | ag {a b:List AV}:a.length=b.length→(∀ (i:Nat) (x y:AV),a[i]?=some x→b[i]?=some y→Fz hp x y)→Fz hp (.ag a) (.ag b)
theorem Fz.dr {X:Nat→Prop} (h:aH E base hp au H) (hX:∀ k,X k→E.X k) {r v:AV} (hf:Fz hp r v):∀ {u:Value},AR E.ρ H.get (E.O hp) r u→DR H.get X v u:=by
 have weak:∀ {v:AV} {u:Value},DR H.get (E.O hp) v u→DR H.get X v u:=fun h=>h.mono fun k b hk ho=>⟨hk,fun hx=>ho (.inr (hX k hx))⟩
 induction hf with
 | deep hd=>intro u ha;exact weak (ha.deep hd)
 | nil=>intro u ha;rw [ha.eJ.1];exact .nil
 | full =>
  intro u ha
  cases weak ha.jH with
  | nil=>exact .nil
  | sl q1 q2 q3 q4 q5 q6 q7=>exact .sl q1 q2 q3 q4 q5 q6 (fun h=>Bool.noConfusion h)
 | row h1 h2 h3 h4 h5 h6 h7 =>
  rename_i j av o n c es cs els b
  intro u ha
  rcases ha.eu with ⟨k,hk,rfl⟩|⟨rfl,rfl,rfl⟩
  ·obtain ⟨cs',q1,q2⟩:=h.cells h1 hk
   have hok:Own E.ρ hp k:=⟨j,_,av,h1,rfl,hk⟩
   have hnx:¬ X k:=fun hx=>h.iD k hok (hX k hx)
   refine .sl (es:=es) q1 hnx (by rw [←q2.1];exact h2) h3 (fun i el he=>h4 el (List.mem_of_getElem? he)) (fun i el jj a u he hx hu=>?_) h7
   have hjj:jj < es:=by rw [←h4 el (List.mem_of_getElem? he)];exact (List.getElem?_eq_some_iff.1 hx).1
   have hat:=eZ h4 i el jj he hjj
   have hi:i < n:=by rw [←h3];exact (List.getElem?_eq_some_iff.1 he).1
   have hdeep:a.deep=true:=by
    refine gU h6 (i * es+jj) a ?_
    rw [hat];exact hx
   rw [h5,List.getElem?_take,List.getElem?_drop] at hat
   have hlt:i * es+jj < n * es:=by
    have:(i+1) * es≤n * es:=Nat.mul_le_mul_right _ hi
    rw [Nat.add_mul,Nat.one_mul] at this
    omega
   rw [if_pos hlt,hx,←Nat.add_assoc] at hat
   exact weak ((q2.2 _ a u hat hu).deep hdeep)
  ·simp only [List.length_eq_zero_iff] at h3
   subst h3
   exact .nil
 | ag hl h1 ih =>
  rename_i a b
  intro u ha
  have hal:∃ us:Array Value,u=.agg us∧eY E.ρ H.get (E.O hp) a us.toList:=by
   cases ha with
   | d h=>cases h with
    | ag ha h1=>exact ⟨_,rfl,ha,fun i a u x y=>.d (h1 i a u x y)⟩
   | ag ha h1=>exact ⟨_,rfl,ha,h1⟩
  obtain ⟨us,rfl,h2⟩:=hal
  refine .ag (by rw [←hl];exact h2.1) (fun i x w hx hw=>?_)
  have hi:i < a.length:=by rw [hl];exact (List.getElem?_eq_some_iff.1 hx).1
  have hai:a[i]?=some a[i]:=List.getElem?_eq_getElem hi
  exact ih i _ x hai hx (h2.2 i _ w hai hw)
def ze (hp:List AB):List AV→List AV→Prop
 | [],[]=>True
 | r :: rs,v :: vs=>Fz hp r v∧ze hp rs vs
 | _,_=>False
theorem ze.dr {X:Nat→Prop} (h:aH E base hp au H) (hX:∀ k,X k→E.X k):∀ {rs vs:List AV} {us:List Value},ze hp rs vs→eY E.ρ H.get (E.O hp) rs us→rq H.get X vs us
 | [],[],us,_,ha=>⟨ha.1,fun i a u hx=>by cases hx⟩
 | r :: rs,v :: vs,[],_,ha=>absurd ha.1 (by simp)
 | r :: rs,v :: vs,u :: us,hf,ha=>by
  have:=ze.dr h hX hf.2 (us:=us) ⟨by simpa using ha.1,fun i a u x y=>ha.2 (i+1) a u (by simpa using x) (by simpa using y)⟩
  refine ⟨by simp [this.1],fun i a w hx hw=>?_⟩
  cases i with
  | zero=>cases hx;cases hw;exact hf.1.dr h hX (ha.2 0 r u rfl rfl)
  | succ i=>exact this.2 i a w (by simpa using hx) (by simpa using hw)
 | [],_ :: _,_,hf,_=>hf.elim
 | _ :: _,[],_,hf,_=>by simp [ze] at hf
theorem AS (h:aH E base hp au H) {t:TypeId} {a:AV} {u:Value} (ha:AR E.ρ H.get (E.O hp) a u) {K:AV→List AB→Prop} (hw:fL T t a hp K):∃ w b,hJ T t u H.get=some (w,.none)∧K b hp∧AR E.ρ H.get (E.O hp) b w:=by
 unfold fL at hw
 split at hw
 ·rename_i cs o iG s bytes zero agg bI cv hty
  obtain ⟨k,d,cs',own,e,rfl,h1,h2,h3,h4⟩:=ha.cA.cA
  unfold hJ addr?
  simp only [h1,cells?,hty]
  obtain ⟨u,a,e1,e2,e3⟩:=lB (ρ:=E.ρ) (fun i a u x y=>.d (h4 i a u x y)) h3 hw
  rw [e1]
  exact ⟨u,a,rfl,e2,e3⟩
 ·rename_i j av o iG s bytes zero agg bI cv hty
  obtain ⟨cs,es,h1,h2⟩:=hw
  obtain ⟨k,hk,rfl⟩:=ha.de
  obtain ⟨cs',h3,h4⟩:=h.cells h1 hk
  unfold hJ addr?
  simp only [h3,cells?,hty]
  obtain ⟨u,a,e1,e2,e3⟩:=lB (d:=0) (fun i a u x y=>h4.2 i a u x (by rw [Nat.zero_add] at y;exact y)) (by rw [h4.1];omega) h2
  rw [Nat.zero_add] at e1
  rw [e1]
  exact ⟨u,a,rfl,e2,e3⟩
 ·exact hw.elim
def HQ (T:bf) (s:aR) (r:ResultVar) (K:AV→Prop):Prop :=
 match r with
 | .tmp t=>K (s.fr t)
 | .cell a t=>fL T t (s.fr a) s.hp fun v _=>K v
def gW (T:bf) (s:aR):List ResultVar→(List AV→Prop)→Prop
 | [],K=>K []
 | r :: rs,K=>HQ T s r fun v=>gW T s rs fun vs=>K (v :: vs)
def lQ:List AV→AV
 | [v]=>v
 | vs=>.tp vs
theorem gX {st:aR} {s:St} (hs:jy E base st s):∀ {rs:List ResultVar} {K:List AV→Prop},gW T st rs K→∃ us as,eV T s.fr s.hp rs=some us∧K as∧eY E.ρ s.hp.get (E.O st.hp) as us
 | [],K,h=>⟨[],[],rfl,h,.nil⟩
 | r :: rs,K,h=>by
  have h:HQ T st r fun v=>gW T st rs fun vs=>K (v :: vs):=h
  have one:∃ u a,xq T s.fr s.hp r=some u∧AR E.ρ s.hp.get (E.O st.hp) a u∧gW T st rs fun vs=>K (a :: vs):=by
   unfold HQ at h
   cases r with
   | tmp t=>exact ⟨_,_,rfl,hs.fr t,h⟩
   | cell a t =>
    obtain ⟨u,b,r1,r2,r3⟩:=AS hs.h (hs.fr a) h
    exact ⟨u,b,by unfold xq;simp only [r1,Option.map_some],r3,r2⟩
  obtain ⟨u,a,h1,h2,h3⟩:=one
  obtain ⟨us,as,k1,k2,k3⟩:=gX hs h3
  exact ⟨u :: us,a :: as,by unfold eV;simp only [h1,k1,Option.map_some],k2,.cons h2 k3⟩
def vF (T:bf) (rs:List ResultVar) (v:AV) (e:Exit) (s:aR):Prop :=
 match e with
 | .normal|.ret=>gW T s rs fun as=>∃ vs,ze s.hp as vs∧lQ vs=v
 | _=>False
def tv (args:List AV):Nat→AV:=fun t=>args.getD t .bE
def noEntry (tab:List XE) (f:FuncId):Bool:=tab.all fun e=>!Nat.beq e.f f
theorem iZ {f:FuncId} (args:List Value) (H:Hp):∀ {tab:List XE},noEntry tab f=true→look tab f args H=none
 | [],_=>rfl
 | e :: l,h=>by
  simp only [noEntry,List.all_cons,Bool.and_eq_true,Bool.not_eq_true'] at h
  have h1:pP e f args H=none:=by unfold pP;rw [h.1];rfl
  show (match pP e f args H with|some r=>some r|none=>look l f args H)=none
  rw [h1]
  exact iZ args H h.2
theorem mj {args:List AV} {us:List Value} (h:eY ρ g O args us):m4 ρ g O (tv args) (setArgs .leaf 0 us):=by
 intro t
 rw [ta,Tr.lY]
 unfold tv
 by_cases ht:t < args.length
 ·rw [if_pos ⟨Nat.zero_le _,by rw [←h.1];omega⟩,Nat.sub_zero,List.getD_eq_getElem?_getD,List.getElem?_eq_getElem ht,List.getElem?_eq_getElem (by rw [←h.1];exact ht:t < us.length)]
  exact h.2 t _ _ (List.getElem?_eq_getElem ht) (List.getElem?_eq_getElem _)
 ·rw [List.getD_eq_getElem?_getD,List.getElem?_eq_none (by omega)]
  exact .bE
theorem Gj {X:Nat→Prop} {vs:List AV} {us:List Value} (h:rq g X vs us):DR g X (lQ vs) (aV us):=by
 have tup:∀ {vs:List AV} {us:List Value},rq g X vs us→DR g X (.tp vs) (.tuple us.toArray):=fun h=>.tp (by simpa using h.1) (fun i x u hx hu=>h.2 i x u hx (by simpa using hu))
 match vs,us,h with
 | [v],[u],h=>exact h.2 0 v u rfl rfl
 | [],[],h=>exact tup h
 | v :: w :: vs,u :: x :: us,h=>exact tup h
 | [],_ :: _,h=>exact absurd h.1 (by simp)
 | [_],[],h=>exact absurd h.1 (by simp)
 | [_],_ :: _ :: _,h=>exact absurd h.1 (by simp)
 | _ :: _ :: _,[],h=>exact absurd h.1 (by simp)
 | _ :: _ :: _,[_],h=>exact absurd h.1 (by simp)
theorem af.body {f:FuncId} {fn:Func} {c:Code} {first caps args:List AV} {v:AV} (hf:T.fn.get f=some fn) (hb:fn.body=some c) (hn:noEntry tab f=true) (hv:v.deep=true)
  (hw:aL T tab one c ⟨tv (first++args++caps),[],bF.none,false,0⟩ (vF T fn.results.toList v)):af T tab one (.fn f first caps) args v:=by
 refine ⟨hv,fun X H u us hwf hX hF ha=>?_⟩
 cases hF with
 | fn l1 l2 d1 d2 =>
  rename_i a' b'
  have hfirst:rq H.get X first a'.toList:=⟨l1,d1⟩
  have hcaps:rq H.get X caps b'.toList:=⟨l2,d2⟩
  have hall:=rq.append (rq.append hfirst ha) hcaps
  refine ⟨.fn f (a'.toList++us++b'.toList),rfl,?_⟩
  let E:Env:=⟨fun _ _=>none,fun _=>False,fun _=>False,X⟩
  have hno:∀ k,¬ Own E.ρ [] k:=fun k ⟨j,b,av,h,_⟩=>by cases h
  have hO:∀ k,E.O [] k→X k:=fun k h=>h.elim (fun h=>(hno k h).elim) id
  have hrel:aH E H.n [] bF.none H :=
   {wf:=hwf,gn:=fun j b av h _=>(by cases h),inj:=fun j j' av ver' k h=>(by cases h),rn:=fun j v k h=>(by cases h),fresh:=fun j b av v h=>(by cases h),new:=fun _ _ _=>rfl,
    sup:=fun k h=>(hno k h).elim,iD:=fun k h=>(hno k h).elim,dx:=fun k h=>h.elim,ds:=fun k h=>h.elim,sn:=fun k h=>h.elim,xn:=hX,
    pR:=fun k h=>h.elim (fun h=>(hno k h).elim) (fun h=>h.elim),bn:=Nat.le_refl _,au:=trivial}
  have harl:eY E.ρ H.get (E.O []) (first++args++caps) (a'.toList++us++b'.toList) :=
   ⟨hall.1,fun i a u x y=>.d ((hall.2 i a u x y).mono fun k b hk ho=>⟨hk,fun h=>ho (hO k h)⟩)⟩
  obtain ⟨m,L,h1,h2,h3⟩:=hw E H.n ⟨setArgs .leaf 0 (a'.toList++us++b'.toList),H,false⟩ ⟨hrel,rfl,mj harl⟩
  obtain ⟨m',M,hm,q1,q2,q3⟩:=cy (one:=one) (L:=L) (f:=fun _ (p:Exit × St)=>eW T fn.results.toList p) (P:=fun r=>∃ w H',r=.ret w H'∧H.n≤H'.n∧Wf H'∧(∀ k,k < H.n→H'.get k=H.get k)∧min H.lo H.n≤H'.lo∧DR H'.get X v w)
   (fun _ _ _ _ _ h=>h) m h2 (fun p hp=>by
    obtain ⟨E',st',k1,_,k2,k3⟩:=h3 p hp
    obtain ⟨e,s'⟩:=p
    have done:(e=.normal∨e=.ret)→(gW T st' fn.results.toList fun as=>∃ vs,ze st'.hp as vs∧lQ vs=v)→∃ (_:Nat) (M:List eM),eW T fn.results.toList (e,s')=some M∧kT one M fun r=>∃ w H',r=.ret w H'∧H.n≤H'.n∧Wf H'∧(∀ k,k < H.n→H'.get k=H.get k)∧min H.lo H.n≤H'.lo∧DR H'.get X v w:=by
     intro he hr
     obtain ⟨ws,as,r1,⟨vs,r2,r3⟩,r4⟩:=gX k2 hr
     refine ⟨0,[.ret (aV ws) s'.hp],?_,.single ⟨_,_,rfl,k3.n,k2.h.wf,fun k hk=>k3.same k hk (hno k) (fun h=>h),k3.lo,?_⟩⟩
     ·unfold eW
      rcases he with rfl|rfl <;> simp only [r1,Option.map_some]
     ·rw [←r3]
      exact Gj (r2.dr k2.h (fun k hk=>k3.xk k hk) r4)
    cases e with
    | normal=>exact done (.inl rfl) k1
    | ret=>exact done (.inr rfl) k1
    | _=>exact k1.elim)
  refine ⟨m'+1,M,?_,q2,q3⟩
  show RX T tab (m'+1) (.call f _ H)=_
  rw [rm,iZ _ _ hn]
  simp only
  rw [gF,hf]
  simp only [hb]
  rw [dO (dI hm) _ _ _ h1]
  exact q1
end
end Go.RM
namespace Go.RM
open Go
section
variable {T : bf} {tab : List XE} {one : Bool} {fl base : Nat} {E E' E2 : Env} {hp hp' hp2 : List AB} {au amb' : bF} {H H' H2 : Hp} {ρ ρ2 : Nat → Nat → Option Nat} {g g2 : ax} {O O2 : Nat → Prop}
def Hr (r:Option (Value × bN)) (K:AV→Prop) (R R2:AV→Value→Prop):Prop:=∃ u a,r=some (u,.none)∧K a∧R a u∧R2 a u
theorem DH {t:TypeId} {a:AV} {i:Nat} {u:Value} (ha:AR ρ g O a u) (hb:AR ρ2 g2 O2 a u) {K:AV→List AB→Prop} (hw:j5 T t a i hp K):Hr (dL T t u i) (K · hp) (AR ρ g O) (AR ρ2 g2 O2):=by
 unfold j5 at hw
 split at hw
 ·rename_i cs o fs s bytes z agg bI cv hty
  obtain ⟨off,s',h1,h2,h3⟩:=hw
  obtain ⟨k,d,cs',own,e,rfl,q1,q2,q3,q4⟩:=ha.cA.cA
  obtain ⟨k2,d2,cs2,own2,e2,hu,r1,r2,r3,r4⟩:=hb.cA.cA
  simp only [Value.pointer.injEq,Option.some.injEq,Addr.mk.injEq] at hu
  obtain ⟨rfl,hd,_⟩:=hu
  obtain rfl:d=d2:=by omega
  unfold dL addr?
  simp only [hty,h1,Nat.ble_eq_true_of_le h2,cond_true]
  refine ⟨_,.pt cs (o+off),rfl,h3,?_,?_⟩ <;> unfold ptr <;> rw [Nat.add_assoc]
  ·exact .d (.pt q1 q2 q3 q4)
  ·exact .d (.pt r1 r2 r3 r4)
 ·rename_i j av o fs s bytes z agg bI cv hty
  obtain ⟨off,s',h1,h2,h3⟩:=hw
  obtain ⟨k,hk,rfl⟩:=ha.de
  obtain ⟨k2,hk2,hu⟩:=hb.de
  simp only [Value.pointer.injEq,Option.some.injEq,Addr.mk.injEq,and_true] at hu
  obtain rfl:=hu
  unfold dL addr?
  simp only [hty,h1,Nat.ble_eq_true_of_le h2,cond_true]
  exact ⟨_,_,rfl,h3,.ptr hk,.ptr hk2⟩
 ·exact hw.elim
theorem xe {t:TypeId} {a ix:AV} {u x:Value} (ha:AR ρ g O a u) (hb:AR ρ2 g2 O2 a u) (hx:AR ρ g O ix x) {K:AV→List AB→Prop} (hw:cx T t a ix hp K):Hr (dM T t u x) (K · hp) (AR ρ g O) (AR ρ2 g2 O2):=by
 unfold cx at hw
 split at hw
 ·rename_i j len el s bytes z agg bI cv hj hty
  have hix:=iY hj hx
  obtain ⟨h0,hw⟩:=hw
  unfold dM
  simp only [hix,hty]
  split at hw
  ·obtain ⟨k,d,cs',own,e,rfl,q1,q2,q3,q4⟩:=ha.cA.cA
   obtain ⟨k2,d2,cs2,own2,e2,hu,r1,r2,r3,r4⟩:=hb.cA.cA
   simp only [Value.pointer.injEq,Option.some.injEq,Addr.mk.injEq] at hu
   obtain ⟨rfl,hd,_⟩:=hu
   obtain rfl:d=d2:=by omega
   simp only [addr?]
   rw [lC h0]
   refine ⟨_,_,rfl,hw,?_,?_⟩ <;> unfold ptr <;> rw [Nat.add_assoc]
   ·exact .d (.pt q1 q2 q3 q4)
   ·exact .d (.pt r1 r2 r3 r4)
  ·obtain ⟨k,hk,rfl⟩:=ha.de
   obtain ⟨k2,hk2,hu⟩:=hb.de
   simp only [Value.pointer.injEq,Option.some.injEq,Addr.mk.injEq,and_true] at hu
   obtain rfl:=hu
   simp only [addr?]
   rw [lC h0]
   exact ⟨_,_,rfl,hw,.ptr hk,.ptr hk2⟩
  ·exact hw.elim
 ·rename_i j el s bytes z agg bI cv hj hty
  have hix:=iY hj hx
  unfold dM
  simp only [hix,hty]
  split at hw
  ·rename_i els f
   obtain ⟨el,⟨h0,h1⟩,h2,h3⟩:=hw
   have mk:∀ {g:ax} {O:Nat→Prop} {k o n c:Nat},DR g O (.sl els f) (.slice (some ⟨k,o,none⟩) n c)→n=els.length∧DR g O (.pt el 0) (ptr k (o+j.toNat * cv)):=by
    intro g O k o n c h
    cases h with
    | sl q1 q2 q3 q4 q5 q6 q7 =>
     rename_i es cs own e
     have hlt:j.toNat < els.length:=(List.getElem?_eq_some_iff.1 h1).1
     have hes:es=cv:=by rw [←q5 _ _ h1,h2]
     subst hes
     have hle:(j.toNat+1) * es≤n * es:=Nat.mul_le_mul_right _ (by omega)
     rw [Nat.add_mul,Nat.one_mul] at hle
     exact ⟨q4.symm,.pt (d:=o+j.toNat * es) (o:=0) q1 q2 (by rw [h2];omega) fun i a u hi hu=>q6 _ _ i a u h1 hi hu⟩
   have hlt:j.toNat < els.length:=(List.getElem?_eq_some_iff.1 h1).1
   have h4:=ha.jH
   have h5:=hb.jH
   cases h4 with
   | nil=>cases h1
   | sl q1 q2 q3 q4 q5 q6 q7 =>
    rename_i k o n c es cs own e
    obtain ⟨e1,p1⟩:=mk (.sl q1 q2 q3 q4 q5 q6 q7:DR g O (.sl els f) (.slice (some ⟨k,o,none⟩) n c))
    obtain ⟨_,p2⟩:=mk h5
    show Hr (pE cv k o n j) _ _ _
    rw [lC ⟨h0,by omega⟩]
    exact ⟨_,_,rfl,h3,.d p1,.d p2⟩
  ·rename_i i av o n c
   obtain ⟨h0,h1⟩:=hw
   rcases ha.eu with ⟨k,hk,rfl⟩|⟨rfl,rfl,rfl⟩
   ·rcases hb.eu with ⟨k2,hk2,hu⟩|⟨_,_,hu⟩
    ·simp only [Value.slice.injEq,Option.some.injEq,Addr.mk.injEq,and_true] at hu
     obtain rfl:=hu
     show Hr (pE cv k o n j) _ _ _
     rw [lC h0]
     exact ⟨_,_,rfl,h1,.ptr hk,.ptr hk2⟩
    ·cases hu
   ·omega
  ·exact hw.elim
 ·exact hw.elim
theorem ET {t:TypeId} {cs:List AV} {o:Nat} {u:Value} (ha:AR ρ g O (.pt cs o) u) (hb:AR ρ2 g2 O2 (.pt cs o) u) (hc:∀ k b,g2 k=some b→¬ O2 k→g k=some b) {K:AV→List AB→Prop} (hw:fL T t (.pt cs o) hp K) :
  Hr (hJ T t u g) (K · hp) (AR ρ g O) (AR ρ2 g2 O2):=by
 unfold fL at hw
 split at hw
 ·rename_i cs0 o0 iG s bytes zero agg bI cv hpt hty
  cases hpt
  obtain ⟨k,d,cs',own,e,rfl,h1,h2,h3,h4⟩:=ha.cA.cA
  obtain ⟨k2,d2,cs2,own2,e2,hu,r1,r2,r3,r4⟩:=hb.cA.cA
  simp only [Value.pointer.injEq,Option.some.injEq,Addr.mk.injEq] at hu
  obtain ⟨rfl,hd,_⟩:=hu
  obtain rfl:d=d2:=by omega
  have:=hc _ _ r1 r2
  rw [h1] at this
  cases this
  unfold hJ addr?
  simp only [h1,cells?,hty]
  unfold AE at hw
  cases agg with
  | true =>
   obtain ⟨w1,w2⟩:=hw
   simp only [cond_true]
   rw [m5 (by omega)]
   have mk:∀ {ρ:Nat→Nat→Option Nat} {g:ax} {O:Nat→Prop},(∀ (i:Nat) (a:AV) (u:Value),cs[i]?=some a→cs'[d+i]?=some u→DR g O a u)→AR ρ g O (.ag ((cs.drop o).take s)) (.agg ((cs'.drop (d+o)).take s).toArray):=by
    intro ρ g O h
    refine .d (.ag ?_ ?_)
    ·simp;omega
    ·intro i x u hx hu
     simp only [List.getElem?_take,List.getElem?_drop] at hx hu
     split at hx
     ·rw [if_pos (by assumption)] at hu
      exact h _ x u hx (by rw [←Nat.add_assoc];exact hu)
     ·cases hx
   exact ⟨_,_,rfl,w2,mk h4,mk r4⟩
  | false =>
   obtain ⟨v,w1,w2⟩:=hw
   have hlt:=(List.getElem?_eq_some_iff.1 w1).1
   have hcc:cs'[d+o]?=some (cs'[d+o]'(by omega)):=List.getElem?_eq_getElem _
   simp only [cond_false]
   rw [hcc]
   exact ⟨_,v,rfl,w2,.d (h4 o v _ w1 hcc),.d (r4 o v _ w1 hcc)⟩
 ·rename_i hpt _
  cases hpt
 ·exact hw.elim
theorem AU {a:AV} {i:Nat} {u:Value} (ha:AR ρ g O a u) (hb:AR ρ2 g2 O2 a u) {K:AV→List AB→Prop} (hw:kq a i hp K):Hr (fB u i) (K · hp) (AR ρ g O) (AR ρ2 g2 O2):=by
 unfold kq at hw
 split at hw
 ·obtain ⟨v,h1,h2⟩:=hw
  obtain ⟨us,rfl,h3⟩:=ha.vt
  obtain ⟨us2,hu,h3'⟩:=hb.vt
  cases hu
  obtain ⟨x,h4,h5⟩:=h3.get h1
  unfold fB
  simp only [h4,Option.map_some]
  exact ⟨_,_,rfl,h2,h5,h3'.2 i v x h1 h4⟩
 ·exact hw.elim
theorem Gk {a:AV} {u:Value} (ha:AR ρ g O a u) (hb:AR ρ2 g2 O2 a u) {K:AV→List AB→Prop} (hw:rA a hp K):Hr (iK u) (K · hp) (AR ρ g O) (AR ρ2 g2 O2):=by
 unfold rA at hw
 split at hw
 ·obtain ⟨k,d,cs',own,e,rfl,_⟩:=ha.cA.cA
  exact ⟨_,_,rfl,hw,ha,hb⟩
 ·obtain ⟨k,hk,rfl⟩:=ha.de
  exact ⟨_,_,rfl,hw,ha,hb⟩
 ·exact hw.elim
def CP (o:Op) (fr:Nat→AV):Option (List Operand) :=
 match o with
 | .move x=>some [x]
 | .assign x=>some [x]
 | .fieldAddr _ a _=>some [a]
 | .indexAddr _ a _=>some [a]
 | .extract x _=>some [x]
 | .nilCheck x=>some [x]
 | .load _ a=>match aQ fr a with
  | .pt ..=>some [a]
  | _=>none
 | _=>none
theorem EU {own:Bool} {o:Op} {fr:Nat→AV} {tm:Tr Value} (hf:m4 ρ g O fr tm) {xs:List Operand} (hm:CP o fr=some xs) (hb:∀ x ∈ xs,AR ρ2 g2 O2 (aQ fr x) (aI tm x)) (hc:∀ k b,g2 k=some b→¬ O2 k→g k=some b)
  {n:Nat} {K:AV→List AB→Prop} (hw:wpOp T own o fr hp K):Hr (jM T n o (aI tm) g) (K · hp) (AR ρ g O) (AR ρ2 g2 O2):=by
 have ev:=fun x=>gG hf x
 unfold CP at hm
 split at hm
 ·cases hm;exact ⟨_,_,rfl,hw,ev _,hb _ (by simp)⟩
 ·cases hm;exact ⟨_,_,rfl,hw,ev _,hb _ (by simp)⟩
 ·cases hm;exact DH (ev _) (hb _ (by simp)) hw
 ·cases hm;exact xe (ev _) (hb _ (by simp)) (ev _) hw
 ·cases hm;exact AU (ev _) (hb _ (by simp)) hw
 ·cases hm;exact Gk (ev _) (hb _ (by simp)) hw
 ·split at hm
  ·rename_i t a _ cs oo hpt
   cases hm
   have e1:=ev a
   have e2:=hb a (by simp)
   rw [hpt] at e1 e2
   have hw:fL T t (aQ fr a) hp K:=hw
   rw [hpt] at hw
   exact ET e1 e2 hc hw
  ·cases hm
 ·cases hm
structure Acc where
 own:Option Nat
 b:Nat
 wr:Bool
structure jR where
 i:Nat
 acc:List Acc
 al:Bool
 call:Bool
def vG (v:AV) (b:Nat) (wr:Bool):Option (List Acc) :=
 match v with
 | .pt ..|.sl ..=>some [⟨none,b,wr⟩]
 | .ptr j _ _|.dY j _ _ _ _|.om j=>some [⟨some j,b,wr⟩]
 | .fl _|.ag _|.tp _|.fn ..=>some []
 | _=>none
def EV (o:Op) (fr:Nat→AV) (br:Operand→Nat):Option (List Acc) :=
 match o with
 | .load _ a=>vG (aQ fr a) (br a) false
 | .store _ a _=>vG (aQ fr a) (br a) true
 | .call ⟨.builtin .append,args,_⟩=>match args.toList with
  | [s,x]=>match vG (aQ fr x) (br x) false,vG (aQ fr s) (br s) true with
   | some l,some m=>some (l++m)
   | _,_=>none
  | _=>none
 | .call ⟨.builtin .len,args,_⟩=>match args.toList with
  | [x]=>vG (aQ fr x) (br x) false
  | _=>none
 | .lookup _ m _ _=>vG (aQ fr m) (br m) false
 | .mapEntry _ m _=>vG (aQ fr m) (br m) true
 | .entryStore _ m _ _=>vG (aQ fr m) (br m) true
 | .range ..|.next ..|.entry ..|.mapUpdate ..=>none
 | .call ⟨.builtin .clear,_,_⟩=>none
 | .call ⟨.builtin .copy,_,_⟩=>none
 | _=>some []
def news? (o:Op):Bool :=
 match o with
 | .move _|.assign _|.pick ..|.load ..|.store ..|.fieldAddr ..|.indexAddr ..|.index ..|.field ..|.binOp ..|.unOp ..|.convert ..|.makeInterface ..|.typeAssert ..|.extract ..|.build ..|.makeFunc ..|.nilCheck ..|.slice ..|.lookup ..|.mapEntry ..|.entryStore ..=>false
 | .call ⟨.builtin .append,_,_⟩=>true
 | .call ⟨.builtin _,_,_⟩=>false
 | _=>true
theorem vH {o:Option Value} {v:Value} {e:bN} (h:cU o=some (v,e)):e.news=false:=by obtain ⟨_,_,rfl⟩:=pW h;rfl
theorem map_none {o:Option Value} {v:Value} {e:bN} (h:(o.map fun v=>(v,bN.none))=some (v,e)):e.news=false:=by
 simp only [Option.map_eq_some_iff] at h
 obtain ⟨_,_,q⟩:=h
 cases q;rfl
theorem iy {c:Bool} {o:Option Value} {v:Value} {e:bN} (h:(bif c then cU o else none)=some (v,e)):e.news=false:=by
 cases c with
 | true=>exact vH h
 | false=>cases h
theorem EW {n:Nat} {o:Op} {r:Operand→Value} {v:Value} {e:bN} (h:jM T n o r g=some (v,e)) (hn:news? o=false):e.news=false:=by
 have bin:∀ {o:BinOp} {t:TypeId} {x y:Operand} {a b:Value},lU T.P o t x y a b=some (v,e)→e.news=false:=by
  intro o t x y a b h
  have slow:gx T.P o t x y a b=some (v,e)→e.news=false:=fun h=>by unfold gx at h;exact iy h
  unfold lU at h
  split at h
  ·split at h
   ·cases h;rfl
   ·exact slow h
  ·rw [cond_eq_ite] at h
   split at h
   ·unfold jL at h
    split at h
    ·cases h;rfl
    ·cases h;rfl
    ·cases h
   ·cases h
  ·rw [cond_eq_ite] at h
   split at h
   ·unfold jL at h
    split at h
    ·cases h;rfl
    ·cases h;rfl
    ·cases h
   ·cases h
  ·exact slow h
 cases o <;> first
  | (simp only [news?,Bool.true_eq_false] at hn;done)
  | skip
 case move x=>simp only [jM] at h;cases h;rfl
 case assign x=>simp only [jM] at h;cases h;rfl
 case build t parts =>
  simp only [jM] at h
  unfold pV at h
  split at h
  ·rename_i iG sz by' z bI cv _
   cases hz:z.cells.toList.all aN with
   | true =>
    rw [hz] at h
    simp only [cond_true,Option.map_eq_some_iff] at h
    obtain ⟨_,_,q⟩:=h
    cases q
    rfl
   | false=>rw [hz] at h;cases h
  ·cases h
 case pick c a b =>
  simp only [jM] at h
  unfold sS at h
  split at h
  ·cases h;rfl
  ·cases h
 case load t a =>
  simp only [jM] at h
  unfold hJ at h
  split at h
  ·split at h
   ·rename_i cs own es iG s bytes zero agg bI cv _ _
    cases agg
    ·exact map_none h
    ·simp only [cond_true,Option.map_eq_some_iff] at h
     obtain ⟨_,_,q⟩:=h
     cases q;rfl
   ·cases h
  ·cases h
 case store t a x =>
  simp only [jM] at h
  unfold kB at h
  split at h
  ·split at h
   ·rename_i cs own es _ _ _ _ _ _ _ _ _
    revert h
    cases (own && Nat.beq (r x).cells.toList.length _ && _ && (r x).cells.toList.all aT) <;> intro h
    ·cases h
    ·cases h;rfl
   ·cases h
  ·cases h
 case fieldAddr t a i =>
  simp only [jM] at h
  unfold dL at h
  split at h
  ·split at h
   ·rename_i off s _
    cases hb:Nat.ble 1 s <;> rw [hb] at h <;> cases h
    rfl
   ·cases h
  ·cases h
 case indexAddr t a ix =>
  simp only [jM] at h
  have idx:∀ {a b c:Nat} {j:Int},pE a b c n j=some (v,e)→e.news=false:=by
   intro a b c j h
   unfold pE at h
   cases hb:(Ec 0 j && De j (.ofNat n)) <;> rw [hb] at h <;> cases h
   rfl
  have idx:∀ {a b c d:Nat} {j:Int},pE a b c d j=some (v,e)→e.news=false:=by
   intro a b c d j h
   unfold pE at h
   cases hb:(Ec 0 j && De j (.ofNat d)) <;> rw [hb] at h <;> cases h
   rfl
  unfold dM at h
  split at h
  ·split at h
   ·exact idx h
   ·cases h
  ·split at h
   ·exact idx h
   ·cases h
  ·cases h
 case index t a ix =>
  simp only [jM] at h
  cases hb:(flat (r a) && flat (r ix)) <;> rw [hb] at h
  ·unfold mD at h
   simp only [cond_false] at h
   split at h
   ·split at h
    ·rw [cond_eq_ite] at h
     split at h
     ·split at h
      ·cases h;rfl
      ·cases h
     ·cases h
    ·cases h
   ·cases h
  ·exact vH h
 case field t a i=>simp only [jM] at h;exact iy h
 case binOp o t x y p=>simp only [jM] at h;exact bin h
 case unOp o t x=>simp only [jM] at h;exact iy h
 case convert s d x=>simp only [jM] at h;exact iy h
 case makeInterface t x=>simp only [jM] at h;exact iy h
 case typeAssert x t d ok=>simp only [jM] at h;exact iy h
 case extract x i =>
  simp only [jM] at h
  unfold fB at h
  split at h
  ·exact map_none h
  ·cases h
 case lookup t m k ok=>simp only [jM] at h;exact map_none h
 case mapEntry t m k =>
  simp only [jM] at h
  unfold ez at h
  split at h
  ·split at h
   ·unfold lS at h
    split at h
    ·split at h
     ·rename_i e _
      cases hb:Instr.sameBits 10000 e.key (r k) <;> rw [hb] at h <;> cases h
      rfl
     ·cases h
    ·rename_i z _ _
     cases hb:flat z <;> rw [hb] at h <;> cases h
     rfl
    ·cases h
   ·cases h
  ·cases h
 case entryStore t m s x =>
  simp only [jM,Option.map_eq_some_iff] at h
  obtain ⟨e',h1,h2⟩:=h
  cases h2
  unfold cT at h1
  split at h1
  ·split at h1
   ·split at h1
    ·cases h1;rfl
    ·cases h1
   ·cases h1
  ·cases h1
 case makeFunc f a b =>
  simp only [jM] at h
  unfold lV at h
  split at h
  ·cases h;rfl
  ·cases h
 case nilCheck x =>
  simp only [jM] at h
  unfold iK at h
  split at h
  ·cases h;rfl
  ·cases h
 case slice t x lo hi mx =>
  cases mx with
  | some _ =>
   cases hi with
   | none=>simp [jM] at h
   | some _ =>
    simp only [jM] at h
    exact map_none h
  | none =>
   simp only [jM] at h
   unfold fC at h
   split at h
   ·exact iy h
   ·exact map_none h
   ·exact map_none h
 case call c =>
  obtain ⟨ce,args,tys⟩:=c
  cases ce with
  | builtin b =>
   have h:ia T n b (args.toList.map r) tys.toList g=some (v,e):=h
   unfold ia at h
   cases b <;> first|(simp [news?] at hn;done)|skip
   all_goals first|(simp at h;done)|skip
   case clear =>
    simp only at h
    split at h
    ·unfold nJ at h
     split at h
     ·split at h
      ·cases h;rfl
      ·cases h
     ·split at h
      ·rw [cond_eq_ite] at h
       split at h
       ·cases h;rfl
       ·cases h
      ·cases h
     ·cases h
    ·cases h
   case copy =>
    simp only at h
    split at h
    ·unfold sR at h
     split at h
     ·split at h
      ·split at h
       ·rw [cond_eq_ite] at h
        split at h
        ·cases h;rfl
        ·cases h
       ·cases h
      ·cases h
     ·cases h
    ·cases h
   case len =>
    simp only at h
    split at h
    ·unfold kD at h
     repeat' split at h
     all_goals first|(simp only [Option.some.injEq,Prod.mk.injEq] at h;obtain ⟨_,rfl⟩:=h;rfl)|(simp at h;done)
    ·simp at h
   case min =>
    simp only at h
    unfold yh at h
    split at h
    ·simp only [Option.some.injEq,Prod.mk.injEq] at h;obtain ⟨_,rfl⟩:=h;rfl
    ·exact iy h
   case max =>
    simp only at h
    unfold yl at h
    split at h
    ·simp only [Option.some.injEq,Prod.mk.injEq] at h;obtain ⟨_,rfl⟩:=h;rfl
    ·exact iy h
  | _=>simp [jM,zF] at h
end
end Go.RM
namespace Go.RM
open Go
section
variable {T : bf} {tab : List XE} {one : Bool} {fl base : Nat} {E E' E2 : Env} {hp hp' hp2 : List AB} {au amb' : bF} {H H' H2 : Hp} {ρ ρ2 : Nat → Nat → Option Nat} {g g2 : ax} {O O2 : Nat → Prop}
structure ct where
 E:Env
 hp:List AB
 H:Hp
abbrev ct.ar (z:ct):AV→Value→Prop:=AR z.E.ρ z.H.get (z.E.O z.hp)
structure ot (base:Nat) (au:bF) (tr:Nat→ct) (i:Nat):Prop where
 rel:∀ b,b≤i→aH (tr b).E base (tr b).hp au (tr b).H
 ext:∀ b c,b≤c→c≤i→Ext base (tr b).E (tr b).hp (tr b).H (tr c).E (tr c).hp (tr c).H
def snoc (tr:Nat→ct) (i:Nat) (z:ct):Nat→ct:=fun b=>if b≤i then tr b else z
theorem cJ {tr:Nat→ct} {i:Nat} {z:ct} {b:Nat} (h:b≤i):snoc tr i z b=tr b:=if_pos h
theorem gA {tr:Nat→ct} {i:Nat} {z:ct} {b:Nat} (h:i < b):snoc tr i z b=z:=if_neg (by omega)
theorem ot.snoc {tr:Nat→ct} {i:Nat} {z:ct} (h:ot base au tr i) (hz:aH z.E base z.hp au z.H) (he:Ext base (tr i).E (tr i).hp (tr i).H z.E z.hp z.H):ot base au (snoc tr i z) (i+1):=by
 refine ⟨fun b hb=>?_,fun b c hbc hc=>?_⟩
 ·by_cases hbi:b≤i
  ·rw [cJ hbi];exact h.rel b hbi
  ·rw [gA (by omega)];exact hz
 ·by_cases hci:c≤i
  ·rw [cJ hci,cJ (by omega)];exact h.ext b c hbc hci
  ·rw [gA (by omega:i < c)]
   by_cases hbi:b≤i
   ·rw [cJ hbi];exact (h.ext b i hbi (Nat.le_refl _)).trans he
   ·rw [gA (by omega)];exact .refl
def cB (tr:Nat→ct) (i:Nat) (p:Acc) (k:Nat):Prop :=
 p.b≤i∧k < (tr p.b).H.n∧match p.own with
  | some j=>∃ av,(tr i).E.ρ j av=some k∧(p.wr=true→Own (tr i).E.ρ (tr i).hp k)
  | none=>¬ (tr p.b).E.O (tr p.b).hp k
structure Gl (tr:Nat→ct) (x:jR) (t:Tc):Prop where
 idx:t.idx=x.i
 a:t.a=(tr x.i).H.n
 b:t.b=(tr (x.i+1)).H.n
 al:x.al=false→x.call=false→t.a=t.b
 call:t.call=x.call
 rd:∀ k ∈ t.rd,∃ p ∈ x.acc,p.wr=false∧cB tr x.i p k
 wr:∀ k ∈ t.wr,∃ p ∈ x.acc,p.wr=true∧cB tr x.i p k
theorem cB.snoc {tr:Nat→ct} {i i0:Nat} {z:ct} {p:Acc} {k:Nat} (h:cB tr i0 p k) (hi:i0≤i):cB (snoc tr i z) i0 p k:=by
 obtain ⟨h1,h2,h3⟩:=h
 refine ⟨h1,by rw [cJ (by omega)];exact h2,?_⟩
 rw [cJ hi,cJ (by omega)]
 exact h3
theorem Gl.snoc {tr:Nat→ct} {i:Nat} {z:ct} {x:jR} {t:Tc} (h:Gl tr x t) (hi:x.i < i):Gl (snoc tr i z) x t :=
 ⟨h.idx,by rw [cJ (by omega)];exact h.a,by rw [cJ (by omega)];exact h.b,h.al,h.call,
  fun k hk=>by obtain ⟨p,a,b,c⟩:=h.rd k hk;exact ⟨p,a,b,c.snoc (by omega)⟩,fun k hk=>by obtain ⟨p,a,b,c⟩:=h.wr k hk;exact ⟨p,a,b,c.snoc (by omega)⟩⟩
def oT (i:Nat) (p q:Acc):Bool :=
 (!p.wr && !q.wr) || (match p.own,q.own with
  | some j,some j'=>!Nat.beq j j'
  | some _,none=>p.wr && Nat.ble q.b i
  | none,some _=>!p.wr
  | none,none=>false)
def zf (x y:jR):Bool :=
 x.acc.all (fun p=>y.acc.all (oT x.i p)) && ((!x.al && !x.call) || y.acc.all (fun q=>Nat.ble q.b x.i)) && (!x.call || y.acc.all (fun q=>!q.wr)) && (!y.call || x.acc.all (fun p=>!p.wr))
def oU (b:List Nat):List jR→Bool
 | []=>true
 | y :: l=>l.all (fun x=>(b.getD y.i 0).testBit x.i || zf x y) && oU b l
theorem qj {tr:Nat→ct} {n:Nat} (ht:ot base au tr n) {i l:Nat} (hil:i < l) (hl:l≤n) {p q:Acc} {k:Nat} (hp:cB tr i p k) (hq:cB tr l q k) (hw:p.wr=true∨q.wr=true) (hf:oT i p q=true):False:=by
 obtain ⟨p1,p2,p3⟩:=hp
 obtain ⟨q1,q2,q3⟩:=hq
 have eil:=ht.ext i l (by omega) hl
 have back:∀ {b c:Nat},b≤c→c≤n→Own (tr c).E.ρ (tr c).hp k→k < (tr b).H.n→Own (tr b).E.ρ (tr b).hp k:=fun hbc hcn ho hk=>((ht.ext _ _ hbc hcn).own k ho).elim id (fun h=>by omega)
 unfold oT at hf
 rw [Bool.or_eq_true] at hf
 rcases hf with hf|hf
 ·simp only [Bool.and_eq_true,Bool.not_eq_true'] at hf
  rcases hw with h|h
  ·rw [hf.1] at h;cases h
  ·rw [hf.2] at h;cases h
 ·cases hpo:p.own with
  | some j =>
   rw [hpo] at hf p3
   obtain ⟨av,r1,r2⟩:=p3
   cases hqo:q.own with
   | some j' =>
    rw [hqo] at hf q3
    obtain ⟨ver',s1,s2⟩:=q3
    have:=(ht.rel l hl).inj j j' av ver' k (eil.AD _ _ _ r1) s1
    subst this
    simp only [m8,Bool.not_true] at hf
    cases hf
   | none =>
    rw [hqo] at hf q3
    simp only [Bool.and_eq_true] at hf
    have hb:=Nat.le_of_ble_eq_true hf.2
    exact q3 (.inl (back hb (by omega) (r2 hf.1) q2))
  | none =>
   rw [hpo] at hf p3
   cases hqo:q.own with
   | some j' =>
    rw [hqo] at hf q3
    simp only [Bool.not_eq_true'] at hf
    obtain ⟨ver',s1,s2⟩:=q3
    have hqw:q.wr=true:=by
     rcases hw with h|h
     ·rw [hf] at h;cases h
     ·exact h
    exact p3 (.inl (back (by omega) hl (s2 hqw) p2))
   | none=>rw [hqo] at hf;cases hf
theorem DI {tr:Nat→ct} {n:Nat} (ht:ot base au tr n) {x y:jR} {s t:Tc} (hs:Gl tr x s) (hy:Gl tr y t) (hxy:x.i < y.i) (hn:y.i≤n) (hf:zf x y=true):conflict s t=false:=by
 cases hc:conflict s t with
 | false=>rfl
 | true =>
  exfalso
  unfold zf at hf
  simp only [Bool.and_eq_true,List.all_eq_true,Bool.or_eq_true,Bool.not_eq_true'] at hf
  obtain ⟨⟨⟨f1,f2⟩,f3⟩,f4⟩:=hf
  have two:∀ {k:Nat} {p q:Acc},p ∈ x.acc→q ∈ y.acc→cB tr x.i p k→cB tr y.i q k→(p.wr=true∨q.wr=true)→False:=fun hp hq ap aq hw=>qj ht hxy hn ap aq hw (f1 _ hp _ hq)
  have inn:∀ {k:Nat} {q:Acc},q ∈ y.acc→cB tr y.i q k→s.a≤k→k < s.b→False:=by
   intro k q hq aq h1 h2
   rcases f2 with h|h
   ·have:=hs.al h.1 h.2;omega
   ·have:=Nat.le_of_ble_eq_true (h q hq)
    have:=(ht.ext q.b x.i this (by omega)).n
    have:=aq.2.1
    rw [hs.a] at h1
    omega
  have out:∀ {k:Nat} {p:Acc},cB tr x.i p k→t.a≤k→False:=by
   intro k p ap h1
   have:=(ht.ext p.b x.i ap.1 (by omega)).n
   have:=(ht.ext x.i y.i (by omega) hn).n
   have:=ap.2.1
   rw [hy.a] at h1
   omega
  unfold conflict at hc
  simp only [Bool.or_eq_true,Bool.and_eq_true,Bool.not_eq_true'] at hc
  rcases hc with (((((((hc|hc)|hc)|hc)|hc)|hc)|hc)|hc)|hc
  ·obtain ⟨k,k1,k2⟩:=dV.1 hc
   obtain ⟨p,p1,p2,p3⟩:=hs.wr k k1
   obtain ⟨q,q1,q2,q3⟩:=hy.rd k k2
   exact two p1 q1 p3 q3 (.inl p2)
  ·obtain ⟨k,k1,k2⟩:=dV.1 hc
   obtain ⟨p,p1,p2,p3⟩:=hs.wr k k1
   obtain ⟨q,q1,q2,q3⟩:=hy.wr k k2
   exact two p1 q1 p3 q3 (.inl p2)
  ·obtain ⟨k,k1,k2⟩:=dV.1 hc
   obtain ⟨q,q1,q2,q3⟩:=hy.wr k k1
   obtain ⟨p,p1,p2,p3⟩:=hs.rd k k2
   exact two p1 q1 p3 q3 (.inr q2)
  ·rw [hs.call] at hc
   cases hw:t.wr with
   | nil=>rw [hw] at hc;simp at hc
   | cons k l =>
    obtain ⟨q,q1,q2,q3⟩:=hy.wr k (by rw [hw];simp)
    rcases f3 with h|h
    ·rw [hc.1] at h;cases h
    ·rw [h q q1] at q2;cases q2
  ·rw [hy.call] at hc
   cases hw:s.wr with
   | nil=>rw [hw] at hc;simp at hc
   | cons k l =>
    obtain ⟨p,p1,p2,p3⟩:=hs.wr k (by rw [hw];simp)
    rcases f4 with h|h
    ·rw [hc.1] at h;cases h
    ·rw [h p p1] at p2;cases p2
  ·obtain ⟨k,k1,k2,k3⟩:=within_iff.1 hc
   obtain ⟨q,q1,q2,q3⟩:=hy.rd k k1
   exact inn q1 q3 k2 k3
  ·obtain ⟨k,k1,k2,k3⟩:=within_iff.1 hc
   obtain ⟨q,q1,q2,q3⟩:=hy.wr k k1
   exact inn q1 q3 k2 k3
  ·obtain ⟨k,k1,k2,k3⟩:=within_iff.1 hc
   obtain ⟨p,p1,p2,p3⟩:=hs.rd k k1
   exact out p3 k2
  ·obtain ⟨k,k1,k2,k3⟩:=within_iff.1 hc
   obtain ⟨p,p1,p2,p3⟩:=hs.wr k k1
   exact out p3 k2
inductive tY (tr:Nat→ct):Nat→List jR→List Ev→Prop
 | nil:tY tr 0 [] []
 | cons {i:Nat} {x:jR} {ev:Ev} {l:List jR} {m:List Ev}:tY tr i l m→x.i=i→Gl tr x ev.t→tY tr (i+1) (x :: l) (ev :: m)
theorem tY.lt {tr:Nat→ct} {i:Nat} {l:List jR} {m:List Ev} (h:tY tr i l m):∀ x ∈ l,x.i < i:=by
 induction h with
 | nil=>intro x hx;cases hx
 | cons _ hi _ ih =>
  intro y hy
  rcases List.mem_cons.1 hy with rfl|hy
  ·omega
  ·have:=ih y hy;omega
theorem tY.snoc {tr:Nat→ct} {i:Nat} {z:ct} {l:List jR} {m:List Ev}:∀ {j:Nat},tY tr j l m→j≤i→tY (snoc tr i z) j l m:=by
 intro j h
 induction h with
 | nil=>intro _;exact .nil
 | cons _ hi he ih=>intro hj;exact .cons (ih (by omega)) hi (he.snoc (by omega))
theorem tY.pairs {tr:Nat→ct} {n:Nat} (ht:ot base au tr n) {b:List Nat} {i:Nat} {l:List jR} {m:List Ev} (h:tY tr i l m):i≤n→oU b l=true→cR T b m=true:=by
 induction h with
 | nil=>intro _ _;rfl
 | cons hl hi he ih =>
  rename_i i y ev l m
  intro hn hc
  simp only [oU,Bool.and_eq_true,List.all_eq_true] at hc
  simp only [cR,Bool.and_eq_true,List.all_eq_true]
  refine ⟨?_,ih (by omega) hc.2⟩
  have hc1:=hc.1
  clear ih hc
  have key:∀ {j:Nat} {l:List jR} {m:List Ev},tY tr j l m→(∀ x ∈ l,(b.getD y.i 0).testBit x.i=true∨zf x y=true)→j≤y.i→∀ s ∈ m,(!conflict s.t ev.t || (b.getD ev.t.idx 0).testBit s.t.idx || spare T s ev)=true:=by
   intro j l m h
   induction h with
   | nil=>intro _ _ s hs;cases hs
   | cons hl' hi' he' ih' =>
    rename_i x ev' _ _
    intro hx hj s hs
    rcases List.mem_cons.1 hs with rfl|hs
    ·rcases hx x (by simp) with h|h
     ·rw [he.idx,he'.idx,h];simp
     ·rw [DI ht he' he (by omega) (by omega) h];simp
    ·exact ih' (fun z hz=>hx z (List.mem_cons_of_mem _ hz)) (by omega) s hs
  exact key hl (fun x hx=>by simpa using hc1 x hx) (by omega)
def nD (dst:Option Tmp) (bt:Nat→Nat) (b:Nat):Nat→Nat :=
 match dst with
 | some d=>fun t=>bif Nat.beq t d then b else bt t
 | none=>bt
def DJ (bt:Nat→Nat):Operand→Nat
 | .tmp t=>bt t
 | _=>0
def xQ (o:Op) (fr:Nat→AV) (bt:Nat→Nat) (i:Nat):Nat :=
 match CP o fr with
 | some [x]=>DJ bt x
 | _=>i+1
def iF (v:AV):Prop:=v.deep=true∧∀ (g:ax) (O O':Nat→Prop) (u:Value),DR g O v u→DR g O' v u
def Handed (hp:List AB) (as vs:List AV) (v:AV):Prop:=(vs=as∧dJ as=true)∨(ze hp as vs∧iF v)
def i4 (T:bf) (tab:List XE) (mu:Tmp→Bool) (dst:Option Tmp) (op:Op) (i:Nat) (bt:Nat→Nat) (fr:Nat→AV) (hp:List AB) (K:(Nat→AV)→List AB→(Nat→Nat)→jR→Prop):Prop :=
 match cm op with
 | .call f args=>force (Ju T.P fr f) fun F=>eK (args.map (aQ fr)) fun as=>F.deep=true∧∃ vs v,Handed hp as vs v∧af T tab true F vs v∧fY dst fr v fun fr'=>K fr' hp (nD dst bt (i+1)) ⟨i,[],true,true⟩
 | .next _=>False
 | .plain=>∃ a,EV op fr (DJ bt)=some a∧wpOp T (DF mu dst) op fr hp fun v hp'=>force v fun v=>fY dst fr v fun fr'=>K fr' hp' (nD dst bt (xQ op fr bt i)) ⟨i,a,news? op,false⟩
def i5 (T:bf) (tab:List XE) (mu:Tmp→Bool) (ops:Array Oper):List Oper→Nat→(Nat→Nat)→List jR→aR→(aR→Prop)→Prop
 | [],_,_,acc,st,K=>oU (qt ops) acc=true∧K st
 | ⟨dst,op,_,_,_,gd⟩ :: l,i,bt,acc,⟨fr,hp,au,rd,fl⟩,K =>
  cS ops.toList gd fr (i4 T tab mu dst op i bt fr hp fun fr' hp' bt' x=>i5 T tab mu ops l (i+1) bt' (x :: acc) ⟨fr',hp',au,rd,fl⟩ K)
   (fY dst fr (.tp []) fun fr'=>i5 T tab mu ops l (i+1) (nD dst bt 0) (⟨i,[],false,false⟩ :: acc) ⟨fr',hp,au,rd,fl⟩ K)
def jm (tr:Nat→ct) (i:Nat) (bt:Nat→Nat) (fr:Nat→AV) (tm:Tr Value):Prop:=∀ t,bt t≤i∧(tr (bt t)).ar (fr t) ((tm.get t).getD undef)
theorem jm.put {tr:Nat→ct} {i:Nat} {bt:Nat→Nat} {fr:Nat→AV} {tm:Tr Value} {z:ct} (h:jm tr i bt fr tm) {b:Nat} {v:AV} {u:Value} (hb:b≤i+1) (hv:(snoc tr i z b).ar v u) (d:Option Tmp):jm (snoc tr i z) (i+1) (nD d bt b) (sB fr d v) (cK tm d u):=by
 intro t
 have old:bt t≤i+1∧(snoc tr i z (bt t)).ar (fr t) ((tm.get t).getD undef):=⟨by have:=(h t).1;omega,by rw [cJ (h t).1];exact (h t).2⟩
 cases d with
 | none=>exact old
 | some d =>
  show (bif Nat.beq t d then b else bt t)≤_∧(snoc tr i z (bif Nat.beq t d then b else bt t)).ar (bif Nat.beq t d then v else fr t) (((tm.set d u).get t).getD undef)
  rw [Tr.fU,Tr.beq_eq]
  by_cases htd:t=d
  ·rw [if_pos htd,decide_eq_true htd];exact ⟨hb,hv⟩
  ·rw [if_neg htd,decide_eq_false htd];exact old
theorem jm.eval {tr:Nat→ct} {i:Nat} {bt:Nat→Nat} {fr:Nat→AV} {tm:Tr Value} (h:jm tr i bt fr tm) (x:Operand):DJ bt x≤i∧(tr (DJ bt x)).ar (aQ fr x) (aI tm x):=by
 cases x with
 | tmp t=>exact h t
 | const v =>
  refine ⟨Nat.zero_le _,?_⟩
  show (tr 0).ar (bif flat v then ru v else .bE) v
  cases hf:flat v with
  | true=>exact lA hf
  | false=>exact .bE
 | func f=>exact ⟨Nat.zero_le _,.fn rfl rfl (fun i x u hx=>by cases hx) (fun i x u hx=>by cases hx)⟩
 | global g=>exact ⟨Nat.zero_le _,.bE⟩
theorem rE {tr:Nat→ct} {i:Nat} (ht:ot base au tr i) {v:AV} {u:Value} {b:Nat} {wr:Bool} {l:List Acc} (h:vG v b wr=some l) (hb:b≤i) (hv:(tr b).ar v u) (hi:(tr i).ar v u)
  (hw:wr=true→∀ j av o,(v=.ptr j av o∨∃ n c,v=.dY j av o n c)→∃ cs es,(tr i).hp[j]?=some (.cells cs es av)) (hom:wr=true→∀ j,v=.om j→∃ b,(tr i).hp[j]?=some b∧b.ver?=some 0) :
  ∀ k ∈ bZ u,∃ p ∈ l,p.wr=wr∧cB tr i p k:=by
 have deepk:∀ {k:Nat} {x:aU},(tr b).H.get k=some x→¬ (tr b).E.O (tr b).hp k→cB tr i ⟨none,b,wr⟩ k:=fun h1 h2=>⟨hb,(ht.rel b hb).wf.lt h1,h2⟩
 have ownk:∀ {j av k:Nat},(tr b).E.ρ j av=some k→(wr=true→∃ b,(tr i).hp[j]?=some b∧b.ver?=some av)→cB tr i ⟨some j,b,wr⟩ k:=by
  intro j av k h1 h2
  have h3:=(ht.ext b i hb (Nat.le_refl _)).AD _ _ _ h1
  refine ⟨hb,(ht.rel b hb).rn _ _ _ h1,av,h3,fun hwr=>?_⟩
  obtain ⟨x,hc,hx⟩:=h2 hwr
  exact ⟨j,x,av,hc,hx,h3⟩
 intro k hk
 unfold vG at h
 split at h
 ·cases h
  obtain ⟨k',d,cs,own,e,rfl,q1,q2,_⟩:=hv.cA.cA
  obtain rfl:k=k':=by simpa [bZ] using hk
  exact ⟨_,by simp,rfl,deepk q1 q2⟩
 ·cases h
  cases hv.jH with
  | nil=>simp [bZ] at hk
  | sl q1 q2 =>
   rename_i k' o' n' c' es' cs' own' e' _ _ _ _ _
   obtain rfl:k=k':=by simpa [bZ] using hk
   exact ⟨_,by simp,rfl,deepk q1 q2⟩
 ·rename_i j av o
  cases h
  obtain ⟨k',hk',rfl⟩:=hv.de
  obtain rfl:k=k':=by simpa [bZ] using hk
  exact ⟨_,by simp,rfl,ownk hk' fun hwr=>(let ⟨_,_,h⟩:=hw hwr j av o (.inl rfl);⟨_,h,rfl⟩)⟩
 ·rename_i j av o n c
  cases h
  rcases hv.eu with ⟨k',hk',rfl⟩|⟨_,_,rfl⟩
  ·obtain rfl:k=k':=by simpa [bZ] using hk
   exact ⟨_,by simp,rfl,ownk hk' fun hwr=>(let ⟨_,_,h⟩:=hw hwr j av o (.inr ⟨n,c,rfl⟩);⟨_,h,rfl⟩)⟩
  ·simp [bZ] at hk
 ·rename_i j
  cases h
  obtain ⟨k',hk',rfl⟩:=hv.oe
  obtain rfl:k=k':=by simpa [bZ] using hk
  exact ⟨_,by simp,rfl,ownk hk' fun hwr=>hom hwr j rfl⟩
 ·exfalso
  obtain ⟨rfl,hf⟩:=hv.eJ
  revert hk
  unfold bZ
  split
  ·simp [aN] at hf
  ·simp [aN] at hf
  ·simp [aN] at hf
  ·simp
 ·exfalso
  cases hv with
  | d h=>cases h with
   | ag=>simp [bZ] at hk
  | ag=>simp [bZ] at hk
 ·exfalso
  obtain ⟨us,rfl,_⟩:=hv.vt
  simp [bZ] at hk
 ·exfalso
  cases hv with
  | d h=>cases h with
   | fn=>simp [bZ] at hk
  | fn=>simp [bZ] at hk
 ·cases h
theorem DK {e:bN} (h:e.news=false):(H.app e).n=H.n:=by cases e <;> first|rfl|cases h
theorem B7 {t:TypeId} {a x:AV} {K:AV→List AB→Prop} (hw:dZ T t a x hp K) {j av o:Nat} (h:a=.ptr j av o∨∃ n c,a=.dY j av o n c):∃ cs es,hp[j]?=some (.cells cs es av):=by
 unfold dZ at hw
 split at hw
 ·obtain ⟨cs,es,h1,_⟩:=hw
  rcases h with h|⟨n,c,h⟩
  ·cases h;exact ⟨cs,es,h1⟩
  ·cases h
 ·exact hw.elim
theorem EX {own:Bool} {t:TypeId} {a x:AV} {K:AV→List AB→Prop} (hw:oh T own t a x hp K) {j av o:Nat} (h:a=.ptr j av o∨∃ n c,a=.dY j av o n c):∃ cs es,hp[j]?=some (.cells cs es av):=by
 unfold oh at hw
 split at hw
 ·obtain ⟨_,els,_,_,hw⟩:=hw
  split at hw
  ·rcases h with h|⟨n,c,h⟩ <;> cases h
  ·rcases h with h|⟨n,c,h⟩ <;> cases h
  ·rcases hw with ⟨_,cs,h1,_⟩|⟨cs,es,h1,_⟩
   ·rcases h with h|⟨n,c,h⟩
    ·cases h
    ·cases h;exact ⟨cs,_,h1⟩
   ·rcases h with h|⟨n,c,h⟩
    ·cases h
    ·cases h;exact ⟨cs,_,h1⟩
  ·exact hw.elim
 ·exact hw.elim
theorem EY {t:TypeId} {a x:AV} {K:AV→List AB→Prop} (hw:dZ T t a x hp K) (j:Nat):a ≠ .om j:=fun h=>by
 subst h
 unfold dZ at hw
 exact hw.elim
theorem HS {own:Bool} {t:TypeId} {a x:AV} {K:AV→List AB→Prop} (hw:oh T own t a x hp K) (j:Nat):a ≠ .om j:=fun h=>by
 subst h
 unfold oh at hw
 split at hw
 ·obtain ⟨_,els,_,_,hw⟩:=hw
  exact hw.elim
 ·exact hw.elim
theorem B8 {t:TypeId} {m k:AV} {K:AV→List AB→Prop} (hw:gH T t m k hp K) {j:Nat} (h:m=.om j):∃ b,hp[j]?=some b∧b.ver?=some 0:=by
 subst h
 obtain ⟨ents,clock,_,_,_,_,_,h1,_⟩:=hw
 exact ⟨_,h1,rfl⟩
theorem DL {t:TypeId} {m k:AV} {K:AV→List AB→Prop} (hw:gH T t m k hp K) {j av o:Nat} (h:m=.ptr j av o∨∃ n c,m=.dY j av o n c):False:=by
 rcases h with rfl|⟨n,c,rfl⟩ <;> exact hw
theorem AW {m s v:AV} {K:AV→List AB→Prop} (hw:e7 m s v hp K) {j:Nat} (h:m=.om j):∃ b,hp[j]?=some b∧b.ver?=some 0:=by
 subst h
 obtain ⟨ents,clock,_,_,_,h1,_⟩:=hw
 exact ⟨_,h1,rfl⟩
theorem B9 {m s v:AV} {K:AV→List AB→Prop} (hw:e7 m s v hp K) {j av o:Nat} (h:m=.ptr j av o∨∃ n c,m=.dY j av o n c):False:=by
 rcases h with rfl|⟨n,c,rfl⟩ <;> exact hw
theorem Gn {tr:Nat→ct} {i:Nat} (ht:ot base au tr i) {bt:Nat→Nat} {fr:Nat→AV} {tm:Tr Value} (hb:jm tr i bt fr tm) {own:Bool} {o:Op} {l:List Acc} (h:EV o fr (DJ bt)=some l)
  {K:AV→List AB→Prop} (hw:wpOp T own o fr (tr i).hp K):∃ r w,pH o (aI tm)=some (r,w)∧(∀ k ∈ r,∃ p ∈ l,p.wr=false∧cB tr i p k)∧(∀ k ∈ w,∃ p ∈ l,p.wr=true∧cB tr i p k):=by
 have now:∀ x,(tr i).ar (aQ fr x) (aI tm x):=fun x=>(ht.ext _ i (hb.eval x).1 (Nat.le_refl _)).ar (ht.rel _ (hb.eval x).1).wf (hb.eval x).2
 have rd:∀ {x:Operand} {l:List Acc},vG (aQ fr x) (DJ bt x) false=some l→∀ k ∈ bZ (aI tm x),∃ p ∈ l,p.wr=false∧cB tr i p k :=
  fun {x l} h=>rE ht h (hb.eval x).1 (hb.eval x).2 (now x) (fun h=>Bool.noConfusion h) (fun h=>Bool.noConfusion h)
 have nil:∀ (Q:Nat→Prop),∀ k ∈ ([]:List Nat),Q k:=fun Q k hk=>by cases hk
 unfold EV at h
 split at h
 ·exact ⟨_,_,rfl,rd h,nil _⟩
 ·rename_i t a x
  exact ⟨_,_,rfl,nil _,rE ht h (hb.eval a).1 (hb.eval a).2 (now a) (fun _ j av o hj=>B7 (show dZ T t (aQ fr a) (aQ fr x) (tr i).hp K from dw (K:=fun v=>dZ T t (aQ fr a) v (tr i).hp K) hw) hj) (fun _ j he=>absurd he (EY (show dZ T t (aQ fr a) (aQ fr x) (tr i).hp K from dw (K:=fun v=>dZ T t (aQ fr a) v (tr i).hp K) hw) j))⟩
 ·rename_i args tys
  split at h
  ·rename_i s x hargs
   split at h
   ·rename_i l1 l2 h1 h2
    cases h
    have hw:mg T own .append (args.toList.map (aQ fr)) tys.toList (tr i).hp K:=gV hw
    rw [hargs] at hw
    have happ:∃ t,oh T own t (aQ fr s) (aQ fr x) (tr i).hp K:=by
     unfold mg at hw
     simp only [List.map_cons,List.map_nil] at hw
     split at hw
     ·rename_i s' x' t u hsx _
      cases hsx
      split at hw
      ·exact ⟨_,hw⟩
      ·exact hw.elim
     ·exact hw.elim
    obtain ⟨t,happ⟩:=happ
    refine ⟨bZ (aI tm x),bZ (aI tm s),by simp [pH,hargs],fun k hk=>?_,fun k hk=>?_⟩
    ·obtain ⟨p,a,b⟩:=rd h1 k hk
     exact ⟨p,List.mem_append_left _ a,b⟩
    ·obtain ⟨p,a,b⟩:=rE ht h2 (hb.eval s).1 (hb.eval s).2 (now s) (fun _ j av o hj=>EX happ hj) (fun _ j he=>absurd he (HS happ j)) k hk
     exact ⟨p,List.mem_append_right _ a,b⟩
   ·cases h
  ·cases h
 ·rename_i args tys
  split at h
  ·rename_i x hargs
   exact ⟨bZ (aI tm x),[],by simp [pH,hargs],rd h,nil _⟩
  ·cases h
 ·exact ⟨_,_,rfl,rd h,nil _⟩
 ·rename_i t m k
  exact ⟨_,_,rfl,nil _,rE ht h (hb.eval m).1 (hb.eval m).2 (now m) (fun _ j av o hj=>(DL (show gH T t (aQ fr m) (aQ fr k) (tr i).hp K from hw) hj).elim) (fun _ j hj=>B8 (show gH T t (aQ fr m) (aQ fr k) (tr i).hp K from hw) hj)⟩
 ·rename_i t m a x
  exact ⟨_,_,rfl,nil _,rE ht h (hb.eval m).1 (hb.eval m).2 (now m) (fun _ j av o hj=>(B9 (show e7 (aQ fr m) (aQ fr a) (aQ fr x) (tr i).hp K from hw) hj).elim) (fun _ j hj=>AW (show e7 (aQ fr m) (aQ fr a) (aQ fr x) (tr i).hp K from hw) hj)⟩
 ·cases h
 ·cases h
 ·cases h
 ·cases h
 ·cases h
 ·cases h
 ·rename_i n1 n2 n3 n4 n5 n6 n7 n8 n9 n10 n11 n12 n13
  cases h
  refine ⟨[],[],?_,nil _,nil _⟩
  unfold pH
  split <;> first
   | rfl
   | exact absurd rfl (n1 _ _)|exact absurd rfl (n2 _ _ _)|exact absurd rfl (n3 _ _)|exact absurd rfl (n4 _ _)
   | exact absurd rfl (n5 _ _ _ _)|exact absurd rfl (n6 _ _ _)|exact absurd rfl (n7 _ _ _ _)|exact absurd rfl (n8 _ _)|exact absurd rfl (n9 _ _)|exact absurd rfl (n10 _)|exact absurd rfl (n11 _ _ _ _)|exact absurd rfl (n12 _ _)|exact absurd rfl (n13 _ _)
theorem aH.grow (hr:aH E base hp au H) (hn:H.n≤H'.n) (hwf:Wf H') (hsame:∀ k,k < H.n→H'.get k=H.get k) (hlo:min H.lo base≤H'.lo):aH E base hp au H'∧Ext base E hp H E hp H':=by
 have e:Ext base E hp H E hp H':=⟨hn,rfl,rfl,rfl,fun _ _ _ h=>h,fun _ h=>.inl h,fun k hk _=>hsame k hk,hlo⟩
 refine ⟨⟨hwf,fun j x av hj hvx=>?_,hr.inj,fun j v k hk=>Nat.lt_of_lt_of_le (hr.rn j v k hk) hn,hr.fresh,hr.new,hr.sup,hr.iD,hr.dx,hr.ds,fun k hk=>Nat.lt_of_lt_of_le (hr.sn k hk) hn,fun k hk=>Nat.lt_of_lt_of_le (hr.xn k hk) hn,hr.pR,Nat.le_trans hr.bn hn,au.st hr.au (fun k hk=>hsame k (hr.sn k hk)) hn⟩,e⟩
 rcases hr.gn j x av hj hvx with ⟨k,b',q1,q2,q3⟩|q
 ·exact .inl ⟨k,b',q1,by rw [hsame k (hr.wf.lt q2)];exact q2,e.br hr.wf q3⟩
 ·exact .inr q
theorem j7 {mu:Tmp→Bool} {ops:Array Oper}:∀ {l:List Oper} {i:Nat} {bt:Nat→Nat} {acc:List jR} {evs:List Ev} {st:aR} {K:aR→Prop} {tr:Nat→ct} {s:St},i5 T tab mu ops l i bt acc st K →
  ot base st.au tr i→(tr i).hp=st.hp→(tr i).H=s.hp→s.rd=st.rd→jm tr i bt st.fr s.fr→tY tr i acc evs →
  ∃ m s',bV T (RX T tab m) ops l i s evs=some [s']∧∃ E' st',K st'∧st'.fl=st.fl∧jy E' base st' s'∧Ext base (tr 0).E (tr 0).hp (tr 0).H E' st'.hp s'.hp
 | [],i,bt,acc,evs,st,K,tr,s,h,ht,h1,h2,h3,hb,he=>by
  obtain ⟨hc,hk⟩:=h
  have hrel:=ht.rel i (Nat.le_refl _)
  have hok:eU T ops evs=true:=by
   unfold eU
   cases hq:(evs.all fun e=>e.t.wr.isEmpty && Nat.beq e.t.a e.t.b) with
   | true=>rfl
   | false=>exact he.pairs ht (Nat.le_refl _) hc
  refine ⟨0,s,by rw [fV,hok];rfl,(tr i).E,st,hk,rfl,⟨by rw [←h1,←h2];exact hrel,h3,fun t=>?_⟩,by rw [←h1,←h2];exact ht.ext 0 i (Nat.zero_le _) (Nat.le_refl _)⟩
  have:=(ht.ext _ i (hb t).1 (Nat.le_refl _)).ar (ht.rel _ (hb t).1).wf (hb t).2
  rw [←h1,←h2]
  exact this
 | o :: l,i,bt,acc,evs,st,K,tr,s,h,ht,h1,h2,h3,hb,he=>by
  have h:cS ops.toList o.guard st.fr (i4 T tab mu o.dst o.op i bt st.fr st.hp fun fr' hp' bt' x=>i5 T tab mu ops l (i+1) bt' (x :: acc) ⟨fr',hp',st.au,st.rd,st.fl⟩ K)
   (fY o.dst st.fr (.tp []) fun fr'=>i5 T tab mu ops l (i+1) (nD o.dst bt 0) (⟨i,[],false,false⟩ :: acc) ⟨fr',st.hp,st.au,st.rd,st.fl⟩ K):=h
  have hrel:=ht.rel i (Nat.le_refl _)
  have hfr:m4 (tr i).E.ρ (tr i).H.get ((tr i).E.O (tr i).hp) st.fr s.fr:=fun t=>(ht.ext _ i (hb t).1 (Nat.le_refl _)).ar (ht.rel _ (hb t).1).wf (hb t).2
  have hz0:(snoc tr i (tr i) 0)=tr 0:=cJ (Nat.zero_le _)
  rcases vD hfr h with ⟨hg,h⟩|⟨hg,h⟩
  ·
   have go:∀ (z:ct) (v:AV) (u:Value) (b:Nat) (x:jR) (t:Tc) (m0:Nat),aH z.E base z.hp st.au z.H→Ext base (tr i).E (tr i).hp (tr i).H z.E z.hp z.H→b≤i+1→(snoc tr i z b).ar v u→x.i=i→Gl (snoc tr i z) x t →
     (∀ m,m0≤m→bQ T (RX T tab m) o.op i s=some (u,z.H,t))→i5 T tab mu ops l (i+1) (nD o.dst bt b) (x :: acc) ⟨sB st.fr o.dst v,z.hp,st.au,st.rd,st.fl⟩ K →
     ∃ m s',bV T (RX T tab m) ops (o :: l) i s evs=some [s']∧∃ E' st',K st'∧st'.fl=st.fl∧jy E' base st' s'∧Ext base (tr 0).E (tr 0).hp (tr 0).H E' st'.hp s'.hp:=by
    intro z v u b x t m0 hz he' hbi hv hxi hx hd hw
    obtain ⟨m,s',r1,r2⟩:=j7 (s:=⟨cK s.fr o.dst u,z.H,s.rd⟩) (evs:=⟨o,s,u,z.H,t⟩ :: evs) hw (ht.snoc hz he') (by rw [gA (Nat.lt_succ_self _)]) (by rw [gA (Nat.lt_succ_self _)]) h3 (hb.put hbi hv o.dst) (.cons (he.snoc (Nat.le_refl _)) hxi hx)
    rw [cJ (Nat.zero_le _)] at r2
    refine ⟨max m0 m,s',?_,r2⟩
    rw [cC,hg]
    simp only [cond_true,hd _ (Nat.le_max_left _ _)]
    exact gT (dI (Nat.le_max_right _ _)) _ _ _ _ _ _ r1
   unfold i4 at h
   split at h
   ·rename_i f args hk
    have h:=gV (dw h)
    obtain ⟨hF,vs,v,hhand,⟨hvd,hpure⟩,h⟩:=h
    have hF':=(EP hfr f).deep hF
    have hget:({s.hp with lo:=s.hp.n}:Hp).get=(tr i).H.get:=by rw [h2];rfl
    obtain ⟨goal,hgo,m0,L,q1,q2,q3⟩:∃ goal,bK (lW T.P s.fr f) (args.map (aI s.fr))=some goal ∧
      ∃ m L,RX T tab m (jN {s.hp with lo:=s.hp.n} goal)=some L∧(true=true→∃ r,L=[r])∧∀ r ∈ L,∃ w H',r=.ret w H' ∧
       ({s.hp with lo:=s.hp.n}:Hp).n≤H'.n∧Wf H'∧(∀ k,k < ({s.hp with lo:=s.hp.n}:Hp).n→H'.get k=({s.hp with lo:=s.hp.n}:Hp).get k)∧min ({s.hp with lo:=s.hp.n}:Hp).lo ({s.hp with lo:=s.hp.n}:Hp).n≤H'.lo∧DR H'.get ((tr i).E.O (tr i).hp) v w:=by
     rcases hhand with ⟨rfl,hA⟩|⟨hz,hfree⟩
     ·have hA':=(iw hfr args).deep hA
      exact hpure ((tr i).E.O (tr i).hp) {s.hp with lo:=s.hp.n} _ _ (by rw [h2] at hrel;exact hrel.wf) (fun k hk=>by
       have:k < (tr i).H.n:=hk.elim (fun h=>hrel.mc h) (hrel.xn k)
       rw [h2] at this;exact this) (by rw [hget];exact hF') (by rw [hget];exact hA')
     ·obtain ⟨goal,hgo,m0,L,q1,q2,q3⟩:=hpure (tr i).E.X {s.hp with lo:=s.hp.n} _ _ (by rw [h2] at hrel;exact hrel.wf) (fun k hk=>by
       have:k < (tr i).H.n:=hrel.xn k hk
       rw [h2] at this;exact this) (by rw [hget];exact hF'.mono fun k b hk ho=>⟨hk,fun hx=>ho (.inr hx)⟩) (by
        rw [hget]
        rw [←h1] at hz
        exact hz.dr hrel (fun _ h=>h) (iw hfr args))
      refine ⟨goal,hgo,m0,L,q1,q2,fun r hm=>?_⟩
      obtain ⟨w,H',e1,e2,e3,e4,e5,e6⟩:=q3 r hm
      exact ⟨w,H',e1,e2,e3,e4,e5,hfree.2 _ _ _ _ e6⟩
    obtain ⟨r,hr⟩:=q2 rfl
    subst hr
    obtain ⟨w,H',rfl,hn,hwf,hsame,hlo,hdr⟩:=q3 r (by simp)
    obtain ⟨g1,g2⟩:=hrel.grow (H':={H' with lo:=s.hp.lo}) (by rw [h2];exact hn) hwf (fun k hk=>by
     have:=hsame k (by rw [←h2];exact hk)
     rw [h2];exact this) (by rw [h2];exact Nat.min_le_left _ _)
    refine go ⟨(tr i).E,st.hp,{H' with lo:=s.hp.lo}⟩ v w (i+1) ⟨i,[],true,true⟩ ⟨i,[],[],true,s.hp.n,H'.n⟩ m0 (by rw [←h1];exact g1) (by rw [←h1];exact g2) (Nat.le_refl _) ?_ rfl ?_ (fun m hm=>?_) (gy h)
    ·rw [gA (Nat.lt_succ_self _)]
     refine .d ?_
     show DR H'.get ((tr i).E.O st.hp) v w
     rw [←h1];exact hdr
    ·refine ⟨rfl,by rw [cJ (Nat.le_refl _),h2],by rw [gA (Nat.lt_succ_self _)],fun h=>Bool.noConfusion h,rfl,fun k hk=>(by cases hk),fun k hk=>(by cases hk)⟩
    ·unfold bQ
     simp only [hk,hgo,dI hm _ _ q1]
     have:Nat.ble s.hp.n H'.lo=true:=Nat.ble_eq_true_of_le (by
      have:min s.hp.n s.hp.n≤H'.lo:=hlo
      omega)
     rw [Dp this]
   ·exact h.elim
   ·rename_i hk
    obtain ⟨a,hacc,hw⟩:=h
    have hw':=hw
    rw [←h1] at hw'
    obtain ⟨r,w,ht1,ht2,ht3⟩:=Gn ht hb hacc hw'
    have evr:∀ (z:ct) (u:Value) (e:bN),jM T s.hp.n o.op (aI s.fr) s.hp.get=some (u,e)→z.H=s.hp.app e→Gl (snoc tr i z) ⟨i,a,news? o.op,false⟩ ⟨i,r,w,false,s.hp.n,(s.hp.app e).n⟩:=by
     intro z u e hop hz
     refine ⟨rfl,by rw [cJ (Nat.le_refl _),h2],by rw [gA (Nat.lt_succ_self _),hz],fun hal _=>(DK (EW hop hal)).symm,rfl,fun k hk=>?_,fun k hk=>?_⟩
     ·obtain ⟨p,p1,p2,p3⟩:=ht2 k hk;exact ⟨p,p1,p2,p3.snoc (Nat.le_refl _)⟩
     ·obtain ⟨p,p1,p2,p3⟩:=ht3 k hk;exact ⟨p,p1,p2,p3.snoc (Nat.le_refl _)⟩
    have drw:∀ (u:Value) (e:bN) (m:Nat),jM T s.hp.n o.op (aI s.fr) s.hp.get=some (u,e)→bQ T (RX T tab m) o.op i s=some (u,s.hp.app e,⟨i,r,w,false,s.hp.n,(s.hp.app e).n⟩):=by
     intro u e m hop
     unfold bQ
     simp only [hk,ht1,hop]
    by_cases hm:∃ x,CP o.op st.fr=some [x]
    ·obtain ⟨x,hm⟩:=hm
     have hbirth:xQ o.op st.fr bt i=DJ bt x:=by unfold xQ;rw [hm]
     have hbx:=hb.eval x
     have eb:=ht.ext _ i hbx.1 (Nat.le_refl _)
     obtain ⟨u,v,r1,r2,r3,r4⟩:=EU (ρ2:=(tr (DJ bt x)).E.ρ) (g2:=(tr (DJ bt x)).H.get) (O2:=(tr (DJ bt x)).E.O (tr (DJ bt x)).hp) (n:=s.hp.n) hfr hm (fun y hy=>by
      obtain rfl:=List.mem_singleton.1 hy;exact hbx.2) (fun k b hk ho=>(eb.keep (ht.rel _ hbx.1).wf k b hk ho).1) hw
     rw [h2] at r1
     have hz:(tr i).H=s.hp.app .none:=h2
     rw [hbirth] at r2
     refine go (tr i) v u (DJ bt x) ⟨i,a,news? o.op,false⟩ ⟨i,r,w,false,s.hp.n,(s.hp.app .none).n⟩ 0 hrel .refl (by omega) (by rw [cJ hbx.1];exact r4) rfl (evr _ u .none r1 hz) (fun m _=>by rw [hz];exact drw u .none m r1) (by rw [h1];exact gy (dw r2))
    ·have hbirth:xQ o.op st.fr bt i=i+1:=by
      unfold xQ
      split
      ·rename_i x hx;exact absurd ⟨x,hx⟩ hm
      ·rfl
     obtain ⟨u,e,E',v,hp',r1,r2,r3,r4,r5⟩:=qh hrel hfr hw'
     rw [h2] at r1 r3 r4 r5
     rw [hbirth] at r2
     refine go ⟨E',hp',s.hp.app e⟩ v u (i+1) ⟨i,a,news? o.op,false⟩ ⟨i,r,w,false,s.hp.n,(s.hp.app e).n⟩ 0 r3 (by rw [h2];exact r4) (Nat.le_refl _) (by rw [gA (Nat.lt_succ_self _)];exact r5) rfl (evr _ u e r1 rfl) (fun m _=>drw u e m r1) (gy (dw r2))
  ·obtain ⟨m,s',r1,r2⟩:=j7 (s:=⟨cK s.fr o.dst undef,s.hp,s.rd⟩) (evs:=⟨o,s,undef,s.hp,⟨i,[],[],false,s.hp.n,s.hp.n⟩⟩ :: evs) (gy h) (ht.snoc (z:=tr i) hrel .refl) (by rw [gA (Nat.lt_succ_self _)];exact h1) (by rw [gA (Nat.lt_succ_self _)];exact h2) h3
    (hb.put (Nat.zero_le _) vC o.dst) (.cons (he.snoc (Nat.le_refl _)) rfl ⟨rfl,by rw [cJ (Nat.le_refl _),h2],by rw [gA (Nat.lt_succ_self _),h2],fun _ _=>rfl,rfl,fun k hk=>(by cases hk),fun k hk=>(by cases hk)⟩)
   rw [hz0] at r2
   refine ⟨m,s',?_,r2⟩
   rw [cC,hg]
   exact r1
def CQ (T:bf) (tab:List XE) (one:Bool) (mu:Tmp→Bool) (ops:Array Oper) (c:Nat) (st:aR) (K:aR→Prop):Prop :=
 i5 T tab mu ops (ops.toList.take c) 0 (fun _=>0) [] st fun s=>wpOps T tab one mu ops.toList (ops.toList.drop c) s K
theorem aL.draw {id:Nat} {ops:Array Oper} {mu:Tmp→Bool} {st:aR} {K:Exit→aR→Prop} (h:CQ T tab one mu ops (gj ops) st (K .normal)):aL T tab one (.region id ops true) st K:=by
 intro E base s hs
 obtain ⟨m,s',r1,E',st',r2,r3,r4,r5⟩:=j7 (base:=base) (tr:=fun _=>⟨E,st.hp,s.hp⟩) (evs:=[]) h ⟨fun _ _=>hs.h,fun _ _ _ _=>.refl⟩ rfl rfl hs.rd (fun t=>⟨Nat.le_refl _,hs.fr t⟩) .nil
 obtain ⟨m2,L,q1,q2,q3⟩:=fN r2 r4
 refine ⟨max m m2,L.map fun s=>(.normal,s),?_,fun h1=>?_,fun p hp=>?_⟩
 ·rw [dD]
  have:bW T (RX T tab (max m m2)) ops s=some L:=by
   cases hn:wD ops with
   | none =>
    unfold bW
    simp only [hn,gT (dI (Nat.le_max_left m m2)) _ _ _ _ _ _ r1]
    exact fK (dI (Nat.le_max_right _ _)) _ _ _ _ q1
   | some c =>
    have ht:=DA hn
    rw [ht,List.take_length] at r1
    rw [ht,List.drop_length,fH] at q1
    cases q1
    exact Az ht (gT (dI (Nat.le_max_left m m2)) _ _ _ _ _ _ r1)
  simp only [cond_true,this]
 ·obtain ⟨p,hp⟩:=q2 h1
  exact ⟨_,by rw [hp];rfl⟩
 ·obtain ⟨s2,hm,rfl⟩:=List.mem_map.1 hp
  obtain ⟨E2,st2,k1,k2,k3,k4⟩:=q3 s2 hm
  rw [r3] at k2 k4
  exact ⟨E2,st2,k1,k2,k3,r5.CN.trans k4⟩
def kr (T:bf) (tab:List XE) (one:Bool) (mu:Tmp→Bool):Code→aR→(Exit→aR→Prop)→Prop
 | .skip,st,K=>K .normal st
 | .label _,st,K=>K .normal st
 | .region _ ops false,st,K=>wpOps T tab one mu ops.toList ops.toList st (K .normal)
 | .region _ ops true,st,K=>CQ T tab one mu ops (gj ops) st (K .normal)
 | .seq a b,st,K=>kr T tab one mu a st (w9 (fun s=>kr T tab one mu b s K) K)
 | .cond c a b,st,K=>match aQ st.fr c with
  | .fl (.bool t)=>(t=true→kr T tab one mu a st K)∧(t=false→kr T tab one mu b st K)
  | _=>False
 | .block id c,st,K=>kr T tab one mu c st (kQ id K)
 | .exit id,st,K=>K (.exit id) st
 | .ret,st,K=>K .ret st
 | .scope c,st,K=>kr T tab one mu c st (sC K)
 | c,st,K=>aL T tab one c st K
theorem aa {mu:Tmp→Bool}:∀ {c:Code} {st:aR} {K:Exit→aR→Prop},kr T tab one mu c st K→aL T tab one c st K:=by
 intro c
 induction c with
 | skip=>intro st K h;exact .here (fun _ _=>rfl) h
 | label l=>intro st K h;exact .here (fun _ _=>rfl) h
 | region id ops draw =>
  intro st K h
  cases draw with
  | false=>exact .ops h
  | true=>exact .draw h
 | seq a b iha ihb =>
  intro st K h
  refine .seq (iha h |>.mono fun e s hk=>?_)
  cases e <;> first|exact ihb hk|exact hk
 | cond c a b iha ihb =>
  intro st K h
  unfold kr at h
  split at h
  ·rename_i t ht
   exact .cond ht (fun e=>iha (h.1 e)) (fun e=>ihb (h.2 e))
  ·exact h.elim
 | block id c ih=>intro st K h;exact .block (ih h)
 | exit id=>intro st K h;exact .here (fun _ _=>rfl) h
 | ret=>intro st K h;exact .here (fun _ _=>rfl) h
 | scope c ih=>intro st K h;exact .scope (ih h)
 | _=>intro st K h;exact h
end
end Go.RM
namespace Go.RM
open Go
inductive Sh where
 | int (k:IntKind)
 | bool
 | str
 | slice (s:Sh)
 | nil
 | cons (s:Sh) (l:Sh)
 | arr (n:Nat) (s:Sh)
def Sh.cells:Sh→Nat
 | .int _=>1
 | .bool=>1
 | .str=>1
 | .slice _=>1
 | .nil=>0
 | .cons s l=>s.cells+l.cells
 | .arr n s=>n * s.cells
inductive TV:Sh→List AV→Prop
 | int {k:IntKind} {n:Int}:(Lit.int k n).wf=true→TV (.int k) [.fl (.int k n)]
 | bool {b:Bool}:TV .bool [.fl (.bool b)]
 | str {s:ByteArray}:s.size≤maxLen→TV .str [.fl (.string s)]
 | slice {s:Sh} {els:List (List AV)}:els.length≤maxLen→(∀ el ∈ els,TV s el)→TV (.slice s) [.sl els false]
 | nil:TV .nil []
 | cons {s l:Sh} {a b:List AV}:TV s a→TV l b→TV (.cons s l) (a++b)
 | arr {n:Nat} {s:Sh} {els:List (List AV)}:els.length=n→(∀ el ∈ els,TV s el)→TV (.arr n s) els.flatten
mutual
def kU (P:Program):Nat→Sh→TypeId→Bool
 | 0,_,_=>false
 | _+1,.int k,t=>match P.underlying t with
  | some (.int k')=>decide (k=k')
  | _=>false
 | _+1,.bool,t=>match P.underlying t with
  | some .bool=>true
  | _=>false
 | _+1,.str,t=>match P.underlying t with
  | some .string=>true
  | _=>false
 | d+1,.slice s,t=>match P.underlying t with
  | some (.slice e)=>Nat.beq (P.cellsOf e) s.cells && (Nat.ble 1 s.cells && kU P d s e)
  | _=>false
 | d+1,.nil,t=>match P.underlying t with
  | some (.struct fs)=>Nat.beq (P.cellsOf t) 0 && sD P d .nil fs.toList 0
  | _=>false
 | d+1,.cons s l,t=>match P.underlying t with
  | some (.struct fs)=>Nat.beq (P.cellsOf t) (s.cells+l.cells) && sD P d (.cons s l) fs.toList 0
  | _=>false
 | d+1,.arr n s,t=>match P.underlying t with
  | some (.array m e)=>Nat.beq n m && Nat.beq (P.cellsOf e) s.cells && Nat.beq (P.cellsOf t) (n * s.cells) && kU P d s e
  | _=>false
def sD (P:Program):Nat→Sh→List Field→Nat→Bool
 | 0,_,_,_=>false
 | _+1,.nil,[],_=>true
 | d+1,.cons s l,f :: fs,o=>Nat.beq f.offset o && Nat.beq (P.cellsOf f.type) s.cells && kU P d s f.type && sD P d l fs (o+s.cells)
 | _+1,_,_,_=>false
end
section
variable {P : Program} {w : World}
structure LS (γ:Gm) (H:Hp) (w:World):Prop where
 hr:HR γ H.get w
 wf:Wf H
 fr:∀ k,H.n≤k→γ.loc k=none
 un:∀ k a,H.get k=some a→a.own=false∧a ≠ .dead
structure LE (γ:Gm) (H:Hp) (γ':Gm) (H':Hp):Prop where
 le:γ.Le γ'
 n:H.n≤H'.n
 same:∀ k,k < H.n→H'.get k=H.get k
theorem LE.refl {γ:Gm} {H:Hp}:LE γ H γ H:=⟨Gm.Le.refl γ,Nat.le_refl _,fun _ _=>rfl⟩
theorem LE.trans {γ γ1 γ2:Gm} {H H1 H2:Hp} (a:LE γ H γ1 H1) (b:LE γ1 H1 γ2 H2):LE γ H γ2 H2 :=
 ⟨a.le.trans b.le,Nat.le_trans a.n b.n,fun k hk=>(b.same k (Nat.lt_of_lt_of_le hk a.n)).trans (a.same k hk)⟩
abbrev CR:Nat→Prop:=fun _=>False
theorem LE.dr {γ γ':Gm} {H H':Hp} (e:LE γ H γ' H') (hw:Wf H) {v:AV} {u:Value} (h:DR H.get CR v u):DR H'.get CR v u :=
 h.mono fun k b hk _=>⟨by rw [e.same k (hw.lt hk)];exact hk,fun h=>h⟩
theorem LE.II {γ γ':Gm} {H H':Hp} (e:LE γ H γ' H') (hw:Wf H) {v:List AV} {u:List Value} (h:rq H.get CR v u):rq H'.get CR v u:=⟨h.1,fun i a u x y=>e.dr hw (h.2 i a u x y)⟩
def Lk (w:World) (s:Sh) (cs:List Value):Prop:=∀ (γ:Gm) (H:Hp),LS γ H w→∃ γ' H' us avs,LE γ H γ' H'∧LS γ' H' w∧us.length=cs.length∧bJ γ' us cs∧rq H'.get CR avs us∧TV s avs∧avs.length=s.cells
theorem Lk.flat {s:Sh} {v:Value} (hf:aN v=true) (ht:TV s [.fl v]) (hs:s.cells=1):Lk w s [v]:=fun γ H h =>
 ⟨γ,H,[v],[.fl v],.refl,h,rfl,bJ.cons (.flat hf) (bJ.nil γ),⟨rfl,fun i a u x y=>by
  cases i with
  | zero=>cases x;cases y;exact .fl hf
  | succ i=>simp at x⟩,ht,hs.symm⟩
theorem Lk.list {s:Sh}:∀ {csl:List (List Value)},(∀ cs ∈ csl,Lk w s cs∧cs.length=s.cells)→∀ (γ:Gm) (H:Hp),LS γ H w→∃ (γ':Gm) (H':Hp) (us:List Value) (els:List (List AV)),LE γ H γ' H'∧LS γ' H' w∧us.length=csl.flatten.length∧bJ γ' us csl.flatten∧rq H'.get CR els.flatten us ∧
  els.length=csl.length∧(∀ el ∈ els,TV s el∧el.length=s.cells)
 | [],_,γ,H,h=>⟨γ,H,[],[],.refl,h,rfl,bJ.nil γ,⟨rfl,fun i a u x=>by cases x⟩,rfl,fun el he=>by cases he⟩
 | cs :: csl,hl,γ,H,h=>by
  obtain ⟨γ1,H1,us1,av1,e1,h1,l1,v1,d1,t1,c1⟩:=(hl cs (by simp)).1 γ H h
  obtain ⟨γ2,H2,us2,els,e2,h2,l2,v2,d2,t2,c2⟩:=Lk.list (fun c hc=>hl c (List.mem_cons_of_mem _ hc)) γ1 H1 h1
  refine ⟨γ2,H2,us1++us2,av1 :: els,e1.trans e2,h2,by simp [l1,l2],?_,?_,by simp [t2],fun el he=>?_⟩
  ·rw [List.flatten_cons];exact (v1.mono e2.le).append v2
  ·rw [List.flatten_cons];exact (e2.II h1.wf d1).append d2
  ·rcases List.mem_cons.1 he with rfl|he
   ·exact ⟨t1,c1⟩
   ·exact c2 el he
theorem LS.row {γ:Gm} {H:Hp} (h:LS γ H w) {b o:Nat} {cs':Array Value} {e:TypeId} {fz:Nat × Nat} (hb:w.heap[b]?=some (.cells cs' e fz)) {us:List Value} (hc:dA γ us cs' o) :
  ∃ γ',γ'={γ with loc:=fun i=>if i=H.n then some (b,o) else γ.loc i}∧LE γ H γ' (H.push (.cells us false 0))∧LS γ' (H.push (.cells us false 0)) w∧γ'.loc H.n=some (b,o):=by
 have hle:γ.Le {γ with loc:=fun i=>if i=H.n then some (b,o) else γ.loc i}:=by
  refine ⟨fun k x hk=>?_,fun k x hk=>rfl,rfl⟩
  show (if k=H.n then _ else _)=_
  rw [if_neg (fun hkn=>by rw [hkn,h.fr _ (Nat.le_refl _)] at hk;cases hk)]
  exact hk
 have hlt:b < w.heap.size:=(Array.getElem?_eq_some_iff.1 hb).1
 have hget:∀ k a,(H.push (.cells us false 0)).get k=some a→(k < H.n∧H.get k=some a)∨(k=H.n∧a=.cells us false 0):=by
  intro k a hk
  rw [Hp.eF] at hk
  split at hk
  ·rename_i hkn;cases hk;exact .inr ⟨hkn,rfl⟩
  ·exact .inl ⟨h.wf.lt hk,hk⟩
 have hun:∀ k a,(H.push (.cells us false 0)).get k=some a→a.own=false∧a ≠ .dead:=by
  intro k a hk
  rcases hget k a hk with ⟨_,h1⟩|⟨_,rfl⟩
  ·exact h.un k a h1
  ·exact ⟨rfl,by simp⟩
 refine ⟨_,rfl,⟨hle,Nat.le_succ _,fun k hk=>bU hk⟩,⟨⟨fun k b' o' a hk hl=>?_,fun k k' b' o' o2 a a' hk ho=>?_,fun k b' o' hl=>?_,h.hr.base,h.hr.gl⟩,(cL.push H _).wf h.wf,fun k hk=>?_,hun⟩,if_pos rfl⟩
 ·have hl:(if k=H.n then some (b,o) else γ.loc k)=some (b',o'):=hl
  rcases hget k a hk with ⟨h1,h2⟩|⟨rfl,rfl⟩
  ·rw [if_neg (by omega)] at hl
   exact (h.hr.gn k b' o' a h2 hl).mono hle hl rfl
  ·rw [if_pos rfl] at hl
   cases hl
   exact ⟨cs',e,fz,hb,hc.mono hle,fun h=>Bool.noConfusion h⟩
 ·rw [(hun k a hk).1] at ho;cases ho
 ·have hl:(if k=H.n then some (b,o) else γ.loc k)=some (b',o'):=hl
  split at hl
  ·cases hl;exact hlt
  ·exact h.hr.lt k b' o' hl
 ·show (if k=H.n then _ else _)=_
  have:H.n+1≤k:=hk
  rw [if_neg (by omega)];exact h.fr k (by omega)
variable {D : Type} {enc : TypeId × Value → D} {base : Nat} {spare : Nat → Bool} {held : Bool}
theorem EZ {b:Addr} {n:Nat} {cs:List Value} (h:w.cells? base b n=some cs):cs.length=n∧∀ i,i < n→w.cell? (b.add i)=cs[i]?:=by
 unfold World.cells? at h
 split at h
 ·refine ⟨by simpa using mapM_some_length h,fun i hi=>mapM_some_get h i i (by simp [hi])⟩
 ·cases h
theorem xR {a:Addr} {v:Value} (h:w.cell? a=some v):a.spot=none∧∃ c e fz,w.heap[a.block]?=some (.cells c e fz)∧c[a.off]?=some v:=by
 unfold World.cell? at h
 split at h
 ·rename_i c e fz hb
  split at h
  ·cases h
  ·rename_i hs
   exact ⟨by simpa using hs,c,e,fz,hb,h⟩
 ·cases h
theorem oV (a:Addr) (n:Nat):(a.add n).block=a.block:=by unfold Addr.add;split <;> rfl
theorem CS (a:Addr) (n:Nat):(a.add n).off=a.off+n:=by unfold Addr.add;split <;> simp_all
mutual
theorem lk (P:Program):∀ (d:Nat) (s:Sh) (t:TypeId),kU P d s t=true→∀ (fuel:Nat) (cs:List Value) (x:DataW D × List MemPlace),DataW.trod enc P w base spare held fuel t cs=some x→Lk w s cs∧cs.length=s.cells
 | 0,_,_,h=>by simp [kU] at h
 | d+1,.int k,t,h=>by
  intro fuel cs x hx
  unfold kU at h
  split at h
  ·rename_i k' hu
   obtain rfl:=of_decide_eq_true h
   obtain ⟨n,rfl,_,hw⟩:=DataW.trod_int hu hx
   exact ⟨.flat rfl (.int hw) rfl,rfl⟩
  ·cases h
 | d+1,.bool,t,h=>by
  intro fuel cs x hx
  unfold kU at h
  split at h
  ·rename_i hu
   obtain ⟨b,rfl,_⟩:=DataW.trod_bool hu hx
   exact ⟨.flat rfl .bool rfl,rfl⟩
  ·cases h
 | d+1,.str,t,h=>by
  intro fuel cs x hx
  unfold kU at h
  split at h
  ·rename_i hu
   obtain ⟨s,rfl,_,hw⟩:=DataW.trod_string hu hx
   exact ⟨.flat rfl (.str hw) rfl,rfl⟩
  ·cases h
 | d+1,.slice s,t,h=>by
  intro fuel cs x hx
  unfold kU at h
  split at h
  ·rename_i e hu
   simp only [Bool.and_eq_true] at h
   have hsz:=Nat.eq_of_beq_eq_true h.1
   rcases DataW.trod_slice hu hx with ⟨rfl,_⟩|⟨a,len,cap,elems,rest,n,_,rfl,_,_,hlc,hcm,hel,hat,_⟩
   ·refine ⟨fun γ H hs=>⟨γ,H,[.slice none 0 0],[.sl [] false],.refl,hs,rfl,bJ.cons (.flat rfl) (bJ.nil γ),⟨rfl,fun i a u x y=>?_⟩,.slice (Nat.zero_le _) (fun el he=>by cases he),rfl⟩,rfl⟩
    cases i with
    | zero=>cases x;cases y;exact .nil
    | succ i=>simp at x
   ·
    let csl:List (List Value):=(List.range len).map fun i=>(w.cells? base (a.add (i * P.cellsOf e)) (P.cellsOf e)).getD []
    have hlen:csl.length=len:=by simp [csl]
    have hcs:∀ i,i < len→∃ ci y,csl[i]?=some ci∧w.cells? base (a.add (i * P.cellsOf e)) (P.cellsOf e)=some ci∧DataW.trod enc P w base spare held n e ci=some y:=by
     intro i hi
     have h1:=hat i hi
     have h2:elems[i]?=some (elems[i]'(by omega)):=List.getElem?_eq_getElem _
     rw [h2,Option.bind_eq_some_iff] at h1
     obtain ⟨ci,c1,c2⟩:=h1
     exact ⟨ci,_,by simp [csl,hi,c1],c1,c2⟩
    have hall:∀ ci ∈ csl,Lk w s ci∧ci.length=s.cells:=by
     intro ci hci
     obtain ⟨i,hi,rfl⟩:=List.getElem_of_mem hci
     obtain ⟨cj,y,q1,q2,q3⟩:=hcs i (by omega)
     rw [List.getElem?_eq_getElem hi] at q1
     cases q1
     exact lk P d s e h.2.2 n _ y q3
    refine ⟨fun γ H hs=>?_,rfl⟩
    obtain ⟨γ1,H1,us,els,e1,h1,l1,v1,d1,t1,c1⟩:=Lk.list hall γ H hs
    have htv:TV (.slice s) [.sl els false]:=.slice (by rw [t1,hlen];omega) (fun el he=>(c1 el he).1)
    have hfin:∀ (u:Value) (γ':Gm) (H':Hp),LE γ1 H1 γ' H'→LS γ' H' w→VR γ' u (.slice (some a) len cap)→DR H'.get CR (.sl els false) u →
      ∃ γ' H' us avs,LE γ H γ' H'∧LS γ' H' w∧us.length=[Value.slice (some a) len cap].length∧bJ γ' us [.slice (some a) len cap]∧rq H'.get CR avs us∧TV (.slice s) avs∧avs.length=(Sh.slice s).cells:=by
     intro u γ' H' he hs' hv hd
     refine ⟨γ',H',[u],[.sl els false],e1.trans he,hs',rfl,bJ.cons hv (bJ.nil γ'),⟨rfl,fun i a w x y=>?_⟩,htv,rfl⟩
     cases i with
     | zero=>cases x;cases y;exact hd
     | succ i=>simp at x
    have hfl:∀ el ∈ csl,el.length=s.cells:=fun el he=>(hall el he).2
    have hels:∀ el ∈ els,el.length=s.cells:=fun el he=>(c1 el he).2
    have hne:els.length=len:=t1.trans hlen
    by_cases h0:len * s.cells=0
    ·
     have hg:∀ k a,(H1.push (.cells us false 0)).get k=some a→(k < H1.n∧H1.get k=some a)∨(k=H1.n∧a=.cells us false 0):=by
      intro k a hk
      rw [Hp.eF] at hk
      split at hk
      ·rename_i hkn;cases hk;exact .inr ⟨hkn,rfl⟩
      ·exact .inl ⟨h1.wf.lt hk,hk⟩
     have hus:us=[]:=List.length_eq_zero_iff.1 (by rw [l1,ec hfl,hlen];exact h0)
     by_cases hl0:len=0
     ·subst hl0
      refine hfin (.slice (some ⟨H1.n,0,none⟩) 0 2) γ1 (H1.push (.cells us false 0)) ⟨Gm.Le.refl γ1,Nat.le_succ _,fun k hk=>bU hk⟩ ⟨⟨fun k b o a hk hl=>?_,fun k k' b o o' a a' hk ho=>?_,h1.hr.lt,h1.hr.base,h1.hr.gl⟩,(cL.push H1 _).wf h1.wf,fun k hk=>h1.fr k (by have:H1.n+1≤k:=hk;omega),fun k a hk=>?_⟩ (.cD (by omega) (fun h=>by omega) (by omega)) ?_
      ·rcases hg k a hk with ⟨_,q⟩|⟨rfl,_⟩
       ·exact h1.hr.gn k b o a q hl
       ·rw [h1.fr _ (Nat.le_refl _)] at hl;cases hl
      ·rcases hg k a hk with ⟨_,q⟩|⟨_,rfl⟩
       ·rw [(h1.un k a q).1] at ho;cases ho
       ·cases ho
      ·rcases hg k a hk with ⟨_,q⟩|⟨_,rfl⟩
       ·exact h1.un k a q
       ·exact ⟨rfl,by simp⟩
      ·exact .row (es:=s.cells) (own:=false) (e:=0) iX (fun h=>h) hels hne (by
        have hd:=d1
        rw [hus] at hd ⊢
        exact ⟨hd.1,fun i a u x y=>by cases y⟩) (fun h=>Bool.noConfusion h)
     ·
      exfalso
      have hz:s.cells=0:=by
       rcases Nat.mul_eq_zero.1 h0 with h|h
       ·exact absurd h hl0
       ·exact h
      have:=Nat.le_of_ble_eq_true h.2.1
      omega
    ·have hpos:0 < len∧0 < s.cells:=by
      constructor
      ·apply Nat.pos_of_ne_zero;intro h;rw [h] at h0;simp at h0
      ·apply Nat.pos_of_ne_zero;intro h;rw [h] at h0;simp at h0
     have hcell:∀ i ci,csl[i]?=some ci→∀ j,j < s.cells→(∀ v,ci[j]?=some v→w.cell? ((a.add (i * s.cells)).add j)=some v):=by
      intro i ci hi j hj v hv
      obtain ⟨cj,y,q1,q2,q3⟩:=hcs i (by rw [←hlen];exact (List.getElem?_eq_some_iff.1 hi).1)
      rw [q1] at hi;cases hi
      rw [hsz] at q2
      obtain ⟨_,r2⟩:=EZ q2
      rw [r2 j hj];exact hv
     obtain ⟨c0,y0,z1,z2,z3⟩:=hcs 0 hpos.1
     have hz0:c0.length=s.cells:=hfl c0 (List.mem_of_getElem? z1)
     have hv0:c0[0]?=some (c0[0]'(by omega)):=List.getElem?_eq_getElem _
     obtain ⟨sp,cs',e',fz,hb,_⟩:=xR (hcell 0 c0 z1 0 hpos.2 _ hv0)
     rw [oV,oV] at hb
     have hspot:a.spot=none:=by
      have:((a.add (0 * s.cells)).add 0).spot=none:=sp
      simpa [Addr.add] using this
     have hcr:dA γ1 us cs' a.off:=by
      intro j v hj
      have hjl:j < len * s.cells:=by rw [←hlen,←ec hfl,←l1];exact (List.getElem?_eq_some_iff.1 hj).1
      obtain ⟨v',q1,q2⟩:=v1.get hj
      have hi:j / s.cells < len:=(Nat.div_lt_iff_lt_mul hpos.2).2 hjl
      have hm:j % s.cells < s.cells:=Nat.mod_lt _ hpos.2
      obtain ⟨ci,y,p1,p2,p3⟩:=hcs _ hi
      have hdecomp:j / s.cells * s.cells+j % s.cells=j:=by rw [Nat.mul_comm];exact Nat.div_add_mod j s.cells
      have hf:=eZ hfl _ ci (j % s.cells) p1 hm
      rw [hdecomp,q1] at hf
      obtain ⟨_,c2,e2,f2,b1,b2⟩:=xR (hcell _ ci p1 _ hm v' hf.symm)
      rw [oV,oV,hb] at b1
      cases b1
      rw [CS,CS,Nat.add_assoc,hdecomp] at b2
      exact ⟨v',b2,q2⟩
     obtain ⟨γ2,_,e2,h2,hloc⟩:=h1.row hb hcr
     refine hfin (.slice (some ⟨H1.n,0,none⟩) len (len+2)) γ2 _ e2 h2 ?_ ?_
     ·have:=VR.slice (γ:=γ2) (k:=H1.n) (o:=0) (n:=len) (c:=len+2) (c':=cap) hloc hlc (fun h=>by omega) (fun h=>by omega) (fun h=>by omega)
      have ha:(⟨a.block,a.off+0,none⟩:Addr)=a:=by cases a;simp at hspot;subst hspot;rfl
      rw [ha] at this
      exact this
     ·exact .row (es:=s.cells) iX (fun h=>h) hels hne (e2.II h1.wf d1) (fun h=>Bool.noConfusion h)
  ·cases h
 | d+1,.nil,t,h=>by
  intro fuel cs x hx
  unfold kU at h
  split at h
  ·rename_i fs hu
   simp only [Bool.and_eq_true] at h
   obtain ⟨xs,n,_,_,hl,_,hf⟩:=DataW.trod_struct hu hx
   have hz:=Nat.eq_of_beq_eq_true h.1
   obtain rfl:=List.length_eq_zero_iff.1 (hl.trans hz)
   exact ⟨fun γ H hs=>⟨γ,H,[],[],.refl,hs,rfl,bJ.nil γ,⟨rfl,fun i a u x=>by cases x⟩,.nil,rfl⟩,rfl⟩
  ·cases h
 | d+1,.cons s l,t,h=>by
  intro fuel cs x hx
  unfold kU at h
  split at h
  ·rename_i fs hu
   simp only [Bool.and_eq_true] at h
   obtain ⟨xs,n,_,_,hl,hxl,hf⟩:=DataW.trod_struct hu hx
   have hz:=Nat.eq_of_beq_eq_true h.1
   have:=I9 P d (.cons s l) fs.toList 0 h.2 n cs (by rw [hl,hz];simp [Sh.cells]) (fun i f hi=>by
    rw [Array.getElem?_toList] at hi
    rw [hf i f hi]
    have hlt:i < xs.length:=by rw [hxl];exact (Array.getElem?_eq_some_iff.1 hi).1
    exact ⟨_,List.getElem?_eq_getElem hlt⟩)
   rw [List.drop_zero] at this
   exact ⟨this,by rw [hl,hz];rfl⟩
  ·cases h
 | d+1,.arr m s,t,h=>by
  intro fuel cs x hx
  unfold kU at h
  split at h
  ·rename_i m' e hu
   simp only [Bool.and_eq_true] at h
   obtain ⟨⟨⟨h1,h2⟩,h3⟩,h4⟩:=h
   obtain rfl:=Nat.eq_of_beq_eq_true h1
   have hsz:=Nat.eq_of_beq_eq_true h2
   have htot:=Nat.eq_of_beq_eq_true h3
   have hx':∃ n,cs.length=P.cellsOf t∧∀ i,i < m→∃ y,DataW.trod enc P w base spare held n e ((cs.drop (i * P.cellsOf e)).take (P.cellsOf e))=some y:=by
    obtain ⟨xs,n,_,_,hl,hxl,hp⟩:=DataW.trod_array hu hx
    exact ⟨n,hl,fun i hi=>by
     rw [hp i hi]
     exact ⟨_,List.getElem?_eq_getElem (by omega)⟩⟩
   obtain ⟨n,hl,hel⟩:=hx'
   rw [hsz] at hel
   rw [htot] at hl
   let csl:List (List Value):=(List.range m).map fun i=>(cs.drop (i * s.cells)).take s.cells
   have hflat:csl.flatten=cs:=by
    have key:∀ (m:Nat) (cs:List Value),cs.length=m * s.cells→((List.range m).map fun i=>(cs.drop (i * s.cells)).take s.cells).flatten=cs:=by
     intro m
     induction m with
     | zero=>intro cs h;rw [Nat.zero_mul] at h;simp [List.length_eq_zero_iff.1 h]
     | succ m ih =>
      intro cs h
      rw [List.range_succ_eq_map,List.map_cons,List.map_map,List.flatten_cons,Nat.zero_mul,List.drop_zero]
      have hd:(cs.drop s.cells).length=m * s.cells:=by rw [List.length_drop,h,Nat.add_mul];omega
      have e:=ih (cs.drop s.cells) hd
      have:((fun i=>(cs.drop (i * s.cells)).take s.cells) ∘ Nat.succ)=fun i=>((cs.drop s.cells).drop (i * s.cells)).take s.cells:=by
       funext i
       simp only [Function.comp,List.drop_drop]
       rw [show s.cells+i * s.cells=Nat.succ i * s.cells by rw [Nat.succ_mul];omega]
      rw [this,e]
      exact List.take_append_drop _ _
    exact key m cs hl
   have hall:∀ ci ∈ csl,Lk w s ci∧ci.length=s.cells:=by
    intro ci hci
    obtain ⟨i,hi,rfl⟩:=List.mem_map.1 hci
    obtain ⟨y,hy⟩:=hel i (by simpa using hi)
    exact lk P d s e h4 n _ y hy
   refine ⟨fun γ H hs=>?_,hl⟩
   obtain ⟨γ1,H1,us,els,e1,q1,l1,v1,d1,t1,c1⟩:=Lk.list hall γ H hs
   rw [hflat] at l1 v1
   have hels:els.length=m:=by rw [t1];simp [csl]
   exact ⟨γ1,H1,us,els.flatten,e1,q1,l1,v1,d1,.arr hels (fun el he=>(c1 el he).1),by
    rw [ec (fun el he=>(c1 el he).2),hels];rfl⟩
  ·cases h
theorem I9 (P:Program):∀ (d:Nat) (l:Sh) (fs:List Field) (o:Nat),sD P d l fs o=true→∀ (n:Nat) (cs:List Value),cs.length=o+l.cells→(∀ (i:Nat) (f:Field),fs[i]?=some f→∃ y,DataW.trod enc P w base spare held n f.type ((cs.drop f.offset).take (P.cellsOf f.type))=some y) →
  Lk w l (cs.drop o)
 | 0,_,_,_,h=>by simp [sD] at h
 | d+1,.nil,[],o,_=>by
  intro n cs hl _
  have:cs.drop o=[]:=List.length_eq_zero_iff.1 (by rw [List.length_drop,hl];simp [Sh.cells])
  rw [this]
  exact fun γ H hs=>⟨γ,H,[],[],.refl,hs,rfl,bJ.nil γ,⟨rfl,fun i a u x=>by cases x⟩,.nil,rfl⟩
 | d+1,.cons s l,f :: fs,o,h=>by
  intro n cs hl hf
  simp only [sD,Bool.and_eq_true] at h
  obtain ⟨⟨⟨h1,h2⟩,h3⟩,h4⟩:=h
  have ho:=Nat.eq_of_beq_eq_true h1
  have hsz:=Nat.eq_of_beq_eq_true h2
  obtain ⟨y,hy⟩:=hf 0 f rfl
  rw [ho,hsz] at hy
  obtain ⟨k1,k2⟩:=lk P d s f.type h3 n _ y hy
  have k3:=I9 P d l fs (o+s.cells) h4 n cs (by rw [hl];simp [Sh.cells];omega) (fun i g hi=>hf (i+1) g (by simpa using hi))
  have hsplit:cs.drop o=(cs.drop o).take s.cells++cs.drop (o+s.cells):=by
   rw [←List.drop_drop];exact (List.take_append_drop _ _).symm
  intro γ H hs
  obtain ⟨γ1,H1,us1,av1,e1,q1,l1,v1,d1,t1,c1⟩:=k1 γ H hs
  obtain ⟨γ2,H2,us2,av2,e2,q2,l2,v2,d2,t2,c2⟩:=k3 γ1 H1 q1
  rw [hsplit]
  exact ⟨γ2,H2,us1++us2,av1++av2,e1.trans e2,q2,by simp [l1,l2],(v1.mono e2.le).append v2,(e2.II q1.wf d1).append d2,.cons t1 t2,by simp [c1,c2,Sh.cells]⟩
 | d+1,.nil,_ :: _,_,h=>by simp [sD] at h
 | d+1,.cons _ _,[],_,h=>by simp [sD] at h
 | d+1,.int _,_,_,h=>by simp [sD] at h
 | d+1,.bool,_,_,h=>by simp [sD] at h
 | d+1,.str,_,_,h=>by simp [sD] at h
 | d+1,.slice _,_,_,h=>by simp [sD] at h
 | d+1,.arr _ _,_,_,h=>by simp [sD] at h
end
end
end Go.RM
namespace Go.RM
open Go
section
variable {P : Program} {w : World} {D : Type} {enc : TypeId × Value → D} {base : Nat} {spare : Nat → Bool} {held : Bool}
def tw:Sh→List AV→AV
 | .nil,l=>.ag l
 | .cons _ _,l=>.ag l
 | .arr _ _,l=>.ag l
 | _,l=>l.headD .bE
def Ca:List Sh→List AV→Prop
 | [],[]=>True
 | s :: l,a :: as=>(∃ avs,TV s avs∧a=tw s avs)∧Ca l as
 | _,_=>False
theorem uf {s:Sh} {v:Value} (hv:v.cells.toList=[v]) (hs:∀ l,tw s l=l.headD .bE) (h1:s.cells=1) (hl:Lk w s v.cells.toList) (γ:Gm) (H:Hp) (h:LS γ H w) :
  ∃ γ' H' u a,LE γ H γ' H'∧LS γ' H' w∧VR γ' u v∧DR H'.get CR a u∧∃ avs,TV s avs∧a=tw s avs:=by
 rw [hv] at hl
 obtain ⟨γ',H',us,avs,e,q,l1,v1,d1,t1,c1⟩:=hl γ H h
 match us,l1 with
 | [u],_ =>
  match avs,c1.trans h1 with
  | [a],_=>exact ⟨γ',H',u,a,e,q,v1.2 0 u v rfl rfl,d1.2 0 a u rfl rfl,[a],t1,by rw [hs];rfl⟩
theorem Gp {s:Sh} {cs:Array Value} (hs:∀ l,tw s l=.ag l) (hl:Lk w s cs.toList) (γ:Gm) (H:Hp) (h:LS γ H w) :
  ∃ γ' H' u a,LE γ H γ' H'∧LS γ' H' w∧VR γ' u (.agg cs)∧DR H'.get CR a u∧∃ avs,TV s avs∧a=tw s avs:=by
 obtain ⟨γ',H',us,avs,e,q,l1,v1,d1,t1,c1⟩:=hl γ H h
 refine ⟨γ',H',.agg us.toArray,.ag avs,e,q,?_,.ag (by simpa using d1.1) (fun i a u x y=>d1.2 i a u x (by simpa using y)),avs,t1,(hs _).symm⟩
 have:=VR.kH v1
 simpa using this
theorem Gq {d:Nat} {s:Sh} {t:TypeId} (hsh:kU P d s t=true) {v:Value} {x:DataW D} {ps:List MemPlace} {r:Reach} {b:Nat} (hok:Value.okWide P w r b t v) (ht:DataW.Trod enc P w base spare held t v x ps) (γ:Gm) (H:Hp) (h:LS γ H w) :
  ∃ γ' H' u a,LE γ H γ' H'∧LS γ' H' w∧VR γ' u v∧DR H'.get CR a u∧∃ avs,TV s avs∧a=tw s avs:=by
 obtain ⟨fuel,ht⟩:=ht
 obtain ⟨hl,_⟩:=lk P d s t hsh fuel _ _ ht
 have agg:(∃ cs,v=.agg cs)→(∀ l,tw s l=.ag l)→∃ γ' H' u a,LE γ H γ' H'∧LS γ' H' w∧VR γ' u v∧DR H'.get CR a u∧∃ avs,TV s avs∧a=tw s avs:=by
  rintro ⟨cs,rfl⟩ hs
  exact Gp hs hl γ H h
 cases d with
 | zero=>simp [kU] at hsh
 | succ d =>
  cases s with
  | int k =>
   unfold kU at hsh
   split at hsh
   ·rename_i k' hu
    unfold Value.okWide at hok
    rw [hu] at hok
    simp only [Cell.okWide,hu,Cell.ok] at hok
    cases v <;> simp at hok
    exact uf rfl (fun _=>rfl) rfl hl γ H h
   ·cases hsh
  | bool =>
   unfold kU at hsh
   split at hsh
   ·rename_i hu
    unfold Value.okWide at hok
    rw [hu] at hok
    simp only [Cell.okWide,hu,Cell.ok] at hok
    cases v <;> simp at hok
    exact uf rfl (fun _=>rfl) rfl hl γ H h
   ·cases hsh
  | str =>
   unfold kU at hsh
   split at hsh
   ·rename_i hu
    unfold Value.okWide at hok
    rw [hu] at hok
    simp only [Cell.okWide,hu,Cell.ok] at hok
    cases v <;> simp at hok
    exact uf rfl (fun _=>rfl) rfl hl γ H h
   ·cases hsh
  | slice s =>
   unfold kU at hsh
   split at hsh
   ·rename_i e hu
    unfold Value.okWide at hok
    rw [hu] at hok
    simp only [Cell.okWide,hu,Cell.ok] at hok
    cases v <;> simp at hok
    exact uf rfl (fun _=>rfl) rfl hl γ H h
   ·cases hsh
  | nil =>
   unfold kU at hsh
   split at hsh
   ·rename_i fs hu
    unfold Value.okWide at hok
    rw [hu] at hok
    exact agg ⟨_,hok.choose_spec.1⟩ (fun _=>rfl)
   ·cases hsh
  | cons s l =>
   unfold kU at hsh
   split at hsh
   ·rename_i fs hu
    unfold Value.okWide at hok
    rw [hu] at hok
    exact agg ⟨_,hok.choose_spec.1⟩ (fun _=>rfl)
   ·cases hsh
  | arr n s =>
   unfold kU at hsh
   split at hsh
   ·rename_i m e hu
    unfold Value.okWide at hok
    rw [hu] at hok
    exact agg ⟨_,hok.choose_spec.1⟩ (fun _=>rfl)
   ·cases hsh
def xS (P:Program) (d:Nat):List Sh→List TypeId→Bool
 | [],[]=>true
 | s :: l,t :: ts=>kU P d s t && xS P d l ts
 | _,_=>false
theorem AX {d:Nat} {r:Reach} {b:Nat}:∀ {ss:List Sh} {ts:List TypeId} {vs:List Value} {ds:List (DataW D)} {ps:List MemPlace},xS P d ss ts=true→DataW.TrodAll enc P w base spare held ts vs ds ps →
  (∀ (j:Nat) t v,ts[j]?=some t→vs[j]?=some v→Value.okWide P w r b t v)→∀ (γ:Gm) (H:Hp),LS γ H w→∃ γ' H' us as,LE γ H γ' H'∧LS γ' H' w∧bJ γ' us vs∧rq H'.get CR as us∧Ca ss as
 | [],[],[],[],ps,_,_,_,γ,H,h=>⟨γ,H,[],[],.refl,h,bJ.nil γ,⟨rfl,fun i a u x=>by cases x⟩,trivial⟩
 | s :: ss,t :: ts,v :: vs,x :: ds,ps,hs,ht,hok,γ,H,h=>by
  simp only [xS,Bool.and_eq_true] at hs
  obtain ⟨p,q,h1,h2,_⟩:=ht
  obtain ⟨γ1,H1,u,a,e1,q1,v1,d1,t1⟩:=Gq hs.1 (hok 0 t v rfl rfl) h1 γ H h
  obtain ⟨γ2,H2,us,as,e2,q2,v2,d2,t2⟩:=AX hs.2 h2 (fun j t v a b=>hok (j+1) t v (by simpa using a) (by simpa using b)) γ1 H1 q1
  refine ⟨γ2,H2,u :: us,a :: as,e1.trans e2,q2,bJ.cons (v1.mono e2.le) v2,⟨by simp [d2.1],fun i b w hb hw=>?_⟩,t1,t2⟩
  cases i with
  | zero=>cases hb;cases hw;exact e2.dr q1.wf d1
  | succ i=>exact d2.2 i b w (by simpa using hb) (by simpa using hw)
 | [],_ :: _,_,_,_,h,_,_,_,_,_=>by simp [xS] at h
 | _ :: _,[],_,_,_,h,_,_,_,_,_=>by simp [xS] at h
 | [],[],_ :: _,_,_,_,h,_,_,_,_=>by simp [DataW.TrodAll] at h
 | [],[],[],_ :: _,_,_,h,_,_,_,_=>by simp [DataW.TrodAll] at h
 | _ :: _,_ :: _,[],_,_,_,h,_,_,_,_=>by simp [DataW.TrodAll] at h
 | _ :: _,_ :: _,_ :: _,[],_,_,h,_,_,_,_=>by simp [DataW.TrodAll] at h
theorem LS.empty (w:World) (hg:∀ x ∈ GL,x.1 < w.heap.size∧F7 (w.heap[x.1]?) x.2):LS ⟨fun _=>none,fun _=>0,w.heap.size⟩ Hp.empty w :=
 ⟨⟨fun k b o a h _=>(by cases h),fun k k' b o o' a a' h=>(by cases h),fun k b o h=>(by cases h),Nat.le_refl _,hg⟩,Ar,fun _ _=>rfl,fun k a h=>(by cases h)⟩
end
section
variable {T : bf} {tab : List XE} {one : Bool}
open Go.RowKit in
theorem Cb (hT:aZ T) (hm:T.P.follows .mixedOrders=true) (ht:∀ e ∈ tab,gm T e) {f:FuncId} {v:Value} (hf:aN v=true) {D:Type} {enc:TypeId × Value→D} {base:Nat} {spare:Nat→Bool} {held:Bool} {d:Nat} {r:Reach} {b:Nat}
  {ss:List Sh} {ts:List TypeId} {args:Array Value} {ds:List (DataW D)} {ps:List MemPlace} {w:World} (hs:xS T.P d ss ts=true) (htr:DataW.TrodAll enc T.P w base spare held ts args.toList ds ps)
  (hok:∀ (j:Nat) t v,ts[j]?=some t→args.toList[j]?=some v→Value.okWide T.P w r b t v) (hp:∀ as,Ca ss as→af T tab one (.fn f [] []) as (.fl v))
  (hgl:∀ x ∈ GL,x.1 < w.heap.size∧F7 (w.heap[x.1]?) x.2:=by intro x hx;exact absurd hx (by simp [GL])) :
  Calls T.P f args w fun e w'=>e=.returned v∧Below w.heap.size w w':=by
 obtain ⟨γ,H,us,as,e,q,v1,d1,t1⟩:=AX hs htr hok _ _ (LS.empty w hgl)
 obtain ⟨goal,hg,m,L,h1,_,h3⟩:=(hp as t1).2 CR H (.func (.func f) #[] #[]) us q.wf (fun k h=>h.elim) (.fn rfl rfl (fun i x u h=>by cases h) (fun i x u h=>by cases h)) d1
 have hgoal:goal=.fn f us:=by
  have:bK (.func (.func f) #[] #[]) us=some (.fn f us):=by simp [bK]
  rw [this] at hg
  exact (Option.some.inj hg).symm
 subst hgoal
 have hS:aW T (RX T tab m) m:=Au ht (vi hT hm ht m)
 have hN:∃ N,∀ r ∈ L,r.hp.n≤N:=by
  clear h3 h1
  rename_i hone
  clear hone
  induction L with
  | nil=>exact ⟨0,fun r hr=>by cases hr⟩
  | cons a l ih =>
   obtain ⟨N,hN⟩:=ih
   refine ⟨max a.hp.n N,fun r hr=>?_⟩
   rcases List.mem_cons.1 hr with rfl|hr
   ·omega
   ·have:=hN r hr;omega
 obtain ⟨N,hN⟩:=hN
 have hB:γ.B=w.heap.size:=e.le.B
 have hc:=(hS.call f us H L h1).2 γ w args.toList N q.wf q.hr (fun k hk _=>q.fr k hk) hN v1
 refine callsIn_wide.1 (CallsIn.mono (F:=FW none) hc fun en w' hR=>?_)
 obtain ⟨x,hp',x',γ1,hmem,rfl,hv,hst⟩:=hR
 obtain ⟨y,H',hy,_,_,_,_,hdr⟩:=h3 _ hmem
 cases hy
 have hx:x=v:=by
  cases hdr with
  | fl h=>rfl
 subst hx
 refine ⟨by rw [hv.bh hf],?_⟩
 rw [←hB]
 exact hst.gq.below q.hr
end
end Go.RM
namespace Go.RM
open Go
def jJ (a b:AV):Prop:=∀ (ρ:Nat→Nat→Option Nat) (g:ax) (O:Nat→Prop) (u:Value),AR ρ g O a u→AR ρ g O b u
theorem jJ.refl (a:AV):jJ a a:=fun _ _ _ _ h=>h
theorem jJ.nil (b:Bool):jJ (.fl (.slice none 0 0)) (.sl [] b):=fun _ _ _ u h=>by
 rw [h.eJ.1]
 exact .d .nil
theorem jJ.full {els:List (List AV)} {f:Bool}:jJ (.sl els f) (.sl els false):=fun _ _ _ u h=>by
 have h:=h.deep rfl
 cases h with
 | nil=>exact .d .nil
 | sl h1 h2 h3 h4 h5 h6 h7=>exact .d (.sl h1 h2 h3 h4 h5 h6 (fun h=>by cases h))
def zg (fr:Nat→AV):List (Nat × AV)→Prop
 | []=>True
 | (i,v) :: l=>jJ (fr i) v∧zg fr l
theorem xT {fr:Nat→AV}:∀ {l:List (Nat × AV)},zg fr l→∀ t,jJ (fr t) (cz l t)
 | [],_,t=>fun _ _ _ _ _=>.bE
 | (i,v) :: l,h,t=>by
  unfold cz
  rw [Tr.beq_eq]
  by_cases hti:t=i
  ·rw [decide_eq_true hti,hti]
   exact h.1
  ·rw [decide_eq_false hti]
   exact xT h.2 t
variable {T : bf} {tab : List XE} {one : Bool}
theorem ai.soft {st:aR} {l:List (Nat × AV)} (h:zg st.fr l):ai st ⟨cz l,st.hp,st.au,st.rd,st.fl⟩ :=
 ⟨rfl,fun E _ _ hs=>⟨E,⟨hs.h,hs.rd,fun t=>xT h t _ _ _ _ (hs.fr t)⟩,.refl⟩⟩
theorem ai.JR {st:aR} {l:List (Nat × AV)} {hp:List AB} (n:Nat) (hh:st.hp.take n=hp) (hs:zg st.fr l) (hn:st.fl≤n) (hl:(l.all fun p=>p.2.iE n)=true) (hb:hp.all (AB.iE n)=true):ai st ⟨cz l,hp,st.au,st.rd,st.fl⟩:=by
 subst hh
 exact (ai.soft hs).trans (ai.cut hn (vE hl) hb)
def gY:List AV→List AV→Prop
 | [],[]=>True
 | a :: l,b :: m=>jJ a b∧gY l m
 | _,_=>False
theorem gY.two {a b x y:AV} (h:jJ a x) (k:jJ b y):gY [a,b] [x,y]:=⟨h,k,trivial⟩
theorem gY.cons {a x:AV} {as xs:List AV} (h:jJ a x) (k:gY as xs):gY (a :: as) (x :: xs):=⟨h,k⟩
theorem gY.nil:gY [] []:=trivial
theorem gY.zC {ρ:Nat→Nat→Option Nat} {g:ax} {O:Nat→Prop}:∀ {as bs:List AV} {us:List Value},gY as bs→eY ρ g O as us→eY ρ g O bs us
 | [],[],_,_,h=>h
 | a :: as,b :: bs,[],_,h=>absurd h.1 (by simp)
 | a :: as,b :: bs,u :: us,hs,h=>by
  have:=gY.zC hs.2 (us:=us) ⟨by simpa using h.1,fun i a u x y=>h.2 (i+1) a u (by simpa using x) (by simpa using y)⟩
  refine ⟨by simp [this.1],fun i c w hc hw=>?_⟩
  cases i with
  | zero=>cases hc;cases hw;exact hs.1 _ _ _ _ (h.2 0 a u rfl rfl)
  | succ i=>exact this.2 i c w (by simpa using hc) (by simpa using hw)
 | [],_ :: _,_,hs,_=>hs.elim
 | _ :: _,[],_,hs,_=>hs.elim
theorem ah.soft {F:AV} {args vs:List AV} {hp:List AB} {au:bF} {Q:AV→List AB→bF→Prop} (hs:gY args vs) (h:ah T tab one F vs hp au Q):ah T tab one F args hp au Q :=
 fun E base H u us hr hf ha=>h E base H u us hr hf (hs.zC ha)
theorem E6 {mu:Tmp→Bool} {st:aR} {K:Exit→aR→Prop} (h:K .normal st):kr T tab one mu .skip st K:=h
theorem Gr {mu:Tmp→Bool} {a b:Code} {st:aR} {K:Exit→aR→Prop} (h:kr T tab one mu a st (w9 (fun s=>kr T tab one mu b s K) K)):kr T tab one mu (.seq a b) st K:=h
theorem Gs {mu:Tmp→Bool} {id:Nat} {ops:Array Oper} {st:aR} {K:Exit→aR→Prop} (h:wpOps T tab one mu ops.toList ops.toList st (K .normal)):kr T tab one mu (.region id ops false) st K:=h
theorem AY {Q:aR→Prop} {K:Exit→aR→Prop} {s:aR} (h:Q s):w9 Q K .normal s:=h
theorem iF.fl (v:Value):iF (.fl v):=⟨rfl,fun _ _ _ _ h=>by cases h with|fl h=>exact .fl h⟩
theorem iF.list {l:List AV} (h:∀ a ∈ l,iF a) {g:ax} {O O':Nat→Prop} {us:List Value} (hd:∀ (i:Nat) (a:AV) (u:Value),l[i]?=some a→us[i]?=some u→DR g O a u) :
 ∀ (i:Nat) (a:AV) (u:Value),l[i]?=some a→us[i]?=some u→DR g O' a u:=fun i a u h1 h2=>(h a (List.mem_of_getElem? h1)).2 g O O' u (hd i a u h1 h2)
theorem AZ {l:List AV} (h:∀ a ∈ l,a.deep=true):dJ l=true:=by
 induction l with
 | nil=>rfl
 | cons a l ih =>
  simp only [dJ,Bool.and_eq_true]
  exact ⟨h a (by simp),ih fun b hb=>h b (List.mem_cons_of_mem _ hb)⟩
theorem iF.tp {l:List AV} (h:∀ a ∈ l,iF a):iF (.tp l):=⟨by simp only [AV.deep];exact AZ fun a ha=>(h a ha).1,fun _ _ _ _ hd=>by
 cases hd with
 | tp h1 h2=>exact .tp h1 (iF.list h h2)⟩
theorem iF.ag {l:List AV} (h:∀ a ∈ l,iF a):iF (.ag l):=⟨by simp only [AV.deep];exact AZ fun a ha=>(h a ha).1,fun _ _ _ _ hd=>by
 cases hd with
 | ag h1 h2=>exact .ag h1 (iF.list h h2)⟩
theorem ze.two {hp:List AB} {a b x y:AV} (h:Fz hp a x) (k:Fz hp b y):ze hp [a,b] [x,y]:=⟨h,k,trivial⟩
theorem ze.cons {hp:List AB} {a x:AV} {as xs:List AV} (h:Fz hp a x) (k:ze hp as xs):ze hp (a :: as) (x :: xs):=⟨h,k⟩
theorem ze.nil {hp:List AB}:ze hp [] []:=trivial
theorem af.Ja {F:AV} {args vs:List AV} {v:AV} {hp:List AB} {au:bF} (h:af T tab one F vs v) (hF:F.deep=true) (hz:ze hp args vs) (hfree:iF v) {Q:AV→List AB→bF→Prop} (hq:Q v hp au):ah T tab one F args hp au Q:=by
 intro E base H u us hr hf ha
 obtain ⟨hd,h⟩:=h
 obtain ⟨goal,hg,m,L,h1,h2,h3⟩:=h E.X H u us hr.wf (fun k hk=>hr.xn k hk) ((hf.deep hF).mono fun k b hk ho=>⟨hk,fun hx=>ho (.inr hx)⟩) (hz.dr hr (fun _ h=>h) ha)
 refine ⟨goal,hg,m,L,h1,h2,fun r hm=>?_⟩
 obtain ⟨w,H',rfl,hn,hwf,hsame,hlo,hv⟩:=h3 r hm
 have e:Ext base E hp H E hp H':=⟨hn,rfl,rfl,rfl,fun _ _ _ h=>h,fun _ h=>.inl h,fun k hk _=>hsame k hk,by have:=hr.bn;omega⟩
 refine ⟨w,H',rfl,E,v,hp,au,hq,⟨hwf,fun j x av hj hvx=>?_,hr.inj,fun j v k hk=>Nat.lt_of_lt_of_le (hr.rn j v k hk) hn,hr.fresh,hr.new,hr.sup,hr.iD,hr.dx,hr.ds,fun k hk=>Nat.lt_of_lt_of_le (hr.sn k hk) hn,fun k hk=>Nat.lt_of_lt_of_le (hr.xn k hk) hn,hr.pR,Nat.le_trans hr.bn hn,au.st hr.au (fun k hk=>hsame k (hr.sn k hk)) hn⟩,.d (hfree.2 _ _ _ _ hv),e.CN⟩
 rcases hr.gn j x av hj hvx with ⟨k,b',q1,q2,q3⟩|q
 ·exact .inl ⟨k,b',q1,by rw [hsame k (hr.wf.lt q2)];exact q2,e.br hr.wf q3⟩
 ·exact .inr q
end Go.RM
