/-
  A layer of contracts over the abstract machine. Lemmas alone; no condition.
-/
import Derived.Test.YtpeogffeoehboaaDoorA3
namespace Go.RM
open Go
section
variable {T : bz} {tab : List XE} {one : Bool} {fl base : Nat} {E E' E2 : Env} {hp hp' hp2 : List AB} {aE amb' : bG} {H H' H2 : Hp} {ρ ρ2 : Nat → Nat → Option Nat} {g g2 : aH} {O O2 : Nat → Prop}
def wC (i:Nat) (p q:Acc):Bool :=
 (!p.wr && !q.wr) || (match p.own,q.own with
  | some j,some j'=>!Nat.beq j j'
  | some _,none=>Nat.ble q.b i
  | none,some _=>!p.wr
  | none,none=>false)
theorem CH {tr:Nat→bw} {n:Nat} (ht:iW base aE tr n) {i l:Nat} (hil:i < l) (hl:l≤n) {p q:Acc} {k:Nat} (hp:dK tr i p k) (hpo:p.own.isSome=true→Own (tr i).E.ρ (tr i).hp k) (hq:dK tr l q k) (hw:p.wr=true∨q.wr=true) (hf:wC i p q=true):False:=by
 by_cases h:oF i p q=true
 ·exact qa ht hil hl hp hq hw h
 ·obtain ⟨p1,p2,p3⟩:=hp
  obtain ⟨q1,q2,q3⟩:=hq
  have back:∀ {b c:Nat},b≤c→c≤n→Own (tr c).E.ρ (tr c).hp k→k < (tr b).H.n→Own (tr b).E.ρ (tr b).hp k:=fun hbc hcn ho hk=>((ht.ext _ _ hbc hcn).own k ho).elim id (fun h=>by omega)
  unfold wC at hf
  unfold oF at h
  rw [Bool.or_eq_true] at hf
  rw [Bool.or_eq_true,not_or] at h
  rcases hf with hf|hf
  ·exact h.1 hf
  ·cases hpo':p.own with
   | some j =>
    rw [hpo'] at hf h hpo
    cases hqo:q.own with
    | some j'=>rw [hqo] at hf h;exact h.2 hf
    | none =>
     rw [hqo] at hf q3
     have hb:=Nat.le_of_ble_eq_true hf
     exact q3 (.inl (back hb (by omega) (hpo rfl) q2))
   | none =>
    rw [hpo'] at hf h
    cases hqo:q.own with
    | some j'=>rw [hqo] at hf h;exact h.2 hf
    | none=>rw [hqo] at hf;cases hf
theorem KI {tr:Nat→bw} {i:Nat} (ht:iW base aE tr i) {bt:Nat→Nat} {fr:Nat→AV} {tm:Tr Value} (hb:cL tr i bt fr tm) {own:Bool} {o:Op} {l:List Acc} (hro:(Aw o || l.all fun p=>p.wr || p.own.isNone)=true) (h:DH o fr (oX bt)=some l)
  {K:AV→List AB→Prop} (hw:wpOp T own o fr (tr i).hp K) {r w:List Nat} (hto:gV o (aG tm)=some (r,w)):∀ k ∈ r,∃ p ∈ l,p.wr=false∧dK tr i p k∧(p.own.isSome=true→Own (tr i).E.ρ (tr i).hp k):=by
 rw [Bool.or_eq_true] at hro
 rcases hro with hro|hro
 ·exact L8 ht hb hro h hw hto
 ·intro k hk
  obtain ⟨r',w',e1,e2,_⟩:=rj ht hb h hw
  rw [hto] at e1
  simp only [Option.some.injEq,Prod.mk.injEq] at e1
  obtain ⟨rfl,rfl⟩:=e1
  obtain ⟨p,p1,p2,p3⟩:=e2 k hk
  refine ⟨p,p1,p2,p3,fun ho=>?_⟩
  have:=List.all_eq_true.1 hro p p1
  rw [p2,Bool.false_or] at this
  cases hpo:p.own with
  | none=>rw [hpo] at ho;cases ho
  | some j=>rw [hpo] at this;cases this
def rH (x y:gN):Bool :=
 x.acc.all (fun p=>y.acc.all (wC x.i p)) && ((!x.al && !x.call) || y.acc.all (fun q=>Nat.ble q.b x.i || (x.call && q.own.isSome))) && (!x.call || y.acc.all (fun q=>!q.wr)) && (!y.call || x.acc.all (fun p=>!p.wr))
def L9 (b:List Nat):List gN→Bool
 | []=>true
 | y :: l=>l.all (fun x=>(b.getD y.i 0).testBit x.i || rH x y) && L9 b l
theorem wE {tr:Nat→bw} {n:Nat} (ht:iW base aE tr n) {x y:gN} {s t:Tc} (hs:qf tr x s) (hy:qf tr y t) (hxy:x.i < y.i) (hn:y.i≤n) (hf:rH x y=true):conflict s t=false:=by
 cases hc:conflict s t with
 | false=>rfl
 | true =>
  exfalso
  unfold rH at hf
  simp only [Bool.and_eq_true,List.all_eq_true,Bool.or_eq_true,Bool.not_eq_true'] at hf
  obtain ⟨⟨⟨f1,f2⟩,f3⟩,f4⟩:=hf
  have two:∀ {k:Nat} {p q:Acc},p ∈ x.acc→q ∈ y.acc→dK tr x.i p k→dK tr y.i q k→(p.own.isSome=true→Own (tr x.i).E.ρ (tr x.i).hp k)→(p.wr=true∨q.wr=true)→False:=fun hp hq ap aq ho hw=>CH ht hxy hn ap ho aq hw (f1 _ hp _ hq)
  have inn:∀ {k:Nat} {q:Acc},q ∈ y.acc→dK tr y.i q k→(q.own.isSome=true→Own (tr y.i).E.ρ (tr y.i).hp k)→s.a≤k→k < s.b→False:=by
   intro k q hq aq lq h1 h2
   rcases f2 with h|h
   ·have:=hs.ev.al h.1 h.2;omega
   ·rcases h q hq with h|⟨hcl,hos⟩
    ·have:=Nat.le_of_ble_eq_true h
     have:=(ht.ext q.b x.i this (by omega)).n
     have:=aq.2.1
     rw [hs.ev.a] at h1
     omega
    ·have hk:=hs.keep hcl
     rw [hs.ev.b] at h2
     rw [hs.ev.a] at h1
     rcases (ht.ext (x.i+1) y.i (by omega) hn).own k (lq hos) with h|h
     ·rw [hk.1,hk.2] at h
      have:=(ht.rel x.i (by omega)).iV h
      omega
     ·omega
  have out:∀ {k:Nat} {p:Acc},dK tr x.i p k→t.a≤k→False:=by
   intro k p ap h1
   have:=(ht.ext p.b x.i ap.1 (by omega)).n
   have:=(ht.ext x.i y.i (by omega) hn).n
   have:=ap.2.1
   rw [hy.ev.a] at h1
   omega
  unfold conflict at hc
  simp only [Bool.or_eq_true,Bool.and_eq_true,Bool.not_eq_true'] at hc
  rcases hc with (((((((hc|hc)|hc)|hc)|hc)|hc)|hc)|hc)|hc
  ·obtain ⟨k,k1,k2⟩:=dZ.1 hc
   obtain ⟨p,p1,p2,p3⟩:=hs.ev.wr k k1
   obtain ⟨q,q1,q2,q3⟩:=hy.ev.rd k k2
   exact two p1 q1 p3 q3 (fun ho=>p3.FH ho p2) (.inl p2)
  ·obtain ⟨k,k1,k2⟩:=dZ.1 hc
   obtain ⟨p,p1,p2,p3⟩:=hs.ev.wr k k1
   obtain ⟨q,q1,q2,q3⟩:=hy.ev.wr k k2
   exact two p1 q1 p3 q3 (fun ho=>p3.FH ho p2) (.inl p2)
  ·obtain ⟨k,k1,k2⟩:=dZ.1 hc
   obtain ⟨q,q1,q2,q3⟩:=hy.ev.wr k k1
   obtain ⟨p,p1,p2,p3,p4⟩:=hs.R4 k k2
   exact two p1 q1 p3 q3 p4 (.inr q2)
  ·rw [hs.ev.call] at hc
   cases hw:t.wr with
   | nil=>rw [hw] at hc;simp at hc
   | cons k l =>
    obtain ⟨q,q1,q2,q3⟩:=hy.ev.wr k (by rw [hw];simp)
    rcases f3 with h|h
    ·rw [hc.1] at h;cases h
    ·rw [h q q1] at q2;cases q2
  ·rw [hy.ev.call] at hc
   cases hw:s.wr with
   | nil=>rw [hw] at hc;simp at hc
   | cons k l =>
    obtain ⟨p,p1,p2,p3⟩:=hs.ev.wr k (by rw [hw];simp)
    rcases f4 with h|h
    ·rw [hc.1] at h;cases h
    ·rw [h p p1] at p2;cases p2
  ·obtain ⟨k,k1,k2,k3⟩:=within_iff.1 hc
   obtain ⟨q,q1,q2,q3,q4⟩:=hy.R4 k k1
   exact inn q1 q3 q4 k2 k3
  ·obtain ⟨k,k1,k2,k3⟩:=within_iff.1 hc
   obtain ⟨q,q1,q2,q3⟩:=hy.ev.wr k k1
   exact inn q1 q3 (fun ho=>q3.FH ho q2) k2 k3
  ·obtain ⟨k,k1,k2,k3⟩:=within_iff.1 hc
   obtain ⟨p,p1,p2,p3⟩:=hs.ev.rd k k1
   exact out p3 k2
  ·obtain ⟨k,k1,k2,k3⟩:=within_iff.1 hc
   obtain ⟨p,p1,p2,p3⟩:=hs.ev.wr k k1
   exact out p3 k2
inductive nh (tr:Nat→bw):Nat→List gN→List Ev→Prop
 | nil:nh tr 0 [] []
 | cons {i:Nat} {x:gN} {ev:Ev} {l:List gN} {m:List Ev}:nh tr i l m→x.i=i→qf tr x ev.t→nh tr (i+1) (x :: l) (ev :: m)
theorem nh.lt {tr:Nat→bw} {i:Nat} {l:List gN} {m:List Ev} (h:nh tr i l m):∀ x ∈ l,x.i < i:=by
 induction h with
 | nil=>intro x hx;cases hx
 | cons _ hi _ ih =>
  intro y hy
  rcases List.mem_cons.1 hy with rfl|hy
  ·omega
  ·have:=ih y hy;omega
theorem nh.snoc {tr:Nat→bw} {i:Nat} {z:bw} {l:List gN} {m:List Ev}:∀ {j:Nat},nh tr j l m→j≤i→nh (snoc tr i z) j l m:=by
 intro j h
 induction h with
 | nil=>intro _;exact .nil
 | cons _ hi he ih=>intro hj;exact .cons (ih (by omega)) hi (he.snoc (by omega))
theorem nh.pairs {tr:Nat→bw} {n:Nat} (ht:iW base aE tr n) {b:List Nat} {i:Nat} {l:List gN} {m:List Ev} (h:nh tr i l m):i≤n→L9 b l=true→bY T b m=true:=by
 induction h with
 | nil=>intro _ _;rfl
 | cons hl hi he ih =>
  rename_i i y ev l m
  intro hn hc
  simp only [L9,Bool.and_eq_true,List.all_eq_true] at hc
  simp only [bY,Bool.and_eq_true,List.all_eq_true]
  refine ⟨?_,ih (by omega) hc.2⟩
  have hc1:=hc.1
  clear ih hc
  have key:∀ {j:Nat} {l:List gN} {m:List Ev},nh tr j l m→(∀ x ∈ l,(b.getD y.i 0).testBit x.i=true∨rH x y=true)→j≤y.i→∀ s ∈ m,(!conflict s.t ev.t || (b.getD ev.t.idx 0).testBit s.t.idx || spare T s ev)=true:=by
   intro j l m h
   induction h with
   | nil=>intro _ _ s hs;cases hs
   | cons hl' hi' he' ih' =>
    rename_i x ev' _ _
    intro hx hj s hs
    rcases List.mem_cons.1 hs with rfl|hs
    ·rcases hx x (by simp) with h|h
     ·rw [he.ev.idx,he'.ev.idx,h];simp
     ·rw [wE ht he' he (by omega) (by omega) h];simp
    ·exact ih' (fun z hz=>hx z (List.mem_cons_of_mem _ hz)) (by omega) s hs
  exact key hl (fun x hx=>by simpa using hc1 x hx) (by omega)
def gj (T:bz) (tab:List XE) (mu:Tmp→Bool) (ops:Array Oper):List Oper→Nat→(Nat→Nat)→List gN→bK→(bK→Prop)→Prop
 | [],_,_,acc,st,K=>L9 (ql ops) acc=true∧K st
 | ⟨dst,op,_,_,_,gd⟩ :: l,i,bt,acc,⟨fr,hp,aE,rd,fl⟩,K =>
  cK ops.toList gd fr (eC T tab mu dst op i bt fr hp fun fr' hp' bt' x=>(Aw op || x.acc.all fun p=>p.wr || p.own.isNone)=true∧gj T tab mu ops l (i+1) bt' (x :: acc) ⟨fr',hp',aE,rd,fl⟩ K)
   (fk dst fr (.tp []) fun fr'=>gj T tab mu ops l (i+1) (gC dst bt 0) (⟨i,[],false,false⟩ :: acc) ⟨fr',hp,aE,rd,fl⟩ K) ∨
  (gd=none∧∃ t x hi mx els f inf,op=.slice t x none (some hi) (some mx)∧aN fr x=.sl els f∧aN fr hi=.fl (.int .i64 (els.length:Int))∧aN fr mx=.fl (.int .i64 (els.length:Int))∧elem? T t=some inf∧1≤inf.size∧(∀ el ∈ els,el.length=inf.size) ∧
   fk dst fr (.sl els true) fun fr'=>gj T tab mu ops l (i+1) (gC dst bt (oX bt x)) (⟨i,[],false,false⟩ :: acc) ⟨fr',hp,aE,rd,fl⟩ K)
theorem GC {t:TypeId} {u:Value} {els:List (List AV)} {f:Bool} {inf:rM} (hx:AR E.ρ H.get (E.O hp) (.sl els f) u) (hi:elem? T t=some inf) (h1:1≤inf.size) (hel:∀ el ∈ els,el.length=inf.size) :
  ∃ v,fc T t u none (.int .i64 (els.length:Int)) (.int .i64 (els.length:Int))=some v∧AR E.ρ H.get (E.O hp) (.sl els true) v:=by
 have n1:ig (.int .i64 (els.length:Int))=some els.length:=by
  show (bif decide ((els.length:Int) < 0) then none else some (els.length:Int).toNat)=_
  rw [decide_eq_false (by omega)]
  rfl
 cases hx.iF with
 | nil =>
  refine ⟨.slice none 0 0,?_,.d .nil⟩
  unfold fc
  simp only [hi,cB,n1]
  rw [show Nat.ble 1 inf.size=true from Nat.ble_eq_true_of_le h1]
  rfl
 | sl q1 q2 q3 q4 q5 q6 q7 =>
  rename_i k o n c es cs own e
  subst q4
  refine ⟨.slice (some ⟨k,o,none⟩) els.length els.length,?_,.d (.sl q1 q2 q3 rfl q5 q6 fun _=>rfl)⟩
  unfold fc
  simp only [hi,cB,n1]
  rw [show Nat.ble 1 inf.size=true from Nat.ble_eq_true_of_le h1,show Nat.ble 0 els.length=true from Nat.ble_eq_true_of_le (Nat.zero_le _),show Nat.ble els.length els.length=true from Nat.ble_eq_true_of_le (Nat.le_refl _),Nat.beq_refl]
  simp only [Bool.and_self,cond_true,Nat.zero_mul,Nat.add_zero,Nat.sub_zero]
theorem tI {mu:Tmp→Bool} {dst:Option Tmp} {op:Op} {i:Nat} {bt:Nat→Nat} {fr:Nat→AV} {K:(Nat→AV)→List AB→(Nat→Nat)→gN→Prop} {tr:Nat→bw} {s:St} (h:eC T tab mu dst op i bt fr hp fun fr' hp' bt' x=>(Aw op || x.acc.all fun p=>p.wr || p.own.isNone)=true∧K fr' hp' bt' x)
  (ht:iW base aE tr i) (h1:(tr i).hp=hp) (h2:(tr i).H=s.hp) (hb:cL tr i bt fr s.fr) :
  ∃ (z:bw) (v:AV) (u:Value) (b:Nat) (x:gN) (t:Tc) (m0:Nat),aQ z.E base z.hp aE z.H∧Ext base (tr i).E (tr i).hp (tr i).H z.E z.hp z.H∧b≤i+1∧(snoc tr i z b).ar v u∧x.i=i∧qf (snoc tr i z) x t ∧
   (∀ m,m0≤m→aW T (RX T tab m) op i s=some (u,z.H,t))∧K (mA fr dst v) z.hp (gC dst bt b) x:=by
 have hrel:=ht.rel i (Nat.le_refl _)
 have hfr:hG (tr i).E.ρ (tr i).H.get ((tr i).E.O (tr i).hp) fr s.fr:=fun t=>(ht.ext _ i (hb t).1 (Nat.le_refl _)).ar (ht.rel _ (hb t).1).wf (hb t).2
 have go:∀ (z:bw) (v:AV) (u:Value) (b:Nat) (x:gN) (t:Tc) (m0:Nat),aQ z.E base z.hp aE z.H→Ext base (tr i).E (tr i).hp (tr i).H z.E z.hp z.H→b≤i+1→(snoc tr i z b).ar v u→x.i=i→qf (snoc tr i z) x t →
   (∀ m,m0≤m→aW T (RX T tab m) op i s=some (u,z.H,t))→K (mA fr dst v) z.hp (gC dst bt b) x →
   ∃ (z:bw) (v:AV) (u:Value) (b:Nat) (x:gN) (t:Tc) (m0:Nat),aQ z.E base z.hp aE z.H∧Ext base (tr i).E (tr i).hp (tr i).H z.E z.hp z.H∧b≤i+1∧(snoc tr i z b).ar v u∧x.i=i∧qf (snoc tr i z) x t ∧
    (∀ m,m0≤m→aW T (RX T tab m) op i s=some (u,z.H,t))∧K (mA fr dst v) z.hp (gC dst bt b) x :=
  fun z v u b x t m0 q1 q2 q3 q4 q5 q6 q7 q8=>⟨z,v,u,b,x,t,m0,q1,q2,q3,q4,q5,q6,q7,q8⟩
 unfold eC at h
 split at h
 ·rename_i f args hk
  have h:=eT (bu h)
  obtain ⟨hF,vs,v,hhand,⟨hvd,hpure⟩,h⟩:=h
  have hF':=(pY hfr f).deep hF
  have hget:({s.hp with lo:=s.hp.n}:Hp).get=(tr i).H.get:=by rw [h2];rfl
  obtain ⟨goal,hgo,m0,L,q1,q2,q3⟩:∃ goal,cF (jd T.P s.fr f) (args.map (aG s.fr))=some goal ∧
    ∃ m L,RX T tab m (gI {s.hp with lo:=s.hp.n} goal)=some L∧(true=true→∃ r,L=[r])∧∀ r ∈ L,∃ w H',r=.ret w H' ∧
     ({s.hp with lo:=s.hp.n}:Hp).n≤H'.n∧Wf H'∧(∀ k,k < ({s.hp with lo:=s.hp.n}:Hp).n→H'.get k=({s.hp with lo:=s.hp.n}:Hp).get k)∧min ({s.hp with lo:=s.hp.n}:Hp).lo ({s.hp with lo:=s.hp.n}:Hp).n≤H'.lo∧DR H'.get ((tr i).E.O (tr i).hp) v w:=by
   rcases hhand with ⟨rfl,hA⟩|⟨hz,hfree⟩
   ·have hA':=(dF hfr args).deep hA
    exact hpure ((tr i).E.O (tr i).hp) {s.hp with lo:=s.hp.n} _ _ (by rw [h2] at hrel;exact hrel.wf) (fun k hk=>by
     have:k < (tr i).H.n:=hk.elim (fun h=>hrel.iV h) (hrel.xn k)
     rw [h2] at this;exact this) (by rw [hget];exact hF') (by rw [hget];exact hA')
   ·obtain ⟨goal,hgo,m0,L,q1,q2,q3⟩:=hpure (tr i).E.X {s.hp with lo:=s.hp.n} _ _ (by rw [h2] at hrel;exact hrel.wf) (fun k hk=>by
     have:k < (tr i).H.n:=hrel.xn k hk
     rw [h2] at this;exact this) (by rw [hget];exact hF'.mono fun k b hk ho=>⟨hk,fun hx=>ho (.inr hx)⟩) (by
      rw [hget]
      rw [←h1] at hz
      exact hz.dr hrel (fun _ h=>h) (dF hfr args))
    refine ⟨goal,hgo,m0,L,q1,q2,fun r hm=>?_⟩
    obtain ⟨w,H',e1,e2,e3,e4,e5,e6⟩:=q3 r hm
    exact ⟨w,H',e1,e2,e3,e4,e5,hfree.2 _ _ _ _ e6⟩
  obtain ⟨r,hr⟩:=q2 rfl
  subst hr
  obtain ⟨w,H',rfl,hn,hwf,hsame,hlo,hdr⟩:=q3 r (by simp)
  obtain ⟨g1,g2⟩:=hrel.grow (H':={H' with lo:=s.hp.lo}) (by rw [h2];exact hn) hwf (fun k hk=>by
   have:=hsame k (by rw [←h2];exact hk)
   rw [h2];exact this) (by rw [h2];exact Nat.min_le_left _ _)
  refine go ⟨(tr i).E,hp,{H' with lo:=s.hp.lo}⟩ v w (i+1) ⟨i,[],true,true⟩ ⟨i,[],[],true,s.hp.n,H'.n⟩ m0 (by rw [←h1];exact g1) (by rw [←h1];exact g2) (Nat.le_refl _) ?_ rfl ?_ (fun m hm=>?_) (cm h).2
  ·rw [aY (Nat.lt_succ_self _)]
   refine .d ?_
   show DR H'.get ((tr i).E.O hp) v w
   rw [←h1];exact hdr
  ·refine ⟨⟨rfl,by rw [aU (Nat.le_refl _),h2],by rw [aY (Nat.lt_succ_self _)],fun h=>Bool.noConfusion h,rfl,fun k hk=>(by cases hk),fun k hk=>(by cases hk)⟩,fun k hk=>(by cases hk),fun _=>?_⟩
   rw [aY (Nat.lt_succ_self _),aU (Nat.le_refl _)]
   exact ⟨rfl,h1.symm⟩
  ·unfold aW
   simp only [hk,hgo,dm hm _ _ q1]
   have:Nat.ble s.hp.n H'.lo=true:=Nat.ble_eq_true_of_le (by
    have:min s.hp.n s.hp.n≤H'.lo:=hlo
    omega)
   rw [k9 this]
 ·exact h.elim
 ·rename_i hk
  obtain ⟨a,hacc,hw⟩:=h
  have hw':=hw
  rw [←h1] at hw'
  obtain ⟨r,w,ht1,ht2,ht3⟩:=rj ht hb hacc hw'
  have evr:∀ (z:bw) (u:Value) (e:bL),(Aw op || a.all fun p=>p.wr || p.own.isNone)=true→gR T s.hp.n op (aG s.fr) s.hp.get=some (u,e)→z.H=s.hp.app e→qf (snoc tr i z) ⟨i,a,news? op,false⟩ ⟨i,r,w,false,s.hp.n,(s.hp.app e).n⟩:=by
   intro z u e hro hop hz
   refine ⟨⟨rfl,by rw [aU (Nat.le_refl _),h2],by rw [aY (Nat.lt_succ_self _),hz],fun hal _=>(oH (nQ hop hal)).symm,rfl,fun k hk=>?_,fun k hk=>?_⟩,fun k hk=>?_,fun h=>Bool.noConfusion h⟩
   ·obtain ⟨p,p1,p2,p3⟩:=ht2 k hk;exact ⟨p,p1,p2,p3.snoc (Nat.le_refl _)⟩
   ·obtain ⟨p,p1,p2,p3⟩:=ht3 k hk;exact ⟨p,p1,p2,p3.snoc (Nat.le_refl _)⟩
   ·obtain ⟨p,p1,p2,p3,p4⟩:=KI ht hb hro hacc hw' ht1 k hk
    exact ⟨p,p1,p2,p3.snoc (Nat.le_refl _),fun ho=>by rw [aU (Nat.le_refl _)];exact p4 ho⟩
  have drw:∀ (u:Value) (e:bL) (m:Nat),gR T s.hp.n op (aG s.fr) s.hp.get=some (u,e)→aW T (RX T tab m) op i s=some (u,s.hp.app e,⟨i,r,w,false,s.hp.n,(s.hp.app e).n⟩):=by
   intro u e m hop
   unfold aW
   simp only [hk,ht1,hop]
  by_cases hm:∃ x,yh op fr=some [x]
  ·obtain ⟨x,hm⟩:=hm
   have hbirth:kC op fr bt i=oX bt x:=by unfold kC;rw [hm]
   have hbx:=hb.eval x
   have eb:=ht.ext _ i hbx.1 (Nat.le_refl _)
   obtain ⟨u,v,r1,r2,r3,r4⟩:=vM (ρ2:=(tr (oX bt x)).E.ρ) (g2:=(tr (oX bt x)).H.get) (O2:=(tr (oX bt x)).E.O (tr (oX bt x)).hp) (n:=s.hp.n) hfr hm (fun y hy=>by
    obtain rfl:=List.mem_singleton.1 hy;exact hbx.2) (fun k b hk ho=>(eb.keep (ht.rel _ hbx.1).wf k b hk ho).1) hw
   rw [h2] at r1
   have hz:(tr i).H=s.hp.app .none:=h2
   rw [hbirth] at r2
   refine go (tr i) v u (oX bt x) ⟨i,a,news? op,false⟩ ⟨i,r,w,false,s.hp.n,(s.hp.app .none).n⟩ 0 hrel .refl (by omega) (by rw [aU hbx.1];exact r4) rfl (evr _ u .none (cm (bu r2)).1 r1 hz) (fun m _=>by rw [hz];exact drw u .none m r1) (by rw [h1];exact (cm (bu r2)).2)
  ·have hbirth:kC op fr bt i=i+1:=by
    unfold kC
    split
    ·rename_i x hx;exact absurd ⟨x,hx⟩ hm
    ·rfl
   obtain ⟨u,e,E',v,hp',r1,r2,r3,r4,r5⟩:=iH hrel hfr hw'
   rw [h2] at r1 r3 r4 r5
   rw [hbirth] at r2
   refine go ⟨E',hp',s.hp.app e⟩ v u (i+1) ⟨i,a,news? op,false⟩ ⟨i,r,w,false,s.hp.n,(s.hp.app e).n⟩ 0 r3 (by rw [h2];exact r4) (Nat.le_refl _) (by rw [aY (Nat.lt_succ_self _)];exact r5) rfl (evr _ u e (cm (bu r2)).1 r1 rfl) (fun m _=>drw u e m r1) (cm (bu r2)).2
theorem iL {mu:Tmp→Bool} {ops:Array Oper}:∀ {l:List Oper} {i:Nat} {bt:Nat→Nat} {acc:List gN} {evs:List Ev} {st:bK} {K:bK→Prop} {tr:Nat→bw} {s:St},gj T tab mu ops l i bt acc st K →
  iW base st.aE tr i→(tr i).hp=st.hp→(tr i).H=s.hp→s.rd=st.rd→cL tr i bt st.fr s.fr→nh tr i acc evs →
  ∃ m s',bh T (RX T tab m) ops l i s evs=some [s']∧∃ E' st',K st'∧st'.fl=st.fl∧mC E' base st' s'∧Ext base (tr 0).E (tr 0).hp (tr 0).H E' st'.hp s'.hp
 | [],i,bt,acc,evs,st,K,tr,s,h,ht,h1,h2,h3,hb,he=>by
  obtain ⟨hc,hk⟩:=h
  have hrel:=ht.rel i (Nat.le_refl _)
  have hok:cC T ops evs=true:=by
   unfold cC
   cases hq:(evs.all fun e=>e.t.wr.isEmpty && Nat.beq e.t.a e.t.b) with
   | true=>rfl
   | false=>exact he.pairs ht (Nat.le_refl _) hc
  refine ⟨0,s,by rw [cV,hok];rfl,(tr i).E,st,hk,rfl,⟨by rw [←h1,←h2];exact hrel,h3,fun t=>?_⟩,by rw [←h1,←h2];exact ht.ext 0 i (Nat.zero_le _) (Nat.le_refl _)⟩
  have:=(ht.ext _ i (hb t).1 (Nat.le_refl _)).ar (ht.rel _ (hb t).1).wf (hb t).2
  rw [←h1,←h2]
  exact this
 | o :: l,i,bt,acc,evs,st,K,tr,s,h,ht,h1,h2,h3,hb,he=>by
  have h:cK ops.toList o.guard st.fr (eC T tab mu o.dst o.op i bt st.fr st.hp fun fr' hp' bt' x=>(Aw o.op || x.acc.all fun p=>p.wr || p.own.isNone)=true∧gj T tab mu ops l (i+1) bt' (x :: acc) ⟨fr',hp',st.aE,st.rd,st.fl⟩ K)
   (fk o.dst st.fr (.tp []) fun fr'=>gj T tab mu ops l (i+1) (gC o.dst bt 0) (⟨i,[],false,false⟩ :: acc) ⟨fr',st.hp,st.aE,st.rd,st.fl⟩ K) ∨
   (o.guard=none∧∃ t x hi mx els f inf,o.op=.slice t x none (some hi) (some mx)∧aN st.fr x=.sl els f∧aN st.fr hi=.fl (.int .i64 (els.length:Int))∧aN st.fr mx=.fl (.int .i64 (els.length:Int))∧elem? T t=some inf∧1≤inf.size∧(∀ el ∈ els,el.length=inf.size) ∧
    fk o.dst st.fr (.sl els true) fun fr'=>gj T tab mu ops l (i+1) (gC o.dst bt (oX bt x)) (⟨i,[],false,false⟩ :: acc) ⟨fr',st.hp,st.aE,st.rd,st.fl⟩ K):=h
  have hrel:=ht.rel i (Nat.le_refl _)
  have hfr:hG (tr i).E.ρ (tr i).H.get ((tr i).E.O (tr i).hp) st.fr s.fr:=fun t=>(ht.ext _ i (hb t).1 (Nat.le_refl _)).ar (ht.rel _ (hb t).1).wf (hb t).2
  have hz0:(snoc tr i (tr i) 0)=tr 0:=aU (Nat.zero_le _)
  rcases h with h|⟨hgd,t,x,hi,mx,els,f,inf,hop,hx,hhi,hmx,hinf,h1s,hel,h⟩
  rotate_left
  ·have hbx:=hb.eval x
   rw [hx] at hbx
   have hfx:(tr (oX bt x)).ar (.sl els f) (aG s.fr x):=hbx.2
   obtain ⟨v,hv1,hv2⟩:=GC (T:=T) (t:=t) hfx hinf h1s hel
   have e1:aG s.fr hi=.int .i64 (els.length:Int):=by
    have:=fM hfr hi
    rw [hhi] at this
    exact this.dL.1
   have e2:aG s.fr mx=.int .i64 (els.length:Int):=by
    have:=fM hfr mx
    rw [hmx] at this
    exact this.dL.1
   have hd:∀ m,aW T (RX T tab m) o.op i s=some (v,s.hp,⟨i,[],[],false,s.hp.n,s.hp.n⟩):=by
    intro m
    unfold aW
    rw [hop]
    have:gR T s.hp.n (.slice t x none (some hi) (some mx)) (aG s.fr) s.hp.get=some (v,.none):=by
     show (fc T t (aG s.fr x) none (aG s.fr hi) (aG s.fr mx)).map (fun v=>(v,bL.none))=_
     rw [e1,e2,hv1]
     rfl
    show (match gV (.slice t x none (some hi) (some mx)) (aG s.fr),gR T s.hp.n (.slice t x none (some hi) (some mx)) (aG s.fr) s.hp.get with
     | some (r,w),some (v,e)=>some (v,s.hp.app e,(⟨i,r,w,false,s.hp.n,(s.hp.app e).n⟩:Tc))
     | _,_=>none)=_
    rw [this]
    rfl
   obtain ⟨m,s',r1,r2⟩:=iL (s:=⟨cu s.fr o.dst v,s.hp,s.rd⟩) (evs:=⟨o,s,v,s.hp,⟨i,[],[],false,s.hp.n,s.hp.n⟩⟩ :: evs) (cm h) (ht.snoc (z:=tr i) hrel .refl) (by rw [aY (Nat.lt_succ_self _)];exact h1) (by rw [aY (Nat.lt_succ_self _)];exact h2) h3
    (hb.put (show oX bt x≤i+1 by have:=hbx.1;omega) (by rw [aU hbx.1];exact hv2) o.dst) (.cons (he.snoc (Nat.le_refl _)) rfl ⟨⟨rfl,by rw [aU (Nat.le_refl _),h2],by rw [aY (Nat.lt_succ_self _),h2],fun _ _=>rfl,rfl,fun k hk=>(by cases hk),fun k hk=>(by cases hk)⟩,fun k hk=>(by cases hk),fun h=>Bool.noConfusion h⟩)
   have hz0:(snoc tr i (tr i) 0)=tr 0:=aU (Nat.zero_le _)
   rw [hz0] at r2
   refine ⟨m,s',?_,r2⟩
   rw [aJ,show aZ ops.toList s.fr o.guard=true by rw [hgd];rfl]
   simp only [cond_true,hd]
   exact r1
  rcases nO hfr h with ⟨hg,h⟩|⟨hg,h⟩
  ·obtain ⟨z,v,u,b,x,t,m0,hz,he',hbi,hv,hxi,hx,hd,hw⟩:=tI h ht h1 h2 hb
   obtain ⟨m,s',r1,r2⟩:=iL (s:=⟨cu s.fr o.dst u,z.H,s.rd⟩) (evs:=⟨o,s,u,z.H,t⟩ :: evs) hw (ht.snoc hz he') (by rw [aY (Nat.lt_succ_self _)]) (by rw [aY (Nat.lt_succ_self _)]) h3 (hb.put hbi hv o.dst) (.cons (he.snoc (Nat.le_refl _)) hxi hx)
   rw [aU (Nat.zero_le _)] at r2
   refine ⟨max m0 m,s',?_,r2⟩
   rw [aJ,hg]
   simp only [cond_true,hd _ (Nat.le_max_left _ _)]
   exact fL (dm (Nat.le_max_right _ _)) _ _ _ _ _ _ r1
  ·obtain ⟨m,s',r1,r2⟩:=iL (s:=⟨cu s.fr o.dst undef,s.hp,s.rd⟩) (evs:=⟨o,s,undef,s.hp,⟨i,[],[],false,s.hp.n,s.hp.n⟩⟩ :: evs) (cm h) (ht.snoc (z:=tr i) hrel .refl) (by rw [aY (Nat.lt_succ_self _)];exact h1) (by rw [aY (Nat.lt_succ_self _)];exact h2) h3
    (hb.put (Nat.zero_le _) qW o.dst) (.cons (he.snoc (Nat.le_refl _)) rfl ⟨⟨rfl,by rw [aU (Nat.le_refl _),h2],by rw [aY (Nat.lt_succ_self _),h2],fun _ _=>rfl,rfl,fun k hk=>(by cases hk),fun k hk=>(by cases hk)⟩,fun k hk=>(by cases hk),fun h=>Bool.noConfusion h⟩)
   rw [hz0] at r2
   refine ⟨m,s',?_,r2⟩
   rw [aJ,hg]
   exact r1
theorem aA.CI {id:Nat} {l l1 l2:List Oper} {c:Nat} {mu:Tmp→Bool} {st:bK} {K:Exit→bK→Prop} (hc:eA l.toArray=c) (h1:l.take c=l1) (h2:l.drop c=l2)
  (h:gj T tab mu l.toArray l1 0 (fun _=>0) [] st fun s=>wpOps T tab one mu l l2 s (K .normal)):aA T tab one (.region id l.toArray true) st K:=by
 subst hc h1 h2
 intro E base s hs
 obtain ⟨m,s',r1,E',st',r2,r3,r4,r5⟩:=iL (base:=base) (tr:=fun _=>⟨E,st.hp,s.hp⟩) (evs:=[]) h ⟨fun _ _=>hs.h,fun _ _ _ _=>.refl⟩ rfl rfl hs.rd (fun t=>⟨Nat.le_refl _,hs.fr t⟩) .nil
 obtain ⟨m2,L,q1,q2,q3⟩:=gM r2 r4
 refine ⟨max m m2,L.map fun s=>(.normal,s),?_,fun h1=>?_,fun p hp=>?_⟩
 ·rw [bQ]
  have:bE T (RX T tab (max m m2)) l.toArray s=some L:=by
   cases hn:qp l.toArray with
   | none =>
    unfold bE
    simp only [hn,fL (dm (Nat.le_max_left m m2)) _ _ _ _ _ _ r1]
    exact gB (dm (Nat.le_max_right _ _)) _ _ _ _ q1
   | some c =>
    have ht:=yc hn
    rw [ht] at r1 q1
    have r1':bh T (RX T tab m) l.toArray l 0 s []=some [s']:=by simpa using r1
    have q1':aM T (RX T tab m2) l [] s'=some L:=by simpa using q1
    rw [dJ] at q1'
    cases q1'
    exact kq (by rw [ht]) (fL (dm (Nat.le_max_left m m2)) _ _ _ _ _ _ (by simpa using r1'))
  simp only [cond_true,this]
 ·obtain ⟨p,hp⟩:=q2 h1
  exact ⟨_,by rw [hp];rfl⟩
 ·obtain ⟨s3,hm,rfl⟩:=List.mem_map.1 hp
  obtain ⟨E2,st2,k1,k2,k3,k4⟩:=q3 s3 hm
  rw [r3] at k2 k4
  exact ⟨E2,st2,k1,k2,k3,r5.DG.trans k4⟩
variable {mu : Tmp → Bool} {fr : Nat → AV} {KS : bK → Prop} {rd : Bool} {dst : Option Tmp}
theorem RG {ops:Array Oper} {op:Op} {a1 a2 a3 gd} {l:List Oper} {i:Nat} {bt:Nat→Nat} {acc:List gN}
 (h:cK ops.toList gd fr (eC T tab mu dst op i bt fr hp fun fr' hp' bt' x=>(Aw op || x.acc.all fun p=>p.wr || p.own.isNone)=true∧gj T tab mu ops l (i+1) bt' (x :: acc) ⟨fr',hp',aE,rd,fl⟩ KS)
  (fk dst fr (.tp []) fun fr'=>gj T tab mu ops l (i+1) (gC dst bt 0) (⟨i,[],false,false⟩ :: acc) ⟨fr',hp,aE,rd,fl⟩ KS)):gj T tab mu ops (⟨dst,op,a1,a2,a3,gd⟩ :: l) i bt acc ⟨fr,hp,aE,rd,fl⟩ KS:=.inl h
theorem R5 {ops:Array Oper} {a1 a2 a3} {l:List Oper} {i:Nat} {bt:Nat→Nat} {acc:List gN} {t:TypeId} {x hi mx:Operand} {els:List (List AV)} {f:Bool} {inf:rM} (hx:aN fr x=.sl els f) (hh:aN fr hi=.fl (.int .i64 (els.length:Int))) (hm:aN fr mx=.fl (.int .i64 (els.length:Int))) (hi':elem? T t=some inf) (h1:1≤inf.size) (hel:∀ el ∈ els,el.length=inf.size)
  (h:fk dst fr (.sl els true) fun fr'=>gj T tab mu ops l (i+1) (gC dst bt (oX bt x)) (⟨i,[],false,false⟩ :: acc) ⟨fr',hp,aE,rd,fl⟩ KS):gj T tab mu ops (⟨dst,.slice t x none (some hi) (some mx),a1,a2,a3,none⟩ :: l) i bt acc ⟨fr,hp,aE,rd,fl⟩ KS :=
 .inr ⟨rfl,t,x,hi,mx,els,f,inf,rfl,hx,hh,hm,hi',h1,hel,h⟩
end
section
variable {T : bz} {tab : List XE} {one : Bool} {base : Nat} {E : Env} {hp : List AB} {aE : bG} {H : Hp} {ρ : Nat → Nat → Option Nat} {g : aH} {O O' : Nat → Prop}
inductive MB (a b:Nat):AB→AB→Prop
 | same {z:AB}:z.gO a=true→z.gO b=true→MB a b z z
 | cells {cs cs':List AV} {es aB:Nat}:cs.length=cs'.length→(∀ (i:Nat) (v w:AV),cs[i]?=some v→cs'[i]?=some w→Mv a b v w)→MB a b (.cells cs es aB) (.cells cs' es aB)
theorem MB.empty {a b v:Nat} {z z':AB} (h:MB a b z z') (hz:∃ es,z=.cells [] es v):∃ es,z'=.cells [] es v:=by
 cases h with
 | same _ _=>exact hz
 | cells hl _ =>
  obtain ⟨es,he⟩:=hz
  cases he
  exact ⟨_,by rw [List.length_eq_zero_iff.1 hl.symm]⟩
theorem MB.aB {a b:Nat} {z z':AB} (h:MB a b z z'):z.ver?=z'.ver?:=by cases h <;> rfl
theorem aj.RH {st:bK} {l:List (Nat × AV)} (a b:Nat) {x y:AB} {hp:List AB} (hab:a ≠ b) (hja:st.hp[a]?=some y) (hjb:st.hp[b]?=some x) (hn:st.fl≤a) (hn2:st.fl≤b) (hs:vS a b st.fr l)
  (hl:hp.length=st.hp.length) (hA:∀ z,hp[a]?=some z→MB a b x z) (hB:hp[b]?=some .gone)
  (hO:∀ (i:Nat) (z z':AB),i ≠ a→i ≠ b→st.hp[i]?=some z→hp[i]?=some z'→MB a b z z') :
  aj st ⟨bx l,hp,st.aE,st.rd,st.fl⟩:=by
 have hla:a < st.hp.length:=(List.getElem?_eq_some_iff.1 hja).1
 have hlb:b < st.hp.length:=(List.getElem?_eq_some_iff.1 hjb).1
 refine ⟨rfl,fun E base s hs'=>?_⟩
 have hr:=hs'.h
 have hget:∀ (i:Nat) (z:AB) (aB:Nat),hp[i]?=some z→z.ver?=some aB→(i=a∧MB a b x z)∨(i ≠ a∧i ≠ b∧∃ z0,st.hp[i]?=some z0∧MB a b z0 z):=by
  intro i z aB hi hv
  by_cases hib:i=b
  ·subst hib
   rw [hB] at hi
   cases hi;cases hv
  ·by_cases hia:i=a
   ·subst hia
    exact .inl ⟨rfl,hA z hi⟩
   ·have hlt:i < st.hp.length:=by
     have:=(List.getElem?_eq_some_iff.1 hi).1
     omega
    exact .inr ⟨hia,hib,_,List.getElem?_eq_getElem hlt,hO i _ z hia hib (List.getElem?_eq_getElem hlt) hi⟩
 have hma:∀ {v:Nat},bf a b E.ρ a v=E.ρ b v:=fun {v}=>by unfold bf;rw [if_pos rfl]
 have hmo:∀ {i v:Nat},i ≠ a→i ≠ b→bf a b E.ρ i v=E.ρ i v:=fun {i v} h1 h2=>by unfold bf;rw [if_neg h1,if_neg h2]
 have hmi:∀ {i v k:Nat},bf a b E.ρ i v=some k→(i=a∧E.ρ b v=some k)∨(i ≠ a∧i ≠ b∧E.ρ i v=some k):=by
  intro i v k h
  unfold bf at h
  split at h
  ·rename_i h1;exact .inl ⟨h1,h⟩
  ·split at h
   ·cases h
   ·rename_i h1 h2;exact .inr ⟨h1,h2,h⟩
 have hown:∀ k,Own (bf a b E.ρ) hp k→Own E.ρ st.hp k:=by
  rintro k ⟨i,z,v,h1,h2,h3⟩
  rcases hget i z v h1 h2 with ⟨rfl,hm⟩|⟨n1,n2,z0,h4,hm⟩
  ·rw [hma] at h3;exact ⟨b,_,v,hjb,hm.aB.trans h2,h3⟩
  ·rw [hmo n1 n2] at h3;exact ⟨i,z0,v,h4,hm.aB.trans h2,h3⟩
 have hOs:∀ k,({E with ρ:=bf a b E.ρ}:Env).O hp k→E.O st.hp k:=fun k h=>h.imp (hown k) id
 have hmv:∀ {v w:AV} {u:Value},Mv a b v w→AR E.ρ s.hp.get (E.O st.hp) v u→AR (bf a b E.ρ) s.hp.get (({E with ρ:=bf a b E.ρ}:Env).O hp) w u:=by
  intro v w u hm h
  cases hm with
  | same n1 n2=>exact h.move hOs n1 n2
  | ptr =>
   obtain ⟨k,hk,rfl⟩:=h.cW
   exact .ptr (by rw [hma];exact hk)
  | bI =>
   rcases h.eH with ⟨k,hk,rfl⟩|⟨rfl,rfl,rfl⟩
   ·exact .bI (by rw [hma];exact hk)
   ·exact .pV
  | bM=>exact .bM
 have hbr:∀ (z:AB) (z':bg),z.gO a=true→z.gO b=true→BR E.ρ s.hp.get (E.O st.hp) z z'→BR (bf a b E.ρ) s.hp.get (({E with ρ:=bf a b E.ρ}:Env).O hp) z z':=by
  intro z z' n1 n2 q3
  cases z with
  | cells cs2 es2 ver2 =>
   obtain ⟨cs',rfl,h⟩:=q3
   exact ⟨cs',rfl,h.1,fun i v u ha hu=>(h.2 i v u ha hu).move hOs (cT n1 i v ha) (cT n2 i v ha)⟩
  | dy p q=>exact q3
  | map aI clock =>
   obtain ⟨es,rfl,h1,h2⟩:=q3
   refine ⟨es,rfl,h1,fun i k v born e hx hy=>?_⟩
   simp only [AB.gO,List.all_eq_true,Bool.and_eq_true] at n1 n2
   have m1:=n1 _ (List.mem_of_getElem? hx)
   have m2:=n2 _ (List.mem_of_getElem? hx)
   exact ⟨(h2 i k v born e hx hy).1.move hOs m1.1 m2.1,(h2 i k v born e hx hy).2.1.move hOs m1.2 m2.2,(h2 i k v born e hx hy).2.2⟩
  | iter i2 since seen stepped =>
   obtain ⟨m,rfl,h⟩:=q3
   exact ⟨m,rfl,by show bf a b E.ρ i2 0=_;rw [hmo (fF n1) (fF n2)];exact h⟩
  | gone=>exact q3
 have hmb:∀ (z w:AB) (z':bg),MB a b z w→BR E.ρ s.hp.get (E.O st.hp) z z'→BR (bf a b E.ρ) s.hp.get (({E with ρ:=bf a b E.ρ}:Env).O hp) w z':=by
  intro z w z' hm q3
  cases hm with
  | same n1 n2=>exact hbr z z' n1 n2 q3
  | cells hcl hcm =>
   obtain ⟨cs',rfl,h⟩:=q3
   refine ⟨cs',rfl,hcl ▸ h.1,fun i v u ha hu=>?_⟩
   have hlt:=(List.getElem?_eq_some_iff.1 ha).1
   exact hmv (hcm i _ v (List.getElem?_eq_getElem (by omega)) ha) (h.2 i _ u (List.getElem?_eq_getElem (by omega)) hu)
 refine ⟨{E with ρ:=bf a b E.ρ},⟨⟨hr.wf,fun i z v hi hv=>?_,fun i i' v v' k h1 h2=>?_,fun i v k hk=>?_,fun i z v w h1 h2 h3=>?_,fun i v hi=>?_,fun k hk=>hr.sup k (hown k hk),fun k hk=>hr.gZ k (hown k hk),hr.dx,hr.ds,hr.sn,hr.xn,fun k hk=>hr.nJ k (hk.imp (hown k) id),hr.bn,hr.aE⟩,hs'.rd,fun t=>hmv (Ab hs t) (hs'.fr t)⟩,
  ⟨Nat.le_refl _,fun i v k hi hk=>?_,fun k hk=>.inl (hown k hk),fun _ h=>.inl h,fun _ h=>.inl h,fun _ h=>h,fun _ h=>.inl h,fun _ _ _ _=>rfl,Nat.min_le_left _ _⟩⟩
 ·rcases hget i z v hi hv with ⟨rfl,hm⟩|⟨n1,n2,z0,h4,hm⟩
  ·rcases hr.fU b _ v hjb (hm.aB.trans hv) with ⟨k,b',q1,q2,q3⟩|⟨q1,q2⟩
   ·exact .inl ⟨k,b',by show bf _ b E.ρ _ v=_;rw [hma];exact q1,q2,hmb _ _ _ hm q3⟩
   ·exact .inr ⟨by show bf _ b E.ρ _ v=_;rw [hma];exact q1,hm.empty q2⟩
  ·rcases hr.fU i z0 v h4 (hm.aB.trans hv) with ⟨k,b',q1,q2,q3⟩|⟨q1,q2⟩
   ·exact .inl ⟨k,b',by show bf a b E.ρ i v=_;rw [hmo n1 n2];exact q1,q2,hmb _ _ _ hm q3⟩
   ·exact .inr ⟨by show bf a b E.ρ i v=_;rw [hmo n1 n2];exact q1,hm.empty q2⟩
 ·rcases hmi h1 with ⟨e1,p1⟩|⟨n1,n2,p1⟩
  ·rcases hmi h2 with ⟨e2,p2⟩|⟨m1,m2,p2⟩
   ·rw [e1,e2]
   ·exact absurd (hr.inj b i' v v' k p1 p2).symm m2
  ·rcases hmi h2 with ⟨e2,p2⟩|⟨m1,m2,p2⟩
   ·exact absurd (hr.inj i b v v' k p1 p2) n2
   ·exact hr.inj i i' v v' k p1 p2
 ·rcases hmi hk with ⟨rfl,h⟩|⟨_,_,h⟩
  ·exact hr.rn b v k h
  ·exact hr.rn i v k h
 ·rcases hget i z v h1 h2 with ⟨rfl,hm⟩|⟨n1,n2,z0,h4,hm⟩
  ·show bf _ b E.ρ _ w=none
   rw [hma];exact hr.fresh b _ v w hjb (hm.aB.trans h2) h3
  ·show bf a b E.ρ i w=none
   rw [hmo n1 n2];exact hr.fresh i z0 v w h4 (hm.aB.trans h2) h3
 ·show bf a b E.ρ i v=none
  have hi:st.hp.length≤i:=by rw [←hl];exact hi
  rw [hmo (by omega) (by omega)]
  exact hr.new i v hi
 ·show bf a b E.ρ i v=some k
  rw [hmo (by omega) (by omega)];exact hk
end
section
variable {T : bz} {tab : List XE} {one : Bool} {fl base : Nat} {E E' E2 : Env} {hp hp' hp2 : List AB} {aE amb' : bG} {H H' H2 : Hp} {ρ ρ2 : Nat → Nat → Option Nat} {g g2 : aH} {O O2 : Nat → Prop} {r : Rec}
theorem sU {α β:Type} (a:α) (l:List α) (f:α→Option (List β)) {x y:List β} (h1:f a=some x) (h2:bJ l f=some y):bJ (a :: l) f=some (x++y):=by
 cases l with
 | nil =>
  rw [k8] at h2
  cases h2
  rw [cM,h1,List.append_nil]
 | cons b l =>
  rw [gz,h1]
  simp only [h2,Option.map_some]
theorem sV {α β:Type} {a:α} {l:List α} {f:α→Option (List β)} {z:List β} (h:bJ (a :: l) f=some z):∃ x y,f a=some x∧bJ l f=some y∧z=x++y:=by
 cases l with
 | nil=>exact ⟨z,[],h,rfl,(List.append_nil _).symm⟩
 | cons b l =>
  rw [gz] at h
  cases hx:f a with
  | none=>rw [hx] at h;cases h
  | some x =>
   rw [hx] at h
   simp only [Option.map_eq_some_iff] at h
   obtain ⟨y,hy,rfl⟩:=h
   exact ⟨x,y,rfl,hy,rfl⟩
theorem yQ {α β:Type} {f:α→Option (List β)}:∀ {a b:List α} {z:List β},bJ (a++b) f=some z→∃ x y,bJ a f=some x∧bJ b f=some y∧z=x++y
 | [],b,z,h=>⟨[],z,rfl,h,rfl⟩
 | c :: a,b,z,h=>by
  obtain ⟨x,y,h1,h2,rfl⟩:=sV (l:=a++b) h
  obtain ⟨u,v,h3,h4,rfl⟩:=yQ h2
  exact ⟨x++u,v,sU _ _ _ h1 h3,h4,(List.append_assoc _ _ _).symm⟩
theorem tK {α β γ:Type} {f:α→Option (List β)} {k:β→Option (List γ)} {h:α→Option (List γ)} (hh:∀ x N M,f x=some N→bJ N k=some M→h x=some M):∀ {L0:List α} {L:List β} {M:List γ},bJ L0 f=some L→bJ L k=some M→bJ L0 h=some M
 | [],L,M,h1,h2=>by
  rw [k8] at h1
  cases h1
  exact h2
 | a :: l,L,M,h1,h2=>by
  obtain ⟨x,y,q1,q2,rfl⟩:=sV h1
  obtain ⟨u,v,q3,q4,rfl⟩:=yQ h2
  exact sU _ _ _ (hh a x u q1 q3) (tK hh q2 q4)
theorem kP {ops ops':List Oper}:∀ (l:List Oper) (st:St),(l.all fun o=>o.guard.isNone)=true→aM T r ops l st=aM T r ops' l st
 | [],_,_=>rfl
 | o :: l,st,h=>by
  rw [List.all_cons,Bool.and_eq_true] at h
  have hg:o.guard=none:=Option.isNone_iff_eq_none.1 h.1
  have e:(fun p:Value × Hp=>aM T r ops l ⟨cu st.fr o.dst p.1,p.2,st.rd⟩)=fun p=>aM T r ops' l ⟨cu st.fr o.dst p.1,p.2,st.rd⟩:=funext fun p=>kP l _ h.2
  rw [bH,bH,hg,e,kP l _ h.2]
  rfl
theorem nY {ops:List Oper}:∀ (a b:List Oper) (st:St) {L M:List St},aM T r ops a st=some L→bJ L (aM T r ops b)=some M→aM T r ops (a++b) st=some M
 | [],b,st,L,M,h1,h2=>by
  rw [dJ] at h1
  cases h1
  exact h2
 | o :: a,b,st,L,M,h1,h2=>by
  rw [bH] at h1
  rw [List.cons_append,bH]
  cases hg:aZ ops st.fr o.guard with
  | false =>
   rw [hg] at h1
   exact nY a b _ h1 h2
  | true =>
   rw [hg] at h1
   simp only [cond_true] at h1 ⊢
   cases ho:dI T r o.op st with
   | none=>rw [ho] at h1;cases h1
   | some L0 =>
    rw [ho] at h1
    exact tK (fun x N M q1 q2=>nY a b _ q1 q2) h1 h2
theorem wM {f:St→Option (List St)} {ψ:Exit × St→Option (List (Exit × St))} (hψ:∀ s,ψ (.normal,s)=(f s).map (List.map fun s=>(.normal,s))):∀ {M:List St} {L:List (Exit × St)},bJ (M.map fun s=>(Exit.normal,s)) ψ=some L→∃ N,bJ M f=some N∧L=N.map fun s=>(.normal,s)
 | [],L,h=>by
  rw [List.map_nil,k8] at h
  cases h
  exact ⟨[],rfl,rfl⟩
 | s :: M,L,h=>by
  rw [List.map_cons] at h
  obtain ⟨x,y,q1,q2,rfl⟩:=sV h
  rw [hψ,Option.map_eq_some_iff] at q1
  obtain ⟨u,q1,rfl⟩:=q1
  obtain ⟨v,q3,rfl⟩:=wM hψ q2
  exact ⟨u++v,sU _ _ _ q1 q3,by rw [List.map_append]⟩
theorem aA.P4 {id id1 id2:Nat} {l l1 l2:List Oper} {st:bK} {K:Exit→bK→Prop} (hl:l=l1++l2) (hg:(l.all fun o=>o.guard.isNone)=true)
  (h:aA T tab one (.seq (.region id1 l1.toArray false) (.region id2 l2.toArray false)) st K):aA T tab one (.region id l.toArray false) st K:=by
 subst hl
 intro E base s hs
 obtain ⟨m,L,h1,h2⟩:=h E base s hs
 refine ⟨m,L,?_,h2⟩
 rw [List.all_append,Bool.and_eq_true] at hg
 rw [iz,bQ] at h1
 simp only [cond_false] at h1
 cases he:aM T (RX T tab m) l1 l1 s with
 | none=>rw [he] at h1;cases h1
 | some M =>
  rw [he] at h1
  obtain ⟨N,q1,rfl⟩:=wM (f:=aM T (RX T tab m) l2 l2) (fun s=>by
   show (match _root_.cond false _ (aM T (RX T tab m) l2 l2 s) with
    | some L=>some (L.map fun s=>(Exit.normal,s))
    | none=>none)=_
   simp only [cond_false]
   cases aM T (RX T tab m) l2 l2 s <;> rfl) h1
  rw [bQ]
  have:aM T (RX T tab m) (l1++l2) (l1++l2) s=some N:=by
   refine nY l1 l2 s (L:=M) ?_ ?_
   ·rw [kP l1 s hg.1,he]
   ·rw [←q1]
    congr 1
    exact funext fun s=>kP l2 s hg.2
  simp only [cond_false,this]
def R6 (T:bz) (o:Op) (st:bK) (Q:AV→List AB→Prop):Prop :=
 ∀ (E:Env) (base:Nat) (H:Hp) (tm:Tr Value),aQ E base st.hp st.aE H→hG E.ρ H.get (E.O st.hp) st.fr tm→dW base E st.hp st.aE H (gR T H.n o (aG tm) H.get) Q
theorem aA.Th {id:Nat} {dst:Option Tmp} {o:Op} {a1 a2 a3} {st:bK} {K:Exit→bK→Prop} (hk:cG o=.plain)
  (h:R6 T o st fun v hp'=>K .normal ⟨mA st.fr dst v,hp',st.aE,st.rd,st.fl⟩):aA T tab one (.region id [⟨dst,o,a1,a2,a3,none⟩].toArray false) st K:=by
 intro E base s hs
 obtain ⟨u,e,E',v,hp',r1,r2,r3,r4,r5⟩:=h E base s.hp s.fr hs.h hs.fr
 refine ⟨0,[(.normal,⟨cu s.fr dst u,s.hp.app e,s.rd⟩)],?_,.single ⟨E',_,r2,rfl,⟨r3,hs.rd,mB (r4.DG.fr hs.h hs.fr) r5 dst⟩,r4.DG⟩⟩
 rw [bQ]
 have:aM T (RX T tab 0) [⟨dst,o,a1,a2,a3,none⟩] [⟨dst,o,a1,a2,a3,none⟩] s=some [⟨cu s.fr dst u,s.hp.app e,s.rd⟩]:=by
  rw [bH]
  have:dI T (RX T tab 0) o s=some [(u,s.hp.app e)]:=by
   unfold dI
   simp only [hk,r1]
  simp only [aZ,cond_true,this,cM,dJ]
 simp only [cond_false,this,List.map_cons,List.map_nil]
def mO (o:Oper):Bool :=
 match o.guard,o.op with
 | none,.move _=>true
 | none,.assign _=>true
 | none,.extract _ _=>true
 | none,.slice _ _ _ _ _=>true
 | _,_=>false
theorem CP {o:Oper} (h:mO o=true):o.guard=none∧cG o.op=.plain∧(∀ ρ,gV o.op ρ=some ([],[]))∧news? o.op=false:=by
 unfold mO at h
 split at h <;> first|(rename_i h1 h2;rw [h2];exact ⟨h1,rfl,fun _=>rfl,rfl⟩)|cases h
theorem GK {o:Oper} (h:mO o=true) {n:Nat} {ρ:Operand→Value} {g:aH} {v:Value} {e:bL} (ho:gR T n o.op ρ g=some (v,e)):e=.none:=by
 obtain ⟨_,_,h3,h4⟩:=CP h
 have h1:=(ox ho).2 (nD (h3 ρ)).1
 rw [(nD (h3 ρ)).2] at h1
 have h2:=nQ ho h4
 cases e with
 | none=>rfl
 | new b=>cases h2
 | put k b=>cases h1
 | app k b=>cases h1
def Qi (e:Ev):Prop:=e.t.rd=[]∧e.t.wr=[]∧e.t.a=e.t.b
theorem oT (a:Nat) (l:List Nat):within a a l=false:=by
 unfold within
 rw [List.any_eq_false]
 intro k _ hk
 simp only [Bool.and_eq_true] at hk
 have h1:=Nat.le_of_ble_eq_true hk.1
 have h2:Nat.ble (k+1) a=true:=hk.2
 have h2:=Nat.le_of_ble_eq_true h2
 omega
theorem qi (l:List Nat):meets l []=false:=by
 unfold meets
 rw [List.any_eq_false]
 intro k _ h
 cases h
theorem mP (a b:Nat):within a b []=false:=rfl
theorem Eu {s t:Ev} (hs:s.t.call=false) (ht:t.t.call=false) (h:Qi s∨Qi t):conflict s.t t.t=false:=by
 unfold conflict
 rw [hs,ht]
 have mn:∀ l,meets [] l=false:=fun _=>rfl
 rcases h with ⟨h1,h2,h3⟩|⟨h1,h2,h3⟩
 ·rw [h1,h2,h3]
  simp only [mn,qi,mP,oT,Bool.false_and,Bool.or_self]
 ·rw [h1,h2,h3]
  simp only [mn,qi,mP,oT,Bool.false_and,Bool.or_self]
def P5 (o:Oper):Prop:=o.guard=none∧cG o.op=.plain∧∀ ρ,(gV o.op ρ).isSome=true
def Ew:List Oper→Prop
 | []=>True
 | o :: l=>P5 o∧Ew l
theorem qj {ops:Array Oper} {ops':List Oper}:∀ (l:List Oper) (i:Nat) (st:St) (L:List St) (acc:List Ev),Ew l→aM T r ops' l st=some L→bY T (ql ops) acc=true→(∀ ev ∈ acc,ev.t.call=false) →
  ((∀ ev ∈ acc,Qi ev)∧l.countP (fun o=>!mO o)≤1∨l.all mO=true)→∃ s',L=[s']∧bh T r ops l i st acc=some [s']
 | [],i,st,L,acc,_,h,hp,_,_=>by
  rw [dJ] at h
  cases h
  refine ⟨st,rfl,?_⟩
  rw [cV]
  have:cC T ops acc=true:=by
   unfold cC
   cases (acc.all fun e=>e.t.wr.isEmpty && Nat.beq e.t.a e.t.b) with
   | true=>rfl
   | false=>exact hp
  rw [this]
  rfl
 | o :: l,i,st,L,acc,hl,h,hp,hc,hq=>by
  obtain ⟨⟨g1,g2,g3⟩,hl⟩:=hl
  rw [bH,g1] at h
  rw [aJ,g1]
  simp only [aZ,cond_true] at h ⊢
  cases ho:gR T st.hp.n o.op (aG st.fr) st.hp.get with
  | none =>
   exfalso
   have:dI T r o.op st=none:=by unfold dI;simp only [g2,ho]
   rw [this] at h
   cases h
  | some ve =>
   obtain ⟨v,e⟩:=ve
   have ha:dI T r o.op st=some [(v,st.hp.app e)]:=by unfold dI;simp only [g2,ho]
   rw [ha] at h
   simp only [cM] at h
   obtain ⟨⟨rd,wr⟩,ht⟩:=Option.isSome_iff_exists.1 (g3 (aG st.fr))
   have hd:aW T r o.op i st=some (v,st.hp.app e,⟨i,rd,wr,false,st.hp.n,(st.hp.app e).n⟩):=by
    unfold aW
    simp only [g2,ht,ho]
   simp only [hd]
   have hnew:∀ x:Ev,x.t.call=false→(Qi x∨∀ ev ∈ acc,Qi ev)→bY T (ql ops) (x :: acc)=true:=by
    intro x hxc hx
    simp only [bY,Bool.and_eq_true,List.all_eq_true]
    refine ⟨fun s hs=>?_,hp⟩
    rw [Eu (hc s hs) hxc (hx.elim .inr fun h=>.inl (h s hs))]
    rfl
   have hcx:∀ x:Ev,x.t.call=false→∀ ev ∈ x :: acc,ev.t.call=false:=by
    intro x hx ev hev
    rcases List.mem_cons.1 hev with rfl|hev
    ·exact hx
    ·exact hc ev hev
   cases hqo:mO o with
   | true =>
    have he:=GK hqo ho
    have htq:=(CP hqo).2.2.1 (aG st.fr)
    rw [ht] at htq
    simp only [Option.some.injEq,Prod.mk.injEq] at htq
    obtain ⟨rfl,rfl⟩:=htq
    have hQ:Qi ⟨o,st,v,st.hp.app e,⟨i,[],[],false,st.hp.n,(st.hp.app e).n⟩⟩:=⟨rfl,rfl,by rw [he];rfl⟩
    refine qj l (i+1) _ L _ hl h (hnew _ rfl (.inl hQ)) (hcx _ rfl) ?_
    rcases hq with ⟨q1,q2⟩|q
    ·refine .inl ⟨fun ev hev=>?_,?_⟩
     ·rcases List.mem_cons.1 hev with rfl|hev
      ·exact hQ
      ·exact q1 ev hev
     ·rw [List.countP_cons,hqo] at q2
      simpa using q2
    ·rw [List.all_cons,Bool.and_eq_true] at q
     exact .inr q.2
   | false =>
    rcases hq with ⟨q1,q2⟩|q
    ·refine qj l (i+1) _ L _ hl h (hnew _ rfl (.inr q1)) (hcx _ rfl) (.inr ?_)
     rw [List.countP_cons,hqo] at q2
     have q2:l.countP (fun o=>!mO o)+1≤1:=by simpa using q2
     rw [List.all_eq_true]
     intro x hx
     have:l.countP (fun o=>!mO o)=0:=by omega
     rw [List.countP_eq_zero] at this
     have:=this x hx
     simpa using this
    ·rw [List.all_cons,hqo] at q
     cases q
end
section
variable {T : bz} {tab : List XE} {one : Bool} {fl base : Nat} {E E' E2 : Env} {hp hp' hp2 : List AB} {aE amb' : bG} {H H' H2 : Hp} {ρ ρ2 : Nat → Nat → Option Nat} {g g2 : aH} {O O2 : Nat → Prop} {r : Rec}
theorem oU (n:Nat):ig (.int .i64 (n:Int))=some n:=by
 show (bif decide ((n:Int) < 0) then none else some (n:Int).toNat)=_
 rw [decide_eq_false (by omega)]
 rfl
theorem nZ {a b:Nat} (h:a≤b):Nat.ble a b=true:=Nat.ble_eq_true_of_le h
theorem Sw {a b:Nat} (h:b < a):Nat.ble a b=false:=Bool.eq_false_iff.2 fun h'=>by have:=Nat.le_of_ble_eq_true h';omega
theorem R6.Sx {t:TypeId} {x lo hi mx:Operand} {st:bK} {Q:AV→List AB→Prop} {j aB n c l h m:Nat} {inf:rM} (hx:aN st.fr x=.bI j aB 0 n c) (hlo:aN st.fr lo=.fl (.int .i64 (l:Int))) (hhi:aN st.fr hi=.fl (.int .i64 (h:Int))) (hmx:aN st.fr mx=.fl (.int .i64 (m:Int)))
  (hi':elem? T t=some inf) (h1:1≤inf.size) (hb:l≤h∧h≤m∧m≤n) (hn:1≤n) (hq:Q .bM st.hp):R6 T (.slice t x (some lo) (some hi) (some mx)) st Q:=by
 intro E base H tm hr hf
 have ax:=fM hf x
 have e1:=fM hf lo
 have e2:=fM hf hi
 have e3:=fM hf mx
 rw [hx] at ax
 rw [hlo] at e1
 rw [hhi] at e2
 rw [hmx] at e3
 have e1:=e1.dL.1
 have e2:=e2.dL.1
 have e3:=e3.dL.1
 rcases ax.eH with ⟨k,hk,hu⟩|⟨_,h0,_⟩
 ·have:gR T H.n (.slice t x (some lo) (some hi) (some mx)) (aG tm) H.get=some (.slice (some ⟨k,0+l * inf.size,none⟩) (h - l) (bif Nat.beq h m then h - l else h - l+3+(m - h)),.none):=by
   show (fc T t (aG tm x) (some (aG tm lo)) (aG tm hi) (aG tm mx)).map (fun v=>(v,bL.none))=_
   rw [e1,e2,e3,hu]
   unfold fc
   simp only [hi',cB,oU]
   rw [nZ hb.1,nZ hb.2.1,nZ hb.2.2,nZ h1]
   rfl
  rw [this]
  exact .pure hr .bM hq
 ·omega
theorem bT {ops:List Oper} {dst:Option Tmp} {o:Op} {a1 a2 a3} {l:List Oper} {st:St} {v:Value} {e:bL} {L:Option (List St)} (hk:cG o=.plain) (h:gR T st.hp.n o (aG st.fr) st.hp.get=some (v,e)) (hl:aM T r ops l ⟨cu st.fr dst v,st.hp.app e,st.rd⟩=L) :
  aM T r ops (⟨dst,o,a1,a2,a3,none⟩ :: l) st=L:=by
 rw [bH]
 have:dI T r o st=some [(v,st.hp.app e)]:=by
  unfold dI
  simp only [hk,h]
 simp only [aZ,cond_true,this,cM]
 exact hl
theorem aA.Sy {a b c:Code} {st st2:bK} {K:Exit→bK→Prop} (hfl:st2.fl=st.fl)
  (h:∀ (E:Env) (base:Nat) (s:St),mC E base st s→∃ m s1 s2,bp T (RX T tab m) a s=some [(.normal,s1)]∧bp T (RX T tab m) b s1=some [(.normal,s2)]∧∃ E',mC E' base st2 s2∧jL st.fl base E st.hp s.hp E' st2.hp s2.hp)
  (h2:aA T tab one c st2 K):aA T tab one (.seq a (.seq b c)) st K:=by
 intro E base s hs
 obtain ⟨m,s1,s2,q1,q2,E',q3,q4⟩:=h E base s hs
 obtain ⟨m2,L,r1,r2,r3⟩:=h2 E' base s2 q3
 refine ⟨max m m2,L,?_,r2,fun p hp=>?_⟩
 ·rw [iz,dD (dm (Nat.le_max_left m m2)) _ _ _ q1]
  simp only [cM,rR]
  rw [iz,dD (dm (Nat.le_max_left m m2)) _ _ _ q2]
  simp only [cM,rR]
  exact dD (dm (Nat.le_max_right m m2)) _ _ _ r1
 ·obtain ⟨E2,st3,k1,k2,k3,k4⟩:=r3 p hp
  rw [hfl] at k4
  exact ⟨E2,st3,k1,k2.trans hfl,k3,q4.trans k4⟩
theorem GM {id:Nat} {l:List Oper} {s s':St} (h:aM T r l l s=some [s']):bp T r (.region id l.toArray false) s=some [(.normal,s')]:=by
 rw [bQ]
 simp only [cond_false,h,List.map_cons,List.map_nil]
theorem Ex {id:Nat} {l:List Oper} {n:Nat} {s s':St} (hp:Ew l) (hc:Nat.ble (l.countP fun o=>!mO o) 1=true) (hn:qp l.toArray=none) (ht:eA l.toArray=n) (hl:l.length=n) (h:aM T r l l s=some [s']):bp T r (.region id l.toArray true) s=some [(.normal,s')]:=by
 obtain ⟨s2,h2,hd⟩:=qj (ops:=l.toArray) l 0 s [s'] [] hp h rfl (fun _ h=>by cases h) (.inl ⟨(fun _ h=>by cases h),Nat.le_of_ble_eq_true hc⟩)
 simp only [List.cons.injEq,and_true] at h2
 subst h2
 rw [bQ]
 have:bE T r l.toArray s=some [s']:=by
  unfold bE
  simp only [hn,ht]
  rw [←hl,List.take_length,hd,List.drop_length]
  rfl
 simp only [cond_true,this,List.map_cons,List.map_nil]
end
section
variable {T : bz} {tab : List XE} {one : Bool} {fl base : Nat} {E E' E2 : Env} {hp hp' hp2 : List AB} {aE amb' : bG} {H H' H2 : Hp} {ρ ρ2 : Nat → Nat → Option Nat} {g g2 : aH} {O O2 : Nat → Prop}
def CQ (T:bz) (tab:List XE) (F1:AV) (as1:List AV) (F2:AV) (as2:List AV) (v:AV):Prop :=
 v.deep=true∧∀ (X:Nat→Prop) (H:Hp) (u1:Value) (us1:List Value),Wf H→(∀ k,X k→k < H.n)→DR H.get X F1 u1→pH H.get X as1 us1 →
  ∃ g1,cF u1 us1=some g1∧∃ m1 w1 H1,RX T tab m1 (gI {H with lo:=H.n} g1)=some [.ret w1 H1]∧H.n≤H1.n∧H.n≤H1.lo∧∀ (u2:Value) (us2:List Value),DR H.get X F2 u2→pH H.get X as2 us2 →
   ∃ g2,cF u2 (w1 :: us2)=some g2∧∃ m2 w2 H2,RX T tab m2 (gI {H1 with lo:=H1.n} g2)=some [.ret w2 H2]∧H1.n≤H2.n∧Wf H2∧(∀ k,k < H.n→H2.get k=H.get k)∧H.n≤H2.lo∧DR H2.get X v w2
theorem aQ.Sz (h:aQ E base hp aE H) (n:Nat):aQ E base hp aE {H with lo:=n} :=
 ⟨h.wf,h.fU,h.inj,h.rn,h.fresh,h.new,h.sup,h.gZ,h.dx,h.ds,h.sn,h.xn,h.nJ,h.bn,h.aE⟩
theorem CQ.of {F1 F2 w v:AV} {as1 as2:List AV} {hp1:List AB} (hv:v.deep=true)
  (h1:av T tab true F1 as1 [] bG.none fun a hp aE=>a=w∧hp=hp1∧aE=bG.none) (h2:av T tab true F2 (w :: as2) hp1 bG.none fun a hp _=>Fz hp a v):CQ T tab F1 as1 F2 as2 v:=by
 refine ⟨hv,fun X H u1 us1 hwf hX d1 d2=>?_⟩
 let E:Env:=⟨fun _ _=>none,fun _=>False,fun _=>False,X⟩
 have hno:∀ k,¬ Own E.ρ [] k:=fun k ⟨j,b,aB,h,_⟩=>by cases h
 have hO:∀ k,E.O [] k→X k:=fun k h=>h.elim (fun h=>(hno k h).elim) id
 have hrel:aQ E H.n [] bG.none {H with lo:=H.n} :=
  {wf:=hwf,fU:=fun j b aB h _=>(by cases h),inj:=fun j j' aB ver' k h=>(by cases h),rn:=fun j v k h=>(by cases h),fresh:=fun j b aB v h=>(by cases h),new:=fun _ _ _=>rfl,
   sup:=fun k h=>(hno k h).elim,gZ:=fun k h=>(hno k h).elim,dx:=fun k h=>h.elim,ds:=fun k h=>h.elim,sn:=fun k h=>h.elim,xn:=hX,
   nJ:=fun k h=>h.elim (fun h=>(hno k h).elim) (fun h=>h.elim),bn:=Nat.le_refl _,aE:=trivial}
 have up:∀ {a:AV} {u:Value},DR H.get X a u→AR E.ρ H.get (E.O []) a u:=fun h=>.d (h.mono fun k b hk ho=>⟨hk,fun h=>ho (hO k h)⟩)
 have upL:∀ {a:List AV} {u:List Value},pH H.get X a u→fy E.ρ H.get (E.O []) a u:=fun h=>⟨h.1,fun i a u x y=>up (h.2 i a u x y)⟩
 obtain ⟨g1,hg1,m1,L1,r1,r2,r3⟩:=h1 E H.n {H with lo:=H.n} u1 us1 hrel (up d1) (upL d2)
 obtain ⟨x,rfl⟩:=r2 rfl
 obtain ⟨w1,H1,rfl,E1,a1,hq,amb1,⟨rfl,rfl,rfl⟩,k1,k2,k3⟩:=r3 x List.mem_cons_self
 have k1':=k1.Sz H1.n
 have hn1:H.n≤H1.n:=k3.n
 have lo1:min H.n H.n≤H1.lo:=k3.lo
 refine ⟨g1,hg1,m1,w1,H1,r1,hn1,by omega,fun u2 us2 d3 d4=>?_⟩
 have d3':AR E1.ρ H1.get (E1.O hq) F2 u2:=k3.ar hrel (up d3)
 have d4':fy E1.ρ H1.get (E1.O hq) as2 us2:=⟨d4.1,fun i a u x y=>k3.ar hrel (up (d4.2 i a u x y))⟩
 obtain ⟨g2,hg2,m2,L2,s1,s2,s3⟩:=h2 E1 H.n {H1 with lo:=H1.n} u2 (w1 :: us2) k1' d3' (.cons k2 d4')
 obtain ⟨y,rfl⟩:=s2 rfl
 obtain ⟨w2,H2,rfl,E2,a2,hp2,amb2,hfz,t1,t2,t3⟩:=s3 y List.mem_cons_self
 have lo2:min H1.n H.n≤H2.lo:=t3.lo
 refine ⟨g2,hg2,m2,w2,H2,s1,t3.n,t1.wf,fun k hk=>?_,by omega,hfz.dr t1 (fun k hk=>t3.xk k (k3.xk k hk)) t2⟩
 have no1:¬ Own E1.ρ hq k:=fun h=>by
  rcases k3.own k h with h|h
  ·exact hno k h
  ·have h:H.n≤k:=h
   omega
 have no2:¬ E1.D k:=fun h=>by
  rcases k3.d k h with h|h
  ·exact h
  ·have h:H.n≤k:=h
   omega
 have e1:H2.get k=H1.get k:=t3.same k (Nat.lt_of_lt_of_le hk hn1) no1 no2
 have e2:H1.get k=H.get k:=k3.same k hk (hno k) (fun h=>h)
 rw [e1,e2]
inductive ni where
 | pl (x:gN)
 | quiet (i:Nat)
 | span (i i0 i1:Nat)
def ni.i:ni→Nat
 | .pl x=>x.i
 | .quiet i=>i
 | .span i _ _=>i
inductive wN (tr:Nat→bw):ni→Tc→Prop
 | pl {x:gN} {t:Tc}:qf tr x t→wN tr (.pl x) t
 | quiet {i:Nat} {t:Tc}:t.idx=i→t.rd=[]→t.wr=[]→t.call=false→t.a=t.b→wN tr (.quiet i) t
 | span {i i0 i1:Nat} {t:Tc}:t.idx=i→t.rd=[]→t.call=true→i0≤i→(∀ k ∈ t.wr,(tr i0).H.n≤k)→(tr i0).H.n≤t.a→t.b≤(tr i1).H.n→wN tr (.span i i0 i1) t
theorem wN.idx {tr:Nat→bw} {x:ni} {t:Tc} (h:wN tr x t):t.idx=x.i:=by
 cases h with
 | pl h=>exact h.ev.idx
 | quiet h=>exact h
 | span h=>exact h
def ni.top:ni→Nat
 | .pl x=>x.i+1
 | .quiet i=>i+1
 | .span i _ i1=>max (i+1) i1
theorem wN.snoc {tr:Nat→bw} {i:Nat} {z:bw} {x:ni} {t:Tc} (h:wN tr x t) (hi:x.top≤i):wN (snoc tr i z) x t:=by
 cases h with
 | pl h=>exact .pl (h.snoc (by have:_+1≤i:=hi;omega))
 | quiet a b c d e=>exact .quiet a b c d e
 | span a b c d f g k =>
  rename_i i' i0 i1
  have hi:max (i'+1) i1≤i:=hi
  refine .span a b c d ?_ ?_ ?_
  ·rw [aU (by omega)];exact f
  ·rw [aU (by omega)];exact g
  ·rw [aU (by omega)];exact k
def CR:ni→ni→Bool
 | .quiet _,_=>true
 | _,.quiet _=>true
 | .pl x,.pl y=>rH x y
 | .pl x,.span _ i0 _=>x.acc.all (fun p=>Nat.ble p.b i0 && !p.wr) && !x.call && !x.al
 | .span _ _ _,.pl y=>y.acc.isEmpty && !y.call && !y.al
 | .span _ _ _,.span _ _ _=>false
theorem mQ {s t:Tc} (h:t.rd=[]∧t.wr=[]∧t.call=false∧t.a=t.b):conflict s t=false∧conflict t s=false:=by
 obtain ⟨h1,h2,h3,h4⟩:=h
 have mn:∀ l,meets [] l=false:=fun _=>rfl
 unfold conflict
 rw [h1,h2,h3,h4]
 constructor <;> simp [mn,qi,mP,oT]
theorem KV {tr:Nat→bw} {n:Nat} (ht:iW base aE tr n) {x y:ni} {s t:Tc} (hs:wN tr x s) (hy:wN tr y t) (hxy:x.i < y.i) (hn:y.top≤n) (hf:CR x y=true):conflict s t=false:=by
 have emp:∀ {y:gN} {t:Tc},qf tr y t→y.acc.isEmpty=true→y.call=false→y.al=false→t.rd=[]∧t.wr=[]∧t.call=false∧t.a=t.b:=by
  intro y t h h1 h2 h3
  have h1:y.acc=[]:=List.isEmpty_iff.1 h1
  refine ⟨List.eq_nil_iff_forall_not_mem.2 fun k hk=>?_,List.eq_nil_iff_forall_not_mem.2 fun k hk=>?_,by rw [h.ev.call];exact h2,h.ev.al h3 h2⟩
  ·obtain ⟨p,hp,_⟩:=h.ev.rd k hk
   rw [h1] at hp;cases hp
  ·obtain ⟨p,hp,_⟩:=h.ev.wr k hk
   rw [h1] at hp;cases hp
 cases hs with
 | quiet a b c d e=>exact (mQ ⟨b,c,d,e⟩).2
 | pl hx =>
  cases hy with
  | quiet a b c d e=>exact (mQ ⟨b,c,d,e⟩).1
  | pl hy=>exact wE ht hx hy hxy (by have:_+1≤n:=hn;omega) hf
  | span a b c d f g k =>
   rename_i x i i0 i1
   have hxy:x.i < i:=hxy
   have hn:max (i+1) i1≤n:=hn
   simp only [CR,Bool.and_eq_true,List.all_eq_true,Bool.not_eq_true'] at hf
   obtain ⟨⟨f1,f2⟩,f3⟩:=hf
   have hw:s.wr=[]:=List.eq_nil_iff_forall_not_mem.2 fun q hq=>by
    obtain ⟨p,hp,h1,_⟩:=hx.ev.wr q hq
    have:=(f1 p hp).2
    rw [h1] at this;cases this
   have hr:∀ q ∈ s.rd,q < (tr i0).H.n:=fun q hq=>by
    obtain ⟨p,hp,_,h2⟩:=hx.ev.rd q hq
    have h3:=Nat.le_of_ble_eq_true (f1 p hp).1
    have:=(ht.ext p.b i0 h3 (by omega)).n
    have:=h2.2.1
    omega
   have hc:s.call=false:=by rw [hx.ev.call];exact f2
   have hab:=hx.ev.al f3 f2
   cases hcf:conflict s t with
   | false=>rfl
   | true =>
    exfalso
    unfold conflict at hcf
    rw [hw,hc,b,hab] at hcf
    have mn:∀ l,meets [] l=false:=fun _=>rfl
    simp only [mn,mP,oT,Bool.false_and,Bool.false_or,Bool.or_false,List.isEmpty_nil,Bool.not_true,Bool.and_false,Bool.or_eq_true] at hcf
    rcases hcf with hcf|hcf
    ·obtain ⟨q,q1,q2⟩:=dZ.1 hcf
     have:=f q q1
     have:=hr q q2
     omega
    ·obtain ⟨q,q1,q2,_⟩:=within_iff.1 hcf
     have:=hr q q1
     omega
 | span a b c d f g k =>
  cases hy with
  | quiet a b c d e=>exact (mQ ⟨b,c,d,e⟩).1
  | pl hy =>
   simp only [CR,Bool.and_eq_true,Bool.not_eq_true'] at hf
   exact (mQ (emp hy hf.1.1 hf.1.2 hf.2)).1
  | span=>cases hf
def Mk (b:List Nat):List ni→Bool
 | []=>true
 | y :: l=>l.all (fun x=>(b.getD y.i 0).testBit x.i || CR x y) && Mk b l
inductive i6 (tr:Nat→bw) (n:Nat):Nat→List ni→List Ev→Prop
 | nil:i6 tr n 0 [] []
 | cons {i:Nat} {x:ni} {ev:Ev} {l:List ni} {m:List Ev}:i6 tr n i l m→x.i=i→x.top≤n→wN tr x ev.t→i6 tr n (i+1) (x :: l) (ev :: m)
theorem i6.lt {tr:Nat→bw} {n i:Nat} {l:List ni} {m:List Ev} (h:i6 tr n i l m):∀ x ∈ l,x.i < i:=by
 induction h with
 | nil=>intro x hx;cases hx
 | cons _ hi _ _ ih =>
  intro y hy
  rcases List.mem_cons.1 hy with rfl|hy
  ·omega
  ·have:=ih y hy;omega
theorem i6.snoc {tr:Nat→bw} {n n':Nat} {z:bw} {i:Nat} {l:List ni} {m:List Ev} (h:i6 tr n i l m) (hn:n≤n'):i6 (snoc tr n z) n' i l m:=by
 induction h with
 | nil=>exact .nil
 | cons _ hi ht he ih=>exact .cons ih hi (by omega) (he.snoc ht)
theorem i6.pairs {tr:Nat→bw} {n:Nat} (ht:iW base aE tr n) {b:List Nat} {i:Nat} {l:List ni} {m:List Ev} (h:i6 tr n i l m):Mk b l=true→bY T b m=true:=by
 induction h with
 | nil=>intro _;rfl
 | cons hl hi htop he ih =>
  rename_i i y ev l m
  intro hc
  simp only [Mk,Bool.and_eq_true,List.all_eq_true] at hc
  simp only [bY,Bool.and_eq_true,List.all_eq_true]
  refine ⟨?_,ih hc.2⟩
  have hc1:=hc.1
  clear ih hc
  have key:∀ {j:Nat} {l:List ni} {m:List Ev},i6 tr n j l m→(∀ x ∈ l,(b.getD y.i 0).testBit x.i=true∨CR x y=true)→j≤y.i→∀ s ∈ m,(!conflict s.t ev.t || (b.getD ev.t.idx 0).testBit s.t.idx || spare T s ev)=true:=by
   intro j l m h
   induction h with
   | nil=>intro _ _ s hs;cases hs
   | cons hl' hi' htop' he' ih' =>
    rename_i x ev' _ _
    intro hx hj s hs
    rcases List.mem_cons.1 hs with rfl|hs
    ·rcases hx x (by simp) with h|h
     ·rw [he.idx,he'.idx,h];simp
     ·rw [KV ht he' he (by omega) htop h];simp
    ·exact ih' (fun z hz=>hx z (List.mem_cons_of_mem _ hz)) (by omega) s hs
  exact key hl (fun x hx=>by simpa using hc1 x hx) (by omega)
def mR (T:bz) (tab:List XE) (mu:Tmp→Bool) (ops:Array Oper) (aE:bG) (rd:Bool) (fl:Nat):List Oper→Nat→(Nat→Nat)→List ni→(Nat→AV)→List AB→(Nat→(Nat→Nat)→List ni→(Nat→AV)→List AB→Prop)→Prop
 | [],i,bt,acc,fr,hp,K=>K i bt acc fr hp
 | ⟨dst,op,_,_,_,gd⟩ :: l,i,bt,acc,fr,hp,K=>gd=none ∧
  eC T tab mu dst op i bt fr hp fun fr' hp' bt' x=>(Aw op || x.acc.all fun p=>p.wr || p.own.isNone)=true∧mR T tab mu ops aE rd fl l (i+1) bt' (.pl x :: acc) fr' hp' K
structure qk (T:bz) (base:Nat) (aE:bG) (tr:Nat→bw) (i:Nat) (bt:Nat→Nat) (acc:List ni) (fr:Nat→AV) (hp:List AB) (s:St) (evs:List Ev):Prop where
 ht:iW base aE tr i
 h1:(tr i).hp=hp
 h2:(tr i).H=s.hp
 hb:cL tr i bt fr s.fr
 he:i6 tr i i acc evs
theorem kX {mu:Tmp→Bool} {ops:Array Oper} {rd:Bool} {fl:Nat}:∀ {l:List Oper} {i:Nat} {bt:Nat→Nat} {acc:List ni} {evs:List Ev} {fr:Nat→AV} {hp:List AB} {K:Nat→(Nat→Nat)→List ni→(Nat→AV)→List AB→Prop} {tr:Nat→bw} {s:St},
  mR T tab mu ops aE rd fl l i bt acc fr hp K→qk T base aE tr i bt acc fr hp s evs →
  ∃ (m0 i':Nat) (bt':Nat→Nat) (acc':List ni) (fr':Nat→AV) (hp':List AB) (tr':Nat→bw) (s':St) (evs':List Ev),K i' bt' acc' fr' hp'∧qk T base aE tr' i' bt' acc' fr' hp' s' evs'∧tr' 0=tr 0∧s'.rd=s.rd ∧
   ∀ m,m0≤m→∀ rest,bh T (RX T tab m) ops (l++rest) i s evs=bh T (RX T tab m) ops rest i' s' evs'
 | [],i,bt,acc,evs,fr,hp,K,tr,s,h,hw=>⟨0,i,bt,acc,fr,hp,tr,s,evs,h,hw,rfl,rfl,fun _ _ _=>rfl⟩
 | ⟨dst,op,a1,a2,a3,gd⟩ :: l,i,bt,acc,evs,fr,hp,K,tr,s,h,hw=>by
  obtain ⟨hgd,h⟩:=h
  subst hgd
  obtain ⟨z,v,u,b,x,t,m0,q1,q2,q3,q4,q5,q6,q7,q8⟩:=tI h hw.ht hw.h1 hw.h2 hw.hb
  have hx:(ni.pl x).top≤i+1:=by show x.i+1≤i+1;omega
  obtain ⟨m1,i',bt',acc',fr',hp',tr',s',evs',r1,r2,r3,r4,r5⟩:=kX (s:=⟨cu s.fr dst u,z.H,s.rd⟩) (evs:=⟨⟨dst,op,a1,a2,a3,none⟩,s,u,z.H,t⟩ :: evs) q8
   ⟨hw.ht.snoc q1 q2,by rw [aY (Nat.lt_succ_self _)],by rw [aY (Nat.lt_succ_self _)],hw.hb.put q3 q4 dst,.cons (hw.he.snoc (Nat.le_succ _)) q5 hx (.pl q6)⟩
  rw [aU (Nat.zero_le _)] at r3
  refine ⟨max m0 m1,i',bt',acc',fr',hp',tr',s',evs',r1,r2,r3,r4,fun m hm rest=>?_⟩
  rw [List.cons_append,aJ]
  simp only [aZ,cond_true,q7 m (by omega)]
  exact r5 m (by omega) rest
def KW (T:bz):List Oper→(Nat→AV)→((Nat→AV)→Prop)→Prop
 | [],fr,K=>K fr
 | ⟨dst,op,_,_,_,gd⟩ :: l,fr,K=>gd=none∧cG op=.plain∧(∀ ρ,gV op ρ=some ([],[]))∧∃ v:Value,aS v=true∧(∀ (ρ:Operand→Value),(∀ x c,aN fr x=.fl c→ρ x=c)→∀ n g,gR T n op ρ g=some (v,.none))∧KW T l (mA fr dst (.fl v)) K
def Ml:List Oper→(Nat→Nat)→Nat→Nat
 | [],bt=>bt
 | o :: l,bt=>Ml l (gC o.dst bt 0)
def Mm:Nat→List Oper→List ni→List ni
 | _,[],acc=>acc
 | i,_ :: l,acc=>Mm (i+1) l (.quiet i :: acc)
def CS (fr:Nat→AV) (tm:Tr Value):Prop:=∀ x c,aN fr x=.fl c→aG tm x=c
theorem CS.put {fr:Nat→AV} {tm:Tr Value} (h:CS fr tm) {a:AV} {v:Value} (ha:∀ c,a=.fl c→v=c) (d:Option Tmp):CS (mA fr d a) (cu tm d v):=by
 cases d with
 | none=>exact h
 | some d =>
  intro x c hx
  cases x with
  | tmp t =>
   have hx:(bif Nat.beq t d then a else fr t)=.fl c:=hx
   show ((tm.set d v).get t).getD undef=c
   rw [Tr.eE]
   rw [Tr.beq_eq] at hx
   by_cases htd:t=d
   ·rw [decide_eq_true htd] at hx
    rw [if_pos htd]
    exact ha c hx
   ·rw [decide_eq_false htd] at hx
    rw [if_neg htd]
    exact h (.tmp t) c hx
  | const w=>exact h (.const w) c hx
  | global g=>exact h (.global g) c hx
  | func f=>exact h (.func f) c hx
theorem cL.flat {tr:Nat→bw} {n:Nat} {bt:Nat→Nat} {fr:Nat→AV} {tm:Tr Value} (hb:cL tr n bt fr tm):CS fr tm:=fun x c hx=>by
 have:=(hb.eval x).2
 rw [hx] at this
 exact this.dL.1
theorem cL.RO {tr:Nat→bw} {n:Nat} {bt:Nat→Nat} {fr:Nat→AV} {tm:Tr Value} (hb:cL tr n bt fr tm) {a:AV} {v:Value} (ha:(tr 0).ar a v) (d:Option Tmp):cL tr n (gC d bt 0) (mA fr d a) (cu tm d v):=by
 intro t
 have old:=hb t
 cases d with
 | none=>exact old
 | some d =>
  show (bif Nat.beq t d then 0 else bt t)≤n∧(tr (bif Nat.beq t d then 0 else bt t)).ar (bif Nat.beq t d then a else fr t) (((tm.set d v).get t).getD undef)
  rw [Tr.eE,Tr.beq_eq]
  by_cases htd:t=d
  ·rw [if_pos htd,decide_eq_true htd];exact ⟨Nat.zero_le _,ha⟩
  ·rw [if_neg htd,decide_eq_false htd];exact old
theorem yR {ops:Array Oper} {K:(Nat→AV)→Prop}:∀ {ms:List Oper} {fr:Nat→AV},KW T ms fr K →
  ∃ fr',K fr'∧∀ (i:Nat) (evs:List Ev) (s:St),CS fr s.fr→∃ s' evs',s'.hp=s.hp∧s'.rd=s.rd∧(∀ d,(ms.all fun o=>match o.dst with|some d'=>!Nat.beq d' d|none=>true)=true→s'.fr.get d=s.fr.get d) ∧
   (∀ {tr:Nat→bw} {n:Nat} {bt:Nat→Nat},cL tr n bt fr s.fr→cL tr n (Ml ms bt) fr' s'.fr) ∧
   (∀ {tr:Nat→bw} {n:Nat} {acc:List ni},i6 tr n i acc evs→i+ms.length≤n→i6 tr n (i+ms.length) (Mm i ms acc) evs') ∧
   ∀ rec' rest,bh T rec' ops (ms++rest) i s evs=bh T rec' ops rest (i+ms.length) s' evs'
 | [],fr,h=>⟨fr,h,fun i evs s _=>⟨s,evs,rfl,rfl,fun _ _=>rfl,fun h=>h,fun h _=>h,fun _ _=>rfl⟩⟩
 | ⟨dst,op,a1,a2,a3,gd⟩ :: ms,fr,h=>by
  obtain ⟨hgd,hk,hto,v,hv,ho,h⟩:=h
  subst hgd
  obtain ⟨fr',hK,r⟩:=yR (ops:=ops) h
  refine ⟨fr',hK,fun i evs s hfl=>?_⟩
  have hop:=ho (aG s.fr) hfl s.hp.n s.hp.get
  have hd:∀ rec,aW T rec op i s=some (v,s.hp,⟨i,[],[],false,s.hp.n,s.hp.n⟩):=by
   intro rec
   unfold aW
   simp only [hk,hto,hop]
   rfl
  obtain ⟨s',evs',r2,r3,r3',r4,r5,r6⟩:=r (i+1) (⟨⟨dst,op,a1,a2,a3,none⟩,s,v,s.hp,⟨i,[],[],false,s.hp.n,s.hp.n⟩⟩ :: evs) ⟨cu s.fr dst v,s.hp,s.rd⟩ (hfl.put (fun c hc=>by cases hc;rfl) dst)
  refine ⟨s',evs',r2,r3,fun d hd=>?_,fun hb=>r4 (hb.RO (.d (.fl hv)) dst),fun {tr n acc} he hn=>?_,fun rec' rest=>?_⟩
  ·rw [List.all_cons,Bool.and_eq_true] at hd
   rw [r3' d hd.2]
   cases dst with
   | none=>rfl
   | some d' =>
    have hdd:(!Nat.beq d' d)=true:=hd.1
    rw [Tr.beq_eq] at hdd
    show (s.fr.set d' v).get d=_
    rw [Tr.eE,if_neg]
    intro e
    rw [e] at hdd
    simp at hdd
  ·have hn:i+(ms.length+1)≤n:=hn
   show i6 tr n (i+(ms.length+1)) _ evs'
   rw [show i+(ms.length+1)=i+1+ms.length by omega]
   exact r5 (.cons he rfl (by show i+1≤n;omega) (.quiet rfl rfl rfl rfl rfl)) (by omega)
  ·rw [List.cons_append,aJ]
   simp only [aZ,cond_true,hd]
   rw [show i+(⟨dst,op,a1,a2,a3,none⟩ :: ms:List Oper).length=i+1+ms.length by simp;omega]
   exact r6 rec' rest
def KX (T:bz) (tab:List XE) (o1:Oper) (ms:List Oper) (o2:Oper) (i:Nat) (bt:Nat→Nat) (acc:List ni) (fr:Nat→AV) (K:(Nat→Nat)→List ni→(Nat→AV)→Prop):Prop :=
 ∃ f1 args1 d1 f2 args2,o1.guard=none∧o2.guard=none∧cG o1.op=.call f1 args1∧o1.dst=some d1∧cG o2.op=.call f2 (.tmp d1 :: args2)∧(ms.all fun o=>match o.dst with|some d=>!Nat.beq d d1|none=>true)=true ∧
  (NB T.P fr f1).deep=true∧cJ (args1.map (aN fr))=true ∧
   KW T ms (mA fr (some d1) .bM) fun fr'=>(NB T.P fr' f2).deep=true∧cJ (args2.map (aN fr'))=true∧∃ v,CQ T tab (NB T.P fr f1) (args1.map (aN fr)) (NB T.P fr' f2) (args2.map (aN fr')) v ∧
    K (gC o2.dst (Ml ms (gC (some d1) bt 0)) (i+ms.length+2)) (.span (i+ms.length+1) i (i+ms.length+2) :: Mm (i+1) ms (.span i i (i+ms.length+2) :: acc)) (mA fr' o2.dst v)
theorem qk.stay {tr:Nat→bw} {i:Nat} {bt:Nat→Nat} {acc:List ni} {fr:Nat→AV} {s:St} {evs:List Ev} (h:qk T base aE tr i bt acc fr hp s evs):∀ k:Nat,∃ trk:Nat→bw,iW base aE trk (i+k)∧(∀ b,b≤i→trk b=tr b)∧trk (i+k)=tr i∧i6 trk (i+k) i acc evs
 | 0=>⟨tr,h.ht,fun _ _=>rfl,rfl,h.he⟩
 | k+1=>by
  obtain ⟨trk,q1,q2,q3,q4⟩:=h.stay k
  refine ⟨snoc trk (i+k) (tr i),?_,fun b hb=>?_,aY (by omega),q4.snoc (by omega)⟩
  ·exact q1.snoc (h.ht.rel i (Nat.le_refl _)) (by rw [q3];exact .refl)
  ·rw [aU (by omega),q2 b hb]
theorem AD {ops:Array Oper} {o1 o2:Oper} {ms:List Oper} {i:Nat} {bt:Nat→Nat} {acc:List ni} {evs:List Ev} {fr:Nat→AV} {K:(Nat→Nat)→List ni→(Nat→AV)→Prop} {tr:Nat→bw} {s:St}
  (h:KX T tab o1 ms o2 i bt acc fr K) (hw:qk T base aE tr i bt acc fr hp s evs) :
  ∃ (m0:Nat) (bt':Nat→Nat) (acc':List ni) (fr':Nat→AV) (tr':Nat→bw) (s':St) (evs':List Ev),K bt' acc' fr'∧qk T base aE tr' (i+ms.length+2) bt' acc' fr' hp s' evs'∧tr' 0=tr 0∧s'.rd=s.rd ∧
   ∀ m,m0≤m→∀ rest,bh T (RX T tab m) ops (o1 :: (ms++(o2 :: rest))) i s evs=bh T (RX T tab m) ops rest (i+ms.length+2) s' evs':=by
 obtain ⟨f1,args1,d1,f2,args2,g1,g2,k1,e1,k2,hms,hF1,hA1,hmid⟩:=h
 obtain ⟨ht,h1,h2,hb,he⟩:=hw
 have hw:qk T base aE tr i bt acc fr hp s evs:=⟨ht,h1,h2,hb,he⟩
 have hrel:=ht.rel i (Nat.le_refl _)
 have hfr:hG (tr i).E.ρ (tr i).H.get ((tr i).E.O (tr i).hp) fr s.fr:=fun t=>(ht.ext _ i (hb t).1 (Nat.le_refl _)).ar (ht.rel _ (hb t).1).wf (hb t).2
 have hO:∀ k,(tr i).E.O (tr i).hp k→k < s.hp.n:=fun k hk=>by
  have:k < (tr i).H.n:=hk.elim (fun h=>hrel.iV h) (hrel.xn k)
  rw [h2] at this;exact this
 obtain ⟨fr',⟨hF2,hA2,v,hp,hK⟩,hm⟩:=yR (ops:=ops) hmid
 obtain ⟨gl1,q1,m1,w1,H1,q2,hn1,hlo1,hsec⟩:=hp.2 ((tr i).E.O (tr i).hp) s.hp (jd T.P s.fr f1) (args1.map (aG s.fr)) (by rw [←h2];exact hrel.wf) hO (by rw [←h2];exact (pY hfr f1).deep hF1) (by rw [←h2];exact (dF hfr args1).deep hA1)
 have ev1:∀ m,m1≤m→aW T (RX T tab m) o1.op i s=some (w1,{H1 with lo:=s.hp.lo},⟨i,[],[],true,s.hp.n,H1.n⟩):=by
  intro m hm
  unfold aW
  simp only [k1,q1,dm hm _ _ q2]
  rw [k9 (Nat.ble_eq_true_of_le hlo1)]
 obtain ⟨s2,evs2,c1,c2,c3,c4,c5,c6⟩:=hm (i+1) (⟨o1,s,w1,{H1 with lo:=s.hp.lo},⟨i,[],[],true,s.hp.n,H1.n⟩⟩ :: evs) ⟨cu s.fr (some d1) w1,{H1 with lo:=s.hp.lo},s.rd⟩ (hb.flat.put (fun c hc=>by cases hc) (some d1))
 have hb1:=c4 (hb.RO (a:=.bM) (v:=w1) .bM (some d1))
 have hfr2:hG (tr i).E.ρ (tr i).H.get ((tr i).E.O (tr i).hp) fr' s2.fr:=fun t=>(ht.ext _ i (hb1 t).1 (Nat.le_refl _)).ar (ht.rel _ (hb1 t).1).wf (hb1 t).2
 have hget:s2.fr.get d1=some w1:=by
  rw [c3 d1 hms]
  show (s.fr.set d1 w1).get d1=_
  rw [Tr.eE,if_pos rfl]
 obtain ⟨gl2,q3,m2,w2,H2,q4,hn2,hwf2,hsame,hlo2,hdr⟩:=hsec (jd T.P s2.fr f2) (args2.map (aG s2.fr)) (by rw [←h2];exact (pY hfr2 f2).deep hF2) (by rw [←h2];exact (dF hfr2 args2).deep hA2)
 have ev2:∀ m,m2≤m→aW T (RX T tab m) o2.op (i+1+ms.length) s2=some (w2,{H2 with lo:=bif Nat.ble H1.n H2.lo then s.hp.lo else min s.hp.lo H2.lo},⟨i+1+ms.length,[],K3 H1.n H2.lo,true,H1.n,H2.n⟩):=by
  intro m hm
  unfold aW
  have e:(Operand.tmp d1 :: args2).map (aG s2.fr)=w1 :: args2.map (aG s2.fr):=by
   rw [List.map_cons]
   congr 1
   show (s2.fr.get d1).getD undef=w1
   rw [hget];rfl
  simp only [k2,e,q3,c1]
  rw [dm hm _ _ q4]
  show some (ij (i+1+ms.length) s2 w2 H2)=_
  unfold ij
  rw [c1]
 have lob:min s.hp.lo base≤(bif Nat.ble H1.n H2.lo then s.hp.lo else min s.hp.lo H2.lo):=by
  have hbn:base≤s.hp.n:=by rw [←h2];exact hrel.bn
  cases Nat.ble H1.n H2.lo with
  | true=>exact Nat.min_le_left _ _
  | false =>
   show min s.hp.lo base≤min s.hp.lo H2.lo
   omega
 obtain ⟨p1,p2⟩:=hrel.grow (H':={H2 with lo:=bif Nat.ble H1.n H2.lo then s.hp.lo else min s.hp.lo H2.lo}) (by rw [h2];show s.hp.n≤H2.n;omega) hwf2 (fun k hk=>by
  have:=hsame k (by rw [←h2];exact hk)
  rw [h2];exact this) (by rw [h2];exact lob)
 obtain ⟨trk,t1,t2,t3,t4⟩:=hw.stay (ms.length+1)
 let z:bw:=⟨(tr i).E,(tr i).hp,{H2 with lo:=bif Nat.ble H1.n H2.lo then s.hp.lo else min s.hp.lo H2.lo}⟩
 have z0:∀ b,b≤i→snoc trk (i+(ms.length+1)) z b=tr b:=fun b hb=>by rw [aU (by omega),t2 b hb]
 have zn:snoc trk (i+(ms.length+1)) z (i+ms.length+2)=z:=aY (by omega)
 have hb2:cL (snoc trk (i+(ms.length+1)) z) (i+ms.length+2) (Ml ms (gC (some d1) bt 0)) fr' s2.fr:=fun t=>by
  obtain ⟨x1,x2⟩:=hb1 t
  exact ⟨by omega,by rw [z0 _ x1];exact x2⟩
 have he1:i6 (snoc trk (i+(ms.length+1)) z) (i+ms.length+2) (i+1+ms.length) (Mm (i+1) ms (.span i i (i+ms.length+2) :: acc)) evs2:=by
  refine c5 ?_ (by omega)
  refine .cons (t4.snoc (by omega)) rfl (by show max (i+1) (i+ms.length+2)≤_;omega) (.span rfl rfl rfl (Nat.le_refl _) (fun k hk=>by cases hk) ?_ ?_)
  ·rw [z0 i (Nat.le_refl _),h2]
   exact Nat.le_refl _
  ·rw [zn]
   exact hn2
 refine ⟨max m1 m2,_,_,_,snoc trk (i+(ms.length+1)) z,⟨cu s2.fr o2.dst w2,{H2 with lo:=bif Nat.ble H1.n H2.lo then s.hp.lo else min s.hp.lo H2.lo},s2.rd⟩,⟨o2,s2,w2,{H2 with lo:=bif Nat.ble H1.n H2.lo then s.hp.lo else min s.hp.lo H2.lo},⟨i+1+ms.length,[],K3 H1.n H2.lo,true,H1.n,H2.n⟩⟩ :: evs2,hK,⟨?_,?_,?_,?_,?_⟩,?_,?_,?_⟩
 ·exact t1.snoc p1 (by rw [t3];exact p2)
 ·rw [zn];exact h1
 ·rw [zn]
 ·intro t
  have old:=hb2 t
  cases hd:o2.dst with
  | none=>exact old
  | some d =>
   show (bif Nat.beq t d then i+ms.length+2 else _)≤_∧(snoc trk (i+(ms.length+1)) z (bif Nat.beq t d then i+ms.length+2 else _)).ar (bif Nat.beq t d then v else fr' t) (((s2.fr.set d w2).get t).getD undef)
   rw [Tr.eE,Tr.beq_eq]
   by_cases htd:t=d
   ·rw [if_pos htd,decide_eq_true htd]
    refine ⟨Nat.le_refl _,?_⟩
    show (snoc trk (i+(ms.length+1)) z (i+ms.length+2)).ar v w2
    rw [zn]
    exact .d hdr
   ·rw [if_neg htd,decide_eq_false htd];exact old
 ·have he2:=he1
  rw [show i+1+ms.length=i+ms.length+1 by omega] at he2
  refine .cons he2 rfl (by show max (i+ms.length+1+1) (i+ms.length+2)≤_;omega) (.span (by show i+1+ms.length=_;omega) rfl rfl (by omega) (fun k hk=>?_) ?_ ?_)
  ·rw [z0 i (Nat.le_refl _),h2]
   have hk:k ∈ K3 H1.n H2.lo:=hk
   unfold K3 at hk
   cases hc:Nat.ble H1.n H2.lo with
   | true=>rw [hc] at hk;cases hk
   | false =>
    rw [hc] at hk
    have hk:k ∈ List.range' H2.lo (H1.n - H2.lo):=hk
    have:=(List.mem_range'_1.1 hk).1
    omega
  ·rw [z0 i (Nat.le_refl _),h2]
   exact hn1
  ·rw [zn]
   exact Nat.le_refl _
 ·rw [z0 0 (Nat.zero_le _)]
 ·exact c2
 ·intro m hm rest
  rw [aJ,g1]
  simp only [aZ,cond_true,ev1 m (by omega),e1]
  have:=c6 (RX T tab m) (o2 :: rest)
  rw [this,aJ,g2]
  simp only [aZ,cond_true,ev2 m (by omega)]
  rw [show i+1+ms.length+1=i+ms.length+2 by omega]
theorem aA.pair {id n:Nat} {mu:Tmp→Bool} {l A B ms:List Oper} {o1 o2:Oper} {st:bK} {K:Exit→bK→Prop} (ht:eA l.toArray=n) (hn:l.length=n) (hl:l=A++(o1 :: (ms++(o2 :: B))))
  (h:mR T tab mu l.toArray st.aE st.rd st.fl A 0 (fun _=>0) [] st.fr st.hp fun i bt acc fr hp=>KX T tab o1 ms o2 i bt acc fr fun bt acc fr =>
   mR T tab mu l.toArray st.aE st.rd st.fl B (i+ms.length+2) bt acc fr hp fun _ _ acc fr hp=>Mk (ql l.toArray) acc=true∧K .normal ⟨fr,hp,st.aE,st.rd,st.fl⟩):aA T tab one (.region id l.toArray true) st K:=by
 intro E base s hs
 obtain ⟨m1,i1,bt1,qZ,fr1,hp1,tr1,s1,evs1,h,w1,z1,r1,x1⟩:=kX (base:=base) (tr:=fun _=>⟨E,st.hp,s.hp⟩) (evs:=[]) h ⟨⟨fun _ _=>hs.h,fun _ _ _ _=>.refl⟩,rfl,rfl,fun t=>⟨Nat.le_refl _,hs.fr t⟩,.nil⟩
 obtain ⟨m2,bt2,acc2,fr2,tr2,s2,evs2,h,w2,z2,r2,x2⟩:=AD (ops:=l.toArray) h w1
 obtain ⟨m3,i3,bt3,acc3,fr3,hp3,tr3,s3,evs3,⟨hc,h⟩,w3,z3,r3,x3⟩:=kX h w2
 have hd:cC T l.toArray evs3=true:=by
  unfold cC
  cases (evs3.all fun e=>e.t.wr.isEmpty && Nat.beq e.t.a e.t.b) with
  | true=>rfl
  | false=>exact w3.he.pairs w3.ht hc
 have run:∀ m,max m1 (max m2 m3)≤m→bh T (RX T tab m) l.toArray l 0 s []=some [s3]:=by
  intro m hm
  have y1:=x1 m (by omega) (o1 :: (ms++(o2 :: B)))
  have y3:=x3 m (by omega) []
  rw [List.append_nil] at y3
  conv=>lhs;arg 4;rw [hl]
  rw [y1,x2 m (by omega),y3,cV,hd]
  rfl
 have hrel:=w3.ht.rel i3 (Nat.le_refl _)
 have hext:=w3.ht.ext 0 i3 (Nat.zero_le _) (Nat.le_refl _)
 rw [z3,z2,z1] at hext
 rw [w3.h1,w3.h2] at hrel
 have hext:Ext base E st.hp s.hp (tr3 i3).E hp3 s3.hp:=by
  have:=hext
  rw [w3.h1,w3.h2] at this
  exact this
 refine ⟨max m1 (max m2 m3),[(.normal,s3)],?_,.single ⟨(tr3 i3).E,_,h,rfl,⟨hrel,by rw [r3,r2,r1];exact hs.rd,fun t=>?_⟩,hext.DG⟩⟩
 ·rw [bQ]
  have hr:=run _ (Nat.le_refl _)
  have:bE T (RX T tab (max m1 (max m2 m3))) l.toArray s=some [s3]:=by
   cases hnd:qp l.toArray with
   | none =>
    unfold bE
    simp only [hnd,ht]
    rw [←hn,List.take_length,hr,List.drop_length]
    rfl
   | some c=>exact kq (by rw [ht,hn]) hr
  simp only [cond_true,this,List.map_cons,List.map_nil]
 ·have:=(w3.ht.ext _ i3 (w3.hb t).1 (Nat.le_refl _)).ar (w3.ht.rel _ (w3.hb t).1).wf (w3.hb t).2
  rw [←w3.h1,←w3.h2]
  exact this
theorem SM {mu:Tmp→Bool} {ops:Array Oper} {rd:Bool} {i:Nat} {bt:Nat→Nat} {acc:List ni} {fr:Nat→AV} {K:Nat→(Nat→Nat)→List ni→(Nat→AV)→List AB→Prop} (h:K i bt acc fr hp):mR T tab mu ops aE rd fl [] i bt acc fr hp K:=h
theorem SN {mu:Tmp→Bool} {ops:Array Oper} {rd:Bool} {dst:Option Tmp} {op:Op} {a1 a2 a3} {l:List Oper} {i:Nat} {bt:Nat→Nat} {acc:List ni} {fr:Nat→AV} {K:Nat→(Nat→Nat)→List ni→(Nat→AV)→List AB→Prop}
 (h:eC T tab mu dst op i bt fr hp fun fr' hp' bt' x=>(Aw op || x.acc.all fun p=>p.wr || p.own.isNone)=true∧mR T tab mu ops aE rd fl l (i+1) bt' (.pl x :: acc) fr' hp' K) :
 mR T tab mu ops aE rd fl (⟨dst,op,a1,a2,a3,none⟩ :: l) i bt acc fr hp K:=⟨rfl,h⟩
end
section
variable {T : bz} {tab : List XE} {one : Bool}
theorem ah.P9 {F a b x y:AV} {args:List AV} {hp1:List AB} (hv:cJ [x,y]=true) (h:av T tab one F args [] bG.none fun w hp _=>w=.tp [a,b]∧hp=hp1) (hz:nk hp1 [a,b] [x,y]):ah T tab one F args (.tp [x,y]):=by
 refine ⟨hv,fun X H u us hwf hX d1 d2=>?_⟩
 let E:Env:=⟨fun _ _=>none,fun _=>False,fun _=>False,X⟩
 have hno:∀ k,¬ Own E.ρ [] k:=fun k ⟨j,b,aB,h,_⟩=>by cases h
 have hO:∀ k,E.O [] k→X k:=fun k h=>h.elim (fun h=>(hno k h).elim) id
 have hrel:aQ E H.n [] bG.none H :=
  {wf:=hwf,fU:=fun j b aB h _=>(by cases h),inj:=fun j j' aB ver' k h=>(by cases h),rn:=fun j v k h=>(by cases h),fresh:=fun j b aB v h=>(by cases h),new:=fun _ _ _=>rfl,
   sup:=fun k h=>(hno k h).elim,gZ:=fun k h=>(hno k h).elim,dx:=fun k h=>h.elim,ds:=fun k h=>h.elim,sn:=fun k h=>h.elim,xn:=hX,
   nJ:=fun k h=>h.elim (fun h=>(hno k h).elim) (fun h=>h.elim),bn:=Nat.le_refl _,aE:=trivial}
 have up:∀ {a:AV} {u:Value},DR H.get X a u→AR E.ρ H.get (E.O []) a u:=fun h=>.d (h.mono fun k b hk ho=>⟨hk,fun h=>ho (hO k h)⟩)
 obtain ⟨g1,hg1,m1,L1,r1,r2,r3⟩:=h E H.n H u us hrel (up d1) ⟨d2.1,fun i a u x y=>up (d2.2 i a u x y)⟩
 refine ⟨g1,hg1,m1,L1,r1,r2,fun r hr=>?_⟩
 obtain ⟨w1,H1,rfl,E1,a1,hq,amb1,⟨rfl,rfl⟩,k1,k2,k3⟩:=r3 r hr
 obtain ⟨us',rfl,hus⟩:=k2.sB
 have hd:=hz.dr k1 (fun k hk=>k3.xk k hk) hus
 exact ⟨_,H1,rfl,k3.n,k1.wf,fun k hk=>k3.same k hk (hno k) (fun h=>h),k3.lo,.tp hd.1 hd.2⟩
end
end Go.RM
