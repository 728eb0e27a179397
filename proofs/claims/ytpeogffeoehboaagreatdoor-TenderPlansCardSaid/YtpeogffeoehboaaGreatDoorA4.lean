/-
  A layer of contracts over the abstract machine. Lemmas alone; no condition.
-/
import Derived.Test.YtpeogffeoehboaaGreatDoorA3
namespace Go.RM
open Go
section
variable {T : bJ} {tab : List XE} {one : Bool} {fl base : Nat} {E E' E2 : Env} {hp hp' hp2 : List AB} {aE amb' : bA} {H H' H2 : Hp} {ρ ρ2 : Nat → Nat → Option Nat} {g g2 : aH} {O O2 : Nat → Prop}
def xq (i:Nat) (p q:Acc):Bool :=
 (!p.wr && !q.wr) || (match p.own,q.own with
  | some j,some j'=>!Nat.beq j j'
  | some _,none=>Nat.ble q.b i
  | none,some _=>!p.wr
  | none,none=>false)
theorem Ds {tr:Nat→bC} {n:Nat} (ht:ji base aE tr n) {i l:Nat} (hil:i < l) (hl:l≤n) {p q:Acc} {k:Nat} (hp:dV tr i p k) (hpo:p.own.isSome=true→Own (tr i).E.ρ (tr i).hp k) (hq:dV tr l q k) (hw:p.wr=true∨q.wr=true) (hf:xq i p q=true):False:=by
 by_cases h:pZ i p q=true
 ·exact qV ht hil hl hp hq hw h
 ·obtain ⟨p1,p2,p3⟩:=hp;obtain ⟨q1,q2,q3⟩:=hq;have back:∀ {b c:Nat},b≤c→c≤n→Own (tr c).E.ρ (tr c).hp k→k < (tr b).H.n→Own (tr b).E.ρ (tr b).hp k:=fun hbc hcn ho hk=>((ht.ext _ _ hbc hcn).own k ho).elim id (fun h=>by omega);unfold xq at hf;unfold pZ at h;rw [Bool.or_eq_true] at hf;rw [Bool.or_eq_true,not_or] at h
  rcases hf with hf|hf
  ·exact h.1 hf
  ·cases hpo':p.own with
   | some j =>
    rw [hpo'] at hf h hpo
    cases hqo:q.own with
    | some j'=>rw [hqo] at hf h;exact h.2 hf
    | none =>rw [hqo] at hf q3;have hb:=Nat.le_of_ble_eq_true hf;exact q3 (.inl (back hb (by omega) (hpo rfl) q2))
   | none =>
    rw [hpo'] at hf h
    cases hqo:q.own with
    | some j'=>rw [hqo] at hf h;exact h.2 hf
    | none=>rw [hqo] at hf;cases hf
theorem Dt {tr:Nat→bC} {i:Nat} (ht:ji base aE tr i) {bt:Nat→Nat} {fr:Nat→AV} {tm:Tr Value} (hb:cX tr i bt fr tm) {own:Bool} {o:Op} {l:List Acc} (hro:(yE o || l.all fun p=>p.wr || p.own.isNone)=true) (h:EI o fr (ny bt)=some l)
  {K:AV→List AB→Prop} (hw:wpOp T own o fr (tr i).hp K) {r w:List Nat} (hto:iA o (aF tm)=some (r,w)):∀ k ∈ r,∃ p ∈ l,p.wr=false∧dV tr i p k∧(p.own.isSome=true→Own (tr i).E.ρ (tr i).hp k):=by
 rw [Bool.or_eq_true] at hro
 rcases hro with hro|hro
 ·exact Nx ht hb hro h hw hto
 ·intro k hk;obtain ⟨r',w',e1,e2,_⟩:=qb ht hb h hw;rw [hto] at e1;simp only [qq9,Prod.mk.injEq] at e1;obtain ⟨rfl,rfl⟩:=e1;obtain ⟨p,p1,p2,p3⟩:=e2 k hk;refine ⟨p,p1,p2,p3,fun ho=>?_⟩;have:=List.all_eq_true.1 hro p p1;rw [p2,Bool.false_or] at this
  cases hpo:p.own with
  | none=>rw [hpo] at ho;cases ho
  | some j=>rw [hpo] at this;cases this
def sO (x y:hU):Bool :=
 x.acc.all (fun p=>y.acc.all (xq x.i p)) && ((!x.al && !x.call) || y.acc.all (fun q=>Nat.ble q.b x.i || (x.call && q.own.isSome))) && (!x.call || y.acc.all (fun q=>!q.wr)) && (!y.call || x.acc.all (fun p=>!p.wr))
def Ny (b:List Nat):List hU→Bool
 | []=>true
 | y :: l=>l.all (fun x=>(b.getD y.i 0).testBit x.i || sO x y) && Ny b l
theorem xu {tr:Nat→bC} {n:Nat} (ht:ji base aE tr n) {x y:hU} {s t:Tc} (hs:oY tr x s) (hy:oY tr y t) (hxy:x.i < y.i) (hn:y.i≤n) (hf:sO x y=true):conflict s t=false:=by
 cases hc:conflict s t with
 | false=>rfl
 | true =>
  exfalso;unfold sO at hf;simp only [qq7,List.all_eq_true,Bool.or_eq_true,Bool.not_eq_true'] at hf;obtain ⟨⟨⟨f1,f2⟩,f3⟩,f4⟩:=hf;have two:∀ {k:Nat} {p q:Acc},p ∈ x.acc→q ∈ y.acc→dV tr x.i p k→dV tr y.i q k→(p.own.isSome=true→Own (tr x.i).E.ρ (tr x.i).hp k)→(p.wr=true∨q.wr=true)→False:=fun hp hq ap aq ho hw=>Ds ht hxy hn ap ho aq hw (f1 _ hp _ hq)
  have inn:∀ {k:Nat} {q:Acc},q ∈ y.acc→dV tr y.i q k→(q.own.isSome=true→Own (tr y.i).E.ρ (tr y.i).hp k)→s.a≤k→k < s.b→False:=by
   intro k q hq aq lq h1 h2
   rcases f2 with h|h
   ·have:=hs.ev.al h.1 h.2;omega
   ·rcases h q hq with h|⟨hcl,hos⟩
    ·have:=Nat.le_of_ble_eq_true h;have:=(ht.ext q.b x.i this (by omega)).n;have:=aq.2.1;rw [hs.ev.a] at h1;omega
    ·have hk:=hs.keep hcl;rw [hs.ev.b] at h2;rw [hs.ev.a] at h1
     rcases (ht.ext (x.i+1) y.i (by omega) hn).own k (lq hos) with h|h
     ·rw [hk.1,hk.2] at h;have:=(ht.rel x.i (by omega)).iE h;omega
     ·omega
  have out:∀ {k:Nat} {p:Acc},dV tr x.i p k→t.a≤k→False:=by intro k p ap h1;have:=(ht.ext p.b x.i ap.1 (by omega)).n;have:=(ht.ext x.i y.i (by omega) hn).n;have:=ap.2.1;rw [hy.ev.a] at h1;omega
  unfold conflict at hc;simp only [Bool.or_eq_true,qq7,Bool.not_eq_true'] at hc
  rcases hc with (((((((hc|hc)|hc)|hc)|hc)|hc)|hc)|hc)|hc
  ·obtain ⟨k,k1,k2⟩:=eG.1 hc;obtain ⟨p,p1,p2,p3⟩:=hs.ev.wr k k1;obtain ⟨q,q1,q2,q3⟩:=hy.ev.rd k k2;exact two p1 q1 p3 q3 (fun ho=>p3.GB ho p2) (.inl p2)
  ·obtain ⟨k,k1,k2⟩:=eG.1 hc;obtain ⟨p,p1,p2,p3⟩:=hs.ev.wr k k1;obtain ⟨q,q1,q2,q3⟩:=hy.ev.wr k k2;exact two p1 q1 p3 q3 (fun ho=>p3.GB ho p2) (.inl p2)
  ·obtain ⟨k,k1,k2⟩:=eG.1 hc;obtain ⟨q,q1,q2,q3⟩:=hy.ev.wr k k1;obtain ⟨p,p1,p2,p3,p4⟩:=hs.S6 k k2;exact two p1 q1 p3 q3 p4 (.inr q2)
  ·rw [hs.ev.call] at hc
   cases hw:t.wr with
   | nil=>rw [hw] at hc;simp at hc
   | cons k l =>
    obtain ⟨q,q1,q2,q3⟩:=hy.ev.wr k (by rw [hw];simp)
    rcases f3 with h|h
    ·rw [hc.1] at h;cases h
    ·rw [h q q1] at q2;cases q2
  ·rw [hy.ev.call] at hc
   cases hw:s.wr with
   | nil=>rw [hw] at hc;simp at hc
   | cons k l =>
    obtain ⟨p,p1,p2,p3⟩:=hs.ev.wr k (by rw [hw];simp)
    rcases f4 with h|h
    ·rw [hc.1] at h;cases h
    ·rw [h p p1] at p2;cases p2
  ·obtain ⟨k,k1,k2,k3⟩:=within_iff.1 hc;obtain ⟨q,q1,q2,q3,q4⟩:=hy.S6 k k1;exact inn q1 q3 q4 k2 k3
  ·obtain ⟨k,k1,k2,k3⟩:=within_iff.1 hc;obtain ⟨q,q1,q2,q3⟩:=hy.ev.wr k k1;exact inn q1 q3 (fun ho=>q3.GB ho q2) k2 k3
  ·obtain ⟨k,k1,k2,k3⟩:=within_iff.1 hc;obtain ⟨p,p1,p2,p3⟩:=hs.ev.rd k k1;exact out p3 k2
  ·obtain ⟨k,k1,k2,k3⟩:=within_iff.1 hc;obtain ⟨p,p1,p2,p3⟩:=hs.ev.wr k k1;exact out p3 k2
inductive oe (tr:Nat→bC):Nat→List hU→List Ev→Prop
 | nil:oe tr 0 [] []
 | cons {i:Nat} {x:hU} {ev:Ev} {l:List hU} {m:List Ev}:oe tr i l m→x.i=i→oY tr x ev.t→oe tr (i+1) (x :: l) (ev :: m)
theorem oe.lt {tr:Nat→bC} {i:Nat} {l:List hU} {m:List Ev} (h:oe tr i l m):∀ x ∈ l,x.i < i:=by
 induction h with
 | nil=>intro x hx;cases hx
 | cons _ hi _ ih =>
  intro y hy
  rcases List.mem_cons.1 hy with rfl|hy
  ·omega
  ·have:=ih y hy;omega
theorem oe.snoc {tr:Nat→bC} {i:Nat} {z:bC} {l:List hU} {m:List Ev}:∀ {j:Nat},oe tr j l m→j≤i→oe (snoc tr i z) j l m:=by
 intro j h
 induction h with
 | nil=>intro _;exact .nil
 | cons _ hi he ih=>intro hj;exact .cons (ih (by omega)) hi (he.snoc (by omega))
theorem oe.pairs {tr:Nat→bC} {n:Nat} (ht:ji base aE tr n) {b:List Nat} {i:Nat} {l:List hU} {m:List Ev} (h:oe tr i l m):i≤n→Ny b l=true→bT T b m=true:=by
 induction h with
 | nil=>intro _ _;rfl
 | cons hl hi he ih =>
  rename_i i y ev l m;intro hn hc;simp only [Ny,qq7,List.all_eq_true] at hc;simp only [bT,qq7,List.all_eq_true];refine ⟨?_,ih (by omega) hc.2⟩;have hc1:=hc.1;clear ih hc
  have key:∀ {j:Nat} {l:List hU} {m:List Ev},oe tr j l m→(∀ x ∈ l,(b.getD y.i 0).testBit x.i=true∨sO x y=true)→j≤y.i→∀ s ∈ m,(!conflict s.t ev.t || (b.getD ev.t.idx 0).testBit s.t.idx || spare T s ev)=true:=by
   intro j l m h
   induction h with
   | nil=>intro _ _ s hs;cases hs
   | cons hl' hi' he' ih' =>
    rename_i x ev' _ _;intro hx hj s hs
    rcases List.mem_cons.1 hs with rfl|hs
    ·rcases hx x (by simp) with h|h
     ·rw [he.ev.idx,he'.ev.idx,h];simp
     ·rw [xu ht he' he (by omega) (by omega) h];simp
    ·exact ih' (fun z hz=>hx z (List.mem_cons_of_mem _ hz)) (by omega) s hs
  exact key hl (fun x hx=>by simpa using hc1 x hx) (by omega)
def fU (T:bJ) (tab:List XE) (mu:Tmp→Bool) (ops:Array Oper):List Oper→Nat→(Nat→Nat)→List hU→bU→(bU→Prop)→Prop
 | [],_,_,acc,st,K=>Ny (pM ops) acc=true∧K st
 | ⟨dst,op,_,_,_,gd⟩ :: l,i,bt,acc,⟨fr,hp,aE,rd,fl⟩,K =>
  cW ops.toList gd fr (eD T tab mu dst op i bt fr hp fun fr' hp' bt' x=>(yE op || x.acc.all fun p=>p.wr || p.own.isNone)=true∧fU T tab mu ops l (i+1) bt' (x :: acc) ⟨fr',hp',aE,rd,fl⟩ K)
   (fK dst fr (.tp []) fun fr'=>fU T tab mu ops l (i+1) (gL dst bt 0) (⟨i,[],false,false⟩ :: acc) ⟨fr',hp,aE,rd,fl⟩ K) ∨
  (gd=none∧∃ t x hi mx els f inf,op=.slice t x none (some hi) (some mx)∧aN fr x=.sl els f∧aN fr hi=.fl (.int .i64 (els.length:Int))∧aN fr mx=.fl (.int .i64 (els.length:Int))∧elem? T t=some inf∧1≤inf.size∧(∀ el ∈ els,el.length=inf.size) ∧
   fK dst fr (.sl els true) fun fr'=>fU T tab mu ops l (i+1) (gL dst bt (ny bt x)) (⟨i,[],false,false⟩ :: acc) ⟨fr',hp,aE,rd,fl⟩ K)
theorem HM {t:TypeId} {u:Value} {els:List (List AV)} {f:Bool} {inf:rB} (hx:AR E.ρ H.get (E.O hp) (.sl els f) u) (hi:elem? T t=some inf) (h1:1≤inf.size) (hel:∀ el ∈ els,el.length=inf.size) :
  ∃ v,fF T t u none (.int .i64 (els.length:Int)) (.int .i64 (els.length:Int))=some v∧AR E.ρ H.get (E.O hp) (.sl els true) v:=by
 have n1:iN (.int .i64 (els.length:Int))=some els.length:=by show (bif decide ((els.length:Int) < 0) then none else some (els.length:Int).toNat)=_;rw [decide_eq_false (by omega)];rfl
 cases hx.jg with
 | nil =>refine ⟨.slice none 0 0,?_,.d .nil⟩;unfold fF;simp only [hi,cN,n1];rw [show Nat.ble 1 inf.size=true from Nat.ble_eq_true_of_le h1];rfl
 | sl q1 q2 q3 q4 q5 q6 q7 =>rename_i k o n c es cs own e;subst q4;refine ⟨.slice (some ⟨k,o,none⟩) els.length els.length,?_,.d (.sl q1 q2 q3 rfl q5 q6 fun _=>rfl)⟩;unfold fF;simp only [hi,cN,n1];rw [show Nat.ble 1 inf.size=true from Nat.ble_eq_true_of_le h1,show Nat.ble 0 els.length=true from Nat.ble_eq_true_of_le (qq5 _),show Nat.ble els.length els.length=true from Nat.ble_eq_true_of_le (qq6 _),Nat.beq_refl];simp only [Bool.and_self,cond_true,Nat.zero_mul,Nat.add_zero,Nat.sub_zero]
theorem jr {mu:Tmp→Bool} {ops:Array Oper}:∀ {l:List Oper} {i:Nat} {bt:Nat→Nat} {acc:List hU} {evs:List Ev} {st:bU} {K:bU→Prop} {tr:Nat→bC} {s:St},fU T tab mu ops l i bt acc st K →
  ji base st.aE tr i→(tr i).hp=st.hp→(tr i).H=s.hp→s.rd=st.rd→cX tr i bt st.fr s.fr→oe tr i acc evs →
  ∃ m s',bh T (RX T tab m) ops l i s evs=some [s']∧∃ E' st',K st'∧st'.fl=st.fl∧kZ E' base st' s'∧Ext base (tr 0).E (tr 0).hp (tr 0).H E' st'.hp s'.hp
 | [],i,bt,acc,evs,st,K,tr,s,h,ht,h1,h2,h3,hb,he=>by
  obtain ⟨hc,hk⟩:=h;have hrel:=ht.rel i (qq6 _)
  have hok:cA T ops evs=true:=by
   unfold cA
   cases hq:(evs.all fun e=>e.t.wr.isEmpty && Nat.beq e.t.a e.t.b) with
   | true=>rfl
   | false=>exact he.pairs ht (qq6 _) hc
  refine ⟨0,s,by rw [cU,hok];rfl,(tr i).E,st,hk,rfl,⟨by rw [←h1,←h2];exact hrel,h3,fun t=>?_⟩,by rw [←h1,←h2];exact ht.ext 0 i (qq5 _) (qq6 _)⟩;have:=(ht.ext _ i (hb t).1 (qq6 _)).ar (ht.rel _ (hb t).1).wf (hb t).2;rw [←h1,←h2];exact this
 | o :: l,i,bt,acc,evs,st,K,tr,s,h,ht,h1,h2,h3,hb,he=>by
  have h:cW ops.toList o.guard st.fr (eD T tab mu o.dst o.op i bt st.fr st.hp fun fr' hp' bt' x=>(yE o.op || x.acc.all fun p=>p.wr || p.own.isNone)=true∧fU T tab mu ops l (i+1) bt' (x :: acc) ⟨fr',hp',st.aE,st.rd,st.fl⟩ K)
   (fK o.dst st.fr (.tp []) fun fr'=>fU T tab mu ops l (i+1) (gL o.dst bt 0) (⟨i,[],false,false⟩ :: acc) ⟨fr',st.hp,st.aE,st.rd,st.fl⟩ K) ∨
   (o.guard=none∧∃ t x hi mx els f inf,o.op=.slice t x none (some hi) (some mx)∧aN st.fr x=.sl els f∧aN st.fr hi=.fl (.int .i64 (els.length:Int))∧aN st.fr mx=.fl (.int .i64 (els.length:Int))∧elem? T t=some inf∧1≤inf.size∧(∀ el ∈ els,el.length=inf.size) ∧
    fK o.dst st.fr (.sl els true) fun fr'=>fU T tab mu ops l (i+1) (gL o.dst bt (ny bt x)) (⟨i,[],false,false⟩ :: acc) ⟨fr',st.hp,st.aE,st.rd,st.fl⟩ K):=h
  have hrel:=ht.rel i (qq6 _);have hfr:iF (tr i).E.ρ (tr i).H.get ((tr i).E.O (tr i).hp) st.fr s.fr:=fun t=>(ht.ext _ i (hb t).1 (qq6 _)).ar (ht.rel _ (hb t).1).wf (hb t).2;have hz0:(snoc tr i (tr i) 0)=tr 0:=aS (qq5 _)
  rcases h with h|⟨hgd,t,x,hi,mx,els,f,inf,hop,hx,hhi,hmx,hinf,h1s,hel,h⟩
  rotate_left
  ·have hbx:=hb.eval x;rw [hx] at hbx;have hfx:(tr (ny bt x)).ar (.sl els f) (aF s.fr x):=hbx.2;obtain ⟨v,hv1,hv2⟩:=HM (T:=T) (t:=t) hfx hinf h1s hel;have e1:aF s.fr hi=.int .i64 (els.length:Int):=by have:=gh hfr hi;rw [hhi] at this;exact this.dW.1
   have e2:aF s.fr mx=.int .i64 (els.length:Int):=by have:=gh hfr mx;rw [hmx] at this;exact this.dW.1
   have hd:∀ m,aP T (RX T tab m) o.op i s=some (v,s.hp,⟨i,[],[],false,s.hp.n,s.hp.n⟩):=by
    intro m;unfold aP;rw [hop];have:gX T s.hp.n (.slice t x none (some hi) (some mx)) (aF s.fr) s.hp.get=some (v,.none):=by show (fF T t (aF s.fr x) none (aF s.fr hi) (aF s.fr mx)).map (fun v=>(v,bS.none))=_;rw [e1,e2,hv1];rfl
    show (match iA (.slice t x none (some hi) (some mx)) (aF s.fr),gX T s.hp.n (.slice t x none (some hi) (some mx)) (aF s.fr) s.hp.get with
     | some (r,w),some (v,e)=>some (v,s.hp.app e,(⟨i,r,w,false,s.hp.n,(s.hp.app e).n⟩:Tc))
     | _,_=>none)=_
    rw [this];rfl
   obtain ⟨m,s',r1,r2⟩:=jr (s:=⟨cD s.fr o.dst v,s.hp,s.rd⟩) (evs:=⟨o,s,v,s.hp,⟨i,[],[],false,s.hp.n,s.hp.n⟩⟩ :: evs) (bQ h) (ht.snoc (z:=tr i) hrel .refl) (by rw [aU (Nat.lt_succ_self _)];exact h1) (by rw [aU (Nat.lt_succ_self _)];exact h2) h3
    (hb.put (show ny bt x≤i+1 by have:=hbx.1;omega) (by rw [aS hbx.1];exact hv2) o.dst) (.cons (he.snoc (qq6 _)) rfl ⟨⟨rfl,by rw [aS (qq6 _),h2],by rw [aU (Nat.lt_succ_self _),h2],fun _ _=>rfl,rfl,fun k hk=>(by cases hk),fun k hk=>(by cases hk)⟩,fun k hk=>(by cases hk),fun h=>Bool.noConfusion h⟩)
   have hz0:(snoc tr i (tr i) 0)=tr 0:=aS (qq5 _);rw [hz0] at r2;refine ⟨m,s',?_,r2⟩;rw [aM,show aY ops.toList s.fr o.guard=true by rw [hgd];rfl];simp only [cond_true,hd];exact r1
  rcases oV hfr h with ⟨hg,h⟩|⟨hg,h⟩
  ·
   have go:∀ (z:bC) (v:AV) (u:Value) (b:Nat) (x:hU) (t:Tc) (m0:Nat),aR z.E base z.hp st.aE z.H→Ext base (tr i).E (tr i).hp (tr i).H z.E z.hp z.H→b≤i+1→(snoc tr i z b).ar v u→x.i=i→oY (snoc tr i z) x t →
     (∀ m,m0≤m→aP T (RX T tab m) o.op i s=some (u,z.H,t))→fU T tab mu ops l (i+1) (gL o.dst bt b) (x :: acc) ⟨kY st.fr o.dst v,z.hp,st.aE,st.rd,st.fl⟩ K →
     ∃ m s',bh T (RX T tab m) ops (o :: l) i s evs=some [s']∧∃ E' st',K st'∧st'.fl=st.fl∧kZ E' base st' s'∧Ext base (tr 0).E (tr 0).hp (tr 0).H E' st'.hp s'.hp:=by
    intro z v u b x t m0 hz he' hbi hv hxi hx hd hw;obtain ⟨m,s',r1,r2⟩:=jr (s:=⟨cD s.fr o.dst u,z.H,s.rd⟩) (evs:=⟨o,s,u,z.H,t⟩ :: evs) hw (ht.snoc hz he') (by rw [aU (Nat.lt_succ_self _)]) (by rw [aU (Nat.lt_succ_self _)]) h3 (hb.put hbi hv o.dst) (.cons (he.snoc (qq6 _)) hxi hx);rw [aS (qq5 _)] at r2;refine ⟨max m0 m,s',?_,r2⟩;rw [aM,hg];simp only [cond_true,hd _ (Nat.le_max_left _ _)];exact fC (dj (Nat.le_max_right _ _)) _ _ _ _ _ _ r1
   unfold eD at h;split at h
   ·rename_i f args hk;have h:=eJ (bf h);obtain ⟨hF,vs,v,hhand,⟨hvd,hpure⟩,h⟩:=h;have hF':=(nx hfr f).deep hF;have hget:({s.hp with lo:=s.hp.n}:Hp).get=(tr i).H.get:=by rw [h2];rfl
    obtain ⟨goal,hgo,m0,L,q1,q2,q3⟩:∃ goal,cO (iP T.P s.fr f) (args.map (aF s.fr))=some goal ∧
      ∃ m L,RX T tab m (gJ {s.hp with lo:=s.hp.n} goal)=some L∧(true=true→∃ r,L=[r])∧∀ r ∈ L,∃ w H',r=.ret w H' ∧
       ({s.hp with lo:=s.hp.n}:Hp).n≤H'.n∧Wf H'∧(∀ k,k < ({s.hp with lo:=s.hp.n}:Hp).n→H'.get k=({s.hp with lo:=s.hp.n}:Hp).get k)∧min ({s.hp with lo:=s.hp.n}:Hp).lo ({s.hp with lo:=s.hp.n}:Hp).n≤H'.lo∧DR H'.get ((tr i).E.O (tr i).hp) v w:=by
     rcases hhand with ⟨rfl,hA⟩|⟨hz,hfree⟩
     ·have hA':=(cV hfr args).deep hA
      exact hpure ((tr i).E.O (tr i).hp) {s.hp with lo:=s.hp.n} _ _ (by rw [h2] at hrel;exact hrel.wf) (fun k hk=>by
       have:k < (tr i).H.n:=hk.elim (fun h=>hrel.iE h) (hrel.xn k)
       rw [h2] at this;exact this) (by rw [hget];exact hF') (by rw [hget];exact hA')
     ·obtain ⟨goal,hgo,m0,L,q1,q2,q3⟩:=hpure (tr i).E.X {s.hp with lo:=s.hp.n} _ _ (by rw [h2] at hrel;exact hrel.wf) (fun k hk=>by
       have:k < (tr i).H.n:=hrel.xn k hk
       rw [h2] at this;exact this) (by rw [hget];exact hF'.mono fun k b hk ho=>⟨hk,fun hx=>ho (.inr hx)⟩) (by
        rw [hget];rw [←h1] at hz
        exact hz.dr hrel (fun _ h=>h) (cV hfr args))
      refine ⟨goal,hgo,m0,L,q1,q2,fun r hm=>?_⟩;obtain ⟨w,H',e1,e2,e3,e4,e5,e6⟩:=q3 r hm;exact ⟨w,H',e1,e2,e3,e4,e5,hfree.2 _ _ _ _ e6⟩
    obtain ⟨r,hr⟩:=q2 rfl;subst hr;obtain ⟨w,H',rfl,hn,hwf,hsame,hlo,hdr⟩:=q3 r (by simp)
    obtain ⟨g1,g2⟩:=hrel.grow (H':={H' with lo:=s.hp.lo}) (by rw [h2];exact hn) hwf (fun k hk=>by
     have:=hsame k (by rw [←h2];exact hk)
     rw [h2];exact this) (by rw [h2];exact Nat.min_le_left _ _)
    refine go ⟨(tr i).E,st.hp,{H' with lo:=s.hp.lo}⟩ v w (i+1) ⟨i,[],true,true⟩ ⟨i,[],[],true,s.hp.n,H'.n⟩ m0 (by rw [←h1];exact g1) (by rw [←h1];exact g2) (qq6 _) ?_ rfl ?_ (fun m hm=>?_) (bQ h).2
    ·rw [aU (Nat.lt_succ_self _)];refine .d ?_;show DR H'.get ((tr i).E.O st.hp) v w;rw [←h1];exact hdr
    ·refine ⟨⟨rfl,by rw [aS (qq6 _),h2],by rw [aU (Nat.lt_succ_self _)],fun h=>Bool.noConfusion h,rfl,fun k hk=>(by cases hk),fun k hk=>(by cases hk)⟩,fun k hk=>(by cases hk),fun _=>?_⟩;rw [aU (Nat.lt_succ_self _),aS (qq6 _)];exact ⟨rfl,h1.symm⟩
    ·unfold aP;simp only [hk,hgo,dj hm _ _ q1]
     have:Nat.ble s.hp.n H'.lo=true:=Nat.ble_eq_true_of_le (by
      have:min s.hp.n s.hp.n≤H'.lo:=hlo
      omega)
     rw [i6 this]
   ·exact h.elim
   ·rename_i hk;obtain ⟨a,hacc,hw⟩:=h;have hw':=hw;rw [←h1] at hw';obtain ⟨r,w,ht1,ht2,ht3⟩:=qb ht hb hacc hw'
    have evr:∀ (z:bC) (u:Value) (e:bS),(yE o.op || a.all fun p=>p.wr || p.own.isNone)=true→gX T s.hp.n o.op (aF s.fr) s.hp.get=some (u,e)→z.H=s.hp.app e→oY (snoc tr i z) ⟨i,a,news? o.op,false⟩ ⟨i,r,w,false,s.hp.n,(s.hp.app e).n⟩:=by
     intro z u e hro hop hz;refine ⟨⟨rfl,by rw [aS (qq6 _),h2],by rw [aU (Nat.lt_succ_self _),hz],fun hal _=>(mF (mE hop hal)).symm,rfl,fun k hk=>?_,fun k hk=>?_⟩,fun k hk=>?_,fun h=>Bool.noConfusion h⟩
     ·obtain ⟨p,p1,p2,p3⟩:=ht2 k hk;exact ⟨p,p1,p2,p3.snoc (qq6 _)⟩
     ·obtain ⟨p,p1,p2,p3⟩:=ht3 k hk;exact ⟨p,p1,p2,p3.snoc (qq6 _)⟩
     ·obtain ⟨p,p1,p2,p3,p4⟩:=Dt ht hb hro hacc hw' ht1 k hk;exact ⟨p,p1,p2,p3.snoc (qq6 _),fun ho=>by rw [aS (qq6 _)];exact p4 ho⟩
    have drw:∀ (u:Value) (e:bS) (m:Nat),gX T s.hp.n o.op (aF s.fr) s.hp.get=some (u,e)→aP T (RX T tab m) o.op i s=some (u,s.hp.app e,⟨i,r,w,false,s.hp.n,(s.hp.app e).n⟩):=by intro u e m hop;unfold aP;simp only [hk,ht1,hop]
    by_cases hm:∃ x,wU o.op st.fr=some [x]
    ·obtain ⟨x,hm⟩:=hm;have hbirth:iT o.op st.fr bt i=ny bt x:=by unfold iT;rw [hm]
     have hbx:=hb.eval x;have eb:=ht.ext _ i hbx.1 (qq6 _);obtain ⟨u,v,r1,r2,r3,r4⟩:=sD (ρ2:=(tr (ny bt x)).E.ρ) (g2:=(tr (ny bt x)).H.get) (O2:=(tr (ny bt x)).E.O (tr (ny bt x)).hp) (n:=s.hp.n) hfr hm (fun y hy=>by obtain rfl:=List.mem_singleton.1 hy;exact hbx.2) (fun k b hk ho=>(eb.keep (ht.rel _ hbx.1).wf k b hk ho).1) hw;rw [h2] at r1;have hz:(tr i).H=s.hp.app .none:=h2;rw [hbirth] at r2;refine go (tr i) v u (ny bt x) ⟨i,a,news? o.op,false⟩ ⟨i,r,w,false,s.hp.n,(s.hp.app .none).n⟩ 0 hrel .refl (by omega) (by rw [aS hbx.1];exact r4) rfl (evr _ u .none (bQ (bf r2)).1 r1 hz) (fun m _=>by rw [hz];exact drw u .none m r1) (by rw [h1];exact (bQ (bf r2)).2)
    ·have hbirth:iT o.op st.fr bt i=i+1:=by
      unfold iT;split
      ·rename_i x hx;exact absurd ⟨x,hx⟩ hm
      ·rfl
     obtain ⟨u,e,E',v,hp',r1,r2,r3,r4,r5⟩:=hJ hrel hfr hw';rw [h2] at r1 r3 r4 r5;rw [hbirth] at r2;refine go ⟨E',hp',s.hp.app e⟩ v u (i+1) ⟨i,a,news? o.op,false⟩ ⟨i,r,w,false,s.hp.n,(s.hp.app e).n⟩ 0 r3 (by rw [h2];exact r4) (qq6 _) (by rw [aU (Nat.lt_succ_self _)];exact r5) rfl (evr _ u e (bQ (bf r2)).1 r1 rfl) (fun m _=>drw u e m r1) (bQ (bf r2)).2
  ·obtain ⟨m,s',r1,r2⟩:=jr (s:=⟨cD s.fr o.dst undef,s.hp,s.rd⟩) (evs:=⟨o,s,undef,s.hp,⟨i,[],[],false,s.hp.n,s.hp.n⟩⟩ :: evs) (bQ h) (ht.snoc (z:=tr i) hrel .refl) (by rw [aU (Nat.lt_succ_self _)];exact h1) (by rw [aU (Nat.lt_succ_self _)];exact h2) h3
    (hb.put (qq5 _) sA o.dst) (.cons (he.snoc (qq6 _)) rfl ⟨⟨rfl,by rw [aS (qq6 _),h2],by rw [aU (Nat.lt_succ_self _),h2],fun _ _=>rfl,rfl,fun k hk=>(by cases hk),fun k hk=>(by cases hk)⟩,fun k hk=>(by cases hk),fun h=>Bool.noConfusion h⟩)
   rw [hz0] at r2;refine ⟨m,s',?_,r2⟩;rw [aM,hg];exact r1
theorem av.GF {id:Nat} {l l1 l2:List Oper} {c:Nat} {mu:Tmp→Bool} {st:bU} {K:Exit→bU→Prop} (hc:ez l.toArray=c) (h1:l.take c=l1) (h2:l.drop c=l2)
  (h:fU T tab mu l.toArray l1 0 (fun _=>0) [] st fun s=>wpOps T tab one mu l l2 s (K .normal)):av T tab one (.region id l.toArray true) st K:=by
 subst hc h1 h2;intro E base s hs;obtain ⟨m,s',r1,E',st',r2,r3,r4,r5⟩:=jr (base:=base) (tr:=fun _=>⟨E,st.hp,s.hp⟩) (evs:=[]) h ⟨fun _ _=>hs.h,fun _ _ _ _=>.refl⟩ rfl rfl hs.rd (fun t=>⟨qq6 _,hs.fr t⟩) .nil;obtain ⟨m2,L,q1,q2,q3⟩:=gn r2 r4;refine ⟨max m m2,L.map fun s=>(.normal,s),?_,fun h1=>?_,fun p hp=>?_⟩
 ·rw [bP]
  have:bH T (RX T tab (max m m2)) l.toArray s=some L:=by
   cases hn:qJ l.toArray with
   | none =>unfold bH;simp only [hn,fC (dj (Nat.le_max_left m m2)) _ _ _ _ _ _ r1];exact hH (dj (Nat.le_max_right _ _)) _ _ _ _ q1
   | some c =>
    have ht:=zf hn;rw [ht] at r1 q1;have r1':bh T (RX T tab m) l.toArray l 0 s []=some [s']:=by simpa using r1
    have q1':aO T (RX T tab m2) l [] s'=some L:=by simpa using q1
    rw [dF] at q1';cases q1';exact jA (by rw [ht]) (fC (dj (Nat.le_max_left m m2)) _ _ _ _ _ _ (by simpa using r1'))
  simp only [cond_true,this]
 ·obtain ⟨p,hp⟩:=q2 h1;exact ⟨_,by rw [hp];rfl⟩
 ·obtain ⟨s3,hm,rfl⟩:=List.mem_map.1 hp;obtain ⟨E2,st2,k1,k2,k3,k4⟩:=q3 s3 hm;rw [r3] at k2 k4;exact ⟨E2,st2,k1,k2,k3,r5.fS.trans k4⟩
variable {mu : Tmp → Bool} {fr : Nat → AV} {KS : bU → Prop} {rd : Bool} {dst : Option Tmp}
theorem S7 {ops:Array Oper} {op:Op} {a1 a2 a3 gd} {l:List Oper} {i:Nat} {bt:Nat→Nat} {acc:List hU}
 (h:cW ops.toList gd fr (eD T tab mu dst op i bt fr hp fun fr' hp' bt' x=>(yE op || x.acc.all fun p=>p.wr || p.own.isNone)=true∧fU T tab mu ops l (i+1) bt' (x :: acc) ⟨fr',hp',aE,rd,fl⟩ KS)
  (fK dst fr (.tp []) fun fr'=>fU T tab mu ops l (i+1) (gL dst bt 0) (⟨i,[],false,false⟩ :: acc) ⟨fr',hp,aE,rd,fl⟩ KS)):fU T tab mu ops (⟨dst,op,a1,a2,a3,gd⟩ :: l) i bt acc ⟨fr,hp,aE,rd,fl⟩ KS:=.inl h
theorem S8 {ops:Array Oper} {a1 a2 a3} {l:List Oper} {i:Nat} {bt:Nat→Nat} {acc:List hU} {t:TypeId} {x hi mx:Operand} {els:List (List AV)} {f:Bool} {inf:rB} (hx:aN fr x=.sl els f) (hh:aN fr hi=.fl (.int .i64 (els.length:Int))) (hm:aN fr mx=.fl (.int .i64 (els.length:Int))) (hi':elem? T t=some inf) (h1:1≤inf.size) (hel:∀ el ∈ els,el.length=inf.size)
  (h:fK dst fr (.sl els true) fun fr'=>fU T tab mu ops l (i+1) (gL dst bt (ny bt x)) (⟨i,[],false,false⟩ :: acc) ⟨fr',hp,aE,rd,fl⟩ KS):fU T tab mu ops (⟨dst,.slice t x none (some hi) (some mx),a1,a2,a3,none⟩ :: l) i bt acc ⟨fr,hp,aE,rd,fl⟩ KS :=
 .inr ⟨rfl,t,x,hi,mx,els,f,inf,rfl,hx,hh,hm,hi',h1,hel,h⟩
end
section
variable {T : bJ} {tab : List XE} {one : Bool} {fl base : Nat} {E E' E2 : Env} {hp hp' hp2 : List AB} {aE amb' : bA} {H H' H2 : Hp} {ρ ρ2 : Nat → Nat → Option Nat} {g g2 : aH} {O O2 : Nat → Prop} {r : Rec}
theorem tY {α β:Type} (a:α) (l:List α) (f:α→Option (List β)) {x y:List β} (h1:f a=some x) (h2:bR l f=some y):bR (a :: l) f=some (x++y):=by
 cases l with
 | nil =>rw [mg] at h2;cases h2;rw [cG,h1,List.append_nil]
 | cons b l =>rw [gY,h1];simp only [h2,Option.map_some]
theorem tZ {α β:Type} {a:α} {l:List α} {f:α→Option (List β)} {z:List β} (h:bR (a :: l) f=some z):∃ x y,f a=some x∧bR l f=some y∧z=x++y:=by
 cases l with
 | nil=>exact ⟨z,[],h,rfl,(List.append_nil _).symm⟩
 | cons b l =>
  rw [gY] at h
  cases hx:f a with
  | none=>rw [hx] at h;cases h
  | some x =>rw [hx] at h;simp only [Option.map_eq_some_iff] at h;obtain ⟨y,hy,rfl⟩:=h;exact ⟨x,y,rfl,hy,rfl⟩
theorem zK {α β:Type} {f:α→Option (List β)}:∀ {a b:List α} {z:List β},bR (a++b) f=some z→∃ x y,bR a f=some x∧bR b f=some y∧z=x++y
 | [],b,z,h=>⟨[],z,rfl,h,rfl⟩
 | c :: a,b,z,h=>by obtain ⟨x,y,h1,h2,rfl⟩:=tZ (l:=a++b) h;obtain ⟨u,v,h3,h4,rfl⟩:=zK h2;exact ⟨x++u,v,tY _ _ _ h1 h3,h4,(List.append_assoc _ _ _).symm⟩
theorem uN {α β γ:Type} {f:α→Option (List β)} {k:β→Option (List γ)} {h:α→Option (List γ)} (hh:∀ x N M,f x=some N→bR N k=some M→h x=some M):∀ {L0:List α} {L:List β} {M:List γ},bR L0 f=some L→bR L k=some M→bR L0 h=some M
 | [],L,M,h1,h2=>by rw [mg] at h1;cases h1;exact h2
 | a :: l,L,M,h1,h2=>by obtain ⟨x,y,q1,q2,rfl⟩:=tZ h1;obtain ⟨u,v,q3,q4,rfl⟩:=zK h2;exact tY _ _ _ (hh a x u q1 q3) (uN hh q2 q4)
theorem lQ {ops ops':List Oper}:∀ (l:List Oper) (st:St),(l.all fun o=>o.guard.isNone)=true→aO T r ops l st=aO T r ops' l st
 | [],_,_=>rfl
 | o :: l,st,h=>by rw [List.all_cons,qq7] at h;have hg:o.guard=none:=Option.isNone_iff_eq_none.1 h.1;have e:(fun p:Value × Hp=>aO T r ops l ⟨cD st.fr o.dst p.1,p.2,st.rd⟩)=fun p=>aO T r ops' l ⟨cD st.fr o.dst p.1,p.2,st.rd⟩:=funext fun p=>lQ l _ h.2;rw [bK,bK,hg,e,lQ l _ h.2];rfl
theorem pE {ops:List Oper}:∀ (a b:List Oper) (st:St) {L M:List St},aO T r ops a st=some L→bR L (aO T r ops b)=some M→aO T r ops (a++b) st=some M
 | [],b,st,L,M,h1,h2=>by rw [dF] at h1;cases h1;exact h2
 | o :: a,b,st,L,M,h1,h2=>by
  rw [bK] at h1;rw [List.cons_append,bK]
  cases hg:aY ops st.fr o.guard with
  | false =>rw [hg] at h1;exact pE a b _ h1 h2
  | true =>
   rw [hg] at h1;simp only [cond_true] at h1 ⊢
   cases ho:dw T r o.op st with
   | none=>rw [ho] at h1;cases h1
   | some L0 =>rw [ho] at h1;exact uN (fun x N M q1 q2=>pE a b _ q1 q2) h1 h2
theorem xw {f:St→Option (List St)} {ψ:Exit × St→Option (List (Exit × St))} (hψ:∀ s,ψ (.normal,s)=(f s).map (List.map fun s=>(.normal,s))):∀ {M:List St} {L:List (Exit × St)},bR (M.map fun s=>(Exit.normal,s)) ψ=some L→∃ N,bR M f=some N∧L=N.map fun s=>(.normal,s)
 | [],L,h=>by rw [List.map_nil,mg] at h;cases h;exact ⟨[],rfl,rfl⟩
 | s :: M,L,h=>by rw [List.map_cons] at h;obtain ⟨x,y,q1,q2,rfl⟩:=tZ h;rw [hψ,Option.map_eq_some_iff] at q1;obtain ⟨u,q1,rfl⟩:=q1;obtain ⟨v,q3,rfl⟩:=xw hψ q2;exact ⟨u++v,tY _ _ _ q1 q3,by rw [List.map_append]⟩
theorem av.L5 {id id1 id2:Nat} {l l1 l2:List Oper} {st:bU} {K:Exit→bU→Prop} (hl:l=l1++l2) (hg:(l.all fun o=>o.guard.isNone)=true)
  (h:av T tab one (.seq (.region id1 l1.toArray false) (.region id2 l2.toArray false)) st K):av T tab one (.region id l.toArray false) st K:=by
 subst hl;intro E base s hs;obtain ⟨m,L,h1,h2⟩:=h E base s hs;refine ⟨m,L,?_,h2⟩;rw [List.all_append,qq7] at hg;rw [i7,bP] at h1;simp only [cond_false] at h1
 cases he:aO T (RX T tab m) l1 l1 s with
 | none=>rw [he] at h1;cases h1
 | some M =>
  rw [he] at h1
  obtain ⟨N,q1,rfl⟩:=xw (f:=aO T (RX T tab m) l2 l2) (fun s=>by
   show (match _root_.cond false _ (aO T (RX T tab m) l2 l2 s) with
    | some L=>some (L.map fun s=>(Exit.normal,s))
    | none=>none)=_
   simp only [cond_false]
   cases aO T (RX T tab m) l2 l2 s <;> rfl) h1
  rw [bP]
  have:aO T (RX T tab m) (l1++l2) (l1++l2) s=some N:=by
   refine pE l1 l2 s (L:=M) ?_ ?_
   ·rw [lQ l1 s hg.1,he]
   ·rw [←q1]
    congr 1
    exact funext fun s=>lQ l2 s hg.2
  simp only [cond_false,this]
def S9 (T:bJ) (o:Op) (st:bU) (Q:AV→List AB→Prop):Prop :=
 ∀ (E:Env) (base:Nat) (H:Hp) (tm:Tr Value),aR E base st.hp st.aE H→iF E.ρ H.get (E.O st.hp) st.fr tm→ey base E st.hp st.aE H (gX T H.n o (aF tm) H.get) Q
theorem av.Un {id:Nat} {dst:Option Tmp} {o:Op} {a1 a2 a3} {st:bU} {K:Exit→bU→Prop} (hk:cP o=.plain)
  (h:S9 T o st fun v hp'=>K .normal ⟨kY st.fr dst v,hp',st.aE,st.rd,st.fl⟩):av T tab one (.region id [⟨dst,o,a1,a2,a3,none⟩].toArray false) st K:=by
 intro E base s hs;obtain ⟨u,e,E',v,hp',r1,r2,r3,r4,r5⟩:=h E base s.hp s.fr hs.h hs.fr;refine ⟨0,[(.normal,⟨cD s.fr dst u,s.hp.app e,s.rd⟩)],?_,.single ⟨E',_,r2,rfl,⟨r3,hs.rd,lH (r4.fS.fr hs.h hs.fr) r5 dst⟩,r4.fS⟩⟩;rw [bP]
 have:aO T (RX T tab 0) [⟨dst,o,a1,a2,a3,none⟩] [⟨dst,o,a1,a2,a3,none⟩] s=some [⟨cD s.fr dst u,s.hp.app e,s.rd⟩]:=by
  rw [bK];have:dw T (RX T tab 0) o s=some [(u,s.hp.app e)]:=by unfold dw;simp only [hk,r1]
  simp only [aY,cond_true,this,cG,dF]
 simp only [cond_false,this,List.map_cons,List.map_nil]
def kT (o:Oper):Bool :=
 match o.guard,o.op with
 | none,.move _=>true
 | none,.assign _=>true
 | none,.extract _ _=>true
 | none,.slice _ _ _ _ _=>true
 | _,_=>false
theorem xx {o:Oper} (h:kT o=true):o.guard=none∧cP o.op=.plain∧(∀ ρ,iA o.op ρ=some ([],[]))∧news? o.op=false:=by unfold kT at h;split at h <;> first|(rename_i h1 h2;rw [h2];exact ⟨h1,rfl,fun _=>rfl,rfl⟩)|cases h
theorem zL {o:Oper} (h:kT o=true) {n:Nat} {ρ:Operand→Value} {g:aH} {v:Value} {e:bS} (ho:gX T n o.op ρ g=some (v,e)):e=.none:=by
 obtain ⟨_,_,h3,h4⟩:=xx h;have h1:=(pR ho).2 (oK (h3 ρ)).1;rw [(oK (h3 ρ)).2] at h1;have h2:=mE ho h4
 cases e with
 | none=>rfl
 | new b=>cases h2
 | put k b=>cases h1
 | app k b=>cases h1
def Rq (e:Ev):Prop:=e.t.rd=[]∧e.t.wr=[]∧e.t.a=e.t.b
theorem qj (a:Nat) (l:List Nat):within a a l=false:=by unfold within;rw [List.any_eq_false];intro k _ hk;simp only [qq7] at hk;have h1:=Nat.le_of_ble_eq_true hk.1;have h2:Nat.ble (k+1) a=true:=hk.2;have h2:=Nat.le_of_ble_eq_true h2;omega
theorem ru (l:List Nat):meets l []=false:=by unfold meets;rw [List.any_eq_false];intro k _ h;cases h
theorem kU (a b:Nat):within a b []=false:=rfl
theorem Fj {s t:Ev} (hs:s.t.call=false) (ht:t.t.call=false) (h:Rq s∨Rq t):conflict s.t t.t=false:=by
 unfold conflict;rw [hs,ht];have mn:∀ l,meets [] l=false:=fun _=>rfl
 rcases h with ⟨h1,h2,h3⟩|⟨h1,h2,h3⟩
 ·rw [h1,h2,h3];simp only [mn,ru,kU,qj,Bool.false_and,Bool.or_self]
 ·rw [h1,h2,h3];simp only [mn,ru,kU,qj,Bool.false_and,Bool.or_self]
def QV (o:Oper):Prop:=o.guard=none∧cP o.op=.plain∧∀ ρ,(iA o.op ρ).isSome=true
def Fk:List Oper→Prop
 | []=>True
 | o :: l=>QV o∧Fk l
theorem ry {ops:Array Oper} {ops':List Oper}:∀ (l:List Oper) (i:Nat) (st:St) (L:List St) (acc:List Ev),Fk l→aO T r ops' l st=some L→bT T (pM ops) acc=true→(∀ ev ∈ acc,ev.t.call=false) →
  ((∀ ev ∈ acc,Rq ev)∧l.countP (fun o=>!kT o)≤1∨l.all kT=true)→∃ s',L=[s']∧bh T r ops l i st acc=some [s']
 | [],i,st,L,acc,_,h,hp,_,_=>by
  rw [dF] at h;cases h;refine ⟨st,rfl,?_⟩;rw [cU]
  have:cA T ops acc=true:=by
   unfold cA
   cases (acc.all fun e=>e.t.wr.isEmpty && Nat.beq e.t.a e.t.b) with
   | true=>rfl
   | false=>exact hp
  rw [this];rfl
 | o :: l,i,st,L,acc,hl,h,hp,hc,hq=>by
  obtain ⟨⟨g1,g2,g3⟩,hl⟩:=hl;rw [bK,g1] at h;rw [aM,g1];simp only [aY,cond_true] at h ⊢
  cases ho:gX T st.hp.n o.op (aF st.fr) st.hp.get with
  | none =>
   exfalso;have:dw T r o.op st=none:=by unfold dw;simp only [g2,ho]
   rw [this] at h;cases h
  | some ve =>
   obtain ⟨v,e⟩:=ve;have ha:dw T r o.op st=some [(v,st.hp.app e)]:=by unfold dw;simp only [g2,ho]
   rw [ha] at h;simp only [cG] at h;obtain ⟨⟨rd,wr⟩,ht⟩:=Option.isSome_iff_exists.1 (g3 (aF st.fr));have hd:aP T r o.op i st=some (v,st.hp.app e,⟨i,rd,wr,false,st.hp.n,(st.hp.app e).n⟩):=by unfold aP;simp only [g2,ht,ho]
   simp only [hd];have hnew:∀ x:Ev,x.t.call=false→(Rq x∨∀ ev ∈ acc,Rq ev)→bT T (pM ops) (x :: acc)=true:=by intro x hxc hx;simp only [bT,qq7,List.all_eq_true];refine ⟨fun s hs=>?_,hp⟩;rw [Fj (hc s hs) hxc (hx.elim .inr fun h=>.inl (h s hs))];rfl
   have hcx:∀ x:Ev,x.t.call=false→∀ ev ∈ x :: acc,ev.t.call=false:=by
    intro x hx ev hev
    rcases List.mem_cons.1 hev with rfl|hev
    ·exact hx
    ·exact hc ev hev
   cases hqo:kT o with
   | true =>
    have he:=zL hqo ho;have htq:=(xx hqo).2.2.1 (aF st.fr);rw [ht] at htq;simp only [qq9,Prod.mk.injEq] at htq;obtain ⟨rfl,rfl⟩:=htq;have hQ:Rq ⟨o,st,v,st.hp.app e,⟨i,[],[],false,st.hp.n,(st.hp.app e).n⟩⟩:=⟨rfl,rfl,by rw [he];rfl⟩;refine ry l (i+1) _ L _ hl h (hnew _ rfl (.inl hQ)) (hcx _ rfl) ?_
    rcases hq with ⟨q1,q2⟩|q
    ·refine .inl ⟨fun ev hev=>?_,?_⟩
     ·rcases List.mem_cons.1 hev with rfl|hev
      ·exact hQ
      ·exact q1 ev hev
     ·rw [List.countP_cons,hqo] at q2;simpa using q2
    ·rw [List.all_cons,qq7] at q;exact .inr q.2
   | false =>
    rcases hq with ⟨q1,q2⟩|q
    ·refine ry l (i+1) _ L _ hl h (hnew _ rfl (.inr q1)) (hcx _ rfl) (.inr ?_);rw [List.countP_cons,hqo] at q2;have q2:l.countP (fun o=>!kT o)+1≤1:=by simpa using q2
     rw [List.all_eq_true];intro x hx;have:l.countP (fun o=>!kT o)=0:=by omega
     rw [List.countP_eq_zero] at this;have:=this x hx;simpa using this
    ·rw [List.all_cons,hqo] at q;cases q
end
section
variable {T : bJ} {tab : List XE} {one : Bool} {base : Nat} {E : Env} {hp : List AB} {aE : bA} {H : Hp}
def Fx (T:bJ) (t2 mt t3 t4:TypeId) (p0 p1 q:Operand) (x0 x1 x2 x3 x4 x5:Tmp) (st:bU) (K:bU→Prop):Prop :=
 wpOp T false (.move p0) st.fr st.hp fun v0 h0=>force v0 fun v0=>fK (some x0) st.fr v0 fun f0 =>
 wpOp T false (.load t2 p1) f0 h0 fun v1 h1=>force v1 fun v1=>fK (some x1) f0 v1 fun f1 =>
 wpOp T false (.lookup mt (.tmp x0) (.tmp x1) false) f1 h1 fun v2 h2=>∃ c:Int,v2=.fl (.int .i64 c)∧fK (some x2) f1 (.fl (.int .i64 c)) fun f2 =>
 wpOp T false (.binOp .add t3 (.tmp x2) q t4) f2 h2 fun v3 h3=>force v3 fun v3=>fK (some x3) f2 v3 fun f3 =>
 wpOp T false (.mapEntry mt (.tmp x0) (.tmp x1)) f3 h3 fun v4 h4=>wpOp T false (.lookup mt (.tmp x0) (.tmp x1) false) f1 h4 (fun v _=>v=.fl (.int .i64 c))∧(force v4 fun v4=>fK (some x4) f3 v4 fun f4 =>
 wpOp T false (.extract (.tmp x4) 1) f4 h4 fun v5 h5=>force v5 fun v5=>fK (some x5) f4 v5 fun f5 =>
 wpOp T false (.entryStore mt (.tmp x0) (.tmp x5) (.tmp x3)) f5 h5 fun _ h6=>K ⟨f5,h6,st.aE,st.rd,st.fl⟩)
theorem av.HZ {id:Nat} {ops:Array Oper} {t2 mt t3 t4:TypeId} {p0 p1 q:Operand} {x0 x1 x2 x3 x4 x5:Tmp} {y0 z0 w0 y1 z1 w1 y2 z2 w2 y3 z3 w3 y4 z4 w4 y5 z5 w5 y6 z6 w6} {st:bU} {K:Exit→bU→Prop}
  (hops:ops.toList=[⟨some x0,.move p0,y0,z0,w0,none⟩,⟨some x1,.load t2 p1,y1,z1,w1,none⟩,⟨some x2,.lookup mt (.tmp x0) (.tmp x1) false,y2,z2,w2,none⟩,⟨some x3,.binOp .add t3 (.tmp x2) q t4,y3,z3,w3,none⟩,
   ⟨some x4,.mapEntry mt (.tmp x0) (.tmp x1),y4,z4,w4,none⟩,⟨some x5,.extract (.tmp x4) 1,y5,z5,w5,none⟩,⟨none,.entryStore mt (.tmp x0) (.tmp x5) (.tmp x3),y6,z6,w6,none⟩])
  (hb:Lf (pM ops)=true) (hw:Fx T t2 mt t3 t4 p0 p1 q x0 x1 x2 x3 x4 x5 st (K .normal)):av T tab one (.region id ops true) st K:=by
 intro E base s hs;obtain ⟨sfr,shp,srd⟩:=s;unfold Fx at hw;obtain ⟨u0,e0,E0,v0,h0,d0,k0,g0,ex0,a0,f0,n0,_⟩:=nC (rec:=RX T tab 0) (i:=0) (rd:=srd) (d:=some x0) hs.h hs.fr rfl rfl rfl hw;have k0:=bQ (bf k0);obtain ⟨u1,e1,E1,v1,h1,d1,k1,g1,Tn,a1,f1,n1,_⟩:=nC (rec:=RX T tab 0) (i:=1) (rd:=srd) (d:=some x1) g0 f0 rfl rfl rfl k0;have k1:=bQ (bf k1);obtain ⟨j,hj⟩:=Ht k1;obtain ⟨km,_,hkm⟩:∃ km,E1.ρ j 0=some km∧aF (cD (cD sfr (some x0) u0) (some x1) u1) (.tmp x0)=.map (some km):=by have:=gh f1 (.tmp x0);rw [hj] at this;exact this.nu
 obtain ⟨u2,e2,E2,v2,h2,d2,k2,g2,ex2,a2,f2,n2,o2⟩:=nC (rec:=RX T tab 0) (i:=2) (rd:=srd) (d:=some x2) g1 f1 rfl rfl rfl k1;obtain ⟨c,hc,k2⟩:=k2;rw [←hc] at k2;have k2:=bQ k2;obtain ⟨u3,e3,E3,v3,h3,d3,k3,g3,ex3,a3,f3,n3,_⟩:=nC (rec:=RX T tab 0) (i:=3) (rd:=srd) (d:=some x3) g2 f2 rfl rfl rfl k2;have k3:=bQ (bf k3);obtain ⟨u4,e4,E4,v4,h4,d4,k4,g4,ex4,a4,f4,n4,_⟩:=nC (rec:=RX T tab 0) (i:=4) (rd:=srd) (d:=some x4) g3 f3 rfl rfl rfl k3;obtain ⟨hlook,k4⟩:=k4;have k4:=bQ (bf k4);obtain ⟨u5,e5,E5,v5,h5,d5,k5,g5,ex5,a5,f5,n5,_⟩:=nC (rec:=RX T tab 0) (i:=5) (rd:=srd) (d:=some x5) g4 f4 rfl rfl rfl k4;have k5:=bQ (bf k5);obtain ⟨u6,e6,E6,v6,h6,d6,k6,g6,ex6,a6,f6,n6,_⟩:=nC (rec:=RX T tab 0) (i:=6) (rd:=srd) (d:=none) g5 f5 rfl rfl rfl k5;have ex24:=(ex2.trans ex3).trans ex4;have f1':iF E4.ρ ((((((shp.app e0).app e1).app e2).app e3).app e4)).get (E4.O h4) _ _:=fun t=>ex24.ar g1.wf (f1 t);obtain ⟨u',e',E',v',hp',q1,q2,q3,q4,q5⟩:=hJ g4 f1' hlook;have hu2:u2=.int .i64 c:=by rw [hc] at a2;exact a2.dW.1
 have hu':u'=.int .i64 c:=by rw [q2,hc] at q5;exact q5.dW.1
 have he':e'=.none:=by have q1:(jN T mt _ _ false _).map (fun v=>(v,bS.none))=some (u',e'):=q1;rw [Option.map_eq_some_iff] at q1;obtain ⟨_,_,h⟩:=q1;cases h;rfl
 rw [hu',he'] at q1;simp only [Lf,qq7] at hb;obtain ⟨b04,b06,b14,b16,b26,b45,b46⟩:=hb;rw [n0] at d1 n1;rw [n1] at d2 n2;rw [n2] at d3 n3;rw [n3] at d4 n4;rw [n4] at d5 n5;rw [n5] at d6 n6;rw [n4] at q1;refine ⟨0,[(.normal,⟨_,_,srd⟩)],?_,.single ⟨E6,_,k6,rfl,⟨g6,hs.rd,f6⟩,((((((ex0.trans Tn).trans ex2).trans ex3).trans ex4).trans ex5).trans ex6).fS⟩⟩;rw [bP];have htl:ez ops=ops.toList.length:=by unfold ez;rw [show ops.toList.findIdx? vv=none by rw [hops];rfl]
 have hdt:∀ X,bh T (RX T tab 0) ops ops.toList 0 ⟨sfr,shp,srd⟩ []=some [X]→bH T (RX T tab 0) ops ⟨sfr,shp,srd⟩=some [X]:=fun X h=>jA htl h;simp only [cond_true];rw [hdt]
 ·rfl
 simp only [hops];rw [aM];simp only [aY,cond_true];rw [d0];simp only;rw [aM];simp only [aY,cond_true];rw [d1];simp only;rw [aM];simp only [aY,cond_true];rw [d2];simp only;rw [aM];simp only [aY,cond_true];rw [d3];simp only;rw [aM];simp only [aY,cond_true];rw [d4];simp only;rw [aM];simp only [aY,cond_true];rw [d5];simp only;rw [aM];simp only [aY,cond_true];rw [d6];simp only;rw [cU]
 have hd:∀ evs,bT T (pM ops) evs=true→cA T ops evs=true:=fun evs h=>by
  unfold cA
  cases evs.all fun e=>e.t.wr.isEmpty && Nat.beq e.t.a e.t.b with
  | true=>rfl
  | false=>exact h
 rw [hd _ ?_]
 ·rfl
 ·simp only [bT,List.all_cons,List.all_nil,Bool.and_true,qq7]
  refine ⟨⟨dX (.inr rfl),kN b46,dX (.inr rfl),kN b26,kN b16,kN b06⟩,
   ⟨kN b45,dX (.inl rfl),dX (.inl rfl),dX (.inl rfl),dX (.inl rfl)⟩,
   ⟨dX (.inr rfl),M5 ?_,kN b14,kN b04⟩,
   ⟨dX (.inl rfl),dX (.inl rfl),dX (.inl rfl)⟩,⟨dX (.inl rfl),dX (.inl rfl)⟩,dX (.inl rfl)⟩
  unfold spare;simp only [hkm,cE,hu2];have hq:gX T ((shp.app e0).app e1).n (Op.lookup mt (Operand.tmp x0) (Operand.tmp x1) false) (aF (cD (cD sfr (some x0) u0) (some x1) u1)) (((((shp.app e0).app e1).app e2).app e3).app e4).get=some (Value.int IntKind.i64 c,bS.none):=by rw [show ((shp.app e0).app e1).n=shp.n from n1];exact q1
  rw [hq];have hn:shp.n.beq shp.n=true:=Nat.beq_refl _;have hi:DY c c=true:=by rw [D3];simp
  simp only [hn,DZ,hi];rfl
end
section
variable {T : bJ} {tab : List XE} {one : Bool} {fl base : Nat} {E E' E2 : Env} {hp hp' hp2 : List AB} {aE amb' : bA} {H H' H2 : Hp} {ρ ρ2 : Nat → Nat → Option Nat} {g g2 : aH} {O O2 : Nat → Prop} {r : Rec}
theorem qm (n:Nat):iN (.int .i64 (n:Int))=some n:=by show (bif decide ((n:Int) < 0) then none else some (n:Int).toNat)=_;rw [decide_eq_false (by omega)];rfl
theorem pK {a b:Nat} (h:a≤b):Nat.ble a b=true:=Nat.ble_eq_true_of_le h
theorem TD {a b:Nat} (h:b < a):Nat.ble a b=false:=Bool.eq_false_iff.2 fun h'=>by have:=Nat.le_of_ble_eq_true h';omega
theorem S9.TE {t:TypeId} {x lo hi mx:Operand} {st:bU} {Q:AV→List AB→Prop} {j aA n c l h m:Nat} {inf:rB} (hx:aN st.fr x=.bg j aA 0 n c) (hlo:aN st.fr lo=.fl (.int .i64 (l:Int))) (hhi:aN st.fr hi=.fl (.int .i64 (h:Int))) (hmx:aN st.fr mx=.fl (.int .i64 (m:Int)))
  (hi':elem? T t=some inf) (h1:1≤inf.size) (hb:l≤h∧h≤m∧m≤n) (hn:1≤n) (hq:Q .bX st.hp):S9 T (.slice t x (some lo) (some hi) (some mx)) st Q:=by
 intro E base H tm hr hf;have ax:=gh hf x;have e1:=gh hf lo;have e2:=gh hf hi;have e3:=gh hf mx;rw [hx] at ax;rw [hlo] at e1;rw [hhi] at e2;rw [hmx] at e3;have e1:=e1.dW.1;have e2:=e2.dW.1;have e3:=e3.dW.1
 rcases ax.fI with ⟨k,hk,hu⟩|⟨_,h0,_⟩
 ·have:gX T H.n (.slice t x (some lo) (some hi) (some mx)) (aF tm) H.get=some (.slice (some ⟨k,0+l * inf.size,none⟩) (h - l) (bif Nat.beq h m then h - l else h - l+3+(m - h)),.none):=by show (fF T t (aF tm x) (some (aF tm lo)) (aF tm hi) (aF tm mx)).map (fun v=>(v,bS.none))=_;rw [e1,e2,e3,hu];unfold fF;simp only [hi',cN,qm];rw [pK hb.1,pK hb.2.1,pK hb.2.2,pK h1];rfl
  rw [this];exact .pure hr .bX hq
 ·omega
theorem cg {ops:List Oper} {dst:Option Tmp} {o:Op} {a1 a2 a3} {l:List Oper} {st:St} {v:Value} {e:bS} {L:Option (List St)} (hk:cP o=.plain) (h:gX T st.hp.n o (aF st.fr) st.hp.get=some (v,e)) (hl:aO T r ops l ⟨cD st.fr dst v,st.hp.app e,st.rd⟩=L) :
  aO T r ops (⟨dst,o,a1,a2,a3,none⟩ :: l) st=L:=by
 rw [bK];have:dw T r o st=some [(v,st.hp.app e)]:=by unfold dw;simp only [hk,h]
 simp only [aY,cond_true,this,cG];exact hl
theorem av.TF {a b c:Code} {st st2:bU} {K:Exit→bU→Prop} (hfl:st2.fl=st.fl)
  (h:∀ (E:Env) (base:Nat) (s:St),kZ E base st s→∃ m s1 s2,bE T (RX T tab m) a s=some [(.normal,s1)]∧bE T (RX T tab m) b s1=some [(.normal,s2)]∧∃ E',kZ E' base st2 s2∧j9 st.fl base E st.hp s.hp E' st2.hp s2.hp)
  (h2:av T tab one c st2 K):av T tab one (.seq a (.seq b c)) st K:=by
 intro E base s hs;obtain ⟨m,s1,s2,q1,q2,E',q3,q4⟩:=h E base s hs;obtain ⟨m2,L,r1,r2,r3⟩:=h2 E' base s2 q3;refine ⟨max m m2,L,?_,r2,fun p hp=>?_⟩
 ·rw [i7,dO (dj (Nat.le_max_left m m2)) _ _ _ q1];simp only [cG,sZ];rw [i7,dO (dj (Nat.le_max_left m m2)) _ _ _ q2];simp only [cG,sZ];exact dO (dj (Nat.le_max_right m m2)) _ _ _ r1
 ·obtain ⟨E2,st3,k1,k2,k3,k4⟩:=r3 p hp;rw [hfl] at k4;exact ⟨E2,st3,k1,k2.trans hfl,k3,q4.trans k4⟩
theorem H9 {id:Nat} {l:List Oper} {s s':St} (h:aO T r l l s=some [s']):bE T r (.region id l.toArray false) s=some [(.normal,s')]:=by rw [bP];simp only [cond_false,h,List.map_cons,List.map_nil]
theorem FB {id:Nat} {l:List Oper} {n:Nat} {s s':St} (hp:Fk l) (hc:Nat.ble (l.countP fun o=>!kT o) 1=true) (hn:qJ l.toArray=none) (ht:ez l.toArray=n) (hl:l.length=n) (h:aO T r l l s=some [s']):bE T r (.region id l.toArray true) s=some [(.normal,s')]:=by
 obtain ⟨s2,h2,hd⟩:=ry (ops:=l.toArray) l 0 s [s'] [] hp h rfl (fun _ h=>by cases h) (.inl ⟨(fun _ h=>by cases h),Nat.le_of_ble_eq_true hc⟩);simp only [List.cons.injEq,and_true] at h2;subst h2;rw [bP];have:bH T r l.toArray s=some [s']:=by unfold bH;simp only [hn,ht];rw [←hl,List.take_length,hd,List.drop_length];rfl
 simp only [cond_true,this,List.map_cons,List.map_nil]
end
section
variable {T : bJ} {tab : List XE} {one : Bool} {fl base : Nat} {E E' E2 : Env} {hp hp' hp2 : List AB} {aE amb' : bA} {H H' H2 : Hp} {ρ ρ2 : Nat → Nat → Option Nat} {g g2 : aH} {O O2 : Nat → Prop}
def DL (T:bJ) (tab:List XE) (F1:AV) (as1:List AV) (F2:AV) (as2:List AV) (v:AV):Prop :=
 v.deep=true∧∀ (X:Nat→Prop) (H:Hp) (u1:Value) (us1:List Value),Wf H→(∀ k,X k→k < H.n)→DR H.get X F1 u1→qA H.get X as1 us1 →
  ∃ g1,cO u1 us1=some g1∧∃ m1 w1 H1,RX T tab m1 (gJ {H with lo:=H.n} g1)=some [.ret w1 H1]∧H.n≤H1.n∧H.n≤H1.lo∧∀ (u2:Value) (us2:List Value),DR H.get X F2 u2→qA H.get X as2 us2 →
   ∃ g2,cO u2 (w1 :: us2)=some g2∧∃ m2 w2 H2,RX T tab m2 (gJ {H1 with lo:=H1.n} g2)=some [.ret w2 H2]∧H1.n≤H2.n∧Wf H2∧(∀ k,k < H.n→H2.get k=H.get k)∧H.n≤H2.lo∧DR H2.get X v w2
theorem aR.TG (h:aR E base hp aE H) (n:Nat):aR E base hp aE {H with lo:=n} :=
 ⟨h.wf,h.gE,h.inj,h.rn,h.fresh,h.new,h.sup,h.iM,h.dx,h.ds,h.sn,h.xn,h.pV,h.bn,h.aE⟩
theorem DL.of {F1 F2 w v:AV} {as1 as2:List AV} {hp1:List AB} (hv:v.deep=true)
  (h1:az T tab true F1 as1 [] bA.none fun a hp aE=>a=w∧hp=hp1∧aE=bA.none) (h2:az T tab true F2 (w :: as2) hp1 bA.none fun a hp _=>Fz hp a v):DL T tab F1 as1 F2 as2 v:=by
 refine ⟨hv,fun X H u1 us1 hwf hX d1 d2=>?_⟩
 let E:Env:=⟨fun _ _=>none,fun _=>False,fun _=>False,X⟩
 have hno:∀ k,¬ Own E.ρ [] k:=fun k ⟨j,b,aA,h,_⟩=>by cases h
 have hO:∀ k,E.O [] k→X k:=fun k h=>h.elim (fun h=>(hno k h).elim) id
 have hrel:aR E H.n [] bA.none {H with lo:=H.n} :=
  {wf:=hwf,gE:=fun j b aA h _=>(by cases h),inj:=fun j j' aA ver' k h=>(by cases h),rn:=fun j v k h=>(by cases h),fresh:=fun j b aA v h=>(by cases h),new:=fun _ _ _=>rfl,
   sup:=fun k h=>(hno k h).elim,iM:=fun k h=>(hno k h).elim,dx:=fun k h=>h.elim,ds:=fun k h=>h.elim,sn:=fun k h=>h.elim,xn:=hX,
   pV:=fun k h=>h.elim (fun h=>(hno k h).elim) (fun h=>h.elim),bn:=qq6 _,aE:=trivial}
 have up:∀ {a:AV} {u:Value},DR H.get X a u→AR E.ρ H.get (E.O []) a u:=fun h=>.d (h.mono fun k b hk ho=>⟨hk,fun h=>ho (hO k h)⟩);have upL:∀ {a:List AV} {u:List Value},qA H.get X a u→fP E.ρ H.get (E.O []) a u:=fun h=>⟨h.1,fun i a u x y=>up (h.2 i a u x y)⟩;obtain ⟨g1,hg1,m1,L1,r1,r2,r3⟩:=h1 E H.n {H with lo:=H.n} u1 us1 hrel (up d1) (upL d2);obtain ⟨x,rfl⟩:=r2 rfl;obtain ⟨w1,H1,rfl,E1,a1,hq,amb1,⟨rfl,rfl,rfl⟩,k1,k2,k3⟩:=r3 x List.mem_cons_self;have k1':=k1.TG H1.n;have hn1:H.n≤H1.n:=k3.n;have lo1:min H.n H.n≤H1.lo:=k3.lo;refine ⟨g1,hg1,m1,w1,H1,r1,hn1,by omega,fun u2 us2 d3 d4=>?_⟩;have d3':AR E1.ρ H1.get (E1.O hq) F2 u2:=k3.ar hrel (up d3);have d4':fP E1.ρ H1.get (E1.O hq) as2 us2:=⟨d4.1,fun i a u x y=>k3.ar hrel (up (d4.2 i a u x y))⟩;obtain ⟨g2,hg2,m2,L2,s1,s2,s3⟩:=h2 E1 H.n {H1 with lo:=H1.n} u2 (w1 :: us2) k1' d3' (.cons k2 d4');obtain ⟨y,rfl⟩:=s2 rfl;obtain ⟨w2,H2,rfl,E2,a2,hp2,amb2,hfz,t1,t2,t3⟩:=s3 y List.mem_cons_self;have lo2:min H1.n H.n≤H2.lo:=t3.lo;refine ⟨g2,hg2,m2,w2,H2,s1,t3.n,t1.wf,fun k hk=>?_,by omega,hfz.dr t1 (fun k hk=>t3.xk k (k3.xk k hk)) t2⟩
 have no1:¬ Own E1.ρ hq k:=fun h=>by
  rcases k3.own k h with h|h
  ·exact hno k h
  ·have h:H.n≤k:=h;omega
 have no2:¬ E1.D k:=fun h=>by
  rcases k3.d k h with h|h
  ·exact h
  ·have h:H.n≤k:=h;omega
 have e1:H2.get k=H1.get k:=t3.same k (Nat.lt_of_lt_of_le hk hn1) no1 no2;have e2:H1.get k=H.get k:=k3.same k hk (hno k) (fun h=>h);rw [e1,e2]
theorem DM {mu:Tmp→Bool} {dst:Option Tmp} {op:Op} {i:Nat} {bt:Nat→Nat} {fr:Nat→AV} {K:(Nat→AV)→List AB→(Nat→Nat)→hU→Prop} {tr:Nat→bC} {s:St} (h:eD T tab mu dst op i bt fr hp fun fr' hp' bt' x=>(yE op || x.acc.all fun p=>p.wr || p.own.isNone)=true∧K fr' hp' bt' x)
  (ht:ji base aE tr i) (h1:(tr i).hp=hp) (h2:(tr i).H=s.hp) (hb:cX tr i bt fr s.fr) :
  ∃ (z:bC) (v:AV) (u:Value) (b:Nat) (x:hU) (t:Tc) (m0:Nat),aR z.E base z.hp aE z.H∧Ext base (tr i).E (tr i).hp (tr i).H z.E z.hp z.H∧b≤i+1∧(snoc tr i z b).ar v u∧x.i=i∧oY (snoc tr i z) x t ∧
   (∀ m,m0≤m→aP T (RX T tab m) op i s=some (u,z.H,t))∧K (kY fr dst v) z.hp (gL dst bt b) x:=by
 have hrel:=ht.rel i (qq6 _);have hfr:iF (tr i).E.ρ (tr i).H.get ((tr i).E.O (tr i).hp) fr s.fr:=fun t=>(ht.ext _ i (hb t).1 (qq6 _)).ar (ht.rel _ (hb t).1).wf (hb t).2
 have go:∀ (z:bC) (v:AV) (u:Value) (b:Nat) (x:hU) (t:Tc) (m0:Nat),aR z.E base z.hp aE z.H→Ext base (tr i).E (tr i).hp (tr i).H z.E z.hp z.H→b≤i+1→(snoc tr i z b).ar v u→x.i=i→oY (snoc tr i z) x t →
   (∀ m,m0≤m→aP T (RX T tab m) op i s=some (u,z.H,t))→K (kY fr dst v) z.hp (gL dst bt b) x →
   ∃ (z:bC) (v:AV) (u:Value) (b:Nat) (x:hU) (t:Tc) (m0:Nat),aR z.E base z.hp aE z.H∧Ext base (tr i).E (tr i).hp (tr i).H z.E z.hp z.H∧b≤i+1∧(snoc tr i z b).ar v u∧x.i=i∧oY (snoc tr i z) x t ∧
    (∀ m,m0≤m→aP T (RX T tab m) op i s=some (u,z.H,t))∧K (kY fr dst v) z.hp (gL dst bt b) x :=
  fun z v u b x t m0 q1 q2 q3 q4 q5 q6 q7 q8=>⟨z,v,u,b,x,t,m0,q1,q2,q3,q4,q5,q6,q7,q8⟩
 unfold eD at h;split at h
 ·rename_i f args hk;have h:=eJ (bf h);obtain ⟨hF,vs,v,hhand,⟨hvd,hpure⟩,h⟩:=h;have hF':=(nx hfr f).deep hF;have hget:({s.hp with lo:=s.hp.n}:Hp).get=(tr i).H.get:=by rw [h2];rfl
  obtain ⟨goal,hgo,m0,L,q1,q2,q3⟩:∃ goal,cO (iP T.P s.fr f) (args.map (aF s.fr))=some goal ∧
    ∃ m L,RX T tab m (gJ {s.hp with lo:=s.hp.n} goal)=some L∧(true=true→∃ r,L=[r])∧∀ r ∈ L,∃ w H',r=.ret w H' ∧
     ({s.hp with lo:=s.hp.n}:Hp).n≤H'.n∧Wf H'∧(∀ k,k < ({s.hp with lo:=s.hp.n}:Hp).n→H'.get k=({s.hp with lo:=s.hp.n}:Hp).get k)∧min ({s.hp with lo:=s.hp.n}:Hp).lo ({s.hp with lo:=s.hp.n}:Hp).n≤H'.lo∧DR H'.get ((tr i).E.O (tr i).hp) v w:=by
   rcases hhand with ⟨rfl,hA⟩|⟨hz,hfree⟩
   ·have hA':=(cV hfr args).deep hA
    exact hpure ((tr i).E.O (tr i).hp) {s.hp with lo:=s.hp.n} _ _ (by rw [h2] at hrel;exact hrel.wf) (fun k hk=>by
     have:k < (tr i).H.n:=hk.elim (fun h=>hrel.iE h) (hrel.xn k)
     rw [h2] at this;exact this) (by rw [hget];exact hF') (by rw [hget];exact hA')
   ·obtain ⟨goal,hgo,m0,L,q1,q2,q3⟩:=hpure (tr i).E.X {s.hp with lo:=s.hp.n} _ _ (by rw [h2] at hrel;exact hrel.wf) (fun k hk=>by
     have:k < (tr i).H.n:=hrel.xn k hk
     rw [h2] at this;exact this) (by rw [hget];exact hF'.mono fun k b hk ho=>⟨hk,fun hx=>ho (.inr hx)⟩) (by
      rw [hget];rw [←h1] at hz
      exact hz.dr hrel (fun _ h=>h) (cV hfr args))
    refine ⟨goal,hgo,m0,L,q1,q2,fun r hm=>?_⟩;obtain ⟨w,H',e1,e2,e3,e4,e5,e6⟩:=q3 r hm;exact ⟨w,H',e1,e2,e3,e4,e5,hfree.2 _ _ _ _ e6⟩
  obtain ⟨r,hr⟩:=q2 rfl;subst hr;obtain ⟨w,H',rfl,hn,hwf,hsame,hlo,hdr⟩:=q3 r (by simp)
  obtain ⟨g1,g2⟩:=hrel.grow (H':={H' with lo:=s.hp.lo}) (by rw [h2];exact hn) hwf (fun k hk=>by
   have:=hsame k (by rw [←h2];exact hk)
   rw [h2];exact this) (by rw [h2];exact Nat.min_le_left _ _)
  refine go ⟨(tr i).E,hp,{H' with lo:=s.hp.lo}⟩ v w (i+1) ⟨i,[],true,true⟩ ⟨i,[],[],true,s.hp.n,H'.n⟩ m0 (by rw [←h1];exact g1) (by rw [←h1];exact g2) (qq6 _) ?_ rfl ?_ (fun m hm=>?_) (bQ h).2
  ·rw [aU (Nat.lt_succ_self _)];refine .d ?_;show DR H'.get ((tr i).E.O hp) v w;rw [←h1];exact hdr
  ·refine ⟨⟨rfl,by rw [aS (qq6 _),h2],by rw [aU (Nat.lt_succ_self _)],fun h=>Bool.noConfusion h,rfl,fun k hk=>(by cases hk),fun k hk=>(by cases hk)⟩,fun k hk=>(by cases hk),fun _=>?_⟩;rw [aU (Nat.lt_succ_self _),aS (qq6 _)];exact ⟨rfl,h1.symm⟩
  ·unfold aP;simp only [hk,hgo,dj hm _ _ q1]
   have:Nat.ble s.hp.n H'.lo=true:=Nat.ble_eq_true_of_le (by
    have:min s.hp.n s.hp.n≤H'.lo:=hlo
    omega)
   rw [i6 this]
 ·exact h.elim
 ·rename_i hk;obtain ⟨a,hacc,hw⟩:=h;have hw':=hw;rw [←h1] at hw';obtain ⟨r,w,ht1,ht2,ht3⟩:=qb ht hb hacc hw'
  have evr:∀ (z:bC) (u:Value) (e:bS),(yE op || a.all fun p=>p.wr || p.own.isNone)=true→gX T s.hp.n op (aF s.fr) s.hp.get=some (u,e)→z.H=s.hp.app e→oY (snoc tr i z) ⟨i,a,news? op,false⟩ ⟨i,r,w,false,s.hp.n,(s.hp.app e).n⟩:=by
   intro z u e hro hop hz;refine ⟨⟨rfl,by rw [aS (qq6 _),h2],by rw [aU (Nat.lt_succ_self _),hz],fun hal _=>(mF (mE hop hal)).symm,rfl,fun k hk=>?_,fun k hk=>?_⟩,fun k hk=>?_,fun h=>Bool.noConfusion h⟩
   ·obtain ⟨p,p1,p2,p3⟩:=ht2 k hk;exact ⟨p,p1,p2,p3.snoc (qq6 _)⟩
   ·obtain ⟨p,p1,p2,p3⟩:=ht3 k hk;exact ⟨p,p1,p2,p3.snoc (qq6 _)⟩
   ·obtain ⟨p,p1,p2,p3,p4⟩:=Dt ht hb hro hacc hw' ht1 k hk;exact ⟨p,p1,p2,p3.snoc (qq6 _),fun ho=>by rw [aS (qq6 _)];exact p4 ho⟩
  have drw:∀ (u:Value) (e:bS) (m:Nat),gX T s.hp.n op (aF s.fr) s.hp.get=some (u,e)→aP T (RX T tab m) op i s=some (u,s.hp.app e,⟨i,r,w,false,s.hp.n,(s.hp.app e).n⟩):=by intro u e m hop;unfold aP;simp only [hk,ht1,hop]
  by_cases hm:∃ x,wU op fr=some [x]
  ·obtain ⟨x,hm⟩:=hm;have hbirth:iT op fr bt i=ny bt x:=by unfold iT;rw [hm]
   have hbx:=hb.eval x;have eb:=ht.ext _ i hbx.1 (qq6 _);obtain ⟨u,v,r1,r2,r3,r4⟩:=sD (ρ2:=(tr (ny bt x)).E.ρ) (g2:=(tr (ny bt x)).H.get) (O2:=(tr (ny bt x)).E.O (tr (ny bt x)).hp) (n:=s.hp.n) hfr hm (fun y hy=>by obtain rfl:=List.mem_singleton.1 hy;exact hbx.2) (fun k b hk ho=>(eb.keep (ht.rel _ hbx.1).wf k b hk ho).1) hw;rw [h2] at r1;have hz:(tr i).H=s.hp.app .none:=h2;rw [hbirth] at r2;refine go (tr i) v u (ny bt x) ⟨i,a,news? op,false⟩ ⟨i,r,w,false,s.hp.n,(s.hp.app .none).n⟩ 0 hrel .refl (by omega) (by rw [aS hbx.1];exact r4) rfl (evr _ u .none (bQ (bf r2)).1 r1 hz) (fun m _=>by rw [hz];exact drw u .none m r1) (by rw [h1];exact (bQ (bf r2)).2)
  ·have hbirth:iT op fr bt i=i+1:=by
    unfold iT;split
    ·rename_i x hx;exact absurd ⟨x,hx⟩ hm
    ·rfl
   obtain ⟨u,e,E',v,hp',r1,r2,r3,r4,r5⟩:=hJ hrel hfr hw';rw [h2] at r1 r3 r4 r5;rw [hbirth] at r2;refine go ⟨E',hp',s.hp.app e⟩ v u (i+1) ⟨i,a,news? op,false⟩ ⟨i,r,w,false,s.hp.n,(s.hp.app e).n⟩ 0 r3 (by rw [h2];exact r4) (qq6 _) (by rw [aU (Nat.lt_succ_self _)];exact r5) rfl (evr _ u e (bQ (bf r2)).1 r1 rfl) (fun m _=>drw u e m r1) (bQ (bf r2)).2
inductive mM where
 | pl (x:hU)
 | quiet (i:Nat)
 | span (i i0 i1:Nat)
def mM.i:mM→Nat
 | .pl x=>x.i
 | .quiet i=>i
 | .span i _ _=>i
inductive xJ (tr:Nat→bC):mM→Tc→Prop
 | pl {x:hU} {t:Tc}:oY tr x t→xJ tr (.pl x) t
 | quiet {i:Nat} {t:Tc}:t.idx=i→t.rd=[]→t.wr=[]→t.call=false→t.a=t.b→xJ tr (.quiet i) t
 | span {i i0 i1:Nat} {t:Tc}:t.idx=i→t.rd=[]→t.call=true→i0≤i→(∀ k ∈ t.wr,(tr i0).H.n≤k)→(tr i0).H.n≤t.a→t.b≤(tr i1).H.n→xJ tr (.span i i0 i1) t
theorem xJ.idx {tr:Nat→bC} {x:mM} {t:Tc} (h:xJ tr x t):t.idx=x.i:=by
 cases h with
 | pl h=>exact h.ev.idx
 | quiet h=>exact h
 | span h=>exact h
def mM.top:mM→Nat
 | .pl x=>x.i+1
 | .quiet i=>i+1
 | .span i _ i1=>max (i+1) i1
theorem xJ.snoc {tr:Nat→bC} {i:Nat} {z:bC} {x:mM} {t:Tc} (h:xJ tr x t) (hi:x.top≤i):xJ (snoc tr i z) x t:=by
 cases h with
 | pl h=>exact .pl (h.snoc (by have:_+1≤i:=hi;omega))
 | quiet a b c d e=>exact .quiet a b c d e
 | span a b c d f g k =>
  rename_i i' i0 i1;have hi:max (i'+1) i1≤i:=hi;refine .span a b c d ?_ ?_ ?_
  ·rw [aS (by omega)];exact f
  ·rw [aS (by omega)];exact g
  ·rw [aS (by omega)];exact k
def DN:mM→mM→Bool
 | .quiet _,_=>true
 | _,.quiet _=>true
 | .pl x,.pl y=>sO x y
 | .pl x,.span _ i0 _=>x.acc.all (fun p=>Nat.ble p.b i0 && !p.wr) && !x.call && !x.al
 | .span _ _ _,.pl y=>y.acc.isEmpty && !y.call && !y.al
 | .span _ _ _,.span _ _ _=>false
theorem jm {s t:Tc} (h:t.rd=[]∧t.wr=[]∧t.call=false∧t.a=t.b):conflict s t=false∧conflict t s=false:=by obtain ⟨h1,h2,h3,h4⟩:=h;have mn:∀ l,meets [] l=false:=fun _=>rfl;unfold conflict;rw [h1,h2,h3,h4];constructor <;> simp [mn,ru,kU,qj]
theorem Mk {tr:Nat→bC} {n:Nat} (ht:ji base aE tr n) {x y:mM} {s t:Tc} (hs:xJ tr x s) (hy:xJ tr y t) (hxy:x.i < y.i) (hn:y.top≤n) (hf:DN x y=true):conflict s t=false:=by
 have emp:∀ {y:hU} {t:Tc},oY tr y t→y.acc.isEmpty=true→y.call=false→y.al=false→t.rd=[]∧t.wr=[]∧t.call=false∧t.a=t.b:=by
  intro y t h h1 h2 h3;have h1:y.acc=[]:=List.isEmpty_iff.1 h1;refine ⟨List.eq_nil_iff_forall_not_mem.2 fun k hk=>?_,List.eq_nil_iff_forall_not_mem.2 fun k hk=>?_,by rw [h.ev.call];exact h2,h.ev.al h3 h2⟩
  ·obtain ⟨p,hp,_⟩:=h.ev.rd k hk;rw [h1] at hp;cases hp
  ·obtain ⟨p,hp,_⟩:=h.ev.wr k hk;rw [h1] at hp;cases hp
 cases hs with
 | quiet a b c d e=>exact (jm ⟨b,c,d,e⟩).2
 | pl hx =>
  cases hy with
  | quiet a b c d e=>exact (jm ⟨b,c,d,e⟩).1
  | pl hy=>exact xu ht hx hy hxy (by have:_+1≤n:=hn;omega) hf
  | span a b c d f g k =>
   rename_i x i i0 i1;have hxy:x.i < i:=hxy;have hn:max (i+1) i1≤n:=hn;simp only [DN,qq7,List.all_eq_true,Bool.not_eq_true'] at hf;obtain ⟨⟨f1,f2⟩,f3⟩:=hf;have hw:s.wr=[]:=List.eq_nil_iff_forall_not_mem.2 fun q hq=>by obtain ⟨p,hp,h1,_⟩:=hx.ev.wr q hq;have:=(f1 p hp).2;rw [h1] at this;cases this
   have hr:∀ q ∈ s.rd,q < (tr i0).H.n:=fun q hq=>by obtain ⟨p,hp,_,h2⟩:=hx.ev.rd q hq;have h3:=Nat.le_of_ble_eq_true (f1 p hp).1;have:=(ht.ext p.b i0 h3 (by omega)).n;have:=h2.2.1;omega
   have hc:s.call=false:=by rw [hx.ev.call];exact f2
   have hab:=hx.ev.al f3 f2
   cases hcf:conflict s t with
   | false=>rfl
   | true =>
    exfalso;unfold conflict at hcf;rw [hw,hc,b,hab] at hcf;have mn:∀ l,meets [] l=false:=fun _=>rfl;simp only [mn,kU,qj,Bool.false_and,Bool.false_or,Bool.or_false,List.isEmpty_nil,Bool.not_true,Bool.and_false,Bool.or_eq_true] at hcf
    rcases hcf with hcf|hcf
    ·obtain ⟨q,q1,q2⟩:=eG.1 hcf;have:=f q q1;have:=hr q q2;omega
    ·obtain ⟨q,q1,q2,_⟩:=within_iff.1 hcf;have:=hr q q1;omega
 | span a b c d f g k =>
  cases hy with
  | quiet a b c d e=>exact (jm ⟨b,c,d,e⟩).1
  | pl hy =>simp only [DN,qq7,Bool.not_eq_true'] at hf;exact (jm (emp hy hf.1.1 hf.1.2 hf.2)).1
  | span=>cases hf
def Ml (b:List Nat):List mM→Bool
 | []=>true
 | y :: l=>l.all (fun x=>(b.getD y.i 0).testBit x.i || DN x y) && Ml b l
inductive iV (tr:Nat→bC) (n:Nat):Nat→List mM→List Ev→Prop
 | nil:iV tr n 0 [] []
 | cons {i:Nat} {x:mM} {ev:Ev} {l:List mM} {m:List Ev}:iV tr n i l m→x.i=i→x.top≤n→xJ tr x ev.t→iV tr n (i+1) (x :: l) (ev :: m)
theorem iV.lt {tr:Nat→bC} {n i:Nat} {l:List mM} {m:List Ev} (h:iV tr n i l m):∀ x ∈ l,x.i < i:=by
 induction h with
 | nil=>intro x hx;cases hx
 | cons _ hi _ _ ih =>
  intro y hy
  rcases List.mem_cons.1 hy with rfl|hy
  ·omega
  ·have:=ih y hy;omega
theorem iV.snoc {tr:Nat→bC} {n n':Nat} {z:bC} {i:Nat} {l:List mM} {m:List Ev} (h:iV tr n i l m) (hn:n≤n'):iV (snoc tr n z) n' i l m:=by
 induction h with
 | nil=>exact .nil
 | cons _ hi ht he ih=>exact .cons ih hi (by omega) (he.snoc ht)
theorem iV.pairs {tr:Nat→bC} {n:Nat} (ht:ji base aE tr n) {b:List Nat} {i:Nat} {l:List mM} {m:List Ev} (h:iV tr n i l m):Ml b l=true→bT T b m=true:=by
 induction h with
 | nil=>intro _;rfl
 | cons hl hi htop he ih =>
  rename_i i y ev l m;intro hc;simp only [Ml,qq7,List.all_eq_true] at hc;simp only [bT,qq7,List.all_eq_true];refine ⟨?_,ih hc.2⟩;have hc1:=hc.1;clear ih hc
  have key:∀ {j:Nat} {l:List mM} {m:List Ev},iV tr n j l m→(∀ x ∈ l,(b.getD y.i 0).testBit x.i=true∨DN x y=true)→j≤y.i→∀ s ∈ m,(!conflict s.t ev.t || (b.getD ev.t.idx 0).testBit s.t.idx || spare T s ev)=true:=by
   intro j l m h
   induction h with
   | nil=>intro _ _ s hs;cases hs
   | cons hl' hi' htop' he' ih' =>
    rename_i x ev' _ _;intro hx hj s hs
    rcases List.mem_cons.1 hs with rfl|hs
    ·rcases hx x (by simp) with h|h
     ·rw [he.idx,he'.idx,h];simp
     ·rw [Mk ht he' he (by omega) htop h];simp
    ·exact ih' (fun z hz=>hx z (List.mem_cons_of_mem _ hz)) (by omega) s hs
  exact key hl (fun x hx=>by simpa using hc1 x hx) (by omega)
def lS (T:bJ) (tab:List XE) (mu:Tmp→Bool) (ops:Array Oper) (aE:bA) (rd:Bool) (fl:Nat):List Oper→Nat→(Nat→Nat)→List mM→(Nat→AV)→List AB→(Nat→(Nat→Nat)→List mM→(Nat→AV)→List AB→Prop)→Prop
 | [],i,bt,acc,fr,hp,K=>K i bt acc fr hp
 | ⟨dst,op,_,_,_,gd⟩ :: l,i,bt,acc,fr,hp,K=>gd=none ∧
  eD T tab mu dst op i bt fr hp fun fr' hp' bt' x=>(yE op || x.acc.all fun p=>p.wr || p.own.isNone)=true∧lS T tab mu ops aE rd fl l (i+1) bt' (.pl x :: acc) fr' hp' K
structure rA (T:bJ) (base:Nat) (aE:bA) (tr:Nat→bC) (i:Nat) (bt:Nat→Nat) (acc:List mM) (fr:Nat→AV) (hp:List AB) (s:St) (evs:List Ev):Prop where
 ht:ji base aE tr i
 h1:(tr i).hp=hp
 h2:(tr i).H=s.hp
 hb:cX tr i bt fr s.fr
 he:iV tr i i acc evs
theorem js {mu:Tmp→Bool} {ops:Array Oper} {rd:Bool} {fl:Nat}:∀ {l:List Oper} {i:Nat} {bt:Nat→Nat} {acc:List mM} {evs:List Ev} {fr:Nat→AV} {hp:List AB} {K:Nat→(Nat→Nat)→List mM→(Nat→AV)→List AB→Prop} {tr:Nat→bC} {s:St},
  lS T tab mu ops aE rd fl l i bt acc fr hp K→rA T base aE tr i bt acc fr hp s evs →
  ∃ (m0 i':Nat) (bt':Nat→Nat) (acc':List mM) (fr':Nat→AV) (hp':List AB) (tr':Nat→bC) (s':St) (evs':List Ev),K i' bt' acc' fr' hp'∧rA T base aE tr' i' bt' acc' fr' hp' s' evs'∧tr' 0=tr 0∧s'.rd=s.rd ∧
   ∀ m,m0≤m→∀ rest,bh T (RX T tab m) ops (l++rest) i s evs=bh T (RX T tab m) ops rest i' s' evs'
 | [],i,bt,acc,evs,fr,hp,K,tr,s,h,hw=>⟨0,i,bt,acc,fr,hp,tr,s,evs,h,hw,rfl,rfl,fun _ _ _=>rfl⟩
 | ⟨dst,op,a1,a2,a3,gd⟩ :: l,i,bt,acc,evs,fr,hp,K,tr,s,h,hw=>by
  obtain ⟨hgd,h⟩:=h;subst hgd;obtain ⟨z,v,u,b,x,t,m0,q1,q2,q3,q4,q5,q6,q7,q8⟩:=DM h hw.ht hw.h1 hw.h2 hw.hb;have hx:(mM.pl x).top≤i+1:=by show x.i+1≤i+1;omega
  obtain ⟨m1,i',bt',acc',fr',hp',tr',s',evs',r1,r2,r3,r4,r5⟩:=js (s:=⟨cD s.fr dst u,z.H,s.rd⟩) (evs:=⟨⟨dst,op,a1,a2,a3,none⟩,s,u,z.H,t⟩ :: evs) q8
   ⟨hw.ht.snoc q1 q2,by rw [aU (Nat.lt_succ_self _)],by rw [aU (Nat.lt_succ_self _)],hw.hb.put q3 q4 dst,.cons (hw.he.snoc (Nat.le_succ _)) q5 hx (.pl q6)⟩
  rw [aS (qq5 _)] at r3;refine ⟨max m0 m1,i',bt',acc',fr',hp',tr',s',evs',r1,r2,r3,r4,fun m hm rest=>?_⟩;rw [List.cons_append,aM];simp only [aY,cond_true,q7 m (by omega)];exact r5 m (by omega) rest
def Mm (T:bJ):List Oper→(Nat→AV)→((Nat→AV)→Prop)→Prop
 | [],fr,K=>K fr
 | ⟨dst,op,_,_,_,gd⟩ :: l,fr,K=>gd=none∧cP op=.plain∧(∀ ρ,iA op ρ=some ([],[]))∧∃ v:Value,aV v=true∧(∀ (ρ:Operand→Value),(∀ x c,aN fr x=.fl c→ρ x=c)→∀ n g,gX T n op ρ g=some (v,.none))∧Mm T l (kY fr dst (.fl v)) K
def NM:List Oper→(Nat→Nat)→Nat→Nat
 | [],bt=>bt
 | o :: l,bt=>NM l (gL o.dst bt 0)
def NN:Nat→List Oper→List mM→List mM
 | _,[],acc=>acc
 | i,_ :: l,acc=>NN (i+1) l (.quiet i :: acc)
def DO (fr:Nat→AV) (tm:Tr Value):Prop:=∀ x c,aN fr x=.fl c→aF tm x=c
theorem DO.put {fr:Nat→AV} {tm:Tr Value} (h:DO fr tm) {a:AV} {v:Value} (ha:∀ c,a=.fl c→v=c) (d:Option Tmp):DO (kY fr d a) (cD tm d v):=by
 cases d with
 | none=>exact h
 | some d =>
  intro x c hx
  cases x with
  | tmp t =>
   have hx:(bif Nat.beq t d then a else fr t)=.fl c:=hx;show ((tm.set d v).get t).getD undef=c;rw [Tr.eY];rw [Tr.beq_eq] at hx;by_cases htd:t=d
   ·rw [decide_eq_true htd] at hx;rw [if_pos htd];exact ha c hx
   ·rw [decide_eq_false htd] at hx;rw [if_neg htd];exact h (.tmp t) c hx
  | const w=>exact h (.const w) c hx
  | global g=>exact h (.global g) c hx
  | func f=>exact h (.func f) c hx
theorem cX.flat {tr:Nat→bC} {n:Nat} {bt:Nat→Nat} {fr:Nat→AV} {tm:Tr Value} (hb:cX tr n bt fr tm):DO fr tm:=fun x c hx=>by have:=(hb.eval x).2;rw [hx] at this;exact this.dW.1
theorem cX.SX {tr:Nat→bC} {n:Nat} {bt:Nat→Nat} {fr:Nat→AV} {tm:Tr Value} (hb:cX tr n bt fr tm) {a:AV} {v:Value} (ha:(tr 0).ar a v) (d:Option Tmp):cX tr n (gL d bt 0) (kY fr d a) (cD tm d v):=by
 intro t;have old:=hb t
 cases d with
 | none=>exact old
 | some d =>
  show (bif Nat.beq t d then 0 else bt t)≤n∧(tr (bif Nat.beq t d then 0 else bt t)).ar (bif Nat.beq t d then a else fr t) (((tm.set d v).get t).getD undef);rw [Tr.eY,Tr.beq_eq];by_cases htd:t=d
  ·rw [if_pos htd,decide_eq_true htd];exact ⟨qq5 _,ha⟩
  ·rw [if_neg htd,decide_eq_false htd];exact old
theorem zX {ops:Array Oper} {K:(Nat→AV)→Prop}:∀ {ms:List Oper} {fr:Nat→AV},Mm T ms fr K →
  ∃ fr',K fr'∧∀ (i:Nat) (evs:List Ev) (s:St),DO fr s.fr→∃ s' evs',s'.hp=s.hp∧s'.rd=s.rd∧(∀ d,(ms.all fun o=>match o.dst with|some d'=>!Nat.beq d' d|none=>true)=true→s'.fr.get d=s.fr.get d) ∧
   (∀ {tr:Nat→bC} {n:Nat} {bt:Nat→Nat},cX tr n bt fr s.fr→cX tr n (NM ms bt) fr' s'.fr) ∧
   (∀ {tr:Nat→bC} {n:Nat} {acc:List mM},iV tr n i acc evs→i+ms.length≤n→iV tr n (i+ms.length) (NN i ms acc) evs') ∧
   ∀ rec' rest,bh T rec' ops (ms++rest) i s evs=bh T rec' ops rest (i+ms.length) s' evs'
 | [],fr,h=>⟨fr,h,fun i evs s _=>⟨s,evs,rfl,rfl,fun _ _=>rfl,fun h=>h,fun h _=>h,fun _ _=>rfl⟩⟩
 | ⟨dst,op,a1,a2,a3,gd⟩ :: ms,fr,h=>by
  obtain ⟨hgd,hk,hto,v,hv,ho,h⟩:=h;subst hgd;obtain ⟨fr',hK,r⟩:=zX (ops:=ops) h;refine ⟨fr',hK,fun i evs s hfl=>?_⟩;have hop:=ho (aF s.fr) hfl s.hp.n s.hp.get;have hd:∀ rec,aP T rec op i s=some (v,s.hp,⟨i,[],[],false,s.hp.n,s.hp.n⟩):=by intro rec;unfold aP;simp only [hk,hto,hop];rfl
  obtain ⟨s',evs',r2,r3,r3',r4,r5,r6⟩:=r (i+1) (⟨⟨dst,op,a1,a2,a3,none⟩,s,v,s.hp,⟨i,[],[],false,s.hp.n,s.hp.n⟩⟩ :: evs) ⟨cD s.fr dst v,s.hp,s.rd⟩ (hfl.put (fun c hc=>by cases hc;rfl) dst);refine ⟨s',evs',r2,r3,fun d hd=>?_,fun hb=>r4 (hb.SX (.d (.fl hv)) dst),fun {tr n acc} he hn=>?_,fun rec' rest=>?_⟩
  ·rw [List.all_cons,qq7] at hd;rw [r3' d hd.2]
   cases dst with
   | none=>rfl
   | some d' =>have hdd:(!Nat.beq d' d)=true:=hd.1;rw [Tr.beq_eq] at hdd;show (s.fr.set d' v).get d=_;rw [Tr.eY,if_neg];intro e;rw [e] at hdd;simp at hdd
  ·have hn:i+(ms.length+1)≤n:=hn;show iV tr n (i+(ms.length+1)) _ evs';rw [show i+(ms.length+1)=i+1+ms.length by omega];exact r5 (.cons he rfl (by show i+1≤n;omega) (.quiet rfl rfl rfl rfl rfl)) (by omega)
  ·rw [List.cons_append,aM];simp only [aY,cond_true,hd];rw [show i+(⟨dst,op,a1,a2,a3,none⟩ :: ms:List Oper).length=i+1+ms.length by simp;omega];exact r6 rec' rest
def Mn (T:bJ) (tab:List XE) (o1:Oper) (ms:List Oper) (o2:Oper) (i:Nat) (bt:Nat→Nat) (acc:List mM) (fr:Nat→AV) (K:(Nat→Nat)→List mM→(Nat→AV)→Prop):Prop :=
 ∃ f1 args1 d1 f2 args2,o1.guard=none∧o2.guard=none∧cP o1.op=.call f1 args1∧o1.dst=some d1∧cP o2.op=.call f2 (.tmp d1 :: args2)∧(ms.all fun o=>match o.dst with|some d=>!Nat.beq d d1|none=>true)=true ∧
  (Mz T.P fr f1).deep=true∧cC (args1.map (aN fr))=true ∧
   Mm T ms (kY fr (some d1) .bX) fun fr'=>(Mz T.P fr' f2).deep=true∧cC (args2.map (aN fr'))=true∧∃ v,DL T tab (Mz T.P fr f1) (args1.map (aN fr)) (Mz T.P fr' f2) (args2.map (aN fr')) v ∧
    K (gL o2.dst (NM ms (gL (some d1) bt 0)) (i+ms.length+2)) (.span (i+ms.length+1) i (i+ms.length+2) :: NN (i+1) ms (.span i i (i+ms.length+2) :: acc)) (kY fr' o2.dst v)
theorem rA.stay {tr:Nat→bC} {i:Nat} {bt:Nat→Nat} {acc:List mM} {fr:Nat→AV} {s:St} {evs:List Ev} (h:rA T base aE tr i bt acc fr hp s evs):∀ k:Nat,∃ trk:Nat→bC,ji base aE trk (i+k)∧(∀ b,b≤i→trk b=tr b)∧trk (i+k)=tr i∧iV trk (i+k) i acc evs
 | 0=>⟨tr,h.ht,fun _ _=>rfl,rfl,h.he⟩
 | k+1=>by
  obtain ⟨trk,q1,q2,q3,q4⟩:=h.stay k;refine ⟨snoc trk (i+k) (tr i),?_,fun b hb=>?_,aU (by omega),q4.snoc (by omega)⟩
  ·exact q1.snoc (h.ht.rel i (qq6 _)) (by rw [q3];exact .refl)
  ·rw [aS (by omega),q2 b hb]
theorem BF {ops:Array Oper} {o1 o2:Oper} {ms:List Oper} {i:Nat} {bt:Nat→Nat} {acc:List mM} {evs:List Ev} {fr:Nat→AV} {K:(Nat→Nat)→List mM→(Nat→AV)→Prop} {tr:Nat→bC} {s:St}
  (h:Mn T tab o1 ms o2 i bt acc fr K) (hw:rA T base aE tr i bt acc fr hp s evs) :
  ∃ (m0:Nat) (bt':Nat→Nat) (acc':List mM) (fr':Nat→AV) (tr':Nat→bC) (s':St) (evs':List Ev),K bt' acc' fr'∧rA T base aE tr' (i+ms.length+2) bt' acc' fr' hp s' evs'∧tr' 0=tr 0∧s'.rd=s.rd ∧
   ∀ m,m0≤m→∀ rest,bh T (RX T tab m) ops (o1 :: (ms++(o2 :: rest))) i s evs=bh T (RX T tab m) ops rest (i+ms.length+2) s' evs':=by
 obtain ⟨f1,args1,d1,f2,args2,g1,g2,k1,e1,k2,hms,hF1,hA1,hmid⟩:=h;obtain ⟨ht,h1,h2,hb,he⟩:=hw;have hw:rA T base aE tr i bt acc fr hp s evs:=⟨ht,h1,h2,hb,he⟩;have hrel:=ht.rel i (qq6 _);have hfr:iF (tr i).E.ρ (tr i).H.get ((tr i).E.O (tr i).hp) fr s.fr:=fun t=>(ht.ext _ i (hb t).1 (qq6 _)).ar (ht.rel _ (hb t).1).wf (hb t).2;have hO:∀ k,(tr i).E.O (tr i).hp k→k < s.hp.n:=fun k hk=>by have:k < (tr i).H.n:=hk.elim (fun h=>hrel.iE h) (hrel.xn k);rw [h2] at this;exact this
 obtain ⟨fr',⟨hF2,hA2,v,hp,hK⟩,hm⟩:=zX (ops:=ops) hmid;obtain ⟨gl1,q1,m1,w1,H1,q2,hn1,hlo1,hsec⟩:=hp.2 ((tr i).E.O (tr i).hp) s.hp (iP T.P s.fr f1) (args1.map (aF s.fr)) (by rw [←h2];exact hrel.wf) hO (by rw [←h2];exact (nx hfr f1).deep hF1) (by rw [←h2];exact (cV hfr args1).deep hA1);have ev1:∀ m,m1≤m→aP T (RX T tab m) o1.op i s=some (w1,{H1 with lo:=s.hp.lo},⟨i,[],[],true,s.hp.n,H1.n⟩):=by intro m hm;unfold aP;simp only [k1,q1,dj hm _ _ q2];rw [i6 (Nat.ble_eq_true_of_le hlo1)]
 obtain ⟨s2,evs2,c1,c2,c3,c4,c5,c6⟩:=hm (i+1) (⟨o1,s,w1,{H1 with lo:=s.hp.lo},⟨i,[],[],true,s.hp.n,H1.n⟩⟩ :: evs) ⟨cD s.fr (some d1) w1,{H1 with lo:=s.hp.lo},s.rd⟩ (hb.flat.put (fun c hc=>by cases hc) (some d1));have hb1:=c4 (hb.SX (a:=.bX) (v:=w1) .bX (some d1));have hfr2:iF (tr i).E.ρ (tr i).H.get ((tr i).E.O (tr i).hp) fr' s2.fr:=fun t=>(ht.ext _ i (hb1 t).1 (qq6 _)).ar (ht.rel _ (hb1 t).1).wf (hb1 t).2;have hget:s2.fr.get d1=some w1:=by rw [c3 d1 hms];show (s.fr.set d1 w1).get d1=_;rw [Tr.eY,if_pos rfl]
 obtain ⟨gl2,q3,m2,w2,H2,q4,hn2,hwf2,hsame,hlo2,hdr⟩:=hsec (iP T.P s2.fr f2) (args2.map (aF s2.fr)) (by rw [←h2];exact (nx hfr2 f2).deep hF2) (by rw [←h2];exact (cV hfr2 args2).deep hA2)
 have ev2:∀ m,m2≤m→aP T (RX T tab m) o2.op (i+1+ms.length) s2=some (w2,{H2 with lo:=bif Nat.ble H1.n H2.lo then s.hp.lo else min s.hp.lo H2.lo},⟨i+1+ms.length,[],Mw H1.n H2.lo,true,H1.n,H2.n⟩):=by
  intro m hm;unfold aP
  have e:(Operand.tmp d1 :: args2).map (aF s2.fr)=w1 :: args2.map (aF s2.fr):=by
   rw [List.map_cons]
   congr 1
   show (s2.fr.get d1).getD undef=w1;rw [hget];rfl
  simp only [k2,e,q3,c1];rw [dj hm _ _ q4];show some (iQ (i+1+ms.length) s2 w2 H2)=_;unfold iQ;rw [c1]
 have lob:min s.hp.lo base≤(bif Nat.ble H1.n H2.lo then s.hp.lo else min s.hp.lo H2.lo):=by
  have hbn:base≤s.hp.n:=by rw [←h2];exact hrel.bn
  cases Nat.ble H1.n H2.lo with
  | true=>exact Nat.min_le_left _ _
  | false =>show min s.hp.lo base≤min s.hp.lo H2.lo;omega
 obtain ⟨p1,p2⟩:=hrel.grow (H':={H2 with lo:=bif Nat.ble H1.n H2.lo then s.hp.lo else min s.hp.lo H2.lo}) (by rw [h2];show s.hp.n≤H2.n;omega) hwf2 (fun k hk=>by
  have:=hsame k (by rw [←h2];exact hk)
  rw [h2];exact this) (by rw [h2];exact lob)
 obtain ⟨trk,t1,t2,t3,t4⟩:=hw.stay (ms.length+1)
 let z:bC:=⟨(tr i).E,(tr i).hp,{H2 with lo:=bif Nat.ble H1.n H2.lo then s.hp.lo else min s.hp.lo H2.lo}⟩
 have z0:∀ b,b≤i→snoc trk (i+(ms.length+1)) z b=tr b:=fun b hb=>by rw [aS (by omega),t2 b hb]
 have zn:snoc trk (i+(ms.length+1)) z (i+ms.length+2)=z:=aU (by omega);have hb2:cX (snoc trk (i+(ms.length+1)) z) (i+ms.length+2) (NM ms (gL (some d1) bt 0)) fr' s2.fr:=fun t=>by obtain ⟨x1,x2⟩:=hb1 t;exact ⟨by omega,by rw [z0 _ x1];exact x2⟩
 have he1:iV (snoc trk (i+(ms.length+1)) z) (i+ms.length+2) (i+1+ms.length) (NN (i+1) ms (.span i i (i+ms.length+2) :: acc)) evs2:=by
  refine c5 ?_ (by omega);refine .cons (t4.snoc (by omega)) rfl (by show max (i+1) (i+ms.length+2)≤_;omega) (.span rfl rfl rfl (qq6 _) (fun k hk=>by cases hk) ?_ ?_)
  ·rw [z0 i (qq6 _),h2];exact qq6 _
  ·rw [zn];exact hn2
 refine ⟨max m1 m2,_,_,_,snoc trk (i+(ms.length+1)) z,⟨cD s2.fr o2.dst w2,{H2 with lo:=bif Nat.ble H1.n H2.lo then s.hp.lo else min s.hp.lo H2.lo},s2.rd⟩,⟨o2,s2,w2,{H2 with lo:=bif Nat.ble H1.n H2.lo then s.hp.lo else min s.hp.lo H2.lo},⟨i+1+ms.length,[],Mw H1.n H2.lo,true,H1.n,H2.n⟩⟩ :: evs2,hK,⟨?_,?_,?_,?_,?_⟩,?_,?_,?_⟩
 ·exact t1.snoc p1 (by rw [t3];exact p2)
 ·rw [zn];exact h1
 ·rw [zn]
 ·intro t;have old:=hb2 t
  cases hd:o2.dst with
  | none=>exact old
  | some d =>
   show (bif Nat.beq t d then i+ms.length+2 else _)≤_∧(snoc trk (i+(ms.length+1)) z (bif Nat.beq t d then i+ms.length+2 else _)).ar (bif Nat.beq t d then v else fr' t) (((s2.fr.set d w2).get t).getD undef);rw [Tr.eY,Tr.beq_eq];by_cases htd:t=d
   ·rw [if_pos htd,decide_eq_true htd];refine ⟨qq6 _,?_⟩;show (snoc trk (i+(ms.length+1)) z (i+ms.length+2)).ar v w2;rw [zn];exact .d hdr
   ·rw [if_neg htd,decide_eq_false htd];exact old
 ·have he2:=he1;rw [show i+1+ms.length=i+ms.length+1 by omega] at he2;refine .cons he2 rfl (by show max (i+ms.length+1+1) (i+ms.length+2)≤_;omega) (.span (by show i+1+ms.length=_;omega) rfl rfl (by omega) (fun k hk=>?_) ?_ ?_)
  ·rw [z0 i (qq6 _),h2];have hk:k ∈ Mw H1.n H2.lo:=hk;unfold Mw at hk
   cases hc:Nat.ble H1.n H2.lo with
   | true=>rw [hc] at hk;cases hk
   | false =>rw [hc] at hk;have hk:k ∈ List.range' H2.lo (H1.n - H2.lo):=hk;have:=(List.mem_range'_1.1 hk).1;omega
  ·rw [z0 i (qq6 _),h2];exact hn1
  ·rw [zn];exact qq6 _
 ·rw [z0 0 (qq5 _)]
 ·exact c2
 ·intro m hm rest;rw [aM,g1];simp only [aY,cond_true,ev1 m (by omega),e1];have:=c6 (RX T tab m) (o2 :: rest);rw [this,aM,g2];simp only [aY,cond_true,ev2 m (by omega)];rw [show i+1+ms.length+1=i+ms.length+2 by omega]
theorem av.pair {id n:Nat} {mu:Tmp→Bool} {l A B ms:List Oper} {o1 o2:Oper} {st:bU} {K:Exit→bU→Prop} (ht:ez l.toArray=n) (hn:l.length=n) (hl:l=A++(o1 :: (ms++(o2 :: B))))
  (h:lS T tab mu l.toArray st.aE st.rd st.fl A 0 (fun _=>0) [] st.fr st.hp fun i bt acc fr hp=>Mn T tab o1 ms o2 i bt acc fr fun bt acc fr =>
   lS T tab mu l.toArray st.aE st.rd st.fl B (i+ms.length+2) bt acc fr hp fun _ _ acc fr hp=>Ml (pM l.toArray) acc=true∧K .normal ⟨fr,hp,st.aE,st.rd,st.fl⟩):av T tab one (.region id l.toArray true) st K:=by
 intro E base s hs;obtain ⟨m1,i1,bt1,qU,fr1,hp1,tr1,s1,evs1,h,w1,z1,r1,x1⟩:=js (base:=base) (tr:=fun _=>⟨E,st.hp,s.hp⟩) (evs:=[]) h ⟨⟨fun _ _=>hs.h,fun _ _ _ _=>.refl⟩,rfl,rfl,fun t=>⟨qq6 _,hs.fr t⟩,.nil⟩;obtain ⟨m2,bt2,acc2,fr2,tr2,s2,evs2,h,w2,z2,r2,x2⟩:=BF (ops:=l.toArray) h w1;obtain ⟨m3,i3,bt3,acc3,fr3,hp3,tr3,s3,evs3,⟨hc,h⟩,w3,z3,r3,x3⟩:=js h w2
 have hd:cA T l.toArray evs3=true:=by
  unfold cA
  cases (evs3.all fun e=>e.t.wr.isEmpty && Nat.beq e.t.a e.t.b) with
  | true=>rfl
  | false=>exact w3.he.pairs w3.ht hc
 have run:∀ m,max m1 (max m2 m3)≤m→bh T (RX T tab m) l.toArray l 0 s []=some [s3]:=by
  intro m hm;have y1:=x1 m (by omega) (o1 :: (ms++(o2 :: B)));have y3:=x3 m (by omega) [];rw [List.append_nil] at y3
  conv=>lhs;arg 4;rw [hl]
  rw [y1,x2 m (by omega),y3,cU,hd];rfl
 have hrel:=w3.ht.rel i3 (qq6 _);have hext:=w3.ht.ext 0 i3 (qq5 _) (qq6 _);rw [z3,z2,z1] at hext;rw [w3.h1,w3.h2] at hrel;have hext:Ext base E st.hp s.hp (tr3 i3).E hp3 s3.hp:=by have:=hext;rw [w3.h1,w3.h2] at this;exact this
 refine ⟨max m1 (max m2 m3),[(.normal,s3)],?_,.single ⟨(tr3 i3).E,_,h,rfl,⟨hrel,by rw [r3,r2,r1];exact hs.rd,fun t=>?_⟩,hext.fS⟩⟩
 ·rw [bP];have hr:=run _ (qq6 _)
  have:bH T (RX T tab (max m1 (max m2 m3))) l.toArray s=some [s3]:=by
   cases hnd:qJ l.toArray with
   | none =>unfold bH;simp only [hnd,ht];rw [←hn,List.take_length,hr,List.drop_length];rfl
   | some c=>exact jA (by rw [ht,hn]) hr
  simp only [cond_true,this,List.map_cons,List.map_nil]
 ·have:=(w3.ht.ext _ i3 (w3.hb t).1 (qq6 _)).ar (w3.ht.rel _ (w3.hb t).1).wf (w3.hb t).2;rw [←w3.h1,←w3.h2];exact this
theorem TH {mu:Tmp→Bool} {ops:Array Oper} {rd:Bool} {i:Nat} {bt:Nat→Nat} {acc:List mM} {fr:Nat→AV} {K:Nat→(Nat→Nat)→List mM→(Nat→AV)→List AB→Prop} (h:K i bt acc fr hp):lS T tab mu ops aE rd fl [] i bt acc fr hp K:=h
theorem TI {mu:Tmp→Bool} {ops:Array Oper} {rd:Bool} {dst:Option Tmp} {op:Op} {a1 a2 a3} {l:List Oper} {i:Nat} {bt:Nat→Nat} {acc:List mM} {fr:Nat→AV} {K:Nat→(Nat→Nat)→List mM→(Nat→AV)→List AB→Prop}
 (h:eD T tab mu dst op i bt fr hp fun fr' hp' bt' x=>(yE op || x.acc.all fun p=>p.wr || p.own.isNone)=true∧lS T tab mu ops aE rd fl l (i+1) bt' (.pl x :: acc) fr' hp' K) :
 lS T tab mu ops aE rd fl (⟨dst,op,a1,a2,a3,none⟩ :: l) i bt acc fr hp K:=⟨rfl,h⟩
end
section
variable {T : bJ} {tab : List XE} {one : Bool} {fl base : Nat} {E E' E2 : Env} {hp hp' hp2 : List AB} {aE amb' : bA} {H H' H2 : Hp} {r : Rec}
theorem zY {ops:Array Oper} {ops':List Oper}:∀ (l:List Oper) (i:Nat) (st:St) (L:List St) (acc:List Ev),l.all kT=true→aO T r ops' l st=some L→bT T (pM ops) acc=true→∃ s',L=[s']∧bh T r ops l i st acc=some [s']
 | [],i,st,L,acc,_,h,hp=>by
  rw [dF] at h;cases h;refine ⟨st,rfl,?_⟩;rw [cU]
  have:cA T ops acc=true:=by
   unfold cA
   cases (acc.all fun e=>e.t.wr.isEmpty && Nat.beq e.t.a e.t.b) with
   | true=>rfl
   | false=>exact hp
  rw [this];rfl
 | o :: l,i,st,L,acc,hq,h,hp=>by
  rw [List.all_cons,qq7] at hq;obtain ⟨g1,g2,g3,_⟩:=xx hq.1;rw [bK,g1] at h;rw [aM,g1];simp only [aY,cond_true] at h ⊢
  cases ho:gX T st.hp.n o.op (aF st.fr) st.hp.get with
  | none =>
   exfalso;have:dw T r o.op st=none:=by unfold dw;simp only [g2,ho]
   rw [this] at h;cases h
  | some ve =>
   obtain ⟨v,e⟩:=ve;have he:=zL hq.1 ho;subst he;have ha:dw T r o.op st=some [(v,st.hp)]:=by unfold dw;simp only [g2,ho];rfl
   rw [ha] at h;simp only [cG] at h;have hd:aP T r o.op i st=some (v,st.hp,⟨i,[],[],false,st.hp.n,st.hp.n⟩):=by unfold aP;simp only [g2,g3 (aF st.fr),ho];rfl
   simp only [hd];refine zY l (i+1) _ L _ hq.2 h ?_;simp only [bT,qq7,List.all_eq_true];refine ⟨fun s _=>?_,hp⟩;rw [(jm (s:=s.t) (t:=⟨i,[],[],false,st.hp.n,st.hp.n⟩) ⟨rfl,rfl,rfl,rfl⟩).1];rfl
def BG (b:List Nat) (i:Nat) (acc:List mM):Bool :=
 acc.all fun x=>(b.getD i 0).testBit x.i || match x with
  | .pl x=>x.acc.all fun p=>!p.wr
  | .quiet _=>true
  | .span _ _ _=>false
theorem FC {tr:Nat→bC} {n i j:Nat} (ht:ji base aE tr n) {b:List Nat} {nn:Nat}:∀ {acc:List mM} {evs:List Ev},iV tr n j acc evs→BG b i acc=true→∀ s ∈ evs,(!conflict s.t ⟨i,[],[],true,(tr n).H.n,nn⟩ || (b.getD i 0).testBit s.t.idx)=true:=by
 intro acc evs h
 induction h with
 | nil=>intro _ s hs;cases hs
 | cons hl hxi htop he ih =>
  rename_i x ev l m;intro hc s hs;unfold BG at hc;rw [List.all_cons,qq7] at hc
  rcases List.mem_cons.1 hs with rfl|hs
  ·rw [he.idx];have hc1:=hc.1;rw [Bool.or_eq_true] at hc1
   rcases hc1 with h|h
   ·rw [h];simp
   ·cases he with
    | quiet a b c d e =>rw [(jm ⟨b,c,d,e⟩).2];rfl
    | span=>cases h
    | pl he =>
     rename_i x;have h:(x.acc.all fun p=>!p.wr)=true:=h;rw [List.all_eq_true] at h;have htop:x.i+1≤n:=htop;have hw:s.t.wr=[]:=List.eq_nil_iff_forall_not_mem.2 fun q hq=>by obtain ⟨p,hp,h1,_⟩:=he.ev.wr q hq;have:=h p hp;rw [h1] at this;cases this
     have hr:∀ q ∈ s.t.rd,q < (tr n).H.n:=fun q hq=>by obtain ⟨p,hp,_,h2⟩:=he.ev.rd q hq;have:=(ht.ext p.b n (by have:=h2.1;omega) (qq6 _)).n;have:=h2.2.1;omega
     have:conflict s.t ⟨i,[],[],true,(tr n).H.n,nn⟩=false:=by
      cases hcf:conflict s.t ⟨i,[],[],true,(tr n).H.n,nn⟩ with
      | false=>rfl
      | true =>exfalso;unfold conflict at hcf;rw [hw] at hcf;have mn:∀ l,meets [] l=false:=fun _=>rfl;simp only [mn,kU,Bool.false_or,Bool.or_false,List.isEmpty_nil,Bool.not_true,Bool.and_false] at hcf;obtain ⟨q,q1,q2,_⟩:=within_iff.1 hcf;have:=hr q q1;omega
     rw [this];rfl
  ·exact ih hc.2 s hs
theorem av.SY {id n:Nat} {mu:Tmp→Bool} {l A B:List Oper} {o:Oper} {st:bU} {K:Exit→bU→Prop} (ht:ez l.toArray=n) (hn:l.length=n) (hl:l=A++(o :: B)) (hB:B.all kT=true) (hgd:o.guard=none)
  (h:lS T tab mu l.toArray st.aE st.rd st.fl A 0 (fun _=>0) [] st.fr st.hp fun i _ acc fr hp=>Ml (pM l.toArray) acc=true∧BG (pM l.toArray) i acc=true∧∃ st',ah ⟨fr,hp,st.aE,st.rd,st.fl⟩ st'∧∃ f args v,cP o.op=.call f args∧(Mz T.P st'.fr f).deep=true∧cC (args.map (aN st'.fr))=true ∧
   aj T tab true (Mz T.P st'.fr f) (args.map (aN st'.fr)) v∧wpOps T tab one mu l B ⟨kY st'.fr o.dst v,st'.hp,st'.aE,st'.rd,st'.fl⟩ (K .normal)):av T tab one (.region id l.toArray true) st K:=by
 intro E base s hs;obtain ⟨m1,i1,bt1,qU,fr1,hp1,tr1,s1,evs1,⟨hc4,hcc,st',hw,f,args,v,hk,hF,hA,hpv,hops⟩,w1,z1,r1,x1⟩:=js (base:=base) (tr:=fun _=>⟨E,st.hp,s.hp⟩) (evs:=[]) h ⟨⟨fun _ _=>hs.h,fun _ _ _ _=>.refl⟩,rfl,rfl,fun t=>⟨qq6 _,hs.fr t⟩,.nil⟩;have hrel:=w1.ht.rel i1 (qq6 _);have hext:=w1.ht.ext 0 i1 (qq5 _) (qq6 _);rw [z1] at hext;rw [w1.h1,w1.h2] at hrel;have hext:Ext base E st.hp s.hp (tr1 i1).E hp1 s1.hp:=by have:=hext;rw [w1.h1,w1.h2] at this;exact this
 have hsr:kZ (tr1 i1).E base ⟨fr1,hp1,st.aE,st.rd,st.fl⟩ s1:=⟨hrel,by rw [r1];exact hs.rd,fun t=>by
  have:=(w1.ht.ext _ i1 (w1.hb t).1 (qq6 _)).ar (w1.ht.rel _ (w1.hb t).1).wf (w1.hb t).2;rw [←w1.h1,←w1.h2]
  exact this⟩
 obtain ⟨E2,hs2,hfr⟩:=hw.2 _ base s1 hsr;obtain ⟨goal,hgo,m0,L,q1,q2,q3⟩:=hpv.2 (E2.O st'.hp) {s1.hp with lo:=s1.hp.n} (iP T.P s1.fr f) (args.map (aF s1.fr)) hs2.h.wf (fun k hk=>hk.elim (fun h=>hs2.h.iE h) (hs2.h.xn k)) ((nx hs2.fr f).deep hF) ((cV hs2.fr args).deep hA);obtain ⟨r,rfl⟩:=q2 rfl;obtain ⟨w,H',rfl,hn',hwf,hsame,hlo,hdr⟩:=q3 r List.mem_cons_self;have hlo':s1.hp.n≤H'.lo:=by have:min s1.hp.n s1.hp.n≤H'.lo:=hlo;omega
 obtain ⟨g1,g2⟩:=hs2.h.grow (H':={H' with lo:=s1.hp.lo}) hn' hwf (fun k hk=>hsame k hk) (Nat.min_le_left _ _);have hd:∀ m,m0≤m→aP T (RX T tab m) o.op i1 s1=some (w,{H' with lo:=s1.hp.lo},⟨i1,[],[],true,s1.hp.n,H'.n⟩):=by intro m hm;unfold aP;simp only [hk,hgo,dj hm _ _ q1];rw [i6 (Nat.ble_eq_true_of_le hlo')]
 have hs3:kZ E2 base ⟨kY st'.fr o.dst v,st'.hp,st'.aE,st'.rd,st'.fl⟩ ⟨cD s1.fr o.dst w,{H' with lo:=s1.hp.lo},s1.rd⟩ :=
  ⟨g1,hs2.rd,lH ((g2.fS (fl:=st'.hp.length)).fr hs2.h hs2.fr) (.d hdr) o.dst⟩
 obtain ⟨m2,L2,p1,_,p3⟩:=gn hops hs3;have hpairs:bT T (pM l.toArray) (⟨o,s1,w,{H' with lo:=s1.hp.lo},⟨i1,[],[],true,s1.hp.n,H'.n⟩⟩ :: evs1)=true:=by simp only [bT,qq7,List.all_eq_true];refine ⟨fun x hx=>?_,w1.he.pairs w1.ht hc4⟩;have:=FC (nn:=H'.n) w1.ht w1.he hcc x hx;rw [w1.h2] at this;rw [this];rfl
 obtain ⟨s3,rfl,hq⟩:=zY (ops:=l.toArray) B (i1+1) _ L2 _ hB p1 hpairs;obtain ⟨E3,st3,k1,k0,k2,k3⟩:=p3 s3 List.mem_cons_self
 have run:bh T (RX T tab (max m1 (max m0 m2))) l.toArray l 0 s []=some [s3]:=by
  have y1:=x1 (max m1 (max m0 m2)) (by omega) (o :: B)
  conv=>lhs;arg 4;rw [hl]
  rw [y1,aM,hgd];simp only [aY,cond_true,hd (max m1 (max m0 m2)) (by omega)];exact fC (dj (by omega)) _ _ _ _ _ _ hq
 have hfl:st'.fl=st.fl:=hw.1;refine ⟨max m1 (max m0 m2),[(.normal,s3)],?_,.single ⟨E3,st3,k1,k0.trans hfl,k2,?_⟩⟩
 ·rw [bP]
  have:bH T (RX T tab (max m1 (max m0 m2))) l.toArray s=some [s3]:=by
   cases hnd:qJ l.toArray with
   | none =>unfold bH;simp only [hnd,ht];rw [←hn,List.take_length,run,List.drop_length];rfl
   | some c=>exact jA (by rw [ht,hn]) run
  simp only [cond_true,this,List.map_cons,List.map_nil]
 ·have k3':j9 st.fl base E2 st'.hp {H' with lo:=s1.hp.lo} E3 st3.hp s3.hp:=by have:=k3;rw [hfl] at this;exact this
  exact ((hext.fS.trans hfr).trans g2.fS).trans k3'
end
section
variable {T : bJ} {tab : List XE} {one : Bool}
theorem aj.Rj {F a b x y:AV} {args:List AV} {hp1:List AB} (hv:cC [x,y]=true) (h:az T tab one F args [] bA.none fun w hp _=>w=.tp [a,b]∧hp=hp1) (hz:l7 hp1 [a,b] [x,y]):aj T tab one F args (.tp [x,y]):=by
 refine ⟨hv,fun X H u us hwf hX d1 d2=>?_⟩
 let E:Env:=⟨fun _ _=>none,fun _=>False,fun _=>False,X⟩
 have hno:∀ k,¬ Own E.ρ [] k:=fun k ⟨j,b,aA,h,_⟩=>by cases h
 have hO:∀ k,E.O [] k→X k:=fun k h=>h.elim (fun h=>(hno k h).elim) id
 have hrel:aR E H.n [] bA.none H :=
  {wf:=hwf,gE:=fun j b aA h _=>(by cases h),inj:=fun j j' aA ver' k h=>(by cases h),rn:=fun j v k h=>(by cases h),fresh:=fun j b aA v h=>(by cases h),new:=fun _ _ _=>rfl,
   sup:=fun k h=>(hno k h).elim,iM:=fun k h=>(hno k h).elim,dx:=fun k h=>h.elim,ds:=fun k h=>h.elim,sn:=fun k h=>h.elim,xn:=hX,
   pV:=fun k h=>h.elim (fun h=>(hno k h).elim) (fun h=>h.elim),bn:=qq6 _,aE:=trivial}
 have up:∀ {a:AV} {u:Value},DR H.get X a u→AR E.ρ H.get (E.O []) a u:=fun h=>.d (h.mono fun k b hk ho=>⟨hk,fun h=>ho (hO k h)⟩);obtain ⟨g1,hg1,m1,L1,r1,r2,r3⟩:=h E H.n H u us hrel (up d1) ⟨d2.1,fun i a u x y=>up (d2.2 i a u x y)⟩;refine ⟨g1,hg1,m1,L1,r1,r2,fun r hr=>?_⟩;obtain ⟨w1,H1,rfl,E1,a1,hq,amb1,⟨rfl,rfl⟩,k1,k2,k3⟩:=r3 r hr;obtain ⟨us',rfl,hus⟩:=k2.tH;have hd:=hz.dr k1 (fun k hk=>k3.xk k hk) hus;exact ⟨_,H1,rfl,k3.n,k1.wf,fun k hk=>k3.same k hk (hno k) (fun h=>h),k3.lo,.tp hd.1 hd.2⟩
end
end Go.RM
