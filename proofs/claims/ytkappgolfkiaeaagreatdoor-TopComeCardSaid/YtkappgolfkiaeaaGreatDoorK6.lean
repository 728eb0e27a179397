/-
  Contracts of the program's functions and of the document's. Lemmas alone; their conditions stand in them.
-/
import Derived.Test.YtkappgolfkiaeaaGreatDoorK5
import Derived.Laws.StructEq
open Go Go.RM
namespace Go.Proofs.YtkappgolfkiaeaaGreatDoor
set_option maxRecDepth 100000
set_option maxHeartbeats 4000000
theorem kn {α:Type} {g:α→AV} (h:∀ x,(g x).deep=true):∀ l:List α,bG (l.map g)=true
 | []=>rfl
 | x :: l=>by show ((g x).deep && bG (l.map g))=true;rw [h x,kn h l];rfl
theorem mN {α:Type} (n:Nat) {g:α→AV} (h:∀ x,(g x).jN n=true):∀ l:List α,iA n (l.map g)=true
 | []=>rfl
 | x :: l=>by show ((g x).jN n && iA n (l.map g))=true;rw [h x,mN n h l];rfl
abbrev iW (l:List Int):List AV:=l.map av
theorem kq:∀ l:List Int,(ints l).flatten=iW l
 | []=>rfl
 | x :: l=>by show (eI x++(ints l).flatten)=_;rw [kq l];rfl
theorem tU (l:List Int):bG (iW l)=true:=kn (fun _=>rfl) l
abbrev Nl (s:aC) (orders known most:Int) (f:Nat):AV:=.fn 84 [] [.pt [av orders] 0,.pt (aH s) 0,.pt [av known] 0,.pt [i7 f] 0,.pt [av most] 0]
theorem G9 (one:Bool) (s:aC) (orders known most:Int) (f:Nat):Pu one 47 [.ag (aH s),av orders,av known,i7 f,av most] (Nl s orders known most f):=by
 refine af.body (fn:=Tryz.f47) rfl rfl rfl rfl ?_;refine qq1 ?_;repeat' first|refine u1 ?_|refine u2 ?_|fail
 exact ⟨[_],⟨Fz.deep rfl,trivial⟩,rfl⟩
def iQ (R:Int):Nat→Nat→Nat→Int→Int→List Nat
 | 0,_,f,_,_=>[f]
 | n+1,i,f,row,left=>iQ R n (i+1) f 0 left++(if left=0∨R≤row then [] else iQ R n (i+1) (f ||| 2 ^ i) (row+1) (left - 1))
def rowAt (f:Nat):Nat→Int
 | 0=>0
 | k+1=>if f.testBit k=true then rowAt f k+1 else 0
def C4 (s:aC) (orders known:Nat) (f:Nat) (most:Int):List Nat:=iQ s.row (orders - known) known f (rowAt f known) most
abbrev RZ (s:aC) (orders:Nat) (u:Value):List AV:=[.pt [av (orders:Nat)] 0,.pt [.oq u] 0,.ptr 0 0 0,.pt (aH s) 0]
abbrev Jm (s:aC) (orders:Nat) (u:Value):AB:=.cells [.fn 85 [] (RZ s orders u)] 0 0
theorem EE (one:Bool) {s:aC} (hg:Good s) (orders:Nat) (ho:orders≤8) (u:Value) (J:Nat→cz) (Stop:cz→Prop) (xs:List Nat)
  (hy:∀ (i:Nat) (x:List AV),(xs.map fun x=>[i7 x])[i]?=some x→A0 TT TB one u x (J i) (Eo (J (i+1)) Stop)) :
  ∀ (n i f:Nat) (row left:Int) (k:Nat),i+n=orders→f < 2 ^ i→(0≤row∧row≤i)→(0≤left∧left≤1000)→(∀ j x,(iQ s.row n i f row left)[j]?=some x→xs[k+j]?=some x) →
   aB TT TB one (.fn 85 [] (RZ s orders u)) [av (i:Nat),i7 f,av row,av left] [Jm s orders u] (J k)
    fun v hp' a'=>hp'=[Jm s orders u]∧∃ b,v=BB b∧Eo (J (k+(iQ s.row n i f row left).length)) Stop b a'
 | 0,i,f,row,left,k,hi,hf,hr,hl,hat=>by
  have d1:decide ((i:Int)=(orders:Int))=true:=decide_eq_true (by omega);have hx:(xs.map fun x=>[i7 x])[k]?=some [i7 f]:=by have:=hat 0 f rfl;rw [Nat.add_zero] at this;rw [List.getElem?_map,this];rfl
  have hyx:=hy k _ hx;refine aB.body (fn:=Tryz.f85) rfl rfl rfl ?_;refine qq1 ?_;repeat' first|refine u1 ?_|refine u2 ?_|fail
  refine aB.mono (hyx _) (fun a hp' amb' hq=>?_);obtain ⟨rfl,b,rfl,hb⟩:=hq;repeat' first|refine u1 ?_|refine u2 ?_|fail
  exact hb
 | n+1,i,f,row,left,k,hi,hf,hr,hl,hat=>by
  have d1:decide ((i:Int)=(orders:Int))=false:=decide_eq_false (by omega);have hrow:=hg.row;have e1:((i:Nat):Int)+1=((i+1:Nat):Int):=by omega
  have i8:i < 8:=by omega
  have h2i:2 ^ i < 18446744073709551616:=Nat.lt_of_lt_of_le (Nat.pow_lt_pow_right (by decide) i8) (by decide);have hff:f < 18446744073709551616:=by omega
  have hfi:f < 2 ^ (i+1):=Nat.lt_of_lt_of_le hf (Nat.pow_le_pow_right (by decide) (by omega));have hlen:(iQ s.row (n+1) i f row left).length=(iQ s.row n (i+1) f 0 left).length+(if left=0∨s.row≤row then [] else iQ s.row n (i+1) (f ||| 2 ^ i) (row+1) (left - 1)).length:=by rw [iQ,List.length_append]
  have hat1:∀ j x,(iQ s.row n (i+1) f 0 left)[j]?=some x→xs[k+j]?=some x:=fun j x hj=>hat j x (by
   rw [iQ,List.getElem?_append_left (List.getElem?_eq_some_iff.1 hj).1]
   exact hj)
  have c1:=EE one hg orders ho u J Stop xs hy n (i+1) f 0 left k (by omega) hfi (by omega) hl hat1;have hb1:-9223372036854775808≤left - 1∧left - 1≤9223372036854775807:=by omega
  refine aB.body (fn:=Tryz.f85) rfl rfl rfl ?_;refine qq2 ?_;repeat' first|refine u1 ?_|refine u2 ?_|fail
  refine qq2 ?_;repeat' first|refine u1 ?_|refine u2 ?_|fail
  refine qq2 ?_;repeat' first|refine u1 ?_|refine u2 ?_|fail
  rw [e1];refine aB.mono c1 (fun a hp' amb' hq=>?_);obtain ⟨rfl,b,rfl,hb⟩:=hq
  rcases hb with ⟨rfl,rfl⟩|⟨rfl,hstop⟩
  ·repeat' first|refine u1 ?_|refine u2 ?_|fail
   by_cases hs:left=0∨s.row≤row
   ·rw [if_pos hs] at hlen;have hj:J (k+(iQ s.row (n+1) i f row left).length)=J (k+(iQ s.row n (i+1) f 0 left).length):=by rw [hlen];rfl
    rw [hj];by_cases q1:left=0
    ·have e2:=decide_eq_true q1;refine qq1 ?_;repeat' first|(refine RM.c5 (c:=21) (l1:=[_,_,_,_,_,_,_,_,_,_,_,_,_,_,_,_,_,_,_,_,_]) (l2:=[_,_,_]) (by kernel_rfl) rfl rfl ?_)|refine u1 ?_|refine u2 ?_|fail
     exact .inl ⟨rfl,rfl⟩
    ·have e2:=decide_eq_false q1;have e3:decide (s.row≤row)=true:=decide_eq_true (by omega);refine qq1 ?_;repeat' first|(refine RM.c5 (c:=21) (l1:=[_,_,_,_,_,_,_,_,_,_,_,_,_,_,_,_,_,_,_,_,_]) (l2:=[_,_,_]) (by kernel_rfl) rfl rfl ?_)|refine u1 ?_|refine u2 ?_|fail
     exact .inl ⟨rfl,rfl⟩
   ·have e2:decide (left=0)=false:=decide_eq_false (by omega);have e3:decide (s.row≤row)=false:=decide_eq_false (by omega);rw [if_neg hs] at hlen;have hat2:∀ j x,(iQ s.row n (i+1) (f ||| 2 ^ i) (row+1) (left - 1))[j]?=some x→xs[k+(iQ s.row n (i+1) f 0 left).length+j]?=some x:=fun j x hj=>by rw [Nat.add_assoc];refine hat _ x ?_;rw [iQ,if_neg hs,List.getElem?_append_right (Nat.le_add_right _ _),Nat.add_sub_cancel_left];exact hj
    have hf2:f ||| 2 ^ i < 2 ^ (i+1):=Nat.or_lt_two_pow hfi (Nat.pow_lt_pow_right (by decide) (by omega));have c2:=EE one hg orders ho u J Stop xs hy n (i+1) (f ||| 2 ^ i) (row+1) (left - 1) (k+(iQ s.row n (i+1) f 0 left).length) (by omega) hf2 (by omega) (by omega) hat2;rw [Nat.add_assoc,←hlen] at c2;refine qq1 ?_;repeat' first|(refine RM.c5 (c:=21) (l1:=[_,_,_,_,_,_,_,_,_,_,_,_,_,_,_,_,_,_,_,_,_]) (l2:=[_,_,_]) (by kernel_rfl) rfl rfl ?_)|((with_reducible show bw _ _ _ _ _ _ _ _ _);refine RM.Od rfl rfl i8 ?_)|((with_reducible show bw _ _ _ _ _ _ _ _ _);refine RM.RT rfl rfl hff h2i ?_)|refine u1 ?_|refine u2 ?_|fail
    rw [e1];refine aB.mono c2 (fun a hp' amb' hq=>?_);obtain ⟨rfl,b,rfl,hb⟩:=hq;repeat' first|refine u1 ?_|refine u2 ?_|fail
    exact hb
  ·repeat' first|refine u1 ?_|refine u2 ?_|fail
   exact .inr ⟨rfl,hstop⟩
theorem Bc (f:Nat):∀ k:Nat,0≤rowAt f k∧rowAt f k≤k
 | 0=>⟨Int.le_refl _,Int.le_refl _⟩
 | k+1=>by have:=Bc f k;unfold rowAt;split <;> omega
theorem He (one:Bool) {s:aC} (hg:Good s) (orders known:Nat) (f:Nat) (most:Int) (ho:orders≤8) (hk:known≤orders) (hf:f < 2 ^ known) (hm:0≤most∧most≤1000):yM TT TB one (Nl s (orders:Nat) (known:Nat) most f) ((C4 s orders known f most).map fun x=>[i7 x]):=by
 have hf256:f < 2 ^ 8:=Nat.lt_of_lt_of_le hf (Nat.pow_le_pow_right (by decide) (by omega));refine yM.body (fn:=Tryz.f84) rfl rfl rfl rfl (fun x hx a ha=>?_) fun u J Stop hy=>?_
 ·obtain ⟨i,_,rfl⟩:=List.mem_map.1 hx;simp only [List.mem_cons,List.not_mem_nil,or_false] at ha
  rcases ha with rfl
  exact gZ.fl _
 rw [List.length_map];refine qq2 ?_;repeat' first|refine u1 ?_|refine u2 ?_|fail
 refine qq2 ?_;repeat' first|refine u1 ?_|refine u2 ?_|fail
 refine qq2 ?_;repeat' first|refine u1 ?_|refine u2 ?_|fail
 refine qq2 ?_;repeat' first|refine u1 ?_|refine u2 ?_|fail
 refine RM.cutAt (st':=⟨bA [(3,.pt [av (known:Nat)] 0),(4,.pt [i7 f] 0),(5,.pt [av most] 0),(7,.ptr 0 0 0),(8,av (rowAt f known))],[Jm s orders u],J 0,false,0⟩) ?_ ?_
 ·refine qq2 ?_;repeat' first|refine u1 ?_|refine u2 ?_|fail
  refine aE.block ?_;refine aE.aS (ai.to (l:=[(3,.pt [av (known:Nat)] 0),(4,.pt [i7 f] 0),(5,.pt [av most] 0),(7,.ptr 0 0 0),(8,av ((known:Int) - (known:Nat))),(9,av (((known:Nat):Int) - 1))]) (hp:=[Jm s orders u]) 1 rfl ⟨rfl,rfl,rfl,rfl,aJ (by omega),rfl,trivial⟩ (qq5 _) rfl rfl) ?_;refine aE.loop (fun m:Nat=>m≤known∧rowAt f known=rowAt f m+((known:Int) - (m:Int))) (fun m=>⟨bA [(3,.pt [av (known:Nat)] 0),(4,.pt [i7 f] 0),(5,.pt [av most] 0),(7,.ptr 0 0 0),(8,av ((known:Int) - (m:Nat))),(9,av (((m:Nat):Int) - 1))],[Jm s orders u],J 0,false,0⟩) (fun m=>m) ?_ known ⟨qq6 _,by omega⟩;rintro m ⟨hmk,hrow⟩;have fin:rowAt f m=0→(known:Int) - (m:Int)=rowAt f known:=fun h=>by omega
  cases m with
  | zero =>
   have d1:decide ((0:Int)≤((0:Nat):Int) - 1)=false:=by decide
   rw [fin rfl];refine qq1 ?_;repeat' first|refine u1 ?_|refine u2 ?_|fail
   exact .is (ai.to 1 rfl ⟨rfl,rfl,rfl,rfl,rfl,trivial⟩ (qq5 _) rfl rfl)
  | succ m =>
   have e1:((m+1:Nat):Int) - 1=(m:Int):=by omega
   rw [e1];have d1:decide ((0:Int)≤(m:Int))=true:=decide_eq_true (by omega);have m8:m < 8:=by omega
   have hfm:f / 2 ^ m < 18446744073709551616:=Nat.lt_of_le_of_lt (Nat.div_le_self _ _) (by omega)
   have hbit:f / 2 ^ m % 2=if f.testBit m=true then 1 else 0:=by
    rw [Nat.testBit_eq_decide_div_mod_eq];have:=Nat.mod_two_eq_zero_or_one (f / 2 ^ m)
    rcases this with e|e <;> rw [e] <;> simp
   cases hb:f.testBit m with
   | true =>
    rw [hb,if_pos rfl] at hbit;have d2:decide (((f / 2 ^ m % 2:Nat):Int)=1)=true:=decide_eq_true (by rw [hbit];decide);have hrs:rowAt f (m+1)=rowAt f m+1:=by show (if f.testBit m=true then rowAt f m+1 else 0)=_;rw [if_pos hb]
    refine qq1 ?_;repeat' first|((with_reducible show bw _ _ _ _ _ _ _ _ _);refine RM.FV rfl rfl m8 ?_)|((with_reducible show bw _ _ _ _ _ _ _ _ _);refine RM.A6 rfl rfl hfm ?_)|((with_reducible show bw _ _ _ _ _ _ _ _ _);refine RM.Ng rfl rfl ?_)|refine u1 ?_|refine u2 ?_|fail
    exact ⟨m,⟨by omega,by omega⟩,Nat.lt_succ_self _,ai.to 1 rfl ⟨rfl,rfl,rfl,rfl,aJ (by omega),rfl,trivial⟩ (qq5 _) rfl rfl⟩
   | false =>
    rw [hb,if_neg (by simp)] at hbit;have d2:decide (((f / 2 ^ m % 2:Nat):Int)=1)=false:=decide_eq_false (by rw [hbit];decide);rw [fin (by show (if f.testBit m=true then rowAt f m+1 else 0)=0;rw [hb];rfl)];refine qq1 ?_;repeat' first|((with_reducible show bw _ _ _ _ _ _ _ _ _);refine RM.FV rfl rfl m8 ?_)|((with_reducible show bw _ _ _ _ _ _ _ _ _);refine RM.A6 rfl rfl hfm ?_)|((with_reducible show bw _ _ _ _ _ _ _ _ _);refine RM.Ng rfl rfl ?_)|refine u1 ?_|refine u2 ?_|fail
    exact .is (ai.to 1 rfl ⟨rfl,rfl,rfl,rfl,rfl,trivial⟩ (qq5 _) rfl rfl)
 ·have hb:=Bc f known;have c1:=EE one hg orders ho u J Stop (C4 s orders known f most) hy (orders - known) known f (rowAt f known) most 0 (by omega) hf hb hm (fun j x hj=>by rw [Nat.zero_add];exact hj);refine qq1 ?_;repeat' first|refine u1 ?_|refine u2 ?_|fail
  refine aB.mono c1 (fun a hp' amb' hq=>?_);obtain ⟨rfl,b,rfl,hb⟩:=hq;repeat' first|refine u1 ?_|refine u2 ?_|fail
  rcases hb with ⟨_,h⟩|⟨_,h⟩
  ·rw [Nat.zero_add] at h;exact Or.inl h
  ·exact Or.inr h
def qR:Nat→Nat→List Bool→Nat
 | f,_,[]=>f
 | f,i,true :: l=>qR (f ||| 2 ^ i) (i+1) l
 | f,i,false :: l=>qR f (i+1) l
theorem xj (R:Nat):∀ (n i f row left:Nat),iQ (R:Int) n i f (row:Int) (left:Int)=(TeLaw.uO R n row left).map (qR f i)
 | 0,i,f,row,left=>rfl
 | n+1,i,f,row,left=>by
  have e1:=xj R n (i+1) f 0 left;unfold iQ TeLaw.uO;rw [List.map_append,List.map_map];have e0:((0:Nat):Int)=0:=rfl;rw [e0] at e1;rw [e1]
  congr 1
  by_cases h:left=0∨R≤row
  ·rw [if_pos h,if_pos (by omega)];rfl
  ·rw [if_neg h,if_neg (by omega)];have e2:=xj R n (i+1) (f ||| 2 ^ i) (row+1) (left - 1);rw [List.map_map,show ((row:Int)+1)=((row+1:Nat):Int) by omega,show ((left:Int) - 1)=((left - 1:Nat):Int) by omega,e2];rfl
theorem Bd:∀ (l:List Bool) (f i:Nat),f < 2 ^ i→qR f i l < 2 ^ (i+l.length)
 | [],f,i,h=>h
 | true :: l,f,i,h=>by have:=Bd l (f ||| 2 ^ i) (i+1) (Nat.or_lt_two_pow (Nat.lt_of_lt_of_le h (Nat.pow_le_pow_right (by decide) (by omega))) (Nat.pow_lt_pow_right (by decide) (by omega)));rw [List.length_cons,show i+(l.length+1)=i+1+l.length by omega];exact this
 | false :: l,f,i,h=>by have:=Bd l f (i+1) (Nat.lt_of_lt_of_le h (Nat.pow_le_pow_right (by decide) (by omega)));rw [List.length_cons,show i+(l.length+1)=i+1+l.length by omega];exact this
theorem pU:∀ (l:List Bool) (f i:Nat) (b:Bool),qR f i (l++[b])=if b=true then qR f i l ||| 2 ^ (i+l.length) else qR f i l
 | [],f,i,b=>by cases b <;> simp [qR]
 | true :: l,f,i,b=>by rw [List.cons_append,qR,pU l,qR,List.length_cons,show i+1+l.length=i+(l.length+1) by omega]
 | false :: l,f,i,b=>by rw [List.cons_append,qR,pU l,qR,List.length_cons,show i+1+l.length=i+(l.length+1) by omega]
def P6 (f k:Nat):Nat:=(rowAt f k).toNat
theorem FZ {s:aC} (hg:Good s) (orders known f most:Nat):C4 s orders known f (most:Int)=(TeLaw.uO s.row.toNat (orders - known) (P6 f known) most).map (qR f known):=by
 have h:=Bc f known;have hr:=hg.row;unfold C4;have e1:rowAt f known=((P6 f known:Nat):Int):=by unfold P6;omega
 have e2:s.row=((s.row.toNat:Nat):Int):=by omega
 rw [e1]
 conv=>lhs;rw [e2]
 exact xj _ _ _ _ _ _
theorem Nn {s:aC} (hg:Good s) {orders known f most y:Nat} (hk:known≤orders) (hf:f < 2 ^ known) (hy:y ∈ C4 s orders known f (most:Int)):y < 2 ^ orders:=by rw [FZ hg] at hy;obtain ⟨b,hb,rfl⟩:=List.mem_map.1 hy;have hl:=(TeLaw.jr.1 hb).1;have:=Bd b f known hf;rw [hl,Nat.add_sub_cancel' hk] at this;exact this
theorem R1 (one:Bool):Pu one 7 [] (BB true):=af.closed (fun _=>rfl) rfl
def Hf (s:aC) (p:List Order):List Nat:=C4 s p.length 0 0 s.fail
theorem Jn (k m:Nat) (H:Hp):mF (xz k) 129 [.int .u64 (m:Int)] H=bif Fu (k:Int) (m:Int) then some (.int .i64 (Lib.ctz 64 k),H) else none:=by
 have h:mD 0 (.int .u64 (k:Int)) (.int .u64 (m:Int)) .leaf=bif Fu (k:Int) (m:Int) then some .leaf else none:=by show (bif (IntKind.u64 == IntKind.u64) && Fu (k:Int) (m:Int) then some Tr.leaf else none)=_;rfl
 show (match ((mD 0 (.int .u64 (k:Int)) (.int .u64 (m:Int)) .leaf).bind (jl 0 [] [])) with
  | some φ=>match kg 0 H.get [] 0 φ with
   | some _=>(oH 0 H.n (.int .i64 (Lib.ctz 64 k))).map fun v=>(v,eW H [])
   | none=>none
  | none=>none)=_
 rw [h];cases Fu (k:Int) (m:Int) <;> rfl
theorem F0 (m:Nat) (H:Hp):∀ l:List Nat,m ∈ l→RM.look (l.map xz) 129 [.int .u64 (m:Int)] H=some (.int .i64 (Lib.ctz 64 m),H)
 | [],h=>by cases h
 | k :: l,h=>by
  show (match mF (xz k) 129 [.int .u64 (m:Int)] H with
   | some r=>some r
   | none=>RM.look (l.map xz) 129 [.int .u64 (m:Int)] H)=_
  rw [Jn,H6];by_cases e:(k:Int)=(m:Int)
  ·rw [decide_eq_true e];have:k=m:=by omega
   subst this;rfl
  ·rw [decide_eq_false e];show RM.look (l.map xz) 129 [.int .u64 (m:Int)] H=_;refine F0 m H l ?_
   rcases List.mem_cons.1 h with rfl|h
   ·exact absurd rfl e
   ·exact h
theorem Np {m:Nat} (hm:m < 256) (H:Hp):RM.look TB 129 [.int .u64 (m:Int)] H=some (.int .i64 (Lib.ctz 64 m),H):=by
 show (match mF RQ 129 [.int .u64 (m:Int)] H with
  | some r=>some r
  | none=>RM.look ((List.range 256).map xz) 129 [.int .u64 (m:Int)] H)=_
 show RM.look ((List.range 256).map xz) 129 [.int .u64 (m:Int)] H=_;exact F0 m H _ (List.mem_range.2 hm)
theorem C5 {tab:List XE} {one:Bool} {f:FuncId} {a v:Value} (h:∀ H,RM.look tab f [a] H=some (v,H)) (hv:bh v=true):af TT tab one (.fn f [] []) [.fl a] (.fl v):=by
 refine ⟨rfl,fun X H u us hwf hX hF ha=>?_⟩
 cases hF with
 | fn l1 l2 d1 d2 =>
  rename_i a' b';have h1:a'.toList=[]:=List.length_eq_zero_iff.1 l1.symm;have h2:b'.toList=[]:=List.length_eq_zero_iff.1 l2.symm
  have h3:us=[a]:=by
   obtain ⟨hl,hg⟩:=ha
   match us,hl with
   | [w],_ =>have:=hg 0 (.fl a) w rfl rfl;cases this;rfl
  refine ⟨.fn f [a],by simp [dD,h1,h2,h3],0,[.ret v H],?_,fun _=>⟨_,rfl⟩,fun r hr=>?_⟩
  ·show rx tab (u9 tab TT 0) (.call f [a] H)=_;unfold rx;simp only [h H]
  ·obtain rfl:=List.mem_singleton.1 hr;exact ⟨v,H,rfl,qq6 _,hwf,fun _ _=>rfl,Nat.min_le_left _ _,.fl hv⟩
theorem P7 (one:Bool) {m:Nat} (hm:m < 256):Pu one 129 [i7 m] (av (Lib.ctz 64 m)):=C5 (fun H=>Np hm H) rfl
theorem R4 {own:Bool} {fr:Nat→AV} {hp:List AB} {K:AV→List AB→Prop} {x:Operand} {n:Nat} (hx:bq fr x=i7 n) (h:n < 4611686018427387904) (k:K (av (n:Nat)) hp):RM.wpOp TT own (.convert 201 3 x) fr hp K:=by show AG TT 201 3 (bq fr x) hp K;rw [hx];have e:cW (aK TT.P (convert 201 3 (.int .u64 (n:Int))))=some (.int .i64 (IntKind.i64.wrap (n:Int)),.none):=rfl;rw [wrap_i64 (by omega) (by omega)] at e;exact ⟨_,rfl,_,e,rfl,k⟩
def kS (m:Nat):Nat:=(m / 2 ^ 1 &&& 6148914691236517205)+(m &&& 6148914691236517205)
def qc (m:Nat):Nat:=(m / 2 ^ 2 &&& 3689348814741910323)+(m &&& 3689348814741910323)
def tW (m:Nat):Nat:=(m / 2 ^ 4+m) &&& 1085102592571150095
def mO (m:Nat):Nat:=(let c:=tW (qc (kS m));let d:=c+c / 2 ^ 8;let e:=d+d / 2 ^ 16;e+e / 2 ^ 32) &&& 127
theorem P8 {m:Nat} (h:m < 256):kS m < 384:=by have h1:m / 2 ^ 1 &&& 6148914691236517205≤m / 2 ^ 1:=Nat.and_le_left;have h2:m &&& 6148914691236517205≤m:=Nat.and_le_left;unfold kS;omega
theorem P9 {m:Nat} (h:m < 384):qc m < 480:=by have h1:m / 2 ^ 2 &&& 3689348814741910323≤m / 2 ^ 2:=Nat.and_le_left;have h2:m &&& 3689348814741910323≤m:=Nat.and_le_left;unfold qc;omega
theorem Qa {m:Nat} (h:m < 480):tW m < 512:=by have h1:(m / 2 ^ 4+m) &&& 1085102592571150095≤m / 2 ^ 4+m:=Nat.and_le_left;unfold tW;omega
theorem Jr (m:Nat):mO m≤127:=Nat.and_le_right
theorem Qb (one:Bool) {m:Nat} (hm:m < 256):Pu one 126 [i7 m] (av (mO m:Nat)):=by
 have b1:=P8 hm;have b2:=P9 b1;have b3:=Qa b2;have a1:m / 2 ^ 1 &&& 6148914691236517205≤m / 2 ^ 1:=Nat.and_le_left;have a2:m &&& 6148914691236517205≤m:=Nat.and_le_left;have a3:kS m / 2 ^ 2 &&& 3689348814741910323≤kS m / 2 ^ 2:=Nat.and_le_left;have a4:kS m &&& 3689348814741910323≤kS m:=Nat.and_le_left;have e1:(m / 2 ^ 1 &&& 6148914691236517205)+(m &&& 6148914691236517205)=kS m:=rfl;have e2:(kS m / 2 ^ 2 &&& 3689348814741910323)+(kS m &&& 3689348814741910323)=qc (kS m):=rfl;have e3:(qc (kS m) / 2 ^ 4+qc (kS m)) &&& 1085102592571150095=tW (qc (kS m)):=rfl;refine af.body (fn:=Tryz.f126) rfl rfl rfl rfl ?_;refine qq2 ?_;repeat' first|refine u1 ?_|refine u2 ?_|fail
 refine qq2 ?_;repeat' first|((with_reducible show bw _ _ _ _ _ _ _ _ _);refine RM.zD (j:=1) rfl rfl (by omega) ?_)|((with_reducible show bw _ _ _ _ _ _ _ _ _);refine RM.CV (n:=6148914691236517205) rfl rfl (by omega) (by decide) ?_)|((with_reducible show bw _ _ _ _ _ _ _ _ _);refine RM.F2 rfl rfl (by omega) ?_)|refine u1 ?_|refine u2 ?_|fail
 rw [e1];refine qq2 ?_;repeat' first|((with_reducible show bw _ _ _ _ _ _ _ _ _);refine RM.zD (j:=2) rfl rfl (by omega) ?_)|((with_reducible show bw _ _ _ _ _ _ _ _ _);refine RM.CV (n:=3689348814741910323) rfl rfl (by omega) (by decide) ?_)|((with_reducible show bw _ _ _ _ _ _ _ _ _);refine RM.F2 rfl rfl (by omega) ?_)|refine u1 ?_|refine u2 ?_|fail
 rw [e2];refine qq2 ?_;repeat' first|((with_reducible show bw _ _ _ _ _ _ _ _ _);refine RM.zD (j:=4) rfl rfl (by omega) ?_)|((with_reducible show bw _ _ _ _ _ _ _ _ _);refine RM.F2 rfl rfl (by omega) ?_)|((with_reducible show bw _ _ _ _ _ _ _ _ _);refine RM.CV (n:=1085102592571150095) rfl rfl (by omega) (by decide) ?_)|refine u1 ?_|refine u2 ?_|fail
 rw [e3];have e4:mO m=(tW (qc (kS m))+tW (qc (kS m)) / 2 ^ 8+(tW (qc (kS m))+tW (qc (kS m)) / 2 ^ 8) / 2 ^ 16+(tW (qc (kS m))+tW (qc (kS m)) / 2 ^ 8+(tW (qc (kS m))+tW (qc (kS m)) / 2 ^ 8) / 2 ^ 16) / 2 ^ 32) &&& 127:=rfl;rw [e4]
 generalize tW (qc (kS m))=c at *
 refine qq1 ?_;repeat' first|((with_reducible show bw _ _ _ _ _ _ _ _ _);refine RM.zD (j:=8) rfl rfl (by omega) ?_)|((with_reducible show bw _ _ _ _ _ _ _ _ _);refine RM.zD (j:=16) rfl rfl (by omega) ?_)|((with_reducible show bw _ _ _ _ _ _ _ _ _);refine RM.zD (j:=32) rfl rfl (by omega) ?_)|((with_reducible show bw _ _ _ _ _ _ _ _ _);refine RM.F2 rfl rfl (by omega) ?_)|((with_reducible show RM.wpOp _ _ (.convert _ _ _) _ _ _);refine R4 rfl (by omega) ?_)|((with_reducible show bw _ _ _ _ _ _ _ _ _);refine RM.R3 (n:=127) rfl rfl (by omega) (by decide) ?_)|refine u1 ?_|refine u2 ?_|fail
 exact ⟨[_],⟨Fz.deep rfl,trivial⟩,rfl⟩
