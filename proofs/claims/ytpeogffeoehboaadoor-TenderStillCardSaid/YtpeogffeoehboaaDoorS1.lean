/-
  Contracts of the program's functions and of the document's. Lemmas alone; their conditions stand in them.
-/
import Derived.Test.YtpeogffeoehboaaDoorK1
import Derived.Test.YtpeogffeoehboaaDoorX4
import Derived.Test.YtpeogffeoehboaaDoorA2
import Derived.Test.YtpeogffeoehboaaDoorK2
import Derived.Test.YtpeogffeoehboaaDoorK4
import Derived.Test.YtpeogffeoehboaaDoorK5
import Derived.Test.YtpeogffeoehboaaDoorK8
open Go Go.RM
namespace Go.Proofs.YtpeogffeoehboaaDoor
set_option maxRecDepth 100000
set_option maxHeartbeats 4000000
theorem tvB {l:List AV} (h:TV .bool l):∃ b,l=[BB b]:=by
 cases h with
 | bool=>exact ⟨_,rfl⟩
end Go.Proofs.YtpeogffeoehboaaDoor
namespace Go.TeLaw
set_option maxRecDepth 100000
set_option maxHeartbeats 4000000
def fills (R:Nat):Nat→Nat→Nat→List (List Bool)
 | 0,_,_=>[[]]
 | n+1,row,left=>(fills R n 0 left).map (false :: ·)++(if left=0∨R≤row then [] else (fills R n (row+1) (left - 1)).map (true :: ·))
def rowOk (R:Nat):Nat→List Bool→Bool
 | _,[]=>true
 | _,false :: l=>rowOk R 0 l
 | row,true :: l=>decide (row < R) && rowOk R (row+1) l
theorem mem_fills {R:Nat}:∀ {n row left:Nat} {b:List Bool},b ∈ fills R n row left ↔ (b.length=n∧cnt b≤left∧rowOk R row b=true)
 | 0,row,left,b=>by
  unfold fills
  rw [List.mem_singleton]
  constructor
  ·rintro rfl;exact ⟨rfl,Nat.zero_le _,rfl⟩
  ·rintro ⟨h,_⟩;exact List.length_eq_zero_iff.1 h
 | n+1,row,left,b=>by
  unfold fills
  rw [List.mem_append]
  constructor
  ·rintro (h|h)
   ·obtain ⟨c,hc,rfl⟩:=List.mem_map.1 h
    obtain ⟨h1,h2,h3⟩:=mem_fills.1 hc
    exact ⟨by rw [List.length_cons,h1],h2,h3⟩
   ·split at h
    ·cases h
    ·rename_i hn
     obtain ⟨c,hc,rfl⟩:=List.mem_map.1 h
     obtain ⟨h1,h2,h3⟩:=mem_fills.1 hc
     refine ⟨by rw [List.length_cons,h1],by unfold cnt;omega,?_⟩
     unfold rowOk
     rw [h3,decide_eq_true (by omega)]
     rfl
  ·rintro ⟨h1,h2,h3⟩
   match b,h1 with
   | false :: c,h1 =>
    exact .inl (List.mem_map.2 ⟨c,mem_fills.2 ⟨by simpa using h1,h2,h3⟩,rfl⟩)
   | true :: c,h1 =>
    unfold cnt at h2
    unfold rowOk at h3
    rw [Bool.and_eq_true,decide_eq_true_eq] at h3
    right
    rw [if_neg (by omega)]
    exact List.mem_map.2 ⟨c,mem_fills.2 ⟨by simpa using h1,by omega,h3.2⟩,rfl⟩
theorem fills_more {R n row left left':Nat} {b:List Bool} (h:left≤left') (hb:b ∈ fills R n row left):b ∈ fills R n row left':=by
 rw [mem_fills] at *
 exact ⟨hb.1,by omega,hb.2.2⟩
end Go.TeLaw
open Go Go.RM
namespace Go.Proofs.YtpeogffeoehboaaDoor
set_option maxRecDepth 100000
set_option maxHeartbeats 4000000
abbrev furF (s:ay) (orders known most:Int) (f:Nat):AV:=.fn 77 [] [.pt [aD orders] 0,.pt (az s) 0,.pt [aD known] 0,.pt [sP f] 0,.pt [aD most] 0]
theorem further_c (one:Bool) (s:ay) (orders known most:Int) (f:Nat):Pu one 56 [.ag (az s),aD orders,aD known,sP f,aD most] (furF s orders known most f):=by
 refine af.body (fn:=Tryd.f56) rfl rfl rfl rfl ?_
 refine ah (mu:=fun _=>false) ?_
 repeat' (first |refine u1 ?_ |refine u2 ?_ |fail)
 exact ⟨[_],⟨Fz.deep rfl,trivial⟩,rfl⟩
def fillN (R:Int):Nat→Nat→Nat→Int→Int→List Nat
 | 0,_,f,_,_=>[f]
 | n+1,i,f,row,left=>fillN R n (i+1) f 0 left++(if left=0∨R≤row then [] else fillN R n (i+1) (f ||| 2 ^ i) (row+1) (left - 1))
def rowAt (f:Nat):Nat→Int
 | 0=>0
 | k+1=>if f.testBit k=true then rowAt f k+1 else 0
def furL (s:ay) (orders known:Nat) (f:Nat) (most:Int):List Nat:=fillN s.row (orders - known) known f (rowAt f known) most
abbrev furC (s:ay) (orders:Nat) (u:Value):List AV:=[.pt [aD (orders:Nat)] 0,.pt [.oq u] 0,.ptr 0 0 0,.pt (az s) 0]
abbrev furB (s:ay) (orders:Nat) (u:Value):AB:=.cells [.fn 78 [] (furC s orders u)] 0 0
theorem fill_c (one:Bool) {s:ay} (hg:Good s) (orders:Nat) (ho:orders≤8) (u:Value) (J:Nat→cF) (Stop:cF→Prop) (xs:List Nat)
  (hy:∀ (i:Nat) (x:List AV),(xs.map fun x=>[sP x])[i]?=some x→zP TT TB one u x (J i) (EJ (J (i+1)) Stop)) :
  ∀ (n i f:Nat) (row left:Int) (k:Nat),i+n=orders→f < 2 ^ i→(0≤row∧row≤i)→(0≤left∧left≤1000)→(∀ j x,(fillN s.row n i f row left)[j]?=some x→xs[k+j]?=some x) →
   ak TT TB one (.fn 78 [] (furC s orders u)) [aD (i:Nat),sP f,aD row,aD left] [furB s orders u] (J k)
    fun v hp' a'=>hp'=[furB s orders u]∧∃ b,v=BB b∧EJ (J (k+(fillN s.row n i f row left).length)) Stop b a'
 | 0,i,f,row,left,k,hi,hf,hr,hl,hat=>by
  have d1:decide ((i:Int)=(orders:Int))=true:=decide_eq_true (by omega)
  have hx:(xs.map fun x=>[sP x])[k]?=some [sP f]:=by
   have:=hat 0 f rfl
   rw [Nat.add_zero] at this
   rw [List.getElem?_map,this]
   rfl
  have hyx:=hy k _ hx
  refine ak.body (fn:=Tryd.f78) rfl rfl rfl ?_
  refine ah (mu:=fun _=>false) ?_
  repeat' (first |refine u1 ?_ |refine u2 ?_ |fail)
  refine ak.mono (hyx _) (fun a hp' amb' hq=>?_)
  obtain ⟨rfl,b,rfl,hb⟩:=hq
  repeat' (first |refine u1 ?_ |refine u2 ?_ |fail)
  exact hb
 | n+1,i,f,row,left,k,hi,hf,hr,hl,hat=>by
  have d1:decide ((i:Int)=(orders:Int))=false:=decide_eq_false (by omega)
  have hrow:=hg.row
  have e1:((i:Nat):Int)+1=((i+1:Nat):Int):=by omega
  have i8:i < 8:=by omega
  have h2i:2 ^ i < 18446744073709551616:=Nat.lt_of_lt_of_le (Nat.pow_lt_pow_right (by decide) i8) (by decide)
  have hff:f < 18446744073709551616:=by omega
  have hfi:f < 2 ^ (i+1):=Nat.lt_of_lt_of_le hf (Nat.pow_le_pow_right (by decide) (by omega))
  have hlen:(fillN s.row (n+1) i f row left).length=(fillN s.row n (i+1) f 0 left).length+(if left=0∨s.row≤row then [] else fillN s.row n (i+1) (f ||| 2 ^ i) (row+1) (left - 1)).length:=by
   rw [fillN,List.length_append]
  have hat1:∀ j x,(fillN s.row n (i+1) f 0 left)[j]?=some x→xs[k+j]?=some x:=fun j x hj=>hat j x (by
   rw [fillN,List.getElem?_append_left (List.getElem?_eq_some_iff.1 hj).1]
   exact hj)
  have c1:=fill_c one hg orders ho u J Stop xs hy n (i+1) f 0 left k (by omega) hfi (by omega) hl hat1
  have hb1:-9223372036854775808≤left - 1∧left - 1≤9223372036854775807:=by omega
  refine ak.body (fn:=Tryd.f78) rfl rfl rfl ?_
  refine RM.qk (mu:=fun _=>false) ?_
  repeat' (first |refine u1 ?_ |refine u2 ?_ |fail)
  refine RM.qk (mu:=fun _=>false) ?_
  repeat' (first |refine u1 ?_ |refine u2 ?_ |fail)
  refine RM.qk (mu:=fun _=>false) ?_
  repeat' (first |refine u1 ?_ |refine u2 ?_ |fail)
  rw [e1]
  refine ak.mono c1 (fun a hp' amb' hq=>?_)
  obtain ⟨rfl,b,rfl,hb⟩:=hq
  rcases hb with ⟨rfl,rfl⟩|⟨rfl,hstop⟩
  ·repeat' (first |refine u1 ?_ |refine u2 ?_ |fail)
   by_cases hs:left=0∨s.row≤row
   ·rw [if_pos hs] at hlen
    have hj:J (k+(fillN s.row (n+1) i f row left).length)=J (k+(fillN s.row n (i+1) f 0 left).length):=by rw [hlen];rfl
    rw [hj]
    by_cases q1:left=0
    ·have e2:=decide_eq_true q1
     refine ah (mu:=fun _=>false) ?_
     repeat' (first |(refine RM.c5 (c:=21) (l1:=[_,_,_,_,_,_,_,_,_,_,_,_,_,_,_,_,_,_,_,_,_]) (l2:=[_,_,_]) (by kernel_rfl) rfl rfl ?_) |refine u1 ?_ |refine u2 ?_ |fail)
     exact .inl ⟨rfl,rfl⟩
    ·have e2:=decide_eq_false q1
     have e3:decide (s.row≤row)=true:=decide_eq_true (by omega)
     refine ah (mu:=fun _=>false) ?_
     repeat' (first |(refine RM.c5 (c:=21) (l1:=[_,_,_,_,_,_,_,_,_,_,_,_,_,_,_,_,_,_,_,_,_]) (l2:=[_,_,_]) (by kernel_rfl) rfl rfl ?_) |refine u1 ?_ |refine u2 ?_ |fail)
     exact .inl ⟨rfl,rfl⟩
   ·have e2:decide (left=0)=false:=decide_eq_false (by omega)
    have e3:decide (s.row≤row)=false:=decide_eq_false (by omega)
    rw [if_neg hs] at hlen
    have hat2:∀ j x,(fillN s.row n (i+1) (f ||| 2 ^ i) (row+1) (left - 1))[j]?=some x→xs[k+(fillN s.row n (i+1) f 0 left).length+j]?=some x:=fun j x hj=>by
     rw [Nat.add_assoc]
     refine hat _ x ?_
     rw [fillN,if_neg hs,List.getElem?_append_right (Nat.le_add_right _ _),Nat.add_sub_cancel_left]
     exact hj
    have hf2:f ||| 2 ^ i < 2 ^ (i+1):=Nat.or_lt_two_pow hfi (Nat.pow_lt_pow_right (by decide) (by omega))
    have c2:=fill_c one hg orders ho u J Stop xs hy n (i+1) (f ||| 2 ^ i) (row+1) (left - 1) (k+(fillN s.row n (i+1) f 0 left).length) (by omega) hf2 (by omega) (by omega) hat2
    rw [Nat.add_assoc,←hlen] at c2
    refine ah (mu:=fun _=>false) ?_
    repeat' (first |(refine RM.c5 (c:=21) (l1:=[_,_,_,_,_,_,_,_,_,_,_,_,_,_,_,_,_,_,_,_,_]) (l2:=[_,_,_]) (by kernel_rfl) rfl rfl ?_) |((with_reducible show cM _ _ _ _ _ _ _ _ _);refine RM.Kv rfl rfl i8 ?_) |((with_reducible show cM _ _ _ _ _ _ _ _ _);refine RM.KX rfl rfl hff h2i ?_) |refine u1 ?_ |refine u2 ?_ |fail)
    rw [e1]
    refine ak.mono c2 (fun a hp' amb' hq=>?_)
    obtain ⟨rfl,b,rfl,hb⟩:=hq
    repeat' (first |refine u1 ?_ |refine u2 ?_ |fail)
    exact hb
  ·repeat' (first |refine u1 ?_ |refine u2 ?_ |fail)
   exact .inr ⟨rfl,hstop⟩
theorem rowAt_b (f:Nat):∀ k:Nat,0≤rowAt f k∧rowAt f k≤k
 | 0=>⟨Int.le_refl _,Int.le_refl _⟩
 | k+1=>by
  have:=rowAt_b f k
  unfold rowAt
  split <;> omega
theorem further_g (one:Bool) {s:ay} (hg:Good s) (orders known:Nat) (f:Nat) (most:Int) (ho:orders≤8) (hk:known≤orders) (hf:f < 2 ^ known) (hm:0≤most∧most≤1000):EK TT TB one (furF s (orders:Nat) (known:Nat) most f) ((furL s orders known f most).map fun x=>[sP x]):=by
 have hf256:f < 2 ^ 8:=Nat.lt_of_lt_of_le hf (Nat.pow_le_pow_right (by decide) (by omega))
 refine EK.body (fn:=Tryd.f77) rfl rfl rfl rfl (fun x hx a ha=>?_) fun u J Stop hy=>?_
 ·obtain ⟨i,_,rfl⟩:=List.mem_map.1 hx
  simp only [List.mem_cons,List.not_mem_nil,or_false] at ha
  rcases ha with rfl
  exact fR.fl _
 rw [List.length_map]
 refine RM.qk (mu:=fun _=>false) ?_
 repeat' (first |refine u1 ?_ |refine u2 ?_ |fail)
 refine RM.qk (mu:=fun _=>false) ?_
 repeat' (first |refine u1 ?_ |refine u2 ?_ |fail)
 refine RM.qk (mu:=fun _=>false) ?_
 repeat' (first |refine u1 ?_ |refine u2 ?_ |fail)
 refine RM.qk (mu:=fun _=>false) ?_
 repeat' (first |refine u1 ?_ |refine u2 ?_ |fail)
 refine RM.cutAt (st':=⟨bZ [(3,.pt [aD (known:Nat)] 0),(4,.pt [sP f] 0),(5,.pt [aD most] 0),(7,.ptr 0 0 0),(8,aD (rowAt f known))],[furB s orders u],J 0,false,0⟩) ?_ ?_
 ·refine RM.qk (mu:=fun _=>false) ?_
  repeat' (first |refine u1 ?_ |refine u2 ?_ |fail)
  refine aF.block ?_
  refine aF.bf (ax.to (l:=[(3,.pt [aD (known:Nat)] 0),(4,.pt [sP f] 0),(5,.pt [aD most] 0),(7,.ptr 0 0 0),(8,aD ((known:Int) - (known:Nat))),(9,aD (((known:Nat):Int) - 1))]) (hp:=[furB s orders u]) 1 rfl ⟨rfl,rfl,rfl,rfl,bg (by omega),rfl,trivial⟩ (Nat.zero_le _) rfl rfl) ?_
  refine aF.loop (fun m:Nat=>m≤known∧rowAt f known=rowAt f m+((known:Int) - (m:Int))) (fun m=>⟨bZ [(3,.pt [aD (known:Nat)] 0),(4,.pt [sP f] 0),(5,.pt [aD most] 0),(7,.ptr 0 0 0),(8,aD ((known:Int) - (m:Nat))),(9,aD (((m:Nat):Int) - 1))],[furB s orders u],J 0,false,0⟩) (fun m=>m) ?_ known ⟨Nat.le_refl _,by omega⟩
  rintro m ⟨hmk,hrow⟩
  have fin:rowAt f m=0→(known:Int) - (m:Int)=rowAt f known:=fun h=>by omega
  cases m with
  | zero =>
   have d1:decide ((0:Int)≤((0:Nat):Int) - 1)=false:=by decide
   rw [fin rfl]
   refine ah (mu:=fun _=>false) ?_
   repeat' (first |refine u1 ?_ |refine u2 ?_ |fail)
   exact .is (ax.to 1 rfl ⟨rfl,rfl,rfl,rfl,rfl,trivial⟩ (Nat.zero_le _) rfl rfl)
  | succ m =>
   have e1:((m+1:Nat):Int) - 1=(m:Int):=by omega
   rw [e1]
   have d1:decide ((0:Int)≤(m:Int))=true:=decide_eq_true (by omega)
   have m8:m < 8:=by omega
   have hfm:f / 2 ^ m < 18446744073709551616:=Nat.lt_of_le_of_lt (Nat.div_le_self _ _) (by omega)
   have hbit:f / 2 ^ m % 2=if f.testBit m=true then 1 else 0:=by
    rw [Nat.testBit_eq_decide_div_mod_eq]
    have:=Nat.mod_two_eq_zero_or_one (f / 2 ^ m)
    rcases this with e|e <;> rw [e] <;> simp
   cases hb:f.testBit m with
   | true =>
    rw [hb,if_pos rfl] at hbit
    have d2:decide (((f / 2 ^ m % 2:Nat):Int)=1)=true:=decide_eq_true (by rw [hbit];decide)
    have hrs:rowAt f (m+1)=rowAt f m+1:=by
     show (if f.testBit m=true then rowAt f m+1 else 0)=_
     rw [if_pos hb]
    refine ah (mu:=fun _=>false) ?_
    repeat' (first |((with_reducible show cM _ _ _ _ _ _ _ _ _);refine RM.Hu rfl rfl m8 ?_) |((with_reducible show cM _ _ _ _ _ _ _ _ _);refine RM.E6 rfl rfl hfm ?_) |((with_reducible show cM _ _ _ _ _ _ _ _ _);refine RM.Kw rfl rfl ?_) |refine u1 ?_ |refine u2 ?_ |fail)
    exact ⟨m,⟨by omega,by omega⟩,Nat.lt_succ_self _,ax.to 1 rfl ⟨rfl,rfl,rfl,rfl,bg (by omega),rfl,trivial⟩ (Nat.zero_le _) rfl rfl⟩
   | false =>
    rw [hb,if_neg (by simp)] at hbit
    have d2:decide (((f / 2 ^ m % 2:Nat):Int)=1)=false:=decide_eq_false (by rw [hbit];decide)
    rw [fin (by show (if f.testBit m=true then rowAt f m+1 else 0)=0;rw [hb];rfl)]
    refine ah (mu:=fun _=>false) ?_
    repeat' (first |((with_reducible show cM _ _ _ _ _ _ _ _ _);refine RM.Hu rfl rfl m8 ?_) |((with_reducible show cM _ _ _ _ _ _ _ _ _);refine RM.E6 rfl rfl hfm ?_) |((with_reducible show cM _ _ _ _ _ _ _ _ _);refine RM.Kw rfl rfl ?_) |refine u1 ?_ |refine u2 ?_ |fail)
    exact .is (ax.to 1 rfl ⟨rfl,rfl,rfl,rfl,rfl,trivial⟩ (Nat.zero_le _) rfl rfl)
 ·have hb:=rowAt_b f known
  have c1:=fill_c one hg orders ho u J Stop (furL s orders known f most) hy (orders - known) known f (rowAt f known) most 0 (by omega) hf hb hm (fun j x hj=>by rw [Nat.zero_add];exact hj)
  refine ah (mu:=fun _=>false) ?_
  repeat' (first |refine u1 ?_ |refine u2 ?_ |fail)
  refine ak.mono c1 (fun a hp' amb' hq=>?_)
  obtain ⟨rfl,b,rfl,hb⟩:=hq
  repeat' (first |refine u1 ?_ |refine u2 ?_ |fail)
  rcases hb with ⟨_,h⟩|⟨_,h⟩
  ·rw [Nat.zero_add] at h
   exact Or.inl h
  ·exact Or.inr h
end Go.Proofs.YtpeogffeoehboaaDoor
open Go Go.RM
namespace Go.Proofs.YtpeogffeoehboaaDoor
set_option maxRecDepth 100000
set_option maxHeartbeats 4000000
def addB:Nat→Nat→List Bool→Nat
 | f,_,[]=>f
 | f,i,true :: l=>addB (f ||| 2 ^ i) (i+1) l
 | f,i,false :: l=>addB f (i+1) l
theorem fillN_eq (R:Nat):∀ (n i f row left:Nat),fillN (R:Int) n i f (row:Int) (left:Int)=(TeLaw.fills R n row left).map (addB f i)
 | 0,i,f,row,left=>rfl
 | n+1,i,f,row,left=>by
  have e1:=fillN_eq R n (i+1) f 0 left
  unfold fillN TeLaw.fills
  rw [List.map_append,List.map_map]
  have e0:((0:Nat):Int)=0:=rfl
  rw [e0] at e1
  rw [e1]
  congr 1
  by_cases h:left=0∨R≤row
  ·rw [if_pos h,if_pos (by omega)];rfl
  ·rw [if_neg h,if_neg (by omega)]
   have e2:=fillN_eq R n (i+1) (f ||| 2 ^ i) (row+1) (left - 1)
   rw [List.map_map,show ((row:Int)+1)=((row+1:Nat):Int) by omega,show ((left:Int) - 1)=((left - 1:Nat):Int) by omega,e2]
   rfl
theorem addB_lt:∀ (l:List Bool) (f i:Nat),f < 2 ^ i→addB f i l < 2 ^ (i+l.length)
 | [],f,i,h=>h
 | true :: l,f,i,h=>by
  have:=addB_lt l (f ||| 2 ^ i) (i+1) (Nat.or_lt_two_pow (Nat.lt_of_lt_of_le h (Nat.pow_le_pow_right (by decide) (by omega))) (Nat.pow_lt_pow_right (by decide) (by omega)))
  rw [List.length_cons,show i+(l.length+1)=i+1+l.length by omega]
  exact this
 | false :: l,f,i,h=>by
  have:=addB_lt l f (i+1) (Nat.lt_of_lt_of_le h (Nat.pow_le_pow_right (by decide) (by omega)))
  rw [List.length_cons,show i+(l.length+1)=i+1+l.length by omega]
  exact this
theorem addB_bit:∀ (l:List Bool) (f i:Nat),f < 2 ^ i→∀ k,(addB f i l).testBit k=(f.testBit k || (decide (i≤k) && l.getD (k - i) false))
 | [],f,i,h,k=>by simp [addB]
 | b :: l,f,i,h,k=>by
  have h1:f < 2 ^ (i+1):=Nat.lt_of_lt_of_le h (Nat.pow_le_pow_right (by decide) (by omega))
  have hk:i≤k→f.testBit k=false:=fun hik=>Nat.testBit_lt_two_pow (Nat.lt_of_lt_of_le h (Nat.pow_le_pow_right (by decide) hik))
  have h2:f ||| 2 ^ i < 2 ^ (i+1):=Nat.or_lt_two_pow h1 (Nat.pow_lt_pow_right (by decide) (by omega))
  rcases Nat.lt_trichotomy k i with hc|hc|hc
  ·cases b
   ·rw [addB,addB_bit l f (i+1) h1 k]
    simp [show ¬ i≤k by omega,show ¬ i+1≤k by omega]
   ·rw [addB,addB_bit l _ (i+1) h2 k,Nat.testBit_or,Nat.testBit_two_pow]
    simp [show ¬ i≤k by omega,show ¬ i+1≤k by omega,show ¬ i=k by omega]
  ·subst hc
   cases b
   ·rw [addB,addB_bit l f (k+1) h1 k]
    simp [show ¬ k+1≤k by omega]
   ·rw [addB,addB_bit l _ (k+1) h2 k,Nat.testBit_or,Nat.testBit_two_pow]
    simp
  ·obtain ⟨m,hm⟩:∃ m,k - i=m+1:=⟨k - i - 1,by omega⟩
   have hm2:k - (i+1)=m:=by omega
   cases b
   ·rw [addB,addB_bit l f (i+1) h1 k,hm,hm2]
    simp [show i≤k by omega,show i+1≤k by omega]
   ·rw [addB,addB_bit l _ (i+1) h2 k,Nat.testBit_or,Nat.testBit_two_pow,hm,hm2]
    simp [show i≤k by omega,show i+1≤k by omega,show ¬ i=k by omega]
theorem addB_snoc:∀ (l:List Bool) (f i:Nat) (b:Bool),addB f i (l++[b])=if b=true then addB f i l ||| 2 ^ (i+l.length) else addB f i l
 | [],f,i,b=>by cases b <;> simp [addB]
 | true :: l,f,i,b=>by
  rw [List.cons_append,addB,addB_snoc l,addB,List.length_cons,show i+1+l.length=i+(l.length+1) by omega]
 | false :: l,f,i,b=>by
  rw [List.cons_append,addB,addB_snoc l,addB,List.length_cons,show i+1+l.length=i+(l.length+1) by omega]
def rowN (f k:Nat):Nat:=(rowAt f k).toNat
theorem furL_eq {s:ay} (hg:Good s) (orders known f most:Nat):furL s orders known f (most:Int)=(TeLaw.fills s.row.toNat (orders - known) (rowN f known) most).map (addB f known):=by
 have h:=rowAt_b f known
 have hr:=hg.row
 unfold furL
 have e1:rowAt f known=((rowN f known:Nat):Int):=by unfold rowN;omega
 have e2:s.row=((s.row.toNat:Nat):Int):=by omega
 rw [e1]
 conv=>lhs;rw [e2]
 exact fillN_eq _ _ _ _ _ _
theorem furL_lt {s:ay} (hg:Good s) {orders known f most y:Nat} (hk:known≤orders) (hf:f < 2 ^ known) (hy:y ∈ furL s orders known f (most:Int)):y < 2 ^ orders:=by
 rw [furL_eq hg] at hy
 obtain ⟨b,hb,rfl⟩:=List.mem_map.1 hy
 have hl:=(TeLaw.mem_fills.1 hb).1
 have:=addB_lt b f known hf
 rw [hl,Nat.add_sub_cancel' hk] at this
 exact this
def holdsV (s:ay) (p:List Order) (known f:Nat) (most:Int):Bool:=(furL s p.length known f most).all fun y=>(wv s p y).isNone
theorem holds_c (one:Bool) {s:ay} {p:List Order} (hp:mo s p) (full:Bool) (known f most:Nat) (hk:known≤p.length) (hf:f < 2 ^ known) (hm:most≤1000) :
  Pu one 64 [.ag (az s),.sl (p.map av) full,aD (known:Nat),sP f,aD (most:Nat)] (BB (holdsV s p known f (most:Int))):=by
 have hg:=hp.good
 have p8:=hp.len
 have ep:((p.map av).length:Int)=p.length:=by simp
 have o1:Pu one 56 [.ag (az s),aD ((p.map av).length:Int),aD (known:Nat),sP f,aD (most:Nat)] (furF s (p.length:Nat) (known:Nat) (most:Nat) f):=by
  rw [ep];exact further_c one s _ _ _ _
 have hgen:=further_g one hg p.length known f (most:Nat) p8 hk hf (by omega)
 refine af.body (fn:=Tryd.f64) rfl rfl rfl rfl ?_
 refine RM.qk (mu:=fun _=>false) ?_
 repeat' (first |refine u1 ?_ |refine u2 ?_ |fail)
 refine RM.qk (mu:=fun _=>false) ?_
 repeat' (first |refine u1 ?_ |((with_reducible show ak _ _ _ _ _ _ _ _);refine af.call o1 rfl rfl ?_) |refine u2 ?_ |fail)
 refine aF.range (fun _=>[.cells [BB false] 0 0]) (fun _=>cF.none) (fun i=>∀ j y,j < i→(furL s p.length known f (most:Nat))[j]?=some y→wv s p y=none) rfl hgen rfl rfl (fun j y hj=>absurd hj (Nat.not_lt_zero _)) (fun i x hx hprev=>?_) (fun hprev=>?_)
 ·obtain ⟨y,hy,rfl⟩:∃ y,(furL s p.length known f (most:Nat))[i]?=some y∧x=[sP y]:=by
   rw [List.getElem?_map,Option.map_eq_some_iff] at hx
   obtain ⟨y,h1,h2⟩:=hx
   exact ⟨y,h1,h2.symm⟩
  have hmem:y ∈ furL s p.length known f (most:Nat):=List.mem_of_getElem? hy
  have hlt:=furL_lt hg hk hf hmem
  have h28:2 ^ p.length≤2 ^ 8:=Nat.pow_le_pow_right (by decide) p8
  have ob:=E9 one hp full y (by omega)
  unfold yM at ob
  refine ⟨rfl,?_⟩
  refine ah (mu:=fun _=>false) ?_
  repeat' (first |refine u1 ?_ |refine u2 ?_ |fail)
  refine ah (mu:=fun _=>false) ?_
  cases hb:wv s p y with
  | some v =>
   obtain ⟨d,n⟩:=v
   rw [hb] at ob
   have e:holdsV s p known f (most:Int)=false:=by
    cases h:holdsV s p known f (most:Int) with
    | false=>rfl
    | true =>
     have:=List.all_eq_true.1 h y hmem
     rw [hb] at this
     cases this
   rw [e]
   repeat' (first |refine u1 ?_ |((with_reducible show ak _ _ _ _ _ _ _ _);refine af.call ob rfl rfl ?_) |refine u2 ?_ |fail)
   exact ⟨[_],⟨Fz.deep rfl,trivial⟩,rfl⟩
  | none =>
   rw [hb] at ob
   repeat' (first |refine u1 ?_ |((with_reducible show ak _ _ _ _ _ _ _ _);refine af.call ob rfl rfl ?_) |refine u2 ?_ |fail)
   refine ⟨fun j z hj hz=>?_,_,ax.to (l:=[]) 1 rfl trivial (Nat.le_refl _) rfl rfl⟩
   by_cases e:j=i
   ·subst e
    rw [hy] at hz
    cases hz
    exact hb
   ·exact hprev j z (by omega) hz
 ·rw [List.length_map] at hprev
  have e:holdsV s p known f (most:Int)=true:=by
   refine List.all_eq_true.2 fun y hy=>?_
   obtain ⟨j,hj,rfl⟩:=List.mem_iff_getElem.1 hy
   rw [hprev j _ hj (List.getElem?_eq_getElem hj)]
   rfl
  rw [e]
  refine ah (mu:=fun _=>false) ?_
  repeat' (first |refine u1 ?_ |refine u2 ?_ |fail)
  exact ⟨[_],⟨Fz.deep rfl,trivial⟩,rfl⟩
theorem greatest_c (one:Bool) (g:FuncId) (fs cs:List AV) (hF:(AV.fn g fs cs).deep=true) (most:Nat) (hm:most≤1000) (r:Int) (hr:-1≤r∧r≤most) (hp:∀ n:Nat,n≤most→af TT TB one (.fn g fs cs) [aD (n:Nat)] (BB (decide ((n:Int)≤r)))) :
  Pu one 62 [aD (most:Nat),.fn g fs cs] (aD r):=by
 have hinb:∀ a b:Int,([(1,AV.fn g fs cs),(5,aD a),(6,aD b)]:List (Nat × AV)).all (fun p=>p.2.jQ 0)=true:=fun a b=>by simp [wg,nS 0 _ hF]
 refine af.body (fn:=Tryd.f62) rfl rfl rfl rfl ?_
 refine ah (mu:=fun _=>false) ?_
 repeat' (first |refine u1 ?_ |refine u2 ?_ |fail)
 refine aF.bf (ax.to (l:=[(1,.fn g fs cs),(5,aD ((-1:Int),((most:Nat):Int)).1),(6,aD ((-1:Int),((most:Nat):Int)).2)]) (hp:=[]) 0 rfl ⟨rfl,rfl,rfl,trivial⟩ (Nat.zero_le _) (hinb _ _) rfl) ?_
 refine aF.loop (fun x:Int × Int=>(-1≤x.1∧x.2≤most)∧x.1≤r∧r≤x.2) (fun x=>⟨bZ [(1,.fn g fs cs),(5,aD x.1),(6,aD x.2)],[],cF.none,false,0⟩) (fun x=>(x.2 - x.1).toNat) ?_ (-1,(most:Int)) ⟨⟨by dsimp only;omega,by dsimp only;omega⟩,hr.1,hr.2⟩
 rintro ⟨lo,hi⟩ ⟨⟨h1,h2⟩,h3,h4⟩
 dsimp only at h1 h2 h3 h4
 show aF _ _ _ _ ⟨bZ [(1,.fn g fs cs),(5,aD (lo,hi).1),(6,aD (lo,hi).2)],[],cF.none,false,0⟩ _
 dsimp only
 refine ah (mu:=fun _=>false) ?_
 by_cases hlt:lo < hi
 ·have d1:=decide_eq_true hlt
  obtain ⟨mid,hmid⟩:∃ mid:Nat,(lo+hi+1) / 2=(mid:Int):=⟨((lo+hi+1) / 2).toNat,by omega⟩
  have b1:lo < (mid:Int)∧(mid:Int)≤hi:=by omega
  have ho:=hp mid (by omega)
  by_cases hle:(mid:Int)≤r
  ·rw [decide_eq_true hle] at ho
   repeat' (first |(refine RM.r2 rfl rfl (by omega) ?_) |refine u1 ?_ |refine u2 ?_ |fail)
   rw [hmid]
   refine af.call ho hF rfl ?_
   repeat' (first |refine u1 ?_ |refine u2 ?_ |fail)
   exact ⟨((mid:Int),hi),⟨⟨by dsimp only;omega,h2⟩,hle,h4⟩,(by dsimp only;omega),ax.to 0 rfl ⟨rfl,rfl,rfl,trivial⟩ (Nat.zero_le _) (hinb _ _) rfl⟩
  ·rw [decide_eq_false hle] at ho
   repeat' (first |(refine RM.r2 rfl rfl (by omega) ?_) |refine u1 ?_ |refine u2 ?_ |fail)
   rw [hmid]
   refine af.call ho hF rfl ?_
   repeat' (first |refine u1 ?_ |refine u2 ?_ |fail)
   exact ⟨(lo,(mid:Int) - 1),⟨⟨h1,by dsimp only;omega⟩,h3,by dsimp only;omega⟩,(by dsimp only;omega),ax.to 0 rfl ⟨rfl,rfl,rfl,trivial⟩ (Nat.zero_le _) (hinb _ _) rfl⟩
 ·have d1:=decide_eq_false hlt
  have e:lo=r:=by omega
  repeat' (first |refine u1 ?_ |refine u2 ?_ |fail)
  exact ⟨[_],⟨Fz.deep rfl,trivial⟩,bg e⟩
end Go.Proofs.YtpeogffeoehboaaDoor
