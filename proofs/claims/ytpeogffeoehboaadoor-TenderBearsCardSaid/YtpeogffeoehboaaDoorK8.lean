/-
  Contracts of the program's functions and of the document's. Lemmas alone; their conditions stand in them.
-/
import Derived.Test.YtpeogffeoehboaaDoorK7
open Go Go.RM
namespace Go.Proofs.YtpeogffeoehboaaDoor
set_option maxRecDepth 100000
set_option maxHeartbeats 4000000
abbrev CV (s:ak) (orders known most:Int) (f:Nat):AV:=.fn 77 [] [.pt [aA orders] 0,.pt (ay s) 0,.pt [aA known] 0,.pt [fA f] 0,.pt [aA most] 0]
theorem rB (one:Bool) (s:ak) (orders known most:Int) (f:Nat):Pu one 56 [.ag (ay s),aA orders,aA known,fA f,aA most] (CV s orders known most f):=by
 refine af.body (fn:=Tryd.f56) rfl rfl rfl rfl ?_
 refine aa (mu:=fun _=>false) ?_
 repeat' (first |refine u1 ?_ |refine u2 ?_ |fail)
 exact ⟨[_],⟨Fz.deep rfl,trivial⟩,rfl⟩
def gF (R:Int):Nat→Nat→Nat→Int→Int→List Nat
 | 0,_,f,_,_=>[f]
 | n+1,i,f,row,left=>gF R n (i+1) f 0 left++(if left=0∨R≤row then [] else gF R n (i+1) (f ||| 2 ^ i) (row+1) (left - 1))
def rowAt (f:Nat):Nat→Int
 | 0=>0
 | k+1=>if f.testBit k=true then rowAt f k+1 else 0
def mC (s:ak) (orders known:Nat) (f:Nat) (most:Int):List Nat:=gF s.row (orders - known) known f (rowAt f known) most
abbrev O4 (s:ak) (orders:Nat) (u:Value):List AV:=[.pt [aA (orders:Nat)] 0,.pt [.oq u] 0,.ptr 0 0 0,.pt (ay s) 0]
abbrev IL (s:ak) (orders:Nat) (u:Value):AB:=.cells [.fn 78 [] (O4 s orders u)] 0 0
theorem CW (one:Bool) {s:ak} (hg:Good s) (orders:Nat) (ho:orders≤8) (u:Value) (J:Nat→bP) (Stop:bP→Prop) (xs:List Nat)
  (hy:∀ (i:Nat) (x:List AV),(xs.map fun x=>[fA x])[i]?=some x→zf TT TB one u x (J i) (CG (J (i+1)) Stop)) :
  ∀ (n i f:Nat) (row left:Int) (k:Nat),i+n=orders→f < 2 ^ i→(0≤row∧row≤i)→(0≤left∧left≤1000)→(∀ j x,(gF s.row n i f row left)[j]?=some x→xs[k+j]?=some x) →
   aj TT TB one (.fn 78 [] (O4 s orders u)) [aA (i:Nat),fA f,aA row,aA left] [IL s orders u] (J k)
    fun v hp' a'=>hp'=[IL s orders u]∧∃ b,v=BB b∧CG (J (k+(gF s.row n i f row left).length)) Stop b a'
 | 0,i,f,row,left,k,hi,hf,hr,hl,hat=>by
  have d1:decide ((i:Int)=(orders:Int))=true:=decide_eq_true (by omega)
  have hx:(xs.map fun x=>[fA x])[k]?=some [fA f]:=by
   have:=hat 0 f rfl
   rw [Nat.add_zero] at this
   rw [List.getElem?_map,this]
   rfl
  have hyx:=hy k _ hx
  refine aj.body (fn:=Tryd.f78) rfl rfl rfl ?_
  refine aa (mu:=fun _=>false) ?_
  repeat' (first |refine u1 ?_ |refine u2 ?_ |fail)
  refine aj.mono (hyx _) (fun a hp' amb' hq=>?_)
  obtain ⟨rfl,b,rfl,hb⟩:=hq
  repeat' (first |refine u1 ?_ |refine u2 ?_ |fail)
  exact hb
 | n+1,i,f,row,left,k,hi,hf,hr,hl,hat=>by
  have d1:decide ((i:Int)=(orders:Int))=false:=decide_eq_false (by omega)
  have hrow:=hg.row
  have e1:((i:Nat):Int)+1=((i+1:Nat):Int):=by omega
  have i8:i < 8:=by omega
  have h2i:2 ^ i < 18446744073709551616:=Nat.lt_of_lt_of_le (Nat.pow_lt_pow_right (by decide) i8) (by decide)
  have hff:f < 18446744073709551616:=by omega
  have hfi:f < 2 ^ (i+1):=Nat.lt_of_lt_of_le hf (Nat.pow_le_pow_right (by decide) (by omega))
  have hlen:(gF s.row (n+1) i f row left).length=(gF s.row n (i+1) f 0 left).length+(if left=0∨s.row≤row then [] else gF s.row n (i+1) (f ||| 2 ^ i) (row+1) (left - 1)).length:=by
   rw [gF,List.length_append]
  have hat1:∀ j x,(gF s.row n (i+1) f 0 left)[j]?=some x→xs[k+j]?=some x:=fun j x hj=>hat j x (by
   rw [gF,List.getElem?_append_left (List.getElem?_eq_some_iff.1 hj).1]
   exact hj)
  have c1:=CW one hg orders ho u J Stop xs hy n (i+1) f 0 left k (by omega) hfi (by omega) hl hat1
  have hb1:-9223372036854775808≤left - 1∧left - 1≤9223372036854775807:=by omega
  refine aj.body (fn:=Tryd.f78) rfl rfl rfl ?_
  refine RM.cm (mu:=fun _=>false) ?_
  repeat' (first |refine u1 ?_ |refine u2 ?_ |fail)
  refine RM.cm (mu:=fun _=>false) ?_
  repeat' (first |refine u1 ?_ |refine u2 ?_ |fail)
  refine RM.cm (mu:=fun _=>false) ?_
  repeat' (first |refine u1 ?_ |refine u2 ?_ |fail)
  rw [e1]
  refine aj.mono c1 (fun a hp' amb' hq=>?_)
  obtain ⟨rfl,b,rfl,hb⟩:=hq
  rcases hb with ⟨rfl,rfl⟩|⟨rfl,hstop⟩
  ·repeat' (first |refine u1 ?_ |refine u2 ?_ |fail)
   by_cases hs:left=0∨s.row≤row
   ·rw [if_pos hs] at hlen
    have hj:J (k+(gF s.row (n+1) i f row left).length)=J (k+(gF s.row n (i+1) f 0 left).length):=by rw [hlen];rfl
    rw [hj]
    by_cases q1:left=0
    ·have e2:=decide_eq_true q1
     refine aa (mu:=fun _=>false) ?_
     repeat' (first |(refine RM.c5 (c:=21) (l1:=[_,_,_,_,_,_,_,_,_,_,_,_,_,_,_,_,_,_,_,_,_]) (l2:=[_,_,_]) (by kernel_rfl) rfl rfl ?_) |refine u1 ?_ |refine u2 ?_ |fail)
     exact .inl ⟨rfl,rfl⟩
    ·have e2:=decide_eq_false q1
     have e3:decide (s.row≤row)=true:=decide_eq_true (by omega)
     refine aa (mu:=fun _=>false) ?_
     repeat' (first |(refine RM.c5 (c:=21) (l1:=[_,_,_,_,_,_,_,_,_,_,_,_,_,_,_,_,_,_,_,_,_]) (l2:=[_,_,_]) (by kernel_rfl) rfl rfl ?_) |refine u1 ?_ |refine u2 ?_ |fail)
     exact .inl ⟨rfl,rfl⟩
   ·have e2:decide (left=0)=false:=decide_eq_false (by omega)
    have e3:decide (s.row≤row)=false:=decide_eq_false (by omega)
    rw [if_neg hs] at hlen
    have hat2:∀ j x,(gF s.row n (i+1) (f ||| 2 ^ i) (row+1) (left - 1))[j]?=some x→xs[k+(gF s.row n (i+1) f 0 left).length+j]?=some x:=fun j x hj=>by
     rw [Nat.add_assoc]
     refine hat _ x ?_
     rw [gF,if_neg hs,List.getElem?_append_right (Nat.le_add_right _ _),Nat.add_sub_cancel_left]
     exact hj
    have hf2:f ||| 2 ^ i < 2 ^ (i+1):=Nat.or_lt_two_pow hfi (Nat.pow_lt_pow_right (by decide) (by omega))
    have c2:=CW one hg orders ho u J Stop xs hy n (i+1) (f ||| 2 ^ i) (row+1) (left - 1) (k+(gF s.row n (i+1) f 0 left).length) (by omega) hf2 (by omega) (by omega) hat2
    rw [Nat.add_assoc,←hlen] at c2
    refine aa (mu:=fun _=>false) ?_
    repeat' (first |(refine RM.c5 (c:=21) (l1:=[_,_,_,_,_,_,_,_,_,_,_,_,_,_,_,_,_,_,_,_,_]) (l2:=[_,_,_]) (by kernel_rfl) rfl rfl ?_) |((with_reducible show aN _ _ _ _ _ _ _ _ _);refine RM.IE rfl rfl i8 ?_) |((with_reducible show aN _ _ _ _ _ _ _ _ _);refine RM.Ni rfl rfl hff h2i ?_) |refine u1 ?_ |refine u2 ?_ |fail)
    rw [e1]
    refine aj.mono c2 (fun a hp' amb' hq=>?_)
    obtain ⟨rfl,b,rfl,hb⟩:=hq
    repeat' (first |refine u1 ?_ |refine u2 ?_ |fail)
    exact hb
  ·repeat' (first |refine u1 ?_ |refine u2 ?_ |fail)
   exact .inr ⟨rfl,hstop⟩
theorem sU (f:Nat):∀ k:Nat,0≤rowAt f k∧rowAt f k≤k
 | 0=>⟨Int.le_refl _,Int.le_refl _⟩
 | k+1=>by
  have:=sU f k
  unfold rowAt
  split <;> omega
theorem rC (one:Bool) {s:ak} (hg:Good s) (orders known:Nat) (f:Nat) (most:Int) (ho:orders≤8) (hk:known≤orders) (hf:f < 2 ^ known) (hm:0≤most∧most≤1000):zg TT TB one (CV s (orders:Nat) (known:Nat) most f) ((mC s orders known f most).map fun x=>[fA x]):=by
 have hf256:f < 2 ^ 8:=Nat.lt_of_lt_of_le hf (Nat.pow_le_pow_right (by decide) (by omega))
 refine zg.body (fn:=Tryd.f77) rfl rfl rfl rfl (fun x hx a ha=>?_) fun u J Stop hy=>?_
 ·obtain ⟨i,_,rfl⟩:=List.mem_map.1 hx
  simp only [List.mem_cons,List.not_mem_nil,or_false] at ha
  rcases ha with rfl
  exact gz.fl _
 rw [List.length_map]
 refine RM.cm (mu:=fun _=>false) ?_
 repeat' (first |refine u1 ?_ |refine u2 ?_ |fail)
 refine RM.cm (mu:=fun _=>false) ?_
 repeat' (first |refine u1 ?_ |refine u2 ?_ |fail)
 refine RM.cm (mu:=fun _=>false) ?_
 repeat' (first |refine u1 ?_ |refine u2 ?_ |fail)
 refine RM.cm (mu:=fun _=>false) ?_
 repeat' (first |refine u1 ?_ |refine u2 ?_ |fail)
 refine RM.cutAt (st':=⟨aU [(3,.pt [aA (known:Nat)] 0),(4,.pt [fA f] 0),(5,.pt [aA most] 0),(7,.ptr 0 0 0),(8,aA (rowAt f known))],[IL s orders u],J 0,false,0⟩) ?_ ?_
 ·refine RM.cm (mu:=fun _=>false) ?_
  repeat' (first |refine u1 ?_ |refine u2 ?_ |fail)
  refine aB.block ?_
  refine aB.aL (au.to (l:=[(3,.pt [aA (known:Nat)] 0),(4,.pt [fA f] 0),(5,.pt [aA most] 0),(7,.ptr 0 0 0),(8,aA ((known:Int) - (known:Nat))),(9,aA (((known:Nat):Int) - 1))]) (hp:=[IL s orders u]) 1 rfl ⟨rfl,rfl,rfl,rfl,bu (by omega),rfl,trivial⟩ (Nat.zero_le _) rfl rfl) ?_
  refine aB.loop (fun m:Nat=>m≤known∧rowAt f known=rowAt f m+((known:Int) - (m:Int))) (fun m=>⟨aU [(3,.pt [aA (known:Nat)] 0),(4,.pt [fA f] 0),(5,.pt [aA most] 0),(7,.ptr 0 0 0),(8,aA ((known:Int) - (m:Nat))),(9,aA (((m:Nat):Int) - 1))],[IL s orders u],J 0,false,0⟩) (fun m=>m) ?_ known ⟨Nat.le_refl _,by omega⟩
  rintro m ⟨hmk,hrow⟩
  have fin:rowAt f m=0→(known:Int) - (m:Int)=rowAt f known:=fun h=>by omega
  cases m with
  | zero =>
   have d1:decide ((0:Int)≤((0:Nat):Int) - 1)=false:=by decide
   rw [fin rfl]
   refine aa (mu:=fun _=>false) ?_
   repeat' (first |refine u1 ?_ |refine u2 ?_ |fail)
   exact .is (au.to 1 rfl ⟨rfl,rfl,rfl,rfl,rfl,trivial⟩ (Nat.zero_le _) rfl rfl)
  | succ m =>
   have e1:((m+1:Nat):Int) - 1=(m:Int):=by omega
   rw [e1]
   have d1:decide ((0:Int)≤(m:Int))=true:=decide_eq_true (by omega)
   have m8:m < 8:=by omega
   have hfm:f / 2 ^ m < 18446744073709551616:=Nat.lt_of_le_of_lt (Nat.div_le_self _ _) (by omega)
   have hbit:f / 2 ^ m % 2=if f.testBit m=true then 1 else 0:=by
    rw [Nat.testBit_eq_decide_div_mod_eq]
    have:=Nat.mod_two_eq_zero_or_one (f / 2 ^ m)
    rcases this with e|e <;> rw [e] <;> simp
   cases hb:f.testBit m with
   | true =>
    rw [hb,if_pos rfl] at hbit
    have d2:decide (((f / 2 ^ m % 2:Nat):Int)=1)=true:=decide_eq_true (by rw [hbit];decide)
    have hrs:rowAt f (m+1)=rowAt f m+1:=by
     show (if f.testBit m=true then rowAt f m+1 else 0)=_
     rw [if_pos hb]
    refine aa (mu:=fun _=>false) ?_
    repeat' (first |((with_reducible show aN _ _ _ _ _ _ _ _ _);refine RM.DZ rfl rfl m8 ?_) |((with_reducible show aN _ _ _ _ _ _ _ _ _);refine RM.zA rfl rfl hfm ?_) |((with_reducible show aN _ _ _ _ _ _ _ _ _);refine RM.J5 rfl rfl ?_) |refine u1 ?_ |refine u2 ?_ |fail)
    exact ⟨m,⟨by omega,by omega⟩,Nat.lt_succ_self _,au.to 1 rfl ⟨rfl,rfl,rfl,rfl,bu (by omega),rfl,trivial⟩ (Nat.zero_le _) rfl rfl⟩
   | false =>
    rw [hb,if_neg (by simp)] at hbit
    have d2:decide (((f / 2 ^ m % 2:Nat):Int)=1)=false:=decide_eq_false (by rw [hbit];decide)
    rw [fin (by show (if f.testBit m=true then rowAt f m+1 else 0)=0;rw [hb];rfl)]
    refine aa (mu:=fun _=>false) ?_
    repeat' (first |((with_reducible show aN _ _ _ _ _ _ _ _ _);refine RM.DZ rfl rfl m8 ?_) |((with_reducible show aN _ _ _ _ _ _ _ _ _);refine RM.zA rfl rfl hfm ?_) |((with_reducible show aN _ _ _ _ _ _ _ _ _);refine RM.J5 rfl rfl ?_) |refine u1 ?_ |refine u2 ?_ |fail)
    exact .is (au.to 1 rfl ⟨rfl,rfl,rfl,rfl,rfl,trivial⟩ (Nat.zero_le _) rfl rfl)
 ·have hb:=sU f known
  have c1:=CW one hg orders ho u J Stop (mC s orders known f most) hy (orders - known) known f (rowAt f known) most 0 (by omega) hf hb hm (fun j x hj=>by rw [Nat.zero_add];exact hj)
  refine aa (mu:=fun _=>false) ?_
  repeat' (first |refine u1 ?_ |refine u2 ?_ |fail)
  refine aj.mono c1 (fun a hp' amb' hq=>?_)
  obtain ⟨rfl,b,rfl,hb⟩:=hq
  repeat' (first |refine u1 ?_ |refine u2 ?_ |fail)
  rcases hb with ⟨_,h⟩|⟨_,h⟩
  ·rw [Nat.zero_add] at h
   exact Or.inl h
  ·exact Or.inr h
end Go.Proofs.YtpeogffeoehboaaDoor
open Go Go.RM
namespace Go.Proofs.YtpeogffeoehboaaDoor
set_option maxRecDepth 100000
set_option maxHeartbeats 4000000
def fJ:Nat→Nat→List Bool→Nat
 | f,_,[]=>f
 | f,i,true :: l=>fJ (f ||| 2 ^ i) (i+1) l
 | f,i,false :: l=>fJ f (i+1) l
theorem vt (R:Nat):∀ (n i f row left:Nat),gF (R:Int) n i f (row:Int) (left:Int)=(TeLaw.ox R n row left).map (fJ f i)
 | 0,i,f,row,left=>rfl
 | n+1,i,f,row,left=>by
  have e1:=vt R n (i+1) f 0 left
  unfold gF TeLaw.ox
  rw [List.map_append,List.map_map]
  have e0:((0:Nat):Int)=0:=rfl
  rw [e0] at e1
  rw [e1]
  congr 1
  by_cases h:left=0∨R≤row
  ·rw [if_pos h,if_pos (by omega)];rfl
  ·rw [if_neg h,if_neg (by omega)]
   have e2:=vt R n (i+1) (f ||| 2 ^ i) (row+1) (left - 1)
   rw [List.map_map,show ((row:Int)+1)=((row+1:Nat):Int) by omega,show ((left:Int) - 1)=((left - 1:Nat):Int) by omega,e2]
   rfl
theorem sV:∀ (l:List Bool) (f i:Nat),f < 2 ^ i→fJ f i l < 2 ^ (i+l.length)
 | [],f,i,h=>h
 | true :: l,f,i,h=>by
  have:=sV l (f ||| 2 ^ i) (i+1) (Nat.or_lt_two_pow (Nat.lt_of_lt_of_le h (Nat.pow_le_pow_right (by decide) (by omega))) (Nat.pow_lt_pow_right (by decide) (by omega)))
  rw [List.length_cons,show i+(l.length+1)=i+1+l.length by omega]
  exact this
 | false :: l,f,i,h=>by
  have:=sV l f (i+1) (Nat.lt_of_lt_of_le h (Nat.pow_le_pow_right (by decide) (by omega)))
  rw [List.length_cons,show i+(l.length+1)=i+1+l.length by omega]
  exact this
theorem jF:∀ (l:List Bool) (f i:Nat),f < 2 ^ i→∀ k,(fJ f i l).testBit k=(f.testBit k || (decide (i≤k) && l.getD (k - i) false))
 | [],f,i,h,k=>by simp [fJ]
 | b :: l,f,i,h,k=>by
  have h1:f < 2 ^ (i+1):=Nat.lt_of_lt_of_le h (Nat.pow_le_pow_right (by decide) (by omega))
  have hk:i≤k→f.testBit k=false:=fun hik=>Nat.testBit_lt_two_pow (Nat.lt_of_lt_of_le h (Nat.pow_le_pow_right (by decide) hik))
  have h2:f ||| 2 ^ i < 2 ^ (i+1):=Nat.or_lt_two_pow h1 (Nat.pow_lt_pow_right (by decide) (by omega))
  rcases Nat.lt_trichotomy k i with hc|hc|hc
  ·cases b
   ·rw [fJ,jF l f (i+1) h1 k]
    simp [show ¬ i≤k by omega,show ¬ i+1≤k by omega]
   ·rw [fJ,jF l _ (i+1) h2 k,Nat.testBit_or,Nat.testBit_two_pow]
    simp [show ¬ i≤k by omega,show ¬ i+1≤k by omega,show ¬ i=k by omega]
  ·subst hc
   cases b
   ·rw [fJ,jF l f (k+1) h1 k]
    simp [show ¬ k+1≤k by omega]
   ·rw [fJ,jF l _ (k+1) h2 k,Nat.testBit_or,Nat.testBit_two_pow]
    simp
  ·obtain ⟨m,hm⟩:∃ m,k - i=m+1:=⟨k - i - 1,by omega⟩
   have hm2:k - (i+1)=m:=by omega
   cases b
   ·rw [fJ,jF l f (i+1) h1 k,hm,hm2]
    simp [show i≤k by omega,show i+1≤k by omega]
   ·rw [fJ,jF l _ (i+1) h2 k,Nat.testBit_or,Nat.testBit_two_pow,hm,hm2]
    simp [show i≤k by omega,show i+1≤k by omega,show ¬ i=k by omega]
theorem k7:∀ (l:List Bool) (f i:Nat) (b:Bool),fJ f i (l++[b])=if b=true then fJ f i l ||| 2 ^ (i+l.length) else fJ f i l
 | [],f,i,b=>by cases b <;> simp [fJ]
 | true :: l,f,i,b=>by
  rw [List.cons_append,fJ,k7 l,fJ,List.length_cons,show i+1+l.length=i+(l.length+1) by omega]
 | false :: l,f,i,b=>by
  rw [List.cons_append,fJ,k7 l,fJ,List.length_cons,show i+1+l.length=i+(l.length+1) by omega]
def Nn (f k:Nat):Nat:=(rowAt f k).toNat
theorem zE {s:ak} (hg:Good s) (orders known f most:Nat):mC s orders known f (most:Int)=(TeLaw.ox s.row.toNat (orders - known) (Nn f known) most).map (fJ f known):=by
 have h:=sU f known
 have hr:=hg.row
 unfold mC
 have e1:rowAt f known=((Nn f known:Nat):Int):=by unfold Nn;omega
 have e2:s.row=((s.row.toNat:Nat):Int):=by omega
 rw [e1]
 conv=>lhs;rw [e2]
 exact vt _ _ _ _ _ _
theorem sW {s:ak} (hg:Good s) {orders known f most y:Nat} (hk:known≤orders) (hf:f < 2 ^ known) (hy:y ∈ mC s orders known f (most:Int)):y < 2 ^ orders:=by
 rw [zE hg] at hy
 obtain ⟨b,hb,rfl⟩:=List.mem_map.1 hy
 have hl:=(TeLaw.gj.1 hb).1
 have:=sV b f known hf
 rw [hl,Nat.add_sub_cancel' hk] at this
 exact this
def dA (s:ak) (p:List Order) (known f:Nat) (most:Int):Bool:=(mC s p.length known f most).all fun y=>(iF s p y).isNone
theorem J9 (one:Bool) {s:ak} {p:List Order} (hp:mz s p) (full:Bool) (known f most:Nat) (hk:known≤p.length) (hf:f < 2 ^ known) (hm:most≤1000) :
  Pu one 64 [.ag (ay s),.sl (p.map ai) full,aA (known:Nat),fA f,aA (most:Nat)] (BB (dA s p known f (most:Int))):=by
 have hg:=hp.good
 have p8:=hp.len
 have ep:((p.map ai).length:Int)=p.length:=by simp
 have o1:Pu one 56 [.ag (ay s),aA ((p.map ai).length:Int),aA (known:Nat),fA f,aA (most:Nat)] (CV s (p.length:Nat) (known:Nat) (most:Nat) f):=by
  rw [ep];exact rB one s _ _ _ _
 have hgen:=rC one hg p.length known f (most:Nat) p8 hk hf (by omega)
 refine af.body (fn:=Tryd.f64) rfl rfl rfl rfl ?_
 refine RM.cm (mu:=fun _=>false) ?_
 repeat' (first |refine u1 ?_ |refine u2 ?_ |fail)
 refine RM.cm (mu:=fun _=>false) ?_
 repeat' (first |refine u1 ?_ |((with_reducible show aj _ _ _ _ _ _ _ _);refine af.call o1 rfl rfl ?_) |refine u2 ?_ |fail)
 refine aB.range (fun _=>[.cells [BB false] 0 0]) (fun _=>bP.none) (fun i=>∀ j y,j < i→(mC s p.length known f (most:Nat))[j]?=some y→iF s p y=none) rfl hgen rfl rfl (fun j y hj=>absurd hj (Nat.not_lt_zero _)) (fun i x hx hprev=>?_) (fun hprev=>?_)
 ·obtain ⟨y,hy,rfl⟩:∃ y,(mC s p.length known f (most:Nat))[i]?=some y∧x=[fA y]:=by
   rw [List.getElem?_map,Option.map_eq_some_iff] at hx
   obtain ⟨y,h1,h2⟩:=hx
   exact ⟨y,h1,h2.symm⟩
  have hmem:y ∈ mC s p.length known f (most:Nat):=List.mem_of_getElem? hy
  have hlt:=sW hg hk hf hmem
  have h28:2 ^ p.length≤2 ^ 8:=Nat.pow_le_pow_right (by decide) p8
  have ob:=vq one hp full y (by omega)
  unfold wT at ob
  refine ⟨rfl,?_⟩
  refine aa (mu:=fun _=>false) ?_
  repeat' (first |refine u1 ?_ |refine u2 ?_ |fail)
  refine aa (mu:=fun _=>false) ?_
  cases hb:iF s p y with
  | some v =>
   obtain ⟨d,n⟩:=v
   rw [hb] at ob
   have e:dA s p known f (most:Int)=false:=by
    cases h:dA s p known f (most:Int) with
    | false=>rfl
    | true =>
     have:=List.all_eq_true.1 h y hmem
     rw [hb] at this
     cases this
   rw [e]
   repeat' (first |refine u1 ?_ |((with_reducible show aj _ _ _ _ _ _ _ _);refine af.call ob rfl rfl ?_) |refine u2 ?_ |fail)
   exact ⟨[_],⟨Fz.deep rfl,trivial⟩,rfl⟩
  | none =>
   rw [hb] at ob
   repeat' (first |refine u1 ?_ |((with_reducible show aj _ _ _ _ _ _ _ _);refine af.call ob rfl rfl ?_) |refine u2 ?_ |fail)
   refine ⟨fun j z hj hz=>?_,_,au.to (l:=[]) 1 rfl trivial (Nat.le_refl _) rfl rfl⟩
   by_cases e:j=i
   ·subst e
    rw [hy] at hz
    cases hz
    exact hb
   ·exact hprev j z (by omega) hz
 ·rw [List.length_map] at hprev
  have e:dA s p known f (most:Int)=true:=by
   refine List.all_eq_true.2 fun y hy=>?_
   obtain ⟨j,hj,rfl⟩:=List.mem_iff_getElem.1 hy
   rw [hprev j _ hj (List.getElem?_eq_getElem hj)]
   rfl
  rw [e]
  refine aa (mu:=fun _=>false) ?_
  repeat' (first |refine u1 ?_ |refine u2 ?_ |fail)
  exact ⟨[_],⟨Fz.deep rfl,trivial⟩,rfl⟩
theorem CX (one:Bool) (g:FuncId) (fs cs:List AV) (hF:(AV.fn g fs cs).deep=true) (most:Nat) (hm:most≤1000) (r:Int) (hr:-1≤r∧r≤most) (hp:∀ n:Nat,n≤most→af TT TB one (.fn g fs cs) [aA (n:Nat)] (BB (decide ((n:Int)≤r)))) :
  Pu one 62 [aA (most:Nat),.fn g fs cs] (aA r):=by
 have hinb:∀ a b:Int,([(1,AV.fn g fs cs),(5,aA a),(6,aA b)]:List (Nat × AV)).all (fun p=>p.2.lg 0)=true:=fun a b=>by simp [vi,nc 0 _ hF]
 refine af.body (fn:=Tryd.f62) rfl rfl rfl rfl ?_
 refine aa (mu:=fun _=>false) ?_
 repeat' (first |refine u1 ?_ |refine u2 ?_ |fail)
 refine aB.aL (au.to (l:=[(1,.fn g fs cs),(5,aA ((-1:Int),((most:Nat):Int)).1),(6,aA ((-1:Int),((most:Nat):Int)).2)]) (hp:=[]) 0 rfl ⟨rfl,rfl,rfl,trivial⟩ (Nat.zero_le _) (hinb _ _) rfl) ?_
 refine aB.loop (fun x:Int × Int=>(-1≤x.1∧x.2≤most)∧x.1≤r∧r≤x.2) (fun x=>⟨aU [(1,.fn g fs cs),(5,aA x.1),(6,aA x.2)],[],bP.none,false,0⟩) (fun x=>(x.2 - x.1).toNat) ?_ (-1,(most:Int)) ⟨⟨by dsimp only;omega,by dsimp only;omega⟩,hr.1,hr.2⟩
 rintro ⟨lo,hi⟩ ⟨⟨h1,h2⟩,h3,h4⟩
 dsimp only at h1 h2 h3 h4
 show aB _ _ _ _ ⟨aU [(1,.fn g fs cs),(5,aA (lo,hi).1),(6,aA (lo,hi).2)],[],bP.none,false,0⟩ _
 dsimp only
 refine aa (mu:=fun _=>false) ?_
 by_cases hlt:lo < hi
 ·have d1:=decide_eq_true hlt
  obtain ⟨mid,hmid⟩:∃ mid:Nat,(lo+hi+1) / 2=(mid:Int):=⟨((lo+hi+1) / 2).toNat,by omega⟩
  have b1:lo < (mid:Int)∧(mid:Int)≤hi:=by omega
  have ho:=hp mid (by omega)
  by_cases hle:(mid:Int)≤r
  ·rw [decide_eq_true hle] at ho
   repeat' (first |(refine RM.r2 rfl rfl (by omega) ?_) |refine u1 ?_ |refine u2 ?_ |fail)
   rw [hmid]
   refine af.call ho hF rfl ?_
   repeat' (first |refine u1 ?_ |refine u2 ?_ |fail)
   exact ⟨((mid:Int),hi),⟨⟨by dsimp only;omega,h2⟩,hle,h4⟩,(by dsimp only;omega),au.to 0 rfl ⟨rfl,rfl,rfl,trivial⟩ (Nat.zero_le _) (hinb _ _) rfl⟩
  ·rw [decide_eq_false hle] at ho
   repeat' (first |(refine RM.r2 rfl rfl (by omega) ?_) |refine u1 ?_ |refine u2 ?_ |fail)
   rw [hmid]
   refine af.call ho hF rfl ?_
   repeat' (first |refine u1 ?_ |refine u2 ?_ |fail)
   exact ⟨(lo,(mid:Int) - 1),⟨⟨h1,by dsimp only;omega⟩,h3,by dsimp only;omega⟩,(by dsimp only;omega),au.to 0 rfl ⟨rfl,rfl,rfl,trivial⟩ (Nat.zero_le _) (hinb _ _) rfl⟩
 ·have d1:=decide_eq_false hlt
  have e:lo=r:=by omega
  repeat' (first |refine u1 ?_ |refine u2 ?_ |fail)
  exact ⟨[_],⟨Fz.deep rfl,trivial⟩,bu e⟩
end Go.Proofs.YtpeogffeoehboaaDoor
open Go Go.RM
namespace Go.Proofs.YtpeogffeoehboaaDoor
set_option maxRecDepth 100000
set_option maxHeartbeats 4000000
theorem BC (one:Bool):Pu one 22 [] (BB true):=af.closed (fun _=>rfl) rfl
theorem xV {one:Bool} {F v:AV} {a c:List AV} {b:Bool} (h:af TT TB one F (a++.sl [] b :: c) v):af TT TB one F (a++.fl (.slice none 0 0) :: c) v:=by
 refine ⟨h.1,fun X H u us hw hx hF hA=>h.2 X H u us hw hx hF ⟨?_,fun i x w hi hu=>?_⟩⟩
 ·have:=hA.1
  simp only [List.length_append,List.length_cons] at this ⊢
  exact this
 ·by_cases hlt:i < a.length
  ·rw [List.getElem?_append_left hlt] at hi
   exact hA.2 i x w (by rw [List.getElem?_append_left hlt];exact hi) hu
  ·have ha:=fun y=>hA.2 i y w
   rw [List.getElem?_append_right (by omega)] at hi ha
   cases hj:i - a.length with
   | zero =>
    rw [hj] at hi ha
    obtain rfl:=Option.some.inj hi
    have:=ha _ rfl hu
    cases this
    exact .nil
   | succ j =>
    rw [hj] at hi ha
    exact ha x hi hu
end Go.Proofs.YtpeogffeoehboaaDoor
