/-
  Contracts of the program's functions and of the document's. Lemmas alone; their conditions stand in them.
-/
import Derived.Test.YtpeogffeoehboaaDoorA3
import Derived.Test.YtpeogffeoehboaaDoorK5
import Derived.Laws.StructEq
open Go Go.RM
namespace Go.Proofs.YtpeogffeoehboaaDoor
set_option maxRecDepth 100000
set_option maxHeartbeats 4000000
abbrev Kk (s:ai) (orders known most:Int) (f:Nat):AV:=.fn 77 [] [.pt [aC orders] 0,.pt (az s) 0,.pt [aC known] 0,.pt [gq f] 0,.pt [aC most] 0]
theorem yD (one:Bool) (s:ai) (orders known most:Int) (f:Nat):Pu one 56 [.ag (az s),aC orders,aC known,gq f,aC most] (Kk s orders known most f):=by
 refine ah.body (fn:=Tryd.f56) rfl rfl rfl rfl ?_
 refine aa (mu:=fun _=>false) ?_
 repeat' (first |refine u1 ?_ |refine u2 ?_ |fail)
 exact ⟨[_],⟨Fz.deep rfl,trivial⟩,rfl⟩
def hJ (R:Int):Nat→Nat→Nat→Int→Int→List Nat
 | 0,_,f,_,_=>[f]
 | n+1,i,f,row,left=>hJ R n (i+1) f 0 left++(if left=0∨R≤row then [] else hJ R n (i+1) (f ||| 2 ^ i) (row+1) (left - 1))
def rowAt (f:Nat):Nat→Int
 | 0=>0
 | k+1=>if f.testBit k=true then rowAt f k+1 else 0
def rC (s:ai) (orders known:Nat) (f:Nat) (most:Int):List Nat:=hJ s.row (orders - known) known f (rowAt f known) most
abbrev Rw (s:ai) (orders:Nat) (u:Value):List AV:=[.pt [aC (orders:Nat)] 0,.pt [.oq u] 0,.ptr 0 0 0,.pt (az s) 0]
abbrev Kl (s:ai) (orders:Nat) (u:Value):AB:=.cells [.fn 78 [] (Rw s orders u)] 0 0
theorem D8 (one:Bool) {s:ai} (hg:Good s) (orders:Nat) (ho:orders≤8) (u:Value) (J:Nat→bG) (Stop:bG→Prop) (xs:List Nat)
  (hy:∀ (i:Nat) (x:List AV),(xs.map fun x=>[gq x])[i]?=some x→z7 TT TB one u x (J i) (DO (J (i+1)) Stop)) :
  ∀ (n i f:Nat) (row left:Int) (k:Nat),i+n=orders→f < 2 ^ i→(0≤row∧row≤i)→(0≤left∧left≤1000)→(∀ j x,(hJ s.row n i f row left)[j]?=some x→xs[k+j]?=some x) →
   av TT TB one (.fn 78 [] (Rw s orders u)) [aC (i:Nat),gq f,aC row,aC left] [Kl s orders u] (J k)
    fun v hp' a'=>hp'=[Kl s orders u]∧∃ b,v=BB b∧DO (J (k+(hJ s.row n i f row left).length)) Stop b a'
 | 0,i,f,row,left,k,hi,hf,hr,hl,hat=>by
  have d1:decide ((i:Int)=(orders:Int))=true:=decide_eq_true (by omega)
  have hx:(xs.map fun x=>[gq x])[k]?=some [gq f]:=by
   have:=hat 0 f rfl
   rw [Nat.add_zero] at this
   rw [List.getElem?_map,this]
   rfl
  have hyx:=hy k _ hx
  refine av.body (fn:=Tryd.f78) rfl rfl rfl ?_
  refine aa (mu:=fun _=>false) ?_
  repeat' (first |refine u1 ?_ |refine u2 ?_ |fail)
  refine av.mono (hyx _) (fun a hp' amb' hq=>?_)
  obtain ⟨rfl,b,rfl,hb⟩:=hq
  repeat' (first |refine u1 ?_ |refine u2 ?_ |fail)
  exact hb
 | n+1,i,f,row,left,k,hi,hf,hr,hl,hat=>by
  have d1:decide ((i:Int)=(orders:Int))=false:=decide_eq_false (by omega)
  have hrow:=hg.row
  have e1:((i:Nat):Int)+1=((i+1:Nat):Int):=by omega
  have i8:i < 8:=by omega
  have h2i:2 ^ i < 18446744073709551616:=Nat.lt_of_lt_of_le (Nat.pow_lt_pow_right (by decide) i8) (by decide)
  have hff:f < 18446744073709551616:=by omega
  have hfi:f < 2 ^ (i+1):=Nat.lt_of_lt_of_le hf (Nat.pow_le_pow_right (by decide) (by omega))
  have hlen:(hJ s.row (n+1) i f row left).length=(hJ s.row n (i+1) f 0 left).length+(if left=0∨s.row≤row then [] else hJ s.row n (i+1) (f ||| 2 ^ i) (row+1) (left - 1)).length:=by
   rw [hJ,List.length_append]
  have hat1:∀ j x,(hJ s.row n (i+1) f 0 left)[j]?=some x→xs[k+j]?=some x:=fun j x hj=>hat j x (by
   rw [hJ,List.getElem?_append_left (List.getElem?_eq_some_iff.1 hj).1]
   exact hj)
  have c1:=D8 one hg orders ho u J Stop xs hy n (i+1) f 0 left k (by omega) hfi (by omega) hl hat1
  have hb1:-9223372036854775808≤left - 1∧left - 1≤9223372036854775807:=by omega
  refine av.body (fn:=Tryd.f78) rfl rfl rfl ?_
  refine RM.cS (mu:=fun _=>false) ?_
  repeat' (first |refine u1 ?_ |refine u2 ?_ |fail)
  refine RM.cS (mu:=fun _=>false) ?_
  repeat' (first |refine u1 ?_ |refine u2 ?_ |fail)
  refine RM.cS (mu:=fun _=>false) ?_
  repeat' (first |refine u1 ?_ |refine u2 ?_ |fail)
  rw [e1]
  refine av.mono c1 (fun a hp' amb' hq=>?_)
  obtain ⟨rfl,b,rfl,hb⟩:=hq
  rcases hb with ⟨rfl,rfl⟩|⟨rfl,hstop⟩
  ·repeat' (first |refine u1 ?_ |refine u2 ?_ |fail)
   by_cases hs:left=0∨s.row≤row
   ·rw [if_pos hs] at hlen
    have hj:J (k+(hJ s.row (n+1) i f row left).length)=J (k+(hJ s.row n (i+1) f 0 left).length):=by rw [hlen];rfl
    rw [hj]
    by_cases q1:left=0
    ·have e2:=decide_eq_true q1
     refine aa (mu:=fun _=>false) ?_
     repeat' (first |(refine RM.c5 (c:=21) (l1:=[_,_,_,_,_,_,_,_,_,_,_,_,_,_,_,_,_,_,_,_,_]) (l2:=[_,_,_]) (by kernel_rfl) rfl rfl ?_) |refine u1 ?_ |refine u2 ?_ |fail)
     exact .inl ⟨rfl,rfl⟩
    ·have e2:=decide_eq_false q1
     have e3:decide (s.row≤row)=true:=decide_eq_true (by omega)
     refine aa (mu:=fun _=>false) ?_
     repeat' (first |(refine RM.c5 (c:=21) (l1:=[_,_,_,_,_,_,_,_,_,_,_,_,_,_,_,_,_,_,_,_,_]) (l2:=[_,_,_]) (by kernel_rfl) rfl rfl ?_) |refine u1 ?_ |refine u2 ?_ |fail)
     exact .inl ⟨rfl,rfl⟩
   ·have e2:decide (left=0)=false:=decide_eq_false (by omega)
    have e3:decide (s.row≤row)=false:=decide_eq_false (by omega)
    rw [if_neg hs] at hlen
    have hat2:∀ j x,(hJ s.row n (i+1) (f ||| 2 ^ i) (row+1) (left - 1))[j]?=some x→xs[k+(hJ s.row n (i+1) f 0 left).length+j]?=some x:=fun j x hj=>by
     rw [Nat.add_assoc]
     refine hat _ x ?_
     rw [hJ,if_neg hs,List.getElem?_append_right (Nat.le_add_right _ _),Nat.add_sub_cancel_left]
     exact hj
    have hf2:f ||| 2 ^ i < 2 ^ (i+1):=Nat.or_lt_two_pow hfi (Nat.pow_lt_pow_right (by decide) (by omega))
    have c2:=D8 one hg orders ho u J Stop xs hy n (i+1) (f ||| 2 ^ i) (row+1) (left - 1) (k+(hJ s.row n (i+1) f 0 left).length) (by omega) hf2 (by omega) (by omega) hat2
    rw [Nat.add_assoc,←hlen] at c2
    refine aa (mu:=fun _=>false) ?_
    repeat' (first |(refine RM.c5 (c:=21) (l1:=[_,_,_,_,_,_,_,_,_,_,_,_,_,_,_,_,_,_,_,_,_]) (l2:=[_,_,_]) (by kernel_rfl) rfl rfl ?_) |((with_reducible show aL _ _ _ _ _ _ _ _ _);refine RM.Fs rfl rfl i8 ?_) |((with_reducible show aL _ _ _ _ _ _ _ _ _);refine RM.Sj rfl rfl hff h2i ?_) |refine u1 ?_ |refine u2 ?_ |fail)
    rw [e1]
    refine av.mono c2 (fun a hp' amb' hq=>?_)
    obtain ⟨rfl,b,rfl,hb⟩:=hq
    repeat' (first |refine u1 ?_ |refine u2 ?_ |fail)
    exact hb
  ·repeat' (first |refine u1 ?_ |refine u2 ?_ |fail)
   exact .inr ⟨rfl,hstop⟩
theorem Aj (f:Nat):∀ k:Nat,0≤rowAt f k∧rowAt f k≤k
 | 0=>⟨Int.le_refl _,Int.le_refl _⟩
 | k+1=>by
  have:=Aj f k
  unfold rowAt
  split <;> omega
theorem yE (one:Bool) {s:ai} (hg:Good s) (orders known:Nat) (f:Nat) (most:Int) (ho:orders≤8) (hk:known≤orders) (hf:f < 2 ^ known) (hm:0≤most∧most≤1000):B6 TT TB one (Kk s (orders:Nat) (known:Nat) most f) ((rC s orders known f most).map fun x=>[gq x]):=by
 have hf256:f < 2 ^ 8:=Nat.lt_of_lt_of_le hf (Nat.pow_le_pow_right (by decide) (by omega))
 refine B6.body (fn:=Tryd.f77) rfl rfl rfl rfl (fun x hx a ha=>?_) fun u J Stop hy=>?_
 ·obtain ⟨i,_,rfl⟩:=List.mem_map.1 hx
  simp only [List.mem_cons,List.not_mem_nil,or_false] at ha
  rcases ha with rfl
  exact fA.fl _
 rw [List.length_map]
 refine RM.cS (mu:=fun _=>false) ?_
 repeat' (first |refine u1 ?_ |refine u2 ?_ |fail)
 refine RM.cS (mu:=fun _=>false) ?_
 repeat' (first |refine u1 ?_ |refine u2 ?_ |fail)
 refine RM.cS (mu:=fun _=>false) ?_
 repeat' (first |refine u1 ?_ |refine u2 ?_ |fail)
 refine RM.cS (mu:=fun _=>false) ?_
 repeat' (first |refine u1 ?_ |refine u2 ?_ |fail)
 refine RM.cutAt (st':=⟨bx [(3,.pt [aC (known:Nat)] 0),(4,.pt [gq f] 0),(5,.pt [aC most] 0),(7,.ptr 0 0 0),(8,aC (rowAt f known))],[Kl s orders u],J 0,false,0⟩) ?_ ?_
 ·refine RM.cS (mu:=fun _=>false) ?_
  repeat' (first |refine u1 ?_ |refine u2 ?_ |fail)
  refine aA.block ?_
  refine aA.aX (aj.to (l:=[(3,.pt [aC (known:Nat)] 0),(4,.pt [gq f] 0),(5,.pt [aC most] 0),(7,.ptr 0 0 0),(8,aC ((known:Int) - (known:Nat))),(9,aC (((known:Nat):Int) - 1))]) (hp:=[Kl s orders u]) 1 rfl ⟨rfl,rfl,rfl,rfl,bW (by omega),rfl,trivial⟩ (Nat.zero_le _) rfl rfl) ?_
  refine aA.loop (fun m:Nat=>m≤known∧rowAt f known=rowAt f m+((known:Int) - (m:Int))) (fun m=>⟨bx [(3,.pt [aC (known:Nat)] 0),(4,.pt [gq f] 0),(5,.pt [aC most] 0),(7,.ptr 0 0 0),(8,aC ((known:Int) - (m:Nat))),(9,aC (((m:Nat):Int) - 1))],[Kl s orders u],J 0,false,0⟩) (fun m=>m) ?_ known ⟨Nat.le_refl _,by omega⟩
  rintro m ⟨hmk,hrow⟩
  have fin:rowAt f m=0→(known:Int) - (m:Int)=rowAt f known:=fun h=>by omega
  cases m with
  | zero =>
   have d1:decide ((0:Int)≤((0:Nat):Int) - 1)=false:=by decide
   rw [fin rfl]
   refine aa (mu:=fun _=>false) ?_
   repeat' (first |refine u1 ?_ |refine u2 ?_ |fail)
   exact .is (aj.to 1 rfl ⟨rfl,rfl,rfl,rfl,rfl,trivial⟩ (Nat.zero_le _) rfl rfl)
  | succ m =>
   have e1:((m+1:Nat):Int) - 1=(m:Int):=by omega
   rw [e1]
   have d1:decide ((0:Int)≤(m:Int))=true:=decide_eq_true (by omega)
   have m8:m < 8:=by omega
   have hfm:f / 2 ^ m < 18446744073709551616:=Nat.lt_of_le_of_lt (Nat.div_le_self _ _) (by omega)
   have hbit:f / 2 ^ m % 2=if f.testBit m=true then 1 else 0:=by
    rw [Nat.testBit_eq_decide_div_mod_eq]
    have:=Nat.mod_two_eq_zero_or_one (f / 2 ^ m)
    rcases this with e|e <;> rw [e] <;> simp
   cases hb:f.testBit m with
   | true =>
    rw [hb,if_pos rfl] at hbit
    have d2:decide (((f / 2 ^ m % 2:Nat):Int)=1)=true:=decide_eq_true (by rw [hbit];decide)
    have hrs:rowAt f (m+1)=rowAt f m+1:=by
     show (if f.testBit m=true then rowAt f m+1 else 0)=_
     rw [if_pos hb]
    refine aa (mu:=fun _=>false) ?_
    repeat' (first |((with_reducible show aL _ _ _ _ _ _ _ _ _);refine RM.v7 rfl rfl m8 ?_) |((with_reducible show aL _ _ _ _ _ _ _ _ _);refine RM.qd rfl rfl hfm ?_) |((with_reducible show aL _ _ _ _ _ _ _ _ _);refine RM.DZ rfl rfl ?_) |refine u1 ?_ |refine u2 ?_ |fail)
    exact ⟨m,⟨by omega,by omega⟩,Nat.lt_succ_self _,aj.to 1 rfl ⟨rfl,rfl,rfl,rfl,bW (by omega),rfl,trivial⟩ (Nat.zero_le _) rfl rfl⟩
   | false =>
    rw [hb,if_neg (by simp)] at hbit
    have d2:decide (((f / 2 ^ m % 2:Nat):Int)=1)=false:=decide_eq_false (by rw [hbit];decide)
    rw [fin (by show (if f.testBit m=true then rowAt f m+1 else 0)=0;rw [hb];rfl)]
    refine aa (mu:=fun _=>false) ?_
    repeat' (first |((with_reducible show aL _ _ _ _ _ _ _ _ _);refine RM.v7 rfl rfl m8 ?_) |((with_reducible show aL _ _ _ _ _ _ _ _ _);refine RM.qd rfl rfl hfm ?_) |((with_reducible show aL _ _ _ _ _ _ _ _ _);refine RM.DZ rfl rfl ?_) |refine u1 ?_ |refine u2 ?_ |fail)
    exact .is (aj.to 1 rfl ⟨rfl,rfl,rfl,rfl,rfl,trivial⟩ (Nat.zero_le _) rfl rfl)
 ·have hb:=Aj f known
  have c1:=D8 one hg orders ho u J Stop (rC s orders known f most) hy (orders - known) known f (rowAt f known) most 0 (by omega) hf hb hm (fun j x hj=>by rw [Nat.zero_add];exact hj)
  refine aa (mu:=fun _=>false) ?_
  repeat' (first |refine u1 ?_ |refine u2 ?_ |fail)
  refine av.mono c1 (fun a hp' amb' hq=>?_)
  obtain ⟨rfl,b,rfl,hb⟩:=hq
  repeat' (first |refine u1 ?_ |refine u2 ?_ |fail)
  rcases hb with ⟨_,h⟩|⟨_,h⟩
  ·rw [Nat.zero_add] at h
   exact Or.inl h
  ·exact Or.inr h
def Cq:Nat→Nat→List Bool→Nat
 | f,_,[]=>f
 | f,i,true :: l=>Cq (f ||| 2 ^ i) (i+1) l
 | f,i,false :: l=>Cq f (i+1) l
theorem wk (R:Nat):∀ (n i f row left:Nat),hJ (R:Int) n i f (row:Int) (left:Int)=(TeLaw.tE R n row left).map (Cq f i)
 | 0,i,f,row,left=>rfl
 | n+1,i,f,row,left=>by
  have e1:=wk R n (i+1) f 0 left
  unfold hJ TeLaw.tE
  rw [List.map_append,List.map_map]
  have e0:((0:Nat):Int)=0:=rfl
  rw [e0] at e1
  rw [e1]
  congr 1
  by_cases h:left=0∨R≤row
  ·rw [if_pos h,if_pos (by omega)];rfl
  ·rw [if_neg h,if_neg (by omega)]
   have e2:=wk R n (i+1) (f ||| 2 ^ i) (row+1) (left - 1)
   rw [List.map_map,show ((row:Int)+1)=((row+1:Nat):Int) by omega,show ((left:Int) - 1)=((left - 1:Nat):Int) by omega,e2]
   rfl
theorem Ak:∀ (l:List Bool) (f i:Nat),f < 2 ^ i→Cq f i l < 2 ^ (i+l.length)
 | [],f,i,h=>h
 | true :: l,f,i,h=>by
  have:=Ak l (f ||| 2 ^ i) (i+1) (Nat.or_lt_two_pow (Nat.lt_of_lt_of_le h (Nat.pow_le_pow_right (by decide) (by omega))) (Nat.pow_lt_pow_right (by decide) (by omega)))
  rw [List.length_cons,show i+(l.length+1)=i+1+l.length by omega]
  exact this
 | false :: l,f,i,h=>by
  have:=Ak l f (i+1) (Nat.lt_of_lt_of_le h (Nat.pow_le_pow_right (by decide) (by omega)))
  rw [List.length_cons,show i+(l.length+1)=i+1+l.length by omega]
  exact this
def Pt (f k:Nat):Nat:=(rowAt f k).toNat
theorem Al {s:ai} (hg:Good s) (orders known f most:Nat):rC s orders known f (most:Int)=(TeLaw.tE s.row.toNat (orders - known) (Pt f known) most).map (Cq f known):=by
 have h:=Aj f known
 have hr:=hg.row
 unfold rC
 have e1:rowAt f known=((Pt f known:Nat):Int):=by unfold Pt;omega
 have e2:s.row=((s.row.toNat:Nat):Int):=by omega
 rw [e1]
 conv=>lhs;rw [e2]
 exact wk _ _ _ _ _ _
theorem Fw {s:ai} (hg:Good s) {orders known f most y:Nat} (hk:known≤orders) (hf:f < 2 ^ known) (hy:y ∈ rC s orders known f (most:Int)):y < 2 ^ orders:=by
 rw [Al hg] at hy
 obtain ⟨b,hb,rfl⟩:=List.mem_map.1 hy
 have hl:=(TeLaw.gP.1 hb).1
 have:=Ak b f known hf
 rw [hl,Nat.add_sub_cancel' hk] at this
 exact this
def fm (s:ai) (p:List Order) (known f:Nat) (most:Int):Bool:=(rC s p.length known f most).all fun y=>(jZ s p y).isNone
theorem Fx (one:Bool) {s:ai} {p:List Order} (hp:jP s p) (full:Bool) (known f most:Nat) (hk:known≤p.length) (hf:f < 2 ^ known) (hm:most≤1000) :
  Pu one 64 [.ag (az s),.sl (p.map aD) full,aC (known:Nat),gq f,aC (most:Nat)] (BB (fm s p known f (most:Int))):=by
 have hg:=hp.good
 have p8:=hp.len
 have ep:((p.map aD).length:Int)=p.length:=by simp
 have o1:Pu one 56 [.ag (az s),aC ((p.map aD).length:Int),aC (known:Nat),gq f,aC (most:Nat)] (Kk s (p.length:Nat) (known:Nat) (most:Nat) f):=by
  rw [ep];exact yD one s _ _ _ _
 have hgen:=yE one hg p.length known f (most:Nat) p8 hk hf (by omega)
 refine ah.body (fn:=Tryd.f64) rfl rfl rfl rfl ?_
 refine RM.cS (mu:=fun _=>false) ?_
 repeat' (first |refine u1 ?_ |refine u2 ?_ |fail)
 refine RM.cS (mu:=fun _=>false) ?_
 repeat' (first |refine u1 ?_ |((with_reducible show av _ _ _ _ _ _ _ _);refine ah.call o1 rfl rfl ?_) |refine u2 ?_ |fail)
 refine aA.range (fun _=>[.cells [BB false] 0 0]) (fun _=>bG.none) (fun i=>∀ j y,j < i→(rC s p.length known f (most:Nat))[j]?=some y→jZ s p y=none) rfl hgen rfl rfl (fun j y hj=>absurd hj (Nat.not_lt_zero _)) (fun i x hx hprev=>?_) (fun hprev=>?_)
 ·obtain ⟨y,hy,rfl⟩:∃ y,(rC s p.length known f (most:Nat))[i]?=some y∧x=[gq y]:=by
   rw [List.getElem?_map,Option.map_eq_some_iff] at hx
   obtain ⟨y,h1,h2⟩:=hx
   exact ⟨y,h1,h2.symm⟩
  have hmem:y ∈ rC s p.length known f (most:Nat):=List.mem_of_getElem? hy
  have hlt:=Fw hg hk hf hmem
  have h28:2 ^ p.length≤2 ^ 8:=Nat.pow_le_pow_right (by decide) p8
  have ob:=wj one hp full y (by omega)
  unfold wh at ob
  refine ⟨rfl,?_⟩
  refine aa (mu:=fun _=>false) ?_
  repeat' (first |refine u1 ?_ |refine u2 ?_ |fail)
  refine aa (mu:=fun _=>false) ?_
  cases hb:jZ s p y with
  | some v =>
   obtain ⟨d,n⟩:=v
   rw [hb] at ob
   have e:fm s p known f (most:Int)=false:=by
    cases h:fm s p known f (most:Int) with
    | false=>rfl
    | true =>
     have:=List.all_eq_true.1 h y hmem
     rw [hb] at this
     cases this
   rw [e]
   repeat' (first |refine u1 ?_ |((with_reducible show av _ _ _ _ _ _ _ _);refine ah.call ob rfl rfl ?_) |refine u2 ?_ |fail)
   exact ⟨[_],⟨Fz.deep rfl,trivial⟩,rfl⟩
  | none =>
   rw [hb] at ob
   repeat' (first |refine u1 ?_ |((with_reducible show av _ _ _ _ _ _ _ _);refine ah.call ob rfl rfl ?_) |refine u2 ?_ |fail)
   refine ⟨fun j z hj hz=>?_,_,aj.to (l:=[]) 1 rfl trivial (Nat.le_refl _) rfl rfl⟩
   by_cases e:j=i
   ·subst e
    rw [hy] at hz
    cases hz
    exact hb
   ·exact hprev j z (by omega) hz
 ·rw [List.length_map] at hprev
  have e:fm s p known f (most:Int)=true:=by
   refine List.all_eq_true.2 fun y hy=>?_
   obtain ⟨j,hj,rfl⟩:=List.mem_iff_getElem.1 hy
   rw [hprev j _ hj (List.getElem?_eq_getElem hj)]
   rfl
  rw [e]
  refine aa (mu:=fun _=>false) ?_
  repeat' (first |refine u1 ?_ |refine u2 ?_ |fail)
  exact ⟨[_],⟨Fz.deep rfl,trivial⟩,rfl⟩
theorem Sl (one:Bool):Pu one 22 [] (BB true):=ah.closed (fun _=>rfl) rfl
section
variable {P : Program}
theorem Am {t : TypeId} {d : TypeDesc} (h : P.underlying t = some d) : aF P (underlying t) = some d := by
  unfold underlying
  rw [bP]
  show aF P (match P.underlying t with | some d => pure d | none => stuck "no such type") = some d
  rw [h]
  rfl
end
def wD (s:ai) (p:List Order) (f n:Nat) (w:Int) (d:Nat):Int:=(List.range d).foldl (fun w d=>min w (kI s p f n d)) w
theorem Fy {s:ai} {p:List Order} {f n:Nat} {w:Int} {d:Nat}:wD s p f n w (d+1)=min (wD s p f n w d) (kI s p f n d):=by
 unfold wD
 rw [List.range_succ,List.foldl_append]
 rfl
def wL (s:ai) (p:List Order) (n:Nat) (L:List Nat):Int:=L.foldl (fun w f=>wD s p f n w s.days.toNat) (jS s n)
def nS (s:ai) (p:List Order):List Nat:=rC s p.length 0 0 s.fail
theorem Km (k m:Nat) (H:Hp):lB (xz k) 90 [.int .u64 (m:Int)] H=bif CW (k:Int) (m:Int) then some (.int .i64 (Lib.ctz 64 k),H) else none:=by
 have h:lz 0 (.int .u64 (k:Int)) (.int .u64 (m:Int)) .leaf=bif CW (k:Int) (m:Int) then some .leaf else none:=by
  show (bif (IntKind.u64 == IntKind.u64) && CW (k:Int) (m:Int) then some Tr.leaf else none)=_
  rfl
 show (match ((lz 0 (.int .u64 (k:Int)) (.int .u64 (m:Int)) .leaf).bind (iC 0 [] [])) with
  | some φ=>match jt 0 H.get [] 0 φ with
   | some _=>(nH 0 H.n (.int .i64 (Lib.ctz 64 k))).map fun v=>(v,eG H [])
   | none=>none
  | none=>none)=_
 rw [h]
 cases CW (k:Int) (m:Int) <;> rfl
theorem FA (m:Nat) (H:Hp):∀ l:List Nat,m ∈ l→RM.look (l.map xz) 90 [.int .u64 (m:Int)] H=some (.int .i64 (Lib.ctz 64 m),H)
 | [],h=>by cases h
 | k :: l,h=>by
  show (match lB (xz k) 90 [.int .u64 (m:Int)] H with
   | some r=>some r
   | none=>RM.look (l.map xz) 90 [.int .u64 (m:Int)] H)=_
  rw [Km,C1]
  by_cases e:(k:Int)=(m:Int)
  ·rw [decide_eq_true e]
   have:k=m:=by omega
   subst this
   rfl
  ·rw [decide_eq_false e]
   show RM.look (l.map xz) 90 [.int .u64 (m:Int)] H=_
   refine FA m H l ?_
   rcases List.mem_cons.1 h with rfl|h
   ·exact absurd rfl e
   ·exact h
theorem LZ {m:Nat} (hm:m < 256) (H:Hp):RM.look TB 90 [.int .u64 (m:Int)] H=some (.int .i64 (Lib.ctz 64 m),H):=by
 show (match lB Rq 90 [.int .u64 (m:Int)] H with
  | some r=>some r
  | none=>RM.look ((List.range 256).map xz) 90 [.int .u64 (m:Int)] H)=_
 show RM.look ((List.range 256).map xz) 90 [.int .u64 (m:Int)] H=_
 exact FA m H _ (List.mem_range.2 hm)
theorem Cr {tab:List XE} {one:Bool} {f:FuncId} {a v:Value} (h:∀ H,RM.look tab f [a] H=some (v,H)) (hv:aS v=true):ah TT tab one (.fn f [] []) [.fl a] (.fl v):=by
 refine ⟨rfl,fun X H u us hwf hX hF ha=>?_⟩
 cases hF with
 | fn l1 l2 d1 d2 =>
  rename_i a' b'
  have h1:a'.toList=[]:=List.length_eq_zero_iff.1 l1.symm
  have h2:b'.toList=[]:=List.length_eq_zero_iff.1 l2.symm
  have h3:us=[a]:=by
   obtain ⟨hl,hg⟩:=ha
   match us,hl with
   | [w],_ =>
    have:=hg 0 (.fl a) w rfl rfl
    cases this
    rfl
  refine ⟨.fn f [a],by simp [cF,h1,h2,h3],0,[.ret v H],?_,fun _=>⟨_,rfl⟩,fun r hr=>?_⟩
  ·show rx tab (tX tab TT 0) (.call f [a] H)=_
   unfold rx
   simp only [h H]
  ·obtain rfl:=List.mem_singleton.1 hr
   exact ⟨v,H,rfl,Nat.le_refl _,hwf,fun _ _=>rfl,Nat.min_le_left _ _,.fl hv⟩
theorem Pv (one:Bool) {m:Nat} (hm:m < 256):Pu one 90 [gq m] (aC (Lib.ctz 64 m)):=Cr (fun H=>LZ hm H) rfl
theorem Ry {own:Bool} {fr:Nat→AV} {hp:List AB} {K:AV→List AB→Prop} {x:Operand} {n:Nat} (hx:aN fr x=gq n) (h:n < 4611686018427387904) (k:K (aC (n:Nat)) hp):RM.wpOp TT own (.convert 131 3 x) fr hp K:=by
 show DE TT 131 3 (aN fr x) hp K
 rw [hx]
 have e:dX (aF TT.P (convert 131 3 (.int .u64 (n:Int))))=some (.int .i64 (IntKind.i64.wrap (n:Int)),.none):=rfl
 rw [wrap_i64 (by omega) (by omega)] at e
 exact ⟨_,rfl,_,e,rfl,k⟩
def jT (m:Nat):Nat:=(m / 2 ^ 1 &&& 6148914691236517205)+(m &&& 6148914691236517205)
def oY (m:Nat):Nat:=(m / 2 ^ 2 &&& 3689348814741910323)+(m &&& 3689348814741910323)
def sN (m:Nat):Nat:=(m / 2 ^ 4+m) &&& 1085102592571150095
def lH (m:Nat):Nat:=(let c:=sN (oY (jT m));let d:=c+c / 2 ^ 8;let e:=d+d / 2 ^ 16;e+e / 2 ^ 32) &&& 127
theorem Pw {m:Nat} (h:m < 256):jT m < 384:=by
 have h1:m / 2 ^ 1 &&& 6148914691236517205≤m / 2 ^ 1:=Nat.and_le_left
 have h2:m &&& 6148914691236517205≤m:=Nat.and_le_left
 unfold jT
 omega
theorem Px {m:Nat} (h:m < 384):oY m < 480:=by
 have h1:m / 2 ^ 2 &&& 3689348814741910323≤m / 2 ^ 2:=Nat.and_le_left
 have h2:m &&& 3689348814741910323≤m:=Nat.and_le_left
 unfold oY
 omega
theorem Py {m:Nat} (h:m < 480):sN m < 512:=by
 have h1:(m / 2 ^ 4+m) &&& 1085102592571150095≤m / 2 ^ 4+m:=Nat.and_le_left
 unfold sN
 omega
theorem Kr (m:Nat):lH m≤127:=Nat.and_le_right
theorem Pz (one:Bool) {m:Nat} (hm:m < 256):Pu one 87 [gq m] (aC (lH m:Nat)):=by
 have b1:=Pw hm
 have b2:=Px b1
 have b3:=Py b2
 have a1:m / 2 ^ 1 &&& 6148914691236517205≤m / 2 ^ 1:=Nat.and_le_left
 have a2:m &&& 6148914691236517205≤m:=Nat.and_le_left
 have a3:jT m / 2 ^ 2 &&& 3689348814741910323≤jT m / 2 ^ 2:=Nat.and_le_left
 have a4:jT m &&& 3689348814741910323≤jT m:=Nat.and_le_left
 have e1:(m / 2 ^ 1 &&& 6148914691236517205)+(m &&& 6148914691236517205)=jT m:=rfl
 have e2:(jT m / 2 ^ 2 &&& 3689348814741910323)+(jT m &&& 3689348814741910323)=oY (jT m):=rfl
 have e3:(oY (jT m) / 2 ^ 4+oY (jT m)) &&& 1085102592571150095=sN (oY (jT m)):=rfl
 refine ah.body (fn:=Tryd.f87) rfl rfl rfl rfl ?_
 refine RM.cS (mu:=fun _=>false) ?_
 repeat' (first |refine u1 ?_ |refine u2 ?_ |fail)
 refine RM.cS (mu:=fun _=>false) ?_
 repeat' (first |((with_reducible show aL _ _ _ _ _ _ _ _ _);refine RM.yF (j:=1) rfl rfl (by omega) ?_) |((with_reducible show aL _ _ _ _ _ _ _ _ _);refine RM.Ci (n:=6148914691236517205) rfl rfl (by omega) (by decide) ?_) |((with_reducible show aL _ _ _ _ _ _ _ _ _);refine RM.FB rfl rfl (by omega) ?_) |refine u1 ?_ |refine u2 ?_ |fail)
 rw [e1]
 refine RM.cS (mu:=fun _=>false) ?_
 repeat' (first |((with_reducible show aL _ _ _ _ _ _ _ _ _);refine RM.yF (j:=2) rfl rfl (by omega) ?_) |((with_reducible show aL _ _ _ _ _ _ _ _ _);refine RM.Ci (n:=3689348814741910323) rfl rfl (by omega) (by decide) ?_) |((with_reducible show aL _ _ _ _ _ _ _ _ _);refine RM.FB rfl rfl (by omega) ?_) |refine u1 ?_ |refine u2 ?_ |fail)
 rw [e2]
 refine RM.cS (mu:=fun _=>false) ?_
 repeat' (first |((with_reducible show aL _ _ _ _ _ _ _ _ _);refine RM.yF (j:=4) rfl rfl (by omega) ?_) |((with_reducible show aL _ _ _ _ _ _ _ _ _);refine RM.FB rfl rfl (by omega) ?_) |((with_reducible show aL _ _ _ _ _ _ _ _ _);refine RM.Ci (n:=1085102592571150095) rfl rfl (by omega) (by decide) ?_) |refine u1 ?_ |refine u2 ?_ |fail)
 rw [e3]
 have e4:lH m=(sN (oY (jT m))+sN (oY (jT m)) / 2 ^ 8+(sN (oY (jT m))+sN (oY (jT m)) / 2 ^ 8) / 2 ^ 16+(sN (oY (jT m))+sN (oY (jT m)) / 2 ^ 8+(sN (oY (jT m))+sN (oY (jT m)) / 2 ^ 8) / 2 ^ 16) / 2 ^ 32) &&& 127:=rfl
 rw [e4]
 generalize sN (oY (jT m))=c at *
 refine aa (mu:=fun _=>false) ?_
 repeat' (first |((with_reducible show aL _ _ _ _ _ _ _ _ _);refine RM.yF (j:=8) rfl rfl (by omega) ?_) |((with_reducible show aL _ _ _ _ _ _ _ _ _);refine RM.yF (j:=16) rfl rfl (by omega) ?_) |((with_reducible show aL _ _ _ _ _ _ _ _ _);refine RM.yF (j:=32) rfl rfl (by omega) ?_) |((with_reducible show aL _ _ _ _ _ _ _ _ _);refine RM.FB rfl rfl (by omega) ?_) |((with_reducible show RM.wpOp _ _ (.convert _ _ _) _ _ _);refine Ry rfl (by omega) ?_) |((with_reducible show aL _ _ _ _ _ _ _ _ _);refine RM.Rx (n:=127) rfl rfl (by omega) (by decide) ?_) |refine u1 ?_ |refine u2 ?_ |fail)
 exact ⟨[_],⟨Fz.deep rfl,trivial⟩,rfl⟩
end Go.Proofs.YtpeogffeoehboaaDoor
