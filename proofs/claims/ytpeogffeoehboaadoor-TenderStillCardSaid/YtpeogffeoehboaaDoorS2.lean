/-
  Contracts of the program's functions and of the document's. Lemmas alone; their conditions stand in them.
-/
import Derived.Test.YtpeogffeoehboaaDoorS1
import Derived.Test.YtpeogffeoehboaaDoorK8
import Derived.Test.YtpeogffeoehboaaDoorK4
open Go Go.RM
namespace Go.Proofs.YtpeogffeoehboaaDoor
set_option maxRecDepth 100000
set_option maxHeartbeats 4000000
theorem holdsV_mono {s:ay} (hg:Good s) {p:List Order} {known f n m:Nat} (h:n≤m) (hm:holdsV s p known f (m:Int)=true):holdsV s p known f (n:Int)=true:=by
 unfold holdsV at *
 rw [List.all_eq_true] at *
 intro y hy
 refine hm y ?_
 rw [furL_eq hg] at *
 obtain ⟨b,hb,rfl⟩:=List.mem_map.1 hy
 exact List.mem_map.2 ⟨b,TeLaw.fills_more h hb,rfl⟩
def stillV (s:ay) (p:List Order) (known f m:Nat):Int:=match (List.range (m+1)).find? (fun n=>!holdsV s p known f ((n:Nat):Int)) with
 | some k=>(k:Int) - 1
 | none=>(m:Int)
theorem stillV_iff {s:ay} (hg:Good s) {p:List Order} {known f m:Nat}:(-1≤stillV s p known f m∧stillV s p known f m≤m)∧∀ n:Nat,n≤m→holdsV s p known f (n:Int)=decide ((n:Int)≤stillV s p known f m):=by
 unfold stillV
 cases hf:(List.range (m+1)).find? (fun n=>!holdsV s p known f ((n:Nat):Int)) with
 | none =>
  rw [List.find?_eq_none] at hf
  refine ⟨⟨by dsimp only;omega,Int.le_refl _⟩,fun n hn=>?_⟩
  have:=hf n (by simp;omega)
  rw [decide_eq_true (by dsimp only;omega)]
  simpa using this
 | some k =>
  rw [List.find?_range_eq_some] at hf
  obtain ⟨h1,h2,h3⟩:=hf
  have h2:k < m+1:=by simpa using h2
  refine ⟨⟨by dsimp only;omega,by dsimp only;omega⟩,fun n hn=>?_⟩
  by_cases hlt:n < k
  ·have:=h3 n hlt
   rw [decide_eq_true (by dsimp only;omega)]
   simpa using this
  ·rw [decide_eq_false (by dsimp only;omega)]
   cases h:holdsV s p known f (n:Int) with
   | false=>rfl
   | true =>
    have:=holdsV_mono hg (Nat.le_of_not_lt hlt) h
    rw [this] at h1
    cases h1
abbrev eB (b:Bool):List AV:=[BB b]
def cbits (came:List Bool):Nat:=addB 0 0 (came.map not)
theorem cbits_lt (came:List Bool):cbits came < 2 ^ came.length:=by
 have:=addB_lt (came.map not) 0 0 (by decide)
 rw [List.length_map,Nat.zero_add] at this
 exact this
theorem cbits_take {came:List Bool} {k:Nat} (h:k < came.length):cbits (came.take (k+1))=if came[k]=true then cbits (came.take k) else cbits (came.take k) ||| 2 ^ k:=by
 unfold cbits
 rw [List.take_add_one,List.getElem?_eq_getElem h,List.map_append]
 show addB 0 0 ((came.take k).map not++[!came[k]])=_
 rw [addB_snoc,List.length_map,List.length_take,Nat.min_eq_left (by omega),Nat.zero_add]
 cases came[k] <;> rfl
abbrev stiF (s:ay) (p:List Order) (full:Bool) (came:List Bool) (cf:Bool) (f:Nat):AV:=.fn 63 [] [.pt (az s) 0,.pt [.sl (p.map av) full] 0,.pt [.sl (came.map eB) cf] 0,.pt [sP f] 0]
theorem still1_c (one:Bool) {s:ay} {p:List Order} (hp:mo s p) (full:Bool) (came:List Bool) (cf:Bool) (f n:Nat) (hc:came.length≤p.length) (hf:f < 2 ^ came.length) (hn:n≤1000):af TT TB one (stiF s p full came cf f) [aD (n:Nat)] (BB (holdsV s p came.length f (n:Int))):=by
 have o1:Pu one 64 [.ag (az s),.sl (p.map av) full,aD ((came.map eB).length:Int),sP f,aD (n:Nat)] (BB (holdsV s p came.length f (n:Int))):=by
  rw [show ((came.map eB).length:Int)=came.length by simp]
  exact holds_c one hp full came.length f n hc hf hn
 refine af.body (fn:=Tryd.f63) rfl rfl rfl rfl ?_
 refine ah (mu:=fun _=>false) ?_
 repeat' (first |refine u1 ?_ |((with_reducible show ak _ _ _ _ _ _ _ _);refine af.call o1 rfl rfl ?_) |refine u2 ?_ |fail)
 exact ⟨[_],⟨Fz.deep rfl,trivial⟩,rfl⟩
def stillR (s:ay) (p:List Order) (came:List Bool):Int × Int :=
 if (dD s p).2 ≠ 0 then (0,(dD s p).2) else if p.length < came.length then (0,3)
 else if stillV s p came.length (cbits came) (p.length - came.length) < 0 then (0,9) else (stillV s p came.length (cbits came) (p.length - came.length),0)
theorem still_c (one:Bool) (s:ay) (hs:s.Ok) (p:List Order) (full:Bool) (hp:B1 p) (came:List Bool) (cf:Bool) (hcl:came.length≤maxLen) :
  Pu one 30 [.ag (az s),.sl (p.map av) full,.sl (came.map eB) cf] (.tp [aD (stillR s p came).1,aD (stillR s p came).2]):=by
 have o1:=EV one s hs p full hp
 have mc:came.length≤9223372036854775807:=Nat.le_trans hcl (by simp [maxLen])
 have mp:p.length≤9223372036854775807:=Nat.le_trans hp.len (by simp [maxLen])
 have ep:((p.map av).length:Int)=p.length:=by simp
 have ec:((came.map eB).length:Int)=came.length:=by simp
 unfold stillR
 by_cases c1:(dD s p).2=0
 ·have hpg:=yC c1
  have hg:=hpg.good
  have p8:=hpg.len
  rw [if_neg (by omega)]
  rw [c1] at o1
  generalize (dD s p).1=a at *
  have z1:(!decide ((0:Int)=0))=false:=by decide
  by_cases c2:p.length < came.length
  ·rw [if_pos c2]
   have d2:decide (((p.map av).length:Int) < ((came.map eB).length:Int))=true:=decide_eq_true (by omega)
   refine af.body (fn:=Tryd.f30) rfl rfl rfl rfl ?_
   refine ah (mu:=fun _=>false) ?_
   repeat' (first |refine u1 ?_ |((with_reducible show ak _ _ _ _ _ _ _ _);refine af.call o1 rfl rfl ?_) |refine u2 ?_ |fail)
   exact ⟨[_,_],⟨Fz.deep rfl,Fz.deep rfl,trivial⟩,rfl⟩
  ·rw [if_neg c2]
   have d2:decide (((p.map av).length:Int) < ((came.map eB).length:Int))=false:=decide_eq_false (by omega)
   obtain ⟨n,hn⟩:∃ n:Int,n=came.length:=⟨_,rfl⟩
   obtain ⟨hst,hsi⟩:=stillV_iff hg (p:=p) (known:=came.length) (f:=cbits came) (m:=p.length - came.length)
   have hlt:=cbits_lt came
   have og:Pu one 62 [aD (((p.map av).length:Int) - ((came.map eB).length:Int)),stiF s p full came cf (cbits came)] (aD (stillV s p came.length (cbits came) (p.length - came.length))):=by
    rw [show (((p.map av).length:Int) - ((came.map eB).length:Int))=((p.length - came.length:Nat):Int) by omega]
    refine greatest_c one 63 [] _ rfl (p.length - came.length) (by omega) _ hst fun k hk=>?_
    rw [←hsi k hk]
    exact still1_c one hpg full came cf (cbits came) k (by omega) hlt (by omega)
   generalize stillV s p came.length (cbits came) (p.length - came.length)=r at *
   refine af.body (fn:=Tryd.f30) rfl rfl rfl rfl ?_
   refine RM.qk (mu:=fun _=>false) ?_
   repeat' (first |refine u1 ?_ |refine u2 ?_ |fail)
   refine RM.qk (mu:=fun _=>false) ?_
   repeat' (first |refine u1 ?_ |((with_reducible show ak _ _ _ _ _ _ _ _);refine af.call o1 rfl rfl ?_) |refine u2 ?_ |fail)
   refine RM.qk (mu:=fun _=>false) ?_
   repeat' (first |refine u1 ?_ |refine u2 ?_ |fail)
   refine RM.qk (mu:=fun _=>false) ?_
   repeat' (first |refine u1 ?_ |refine u2 ?_ |fail)
   refine RM.cutAt (st':=⟨bZ [(3,.pt (az s) 0),(4,.pt [.sl (p.map av) full] 0),(5,.pt [.sl (came.map eB) cf] 0),(10,.pt [sP (cbits came)] 0)],[.gone],cF.none,false,0⟩) ?_ ?_
   ·refine RM.qk (mu:=fun _=>false) ?_
    repeat' (first |refine u1 ?_ |refine u2 ?_ |fail)
    refine aF.block ?_
    refine aF.bf (ax.to (l:=[(3,.pt (az s) 0),(4,.pt [.sl (p.map av) full] 0),(5,.pt [.sl (came.map eB) cf] 0),(10,.ptr 0 0 0),(30,.sl (came.map eB) cf),(31,aD n),(32,aD (0:Nat))]) (hp:=[.cells [sP (cbits (came.take 0))] 0 0]) 1 rfl ⟨rfl,rfl,rfl,rfl,rfl,bg (by rw [hn];exact ec),rfl,trivial⟩ (Nat.zero_le _) rfl rfl) ?_
    refine aF.loop (fun k:Nat=>k≤came.length) (fun k=>⟨bZ [(3,.pt (az s) 0),(4,.pt [.sl (p.map av) full] 0),(5,.pt [.sl (came.map eB) cf] 0),(10,.ptr 0 0 0),(30,.sl (came.map eB) cf),(31,aD n),(32,aD (k:Nat))],[.cells [sP (cbits (came.take k))] 0 0],cF.none,false,0⟩) (fun k=>came.length - k) ?_ 0 (Nat.zero_le _)
    intro k hk
    refine ah (mu:=fun _=>false) ?_
    by_cases hkl:k < came.length
    ·have d3:decide ((k:Int) < n)=true:=decide_eq_true (by omega)
     have hat:(came.map eB)[((k:Nat):Int).toNat]?=some (eB came[k]):=bq hkl
     have ht:=cbits_take hkl
     have hb:=cbits_lt (came.take k)
     have k8:k < 8:=by omega
     have h2k:2 ^ k < 18446744073709551616:=Nat.lt_of_lt_of_le (Nat.pow_lt_pow_right (by decide) k8) (by decide)
     have hff:cbits (came.take k) < 18446744073709551616:=by
      rw [List.length_take,Nat.min_eq_left (by omega)] at hb
      omega
     cases hck:came[k] with
     | true =>
      rw [hck] at hat ht
      rw [if_pos rfl] at ht
      repeat' (first |refine u1 ?_ |((with_reducible show RM.wpOp _ _ (.indexAddr _ _ _) _ _ _);refine ⟨eB true,⟨by omega,hat⟩,rfl,?_⟩) |refine u2 ?_ |fail)
      exact ⟨k+1,hkl,(by dsimp only;omega),ax.to 1 (by dsimp only;rw [ht];rfl) ⟨rfl,rfl,rfl,rfl,rfl,rfl,bg (by simp),trivial⟩ (Nat.zero_le _) rfl rfl⟩
     | false =>
      rw [hck] at hat ht
      rw [if_neg (by simp)] at ht
      repeat' (first |((with_reducible show cM _ _ _ _ _ _ _ _ _);refine RM.Kv rfl rfl k8 ?_) |((with_reducible show cM _ _ _ _ _ _ _ _ _);refine RM.KX rfl rfl hff h2k ?_) |refine u1 ?_ |((with_reducible show RM.wpOp _ _ (.indexAddr _ _ _) _ _ _);refine ⟨eB false,⟨by omega,hat⟩,rfl,?_⟩) |refine u2 ?_ |fail)
      exact ⟨k+1,hkl,(by dsimp only;omega),ax.to 1 (by dsimp only;rw [ht];rfl) ⟨rfl,rfl,rfl,rfl,rfl,rfl,bg (by simp),trivial⟩ (Nat.zero_le _) rfl rfl⟩
    ·have d3:decide ((k:Int) < n)=false:=decide_eq_false (by omega)
     have e:came.take k=came:=List.take_of_length_le (by omega)
     rw [e]
     repeat' (first |refine u1 ?_ |refine u2 ?_ |fail)
     exact .is (ax.giveUp 0 rfl (Nat.zero_le _) rfl ⟨.same rfl,.same rfl,.same rfl,.ptr,trivial⟩ rfl rfl)
   ·by_cases c3:r < 0
    ·have d3:=decide_eq_true c3
     rw [if_pos c3]
     refine ah (mu:=fun _=>false) ?_
     repeat' (first |refine u1 ?_ |((with_reducible show ak _ _ _ _ _ _ _ _);refine af.call og rfl rfl ?_) |refine u2 ?_ |fail)
     exact ⟨[_,_],⟨Fz.deep rfl,Fz.deep rfl,trivial⟩,rfl⟩
    ·have d3:=decide_eq_false c3
     rw [if_neg c3]
     refine ah (mu:=fun _=>false) ?_
     repeat' (first |refine u1 ?_ |((with_reducible show ak _ _ _ _ _ _ _ _);refine af.call og rfl rfl ?_) |refine u2 ?_ |fail)
     exact ⟨[_,_],⟨Fz.deep rfl,Fz.deep rfl,trivial⟩,rfl⟩
 ·rw [if_pos c1]
  generalize (dD s p).1=a at *
  generalize (dD s p).2=b at *
  have d1:(!decide (b=0))=true:=by rw [decide_eq_false c1];rfl
  refine af.body (fn:=Tryd.f30) rfl rfl rfl rfl ?_
  refine ah (mu:=fun _=>false) ?_
  repeat' (first |refine u1 ?_ |((with_reducible show ak _ _ _ _ _ _ _ _);refine af.call o1 rfl rfl ?_) |refine u2 ?_ |fail)
  exact ⟨[_,_],⟨Fz.deep rfl,Fz.deep rfl,trivial⟩,rfl⟩
theorem bears_c (one:Bool) (s:ay) (hs:s.Ok) (p:List Order) (full:Bool) (hp:B1 p):Pu one 28 [.ag (az s),.sl (p.map av) full] (.tp [aD (stillR s p []).1,aD (stillR s p []).2]):=by
 have o1:Pu one 30 [.ag (az s),.sl (p.map av) full,.fl (.slice none 0 0)] (.tp [aD (stillR s p []).1,aD (stillR s p []).2]):=uR (a:=[.ag (az s),.sl (p.map av) full]) (b:=false) (still_c one s hs p full hp [] false (Nat.zero_le _))
 refine af.body (fn:=Tryd.f28) rfl rfl rfl rfl ?_
 refine ah (mu:=fun _=>false) ?_
 repeat' (first |refine u1 ?_ |((with_reducible show ak _ _ _ _ _ _ _ _);refine af.call o1 rfl rfl ?_) |refine u2 ?_ |fail)
 exact ⟨[_,_],⟨Fz.deep rfl,Fz.deep rfl,trivial⟩,rfl⟩
end Go.Proofs.YtpeogffeoehboaaDoor
open Go Go.RM
namespace Go.Proofs.YtpeogffeoehboaaDoor
set_option maxRecDepth 100000
theorem tvBools {l:List AV} (h:TV (.slice .bool) l):∃ c:List Bool,c.length≤maxLen∧l=[.sl (c.map eB) false]:=by
 obtain ⟨a,ha,ha',rfl⟩:=KW h
 obtain ⟨a,_,rfl⟩:=Ba (e:=eB) (P:=fun _=>True) fun el hel=>by obtain ⟨b,h⟩:=tvB (ha' el hel);exact ⟨b,trivial,h⟩
 exact ⟨a,by simpa using ha,rfl⟩
end Go.Proofs.YtpeogffeoehboaaDoor
open Go Go.RM
namespace Go.Proofs.YtpeogffeoehboaaDoor
set_option maxRecDepth 100000
theorem rowAt_succ (f k:Nat):rowAt f (k+1)=if f.testBit k=true then rowAt f k+1 else 0:=rfl
theorem rowAt_congr {f f':Nat}:∀ {k:Nat},(∀ i,i < k→f.testBit i=f'.testBit i)→rowAt f k=rowAt f' k
 | 0,_=>rfl
 | k+1,h=>by
  rw [rowAt_succ,rowAt_succ,h k (Nat.lt_succ_self _),rowAt_congr (k:=k) fun i hi=>h i (by omega)]
theorem bit_high {f k:Nat} (h:f < 2 ^ k):f.testBit k=false:=Nat.testBit_lt_two_pow h
theorem rowN_come {f k:Nat} (h:f < 2 ^ k):rowN f (k+1)=0:=by
 unfold rowN
 rw [rowAt_succ,bit_high h]
 rfl
theorem rowN_fail {f k:Nat} (_:f < 2 ^ k):rowN (f ||| 2 ^ k) (k+1)=rowN f k+1:=by
 have hb:(f ||| 2 ^ k).testBit k=true:=by rw [Nat.testBit_or,Nat.testBit_two_pow];simp
 have hc:rowAt (f ||| 2 ^ k) k=rowAt f k:=rowAt_congr fun i hi=>by
  rw [Nat.testBit_or,Nat.testBit_two_pow]
  simp [show ¬ k=i by omega]
 have:=rowAt_b f k
 unfold rowN
 rw [rowAt_succ,hb,if_pos rfl,hc]
 omega
theorem holds_come {s:ay} (hg:Good s) {p:List Order} {known f n:Nat} (hk:known < p.length) (hf:f < 2 ^ known) (h:holdsV s p known f (n:Int)=true):holdsV s p (known+1) f (n:Int)=true:=by
 unfold holdsV at *
 rw [List.all_eq_true] at *
 intro y hy
 refine h y ?_
 rw [furL_eq hg] at *
 obtain ⟨b,hb,rfl⟩:=List.mem_map.1 hy
 rw [rowN_come hf] at hb
 refine List.mem_map.2 ⟨false :: b,?_,rfl⟩
 obtain ⟨m,hm⟩:∃ m,p.length - known=m+1:=⟨p.length - known - 1,by omega⟩
 rw [show p.length - (known+1)=m by omega] at hb
 rw [hm]
 unfold TeLaw.fills
 exact List.mem_append.2 (.inl (List.mem_map.2 ⟨b,hb,rfl⟩))
theorem holds_fail {s:ay} (hg:Good s) {p:List Order} {known f n:Nat} (hk:known < p.length) (hf:f < 2 ^ known) (hr:rowAt f known < s.row) (h:holdsV s p known f ((n+1:Nat):Int)=true):holdsV s p (known+1) (f ||| 2 ^ known) (n:Int)=true:=by
 unfold holdsV at *
 rw [List.all_eq_true] at *
 intro y hy
 refine h y ?_
 rw [furL_eq hg] at *
 obtain ⟨b,hb,rfl⟩:=List.mem_map.1 hy
 rw [rowN_fail hf] at hb
 refine List.mem_map.2 ⟨true :: b,?_,rfl⟩
 obtain ⟨m,hm⟩:∃ m,p.length - known=m+1:=⟨p.length - known - 1,by omega⟩
 rw [show p.length - (known+1)=m by omega] at hb
 rw [hm]
 have hrb:=rowAt_b f known
 have hrw:=hg.row
 unfold TeLaw.fills
 refine List.mem_append.2 (.inr ?_)
 rw [if_neg (by unfold rowN;omega)]
 exact List.mem_map.2 ⟨b,hb,rfl⟩
theorem cbits_snoc (came:List Bool) (b:Bool):cbits (came++[b])=if b=true then cbits came else cbits came ||| 2 ^ came.length:=by
 unfold cbits
 rw [List.map_append,List.map_cons,List.map_nil,addB_snoc,List.length_map,Nat.zero_add]
 cases b <;> rfl
theorem stillR_ok {s:ay} {p:List Order} {came:List Bool} (h:(dD s p).2=0) (hl:came.length≤p.length) (hr:0≤stillV s p came.length (cbits came) (p.length - came.length)) :
  stillR s p came=(stillV s p came.length (cbits came) (p.length - came.length),0):=by
 unfold stillR
 rw [if_neg (by omega),if_neg (by omega),if_neg (by omega)]
theorem good_still {s:ay} {p:List Order} {came:List Bool} (h:(dD s p).2=0) (hl:came.length < p.length) (hr:0≤stillV s p came.length (cbits came) (p.length - came.length)) :
  ∃ r1:Int,stillR s p (came++[true])=(r1,0)∧min (stillV s p came.length (cbits came) (p.length - came.length)) ((p.length:Int) - came.length - 1)≤r1:=by
 have hg:=(yC h).good
 obtain ⟨hb,hi⟩:=stillV_iff hg (p:=p) (known:=came.length) (f:=cbits came) (m:=p.length - came.length)
 obtain ⟨hb2,hi2⟩:=stillV_iff hg (p:=p) (known:=came.length+1) (f:=cbits came) (m:=p.length - (came.length+1))
 generalize stillV s p came.length (cbits came) (p.length - came.length)=r at *
 obtain ⟨q,hq⟩:∃ q:Nat,(q:Int)=min r ((p.length:Int) - came.length - 1):=⟨(min r ((p.length:Int) - came.length - 1)).toNat,by omega⟩
 have h1:holdsV s p came.length (cbits came) (q:Int)=true:=by rw [hi q (by omega)];exact decide_eq_true (by omega)
 have h2:=holds_come hg hl (cbits_lt came) h1
 rw [hi2 q (by omega)] at h2
 have h3:=of_decide_eq_true h2
 have hl1:(came++[true]).length=came.length+1:=by simp
 have hc1:cbits (came++[true])=cbits came:=by rw [cbits_snoc];rfl
 refine ⟨stillV s p (came.length+1) (cbits came) (p.length - (came.length+1)),?_,by omega⟩
 have:=stillR_ok (came:=came++[true]) h (by omega) (by rw [hl1,hc1];omega)
 rw [hl1,hc1] at this
 exact this
theorem bad_still {s:ay} {p:List Order} {came:List Bool} (h:(dD s p).2=0) (hl:came.length < p.length) (hr:1≤stillV s p came.length (cbits came) (p.length - came.length)) (hrow:rowAt (cbits came) came.length < s.row) :
  ∃ r1:Int,stillR s p (came++[false])=(r1,0)∧min (stillV s p came.length (cbits came) (p.length - came.length) - 1) ((p.length:Int) - came.length - 1)≤r1:=by
 have hg:=(yC h).good
 have hlt:=cbits_lt came
 obtain ⟨hb,hi⟩:=stillV_iff hg (p:=p) (known:=came.length) (f:=cbits came) (m:=p.length - came.length)
 obtain ⟨hb2,hi2⟩:=stillV_iff hg (p:=p) (known:=came.length+1) (f:=cbits came ||| 2 ^ came.length) (m:=p.length - (came.length+1))
 generalize stillV s p came.length (cbits came) (p.length - came.length)=r at *
 obtain ⟨q,hq⟩:∃ q:Nat,(q:Int)=min (r - 1) ((p.length:Int) - came.length - 1):=⟨(min (r - 1) ((p.length:Int) - came.length - 1)).toNat,by omega⟩
 have h1:holdsV s p came.length (cbits came) ((q+1:Nat):Int)=true:=by rw [hi (q+1) (by omega)];exact decide_eq_true (by omega)
 have h2:=holds_fail hg hl hlt hrow h1
 rw [hi2 q (by omega)] at h2
 have h3:=of_decide_eq_true h2
 have hl1:(came++[false]).length=came.length+1:=by simp
 have hc1:cbits (came++[false])=cbits came ||| 2 ^ came.length:=by rw [cbits_snoc];rfl
 refine ⟨stillV s p (came.length+1) (cbits came ||| 2 ^ came.length) (p.length - (came.length+1)),?_,by omega⟩
 have:=stillR_ok (came:=came++[false]) h (by omega) (by rw [hl1,hc1];omega)
 rw [hl1,hc1] at this
 exact this
theorem cbits_bit {came:List Bool} {k:Nat} (h:k < came.length):(cbits came).testBit k=!came[k]:=by
 unfold cbits
 rw [addB_bit _ 0 0 (by decide),Nat.zero_testBit,Nat.sub_zero,List.getD_eq_getElem?_getD,List.getElem?_map,List.getElem?_eq_getElem h]
 simp
end Go.Proofs.YtpeogffeoehboaaDoor
