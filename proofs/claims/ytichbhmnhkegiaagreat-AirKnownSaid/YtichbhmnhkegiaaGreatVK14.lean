/-
  Contracts of the program's functions and of the document's. Lemmas alone; their conditions stand in them.
-/
import Derived.Test.YtichbhmnhkegiaaGreatVA2
import Derived.Test.YtichbhmnhkegiaaGreatVA3
import Derived.Test.YtichbhmnhkegiaaGreatVK2
import Derived.Test.YtichbhmnhkegiaaGreatVK3
import Derived.Test.YtichbhmnhkegiaaGreatVK12
import Derived.Test.YtichbhmnhkegiaaGreatVK13
open Go Go.RM Go.AirLaw
namespace Go.Proofs.YtichbhmnhkegiaaGreat
set_option maxRecDepth 100000
set_option maxHeartbeats 4000000
theorem DZ:td ⟨0,10000⟩ 100 101=(true,0):=by kernel_rfl
theorem D0:td ⟨0,10000⟩ 99 101=(false,0):=by kernel_rfl
theorem C4:qh ⟨2000,0⟩ 20 8=(true,0):=by kernel_rfl
theorem C5:qh ⟨-1201,0⟩ 20 8=(false,0):=by kernel_rfl
theorem D1:qi S0 N0 [rA]=(⟨400,420⟩,⟨50,120⟩,0):=by kernel_rfl
theorem D2:tv S0 N0 [] ⟨0,20000⟩ false=(0,0):=by kernel_rfl
theorem PureV_nil {one:Bool} {F v:AV} {a c:List AV} {b:Bool} (h:af TT TB one F (a++.sl [] b :: c) v):af TT TB one F (a++.fl (.slice none 0 0) :: c) v:=by
 refine ⟨h.1,fun X H u us hw hx hF hA=>h.2 X H u us hw hx hF ⟨?_,fun i x w hi hu=>?_⟩⟩
 ·have:=hA.1
  simp only [List.length_append,List.length_cons] at this ⊢
  exact this
 ·by_cases hlt:i < a.length
  ·rw [List.getElem?_append_left hlt] at hi
   exact hA.2 i x w (by rw [List.getElem?_append_left hlt];exact hi) hu
  ·have ha:=fun y=>hA.2 i y w
   rw [List.getElem?_append_right (by omega)] at hi ha
   cases hj:i - a.length with
   | zero =>
    rw [hj] at hi ha
    obtain rfl:=Option.some.inj hi
    have:=ha _ rfl hu
    cases this
    exact .nil
   | succ j =>
    rw [hj] at hi ha
    exact ha x hi hu
theorem C6:Pu false 7 [] (BB true):=by
 have hst:=tD false
 have hni:=yF false
 have hp1:=yE false 0 10000
 have hp2:=yE false 2000 0
 have hp3:=yE false (-1201) 0
 have hs1:=wo false ⟨0,10000⟩ 100 101
 rw [DZ] at hs1
 have hs2:=wo false ⟨0,10000⟩ 99 101
 rw [D0] at hs2
 have hh1:=wq false ⟨2000,0⟩ 20 8
 rw [C4] at hh1
 have hh2:=wq false ⟨-1201,0⟩ 20 8
 rw [C5] at hh2
 have hA:=C1 true
 have c5:=An true S0 nc N0 [rA] true (by decide)
 rw [D1] at c5
 have hp4:=yE true 0 20000
 have c7:=Au true S0 nc N0 [] false (by decide) ⟨0,20000⟩ false
 rw [D2] at c7
 have c7:Pu true 33 [.ag (bz S0),.ag (gu N0),.fl (.slice none 0 0),.ag (FG ⟨0,20000⟩),BB false] (.tp [ah 0,ah 0]):=PureV_nil (a:=[.ag (bz S0),.ag (gu N0)]) c7
 have s1:=k6 true 400 420
 have s2:=k6 true 50 120
 have aw:=F2
 have d0:decide ((0:Int)=0)=true:=rfl
 have d5:(decide ((400:Int)=400) && decide ((420:Int)=420))=true:=rfl
 have d6:(decide ((50:Int)=50) && decide ((120:Int)=120))=true:=rfl
 have d8:(!false)=true:=rfl
 refine af.body (fn:=Tryz.f7) rfl rfl rfl rfl ?_
 refine RM.dA (mu:=fun _=>false) ?_
 repeat' (first |refine u1 ?_ |refine u2 ?_ |fail)
 refine RM.dA (mu:=fun _=>false) ?_
 repeat' (first |refine u1 ?_ |refine u2 ?_ |fail)
 refine RM.dA (mu:=fun _=>false) ?_
 repeat' (first |refine u1 ?_ |refine u2 ?_ |fail)
 refine RM.dA (mu:=fun _=>false) ?_
 repeat' (first |refine u1 ?_ |refine u2 ?_ |fail)
 refine RM.dA (mu:=fun _=>false) ?_
 repeat' (first |refine u1 ?_ |refine u2 ?_ |fail)
 refine RM.dA (mu:=fun _=>false) ?_
 repeat' (first |refine u1 ?_ |refine u2 ?_ |fail)
 refine RM.dA (mu:=fun _=>false) ?_
 repeat' (first |refine u1 ?_ |refine u2 ?_ |fail)
 refine RM.dA (mu:=fun _=>false) ?_
 repeat' (first |refine u1 ?_ |refine u2 ?_ |fail)
 refine av.aY (ai.to (l:=[(3,BB true),(4,ah 0),(5,BB false),(6,ah 0),(7,BB true),(8,ah 0),(9,BB false),(10,ah 0),(11,.ptr 2 0 0),(12,.ptr 3 0 0),(13,ah 0),(14,ah 0),(15,ah 0)]) (hp:=[.cells (bz S0) 0 0,.cells (gu N0) 0 0,.cells (bw ⟨400,420⟩) 0 0,.cells (bw ⟨50,120⟩) 0 0]) 4 rfl ⟨rfl,rfl,rfl,rfl,rfl,rfl,rfl,rfl,rfl,rfl,rfl,rfl,rfl,trivial⟩ (Nat.le_of_ble_eq_true rfl) rfl rfl) ?_
 dsimp only [List.append,List.cons_append,List.nil_append]
 refine av.seq ?_
 refine av.FF 51 (l1:=[_,_,_,_,_,_,_,_,_,_,_,_,_,_,_,_,_,_,_,_,_,_,_,_,_,_,_,_,_,_,_,_,_,_,_,_,_,_,_,_,_,_,_,_,_,_,_,_,_,_,_]) (mu:=fun _=>false) (by kernel_rfl) rfl ?_
 repeat' (first |((with_reducible show cI _ _ _ _ _ _ _ _ _);refine F9 rfl rfl ?_) |(refine RM.GB (l2:=[_,_]) (k:=52) rfl rfl rfl rfl (fun X h=>lP rfl rfl rfl h) aw rfl rfl rfl (.inl (And.intro rfl rfl)) (by kernel_rfl) ?_) |refine u1 ?_ |refine u2 ?_ |fail)
 refine aa (mu:=fun _=>false) ?_
 repeat' (first |refine u1 ?_ |refine u2 ?_ |fail)
 exact ⟨[_],⟨Fz.deep rfl,trivial⟩,rfl⟩
end Go.Proofs.YtichbhmnhkegiaaGreat
