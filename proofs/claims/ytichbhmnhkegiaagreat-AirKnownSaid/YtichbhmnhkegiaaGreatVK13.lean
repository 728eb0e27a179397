/-
  Contracts of the program's functions and of the document's. Lemmas alone; their conditions stand in them.
-/
import Derived.Test.YtichbhmnhkegiaaGreatVA2
import Derived.Test.YtichbhmnhkegiaaGreatVA3
import Derived.Test.YtichbhmnhkegiaaGreatVK2
import Derived.Test.YtichbhmnhkegiaaGreatVK3
import Derived.Test.YtichbhmnhkegiaaGreatVK12
import Derived.Test.YtichbhmnhkegiaaGreatRows
open Go Go.RM Go.AirLaw
namespace Go.Proofs.YtichbhmnhkegiaaGreat
set_option maxRecDepth 100000
set_option maxHeartbeats 4000000
section
variable {a b : AV} {x y : Operand} {hp : List AB} {K : AV → List AB → Prop} {m n p q : Int}
theorem EV:∀ {x y:Operand} (a b c d:Int),eU TT.P .eql 26 x y (.agg #[vI a,vI b]) (.agg #[vI c,vI d])=some (.bool (decide (a=c) && decide (b=d)),.none)∧eU TT.P .neq 26 x y (.agg #[vI a,vI b]) (.agg #[vI c,vI d])=some (.bool (!(decide (a=c) && decide (b=d))),.none) :=
 fun a b c d=>Ag (by kernel_rfl) (by kernel_rfl) (by kernel_rfl) (by kernel_rfl) a b c d
theorem F9 (ha:a=.ag [ah m,ah n]) (hb:b=.ag [ah p,ah q]) (h:K (BB (decide (m=p) && decide (n=q))) hp):cI TT .eql 26 x y a b hp K:=by
 subst ha hb
 exact ⟨_,_,rfl,rfl,.bool (decide (m=p) && decide (n=q)),(EV m n p q).1,rfl,h⟩
end
theorem C3 (a b:Value):dP (.tp [.fl a,.fl b]):=dP.tp fun x hx=>by
 rcases List.mem_cons.1 hx with rfl|hx
 ·exact dP.fl _
 ·rw [List.mem_singleton.1 hx];exact dP.fl _
theorem FB (a b c:Value):dP (.tp [.fl a,.fl b,.fl c]):=dP.tp fun x hx=>by
 rcases List.mem_cons.1 hx with rfl|hx
 ·exact dP.fl _
 ·rcases List.mem_cons.1 hx with rfl|hx
  ·exact dP.fl _
  ·rw [List.mem_singleton.1 hx];exact dP.fl _
theorem F2:Pu false 23 [] (BB true):=by
 have hst:=tD false
 have hni:=yF false
 have hp1:=yE false 0 10000
 have hp2:=yE false (-1200) 0
 have hs1:=wo false ⟨0,10000⟩ 200 100
 rw [DV] at hs1
 have hs2:=wo false ⟨0,10000⟩ 199 100
 rw [DW] at hs2
 have hh:=wq false ⟨-1200,0⟩ 20 8
 rw [DX] at hh
 have hA:=C1 true
 have hB:=ES true
 have hH:=ET true
 have hp3:=yE true 0 12000
 have hR:=oZ true 0 10000 false false
 have c5:=An true S0 nc N0 [rA,rB] true (by decide)
 rw [DQ] at c5
 have c6:=DJ true S0 nc N0 [rH] true (by decide)
 rw [DS] at c6
 have c7:=Au true S0 nc N0 [rA] true (by decide) ⟨0,12000⟩ false
 rw [DT] at c7
 have c8:=Ft false S0 nc N0 [] false (by decide)
 rw [Fy] at c8
 have c9:=Ay false S0 nc N0 [] false (by decide) 7000
 rw [DU] at c9
 have c10:=DO S0 nc N0 [rB,rN] true C2 (400,50) (20,8) FA
 rw [DY] at c10
 have c11:=Fj false S0 nc 1 90
 rw [Fx] at c11
 have c12:=Ay false S0 nc N0 [] false (by decide) 10001
 rw [EU] at c12
 have i1:=CZ true [8] [8] false true (by decide) (by decide)
 have i2:=CZ true [1] [1] false true (by decide) (by decide)
 rw [decide_eq_true rfl] at i1 i2
 have s1:=k6 true 400 420
 have s2:=k6 true 50 65
 have s3:=k6 true 25 30
 refine af.body (fn:=Tryz.f23) rfl rfl rfl rfl ?_
 refine RM.dA (mu:=fun _=>false) ?_
 repeat' (first |refine u1 ?_ |fail)
 refine RM.dA (mu:=fun _=>false) ?_
 repeat' (first |refine u1 ?_ |fail)
 refine RM.dA (mu:=fun _=>false) ?_
 repeat' (first |refine u1 ?_ |fail)
 refine RM.dA (mu:=fun _=>false) ?_
 repeat' (first |refine u1 ?_ |fail)
 refine RM.dA (mu:=fun _=>false) ?_
 repeat' (first |refine u1 ?_ |fail)
 refine RM.dA (mu:=fun _=>false) ?_
 repeat' (first |refine u1 ?_ |refine u2 ?_ |fail)
 refine RM.dA (mu:=fun _=>false) ?_
 repeat' (first |refine u1 ?_ |refine u2 ?_ |fail)
 refine RM.dA (mu:=fun _=>false) ?_
 repeat' (first |refine u1 ?_ |refine u2 ?_ |fail)
 refine RM.dA (mu:=fun _=>false) ?_
 repeat' (first |((with_reducible show aK _ _ _ _ _ _ _ _);refine af.Dr c8 rfl (pX.three (Fz.deep rfl) (Fz.deep rfl) Fz.nil) (FB _ _ _) ?_) |refine u1 ?_ |fail)
 refine RM.dA (mu:=fun _=>false) ?_
 repeat' (first |((with_reducible show aK _ _ _ _ _ _ _ _);refine af.Dr c9 rfl (pX.cons (Fz.deep rfl) (pX.three (Fz.deep rfl) Fz.nil (Fz.deep rfl))) (C3 _ _) ?_) |refine u1 ?_ |fail)
 refine av.seq ?_
 refine av.FF 5 (l1:=[_,_,_,_,_]) (mu:=fun _=>false) (by kernel_rfl) rfl ?_
 repeat' (first |refine RM.FT (l2:=[_,_,_,_,_]) (k:=6) rfl rfl rfl rfl c10 rfl rfl rfl (.inl (And.intro rfl rfl)) (by kernel_rfl) ?_ |refine u1 ?_ |fail)
 refine RM.dA (mu:=fun _=>false) ?_
 repeat' (first |refine u1 ?_ |fail)
 refine RM.dA (mu:=fun _=>false) ?_
 repeat' (first |((with_reducible show aK _ _ _ _ _ _ _ _);refine af.Dr c12 rfl (pX.cons (Fz.deep rfl) (pX.three (Fz.deep rfl) Fz.nil (Fz.deep rfl))) (C3 _ _) ?_) |refine u1 ?_ |fail)
 refine av.aY (ai.to (l:=[(3,BB true),(4,ah 0),(5,BB false),(6,ah 0),(7,BB true),(8,ah 0),(9,.ptr 2 0 0),(10,.ptr 3 0 0),(11,ah 0),(12,.ptr 4 0 0),(13,.sl ([8].map eI) false),(14,ah 0),(15,ah 1),(16,ah 0),(17,ah 10000),(18,ah 14491),(19,ah 0),(20,ah 1),(21,ah 0),(22,.sl ([1].map eI) false),(23,ah 0),(24,ah 60),(25,ah 0),(26,ah 0),(27,ah 9)]) (hp:=[.cells (bz S0) 0 0,.cells (gu N0) 0 0,.cells (bw ⟨400,420⟩) 0 0,.cells (bw ⟨50,65⟩) 0 0,.cells (bw ⟨25,30⟩) 0 0]) 5 rfl ⟨rfl,rfl,rfl,rfl,rfl,rfl,rfl,rfl,rfl,rfl,rfl,rfl,rfl,rfl,rfl,rfl,rfl,rfl,rfl,rfl,rfl,rfl,rfl,rfl,rfl,trivial⟩ (Nat.le_of_ble_eq_true rfl) rfl rfl) ?_
 have d0:decide ((0:Int)=0)=true:=rfl
 have d9:decide ((9:Int)=9)=true:=rfl
 have d1:decide ((1:Int)=1)=true:=rfl
 have d2:decide ((10000:Int)=10000)=true:=rfl
 have d3:decide ((14491:Int)=14491)=true:=rfl
 have d4:decide ((60:Int)=60)=true:=rfl
 have d5:(decide ((400:Int)=400) && decide ((420:Int)=420))=true:=rfl
 have d6:(decide ((50:Int)=50) && decide ((65:Int)=65))=true:=rfl
 have d7:(decide ((25:Int)=25) && decide ((30:Int)=30))=true:=rfl
 have d8:(!false)=true:=rfl
 dsimp only [List.append,List.cons_append,List.nil_append]
 refine RM.dA (mu:=fun _=>false) ?_
 repeat' (first |((with_reducible show cI _ _ _ _ _ _ _ _ _);refine F9 rfl rfl ?_) |refine u1 ?_ |refine u2 ?_ |fail)
 refine aa (mu:=fun _=>false) ?_
 repeat' (first |refine u1 ?_ |fail)
 exact ⟨[_],⟨Fz.deep rfl,trivial⟩,rfl⟩
end Go.Proofs.YtichbhmnhkegiaaGreat
open Go Go.RM
namespace Go.Proofs.YtichbhmnhkegiaaGreat
open Go.ChangeShapes Go.WideShapes Go.ChangeAt Go.RowKit
theorem D3:ownKnob Tryz.prog.godebug=none:=by kernel_rfl
theorem C8:laidOutB Tryz.prog=true:=by kernel_rfl
theorem FC:∀ e ∈ TB,sD TT e:=fun e he=>by cases he
end Go.Proofs.YtichbhmnhkegiaaGreat
