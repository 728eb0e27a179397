/-
  Contracts of the program's functions and of the document's. Lemmas alone; their conditions stand in them.
-/
import Derived.Test.YtalcbebjpgfnfaaGreatA2
import Derived.Test.YtalcbebjpgfnfaaGreatA3
import Derived.Test.YtalcbebjpgfnfaaGreatX1
import Derived.Test.YtalcbebjpgfnfaaGreatK2
import Derived.Test.YtalcbebjpgfnfaaGreatK3
import Derived.Test.YtalcbebjpgfnfaaGreatK4
import Derived.Test.YtalcbebjpgfnfaaGreatK5
import Derived.Test.YtalcbebjpgfnfaaGreatK8
import Derived.Test.YtalcbebjpgfnfaaGreatK20
import Derived.Test.YtalcbebjpgfnfaaGreatK22
import Derived.Test.YtalcbebjpgfnfaaGreatK23
import Derived.Test.YtalcbebjpgfnfaaGreatRows
open Go Go.RM Go.AirLaw
namespace Go.Proofs.YtalcbebjpgfnfaaGreat
set_option maxRecDepth 100000
set_option maxHeartbeats 4000000
section
variable {a b : AV} {x y : Operand} {hp : List AB} {K : AV → List AB → Prop} {m n p q : Int}
theorem Mt:∀ {x y:Operand} (a b c d:Int),hU TT.P .eql 24 x y (.agg #[vI a,vI b]) (.agg #[vI c,vI d])=some (.bool (decide (a=c) && decide (b=d)),.none)∧hU TT.P .neq 24 x y (.agg #[vI a,vI b]) (.agg #[vI c,vI d])=some (.bool (!(decide (a=c) && decide (b=d))),.none) :=
 fun a b c d=>EU (by kernel_rfl) (by kernel_rfl) (by kernel_rfl) (by kernel_rfl) a b c d
theorem OU (ha:a=.ag [ah m,ah n]) (hb:b=.ag [ah p,ah q]) (h:K (BB (decide (m=p) && decide (n=q))) hp):ee TT .eql 24 x y a b hp K:=by
 subst ha hb
 exact ⟨_,_,rfl,rfl,.bool (decide (m=p) && decide (n=q)),(Mt m n p q).1,rfl,h⟩
end
theorem Lu (a b:Value):ej (.tp [.fl a,.fl b]):=ej.tp fun x hx=>by
 rcases List.mem_cons.1 hx with rfl|hx
 ·exact ej.fl _
 ·rw [List.mem_singleton.1 hx];exact ej.fl _
theorem Ng (a b c:Value):ej (.tp [.fl a,.fl b,.fl c]):=ej.tp fun x hx=>by
 rcases List.mem_cons.1 hx with rfl|hx
 ·exact ej.fl _
 ·rcases List.mem_cons.1 hx with rfl|hx
  ·exact ej.fl _
  ·rw [List.mem_singleton.1 hx];exact ej.fl _
theorem Kj:Pu false 6 [] (BB true):=by
 have hst:=Ej false
 have hni:=Jv false
 have hp1:=KP false 0 10000
 have hp2:=KP false (-1200) 0
 have hs1:=Ie false ⟨0,10000⟩ 200 100
 rw [KV] at hs1
 have hs2:=Ie false ⟨0,10000⟩ 199 100
 rw [KW] at hs2
 have hh:=JZ false ⟨-1200,0⟩ 20 8
 rw [KX] at hh
 have hA:=Mp true
 have hB:=Mq true
 have hH:=Mr true
 have hp3:=KP true 0 12000
 have hR:=tA true 0 10000 false false
 have c5:=KC true S0 vb N0 [rA,rB] true (by decide)
 rw [KQ] at c5
 have c6:=KH true S0 vb N0 [rH] true (by decide)
 rw [KR] at c6
 have c7:=KK true S0 vb N0 [rA] true (by decide) ⟨0,12000⟩ false
 rw [KT] at c7
 have c8:=M8 false S0 vb N0 [] false (by decide)
 rw [Nd] at c8
 have c9:=Fx false S0 vb N0 [] false (by decide) 7000
 rw [KU] at c9
 have c10:=KN S0 vb N0 [rB,rN] true Jw (400,50) (20,8) Nf
 rw [KY] at c10
 have c11:=K8 false S0 vb 1 90
 rw [Nc] at c11
 have c12:=Fx false S0 vb N0 [] false (by decide) 10001
 rw [Ms] at c12
 have i1:=Ju true [8] [8] false true (by decide) (by decide)
 have i2:=Ju true [1] [1] false true (by decide) (by decide)
 rw [decide_eq_true rfl] at i1 i2
 have s1:=rI true 400 420
 have s2:=rI true 50 65
 have s3:=rI true 25 30
 refine af.body (fn:=Tryz.f6) rfl rfl rfl rfl ?_
 refine RM.de (mu:=fun _=>false) ?_
 repeat' (first |refine u1 ?_ |fail)
 refine RM.de (mu:=fun _=>false) ?_
 repeat' (first |refine u1 ?_ |fail)
 refine RM.de (mu:=fun _=>false) ?_
 repeat' (first |refine u1 ?_ |fail)
 refine RM.de (mu:=fun _=>false) ?_
 repeat' (first |refine u1 ?_ |fail)
 refine RM.de (mu:=fun _=>false) ?_
 repeat' (first |refine u1 ?_ |fail)
 refine RM.de (mu:=fun _=>false) ?_
 repeat' (first |refine u1 ?_ |refine u2 ?_ |fail)
 refine RM.de (mu:=fun _=>false) ?_
 repeat' (first |refine u1 ?_ |refine u2 ?_ |fail)
 refine RM.de (mu:=fun _=>false) ?_
 repeat' (first |refine u1 ?_ |refine u2 ?_ |fail)
 refine RM.de (mu:=fun _=>false) ?_
 repeat' (first |((with_reducible show bl _ _ _ _ _ _ _ _);refine af.F3 c8 rfl (rM.three (Fz.deep rfl) (Fz.deep rfl) Fz.nil) (Ng _ _ _) ?_) |refine u1 ?_ |fail)
 refine RM.de (mu:=fun _=>false) ?_
 repeat' (first |((with_reducible show bl _ _ _ _ _ _ _ _);refine af.F3 c9 rfl (rM.cons (Fz.deep rfl) (rM.three (Fz.deep rfl) Fz.nil (Fz.deep rfl))) (Lu _ _) ?_) |refine u1 ?_ |fail)
 refine az.seq ?_
 refine az.NY 5 (l1:=[_,_,_,_,_]) (mu:=fun _=>false) (by kernel_rfl) rfl ?_
 repeat' (first |refine RM.NZ (l2:=[_,_,_,_,_]) (k:=6) rfl rfl rfl rfl c10 rfl rfl rfl (.inl (And.intro rfl rfl)) (by kernel_rfl) ?_ |refine u1 ?_ |fail)
 refine RM.de (mu:=fun _=>false) ?_
 repeat' (first |refine u1 ?_ |fail)
 refine RM.de (mu:=fun _=>false) ?_
 repeat' (first |((with_reducible show bl _ _ _ _ _ _ _ _);refine af.F3 c12 rfl (rM.cons (Fz.deep rfl) (rM.three (Fz.deep rfl) Fz.nil (Fz.deep rfl))) (Lu _ _) ?_) |refine u1 ?_ |fail)
 refine az.aK (ai.to (l:=[(3,BB true),(4,ah 0),(5,BB false),(6,ah 0),(7,BB true),(8,ah 0),(9,.ptr 2 0 0),(10,.ptr 3 0 0),(11,ah 0),(12,.ptr 4 0 0),(13,.sl ([8].map eI) false),(14,ah 0),(15,ah 1),(16,ah 0),(17,ah 10000),(18,ah 14491),(19,ah 0),(20,ah 1),(21,ah 0),(22,.sl ([1].map eI) false),(23,ah 0),(24,ah 60),(25,ah 0),(26,ah 0),(27,ah 9)]) (hp:=[.cells (bf S0) 0 0,.cells (jW N0) 0 0,.cells (ck ⟨400,420⟩) 0 0,.cells (ck ⟨50,65⟩) 0 0,.cells (ck ⟨25,30⟩) 0 0]) 5 rfl ⟨rfl,rfl,rfl,rfl,rfl,rfl,rfl,rfl,rfl,rfl,rfl,rfl,rfl,rfl,rfl,rfl,rfl,rfl,rfl,rfl,rfl,rfl,rfl,rfl,rfl,trivial⟩ (Nat.le_of_ble_eq_true rfl) rfl rfl) ?_
 have d0:decide ((0:Int)=0)=true:=rfl
 have d9:decide ((9:Int)=9)=true:=rfl
 have d1:decide ((1:Int)=1)=true:=rfl
 have d2:decide ((10000:Int)=10000)=true:=rfl
 have d3:decide ((14491:Int)=14491)=true:=rfl
 have d4:decide ((60:Int)=60)=true:=rfl
 have d5:(decide ((400:Int)=400) && decide ((420:Int)=420))=true:=rfl
 have d6:(decide ((50:Int)=50) && decide ((65:Int)=65))=true:=rfl
 have d7:(decide ((25:Int)=25) && decide ((30:Int)=30))=true:=rfl
 have d8:(!false)=true:=rfl
 dsimp only [List.append,List.cons_append,List.nil_append]
 refine RM.de (mu:=fun _=>false) ?_
 repeat' (first |((with_reducible show ee _ _ _ _ _ _ _ _ _);refine OU rfl rfl ?_) |refine u1 ?_ |refine u2 ?_ |fail)
 refine aa (mu:=fun _=>false) ?_
 repeat' (first |refine u1 ?_ |fail)
 exact ⟨[_],⟨Fz.deep rfl,trivial⟩,rfl⟩
end Go.Proofs.YtalcbebjpgfnfaaGreat






open Go Go.RM Go.AirLaw
namespace Go.Proofs.YtalcbebjpgfnfaaGreat
set_option maxRecDepth 100000
set_option maxHeartbeats 4000000
end Go.Proofs.YtalcbebjpgfnfaaGreat
open Go Go.RM Go.AirLaw
namespace Go.Proofs.YtalcbebjpgfnfaaGreat
set_option maxRecDepth 100000
set_option maxHeartbeats 4000000
structure Nh where
 a:Int
 b:Int
 c:Int
 d:Int
 taken:List Int
structure Nh.Ok (x:Nh):Prop where
 a:0≤x.a∧x.a≤65535
 b:0≤x.b∧x.b≤65535
 c:0≤x.c∧x.c≤65535
 d:0≤x.d∧x.d≤65535
 t:∀ y ∈ x.taken,0≤y∧y≤65535
 len:x.taken.length≤maxLen
end Go.Proofs.YtalcbebjpgfnfaaGreat

open Go Go.RM
namespace Go.Proofs.YtalcbebjpgfnfaaGreat
abbrev GZ:Sh:=.int .u16
theorem G0 {l:List AV} (h:TV GZ l):∃ n,(0≤n∧n≤65535)∧l=[G2 n]:=by
 obtain ⟨n,hn,rfl⟩:=N3 h
 refine ⟨n,?_,rfl⟩
 have h1:IntKind.u16.min=0:=rfl
 have h2:IntKind.u16.max=65535:=rfl
 simp [Lit.wf] at hn
 omega
theorem Ob {l:List AV} (h:TV (.arr 2 GZ) l):∃ a b,((0≤a∧a≤65535)∧0≤b∧b≤65535)∧l=[G2 a,G2 b]:=by
 obtain ⟨els,hl,he,rfl⟩:=Ol h
 match els,hl with
 | [x,y],_ =>
  obtain ⟨a,ha,rfl⟩:=G0 (he x (by simp))
  obtain ⟨b,hb,rfl⟩:=G0 (he y (by simp))
  exact ⟨a,b,⟨ha,hb⟩,rfl⟩
end Go.Proofs.YtalcbebjpgfnfaaGreat
namespace Go.Proofs.YtalcbebjpgfnfaaGreat.St
open Go.RM
set_option maxRecDepth 1000000
noncomputable def ND:List XE:=[Ni,Nk,Nm,Np,Nr,Nt,Nz,NB]
theorem KZ:∀ e ∈ ND,fG TT e:=by
 unfold ND
 simp only [List.mem_cons,List.not_mem_nil,or_false]
 rintro e (rfl|rfl|rfl|rfl|rfl|rfl|rfl|rfl)
 ·exact Nj
 ·exact Nl
 ·exact Nn
 ·exact Nq
 ·exact Ns
 ·exact Nu
 ·exact NA
 ·exact NC
theorem NF:fG TT MM:=lu oE fZ KZ 1000 (by kernel_rfl)
theorem NG:∀ e ∈ TB,fG TT e:=fun e he=>by
 obtain rfl:=List.mem_singleton.1 he
 exact NF
end Go.Proofs.YtalcbebjpgfnfaaGreat.St
open Go Go.RM
namespace Go.Proofs.YtalcbebjpgfnfaaGreat.St
open Go.ChangeShapes Go.WideShapes Go.ChangeAt Go.RowKit
theorem OV {n:Int} (h:(Lit.int .u8 n).wf=true):0≤n∧n≤255:=by
 simp only [Lit.wf,Bool.and_eq_true,decide_eq_true_eq] at h
 exact h
theorem Oc {n:Int} (h:(Lit.int .u16 n).wf=true):0≤n∧n≤65535:=by
 simp only [Lit.wf,Bool.and_eq_true,decide_eq_true_eq] at h
 exact h
abbrev NP:Sh:=.int .u8
abbrev Jx:Sh:=.cons NP (.cons (.arr 3 GZ) (.cons (.slice NP) .nil))
theorem Od {l:List AV} (h:TV NP l):∃ n,(0≤n∧n≤255)∧l=[.fl (.int .u8 n)]:=by
 obtain ⟨n,hn,rfl⟩:=N3 h
 exact ⟨n,OV hn,rfl⟩
theorem G0 {l:List AV} (h:TV GZ l):∃ n,(0≤n∧n≤65535)∧l=[.fl (.int .u16 n)]:=by
 obtain ⟨n,hn,rfl⟩:=N3 h
 exact ⟨n,Oc hn,rfl⟩
theorem Oe {l:List AV} (h:TV (.arr 3 GZ) l):∃ a b c,((0≤a∧a≤65535)∧(0≤b∧b≤65535)∧(0≤c∧c≤65535))∧l=[.fl (.int .u16 a),.fl (.int .u16 b),.fl (.int .u16 c)]:=by
 obtain ⟨els,hl,he,rfl⟩:=Ol h
 match els,hl with
 | [x,y,z],_ =>
  obtain ⟨a,ha,rfl⟩:=G0 (he x (by simp))
  obtain ⟨b,hb,rfl⟩:=G0 (he y (by simp))
  obtain ⟨c,hc,rfl⟩:=G0 (he z (by simp))
  exact ⟨a,b,c,⟨ha,hb,hc⟩,rfl⟩
theorem Mu {l:List AV} (h:TV Jx l):∃ (kd a b c:Int) (taken:List (List AV)),((0≤kd∧kd≤255)∧(0≤a∧a≤65535)∧(0≤b∧b≤65535)∧(0≤c∧c≤65535))∧(taken.length≤maxLen∧∀ el ∈ taken,TV NP el)∧l=[.fl (.int .u8 kd),.fl (.int .u16 a),.fl (.int .u16 b),.fl (.int .u16 c),.sl taken false]:=by
 obtain ⟨_,_,h1,k1,rfl⟩:=uW h
 obtain ⟨_,_,h2,k2,rfl⟩:=uW k1
 obtain ⟨_,_,h3,k3,rfl⟩:=uW k2
 obtain rfl:=K9 k3
 obtain ⟨kd,hk,rfl⟩:=Od h1
 obtain ⟨a,b,c,hh,rfl⟩:=Oe h2
 obtain ⟨els,hl,he,rfl⟩:=MP h3
 exact ⟨kd,a,b,c,els,⟨hk,hh⟩,⟨hl,he⟩,rfl⟩
end Go.Proofs.YtalcbebjpgfnfaaGreat.St
