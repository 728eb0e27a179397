/-
  Contracts of the program's functions and of the document's. Lemmas alone; their conditions stand in them.
-/
import Derived.Test.YtichbhmnhkegiaaGreatA2
import Derived.Test.YtichbhmnhkegiaaGreatA3
import Derived.Test.YtichbhmnhkegiaaGreatK1
import Derived.Test.YtichbhmnhkegiaaGreatK3
import Derived.Test.YtichbhmnhkegiaaGreatK4
import Derived.Test.YtichbhmnhkegiaaGreatK7
import Derived.Test.YtichbhmnhkegiaaGreatK10
import Derived.Test.YtichbhmnhkegiaaGreatK11
import Derived.Test.YtichbhmnhkegiaaGreatK13
import Derived.Test.YtichbhmnhkegiaaGreatK16
import Derived.Test.YtichbhmnhkegiaaGreatK17
import Derived.Test.YtichbhmnhkegiaaGreatRows
open Go Go.RM Go.AirLaw
namespace Go.Proofs.YtichbhmnhkegiaaGreat
set_option maxRecDepth 100000
set_option maxHeartbeats 4000000
theorem w4 (one:Bool) (a b:List Int) (f g:Bool) (_:a.length≤maxLen) (hb:b.length≤maxLen):Pu one 32 [.sl (a.map eI) f,.sl (b.map eI) g] (BB (decide (a=b))):=by
 unfold maxLen at hb
 have ea:((a.map eI).length:Int)=a.length:=by simp
 have eb:((b.map eI).length:Int)=b.length:=by simp
 refine af.body (fn:=Tryz.f32) rfl rfl rfl rfl ?_
 refine aa (mu:=fun _=>false) ?_
 repeat' (first |refine u1 ?_ |fail)
 refine ⟨fun h=>?_,fun h=>?_⟩
 ·repeat' (first |refine u1 ?_ |fail)
  refine ⟨[_],⟨Fz.deep rfl,trivial⟩,GJ ?_⟩
  rw [ea,eb] at h
  symm
  rw [decide_eq_false_iff_not]
  rintro rfl
  simp at h
 ·have hl:a.length=b.length:=Int.ofNat_inj.1 (by rw [ea,eb] at h;simpa using h)
  repeat' (first |refine u1 ?_ |fail)
  refine ax.aK (ah.to (l:=[(0,.sl (a.map eI) f),(1,.sl (b.map eI) g),(5,ai ((0:Nat):Int))]) 0 rfl ⟨rfl,rfl,rfl,trivial⟩ (Nat.le_refl _) rfl rfl) ?_
  refine ax.loop (fun k:Nat=>k≤a.length∧∀ i (h:i < a.length),i < k→a[i]=b[i]) (fun k=>⟨aF [(0,.sl (a.map eI) f),(1,.sl (b.map eI) g),(5,ai (k:Int))],[],aV.none,false,0⟩) (fun k=>a.length - k) ?_ 0 ⟨Nat.zero_le _,fun i _ hi=>absurd hi (by omega)⟩
  intro k ⟨hk,hprev⟩
  refine aa (mu:=fun _=>false) ?_
  repeat' (first |refine u1 ?_ |fail)
  refine ⟨fun h=>?_,fun h=>?_⟩
  ·have hlt:k < a.length:=by simpa only [ea,decide_eq_true_eq,Int.ofNat_lt] using h
   have hltb:k < b.length:=by omega
   repeat' (first |refine u1 ?_ |((with_reducible show RM.wpOp _ _ (.indexAddr _ _ _) _ _ _);first|refine ⟨eI a[k],⟨by omega,bO hlt⟩,rfl,?_⟩|refine ⟨eI b[k],⟨by omega,bO hltb⟩,rfl,?_⟩) |refine u2 ?_ |((with_reducible show mY _ _ _ _ (.cond _ _ _) _ _);refine RM.e1 rfl ⟨fun h=>?_,fun h=>?_⟩) |fail)
   ·refine ⟨[_],⟨Fz.deep rfl,trivial⟩,GJ ?_⟩
    symm
    rw [decide_eq_false_iff_not]
    rintro rfl
    simp_all
   ·refine ⟨k+1,⟨hlt,fun i hi hik=>?_⟩,(by dsimp only;omega),ah.to 0 rfl ⟨rfl,rfl,aR (by simp),trivial⟩ (Nat.le_refl _) rfl rfl⟩
    by_cases hik':i=k
    ·subst hik';simp_all
    ·exact hprev i hi (by omega)
  ·repeat' (first |refine u1 ?_ |fail)
   refine ⟨[_],⟨Fz.deep rfl,trivial⟩,GJ ?_⟩
   have hkl:k=a.length:=by rw [ea,decide_eq_false_iff_not] at h;omega
   symm
   rw [decide_eq_true_eq]
   exact List.ext_getElem hl fun i h1 _=>hprev i h1 (by omega)
theorem Gu (one:Bool) (x y:Int):Pu one 43 [ai x,ai y] (.ag [ai x,ai y]):=by
 refine af.body (fn:=Tryz.f43) rfl rfl rfl rfl ?_
 refine aa (mu:=fun _=>false) ?_
 repeat' (first |refine u1 ?_ |refine u2 ?_ |fail)
 exact ⟨[_],⟨Fz.deep rfl,trivial⟩,rfl⟩
theorem oU (one:Bool) (x y:Int):Pu one 45 [ai x,ai y] (.ag [ai x,ai y]):=by
 refine af.body (fn:=Tryz.f45) rfl rfl rfl rfl ?_
 refine aa (mu:=fun _=>false) ?_
 repeat' (first |refine u1 ?_ |refine u2 ?_ |fail)
 exact ⟨[_],⟨Fz.deep rfl,trivial⟩,rfl⟩
theorem sS (one:Bool) (x y:Int) (h b:Bool):Pu one 70 [ai x,ai y,BB h,BB b] (.ag (aj ⟨⟨x,y⟩,h,b⟩)):=by
 have hp:=Gu one x y
 refine af.body (fn:=Tryz.f70) rfl rfl rfl rfl ?_
 refine aa (mu:=fun _=>false) ?_
 repeat' (first |refine u1 ?_ |refine u2 ?_ |fail)
 exact ⟨[_],⟨Fz.deep rfl,trivial⟩,rfl⟩
abbrev S0:au:=⟨[⟨⟨#[115,112,101,114,109]⟩,⟨400,420⟩,60⟩,⟨⟨#[114,97,112,101]⟩,⟨100,100⟩,40⟩],⟨20,30⟩,⟨50,120⟩⟩
abbrev N0:aA:=⟨⟨0,0⟩,0,8,1⟩
abbrev rA:av:=⟨⟨0,10000⟩,false,true⟩
abbrev rB:av:=⟨⟨13000,0⟩,false,false⟩
abbrev rH:av:=⟨⟨3500,0⟩,true,true⟩
abbrev rN:av:=⟨⟨0,10000⟩,false,false⟩
theorem Lt (one:Bool):Pu one 44 [] (.ag (aj rA)):=by
 have hp:=sS one 0 10000 false true
 refine af.body (fn:=Tryz.f44) rfl rfl rfl rfl ?_
 refine aa (mu:=fun _=>false) ?_
 repeat' (first |refine u1 ?_ |refine u2 ?_ |fail)
 exact ⟨[_],⟨Fz.deep rfl,trivial⟩,rfl⟩
theorem Lu (one:Bool):Pu one 68 [] (.ag (aj rB)):=by
 have hp:=sS one 13000 0 false false
 refine af.body (fn:=Tryz.f68) rfl rfl rfl rfl ?_
 refine aa (mu:=fun _=>false) ?_
 repeat' (first |refine u1 ?_ |refine u2 ?_ |fail)
 exact ⟨[_],⟨Fz.deep rfl,trivial⟩,rfl⟩
theorem Lv (one:Bool):Pu one 69 [] (.ag (aj rH)):=by
 have hp:=sS one 3500 0 true true
 refine af.body (fn:=Tryz.f69) rfl rfl rfl rfl ?_
 refine aa (mu:=fun _=>false) ?_
 repeat' (first |refine u1 ?_ |refine u2 ?_ |fail)
 exact ⟨[_],⟨Fz.deep rfl,trivial⟩,rfl⟩
theorem IB (one:Bool):Pu one 42 [] (.ag (aC N0)):=by
 refine af.body (fn:=Tryz.f42) rfl rfl rfl rfl ?_
 refine aa (mu:=fun _=>false) ?_
 repeat' (first |refine u1 ?_ |refine u2 ?_ |fail)
 exact ⟨[_],⟨Fz.deep rfl,trivial⟩,rfl⟩
theorem Eb (one:Bool):Pu one 41 [] (.ag (ay S0)):=by
 have h1:=oU one 400 420
 have h2:=oU one 100 100
 have h3:=oU one 20 30
 have h4:=oU one 50 120
 refine af.body (fn:=Tryz.f41) rfl rfl rfl rfl ?_
 refine aa (mu:=fun _=>false) ?_
 repeat' (first |refine u1 ?_ |refine u2 ?_ |fail)
 refine ⟨[.ag (ay S0)],⟨Fz.ag rfl (fun i x y hx hy=>?_),trivial⟩,rfl⟩
 rcases i with _|_|_|_|_|i
 ·obtain rfl:=Option.some.inj hx
  obtain rfl:=Option.some.inj hy
  exact Fz.full
 iterate 4
  ·obtain rfl:=Option.some.inj hx
   obtain rfl:=Option.some.inj hy
   exact Fz.deep rfl
 ·cases hx
theorem uG:S0.Ok:=⟨by decide,by decide⟩
end Go.Proofs.YtichbhmnhkegiaaGreat
open Go Go.RM Go.AirLaw
namespace Go.Proofs.YtichbhmnhkegiaaGreat
set_option maxRecDepth 100000
set_option maxHeartbeats 4000000
theorem J0:iR S0 N0 [rA,rB]=(⟨400,420⟩,⟨50,65⟩,0):=by kernel_rfl
theorem J1:fy S0 N0 [rH]=(⟨25,30⟩,[8],0):=by kernel_rfl
theorem J2:iy S0 N0 [rA] ⟨0,12000⟩ false=(1,0):=by kernel_rfl
theorem J3:nJ S0 N0 [] 7000=(1,0):=by kernel_rfl
theorem Lw:nJ S0 N0 [] 10001=(0,9):=by kernel_rfl
theorem L8:uW S0 1 90=(60,0):=by kernel_rfl
theorem J4:oJ ⟨0,10000⟩ 200 100=(true,0):=by kernel_rfl
theorem J5:oJ ⟨0,10000⟩ 199 100=(false,0):=by kernel_rfl
theorem J6:lZ ⟨-1200,0⟩ 20 8=(true,0):=by kernel_rfl
theorem L9:qR S0 N0 []=(10000,14491,0):=by
 have hA:((cZ S0 N0 []).all fun x=>decide (0≤x.1) && decide (0≤x.2) && bU x.1 x.2 10000 && !bU x.1 x.2 14492)=true:=by kernel_rfl
 have m1:(400,50) ∈ cZ S0 N0 []:=List.elem_iff.1 (by kernel_rfl)
 have m2:(420,120) ∈ cZ S0 N0 []:=List.elem_iff.1 (by kernel_rfl)
 have c1:bU 400 50 10001=false:=by kernel_rfl
 have c2:bU 420 120 14491=true:=by kernel_rfl
 have hb:∀ x ∈ cZ S0 N0 [],10000≤bE x∧bE x≤14491:=by
  intro x hx
  have h:=List.all_eq_true.1 hA x hx
  simp only [Bool.and_eq_true,decide_eq_true_eq,Bool.not_eq_true'] at h
  obtain ⟨⟨⟨h1,h2⟩,h3⟩,h4⟩:=h
  unfold bE gn
  have a1:=oH (p:=bU x.1 x.2) (n:=60000) (by decide) h3
  refine ⟨by omega,?_⟩
  rcases Nat.lt_or_ge 14491 (most (bU x.1 x.2) 60000) with h5|h5
  ·have:=iQ h1 (Int.le_refl _) h2 (Int.le_refl _) (show 14492≤most (bU x.1 x.2) 60000 by omega) (mK (iP h1) 60000)
   rw [h4] at this;cases this
  ·omega
 have r1:bE (400,50)≤10000:=by
  unfold bE gn
  rcases Nat.lt_or_ge 10000 (most (bU 400 50) 60000) with h5|h5
  ·have:=iQ (c1:=400) (r1:=50) (by decide) (Int.le_refl _) (by decide) (Int.le_refl _) (show 10001≤most (bU 400 50) 60000 by omega) (mK (iP (by decide)) 60000)
   rw [c1] at this;cases this
  ·dsimp only;omega
 have r2:14491≤bE (420,120):=by
  unfold bE gn
  have:=oH (p:=bU 420 120) (n:=60000) (by decide) c2
  dsimp only;omega
 have hne:cZ S0 N0 [] ≠ []:=List.ne_nil_of_mem m1
 have h0:(aD S0 N0 []).2=0:=by kernel_rfl
 obtain ⟨⟨x,hx,ex⟩,⟨y,hy,ey⟩,hall⟩:=gS bE hne
 have t:=dI bE hne
 have b1:=hb x hx
 have b2:=hb y hy
 have a1:=hall _ m1
 have a2:=hall _ m2
 unfold qR
 rw [if_neg (by rw [h0];decide)]
 unfold Fg
 rw [t,if_neg (by decide)]
 generalize aH bE (cZ S0 N0 [])=z at *
 have q1:z.1.lo=10000:=by omega
 have q2:z.1.hi=14491:=by omega
 rw [q1,q2]
theorem Mb:uF S0 N0 [rB,rN] (400,50) (20,8) where
 l:=List.elem_iff.1 (by kernel_rfl)
 h:=List.elem_iff.1 (by kernel_rfl)
 JX u hu:=by
  have e:aO (bL false N0 [rB,rN] (400,50)) 0 [rB,rN].length=[1]:=by kernel_rfl
  have hA:((dH S0 N0).all fun u=>decide (aO (bL false N0 [rB,rN] u) 0 [rB,rN].length=[1]) || decide (aO (bL false N0 [rB,rN] u) 0 [rB,rN].length=[0,1]))=true:=by kernel_rfl
  have h:=List.all_eq_true.1 hA u hu
  rw [e]
  simp only [Bool.or_eq_true,decide_eq_true_eq] at h
  rcases h with h|h
  ·rw [h];exact pM
  ·rw [h];intro hb
   rcases hb with hb|⟨hb,_⟩
   ·exact absurd hb (by decide)
   ·exact absurd hb (by decide)
 hmin u hu:=by
  have e:aO (bL true N0 [rB,rN] (20,8)) 0 [rB,rN].length=[]:=by kernel_rfl
  rw [e]
  intro hb
  rcases hb with hb|⟨hb,hc⟩
  ·exact absurd hb (Nat.not_lt_zero _)
  ·rw [List.length_eq_zero_iff.1 hb] at hc;exact absurd hc (by rw [sF];decide)
theorem J7:gJ N0 [rB,rN] (400,50) (20,8)=[1]:=by kernel_rfl
theorem IC:(aD S0 N0 [rB,rN]).2=0:=by kernel_rfl
end Go.Proofs.YtichbhmnhkegiaaGreat
open Go Go.RM Go.AirLaw
namespace Go.Proofs.YtichbhmnhkegiaaGreat
set_option maxRecDepth 100000
set_option maxHeartbeats 4000000
section
variable {a b : AV} {x y : Operand} {hp : List AB} {K : AV → List AB → Prop} {m n p q : Int}
theorem ID:∀ {x y:Operand} (a b c d:Int),fe TT.P .eql 26 x y (.agg #[vI a,vI b]) (.agg #[vI c,vI d])=some (.bool (decide (a=c) && decide (b=d)),.none)∧fe TT.P .neq 26 x y (.agg #[vI a,vI b]) (.agg #[vI c,vI d])=some (.bool (!(decide (a=c) && decide (b=d))),.none) :=
 fun a b c d=>EX (by kernel_rfl) (by kernel_rfl) (by kernel_rfl) (by kernel_rfl) a b c d
theorem MR (ha:a=.ag [ai m,ai n]) (hb:b=.ag [ai p,ai q]) (h:K (BB (decide (m=p) && decide (n=q))) hp):cI TT .eql 26 x y a b hp K:=by
 subst ha hb
 exact ⟨_,_,rfl,rfl,.bool (decide (m=p) && decide (n=q)),(ID m n p q).1,rfl,h⟩
theorem MC (ha:a=.ag [ai m,ai n]) (hb:b=.ag [ai p,ai q]) (h:K (BB (!(decide (m=p) && decide (n=q)))) hp):cI TT .neq 26 x y a b hp K:=by
 subst ha hb
 exact ⟨_,_,rfl,rfl,.bool (!(decide (m=p) && decide (n=q))),(ID m n p q).2,rfl,h⟩
end
theorem KC (a b:Value):dY (.tp [.fl a,.fl b]):=dY.tp fun x hx=>by
 rcases List.mem_cons.1 hx with rfl|hx
 ·exact dY.fl _
 ·rw [List.mem_singleton.1 hx];exact dY.fl _
theorem KF (a b c:Value):dY (.tp [.fl a,.fl b,.fl c]):=dY.tp fun x hx=>by
 rcases List.mem_cons.1 hx with rfl|hx
 ·exact dY.fl _
 ·rcases List.mem_cons.1 hx with rfl|hx
  ·exact dY.fl _
  ·rw [List.mem_singleton.1 hx];exact dY.fl _
theorem CR:Pu false 23 [] (BB true):=by
 have hst:=Eb false
 have hni:=IB false
 have hp1:=Gu false 0 10000
 have hp2:=Gu false (-1200) 0
 have hs1:=qL false ⟨0,10000⟩ 200 100
 rw [J4] at hs1
 have hs2:=qL false ⟨0,10000⟩ 199 100
 rw [J5] at hs2
 have hh:=pO false ⟨-1200,0⟩ 20 8
 rw [J6] at hh
 have hA:=Lt true
 have hB:=Lu true
 have hH:=Lv true
 have hp3:=Gu true 0 12000
 have hR:=sS true 0 10000 false false
 have c5:=AE true S0 uG N0 [rA,rB] true (by decide)
 rw [J0] at c5
 have c6:=AG true S0 uG N0 [rH] true (by decide)
 rw [J1] at c6
 have c7:=vj true S0 uG N0 [rA] true (by decide) ⟨0,12000⟩ false
 rw [J2] at c7
 have c8:=Fh false S0 uG N0 [] false (by decide)
 rw [L9] at c8
 have c9:=A2 false S0 uG N0 [] false (by decide) 7000
 rw [J3] at c9
 have c10:=AZ S0 uG N0 [rB,rN] true IC (400,50) (20,8) Mb
 rw [J7] at c10
 have c11:=yQ false S0 uG 1 90
 rw [L8] at c11
 have c12:=A2 false S0 uG N0 [] false (by decide) 10001
 rw [Lw] at c12
 have i1:=w4 true [8] [8] false true (by decide) (by decide)
 have i2:=w4 true [1] [1] false true (by decide) (by decide)
 rw [decide_eq_true rfl] at i1 i2
 have s1:=oU true 400 420
 have s2:=oU true 50 65
 have s3:=oU true 25 30
 refine af.body (fn:=Tryz.f23) rfl rfl rfl rfl ?_
 refine RM.fm (mu:=fun _=>false) ?_
 repeat' (first |refine u1 ?_ |fail)
 refine RM.fm (mu:=fun _=>false) ?_
 repeat' (first |refine u1 ?_ |fail)
 refine RM.fm (mu:=fun _=>false) ?_
 repeat' (first |refine u1 ?_ |fail)
 refine RM.fm (mu:=fun _=>false) ?_
 repeat' (first |refine u1 ?_ |fail)
 refine RM.fm (mu:=fun _=>false) ?_
 repeat' (first |refine u1 ?_ |fail)
 refine RM.fm (mu:=fun _=>false) ?_
 repeat' (first |refine u1 ?_ |refine u2 ?_ |fail)
 refine RM.fm (mu:=fun _=>false) ?_
 repeat' (first |refine u1 ?_ |refine u2 ?_ |fail)
 refine RM.fm (mu:=fun _=>false) ?_
 repeat' (first |refine u1 ?_ |refine u2 ?_ |fail)
 refine RM.fm (mu:=fun _=>false) ?_
 repeat' (first |((with_reducible show aP _ _ _ _ _ _ _ _);refine af.DM c8 rfl (s7.three (Fz.deep rfl) (Fz.deep rfl) Fz.nil) (KF _ _ _) ?_) |refine u1 ?_ |fail)
 refine RM.fm (mu:=fun _=>false) ?_
 repeat' (first |((with_reducible show aP _ _ _ _ _ _ _ _);refine af.DM c9 rfl (s7.cons (Fz.deep rfl) (s7.three (Fz.deep rfl) Fz.nil (Fz.deep rfl))) (KC _ _) ?_) |refine u1 ?_ |fail)
 refine ax.seq ?_
 refine ax.Ms 5 (l1:=[_,_,_,_,_]) (mu:=fun _=>false) (by kernel_rfl) rfl ?_
 repeat' (first |refine RM.Mt (l2:=[_,_,_,_,_]) (k:=6) rfl rfl rfl rfl c10 rfl rfl rfl (.inl (And.intro rfl rfl)) (by kernel_rfl) ?_ |refine u1 ?_ |fail)
 refine RM.fm (mu:=fun _=>false) ?_
 repeat' (first |refine u1 ?_ |fail)
 refine RM.fm (mu:=fun _=>false) ?_
 repeat' (first |((with_reducible show aP _ _ _ _ _ _ _ _);refine af.DM c12 rfl (s7.cons (Fz.deep rfl) (s7.three (Fz.deep rfl) Fz.nil (Fz.deep rfl))) (KC _ _) ?_) |refine u1 ?_ |fail)
 refine ax.aK (ah.to (l:=[(3,BB true),(4,ai 0),(5,BB false),(6,ai 0),(7,BB true),(8,ai 0),(9,.ptr 2 0 0),(10,.ptr 3 0 0),(11,ai 0),(12,.ptr 4 0 0),(13,.sl ([8].map eI) false),(14,ai 0),(15,ai 1),(16,ai 0),(17,ai 10000),(18,ai 14491),(19,ai 0),(20,ai 1),(21,ai 0),(22,.sl ([1].map eI) false),(23,ai 0),(24,ai 60),(25,ai 0),(26,ai 0),(27,ai 9)]) (hp:=[.cells (ay S0) 0 0,.cells (aC N0) 0 0,.cells (aG ⟨400,420⟩) 0 0,.cells (aG ⟨50,65⟩) 0 0,.cells (aG ⟨25,30⟩) 0 0]) 5 rfl ⟨rfl,rfl,rfl,rfl,rfl,rfl,rfl,rfl,rfl,rfl,rfl,rfl,rfl,rfl,rfl,rfl,rfl,rfl,rfl,rfl,rfl,rfl,rfl,rfl,rfl,trivial⟩ (Nat.le_of_ble_eq_true rfl) rfl rfl) ?_
 have d0:decide ((0:Int)=0)=true:=rfl
 have d9:decide ((9:Int)=9)=true:=rfl
 have d1:decide ((1:Int)=1)=true:=rfl
 have d2:decide ((10000:Int)=10000)=true:=rfl
 have d3:decide ((14491:Int)=14491)=true:=rfl
 have d4:decide ((60:Int)=60)=true:=rfl
 have d5:(decide ((400:Int)=400) && decide ((420:Int)=420))=true:=rfl
 have d6:(decide ((50:Int)=50) && decide ((65:Int)=65))=true:=rfl
 have d7:(decide ((25:Int)=25) && decide ((30:Int)=30))=true:=rfl
 have d8:(!false)=true:=rfl
 dsimp only [List.append,List.cons_append,List.nil_append]
 refine RM.fm (mu:=fun _=>false) ?_
 repeat' (first |((with_reducible show cI _ _ _ _ _ _ _ _ _);refine MR rfl rfl ?_) |refine u1 ?_ |refine u2 ?_ |fail)
 refine aa (mu:=fun _=>false) ?_
 repeat' (first |refine u1 ?_ |fail)
 exact ⟨[_],⟨Fz.deep rfl,trivial⟩,rfl⟩
end Go.Proofs.YtichbhmnhkegiaaGreat
open Go Go.RM Go.AirLaw
namespace Go.Proofs.YtichbhmnhkegiaaGreat
set_option maxRecDepth 100000
set_option maxHeartbeats 4000000
theorem Gw (v:Pt) (s:au) (h:s.Ok) (a b c d:Int):Pu false 3 [.ag (oG v),.ag (ay s),.ag [ai a,ai b,ai c,ai d]] (BB true):=by
 have c1:=qL false v a b
 have c2:=JR false v a b
 have c3:=pO false v c d
 have c4:=Ig false v c d
 have c5:=yQ false s h d b
 have c6:=Lg false s h d b
 have aw:=CR
 generalize oJ v a b=z1 at *
 generalize lZ v c d=z2 at *
 generalize uW s d b=z3 at *
 obtain ⟨z1,e1⟩:=z1
 obtain ⟨z2,e2⟩:=z2
 obtain ⟨z3,e3⟩:=z3
 have q1:(!decide (e1=e1))=false:=by simp
 have q2:(!decide (e2=e2))=false:=by simp
 have q3:decide (e3=e3)=true:=by simp
 have q4:decide (z3=z3)=true:=by simp
 have q5:(!decide (z1=z1))=false:=by simp
 have q6:(!decide (z2=z2))=false:=by simp
 have q7:(z1 != z1)=false:=by simp
 have q8:(z2 != z2)=false:=by simp
 refine af.body (fn:=Tryz.f3) rfl rfl rfl rfl ?_
 refine aa (mu:=fun _=>false) ?_
 repeat' (first |refine u1 ?_ |refine u2 ?_ |fail)
 exact ⟨[_],⟨Fz.deep rfl,trivial⟩,rfl⟩
end Go.Proofs.YtichbhmnhkegiaaGreat
open Go Go.RM
namespace Go.Proofs.YtichbhmnhkegiaaGreat
abbrev GK:Sh:=.int .i64
abbrev A3:Sh:=.cons GK (.cons GK .nil)
abbrev IE:Sh:=.cons GK (.cons GK .nil)
abbrev Fm:Sh:=.cons .str (.cons A3 (.cons GK .nil))
abbrev iT:Sh:=.cons (.slice Fm) (.cons A3 (.cons A3 .nil))
abbrev oV:Sh:=.cons IE (.cons .bool (.cons .bool .nil))
abbrev sU:Sh:=.cons IE (.cons GK (.cons GK (.cons GK .nil)))
theorem IF {l:List AV} (h:TV GK l):∃ n,(Lit.int .i64 n).wf=true∧l=eI n:=by
 cases h with
 | int h=>exact ⟨_,h,rfl⟩
theorem MD {k:IntKind} {l:List AV} (h:TV (.int k) l):∃ n,(Lit.int k n).wf=true∧l=[.fl (.int k n)]:=by
 cases h with
 | int h=>exact ⟨_,h,rfl⟩
theorem ME {l:List AV} (h:TV .bool l):∃ b,l=[BB b]:=by
 cases h with
 | bool=>exact ⟨_,rfl⟩
theorem Nm {l:List AV} (h:TV .str l):∃ s:ByteArray,s.size≤maxLen∧l=[ST s]:=by
 cases h with
 | str h=>exact ⟨_,h,rfl⟩
theorem xw {a b:Sh} {l:List AV} (h:TV (.cons a b) l):∃ x y,TV a x∧TV b y∧l=x++y:=by
 cases h with
 | cons h k=>exact ⟨_,_,h,k,rfl⟩
theorem KG {l:List AV} (h:TV .nil l):l=[]:=by cases h;rfl
theorem MF {s:Sh} {l:List AV} (h:TV (.slice s) l):∃ els,els.length≤maxLen∧(∀ el ∈ els,TV s el)∧l=[.sl els false]:=by
 cases h with
 | slice h k=>exact ⟨_,h,k,rfl⟩
theorem Mc {n:Nat} {s:Sh} {l:List AV} (h:TV (.arr n s) l):∃ els:List (List AV),els.length=n∧(∀ el ∈ els,TV s el)∧l=els.flatten:=by
 cases h with
 | arr h k=>exact ⟨_,h,k,rfl⟩
theorem Fo {α:Type} {e:α→List AV} {P:α→Prop}:∀ {els:List (List AV)},(∀ el ∈ els,∃ x,P x∧el=e x)→∃ l:List α,(∀ x ∈ l,P x)∧els=l.map e
 | [],_=>⟨[],⟨List.forall_mem_nil _,rfl⟩⟩
 | el :: els,h=>by
  obtain ⟨x,hx,rfl⟩:=h el (by simp)
  obtain ⟨l,hl,rfl⟩:=Fo fun el hel=>h el (List.mem_cons_of_mem _ hel)
  exact ⟨x :: l,⟨List.forall_mem_cons.2 ⟨hx,hl⟩,rfl⟩⟩
theorem A4 {l:List AV} (h:TV A3 l):∃ s:Span,l=aG s:=by
 obtain ⟨_,_,h1,k1,rfl⟩:=xw h
 obtain ⟨_,_,h2,k2,rfl⟩:=xw k1
 obtain ⟨a,_,rfl⟩:=IF h1
 obtain ⟨b,_,rfl⟩:=IF h2
 obtain rfl:=KG k2
 exact ⟨⟨a,b⟩,rfl⟩
theorem J8 {l:List AV} (h:TV IE l):∃ s:Pt,l=oG s:=by
 obtain ⟨⟨a,b⟩,rfl⟩:=A4 h
 exact ⟨⟨a,b⟩,rfl⟩
theorem J9 {l:List AV} (h:TV Fm l):∃ k:eT,k.name.data.toList.length≤maxLen∧l=aL k:=by
 obtain ⟨_,_,h1,k1,rfl⟩:=xw h
 obtain ⟨_,_,h2,k2,rfl⟩:=xw k1
 obtain ⟨_,_,h3,k3,rfl⟩:=xw k2
 obtain ⟨a,ha,rfl⟩:=Nm h1
 obtain ⟨b,rfl⟩:=A4 h2
 obtain ⟨c,_,rfl⟩:=IF h3
 obtain rfl:=KG k3
 exact ⟨⟨a,b,c⟩,by simpa using ha,rfl⟩
theorem jY {l:List AV} (h:TV iT l):∃ s:au,s.Ok∧l=ay s:=by
 obtain ⟨_,_,h1,k1,rfl⟩:=xw h
 obtain ⟨_,_,h2,k2,rfl⟩:=xw k1
 obtain ⟨_,_,h3,k3,rfl⟩:=xw k2
 obtain rfl:=KG k3
 obtain ⟨a,ha,ha',rfl⟩:=MF h1
 obtain ⟨b,rfl⟩:=A4 h2
 obtain ⟨c,rfl⟩:=A4 h3
 obtain ⟨a,hn,rfl⟩:=Fo (e:=aL) fun el hel=>J9 (ha' el hel)
 exact ⟨⟨a,b,c⟩,⟨by simpa using ha,hn⟩,rfl⟩
theorem vl {l:List AV} (h:TV sU l):∃ n:aA,l=aC n:=by
 obtain ⟨_,_,h1,k1,rfl⟩:=xw h
 obtain ⟨_,_,h2,k2,rfl⟩:=xw k1
 obtain ⟨_,_,h3,k3,rfl⟩:=xw k2
 obtain ⟨_,_,h4,k4,rfl⟩:=xw k3
 obtain ⟨a,rfl⟩:=J8 h1
 obtain ⟨b,_,rfl⟩:=IF h2
 obtain ⟨c,_,rfl⟩:=IF h3
 obtain ⟨d,_,rfl⟩:=IF h4
 obtain rfl:=KG k4
 exact ⟨⟨a,b,c,d⟩,rfl⟩
theorem IG {l:List AV} (h:TV oV l):∃ r:av,l=aj r:=by
 obtain ⟨_,_,h1,k1,rfl⟩:=xw h
 obtain ⟨_,_,h2,k2,rfl⟩:=xw k1
 obtain ⟨_,_,h3,k3,rfl⟩:=xw k2
 obtain ⟨a,rfl⟩:=J8 h1
 obtain ⟨b,rfl⟩:=ME h2
 obtain ⟨c,rfl⟩:=ME h3
 obtain rfl:=KG k3
 exact ⟨⟨a,b,c⟩,rfl⟩
theorem tY {l:List AV} (h:TV (.slice oV) l):∃ c:List av,c.length≤maxLen∧l=[.sl (c.map aj) false]:=by
 obtain ⟨a,ha,ha',rfl⟩:=MF h
 obtain ⟨a,_,rfl⟩:=Fo (e:=aj) (P:=fun _=>True) fun el hel=>by obtain ⟨n,h⟩:=IG (ha' el hel);exact ⟨n,trivial,h⟩
 exact ⟨a,by simpa using ha,rfl⟩
open Go.ChangeShapes Go.WideShapes Go.ChangeAt Go.RowKit
theorem nL:ownKnob Tryz.prog.godebug=none:=by kernel_rfl
theorem kT:laidOutB Tryz.prog=true:=by kernel_rfl
theorem w5:∀ e ∈ TB,v8 TT e:=fun e he=>by cases he
theorem MG {l:List AV} (h:TV (.arr 4 GK) l):∃ a b c d,l=[ai a,ai b,ai c,ai d]:=by
 obtain ⟨els,hl,he,rfl⟩:=Mc h
 match els,hl with
 | [x,y,z,w],_ =>
  obtain ⟨a,_,rfl⟩:=IF (he x (by simp))
  obtain ⟨b,_,rfl⟩:=IF (he y (by simp))
  obtain ⟨c,_,rfl⟩:=IF (he z (by simp))
  obtain ⟨d,_,rfl⟩:=IF (he w (by simp))
  exact ⟨a,b,c,d,rfl⟩
abbrev II:Sh:=.cons sU (.cons (.slice oV) .nil)
abbrev Fp:Sh:=.cons IE (.cons .bool (.cons GK .nil))
abbrev Md (n:aA) (rs:List av):List AV:=aC n++[.sl (rs.map aj) false]
theorem Lx {l:List AV} (h:TV II l):∃ (n:aA) (rs:List av),rs.length≤maxLen∧l=Md n rs:=by
 obtain ⟨_,_,h1,k1,rfl⟩:=xw h
 obtain ⟨_,_,h2,k2,rfl⟩:=xw k1
 obtain ⟨n,rfl⟩:=vl h1
 obtain ⟨rs,hr,rfl⟩:=tY h2
 obtain rfl:=KG k2
 exact ⟨n,rs,hr,rfl⟩
theorem Ka {l:List AV} (h:TV Fp l):∃ (p:Pt) (b:Bool) (d:Int),l=oG p++[BB b,ai d]:=by
 obtain ⟨_,_,h1,k1,rfl⟩:=xw h
 obtain ⟨_,_,h2,k2,rfl⟩:=xw k1
 obtain ⟨_,_,h3,k3,rfl⟩:=xw k2
 obtain ⟨p,rfl⟩:=J8 h1
 obtain ⟨b,rfl⟩:=ME h2
 obtain ⟨d,_,rfl⟩:=IF h3
 obtain rfl:=KG k3
 exact ⟨p,b,d,rfl⟩
end Go.Proofs.YtichbhmnhkegiaaGreat
open Go Go.RM
namespace Go.Proofs.YtichbhmnhkegiaaGreat
set_option maxRecDepth 100000
def bF:Nat→Nat→Nat→List (List Int)
 | 0,_,_=>[[]]
 | k+1,a,m=>(List.range' a m).flatMap fun n=>(bF k (n+1) (a+m - (n+1))).map fun l=>(n:Int) :: l
theorem gK (a m:Nat):bF 0 a m=[[]]:=by rw [bF]
theorem qT (k a:Nat):bF (k+1) a 0=[]:=by rw [bF];rfl
theorem qU (k a m:Nat):bF (k+1) a (m+1)=((bF k (a+1) m).map fun l=>(a:Int) :: l)++bF (k+1) (a+1) m:=by
 rw [bF,bF,List.range'_succ,List.flatMap_cons,show a+(m+1) - (a+1)=m by omega]
 congr 1
 rw [show a+(m+1)=a+1+m by omega]
theorem qu {p q:Nat→Bool} {a m:Nat} (h:∀ i,a≤i→i < a+m→p i=q i):aO p a m=aO q a m:=by
 unfold aO
 congr 1
 refine List.filter_congr fun i hi=>?_
 rw [List.mem_range'_1] at hi
 exact h i hi.1 hi.2
theorem mV:∀ (m k a:Nat) (l:List Int),l ∈ bF k a m ↔ ∃ p:Nat→Bool,l=aO p a m∧l.length=k:=by
 have lf:∀ (a m:Nat),aO (fun _=>false) a m=[]:=fun a m=>by unfold aO;simp
 have l0:∀ (p:Nat→Bool) (a:Nat),aO p a 0=[]:=fun p a=>rfl
 intro m
 induction m with
 | zero =>
  intro k a l
  cases k with
  | zero =>
   rw [gK,List.mem_singleton]
   exact ⟨fun h=>⟨fun _=>false,by rw [h,lf],by rw [h];rfl⟩,fun ⟨_,_,h⟩=>List.length_eq_zero_iff.1 h⟩
  | succ k =>
   rw [qT]
   exact ⟨fun h=>absurd h (by simp),fun ⟨p,h,g⟩=>by rw [h,l0] at g;cases g⟩
 | succ m ih =>
  intro k a l
  cases k with
  | zero =>
   rw [gK,List.mem_singleton]
   exact ⟨fun h=>⟨fun _=>false,by rw [h,lf],by rw [h];rfl⟩,fun ⟨_,_,h⟩=>List.length_eq_zero_iff.1 h⟩
  | succ k =>
   rw [qU,List.mem_append,List.mem_map]
   constructor
   ·rintro (⟨l',h,rfl⟩|h)
    ·obtain ⟨p,rfl,g⟩:=(ih k (a+1) l').1 h
     refine ⟨fun i=>decide (i=a) || p i,?_,by rw [List.length_cons,g]⟩
     rw [oE (by simp)]
     congr 1
     exact qu fun i h1 _=>by rw [decide_eq_false (by omega)];rfl
    ·obtain ⟨p,rfl,g⟩:=(ih (k+1) (a+1) l).1 h
     refine ⟨fun i=>!decide (i=a) && p i,?_,g⟩
     rw [oF (p:=fun i=>!decide (i=a) && p i) (by simp)]
     exact qu fun i h1 _=>by rw [decide_eq_false (by omega)];rfl
   ·rintro ⟨p,rfl,g⟩
    cases hp:p a with
    | true =>
     rw [oE hp] at g ⊢
     rw [List.length_cons] at g
     exact .inl ⟨_,(ih k (a+1) _).2 ⟨p,rfl,by omega⟩,rfl⟩
    | false =>
     rw [oF hp] at g ⊢
     exact .inr ((ih (k+1) (a+1) _).2 ⟨p,rfl,g⟩)
theorem Kc {a b:Int} (h:a < b):ek a b=-1:=by unfold ek;rw [if_pos h]
theorem Gx (a:Int):ek a a=0:=by unfold ek;rw [if_neg (by omega),if_neg (by omega)]
theorem Ec:∀ {k a m:Nat} {l:List Int},l ∈ bF (k+1) a m→∃ (b:Nat) (l':List Int),l=(b:Int) :: l'∧a≤b:=by
 intro k a m l h
 rw [bF,List.mem_flatMap] at h
 obtain ⟨b,hb,h⟩:=h
 obtain ⟨l',_,rfl⟩:=List.mem_map.1 h
 rw [List.mem_range'_1] at hb
 exact ⟨b,l',rfl,hb.1⟩
theorem A5:∀ (m k a:Nat),(bF k a m).Pairwise (fun x y=>gG x y < 0):=by
 intro m
 induction m with
 | zero =>
  intro k a
  cases k with
  | zero=>rw [gK];exact List.pairwise_singleton _ _
  | succ k=>rw [qT];exact List.Pairwise.nil
 | succ m ih =>
  intro k a
  cases k with
  | zero=>rw [gK];exact List.pairwise_singleton _ _
  | succ k =>
   rw [qU,List.pairwise_append]
   refine ⟨?_,ih (k+1) (a+1),fun x hx y hy=>?_⟩
   ·rw [List.pairwise_map]
    exact (ih k (a+1)).imp fun h=>by rw [iZ,if_pos (Gx _)];exact h
   ·obtain ⟨l,_,rfl⟩:=List.mem_map.1 hx
    obtain ⟨b,l',rfl,hb⟩:=Ec hy
    rw [iZ,Kc (by omega),if_neg (by decide)]
    decide
theorem CS {P:List Int→Bool} {n k i:Nat} {F x:List Int} (hF:P F=true) (hm:∃ p:Nat→Bool,F=aO p 0 n) (hl:∀ p:Nat→Bool,P (aO p 0 n)=true→¬ gv (aO p 0 n) F)
  (h1:∀ j,j < k→∀ l ∈ bF j 0 n,P l=false) (h2:∀ j,j < i→∀ l,(bF k 0 n)[j]?=some l→P l=false) (hx:(bF k 0 n)[i]?=some x) (hP:P x=true):x=F:=by
 obtain ⟨q,hq⟩:=hm
 obtain ⟨p,hp,hk⟩:=(mV n k 0 x).1 (List.mem_of_getElem? hx)
 have hFm:F ∈ bF F.length 0 n:=(mV n F.length 0 F).2 ⟨q,hq,rfl⟩
 refine u9 (by rw [hp];exact hl p (by rw [←hp];exact hP)) fun hb=>?_
 rcases hb with hb|⟨hb,hc⟩
 ·rw [hk] at hb
  rw [h1 _ hb _ hFm] at hF
  cases hF
 ·rw [hk] at hb
  rw [hb] at hFm
  obtain ⟨j,hj,e⟩:=List.getElem_of_mem hFm
  have hs:=List.pairwise_iff_getElem.1 (A5 n k 0)
  have hi:i < (bF k 0 n).length:=by
   rcases Nat.lt_or_ge i (bF k 0 n).length with h|h
   ·exact h
   ·rw [List.getElem?_eq_none h] at hx;cases hx
  have hxe:(bF k 0 n)[i]=x:=by rw [List.getElem?_eq_getElem hi] at hx;exact Option.some.inj hx
  rcases Nat.lt_trichotomy j i with h|h|h
  ·rw [h2 j h F (by rw [List.getElem?_eq_getElem hj,e])] at hF
   cases hF
  ·subst h
   rw [e] at hxe
   rw [hxe] at hc
   have:=mG x x
   omega
  ·have:=hs i j hi hj h
   rw [hxe,e] at this
   have hf:=mG x F
   omega
theorem Ed {P:List Int→Bool} {n:Nat} {F:List Int} (hF:P F=true) (hm:∃ p:Nat→Bool,F=aO p 0 n) (h1:∀ j,j < n+1→∀ l ∈ bF j 0 n,P l=false):False:=by
 obtain ⟨q,hq⟩:=hm
 have hFm:F ∈ bF F.length 0 n:=(mV n F.length 0 F).2 ⟨q,hq,rfl⟩
 have:=e8 q 0 n
 rw [←hq] at this
 rw [h1 _ (by omega) _ hFm] at hF
 cases hF
end Go.Proofs.YtichbhmnhkegiaaGreat
