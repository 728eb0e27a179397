/-
  Contracts of the program's functions and of the document's. Lemmas alone; their conditions stand in them.
-/
import Derived.Test.YtichbhmnhkegiaaGreatX1
import Derived.Test.YtichbhmnhkegiaaGreatK16
import Derived.Test.YtichbhmnhkegiaaGreatK21
import Derived.Test.YtichbhmnhkegiaaGreatK20
import Derived.Test.YtichbhmnhkegiaaGreatX2
open Go Go.RM Go.AirLaw
namespace Go.Proofs.YtichbhmnhkegiaaGreat
set_option maxRecDepth 100000
set_option maxHeartbeats 4000000
def turnPt (p:Pt):Pt:=⟨p.y,-p.x⟩
def turnN (n:aA):aA:=⟨turnPt n.pos,n.bK,(n.dc+8) % 32,n.bX⟩
def turnR (r:av):av:=⟨turnPt r.pos,r.aB,r.yes⟩
def turnT (aB:Bool) (x:Int × Int):Int × Int:=if aB=true then (x.1,(x.2+8) % 32) else x
theorem night_of {s:au} {n:aA} {rs:List av} (hc:(jV s).2.2=0) (hg:0≤n.bK∧n.bK < s.ak.length) (hx:-30000≤n.pos.x∧n.pos.x≤30000) (hy:-30000≤n.pos.y∧n.pos.y≤30000) (hw:0≤n.dc∧n.dc≤31) (hws:1≤n.bX∧n.bX≤32)
  (h8:rs.length≤8) (hr:∀ r ∈ rs,fN r.pos 30000=true):(aD s n rs).2=0:=by
 rw [GD]
 refine ⟨?_,h8,hr⟩
 unfold aD
 have hn:¬ 0≤lY mL ([]:List av):=by decide
 rw [if_neg (by omega),if_neg (by simp [aX];omega),if_neg (by simp [aX];omega),if_neg (by decide),if_neg hn]
theorem chk_zero {s:au} {n:aA} {rs:List av} (h:(aD s n rs).2=0):(jV s).2.2=0:=by
 refine Classical.byContradiction fun hc=>?_
 unfold aD at h
 rw [if_pos hc] at h
 exact hc h
theorem turn_night {s:au} {n:aA} {rs:List av} (h:(aD s n rs).2=0):(aD s (turnN n) (rs.map turnR)).2=0:=by
 have ho:=cc h
 have h1:=ho.bK
 have h2:=ho.x
 have h3:=ho.y
 have h4:=ho.dc
 have h5:=ho.bX
 have h6:=ho.JL
 refine night_of (chk_zero h) h1 h3 (show -30000≤-n.pos.x∧-n.pos.x≤30000 by omega) (show 0≤(n.dc+8) % 32∧(n.dc+8) % 32≤31 by omega) h5 (by rw [List.length_map];exact h6) fun r hr=>?_
 obtain ⟨q,hq,rfl⟩:=List.mem_map.1 hr
 have h7:=ho.rx q hq
 have h8:=ho.ry q hq
 exact Dc (show -30000≤q.pos.y∧q.pos.y≤30000 by omega) (show -30000≤-q.pos.x∧-q.pos.x≤30000 by omega)
theorem turn_met (n:aA) (p:Pt) {x:Int × Int} (aB:Bool) (hx:qQ aB x):jn (turnN n) (turnPt p) (turnT aB x) aB=jn n p x aB:=by
 have e:-p.x - -n.pos.x=-(p.x - n.pos.x):=by omega
 unfold jn CI turnT turnN turnPt
 dsimp only
 rw [e]
 cases aB with
 | true =>
  unfold qQ at hx
  rw [if_pos rfl] at hx
  rw [if_pos rfl,if_pos rfl]
  exact heard_turn _ _ _ (by omega)
 | false =>
  rw [if_neg (by simp),if_neg (by simp)]
  exact seen_turn _ _ _ _
theorem turn_all {s:au} {n:aA} {rs:List av} (ho:jW s n rs) (aB:Bool):oa s (turnN n) aB=(oa s n aB).map (turnT aB):=by
 cases aB with
 | false =>
  rw [show turnT false=id from rfl,List.map_id]
  rfl
 | true =>
  have hw:=ho.dc
  have hs:=ho.bX
  show fc s (turnN n)=(fc s n).map (turnT true)
  unfold fc jz
  rw [List.map_flatMap]
  congr 1
  funext a
  rw [List.map_map]
  unfold dB
  rw [List.map_map,List.map_map]
  have e:bh ⟨(turnN n).dc,(turnN n).dc+(turnN n).bX - 1⟩=bh ⟨n.dc,n.dc+n.bX - 1⟩:=by
   unfold bh turnN
   dsimp only
   omega
  rw [e]
  refine List.map_congr_left fun i _=>?_
  show (a,((n.dc+8) % 32+(i:Int)) % 32)=(a,((n.dc+(i:Int)) % 32+8) % 32)
  congr 1
  omega
theorem turn_truths {s:au} {n:aA} {rs:List av} (ho:jW s n rs) (aB:Bool):aJ s (turnN n) (rs.map turnR) aB=(aJ s n rs aB).map (turnT aB):=by
 unfold aJ
 rw [turn_all ho,List.filter_map]
 congr 1
 refine List.filter_congr fun x hx=>?_
 have hb:=ho.LL hx
 show (rs.map turnR).all (sQ aB (turnN n) (turnT aB x))=rs.all (sQ aB n x)
 rw [List.all_map]
 congr 1
 funext r
 show (!((turnR r).aB == aB) || (jn (turnN n) (turnR r).pos (turnT aB x) aB == (turnR r).yes))=(!(r.aB == aB) || (jn n r.pos x aB == r.yes))
 have:=turn_met n r.pos aB hb
 rw [show (turnR r).pos=turnPt r.pos from rfl,this]
 rfl
theorem ends_map (v:Int × Int→Int) (f:Int × Int→Int × Int) (L:List (Int × Int)):aH v (L.map f)=aH (fun x=>v (f x)) L:=by
 unfold aH
 rw [List.foldl_map]
 rfl
theorem turn_fst (aB:Bool):(fun x=>(turnT aB x).1)=Prod.fst:=by
 funext x
 unfold turnT
 cases aB <;> rfl
theorem turn_err {s:au} {n:aA} {rs:List av} (h:(aD s n rs).2=0) (aB:Bool):qd s (turnN n) (rs.map turnR) aB=qd s n rs aB:=by
 unfold qd
 rw [turn_night h,h,turn_truths (cc h)]
 simp only [List.map_eq_nil_iff]
theorem turn_clear {s:au} {n:aA} {rs:List av} (h:(aD s n rs).2=0):iR s (turnN n) (rs.map turnR)=iR s n rs:=by
 have e:aJ s (turnN n) (rs.map turnR) false=aJ s n rs false:=by
  rw [turn_truths (cc h),show turnT false=id from rfl,List.map_id]
 unfold iR
 rw [←mQ,←mQ,e,turn_night h,h]
theorem turn_winds {s:au} {n:aA} {rs:List av} (h:(aD s n rs).2=0) :
  ∃ (A:Span) (W Y:List Int) (e:Int),fy s n rs=(A,W,e)∧fy s (turnN n) (rs.map turnR)=(A,Y,e)∧W.length=Y.length∧(∀ w ∈ W,(0≤w∧w≤31)∧(w+8) % 32 ∈ Y)∧W.length≤32:=by
 have he:=turn_err h true
 have ht:=turn_truths (cc h) true
 by_cases h1:aJ s n rs true=[]
 ·refine ⟨(aH Prod.fst (aJ s n rs true)).1,[],[],9,?_,?_,rfl,fun w hw=>(by cases hw),Nat.zero_le _⟩
  ·unfold fy
   rw [←wV,h,if_neg (by simp),h1,mU];rfl
  ·unfold fy
   rw [←wV,turn_night h,if_neg (by simp),ht,h1]
   rfl
 ·have e0:qd s n rs true=0:=zn.2 ⟨h,h1⟩
  rw [e0] at he
  refine ⟨_,_,aW ((aJ s n rs true).map (turnT true)) 32,0,(I8 s n rs).2.1 e0,?_,?_,fun w hw=>?_,pU _ _⟩
  ·rw [(I8 s (turnN n) (rs.map turnR)).2.1 he,ht,ends_map,turn_fst]
  ·have hbL:∀ x ∈ aJ s n rs true,0≤x.2∧x.2≤31:=fun x hx=>((cc h).hb x (iV.1 hx).1).2
   generalize aJ s n rs true=L at *
   unfold aW
   rw [List.length_map,List.length_map,←List.countP_eq_length_filter,←List.countP_eq_length_filter]
   have hp:((List.range 32).map fun w=>(w+8) % 32).Perm (List.range 32):=by decide
   rw [←hp.countP_eq (fun w:Nat=>decide (0 < ir (L.map (turnT true)) w)),List.countP_map]
   refine List.countP_congr fun w hw=>?_
   rw [List.mem_range] at hw
   have hc:∀ (M:List (Int × Int)) (k:Nat),decide (0 < ir M k)=true ↔ ∃ x ∈ M,x.2=(k:Int):=by
    intro M k
    rw [decide_eq_true_eq]
    unfold ir
    rw [Int.natCast_pos,List.length_pos_iff_exists_mem]
    exact exists_congr fun x=>by rw [List.mem_filter,beq_iff_eq]
   show decide (0 < ir L w)=true ↔ decide (0 < ir (L.map (turnT true)) ((w+8) % 32))=true
   rw [hc,hc]
   constructor
   ·rintro ⟨x,hx,e⟩
    refine ⟨turnT true x,List.mem_map.2 ⟨x,hx,rfl⟩,?_⟩
    show (x.2+8) % 32=_
    omega
   ·rintro ⟨y,hy,e⟩
    obtain ⟨x,hx,rfl⟩:=List.mem_map.1 hy
    have e:(x.2+8) % 32=(((w+8) % 32:Nat):Int):=e
    have:=hbL x hx
    exact ⟨x,hx,by omega⟩
  ·rw [GF] at hw ⊢
   obtain ⟨hw1,x,hx,rfl⟩:=hw
   exact ⟨hw1,by omega,turnT true x,List.mem_map.2 ⟨x,hx,rfl⟩,rfl⟩
theorem turn_could {s:au} {n:aA} {rs:List av} {p:Pt} {aB:Bool} (h:(aD s n rs).2=0) (hp:fN p 30000=true):iy s (turnN n) (rs.map turnR) (turnPt p) aB=iy s n rs p aB:=by
 have hb:=of_withB hp
 have hp2:fN (turnPt p) 30000=true:=Dc hb.2 (show -30000≤-p.x∧-p.x≤30000 by omega)
 rw [za h hp,za (turn_night h) hp2,turn_truths (cc h)]
 have hbn:∀ x ∈ aJ s n rs aB,qQ aB x:=fun x hx=>(cc h).LL (iV.1 hx).1
 generalize aJ s n rs aB=L at *
 simp only [List.map_eq_nil_iff]
 have:k6 (fun x=>jn (turnN n) (turnPt p) x aB) (L.map (turnT aB))=k6 (fun x=>jn n p x aB) L:=by
  unfold k6
  rw [List.filter_map,List.length_map]
  congr 1
  exact List.filter_congr fun x hx=>turn_met n p aB (hbn x hx)
 rw [this,List.length_map]
end Go.Proofs.YtichbhmnhkegiaaGreat
open Go Go.RM Go.AirLaw
namespace Go.Proofs.YtichbhmnhkegiaaGreat
set_option maxRecDepth 100000
set_option maxHeartbeats 4000000
noncomputable def turned1:Code:=Gj (Gj (Gj (Gj (Gj (Gj (Gj (Tryz.f16.body.getD .skip)))))))
noncomputable def turned2:Code:=Gj (Gj (Gj (Gj (Gj turned1))))
noncomputable def turned3:Code:=Gj turned2
theorem t3_inb (A B:AB) (hA:AB.cJ 3 A=true) (hB:AB.cJ 3 B=true) (L:List av) (v:Nat):([A,B,.cells (eV L) 4 v]:List AB).all (AB.cJ 3)=true:=by
 have h:AB.cJ 3 (.cells (eV L) 4 v)=true:=zg 3 L
 simp only [List.all_cons,List.all_nil,h,hA,hB,Bool.and_true]
theorem turned3_c (s:au) (hs:s.Ok) (n:aA) (rs:List av) (f:Bool) (a b:Int) (ha:0≤a∧a≤65535) (hb:0≤b∧b≤65535) (h0:(aD s n rs).2=0) :
  ax TT TB false turned3 ⟨aF [(3,.pt (ay s) 0),(4,.pt [ai n.pos.x,ai n.pos.y,ai n.bK,ai n.dc,ai n.bX,.sl (rs.map aj) f] 0),(5,.pt [ob a,ob b] 0),(7,.ptr 0 0 0),(8,.ptr 1 0 0),(9,.sl ((rs.map turnR).map aj) false)],[.cells (aC n) 0 0,.cells (aC (turnN n)) 0 0],aV.none,false,0⟩ (KU TT Tryz.f16.results.toList (BB true)):=by
 have aw:=CR
 have ho:=cc h0
 have hnx:=ho.x
 have hny:=ho.y
 have hr:rs.length≤maxLen:=by have:=ho.JL;unfold maxLen;omega
 have hr2:(rs.map turnR).length≤maxLen:=by rw [List.length_map];exact hr
 have sp:=IW false n.pos a b (by omega) (by omega) ha hb
 have hpb:=xb n.pos a b
 have hwp:fN (mX n.pos a b) 30000=true:=Dc hpb.1 hpb.2
 generalize mX n.pos a b=p at *
 have qt:=lquarter_c true p (by omega)
 rw [show (⟨p.y,-p.x⟩:Pt)=turnPt p from rfl] at qt
 clear hnx hny hpb
 refine RM.fm (mu:=fun _=>false) ?_
 repeat' (first |refine u1 ?_ |refine u2 ?_ |fail)
 refine ax.seq ?_
 refine RM.fm (mu:=fun _=>false) ?_
 repeat' (first |refine u1 ?_ |refine u2 ?_ |fail)
 refine ax.aK (ah.to (l:=[(3,.pt (ay s) 0),(4,.pt [ai n.pos.x,ai n.pos.y,ai n.bK,ai n.dc,ai n.bX,.sl (rs.map aj) f] 0),(5,.pt [ob a,ob b] 0),(7,.ptr 0 0 0),(8,.ptr 1 0 0),(9,.sl ((rs.map turnR).map aj) false),(25,.ptr 2 0 0),(26,ai ((0:Nat):Int))]) (hp:=[.cells (aC n) 0 0,.cells (aC (turnN n)) 0 0,.cells (oG p) 0 0]) 3 rfl ⟨rfl,rfl,rfl,rfl,rfl,rfl,rfl,rfl,trivial⟩ (Nat.zero_le _) rfl rfl) ?_
 refine ax.block ?_
 refine ax.loop (fun i:Nat=>i≤2) (fun i=>⟨aF [(3,.pt (ay s) 0),(4,.pt [ai n.pos.x,ai n.pos.y,ai n.bK,ai n.dc,ai n.bX,.sl (rs.map aj) f] 0),(5,.pt [ob a,ob b] 0),(7,.ptr 0 0 0),(8,.ptr 1 0 0),(9,.sl ((rs.map turnR).map aj) false),(25,.ptr 2 0 0),(26,ai (i:Nat))],[.cells (aC n) 0 0,.cells (aC (turnN n)) 0 0,.cells (oG p) 0 0],aV.none,false,0⟩) (fun i=>2 - i) ?_ 0 (by decide)
 intro i hi
 refine aa (mu:=fun _=>false) ?_
 match i,hi with
 | 0,_ =>
  have w1:=vj false s hs n rs f hr p false
  have w2:=vj true s hs (turnN n) (rs.map turnR) false hr2 (turnPt p) false
  rw [turn_could h0 hwp] at w2
  generalize iy s n rs p false=z at *
  obtain ⟨z1,z2⟩:=z
  have d1:(!decide (z1=z1))=false:=by simp
  have d2:(!decide (z2=z2))=false:=by simp
  repeat' (first |refine u1 ?_ |refine u2 ?_ |fail)
  exact ⟨1,by decide,(by dsimp only;omega),ah.to 3 rfl ⟨rfl,rfl,rfl,rfl,rfl,rfl,rfl,rfl,trivial⟩ (Nat.zero_le _) rfl rfl⟩
 | 1,_ =>
  have w1:=vj false s hs n rs f hr p true
  have w2:=vj true s hs (turnN n) (rs.map turnR) false hr2 (turnPt p) true
  rw [turn_could h0 hwp] at w2
  generalize iy s n rs p true=z at *
  obtain ⟨z1,z2⟩:=z
  have d1:(!decide (z1=z1))=false:=by simp
  have d2:(!decide (z2=z2))=false:=by simp
  repeat' (first |refine u1 ?_ |refine u2 ?_ |fail)
  exact ⟨2,by decide,(by dsimp only;omega),ah.to 3 rfl ⟨rfl,rfl,rfl,rfl,rfl,rfl,rfl,rfl,trivial⟩ (Nat.zero_le _) rfl rfl⟩
 | 2,_ =>
  repeat' (first |refine u1 ?_ |refine u2 ?_ |fail)
  refine aa (mu:=fun _=>false) ?_
  repeat' (first |refine u1 ?_ |refine u2 ?_ |fail)
  exact ⟨[_],⟨Fz.deep rfl,trivial⟩,rfl⟩
theorem turned2_c (s:au) (hs:s.Ok) (n:aA) (rs:List av) (f:Bool) (a b:Int) (ha:0≤a∧a≤65535) (hb:0≤b∧b≤65535) (h0:(aD s n rs).2=0) (W Y:List Int) (hW:W.length≤32) (hY:Y.length≤32) (hsub:∀ w ∈ W,(0≤w∧w≤31)∧(w+8) % 32 ∈ Y) :
  ax TT TB false turned2 ⟨aF [(3,.pt (ay s) 0),(4,.pt [ai n.pos.x,ai n.pos.y,ai n.bK,ai n.dc,ai n.bX,.sl (rs.map aj) f] 0),(5,.pt [ob a,ob b] 0),(7,.ptr 0 0 0),(8,.ptr 1 0 0),(9,.sl ((rs.map turnR).map aj) false),(19,.sl (W.map eI) false),(22,.sl (Y.map eI) false)],[.cells (aC n) 0 0,.cells (aC (turnN n)) 0 0],aV.none,false,0⟩ (KU TT Tryz.f16.results.toList (BB true)):=by
 have eW:((W.map eI).length:Int)=W.length:=by simp
 refine ax.seq ?_
 refine RM.fm (mu:=fun _=>false) ?_
 repeat' (first |refine u1 ?_ |refine u2 ?_ |fail)
 refine ax.aK (ah.to (l:=[(3,.pt (ay s) 0),(4,.pt [ai n.pos.x,ai n.pos.y,ai n.bK,ai n.dc,ai n.bX,.sl (rs.map aj) f] 0),(5,.pt [ob a,ob b] 0),(7,.ptr 0 0 0),(8,.ptr 1 0 0),(9,.sl ((rs.map turnR).map aj) false),(19,.sl (W.map eI) false),(22,.sl (Y.map eI) false),(24,ai (0:Nat))]) (hp:=[.cells (aC n) 0 0,.cells (aC (turnN n)) 0 0]) 2 rfl ⟨rfl,rfl,rfl,rfl,rfl,rfl,rfl,rfl,rfl,trivial⟩ (Nat.zero_le _) rfl rfl) ?_
 refine ax.block ?_
 refine ax.loop (fun i:Nat=>i≤W.length) (fun i=>⟨aF [(3,.pt (ay s) 0),(4,.pt [ai n.pos.x,ai n.pos.y,ai n.bK,ai n.dc,ai n.bX,.sl (rs.map aj) f] 0),(5,.pt [ob a,ob b] 0),(7,.ptr 0 0 0),(8,.ptr 1 0 0),(9,.sl ((rs.map turnR).map aj) false),(19,.sl (W.map eI) false),(22,.sl (Y.map eI) false),(24,ai (i:Nat))],[.cells (aC n) 0 0,.cells (aC (turnN n)) 0 0],aV.none,false,0⟩) (fun i=>W.length - i) ?_ 0 (Nat.zero_le _)
 intro i hi
 refine aa (mu:=fun _=>false) ?_
 by_cases hlt:i < W.length
 ·have d1:decide ((i:Int) < ((W.map eI).length:Int))=true:=decide_eq_true (by omega)
  have hat:(W.map eI)[((i:Nat):Int).toNat]?=some (eI W[i]):=bO hlt
  obtain ⟨hw1,hw2⟩:=hsub _ (List.getElem_mem hlt)
  have hh:=Mf false Y false ((W[i]+8) % 32) (by unfold maxLen;omega)
  rw [show (Y.any fun x=>decide (x=(W[i]+8) % 32))=true from List.any_eq_true.2 ⟨_,hw2,decide_eq_true rfl⟩] at hh
  repeat' (first |refine u1 ?_ |refine u2 ?_ |fail)
  exact ⟨i+1,hlt,(by dsimp only;omega),ah.to 2 rfl ⟨rfl,rfl,rfl,rfl,rfl,rfl,rfl,rfl,aR (by simp),trivial⟩ (Nat.zero_le _) rfl rfl⟩
 ·have d1:decide ((i:Int) < ((W.map eI).length:Int))=false:=decide_eq_false (by omega)
  repeat' (first |refine u1 ?_ |refine u2 ?_ |fail)
  refine ax.aK (ah.to (l:=[(3,.pt (ay s) 0),(4,.pt [ai n.pos.x,ai n.pos.y,ai n.bK,ai n.dc,ai n.bX,.sl (rs.map aj) f] 0),(5,.pt [ob a,ob b] 0),(7,.ptr 0 0 0),(8,.ptr 1 0 0),(9,.sl ((rs.map turnR).map aj) false)]) (hp:=[.cells (aC n) 0 0,.cells (aC (turnN n)) 0 0]) 2 rfl ⟨rfl,rfl,rfl,rfl,rfl,rfl,trivial⟩ (Nat.zero_le _) rfl rfl) ?_
  exact turned3_c s hs n rs f a b ha hb h0
theorem turned1_c (s:au) (hs:s.Ok) (n:aA) (rs:List av) (f:Bool) (a b:Int) (ha:0≤a∧a≤65535) (hb:0≤b∧b≤65535) (h0:(aD s n rs).2=0) :
  ax TT TB false turned1 ⟨aF [(3,.pt (ay s) 0),(4,.pt [ai n.pos.x,ai n.pos.y,ai n.bK,ai n.dc,ai n.bX,.sl (rs.map aj) f] 0),(5,.pt [ob a,ob b] 0),(7,.ptr 0 0 0),(8,.ptr 1 0 0),(9,.sl ((rs.map turnR).map aj) false)],[.cells (aC n) 0 0,.cells (aC (turnN n)) 0 0],aV.none,false,0⟩ (KU TT Tryz.f16.results.toList (BB true)):=by
 have ho:=cc h0
 have hr:rs.length≤maxLen:=by have:=ho.JL;unfold maxLen;omega
 have hr2:(rs.map turnR).length≤maxLen:=by rw [List.length_map];exact hr
 have k1:=AE false s hs n rs f hr
 have k2:=AE false s hs (turnN n) (rs.map turnR) false hr2
 rw [turn_clear h0] at k2
 have k3:=AG false s hs n rs f hr
 have k4:=AG false s hs (turnN n) (rs.map turnR) false hr2
 obtain ⟨⟨x1,x2⟩,W,Y,e,e1,e2,hWY,hsub,hW⟩:=turn_winds h0
 rw [e1] at k3
 rw [e2] at k4
 generalize iR s n rs=z at *
 obtain ⟨⟨y1,y2⟩,⟨y3,y4⟩,y5⟩:=z
 have d1:(!(decide (y1=y1) && decide (y2=y2)))=false:=by simp
 have d2:(!(decide (y3=y3) && decide (y4=y4)))=false:=by simp
 have d3:(!decide (y5=y5))=false:=by simp
 have d4:(!(decide (x1=x1) && decide (x2=x2)))=false:=by simp
 have d5:(!decide (((W.map eI).length:Int)=((Y.map eI).length:Int)))=false:=by rw [decide_eq_true (by simp [hWY])];rfl
 have d6:(!decide (e=e))=false:=by simp
 refine RM.fm (mu:=fun _=>false) ?_
 repeat' (first |refine u1 ?_ |refine u2 ?_ |fail)
 refine RM.fm (mu:=fun _=>false) ?_
 repeat' (first |refine u1 ?_ |refine u2 ?_ |fail)
 refine RM.fm (mu:=fun _=>false) ?_
 repeat' (first |refine u1 ?_ |refine u2 ?_ |fail)
 refine RM.fm (mu:=fun _=>false) ?_
 repeat' (first |refine u1 ?_ |refine u2 ?_ |fail)
 refine RM.fm (mu:=fun _=>false) ?_
 repeat' (first |((with_reducible show cI _ _ _ _ _ _ _ _ _);refine MC rfl rfl ?_) |refine u1 ?_ |refine u2 ?_ |fail)
 refine ax.aK (ah.to (l:=[(3,.pt (ay s) 0),(4,.pt [ai n.pos.x,ai n.pos.y,ai n.bK,ai n.dc,ai n.bX,.sl (rs.map aj) f] 0),(5,.pt [ob a,ob b] 0),(7,.ptr 0 0 0),(8,.ptr 1 0 0),(9,.sl ((rs.map turnR).map aj) false),(19,.sl (W.map eI) false),(22,.sl (Y.map eI) false)]) (hp:=[.cells (aC n) 0 0,.cells (aC (turnN n)) 0 0]) 2 rfl ⟨rfl,rfl,rfl,rfl,rfl,rfl,rfl,rfl,trivial⟩ (Nat.zero_le _) rfl rfl) ?_
 exact turned2_c s hs n rs f a b ha hb h0 W Y hW (by omega) hsub
theorem turneds_c (s:au) (hs:s.Ok) (n:aA) (rs:List av) (f:Bool) (hr:rs.length≤maxLen) (a b:Int) (ha:0≤a∧a≤65535) (hb:0≤b∧b≤65535) :
  Pu false 16 [.ag (ay s),.ag (aC n++[.sl (rs.map aj) f]),.ag [ob a,ob b]] (BB true):=by
 have aw:=CR
 have c1:=IV false s hs n rs f hr
 have er:((rs.map aj).length:Int)=rs.length:=by simp
 dsimp only [aC,oG,List.cons_append,List.nil_append]
 refine af.body (fn:=Tryz.f16) rfl rfl rfl rfl ?_
 by_cases h0:(aD s n rs).2=0
 ·rw [decide_eq_true h0] at c1
  have ho:=cc h0
  have h8:=ho.JL
  have hnx:=ho.x
  have hw:=ho.dc
  have qt:=lquarter_c true n.pos (by omega)
  refine RM.fm (mu:=fun _=>false) ?_
  repeat' (first |refine u1 ?_ |refine u2 ?_ |fail)
  refine RM.fm (mu:=fun _=>false) ?_
  repeat' (first |refine u1 ?_ |refine u2 ?_ |fail)
  refine RM.fm (mu:=fun _=>false) ?_
  repeat' (first |refine u1 ?_ |refine u2 ?_ |fail)
  refine RM.fm (mu:=fun _=>false) ?_
  repeat' (first |refine u1 ?_ |refine u2 ?_ |fail)
  refine RM.fm (mu:=fun _=>false) ?_
  repeat' (first |refine u1 ?_ |refine u2 ?_ |fail)
  refine RM.fm (mu:=fun _=>false) ?_
  repeat' (first |refine u1 ?_ |refine u2 ?_ |fail)
  refine ax.seq ?_
  refine RM.fm (mu:=fun _=>false) ?_
  repeat' (first |refine u1 ?_ |refine u2 ?_ |fail)
  refine ax.aK (ah.trans (ah.jw 4) (ah.GI (l:=[(3,.pt (ay s) 0),(4,.pt [ai n.pos.x,ai n.pos.y,ai n.bK,ai n.dc,ai n.bX,.sl (rs.map aj) f] 0),(5,.pt [ob a,ob b] 0),(7,.ptr 0 0 0),(8,.ptr 1 0 0),(9,.bg 2 0 0 0 0),(10,ai (0:Nat))]) (hp:=[.cells (aC n) 0 0,.cells (aC (turnN n)) 0 0,.cells (eV ((rs.take 0).map turnR)) 4 0]) 3 rfl ⟨bG.refl _,bG.refl _,bG.refl _,bG.refl _,bG.refl _,bG.jv,bG.refl _,trivial⟩ (Nat.zero_le _) rfl (t3_inb _ _ rfl rfl _ _))) ?_
  refine ax.block ?_
  refine ax.loop (fun x:Nat × Nat × Nat=>x.1≤rs.length∧(x.2.2=x.1∨x.2.2=x.1+1)) (fun x=>⟨aF [(3,.pt (ay s) 0),(4,.pt [ai n.pos.x,ai n.pos.y,ai n.bK,ai n.dc,ai n.bX,.sl (rs.map aj) f] 0),(5,.pt [ob a,ob b] 0),(7,.ptr 0 0 0),(8,.ptr 1 0 0),(9,.bg 2 x.2.1 0 x.1 x.2.2),(10,ai (x.1:Nat))],[.cells (aC n) 0 0,.cells (aC (turnN n)) 0 0,.cells (eV ((rs.take x.1).map turnR)) 4 x.2.1],aV.none,false,0⟩) (fun x=>rs.length - x.1) ?_ (0,0,0) ⟨Nat.zero_le _,.inl rfl⟩
  rintro ⟨k,v,c⟩ ⟨hk,hcap⟩
  dsimp only at hk hcap
  show ax _ _ _ _ ⟨aF [(3,.pt (ay s) 0),(4,.pt [ai n.pos.x,ai n.pos.y,ai n.bK,ai n.dc,ai n.bX,.sl (rs.map aj) f] 0),(5,.pt [ob a,ob b] 0),(7,.ptr 0 0 0),(8,.ptr 1 0 0),(9,.bg 2 v 0 k c),(10,ai (k:Nat))],[.cells (aC n) 0 0,.cells (aC (turnN n)) 0 0,.cells (eV ((rs.take k).map turnR)) 4 v],aV.none,false,0⟩ _
  refine aa (mu:=fun t=>Nat.beq t 69) ?_
  by_cases hlt:k < rs.length
  ·have d1:decide ((k:Int) < ((rs.map aj).length:Int))=true:=decide_eq_true (by omega)
   have hat:(rs.map aj)[((k:Nat):Int).toNat]?=some (aj rs[k]):=bO hlt
   have hte:=eN (List.getElem?_eq_getElem hlt)
   have hWl:((rs.take k).map turnR).length=k:=by rw [List.length_map,List.length_take];omega
   have hWf:=iU ((rs.take k).map turnR)
   rw [hWl] at hWf
   have hrx:=ho.rx _ (List.getElem_mem hlt)
   have qr:=lquarter_c false rs[k].pos (by omega)
   have hsuc:(rs.take (k+1)).map turnR=(rs.take k).map turnR++[turnR rs[k]]:=by rw [hte,List.map_append];rfl
   generalize rs[k]=r at *
   generalize (rs.take k).map turnR=V at *
   clear hnx hw qt c1 hrx
   repeat' (first |((with_reducible show RM.wpOp _ _ (.call _) _ _ _);refine RM.qJ (cs:=eV V) (n:=k) (els:=[aj (turnR r)]) rfl rfl rfl rfl rfl (fun el hel=>by rw [List.mem_singleton.1 hel];rfl) rfl rfl hWf hcap (by simp only [List.length_singleton];omega) (fun v' c' hc'=>?_)) |refine u1 ?_ |refine u2 ?_ |fail)
   refine ⟨(k+1,v',c'),⟨hlt,hc'⟩,(by dsimp only;omega),?_⟩
   show ah _ ⟨aF [(3,.pt (ay s) 0),(4,.pt [ai n.pos.x,ai n.pos.y,ai n.bK,ai n.dc,ai n.bX,.sl (rs.map aj) f] 0),(5,.pt [ob a,ob b] 0),(7,.ptr 0 0 0),(8,.ptr 1 0 0),(9,.bg 2 v' 0 (k+1) c'),(10,ai ((k+1):Nat))],[.cells (aC n) 0 0,.cells (aC (turnN n)) 0 0,.cells (eV ((rs.take (k+1)).map turnR)) 4 v'],aV.none,false,0⟩
   rw [hsuc]
   exact ah.to 3 (by rw [kU];rfl) ⟨rfl,rfl,rfl,rfl,rfl,rfl,aR (by simp),trivial⟩ (Nat.zero_le _) rfl (t3_inb _ _ rfl rfl _ _)
  ·have d1:decide ((k:Int) < ((rs.map aj).length:Int))=false:=decide_eq_false (by omega)
   have hkr:k=rs.length:=by omega
   subst hkr
   rw [List.take_length]
   repeat' (first |refine u1 ?_ |refine u2 ?_ |fail)
   have hml:(rs.map turnR).length=rs.length:=List.length_map _
   refine ax.aK (ah.giveUp 2 (l:=[(3,.pt (ay s) 0),(4,.pt [ai n.pos.x,ai n.pos.y,ai n.bK,ai n.dc,ai n.bX,.sl (rs.map aj) f] 0),(5,.pt [ob a,ob b] 0),(7,.ptr 0 0 0),(8,.ptr 1 0 0),(9,.sl ((rs.map turnR).map aj) false)]) (hp:=[.cells (aC n) 0 0,.cells (aC (turnN n)) 0 0,.gone]) rfl (Nat.zero_le _) (w7 _) ⟨.same rfl,.same rfl,.same rfl,.same rfl,.same rfl,.row 4 (by rw [iU,hml];omega) (by rw [List.length_map,hml]) (fun el hel=>by obtain ⟨x,_,rfl⟩:=List.mem_map.1 hel;rfl) (by rw [List.drop_zero,List.take_of_length_le (by rw [iU,hml];omega)]) (fun h=>Bool.noConfusion h),trivial⟩ rfl rfl) ?_
   refine ax.aK (ah.to (l:=[(3,.pt (ay s) 0),(4,.pt [ai n.pos.x,ai n.pos.y,ai n.bK,ai n.dc,ai n.bX,.sl (rs.map aj) f] 0),(5,.pt [ob a,ob b] 0),(7,.ptr 0 0 0),(8,.ptr 1 0 0),(9,.sl ((rs.map turnR).map aj) false)]) (hp:=[.cells (aC n) 0 0,.cells (aC (turnN n)) 0 0]) 2 rfl ⟨rfl,rfl,rfl,rfl,rfl,rfl,trivial⟩ (Nat.zero_le _) rfl rfl) ?_
   exact turned1_c s hs n rs f a b ha hb h0
 ·rw [decide_eq_false h0] at c1
  refine aa (mu:=fun _=>false) ?_
  repeat' (first |refine u1 ?_ |refine u2 ?_ |fail)
  exact ⟨[_],⟨Fz.deep rfl,trivial⟩,rfl⟩
end Go.Proofs.YtichbhmnhkegiaaGreat
open Go Go.RM Go.AirLaw
namespace Go.Proofs.YtichbhmnhkegiaaGreat
set_option maxRecDepth 100000
set_option maxHeartbeats 4000000
def flipR (r:av):av:=⟨r.pos,r.aB,!r.yes⟩
def lieTo (o:Nat) (R:List av):Nat→List av
 | 0=>R
 | k+1=>if bitU o k=true then (lieTo o R k).modify k flipR else lieTo o R k
theorem lieTo_len (o:Nat) (R:List av):∀ k,(lieTo o R k).length=R.length
 | 0=>rfl
 | k+1=>by
  rw [lieTo]
  split
  ·rw [List.length_modify,lieTo_len o R k]
  ·exact lieTo_len o R k
theorem lieTo_at (o:Nat) (R:List av) (i:Nat):∀ k,(lieTo o R k)[i]?=R[i]?.map fun r=>if (decide (i < k) && bitU o i)=true then flipR r else r
 | 0=>by
  rw [lieTo]
  cases R[i]? <;> simp
 | k+1=>by
  have ih:=lieTo_at o R i k
  rw [lieTo]
  by_cases hb:bitU o k=true
  ·rw [if_pos hb,List.getElem?_modify,ih]
   by_cases hik:k=i
   ·subst hik
    cases R[k]? <;> simp [hb]
   ·have:decide (i < k+1)=decide (i < k):=decide_eq_decide.2 (by omega)
    rw [this]
    cases R[i]? <;> simp [hik]
  ·rw [if_neg hb,ih]
   by_cases hik:i=k
   ·subst hik
    simp [hb]
   ·have:decide (i < k+1)=decide (i < k):=decide_eq_decide.2 (by omega)
    rw [this]
theorem liars_law {s:au} {n:aA} {x:iA} (h0:(aD s n []).2=0) (o:Nat) :
  (aD s n (lieTo o (C7 s n x) (C7 s n x).length)).2=0∧∀ tl th,uF s n (lieTo o (C7 s n x) (C7 s n x).length) tl th →
   (gJ n (lieTo o (C7 s n x) (C7 s n x).length) tl th).length≤(aO (bitU o) 0 (C7 s n x).length).length:=by
 have ho:=cc h0
 have ht0:=Eo (x:=x) h0
 have htl:=xm ho x false
 have hth:=xm ho x true
 generalize C7 s n x=R at *
 have hlen:=lieTo_len o R R.length
 have hat:∀ i,(lieTo o R R.length)[i]?=R[i]?.map fun r=>if (decide (i < R.length) && bitU o i)=true then flipR r else r:=fun i=>lieTo_at o R i R.length
 generalize lieTo o R R.length=L at *
 refine ⟨?_,fun tl th hb=>?_⟩
 ·rw [GD] at ht0 ⊢
  refine ⟨h0,by rw [hlen];exact ht0.2.1,fun r hr=>?_⟩
  obtain ⟨i,hi⟩:=List.getElem?_of_mem hr
  rw [hat i] at hi
  cases hR:R[i]? with
  | none=>rw [hR] at hi;cases hi
  | some q =>
   rw [hR] at hi
   have hq:=ht0.2.2 q (List.mem_of_getElem? hR)
   rw [←Option.some.inj hi]
   split
   ·exact hq
   ·exact hq
 ·have hf:mW s n L (aO (bitU o) 0 L.length)=true:=by
   rw [C2]
   have key:∀ (aB:Bool) (t:Int × Int),t ∈ aJ s n R aB→∀ i,i < L.length→bL aB n L t i=true→bitU o i=true:=by
    intro aB t ht i hi hm
    cases hb2:bitU o i with
    | true=>rfl
    | false =>
     have hi2:i < R.length:=by omega
     unfold bL at hm
     rw [hat i,List.getElem?_eq_getElem hi2] at hm
     simp [hb2,(iV.1 ht).2 _ (List.getElem_mem hi2)] at hm
   intro k hk
   match k,hk with
   | 0,_=>exact ⟨_,(iV.1 htl).1,key false _ htl⟩
   | 1,_=>exact ⟨_,(iV.1 hth).1,key true _ hth⟩
  have:=C3 hb (bitU o) hf
  unfold gv at this
  rw [←hlen]
  omega
theorem flatR_set:∀ (L:List av) (i:Nat) (b:Bool),i < L.length→dG (eV L) [BB b] (i * 4+3)=eV (L.modify i fun r=>⟨r.pos,r.aB,b⟩)
 | r :: L,0,b,_=>rfl
 | r :: L,i+1,b,h=>by
  have ih:=flatR_set L i b (by simpa using h)
  show dG (aj r++eV L) [BB b] ((i+1) * 4+3)=aj r++eV (L.modify i _)
  rw [←ih,show (i+1) * 4+3=(i * 4+3)+4 by omega]
  rfl
theorem flatR_yes:∀ (L:List av) (i:Nat) (h:i < L.length),(eV L)[i * 4+3]?=some (BB L[i].yes)
 | r :: L,0,_=>rfl
 | r :: L,i+1,h=>by
  have ih:=flatR_yes L i (by simpa using h)
  rw [show (i+1) * 4+3=(i * 4+3)+4 by omega]
  exact ih
end Go.Proofs.YtichbhmnhkegiaaGreat
