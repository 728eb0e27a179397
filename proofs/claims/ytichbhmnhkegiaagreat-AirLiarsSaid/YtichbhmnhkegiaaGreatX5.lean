/-
  Contracts of the program's functions and of the document's. Lemmas alone; their conditions stand in them.
-/
import Derived.Test.YtichbhmnhkegiaaGreatX1
import Derived.Test.YtichbhmnhkegiaaGreatK16
import Derived.Test.YtichbhmnhkegiaaGreatK21
import Derived.Test.YtichbhmnhkegiaaGreatK20
import Derived.Test.YtichbhmnhkegiaaGreatA2
import Derived.Test.YtichbhmnhkegiaaGreatX4
open Go Go.RM Go.AirLaw
namespace Go.Proofs.YtichbhmnhkegiaaGreat
set_option maxRecDepth 100000
set_option maxHeartbeats 4000000
theorem truths_sub {s:au} {n:aA} {rs:List av} {r:av} {aB:Bool} {x:Int × Int} (h:x ∈ aJ s n (rs++[r]) aB):x ∈ aJ s n rs aB:=by
 rw [iV] at h ⊢
 exact ⟨h.1,fun q hq=>h.2 q (List.mem_append_left _ hq)⟩
theorem night_less {s:au} {n:aA} {rs:List av} {r:av} (h:(aD s n (rs++[r])).2=0):(aD s n rs).2=0:=by
 rw [GD] at h ⊢
 refine ⟨h.1,?_,fun q hq=>h.2.2 q (List.mem_append_left _ hq)⟩
 have:=h.2.1
 rw [List.length_append] at this
 omega
theorem ends_sub {v:Int × Int→Int} {L M:List (Int × Int)} (hM:M ≠ []) (h:∀ x ∈ M,x ∈ L):(aH v L).1.lo≤(aH v M).1.lo∧(aH v M).1.hi≤(aH v L).1.hi:=by
 obtain ⟨⟨x,hx,e1⟩,⟨y,hy,e2⟩,_⟩:=gS v hM
 have hs:=(gS v (List.ne_nil_of_mem (h x hx))).2.2
 have h1:=hs x (h x hx)
 have h2:=hs y (h y hy)
 omega
theorem errT_less {s:au} {n:aA} {rs:List av} {r:av} {aB:Bool} (h:qd s n (rs++[r]) aB=0):qd s n rs aB=0:=by
 rw [zn] at h ⊢
 obtain ⟨x,hx⟩:=List.exists_mem_of_ne_nil _ h.2
 exact ⟨night_less h.1,List.ne_nil_of_mem (truths_sub hx)⟩
theorem could_more {s:au} {n:aA} {rs:List av} {r:av} {p:Pt} {aB:Bool} (h0:(aD s n (rs++[r])).2=0) (hp:fN p 30000=true) :
  iy s n (rs++[r]) p aB=(0,9)∨∃ j m,iy s n (rs++[r]) p aB=(m,0)∧iy s n rs p aB=(j,0)∧(j=1∨m=j):=by
 rw [za h0 hp]
 by_cases hL:aJ s n (rs++[r]) aB=[]
 ·rw [if_pos hL];exact .inl rfl
 ·rw [if_neg hL]
  obtain ⟨x,hx⟩:=List.exists_mem_of_ne_nil _ hL
  rw [za (night_less h0) hp,if_neg (List.ne_nil_of_mem (truths_sub hx))]
  refine .inr ⟨_,_,rfl,rfl,?_⟩
  have hl:(aJ s n (rs++[r]) aB).length ≠ 0:=fun h=>hL (List.length_eq_zero_iff.1 h)
  rcases Km (k6 (fun x=>jn n p x aB) (aJ s n rs aB)) (aJ s n rs aB).length with h|h|h
  ·have ha:=Kn (GG h)
   have:k6 (fun x=>jn n p x aB) (aJ s n (rs++[r]) aB)=(aJ s n (rs++[r]) aB).length:=by
    unfold k6
    rw [List.length_filter_eq_length_iff]
    exact fun y hy=>ha y (truths_sub hy)
   rw [h,this]
   refine .inr ?_
   unfold nY
   rw [if_neg hl,if_pos rfl]
  ·have ha:=Ja (Dd h)
   have:k6 (fun x=>jn n p x aB) (aJ s n (rs++[r]) aB)=0:=by
    unfold k6
    rw [List.length_eq_zero_iff,List.filter_eq_nil_iff]
    exact fun y hy=>by rw [ha y (truths_sub hy)];decide
   rw [h,this]
   exact .inr rfl
  ·exact .inl h
theorem winds_sub {s:au} {n:aA} {rs:List av} {r:av} {w:Int} (h:w ∈ (fy s n (rs++[r])).2.1):w ∈ (fy s n rs).2.1:=by
 by_cases he:qd s n (rs++[r]) true=0
 ·rw [(I8 s n (rs++[r])).2.1 he] at h
  rw [(I8 s n rs).2.1 (errT_less he)]
  dsimp only at h ⊢
  rw [GF] at h ⊢
  obtain ⟨h1,x,hx,h2⟩:=h
  exact ⟨h1,x,truths_sub hx,h2⟩
 ·rw [(I8 s n (rs++[r])).2.2 he] at h
  cases h
noncomputable def more1:Code:=Gj (Gj (Gj (Gj (Gj (Gj (Gj (Tryz.f11.body.getD .skip)))))))
noncomputable def more2:Code:=Gj (Gj (Gj more1))
noncomputable def more3:Code:=Gj more2
theorem more3_c (s:au) (hs:s.Ok) (n:aA) (rs:List av) (f:Bool) (hr:rs.length * 24≤140737488351232) (r:av) (a b:Int) (ha:0≤a∧a≤65535) (hb:0≤b∧b≤65535) (h0:(aD s n (rs++[r])).2=0) :
  ax TT TB false more3 ⟨aF [(3,.pt (ay s) 0),(5,.pt [ai r.pos.x,ai r.pos.y,BB r.aB,BB r.yes,ob a,ob b] 0),(7,.ptr 0 0 0),(8,.sl (rs.map aj) f),(9,.sl ((rs++[r]).map aj) false)],[.cells (aC n) 0 0],aV.none,false,0⟩ (KU TT Tryz.f11.results.toList (BB true)):=by
 have aw:=CR
 have ho:=cc h0
 have hnx:=ho.x
 have hny:=ho.y
 have hr2:(rs++[r]).length≤maxLen:=by have:=ho.JL;unfold maxLen;omega
 have hr1:rs.length≤maxLen:=by unfold maxLen;omega
 have sp:=IW false n.pos a b (by omega) (by omega) ha hb
 have hpb:=xb n.pos a b
 have hwp:fN (mX n.pos a b) 30000=true:=Dc hpb.1 hpb.2
 generalize mX n.pos a b=p at *
 clear hnx hny hpb
 refine RM.fm (mu:=fun _=>false) ?_
 repeat' (first |refine u1 ?_ |refine u2 ?_ |fail)
 refine ax.seq ?_
 refine RM.fm (mu:=fun _=>false) ?_
 repeat' (first |refine u1 ?_ |refine u2 ?_ |fail)
 refine ax.aK (ah.to (l:=[(3,.pt (ay s) 0),(7,.ptr 0 0 0),(8,.sl (rs.map aj) f),(9,.sl ((rs++[r]).map aj) false),(23,.ptr 1 0 0),(24,ai ((0:Nat):Int))]) (hp:=[.cells (aC n) 0 0,.cells (oG p) 0 0]) 2 rfl ⟨rfl,rfl,rfl,rfl,rfl,rfl,trivial⟩ (Nat.zero_le _) rfl rfl) ?_
 refine ax.block ?_
 refine ax.loop (fun i:Nat=>i≤2) (fun i=>⟨aF [(3,.pt (ay s) 0),(7,.ptr 0 0 0),(8,.sl (rs.map aj) f),(9,.sl ((rs++[r]).map aj) false),(23,.ptr 1 0 0),(24,ai (i:Nat))],[.cells (aC n) 0 0,.cells (oG p) 0 0],aV.none,false,0⟩) (fun i=>2 - i) ?_ 0 (by decide)
 intro i hi
 refine aa (mu:=fun _=>false) ?_
 match i,hi with
 | 0,_ =>
  have w1:=vj false s hs n rs f hr1 p false
  have w2:=vj false s hs n (rs++[r]) false hr2 p false
  rcases could_more (aB:=false) h0 hwp with hc|⟨k,m,hc,hc2,hkm⟩
  ·rw [hc] at w2
   generalize iy s n rs p false=z at *
   repeat' (first |refine u1 ?_ |refine u2 ?_ |fail)
   exact ⟨1,by decide,(by dsimp only;omega),ah.to 2 rfl ⟨rfl,rfl,rfl,rfl,rfl,rfl,trivial⟩ (Nat.zero_le _) rfl rfl⟩
  ·rw [hc] at w2
   rw [hc2] at w1
   by_cases hk:k=1
   ·have d1:(!decide (k=1))=false:=by rw [decide_eq_true hk];rfl
    repeat' (first |refine u1 ?_ |refine u2 ?_ |fail)
    exact ⟨1,by decide,(by dsimp only;omega),ah.to 2 rfl ⟨rfl,rfl,rfl,rfl,rfl,rfl,trivial⟩ (Nat.zero_le _) rfl rfl⟩
   ·have d1:(!decide (k=1))=true:=by rw [decide_eq_false hk];rfl
    have d2:(!decide (m=k))=false:=by rw [decide_eq_true (by omega)];rfl
    repeat' (first |refine u1 ?_ |refine u2 ?_ |fail)
    exact ⟨1,by decide,(by dsimp only;omega),ah.to 2 rfl ⟨rfl,rfl,rfl,rfl,rfl,rfl,trivial⟩ (Nat.zero_le _) rfl rfl⟩
 | 1,_ =>
  have w1:=vj false s hs n rs f hr1 p true
  have w2:=vj false s hs n (rs++[r]) false hr2 p true
  rcases could_more (aB:=true) h0 hwp with hc|⟨k,m,hc,hc2,hkm⟩
  ·rw [hc] at w2
   generalize iy s n rs p true=z at *
   repeat' (first |refine u1 ?_ |refine u2 ?_ |fail)
   exact ⟨2,by decide,(by dsimp only;omega),ah.to 2 rfl ⟨rfl,rfl,rfl,rfl,rfl,rfl,trivial⟩ (Nat.zero_le _) rfl rfl⟩
  ·rw [hc] at w2
   rw [hc2] at w1
   by_cases hk:k=1
   ·have d1:(!decide (k=1))=false:=by rw [decide_eq_true hk];rfl
    repeat' (first |refine u1 ?_ |refine u2 ?_ |fail)
    exact ⟨2,by decide,(by dsimp only;omega),ah.to 2 rfl ⟨rfl,rfl,rfl,rfl,rfl,rfl,trivial⟩ (Nat.zero_le _) rfl rfl⟩
   ·have d1:(!decide (k=1))=true:=by rw [decide_eq_false hk];rfl
    have d2:(!decide (m=k))=false:=by rw [decide_eq_true (by omega)];rfl
    repeat' (first |refine u1 ?_ |refine u2 ?_ |fail)
    exact ⟨2,by decide,(by dsimp only;omega),ah.to 2 rfl ⟨rfl,rfl,rfl,rfl,rfl,rfl,trivial⟩ (Nat.zero_le _) rfl rfl⟩
 | 2,_ =>
  repeat' (first |refine u1 ?_ |refine u2 ?_ |fail)
  refine aa (mu:=fun _=>false) ?_
  repeat' (first |refine u1 ?_ |refine u2 ?_ |fail)
  exact ⟨[_],⟨Fz.deep rfl,trivial⟩,rfl⟩
theorem more2_c (s:au) (hs:s.Ok) (n:aA) (rs:List av) (f:Bool) (hr:rs.length * 24≤140737488351232) (r:av) (a b:Int) (ha:0≤a∧a≤65535) (hb:0≤b∧b≤65535) (h0:(aD s n (rs++[r])).2=0) (W Y:List Int) (hW:W.length≤1000) (hY:Y.length≤1000) (hsub:∀ w ∈ Y,w ∈ W) :
  ax TT TB false more2 ⟨aF [(3,.pt (ay s) 0),(5,.pt [ai r.pos.x,ai r.pos.y,BB r.aB,BB r.yes,ob a,ob b] 0),(7,.ptr 0 0 0),(8,.sl (rs.map aj) f),(9,.sl ((rs++[r]).map aj) false),(17,.sl (W.map eI) false),(20,.sl (Y.map eI) false)],[.cells (aC n) 0 0],aV.none,false,0⟩ (KU TT Tryz.f11.results.toList (BB true)):=by
 have eY:((Y.map eI).length:Int)=Y.length:=by simp
 refine ax.seq ?_
 refine RM.fm (mu:=fun _=>false) ?_
 repeat' (first |refine u1 ?_ |refine u2 ?_ |fail)
 refine ax.aK (ah.to (l:=[(3,.pt (ay s) 0),(5,.pt [ai r.pos.x,ai r.pos.y,BB r.aB,BB r.yes,ob a,ob b] 0),(7,.ptr 0 0 0),(8,.sl (rs.map aj) f),(9,.sl ((rs++[r]).map aj) false),(17,.sl (W.map eI) false),(20,.sl (Y.map eI) false),(22,ai (0:Nat))]) (hp:=[.cells (aC n) 0 0]) 1 rfl ⟨rfl,rfl,rfl,rfl,rfl,rfl,rfl,rfl,trivial⟩ (Nat.zero_le _) rfl rfl) ?_
 refine ax.block ?_
 refine ax.loop (fun i:Nat=>i≤Y.length) (fun i=>⟨aF [(3,.pt (ay s) 0),(5,.pt [ai r.pos.x,ai r.pos.y,BB r.aB,BB r.yes,ob a,ob b] 0),(7,.ptr 0 0 0),(8,.sl (rs.map aj) f),(9,.sl ((rs++[r]).map aj) false),(17,.sl (W.map eI) false),(20,.sl (Y.map eI) false),(22,ai (i:Nat))],[.cells (aC n) 0 0],aV.none,false,0⟩) (fun i=>Y.length - i) ?_ 0 (Nat.zero_le _)
 intro i hi
 refine aa (mu:=fun _=>false) ?_
 by_cases hlt:i < Y.length
 ·have d1:decide ((i:Int) < ((Y.map eI).length:Int))=true:=decide_eq_true (by omega)
  have hat:(Y.map eI)[((i:Nat):Int).toNat]?=some (eI Y[i]):=bO hlt
  have hh:=Mf false W false Y[i] (by unfold maxLen;omega)
  rw [show (W.any fun x=>decide (x=Y[i]))=true from List.any_eq_true.2 ⟨_,hsub _ (List.getElem_mem hlt),decide_eq_true rfl⟩] at hh
  repeat' (first |refine u1 ?_ |refine u2 ?_ |fail)
  exact ⟨i+1,hlt,(by dsimp only;omega),ah.to 1 rfl ⟨rfl,rfl,rfl,rfl,rfl,rfl,rfl,aR (by simp),trivial⟩ (Nat.zero_le _) rfl rfl⟩
 ·have d1:decide ((i:Int) < ((Y.map eI).length:Int))=false:=decide_eq_false (by omega)
  repeat' (first |refine u1 ?_ |refine u2 ?_ |fail)
  refine ax.aK (ah.to (l:=[(3,.pt (ay s) 0),(5,.pt [ai r.pos.x,ai r.pos.y,BB r.aB,BB r.yes,ob a,ob b] 0),(7,.ptr 0 0 0),(8,.sl (rs.map aj) f),(9,.sl ((rs++[r]).map aj) false)]) (hp:=[.cells (aC n) 0 0]) 1 rfl ⟨rfl,rfl,rfl,rfl,rfl,trivial⟩ (Nat.zero_le _) rfl rfl) ?_
  exact more3_c s hs n rs f hr r a b ha hb h0
theorem more1_c (s:au) (hs:s.Ok) (n:aA) (rs:List av) (f:Bool) (hr:rs.length * 24≤140737488351232) (r:av) (a b:Int) (ha:0≤a∧a≤65535) (hb:0≤b∧b≤65535) (h0:(aD s n (rs++[r])).2=0) :
  ax TT TB false more1 ⟨aF [(3,.pt (ay s) 0),(5,.pt [ai r.pos.x,ai r.pos.y,BB r.aB,BB r.yes,ob a,ob b] 0),(7,.ptr 0 0 0),(8,.sl (rs.map aj) f),(9,.sl ((rs++[r]).map aj) false)],[.cells (aC n) 0 0],aV.none,false,0⟩ (KU TT Tryz.f11.results.toList (BB true)):=by
 have hr2:(rs++[r]).length≤maxLen:=by have:=(cc h0).JL;unfold maxLen;omega
 have hr1:rs.length≤maxLen:=by unfold maxLen;omega
 have w1:=AG false s hs n rs f hr1
 have w2:=AG false s hs n (rs++[r]) false hr2
 have hsub:∀ w ∈ (fy s n (rs++[r])).2.1,w ∈ (fy s n rs).2.1:=fun w hw=>winds_sub hw
 have hlen:∀ rs:List av,(fy s n rs).2.1.length≤1000:=fun rs=>by
  unfold fy
  split
  ·exact Nat.zero_le _
  ·split
   ·exact Nat.zero_le _
   ·exact Nat.le_trans (pU _ _) (by decide)
 have hW:=hlen rs
 have hY:=hlen (rs++[r])
 have hz:(fy s n (rs++[r])).2.2=0→(fy s n rs).2.2=0∧(fy s n rs).1.lo≤(fy s n (rs++[r])).1.lo∧(fy s n (rs++[r])).1.hi≤(fy s n rs).1.hi:=fun h=>by
  rw [(I8 s n (rs++[r])).1] at h
  rw [(I8 s n (rs++[r])).2.1 h,(I8 s n rs).2.1 (errT_less h)]
  exact ⟨rfl,ends_sub (zn.1 h).2 fun x hx=>truths_sub hx⟩
 generalize fy s n rs=z1 at *
 generalize fy s n (rs++[r])=z2 at *
 obtain ⟨⟨x1,x2⟩,W,x3⟩:=z1
 obtain ⟨⟨y1,y2⟩,Y,y3⟩:=z2
 dsimp only at hz hW hY hsub w1 w2
 clear hlen
 refine RM.fm (mu:=fun _=>false) ?_
 repeat' (first |refine u1 ?_ |refine u2 ?_ |fail)
 refine RM.fm (mu:=fun _=>false) ?_
 repeat' (first |refine u1 ?_ |refine u2 ?_ |fail)
 by_cases hy:y3=0
 ·obtain ⟨q1,q2,q3⟩:=hz hy
  subst hy
  subst q1
  have d1:decide (y1 < x1)=false:=decide_eq_false (by omega)
  have d2:decide (x2 < y2)=false:=decide_eq_false (by omega)
  refine RM.fm (mu:=fun _=>false) ?_
  repeat' (first |refine u1 ?_ |refine u2 ?_ |fail)
  refine ax.aK (ah.to (l:=[(3,.pt (ay s) 0),(5,.pt [ai r.pos.x,ai r.pos.y,BB r.aB,BB r.yes,ob a,ob b] 0),(7,.ptr 0 0 0),(8,.sl (rs.map aj) f),(9,.sl ((rs++[r]).map aj) false),(17,.sl (W.map eI) false),(20,.sl (Y.map eI) false)]) (hp:=[.cells (aC n) 0 0]) 1 rfl ⟨rfl,rfl,rfl,rfl,rfl,rfl,rfl,trivial⟩ (Nat.zero_le _) rfl rfl) ?_
  exact more2_c s hs n rs f hr r a b ha hb h0 W Y hW hY hsub
 ·have d1:decide (y3=0)=false:=decide_eq_false hy
  refine RM.fm (mu:=fun _=>false) ?_
  repeat' (first |refine u1 ?_ |refine u2 ?_ |fail)
  refine ax.aK (ah.to (l:=[(3,.pt (ay s) 0),(5,.pt [ai r.pos.x,ai r.pos.y,BB r.aB,BB r.yes,ob a,ob b] 0),(7,.ptr 0 0 0),(8,.sl (rs.map aj) f),(9,.sl ((rs++[r]).map aj) false),(17,.sl (W.map eI) false),(20,.sl (Y.map eI) false)]) (hp:=[.cells (aC n) 0 0]) 1 rfl ⟨rfl,rfl,rfl,rfl,rfl,rfl,rfl,trivial⟩ (Nat.zero_le _) rfl rfl) ?_
  exact more2_c s hs n rs f hr r a b ha hb h0 W Y hW hY hsub
theorem onesR':∀ L:List av,(eV L).all AV.one=true
 | []=>rfl
 | a :: l=>by
  show ((aj a++eV l).all AV.one)=true
  rw [List.all_append,onesR' l];rfl
theorem mores_c (s:au) (hs:s.Ok) (n:aA) (rs:List av) (f:Bool) (hr:rs.length * 24≤140737488351232) (r:av) (a b:Int) (ha:0≤a∧a≤65535) (hb:0≤b∧b≤65535) :
  Pu false 11 [.ag (ay s),.ag (aC n++[.sl (rs.map aj) f]),.ag (aj r++[ob a,ob b])] (BB true):=by
 have aw:=CR
 have hl1:(rs++[r]).length=rs.length+1:=by rw [List.length_append];rfl
 have f1:0+(rs.map aj).length=rs.length:=by rw [List.length_map];omega
 have f2:rs.length+[aj r].length=rs.length+1:=rfl
 have hb1:rs.length * 24≤140737488355328∧rs.length≤9223372036854775807:=by omega
 have hb2:(rs.length+1) * 24≤140737488355328∧rs.length+1≤9223372036854775807:=by omega
 have hr2:(rs++[r]).length≤maxLen:=by unfold maxLen;omega
 have hr1:rs.length≤maxLen:=by unfold maxLen;omega
 have c1:=IV false s hs n (rs++[r]) false hr2
 dsimp only [aC,oG,aj,List.cons_append,List.nil_append]
 refine af.body (fn:=Tryz.f11) rfl rfl rfl rfl ?_
 refine RM.fm (mu:=fun _=>false) ?_
 repeat' (first |refine u1 ?_ |refine u2 ?_ |fail)
 refine RM.fm (mu:=fun _=>false) ?_
 repeat' (first |refine u1 ?_ |refine u2 ?_ |fail)
 refine RM.fm (mu:=fun t=>Nat.beq t 33 || Nat.beq t 35 || Nat.beq t 39) ?_
 repeat' (first |((with_reducible show RM.wpOp _ _ (.call _) _ _ _);refine KB (cs:=[]) (n:=0) (els:=rs.map aj) rfl f1 rfl rfl rfl rfl rfl (fun el hel=>by obtain ⟨x,_,rfl⟩:=List.mem_map.1 hel;rfl) (onesR' rs) rfl rfl (.inl rfl) hb1 (fun v1 c1' hc1'=>?_)) |((with_reducible show RM.wpOp _ _ (.call _) _ _ _);refine KB (cs:=eV rs) (n:=rs.length) (els:=[aj r]) (kU rs _).symm f2 rfl rfl rfl rfl rfl (fun el hel=>by rw [List.mem_singleton.1 hel];rfl) rfl rfl (iU rs) hc1' hb2 (fun v2 c2' hc2'=>?_)) |refine u1 ?_ |refine u2 ?_ |fail)
 refine ax.aK (ah.giveUp 1 (l:=[(3,.pt (ay s) 0),(5,.pt [ai r.pos.x,ai r.pos.y,BB r.aB,BB r.yes,ob a,ob b] 0),(7,.ptr 0 0 0),(8,.sl (rs.map aj) f),(9,.sl ((rs++[r]).map aj) false)]) (hp:=[.cells (aC n) 0 0,.gone]) rfl (Nat.zero_le _) (w7 _) ⟨.same rfl,.same rfl,.same rfl,.same rfl,.row 4 (by rw [iU,hl1];omega) (by rw [List.length_map,hl1]) (fun el hel=>by obtain ⟨x,_,rfl⟩:=List.mem_map.1 hel;rfl) (by rw [List.drop_zero,List.take_of_length_le (by rw [iU,hl1];omega)]) (fun h=>Bool.noConfusion h),trivial⟩ rfl rfl) ?_
 by_cases h0:(aD s n (rs++[r])).2=0
 ·rw [decide_eq_true h0] at c1
  have k1:=AE false s hs n rs f hr1
  have k2:=AE false s hs n (rs++[r]) false hr2
  have hz:(iR s n (rs++[r])).2.2=0→(iR s n rs).2.2=0∧((iR s n rs).1.lo≤(iR s n (rs++[r])).1.lo∧(iR s n (rs++[r])).1.hi≤(iR s n rs).1.hi)∧(iR s n rs).2.1.lo≤(iR s n (rs++[r])).2.1.lo∧(iR s n (rs++[r])).2.1.hi≤(iR s n rs).2.1.hi:=fun h=>by
   rw [(I7 s n (rs++[r])).1] at h
   rw [(I7 s n (rs++[r])).2 h,(I7 s n rs).2 (errT_less h)]
   exact ⟨rfl,ends_sub (zn.1 h).2 (fun x hx=>truths_sub hx),ends_sub (zn.1 h).2 fun x hx=>truths_sub hx⟩
  generalize iR s n rs=z1 at *
  generalize iR s n (rs++[r])=z2 at *
  obtain ⟨⟨x1,x2⟩,⟨x3,x4⟩,x5⟩:=z1
  obtain ⟨⟨y1,y2⟩,⟨y3,y4⟩,y5⟩:=z2
  dsimp only at hz k1 k2
  refine RM.fm (mu:=fun _=>false) ?_
  repeat' (first |refine u1 ?_ |refine u2 ?_ |fail)
  refine RM.fm (mu:=fun _=>false) ?_
  repeat' (first |refine u1 ?_ |refine u2 ?_ |fail)
  refine RM.fm (mu:=fun _=>false) ?_
  repeat' (first |refine u1 ?_ |refine u2 ?_ |fail)
  by_cases hy:y5=0
  ·obtain ⟨q1,⟨q2,q3⟩,q4,q5⟩:=hz hy
   subst hy
   subst q1
   have d1:decide (y1 < x1)=false:=decide_eq_false (by omega)
   have d2:decide (x2 < y2)=false:=decide_eq_false (by omega)
   have d3:decide (y3 < x3)=false:=decide_eq_false (by omega)
   have d4:decide (x4 < y4)=false:=decide_eq_false (by omega)
   refine RM.fm (mu:=fun _=>false) ?_
   repeat' (first |refine u1 ?_ |refine u2 ?_ |fail)
   refine ax.aK (ah.to (l:=[(3,.pt (ay s) 0),(5,.pt [ai r.pos.x,ai r.pos.y,BB r.aB,BB r.yes,ob a,ob b] 0),(7,.ptr 0 0 0),(8,.sl (rs.map aj) f),(9,.sl ((rs++[r]).map aj) false)]) (hp:=[.cells (aC n) 0 0]) 1 rfl ⟨rfl,rfl,rfl,rfl,rfl,trivial⟩ (Nat.zero_le _) rfl rfl) ?_
   exact more1_c s hs n rs f hr r a b ha hb h0
  ·have d1:decide (y5=0)=false:=decide_eq_false hy
   refine RM.fm (mu:=fun _=>false) ?_
   repeat' (first |refine u1 ?_ |refine u2 ?_ |fail)
   refine ax.aK (ah.to (l:=[(3,.pt (ay s) 0),(5,.pt [ai r.pos.x,ai r.pos.y,BB r.aB,BB r.yes,ob a,ob b] 0),(7,.ptr 0 0 0),(8,.sl (rs.map aj) f),(9,.sl ((rs++[r]).map aj) false)]) (hp:=[.cells (aC n) 0 0]) 1 rfl ⟨rfl,rfl,rfl,rfl,rfl,trivial⟩ (Nat.zero_le _) rfl rfl) ?_
   exact more1_c s hs n rs f hr r a b ha hb h0
 ·rw [decide_eq_false h0] at c1
  refine aa (mu:=fun _=>false) ?_
  repeat' (first |refine u1 ?_ |refine u2 ?_ |fail)
  exact ⟨[_],⟨Fz.deep rfl,trivial⟩,rfl⟩
end Go.Proofs.YtichbhmnhkegiaaGreat
namespace Go.RM
open Go
theorem sl_len {γ:Gm} {g:aE} {els:List (List AV)} {b:Bool} {u v:Value} (hd:DR g EL (.sl els b) u) (hv:VR γ u v):∃ a len cap,v=.slice a len cap∧els.length=len:=by
 cases hd with
 | nil =>
  cases hv with
  | flat h=>exact ⟨_,_,_,rfl,rfl⟩
 | sl q1 q2 q3 q4 q5 q6 q7 =>
  cases hv with
  | flat h=>cases h
  | slice=>exact ⟨_,_,_,rfl,q4⟩
  | eF=>exact ⟨_,_,_,rfl,q4⟩
theorem ag_len {γ:Gm} {g:aE} {cs:List AV} {i:Nat} {els:List (List AV)} {b:Bool} {u v:Value} (hd:DR g EL (.ag cs) u) (hv:VR γ u v) (hi:cs[i]?=some (.sl els b)):∃ vs a len cap,v=.agg vs∧vs.toList[i]?=some (.slice a len cap)∧els.length=len:=by
 cases hd with
 | ag ha h1 =>
  rename_i us
  have hlt:i < us.toList.length:=by rw [←ha];exact (List.getElem?_eq_some_iff.1 hi).1
  have hd2:=h1 i _ _ hi (List.getElem?_eq_getElem hlt)
  cases hv with
  | flat h=>exact absurd h (by simp [bl])
  | agg q1 q2 =>
   rename_i vs
   have h2:i < us.size:=by simpa using hlt
   have h3:i < vs.size:=by omega
   have hv2:=q2 i h2 h3
   obtain ⟨a,len,cap,e,hl⟩:=sl_len (v:=vs[i]) hd2 (by simpa using hv2)
   exact ⟨vs,a,len,cap,rfl,by rw [Array.getElem?_toList,Array.getElem?_eq_getElem h3,e],hl⟩
section
variable {T : bR} {tab : List XE} {one : Bool}
open Go.RowKit in
theorem pure_callsW (hT:cy T) (hm:T.P.follows .mixedOrders=true) (ht:∀ e ∈ tab,v8 T e) {f:FuncId} {v:Value} (hf:bl v=true) {D:Type} {enc:TypeId × Value→D} {base:Nat} {spare:Nat→Bool} {held:Bool} {d:Nat} {r:Reach} {b:Nat}
  {ss:List Sh} {ts:List TypeId} {args:Array Value} {ds:List (DataW D)} {ps:List MemPlace} {w:World} (hs:yI T.P d ss ts=true) (htr:DataW.TrodAll enc T.P w base spare held ts args.toList ds ps)
  (hok:∀ (j:Nat) t v,ts[j]?=some t→args.toList[j]?=some v→Value.okWide T.P w r b t v) (hp:∀ avs,DL ss avs→(∃ γ H us,bZ γ us args.toList∧qW (Hp.get H) EL avs us)→af T tab one (.fn f [] []) avs (.fl v)) :
  Calls T.P f args w fun e w'=>e=.returned v∧Below w.heap.size w w':=by
 obtain ⟨γ,H,us,avs,e,q,v1,d1,t1⟩:=Cj hs htr hok _ _ (LS.empty w)
 obtain ⟨goal,hg,m,L,h1,_,h3⟩:=(hp avs t1 ⟨γ,H,us,v1,d1⟩).2 EL H (.func (.func f) #[] #[]) us q.wf (fun k h=>h.elim) (.fn rfl rfl (fun i x u h=>by cases h) (fun i x u h=>by cases h)) d1
 have hgoal:goal=.fn f us:=by
  have:dw (.func (.func f) #[] #[]) us=some (.fn f us):=by simp [dw]
  rw [this] at hg
  exact (Option.some.inj hg).symm
 subst hgoal
 have hS:cD T (RX T tab m) m:=BQ ht (DD hT hm ht m)
 have hN:∃ N,∀ r ∈ L,r.hp.n≤N:=by
  clear h3 h1
  rename_i hone
  clear hone
  induction L with
  | nil=>exact ⟨0,fun r hr=>by cases hr⟩
  | cons a l ih =>
   obtain ⟨N,hN⟩:=ih
   refine ⟨max a.hp.n N,fun r hr=>?_⟩
   rcases List.mem_cons.1 hr with rfl|hr
   ·omega
   ·have:=hN r hr;omega
 obtain ⟨N,hN⟩:=hN
 have hB:γ.B=w.heap.size:=e.le.B
 have hc:=(hS.call f us H L h1).2 γ w args.toList N q.wf q.hr (fun k hk _=>q.fr k hk) hN v1
 refine callsIn_wide.1 (CallsIn.mono (F:=FW none) hc fun en w' hR=>?_)
 obtain ⟨x,hp',x',γ1,hmem,rfl,hv,hst⟩:=hR
 obtain ⟨y,H',hy,_,_,_,_,hdr⟩:=h3 _ hmem
 cases hy
 have hx:x=v:=by
  cases hdr with
  | fl h=>rfl
 subst hx
 refine ⟨by rw [hv.cY hf],?_⟩
 rw [←hB]
 exact hst.jr.below q.hr
end
end Go.RM
