/-
  Contracts of the program's functions and of the document's. Lemmas alone; their conditions stand in them.
-/
import Derived.Test.YtichbhmnhkegiaaGreatX1
import Derived.Test.YtichbhmnhkegiaaGreatK16
import Derived.Test.YtichbhmnhkegiaaGreatK21
import Derived.Test.YtichbhmnhkegiaaGreatK19
import Derived.Test.YtichbhmnhkegiaaGreatK2
open Go Go.RM Go.AirLaw
namespace Go.Proofs.YtichbhmnhkegiaaGreat
set_option maxRecDepth 100000
set_option maxHeartbeats 4000000
theorem onesR:∀ L:List av,(eV L).all AV.one=true
 | []=>rfl
 | a :: l=>by
  show ((aj a++eV l).all AV.one)=true
  rw [List.all_append,onesR l];rfl
theorem reacheds_c (s:au) (hs:s.Ok) (n:aA) (rs:List av) (f:Bool) (hr:rs.length≤maxLen) (a b c:Int) (ha:0≤a∧a≤65535) (hb:0≤b∧b≤65535) (hc:0≤c∧c≤65535) :
  Pu false 9 [.ag (ay s),.ag (aC n++[.sl (rs.map aj) f]),.ag [ob a,ob b,ob c]] (BB true):=by
 have aw:=CR
 have c1:=IV false s hs n rs f hr
 have er:((rs.map aj).length:Int)=rs.length:=by simp
 dsimp only [aC,oG,List.cons_append,List.nil_append]
 by_cases h0:(aD s n rs).2=0
 ·rw [decide_eq_true h0] at c1
  have ho:=cc h0
  by_cases h8:rs.length=8
  ·have d1:decide (((rs.map aj).length:Int)=8)=true:=decide_eq_true (by omega)
   refine af.body (fn:=Tryz.f9) rfl rfl rfl rfl ?_
   refine aa (mu:=fun _=>false) ?_
   repeat' (first |refine u1 ?_ |refine u2 ?_ |fail)
   exact ⟨[_],⟨Fz.deep rfl,trivial⟩,rfl⟩
  ·have d1:decide (((rs.map aj).length:Int)=8)=false:=decide_eq_false (by omega)
   have h8:rs.length < 8:=by have:=ho.JL;omega
   have hnx:=ho.x
   have hny:=ho.y
   have sp:=IW true n.pos a b (by omega) (by omega) ha hb
   have hpb:=xb n.pos a b
   have hwp:fN (mX n.pos a b) 30000=true:=Dc hpb.1 hpb.2
   generalize mX n.pos a b=p at *
   have f1:0+(rs.map aj).length=rs.length:=by rw [List.length_map];omega
   have hb1:rs.length * 24≤140737488355328∧rs.length≤9223372036854775807:=by omega
   have hb2:(rs.length+1) * 24≤140737488355328∧rs.length+1≤9223372036854775807:=by omega
   have hl1:∀ r:av,(rs++[r]).length=rs.length+1:=fun r=>by rw [List.length_append];rfl
   have f2:∀ r:av,rs.length+[aj r].length=rs.length+1:=fun _=>rfl
   have w0:=fun aB=>vj false s hs n rs f hr p aB
   have w2:=fun aB=>Gn false ho f aB
   clear hnx hny hpb
   obtain ⟨h,hh⟩:∃ h,decide (c % 2=1)=h:=⟨_,rfl⟩
   have w1:=w0 h
   clear w0
   by_cases hne:aJ s n rs h=[]
   ·have w2:=w2 h
    rw [za h0 hwp,if_pos hne] at w1
    rw [hne] at w2
    have w1':Pu false 33 [.ag (ay s),.ag (aC n),.sl (rs.map aj) f,.ag (oG p),BB (decide (c % 2=1))] (.tp [ai 0,ai 9]):=by rw [hh];exact w1
    have w2':Pu false 56 [.ag (ay s),.ag (aC n),.sl (rs.map aj) f,BB (decide (c % 2=1))] (.sl ((([]:List (Int × Int))).map eP) false):=by rw [hh];exact w2
    clear w1 w2
    refine af.body (fn:=Tryz.f9) rfl rfl rfl rfl ?_
    refine aa (mu:=fun _=>false) ?_
    repeat' (first |(refine IU rfl rfl (by omega) ?_) |(refine KI rfl rfl ?_) |refine u1 ?_ |refine u2 ?_ |fail)
    exact ⟨[_],⟨Fz.deep rfl,trivial⟩,rfl⟩
   ·cases h with
    | true =>
     obtain ⟨k,hc,hk⟩:=could_reach (aB:=true) h0 h8 hwp hne
     rw [hc] at w1
     have w1':Pu false 33 [.ag (ay s),.ag (aC n),.sl (rs.map aj) f,.ag (oG p),BB (decide (c % 2=1))] (.tp [ai k,ai 0]):=by rw [hh];exact w1
     clear w1 w2
     refine af.body (fn:=Tryz.f9) rfl rfl rfl rfl ?_
     refine aa (mu:=fun _=>false) ?_
     repeat' (first |(refine IU rfl rfl (by omega) ?_) |(refine KI rfl rfl ?_) |refine u1 ?_ |refine u2 ?_ |fail)
     refine ax.aK (ah.to (l:=[(3,.pt (ay s) 0),(7,.ptr 0 0 0),(8,.sl (rs.map aj) f),(9,.ptr 1 0 0),(10,BB true),(11,ai k),(13,ai 0)]) (hp:=[.cells (aC n) 0 0,.cells (oG p) 0 0]) 2 rfl ⟨rfl,rfl,rfl,rfl,GJ hh,rfl,rfl,trivial⟩ (Nat.zero_le _) rfl rfl) ?_
     clear c1 w1' sp
     refine ax.loop (fun i:Nat=>i≤2) (fun i=>⟨aF [(3,.pt (ay s) 0),(7,.ptr 0 0 0),(8,.sl (rs.map aj) f),(9,.ptr 1 0 0),(10,BB true),(11,ai k),(13,ai (i:Nat))],[.cells (aC n) 0 0,.cells (oG p) 0 0],aV.none,false,0⟩) (fun i=>2 - i) ?_ 0 (by decide)
     intro i hi
     match i,hi with
     | 0,_ =>
      refine RM.fm (mu:=fun _=>false) ?_
      repeat' (first |refine u1 ?_ |refine u2 ?_ |fail)
      refine ax.seq ?_
      refine ax.block ?_
      refine RM.fm (mu:=fun _=>false) ?_
      repeat' (first |refine u1 ?_ |refine u2 ?_ |fail)
      refine RM.fm (mu:=fun t=>Nat.beq t 79 || Nat.beq t 81 || Nat.beq t 87) ?_
      repeat' (first |((with_reducible show RM.wpOp _ _ (.call _) _ _ _);refine KB (cs:=[]) (n:=0) (els:=rs.map aj) rfl f1 rfl rfl rfl rfl rfl (fun el hel=>by obtain ⟨x,_,rfl⟩:=List.mem_map.1 hel;rfl) (onesR rs) rfl rfl (.inl rfl) hb1 (fun v1 c1' hc1'=>?_)) |((with_reducible show RM.wpOp _ _ (.call _) _ _ _);refine KB (cs:=eV rs) (n:=rs.length) (els:=[aj ⟨p,true,false⟩]) (kU rs _).symm (f2 _) rfl rfl rfl rfl rfl (fun el hel=>by rw [List.mem_singleton.1 hel];rfl) rfl rfl (iU rs) hc1' hb2 (fun v2 c2' hc2'=>?_)) |refine u1 ?_ |refine u2 ?_ |fail)
      refine ax.aK (ah.giveUp 2 (l:=[(3,.pt (ay s) 0),(7,.ptr 0 0 0),(8,.sl (rs.map aj) f),(9,.ptr 1 0 0),(10,BB true),(11,ai k),(13,ai 0),(14,BB (decide ((0:Int)=1))),(15,.sl ((rs++[(⟨p,true,false⟩:av)]).map aj) false)]) (hp:=[.cells (aC n) 0 0,.cells (oG p) 0 0,.gone]) rfl (Nat.zero_le _) (w7 _) ⟨.same rfl,.same rfl,.same rfl,.same rfl,.same rfl,.same rfl,.same rfl,.same rfl,.row 4 (by rw [iU,hl1];omega) (by rw [List.length_map,hl1]) (fun el hel=>by obtain ⟨x,_,rfl⟩:=List.mem_map.1 hel;rfl) (by rw [List.drop_zero,List.take_of_length_le (by rw [iU,hl1];omega)]) (fun h=>Bool.noConfusion h),trivial⟩ rfl rfl) ?_
      refine aa (mu:=fun _=>false) ?_
      have w:=AG false s hs n (rs++[(⟨p,true,false⟩:av)]) false (by rw [List.length_append];unfold maxLen;simp;omega)
      have hz:=(I8 s n (rs++[(⟨p,true,false⟩:av)])).1
      generalize fy s n (rs++[(⟨p,true,false⟩:av)])=z at *
      obtain ⟨z1,z2,z3⟩:=z
      dsimp only at w hz
      rcases hk with ⟨rfl,q1,q2⟩|⟨rfl,q1,q2⟩|⟨rfl,q1,q2⟩
      ·rw [q1] at hz
       subst hz
       repeat' (first |refine u1 ?_ |refine u2 ?_ |fail)
       refine aa (mu:=fun _=>false) ?_
       repeat' (first |refine u1 ?_ |refine u2 ?_ |fail)
       exact ⟨1,by decide,(by dsimp only;omega),ah.to 2 rfl ⟨rfl,rfl,rfl,rfl,rfl,rfl,rfl,trivial⟩ (Nat.zero_le _) rfl rfl⟩
      ·rw [q1] at hz
       subst hz
       repeat' (first |refine u1 ?_ |refine u2 ?_ |fail)
       refine aa (mu:=fun _=>false) ?_
       repeat' (first |refine u1 ?_ |refine u2 ?_ |fail)
       exact ⟨1,by decide,(by dsimp only;omega),ah.to 2 rfl ⟨rfl,rfl,rfl,rfl,rfl,rfl,rfl,trivial⟩ (Nat.zero_le _) rfl rfl⟩
      ·rw [q1] at hz
       subst hz
       repeat' (first |refine u1 ?_ |refine u2 ?_ |fail)
       refine aa (mu:=fun _=>false) ?_
       repeat' (first |refine u1 ?_ |refine u2 ?_ |fail)
       exact ⟨1,by decide,(by dsimp only;omega),ah.to 2 rfl ⟨rfl,rfl,rfl,rfl,rfl,rfl,rfl,trivial⟩ (Nat.zero_le _) rfl rfl⟩
     | 1,_ =>
      refine RM.fm (mu:=fun _=>false) ?_
      repeat' (first |refine u1 ?_ |refine u2 ?_ |fail)
      refine ax.seq ?_
      refine ax.block ?_
      refine RM.fm (mu:=fun _=>false) ?_
      repeat' (first |refine u1 ?_ |refine u2 ?_ |fail)
      refine RM.fm (mu:=fun t=>Nat.beq t 79 || Nat.beq t 81 || Nat.beq t 87) ?_
      repeat' (first |((with_reducible show RM.wpOp _ _ (.call _) _ _ _);refine KB (cs:=[]) (n:=0) (els:=rs.map aj) rfl f1 rfl rfl rfl rfl rfl (fun el hel=>by obtain ⟨x,_,rfl⟩:=List.mem_map.1 hel;rfl) (onesR rs) rfl rfl (.inl rfl) hb1 (fun v1 c1' hc1'=>?_)) |((with_reducible show RM.wpOp _ _ (.call _) _ _ _);refine KB (cs:=eV rs) (n:=rs.length) (els:=[aj ⟨p,true,true⟩]) (kU rs _).symm (f2 _) rfl rfl rfl rfl rfl (fun el hel=>by rw [List.mem_singleton.1 hel];rfl) rfl rfl (iU rs) hc1' hb2 (fun v2 c2' hc2'=>?_)) |refine u1 ?_ |refine u2 ?_ |fail)
      refine ax.aK (ah.giveUp 2 (l:=[(3,.pt (ay s) 0),(7,.ptr 0 0 0),(8,.sl (rs.map aj) f),(9,.ptr 1 0 0),(10,BB true),(11,ai k),(13,ai 1),(14,BB (decide ((1:Int)=1))),(15,.sl ((rs++[(⟨p,true,true⟩:av)]).map aj) false)]) (hp:=[.cells (aC n) 0 0,.cells (oG p) 0 0,.gone]) rfl (Nat.zero_le _) (w7 _) ⟨.same rfl,.same rfl,.same rfl,.same rfl,.same rfl,.same rfl,.same rfl,.same rfl,.row 4 (by rw [iU,hl1];omega) (by rw [List.length_map,hl1]) (fun el hel=>by obtain ⟨x,_,rfl⟩:=List.mem_map.1 hel;rfl) (by rw [List.drop_zero,List.take_of_length_le (by rw [iU,hl1];omega)]) (fun h=>Bool.noConfusion h),trivial⟩ rfl rfl) ?_
      refine aa (mu:=fun _=>false) ?_
      have w:=AG false s hs n (rs++[(⟨p,true,true⟩:av)]) false (by rw [List.length_append];unfold maxLen;simp;omega)
      have hz:=(I8 s n (rs++[(⟨p,true,true⟩:av)])).1
      generalize fy s n (rs++[(⟨p,true,true⟩:av)])=z at *
      obtain ⟨z1,z2,z3⟩:=z
      dsimp only at w hz
      rcases hk with ⟨rfl,q1,q2⟩|⟨rfl,q1,q2⟩|⟨rfl,q1,q2⟩
      ·rw [q2] at hz
       subst hz
       repeat' (first |refine u1 ?_ |refine u2 ?_ |fail)
       refine aa (mu:=fun _=>false) ?_
       repeat' (first |refine u1 ?_ |refine u2 ?_ |fail)
       exact ⟨2,by decide,(by dsimp only;omega),ah.to 2 rfl ⟨rfl,rfl,rfl,rfl,rfl,rfl,rfl,trivial⟩ (Nat.zero_le _) rfl rfl⟩
      ·rw [q2] at hz
       subst hz
       repeat' (first |refine u1 ?_ |refine u2 ?_ |fail)
       refine aa (mu:=fun _=>false) ?_
       repeat' (first |refine u1 ?_ |refine u2 ?_ |fail)
       exact ⟨2,by decide,(by dsimp only;omega),ah.to 2 rfl ⟨rfl,rfl,rfl,rfl,rfl,rfl,rfl,trivial⟩ (Nat.zero_le _) rfl rfl⟩
      ·rw [q2] at hz
       subst hz
       repeat' (first |refine u1 ?_ |refine u2 ?_ |fail)
       refine aa (mu:=fun _=>false) ?_
       repeat' (first |refine u1 ?_ |refine u2 ?_ |fail)
       exact ⟨2,by decide,(by dsimp only;omega),ah.to 2 rfl ⟨rfl,rfl,rfl,rfl,rfl,rfl,rfl,trivial⟩ (Nat.zero_le _) rfl rfl⟩
     | 2,_ =>
      refine aa (mu:=fun _=>false) ?_
      repeat' (first |refine u1 ?_ |refine u2 ?_ |fail)
      exact ⟨[_],⟨Fz.deep rfl,trivial⟩,rfl⟩
    | false =>
     obtain ⟨k,hc,hk⟩:=could_reach (aB:=false) h0 h8 hwp hne
     rw [hc] at w1
     have w1':Pu false 33 [.ag (ay s),.ag (aC n),.sl (rs.map aj) f,.ag (oG p),BB (decide (c % 2=1))] (.tp [ai k,ai 0]):=by rw [hh];exact w1
     clear w1 w2
     refine af.body (fn:=Tryz.f9) rfl rfl rfl rfl ?_
     refine aa (mu:=fun _=>false) ?_
     repeat' (first |(refine IU rfl rfl (by omega) ?_) |(refine KI rfl rfl ?_) |refine u1 ?_ |refine u2 ?_ |fail)
     refine ax.aK (ah.to (l:=[(3,.pt (ay s) 0),(7,.ptr 0 0 0),(8,.sl (rs.map aj) f),(9,.ptr 1 0 0),(10,BB false),(11,ai k),(13,ai 0)]) (hp:=[.cells (aC n) 0 0,.cells (oG p) 0 0]) 2 rfl ⟨rfl,rfl,rfl,rfl,GJ hh,rfl,rfl,trivial⟩ (Nat.zero_le _) rfl rfl) ?_
     clear c1 w1' sp
     refine ax.loop (fun i:Nat=>i≤2) (fun i=>⟨aF [(3,.pt (ay s) 0),(7,.ptr 0 0 0),(8,.sl (rs.map aj) f),(9,.ptr 1 0 0),(10,BB false),(11,ai k),(13,ai (i:Nat))],[.cells (aC n) 0 0,.cells (oG p) 0 0],aV.none,false,0⟩) (fun i=>2 - i) ?_ 0 (by decide)
     intro i hi
     match i,hi with
     | 0,_ =>
      refine RM.fm (mu:=fun _=>false) ?_
      repeat' (first |refine u1 ?_ |refine u2 ?_ |fail)
      refine ax.seq ?_
      refine ax.block ?_
      refine RM.fm (mu:=fun _=>false) ?_
      repeat' (first |refine u1 ?_ |refine u2 ?_ |fail)
      refine RM.fm (mu:=fun t=>Nat.beq t 79 || Nat.beq t 81 || Nat.beq t 87) ?_
      repeat' (first |((with_reducible show RM.wpOp _ _ (.call _) _ _ _);refine KB (cs:=[]) (n:=0) (els:=rs.map aj) rfl f1 rfl rfl rfl rfl rfl (fun el hel=>by obtain ⟨x,_,rfl⟩:=List.mem_map.1 hel;rfl) (onesR rs) rfl rfl (.inl rfl) hb1 (fun v1 c1' hc1'=>?_)) |((with_reducible show RM.wpOp _ _ (.call _) _ _ _);refine KB (cs:=eV rs) (n:=rs.length) (els:=[aj ⟨p,false,false⟩]) (kU rs _).symm (f2 _) rfl rfl rfl rfl rfl (fun el hel=>by rw [List.mem_singleton.1 hel];rfl) rfl rfl (iU rs) hc1' hb2 (fun v2 c2' hc2'=>?_)) |refine u1 ?_ |refine u2 ?_ |fail)
      refine ax.aK (ah.giveUp 2 (l:=[(3,.pt (ay s) 0),(7,.ptr 0 0 0),(8,.sl (rs.map aj) f),(9,.ptr 1 0 0),(10,BB false),(11,ai k),(13,ai 0),(14,BB (decide ((0:Int)=1))),(15,.sl ((rs++[(⟨p,false,false⟩:av)]).map aj) false)]) (hp:=[.cells (aC n) 0 0,.cells (oG p) 0 0,.gone]) rfl (Nat.zero_le _) (w7 _) ⟨.same rfl,.same rfl,.same rfl,.same rfl,.same rfl,.same rfl,.same rfl,.same rfl,.row 4 (by rw [iU,hl1];omega) (by rw [List.length_map,hl1]) (fun el hel=>by obtain ⟨x,_,rfl⟩:=List.mem_map.1 hel;rfl) (by rw [List.drop_zero,List.take_of_length_le (by rw [iU,hl1];omega)]) (fun h=>Bool.noConfusion h),trivial⟩ rfl rfl) ?_
      refine aa (mu:=fun _=>false) ?_
      have w:=AE false s hs n (rs++[(⟨p,false,false⟩:av)]) false (by rw [List.length_append];unfold maxLen;simp;omega)
      have hz:=(I7 s n (rs++[(⟨p,false,false⟩:av)])).1
      generalize iR s n (rs++[(⟨p,false,false⟩:av)])=z at *
      obtain ⟨z1,z2,z3⟩:=z
      dsimp only at w hz
      rcases hk with ⟨rfl,q1,q2⟩|⟨rfl,q1,q2⟩|⟨rfl,q1,q2⟩
      ·rw [q1] at hz
       subst hz
       repeat' (first |refine u1 ?_ |refine u2 ?_ |fail)
       refine aa (mu:=fun _=>false) ?_
       repeat' (first |refine u1 ?_ |refine u2 ?_ |fail)
       exact ⟨1,by decide,(by dsimp only;omega),ah.to 2 rfl ⟨rfl,rfl,rfl,rfl,rfl,rfl,rfl,trivial⟩ (Nat.zero_le _) rfl rfl⟩
      ·rw [q1] at hz
       subst hz
       repeat' (first |refine u1 ?_ |refine u2 ?_ |fail)
       refine aa (mu:=fun _=>false) ?_
       repeat' (first |refine u1 ?_ |refine u2 ?_ |fail)
       exact ⟨1,by decide,(by dsimp only;omega),ah.to 2 rfl ⟨rfl,rfl,rfl,rfl,rfl,rfl,rfl,trivial⟩ (Nat.zero_le _) rfl rfl⟩
      ·rw [q1] at hz
       subst hz
       repeat' (first |refine u1 ?_ |refine u2 ?_ |fail)
       refine aa (mu:=fun _=>false) ?_
       repeat' (first |refine u1 ?_ |refine u2 ?_ |fail)
       exact ⟨1,by decide,(by dsimp only;omega),ah.to 2 rfl ⟨rfl,rfl,rfl,rfl,rfl,rfl,rfl,trivial⟩ (Nat.zero_le _) rfl rfl⟩
     | 1,_ =>
      refine RM.fm (mu:=fun _=>false) ?_
      repeat' (first |refine u1 ?_ |refine u2 ?_ |fail)
      refine ax.seq ?_
      refine ax.block ?_
      refine RM.fm (mu:=fun _=>false) ?_
      repeat' (first |refine u1 ?_ |refine u2 ?_ |fail)
      refine RM.fm (mu:=fun t=>Nat.beq t 79 || Nat.beq t 81 || Nat.beq t 87) ?_
      repeat' (first |((with_reducible show RM.wpOp _ _ (.call _) _ _ _);refine KB (cs:=[]) (n:=0) (els:=rs.map aj) rfl f1 rfl rfl rfl rfl rfl (fun el hel=>by obtain ⟨x,_,rfl⟩:=List.mem_map.1 hel;rfl) (onesR rs) rfl rfl (.inl rfl) hb1 (fun v1 c1' hc1'=>?_)) |((with_reducible show RM.wpOp _ _ (.call _) _ _ _);refine KB (cs:=eV rs) (n:=rs.length) (els:=[aj ⟨p,false,true⟩]) (kU rs _).symm (f2 _) rfl rfl rfl rfl rfl (fun el hel=>by rw [List.mem_singleton.1 hel];rfl) rfl rfl (iU rs) hc1' hb2 (fun v2 c2' hc2'=>?_)) |refine u1 ?_ |refine u2 ?_ |fail)
      refine ax.aK (ah.giveUp 2 (l:=[(3,.pt (ay s) 0),(7,.ptr 0 0 0),(8,.sl (rs.map aj) f),(9,.ptr 1 0 0),(10,BB false),(11,ai k),(13,ai 1),(14,BB (decide ((1:Int)=1))),(15,.sl ((rs++[(⟨p,false,true⟩:av)]).map aj) false)]) (hp:=[.cells (aC n) 0 0,.cells (oG p) 0 0,.gone]) rfl (Nat.zero_le _) (w7 _) ⟨.same rfl,.same rfl,.same rfl,.same rfl,.same rfl,.same rfl,.same rfl,.same rfl,.row 4 (by rw [iU,hl1];omega) (by rw [List.length_map,hl1]) (fun el hel=>by obtain ⟨x,_,rfl⟩:=List.mem_map.1 hel;rfl) (by rw [List.drop_zero,List.take_of_length_le (by rw [iU,hl1];omega)]) (fun h=>Bool.noConfusion h),trivial⟩ rfl rfl) ?_
      refine aa (mu:=fun _=>false) ?_
      have w:=AE false s hs n (rs++[(⟨p,false,true⟩:av)]) false (by rw [List.length_append];unfold maxLen;simp;omega)
      have hz:=(I7 s n (rs++[(⟨p,false,true⟩:av)])).1
      generalize iR s n (rs++[(⟨p,false,true⟩:av)])=z at *
      obtain ⟨z1,z2,z3⟩:=z
      dsimp only at w hz
      rcases hk with ⟨rfl,q1,q2⟩|⟨rfl,q1,q2⟩|⟨rfl,q1,q2⟩
      ·rw [q2] at hz
       subst hz
       repeat' (first |refine u1 ?_ |refine u2 ?_ |fail)
       refine aa (mu:=fun _=>false) ?_
       repeat' (first |refine u1 ?_ |refine u2 ?_ |fail)
       exact ⟨2,by decide,(by dsimp only;omega),ah.to 2 rfl ⟨rfl,rfl,rfl,rfl,rfl,rfl,rfl,trivial⟩ (Nat.zero_le _) rfl rfl⟩
      ·rw [q2] at hz
       subst hz
       repeat' (first |refine u1 ?_ |refine u2 ?_ |fail)
       refine aa (mu:=fun _=>false) ?_
       repeat' (first |refine u1 ?_ |refine u2 ?_ |fail)
       exact ⟨2,by decide,(by dsimp only;omega),ah.to 2 rfl ⟨rfl,rfl,rfl,rfl,rfl,rfl,rfl,trivial⟩ (Nat.zero_le _) rfl rfl⟩
      ·rw [q2] at hz
       subst hz
       repeat' (first |refine u1 ?_ |refine u2 ?_ |fail)
       refine aa (mu:=fun _=>false) ?_
       repeat' (first |refine u1 ?_ |refine u2 ?_ |fail)
       exact ⟨2,by decide,(by dsimp only;omega),ah.to 2 rfl ⟨rfl,rfl,rfl,rfl,rfl,rfl,rfl,trivial⟩ (Nat.zero_le _) rfl rfl⟩
     | 2,_ =>
      refine aa (mu:=fun _=>false) ?_
      repeat' (first |refine u1 ?_ |refine u2 ?_ |fail)
      exact ⟨[_],⟨Fz.deep rfl,trivial⟩,rfl⟩
 ·rw [decide_eq_false h0] at c1
  refine af.body (fn:=Tryz.f9) rfl rfl rfl rfl ?_
  refine aa (mu:=fun _=>false) ?_
  repeat' (first |refine u1 ?_ |refine u2 ?_ |fail)
  exact ⟨[_],⟨Fz.deep rfl,trivial⟩,rfl⟩
end Go.Proofs.YtichbhmnhkegiaaGreat
namespace Go.AirLaw
theorem cmp_turn {p:Nat} (h:p < 32):jN ((p+8) % 32)=wP (jN p):=by
 have:∀ p,p < 32→jN ((p+8) % 32)=wP (jN p):=by decide
 exact this p h
theorem left_turn {p:Nat} (h:p < 32) (x y:Int):ig ((p+8) % 32) y (-x)=ig p x y:=by
 unfold ig
 rw [cmp_turn h]
 unfold wP
 dsimp only
 rw [Int.mul_neg,Int.neg_mul]
 omega
theorem inSector_turn {p:Nat} (h:p < 32) (x y:Int):fM y (-x) ((p+8) % 32)=fM x y p:=by
 unfold fM
 rw [left_turn h,show ((p+8) % 32+1) % 32=((p+1) % 32+8) % 32 by omega,left_turn (Nat.mod_lt _ (by decide))]
theorem cv0:jN 0=(0,1000):=by decide
theorem cv1:jN 1=(195,981):=by decide
theorem cv2:jN 2=(383,924):=by decide
theorem cv3:jN 3=(556,831):=by decide
theorem cv4:jN 4=(707,707):=by decide
theorem cv5:jN 5=(831,556):=by decide
theorem cv6:jN 6=(924,383):=by decide
theorem cv7:jN 7=(981,195):=by decide
theorem cv8:jN 8=(1000,0):=by decide
theorem cv9:jN 9=(981,-195):=by decide
theorem cv10:jN 10=(924,-383):=by decide
theorem cv11:jN 11=(831,-556):=by decide
theorem cv12:jN 12=(707,-707):=by decide
theorem cv13:jN 13=(556,-831):=by decide
theorem cv14:jN 14=(383,-924):=by decide
theorem cv15:jN 15=(195,-981):=by decide
theorem cv16:jN 16=(0,-1000):=by decide
theorem cv17:jN 17=(-195,-981):=by decide
theorem cv18:jN 18=(-383,-924):=by decide
theorem cv19:jN 19=(-556,-831):=by decide
theorem cv20:jN 20=(-707,-707):=by decide
theorem cv21:jN 21=(-831,-556):=by decide
theorem cv22:jN 22=(-924,-383):=by decide
theorem cv23:jN 23=(-981,-195):=by decide
theorem cv24:jN 24=(-1000,0):=by decide
theorem cv25:jN 25=(-981,195):=by decide
theorem cv26:jN 26=(-924,383):=by decide
theorem cv27:jN 27=(-831,556):=by decide
theorem cv28:jN 28=(-707,707):=by decide
theorem cv29:jN 29=(-556,831):=by decide
theorem cv30:jN 30=(-383,924):=by decide
theorem cv31:jN 31=(-195,981):=by decide
theorem sector_one8 {x y:Int} {p q:Nat} (hp:p < 8) (hq:q < 32) (h:fM x y p=true) (k:fM x y q=true):q=p:=by
 unfold fM ig at h k
 rw [Bool.and_eq_true,decide_eq_true_eq,decide_eq_true_eq] at h k
 rcases p with _|_|_|_|_|_|_|_|p
 iterate 8
  ·simp only [Nat.reduceAdd,Nat.reduceMod,cv0,cv1,cv2,cv3,cv4,cv5,cv6,cv7,cv8] at h
   rcases q with _|_|_|_|_|_|_|_|_|_|_|_|_|_|_|_|_|_|_|_|_|_|_|_|_|_|_|_|_|_|_|_|q
   iterate 32
    ·simp only [Nat.reduceAdd,Nat.reduceMod,cv0,cv1,cv2,cv3,cv4,cv5,cv6,cv7,cv8,cv9,cv10,cv11,cv12,cv13,cv14,cv15,cv16,cv17,cv18,cv19,cv20,cv21,cv22,cv23,cv24,cv25,cv26,cv27,cv28,cv29,cv30,cv31] at k
     omega
   omega
 omega
theorem sector_one {x y:Int} {p q:Nat} (hp:p < 32) (hq:q < 32) (h:fM x y p=true) (k:fM x y q=true):q=p:=by
 have st:∀ (n:Nat) (x y:Int) (p q:Nat),p < 8+8 * n→p < 32→q < 32→fM x y p=true→fM x y q=true→q=p:=by
  intro n
  induction n with
  | zero=>intro x y p q h0 _ hq h k;exact sector_one8 h0 hq h k
  | succ n ih =>
   intro x y p q h0 hp hq h k
   by_cases h8:p < 8
   ·exact sector_one8 h8 hq h k
   ·have e1:fM (-y) x (p - 8)=true:=by
     have:=inSector_turn (p:=p - 8) (by omega) (-y) x
     rw [Int.neg_neg,show (p - 8+8) % 32=p by omega] at this
     rw [←this];exact h
    have e2:fM (-y) x ((q+24) % 32)=true:=by
     have:=inSector_turn (p:=(q+24) % 32) (Nat.mod_lt _ (by decide)) (-y) x
     rw [Int.neg_neg,show ((q+24) % 32+8) % 32=q by omega] at this
     rw [←this];exact k
    have:=ih (-y) x (p - 8) ((q+24) % 32) (by omega) (by omega) (Nat.mod_lt _ (by decide)) e1 e2
    omega
 exact st 3 x y p q (by omega) hp hq h k
theorem sector_turn {x y:Int} (h:¬ (x=0∧y=0)):di y (-x)=(di x y+8) % 32:=by
 obtain ⟨h1,h2,_⟩:=nD h
 obtain ⟨k1,k2,_⟩:=nD (x:=y) (y:=-x) (by omega)
 refine sector_one (Nat.mod_lt _ (by decide)) k1 ?_ k2
 rw [inSector_turn h1]
 exact h2
theorem sq_turn (x y:Int):sq y (-x)=sq x y:=by
 unfold sq
 rw [Int.neg_mul_neg,Int.add_comm]
theorem seen_turn (x y c r:Int):bz y (-x) c r=bz x y c r:=by
 unfold bz
 rw [sq_turn]
theorem between_turn {p w:Int} (hp:0≤p∧p < 32) (hw:0≤w∧w < 32):dj ((p+8) % 32) ((w+8) % 32)=dj p w:=by
 unfold dj
 (repeat' split) <;> omega
theorem heard_turn (x y l:Int) {w:Int} (hw:0≤w∧w < 32):aY y (-x) l ((w+8) % 32)=aY x y l w:=by
 unfold aY
 rw [sq_turn]
 by_cases h:x=0∧y=0
 ·rw [decide_eq_true h,decide_eq_true (show y=0∧-x=0 by omega)];rfl
 ·rw [decide_eq_false h,decide_eq_false (show ¬ (y=0∧-x=0) by omega),sector_turn h]
  have h1:=(nD h).1
  have:nE l (((di x y+8) % 32:Nat):Int) ((w+8) % 32)=nE l (di x y) w:=by
   unfold nE
   rw [show (((di x y+8) % 32:Nat):Int)=((di x y:Int)+8) % 32 by omega,between_turn (by omega) hw]
  rw [this]
end Go.AirLaw
