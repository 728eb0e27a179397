/-
  Contracts of the program's functions and of the document's. Lemmas alone; their conditions stand in them.
-/
import Derived.Test.YtpeogffeoehboaaGreatDoorA3
import Derived.Test.YtpeogffeoehboaaGreatDoorK7
import Derived.Test.YtpeogffeoehboaaGreatDoorK13
open Go Go.RM
namespace Go.Proofs.YtpeogffeoehboaaGreatDoor
set_option maxRecDepth 100000
set_option maxHeartbeats 4000000
theorem qS {α β:Type} {f:α→List β} {c:Nat}:∀ {l:List α},(∀ x ∈ l,(f x).length≤c)→(l.flatMap f).length≤l.length * c
 | [],_=>by simp
 | a :: l,h=>by
  rw [List.flatMap_cons,List.length_append,List.length_cons,Nat.succ_mul]
  have h1:=h a List.mem_cons_self
  have h2:=qS (l:=l) fun x hx=>h x (List.mem_cons_of_mem _ hx)
  omega
theorem nM {below:Nat} (h8:below≤8):∀ (m:Nat) (b:List Int),0≤ir b→(kW below m b).length≤8 ^ m
 | 0,b,_=>by rw [kW];exact Nat.le_refl _
 | m+1,b,hf=>by
  rw [kW]
  have h1:=qS (f:=fun i:Nat=>kW below m (b++[ir b+(i:Nat)])) (c:=8 ^ m) (l:=List.range ((below:Int) - ir b).toNat) fun i _=>nM h8 m _ (by rw [nG];omega)
  rw [List.length_range] at h1
  have h2:((below:Int) - ir b).toNat * 8 ^ m≤8 * 8 ^ m:=Nat.mul_le_mul_right _ (by omega)
  rw [Nat.pow_succ,Nat.mul_comm]
  omega
def Ds (below m:Nat) (b:List Int) (k:Nat):List (List Int):=(List.range k).flatMap fun i=>kW below m (b++[ir b+(i:Nat)])
theorem JD (below m:Nat) (b:List Int) (k:Nat):Ds below m b (k+1)=Ds below m b k++kW below m (b++[ir b+(k:Nat)]):=by
 unfold Ds
 rw [List.range_succ,List.flatMap_append,List.flatMap_cons,List.flatMap_nil,List.append_nil]
theorem KU {below m:Nat} {b:List Int} {k:Nat} (h8:below≤8) (hf:0≤ir b) (hk:k≤8):(Ds below m b k).length≤8 * 8 ^ m:=by
 have h1:=qS (f:=fun i:Nat=>kW below m (b++[ir b+(i:Nat)])) (c:=8 ^ m) (l:=List.range k) fun i _=>nM h8 m _ (by rw [nG];omega)
 rw [List.length_range] at h1
 have h2:k * 8 ^ m≤8 * 8 ^ m:=Nat.mul_le_mul_right _ hk
 exact Nat.le_trans h1 h2
theorem JE {m:Nat} (h:m≤8):8 ^ m≤16777216:=by
 have:8 ^ m≤8 ^ 8:=Nat.pow_le_pow_right (by decide) h
 exact Nat.le_trans this (by decide)
abbrev eL (l:List Int):List AV:=[.sl (ints l) false]
abbrev eW (L:List (List Int)):List AV:=L.map fun l=>.sl (ints l) false
theorem lP:∀ L:List (List Int),(L.map eL).flatten=eW L
 | []=>rfl
 | l :: L=>by
  rw [List.map_cons,List.flatten_cons,lP L]
  rfl
theorem B9 (L:List (List Int)):cI (eW L)=true:=oz (fun _=>rfl) L
theorem KV (L:List (List Int)):(eW L).all AV.one=true:=by
 rw [List.all_map,List.all_eq_true]
 intro x _
 rfl
theorem iP (L:List (List Int)) (v:Nat):([.cells (eW L) 1 v]:List AB).all (AB.jb 1)=true:=by
 have h:AB.jb 1 (.cells (eW L) 1 v)=true:=gL 1 (fun _=>rfl) _
 simp only [List.all_cons,List.all_nil,h,Bool.and_true]
theorem En {L:List (List Int)} {B:List AV} {v w:Nat}:pM 1 0 ([.cells (eW L) 1 v,.cells B 1 w]:List AB)=true:=by
 have h:AB.kE 1 (.cells (eW L) 1 v)=true:=vM 1 (fun _=>rfl) _
 show ((false || AB.kE 1 (.cells (eW L) 1 v)) && true)=true
 rw [h]
 rfl
theorem zZ (L:List (List Int)):∀ el ∈ L.map eL,el.length=1:=fun el hel=>by obtain ⟨x,_,rfl⟩:=List.mem_map.1 hel;rfl
theorem oD (L:List (List Int)):(0:Nat)+L.length * 1≤(eW L).length∧(L.map eL).length=L.length∧(L.map eL).flatten=((eW L).drop 0).take (L.length * 1):=by
 refine ⟨by rw [List.length_map];omega,List.length_map _,?_⟩
 rw [lP,List.drop_zero,List.take_of_length_le (by rw [List.length_map];omega)]
theorem Of {below:Nat} {b:List Int} (hin:∀ x ∈ b,0≤x∧x < (below:Int)):0≤ir b∧ir b≤below:=by
 unfold ir
 cases h:b.getLast? with
 | none=>exact ⟨Int.le_refl _,by dsimp only;omega⟩
 | some x =>
  have:=hin x (List.mem_of_getLast? h)
  exact ⟨by dsimp only;omega,by dsimp only;omega⟩
theorem Qr (b:List Int) (x:Int):cI (([]:List AV)++(ints b).flatten++[eI x].flatten)=true∧0+(0+(ints b).length+[eI x].length) * 1≤(([]:List AV)++(ints b).flatten++[eI x].flatten).length∧(ints (b++[x])).length=0+(ints b).length+[eI x].length ∧
  (ints (b++[x])).flatten=((([]:List AV)++(ints b).flatten++[eI x].flatten).drop 0).take ((0+(ints b).length+[eI x].length) * 1):=by
 have e:(([]:List AV)++(ints b).flatten++[eI x].flatten)=dc (b++[x]):=by
  rw [List.nil_append,cR]
  unfold dc
  rw [List.map_append]
  rfl
 rw [e]
 have hl:(dc (b++[x])).length=b.length+1:=by rw [List.length_map,List.length_append];rfl
 refine ⟨ic _,by rw [hl];simp,by simp,?_⟩
 rw [cR,List.drop_zero,List.take_of_length_le (by rw [hl];simp)]
theorem qT (b:List Int):∀ el ∈ ints b,el.length=1:=fun el hel=>by obtain ⟨x,_,rfl⟩:=List.mem_map.1 hel;rfl
theorem KW (one:Bool) {below:Nat} (h8:below≤8):∀ (m:Nat) (b:List Int),m≤8→b.length+m≤16→(∀ x ∈ b,0≤x∧x < (below:Int))→Pu one 73 [.sl (ints b) false,aA (m:Nat),aA (below:Nat)] (.sl ((kW below m b).map eL) false):=by
 intro m
 induction m with
 | zero =>
  intro b _ _ _
  have d1:decide (((0:Nat):Int)=0)=true:=rfl
  refine ah.body (fn:=Tryz.f73) rfl rfl rfl rfl ?_
  refine aa (mu:=fun _=>false) ?_
  repeat' (first |refine u1 ?_ |refine u2 ?_ |fail)
  exact ⟨[_],⟨Fz.full,trivial⟩,rfl⟩
 | succ m ih =>
  intro b hm hb hin
  have d1:decide (((m+1:Nat):Int)=0)=false:=decide_eq_false (by omega)
  obtain ⟨f1,f2⟩:=Of hin
  refine ah.body (fn:=Tryz.f73) rfl rfl rfl rfl ?_
  refine RM.cv (mu:=fun _=>false) ?_
  repeat' (first |refine u1 ?_ |refine u2 ?_ |fail)
  refine RM.cv (mu:=fun _=>false) ?_
  repeat' (first |refine u1 ?_ |refine u2 ?_ |fail)
  refine RM.cv (mu:=fun _=>false) ?_
  repeat' (first |refine u1 ?_ |refine u2 ?_ |fail)
  refine RM.cutAt (st':=⟨aS [(0,.sl (ints b) false),(1,aA ((m+1:Nat):Int)),(2,aA (below:Nat)),(7,aA (ir b))],[],bJ.none,false,0⟩) ?_ ?_
  ·cases hbe:b with
   | nil =>
    have d2:decide ((0:Int) < (([]:List (List AV)).length:Int))=false:=by decide
    refine aa (mu:=fun _=>false) ?_
    repeat' (first |refine u1 ?_ |refine u2 ?_ |fail)
    exact .is (ai.to 0 rfl ⟨rfl,rfl,rfl,rfl,trivial⟩ (Nat.zero_le _) rfl rfl)
   | cons x l =>
    have hne:b ≠ []:=by rw [hbe];simp
    have hlen:0 < b.length:=by rw [hbe];simp
    rw [←hbe]
    have d2:decide ((0:Int) < ((ints b).length:Int))=true:=decide_eq_true (by rw [List.length_map];omega)
    have el:((ints b).length:Int)=b.length:=by simp
    have hlast:(ints b)[(((ints b).length:Int) - 1).toNat]?=some (eI (b.getLast hne)):=by
     have e:(((ints b).length:Int) - 1).toNat=b.length - 1:=by omega
     rw [e,List.getElem?_map,←List.getLast?_eq_getElem?,List.getLast?_eq_some_getLast hne]
     rfl
    have hfr:ir b=b.getLast hne+1:=by
     unfold ir
     rw [List.getLast?_eq_some_getLast hne]
    have hbd:=hin _ (List.getLast_mem hne)
    rw [hfr]
    generalize b.getLast hne=z at *
    refine aa (mu:=fun _=>false) ?_
    repeat' (first |refine u1 ?_ |((with_reducible show RM.wpOp _ _ (.indexAddr _ _ _) _ _ _);refine ⟨eI z,⟨by omega,hlast⟩,rfl,?_⟩) |refine u2 ?_ |fail)
    exact .is (ai.to 0 rfl ⟨rfl,rfl,rfl,rfl,trivial⟩ (Nat.zero_le _) rfl rfl)
  refine RM.cv (mu:=fun _=>false) ?_
  repeat' (first |refine u1 ?_ |refine u2 ?_ |fail)
  refine aB.seq ?_
  refine RM.cv (mu:=fun _=>false) ?_
  repeat' (first |refine u1 ?_ |refine u2 ?_ |fail)
  refine aB.block ?_
  refine aB.aJ (ai.trans (ai.nB 1) (ai.Mi (l:=[(0,.sl (ints b) false),(1,aA ((m+1:Nat):Int)),(2,aA (below:Nat)),(8,.bU 0 0 0 (Ds below m b 0).length 0),(9,aA (ir b+((0:Nat):Int)))]) (hp:=[.cells (eW (Ds below m b 0)) 1 0]) 1 rfl ⟨bT.refl _,bT.refl _,bT.refl _,bT.nA,by rw [Int.natCast_zero,Int.add_zero];exact bT.refl _,trivial⟩ (Nat.zero_le _) rfl (iP _ _))) ?_
  refine aB.loop (fun x:Nat × Nat × Nat=>(x.1:Int)≤(below:Int) - ir b∧(x.2.2=(Ds below m b x.1).length∨x.2.2=(Ds below m b x.1).length+1)) (fun x=>⟨aS [(0,.sl (ints b) false),(1,aA ((m+1:Nat):Int)),(2,aA (below:Nat)),(8,.bU 0 x.2.1 0 (Ds below m b x.1).length x.2.2),(9,aA (ir b+((x.1:Nat):Int)))],[.cells (eW (Ds below m b x.1)) 1 x.2.1],bJ.none,false,0⟩) (fun x=>((below:Int) - ir b).toNat - x.1) ?_ (0,0,0) ⟨by dsimp only;omega,.inl rfl⟩
  rintro ⟨k,aC,c⟩ ⟨hk,hcap⟩
  dsimp only at hk hcap
  show aB _ _ _ _ ⟨aS [(0,.sl (ints b) false),(1,aA ((m+1:Nat):Int)),(2,aA (below:Nat)),(8,.bU 0 aC 0 (Ds below m b k).length c),(9,aA (ir b+((k:Nat):Int)))],[.cells (eW (Ds below m b k)) 1 aC],bJ.none,false,0⟩ _
  have hll:=KU (below:=below) (m:=m) (b:=b) (k:=k) h8 f1 (by omega)
  have hp8:=JE (m:=m) (by omega)
  by_cases hlt:ir b+(k:Int) < (below:Int)
  ·have d2:=decide_eq_true hlt
   have hs1:=JD below m b k
   have hnl:=nM h8 m (b++[ir b+(k:Int)]) (by rw [nG];omega)
   have oc:=ih (b++[ir b+(k:Int)]) (by omega) (by rw [List.length_append];simp only [List.length_singleton];omega) (fun y hy=>by
    rcases List.mem_append.1 hy with hy|hy
    ·exact hin y hy
    ·rw [List.mem_singleton.1 hy];omega)
   rw [show ((m:Nat):Int)=((m+1:Nat):Int) - 1 by omega] at oc
   have hgl:(eW (Ds below m b k)).length=(Ds below m b k).length:=List.length_map _
   have ri:=Qr b (ir b+(k:Int))
   have hib:(ints b).length=b.length:=List.length_map _
   have hq1:(([]:List AV)++(ints b).flatten).length=(0+(ints b).length) * 1:=by rw [List.nil_append,cR,List.length_map,hib];omega
   have hq2:(0+(ints b).length+([eI (ir b+(k:Int))]:List (List AV)).length) * 8≤140737488355328∧0+(ints b).length+([eI (ir b+(k:Int))]:List (List AV)).length≤9223372036854775807:=by
    simp only [List.length_singleton]
    omega
   generalize hL:Ds below m b k=L at *
   generalize hN:kW below m (b++[ir b+(k:Int)])=N at *
   refine RM.cv (mu:=fun _=>false) ?_
   repeat' (first |refine u1 ?_ |refine u2 ?_ |fail)
   refine aB.seq ?_
   refine aB.block ?_
   refine aB.Oe (l1:=[_,_,_,_,_,_,_]) (l2:=[_,_,_,_,_,_]) (id1:=0) (id2:=0) rfl rfl ?_
   refine aB.seq ?_
   refine aa (mu:=fun t=>Nat.beq t 31) ?_
   repeat' (first |((with_reducible show RM.wpOp _ _ (.call _) _ _ _);refine RM.tB (cs:=[]) (n:=0) (c:=0) (els:=ints b) rfl rfl rfl rfl rfl (qT b) (by rw [cR];rw [List.all_map,List.all_eq_true];intro x _;rfl) rfl rfl (.inl rfl) (by exact ⟨by show (0+(ints b).length) * 8≤_;omega,by omega⟩) (fun v1 c1 hc1=>?_)) |((with_reducible show RM.wpOp _ _ (.call _) _ _ _);refine RM.tB (cs:=[]++(ints b).flatten) (n:=0+(ints b).length) (els:=[eI (ir b+(k:Int))]) rfl rfl rfl rfl rfl (fun el hel=>by rw [List.mem_singleton.1 hel];rfl) rfl rfl hq1 hc1 hq2 (fun v9 c9 hc9=>?_)) |refine u1 ?_ |refine u2 ?_ |fail)
   refine aB.aJ (ai.giveUp 1 (l:=[(0,.sl (ints b) false),(1,aA ((m+1:Nat):Int)),(2,aA (below:Nat)),(9,aA (ir b+(k:Int))),(30,.bU 0 aC 0 L.length c),(36,.sl (ints (b++[ir b+(k:Int)])) false)]) (hp:=[.cells (eW L) 1 aC,.gone]) rfl (Nat.zero_le _) ri.1 ⟨.same rfl,.same rfl,.same rfl,.same rfl,.same rfl,.row 1 ri.2.1 ri.2.2.1 (qT _) ri.2.2.2 (fun h=>Bool.noConfusion h),trivial⟩ En rfl) ?_
   refine aa (mu:=fun _=>false) ?_
   repeat' (first |((with_reducible show ax _ _ _ _ _ _ _ _);refine ah.call oc rfl rfl ?_) |((with_reducible show RM.wpOp _ _ (.call _) _ _ _);refine RM.tB (cs:=eW L) (n:=L.length) (els:=N.map eL) rfl rfl rfl rfl rfl (zZ N) (by rw [lP];exact KV N) rfl (by rw [hgl];exact (Nat.mul_one _).symm) hcap (by rw [List.length_map];exact ⟨by show (L.length+N.length) * 24≤_;omega,by omega⟩) (fun v' c' hc'=>?_)) |refine u1 ?_ |refine u2 ?_ |fail)
   refine aa (mu:=fun _=>false) ?_
   repeat' (first |refine u1 ?_ |refine u2 ?_ |fail)
   exact ⟨(k+1,v',c'),⟨by dsimp only;omega,by dsimp only;rw [hs1,List.length_append];rw [List.length_map] at hc';exact hc'⟩,(by dsimp only;omega),ai.to 1 (by dsimp only;rw [hs1,lP];unfold eW;rw [List.map_append];rfl) ⟨rfl,rfl,rfl,(by dsimp only;rw [hs1,List.length_append,List.length_map];rfl),aV (by dsimp only;omega),trivial⟩ (Nat.zero_le _) rfl (iP _ _)⟩
  ·have d2:=decide_eq_false hlt
   obtain rfl:k=((below:Int) - ir b).toNat:=by omega
   refine aa (mu:=fun _=>false) ?_
   repeat' (first |refine u1 ?_ |refine u2 ?_ |fail)
   refine aa (mu:=fun _=>false) ?_
   repeat' (first |refine u1 ?_ |refine u2 ?_ |fail)
   exact ⟨[_],⟨Fz.row (es:=1) rfl (oD _).1 (oD _).2.1 (zZ _) (oD _).2.2 (by rw [lP];exact B9 _) (fun h=>Bool.noConfusion h),trivial⟩,rfl⟩
end Go.Proofs.YtpeogffeoehboaaGreatDoor
