/-
  Contracts of the program's functions and of the document's. Lemmas alone; their conditions stand in them.
-/
import Derived.Test.YtlpmfgmldmdggaaGreatD2
open Go Go.RM
namespace Go.Proofs.YtlpmfgmldmdggaaGreat
set_option maxRecDepth 100000
set_option maxHeartbeats 4000000
theorem ints_same (one:Bool) (a:List Int) (f g:Bool) (hb:a.length≤maxLen):Pu one 25 [.sl (ints a) f,.sl (ints a) g] (BB true):=by
 have mb:a.length≤9223372036854775807:=Nat.le_trans hb (by simp [maxLen])
 have ea:((a.map eI).length:Int)=a.length:=by simp
 have d0:(!decide (((a.map eI).length:Int)=((a.map eI).length:Int)))=false:=by rw [decide_eq_true rfl];rfl
 refine af.body (fn:=Tryz.f25) rfl rfl rfl rfl ?_
 refine aa (mu:=fun _=>false) ?_
 repeat' (first |refine u1 ?_ |refine u2 ?_ |fail)
 refine aL.cr (ai.to (l:=[(0,.sl (a.map eI) f),(1,.sl (a.map eI) g),(5,aj (0:Nat))]) (hp:=[]) 0 rfl ⟨rfl,rfl,rfl,trivial⟩ (Nat.zero_le _) rfl rfl) ?_
 refine aL.loop (fun k:Nat=>k≤a.length) (fun k=>⟨cz [(0,.sl (a.map eI) f),(1,.sl (a.map eI) g),(5,aj (k:Nat))],[],bF.none,false,0⟩) (fun k=>a.length - k) ?_ 0 (Nat.zero_le _)
 intro k hk
 by_cases hlt:k < a.length
 ·have d1:decide ((k:Int) < ((a.map eI).length:Int))=true:=decide_eq_true (by omega)
  have hat:(a.map eI)[((k:Nat):Int).toNat]?=some (eI a[k]):=cM hlt
  generalize a[k]=x at *
  have d2:(!decide (x=x))=false:=by rw [decide_eq_true rfl];rfl
  refine aa (mu:=fun _=>false) ?_
  repeat' (first |refine u1 ?_ |((with_reducible show RM.wpOp _ _ (.indexAddr _ _ _) _ _ _);refine ⟨eI x,⟨by omega,hat⟩,rfl,?_⟩) |refine u2 ?_ |fail)
  exact ⟨k+1,hlt,(by dsimp only;omega),ai.to 0 rfl ⟨rfl,rfl,cZ (by simp),trivial⟩ (Nat.zero_le _) rfl rfl⟩
 ·have d1:decide ((k:Int) < ((a.map eI).length:Int))=false:=decide_eq_false (by omega)
  refine aa (mu:=fun _=>false) ?_
  repeat' (first |refine u1 ?_ |refine u2 ?_ |fail)
  exact ⟨[_],⟨Fz.deep rfl,trivial⟩,rfl⟩
def pyD (c:ay) (l:List Ev) (F G:Int) (k:Nat):List Int:=(List.range k).map fun m=>dueA c m (sP c l m G) / 1000 - dueA c m (sP c l m F) / 1000
theorem pyD_succ (c:ay) (l:List Ev) (F G:Int) (k:Nat):pyD c l F G (k+1)=pyD c l F G k++[dueA c k (sP c l k G) / 1000 - dueA c k (sP c l k F) / 1000]:=by
 unfold pyD
 rw [List.range_succ,List.map_append]
 rfl
theorem pyD_len (c:ay) (l:List Ev) (F G:Int) (k:Nat):(pyD c l F G k).length=k:=by unfold pyD;simp
theorem duesV_at {c:ay} {l:List Ev} (hv:Vd c l) {D:Int} (hD:0≤D) {i:Nat} (hi:i < c.aO.length):(duesV c (Cp c l D))[i]?=some (dueA c i (sP c l i D) / 1000):=by
 unfold duesV
 rw [HC hv hD,List.getElem?_mapIdx,List.getElem?_map,List.getElem?_range hi]
 rfl
theorem pyD_eq {c:ay} {l:List Ev} (hv:Vd c l) {F G:Int} (hF:0≤F) (hG:0≤G):subK (duesV c (Cp c l G)) (duesV c (Cp c l F)) c.aO.length=pyD c l F G c.aO.length:=by
 apply List.ext_getElem?
 intro i
 unfold subK pyD
 rw [List.getElem?_mapIdx,List.getElem?_map]
 by_cases hi:i < c.aO.length
 ·rw [duesV_at hv hG hi,duesV_at hv hF hi,List.getElem?_range hi]
  simp [hi]
 ·have hl:(duesV c (Cp c l G)).length=c.aO.length:=by rw [duesV_len,HC hv hG];simp
  rw [List.getElem?_eq_none (show (duesV c (Cp c l G)).length≤i by omega),List.getElem?_eq_none (show (List.range c.aO.length).length≤i by simpa using hi)]
  rfl
theorem dueA_b {c:ay} {l:List Ev} (hv:Vd c l) {D:Int} (hD:0≤D∧D≤40000) {i:Nat} (hi:i < c.aO.length):0≤dueA c i (sP c l i D)∧dueA c i (sP c l i D)≤40000000000:=by
 have hdb:=days_b (c:=c) (i:=i) hv.mono hD.1
 obtain ⟨mn,rk,w,ms,ra,rb,rc,rd,e,hmt,hrt,hrk,hb1,hb2,hb3,hra⟩:=rank_of hv.good (k:=i) hi
 have hq:=due_b hb1 hb2 hb3 hdb.1 (Int.le_trans hdb.2 hD.2)
 unfold dueA
 rw [hra]
 exact hq.2.2.2
theorem payE_doc (c:ay) (l:List Ev) (F G:Int):payE c l F G=if C7 c l F ≠ 0 then C7 c l F else if kS G 0 40000=false then 7 else if G < F then 2 else 0:=by
 unfold payE
 by_cases h1:C7 c l F=0
 ·have h2:(wC c l).2=0:=by
   unfold C7 at h1
   split at h1
   ·rename_i h;exact absurd h1 h
   ·rename_i h;exact Decidable.not_not.1 h
  have hG:C7 c l G=if kS G 0 40000=false then 7 else 0:=by
   unfold C7
   rw [if_neg (show ¬ ((wC c l).2 ≠ 0) from fun h=>h h2),bp]
   cases kS G 0 40000 <;> rfl
  rw [if_neg (show ¬ (C7 c l F ≠ 0) from fun h=>h h1),if_neg (show ¬ (C7 c l F ≠ 0) from fun h=>h h1),hG]
  cases kS G 0 40000 <;> rfl
 ·rw [if_pos h1,if_pos h1]
theorem rpay_c (one:Bool) (c:ay) (h:c.Ok) (l:List Ev) (f:Bool) (hl:l.length≤maxLen) (hd:∀ x ∈ l,x.day≤later) (F G:Int):Pu one 28 [.ag (aX c),.sl (l.map cO) f,aj F,aj G] (.tp [.sl (ints (payV c l F G)) false,aj (payE c l F G)]):=by
 have em:((c.aO.map bG).length:Int)=c.aO.length:=by simp
 have o1:=dated_c one c h l f hl hd F
 have o2:=i6 one G 0 40000
 have q0:decide ((0:Int)=0)=true:=rfl
 have q0':(!decide ((0:Int)=0))=false:=rfl
 have q7:decide ((7:Int)=0)=false:=rfl
 have q7':(!decide ((7:Int)=0))=true:=rfl
 have q2':(!decide ((2:Int)=0))=true:=rfl
 unfold payV
 by_cases he:C7 c l F=0
 ·obtain ⟨_,hv,hF⟩:=onE_vd hd he
  have hm5:=hv.good.aO
  cases e2:kS G 0 40000 with
  | false =>
   have hpe:payE c l F G=7:=by rw [payE_doc,if_neg (fun h=>h he),if_pos e2]
   rw [hpe,if_neg (by decide)]
   rw [he] at o1
   rw [e2] at o2
   refine af.body (fn:=Tryz.f28) rfl rfl rfl rfl ?_
   refine aa (mu:=fun _=>false) ?_
   repeat' (first |refine u1 ?_ |((with_reducible show ah _ _ _ _ _ _ _ _);refine af.call o1 rfl rfl ?_) |((with_reducible show ah _ _ _ _ _ _ _ _);refine af.call o2 rfl rfl ?_) |refine u2 ?_ |fail)
   exact ⟨[_,_],⟨Fz.nil,Fz.deep rfl,trivial⟩,rfl⟩
  | true =>
   have hG:=bL.1 e2
   by_cases h3:G < F
   ·have hpe:payE c l F G=2:=by rw [payE_doc,if_neg (fun h=>h he),if_neg (by rw [e2];simp),if_pos h3]
    have q3:decide (G < F)=true:=decide_eq_true h3
    rw [hpe,if_neg (by decide)]
    rw [he] at o1
    rw [e2] at o2
    refine af.body (fn:=Tryz.f28) rfl rfl rfl rfl ?_
    refine aa (mu:=fun _=>false) ?_
    repeat' (first |refine u1 ?_ |((with_reducible show ah _ _ _ _ _ _ _ _);refine af.call o1 rfl rfl ?_) |((with_reducible show ah _ _ _ _ _ _ _ _);refine af.call o2 rfl rfl ?_) |refine u2 ?_ |fail)
    exact ⟨[_,_],⟨Fz.nil,Fz.deep rfl,trivial⟩,rfl⟩
   ·have hpe:payE c l F G=0:=by rw [payE_doc,if_neg (fun h=>h he),if_neg (by rw [e2];simp),if_neg h3]
    have q3:decide (G < F)=false:=decide_eq_false h3
    rw [hpe,if_pos rfl,pyD_eq hv hF.1 hG.1]
    rw [he] at o1
    rw [e2] at o2
    refine af.body (fn:=Tryz.f28) rfl rfl rfl rfl ?_
    refine aa (mu:=fun t=>Nat.beq t 56) ?_
    repeat' (first |refine u1 ?_ |((with_reducible show ah _ _ _ _ _ _ _ _);refine af.call o1 rfl rfl ?_) |((with_reducible show ah _ _ _ _ _ _ _ _);refine af.call o2 rfl rfl ?_) |refine u2 ?_ |fail)
    refine aL.cr (ai.trans (ai.Ce 1) (ai.JR (l:=[(1,.sl (l.map cO) f),(2,aj F),(3,aj G),(4,.pt (aX c) 0),(11,.dY 0 ((0,0,0):Nat × Nat × Nat).2.1 0 ((0,0,0):Nat × Nat × Nat).1 ((0,0,0):Nat × Nat × Nat).2.2),(12,aj (((0,0,0):Nat × Nat × Nat).1:Nat))]) (hp:=[.cells (nums (pyD c l F G ((0,0,0):Nat × Nat × Nat).1)) 1 ((0,0,0):Nat × Nat × Nat).2.1]) 1 rfl ⟨jJ.refl _,jJ.refl _,jJ.refl _,jJ.refl _,jJ.Cd,jJ.refl _,trivial⟩ (Nat.zero_le _) rfl (nums_inb1 _ _))) ?_
    refine aL.loop (fun x:Nat × Nat × Nat=>x.1≤c.aO.length∧(x.2.2=x.1∨x.2.2=x.1+1)) (fun x=>⟨cz [(1,.sl (l.map cO) f),(2,aj F),(3,aj G),(4,.pt (aX c) 0),(11,.dY 0 x.2.1 0 x.1 x.2.2),(12,aj (x.1:Nat))],[.cells (nums (pyD c l F G x.1)) 1 x.2.1],bF.none,false,0⟩) (fun x=>c.aO.length - x.1) ?_ (0,0,0) ⟨Nat.zero_le _,.inl rfl⟩
    rintro ⟨k,v,cc⟩ ⟨hk,hcap⟩
    dsimp only at hk hcap
    show aL _ _ _ _ ⟨cz [(1,.sl (l.map cO) f),(2,aj F),(3,aj G),(4,.pt (aX c) 0),(11,.dY 0 ((k,v,cc):Nat × Nat × Nat).2.1 0 ((k,v,cc):Nat × Nat × Nat).1 ((k,v,cc):Nat × Nat × Nat).2.2),(12,aj (((k,v,cc):Nat × Nat × Nat).1:Nat))],[.cells (nums (pyD c l F G ((k,v,cc):Nat × Nat × Nat).1)) 1 ((k,v,cc):Nat × Nat × Nat).2.1],bF.none,false,0⟩ _
    dsimp only
    by_cases hlt:k < c.aO.length
    ·have dl:decide ((k:Int) < ((c.aO.map bG).length:Int))=true:=decide_eq_true (by omega)
     have p1:=due_c true c l f hv k hlt G hG
     have p2:=due_c true c l f hv k hlt F hF
     have b1:=dueA_b hv hG hlt
     have b2:=dueA_b hv hF hlt
     have hst:=pyD_succ c l F G k
     have hgl:(nums (pyD c l F G k)).length=k * 1:=by rw [List.length_map,pyD_len];omega
     generalize dueA c k (sP c l k G)=x at *
     generalize dueA c k (sP c l k F)=y at *
     refine aa (mu:=fun t=>Nat.beq t 56) ?_
     repeat' (first |((with_reducible show RM.wpOp _ _ (.call _) _ _ _);refine RM.Gx (cs:=nums (pyD c l F G k)) (n:=k) (els:=[[aj (x / 1000 - y / 1000)]]) rfl rfl rfl rfl rfl (fun el hel=>by rw [List.mem_singleton.1 hel];rfl) rfl rfl hgl hcap (by simp only [List.length_singleton];omega) (fun v' c' hc'=>?_)) |refine u1 ?_ |(refine ⟨_,_,.inl ⟨rfl,rfl⟩,p1,?_⟩) |(refine ⟨_,_,.inl ⟨rfl,rfl⟩,p2,?_⟩) |refine u2 ?_ |fail)
     exact ⟨(k+1,v',c'),⟨hlt,hc'⟩,(by dsimp only;omega),ai.to (hp:=[.cells (nums (pyD c l F G ((k+1,v',c'):Nat × Nat × Nat).1)) 1 ((k+1,v',c'):Nat × Nat × Nat).2.1]) 1 (by show _=[AB.cells (nums (pyD c l F G (k+1))) 1 v'];rw [hst];unfold nums;rw [List.map_append];rfl) ⟨rfl,rfl,rfl,rfl,rfl,cZ (by simp),trivial⟩ (Nat.zero_le _) rfl (nums_inb1 _ _)⟩
    ·have dl:decide ((k:Int) < ((c.aO.map bG).length:Int))=false:=decide_eq_false (by omega)
     have hkn:k=c.aO.length:=by omega
     subst hkn
     refine aa (mu:=fun _=>false) ?_
     repeat' (first |refine u1 ?_ |refine u2 ?_ |fail)
     exact ⟨[_,_],⟨nums_row rfl (pyD_len c l F G _),Fz.deep rfl,trivial⟩,rfl⟩
 ·have hpe:payE c l F G=C7 c l F:=by unfold payE;rw [if_pos he]
  rw [hpe,if_neg he]
  have q1:(!decide (C7 c l F=0))=true:=by rw [decide_eq_false he];rfl
  have q2:=decide_eq_false he
  generalize C7 c l F=e at *
  refine af.body (fn:=Tryz.f28) rfl rfl rfl rfl ?_
  refine aa (mu:=fun _=>false) ?_
  repeat' (first |refine u1 ?_ |((with_reducible show ah _ _ _ _ _ _ _ _);refine af.call o1 rfl rfl ?_) |((with_reducible show ah _ _ _ _ _ _ _ _);refine af.call o2 rfl rfl ?_) |refine u2 ?_ |fail)
  exact ⟨[_,_],⟨Fz.nil,Fz.deep rfl,trivial⟩,rfl⟩
end Go.Proofs.YtlpmfgmldmdggaaGreat
open Go Go.RM
namespace Go.Proofs.YtlpmfgmldmdggaaGreat
set_option maxRecDepth 100000
set_option maxHeartbeats 4000000
theorem payV_len {c:ay} {l:List Ev} {F G:Int} (hd:∀ x ∈ l,x.day≤later):(payV c l F G).length≤5:=by
 unfold payV
 split
 ·rename_i h
  unfold payE at h
  split at h
  ·rename_i h1;exact absurd h h1
  ·split at h
   ·rename_i h2;exact absurd h h2
   ·rename_i h2
    obtain ⟨_,hv,hG⟩:=onE_vd hd (Decidable.not_not.1 h2)
    have:=hv.good.aO
    rw [subK_len,duesV_len,HC hv hG.1]
    simp
    omega
 ·simp
theorem pays_c (c:ay) (h:c.Ok) (l:List Ev) (f:Bool) (hl:l.length≤maxLen) (hd:∀ x ∈ l,x.day≤later) (n m:Int):Pu false 4 [.ag (aX c),.sl (l.map cO) f,.ag [aj n,aj m]] (BB true):=by
 have o1:=pay_c false c h l f hl hd n m
 have o2:=rpay_c false c h l f hl hd n m
 have aw:=Jo true
 have hle:=payV_len (c:=c) (F:=n) (G:=m) hd
 have o3:=ints_same true (payV c l n m) false false (by simp [maxLen];omega)
 have aw':=Jo false
 have o3':=ints_same false (payV c l n m) false false (by simp [maxLen];omega)
 generalize payV c l n m=a at *
 generalize payE c l n m=e at *
 have d1:decide (e=e)=true:=decide_eq_true rfl
 refine af.body (fn:=Tryz.f4) rfl rfl rfl rfl ?_
 refine aa (mu:=fun _=>false) ?_
 repeat' (first |refine u1 ?_ |((with_reducible show ah _ _ _ _ _ _ _ _);refine af.call o1 rfl rfl ?_) |((with_reducible show ah _ _ _ _ _ _ _ _);refine af.call o2 rfl rfl ?_) |(refine ⟨_,_,.inl ⟨rfl,rfl⟩,o3,?_⟩) |(refine ⟨_,_,.inl ⟨rfl,rfl⟩,aw,?_⟩) |((with_reducible show ah _ _ _ _ _ _ _ _);refine af.call o3' rfl rfl ?_) |((with_reducible show ah _ _ _ _ _ _ _ _);refine af.call aw' rfl rfl ?_) |refine u2 ?_ |fail)
 exact ⟨[_],⟨Fz.deep rfl,trivial⟩,rfl⟩
end Go.Proofs.YtlpmfgmldmdggaaGreat
