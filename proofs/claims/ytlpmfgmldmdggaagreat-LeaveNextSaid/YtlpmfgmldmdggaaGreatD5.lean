/-
  Contracts of the program's functions and of the document's. Lemmas alone; their conditions stand in them.
-/
import Derived.Test.YtlpmfgmldmdggaaGreatD4
open Go Go.RM
namespace Go.Proofs.YtlpmfgmldmdggaaGreat
set_option maxRecDepth 100000
set_option maxHeartbeats 4000000
abbrev rowN (S:List Int) (av:Nat):AB:=.cells (nums S) 1 av
theorem rowN_get {S:List Int} {q:Nat} (h:q < S.length):(nums S)[0+((q:Nat):Int).toNat * 1]?=some (aj (nAt S q)):=nums_get (nAt_el h)
theorem insertion_c (one:Bool) {c:ay} (hg:Good c) (D:Int) {A:List Acc} (hA:A.length=c.aO.length) (L:List Int) (N:Nat) (hN:L.length=N) (h5:N≤5) (hL:∀ f ∈ L,0≤f∧f < c.aO.length) (hS0:SrtN (keyN c A) L N 1) {av cc:Nat} {au:bF} {Q:AV→List AB→bF→Prop} (hQ:∀ S:List Int,SrtN (keyN c A) S N N→S.Perm L→Q (.tp []) [rowN S av] au) :
  ah TT TB one (.fn 127 [] []) [.dY 0 av 0 N cc,aj 0,aj (N:Nat),F67 c D A] [rowN L av] au Q:=by
 refine ah.body (fn:=Tryz.f127) rfl rfl rfl ?_
 refine aa (mu:=fun _=>false) ?_
 repeat' (first |refine u1 ?_ |refine u2 ?_ |fail)
 refine aL.cr (ai.to (l:=[(0,.dY 0 av 0 N cc),(1,aj 0),(2,aj (N:Nat)),(3,F67 c D A),(8,aj (1:Nat))]) (hp:=[rowN L av]) 1 rfl ⟨rfl,rfl,rfl,rfl,rfl,trivial⟩ (Nat.le_refl _) rfl (nums_inb1 _ _)) ?_
 refine aL.loop (fun x:Nat × List Int=>(1≤x.1∧(x.1≤N∨x.1=1))∧SrtN (keyN c A) x.2 N x.1∧x.2.Perm L) (fun x=>⟨cz [(0,.dY 0 av 0 N cc),(1,aj 0),(2,aj (N:Nat)),(3,F67 c D A),(8,aj (x.1:Nat))],[rowN x.2 av],au,false,1⟩) (fun x=>N - x.1) ?_ (1,L) ⟨⟨Nat.le_refl _,.inr rfl⟩,hS0,List.Perm.refl _⟩
 have hmem:∀ {R:List Int},R.Perm L→∀ q,q < N→0≤nAt R q∧nAt R q < c.aO.length:=by
  intro R hR q hq
  have hRl:R.length=N:=by rw [hR.length_eq,hN]
  exact hL _ (hR.mem_iff.1 (nAt_mem (by omega)))
 rintro ⟨i,S⟩ ⟨⟨hi1,hi⟩,hso,hpe⟩
 dsimp only at hi1 hi hso hpe
 have hSl:S.length=N:=by rw [hpe.length_eq,hN]
 show aL _ _ _ _ ⟨cz [(0,.dY 0 av 0 N cc),(1,aj 0),(2,aj (N:Nat)),(3,F67 c D A),(8,aj (i:Nat))],[rowN S av],au,false,1⟩ _
 by_cases hc:i < N
 ·have d0:decide ((i:Int) < (N:Int))=true:=decide_eq_true (by omega)
  refine aa (mu:=fun _=>false) ?_
  repeat' (first |refine u1 ?_ |refine u2 ?_ |fail)
  refine aL.cr (ai.to (l:=[(0,.dY 0 av 0 N cc),(1,aj 0),(2,aj (N:Nat)),(3,F67 c D A),(8,aj (i:Nat)),(9,aj (i:Nat))]) (hp:=[rowN S av]) 1 rfl ⟨rfl,rfl,rfl,rfl,rfl,rfl,trivial⟩ (Nat.le_refl _) rfl (nums_inb1 _ _)) ?_
  refine aL.loop (fun x:Nat × List Int=>(x.1≤i)∧SinkN (keyN c A) x.2 N i x.1∧x.2.Perm L) (fun x=>⟨cz [(0,.dY 0 av 0 N cc),(1,aj 0),(2,aj (N:Nat)),(3,F67 c D A),(8,aj (i:Nat)),(9,aj (x.1:Nat))],[rowN x.2 av],au,false,1⟩) (fun x=>x.1) ?_ (i,S) ⟨Nat.le_refl _,SinkN.start hc hso,hpe⟩
  rintro ⟨j,R⟩ ⟨hj,hsi,hpr⟩
  dsimp only at hj hsi hpr
  have hRl:R.length=N:=by rw [hpr.length_eq,hN]
  show aL _ _ _ _ ⟨cz [(0,.dY 0 av 0 N cc),(1,aj 0),(2,aj (N:Nat)),(3,F67 c D A),(8,aj (i:Nat)),(9,aj (j:Nat))],[rowN R av],au,false,1⟩ _
  by_cases h0:j=0
  ·subst h0
   refine aa (mu:=fun _=>false) ?_
   repeat' (first |(refine RM.c5 (c:=14) (l1:=[_,_,_,_,_,_,_,_,_,_,_,_,_,_]) (l2:=[_,_,_]) (by kernel_rfl) rfl rfl ?_) |refine u1 ?_ |refine u2 ?_ |fail)
   refine ⟨(i+1,R),⟨⟨by omega,.inl (by dsimp only;omega)⟩,hsi.done (.inl rfl),hpr⟩,(by dsimp only;omega),?_⟩
   exact ai.to 1 rfl ⟨rfl,rfl,rfl,rfl,cZ (by simp),trivial⟩ (Nat.le_refl _) rfl (nums_inb1 _ _)
  ·have d1:decide ((0:Int) < (j:Int))=true:=decide_eq_true (by omega)
   have hgj:=rowN_get (S:=R) (q:=j) (by omega)
   have hgk:=rowN_get (S:=R) (q:=j - 1) (by omega)
   rw [show (((j - 1:Nat):Int))=(j:Int) - 1 by omega] at hgk
   have hlj:=hmem hpr j (by omega)
   have hlk:=hmem hpr (j - 1) (by omega)
   have hbig:=hsi.big (j - 1) (by omega) (by omega)
   have hdl:=cmp_key hg (A:=A) hlk.1 hbig hlj.2
   have hle:∀ one,af TT TB one (F67 c D A) [aj (nAt R j),aj (nAt R (j - 1))] (aj (cmpN c A (nAt R j) (nAt R (j - 1)))):=by
    intro one
    have:=cmp67_c one D hA (x:=(nAt R j).toNat) (y:=(nAt R (j - 1)).toNat) (by omega) (by omega)
    rw [show (((nAt R j).toNat:Nat):Int)=nAt R j by omega,show (((nAt R (j - 1)).toNat:Nat):Int)=nAt R (j - 1) by omega] at this
    exact this
   have hle1:=hle one
   have hle2:=hle true
   by_cases hl:keyN c A (nAt R j) < keyN c A (nAt R (j - 1))
   ·have dl:=hdl.trans (decide_eq_true hl)
    have hb1:Nat.ble (0+((j:Nat):Int).toNat * 1+1) (nums R).length=true:=Nat.ble_eq_true_of_le (by rw [List.length_map];omega)
    have he1:=nums_set (S:=R) (k:=j) (by omega) (nAt R (j - 1))
    have hb2:Nat.ble (0+(((j:Nat):Int) - 1).toNat * 1+1) (ey (nums R) [aj (nAt R (j - 1))] (0+((j:Nat):Int).toNat * 1)).length=true:=Nat.ble_eq_true_of_le (by rw [he1,List.length_map,List.length_set];omega)
    have he2:=nums_set (S:=R.set j (nAt R (j - 1))) (k:=j - 1) (by rw [List.length_set];omega) (nAt R j)
    rw [show (((j - 1:Nat):Int))=(j:Int) - 1 by omega,←he1] at he2
    refine aa (mu:=fun _=>false) ?_
    repeat' (first |(refine RM.c5 (c:=14) (l1:=[_,_,_,_,_,_,_,_,_,_,_,_,_,_]) (l2:=[_,_,_]) (by kernel_rfl) rfl rfl ?_) |((with_reducible show RM.wpOp _ _ (.load _ _) _ _ _);refine RM.JT rfl rfl rfl hgj ?_) |((with_reducible show RM.wpOp _ _ (.load _ _) _ _ _);refine RM.JT rfl rfl rfl hgk ?_) |((with_reducible show ah _ _ _ _ _ _ _ _);refine af.call hle1 rfl rfl ?_) |((with_reducible show dZ _ _ _ _ _ _);refine RM.vP rfl rfl rfl rfl rfl rfl hb1 ?_) |((with_reducible show dZ _ _ _ _ _ _);refine RM.vP rfl rfl rfl rfl rfl rfl hb2 ?_) |refine u1 ?_ |refine u2 ?_ |fail)
    refine ⟨(j - 1,swapN R j),⟨by dsimp only;omega,hsi.swap (by omega) hj (by omega) hl,(swapN_perm R (by omega)).trans hpr⟩,(by dsimp only;omega),?_⟩
    refine ai.to 1 ?_ ⟨rfl,rfl,rfl,rfl,rfl,cZ (by dsimp only;omega),trivial⟩ (Nat.le_refl _) rfl (nums_inb1 _ _)
    show [AB.cells (ey (ey (nums R) [aj (nAt R (j - 1))] (0+((j:Nat):Int).toNat * 1)) [aj (nAt R j)] (0+(((j:Nat):Int) - 1).toNat * 1)) 1 av]=[rowN (swapN R j) av]
    rw [he2]
    rfl
   ·have dl:=hdl.trans (decide_eq_false hl)
    refine aa (mu:=fun _=>false) ?_
    repeat' (first |(refine RM.c5 (c:=14) (l1:=[_,_,_,_,_,_,_,_,_,_,_,_,_,_]) (l2:=[_,_,_]) (by kernel_rfl) rfl rfl ?_) |((with_reducible show RM.wpOp _ _ (.load _ _) _ _ _);refine RM.JT rfl rfl rfl hgj ?_) |((with_reducible show RM.wpOp _ _ (.load _ _) _ _ _);refine RM.JT rfl rfl rfl hgk ?_) |((with_reducible show ah _ _ _ _ _ _ _ _);refine af.call hle1 rfl rfl ?_) |refine u1 ?_ |refine u2 ?_ |fail)
    refine ⟨(i+1,R),⟨⟨by omega,.inl (by dsimp only;omega)⟩,hsi.done (.inr (by omega)),hpr⟩,(by dsimp only;omega),?_⟩
    exact ai.to 1 rfl ⟨rfl,rfl,rfl,rfl,cZ (by simp),trivial⟩ (Nat.le_refl _) rfl (nums_inb1 _ _)
 ·have d0:decide ((i:Int) < (N:Int))=false:=decide_eq_false (by omega)
  refine aa (mu:=fun _=>false) ?_
  repeat' (first |refine u1 ?_ |refine u2 ?_ |fail)
  refine hQ S ⟨fun p q h1 h2=>hso.srt p q h1 (by omega),fun p q h1 h2 h3=>by omega⟩ hpe
end Go.Proofs.YtlpmfgmldmdggaaGreat
open Go Go.RM
namespace Go.Proofs.YtlpmfgmldmdggaaGreat
set_option maxRecDepth 100000
set_option maxHeartbeats 4000000
theorem stable_c (one:Bool) {c:ay} (hg:Good c) (D:Int) {A:List Acc} (hA:A.length=c.aO.length) (L:List Int) (N:Nat) (hN:L.length=N) (h5:N≤5) (hL:∀ f ∈ L,0≤f∧f < c.aO.length) (hS0:SrtN (keyN c A) L N 1) {av cc:Nat} {au:bF} {Q:AV→List AB→bF→Prop} (hQ:∀ S:List Int,SrtN (keyN c A) S N N→S.Perm L→Q (.tp []) [rowN S av] au) :
  ah TT TB one (.fn 108 [] []) [.dY 0 av 0 N cc,aj (N:Nat),F67 c D A] [rowN L av] au Q:=by
 have d1:decide ((20:Int)≤(N:Int))=false:=decide_eq_false (by omega)
 have d2:decide ((20:Int) < (N:Int))=false:=decide_eq_false (by omega)
 refine ah.body (fn:=Tryz.f108) rfl rfl rfl ?_
 refine aa (mu:=fun _=>false) ?_
 repeat' (first |refine u1 ?_ |refine u2 ?_ |fail)
 refine aL.cr (ai.to (l:=[(0,.dY 0 av 0 N cc),(1,aj (N:Nat)),(2,F67 c D A),(6,aj 20),(7,aj 0),(8,aj 20)]) (hp:=[rowN L av]) 1 rfl ⟨rfl,rfl,rfl,rfl,rfl,rfl,trivial⟩ (Nat.le_refl _) rfl (nums_inb1 _ _)) ?_
 refine aL.loop (fun _:Unit=>True) (fun _=>⟨cz [(0,.dY 0 av 0 N cc),(1,aj (N:Nat)),(2,F67 c D A),(6,aj 20),(7,aj 0),(8,aj 20)],[rowN L av],au,false,1⟩) (fun _=>0) ?_ () trivial
 intro _ _
 refine aa (mu:=fun _=>false) ?_
 repeat' (first |(refine insertion_c _ hg D hA L N hN h5 hL hS0 (fun S hso hpe=>?_)) |refine u1 ?_ |refine u2 ?_ |fail)
 refine aL.cr (ai.to (l:=[(0,.dY 0 av 0 N cc),(1,aj (N:Nat)),(2,F67 c D A),(6,aj 20),(7,aj 0),(8,aj 20)]) (hp:=[rowN S av]) 1 rfl ⟨rfl,rfl,rfl,rfl,rfl,rfl,trivial⟩ (Nat.le_refl _) rfl (nums_inb1 _ _)) ?_
 refine aL.loop (fun _:Unit=>True) (fun _=>⟨cz [(0,.dY 0 av 0 N cc),(1,aj (N:Nat)),(2,F67 c D A),(6,aj 20),(7,aj 0),(8,aj 20)],[rowN S av],au,false,1⟩) (fun _=>0) ?_ () trivial
 intro _ _
 refine aa (mu:=fun _=>false) ?_
 repeat' (first |refine u1 ?_ |refine u2 ?_ |fail)
 exact hQ S hso hpe
theorem sort_c (one:Bool) {c:ay} (hg:Good c) (D:Int) {A:List Acc} (hA:A.length=c.aO.length) (L:List Int) (N:Nat) (hN:L.length=N) (h5:N≤5) (hL:∀ f ∈ L,0≤f∧f < c.aO.length) (hS0:SrtN (keyN c A) L N 1) {av cc:Nat} {au:bF} {Q:AV→List AB→bF→Prop} (hQ:∀ S:List Int,SrtN (keyN c A) S N N→S.Perm L→Q (.tp []) [rowN S av] au) :
  ah TT TB one (.fn 66 [] []) [.dY 0 av 0 N cc,F67 c D A] [rowN L av] au Q:=by
 refine ah.body (fn:=Tryz.f66) rfl rfl rfl ?_
 refine aa (mu:=fun _=>false) ?_
 repeat' (first |(refine stable_c _ hg D hA L N hN h5 hL hS0 (fun S hso hpe=>?_)) |refine u1 ?_ |refine u2 ?_ |fail)
 exact hQ S hso hpe
def okN (A:List Acc) (m:Nat):Bool:=match A[m]? with
 | some a=>decide (a.place=0) && decide (1000≤a.gI)
 | none=>false
def pickN (A:List Acc) (k:Nat):List Int:=((List.range k).filter (okN A)).map fun m:Nat=>(m:Int)
theorem pickN_succ (A:List Acc) (k:Nat):pickN A (k+1)=if okN A k=true then pickN A k++[(k:Int)] else pickN A k:=by
 unfold pickN
 rw [List.range_succ,List.filter_append,List.map_append]
 cases h:okN A k <;> simp [h]
theorem pickN_mem {A:List Acc} {k:Nat}:∀ x ∈ pickN A k,0≤x∧x < k:=by
 intro x hx
 unfold pickN at hx
 obtain ⟨m,hm,rfl⟩:=List.mem_map.1 hx
 have:=List.mem_range.1 (List.mem_filter.1 hm).1
 omega
theorem pickN_len (A:List Acc) (k:Nat):(pickN A k).length≤k:=by
 unfold pickN
 rw [List.length_map]
 exact Nat.le_trans (List.length_filter_le _ _) (by simp)
theorem pickN_up (A:List Acc):∀ k,(pickN A k).Pairwise (· < ·)
 | 0=>List.Pairwise.nil
 | k+1=>by
  rw [pickN_succ]
  split
  ·rw [List.pairwise_append]
   refine ⟨pickN_up A k,List.pairwise_singleton _ _,fun a ha b hb=>?_⟩
   rw [List.mem_singleton.1 hb]
   exact (pickN_mem a ha).2
  ·exact pickN_up A k
theorem pickN_srt (rk:Int→Int) (A:List Acc) (k:Nat):SrtN rk (pickN A k) (pickN A k).length 1:=by
 refine ⟨fun p q h1 h2=>by omega,fun p q h1 h2 h3=>?_⟩
 have:=List.pairwise_iff_getElem.1 (pickN_up A k) p q (by omega) h3 h1
 unfold nAt
 rw [List.getD_eq_getElem?_getD,List.getElem?_eq_getElem (by omega),List.getD_eq_getElem?_getD,List.getElem?_eq_getElem h3]
 exact this
def nextV (c:ay) (A:List Acc):List Int:=sortN (keyN c A) (pickN A A.length)
def nextE (c:ay) (l:List Ev) (D:Int):List Int:=if C7 c l D=0 then nextV c (Cp c l D) else []
theorem next_uniq {c:ay} (hg:Good c) {A:List Acc} (hA:A.length=c.aO.length) {S:List Int} (h1:SrtN (keyN c A) S (pickN A A.length).length (pickN A A.length).length) (h2:S.Perm (pickN A A.length)):S=nextV c A:=by
 obtain ⟨h3,h4⟩:=sortN_spec (keyN c A) (pickN A A.length)
 refine srt_uniq (fun a ha b hb h=>?_) (srt_pair h2.length_eq h1) h4 (h2.trans h3.symm)
 have ba:=pickN_mem a (h2.mem_iff.1 ha)
 have bb:=pickN_mem b (h2.mem_iff.1 hb)
 rw [hA] at ba bb
 exact key_inj hg ba bb h
theorem next_c (one:Bool) (c:ay) (h:c.Ok) (l:List Ev) (f:Bool) (hl:l.length≤maxLen) (hm:∀ x ∈ l,x.day≤later) (D:Int):Pu one 23 [.ag (aX c),.sl (l.map cO) f,aj D] (.tp [.sl (ints (nextE c l D)) false,aj (C7 c l D)]):=by
 unfold nextE
 by_cases he:C7 c l D=0
 ·have o1:=Ji one c h l f hl hm D he
  rw [if_pos he,he]
  obtain ⟨_,hv,hD⟩:=onE_vd hm he
  obtain ⟨hla,_⟩:=atV_dok hv hD
  have hg:=hv.good
  have hm5:=hg.aO
  have d0:(!decide ((0:Int)=0))=false:=by decide
  unfold JX at o1
  generalize Cp c l D=A at *
  have ea:((A.map iz).length:Int)=A.length:=by simp
  refine af.body (fn:=Tryz.f23) rfl rfl rfl rfl ?_
  refine aa (mu:=fun t=>Nat.beq t 42) ?_
  repeat' (first |refine u1 ?_ |((with_reducible show ah _ _ _ _ _ _ _ _);refine af.call o1 rfl rfl ?_) |refine u2 ?_ |fail)
  refine aL.cr (ai.trans (ai.giveUp 0 (l:=[(3,.pt (aX c) 0),(6,.fl (.slice none 0 0)),(8,.pt [.pt (JW c D A) 0] 0),(24,.sl (A.map iz) false),(25,aj ((A.map iz).length:Int)),(26,aj ((0:Nat):Int))]) (hp:=[.gone]) rfl (Nat.zero_le _) rfl ⟨.same rfl,.same rfl,.ptr,.same rfl,.same rfl,.same rfl,trivial⟩ rfl rfl) (ai.trans (ai.to (l:=[(3,.pt (aX c) 0),(6,.fl (.slice none 0 0)),(8,.pt [.pt (JW c D A) 0] 0),(24,.sl (A.map iz) false),(25,aj ((A.map iz).length:Int)),(26,aj ((0:Nat):Int))]) (hp:=[]) 0 rfl ⟨rfl,rfl,rfl,rfl,rfl,rfl,trivial⟩ (Nat.zero_le _) rfl rfl) (ai.trans (ai.Ce 1) (ai.JR (l:=[(3,.pt (aX c) 0),(6,.dY 0 ((0,0,0):Nat × Nat × Nat).2.1 0 (pickN A ((0,0,0):Nat × Nat × Nat).1).length ((0,0,0):Nat × Nat × Nat).2.2),(8,.pt [.pt (JW c D A) 0] 0),(24,.sl (A.map iz) false),(25,aj ((A.map iz).length:Int)),(26,aj (((0,0,0):Nat × Nat × Nat).1:Nat))]) (hp:=[.cells (nums (pickN A ((0,0,0):Nat × Nat × Nat).1)) 1 ((0,0,0):Nat × Nat × Nat).2.1]) 1 rfl ⟨jJ.refl _,jJ.Cd,jJ.refl _,jJ.refl _,jJ.refl _,jJ.refl _,trivial⟩ (Nat.zero_le _) rfl (nums_inb1 _ _))))) ?_
  refine aL.loop (fun x:Nat × Nat × Nat=>x.1≤A.length∧(x.2.2=(pickN A x.1).length∨x.2.2=(pickN A x.1).length+1)) (fun x=>⟨cz [(3,.pt (aX c) 0),(6,.dY 0 x.2.1 0 (pickN A x.1).length x.2.2),(8,.pt [.pt (JW c D A) 0] 0),(24,.sl (A.map iz) false),(25,aj ((A.map iz).length:Int)),(26,aj (x.1:Nat))],[.cells (nums (pickN A x.1)) 1 x.2.1],bF.none,false,0⟩) (fun x=>A.length - x.1) ?_ (0,0,0) ⟨Nat.zero_le _,.inl rfl⟩
  rintro ⟨k,v,cc⟩ ⟨hk,hcap⟩
  dsimp only at hk hcap
  show aL _ _ _ _ ⟨cz [(3,.pt (aX c) 0),(6,.dY 0 ((k,v,cc):Nat × Nat × Nat).2.1 0 (pickN A ((k,v,cc):Nat × Nat × Nat).1).length ((k,v,cc):Nat × Nat × Nat).2.2),(8,.pt [.pt (JW c D A) 0] 0),(24,.sl (A.map iz) false),(25,aj ((A.map iz).length:Int)),(26,aj (((k,v,cc):Nat × Nat × Nat).1:Nat))],[.cells (nums (pickN A ((k,v,cc):Nat × Nat × Nat).1)) 1 ((k,v,cc):Nat × Nat × Nat).2.1],bF.none,false,0⟩ _
  dsimp only
  have hpl:=pickN_len A k
  by_cases hlt:k < A.length
  ·have dl:decide ((k:Int) < ((A.map iz).length:Int))=true:=decide_eq_true (by omega)
   have hat:(A.map iz)[((k:Nat):Int).toNat]?=some (iz A[k]):=cM hlt
   have hs:=pickN_succ A k
   have hok:okN A k=(decide (A[k].place=0) && decide (1000≤A[k].gI)):=by
    unfold okN
    rw [List.getElem?_eq_getElem hlt]
   have hgl:(nums (pickN A k)).length=(pickN A k).length * 1:=by rw [List.length_map];omega
   generalize A[k]=a at *
   obtain ⟨p,o,d0',d1,d2⟩:=a
   dsimp only at hok
   have hat:(A.map iz)[((k:Nat):Int).toNat]?=some [aj p,aj o,aj d0',aj d1,aj d2]:=hat
   cases e1:decide (p=0) with
   | false =>
    rw [e1] at hok
    rw [hok,if_neg (by simp)] at hs
    refine aa (mu:=fun t=>Nat.beq t 42) ?_
    repeat' (first |refine u1 ?_ |(refine ⟨[aj p,aj o,aj d0',aj d1,aj d2],⟨by omega,hat⟩,rfl,?_⟩) |refine u2 ?_ |fail)
    exact ⟨(k+1,v,cc),⟨hlt,by dsimp only;rw [hs];exact hcap⟩,(by dsimp only;omega),ai.to (hp:=[.cells (nums (pickN A ((k+1,v,cc):Nat × Nat × Nat).1)) 1 ((k+1,v,cc):Nat × Nat × Nat).2.1]) 1 (by show _=[AB.cells (nums (pickN A (k+1))) 1 v];rw [hs];rfl) ⟨rfl,by dsimp only;rw [hs];rfl,rfl,rfl,rfl,cZ (by simp),trivial⟩ (Nat.zero_le _) rfl (nums_inb1 _ _)⟩
   | true =>
    cases e2:decide (1000≤o) with
    | false =>
     rw [e1,e2] at hok
     rw [hok,if_neg (by simp)] at hs
     refine aa (mu:=fun t=>Nat.beq t 42) ?_
     repeat' (first |refine u1 ?_ |(refine ⟨[aj p,aj o,aj d0',aj d1,aj d2],⟨by omega,hat⟩,rfl,?_⟩) |refine u2 ?_ |fail)
     exact ⟨(k+1,v,cc),⟨hlt,by dsimp only;rw [hs];exact hcap⟩,(by dsimp only;omega),ai.to (hp:=[.cells (nums (pickN A ((k+1,v,cc):Nat × Nat × Nat).1)) 1 ((k+1,v,cc):Nat × Nat × Nat).2.1]) 1 (by show _=[AB.cells (nums (pickN A (k+1))) 1 v];rw [hs];rfl) ⟨rfl,by dsimp only;rw [hs];rfl,rfl,rfl,rfl,cZ (by simp),trivial⟩ (Nat.zero_le _) rfl (nums_inb1 _ _)⟩
    | true =>
     rw [e1,e2] at hok
     rw [hok] at hs
     have hs:pickN A (k+1)=pickN A k++[(k:Int)]:=hs
     have hsl:(pickN A (k+1)).length=(pickN A k).length+1:=by rw [hs,List.length_append];rfl
     refine aa (mu:=fun t=>Nat.beq t 42) ?_
     repeat' (first |((with_reducible show RM.wpOp _ _ (.call _) _ _ _);refine RM.Gx (cs:=nums (pickN A k)) (n:=(pickN A k).length) (els:=[[aj (k:Int)]]) rfl rfl rfl rfl rfl (fun el hel=>by rw [List.mem_singleton.1 hel];rfl) rfl rfl hgl hcap (by simp only [List.length_singleton];omega) (fun v' c' hc'=>?_)) |refine u1 ?_ |(refine ⟨[aj p,aj o,aj d0',aj d1,aj d2],⟨by omega,hat⟩,rfl,?_⟩) |refine u2 ?_ |fail)
     exact ⟨(k+1,v',c'),⟨hlt,by dsimp only;rw [hsl];exact hc'⟩,(by dsimp only;omega),ai.to (hp:=[.cells (nums (pickN A ((k+1,v',c'):Nat × Nat × Nat).1)) 1 ((k+1,v',c'):Nat × Nat × Nat).2.1]) 1 (by show _=[AB.cells (nums (pickN A (k+1))) 1 v'];rw [hs];unfold nums;rw [List.map_append];rfl) ⟨rfl,by dsimp only;rw [hsl];rfl,rfl,rfl,rfl,cZ (by simp),trivial⟩ (Nat.zero_le _) rfl (nums_inb1 _ _)⟩
  ·have dl:decide ((k:Int) < ((A.map iz).length:Int))=false:=decide_eq_false (by omega)
   have hkn:k=A.length:=by omega
   subst hkn
   refine aa (mu:=fun t=>Nat.beq t 42) ?_
   repeat' (first |(refine sort_c _ hg D hla (pickN A A.length) (pickN A A.length).length rfl (by omega) (fun x hx=>by have:=pickN_mem x hx;omega) (pickN_srt _ A A.length) (fun S hso hpe=>?_)) |refine u1 ?_ |refine u2 ?_ |fail)
   rw [←next_uniq hg hla hso hpe]
   exact ⟨[_,_],⟨nums_row rfl hpe.length_eq,Fz.deep rfl,trivial⟩,rfl⟩
 ·rw [if_neg he]
  have o1:=Il one c h l f hl D he
  have d1:(!decide (C7 c l D=0))=true:=by rw [decide_eq_false he];rfl
  generalize C7 c l D=e at *
  refine af.body (fn:=Tryz.f23) rfl rfl rfl rfl ?_
  refine aa (mu:=fun _=>false) ?_
  repeat' (first |refine u1 ?_ |((with_reducible show ah _ _ _ _ _ _ _ _);refine af.call o1 rfl rfl ?_) |refine u2 ?_ |fail)
  exact ⟨[_,_],⟨Fz.nil,Fz.deep rfl,trivial⟩,rfl⟩
end Go.Proofs.YtlpmfgmldmdggaaGreat
open Go Go.RM
namespace Go.Proofs.YtlpmfgmldmdggaaGreat
set_option maxRecDepth 100000
theorem rvG_append {c:ay}:∀ {l1:List Ev} {k:Nat} {p q:List Ev} (l2:List Ev),xh c k p l1=.inr q→xh c k p (l1++l2)=xh c (k+l1.length) q l2
 | [],k,p,q,l2,h=>by
  cases h
  rfl
 | x :: l1,k,p,q,l2,h=>by
  rw [wA] at h
  rw [List.cons_append,wA]
  split at h
  ·rename_i h1
   rw [if_pos h1,rvG_append l2 h,List.length_cons]
   congr 1
   omega
  ·cases h
theorem vd_until {c:ay} {l:List Ev} (hv:Vd c l) (D:Int):Vd c (cu D l):=by
 obtain ⟨q,hq⟩:=wz (n:=cP D l) hv.run
 rw [ja] at hq
 obtain ⟨h4,h5⟩:=rN iB hq
 rw [List.nil_append] at h4
 subst h4
 refine ⟨hv.good,?_,hq,h5⟩
 have:=FI D l
 have:=hv.len
 unfold cP at *
 omega
theorem until_self {D:Int} (l:List Ev):cu D (cu D l)=cu D l:=D7 (yf l)
theorem accV_until {c:ay} {l:List Ev} (hv:Vd c l) {D:Int} (hD:0≤D) (i:Nat):sP c (cu D l) i D=sP c l i D:=by
 rw [C9 hv.mono hD,C9 (vd_until hv D).mono hD,until_self]
abbrev goX (D:Int) (m:Nat):Ev:=⟨D,1,(m:Int),0⟩
theorem go_E {c:ay} {l:List Ev} {D:Int} (hD:0≤D∧D≤40000) {m:Nat} (hm:m < c.aO.length):fk c (cu D l) (goX D m)=uo c (cu D l) (goX D m):=by
 have hlast:aJ (cu D l)≤D:=by
  rw [←ja]
  exact Ct hD.1 (Nat.le_refl _)
 unfold fk
 have h1:kindOk (goX D m)=true:=by
  unfold kindOk
  rw [bp]
  rfl
 rw [if_neg (by rw [h1];simp)]
 have h2:dR 0 ((c.aO.length:Int) - 1) [(goX D m).qp,(goX D m).other]=false:=by
  rw [Bd,bL.2 (show 0≤((m:Nat):Int)∧((m:Nat):Int)≤(c.aO.length:Int) - 1 by omega),bL.2 (show (0:Int)≤0∧(0:Int)≤(c.aO.length:Int) - 1 by omega)]
  rfl
 rw [if_neg (by rw [h2];simp)]
 have h3:dR (aJ (cu D l)) 40000 [(goX D m).day]=false:=by
  rw [bp,bL.2 (show aJ (cu D l)≤D∧D≤40000 from ⟨hlast,hD.2⟩)]
  rfl
 rw [if_neg (by rw [h3];simp)]
theorem go_cl {c:ay} {l:List Ev} (hv:Vd c l) (hc:(oA c).2.2=0) {D:Int} (hD:0≤D∧D≤40000) {m:Nat} (hm:m < c.aO.length) (h20:(cu D l).length ≠ 20) :
  wC c (cu D l++[goX D m])=if uo c (cu D l) (goX D m)=0 then (0,0) else (((cu D l).length:Int),uo c (cu D l) (goX D m)):=by
 have hu:=vd_until hv D
 have hlen:=hu.len
 rw [FX (fun x hx=>by
  rcases List.mem_append.1 hx with hx|hx
  ·exact Int.le_trans (hu.mono.day x hx).2 (by decide)
  ·rw [List.mem_singleton.1 hx]
   exact Int.le_trans hD.2 (by decide)),if_neg (by rw [hc];simp),if_neg (by rw [List.length_append,List.length_singleton];omega),rvG_append _ hu.run,wA,go_E hD hm,Nat.zero_add]
 by_cases h:uo c (cu D l) (goX D m)=0
 ·rw [if_pos h,if_pos h]
  rfl
 ·rw [if_neg h,if_neg h]
theorem okN_at {c:ay} {l:List Ev} (hv:Vd c l) {D:Int} (hD:0≤D) {m:Nat} (hm:m < c.aO.length):okN (Cp c l D) m=(decide (aB c (cu D l) m=0) && decide (1000≤(sP c l m D).gI)):=by
 unfold okN
 rw [HC hv hD,List.getElem?_map,List.getElem?_range hm]
 rfl
theorem clV_chk {c:ay} {l:List Ev} (h:(wC c l).2=0):(oA c).2.2=0:=by
 unfold wC at h
 split at h
 ·rename_i h1;exact absurd h h1
 ·rename_i h1;exact Decidable.not_not.1 h1
theorem go_law {c:ay} {l:List Ev} (hcl:(wC c l).2=0) (hv:Vd c l) {D:Int} (hD:0≤D∧D≤40000) {m:Nat} (hm:m < c.aO.length) (h20:(cu D l).length ≠ 20) :
  (okN (Cp c l D) m=true∧aB c (cu D l) m=0∧(wC c (cu D l++[goX D m])=(0,0)∨wC c (cu D l++[goX D m])=(((cu D l).length:Int),8))) ∨
  (okN (Cp c l D) m=false∧wC c (cu D l++[goX D m])=(((cu D l).length:Int),9)):=by
 rw [go_cl hv (clV_chk hcl) hD hm h20,okN_at hv hD.1 hm,HA,accV_until hv hD.1]
 by_cases h1:aB c (cu D l) m=0
 ·rw [if_neg (show ¬ (aB c (cu D l) m ≠ 0) from fun h=>h h1),decide_eq_true h1]
  by_cases h2:(sP c l m D).gI < 1000
  ·right
   rw [if_pos h2,decide_eq_false (by omega)]
   exact ⟨rfl,rfl⟩
  ·left
   rw [if_neg h2,decide_eq_true (by omega)]
   refine ⟨rfl,h1,?_⟩
   split
   ·right;rfl
   ·left;rfl
 ·right
  rw [if_pos h1,decide_eq_false h1]
  exact ⟨rfl,rfl⟩
def hasN (L:List Int) (m:Int):Bool:=L.any fun z=>decide (z=m)
theorem hasN_take {L:List Int} {k:Nat} {z:Int} (h:L[k]?=some z) (m:Int):hasN (L.take (k+1)) m=(hasN (L.take k) m || decide (z=m)):=by
 unfold hasN
 rw [List.take_add_one,h,List.any_append]
 simp
theorem hasN_next {c:ay} {A:List Acc} {m:Nat} (hm:m < A.length):hasN (nextV c A) (m:Int)=okN A m:=by
 have h1:=(sortN_spec (keyN c A) (pickN A A.length)).1
 rw [Bool.eq_iff_iff]
 unfold hasN nextV
 rw [List.any_eq_true]
 constructor
 ·rintro ⟨z,hz,hd⟩
  have hz2:=h1.mem_iff.1 hz
  rw [of_decide_eq_true hd] at hz2
  unfold pickN at hz2
  obtain ⟨k,hk,he⟩:=List.mem_map.1 hz2
  have:k=m:=by omega
  subst this
  exact (List.mem_filter.1 hk).2
 ·intro h
  refine ⟨(m:Int),h1.mem_iff.2 ?_,decide_eq_true rfl⟩
  unfold pickN
  exact List.mem_map.2 ⟨m,List.mem_filter.2 ⟨List.mem_range.2 hm,h⟩,rfl⟩
theorem next_len (c:ay) (A:List Acc):(nextV c A).length≤A.length:=by
 have h1:=(sortN_spec (keyN c A) (pickN A A.length)).1.length_eq
 have:=pickN_len A A.length
 unfold nextV
 omega
end Go.Proofs.YtlpmfgmldmdggaaGreat
