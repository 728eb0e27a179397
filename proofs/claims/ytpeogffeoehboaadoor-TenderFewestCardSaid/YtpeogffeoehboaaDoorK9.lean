/-
  Contracts of the program's functions and of the document's. Lemmas alone; their conditions stand in them.
-/
import Derived.Test.YtpeogffeoehboaaDoorK3
import Derived.Test.YtpeogffeoehboaaDoorK7
import Derived.Test.YtpeogffeoehboaaDoorK8
open Go Go.RM
namespace Go.Proofs.YtpeogffeoehboaaDoor
set_option maxRecDepth 100000
set_option maxHeartbeats 4000000
def rk (f:Nat):Int:=([9,0,4,1,6,3,5,2]:List Int).getD f 9
theorem Ov:((List.range 8).all fun a=>(List.range 8).all fun b=>a == 0 || b == 0 || decide (rR (aL a) (aL b) < 0) == decide (rk a < rk b))=true:=by kernel_rfl
theorem Ow {a b:Nat} (ha:1≤a∧a < 8) (hb:1≤b∧b < 8):decide (rR (aL a) (aL b) < 0)=decide (rk a < rk b):=by
 have h:=List.all_eq_true.1 (List.all_eq_true.1 Ov a (List.mem_range.2 ha.2)) b (List.mem_range.2 hb.2)
 rw [Bool.or_eq_true,Bool.or_eq_true] at h
 rcases h with (h|h)|h
 ·have:a=0:=by simpa using h
  omega
 ·have:b=0:=by simpa using h
  omega
 ·exact eq_of_beq h
theorem Dr:((List.range 8).all fun a=>(List.range 8).all fun b=>a == 0 || b == 0 || a == b || !decide (rk a=rk b))=true:=by kernel_rfl
theorem Ox {a b:Nat} (ha:1≤a∧a < 8) (hb:1≤b∧b < 8) (e:rk a=rk b):a=b:=by
 have h:=List.all_eq_true.1 (List.all_eq_true.1 Dr a (List.mem_range.2 ha.2)) b (List.mem_range.2 hb.2)
 rw [decide_eq_true e] at h
 simp only [Bool.or_eq_true,beq_iff_eq,Bool.not_true,Bool.false_eq_true,or_false] at h
 omega
def mO (S:List Nat) (p:Nat):Nat:=S.getD p 0
def kF (S:List Nat) (m:Nat):Prop:=∀ p q:Nat,p < q→q < m→rk (mO S p)≤rk (mO S q)
def vG (S:List Nat) (j:Nat):List Nat:=(S.set j (mO S (j - 1))).set (j - 1) (mO S j)
theorem Ds (S:List Nat) {j:Nat} (hj:j < S.length):(vG S j).Perm S:=by
 unfold vG mO
 have h1:j - 1 < S.length:=by omega
 rw [List.getD_eq_getElem?_getD,List.getD_eq_getElem?_getD (i:=j),List.getElem?_eq_getElem h1,List.getElem?_eq_getElem hj]
 exact List.set_set_perm hj h1
theorem FD (S:List Nat) {j:Nat} (hj:j < S.length) (_h0:0 < j) (q:Nat):mO (vG S j) q=if q=j - 1 then mO S j else if q=j then mO S (j - 1) else mO S q:=by
 unfold vG mO
 rw [List.getD_eq_getElem?_getD,List.getElem?_set,List.getElem?_set]
 by_cases h1:j - 1=q
 ·subst h1
  rw [if_pos rfl,if_pos (by rw [List.length_set];omega),if_pos rfl]
  rfl
 ·rw [if_neg h1,if_neg (show ¬ q=j - 1 from fun h=>h1 h.symm)]
  by_cases h2:j=q
  ·subst h2
   rw [if_pos rfl,if_pos hj,if_pos rfl]
   rfl
  ·rw [if_neg h2,if_neg (show ¬ q=j from fun h=>h2 h.symm),List.getD_eq_getElem?_getD]
structure mh (S:List Nat) (i j:Nat):Prop where
 others:∀ p q:Nat,p < q→q≤i→p ≠ j→q ≠ j→rk (mO S p)≤rk (mO S q)
 above:∀ q:Nat,j < q→q≤i→rk (mO S j)≤rk (mO S q)
theorem mh.start {S:List Nat} {i:Nat} (h:kF S i):mh S i i:=⟨fun p q h1 h2 h3 h4=>h p q h1 (by omega),fun q h1 h2=>by omega⟩
theorem mh.swap {S:List Nat} {i j:Nat} (h:mh S i j) (hi:i < S.length) (hj:j≤i) (h0:0 < j) (hl:rk (mO S j) < rk (mO S (j - 1))):mh (vG S j) i (j - 1):=by
 have hg:=fun q=>FD S (j:=j) (by omega) h0 q
 constructor
 ·intro p q h1 h2 h3 h4
  rw [hg p,hg q,if_neg h3,if_neg h4]
  by_cases hp:p=j
  ·rw [if_pos hp,if_neg (by omega)]
   exact h.others (j - 1) q (by omega) h2 (by omega) (by omega)
  ·rw [if_neg hp]
   by_cases hq:q=j
   ·rw [if_pos hq]
    exact h.others p (j - 1) (by omega) (by omega) hp (by omega)
   ·rw [if_neg hq]
    exact h.others p q h1 h2 hp hq
 ·intro q h1 h2
  rw [hg (j - 1),hg q,if_pos rfl,if_neg (by omega)]
  by_cases hq:q=j
  ·rw [if_pos hq];omega
  ·rw [if_neg hq]
   exact h.above q (by omega) h2
theorem mh.done {S:List Nat} {i j:Nat} (h:mh S i j) (hd:j=0∨rk (mO S (j - 1))≤rk (mO S j)):kF S (i+1):=by
 intro p q h1 h2
 by_cases hp:p=j
 ·rw [hp];exact h.above q (by omega) (by omega)
 ·by_cases hq:q=j
  ·rcases hd with hd|hd
   ·omega
   ·rw [hq]
    by_cases hpj:p=j - 1
    ·rw [hpj];exact hd
    ·exact Int.le_trans (h.others p (j - 1) (by omega) (by omega) hp (by omega)) hd
  ·exact h.others p q h1 (by omega) hp hq
abbrev eF (f:Nat):AV:=.sl (ints (aL f)) false
abbrev jV (S:List Nat) (aB:Nat):AB:=.cells (S.map eF) 1 aB
theorem BX {S:List Nat} {q:Nat} (h:q < S.length):(S.map eF)[0+((q:Nat):Int).toNat * 1]?=some (eF (mO S q)):=by
 unfold mO
 rw [Int.toNat_natCast,Nat.zero_add,Nat.mul_one,List.getElem?_map,List.getD_eq_getElem?_getD,List.getElem?_eq_getElem h]
 rfl
theorem BZ {S:List Nat} {k:Nat} (h:k < S.length) (x:Nat):cN (S.map eF) [eF x] (0+((k:Nat):Int).toNat * 1)=(S.set k x).map eF:=by
 rw [Int.toNat_natCast,Nat.zero_add,Nat.mul_one,List.map_set,List.set_eq_take_append_cons_drop,if_pos (by rw [List.length_map];exact h)]
 unfold cN
 simp
theorem eE (S:List Nat) (v:Nat):([jV S v]:List AB).all (AB.gS 1)=true:=by
 have h:AB.gS 1 (jV S v)=true:=qD 1 (fun _=>rfl) _
 simp only [List.all_cons,List.all_nil,h,Bool.and_true]
theorem B0 (one:Bool) (L:List Nat) (N:Nat) (hN:L.length=N) (h12:N≤12) (hL:∀ f ∈ L,1≤f∧f < 8) {aB c:Nat} {aE:bR} {Q:AV→List AB→bR→Prop} (hQ:∀ S:List Nat,kF S N→S.Perm L→Q (.tp []) [jV S aB] aE) :
  av TT TB one (.fn 96 [] []) [.bO 0 aB 0 N c,aC 0,aC (N:Nat),.fn 80 [] []] [jV L aB] aE Q:=by
 refine av.body (fn:=Tryd.f96) rfl rfl rfl ?_
 refine aa (mu:=fun _=>false) ?_
 repeat' (first |refine u1 ?_ |refine u2 ?_ |fail)
 refine aA.aU (ak.to (l:=[(0,.bO 0 aB 0 N c),(1,aC 0),(2,aC (N:Nat)),(3,.fn 80 [] []),(8,aC (1:Nat))]) (hp:=[jV L aB]) 1 rfl ⟨rfl,rfl,rfl,rfl,rfl,trivial⟩ (Nat.le_refl _) rfl (eE _ _)) ?_
 refine aA.loop (fun x:Nat × List Nat=>(1≤x.1∧(x.1≤N∨x.1=1))∧kF x.2 x.1∧x.2.Perm L) (fun x=>⟨bu [(0,.bO 0 aB 0 N c),(1,aC 0),(2,aC (N:Nat)),(3,.fn 80 [] []),(8,aC (x.1:Nat))],[jV x.2 aB],aE,false,1⟩) (fun x=>N - x.1) ?_ (1,L) ⟨⟨Nat.le_refl _,.inr rfl⟩,(fun p q h1 h2=>by dsimp only at h2;omega),List.Perm.refl _⟩
 have hmem:∀ {R:List Nat},R.Perm L→∀ q,q < N→1≤mO R q∧mO R q < 8:=by
  intro R hR q hq
  have hRl:R.length=N:=by rw [hR.length_eq,hN]
  refine hL _ (hR.mem_iff.1 ?_)
  unfold mO
  rw [List.getD_eq_getElem?_getD,List.getElem?_eq_getElem (by omega)]
  exact List.getElem_mem _
 rintro ⟨i,S⟩ ⟨⟨hi1,hi⟩,hso,hpe⟩
 dsimp only at hi1 hi hso hpe
 have hSl:S.length=N:=by rw [hpe.length_eq,hN]
 show aA _ _ _ _ ⟨bu [(0,.bO 0 aB 0 N c),(1,aC 0),(2,aC (N:Nat)),(3,.fn 80 [] []),(8,aC (i:Nat))],[jV S aB],aE,false,1⟩ _
 refine aa (mu:=fun _=>false) ?_
 by_cases hc:i < N
 ·have d0:decide ((i:Int) < (N:Int))=true:=decide_eq_true (by omega)
  repeat' (first |refine u1 ?_ |refine u2 ?_ |fail)
  refine aA.aU (ak.to (l:=[(0,.bO 0 aB 0 N c),(1,aC 0),(2,aC (N:Nat)),(3,.fn 80 [] []),(8,aC (i:Nat)),(9,aC (i:Nat))]) (hp:=[jV S aB]) 1 rfl ⟨rfl,rfl,rfl,rfl,rfl,rfl,trivial⟩ (Nat.le_refl _) rfl (eE _ _)) ?_
  refine aA.loop (fun x:Nat × List Nat=>(x.1≤i)∧mh x.2 i x.1∧x.2.Perm L) (fun x=>⟨bu [(0,.bO 0 aB 0 N c),(1,aC 0),(2,aC (N:Nat)),(3,.fn 80 [] []),(8,aC (i:Nat)),(9,aC (x.1:Nat))],[jV x.2 aB],aE,false,1⟩) (fun x=>x.1) ?_ (i,S) ⟨Nat.le_refl _,mh.start hso,hpe⟩
  rintro ⟨j,R⟩ ⟨hj,hsi,hpr⟩
  dsimp only at hj hsi hpr
  have hRl:R.length=N:=by rw [hpr.length_eq,hN]
  show aA _ _ _ _ ⟨bu [(0,.bO 0 aB 0 N c),(1,aC 0),(2,aC (N:Nat)),(3,.fn 80 [] []),(8,aC (i:Nat)),(9,aC (j:Nat))],[jV R aB],aE,false,1⟩ _
  refine aa (mu:=fun _=>false) ?_
  by_cases h0:j=0
  ·subst h0
   repeat' (first |(refine RM.c5 (c:=14) (l1:=[_,_,_,_,_,_,_,_,_,_,_,_,_,_]) (l2:=[_,_,_]) (by kernel_rfl) rfl rfl ?_) |refine u1 ?_ |refine u2 ?_ |fail)
   refine ⟨(i+1,R),⟨⟨by omega,.inl (by dsimp only;omega)⟩,hsi.done (.inl rfl),hpr⟩,(by dsimp only;omega),?_⟩
   exact ak.to 1 rfl ⟨rfl,rfl,rfl,rfl,bM (by simp),trivial⟩ (Nat.le_refl _) rfl (eE _ _)
  ·have d1:decide ((0:Int) < (j:Int))=true:=decide_eq_true (by omega)
   have hgj:=BX (S:=R) (q:=j) (by omega)
   have hgk:=BX (S:=R) (q:=j - 1) (by omega)
   rw [show (((j - 1:Nat):Int))=(j:Int) - 1 by omega] at hgk
   have hlj:=hmem hpr j (by omega)
   have hlk:=hmem hpr (j - 1) (by omega)
   have hdl:=Ow hlj hlk
   have hlm:=fun f=>Nat.le_trans (og f) (show 8≤maxLen by simp [maxLen])
   have hle1:=JF one (aL (mO R j)) (aL (mO R (j - 1))) false false (hlm _) (hlm _)
   have hle2:=JF true (aL (mO R j)) (aL (mO R (j - 1))) false false (hlm _) (hlm _)
   by_cases hl:rk (mO R j) < rk (mO R (j - 1))
   ·have dl:=hdl.trans (decide_eq_true hl)
    have hb1:Nat.ble (0+((j:Nat):Int).toNat * 1+1) (R.map eF).length=true:=Nat.ble_eq_true_of_le (by rw [List.length_map];omega)
    have he1:=BZ (S:=R) (k:=j) (by omega) (mO R (j - 1))
    have hb2:Nat.ble (0+(((j:Nat):Int) - 1).toNat * 1+1) (cN (R.map eF) [eF (mO R (j - 1))] (0+((j:Nat):Int).toNat * 1)).length=true:=Nat.ble_eq_true_of_le (by rw [he1,List.length_map,List.length_set];omega)
    have he2:=BZ (S:=R.set j (mO R (j - 1))) (k:=j - 1) (by rw [List.length_set];omega) (mO R j)
    rw [show (((j - 1:Nat):Int))=(j:Int) - 1 by omega,←he1] at he2
    repeat' (first |(refine RM.c5 (c:=14) (l1:=[_,_,_,_,_,_,_,_,_,_,_,_,_,_]) (l2:=[_,_,_]) (by kernel_rfl) rfl rfl ?_) |((with_reducible show RM.wpOp _ _ (.load _ _) _ _ _);refine RM.KB rfl rfl rfl hgj ?_) |((with_reducible show RM.wpOp _ _ (.load _ _) _ _ _);refine RM.KB rfl rfl rfl hgk ?_) |((with_reducible show av _ _ _ _ _ _ _ _);refine ah.call hle1 rfl rfl ?_) |((with_reducible show cG _ _ _ _ _ _);refine RM.Mw rfl rfl rfl rfl rfl rfl hb1 ?_) |((with_reducible show cG _ _ _ _ _ _);refine RM.Mw rfl rfl rfl rfl rfl rfl hb2 ?_) |refine u1 ?_ |refine u2 ?_ |fail)
    refine ⟨(j - 1,vG R j),⟨by dsimp only;omega,hsi.swap (by omega) hj (by omega) hl,(Ds R (by omega)).trans hpr⟩,(by dsimp only;omega),?_⟩
    refine ak.to 1 ?_ ⟨rfl,rfl,rfl,rfl,rfl,bM (by dsimp only;omega),trivial⟩ (Nat.le_refl _) rfl (eE _ _)
    show [AB.cells (cN (cN (R.map eF) [eF (mO R (j - 1))] (0+((j:Nat):Int).toNat * 1)) [eF (mO R j)] (0+(((j:Nat):Int) - 1).toNat * 1)) 1 aB]=[jV (vG R j) aB]
    rw [he2]
    rfl
   ·have dl:=hdl.trans (decide_eq_false hl)
    repeat' (first |(refine RM.c5 (c:=14) (l1:=[_,_,_,_,_,_,_,_,_,_,_,_,_,_]) (l2:=[_,_,_]) (by kernel_rfl) rfl rfl ?_) |((with_reducible show RM.wpOp _ _ (.load _ _) _ _ _);refine RM.KB rfl rfl rfl hgj ?_) |((with_reducible show RM.wpOp _ _ (.load _ _) _ _ _);refine RM.KB rfl rfl rfl hgk ?_) |((with_reducible show av _ _ _ _ _ _ _ _);refine ah.call hle1 rfl rfl ?_) |refine u1 ?_ |refine u2 ?_ |fail)
    refine ⟨(i+1,R),⟨⟨by omega,.inl (by dsimp only;omega)⟩,hsi.done (.inr (by omega)),hpr⟩,(by dsimp only;omega),?_⟩
    exact ak.to 1 rfl ⟨rfl,rfl,rfl,rfl,bM (by simp),trivial⟩ (Nat.le_refl _) rfl (eE _ _)
 ·have d0:decide ((i:Int) < (N:Int))=false:=decide_eq_false (by omega)
  repeat' (first |refine u1 ?_ |refine u2 ?_ |fail)
  refine hQ S (fun p q h1 h2=>hso p q h1 (by omega)) hpe
theorem Qu (one:Bool) (L:List Nat) (N:Nat) (hN:L.length=N) (h12:N≤12) (hL:∀ f ∈ L,1≤f∧f < 8) (lim:Int) {aB c:Nat} {aE:bR} {Q:AV→List AB→bR→Prop} (hQ:∀ S:List Nat,kF S N→S.Perm L→Q (.tp []) [jV S aB] aE) :
  av TT TB one (.fn 94 [] []) [.bO 0 aB 0 N c,aC 0,aC (N:Nat),aC lim,.fn 80 [] []] [jV L aB] aE Q:=by
 refine av.body (fn:=Tryd.f94) rfl rfl rfl ?_
 refine aa (mu:=fun _=>false) ?_
 repeat' (first |refine u1 ?_ |refine u2 ?_ |fail)
 refine aA.aU (ak.to (l:=[(0,.bO 0 aB 0 N c),(1,aC 0),(2,aC (N:Nat)),(3,aC lim),(4,.fn 80 [] []),(10,.fl (.bool true)),(11,.fl (.bool true))]) (hp:=[jV L aB]) 1 rfl ⟨rfl,rfl,rfl,rfl,rfl,rfl,rfl,trivial⟩ (Nat.le_refl _) rfl (eE _ _)) ?_
 refine aA.loop (fun _:Unit=>True) (fun _=>⟨bu [(0,.bO 0 aB 0 N c),(1,aC 0),(2,aC (N:Nat)),(3,aC lim),(4,.fn 80 [] []),(10,.fl (.bool true)),(11,.fl (.bool true))],[jV L aB],aE,false,1⟩) (fun _=>0) ?_ () trivial
 intro _ _
 refine aa (mu:=fun _=>false) ?_
 have d1:decide ((N:Int) - 0≤12)=true:=decide_eq_true (by omega)
 repeat' (first |(refine B0 _ L N hN h12 hL (fun S hso hpe=>?_)) |refine u1 ?_ |refine u2 ?_ |fail)
 exact hQ S hso hpe
def Oy (n:Nat):Int:=([0,1,2,2,3,3,3,3,4,4,4,4,4]:List Int).getD n 0
theorem KZ (one:Bool) (n:Nat) (hn:n≤12):Pu one 105 [.fl (.int .u64 n)] (aC (Oy n)):=by
 match n,hn with
 | 0,_|1,_|2,_|3,_|4,_|5,_|6,_|7,_|8,_|9,_|10,_|11,_|12,_ =>
  refine ah.body (fn:=Tryd.f105) rfl rfl rfl rfl ?_
  refine aa (mu:=fun _=>false) ?_
  repeat' (first |(refine RM.b1 rfl rfl (of_decide_eq_true (by kernel_rfl)) ?_) |refine u1 ?_ |refine u2 ?_ |fail)
  exact ⟨[_],⟨Fz.deep rfl,trivial⟩,by kernel_rfl⟩
theorem Qv (one:Bool) (n:Nat) (hn:n≤12):Pu one 95 [.fl (.int .u64 n)] (aC (Oy n)):=by
 have hv:=KZ one n hn
 refine ah.body (fn:=Tryd.f95) rfl rfl rfl rfl ?_
 refine aa (mu:=fun _=>false) ?_
 repeat' (first |refine u1 ?_ |refine u2 ?_ |fail)
 exact ⟨[_],⟨Fz.deep rfl,trivial⟩,rfl⟩
theorem Dt:∀ {N:Nat},N≤12→IntKind.u64.wrap (N:Int)=(N:Int)
 | 0,_|1,_|2,_|3,_|4,_|5,_|6,_|7,_|8,_|9,_|10,_|11,_|12,_=>rfl
theorem Oz (one:Bool) (L:List Nat) (N:Nat) (hN:L.length=N) (h12:N≤12) (hL:∀ f ∈ L,1≤f∧f < 8) {aB c:Nat} {aE:bR} {Q:AV→List AB→bR→Prop} (hQ:∀ S:List Nat,kF S N→S.Perm L→Q (.tp []) [jV S aB] aE) :
  av TT TB one (.fn 91 [] []) [.bO 0 aB 0 N c,.fn 80 [] []] [jV L aB] aE Q:=by
 refine av.body (fn:=Tryd.f91) rfl rfl rfl ?_
 refine aa (mu:=fun _=>false) ?_
 have hw:IntKind.u64.wrap (N:Int)=(N:Int):=Dt h12
 have hv:Pu one 95 [.fl (.int .u64 (IntKind.u64.wrap (N:Int)))] (aC (Oy N)):=by rw [hw];exact Qv one N h12
 repeat' (first |(refine Qu _ L N hN h12 hL _ (fun S hso hpe=>?_)) |refine u1 ?_ |refine u2 ?_ |fail)
 exact hQ S hso hpe
end Go.Proofs.YtpeogffeoehboaaDoor
open Go Go.RM
namespace Go.Proofs.YtpeogffeoehboaaDoor
set_option maxRecDepth 100000
def sJ (s:ai) (f k:Nat):Bool:=(List.range k).all fun n=>f.testBit n || decide (s.load < oO s (aL f)+wP s (n:Nat))
def lC (s:ai) (f:Nat):Bool:=decide (oO s (aL f)≤s.load) && sJ s f s.needs.length
theorem Du {s:ai} {f k:Nat}:sJ s f (k+1)=(sJ s f k && (f.testBit k || decide (s.load < oO s (aL f)+wP s (k:Nat)))):=by
 unfold sJ
 rw [List.range_succ,List.all_append]
 simp
theorem FE {s:ai} {f k:Nat} (hk:k < s.needs.length) (hb:f.testBit k=false) (hw:oO s (aL f)+wP s (k:Nat)≤s.load):lC s f=false:=by
 have:sJ s f s.needs.length=false:=by
  rw [←Bool.not_eq_true]
  intro h
  have:=List.all_eq_true.1 h k (List.mem_range.2 hk)
  rw [hb,Bool.false_or,decide_eq_true_eq] at this
  omega
 unfold lC
 rw [this,Bool.and_false]
def jd (s:ai):Nat→List Nat
 | 0=>[]
 | k+1=>if lC s (k+1)=true then jd s k++[k+1] else jd s k
theorem ow {s:ai} {k:Nat}:jd s (k+1)=if lC s (k+1)=true then jd s k++[k+1] else jd s k:=rfl
theorem B1 {s:ai}:∀ k,(jd s k).length≤k
 | 0=>Nat.le_refl _
 | k+1=>by
  have:=B1 (s:=s) k
  rw [ow]
  split
  ·rw [List.length_append,List.length_singleton];omega
  ·omega
theorem nD {s:ai} {f:Nat}:∀ {k:Nat},f ∈ jd s k ↔ (1≤f∧f≤k)∧lC s f=true
 | 0=>by
  constructor
  ·intro h;cases h
  ·rintro ⟨⟨_,_⟩,_⟩;omega
 | k+1=>by
  rw [ow]
  have ih:=nD (s:=s) (f:=f) (k:=k)
  split
  ·rename_i hf
   rw [List.mem_append,ih,List.mem_singleton]
   constructor
   ·rintro (⟨h,h2⟩|rfl)
    ·exact ⟨by omega,h2⟩
    ·exact ⟨by omega,hf⟩
   ·rintro ⟨h,h2⟩
    by_cases e:f=k+1
    ·exact .inr e
    ·exact .inl ⟨by omega,h2⟩
  ·rename_i hf
   rw [ih]
   constructor
   ·rintro ⟨h,h2⟩;exact ⟨by omega,h2⟩
   ·rintro ⟨h,h2⟩
    refine ⟨?_,h2⟩
    by_cases e:f=k+1
    ·subst e;exact absurd h2 hf
    ·omega
theorem zJ {s:ai}:∀ k,(jd s k).Pairwise (· < ·)
 | 0=>.nil
 | k+1=>by
  rw [ow]
  split
  ·rw [List.pairwise_append]
   refine ⟨zJ k,List.pairwise_singleton _ _,fun a ha b hb=>?_⟩
   have:=(nD.1 ha).1
   rw [List.mem_singleton.1 hb]
   omega
  ·exact zJ k
def aI (s:ai):List Nat:=([1,3,7,5,2,6,4]:List Nat).filter fun f=>decide (f < 2 ^ s.needs.length) && lC s f
theorem nE {s:ai} (hg:Good s) {f:Nat}:f ∈ aI s ↔ (1≤f∧f < 2 ^ s.needs.length)∧lC s f=true:=by
 unfold aI
 have h3:=hg.len
 have hp:2 ^ s.needs.length≤2 ^ 3:=Nat.pow_le_pow_right (by decide) h3.2
 simp only [List.mem_filter,List.mem_cons,List.not_mem_nil,or_false,Bool.and_eq_true,decide_eq_true_eq]
 constructor
 ·rintro ⟨h1,h2,h4⟩;exact ⟨⟨by omega,h2⟩,h4⟩
 ·rintro ⟨⟨h1,h2⟩,h4⟩;exact ⟨by omega,h2,h4⟩
theorem xY:∀ {S R:List Nat},S.Pairwise (fun a b=>rk a < rk b)→R.Pairwise (fun a b=>rk a < rk b)→(∀ x,x ∈ S ↔ x ∈ R)→S=R
 | [],[],_,_,_=>rfl
 | [],b :: R,_,_,h=>absurd ((h b).2 List.mem_cons_self) (by simp)
 | a :: S,[],_,_,h=>absurd ((h a).1 List.mem_cons_self) (by simp)
 | a :: S,b :: R,h1,h2,h=>by
  rw [List.pairwise_cons] at h1 h2
  have e:a=b:=by
   rcases List.mem_cons.1 ((h a).1 List.mem_cons_self) with e|ha
   ·exact e
   ·rcases List.mem_cons.1 ((h b).2 List.mem_cons_self) with e|hb
    ·exact e.symm
    ·have:=h1.1 b hb
     have:=h2.1 a ha
     omega
  subst e
  rw [xY h1.2 h2.2 fun x=>?_]
  constructor
  ·intro hx
   rcases List.mem_cons.1 ((h x).1 (List.mem_cons_of_mem _ hx)) with e|hr
   ·subst e;have:=h1.1 x hx;omega
   ·exact hr
  ·intro hx
   rcases List.mem_cons.1 ((h x).2 (List.mem_cons_of_mem _ hx)) with e|hr
   ·subst e;have:=h2.1 x hx;omega
   ·exact hr
theorem Dv {s:ai} (hg:Good s) {S:List Nat} {N:Nat} (hN:S.length=N) (hs:kF S N) (hp:S.Perm (jd s (2 ^ s.needs.length - 1))):S=aI s:=by
 have h3:=hg.len
 have hp8:2 ^ s.needs.length≤2 ^ 3:=Nat.pow_le_pow_right (by decide) h3.2
 have hnd:S.Nodup:=hp.nodup_iff.2 ((zJ _).imp fun h=>by omega)
 have hmem:∀ x ∈ S,1≤x∧x < 8:=fun x hx=>by
  have:=(nD.1 (hp.mem_iff.1 hx)).1
  omega
 refine xY ?_ ?_ fun x=>?_
 ·rw [List.pairwise_iff_getElem]
  intro i j hi hj hij
  have h:=hs i j hij (by omega)
  unfold mO at h
  rw [List.getD_eq_getElem?_getD,List.getD_eq_getElem?_getD,List.getElem?_eq_getElem hi,List.getElem?_eq_getElem hj] at h
  simp only [Option.getD_some] at h
  have hne:S[i] ≠ S[j]:=(List.pairwise_iff_getElem.1 hnd) i j hi hj hij
  have:rk S[i] ≠ rk S[j]:=fun e=>hne (Ox (hmem _ (List.getElem_mem hi)) (hmem _ (List.getElem_mem hj)) e)
  omega
 ·unfold aI
  exact List.Pairwise.filter _ (by decide)
 ·rw [hp.mem_iff,nD,nE hg]
  have:1≤2 ^ s.needs.length:=Nat.one_le_two_pow
  constructor
  ·rintro ⟨h1,h2⟩;exact ⟨by omega,h2⟩
  ·rintro ⟨h1,h2⟩;exact ⟨by omega,h2⟩
theorem xZ {f k:Nat} (hf:f < 2 ^ k) (hk:k≤8):(aL f).length≤k∧∀ x ∈ aL f,0≤x∧x < (k:Nat):=by
 have hin:∀ x ∈ aL f,0≤x∧x < (k:Nat):=by
  intro x hx
  unfold aL at hx
  simp only [List.mem_map,List.mem_filter,List.mem_range] at hx
  obtain ⟨m,⟨h1,h2⟩,rfl⟩:=hx
  refine ⟨by omega,?_⟩
  by_cases hkm:k≤m
  ·rw [Nat.testBit_lt_two_pow (Nat.lt_of_lt_of_le hf (Nat.pow_le_pow_right (by decide) hkm))] at h2
   cases h2
  ·omega
 have hpw:(aL f).Pairwise (· < ·):=by
  unfold aL
  rw [List.pairwise_map]
  exact (List.Pairwise.filter _ List.pairwise_lt_range).imp fun h=>by omega
 have hgt:∀ (l:List Int),l.Pairwise (· < ·)→(∀ x ∈ l,0≤x∧x < (k:Nat))→l.length≤k:=by
  intro l hl hb
  have hge:∀ (i:Nat) (hi:i < l.length),(i:Int)≤l[i]:=by
   intro i
   induction i with
   | zero=>intro hi;exact (hb _ (List.getElem_mem hi)).1
   | succ i ih =>
    intro hi
    have h1:=ih (by omega)
    have h2:=List.pairwise_iff_getElem.1 hl i (i+1) (by omega) hi (by omega)
    omega
  by_cases h0:l.length=0
  ·omega
  ·have h1:=hge (l.length - 1) (by omega)
   have h2:=(hb _ (List.getElem_mem (show l.length - 1 < l.length by omega))).2
   omega
 exact ⟨hgt _ hpw hin,hin⟩
end Go.Proofs.YtpeogffeoehboaaDoor
open Go Go.RM
namespace Go.Proofs.YtpeogffeoehboaaDoor
set_option maxRecDepth 100000
def ct (s:ai):List Int→List Order→Option (List Order)
 | [],b=>if eR s b 0 0 s.fail=true then some b else none
 | d :: ds,b=>(aI s).findSome? fun f=>ct s ds (b++[⟨d,aL f⟩])
theorem jN {s:ai}:∀ {ds:List Int} {b p:List Order},ct s ds b=some p→∃ q:List Order,p=b++q∧q.map (·.day)=ds∧(∀ o ∈ q,∃ f ∈ aI s,o.aG=aL f)∧eR s p 0 0 s.fail=true
 | [],b,p,h=>by
  unfold ct at h
  split at h
  ·rename_i hh
   cases h
   exact ⟨[],(List.append_nil _).symm,rfl,(fun o ho=>by cases ho),hh⟩
  ·cases h
 | d :: ds,b,p,h=>by
  rw [ct,List.findSome?_eq_some_iff] at h
  obtain ⟨l1,f,l2,e,h,_⟩:=h
  obtain ⟨q,rfl,q2,q3,q4⟩:=jN h
  refine ⟨⟨d,aL f⟩ :: q,by simp,by rw [List.map_cons,q2],fun o ho=>?_,q4⟩
  rcases List.mem_cons.1 ho with rfl|ho
  ·exact ⟨f,by rw [e];simp,rfl⟩
  ·exact q3 o ho
theorem vH {s:ai}:∀ {ds:List Int} {b:List Order},ct s ds b=none→∀ q:List Order,q.map (·.day)=ds→(∀ o ∈ q,∃ f ∈ aI s,o.aG=aL f)→eR s (b++q) 0 0 s.fail=false
 | [],b,h,q,hq,_=>by
  unfold ct at h
  split at h
  ·cases h
  ·rename_i hh
   have:q=[]:=by simpa using hq
   rw [this,List.append_nil]
   simpa using hh
 | d :: ds,b,h,[],hq,_=>by cases hq
 | d :: ds,b,h,o :: q,hq,hc=>by
  rw [ct,List.findSome?_eq_none_iff] at h
  rw [List.map_cons,List.cons.injEq] at hq
  obtain ⟨f,hf,hof⟩:=hc o List.mem_cons_self
  have:=vH (h f hf) q hq.2 fun o ho=>hc o (List.mem_cons_of_mem _ ho)
  have e:o=⟨d,aL f⟩:=by
   obtain ⟨od,oc⟩:=o
   simp only at hq hof
   rw [hq.1,hof]
  rw [e,List.append_cons]
  exact this
theorem FF {s:ai} {b q:List Order} {e:Int} (hq:∀ o ∈ q,e≤o.day) {n d:Nat} (hd:(d:Int) < e):kC s (b++q) 0 n d=kC s b 0 n d:=by
 unfold kC
 split
 ·refine TeLaw.xQ d fun i hi=>?_
  rw [Bool.eq_iff_iff,qB,qB]
  constructor
  ·rintro ⟨j,hj,h1,h2,h3⟩
   by_cases hjb:j < b.length
   ·rw [List.getElem_append_left hjb] at h1 h3
    exact ⟨j,hjb,h1,h2,h3⟩
   ·rw [List.getElem_append_right (by omega)] at h1
    have:=hq _ (List.getElem_mem (by rw [List.length_append] at hj;omega:j - b.length < q.length))
    omega
  ·rintro ⟨j,hj,h1,h2,h3⟩
   exact ⟨j,by rw [List.length_append];omega,by rw [List.getElem_append_left hj];exact h1,h2,by rw [List.getElem_append_left hj];exact h3⟩
 ·rfl
theorem B2 {s:ai} {p:List Order} {f d:Nat} {n:Int} (h:jT s p f=some (d,n)):d < s.days.toNat∧∃ m,m < s.needs.length∧kC s p f m d=0:=by
 unfold jT at h
 rw [Option.map_eq_some_iff] at h
 obtain ⟨d',h1,h2⟩:=h
 rw [List.find?_range_eq_some] at h1
 obtain ⟨q1,q2,_⟩:=h1
 simp only [Prod.mk.injEq] at h2
 obtain ⟨rfl,rfl⟩:=h2
 refine ⟨by simpa using q2,?_⟩
 have q1:=of_decide_eq_true q1
 unfold zeroAt ny at q1
 cases hf:(EB s p f d').findIdx? fun x=>decide (0=x) with
 | none=>rw [hf] at q1;simp at q1
 | some i =>
  rw [List.findIdx?_eq_some_iff_getElem] at hf
  obtain ⟨hlt,hz,_⟩:=hf
  have hz:=of_decide_eq_true hz
  have hi:i < s.needs.length:=by rw [td] at hlt;exact hlt
  have e:(EB s p f d')[i]?=some (kC s p f i d'):=by
   unfold EB
   rw [List.getElem?_map,List.getElem?_range hi]
   rfl
  rw [List.getElem?_eq_getElem hlt] at e
  exact ⟨i,hi,(Option.some.inj e).symm.trans hz.symm⟩
theorem x6:∀ k:Nat,TeLaw.cnt (List.replicate k false)=0
 | 0=>rfl
 | k+1=>by rw [List.replicate_succ,TeLaw.cnt,x6 k]
theorem sK {R:Nat}:∀ (k r:Nat),TeLaw.sI R r (List.replicate k false)=true
 | 0,r=>rfl
 | k+1,r=>by rw [List.replicate_succ,TeLaw.sI];exact sK k 0
theorem vI:∀ (k f i:Nat),BP f i (List.replicate k false)=f
 | 0,f,i=>rfl
 | k+1,f,i=>by rw [List.replicate_succ,BP];exact vI k f (i+1)
theorem JM {s:ai} (hg:Good s) (k:Nat):0 ∈ qE s k 0 0 s.fail:=by
 have hf:=hg.fail
 have e:s.fail=((s.fail.toNat:Nat):Int):=by omega
 rw [e,zG hg]
 exact List.mem_map.2 ⟨List.replicate (k - 0) false,TeLaw.gA.2 ⟨List.length_replicate,by rw [x6];exact Nat.zero_le _,sK _ _⟩,vI _ 0 0⟩
theorem prune {s:ai} (hg:Good s) {ds:List Int} {b:List Order} {d:Nat} {n e:Int} (hb:jT s b 0=some (d,n)) (hd:(d:Int) < e) (hds:∀ x ∈ ds,e≤x):ct s ds b=none:=by
 cases h:ct s ds b with
 | none=>rfl
 | some p =>
  exfalso
  obtain ⟨q,rfl,h2,_,h4⟩:=jN h
  obtain ⟨k1,m,k2,k3⟩:=B2 hb
  have hq:∀ o ∈ q,e≤o.day:=fun o ho=>hds _ (by rw [←h2];exact List.mem_map.2 ⟨o,ho,rfl⟩)
  have hz:=FF (s:=s) (b:=b) hq (n:=m) hd
  rw [k3] at hz
  have:=List.all_eq_true.1 h4 0 (JM hg _)
  have hnone:=Option.isNone_iff_eq_none.1 this
  unfold jT at hnone
  rw [Option.map_eq_none_iff,List.find?_eq_none] at hnone
  have hneg:=hnone d (List.mem_range.2 k1)
  rw [decide_eq_true_eq] at hneg
  apply hneg
  unfold zeroAt ny
  cases hf:(EB s (b++q) 0 d).findIdx? fun x=>decide (0=x) with
  | none =>
   exfalso
   rw [List.findIdx?_eq_none_iff] at hf
   have:=hf 0 (List.mem_map.2 ⟨m,List.mem_range.2 k2,hz⟩)
   simp at this
  | some i=>dsimp only;omega
theorem B3 {s:ai} (hg:Good s) {f:Nat} (hf:f ∈ aI s) {d:Int} (hd:0≤d∧d < s.days):ir s ⟨d,aL f⟩:=by
 obtain ⟨⟨h1,h2⟩,h3⟩:=(nE hg).1 hf
 have hl:=hg.len
 obtain ⟨k1,k2⟩:=xZ h2 (by omega)
 unfold lC at h3
 rw [Bool.and_eq_true,decide_eq_true_eq] at h3
 have h8:f < 256:=Nat.lt_of_lt_of_le h2 (Nat.le_trans (Nat.pow_le_pow_right (by decide) hl.2) (by decide))
 have hpw:(aL f).Pairwise (· < ·):=by
  unfold aL
  rw [List.pairwise_map]
  exact (List.Pairwise.filter _ List.pairwise_lt_range).imp fun h=>by omega
 refine ⟨hd,k2,?_,k1,fun i j hi hj hij=>List.pairwise_iff_getElem.1 hpw i j hi hj hij,h3.1⟩
 cases hc:aL f with
 | nil =>
  exfalso
  rcases Nat.eq_zero_or_pos f with h0|h0
  ·omega
  ·rw [xW h8 (by omega)] at hc
   cases hc
 | cons a l=>simp
theorem Dw {s:ai} {b:List Order} (hb:kB s b) (h8:b.length+1≤8) {o:Order} (ho:ir s o) (hd:∀ x ∈ b,x.day < o.day):kB s (b++[o]):=by
 refine ⟨hb.good,by rw [List.length_append];exact h8,fun x hx=>?_,fun i j hi hj hij=>?_⟩
 ·rcases List.mem_append.1 hx with hx|hx
  ·exact hb.order x hx
  ·rw [List.mem_singleton.1 hx];exact ho
 ·have hjb:j < b.length+1:=by rw [List.length_append] at hj;exact hj
  have hib:i < b.length:=by omega
  rw [List.getElem_append_left hib]
  by_cases e:j < b.length
  ·rw [List.getElem_append_left e]
   exact hb.Df i j hib e hij
  ·rw [List.getElem_append_right (by omega)]
   simp only [show j - b.length=0 by omega,List.getElem_cons_zero]
   exact hd _ (List.getElem_mem hib)
def Dx (P:List Order) (n:Nat) (l:List Int):List Order:=P.modify n fun o=>⟨o.day,l⟩
theorem FG {P:List Order} {n:Nat} {l:List Int}:(Dx P n l).map (·.day)=P.map (·.day):=by
 unfold Dx
 apply List.ext_getElem?
 intro i
 rw [List.getElem?_map,List.getElem?_map,List.getElem?_modify]
 split
 ·cases P[i]? <;> rfl
 ·cases P[i]? <;> rfl
theorem FH {P:List Order} {n:Nat} {l:List Int} (h:n < P.length):(Dx P n l).take (n+1)=P.take n++[⟨P[n].day,l⟩]:=by
 unfold Dx
 rw [List.modify_eq_take_cons_drop h,List.take_append,List.take_of_length_le (by rw [List.length_take];omega),List.length_take,Nat.min_eq_left (by omega),show n+1 - n=1 by omega]
 rfl
theorem zK:∀ {P:List Order} {n:Nat} {l:List Int},n < P.length→cN (gk P) [.sl (ints l) false] (n * 2+1)=gk (Dx P n l)
 | o :: P,0,l,_=>rfl
 | o :: P,n+1,l,h=>by
  have ih:=zK (P:=P) (n:=n) (l:=l) (by simpa using h)
  have e:(n+1) * 2+1=(n * 2+1)+2:=by omega
  rw [e]
  show cN (aC o.day :: AV.sl (ints o.aG) false :: gk P) [.sl (ints l) false] (n * 2+1+2)=_
  have:cN (aC o.day :: AV.sl (ints o.aG) false :: gk P) [.sl (ints l) false] (n * 2+1+2)=aC o.day :: AV.sl (ints o.aG) false :: cN (gk P) [.sl (ints l) false] (n * 2+1):=rfl
  rw [this,ih]
  rfl
theorem EH:∀ {P:List Order} {n:Nat},(h:n < P.length)→(gk P)[n * 2]?=some (aC P[n].day)
 | o :: P,0,_=>rfl
 | o :: P,n+1,h=>by
  rw [show (n+1) * 2=n * 2+1+1 by omega]
  show (aC o.day :: AV.sl (ints o.aG) false :: gk P)[n * 2+1+1]?=_
  rw [List.getElem?_cons_succ,List.getElem?_cons_succ]
  exact EH (by simpa using h)
theorem Dy (a b:List Order):gk (a++b)=gk a++gk b:=by
 unfold gk
 rw [List.map_append,List.flatten_append]
theorem zL (P:List Order) (n:Nat) (h:n≤P.length):(0:Nat)+n * 2≤(gk P).length∧((P.take n).map az).length=n∧(∀ el ∈ (P.take n).map az,el.length=2)∧((P.take n).map az).flatten=((gk P).drop 0).take (n * 2):=by
 refine ⟨by rw [kD];omega,by rw [List.length_map,List.length_take];omega,fun el hel=>by obtain ⟨o,_,rfl⟩:=List.mem_map.1 hel;rfl,?_⟩
 rw [List.drop_zero]
 have e:gk P=gk (P.take n)++gk (P.drop n):=by rw [←Dy,List.take_append_drop]
 have hl:(gk (P.take n)).length=n * 2:=by rw [kD,List.length_take,Nat.min_eq_left h]
 show gk (P.take n)=(gk P).take (n * 2)
 rw [e]
 exact (List.take_left' hl).symm
end Go.Proofs.YtpeogffeoehboaaDoor
