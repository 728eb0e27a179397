/-
  Contracts of the program's functions and of the document's. Lemmas alone; their conditions stand in them.
-/
import Derived.Test.YtpeogffeoehboaaDoorK3
import Derived.Test.YtpeogffeoehboaaDoorK6
import Derived.Test.YtpeogffeoehboaaDoorK7
open Go Go.RM
namespace Go.Proofs.YtpeogffeoehboaaDoor
set_option maxRecDepth 100000
set_option maxHeartbeats 4000000
def rk (f:Nat):Int:=([9,0,4,1,6,3,5,2]:List Int).getD f 9
theorem PD:((List.range 8).all fun a=>(List.range 8).all fun b=>a == 0 || b == 0 || decide (sO (aP a) (aP b) < 0) == decide (rk a < rk b))=true:=by kernel_rfl
theorem PE {a b:Nat} (ha:1≤a∧a < 8) (hb:1≤b∧b < 8):decide (sO (aP a) (aP b) < 0)=decide (rk a < rk b):=by
 have h:=List.all_eq_true.1 (List.all_eq_true.1 PD a (List.mem_range.2 ha.2)) b (List.mem_range.2 hb.2)
 rw [Bool.or_eq_true,Bool.or_eq_true] at h
 rcases h with (h|h)|h
 ·have:a=0:=by simpa using h
  omega
 ·have:b=0:=by simpa using h
  omega
 ·exact eq_of_beq h
theorem D9:((List.range 8).all fun a=>(List.range 8).all fun b=>a == 0 || b == 0 || a == b || !decide (rk a=rk b))=true:=by kernel_rfl
theorem PF {a b:Nat} (ha:1≤a∧a < 8) (hb:1≤b∧b < 8) (e:rk a=rk b):a=b:=by
 have h:=List.all_eq_true.1 (List.all_eq_true.1 D9 a (List.mem_range.2 ha.2)) b (List.mem_range.2 hb.2)
 rw [decide_eq_true e] at h
 simp only [Bool.or_eq_true,beq_iff_eq,Bool.not_true,Bool.false_eq_true,or_false] at h
 omega
def nu (S:List Nat) (p:Nat):Nat:=S.getD p 0
def kL (S:List Nat) (m:Nat):Prop:=∀ p q:Nat,p < q→q < m→rk (nu S p)≤rk (nu S q)
def wv (S:List Nat) (j:Nat):List Nat:=(S.set j (nu S (j - 1))).set (j - 1) (nu S j)
theorem Ea (S:List Nat) {j:Nat} (hj:j < S.length):(wv S j).Perm S:=by
 unfold wv nu
 have h1:j - 1 < S.length:=by omega
 rw [List.getD_eq_getElem?_getD,List.getD_eq_getElem?_getD (i:=j),List.getElem?_eq_getElem h1,List.getElem?_eq_getElem hj]
 exact List.set_set_perm hj h1
theorem Gq (S:List Nat) {j:Nat} (hj:j < S.length) (_h0:0 < j) (q:Nat):nu (wv S j) q=if q=j - 1 then nu S j else if q=j then nu S (j - 1) else nu S q:=by
 unfold wv nu
 rw [List.getD_eq_getElem?_getD,List.getElem?_set,List.getElem?_set]
 by_cases h1:j - 1=q
 ·subst h1
  rw [if_pos rfl,if_pos (by rw [List.length_set];omega),if_pos rfl]
  rfl
 ·rw [if_neg h1,if_neg (show ¬ q=j - 1 from fun h=>h1 h.symm)]
  by_cases h2:j=q
  ·subst h2
   rw [if_pos rfl,if_pos hj,if_pos rfl]
   rfl
  ·rw [if_neg h2,if_neg (show ¬ q=j from fun h=>h2 h.symm),List.getD_eq_getElem?_getD]
structure mJ (S:List Nat) (i j:Nat):Prop where
 others:∀ p q:Nat,p < q→q≤i→p ≠ j→q ≠ j→rk (nu S p)≤rk (nu S q)
 above:∀ q:Nat,j < q→q≤i→rk (nu S j)≤rk (nu S q)
theorem mJ.start {S:List Nat} {i:Nat} (h:kL S i):mJ S i i:=⟨fun p q h1 h2 h3 h4=>h p q h1 (by omega),fun q h1 h2=>by omega⟩
theorem mJ.swap {S:List Nat} {i j:Nat} (h:mJ S i j) (hi:i < S.length) (hj:j≤i) (h0:0 < j) (hl:rk (nu S j) < rk (nu S (j - 1))):mJ (wv S j) i (j - 1):=by
 have hg:=fun q=>Gq S (j:=j) (by omega) h0 q
 constructor
 ·intro p q h1 h2 h3 h4
  rw [hg p,hg q,if_neg h3,if_neg h4]
  by_cases hp:p=j
  ·rw [if_pos hp,if_neg (by omega)]
   exact h.others (j - 1) q (by omega) h2 (by omega) (by omega)
  ·rw [if_neg hp]
   by_cases hq:q=j
   ·rw [if_pos hq]
    exact h.others p (j - 1) (by omega) (by omega) hp (by omega)
   ·rw [if_neg hq]
    exact h.others p q h1 h2 hp hq
 ·intro q h1 h2
  rw [hg (j - 1),hg q,if_pos rfl,if_neg (by omega)]
  by_cases hq:q=j
  ·rw [if_pos hq];omega
  ·rw [if_neg hq]
   exact h.above q (by omega) h2
theorem mJ.done {S:List Nat} {i j:Nat} (h:mJ S i j) (hd:j=0∨rk (nu S (j - 1))≤rk (nu S j)):kL S (i+1):=by
 intro p q h1 h2
 by_cases hp:p=j
 ·rw [hp];exact h.above q (by omega) (by omega)
 ·by_cases hq:q=j
  ·rcases hd with hd|hd
   ·omega
   ·rw [hq]
    by_cases hpj:p=j - 1
    ·rw [hpj];exact hd
    ·exact Int.le_trans (h.others p (j - 1) (by omega) (by omega) hp (by omega)) hd
  ·exact h.others p q h1 (by omega) hp hq
abbrev eF (f:Nat):AV:=.sl (ints (aP f)) false
abbrev j5 (S:List Nat) (aB:Nat):AB:=.cells (S.map eF) 1 aB
theorem Cx {S:List Nat} {q:Nat} (h:q < S.length):(S.map eF)[0+((q:Nat):Int).toNat * 1]?=some (eF (nu S q)):=by
 unfold nu
 rw [Int.toNat_natCast,Nat.zero_add,Nat.mul_one,List.getElem?_map,List.getD_eq_getElem?_getD,List.getElem?_eq_getElem h]
 rfl
theorem Cy {S:List Nat} {k:Nat} (h:k < S.length) (x:Nat):cX (S.map eF) [eF x] (0+((k:Nat):Int).toNat * 1)=(S.set k x).map eF:=by
 rw [Int.toNat_natCast,Nat.zero_add,Nat.mul_one,List.map_set,List.set_eq_take_append_cons_drop,if_pos (by rw [List.length_map];exact h)]
 unfold cX
 simp
theorem eW (S:List Nat) (v:Nat):([j5 S v]:List AB).all (AB.ic 1)=true:=by
 have h:AB.ic 1 (j5 S v)=true:=rB 1 (fun _=>rfl) _
 simp only [List.all_cons,List.all_nil,h,Bool.and_true]
theorem Cz (one:Bool) (L:List Nat) (N:Nat) (hN:L.length=N) (h12:N≤12) (hL:∀ f ∈ L,1≤f∧f < 8) {aB c:Nat} {aE:bG} {Q:AV→List AB→bG→Prop} (hQ:∀ S:List Nat,kL S N→S.Perm L→Q (.tp []) [j5 S aB] aE) :
  av TT TB one (.fn 96 [] []) [.bI 0 aB 0 N c,aC 0,aC (N:Nat),.fn 80 [] []] [j5 L aB] aE Q:=by
 refine av.body (fn:=Tryd.f96) rfl rfl rfl ?_
 refine aa (mu:=fun _=>false) ?_
 repeat' (first |refine u1 ?_ |refine u2 ?_ |fail)
 refine aA.aX (aj.to (l:=[(0,.bI 0 aB 0 N c),(1,aC 0),(2,aC (N:Nat)),(3,.fn 80 [] []),(8,aC (1:Nat))]) (hp:=[j5 L aB]) 1 rfl ⟨rfl,rfl,rfl,rfl,rfl,trivial⟩ (Nat.le_refl _) rfl (eW _ _)) ?_
 refine aA.loop (fun x:Nat × List Nat=>(1≤x.1∧(x.1≤N∨x.1=1))∧kL x.2 x.1∧x.2.Perm L) (fun x=>⟨bx [(0,.bI 0 aB 0 N c),(1,aC 0),(2,aC (N:Nat)),(3,.fn 80 [] []),(8,aC (x.1:Nat))],[j5 x.2 aB],aE,false,1⟩) (fun x=>N - x.1) ?_ (1,L) ⟨⟨Nat.le_refl _,.inr rfl⟩,(fun p q h1 h2=>by dsimp only at h2;omega),List.Perm.refl _⟩
 have hmem:∀ {R:List Nat},R.Perm L→∀ q,q < N→1≤nu R q∧nu R q < 8:=by
  intro R hR q hq
  have hRl:R.length=N:=by rw [hR.length_eq,hN]
  refine hL _ (hR.mem_iff.1 ?_)
  unfold nu
  rw [List.getD_eq_getElem?_getD,List.getElem?_eq_getElem (by omega)]
  exact List.getElem_mem _
 rintro ⟨i,S⟩ ⟨⟨hi1,hi⟩,hso,hpe⟩
 dsimp only at hi1 hi hso hpe
 have hSl:S.length=N:=by rw [hpe.length_eq,hN]
 show aA _ _ _ _ ⟨bx [(0,.bI 0 aB 0 N c),(1,aC 0),(2,aC (N:Nat)),(3,.fn 80 [] []),(8,aC (i:Nat))],[j5 S aB],aE,false,1⟩ _
 refine aa (mu:=fun _=>false) ?_
 by_cases hc:i < N
 ·have d0:decide ((i:Int) < (N:Int))=true:=decide_eq_true (by omega)
  repeat' (first |refine u1 ?_ |refine u2 ?_ |fail)
  refine aA.aX (aj.to (l:=[(0,.bI 0 aB 0 N c),(1,aC 0),(2,aC (N:Nat)),(3,.fn 80 [] []),(8,aC (i:Nat)),(9,aC (i:Nat))]) (hp:=[j5 S aB]) 1 rfl ⟨rfl,rfl,rfl,rfl,rfl,rfl,trivial⟩ (Nat.le_refl _) rfl (eW _ _)) ?_
  refine aA.loop (fun x:Nat × List Nat=>(x.1≤i)∧mJ x.2 i x.1∧x.2.Perm L) (fun x=>⟨bx [(0,.bI 0 aB 0 N c),(1,aC 0),(2,aC (N:Nat)),(3,.fn 80 [] []),(8,aC (i:Nat)),(9,aC (x.1:Nat))],[j5 x.2 aB],aE,false,1⟩) (fun x=>x.1) ?_ (i,S) ⟨Nat.le_refl _,mJ.start hso,hpe⟩
  rintro ⟨j,R⟩ ⟨hj,hsi,hpr⟩
  dsimp only at hj hsi hpr
  have hRl:R.length=N:=by rw [hpr.length_eq,hN]
  show aA _ _ _ _ ⟨bx [(0,.bI 0 aB 0 N c),(1,aC 0),(2,aC (N:Nat)),(3,.fn 80 [] []),(8,aC (i:Nat)),(9,aC (j:Nat))],[j5 R aB],aE,false,1⟩ _
  refine aa (mu:=fun _=>false) ?_
  by_cases h0:j=0
  ·subst h0
   repeat' (first |(refine RM.c5 (c:=14) (l1:=[_,_,_,_,_,_,_,_,_,_,_,_,_,_]) (l2:=[_,_,_]) (by kernel_rfl) rfl rfl ?_) |refine u1 ?_ |refine u2 ?_ |fail)
   refine ⟨(i+1,R),⟨⟨by omega,.inl (by dsimp only;omega)⟩,hsi.done (.inl rfl),hpr⟩,(by dsimp only;omega),?_⟩
   exact aj.to 1 rfl ⟨rfl,rfl,rfl,rfl,bW (by simp),trivial⟩ (Nat.le_refl _) rfl (eW _ _)
  ·have d1:decide ((0:Int) < (j:Int))=true:=decide_eq_true (by omega)
   have hgj:=Cx (S:=R) (q:=j) (by omega)
   have hgk:=Cx (S:=R) (q:=j - 1) (by omega)
   rw [show (((j - 1:Nat):Int))=(j:Int) - 1 by omega] at hgk
   have hlj:=hmem hpr j (by omega)
   have hlk:=hmem hpr (j - 1) (by omega)
   have hdl:=PE hlj hlk
   have hlm:=fun f=>Nat.le_trans (oN f) (show 8≤maxLen by simp [maxLen])
   have hle1:=Ku one (aP (nu R j)) (aP (nu R (j - 1))) false false (hlm _) (hlm _)
   have hle2:=Ku true (aP (nu R j)) (aP (nu R (j - 1))) false false (hlm _) (hlm _)
   by_cases hl:rk (nu R j) < rk (nu R (j - 1))
   ·have dl:=hdl.trans (decide_eq_true hl)
    have hb1:Nat.ble (0+((j:Nat):Int).toNat * 1+1) (R.map eF).length=true:=Nat.ble_eq_true_of_le (by rw [List.length_map];omega)
    have he1:=Cy (S:=R) (k:=j) (by omega) (nu R (j - 1))
    have hb2:Nat.ble (0+(((j:Nat):Int) - 1).toNat * 1+1) (cX (R.map eF) [eF (nu R (j - 1))] (0+((j:Nat):Int).toNat * 1)).length=true:=Nat.ble_eq_true_of_le (by rw [he1,List.length_map,List.length_set];omega)
    have he2:=Cy (S:=R.set j (nu R (j - 1))) (k:=j - 1) (by rw [List.length_set];omega) (nu R j)
    rw [show (((j - 1:Nat):Int))=(j:Int) - 1 by omega,←he1] at he2
    repeat' (first |(refine RM.c5 (c:=14) (l1:=[_,_,_,_,_,_,_,_,_,_,_,_,_,_]) (l2:=[_,_,_]) (by kernel_rfl) rfl rfl ?_) |((with_reducible show RM.wpOp _ _ (.load _ _) _ _ _);refine RM.LF rfl rfl rfl hgj ?_) |((with_reducible show RM.wpOp _ _ (.load _ _) _ _ _);refine RM.LF rfl rfl rfl hgk ?_) |((with_reducible show av _ _ _ _ _ _ _ _);refine ah.call hle1 rfl rfl ?_) |((with_reducible show cR _ _ _ _ _ _);refine RM.ND rfl rfl rfl rfl rfl rfl hb1 ?_) |((with_reducible show cR _ _ _ _ _ _);refine RM.ND rfl rfl rfl rfl rfl rfl hb2 ?_) |refine u1 ?_ |refine u2 ?_ |fail)
    refine ⟨(j - 1,wv R j),⟨by dsimp only;omega,hsi.swap (by omega) hj (by omega) hl,(Ea R (by omega)).trans hpr⟩,(by dsimp only;omega),?_⟩
    refine aj.to 1 ?_ ⟨rfl,rfl,rfl,rfl,rfl,bW (by dsimp only;omega),trivial⟩ (Nat.le_refl _) rfl (eW _ _)
    show [AB.cells (cX (cX (R.map eF) [eF (nu R (j - 1))] (0+((j:Nat):Int).toNat * 1)) [eF (nu R j)] (0+(((j:Nat):Int) - 1).toNat * 1)) 1 aB]=[j5 (wv R j) aB]
    rw [he2]
    rfl
   ·have dl:=hdl.trans (decide_eq_false hl)
    repeat' (first |(refine RM.c5 (c:=14) (l1:=[_,_,_,_,_,_,_,_,_,_,_,_,_,_]) (l2:=[_,_,_]) (by kernel_rfl) rfl rfl ?_) |((with_reducible show RM.wpOp _ _ (.load _ _) _ _ _);refine RM.LF rfl rfl rfl hgj ?_) |((with_reducible show RM.wpOp _ _ (.load _ _) _ _ _);refine RM.LF rfl rfl rfl hgk ?_) |((with_reducible show av _ _ _ _ _ _ _ _);refine ah.call hle1 rfl rfl ?_) |refine u1 ?_ |refine u2 ?_ |fail)
    refine ⟨(i+1,R),⟨⟨by omega,.inl (by dsimp only;omega)⟩,hsi.done (.inr (by omega)),hpr⟩,(by dsimp only;omega),?_⟩
    exact aj.to 1 rfl ⟨rfl,rfl,rfl,rfl,bW (by simp),trivial⟩ (Nat.le_refl _) rfl (eW _ _)
 ·have d0:decide ((i:Int) < (N:Int))=false:=decide_eq_false (by omega)
  repeat' (first |refine u1 ?_ |refine u2 ?_ |fail)
  refine hQ S (fun p q h1 h2=>hso p q h1 (by omega)) hpe
theorem RA (one:Bool) (L:List Nat) (N:Nat) (hN:L.length=N) (h12:N≤12) (hL:∀ f ∈ L,1≤f∧f < 8) (lim:Int) {aB c:Nat} {aE:bG} {Q:AV→List AB→bG→Prop} (hQ:∀ S:List Nat,kL S N→S.Perm L→Q (.tp []) [j5 S aB] aE) :
  av TT TB one (.fn 94 [] []) [.bI 0 aB 0 N c,aC 0,aC (N:Nat),aC lim,.fn 80 [] []] [j5 L aB] aE Q:=by
 refine av.body (fn:=Tryd.f94) rfl rfl rfl ?_
 refine aa (mu:=fun _=>false) ?_
 repeat' (first |refine u1 ?_ |refine u2 ?_ |fail)
 refine aA.aX (aj.to (l:=[(0,.bI 0 aB 0 N c),(1,aC 0),(2,aC (N:Nat)),(3,aC lim),(4,.fn 80 [] []),(10,.fl (.bool true)),(11,.fl (.bool true))]) (hp:=[j5 L aB]) 1 rfl ⟨rfl,rfl,rfl,rfl,rfl,rfl,rfl,trivial⟩ (Nat.le_refl _) rfl (eW _ _)) ?_
 refine aA.loop (fun _:Unit=>True) (fun _=>⟨bx [(0,.bI 0 aB 0 N c),(1,aC 0),(2,aC (N:Nat)),(3,aC lim),(4,.fn 80 [] []),(10,.fl (.bool true)),(11,.fl (.bool true))],[j5 L aB],aE,false,1⟩) (fun _=>0) ?_ () trivial
 intro _ _
 refine aa (mu:=fun _=>false) ?_
 have d1:decide ((N:Int) - 0≤12)=true:=decide_eq_true (by omega)
 repeat' (first |(refine Cz _ L N hN h12 hL (fun S hso hpe=>?_)) |refine u1 ?_ |refine u2 ?_ |fail)
 exact hQ S hso hpe
def PG (n:Nat):Int:=([0,1,2,2,3,3,3,3,4,4,4,4,4]:List Int).getD n 0
theorem L5 (one:Bool) (n:Nat) (hn:n≤12):Pu one 105 [.fl (.int .u64 n)] (aC (PG n)):=by
 match n,hn with
 | 0,_|1,_|2,_|3,_|4,_|5,_|6,_|7,_|8,_|9,_|10,_|11,_|12,_ =>
  refine ah.body (fn:=Tryd.f105) rfl rfl rfl rfl ?_
  refine aa (mu:=fun _=>false) ?_
  repeat' (first |(refine RM.b1 rfl rfl (of_decide_eq_true (by kernel_rfl)) ?_) |refine u1 ?_ |refine u2 ?_ |fail)
  exact ⟨[_],⟨Fz.deep rfl,trivial⟩,by kernel_rfl⟩
theorem RB (one:Bool) (n:Nat) (hn:n≤12):Pu one 95 [.fl (.int .u64 n)] (aC (PG n)):=by
 have hv:=L5 one n hn
 refine ah.body (fn:=Tryd.f95) rfl rfl rfl rfl ?_
 refine aa (mu:=fun _=>false) ?_
 repeat' (first |refine u1 ?_ |refine u2 ?_ |fail)
 exact ⟨[_],⟨Fz.deep rfl,trivial⟩,rfl⟩
theorem Eb:∀ {N:Nat},N≤12→IntKind.u64.wrap (N:Int)=(N:Int)
 | 0,_|1,_|2,_|3,_|4,_|5,_|6,_|7,_|8,_|9,_|10,_|11,_|12,_=>rfl
theorem PI (one:Bool) (L:List Nat) (N:Nat) (hN:L.length=N) (h12:N≤12) (hL:∀ f ∈ L,1≤f∧f < 8) {aB c:Nat} {aE:bG} {Q:AV→List AB→bG→Prop} (hQ:∀ S:List Nat,kL S N→S.Perm L→Q (.tp []) [j5 S aB] aE) :
  av TT TB one (.fn 91 [] []) [.bI 0 aB 0 N c,.fn 80 [] []] [j5 L aB] aE Q:=by
 refine av.body (fn:=Tryd.f91) rfl rfl rfl ?_
 refine aa (mu:=fun _=>false) ?_
 have hw:IntKind.u64.wrap (N:Int)=(N:Int):=Eb h12
 have hv:Pu one 95 [.fl (.int .u64 (IntKind.u64.wrap (N:Int)))] (aC (PG N)):=by rw [hw];exact RB one N h12
 repeat' (first |(refine RA _ L N hN h12 hL _ (fun S hso hpe=>?_)) |refine u1 ?_ |refine u2 ?_ |fail)
 exact hQ S hso hpe
def tG (s:ai) (f k:Nat):Bool:=(List.range k).all fun n=>f.testBit n || decide (s.load < sK s (aP f)+xE s (n:Nat))
def lK (s:ai) (f:Nat):Bool:=decide (sK s (aP f)≤s.load) && tG s f s.needs.length
theorem Ec {s:ai} {f k:Nat}:tG s f (k+1)=(tG s f k && (f.testBit k || decide (s.load < sK s (aP f)+xE s (k:Nat)))):=by
 unfold tG
 rw [List.range_succ,List.all_append]
 simp
theorem Gr {s:ai} {f k:Nat} (hk:k < s.needs.length) (hb:f.testBit k=false) (hw:sK s (aP f)+xE s (k:Nat)≤s.load):lK s f=false:=by
 have:tG s f s.needs.length=false:=by
  rw [←Bool.not_eq_true]
  intro h
  have:=List.all_eq_true.1 h k (List.mem_range.2 hk)
  rw [hb,Bool.false_or,decide_eq_true_eq] at this
  omega
 unfold lK
 rw [this,Bool.and_false]
def jn (s:ai):Nat→List Nat
 | 0=>[]
 | k+1=>if lK s (k+1)=true then jn s k++[k+1] else jn s k
theorem oP {s:ai} {k:Nat}:jn s (k+1)=if lK s (k+1)=true then jn s k++[k+1] else jn s k:=rfl
theorem CA {s:ai}:∀ k,(jn s k).length≤k
 | 0=>Nat.le_refl _
 | k+1=>by
  have:=CA (s:=s) k
  rw [oP]
  split
  ·rw [List.length_append,List.length_singleton];omega
  ·omega
theorem nT {s:ai} {f:Nat}:∀ {k:Nat},f ∈ jn s k ↔ (1≤f∧f≤k)∧lK s f=true
 | 0=>by
  constructor
  ·intro h;cases h
  ·rintro ⟨⟨_,_⟩,_⟩;omega
 | k+1=>by
  rw [oP]
  have ih:=nT (s:=s) (f:=f) (k:=k)
  split
  ·rename_i hf
   rw [List.mem_append,ih,List.mem_singleton]
   constructor
   ·rintro (⟨h,h2⟩|rfl)
    ·exact ⟨by omega,h2⟩
    ·exact ⟨by omega,hf⟩
   ·rintro ⟨h,h2⟩
    by_cases e:f=k+1
    ·exact .inr e
    ·exact .inl ⟨by omega,h2⟩
  ·rename_i hf
   rw [ih]
   constructor
   ·rintro ⟨h,h2⟩;exact ⟨by omega,h2⟩
   ·rintro ⟨h,h2⟩
    refine ⟨?_,h2⟩
    by_cases e:f=k+1
    ·subst e;exact absurd h2 hf
    ·omega
theorem Ao {s:ai}:∀ k,(jn s k).Pairwise (· < ·)
 | 0=>.nil
 | k+1=>by
  rw [oP]
  split
  ·rw [List.pairwise_append]
   refine ⟨Ao k,List.pairwise_singleton _ _,fun a ha b hb=>?_⟩
   have:=(nT.1 ha).1
   rw [List.mem_singleton.1 hb]
   omega
  ·exact Ao k
def aK (s:ai):List Nat:=([1,3,7,5,2,6,4]:List Nat).filter fun f=>decide (f < 2 ^ s.needs.length) && lK s f
theorem nU {s:ai} (hg:Good s) {f:Nat}:f ∈ aK s ↔ (1≤f∧f < 2 ^ s.needs.length)∧lK s f=true:=by
 unfold aK
 have h3:=hg.len
 have hp:2 ^ s.needs.length≤2 ^ 3:=Nat.pow_le_pow_right (by decide) h3.2
 simp only [List.mem_filter,List.mem_cons,List.not_mem_nil,or_false,Bool.and_eq_true,decide_eq_true_eq]
 constructor
 ·rintro ⟨h1,h2,h4⟩;exact ⟨⟨by omega,h2⟩,h4⟩
 ·rintro ⟨⟨h1,h2⟩,h4⟩;exact ⟨by omega,h2,h4⟩
theorem yH:∀ {S R:List Nat},S.Pairwise (fun a b=>rk a < rk b)→R.Pairwise (fun a b=>rk a < rk b)→(∀ x,x ∈ S ↔ x ∈ R)→S=R
 | [],[],_,_,_=>rfl
 | [],b :: R,_,_,h=>absurd ((h b).2 List.mem_cons_self) (by simp)
 | a :: S,[],_,_,h=>absurd ((h a).1 List.mem_cons_self) (by simp)
 | a :: S,b :: R,h1,h2,h=>by
  rw [List.pairwise_cons] at h1 h2
  have e:a=b:=by
   rcases List.mem_cons.1 ((h a).1 List.mem_cons_self) with e|ha
   ·exact e
   ·rcases List.mem_cons.1 ((h b).2 List.mem_cons_self) with e|hb
    ·exact e.symm
    ·have:=h1.1 b hb
     have:=h2.1 a ha
     omega
  subst e
  rw [yH h1.2 h2.2 fun x=>?_]
  constructor
  ·intro hx
   rcases List.mem_cons.1 ((h x).1 (List.mem_cons_of_mem _ hx)) with e|hr
   ·subst e;have:=h1.1 x hx;omega
   ·exact hr
  ·intro hx
   rcases List.mem_cons.1 ((h x).2 (List.mem_cons_of_mem _ hx)) with e|hr
   ·subst e;have:=h2.1 x hx;omega
   ·exact hr
theorem Ed {s:ai} (hg:Good s) {S:List Nat} {N:Nat} (hN:S.length=N) (hs:kL S N) (hp:S.Perm (jn s (2 ^ s.needs.length - 1))):S=aK s:=by
 have h3:=hg.len
 have hp8:2 ^ s.needs.length≤2 ^ 3:=Nat.pow_le_pow_right (by decide) h3.2
 have hnd:S.Nodup:=hp.nodup_iff.2 ((Ao _).imp fun h=>by omega)
 have hmem:∀ x ∈ S,1≤x∧x < 8:=fun x hx=>by
  have:=(nT.1 (hp.mem_iff.1 hx)).1
  omega
 refine yH ?_ ?_ fun x=>?_
 ·rw [List.pairwise_iff_getElem]
  intro i j hi hj hij
  have h:=hs i j hij (by omega)
  unfold nu at h
  rw [List.getD_eq_getElem?_getD,List.getD_eq_getElem?_getD,List.getElem?_eq_getElem hi,List.getElem?_eq_getElem hj] at h
  simp only [Option.getD_some] at h
  have hne:S[i] ≠ S[j]:=(List.pairwise_iff_getElem.1 hnd) i j hi hj hij
  have:rk S[i] ≠ rk S[j]:=fun e=>hne (PF (hmem _ (List.getElem_mem hi)) (hmem _ (List.getElem_mem hj)) e)
  omega
 ·unfold aK
  exact List.Pairwise.filter _ (by decide)
 ·rw [hp.mem_iff,nT,nU hg]
  have:1≤2 ^ s.needs.length:=Nat.one_le_two_pow
  constructor
  ·rintro ⟨h1,h2⟩;exact ⟨by omega,h2⟩
  ·rintro ⟨h1,h2⟩;exact ⟨by omega,h2⟩
theorem yI {f k:Nat} (hf:f < 2 ^ k) (hk:k≤8):(aP f).length≤k∧∀ x ∈ aP f,0≤x∧x < (k:Nat):=by
 have hin:∀ x ∈ aP f,0≤x∧x < (k:Nat):=by
  intro x hx
  unfold aP at hx
  simp only [List.mem_map,List.mem_filter,List.mem_range] at hx
  obtain ⟨m,⟨h1,h2⟩,rfl⟩:=hx
  refine ⟨by omega,?_⟩
  by_cases hkm:k≤m
  ·rw [Nat.testBit_lt_two_pow (Nat.lt_of_lt_of_le hf (Nat.pow_le_pow_right (by decide) hkm))] at h2
   cases h2
  ·omega
 have hpw:(aP f).Pairwise (· < ·):=by
  unfold aP
  rw [List.pairwise_map]
  exact (List.Pairwise.filter _ List.pairwise_lt_range).imp fun h=>by omega
 have hgt:∀ (l:List Int),l.Pairwise (· < ·)→(∀ x ∈ l,0≤x∧x < (k:Nat))→l.length≤k:=by
  intro l hl hb
  have hge:∀ (i:Nat) (hi:i < l.length),(i:Int)≤l[i]:=by
   intro i
   induction i with
   | zero=>intro hi;exact (hb _ (List.getElem_mem hi)).1
   | succ i ih =>
    intro hi
    have h1:=ih (by omega)
    have h2:=List.pairwise_iff_getElem.1 hl i (i+1) (by omega) hi (by omega)
    omega
  by_cases h0:l.length=0
  ·omega
  ·have h1:=hge (l.length - 1) (by omega)
   have h2:=(hb _ (List.getElem_mem (show l.length - 1 < l.length by omega))).2
   omega
 exact ⟨hgt _ hpw hin,hin⟩
def cz (s:ai):List Int→List Order→Option (List Order)
 | [],b=>if fm s b 0 0 s.fail=true then some b else none
 | d :: ds,b=>(aK s).findSome? fun f=>cz s ds (b++[⟨d,aP f⟩])
theorem jU {s:ai}:∀ {ds:List Int} {b p:List Order},cz s ds b=some p→∃ q:List Order,p=b++q∧q.map (·.day)=ds∧(∀ o ∈ q,∃ f ∈ aK s,o.aO=aP f)∧fm s p 0 0 s.fail=true
 | [],b,p,h=>by
  unfold cz at h
  split at h
  ·rename_i hh
   cases h
   exact ⟨[],(List.append_nil _).symm,rfl,(fun o ho=>by cases ho),hh⟩
  ·cases h
 | d :: ds,b,p,h=>by
  rw [cz,List.findSome?_eq_some_iff] at h
  obtain ⟨l1,f,l2,e,h,_⟩:=h
  obtain ⟨q,rfl,q2,q3,q4⟩:=jU h
  refine ⟨⟨d,aP f⟩ :: q,by simp,by rw [List.map_cons,q2],fun o ho=>?_,q4⟩
  rcases List.mem_cons.1 ho with rfl|ho
  ·exact ⟨f,by rw [e];simp,rfl⟩
  ·exact q3 o ho
theorem wz {s:ai}:∀ {ds:List Int} {b:List Order},cz s ds b=none→∀ q:List Order,q.map (·.day)=ds→(∀ o ∈ q,∃ f ∈ aK s,o.aO=aP f)→fm s (b++q) 0 0 s.fail=false
 | [],b,h,q,hq,_=>by
  unfold cz at h
  split at h
  ·cases h
  ·rename_i hh
   have:q=[]:=by simpa using hq
   rw [this,List.append_nil]
   simpa using hh
 | d :: ds,b,h,[],hq,_=>by cases hq
 | d :: ds,b,h,o :: q,hq,hc=>by
  rw [cz,List.findSome?_eq_none_iff] at h
  rw [List.map_cons,List.cons.injEq] at hq
  obtain ⟨f,hf,hof⟩:=hc o List.mem_cons_self
  have:=wz (h f hf) q hq.2 fun o ho=>hc o (List.mem_cons_of_mem _ ho)
  have e:o=⟨d,aP f⟩:=by
   obtain ⟨od,oc⟩:=o
   simp only at hq hof
   rw [hq.1,hof]
  rw [e,List.append_cons]
  exact this
theorem Gs {s:ai} {b q:List Order} {e:Int} (hq:∀ o ∈ q,e≤o.day) {n d:Nat} (hd:(d:Int) < e):kI s (b++q) 0 n d=kI s b 0 n d:=by
 unfold kI
 split
 ·refine TeLaw.yB d fun i hi=>?_
  rw [Bool.eq_iff_iff,rz,rz]
  constructor
  ·rintro ⟨j,hj,h1,h2,h3⟩
   by_cases hjb:j < b.length
   ·rw [List.getElem_append_left hjb] at h1 h3
    exact ⟨j,hjb,h1,h2,h3⟩
   ·rw [List.getElem_append_right (by omega)] at h1
    have:=hq _ (List.getElem_mem (by rw [List.length_append] at hj;omega:j - b.length < q.length))
    omega
  ·rintro ⟨j,hj,h1,h2,h3⟩
   exact ⟨j,by rw [List.length_append];omega,by rw [List.getElem_append_left hj];exact h1,h2,by rw [List.getElem_append_left hj];exact h3⟩
 ·rfl
theorem CB {s:ai} {p:List Order} {f d:Nat} {n:Int} (h:jZ s p f=some (d,n)):d < s.days.toNat∧∃ m,m < s.needs.length∧kI s p f m d=0:=by
 unfold jZ at h
 rw [Option.map_eq_some_iff] at h
 obtain ⟨d',h1,h2⟩:=h
 rw [List.find?_range_eq_some] at h1
 obtain ⟨q1,q2,_⟩:=h1
 simp only [Prod.mk.injEq] at h2
 obtain ⟨rfl,rfl⟩:=h2
 refine ⟨by simpa using q2,?_⟩
 have q1:=of_decide_eq_true q1
 unfold zeroAt nR at q1
 cases hf:(Fv s p f d').findIdx? fun x=>decide (0=x) with
 | none=>rw [hf] at q1;simp at q1
 | some i =>
  rw [List.findIdx?_eq_some_iff_getElem] at hf
  obtain ⟨hlt,hz,_⟩:=hf
  have hz:=of_decide_eq_true hz
  have hi:i < s.needs.length:=by rw [uh] at hlt;exact hlt
  have e:(Fv s p f d')[i]?=some (kI s p f i d'):=by
   unfold Fv
   rw [List.getElem?_map,List.getElem?_range hi]
   rfl
  rw [List.getElem?_eq_getElem hlt] at e
  exact ⟨i,hi,(Option.some.inj e).symm.trans hz.symm⟩
theorem yJ:∀ k:Nat,TeLaw.cnt (List.replicate k false)=0
 | 0=>rfl
 | k+1=>by rw [List.replicate_succ,TeLaw.cnt,yJ k]
theorem tH {R:Nat}:∀ (k r:Nat),TeLaw.tF R r (List.replicate k false)=true
 | 0,r=>rfl
 | k+1,r=>by rw [List.replicate_succ,TeLaw.tF];exact tH k 0
theorem wA:∀ (k f i:Nat),Cq f i (List.replicate k false)=f
 | 0,f,i=>rfl
 | k+1,f,i=>by rw [List.replicate_succ,Cq];exact wA k f (i+1)
theorem KB {s:ai} (hg:Good s) (k:Nat):0 ∈ rC s k 0 0 s.fail:=by
 have hf:=hg.fail
 have e:s.fail=((s.fail.toNat:Nat):Int):=by omega
 rw [e,Al hg]
 exact List.mem_map.2 ⟨List.replicate (k - 0) false,TeLaw.gP.2 ⟨List.length_replicate,by rw [yJ];exact Nat.zero_le _,tH _ _⟩,wA _ 0 0⟩
theorem prune {s:ai} (hg:Good s) {ds:List Int} {b:List Order} {d:Nat} {n e:Int} (hb:jZ s b 0=some (d,n)) (hd:(d:Int) < e) (hds:∀ x ∈ ds,e≤x):cz s ds b=none:=by
 cases h:cz s ds b with
 | none=>rfl
 | some p =>
  exfalso
  obtain ⟨q,rfl,h2,_,h4⟩:=jU h
  obtain ⟨k1,m,k2,k3⟩:=CB hb
  have hq:∀ o ∈ q,e≤o.day:=fun o ho=>hds _ (by rw [←h2];exact List.mem_map.2 ⟨o,ho,rfl⟩)
  have hz:=Gs (s:=s) (b:=b) hq (n:=m) hd
  rw [k3] at hz
  have:=List.all_eq_true.1 h4 0 (KB hg _)
  have hnone:=Option.isNone_iff_eq_none.1 this
  unfold jZ at hnone
  rw [Option.map_eq_none_iff,List.find?_eq_none] at hnone
  have hneg:=hnone d (List.mem_range.2 k1)
  rw [decide_eq_true_eq] at hneg
  apply hneg
  unfold zeroAt nR
  cases hf:(Fv s (b++q) 0 d).findIdx? fun x=>decide (0=x) with
  | none =>
   exfalso
   rw [List.findIdx?_eq_none_iff] at hf
   have:=hf 0 (List.mem_map.2 ⟨m,List.mem_range.2 k2,hz⟩)
   simp at this
  | some i=>dsimp only;omega
theorem CC {s:ai} (hg:Good s) {f:Nat} (hf:f ∈ aK s) {d:Int} (hd:0≤d∧d < s.days):iK s ⟨d,aP f⟩:=by
 obtain ⟨⟨h1,h2⟩,h3⟩:=(nU hg).1 hf
 have hl:=hg.len
 obtain ⟨k1,k2⟩:=yI h2 (by omega)
 unfold lK at h3
 rw [Bool.and_eq_true,decide_eq_true_eq] at h3
 have h8:f < 256:=Nat.lt_of_lt_of_le h2 (Nat.le_trans (Nat.pow_le_pow_right (by decide) hl.2) (by decide))
 have hpw:(aP f).Pairwise (· < ·):=by
  unfold aP
  rw [List.pairwise_map]
  exact (List.Pairwise.filter _ List.pairwise_lt_range).imp fun h=>by omega
 refine ⟨hd,k2,?_,k1,fun i j hi hj hij=>List.pairwise_iff_getElem.1 hpw i j hi hj hij,h3.1⟩
 cases hc:aP f with
 | nil =>
  exfalso
  rcases Nat.eq_zero_or_pos f with h0|h0
  ·omega
  ·rw [yG h8 (by omega)] at hc
   cases hc
 | cons a l=>simp
theorem Ee {s:ai} {b:List Order} (hb:jP s b) (h8:b.length+1≤8) {o:Order} (ho:iK s o) (hd:∀ x ∈ b,x.day < o.day):jP s (b++[o]):=by
 refine ⟨hb.good,by rw [List.length_append];exact h8,fun x hx=>?_,fun i j hi hj hij=>?_⟩
 ·rcases List.mem_append.1 hx with hx|hx
  ·exact hb.order x hx
  ·rw [List.mem_singleton.1 hx];exact ho
 ·have hjb:j < b.length+1:=by rw [List.length_append] at hj;exact hj
  have hib:i < b.length:=by omega
  rw [List.getElem_append_left hib]
  by_cases e:j < b.length
  ·rw [List.getElem_append_left e]
   exact hb.DX i j hib e hij
  ·rw [List.getElem_append_right (by omega)]
   simp only [show j - b.length=0 by omega,List.getElem_cons_zero]
   exact hd _ (List.getElem_mem hib)
def Ef (P:List Order) (n:Nat) (l:List Int):List Order:=P.modify n fun o=>⟨o.day,l⟩
theorem Gt {P:List Order} {n:Nat} {l:List Int}:(Ef P n l).map (·.day)=P.map (·.day):=by
 unfold Ef
 apply List.ext_getElem?
 intro i
 rw [List.getElem?_map,List.getElem?_map,List.getElem?_modify]
 split
 ·cases P[i]? <;> rfl
 ·cases P[i]? <;> rfl
theorem Gu {P:List Order} {n:Nat} {l:List Int} (h:n < P.length):(Ef P n l).take (n+1)=P.take n++[⟨P[n].day,l⟩]:=by
 unfold Ef
 rw [List.modify_eq_take_cons_drop h,List.take_append,List.take_of_length_le (by rw [List.length_take];omega),List.length_take,Nat.min_eq_left (by omega),show n+1 - n=1 by omega]
 rfl
theorem Ap:∀ {P:List Order} {n:Nat} {l:List Int},n < P.length→cX (gF P) [.sl (ints l) false] (n * 2+1)=gF (Ef P n l)
 | o :: P,0,l,_=>rfl
 | o :: P,n+1,l,h=>by
  have ih:=Ap (P:=P) (n:=n) (l:=l) (by simpa using h)
  have e:(n+1) * 2+1=(n * 2+1)+2:=by omega
  rw [e]
  show cX (aC o.day :: AV.sl (ints o.aO) false :: gF P) [.sl (ints l) false] (n * 2+1+2)=_
  have:cX (aC o.day :: AV.sl (ints o.aO) false :: gF P) [.sl (ints l) false] (n * 2+1+2)=aC o.day :: AV.sl (ints o.aO) false :: cX (gF P) [.sl (ints l) false] (n * 2+1):=rfl
  rw [this,ih]
  rfl
theorem FC:∀ {P:List Order} {n:Nat},(h:n < P.length)→(gF P)[n * 2]?=some (aC P[n].day)
 | o :: P,0,_=>rfl
 | o :: P,n+1,h=>by
  rw [show (n+1) * 2=n * 2+1+1 by omega]
  show (aC o.day :: AV.sl (ints o.aO) false :: gF P)[n * 2+1+1]?=_
  rw [List.getElem?_cons_succ,List.getElem?_cons_succ]
  exact FC (by simpa using h)
theorem Eg (a b:List Order):gF (a++b)=gF a++gF b:=by
 unfold gF
 rw [List.map_append,List.flatten_append]
theorem Aq (P:List Order) (n:Nat) (h:n≤P.length):(0:Nat)+n * 2≤(gF P).length∧((P.take n).map aD).length=n∧(∀ el ∈ (P.take n).map aD,el.length=2)∧((P.take n).map aD).flatten=((gF P).drop 0).take (n * 2):=by
 refine ⟨by rw [kJ];omega,by rw [List.length_map,List.length_take];omega,fun el hel=>by obtain ⟨o,_,rfl⟩:=List.mem_map.1 hel;rfl,?_⟩
 rw [List.drop_zero]
 have e:gF P=gF (P.take n)++gF (P.drop n):=by rw [←Eg,List.take_append_drop]
 have hl:(gF (P.take n)).length=n * 2:=by rw [kJ,List.length_take,Nat.min_eq_left h]
 show gF (P.take n)=(gF P).take (n * 2)
 rw [e]
 exact (List.take_left' hl).symm
end Go.Proofs.YtpeogffeoehboaaDoor
