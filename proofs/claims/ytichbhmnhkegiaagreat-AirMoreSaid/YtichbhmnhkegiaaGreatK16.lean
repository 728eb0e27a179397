/-
  Contracts of the program's functions and of the document's. Lemmas alone; their conditions stand in them.
-/
import Derived.Test.YtichbhmnhkegiaaGreatA3
import Derived.Test.YtichbhmnhkegiaaGreatK2
import Derived.Test.YtichbhmnhkegiaaGreatK8
import Derived.Test.YtichbhmnhkegiaaGreatK13
import Derived.Test.YtichbhmnhkegiaaGreatK15
open Go Go.RM Go.AirLaw
namespace Go.Proofs.YtichbhmnhkegiaaGreat
set_option maxRecDepth 100000
set_option maxHeartbeats 4000000
def Nl (A B C:AB) (L:List Int):Nat→List AB
 | 0=>[A,B,C,.cells [.fl (.slice none 0 0)] 0 0]
 | i+1=>[A,B,C,.cells [.bg 4 i 0 (i+1) (i+2)] 0 0,.cells ((L.take (i+1)).map ai) 1 i]
theorem Lm {L:List Int} {i:Nat} {x:List AV} (h:(L.map eI)[i]?=some x):∃ y,L[i]?=some y∧x=eI y:=by
 rw [List.getElem?_map,Option.map_eq_some_iff] at h
 obtain ⟨y,h1,h2⟩:=h
 exact ⟨y,h1,h2.symm⟩
theorem Iv {A B C:AB} (hA:AB.cJ 5 A=true) (hB:AB.cJ 5 B=true) (hC:AB.cJ 5 C=true) (L:List Int) (i v a b:Nat):([A,B,C,.cells [.bg 4 i 0 a b] 0 0,.cells (L.map ai) 1 v]:List AB).all (AB.cJ 5)=true:=by
 have h:AB.cJ 5 (.cells (L.map ai) 1 v)=true:=by
  show iM 5 (L.map ai)=true
  induction L with
  | nil=>rfl
  | cons a l ih=>exact ih
 have h':AB.cJ 5 (.cells [.bg 4 i 0 a b] 0 0)=true:=rfl
 simp only [List.all_cons,List.all_nil,hA,hB,hC,h,h',Bool.and_true]
theorem Iw (one:Bool) (A B C:AB) (hA:AB.cJ 5 A=true) (hB:AB.cJ 5 B=true) (hC:AB.cJ 5 C=true) (n:Nat) (hn:1≤n∧n≤4) {aI:aV} {Q:AV→List AB→aV→Prop} (hQ:Q (.bg 4 (n - 1) 0 n (n+1)) [A,B,C,.cells [.bg 4 (n - 1) 0 n (n+1)] 0 0,.cells ((dB ⟨0,(n:Int) - 1⟩).map ai) 1 (n - 1)] aI) :
  aP TT TB one (.fn 130 [] []) [.fl (.slice none 0 0),DZ ⟨0,(n:Int) - 1⟩] [A,B,C] aI Q:=by
 have hg:=mO one ⟨0,(n:Int) - 1⟩ (by dsimp only;omega)
 have hl:(dB ⟨0,(n:Int) - 1⟩).length=n:=by rw [bp];unfold bh;dsimp only;omega
 generalize dB ⟨0,(n:Int) - 1⟩=L at *
 refine aP.body (fn:=Tryz.f130) rfl rfl rfl ?_
 refine RM.fm (mu:=fun t=>Nat.beq t 2 || Nat.beq t 11) ?_
 repeat' (first |refine u1 ?_ |fail)
 refine ax.seq ?_
 refine RM.fm (mu:=fun t=>Nat.beq t 2 || Nat.beq t 11) ?_
 repeat' (first |refine u1 ?_ |fail)
 refine ax.block ?_
 refine ax.range (Nl A B C L) (fun _=>aI) (fun _=>True) rfl hg rfl rfl trivial (fun i x hx _=>?_) (fun _=>?_)
 ·obtain ⟨x,hxi,rfl⟩:=Lm hx
  have hil:=(List.getElem?_eq_some_iff.1 hxi).1
  have hte:L.take (i+1)=L.take i++[x]:=by rw [List.take_add_one,hxi];rfl
  refine ⟨rfl,?_⟩
  cases i with
  | zero =>
   refine aa (mu:=fun t=>Nat.beq t 2 || Nat.beq t 11) ?_
   repeat' (first |refine u1 ?_ |refine u2 ?_ |fail)
   refine aa (mu:=fun t=>Nat.beq t 2 || Nat.beq t 11) ?_
   repeat' (first |((with_reducible show RM.wpOp _ _ (.call _) _ _ _);refine RM.Mq (els:=[eI x]) rfl rfl rfl rfl rfl rfl (fun el hel=>by rw [List.mem_singleton.1 hel];rfl) rfl rfl (by simp only [List.length_singleton];omega) ?_) |refine u1 ?_ |refine u2 ?_ |fail)
   exact ⟨_,ah.to (l:=[]) (hp:=[A,B,C,.cells [.bg 4 0 0 (0+1) (0+2)] 0 0,.cells ((L.take (0+1)).map ai) 1 0]) 5 (by rw [hte];rfl) trivial (Nat.le_of_ble_eq_true rfl) rfl (Iv hA hB hC _ _ _ _ _)⟩
  | succ i =>
   have hll:((L.take (i+1)).map ai).length=i+1:=by rw [List.length_map,List.length_take];omega
   refine aa (mu:=fun t=>Nat.beq t 2 || Nat.beq t 11) ?_
   repeat' (first |refine u1 ?_ |refine u2 ?_ |fail)
   refine aa (mu:=fun t=>Nat.beq t 2 || Nat.beq t 11) ?_
   repeat' (first |((with_reducible show RM.wpOp _ _ (.call _) _ _ _);refine RM.Mr (els:=[eI x]) rfl rfl rfl rfl rfl (fun el hel=>by rw [List.mem_singleton.1 hel];rfl) rfl rfl rfl (by rw [hll];exact (Nat.mul_one _).symm) (.inr rfl) (by simp only [List.length_singleton];omega) ?_) |refine u1 ?_ |refine u2 ?_ |fail)
   exact ⟨_,ah.to (l:=[]) (hp:=[A,B,C,.cells [.bg 4 (i+1) 0 (i+1+1) (i+1+2)] 0 0,.cells ((L.take (i+1+1)).map ai) 1 (i+1)]) 5 (by rw [hte,List.map_append];rfl) trivial (Nat.le_of_ble_eq_true rfl) rfl (Iv hA hB hC _ _ _ _ _)⟩
 ·rw [List.length_map,hl]
  obtain ⟨m,rfl⟩:∃ m,n=m+1:=⟨n - 1,by omega⟩
  have htk:L.take (m+1)=L:=List.take_of_length_le (by omega)
  show iL _ _ _ ⟨_,[A,B,C,.cells [.bg 4 m 0 (m+1) (m+2)] 0 0,.cells ((L.take (m+1)).map ai) 1 m],_,_,_⟩
  rw [htk]
  refine RM.d3 ?_
  refine RM.c9 ?_
  refine aa (mu:=fun t=>Nat.beq t 2 || Nat.beq t 11) ?_
  repeat' (first |refine u1 ?_ |fail)
  exact hQ
theorem Gs (one:Bool) (A B C:AB) (hA:AB.cJ 5 A=true) (hB:AB.cJ 5 B=true) (hC:AB.cJ 5 C=true) (n:Nat) (hn:1≤n∧n≤4) {aI:aV} {Q:AV→List AB→aV→Prop} (hQ:Q (.bg 4 (n - 1) 0 n (n+1)) [A,B,C,.cells [.bg 4 (n - 1) 0 n (n+1)] 0 0,.cells ((dB ⟨0,(n:Int) - 1⟩).map ai) 1 (n - 1)] aI) :
  aP TT TB one (.fn 96 [] []) [DZ ⟨0,(n:Int) - 1⟩] [A,B,C] aI Q:=by
 refine aP.body (fn:=Tryz.f96) rfl rfl rfl ?_
 refine aa (mu:=fun _=>false) ?_
 repeat' (first |refine Iw one A B C hA hB hC n hn ?_ |refine u1 ?_ |fail)
 exact hQ
theorem Ln (one:Bool) (s:au) (a b:Nat) (ha:a < s.ak.length) (hb:b < s.ak.length):af TT TB one (.fn 99 [] [.pt (ay s) 0]) [ai a,ai b] (ai (ek (dD s a) (dD s b))):=by
 have hata:=zb ha
 have hatb:=zb hb
 have hv:=EV true (dD s a) (dD s b)
 unfold dD at *
 refine af.body (fn:=Tryz.f99) rfl rfl rfl rfl ?_
 refine aa (mu:=fun _=>false) ?_
 repeat' (first |refine u1 ?_ |refine u2 ?_ |fail)
 exact ⟨[_],⟨Fz.deep rfl,trivial⟩,rfl⟩
section
variable (c : Int → Int → Int)
def Rb (a b:Int):Prop:=c a b < 0∨c a b=0∧a < b
def oT (S:List Int) (m:Nat):Prop:=∀ p q:Nat,p < q→q < m→Rb c (S.getD p 0) (S.getD q 0)
end
def swapAt (S:List Int) (j:Nat):List Int:=(S.set j (S.getD (j - 1) 0)).set (j - 1) (S.getD j 0)
theorem Iy (S:List Int) (j:Nat):(swapAt S j).length=S.length:=by unfold swapAt;simp
theorem swap_perm (S:List Int) {j:Nat} (hj:j < S.length):(swapAt S j).Perm S:=by
 unfold swapAt
 have h1:j - 1 < S.length:=by omega
 rw [List.getD_eq_getElem?_getD,List.getD_eq_getElem?_getD (i:=j),List.getElem?_eq_getElem h1,List.getElem?_eq_getElem hj]
 exact List.set_set_perm hj h1
theorem CO (S:List Int) {j:Nat} (hj:j < S.length) (h0:0 < j) (q:Nat):(swapAt S j).getD q 0=if q=j - 1 then S.getD j 0 else if q=j then S.getD (j - 1) 0 else S.getD q 0:=by
 unfold swapAt
 rw [List.getD_eq_getElem?_getD,List.getElem?_set,List.getElem?_set]
 by_cases h1:j - 1=q
 ·subst h1
  rw [if_pos rfl,if_pos (by rw [List.length_set];omega),if_pos rfl]
  rfl
 ·rw [if_neg h1,if_neg (show ¬ q=j - 1 from fun h=>h1 h.symm)]
  by_cases h2:j=q
  ·subst h2
   rw [if_pos rfl,if_pos hj,if_pos rfl]
   rfl
  ·rw [if_neg h2,if_neg (show ¬ q=j from fun h=>h2 h.symm),List.getD_eq_getElem?_getD]
structure wX (c:Int→Int→Int) (S:List Int) (i j:Nat):Prop where
 others:∀ p q:Nat,p < q→q≤i→p ≠ j→q ≠ j→Rb c (S.getD p 0) (S.getD q 0)
 above:∀ q:Nat,j < q→q≤i→Rb c (S.getD j 0) (S.getD q 0)
 here:S.getD j 0=i
 less:∀ q:Nat,q≤i→q ≠ j→S.getD q 0 < i
 rest:∀ q:Nat,i < q→q < S.length→S.getD q 0=q
structure wY (c:Int→Int→Int) (S:List Int) (i:Nat):Prop where
 sorted:oT c S i
 less:∀ q:Nat,q < i→S.getD q 0 < i
 rest:∀ q:Nat,i≤q→q < S.length→S.getD q 0=q
theorem wY.start {c:Int→Int→Int} {S:List Int} {i:Nat} (h:wY c S i) (hi:i < S.length):wX c S i i :=
 ⟨fun p q h1 h2 h3 h4=>h.sorted p q h1 (by omega),fun q h1 h2=>by omega,h.rest i (Nat.le_refl _) hi,fun q h1 h2=>h.less q (by omega),fun q h1 h2=>h.rest q (by omega) h2⟩
theorem wX.swap {c:Int→Int→Int} {S:List Int} {i j:Nat} (h:wX c S i j) (hi:i < S.length) (hj:j≤i) (h0:0 < j) (hl:c (S.getD j 0) (S.getD (j - 1) 0) < 0):wX c (swapAt S j) i (j - 1):=by
 have hg:=fun q=>CO S (j:=j) (by omega) h0 q
 constructor
 ·intro p q h1 h2 h3 h4
  rw [hg p,hg q,if_neg h3,if_neg h4]
  by_cases hp:p=j
  ·rw [if_pos hp,if_neg (by omega)]
   exact h.others (j - 1) q (by omega) h2 (by omega) (by omega)
  ·rw [if_neg hp]
   by_cases hq:q=j
   ·rw [if_pos hq]
    exact h.others p (j - 1) (by omega) (by omega) hp (by omega)
   ·rw [if_neg hq]
    exact h.others p q h1 h2 hp hq
 ·intro q h1 h2
  rw [hg (j - 1),hg q,if_pos rfl,if_neg (by omega)]
  by_cases hq:q=j
  ·rw [if_pos hq];exact .inl hl
  ·rw [if_neg hq]
   exact h.above q (by omega) h2
 ·rw [hg (j - 1),if_pos rfl];exact h.here
 ·intro q h1 h2
  rw [hg q,if_neg h2]
  by_cases hq:q=j
  ·rw [if_pos hq];exact h.less (j - 1) (by omega) (by omega)
  ·rw [if_neg hq];exact h.less q h1 hq
 ·intro q h1 h2
  rw [Iy] at h2
  rw [hg q,if_neg (by omega),if_neg (by omega)]
  exact h.rest q h1 h2
theorem wX.done {c:Int→Int→Int} {S:List Int} {i j:Nat} (h:wX c S i j) (hc:∀ a b,¬ c a b < 0→c b a < 0∨c b a=0) (htr:∀ a b d,Rb c a b→Rb c b d→Rb c a d) (hd:j=0∨¬ c (S.getD j 0) (S.getD (j - 1) 0) < 0):wY c S (i+1):=by
 refine ⟨?_,?_,fun q h1 h2=>h.rest q (by omega) h2⟩
 ·intro p q h1 h2
  by_cases hp:p=j
  ·rw [hp];exact h.above q (by omega) (by omega)
  ·by_cases hq:q=j
   ·rcases hd with hd|hd
    ·omega
    ·have hlast:Rb c (S.getD (j - 1) 0) (S.getD j 0):=by
      rcases hc _ _ hd with h'|h'
      ·exact .inl h'
      ·exact .inr ⟨h',by rw [h.here];exact h.less (j - 1) (by omega) (by omega)⟩
     rw [hq]
     by_cases hpj:p=j - 1
     ·rw [hpj];exact hlast
     ·exact htr _ _ _ (h.others p (j - 1) (by omega) (by omega) hp (by omega)) hlast
   ·exact h.others p q h1 (by omega) hp hq
 ·intro q hq
  by_cases hqj:q=j
  ·rw [hqj,h.here];omega
  ·have:=h.less q (by omega) hqj;omega
abbrev gw (S:List Int) (ver:Nat):AB:=.cells (S.map ai) 1 ver
theorem sR {S:List Int} {q:Nat} (h:q < S.length):(S.map ai)[0+((q:Nat):Int).toNat * 1]?=some (ai (S.getD q 0)):=by
 rw [Int.toNat_natCast,Nat.zero_add,Nat.mul_one,List.getElem?_map,List.getD_eq_getElem?_getD,List.getElem?_eq_getElem h]
 rfl
theorem vk {S:List Int} {k:Nat} (h:k < S.length) (x:Int):dG (S.map ai) [ai x] (0+((k:Nat):Int).toNat * 1)=(S.set k x).map ai:=by
 rw [Int.toNat_natCast,Nat.zero_add,Nat.mul_one,List.map_set,List.set_eq_take_append_cons_drop,if_pos (by rw [List.length_map];exact h)]
 unfold dG
 simp
theorem l6 {A B C D:AB} (hA:AB.cJ 5 A=true) (hB:AB.cJ 5 B=true) (hC:AB.cJ 5 C=true) (hD:AB.cJ 5 D=true) (L:List Int) (v:Nat):([A,B,C,D,.cells (L.map ai) 1 v]:List AB).all (AB.cJ 5)=true:=by
 have h:AB.cJ 5 (.cells (L.map ai) 1 v)=true:=by
  show iM 5 (L.map ai)=true
  induction L with
  | nil=>rfl
  | cons a l ih=>exact ih
 simp only [List.all_cons,List.all_nil,hA,hB,hC,hD,h,Bool.and_true]
end Go.Proofs.YtichbhmnhkegiaaGreat
open Go Go.RM Go.AirLaw
namespace Go.Proofs.YtichbhmnhkegiaaGreat
set_option maxRecDepth 100000
set_option maxHeartbeats 4000000
theorem Lo (one:Bool) (a b:Int):Pu one 153 [ai a,ai b] (BB (decide (a < b))):=by
 have ha:=vc one a
 have hb:=vc one b
 refine af.body (fn:=Tryz.f153) rfl rfl rfl rfl ?_
 refine aa (mu:=fun _=>false) ?_
 repeat' (first |refine u1 ?_ |fail)
 exact ⟨[_],⟨Fz.deep rfl,trivial⟩,rfl⟩
def Lq (n:Nat):Int:=([0,1,2,2,3,3,3,3,4,4,4,4,4]:List Int).getD n 0
theorem JW (one:Bool) (n:Nat) (hn:n≤12):Pu one 157 [.fl (.int .u64 n)] (ai (Lq n)):=by
 match n,hn with
 | 0,_|1,_|2,_|3,_|4,_|5,_|6,_|7,_|8,_|9,_|10,_|11,_|12,_ =>
  refine af.body (fn:=Tryz.f157) rfl rfl rfl rfl ?_
  refine aa (mu:=fun _=>false) ?_
  repeat' (first |refine RM.b1 rfl rfl (of_decide_eq_true (by kernel_rfl)) ?_ |refine u1 ?_ |refine u2 ?_ |fail)
  exact ⟨[_],⟨Fz.deep rfl,trivial⟩,by kernel_rfl⟩
theorem L6 (one:Bool) (n:Nat) (hn:n≤12):Pu one 137 [.fl (.int .u64 n)] (ai (Lq n)):=by
 have hv:=JW one n hn
 refine af.body (fn:=Tryz.f137) rfl rfl rfl rfl ?_
 refine aa (mu:=fun _=>false) ?_
 repeat' (first |refine u1 ?_ |fail)
 exact ⟨[_],⟨Fz.deep rfl,trivial⟩,rfl⟩
structure jR (S:List Int) (i j:Nat):Prop where
 others:∀ p q:Nat,p < q→q≤i→p ≠ j→q ≠ j→S.getD p 0≤S.getD q 0
 above:∀ q:Nat,j < q→q≤i→S.getD j 0≤S.getD q 0
theorem jR.start {S:List Int} {i:Nat} (h:kK S i):jR S i i:=⟨fun p q h1 h2 h3 h4=>h p q h1 (by omega),fun q h1 h2=>by omega⟩
theorem jR.swap {S:List Int} {i j:Nat} (h:jR S i j) (hi:i < S.length) (hj:j≤i) (h0:0 < j) (hl:S.getD j 0 < S.getD (j - 1) 0):jR (swapAt S j) i (j - 1):=by
 have hg:=fun q=>CO S (j:=j) (by omega) h0 q
 constructor
 ·intro p q h1 h2 h3 h4
  rw [hg p,hg q,if_neg h3,if_neg h4]
  by_cases hp:p=j
  ·rw [if_pos hp,if_neg (by omega)]
   exact h.others (j - 1) q (by omega) h2 (by omega) (by omega)
  ·rw [if_neg hp]
   by_cases hq:q=j
   ·rw [if_pos hq]
    by_cases hpj:p=j - 1
    ·exact absurd hpj h3
    ·exact h.others p (j - 1) (by omega) (by omega) hp (by omega)
   ·rw [if_neg hq]
    exact h.others p q h1 h2 hp hq
 ·intro q h1 h2
  rw [hg (j - 1),hg q,if_pos rfl,if_neg (by omega)]
  by_cases hq:q=j
  ·rw [if_pos hq];omega
  ·rw [if_neg hq]
   exact h.above q (by omega) h2
theorem jR.done {S:List Int} {i j:Nat} (h:jR S i j) (hd:j=0∨S.getD (j - 1) 0≤S.getD j 0):kK S (i+1):=by
 intro p q h1 h2
 by_cases hp:p=j
 ·rw [hp];exact h.above q (by omega) (by omega)
 ·by_cases hq:q=j
  ·rcases hd with hd|hd
   ·omega
   ·rw [hq]
    by_cases hpj:p=j - 1
    ·rw [hpj];exact hd
    ·exact Int.le_trans (h.others p (j - 1) (by omega) (by omega) hp (by omega)) hd
  ·exact h.others p q h1 (by omega) hp hq
theorem tW {A:AB} (hA:AB.cJ 2 A=true) (L:List Int) (v:Nat):([A,.cells (L.map ai) 1 v]:List AB).all (AB.cJ 2)=true:=by
 have h:AB.cJ 2 (.cells (L.map ai) 1 v)=true:=by
  show iM 2 (L.map ai)=true
  induction L with
  | nil=>rfl
  | cons a l ih=>exact ih
 simp only [List.all_cons,List.all_nil,hA,h,Bool.and_true]
theorem ya (one:Bool) (L:List Int) (N:Nat) (hN:L.length=N) (h12:N≤12) {A:AB} (hA:AB.cJ 2 A=true) {ver c:Nat} {aI:aV} {Q:AV→List AB→aV→Prop} (hQ:∀ S:List Int,kK S N→S.Perm L→Q (.tp []) [A,gw S ver] aI) :
  aP TT TB one (.fn 147 [] []) [.bg 1 ver 0 N c,ai 0,ai (N:Nat)] [A,gw L ver] aI Q:=by
 refine aP.body (fn:=Tryz.f147) rfl rfl rfl ?_
 refine aa (mu:=fun _=>false) ?_
 repeat' (first |refine u1 ?_ |fail)
 refine ax.aK (ah.to (l:=[(0,.bg 1 ver 0 N c),(1,ai 0),(2,ai (N:Nat)),(6,ai (1:Nat))]) (hp:=[A,gw L ver]) 2 rfl ⟨rfl,rfl,rfl,rfl,trivial⟩ (Nat.le_refl _) rfl (tW hA _ _)) ?_
 refine ax.loop (fun x:Nat × List Int=>(1≤x.1∧(x.1≤N∨x.1=1))∧kK x.2 x.1∧x.2.Perm L) (fun x=>⟨aF [(0,.bg 1 ver 0 N c),(1,ai 0),(2,ai (N:Nat)),(6,ai (x.1:Nat))],[A,gw x.2 ver],aI,false,2⟩) (fun x=>N - x.1) ?_ (1,L) ⟨⟨Nat.le_refl _,.inr rfl⟩,(fun p q h1 h2=>by dsimp only at h2;omega),List.Perm.refl _⟩
 rintro ⟨i,S⟩ ⟨⟨hi1,hi⟩,hso,hpe⟩
 dsimp only at hi1 hi hso hpe
 have hSl:S.length=N:=by rw [hpe.length_eq,hN]
 refine aa (mu:=fun _=>false) ?_
 repeat' (first |refine u1 ?_ |fail)
 refine RM.e1 rfl ⟨fun hc=>?_,fun hc=>?_⟩
 ·rw [decide_eq_true_eq] at hc
  repeat' (first |refine u1 ?_ |fail)
  refine ax.aK (ah.to (l:=[(0,.bg 1 ver 0 N c),(1,ai 0),(2,ai (N:Nat)),(6,ai (i:Nat)),(7,ai (i:Nat))]) (hp:=[A,gw S ver]) 2 rfl ⟨rfl,rfl,rfl,rfl,rfl,trivial⟩ (Nat.le_refl _) rfl (tW hA _ _)) ?_
  refine ax.loop (fun x:Nat × List Int=>(x.1≤i)∧jR x.2 i x.1∧x.2.Perm L) (fun x=>⟨aF [(0,.bg 1 ver 0 N c),(1,ai 0),(2,ai (N:Nat)),(6,ai (i:Nat)),(7,ai (x.1:Nat))],[A,gw x.2 ver],aI,false,2⟩) (fun x=>x.1) ?_ (i,S) ⟨Nat.le_refl _,jR.start hso,hpe⟩
  rintro ⟨j,R⟩ ⟨hj,hsi,hpr⟩
  dsimp only at hj hsi hpr
  have hRl:R.length=N:=by rw [hpr.length_eq,hN]
  refine aa (mu:=fun _=>false) ?_
  by_cases h0:j=0
  ·subst h0
   repeat' (first |refine u1 ?_ |refine u2 ?_ |fail)
   refine ⟨(i+1,R),⟨⟨by omega,.inl (by dsimp only;omega)⟩,hsi.done (.inl rfl),hpr⟩,(by dsimp only;omega),?_⟩
   exact ah.to 2 rfl ⟨rfl,rfl,rfl,aR (by simp),trivial⟩ (Nat.le_refl _) rfl (tW hA _ _)
  ·have d1:decide ((0:Int) < (j:Int))=true:=decide_eq_true (by omega)
   have hgj:=sR (S:=R) (q:=j) (by omega)
   have hgk:=sR (S:=R) (q:=j - 1) (by omega)
   rw [show (((j - 1:Nat):Int))=(j:Int) - 1 by omega] at hgk
   have hle:=Lo true (R.getD j 0) (R.getD (j - 1) 0)
   by_cases hl:R.getD j 0 < R.getD (j - 1) 0
   ·rw [decide_eq_true hl] at hle
    have hb1:Nat.ble (0+((j:Nat):Int).toNat * 1+1) (R.map ai).length=true:=Nat.ble_eq_true_of_le (by rw [List.length_map];omega)
    have he1:=vk (S:=R) (k:=j) (by omega) (R.getD (j - 1) 0)
    have hb2:Nat.ble (0+(((j:Nat):Int) - 1).toNat * 1+1) (dG (R.map ai) [ai (R.getD (j - 1) 0)] (0+((j:Nat):Int).toNat * 1)).length=true:=Nat.ble_eq_true_of_le (by rw [he1,List.length_map,List.length_set];omega)
    have he2:=vk (S:=R.set j (R.getD (j - 1) 0)) (k:=j - 1) (by rw [List.length_set];omega) (R.getD j 0)
    rw [show (((j - 1:Nat):Int))=(j:Int) - 1 by omega,←he1] at he2
    repeat' (first |((with_reducible show RM.wpOp _ _ (.load _ _) _ _ _);first|refine RM.DQ rfl rfl rfl hgj ?_|refine RM.DQ rfl rfl rfl hgk ?_) |((with_reducible show dP _ _ _ _ _ _);first|refine RM.LK rfl rfl rfl rfl rfl rfl hb1 ?_|refine RM.LK rfl rfl rfl rfl rfl rfl hb2 ?_) |refine u1 ?_ |refine u2 ?_ |fail)
    refine ⟨(j - 1,swapAt R j),⟨by dsimp only;omega,hsi.swap (by omega) hj (by omega) hl,(swap_perm R (by omega)).trans hpr⟩,(by dsimp only;omega),?_⟩
    refine ah.to 2 ?_ ⟨rfl,rfl,rfl,rfl,aR (by dsimp only;omega),trivial⟩ (Nat.le_refl _) rfl (tW hA _ _)
    show [A,AB.cells (dG (dG (R.map ai) [ai (R.getD (j - 1) 0)] (0+((j:Nat):Int).toNat * 1)) [ai (R.getD j 0)] (0+(((j:Nat):Int) - 1).toNat * 1)) 1 ver]=[A,gw (swapAt R j) ver]
    rw [he2]
    rfl
   ·rw [decide_eq_false hl] at hle
    repeat' (first |((with_reducible show RM.wpOp _ _ (.load _ _) _ _ _);first|refine RM.DQ rfl rfl rfl hgj ?_|refine RM.DQ rfl rfl rfl hgk ?_) |refine u1 ?_ |refine u2 ?_ |fail)
    refine ⟨(i+1,R),⟨⟨by omega,.inl (by dsimp only;omega)⟩,hsi.done (.inr (by omega)),hpr⟩,(by dsimp only;omega),?_⟩
    exact ah.to 2 rfl ⟨rfl,rfl,rfl,aR (by simp),trivial⟩ (Nat.le_refl _) rfl (tW hA _ _)
 ·rw [decide_eq_false_iff_not] at hc
  repeat' (first |refine u1 ?_ |fail)
  refine hQ S (fun p q h1 h2=>hso p q h1 (by omega)) hpe
theorem L7 (one:Bool) (L:List Int) (N:Nat) (hN:L.length=N) (h12:N≤12) (lim:Int) {A:AB} (hA:AB.cJ 2 A=true) {ver c:Nat} {aI:aV} {Q:AV→List AB→aV→Prop} (hQ:∀ S:List Int,kK S N→S.Perm L→Q (.tp []) [A,gw S ver] aI) :
  aP TT TB one (.fn 136 [] []) [.bg 1 ver 0 N c,ai 0,ai (N:Nat),ai lim] [A,gw L ver] aI Q:=by
 refine aP.body (fn:=Tryz.f136) rfl rfl rfl ?_
 refine aa (mu:=fun _=>false) ?_
 repeat' (first |refine u1 ?_ |fail)
 refine ax.aK (ah.to (l:=[(0,.bg 1 ver 0 N c),(1,ai 0),(2,ai (N:Nat)),(3,ai lim),(8,.fl (.bool true)),(9,.fl (.bool true))]) (hp:=[A,gw L ver]) 2 rfl ⟨rfl,rfl,rfl,rfl,rfl,rfl,trivial⟩ (Nat.le_refl _) rfl (tW hA _ _)) ?_
 refine ax.loop (fun _:Unit=>True) (fun _=>⟨aF [(0,.bg 1 ver 0 N c),(1,ai 0),(2,ai (N:Nat)),(3,ai lim),(8,.fl (.bool true)),(9,.fl (.bool true))],[A,gw L ver],aI,false,2⟩) (fun _=>0) ?_ () trivial
 intro _ _
 refine aa (mu:=fun _=>false) ?_
 have d1:decide ((N:Int) - 0≤12)=true:=decide_eq_true (by omega)
 repeat' (first |refine ya _ L N hN h12 hA (fun S hso hpe=>?_) |refine u1 ?_ |fail)
 exact hQ S hso hpe
theorem Ea:∀ {N:Nat},N≤12→IntKind.u64.wrap (N:Int)=(N:Int)
 | 0,_|1,_|2,_|3,_|4,_|5,_|6,_|7,_|8,_|9,_|10,_|11,_|12,_=>rfl
theorem Ls (one:Bool) (L:List Int) (N:Nat) (hN:L.length=N) (h12:N≤12) {A:AB} (hA:AB.cJ 2 A=true) {ver c:Nat} {aI:aV} {Q:AV→List AB→aV→Prop} (hQ:∀ S:List Int,kK S N→S.Perm L→Q (.tp []) [A,gw S ver] aI) :
  aP TT TB one (.fn 103 [] []) [.bg 1 ver 0 N c] [A,gw L ver] aI Q:=by
 refine aP.body (fn:=Tryz.f103) rfl rfl rfl ?_
 refine aa (mu:=fun _=>false) ?_
 have hw:IntKind.u64.wrap (N:Int)=(N:Int):=Ea h12
 have hv:Pu one 137 [.fl (.int .u64 (IntKind.u64.wrap (N:Int)))] (ai (Lq N)):=by rw [hw];exact L6 one N h12
 repeat' (first |refine L7 _ L N hN h12 _ hA (fun S hso hpe=>?_) |refine u1 ?_ |refine u2 ?_ |fail)
 exact hQ S hso hpe
end Go.Proofs.YtichbhmnhkegiaaGreat
open Go Go.RM Go.AirLaw
namespace Go.Proofs.YtichbhmnhkegiaaGreat
set_option maxRecDepth 100000
set_option maxHeartbeats 4000000
def gJ (n:aA) (rs:List av) (tl th:Int × Int):List Int:=aO (fun i=>bL false n rs tl i || bL true n rs th i) 0 rs.length
structure uF (s:au) (n:aA) (rs:List av) (tl th:Int × Int):Prop where
 l:tl ∈ dH s n
 h:th ∈ fc s n
 JX:∀ u ∈ dH s n,¬ gv (aO (bL false n rs u) 0 rs.length) (aO (bL false n rs tl) 0 rs.length)
 hmin:∀ u ∈ fc s n,¬ gv (aO (bL true n rs u) 0 rs.length) (aO (bL true n rs th) 0 rs.length)
theorem tX {n:aA} {rs:List av} {t u:Int × Int} (i:Nat) (h:bL false n rs t i=true) (k:bL true n rs u i=true):False:=by
 unfold bL at h k
 cases hr:rs[i]? with
 | none=>rw [hr] at h;cases h
 | some r =>
  rw [hr] at h k
  dsimp only at h k
  unfold sQ at h k
  cases hh:r.aB <;> rw [hh] at h k <;> simp at h k
theorem JY {hp:List AB} {j v c n:Nat} {L:List Int} (h:hp[j]?=some (.cells (L.map ai) 1 v)) (hn:L.length=n):Fz hp (.bg j v 0 n c) (.sl (L.map eI) false) :=
 Fz.row (es:=1) h (by simp;omega) (by simp;omega) (fun el hel=>by obtain ⟨x,_,rfl⟩:=List.mem_map.1 hel;rfl) (by rw [nW,List.drop_zero,List.take_of_length_le (by simp;omega)]) (by rw [nW];exact yT _) (fun h=>Bool.noConfusion h)
theorem KA (L:List Int):(L.map eI).flatten.all AV.one=true:=by
 rw [nW]
 induction L with
 | nil=>rfl
 | cons a l ih=>exact ih
theorem KB {own:Bool} {fr:Nat→AV} {hp:List AB} {K:AV→List AB→Prop} {s x:Operand} {t u e:TypeId} {a1 a2 a3 a4 a5 a6} {j ver n c:Nat} {els:List (List AV)} {f:Bool} {cs:List AV} {inf:yb} {cs':List AV} {n':Nat} (he:cs++els.flatten=cs') (hn:n+els.length=n') (hs:aM fr s=.bg j ver 0 n c) (hx:aM fr x=.sl els f)
  (hu:TT.ty.get u=some ⟨.slice e,a1,a2,a3,a4,a5,a6⟩) (hi:elem? TT t=some inf) (hz:bQ inf=true) (hel:∀ el ∈ els,el.length=inf.size) (h1:els.flatten.all AV.one=true) (hj:hp[j]?=some (.cells cs inf.size ver)) (hl:cs.length=n * inf.size) (hc:c=n∨c=n+1)
  (hb:n' * inf.bytes≤140737488355328∧n'≤9223372036854775807) (hk:∀ v c',(c'=n'∨c'=n'+1)→K (.bg j v 0 n' c') (hp.set j (.cells cs' inf.size v))) :
  RM.wpOp TT own (.call ⟨.builtin .append,[s,x].toArray,[t,u].toArray⟩) fr hp K:=by
 subst he;subst hn
 exact RM.qJ hs hx hu hi hz hel h1 hj hl hc hb hk
theorem Gt (one:Bool) (s:au) (h:s.Ok) (n:aA) (rs:List av) (f:Bool) (hr:rs.length≤maxLen) (h0:(aD s n rs).2 ≠ 0):Pu one 39 [.ag (ay s),.ag (aC n),.sl (rs.map aj) f] (.tp [.sl [] false,ai (aD s n rs).2]):=by
 have hen:=nF one s h n rs f hr
 generalize aD s n rs=z at *
 have d0:(!decide (z.2=0))=true:=by rw [decide_eq_false h0];rfl
 refine af.body (fn:=Tryz.f39) rfl rfl rfl rfl ?_
 refine aa (mu:=fun _=>false) ?_
 repeat' (first |refine u1 ?_ |fail)
 exact ⟨[_,_],⟨Fz.nil,Fz.deep rfl,trivial⟩,rfl⟩
theorem AZ (s:au) (h:s.Ok) (n:aA) (rs:List av) (f:Bool) (h0:(aD s n rs).2=0) (tl th:Int × Int) (hb:uF s n rs tl th):Pu false 39 [.ag (ay s),.ag (aC n),.sl (rs.map aj) f] (.tp [.sl ((gJ n rs tl th).map eI) false,ai 0]):=by
 have ho:=cc h0
 have h8:=ho.JL
 have hen:=nF false s h n rs f (by unfold maxLen;omega)
 rw [h0] at hen
 have c1:=mP true f ho
 have c2:=AA true f ho
 have g1:=ho.gU.cand _ ho.mem
 have g2:=ho.gU.clear
 have g3:=ho.gU.aN
 have g4:=ho.dc
 have g5:=ho.bX
 have m1:=Gp s n rs f ho _ _ _ _ (Cv false (gr s n.bK).cand s.clear (by omega) (by omega)) (fun x hx=>ho.LL (aB:=false) hx) (jQ ho false) tl hb.l hb.JX
 have m2:=Gq s n rs f ho _ _ _ _ (Cw false s.aN ⟨n.dc,n.dc+n.bX - 1⟩ (by omega) (by dsimp only;omega) (by dsimp only;omega)) (fun x hx=>ho.LL (aB:=true) hx) (jQ ho true) th hb.h hb.hmin
 have l1:=e8 (bL false n rs tl) 0 rs.length
 have l2:=e8 (bL true n rs th) 0 rs.length
 have hper:=HE (p:=bL false n rs tl) (q:=bL true n rs th) (fun i=>tX i) 0 rs.length
 unfold gJ
 generalize aO (bL false n rs tl) 0 rs.length=P1 at *
 generalize aO (bL true n rs th) 0 rs.length=P2 at *
 have d0:(!decide ((0:Int)=0))=false:=by decide
 refine af.body (fn:=Tryz.f39) rfl rfl rfl rfl ?_
 refine RM.fm (mu:=fun t=>Nat.beq t 21 || Nat.beq t 26 || Nat.beq t 32) ?_
 repeat' (first |refine u1 ?_ |fail)
 refine RM.fm (mu:=fun t=>Nat.beq t 21 || Nat.beq t 26 || Nat.beq t 32) ?_
 repeat' (first |refine u1 ?_ |fail)
 refine RM.fm (mu:=fun t=>Nat.beq t 21 || Nat.beq t 26 || Nat.beq t 32) ?_
 repeat' (first |refine u1 ?_ |fail)
 have hc1:P1.length * 8≤140737488355328∧P1.length≤9223372036854775807:=by omega
 have e1:0+(P1.map eI).length=P1.length:=by rw [List.length_map];omega
 have e2:P1.length+(P2.map eI).length=(P1++P2).length:=by rw [List.length_map,List.length_append]
 have f1:[]++(P1.map eI).flatten=P1.map ai:=nW P1
 have f2:P1.map ai++(P2.map eI).flatten=(P1++P2).map ai:=by rw [nW,List.map_append]
 have f3:(P1.map ai).length=P1.length * 1:=by rw [List.length_map];omega
 have hpl:=hper.length_eq
 have l3:=e8 (fun i=>bL false n rs tl i || bL true n rs th i) 0 rs.length
 have hc2:(P1++P2).length * 8≤140737488355328∧(P1++P2).length≤9223372036854775807:=by omega
 have h12:(P1++P2).length≤12:=by omega
 refine ax.seq ?_
 refine ax.Ms 4 (l1:=[_,_,_,_]) (mu:=fun t=>Nat.beq t 21 || Nat.beq t 26 || Nat.beq t 32) (by kernel_rfl) rfl ?_
 repeat' (first |refine RM.Mt (l2:=[_,_]) (k:=5) rfl rfl rfl rfl m1 rfl rfl rfl (.inl (And.intro rfl rfl)) (by kernel_rfl) ?_ |((with_reducible show RM.wpOp _ _ (.call _) _ _ _);refine KB (cs:=[]) (n:=0) (els:=P1.map eI) f1 e1 rfl rfl rfl rfl rfl (fun el hel=>by obtain ⟨x,_,rfl⟩:=List.mem_map.1 hel;rfl) (KA P1) rfl rfl (.inl rfl) hc1 (fun v1 c1' hc1'=>?_)) |refine u1 ?_ |fail)
 refine ax.seq ?_
 refine ax.Ms 4 (l1:=[_,_,_,_]) (mu:=fun t=>Nat.beq t 21 || Nat.beq t 26 || Nat.beq t 32) (by kernel_rfl) rfl ?_
 repeat' (first |refine RM.Mt (l2:=[_,_]) (k:=5) rfl rfl rfl rfl m2 rfl rfl rfl (.inl (And.intro rfl rfl)) (by kernel_rfl) ?_ |((with_reducible show RM.wpOp _ _ (.call _) _ _ _);refine KB (cs:=P1.map ai) (n:=P1.length) (els:=P2.map eI) f2 e2 rfl rfl rfl rfl rfl (fun el hel=>by obtain ⟨x,_,rfl⟩:=List.mem_map.1 hel;rfl) (KA P2) rfl f3 hc1' hc2 (fun v2 c2' hc2'=>?_)) |refine u1 ?_ |fail)
 refine RM.fm (mu:=fun t=>Nat.beq t 21 || Nat.beq t 26 || Nat.beq t 32) ?_
 repeat' (first |refine Ls _ (P1++P2) (P1++P2).length rfl h12 rfl (fun S hso hpe=>?_) |refine u1 ?_ |fail)
 have hS:=F4 hpe.length_eq hso (hpe.trans hper.symm)
 have hSl:=hpe.length_eq
 rw [←hS]
 refine aa (mu:=fun _=>false) ?_
 repeat' (first |refine u1 ?_ |fail)
 exact ⟨[_,_],⟨JY rfl hSl,Fz.deep rfl,trivial⟩,rfl⟩
end Go.Proofs.YtichbhmnhkegiaaGreat
