/-
  Contracts of the program's functions and of the document's. Lemmas alone; their conditions stand in them.
-/
import Derived.Test.YtlpmfgmldmdggaaGreatK7
import Derived.Test.YtlpmfgmldmdggaaGreatK9
open Go Go.RM
namespace Go.Proofs.YtlpmfgmldmdggaaGreat
set_option maxRecDepth 100000
theorem kg (p:List Ev) (x:Ev):aJ (p++[x])=x.day:=by
 unfold aJ
 rw [List.getLast?_append]
 rfl
theorem ki {l:List Ev} {j:Nat} (h:j < l.length):aJ (l.take (j+1))=l[j].day:=by
 rw [List.take_add_one,List.getElem?_eq_getElem h]
 exact kg _ _
theorem zA {l:List Ev} (hm:jc l) {j:Nat} (h:j < l.length):aJ (l.take j)≤l[j].day:=by
 cases j with
 | zero=>exact (hm.day _ (List.getElem_mem h)).1
 | succ j =>
  rw [ki (by omega)]
  exact hm.Jw j h
theorem pe (p:Int) (d:D3):jb p 0 d=d:=by
 unfold jb
 split
 ·simp
 ·split <;> simp
def Hz (i:Nat) (s:Int × Int × D3) (x:Ev):Int × Int × D3:=(eL x i s.1,x.day,jb s.1 (x.day - s.2.1) s.2.2)
def zE (c:ay) (i:Nat) (l:List Ev):Int × Int × D3:=l.foldl (Hz i) (gK c i,0,(0,0,0))
theorem wq (c:ay) (i:Nat) (l:List Ev) (x:Ev):zE c i (l++[x])=Hz i (zE c i l) x:=by
 unfold zE
 rw [List.foldl_append]
 rfl
theorem Bl (c:ay) (i:Nat) {l:List Ev} {j:Nat} (h:j < l.length):zE c i (l.take (j+1))=Hz i (zE c i (l.take j)) l[j]:=by
 rw [List.take_add_one,List.getElem?_eq_getElem h]
 exact wq _ _ _ _
theorem yd (i:Nat):∀ (l:List Ev) (s:Int × Int × D3),(l.foldl (Hz i) s).1=l.foldl (fun p x=>eL x i p) s.1
 | [],_=>rfl
 | x :: l,s=>yd i l (Hz i s x)
theorem ye (c:ay) (i:Nat) (l:List Ev):(zE c i l).1=aB c l i:=yd i l _
theorem pg (c:ay) (i:Nat) (l:List Ev):(zE c i l).2.1=aJ l:=by
 rcases List.eq_nil_or_concat l with rfl|⟨p,x,rfl⟩
 ·rfl
 ·rw [List.concat_eq_append,wq,kg]
  rfl
theorem tI (D:Int) (l:List Ev):cu D l=l.take (cP D l):=by
 unfold cP cu
 exact List.prefix_iff_eq_take.1 (List.takeWhile_prefix _)
theorem pq (D:Int) (l:List Ev):cP D l≤l.length:=by
 unfold cP cu
 exact (List.takeWhile_prefix _).length_le
theorem Ct {D:Int} {l:List Ev} (hD:0≤D) {j:Nat} (hj:j≤cP D l):aJ (l.take j)≤D:=by
 cases j with
 | zero=>exact hD
 | succ j =>
  have h1:j < l.length:=by have:=pq D l;omega
  rw [ki h1]
  exact (mw (by omega) h1).1 (by omega)
theorem Bm {c:ay} {i:Nat} {D:Int} {l:List Ev} (hm:jc l) {j:Nat} (he:aJ (l.take j)=D):∀ k,j+k≤cP D l→(zE c i (l.take (j+k))).2=(D,(zE c i (l.take j)).2.2)
 | 0,_=>by
  have:=pg c i (l.take j)
  rw [Nat.add_zero,←he,←this]
 | k+1,h=>by
  have hl:j+k < l.length:=by have:=pq D l;omega
  have ih:=Bm (c:=c) (i:=i) hm he k (by omega)
  have h1:l[j+k].day≤D:=(mw (by omega) hl).1 (by omega)
  have h2:=zA hm hl
  rw [←pg c i,ih] at h2
  rw [←Nat.add_assoc,Bl c i hl]
  have h3:l[j+k].day=D:=by dsimp only at h2;omega
  unfold Hz
  rw [ih,h3]
  dsimp only
  rw [Int.sub_self,pe]
theorem C8 {c:ay} {i:Nat} {D:Int} {l:List Ev} (hm:jc l) (hD:0≤D):∀ r j,j≤cP D l→l.length+1≤r+j →
  DZ c l i D r j (zE c i (l.take j)).2.1 (zE c i (l.take j)).2.2=jb (aB c (cu D l) i) (D - aJ (cu D l)) (zE c i (cu D l)).2.2
 | 0,j,hj,hr=>by have:=pq D l;omega
 | r+1,j,hj,hr=>by
  have hfr:=Ct hD hj
  rw [sO,pg]
  by_cases hlt:aJ (l.take j) < D
  ·rw [if_pos hlt]
   by_cases hju:j < cP D l
   ·have hl:j < l.length:=by have:=pq D l;omega
    have h1:l[j].day≤D:=(mw (by omega) hl).1 hju
    have ht:zD l D j=l[j].day:=by
     unfold zD
     rw [List.getElem?_eq_getElem hl]
     dsimp only
     omega
    have ih:=C8 (c:=c) (i:=i) hm hD r (j+1) hju (by omega)
    rw [Bl c i hl] at ih
    unfold Hz at ih
    dsimp only at ih
    rw [ye,pg] at ih
    rw [ht]
    exact ih
   ·have hje:j=cP D l:=by omega
    have ht:zD l D j=D:=by
     unfold zD
     cases hx:l[j]? with
     | none=>rfl
     | some x =>
      obtain ⟨hl,hx2⟩:=List.getElem?_eq_some_iff.1 hx
      have:=mt (mw (D:=D) (by omega) hl).2 (by omega)
      rw [hx2] at this
      dsimp only
      omega
    rw [ht,tI,←hje]
    cases r with
    | zero=>rfl
    | succ r=>rw [sO,if_neg (by omega)]
  ·rw [if_neg hlt]
   have he:aJ (l.take j)=D:=by omega
   have hs:=Bm (c:=c) (i:=i) hm he (cP D l - j) (by omega)
   rw [show j+(cP D l - j)=cP D l by omega,←tI] at hs
   have h2:=pg c i (cu D l)
   rw [hs] at h2
   dsimp only at h2
   rw [←h2,Int.sub_self,pe,hs]
theorem FR {c:ay} {i:Nat} {D:Int} {l:List Ev} (hm:jc l) (hD:0≤D):tG c l i D=jb (aB c (cu D l) i) (D - aJ (cu D l)) (zE c i (cu D l)).2.2 :=
 C8 (c:=c) (i:=i) hm hD (l.length+1) 0 (Nat.zero_le _) (Nat.le_refl _)
def Bn (c:ay) (p:List Ev) (D:Int) (i:Nat):Acc :=
 ⟨aB c p i,wo c i (jb (aB c p i) (D - aJ p) (zE c i p).2.2),(jb (aB c p i) (D - aJ p) (zE c i p).2.2).1,(jb (aB c p i) (D - aJ p) (zE c i p).2.2).2.1,(jb (aB c p i) (D - aJ p) (zE c i p).2.2).2.2⟩
def Cu (c:ay) (p:List Ev) (D:Int):List Acc:=(List.range c.aO.length).map (Bn c p D)
theorem C9 {c:ay} {l:List Ev} (hm:jc l) {D:Int} (hD:0≤D) (i:Nat):sP c l i D=Bn c (cu D l) D i:=by
 unfold sP Bn
 rw [FR hm hD]
theorem FT (c:ay) (p:List Ev) (D D':Int) (i:Nat):mq (eo c i) (D' - D) (Bn c p D i)=Bn c p D' i:=by
 unfold mq Bn jb wo
 dsimp only
 generalize aB c p i=q
 generalize (zE c i p).2.2=d
 generalize aJ p=L
 obtain ⟨a,b,e⟩:=d
 dsimp only
 by_cases h0:q=0
 ·rw [if_pos h0,if_pos h0,if_pos h0]
  dsimp only
  have e1:(a+(D' - L)) * eo c i=(a+(D - L)) * eo c i+(D' - D) * eo c i:=by
   rw [←Int.add_mul]
   congr 1
   omega
  congr 1
  ·rw [e1]
   generalize (a+(D - L)) * eo c i=u1
   generalize (D' - D) * eo c i=u2
   omega
  ·omega
 ·rw [if_neg h0,if_neg h0,if_neg h0]
  by_cases h1:q=1
  ·rw [if_pos h1,if_pos h1,if_pos h1]
   dsimp only
   congr 1
   ·omega
   ·omega
  ·rw [if_neg h1,if_neg h1,if_neg h1]
   dsimp only
   congr 1
   omega
theorem Bo (c:ay) (p:List Ev) (D D':Int):iI c (D' - D) (Cu c p D)=Cu c p D':=by
 unfold iI Cu
 apply List.ext_getElem?
 intro i
 rw [List.getElem?_mapIdx,List.getElem?_map,List.getElem?_map]
 by_cases h:i < c.aO.length
 ·rw [List.getElem?_range h]
  simp only [Option.map_some,FT]
 ·rw [List.getElem?_eq_none (by simpa using h)]
  rfl
theorem rK (c:ay):cY c=Cu c [] 0:=by
 unfold cY Cu
 apply List.ext_getElem?
 intro i
 rw [List.getElem?_map,List.getElem?_map]
 by_cases h:i < c.aO.length
 ·rw [List.getElem?_range h,List.getElem?_eq_getElem h]
  simp only [Option.map_some]
  unfold Bn Bg
  rw [show aJ []=0 from rfl,Int.sub_self,pe]
  show some _=some (Acc.mk (gK c i) (wo c i (0,0,0)) 0 0 0)
  unfold gK wo tH
  rw [List.getElem?_eq_getElem h]
  simp
 ·rw [List.getElem?_eq_none (by omega),List.getElem?_eq_none (by simpa using h)]
  rfl
end Go.Proofs.YtlpmfgmldmdggaaGreat
open Go Go.RM
namespace Go.Proofs.YtlpmfgmldmdggaaGreat
set_option maxRecDepth 100000
theorem D5 {p:List Ev} (hm:jc p) {x:Ev} (h1:aJ p≤x.day) (h0:0≤x.day) (h2:x.day≤40000):jc (p++[x]):=by
 refine ⟨fun j h=>?_,fun y hy=>?_⟩
 ·rw [List.length_append,List.length_singleton] at h
  rw [List.getElem_append_left (by omega)]
  by_cases hj:j+1 < p.length
  ·rw [List.getElem_append_left hj]
   exact hm.Jw j hj
  ·have hl:p.length=j+1:=by omega
   rw [List.getElem_append_right (by omega)]
   have h3:=ki (l:=p) (j:=j) (by omega)
   rw [List.take_of_length_le (by omega)] at h3
   simp only [List.getElem_singleton]
   omega
 ·rcases List.mem_append.1 hy with hy|hy
  ·exact hm.day y hy
  ·rw [List.mem_singleton.1 hy]
   exact ⟨h0,h2⟩
theorem iB:jc []:=⟨fun j h=>by simp at h,fun y hy=>by cases hy⟩
theorem wv {p:List Ev} (hm:jc p):0≤aJ p:=by
 unfold aJ
 cases hq:p.getLast? with
 | none=>simp
 | some y=>exact (hm.day y (List.mem_of_getLast? hq)).1
theorem Bp {l:List Ev} (hm:jc l):∀ k j (h:j+k < l.length),l[j].day≤l[j+k].day
 | 0,j,h=>Int.le_refl _
 | k+1,j,h=>Int.le_trans (Bp hm k j (by omega)) (hm.Jw (j+k) h)
theorem D6 {l:List Ev} (hm:jc l):∀ x ∈ l,x.day≤aJ l:=by
 intro x hx
 obtain ⟨j,hj,rfl⟩:=List.getElem_of_mem hx
 have h:=Bp hm (l.length - 1 - j) j (by omega)
 have h3:=ki (l:=l) (j:=l.length - 1) (by omega)
 rw [List.take_of_length_le (by omega)] at h3
 rw [h3]
 have e:j+(l.length - 1 - j)=l.length - 1:=by omega
 simp only [e] at h
 exact h
theorem D7 {l:List Ev} {D:Int} (h:∀ x ∈ l,x.day≤D):cu D l=l:=by
 unfold cu
 induction l with
 | nil=>rfl
 | cons x l ih =>
  rw [List.takeWhile_cons,if_pos (decide_eq_true (h x (by simp))),ih fun y hy=>h y (List.mem_cons_of_mem _ hy)]
theorem yf {D:Int}:∀ l:List Ev,∀ x ∈ cu D l,x.day≤D
 | [],x,hx=>by cases hx
 | y :: l,x,hx=>by
  unfold cu at hx
  rw [List.takeWhile_cons] at hx
  split at hx
  ·rename_i h
   rcases List.mem_cons.1 hx with rfl|hx
   ·exact of_decide_eq_true h
   ·exact yf l x hx
  ·cases hx
def Cv (c:ay) (p:List Ev) (D:Int) (f:Nat→Int):List Acc:=(List.range c.aO.length).map fun i=>{Bn c p D i with place:=f i}
theorem It (c:ay) (p:List Ev) (D:Int):Cu c p D=Cv c p D (aB c p):=rfl
theorem Cw {c:ay} {p:List Ev} {D:Int} {f:Nat→Int} {i:Nat} (h:i < c.aO.length):(Cv c p D f)[i]?=some {Bn c p D i with place:=f i}:=by
 unfold Cv
 rw [List.getElem?_map,List.getElem?_range h]
 rfl
theorem rL {c:ay} {p:List Ev} {D:Int} {f g:Nat→Int} (h:∀ i,i < c.aO.length→f i=g i):Cv c p D f=Cv c p D g:=by
 unfold Cv
 apply List.map_congr_left
 intro i hi
 rw [h i (List.mem_range.1 hi)]
theorem Da {c:ay} {p:List Ev} {D:Int} {f:Nat→Int} {i:Nat} {q:Int}:(Cv c p D f).set i {Bn c p D i with place:=q}=Cv c p D fun j=>if j=i then q else f j:=by
 unfold Cv
 apply List.ext_getElem?
 intro j
 rw [List.getElem?_set,List.getElem?_map,List.length_map,List.length_range,List.getElem?_map]
 by_cases hji:i=j
 ·subst hji
  rw [if_pos rfl]
  split
  ·rename_i h
   rw [List.getElem?_range h]
   simp
  ·rename_i h
   rw [List.getElem?_eq_none (by simpa using h)]
   rfl
 ·rw [if_neg hji]
  by_cases h:j < c.aO.length
  ·rw [List.getElem?_range h]
   simp only [Option.map_some]
   rw [if_neg (fun h=>hji h.symm)]
  ·rw [List.getElem?_eq_none (by simpa using h)]
   rfl
theorem rM {c:ay} {p:List Ev} {D:Int} {f:Nat→Int} {i:Nat} (h:i < c.aO.length) (a b:Int):gv i a b (Cv c p D f)=if f i=a then .inl (Cv c p D fun j=>if j=i then b else f j) else .inr 9:=by
 unfold gv
 rw [Cw h]
 dsimp only
 split
 ·rw [Da]
 ·rfl
theorem G9 {c:ay} {p:List Ev} {D:Int} {i:Nat}:gi (Cv c p D fun j=>if j=i then 1 else aB c p j)=Bj c p i c.aO.length:=by
 unfold gi Cv Bj
 rw [List.countP_map]
 apply List.countP_congr
 intro j _
 show decide ((if j=i then (1:Int) else aB c p j)=0)=true ↔ _
 by_cases h:j=i
 ·rw [if_pos h]
  simp [h]
 ·rw [if_neg h]
  simp [h]
theorem FU (c:ay) (p:List Ev) (x:Ev) (i:Nat):Bn c (p++[x]) x.day i={Bn c p x.day i with place:=eL x i (aB c p i)}:=by
 unfold Bn
 rw [wq,kg,hH,Int.sub_self,pe]
 unfold Hz
 dsimp only
 rw [ye,pg]
theorem FV (c:ay) (p:List Ev) (x:Ev):Cu c (p++[x]) x.day=Cv c p x.day fun i=>eL x i (aB c p i):=by
 unfold Cu Cv
 apply List.map_congr_left
 intro i _
 exact FU c p x i
theorem HA (c:ay) (l:List Ev) (d:Int) (i:Nat) (o:Int):uo c l ⟨d,1,(i:Int),o⟩=if aB c l i ≠ 0 then 9 else if (sP c l i d).gI < 1000 then 9 else if (Bj c l i c.aO.length:Int) < c.least then 8 else 0:=by
 unfold uo
 dsimp only
 rw [Int.toNat_natCast,if_neg (show ¬ ((1:Int)=3) by decide),if_neg (show ¬ ((1:Int)=5) by decide),if_pos (show (1:Int)=1 from rfl)]
 rfl
theorem Jj (c:ay) (l:List Ev) (d:Int) (i:Nat) (o:Int):uo c l ⟨d,2,(i:Int),o⟩=if aB c l i ≠ 1 then 9 else 0:=by
 unfold uo
 dsimp only
 rw [Int.toNat_natCast,if_neg (show ¬ ((2:Int)=3) by decide),if_neg (show ¬ ((2:Int)=5) by decide),if_neg (show ¬ ((2:Int)=1) by decide)]
 rfl
theorem Jk (c:ay) (l:List Ev) (d:Int) (i:Nat) (o:Int):uo c l ⟨d,3,(i:Int),o⟩=if aB c l i=2 then 9 else 0:=by
 unfold uo
 dsimp only
 rw [Int.toNat_natCast,if_pos (show (3:Int)=3 from rfl)]
theorem Jl (c:ay) (l:List Ev) (d:Int) (i:Nat) (o:Int):uo c l ⟨d,4,(i:Int),o⟩=if aB c l i ≠ 2 then 9 else 0:=by
 unfold uo
 dsimp only
 rw [Int.toNat_natCast,if_neg (show ¬ ((4:Int)=3) by decide),if_neg (show ¬ ((4:Int)=5) by decide),if_neg (show ¬ ((4:Int)=1) by decide)]
 rfl
theorem HB (c:ay) (l:List Ev) (d:Int) (i j:Nat):uo c l ⟨d,5,(i:Int),(j:Int)⟩=if aB c l i ≠ 0 then 9 else if aB c l j=1 then 0 else 9:=by
 unfold uo
 dsimp only
 rw [Int.toNat_natCast,Int.toNat_natCast,if_neg (show ¬ ((5:Int)=3) by decide),if_pos (show (5:Int)=5 from rfl)]
 rfl
theorem pz {d k o:Int} {i j:Nat} {p:Int} (hk:k ≠ 5):eL ⟨d,k,(i:Int),o⟩ (j:Int) p=if j=i then (if k=1∨k=5 then 1 else if k=3 then 2 else 0) else p:=by
 unfold eL
 dsimp only
 rw [if_neg (fun h=>hk h.1)]
 by_cases hj:j=i
 ·subst hj
  rw [if_neg (fun h=>h rfl),if_pos rfl]
 ·rw [if_pos (show (i:Int) ≠ j by omega),if_neg hj]
theorem zB {d:Int} {i j z:Nat} {p:Int}:eL ⟨d,5,(i:Int),(j:Int)⟩ (z:Int) p=if z=j then 0 else if z=i then 1 else p:=by
 unfold eL
 dsimp only
 by_cases hz:z=j
 ·subst hz
  rw [if_pos ⟨rfl,rfl⟩,if_pos rfl]
 ·rw [if_neg (show ¬ ((5:Int)=5∧(j:Int)=z) from fun h=>hz (by omega)),if_neg hz]
  by_cases hj:z=i
  ·subst hj
   rw [if_neg (fun h=>h rfl),if_pos rfl]
   rfl
  ·rw [if_pos (show (i:Int) ≠ z by omega),if_neg hj]
theorem Iu {c:ay} {p:List Ev} (hm:jc p) {x:Ev} (hk:kindOk x=true) (hn:0≤x.qp∧x.qp < c.aO.length) (ho:0≤x.other∧x.other < c.aO.length) (hd:aJ p≤x.day) :
  GY c x (Cu c p x.day)=if uo c p x=0 then .inl (Cu c (p++[x]) x.day) else .inr (uo c p x):=by
 have h0:0≤x.day:=by have:=wv hm;omega
 rw [FV,It]
 have hU:cu x.day p=p:=D7 fun y hy=>by have:=D6 hm y hy;omega
 have hac:(sP c p x.qp.toNat x.day).gI=(Bn c p x.day x.qp.toNat).gI:=by rw [C9 hm h0,hU]
 obtain ⟨d,k,m,o⟩:=x
 dsimp only at *
 obtain ⟨i,rfl⟩:∃ i:Nat,m=(i:Int):=⟨m.toNat,by omega⟩
 obtain ⟨j,rfl⟩:∃ j:Nat,o=(j:Int):=⟨o.toNat,by omega⟩
 have hin:i < c.aO.length:=by omega
 have hjn:j < c.aO.length:=by omega
 unfold kindOk at hk
 rw [bp,Bool.not_not,Bool.and_eq_true] at hk
 dsimp only at hk
 have hk1:=bL.1 hk.1
 have hk2:=hk.2
 unfold GY
 dsimp only
 rw [Int.toNat_natCast] at hac
 rw [Int.toNat_natCast,Int.toNat_natCast]
 obtain h|h|h|h|h:k=1∨k=2∨k=3∨k=4∨k=5:=by omega
 ·subst h
  rw [if_pos (show (1:Int)=1 from rfl),HA,hac]
  unfold wj
  rw [rM hin]
  by_cases hp:aB c p i=0
  ·rw [if_pos hp,if_neg (show ¬ (aB c p i ≠ 0) from fun h=>h hp)]
   dsimp only
   rw [Cw hin]
   dsimp only
   by_cases h1:1000≤(Bn c p d i).gI
   ·rw [if_pos h1,if_neg (show ¬ (Bn c p d i).gI < 1000 by omega),G9]
    by_cases h2:c.least≤(Bj c p i c.aO.length:Int)
    ·rw [if_pos h2,if_neg (show ¬ (Bj c p i c.aO.length:Int) < c.least by omega),if_pos rfl]
     congr 1
     refine rL fun z _=>?_
     rw [pz (by decide)]
     rfl
    ·rw [if_neg h2,if_pos (show (Bj c p i c.aO.length:Int) < c.least by omega),if_neg (by decide)]
   ·rw [if_neg h1,if_pos (show (Bn c p d i).gI < 1000 by omega),if_neg (by decide)]
  ·rw [if_neg hp,if_pos hp,if_neg (by decide)]
 ·subst h
  rw [if_neg (show ¬ ((2:Int)=1) by decide),if_pos (show (2:Int)=2 from rfl),Jj,rM hin]
  by_cases hp:aB c p i=1
  ·rw [if_pos hp,if_neg (show ¬ (aB c p i ≠ 1) from fun h=>h hp),if_pos rfl]
   congr 1
   refine rL fun z _=>?_
   rw [pz (by decide)]
   rfl
  ·rw [if_neg hp,if_pos hp,if_neg (by decide)]
 ·subst h
  rw [if_neg (show ¬ ((3:Int)=1) by decide),if_neg (show ¬ ((3:Int)=2) by decide),if_pos (show (3:Int)=3 from rfl),Jk]
  unfold ya
  rw [Cw hin]
  dsimp only
  by_cases hp:aB c p i=2
  ·rw [if_pos hp,if_pos hp,if_neg (by decide)]
  ·rw [if_neg hp,if_neg hp,if_pos rfl,Da]
   congr 1
   refine rL fun z _=>?_
   rw [pz (by decide)]
   rfl
 ·subst h
  rw [if_neg (show ¬ ((4:Int)=1) by decide),if_neg (show ¬ ((4:Int)=2) by decide),if_neg (show ¬ ((4:Int)=3) by decide),if_pos (show (4:Int)=4 from rfl),Jl,rM hin]
  by_cases hp:aB c p i=2
  ·rw [if_pos hp,if_neg (show ¬ (aB c p i ≠ 2) from fun h=>h hp),if_pos rfl]
   congr 1
   refine rL fun z _=>?_
   rw [pz (by decide)]
   rfl
  ·rw [if_neg hp,if_pos hp,if_neg (by decide)]
 ·subst h
  have hij:j ≠ i:=by
   intro h
   subst h
   simp at hk2
  rw [if_neg (show ¬ ((5:Int)=1) by decide),if_neg (show ¬ ((5:Int)=2) by decide),if_neg (show ¬ ((5:Int)=3) by decide),if_neg (show ¬ ((5:Int)=4) by decide),HB]
  unfold yb
  rw [rM hin]
  by_cases hp:aB c p i=0
  ·rw [if_pos hp,if_neg (show ¬ (aB c p i ≠ 0) from fun h=>h hp)]
   dsimp only
   rw [rM hjn,if_neg hij]
   by_cases hq:aB c p j=1
   ·rw [if_pos hq,if_pos hq,if_pos rfl]
    congr 1
    refine rL fun z _=>?_
    rw [zB]
   ·rw [if_neg hq,if_neg hq,if_neg (by decide)]
  ·rw [if_neg hp,if_pos hp,if_neg (by decide)]
theorem D8 {c:ay} {p:List Ev} (hm:jc p) (x:Ev):fj c (aJ p) (Cu c p (aJ p)) x=if fk c p x=0 then .inl (Cu c (p++[x]) x.day) else .inr (fk c p x):=by
 unfold fj fk
 by_cases h1:kindOk x=false
 ·rw [if_pos h1,if_pos h1,if_neg (by decide)]
 ·rw [if_neg h1,if_neg h1]
  by_cases h2:dR 0 ((c.aO.length:Int) - 1) [x.qp,x.other]=true
  ·rw [if_pos h2,if_pos h2,if_neg (by decide)]
  ·rw [if_neg h2,if_neg h2]
   by_cases h3:dR (aJ p) 40000 [x.day]=true
   ·rw [if_pos h3,if_pos h3,if_neg (by decide)]
   ·rw [if_neg h3,if_neg h3,Bo]
    rw [Bd] at h2
    rw [bp] at h3
    have b3:=bL.1 (by simpa using h3)
    have b2:kS x.qp 0 ((c.aO.length:Int) - 1)=true∧kS x.other 0 ((c.aO.length:Int) - 1)=true:=by simpa using h2
    have b4:=bL.1 b2.1
    have b5:=bL.1 b2.2
    exact Iu hm (by simpa using h1) (by omega) (by omega) b3.1
theorem oF {c:ay} {p:List Ev} (hm:jc p) {x:Ev} (h:fk c p x=0):jc (p++[x]):=by
 unfold fk at h
 split at h
 ·cases h
 ·split at h
  ·cases h
  ·split at h
   ·cases h
   ·rename_i h3
    have b3:=cI (Bool.not_eq_true _ ▸ h3)
    have:=wv hm
    exact D5 hm b3.1 (by omega) b3.2
def xh (c:ay):Nat→List Ev→List Ev→(Nat × Int) ⊕ List Ev
 | _,p,[]=>.inr p
 | k,p,x :: l=>if fk c p x=0 then xh c (k+1) (p++[x]) l else .inl (k,fk c p x)
def JZ (c:ay):(Nat × Int) ⊕ List Ev→(Nat × Int) ⊕ (Int × List Acc)
 | .inl e=>.inl e
 | .inr q=>.inr (aJ q,Cu c q (aJ q))
theorem mA {c:ay} {D:Int}:∀ {l:List Ev} {k:Nat} {p:List Ev},jc p→(∀ x ∈ l,x.day≤D)→bH c D k (aJ p) (Cu c p (aJ p)) l=JZ c (xh c k p l)
 | [],k,p,_,_=>rfl
 | x :: l,k,p,hm,hd=>by
  rw [bM,if_pos (hd x (by simp)),D8 hm]
  unfold xh
  by_cases h:fk c p x=0
  ·rw [if_pos h,if_pos h]
   dsimp only
   have:=mA (c:=c) (D:=D) (k:=k+1) (oF hm h) fun y hy=>hd y (List.mem_cons_of_mem _ hy)
   rw [kg] at this
   exact this
  ·rw [if_neg h,if_neg h]
   rfl
theorem rN {c:ay}:∀ {l:List Ev} {k:Nat} {p q:List Ev},jc p→xh c k p l=.inr q→q=p++l∧jc q
 | [],k,p,q,hm,h=>by
  cases h
  exact ⟨(List.append_nil _).symm,hm⟩
 | x :: l,k,p,q,hm,h=>by
  unfold xh at h
  split at h
  ·rename_i h1
   obtain ⟨h2,h3⟩:=rN (oF hm h1) h
   exact ⟨by rw [h2];simp,h3⟩
  ·cases h
theorem wz {c:ay}:∀ {l:List Ev} {k n:Nat} {p q:List Ev},xh c k p l=.inr q→∃ q',xh c k p (l.take n)=.inr q'
 | [],k,n,p,q,h=>⟨q,by rw [List.take_nil];exact h⟩
 | x :: l,k,0,p,q,h=>⟨p,rfl⟩
 | x :: l,k,n+1,p,q,h=>by
  unfold xh at h
  rw [List.take_succ_cons]
  unfold xh
  split at h
  ·rename_i h1
   rw [if_pos h1]
   exact wz h
  ·cases h
theorem FX {c:ay} {l:List Ev} (hd:∀ x ∈ l,x.day≤later):wC c l=if (oA c).2.2 ≠ 0 then (0,(oA c).2.2) else if 20 < l.length then (0,3) else match xh c 0 [] l with
  | .inl p=>((p.1:Int),p.2)
  | .inr _=>(0,0):=by
 unfold wC
 have:=mA (c:=c) (D:=later) (k:=0) iB hd
 rw [show aJ []=0 from rfl,←rK] at this
 rw [this]
 cases xh c 0 [] l <;> rfl
theorem rO {c:ay} {D:Int}:∀ {l:List Ev} {k:Nat} {d:Int} {ls:List Acc} {q:Int × List Acc},(∀ x ∈ l,x.day≤later)→bH c later k d ls l=.inr q→bH c D k d ls l=bH c D k d ls (cu D l)
 | [],k,d,ls,q,_,_=>rfl
 | x :: l,k,d,ls,q,hm,h=>by
  have hall:=iA hm h
  unfold cu
  rw [List.takeWhile_cons]
  rw [bM,if_pos (hm x (by simp))] at h
  cases he:fj c d ls x with
  | inr e=>rw [he] at h;cases h
  | inl l2 =>
   rw [he] at h
   by_cases hx:x.day≤D
   ·rw [if_pos (decide_eq_true hx),bM,if_pos hx,bM,if_pos hx,he]
    exact rO (fun x hx=>hm x (List.mem_cons_of_mem _ hx)) h
   ·rw [if_neg (by simpa using hx)]
    refine nk fun y hy=>?_
    rcases List.mem_cons.1 hy with rfl|hy
    ·omega
    ·have:=iA (fun x hx=>hm x (List.mem_cons_of_mem _ hx)) h y hy
     omega
theorem Iv {c:ay} {l:List Ev} {q:Int × List Acc} (hd:∀ x ∈ l,x.day≤later) (h:bH c later 0 0 (cY c) l=.inr q) {D:Int} (hD:0≤D):jc l∧Cp c l D=(List.range c.aO.length).map fun i=>sP c l i D:=by
 have h1:=mA (c:=c) (D:=later) (k:=0) iB hd
 rw [show aJ []=0 from rfl,←rK,h] at h1
 cases h2:xh c 0 [] l with
 | inl e=>rw [h2] at h1;cases h1
 | inr p =>
  obtain ⟨h3,h4⟩:=rN iB h2
  rw [List.nil_append] at h3
  subst h3
  refine ⟨h4,?_⟩
  obtain ⟨q',h5⟩:=wz (n:=cP D p) h2
  rw [ja] at h5
  obtain ⟨h6,_⟩:=rN iB h5
  rw [List.nil_append] at h6
  subst h6
  have hU:∀ x ∈ cu D p,x.day≤D:=yf p
  have h7:=mA (c:=c) (D:=D) (k:=0) iB hU
  rw [show aJ []=0 from rfl,←rK,h5,←rO hd h] at h7
  unfold Cp
  rw [h7]
  unfold JZ
  dsimp only
  rw [Bo]
  unfold Cu
  apply List.map_congr_left
  intro i _
  exact (C9 h4 hD i).symm
end Go.Proofs.YtlpmfgmldmdggaaGreat
open Go Go.RM
namespace Go.Proofs.YtlpmfgmldmdggaaGreat
set_option maxRecDepth 100000
set_option maxHeartbeats 4000000
theorem He (c:ay) (k:Nat) (p:List Ev):xh c k p []=.inr p:=rfl
theorem wA (c:ay) (k:Nat) (p:List Ev) (x:Ev) (l:List Ev):xh c k p (x :: l)=if fk c p x=0 then xh c (k+1) (p++[x]) l else .inl (k,fk c p x):=rfl
theorem Bq (one:Bool) (c:ay) (h:c.Ok) (l:List Ev) (f:Bool) (hl:l.length≤maxLen) (hd:∀ x ∈ l,x.day≤later):Pu one 19 [.ag (aX c),.sl (l.map cO) f] (.tp [aj (wC c l).1,aj (wC c l).2]):=by
 have el:((l.map cO).length:Int)=l.length:=by simp
 have ml:l.length≤9223372036854775807:=Nat.le_trans hl (by simp [maxLen])
 have o1:=Fs one c h
 rw [FX hd]
 by_cases c1:(oA c).2.2=0
 ·have hg:=zw c1
  rw [if_neg (by rw [c1];simp)]
  rw [c1] at o1
  have d0:(!decide ((0:Int)=0))=false:=by decide
  generalize (oA c).1=a1 at *
  generalize (oA c).2.1=a2 at *
  by_cases c2:20 < l.length
  ·rw [if_pos c2]
   have d1:decide (20 < ((l.map cO).length:Int))=true:=decide_eq_true (by omega)
   have d3:(!decide ((3:Int)=0))=true:=by decide
   refine af.body (fn:=Tryz.f19) rfl rfl rfl rfl ?_
   refine aa (mu:=fun _=>false) ?_
   repeat' (first |refine u1 ?_ |((with_reducible show ah _ _ _ _ _ _ _ _);refine af.call o1 rfl rfl ?_) |refine u2 ?_ |fail)
   exact ⟨[_,_],⟨Fz.deep rfl,Fz.deep rfl,trivial⟩,rfl⟩
  ·rw [if_neg c2]
   have d1:decide (20 < ((l.map cO).length:Int))=false:=decide_eq_false (by omega)
   refine af.body (fn:=Tryz.f19) rfl rfl rfl rfl ?_
   refine aa (mu:=fun _=>false) ?_
   repeat' (first |refine u1 ?_ |((with_reducible show ah _ _ _ _ _ _ _ _);refine af.call o1 rfl rfl ?_) |refine u2 ?_ |fail)
   refine aL.cr (ai.to (l:=[(1,.sl (l.map cO) f),(2,.pt (aX c) 0),(8,aj 0),(9,aj (0:Nat))]) (hp:=[]) 0 rfl ⟨rfl,rfl,rfl,rfl,trivial⟩ (Nat.zero_le _) rfl rfl) ?_
   refine aL.loop (fun k:Nat=>k≤l.length∧jc (l.take k)∧xh c 0 [] l=xh c k (l.take k) (l.drop k)) (fun k=>⟨cz [(1,.sl (l.map cO) f),(2,.pt (aX c) 0),(8,aj 0),(9,aj (k:Nat))],[],bF.none,false,0⟩) (fun k=>l.length - k) ?_ 0 ⟨Nat.zero_le _,iB,rfl⟩
   rintro k ⟨hk,hmk,hrv⟩
   by_cases hlt:k < l.length
   ·have d2:decide ((k:Int) < ((l.map cO).length:Int))=true:=decide_eq_true (by omega)
    have hat:(l.map cO)[((k:Nat):Int).toNat]?=some (cO l[k]):=cM hlt
    have hsl:=Cr l k
    have hkl:0≤k∧k≤(l.map cO).length:=⟨Nat.zero_le _,by rw [List.length_map];omega⟩
    have hel:=Cs l
    have htk:l.take (k+1)=l.take k++[l[k]]:=by rw [List.take_add_one,List.getElem?_eq_getElem hlt];rfl
    rw [List.drop_eq_getElem_cons hlt] at hrv
    generalize l[k]=x at *
    have ho:=fun f'=>FQ true c hg (l.take k) f' (by rw [List.length_take];omega) hmk x
    have hmo:fk c (l.take k) x=0→jc (l.take k++[x]):=oF hmk
    rw [wA] at hrv
    by_cases e0:fk c (l.take k) x=0
    ·rw [if_pos e0] at hrv
     have hm':=hmo e0
     rw [←htk] at hrv hm'
     rw [←hsl,e0] at ho
     refine aa (mu:=fun _=>false) ?_
     repeat' (first |(refine ⟨_,ho _,?_⟩) |refine u1 ?_ |((with_reducible show RM.wpOp _ _ (.indexAddr _ _ _) _ _ _);refine ⟨cO x,⟨by omega,hat⟩,rfl,?_⟩) |(refine ⟨0,k,rfl,rfl,hkl,(by decide),hel,?_⟩) |refine u2 ?_ |fail)
     exact ⟨k+1,⟨hlt,hm',hrv⟩,(by dsimp only;omega),ai.to 0 rfl ⟨rfl,rfl,rfl,cZ (by simp),trivial⟩ (Nat.zero_le _) rfl rfl⟩
    ·rw [if_neg e0] at hrv
     rw [hrv]
     have d4:(!decide (fk c (l.take k) x=0))=true:=by rw [decide_eq_false e0];rfl
     dsimp only
     generalize fk c (l.take k) x=e at *
     rw [←hsl] at ho
     refine aa (mu:=fun _=>false) ?_
     repeat' (first |(refine ⟨_,ho _,?_⟩) |refine u1 ?_ |((with_reducible show RM.wpOp _ _ (.indexAddr _ _ _) _ _ _);refine ⟨cO x,⟨by omega,hat⟩,rfl,?_⟩) |(refine ⟨0,k,rfl,rfl,hkl,(by decide),hel,?_⟩) |refine u2 ?_ |fail)
     exact ⟨[_,_],⟨Fz.deep rfl,Fz.deep rfl,trivial⟩,rfl⟩
   ·have d2:decide ((k:Int) < ((l.map cO).length:Int))=false:=decide_eq_false (by omega)
    rw [hrv,List.drop_eq_nil_of_le (by omega)]
    rw [He]
    dsimp only
    refine aa (mu:=fun _=>false) ?_
    repeat' (first |refine u1 ?_ |refine u2 ?_ |fail)
    exact ⟨[_,_],⟨Fz.deep rfl,Fz.deep rfl,trivial⟩,rfl⟩
 ·rw [if_pos c1]
  have d1:(!decide ((oA c).2.2=0))=true:=by rw [decide_eq_false c1];rfl
  have d2:=decide_eq_false c1
  generalize (oA c).2.2=e at *
  refine af.body (fn:=Tryz.f19) rfl rfl rfl rfl ?_
  refine aa (mu:=fun _=>false) ?_
  repeat' (first |refine u1 ?_ |((with_reducible show ah _ _ _ _ _ _ _ _);refine af.call o1 rfl rfl ?_) |refine u2 ?_ |fail)
  exact ⟨[_,_],⟨Fz.deep rfl,Fz.deep rfl,trivial⟩,rfl⟩
end Go.Proofs.YtlpmfgmldmdggaaGreat
