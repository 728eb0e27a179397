/-
  Contracts of the program's functions and of the document's. Lemmas alone; their conditions stand in them.
-/
import Derived.Test.YtlpmfgmldmdggaaGreatK7
import Derived.Test.YtlpmfgmldmdggaaGreatK9
open Go Go.RM
namespace Go.Proofs.YtlpmfgmldmdggaaGreat
set_option maxRecDepth 100000
theorem kz (p:List Ev) (x:Ev):aM (p++[x])=x.day:=by
 unfold aM
 rw [List.getLast?_append]
 rfl
theorem kA {l:List Ev} {j:Nat} (h:j < l.length):aM (l.take (j+1))=l[j].day:=by
 rw [List.take_add_one,List.getElem?_eq_getElem h]
 exact kz _ _
theorem At {l:List Ev} (hm:iJ l) {j:Nat} (h:j < l.length):aM (l.take j)≤l[j].day:=by
 cases j with
 | zero=>exact (hm.day _ (List.getElem_mem h)).1
 | succ j =>
  rw [kA (by omega)]
  exact hm.K6 j h
theorem pV (p:Int) (d:D3):jk p 0 d=d:=by
 unfold jk
 split
 ·simp
 ·split <;> simp
def Jh (i:Nat) (s:Int × Int × D3) (x:Ev):Int × Int × D3:=(eU x i s.1,x.day,jk s.1 (x.day - s.2.1) s.2.2)
def Ay (c:ay) (i:Nat) (l:List Ev):Int × Int × D3:=l.foldl (Jh i) (l7 c i,0,(0,0,0))
theorem xw (c:ay) (i:Nat) (l:List Ev) (x:Ev):Ay c i (l++[x])=Jh i (Ay c i l) x:=by
 unfold Ay
 rw [List.foldl_append]
 rfl
theorem Ce (c:ay) (i:Nat) {l:List Ev} {j:Nat} (h:j < l.length):Ay c i (l.take (j+1))=Jh i (Ay c i (l.take j)) l[j]:=by
 rw [List.take_add_one,List.getElem?_eq_getElem h]
 exact xw _ _ _ _
theorem zf (i:Nat):∀ (l:List Ev) (s:Int × Int × D3),(l.foldl (Jh i) s).1=l.foldl (fun p x=>eU x i p) s.1
 | [],_=>rfl
 | x :: l,s=>zf i l (Jh i s x)
theorem zg (c:ay) (i:Nat) (l:List Ev):(Ay c i l).1=aD c l i:=zf i l _
theorem pW (c:ay) (i:Nat) (l:List Ev):(Ay c i l).2.1=aM l:=by
 rcases List.eq_nil_or_concat l with rfl|⟨p,x,rfl⟩
 ·rfl
 ·rw [List.concat_eq_append,xw,kz]
  rfl
theorem uB (D:Int) (l:List Ev):cE D l=l.take (dm D l):=by
 unfold dm cE
 exact List.prefix_iff_eq_take.1 (List.takeWhile_prefix _)
theorem pX (D:Int) (l:List Ev):dm D l≤l.length:=by
 unfold dm cE
 exact (List.takeWhile_prefix _).length_le
theorem Dq {D:Int} {l:List Ev} (hD:0≤D) {j:Nat} (hj:j≤dm D l):aM (l.take j)≤D:=by
 cases j with
 | zero=>exact hD
 | succ j =>
  have h1:j < l.length:=by have:=pX D l;omega
  rw [kA h1]
  exact (mK (by omega) h1).1 (by omega)
theorem Cf {c:ay} {i:Nat} {D:Int} {l:List Ev} (hm:iJ l) {j:Nat} (he:aM (l.take j)=D):∀ k,j+k≤dm D l→(Ay c i (l.take (j+k))).2=(D,(Ay c i (l.take j)).2.2)
 | 0,_=>by
  have:=pW c i (l.take j)
  rw [Nat.add_zero,←he,←this]
 | k+1,h=>by
  have hl:j+k < l.length:=by have:=pX D l;omega
  have ih:=Cf (c:=c) (i:=i) hm he k (by omega)
  have h1:l[j+k].day≤D:=(mK (by omega) hl).1 (by omega)
  have h2:=At hm hl
  rw [←pW c i,ih] at h2
  rw [←Nat.add_assoc,Ce c i hl]
  have h3:l[j+k].day=D:=by dsimp only at h2;omega
  unfold Jh
  rw [ih,h3]
  dsimp only
  rw [Int.sub_self,pV]
theorem Ef {c:ay} {i:Nat} {D:Int} {l:List Ev} (hm:iJ l) (hD:0≤D):∀ r j,j≤dm D l→l.length+1≤r+j →
  uU c l i D r j (Ay c i (l.take j)).2.1 (Ay c i (l.take j)).2.2=jk (aD c (cE D l) i) (D - aM (cE D l)) (Ay c i (cE D l)).2.2
 | 0,j,hj,hr=>by have:=pX D l;omega
 | r+1,j,hj,hr=>by
  have hfr:=Dq hD hj
  rw [pU,pW]
  by_cases hlt:aM (l.take j) < D
  ·rw [if_pos hlt]
   by_cases hju:j < dm D l
   ·have hl:j < l.length:=by have:=pX D l;omega
    have h1:l[j].day≤D:=(mK (by omega) hl).1 hju
    have ht:Aw l D j=l[j].day:=by
     unfold Aw
     rw [List.getElem?_eq_getElem hl]
     dsimp only
     omega
    have ih:=Ef (c:=c) (i:=i) hm hD r (j+1) hju (by omega)
    rw [Ce c i hl] at ih
    unfold Jh at ih
    dsimp only at ih
    rw [zg,pW] at ih
    rw [ht]
    exact ih
   ·have hje:j=dm D l:=by omega
    have ht:Aw l D j=D:=by
     unfold Aw
     cases hx:l[j]? with
     | none=>rfl
     | some x =>
      obtain ⟨hl,hx2⟩:=List.getElem?_eq_some_iff.1 hx
      have:=mt (mK (D:=D) (by omega) hl).2 (by omega)
      rw [hx2] at this
      dsimp only
      omega
    rw [ht,uB,←hje]
    cases r with
    | zero=>rfl
    | succ r=>rw [pU,if_neg (by omega)]
  ·rw [if_neg hlt]
   have he:aM (l.take j)=D:=by omega
   have hs:=Cf (c:=c) (i:=i) hm he (dm D l - j) (by omega)
   rw [show j+(dm D l - j)=dm D l by omega,←uB] at hs
   have h2:=pW c i (cE D l)
   rw [hs] at h2
   dsimp only at h2
   rw [←h2,Int.sub_self,pV,hs]
theorem G6 {c:ay} {i:Nat} {D:Int} {l:List Ev} (hm:iJ l) (hD:0≤D):kZ c l i D=jk (aD c (cE D l) i) (D - aM (cE D l)) (Ay c i (cE D l)).2.2 :=
 Ef (c:=c) (i:=i) hm hD (l.length+1) 0 (Nat.zero_le _) (Nat.le_refl _)
def Cg (c:ay) (p:List Ev) (D:Int) (i:Nat):Acc :=
 ⟨aD c p i,xu c i (jk (aD c p i) (D - aM p) (Ay c i p).2.2),(jk (aD c p i) (D - aM p) (Ay c i p).2.2).1,(jk (aD c p i) (D - aM p) (Ay c i p).2.2).2.1,(jk (aD c p i) (D - aM p) (Ay c i p).2.2).2.2⟩
def Dr (c:ay) (p:List Ev) (D:Int):List Acc:=(List.range c.aG.length).map (Cg c p D)
theorem Eg {c:ay} {l:List Ev} (hm:iJ l) {D:Int} (hD:0≤D) (i:Nat):qd c l i D=Cg c (cE D l) D i:=by
 unfold qd Cg
 rw [G6 hm hD]
theorem G7 (c:ay) (p:List Ev) (D D':Int) (i:Nat):mJ (eD c i) (D' - D) (Cg c p D i)=Cg c p D' i:=by
 unfold mJ Cg jk xu
 dsimp only
 generalize aD c p i=q
 generalize (Ay c i p).2.2=d
 generalize aM p=L
 obtain ⟨a,b,e⟩:=d
 dsimp only
 by_cases h0:q=0
 ·rw [if_pos h0,if_pos h0,if_pos h0]
  dsimp only
  have e1:(a+(D' - L)) * eD c i=(a+(D - L)) * eD c i+(D' - D) * eD c i:=by
   rw [←Int.add_mul]
   congr 1
   omega
  congr 1
  ·rw [e1]
   generalize (a+(D - L)) * eD c i=u1
   generalize (D' - D) * eD c i=u2
   omega
  ·omega
 ·rw [if_neg h0,if_neg h0,if_neg h0]
  by_cases h1:q=1
  ·rw [if_pos h1,if_pos h1,if_pos h1]
   dsimp only
   congr 1
   ·omega
   ·omega
  ·rw [if_neg h1,if_neg h1,if_neg h1]
   dsimp only
   congr 1
   omega
theorem Ch (c:ay) (p:List Ev) (D D':Int):iS c (D' - D) (Dr c p D)=Dr c p D':=by
 unfold iS Dr
 apply List.ext_getElem?
 intro i
 rw [List.getElem?_mapIdx,List.getElem?_map,List.getElem?_map]
 by_cases h:i < c.aG.length
 ·rw [List.getElem?_range h]
  simp only [Option.map_some,G7]
 ·rw [List.getElem?_eq_none (by simpa using h)]
  rfl
theorem sC (c:ay):dj c=Dr c [] 0:=by
 unfold dj Dr
 apply List.ext_getElem?
 intro i
 rw [List.getElem?_map,List.getElem?_map]
 by_cases h:i < c.aG.length
 ·rw [List.getElem?_range h,List.getElem?_eq_getElem h]
  simp only [Option.map_some]
  unfold Cg B9
  rw [show aM []=0 from rfl,Int.sub_self,pV]
  show some _=some (Acc.mk (l7 c i) (xu c i (0,0,0)) 0 0 0)
  unfold l7 xu uA
  rw [List.getElem?_eq_getElem h]
  simp
 ·rw [List.getElem?_eq_none (by omega),List.getElem?_eq_none (by simpa using h)]
  rfl
end Go.Proofs.YtlpmfgmldmdggaaGreat
open Go Go.RM
namespace Go.Proofs.YtlpmfgmldmdggaaGreat
set_option maxRecDepth 100000
theorem Fg {p:List Ev} (hm:iJ p) {x:Ev} (h1:aM p≤x.day) (h0:0≤x.day) (h2:x.day≤40000):iJ (p++[x]):=by
 refine ⟨fun j h=>?_,fun y hy=>?_⟩
 ·rw [List.length_append,List.length_singleton] at h
  rw [List.getElem_append_left (by omega)]
  by_cases hj:j+1 < p.length
  ·rw [List.getElem_append_left hj]
   exact hm.K6 j hj
  ·have hl:p.length=j+1:=by omega
   rw [List.getElem_append_right (by omega)]
   have h3:=kA (l:=p) (j:=j) (by omega)
   rw [List.take_of_length_le (by omega)] at h3
   simp only [List.getElem_singleton]
   omega
 ·rcases List.mem_append.1 hy with hy|hy
  ·exact hm.day y hy
  ·rw [List.mem_singleton.1 hy]
   exact ⟨h0,h2⟩
theorem jF:iJ []:=⟨fun j h=>by simp at h,fun y hy=>by cases hy⟩
theorem xx {p:List Ev} (hm:iJ p):0≤aM p:=by
 unfold aM
 cases hq:p.getLast? with
 | none=>simp
 | some y=>exact (hm.day y (List.mem_of_getLast? hq)).1
theorem Ci {l:List Ev} (hm:iJ l):∀ k j (h:j+k < l.length),l[j].day≤l[j+k].day
 | 0,j,h=>Int.le_refl _
 | k+1,j,h=>Int.le_trans (Ci hm k j (by omega)) (hm.K6 (j+k) h)
theorem Fh {l:List Ev} (hm:iJ l):∀ x ∈ l,x.day≤aM l:=by
 intro x hx
 obtain ⟨j,hj,rfl⟩:=List.getElem_of_mem hx
 have h:=Ci hm (l.length - 1 - j) j (by omega)
 have h3:=kA (l:=l) (j:=l.length - 1) (by omega)
 rw [List.take_of_length_le (by omega)] at h3
 rw [h3]
 have e:j+(l.length - 1 - j)=l.length - 1:=by omega
 simp only [e] at h
 exact h
theorem Fi {l:List Ev} {D:Int} (h:∀ x ∈ l,x.day≤D):cE D l=l:=by
 unfold cE
 induction l with
 | nil=>rfl
 | cons x l ih =>
  rw [List.takeWhile_cons,if_pos (decide_eq_true (h x (by simp))),ih fun y hy=>h y (List.mem_cons_of_mem _ hy)]
theorem zh {D:Int}:∀ l:List Ev,∀ x ∈ cE D l,x.day≤D
 | [],x,hx=>by cases hx
 | y :: l,x,hx=>by
  unfold cE at hx
  rw [List.takeWhile_cons] at hx
  split at hx
  ·rename_i h
   rcases List.mem_cons.1 hx with rfl|hx
   ·exact of_decide_eq_true h
   ·exact zh l x hx
  ·cases hx
def Ds (c:ay) (p:List Ev) (D:Int) (f:Nat→Int):List Acc:=(List.range c.aG.length).map fun i=>{Cg c p D i with place:=f i}
theorem JZ (c:ay) (p:List Ev) (D:Int):Dr c p D=Ds c p D (aD c p):=rfl
theorem Dt {c:ay} {p:List Ev} {D:Int} {f:Nat→Int} {i:Nat} (h:i < c.aG.length):(Ds c p D f)[i]?=some {Cg c p D i with place:=f i}:=by
 unfold Ds
 rw [List.getElem?_map,List.getElem?_range h]
 rfl
theorem sD {c:ay} {p:List Ev} {D:Int} {f g:Nat→Int} (h:∀ i,i < c.aG.length→f i=g i):Ds c p D f=Ds c p D g:=by
 unfold Ds
 apply List.map_congr_left
 intro i hi
 rw [h i (List.mem_range.1 hi)]
theorem Eh {c:ay} {p:List Ev} {D:Int} {f:Nat→Int} {i:Nat} {q:Int}:(Ds c p D f).set i {Cg c p D i with place:=q}=Ds c p D fun j=>if j=i then q else f j:=by
 unfold Ds
 apply List.ext_getElem?
 intro j
 rw [List.getElem?_set,List.getElem?_map,List.length_map,List.length_range,List.getElem?_map]
 by_cases hji:i=j
 ·subst hji
  rw [if_pos rfl]
  split
  ·rename_i h
   rw [List.getElem?_range h]
   simp
  ·rename_i h
   rw [List.getElem?_eq_none (by simpa using h)]
   rfl
 ·rw [if_neg hji]
  by_cases h:j < c.aG.length
  ·rw [List.getElem?_range h]
   simp only [Option.map_some]
   rw [if_neg (fun h=>hji h.symm)]
  ·rw [List.getElem?_eq_none (by simpa using h)]
   rfl
theorem sE {c:ay} {p:List Ev} {D:Int} {f:Nat→Int} {i:Nat} (h:i < c.aG.length) (a b:Int):gH i a b (Ds c p D f)=if f i=a then .inl (Ds c p D fun j=>if j=i then b else f j) else .inr 9:=by
 unfold gH
 rw [Dt h]
 dsimp only
 split
 ·rw [Eh]
 ·rfl
theorem IK {c:ay} {p:List Ev} {D:Int} {i:Nat}:nT (Ds c p D fun j=>if j=i then 1 else aD c p j)=Dp c p i c.aG.length:=by
 unfold nT Ds Dp
 rw [List.countP_map]
 apply List.countP_congr
 intro j _
 show decide ((if j=i then (1:Int) else aD c p j)=0)=true ↔ _
 by_cases h:j=i
 ·rw [if_pos h]
  simp [h]
 ·rw [if_neg h]
  simp [h]
theorem G8 (c:ay) (p:List Ev) (x:Ev) (i:Nat):Cg c (p++[x]) x.day i={Cg c p x.day i with place:=eU x i (aD c p i)}:=by
 unfold Cg
 rw [xw,kz,uz,Int.sub_self,pV]
 unfold Jh
 dsimp only
 rw [zg,pW]
theorem G9 (c:ay) (p:List Ev) (x:Ev):Dr c (p++[x]) x.day=Ds c p x.day fun i=>eU x i (aD c p i):=by
 unfold Dr Ds
 apply List.map_congr_left
 intro i _
 exact G8 c p x i
theorem KT (c:ay) (l:List Ev) (d:Int) (i:Nat) (o:Int):vb c l ⟨d,1,(i:Int),o⟩=if aD c l i ≠ 0 then 9 else if (qd c l i d).fm < 1000 then 9 else if (Dp c l i c.aG.length:Int) < c.least then 8 else 0:=by
 unfold vb
 dsimp only
 rw [Int.toNat_natCast,if_neg (show ¬ ((1:Int)=3) by decide),if_neg (show ¬ ((1:Int)=5) by decide),if_pos (show (1:Int)=1 from rfl)]
 rfl
theorem KU (c:ay) (l:List Ev) (d:Int) (i:Nat) (o:Int):vb c l ⟨d,2,(i:Int),o⟩=if aD c l i ≠ 1 then 9 else 0:=by
 unfold vb
 dsimp only
 rw [Int.toNat_natCast,if_neg (show ¬ ((2:Int)=3) by decide),if_neg (show ¬ ((2:Int)=5) by decide),if_neg (show ¬ ((2:Int)=1) by decide)]
 rfl
theorem KV (c:ay) (l:List Ev) (d:Int) (i:Nat) (o:Int):vb c l ⟨d,3,(i:Int),o⟩=if aD c l i=2 then 9 else 0:=by
 unfold vb
 dsimp only
 rw [Int.toNat_natCast,if_pos (show (3:Int)=3 from rfl)]
theorem KW (c:ay) (l:List Ev) (d:Int) (i:Nat) (o:Int):vb c l ⟨d,4,(i:Int),o⟩=if aD c l i ≠ 2 then 9 else 0:=by
 unfold vb
 dsimp only
 rw [Int.toNat_natCast,if_neg (show ¬ ((4:Int)=3) by decide),if_neg (show ¬ ((4:Int)=5) by decide),if_neg (show ¬ ((4:Int)=1) by decide)]
 rfl
theorem KX (c:ay) (l:List Ev) (d:Int) (i j:Nat):vb c l ⟨d,5,(i:Int),(j:Int)⟩=if aD c l i ≠ 0 then 9 else if aD c l j=1 then 0 else 9:=by
 unfold vb
 dsimp only
 rw [Int.toNat_natCast,Int.toNat_natCast,if_neg (show ¬ ((5:Int)=3) by decide),if_pos (show (5:Int)=5 from rfl)]
 rfl
theorem vc {d k o:Int} {i j:Nat} {p:Int} (hk:k ≠ 5):eU ⟨d,k,(i:Int),o⟩ (j:Int) p=if j=i then (if k=1∨k=5 then 1 else if k=3 then 2 else 0) else p:=by
 unfold eU
 dsimp only
 rw [if_neg (fun h=>hk h.1)]
 by_cases hj:j=i
 ·subst hj
  rw [if_neg (fun h=>h rfl),if_pos rfl]
 ·rw [if_pos (show (i:Int) ≠ j by omega),if_neg hj]
theorem IL {d:Int} {i j z:Nat} {p:Int}:eU ⟨d,5,(i:Int),(j:Int)⟩ (z:Int) p=if z=j then 0 else if z=i then 1 else p:=by
 unfold eU
 dsimp only
 by_cases hz:z=j
 ·subst hz
  rw [if_pos ⟨rfl,rfl⟩,if_pos rfl]
 ·rw [if_neg (show ¬ ((5:Int)=5∧(j:Int)=z) from fun h=>hz (by omega)),if_neg hz]
  by_cases hj:z=i
  ·subst hj
   rw [if_neg (fun h=>h rfl),if_pos rfl]
   rfl
  ·rw [if_pos (show (i:Int) ≠ z by omega),if_neg hj]
theorem J0 {c:ay} {p:List Ev} (hm:iJ p) {x:Ev} (hk:kindOk x=true) (hn:0≤x.qT∧x.qT < c.aG.length) (ho:0≤x.other∧x.other < c.aG.length) (hd:aM p≤x.day) :
  Iy c x (Dr c p x.day)=if vb c p x=0 then .inl (Dr c (p++[x]) x.day) else .inr (vb c p x):=by
 have h0:0≤x.day:=by have:=xx hm;omega
 rw [G9,JZ]
 have hU:cE x.day p=p:=Fi fun y hy=>by have:=Fh hm y hy;omega
 have hac:(qd c p x.qT.toNat x.day).fm=(Cg c p x.day x.qT.toNat).fm:=by rw [Eg hm h0,hU]
 obtain ⟨d,k,m,o⟩:=x
 dsimp only at *
 obtain ⟨i,rfl⟩:∃ i:Nat,m=(i:Int):=⟨m.toNat,by omega⟩
 obtain ⟨j,rfl⟩:∃ j:Nat,o=(j:Int):=⟨o.toNat,by omega⟩
 have hin:i < c.aG.length:=by omega
 have hjn:j < c.aG.length:=by omega
 unfold kindOk at hk
 rw [bD,Bool.not_not,Bool.and_eq_true] at hk
 dsimp only at hk
 have hk1:=cM.1 hk.1
 have hk2:=hk.2
 unfold Iy
 dsimp only
 rw [Int.toNat_natCast] at hac
 rw [Int.toNat_natCast,Int.toNat_natCast]
 obtain h|h|h|h|h:k=1∨k=2∨k=3∨k=4∨k=5:=by omega
 ·subst h
  rw [if_pos (show (1:Int)=1 from rfl),KT,hac]
  unfold xp
  rw [sE hin]
  by_cases hp:aD c p i=0
  ·rw [if_pos hp,if_neg (show ¬ (aD c p i ≠ 0) from fun h=>h hp)]
   dsimp only
   rw [Dt hin]
   dsimp only
   by_cases h1:1000≤(Cg c p d i).fm
   ·rw [if_pos h1,if_neg (show ¬ (Cg c p d i).fm < 1000 by omega),IK]
    by_cases h2:c.least≤(Dp c p i c.aG.length:Int)
    ·rw [if_pos h2,if_neg (show ¬ (Dp c p i c.aG.length:Int) < c.least by omega),if_pos rfl]
     congr 1
     refine sD fun z _=>?_
     rw [vc (by decide)]
     rfl
    ·rw [if_neg h2,if_pos (show (Dp c p i c.aG.length:Int) < c.least by omega),if_neg (by decide)]
   ·rw [if_neg h1,if_pos (show (Cg c p d i).fm < 1000 by omega),if_neg (by decide)]
  ·rw [if_neg hp,if_pos hp,if_neg (by decide)]
 ·subst h
  rw [if_neg (show ¬ ((2:Int)=1) by decide),if_pos (show (2:Int)=2 from rfl),KU,sE hin]
  by_cases hp:aD c p i=1
  ·rw [if_pos hp,if_neg (show ¬ (aD c p i ≠ 1) from fun h=>h hp),if_pos rfl]
   congr 1
   refine sD fun z _=>?_
   rw [vc (by decide)]
   rfl
  ·rw [if_neg hp,if_pos hp,if_neg (by decide)]
 ·subst h
  rw [if_neg (show ¬ ((3:Int)=1) by decide),if_neg (show ¬ ((3:Int)=2) by decide),if_pos (show (3:Int)=3 from rfl),KV]
  unfold y9
  rw [Dt hin]
  dsimp only
  by_cases hp:aD c p i=2
  ·rw [if_pos hp,if_pos hp,if_neg (by decide)]
  ·rw [if_neg hp,if_neg hp,if_pos rfl,Eh]
   congr 1
   refine sD fun z _=>?_
   rw [vc (by decide)]
   rfl
 ·subst h
  rw [if_neg (show ¬ ((4:Int)=1) by decide),if_neg (show ¬ ((4:Int)=2) by decide),if_neg (show ¬ ((4:Int)=3) by decide),if_pos (show (4:Int)=4 from rfl),KW,sE hin]
  by_cases hp:aD c p i=2
  ·rw [if_pos hp,if_neg (show ¬ (aD c p i ≠ 2) from fun h=>h hp),if_pos rfl]
   congr 1
   refine sD fun z _=>?_
   rw [vc (by decide)]
   rfl
  ·rw [if_neg hp,if_pos hp,if_neg (by decide)]
 ·subst h
  have hij:j ≠ i:=by
   intro h
   subst h
   simp at hk2
  rw [if_neg (show ¬ ((5:Int)=1) by decide),if_neg (show ¬ ((5:Int)=2) by decide),if_neg (show ¬ ((5:Int)=3) by decide),if_neg (show ¬ ((5:Int)=4) by decide),KX]
  unfold za
  rw [sE hin]
  by_cases hp:aD c p i=0
  ·rw [if_pos hp,if_neg (show ¬ (aD c p i ≠ 0) from fun h=>h hp)]
   dsimp only
   rw [sE hjn,if_neg hij]
   by_cases hq:aD c p j=1
   ·rw [if_pos hq,if_pos hq,if_pos rfl]
    congr 1
    refine sD fun z _=>?_
    rw [IL]
   ·rw [if_neg hq,if_neg hq,if_neg (by decide)]
  ·rw [if_neg hp,if_pos hp,if_neg (by decide)]
theorem Fj {c:ay} {p:List Ev} (hm:iJ p) (x:Ev):fF c (aM p) (Dr c p (aM p)) x=if gB c p x=0 then .inl (Dr c (p++[x]) x.day) else .inr (gB c p x):=by
 unfold fF gB
 by_cases h1:kindOk x=false
 ·rw [if_pos h1,if_pos h1,if_neg (by decide)]
 ·rw [if_neg h1,if_neg h1]
  by_cases h2:ec 0 ((c.aG.length:Int) - 1) [x.qT,x.other]=true
  ·rw [if_pos h2,if_pos h2,if_neg (by decide)]
  ·rw [if_neg h2,if_neg h2]
   by_cases h3:ec (aM p) 40000 [x.day]=true
   ·rw [if_pos h3,if_pos h3,if_neg (by decide)]
   ·rw [if_neg h3,if_neg h3,Ch]
    rw [Ec] at h2
    rw [bD] at h3
    have b3:=cM.1 (by simpa using h3)
    have b2:lP x.qT 0 ((c.aG.length:Int) - 1)=true∧lP x.other 0 ((c.aG.length:Int) - 1)=true:=by simpa using h2
    have b4:=cM.1 b2.1
    have b5:=cM.1 b2.2
    exact J0 hm (by simpa using h1) (by omega) (by omega) b3.1
theorem oX {c:ay} {p:List Ev} (hm:iJ p) {x:Ev} (h:gB c p x=0):iJ (p++[x]):=by
 unfold gB at h
 split at h
 ·cases h
 ·split at h
  ·cases h
  ·split at h
   ·cases h
   ·rename_i h3
    have b3:=cC (Bool.not_eq_true _ ▸ h3)
    have:=xx hm
    exact Fg hm b3.1 (by omega) b3.2
def zj (c:ay):Nat→List Ev→List Ev→(Nat × Int) ⊕ List Ev
 | _,p,[]=>.inr p
 | k,p,x :: l=>if gB c p x=0 then zj c (k+1) (p++[x]) l else .inl (k,gB c p x)
def LG (c:ay):(Nat × Int) ⊕ List Ev→(Nat × Int) ⊕ (Int × List Acc)
 | .inl e=>.inl e
 | .inr q=>.inr (aM q,Dr c q (aM q))
theorem mL {c:ay} {D:Int}:∀ {l:List Ev} {k:Nat} {p:List Ev},iJ p→(∀ x ∈ l,x.day≤D)→bN c D k (aM p) (Dr c p (aM p)) l=LG c (zj c k p l)
 | [],k,p,_,_=>rfl
 | x :: l,k,p,hm,hd=>by
  rw [bR,if_pos (hd x (by simp)),Fj hm]
  unfold zj
  by_cases h:gB c p x=0
  ·rw [if_pos h,if_pos h]
   dsimp only
   have:=mL (c:=c) (D:=D) (k:=k+1) (oX hm h) fun y hy=>hd y (List.mem_cons_of_mem _ hy)
   rw [kz] at this
   exact this
  ·rw [if_neg h,if_neg h]
   rfl
theorem ve {c:ay}:∀ {l:List Ev} {k:Nat} {p q:List Ev},iJ p→zj c k p l=.inr q→q=p++l∧iJ q
 | [],k,p,q,hm,h=>by
  cases h
  exact ⟨(List.append_nil _).symm,hm⟩
 | x :: l,k,p,q,hm,h=>by
  unfold zj at h
  split at h
  ·rename_i h1
   obtain ⟨h2,h3⟩:=ve (oX hm h1) h
   exact ⟨by rw [h2];simp,h3⟩
  ·cases h
theorem Cj {c:ay}:∀ {l:List Ev} {k n:Nat} {p q:List Ev},zj c k p l=.inr q→∃ q',zj c k p (l.take n)=.inr q'
 | [],k,n,p,q,h=>⟨q,by rw [List.take_nil];exact h⟩
 | x :: l,k,0,p,q,h=>⟨p,rfl⟩
 | x :: l,k,n+1,p,q,h=>by
  unfold zj at h
  rw [List.take_succ_cons]
  unfold zj
  split at h
  ·rename_i h1
   rw [if_pos h1]
   exact Cj h
  ·cases h
theorem He {c:ay} {l:List Ev} (hd:∀ x ∈ l,x.day≤later):va c l=if (nS c).2.2 ≠ 0 then (0,(nS c).2.2) else if 20 < l.length then (0,3) else match zj c 0 [] l with
  | .inl p=>((p.1:Int),p.2)
  | .inr _=>(0,0):=by
 unfold va
 have:=mL (c:=c) (D:=later) (k:=0) jF hd
 rw [show aM []=0 from rfl,←sC] at this
 rw [this]
 cases zj c 0 [] l <;> rfl
theorem sF {c:ay} {D:Int}:∀ {l:List Ev} {k:Nat} {d:Int} {ls:List Acc} {q:Int × List Acc},(∀ x ∈ l,x.day≤later)→bN c later k d ls l=.inr q→bN c D k d ls l=bN c D k d ls (cE D l)
 | [],k,d,ls,q,_,_=>rfl
 | x :: l,k,d,ls,q,hm,h=>by
  have hall:=iI hm h
  unfold cE
  rw [List.takeWhile_cons]
  rw [bR,if_pos (hm x (by simp))] at h
  cases he:fF c d ls x with
  | inr e=>rw [he] at h;cases h
  | inl l2 =>
   rw [he] at h
   by_cases hx:x.day≤D
   ·rw [if_pos (decide_eq_true hx),bR,if_pos hx,bR,if_pos hx,he]
    exact sF (fun x hx=>hm x (List.mem_cons_of_mem _ hx)) h
   ·rw [if_neg (by simpa using hx)]
    refine nE fun y hy=>?_
    rcases List.mem_cons.1 hy with rfl|hy
    ·omega
    ·have:=iI (fun x hx=>hm x (List.mem_cons_of_mem _ hx)) h y hy
     omega
theorem J1 {c:ay} {l:List Ev} {q:Int × List Acc} (hd:∀ x ∈ l,x.day≤later) (h:bN c later 0 0 (dj c) l=.inr q) {D:Int} (hD:0≤D):iJ l∧Dk c l D=(List.range c.aG.length).map fun i=>qd c l i D:=by
 have h1:=mL (c:=c) (D:=later) (k:=0) jF hd
 rw [show aM []=0 from rfl,←sC,h] at h1
 cases h2:zj c 0 [] l with
 | inl e=>rw [h2] at h1;cases h1
 | inr p =>
  obtain ⟨h3,h4⟩:=ve jF h2
  rw [List.nil_append] at h3
  subst h3
  refine ⟨h4,?_⟩
  obtain ⟨q',h5⟩:=Cj (n:=dm D p) h2
  rw [nG] at h5
  obtain ⟨h6,_⟩:=ve jF h5
  rw [List.nil_append] at h6
  subst h6
  have hU:∀ x ∈ cE D p,x.day≤D:=zh p
  have h7:=mL (c:=c) (D:=D) (k:=0) jF hU
  rw [show aM []=0 from rfl,←sC,h5,←sF hd h] at h7
  unfold Dk
  rw [h7]
  unfold LG
  dsimp only
  rw [Ch]
  unfold Dr
  apply List.map_congr_left
  intro i _
  exact (Eg h4 hD i).symm
end Go.Proofs.YtlpmfgmldmdggaaGreat
open Go Go.RM
namespace Go.Proofs.YtlpmfgmldmdggaaGreat
set_option maxRecDepth 100000
set_option maxHeartbeats 4000000
theorem IM (c:ay) (k:Nat) (p:List Ev):zj c k p []=.inr p:=rfl
theorem Ck (c:ay) (k:Nat) (p:List Ev) (x:Ev) (l:List Ev):zj c k p (x :: l)=if gB c p x=0 then zj c (k+1) (p++[x]) l else .inl (k,gB c p x):=rfl
theorem uC (one:Bool) (c:ay) (h:c.Ok) (l:List Ev) (f:Bool) (hl:l.length≤maxLen) (hd:∀ x ∈ l,x.day≤later):Pu one 19 [.ag (aF c),.sl (l.map cZ) f] (.tp [ah (va c l).1,ah (va c l).2]):=by
 have el:((l.map cZ).length:Int)=l.length:=by simp
 have ml:l.length≤9223372036854775807:=Nat.le_trans hl (by simp [maxLen])
 have o1:=B0 one c h
 rw [He hd]
 by_cases c1:(nS c).2.2=0
 ·have hg:=Ap c1
  rw [if_neg (by rw [c1];simp)]
  rw [c1] at o1
  have d0:(!decide ((0:Int)=0))=false:=by decide
  generalize (nS c).1=a1 at *
  generalize (nS c).2.1=a2 at *
  by_cases c2:20 < l.length
  ·rw [if_pos c2]
   have d1:decide (20 < ((l.map cZ).length:Int))=true:=decide_eq_true (by omega)
   have d3:(!decide ((3:Int)=0))=true:=by decide
   refine af.body (fn:=Tryz.f19) rfl rfl rfl rfl ?_
   refine aa (mu:=fun _=>false) ?_
   repeat' (first |refine u1 ?_ |((with_reducible show ai _ _ _ _ _ _ _ _);refine af.call o1 rfl rfl ?_) |refine u2 ?_ |fail)
   exact ⟨[_,_],⟨Fz.deep rfl,Fz.deep rfl,trivial⟩,rfl⟩
  ·rw [if_neg c2]
   have d1:decide (20 < ((l.map cZ).length:Int))=false:=decide_eq_false (by omega)
   refine af.body (fn:=Tryz.f19) rfl rfl rfl rfl ?_
   refine aa (mu:=fun _=>false) ?_
   repeat' (first |refine u1 ?_ |((with_reducible show ai _ _ _ _ _ _ _ _);refine af.call o1 rfl rfl ?_) |refine u2 ?_ |fail)
   refine aC.bx (aj.to (l:=[(1,.sl (l.map cZ) f),(2,.pt (aF c) 0),(8,ah 0),(9,ah (0:Nat))]) (hp:=[]) 0 rfl ⟨rfl,rfl,rfl,rfl,trivial⟩ (Nat.zero_le _) rfl rfl) ?_
   refine aC.loop (fun k:Nat=>k≤l.length∧iJ (l.take k)∧zj c 0 [] l=zj c k (l.take k) (l.drop k)) (fun k=>⟨bM [(1,.sl (l.map cZ) f),(2,.pt (aF c) 0),(8,ah 0),(9,ah (k:Nat))],[],bw.none,false,0⟩) (fun k=>l.length - k) ?_ 0 ⟨Nat.zero_le _,jF,rfl⟩
   rintro k ⟨hk,hmk,hrv⟩
   by_cases hlt:k < l.length
   ·have d2:decide ((k:Int) < ((l.map cZ).length:Int))=true:=decide_eq_true (by omega)
    have hat:(l.map cZ)[((k:Nat):Int).toNat]?=some (cZ l[k]):=bG hlt
    have hsl:=Dm l k
    have hkl:0≤k∧k≤(l.map cZ).length:=⟨Nat.zero_le _,by rw [List.length_map];omega⟩
    have hel:=Dn l
    have htk:l.take (k+1)=l.take k++[l[k]]:=by rw [List.take_add_one,List.getElem?_eq_getElem hlt];rfl
    rw [List.drop_eq_getElem_cons hlt] at hrv
    generalize l[k]=x at *
    have ho:=fun f'=>G5 true c hg (l.take k) f' (by rw [List.length_take];omega) hmk x
    have hmo:gB c (l.take k) x=0→iJ (l.take k++[x]):=oX hmk
    rw [Ck] at hrv
    by_cases e0:gB c (l.take k) x=0
    ·rw [if_pos e0] at hrv
     have hm':=hmo e0
     rw [←htk] at hrv hm'
     rw [←hsl,e0] at ho
     refine aa (mu:=fun _=>false) ?_
     repeat' (first |(refine ⟨_,ho _,?_⟩) |refine u1 ?_ |((with_reducible show RM.wpOp _ _ (.indexAddr _ _ _) _ _ _);refine ⟨cZ x,⟨by omega,hat⟩,rfl,?_⟩) |(refine ⟨0,k,rfl,rfl,hkl,(by decide),hel,?_⟩) |refine u2 ?_ |fail)
     exact ⟨k+1,⟨hlt,hm',hrv⟩,(by dsimp only;omega),aj.to 0 rfl ⟨rfl,rfl,rfl,cK (by simp),trivial⟩ (Nat.zero_le _) rfl rfl⟩
    ·rw [if_neg e0] at hrv
     rw [hrv]
     have d4:(!decide (gB c (l.take k) x=0))=true:=by rw [decide_eq_false e0];rfl
     dsimp only
     generalize gB c (l.take k) x=e at *
     rw [←hsl] at ho
     refine aa (mu:=fun _=>false) ?_
     repeat' (first |(refine ⟨_,ho _,?_⟩) |refine u1 ?_ |((with_reducible show RM.wpOp _ _ (.indexAddr _ _ _) _ _ _);refine ⟨cZ x,⟨by omega,hat⟩,rfl,?_⟩) |(refine ⟨0,k,rfl,rfl,hkl,(by decide),hel,?_⟩) |refine u2 ?_ |fail)
     exact ⟨[_,_],⟨Fz.deep rfl,Fz.deep rfl,trivial⟩,rfl⟩
   ·have d2:decide ((k:Int) < ((l.map cZ).length:Int))=false:=decide_eq_false (by omega)
    rw [hrv,List.drop_eq_nil_of_le (by omega)]
    rw [IM]
    dsimp only
    refine aa (mu:=fun _=>false) ?_
    repeat' (first |refine u1 ?_ |refine u2 ?_ |fail)
    exact ⟨[_,_],⟨Fz.deep rfl,Fz.deep rfl,trivial⟩,rfl⟩
 ·rw [if_pos c1]
  have d1:(!decide ((nS c).2.2=0))=true:=by rw [decide_eq_false c1];rfl
  have d2:=decide_eq_false c1
  generalize (nS c).2.2=e at *
  refine af.body (fn:=Tryz.f19) rfl rfl rfl rfl ?_
  refine aa (mu:=fun _=>false) ?_
  repeat' (first |refine u1 ?_ |((with_reducible show ai _ _ _ _ _ _ _ _);refine af.call o1 rfl rfl ?_) |refine u2 ?_ |fail)
  exact ⟨[_,_],⟨Fz.deep rfl,Fz.deep rfl,trivial⟩,rfl⟩
end Go.Proofs.YtlpmfgmldmdggaaGreat
open Go Go.RM
namespace Go.Proofs.YtlpmfgmldmdggaaGreat
set_option maxRecDepth 100000
structure Vd (c:ay) (l:List Ev):Prop where
 good:Good c
 len:l.length≤20
 run:zj c 0 [] l=.inr l
 mono:iJ l
theorem J2 {c:ay} {l:List Ev} (hd:∀ x ∈ l,x.day≤later) (h:(va c l).2=0):Vd c l:=by
 have hcl:=He (c:=c) hd
 rw [hcl] at h
 split at h
 ·rename_i h1;exact absurd h h1
 ·rename_i h1
  split at h
  ·cases h
  ·rename_i h2
   cases h3:zj c 0 [] l with
   | inl e =>
    rw [h3] at h
    exfalso
    have h4:∀ {l:List Ev} {k:Nat} {p:List Ev} {e:Nat × Int},zj c k p l=.inl e→e.2 ≠ 0:=by
     intro l
     induction l with
     | nil=>intro k p e h;cases h
     | cons x l ih =>
      intro k p e h
      rw [Ck] at h
      split at h
      ·exact ih h
      ·rename_i h5
       cases h
       exact h5
    exact h4 h3 h
   | inr q =>
    obtain ⟨h4,h5⟩:=ve jF h3
    rw [List.nil_append] at h4
    subst h4
    exact ⟨Ap (Decidable.not_not.1 h1),by omega,h3,h5⟩
theorem Ji {c:ay} {l:List Ev} (h:Vd c l) {D:Int} (hD:0≤D):Dk c l D=(List.range c.aG.length).map fun i=>qd c l i D:=by
 have hd:∀ x ∈ l,x.day≤later:=fun x hx=>Int.le_trans (h.mono.day x hx).2 (by decide)
 have h1:=mL (c:=c) (D:=later) (k:=0) jF hd
 rw [show aM []=0 from rfl,←sC,h.run] at h1
 exact (J1 hd h1 hD).2
end Go.Proofs.YtlpmfgmldmdggaaGreat
open Go Go.RM
namespace Go.Proofs.YtlpmfgmldmdggaaGreat
set_option maxRecDepth 100000
set_option maxHeartbeats 4000000
theorem KY (one:Bool):Pu one 26 [] (BB true):=af.closed (fun _=>rfl) rfl
end Go.Proofs.YtlpmfgmldmdggaaGreat
