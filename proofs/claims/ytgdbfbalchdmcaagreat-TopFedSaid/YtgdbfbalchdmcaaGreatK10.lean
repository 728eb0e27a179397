/-
  Contracts of the program's functions and of the document's. Lemmas alone; their conditions stand in them.
-/
import Derived.Test.YtgdbfbalchdmcaaGreatK7
import Derived.Test.YtgdbfbalchdmcaaGreatK9
open Go Go.RM
namespace Go.Proofs.YtgdbfbalchdmcaaGreat
set_option maxRecDepth 100000
theorem lT (p:List Ev) (x:Ev):aW (p++[x])=x.day:=by
 unfold aW
 rw [List.getLast?_append]
 rfl
theorem lU {l:List Ev} {j:Nat} (h:j < l.length):aW (l.take (j+1))=l[j].day:=by
 rw [List.take_add_one,List.getElem?_eq_getElem h]
 exact lT _ _
theorem BX {l:List Ev} (hm:kj l) {j:Nat} (h:j < l.length):aW (l.take j)≤l[j].day:=by
 cases j with
 | zero=>exact (hm.day _ (List.getElem_mem h)).1
 | succ j =>
  rw [lU (by omega)]
  exact hm.OH j h
theorem ry (p:Int) (d:D3):ki p 0 d=d:=by
 unfold ki
 split
 ·simp
 ·split <;> simp
def L9 (i:Nat) (s:Int × Int × D3) (x:Ev):Int × Int × D3:=(fO x i s.1,x.day,ki s.1 (x.day - s.2.1) s.2.2)
def Cf (c:aH) (i:Nat) (l:List Ev):Int × Int × D3:=l.foldl (L9 i) (nA c i,0,(0,0,0))
theorem yL (c:aH) (i:Nat) (l:List Ev) (x:Ev):Cf c i (l++[x])=L9 i (Cf c i l) x:=by
 unfold Cf
 rw [List.foldl_append]
 rfl
theorem DH (c:aH) (i:Nat) {l:List Ev} {j:Nat} (h:j < l.length):Cf c i (l.take (j+1))=L9 i (Cf c i (l.take j)) l[j]:=by
 rw [List.take_add_one,List.getElem?_eq_getElem h]
 exact yL _ _ _ _
theorem Ay (i:Nat):∀ (l:List Ev) (s:Int × Int × D3),(l.foldl (L9 i) s).1=l.foldl (fun p x=>fO x i p) s.1
 | [],_=>rfl
 | x :: l,s=>Ay i l (L9 i s x)
theorem Az (c:aH) (i:Nat) (l:List Ev):(Cf c i l).1=aP c l i:=Ay i l _
theorem rz (c:aH) (i:Nat) (l:List Ev):(Cf c i l).2.1=aW l:=by
 rcases List.eq_nil_or_concat l with rfl|⟨p,x,rfl⟩
 ·rfl
 ·rw [List.concat_eq_append,yL,lT]
  rfl
theorem vT (D:Int) (l:List Ev):dA D l=l.take (dW D l):=by
 unfold dW dA
 exact List.prefix_iff_eq_take.1 (List.takeWhile_prefix _)
theorem rA (D:Int) (l:List Ev):dW D l≤l.length:=by
 unfold dW dA
 exact (List.takeWhile_prefix _).length_le
theorem Fi {D:Int} {l:List Ev} (hD:0≤D) {j:Nat} (hj:j≤dW D l):aW (l.take j)≤D:=by
 cases j with
 | zero=>exact hD
 | succ j =>
  have h1:j < l.length:=by have:=rA D l;omega
  rw [lU h1]
  exact (nW (by omega) h1).1 (by omega)
theorem DI {c:aH} {i:Nat} {D:Int} {l:List Ev} (hm:kj l) {j:Nat} (he:aW (l.take j)=D):∀ k,j+k≤dW D l→(Cf c i (l.take (j+k))).2=(D,(Cf c i (l.take j)).2.2)
 | 0,_=>by
  have:=rz c i (l.take j)
  rw [Nat.add_zero,←he,←this]
 | k+1,h=>by
  have hl:j+k < l.length:=by have:=rA D l;omega
  have ih:=DI (c:=c) (i:=i) hm he k (by omega)
  have h1:l[j+k].day≤D:=(nW (by omega) hl).1 (by omega)
  have h2:=BX hm hl
  rw [←rz c i,ih] at h2
  rw [←Nat.add_assoc,DH c i hl]
  have h3:l[j+k].day=D:=by dsimp only at h2;omega
  unfold L9
  rw [ih,h3]
  dsimp only
  rw [Int.sub_self,ry]
theorem Gg {c:aH} {i:Nat} {D:Int} {l:List Ev} (hm:kj l) (hD:0≤D):∀ r j,j≤dW D l→l.length+1≤r+j →
  Ht c l i D r j (Cf c i (l.take j)).2.1 (Cf c i (l.take j)).2.2=ki (aP c (dA D l) i) (D - aW (dA D l)) (Cf c i (dA D l)).2.2
 | 0,j,hj,hr=>by have:=rA D l;omega
 | r+1,j,hj,hr=>by
  have hfr:=Fi hD hj
  rw [u6,rz]
  by_cases hlt:aW (l.take j) < D
  ·rw [if_pos hlt]
   by_cases hju:j < dW D l
   ·have hl:j < l.length:=by have:=rA D l;omega
    have h1:l[j].day≤D:=(nW (by omega) hl).1 hju
    have ht:Ce l D j=l[j].day:=by
     unfold Ce
     rw [List.getElem?_eq_getElem hl]
     dsimp only
     omega
    have ih:=Gg (c:=c) (i:=i) hm hD r (j+1) hju (by omega)
    rw [DH c i hl] at ih
    unfold L9 at ih
    dsimp only at ih
    rw [Az,rz] at ih
    rw [ht]
    exact ih
   ·have hje:j=dW D l:=by omega
    have ht:Ce l D j=D:=by
     unfold Ce
     cases hx:l[j]? with
     | none=>rfl
     | some x =>
      obtain ⟨hl,hx2⟩:=List.getElem?_eq_some_iff.1 hx
      have:=mt (nW (D:=D) (by omega) hl).2 (by omega)
      rw [hx2] at this
      dsimp only
      omega
    rw [ht,vT,←hje]
    cases r with
    | zero=>rfl
    | succ r=>rw [u6,if_neg (by omega)]
  ·rw [if_neg hlt]
   have he:aW (l.take j)=D:=by omega
   have hs:=DI (c:=c) (i:=i) hm he (dW D l - j) (by omega)
   rw [show j+(dW D l - j)=dW D l by omega,←vT] at hs
   have h2:=rz c i (dA D l)
   rw [hs] at h2
   dsimp only at h2
   rw [←h2,Int.sub_self,ry,hs]
theorem Jz {c:aH} {i:Nat} {D:Int} {l:List Ev} (hm:kj l) (hD:0≤D):vR c l i D=ki (aP c (dA D l) i) (D - aW (dA D l)) (Cf c i (dA D l)).2.2 :=
 Gg (c:=c) (i:=i) hm hD (l.length+1) 0 (Nat.zero_le _) (Nat.le_refl _)
def DJ (c:aH) (p:List Ev) (D:Int) (i:Nat):Acc :=
 ⟨aP c p i,yK c i (ki (aP c p i) (D - aW p) (Cf c i p).2.2),(ki (aP c p i) (D - aW p) (Cf c i p).2.2).1,(ki (aP c p i) (D - aW p) (Cf c i p).2.2).2.1,(ki (aP c p i) (D - aW p) (Cf c i p).2.2).2.2⟩
def Fj (c:aH) (p:List Ev) (D:Int):List Acc:=(List.range c.ah.length).map (DJ c p D)
theorem Gh {c:aH} {l:List Ev} (hm:kj l) {D:Int} (hD:0≤D) (i:Nat):u7 c l i D=DJ c (dA D l) D i:=by
 unfold u7 DJ
 rw [Jz hm hD]
theorem JA (c:aH) (p:List Ev) (D D':Int) (i:Nat):nV (fy c i) (D' - D) (DJ c p D i)=DJ c p D' i:=by
 unfold nV DJ ki yK
 dsimp only
 generalize aP c p i=q
 generalize (Cf c i p).2.2=d
 generalize aW p=L
 obtain ⟨a,b,e⟩:=d
 dsimp only
 by_cases h0:q=0
 ·rw [if_pos h0,if_pos h0,if_pos h0]
  dsimp only
  have e1:(a+(D' - L)) * fy c i=(a+(D - L)) * fy c i+(D' - D) * fy c i:=by
   rw [←Int.add_mul]
   congr 1
   omega
  congr 1
  ·rw [e1]
   generalize (a+(D - L)) * fy c i=u1
   generalize (D' - D) * fy c i=u2
   omega
  ·omega
 ·rw [if_neg h0,if_neg h0,if_neg h0]
  by_cases h1:q=1
  ·rw [if_pos h1,if_pos h1,if_pos h1]
   dsimp only
   congr 1
   ·omega
   ·omega
  ·rw [if_neg h1,if_neg h1,if_neg h1]
   dsimp only
   congr 1
   omega
theorem DK (c:aH) (p:List Ev) (D D':Int):jK c (D' - D) (Fj c p D)=Fj c p D':=by
 unfold jK Fj
 apply List.ext_getElem?
 intro i
 rw [List.getElem?_mapIdx,List.getElem?_map,List.getElem?_map]
 by_cases h:i < c.ah.length
 ·rw [List.getElem?_range h]
  simp only [Option.map_some,JA]
 ·rw [List.getElem?_eq_none (by simpa using h)]
  rfl
theorem tU (c:aH):dV c=Fj c [] 0:=by
 unfold dV Fj
 apply List.ext_getElem?
 intro i
 rw [List.getElem?_map,List.getElem?_map]
 by_cases h:i < c.ah.length
 ·rw [List.getElem?_range h,List.getElem?_eq_getElem h]
  simp only [Option.map_some]
  unfold DJ DD
  rw [show aW []=0 from rfl,Int.sub_self,ry]
  show some _=some (Acc.mk (nA c i) (yK c i (0,0,0)) 0 0 0)
  unfold nA yK vS
  rw [List.getElem?_eq_getElem h]
  simp
 ·rw [List.getElem?_eq_none (by omega),List.getElem?_eq_none (by simpa using h)]
  rfl
end Go.Proofs.YtgdbfbalchdmcaaGreat
open Go Go.RM
namespace Go.Proofs.YtgdbfbalchdmcaaGreat
set_option maxRecDepth 100000
theorem Hv {p:List Ev} (hm:kj p) {x:Ev} (h1:aW p≤x.day) (h0:0≤x.day) (h2:x.day≤40000):kj (p++[x]):=by
 refine ⟨fun j h=>?_,fun y hy=>?_⟩
 ·rw [List.length_append,List.length_singleton] at h
  rw [List.getElem_append_left (by omega)]
  by_cases hj:j+1 < p.length
  ·rw [List.getElem_append_left hj]
   exact hm.OH j hj
  ·have hl:p.length=j+1:=by omega
   rw [List.getElem_append_right (by omega)]
   have h3:=lU (l:=p) (j:=j) (by omega)
   rw [List.take_of_length_le (by omega)] at h3
   simp only [List.getElem_singleton]
   omega
 ·rcases List.mem_append.1 hy with hy|hy
  ·exact hm.day y hy
  ·rw [List.mem_singleton.1 hy]
   exact ⟨h0,h2⟩
theorem kQ:kj []:=⟨fun j h=>by simp at h,fun y hy=>by cases hy⟩
theorem yM {p:List Ev} (hm:kj p):0≤aW p:=by
 unfold aW
 cases hq:p.getLast? with
 | none=>simp
 | some y=>exact (hm.day y (List.mem_of_getLast? hq)).1
theorem DL {l:List Ev} (hm:kj l):∀ k j (h:j+k < l.length),l[j].day≤l[j+k].day
 | 0,j,h=>Int.le_refl _
 | k+1,j,h=>Int.le_trans (DL hm k j (by omega)) (hm.OH (j+k) h)
theorem Hw {l:List Ev} (hm:kj l):∀ x ∈ l,x.day≤aW l:=by
 intro x hx
 obtain ⟨j,hj,rfl⟩:=List.getElem_of_mem hx
 have h:=DL hm (l.length - 1 - j) j (by omega)
 have h3:=lU (l:=l) (j:=l.length - 1) (by omega)
 rw [List.take_of_length_le (by omega)] at h3
 rw [h3]
 have e:j+(l.length - 1 - j)=l.length - 1:=by omega
 simp only [e] at h
 exact h
theorem Hx {l:List Ev} {D:Int} (h:∀ x ∈ l,x.day≤D):dA D l=l:=by
 unfold dA
 induction l with
 | nil=>rfl
 | cons x l ih =>
  rw [List.takeWhile_cons,if_pos (decide_eq_true (h x (by simp))),ih fun y hy=>h y (List.mem_cons_of_mem _ hy)]
theorem AA {D:Int}:∀ l:List Ev,∀ x ∈ dA D l,x.day≤D
 | [],x,hx=>by cases hx
 | y :: l,x,hx=>by
  unfold dA at hx
  rw [List.takeWhile_cons] at hx
  split at hx
  ·rename_i h
   rcases List.mem_cons.1 hx with rfl|hx
   ·exact of_decide_eq_true h
   ·exact AA l x hx
  ·cases hx
def Fk (c:aH) (p:List Ev) (D:Int) (f:Nat→Int):List Acc:=(List.range c.ah.length).map fun i=>{DJ c p D i with place:=f i}
theorem MV (c:aH) (p:List Ev) (D:Int):Fj c p D=Fk c p D (aP c p):=rfl
theorem Fl {c:aH} {p:List Ev} {D:Int} {f:Nat→Int} {i:Nat} (h:i < c.ah.length):(Fk c p D f)[i]?=some {DJ c p D i with place:=f i}:=by
 unfold Fk
 rw [List.getElem?_map,List.getElem?_range h]
 rfl
theorem tW {c:aH} {p:List Ev} {D:Int} {f g:Nat→Int} (h:∀ i,i < c.ah.length→f i=g i):Fk c p D f=Fk c p D g:=by
 unfold Fk
 apply List.map_congr_left
 intro i hi
 rw [h i (List.mem_range.1 hi)]
theorem Gi {c:aH} {p:List Ev} {D:Int} {f:Nat→Int} {i:Nat} {q:Int}:(Fk c p D f).set i {DJ c p D i with place:=q}=Fk c p D fun j=>if j=i then q else f j:=by
 unfold Fk
 apply List.ext_getElem?
 intro j
 rw [List.getElem?_set,List.getElem?_map,List.length_map,List.length_range,List.getElem?_map]
 by_cases hji:i=j
 ·subst hji
  rw [if_pos rfl]
  split
  ·rename_i h
   rw [List.getElem?_range h]
   simp
  ·rename_i h
   rw [List.getElem?_eq_none (by simpa using h)]
   rfl
 ·rw [if_neg hji]
  by_cases h:j < c.ah.length
  ·rw [List.getElem?_range h]
   simp only [Option.map_some]
   rw [if_neg (fun h=>hji h.symm)]
  ·rw [List.getElem?_eq_none (by simpa using h)]
   rfl
theorem tX {c:aH} {p:List Ev} {D:Int} {f:Nat→Int} {i:Nat} (h:i < c.ah.length) (a b:Int):iL i a b (Fk c p D f)=if f i=a then .inl (Fk c p D fun j=>if j=i then b else f j) else .inr 9:=by
 unfold iL
 rw [Fl h]
 dsimp only
 split
 ·rw [Gi]
 ·rfl
theorem Li {c:aH} {p:List Ev} {D:Int} {i:Nat}:jD (Fk c p D fun j=>if j=i then 1 else aP c p j)=Fh c p i c.ah.length:=by
 unfold jD Fk Fh
 rw [List.countP_map]
 apply List.countP_congr
 intro j _
 show decide ((if j=i then (1:Int) else aP c p j)=0)=true ↔ _
 by_cases h:j=i
 ·rw [if_pos h]
  simp [h]
 ·rw [if_neg h]
  simp [h]
theorem JB (c:aH) (p:List Ev) (x:Ev) (i:Nat):DJ c (p++[x]) x.day i={DJ c p x.day i with place:=fO x i (aP c p i)}:=by
 unfold DJ
 rw [yL,lT,vQ,Int.sub_self,ry]
 unfold L9
 dsimp only
 rw [Az,rz]
theorem JC (c:aH) (p:List Ev) (x:Ev):Fj c (p++[x]) x.day=Fk c p x.day fun i=>fO x i (aP c p i):=by
 unfold Fj Fk
 apply List.map_congr_left
 intro i _
 exact JB c p x i
theorem ND (c:aH) (l:List Ev) (d:Int) (i:Nat) (o:Int):wK c l ⟨d,1,(i:Int),o⟩=if aP c l i ≠ 0 then 9 else if (u7 c l i d).i4 < 1000 then 9 else if (Fh c l i c.ah.length:Int) < c.least then 8 else 0:=by
 unfold wK
 dsimp only
 rw [Int.toNat_natCast,if_neg (show ¬ ((1:Int)=3) by decide),if_neg (show ¬ ((1:Int)=5) by decide),if_pos (show (1:Int)=1 from rfl)]
 rfl
theorem NF (c:aH) (l:List Ev) (d:Int) (i:Nat) (o:Int):wK c l ⟨d,2,(i:Int),o⟩=if aP c l i ≠ 1 then 9 else 0:=by
 unfold wK
 dsimp only
 rw [Int.toNat_natCast,if_neg (show ¬ ((2:Int)=3) by decide),if_neg (show ¬ ((2:Int)=5) by decide),if_neg (show ¬ ((2:Int)=1) by decide)]
 rfl
theorem NG (c:aH) (l:List Ev) (d:Int) (i:Nat) (o:Int):wK c l ⟨d,3,(i:Int),o⟩=if aP c l i=2 then 9 else 0:=by
 unfold wK
 dsimp only
 rw [Int.toNat_natCast,if_pos (show (3:Int)=3 from rfl)]
theorem NH (c:aH) (l:List Ev) (d:Int) (i:Nat) (o:Int):wK c l ⟨d,4,(i:Int),o⟩=if aP c l i ≠ 2 then 9 else 0:=by
 unfold wK
 dsimp only
 rw [Int.toNat_natCast,if_neg (show ¬ ((4:Int)=3) by decide),if_neg (show ¬ ((4:Int)=5) by decide),if_neg (show ¬ ((4:Int)=1) by decide)]
 rfl
theorem NI (c:aH) (l:List Ev) (d:Int) (i j:Nat):wK c l ⟨d,5,(i:Int),(j:Int)⟩=if aP c l i ≠ 0 then 9 else if aP c l j=1 then 0 else 9:=by
 unfold wK
 dsimp only
 rw [Int.toNat_natCast,Int.toNat_natCast,if_neg (show ¬ ((5:Int)=3) by decide),if_pos (show (5:Int)=5 from rfl)]
 rfl
theorem wL {d k o:Int} {i j:Nat} {p:Int} (hk:k ≠ 5):fO ⟨d,k,(i:Int),o⟩ (j:Int) p=if j=i then (if k=1∨k=5 then 1 else if k=3 then 2 else 0) else p:=by
 unfold fO
 dsimp only
 rw [if_neg (fun h=>hk h.1)]
 by_cases hj:j=i
 ·subst hj
  rw [if_neg (fun h=>h rfl),if_pos rfl]
 ·rw [if_pos (show (i:Int) ≠ j by omega),if_neg hj]
theorem Lj {d:Int} {i j z:Nat} {p:Int}:fO ⟨d,5,(i:Int),(j:Int)⟩ (z:Int) p=if z=j then 0 else if z=i then 1 else p:=by
 unfold fO
 dsimp only
 by_cases hz:z=j
 ·subst hz
  rw [if_pos ⟨rfl,rfl⟩,if_pos rfl]
 ·rw [if_neg (show ¬ ((5:Int)=5∧(j:Int)=z) from fun h=>hz (by omega)),if_neg hz]
  by_cases hj:z=i
  ·subst hj
   rw [if_neg (fun h=>h rfl),if_pos rfl]
   rfl
  ·rw [if_pos (show (i:Int) ≠ z by omega),if_neg hj]
theorem MW {c:aH} {p:List Ev} (hm:kj p) {x:Ev} (hk:kindOk x=true) (hn:0≤x.aR∧x.aR < c.ah.length) (ho:0≤x.other∧x.other < c.ah.length) (hd:aW p≤x.day) :
  K5 c x (Fj c p x.day)=if wK c p x=0 then .inl (Fj c (p++[x]) x.day) else .inr (wK c p x):=by
 have h0:0≤x.day:=by have:=yM hm;omega
 rw [JC,MV]
 have hU:dA x.day p=p:=Hx fun y hy=>by have:=Hw hm y hy;omega
 have hac:(u7 c p x.aR.toNat x.day).i4=(DJ c p x.day x.aR.toNat).i4:=by rw [Gh hm h0,hU]
 obtain ⟨d,k,m,o⟩:=x
 dsimp only at *
 obtain ⟨i,rfl⟩:∃ i:Nat,m=(i:Int):=⟨m.toNat,by omega⟩
 obtain ⟨j,rfl⟩:∃ j:Nat,o=(j:Int):=⟨o.toNat,by omega⟩
 have hin:i < c.ah.length:=by omega
 have hjn:j < c.ah.length:=by omega
 unfold kindOk at hk
 rw [bp,Bool.not_not,Bool.and_eq_true] at hk
 dsimp only at hk
 have hk1:=bQ.1 hk.1
 have hk2:=hk.2
 unfold K5
 dsimp only
 rw [Int.toNat_natCast] at hac
 rw [Int.toNat_natCast,Int.toNat_natCast]
 obtain h|h|h|h|h:k=1∨k=2∨k=3∨k=4∨k=5:=by omega
 ·subst h
  rw [if_pos (show (1:Int)=1 from rfl),ND,hac]
  unfold yH
  rw [tX hin]
  by_cases hp:aP c p i=0
  ·rw [if_pos hp,if_neg (show ¬ (aP c p i ≠ 0) from fun h=>h hp)]
   dsimp only
   rw [Fl hin]
   dsimp only
   by_cases h1:1000≤(DJ c p d i).i4
   ·rw [if_pos h1,if_neg (show ¬ (DJ c p d i).i4 < 1000 by omega),Li]
    by_cases h2:c.least≤(Fh c p i c.ah.length:Int)
    ·rw [if_pos h2,if_neg (show ¬ (Fh c p i c.ah.length:Int) < c.least by omega),if_pos rfl]
     congr 1
     refine tW fun z _=>?_
     rw [wL (by decide)]
     rfl
    ·rw [if_neg h2,if_pos (show (Fh c p i c.ah.length:Int) < c.least by omega),if_neg (by decide)]
   ·rw [if_neg h1,if_pos (show (DJ c p d i).i4 < 1000 by omega),if_neg (by decide)]
  ·rw [if_neg hp,if_pos hp,if_neg (by decide)]
 ·subst h
  rw [if_neg (show ¬ ((2:Int)=1) by decide),if_pos (show (2:Int)=2 from rfl),NF,tX hin]
  by_cases hp:aP c p i=1
  ·rw [if_pos hp,if_neg (show ¬ (aP c p i ≠ 1) from fun h=>h hp),if_pos rfl]
   congr 1
   refine tW fun z _=>?_
   rw [wL (by decide)]
   rfl
  ·rw [if_neg hp,if_pos hp,if_neg (by decide)]
 ·subst h
  rw [if_neg (show ¬ ((3:Int)=1) by decide),if_neg (show ¬ ((3:Int)=2) by decide),if_pos (show (3:Int)=3 from rfl),NG]
  unfold At
  rw [Fl hin]
  dsimp only
  by_cases hp:aP c p i=2
  ·rw [if_pos hp,if_pos hp,if_neg (by decide)]
  ·rw [if_neg hp,if_neg hp,if_pos rfl,Gi]
   congr 1
   refine tW fun z _=>?_
   rw [wL (by decide)]
   rfl
 ·subst h
  rw [if_neg (show ¬ ((4:Int)=1) by decide),if_neg (show ¬ ((4:Int)=2) by decide),if_neg (show ¬ ((4:Int)=3) by decide),if_pos (show (4:Int)=4 from rfl),NH,tX hin]
  by_cases hp:aP c p i=2
  ·rw [if_pos hp,if_neg (show ¬ (aP c p i ≠ 2) from fun h=>h hp),if_pos rfl]
   congr 1
   refine tW fun z _=>?_
   rw [wL (by decide)]
   rfl
  ·rw [if_neg hp,if_pos hp,if_neg (by decide)]
 ·subst h
  have hij:j ≠ i:=by
   intro h
   subst h
   simp at hk2
  rw [if_neg (show ¬ ((5:Int)=1) by decide),if_neg (show ¬ ((5:Int)=2) by decide),if_neg (show ¬ ((5:Int)=3) by decide),if_neg (show ¬ ((5:Int)=4) by decide),NI]
  unfold Au
  rw [tX hin]
  by_cases hp:aP c p i=0
  ·rw [if_pos hp,if_neg (show ¬ (aP c p i ≠ 0) from fun h=>h hp)]
   dsimp only
   rw [tX hjn,if_neg hij]
   by_cases hq:aP c p j=1
   ·rw [if_pos hq,if_pos hq,if_pos rfl]
    congr 1
    refine tW fun z _=>?_
    rw [Lj]
   ·rw [if_neg hq,if_neg hq,if_neg (by decide)]
  ·rw [if_neg hp,if_pos hp,if_neg (by decide)]
theorem Hy {c:aH} {p:List Ev} (hm:kj p) (x:Ev):gF c (aW p) (Fj c p (aW p)) x=if iH c p x=0 then .inl (Fj c (p++[x]) x.day) else .inr (iH c p x):=by
 unfold gF iH
 by_cases h1:kindOk x=false
 ·rw [if_pos h1,if_pos h1,if_neg (by decide)]
 ·rw [if_neg h1,if_neg h1]
  by_cases h2:bH 0 ((c.ah.length:Int) - 1) [x.aR,x.other]=true
  ·rw [if_pos h2,if_pos h2,if_neg (by decide)]
  ·rw [if_neg h2,if_neg h2]
   by_cases h3:bH (aW p) 40000 [x.day]=true
   ·rw [if_pos h3,if_pos h3,if_neg (by decide)]
   ·rw [if_neg h3,if_neg h3,DK]
    rw [Ge] at h2
    rw [bp] at h3
    have b3:=bQ.1 (by simpa using h3)
    have b2:gY x.aR 0 ((c.ah.length:Int) - 1)=true∧gY x.other 0 ((c.ah.length:Int) - 1)=true:=by simpa using h2
    have b4:=bQ.1 b2.1
    have b5:=bQ.1 b2.2
    exact MW hm (by simpa using h1) (by omega) (by omega) b3.1
theorem qB {c:aH} {p:List Ev} (hm:kj p) {x:Ev} (h:iH c p x=0):kj (p++[x]):=by
 unfold iH at h
 split at h
 ·cases h
 ·split at h
  ·cases h
  ·split at h
   ·cases h
   ·rename_i h3
    have b3:=dI (Bool.not_eq_true _ ▸ h3)
    have:=yM hm
    exact Hv hm b3.1 (by omega) b3.2
def AD (c:aH):Nat→List Ev→List Ev→(Nat × Int) ⊕ List Ev
 | _,p,[]=>.inr p
 | k,p,x :: l=>if iH c p x=0 then AD c (k+1) (p++[x]) l else .inl (k,iH c p x)
def Ph (c:aH):(Nat × Int) ⊕ List Ev→(Nat × Int) ⊕ (Int × List Acc)
 | .inl e=>.inl e
 | .inr q=>.inr (aW q,Fj c q (aW q))
theorem nX {c:aH} {D:Int}:∀ {l:List Ev} {k:Nat} {p:List Ev},kj p→(∀ x ∈ l,x.day≤D)→cz c D k (aW p) (Fj c p (aW p)) l=Ph c (AD c k p l)
 | [],k,p,_,_=>rfl
 | x :: l,k,p,hm,hd=>by
  rw [cD,if_pos (hd x (by simp)),Hy hm]
  unfold AD
  by_cases h:iH c p x=0
  ·rw [if_pos h,if_pos h]
   dsimp only
   have:=nX (c:=c) (D:=D) (k:=k+1) (qB hm h) fun y hy=>hd y (List.mem_cons_of_mem _ hy)
   rw [lT] at this
   exact this
  ·rw [if_neg h,if_neg h]
   rfl
theorem wM {c:aH}:∀ {l:List Ev} {k:Nat} {p q:List Ev},kj p→AD c k p l=.inr q→q=p++l∧kj q
 | [],k,p,q,hm,h=>by
  cases h
  exact ⟨(List.append_nil _).symm,hm⟩
 | x :: l,k,p,q,hm,h=>by
  unfold AD at h
  split at h
  ·rename_i h1
   obtain ⟨h2,h3⟩:=wM (qB hm h1) h
   exact ⟨by rw [h2];simp,h3⟩
  ·cases h
theorem DM {c:aH}:∀ {l:List Ev} {k n:Nat} {p q:List Ev},AD c k p l=.inr q→∃ q',AD c k p (l.take n)=.inr q'
 | [],k,n,p,q,h=>⟨q,by rw [List.take_nil];exact h⟩
 | x :: l,k,0,p,q,h=>⟨p,rfl⟩
 | x :: l,k,n+1,p,q,h=>by
  unfold AD at h
  rw [List.take_succ_cons]
  unfold AD
  split at h
  ·rename_i h1
   rw [if_pos h1]
   exact DM h
  ·cases h
theorem JD {c:aH} {l:List Ev} (hd:∀ x ∈ l,x.day≤later):Aw c l=if (iD c).2.2 ≠ 0 then (0,(iD c).2.2) else if 20 < l.length then (0,3) else match AD c 0 [] l with
  | .inl p=>((p.1:Int),p.2)
  | .inr _=>(0,0):=by
 unfold Aw
 have:=nX (c:=c) (D:=later) (k:=0) kQ hd
 rw [show aW []=0 from rfl,←tU] at this
 rw [this]
 cases AD c 0 [] l <;> rfl
theorem tY {c:aH} {D:Int}:∀ {l:List Ev} {k:Nat} {d:Int} {ls:List Acc} {q:Int × List Acc},(∀ x ∈ l,x.day≤later)→cz c later k d ls l=.inr q→cz c D k d ls l=cz c D k d ls (dA D l)
 | [],k,d,ls,q,_,_=>rfl
 | x :: l,k,d,ls,q,hm,h=>by
  have hall:=jE hm h
  unfold dA
  rw [List.takeWhile_cons]
  rw [cD,if_pos (hm x (by simp))] at h
  cases he:gF c d ls x with
  | inr e=>rw [he] at h;cases h
  | inl l2 =>
   rw [he] at h
   by_cases hx:x.day≤D
   ·rw [if_pos (decide_eq_true hx),cD,if_pos hx,cD,if_pos hx,he]
    exact tY (fun x hx=>hm x (List.mem_cons_of_mem _ hx)) h
   ·rw [if_neg (by simpa using hx)]
    refine oX fun y hy=>?_
    rcases List.mem_cons.1 hy with rfl|hy
    ·omega
    ·have:=jE (fun x hx=>hm x (List.mem_cons_of_mem _ hx)) h y hy
     omega
theorem MX {c:aH} {l:List Ev} {q:Int × List Acc} (hd:∀ x ∈ l,x.day≤later) (h:cz c later 0 0 (dV c) l=.inr q) {D:Int} (hD:0≤D):kj l∧Fc c l D=(List.range c.ah.length).map fun i=>u7 c l i D:=by
 have h1:=nX (c:=c) (D:=later) (k:=0) kQ hd
 rw [show aW []=0 from rfl,←tU,h] at h1
 cases h2:AD c 0 [] l with
 | inl e=>rw [h2] at h1;cases h1
 | inr p =>
  obtain ⟨h3,h4⟩:=wM kQ h2
  rw [List.nil_append] at h3
  subst h3
  refine ⟨h4,?_⟩
  obtain ⟨q',h5⟩:=DM (n:=dW D p) h2
  rw [oZ] at h5
  obtain ⟨h6,_⟩:=wM kQ h5
  rw [List.nil_append] at h6
  subst h6
  have hU:∀ x ∈ dA D p,x.day≤D:=AA p
  have h7:=nX (c:=c) (D:=D) (k:=0) kQ hU
  rw [show aW []=0 from rfl,←tU,h5,←tY hd h] at h7
  unfold Fc
  rw [h7]
  unfold Ph
  dsimp only
  rw [DK]
  unfold Fj
  apply List.map_congr_left
  intro i _
  exact (Gh h4 hD i).symm
end Go.Proofs.YtgdbfbalchdmcaaGreat
open Go Go.RM
namespace Go.Proofs.YtgdbfbalchdmcaaGreat
set_option maxRecDepth 100000
set_option maxHeartbeats 4000000
theorem Ll (c:aH) (k:Nat) (p:List Ev):AD c k p []=.inr p:=rfl
theorem DN (c:aH) (k:Nat) (p:List Ev) (x:Ev) (l:List Ev):AD c k p (x :: l)=if iH c p x=0 then AD c (k+1) (p++[x]) l else .inl (k,iH c p x):=rfl
theorem DO (one:Bool) (c:aH) (h:c.Ok) (l:List Ev) (f:Bool) (hl:l.length≤maxLen) (hd:∀ x ∈ l,x.day≤later):Pu one 4 [.ag (bh c),.sl (l.map dZ) f] (.tp [ak (Aw c l).1,ak (Aw c l).2]):=by
 have el:((l.map dZ).length:Int)=l.length:=by simp
 have ml:l.length≤9223372036854775807:=Nat.le_trans hl (by simp [maxLen])
 have o1:=yz one c h
 rw [JD hd]
 by_cases c1:(iD c).2.2=0
 ·have hg:=BT c1
  rw [if_neg (by rw [c1];simp)]
  rw [c1] at o1
  have d0:(!decide ((0:Int)=0))=false:=by decide
  generalize (iD c).1=a1 at *
  generalize (iD c).2.1=a2 at *
  by_cases c2:20 < l.length
  ·rw [if_pos c2]
   have d1:decide (20 < ((l.map dZ).length:Int))=true:=decide_eq_true (by omega)
   have d3:(!decide ((3:Int)=0))=true:=by decide
   refine af.body (fn:=Tryz.f4) rfl rfl rfl rfl ?_
   refine aa (mu:=fun _=>false) ?_
   repeat' (first |refine u1 ?_ |((with_reducible show au _ _ _ _ _ _ _ _);refine af.call o1 rfl rfl ?_) |refine u2 ?_ |fail)
   exact ⟨[_,_],⟨Fz.deep rfl,Fz.deep rfl,trivial⟩,rfl⟩
  ·rw [if_neg c2]
   have d1:decide (20 < ((l.map dZ).length:Int))=false:=decide_eq_false (by omega)
   refine af.body (fn:=Tryz.f4) rfl rfl rfl rfl ?_
   refine aa (mu:=fun _=>false) ?_
   repeat' (first |refine u1 ?_ |((with_reducible show au _ _ _ _ _ _ _ _);refine af.call o1 rfl rfl ?_) |refine u2 ?_ |fail)
   refine aG.aU (aj.to (l:=[(1,.sl (l.map dZ) f),(2,.pt (bh c) 0),(8,ak 0),(9,ak (0:Nat))]) (hp:=[]) 0 rfl ⟨rfl,rfl,rfl,rfl,trivial⟩ (Nat.zero_le _) rfl rfl) ?_
   refine aG.loop (fun k:Nat=>k≤l.length∧kj (l.take k)∧AD c 0 [] l=AD c k (l.take k) (l.drop k)) (fun k=>⟨bT [(1,.sl (l.map dZ) f),(2,.pt (bh c) 0),(8,ak 0),(9,ak (k:Nat))],[],bW.none,false,0⟩) (fun k=>l.length - k) ?_ 0 ⟨Nat.zero_le _,kQ,rfl⟩
   rintro k ⟨hk,hmk,hrv⟩
   by_cases hlt:k < l.length
   ·have d2:decide ((k:Int) < ((l.map dZ).length:Int))=true:=decide_eq_true (by omega)
    have hat:(l.map dZ)[((k:Nat):Int).toNat]?=some (dZ l[k]):=bP hlt
    have hsl:=Ff l k
    have hkl:0≤k∧k≤(l.map dZ).length:=⟨Nat.zero_le _,by rw [List.length_map];omega⟩
    have hel:=Fg l
    have htk:l.take (k+1)=l.take k++[l[k]]:=by rw [List.take_add_one,List.getElem?_eq_getElem hlt];rfl
    rw [List.drop_eq_getElem_cons hlt] at hrv
    generalize l[k]=x at *
    have ho:=fun f'=>Jy true c hg (l.take k) f' (by rw [List.length_take];omega) hmk x
    have hmo:iH c (l.take k) x=0→kj (l.take k++[x]):=qB hmk
    rw [DN] at hrv
    by_cases e0:iH c (l.take k) x=0
    ·rw [if_pos e0] at hrv
     have hm':=hmo e0
     rw [←htk] at hrv hm'
     rw [←hsl,e0] at ho
     refine aa (mu:=fun _=>false) ?_
     repeat' (first |(refine ⟨_,ho _,?_⟩) |refine u1 ?_ |((with_reducible show RM.wpOp _ _ (.indexAddr _ _ _) _ _ _);refine ⟨dZ x,⟨by omega,hat⟩,rfl,?_⟩) |(refine ⟨0,k,rfl,rfl,hkl,(by decide),hel,?_⟩) |refine u2 ?_ |fail)
     exact ⟨k+1,⟨hlt,hm',hrv⟩,(by dsimp only;omega),aj.to 0 rfl ⟨rfl,rfl,rfl,aJ (by simp),trivial⟩ (Nat.zero_le _) rfl rfl⟩
    ·rw [if_neg e0] at hrv
     rw [hrv]
     have d4:(!decide (iH c (l.take k) x=0))=true:=by rw [decide_eq_false e0];rfl
     dsimp only
     generalize iH c (l.take k) x=e at *
     rw [←hsl] at ho
     refine aa (mu:=fun _=>false) ?_
     repeat' (first |(refine ⟨_,ho _,?_⟩) |refine u1 ?_ |((with_reducible show RM.wpOp _ _ (.indexAddr _ _ _) _ _ _);refine ⟨dZ x,⟨by omega,hat⟩,rfl,?_⟩) |(refine ⟨0,k,rfl,rfl,hkl,(by decide),hel,?_⟩) |refine u2 ?_ |fail)
     exact ⟨[_,_],⟨Fz.deep rfl,Fz.deep rfl,trivial⟩,rfl⟩
   ·have d2:decide ((k:Int) < ((l.map dZ).length:Int))=false:=decide_eq_false (by omega)
    rw [hrv,List.drop_eq_nil_of_le (by omega)]
    rw [Ll]
    dsimp only
    refine aa (mu:=fun _=>false) ?_
    repeat' (first |refine u1 ?_ |refine u2 ?_ |fail)
    exact ⟨[_,_],⟨Fz.deep rfl,Fz.deep rfl,trivial⟩,rfl⟩
 ·rw [if_pos c1]
  have d1:(!decide ((iD c).2.2=0))=true:=by rw [decide_eq_false c1];rfl
  have d2:=decide_eq_false c1
  generalize (iD c).2.2=e at *
  refine af.body (fn:=Tryz.f4) rfl rfl rfl rfl ?_
  refine aa (mu:=fun _=>false) ?_
  repeat' (first |refine u1 ?_ |((with_reducible show au _ _ _ _ _ _ _ _);refine af.call o1 rfl rfl ?_) |refine u2 ?_ |fail)
  exact ⟨[_,_],⟨Fz.deep rfl,Fz.deep rfl,trivial⟩,rfl⟩
end Go.Proofs.YtgdbfbalchdmcaaGreat
open Go Go.RM
namespace Go.Proofs.YtgdbfbalchdmcaaGreat
set_option maxRecDepth 100000
structure Vd (c:aH) (l:List Ev):Prop where
 good:Good c
 len:l.length≤20
 run:AD c 0 [] l=.inr l
 mono:kj l
theorem MY {c:aH} {l:List Ev} (hd:∀ x ∈ l,x.day≤later) (h:(Aw c l).2=0):Vd c l:=by
 have hcl:=JD (c:=c) hd
 rw [hcl] at h
 split at h
 ·rename_i h1;exact absurd h h1
 ·rename_i h1
  split at h
  ·cases h
  ·rename_i h2
   cases h3:AD c 0 [] l with
   | inl e =>
    rw [h3] at h
    exfalso
    have h4:∀ {l:List Ev} {k:Nat} {p:List Ev} {e:Nat × Int},AD c k p l=.inl e→e.2 ≠ 0:=by
     intro l
     induction l with
     | nil=>intro k p e h;cases h
     | cons x l ih =>
      intro k p e h
      rw [DN] at h
      split at h
      ·exact ih h
      ·rename_i h5
       cases h
       exact h5
    exact h4 h3 h
   | inr q =>
    obtain ⟨h4,h5⟩:=wM kQ h3
    rw [List.nil_append] at h4
    subst h4
    exact ⟨BT (Decidable.not_not.1 h1),by omega,h3,h5⟩
theorem NJ {c:aH} {l:List Ev} (h:Vd c l) {D:Int} (hD:0≤D):Fc c l D=(List.range c.ah.length).map fun i=>u7 c l i D:=by
 have hd:∀ x ∈ l,x.day≤later:=fun x hx=>Int.le_trans (h.mono.day x hx).2 (by decide)
 have h1:=nX (c:=c) (D:=later) (k:=0) kQ hd
 rw [show aW []=0 from rfl,←tU,h.run] at h1
 exact (MX hd h1 hD).2
theorem Mb {c:aH} {l:List Ev} (h:(Aw c l).2=0) {D:Int} (hD:0≤D∧D≤40000):Gf c l D=0:=by
 unfold Gf
 rw [if_neg (by rw [h];simp),bp,bQ.2 hD]
 rfl
end Go.Proofs.YtgdbfbalchdmcaaGreat
