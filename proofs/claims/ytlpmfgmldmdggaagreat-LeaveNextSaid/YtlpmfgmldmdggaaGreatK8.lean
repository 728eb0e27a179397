/-
  Contracts of the program's functions and of the document's. Lemmas alone; their conditions stand in them.
-/
import Derived.Test.YtlpmfgmldmdggaaGreatK7
open Go Go.RM
namespace Go.Proofs.YtlpmfgmldmdggaaGreat
set_option maxRecDepth 100000
set_option maxHeartbeats 4000000
def gK (c:ay) (i:Nat):Int:=if ((c.aO[i]?).map nE.zm).getD false=true then 1 else 0
def eL (x:Ev) (i p:Int):Int :=
 if x.kind=5∧x.other=i then 0 else if x.qp ≠ i then p else if x.kind=1∨x.kind=5 then 1 else if x.kind=3 then 2 else 0
def aB (c:ay) (l:List Ev) (i:Nat):Int:=l.foldl (fun p x=>eL x i p) (gK c i)
def nq (k:Int):Int:=if k=1∨k=5 then 0 else if k=2 then 1 else if k=4 then 2 else -1
theorem hH (c:ay) (l:List Ev) (x:Ev) (i:Nat):aB c (l++[x]) i=eL x i (aB c l i):=by
 unfold aB
 rw [List.foldl_append]
 rfl
theorem Bh (c:ay) {l:List Ev} {k:Nat} (h:k < l.length) (i:Nat):aB c (l.take (k+1)) i=eL l[k] i (aB c (l.take k) i):=by
 rw [List.take_add_one,List.getElem?_eq_getElem h]
 exact hH c _ _ i
theorem G1 (one:Bool) (c:ay) (i:Nat) (hi:i < c.aO.length):Pu one 91 [.ag (aX c),aj (i:Int)] (aj (gK c i)):=by
 have hat:(c.aO.map bG)[((i:Nat):Int).toNat]?=some (bG c.aO[i]):=cM hi
 unfold gK
 rw [List.getElem?_eq_getElem hi]
 simp only [Option.map_some,Option.getD_some]
 generalize c.aO[i]=m at *
 obtain ⟨a,b,d,e⟩:=m
 dsimp only
 cases e
 all_goals refine af.body (fn:=Tryz.f91) rfl rfl rfl rfl ?_
 all_goals refine aa (mu:=fun _=>false) ?_
 ·repeat' (first |refine u1 ?_ |(refine ⟨[ST a,aj b,aj d,BB false],⟨by omega,hat⟩,rfl,?_⟩) |refine u2 ?_ |fail)
  exact ⟨[_],⟨Fz.deep rfl,trivial⟩,rfl⟩
 ·repeat' (first |refine u1 ?_ |(refine ⟨[ST a,aj b,aj d,BB true],⟨by omega,hat⟩,rfl,?_⟩) |refine u2 ?_ |fail)
  exact ⟨[_],⟨Fz.deep rfl,trivial⟩,rfl⟩
theorem G2 (one:Bool) (x:Ev) (i p:Int):Pu one 92 [.ag (cO x),aj i,aj p] (aj (eL x i p)):=by
 obtain ⟨d,k,m,o⟩:=x
 show Pu one 92 [.ag [aj d,aj k,aj m,aj o],aj i,aj p] _
 unfold eL
 dsimp only
 cases h5:decide (k=5) with
 | true =>
  have k5:=of_decide_eq_true h5
  subst k5
  cases h6:decide (o=i) with
  | true =>
   rw [if_pos ⟨rfl,of_decide_eq_true h6⟩]
   refine af.body (fn:=Tryz.f92) rfl rfl rfl rfl ?_
   refine aa (mu:=fun _=>false) ?_
   repeat' (first |refine u1 ?_ |refine u2 ?_ |fail)
   exact ⟨[_],⟨Fz.deep rfl,trivial⟩,rfl⟩
  | false =>
   rw [if_neg (fun h=>of_decide_eq_false h6 h.2)]
   cases h7:decide (m=i) with
   | true =>
    have h7':(!decide (m=i))=false:=by rw [h7];rfl
    rw [if_neg (by simpa using h7),if_pos (.inr rfl)]
    refine af.body (fn:=Tryz.f92) rfl rfl rfl rfl ?_
    refine aa (mu:=fun _=>false) ?_
    repeat' (first |refine u1 ?_ |refine u2 ?_ |fail)
    exact ⟨[_],⟨Fz.deep rfl,trivial⟩,rfl⟩
   | false =>
    have h7':(!decide (m=i))=true:=by rw [h7];rfl
    rw [if_pos (by simpa using h7)]
    refine af.body (fn:=Tryz.f92) rfl rfl rfl rfl ?_
    refine aa (mu:=fun _=>false) ?_
    repeat' (first |refine u1 ?_ |refine u2 ?_ |fail)
    exact ⟨[_],⟨Fz.deep rfl,trivial⟩,rfl⟩
 | false =>
  have k5:=of_decide_eq_false h5
  rw [if_neg (fun h=>k5 h.1)]
  cases h7:decide (m=i) with
  | false =>
   have h7':(!decide (m=i))=true:=by rw [h7];rfl
   rw [if_pos (by simpa using h7)]
   refine af.body (fn:=Tryz.f92) rfl rfl rfl rfl ?_
   refine aa (mu:=fun _=>false) ?_
   repeat' (first |refine u1 ?_ |refine u2 ?_ |fail)
   exact ⟨[_],⟨Fz.deep rfl,trivial⟩,rfl⟩
  | true =>
   have h7':(!decide (m=i))=false:=by rw [h7];rfl
   rw [if_neg (by simpa using h7)]
   cases h8:decide (k=1) with
   | true =>
    rw [if_pos (.inl (of_decide_eq_true h8))]
    refine af.body (fn:=Tryz.f92) rfl rfl rfl rfl ?_
    refine aa (mu:=fun _=>false) ?_
    repeat' (first |refine u1 ?_ |refine u2 ?_ |fail)
    exact ⟨[_],⟨Fz.deep rfl,trivial⟩,rfl⟩
   | false =>
    rw [if_neg (by have:=of_decide_eq_false h8;omega)]
    cases h9:decide (k=3) with
    | true =>
     rw [if_pos (of_decide_eq_true h9)]
     refine af.body (fn:=Tryz.f92) rfl rfl rfl rfl ?_
     refine aa (mu:=fun _=>false) ?_
     repeat' (first |refine u1 ?_ |refine u2 ?_ |fail)
     exact ⟨[_],⟨Fz.deep rfl,trivial⟩,rfl⟩
    | false =>
     rw [if_neg (of_decide_eq_false h9)]
     refine af.body (fn:=Tryz.f92) rfl rfl rfl rfl ?_
     refine aa (mu:=fun _=>false) ?_
     repeat' (first |refine u1 ?_ |refine u2 ?_ |fail)
     exact ⟨[_],⟨Fz.deep rfl,trivial⟩,rfl⟩
theorem oE (one:Bool) (k:Int):Pu one 106 [aj k] (aj (nq k)):=by
 unfold nq
 cases h1:decide (k=1) with
 | true =>
  rw [if_pos (.inl (of_decide_eq_true h1))]
  refine af.body (fn:=Tryz.f106) rfl rfl rfl rfl ?_
  refine aa (mu:=fun _=>false) ?_
  repeat' (first |refine u1 ?_ |refine u2 ?_ |fail)
  exact ⟨[_],⟨Fz.deep rfl,trivial⟩,rfl⟩
 | false =>
  cases h5:decide (k=5) with
  | true =>
   rw [if_pos (.inr (of_decide_eq_true h5))]
   refine af.body (fn:=Tryz.f106) rfl rfl rfl rfl ?_
   refine aa (mu:=fun _=>false) ?_
   repeat' (first |refine u1 ?_ |refine u2 ?_ |fail)
   exact ⟨[_],⟨Fz.deep rfl,trivial⟩,rfl⟩
  | false =>
   rw [if_neg (by have:=of_decide_eq_false h1;have:=of_decide_eq_false h5;omega)]
   cases h2:decide (k=2) with
   | true =>
    rw [if_pos (of_decide_eq_true h2)]
    refine af.body (fn:=Tryz.f106) rfl rfl rfl rfl ?_
    refine aa (mu:=fun _=>false) ?_
    repeat' (first |refine u1 ?_ |refine u2 ?_ |fail)
    exact ⟨[_],⟨Fz.deep rfl,trivial⟩,rfl⟩
   | false =>
    rw [if_neg (of_decide_eq_false h2)]
    cases h4:decide (k=4) with
    | true =>
     rw [if_pos (of_decide_eq_true h4)]
     refine af.body (fn:=Tryz.f106) rfl rfl rfl rfl ?_
     refine aa (mu:=fun _=>false) ?_
     repeat' (first |refine u1 ?_ |refine u2 ?_ |fail)
     exact ⟨[_],⟨Fz.deep rfl,trivial⟩,rfl⟩
    | false =>
     rw [if_neg (of_decide_eq_false h4)]
     refine af.body (fn:=Tryz.f106) rfl rfl rfl rfl ?_
     refine aa (mu:=fun _=>false) ?_
     repeat' (first |refine u1 ?_ |refine u2 ?_ |fail)
     exact ⟨[_],⟨Fz.deep rfl,trivial⟩,rfl⟩
theorem sN (one:Bool) (c:ay) (l:List Ev) (f:Bool) (hl:l.length≤maxLen) (i:Nat) (hi:i < c.aO.length):Pu one 44 [.ag (aX c),.sl (l.map cO) f,aj (i:Int)] (aj (aB c l i)):=by
 have el:((l.map cO).length:Int)=l.length:=by simp
 have ml:l.length≤9223372036854775807:=Nat.le_trans hl (by simp [maxLen])
 have hs:=G1 one c i hi
 refine af.body (fn:=Tryz.f44) rfl rfl rfl rfl ?_
 refine aa (mu:=fun _=>false) ?_
 repeat' (first |refine u1 ?_ |((with_reducible show ah _ _ _ _ _ _ _ _);refine af.call hs rfl rfl ?_) |refine u2 ?_ |fail)
 refine aL.cr (ai.to (l:=[(1,.sl (l.map cO) f),(2,aj (i:Int)),(7,aj (aB c (l.take 0) i)),(8,aj (0:Nat))]) (hp:=[]) 0 rfl ⟨rfl,rfl,rfl,rfl,trivial⟩ (Nat.zero_le _) rfl rfl) ?_
 refine aL.loop (fun k:Nat=>k≤l.length) (fun k=>⟨cz [(1,.sl (l.map cO) f),(2,aj (i:Int)),(7,aj (aB c (l.take k) i)),(8,aj (k:Nat))],[],bF.none,false,0⟩) (fun k=>l.length - k) ?_ 0 (Nat.zero_le _)
 intro k hk
 by_cases hlt:k < l.length
 ·have d1:decide ((k:Int) < ((l.map cO).length:Int))=true:=decide_eq_true (by omega)
  have hat:(l.map cO)[((k:Nat):Int).toNat]?=some (cO l[k]):=cM hlt
  have hp:=Bh c hlt i
  have hm:=G2 one l[k] i (aB c (l.take k) i)
  generalize l[k]=x at *
  refine aa (mu:=fun _=>false) ?_
  repeat' (first |((with_reducible show ah _ _ _ _ _ _ _ _);refine af.call hm rfl rfl ?_) |refine u1 ?_ |((with_reducible show RM.wpOp _ _ (.indexAddr _ _ _) _ _ _);refine ⟨cO x,⟨by omega,hat⟩,rfl,?_⟩) |refine u2 ?_ |fail)
  exact ⟨k+1,hlt,(by dsimp only;omega),ai.to 0 rfl ⟨rfl,rfl,cZ hp.symm,cZ (by simp),trivial⟩ (Nat.zero_le _) rfl rfl⟩
 ·have d1:decide ((k:Int) < ((l.map cO).length:Int))=false:=decide_eq_false (by omega)
  have e:l.take k=l:=List.take_of_length_le (by omega)
  rw [e]
  refine aa (mu:=fun _=>false) ?_
  repeat' (first |refine u1 ?_ |refine u2 ?_ |fail)
  exact ⟨[_],⟨Fz.deep rfl,trivial⟩,rfl⟩
theorem Cr (l:List Ev) (k:Nat):((l.map cO).drop 0).take (k - 0)=(l.take k).map cO:=by rw [List.drop_zero,Nat.sub_zero,List.map_take]
theorem Cs (l:List Ev):∀ el ∈ l.map cO,el.length=4:=fun el hel=>by obtain ⟨x,_,rfl⟩:=List.mem_map.1 hel;rfl
def cu (D:Int) (l:List Ev):List Ev:=l.takeWhile fun x=>decide (x.day≤D)
def cP (D:Int) (l:List Ev):Nat:=(cu D l).length
theorem mw {D:Int}:∀ {l:List Ev} {k:Nat},k≤cP D l→(h:k < l.length)→(k < cP D l ↔ l[k].day≤D)
 | x :: l,k,hk,h=>by
  unfold cP cu at hk ⊢
  rw [List.takeWhile_cons] at hk ⊢
  cases hd:decide (x.day≤D) with
  | false =>
   rw [hd] at hk
   have:k=0:=by simpa using hk
   subst this
   simp only [Bool.false_eq_true,if_false,List.length_nil,Nat.lt_irrefl,List.getElem_cons_zero,false_iff]
   exact of_decide_eq_false hd
  | true =>
   rw [hd] at hk
   simp only [if_true,List.length_cons] at hk ⊢
   cases k with
   | zero=>simpa using of_decide_eq_true hd
   | succ k =>
    have:=mw (D:=D) (l:=l) (k:=k) (by unfold cP cu;omega) (by simpa using h)
    unfold cP cu at this
    simpa using this
theorem FI (D:Int) (l:List Ev):cP D l≤l.length:=(List.takeWhile_prefix _).length_le
theorem ja (D:Int) (l:List Ev):l.take (cP D l)=cu D l:=by
 have:=List.takeWhile_prefix (l:=l) (fun x=>decide (x.day≤D))
 exact (List.prefix_iff_eq_take.1 this).symm
theorem G3 (one:Bool) (l:List Ev) (f:Bool) (hl:l.length≤maxLen) (D:Int):∃ f',Pu one 42 [.sl (l.map cO) f,aj D] (.sl ((cu D l).map cO) f'):=by
 have el:((l.map cO).length:Int)=l.length:=by simp
 have ml:l.length≤9223372036854775807:=Nat.le_trans hl (by simp [maxLen])
 have hu:=FI D l
 refine ⟨f && Nat.beq (cP D l) (l.map cO).length,?_⟩
 refine af.body (fn:=Tryz.f42) rfl rfl rfl rfl ?_
 refine aa (mu:=fun _=>false) ?_
 repeat' (first |refine u1 ?_ |refine u2 ?_ |fail)
 refine aL.cr (ai.to (l:=[(0,.sl (l.map cO) f),(1,aj D),(5,aj (0:Nat))]) (hp:=[]) 0 rfl ⟨rfl,rfl,rfl,trivial⟩ (Nat.zero_le _) rfl rfl) ?_
 refine aL.loop (fun k:Nat=>k≤cP D l) (fun k=>⟨cz [(0,.sl (l.map cO) f),(1,aj D),(5,aj (k:Nat))],[],bF.none,false,0⟩) (fun k=>l.length - k) ?_ 0 (Nat.zero_le _)
 intro k hk
 have hsl:=Cr l k
 have hkl:0≤k∧k≤(l.map cO).length:=⟨Nat.zero_le _,by rw [List.length_map];omega⟩
 have hel:=Cs l
 by_cases hlt:k < l.length
 ·have d1:decide ((k:Int) < ((l.map cO).length:Int))=true:=decide_eq_true (by omega)
  have hat:(l.map cO)[((k:Nat):Int).toNat]?=some (cO l[k]):=cM hlt
  have hw:=mw hk hlt
  have hue:k ≥ cP D l→k=cP D l:=fun h=>by omega
  have htk:=ja D l
  generalize l[k]=x at *
  obtain ⟨d,kk,m,o⟩:=x
  dsimp only at hw
  cases h2:decide (d≤D) with
  | true =>
   have hlt2:=hw.2 (of_decide_eq_true h2)
   refine aa (mu:=fun _=>false) ?_
   repeat' (first |refine u1 ?_ |(refine ⟨[aj d,aj kk,aj m,aj o],⟨by omega,hat⟩,rfl,?_⟩) |refine u2 ?_ |fail)
   exact ⟨k+1,hlt2,(by dsimp only;omega),ai.to 0 rfl ⟨rfl,rfl,cZ (by simp),trivial⟩ (Nat.zero_le _) rfl rfl⟩
  | false =>
   have hke:k=cP D l:=hue (Nat.not_lt.1 fun h=>of_decide_eq_false h2 (hw.1 h))
   rw [←htk,←hke,←hsl]
   refine aa (mu:=fun _=>false) ?_
   repeat' (first |refine u1 ?_ |(refine ⟨[aj d,aj kk,aj m,aj o],⟨by omega,hat⟩,rfl,?_⟩) |(refine ⟨0,k,rfl,rfl,hkl,(by decide),hel,?_⟩) |refine u2 ?_ |fail)
   exact ⟨[_],⟨Fz.deep rfl,trivial⟩,rfl⟩
 ·have d1:decide ((k:Int) < ((l.map cO).length:Int))=false:=decide_eq_false (by omega)
  have htk:=ja D l
  have hke:k=cP D l:=by omega
  rw [←htk,←hke,←hsl]
  refine aa (mu:=fun _=>false) ?_
  repeat' (first |refine u1 ?_ |(refine ⟨0,k,rfl,rfl,hkl,(by decide),hel,?_⟩) |refine u2 ?_ |fail)
  exact ⟨[_],⟨Fz.deep rfl,trivial⟩,rfl⟩
end Go.Proofs.YtlpmfgmldmdggaaGreat
open Go Go.RM
namespace Go.Proofs.YtlpmfgmldmdggaaGreat
set_option maxRecDepth 100000
abbrev D3:=Int × Int × Int
def jb (p x:Int) (d:D3):D3:=if p=0 then (d.1+x,d.2.1,d.2.2) else if p=1 then (d.1,d.2.1+x,d.2.2) else (d.1,d.2.1,d.2.2+x)
def zD (l:List Ev) (day:Int) (j:Nat):Int:=match l[j]? with
 | some x=>min day x.day
 | none=>day
def DZ (c:ay) (l:List Ev) (i:Nat) (day:Int):Nat→Nat→Int→D3→D3
 | 0,_,_,d=>d
 | r+1,j,fr,d=>if fr < day then DZ c l i day r (j+1) (zD l day j) (jb (aB c (l.take j) i) (zD l day j - fr) d) else d
theorem sO (c:ay) (l:List Ev) (i:Nat) (day:Int) (r j:Nat) (fr:Int) (d:D3):DZ c l i day (r+1) j fr d=if fr < day then DZ c l i day r (j+1) (zD l day j) (jb (aB c (l.take j) i) (zD l day j - fr) d) else d:=rfl
def tG (c:ay) (l:List Ev) (i:Nat) (day:Int):D3:=DZ c l i day (l.length+1) 0 0 (0,0,0)
def tH (c:ay) (i:Nat):Int:=((c.aO[i]?).map nE.gI).getD 0
def wo (c:ay) (i:Nat) (d:D3):Int:=tH c i+d.1 * eo c i - d.2.1 * 1000
def sP (c:ay) (l:List Ev) (i:Nat) (day:Int):Acc :=
 ⟨aB c (cu day l) i,wo c i (tG c l i day),(tG c l i day).1,(tG c l i day).2.1,(tG c l i day).2.2⟩
structure jc (l:List Ev):Prop where
 Jw:∀ j (h:j+1 < l.length),l[j].day≤l[j+1].day
 day:∀ x ∈ l,0≤x.day∧x.day≤40000
theorem FJ (x:Ev) (i:Int) {p:Int} (h:p=0∨p=1∨p=2):eL x i p=0∨eL x i p=1∨eL x i p=2:=by
 unfold eL
 split
 ·exact .inl rfl
 ·split
  ·exact h
  ·split
   ·exact .inr (.inl rfl)
   ·split
    ·exact .inr (.inr rfl)
    ·exact .inl rfl
theorem FK (c:ay) (i:Nat):gK c i=0∨gK c i=1∨gK c i=2:=by
 unfold gK
 split
 ·exact .inr (.inl rfl)
 ·exact .inl rfl
theorem FL (i:Int):∀ (l:List Ev) {p:Int},(p=0∨p=1∨p=2)→l.foldl (fun p x=>eL x i p) p=0∨l.foldl (fun p x=>eL x i p) p=1∨l.foldl (fun p x=>eL x i p) p=2
 | [],_,h=>h
 | x :: l,_,h=>FL i l (FJ x i h)
theorem FM (c:ay) (l:List Ev) (i:Nat):aB c l i=0∨aB c l i=1∨aB c l i=2:=FL i l (FK c i)
structure Bi (l:List Ev) (day:Int) (j:Nat) (fr:Int) (d:D3):Prop where
 Ks:0≤fr∧fr≤day
 nn:0≤d.1∧0≤d.2.1∧0≤d.2.2
 sum:d.1+d.2.1+d.2.2=fr
 next:∀ x,l[j]?=some x→fr≤x.day
theorem Hy {l:List Ev} {day:Int} {j:Nat} {fr:Int} {d:D3} (hd:fr < day) (h:Bi l day j fr d):fr≤zD l day j∧zD l day j≤day:=by
 unfold zD
 cases hx:l[j]? with
 | none=>simp only;omega
 | some x =>
  have:=h.next x hx
  simp only
  omega
theorem FN {l:List Ev} (hm:jc l) {day:Int} {j:Nat} {fr:Int} {d:D3} (hd:fr < day) (h:Bi l day j fr d) (p:Int):Bi l day (j+1) (zD l day j) (jb p (zD l day j - fr) d):=by
 have hb:=Hy hd h
 obtain ⟨h1,h2,h3,h4⟩:=h
 refine ⟨by omega,?_,?_,fun x hx=>?_⟩
 ·unfold jb
  split
  ·dsimp only;omega
  ·split <;> (dsimp only;omega)
 ·unfold jb
  split
  ·dsimp only;omega
  ·split <;> (dsimp only;omega)
 ·have hj:=(List.getElem?_eq_some_iff.1 hx).1
  have ha:=hm.Jw j hj
  have hx':l[j+1]=x:=(List.getElem?_eq_some_iff.1 hx).2
  rw [hx'] at ha
  unfold zD
  rw [List.getElem?_eq_getElem (by omega)]
  simp only
  omega
theorem FO {l:List Ev} (hm:jc l) {day:Int} (h0:0≤day):Bi l day 0 0 (0,0,0) :=
 ⟨⟨by omega,h0⟩,⟨by decide,by decide,by decide⟩,rfl,fun x hx=>(hm.day x (List.mem_of_getElem? hx)).1⟩
end Go.Proofs.YtlpmfgmldmdggaaGreat
open Go Go.RM
namespace Go.Proofs.YtlpmfgmldmdggaaGreat
set_option maxRecDepth 100000
set_option maxHeartbeats 4000000
theorem D4 (one:Bool) (c:ay) (hg:Good c) (l:List Ev) (f:Bool) (hl:l.length≤20) (hm:jc l) (i:Nat) (hi:i < c.aO.length) (day:Int) (h0:0≤day) (h4:day≤40000) :
  Pu one 65 [.ag (aX c),.sl (l.map cO) f,aj (i:Int),aj day] (.ag (iz (sP c l i day))):=by
 have el:((l.map cO).length:Int)=l.length:=by simp
 have hmx:l.length≤maxLen:=by simp [maxLen];omega
 have hmat:(c.aO.map bG)[((i:Nat):Int).toNat]?=some (bG c.aO[i]):=cM hi
 have hmb:=hg.qp _ (List.getElem_mem hi)
 obtain ⟨q,hq⟩:∃ q:Nat,c.aO[i].lR=(q:Int):=⟨c.aO[i].lR.toNat,by omega⟩
 have hqr:q < c.az.length:=by omega
 have hrat:(c.az.map bu)[(((q:Nat):Int)).toNat]?=some (bu c.az[q]):=cM hqr
 rw [←hq] at hrat
 have hrb:=(hg.lR _ (List.getElem_mem hqr)).2.2.2
 have he:eo c i=c.az[q].m9:=by
  unfold eo sJ
  rw [List.getElem?_eq_getElem hi]
  simp only [Option.bind_some,hq,Int.toNat_natCast,List.getElem?_eq_getElem hqr,Option.map_some,Option.getD_some]
 have ho:tH c i=c.aO[i].gI:=by unfold tH;rw [List.getElem?_eq_getElem hi];rfl
 rw [←ho] at hmb
 obtain ⟨fu,hun⟩:=G3 true l f hmx day
 have hpu:∀ f',Pu true 44 [.ag (aX c),.sl ((cu day l).map cO) f',aj (i:Int)] (aj (aB c (cu day l) i)):=fun f'=>sN true c _ f' (by rw [←ja,List.length_take];omega) i hi
 have hpf:=hpu fu
 refine af.body (fn:=Tryz.f65) rfl rfl rfl rfl ?_
 refine aa (mu:=fun _=>false) ?_
 repeat' (first |refine u1 ?_ |((with_reducible show RM.wpOp _ _ (.indexAddr _ _ _) _ _ _);refine ⟨bG c.aO[i],⟨by omega,hmat⟩,rfl,?_⟩) |refine u2 ?_ |fail)
 refine aL.cr (ai.to (l:=[(1,.sl (l.map cO) f),(2,aj (i:Int)),(3,aj day),(4,.pt (aX c) 0),(8,.ptr 0 0 0),(9,.ptr 1 0 0),(10,aj 0),(11,aj (0:Nat))]) (hp:=[.cells [aj 0,aj 0,aj 0,aj 0,aj 0] 0 0,.cells [aj 0,aj (tH c i),aj ((0,0,0):D3).1,aj ((0,0,0):D3).2.1,aj ((0,0,0):D3).2.2] 0 0]) 2 (by rw [ho];rfl) ⟨rfl,rfl,rfl,rfl,rfl,rfl,rfl,rfl,trivial⟩ (Nat.zero_le _) rfl rfl) ?_
 refine aL.loop (fun x:Nat × Int × D3=>x.1≤l.length+1∧Bi l day x.1 x.2.1 x.2.2∧tG c l i day=DZ c l i day (l.length+1 - x.1) x.1 x.2.1 x.2.2) (fun x=>⟨cz [(1,.sl (l.map cO) f),(2,aj (i:Int)),(3,aj day),(4,.pt (aX c) 0),(8,.ptr 0 0 0),(9,.ptr 1 0 0),(10,aj x.2.1),(11,aj (x.1:Nat))],[.cells [aj 0,aj 0,aj 0,aj 0,aj 0] 0 0,.cells [aj 0,aj (tH c i),aj x.2.2.1,aj x.2.2.2.1,aj x.2.2.2.2] 0 0],bF.none,false,0⟩) (fun x=>l.length+1 - x.1) ?_ (0,0,(0,0,0)) ⟨Nat.zero_le _,FO hm h0,rfl⟩
 rintro ⟨j,fr,D⟩ ⟨hj,hs,hr⟩
 dsimp only at hj hs hr
 dsimp only
 have hb:=hs.Ks
 have hn:=hs.nn
 have hsm:=hs.sum
 have fin:tG c l i day=D→True:=fun _=>trivial
 by_cases hjl:j≤l.length
 ·have d1:decide ((j:Int)≤((l.map cO).length:Int))=true:=decide_eq_true (by omega)
  rw [show l.length+1 - j=(l.length - j)+1 by omega,sO] at hr
  cases hd:decide (fr < day) with
  | true =>
   have hdl:=of_decide_eq_true hd
   rw [if_pos hdl] at hr
   have hnx:=FN hm hdl hs (aB c (l.take j) i)
   have htb:=Hy hdl hs
   have hpl:∀ f',Pu true 44 [.ag (aX c),.sl ((l.take j).map cO) f',aj (i:Int)] (aj (aB c (l.take j) i)):=fun f'=>sN true c _ f' (by rw [List.length_take];omega) i hi
   rw [←Cr] at hpl
   have hpl:=hpl (f && Nat.beq j (l.map cO).length)
   have hkl:0≤j∧j≤(l.map cO).length:=⟨Nat.zero_le _,by rw [List.length_map];omega⟩
   have hel:=Cs l
   have h3:=FM c (l.take j) i
   clear hun hpu hpf hrat hmat
   rw [show l.length - j=l.length+1 - (j+1) by omega] at hr
   generalize aB c (l.take j) i=p at *
   obtain ⟨D0,D1,D2⟩:=D
   dsimp only at hn hsm hr hnx
   dsimp only
   by_cases hlt:j < l.length
   ·have d2:decide ((j:Int) < ((l.map cO).length:Int))=true:=decide_eq_true (by omega)
    have hat:(l.map cO)[((j:Nat):Int).toNat]?=some (cO l[j]):=cM hlt
    have ht:zD l day j=min day l[j].day:=by unfold zD;rw [List.getElem?_eq_getElem hlt]
    generalize l[j]=x at *
    obtain ⟨xd,xk,xm,xo⟩:=x
    have hat:(l.map cO)[((j:Nat):Int).toNat]?=some [aj xd,aj xk,aj xm,aj xo]:=hat
    dsimp only at ht
    rw [ht] at hr hnx htb
    rcases h3 with rfl|rfl|rfl
    ·have ea:jb 0 (min day xd - fr) (D0,D1,D2)=((D0+min day xd - fr,D1,D2):D3):=by
      unfold jb
      rw [if_pos rfl]
      dsimp only
      rw [show D0+(min day xd - fr)=D0+min day xd - fr by omega]
     rw [ea] at hr hnx
     refine aa (mu:=fun _=>false) ?_
     repeat' (first |(refine ⟨_,_,.inl ⟨rfl,rfl⟩,hpl,?_⟩) |refine u1 ?_ |(refine ⟨[aj xd,aj xk,aj xm,aj xo],⟨by omega,hat⟩,rfl,?_⟩) |(refine ⟨0,j,rfl,rfl,hkl,(by decide),hel,?_⟩) |refine u2 ?_ |fail)
     exact ⟨(j+1,min day xd,(D0+min day xd - fr,D1,D2)),⟨by dsimp only;omega,hnx,hr⟩,(by dsimp only;omega),ai.to 2 rfl ⟨rfl,rfl,rfl,rfl,rfl,rfl,rfl,cZ (by simp),trivial⟩ (Nat.zero_le _) rfl rfl⟩
    ·have ea:jb 1 (min day xd - fr) (D0,D1,D2)=((D0,D1+min day xd - fr,D2):D3):=by
      unfold jb
      rw [if_neg (by decide),if_pos rfl]
      dsimp only
      rw [show D1+(min day xd - fr)=D1+min day xd - fr by omega]
     rw [ea] at hr hnx
     refine aa (mu:=fun _=>false) ?_
     repeat' (first |(refine ⟨_,_,.inl ⟨rfl,rfl⟩,hpl,?_⟩) |refine u1 ?_ |(refine ⟨[aj xd,aj xk,aj xm,aj xo],⟨by omega,hat⟩,rfl,?_⟩) |(refine ⟨0,j,rfl,rfl,hkl,(by decide),hel,?_⟩) |refine u2 ?_ |fail)
     exact ⟨(j+1,min day xd,(D0,D1+min day xd - fr,D2)),⟨by dsimp only;omega,hnx,hr⟩,(by dsimp only;omega),ai.to 2 rfl ⟨rfl,rfl,rfl,rfl,rfl,rfl,rfl,cZ (by simp),trivial⟩ (Nat.zero_le _) rfl rfl⟩
    ·have ea:jb 2 (min day xd - fr) (D0,D1,D2)=((D0,D1,D2+min day xd - fr):D3):=by
      unfold jb
      rw [if_neg (by decide),if_neg (by decide)]
      dsimp only
      rw [show D2+(min day xd - fr)=D2+min day xd - fr by omega]
     rw [ea] at hr hnx
     refine aa (mu:=fun _=>false) ?_
     repeat' (first |(refine ⟨_,_,.inl ⟨rfl,rfl⟩,hpl,?_⟩) |refine u1 ?_ |(refine ⟨[aj xd,aj xk,aj xm,aj xo],⟨by omega,hat⟩,rfl,?_⟩) |(refine ⟨0,j,rfl,rfl,hkl,(by decide),hel,?_⟩) |refine u2 ?_ |fail)
     exact ⟨(j+1,min day xd,(D0,D1,D2+min day xd - fr)),⟨by dsimp only;omega,hnx,hr⟩,(by dsimp only;omega),ai.to 2 rfl ⟨rfl,rfl,rfl,rfl,rfl,rfl,rfl,cZ (by simp),trivial⟩ (Nat.zero_le _) rfl rfl⟩
   ·have d2:decide ((j:Int) < ((l.map cO).length:Int))=false:=decide_eq_false (by omega)
    have ht:zD l day j=day:=by unfold zD;rw [List.getElem?_eq_none (by omega)]
    rw [ht] at hr hnx htb
    rcases h3 with rfl|rfl|rfl
    ·have ea:jb 0 (day - fr) (D0,D1,D2)=((D0+day - fr,D1,D2):D3):=by
      unfold jb
      rw [if_pos rfl]
      dsimp only
      rw [show D0+(day - fr)=D0+day - fr by omega]
     rw [ea] at hr hnx
     refine aa (mu:=fun _=>false) ?_
     repeat' (first |(refine ⟨_,_,.inl ⟨rfl,rfl⟩,hpl,?_⟩) |refine u1 ?_ |(refine ⟨0,j,rfl,rfl,hkl,(by decide),hel,?_⟩) |refine u2 ?_ |fail)
     exact ⟨(j+1,day,(D0+day - fr,D1,D2)),⟨by dsimp only;omega,hnx,hr⟩,(by dsimp only;omega),ai.to 2 rfl ⟨rfl,rfl,rfl,rfl,rfl,rfl,rfl,cZ (by simp),trivial⟩ (Nat.zero_le _) rfl rfl⟩
    ·have ea:jb 1 (day - fr) (D0,D1,D2)=((D0,D1+day - fr,D2):D3):=by
      unfold jb
      rw [if_neg (by decide),if_pos rfl]
      dsimp only
      rw [show D1+(day - fr)=D1+day - fr by omega]
     rw [ea] at hr hnx
     refine aa (mu:=fun _=>false) ?_
     repeat' (first |(refine ⟨_,_,.inl ⟨rfl,rfl⟩,hpl,?_⟩) |refine u1 ?_ |(refine ⟨0,j,rfl,rfl,hkl,(by decide),hel,?_⟩) |refine u2 ?_ |fail)
     exact ⟨(j+1,day,(D0,D1+day - fr,D2)),⟨by dsimp only;omega,hnx,hr⟩,(by dsimp only;omega),ai.to 2 rfl ⟨rfl,rfl,rfl,rfl,rfl,rfl,rfl,cZ (by simp),trivial⟩ (Nat.zero_le _) rfl rfl⟩
    ·have ea:jb 2 (day - fr) (D0,D1,D2)=((D0,D1,D2+day - fr):D3):=by
      unfold jb
      rw [if_neg (by decide),if_neg (by decide)]
      dsimp only
      rw [show D2+(day - fr)=D2+day - fr by omega]
     rw [ea] at hr hnx
     refine aa (mu:=fun _=>false) ?_
     repeat' (first |(refine ⟨_,_,.inl ⟨rfl,rfl⟩,hpl,?_⟩) |refine u1 ?_ |(refine ⟨0,j,rfl,rfl,hkl,(by decide),hel,?_⟩) |refine u2 ?_ |fail)
     exact ⟨(j+1,day,(D0,D1,D2+day - fr)),⟨by dsimp only;omega,hnx,hr⟩,(by dsimp only;omega),ai.to 2 rfl ⟨rfl,rfl,rfl,rfl,rfl,rfl,rfl,cZ (by simp),trivial⟩ (Nat.zero_le _) rfl rfl⟩
  | false =>
   rw [if_neg (of_decide_eq_false hd)] at hr
   have hV:sP c l i day=⟨aB c (cu day l) i,tH c i+D.1 * eo c i - D.2.1 * 1000,D.1,D.2.1,D.2.2⟩:=by
    unfold sP wo
    rw [hr]
   rw [he] at hV
   have h0b:=A9 hn.1 hrb
   generalize c.aO[i]=m at *
   generalize c.az[q]=r at *
   obtain ⟨D0,D1,D2⟩:=D
   dsimp only at hn hsm hV h0b
   dsimp only
   rw [hV]
   refine aa (mu:=fun _=>false) ?_
   repeat' (first |(refine ⟨_,_,.inl ⟨rfl,rfl⟩,hun,?_⟩) |(refine ⟨_,_,.inl ⟨rfl,rfl⟩,hpf,?_⟩) |refine u1 ?_ |((with_reducible show RM.wpOp _ _ (.indexAddr _ _ _) _ _ _);refine ⟨bG m,⟨by omega,hmat⟩,rfl,?_⟩) |((with_reducible show RM.wpOp _ _ (.indexAddr _ _ _) _ _ _);refine ⟨bu r,⟨by omega,hrat⟩,rfl,?_⟩) |refine u2 ?_ |fail)
   exact ⟨[_],⟨Fz.deep rfl,trivial⟩,rfl⟩
 ·have d1:decide ((j:Int)≤((l.map cO).length:Int))=false:=decide_eq_false (by omega)
  rw [show l.length+1 - j=0 by omega] at hr
  have hr:tG c l i day=D:=hr
  have hV:sP c l i day=⟨aB c (cu day l) i,tH c i+D.1 * eo c i - D.2.1 * 1000,D.1,D.2.1,D.2.2⟩:=by
   unfold sP wo
   rw [hr]
  rw [he] at hV
  have h0b:=A9 hn.1 hrb
  generalize c.aO[i]=m at *
  generalize c.az[q]=r at *
  obtain ⟨D0,D1,D2⟩:=D
  dsimp only at hn hsm hV h0b
  dsimp only
  rw [hV]
  refine aa (mu:=fun _=>false) ?_
  repeat' (first |(refine ⟨_,_,.inl ⟨rfl,rfl⟩,hun,?_⟩) |(refine ⟨_,_,.inl ⟨rfl,rfl⟩,hpf,?_⟩) |refine u1 ?_ |((with_reducible show RM.wpOp _ _ (.indexAddr _ _ _) _ _ _);refine ⟨bG m,⟨by omega,hmat⟩,rfl,?_⟩) |((with_reducible show RM.wpOp _ _ (.indexAddr _ _ _) _ _ _);refine ⟨bu r,⟨by omega,hrat⟩,rfl,?_⟩) |refine u2 ?_ |fail)
  exact ⟨[_],⟨Fz.deep rfl,trivial⟩,rfl⟩
end Go.Proofs.YtlpmfgmldmdggaaGreat
