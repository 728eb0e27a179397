/-
  Contracts of the program's functions and of the document's. Lemmas alone; their conditions stand in them.
-/
import Derived.Test.YtgdbfbalchdmcaaGreatK7
open Go Go.RM
namespace Go.Proofs.YtgdbfbalchdmcaaGreat
set_option maxRecDepth 100000
set_option maxHeartbeats 4000000
def nA (c:aH) (i:Nat):Int:=if ((c.ah[i]?).map pO.EZ).getD false=true then 1 else 0
def fO (x:Ev) (i p:Int):Int :=
 if x.kind=5∧x.other=i then 0 else if x.aR ≠ i then p else if x.kind=1∨x.kind=5 then 1 else if x.kind=3 then 2 else 0
def aP (c:aH) (l:List Ev) (i:Nat):Int:=l.foldl (fun p x=>fO x i p) (nA c i)
def oY (k:Int):Int:=if k=1∨k=5 then 0 else if k=2 then 1 else if k=4 then 2 else -1
theorem vQ (c:aH) (l:List Ev) (x:Ev) (i:Nat):aP c (l++[x]) i=fO x i (aP c l i):=by
 unfold aP
 rw [List.foldl_append]
 rfl
theorem DE (c:aH) {l:List Ev} {k:Nat} (h:k < l.length) (i:Nat):aP c (l.take (k+1)) i=fO l[k] i (aP c (l.take k) i):=by
 rw [List.take_add_one,List.getElem?_eq_getElem h]
 exact vQ c _ _ i
theorem K8 (one:Bool) (c:aH) (i:Nat) (hi:i < c.ah.length):Pu one 90 [.ag (bh c),ak (i:Int)] (ak (nA c i)):=by
 have hat:(c.ah.map cL)[((i:Nat):Int).toNat]?=some (cL c.ah[i]):=bP hi
 unfold nA
 rw [List.getElem?_eq_getElem hi]
 simp only [Option.map_some,Option.getD_some]
 generalize c.ah[i]=m at *
 obtain ⟨a,b,d,e⟩:=m
 dsimp only
 cases e
 all_goals refine af.body (fn:=Tryz.f90) rfl rfl rfl rfl ?_
 all_goals refine aa (mu:=fun _=>false) ?_
 ·repeat' (first |refine u1 ?_ |(refine ⟨[ST a,ak b,ak d,BB false],⟨by omega,hat⟩,rfl,?_⟩) |refine u2 ?_ |fail)
  exact ⟨[_],⟨Fz.deep rfl,trivial⟩,rfl⟩
 ·repeat' (first |refine u1 ?_ |(refine ⟨[ST a,ak b,ak d,BB true],⟨by omega,hat⟩,rfl,?_⟩) |refine u2 ?_ |fail)
  exact ⟨[_],⟨Fz.deep rfl,trivial⟩,rfl⟩
theorem K9 (one:Bool) (x:Ev) (i p:Int):Pu one 91 [.ag (dZ x),ak i,ak p] (ak (fO x i p)):=by
 obtain ⟨d,k,m,o⟩:=x
 show Pu one 91 [.ag [ak d,ak k,ak m,ak o],ak i,ak p] _
 unfold fO
 dsimp only
 cases h5:decide (k=5) with
 | true =>
  have k5:=of_decide_eq_true h5
  subst k5
  cases h6:decide (o=i) with
  | true =>
   rw [if_pos ⟨rfl,of_decide_eq_true h6⟩]
   refine af.body (fn:=Tryz.f91) rfl rfl rfl rfl ?_
   refine aa (mu:=fun _=>false) ?_
   repeat' (first |refine u1 ?_ |refine u2 ?_ |fail)
   exact ⟨[_],⟨Fz.deep rfl,trivial⟩,rfl⟩
  | false =>
   rw [if_neg (fun h=>of_decide_eq_false h6 h.2)]
   cases h7:decide (m=i) with
   | true =>
    have h7':(!decide (m=i))=false:=by rw [h7];rfl
    rw [if_neg (by simpa using h7),if_pos (.inr rfl)]
    refine af.body (fn:=Tryz.f91) rfl rfl rfl rfl ?_
    refine aa (mu:=fun _=>false) ?_
    repeat' (first |refine u1 ?_ |refine u2 ?_ |fail)
    exact ⟨[_],⟨Fz.deep rfl,trivial⟩,rfl⟩
   | false =>
    have h7':(!decide (m=i))=true:=by rw [h7];rfl
    rw [if_pos (by simpa using h7)]
    refine af.body (fn:=Tryz.f91) rfl rfl rfl rfl ?_
    refine aa (mu:=fun _=>false) ?_
    repeat' (first |refine u1 ?_ |refine u2 ?_ |fail)
    exact ⟨[_],⟨Fz.deep rfl,trivial⟩,rfl⟩
 | false =>
  have k5:=of_decide_eq_false h5
  rw [if_neg (fun h=>k5 h.1)]
  cases h7:decide (m=i) with
  | false =>
   have h7':(!decide (m=i))=true:=by rw [h7];rfl
   rw [if_pos (by simpa using h7)]
   refine af.body (fn:=Tryz.f91) rfl rfl rfl rfl ?_
   refine aa (mu:=fun _=>false) ?_
   repeat' (first |refine u1 ?_ |refine u2 ?_ |fail)
   exact ⟨[_],⟨Fz.deep rfl,trivial⟩,rfl⟩
  | true =>
   have h7':(!decide (m=i))=false:=by rw [h7];rfl
   rw [if_neg (by simpa using h7)]
   cases h8:decide (k=1) with
   | true =>
    rw [if_pos (.inl (of_decide_eq_true h8))]
    refine af.body (fn:=Tryz.f91) rfl rfl rfl rfl ?_
    refine aa (mu:=fun _=>false) ?_
    repeat' (first |refine u1 ?_ |refine u2 ?_ |fail)
    exact ⟨[_],⟨Fz.deep rfl,trivial⟩,rfl⟩
   | false =>
    rw [if_neg (by have:=of_decide_eq_false h8;omega)]
    cases h9:decide (k=3) with
    | true =>
     rw [if_pos (of_decide_eq_true h9)]
     refine af.body (fn:=Tryz.f91) rfl rfl rfl rfl ?_
     refine aa (mu:=fun _=>false) ?_
     repeat' (first |refine u1 ?_ |refine u2 ?_ |fail)
     exact ⟨[_],⟨Fz.deep rfl,trivial⟩,rfl⟩
    | false =>
     rw [if_neg (of_decide_eq_false h9)]
     refine af.body (fn:=Tryz.f91) rfl rfl rfl rfl ?_
     refine aa (mu:=fun _=>false) ?_
     repeat' (first |refine u1 ?_ |refine u2 ?_ |fail)
     exact ⟨[_],⟨Fz.deep rfl,trivial⟩,rfl⟩
theorem qA (one:Bool) (k:Int):Pu one 50 [ak k] (ak (oY k)):=by
 unfold oY
 cases h1:decide (k=1) with
 | true =>
  rw [if_pos (.inl (of_decide_eq_true h1))]
  refine af.body (fn:=Tryz.f50) rfl rfl rfl rfl ?_
  refine aa (mu:=fun _=>false) ?_
  repeat' (first |refine u1 ?_ |refine u2 ?_ |fail)
  exact ⟨[_],⟨Fz.deep rfl,trivial⟩,rfl⟩
 | false =>
  cases h5:decide (k=5) with
  | true =>
   rw [if_pos (.inr (of_decide_eq_true h5))]
   refine af.body (fn:=Tryz.f50) rfl rfl rfl rfl ?_
   refine aa (mu:=fun _=>false) ?_
   repeat' (first |refine u1 ?_ |refine u2 ?_ |fail)
   exact ⟨[_],⟨Fz.deep rfl,trivial⟩,rfl⟩
  | false =>
   rw [if_neg (by have:=of_decide_eq_false h1;have:=of_decide_eq_false h5;omega)]
   cases h2:decide (k=2) with
   | true =>
    rw [if_pos (of_decide_eq_true h2)]
    refine af.body (fn:=Tryz.f50) rfl rfl rfl rfl ?_
    refine aa (mu:=fun _=>false) ?_
    repeat' (first |refine u1 ?_ |refine u2 ?_ |fail)
    exact ⟨[_],⟨Fz.deep rfl,trivial⟩,rfl⟩
   | false =>
    rw [if_neg (of_decide_eq_false h2)]
    cases h4:decide (k=4) with
    | true =>
     rw [if_pos (of_decide_eq_true h4)]
     refine af.body (fn:=Tryz.f50) rfl rfl rfl rfl ?_
     refine aa (mu:=fun _=>false) ?_
     repeat' (first |refine u1 ?_ |refine u2 ?_ |fail)
     exact ⟨[_],⟨Fz.deep rfl,trivial⟩,rfl⟩
    | false =>
     rw [if_neg (of_decide_eq_false h4)]
     refine af.body (fn:=Tryz.f50) rfl rfl rfl rfl ?_
     refine aa (mu:=fun _=>false) ?_
     repeat' (first |refine u1 ?_ |refine u2 ?_ |fail)
     exact ⟨[_],⟨Fz.deep rfl,trivial⟩,rfl⟩
theorem uZ (one:Bool) (c:aH) (l:List Ev) (f:Bool) (hl:l.length≤maxLen) (i:Nat) (hi:i < c.ah.length):Pu one 49 [.ag (bh c),.sl (l.map dZ) f,ak (i:Int)] (ak (aP c l i)):=by
 have el:((l.map dZ).length:Int)=l.length:=by simp
 have ml:l.length≤9223372036854775807:=Nat.le_trans hl (by simp [maxLen])
 have hs:=K8 one c i hi
 refine af.body (fn:=Tryz.f49) rfl rfl rfl rfl ?_
 refine aa (mu:=fun _=>false) ?_
 repeat' (first |refine u1 ?_ |((with_reducible show au _ _ _ _ _ _ _ _);refine af.call hs rfl rfl ?_) |refine u2 ?_ |fail)
 refine aG.aU (aj.to (l:=[(1,.sl (l.map dZ) f),(2,ak (i:Int)),(7,ak (aP c (l.take 0) i)),(8,ak (0:Nat))]) (hp:=[]) 0 rfl ⟨rfl,rfl,rfl,rfl,trivial⟩ (Nat.zero_le _) rfl rfl) ?_
 refine aG.loop (fun k:Nat=>k≤l.length) (fun k=>⟨bT [(1,.sl (l.map dZ) f),(2,ak (i:Int)),(7,ak (aP c (l.take k) i)),(8,ak (k:Nat))],[],bW.none,false,0⟩) (fun k=>l.length - k) ?_ 0 (Nat.zero_le _)
 intro k hk
 by_cases hlt:k < l.length
 ·have d1:decide ((k:Int) < ((l.map dZ).length:Int))=true:=decide_eq_true (by omega)
  have hat:(l.map dZ)[((k:Nat):Int).toNat]?=some (dZ l[k]):=bP hlt
  have hp:=DE c hlt i
  have hm:=K9 one l[k] i (aP c (l.take k) i)
  generalize l[k]=x at *
  refine aa (mu:=fun _=>false) ?_
  repeat' (first |((with_reducible show au _ _ _ _ _ _ _ _);refine af.call hm rfl rfl ?_) |refine u1 ?_ |((with_reducible show RM.wpOp _ _ (.indexAddr _ _ _) _ _ _);refine ⟨dZ x,⟨by omega,hat⟩,rfl,?_⟩) |refine u2 ?_ |fail)
  exact ⟨k+1,hlt,(by dsimp only;omega),aj.to 0 rfl ⟨rfl,rfl,aJ hp.symm,aJ (by simp),trivial⟩ (Nat.zero_le _) rfl rfl⟩
 ·have d1:decide ((k:Int) < ((l.map dZ).length:Int))=false:=decide_eq_false (by omega)
  have e:l.take k=l:=List.take_of_length_le (by omega)
  rw [e]
  refine aa (mu:=fun _=>false) ?_
  repeat' (first |refine u1 ?_ |refine u2 ?_ |fail)
  exact ⟨[_],⟨Fz.deep rfl,trivial⟩,rfl⟩
theorem Ff (l:List Ev) (k:Nat):((l.map dZ).drop 0).take (k - 0)=(l.take k).map dZ:=by rw [List.drop_zero,Nat.sub_zero,List.map_take]
theorem Fg (l:List Ev):∀ el ∈ l.map dZ,el.length=4:=fun el hel=>by obtain ⟨x,_,rfl⟩:=List.mem_map.1 hel;rfl
def dA (D:Int) (l:List Ev):List Ev:=l.takeWhile fun x=>decide (x.day≤D)
def dW (D:Int) (l:List Ev):Nat:=(dA D l).length
theorem nW {D:Int}:∀ {l:List Ev} {k:Nat},k≤dW D l→(h:k < l.length)→(k < dW D l ↔ l[k].day≤D)
 | x :: l,k,hk,h=>by
  unfold dW dA at hk ⊢
  rw [List.takeWhile_cons] at hk ⊢
  cases hd:decide (x.day≤D) with
  | false =>
   rw [hd] at hk
   have:k=0:=by simpa using hk
   subst this
   simp only [Bool.false_eq_true,if_false,List.length_nil,Nat.lt_irrefl,List.getElem_cons_zero,false_iff]
   exact of_decide_eq_false hd
  | true =>
   rw [hd] at hk
   simp only [if_true,List.length_cons] at hk ⊢
   cases k with
   | zero=>simpa using of_decide_eq_true hd
   | succ k =>
    have:=nW (D:=D) (l:=l) (k:=k) (by unfold dW dA;omega) (by simpa using h)
    unfold dW dA at this
    simpa using this
theorem Jq (D:Int) (l:List Ev):dW D l≤l.length:=(List.takeWhile_prefix _).length_le
theorem oZ (D:Int) (l:List Ev):l.take (dW D l)=dA D l:=by
 have:=List.takeWhile_prefix (l:=l) (fun x=>decide (x.day≤D))
 exact (List.prefix_iff_eq_take.1 this).symm
theorem La (one:Bool) (l:List Ev) (f:Bool) (hl:l.length≤maxLen) (D:Int):∃ f',Pu one 92 [.sl (l.map dZ) f,ak D] (.sl ((dA D l).map dZ) f'):=by
 have el:((l.map dZ).length:Int)=l.length:=by simp
 have ml:l.length≤9223372036854775807:=Nat.le_trans hl (by simp [maxLen])
 have hu:=Jq D l
 refine ⟨f && Nat.beq (dW D l) (l.map dZ).length,?_⟩
 refine af.body (fn:=Tryz.f92) rfl rfl rfl rfl ?_
 refine aa (mu:=fun _=>false) ?_
 repeat' (first |refine u1 ?_ |refine u2 ?_ |fail)
 refine aG.aU (aj.to (l:=[(0,.sl (l.map dZ) f),(1,ak D),(5,ak (0:Nat))]) (hp:=[]) 0 rfl ⟨rfl,rfl,rfl,trivial⟩ (Nat.zero_le _) rfl rfl) ?_
 refine aG.loop (fun k:Nat=>k≤dW D l) (fun k=>⟨bT [(0,.sl (l.map dZ) f),(1,ak D),(5,ak (k:Nat))],[],bW.none,false,0⟩) (fun k=>l.length - k) ?_ 0 (Nat.zero_le _)
 intro k hk
 have hsl:=Ff l k
 have hkl:0≤k∧k≤(l.map dZ).length:=⟨Nat.zero_le _,by rw [List.length_map];omega⟩
 have hel:=Fg l
 by_cases hlt:k < l.length
 ·have d1:decide ((k:Int) < ((l.map dZ).length:Int))=true:=decide_eq_true (by omega)
  have hat:(l.map dZ)[((k:Nat):Int).toNat]?=some (dZ l[k]):=bP hlt
  have hw:=nW hk hlt
  have hue:k ≥ dW D l→k=dW D l:=fun h=>by omega
  have htk:=oZ D l
  generalize l[k]=x at *
  obtain ⟨d,kk,m,o⟩:=x
  dsimp only at hw
  cases h2:decide (d≤D) with
  | true =>
   have hlt2:=hw.2 (of_decide_eq_true h2)
   refine aa (mu:=fun _=>false) ?_
   repeat' (first |refine u1 ?_ |(refine ⟨[ak d,ak kk,ak m,ak o],⟨by omega,hat⟩,rfl,?_⟩) |refine u2 ?_ |fail)
   exact ⟨k+1,hlt2,(by dsimp only;omega),aj.to 0 rfl ⟨rfl,rfl,aJ (by simp),trivial⟩ (Nat.zero_le _) rfl rfl⟩
  | false =>
   have hke:k=dW D l:=hue (Nat.not_lt.1 fun h=>of_decide_eq_false h2 (hw.1 h))
   rw [←htk,←hke,←hsl]
   refine aa (mu:=fun _=>false) ?_
   repeat' (first |refine u1 ?_ |(refine ⟨[ak d,ak kk,ak m,ak o],⟨by omega,hat⟩,rfl,?_⟩) |(refine ⟨0,k,rfl,rfl,hkl,(by decide),hel,?_⟩) |refine u2 ?_ |fail)
   exact ⟨[_],⟨Fz.deep rfl,trivial⟩,rfl⟩
 ·have d1:decide ((k:Int) < ((l.map dZ).length:Int))=false:=decide_eq_false (by omega)
  have htk:=oZ D l
  have hke:k=dW D l:=by omega
  rw [←htk,←hke,←hsl]
  refine aa (mu:=fun _=>false) ?_
  repeat' (first |refine u1 ?_ |(refine ⟨0,k,rfl,rfl,hkl,(by decide),hel,?_⟩) |refine u2 ?_ |fail)
  exact ⟨[_],⟨Fz.deep rfl,trivial⟩,rfl⟩
end Go.Proofs.YtgdbfbalchdmcaaGreat
open Go Go.RM
namespace Go.Proofs.YtgdbfbalchdmcaaGreat
set_option maxRecDepth 100000
abbrev D3:=Int × Int × Int
def ki (p x:Int) (d:D3):D3:=if p=0 then (d.1+x,d.2.1,d.2.2) else if p=1 then (d.1,d.2.1+x,d.2.2) else (d.1,d.2.1,d.2.2+x)
def Ce (l:List Ev) (day:Int) (j:Nat):Int:=match l[j]? with
 | some x=>min day x.day
 | none=>day
def Ht (c:aH) (l:List Ev) (i:Nat) (day:Int):Nat→Nat→Int→D3→D3
 | 0,_,_,d=>d
 | r+1,j,fr,d=>if fr < day then Ht c l i day r (j+1) (Ce l day j) (ki (aP c (l.take j) i) (Ce l day j - fr) d) else d
theorem u6 (c:aH) (l:List Ev) (i:Nat) (day:Int) (r j:Nat) (fr:Int) (d:D3):Ht c l i day (r+1) j fr d=if fr < day then Ht c l i day r (j+1) (Ce l day j) (ki (aP c (l.take j) i) (Ce l day j - fr) d) else d:=rfl
def vR (c:aH) (l:List Ev) (i:Nat) (day:Int):D3:=Ht c l i day (l.length+1) 0 0 (0,0,0)
def vS (c:aH) (i:Nat):Int:=((c.ah[i]?).map pO.i4).getD 0
def yK (c:aH) (i:Nat) (d:D3):Int:=vS c i+d.1 * fy c i - d.2.1 * 1000
def u7 (c:aH) (l:List Ev) (i:Nat) (day:Int):Acc :=
 ⟨aP c (dA day l) i,yK c i (vR c l i day),(vR c l i day).1,(vR c l i day).2.1,(vR c l i day).2.2⟩
structure kj (l:List Ev):Prop where
 OH:∀ j (h:j+1 < l.length),l[j].day≤l[j+1].day
 day:∀ x ∈ l,0≤x.day∧x.day≤40000
theorem Jr (x:Ev) (i:Int) {p:Int} (h:p=0∨p=1∨p=2):fO x i p=0∨fO x i p=1∨fO x i p=2:=by
 unfold fO
 split
 ·exact .inl rfl
 ·split
  ·exact h
  ·split
   ·exact .inr (.inl rfl)
   ·split
    ·exact .inr (.inr rfl)
    ·exact .inl rfl
theorem Js (c:aH) (i:Nat):nA c i=0∨nA c i=1∨nA c i=2:=by
 unfold nA
 split
 ·exact .inr (.inl rfl)
 ·exact .inl rfl
theorem Jt (i:Int):∀ (l:List Ev) {p:Int},(p=0∨p=1∨p=2)→l.foldl (fun p x=>fO x i p) p=0∨l.foldl (fun p x=>fO x i p) p=1∨l.foldl (fun p x=>fO x i p) p=2
 | [],_,h=>h
 | x :: l,_,h=>Jt i l (Jr x i h)
theorem Ju (c:aH) (l:List Ev) (i:Nat):aP c l i=0∨aP c l i=1∨aP c l i=2:=Jt i l (Js c i)
structure DF (l:List Ev) (day:Int) (j:Nat) (fr:Int) (d:D3):Prop where
 PN:0≤fr∧fr≤day
 nn:0≤d.1∧0≤d.2.1∧0≤d.2.2
 sum:d.1+d.2.1+d.2.2=fr
 next:∀ x,l[j]?=some x→fr≤x.day
theorem L8 {l:List Ev} {day:Int} {j:Nat} {fr:Int} {d:D3} (hd:fr < day) (h:DF l day j fr d):fr≤Ce l day j∧Ce l day j≤day:=by
 unfold Ce
 cases hx:l[j]? with
 | none=>simp only;omega
 | some x =>
  have:=h.next x hx
  simp only
  omega
theorem Jv {l:List Ev} (hm:kj l) {day:Int} {j:Nat} {fr:Int} {d:D3} (hd:fr < day) (h:DF l day j fr d) (p:Int):DF l day (j+1) (Ce l day j) (ki p (Ce l day j - fr) d):=by
 have hb:=L8 hd h
 obtain ⟨h1,h2,h3,h4⟩:=h
 refine ⟨by omega,?_,?_,fun x hx=>?_⟩
 ·unfold ki
  split
  ·dsimp only;omega
  ·split <;> (dsimp only;omega)
 ·unfold ki
  split
  ·dsimp only;omega
  ·split <;> (dsimp only;omega)
 ·have hj:=(List.getElem?_eq_some_iff.1 hx).1
  have ha:=hm.OH j hj
  have hx':l[j+1]=x:=(List.getElem?_eq_some_iff.1 hx).2
  rw [hx'] at ha
  unfold Ce
  rw [List.getElem?_eq_getElem (by omega)]
  simp only
  omega
theorem Jw {l:List Ev} (hm:kj l) {day:Int} (h0:0≤day):DF l day 0 0 (0,0,0) :=
 ⟨⟨by omega,h0⟩,⟨by decide,by decide,by decide⟩,rfl,fun x hx=>(hm.day x (List.mem_of_getElem? hx)).1⟩
end Go.Proofs.YtgdbfbalchdmcaaGreat
open Go Go.RM
namespace Go.Proofs.YtgdbfbalchdmcaaGreat
set_option maxRecDepth 100000
set_option maxHeartbeats 4000000
theorem Hu (one:Bool) (c:aH) (hg:Good c) (l:List Ev) (f:Bool) (hl:l.length≤20) (hm:kj l) (i:Nat) (hi:i < c.ah.length) (day:Int) (h0:0≤day) (h4:day≤40000) :
  Pu one 51 [.ag (bh c),.sl (l.map dZ) f,ak (i:Int),ak day] (.ag (jH (u7 c l i day))):=by
 have el:((l.map dZ).length:Int)=l.length:=by simp
 have hmx:l.length≤maxLen:=by simp [maxLen];omega
 have hmat:(c.ah.map cL)[((i:Nat):Int).toNat]?=some (cL c.ah[i]):=bP hi
 have hmb:=hg.aR _ (List.getElem_mem hi)
 obtain ⟨q,hq⟩:∃ q:Nat,c.ah[i].ny=(q:Int):=⟨c.ah[i].ny.toNat,by omega⟩
 have hqr:q < c.aI.length:=by omega
 have hrat:(c.aI.map cm)[(((q:Nat):Int)).toNat]?=some (cm c.aI[q]):=bP hqr
 rw [←hq] at hrat
 have hrb:=(hg.ny _ (List.getElem_mem hqr)).2.2.2
 have he:fy c i=c.aI[q].oS:=by
  unfold fy uV
  rw [List.getElem?_eq_getElem hi]
  simp only [Option.bind_some,hq,Int.toNat_natCast,List.getElem?_eq_getElem hqr,Option.map_some,Option.getD_some]
 have ho:vS c i=c.ah[i].i4:=by unfold vS;rw [List.getElem?_eq_getElem hi];rfl
 rw [←ho] at hmb
 obtain ⟨fu,hun⟩:=La true l f hmx day
 have hpu:∀ f',Pu true 49 [.ag (bh c),.sl ((dA day l).map dZ) f',ak (i:Int)] (ak (aP c (dA day l) i)):=fun f'=>uZ true c _ f' (by rw [←oZ,List.length_take];omega) i hi
 have hpf:=hpu fu
 refine af.body (fn:=Tryz.f51) rfl rfl rfl rfl ?_
 refine aa (mu:=fun _=>false) ?_
 repeat' (first |refine u1 ?_ |((with_reducible show RM.wpOp _ _ (.indexAddr _ _ _) _ _ _);refine ⟨cL c.ah[i],⟨by omega,hmat⟩,rfl,?_⟩) |refine u2 ?_ |fail)
 refine aG.aU (aj.to (l:=[(1,.sl (l.map dZ) f),(2,ak (i:Int)),(3,ak day),(4,.pt (bh c) 0),(8,.ptr 0 0 0),(9,.ptr 1 0 0),(10,ak 0),(11,ak (0:Nat))]) (hp:=[.cells [ak 0,ak 0,ak 0,ak 0,ak 0] 0 0,.cells [ak 0,ak (vS c i),ak ((0,0,0):D3).1,ak ((0,0,0):D3).2.1,ak ((0,0,0):D3).2.2] 0 0]) 2 (by rw [ho];rfl) ⟨rfl,rfl,rfl,rfl,rfl,rfl,rfl,rfl,trivial⟩ (Nat.zero_le _) rfl rfl) ?_
 refine aG.loop (fun x:Nat × Int × D3=>x.1≤l.length+1∧DF l day x.1 x.2.1 x.2.2∧vR c l i day=Ht c l i day (l.length+1 - x.1) x.1 x.2.1 x.2.2) (fun x=>⟨bT [(1,.sl (l.map dZ) f),(2,ak (i:Int)),(3,ak day),(4,.pt (bh c) 0),(8,.ptr 0 0 0),(9,.ptr 1 0 0),(10,ak x.2.1),(11,ak (x.1:Nat))],[.cells [ak 0,ak 0,ak 0,ak 0,ak 0] 0 0,.cells [ak 0,ak (vS c i),ak x.2.2.1,ak x.2.2.2.1,ak x.2.2.2.2] 0 0],bW.none,false,0⟩) (fun x=>l.length+1 - x.1) ?_ (0,0,(0,0,0)) ⟨Nat.zero_le _,Jw hm h0,rfl⟩
 rintro ⟨j,fr,D⟩ ⟨hj,hs,hr⟩
 dsimp only at hj hs hr
 dsimp only
 have hb:=hs.PN
 have hn:=hs.nn
 have hsm:=hs.sum
 have fin:vR c l i day=D→True:=fun _=>trivial
 by_cases hjl:j≤l.length
 ·have d1:decide ((j:Int)≤((l.map dZ).length:Int))=true:=decide_eq_true (by omega)
  rw [show l.length+1 - j=(l.length - j)+1 by omega,u6] at hr
  cases hd:decide (fr < day) with
  | true =>
   have hdl:=of_decide_eq_true hd
   rw [if_pos hdl] at hr
   have hnx:=Jv hm hdl hs (aP c (l.take j) i)
   have htb:=L8 hdl hs
   have hpl:∀ f',Pu true 49 [.ag (bh c),.sl ((l.take j).map dZ) f',ak (i:Int)] (ak (aP c (l.take j) i)):=fun f'=>uZ true c _ f' (by rw [List.length_take];omega) i hi
   rw [←Ff] at hpl
   have hpl:=hpl (f && Nat.beq j (l.map dZ).length)
   have hkl:0≤j∧j≤(l.map dZ).length:=⟨Nat.zero_le _,by rw [List.length_map];omega⟩
   have hel:=Fg l
   have h3:=Ju c (l.take j) i
   clear hun hpu hpf hrat hmat
   rw [show l.length - j=l.length+1 - (j+1) by omega] at hr
   generalize aP c (l.take j) i=p at *
   obtain ⟨D0,D1,D2⟩:=D
   dsimp only at hn hsm hr hnx
   dsimp only
   by_cases hlt:j < l.length
   ·have d2:decide ((j:Int) < ((l.map dZ).length:Int))=true:=decide_eq_true (by omega)
    have hat:(l.map dZ)[((j:Nat):Int).toNat]?=some (dZ l[j]):=bP hlt
    have ht:Ce l day j=min day l[j].day:=by unfold Ce;rw [List.getElem?_eq_getElem hlt]
    generalize l[j]=x at *
    obtain ⟨xd,xk,xm,xo⟩:=x
    have hat:(l.map dZ)[((j:Nat):Int).toNat]?=some [ak xd,ak xk,ak xm,ak xo]:=hat
    dsimp only at ht
    rw [ht] at hr hnx htb
    rcases h3 with rfl|rfl|rfl
    ·have ea:ki 0 (min day xd - fr) (D0,D1,D2)=((D0+min day xd - fr,D1,D2):D3):=by
      unfold ki
      rw [if_pos rfl]
      dsimp only
      rw [show D0+(min day xd - fr)=D0+min day xd - fr by omega]
     rw [ea] at hr hnx
     refine aa (mu:=fun _=>false) ?_
     repeat' (first |(refine ⟨_,_,.inl ⟨rfl,rfl⟩,hpl,?_⟩) |refine u1 ?_ |(refine ⟨[ak xd,ak xk,ak xm,ak xo],⟨by omega,hat⟩,rfl,?_⟩) |(refine ⟨0,j,rfl,rfl,hkl,(by decide),hel,?_⟩) |refine u2 ?_ |fail)
     exact ⟨(j+1,min day xd,(D0+min day xd - fr,D1,D2)),⟨by dsimp only;omega,hnx,hr⟩,(by dsimp only;omega),aj.to 2 rfl ⟨rfl,rfl,rfl,rfl,rfl,rfl,rfl,aJ (by simp),trivial⟩ (Nat.zero_le _) rfl rfl⟩
    ·have ea:ki 1 (min day xd - fr) (D0,D1,D2)=((D0,D1+min day xd - fr,D2):D3):=by
      unfold ki
      rw [if_neg (by decide),if_pos rfl]
      dsimp only
      rw [show D1+(min day xd - fr)=D1+min day xd - fr by omega]
     rw [ea] at hr hnx
     refine aa (mu:=fun _=>false) ?_
     repeat' (first |(refine ⟨_,_,.inl ⟨rfl,rfl⟩,hpl,?_⟩) |refine u1 ?_ |(refine ⟨[ak xd,ak xk,ak xm,ak xo],⟨by omega,hat⟩,rfl,?_⟩) |(refine ⟨0,j,rfl,rfl,hkl,(by decide),hel,?_⟩) |refine u2 ?_ |fail)
     exact ⟨(j+1,min day xd,(D0,D1+min day xd - fr,D2)),⟨by dsimp only;omega,hnx,hr⟩,(by dsimp only;omega),aj.to 2 rfl ⟨rfl,rfl,rfl,rfl,rfl,rfl,rfl,aJ (by simp),trivial⟩ (Nat.zero_le _) rfl rfl⟩
    ·have ea:ki 2 (min day xd - fr) (D0,D1,D2)=((D0,D1,D2+min day xd - fr):D3):=by
      unfold ki
      rw [if_neg (by decide),if_neg (by decide)]
      dsimp only
      rw [show D2+(min day xd - fr)=D2+min day xd - fr by omega]
     rw [ea] at hr hnx
     refine aa (mu:=fun _=>false) ?_
     repeat' (first |(refine ⟨_,_,.inl ⟨rfl,rfl⟩,hpl,?_⟩) |refine u1 ?_ |(refine ⟨[ak xd,ak xk,ak xm,ak xo],⟨by omega,hat⟩,rfl,?_⟩) |(refine ⟨0,j,rfl,rfl,hkl,(by decide),hel,?_⟩) |refine u2 ?_ |fail)
     exact ⟨(j+1,min day xd,(D0,D1,D2+min day xd - fr)),⟨by dsimp only;omega,hnx,hr⟩,(by dsimp only;omega),aj.to 2 rfl ⟨rfl,rfl,rfl,rfl,rfl,rfl,rfl,aJ (by simp),trivial⟩ (Nat.zero_le _) rfl rfl⟩
   ·have d2:decide ((j:Int) < ((l.map dZ).length:Int))=false:=decide_eq_false (by omega)
    have ht:Ce l day j=day:=by unfold Ce;rw [List.getElem?_eq_none (by omega)]
    rw [ht] at hr hnx htb
    rcases h3 with rfl|rfl|rfl
    ·have ea:ki 0 (day - fr) (D0,D1,D2)=((D0+day - fr,D1,D2):D3):=by
      unfold ki
      rw [if_pos rfl]
      dsimp only
      rw [show D0+(day - fr)=D0+day - fr by omega]
     rw [ea] at hr hnx
     refine aa (mu:=fun _=>false) ?_
     repeat' (first |(refine ⟨_,_,.inl ⟨rfl,rfl⟩,hpl,?_⟩) |refine u1 ?_ |(refine ⟨0,j,rfl,rfl,hkl,(by decide),hel,?_⟩) |refine u2 ?_ |fail)
     exact ⟨(j+1,day,(D0+day - fr,D1,D2)),⟨by dsimp only;omega,hnx,hr⟩,(by dsimp only;omega),aj.to 2 rfl ⟨rfl,rfl,rfl,rfl,rfl,rfl,rfl,aJ (by simp),trivial⟩ (Nat.zero_le _) rfl rfl⟩
    ·have ea:ki 1 (day - fr) (D0,D1,D2)=((D0,D1+day - fr,D2):D3):=by
      unfold ki
      rw [if_neg (by decide),if_pos rfl]
      dsimp only
      rw [show D1+(day - fr)=D1+day - fr by omega]
     rw [ea] at hr hnx
     refine aa (mu:=fun _=>false) ?_
     repeat' (first |(refine ⟨_,_,.inl ⟨rfl,rfl⟩,hpl,?_⟩) |refine u1 ?_ |(refine ⟨0,j,rfl,rfl,hkl,(by decide),hel,?_⟩) |refine u2 ?_ |fail)
     exact ⟨(j+1,day,(D0,D1+day - fr,D2)),⟨by dsimp only;omega,hnx,hr⟩,(by dsimp only;omega),aj.to 2 rfl ⟨rfl,rfl,rfl,rfl,rfl,rfl,rfl,aJ (by simp),trivial⟩ (Nat.zero_le _) rfl rfl⟩
    ·have ea:ki 2 (day - fr) (D0,D1,D2)=((D0,D1,D2+day - fr):D3):=by
      unfold ki
      rw [if_neg (by decide),if_neg (by decide)]
      dsimp only
      rw [show D2+(day - fr)=D2+day - fr by omega]
     rw [ea] at hr hnx
     refine aa (mu:=fun _=>false) ?_
     repeat' (first |(refine ⟨_,_,.inl ⟨rfl,rfl⟩,hpl,?_⟩) |refine u1 ?_ |(refine ⟨0,j,rfl,rfl,hkl,(by decide),hel,?_⟩) |refine u2 ?_ |fail)
     exact ⟨(j+1,day,(D0,D1,D2+day - fr)),⟨by dsimp only;omega,hnx,hr⟩,(by dsimp only;omega),aj.to 2 rfl ⟨rfl,rfl,rfl,rfl,rfl,rfl,rfl,aJ (by simp),trivial⟩ (Nat.zero_le _) rfl rfl⟩
  | false =>
   rw [if_neg (of_decide_eq_false hd)] at hr
   have hV:u7 c l i day=⟨aP c (dA day l) i,vS c i+D.1 * fy c i - D.2.1 * 1000,D.1,D.2.1,D.2.2⟩:=by
    unfold u7 yK
    rw [hr]
   rw [he] at hV
   have h0b:=Dx hn.1 hrb
   generalize c.ah[i]=m at *
   generalize c.aI[q]=r at *
   obtain ⟨D0,D1,D2⟩:=D
   dsimp only at hn hsm hV h0b
   dsimp only
   rw [hV]
   refine aa (mu:=fun _=>false) ?_
   repeat' (first |(refine ⟨_,_,.inl ⟨rfl,rfl⟩,hun,?_⟩) |(refine ⟨_,_,.inl ⟨rfl,rfl⟩,hpf,?_⟩) |refine u1 ?_ |((with_reducible show RM.wpOp _ _ (.indexAddr _ _ _) _ _ _);refine ⟨cL m,⟨by omega,hmat⟩,rfl,?_⟩) |((with_reducible show RM.wpOp _ _ (.indexAddr _ _ _) _ _ _);refine ⟨cm r,⟨by omega,hrat⟩,rfl,?_⟩) |refine u2 ?_ |fail)
   exact ⟨[_],⟨Fz.deep rfl,trivial⟩,rfl⟩
 ·have d1:decide ((j:Int)≤((l.map dZ).length:Int))=false:=decide_eq_false (by omega)
  rw [show l.length+1 - j=0 by omega] at hr
  have hr:vR c l i day=D:=hr
  have hV:u7 c l i day=⟨aP c (dA day l) i,vS c i+D.1 * fy c i - D.2.1 * 1000,D.1,D.2.1,D.2.2⟩:=by
   unfold u7 yK
   rw [hr]
  rw [he] at hV
  have h0b:=Dx hn.1 hrb
  generalize c.ah[i]=m at *
  generalize c.aI[q]=r at *
  obtain ⟨D0,D1,D2⟩:=D
  dsimp only at hn hsm hV h0b
  dsimp only
  rw [hV]
  refine aa (mu:=fun _=>false) ?_
  repeat' (first |(refine ⟨_,_,.inl ⟨rfl,rfl⟩,hun,?_⟩) |(refine ⟨_,_,.inl ⟨rfl,rfl⟩,hpf,?_⟩) |refine u1 ?_ |((with_reducible show RM.wpOp _ _ (.indexAddr _ _ _) _ _ _);refine ⟨cL m,⟨by omega,hmat⟩,rfl,?_⟩) |((with_reducible show RM.wpOp _ _ (.indexAddr _ _ _) _ _ _);refine ⟨cm r,⟨by omega,hrat⟩,rfl,?_⟩) |refine u2 ?_ |fail)
  exact ⟨[_],⟨Fz.deep rfl,trivial⟩,rfl⟩
end Go.Proofs.YtgdbfbalchdmcaaGreat
