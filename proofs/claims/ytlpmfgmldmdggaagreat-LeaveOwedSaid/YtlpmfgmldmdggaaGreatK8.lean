/-
  Contracts of the program's functions and of the document's. Lemmas alone; their conditions stand in them.
-/
import Derived.Test.YtlpmfgmldmdggaaGreatK7
open Go Go.RM
namespace Go.Proofs.YtlpmfgmldmdggaaGreat
set_option maxRecDepth 100000
set_option maxHeartbeats 4000000
def l7 (c:ay) (i:Nat):Int:=if ((c.aG[i]?).map nQ.Dc).getD false=true then 1 else 0
def eU (x:Ev) (i p:Int):Int :=
 if x.kind=5∧x.other=i then 0 else if x.qT ≠ i then p else if x.kind=1∨x.kind=5 then 1 else if x.kind=3 then 2 else 0
def aD (c:ay) (l:List Ev) (i:Nat):Int:=l.foldl (fun p x=>eU x i p) (l7 c i)
def nF (k:Int):Int:=if k=1∨k=5 then 0 else if k=2 then 1 else if k=4 then 2 else -1
theorem uz (c:ay) (l:List Ev) (x:Ev) (i:Nat):aD c (l++[x]) i=eU x i (aD c l i):=by
 unfold aD
 rw [List.foldl_append]
 rfl
theorem Ca (c:ay) {l:List Ev} {k:Nat} (h:k < l.length) (i:Nat):aD c (l.take (k+1)) i=eU l[k] i (aD c (l.take k) i):=by
 rw [List.take_add_one,List.getElem?_eq_getElem h]
 exact uz c _ _ i
theorem IB (one:Bool) (c:ay) (i:Nat) (hi:i < c.aG.length):Pu one 91 [.ag (aF c),ah (i:Int)] (ah (l7 c i)):=by
 have hat:(c.aG.map bp)[((i:Nat):Int).toNat]?=some (bp c.aG[i]):=bG hi
 unfold l7
 rw [List.getElem?_eq_getElem hi]
 simp only [Option.map_some,Option.getD_some]
 generalize c.aG[i]=m at *
 obtain ⟨a,b,d,e⟩:=m
 dsimp only
 cases e
 all_goals refine af.body (fn:=Tryz.f91) rfl rfl rfl rfl ?_
 all_goals refine aa (mu:=fun _=>false) ?_
 ·repeat' (first |refine u1 ?_ |(refine ⟨[ST a,ah b,ah d,BB false],⟨by omega,hat⟩,rfl,?_⟩) |refine u2 ?_ |fail)
  exact ⟨[_],⟨Fz.deep rfl,trivial⟩,rfl⟩
 ·repeat' (first |refine u1 ?_ |(refine ⟨[ST a,ah b,ah d,BB true],⟨by omega,hat⟩,rfl,?_⟩) |refine u2 ?_ |fail)
  exact ⟨[_],⟨Fz.deep rfl,trivial⟩,rfl⟩
theorem IC (one:Bool) (x:Ev) (i p:Int):Pu one 92 [.ag (cZ x),ah i,ah p] (ah (eU x i p)):=by
 obtain ⟨d,k,m,o⟩:=x
 show Pu one 92 [.ag [ah d,ah k,ah m,ah o],ah i,ah p] _
 unfold eU
 dsimp only
 cases h5:decide (k=5) with
 | true =>
  have k5:=of_decide_eq_true h5
  subst k5
  cases h6:decide (o=i) with
  | true =>
   rw [if_pos ⟨rfl,of_decide_eq_true h6⟩]
   refine af.body (fn:=Tryz.f92) rfl rfl rfl rfl ?_
   refine aa (mu:=fun _=>false) ?_
   repeat' (first |refine u1 ?_ |refine u2 ?_ |fail)
   exact ⟨[_],⟨Fz.deep rfl,trivial⟩,rfl⟩
  | false =>
   rw [if_neg (fun h=>of_decide_eq_false h6 h.2)]
   cases h7:decide (m=i) with
   | true =>
    have h7':(!decide (m=i))=false:=by rw [h7];rfl
    rw [if_neg (by simpa using h7),if_pos (.inr rfl)]
    refine af.body (fn:=Tryz.f92) rfl rfl rfl rfl ?_
    refine aa (mu:=fun _=>false) ?_
    repeat' (first |refine u1 ?_ |refine u2 ?_ |fail)
    exact ⟨[_],⟨Fz.deep rfl,trivial⟩,rfl⟩
   | false =>
    have h7':(!decide (m=i))=true:=by rw [h7];rfl
    rw [if_pos (by simpa using h7)]
    refine af.body (fn:=Tryz.f92) rfl rfl rfl rfl ?_
    refine aa (mu:=fun _=>false) ?_
    repeat' (first |refine u1 ?_ |refine u2 ?_ |fail)
    exact ⟨[_],⟨Fz.deep rfl,trivial⟩,rfl⟩
 | false =>
  have k5:=of_decide_eq_false h5
  rw [if_neg (fun h=>k5 h.1)]
  cases h7:decide (m=i) with
  | false =>
   have h7':(!decide (m=i))=true:=by rw [h7];rfl
   rw [if_pos (by simpa using h7)]
   refine af.body (fn:=Tryz.f92) rfl rfl rfl rfl ?_
   refine aa (mu:=fun _=>false) ?_
   repeat' (first |refine u1 ?_ |refine u2 ?_ |fail)
   exact ⟨[_],⟨Fz.deep rfl,trivial⟩,rfl⟩
  | true =>
   have h7':(!decide (m=i))=false:=by rw [h7];rfl
   rw [if_neg (by simpa using h7)]
   cases h8:decide (k=1) with
   | true =>
    rw [if_pos (.inl (of_decide_eq_true h8))]
    refine af.body (fn:=Tryz.f92) rfl rfl rfl rfl ?_
    refine aa (mu:=fun _=>false) ?_
    repeat' (first |refine u1 ?_ |refine u2 ?_ |fail)
    exact ⟨[_],⟨Fz.deep rfl,trivial⟩,rfl⟩
   | false =>
    rw [if_neg (by have:=of_decide_eq_false h8;omega)]
    cases h9:decide (k=3) with
    | true =>
     rw [if_pos (of_decide_eq_true h9)]
     refine af.body (fn:=Tryz.f92) rfl rfl rfl rfl ?_
     refine aa (mu:=fun _=>false) ?_
     repeat' (first |refine u1 ?_ |refine u2 ?_ |fail)
     exact ⟨[_],⟨Fz.deep rfl,trivial⟩,rfl⟩
    | false =>
     rw [if_neg (of_decide_eq_false h9)]
     refine af.body (fn:=Tryz.f92) rfl rfl rfl rfl ?_
     refine aa (mu:=fun _=>false) ?_
     repeat' (first |refine u1 ?_ |refine u2 ?_ |fail)
     exact ⟨[_],⟨Fz.deep rfl,trivial⟩,rfl⟩
theorem oW (one:Bool) (k:Int):Pu one 106 [ah k] (ah (nF k)):=by
 unfold nF
 cases h1:decide (k=1) with
 | true =>
  rw [if_pos (.inl (of_decide_eq_true h1))]
  refine af.body (fn:=Tryz.f106) rfl rfl rfl rfl ?_
  refine aa (mu:=fun _=>false) ?_
  repeat' (first |refine u1 ?_ |refine u2 ?_ |fail)
  exact ⟨[_],⟨Fz.deep rfl,trivial⟩,rfl⟩
 | false =>
  cases h5:decide (k=5) with
  | true =>
   rw [if_pos (.inr (of_decide_eq_true h5))]
   refine af.body (fn:=Tryz.f106) rfl rfl rfl rfl ?_
   refine aa (mu:=fun _=>false) ?_
   repeat' (first |refine u1 ?_ |refine u2 ?_ |fail)
   exact ⟨[_],⟨Fz.deep rfl,trivial⟩,rfl⟩
  | false =>
   rw [if_neg (by have:=of_decide_eq_false h1;have:=of_decide_eq_false h5;omega)]
   cases h2:decide (k=2) with
   | true =>
    rw [if_pos (of_decide_eq_true h2)]
    refine af.body (fn:=Tryz.f106) rfl rfl rfl rfl ?_
    refine aa (mu:=fun _=>false) ?_
    repeat' (first |refine u1 ?_ |refine u2 ?_ |fail)
    exact ⟨[_],⟨Fz.deep rfl,trivial⟩,rfl⟩
   | false =>
    rw [if_neg (of_decide_eq_false h2)]
    cases h4:decide (k=4) with
    | true =>
     rw [if_pos (of_decide_eq_true h4)]
     refine af.body (fn:=Tryz.f106) rfl rfl rfl rfl ?_
     refine aa (mu:=fun _=>false) ?_
     repeat' (first |refine u1 ?_ |refine u2 ?_ |fail)
     exact ⟨[_],⟨Fz.deep rfl,trivial⟩,rfl⟩
    | false =>
     rw [if_neg (of_decide_eq_false h4)]
     refine af.body (fn:=Tryz.f106) rfl rfl rfl rfl ?_
     refine aa (mu:=fun _=>false) ?_
     repeat' (first |refine u1 ?_ |refine u2 ?_ |fail)
     exact ⟨[_],⟨Fz.deep rfl,trivial⟩,rfl⟩
theorem tG (one:Bool) (c:ay) (l:List Ev) (f:Bool) (hl:l.length≤maxLen) (i:Nat) (hi:i < c.aG.length):Pu one 44 [.ag (aF c),.sl (l.map cZ) f,ah (i:Int)] (ah (aD c l i)):=by
 have el:((l.map cZ).length:Int)=l.length:=by simp
 have ml:l.length≤9223372036854775807:=Nat.le_trans hl (by simp [maxLen])
 have hs:=IB one c i hi
 refine af.body (fn:=Tryz.f44) rfl rfl rfl rfl ?_
 refine aa (mu:=fun _=>false) ?_
 repeat' (first |refine u1 ?_ |((with_reducible show ai _ _ _ _ _ _ _ _);refine af.call hs rfl rfl ?_) |refine u2 ?_ |fail)
 refine aC.bx (aj.to (l:=[(1,.sl (l.map cZ) f),(2,ah (i:Int)),(7,ah (aD c (l.take 0) i)),(8,ah (0:Nat))]) (hp:=[]) 0 rfl ⟨rfl,rfl,rfl,rfl,trivial⟩ (Nat.zero_le _) rfl rfl) ?_
 refine aC.loop (fun k:Nat=>k≤l.length) (fun k=>⟨bM [(1,.sl (l.map cZ) f),(2,ah (i:Int)),(7,ah (aD c (l.take k) i)),(8,ah (k:Nat))],[],bw.none,false,0⟩) (fun k=>l.length - k) ?_ 0 (Nat.zero_le _)
 intro k hk
 by_cases hlt:k < l.length
 ·have d1:decide ((k:Int) < ((l.map cZ).length:Int))=true:=decide_eq_true (by omega)
  have hat:(l.map cZ)[((k:Nat):Int).toNat]?=some (cZ l[k]):=bG hlt
  have hp:=Ca c hlt i
  have hm:=IC one l[k] i (aD c (l.take k) i)
  generalize l[k]=x at *
  refine aa (mu:=fun _=>false) ?_
  repeat' (first |((with_reducible show ai _ _ _ _ _ _ _ _);refine af.call hm rfl rfl ?_) |refine u1 ?_ |((with_reducible show RM.wpOp _ _ (.indexAddr _ _ _) _ _ _);refine ⟨cZ x,⟨by omega,hat⟩,rfl,?_⟩) |refine u2 ?_ |fail)
  exact ⟨k+1,hlt,(by dsimp only;omega),aj.to 0 rfl ⟨rfl,rfl,cK hp.symm,cK (by simp),trivial⟩ (Nat.zero_le _) rfl rfl⟩
 ·have d1:decide ((k:Int) < ((l.map cZ).length:Int))=false:=decide_eq_false (by omega)
  have e:l.take k=l:=List.take_of_length_le (by omega)
  rw [e]
  refine aa (mu:=fun _=>false) ?_
  repeat' (first |refine u1 ?_ |refine u2 ?_ |fail)
  exact ⟨[_],⟨Fz.deep rfl,trivial⟩,rfl⟩
theorem Dm (l:List Ev) (k:Nat):((l.map cZ).drop 0).take (k - 0)=(l.take k).map cZ:=by rw [List.drop_zero,Nat.sub_zero,List.map_take]
theorem Dn (l:List Ev):∀ el ∈ l.map cZ,el.length=4:=fun el hel=>by obtain ⟨x,_,rfl⟩:=List.mem_map.1 hel;rfl
def cE (D:Int) (l:List Ev):List Ev:=l.takeWhile fun x=>decide (x.day≤D)
def dm (D:Int) (l:List Ev):Nat:=(cE D l).length
theorem mK {D:Int}:∀ {l:List Ev} {k:Nat},k≤dm D l→(h:k < l.length)→(k < dm D l ↔ l[k].day≤D)
 | x :: l,k,hk,h=>by
  unfold dm cE at hk ⊢
  rw [List.takeWhile_cons] at hk ⊢
  cases hd:decide (x.day≤D) with
  | false =>
   rw [hd] at hk
   have:k=0:=by simpa using hk
   subst this
   simp only [Bool.false_eq_true,if_false,List.length_nil,Nat.lt_irrefl,List.getElem_cons_zero,false_iff]
   exact of_decide_eq_false hd
  | true =>
   rw [hd] at hk
   simp only [if_true,List.length_cons] at hk ⊢
   cases k with
   | zero=>simpa using of_decide_eq_true hd
   | succ k =>
    have:=mK (D:=D) (l:=l) (k:=k) (by unfold dm cE;omega) (by simpa using h)
    unfold dm cE at this
    simpa using this
theorem GZ (D:Int) (l:List Ev):dm D l≤l.length:=(List.takeWhile_prefix _).length_le
theorem nG (D:Int) (l:List Ev):l.take (dm D l)=cE D l:=by
 have:=List.takeWhile_prefix (l:=l) (fun x=>decide (x.day≤D))
 exact (List.prefix_iff_eq_take.1 this).symm
theorem ID (one:Bool) (l:List Ev) (f:Bool) (hl:l.length≤maxLen) (D:Int):∃ f',Pu one 42 [.sl (l.map cZ) f,ah D] (.sl ((cE D l).map cZ) f'):=by
 have el:((l.map cZ).length:Int)=l.length:=by simp
 have ml:l.length≤9223372036854775807:=Nat.le_trans hl (by simp [maxLen])
 have hu:=GZ D l
 refine ⟨f && Nat.beq (dm D l) (l.map cZ).length,?_⟩
 refine af.body (fn:=Tryz.f42) rfl rfl rfl rfl ?_
 refine aa (mu:=fun _=>false) ?_
 repeat' (first |refine u1 ?_ |refine u2 ?_ |fail)
 refine aC.bx (aj.to (l:=[(0,.sl (l.map cZ) f),(1,ah D),(5,ah (0:Nat))]) (hp:=[]) 0 rfl ⟨rfl,rfl,rfl,trivial⟩ (Nat.zero_le _) rfl rfl) ?_
 refine aC.loop (fun k:Nat=>k≤dm D l) (fun k=>⟨bM [(0,.sl (l.map cZ) f),(1,ah D),(5,ah (k:Nat))],[],bw.none,false,0⟩) (fun k=>l.length - k) ?_ 0 (Nat.zero_le _)
 intro k hk
 have hsl:=Dm l k
 have hkl:0≤k∧k≤(l.map cZ).length:=⟨Nat.zero_le _,by rw [List.length_map];omega⟩
 have hel:=Dn l
 by_cases hlt:k < l.length
 ·have d1:decide ((k:Int) < ((l.map cZ).length:Int))=true:=decide_eq_true (by omega)
  have hat:(l.map cZ)[((k:Nat):Int).toNat]?=some (cZ l[k]):=bG hlt
  have hw:=mK hk hlt
  have hue:k ≥ dm D l→k=dm D l:=fun h=>by omega
  have htk:=nG D l
  generalize l[k]=x at *
  obtain ⟨d,kk,m,o⟩:=x
  dsimp only at hw
  cases h2:decide (d≤D) with
  | true =>
   have hlt2:=hw.2 (of_decide_eq_true h2)
   refine aa (mu:=fun _=>false) ?_
   repeat' (first |refine u1 ?_ |(refine ⟨[ah d,ah kk,ah m,ah o],⟨by omega,hat⟩,rfl,?_⟩) |refine u2 ?_ |fail)
   exact ⟨k+1,hlt2,(by dsimp only;omega),aj.to 0 rfl ⟨rfl,rfl,cK (by simp),trivial⟩ (Nat.zero_le _) rfl rfl⟩
  | false =>
   have hke:k=dm D l:=hue (Nat.not_lt.1 fun h=>of_decide_eq_false h2 (hw.1 h))
   rw [←htk,←hke,←hsl]
   refine aa (mu:=fun _=>false) ?_
   repeat' (first |refine u1 ?_ |(refine ⟨[ah d,ah kk,ah m,ah o],⟨by omega,hat⟩,rfl,?_⟩) |(refine ⟨0,k,rfl,rfl,hkl,(by decide),hel,?_⟩) |refine u2 ?_ |fail)
   exact ⟨[_],⟨Fz.deep rfl,trivial⟩,rfl⟩
 ·have d1:decide ((k:Int) < ((l.map cZ).length:Int))=false:=decide_eq_false (by omega)
  have htk:=nG D l
  have hke:k=dm D l:=by omega
  rw [←htk,←hke,←hsl]
  refine aa (mu:=fun _=>false) ?_
  repeat' (first |refine u1 ?_ |(refine ⟨0,k,rfl,rfl,hkl,(by decide),hel,?_⟩) |refine u2 ?_ |fail)
  exact ⟨[_],⟨Fz.deep rfl,trivial⟩,rfl⟩
end Go.Proofs.YtlpmfgmldmdggaaGreat
open Go Go.RM
namespace Go.Proofs.YtlpmfgmldmdggaaGreat
set_option maxRecDepth 100000
abbrev D3:=Int × Int × Int
def jk (p x:Int) (d:D3):D3:=if p=0 then (d.1+x,d.2.1,d.2.2) else if p=1 then (d.1,d.2.1+x,d.2.2) else (d.1,d.2.1,d.2.2+x)
def Aw (l:List Ev) (day:Int) (j:Nat):Int:=match l[j]? with
 | some x=>min day x.day
 | none=>day
def uU (c:ay) (l:List Ev) (i:Nat) (day:Int):Nat→Nat→Int→D3→D3
 | 0,_,_,d=>d
 | r+1,j,fr,d=>if fr < day then uU c l i day r (j+1) (Aw l day j) (jk (aD c (l.take j) i) (Aw l day j - fr) d) else d
theorem pU (c:ay) (l:List Ev) (i:Nat) (day:Int) (r j:Nat) (fr:Int) (d:D3):uU c l i day (r+1) j fr d=if fr < day then uU c l i day r (j+1) (Aw l day j) (jk (aD c (l.take j) i) (Aw l day j - fr) d) else d:=rfl
def kZ (c:ay) (l:List Ev) (i:Nat) (day:Int):D3:=uU c l i day (l.length+1) 0 0 (0,0,0)
def uA (c:ay) (i:Nat):Int:=((c.aG[i]?).map nQ.fm).getD 0
def xu (c:ay) (i:Nat) (d:D3):Int:=uA c i+d.1 * eD c i - d.2.1 * 1000
def qd (c:ay) (l:List Ev) (i:Nat) (day:Int):Acc :=
 ⟨aD c (cE day l) i,xu c i (kZ c l i day),(kZ c l i day).1,(kZ c l i day).2.1,(kZ c l i day).2.2⟩
structure iJ (l:List Ev):Prop where
 K6:∀ j (h:j+1 < l.length),l[j].day≤l[j+1].day
 day:∀ x ∈ l,0≤x.day∧x.day≤40000
theorem G0 (x:Ev) (i:Int) {p:Int} (h:p=0∨p=1∨p=2):eU x i p=0∨eU x i p=1∨eU x i p=2:=by
 unfold eU
 split
 ·exact .inl rfl
 ·split
  ·exact h
  ·split
   ·exact .inr (.inl rfl)
   ·split
    ·exact .inr (.inr rfl)
    ·exact .inl rfl
theorem G1 (c:ay) (i:Nat):l7 c i=0∨l7 c i=1∨l7 c i=2:=by
 unfold l7
 split
 ·exact .inr (.inl rfl)
 ·exact .inl rfl
theorem G2 (i:Int):∀ (l:List Ev) {p:Int},(p=0∨p=1∨p=2)→l.foldl (fun p x=>eU x i p) p=0∨l.foldl (fun p x=>eU x i p) p=1∨l.foldl (fun p x=>eU x i p) p=2
 | [],_,h=>h
 | x :: l,_,h=>G2 i l (G0 x i h)
theorem G3 (c:ay) (l:List Ev) (i:Nat):aD c l i=0∨aD c l i=1∨aD c l i=2:=G2 i l (G1 c i)
structure zc (l:List Ev) (day:Int) (j:Nat) (fr:Int) (d:D3):Prop where
 Ls:0≤fr∧fr≤day
 nn:0≤d.1∧0≤d.2.1∧0≤d.2.2
 sum:d.1+d.2.1+d.2.2=fr
 next:∀ x,l[j]?=some x→fr≤x.day
theorem Jg {l:List Ev} {day:Int} {j:Nat} {fr:Int} {d:D3} (hd:fr < day) (h:zc l day j fr d):fr≤Aw l day j∧Aw l day j≤day:=by
 unfold Aw
 cases hx:l[j]? with
 | none=>simp only;omega
 | some x =>
  have:=h.next x hx
  simp only
  omega
theorem Cb {l:List Ev} (hm:iJ l) {day:Int} {j:Nat} {fr:Int} {d:D3} (hd:fr < day) (h:zc l day j fr d) (p:Int):zc l day (j+1) (Aw l day j) (jk p (Aw l day j - fr) d):=by
 have hb:=Jg hd h
 obtain ⟨h1,h2,h3,h4⟩:=h
 refine ⟨by omega,?_,?_,fun x hx=>?_⟩
 ·unfold jk
  split
  ·dsimp only;omega
  ·split <;> (dsimp only;omega)
 ·unfold jk
  split
  ·dsimp only;omega
  ·split <;> (dsimp only;omega)
 ·have hj:=(List.getElem?_eq_some_iff.1 hx).1
  have ha:=hm.K6 j hj
  have hx':l[j+1]=x:=(List.getElem?_eq_some_iff.1 hx).2
  rw [hx'] at ha
  unfold Aw
  rw [List.getElem?_eq_getElem (by omega)]
  simp only
  omega
theorem Cc {l:List Ev} (hm:iJ l) {day:Int} (h0:0≤day):zc l day 0 0 (0,0,0) :=
 ⟨⟨by omega,h0⟩,⟨by decide,by decide,by decide⟩,rfl,fun x hx=>(hm.day x (List.mem_of_getElem? hx)).1⟩
theorem Ee {c:ay} {l:List Ev} (hm:iJ l) {i:Nat} {day:Int}:∀ {r j:Nat} {fr:Int} {d:D3},zc l day j fr d→∃ fr' ,fr'≤day∧(0≤(uU c l i day r j fr d).1∧0≤(uU c l i day r j fr d).2.1∧0≤(uU c l i day r j fr d).2.2)∧(uU c l i day r j fr d).1+(uU c l i day r j fr d).2.1+(uU c l i day r j fr d).2.2=fr'
 | 0,j,fr,d,h=>⟨fr,h.Ls.2,h.nn,h.sum⟩
 | r+1,j,fr,d,h=>by
  rw [pU]
  by_cases hd:fr < day
  ·rw [if_pos hd]
   exact Ee hm (Cb hm hd h _)
  ·rw [if_neg hd]
   exact ⟨fr,h.Ls.2,h.nn,h.sum⟩
theorem JU {c:ay} {l:List Ev} (hm:iJ l) {i:Nat} {day:Int} (h0:0≤day):(0≤(kZ c l i day).1∧0≤(kZ c l i day).2.1∧0≤(kZ c l i day).2.2)∧(kZ c l i day).1+(kZ c l i day).2.1+(kZ c l i day).2.2≤day:=by
 obtain ⟨fr',h1,h2,h3⟩:=Ee (c:=c) (i:=i) hm (r:=l.length+1) (Cc hm h0)
 exact ⟨h2,by unfold kZ;omega⟩
end Go.Proofs.YtlpmfgmldmdggaaGreat
open Go Go.RM
namespace Go.Proofs.YtlpmfgmldmdggaaGreat
set_option maxRecDepth 100000
set_option maxHeartbeats 4000000
theorem ze (one:Bool) (c:ay) (hg:Good c) (l:List Ev) (f:Bool) (hl:l.length≤20) (hm:iJ l) (i:Nat) (hi:i < c.aG.length) (day:Int) (h0:0≤day) (h4:day≤40000) :
  Pu one 65 [.ag (aF c),.sl (l.map cZ) f,ah (i:Int),ah day] (.ag (bu (qd c l i day))):=by
 have el:((l.map cZ).length:Int)=l.length:=by simp
 have hmx:l.length≤maxLen:=by simp [maxLen];omega
 have hmat:(c.aG.map bp)[((i:Nat):Int).toNat]?=some (bp c.aG[i]):=bG hi
 have hmb:=hg.qT _ (List.getElem_mem hi)
 obtain ⟨q,hq⟩:∃ q:Nat,c.aG[i].iN=(q:Int):=⟨c.aG[i].iN.toNat,by omega⟩
 have hqr:q < c.aA.length:=by omega
 have hrat:(c.aA.map bA)[(((q:Nat):Int)).toNat]?=some (bA c.aA[q]):=bG hqr
 rw [←hq] at hrat
 have hrb:=(hg.iN _ (List.getElem_mem hqr)).2.2.2
 have he:eD c i=c.aA[q].nx:=by
  unfold eD tC
  rw [List.getElem?_eq_getElem hi]
  simp only [Option.bind_some,hq,Int.toNat_natCast,List.getElem?_eq_getElem hqr,Option.map_some,Option.getD_some]
 have ho:uA c i=c.aG[i].fm:=by unfold uA;rw [List.getElem?_eq_getElem hi];rfl
 rw [←ho] at hmb
 obtain ⟨fu,hun⟩:=ID true l f hmx day
 have hpu:∀ f',Pu true 44 [.ag (aF c),.sl ((cE day l).map cZ) f',ah (i:Int)] (ah (aD c (cE day l) i)):=fun f'=>tG true c _ f' (by rw [←nG,List.length_take];omega) i hi
 have hpf:=hpu fu
 refine af.body (fn:=Tryz.f65) rfl rfl rfl rfl ?_
 refine aa (mu:=fun _=>false) ?_
 repeat' (first |refine u1 ?_ |((with_reducible show RM.wpOp _ _ (.indexAddr _ _ _) _ _ _);refine ⟨bp c.aG[i],⟨by omega,hmat⟩,rfl,?_⟩) |refine u2 ?_ |fail)
 refine aC.bx (aj.to (l:=[(1,.sl (l.map cZ) f),(2,ah (i:Int)),(3,ah day),(4,.pt (aF c) 0),(8,.ptr 0 0 0),(9,.ptr 1 0 0),(10,ah 0),(11,ah (0:Nat))]) (hp:=[.cells [ah 0,ah 0,ah 0,ah 0,ah 0] 0 0,.cells [ah 0,ah (uA c i),ah ((0,0,0):D3).1,ah ((0,0,0):D3).2.1,ah ((0,0,0):D3).2.2] 0 0]) 2 (by rw [ho];rfl) ⟨rfl,rfl,rfl,rfl,rfl,rfl,rfl,rfl,trivial⟩ (Nat.zero_le _) rfl rfl) ?_
 refine aC.loop (fun x:Nat × Int × D3=>x.1≤l.length+1∧zc l day x.1 x.2.1 x.2.2∧kZ c l i day=uU c l i day (l.length+1 - x.1) x.1 x.2.1 x.2.2) (fun x=>⟨bM [(1,.sl (l.map cZ) f),(2,ah (i:Int)),(3,ah day),(4,.pt (aF c) 0),(8,.ptr 0 0 0),(9,.ptr 1 0 0),(10,ah x.2.1),(11,ah (x.1:Nat))],[.cells [ah 0,ah 0,ah 0,ah 0,ah 0] 0 0,.cells [ah 0,ah (uA c i),ah x.2.2.1,ah x.2.2.2.1,ah x.2.2.2.2] 0 0],bw.none,false,0⟩) (fun x=>l.length+1 - x.1) ?_ (0,0,(0,0,0)) ⟨Nat.zero_le _,Cc hm h0,rfl⟩
 rintro ⟨j,fr,D⟩ ⟨hj,hs,hr⟩
 dsimp only at hj hs hr
 dsimp only
 have hb:=hs.Ls
 have hn:=hs.nn
 have hsm:=hs.sum
 have fin:kZ c l i day=D→True:=fun _=>trivial
 by_cases hjl:j≤l.length
 ·have d1:decide ((j:Int)≤((l.map cZ).length:Int))=true:=decide_eq_true (by omega)
  rw [show l.length+1 - j=(l.length - j)+1 by omega,pU] at hr
  cases hd:decide (fr < day) with
  | true =>
   have hdl:=of_decide_eq_true hd
   rw [if_pos hdl] at hr
   have hnx:=Cb hm hdl hs (aD c (l.take j) i)
   have htb:=Jg hdl hs
   have hpl:∀ f',Pu true 44 [.ag (aF c),.sl ((l.take j).map cZ) f',ah (i:Int)] (ah (aD c (l.take j) i)):=fun f'=>tG true c _ f' (by rw [List.length_take];omega) i hi
   rw [←Dm] at hpl
   have hpl:=hpl (f && Nat.beq j (l.map cZ).length)
   have hkl:0≤j∧j≤(l.map cZ).length:=⟨Nat.zero_le _,by rw [List.length_map];omega⟩
   have hel:=Dn l
   have h3:=G3 c (l.take j) i
   clear hun hpu hpf hrat hmat
   rw [show l.length - j=l.length+1 - (j+1) by omega] at hr
   generalize aD c (l.take j) i=p at *
   obtain ⟨D0,D1,D2⟩:=D
   dsimp only at hn hsm hr hnx
   dsimp only
   by_cases hlt:j < l.length
   ·have d2:decide ((j:Int) < ((l.map cZ).length:Int))=true:=decide_eq_true (by omega)
    have hat:(l.map cZ)[((j:Nat):Int).toNat]?=some (cZ l[j]):=bG hlt
    have ht:Aw l day j=min day l[j].day:=by unfold Aw;rw [List.getElem?_eq_getElem hlt]
    generalize l[j]=x at *
    obtain ⟨xd,xk,xm,xo⟩:=x
    have hat:(l.map cZ)[((j:Nat):Int).toNat]?=some [ah xd,ah xk,ah xm,ah xo]:=hat
    dsimp only at ht
    rw [ht] at hr hnx htb
    rcases h3 with rfl|rfl|rfl
    ·have ea:jk 0 (min day xd - fr) (D0,D1,D2)=((D0+min day xd - fr,D1,D2):D3):=by
      unfold jk
      rw [if_pos rfl]
      dsimp only
      rw [show D0+(min day xd - fr)=D0+min day xd - fr by omega]
     rw [ea] at hr hnx
     refine aa (mu:=fun _=>false) ?_
     repeat' (first |(refine ⟨_,_,.inl ⟨rfl,rfl⟩,hpl,?_⟩) |refine u1 ?_ |(refine ⟨[ah xd,ah xk,ah xm,ah xo],⟨by omega,hat⟩,rfl,?_⟩) |(refine ⟨0,j,rfl,rfl,hkl,(by decide),hel,?_⟩) |refine u2 ?_ |fail)
     exact ⟨(j+1,min day xd,(D0+min day xd - fr,D1,D2)),⟨by dsimp only;omega,hnx,hr⟩,(by dsimp only;omega),aj.to 2 rfl ⟨rfl,rfl,rfl,rfl,rfl,rfl,rfl,cK (by simp),trivial⟩ (Nat.zero_le _) rfl rfl⟩
    ·have ea:jk 1 (min day xd - fr) (D0,D1,D2)=((D0,D1+min day xd - fr,D2):D3):=by
      unfold jk
      rw [if_neg (by decide),if_pos rfl]
      dsimp only
      rw [show D1+(min day xd - fr)=D1+min day xd - fr by omega]
     rw [ea] at hr hnx
     refine aa (mu:=fun _=>false) ?_
     repeat' (first |(refine ⟨_,_,.inl ⟨rfl,rfl⟩,hpl,?_⟩) |refine u1 ?_ |(refine ⟨[ah xd,ah xk,ah xm,ah xo],⟨by omega,hat⟩,rfl,?_⟩) |(refine ⟨0,j,rfl,rfl,hkl,(by decide),hel,?_⟩) |refine u2 ?_ |fail)
     exact ⟨(j+1,min day xd,(D0,D1+min day xd - fr,D2)),⟨by dsimp only;omega,hnx,hr⟩,(by dsimp only;omega),aj.to 2 rfl ⟨rfl,rfl,rfl,rfl,rfl,rfl,rfl,cK (by simp),trivial⟩ (Nat.zero_le _) rfl rfl⟩
    ·have ea:jk 2 (min day xd - fr) (D0,D1,D2)=((D0,D1,D2+min day xd - fr):D3):=by
      unfold jk
      rw [if_neg (by decide),if_neg (by decide)]
      dsimp only
      rw [show D2+(min day xd - fr)=D2+min day xd - fr by omega]
     rw [ea] at hr hnx
     refine aa (mu:=fun _=>false) ?_
     repeat' (first |(refine ⟨_,_,.inl ⟨rfl,rfl⟩,hpl,?_⟩) |refine u1 ?_ |(refine ⟨[ah xd,ah xk,ah xm,ah xo],⟨by omega,hat⟩,rfl,?_⟩) |(refine ⟨0,j,rfl,rfl,hkl,(by decide),hel,?_⟩) |refine u2 ?_ |fail)
     exact ⟨(j+1,min day xd,(D0,D1,D2+min day xd - fr)),⟨by dsimp only;omega,hnx,hr⟩,(by dsimp only;omega),aj.to 2 rfl ⟨rfl,rfl,rfl,rfl,rfl,rfl,rfl,cK (by simp),trivial⟩ (Nat.zero_le _) rfl rfl⟩
   ·have d2:decide ((j:Int) < ((l.map cZ).length:Int))=false:=decide_eq_false (by omega)
    have ht:Aw l day j=day:=by unfold Aw;rw [List.getElem?_eq_none (by omega)]
    rw [ht] at hr hnx htb
    rcases h3 with rfl|rfl|rfl
    ·have ea:jk 0 (day - fr) (D0,D1,D2)=((D0+day - fr,D1,D2):D3):=by
      unfold jk
      rw [if_pos rfl]
      dsimp only
      rw [show D0+(day - fr)=D0+day - fr by omega]
     rw [ea] at hr hnx
     refine aa (mu:=fun _=>false) ?_
     repeat' (first |(refine ⟨_,_,.inl ⟨rfl,rfl⟩,hpl,?_⟩) |refine u1 ?_ |(refine ⟨0,j,rfl,rfl,hkl,(by decide),hel,?_⟩) |refine u2 ?_ |fail)
     exact ⟨(j+1,day,(D0+day - fr,D1,D2)),⟨by dsimp only;omega,hnx,hr⟩,(by dsimp only;omega),aj.to 2 rfl ⟨rfl,rfl,rfl,rfl,rfl,rfl,rfl,cK (by simp),trivial⟩ (Nat.zero_le _) rfl rfl⟩
    ·have ea:jk 1 (day - fr) (D0,D1,D2)=((D0,D1+day - fr,D2):D3):=by
      unfold jk
      rw [if_neg (by decide),if_pos rfl]
      dsimp only
      rw [show D1+(day - fr)=D1+day - fr by omega]
     rw [ea] at hr hnx
     refine aa (mu:=fun _=>false) ?_
     repeat' (first |(refine ⟨_,_,.inl ⟨rfl,rfl⟩,hpl,?_⟩) |refine u1 ?_ |(refine ⟨0,j,rfl,rfl,hkl,(by decide),hel,?_⟩) |refine u2 ?_ |fail)
     exact ⟨(j+1,day,(D0,D1+day - fr,D2)),⟨by dsimp only;omega,hnx,hr⟩,(by dsimp only;omega),aj.to 2 rfl ⟨rfl,rfl,rfl,rfl,rfl,rfl,rfl,cK (by simp),trivial⟩ (Nat.zero_le _) rfl rfl⟩
    ·have ea:jk 2 (day - fr) (D0,D1,D2)=((D0,D1,D2+day - fr):D3):=by
      unfold jk
      rw [if_neg (by decide),if_neg (by decide)]
      dsimp only
      rw [show D2+(day - fr)=D2+day - fr by omega]
     rw [ea] at hr hnx
     refine aa (mu:=fun _=>false) ?_
     repeat' (first |(refine ⟨_,_,.inl ⟨rfl,rfl⟩,hpl,?_⟩) |refine u1 ?_ |(refine ⟨0,j,rfl,rfl,hkl,(by decide),hel,?_⟩) |refine u2 ?_ |fail)
     exact ⟨(j+1,day,(D0,D1,D2+day - fr)),⟨by dsimp only;omega,hnx,hr⟩,(by dsimp only;omega),aj.to 2 rfl ⟨rfl,rfl,rfl,rfl,rfl,rfl,rfl,cK (by simp),trivial⟩ (Nat.zero_le _) rfl rfl⟩
  | false =>
   rw [if_neg (of_decide_eq_false hd)] at hr
   have hV:qd c l i day=⟨aD c (cE day l) i,uA c i+D.1 * eD c i - D.2.1 * 1000,D.1,D.2.1,D.2.2⟩:=by
    unfold qd xu
    rw [hr]
   rw [he] at hV
   have h0b:=B3 hn.1 hrb
   generalize c.aG[i]=m at *
   generalize c.aA[q]=r at *
   obtain ⟨D0,D1,D2⟩:=D
   dsimp only at hn hsm hV h0b
   dsimp only
   rw [hV]
   refine aa (mu:=fun _=>false) ?_
   repeat' (first |(refine ⟨_,_,.inl ⟨rfl,rfl⟩,hun,?_⟩) |(refine ⟨_,_,.inl ⟨rfl,rfl⟩,hpf,?_⟩) |refine u1 ?_ |((with_reducible show RM.wpOp _ _ (.indexAddr _ _ _) _ _ _);refine ⟨bp m,⟨by omega,hmat⟩,rfl,?_⟩) |((with_reducible show RM.wpOp _ _ (.indexAddr _ _ _) _ _ _);refine ⟨bA r,⟨by omega,hrat⟩,rfl,?_⟩) |refine u2 ?_ |fail)
   exact ⟨[_],⟨Fz.deep rfl,trivial⟩,rfl⟩
 ·have d1:decide ((j:Int)≤((l.map cZ).length:Int))=false:=decide_eq_false (by omega)
  rw [show l.length+1 - j=0 by omega] at hr
  have hr:kZ c l i day=D:=hr
  have hV:qd c l i day=⟨aD c (cE day l) i,uA c i+D.1 * eD c i - D.2.1 * 1000,D.1,D.2.1,D.2.2⟩:=by
   unfold qd xu
   rw [hr]
  rw [he] at hV
  have h0b:=B3 hn.1 hrb
  generalize c.aG[i]=m at *
  generalize c.aA[q]=r at *
  obtain ⟨D0,D1,D2⟩:=D
  dsimp only at hn hsm hV h0b
  dsimp only
  rw [hV]
  refine aa (mu:=fun _=>false) ?_
  repeat' (first |(refine ⟨_,_,.inl ⟨rfl,rfl⟩,hun,?_⟩) |(refine ⟨_,_,.inl ⟨rfl,rfl⟩,hpf,?_⟩) |refine u1 ?_ |((with_reducible show RM.wpOp _ _ (.indexAddr _ _ _) _ _ _);refine ⟨bp m,⟨by omega,hmat⟩,rfl,?_⟩) |((with_reducible show RM.wpOp _ _ (.indexAddr _ _ _) _ _ _);refine ⟨bA r,⟨by omega,hrat⟩,rfl,?_⟩) |refine u2 ?_ |fail)
  exact ⟨[_],⟨Fz.deep rfl,trivial⟩,rfl⟩
end Go.Proofs.YtlpmfgmldmdggaaGreat
