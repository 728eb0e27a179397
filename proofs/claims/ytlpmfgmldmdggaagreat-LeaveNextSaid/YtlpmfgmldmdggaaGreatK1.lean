/-
  Contracts of the program's functions and of the document's. Lemmas alone; their conditions stand in them.
-/
import Derived.Test.YtlpmfgmldmdggaaGreatR2
import Derived.Test.YtlpmfgmldmdggaaGreatR4
import Derived.Test.YtlpmfgmldmdggaaGreatA1
import Derived.Test.YtlpmfgmldmdggaaGreatA2
import Derived.Test.YtlpmfgmldmdggaaGreatA3
import Derived.Test.YtlpmfgmldmdggaaGreatT1
import Derived.Test.YtlpmfgmldmdggaaGreatRows
import Derived.ProofKit
open Go Go.RM
namespace Go.Proofs.YtlpmfgmldmdggaaGreat
open Go.ChangeShapes Go.WideShapes Go.ChangeAt Go.RowKit
set_option maxRecDepth 100000
theorem Gd:ownKnob Tryz.prog.godebug=none:=by kernel_rfl
theorem EF:laidOutB Tryz.prog=true:=by kernel_rfl
end Go.Proofs.YtlpmfgmldmdggaaGreat
open Go Go.RM
namespace Go.Proofs.YtlpmfgmldmdggaaGreat
set_option maxRecDepth 100000
abbrev aj (n:Int):AV:=.fl (.int .i64 n)
abbrev BB (b:Bool):AV:=.fl (.bool b)
abbrev ST (s:ByteArray):AV:=.fl (.string s)
abbrev eI (n:Int):List AV:=[aj n]
abbrev ints (l:List Int):List (List AV):=l.map eI
def JH:XE:=⟨26,[],[],.bool true,[]⟩
def TB:List XE:=[JH]
abbrev Pu (one:Bool) (f:FuncId) (args:List AV) (v:AV):Prop:=af TT TB one (.fn f [] []) args v
def vQ {α:Type} (p:α→Bool) (l:List α):Int:=match l.findIdx? p with
 | some i=>(i:Int)
 | none=>-1
theorem oW {α:Type} {p:α→Bool} {l:List α} {k:Nat} (hk:k < l.length) (hprev:∀ i (h:i < l.length),i < k→p l[i]=false) (hp:p l[k]=true):vQ p l=k:=by
 unfold vQ
 have:l.findIdx? p=some k:=by
  rw [List.findIdx?_eq_some_iff_getElem]
  exact ⟨hk,hp,fun j hj=>by simp [hprev j (by omega) hj]⟩
 rw [this]
theorem oX {α:Type} {p:α→Bool} {l:List α} (hprev:∀ i (h:i < l.length),p l[i]=false):vQ p l=-1:=by
 unfold vQ
 have:l.findIdx? p=none:=by
  rw [List.findIdx?_eq_none_iff]
  intro x hx
  obtain ⟨i,hi,rfl⟩:=List.getElem_of_mem hx
  exact hprev i hi
 rw [this]
theorem ug {α:Type} (p:α→Bool) (l:List α):decide (0≤vQ p l)=l.any p:=by
 unfold vQ
 cases h:l.findIdx? p with
 | some i =>
  rw [List.findIdx?_eq_some_iff_getElem] at h
  obtain ⟨h1,h2,_⟩:=h
  simp only [Int.natCast_nonneg,decide_true]
  symm
  rw [List.any_eq_true]
  exact ⟨_,List.getElem_mem h1,h2⟩
 | none =>
  rw [List.findIdx?_eq_none_iff] at h
  simp
  intro x hx;exact h x hx
theorem mm (n:Nat):∀ (v:AV),v.deep=true→v.iE n=true:=by
 apply AV.rec (motive_1:=fun v=>v.deep=true→v.iE n=true) (motive_2:=fun _=>True) (motive_3:=fun l=>dJ l=true→tX n l=true)
 ·intro v _;rfl
 ·intro a b _ _;rfl
 ·intro a b _ _;rfl
 ·intro f a b ha hb h
  simp only [AV.deep,Bool.and_eq_true] at h
  simp only [AV.iE,Bool.and_eq_true]
  exact ⟨ha h.1,hb h.2⟩
 ·intro a ha h
  simp only [AV.deep] at h
  simp only [AV.iE]
  exact ha h
 ·intro a ha h
  simp only [AV.deep] at h
  simp only [AV.iE]
  exact ha h
 ·intro j v o h;simp [AV.deep] at h
 ·intro j v o n c h;simp [AV.deep] at h
 ·intro j h;simp [AV.deep] at h
 ·intro u _;rfl
 ·intro h;simp [AV.deep] at h
 ·trivial
 ·intros;trivial
 ·intro _;rfl
 ·intro a l ha hl h
  simp only [dJ,Bool.and_eq_true] at h
  simp only [tX,Bool.and_eq_true]
  exact ⟨ha h.1,hl h.2⟩
theorem sF {n:Nat} {v:Value}:(AV.fl v).iE n=true:=rfl
theorem sG {n:Nat} {a:List (List AV)} {b:Bool}:(AV.sl a b).iE n=true:=rfl
theorem cZ {a b:Int} (h:a=b):AV.fl (.int .i64 a)=AV.fl (.int .i64 b):=by rw [h]
theorem Hu {a b:Bool} (h:a=b):AV.fl (.bool a)=AV.fl (.bool b):=by rw [h]
theorem Cg (one:Bool) (n lo hi:Int):af TT TB one (.fn 96 [] [.pt [aj lo] 0,.pt [aj hi] 0]) [aj n] (BB (decide (n < lo) || decide (hi < n))):=by
 refine af.body (fn:=Tryz.f96) rfl rfl rfl rfl ?_
 refine aa (mu:=fun _=>false) ?_
 repeat' (first |(refine ⟨_,rfl,?_⟩) |(refine fM (by assumption) ?_) |(refine gz (by assumption) ?_) |(refine ⟨fun h=>?_,fun h=>?_⟩) |fail)
 all_goals refine ⟨[_],⟨Fz.deep rfl,trivial⟩,?_⟩
 all_goals simp_all [lQ]
theorem xg (one:Bool) (g:FuncId) (fs cs:List AV) (hF:(AV.fn g fs cs).deep=true) (p:Int→Bool) (l:List Int) (full:Bool) (hl:l.length≤maxLen) (hp:∀ n ∈ l,af TT TB one (.fn g fs cs) [aj n] (BB (p n))) :
  Pu one 88 [.sl (ints l) full,.fn g fs cs] (aj (vQ p l)):=by
 unfold maxLen at hl
 refine af.body (fn:=Tryz.f88) rfl rfl rfl rfl ?_
 refine aa (mu:=fun _=>false) ?_
 skip
 refine aL.cr (ai.to (l:=[(0,.sl (ints l) full),(1,.fn g fs cs),(7,aj l.length),(8,aj ((0:Nat):Int))]) 0 rfl ⟨rfl,rfl,cZ (by simp),rfl,trivial⟩ (Nat.le_refl _) (by simp [sF,sG,mm 0 _ hF]) rfl) ?_
 refine aL.loop (fun k:Nat=>k≤l.length∧∀ i (h:i < l.length),i < k→p l[i]=false) (fun k=>⟨cz [(0,.sl (ints l) full),(1,.fn g fs cs),(7,aj l.length),(8,aj (k:Int))],[],bF.none,false,0⟩) (fun k=>l.length - k) ?_ 0 ⟨Nat.zero_le _,fun i _ hi=>absurd hi (by omega)⟩
 intro k ⟨hk,hprev⟩
 refine aa (mu:=fun _=>false) ?_
 refine ⟨fun h=>?_,fun h=>?_⟩
 ·have hlt:k < l.length:=by simpa using h
  refine ⟨[aj l[k]],⟨by omega,by simp [hlt]⟩,rfl,?_⟩
  repeat' (first |refine u1 ?_ |fail)
  refine af.call (hp l[k] (List.getElem_mem _)) hF rfl ?_
  refine ⟨fun h2=>?_,fun h2=>?_⟩
  ·refine ⟨[_],⟨Fz.deep rfl,trivial⟩,?_⟩
   rw [oW hlt hprev h2];rfl
  ·repeat' (first |refine u2 ?_ |fail)
   refine ⟨k+1,⟨hlt,fun i hi hik=>?_⟩,(by dsimp only;omega),ai.to 0 rfl ⟨rfl,rfl,rfl,cZ (by simp),trivial⟩ (Nat.le_refl _) (by simp [sF,sG,mm 0 _ hF]) rfl⟩
   by_cases hik':i=k
   ·subst hik';exact h2
   ·exact hprev i hi (by omega)
 ·skip
  refine ⟨[_],⟨Fz.deep rfl,trivial⟩,?_⟩
  have:k=l.length:=by simp at h;omega
  rw [oX fun i hi=>hprev i hi (by omega)];rfl
end Go.Proofs.YtlpmfgmldmdggaaGreat
open Go Go.RM
namespace Go.Proofs.YtlpmfgmldmdggaaGreat
set_option maxRecDepth 100000
structure fA where
 name:ByteArray
 Fc:Int
 leave:Int
 Fe:Int
 m9:Int
structure nE where
 name:ByteArray
 lR:Int
 gI:Int
 zm:Bool
structure ay where
 az:List fA
 aO:List nE
 least:Int
abbrev bu (r:fA):List AV:=[ST r.name,aj r.Fc,aj r.leave,aj r.Fe,aj r.m9]
abbrev bG (m:nE):List AV:=[ST m.name,aj m.lR,aj m.gI,BB m.zm]
abbrev aX (c:ay):List AV:=[.sl (c.az.map bu) false,.sl (c.aO.map bG) false,aj c.least]
theorem sH (one:Bool) (g:FuncId) (fs cs:List AV) (hF:(AV.fn g fs cs).deep=true) (p:Int→Bool) (l:List Int) (full:Bool) (hl:l.length≤maxLen) (hp:∀ x ∈ l,af TT TB one (.fn g fs cs) [aj x] (BB (p x))) :
  Pu one 95 [.sl (l.map eI) full,.fn g fs cs] (BB (l.any p)):=by
 refine af.body (fn:=Tryz.f95) rfl rfl rfl rfl ?_
 refine aa (mu:=fun _=>false) ?_
 skip
 refine af.call (xg one g fs cs hF p l full hl hp) rfl (by simp only [dJ,AV.deep,Bool.and_true,Bool.true_and];exact hF) ?_
 skip
 refine ⟨[_],⟨Fz.deep rfl,trivial⟩,?_⟩
 rw [←ug];rfl
theorem vR (one:Bool) (g:FuncId) (fs cs:List AV) (hF:(AV.fn g fs cs).deep=true) (p:fA→Bool) (l:List fA) (full:Bool) (hl:l.length≤maxLen) (hp:∀ x ∈ l,af TT TB one (.fn g fs cs) [.ag (bu x)] (BB (p x))) :
  Pu one 118 [.sl (l.map bu) full,.fn g fs cs] (aj (vQ p l)):=by
 unfold maxLen at hl
 refine af.body (fn:=Tryz.f118) rfl rfl rfl rfl ?_
 refine aa (mu:=fun _=>false) ?_
 skip
 refine aL.cr (ai.to (l:=[(0,.sl (l.map bu) full),(1,.fn g fs cs),(7,aj l.length),(8,aj ((0:Nat):Int))]) 0 rfl ⟨rfl,rfl,cZ (by simp),rfl,trivial⟩ (Nat.le_refl _) (by simp [sF,sG,mm 0 _ hF]) rfl) ?_
 refine aL.loop (fun k:Nat=>k≤l.length∧∀ i (h:i < l.length),i < k→p l[i]=false) (fun k=>⟨cz [(0,.sl (l.map bu) full),(1,.fn g fs cs),(7,aj l.length),(8,aj (k:Int))],[],bF.none,false,0⟩) (fun k=>l.length - k) ?_ 0 ⟨Nat.zero_le _,fun i _ hi=>absurd hi (by omega)⟩
 intro k ⟨hk,hprev⟩
 refine aa (mu:=fun _=>false) ?_
 refine ⟨fun h=>?_,fun h=>?_⟩
 ·have hlt:k < l.length:=by simpa using h
  skip
  refine ⟨bu l[k],⟨by omega,by simp [hlt]⟩,rfl,?_⟩
  repeat' (first |refine u2 ?_ |fail)
  refine af.call (hp l[k] (List.getElem_mem _)) hF rfl ?_
  refine ⟨fun h2=>?_,fun h2=>?_⟩
  ·skip
   refine ⟨[_],⟨Fz.deep rfl,trivial⟩,?_⟩
   rw [oW hlt hprev h2];rfl
  ·repeat' (first |refine u2 ?_ |fail)
   refine ⟨k+1,⟨hlt,fun i hi hik=>?_⟩,(by dsimp only;omega),ai.to 0 rfl ⟨rfl,rfl,rfl,cZ (by simp),trivial⟩ (Nat.le_refl _) (by simp [sF,sG,mm 0 _ hF]) rfl⟩
   by_cases hik':i=k
   ·subst hik';exact h2
   ·exact hprev i hi (by omega)
 ·skip
  refine ⟨[_],⟨Fz.deep rfl,trivial⟩,?_⟩
  have:k=l.length:=by simp at h;omega
  rw [oX fun i hi=>hprev i hi (by omega)];rfl
theorem sI (one:Bool) (g:FuncId) (fs cs:List AV) (hF:(AV.fn g fs cs).deep=true) (p:fA→Bool) (l:List fA) (full:Bool) (hl:l.length≤maxLen) (hp:∀ x ∈ l,af TT TB one (.fn g fs cs) [.ag (bu x)] (BB (p x))) :
  Pu one 98 [.sl (l.map bu) full,.fn g fs cs] (BB (l.any p)):=by
 refine af.body (fn:=Tryz.f98) rfl rfl rfl rfl ?_
 refine aa (mu:=fun _=>false) ?_
 skip
 refine af.call (vR one g fs cs hF p l full hl hp) rfl (by simp only [dJ,AV.deep,Bool.and_true,Bool.true_and];exact hF) ?_
 skip
 refine ⟨[_],⟨Fz.deep rfl,trivial⟩,?_⟩
 rw [←ug];rfl
theorem vS (one:Bool) (g:FuncId) (fs cs:List AV) (hF:(AV.fn g fs cs).deep=true) (p:nE→Bool) (l:List nE) (full:Bool) (hl:l.length≤maxLen) (hp:∀ x ∈ l,af TT TB one (.fn g fs cs) [.ag (bG x)] (BB (p x))) :
  Pu one 119 [.sl (l.map bG) full,.fn g fs cs] (aj (vQ p l)):=by
 unfold maxLen at hl
 refine af.body (fn:=Tryz.f119) rfl rfl rfl rfl ?_
 refine aa (mu:=fun _=>false) ?_
 skip
 refine aL.cr (ai.to (l:=[(0,.sl (l.map bG) full),(1,.fn g fs cs),(7,aj l.length),(8,aj ((0:Nat):Int))]) 0 rfl ⟨rfl,rfl,cZ (by simp),rfl,trivial⟩ (Nat.le_refl _) (by simp [sF,sG,mm 0 _ hF]) rfl) ?_
 refine aL.loop (fun k:Nat=>k≤l.length∧∀ i (h:i < l.length),i < k→p l[i]=false) (fun k=>⟨cz [(0,.sl (l.map bG) full),(1,.fn g fs cs),(7,aj l.length),(8,aj (k:Int))],[],bF.none,false,0⟩) (fun k=>l.length - k) ?_ 0 ⟨Nat.zero_le _,fun i _ hi=>absurd hi (by omega)⟩
 intro k ⟨hk,hprev⟩
 refine aa (mu:=fun _=>false) ?_
 refine ⟨fun h=>?_,fun h=>?_⟩
 ·have hlt:k < l.length:=by simpa using h
  skip
  refine ⟨bG l[k],⟨by omega,by simp [hlt]⟩,rfl,?_⟩
  repeat' (first |refine u2 ?_ |fail)
  refine af.call (hp l[k] (List.getElem_mem _)) hF rfl ?_
  refine ⟨fun h2=>?_,fun h2=>?_⟩
  ·skip
   refine ⟨[_],⟨Fz.deep rfl,trivial⟩,?_⟩
   rw [oW hlt hprev h2];rfl
  ·repeat' (first |refine u2 ?_ |fail)
   refine ⟨k+1,⟨hlt,fun i hi hik=>?_⟩,(by dsimp only;omega),ai.to 0 rfl ⟨rfl,rfl,rfl,cZ (by simp),trivial⟩ (Nat.le_refl _) (by simp [sF,sG,mm 0 _ hF]) rfl⟩
   by_cases hik':i=k
   ·subst hik';exact h2
   ·exact hprev i hi (by omega)
 ·skip
  refine ⟨[_],⟨Fz.deep rfl,trivial⟩,?_⟩
  have:k=l.length:=by simp at h;omega
  rw [oX fun i hi=>hprev i hi (by omega)];rfl
theorem rG (one:Bool) (g:FuncId) (fs cs:List AV) (hF:(AV.fn g fs cs).deep=true) (p:nE→Bool) (l:List nE) (full:Bool) (hl:l.length≤maxLen) (hp:∀ x ∈ l,af TT TB one (.fn g fs cs) [.ag (bG x)] (BB (p x))) :
  Pu one 100 [.sl (l.map bG) full,.fn g fs cs] (BB (l.any p)):=by
 refine af.body (fn:=Tryz.f100) rfl rfl rfl rfl ?_
 refine aa (mu:=fun _=>false) ?_
 skip
 refine af.call (vS one g fs cs hF p l full hl hp) rfl (by simp only [dJ,AV.deep,Bool.and_true,Bool.true_and];exact hF) ?_
 skip
 refine ⟨[_],⟨Fz.deep rfl,trivial⟩,?_⟩
 rw [←ug];rfl
end Go.Proofs.YtlpmfgmldmdggaaGreat
open Go Go.RM
namespace Go.Proofs.YtlpmfgmldmdggaaGreat
set_option maxRecDepth 100000
def dR (lo hi:Int) (l:List Int):Bool:=l.any fun n=>decide (n < lo) || decide (hi < n)
def HY:List AV→Int
 | [.fl (.int _ n)]=>n
 | _=>0
def JI:List AV→Bool
 | [.fl (.int .i64 _)]=>true
 | _=>false
theorem allI:∀ {els:List (List AV)},els.all JI=true→els=ints (els.map HY)
 | [],_=>rfl
 | el :: els,h=>by
  simp only [List.all_cons,Bool.and_eq_true] at h
  have ih:=allI h.2
  have:el=eI (HY el):=by
   have h1:=h.1
   unfold JI at h1
   split at h1
   ·rfl
   ·cases h1
  show el :: els=eI (HY el) :: ints (els.map HY)
  rw [←this,←ih]
theorem DO (one:Bool) (lo hi:Int) (els:List (List AV)) (full:Bool) (h:els.all JI=true) (hl:els.length≤maxLen):Pu one 51 [aj lo,aj hi,.sl els full] (BB (dR lo hi (els.map HY))):=by
 obtain ⟨l,hl'⟩:∃ l,els.map HY=l:=⟨_,rfl⟩
 have he:els=ints l:=by rw [←hl'];exact allI h
 rw [hl']
 subst he
 refine af.body (fn:=Tryz.f51) rfl rfl rfl rfl ?_
 refine aa (mu:=fun _=>false) ?_
 repeat' (first |refine u2 ?_ |fail)
 refine af.call (sH one 96 [] _ rfl (fun n=>decide (n < lo) || decide (hi < n)) l full (by simpa using hl) (fun n _=>Cg one n lo hi)) rfl rfl ?_
 skip
 refine ⟨[_],⟨Fz.deep rfl,trivial⟩,?_⟩
 rfl
def xU:UInt8→List UInt8→Bool
 | last,[]=>decide (last.toNat ≠ 45)
 | last,c :: l=>if 97≤c.toNat∧c.toNat≤122 then xU c l else if c.toNat ≠ 45∨last.toNat=45 then false else xU c l
theorem A2 (last c:UInt8) (l:List UInt8):xU last (c :: l)=if 97≤c.toNat∧c.toNat≤122 then xU c l else if c.toNat ≠ 45∨last.toNat=45 then false else xU c l:=rfl
def iH (s:ByteArray):Bool:=decide (s.data.toList.length≤14) && xU 45 s.data.toList
theorem xV {s:ByteArray} {i:Nat} (h:i < s.data.toList.length):(s.get! i)=s.data.toList[i]:=by
 have:i < s.data.size:=by simpa using h
 simp only [ByteArray.get!,getElem!_pos s.data i this]
 simp
theorem DP {s:ByteArray} {i:Nat} (h:i < s.data.toList.length) (hb:(s.data.toList[i]).toNat < 128):Utf8.decode s i=((s.data.toList[i]).toNat,1):=by
 unfold Utf8.decode
 simp only [Nat.add_zero,xV h]
 rw [if_pos hb]
theorem DQ {s:ByteArray} {i:Nat} (h:i < s.data.toList.length) (hb:128≤(s.data.toList[i]).toNat):128≤(Utf8.decode s i).1:=by
 unfold Utf8.decode
 simp only [Nat.add_zero,xV h,Utf8.runeError]
 rw [if_neg (by omega)]
 repeat' split
 all_goals simp_all
 all_goals omega
theorem Ff (one : Bool) (s : ByteArray) (hs : s.data.toList.length ≤ maxLen) : Pu one 97 [ST s] (BB (iH s)) := by
  unfold maxLen at hs
  refine af.body (fn := Tryz.f97) rfl rfl rfl rfl ?_
  refine aa (mu := fun _ => false) ?_
  skip
  refine aL.cr (ai.to (l := [(0, ST s), (7, .ptr 0 0 0), (3, .fl (.int .i32 (((45 : UInt8).toNat : Nat) : Int)))]) 1 rfl ⟨rfl, rfl, rfl, trivial⟩ (Nat.zero_le _) rfl rfl) ?_
  refine aL.loop (fun x : Nat × UInt8 => x.1 ≤ s.data.toList.length ∧ xU 45 s.data.toList = xU x.2 (s.data.toList.drop x.1)) (fun x => ⟨cz [(0, ST s), (7, .ptr 0 0 0), (3, .fl (.int .i32 ((x.2.toNat : Nat) : Int)))], [.dj s x.1], bF.none, false, 0⟩) (fun x => s.data.toList.length - x.1) ?_ (0, 45) ⟨Nat.zero_le _, rfl⟩
  intro ⟨pos, last⟩ ⟨hpos, hrel⟩
  refine aa (mu := fun _ => false) ?_
  have hdrop : ∀ h : pos < s.data.toList.length, s.data.toList.drop pos = s.data.toList[pos] :: s.data.toList.drop (pos + 1) := fun h => List.drop_eq_getElem_cons h
  refine ⟨s, pos, rfl, fun hlt => ?_, fun hge => ?_⟩
  · rw [hdrop hlt] at hrel
    simp only at hrel
    generalize hc : s.data.toList[pos] = c at hrel
    have hc256 : c.toNat < 256 := c.toNat_lt
    rw [A2] at hrel
    by_cases hb : c.toNat < 128
    · have hd := DP hlt (by rw [hc]; exact hb)
      rw [hc] at hd
      rw [hd]
      clear hd hc hdrop
      repeat' (first |(refine ⟨_, rfl, ?_⟩) |(refine fM (by assumption) ?_) |(refine fM rfl ?_) |(refine gz rfl ?_) |(refine gz (by assumption) ?_) |(refine ⟨_, _, rfl, rfl, _, rfl, rfl, ?_⟩) |(refine ⟨fun h => ?_, fun h => ?_⟩) |fail)
      all_goals first
        | (refine ⟨(pos + 1, c), ⟨hlt, ?_⟩, (by dsimp only; omega), ai.to 1 rfl ⟨rfl, rfl, rfl, trivial⟩ (Nat.zero_le _) rfl rfl⟩
           first
             | rw [hrel, if_pos (by simp at *; omega)]
             | rw [hrel, if_neg (by simp at *; omega), if_neg (by simp at *; omega)])
        | (refine ⟨[_], ⟨Fz.deep rfl, trivial⟩, Hu ?_⟩
           rw [iH, hrel, if_neg (by simp at *; omega), if_pos (by simp at *; omega)]
           simp)
    · have hd := DQ hlt (by rw [hc]; omega)
      generalize Utf8.decode s pos = d at hd
      clear hc hdrop
      repeat' (first |(refine ⟨_, rfl, ?_⟩) |(refine fM (by assumption) ?_) |(refine fM rfl ?_) |(refine gz rfl ?_) |(refine gz (by assumption) ?_) |(refine ⟨_, _, rfl, rfl, _, rfl, rfl, ?_⟩) |(refine ⟨fun h => ?_, fun h => ?_⟩) |fail)
      all_goals first
        | (exfalso; simp at *; omega)
        | (refine ⟨[_], ⟨Fz.deep rfl, trivial⟩, Hu ?_⟩
           rw [iH, hrel, if_neg (by omega), if_pos (by omega)]
           simp)
  · have hlen : pos = s.data.toList.length := by simp only at hpos; omega
    subst hlen
    simp only [List.drop_length, xU] at hrel
    repeat' (first |(refine ⟨_, rfl, ?_⟩) |(refine fM (by assumption) ?_) |(refine gz rfl ?_) |(refine gz (by assumption) ?_) |(refine ⟨_, _, rfl, rfl, _, rfl, rfl, ?_⟩) |(refine ⟨fun h => ?_, fun h => ?_⟩) |fail)
    all_goals refine ⟨[_], ⟨Fz.deep rfl, trivial⟩, Hu ?_⟩
    all_goals rw [iH, hrel, Bool.eq_iff_iff]
    all_goals simp at *
    all_goals omega
end Go.Proofs.YtlpmfgmldmdggaaGreat
open Go Go.RM
namespace Go.Proofs.YtlpmfgmldmdggaaGreat
set_option maxRecDepth 100000
def wB (a b:ByteArray):Bool:=a.toList == b.toList
def cG (n:Nat) (e:Nat→Int):Int × Int:=match (List.range n).find? (fun i=>e i != 0) with
 | some i=>((i:Int),e i)
 | none=>(0,0)
theorem lE {n k:Nat} {e:Nat→Int} (hk:k < n) (hprev:∀ i,i < k→e i=0) (h:e k ≠ 0):cG n e=((k:Int),e k):=by
 unfold cG
 have:(List.range n).find? (fun i=>e i != 0)=some k:=by
  rw [List.find?_range_eq_some]
  exact ⟨by simpa using h,by simpa using hk,fun j hj=>by simp [hprev j hj]⟩
 rw [this]
theorem lF {n:Nat} {e:Nat→Int} (hprev:∀ i,i < n→e i=0):cG n e=(0,0):=by
 unfold cG
 have:(List.range n).find? (fun i=>e i != 0)=none:=by
  rw [List.find?_eq_none]
  intro x hx
  simp [hprev x (by simpa using hx)]
 rw [this]
end Go.Proofs.YtlpmfgmldmdggaaGreat
open Go Go.RM
namespace Go.Proofs.YtlpmfgmldmdggaaGreat
set_option maxRecDepth 100000
def kS (n lo hi:Int):Bool:=decide (lo≤n) && decide (n≤hi)
theorem bL {n lo hi:Int}:kS n lo hi=true ↔ lo≤n∧n≤hi:=by simp [kS]
theorem bp (n lo hi:Int):dR lo hi [n]=!kS n lo hi:=by
 unfold dR kS
 rw [Bool.eq_iff_iff]
 simp
theorem i6 (one:Bool) (n lo hi:Int):Pu one 58 [aj n,aj lo,aj hi] (BB (kS n lo hi)):=by
 refine af.body (fn:=Tryz.f58) rfl rfl rfl rfl ?_
 refine aa (mu:=fun _=>false) ?_
 repeat' (first |(refine fM (by assumption) ?_) |(refine gz (by assumption) ?_) |(refine ⟨fun h=>?_,fun h=>?_⟩) |fail)
 all_goals refine ⟨[_],⟨Fz.deep rfl,trivial⟩,Hu ?_⟩
 all_goals simp_all [kS]
 all_goals omega
theorem GA (one:Bool) (n lo hi:Int):Pu one 120 [aj n,aj lo,aj hi] (BB (kS n lo hi)):=by
 refine af.body (fn:=Tryz.f120) rfl rfl rfl rfl ?_
 refine aa (mu:=fun _=>false) ?_
 repeat' (first |(refine fM (by assumption) ?_) |(refine gz (by assumption) ?_) |(refine ⟨fun h=>?_,fun h=>?_⟩) |fail)
 all_goals refine ⟨[_],⟨Fz.deep rfl,trivial⟩,Hu ?_⟩
 all_goals simp_all [kS]
 all_goals omega
theorem xW {s:ByteArray} {k:Nat} (h:k < s.data.toList.length):cU (aA TT.P (Instr.index 9 (.string s) (.int .i64 (k:Int))))=some (.int .u8 ((s.data.toList[k].toNat:Nat):Int),.none):=by
 have hk:k < s.size:=by rwa [Array.length_toList] at h
 have e:(if (0:Int)≤(k:Int) then s[(k:Int).toNat]? else none)=some (s.data.toList[k]):=by
  rw [if_pos (by omega),Int.toNat_natCast]
  rw [getElem?_pos s k hk]
  rfl
 unfold Instr.index
 show cU (aA TT.P (match (if (0:Int)≤(k:Int) then s[(k:Int).toNat]? else none) with
  | some b=>pure (.int .u8 b.toNat)
  | none=>boundsPanic .i64 k s.size .index))=_
 rw [e]
 rfl
theorem cM {α β:Type} {f:α→β} {l:List α} {k:Nat} (h:k < l.length):(l.map f)[((k:Nat):Int).toNat]?=some (f l[k]):=by
 rw [Int.toNat_natCast,List.getElem?_map,List.getElem?_eq_getElem h]
 rfl
def lG (l:List UInt8):Nat→UInt8
 | 0=>45
 | k+1=>l[k]?.getD 45
theorem nc {l:List UInt8} {k:Nat} (h:k < l.length):lG l (k+1)=l[k]:=by
 show (l[k]?).getD 45=l[k]
 rw [List.getElem?_eq_getElem h]
 rfl
theorem Fg {l:List UInt8} {k:Nat} (h:k < l.length):xU (lG l k) (l.drop k)=if 97≤l[k].toNat∧l[k].toNat≤122 then xU (lG l (k+1)) (l.drop (k+1)) else if l[k].toNat ≠ 45∨(lG l k).toNat=45 then false else xU (lG l (k+1)) (l.drop (k+1)):=by
 rw [List.drop_eq_getElem_cons h,A2,nc h]
theorem GC {l:List UInt8} {k:Nat} (h:k+1=l.length) (h45:l[k].toNat=45):xU (lG l (k+1)) (l.drop (k+1))=false:=by
 rw [nc (by omega),h,List.drop_length]
 unfold xU
 simp [h45]
abbrev eS (s:ByteArray):List AV:=[ST s]
theorem GD (one:Bool) (names:List ByteArray) (full:Bool) (s:ByteArray) (hl:names.length≤maxLen):Pu one 103 [.sl (names.map eS) full,ST s] (aj (vQ (fun x=>wB x s) names)):=by
 unfold maxLen at hl
 refine af.body (fn:=Tryz.f103) rfl rfl rfl rfl ?_
 refine aa (mu:=fun _=>false) ?_
 skip
 refine aL.cr (ai.to (l:=[(0,.sl (names.map eS) full),(1,ST s),(5,aj ((0:Nat):Int))]) 0 rfl ⟨rfl,rfl,rfl,trivial⟩ (Nat.le_refl _) rfl rfl) ?_
 refine aL.loop (fun k:Nat=>k≤names.length∧∀ i (h:i < names.length),i < k→wB names[i] s=false) (fun k=>⟨cz [(0,.sl (names.map eS) full),(1,ST s),(5,aj (k:Int))],[],bF.none,false,0⟩) (fun k=>names.length - k) ?_ 0 ⟨Nat.zero_le _,fun i _ hi=>absurd hi (by omega)⟩
 intro k ⟨hk,hprev⟩
 refine aa (mu:=fun _=>false) ?_
 skip
 refine ⟨fun h=>?_,fun h=>?_⟩
 ·have hlt:k < names.length:=by simpa using h
  skip
  refine ⟨eS names[k],⟨by omega,cM hlt⟩,rfl,?_⟩
  repeat' (first |refine u1 ?_ |refine u2 ?_ |fail)
  refine ⟨fun h2=>?_,fun h2=>?_⟩
  ·skip
   refine ⟨[_],⟨Fz.deep rfl,trivial⟩,cZ ?_⟩
   exact (oW hlt hprev h2).symm
  ·repeat' (first |refine u2 ?_ |fail)
   refine ⟨k+1,⟨hlt,fun i hi hik=>?_⟩,(by dsimp only;omega),ai.to 0 rfl ⟨rfl,rfl,cZ (by simp),trivial⟩ (Nat.le_refl _) rfl rfl⟩
   by_cases hik':i=k
   ·subst hik';exact h2
   ·exact hprev i hi (by omega)
 ·skip
  refine ⟨[_],⟨Fz.deep rfl,trivial⟩,cZ ?_⟩
  have:k=names.length:=by simp at h;omega
  rw [oX fun i hi=>hprev i hi (by omega)]
theorem GF (one : Bool) (s : ByteArray) (hs : s.data.toList.length ≤ maxLen) : Pu one 102 [ST s] (BB (iH s)) := by
  unfold maxLen at hs
  refine af.body (fn := Tryz.f102) rfl rfl rfl rfl ?_
  refine aa (mu := fun _ => false) ?_
  repeat' (first |(refine af.call (GA one _ _ _) rfl rfl ?_) |fail)
  refine ⟨fun h => ?_, fun h => ?_⟩
  · skip
    refine ⟨[_], ⟨Fz.deep rfl, trivial⟩, Hu ?_⟩
    have h : ¬ (1 ≤ s.data.toList.length ∧ s.data.toList.length ≤ 14) := by
      rw [Bool.not_eq_true', ← Bool.not_eq_true, bL] at h
      omega
    unfold iH
    generalize s.data.toList = l at h
    cases l with
    | nil => simp [xU]
    | cons a l =>
      have : 0 < (a :: l).length := Nat.succ_pos _
      rw [decide_eq_false (by omega)]
      rfl
  · have h : 1 ≤ s.data.toList.length ∧ s.data.toList.length ≤ 14 := by
      rw [Bool.not_eq_false', bL] at h
      omega
    have hn : iH s = xU 45 s.data.toList := by
      unfold iH
      rw [decide_eq_true h.2, Bool.true_and]
    skip
    refine aL.cr (ai.to (l := [(0, ST s), (3, aj ((0 : Nat) : Int))]) 0 rfl ⟨rfl, rfl, trivial⟩ (Nat.le_refl _) rfl rfl) ?_
    refine aL.loop (fun k : Nat => k ≤ s.data.toList.length ∧ iH s = xU (lG s.data.toList k) (s.data.toList.drop k) ∧ (k = s.data.toList.length → (lG s.data.toList k).toNat ≠ 45)) (fun k => ⟨cz [(0, ST s), (3, aj (k : Int))], [], bF.none, false, 0⟩) (fun k => s.data.toList.length - k) ?_ 0 ⟨Nat.zero_le _, hn, fun h0 => by omega⟩
    intro k ⟨hk, hrel, hlast⟩
    refine aa (mu := fun _ => false) ?_
    skip
    refine ⟨fun h => ?_, fun h => ?_⟩
    · have hlt : k < s.data.toList.length := by rw [decide_eq_true_eq] at h; omega
      rw [Fg hlt] at hrel
      have hix := xW hlt
      generalize hc : s.data.toList[k] = c at hrel hix
      have hix1 : 0 < k → cU (aA TT.P (Instr.index 9 (.string s) (.int .i64 ((k : Int) - 1)))) = some (.int .u8 (((lG s.data.toList k).toNat : Nat) : Int), .none) := by
        intro h0
        obtain ⟨m, rfl⟩ : ∃ m, k = m + 1 := ⟨k - 1, by omega⟩
        rw [nc (by omega), show (((m + 1 : Nat) : Int) - 1) = ((m : Nat) : Int) from by omega]
        exact xW (by omega)
      have hl0 : k = 0 → (lG s.data.toList k).toNat = 45 := by
        rintro rfl
        rfl
      have hend : k + 1 = s.data.toList.length → c.toNat = 45 → xU (lG s.data.toList (k + 1)) (s.data.toList.drop (k + 1)) = false := fun h1 h2 => GC h1 (by rw [hc]; exact h2)
      have hsucc : lG s.data.toList (k + 1) = c := by rw [nc hlt, hc]
      clear hc hn hlast
      generalize lG s.data.toList k = d at hrel hix1 hl0
      generalize hr : xU (lG s.data.toList (k + 1)) (s.data.toList.drop (k + 1)) = r at hrel hend
      repeat' (first |(refine fM (by assumption) ?_) |(refine fM rfl ?_) |(refine gz rfl ?_) |(refine gz (by assumption) ?_) |(refine And.intro (by omega) ?_) |(refine ⟨_, _, rfl, rfl, _, rfl, rfl, ?_⟩) |(refine ⟨_, _, rfl, rfl, _, hix, rfl, ?_⟩) |(refine ⟨_, _, rfl, rfl, _, hix1 (by rcases Nat.eq_zero_or_pos k with h0 | h0; (exfalso; simp_all); exact h0), rfl, ?_⟩) |(refine ⟨fun h => ?_, fun h => ?_⟩) |fail)
      all_goals first
        | (refine ⟨k + 1, ⟨hlt, ?_, fun h1 => by rw [hsucc]; clear hix hix1 hr hsucc; simp at *; omega⟩, (by dsimp only; omega), ai.to 0 rfl ⟨rfl, cZ (by simp), trivial⟩ (Nat.le_refl _) rfl rfl⟩
           rw [hr]
           first
             | rw [hrel, if_pos (by simp at *; omega)]
             | rw [hrel, if_neg (by simp at *; omega), if_neg (by simp at *; omega)])
        | (refine ⟨[_], ⟨Fz.deep rfl, trivial⟩, Hu ?_⟩
           rw [hrel, if_neg (by simp at *; omega)]
           split
           · rfl
           · exact (hend (by simp at *; omega) (by simp at *; omega)).symm)
    · skip
      refine ⟨[_], ⟨Fz.deep rfl, trivial⟩, Hu ?_⟩
      have : k = s.data.toList.length := by rw [decide_eq_false_iff_not] at h; omega
      rw [hrel, this, List.drop_length]
      have := hlast this
      rw [‹k = s.data.toList.length›] at this
      unfold xU
      simp only [ne_eq, this, not_false_eq_true, decide_true]
end Go.Proofs.YtlpmfgmldmdggaaGreat
open Go Go.RM
namespace Go.Proofs.YtlpmfgmldmdggaaGreat
set_option maxRecDepth 100000
def kR (name:ByteArray) (names:List ByteArray):Int:=if iH name=false then 6 else if names.any (fun x=>wB x name) then 5 else 0
theorem CW (one:Bool) (names:List ByteArray) (full:Bool) (s:ByteArray) (hs:s.data.toList.length≤maxLen) (hl:names.length≤maxLen):Pu one 59 [ST s,.sl (names.map eS) full] (aj (kR s names)):=by
 have hg:=ug (fun x=>wB x s) names
 have hc:=GD one names full s hl
 unfold kR
 generalize vQ (fun x=>wB x s) names=i at hg hc
 generalize names.any (fun x=>wB x s)=b at hg
 refine af.body (fn:=Tryz.f59) rfl rfl rfl rfl ?_
 refine aa (mu:=fun _=>false) ?_
 repeat' (first |with_reducible (first|refine E6 ?_|refine Gr ?_|refine Gs ?_|refine AY ?_) |(refine af.call (GF one _ hs) rfl rfl ?_) |(refine af.call hc rfl rfl ?_) |(refine ⟨fun h=>?_,fun h=>?_⟩) |fail)
 all_goals refine ⟨[_],⟨Fz.deep rfl,trivial⟩,cZ ?_⟩
 all_goals simp_all
end Go.Proofs.YtlpmfgmldmdggaaGreat
