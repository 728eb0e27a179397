/-
  Contracts of the program's functions and of the document's. Lemmas alone; their conditions stand in them.
-/
import Derived.Test.YtlpmfgmldmdggaaGreatR2
import Derived.Test.YtlpmfgmldmdggaaGreatR4
import Derived.Test.YtlpmfgmldmdggaaGreatA1
import Derived.Test.YtlpmfgmldmdggaaGreatA2
import Derived.Test.YtlpmfgmldmdggaaGreatA3
import Derived.Test.YtlpmfgmldmdggaaGreatT1
import Derived.Test.YtlpmfgmldmdggaaGreatRows
import Derived.ProofKit
open Go Go.RM
namespace Go.Proofs.YtlpmfgmldmdggaaGreat
open Go.ChangeShapes Go.WideShapes Go.ChangeAt Go.RowKit
set_option maxRecDepth 100000
theorem HK:ownKnob Tryz.prog.godebug=none:=by kernel_rfl
theorem F0:laidOutB Tryz.prog=true:=by kernel_rfl
end Go.Proofs.YtlpmfgmldmdggaaGreat
open Go Go.RM
namespace Go.Proofs.YtlpmfgmldmdggaaGreat
set_option maxRecDepth 100000
abbrev ah (n:Int):AV:=.fl (.int .i64 n)
abbrev BB (b:Bool):AV:=.fl (.bool b)
abbrev ST (s:ByteArray):AV:=.fl (.string s)
abbrev eI (n:Int):List AV:=[ah n]
abbrev ints (l:List Int):List (List AV):=l.map eI
def Lj:XE:=⟨26,[],[],.bool true,[]⟩
def TB:List XE:=[Lj]
abbrev Pu (one:Bool) (f:FuncId) (args:List AV) (v:AV):Prop:=af TT TB one (.fn f [] []) args v
def wU {α:Type} (p:α→Bool) (l:List α):Int:=match l.findIdx? p with
 | some i=>(i:Int)
 | none=>-1
theorem pQ {α:Type} {p:α→Bool} {l:List α} {k:Nat} (hk:k < l.length) (hprev:∀ i (h:i < l.length),i < k→p l[i]=false) (hp:p l[k]=true):wU p l=k:=by
 unfold wU
 have:l.findIdx? p=some k:=by
  rw [List.findIdx?_eq_some_iff_getElem]
  exact ⟨hk,hp,fun j hj=>by simp [hprev j (by omega) hj]⟩
 rw [this]
theorem pR {α:Type} {p:α→Bool} {l:List α} (hprev:∀ i (h:i < l.length),p l[i]=false):wU p l=-1:=by
 unfold wU
 have:l.findIdx? p=none:=by
  rw [List.findIdx?_eq_none_iff]
  intro x hx
  obtain ⟨i,hi,rfl⟩:=List.getElem_of_mem hx
  exact hprev i hi
 rw [this]
theorem u7 {α:Type} (p:α→Bool) (l:List α):decide (0≤wU p l)=l.any p:=by
 unfold wU
 cases h:l.findIdx? p with
 | some i =>
  rw [List.findIdx?_eq_some_iff_getElem] at h
  obtain ⟨h1,h2,_⟩:=h
  simp only [Int.natCast_nonneg,decide_true]
  symm
  rw [List.any_eq_true]
  exact ⟨_,List.getElem_mem h1,h2⟩
 | none =>
  rw [List.findIdx?_eq_none_iff] at h
  simp
  intro x hx;exact h x hx
theorem mH (n:Nat):∀ (v:AV),v.deep=true→v.ig n=true:=by
 apply AV.rec (motive_1:=fun v=>v.deep=true→v.ig n=true) (motive_2:=fun _=>True) (motive_3:=fun l=>de l=true→sq n l=true)
 ·intro v _;rfl
 ·intro a b _ _;rfl
 ·intro a b _ _;rfl
 ·intro f a b ha hb h
  simp only [AV.deep,Bool.and_eq_true] at h
  simp only [AV.ig,Bool.and_eq_true]
  exact ⟨ha h.1,hb h.2⟩
 ·intro a ha h
  simp only [AV.deep] at h
  simp only [AV.ig]
  exact ha h
 ·intro a ha h
  simp only [AV.deep] at h
  simp only [AV.ig]
  exact ha h
 ·intro j v o h;simp [AV.deep] at h
 ·intro j v o n c h;simp [AV.deep] at h
 ·intro j h;simp [AV.deep] at h
 ·intro u _;rfl
 ·intro h;simp [AV.deep] at h
 ·trivial
 ·intros;trivial
 ·intro _;rfl
 ·intro a l ha hl h
  simp only [de,Bool.and_eq_true] at h
  simp only [sq,Bool.and_eq_true]
  exact ⟨ha h.1,hl h.2⟩
theorem tv {n:Nat} {v:Value}:(AV.fl v).ig n=true:=rfl
theorem tw {n:Nat} {a:List (List AV)} {b:Bool}:(AV.sl a b).ig n=true:=rfl
theorem cK {a b:Int} (h:a=b):AV.fl (.int .i64 a)=AV.fl (.int .i64 b):=by rw [h]
theorem Ja {a b:Bool} (h:a=b):AV.fl (.bool a)=AV.fl (.bool b):=by rw [h]
theorem Db (one:Bool) (n lo hi:Int):af TT TB one (.fn 96 [] [.pt [ah lo] 0,.pt [ah hi] 0]) [ah n] (BB (decide (n < lo) || decide (hi < n))):=by
 refine af.body (fn:=Tryz.f96) rfl rfl rfl rfl ?_
 refine aa (mu:=fun _=>false) ?_
 repeat' (first |(refine ⟨_,rfl,?_⟩) |(refine fW (by assumption) ?_) |(refine gK (by assumption) ?_) |(refine ⟨fun h=>?_,fun h=>?_⟩) |fail)
 all_goals refine ⟨[_],⟨Fz.deep rfl,trivial⟩,?_⟩
 all_goals simp_all [l6]
theorem ye (one:Bool) (g:FuncId) (fs cs:List AV) (hF:(AV.fn g fs cs).deep=true) (p:Int→Bool) (l:List Int) (full:Bool) (hl:l.length≤maxLen) (hp:∀ n ∈ l,af TT TB one (.fn g fs cs) [ah n] (BB (p n))) :
  Pu one 88 [.sl (ints l) full,.fn g fs cs] (ah (wU p l)):=by
 unfold maxLen at hl
 refine af.body (fn:=Tryz.f88) rfl rfl rfl rfl ?_
 refine aa (mu:=fun _=>false) ?_
 skip
 refine aC.bx (aj.to (l:=[(0,.sl (ints l) full),(1,.fn g fs cs),(7,ah l.length),(8,ah ((0:Nat):Int))]) 0 rfl ⟨rfl,rfl,cK (by simp),rfl,trivial⟩ (Nat.le_refl _) (by simp [tv,tw,mH 0 _ hF]) rfl) ?_
 refine aC.loop (fun k:Nat=>k≤l.length∧∀ i (h:i < l.length),i < k→p l[i]=false) (fun k=>⟨bM [(0,.sl (ints l) full),(1,.fn g fs cs),(7,ah l.length),(8,ah (k:Int))],[],bw.none,false,0⟩) (fun k=>l.length - k) ?_ 0 ⟨Nat.zero_le _,fun i _ hi=>absurd hi (by omega)⟩
 intro k ⟨hk,hprev⟩
 refine aa (mu:=fun _=>false) ?_
 refine ⟨fun h=>?_,fun h=>?_⟩
 ·have hlt:k < l.length:=by simpa using h
  refine ⟨[ah l[k]],⟨by omega,by simp [hlt]⟩,rfl,?_⟩
  repeat' (first |refine u1 ?_ |fail)
  refine af.call (hp l[k] (List.getElem_mem _)) hF rfl ?_
  refine ⟨fun h2=>?_,fun h2=>?_⟩
  ·refine ⟨[_],⟨Fz.deep rfl,trivial⟩,?_⟩
   rw [pQ hlt hprev h2];rfl
  ·repeat' (first |refine u2 ?_ |fail)
   refine ⟨k+1,⟨hlt,fun i hi hik=>?_⟩,(by dsimp only;omega),aj.to 0 rfl ⟨rfl,rfl,rfl,cK (by simp),trivial⟩ (Nat.le_refl _) (by simp [tv,tw,mH 0 _ hF]) rfl⟩
   by_cases hik':i=k
   ·subst hik';exact h2
   ·exact hprev i hi (by omega)
 ·skip
  refine ⟨[_],⟨Fz.deep rfl,trivial⟩,?_⟩
  have:k=l.length:=by simp at h;omega
  rw [pR fun i hi=>hprev i hi (by omega)];rfl
end Go.Proofs.YtlpmfgmldmdggaaGreat
open Go Go.RM
namespace Go.Proofs.YtlpmfgmldmdggaaGreat
set_option maxRecDepth 100000
structure fL where
 name:ByteArray
 Gt:Int
 leave:Int
 Gu:Int
 nx:Int
structure nQ where
 name:ByteArray
 iN:Int
 fm:Int
 Dc:Bool
structure ay where
 aA:List fL
 aG:List nQ
 least:Int
abbrev bA (r:fL):List AV:=[ST r.name,ah r.Gt,ah r.leave,ah r.Gu,ah r.nx]
abbrev bp (m:nQ):List AV:=[ST m.name,ah m.iN,ah m.fm,BB m.Dc]
abbrev aF (c:ay):List AV:=[.sl (c.aA.map bA) false,.sl (c.aG.map bp) false,ah c.least]
theorem tA (one:Bool) (g:FuncId) (fs cs:List AV) (hF:(AV.fn g fs cs).deep=true) (p:Int→Bool) (l:List Int) (full:Bool) (hl:l.length≤maxLen) (hp:∀ x ∈ l,af TT TB one (.fn g fs cs) [ah x] (BB (p x))) :
  Pu one 95 [.sl (l.map eI) full,.fn g fs cs] (BB (l.any p)):=by
 refine af.body (fn:=Tryz.f95) rfl rfl rfl rfl ?_
 refine aa (mu:=fun _=>false) ?_
 skip
 refine af.call (ye one g fs cs hF p l full hl hp) rfl (by simp only [de,AV.deep,Bool.and_true,Bool.true_and];exact hF) ?_
 skip
 refine ⟨[_],⟨Fz.deep rfl,trivial⟩,?_⟩
 rw [←u7];rfl
theorem wV (one:Bool) (g:FuncId) (fs cs:List AV) (hF:(AV.fn g fs cs).deep=true) (p:fL→Bool) (l:List fL) (full:Bool) (hl:l.length≤maxLen) (hp:∀ x ∈ l,af TT TB one (.fn g fs cs) [.ag (bA x)] (BB (p x))) :
  Pu one 118 [.sl (l.map bA) full,.fn g fs cs] (ah (wU p l)):=by
 unfold maxLen at hl
 refine af.body (fn:=Tryz.f118) rfl rfl rfl rfl ?_
 refine aa (mu:=fun _=>false) ?_
 skip
 refine aC.bx (aj.to (l:=[(0,.sl (l.map bA) full),(1,.fn g fs cs),(7,ah l.length),(8,ah ((0:Nat):Int))]) 0 rfl ⟨rfl,rfl,cK (by simp),rfl,trivial⟩ (Nat.le_refl _) (by simp [tv,tw,mH 0 _ hF]) rfl) ?_
 refine aC.loop (fun k:Nat=>k≤l.length∧∀ i (h:i < l.length),i < k→p l[i]=false) (fun k=>⟨bM [(0,.sl (l.map bA) full),(1,.fn g fs cs),(7,ah l.length),(8,ah (k:Int))],[],bw.none,false,0⟩) (fun k=>l.length - k) ?_ 0 ⟨Nat.zero_le _,fun i _ hi=>absurd hi (by omega)⟩
 intro k ⟨hk,hprev⟩
 refine aa (mu:=fun _=>false) ?_
 refine ⟨fun h=>?_,fun h=>?_⟩
 ·have hlt:k < l.length:=by simpa using h
  skip
  refine ⟨bA l[k],⟨by omega,by simp [hlt]⟩,rfl,?_⟩
  repeat' (first |refine u2 ?_ |fail)
  refine af.call (hp l[k] (List.getElem_mem _)) hF rfl ?_
  refine ⟨fun h2=>?_,fun h2=>?_⟩
  ·skip
   refine ⟨[_],⟨Fz.deep rfl,trivial⟩,?_⟩
   rw [pQ hlt hprev h2];rfl
  ·repeat' (first |refine u2 ?_ |fail)
   refine ⟨k+1,⟨hlt,fun i hi hik=>?_⟩,(by dsimp only;omega),aj.to 0 rfl ⟨rfl,rfl,rfl,cK (by simp),trivial⟩ (Nat.le_refl _) (by simp [tv,tw,mH 0 _ hF]) rfl⟩
   by_cases hik':i=k
   ·subst hik';exact h2
   ·exact hprev i hi (by omega)
 ·skip
  refine ⟨[_],⟨Fz.deep rfl,trivial⟩,?_⟩
  have:k=l.length:=by simp at h;omega
  rw [pR fun i hi=>hprev i hi (by omega)];rfl
theorem tB (one:Bool) (g:FuncId) (fs cs:List AV) (hF:(AV.fn g fs cs).deep=true) (p:fL→Bool) (l:List fL) (full:Bool) (hl:l.length≤maxLen) (hp:∀ x ∈ l,af TT TB one (.fn g fs cs) [.ag (bA x)] (BB (p x))) :
  Pu one 98 [.sl (l.map bA) full,.fn g fs cs] (BB (l.any p)):=by
 refine af.body (fn:=Tryz.f98) rfl rfl rfl rfl ?_
 refine aa (mu:=fun _=>false) ?_
 skip
 refine af.call (wV one g fs cs hF p l full hl hp) rfl (by simp only [de,AV.deep,Bool.and_true,Bool.true_and];exact hF) ?_
 skip
 refine ⟨[_],⟨Fz.deep rfl,trivial⟩,?_⟩
 rw [←u7];rfl
theorem wW (one:Bool) (g:FuncId) (fs cs:List AV) (hF:(AV.fn g fs cs).deep=true) (p:nQ→Bool) (l:List nQ) (full:Bool) (hl:l.length≤maxLen) (hp:∀ x ∈ l,af TT TB one (.fn g fs cs) [.ag (bp x)] (BB (p x))) :
  Pu one 119 [.sl (l.map bp) full,.fn g fs cs] (ah (wU p l)):=by
 unfold maxLen at hl
 refine af.body (fn:=Tryz.f119) rfl rfl rfl rfl ?_
 refine aa (mu:=fun _=>false) ?_
 skip
 refine aC.bx (aj.to (l:=[(0,.sl (l.map bp) full),(1,.fn g fs cs),(7,ah l.length),(8,ah ((0:Nat):Int))]) 0 rfl ⟨rfl,rfl,cK (by simp),rfl,trivial⟩ (Nat.le_refl _) (by simp [tv,tw,mH 0 _ hF]) rfl) ?_
 refine aC.loop (fun k:Nat=>k≤l.length∧∀ i (h:i < l.length),i < k→p l[i]=false) (fun k=>⟨bM [(0,.sl (l.map bp) full),(1,.fn g fs cs),(7,ah l.length),(8,ah (k:Int))],[],bw.none,false,0⟩) (fun k=>l.length - k) ?_ 0 ⟨Nat.zero_le _,fun i _ hi=>absurd hi (by omega)⟩
 intro k ⟨hk,hprev⟩
 refine aa (mu:=fun _=>false) ?_
 refine ⟨fun h=>?_,fun h=>?_⟩
 ·have hlt:k < l.length:=by simpa using h
  skip
  refine ⟨bp l[k],⟨by omega,by simp [hlt]⟩,rfl,?_⟩
  repeat' (first |refine u2 ?_ |fail)
  refine af.call (hp l[k] (List.getElem_mem _)) hF rfl ?_
  refine ⟨fun h2=>?_,fun h2=>?_⟩
  ·skip
   refine ⟨[_],⟨Fz.deep rfl,trivial⟩,?_⟩
   rw [pQ hlt hprev h2];rfl
  ·repeat' (first |refine u2 ?_ |fail)
   refine ⟨k+1,⟨hlt,fun i hi hik=>?_⟩,(by dsimp only;omega),aj.to 0 rfl ⟨rfl,rfl,rfl,cK (by simp),trivial⟩ (Nat.le_refl _) (by simp [tv,tw,mH 0 _ hF]) rfl⟩
   by_cases hik':i=k
   ·subst hik';exact h2
   ·exact hprev i hi (by omega)
 ·skip
  refine ⟨[_],⟨Fz.deep rfl,trivial⟩,?_⟩
  have:k=l.length:=by simp at h;omega
  rw [pR fun i hi=>hprev i hi (by omega)];rfl
theorem sx (one:Bool) (g:FuncId) (fs cs:List AV) (hF:(AV.fn g fs cs).deep=true) (p:nQ→Bool) (l:List nQ) (full:Bool) (hl:l.length≤maxLen) (hp:∀ x ∈ l,af TT TB one (.fn g fs cs) [.ag (bp x)] (BB (p x))) :
  Pu one 100 [.sl (l.map bp) full,.fn g fs cs] (BB (l.any p)):=by
 refine af.body (fn:=Tryz.f100) rfl rfl rfl rfl ?_
 refine aa (mu:=fun _=>false) ?_
 skip
 refine af.call (wW one g fs cs hF p l full hl hp) rfl (by simp only [de,AV.deep,Bool.and_true,Bool.true_and];exact hF) ?_
 skip
 refine ⟨[_],⟨Fz.deep rfl,trivial⟩,?_⟩
 rw [←u7];rfl
end Go.Proofs.YtlpmfgmldmdggaaGreat
open Go Go.RM
namespace Go.Proofs.YtlpmfgmldmdggaaGreat
set_option maxRecDepth 100000
def ec (lo hi:Int) (l:List Int):Bool:=l.any fun n=>decide (n < lo) || decide (hi < n)
def JF:List AV→Int
 | [.fl (.int _ n)]=>n
 | _=>0
def Ll:List AV→Bool
 | [.fl (.int .i64 _)]=>true
 | _=>false
theorem allI:∀ {els:List (List AV)},els.all Ll=true→els=ints (els.map JF)
 | [],_=>rfl
 | el :: els,h=>by
  simp only [List.all_cons,Bool.and_eq_true] at h
  have ih:=allI h.2
  have:el=eI (JF el):=by
   have h1:=h.1
   unfold Ll at h1
   split at h1
   ·rfl
   ·cases h1
  show el :: els=eI (JF el) :: ints (els.map JF)
  rw [←this,←ih]
theorem EZ (one:Bool) (lo hi:Int) (els:List (List AV)) (full:Bool) (h:els.all Ll=true) (hl:els.length≤maxLen):Pu one 51 [ah lo,ah hi,.sl els full] (BB (ec lo hi (els.map JF))):=by
 obtain ⟨l,hl'⟩:∃ l,els.map JF=l:=⟨_,rfl⟩
 have he:els=ints l:=by rw [←hl'];exact allI h
 rw [hl']
 subst he
 refine af.body (fn:=Tryz.f51) rfl rfl rfl rfl ?_
 refine aa (mu:=fun _=>false) ?_
 repeat' (first |refine u2 ?_ |fail)
 refine af.call (tA one 96 [] _ rfl (fun n=>decide (n < lo) || decide (hi < n)) l full (by simpa using hl) (fun n _=>Db one n lo hi)) rfl rfl ?_
 skip
 refine ⟨[_],⟨Fz.deep rfl,trivial⟩,?_⟩
 rfl
def yT:UInt8→List UInt8→Bool
 | last,[]=>decide (last.toNat ≠ 45)
 | last,c :: l=>if 97≤c.toNat∧c.toNat≤122 then yT c l else if c.toNat ≠ 45∨last.toNat=45 then false else yT c l
theorem BU (last c:UInt8) (l:List UInt8):yT last (c :: l)=if 97≤c.toNat∧c.toNat≤122 then yT c l else if c.toNat ≠ 45∨last.toNat=45 then false else yT c l:=rfl
def iR (s:ByteArray):Bool:=decide (s.data.toList.length≤14) && yT 45 s.data.toList
theorem yU {s:ByteArray} {i:Nat} (h:i < s.data.toList.length):(s.get! i)=s.data.toList[i]:=by
 have:i < s.data.size:=by simpa using h
 simp only [ByteArray.get!,getElem!_pos s.data i this]
 simp
theorem E6 {s:ByteArray} {i:Nat} (h:i < s.data.toList.length) (hb:(s.data.toList[i]).toNat < 128):Utf8.decode s i=((s.data.toList[i]).toNat,1):=by
 unfold Utf8.decode
 simp only [Nat.add_zero,yU h]
 rw [if_pos hb]
theorem E7 {s:ByteArray} {i:Nat} (h:i < s.data.toList.length) (hb:128≤(s.data.toList[i]).toNat):128≤(Utf8.decode s i).1:=by
 unfold Utf8.decode
 simp only [Nat.add_zero,yU h,Utf8.runeError]
 rw [if_neg (by omega)]
 repeat' split
 all_goals simp_all
 all_goals omega
theorem Gw (one : Bool) (s : ByteArray) (hs : s.data.toList.length ≤ maxLen) : Pu one 97 [ST s] (BB (iR s)) := by
  unfold maxLen at hs
  refine af.body (fn := Tryz.f97) rfl rfl rfl rfl ?_
  refine aa (mu := fun _ => false) ?_
  skip
  refine aC.bx (aj.to (l := [(0, ST s), (7, .ptr 0 0 0), (3, .fl (.int .i32 (((45 : UInt8).toNat : Nat) : Int)))]) 1 rfl ⟨rfl, rfl, rfl, trivial⟩ (Nat.zero_le _) rfl rfl) ?_
  refine aC.loop (fun x : Nat × UInt8 => x.1 ≤ s.data.toList.length ∧ yT 45 s.data.toList = yT x.2 (s.data.toList.drop x.1)) (fun x => ⟨bM [(0, ST s), (7, .ptr 0 0 0), (3, .fl (.int .i32 ((x.2.toNat : Nat) : Int)))], [.dD s x.1], bw.none, false, 0⟩) (fun x => s.data.toList.length - x.1) ?_ (0, 45) ⟨Nat.zero_le _, rfl⟩
  intro ⟨pos, last⟩ ⟨hpos, hrel⟩
  refine aa (mu := fun _ => false) ?_
  have hdrop : ∀ h : pos < s.data.toList.length, s.data.toList.drop pos = s.data.toList[pos] :: s.data.toList.drop (pos + 1) := fun h => List.drop_eq_getElem_cons h
  refine ⟨s, pos, rfl, fun hlt => ?_, fun hge => ?_⟩
  · rw [hdrop hlt] at hrel
    simp only at hrel
    generalize hc : s.data.toList[pos] = c at hrel
    have hc256 : c.toNat < 256 := c.toNat_lt
    rw [BU] at hrel
    by_cases hb : c.toNat < 128
    · have hd := E6 hlt (by rw [hc]; exact hb)
      rw [hc] at hd
      rw [hd]
      clear hd hc hdrop
      repeat' (first |(refine ⟨_, rfl, ?_⟩) |(refine fW (by assumption) ?_) |(refine fW rfl ?_) |(refine gK rfl ?_) |(refine gK (by assumption) ?_) |(refine ⟨_, _, rfl, rfl, _, rfl, rfl, ?_⟩) |(refine ⟨fun h => ?_, fun h => ?_⟩) |fail)
      all_goals first
        | (refine ⟨(pos + 1, c), ⟨hlt, ?_⟩, (by dsimp only; omega), aj.to 1 rfl ⟨rfl, rfl, rfl, trivial⟩ (Nat.zero_le _) rfl rfl⟩
           first
             | rw [hrel, if_pos (by simp at *; omega)]
             | rw [hrel, if_neg (by simp at *; omega), if_neg (by simp at *; omega)])
        | (refine ⟨[_], ⟨Fz.deep rfl, trivial⟩, Ja ?_⟩
           rw [iR, hrel, if_neg (by simp at *; omega), if_pos (by simp at *; omega)]
           simp)
    · have hd := E7 hlt (by rw [hc]; omega)
      generalize Utf8.decode s pos = d at hd
      clear hc hdrop
      repeat' (first |(refine ⟨_, rfl, ?_⟩) |(refine fW (by assumption) ?_) |(refine fW rfl ?_) |(refine gK rfl ?_) |(refine gK (by assumption) ?_) |(refine ⟨_, _, rfl, rfl, _, rfl, rfl, ?_⟩) |(refine ⟨fun h => ?_, fun h => ?_⟩) |fail)
      all_goals first
        | (exfalso; simp at *; omega)
        | (refine ⟨[_], ⟨Fz.deep rfl, trivial⟩, Ja ?_⟩
           rw [iR, hrel, if_neg (by omega), if_pos (by omega)]
           simp)
  · have hlen : pos = s.data.toList.length := by simp only at hpos; omega
    subst hlen
    simp only [List.drop_length, yT] at hrel
    repeat' (first |(refine ⟨_, rfl, ?_⟩) |(refine fW (by assumption) ?_) |(refine gK rfl ?_) |(refine gK (by assumption) ?_) |(refine ⟨_, _, rfl, rfl, _, rfl, rfl, ?_⟩) |(refine ⟨fun h => ?_, fun h => ?_⟩) |fail)
    all_goals refine ⟨[_], ⟨Fz.deep rfl, trivial⟩, Ja ?_⟩
    all_goals rw [iR, hrel, Bool.eq_iff_iff]
    all_goals simp at *
    all_goals omega
end Go.Proofs.YtlpmfgmldmdggaaGreat
open Go Go.RM
namespace Go.Proofs.YtlpmfgmldmdggaaGreat
set_option maxRecDepth 100000
def xE (a b:ByteArray):Bool:=a.toList == b.toList
def cL (n:Nat) (e:Nat→Int):Int × Int:=match (List.range n).find? (fun i=>e i != 0) with
 | some i=>((i:Int),e i)
 | none=>(0,0)
theorem lN {n k:Nat} {e:Nat→Int} (hk:k < n) (hprev:∀ i,i < k→e i=0) (h:e k ≠ 0):cL n e=((k:Int),e k):=by
 unfold cL
 have:(List.range n).find? (fun i=>e i != 0)=some k:=by
  rw [List.find?_range_eq_some]
  exact ⟨by simpa using h,by simpa using hk,fun j hj=>by simp [hprev j hj]⟩
 rw [this]
theorem lO {n:Nat} {e:Nat→Int} (hprev:∀ i,i < n→e i=0):cL n e=(0,0):=by
 unfold cL
 have:(List.range n).find? (fun i=>e i != 0)=none:=by
  rw [List.find?_eq_none]
  intro x hx
  simp [hprev x (by simpa using hx)]
 rw [this]
end Go.Proofs.YtlpmfgmldmdggaaGreat
open Go Go.RM
namespace Go.Proofs.YtlpmfgmldmdggaaGreat
set_option maxRecDepth 100000
def lP (n lo hi:Int):Bool:=decide (lo≤n) && decide (n≤hi)
theorem cM {n lo hi:Int}:lP n lo hi=true ↔ lo≤n∧n≤hi:=by simp [lP]
theorem bD (n lo hi:Int):ec lo hi [n]=!lP n lo hi:=by
 unfold ec lP
 rw [Bool.eq_iff_iff]
 simp
theorem iH (one:Bool) (n lo hi:Int):Pu one 58 [ah n,ah lo,ah hi] (BB (lP n lo hi)):=by
 refine af.body (fn:=Tryz.f58) rfl rfl rfl rfl ?_
 refine aa (mu:=fun _=>false) ?_
 repeat' (first |(refine fW (by assumption) ?_) |(refine gK (by assumption) ?_) |(refine ⟨fun h=>?_,fun h=>?_⟩) |fail)
 all_goals refine ⟨[_],⟨Fz.deep rfl,trivial⟩,Ja ?_⟩
 all_goals simp_all [lP]
 all_goals omega
theorem Ia (one:Bool) (n lo hi:Int):Pu one 120 [ah n,ah lo,ah hi] (BB (lP n lo hi)):=by
 refine af.body (fn:=Tryz.f120) rfl rfl rfl rfl ?_
 refine aa (mu:=fun _=>false) ?_
 repeat' (first |(refine fW (by assumption) ?_) |(refine gK (by assumption) ?_) |(refine ⟨fun h=>?_,fun h=>?_⟩) |fail)
 all_goals refine ⟨[_],⟨Fz.deep rfl,trivial⟩,Ja ?_⟩
 all_goals simp_all [lP]
 all_goals omega
theorem yV {s:ByteArray} {k:Nat} (h:k < s.data.toList.length):cU (au TT.P (Instr.index 9 (.string s) (.int .i64 (k:Int))))=some (.int .u8 ((s.data.toList[k].toNat:Nat):Int),.none):=by
 have hk:k < s.size:=by rwa [Array.length_toList] at h
 have e:(if (0:Int)≤(k:Int) then s[(k:Int).toNat]? else none)=some (s.data.toList[k]):=by
  rw [if_pos (by omega),Int.toNat_natCast]
  rw [getElem?_pos s k hk]
  rfl
 unfold Instr.index
 show cU (au TT.P (match (if (0:Int)≤(k:Int) then s[(k:Int).toNat]? else none) with
  | some b=>pure (.int .u8 b.toNat)
  | none=>boundsPanic .i64 k s.size .index))=_
 rw [e]
 rfl
theorem bG {α β:Type} {f:α→β} {l:List α} {k:Nat} (h:k < l.length):(l.map f)[((k:Nat):Int).toNat]?=some (f l[k]):=by
 rw [Int.toNat_natCast,List.getElem?_map,List.getElem?_eq_getElem h]
 rfl
def lQ (l:List UInt8):Nat→UInt8
 | 0=>45
 | k+1=>l[k]?.getD 45
theorem ny {l:List UInt8} {k:Nat} (h:k < l.length):lQ l (k+1)=l[k]:=by
 show (l[k]?).getD 45=l[k]
 rw [List.getElem?_eq_getElem h]
 rfl
theorem Gx {l:List UInt8} {k:Nat} (h:k < l.length):yT (lQ l k) (l.drop k)=if 97≤l[k].toNat∧l[k].toNat≤122 then yT (lQ l (k+1)) (l.drop (k+1)) else if l[k].toNat ≠ 45∨(lQ l k).toNat=45 then false else yT (lQ l (k+1)) (l.drop (k+1)):=by
 rw [List.drop_eq_getElem_cons h,BU,ny h]
theorem Ib {l:List UInt8} {k:Nat} (h:k+1=l.length) (h45:l[k].toNat=45):yT (lQ l (k+1)) (l.drop (k+1))=false:=by
 rw [ny (by omega),h,List.drop_length]
 unfold yT
 simp [h45]
abbrev eS (s:ByteArray):List AV:=[ST s]
theorem Ic (one:Bool) (names:List ByteArray) (full:Bool) (s:ByteArray) (hl:names.length≤maxLen):Pu one 103 [.sl (names.map eS) full,ST s] (ah (wU (fun x=>xE x s) names)):=by
 unfold maxLen at hl
 refine af.body (fn:=Tryz.f103) rfl rfl rfl rfl ?_
 refine aa (mu:=fun _=>false) ?_
 skip
 refine aC.bx (aj.to (l:=[(0,.sl (names.map eS) full),(1,ST s),(5,ah ((0:Nat):Int))]) 0 rfl ⟨rfl,rfl,rfl,trivial⟩ (Nat.le_refl _) rfl rfl) ?_
 refine aC.loop (fun k:Nat=>k≤names.length∧∀ i (h:i < names.length),i < k→xE names[i] s=false) (fun k=>⟨bM [(0,.sl (names.map eS) full),(1,ST s),(5,ah (k:Int))],[],bw.none,false,0⟩) (fun k=>names.length - k) ?_ 0 ⟨Nat.zero_le _,fun i _ hi=>absurd hi (by omega)⟩
 intro k ⟨hk,hprev⟩
 refine aa (mu:=fun _=>false) ?_
 skip
 refine ⟨fun h=>?_,fun h=>?_⟩
 ·have hlt:k < names.length:=by simpa using h
  skip
  refine ⟨eS names[k],⟨by omega,bG hlt⟩,rfl,?_⟩
  repeat' (first |refine u1 ?_ |refine u2 ?_ |fail)
  refine ⟨fun h2=>?_,fun h2=>?_⟩
  ·skip
   refine ⟨[_],⟨Fz.deep rfl,trivial⟩,cK ?_⟩
   exact (pQ hlt hprev h2).symm
  ·repeat' (first |refine u2 ?_ |fail)
   refine ⟨k+1,⟨hlt,fun i hi hik=>?_⟩,(by dsimp only;omega),aj.to 0 rfl ⟨rfl,rfl,cK (by simp),trivial⟩ (Nat.le_refl _) rfl rfl⟩
   by_cases hik':i=k
   ·subst hik';exact h2
   ·exact hprev i hi (by omega)
 ·skip
  refine ⟨[_],⟨Fz.deep rfl,trivial⟩,cK ?_⟩
  have:k=names.length:=by simp at h;omega
  rw [pR fun i hi=>hprev i hi (by omega)]
theorem Ie (one : Bool) (s : ByteArray) (hs : s.data.toList.length ≤ maxLen) : Pu one 102 [ST s] (BB (iR s)) := by
  unfold maxLen at hs
  refine af.body (fn := Tryz.f102) rfl rfl rfl rfl ?_
  refine aa (mu := fun _ => false) ?_
  repeat' (first |(refine af.call (Ia one _ _ _) rfl rfl ?_) |fail)
  refine ⟨fun h => ?_, fun h => ?_⟩
  · skip
    refine ⟨[_], ⟨Fz.deep rfl, trivial⟩, Ja ?_⟩
    have h : ¬ (1 ≤ s.data.toList.length ∧ s.data.toList.length ≤ 14) := by
      rw [Bool.not_eq_true', ← Bool.not_eq_true, cM] at h
      omega
    unfold iR
    generalize s.data.toList = l at h
    cases l with
    | nil => simp [yT]
    | cons a l =>
      have : 0 < (a :: l).length := Nat.succ_pos _
      rw [decide_eq_false (by omega)]
      rfl
  · have h : 1 ≤ s.data.toList.length ∧ s.data.toList.length ≤ 14 := by
      rw [Bool.not_eq_false', cM] at h
      omega
    have hn : iR s = yT 45 s.data.toList := by
      unfold iR
      rw [decide_eq_true h.2, Bool.true_and]
    skip
    refine aC.bx (aj.to (l := [(0, ST s), (3, ah ((0 : Nat) : Int))]) 0 rfl ⟨rfl, rfl, trivial⟩ (Nat.le_refl _) rfl rfl) ?_
    refine aC.loop (fun k : Nat => k ≤ s.data.toList.length ∧ iR s = yT (lQ s.data.toList k) (s.data.toList.drop k) ∧ (k = s.data.toList.length → (lQ s.data.toList k).toNat ≠ 45)) (fun k => ⟨bM [(0, ST s), (3, ah (k : Int))], [], bw.none, false, 0⟩) (fun k => s.data.toList.length - k) ?_ 0 ⟨Nat.zero_le _, hn, fun h0 => by omega⟩
    intro k ⟨hk, hrel, hlast⟩
    refine aa (mu := fun _ => false) ?_
    skip
    refine ⟨fun h => ?_, fun h => ?_⟩
    · have hlt : k < s.data.toList.length := by rw [decide_eq_true_eq] at h; omega
      rw [Gx hlt] at hrel
      have hix := yV hlt
      generalize hc : s.data.toList[k] = c at hrel hix
      have hix1 : 0 < k → cU (au TT.P (Instr.index 9 (.string s) (.int .i64 ((k : Int) - 1)))) = some (.int .u8 (((lQ s.data.toList k).toNat : Nat) : Int), .none) := by
        intro h0
        obtain ⟨m, rfl⟩ : ∃ m, k = m + 1 := ⟨k - 1, by omega⟩
        rw [ny (by omega), show (((m + 1 : Nat) : Int) - 1) = ((m : Nat) : Int) from by omega]
        exact yV (by omega)
      have hl0 : k = 0 → (lQ s.data.toList k).toNat = 45 := by
        rintro rfl
        rfl
      have hend : k + 1 = s.data.toList.length → c.toNat = 45 → yT (lQ s.data.toList (k + 1)) (s.data.toList.drop (k + 1)) = false := fun h1 h2 => Ib h1 (by rw [hc]; exact h2)
      have hsucc : lQ s.data.toList (k + 1) = c := by rw [ny hlt, hc]
      clear hc hn hlast
      generalize lQ s.data.toList k = d at hrel hix1 hl0
      generalize hr : yT (lQ s.data.toList (k + 1)) (s.data.toList.drop (k + 1)) = r at hrel hend
      repeat' (first |(refine fW (by assumption) ?_) |(refine fW rfl ?_) |(refine gK rfl ?_) |(refine gK (by assumption) ?_) |(refine And.intro (by omega) ?_) |(refine ⟨_, _, rfl, rfl, _, rfl, rfl, ?_⟩) |(refine ⟨_, _, rfl, rfl, _, hix, rfl, ?_⟩) |(refine ⟨_, _, rfl, rfl, _, hix1 (by rcases Nat.eq_zero_or_pos k with h0 | h0; (exfalso; simp_all); exact h0), rfl, ?_⟩) |(refine ⟨fun h => ?_, fun h => ?_⟩) |fail)
      all_goals first
        | (refine ⟨k + 1, ⟨hlt, ?_, fun h1 => by rw [hsucc]; clear hix hix1 hr hsucc; simp at *; omega⟩, (by dsimp only; omega), aj.to 0 rfl ⟨rfl, cK (by simp), trivial⟩ (Nat.le_refl _) rfl rfl⟩
           rw [hr]
           first
             | rw [hrel, if_pos (by simp at *; omega)]
             | rw [hrel, if_neg (by simp at *; omega), if_neg (by simp at *; omega)])
        | (refine ⟨[_], ⟨Fz.deep rfl, trivial⟩, Ja ?_⟩
           rw [hrel, if_neg (by simp at *; omega)]
           split
           · rfl
           · exact (hend (by simp at *; omega) (by simp at *; omega)).symm)
    · skip
      refine ⟨[_], ⟨Fz.deep rfl, trivial⟩, Ja ?_⟩
      have : k = s.data.toList.length := by rw [decide_eq_false_iff_not] at h; omega
      rw [hrel, this, List.drop_length]
      have := hlast this
      rw [‹k = s.data.toList.length›] at this
      unfold yT
      simp only [ne_eq, this, not_false_eq_true, decide_true]
end Go.Proofs.YtlpmfgmldmdggaaGreat
open Go Go.RM
namespace Go.Proofs.YtlpmfgmldmdggaaGreat
set_option maxRecDepth 100000
def kY (name:ByteArray) (names:List ByteArray):Int:=if iR name=false then 6 else if names.any (fun x=>xE x name) then 5 else 0
theorem DX (one:Bool) (names:List ByteArray) (full:Bool) (s:ByteArray) (hs:s.data.toList.length≤maxLen) (hl:names.length≤maxLen):Pu one 59 [ST s,.sl (names.map eS) full] (ah (kY s names)):=by
 have hg:=u7 (fun x=>xE x s) names
 have hc:=Ic one names full s hl
 unfold kY
 generalize wU (fun x=>xE x s) names=i at hg hc
 generalize names.any (fun x=>xE x s)=b at hg
 refine af.body (fn:=Tryz.f59) rfl rfl rfl rfl ?_
 refine aa (mu:=fun _=>false) ?_
 repeat' (first |with_reducible (first|refine Gl ?_|refine HX ?_|refine HY ?_|refine BP ?_) |(refine af.call (Ie one _ hs) rfl rfl ?_) |(refine af.call hc rfl rfl ?_) |(refine ⟨fun h=>?_,fun h=>?_⟩) |fail)
 all_goals refine ⟨[_],⟨Fz.deep rfl,trivial⟩,cK ?_⟩
 all_goals simp_all
end Go.Proofs.YtlpmfgmldmdggaaGreat
