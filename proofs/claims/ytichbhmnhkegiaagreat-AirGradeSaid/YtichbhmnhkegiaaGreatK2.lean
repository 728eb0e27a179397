/-
  Contracts of the program's functions and of the document's. Lemmas alone; their conditions stand in them.
-/
import Derived.Test.YtichbhmnhkegiaaGreatA2
import Derived.Test.YtichbhmnhkegiaaGreatA3
import Derived.Test.YtichbhmnhkegiaaGreatK1
open Go Go.RM
namespace Go.Proofs.YtichbhmnhkegiaaGreat
set_option maxRecDepth 100000
def aX (lo hi:Int) (l:List Int):Bool:=l.any fun n=>decide (n < lo) || decide (hi < n)
def K2:List AV→Int
 | [.fl (.int _ n)]=>n
 | _=>0
def Mu:List AV→Bool
 | [.fl (.int .i64 _)]=>true
 | _=>false
theorem allI:∀ {els:List (List AV)},els.all Mu=true→els=ints (els.map K2)
 | [],_=>rfl
 | el :: els,h=>by
  simp only [List.all_cons,Bool.and_eq_true] at h
  have ih:=allI h.2
  have:el=eI (K2 el):=by
   have h1:=h.1
   unfold Mu at h1
   split at h1
   ·rfl
   ·cases h1
  show el :: els=eI (K2 el) :: ints (els.map K2)
  rw [←this,←ih]
theorem iN (one:Bool) (lo hi:Int) (els:List (List AV)) (full:Bool) (h:els.all Mu=true) (hl:els.length≤maxLen):Pu one 61 [ai lo,ai hi,.sl els full] (BB (aX lo hi (els.map K2))):=by
 obtain ⟨l,hl'⟩:∃ l,els.map K2=l:=⟨_,rfl⟩
 have he:els=ints l:=by rw [←hl'];exact allI h
 rw [hl']
 subst he
 refine af.body (fn:=Tryz.f61) rfl rfl rfl rfl ?_
 refine aa (mu:=fun _=>false) ?_
 repeat' (first |refine u2 ?_ |fail)
 refine af.call (mH one 110 [] _ rfl (fun n=>decide (n < lo) || decide (hi < n)) l full (by simpa using hl) (fun n _=>DT one n lo hi)) rfl rfl ?_
 skip
 refine ⟨[_],⟨Fz.deep rfl,trivial⟩,?_⟩
 rfl
def yM:UInt8→List UInt8→Bool
 | last,[]=>decide (last.toNat ≠ 45)
 | last,c :: l=>if 97≤c.toNat∧c.toNat≤122 then yM c l else if c.toNat ≠ 45∨last.toNat=45 then false else yM c l
theorem Cq (last c:UInt8) (l:List UInt8):yM last (c :: l)=if 97≤c.toNat∧c.toNat≤122 then yM c l else if c.toNat ≠ 45∨last.toNat=45 then false else yM c l:=rfl
def jl (s:ByteArray):Bool:=decide (s.data.toList.length≤14) && yM 45 s.data.toList
theorem yN {s:ByteArray} {i:Nat} (h:i < s.data.toList.length):(s.get! i)=s.data.toList[i]:=by
 have:i < s.data.size:=by simpa using h
 simp only [ByteArray.get!,getElem!_pos s.data i this]
 simp
theorem F6 {s:ByteArray} {i:Nat} (h:i < s.data.toList.length) (hb:(s.data.toList[i]).toNat < 128):Utf8.decode s i=((s.data.toList[i]).toNat,1):=by
 unfold Utf8.decode
 simp only [Nat.add_zero,yN h]
 rw [if_pos hb]
theorem F7 {s:ByteArray} {i:Nat} (h:i < s.data.toList.length) (hb:128≤(s.data.toList[i]).toNat):128≤(Utf8.decode s i).1:=by
 unfold Utf8.decode
 simp only [Nat.add_zero,yN h,Utf8.runeError]
 rw [if_neg (by omega)]
 repeat' split
 all_goals simp_all
 all_goals omega
theorem K3 (one : Bool) (s : ByteArray) (hs : s.data.toList.length ≤ maxLen) : Pu one 71 [ST s] (BB (jl s)) := by
  unfold maxLen at hs
  refine af.body (fn := Tryz.f71) rfl rfl rfl rfl ?_
  refine aa (mu := fun _ => false) ?_
  skip
  refine ax.aK (ah.to (l := [(0, ST s), (7, .ptr 0 0 0), (3, .fl (.int .i32 (((45 : UInt8).toNat : Nat) : Int)))]) 1 rfl ⟨rfl, rfl, rfl, trivial⟩ (Nat.zero_le _) rfl rfl) ?_
  refine ax.loop (fun x : Nat × UInt8 => x.1 ≤ s.data.toList.length ∧ yM 45 s.data.toList = yM x.2 (s.data.toList.drop x.1)) (fun x => ⟨aF [(0, ST s), (7, .ptr 0 0 0), (3, .fl (.int .i32 ((x.2.toNat : Nat) : Int)))], [.dQ s x.1], aV.none, false, 0⟩) (fun x => s.data.toList.length - x.1) ?_ (0, 45) ⟨Nat.zero_le _, rfl⟩
  intro ⟨pos, last⟩ ⟨hpos, hrel⟩
  refine aa (mu := fun _ => false) ?_
  have hdrop : ∀ h : pos < s.data.toList.length, s.data.toList.drop pos = s.data.toList[pos] :: s.data.toList.drop (pos + 1) := fun h => List.drop_eq_getElem_cons h
  refine ⟨s, pos, rfl, fun hlt => ?_, fun hge => ?_⟩
  · rw [hdrop hlt] at hrel
    simp only at hrel
    generalize hc : s.data.toList[pos] = c at hrel
    have hc256 : c.toNat < 256 := c.toNat_lt
    rw [Cq] at hrel
    by_cases hb : c.toNat < 128
    · have hd := F6 hlt (by rw [hc]; exact hb)
      rw [hc] at hd
      rw [hd]
      clear hd hc hdrop
      repeat' (first |(refine ⟨_, rfl, ?_⟩) |(refine eL (by assumption) ?_) |(refine eL rfl ?_) |(refine fY rfl ?_) |(refine fY (by assumption) ?_) |(refine ⟨_, _, rfl, rfl, _, rfl, rfl, ?_⟩) |(refine ⟨fun h => ?_, fun h => ?_⟩) |fail)
      all_goals first
        | (refine ⟨(pos + 1, c), ⟨hlt, ?_⟩, (by dsimp only; omega), ah.to 1 rfl ⟨rfl, rfl, rfl, trivial⟩ (Nat.zero_le _) rfl rfl⟩
           first
             | rw [hrel, if_pos (by simp at *; omega)]
             | rw [hrel, if_neg (by simp at *; omega), if_neg (by simp at *; omega)])
        | (refine ⟨[_], ⟨Fz.deep rfl, trivial⟩, GJ ?_⟩
           rw [jl, hrel, if_neg (by simp at *; omega), if_pos (by simp at *; omega)]
           simp)
    · have hd := F7 hlt (by rw [hc]; omega)
      generalize Utf8.decode s pos = d at hd
      clear hc hdrop
      repeat' (first |(refine ⟨_, rfl, ?_⟩) |(refine eL (by assumption) ?_) |(refine eL rfl ?_) |(refine fY rfl ?_) |(refine fY (by assumption) ?_) |(refine ⟨_, _, rfl, rfl, _, rfl, rfl, ?_⟩) |(refine ⟨fun h => ?_, fun h => ?_⟩) |fail)
      all_goals first
        | (exfalso; simp at *; omega)
        | (refine ⟨[_], ⟨Fz.deep rfl, trivial⟩, GJ ?_⟩
           rw [jl, hrel, if_neg (by omega), if_pos (by omega)]
           simp)
  · have hlen : pos = s.data.toList.length := by simp only at hpos; omega
    subst hlen
    simp only [List.drop_length, yM] at hrel
    repeat' (first |(refine ⟨_, rfl, ?_⟩) |(refine eL (by assumption) ?_) |(refine fY rfl ?_) |(refine fY (by assumption) ?_) |(refine ⟨_, _, rfl, rfl, _, rfl, rfl, ?_⟩) |(refine ⟨fun h => ?_, fun h => ?_⟩) |fail)
    all_goals refine ⟨[_], ⟨Fz.deep rfl, trivial⟩, GJ ?_⟩
    all_goals rw [jl, hrel, Bool.eq_iff_iff]
    all_goals simp at *
    all_goals omega
end Go.Proofs.YtichbhmnhkegiaaGreat
open Go Go.RM
namespace Go.Proofs.YtichbhmnhkegiaaGreat
set_option maxRecDepth 100000
def Ba (a b:ByteArray):Bool:=a.toList == b.toList
def gI (n:Nat) (e:Nat→Int):Int × Int:=match (List.range n).find? (fun i=>e i != 0) with
 | some i=>((i:Int),e i)
 | none=>(0,0)
theorem uA {n k:Nat} {e:Nat→Int} (hk:k < n) (hprev:∀ i,i < k→e i=0) (h:e k ≠ 0):gI n e=((k:Int),e k):=by
 unfold gI
 have:(List.range n).find? (fun i=>e i != 0)=some k:=by
  rw [List.find?_range_eq_some]
  exact ⟨by simpa using h,by simpa using hk,fun j hj=>by simp [hprev j hj]⟩
 rw [this]
theorem uB {n:Nat} {e:Nat→Int} (hprev:∀ i,i < n→e i=0):gI n e=(0,0):=by
 unfold gI
 have:(List.range n).find? (fun i=>e i != 0)=none:=by
  rw [List.find?_eq_none]
  intro x hx
  simp [hprev x (by simpa using hx)]
 rw [this]
end Go.Proofs.YtichbhmnhkegiaaGreat
open Go Go.RM
namespace Go.Proofs.YtichbhmnhkegiaaGreat
set_option maxRecDepth 100000
def kN (n lo hi:Int):Bool:=decide (lo≤n) && decide (n≤hi)
theorem fF {n lo hi:Int}:kN n lo hi=true ↔ lo≤n∧n≤hi:=by simp [kN]
theorem cQ (n lo hi:Int):aX lo hi [n]=!kN n lo hi:=by
 unfold aX kN
 rw [Bool.eq_iff_iff]
 simp
theorem jy (one:Bool) (n lo hi:Int):Pu one 64 [ai n,ai lo,ai hi] (BB (kN n lo hi)):=by
 refine af.body (fn:=Tryz.f64) rfl rfl rfl rfl ?_
 refine aa (mu:=fun _=>false) ?_
 repeat' (first |(refine eL (by assumption) ?_) |(refine fY (by assumption) ?_) |(refine ⟨fun h=>?_,fun h=>?_⟩) |fail)
 all_goals refine ⟨[_],⟨Fz.deep rfl,trivial⟩,GJ ?_⟩
 all_goals simp_all [kN]
 all_goals omega
theorem vb (one:Bool) (n lo hi:Int):Pu one 119 [ai n,ai lo,ai hi] (BB (kN n lo hi)):=by
 refine af.body (fn:=Tryz.f119) rfl rfl rfl rfl ?_
 refine aa (mu:=fun _=>false) ?_
 repeat' (first |(refine eL (by assumption) ?_) |(refine fY (by assumption) ?_) |(refine ⟨fun h=>?_,fun h=>?_⟩) |fail)
 all_goals refine ⟨[_],⟨Fz.deep rfl,trivial⟩,GJ ?_⟩
 all_goals simp_all [kN]
 all_goals omega
theorem yO {s:ByteArray} {k:Nat} (h:k < s.data.toList.length):cg (az TT.P (Instr.index 9 (.string s) (.int .i64 (k:Int))))=some (.int .u8 ((s.data.toList[k].toNat:Nat):Int),.none):=by
 have hk:k < s.size:=by rwa [Array.length_toList] at h
 have e:(if (0:Int)≤(k:Int) then s[(k:Int).toNat]? else none)=some (s.data.toList[k]):=by
  rw [if_pos (by omega),Int.toNat_natCast]
  rw [getElem?_pos s k hk]
  rfl
 unfold Instr.index
 show cg (az TT.P (match (if (0:Int)≤(k:Int) then s[(k:Int).toNat]? else none) with
  | some b=>pure (.int .u8 b.toNat)
  | none=>boundsPanic .i64 k s.size .index))=_
 rw [e]
 rfl
theorem bO {α β:Type} {f:α→β} {l:List α} {k:Nat} (h:k < l.length):(l.map f)[((k:Nat):Int).toNat]?=some (f l[k]):=by
 rw [Int.toNat_natCast,List.getElem?_map,List.getElem?_eq_getElem h]
 rfl
def lK (l:List UInt8):Nat→UInt8
 | 0=>45
 | k+1=>l[k]?.getD 45
theorem nB {l:List UInt8} {k:Nat} (h:k < l.length):lK l (k+1)=l[k]:=by
 show (l[k]?).getD 45=l[k]
 rw [List.getElem?_eq_getElem h]
 rfl
theorem HI {l:List UInt8} {k:Nat} (h:k < l.length):yM (lK l k) (l.drop k)=if 97≤l[k].toNat∧l[k].toNat≤122 then yM (lK l (k+1)) (l.drop (k+1)) else if l[k].toNat ≠ 45∨(lK l k).toNat=45 then false else yM (lK l (k+1)) (l.drop (k+1)):=by
 rw [List.drop_eq_getElem_cons h,Cq,nB h]
theorem JE {l:List UInt8} {k:Nat} (h:k+1=l.length) (h45:l[k].toNat=45):yM (lK l (k+1)) (l.drop (k+1))=false:=by
 rw [nB (by omega),h,List.drop_length]
 unfold yM
 simp [h45]
abbrev eS (s:ByteArray):List AV:=[ST s]
theorem JF (one:Bool) (names:List ByteArray) (full:Bool) (s:ByteArray) (hl:names.length≤maxLen):Pu one 118 [.sl (names.map eS) full,ST s] (ai (lY (fun x=>Ba x s) names)):=by
 unfold maxLen at hl
 refine af.body (fn:=Tryz.f118) rfl rfl rfl rfl ?_
 refine aa (mu:=fun _=>false) ?_
 skip
 refine ax.aK (ah.to (l:=[(0,.sl (names.map eS) full),(1,ST s),(5,ai ((0:Nat):Int))]) 0 rfl ⟨rfl,rfl,rfl,trivial⟩ (Nat.le_refl _) rfl rfl) ?_
 refine ax.loop (fun k:Nat=>k≤names.length∧∀ i (h:i < names.length),i < k→Ba names[i] s=false) (fun k=>⟨aF [(0,.sl (names.map eS) full),(1,ST s),(5,ai (k:Int))],[],aV.none,false,0⟩) (fun k=>names.length - k) ?_ 0 ⟨Nat.zero_le _,fun i _ hi=>absurd hi (by omega)⟩
 intro k ⟨hk,hprev⟩
 refine aa (mu:=fun _=>false) ?_
 skip
 refine ⟨fun h=>?_,fun h=>?_⟩
 ·have hlt:k < names.length:=by simpa using h
  skip
  refine ⟨eS names[k],⟨by omega,bO hlt⟩,rfl,?_⟩
  repeat' (first |refine u1 ?_ |refine u2 ?_ |fail)
  refine ⟨fun h2=>?_,fun h2=>?_⟩
  ·skip
   refine ⟨[_],⟨Fz.deep rfl,trivial⟩,aR ?_⟩
   exact (mE hlt hprev h2).symm
  ·repeat' (first |refine u2 ?_ |fail)
   refine ⟨k+1,⟨hlt,fun i hi hik=>?_⟩,(by dsimp only;omega),ah.to 0 rfl ⟨rfl,rfl,aR (by simp),trivial⟩ (Nat.le_refl _) rfl rfl⟩
   by_cases hik':i=k
   ·subst hik';exact h2
   ·exact hprev i hi (by omega)
 ·skip
  refine ⟨[_],⟨Fz.deep rfl,trivial⟩,aR ?_⟩
  have:k=names.length:=by simp at h;omega
  rw [mF fun i hi=>hprev i hi (by omega)]
theorem JG (one : Bool) (s : ByteArray) (hs : s.data.toList.length ≤ maxLen) : Pu one 117 [ST s] (BB (jl s)) := by
  unfold maxLen at hs
  refine af.body (fn := Tryz.f117) rfl rfl rfl rfl ?_
  refine aa (mu := fun _ => false) ?_
  repeat' (first |(refine af.call (vb one _ _ _) rfl rfl ?_) |fail)
  refine ⟨fun h => ?_, fun h => ?_⟩
  · skip
    refine ⟨[_], ⟨Fz.deep rfl, trivial⟩, GJ ?_⟩
    have h : ¬ (1 ≤ s.data.toList.length ∧ s.data.toList.length ≤ 14) := by
      rw [Bool.not_eq_true', ← Bool.not_eq_true, fF] at h
      omega
    unfold jl
    generalize s.data.toList = l at h
    cases l with
    | nil => simp [yM]
    | cons a l =>
      have : 0 < (a :: l).length := Nat.succ_pos _
      rw [decide_eq_false (by omega)]
      rfl
  · have h : 1 ≤ s.data.toList.length ∧ s.data.toList.length ≤ 14 := by
      rw [Bool.not_eq_false', fF] at h
      omega
    have hn : jl s = yM 45 s.data.toList := by
      unfold jl
      rw [decide_eq_true h.2, Bool.true_and]
    skip
    refine ax.aK (ah.to (l := [(0, ST s), (3, ai ((0 : Nat) : Int))]) 0 rfl ⟨rfl, rfl, trivial⟩ (Nat.le_refl _) rfl rfl) ?_
    refine ax.loop (fun k : Nat => k ≤ s.data.toList.length ∧ jl s = yM (lK s.data.toList k) (s.data.toList.drop k) ∧ (k = s.data.toList.length → (lK s.data.toList k).toNat ≠ 45)) (fun k => ⟨aF [(0, ST s), (3, ai (k : Int))], [], aV.none, false, 0⟩) (fun k => s.data.toList.length - k) ?_ 0 ⟨Nat.zero_le _, hn, fun h0 => by omega⟩
    intro k ⟨hk, hrel, hlast⟩
    refine aa (mu := fun _ => false) ?_
    skip
    refine ⟨fun h => ?_, fun h => ?_⟩
    · have hlt : k < s.data.toList.length := by rw [decide_eq_true_eq] at h; omega
      rw [HI hlt] at hrel
      have hix := yO hlt
      generalize hc : s.data.toList[k] = c at hrel hix
      have hix1 : 0 < k → cg (az TT.P (Instr.index 9 (.string s) (.int .i64 ((k : Int) - 1)))) = some (.int .u8 (((lK s.data.toList k).toNat : Nat) : Int), .none) := by
        intro h0
        obtain ⟨m, rfl⟩ : ∃ m, k = m + 1 := ⟨k - 1, by omega⟩
        rw [nB (by omega), show (((m + 1 : Nat) : Int) - 1) = ((m : Nat) : Int) from by omega]
        exact yO (by omega)
      have hl0 : k = 0 → (lK s.data.toList k).toNat = 45 := by
        rintro rfl
        rfl
      have hend : k + 1 = s.data.toList.length → c.toNat = 45 → yM (lK s.data.toList (k + 1)) (s.data.toList.drop (k + 1)) = false := fun h1 h2 => JE h1 (by rw [hc]; exact h2)
      have hsucc : lK s.data.toList (k + 1) = c := by rw [nB hlt, hc]
      clear hc hn hlast
      generalize lK s.data.toList k = d at hrel hix1 hl0
      generalize hr : yM (lK s.data.toList (k + 1)) (s.data.toList.drop (k + 1)) = r at hrel hend
      repeat' (first |(refine eL (by assumption) ?_) |(refine eL rfl ?_) |(refine fY rfl ?_) |(refine fY (by assumption) ?_) |(refine And.intro (by omega) ?_) |(refine ⟨_, _, rfl, rfl, _, rfl, rfl, ?_⟩) |(refine ⟨_, _, rfl, rfl, _, hix, rfl, ?_⟩) |(refine ⟨_, _, rfl, rfl, _, hix1 (by rcases Nat.eq_zero_or_pos k with h0 | h0; (exfalso; simp_all); exact h0), rfl, ?_⟩) |(refine ⟨fun h => ?_, fun h => ?_⟩) |fail)
      all_goals first
        | (refine ⟨k + 1, ⟨hlt, ?_, fun h1 => by rw [hsucc]; clear hix hix1 hr hsucc; simp at *; omega⟩, (by dsimp only; omega), ah.to 0 rfl ⟨rfl, aR (by simp), trivial⟩ (Nat.le_refl _) rfl rfl⟩
           rw [hr]
           first
             | rw [hrel, if_pos (by simp at *; omega)]
             | rw [hrel, if_neg (by simp at *; omega), if_neg (by simp at *; omega)])
        | (refine ⟨[_], ⟨Fz.deep rfl, trivial⟩, GJ ?_⟩
           rw [hrel, if_neg (by simp at *; omega)]
           split
           · rfl
           · exact (hend (by simp at *; omega) (by simp at *; omega)).symm)
    · skip
      refine ⟨[_], ⟨Fz.deep rfl, trivial⟩, GJ ?_⟩
      have : k = s.data.toList.length := by rw [decide_eq_false_iff_not] at h; omega
      rw [hrel, this, List.drop_length]
      have := hlast this
      rw [‹k = s.data.toList.length›] at this
      unfold yM
      simp only [ne_eq, this, not_false_eq_true, decide_true]
end Go.Proofs.YtichbhmnhkegiaaGreat
open Go Go.RM
namespace Go.Proofs.YtichbhmnhkegiaaGreat
set_option maxRecDepth 100000
def mI (name:ByteArray) (names:List ByteArray):Int:=if jl name=false then 6 else if names.any (fun x=>Ba x name) then 5 else 0
theorem JH (one:Bool) (names:List ByteArray) (full:Bool) (s:ByteArray) (hs:s.data.toList.length≤maxLen) (hl:names.length≤maxLen):Pu one 75 [ST s,.sl (names.map eS) full] (ai (mI s names)):=by
 have hg:=sD (fun x=>Ba x s) names
 have hc:=JF one names full s hl
 unfold mI
 generalize lY (fun x=>Ba x s) names=i at hg hc
 generalize names.any (fun x=>Ba x s)=b at hg
 refine af.body (fn:=Tryz.f75) rfl rfl rfl rfl ?_
 refine aa (mu:=fun _=>false) ?_
 repeat' (first |with_reducible (first|refine Ck ?_|refine sA ?_|refine sB ?_|refine uy ?_) |(refine af.call (JG one _ hs) rfl rfl ?_) |(refine af.call hc rfl rfl ?_) |(refine ⟨fun h=>?_,fun h=>?_⟩) |fail)
 all_goals refine ⟨[_],⟨Fz.deep rfl,trivial⟩,aR ?_⟩
 all_goals simp_all
def aU (lo hi:Int) (s:Span):Int:=if !kN s.lo lo hi || !kN s.hi lo hi then 7 else if s.hi < s.lo then 2 else 0
def mJ (lo hi:Int) (l:List Span):Int:=if l.any (fun s=>!kN s.lo lo hi || !kN s.hi lo hi) then 7 else if l.any (fun s=>decide (s.hi < s.lo)) then 2 else 0
theorem HJ (one : Bool) (l : List Span) (full : Bool) (lo hi : Int) (hl : l.length ≤ maxLen) : Pu one 116 [.sl (l.map aG) full, ai lo, ai hi] (ai (mJ lo hi l)) := by
  unfold maxLen at hl
  refine af.body (fn := Tryz.f116) rfl rfl rfl rfl ?_
  refine aa (mu := fun _ => false) ?_
  repeat' (first |with_reducible (first|refine sA ?_|refine sB ?_) |fail)
  refine ax.aK (ah.to (l := [(0, .sl (l.map aG) full), (1, ai lo), (2, ai hi), (7, ai 0), (8, ai ((0 : Nat) : Int))]) 0 rfl ⟨rfl, rfl, rfl, rfl, rfl, trivial⟩ (Nat.le_refl _) rfl rfl) ?_
  refine ax.loop (fun k : Nat => k ≤ l.length ∧ (l.take k).any (fun s => !kN s.lo lo hi || !kN s.hi lo hi) = false) (fun k => ⟨aF [(0, .sl (l.map aG) full), (1, ai lo), (2, ai hi), (7, ai (if (l.take k).any (fun s => decide (s.hi < s.lo)) then 2 else 0)), (8, ai (k : Int))], [], aV.none, false, 0⟩) (fun k => l.length - k) ?_ 0 ⟨Nat.zero_le _, rfl⟩
  intro k ⟨hk, hprev⟩
  refine aa (mu := fun _ => false) ?_
  repeat' (first |with_reducible (first|refine sA ?_|refine sB ?_) |fail)
  refine ⟨fun h => ?_, fun h => ?_⟩
  · have hlt : k < l.length := by simpa using h
    have htake : l.take (k + 1) = l.take k ++ [l[k]] := by rw [List.take_add_one, List.getElem?_eq_getElem hlt]; rfl
    repeat' (first |((with_reducible show mY _ _ _ _ (.region _ _ true) _ _);refine RM.c5 (by kernel_rfl) rfl rfl ?_) |with_reducible (first|refine Ck ?_|refine sA ?_|refine FX ?_|refine sB ?_|refine uy ?_) |(refine ⟨_, rfl, ?_⟩) |(refine eL (by assumption) ?_) |(refine eL rfl ?_) |(refine fY (by assumption) ?_) |(refine ⟨_, _, rfl, by decide, ?_⟩) |(refine And.intro (by omega) ?_) |(refine And.intro (by kernel_rfl) ?_) |(refine ⟨aG l[k], ⟨by omega, bO hlt⟩, rfl, ?_⟩) |(refine af.call (vb one _ _ _) rfl rfl ?_) |(refine ⟨fun h => ?_, fun h => ?_⟩) |fail)
    all_goals first
      | (refine ⟨[_], ⟨Fz.deep rfl, trivial⟩, aR ?_⟩
         have : l.any (fun s => !kN s.lo lo hi || !kN s.hi lo hi) = true := by
           rw [List.any_eq_true]
           exact ⟨l[k], List.getElem_mem hlt, by simp_all⟩
         simp only [mJ, this]
         rfl)
      | (refine ⟨k + 1, ⟨hlt, by rw [htake, List.any_append, hprev]; simp_all⟩, (by dsimp only; omega), ah.to 0 rfl ⟨rfl, rfl, rfl, aR ?_, aR (by simp), trivial⟩ (Nat.le_refl _) rfl rfl⟩
         rw [htake, List.any_append]
         generalize (l.take k).any (fun s => decide (s.hi < s.lo)) = b
         cases b <;> simp_all)
  · skip
    refine ⟨[_], ⟨Fz.deep rfl, trivial⟩, aR ?_⟩
    have : k = l.length := by simp at h; omega
    subst this
    rw [List.take_length] at hprev ⊢
    simp only [mJ, hprev]
    rfl
theorem DU {lo hi:Int} {s:Span}:mJ lo hi [s]=aU lo hi s:=by
 simp [mJ,aU]
theorem At (one:Bool) (s:Span) (lo hi:Int):Pu one 74 [.ag (aG s),ai lo,ai hi] (ai (aU lo hi s)):=by
 rw [←DU]
 refine af.body (fn:=Tryz.f74) rfl rfl rfl rfl ?_
 refine aa (mu:=fun _=>false) ?_
 repeat' (first |with_reducible (first|refine sA ?_|refine sB ?_) |refine u2 ?_ |refine u1 ?_ |refine af.call (HJ one [s] true lo hi (Nat.le_of_ble_eq_true rfl)) rfl rfl ?_ |fail)
 exact ⟨[_],⟨Fz.deep rfl,trivial⟩,rfl⟩
theorem F8 (lo hi n:Int) (l:List Int):aX lo hi (n :: l)=(!kN n lo hi || aX lo hi l):=by
 rw [←cQ]
 simp [aX]
end Go.Proofs.YtichbhmnhkegiaaGreat
open Go Go.RM
namespace Go.Proofs.YtichbhmnhkegiaaGreat
set_option maxRecDepth 100000
set_option maxHeartbeats 4000000
theorem vc (one:Bool) (a:Int):Pu one 133 [ai a] (BB false):=by
 have d1:(!decide (a=a))=false:=by simp
 refine af.body (fn:=Tryz.f133) rfl rfl rfl rfl ?_
 refine aa (mu:=fun _=>false) ?_
 repeat' (first |refine u1 ?_ |fail)
 exact ⟨[_],⟨Fz.deep rfl,trivial⟩,GJ d1⟩
theorem EV (one:Bool) (a b:Int):Pu one 100 [ai a,ai b] (ai (ek a b)):=by
 have ha:=vc one a
 have hb:=vc one b
 unfold ek
 refine af.body (fn:=Tryz.f100) rfl rfl rfl rfl ?_
 refine aa (mu:=fun _=>false) ?_
 repeat' (first |refine u1 ?_ |fail)
 by_cases h1:a < b
 ·have d1:=decide_eq_true h1
  rw [if_pos h1]
  repeat' (first |refine u1 ?_ |fail)
  exact ⟨[_],⟨Fz.deep rfl,trivial⟩,rfl⟩
 ·have d1:=decide_eq_false h1
  rw [if_neg h1]
  by_cases h2:b < a
  ·have d2:=decide_eq_true h2
   rw [if_pos h2]
   repeat' (first |refine u1 ?_ |fail)
   exact ⟨[_],⟨Fz.deep rfl,trivial⟩,rfl⟩
  ·have d2:=decide_eq_false h2
   rw [if_neg h2]
   repeat' (first |refine u1 ?_ |fail)
   exact ⟨[_],⟨Fz.deep rfl,trivial⟩,rfl⟩
end Go.Proofs.YtichbhmnhkegiaaGreat
namespace Go.AirLaw
def iC:Nat→Int→Int→Int→Int→Int
 | 0,_,_,left,_=>left
 | n+1,whole,len,left,far=>if 0 < left∧whole * whole≤far then iC n (whole+len) len (left / 2) far else left
def leftOf (candles clear far:Int):Int:=iC 13 (clear * 100) (clear * 100) candles far
def kO (candles clear far:Int):Bool:=decide (far≤leftOf candles clear far * 1000000)
def sq (x y:Int):Int:=x * x+y * y
def bz (x y candles clear:Int):Bool:=kO candles clear (sq x y)
theorem sG:∀ (n:Nat) (w len l far:Int),0≤l→iC n w len l far≤l∧0≤iC n w len l far
 | 0,_,_,l,_,h=>⟨Int.le_refl _,h⟩
 | n+1,w,len,l,far,h=>by
  unfold iC
  split
  ·have:=sG n (w+len) len (l / 2) far (by omega)
   omega
  ·exact ⟨Int.le_refl _,h⟩
theorem ep {a b:Int} (h0:0≤a) (h:a≤b):a * a≤b * b:=Int.mul_le_mul h h h0 (by omega)
theorem wO:∀ (n:Nat) {w1 w2 len1 len2 l1 l2 far1 far2:Int},0≤l1→0≤l2→l2≤l1→0≤w2→w2≤w1→0≤len2→len2≤len1→far1≤far2→iC n w2 len2 l2 far2≤iC n w1 len1 l1 far1
 | 0,_,_,_,_,_,_,_,_,_,_,h,_,_,_,_,_=>h
 | n+1,w1,w2,len1,len2,l1,l2,far1,far2,h1,h2,hl,hw0,hw,hn0,hn,hf=>by
  have hww:=ep hw0 hw
  unfold iC
  by_cases c1:0 < l1∧w1 * w1≤far1
  ·rw [if_pos c1]
   by_cases c2:0 < l2∧w2 * w2≤far2
   ·rw [if_pos c2]
    exact wO n (by omega) (by omega) (by omega) (by omega) (by omega) hn0 hn hf
   ·rw [if_neg c2]
    have:=(sG n (w1+len1) len1 (l1 / 2) far1 (by omega)).2
    omega
  ·rw [if_neg c1]
   by_cases c2:0 < l2∧w2 * w2≤far2
   ·rw [if_pos c2]
    have:=(sG n (w2+len2) len2 (l2 / 2) far2 (by omega)).1
    omega
   ·rw [if_neg c2]
    exact hl
theorem i6 {c1 c2 r1 r2 f1 f2:Int} (hc0:0≤c2) (hc:c2≤c1) (hr0:0≤r2) (hr:r2≤r1) (hf:f1≤f2) (h:kO c2 r2 f2=true):kO c1 r1 f1=true:=by
 unfold kO leftOf at *
 rw [decide_eq_true_eq] at *
 have:=wO 13 (w1:=r1 * 100) (w2:=r2 * 100) (len1:=r1 * 100) (len2:=r2 * 100) (l1:=c1) (l2:=c2) (far1:=f1) (far2:=f2) (by omega) hc0 hc (by omega) (by omega) (by omega) (by omega) hf
 omega
theorem nC {n:Nat} {w len l far:Int} (h:¬ (0 < l∧w * w≤far)):iC n w len l far=l:=by
 cases n with
 | zero=>rfl
 | succ n=>unfold iC;rw [if_neg h]
theorem Cr {n:Nat} {w len l far:Int} (hl:l < 2 ^ n) (h0:0 < l) (h:w * w≤far):∃ m,n=m+1∧l / 2 < 2 ^ m∧iC n w len l far=iC m (w+len) len (l / 2) far:=by
 cases n with
 | zero=>omega
 | succ m =>
  refine ⟨m,rfl,?_,?_⟩
  ·have:(2:Int) ^ (m+1)=2 ^ m * 2:=Int.pow_succ ..
   omega
  ·rw [iC,if_pos ⟨h0,h⟩]
def cF:List (Int × Int):=[(0,1000),(195,981),(383,924),(556,831),(707,707),(831,556),(924,383),(981,195)]
def wP (v:Int × Int):Int × Int:=(v.2,-v.1)
def jN (p:Nat):Int × Int :=
 match p / 8 with
 | 0=>cF.getD (p % 8) (0,0)
 | 1=>wP (cF.getD (p % 8) (0,0))
 | 2=>wP (wP (cF.getD (p % 8) (0,0)))
 | _=>wP (wP (wP (cF.getD (p % 8) (0,0))))
def ig (p:Nat) (x y:Int):Int:=(jN p).1 * y - (jN p).2 * x
def fM (x y:Int) (p:Nat):Bool:=decide (ig p x y≤0) && decide (0 < ig ((p+1) % 32) x y)
theorem F9 {x y:Int} (h:¬ (x=0∧y=0)):∃ p,p < 32∧fM x y p=true:=by
 apply Classical.byContradiction
 intro hno
 have step:∀ p,p < 32→ig p x y≤0→ig ((p+1) % 32) x y≤0:=by
  intro p hp hl
  apply Classical.byContradiction
  intro hn
  refine hno ⟨p,hp,?_⟩
  unfold fM
  rw [decide_eq_true hl,decide_eq_true (by omega)]
  rfl
 have run:∀ (k a:Nat),a < 32→ig a x y≤0→ig ((a+k) % 32) x y≤0:=by
  intro k
  induction k with
  | zero=>intro a ha hl;rw [Nat.add_zero,Nat.mod_eq_of_lt ha];exact hl
  | succ k ih =>
   intro a ha hl
   have:=step _ (Nat.mod_lt (a+k) (by decide)) (ih a ha hl)
   rw [Nat.mod_add_mod] at this
   exact this
 have h0:ig 0 x y=0 * y - 1000 * x:=rfl
 have h8:ig 8 x y=1000 * y - (-0) * x:=rfl
 have h16:ig 16 x y=(-0) * y - (-1000) * x:=rfl
 have h24:ig 24 x y=(-1000) * y - (-(-0)) * x:=rfl
 have all:ig 0 x y≤0∧ig 8 x y≤0∧ig 16 x y≤0∧ig 24 x y≤0:=by
  by_cases hx:0≤x
  ·have ha:ig 0 x y≤0:=by omega
   exact ⟨ha,run 8 0 (by decide) ha,run 16 0 (by decide) ha,run 24 0 (by decide) ha⟩
  ·have ha:ig 16 x y≤0:=by omega
   exact ⟨run 16 16 (by decide) ha,run 24 16 (by decide) ha,ha,run 8 16 (by decide) ha⟩
 omega
def di (x y:Int):Nat:=((List.range 32).find? (fM x y)).getD 0
theorem nD {x y:Int} (h:¬ (x=0∧y=0)):di x y < 32∧fM x y (di x y)=true∧∀ q,q < di x y→fM x y q=false:=by
 obtain ⟨p,hp,hs⟩:=F9 h
 cases hf:(List.range 32).find? (fM x y) with
 | none =>
  rw [List.find?_eq_none] at hf
  exact absurd hs (hf p (List.mem_range.2 hp))
 | some q =>
  have e:di x y=q:=by unfold di;rw [hf];rfl
  rw [e]
  have h1:=List.find?_some hf
  have h2:=List.mem_range.1 (List.mem_of_find?_eq_some hf)
  refine ⟨h2,h1,fun r hr=>?_⟩
  rw [List.find?_range_eq_some] at hf
  have:=hf.2.2 r hr
  simpa using this
def dj (p w:Int):Int:=if 16 < max (p - w) (w - p) then 32 - max (p - w) (w - p) else max (p - w) (w - p)
def nE (aN:Int) (p w:Int):Int:=aN * (1400 - 50 * dj p w) / 10
def aY (x y aN dc:Int):Bool:=decide (x=0∧y=0) || decide (sq x y≤nE aN (di x y) dc * nE aN (di x y) dc)
end Go.AirLaw
namespace Go.AirLaw
def DV (a b n:Nat):Bool:=decide ((a+n) % 32=b) || decide ((b+n) % 32=a)
def Au (a b:Nat):Nat:=((List.range 17).find? (DV a b)).getD 0
def Kz (a b:Nat):Bool:=decide (dj (a:Int) (b:Int)=(Au a b:Nat)) && DV a b (Au a b) && (List.range (Au a b)).all (fun m=>!DV a b m) && decide (Au a b≤16)
theorem Ga:(List.range 32).all (fun a=>(List.range 32).all fun b=>Kz a b)=true:=by decide +kernel
theorem Cs {a b:Nat} (ha:a < 32) (hb:b < 32):dj (a:Int) (b:Int)=(Au a b:Nat)∧DV a b (Au a b)=true∧(∀ m,m < Au a b→DV a b m=false)∧Au a b≤16:=by
 have h:=Ga
 rw [List.all_eq_true] at h
 have h:=h a (List.mem_range.2 ha)
 rw [List.all_eq_true] at h
 have h:=h b (List.mem_range.2 hb)
 unfold Kz at h
 simp only [Bool.and_eq_true,decide_eq_true_eq,List.all_eq_true,List.mem_range,Bool.not_eq_true'] at h
 exact ⟨h.1.1.1,h.1.1.2,h.1.2,h.2⟩
def bU (c r:Int) (d:Nat):Bool:=bz (d:Int) 0 c r
theorem iP {c r:Int} (hc:0≤c):bU c r 0=true:=by
 unfold bU bz kO sq leftOf
 rw [decide_eq_true_eq]
 have:=(sG 13 (r * 100) (r * 100) c 0 hc).2
 show (0:Int) * 0+0 * 0≤iC 13 (r * 100) (r * 100) c (0 * 0+0 * 0) * 1000000
 rw [Int.mul_zero,Int.add_zero]
 omega
theorem iQ {c1 c2 r1 r2:Int} {d e:Nat} (hc0:0≤c2) (hc:c2≤c1) (hr0:0≤r2) (hr:r2≤r1) (h:d≤e) (ha:bU c2 r2 e=true):bU c1 r1 d=true:=by
 unfold bU bz at *
 refine i6 hc0 hc hr0 hr ?_ ha
 unfold sq
 have:=ep (a:=(d:Int)) (b:=(e:Int)) (by omega) (by omega)
 omega
def most (p:Nat→Bool):Nat→Nat
 | 0=>0
 | n+1=>if p (n+1)=true then n+1 else most p n
theorem Av (p:Nat→Bool):∀ n,most p n≤n
 | 0=>Nat.le_refl _
 | n+1=>by
  unfold most
  split
  ·exact Nat.le_refl _
  ·exact Nat.le_succ_of_le (Av p n)
theorem mK {p:Nat→Bool} (h0:p 0=true):∀ n,p (most p n)=true
 | 0=>h0
 | n+1=>by
  unfold most
  split
  ·assumption
  ·exact mK h0 n
theorem oH {p:Nat→Bool}:∀ {n d:Nat},d≤n→p d=true→d≤most p n
 | 0,d,h,_=>h
 | n+1,d,h,hp=>by
  unfold most
  split
  ·exact h
  ·by_cases hd:d=n+1
   ·subst hd
    rename_i hq
    exact absurd hp hq
   ·exact oH (by omega) hp
theorem yP {p:Nat→Bool} {n d:Nat} (hd:d≤n) (h1:p d=true) (h2:∀ e,d < e→e≤n→p e=false) (h0:p 0=true):most p n=d:=by
 have h3:=oH hd h1
 have h4:=Av p n
 by_cases h:d < most p n
 ·have:=h2 _ h h4
  rw [mK h0] at this
  cases this
 ·omega
end Go.AirLaw
