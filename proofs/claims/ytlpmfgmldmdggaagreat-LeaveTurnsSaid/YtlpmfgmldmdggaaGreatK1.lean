/-
  Contracts of the program's functions and of the document's. Lemmas alone; their conditions stand in them.
-/
import Derived.Test.YtlpmfgmldmdggaaGreatA3
import Derived.Test.YtlpmfgmldmdggaaGreatT1
import Derived.Test.YtlpmfgmldmdggaaGreatRows
open Go Go.RM
namespace Go.Proofs.YtlpmfgmldmdggaaGreat
open Go.ChangeShapes Go.WideShapes Go.ChangeAt Go.RowKit
set_option maxRecDepth 100000
theorem HW:ownKnob Tryz.prog.godebug=none:=by kernel_rfl
theorem FC:laidOutB Tryz.prog=true:=by kernel_rfl
end Go.Proofs.YtlpmfgmldmdggaaGreat
open Go Go.RM
namespace Go.Proofs.YtlpmfgmldmdggaaGreat
set_option maxRecDepth 100000
abbrev af (n:Int):AV:=.fl (.int .i64 n)
abbrev BB (b:Bool):AV:=.fl (.bool b)
abbrev ST (s:ByteArray):AV:=.fl (.string s)
abbrev eI (n:Int):List AV:=[af n]
abbrev ints (l:List Int):List (List AV):=l.map eI
def MB:XE:=⟨26,[],[],.bool true,[]⟩
def TB:List XE:=[MB]
abbrev Pu (one:Bool) (f:FuncId) (args:List AV) (v:AV):Prop:=ak TT TB one (.fn f [] []) args v
def sZ {α:Type} (p:α→Bool) (l:List α):Int:=match l.findIdx? p with
 | some i=>(i:Int)
 | none=>-1
theorem oL {α:Type} {p:α→Bool} {l:List α} {k:Nat} (hk:k < l.length) (hprev:∀ i (h:i < l.length),i < k→p l[i]=false) (hp:p l[k]=true):sZ p l=k:=by
 unfold sZ;have:l.findIdx? p=some k:=by rw [List.findIdx?_eq_some_iff_getElem];exact ⟨hk,hp,fun j hj=>by simp [hprev j (by omega) hj]⟩
 rw [this]
theorem oM {α:Type} {p:α→Bool} {l:List α} (hprev:∀ i (h:i < l.length),p l[i]=false):sZ p l=-1:=by
 unfold sZ;have:l.findIdx? p=none:=by rw [List.findIdx?_eq_none_iff];intro x hx;obtain ⟨i,hi,rfl⟩:=List.getElem_of_mem hx;exact hprev i hi
 rw [this]
theorem uQ {α:Type} (p:α→Bool) (l:List α):decide (0≤sZ p l)=l.any p:=by
 unfold sZ
 cases h:l.findIdx? p with
 | some i =>rw [List.findIdx?_eq_some_iff_getElem] at h;obtain ⟨h1,h2,_⟩:=h;simp only [Int.natCast_nonneg,decide_true];symm;rw [List.any_eq_true];exact ⟨_,List.getElem_mem h1,h2⟩
 | none =>rw [List.findIdx?_eq_none_iff] at h;simp;intro x hx;exact h x hx
theorem l5 (n:Nat):∀ (v:AV),v.deep=true→v.i5 n=true:=by
 apply AV.rec (motive_1:=fun v=>v.deep=true→v.i5 n=true) (motive_2:=fun _=>True) (motive_3:=fun l=>cZ l=true→sW n l=true)
 ·intro v _;rfl
 ·intro a b _ _;rfl
 ·intro a b _ _;rfl
 ·intro f a b ha hb h;simp only [AV.deep,qq7] at h;simp only [AV.i5,qq7];exact ⟨ha h.1,hb h.2⟩
 ·intro a ha h;simp only [AV.deep] at h;simp only [AV.i5];exact ha h
 ·intro a ha h;simp only [AV.deep] at h;simp only [AV.i5];exact ha h
 ·intro j v o h;simp [AV.deep] at h
 ·intro j v o n c h;simp [AV.deep] at h
 ·intro j h;simp [AV.deep] at h
 ·intro u _;rfl
 ·intro h;simp [AV.deep] at h
 ·trivial
 ·intros;trivial
 ·intro _;rfl
 ·intro a l ha hl h;simp only [cZ,qq7] at h;simp only [sW,qq7];exact ⟨ha h.1,hl h.2⟩
theorem s5 {n:Nat} {v:Value}:(AV.fl v).i5 n=true:=rfl
theorem s7 {n:Nat} {a:List (List AV)} {b:Bool}:(AV.sl a b).i5 n=true:=rfl
theorem aD {a b:Int} (h:a=b):AV.fl (.int .i64 a)=AV.fl (.int .i64 b):=by rw [h]
theorem JL {a b:Bool} (h:a=b):AV.fl (.bool a)=AV.fl (.bool b):=by rw [h]
theorem CH (one:Bool) (n lo hi:Int):ak TT TB one (.fn 96 [] [.pt [af lo] 0,.pt [af hi] 0]) [af n] (BB (decide (n < lo) || decide (hi < n))):=by
 refine ak.body (fn:=Tryz.f96) rfl rfl rfl rfl ?_;refine qq1 ?_;repeat' first|(refine ⟨_,rfl,?_⟩)|(refine fL (by assumption) ?_)|(refine gA (by assumption) ?_)|(refine ⟨fun h=>?_,fun h=>?_⟩)|fail
 all_goals refine ⟨[_],⟨Fz.deep rfl,trivial⟩,?_⟩
 all_goals simp_all [Bk]
theorem pS (one:Bool) (g:FuncId) (fs cs:List AV) (hF:(AV.fn g fs cs).deep=true) (p:Int→Bool) (l:List Int) (full:Bool) (hl:l.length≤maxLen) (hp:∀ n ∈ l,ak TT TB one (.fn g fs cs) [af n] (BB (p n))) :
  Pu one 88 [.sl (ints l) full,.fn g fs cs] (af (sZ p l)):=by
 unfold maxLen at hl;refine ak.body (fn:=Tryz.f88) rfl rfl rfl rfl ?_;refine qq1 ?_
 skip
 refine aB.aP (ah.to (l:=[(0,.sl (ints l) full),(1,.fn g fs cs),(7,af l.length),(8,af ((0:Nat):Int))]) 0 rfl ⟨rfl,rfl,aD (by simp),rfl,trivial⟩ (qq6 _) (by simp [s5,s7,l5 0 _ hF]) rfl) ?_;refine aB.loop (fun k:Nat=>k≤l.length∧∀ i (h:i < l.length),i < k→p l[i]=false) (fun k=>⟨aL [(0,.sl (ints l) full),(1,.fn g fs cs),(7,af l.length),(8,af (k:Int))],[],bp.none,false,0⟩) (fun k=>l.length - k) ?_ 0 ⟨qq5 _,fun i _ hi=>absurd hi (by omega)⟩;intro k ⟨hk,hprev⟩;refine qq1 ?_;refine ⟨fun h=>?_,fun h=>?_⟩
 ·have hlt:k < l.length:=by simpa using h
  refine ⟨[af l[k]],⟨by omega,by simp [hlt]⟩,rfl,?_⟩;repeat' first|refine u1 ?_|fail
  refine ak.call (hp l[k] (List.getElem_mem _)) hF rfl ?_;refine ⟨fun h2=>?_,fun h2=>?_⟩
  ·refine ⟨[_],⟨Fz.deep rfl,trivial⟩,?_⟩;rw [oL hlt hprev h2];rfl
  ·repeat' first|refine u2 ?_|fail
   refine ⟨k+1,⟨hlt,fun i hi hik=>?_⟩,(by dsimp only;omega),ah.to 0 rfl ⟨rfl,rfl,rfl,aD (by simp),trivial⟩ (qq6 _) (by simp [s5,s7,l5 0 _ hF]) rfl⟩;by_cases hik':i=k
   ·subst hik';exact h2
   ·exact hprev i hi (by omega)
 ·skip
  refine ⟨[_],⟨Fz.deep rfl,trivial⟩,?_⟩;have:k=l.length:=by simp at h;omega
  rw [oM fun i hi=>hprev i hi (by omega)];rfl
end Go.Proofs.YtlpmfgmldmdggaaGreat
open Go Go.RM
namespace Go.Proofs.YtlpmfgmldmdggaaGreat
set_option maxRecDepth 100000
structure fk where
 name:ByteArray
 EV:Int
 leave:Int
 EW:Int
 rL:Int
structure nh where
 name:ByteArray
 kL:Int
 rM:Int
 F6:Bool
structure aS where
 aE:List fk
 aH:List nh
 least:Int
abbrev aX (r:fk):List AV:=[ST r.name,af r.EV,af r.leave,af r.EW,af r.rL]
abbrev bq (m:nh):List AV:=[ST m.name,af m.kL,af m.rM,BB m.F6]
abbrev aM (c:aS):List AV:=[.sl (c.aE.map aX) false,.sl (c.aH.map bq) false,af c.least]
theorem l6 (one:Bool) (g:FuncId) (fs cs:List AV) (hF:(AV.fn g fs cs).deep=true) (p:Int→Bool) (l:List Int) (full:Bool) (hl:l.length≤maxLen) (hp:∀ x ∈ l,ak TT TB one (.fn g fs cs) [af x] (BB (p x))) :
  Pu one 95 [.sl (l.map eI) full,.fn g fs cs] (BB (l.any p)):=by
 refine ak.body (fn:=Tryz.f95) rfl rfl rfl rfl ?_;refine qq1 ?_
 skip
 refine ak.call (pS one g fs cs hF p l full hl hp) rfl (by simp only [cZ,AV.deep,Bool.and_true,Bool.true_and];exact hF) ?_
 skip
 refine ⟨[_],⟨Fz.deep rfl,trivial⟩,?_⟩;rw [←uQ];rfl
theorem wF (one:Bool) (g:FuncId) (fs cs:List AV) (hF:(AV.fn g fs cs).deep=true) (p:fk→Bool) (l:List fk) (full:Bool) (hl:l.length≤maxLen) (hp:∀ x ∈ l,ak TT TB one (.fn g fs cs) [.ag (aX x)] (BB (p x))) :
  Pu one 118 [.sl (l.map aX) full,.fn g fs cs] (af (sZ p l)):=by
 unfold maxLen at hl;refine ak.body (fn:=Tryz.f118) rfl rfl rfl rfl ?_;refine qq1 ?_
 skip
 refine aB.aP (ah.to (l:=[(0,.sl (l.map aX) full),(1,.fn g fs cs),(7,af l.length),(8,af ((0:Nat):Int))]) 0 rfl ⟨rfl,rfl,aD (by simp),rfl,trivial⟩ (qq6 _) (by simp [s5,s7,l5 0 _ hF]) rfl) ?_;refine aB.loop (fun k:Nat=>k≤l.length∧∀ i (h:i < l.length),i < k→p l[i]=false) (fun k=>⟨aL [(0,.sl (l.map aX) full),(1,.fn g fs cs),(7,af l.length),(8,af (k:Int))],[],bp.none,false,0⟩) (fun k=>l.length - k) ?_ 0 ⟨qq5 _,fun i _ hi=>absurd hi (by omega)⟩;intro k ⟨hk,hprev⟩;refine qq1 ?_;refine ⟨fun h=>?_,fun h=>?_⟩
 ·have hlt:k < l.length:=by simpa using h
  skip
  refine ⟨aX l[k],⟨by omega,by simp [hlt]⟩,rfl,?_⟩;repeat' first|refine u2 ?_|fail
  refine ak.call (hp l[k] (List.getElem_mem _)) hF rfl ?_;refine ⟨fun h2=>?_,fun h2=>?_⟩
  ·skip
   refine ⟨[_],⟨Fz.deep rfl,trivial⟩,?_⟩;rw [oL hlt hprev h2];rfl
  ·repeat' first|refine u2 ?_|fail
   refine ⟨k+1,⟨hlt,fun i hi hik=>?_⟩,(by dsimp only;omega),ah.to 0 rfl ⟨rfl,rfl,rfl,aD (by simp),trivial⟩ (qq6 _) (by simp [s5,s7,l5 0 _ hF]) rfl⟩;by_cases hik':i=k
   ·subst hik';exact h2
   ·exact hprev i hi (by omega)
 ·skip
  refine ⟨[_],⟨Fz.deep rfl,trivial⟩,?_⟩;have:k=l.length:=by simp at h;omega
  rw [oM fun i hi=>hprev i hi (by omega)];rfl
theorem s8 (one:Bool) (g:FuncId) (fs cs:List AV) (hF:(AV.fn g fs cs).deep=true) (p:fk→Bool) (l:List fk) (full:Bool) (hl:l.length≤maxLen) (hp:∀ x ∈ l,ak TT TB one (.fn g fs cs) [.ag (aX x)] (BB (p x))) :
  Pu one 98 [.sl (l.map aX) full,.fn g fs cs] (BB (l.any p)):=by
 refine ak.body (fn:=Tryz.f98) rfl rfl rfl rfl ?_;refine qq1 ?_
 skip
 refine ak.call (wF one g fs cs hF p l full hl hp) rfl (by simp only [cZ,AV.deep,Bool.and_true,Bool.true_and];exact hF) ?_
 skip
 refine ⟨[_],⟨Fz.deep rfl,trivial⟩,?_⟩;rw [←uQ];rfl
theorem wG (one:Bool) (g:FuncId) (fs cs:List AV) (hF:(AV.fn g fs cs).deep=true) (p:nh→Bool) (l:List nh) (full:Bool) (hl:l.length≤maxLen) (hp:∀ x ∈ l,ak TT TB one (.fn g fs cs) [.ag (bq x)] (BB (p x))) :
  Pu one 119 [.sl (l.map bq) full,.fn g fs cs] (af (sZ p l)):=by
 unfold maxLen at hl;refine ak.body (fn:=Tryz.f119) rfl rfl rfl rfl ?_;refine qq1 ?_
 skip
 refine aB.aP (ah.to (l:=[(0,.sl (l.map bq) full),(1,.fn g fs cs),(7,af l.length),(8,af ((0:Nat):Int))]) 0 rfl ⟨rfl,rfl,aD (by simp),rfl,trivial⟩ (qq6 _) (by simp [s5,s7,l5 0 _ hF]) rfl) ?_;refine aB.loop (fun k:Nat=>k≤l.length∧∀ i (h:i < l.length),i < k→p l[i]=false) (fun k=>⟨aL [(0,.sl (l.map bq) full),(1,.fn g fs cs),(7,af l.length),(8,af (k:Int))],[],bp.none,false,0⟩) (fun k=>l.length - k) ?_ 0 ⟨qq5 _,fun i _ hi=>absurd hi (by omega)⟩;intro k ⟨hk,hprev⟩;refine qq1 ?_;refine ⟨fun h=>?_,fun h=>?_⟩
 ·have hlt:k < l.length:=by simpa using h
  skip
  refine ⟨bq l[k],⟨by omega,by simp [hlt]⟩,rfl,?_⟩;repeat' first|refine u2 ?_|fail
  refine ak.call (hp l[k] (List.getElem_mem _)) hF rfl ?_;refine ⟨fun h2=>?_,fun h2=>?_⟩
  ·skip
   refine ⟨[_],⟨Fz.deep rfl,trivial⟩,?_⟩;rw [oL hlt hprev h2];rfl
  ·repeat' first|refine u2 ?_|fail
   refine ⟨k+1,⟨hlt,fun i hi hik=>?_⟩,(by dsimp only;omega),ah.to 0 rfl ⟨rfl,rfl,rfl,aD (by simp),trivial⟩ (qq6 _) (by simp [s5,s7,l5 0 _ hF]) rfl⟩;by_cases hik':i=k
   ·subst hik';exact h2
   ·exact hprev i hi (by omega)
 ·skip
  refine ⟨[_],⟨Fz.deep rfl,trivial⟩,?_⟩;have:k=l.length:=by simp at h;omega
  rw [oM fun i hi=>hprev i hi (by omega)];rfl
theorem rN (one:Bool) (g:FuncId) (fs cs:List AV) (hF:(AV.fn g fs cs).deep=true) (p:nh→Bool) (l:List nh) (full:Bool) (hl:l.length≤maxLen) (hp:∀ x ∈ l,ak TT TB one (.fn g fs cs) [.ag (bq x)] (BB (p x))) :
  Pu one 100 [.sl (l.map bq) full,.fn g fs cs] (BB (l.any p)):=by
 refine ak.body (fn:=Tryz.f100) rfl rfl rfl rfl ?_;refine qq1 ?_
 skip
 refine ak.call (wG one g fs cs hF p l full hl hp) rfl (by simp only [cZ,AV.deep,Bool.and_true,Bool.true_and];exact hF) ?_
 skip
 refine ⟨[_],⟨Fz.deep rfl,trivial⟩,?_⟩;rw [←uQ];rfl
end Go.Proofs.YtlpmfgmldmdggaaGreat
open Go Go.RM
namespace Go.Proofs.YtlpmfgmldmdggaaGreat
set_option maxRecDepth 100000
def iy (lo hi:Int) (l:List Int):Bool:=l.any fun n=>decide (n < lo) || decide (hi < n)
def Kh:List AV→Int
 | [.fl (.int _ n)]=>n
 | _=>0
def MC:List AV→Bool
 | [.fl (.int .i64 _)]=>true
 | _=>false
theorem allI:∀ {els:List (List AV)},els.all MC=true→els=ints (els.map Kh)
 | [],_=>rfl
 | el :: els,h=>by
  simp only [List.all_cons,qq7] at h;have ih:=allI h.2
  have:el=eI (Kh el):=by
   have h1:=h.1;unfold MC at h1;split at h1
   ·rfl
   ·cases h1
  show el :: els=eI (Kh el) :: ints (els.map Kh);rw [←this,←ih]
theorem Er (one:Bool) (lo hi:Int) (els:List (List AV)) (full:Bool) (h:els.all MC=true) (hl:els.length≤maxLen):Pu one 51 [af lo,af hi,.sl els full] (BB (iy lo hi (els.map Kh))):=by
 obtain ⟨l,hl'⟩:∃ l,els.map Kh=l:=⟨_,rfl⟩;have he:els=ints l:=by rw [←hl'];exact allI h
 rw [hl'];subst he;refine ak.body (fn:=Tryz.f51) rfl rfl rfl rfl ?_;refine qq1 ?_;repeat' first|refine u2 ?_|fail
 refine ak.call (l6 one 96 [] _ rfl (fun n=>decide (n < lo) || decide (hi < n)) l full (by simpa using hl) (fun n _=>CH one n lo hi)) rfl rfl ?_
 skip
 refine ⟨[_],⟨Fz.deep rfl,trivial⟩,?_⟩;rfl
def yp:UInt8→List UInt8→Bool
 | last,[]=>decide (last.toNat ≠ 45)
 | last,c :: l=>if 97≤c.toNat∧c.toNat≤122 then yp c l else if c.toNat ≠ 45∨last.toNat=45 then false else yp c l
theorem Bu (last c:UInt8) (l:List UInt8):yp last (c :: l)=if 97≤c.toNat∧c.toNat≤122 then yp c l else if c.toNat ≠ 45∨last.toNat=45 then false else yp c l:=rfl
def iA (s:ByteArray):Bool:=decide (s.data.toList.length≤14) && yp 45 s.data.toList
theorem yq {s:ByteArray} {i:Nat} (h:i < s.data.toList.length):(s.get! i)=s.data.toList[i]:=by
 have:i < s.data.size:=by simpa using h
 simp only [ByteArray.get!,getElem!_pos s.data i this];simp
theorem Es {s:ByteArray} {i:Nat} (h:i < s.data.toList.length) (hb:(s.data.toList[i]).toNat < 128):Utf8.decode s i=((s.data.toList[i]).toNat,1):=by unfold Utf8.decode;simp only [Nat.add_zero,yq h];rw [if_pos hb]
theorem Et {s:ByteArray} {i:Nat} (h:i < s.data.toList.length) (hb:128≤(s.data.toList[i]).toNat):128≤(Utf8.decode s i).1:=by
 unfold Utf8.decode;simp only [Nat.add_zero,yq h,Utf8.runeError];rw [if_neg (by omega)];repeat' split
 all_goals simp_all
 all_goals omega
theorem F7 (one : Bool) (s : ByteArray) (hs : s.data.toList.length ≤ maxLen) : Pu one 97 [ST s] (BB (iA s)) := by
  unfold maxLen at hs;refine ak.body (fn := Tryz.f97) rfl rfl rfl rfl ?_;refine aa (mu := fun _ => false) ?_
  skip
  refine aB.aP (ah.to (l := [(0, ST s), (7, .ptr 0 0 0), (3, .fl (.int .i32 (((45 : UInt8).toNat : Nat) : Int)))]) 1 rfl ⟨rfl, rfl, rfl, trivial⟩ (qq5 _) rfl rfl) ?_;refine aB.loop (fun x : Nat × UInt8 => x.1 ≤ s.data.toList.length ∧ yp 45 s.data.toList = yp x.2 (s.data.toList.drop x.1)) (fun x => ⟨aL [(0, ST s), (7, .ptr 0 0 0), (3, .fl (.int .i32 ((x.2.toNat : Nat) : Int)))], [.dU s x.1], bp.none, false, 0⟩) (fun x => s.data.toList.length - x.1) ?_ (0, 45) ⟨qq5 _, rfl⟩;intro ⟨pos, last⟩ ⟨hpos, hrel⟩;refine aa (mu := fun _ => false) ?_;have hdrop : ∀ h : pos < s.data.toList.length, s.data.toList.drop pos = s.data.toList[pos] :: s.data.toList.drop (pos + 1) := fun h => List.drop_eq_getElem_cons h;refine ⟨s, pos, rfl, fun hlt => ?_, fun hge => ?_⟩
  · rw [hdrop hlt] at hrel;simp only at hrel;generalize hc : s.data.toList[pos] = c at hrel;have hc256 : c.toNat < 256 := c.toNat_lt;rw [Bu] at hrel;by_cases hb : c.toNat < 128
    · have hd := Es hlt (by rw [hc]; exact hb);rw [hc] at hd;rw [hd];clear hd hc hdrop;repeat' first|(refine ⟨_, rfl, ?_⟩)|(refine fL (by assumption) ?_)|(refine fL rfl ?_)|(refine gA rfl ?_)|(refine gA (by assumption) ?_)|(refine ⟨_, _, rfl, rfl, _, rfl, rfl, ?_⟩)|(refine ⟨fun h => ?_, fun h => ?_⟩)|fail
      all_goals first
        | (refine ⟨(pos + 1, c), ⟨hlt, ?_⟩, (by dsimp only; omega), ah.to 1 rfl ⟨rfl, rfl, rfl, trivial⟩ (qq5 _) rfl rfl⟩
           first
             | rw [hrel, if_pos (by simp at *; omega)]
             | rw [hrel, if_neg (by simp at *; omega), if_neg (by simp at *; omega)])
        | (refine ⟨[_], ⟨Fz.deep rfl, trivial⟩, JL ?_⟩
           rw [iA, hrel, if_neg (by simp at *; omega), if_pos (by simp at *; omega)]
           simp)
    · have hd := Et hlt (by rw [hc]; omega);generalize Utf8.decode s pos = d at hd;clear hc hdrop;repeat' first|(refine ⟨_, rfl, ?_⟩)|(refine fL (by assumption) ?_)|(refine fL rfl ?_)|(refine gA rfl ?_)|(refine gA (by assumption) ?_)|(refine ⟨_, _, rfl, rfl, _, rfl, rfl, ?_⟩)|(refine ⟨fun h => ?_, fun h => ?_⟩)|fail
      all_goals first
        | (exfalso; simp at *; omega)
        | (refine ⟨[_], ⟨Fz.deep rfl, trivial⟩, JL ?_⟩
           rw [iA, hrel, if_neg (by omega), if_pos (by omega)]
           simp)
  · have hlen : pos = s.data.toList.length := by simp only at hpos; omega
    subst hlen;simp only [List.drop_length, yp] at hrel;repeat' first|(refine ⟨_, rfl, ?_⟩)|(refine fL (by assumption) ?_)|(refine gA rfl ?_)|(refine gA (by assumption) ?_)|(refine ⟨_, _, rfl, rfl, _, rfl, rfl, ?_⟩)|(refine ⟨fun h => ?_, fun h => ?_⟩)|fail
    all_goals refine ⟨[_], ⟨Fz.deep rfl, trivial⟩, JL ?_⟩
    all_goals rw [iA, hrel, Bool.eq_iff_iff]
    all_goals simp at *
    all_goals omega
end Go.Proofs.YtlpmfgmldmdggaaGreat
open Go Go.RM
namespace Go.Proofs.YtlpmfgmldmdggaaGreat
set_option maxRecDepth 100000
def w5 (a b:ByteArray):Bool:=a.toList == b.toList
def cS (n:Nat) (e:Nat→Int):Int × Int:=match (List.range n).find? (fun i=>e i != 0) with
 | some i=>((i:Int),e i)
 | none=>(0,0)
theorem lu {n k:Nat} {e:Nat→Int} (hk:k < n) (hprev:∀ i,i < k→e i=0) (h:e k ≠ 0):cS n e=((k:Int),e k):=by
 unfold cS;have:(List.range n).find? (fun i=>e i != 0)=some k:=by rw [List.find?_range_eq_some];exact ⟨by simpa using h,by simpa using hk,fun j hj=>by simp [hprev j hj]⟩
 rw [this]
theorem lz {n:Nat} {e:Nat→Int} (hprev:∀ i,i < n→e i=0):cS n e=(0,0):=by
 unfold cS;have:(List.range n).find? (fun i=>e i != 0)=none:=by rw [List.find?_eq_none];intro x hx;simp [hprev x (by simpa using hx)]
 rw [this]
end Go.Proofs.YtlpmfgmldmdggaaGreat
open Go Go.RM
namespace Go.Proofs.YtlpmfgmldmdggaaGreat
set_option maxRecDepth 100000
def jP (n lo hi:Int):Bool:=decide (lo≤n) && decide (n≤hi)
theorem gh {n lo hi:Int}:jP n lo hi=true ↔ lo≤n∧n≤hi:=by simp [jP]
theorem cT (n lo hi:Int):iy lo hi [n]=!jP n lo hi:=by unfold iy jP;rw [Bool.eq_iff_iff];simp
theorem iT (one:Bool) (n lo hi:Int):Pu one 58 [af n,af lo,af hi] (BB (jP n lo hi)):=by
 refine ak.body (fn:=Tryz.f58) rfl rfl rfl rfl ?_;refine qq1 ?_;repeat' first|(refine fL (by assumption) ?_)|(refine gA (by assumption) ?_)|(refine ⟨fun h=>?_,fun h=>?_⟩)|fail
 all_goals refine ⟨[_],⟨Fz.deep rfl,trivial⟩,JL ?_⟩
 all_goals simp_all [jP]
 all_goals omega
theorem Ir (one:Bool) (n lo hi:Int):Pu one 120 [af n,af lo,af hi] (BB (jP n lo hi)):=by
 refine ak.body (fn:=Tryz.f120) rfl rfl rfl rfl ?_;refine qq1 ?_;repeat' first|(refine fL (by assumption) ?_)|(refine gA (by assumption) ?_)|(refine ⟨fun h=>?_,fun h=>?_⟩)|fail
 all_goals refine ⟨[_],⟨Fz.deep rfl,trivial⟩,JL ?_⟩
 all_goals simp_all [jP]
 all_goals omega
theorem yu {s:ByteArray} {k:Nat} (h:k < s.data.toList.length):di (aO TT.P (Instr.index 9 (.string s) (.int .i64 (k:Int))))=some (.int .u8 ((s.data.toList[k].toNat:Nat):Int),.none):=by
 have hk:k < s.size:=by rwa [Array.length_toList] at h
 have e:(if (0:Int)≤(k:Int) then s[(k:Int).toNat]? else none)=some (s.data.toList[k]):=by rw [if_pos (by omega),Int.toNat_natCast];rw [getElem?_pos s k hk];rfl
 unfold Instr.index
 show di (aO TT.P (match (if (0:Int)≤(k:Int) then s[(k:Int).toNat]? else none) with
  | some b=>pure (.int .u8 b.toNat)
  | none=>boundsPanic .i64 k s.size .index))=_
 rw [e];rfl
theorem dB {α β:Type} {f:α→β} {l:List α} {k:Nat} (h:k < l.length):(l.map f)[((k:Nat):Int).toNat]?=some (f l[k]):=by rw [Int.toNat_natCast,List.getElem?_map,List.getElem?_eq_getElem h];rfl
def lA (l:List UInt8):Nat→UInt8
 | 0=>45
 | k+1=>l[k]?.getD 45
theorem mU {l:List UInt8} {k:Nat} (h:k < l.length):lA l (k+1)=l[k]:=by show (l[k]?).getD 45=l[k];rw [List.getElem?_eq_getElem h];rfl
theorem F8 {l:List UInt8} {k:Nat} (h:k < l.length):yp (lA l k) (l.drop k)=if 97≤l[k].toNat∧l[k].toNat≤122 then yp (lA l (k+1)) (l.drop (k+1)) else if l[k].toNat ≠ 45∨(lA l k).toNat=45 then false else yp (lA l (k+1)) (l.drop (k+1)):=by rw [List.drop_eq_getElem_cons h,Bu,mU h]
theorem Is {l:List UInt8} {k:Nat} (h:k+1=l.length) (h45:l[k].toNat=45):yp (lA l (k+1)) (l.drop (k+1))=false:=by rw [mU (by omega),h,List.drop_length];unfold yp;simp [h45]
abbrev eS (s:ByteArray):List AV:=[ST s]
theorem It (one:Bool) (names:List ByteArray) (full:Bool) (s:ByteArray) (hl:names.length≤maxLen):Pu one 103 [.sl (names.map eS) full,ST s] (af (sZ (fun x=>w5 x s) names)):=by
 unfold maxLen at hl;refine ak.body (fn:=Tryz.f103) rfl rfl rfl rfl ?_;refine qq1 ?_
 skip
 refine aB.aP (ah.to (l:=[(0,.sl (names.map eS) full),(1,ST s),(5,af ((0:Nat):Int))]) 0 rfl ⟨rfl,rfl,rfl,trivial⟩ (qq6 _) rfl rfl) ?_;refine aB.loop (fun k:Nat=>k≤names.length∧∀ i (h:i < names.length),i < k→w5 names[i] s=false) (fun k=>⟨aL [(0,.sl (names.map eS) full),(1,ST s),(5,af (k:Int))],[],bp.none,false,0⟩) (fun k=>names.length - k) ?_ 0 ⟨qq5 _,fun i _ hi=>absurd hi (by omega)⟩;intro k ⟨hk,hprev⟩;refine qq1 ?_
 skip
 refine ⟨fun h=>?_,fun h=>?_⟩
 ·have hlt:k < names.length:=by simpa using h
  skip
  refine ⟨eS names[k],⟨by omega,dB hlt⟩,rfl,?_⟩;repeat' first|refine u1 ?_|refine u2 ?_|fail
  refine ⟨fun h2=>?_,fun h2=>?_⟩
  ·skip
   refine ⟨[_],⟨Fz.deep rfl,trivial⟩,aD ?_⟩;exact (oL hlt hprev h2).symm
  ·repeat' first|refine u2 ?_|fail
   refine ⟨k+1,⟨hlt,fun i hi hik=>?_⟩,(by dsimp only;omega),ah.to 0 rfl ⟨rfl,rfl,aD (by simp),trivial⟩ (qq6 _) rfl rfl⟩;by_cases hik':i=k
   ·subst hik';exact h2
   ·exact hprev i hi (by omega)
 ·skip
  refine ⟨[_],⟨Fz.deep rfl,trivial⟩,aD ?_⟩;have:k=names.length:=by simp at h;omega
  rw [oM fun i hi=>hprev i hi (by omega)]
theorem Iu (one : Bool) (s : ByteArray) (hs : s.data.toList.length ≤ maxLen) : Pu one 102 [ST s] (BB (iA s)) := by
  unfold maxLen at hs;refine ak.body (fn := Tryz.f102) rfl rfl rfl rfl ?_;refine aa (mu := fun _ => false) ?_;repeat' first|(refine ak.call (Ir one _ _ _) rfl rfl ?_)|fail
  refine ⟨fun h => ?_, fun h => ?_⟩
  · skip
    refine ⟨[_], ⟨Fz.deep rfl, trivial⟩, JL ?_⟩;have h : ¬ (1 ≤ s.data.toList.length ∧ s.data.toList.length ≤ 14) := by rw [Bool.not_eq_true', ← Bool.not_eq_true, gh] at h;omega
    unfold iA;generalize s.data.toList = l at h
    cases l with
    | nil => simp [yp]
    | cons a l =>have : 0 < (a :: l).length := Nat.succ_pos _;rw [decide_eq_false (by omega)];rfl
  · have h : 1 ≤ s.data.toList.length ∧ s.data.toList.length ≤ 14 := by rw [Bool.not_eq_false', gh] at h;omega
    have hn : iA s = yp 45 s.data.toList := by unfold iA;rw [decide_eq_true h.2, Bool.true_and]
    skip
    refine aB.aP (ah.to (l := [(0, ST s), (3, af ((0 : Nat) : Int))]) 0 rfl ⟨rfl, rfl, trivial⟩ (qq6 _) rfl rfl) ?_;refine aB.loop (fun k : Nat => k ≤ s.data.toList.length ∧ iA s = yp (lA s.data.toList k) (s.data.toList.drop k) ∧ (k = s.data.toList.length → (lA s.data.toList k).toNat ≠ 45)) (fun k => ⟨aL [(0, ST s), (3, af (k : Int))], [], bp.none, false, 0⟩) (fun k => s.data.toList.length - k) ?_ 0 ⟨qq5 _, hn, fun h0 => by omega⟩;intro k ⟨hk, hrel, hlast⟩;refine aa (mu := fun _ => false) ?_
    skip
    refine ⟨fun h => ?_, fun h => ?_⟩
    · have hlt : k < s.data.toList.length := by rw [decide_eq_true_eq] at h; omega
      rw [F8 hlt] at hrel;have hix := yu hlt;generalize hc : s.data.toList[k] = c at hrel hix;have hix1 : 0 < k → di (aO TT.P (Instr.index 9 (.string s) (.int .i64 ((k : Int) - 1)))) = some (.int .u8 (((lA s.data.toList k).toNat : Nat) : Int), .none) := by intro h0;obtain ⟨m, rfl⟩ : ∃ m, k = m + 1 := ⟨k - 1, by omega⟩;rw [mU (by omega), show (((m + 1 : Nat) : Int) - 1) = ((m : Nat) : Int) from by omega];exact yu (by omega)
      have hl0 : k = 0 → (lA s.data.toList k).toNat = 45 := by rintro rfl;rfl
      have hend : k + 1 = s.data.toList.length → c.toNat = 45 → yp (lA s.data.toList (k + 1)) (s.data.toList.drop (k + 1)) = false := fun h1 h2 => Is h1 (by rw [hc]; exact h2);have hsucc : lA s.data.toList (k + 1) = c := by rw [mU hlt, hc]
      clear hc hn hlast;generalize lA s.data.toList k = d at hrel hix1 hl0;generalize hr : yp (lA s.data.toList (k + 1)) (s.data.toList.drop (k + 1)) = r at hrel hend;repeat' first|(refine fL (by assumption) ?_)|(refine fL rfl ?_)|(refine gA rfl ?_)|(refine gA (by assumption) ?_)|(refine And.intro (by omega) ?_)|(refine ⟨_, _, rfl, rfl, _, rfl, rfl, ?_⟩)|(refine ⟨_, _, rfl, rfl, _, hix, rfl, ?_⟩)|(refine ⟨_, _, rfl, rfl, _, hix1 (by rcases Nat.eq_zero_or_pos k with h0 | h0; (exfalso; simp_all); exact h0), rfl, ?_⟩)|(refine ⟨fun h => ?_, fun h => ?_⟩)|fail
      all_goals first
        | (refine ⟨k + 1, ⟨hlt, ?_, fun h1 => by rw [hsucc]; clear hix hix1 hr hsucc; simp at *; omega⟩, (by dsimp only; omega), ah.to 0 rfl ⟨rfl, aD (by simp), trivial⟩ (qq6 _) rfl rfl⟩
           rw [hr]
           first
             | rw [hrel, if_pos (by simp at *; omega)]
             | rw [hrel, if_neg (by simp at *; omega), if_neg (by simp at *; omega)])
        | (refine ⟨[_], ⟨Fz.deep rfl, trivial⟩, JL ?_⟩
           rw [hrel, if_neg (by simp at *; omega)];split
           · rfl
           · exact (hend (by simp at *; omega) (by simp at *; omega)).symm)
    · skip
      refine ⟨[_], ⟨Fz.deep rfl, trivial⟩, JL ?_⟩;have : k = s.data.toList.length := by rw [decide_eq_false_iff_not] at h; omega
      rw [hrel, this, List.drop_length];have := hlast this;rw [‹k = s.data.toList.length›] at this;unfold yp;simp only [ne_eq, this, not_false_eq_true, decide_true]
end Go.Proofs.YtlpmfgmldmdggaaGreat
open Go Go.RM
namespace Go.Proofs.YtlpmfgmldmdggaaGreat
set_option maxRecDepth 100000
def kD (name:ByteArray) (names:List ByteArray):Int:=if iA name=false then 6 else if names.any (fun x=>w5 x name) then 5 else 0
theorem Du (one:Bool) (names:List ByteArray) (full:Bool) (s:ByteArray) (hs:s.data.toList.length≤maxLen) (hl:names.length≤maxLen):Pu one 59 [ST s,.sl (names.map eS) full] (af (kD s names)):=by
 have hg:=uQ (fun x=>w5 x s) names;have hc:=It one names full s hl;unfold kD;generalize sZ (fun x=>w5 x s) names=i at hg hc;generalize names.any (fun x=>w5 x s)=b at hg;refine ak.body (fn:=Tryz.f59) rfl rfl rfl rfl ?_;refine qq1 ?_;repeat' first |with_reducible (first|refine FY ?_|refine Ig ?_|refine Ih ?_|refine Br ?_)|(refine ak.call (Iu one _ hs) rfl rfl ?_)|(refine ak.call hc rfl rfl ?_)|(refine ⟨fun h=>?_,fun h=>?_⟩)|fail
 all_goals refine ⟨[_],⟨Fz.deep rfl,trivial⟩,aD ?_⟩
 all_goals simp_all
