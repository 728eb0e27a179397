/-
  Contracts of the program's functions and of the document's. Lemmas alone; their conditions stand in them.
-/
import Derived.Test.YtlpmfgmldmdggaaGreatA3
import Derived.Test.YtlpmfgmldmdggaaGreatT1
import Derived.Test.YtlpmfgmldmdggaaGreatRows
open Go Go.RM
namespace Go.Proofs.YtlpmfgmldmdggaaGreat
open Go.ChangeShapes Go.WideShapes Go.ChangeAt Go.RowKit
set_option maxRecDepth 100000
theorem HA:ownKnob Tryz.prog.godebug=none:=by kernel_rfl
theorem Fk:laidOutB Tryz.prog=true:=by kernel_rfl
end Go.Proofs.YtlpmfgmldmdggaaGreat
open Go Go.RM
namespace Go.Proofs.YtlpmfgmldmdggaaGreat
set_option maxRecDepth 100000
abbrev af (n:Int):AV:=.fl (.int .i64 n)
abbrev BB (b:Bool):AV:=.fl (.bool b)
abbrev ST (s:ByteArray):AV:=.fl (.string s)
abbrev eI (n:Int):List AV:=[af n]
abbrev ints (l:List Int):List (List AV):=l.map eI
def LY:XE:=⟨26,[],[],.bool true,[]⟩
def TB:List XE:=[LY]
abbrev Pu (one:Bool) (f:FuncId) (args:List AV) (v:AV):Prop:=ah TT TB one (.fn f [] []) args v
def we {α:Type} (p:α→Bool) (l:List α):Int:=match l.findIdx? p with
 | some i=>(i:Int)
 | none=>-1
theorem oy {α:Type} {p:α→Bool} {l:List α} {k:Nat} (hk:k < l.length) (hprev:∀ i (h:i < l.length),i < k→p l[i]=false) (hp:p l[k]=true):we p l=k:=by
 unfold we;have:l.findIdx? p=some k:=by rw [List.findIdx?_eq_some_iff_getElem];exact ⟨hk,hp,fun j hj=>by simp [hprev j (by omega) hj]⟩
 rw [this]
theorem oz {α:Type} {p:α→Bool} {l:List α} (hprev:∀ i (h:i < l.length),p l[i]=false):we p l=-1:=by
 unfold we;have:l.findIdx? p=none:=by rw [List.findIdx?_eq_none_iff];intro x hx;obtain ⟨i,hi,rfl⟩:=List.getElem_of_mem hx;exact hprev i hi
 rw [this]
theorem uy {α:Type} (p:α→Bool) (l:List α):decide (0≤we p l)=l.any p:=by
 unfold we
 cases h:l.findIdx? p with
 | some i =>rw [List.findIdx?_eq_some_iff_getElem] at h;obtain ⟨h1,h2,_⟩:=h;simp only [Int.natCast_nonneg,decide_true];symm;rw [List.any_eq_true];exact ⟨_,List.getElem_mem h1,h2⟩
 | none =>rw [List.findIdx?_eq_none_iff] at h;simp;intro x hx;exact h x hx
theorem lS (n:Nat):∀ (v:AV),v.deep=true→v.gZ n=true:=by
 apply AV.rec (motive_1:=fun v=>v.deep=true→v.gZ n=true) (motive_2:=fun _=>True) (motive_3:=fun l=>cV l=true→sy n l=true)
 ·intro v _;rfl
 ·intro a b _ _;rfl
 ·intro a b _ _;rfl
 ·intro f a b ha hb h;simp only [AV.deep,qq7] at h;simp only [AV.gZ,qq7];exact ⟨ha h.1,hb h.2⟩
 ·intro a ha h;simp only [AV.deep] at h;simp only [AV.gZ];exact ha h
 ·intro a ha h;simp only [AV.deep] at h;simp only [AV.gZ];exact ha h
 ·intro j v o h;simp [AV.deep] at h
 ·intro j v o n c h;simp [AV.deep] at h
 ·intro j h;simp [AV.deep] at h
 ·intro u _;rfl
 ·intro h;simp [AV.deep] at h
 ·trivial
 ·intros;trivial
 ·intro _;rfl
 ·intro a l ha hl h;simp only [cV,qq7] at h;simp only [sy,qq7];exact ⟨ha h.1,hl h.2⟩
theorem sE {n:Nat} {v:Value}:(AV.fl v).gZ n=true:=rfl
theorem sF {n:Nat} {a:List (List AV)} {b:Bool}:(AV.sl a b).gZ n=true:=rfl
theorem aH {a b:Int} (h:a=b):AV.fl (.int .i64 a)=AV.fl (.int .i64 b):=by rw [h]
theorem Jj {a b:Bool} (h:a=b):AV.fl (.bool a)=AV.fl (.bool b):=by rw [h]
theorem Cv (one:Bool) (n lo hi:Int):ah TT TB one (.fn 96 [] [.pt [af lo] 0,.pt [af hi] 0]) [af n] (BB (decide (n < lo) || decide (hi < n))):=by
 refine ah.body (fn:=Tryz.f96) rfl rfl rfl rfl ?_;refine qq1 ?_;repeat' first|(refine ⟨_,rfl,?_⟩)|(refine fF (by assumption) ?_)|(refine gn (by assumption) ?_)|(refine ⟨fun h=>?_,fun h=>?_⟩)|fail
 all_goals refine ⟨[_],⟨Fz.deep rfl,trivial⟩,?_⟩
 all_goals simp_all [zg]
theorem xq (one:Bool) (g:FuncId) (fs cs:List AV) (hF:(AV.fn g fs cs).deep=true) (p:Int→Bool) (l:List Int) (full:Bool) (hl:l.length≤maxLen) (hp:∀ n ∈ l,ah TT TB one (.fn g fs cs) [af n] (BB (p n))) :
  Pu one 88 [.sl (ints l) full,.fn g fs cs] (af (we p l)):=by
 unfold maxLen at hl;refine ah.body (fn:=Tryz.f88) rfl rfl rfl rfl ?_;refine qq1 ?_
 skip
 refine ay.aN (ak.to (l:=[(0,.sl (ints l) full),(1,.fn g fs cs),(7,af l.length),(8,af ((0:Nat):Int))]) 0 rfl ⟨rfl,rfl,aH (by simp),rfl,trivial⟩ (qq6 _) (by simp [sE,sF,lS 0 _ hF]) rfl) ?_;refine ay.loop (fun k:Nat=>k≤l.length∧∀ i (h:i < l.length),i < k→p l[i]=false) (fun k=>⟨aT [(0,.sl (ints l) full),(1,.fn g fs cs),(7,af l.length),(8,af (k:Int))],[],bJ.none,false,0⟩) (fun k=>l.length - k) ?_ 0 ⟨qq5 _,fun i _ hi=>absurd hi (by omega)⟩;intro k ⟨hk,hprev⟩;refine qq1 ?_;refine ⟨fun h=>?_,fun h=>?_⟩
 ·have hlt:k < l.length:=by simpa using h
  refine ⟨[af l[k]],⟨by omega,by simp [hlt]⟩,rfl,?_⟩;repeat' first|refine u1 ?_|fail
  refine ah.call (hp l[k] (List.getElem_mem _)) hF rfl ?_;refine ⟨fun h2=>?_,fun h2=>?_⟩
  ·refine ⟨[_],⟨Fz.deep rfl,trivial⟩,?_⟩;rw [oy hlt hprev h2];rfl
  ·repeat' first|refine u2 ?_|fail
   refine ⟨k+1,⟨hlt,fun i hi hik=>?_⟩,(by dsimp only;omega),ak.to 0 rfl ⟨rfl,rfl,rfl,aH (by simp),trivial⟩ (qq6 _) (by simp [sE,sF,lS 0 _ hF]) rfl⟩;by_cases hik':i=k
   ·subst hik';exact h2
   ·exact hprev i hi (by omega)
 ·skip
  refine ⟨[_],⟨Fz.deep rfl,trivial⟩,?_⟩;have:k=l.length:=by simp at h;omega
  rw [oz fun i hi=>hprev i hi (by omega)];rfl
end Go.Proofs.YtlpmfgmldmdggaaGreat
open Go Go.RM
namespace Go.Proofs.YtlpmfgmldmdggaaGreat
set_option maxRecDepth 100000
structure eZ where
 name:ByteArray
 EH:Int
 leave:Int
 EI:Int
 qY:Int
structure m8 where
 name:ByteArray
 kC:Int
 qZ:Int
 FZ:Bool
structure aP where
 aB:List eZ
 aA:List m8
 least:Int
abbrev bE (r:eZ):List AV:=[ST r.name,af r.EH,af r.leave,af r.EI,af r.qY]
abbrev bS (m:m8):List AV:=[ST m.name,af m.kC,af m.qZ,BB m.FZ]
abbrev aD (c:aP):List AV:=[.sl (c.aB.map bE) false,.sl (c.aA.map bS) false,af c.least]
theorem lT (one:Bool) (g:FuncId) (fs cs:List AV) (hF:(AV.fn g fs cs).deep=true) (p:Int→Bool) (l:List Int) (full:Bool) (hl:l.length≤maxLen) (hp:∀ x ∈ l,ah TT TB one (.fn g fs cs) [af x] (BB (p x))) :
  Pu one 95 [.sl (l.map eI) full,.fn g fs cs] (BB (l.any p)):=by
 refine ah.body (fn:=Tryz.f95) rfl rfl rfl rfl ?_;refine qq1 ?_
 skip
 refine ah.call (xq one g fs cs hF p l full hl hp) rfl (by simp only [cV,AV.deep,Bool.and_true,Bool.true_and];exact hF) ?_
 skip
 refine ⟨[_],⟨Fz.deep rfl,trivial⟩,?_⟩;rw [←uy];rfl
theorem wg (one:Bool) (g:FuncId) (fs cs:List AV) (hF:(AV.fn g fs cs).deep=true) (p:eZ→Bool) (l:List eZ) (full:Bool) (hl:l.length≤maxLen) (hp:∀ x ∈ l,ah TT TB one (.fn g fs cs) [.ag (bE x)] (BB (p x))) :
  Pu one 118 [.sl (l.map bE) full,.fn g fs cs] (af (we p l)):=by
 unfold maxLen at hl;refine ah.body (fn:=Tryz.f118) rfl rfl rfl rfl ?_;refine qq1 ?_
 skip
 refine ay.aN (ak.to (l:=[(0,.sl (l.map bE) full),(1,.fn g fs cs),(7,af l.length),(8,af ((0:Nat):Int))]) 0 rfl ⟨rfl,rfl,aH (by simp),rfl,trivial⟩ (qq6 _) (by simp [sE,sF,lS 0 _ hF]) rfl) ?_;refine ay.loop (fun k:Nat=>k≤l.length∧∀ i (h:i < l.length),i < k→p l[i]=false) (fun k=>⟨aT [(0,.sl (l.map bE) full),(1,.fn g fs cs),(7,af l.length),(8,af (k:Int))],[],bJ.none,false,0⟩) (fun k=>l.length - k) ?_ 0 ⟨qq5 _,fun i _ hi=>absurd hi (by omega)⟩;intro k ⟨hk,hprev⟩;refine qq1 ?_;refine ⟨fun h=>?_,fun h=>?_⟩
 ·have hlt:k < l.length:=by simpa using h
  skip
  refine ⟨bE l[k],⟨by omega,by simp [hlt]⟩,rfl,?_⟩;repeat' first|refine u2 ?_|fail
  refine ah.call (hp l[k] (List.getElem_mem _)) hF rfl ?_;refine ⟨fun h2=>?_,fun h2=>?_⟩
  ·skip
   refine ⟨[_],⟨Fz.deep rfl,trivial⟩,?_⟩;rw [oy hlt hprev h2];rfl
  ·repeat' first|refine u2 ?_|fail
   refine ⟨k+1,⟨hlt,fun i hi hik=>?_⟩,(by dsimp only;omega),ak.to 0 rfl ⟨rfl,rfl,rfl,aH (by simp),trivial⟩ (qq6 _) (by simp [sE,sF,lS 0 _ hF]) rfl⟩;by_cases hik':i=k
   ·subst hik';exact h2
   ·exact hprev i hi (by omega)
 ·skip
  refine ⟨[_],⟨Fz.deep rfl,trivial⟩,?_⟩;have:k=l.length:=by simp at h;omega
  rw [oz fun i hi=>hprev i hi (by omega)];rfl
theorem sG (one:Bool) (g:FuncId) (fs cs:List AV) (hF:(AV.fn g fs cs).deep=true) (p:eZ→Bool) (l:List eZ) (full:Bool) (hl:l.length≤maxLen) (hp:∀ x ∈ l,ah TT TB one (.fn g fs cs) [.ag (bE x)] (BB (p x))) :
  Pu one 98 [.sl (l.map bE) full,.fn g fs cs] (BB (l.any p)):=by
 refine ah.body (fn:=Tryz.f98) rfl rfl rfl rfl ?_;refine qq1 ?_
 skip
 refine ah.call (wg one g fs cs hF p l full hl hp) rfl (by simp only [cV,AV.deep,Bool.and_true,Bool.true_and];exact hF) ?_
 skip
 refine ⟨[_],⟨Fz.deep rfl,trivial⟩,?_⟩;rw [←uy];rfl
theorem wh (one:Bool) (g:FuncId) (fs cs:List AV) (hF:(AV.fn g fs cs).deep=true) (p:m8→Bool) (l:List m8) (full:Bool) (hl:l.length≤maxLen) (hp:∀ x ∈ l,ah TT TB one (.fn g fs cs) [.ag (bS x)] (BB (p x))) :
  Pu one 119 [.sl (l.map bS) full,.fn g fs cs] (af (we p l)):=by
 unfold maxLen at hl;refine ah.body (fn:=Tryz.f119) rfl rfl rfl rfl ?_;refine qq1 ?_
 skip
 refine ay.aN (ak.to (l:=[(0,.sl (l.map bS) full),(1,.fn g fs cs),(7,af l.length),(8,af ((0:Nat):Int))]) 0 rfl ⟨rfl,rfl,aH (by simp),rfl,trivial⟩ (qq6 _) (by simp [sE,sF,lS 0 _ hF]) rfl) ?_;refine ay.loop (fun k:Nat=>k≤l.length∧∀ i (h:i < l.length),i < k→p l[i]=false) (fun k=>⟨aT [(0,.sl (l.map bS) full),(1,.fn g fs cs),(7,af l.length),(8,af (k:Int))],[],bJ.none,false,0⟩) (fun k=>l.length - k) ?_ 0 ⟨qq5 _,fun i _ hi=>absurd hi (by omega)⟩;intro k ⟨hk,hprev⟩;refine qq1 ?_;refine ⟨fun h=>?_,fun h=>?_⟩
 ·have hlt:k < l.length:=by simpa using h
  skip
  refine ⟨bS l[k],⟨by omega,by simp [hlt]⟩,rfl,?_⟩;repeat' first|refine u2 ?_|fail
  refine ah.call (hp l[k] (List.getElem_mem _)) hF rfl ?_;refine ⟨fun h2=>?_,fun h2=>?_⟩
  ·skip
   refine ⟨[_],⟨Fz.deep rfl,trivial⟩,?_⟩;rw [oy hlt hprev h2];rfl
  ·repeat' first|refine u2 ?_|fail
   refine ⟨k+1,⟨hlt,fun i hi hik=>?_⟩,(by dsimp only;omega),ak.to 0 rfl ⟨rfl,rfl,rfl,aH (by simp),trivial⟩ (qq6 _) (by simp [sE,sF,lS 0 _ hF]) rfl⟩;by_cases hik':i=k
   ·subst hik';exact h2
   ·exact hprev i hi (by omega)
 ·skip
  refine ⟨[_],⟨Fz.deep rfl,trivial⟩,?_⟩;have:k=l.length:=by simp at h;omega
  rw [oz fun i hi=>hprev i hi (by omega)];rfl
theorem rj (one:Bool) (g:FuncId) (fs cs:List AV) (hF:(AV.fn g fs cs).deep=true) (p:m8→Bool) (l:List m8) (full:Bool) (hl:l.length≤maxLen) (hp:∀ x ∈ l,ah TT TB one (.fn g fs cs) [.ag (bS x)] (BB (p x))) :
  Pu one 100 [.sl (l.map bS) full,.fn g fs cs] (BB (l.any p)):=by
 refine ah.body (fn:=Tryz.f100) rfl rfl rfl rfl ?_;refine qq1 ?_
 skip
 refine ah.call (wh one g fs cs hF p l full hl hp) rfl (by simp only [cV,AV.deep,Bool.and_true,Bool.true_and];exact hF) ?_
 skip
 refine ⟨[_],⟨Fz.deep rfl,trivial⟩,?_⟩;rw [←uy];rfl
end Go.Proofs.YtlpmfgmldmdggaaGreat
open Go Go.RM
namespace Go.Proofs.YtlpmfgmldmdggaaGreat
set_option maxRecDepth 100000
def fU (lo hi:Int) (l:List Int):Bool:=l.any fun n=>decide (n < lo) || decide (hi < n)
def Jk:List AV→Int
 | [.fl (.int _ n)]=>n
 | _=>0
def LZ:List AV→Bool
 | [.fl (.int .i64 _)]=>true
 | _=>false
theorem allI:∀ {els:List (List AV)},els.all LZ=true→els=ints (els.map Jk)
 | [],_=>rfl
 | el :: els,h=>by
  simp only [List.all_cons,qq7] at h;have ih:=allI h.2
  have:el=eI (Jk el):=by
   have h1:=h.1;unfold LZ at h1;split at h1
   ·rfl
   ·cases h1
  show el :: els=eI (Jk el) :: ints (els.map Jk);rw [←this,←ih]
theorem xX (one:Bool) (lo hi:Int) (els:List (List AV)) (full:Bool) (h:els.all LZ=true) (hl:els.length≤maxLen):Pu one 51 [af lo,af hi,.sl els full] (BB (fU lo hi (els.map Jk))):=by
 obtain ⟨l,hl'⟩:∃ l,els.map Jk=l:=⟨_,rfl⟩;have he:els=ints l:=by rw [←hl'];exact allI h
 rw [hl'];subst he;refine ah.body (fn:=Tryz.f51) rfl rfl rfl rfl ?_;refine qq1 ?_;repeat' first|refine u2 ?_|fail
 refine ah.call (lT one 96 [] _ rfl (fun n=>decide (n < lo) || decide (hi < n)) l full (by simpa using hl) (fun n _=>Cv one n lo hi)) rfl rfl ?_
 skip
 refine ⟨[_],⟨Fz.deep rfl,trivial⟩,?_⟩;rfl
def xY:UInt8→List UInt8→Bool
 | last,[]=>decide (last.toNat ≠ 45)
 | last,c :: l=>if 97≤c.toNat∧c.toNat≤122 then xY c l else if c.toNat ≠ 45∨last.toNat=45 then false else xY c l
theorem Bg (last c:UInt8) (l:List UInt8):xY last (c :: l)=if 97≤c.toNat∧c.toNat≤122 then xY c l else if c.toNat ≠ 45∨last.toNat=45 then false else xY c l:=rfl
def ig (s:ByteArray):Bool:=decide (s.data.toList.length≤14) && xY 45 s.data.toList
theorem xZ {s:ByteArray} {i:Nat} (h:i < s.data.toList.length):(s.get! i)=s.data.toList[i]:=by
 have:i < s.data.size:=by simpa using h
 simp only [ByteArray.get!,getElem!_pos s.data i this];simp
theorem Ei {s:ByteArray} {i:Nat} (h:i < s.data.toList.length) (hb:(s.data.toList[i]).toNat < 128):Utf8.decode s i=((s.data.toList[i]).toNat,1):=by unfold Utf8.decode;simp only [Nat.add_zero,xZ h];rw [if_pos hb]
theorem Ej {s:ByteArray} {i:Nat} (h:i < s.data.toList.length) (hb:128≤(s.data.toList[i]).toNat):128≤(Utf8.decode s i).1:=by
 unfold Utf8.decode;simp only [Nat.add_zero,xZ h,Utf8.runeError];rw [if_neg (by omega)];repeat' split
 all_goals simp_all
 all_goals omega
theorem F0 (one : Bool) (s : ByteArray) (hs : s.data.toList.length ≤ maxLen) : Pu one 97 [ST s] (BB (ig s)) := by
  unfold maxLen at hs;refine ah.body (fn := Tryz.f97) rfl rfl rfl rfl ?_;refine aa (mu := fun _ => false) ?_
  skip
  refine ay.aN (ak.to (l := [(0, ST s), (7, .ptr 0 0 0), (3, .fl (.int .i32 (((45 : UInt8).toNat : Nat) : Int)))]) 1 rfl ⟨rfl, rfl, rfl, trivial⟩ (qq5 _) rfl rfl) ?_;refine ay.loop (fun x : Nat × UInt8 => x.1 ≤ s.data.toList.length ∧ xY 45 s.data.toList = xY x.2 (s.data.toList.drop x.1)) (fun x => ⟨aT [(0, ST s), (7, .ptr 0 0 0), (3, .fl (.int .i32 ((x.2.toNat : Nat) : Int)))], [.dL s x.1], bJ.none, false, 0⟩) (fun x => s.data.toList.length - x.1) ?_ (0, 45) ⟨qq5 _, rfl⟩;intro ⟨pos, last⟩ ⟨hpos, hrel⟩;refine aa (mu := fun _ => false) ?_;have hdrop : ∀ h : pos < s.data.toList.length, s.data.toList.drop pos = s.data.toList[pos] :: s.data.toList.drop (pos + 1) := fun h => List.drop_eq_getElem_cons h;refine ⟨s, pos, rfl, fun hlt => ?_, fun hge => ?_⟩
  · rw [hdrop hlt] at hrel;simp only at hrel;generalize hc : s.data.toList[pos] = c at hrel;have hc256 : c.toNat < 256 := c.toNat_lt;rw [Bg] at hrel;by_cases hb : c.toNat < 128
    · have hd := Ei hlt (by rw [hc]; exact hb);rw [hc] at hd;rw [hd];clear hd hc hdrop;repeat' first|(refine ⟨_, rfl, ?_⟩)|(refine fF (by assumption) ?_)|(refine fF rfl ?_)|(refine gn rfl ?_)|(refine gn (by assumption) ?_)|(refine ⟨_, _, rfl, rfl, _, rfl, rfl, ?_⟩)|(refine ⟨fun h => ?_, fun h => ?_⟩)|fail
      all_goals first
        | (refine ⟨(pos + 1, c), ⟨hlt, ?_⟩, (by dsimp only; omega), ak.to 1 rfl ⟨rfl, rfl, rfl, trivial⟩ (qq5 _) rfl rfl⟩
           first
             | rw [hrel, if_pos (by simp at *; omega)]
             | rw [hrel, if_neg (by simp at *; omega), if_neg (by simp at *; omega)])
        | (refine ⟨[_], ⟨Fz.deep rfl, trivial⟩, Jj ?_⟩
           rw [ig, hrel, if_neg (by simp at *; omega), if_pos (by simp at *; omega)]
           simp)
    · have hd := Ej hlt (by rw [hc]; omega);generalize Utf8.decode s pos = d at hd;clear hc hdrop;repeat' first|(refine ⟨_, rfl, ?_⟩)|(refine fF (by assumption) ?_)|(refine fF rfl ?_)|(refine gn rfl ?_)|(refine gn (by assumption) ?_)|(refine ⟨_, _, rfl, rfl, _, rfl, rfl, ?_⟩)|(refine ⟨fun h => ?_, fun h => ?_⟩)|fail
      all_goals first
        | (exfalso; simp at *; omega)
        | (refine ⟨[_], ⟨Fz.deep rfl, trivial⟩, Jj ?_⟩
           rw [ig, hrel, if_neg (by omega), if_pos (by omega)]
           simp)
  · have hlen : pos = s.data.toList.length := by simp only at hpos; omega
    subst hlen;simp only [List.drop_length, xY] at hrel;repeat' first|(refine ⟨_, rfl, ?_⟩)|(refine fF (by assumption) ?_)|(refine gn rfl ?_)|(refine gn (by assumption) ?_)|(refine ⟨_, _, rfl, rfl, _, rfl, rfl, ?_⟩)|(refine ⟨fun h => ?_, fun h => ?_⟩)|fail
    all_goals refine ⟨[_], ⟨Fz.deep rfl, trivial⟩, Jj ?_⟩
    all_goals rw [ig, hrel, Bool.eq_iff_iff]
    all_goals simp at *
    all_goals omega
end Go.Proofs.YtlpmfgmldmdggaaGreat
open Go Go.RM
namespace Go.Proofs.YtlpmfgmldmdggaaGreat
set_option maxRecDepth 100000
def wJ (a b:ByteArray):Bool:=a.toList == b.toList
def cL (n:Nat) (e:Nat→Int):Int × Int:=match (List.range n).find? (fun i=>e i != 0) with
 | some i=>((i:Int),e i)
 | none=>(0,0)
theorem kW {n k:Nat} {e:Nat→Int} (hk:k < n) (hprev:∀ i,i < k→e i=0) (h:e k ≠ 0):cL n e=((k:Int),e k):=by
 unfold cL;have:(List.range n).find? (fun i=>e i != 0)=some k:=by rw [List.find?_range_eq_some];exact ⟨by simpa using h,by simpa using hk,fun j hj=>by simp [hprev j hj]⟩
 rw [this]
theorem kX {n:Nat} {e:Nat→Int} (hprev:∀ i,i < n→e i=0):cL n e=(0,0):=by
 unfold cL;have:(List.range n).find? (fun i=>e i != 0)=none:=by rw [List.find?_eq_none];intro x hx;simp [hprev x (by simpa using hx)]
 rw [this]
end Go.Proofs.YtlpmfgmldmdggaaGreat
open Go Go.RM
namespace Go.Proofs.YtlpmfgmldmdggaaGreat
set_option maxRecDepth 100000
def jK (n lo hi:Int):Bool:=decide (lo≤n) && decide (n≤hi)
theorem fO {n lo hi:Int}:jK n lo hi=true ↔ lo≤n∧n≤hi:=by simp [jK]
theorem cM (n lo hi:Int):fU lo hi [n]=!jK n lo hi:=by unfold fU jK;rw [Bool.eq_iff_iff];simp
theorem iM (one:Bool) (n lo hi:Int):Pu one 58 [af n,af lo,af hi] (BB (jK n lo hi)):=by
 refine ah.body (fn:=Tryz.f58) rfl rfl rfl rfl ?_;refine qq1 ?_;repeat' first|(refine fF (by assumption) ?_)|(refine gn (by assumption) ?_)|(refine ⟨fun h=>?_,fun h=>?_⟩)|fail
 all_goals refine ⟨[_],⟨Fz.deep rfl,trivial⟩,Jj ?_⟩
 all_goals simp_all [jK]
 all_goals omega
theorem HW (one:Bool) (n lo hi:Int):Pu one 120 [af n,af lo,af hi] (BB (jK n lo hi)):=by
 refine ah.body (fn:=Tryz.f120) rfl rfl rfl rfl ?_;refine qq1 ?_;repeat' first|(refine fF (by assumption) ?_)|(refine gn (by assumption) ?_)|(refine ⟨fun h=>?_,fun h=>?_⟩)|fail
 all_goals refine ⟨[_],⟨Fz.deep rfl,trivial⟩,Jj ?_⟩
 all_goals simp_all [jK]
 all_goals omega
theorem x6 {s:ByteArray} {k:Nat} (h:k < s.data.toList.length):cR (aK TT.P (Instr.index 9 (.string s) (.int .i64 (k:Int))))=some (.int .u8 ((s.data.toList[k].toNat:Nat):Int),.none):=by
 have hk:k < s.size:=by rwa [Array.length_toList] at h
 have e:(if (0:Int)≤(k:Int) then s[(k:Int).toNat]? else none)=some (s.data.toList[k]):=by rw [if_pos (by omega),Int.toNat_natCast];rw [getElem?_pos s k hk];rfl
 unfold Instr.index
 show cR (aK TT.P (match (if (0:Int)≤(k:Int) then s[(k:Int).toNat]? else none) with
  | some b=>pure (.int .u8 b.toNat)
  | none=>boundsPanic .i64 k s.size .index))=_
 rw [e];rfl
theorem dm {α β:Type} {f:α→β} {l:List α} {k:Nat} (h:k < l.length):(l.map f)[((k:Nat):Int).toNat]?=some (f l[k]):=by rw [Int.toNat_natCast,List.getElem?_map,List.getElem?_eq_getElem h];rfl
def kY (l:List UInt8):Nat→UInt8
 | 0=>45
 | k+1=>l[k]?.getD 45
theorem mQ {l:List UInt8} {k:Nat} (h:k < l.length):kY l (k+1)=l[k]:=by show (l[k]?).getD 45=l[k];rw [List.getElem?_eq_getElem h];rfl
theorem F2 {l:List UInt8} {k:Nat} (h:k < l.length):xY (kY l k) (l.drop k)=if 97≤l[k].toNat∧l[k].toNat≤122 then xY (kY l (k+1)) (l.drop (k+1)) else if l[k].toNat ≠ 45∨(kY l k).toNat=45 then false else xY (kY l (k+1)) (l.drop (k+1)):=by rw [List.drop_eq_getElem_cons h,Bg,mQ h]
theorem HX {l:List UInt8} {k:Nat} (h:k+1=l.length) (h45:l[k].toNat=45):xY (kY l (k+1)) (l.drop (k+1))=false:=by rw [mQ (by omega),h,List.drop_length];unfold xY;simp [h45]
abbrev eS (s:ByteArray):List AV:=[ST s]
theorem HY (one:Bool) (names:List ByteArray) (full:Bool) (s:ByteArray) (hl:names.length≤maxLen):Pu one 103 [.sl (names.map eS) full,ST s] (af (we (fun x=>wJ x s) names)):=by
 unfold maxLen at hl;refine ah.body (fn:=Tryz.f103) rfl rfl rfl rfl ?_;refine qq1 ?_
 skip
 refine ay.aN (ak.to (l:=[(0,.sl (names.map eS) full),(1,ST s),(5,af ((0:Nat):Int))]) 0 rfl ⟨rfl,rfl,rfl,trivial⟩ (qq6 _) rfl rfl) ?_;refine ay.loop (fun k:Nat=>k≤names.length∧∀ i (h:i < names.length),i < k→wJ names[i] s=false) (fun k=>⟨aT [(0,.sl (names.map eS) full),(1,ST s),(5,af (k:Int))],[],bJ.none,false,0⟩) (fun k=>names.length - k) ?_ 0 ⟨qq5 _,fun i _ hi=>absurd hi (by omega)⟩;intro k ⟨hk,hprev⟩;refine qq1 ?_
 skip
 refine ⟨fun h=>?_,fun h=>?_⟩
 ·have hlt:k < names.length:=by simpa using h
  skip
  refine ⟨eS names[k],⟨by omega,dm hlt⟩,rfl,?_⟩;repeat' first|refine u1 ?_|refine u2 ?_|fail
  refine ⟨fun h2=>?_,fun h2=>?_⟩
  ·skip
   refine ⟨[_],⟨Fz.deep rfl,trivial⟩,aH ?_⟩;exact (oy hlt hprev h2).symm
  ·repeat' first|refine u2 ?_|fail
   refine ⟨k+1,⟨hlt,fun i hi hik=>?_⟩,(by dsimp only;omega),ak.to 0 rfl ⟨rfl,rfl,aH (by simp),trivial⟩ (qq6 _) rfl rfl⟩;by_cases hik':i=k
   ·subst hik';exact h2
   ·exact hprev i hi (by omega)
 ·skip
  refine ⟨[_],⟨Fz.deep rfl,trivial⟩,aH ?_⟩;have:k=names.length:=by simp at h;omega
  rw [oz fun i hi=>hprev i hi (by omega)]
theorem HZ (one : Bool) (s : ByteArray) (hs : s.data.toList.length ≤ maxLen) : Pu one 102 [ST s] (BB (ig s)) := by
  unfold maxLen at hs;refine ah.body (fn := Tryz.f102) rfl rfl rfl rfl ?_;refine aa (mu := fun _ => false) ?_;repeat' first|(refine ah.call (HW one _ _ _) rfl rfl ?_)|fail
  refine ⟨fun h => ?_, fun h => ?_⟩
  · skip
    refine ⟨[_], ⟨Fz.deep rfl, trivial⟩, Jj ?_⟩;have h : ¬ (1 ≤ s.data.toList.length ∧ s.data.toList.length ≤ 14) := by rw [Bool.not_eq_true', ← Bool.not_eq_true, fO] at h;omega
    unfold ig;generalize s.data.toList = l at h
    cases l with
    | nil => simp [xY]
    | cons a l =>have : 0 < (a :: l).length := Nat.succ_pos _;rw [decide_eq_false (by omega)];rfl
  · have h : 1 ≤ s.data.toList.length ∧ s.data.toList.length ≤ 14 := by rw [Bool.not_eq_false', fO] at h;omega
    have hn : ig s = xY 45 s.data.toList := by unfold ig;rw [decide_eq_true h.2, Bool.true_and]
    skip
    refine ay.aN (ak.to (l := [(0, ST s), (3, af ((0 : Nat) : Int))]) 0 rfl ⟨rfl, rfl, trivial⟩ (qq6 _) rfl rfl) ?_;refine ay.loop (fun k : Nat => k ≤ s.data.toList.length ∧ ig s = xY (kY s.data.toList k) (s.data.toList.drop k) ∧ (k = s.data.toList.length → (kY s.data.toList k).toNat ≠ 45)) (fun k => ⟨aT [(0, ST s), (3, af (k : Int))], [], bJ.none, false, 0⟩) (fun k => s.data.toList.length - k) ?_ 0 ⟨qq5 _, hn, fun h0 => by omega⟩;intro k ⟨hk, hrel, hlast⟩;refine aa (mu := fun _ => false) ?_
    skip
    refine ⟨fun h => ?_, fun h => ?_⟩
    · have hlt : k < s.data.toList.length := by rw [decide_eq_true_eq] at h; omega
      rw [F2 hlt] at hrel;have hix := x6 hlt;generalize hc : s.data.toList[k] = c at hrel hix;have hix1 : 0 < k → cR (aK TT.P (Instr.index 9 (.string s) (.int .i64 ((k : Int) - 1)))) = some (.int .u8 (((kY s.data.toList k).toNat : Nat) : Int), .none) := by intro h0;obtain ⟨m, rfl⟩ : ∃ m, k = m + 1 := ⟨k - 1, by omega⟩;rw [mQ (by omega), show (((m + 1 : Nat) : Int) - 1) = ((m : Nat) : Int) from by omega];exact x6 (by omega)
      have hl0 : k = 0 → (kY s.data.toList k).toNat = 45 := by rintro rfl;rfl
      have hend : k + 1 = s.data.toList.length → c.toNat = 45 → xY (kY s.data.toList (k + 1)) (s.data.toList.drop (k + 1)) = false := fun h1 h2 => HX h1 (by rw [hc]; exact h2);have hsucc : kY s.data.toList (k + 1) = c := by rw [mQ hlt, hc]
      clear hc hn hlast;generalize kY s.data.toList k = d at hrel hix1 hl0;generalize hr : xY (kY s.data.toList (k + 1)) (s.data.toList.drop (k + 1)) = r at hrel hend;repeat' first|(refine fF (by assumption) ?_)|(refine fF rfl ?_)|(refine gn rfl ?_)|(refine gn (by assumption) ?_)|(refine And.intro (by omega) ?_)|(refine ⟨_, _, rfl, rfl, _, rfl, rfl, ?_⟩)|(refine ⟨_, _, rfl, rfl, _, hix, rfl, ?_⟩)|(refine ⟨_, _, rfl, rfl, _, hix1 (by rcases Nat.eq_zero_or_pos k with h0 | h0; (exfalso; simp_all); exact h0), rfl, ?_⟩)|(refine ⟨fun h => ?_, fun h => ?_⟩)|fail
      all_goals first
        | (refine ⟨k + 1, ⟨hlt, ?_, fun h1 => by rw [hsucc]; clear hix hix1 hr hsucc; simp at *; omega⟩, (by dsimp only; omega), ak.to 0 rfl ⟨rfl, aH (by simp), trivial⟩ (qq6 _) rfl rfl⟩
           rw [hr]
           first
             | rw [hrel, if_pos (by simp at *; omega)]
             | rw [hrel, if_neg (by simp at *; omega), if_neg (by simp at *; omega)])
        | (refine ⟨[_], ⟨Fz.deep rfl, trivial⟩, Jj ?_⟩
           rw [hrel, if_neg (by simp at *; omega)];split
           · rfl
           · exact (hend (by simp at *; omega) (by simp at *; omega)).symm)
    · skip
      refine ⟨[_], ⟨Fz.deep rfl, trivial⟩, Jj ?_⟩;have : k = s.data.toList.length := by rw [decide_eq_false_iff_not] at h; omega
      rw [hrel, this, List.drop_length];have := hlast this;rw [‹k = s.data.toList.length›] at this;unfold xY;simp only [ne_eq, this, not_false_eq_true, decide_true]
end Go.Proofs.YtlpmfgmldmdggaaGreat
open Go Go.RM
namespace Go.Proofs.YtlpmfgmldmdggaaGreat
set_option maxRecDepth 100000
def kq (name:ByteArray) (names:List ByteArray):Int:=if ig name=false then 6 else if names.any (fun x=>wJ x name) then 5 else 0
theorem Dg (one:Bool) (names:List ByteArray) (full:Bool) (s:ByteArray) (hs:s.data.toList.length≤maxLen) (hl:names.length≤maxLen):Pu one 59 [ST s,.sl (names.map eS) full] (af (kq s names)):=by
 have hg:=uy (fun x=>wJ x s) names;have hc:=HY one names full s hl;unfold kq;generalize we (fun x=>wJ x s) names=i at hg hc;generalize names.any (fun x=>wJ x s)=b at hg;refine ah.body (fn:=Tryz.f59) rfl rfl rfl rfl ?_;refine qq1 ?_;repeat' first |with_reducible (first|refine FK ?_|refine HN ?_|refine HO ?_|refine Be ?_)|(refine ah.call (HZ one _ hs) rfl rfl ?_)|(refine ah.call hc rfl rfl ?_)|(refine ⟨fun h=>?_,fun h=>?_⟩)|fail
 all_goals refine ⟨[_],⟨Fz.deep rfl,trivial⟩,aH ?_⟩
 all_goals simp_all
