/-
  Contracts of the program's functions and of the document's. Lemmas alone; their conditions stand in them.
-/
import Derived.Test.YtlpmfgmldmdggaaGreatA3
import Derived.Test.YtlpmfgmldmdggaaGreatT1
import Derived.Test.YtlpmfgmldmdggaaGreatRows
open Go Go.RM
namespace Go.Proofs.YtlpmfgmldmdggaaGreat
open Go.ChangeShapes Go.WideShapes Go.ChangeAt Go.RowKit
set_option maxRecDepth 100000
theorem Dz:ownKnob Tryz.prog.godebug=none:=by kernel_rfl
theorem Be:laidOutB Tryz.prog=true:=by kernel_rfl
end Go.Proofs.YtlpmfgmldmdggaaGreat
open Go Go.RM
namespace Go.Proofs.YtlpmfgmldmdggaaGreat
set_option maxRecDepth 100000
abbrev af (n:Int):AV:=.fl (.int .i64 n)
abbrev BB (b:Bool):AV:=.fl (.bool b)
abbrev ST (s:ByteArray):AV:=.fl (.string s)
abbrev eI (n:Int):List AV:=[af n]
abbrev ints (l:List Int):List (List AV):=l.map eI
def Nm:XE:=⟨26,[],[],.bool true,[]⟩
def TB:List XE:=[Nm]
abbrev Pu (one:Bool) (f:FuncId) (args:List AV) (v:AV):Prop:=ak TT TB one (.fn f [] []) args v
def sS {α:Type} (p:α→Bool) (l:List α):Int:=match l.findIdx? p with
 | some i=>(i:Int)
 | none=>-1
theorem oO {α:Type} {p:α→Bool} {l:List α} {k:Nat} (hk:k < l.length) (hprev:∀ i (h:i < l.length),i < k→p l[i]=false) (hp:p l[k]=true):sS p l=k:=by
 unfold sS;have:l.findIdx? p=some k:=by rw [List.findIdx?_eq_some_iff_getElem];exact ⟨hk,hp,fun j hj=>by simp [hprev j (by omega) hj]⟩
 rw [this]
theorem oP {α:Type} {p:α→Bool} {l:List α} (hprev:∀ i (h:i < l.length),p l[i]=false):sS p l=-1:=by
 unfold sS;have:l.findIdx? p=none:=by rw [List.findIdx?_eq_none_iff];intro x hx;obtain ⟨i,hi,rfl⟩:=List.getElem_of_mem hx;exact hprev i hi
 rw [this]
theorem uP {α:Type} (p:α→Bool) (l:List α):decide (0≤sS p l)=l.any p:=by
 unfold sS
 cases h:l.findIdx? p with
 | some i =>rw [List.findIdx?_eq_some_iff_getElem] at h;obtain ⟨h1,h2,_⟩:=h;simp only [Int.natCast_nonneg,decide_true];symm;rw [List.any_eq_true];exact ⟨_,List.getElem_mem h1,h2⟩
 | none =>rw [List.findIdx?_eq_none_iff] at h;simp;intro x hx;exact h x hx
theorem lX (n:Nat):∀ (v:AV),v.deep=true→v.ig n=true:=by
 apply AV.rec (motive_1:=fun v=>v.deep=true→v.ig n=true) (motive_2:=fun _=>True) (motive_3:=fun l=>cI l=true→mU n l=true)
 ·intro v _;rfl
 ·intro a b _ _;rfl
 ·intro a b _ _;rfl
 ·intro f a b ha hb h;simp only [AV.deep,qq7] at h;simp only [AV.ig,qq7];exact ⟨ha h.1,hb h.2⟩
 ·intro a ha h;simp only [AV.deep] at h;simp only [AV.ig];exact ha h
 ·intro a ha h;simp only [AV.deep] at h;simp only [AV.ig];exact ha h
 ·intro j v o h;simp [AV.deep] at h
 ·intro j v o n c h;simp [AV.deep] at h
 ·intro j h;simp [AV.deep] at h
 ·intro u _;rfl
 ·intro h;simp [AV.deep] at h
 ·trivial
 ·intros;trivial
 ·intro _;rfl
 ·intro a l ha hl h;simp only [cI,qq7] at h;simp only [mU,qq7];exact ⟨ha h.1,hl h.2⟩
theorem sU {n:Nat} {v:Value}:(AV.fl v).ig n=true:=rfl
theorem sV {n:Nat} {a:List (List AV)} {b:Bool}:(AV.sl a b).ig n=true:=rfl
theorem aE {a b:Int} (h:a=b):AV.fl (.int .i64 a)=AV.fl (.int .i64 b):=by rw [h]
theorem Kf {a b:Bool} (h:a=b):AV.fl (.bool a)=AV.fl (.bool b):=by rw [h]
theorem CU (one:Bool) (n lo hi:Int):ak TT TB one (.fn 96 [] [.pt [af lo] 0,.pt [af hi] 0]) [af n] (BB (decide (n < lo) || decide (hi < n))):=by
 refine ak.body (fn:=Tryz.f96) rfl rfl rfl rfl ?_;refine qq1 ?_;repeat' first|(refine ⟨_,rfl,?_⟩)|(refine fF (by assumption) ?_)|(refine gv (by assumption) ?_)|(refine ⟨fun h=>?_,fun h=>?_⟩)|fail
 all_goals refine ⟨[_],⟨Fz.deep rfl,trivial⟩,?_⟩
 all_goals simp_all [Bz]
theorem pT (one:Bool) (g:FuncId) (fs cs:List AV) (hF:(AV.fn g fs cs).deep=true) (p:Int→Bool) (l:List Int) (full:Bool) (hl:l.length≤maxLen) (hp:∀ n ∈ l,ak TT TB one (.fn g fs cs) [af n] (BB (p n))) :
  Pu one 88 [.sl (ints l) full,.fn g fs cs] (af (sS p l)):=by
 unfold maxLen at hl;refine ak.body (fn:=Tryz.f88) rfl rfl rfl rfl ?_;refine qq1 ?_
 skip
 refine aB.aO (ah.to (l:=[(0,.sl (ints l) full),(1,.fn g fs cs),(7,af l.length),(8,af ((0:Nat):Int))]) 0 rfl ⟨rfl,rfl,aE (by simp),rfl,trivial⟩ (qq6 _) (by simp [sU,sV,lX 0 _ hF]) rfl) ?_;refine aB.loop (fun k:Nat=>k≤l.length∧∀ i (h:i < l.length),i < k→p l[i]=false) (fun k=>⟨aM [(0,.sl (ints l) full),(1,.fn g fs cs),(7,af l.length),(8,af (k:Int))],[],bq.none,false,0⟩) (fun k=>l.length - k) ?_ 0 ⟨qq5 _,fun i _ hi=>absurd hi (by omega)⟩;intro k ⟨hk,hprev⟩;refine qq1 ?_;refine ⟨fun h=>?_,fun h=>?_⟩
 ·have hlt:k < l.length:=by simpa using h
  refine ⟨[af l[k]],⟨by omega,by simp [hlt]⟩,rfl,?_⟩;repeat' first|refine u1 ?_|fail
  refine ak.call (hp l[k] (List.getElem_mem _)) hF rfl ?_;refine ⟨fun h2=>?_,fun h2=>?_⟩
  ·refine ⟨[_],⟨Fz.deep rfl,trivial⟩,?_⟩;rw [oO hlt hprev h2];rfl
  ·repeat' first|refine u2 ?_|fail
   refine ⟨k+1,⟨hlt,fun i hi hik=>?_⟩,(by dsimp only;omega),ah.to 0 rfl ⟨rfl,rfl,rfl,aE (by simp),trivial⟩ (qq6 _) (by simp [sU,sV,lX 0 _ hF]) rfl⟩;by_cases hik':i=k
   ·subst hik';exact h2
   ·exact hprev i hi (by omega)
 ·skip
  refine ⟨[_],⟨Fz.deep rfl,trivial⟩,?_⟩;have:k=l.length:=by simp at h;omega
  rw [oP fun i hi=>hprev i hi (by omega)];rfl
end Go.Proofs.YtlpmfgmldmdggaaGreat
open Go Go.RM
namespace Go.Proofs.YtlpmfgmldmdggaaGreat
set_option maxRecDepth 100000
structure fc where
 name:ByteArray
 Fy:Int
 leave:Int
 FA:Int
 rJ:Int
structure ji where
 name:ByteArray
 jx:Int
 nu:Int
 CV:Bool
structure aL where
 aC:List fc
 aD:List ji
 least:Int
abbrev aT (r:fc):List AV:=[ST r.name,af r.Fy,af r.leave,af r.FA,af r.rJ]
abbrev aZ (m:ji):List AV:=[ST m.name,af m.jx,af m.nu,BB m.CV]
abbrev aI (c:aL):List AV:=[.sl (c.aC.map aT) false,.sl (c.aD.map aZ) false,af c.least]
theorem lY (one:Bool) (g:FuncId) (fs cs:List AV) (hF:(AV.fn g fs cs).deep=true) (p:Int→Bool) (l:List Int) (full:Bool) (hl:l.length≤maxLen) (hp:∀ x ∈ l,ak TT TB one (.fn g fs cs) [af x] (BB (p x))) :
  Pu one 95 [.sl (l.map eI) full,.fn g fs cs] (BB (l.any p)):=by
 refine ak.body (fn:=Tryz.f95) rfl rfl rfl rfl ?_;refine qq1 ?_
 skip
 refine ak.call (pT one g fs cs hF p l full hl hp) rfl (by simp only [cI,AV.deep,Bool.and_true,Bool.true_and];exact hF) ?_
 skip
 refine ⟨[_],⟨Fz.deep rfl,trivial⟩,?_⟩;rw [←uP];rfl
theorem wH (one:Bool) (g:FuncId) (fs cs:List AV) (hF:(AV.fn g fs cs).deep=true) (p:fc→Bool) (l:List fc) (full:Bool) (hl:l.length≤maxLen) (hp:∀ x ∈ l,ak TT TB one (.fn g fs cs) [.ag (aT x)] (BB (p x))) :
  Pu one 118 [.sl (l.map aT) full,.fn g fs cs] (af (sS p l)):=by
 unfold maxLen at hl;refine ak.body (fn:=Tryz.f118) rfl rfl rfl rfl ?_;refine qq1 ?_
 skip
 refine aB.aO (ah.to (l:=[(0,.sl (l.map aT) full),(1,.fn g fs cs),(7,af l.length),(8,af ((0:Nat):Int))]) 0 rfl ⟨rfl,rfl,aE (by simp),rfl,trivial⟩ (qq6 _) (by simp [sU,sV,lX 0 _ hF]) rfl) ?_;refine aB.loop (fun k:Nat=>k≤l.length∧∀ i (h:i < l.length),i < k→p l[i]=false) (fun k=>⟨aM [(0,.sl (l.map aT) full),(1,.fn g fs cs),(7,af l.length),(8,af (k:Int))],[],bq.none,false,0⟩) (fun k=>l.length - k) ?_ 0 ⟨qq5 _,fun i _ hi=>absurd hi (by omega)⟩;intro k ⟨hk,hprev⟩;refine qq1 ?_;refine ⟨fun h=>?_,fun h=>?_⟩
 ·have hlt:k < l.length:=by simpa using h
  skip
  refine ⟨aT l[k],⟨by omega,by simp [hlt]⟩,rfl,?_⟩;repeat' first|refine u2 ?_|fail
  refine ak.call (hp l[k] (List.getElem_mem _)) hF rfl ?_;refine ⟨fun h2=>?_,fun h2=>?_⟩
  ·skip
   refine ⟨[_],⟨Fz.deep rfl,trivial⟩,?_⟩;rw [oO hlt hprev h2];rfl
  ·repeat' first|refine u2 ?_|fail
   refine ⟨k+1,⟨hlt,fun i hi hik=>?_⟩,(by dsimp only;omega),ah.to 0 rfl ⟨rfl,rfl,rfl,aE (by simp),trivial⟩ (qq6 _) (by simp [sU,sV,lX 0 _ hF]) rfl⟩;by_cases hik':i=k
   ·subst hik';exact h2
   ·exact hprev i hi (by omega)
 ·skip
  refine ⟨[_],⟨Fz.deep rfl,trivial⟩,?_⟩;have:k=l.length:=by simp at h;omega
  rw [oP fun i hi=>hprev i hi (by omega)];rfl
theorem sW (one:Bool) (g:FuncId) (fs cs:List AV) (hF:(AV.fn g fs cs).deep=true) (p:fc→Bool) (l:List fc) (full:Bool) (hl:l.length≤maxLen) (hp:∀ x ∈ l,ak TT TB one (.fn g fs cs) [.ag (aT x)] (BB (p x))) :
  Pu one 98 [.sl (l.map aT) full,.fn g fs cs] (BB (l.any p)):=by
 refine ak.body (fn:=Tryz.f98) rfl rfl rfl rfl ?_;refine qq1 ?_
 skip
 refine ak.call (wH one g fs cs hF p l full hl hp) rfl (by simp only [cI,AV.deep,Bool.and_true,Bool.true_and];exact hF) ?_
 skip
 refine ⟨[_],⟨Fz.deep rfl,trivial⟩,?_⟩;rw [←uP];rfl
theorem wI (one:Bool) (g:FuncId) (fs cs:List AV) (hF:(AV.fn g fs cs).deep=true) (p:ji→Bool) (l:List ji) (full:Bool) (hl:l.length≤maxLen) (hp:∀ x ∈ l,ak TT TB one (.fn g fs cs) [.ag (aZ x)] (BB (p x))) :
  Pu one 119 [.sl (l.map aZ) full,.fn g fs cs] (af (sS p l)):=by
 unfold maxLen at hl;refine ak.body (fn:=Tryz.f119) rfl rfl rfl rfl ?_;refine qq1 ?_
 skip
 refine aB.aO (ah.to (l:=[(0,.sl (l.map aZ) full),(1,.fn g fs cs),(7,af l.length),(8,af ((0:Nat):Int))]) 0 rfl ⟨rfl,rfl,aE (by simp),rfl,trivial⟩ (qq6 _) (by simp [sU,sV,lX 0 _ hF]) rfl) ?_;refine aB.loop (fun k:Nat=>k≤l.length∧∀ i (h:i < l.length),i < k→p l[i]=false) (fun k=>⟨aM [(0,.sl (l.map aZ) full),(1,.fn g fs cs),(7,af l.length),(8,af (k:Int))],[],bq.none,false,0⟩) (fun k=>l.length - k) ?_ 0 ⟨qq5 _,fun i _ hi=>absurd hi (by omega)⟩;intro k ⟨hk,hprev⟩;refine qq1 ?_;refine ⟨fun h=>?_,fun h=>?_⟩
 ·have hlt:k < l.length:=by simpa using h
  skip
  refine ⟨aZ l[k],⟨by omega,by simp [hlt]⟩,rfl,?_⟩;repeat' first|refine u2 ?_|fail
  refine ak.call (hp l[k] (List.getElem_mem _)) hF rfl ?_;refine ⟨fun h2=>?_,fun h2=>?_⟩
  ·skip
   refine ⟨[_],⟨Fz.deep rfl,trivial⟩,?_⟩;rw [oO hlt hprev h2];rfl
  ·repeat' first|refine u2 ?_|fail
   refine ⟨k+1,⟨hlt,fun i hi hik=>?_⟩,(by dsimp only;omega),ah.to 0 rfl ⟨rfl,rfl,rfl,aE (by simp),trivial⟩ (qq6 _) (by simp [sU,sV,lX 0 _ hF]) rfl⟩;by_cases hik':i=k
   ·subst hik';exact h2
   ·exact hprev i hi (by omega)
 ·skip
  refine ⟨[_],⟨Fz.deep rfl,trivial⟩,?_⟩;have:k=l.length:=by simp at h;omega
  rw [oP fun i hi=>hprev i hi (by omega)];rfl
theorem rK (one:Bool) (g:FuncId) (fs cs:List AV) (hF:(AV.fn g fs cs).deep=true) (p:ji→Bool) (l:List ji) (full:Bool) (hl:l.length≤maxLen) (hp:∀ x ∈ l,ak TT TB one (.fn g fs cs) [.ag (aZ x)] (BB (p x))) :
  Pu one 100 [.sl (l.map aZ) full,.fn g fs cs] (BB (l.any p)):=by
 refine ak.body (fn:=Tryz.f100) rfl rfl rfl rfl ?_;refine qq1 ?_
 skip
 refine ak.call (wI one g fs cs hF p l full hl hp) rfl (by simp only [cI,AV.deep,Bool.and_true,Bool.true_and];exact hF) ?_
 skip
 refine ⟨[_],⟨Fz.deep rfl,trivial⟩,?_⟩;rw [←uP];rfl
end Go.Proofs.YtlpmfgmldmdggaaGreat
open Go Go.RM
namespace Go.Proofs.YtlpmfgmldmdggaaGreat
set_option maxRecDepth 100000
def fk (lo hi:Int) (l:List Int):Bool:=l.any fun n=>decide (n < lo) || decide (hi < n)
def KQ:List AV→Int
 | [.fl (.int _ n)]=>n
 | _=>0
def Nn:List AV→Bool
 | [.fl (.int .i64 _)]=>true
 | _=>false
theorem allI:∀ {els:List (List AV)},els.all Nn=true→els=ints (els.map KQ)
 | [],_=>rfl
 | el :: els,h=>by
  simp only [List.all_cons,qq7] at h;have ih:=allI h.2
  have:el=eI (KQ el):=by
   have h1:=h.1;unfold Nn at h1;split at h1
   ·rfl
   ·cases h1
  show el :: els=eI (KQ el) :: ints (els.map KQ);rw [←this,←ih]
theorem EZ (one:Bool) (lo hi:Int) (els:List (List AV)) (full:Bool) (h:els.all Nn=true) (hl:els.length≤maxLen):Pu one 51 [af lo,af hi,.sl els full] (BB (fk lo hi (els.map KQ))):=by
 obtain ⟨l,hl'⟩:∃ l,els.map KQ=l:=⟨_,rfl⟩;have he:els=ints l:=by rw [←hl'];exact allI h
 rw [hl'];subst he;refine ak.body (fn:=Tryz.f51) rfl rfl rfl rfl ?_;refine qq1 ?_;repeat' first|refine u2 ?_|fail
 refine ak.call (lY one 96 [] _ rfl (fun n=>decide (n < lo) || decide (hi < n)) l full (by simpa using hl) (fun n _=>CU one n lo hi)) rfl rfl ?_
 skip
 refine ⟨[_],⟨Fz.deep rfl,trivial⟩,?_⟩;rfl
def yw:UInt8→List UInt8→Bool
 | last,[]=>decide (last.toNat ≠ 45)
 | last,c :: l=>if 97≤c.toNat∧c.toNat≤122 then yw c l else if c.toNat ≠ 45∨last.toNat=45 then false else yw c l
theorem BH (last c:UInt8) (l:List UInt8):yw last (c :: l)=if 97≤c.toNat∧c.toNat≤122 then yw c l else if c.toNat ≠ 45∨last.toNat=45 then false else yw c l:=rfl
def gO (s:ByteArray):Bool:=decide (s.data.toList.length≤14) && yw 45 s.data.toList
theorem yx {s:ByteArray} {i:Nat} (h:i < s.data.toList.length):(s.get! i)=s.data.toList[i]:=by
 have:i < s.data.size:=by simpa using h
 simp only [ByteArray.get!,getElem!_pos s.data i this];simp
theorem E6 {s:ByteArray} {i:Nat} (h:i < s.data.toList.length) (hb:(s.data.toList[i]).toNat < 128):Utf8.decode s i=((s.data.toList[i]).toNat,1):=by unfold Utf8.decode;simp only [Nat.add_zero,yx h];rw [if_pos hb]
theorem E7 {s:ByteArray} {i:Nat} (h:i < s.data.toList.length) (hb:128≤(s.data.toList[i]).toNat):128≤(Utf8.decode s i).1:=by
 unfold Utf8.decode;simp only [Nat.add_zero,yx h,Utf8.runeError];rw [if_neg (by omega)];repeat' split
 all_goals simp_all
 all_goals omega
theorem GN (one : Bool) (s : ByteArray) (hs : s.data.toList.length ≤ maxLen) : Pu one 97 [ST s] (BB (gO s)) := by
  unfold maxLen at hs;refine ak.body (fn := Tryz.f97) rfl rfl rfl rfl ?_;refine aa (mu := fun _ => false) ?_
  skip
  refine aB.aO (ah.to (l := [(0, ST s), (7, .ptr 0 0 0), (3, .fl (.int .i32 (((45 : UInt8).toNat : Nat) : Int)))]) 1 rfl ⟨rfl, rfl, rfl, trivial⟩ (qq5 _) rfl rfl) ?_;refine aB.loop (fun x : Nat × UInt8 => x.1 ≤ s.data.toList.length ∧ yw 45 s.data.toList = yw x.2 (s.data.toList.drop x.1)) (fun x => ⟨aM [(0, ST s), (7, .ptr 0 0 0), (3, .fl (.int .i32 ((x.2.toNat : Nat) : Int)))], [.dI s x.1], bq.none, false, 0⟩) (fun x => s.data.toList.length - x.1) ?_ (0, 45) ⟨qq5 _, rfl⟩;intro ⟨pos, last⟩ ⟨hpos, hrel⟩;refine aa (mu := fun _ => false) ?_;have hdrop : ∀ h : pos < s.data.toList.length, s.data.toList.drop pos = s.data.toList[pos] :: s.data.toList.drop (pos + 1) := fun h => List.drop_eq_getElem_cons h;refine ⟨s, pos, rfl, fun hlt => ?_, fun hge => ?_⟩
  · rw [hdrop hlt] at hrel;simp only at hrel;generalize hc : s.data.toList[pos] = c at hrel;have hc256 : c.toNat < 256 := c.toNat_lt;rw [BH] at hrel;by_cases hb : c.toNat < 128
    · have hd := E6 hlt (by rw [hc]; exact hb);rw [hc] at hd;rw [hd];clear hd hc hdrop;repeat' first|(refine ⟨_, rfl, ?_⟩)|(refine fF (by assumption) ?_)|(refine fF rfl ?_)|(refine gv rfl ?_)|(refine gv (by assumption) ?_)|(refine ⟨_, _, rfl, rfl, _, rfl, rfl, ?_⟩)|(refine ⟨fun h => ?_, fun h => ?_⟩)|fail
      all_goals first
        | (refine ⟨(pos + 1, c), ⟨hlt, ?_⟩, (by dsimp only; omega), ah.to 1 rfl ⟨rfl, rfl, rfl, trivial⟩ (qq5 _) rfl rfl⟩
           first
             | rw [hrel, if_pos (by simp at *; omega)]
             | rw [hrel, if_neg (by simp at *; omega), if_neg (by simp at *; omega)])
        | (refine ⟨[_], ⟨Fz.deep rfl, trivial⟩, Kf ?_⟩
           rw [gO, hrel, if_neg (by simp at *; omega), if_pos (by simp at *; omega)]
           simp)
    · have hd := E7 hlt (by rw [hc]; omega);generalize Utf8.decode s pos = d at hd;clear hc hdrop;repeat' first|(refine ⟨_, rfl, ?_⟩)|(refine fF (by assumption) ?_)|(refine fF rfl ?_)|(refine gv rfl ?_)|(refine gv (by assumption) ?_)|(refine ⟨_, _, rfl, rfl, _, rfl, rfl, ?_⟩)|(refine ⟨fun h => ?_, fun h => ?_⟩)|fail
      all_goals first
        | (exfalso; simp at *; omega)
        | (refine ⟨[_], ⟨Fz.deep rfl, trivial⟩, Kf ?_⟩
           rw [gO, hrel, if_neg (by omega), if_pos (by omega)]
           simp)
  · have hlen : pos = s.data.toList.length := by simp only at hpos; omega
    subst hlen;simp only [List.drop_length, yw] at hrel;repeat' first|(refine ⟨_, rfl, ?_⟩)|(refine fF (by assumption) ?_)|(refine gv rfl ?_)|(refine gv (by assumption) ?_)|(refine ⟨_, _, rfl, rfl, _, rfl, rfl, ?_⟩)|(refine ⟨fun h => ?_, fun h => ?_⟩)|fail
    all_goals refine ⟨[_], ⟨Fz.deep rfl, trivial⟩, Kf ?_⟩
    all_goals rw [gO, hrel, Bool.eq_iff_iff]
    all_goals simp at *
    all_goals omega
end Go.Proofs.YtlpmfgmldmdggaaGreat
open Go Go.RM
namespace Go.Proofs.YtlpmfgmldmdggaaGreat
set_option maxRecDepth 100000
def tY (a b:ByteArray):Bool:=a.toList == b.toList
def cm (n:Nat) (e:Nat→Int):Int × Int:=match (List.range n).find? (fun i=>e i != 0) with
 | some i=>((i:Int),e i)
 | none=>(0,0)
theorem k8 {n k:Nat} {e:Nat→Int} (hk:k < n) (hprev:∀ i,i < k→e i=0) (h:e k ≠ 0):cm n e=((k:Int),e k):=by
 unfold cm;have:(List.range n).find? (fun i=>e i != 0)=some k:=by rw [List.find?_range_eq_some];exact ⟨by simpa using h,by simpa using hk,fun j hj=>by simp [hprev j hj]⟩
 rw [this]
theorem k9 {n:Nat} {e:Nat→Int} (hprev:∀ i,i < n→e i=0):cm n e=(0,0):=by
 unfold cm;have:(List.range n).find? (fun i=>e i != 0)=none:=by rw [List.find?_eq_none];intro x hx;simp [hprev x (by simpa using hx)]
 rw [this]
end Go.Proofs.YtlpmfgmldmdggaaGreat
open Go Go.RM
namespace Go.Proofs.YtlpmfgmldmdggaaGreat
set_option maxRecDepth 100000
def jy (n lo hi:Int):Bool:=decide (lo≤n) && decide (n≤hi)
theorem fQ {n lo hi:Int}:jy n lo hi=true ↔ lo≤n∧n≤hi:=by simp [jy]
theorem cO (n lo hi:Int):fk lo hi [n]=!jy n lo hi:=by unfold fk jy;rw [Bool.eq_iff_iff];simp
theorem iS (one:Bool) (n lo hi:Int):Pu one 58 [af n,af lo,af hi] (BB (jy n lo hi)):=by
 refine ak.body (fn:=Tryz.f58) rfl rfl rfl rfl ?_;refine qq1 ?_;repeat' first|(refine fF (by assumption) ?_)|(refine gv (by assumption) ?_)|(refine ⟨fun h=>?_,fun h=>?_⟩)|fail
 all_goals refine ⟨[_],⟨Fz.deep rfl,trivial⟩,Kf ?_⟩
 all_goals simp_all [jy]
 all_goals omega
theorem IZ (one:Bool) (n lo hi:Int):Pu one 120 [af n,af lo,af hi] (BB (jy n lo hi)):=by
 refine ak.body (fn:=Tryz.f120) rfl rfl rfl rfl ?_;refine qq1 ?_;repeat' first|(refine fF (by assumption) ?_)|(refine gv (by assumption) ?_)|(refine ⟨fun h=>?_,fun h=>?_⟩)|fail
 all_goals refine ⟨[_],⟨Fz.deep rfl,trivial⟩,Kf ?_⟩
 all_goals simp_all [jy]
 all_goals omega
theorem yy {s:ByteArray} {k:Nat} (h:k < s.data.toList.length):cS (aP TT.P (Instr.index 9 (.string s) (.int .i64 (k:Int))))=some (.int .u8 ((s.data.toList[k].toNat:Nat):Int),.none):=by
 have hk:k < s.size:=by rwa [Array.length_toList] at h
 have e:(if (0:Int)≤(k:Int) then s[(k:Int).toNat]? else none)=some (s.data.toList[k]):=by rw [if_pos (by omega),Int.toNat_natCast];rw [getElem?_pos s k hk];rfl
 unfold Instr.index
 show cS (aP TT.P (match (if (0:Int)≤(k:Int) then s[(k:Int).toNat]? else none) with
  | some b=>pure (.int .u8 b.toNat)
  | none=>boundsPanic .i64 k s.size .index))=_
 rw [e];rfl
theorem dN {α β:Type} {f:α→β} {l:List α} {k:Nat} (h:k < l.length):(l.map f)[((k:Nat):Int).toNat]?=some (f l[k]):=by rw [Int.toNat_natCast,List.getElem?_map,List.getElem?_eq_getElem h];rfl
def ld (l:List UInt8):Nat→UInt8
 | 0=>45
 | k+1=>l[k]?.getD 45
theorem m4 {l:List UInt8} {k:Nat} (h:k < l.length):ld l (k+1)=l[k]:=by show (l[k]?).getD 45=l[k];rw [List.getElem?_eq_getElem h];rfl
theorem GO {l:List UInt8} {k:Nat} (h:k < l.length):yw (ld l k) (l.drop k)=if 97≤l[k].toNat∧l[k].toNat≤122 then yw (ld l (k+1)) (l.drop (k+1)) else if l[k].toNat ≠ 45∨(ld l k).toNat=45 then false else yw (ld l (k+1)) (l.drop (k+1)):=by rw [List.drop_eq_getElem_cons h,BH,m4 h]
theorem I2 {l:List UInt8} {k:Nat} (h:k+1=l.length) (h45:l[k].toNat=45):yw (ld l (k+1)) (l.drop (k+1))=false:=by rw [m4 (by omega),h,List.drop_length];unfold yw;simp [h45]
abbrev eS (s:ByteArray):List AV:=[ST s]
theorem I3 (one:Bool) (names:List ByteArray) (full:Bool) (s:ByteArray) (hl:names.length≤maxLen):Pu one 103 [.sl (names.map eS) full,ST s] (af (sS (fun x=>tY x s) names)):=by
 unfold maxLen at hl;refine ak.body (fn:=Tryz.f103) rfl rfl rfl rfl ?_;refine qq1 ?_
 skip
 refine aB.aO (ah.to (l:=[(0,.sl (names.map eS) full),(1,ST s),(5,af ((0:Nat):Int))]) 0 rfl ⟨rfl,rfl,rfl,trivial⟩ (qq6 _) rfl rfl) ?_;refine aB.loop (fun k:Nat=>k≤names.length∧∀ i (h:i < names.length),i < k→tY names[i] s=false) (fun k=>⟨aM [(0,.sl (names.map eS) full),(1,ST s),(5,af (k:Int))],[],bq.none,false,0⟩) (fun k=>names.length - k) ?_ 0 ⟨qq5 _,fun i _ hi=>absurd hi (by omega)⟩;intro k ⟨hk,hprev⟩;refine qq1 ?_
 skip
 refine ⟨fun h=>?_,fun h=>?_⟩
 ·have hlt:k < names.length:=by simpa using h
  skip
  refine ⟨eS names[k],⟨by omega,dN hlt⟩,rfl,?_⟩;repeat' first|refine u1 ?_|refine u2 ?_|fail
  refine ⟨fun h2=>?_,fun h2=>?_⟩
  ·skip
   refine ⟨[_],⟨Fz.deep rfl,trivial⟩,aE ?_⟩;exact (oO hlt hprev h2).symm
  ·repeat' first|refine u2 ?_|fail
   refine ⟨k+1,⟨hlt,fun i hi hik=>?_⟩,(by dsimp only;omega),ah.to 0 rfl ⟨rfl,rfl,aE (by simp),trivial⟩ (qq6 _) rfl rfl⟩;by_cases hik':i=k
   ·subst hik';exact h2
   ·exact hprev i hi (by omega)
 ·skip
  refine ⟨[_],⟨Fz.deep rfl,trivial⟩,aE ?_⟩;have:k=names.length:=by simp at h;omega
  rw [oP fun i hi=>hprev i hi (by omega)]
theorem I4 (one : Bool) (s : ByteArray) (hs : s.data.toList.length ≤ maxLen) : Pu one 102 [ST s] (BB (gO s)) := by
  unfold maxLen at hs;refine ak.body (fn := Tryz.f102) rfl rfl rfl rfl ?_;refine aa (mu := fun _ => false) ?_;repeat' first|(refine ak.call (IZ one _ _ _) rfl rfl ?_)|fail
  refine ⟨fun h => ?_, fun h => ?_⟩
  · skip
    refine ⟨[_], ⟨Fz.deep rfl, trivial⟩, Kf ?_⟩;have h : ¬ (1 ≤ s.data.toList.length ∧ s.data.toList.length ≤ 14) := by rw [Bool.not_eq_true', ← Bool.not_eq_true, fQ] at h;omega
    unfold gO;generalize s.data.toList = l at h
    cases l with
    | nil => simp [yw]
    | cons a l =>have : 0 < (a :: l).length := Nat.succ_pos _;rw [decide_eq_false (by omega)];rfl
  · have h : 1 ≤ s.data.toList.length ∧ s.data.toList.length ≤ 14 := by rw [Bool.not_eq_false', fQ] at h;omega
    have hn : gO s = yw 45 s.data.toList := by unfold gO;rw [decide_eq_true h.2, Bool.true_and]
    skip
    refine aB.aO (ah.to (l := [(0, ST s), (3, af ((0 : Nat) : Int))]) 0 rfl ⟨rfl, rfl, trivial⟩ (qq6 _) rfl rfl) ?_;refine aB.loop (fun k : Nat => k ≤ s.data.toList.length ∧ gO s = yw (ld s.data.toList k) (s.data.toList.drop k) ∧ (k = s.data.toList.length → (ld s.data.toList k).toNat ≠ 45)) (fun k => ⟨aM [(0, ST s), (3, af (k : Int))], [], bq.none, false, 0⟩) (fun k => s.data.toList.length - k) ?_ 0 ⟨qq5 _, hn, fun h0 => by omega⟩;intro k ⟨hk, hrel, hlast⟩;refine aa (mu := fun _ => false) ?_
    skip
    refine ⟨fun h => ?_, fun h => ?_⟩
    · have hlt : k < s.data.toList.length := by rw [decide_eq_true_eq] at h; omega
      rw [GO hlt] at hrel;have hix := yy hlt;generalize hc : s.data.toList[k] = c at hrel hix;have hix1 : 0 < k → cS (aP TT.P (Instr.index 9 (.string s) (.int .i64 ((k : Int) - 1)))) = some (.int .u8 (((ld s.data.toList k).toNat : Nat) : Int), .none) := by intro h0;obtain ⟨m, rfl⟩ : ∃ m, k = m + 1 := ⟨k - 1, by omega⟩;rw [m4 (by omega), show (((m + 1 : Nat) : Int) - 1) = ((m : Nat) : Int) from by omega];exact yy (by omega)
      have hl0 : k = 0 → (ld s.data.toList k).toNat = 45 := by rintro rfl;rfl
      have hend : k + 1 = s.data.toList.length → c.toNat = 45 → yw (ld s.data.toList (k + 1)) (s.data.toList.drop (k + 1)) = false := fun h1 h2 => I2 h1 (by rw [hc]; exact h2);have hsucc : ld s.data.toList (k + 1) = c := by rw [m4 hlt, hc]
      clear hc hn hlast;generalize ld s.data.toList k = d at hrel hix1 hl0;generalize hr : yw (ld s.data.toList (k + 1)) (s.data.toList.drop (k + 1)) = r at hrel hend;repeat' first|(refine fF (by assumption) ?_)|(refine fF rfl ?_)|(refine gv rfl ?_)|(refine gv (by assumption) ?_)|(refine And.intro (by omega) ?_)|(refine ⟨_, _, rfl, rfl, _, rfl, rfl, ?_⟩)|(refine ⟨_, _, rfl, rfl, _, hix, rfl, ?_⟩)|(refine ⟨_, _, rfl, rfl, _, hix1 (by rcases Nat.eq_zero_or_pos k with h0 | h0; (exfalso; simp_all); exact h0), rfl, ?_⟩)|(refine ⟨fun h => ?_, fun h => ?_⟩)|fail
      all_goals first
        | (refine ⟨k + 1, ⟨hlt, ?_, fun h1 => by rw [hsucc]; clear hix hix1 hr hsucc; simp at *; omega⟩, (by dsimp only; omega), ah.to 0 rfl ⟨rfl, aE (by simp), trivial⟩ (qq6 _) rfl rfl⟩
           rw [hr]
           first
             | rw [hrel, if_pos (by simp at *; omega)]
             | rw [hrel, if_neg (by simp at *; omega), if_neg (by simp at *; omega)])
        | (refine ⟨[_], ⟨Fz.deep rfl, trivial⟩, Kf ?_⟩
           rw [hrel, if_neg (by simp at *; omega)];split
           · rfl
           · exact (hend (by simp at *; omega) (by simp at *; omega)).symm)
    · skip
      refine ⟨[_], ⟨Fz.deep rfl, trivial⟩, Kf ?_⟩;have : k = s.data.toList.length := by rw [decide_eq_false_iff_not] at h; omega
      rw [hrel, this, List.drop_length];have := hlast this;rw [‹k = s.data.toList.length›] at this;unfold yw;simp only [ne_eq, this, not_false_eq_true, decide_true]
end Go.Proofs.YtlpmfgmldmdggaaGreat
open Go Go.RM
namespace Go.Proofs.YtlpmfgmldmdggaaGreat
set_option maxRecDepth 100000
def kE (name:ByteArray) (names:List ByteArray):Int:=if gO name=false then 6 else if names.any (fun x=>tY x name) then 5 else 0
theorem DN (one:Bool) (names:List ByteArray) (full:Bool) (s:ByteArray) (hs:s.data.toList.length≤maxLen) (hl:names.length≤maxLen):Pu one 59 [ST s,.sl (names.map eS) full] (af (kE s names)):=by
 have hg:=uP (fun x=>tY x s) names;have hc:=I3 one names full s hl;unfold kE;generalize sS (fun x=>tY x s) names=i at hg hc;generalize names.any (fun x=>tY x s)=b at hg;refine ak.body (fn:=Tryz.f59) rfl rfl rfl rfl ?_;refine qq1 ?_;repeat' first |with_reducible (first|refine Gx ?_|refine IM ?_|refine IP ?_|refine BF ?_)|(refine ak.call (I4 one _ hs) rfl rfl ?_)|(refine ak.call hc rfl rfl ?_)|(refine ⟨fun h=>?_,fun h=>?_⟩)|fail
 all_goals refine ⟨[_],⟨Fz.deep rfl,trivial⟩,aE ?_⟩
 all_goals simp_all
