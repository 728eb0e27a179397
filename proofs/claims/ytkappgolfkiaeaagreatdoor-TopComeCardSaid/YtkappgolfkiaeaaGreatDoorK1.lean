/-
  Contracts of the program's functions and of the document's. Lemmas alone; their conditions stand in them.
-/
import Derived.Test.YtkappgolfkiaeaaGreatDoorA3
import Derived.Test.YtkappgolfkiaeaaGreatDoorT1
open Go Go.RM
namespace Go.Proofs.YtkappgolfkiaeaaGreatDoor
set_option maxRecDepth 100000
abbrev av (n:Int):AV:=.fl (.int .i64 n)
abbrev BB (b:Bool):AV:=.fl (.bool b)
abbrev ST (s:ByteArray):AV:=.fl (.string s)
abbrev eI (n:Int):List AV:=[av n]
abbrev ints (l:List Int):List (List AV):=l.map eI
def RQ:XE:=⟨7,[],[],.bool true,[]⟩
def RR:XE:=⟨6,[],[],.bool true,[]⟩
def TB:List XE:=RQ :: RR :: (List.range 256).map xz
abbrev Pu (one:Bool) (f:FuncId) (args:List AV) (v:AV):Prop:=af TT TB one (.fn f [] []) args v
def l5 {α:Type} (p:α→Bool) (l:List α):Int:=match l.findIdx? p with
 | some i=>(i:Int)
 | none=>-1
theorem iu {α:Type} {p:α→Bool} {l:List α} {k:Nat} (hk:k < l.length) (hprev:∀ i (h:i < l.length),i < k→p l[i]=false) (hp:p l[k]=true):l5 p l=k:=by
 unfold l5;have:l.findIdx? p=some k:=by rw [List.findIdx?_eq_some_iff_getElem];exact ⟨hk,hp,fun j hj=>by simp [hprev j (by omega) hj]⟩
 rw [this]
theorem iw {α:Type} {p:α→Bool} {l:List α} (hprev:∀ i (h:i < l.length),p l[i]=false):l5 p l=-1:=by
 unfold l5;have:l.findIdx? p=none:=by rw [List.findIdx?_eq_none_iff];intro x hx;obtain ⟨i,hi,rfl⟩:=List.getElem_of_mem hx;exact hprev i hi
 rw [this]
theorem nD {α:Type} (p:α→Bool) (l:List α):decide (0≤l5 p l)=l.any p:=by
 unfold l5
 cases h:l.findIdx? p with
 | some i =>rw [List.findIdx?_eq_some_iff_getElem] at h;obtain ⟨h1,h2,_⟩:=h;simp only [Int.natCast_nonneg,decide_true];symm;rw [List.any_eq_true];exact ⟨_,List.getElem_mem h1,h2⟩
 | none =>rw [List.findIdx?_eq_none_iff] at h;simp;intro x hx;exact h x hx
theorem cQ (n:Nat):∀ (v:AV),v.deep=true→v.jN n=true:=by
 apply AV.rec (motive_1:=fun v=>v.deep=true→v.jN n=true) (motive_2:=fun _=>True) (motive_3:=fun l=>bG l=true→iA n l=true)
 ·intro v _;rfl
 ·intro a b _ _;rfl
 ·intro a b _ _;rfl
 ·intro f a b ha hb h;simp only [AV.deep,qq7] at h;simp only [AV.jN,qq7];exact ⟨ha h.1,hb h.2⟩
 ·intro a ha h;simp only [AV.deep] at h;simp only [AV.jN];exact ha h
 ·intro a ha h;simp only [AV.deep] at h;simp only [AV.jN];exact ha h
 ·intro j v o h;simp [AV.deep] at h
 ·intro j v o n c h;simp [AV.deep] at h
 ·intro j h;simp [AV.deep] at h
 ·intro u _;rfl
 ·intro h;simp [AV.deep] at h
 ·trivial
 ·intros;trivial
 ·intro _;rfl
 ·intro a l ha hl h;simp only [bG,qq7] at h;simp only [iA,qq7];exact ⟨ha h.1,hl h.2⟩
theorem fK {n:Nat} {v:Value}:(AV.fl v).jN n=true:=rfl
theorem gK {n:Nat} {a:List (List AV)} {b:Bool}:(AV.sl a b).jN n=true:=rfl
theorem aJ {a b:Int} (h:a=b):AV.fl (.int .i64 a)=AV.fl (.int .i64 b):=by rw [h]
theorem Er {a b:Bool} (h:a=b):AV.fl (.bool a)=AV.fl (.bool b):=by rw [h]
theorem qQ (one:Bool) (n lo hi:Int):af TT TB one (.fn 116 [] [.pt [av lo] 0,.pt [av hi] 0]) [av n] (BB (decide (n < lo) || decide (hi < n))):=by
 refine af.body (fn:=Tryz.f116) rfl rfl rfl rfl ?_;refine qq1 ?_;repeat' first|(refine ⟨_,rfl,?_⟩)|(refine bD (by assumption) ?_)|(refine bV (by assumption) ?_)|(refine ⟨fun h=>?_,fun h=>?_⟩)|fail
 all_goals refine ⟨[_],⟨Fz.deep rfl,trivial⟩,?_⟩
 all_goals simp_all [AW]
theorem jw (one:Bool) (g:FuncId) (fs cs:List AV) (hF:(AV.fn g fs cs).deep=true) (p:Int→Bool) (l:List Int) (full:Bool) (hl:l.length≤maxLen) (hp:∀ n ∈ l,af TT TB one (.fn g fs cs) [av n] (BB (p n))) :
  Pu one 93 [.sl (ints l) full,.fn g fs cs] (av (l5 p l)):=by
 unfold maxLen at hl;refine af.body (fn:=Tryz.f93) rfl rfl rfl rfl ?_;refine qq1 ?_
 skip
 refine aE.aS (ai.to (l:=[(0,.sl (ints l) full),(1,.fn g fs cs),(7,av l.length),(8,av ((0:Nat):Int))]) 0 rfl ⟨rfl,rfl,aJ (by simp),rfl,trivial⟩ (qq6 _) (by simp [fK,gK,cQ 0 _ hF]) rfl) ?_;refine aE.loop (fun k:Nat=>k≤l.length∧∀ i (h:i < l.length),i < k→p l[i]=false) (fun k=>⟨bA [(0,.sl (ints l) full),(1,.fn g fs cs),(7,av l.length),(8,av (k:Int))],[],cz.none,false,0⟩) (fun k=>l.length - k) ?_ 0 ⟨qq5 _,fun i _ hi=>absurd hi (by omega)⟩;intro k ⟨hk,hprev⟩;refine qq1 ?_;refine ⟨fun h=>?_,fun h=>?_⟩
 ·have hlt:k < l.length:=by simpa using h
  refine ⟨[av l[k]],⟨by omega,by simp [hlt]⟩,rfl,?_⟩;repeat' first|refine u1 ?_|fail
  refine af.call (hp l[k] (List.getElem_mem _)) hF rfl ?_;refine ⟨fun h2=>?_,fun h2=>?_⟩
  ·refine ⟨[_],⟨Fz.deep rfl,trivial⟩,?_⟩;rw [iu hlt hprev h2];rfl
  ·repeat' first|refine u2 ?_|fail
   refine ⟨k+1,⟨hlt,fun i hi hik=>?_⟩,(by dsimp only;omega),ai.to 0 rfl ⟨rfl,rfl,rfl,aJ (by simp),trivial⟩ (qq6 _) (by simp [fK,gK,cQ 0 _ hF]) rfl⟩;by_cases hik':i=k
   ·subst hik';exact h2
   ·exact hprev i hi (by omega)
 ·skip
  refine ⟨[_],⟨Fz.deep rfl,trivial⟩,?_⟩;have:k=l.length:=by simp at h;omega
  rw [iw fun i hi=>hprev i hi (by omega)];rfl
structure hH where
 name:ByteArray
 full:Int
 first:Int
 weight:Int
structure Order where
 day:Int
 bl:List Int
structure aC where
 days:Int
 needs:List hH
 load:Int
 fail:Int
 row:Int
 possible:List Int
abbrev aU (n:hH):List AV:=[ST n.name,av n.full,av n.first,av n.weight]
abbrev aL (o:Order):List AV:=[av o.day,.sl (ints o.bl) false]
abbrev aH (s:aC):List AV:=[av s.days,.sl (s.needs.map aU) false,av s.load,av s.fail,av s.row,.sl (ints s.possible) false]
theorem tP (one:Bool) (g:FuncId) (fs cs:List AV) (hF:(AV.fn g fs cs).deep=true) (p:Int→Bool) (l:List Int) (full:Bool) (hl:l.length≤maxLen) (hp:∀ x ∈ l,af TT TB one (.fn g fs cs) [av x] (BB (p x))) :
  Pu one 100 [.sl (l.map eI) full,.fn g fs cs] (BB (l.any p)):=by
 refine af.body (fn:=Tryz.f100) rfl rfl rfl rfl ?_;refine qq1 ?_
 skip
 refine af.call (jw one g fs cs hF p l full hl hp) rfl (by simp only [bG,AV.deep,Bool.and_true,Bool.true_and];exact hF) ?_
 skip
 refine ⟨[_],⟨Fz.deep rfl,trivial⟩,?_⟩;rw [←nD];rfl
theorem yN (one:Bool) (g:FuncId) (fs cs:List AV) (hF:(AV.fn g fs cs).deep=true) (p:hH→Bool) (l:List hH) (full:Bool) (hl:l.length≤maxLen) (hp:∀ x ∈ l,af TT TB one (.fn g fs cs) [.ag (aU x)] (BB (p x))) :
  Pu one 145 [.sl (l.map aU) full,.fn g fs cs] (av (l5 p l)):=by
 unfold maxLen at hl;refine af.body (fn:=Tryz.f145) rfl rfl rfl rfl ?_;refine qq1 ?_
 skip
 refine aE.aS (ai.to (l:=[(0,.sl (l.map aU) full),(1,.fn g fs cs),(7,av l.length),(8,av ((0:Nat):Int))]) 0 rfl ⟨rfl,rfl,aJ (by simp),rfl,trivial⟩ (qq6 _) (by simp [fK,gK,cQ 0 _ hF]) rfl) ?_;refine aE.loop (fun k:Nat=>k≤l.length∧∀ i (h:i < l.length),i < k→p l[i]=false) (fun k=>⟨bA [(0,.sl (l.map aU) full),(1,.fn g fs cs),(7,av l.length),(8,av (k:Int))],[],cz.none,false,0⟩) (fun k=>l.length - k) ?_ 0 ⟨qq5 _,fun i _ hi=>absurd hi (by omega)⟩;intro k ⟨hk,hprev⟩;refine qq1 ?_;refine ⟨fun h=>?_,fun h=>?_⟩
 ·have hlt:k < l.length:=by simpa using h
  skip
  refine ⟨aU l[k],⟨by omega,by simp [hlt]⟩,rfl,?_⟩;repeat' first|refine u2 ?_|fail
  refine af.call (hp l[k] (List.getElem_mem _)) hF rfl ?_;refine ⟨fun h2=>?_,fun h2=>?_⟩
  ·skip
   refine ⟨[_],⟨Fz.deep rfl,trivial⟩,?_⟩;rw [iu hlt hprev h2];rfl
  ·repeat' first|refine u2 ?_|fail
   refine ⟨k+1,⟨hlt,fun i hi hik=>?_⟩,(by dsimp only;omega),ai.to 0 rfl ⟨rfl,rfl,rfl,aJ (by simp),trivial⟩ (qq6 _) (by simp [fK,gK,cQ 0 _ hF]) rfl⟩;by_cases hik':i=k
   ·subst hik';exact h2
   ·exact hprev i hi (by omega)
 ·skip
  refine ⟨[_],⟨Fz.deep rfl,trivial⟩,?_⟩;have:k=l.length:=by simp at h;omega
  rw [iw fun i hi=>hprev i hi (by omega)];rfl
theorem tQ (one:Bool) (g:FuncId) (fs cs:List AV) (hF:(AV.fn g fs cs).deep=true) (p:hH→Bool) (l:List hH) (full:Bool) (hl:l.length≤maxLen) (hp:∀ x ∈ l,af TT TB one (.fn g fs cs) [.ag (aU x)] (BB (p x))) :
  Pu one 119 [.sl (l.map aU) full,.fn g fs cs] (BB (l.any p)):=by
 refine af.body (fn:=Tryz.f119) rfl rfl rfl rfl ?_;refine qq1 ?_
 skip
 refine af.call (yN one g fs cs hF p l full hl hp) rfl (by simp only [bG,AV.deep,Bool.and_true,Bool.true_and];exact hF) ?_
 skip
 refine ⟨[_],⟨Fz.deep rfl,trivial⟩,?_⟩;rw [←nD];rfl
def bS (lo hi:Int) (l:List Int):Bool:=l.any fun n=>decide (n < lo) || decide (hi < n)
def I3:List AV→Int
 | [.fl (.int _ n)]=>n
 | _=>0
def TZ:List AV→Bool
 | [.fl (.int .i64 _)]=>true
 | _=>false
theorem allI:∀ {els:List (List AV)},els.all TZ=true→els=ints (els.map I3)
 | [],_=>rfl
 | el :: els,h=>by
  simp only [List.all_cons,qq7] at h;have ih:=allI h.2
  have:el=eI (I3 el):=by
   have h1:=h.1;unfold TZ at h1;split at h1
   ·rfl
   ·cases h1
  show el :: els=eI (I3 el) :: ints (els.map I3);rw [←this,←ih]
theorem iy (one:Bool) (lo hi:Int) (els:List (List AV)) (full:Bool) (h:els.all TZ=true) (hl:els.length≤maxLen):Pu one 72 [av lo,av hi,.sl els full] (BB (bS lo hi (els.map I3))):=by
 obtain ⟨l,hl'⟩:∃ l,els.map I3=l:=⟨_,rfl⟩;have he:els=ints l:=by rw [←hl'];exact allI h
 rw [hl'];subst he;refine af.body (fn:=Tryz.f72) rfl rfl rfl rfl ?_;refine qq1 ?_;repeat' first|refine u2 ?_|fail
 refine af.call (tP one 116 [] _ rfl (fun n=>decide (n < lo) || decide (hi < n)) l full (by simpa using hl) (fun n _=>qQ one n lo hi)) rfl rfl ?_
 skip
 refine ⟨[_],⟨Fz.deep rfl,trivial⟩,?_⟩;rfl
def zw:UInt8→List UInt8→Bool
 | last,[]=>decide (last.toNat ≠ 45)
 | last,c :: l=>if 97≤c.toNat∧c.toNat≤122 then zw c l else if c.toNat ≠ 45∨last.toNat=45 then false else zw c l
theorem CP (last c:UInt8) (l:List UInt8):zw last (c :: l)=if 97≤c.toNat∧c.toNat≤122 then zw c l else if c.toNat ≠ 45∨last.toNat=45 then false else zw c l:=rfl
def i6 (s:ByteArray):Bool:=decide (s.data.toList.length≤14) && zw 45 s.data.toList
theorem zx {s:ByteArray} {i:Nat} (h:i < s.data.toList.length):(s.get! i)=s.data.toList[i]:=by
 have:i < s.data.size:=by simpa using h
 simp only [ByteArray.get!,getElem!_pos s.data i this];simp
theorem G3 {s:ByteArray} {i:Nat} (h:i < s.data.toList.length) (hb:(s.data.toList[i]).toNat < 128):Utf8.decode s i=((s.data.toList[i]).toNat,1):=by unfold Utf8.decode;simp only [Nat.add_zero,zx h];rw [if_pos hb]
theorem G4 {s:ByteArray} {i:Nat} (h:i < s.data.toList.length) (hb:128≤(s.data.toList[i]).toNat):128≤(Utf8.decode s i).1:=by
 unfold Utf8.decode;simp only [Nat.add_zero,zx h,Utf8.runeError];rw [if_neg (by omega)];repeat' split
 all_goals simp_all
 all_goals omega
theorem I4 (one : Bool) (s : ByteArray) (hs : s.data.toList.length ≤ maxLen) : Pu one 118 [ST s] (BB (i6 s)) := by
  unfold maxLen at hs;refine af.body (fn := Tryz.f118) rfl rfl rfl rfl ?_;refine aa (mu := fun _ => false) ?_
  skip
  refine aE.aS (ai.to (l := [(0, ST s), (7, .ptr 0 0 0), (3, .fl (.int .i32 (((45 : UInt8).toNat : Nat) : Int)))]) 1 rfl ⟨rfl, rfl, rfl, trivial⟩ (qq5 _) rfl rfl) ?_;refine aE.loop (fun x : Nat × UInt8 => x.1 ≤ s.data.toList.length ∧ zw 45 s.data.toList = zw x.2 (s.data.toList.drop x.1)) (fun x => ⟨bA [(0, ST s), (7, .ptr 0 0 0), (3, .fl (.int .i32 ((x.2.toNat : Nat) : Int)))], [.dQ s x.1], cz.none, false, 0⟩) (fun x => s.data.toList.length - x.1) ?_ (0, 45) ⟨qq5 _, rfl⟩;intro ⟨pos, last⟩ ⟨hpos, hrel⟩;refine aa (mu := fun _ => false) ?_;have hdrop : ∀ h : pos < s.data.toList.length, s.data.toList.drop pos = s.data.toList[pos] :: s.data.toList.drop (pos + 1) := fun h => List.drop_eq_getElem_cons h;refine ⟨s, pos, rfl, fun hlt => ?_, fun hge => ?_⟩
  · rw [hdrop hlt] at hrel;simp only at hrel;generalize hc : s.data.toList[pos] = c at hrel;have hc256 : c.toNat < 256 := c.toNat_lt;rw [CP] at hrel;by_cases hb : c.toNat < 128
    · have hd := G3 hlt (by rw [hc]; exact hb);rw [hc] at hd;rw [hd];clear hd hc hdrop;repeat' first|(refine ⟨_, rfl, ?_⟩)|(refine bD (by assumption) ?_)|(refine bD rfl ?_)|(refine bV rfl ?_)|(refine bV (by assumption) ?_)|(refine ⟨_, _, rfl, rfl, _, rfl, rfl, ?_⟩)|(refine ⟨fun h => ?_, fun h => ?_⟩)|fail
      all_goals first
        | (refine ⟨(pos + 1, c), ⟨hlt, ?_⟩, (by dsimp only; omega), ai.to 1 rfl ⟨rfl, rfl, rfl, trivial⟩ (qq5 _) rfl rfl⟩
           first
             | rw [hrel, if_pos (by simp at *; omega)]
             | rw [hrel, if_neg (by simp at *; omega), if_neg (by simp at *; omega)])
        | (refine ⟨[_], ⟨Fz.deep rfl, trivial⟩, Er ?_⟩
           rw [i6, hrel, if_neg (by simp at *; omega), if_pos (by simp at *; omega)]
           simp)
    · have hd := G4 hlt (by rw [hc]; omega);generalize Utf8.decode s pos = d at hd;clear hc hdrop;repeat' first|(refine ⟨_, rfl, ?_⟩)|(refine bD (by assumption) ?_)|(refine bD rfl ?_)|(refine bV rfl ?_)|(refine bV (by assumption) ?_)|(refine ⟨_, _, rfl, rfl, _, rfl, rfl, ?_⟩)|(refine ⟨fun h => ?_, fun h => ?_⟩)|fail
      all_goals first
        | (exfalso; simp at *; omega)
        | (refine ⟨[_], ⟨Fz.deep rfl, trivial⟩, Er ?_⟩
           rw [i6, hrel, if_neg (by omega), if_pos (by omega)]
           simp)
  · have hlen : pos = s.data.toList.length := by simp only at hpos; omega
    subst hlen;simp only [List.drop_length, zw] at hrel;repeat' first|(refine ⟨_, rfl, ?_⟩)|(refine bD (by assumption) ?_)|(refine bV rfl ?_)|(refine bV (by assumption) ?_)|(refine ⟨_, _, rfl, rfl, _, rfl, rfl, ?_⟩)|(refine ⟨fun h => ?_, fun h => ?_⟩)|fail
    all_goals refine ⟨[_], ⟨Fz.deep rfl, trivial⟩, Er ?_⟩
    all_goals rw [i6, hrel, Bool.eq_iff_iff]
    all_goals simp at *
    all_goals omega
def vl (a b:ByteArray):Bool:=a.toList == b.toList
def bx (n:Nat) (e:Nat→Int):Int × Int:=match (List.range n).find? (fun i=>e i != 0) with
 | some i=>((i:Int),e i)
 | none=>(0,0)
theorem eO {n k:Nat} {e:Nat→Int} (hk:k < n) (hprev:∀ i,i < k→e i=0) (h:e k ≠ 0):bx n e=((k:Int),e k):=by
 unfold bx;have:(List.range n).find? (fun i=>e i != 0)=some k:=by rw [List.find?_range_eq_some];exact ⟨by simpa using h,by simpa using hk,fun j hj=>by simp [hprev j hj]⟩
 rw [this]
theorem cu {n:Nat} {e:Nat→Int} (hprev:∀ i,i < n→e i=0):bx n e=(0,0):=by
 unfold bx;have:(List.range n).find? (fun i=>e i != 0)=none:=by rw [List.find?_eq_none];intro x hx;simp [hprev x (by simpa using hx)]
 rw [this]
def iC (n lo hi:Int):Bool:=decide (lo≤n) && decide (n≤hi)
theorem dA {n lo hi:Int}:iC n lo hi=true ↔ lo≤n∧n≤hi:=by simp [iC]
theorem aX (n lo hi:Int):bS lo hi [n]=!iC n lo hi:=by unfold bS iC;rw [Bool.eq_iff_iff];simp
theorem nE (one:Bool) (n lo hi:Int):Pu one 19 [av n,av lo,av hi] (BB (iC n lo hi)):=by
 refine af.body (fn:=Tryz.f19) rfl rfl rfl rfl ?_;refine qq1 ?_;repeat' first|(refine bD (by assumption) ?_)|(refine bV (by assumption) ?_)|(refine ⟨fun h=>?_,fun h=>?_⟩)|fail
 all_goals refine ⟨[_],⟨Fz.deep rfl,trivial⟩,Er ?_⟩
 all_goals simp_all [iC]
 all_goals omega
theorem PX (one:Bool) (n lo hi:Int):Pu one 92 [av n,av lo,av hi] (BB (iC n lo hi)):=by
 refine af.body (fn:=Tryz.f92) rfl rfl rfl rfl ?_;refine qq1 ?_;repeat' first|(refine bD (by assumption) ?_)|(refine bV (by assumption) ?_)|(refine ⟨fun h=>?_,fun h=>?_⟩)|fail
 all_goals refine ⟨[_],⟨Fz.deep rfl,trivial⟩,Er ?_⟩
 all_goals simp_all [iC]
 all_goals omega
theorem zy {s:ByteArray} {k:Nat} (h:k < s.data.toList.length):cW (aK TT.P (Instr.index 9 (.string s) (.int .i64 (k:Int))))=some (.int .u8 ((s.data.toList[k].toNat:Nat):Int),.none):=by
 have hk:k < s.size:=by rwa [Array.length_toList] at h
 have e:(if (0:Int)≤(k:Int) then s[(k:Int).toNat]? else none)=some (s.data.toList[k]):=by rw [if_pos (by omega),Int.toNat_natCast];rw [getElem?_pos s k hk];rfl
 unfold Instr.index
 show cW (aK TT.P (match (if (0:Int)≤(k:Int) then s[(k:Int).toNat]? else none) with
  | some b=>pure (.int .u8 b.toNat)
  | none=>boundsPanic .i64 k s.size .index))=_
 rw [e];rfl
theorem bI {α β:Type} {f:α→β} {l:List α} {k:Nat} (h:k < l.length):(l.map f)[((k:Nat):Int).toNat]?=some (f l[k]):=by rw [Int.toNat_natCast,List.getElem?_map,List.getElem?_eq_getElem h];rfl
def lJ (l:List UInt8):Nat→UInt8
 | 0=>45
 | k+1=>l[k]?.getD 45
theorem nF {l:List UInt8} {k:Nat} (h:k < l.length):lJ l (k+1)=l[k]:=by show (l[k]?).getD 45=l[k];rw [List.getElem?_eq_getElem h];rfl
theorem I5 {l:List UInt8} {k:Nat} (h:k < l.length):zw (lJ l k) (l.drop k)=if 97≤l[k].toNat∧l[k].toNat≤122 then zw (lJ l (k+1)) (l.drop (k+1)) else if l[k].toNat ≠ 45∨(lJ l k).toNat=45 then false else zw (lJ l (k+1)) (l.drop (k+1)):=by rw [List.drop_eq_getElem_cons h,CP,nF h]
theorem M5 {l:List UInt8} {k:Nat} (h:k+1=l.length) (h45:l[k].toNat=45):zw (lJ l (k+1)) (l.drop (k+1))=false:=by rw [nF (by omega),h,List.drop_length];unfold zw;simp [h45]
abbrev eS (s:ByteArray):List AV:=[ST s]
theorem M6 (one:Bool) (names:List ByteArray) (full:Bool) (s:ByteArray) (hl:names.length≤maxLen):Pu one 58 [.sl (names.map eS) full,ST s] (av (l5 (fun x=>vl x s) names)):=by
 unfold maxLen at hl;refine af.body (fn:=Tryz.f58) rfl rfl rfl rfl ?_;refine qq1 ?_
 skip
 refine aE.aS (ai.to (l:=[(0,.sl (names.map eS) full),(1,ST s),(5,av ((0:Nat):Int))]) 0 rfl ⟨rfl,rfl,rfl,trivial⟩ (qq6 _) rfl rfl) ?_;refine aE.loop (fun k:Nat=>k≤names.length∧∀ i (h:i < names.length),i < k→vl names[i] s=false) (fun k=>⟨bA [(0,.sl (names.map eS) full),(1,ST s),(5,av (k:Int))],[],cz.none,false,0⟩) (fun k=>names.length - k) ?_ 0 ⟨qq5 _,fun i _ hi=>absurd hi (by omega)⟩;intro k ⟨hk,hprev⟩;refine qq1 ?_
 skip
 refine ⟨fun h=>?_,fun h=>?_⟩
 ·have hlt:k < names.length:=by simpa using h
  skip
  refine ⟨eS names[k],⟨by omega,bI hlt⟩,rfl,?_⟩;repeat' first|refine u1 ?_|refine u2 ?_|fail
  refine ⟨fun h2=>?_,fun h2=>?_⟩
  ·skip
   refine ⟨[_],⟨Fz.deep rfl,trivial⟩,aJ ?_⟩;exact (iu hlt hprev h2).symm
  ·repeat' first|refine u2 ?_|fail
   refine ⟨k+1,⟨hlt,fun i hi hik=>?_⟩,(by dsimp only;omega),ai.to 0 rfl ⟨rfl,rfl,aJ (by simp),trivial⟩ (qq6 _) rfl rfl⟩;by_cases hik':i=k
   ·subst hik';exact h2
   ·exact hprev i hi (by omega)
 ·skip
  refine ⟨[_],⟨Fz.deep rfl,trivial⟩,aJ ?_⟩;have:k=names.length:=by simp at h;omega
  rw [iw fun i hi=>hprev i hi (by omega)]
theorem M7 (one : Bool) (s : ByteArray) (hs : s.data.toList.length ≤ maxLen) : Pu one 57 [ST s] (BB (i6 s)) := by
  unfold maxLen at hs;refine af.body (fn := Tryz.f57) rfl rfl rfl rfl ?_;refine aa (mu := fun _ => false) ?_;repeat' first|(refine af.call (PX one _ _ _) rfl rfl ?_)|fail
  refine ⟨fun h => ?_, fun h => ?_⟩
  · skip
    refine ⟨[_], ⟨Fz.deep rfl, trivial⟩, Er ?_⟩;have h : ¬ (1 ≤ s.data.toList.length ∧ s.data.toList.length ≤ 14) := by rw [Bool.not_eq_true', ← Bool.not_eq_true, dA] at h;omega
    unfold i6;generalize s.data.toList = l at h
    cases l with
    | nil => simp [zw]
    | cons a l =>have : 0 < (a :: l).length := Nat.succ_pos _;rw [decide_eq_false (by omega)];rfl
  · have h : 1 ≤ s.data.toList.length ∧ s.data.toList.length ≤ 14 := by rw [Bool.not_eq_false', dA] at h;omega
    have hn : i6 s = zw 45 s.data.toList := by unfold i6;rw [decide_eq_true h.2, Bool.true_and]
    skip
    refine aE.aS (ai.to (l := [(0, ST s), (3, av ((0 : Nat) : Int))]) 0 rfl ⟨rfl, rfl, trivial⟩ (qq6 _) rfl rfl) ?_;refine aE.loop (fun k : Nat => k ≤ s.data.toList.length ∧ i6 s = zw (lJ s.data.toList k) (s.data.toList.drop k) ∧ (k = s.data.toList.length → (lJ s.data.toList k).toNat ≠ 45)) (fun k => ⟨bA [(0, ST s), (3, av (k : Int))], [], cz.none, false, 0⟩) (fun k => s.data.toList.length - k) ?_ 0 ⟨qq5 _, hn, fun h0 => by omega⟩;intro k ⟨hk, hrel, hlast⟩;refine aa (mu := fun _ => false) ?_
    skip
    refine ⟨fun h => ?_, fun h => ?_⟩
    · have hlt : k < s.data.toList.length := by rw [decide_eq_true_eq] at h; omega
      rw [I5 hlt] at hrel;have hix := zy hlt;generalize hc : s.data.toList[k] = c at hrel hix;have hix1 : 0 < k → cW (aK TT.P (Instr.index 9 (.string s) (.int .i64 ((k : Int) - 1)))) = some (.int .u8 (((lJ s.data.toList k).toNat : Nat) : Int), .none) := by intro h0;obtain ⟨m, rfl⟩ : ∃ m, k = m + 1 := ⟨k - 1, by omega⟩;rw [nF (by omega), show (((m + 1 : Nat) : Int) - 1) = ((m : Nat) : Int) from by omega];exact zy (by omega)
      have hl0 : k = 0 → (lJ s.data.toList k).toNat = 45 := by rintro rfl;rfl
      have hend : k + 1 = s.data.toList.length → c.toNat = 45 → zw (lJ s.data.toList (k + 1)) (s.data.toList.drop (k + 1)) = false := fun h1 h2 => M5 h1 (by rw [hc]; exact h2);have hsucc : lJ s.data.toList (k + 1) = c := by rw [nF hlt, hc]
      clear hc hn hlast;generalize lJ s.data.toList k = d at hrel hix1 hl0;generalize hr : zw (lJ s.data.toList (k + 1)) (s.data.toList.drop (k + 1)) = r at hrel hend;repeat' first|(refine bD (by assumption) ?_)|(refine bD rfl ?_)|(refine bV rfl ?_)|(refine bV (by assumption) ?_)|(refine And.intro (by omega) ?_)|(refine ⟨_, _, rfl, rfl, _, rfl, rfl, ?_⟩)|(refine ⟨_, _, rfl, rfl, _, hix, rfl, ?_⟩)|(refine ⟨_, _, rfl, rfl, _, hix1 (by rcases Nat.eq_zero_or_pos k with h0 | h0; (exfalso; simp_all); exact h0), rfl, ?_⟩)|(refine ⟨fun h => ?_, fun h => ?_⟩)|fail
      all_goals first
        | (refine ⟨k + 1, ⟨hlt, ?_, fun h1 => by rw [hsucc]; clear hix hix1 hr hsucc; simp at *; omega⟩, (by dsimp only; omega), ai.to 0 rfl ⟨rfl, aJ (by simp), trivial⟩ (qq6 _) rfl rfl⟩
           rw [hr]
           first
             | rw [hrel, if_pos (by simp at *; omega)]
             | rw [hrel, if_neg (by simp at *; omega), if_neg (by simp at *; omega)])
        | (refine ⟨[_], ⟨Fz.deep rfl, trivial⟩, Er ?_⟩
           rw [hrel, if_neg (by simp at *; omega)];split
           · rfl
           · exact (hend (by simp at *; omega) (by simp at *; omega)).symm)
    · skip
      refine ⟨[_], ⟨Fz.deep rfl, trivial⟩, Er ?_⟩;have : k = s.data.toList.length := by rw [decide_eq_false_iff_not] at h; omega
      rw [hrel, this, List.drop_length];have := hlast this;rw [‹k = s.data.toList.length›] at this;unfold zw;simp only [ne_eq, this, not_false_eq_true, decide_true]
def gR (name:ByteArray) (names:List ByteArray):Int:=if i6 name=false then 6 else if names.any (fun x=>vl x name) then 5 else 0
theorem FT (one:Bool) (names:List ByteArray) (full:Bool) (s:ByteArray) (hs:s.data.toList.length≤maxLen) (hl:names.length≤maxLen):Pu one 20 [ST s,.sl (names.map eS) full] (av (gR s names)):=by
 have hg:=nD (fun x=>vl x s) names;have hc:=M6 one names full s hl;unfold gR;generalize l5 (fun x=>vl x s) names=i at hg hc;generalize names.any (fun x=>vl x s)=b at hg;refine af.body (fn:=Tryz.f20) rfl rfl rfl rfl ?_;refine qq1 ?_;repeat' first |with_reducible (first|refine bQ ?_|refine bk ?_|refine bg ?_|refine aZ ?_)|(refine af.call (M7 one _ hs) rfl rfl ?_)|(refine af.call hc rfl rfl ?_)|(refine ⟨fun h=>?_,fun h=>?_⟩)|fail
 all_goals refine ⟨[_],⟨Fz.deep rfl,trivial⟩,aJ ?_⟩
 all_goals simp_all
