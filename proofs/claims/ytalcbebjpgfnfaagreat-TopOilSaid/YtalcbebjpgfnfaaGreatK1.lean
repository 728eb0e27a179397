/-
  Contracts of the program's functions and of the document's. Lemmas alone; their conditions stand in them.
-/
import Derived.Test.YtalcbebjpgfnfaaGreatA2
import Derived.Test.YtalcbebjpgfnfaaGreatA3
import Derived.Test.YtalcbebjpgfnfaaGreatT1
open Go Go.RM
namespace Go.Proofs.YtalcbebjpgfnfaaGreat
set_option maxRecDepth 100000
abbrev ah (n:Int):AV:=.fl (.int .i64 n)
abbrev BB (b:Bool):AV:=.fl (.bool b)
abbrev ST (s:ByteArray):AV:=.fl (.string s)
abbrev eI (n:Int):List AV:=[ah n]
abbrev ints (l:List Int):List (List AV):=l.map eI
def MM:XE:=⟨7,[],[],.bool true,[]⟩
def TB:List XE:=[MM]
abbrev Pu (one:Bool) (f:FuncId) (args:List AV) (v:AV):Prop:=af TT TB one (.fn f [] []) args v
def lE {α:Type} (p:α→Bool) (l:List α):Int:=match l.findIdx? p with
 | some i=>(i:Int)
 | none=>-1
theorem iR {α:Type} {p:α→Bool} {l:List α} {k:Nat} (hk:k < l.length) (hprev:∀ i (h:i < l.length),i < k→p l[i]=false) (hp:p l[k]=true):lE p l=k:=by
 unfold lE
 have:l.findIdx? p=some k:=by
  rw [List.findIdx?_eq_some_iff_getElem]
  exact ⟨hk,hp,fun j hj=>by simp [hprev j (by omega) hj]⟩
 rw [this]
theorem iS {α:Type} {p:α→Bool} {l:List α} (hprev:∀ i (h:i < l.length),p l[i]=false):lE p l=-1:=by
 unfold lE
 have:l.findIdx? p=none:=by
  rw [List.findIdx?_eq_none_iff]
  intro x hx
  obtain ⟨i,hi,rfl⟩:=List.getElem_of_mem hx
  exact hprev i hi
 rw [this]
theorem mD {α:Type} (p:α→Bool) (l:List α):decide (0≤lE p l)=l.any p:=by
 unfold lE
 cases h:l.findIdx? p with
 | some i =>
  rw [List.findIdx?_eq_some_iff_getElem] at h
  obtain ⟨h1,h2,_⟩:=h
  simp only [Int.natCast_nonneg,decide_true]
  symm
  rw [List.any_eq_true]
  exact ⟨_,List.getElem_mem h1,h2⟩
 | none =>
  rw [List.findIdx?_eq_none_iff] at h
  simp
  intro x hx;exact h x hx
theorem bV (n:Nat):∀ (v:AV),v.deep=true→v.di n=true:=by
 apply AV.rec (motive_1:=fun v=>v.deep=true→v.di n=true) (motive_2:=fun _=>True) (motive_3:=fun l=>bw l=true→ig n l=true)
 ·intro v _;rfl
 ·intro a b _ _;rfl
 ·intro a b _ _;rfl
 ·intro f a b ha hb h
  simp only [AV.deep,Bool.and_eq_true] at h
  simp only [AV.di,Bool.and_eq_true]
  exact ⟨ha h.1,hb h.2⟩
 ·intro a ha h
  simp only [AV.deep] at h
  simp only [AV.di]
  exact ha h
 ·intro a ha h
  simp only [AV.deep] at h
  simp only [AV.di]
  exact ha h
 ·intro j v o h;simp [AV.deep] at h
 ·intro j v o n c h;simp [AV.deep] at h
 ·intro j h;simp [AV.deep] at h
 ·intro u _;rfl
 ·intro h;simp [AV.deep] at h
 ·trivial
 ·intros;trivial
 ·intro _;rfl
 ·intro a l ha hl h
  simp only [bw,Bool.and_eq_true] at h
  simp only [ig,Bool.and_eq_true]
  exact ⟨ha h.1,hl h.2⟩
theorem dg {n:Nat} {v:Value}:(AV.fl v).di n=true:=rfl
theorem gw {n:Nat} {a:List (List AV)} {b:Bool}:(AV.sl a b).di n=true:=rfl
theorem aH {a b:Int} (h:a=b):AV.fl (.int .i64 a)=AV.fl (.int .i64 b):=by rw [h]
theorem Bt {a b:Bool} (h:a=b):AV.fl (.bool a)=AV.fl (.bool b):=by rw [h]
theorem ru (one:Bool) (n lo hi:Int):af TT TB one (.fn 98 [] [.pt [ah lo] 0,.pt [ah hi] 0]) [ah n] (BB (decide (n < lo) || decide (hi < n))):=by
 refine af.body (fn:=Tryz.f98) rfl rfl rfl rfl ?_
 refine aa (mu:=fun _=>false) ?_
 repeat' (first |(refine ⟨_,rfl,?_⟩) |(refine bC (by assumption) ?_) |(refine bS (by assumption) ?_) |(refine ⟨fun h=>?_,fun h=>?_⟩) |fail)
 all_goals refine ⟨[_],⟨Fz.deep rfl,trivial⟩,?_⟩
 all_goals simp_all [yI]
theorem qK (one:Bool) (g:FuncId) (fs cs:List AV) (hF:(AV.fn g fs cs).deep=true) (p:Int→Bool) (l:List Int) (full:Bool) (hl:l.length≤maxLen) (hp:∀ n ∈ l,af TT TB one (.fn g fs cs) [ah n] (BB (p n))) :
  Pu one 125 [.sl (ints l) full,.fn g fs cs] (ah (lE p l)):=by
 unfold maxLen at hl
 refine af.body (fn:=Tryz.f125) rfl rfl rfl rfl ?_
 refine aa (mu:=fun _=>false) ?_
 skip
 refine az.aK (ai.to (l:=[(0,.sl (ints l) full),(1,.fn g fs cs),(7,ah l.length),(8,ah ((0:Nat):Int))]) 0 rfl ⟨rfl,rfl,aH (by simp),rfl,trivial⟩ (Nat.le_refl _) (by simp [dg,gw,bV 0 _ hF]) rfl) ?_
 refine az.loop (fun k:Nat=>k≤l.length∧∀ i (h:i < l.length),i < k→p l[i]=false) (fun k=>⟨aX [(0,.sl (ints l) full),(1,.fn g fs cs),(7,ah l.length),(8,ah (k:Int))],[],bN.none,false,0⟩) (fun k=>l.length - k) ?_ 0 ⟨Nat.zero_le _,fun i _ hi=>absurd hi (by omega)⟩
 intro k ⟨hk,hprev⟩
 refine aa (mu:=fun _=>false) ?_
 refine ⟨fun h=>?_,fun h=>?_⟩
 ·have hlt:k < l.length:=by simpa using h
  refine ⟨[ah l[k]],⟨by omega,by simp [hlt]⟩,rfl,?_⟩
  repeat' (first |refine u1 ?_ |fail)
  refine af.call (hp l[k] (List.getElem_mem _)) hF rfl ?_
  refine ⟨fun h2=>?_,fun h2=>?_⟩
  ·refine ⟨[_],⟨Fz.deep rfl,trivial⟩,?_⟩
   rw [iR hlt hprev h2];rfl
  ·repeat' (first |refine u2 ?_ |fail)
   refine ⟨k+1,⟨hlt,fun i hi hik=>?_⟩,(by dsimp only;omega),ai.to 0 rfl ⟨rfl,rfl,rfl,aH (by simp),trivial⟩ (Nat.le_refl _) (by simp [dg,gw,bV 0 _ hF]) rfl⟩
   by_cases hik':i=k
   ·subst hik';exact h2
   ·exact hprev i hi (by omega)
 ·skip
  refine ⟨[_],⟨Fz.deep rfl,trivial⟩,?_⟩
  have:k=l.length:=by simp at h;omega
  rw [iS fun i hi=>hprev i hi (by omega)];rfl
end Go.Proofs.YtalcbebjpgfnfaaGreat
open Go Go.RM
namespace Go.Proofs.YtalcbebjpgfnfaaGreat
set_option maxRecDepth 100000
structure Span where
 lo:Int
 hi:Int
structure Pt where
 x:Int
 y:Int
structure gj where
 name:ByteArray
 cand:Span
 i9:Int
structure aC where
 ax:List gj
 bW:Span
 clear:Span
structure bk where
 pos:Pt
 ei:Int
 g8:Int
 gK:Int
structure aP where
 pos:Pt
 eu:Bool
 yes:Bool
abbrev ck (s:Span):List AV:=[ah s.lo,ah s.hi]
abbrev NK (p:Pt):List AV:=[ah p.x,ah p.y]
abbrev bh (k:gj):List AV:=[ST k.name,ah k.cand.lo,ah k.cand.hi,ah k.i9]
abbrev aL (r:aP):List AV:=[ah r.pos.x,ah r.pos.y,BB r.eu,BB r.yes]
abbrev jW (n:bk):List AV:=[ah n.pos.x,ah n.pos.y,ah n.ei,ah n.g8,ah n.gK]
abbrev bf (s:aC):List AV:=[.sl (s.ax.map bh) false,ah s.bW.lo,ah s.bW.hi,ah s.clear.lo,ah s.clear.hi]
theorem jy (one:Bool) (g:FuncId) (fs cs:List AV) (hF:(AV.fn g fs cs).deep=true) (p:Int→Bool) (l:List Int) (full:Bool) (hl:l.length≤maxLen) (hp:∀ x ∈ l,af TT TB one (.fn g fs cs) [ah x] (BB (p x))) :
  Pu one 97 [.sl (l.map eI) full,.fn g fs cs] (BB (l.any p)):=by
 refine af.body (fn:=Tryz.f97) rfl rfl rfl rfl ?_
 refine aa (mu:=fun _=>false) ?_
 skip
 refine af.call (qK one g fs cs hF p l full hl hp) rfl (by simp only [bw,AV.deep,Bool.and_true,Bool.true_and];exact hF) ?_
 skip
 refine ⟨[_],⟨Fz.deep rfl,trivial⟩,?_⟩
 rw [←mD];rfl
theorem lF (one:Bool) (g:FuncId) (fs cs:List AV) (hF:(AV.fn g fs cs).deep=true) (p:gj→Bool) (l:List gj) (full:Bool) (hl:l.length≤maxLen) (hp:∀ x ∈ l,af TT TB one (.fn g fs cs) [.ag (bh x)] (BB (p x))) :
  Pu one 140 [.sl (l.map bh) full,.fn g fs cs] (ah (lE p l)):=by
 unfold maxLen at hl
 refine af.body (fn:=Tryz.f140) rfl rfl rfl rfl ?_
 refine aa (mu:=fun _=>false) ?_
 skip
 refine az.aK (ai.to (l:=[(0,.sl (l.map bh) full),(1,.fn g fs cs),(7,ah l.length),(8,ah ((0:Nat):Int))]) 0 rfl ⟨rfl,rfl,aH (by simp),rfl,trivial⟩ (Nat.le_refl _) (by simp [dg,gw,bV 0 _ hF]) rfl) ?_
 refine az.loop (fun k:Nat=>k≤l.length∧∀ i (h:i < l.length),i < k→p l[i]=false) (fun k=>⟨aX [(0,.sl (l.map bh) full),(1,.fn g fs cs),(7,ah l.length),(8,ah (k:Int))],[],bN.none,false,0⟩) (fun k=>l.length - k) ?_ 0 ⟨Nat.zero_le _,fun i _ hi=>absurd hi (by omega)⟩
 intro k ⟨hk,hprev⟩
 refine aa (mu:=fun _=>false) ?_
 refine ⟨fun h=>?_,fun h=>?_⟩
 ·have hlt:k < l.length:=by simpa using h
  skip
  refine ⟨bh l[k],⟨by omega,by simp [hlt]⟩,rfl,?_⟩
  repeat' (first |refine u2 ?_ |fail)
  refine af.call (hp l[k] (List.getElem_mem _)) hF rfl ?_
  refine ⟨fun h2=>?_,fun h2=>?_⟩
  ·skip
   refine ⟨[_],⟨Fz.deep rfl,trivial⟩,?_⟩
   rw [iR hlt hprev h2];rfl
  ·repeat' (first |refine u2 ?_ |fail)
   refine ⟨k+1,⟨hlt,fun i hi hik=>?_⟩,(by dsimp only;omega),ai.to 0 rfl ⟨rfl,rfl,rfl,aH (by simp),trivial⟩ (Nat.le_refl _) (by simp [dg,gw,bV 0 _ hF]) rfl⟩
   by_cases hik':i=k
   ·subst hik';exact h2
   ·exact hprev i hi (by omega)
 ·skip
  refine ⟨[_],⟨Fz.deep rfl,trivial⟩,?_⟩
  have:k=l.length:=by simp at h;omega
  rw [iS fun i hi=>hprev i hi (by omega)];rfl
theorem jz (one:Bool) (g:FuncId) (fs cs:List AV) (hF:(AV.fn g fs cs).deep=true) (p:gj→Bool) (l:List gj) (full:Bool) (hl:l.length≤maxLen) (hp:∀ x ∈ l,af TT TB one (.fn g fs cs) [.ag (bh x)] (BB (p x))) :
  Pu one 95 [.sl (l.map bh) full,.fn g fs cs] (BB (l.any p)):=by
 refine af.body (fn:=Tryz.f95) rfl rfl rfl rfl ?_
 refine aa (mu:=fun _=>false) ?_
 skip
 refine af.call (lF one g fs cs hF p l full hl hp) rfl (by simp only [bw,AV.deep,Bool.and_true,Bool.true_and];exact hF) ?_
 skip
 refine ⟨[_],⟨Fz.deep rfl,trivial⟩,?_⟩
 rw [←mD];rfl
theorem lG (one:Bool) (g:FuncId) (fs cs:List AV) (hF:(AV.fn g fs cs).deep=true) (p:aP→Bool) (l:List aP) (full:Bool) (hl:l.length≤maxLen) (hp:∀ x ∈ l,af TT TB one (.fn g fs cs) [.ag (aL x)] (BB (p x))) :
  Pu one 144 [.sl (l.map aL) full,.fn g fs cs] (ah (lE p l)):=by
 unfold maxLen at hl
 refine af.body (fn:=Tryz.f144) rfl rfl rfl rfl ?_
 refine aa (mu:=fun _=>false) ?_
 skip
 refine az.aK (ai.to (l:=[(0,.sl (l.map aL) full),(1,.fn g fs cs),(7,ah l.length),(8,ah ((0:Nat):Int))]) 0 rfl ⟨rfl,rfl,aH (by simp),rfl,trivial⟩ (Nat.le_refl _) (by simp [dg,gw,bV 0 _ hF]) rfl) ?_
 refine az.loop (fun k:Nat=>k≤l.length∧∀ i (h:i < l.length),i < k→p l[i]=false) (fun k=>⟨aX [(0,.sl (l.map aL) full),(1,.fn g fs cs),(7,ah l.length),(8,ah (k:Int))],[],bN.none,false,0⟩) (fun k=>l.length - k) ?_ 0 ⟨Nat.zero_le _,fun i _ hi=>absurd hi (by omega)⟩
 intro k ⟨hk,hprev⟩
 refine aa (mu:=fun _=>false) ?_
 refine ⟨fun h=>?_,fun h=>?_⟩
 ·have hlt:k < l.length:=by simpa using h
  skip
  refine ⟨aL l[k],⟨by omega,by simp [hlt]⟩,rfl,?_⟩
  repeat' (first |refine u2 ?_ |fail)
  refine af.call (hp l[k] (List.getElem_mem _)) hF rfl ?_
  refine ⟨fun h2=>?_,fun h2=>?_⟩
  ·skip
   refine ⟨[_],⟨Fz.deep rfl,trivial⟩,?_⟩
   rw [iR hlt hprev h2];rfl
  ·repeat' (first |refine u2 ?_ |fail)
   refine ⟨k+1,⟨hlt,fun i hi hik=>?_⟩,(by dsimp only;omega),ai.to 0 rfl ⟨rfl,rfl,rfl,aH (by simp),trivial⟩ (Nat.le_refl _) (by simp [dg,gw,bV 0 _ hF]) rfl⟩
   by_cases hik':i=k
   ·subst hik';exact h2
   ·exact hprev i hi (by omega)
 ·skip
  refine ⟨[_],⟨Fz.deep rfl,trivial⟩,?_⟩
  have:k=l.length:=by simp at h;omega
  rw [iS fun i hi=>hprev i hi (by omega)];rfl
end Go.Proofs.YtalcbebjpgfnfaaGreat
open Go Go.RM
namespace Go.Proofs.YtalcbebjpgfnfaaGreat
set_option maxRecDepth 100000
def aM (lo hi:Int) (l:List Int):Bool:=l.any fun n=>decide (n < lo) || decide (hi < n)
def Ga:List AV→Int
 | [.fl (.int _ n)]=>n
 | _=>0
def NL:List AV→Bool
 | [.fl (.int .i64 _)]=>true
 | _=>false
theorem allI:∀ {els:List (List AV)},els.all NL=true→els=ints (els.map Ga)
 | [],_=>rfl
 | el :: els,h=>by
  simp only [List.all_cons,Bool.and_eq_true] at h
  have ih:=allI h.2
  have:el=eI (Ga el):=by
   have h1:=h.1
   unfold NL at h1
   split at h1
   ·rfl
   ·cases h1
  show el :: els=eI (Ga el) :: ints (els.map Ga)
  rw [←this,←ih]
theorem cX (one:Bool) (lo hi:Int) (els:List (List AV)) (full:Bool) (h:els.all NL=true) (hl:els.length≤maxLen):Pu one 48 [ah lo,ah hi,.sl els full] (BB (aM lo hi (els.map Ga))):=by
 obtain ⟨l,hl'⟩:∃ l,els.map Ga=l:=⟨_,rfl⟩
 have he:els=ints l:=by rw [←hl'];exact allI h
 rw [hl']
 subst he
 refine af.body (fn:=Tryz.f48) rfl rfl rfl rfl ?_
 refine aa (mu:=fun _=>false) ?_
 repeat' (first |refine u2 ?_ |fail)
 refine af.call (jy one 98 [] _ rfl (fun n=>decide (n < lo) || decide (hi < n)) l full (by simpa using hl) (fun n _=>ru one n lo hi)) rfl rfl ?_
 skip
 refine ⟨[_],⟨Fz.deep rfl,trivial⟩,?_⟩
 rfl
def zn:UInt8→List UInt8→Bool
 | last,[]=>decide (last.toNat ≠ 45)
 | last,c :: l=>if 97≤c.toNat∧c.toNat≤122 then zn c l else if c.toNat ≠ 45∨last.toNat=45 then false else zn c l
theorem CF (last c:UInt8) (l:List UInt8):zn last (c :: l)=if 97≤c.toNat∧c.toNat≤122 then zn c l else if c.toNat ≠ 45∨last.toNat=45 then false else zn c l:=rfl
def ja (s:ByteArray):Bool:=decide (s.data.toList.length≤14) && zn 45 s.data.toList
theorem zq {s:ByteArray} {i:Nat} (h:i < s.data.toList.length):(s.get! i)=s.data.toList[i]:=by
 have:i < s.data.size:=by simpa using h
 simp only [ByteArray.get!,getElem!_pos s.data i this]
 simp
theorem Gb {s:ByteArray} {i:Nat} (h:i < s.data.toList.length) (hb:(s.data.toList[i]).toNat < 128):Utf8.decode s i=((s.data.toList[i]).toNat,1):=by
 unfold Utf8.decode
 simp only [Nat.add_zero,zq h]
 rw [if_pos hb]
theorem Gc {s:ByteArray} {i:Nat} (h:i < s.data.toList.length) (hb:128≤(s.data.toList[i]).toNat):128≤(Utf8.decode s i).1:=by
 unfold Utf8.decode
 simp only [Nat.add_zero,zq h,Utf8.runeError]
 rw [if_neg (by omega)]
 repeat' split
 all_goals simp_all
 all_goals omega
theorem HZ (one : Bool) (s : ByteArray) (hs : s.data.toList.length ≤ maxLen) : Pu one 94 [ST s] (BB (ja s)) := by
  unfold maxLen at hs
  refine af.body (fn := Tryz.f94) rfl rfl rfl rfl ?_
  refine aa (mu := fun _ => false) ?_
  skip
  refine az.aK (ai.to (l := [(0, ST s), (7, .ptr 0 0 0), (3, .fl (.int .i32 (((45 : UInt8).toNat : Nat) : Int)))]) 1 rfl ⟨rfl, rfl, rfl, trivial⟩ (Nat.zero_le _) rfl rfl) ?_
  refine az.loop (fun x : Nat × UInt8 => x.1 ≤ s.data.toList.length ∧ zn 45 s.data.toList = zn x.2 (s.data.toList.drop x.1)) (fun x => ⟨aX [(0, ST s), (7, .ptr 0 0 0), (3, .fl (.int .i32 ((x.2.toNat : Nat) : Int)))], [.dZ s x.1], bN.none, false, 0⟩) (fun x => s.data.toList.length - x.1) ?_ (0, 45) ⟨Nat.zero_le _, rfl⟩
  intro ⟨pos, last⟩ ⟨hpos, hrel⟩
  refine aa (mu := fun _ => false) ?_
  have hdrop : ∀ h : pos < s.data.toList.length, s.data.toList.drop pos = s.data.toList[pos] :: s.data.toList.drop (pos + 1) := fun h => List.drop_eq_getElem_cons h
  refine ⟨s, pos, rfl, fun hlt => ?_, fun hge => ?_⟩
  · rw [hdrop hlt] at hrel
    simp only at hrel
    generalize hc : s.data.toList[pos] = c at hrel
    have hc256 : c.toNat < 256 := c.toNat_lt
    rw [CF] at hrel
    by_cases hb : c.toNat < 128
    · have hd := Gb hlt (by rw [hc]; exact hb)
      rw [hc] at hd
      rw [hd]
      clear hd hc hdrop
      repeat' (first |(refine ⟨_, rfl, ?_⟩) |(refine bC (by assumption) ?_) |(refine bC rfl ?_) |(refine bS rfl ?_) |(refine bS (by assumption) ?_) |(refine ⟨_, _, rfl, rfl, _, rfl, rfl, ?_⟩) |(refine ⟨fun h => ?_, fun h => ?_⟩) |fail)
      all_goals first
        | (refine ⟨(pos + 1, c), ⟨hlt, ?_⟩, (by dsimp only; omega), ai.to 1 rfl ⟨rfl, rfl, rfl, trivial⟩ (Nat.zero_le _) rfl rfl⟩
           first
             | rw [hrel, if_pos (by simp at *; omega)]
             | rw [hrel, if_neg (by simp at *; omega), if_neg (by simp at *; omega)])
        | (refine ⟨[_], ⟨Fz.deep rfl, trivial⟩, Bt ?_⟩
           rw [ja, hrel, if_neg (by simp at *; omega), if_pos (by simp at *; omega)]
           simp)
    · have hd := Gc hlt (by rw [hc]; omega)
      generalize Utf8.decode s pos = d at hd
      clear hc hdrop
      repeat' (first |(refine ⟨_, rfl, ?_⟩) |(refine bC (by assumption) ?_) |(refine bC rfl ?_) |(refine bS rfl ?_) |(refine bS (by assumption) ?_) |(refine ⟨_, _, rfl, rfl, _, rfl, rfl, ?_⟩) |(refine ⟨fun h => ?_, fun h => ?_⟩) |fail)
      all_goals first
        | (exfalso; simp at *; omega)
        | (refine ⟨[_], ⟨Fz.deep rfl, trivial⟩, Bt ?_⟩
           rw [ja, hrel, if_neg (by omega), if_pos (by omega)]
           simp)
  · have hlen : pos = s.data.toList.length := by simp only at hpos; omega
    subst hlen
    simp only [List.drop_length, zn] at hrel
    repeat' (first |(refine ⟨_, rfl, ?_⟩) |(refine bC (by assumption) ?_) |(refine bS rfl ?_) |(refine bS (by assumption) ?_) |(refine ⟨_, _, rfl, rfl, _, rfl, rfl, ?_⟩) |(refine ⟨fun h => ?_, fun h => ?_⟩) |fail)
    all_goals refine ⟨[_], ⟨Fz.deep rfl, trivial⟩, Bt ?_⟩
    all_goals rw [ja, hrel, Bool.eq_iff_iff]
    all_goals simp at *
    all_goals omega
end Go.Proofs.YtalcbebjpgfnfaaGreat
open Go Go.RM
namespace Go.Proofs.YtalcbebjpgfnfaaGreat
set_option maxRecDepth 100000
def vr (a b:ByteArray):Bool:=a.toList == b.toList
def bT (n:Nat) (e:Nat→Int):Int × Int:=match (List.range n).find? (fun i=>e i != 0) with
 | some i=>((i:Int),e i)
 | none=>(0,0)
theorem gM {n k:Nat} {e:Nat→Int} (hk:k < n) (hprev:∀ i,i < k→e i=0) (h:e k ≠ 0):bT n e=((k:Int),e k):=by
 unfold bT
 have:(List.range n).find? (fun i=>e i != 0)=some k:=by
  rw [List.find?_range_eq_some]
  exact ⟨by simpa using h,by simpa using hk,fun j hj=>by simp [hprev j hj]⟩
 rw [this]
theorem eW {n:Nat} {e:Nat→Int} (hprev:∀ i,i < n→e i=0):bT n e=(0,0):=by
 unfold bT
 have:(List.range n).find? (fun i=>e i != 0)=none:=by
  rw [List.find?_eq_none]
  intro x hx
  simp [hprev x (by simpa using hx)]
 rw [this]
end Go.Proofs.YtalcbebjpgfnfaaGreat
open Go Go.RM
namespace Go.Proofs.YtalcbebjpgfnfaaGreat
set_option maxRecDepth 100000
def kM (n lo hi:Int):Bool:=decide (lo≤n) && decide (n≤hi)
theorem fm {n lo hi:Int}:kM n lo hi=true ↔ lo≤n∧n≤hi:=by simp [kM]
theorem dK (n lo hi:Int):aM lo hi [n]=!kM n lo hi:=by
 unfold aM kM
 rw [Bool.eq_iff_iff]
 simp
theorem oY (one:Bool) (n lo hi:Int):Pu one 16 [ah n,ah lo,ah hi] (BB (kM n lo hi)):=by
 refine af.body (fn:=Tryz.f16) rfl rfl rfl rfl ?_
 refine aa (mu:=fun _=>false) ?_
 repeat' (first |(refine bC (by assumption) ?_) |(refine bS (by assumption) ?_) |(refine ⟨fun h=>?_,fun h=>?_⟩) |fail)
 all_goals refine ⟨[_],⟨Fz.deep rfl,trivial⟩,Bt ?_⟩
 all_goals simp_all [kM]
 all_goals omega
theorem EO (one:Bool) (n lo hi:Int):Pu one 105 [ah n,ah lo,ah hi] (BB (kM n lo hi)):=by
 refine af.body (fn:=Tryz.f105) rfl rfl rfl rfl ?_
 refine aa (mu:=fun _=>false) ?_
 repeat' (first |(refine bC (by assumption) ?_) |(refine bS (by assumption) ?_) |(refine ⟨fun h=>?_,fun h=>?_⟩) |fail)
 all_goals refine ⟨[_],⟨Fz.deep rfl,trivial⟩,Bt ?_⟩
 all_goals simp_all [kM]
 all_goals omega
theorem zu {s:ByteArray} {k:Nat} (h:k < s.data.toList.length):cE (aA TT.P (Instr.index 9 (.string s) (.int .i64 (k:Int))))=some (.int .u8 ((s.data.toList[k].toNat:Nat):Int),.none):=by
 have hk:k < s.size:=by rwa [Array.length_toList] at h
 have e:(if (0:Int)≤(k:Int) then s[(k:Int).toNat]? else none)=some (s.data.toList[k]):=by
  rw [if_pos (by omega),Int.toNat_natCast]
  rw [getElem?_pos s k hk]
  rfl
 unfold Instr.index
 show cE (aA TT.P (match (if (0:Int)≤(k:Int) then s[(k:Int).toNat]? else none) with
  | some b=>pure (.int .u8 b.toNat)
  | none=>boundsPanic .i64 k s.size .index))=_
 rw [e]
 rfl
theorem cq {α β:Type} {f:α→β} {l:List α} {k:Nat} (h:k < l.length):(l.map f)[((k:Nat):Int).toNat]?=some (f l[k]):=by
 rw [Int.toNat_natCast,List.getElem?_map,List.getElem?_eq_getElem h]
 rfl
def mE (l:List UInt8):Nat→UInt8
 | 0=>45
 | k+1=>l[k]?.getD 45
theorem ob {l:List UInt8} {k:Nat} (h:k < l.length):mE l (k+1)=l[k]:=by
 show (l[k]?).getD 45=l[k]
 rw [List.getElem?_eq_getElem h]
 rfl
theorem H6 {l:List UInt8} {k:Nat} (h:k < l.length):zn (mE l k) (l.drop k)=if 97≤l[k].toNat∧l[k].toNat≤122 then zn (mE l (k+1)) (l.drop (k+1)) else if l[k].toNat ≠ 45∨(mE l k).toNat=45 then false else zn (mE l (k+1)) (l.drop (k+1)):=by
 rw [List.drop_eq_getElem_cons h,CF,ob h]
theorem JW {l:List UInt8} {k:Nat} (h:k+1=l.length) (h45:l[k].toNat=45):zn (mE l (k+1)) (l.drop (k+1))=false:=by
 rw [ob (by omega),h,List.drop_length]
 unfold zn
 simp [h45]
abbrev eS (s:ByteArray):List AV:=[ST s]
theorem JX (one:Bool) (names:List ByteArray) (full:Bool) (s:ByteArray) (hl:names.length≤maxLen):Pu one 62 [.sl (names.map eS) full,ST s] (ah (lE (fun x=>vr x s) names)):=by
 unfold maxLen at hl
 refine af.body (fn:=Tryz.f62) rfl rfl rfl rfl ?_
 refine aa (mu:=fun _=>false) ?_
 skip
 refine az.aK (ai.to (l:=[(0,.sl (names.map eS) full),(1,ST s),(5,ah ((0:Nat):Int))]) 0 rfl ⟨rfl,rfl,rfl,trivial⟩ (Nat.le_refl _) rfl rfl) ?_
 refine az.loop (fun k:Nat=>k≤names.length∧∀ i (h:i < names.length),i < k→vr names[i] s=false) (fun k=>⟨aX [(0,.sl (names.map eS) full),(1,ST s),(5,ah (k:Int))],[],bN.none,false,0⟩) (fun k=>names.length - k) ?_ 0 ⟨Nat.zero_le _,fun i _ hi=>absurd hi (by omega)⟩
 intro k ⟨hk,hprev⟩
 refine aa (mu:=fun _=>false) ?_
 skip
 refine ⟨fun h=>?_,fun h=>?_⟩
 ·have hlt:k < names.length:=by simpa using h
  skip
  refine ⟨eS names[k],⟨by omega,cq hlt⟩,rfl,?_⟩
  repeat' (first |refine u1 ?_ |refine u2 ?_ |fail)
  refine ⟨fun h2=>?_,fun h2=>?_⟩
  ·skip
   refine ⟨[_],⟨Fz.deep rfl,trivial⟩,aH ?_⟩
   exact (iR hlt hprev h2).symm
  ·repeat' (first |refine u2 ?_ |fail)
   refine ⟨k+1,⟨hlt,fun i hi hik=>?_⟩,(by dsimp only;omega),ai.to 0 rfl ⟨rfl,rfl,aH (by simp),trivial⟩ (Nat.le_refl _) rfl rfl⟩
   by_cases hik':i=k
   ·subst hik';exact h2
   ·exact hprev i hi (by omega)
 ·skip
  refine ⟨[_],⟨Fz.deep rfl,trivial⟩,aH ?_⟩
  have:k=names.length:=by simp at h;omega
  rw [iS fun i hi=>hprev i hi (by omega)]
theorem JY (one : Bool) (s : ByteArray) (hs : s.data.toList.length ≤ maxLen) : Pu one 61 [ST s] (BB (ja s)) := by
  unfold maxLen at hs
  refine af.body (fn := Tryz.f61) rfl rfl rfl rfl ?_
  refine aa (mu := fun _ => false) ?_
  repeat' (first |(refine af.call (EO one _ _ _) rfl rfl ?_) |fail)
  refine ⟨fun h => ?_, fun h => ?_⟩
  · skip
    refine ⟨[_], ⟨Fz.deep rfl, trivial⟩, Bt ?_⟩
    have h : ¬ (1 ≤ s.data.toList.length ∧ s.data.toList.length ≤ 14) := by
      rw [Bool.not_eq_true', ← Bool.not_eq_true, fm] at h
      omega
    unfold ja
    generalize s.data.toList = l at h
    cases l with
    | nil => simp [zn]
    | cons a l =>
      have : 0 < (a :: l).length := Nat.succ_pos _
      rw [decide_eq_false (by omega)]
      rfl
  · have h : 1 ≤ s.data.toList.length ∧ s.data.toList.length ≤ 14 := by
      rw [Bool.not_eq_false', fm] at h
      omega
    have hn : ja s = zn 45 s.data.toList := by
      unfold ja
      rw [decide_eq_true h.2, Bool.true_and]
    skip
    refine az.aK (ai.to (l := [(0, ST s), (3, ah ((0 : Nat) : Int))]) 0 rfl ⟨rfl, rfl, trivial⟩ (Nat.le_refl _) rfl rfl) ?_
    refine az.loop (fun k : Nat => k ≤ s.data.toList.length ∧ ja s = zn (mE s.data.toList k) (s.data.toList.drop k) ∧ (k = s.data.toList.length → (mE s.data.toList k).toNat ≠ 45)) (fun k => ⟨aX [(0, ST s), (3, ah (k : Int))], [], bN.none, false, 0⟩) (fun k => s.data.toList.length - k) ?_ 0 ⟨Nat.zero_le _, hn, fun h0 => by omega⟩
    intro k ⟨hk, hrel, hlast⟩
    refine aa (mu := fun _ => false) ?_
    skip
    refine ⟨fun h => ?_, fun h => ?_⟩
    · have hlt : k < s.data.toList.length := by rw [decide_eq_true_eq] at h; omega
      rw [H6 hlt] at hrel
      have hix := zu hlt
      generalize hc : s.data.toList[k] = c at hrel hix
      have hix1 : 0 < k → cE (aA TT.P (Instr.index 9 (.string s) (.int .i64 ((k : Int) - 1)))) = some (.int .u8 (((mE s.data.toList k).toNat : Nat) : Int), .none) := by
        intro h0
        obtain ⟨m, rfl⟩ : ∃ m, k = m + 1 := ⟨k - 1, by omega⟩
        rw [ob (by omega), show (((m + 1 : Nat) : Int) - 1) = ((m : Nat) : Int) from by omega]
        exact zu (by omega)
      have hl0 : k = 0 → (mE s.data.toList k).toNat = 45 := by
        rintro rfl
        rfl
      have hend : k + 1 = s.data.toList.length → c.toNat = 45 → zn (mE s.data.toList (k + 1)) (s.data.toList.drop (k + 1)) = false := fun h1 h2 => JW h1 (by rw [hc]; exact h2)
      have hsucc : mE s.data.toList (k + 1) = c := by rw [ob hlt, hc]
      clear hc hn hlast
      generalize mE s.data.toList k = d at hrel hix1 hl0
      generalize hr : zn (mE s.data.toList (k + 1)) (s.data.toList.drop (k + 1)) = r at hrel hend
      repeat' (first |(refine bC (by assumption) ?_) |(refine bC rfl ?_) |(refine bS rfl ?_) |(refine bS (by assumption) ?_) |(refine And.intro (by omega) ?_) |(refine ⟨_, _, rfl, rfl, _, rfl, rfl, ?_⟩) |(refine ⟨_, _, rfl, rfl, _, hix, rfl, ?_⟩) |(refine ⟨_, _, rfl, rfl, _, hix1 (by rcases Nat.eq_zero_or_pos k with h0 | h0; (exfalso; simp_all); exact h0), rfl, ?_⟩) |(refine ⟨fun h => ?_, fun h => ?_⟩) |fail)
      all_goals first
        | (refine ⟨k + 1, ⟨hlt, ?_, fun h1 => by rw [hsucc]; clear hix hix1 hr hsucc; simp at *; omega⟩, (by dsimp only; omega), ai.to 0 rfl ⟨rfl, aH (by simp), trivial⟩ (Nat.le_refl _) rfl rfl⟩
           rw [hr]
           first
             | rw [hrel, if_pos (by simp at *; omega)]
             | rw [hrel, if_neg (by simp at *; omega), if_neg (by simp at *; omega)])
        | (refine ⟨[_], ⟨Fz.deep rfl, trivial⟩, Bt ?_⟩
           rw [hrel, if_neg (by simp at *; omega)]
           split
           · rfl
           · exact (hend (by simp at *; omega) (by simp at *; omega)).symm)
    · skip
      refine ⟨[_], ⟨Fz.deep rfl, trivial⟩, Bt ?_⟩
      have : k = s.data.toList.length := by rw [decide_eq_false_iff_not] at h; omega
      rw [hrel, this, List.drop_length]
      have := hlast this
      rw [‹k = s.data.toList.length›] at this
      unfold zn
      simp only [ne_eq, this, not_false_eq_true, decide_true]
end Go.Proofs.YtalcbebjpgfnfaaGreat
