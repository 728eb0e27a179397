/-
  Contracts of the program's functions and of the document's. Lemmas alone; their conditions stand in them.
-/
import Derived.Test.YtgdbfbalchdmcaaGreatR2
import Derived.Test.YtgdbfbalchdmcaaGreatR4
import Derived.Test.YtgdbfbalchdmcaaGreatA2
import Derived.Test.YtgdbfbalchdmcaaGreatA3
import Derived.Test.YtgdbfbalchdmcaaGreatT1
open Go Go.RM
namespace Go.Proofs.YtgdbfbalchdmcaaGreat
set_option maxRecDepth 100000
abbrev ak (n:Int):AV:=.fl (.int .i64 n)
abbrev BB (b:Bool):AV:=.fl (.bool b)
abbrev ST (s:ByteArray):AV:=.fl (.string s)
abbrev eI (n:Int):List AV:=[ak n]
abbrev ints (l:List Int):List (List AV):=l.map eI
def OV:XE:=⟨7,[],[],.bool true,[]⟩
def Nv:XE:=⟨6,[],[],.bool true,[]⟩
def TB:List XE:=[OV,Nv]
abbrev Pu (one:Bool) (f:FuncId) (args:List AV) (v:AV):Prop:=af TT TB one (.fn f [] []) args v
def qw {α:Type} (p:α→Bool) (l:List α):Int:=match l.findIdx? p with
 | some i=>(i:Int)
 | none=>-1
theorem jm {α:Type} {p:α→Bool} {l:List α} {k:Nat} (hk:k < l.length) (hprev:∀ i (h:i < l.length),i < k→p l[i]=false) (hp:p l[k]=true):qw p l=k:=by
 unfold qw
 have:l.findIdx? p=some k:=by
  rw [List.findIdx?_eq_some_iff_getElem]
  exact ⟨hk,hp,fun j hj=>by simp [hprev j (by omega) hj]⟩
 rw [this]
theorem jn {α:Type} {p:α→Bool} {l:List α} (hprev:∀ i (h:i < l.length),p l[i]=false):qw p l=-1:=by
 unfold qw
 have:l.findIdx? p=none:=by
  rw [List.findIdx?_eq_none_iff]
  intro x hx
  obtain ⟨i,hi,rfl⟩:=List.getElem_of_mem hx
  exact hprev i hi
 rw [this]
theorem m7 {α:Type} (p:α→Bool) (l:List α):decide (0≤qw p l)=l.any p:=by
 unfold qw
 cases h:l.findIdx? p with
 | some i =>
  rw [List.findIdx?_eq_some_iff_getElem] at h
  obtain ⟨h1,h2,_⟩:=h
  simp only [Int.natCast_nonneg,decide_true]
  symm
  rw [List.any_eq_true]
  exact ⟨_,List.getElem_mem h1,h2⟩
 | none =>
  rw [List.findIdx?_eq_none_iff] at h
  simp
  intro x hx;exact h x hx
theorem cK (n:Nat):∀ (v:AV),v.deep=true→v.gM n=true:=by
 apply AV.rec (motive_1:=fun v=>v.deep=true→v.gM n=true) (motive_2:=fun _=>True) (motive_3:=fun l=>bU l=true→lP n l=true)
 ·intro v _;rfl
 ·intro a b _ _;rfl
 ·intro a b _ _;rfl
 ·intro f a b ha hb h
  simp only [AV.deep,Bool.and_eq_true] at h
  simp only [AV.gM,Bool.and_eq_true]
  exact ⟨ha h.1,hb h.2⟩
 ·intro a ha h
  simp only [AV.deep] at h
  simp only [AV.gM]
  exact ha h
 ·intro a ha h
  simp only [AV.deep] at h
  simp only [AV.gM]
  exact ha h
 ·intro j v o h;simp [AV.deep] at h
 ·intro j v o n c h;simp [AV.deep] at h
 ·intro j h;simp [AV.deep] at h
 ·intro u _;rfl
 ·intro h;simp [AV.deep] at h
 ·trivial
 ·intros;trivial
 ·intro _;rfl
 ·intro a l ha hl h
  simp only [bU,Bool.and_eq_true] at h
  simp only [lP,Bool.and_eq_true]
  exact ⟨ha h.1,hl h.2⟩
theorem fq {n:Nat} {v:Value}:(AV.fl v).gM n=true:=rfl
theorem gB {n:Nat} {a:List (List AV)} {b:Bool}:(AV.sl a b).gM n=true:=rfl
theorem aJ {a b:Int} (h:a=b):AV.fl (.int .i64 a)=AV.fl (.int .i64 b):=by rw [h]
theorem F6 {a b:Bool} (h:a=b):AV.fl (.bool a)=AV.fl (.bool b):=by rw [h]
theorem sF (one:Bool) (n lo hi:Int):af TT TB one (.fn 128 [] [.pt [ak lo] 0,.pt [ak hi] 0]) [ak n] (BB (decide (n < lo) || decide (hi < n))):=by
 refine af.body (fn:=Tryz.f128) rfl rfl rfl rfl ?_
 refine aa (mu:=fun _=>false) ?_
 repeat' (first |(refine ⟨_,rfl,?_⟩) |(refine bJ (by assumption) ?_) |(refine cu (by assumption) ?_) |(refine ⟨fun h=>?_,fun h=>?_⟩) |fail)
 all_goals refine ⟨[_],⟨Fz.deep rfl,trivial⟩,?_⟩
 all_goals simp_all [mL]
theorem zJ (one:Bool) (g:FuncId) (fs cs:List AV) (hF:(AV.fn g fs cs).deep=true) (p:Int→Bool) (l:List Int) (full:Bool) (hl:l.length≤maxLen) (hp:∀ n ∈ l,af TT TB one (.fn g fs cs) [ak n] (BB (p n))) :
  Pu one 84 [.sl (ints l) full,.fn g fs cs] (ak (qw p l)):=by
 unfold maxLen at hl
 refine af.body (fn:=Tryz.f84) rfl rfl rfl rfl ?_
 refine aa (mu:=fun _=>false) ?_
 skip
 refine aG.aU (aj.to (l:=[(0,.sl (ints l) full),(1,.fn g fs cs),(7,ak l.length),(8,ak ((0:Nat):Int))]) 0 rfl ⟨rfl,rfl,aJ (by simp),rfl,trivial⟩ (Nat.le_refl _) (by simp [fq,gB,cK 0 _ hF]) rfl) ?_
 refine aG.loop (fun k:Nat=>k≤l.length∧∀ i (h:i < l.length),i < k→p l[i]=false) (fun k=>⟨bT [(0,.sl (ints l) full),(1,.fn g fs cs),(7,ak l.length),(8,ak (k:Int))],[],bW.none,false,0⟩) (fun k=>l.length - k) ?_ 0 ⟨Nat.zero_le _,fun i _ hi=>absurd hi (by omega)⟩
 intro k ⟨hk,hprev⟩
 refine aa (mu:=fun _=>false) ?_
 refine ⟨fun h=>?_,fun h=>?_⟩
 ·have hlt:k < l.length:=by simpa using h
  refine ⟨[ak l[k]],⟨by omega,by simp [hlt]⟩,rfl,?_⟩
  repeat' (first |refine u1 ?_ |fail)
  refine af.call (hp l[k] (List.getElem_mem _)) hF rfl ?_
  refine ⟨fun h2=>?_,fun h2=>?_⟩
  ·refine ⟨[_],⟨Fz.deep rfl,trivial⟩,?_⟩
   rw [jm hlt hprev h2];rfl
  ·repeat' (first |refine u2 ?_ |fail)
   refine ⟨k+1,⟨hlt,fun i hi hik=>?_⟩,(by dsimp only;omega),aj.to 0 rfl ⟨rfl,rfl,rfl,aJ (by simp),trivial⟩ (Nat.le_refl _) (by simp [fq,gB,cK 0 _ hF]) rfl⟩
   by_cases hik':i=k
   ·subst hik';exact h2
   ·exact hprev i hi (by omega)
 ·skip
  refine ⟨[_],⟨Fz.deep rfl,trivial⟩,?_⟩
  have:k=l.length:=by simp at h;omega
  rw [jn fun i hi=>hprev i hi (by omega)];rfl
end Go.Proofs.YtgdbfbalchdmcaaGreat
open Go Go.RM
namespace Go.Proofs.YtgdbfbalchdmcaaGreat
set_option maxRecDepth 100000
structure gL where
 name:ByteArray
 IZ:Int
 leave:Int
 I2:Int
 oS:Int
structure pO where
 name:ByteArray
 ny:Int
 i4:Int
 EZ:Bool
structure aH where
 aI:List gL
 ah:List pO
 least:Int
abbrev cm (r:gL):List AV:=[ST r.name,ak r.IZ,ak r.leave,ak r.I2,ak r.oS]
abbrev cL (m:pO):List AV:=[ST m.name,ak m.ny,ak m.i4,BB m.EZ]
abbrev bh (c:aH):List AV:=[.sl (c.aI.map cm) false,.sl (c.ah.map cL) false,ak c.least]
theorem uT (one:Bool) (g:FuncId) (fs cs:List AV) (hF:(AV.fn g fs cs).deep=true) (p:Int→Bool) (l:List Int) (full:Bool) (hl:l.length≤maxLen) (hp:∀ x ∈ l,af TT TB one (.fn g fs cs) [ak x] (BB (p x))) :
  Pu one 100 [.sl (l.map eI) full,.fn g fs cs] (BB (l.any p)):=by
 refine af.body (fn:=Tryz.f100) rfl rfl rfl rfl ?_
 refine aa (mu:=fun _=>false) ?_
 skip
 refine af.call (zJ one g fs cs hF p l full hl hp) rfl (by simp only [bU,AV.deep,Bool.and_true,Bool.true_and];exact hF) ?_
 skip
 refine ⟨[_],⟨Fz.deep rfl,trivial⟩,?_⟩
 rw [←m7];rfl
theorem yx (one:Bool) (g:FuncId) (fs cs:List AV) (hF:(AV.fn g fs cs).deep=true) (p:gL→Bool) (l:List gL) (full:Bool) (hl:l.length≤maxLen) (hp:∀ x ∈ l,af TT TB one (.fn g fs cs) [.ag (cm x)] (BB (p x))) :
  Pu one 171 [.sl (l.map cm) full,.fn g fs cs] (ak (qw p l)):=by
 unfold maxLen at hl
 refine af.body (fn:=Tryz.f171) rfl rfl rfl rfl ?_
 refine aa (mu:=fun _=>false) ?_
 skip
 refine aG.aU (aj.to (l:=[(0,.sl (l.map cm) full),(1,.fn g fs cs),(7,ak l.length),(8,ak ((0:Nat):Int))]) 0 rfl ⟨rfl,rfl,aJ (by simp),rfl,trivial⟩ (Nat.le_refl _) (by simp [fq,gB,cK 0 _ hF]) rfl) ?_
 refine aG.loop (fun k:Nat=>k≤l.length∧∀ i (h:i < l.length),i < k→p l[i]=false) (fun k=>⟨bT [(0,.sl (l.map cm) full),(1,.fn g fs cs),(7,ak l.length),(8,ak (k:Int))],[],bW.none,false,0⟩) (fun k=>l.length - k) ?_ 0 ⟨Nat.zero_le _,fun i _ hi=>absurd hi (by omega)⟩
 intro k ⟨hk,hprev⟩
 refine aa (mu:=fun _=>false) ?_
 refine ⟨fun h=>?_,fun h=>?_⟩
 ·have hlt:k < l.length:=by simpa using h
  skip
  refine ⟨cm l[k],⟨by omega,by simp [hlt]⟩,rfl,?_⟩
  repeat' (first |refine u2 ?_ |fail)
  refine af.call (hp l[k] (List.getElem_mem _)) hF rfl ?_
  refine ⟨fun h2=>?_,fun h2=>?_⟩
  ·skip
   refine ⟨[_],⟨Fz.deep rfl,trivial⟩,?_⟩
   rw [jm hlt hprev h2];rfl
  ·repeat' (first |refine u2 ?_ |fail)
   refine ⟨k+1,⟨hlt,fun i hi hik=>?_⟩,(by dsimp only;omega),aj.to 0 rfl ⟨rfl,rfl,rfl,aJ (by simp),trivial⟩ (Nat.le_refl _) (by simp [fq,gB,cK 0 _ hF]) rfl⟩
   by_cases hik':i=k
   ·subst hik';exact h2
   ·exact hprev i hi (by omega)
 ·skip
  refine ⟨[_],⟨Fz.deep rfl,trivial⟩,?_⟩
  have:k=l.length:=by simp at h;omega
  rw [jn fun i hi=>hprev i hi (by omega)];rfl
theorem iB (one:Bool) (g:FuncId) (fs cs:List AV) (hF:(AV.fn g fs cs).deep=true) (p:gL→Bool) (l:List gL) (full:Bool) (hl:l.length≤maxLen) (hp:∀ x ∈ l,af TT TB one (.fn g fs cs) [.ag (cm x)] (BB (p x))) :
  Pu one 152 [.sl (l.map cm) full,.fn g fs cs] (BB (l.any p)):=by
 refine af.body (fn:=Tryz.f152) rfl rfl rfl rfl ?_
 refine aa (mu:=fun _=>false) ?_
 skip
 refine af.call (yx one g fs cs hF p l full hl hp) rfl (by simp only [bU,AV.deep,Bool.and_true,Bool.true_and];exact hF) ?_
 skip
 refine ⟨[_],⟨Fz.deep rfl,trivial⟩,?_⟩
 rw [←m7];rfl
theorem yy (one:Bool) (g:FuncId) (fs cs:List AV) (hF:(AV.fn g fs cs).deep=true) (p:pO→Bool) (l:List pO) (full:Bool) (hl:l.length≤maxLen) (hp:∀ x ∈ l,af TT TB one (.fn g fs cs) [.ag (cL x)] (BB (p x))) :
  Pu one 172 [.sl (l.map cL) full,.fn g fs cs] (ak (qw p l)):=by
 unfold maxLen at hl
 refine af.body (fn:=Tryz.f172) rfl rfl rfl rfl ?_
 refine aa (mu:=fun _=>false) ?_
 skip
 refine aG.aU (aj.to (l:=[(0,.sl (l.map cL) full),(1,.fn g fs cs),(7,ak l.length),(8,ak ((0:Nat):Int))]) 0 rfl ⟨rfl,rfl,aJ (by simp),rfl,trivial⟩ (Nat.le_refl _) (by simp [fq,gB,cK 0 _ hF]) rfl) ?_
 refine aG.loop (fun k:Nat=>k≤l.length∧∀ i (h:i < l.length),i < k→p l[i]=false) (fun k=>⟨bT [(0,.sl (l.map cL) full),(1,.fn g fs cs),(7,ak l.length),(8,ak (k:Int))],[],bW.none,false,0⟩) (fun k=>l.length - k) ?_ 0 ⟨Nat.zero_le _,fun i _ hi=>absurd hi (by omega)⟩
 intro k ⟨hk,hprev⟩
 refine aa (mu:=fun _=>false) ?_
 refine ⟨fun h=>?_,fun h=>?_⟩
 ·have hlt:k < l.length:=by simpa using h
  skip
  refine ⟨cL l[k],⟨by omega,by simp [hlt]⟩,rfl,?_⟩
  repeat' (first |refine u2 ?_ |fail)
  refine af.call (hp l[k] (List.getElem_mem _)) hF rfl ?_
  refine ⟨fun h2=>?_,fun h2=>?_⟩
  ·skip
   refine ⟨[_],⟨Fz.deep rfl,trivial⟩,?_⟩
   rw [jm hlt hprev h2];rfl
  ·repeat' (first |refine u2 ?_ |fail)
   refine ⟨k+1,⟨hlt,fun i hi hik=>?_⟩,(by dsimp only;omega),aj.to 0 rfl ⟨rfl,rfl,rfl,aJ (by simp),trivial⟩ (Nat.le_refl _) (by simp [fq,gB,cK 0 _ hF]) rfl⟩
   by_cases hik':i=k
   ·subst hik';exact h2
   ·exact hprev i hi (by omega)
 ·skip
  refine ⟨[_],⟨Fz.deep rfl,trivial⟩,?_⟩
  have:k=l.length:=by simp at h;omega
  rw [jn fun i hi=>hprev i hi (by omega)];rfl
theorem tQ (one:Bool) (g:FuncId) (fs cs:List AV) (hF:(AV.fn g fs cs).deep=true) (p:pO→Bool) (l:List pO) (full:Bool) (hl:l.length≤maxLen) (hp:∀ x ∈ l,af TT TB one (.fn g fs cs) [.ag (cL x)] (BB (p x))) :
  Pu one 154 [.sl (l.map cL) full,.fn g fs cs] (BB (l.any p)):=by
 refine af.body (fn:=Tryz.f154) rfl rfl rfl rfl ?_
 refine aa (mu:=fun _=>false) ?_
 skip
 refine af.call (yy one g fs cs hF p l full hl hp) rfl (by simp only [bU,AV.deep,Bool.and_true,Bool.true_and];exact hF) ?_
 skip
 refine ⟨[_],⟨Fz.deep rfl,trivial⟩,?_⟩
 rw [←m7];rfl
end Go.Proofs.YtgdbfbalchdmcaaGreat
open Go Go.RM
namespace Go.Proofs.YtgdbfbalchdmcaaGreat
set_option maxRecDepth 100000
def bH (lo hi:Int) (l:List Int):Bool:=l.any fun n=>decide (n < lo) || decide (hi < n)
def I3:List AV→Int
 | [.fl (.int _ n)]=>n
 | _=>0
def OG:List AV→Bool
 | [.fl (.int .i64 _)]=>true
 | _=>false
theorem allI:∀ {els:List (List AV)},els.all OG=true→els=ints (els.map I3)
 | [],_=>rfl
 | el :: els,h=>by
  simp only [List.all_cons,Bool.and_eq_true] at h
  have ih:=allI h.2
  have:el=eI (I3 el):=by
   have h1:=h.1
   unfold OG at h1
   split at h1
   ·rfl
   ·cases h1
  show el :: els=eI (I3 el) :: ints (els.map I3)
  rw [←this,←ih]
theorem jo (one:Bool) (lo hi:Int) (els:List (List AV)) (full:Bool) (h:els.all OG=true) (hl:els.length≤maxLen):Pu one 75 [ak lo,ak hi,.sl els full] (BB (bH lo hi (els.map I3))):=by
 obtain ⟨l,hl'⟩:∃ l,els.map I3=l:=⟨_,rfl⟩
 have he:els=ints l:=by rw [←hl'];exact allI h
 rw [hl']
 subst he
 refine af.body (fn:=Tryz.f75) rfl rfl rfl rfl ?_
 refine aa (mu:=fun _=>false) ?_
 repeat' (first |refine u2 ?_ |fail)
 refine af.call (uT one 128 [] _ rfl (fun n=>decide (n < lo) || decide (hi < n)) l full (by simpa using hl) (fun n _=>sF one n lo hi)) rfl rfl ?_
 skip
 refine ⟨[_],⟨Fz.deep rfl,trivial⟩,?_⟩
 rfl
def Aj:UInt8→List UInt8→Bool
 | last,[]=>decide (last.toNat ≠ 45)
 | last,c :: l=>if 97≤c.toNat∧c.toNat≤122 then Aj c l else if c.toNat ≠ 45∨last.toNat=45 then false else Aj c l
theorem Ds (last c:UInt8) (l:List UInt8):Aj last (c :: l)=if 97≤c.toNat∧c.toNat≤122 then Aj c l else if c.toNat ≠ 45∨last.toNat=45 then false else Aj c l:=rfl
def jq (s:ByteArray):Bool:=decide (s.data.toList.length≤14) && Aj 45 s.data.toList
theorem Ak {s:ByteArray} {i:Nat} (h:i < s.data.toList.length):(s.get! i)=s.data.toList[i]:=by
 have:i < s.data.size:=by simpa using h
 simp only [ByteArray.get!,getElem!_pos s.data i this]
 simp
theorem Hf {s:ByteArray} {i:Nat} (h:i < s.data.toList.length) (hb:(s.data.toList[i]).toNat < 128):Utf8.decode s i=((s.data.toList[i]).toNat,1):=by
 unfold Utf8.decode
 simp only [Nat.add_zero,Ak h]
 rw [if_pos hb]
theorem Hg {s:ByteArray} {i:Nat} (h:i < s.data.toList.length) (hb:128≤(s.data.toList[i]).toNat):128≤(Utf8.decode s i).1:=by
 unfold Utf8.decode
 simp only [Nat.add_zero,Ak h,Utf8.runeError]
 rw [if_neg (by omega)]
 repeat' split
 all_goals simp_all
 all_goals omega
theorem E6 (one : Bool) (s : ByteArray) (hs : s.data.toList.length ≤ maxLen) : Pu one 135 [ST s] (BB (jq s)) := by
  unfold maxLen at hs
  refine af.body (fn := Tryz.f135) rfl rfl rfl rfl ?_
  refine aa (mu := fun _ => false) ?_
  skip
  refine aG.aU (aj.to (l := [(0, ST s), (7, .ptr 0 0 0), (3, .fl (.int .i32 (((45 : UInt8).toNat : Nat) : Int)))]) 1 rfl ⟨rfl, rfl, rfl, trivial⟩ (Nat.zero_le _) rfl rfl) ?_
  refine aG.loop (fun x : Nat × UInt8 => x.1 ≤ s.data.toList.length ∧ Aj 45 s.data.toList = Aj x.2 (s.data.toList.drop x.1)) (fun x => ⟨bT [(0, ST s), (7, .ptr 0 0 0), (3, .fl (.int .i32 ((x.2.toNat : Nat) : Int)))], [.eF s x.1], bW.none, false, 0⟩) (fun x => s.data.toList.length - x.1) ?_ (0, 45) ⟨Nat.zero_le _, rfl⟩
  intro ⟨pos, last⟩ ⟨hpos, hrel⟩
  refine aa (mu := fun _ => false) ?_
  have hdrop : ∀ h : pos < s.data.toList.length, s.data.toList.drop pos = s.data.toList[pos] :: s.data.toList.drop (pos + 1) := fun h => List.drop_eq_getElem_cons h
  refine ⟨s, pos, rfl, fun hlt => ?_, fun hge => ?_⟩
  · rw [hdrop hlt] at hrel
    simp only at hrel
    generalize hc : s.data.toList[pos] = c at hrel
    have hc256 : c.toNat < 256 := c.toNat_lt
    rw [Ds] at hrel
    by_cases hb : c.toNat < 128
    · have hd := Hf hlt (by rw [hc]; exact hb)
      rw [hc] at hd
      rw [hd]
      clear hd hc hdrop
      repeat' (first |(refine ⟨_, rfl, ?_⟩) |(refine bJ (by assumption) ?_) |(refine bJ rfl ?_) |(refine cu rfl ?_) |(refine cu (by assumption) ?_) |(refine ⟨_, _, rfl, rfl, _, rfl, rfl, ?_⟩) |(refine ⟨fun h => ?_, fun h => ?_⟩) |fail)
      all_goals first
        | (refine ⟨(pos + 1, c), ⟨hlt, ?_⟩, (by dsimp only; omega), aj.to 1 rfl ⟨rfl, rfl, rfl, trivial⟩ (Nat.zero_le _) rfl rfl⟩
           first
             | rw [hrel, if_pos (by simp at *; omega)]
             | rw [hrel, if_neg (by simp at *; omega), if_neg (by simp at *; omega)])
        | (refine ⟨[_], ⟨Fz.deep rfl, trivial⟩, F6 ?_⟩
           rw [jq, hrel, if_neg (by simp at *; omega), if_pos (by simp at *; omega)]
           simp)
    · have hd := Hg hlt (by rw [hc]; omega)
      generalize Utf8.decode s pos = d at hd
      clear hc hdrop
      repeat' (first |(refine ⟨_, rfl, ?_⟩) |(refine bJ (by assumption) ?_) |(refine bJ rfl ?_) |(refine cu rfl ?_) |(refine cu (by assumption) ?_) |(refine ⟨_, _, rfl, rfl, _, rfl, rfl, ?_⟩) |(refine ⟨fun h => ?_, fun h => ?_⟩) |fail)
      all_goals first
        | (exfalso; simp at *; omega)
        | (refine ⟨[_], ⟨Fz.deep rfl, trivial⟩, F6 ?_⟩
           rw [jq, hrel, if_neg (by omega), if_pos (by omega)]
           simp)
  · have hlen : pos = s.data.toList.length := by simp only at hpos; omega
    subst hlen
    simp only [List.drop_length, Aj] at hrel
    repeat' (first |(refine ⟨_, rfl, ?_⟩) |(refine bJ (by assumption) ?_) |(refine cu rfl ?_) |(refine cu (by assumption) ?_) |(refine ⟨_, _, rfl, rfl, _, rfl, rfl, ?_⟩) |(refine ⟨fun h => ?_, fun h => ?_⟩) |fail)
    all_goals refine ⟨[_], ⟨Fz.deep rfl, trivial⟩, F6 ?_⟩
    all_goals rw [jq, hrel, Bool.eq_iff_iff]
    all_goals simp at *
    all_goals omega
end Go.Proofs.YtgdbfbalchdmcaaGreat
open Go Go.RM
namespace Go.Proofs.YtgdbfbalchdmcaaGreat
set_option maxRecDepth 100000
def tR (a b:ByteArray):Bool:=a.toList == b.toList
def bq (n:Nat) (e:Nat→Int):Int × Int:=match (List.range n).find? (fun i=>e i != 0) with
 | some i=>((i:Int),e i)
 | none=>(0,0)
theorem fj {n k:Nat} {e:Nat→Int} (hk:k < n) (hprev:∀ i,i < k→e i=0) (h:e k ≠ 0):bq n e=((k:Int),e k):=by
 unfold bq
 have:(List.range n).find? (fun i=>e i != 0)=some k:=by
  rw [List.find?_range_eq_some]
  exact ⟨by simpa using h,by simpa using hk,fun j hj=>by simp [hprev j hj]⟩
 rw [this]
theorem dS {n:Nat} {e:Nat→Int} (hprev:∀ i,i < n→e i=0):bq n e=(0,0):=by
 unfold bq
 have:(List.range n).find? (fun i=>e i != 0)=none:=by
  rw [List.find?_eq_none]
  intro x hx
  simp [hprev x (by simpa using hx)]
 rw [this]
end Go.Proofs.YtgdbfbalchdmcaaGreat
open Go Go.RM
namespace Go.Proofs.YtgdbfbalchdmcaaGreat
set_option maxRecDepth 100000
def gY (n lo hi:Int):Bool:=decide (lo≤n) && decide (n≤hi)
theorem bQ {n lo hi:Int}:gY n lo hi=true ↔ lo≤n∧n≤hi:=by simp [gY]
theorem bp (n lo hi:Int):bH lo hi [n]=!gY n lo hi:=by
 unfold bH gY
 rw [Bool.eq_iff_iff]
 simp
theorem gC (one:Bool) (n lo hi:Int):Pu one 47 [ak n,ak lo,ak hi] (BB (gY n lo hi)):=by
 refine af.body (fn:=Tryz.f47) rfl rfl rfl rfl ?_
 refine aa (mu:=fun _=>false) ?_
 repeat' (first |(refine bJ (by assumption) ?_) |(refine cu (by assumption) ?_) |(refine ⟨fun h=>?_,fun h=>?_⟩) |fail)
 all_goals refine ⟨[_],⟨Fz.deep rfl,trivial⟩,F6 ?_⟩
 all_goals simp_all [gY]
 all_goals omega
theorem KL (one:Bool) (n lo hi:Int):Pu one 134 [ak n,ak lo,ak hi] (BB (gY n lo hi)):=by
 refine af.body (fn:=Tryz.f134) rfl rfl rfl rfl ?_
 refine aa (mu:=fun _=>false) ?_
 repeat' (first |(refine bJ (by assumption) ?_) |(refine cu (by assumption) ?_) |(refine ⟨fun h=>?_,fun h=>?_⟩) |fail)
 all_goals refine ⟨[_],⟨Fz.deep rfl,trivial⟩,F6 ?_⟩
 all_goals simp_all [gY]
 all_goals omega
theorem Al {s:ByteArray} {k:Nat} (h:k < s.data.toList.length):cZ (aD TT.P (Instr.index 9 (.string s) (.int .i64 (k:Int))))=some (.int .u8 ((s.data.toList[k].toNat:Nat):Int),.none):=by
 have hk:k < s.size:=by rwa [Array.length_toList] at h
 have e:(if (0:Int)≤(k:Int) then s[(k:Int).toNat]? else none)=some (s.data.toList[k]):=by
  rw [if_pos (by omega),Int.toNat_natCast]
  rw [getElem?_pos s k hk]
  rfl
 unfold Instr.index
 show cZ (aD TT.P (match (if (0:Int)≤(k:Int) then s[(k:Int).toNat]? else none) with
  | some b=>pure (.int .u8 b.toNat)
  | none=>boundsPanic .i64 k s.size .index))=_
 rw [e]
 rfl
theorem bP {α β:Type} {f:α→β} {l:List α} {k:Nat} (h:k < l.length):(l.map f)[((k:Nat):Int).toNat]?=some (f l[k]):=by
 rw [Int.toNat_natCast,List.getElem?_map,List.getElem?_eq_getElem h]
 rfl
def m8 (l:List UInt8):Nat→UInt8
 | 0=>45
 | k+1=>l[k]?.getD 45
theorem oT {l:List UInt8} {k:Nat} (h:k < l.length):m8 l (k+1)=l[k]:=by
 show (l[k]?).getD 45=l[k]
 rw [List.getElem?_eq_getElem h]
 rfl
theorem I4 {l:List UInt8} {k:Nat} (h:k < l.length):Aj (m8 l k) (l.drop k)=if 97≤l[k].toNat∧l[k].toNat≤122 then Aj (m8 l (k+1)) (l.drop (k+1)) else if l[k].toNat ≠ 45∨(m8 l k).toNat=45 then false else Aj (m8 l (k+1)) (l.drop (k+1)):=by
 rw [List.drop_eq_getElem_cons h,Ds,oT h]
theorem KM {l:List UInt8} {k:Nat} (h:k+1=l.length) (h45:l[k].toNat=45):Aj (m8 l (k+1)) (l.drop (k+1))=false:=by
 rw [oT (by omega),h,List.drop_length]
 unfold Aj
 simp [h45]
abbrev eS (s:ByteArray):List AV:=[ST s]
theorem KN (one:Bool) (names:List ByteArray) (full:Bool) (s:ByteArray) (hl:names.length≤maxLen):Pu one 89 [.sl (names.map eS) full,ST s] (ak (qw (fun x=>tR x s) names)):=by
 unfold maxLen at hl
 refine af.body (fn:=Tryz.f89) rfl rfl rfl rfl ?_
 refine aa (mu:=fun _=>false) ?_
 skip
 refine aG.aU (aj.to (l:=[(0,.sl (names.map eS) full),(1,ST s),(5,ak ((0:Nat):Int))]) 0 rfl ⟨rfl,rfl,rfl,trivial⟩ (Nat.le_refl _) rfl rfl) ?_
 refine aG.loop (fun k:Nat=>k≤names.length∧∀ i (h:i < names.length),i < k→tR names[i] s=false) (fun k=>⟨bT [(0,.sl (names.map eS) full),(1,ST s),(5,ak (k:Int))],[],bW.none,false,0⟩) (fun k=>names.length - k) ?_ 0 ⟨Nat.zero_le _,fun i _ hi=>absurd hi (by omega)⟩
 intro k ⟨hk,hprev⟩
 refine aa (mu:=fun _=>false) ?_
 skip
 refine ⟨fun h=>?_,fun h=>?_⟩
 ·have hlt:k < names.length:=by simpa using h
  skip
  refine ⟨eS names[k],⟨by omega,bP hlt⟩,rfl,?_⟩
  repeat' (first |refine u1 ?_ |refine u2 ?_ |fail)
  refine ⟨fun h2=>?_,fun h2=>?_⟩
  ·skip
   refine ⟨[_],⟨Fz.deep rfl,trivial⟩,aJ ?_⟩
   exact (jm hlt hprev h2).symm
  ·repeat' (first |refine u2 ?_ |fail)
   refine ⟨k+1,⟨hlt,fun i hi hik=>?_⟩,(by dsimp only;omega),aj.to 0 rfl ⟨rfl,rfl,aJ (by simp),trivial⟩ (Nat.le_refl _) rfl rfl⟩
   by_cases hik':i=k
   ·subst hik';exact h2
   ·exact hprev i hi (by omega)
 ·skip
  refine ⟨[_],⟨Fz.deep rfl,trivial⟩,aJ ?_⟩
  have:k=names.length:=by simp at h;omega
  rw [jn fun i hi=>hprev i hi (by omega)]
theorem KO (one : Bool) (s : ByteArray) (hs : s.data.toList.length ≤ maxLen) : Pu one 88 [ST s] (BB (jq s)) := by
  unfold maxLen at hs
  refine af.body (fn := Tryz.f88) rfl rfl rfl rfl ?_
  refine aa (mu := fun _ => false) ?_
  repeat' (first |(refine af.call (KL one _ _ _) rfl rfl ?_) |fail)
  refine ⟨fun h => ?_, fun h => ?_⟩
  · skip
    refine ⟨[_], ⟨Fz.deep rfl, trivial⟩, F6 ?_⟩
    have h : ¬ (1 ≤ s.data.toList.length ∧ s.data.toList.length ≤ 14) := by
      rw [Bool.not_eq_true', ← Bool.not_eq_true, bQ] at h
      omega
    unfold jq
    generalize s.data.toList = l at h
    cases l with
    | nil => simp [Aj]
    | cons a l =>
      have : 0 < (a :: l).length := Nat.succ_pos _
      rw [decide_eq_false (by omega)]
      rfl
  · have h : 1 ≤ s.data.toList.length ∧ s.data.toList.length ≤ 14 := by
      rw [Bool.not_eq_false', bQ] at h
      omega
    have hn : jq s = Aj 45 s.data.toList := by
      unfold jq
      rw [decide_eq_true h.2, Bool.true_and]
    skip
    refine aG.aU (aj.to (l := [(0, ST s), (3, ak ((0 : Nat) : Int))]) 0 rfl ⟨rfl, rfl, trivial⟩ (Nat.le_refl _) rfl rfl) ?_
    refine aG.loop (fun k : Nat => k ≤ s.data.toList.length ∧ jq s = Aj (m8 s.data.toList k) (s.data.toList.drop k) ∧ (k = s.data.toList.length → (m8 s.data.toList k).toNat ≠ 45)) (fun k => ⟨bT [(0, ST s), (3, ak (k : Int))], [], bW.none, false, 0⟩) (fun k => s.data.toList.length - k) ?_ 0 ⟨Nat.zero_le _, hn, fun h0 => by omega⟩
    intro k ⟨hk, hrel, hlast⟩
    refine aa (mu := fun _ => false) ?_
    skip
    refine ⟨fun h => ?_, fun h => ?_⟩
    · have hlt : k < s.data.toList.length := by rw [decide_eq_true_eq] at h; omega
      rw [I4 hlt] at hrel
      have hix := Al hlt
      generalize hc : s.data.toList[k] = c at hrel hix
      have hix1 : 0 < k → cZ (aD TT.P (Instr.index 9 (.string s) (.int .i64 ((k : Int) - 1)))) = some (.int .u8 (((m8 s.data.toList k).toNat : Nat) : Int), .none) := by
        intro h0
        obtain ⟨m, rfl⟩ : ∃ m, k = m + 1 := ⟨k - 1, by omega⟩
        rw [oT (by omega), show (((m + 1 : Nat) : Int) - 1) = ((m : Nat) : Int) from by omega]
        exact Al (by omega)
      have hl0 : k = 0 → (m8 s.data.toList k).toNat = 45 := by
        rintro rfl
        rfl
      have hend : k + 1 = s.data.toList.length → c.toNat = 45 → Aj (m8 s.data.toList (k + 1)) (s.data.toList.drop (k + 1)) = false := fun h1 h2 => KM h1 (by rw [hc]; exact h2)
      have hsucc : m8 s.data.toList (k + 1) = c := by rw [oT hlt, hc]
      clear hc hn hlast
      generalize m8 s.data.toList k = d at hrel hix1 hl0
      generalize hr : Aj (m8 s.data.toList (k + 1)) (s.data.toList.drop (k + 1)) = r at hrel hend
      repeat' (first |(refine bJ (by assumption) ?_) |(refine bJ rfl ?_) |(refine cu rfl ?_) |(refine cu (by assumption) ?_) |(refine And.intro (by omega) ?_) |(refine ⟨_, _, rfl, rfl, _, rfl, rfl, ?_⟩) |(refine ⟨_, _, rfl, rfl, _, hix, rfl, ?_⟩) |(refine ⟨_, _, rfl, rfl, _, hix1 (by rcases Nat.eq_zero_or_pos k with h0 | h0; (exfalso; simp_all); exact h0), rfl, ?_⟩) |(refine ⟨fun h => ?_, fun h => ?_⟩) |fail)
      all_goals first
        | (refine ⟨k + 1, ⟨hlt, ?_, fun h1 => by rw [hsucc]; clear hix hix1 hr hsucc; simp at *; omega⟩, (by dsimp only; omega), aj.to 0 rfl ⟨rfl, aJ (by simp), trivial⟩ (Nat.le_refl _) rfl rfl⟩
           rw [hr]
           first
             | rw [hrel, if_pos (by simp at *; omega)]
             | rw [hrel, if_neg (by simp at *; omega), if_neg (by simp at *; omega)])
        | (refine ⟨[_], ⟨Fz.deep rfl, trivial⟩, F6 ?_⟩
           rw [hrel, if_neg (by simp at *; omega)]
           split
           · rfl
           · exact (hend (by simp at *; omega) (by simp at *; omega)).symm)
    · skip
      refine ⟨[_], ⟨Fz.deep rfl, trivial⟩, F6 ?_⟩
      have : k = s.data.toList.length := by rw [decide_eq_false_iff_not] at h; omega
      rw [hrel, this, List.drop_length]
      have := hlast this
      rw [‹k = s.data.toList.length›] at this
      unfold Aj
      simp only [ne_eq, this, not_false_eq_true, decide_true]
end Go.Proofs.YtgdbfbalchdmcaaGreat
open Go Go.RM
namespace Go.Proofs.YtgdbfbalchdmcaaGreat
set_option maxRecDepth 100000
def gZ (name:ByteArray) (names:List ByteArray):Int:=if jq name=false then 6 else if names.any (fun x=>tR x name) then 5 else 0
theorem BO (one:Bool) (names:List ByteArray) (full:Bool) (s:ByteArray) (hs:s.data.toList.length≤maxLen) (hl:names.length≤maxLen):Pu one 48 [ST s,.sl (names.map eS) full] (ak (gZ s names)):=by
 have hg:=m7 (fun x=>tR x s) names
 have hc:=KN one names full s hl
 unfold gZ
 generalize qw (fun x=>tR x s) names=i at hg hc
 generalize names.any (fun x=>tR x s)=b at hg
 refine af.body (fn:=Tryz.f48) rfl rfl rfl rfl ?_
 refine aa (mu:=fun _=>false) ?_
 repeat' (first |with_reducible (first|refine bZ ?_|refine bl ?_|refine bg ?_|refine bf ?_) |(refine af.call (KO one _ hs) rfl rfl ?_) |(refine af.call hc rfl rfl ?_) |(refine ⟨fun h=>?_,fun h=>?_⟩) |fail)
 all_goals refine ⟨[_],⟨Fz.deep rfl,trivial⟩,aJ ?_⟩
 all_goals simp_all
end Go.Proofs.YtgdbfbalchdmcaaGreat
