/-
  Contracts of the program's functions and of the document's. Lemmas alone; their conditions stand in them.
-/
import Derived.Test.YtpeogffeoehboaaGreatDoorA1
import Derived.Test.YtpeogffeoehboaaGreatDoorA2
import Derived.Test.YtpeogffeoehboaaGreatDoorA3
import Derived.Test.YtpeogffeoehboaaGreatDoorT1
import Derived.Test.YtpeogffeoehboaaGreatDoorTie
import Derived.Test.YtpeogffeoehboaaGreatDoorCards
import Derived.ProofKit
import Derived.LaidMore
import Derived.Lay
import Derived.Lib.LaidTab
import Derived.SevenTiedAt
import Derived.Stop.Joined
open Go Go.RM
namespace Go.Proofs.YtpeogffeoehboaaGreatDoor
open Go.ChangeShapes Go.WideShapes Go.ChangeAt Go.RowKit
set_option maxRecDepth 100000
theorem JY:ownKnob Tryz.prog.godebug=none:=by kernel_rfl
theorem F7:laidOutB Tryz.prog=true:=by kernel_rfl
abbrev A0 : List (String × DataW Unit) := [("math/bits.deBruijn32tab", Rows.laid_math_bits_deBruijn32tab), ("math/bits.deBruijn64tab", Rows.laid_math_bits_deBruijn64tab)]
def Oz:List Int:=Lib.deBruijn64tab.map fun n=>((n:Nat):Int)
theorem EK:(Rows.laid_math_bits_deBruijn64tab:DataW Unit)=Lib.tabData .u8 Oz:=by kernel_rfl
theorem Qz : Tryz.prog.globalNamed "math/bits.deBruijn64tab" = some 1 := by kernel_rfl
theorem CH {W:World} (h:laidMetH Tryz.prog A0 W):∀ x ∈ GL,x.1 < W.heap.size∧FB (W.heap[x.1]?) x.2:=by
 rw [MakeChecks.laidMetH_plain _ _ _ (by kernel_rfl)] at h
 obtain ⟨ps,⟨g0,t0,cs0,f0,p0,q0,_,_,_,_,⟨g1,t1,cs1,f1,p1,q1,hg1,ht1,hv1,hd1,_,_⟩,_⟩,_,_⟩:=h
 obtain rfl:=Option.some.inj (Qz.symm.trans hg1)
 obtain rfl:=Option.some.inj ((show (Tryz.prog.globals[1]?).map (·.type)=some 132 by kernel_rfl).symm.trans ht1)
 rw [EK] at hd1
 have hcs:=Lib.cells_of_tab (e:=5) (n:=64) Tryz.underlying132 Tryz.underlying5 (by kernel_rfl) (by kernel_rfl) hd1
 simp only [World.var?,hg1,Option.bind_some] at hv1
 intro x hx
 obtain rfl:=List.mem_singleton.1 hx
 cases ho:W.heap[1]? with
 | none=>rw [ho] at hv1;cases hv1
 | some o =>
  rw [ho] at hv1
  have hlt:1 < W.heap.size:=(Array.getElem?_eq_some_iff.1 ho).1
  cases o with
  | cells cs e fz =>
   simp only [Option.some.injEq] at hv1
   subst hv1
   refine ⟨hlt,cs,e,fz,rfl,fun i v hv=>?_⟩
   rw [←Array.getElem?_toList,hcs]
   unfold Oz
   rw [List.map_map]
   exact hv
  | _=>cases hv1
end Go.Proofs.YtpeogffeoehboaaGreatDoor
open Go Go.RM
namespace Go.Proofs.YtpeogffeoehboaaGreatDoor
set_option maxRecDepth 100000
abbrev aA (n:Int):AV:=.fl (.int .i64 n)
abbrev BB (b:Bool):AV:=.fl (.bool b)
abbrev ST (s:ByteArray):AV:=.fl (.string s)
abbrev eI (n:Int):List AV:=[aA n]
abbrev ints (l:List Int):List (List AV):=l.map eI
def PI:XE:=⟨14,[],[],.bool true,[]⟩
def TB:List XE:=PI :: (List.range 256).map xz
abbrev Pu (one:Bool) (f:FuncId) (args:List AV) (v:AV):Prop:=ah TT TB one (.fn f [] []) args v
def rW {α:Type} (p:α→Bool) (l:List α):Int:=match l.findIdx? p with
 | some i=>(i:Int)
 | none=>-1
theorem lH {α:Type} {p:α→Bool} {l:List α} {k:Nat} (hk:k < l.length) (hprev:∀ i (h:i < l.length),i < k→p l[i]=false) (hp:p l[k]=true):rW p l=k:=by
 unfold rW
 have:l.findIdx? p=some k:=by
  rw [List.findIdx?_eq_some_iff_getElem]
  exact ⟨hk,hp,fun j hj=>by simp [hprev j (by omega) hj]⟩
 rw [this]
theorem lI {α:Type} {p:α→Bool} {l:List α} (hprev:∀ i (h:i < l.length),p l[i]=false):rW p l=-1:=by
 unfold rW
 have:l.findIdx? p=none:=by
  rw [List.findIdx?_eq_none_iff]
  intro x hx
  obtain ⟨i,hi,rfl⟩:=List.getElem_of_mem hx
  exact hprev i hi
 rw [this]
theorem zF {α:Type} (p:α→Bool) (l:List α):decide (0≤rW p l)=l.any p:=by
 unfold rW
 cases h:l.findIdx? p with
 | some i =>
  rw [List.findIdx?_eq_some_iff_getElem] at h
  obtain ⟨h1,h2,_⟩:=h
  simp only [Int.natCast_nonneg,decide_true]
  symm
  rw [List.any_eq_true]
  exact ⟨_,List.getElem_mem h1,h2⟩
 | none =>
  rw [List.findIdx?_eq_none_iff] at h
  simp
  intro x hx;exact h x hx
theorem nC (n:Nat):∀ (v:AV),v.deep=true→v.jb n=true:=by
 apply AV.rec (motive_1:=fun v=>v.deep=true→v.jb n=true) (motive_2:=fun _=>True) (motive_3:=fun l=>cI l=true→rR n l=true)
 ·intro v _;rfl
 ·intro a b _ _;rfl
 ·intro a b _ _;rfl
 ·intro f a b ha hb h
  simp only [AV.deep,Bool.and_eq_true] at h
  simp only [AV.jb,Bool.and_eq_true]
  exact ⟨ha h.1,hb h.2⟩
 ·intro a ha h
  simp only [AV.deep] at h
  simp only [AV.jb]
  exact ha h
 ·intro a ha h
  simp only [AV.deep] at h
  simp only [AV.jb]
  exact ha h
 ·intro j v o h;simp [AV.deep] at h
 ·intro j v o n c h;simp [AV.deep] at h
 ·intro j h;simp [AV.deep] at h
 ·intro u _;rfl
 ·intro h;simp [AV.deep] at h
 ·trivial
 ·intros;trivial
 ·intro _;rfl
 ·intro a l ha hl h
  simp only [cI,Bool.and_eq_true] at h
  simp only [rR,Bool.and_eq_true]
  exact ⟨ha h.1,hl h.2⟩
theorem vD {n:Nat} {v:Value}:(AV.fl v).jb n=true:=rfl
theorem zG {n:Nat} {a:List (List AV)} {b:Bool}:(AV.sl a b).jb n=true:=rfl
theorem aV {a b:Int} (h:a=b):AV.fl (.int .i64 a)=AV.fl (.int .i64 b):=by rw [h]
theorem Kn {a b:Bool} (h:a=b):AV.fl (.bool a)=AV.fl (.bool b):=by rw [h]
theorem C6 (one:Bool) (n lo hi:Int):ah TT TB one (.fn 84 [] [.pt [aA lo] 0,.pt [aA hi] 0]) [aA n] (BB (decide (n < lo) || decide (hi < n))):=by
 refine ah.body (fn:=Tryz.f84) rfl rfl rfl rfl ?_
 refine aa (mu:=fun _=>false) ?_
 repeat' (first |(refine ⟨_,rfl,?_⟩) |(refine fk (by assumption) ?_) |(refine fT (by assumption) ?_) |(refine ⟨fun h=>?_,fun h=>?_⟩) |fail)
 all_goals refine ⟨[_],⟨Fz.deep rfl,trivial⟩,?_⟩
 all_goals simp_all [Bu]
theorem xe (one:Bool) (g:FuncId) (fs cs:List AV) (hF:(AV.fn g fs cs).deep=true) (p:Int→Bool) (l:List Int) (full:Bool) (hl:l.length≤maxLen) (hp:∀ n ∈ l,ah TT TB one (.fn g fs cs) [aA n] (BB (p n))) :
  Pu one 93 [.sl (ints l) full,.fn g fs cs] (aA (rW p l)):=by
 unfold maxLen at hl
 refine ah.body (fn:=Tryz.f93) rfl rfl rfl rfl ?_
 refine aa (mu:=fun _=>false) ?_
 skip
 refine aB.aJ (ai.to (l:=[(0,.sl (ints l) full),(1,.fn g fs cs),(7,aA l.length),(8,aA ((0:Nat):Int))]) 0 rfl ⟨rfl,rfl,aV (by simp),rfl,trivial⟩ (Nat.le_refl _) (by simp [vD,zG,nC 0 _ hF]) rfl) ?_
 refine aB.loop (fun k:Nat=>k≤l.length∧∀ i (h:i < l.length),i < k→p l[i]=false) (fun k=>⟨aS [(0,.sl (ints l) full),(1,.fn g fs cs),(7,aA l.length),(8,aA (k:Int))],[],bJ.none,false,0⟩) (fun k=>l.length - k) ?_ 0 ⟨Nat.zero_le _,fun i _ hi=>absurd hi (by omega)⟩
 intro k ⟨hk,hprev⟩
 refine aa (mu:=fun _=>false) ?_
 refine ⟨fun h=>?_,fun h=>?_⟩
 ·have hlt:k < l.length:=by simpa using h
  refine ⟨[aA l[k]],⟨by omega,by simp [hlt]⟩,rfl,?_⟩
  repeat' (first |refine u1 ?_ |fail)
  refine ah.call (hp l[k] (List.getElem_mem _)) hF rfl ?_
  refine ⟨fun h2=>?_,fun h2=>?_⟩
  ·refine ⟨[_],⟨Fz.deep rfl,trivial⟩,?_⟩
   rw [lH hlt hprev h2];rfl
  ·repeat' (first |refine u2 ?_ |fail)
   refine ⟨k+1,⟨hlt,fun i hi hik=>?_⟩,(by dsimp only;omega),ai.to 0 rfl ⟨rfl,rfl,rfl,aV (by simp),trivial⟩ (Nat.le_refl _) (by simp [vD,zG,nC 0 _ hF]) rfl⟩
   by_cases hik':i=k
   ·subst hik';exact h2
   ·exact hprev i hi (by omega)
 ·skip
  refine ⟨[_],⟨Fz.deep rfl,trivial⟩,?_⟩
  have:k=l.length:=by simp at h;omega
  rw [lI fun i hi=>hprev i hi (by omega)];rfl
structure jX where
 name:ByteArray
 full:Int
 first:Int
 weight:Int
structure Order where
 day:Int
 aG:List Int
structure au where
 days:Int
 needs:List jX
 load:Int
 fail:Int
 row:Int
 possible:List Int
abbrev aH (n:jX):List AV:=[ST n.name,aA n.full,aA n.first,aA n.weight]
abbrev ay (o:Order):List AV:=[aA o.day,.sl (ints o.aG) false]
abbrev ak (s:au):List AV:=[aA s.days,.sl (s.needs.map aH) false,aA s.load,aA s.fail,aA s.row,.sl (ints s.possible) false]
theorem rX (one:Bool) (g:FuncId) (fs cs:List AV) (hF:(AV.fn g fs cs).deep=true) (p:Int→Bool) (l:List Int) (full:Bool) (hl:l.length≤maxLen) (hp:∀ x ∈ l,ah TT TB one (.fn g fs cs) [aA x] (BB (p x))) :
  Pu one 83 [.sl (l.map eI) full,.fn g fs cs] (BB (l.any p)):=by
 refine ah.body (fn:=Tryz.f83) rfl rfl rfl rfl ?_
 refine aa (mu:=fun _=>false) ?_
 skip
 refine ah.call (xe one g fs cs hF p l full hl hp) rfl (by simp only [cI,AV.deep,Bool.and_true,Bool.true_and];exact hF) ?_
 skip
 refine ⟨[_],⟨Fz.deep rfl,trivial⟩,?_⟩
 rw [←zF];rfl
theorem xg (one:Bool) (g:FuncId) (fs cs:List AV) (hF:(AV.fn g fs cs).deep=true) (p:jX→Bool) (l:List jX) (full:Bool) (hl:l.length≤maxLen) (hp:∀ x ∈ l,ah TT TB one (.fn g fs cs) [.ag (aH x)] (BB (p x))) :
  Pu one 85 [.sl (l.map aH) full,.fn g fs cs] (aA (rW p l)):=by
 unfold maxLen at hl
 refine ah.body (fn:=Tryz.f85) rfl rfl rfl rfl ?_
 refine aa (mu:=fun _=>false) ?_
 skip
 refine aB.aJ (ai.to (l:=[(0,.sl (l.map aH) full),(1,.fn g fs cs),(7,aA l.length),(8,aA ((0:Nat):Int))]) 0 rfl ⟨rfl,rfl,aV (by simp),rfl,trivial⟩ (Nat.le_refl _) (by simp [vD,zG,nC 0 _ hF]) rfl) ?_
 refine aB.loop (fun k:Nat=>k≤l.length∧∀ i (h:i < l.length),i < k→p l[i]=false) (fun k=>⟨aS [(0,.sl (l.map aH) full),(1,.fn g fs cs),(7,aA l.length),(8,aA (k:Int))],[],bJ.none,false,0⟩) (fun k=>l.length - k) ?_ 0 ⟨Nat.zero_le _,fun i _ hi=>absurd hi (by omega)⟩
 intro k ⟨hk,hprev⟩
 refine aa (mu:=fun _=>false) ?_
 refine ⟨fun h=>?_,fun h=>?_⟩
 ·have hlt:k < l.length:=by simpa using h
  skip
  refine ⟨aH l[k],⟨by omega,by simp [hlt]⟩,rfl,?_⟩
  repeat' (first |refine u2 ?_ |fail)
  refine ah.call (hp l[k] (List.getElem_mem _)) hF rfl ?_
  refine ⟨fun h2=>?_,fun h2=>?_⟩
  ·skip
   refine ⟨[_],⟨Fz.deep rfl,trivial⟩,?_⟩
   rw [lH hlt hprev h2];rfl
  ·repeat' (first |refine u2 ?_ |fail)
   refine ⟨k+1,⟨hlt,fun i hi hik=>?_⟩,(by dsimp only;omega),ai.to 0 rfl ⟨rfl,rfl,rfl,aV (by simp),trivial⟩ (Nat.le_refl _) (by simp [vD,zG,nC 0 _ hF]) rfl⟩
   by_cases hik':i=k
   ·subst hik';exact h2
   ·exact hprev i hi (by omega)
 ·skip
  refine ⟨[_],⟨Fz.deep rfl,trivial⟩,?_⟩
  have:k=l.length:=by simp at h;omega
  rw [lI fun i hi=>hprev i hi (by omega)];rfl
theorem rY (one:Bool) (g:FuncId) (fs cs:List AV) (hF:(AV.fn g fs cs).deep=true) (p:jX→Bool) (l:List jX) (full:Bool) (hl:l.length≤maxLen) (hp:∀ x ∈ l,ah TT TB one (.fn g fs cs) [.ag (aH x)] (BB (p x))) :
  Pu one 64 [.sl (l.map aH) full,.fn g fs cs] (BB (l.any p)):=by
 refine ah.body (fn:=Tryz.f64) rfl rfl rfl rfl ?_
 refine aa (mu:=fun _=>false) ?_
 skip
 refine ah.call (xg one g fs cs hF p l full hl hp) rfl (by simp only [cI,AV.deep,Bool.and_true,Bool.true_and];exact hF) ?_
 skip
 refine ⟨[_],⟨Fz.deep rfl,trivial⟩,?_⟩
 rw [←zF];rfl
def fH (lo hi:Int) (l:List Int):Bool:=l.any fun n=>decide (n < lo) || decide (hi < n)
def NL:List AV→Int
 | [.fl (.int _ n)]=>n
 | _=>0
def Qi:List AV→Bool
 | [.fl (.int .i64 _)]=>true
 | _=>false
theorem allI:∀ {els:List (List AV)},els.all Qi=true→els=ints (els.map NL)
 | [],_=>rfl
 | el :: els,h=>by
  simp only [List.all_cons,Bool.and_eq_true] at h
  have ih:=allI h.2
  have:el=eI (NL el):=by
   have h1:=h.1
   unfold Qi at h1
   split at h1
   ·rfl
   ·cases h1
  show el :: els=eI (NL el) :: ints (els.map NL)
  rw [←this,←ih]
theorem EW (one:Bool) (lo hi:Int) (els:List (List AV)) (full:Bool) (h:els.all Qi=true) (hl:els.length≤maxLen):Pu one 61 [aA lo,aA hi,.sl els full] (BB (fH lo hi (els.map NL))):=by
 obtain ⟨l,hl'⟩:∃ l,els.map NL=l:=⟨_,rfl⟩
 have he:els=ints l:=by rw [←hl'];exact allI h
 rw [hl']
 subst he
 refine ah.body (fn:=Tryz.f61) rfl rfl rfl rfl ?_
 refine aa (mu:=fun _=>false) ?_
 repeat' (first |refine u2 ?_ |fail)
 refine ah.call (rX one 84 [] _ rfl (fun n=>decide (n < lo) || decide (hi < n)) l full (by simpa using hl) (fun n _=>C6 one n lo hi)) rfl rfl ?_
 skip
 refine ⟨[_],⟨Fz.deep rfl,trivial⟩,?_⟩
 rfl
def x8:UInt8→List UInt8→Bool
 | last,[]=>decide (last.toNat ≠ 45)
 | last,c :: l=>if 97≤c.toNat∧c.toNat≤122 then x8 c l else if c.toNat ≠ 45∨last.toNat=45 then false else x8 c l
theorem BH (last c:UInt8) (l:List UInt8):x8 last (c :: l)=if 97≤c.toNat∧c.toNat≤122 then x8 c l else if c.toNat ≠ 45∨last.toNat=45 then false else x8 c l:=rfl
def jc (s:ByteArray):Bool:=decide (s.data.toList.length≤14) && x8 45 s.data.toList
theorem x9 {s:ByteArray} {i:Nat} (h:i < s.data.toList.length):(s.get! i)=s.data.toList[i]:=by
 have:i < s.data.size:=by simpa using h
 simp only [ByteArray.get!,getElem!_pos s.data i this]
 simp
theorem EX {s:ByteArray} {i:Nat} (h:i < s.data.toList.length) (hb:(s.data.toList[i]).toNat < 128):Utf8.decode s i=((s.data.toList[i]).toNat,1):=by
 unfold Utf8.decode
 simp only [Nat.add_zero,x9 h]
 rw [if_pos hb]
theorem EY {s:ByteArray} {i:Nat} (h:i < s.data.toList.length) (hb:128≤(s.data.toList[i]).toNat):128≤(Utf8.decode s i).1:=by
 unfold Utf8.decode
 simp only [Nat.add_zero,x9 h,Utf8.runeError]
 rw [if_neg (by omega)]
 repeat' split
 all_goals simp_all
 all_goals omega
theorem NM (one : Bool) (s : ByteArray) (hs : s.data.toList.length ≤ maxLen) : Pu one 63 [ST s] (BB (jc s)) := by
  unfold maxLen at hs
  refine ah.body (fn := Tryz.f63) rfl rfl rfl rfl ?_
  refine aa (mu := fun _ => false) ?_
  skip
  refine aB.aJ (ai.to (l := [(0, ST s), (7, .ptr 0 0 0), (3, .fl (.int .i32 (((45 : UInt8).toNat : Nat) : Int)))]) 1 rfl ⟨rfl, rfl, rfl, trivial⟩ (Nat.zero_le _) rfl rfl) ?_
  refine aB.loop (fun x : Nat × UInt8 => x.1 ≤ s.data.toList.length ∧ x8 45 s.data.toList = x8 x.2 (s.data.toList.drop x.1)) (fun x => ⟨aS [(0, ST s), (7, .ptr 0 0 0), (3, .fl (.int .i32 ((x.2.toNat : Nat) : Int)))], [.dh s x.1], bJ.none, false, 0⟩) (fun x => s.data.toList.length - x.1) ?_ (0, 45) ⟨Nat.zero_le _, rfl⟩
  intro ⟨pos, last⟩ ⟨hpos, hrel⟩
  refine aa (mu := fun _ => false) ?_
  have hdrop : ∀ h : pos < s.data.toList.length, s.data.toList.drop pos = s.data.toList[pos] :: s.data.toList.drop (pos + 1) := fun h => List.drop_eq_getElem_cons h
  refine ⟨s, pos, rfl, fun hlt => ?_, fun hge => ?_⟩
  · rw [hdrop hlt] at hrel
    simp only at hrel
    generalize hc : s.data.toList[pos] = c at hrel
    have hc256 : c.toNat < 256 := c.toNat_lt
    rw [BH] at hrel
    by_cases hb : c.toNat < 128
    · have hd := EX hlt (by rw [hc]; exact hb)
      rw [hc] at hd
      rw [hd]
      clear hd hc hdrop
      repeat' (first |(refine ⟨_, rfl, ?_⟩) |(refine fk (by assumption) ?_) |(refine fk rfl ?_) |(refine fT rfl ?_) |(refine fT (by assumption) ?_) |(refine ⟨_, _, rfl, rfl, _, rfl, rfl, ?_⟩) |(refine ⟨fun h => ?_, fun h => ?_⟩) |fail)
      all_goals first
        | (refine ⟨(pos + 1, c), ⟨hlt, ?_⟩, (by dsimp only; omega), ai.to 1 rfl ⟨rfl, rfl, rfl, trivial⟩ (Nat.zero_le _) rfl rfl⟩
           first
             | rw [hrel, if_pos (by simp at *; omega)]
             | rw [hrel, if_neg (by simp at *; omega), if_neg (by simp at *; omega)])
        | (refine ⟨[_], ⟨Fz.deep rfl, trivial⟩, Kn ?_⟩
           rw [jc, hrel, if_neg (by simp at *; omega), if_pos (by simp at *; omega)]
           simp)
    · have hd := EY hlt (by rw [hc]; omega)
      generalize Utf8.decode s pos = d at hd
      clear hc hdrop
      repeat' (first |(refine ⟨_, rfl, ?_⟩) |(refine fk (by assumption) ?_) |(refine fk rfl ?_) |(refine fT rfl ?_) |(refine fT (by assumption) ?_) |(refine ⟨_, _, rfl, rfl, _, rfl, rfl, ?_⟩) |(refine ⟨fun h => ?_, fun h => ?_⟩) |fail)
      all_goals first
        | (exfalso; simp at *; omega)
        | (refine ⟨[_], ⟨Fz.deep rfl, trivial⟩, Kn ?_⟩
           rw [jc, hrel, if_neg (by omega), if_pos (by omega)]
           simp)
  · have hlen : pos = s.data.toList.length := by simp only at hpos; omega
    subst hlen
    simp only [List.drop_length, x8] at hrel
    repeat' (first |(refine ⟨_, rfl, ?_⟩) |(refine fk (by assumption) ?_) |(refine fT rfl ?_) |(refine fT (by assumption) ?_) |(refine ⟨_, _, rfl, rfl, _, rfl, rfl, ?_⟩) |(refine ⟨fun h => ?_, fun h => ?_⟩) |fail)
    all_goals refine ⟨[_], ⟨Fz.deep rfl, trivial⟩, Kn ?_⟩
    all_goals rw [jc, hrel, Bool.eq_iff_iff]
    all_goals simp at *
    all_goals omega
def C7 (a b:ByteArray):Bool:=a.toList == b.toList
def cZ (n:Nat) (e:Nat→Int):Int × Int:=match (List.range n).find? (fun i=>e i != 0) with
 | some i=>((i:Int),e i)
 | none=>(0,0)
theorem gw {n k:Nat} {e:Nat→Int} (hk:k < n) (hprev:∀ i,i < k→e i=0) (h:e k ≠ 0):cZ n e=((k:Int),e k):=by
 unfold cZ
 have:(List.range n).find? (fun i=>e i != 0)=some k:=by
  rw [List.find?_range_eq_some]
  exact ⟨by simpa using h,by simpa using hk,fun j hj=>by simp [hprev j hj]⟩
 rw [this]
theorem fm {n:Nat} {e:Nat→Int} (hprev:∀ i,i < n→e i=0):cZ n e=(0,0):=by
 unfold cZ
 have:(List.range n).find? (fun i=>e i != 0)=none:=by
  rw [List.find?_eq_none]
  intro x hx
  simp [hprev x (by simpa using hx)]
 rw [this]
def nD (n lo hi:Int):Bool:=decide (lo≤n) && decide (n≤hi)
theorem mz {n lo hi:Int}:nD n lo hi=true ↔ lo≤n∧n≤hi:=by simp [nD]
theorem bD (n lo hi:Int):fH lo hi [n]=!nD n lo hi:=by
 unfold fH nD
 rw [Bool.eq_iff_iff]
 simp
theorem jO (one:Bool) (n lo hi:Int):Pu one 70 [aA n,aA lo,aA hi] (BB (nD n lo hi)):=by
 refine ah.body (fn:=Tryz.f70) rfl rfl rfl rfl ?_
 refine aa (mu:=fun _=>false) ?_
 repeat' (first |(refine fk (by assumption) ?_) |(refine fT (by assumption) ?_) |(refine ⟨fun h=>?_,fun h=>?_⟩) |fail)
 all_goals refine ⟨[_],⟨Fz.deep rfl,trivial⟩,Kn ?_⟩
 all_goals simp_all [nD]
 all_goals omega
theorem NN (one:Bool) (n lo hi:Int):Pu one 96 [aA n,aA lo,aA hi] (BB (nD n lo hi)):=by
 refine ah.body (fn:=Tryz.f96) rfl rfl rfl rfl ?_
 refine aa (mu:=fun _=>false) ?_
 repeat' (first |(refine fk (by assumption) ?_) |(refine fT (by assumption) ?_) |(refine ⟨fun h=>?_,fun h=>?_⟩) |fail)
 all_goals refine ⟨[_],⟨Fz.deep rfl,trivial⟩,Kn ?_⟩
 all_goals simp_all [nD]
 all_goals omega
theorem ya {s:ByteArray} {k:Nat} (h:k < s.data.toList.length):di (aE TT.P (Instr.index 9 (.string s) (.int .i64 (k:Int))))=some (.int .u8 ((s.data.toList[k].toNat:Nat):Int),.none):=by
 have hk:k < s.size:=by rwa [Array.length_toList] at h
 have e:(if (0:Int)≤(k:Int) then s[(k:Int).toNat]? else none)=some (s.data.toList[k]):=by
  rw [if_pos (by omega),Int.toNat_natCast]
  rw [getElem?_pos s k hk]
  rfl
 unfold Instr.index
 show di (aE TT.P (match (if (0:Int)≤(k:Int) then s[(k:Int).toNat]? else none) with
  | some b=>pure (.int .u8 b.toNat)
  | none=>boundsPanic .i64 k s.size .index))=_
 rw [e]
 rfl
theorem bl {α β:Type} {f:α→β} {l:List α} {k:Nat} (h:k < l.length):(l.map f)[((k:Nat):Int).toNat]?=some (f l[k]):=by
 rw [Int.toNat_natCast,List.getElem?_map,List.getElem?_eq_getElem h]
 rfl
def kG (l:List UInt8):Nat→UInt8
 | 0=>45
 | k+1=>l[k]?.getD 45
theorem mA {l:List UInt8} {k:Nat} (h:k < l.length):kG l (k+1)=l[k]:=by
 show (l[k]?).getD 45=l[k]
 rw [List.getElem?_eq_getElem h]
 rfl
theorem IP {l:List UInt8} {k:Nat} (h:k < l.length):x8 (kG l k) (l.drop k)=if 97≤l[k].toNat∧l[k].toNat≤122 then x8 (kG l (k+1)) (l.drop (k+1)) else if l[k].toNat ≠ 45∨(kG l k).toNat=45 then false else x8 (kG l (k+1)) (l.drop (k+1)):=by
 rw [List.drop_eq_getElem_cons h,BH,mA h]
theorem Ko {l:List UInt8} {k:Nat} (h:k+1=l.length) (h45:l[k].toNat=45):x8 (kG l (k+1)) (l.drop (k+1))=false:=by
 rw [mA (by omega),h,List.drop_length]
 unfold x8
 simp [h45]
abbrev eS (s:ByteArray):List AV:=[ST s]
theorem Kq (one:Bool) (names:List ByteArray) (full:Bool) (s:ByteArray) (hl:names.length≤maxLen):Pu one 89 [.sl (names.map eS) full,ST s] (aA (rW (fun x=>C7 x s) names)):=by
 unfold maxLen at hl
 refine ah.body (fn:=Tryz.f89) rfl rfl rfl rfl ?_
 refine aa (mu:=fun _=>false) ?_
 skip
 refine aB.aJ (ai.to (l:=[(0,.sl (names.map eS) full),(1,ST s),(5,aA ((0:Nat):Int))]) 0 rfl ⟨rfl,rfl,rfl,trivial⟩ (Nat.le_refl _) rfl rfl) ?_
 refine aB.loop (fun k:Nat=>k≤names.length∧∀ i (h:i < names.length),i < k→C7 names[i] s=false) (fun k=>⟨aS [(0,.sl (names.map eS) full),(1,ST s),(5,aA (k:Int))],[],bJ.none,false,0⟩) (fun k=>names.length - k) ?_ 0 ⟨Nat.zero_le _,fun i _ hi=>absurd hi (by omega)⟩
 intro k ⟨hk,hprev⟩
 refine aa (mu:=fun _=>false) ?_
 skip
 refine ⟨fun h=>?_,fun h=>?_⟩
 ·have hlt:k < names.length:=by simpa using h
  skip
  refine ⟨eS names[k],⟨by omega,bl hlt⟩,rfl,?_⟩
  repeat' (first |refine u1 ?_ |refine u2 ?_ |fail)
  refine ⟨fun h2=>?_,fun h2=>?_⟩
  ·skip
   refine ⟨[_],⟨Fz.deep rfl,trivial⟩,aV ?_⟩
   exact (lH hlt hprev h2).symm
  ·repeat' (first |refine u2 ?_ |fail)
   refine ⟨k+1,⟨hlt,fun i hi hik=>?_⟩,(by dsimp only;omega),ai.to 0 rfl ⟨rfl,rfl,aV (by simp),trivial⟩ (Nat.le_refl _) rfl rfl⟩
   by_cases hik':i=k
   ·subst hik';exact h2
   ·exact hprev i hi (by omega)
 ·skip
  refine ⟨[_],⟨Fz.deep rfl,trivial⟩,aV ?_⟩
  have:k=names.length:=by simp at h;omega
  rw [lI fun i hi=>hprev i hi (by omega)]
theorem Kr (one : Bool) (s : ByteArray) (hs : s.data.toList.length ≤ maxLen) : Pu one 88 [ST s] (BB (jc s)) := by
  unfold maxLen at hs
  refine ah.body (fn := Tryz.f88) rfl rfl rfl rfl ?_
  refine aa (mu := fun _ => false) ?_
  repeat' (first |(refine ah.call (NN one _ _ _) rfl rfl ?_) |fail)
  refine ⟨fun h => ?_, fun h => ?_⟩
  · skip
    refine ⟨[_], ⟨Fz.deep rfl, trivial⟩, Kn ?_⟩
    have h : ¬ (1 ≤ s.data.toList.length ∧ s.data.toList.length ≤ 14) := by
      rw [Bool.not_eq_true', ← Bool.not_eq_true, mz] at h
      omega
    unfold jc
    generalize s.data.toList = l at h
    cases l with
    | nil => simp [x8]
    | cons a l =>
      have : 0 < (a :: l).length := Nat.succ_pos _
      rw [decide_eq_false (by omega)]
      rfl
  · have h : 1 ≤ s.data.toList.length ∧ s.data.toList.length ≤ 14 := by
      rw [Bool.not_eq_false', mz] at h
      omega
    have hn : jc s = x8 45 s.data.toList := by
      unfold jc
      rw [decide_eq_true h.2, Bool.true_and]
    skip
    refine aB.aJ (ai.to (l := [(0, ST s), (3, aA ((0 : Nat) : Int))]) 0 rfl ⟨rfl, rfl, trivial⟩ (Nat.le_refl _) rfl rfl) ?_
    refine aB.loop (fun k : Nat => k ≤ s.data.toList.length ∧ jc s = x8 (kG s.data.toList k) (s.data.toList.drop k) ∧ (k = s.data.toList.length → (kG s.data.toList k).toNat ≠ 45)) (fun k => ⟨aS [(0, ST s), (3, aA (k : Int))], [], bJ.none, false, 0⟩) (fun k => s.data.toList.length - k) ?_ 0 ⟨Nat.zero_le _, hn, fun h0 => by omega⟩
    intro k ⟨hk, hrel, hlast⟩
    refine aa (mu := fun _ => false) ?_
    skip
    refine ⟨fun h => ?_, fun h => ?_⟩
    · have hlt : k < s.data.toList.length := by rw [decide_eq_true_eq] at h; omega
      rw [IP hlt] at hrel
      have hix := ya hlt
      generalize hc : s.data.toList[k] = c at hrel hix
      have hix1 : 0 < k → di (aE TT.P (Instr.index 9 (.string s) (.int .i64 ((k : Int) - 1)))) = some (.int .u8 (((kG s.data.toList k).toNat : Nat) : Int), .none) := by
        intro h0
        obtain ⟨m, rfl⟩ : ∃ m, k = m + 1 := ⟨k - 1, by omega⟩
        rw [mA (by omega), show (((m + 1 : Nat) : Int) - 1) = ((m : Nat) : Int) from by omega]
        exact ya (by omega)
      have hl0 : k = 0 → (kG s.data.toList k).toNat = 45 := by
        rintro rfl
        rfl
      have hend : k + 1 = s.data.toList.length → c.toNat = 45 → x8 (kG s.data.toList (k + 1)) (s.data.toList.drop (k + 1)) = false := fun h1 h2 => Ko h1 (by rw [hc]; exact h2)
      have hsucc : kG s.data.toList (k + 1) = c := by rw [mA hlt, hc]
      clear hc hn hlast
      generalize kG s.data.toList k = d at hrel hix1 hl0
      generalize hr : x8 (kG s.data.toList (k + 1)) (s.data.toList.drop (k + 1)) = r at hrel hend
      repeat' (first |(refine fk (by assumption) ?_) |(refine fk rfl ?_) |(refine fT rfl ?_) |(refine fT (by assumption) ?_) |(refine And.intro (by omega) ?_) |(refine ⟨_, _, rfl, rfl, _, rfl, rfl, ?_⟩) |(refine ⟨_, _, rfl, rfl, _, hix, rfl, ?_⟩) |(refine ⟨_, _, rfl, rfl, _, hix1 (by rcases Nat.eq_zero_or_pos k with h0 | h0; (exfalso; simp_all); exact h0), rfl, ?_⟩) |(refine ⟨fun h => ?_, fun h => ?_⟩) |fail)
      all_goals first
        | (refine ⟨k + 1, ⟨hlt, ?_, fun h1 => by rw [hsucc]; clear hix hix1 hr hsucc; simp at *; omega⟩, (by dsimp only; omega), ai.to 0 rfl ⟨rfl, aV (by simp), trivial⟩ (Nat.le_refl _) rfl rfl⟩
           rw [hr]
           first
             | rw [hrel, if_pos (by simp at *; omega)]
             | rw [hrel, if_neg (by simp at *; omega), if_neg (by simp at *; omega)])
        | (refine ⟨[_], ⟨Fz.deep rfl, trivial⟩, Kn ?_⟩
           rw [hrel, if_neg (by simp at *; omega)]
           split
           · rfl
           · exact (hend (by simp at *; omega) (by simp at *; omega)).symm)
    · skip
      refine ⟨[_], ⟨Fz.deep rfl, trivial⟩, Kn ?_⟩
      have : k = s.data.toList.length := by rw [decide_eq_false_iff_not] at h; omega
      rw [hrel, this, List.drop_length]
      have := hlast this
      rw [‹k = s.data.toList.length›] at this
      unfold x8
      simp only [ne_eq, this, not_false_eq_true, decide_true]
def lJ (name:ByteArray) (names:List ByteArray):Int:=if jc name=false then 6 else if names.any (fun x=>C7 x name) then 5 else 0
theorem Kt (one:Bool) (names:List ByteArray) (full:Bool) (s:ByteArray) (hs:s.data.toList.length≤maxLen) (hl:names.length≤maxLen):Pu one 71 [ST s,.sl (names.map eS) full] (aA (lJ s names)):=by
 have hg:=zF (fun x=>C7 x s) names
 have hc:=Kq one names full s hl
 unfold lJ
 generalize rW (fun x=>C7 x s) names=i at hg hc
 generalize names.any (fun x=>C7 x s)=b at hg
 refine ah.body (fn:=Tryz.f71) rfl rfl rfl rfl ?_
 refine aa (mu:=fun _=>false) ?_
 repeat' (first |with_reducible (first|refine II ?_|refine Ke ?_|refine Kf ?_|refine BA ?_) |(refine ah.call (Kr one _ hs) rfl rfl ?_) |(refine ah.call hc rfl rfl ?_) |(refine ⟨fun h=>?_,fun h=>?_⟩) |fail)
 all_goals refine ⟨[_],⟨Fz.deep rfl,trivial⟩,aV ?_⟩
 all_goals simp_all
end Go.Proofs.YtpeogffeoehboaaGreatDoor
