/-
  Contracts of the program's functions and of the document's. Lemmas alone; their conditions stand in them.
-/
import Derived.Test.YtpeogffeoehboaaGreatDoorA3
import Derived.Test.YtpeogffeoehboaaGreatDoorT1
import Derived.Test.YtpeogffeoehboaaGreatDoorTie
import Derived.Test.YtpeogffeoehboaaGreatDoorCards
import Derived.LaidMore
import Derived.Lay
import Derived.Lib.LaidTab
import Derived.SevenTiedAt
import Derived.Stop.Joined
open Go Go.RM
namespace Go.Proofs.YtpeogffeoehboaaGreatDoor
open Go.ChangeShapes Go.WideShapes Go.ChangeAt Go.RowKit
set_option maxRecDepth 100000
theorem MI:ownKnob Tryz.prog.godebug=none:=by kernel_rfl
theorem IX:laidOutB Tryz.prog=true:=by kernel_rfl
abbrev Cr : List (String × DataW Unit) := [("math/bits.deBruijn32tab", Rows.laid_math_bits_deBruijn32tab), ("math/bits.deBruijn64tab", Rows.laid_math_bits_deBruijn64tab)]
def Rx:List Int:=Lib.deBruijn64tab.map fun n=>((n:Nat):Int)
theorem He:(Rows.laid_math_bits_deBruijn64tab:DataW Unit)=Lib.tabData .u8 Rx:=by kernel_rfl
theorem T3 : Tryz.prog.globalNamed "math/bits.deBruijn64tab" = some 1 := by kernel_rfl
theorem Es {W:World} (h:laidMetH Tryz.prog Cr W):∀ x ∈ GL,x.1 < W.heap.size∧Ii (W.heap[x.1]?) x.2:=by
 rw [MakeChecks.laidMetH_plain _ _ _ (by kernel_rfl)] at h;obtain ⟨ps,⟨g0,t0,cs0,f0,p0,q0,_,_,_,_,⟨g1,t1,cs1,f1,p1,q1,hg1,ht1,hv1,hd1,_,_⟩,_⟩,_,_⟩:=h;obtain rfl:=Option.some.inj (T3.symm.trans hg1);obtain rfl:=Option.some.inj ((show (Tryz.prog.globals[1]?).map (·.type)=some 132 by kernel_rfl).symm.trans ht1);rw [He] at hd1;have hcs:=Lib.cells_of_tab (e:=5) (n:=64) Tryz.underlying132 Tryz.underlying5 (by kernel_rfl) (by kernel_rfl) hd1;simp only [World.var?,hg1,Option.bind_some] at hv1;intro x hx;obtain rfl:=List.mem_singleton.1 hx
 cases ho:W.heap[1]? with
 | none=>rw [ho] at hv1;cases hv1
 | some o =>
  rw [ho] at hv1;have hlt:1 < W.heap.size:=(Array.getElem?_eq_some_iff.1 ho).1
  cases o with
  | cells cs e fz =>simp only [qq9] at hv1;subst hv1;refine ⟨hlt,cs,e,fz,rfl,fun i v hv=>?_⟩;rw [←Array.getElem?_toList,hcs];unfold Rx;rw [List.map_map];exact hv
  | _=>cases hv1
end Go.Proofs.YtpeogffeoehboaaGreatDoor
open Go Go.RM
namespace Go.Proofs.YtpeogffeoehboaaGreatDoor
set_option maxRecDepth 100000
abbrev aC (n:Int):AV:=.fl (.int .i64 n)
abbrev BB (b:Bool):AV:=.fl (.bool b)
abbrev ST (s:ByteArray):AV:=.fl (.string s)
abbrev eI (n:Int):List AV:=[aC n]
abbrev ints (l:List Int):List (List AV):=l.map eI
def SF:XE:=⟨14,[],[],.bool true,[]⟩
def TB:List XE:=SF :: (List.range 256).map xz
abbrev Pu (one:Bool) (f:FuncId) (args:List AV) (v:AV):Prop:=aj TT TB one (.fn f [] []) args v
def sF {α:Type} (p:α→Bool) (l:List α):Int:=match l.findIdx? p with
 | some i=>(i:Int)
 | none=>-1
theorem mG {α:Type} {p:α→Bool} {l:List α} {k:Nat} (hk:k < l.length) (hprev:∀ i (h:i < l.length),i < k→p l[i]=false) (hp:p l[k]=true):sF p l=k:=by
 unfold sF;have:l.findIdx? p=some k:=by rw [List.findIdx?_eq_some_iff_getElem];exact ⟨hk,hp,fun j hj=>by simp [hprev j (by omega) hj]⟩
 rw [this]
theorem mH {α:Type} {p:α→Bool} {l:List α} (hprev:∀ i (h:i < l.length),p l[i]=false):sF p l=-1:=by
 unfold sF;have:l.findIdx? p=none:=by rw [List.findIdx?_eq_none_iff];intro x hx;obtain ⟨i,hi,rfl⟩:=List.getElem_of_mem hx;exact hprev i hi
 rw [this]
theorem Bi {α:Type} (p:α→Bool) (l:List α):decide (0≤sF p l)=l.any p:=by
 unfold sF
 cases h:l.findIdx? p with
 | some i =>rw [List.findIdx?_eq_some_iff_getElem] at h;obtain ⟨h1,h2,_⟩:=h;simp only [Int.natCast_nonneg,decide_true];symm;rw [List.any_eq_true];exact ⟨_,List.getElem_mem h1,h2⟩
 | none =>rw [List.findIdx?_eq_none_iff] at h;simp;intro x hx;exact h x hx
theorem sG (n:Nat):∀ (v:AV),v.deep=true→v.gF n=true:=by
 apply AV.rec (motive_1:=fun v=>v.deep=true→v.gF n=true) (motive_2:=fun _=>True) (motive_3:=fun l=>cC l=true→qT n l=true)
 ·intro v _;rfl
 ·intro a b _ _;rfl
 ·intro a b _ _;rfl
 ·intro f a b ha hb h;simp only [AV.deep,qq7] at h;simp only [AV.gF,qq7];exact ⟨ha h.1,hb h.2⟩
 ·intro a ha h;simp only [AV.deep] at h;simp only [AV.gF];exact ha h
 ·intro a ha h;simp only [AV.deep] at h;simp only [AV.gF];exact ha h
 ·intro j v o h;simp [AV.deep] at h
 ·intro j v o n c h;simp [AV.deep] at h
 ·intro j h;simp [AV.deep] at h
 ·intro u _;rfl
 ·intro h;simp [AV.deep] at h
 ·trivial
 ·intros;trivial
 ·intro _;rfl
 ·intro a l ha hl h;simp only [cC,qq7] at h;simp only [qT,qq7];exact ⟨ha h.1,hl h.2⟩
theorem Bj {n:Nat} {v:Value}:(AV.fl v).gF n=true:=rfl
theorem Bk {n:Nat} {a:List (List AV)} {b:Bool}:(AV.sl a b).gF n=true:=rfl
theorem bq {a b:Int} (h:a=b):AV.fl (.int .i64 a)=AV.fl (.int .i64 b):=by rw [h]
theorem M9 {a b:Bool} (h:a=b):AV.fl (.bool a)=AV.fl (.bool b):=by rw [h]
theorem EU (one:Bool) (n lo hi:Int):aj TT TB one (.fn 84 [] [.pt [aC lo] 0,.pt [aC hi] 0]) [aC n] (BB (decide (n < lo) || decide (hi < n))):=by
 refine aj.body (fn:=Tryz.f84) rfl rfl rfl rfl ?_;refine qq1 ?_;repeat' first|(refine ⟨_,rfl,?_⟩)|(refine gm (by assumption) ?_)|(refine gR (by assumption) ?_)|(refine ⟨fun h=>?_,fun h=>?_⟩)|fail
 all_goals refine ⟨[_],⟨Fz.deep rfl,trivial⟩,?_⟩
 all_goals simp_all [CS]
theorem yz (one:Bool) (g:FuncId) (fs cs:List AV) (hF:(AV.fn g fs cs).deep=true) (p:Int→Bool) (l:List Int) (full:Bool) (hl:l.length≤maxLen) (hp:∀ n ∈ l,aj TT TB one (.fn g fs cs) [aC n] (BB (p n))) :
  Pu one 93 [.sl (ints l) full,.fn g fs cs] (aC (sF p l)):=by
 unfold maxLen at hl;refine aj.body (fn:=Tryz.f93) rfl rfl rfl rfl ?_;refine qq1 ?_
 skip
 refine av.aJ (ah.to (l:=[(0,.sl (ints l) full),(1,.fn g fs cs),(7,aC l.length),(8,aC ((0:Nat):Int))]) 0 rfl ⟨rfl,rfl,bq (by simp),rfl,trivial⟩ (qq6 _) (by simp [Bj,Bk,sG 0 _ hF]) rfl) ?_;refine av.loop (fun k:Nat=>k≤l.length∧∀ i (h:i < l.length),i < k→p l[i]=false) (fun k=>⟨aZ [(0,.sl (ints l) full),(1,.fn g fs cs),(7,aC l.length),(8,aC (k:Int))],[],bA.none,false,0⟩) (fun k=>l.length - k) ?_ 0 ⟨qq5 _,fun i _ hi=>absurd hi (by omega)⟩;intro k ⟨hk,hprev⟩;refine qq1 ?_;refine ⟨fun h=>?_,fun h=>?_⟩
 ·have hlt:k < l.length:=by simpa using h
  refine ⟨[aC l[k]],⟨by omega,by simp [hlt]⟩,rfl,?_⟩;repeat' first|refine u1 ?_|fail
  refine aj.call (hp l[k] (List.getElem_mem _)) hF rfl ?_;refine ⟨fun h2=>?_,fun h2=>?_⟩
  ·refine ⟨[_],⟨Fz.deep rfl,trivial⟩,?_⟩;rw [mG hlt hprev h2];rfl
  ·repeat' first|refine u2 ?_|fail
   refine ⟨k+1,⟨hlt,fun i hi hik=>?_⟩,(by dsimp only;omega),ah.to 0 rfl ⟨rfl,rfl,rfl,bq (by simp),trivial⟩ (qq6 _) (by simp [Bj,Bk,sG 0 _ hF]) rfl⟩;by_cases hik':i=k
   ·subst hik';exact h2
   ·exact hprev i hi (by omega)
 ·skip
  refine ⟨[_],⟨Fz.deep rfl,trivial⟩,?_⟩;have:k=l.length:=by simp at h;omega
  rw [mH fun i hi=>hprev i hi (by omega)];rfl
structure k8 where
 name:ByteArray
 full:Int
 first:Int
 weight:Int
structure Order where
 day:Int
 bw:List Int
structure ai where
 days:Int
 needs:List k8
 load:Int
 fail:Int
 row:Int
 possible:List Int
abbrev aQ (n:k8):List AV:=[ST n.name,aC n.full,aC n.first,aC n.weight]
abbrev aD (o:Order):List AV:=[aC o.day,.sl (ints o.bw) false]
abbrev ay (s:ai):List AV:=[aC s.days,.sl (s.needs.map aQ) false,aC s.load,aC s.fail,aC s.row,.sl (ints s.possible) false]
theorem tP (one:Bool) (g:FuncId) (fs cs:List AV) (hF:(AV.fn g fs cs).deep=true) (p:Int→Bool) (l:List Int) (full:Bool) (hl:l.length≤maxLen) (hp:∀ x ∈ l,aj TT TB one (.fn g fs cs) [aC x] (BB (p x))) :
  Pu one 83 [.sl (l.map eI) full,.fn g fs cs] (BB (l.any p)):=by
 refine aj.body (fn:=Tryz.f83) rfl rfl rfl rfl ?_;refine qq1 ?_
 skip
 refine aj.call (yz one g fs cs hF p l full hl hp) rfl (by simp only [cC,AV.deep,Bool.and_true,Bool.true_and];exact hF) ?_
 skip
 refine ⟨[_],⟨Fz.deep rfl,trivial⟩,?_⟩;rw [←Bi];rfl
theorem yA (one:Bool) (g:FuncId) (fs cs:List AV) (hF:(AV.fn g fs cs).deep=true) (p:k8→Bool) (l:List k8) (full:Bool) (hl:l.length≤maxLen) (hp:∀ x ∈ l,aj TT TB one (.fn g fs cs) [.ag (aQ x)] (BB (p x))) :
  Pu one 85 [.sl (l.map aQ) full,.fn g fs cs] (aC (sF p l)):=by
 unfold maxLen at hl;refine aj.body (fn:=Tryz.f85) rfl rfl rfl rfl ?_;refine qq1 ?_
 skip
 refine av.aJ (ah.to (l:=[(0,.sl (l.map aQ) full),(1,.fn g fs cs),(7,aC l.length),(8,aC ((0:Nat):Int))]) 0 rfl ⟨rfl,rfl,bq (by simp),rfl,trivial⟩ (qq6 _) (by simp [Bj,Bk,sG 0 _ hF]) rfl) ?_;refine av.loop (fun k:Nat=>k≤l.length∧∀ i (h:i < l.length),i < k→p l[i]=false) (fun k=>⟨aZ [(0,.sl (l.map aQ) full),(1,.fn g fs cs),(7,aC l.length),(8,aC (k:Int))],[],bA.none,false,0⟩) (fun k=>l.length - k) ?_ 0 ⟨qq5 _,fun i _ hi=>absurd hi (by omega)⟩;intro k ⟨hk,hprev⟩;refine qq1 ?_;refine ⟨fun h=>?_,fun h=>?_⟩
 ·have hlt:k < l.length:=by simpa using h
  skip
  refine ⟨aQ l[k],⟨by omega,by simp [hlt]⟩,rfl,?_⟩;repeat' first|refine u2 ?_|fail
  refine aj.call (hp l[k] (List.getElem_mem _)) hF rfl ?_;refine ⟨fun h2=>?_,fun h2=>?_⟩
  ·skip
   refine ⟨[_],⟨Fz.deep rfl,trivial⟩,?_⟩;rw [mG hlt hprev h2];rfl
  ·repeat' first|refine u2 ?_|fail
   refine ⟨k+1,⟨hlt,fun i hi hik=>?_⟩,(by dsimp only;omega),ah.to 0 rfl ⟨rfl,rfl,rfl,bq (by simp),trivial⟩ (qq6 _) (by simp [Bj,Bk,sG 0 _ hF]) rfl⟩;by_cases hik':i=k
   ·subst hik';exact h2
   ·exact hprev i hi (by omega)
 ·skip
  refine ⟨[_],⟨Fz.deep rfl,trivial⟩,?_⟩;have:k=l.length:=by simp at h;omega
  rw [mH fun i hi=>hprev i hi (by omega)];rfl
theorem tQ (one:Bool) (g:FuncId) (fs cs:List AV) (hF:(AV.fn g fs cs).deep=true) (p:k8→Bool) (l:List k8) (full:Bool) (hl:l.length≤maxLen) (hp:∀ x ∈ l,aj TT TB one (.fn g fs cs) [.ag (aQ x)] (BB (p x))) :
  Pu one 64 [.sl (l.map aQ) full,.fn g fs cs] (BB (l.any p)):=by
 refine aj.body (fn:=Tryz.f64) rfl rfl rfl rfl ?_;refine qq1 ?_
 skip
 refine aj.call (yA one g fs cs hF p l full hl hp) rfl (by simp only [cC,AV.deep,Bool.and_true,Bool.true_and];exact hF) ?_
 skip
 refine ⟨[_],⟨Fz.deep rfl,trivial⟩,?_⟩;rw [←Bi];rfl
def gB (lo hi:Int) (l:List Int):Bool:=l.any fun n=>decide (n < lo) || decide (hi < n)
def Qz:List AV→Int
 | [.fl (.int _ n)]=>n
 | _=>0
def Tp:List AV→Bool
 | [.fl (.int .i64 _)]=>true
 | _=>false
theorem allI:∀ {els:List (List AV)},els.all Tp=true→els=ints (els.map Qz)
 | [],_=>rfl
 | el :: els,h=>by
  simp only [List.all_cons,qq7] at h;have ih:=allI h.2
  have:el=eI (Qz el):=by
   have h1:=h.1;unfold Tp at h1;split at h1
   ·rfl
   ·cases h1
  show el :: els=eI (Qz el) :: ints (els.map Qz);rw [←this,←ih]
theorem Hw (one:Bool) (lo hi:Int) (els:List (List AV)) (full:Bool) (h:els.all Tp=true) (hl:els.length≤maxLen):Pu one 61 [aC lo,aC hi,.sl els full] (BB (gB lo hi (els.map Qz))):=by
 obtain ⟨l,hl'⟩:∃ l,els.map Qz=l:=⟨_,rfl⟩;have he:els=ints l:=by rw [←hl'];exact allI h
 rw [hl'];subst he;refine aj.body (fn:=Tryz.f61) rfl rfl rfl rfl ?_;refine qq1 ?_;repeat' first|refine u2 ?_|fail
 refine aj.call (tP one 84 [] _ rfl (fun n=>decide (n < lo) || decide (hi < n)) l full (by simpa using hl) (fun n _=>EU one n lo hi)) rfl rfl ?_
 skip
 refine ⟨[_],⟨Fz.deep rfl,trivial⟩,?_⟩;rfl
def zx:UInt8→List UInt8→Bool
 | last,[]=>decide (last.toNat ≠ 45)
 | last,c :: l=>if 97≤c.toNat∧c.toNat≤122 then zx c l else if c.toNat ≠ 45∨last.toNat=45 then false else zx c l
theorem C3 (last c:UInt8) (l:List UInt8):zx last (c :: l)=if 97≤c.toNat∧c.toNat≤122 then zx c l else if c.toNat ≠ 45∨last.toNat=45 then false else zx c l:=rfl
def jM (s:ByteArray):Bool:=decide (s.data.toList.length≤14) && zx 45 s.data.toList
theorem zy {s:ByteArray} {i:Nat} (h:i < s.data.toList.length):(s.get! i)=s.data.toList[i]:=by
 have:i < s.data.size:=by simpa using h
 simp only [ByteArray.get!,getElem!_pos s.data i this];simp
theorem Hx {s:ByteArray} {i:Nat} (h:i < s.data.toList.length) (hb:(s.data.toList[i]).toNat < 128):Utf8.decode s i=((s.data.toList[i]).toNat,1):=by unfold Utf8.decode;simp only [Nat.add_zero,zy h];rw [if_pos hb]
theorem Hy {s:ByteArray} {i:Nat} (h:i < s.data.toList.length) (hb:128≤(s.data.toList[i]).toNat):128≤(Utf8.decode s i).1:=by
 unfold Utf8.decode;simp only [Nat.add_zero,zy h,Utf8.runeError];rw [if_neg (by omega)];repeat' split
 all_goals simp_all
 all_goals omega
theorem QA (one : Bool) (s : ByteArray) (hs : s.data.toList.length ≤ maxLen) : Pu one 63 [ST s] (BB (jM s)) := by
  unfold maxLen at hs;refine aj.body (fn := Tryz.f63) rfl rfl rfl rfl ?_;refine aa (mu := fun _ => false) ?_
  skip
  refine av.aJ (ah.to (l := [(0, ST s), (7, .ptr 0 0 0), (3, .fl (.int .i32 (((45 : UInt8).toNat : Nat) : Int)))]) 1 rfl ⟨rfl, rfl, rfl, trivial⟩ (qq5 _) rfl rfl) ?_;refine av.loop (fun x : Nat × UInt8 => x.1 ≤ s.data.toList.length ∧ zx 45 s.data.toList = zx x.2 (s.data.toList.drop x.1)) (fun x => ⟨aZ [(0, ST s), (7, .ptr 0 0 0), (3, .fl (.int .i32 ((x.2.toNat : Nat) : Int)))], [.dU s x.1], bA.none, false, 0⟩) (fun x => s.data.toList.length - x.1) ?_ (0, 45) ⟨qq5 _, rfl⟩;intro ⟨pos, last⟩ ⟨hpos, hrel⟩;refine aa (mu := fun _ => false) ?_;have hdrop : ∀ h : pos < s.data.toList.length, s.data.toList.drop pos = s.data.toList[pos] :: s.data.toList.drop (pos + 1) := fun h => List.drop_eq_getElem_cons h;refine ⟨s, pos, rfl, fun hlt => ?_, fun hge => ?_⟩
  · rw [hdrop hlt] at hrel;simp only at hrel;generalize hc : s.data.toList[pos] = c at hrel;have hc256 : c.toNat < 256 := c.toNat_lt;rw [C3] at hrel;by_cases hb : c.toNat < 128
    · have hd := Hx hlt (by rw [hc]; exact hb);rw [hc] at hd;rw [hd];clear hd hc hdrop;repeat' first|(refine ⟨_, rfl, ?_⟩)|(refine gm (by assumption) ?_)|(refine gm rfl ?_)|(refine gR rfl ?_)|(refine gR (by assumption) ?_)|(refine ⟨_, _, rfl, rfl, _, rfl, rfl, ?_⟩)|(refine ⟨fun h => ?_, fun h => ?_⟩)|fail
      all_goals first
        | (refine ⟨(pos + 1, c), ⟨hlt, ?_⟩, (by dsimp only; omega), ah.to 1 rfl ⟨rfl, rfl, rfl, trivial⟩ (qq5 _) rfl rfl⟩
           first
             | rw [hrel, if_pos (by simp at *; omega)]
             | rw [hrel, if_neg (by simp at *; omega), if_neg (by simp at *; omega)])
        | (refine ⟨[_], ⟨Fz.deep rfl, trivial⟩, M9 ?_⟩
           rw [jM, hrel, if_neg (by simp at *; omega), if_pos (by simp at *; omega)]
           simp)
    · have hd := Hy hlt (by rw [hc]; omega);generalize Utf8.decode s pos = d at hd;clear hc hdrop;repeat' first|(refine ⟨_, rfl, ?_⟩)|(refine gm (by assumption) ?_)|(refine gm rfl ?_)|(refine gR rfl ?_)|(refine gR (by assumption) ?_)|(refine ⟨_, _, rfl, rfl, _, rfl, rfl, ?_⟩)|(refine ⟨fun h => ?_, fun h => ?_⟩)|fail
      all_goals first
        | (exfalso; simp at *; omega)
        | (refine ⟨[_], ⟨Fz.deep rfl, trivial⟩, M9 ?_⟩
           rw [jM, hrel, if_neg (by omega), if_pos (by omega)]
           simp)
  · have hlen : pos = s.data.toList.length := by simp only at hpos; omega
    subst hlen;simp only [List.drop_length, zx] at hrel;repeat' first|(refine ⟨_, rfl, ?_⟩)|(refine gm (by assumption) ?_)|(refine gR rfl ?_)|(refine gR (by assumption) ?_)|(refine ⟨_, _, rfl, rfl, _, rfl, rfl, ?_⟩)|(refine ⟨fun h => ?_, fun h => ?_⟩)|fail
    all_goals refine ⟨[_], ⟨Fz.deep rfl, trivial⟩, M9 ?_⟩
    all_goals rw [jM, hrel, Bool.eq_iff_iff]
    all_goals simp at *
    all_goals omega
def EV (a b:ByteArray):Bool:=a.toList == b.toList
def eE (n:Nat) (e:Nat→Int):Int × Int:=match (List.range n).find? (fun i=>e i != 0) with
 | some i=>((i:Int),e i)
 | none=>(0,0)
theorem oW {n k:Nat} {e:Nat→Int} (hk:k < n) (hprev:∀ i,i < k→e i=0) (h:e k ≠ 0):eE n e=((k:Int),e k):=by
 unfold eE;have:(List.range n).find? (fun i=>e i != 0)=some k:=by rw [List.find?_range_eq_some];exact ⟨by simpa using h,by simpa using hk,fun j hj=>by simp [hprev j hj]⟩
 rw [this]
theorem iq {n:Nat} {e:Nat→Int} (hprev:∀ i,i < n→e i=0):eE n e=(0,0):=by
 unfold eE;have:(List.range n).find? (fun i=>e i != 0)=none:=by rw [List.find?_eq_none];intro x hx;simp [hprev x (by simpa using hx)]
 rw [this]
def qE (n lo hi:Int):Bool:=decide (lo≤n) && decide (n≤hi)
theorem nD {n lo hi:Int}:qE n lo hi=true ↔ lo≤n∧n≤hi:=by simp [qE]
theorem bY (n lo hi:Int):gB lo hi [n]=!qE n lo hi:=by unfold gB qE;rw [Bool.eq_iff_iff];simp
theorem nE (one:Bool) (n lo hi:Int):Pu one 70 [aC n,aC lo,aC hi] (BB (qE n lo hi)):=by
 refine aj.body (fn:=Tryz.f70) rfl rfl rfl rfl ?_;refine qq1 ?_;repeat' first|(refine gm (by assumption) ?_)|(refine gR (by assumption) ?_)|(refine ⟨fun h=>?_,fun h=>?_⟩)|fail
 all_goals refine ⟨[_],⟨Fz.deep rfl,trivial⟩,M9 ?_⟩
 all_goals simp_all [qE]
 all_goals omega
theorem QB (one:Bool) (n lo hi:Int):Pu one 96 [aC n,aC lo,aC hi] (BB (qE n lo hi)):=by
 refine aj.body (fn:=Tryz.f96) rfl rfl rfl rfl ?_;refine qq1 ?_;repeat' first|(refine gm (by assumption) ?_)|(refine gR (by assumption) ?_)|(refine ⟨fun h=>?_,fun h=>?_⟩)|fail
 all_goals refine ⟨[_],⟨Fz.deep rfl,trivial⟩,M9 ?_⟩
 all_goals simp_all [qE]
 all_goals omega
theorem zA {s:ByteArray} {k:Nat} (h:k < s.data.toList.length):eK (aG TT.P (Instr.index 9 (.string s) (.int .i64 (k:Int))))=some (.int .u8 ((s.data.toList[k].toNat:Nat):Int),.none):=by
 have hk:k < s.size:=by rwa [Array.length_toList] at h
 have e:(if (0:Int)≤(k:Int) then s[(k:Int).toNat]? else none)=some (s.data.toList[k]):=by rw [if_pos (by omega),Int.toNat_natCast];rw [getElem?_pos s k hk];rfl
 unfold Instr.index
 show eK (aG TT.P (match (if (0:Int)≤(k:Int) then s[(k:Int).toNat]? else none) with
  | some b=>pure (.int .u8 b.toNat)
  | none=>boundsPanic .i64 k s.size .index))=_
 rw [e];rfl
theorem bp {α β:Type} {f:α→β} {l:List α} {k:Nat} (h:k < l.length):(l.map f)[((k:Nat):Int).toNat]?=some (f l[k]):=by rw [Int.toNat_natCast,List.getElem?_map,List.getElem?_eq_getElem h];rfl
def lK (l:List UInt8):Nat→UInt8
 | 0=>45
 | k+1=>l[k]?.getD 45
theorem nF {l:List UInt8} {k:Nat} (h:k < l.length):lK l (k+1)=l[k]:=by show (l[k]?).getD 45=l[k];rw [List.getElem?_eq_getElem h];rfl
theorem Lh {l:List UInt8} {k:Nat} (h:k < l.length):zx (lK l k) (l.drop k)=if 97≤l[k].toNat∧l[k].toNat≤122 then zx (lK l (k+1)) (l.drop (k+1)) else if l[k].toNat ≠ 45∨(lK l k).toNat=45 then false else zx (lK l (k+1)) (l.drop (k+1)):=by rw [List.drop_eq_getElem_cons h,C3,nF h]
theorem Na {l:List UInt8} {k:Nat} (h:k+1=l.length) (h45:l[k].toNat=45):zx (lK l (k+1)) (l.drop (k+1))=false:=by rw [nF (by omega),h,List.drop_length];unfold zx;simp [h45]
abbrev eS (s:ByteArray):List AV:=[ST s]
theorem Nb (one:Bool) (names:List ByteArray) (full:Bool) (s:ByteArray) (hl:names.length≤maxLen):Pu one 89 [.sl (names.map eS) full,ST s] (aC (sF (fun x=>EV x s) names)):=by
 unfold maxLen at hl;refine aj.body (fn:=Tryz.f89) rfl rfl rfl rfl ?_;refine qq1 ?_
 skip
 refine av.aJ (ah.to (l:=[(0,.sl (names.map eS) full),(1,ST s),(5,aC ((0:Nat):Int))]) 0 rfl ⟨rfl,rfl,rfl,trivial⟩ (qq6 _) rfl rfl) ?_;refine av.loop (fun k:Nat=>k≤names.length∧∀ i (h:i < names.length),i < k→EV names[i] s=false) (fun k=>⟨aZ [(0,.sl (names.map eS) full),(1,ST s),(5,aC (k:Int))],[],bA.none,false,0⟩) (fun k=>names.length - k) ?_ 0 ⟨qq5 _,fun i _ hi=>absurd hi (by omega)⟩;intro k ⟨hk,hprev⟩;refine qq1 ?_
 skip
 refine ⟨fun h=>?_,fun h=>?_⟩
 ·have hlt:k < names.length:=by simpa using h
  skip
  refine ⟨eS names[k],⟨by omega,bp hlt⟩,rfl,?_⟩;repeat' first|refine u1 ?_|refine u2 ?_|fail
  refine ⟨fun h2=>?_,fun h2=>?_⟩
  ·skip
   refine ⟨[_],⟨Fz.deep rfl,trivial⟩,bq ?_⟩;exact (mG hlt hprev h2).symm
  ·repeat' first|refine u2 ?_|fail
   refine ⟨k+1,⟨hlt,fun i hi hik=>?_⟩,(by dsimp only;omega),ah.to 0 rfl ⟨rfl,rfl,bq (by simp),trivial⟩ (qq6 _) rfl rfl⟩;by_cases hik':i=k
   ·subst hik';exact h2
   ·exact hprev i hi (by omega)
 ·skip
  refine ⟨[_],⟨Fz.deep rfl,trivial⟩,bq ?_⟩;have:k=names.length:=by simp at h;omega
  rw [mH fun i hi=>hprev i hi (by omega)]
theorem Nc (one : Bool) (s : ByteArray) (hs : s.data.toList.length ≤ maxLen) : Pu one 88 [ST s] (BB (jM s)) := by
  unfold maxLen at hs;refine aj.body (fn := Tryz.f88) rfl rfl rfl rfl ?_;refine aa (mu := fun _ => false) ?_;repeat' first|(refine aj.call (QB one _ _ _) rfl rfl ?_)|fail
  refine ⟨fun h => ?_, fun h => ?_⟩
  · skip
    refine ⟨[_], ⟨Fz.deep rfl, trivial⟩, M9 ?_⟩;have h : ¬ (1 ≤ s.data.toList.length ∧ s.data.toList.length ≤ 14) := by rw [Bool.not_eq_true', ← Bool.not_eq_true, nD] at h;omega
    unfold jM;generalize s.data.toList = l at h
    cases l with
    | nil => simp [zx]
    | cons a l =>have : 0 < (a :: l).length := Nat.succ_pos _;rw [decide_eq_false (by omega)];rfl
  · have h : 1 ≤ s.data.toList.length ∧ s.data.toList.length ≤ 14 := by rw [Bool.not_eq_false', nD] at h;omega
    have hn : jM s = zx 45 s.data.toList := by unfold jM;rw [decide_eq_true h.2, Bool.true_and]
    skip
    refine av.aJ (ah.to (l := [(0, ST s), (3, aC ((0 : Nat) : Int))]) 0 rfl ⟨rfl, rfl, trivial⟩ (qq6 _) rfl rfl) ?_;refine av.loop (fun k : Nat => k ≤ s.data.toList.length ∧ jM s = zx (lK s.data.toList k) (s.data.toList.drop k) ∧ (k = s.data.toList.length → (lK s.data.toList k).toNat ≠ 45)) (fun k => ⟨aZ [(0, ST s), (3, aC (k : Int))], [], bA.none, false, 0⟩) (fun k => s.data.toList.length - k) ?_ 0 ⟨qq5 _, hn, fun h0 => by omega⟩;intro k ⟨hk, hrel, hlast⟩;refine aa (mu := fun _ => false) ?_
    skip
    refine ⟨fun h => ?_, fun h => ?_⟩
    · have hlt : k < s.data.toList.length := by rw [decide_eq_true_eq] at h; omega
      rw [Lh hlt] at hrel;have hix := zA hlt;generalize hc : s.data.toList[k] = c at hrel hix;have hix1 : 0 < k → eK (aG TT.P (Instr.index 9 (.string s) (.int .i64 ((k : Int) - 1)))) = some (.int .u8 (((lK s.data.toList k).toNat : Nat) : Int), .none) := by intro h0;obtain ⟨m, rfl⟩ : ∃ m, k = m + 1 := ⟨k - 1, by omega⟩;rw [nF (by omega), show (((m + 1 : Nat) : Int) - 1) = ((m : Nat) : Int) from by omega];exact zA (by omega)
      have hl0 : k = 0 → (lK s.data.toList k).toNat = 45 := by rintro rfl;rfl
      have hend : k + 1 = s.data.toList.length → c.toNat = 45 → zx (lK s.data.toList (k + 1)) (s.data.toList.drop (k + 1)) = false := fun h1 h2 => Na h1 (by rw [hc]; exact h2);have hsucc : lK s.data.toList (k + 1) = c := by rw [nF hlt, hc]
      clear hc hn hlast;generalize lK s.data.toList k = d at hrel hix1 hl0;generalize hr : zx (lK s.data.toList (k + 1)) (s.data.toList.drop (k + 1)) = r at hrel hend;repeat' first|(refine gm (by assumption) ?_)|(refine gm rfl ?_)|(refine gR rfl ?_)|(refine gR (by assumption) ?_)|(refine And.intro (by omega) ?_)|(refine ⟨_, _, rfl, rfl, _, rfl, rfl, ?_⟩)|(refine ⟨_, _, rfl, rfl, _, hix, rfl, ?_⟩)|(refine ⟨_, _, rfl, rfl, _, hix1 (by rcases Nat.eq_zero_or_pos k with h0 | h0; (exfalso; simp_all); exact h0), rfl, ?_⟩)|(refine ⟨fun h => ?_, fun h => ?_⟩)|fail
      all_goals first
        | (refine ⟨k + 1, ⟨hlt, ?_, fun h1 => by rw [hsucc]; clear hix hix1 hr hsucc; simp at *; omega⟩, (by dsimp only; omega), ah.to 0 rfl ⟨rfl, bq (by simp), trivial⟩ (qq6 _) rfl rfl⟩
           rw [hr]
           first
             | rw [hrel, if_pos (by simp at *; omega)]
             | rw [hrel, if_neg (by simp at *; omega), if_neg (by simp at *; omega)])
        | (refine ⟨[_], ⟨Fz.deep rfl, trivial⟩, M9 ?_⟩
           rw [hrel, if_neg (by simp at *; omega)];split
           · rfl
           · exact (hend (by simp at *; omega) (by simp at *; omega)).symm)
    · skip
      refine ⟨[_], ⟨Fz.deep rfl, trivial⟩, M9 ?_⟩;have : k = s.data.toList.length := by rw [decide_eq_false_iff_not] at h; omega
      rw [hrel, this, List.drop_length];have := hlast this;rw [‹k = s.data.toList.length›] at this;unfold zx;simp only [ne_eq, this, not_false_eq_true, decide_true]
def mI (name:ByteArray) (names:List ByteArray):Int:=if jM name=false then 6 else if names.any (fun x=>EV x name) then 5 else 0
theorem Nd (one:Bool) (names:List ByteArray) (full:Bool) (s:ByteArray) (hs:s.data.toList.length≤maxLen) (hl:names.length≤maxLen):Pu one 71 [ST s,.sl (names.map eS) full] (aC (mI s names)):=by
 have hg:=Bi (fun x=>EV x s) names;have hc:=Nb one names full s hl;unfold mI;generalize sF (fun x=>EV x s) names=i at hg hc;generalize names.any (fun x=>EV x s)=b at hg;refine aj.body (fn:=Tryz.f71) rfl rfl rfl rfl ?_;refine qq1 ?_;repeat' first |with_reducible (first|refine K8 ?_|refine MW ?_|refine MX ?_|refine CX ?_)|(refine aj.call (Nc one _ hs) rfl rfl ?_)|(refine aj.call hc rfl rfl ?_)|(refine ⟨fun h=>?_,fun h=>?_⟩)|fail
 all_goals refine ⟨[_],⟨Fz.deep rfl,trivial⟩,bq ?_⟩
 all_goals simp_all
