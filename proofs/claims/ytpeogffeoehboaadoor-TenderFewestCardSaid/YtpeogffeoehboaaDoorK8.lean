/-
  Contracts of the program's functions and of the document's. Lemmas alone; their conditions stand in them.
-/
import Derived.Test.YtpeogffeoehboaaDoorA3
import Derived.Test.YtpeogffeoehboaaDoorK3
import Derived.Test.YtpeogffeoehboaaDoorK4
import Derived.Test.YtpeogffeoehboaaDoorK6
import Derived.Test.YtpeogffeoehboaaDoorK7
open Go Go.RM
namespace Go.Proofs.YtpeogffeoehboaaDoor
set_option maxRecDepth 100000
set_option maxHeartbeats 4000000
theorem BS (one:Bool) {m:Nat} (hm:m < 256):Pu one 79 [fU m] (aC (lA m:Nat)):=by
 have o1:=Oo one hm
 refine ah.body (fn:=Tryd.f79) rfl rfl rfl rfl ?_
 refine aa (mu:=fun _=>false) ?_
 repeat' (first |refine u1 ?_ |((with_reducible show av _ _ _ _ _ _ _ _);refine ah.call o1 rfl rfl ?_) |refine u2 ?_ |fail)
 exact ⟨[_],⟨Fz.deep rfl,trivial⟩,rfl⟩
theorem Oq (one:Bool) {m:Nat} (hm:m < 256):Pu one 81 [fU m] (aC (Lib.ctz 64 m)):=by
 have o1:=Oj one hm
 refine ah.body (fn:=Tryd.f81) rfl rfl rfl rfl ?_
 refine aa (mu:=fun _=>false) ?_
 repeat' (first |refine u1 ?_ |((with_reducible show av _ _ _ _ _ _ _ _);refine ah.call o1 rfl rfl ?_) |refine u2 ?_ |fail)
 exact ⟨[_],⟨Fz.deep rfl,trivial⟩,rfl⟩
def aL (f:Nat):List Int:=((List.range 8).filter fun i=>f.testBit i).map fun i:Nat=>((i:Nat):Int)
theorem JE:((List.range 256).all fun f=>f == 0 || decide (aL f=(Lib.ctz 64 f:Int) :: aL (f &&& (f - 1))))=true:=by kernel_rfl
theorem xW {f:Nat} (h:f < 256) (h0:f ≠ 0):aL f=(Lib.ctz 64 f:Int) :: aL (f &&& (f - 1)):=by
 have:=List.all_eq_true.1 JE f (List.mem_range.2 h)
 rw [Bool.or_eq_true] at this
 rcases this with h1|h1
 ·exact absurd (by simpa using h1) h0
 ·exact of_decide_eq_true h1
theorem og (f:Nat):(aL f).length≤8:=by
 unfold aL
 rw [List.length_map]
 exact Nat.le_trans (List.length_filter_le _ _) (by simp)
theorem xX (l:List Int) (v:Nat):([.cells (jU l) 1 v]:List AB).all (AB.gS 1)=true:=by
 have h:AB.gS 1 (.cells (jU l) 1 v)=true:=qD 1 (fun _=>rfl) _
 simp only [List.all_cons,List.all_nil,h,Bool.and_true]
theorem zI (one:Bool) {f:Nat} (hf:f < 256):Pu one 61 [fU f] (.sl (ints (aL f)) false):=by
 have h8:=og f
 refine ah.body (fn:=Tryd.f61) rfl rfl rfl rfl ?_
 refine aa (mu:=fun t=>Nat.beq t 13) ?_
 repeat' (first |refine u1 ?_ |refine u2 ?_ |fail)
 refine aA.aU (ak.trans (ak.vj 1) (ak.OY (l:=[(0,fU (f,([]:List Int),(0:Nat),(0:Nat)).1),(2,.bO 0 (f,([]:List Int),(0:Nat),(0:Nat)).2.2.1 0 (f,([]:List Int),(0:Nat),(0:Nat)).2.1.length (f,([]:List Int),(0:Nat),(0:Nat)).2.2.2)]) (hp:=[.cells (jU (f,([]:List Int),(0:Nat),(0:Nat)).2.1) 1 (f,([]:List Int),(0:Nat),(0:Nat)).2.2.1]) 1 rfl ⟨cw.refl _,cw.vi,trivial⟩ (Nat.zero_le _) rfl (xX _ _))) ?_
 refine aA.loop (fun x:Nat × List Int × Nat × Nat=>x.1 < 256∧x.2.1++aL x.1=aL f∧(x.2.2.2=x.2.1.length∨x.2.2.2=x.2.1.length+1)) (fun x=>⟨bu [(0,fU x.1),(2,.bO 0 x.2.2.1 0 x.2.1.length x.2.2.2)],[.cells (jU x.2.1) 1 x.2.2.1],bR.none,false,0⟩) (fun x=>(aL x.1).length) ?_ (f,[],0,0) ⟨hf,rfl,.inl rfl⟩
 rintro ⟨g,l,aB,c⟩ ⟨hg,hl,hcap⟩
 dsimp only at hg hl hcap
 show aA _ _ _ _ ⟨bu [(0,fU (g,l,aB,c).1),(2,.bO 0 (g,l,aB,c).2.2.1 0 (g,l,aB,c).2.1.length (g,l,aB,c).2.2.2)],[.cells (jU (g,l,aB,c).2.1) 1 (g,l,aB,c).2.2.1],bR.none,false,0⟩ _
 dsimp only
 refine aa (mu:=fun t=>Nat.beq t 13) ?_
 by_cases h0:g=0
 ·subst h0
  have d1:(!decide (((0:Nat):Int)=0))=false:=by decide
  have he:l=aL f:=by rw [←hl,show aL 0=[] from rfl,List.append_nil]
  rw [←he]
  repeat' (first |((with_reducible show aJ _ _ _ _ _ _ _ _ _);refine RM.MC rfl rfl ?_) |refine u1 ?_ |refine u2 ?_ |fail)
  exact ⟨[_],⟨Fz.row (es:=1) rfl (by rw [List.length_map];omega) (by rw [List.length_map]) (fun el hel=>by obtain ⟨x,_,rfl⟩:=List.mem_map.1 hel;rfl) (by rw [oe,List.drop_zero,List.take_of_length_le (by rw [List.length_map];omega)]) (by rw [oe];exact xS _) (fun h=>Bool.noConfusion h),trivial⟩,rfl⟩
 ·have d1:(!decide ((g:Int)=0))=true:=by rw [decide_eq_false (by omega)];rfl
  have hs:=xW hg h0
  have ot:=Oq one hg
  have hle:g &&& (g - 1)≤g:=Nat.and_le_left
  have hgl:(jU l).length=l.length:=by rw [List.length_map]
  have hl8:l.length≤8:=by
   have:=congrArg List.length hl
   rw [List.length_append] at this
   omega
  generalize (Lib.ctz 64 g:Int)=z at *
  repeat' (first |((with_reducible show aJ _ _ _ _ _ _ _ _ _);refine RM.MC rfl rfl ?_) |((with_reducible show aJ _ _ _ _ _ _ _ _ _);refine RM.Qm rfl rfl (by omega) (by omega) ?_) |((with_reducible show aJ _ _ _ _ _ _ _ _ _);refine RM.BI rfl rfl (by omega) (by omega) ?_) |((with_reducible show RM.wpOp _ _ (.call _) _ _ _);refine RM.Jc (cs:=jU l) (n:=l.length) (els:=[eI z]) rfl rfl rfl rfl rfl (fun el hel=>by rw [List.mem_singleton.1 hel];rfl) rfl rfl (by rw [hgl];exact (Nat.mul_one _).symm) hcap (by simp only [List.length_singleton];omega) (fun v' c' hc'=>?_)) |refine u1 ?_ |((with_reducible show av _ _ _ _ _ _ _ _);refine ah.call ot rfl rfl ?_) |refine u2 ?_ |fail)
  refine ⟨(g &&& (g - 1),l++[z],v',c'),⟨by dsimp only;omega,?_,?_⟩,?_,?_⟩
  ·dsimp only
   rw [←hl,hs,List.append_assoc]
   rfl
  ·dsimp only
   rw [List.length_append]
   exact hc'
  ·dsimp only
   rw [hs]
   exact Nat.lt_succ_self _
  ·exact ak.to 1 (by dsimp only;unfold jU;rw [List.map_append];rfl) ⟨rfl,(by rw [List.length_append];rfl),trivial⟩ (Nat.zero_le _) rfl (xX _ _)
def KX (x y:Int):Int:=if x < y then -1 else if y < x then 1 else 0
def rR:List Int→List Int→Int
 | [],[]=>0
 | [],_ :: _=>-1
 | _ :: _,[]=>1
 | x :: a,y :: b=>if KX x y ≠ 0 then KX x y else rR a b
theorem FC (x y:Int) (a b:List Int):rR (x :: a) (y :: b)=if KX x y ≠ 0 then KX x y else rR a b:=rfl
theorem MF (one:Bool) (x:Int):Pu one 93 [aC x] (BB false):=by
 have d1:(!decide (x=x))=false:=by rw [decide_eq_true rfl];rfl
 refine ah.body (fn:=Tryd.f93) rfl rfl rfl rfl ?_
 refine aa (mu:=fun _=>false) ?_
 repeat' (first |refine u1 ?_ |refine u2 ?_ |fail)
 exact ⟨[_],⟨Fz.deep rfl,trivial⟩,KF d1⟩
theorem Qt (one:Bool) (x y:Int):Pu one 88 [aC x,aC y] (aC (KX x y)):=by
 have o1:=MF one x
 have o2:=MF one y
 unfold KX
 by_cases h1:x < y
 ·have d1:=decide_eq_true h1
  rw [if_pos h1]
  refine ah.body (fn:=Tryd.f88) rfl rfl rfl rfl ?_
  refine aa (mu:=fun _=>false) ?_
  repeat' (first |refine u1 ?_ |((with_reducible show av _ _ _ _ _ _ _ _);refine ah.call o1 rfl rfl ?_) |((with_reducible show av _ _ _ _ _ _ _ _);refine ah.call o2 rfl rfl ?_) |refine u2 ?_ |fail)
  exact ⟨[_],⟨Fz.deep rfl,trivial⟩,rfl⟩
 ·have d1:=decide_eq_false h1
  rw [if_neg h1]
  by_cases h2:y < x
  ·have d2:=decide_eq_true h2
   rw [if_pos h2]
   refine ah.body (fn:=Tryd.f88) rfl rfl rfl rfl ?_
   refine aa (mu:=fun _=>false) ?_
   repeat' (first |refine u1 ?_ |((with_reducible show av _ _ _ _ _ _ _ _);refine ah.call o1 rfl rfl ?_) |((with_reducible show av _ _ _ _ _ _ _ _);refine ah.call o2 rfl rfl ?_) |refine u2 ?_ |fail)
   exact ⟨[_],⟨Fz.deep rfl,trivial⟩,rfl⟩
  ·have d2:=decide_eq_false h2
   rw [if_neg h2]
   refine ah.body (fn:=Tryd.f88) rfl rfl rfl rfl ?_
   refine aa (mu:=fun _=>false) ?_
   repeat' (first |refine u1 ?_ |((with_reducible show av _ _ _ _ _ _ _ _);refine ah.call o1 rfl rfl ?_) |((with_reducible show av _ _ _ _ _ _ _ _);refine ah.call o2 rfl rfl ?_) |refine u2 ?_ |fail)
   exact ⟨[_],⟨Fz.deep rfl,trivial⟩,rfl⟩
theorem JF (one:Bool) (a b:List Int) (fa fb:Bool) (ha:a.length≤maxLen) (hb:b.length≤maxLen):Pu one 80 [.sl (ints a) fa,.sl (ints b) fb] (aC (rR a b)):=by
 have ma:a.length≤9223372036854775807:=Nat.le_trans ha (by simp [maxLen])
 have mb:b.length≤9223372036854775807:=Nat.le_trans hb (by simp [maxLen])
 have ea:((ints a).length:Int)=a.length:=by simp
 have eb:((ints b).length:Int)=b.length:=by simp
 obtain ⟨n,hn⟩:∃ n:Int,n=a.length:=⟨_,rfl⟩
 refine ah.body (fn:=Tryd.f80) rfl rfl rfl rfl ?_
 refine aa (mu:=fun _=>false) ?_
 repeat' (first |refine u1 ?_ |refine u2 ?_ |fail)
 refine aA.aU (ak.to (l:=[(0,.sl (ints a) fa),(1,.sl (ints b) fb),(9,.sl (ints a) fa),(10,aC n),(11,aC (0:Nat))]) (hp:=[]) 0 rfl ⟨rfl,rfl,rfl,bM (by rw [hn];exact ea),rfl,trivial⟩ (Nat.zero_le _) rfl rfl) ?_
 refine aA.loop (fun k:Nat=>k≤a.length∧rR a b=rR (a.drop k) (b.drop k)) (fun k=>⟨bu [(0,.sl (ints a) fa),(1,.sl (ints b) fb),(9,.sl (ints a) fa),(10,aC n),(11,aC (k:Nat))],[],bR.none,false,0⟩) (fun k=>a.length - k) ?_ 0 ⟨Nat.zero_le _,rfl⟩
 rintro k ⟨hk,hrel⟩
 refine aa (mu:=fun _=>false) ?_
 by_cases hlt:k < a.length
 ·have d1:decide ((k:Int) < n)=true:=decide_eq_true (by omega)
  have hat:(ints a)[((k:Nat):Int).toNat]?=some (eI a[k]):=bY hlt
  by_cases hbt:k < b.length
  ·have d2:decide (((ints b).length:Int)≤(k:Int))=false:=decide_eq_false (by omega)
   have hat2:(ints b)[((k:Nat):Int).toNat]?=some (eI b[k]):=bY hbt
   rw [List.drop_eq_getElem_cons hlt,List.drop_eq_getElem_cons hbt] at hrel
   have os:=Qt one a[k] b[k]
   rw [FC] at hrel
   generalize a[k]=x at *
   generalize b[k]=y at *
   by_cases hs:KX x y=0
   ·rw [if_neg (by omega)] at hrel
    rw [hs] at os
    have z0:(!decide ((0:Int)=0))=false:=by decide
    repeat' (first |refine u1 ?_ |((with_reducible show RM.wpOp _ _ (.indexAddr _ _ _) _ _ _);refine ⟨eI x,⟨by omega,hat⟩,rfl,?_⟩) |((with_reducible show RM.wpOp _ _ (.indexAddr _ _ _) _ _ _);refine ⟨eI y,⟨by omega,hat2⟩,rfl,?_⟩) |((with_reducible show av _ _ _ _ _ _ _ _);refine ah.call os rfl rfl ?_) |refine u2 ?_ |fail)
    exact ⟨k+1,⟨hlt,hrel⟩,(by dsimp only;omega),ak.to 0 rfl ⟨rfl,rfl,rfl,rfl,bM (by simp),trivial⟩ (Nat.zero_le _) rfl rfl⟩
   ·rw [if_pos hs] at hrel
    rw [hrel]
    have z0:(!decide (KX x y=0))=true:=by rw [decide_eq_false hs];rfl
    generalize KX x y=w at *
    repeat' (first |refine u1 ?_ |((with_reducible show RM.wpOp _ _ (.indexAddr _ _ _) _ _ _);refine ⟨eI x,⟨by omega,hat⟩,rfl,?_⟩) |((with_reducible show RM.wpOp _ _ (.indexAddr _ _ _) _ _ _);refine ⟨eI y,⟨by omega,hat2⟩,rfl,?_⟩) |((with_reducible show av _ _ _ _ _ _ _ _);refine ah.call os rfl rfl ?_) |refine u2 ?_ |fail)
    exact ⟨[_],⟨Fz.deep rfl,trivial⟩,rfl⟩
  ·have d2:decide (((ints b).length:Int)≤(k:Int))=true:=decide_eq_true (by omega)
   rw [List.drop_eq_getElem_cons hlt,List.drop_eq_nil_of_le (by omega:b.length≤k)] at hrel
   rw [hrel]
   generalize a[k]=x at *
   repeat' (first |refine u1 ?_ |((with_reducible show RM.wpOp _ _ (.indexAddr _ _ _) _ _ _);refine ⟨eI x,⟨by omega,hat⟩,rfl,?_⟩) |refine u2 ?_ |fail)
   exact ⟨[_],⟨Fz.deep rfl,trivial⟩,rfl⟩
 ·have d1:decide ((k:Int) < n)=false:=decide_eq_false (by omega)
  rw [List.drop_eq_nil_of_le (by omega:a.length≤k)] at hrel
  by_cases hab:a.length < b.length
  ·have d3:decide (((ints a).length:Int) < ((ints b).length:Int))=true:=decide_eq_true (by omega)
   rw [List.drop_eq_getElem_cons (by omega:k < b.length)] at hrel
   rw [hrel]
   repeat' (first |refine u1 ?_ |refine u2 ?_ |fail)
   exact ⟨[_],⟨Fz.deep rfl,trivial⟩,rfl⟩
  ·have d3:decide (((ints a).length:Int) < ((ints b).length:Int))=false:=decide_eq_false (by omega)
   rw [List.drop_eq_nil_of_le (by omega:b.length≤k)] at hrel
   rw [hrel]
   repeat' (first |refine u1 ?_ |refine u2 ?_ |fail)
   exact ⟨[_],⟨Fz.deep rfl,trivial⟩,rfl⟩
structure gj where
 f:Nat
 day:Int
 need:Int
abbrev vR (b:gj):List AV:=[fU b.f,aC b.day,aC b.need]
structure gj.Ok (b:gj):Prop where
 f:b.f < 256
 day:0≤b.day∧b.day≤60
 need:0≤b.need∧b.need≤3
theorem KY (one:Bool) {a b:gj} (ha:a.Ok) (hb:b.Ok):Pu one 57 [.ag (vR a),.ag (vR b)] (aC (a.day - b.day)):=by
 have h1:=ha.day
 have h2:=hb.day
 refine ah.body (fn:=Tryd.f57) rfl rfl rfl rfl ?_
 refine aa (mu:=fun _=>false) ?_
 repeat' (first |refine u1 ?_ |refine u2 ?_ |fail)
 exact ⟨[_],⟨Fz.deep rfl,trivial⟩,rfl⟩
theorem JG (one:Bool) {a b:gj} (ha:a.Ok) (hb:b.Ok):Pu one 58 [.ag (vR a),.ag (vR b)] (aC (a.need - b.need)):=by
 have h1:=ha.need
 have h2:=hb.need
 refine ah.body (fn:=Tryd.f58) rfl rfl rfl rfl ?_
 refine aa (mu:=fun _=>false) ?_
 repeat' (first |refine u1 ?_ |refine u2 ?_ |fail)
 exact ⟨[_],⟨Fz.deep rfl,trivial⟩,rfl⟩
theorem JH (one:Bool) {a b:gj} (ha:a.Ok) (hb:b.Ok):Pu one 59 [.ag (vR a),.ag (vR b)] (aC ((lA a.f:Nat) - (lA b.f:Nat))):=by
 have h1:=JD a.f
 have h2:=JD b.f
 have o1:=BS true ha.f
 have o2:=BS true hb.f
 generalize lA a.f=x at *
 generalize lA b.f=y at *
 refine ah.body (fn:=Tryd.f59) rfl rfl rfl rfl ?_
 refine aa (mu:=fun _=>false) ?_
 repeat' (first |refine u1 ?_ |(refine ⟨_,o1,?_⟩) |(refine ⟨_,o2,?_⟩) |refine u2 ?_ |fail)
 exact ⟨[_],⟨Fz.deep rfl,trivial⟩,rfl⟩
theorem JI (one:Bool) {a b:gj} (ha:a.Ok) (hb:b.Ok):Pu one 60 [.ag (vR a),.ag (vR b)] (aC (rR (aL a.f) (aL b.f))):=by
 have h1:=og a.f
 have h2:=og b.f
 have o1:=zI true ha.f
 have o2:=zI true hb.f
 have o3:=JF true (aL a.f) (aL b.f) false false (by simp [maxLen];omega) (by simp [maxLen];omega)
 refine ah.body (fn:=Tryd.f60) rfl rfl rfl rfl ?_
 refine aa (mu:=fun _=>false) ?_
 repeat' (first |refine u1 ?_ |(refine ⟨_,o1,?_⟩) |(refine ⟨_,o2,?_⟩) |(refine ⟨_,o3,?_⟩) |refine u2 ?_ |fail)
 exact ⟨[_],⟨Fz.deep rfl,trivial⟩,rfl⟩
end Go.Proofs.YtpeogffeoehboaaDoor
open Go Go.RM
namespace Go.Proofs.YtpeogffeoehboaaDoor
set_option maxRecDepth 100000
abbrev U8 (n:Nat):AV:=.fl (.int .u8 ((n:Nat):Int))
theorem vo {P:Program} {t:TypeId} {x y:Operand} {m:Nat}:dz P .rem t x y (.int .u8 (m:Int)) (.int .u8 2)=some (.int .u8 ((m % 2:Nat):Int),.none):=by
 have h:dz P .rem t x y (.int .u8 (m:Int)) (.int .u8 2)=some (.int .u8 ((m:Int).tmod 2),.none):=by
  show eX P .rem t x y (.int .u8 (m:Int)) (.int .u8 2)=_
  unfold eX
  simp only [flat,aV,Bool.and_self,cond_true]
  have:(do eqGuard BinOp.rem t x y (Value.int IntKind.u8 (m:Int)) (Value.int IntKind.u8 2);binOp BinOp.rem t (Value.int IntKind.u8 (m:Int)) (Value.int IntKind.u8 2):Sem Value)=pure (.int .u8 ((m:Int).tmod 2)):=by
   show Op.intDiv .rem .u8 m 2=_
   unfold Op.intDiv
   rw [if_neg (by decide)]
  rw [this]
  rfl
 rw [h,IntWalk.rem_in _ _ (by omega)]
 rfl
theorem vn {P:Program} {t:TypeId} {x y:Operand} {m j:Nat} (hj:j < 8):dz P .shr t x y (.int .u8 (m:Int)) (.int .i64 (j:Int))=some (.int .u8 ((m / 2 ^ j:Nat):Int),.none):=by
 have h:dz P .shr t x y (.int .u8 (m:Int)) (.int .i64 (j:Int))=some (.int .u8 ((m:Int).fdiv (2 ^ j)),.none):=by
  match j,hj with
  | 0,_|1,_|2,_|3,_|4,_|5,_|6,_|7,_=>rfl
 rw [h,Int.fdiv_eq_ediv_of_nonneg _ (Int.pow_nonneg (by decide)),Int.natCast_ediv,Int.natCast_pow]
 rfl
section
variable {x y : Operand} {t : TypeId} {a b : AV} {hp : List AB} {K : AV → List AB → Prop}
theorem Er {m:Nat} (ha:a=U8 m) (hb:b=U8 2) (h:K (U8 (m % 2)) hp):aJ TT .rem t x y a b hp K:=by
 subst ha hb
 exact ⟨_,_,rfl,rfl,.int .u8 ((m % 2:Nat):Int),vo,rfl,h⟩
theorem Ep {m j:Nat} (ha:a=U8 m) (hb:b=aC (j:Nat)) (hj:j < 8) (h:K (U8 (m / 2 ^ j)) hp):aJ TT .shr t x y a b hp K:=by
 subst ha hb
 exact ⟨_,_,rfl,rfl,.int .u8 ((m / 2 ^ j:Nat):Int),vn hj,rfl,h⟩
theorem Ot {m n:Int} (ha:a=.fl (.int .u8 m)) (hb:b=.fl (.int .u8 n)) (h:K (.fl (.bool (decide (m=n)))) hp):aJ TT .eql t x y a b hp K:=by
 subst ha hb
 exact ⟨_,_,rfl,rfl,.bool (decide (m=n)),rfl,rfl,h⟩
end
def gk (l:List Order):List AV:=(l.map az).flatten
theorem kD:∀ l:List Order,(gk l).length=l.length * 2
 | []=>rfl
 | o :: l=>by
  have:=kD l
  show (az o++gk l).length=_
  rw [List.length_append,this]
  show 2+l.length * 2=(l.length+1) * 2
  omega
theorem JJ (l:List Order) (o:Order):gk l++[az o].flatten=gk (l++[o]):=by
 unfold gk
 rw [List.map_append,List.flatten_append]
 rfl
theorem nC:∀ l:List Order,cK (gk l)=true
 | []=>rfl
 | _ :: l=>nC l
theorem kE (j:Nat):∀ l:List Order,ve j (gk l)=true
 | []=>rfl
 | _ :: l=>kE j l
theorem ou (n:Nat):∀ l:List Order,nu n (gk l)=true
 | []=>rfl
 | _ :: l=>ou n l
theorem lB (l:List Order) (v:Nat):([.cells (gk l) 2 v]:List AB).all (AB.gS 1)=true:=by
 show (nu 1 (gk l) && true)=true
 rw [ou]
 rfl
theorem qF (l:List Order) (v:Nat) (C:List Int) (w:Nat):([.cells (gk l) 2 v,.cells (jU C) 1 w]:List AB).all (AB.gS 2)=true:=by
 show (nu 2 (gk l) && (nu 2 (jU C) && true))=true
 rw [ou,qD 2 (fun _=>rfl) C]
 rfl
end Go.Proofs.YtpeogffeoehboaaDoor
open Go Go.RM
namespace Go.Proofs.YtpeogffeoehboaaDoor
set_option maxRecDepth 100000
theorem O0 {l:List AV} (h:TV (.int .u8) l):∃ n:Nat,n≤255∧l=[U8 n]:=by
 obtain ⟨n,hn,rfl⟩:=RJ h
 have h1:IntKind.u8.min=0:=rfl
 have h2:IntKind.u8.max=255:=rfl
 simp [Lit.wf] at hn
 obtain ⟨m,rfl⟩:∃ m:Nat,n=(m:Int):=⟨n.toNat,by omega⟩
 exact ⟨m,by omega,rfl⟩
end Go.Proofs.YtpeogffeoehboaaDoor
open Go Go.RM
namespace Go.Proofs.YtpeogffeoehboaaDoor
set_option maxRecDepth 100000
theorem Ou {l:List AV} (h:TV (.arr 6 (.int .u8)) l):∃ a b c d e f:Nat,l=[U8 a,U8 b,U8 c,U8 d,U8 e,U8 f]:=by
 obtain ⟨els,hl,he,rfl⟩:=RL h
 match els,hl with
 | [u,v,w,x,y,z],_ =>
  obtain ⟨a,_,rfl⟩:=O0 (he u (by simp))
  obtain ⟨b,_,rfl⟩:=O0 (he v (by simp))
  obtain ⟨c,_,rfl⟩:=O0 (he w (by simp))
  obtain ⟨d,_,rfl⟩:=O0 (he x (by simp))
  obtain ⟨e,_,rfl⟩:=O0 (he y (by simp))
  obtain ⟨f,_,rfl⟩:=O0 (he z (by simp))
  exact ⟨a,b,c,d,e,f,rfl⟩
end Go.Proofs.YtpeogffeoehboaaDoor
open Go Go.RM
namespace Go.Proofs.YtpeogffeoehboaaDoor
set_option maxRecDepth 100000
def cC (s:ai) (raw:Nat):Nat→List Int × Int
 | 0=>([],0)
 | k+1=>if raw.testBit k=true∧(cC s raw k).2+wP s (k:Nat)≤s.load then ((cC s raw k).1++[((k:Nat):Int)],(cC s raw k).2+wP s (k:Nat)) else cC s raw k
theorem vE {s:ai} {raw k:Nat}:cC s raw (k+1)=if raw.testBit k=true∧(cC s raw k).2+wP s (k:Nat)≤s.load then ((cC s raw k).1++[((k:Nat):Int)],(cC s raw k).2+wP s (k:Nat)) else cC s raw k:=rfl
theorem BT (s:ai) (l:List Int) (x:Int):oO s (l++[x])=oO s l+wP s x:=by
 unfold oO
 rw [List.map_append,List.sum_append]
 simp
theorem qG {s:ai} (hg:Good s) (raw:Nat):∀ k:Nat,(cC s raw k).1.length≤k∧(cC s raw k).2=oO s (cC s raw k).1∧0≤(cC s raw k).2∧(cC s raw k).2≤s.load∧(∀ x ∈ (cC s raw k).1,0≤x∧x < (k:Nat))∧(cC s raw k).1.Pairwise (· < ·)
 | 0=>⟨Nat.le_refl _,rfl,Int.le_refl _,by have:=hg.load;show 0≤s.load;omega,(fun x hx=>by cases hx),.nil⟩
 | k+1=>by
  obtain ⟨h1,h2,h3,h4,h5,h6⟩:=qG hg raw k
  have hw:=Eu hg (k:Nat)
  rw [vE]
  split
  ·rename_i hc
   refine ⟨by rw [List.length_append,List.length_singleton];omega,by rw [BT,←h2],by dsimp only;omega,hc.2,fun x hx=>?_,?_⟩
   ·rcases List.mem_append.1 hx with hx|hx
    ·have:=h5 x hx;omega
    ·rw [List.mem_singleton.1 hx];omega
   ·rw [List.pairwise_append]
    refine ⟨h6,List.pairwise_singleton _ _,fun a ha b hb=>?_⟩
    rw [List.mem_singleton.1 hb]
    exact (h5 a ha).2
  ·exact ⟨by omega,h2,h3,h4,fun x hx=>by have:=h5 x hx;omega,h6⟩
def fh (s:ai) (xs:List Nat):Nat→List Order
 | 0=>[]
 | i+1=>match s.possible[i]?,xs[i]? with
  | some d,some raw=>if (cC s raw s.needs.length).1=[] then fh s xs i else fh s xs i++[⟨d,(cC s raw s.needs.length).1⟩]
  | _,_=>fh s xs i
def qH (s:ai) (xs:List Nat):List Order:=fh s xs s.possible.length
theorem vF {s:ai} {xs:List Nat} {i:Nat} (h1:i < s.possible.length) (h2:i < xs.length):fh s xs (i+1)=if (cC s xs[i] s.needs.length).1=[] then fh s xs i else fh s xs i++[⟨s.possible[i],(cC s xs[i] s.needs.length).1⟩]:=by
 rw [fh,List.getElem?_eq_getElem h1,List.getElem?_eq_getElem h2]
theorem rS {s:ai} {xs:List Nat}:∀ i,(fh s xs i).length≤i
 | 0=>Nat.le_refl _
 | i+1=>by
  have ih:=rS (s:=s) (xs:=xs) i
  rw [fh]
  split
  ·split
   ·omega
   ·rw [List.length_append,List.length_singleton];omega
  ·omega
theorem tf {s:ai} (hg:Good s):(∀ (i:Nat) (h:i < s.possible.length),0≤s.possible[i]∧s.possible[i] < s.days)∧∀ (i j:Nat) (hi:i < s.possible.length) (hj:j < s.possible.length),i < j→s.possible[i] < s.possible[j] :=
 ⟨fun i h=>(oa (by decide) h (hg.Df i h)).1,Jh (by decide) hg.Df⟩
theorem BU {s:ai} (hg:Good s) {xs:List Nat}:∀ i,i≤s.possible.length→(∀ o ∈ fh s xs i,ir s o∧o.day ∈ s.possible∧∀ (j:Nat) (hj:j < s.possible.length),i≤j→o.day < s.possible[j])∧(fh s xs i).Pairwise (fun a b=>a.day < b.day)
 | 0,_=>⟨(fun o ho=>by cases ho),.nil⟩
 | i+1,hi=>by
  obtain ⟨h1,h2⟩:=BU hg (xs:=xs) i (by omega)
  obtain ⟨p1,p2⟩:=tf hg
  have hlt:i < s.possible.length:=by omega
  have old:∀ o ∈ fh s xs i,ir s o∧o.day ∈ s.possible∧∀ (j:Nat) (hj:j < s.possible.length),i+1≤j→o.day < s.possible[j]:=fun o ho=>⟨(h1 o ho).1,(h1 o ho).2.1,fun j hj hle=>(h1 o ho).2.2 j hj (by omega)⟩
  by_cases hx:i < xs.length
  ·rw [vF hlt hx]
   split
   ·exact ⟨old,h2⟩
   ·rename_i hne
    obtain ⟨k1,k2,k3,k4,k5,k6⟩:=qG hg xs[i] s.needs.length
    have k6:=List.pairwise_iff_getElem.1 k6
    have hl:1≤(cC s xs[i] s.needs.length).1.length:=by
     cases hc:(cC s xs[i] s.needs.length).1 with
     | nil=>exact absurd hc hne
     | cons a l=>simp
    refine ⟨fun o ho=>?_,?_⟩
    ·rcases List.mem_append.1 ho with ho|ho
     ·exact old o ho
     ·rw [List.mem_singleton.1 ho]
      exact ⟨⟨p1 i hlt,k5,hl,k1,k6,by dsimp only;omega⟩,List.getElem_mem hlt,fun j hj hle=>p2 i j hlt hj (by omega)⟩
    ·rw [List.pairwise_append]
     refine ⟨h2,List.pairwise_singleton _ _,fun a ha b hb=>?_⟩
     rw [List.mem_singleton.1 hb]
     exact (h1 a ha).2.2 i hlt (Nat.le_refl _)
  ·rw [fh,List.getElem?_eq_none (l:=xs) (by omega)]
   cases s.possible[i]? <;> exact ⟨old,h2⟩
theorem BV {lo hi n:Int} (h:lo≤n∧n≤hi):fH lo hi [n]=false:=by
 rw [bD,ku.2 h]
 rfl
theorem BW {α:Type} {l:List α} {i:Nat} {d:α} (h:i < l.length):l.getD i d=l[i]:=by rw [List.getD_eq_getElem?_getD,List.getElem?_eq_getElem h];rfl
theorem JK {l:List Int} {many:Nat} (h1:∀ x ∈ l,0≤x∧x < (many:Nat)) (h2:∀ (i j:Nat) (hi:i < l.length) (hj:j < l.length),i < j→l[i] < l[j]):jI l many=0:=by
 unfold jI
 rw [dX]
 intro i hi
 have hb:=h1 l[i] (List.getElem_mem hi)
 unfold fo
 rw [BW hi,BV ⟨hb.1,by omega⟩,if_neg (by simp),if_neg]
 unfold qy
 by_cases h0:i=0
 ·rw [if_pos h0];omega
 ·rw [if_neg h0,BW (by omega)]
  have:=h2 (i - 1) i (by omega) hi (by omega)
  omega
theorem rT {s:ai} (hc:(iM s).2.2=0) {p:List Order} (h8:p.length≤8) (ho:∀ o ∈ p,ir s o) (ha:p.Pairwise (fun a b=>a.day < b.day)):(cU s p).2=0:=by
 unfold cU jc
 rw [if_neg (by omega),if_neg (by omega),dX]
 intro i hi
 have h:=ho _ (List.getElem_mem hi)
 have hl:¬ p[i].day≤iW p i:=by
  unfold iW
  by_cases h0:i=0
  ·rw [if_pos h0];have:=h.day;omega
  ·rw [if_neg h0,List.getElem?_eq_getElem (by omega)]
   have:=List.pairwise_iff_getElem.1 ha (i - 1) i (by omega) hi (by omega)
   dsimp only
   omega
 unfold fO gO
 rw [List.getElem?_eq_getElem hi]
 dsimp only
 have hd:=h.day
 have hs:=h.some
 have hld:=h.load
 rw [BV ⟨hd.1,by omega⟩,if_neg (by simp),if_neg hl,if_neg (by omega),JK h.aG h.Df,if_neg (by simp),if_neg (by omega)]
theorem JL {s:ai} (hc:(iM s).2.2=0) (xs:List Nat):(cU s (qH s xs)).2=0∧(qH s xs).length≤6∧∀ o ∈ qH s xs,o.day ∈ s.possible:=by
 have hg:=mg hc
 have hm:=hg.many
 have hl:=rS (s:=s) (xs:=xs) s.possible.length
 obtain ⟨h1,h2⟩:=BU hg (xs:=xs) s.possible.length (Nat.le_refl _)
 exact ⟨rT hc (by show (fh s xs s.possible.length).length≤8;omega) (fun o ho=>(h1 o ho).1) h2,by show (fh s xs s.possible.length).length≤6;omega,fun o ho=>(h1 o ho).2.1⟩
end Go.Proofs.YtpeogffeoehboaaDoor
