/-
  Contracts of the program's functions and of the document's. Lemmas alone; their conditions stand in them.
-/
import Derived.Test.YtpeogffeoehboaaDoorA3
import Derived.Test.YtpeogffeoehboaaDoorK3
import Derived.Test.YtpeogffeoehboaaDoorK4
import Derived.Test.YtpeogffeoehboaaDoorK5
import Derived.Test.YtpeogffeoehboaaDoorK6
open Go Go.RM
namespace Go.Proofs.YtpeogffeoehboaaDoor
set_option maxRecDepth 100000
set_option maxHeartbeats 4000000
theorem Cs (one:Bool) {m:Nat} (hm:m < 256):Pu one 79 [gq m] (aC (lH m:Nat)):=by
 have o1:=Pz one hm
 refine ah.body (fn:=Tryd.f79) rfl rfl rfl rfl ?_
 refine aa (mu:=fun _=>false) ?_
 repeat' (first |refine u1 ?_ |((with_reducible show av _ _ _ _ _ _ _ _);refine ah.call o1 rfl rfl ?_) |refine u2 ?_ |fail)
 exact ⟨[_],⟨Fz.deep rfl,trivial⟩,rfl⟩
theorem PA (one:Bool) {m:Nat} (hm:m < 256):Pu one 81 [gq m] (aC (Lib.ctz 64 m)):=by
 have o1:=Pv one hm
 refine ah.body (fn:=Tryd.f81) rfl rfl rfl rfl ?_
 refine aa (mu:=fun _=>false) ?_
 repeat' (first |refine u1 ?_ |((with_reducible show av _ _ _ _ _ _ _ _);refine ah.call o1 rfl rfl ?_) |refine u2 ?_ |fail)
 exact ⟨[_],⟨Fz.deep rfl,trivial⟩,rfl⟩
def aP (f:Nat):List Int:=((List.range 8).filter fun i=>f.testBit i).map fun i:Nat=>((i:Nat):Int)
theorem Kt:((List.range 256).all fun f=>f == 0 || decide (aP f=(Lib.ctz 64 f:Int) :: aP (f &&& (f - 1))))=true:=by kernel_rfl
theorem yG {f:Nat} (h:f < 256) (h0:f ≠ 0):aP f=(Lib.ctz 64 f:Int) :: aP (f &&& (f - 1)):=by
 have:=List.all_eq_true.1 Kt f (List.mem_range.2 h)
 rw [Bool.or_eq_true] at this
 rcases this with h1|h1
 ·exact absurd (by simpa using h1) h0
 ·exact of_decide_eq_true h1
theorem oN (f:Nat):(aP f).length≤8:=by
 unfold aP
 rw [List.length_map]
 exact Nat.le_trans (List.length_filter_le _ _) (by simp)
theorem fu (l:List Int) (v:Nat):([.cells (dw l) 1 v]:List AB).all (AB.ic 1)=true:=by
 have h:AB.ic 1 (.cells (dw l) 1 v)=true:=rB 1 (fun _=>rfl) _
 simp only [List.all_cons,List.all_nil,h,Bool.and_true]
theorem An (one:Bool) {f:Nat} (hf:f < 256):Pu one 61 [gq f] (.sl (ints (aP f)) false):=by
 have h8:=oN f
 refine ah.body (fn:=Tryd.f61) rfl rfl rfl rfl ?_
 refine aa (mu:=fun t=>Nat.beq t 13) ?_
 repeat' (first |refine u1 ?_ |refine u2 ?_ |fail)
 refine aA.aX (aj.trans (aj.qc 1) (aj.NC (l:=[(0,gq (f,([]:List Int),(0:Nat),(0:Nat)).1),(2,.bI 0 (f,([]:List Int),(0:Nat),(0:Nat)).2.2.1 0 (f,([]:List Int),(0:Nat),(0:Nat)).2.1.length (f,([]:List Int),(0:Nat),(0:Nat)).2.2.2)]) (hp:=[.cells (dw (f,([]:List Int),(0:Nat),(0:Nat)).2.1) 1 (f,([]:List Int),(0:Nat),(0:Nat)).2.2.1]) 1 rfl ⟨bO.refl _,bO.qb,trivial⟩ (Nat.zero_le _) rfl (fu _ _))) ?_
 refine aA.loop (fun x:Nat × List Int × Nat × Nat=>x.1 < 256∧x.2.1++aP x.1=aP f∧(x.2.2.2=x.2.1.length∨x.2.2.2=x.2.1.length+1)) (fun x=>⟨bx [(0,gq x.1),(2,.bI 0 x.2.2.1 0 x.2.1.length x.2.2.2)],[.cells (dw x.2.1) 1 x.2.2.1],bG.none,false,0⟩) (fun x=>(aP x.1).length) ?_ (f,[],0,0) ⟨hf,rfl,.inl rfl⟩
 rintro ⟨g,l,aB,c⟩ ⟨hg,hl,hcap⟩
 dsimp only at hg hl hcap
 show aA _ _ _ _ ⟨bx [(0,gq (g,l,aB,c).1),(2,.bI 0 (g,l,aB,c).2.2.1 0 (g,l,aB,c).2.1.length (g,l,aB,c).2.2.2)],[.cells (dw (g,l,aB,c).2.1) 1 (g,l,aB,c).2.2.1],bG.none,false,0⟩ _
 dsimp only
 refine aa (mu:=fun t=>Nat.beq t 13) ?_
 by_cases h0:g=0
 ·subst h0
  have d1:(!decide (((0:Nat):Int)=0))=false:=by decide
  have he:l=aP f:=by rw [←hl,show aP 0=[] from rfl,List.append_nil]
  rw [←he]
  repeat' (first |((with_reducible show aL _ _ _ _ _ _ _ _ _);refine RM.NH rfl rfl ?_) |refine u1 ?_ |refine u2 ?_ |fail)
  exact ⟨[_],⟨Fz.row (es:=1) rfl (by rw [List.length_map];omega) (by rw [List.length_map]) (fun el hel=>by obtain ⟨x,_,rfl⟩:=List.mem_map.1 hel;rfl) (by rw [eV,List.drop_zero,List.take_of_length_le (by rw [List.length_map];omega)]) (by rw [eV];exact lG _) (fun h=>Bool.noConfusion h),trivial⟩,rfl⟩
 ·have d1:(!decide ((g:Int)=0))=true:=by rw [decide_eq_false (by omega)];rfl
  have hs:=yG hg h0
  have ot:=PA one hg
  have hle:g &&& (g - 1)≤g:=Nat.and_le_left
  have hgl:(dw l).length=l.length:=by rw [List.length_map]
  have hl8:l.length≤8:=by
   have:=congrArg List.length hl
   rw [List.length_append] at this
   omega
  generalize (Lib.ctz 64 g:Int)=z at *
  repeat' (first |((with_reducible show aL _ _ _ _ _ _ _ _ _);refine RM.NH rfl rfl ?_) |((with_reducible show aL _ _ _ _ _ _ _ _ _);refine RM.Rt rfl rfl (by omega) (by omega) ?_) |((with_reducible show aL _ _ _ _ _ _ _ _ _);refine RM.Ci rfl rfl (by omega) (by omega) ?_) |((with_reducible show RM.wpOp _ _ (.call _) _ _ _);refine RM.DP (cs:=dw l) (n:=l.length) (els:=[eI z]) rfl rfl rfl rfl rfl (fun el hel=>by rw [List.mem_singleton.1 hel];rfl) rfl rfl (by rw [hgl];exact (Nat.mul_one _).symm) hcap (by simp only [List.length_singleton];omega) (fun v' c' hc'=>?_)) |refine u1 ?_ |((with_reducible show av _ _ _ _ _ _ _ _);refine ah.call ot rfl rfl ?_) |refine u2 ?_ |fail)
  refine ⟨(g &&& (g - 1),l++[z],v',c'),⟨by dsimp only;omega,?_,?_⟩,?_,?_⟩
  ·dsimp only
   rw [←hl,hs,List.append_assoc]
   rfl
  ·dsimp only
   rw [List.length_append]
   exact hc'
  ·dsimp only
   rw [hs]
   exact Nat.lt_succ_self _
  ·exact aj.to 1 (by dsimp only;unfold dw;rw [List.map_append];rfl) ⟨rfl,(by rw [List.length_append];rfl),trivial⟩ (Nat.zero_le _) rfl (fu _ _)
def L3 (x y:Int):Int:=if x < y then -1 else if y < x then 1 else 0
def sO:List Int→List Int→Int
 | [],[]=>0
 | [],_ :: _=>-1
 | _ :: _,[]=>1
 | x :: a,y :: b=>if L3 x y ≠ 0 then L3 x y else sO a b
theorem Gp (x y:Int) (a b:List Int):sO (x :: a) (y :: b)=if L3 x y ≠ 0 then L3 x y else sO a b:=rfl
theorem NK (one:Bool) (x:Int):Pu one 93 [aC x] (BB false):=by
 have d1:(!decide (x=x))=false:=by rw [decide_eq_true rfl];rfl
 refine ah.body (fn:=Tryd.f93) rfl rfl rfl rfl ?_
 refine aa (mu:=fun _=>false) ?_
 repeat' (first |refine u1 ?_ |refine u2 ?_ |fail)
 exact ⟨[_],⟨Fz.deep rfl,trivial⟩,LH d1⟩
theorem Rz (one:Bool) (x y:Int):Pu one 88 [aC x,aC y] (aC (L3 x y)):=by
 have o1:=NK one x
 have o2:=NK one y
 unfold L3
 by_cases h1:x < y
 ·have d1:=decide_eq_true h1
  rw [if_pos h1]
  refine ah.body (fn:=Tryd.f88) rfl rfl rfl rfl ?_
  refine aa (mu:=fun _=>false) ?_
  repeat' (first |refine u1 ?_ |((with_reducible show av _ _ _ _ _ _ _ _);refine ah.call o1 rfl rfl ?_) |((with_reducible show av _ _ _ _ _ _ _ _);refine ah.call o2 rfl rfl ?_) |refine u2 ?_ |fail)
  exact ⟨[_],⟨Fz.deep rfl,trivial⟩,rfl⟩
 ·have d1:=decide_eq_false h1
  rw [if_neg h1]
  by_cases h2:y < x
  ·have d2:=decide_eq_true h2
   rw [if_pos h2]
   refine ah.body (fn:=Tryd.f88) rfl rfl rfl rfl ?_
   refine aa (mu:=fun _=>false) ?_
   repeat' (first |refine u1 ?_ |((with_reducible show av _ _ _ _ _ _ _ _);refine ah.call o1 rfl rfl ?_) |((with_reducible show av _ _ _ _ _ _ _ _);refine ah.call o2 rfl rfl ?_) |refine u2 ?_ |fail)
   exact ⟨[_],⟨Fz.deep rfl,trivial⟩,rfl⟩
  ·have d2:=decide_eq_false h2
   rw [if_neg h2]
   refine ah.body (fn:=Tryd.f88) rfl rfl rfl rfl ?_
   refine aa (mu:=fun _=>false) ?_
   repeat' (first |refine u1 ?_ |((with_reducible show av _ _ _ _ _ _ _ _);refine ah.call o1 rfl rfl ?_) |((with_reducible show av _ _ _ _ _ _ _ _);refine ah.call o2 rfl rfl ?_) |refine u2 ?_ |fail)
   exact ⟨[_],⟨Fz.deep rfl,trivial⟩,rfl⟩
theorem Ku (one:Bool) (a b:List Int) (fa fb:Bool) (ha:a.length≤maxLen) (hb:b.length≤maxLen):Pu one 80 [.sl (ints a) fa,.sl (ints b) fb] (aC (sO a b)):=by
 have ma:a.length≤9223372036854775807:=Nat.le_trans ha (by simp [maxLen])
 have mb:b.length≤9223372036854775807:=Nat.le_trans hb (by simp [maxLen])
 have ea:((ints a).length:Int)=a.length:=by simp
 have eb:((ints b).length:Int)=b.length:=by simp
 obtain ⟨n,hn⟩:∃ n:Int,n=a.length:=⟨_,rfl⟩
 refine ah.body (fn:=Tryd.f80) rfl rfl rfl rfl ?_
 refine aa (mu:=fun _=>false) ?_
 repeat' (first |refine u1 ?_ |refine u2 ?_ |fail)
 refine aA.aX (aj.to (l:=[(0,.sl (ints a) fa),(1,.sl (ints b) fb),(9,.sl (ints a) fa),(10,aC n),(11,aC (0:Nat))]) (hp:=[]) 0 rfl ⟨rfl,rfl,rfl,bW (by rw [hn];exact ea),rfl,trivial⟩ (Nat.zero_le _) rfl rfl) ?_
 refine aA.loop (fun k:Nat=>k≤a.length∧sO a b=sO (a.drop k) (b.drop k)) (fun k=>⟨bx [(0,.sl (ints a) fa),(1,.sl (ints b) fb),(9,.sl (ints a) fa),(10,aC n),(11,aC (k:Nat))],[],bG.none,false,0⟩) (fun k=>a.length - k) ?_ 0 ⟨Nat.zero_le _,rfl⟩
 rintro k ⟨hk,hrel⟩
 refine aa (mu:=fun _=>false) ?_
 by_cases hlt:k < a.length
 ·have d1:decide ((k:Int) < n)=true:=decide_eq_true (by omega)
  have hat:(ints a)[((k:Nat):Int).toNat]?=some (eI a[k]):=cI hlt
  by_cases hbt:k < b.length
  ·have d2:decide (((ints b).length:Int)≤(k:Int))=false:=decide_eq_false (by omega)
   have hat2:(ints b)[((k:Nat):Int).toNat]?=some (eI b[k]):=cI hbt
   rw [List.drop_eq_getElem_cons hlt,List.drop_eq_getElem_cons hbt] at hrel
   have os:=Rz one a[k] b[k]
   rw [Gp] at hrel
   generalize a[k]=x at *
   generalize b[k]=y at *
   by_cases hs:L3 x y=0
   ·rw [if_neg (by omega)] at hrel
    rw [hs] at os
    have z0:(!decide ((0:Int)=0))=false:=by decide
    repeat' (first |refine u1 ?_ |((with_reducible show RM.wpOp _ _ (.indexAddr _ _ _) _ _ _);refine ⟨eI x,⟨by omega,hat⟩,rfl,?_⟩) |((with_reducible show RM.wpOp _ _ (.indexAddr _ _ _) _ _ _);refine ⟨eI y,⟨by omega,hat2⟩,rfl,?_⟩) |((with_reducible show av _ _ _ _ _ _ _ _);refine ah.call os rfl rfl ?_) |refine u2 ?_ |fail)
    exact ⟨k+1,⟨hlt,hrel⟩,(by dsimp only;omega),aj.to 0 rfl ⟨rfl,rfl,rfl,rfl,bW (by simp),trivial⟩ (Nat.zero_le _) rfl rfl⟩
   ·rw [if_pos hs] at hrel
    rw [hrel]
    have z0:(!decide (L3 x y=0))=true:=by rw [decide_eq_false hs];rfl
    generalize L3 x y=w at *
    repeat' (first |refine u1 ?_ |((with_reducible show RM.wpOp _ _ (.indexAddr _ _ _) _ _ _);refine ⟨eI x,⟨by omega,hat⟩,rfl,?_⟩) |((with_reducible show RM.wpOp _ _ (.indexAddr _ _ _) _ _ _);refine ⟨eI y,⟨by omega,hat2⟩,rfl,?_⟩) |((with_reducible show av _ _ _ _ _ _ _ _);refine ah.call os rfl rfl ?_) |refine u2 ?_ |fail)
    exact ⟨[_],⟨Fz.deep rfl,trivial⟩,rfl⟩
  ·have d2:decide (((ints b).length:Int)≤(k:Int))=true:=decide_eq_true (by omega)
   rw [List.drop_eq_getElem_cons hlt,List.drop_eq_nil_of_le (by omega:b.length≤k)] at hrel
   rw [hrel]
   generalize a[k]=x at *
   repeat' (first |refine u1 ?_ |((with_reducible show RM.wpOp _ _ (.indexAddr _ _ _) _ _ _);refine ⟨eI x,⟨by omega,hat⟩,rfl,?_⟩) |refine u2 ?_ |fail)
   exact ⟨[_],⟨Fz.deep rfl,trivial⟩,rfl⟩
 ·have d1:decide ((k:Int) < n)=false:=decide_eq_false (by omega)
  rw [List.drop_eq_nil_of_le (by omega:a.length≤k)] at hrel
  by_cases hab:a.length < b.length
  ·have d3:decide (((ints a).length:Int) < ((ints b).length:Int))=true:=decide_eq_true (by omega)
   rw [List.drop_eq_getElem_cons (by omega:k < b.length)] at hrel
   rw [hrel]
   repeat' (first |refine u1 ?_ |refine u2 ?_ |fail)
   exact ⟨[_],⟨Fz.deep rfl,trivial⟩,rfl⟩
  ·have d3:decide (((ints a).length:Int) < ((ints b).length:Int))=false:=decide_eq_false (by omega)
   rw [List.drop_eq_nil_of_le (by omega:b.length≤k)] at hrel
   rw [hrel]
   repeat' (first |refine u1 ?_ |refine u2 ?_ |fail)
   exact ⟨[_],⟨Fz.deep rfl,trivial⟩,rfl⟩
structure gE where
 f:Nat
 day:Int
 need:Int
abbrev wQ (b:gE):List AV:=[gq b.f,aC b.day,aC b.need]
structure gE.Ok (b:gE):Prop where
 f:b.f < 256
 day:0≤b.day∧b.day≤60
 need:0≤b.need∧b.need≤3
theorem L4 (one:Bool) {a b:gE} (ha:a.Ok) (hb:b.Ok):Pu one 57 [.ag (wQ a),.ag (wQ b)] (aC (a.day - b.day)):=by
 have h1:=ha.day
 have h2:=hb.day
 refine ah.body (fn:=Tryd.f57) rfl rfl rfl rfl ?_
 refine aa (mu:=fun _=>false) ?_
 repeat' (first |refine u1 ?_ |refine u2 ?_ |fail)
 exact ⟨[_],⟨Fz.deep rfl,trivial⟩,rfl⟩
theorem Kv (one:Bool) {a b:gE} (ha:a.Ok) (hb:b.Ok):Pu one 58 [.ag (wQ a),.ag (wQ b)] (aC (a.need - b.need)):=by
 have h1:=ha.need
 have h2:=hb.need
 refine ah.body (fn:=Tryd.f58) rfl rfl rfl rfl ?_
 refine aa (mu:=fun _=>false) ?_
 repeat' (first |refine u1 ?_ |refine u2 ?_ |fail)
 exact ⟨[_],⟨Fz.deep rfl,trivial⟩,rfl⟩
theorem Kw (one:Bool) {a b:gE} (ha:a.Ok) (hb:b.Ok):Pu one 59 [.ag (wQ a),.ag (wQ b)] (aC ((lH a.f:Nat) - (lH b.f:Nat))):=by
 have h1:=Kr a.f
 have h2:=Kr b.f
 have o1:=Cs true ha.f
 have o2:=Cs true hb.f
 generalize lH a.f=x at *
 generalize lH b.f=y at *
 refine ah.body (fn:=Tryd.f59) rfl rfl rfl rfl ?_
 refine aa (mu:=fun _=>false) ?_
 repeat' (first |refine u1 ?_ |(refine ⟨_,o1,?_⟩) |(refine ⟨_,o2,?_⟩) |refine u2 ?_ |fail)
 exact ⟨[_],⟨Fz.deep rfl,trivial⟩,rfl⟩
theorem Kx (one:Bool) {a b:gE} (ha:a.Ok) (hb:b.Ok):Pu one 60 [.ag (wQ a),.ag (wQ b)] (aC (sO (aP a.f) (aP b.f))):=by
 have h1:=oN a.f
 have h2:=oN b.f
 have o1:=An true ha.f
 have o2:=An true hb.f
 have o3:=Ku true (aP a.f) (aP b.f) false false (by simp [maxLen];omega) (by simp [maxLen];omega)
 refine ah.body (fn:=Tryd.f60) rfl rfl rfl rfl ?_
 refine aa (mu:=fun _=>false) ?_
 repeat' (first |refine u1 ?_ |(refine ⟨_,o1,?_⟩) |(refine ⟨_,o2,?_⟩) |(refine ⟨_,o3,?_⟩) |refine u2 ?_ |fail)
 exact ⟨[_],⟨Fz.deep rfl,trivial⟩,rfl⟩
abbrev U8 (n:Nat):AV:=.fl (.int .u8 ((n:Nat):Int))
theorem vW {P:Program} {t:TypeId} {x y:Operand} {m:Nat}:dz P .rem t x y (.int .u8 (m:Int)) (.int .u8 2)=some (.int .u8 ((m % 2:Nat):Int),.none):=by
 have h:dz P .rem t x y (.int .u8 (m:Int)) (.int .u8 2)=some (.int .u8 ((m:Int).tmod 2),.none):=by
  show fC P .rem t x y (.int .u8 (m:Int)) (.int .u8 2)=_
  unfold fC
  simp only [flat,aS,Bool.and_self,cond_true]
  have:(do eqGuard BinOp.rem t x y (Value.int IntKind.u8 (m:Int)) (Value.int IntKind.u8 2);binOp BinOp.rem t (Value.int IntKind.u8 (m:Int)) (Value.int IntKind.u8 2):Sem Value)=pure (.int .u8 ((m:Int).tmod 2)):=by
   show Op.intDiv .rem .u8 m 2=_
   unfold Op.intDiv
   rw [if_neg (by decide)]
  rw [this]
  rfl
 rw [h,IntWalk.rem_in _ _ (by omega)]
 rfl
theorem vV {P:Program} {t:TypeId} {x y:Operand} {m j:Nat} (hj:j < 8):dz P .shr t x y (.int .u8 (m:Int)) (.int .i64 (j:Int))=some (.int .u8 ((m / 2 ^ j:Nat):Int),.none):=by
 have h:dz P .shr t x y (.int .u8 (m:Int)) (.int .i64 (j:Int))=some (.int .u8 ((m:Int).fdiv (2 ^ j)),.none):=by
  match j,hj with
  | 0,_|1,_|2,_|3,_|4,_|5,_|6,_|7,_=>rfl
 rw [h,Int.fdiv_eq_ediv_of_nonneg _ (Int.pow_nonneg (by decide)),Int.natCast_ediv,Int.natCast_pow]
 rfl
section
variable {x y : Operand} {t : TypeId} {a b : AV} {hp : List AB} {K : AV → List AB → Prop}
theorem Fj {m:Nat} (ha:a=U8 m) (hb:b=U8 2) (h:K (U8 (m % 2)) hp):aL TT .rem t x y a b hp K:=by
 subst ha hb
 exact ⟨_,_,rfl,rfl,.int .u8 ((m % 2:Nat):Int),vW,rfl,h⟩
theorem Fi {m j:Nat} (ha:a=U8 m) (hb:b=aC (j:Nat)) (hj:j < 8) (h:K (U8 (m / 2 ^ j)) hp):aL TT .shr t x y a b hp K:=by
 subst ha hb
 exact ⟨_,_,rfl,rfl,.int .u8 ((m / 2 ^ j:Nat):Int),vV hj,rfl,h⟩
theorem PB {m n:Int} (ha:a=.fl (.int .u8 m)) (hb:b=.fl (.int .u8 n)) (h:K (.fl (.bool (decide (m=n)))) hp):aL TT .eql t x y a b hp K:=by
 subst ha hb
 exact ⟨_,_,rfl,rfl,.bool (decide (m=n)),rfl,rfl,h⟩
end
def gF (l:List Order):List AV:=(l.map aD).flatten
theorem kJ:∀ l:List Order,(gF l).length=l.length * 2
 | []=>rfl
 | o :: l=>by
  have:=kJ l
  show (aD o++gF l).length=_
  rw [List.length_append,this]
  show 2+l.length * 2=(l.length+1) * 2
  omega
theorem Ky (l:List Order) (o:Order):gF l++[aD o].flatten=gF (l++[o]):=by
 unfold gF
 rw [List.map_append,List.flatten_append]
 rfl
theorem lI:∀ l:List Order,cJ (gF l)=true
 | []=>rfl
 | _ :: l=>lI l
theorem kK (j:Nat):∀ l:List Order,vP j (gF l)=true
 | []=>rfl
 | _ :: l=>kK j l
theorem oO (n:Nat):∀ l:List Order,nP n (gF l)=true
 | []=>rfl
 | _ :: l=>oO n l
theorem lJ (l:List Order) (v:Nat):([.cells (gF l) 2 v]:List AB).all (AB.ic 1)=true:=by
 show (nP 1 (gF l) && true)=true
 rw [oO]
 rfl
theorem rD (l:List Order) (v:Nat) (C:List Int) (w:Nat):([.cells (gF l) 2 v,.cells (dw C) 1 w]:List AB).all (AB.ic 2)=true:=by
 show (nP 2 (gF l) && (nP 2 (dw C) && true))=true
 rw [oO,rB 2 (fun _=>rfl) C]
 rfl
theorem Qg {l:List AV} (h:TV (.int .u8) l):∃ n:Nat,n≤255∧l=[U8 n]:=by
 obtain ⟨n,hn,rfl⟩:=Td h
 have h1:IntKind.u8.min=0:=rfl
 have h2:IntKind.u8.max=255:=rfl
 simp [Lit.wf] at hn
 obtain ⟨m,rfl⟩:∃ m:Nat,n=(m:Int):=⟨n.toNat,by omega⟩
 exact ⟨m,by omega,rfl⟩
theorem PC {l:List AV} (h:TV (.arr 6 (.int .u8)) l):∃ a b c d e f:Nat,l=[U8 a,U8 b,U8 c,U8 d,U8 e,U8 f]:=by
 obtain ⟨els,hl,he,rfl⟩:=Tf h
 match els,hl with
 | [u,v,w,x,y,z],_ =>
  obtain ⟨a,_,rfl⟩:=Qg (he u (by simp))
  obtain ⟨b,_,rfl⟩:=Qg (he v (by simp))
  obtain ⟨c,_,rfl⟩:=Qg (he w (by simp))
  obtain ⟨d,_,rfl⟩:=Qg (he x (by simp))
  obtain ⟨e,_,rfl⟩:=Qg (he y (by simp))
  obtain ⟨f,_,rfl⟩:=Qg (he z (by simp))
  exact ⟨a,b,c,d,e,f,rfl⟩
def cP (s:ai) (raw:Nat):Nat→List Int × Int
 | 0=>([],0)
 | k+1=>if raw.testBit k=true∧(cP s raw k).2+xE s (k:Nat)≤s.load then ((cP s raw k).1++[((k:Nat):Int)],(cP s raw k).2+xE s (k:Nat)) else cP s raw k
theorem wm {s:ai} {raw k:Nat}:cP s raw (k+1)=if raw.testBit k=true∧(cP s raw k).2+xE s (k:Nat)≤s.load then ((cP s raw k).1++[((k:Nat):Int)],(cP s raw k).2+xE s (k:Nat)) else cP s raw k:=rfl
theorem Ct (s:ai) (l:List Int) (x:Int):sK s (l++[x])=sK s l+xE s x:=by
 unfold sK
 rw [List.map_append,List.sum_append]
 simp
theorem rE {s:ai} (hg:Good s) (raw:Nat):∀ k:Nat,(cP s raw k).1.length≤k∧(cP s raw k).2=sK s (cP s raw k).1∧0≤(cP s raw k).2∧(cP s raw k).2≤s.load∧(∀ x ∈ (cP s raw k).1,0≤x∧x < (k:Nat))∧(cP s raw k).1.Pairwise (· < ·)
 | 0=>⟨Nat.le_refl _,rfl,Int.le_refl _,by have:=hg.load;show 0≤s.load;omega,(fun x hx=>by cases hx),.nil⟩
 | k+1=>by
  obtain ⟨h1,h2,h3,h4,h5,h6⟩:=rE hg raw k
  have hw:=Fm hg (k:Nat)
  rw [wm]
  split
  ·rename_i hc
   refine ⟨by rw [List.length_append,List.length_singleton];omega,by rw [Ct,←h2],by dsimp only;omega,hc.2,fun x hx=>?_,?_⟩
   ·rcases List.mem_append.1 hx with hx|hx
    ·have:=h5 x hx;omega
    ·rw [List.mem_singleton.1 hx];omega
   ·rw [List.pairwise_append]
    refine ⟨h6,List.pairwise_singleton _ _,fun a ha b hb=>?_⟩
    rw [List.mem_singleton.1 hb]
    exact (h5 a ha).2
  ·exact ⟨by omega,h2,h3,h4,fun x hx=>by have:=h5 x hx;omega,h6⟩
def fG (s:ai) (xs:List Nat):Nat→List Order
 | 0=>[]
 | i+1=>match s.possible[i]?,xs[i]? with
  | some d,some raw=>if (cP s raw s.needs.length).1=[] then fG s xs i else fG s xs i++[⟨d,(cP s raw s.needs.length).1⟩]
  | _,_=>fG s xs i
def wo (s:ai) (xs:List Nat):List Order:=fG s xs s.possible.length
theorem wq {s:ai} {xs:List Nat} {i:Nat} (h1:i < s.possible.length) (h2:i < xs.length):fG s xs (i+1)=if (cP s xs[i] s.needs.length).1=[] then fG s xs i else fG s xs i++[⟨s.possible[i],(cP s xs[i] s.needs.length).1⟩]:=by
 rw [fG,List.getElem?_eq_getElem h1,List.getElem?_eq_getElem h2]
theorem sP {s:ai} {xs:List Nat}:∀ i,(fG s xs i).length≤i
 | 0=>Nat.le_refl _
 | i+1=>by
  have ih:=sP (s:=s) (xs:=xs) i
  rw [fG]
  split
  ·split
   ·omega
   ·rw [List.length_append,List.length_singleton];omega
  ·omega
theorem rF {s:ai} (hg:Good s):(∀ (i:Nat) (h:i < s.possible.length),0≤s.possible[i]∧s.possible[i] < s.days)∧∀ (i j:Nat) (hi:i < s.possible.length) (hj:j < s.possible.length),i < j→s.possible[i] < s.possible[j] :=
 ⟨fun i h=>(oL (by decide) h (hg.DX i h)).1,J1 (by decide) hg.DX⟩
theorem Cu {s:ai} (hg:Good s) {xs:List Nat}:∀ i,i≤s.possible.length→(∀ o ∈ fG s xs i,iK s o∧o.day ∈ s.possible∧∀ (j:Nat) (hj:j < s.possible.length),i≤j→o.day < s.possible[j])∧(fG s xs i).Pairwise (fun a b=>a.day < b.day)
 | 0,_=>⟨(fun o ho=>by cases ho),.nil⟩
 | i+1,hi=>by
  obtain ⟨h1,h2⟩:=Cu hg (xs:=xs) i (by omega)
  obtain ⟨p1,p2⟩:=rF hg
  have hlt:i < s.possible.length:=by omega
  have old:∀ o ∈ fG s xs i,iK s o∧o.day ∈ s.possible∧∀ (j:Nat) (hj:j < s.possible.length),i+1≤j→o.day < s.possible[j]:=fun o ho=>⟨(h1 o ho).1,(h1 o ho).2.1,fun j hj hle=>(h1 o ho).2.2 j hj (by omega)⟩
  by_cases hx:i < xs.length
  ·rw [wq hlt hx]
   split
   ·exact ⟨old,h2⟩
   ·rename_i hne
    obtain ⟨k1,k2,k3,k4,k5,k6⟩:=rE hg xs[i] s.needs.length
    have k6:=List.pairwise_iff_getElem.1 k6
    have hl:1≤(cP s xs[i] s.needs.length).1.length:=by
     cases hc:(cP s xs[i] s.needs.length).1 with
     | nil=>exact absurd hc hne
     | cons a l=>simp
    refine ⟨fun o ho=>?_,?_⟩
    ·rcases List.mem_append.1 ho with ho|ho
     ·exact old o ho
     ·rw [List.mem_singleton.1 ho]
      exact ⟨⟨p1 i hlt,k5,hl,k1,k6,by dsimp only;omega⟩,List.getElem_mem hlt,fun j hj hle=>p2 i j hlt hj (by omega)⟩
    ·rw [List.pairwise_append]
     refine ⟨h2,List.pairwise_singleton _ _,fun a ha b hb=>?_⟩
     rw [List.mem_singleton.1 hb]
     exact (h1 a ha).2.2 i hlt (Nat.le_refl _)
  ·rw [fG,List.getElem?_eq_none (l:=xs) (by omega)]
   cases s.possible[i]? <;> exact ⟨old,h2⟩
theorem Cv {lo hi n:Int} (h:lo≤n∧n≤hi):fR lo hi [n]=false:=by
 rw [bR,mG.2 h]
 rfl
theorem Cw {α:Type} {l:List α} {i:Nat} {d:α} (h:i < l.length):l.getD i d=l[i]:=by rw [List.getD_eq_getElem?_getD,List.getElem?_eq_getElem h];rfl
theorem Kz {l:List Int} {many:Nat} (h1:∀ x ∈ l,0≤x∧x < (many:Nat)) (h2:∀ (i j:Nat) (hi:i < l.length) (hj:j < l.length),i < j→l[i] < l[j]):Ah l many=0:=by
 unfold Ah
 rw [fS]
 intro i hi
 have hb:=h1 l[i] (List.getElem_mem hi)
 unfold gi
 rw [Cw hi,Cv ⟨hb.1,by omega⟩,if_neg (by simp),if_neg]
 unfold rq
 by_cases h0:i=0
 ·rw [if_pos h0];omega
 ·rw [if_neg h0,Cw (by omega)]
  have:=h2 (i - 1) i (by omega) hi (by omega)
  omega
theorem sQ {s:ai} (hc:(i7 s).2.2=0) {p:List Order} (h8:p.length≤8) (ho:∀ o ∈ p,iK s o) (ha:p.Pairwise (fun a b=>a.day < b.day)):(ey s p).2=0:=by
 unfold ey uf
 rw [if_neg (by omega),if_neg (by omega),fS]
 intro i hi
 have h:=ho _ (List.getElem_mem hi)
 have hl:¬ p[i].day≤lF p i:=by
  unfold lF
  by_cases h0:i=0
  ·rw [if_pos h0];have:=h.day;omega
  ·rw [if_neg h0,List.getElem?_eq_getElem (by omega)]
   have:=List.pairwise_iff_getElem.1 ha (i - 1) i (by omega) hi (by omega)
   dsimp only
   omega
 unfold kH jO
 rw [List.getElem?_eq_getElem hi]
 dsimp only
 have hd:=h.day
 have hs:=h.some
 have hld:=h.load
 rw [Cv ⟨hd.1,by omega⟩,if_neg (by simp),if_neg hl,if_neg (by omega),Kz h.aO h.DX,if_neg (by simp),if_neg (by omega)]
theorem KA {s:ai} (hc:(i7 s).2.2=0) (xs:List Nat):(ey s (wo s xs)).2=0∧(wo s xs).length≤6∧∀ o ∈ wo s xs,o.day ∈ s.possible:=by
 have hg:=kW hc
 have hm:=hg.many
 have hl:=sP (s:=s) (xs:=xs) s.possible.length
 obtain ⟨h1,h2⟩:=Cu hg (xs:=xs) s.possible.length (Nat.le_refl _)
 exact ⟨sQ hc (by show (fG s xs s.possible.length).length≤8;omega) (fun o ho=>(h1 o ho).1) h2,by show (fG s xs s.possible.length).length≤6;omega,fun o ho=>(h1 o ho).2.1⟩
end Go.Proofs.YtpeogffeoehboaaDoor
