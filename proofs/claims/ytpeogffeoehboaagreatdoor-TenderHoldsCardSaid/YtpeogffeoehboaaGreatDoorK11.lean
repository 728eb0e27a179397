/-
  Contracts of the program's functions and of the document's. Lemmas alone; their conditions stand in them.
-/
import Derived.Test.YtpeogffeoehboaaGreatDoorA3
import Derived.Test.YtpeogffeoehboaaGreatDoorK10
open Go Go.RM
namespace Go.Proofs.YtpeogffeoehboaaGreatDoor
set_option maxRecDepth 100000
set_option maxHeartbeats 4000000
theorem B3 (one:Bool) {m:Nat} (hm:m < 256):Pu one 53 [fP m] (aA (jZ m:Nat)):=by
 have o1:=N6 one hm
 refine ah.body (fn:=Tryz.f53) rfl rfl rfl rfl ?_
 refine aa (mu:=fun _=>false) ?_
 repeat' (first |refine u1 ?_ |((with_reducible show ax _ _ _ _ _ _ _ _);refine ah.call o1 rfl rfl ?_) |refine u2 ?_ |fail)
 exact ⟨[_],⟨Fz.deep rfl,trivial⟩,rfl⟩
theorem N7 (one:Bool) {m:Nat} (hm:m < 256):Pu one 55 [fP m] (aA (Lib.ctz 64 m)):=by
 have o1:=N2 one hm
 refine ah.body (fn:=Tryz.f55) rfl rfl rfl rfl ?_
 refine aa (mu:=fun _=>false) ?_
 repeat' (first |refine u1 ?_ |((with_reducible show ax _ _ _ _ _ _ _ _);refine ah.call o1 rfl rfl ?_) |refine u2 ?_ |fail)
 exact ⟨[_],⟨Fz.deep rfl,trivial⟩,rfl⟩
def bp (f:Nat):List Int:=((List.range 8).filter fun i=>f.testBit i).map fun i:Nat=>((i:Nat):Int)
theorem Jv:((List.range 256).all fun f=>f == 0 || decide (bp f=(Lib.ctz 64 f:Int) :: bp (f &&& (f - 1))))=true:=by kernel_rfl
theorem Fc {f:Nat} (h:f < 256) (h0:f ≠ 0):bp f=(Lib.ctz 64 f:Int) :: bp (f &&& (f - 1)):=by
 have:=List.all_eq_true.1 Jv f (List.mem_range.2 h)
 rw [Bool.or_eq_true] at this
 rcases this with h1|h1
 ·exact absurd (by simpa using h1) h0
 ·exact of_decide_eq_true h1
theorem oC (f:Nat):(bp f).length≤8:=by
 unfold bp
 rw [List.length_map]
 exact Nat.le_trans (List.length_filter_le _ _) (by simp)
theorem lK (l:List Int) (v:Nat):([.cells (dc l) 1 v]:List AB).all (AB.jb 1)=true:=by
 have h:AB.jb 1 (.cells (dc l) 1 v)=true:=gL 1 (fun _=>rfl) _
 simp only [List.all_cons,List.all_nil,h,Bool.and_true]
theorem Dl (one:Bool) {f:Nat} (hf:f < 256):Pu one 27 [fP f] (.sl (ints (bp f)) false):=by
 have h8:=oC f
 refine ah.body (fn:=Tryz.f27) rfl rfl rfl rfl ?_
 refine aa (mu:=fun t=>Nat.beq t 13) ?_
 repeat' (first |refine u1 ?_ |refine u2 ?_ |fail)
 refine aB.aJ (ai.trans (ai.nB 1) (ai.Mi (l:=[(0,fP (f,([]:List Int),(0:Nat),(0:Nat)).1),(2,.bU 0 (f,([]:List Int),(0:Nat),(0:Nat)).2.2.1 0 (f,([]:List Int),(0:Nat),(0:Nat)).2.1.length (f,([]:List Int),(0:Nat),(0:Nat)).2.2.2)]) (hp:=[.cells (dc (f,([]:List Int),(0:Nat),(0:Nat)).2.1) 1 (f,([]:List Int),(0:Nat),(0:Nat)).2.2.1]) 1 rfl ⟨bT.refl _,bT.nA,trivial⟩ (Nat.zero_le _) rfl (lK _ _))) ?_
 refine aB.loop (fun x:Nat × List Int × Nat × Nat=>x.1 < 256∧x.2.1++bp x.1=bp f∧(x.2.2.2=x.2.1.length∨x.2.2.2=x.2.1.length+1)) (fun x=>⟨aS [(0,fP x.1),(2,.bU 0 x.2.2.1 0 x.2.1.length x.2.2.2)],[.cells (dc x.2.1) 1 x.2.2.1],bJ.none,false,0⟩) (fun x=>(bp x.1).length) ?_ (f,[],0,0) ⟨hf,rfl,.inl rfl⟩
 rintro ⟨g,l,aC,c⟩ ⟨hg,hl,hcap⟩
 dsimp only at hg hl hcap
 show aB _ _ _ _ ⟨aS [(0,fP (g,l,aC,c).1),(2,.bU 0 (g,l,aC,c).2.2.1 0 (g,l,aC,c).2.1.length (g,l,aC,c).2.2.2)],[.cells (dc (g,l,aC,c).2.1) 1 (g,l,aC,c).2.2.1],bJ.none,false,0⟩ _
 dsimp only
 refine aa (mu:=fun t=>Nat.beq t 13) ?_
 by_cases h0:g=0
 ·subst h0
  have d1:(!decide (((0:Nat):Int)=0))=false:=by decide
  have he:l=bp f:=by rw [←hl,show bp 0=[] from rfl,List.append_nil]
  rw [←he]
  repeat' (first |((with_reducible show aT _ _ _ _ _ _ _ _ _);refine RM.Ml rfl rfl ?_) |refine u1 ?_ |refine u2 ?_ |fail)
  exact ⟨[_],⟨Fz.row (es:=1) rfl (by rw [List.length_map];omega) (by rw [List.length_map]) (fun el hel=>by obtain ⟨x,_,rfl⟩:=List.mem_map.1 hel;rfl) (by rw [cR,List.drop_zero,List.take_of_length_le (by rw [List.length_map];omega)]) (by rw [cR];exact ic _) (fun h=>Bool.noConfusion h),trivial⟩,rfl⟩
 ·have d1:(!decide ((g:Int)=0))=true:=by rw [decide_eq_false (by omega)];rfl
  have hs:=Fc hg h0
  have ot:=N7 one hg
  have hle:g &&& (g - 1)≤g:=Nat.and_le_left
  have hgl:(dc l).length=l.length:=by rw [List.length_map]
  have hl8:l.length≤8:=by
   have:=congrArg List.length hl
   rw [List.length_append] at this
   omega
  generalize (Lib.ctz 64 g:Int)=z at *
  repeat' (first |((with_reducible show aT _ _ _ _ _ _ _ _ _);refine RM.Ml rfl rfl ?_) |((with_reducible show aT _ _ _ _ _ _ _ _ _);refine RM.PN rfl rfl (by omega) (by omega) ?_) |((with_reducible show aT _ _ _ _ _ _ _ _ _);refine RM.BQ rfl rfl (by omega) (by omega) ?_) |((with_reducible show RM.wpOp _ _ (.call _) _ _ _);refine RM.tB (cs:=dc l) (n:=l.length) (els:=[eI z]) rfl rfl rfl rfl rfl (fun el hel=>by rw [List.mem_singleton.1 hel];rfl) rfl rfl (by rw [hgl];exact (Nat.mul_one _).symm) hcap (by simp only [List.length_singleton];omega) (fun v' c' hc'=>?_)) |refine u1 ?_ |((with_reducible show ax _ _ _ _ _ _ _ _);refine ah.call ot rfl rfl ?_) |refine u2 ?_ |fail)
  refine ⟨(g &&& (g - 1),l++[z],v',c'),⟨by dsimp only;omega,?_,?_⟩,?_,?_⟩
  ·dsimp only
   rw [←hl,hs,List.append_assoc]
   rfl
  ·dsimp only
   rw [List.length_append]
   exact hc'
  ·dsimp only
   rw [hs]
   exact Nat.lt_succ_self _
  ·exact ai.to 1 (by dsimp only;unfold dc;rw [List.map_append];rfl) ⟨rfl,(by rw [List.length_append];rfl),trivial⟩ (Nat.zero_le _) rfl (lK _ _)
def pT (x y:Int):Int:=if x < y then -1 else if y < x then 1 else 0
def iY:List Int→List Int→Int
 | [],[]=>0
 | [],_ :: _=>-1
 | _ :: _,[]=>1
 | x :: a,y :: b=>if pT x y ≠ 0 then pT x y else iY a b
theorem fI (x y:Int) (a b:List Int):iY (x :: a) (y :: b)=if pT x y ≠ 0 then pT x y else iY a b:=rfl
theorem Mn (one:Bool) (x:Int):Pu one 92 [aA x] (BB false):=by
 have d1:(!decide (x=x))=false:=by rw [decide_eq_true rfl];rfl
 refine ah.body (fn:=Tryz.f92) rfl rfl rfl rfl ?_
 refine aa (mu:=fun _=>false) ?_
 repeat' (first |refine u1 ?_ |refine u2 ?_ |fail)
 exact ⟨[_],⟨Fz.deep rfl,trivial⟩,Kn d1⟩
theorem PX (one:Bool) (x y:Int):Pu one 78 [aA x,aA y] (aA (pT x y)):=by
 have o1:=Mn one x
 have o2:=Mn one y
 unfold pT
 by_cases h1:x < y
 ·have d1:=decide_eq_true h1
  rw [if_pos h1]
  refine ah.body (fn:=Tryz.f78) rfl rfl rfl rfl ?_
  refine aa (mu:=fun _=>false) ?_
  repeat' (first |refine u1 ?_ |((with_reducible show ax _ _ _ _ _ _ _ _);refine ah.call o1 rfl rfl ?_) |((with_reducible show ax _ _ _ _ _ _ _ _);refine ah.call o2 rfl rfl ?_) |refine u2 ?_ |fail)
  exact ⟨[_],⟨Fz.deep rfl,trivial⟩,rfl⟩
 ·have d1:=decide_eq_false h1
  rw [if_neg h1]
  by_cases h2:y < x
  ·have d2:=decide_eq_true h2
   rw [if_pos h2]
   refine ah.body (fn:=Tryz.f78) rfl rfl rfl rfl ?_
   refine aa (mu:=fun _=>false) ?_
   repeat' (first |refine u1 ?_ |((with_reducible show ax _ _ _ _ _ _ _ _);refine ah.call o1 rfl rfl ?_) |((with_reducible show ax _ _ _ _ _ _ _ _);refine ah.call o2 rfl rfl ?_) |refine u2 ?_ |fail)
   exact ⟨[_],⟨Fz.deep rfl,trivial⟩,rfl⟩
  ·have d2:=decide_eq_false h2
   rw [if_neg h2]
   refine ah.body (fn:=Tryz.f78) rfl rfl rfl rfl ?_
   refine aa (mu:=fun _=>false) ?_
   repeat' (first |refine u1 ?_ |((with_reducible show ax _ _ _ _ _ _ _ _);refine ah.call o1 rfl rfl ?_) |((with_reducible show ax _ _ _ _ _ _ _ _);refine ah.call o2 rfl rfl ?_) |refine u2 ?_ |fail)
   exact ⟨[_],⟨Fz.deep rfl,trivial⟩,rfl⟩
theorem PY (one:Bool) (a b:List Int) (fa fb:Bool) (ha:a.length≤maxLen) (hb:b.length≤maxLen):Pu one 54 [.sl (ints a) fa,.sl (ints b) fb] (aA (iY a b)):=by
 have ma:a.length≤9223372036854775807:=Nat.le_trans ha (by simp [maxLen])
 have mb:b.length≤9223372036854775807:=Nat.le_trans hb (by simp [maxLen])
 have ea:((ints a).length:Int)=a.length:=by simp
 have eb:((ints b).length:Int)=b.length:=by simp
 obtain ⟨n,hn⟩:∃ n:Int,n=a.length:=⟨_,rfl⟩
 refine ah.body (fn:=Tryz.f54) rfl rfl rfl rfl ?_
 refine aa (mu:=fun _=>false) ?_
 repeat' (first |refine u1 ?_ |refine u2 ?_ |fail)
 refine aB.aJ (ai.to (l:=[(0,.sl (ints a) fa),(1,.sl (ints b) fb),(9,.sl (ints a) fa),(10,aA n),(11,aA (0:Nat))]) (hp:=[]) 0 rfl ⟨rfl,rfl,rfl,aV (by rw [hn];exact ea),rfl,trivial⟩ (Nat.zero_le _) rfl rfl) ?_
 refine aB.loop (fun k:Nat=>k≤a.length∧iY a b=iY (a.drop k) (b.drop k)) (fun k=>⟨aS [(0,.sl (ints a) fa),(1,.sl (ints b) fb),(9,.sl (ints a) fa),(10,aA n),(11,aA (k:Nat))],[],bJ.none,false,0⟩) (fun k=>a.length - k) ?_ 0 ⟨Nat.zero_le _,rfl⟩
 rintro k ⟨hk,hrel⟩
 refine aa (mu:=fun _=>false) ?_
 by_cases hlt:k < a.length
 ·have d1:decide ((k:Int) < n)=true:=decide_eq_true (by omega)
  have hat:(ints a)[((k:Nat):Int).toNat]?=some (eI a[k]):=bl hlt
  by_cases hbt:k < b.length
  ·have d2:decide (((ints b).length:Int)≤(k:Int))=false:=decide_eq_false (by omega)
   have hat2:(ints b)[((k:Nat):Int).toNat]?=some (eI b[k]):=bl hbt
   rw [List.drop_eq_getElem_cons hlt,List.drop_eq_getElem_cons hbt] at hrel
   have os:=PX one a[k] b[k]
   rw [fI] at hrel
   generalize a[k]=x at *
   generalize b[k]=y at *
   by_cases hs:pT x y=0
   ·rw [if_neg (by omega)] at hrel
    rw [hs] at os
    have z0:(!decide ((0:Int)=0))=false:=by decide
    repeat' (first |refine u1 ?_ |((with_reducible show RM.wpOp _ _ (.indexAddr _ _ _) _ _ _);refine ⟨eI x,⟨by omega,hat⟩,rfl,?_⟩) |((with_reducible show RM.wpOp _ _ (.indexAddr _ _ _) _ _ _);refine ⟨eI y,⟨by omega,hat2⟩,rfl,?_⟩) |((with_reducible show ax _ _ _ _ _ _ _ _);refine ah.call os rfl rfl ?_) |refine u2 ?_ |fail)
    exact ⟨k+1,⟨hlt,hrel⟩,(by dsimp only;omega),ai.to 0 rfl ⟨rfl,rfl,rfl,rfl,aV (by simp),trivial⟩ (Nat.zero_le _) rfl rfl⟩
   ·rw [if_pos hs] at hrel
    rw [hrel]
    have z0:(!decide (pT x y=0))=true:=by rw [decide_eq_false hs];rfl
    generalize pT x y=w at *
    repeat' (first |refine u1 ?_ |((with_reducible show RM.wpOp _ _ (.indexAddr _ _ _) _ _ _);refine ⟨eI x,⟨by omega,hat⟩,rfl,?_⟩) |((with_reducible show RM.wpOp _ _ (.indexAddr _ _ _) _ _ _);refine ⟨eI y,⟨by omega,hat2⟩,rfl,?_⟩) |((with_reducible show ax _ _ _ _ _ _ _ _);refine ah.call os rfl rfl ?_) |refine u2 ?_ |fail)
    exact ⟨[_],⟨Fz.deep rfl,trivial⟩,rfl⟩
  ·have d2:decide (((ints b).length:Int)≤(k:Int))=true:=decide_eq_true (by omega)
   rw [List.drop_eq_getElem_cons hlt,List.drop_eq_nil_of_le (by omega:b.length≤k)] at hrel
   rw [hrel]
   generalize a[k]=x at *
   repeat' (first |refine u1 ?_ |((with_reducible show RM.wpOp _ _ (.indexAddr _ _ _) _ _ _);refine ⟨eI x,⟨by omega,hat⟩,rfl,?_⟩) |refine u2 ?_ |fail)
   exact ⟨[_],⟨Fz.deep rfl,trivial⟩,rfl⟩
 ·have d1:decide ((k:Int) < n)=false:=decide_eq_false (by omega)
  rw [List.drop_eq_nil_of_le (by omega:a.length≤k)] at hrel
  by_cases hab:a.length < b.length
  ·have d3:decide (((ints a).length:Int) < ((ints b).length:Int))=true:=decide_eq_true (by omega)
   rw [List.drop_eq_getElem_cons (by omega:k < b.length)] at hrel
   rw [hrel]
   repeat' (first |refine u1 ?_ |refine u2 ?_ |fail)
   exact ⟨[_],⟨Fz.deep rfl,trivial⟩,rfl⟩
  ·have d3:decide (((ints a).length:Int) < ((ints b).length:Int))=false:=decide_eq_false (by omega)
   rw [List.drop_eq_nil_of_le (by omega:b.length≤k)] at hrel
   rw [hrel]
   repeat' (first |refine u1 ?_ |refine u2 ?_ |fail)
   exact ⟨[_],⟨Fz.deep rfl,trivial⟩,rfl⟩
structure fB where
 f:Nat
 day:Int
 need:Int
abbrev wv (b:fB):List AV:=[fP b.f,aA b.day,aA b.need]
structure fB.Ok (b:fB):Prop where
 f:b.f < 256
 day:0≤b.day∧b.day≤60
 need:0≤b.need∧b.need≤3
theorem KP (one:Bool) {a b:fB} (ha:a.Ok) (hb:b.Ok):Pu one 23 [.ag (wv a),.ag (wv b)] (aA (a.day - b.day)):=by
 have h1:=ha.day
 have h2:=hb.day
 refine ah.body (fn:=Tryz.f23) rfl rfl rfl rfl ?_
 refine aa (mu:=fun _=>false) ?_
 repeat' (first |refine u1 ?_ |refine u2 ?_ |fail)
 exact ⟨[_],⟨Fz.deep rfl,trivial⟩,rfl⟩
theorem Jw (one:Bool) {a b:fB} (ha:a.Ok) (hb:b.Ok):Pu one 24 [.ag (wv a),.ag (wv b)] (aA (a.need - b.need)):=by
 have h1:=ha.need
 have h2:=hb.need
 refine ah.body (fn:=Tryz.f24) rfl rfl rfl rfl ?_
 refine aa (mu:=fun _=>false) ?_
 repeat' (first |refine u1 ?_ |refine u2 ?_ |fail)
 exact ⟨[_],⟨Fz.deep rfl,trivial⟩,rfl⟩
theorem Jx (one:Bool) {a b:fB} (ha:a.Ok) (hb:b.Ok):Pu one 25 [.ag (wv a),.ag (wv b)] (aA ((jZ a.f:Nat) - (jZ b.f:Nat))):=by
 have h1:=Ju a.f
 have h2:=Ju b.f
 have o1:=B3 true ha.f
 have o2:=B3 true hb.f
 generalize jZ a.f=x at *
 generalize jZ b.f=y at *
 refine ah.body (fn:=Tryz.f25) rfl rfl rfl rfl ?_
 refine aa (mu:=fun _=>false) ?_
 repeat' (first |refine u1 ?_ |(refine ⟨_,o1,?_⟩) |(refine ⟨_,o2,?_⟩) |refine u2 ?_ |fail)
 exact ⟨[_],⟨Fz.deep rfl,trivial⟩,rfl⟩
theorem Jy (one:Bool) {a b:fB} (ha:a.Ok) (hb:b.Ok):Pu one 26 [.ag (wv a),.ag (wv b)] (aA (iY (bp a.f) (bp b.f))):=by
 have h1:=oC a.f
 have h2:=oC b.f
 have o1:=Dl true ha.f
 have o2:=Dl true hb.f
 have o3:=PY true (bp a.f) (bp b.f) false false (by simp [maxLen];omega) (by simp [maxLen];omega)
 refine ah.body (fn:=Tryz.f26) rfl rfl rfl rfl ?_
 refine aa (mu:=fun _=>false) ?_
 repeat' (first |refine u1 ?_ |(refine ⟨_,o1,?_⟩) |(refine ⟨_,o2,?_⟩) |(refine ⟨_,o3,?_⟩) |refine u2 ?_ |fail)
 exact ⟨[_],⟨Fz.deep rfl,trivial⟩,rfl⟩
end Go.Proofs.YtpeogffeoehboaaGreatDoor
