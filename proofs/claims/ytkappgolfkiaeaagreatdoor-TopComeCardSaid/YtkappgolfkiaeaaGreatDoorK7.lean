/-
  Contracts of the program's functions and of the document's. Lemmas alone; their conditions stand in them.
-/
import Derived.Test.YtkappgolfkiaeaaGreatDoorK6
open Go Go.RM
namespace Go.Proofs.YtkappgolfkiaeaaGreatDoor
set_option maxRecDepth 100000
set_option maxHeartbeats 4000000
theorem C6 (one:Bool) {m:Nat} (hm:m < 256):Pu one 87 [i7 m] (av (mO m:Nat)):=by
 have o1:=Qb one hm;refine af.body (fn:=Tryz.f87) rfl rfl rfl rfl ?_;refine qq1 ?_;repeat' first|refine u1 ?_|((with_reducible refine qq3 ?_);refine af.call o1 rfl rfl ?_)|refine u2 ?_|fail
 exact ⟨[_],⟨Fz.deep rfl,trivial⟩,rfl⟩
theorem Qc (one:Bool) {m:Nat} (hm:m < 256):Pu one 89 [i7 m] (av (Lib.ctz 64 m)):=by
 have o1:=P7 one hm;refine af.body (fn:=Tryz.f89) rfl rfl rfl rfl ?_;refine qq1 ?_;repeat' first|refine u1 ?_|((with_reducible refine qq3 ?_);refine af.call o1 rfl rfl ?_)|refine u2 ?_|fail
 exact ⟨[_],⟨Fz.deep rfl,trivial⟩,rfl⟩
def fo (f:Nat):List Int:=((List.range 8).filter fun i=>f.testBit i).map fun i:Nat=>((i:Nat):Int)
theorem Js:((List.range 256).all fun f=>f == 0 || decide (fo f=(Lib.ctz 64 f:Int) :: fo (f &&& (f - 1))))=true:=by kernel_rfl
theorem Hg {f:Nat} (h:f < 256) (h0:f ≠ 0):fo f=(Lib.ctz 64 f:Int) :: fo (f &&& (f - 1)):=by
 have:=List.all_eq_true.1 Js f (List.mem_range.2 h);rw [Bool.or_eq_true] at this
 rcases this with h1|h1
 ·exact absurd (by simpa using h1) h0
 ·exact of_decide_eq_true h1
theorem tX (f:Nat):(fo f).length≤8:=by unfold fo;rw [List.length_map];exact Nat.le_trans (List.length_filter_le _ _) (by simp)
theorem js (l:List Int) (v:Nat):([.cells (iW l) 1 v]:List AB).all (AB.jN 1)=true:=by have h:AB.jN 1 (.cells (iW l) 1 v)=true:=mN 1 (fun _=>rfl) _;simp only [List.all_cons,List.all_nil,h,Bool.and_true]
theorem EF (one:Bool) {f:Nat} (hf:f < 256):Pu one 53 [i7 f] (.sl (ints (fo f)) false):=by
 have h8:=tX f;refine af.body (fn:=Tryz.f53) rfl rfl rfl rfl ?_;refine aa (mu:=fun t=>Nat.beq t 13) ?_;repeat' first|refine u1 ?_|refine u2 ?_|fail
 refine aE.aS (ai.trans (ai.tO 1) (ai.RF (l:=[(0,i7 (f,([]:List Int),(0:Nat),(0:Nat)).1),(2,.dw 0 (f,([]:List Int),(0:Nat),(0:Nat)).2.2.1 0 (f,([]:List Int),(0:Nat),(0:Nat)).2.1.length (f,([]:List Int),(0:Nat),(0:Nat)).2.2.2)]) (hp:=[.cells (iW (f,([]:List Int),(0:Nat),(0:Nat)).2.1) 1 (f,([]:List Int),(0:Nat),(0:Nat)).2.2.1]) 1 rfl ⟨fJ.refl _,fJ.tN,trivial⟩ (qq5 _) rfl (js _ _))) ?_;refine aE.loop (fun x:Nat × List Int × Nat × Nat=>x.1 < 256∧x.2.1++fo x.1=fo f∧(x.2.2.2=x.2.1.length∨x.2.2.2=x.2.1.length+1)) (fun x=>⟨bA [(0,i7 x.1),(2,.dw 0 x.2.2.1 0 x.2.1.length x.2.2.2)],[.cells (iW x.2.1) 1 x.2.2.1],cz.none,false,0⟩) (fun x=>(fo x.1).length) ?_ (f,[],0,0) ⟨hf,rfl,.inl rfl⟩;rintro ⟨g,l,aF,c⟩ ⟨hg,hl,hcap⟩;dsimp only at hg hl hcap;show aE _ _ _ _ ⟨bA [(0,i7 (g,l,aF,c).1),(2,.dw 0 (g,l,aF,c).2.2.1 0 (g,l,aF,c).2.1.length (g,l,aF,c).2.2.2)],[.cells (iW (g,l,aF,c).2.1) 1 (g,l,aF,c).2.2.1],cz.none,false,0⟩ _;dsimp only;refine aa (mu:=fun t=>Nat.beq t 13) ?_;by_cases h0:g=0
 ·subst h0;have d1:(!decide (((0:Nat):Int)=0))=false:=by decide
  have he:l=fo f:=by rw [←hl,show fo 0=[] from rfl,List.append_nil]
  rw [←he];repeat' first|((with_reducible show bw _ _ _ _ _ _ _ _ _);refine RM.Oe rfl rfl ?_)|refine u1 ?_|refine u2 ?_|fail
  exact ⟨[_],⟨Fz.row (es:=1) rfl (by rw [List.length_map];omega) (by rw [List.length_map]) (fun el hel=>by obtain ⟨x,_,rfl⟩:=List.mem_map.1 hel;rfl) (by rw [kq,List.drop_zero,List.take_of_length_le (by rw [List.length_map];omega)]) (by rw [kq];exact tU _) (fun h=>Bool.noConfusion h),trivial⟩,rfl⟩
 ·have d1:(!decide ((g:Int)=0))=true:=by rw [decide_eq_false (by omega)];rfl
  have hs:=Hg hg h0;have ot:=Qc one hg;have hle:g &&& (g - 1)≤g:=Nat.and_le_left;have hgl:(iW l).length=l.length:=by rw [List.length_map]
  have hl8:l.length≤8:=by have:=congrArg List.length hl;rw [List.length_append] at this;omega
  generalize (Lib.ctz 64 g:Int)=z at *
  repeat' first|((with_reducible show bw _ _ _ _ _ _ _ _ _);refine RM.Oe rfl rfl ?_)|((with_reducible show bw _ _ _ _ _ _ _ _ _);refine RM.RU rfl rfl (by omega) (by omega) ?_)|((with_reducible show bw _ _ _ _ _ _ _ _ _);refine RM.CV rfl rfl (by omega) (by omega) ?_)|((with_reducible show RM.wpOp _ _ (.call _) _ _ _);refine RM.G2 (cs:=iW l) (n:=l.length) (els:=[eI z]) rfl rfl rfl rfl rfl (fun el hel=>by rw [List.mem_singleton.1 hel];rfl) rfl rfl (by rw [hgl];exact (Nat.mul_one _).symm) hcap (by simp only [List.length_singleton];omega) (fun v' c' hc'=>?_))|refine u1 ?_|((with_reducible refine qq3 ?_);refine af.call ot rfl rfl ?_)|refine u2 ?_|fail
  refine ⟨(g &&& (g - 1),l++[z],v',c'),⟨by dsimp only;omega,?_,?_⟩,?_,?_⟩
  ·dsimp only;rw [←hl,hs,List.append_assoc];rfl
  ·dsimp only;rw [List.length_append];exact hc'
  ·dsimp only;rw [hs];exact Nat.lt_succ_self _
  ·exact ai.to 1 (by dsimp only;unfold iW;rw [List.map_append];rfl) ⟨rfl,(by rw [List.length_append];rfl),trivial⟩ (qq5 _) rfl (js _ _)
def Nq (x y:Int):Int:=if x < y then -1 else if y < x then 1 else 0
def xl:List Int→List Int→Int
 | [],[]=>0
 | [],_ :: _=>-1
 | _ :: _,[]=>1
 | x :: a,y :: b=>if Nq x y ≠ 0 then Nq x y else xl a b
theorem Hh (x y:Int) (a b:List Int):xl (x :: a) (y :: b)=if Nq x y ≠ 0 then Nq x y else xl a b:=rfl
theorem Og (one:Bool) (x:Int):Pu one 148 [av x] (BB false):=by
 have d1:(!decide (x=x))=false:=by rw [decide_eq_true rfl];rfl
 refine af.body (fn:=Tryz.f148) rfl rfl rfl rfl ?_;refine qq1 ?_;repeat' first|refine u1 ?_|refine u2 ?_|fail
 exact ⟨[_],⟨Fz.deep rfl,trivial⟩,Er d1⟩
theorem R5 (one:Bool) (x y:Int):Pu one 127 [av x,av y] (av (Nq x y)):=by
 have o1:=Og one x;have o2:=Og one y;unfold Nq;by_cases h1:x < y
 ·have d1:=decide_eq_true h1;rw [if_pos h1];refine af.body (fn:=Tryz.f127) rfl rfl rfl rfl ?_;refine qq1 ?_;repeat' first|refine u1 ?_|((with_reducible refine qq3 ?_);refine af.call o1 rfl rfl ?_)|((with_reducible refine qq3 ?_);refine af.call o2 rfl rfl ?_)|refine u2 ?_|fail
  exact ⟨[_],⟨Fz.deep rfl,trivial⟩,rfl⟩
 ·have d1:=decide_eq_false h1;rw [if_neg h1];by_cases h2:y < x
  ·have d2:=decide_eq_true h2;rw [if_pos h2];refine af.body (fn:=Tryz.f127) rfl rfl rfl rfl ?_;refine qq1 ?_;repeat' first|refine u1 ?_|((with_reducible refine qq3 ?_);refine af.call o1 rfl rfl ?_)|((with_reducible refine qq3 ?_);refine af.call o2 rfl rfl ?_)|refine u2 ?_|fail
   exact ⟨[_],⟨Fz.deep rfl,trivial⟩,rfl⟩
  ·have d2:=decide_eq_false h2;rw [if_neg h2];refine af.body (fn:=Tryz.f127) rfl rfl rfl rfl ?_;refine qq1 ?_;repeat' first|refine u1 ?_|((with_reducible refine qq3 ?_);refine af.call o1 rfl rfl ?_)|((with_reducible refine qq3 ?_);refine af.call o2 rfl rfl ?_)|refine u2 ?_|fail
   exact ⟨[_],⟨Fz.deep rfl,trivial⟩,rfl⟩
theorem R6 (one:Bool) (a b:List Int) (fa fb:Bool) (ha:a.length≤maxLen) (hb:b.length≤maxLen):Pu one 88 [.sl (ints a) fa,.sl (ints b) fb] (av (xl a b)):=by
 have ma:a.length≤9223372036854775807:=Nat.le_trans ha (by simp [maxLen]);have mb:b.length≤9223372036854775807:=Nat.le_trans hb (by simp [maxLen]);have ea:((ints a).length:Int)=a.length:=by simp
 have eb:((ints b).length:Int)=b.length:=by simp
 obtain ⟨n,hn⟩:∃ n:Int,n=a.length:=⟨_,rfl⟩;refine af.body (fn:=Tryz.f88) rfl rfl rfl rfl ?_;refine qq1 ?_;repeat' first|refine u1 ?_|refine u2 ?_|fail
 refine aE.aS (ai.to (l:=[(0,.sl (ints a) fa),(1,.sl (ints b) fb),(9,.sl (ints a) fa),(10,av n),(11,av (0:Nat))]) (hp:=[]) 0 rfl ⟨rfl,rfl,rfl,aJ (by rw [hn];exact ea),rfl,trivial⟩ (qq5 _) rfl rfl) ?_;refine aE.loop (fun k:Nat=>k≤a.length∧xl a b=xl (a.drop k) (b.drop k)) (fun k=>⟨bA [(0,.sl (ints a) fa),(1,.sl (ints b) fb),(9,.sl (ints a) fa),(10,av n),(11,av (k:Nat))],[],cz.none,false,0⟩) (fun k=>a.length - k) ?_ 0 ⟨qq5 _,rfl⟩;rintro k ⟨hk,hrel⟩;refine qq1 ?_;by_cases hlt:k < a.length
 ·have d1:decide ((k:Int) < n)=true:=decide_eq_true (by omega);have hat:(ints a)[((k:Nat):Int).toNat]?=some (eI a[k]):=bI hlt;by_cases hbt:k < b.length
  ·have d2:decide (((ints b).length:Int)≤(k:Int))=false:=decide_eq_false (by omega);have hat2:(ints b)[((k:Nat):Int).toNat]?=some (eI b[k]):=bI hbt;rw [List.drop_eq_getElem_cons hlt,List.drop_eq_getElem_cons hbt] at hrel;have os:=R5 one a[k] b[k];rw [Hh] at hrel
   generalize a[k]=x at *
   generalize b[k]=y at *
   by_cases hs:Nq x y=0
   ·rw [if_neg (by omega)] at hrel;rw [hs] at os;have z0:(!decide ((0:Int)=0))=false:=by decide
    repeat' first|refine u1 ?_|((with_reducible refine qq4 ?_);refine ⟨eI x,⟨by omega,hat⟩,rfl,?_⟩)|((with_reducible refine qq4 ?_);refine ⟨eI y,⟨by omega,hat2⟩,rfl,?_⟩)|((with_reducible refine qq3 ?_);refine af.call os rfl rfl ?_)|refine u2 ?_|fail
    exact ⟨k+1,⟨hlt,hrel⟩,(by dsimp only;omega),ai.to 0 rfl ⟨rfl,rfl,rfl,rfl,aJ (by simp),trivial⟩ (qq5 _) rfl rfl⟩
   ·rw [if_pos hs] at hrel;rw [hrel];have z0:(!decide (Nq x y=0))=true:=by rw [decide_eq_false hs];rfl
    generalize Nq x y=w at *
    repeat' first|refine u1 ?_|((with_reducible refine qq4 ?_);refine ⟨eI x,⟨by omega,hat⟩,rfl,?_⟩)|((with_reducible refine qq4 ?_);refine ⟨eI y,⟨by omega,hat2⟩,rfl,?_⟩)|((with_reducible refine qq3 ?_);refine af.call os rfl rfl ?_)|refine u2 ?_|fail
    exact ⟨[_],⟨Fz.deep rfl,trivial⟩,rfl⟩
  ·have d2:decide (((ints b).length:Int)≤(k:Int))=true:=decide_eq_true (by omega);rw [List.drop_eq_getElem_cons hlt,List.drop_eq_nil_of_le (by omega:b.length≤k)] at hrel;rw [hrel]
   generalize a[k]=x at *
   repeat' first|refine u1 ?_|((with_reducible refine qq4 ?_);refine ⟨eI x,⟨by omega,hat⟩,rfl,?_⟩)|refine u2 ?_|fail
   exact ⟨[_],⟨Fz.deep rfl,trivial⟩,rfl⟩
 ·have d1:decide ((k:Int) < n)=false:=decide_eq_false (by omega);rw [List.drop_eq_nil_of_le (by omega:a.length≤k)] at hrel;by_cases hab:a.length < b.length
  ·have d3:decide (((ints a).length:Int) < ((ints b).length:Int))=true:=decide_eq_true (by omega);rw [List.drop_eq_getElem_cons (by omega:k < b.length)] at hrel;rw [hrel];repeat' first|refine u1 ?_|refine u2 ?_|fail
   exact ⟨[_],⟨Fz.deep rfl,trivial⟩,rfl⟩
  ·have d3:decide (((ints a).length:Int) < ((ints b).length:Int))=false:=decide_eq_false (by omega);rw [List.drop_eq_nil_of_le (by omega:b.length≤k)] at hrel;rw [hrel];repeat' first|refine u1 ?_|refine u2 ?_|fail
   exact ⟨[_],⟨Fz.deep rfl,trivial⟩,rfl⟩
structure hJ where
 f:Nat
 day:Int
 need:Int
abbrev x7 (b:hJ):List AV:=[i7 b.f,av b.day,av b.need]
structure hJ.Ok (b:hJ):Prop where
 f:b.f < 256
 day:0≤b.day∧b.day≤60
 need:0≤b.need∧b.need≤3
theorem Nr (one:Bool) {a b:hJ} (ha:a.Ok) (hb:b.Ok):Pu one 49 [.ag (x7 a),.ag (x7 b)] (av (a.day - b.day)):=by
 have h1:=ha.day;have h2:=hb.day;refine af.body (fn:=Tryz.f49) rfl rfl rfl rfl ?_;refine qq1 ?_;repeat' first|refine u1 ?_|refine u2 ?_|fail
 exact ⟨[_],⟨Fz.deep rfl,trivial⟩,rfl⟩
theorem Jt (one:Bool) {a b:hJ} (ha:a.Ok) (hb:b.Ok):Pu one 50 [.ag (x7 a),.ag (x7 b)] (av (a.need - b.need)):=by
 have h1:=ha.need;have h2:=hb.need;refine af.body (fn:=Tryz.f50) rfl rfl rfl rfl ?_;refine qq1 ?_;repeat' first|refine u1 ?_|refine u2 ?_|fail
 exact ⟨[_],⟨Fz.deep rfl,trivial⟩,rfl⟩
theorem Ju (one:Bool) {a b:hJ} (ha:a.Ok) (hb:b.Ok):Pu one 51 [.ag (x7 a),.ag (x7 b)] (av ((mO a.f:Nat) - (mO b.f:Nat))):=by
 have h1:=Jr a.f;have h2:=Jr b.f;have o1:=C6 true ha.f;have o2:=C6 true hb.f
 generalize mO a.f=x at *
 generalize mO b.f=y at *
 refine af.body (fn:=Tryz.f51) rfl rfl rfl rfl ?_;refine qq1 ?_;repeat' first|refine u1 ?_|(refine ⟨_,o1,?_⟩)|(refine ⟨_,o2,?_⟩)|refine u2 ?_|fail
 exact ⟨[_],⟨Fz.deep rfl,trivial⟩,rfl⟩
theorem Jv (one:Bool) {a b:hJ} (ha:a.Ok) (hb:b.Ok):Pu one 52 [.ag (x7 a),.ag (x7 b)] (av (xl (fo a.f) (fo b.f))):=by
 have h1:=tX a.f;have h2:=tX b.f;have o1:=EF true ha.f;have o2:=EF true hb.f;have o3:=R6 true (fo a.f) (fo b.f) false false (by simp [maxLen];omega) (by simp [maxLen];omega);refine af.body (fn:=Tryz.f52) rfl rfl rfl rfl ?_;refine qq1 ?_;repeat' first|refine u1 ?_|(refine ⟨_,o1,?_⟩)|(refine ⟨_,o2,?_⟩)|(refine ⟨_,o3,?_⟩)|refine u2 ?_|fail
 exact ⟨[_],⟨Fz.deep rfl,trivial⟩,rfl⟩
