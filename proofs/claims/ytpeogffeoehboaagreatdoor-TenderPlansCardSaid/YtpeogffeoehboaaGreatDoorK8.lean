/-
  Contracts of the program's functions and of the document's. Lemmas alone; their conditions stand in them.
-/
import Derived.Test.YtpeogffeoehboaaGreatDoorK7
open Go Go.RM
namespace Go.Proofs.YtpeogffeoehboaaGreatDoor
set_option maxRecDepth 100000
set_option maxHeartbeats 4000000
theorem QS (one:Bool) {m:Nat} (hm:m < 256):Pu one 55 [kO m] (aC (Lib.ctz 64 m)):=by
 have o1:=QO one hm;refine aj.body (fn:=Tryz.f55) rfl rfl rfl rfl ?_;refine qq1 ?_;repeat' first|refine u1 ?_|((with_reducible refine qq3 ?_);refine aj.call o1 rfl rfl ?_)|refine u2 ?_|fail
 exact ⟨[_],⟨Fz.deep rfl,trivial⟩,rfl⟩
def aL (f:Nat):List Int:=((List.range 8).filter fun i=>f.testBit i).map fun i:Nat=>((i:Nat):Int)
theorem LY:((List.range 256).all fun f=>f == 0 || decide (aL f=(Lib.ctz 64 f:Int) :: aL (f &&& (f - 1))))=true:=by kernel_rfl
theorem zF {f:Nat} (h:f < 256) (h0:f ≠ 0):aL f=(Lib.ctz 64 f:Int) :: aL (f &&& (f - 1)):=by
 have:=List.all_eq_true.1 LY f (List.mem_range.2 h);rw [Bool.or_eq_true] at this
 rcases this with h1|h1
 ·exact absurd (by simpa using h1) h0
 ·exact of_decide_eq_true h1
theorem qi (f:Nat):(aL f).length≤8:=by unfold aL;rw [List.length_map];exact Nat.le_trans (List.length_filter_le _ _) (by simp)
theorem dK (l:List Int) (v:Nat):([.cells (bG l) 1 v]:List AB).all (AB.gF 1)=true:=by have h:AB.gF 1 (.cells (bG l) 1 v)=true:=gM 1 (fun _=>rfl) _;simp only [List.all_cons,List.all_nil,h,Bool.and_true]
theorem QT (one:Bool) {f:Nat} (hf:f < 256):Pu one 27 [kO f] (.sl (ints (aL f)) false):=by
 have h8:=qi f;refine aj.body (fn:=Tryz.f27) rfl rfl rfl rfl ?_;refine aa (mu:=fun t=>Nat.beq t 13) ?_;repeat' first|refine u1 ?_|refine u2 ?_|fail
 refine av.aJ (ah.trans (ah.jl 1) (ah.Gi (l:=[(0,kO (f,([]:List Int),(0:Nat),(0:Nat)).1),(2,.bg 0 (f,([]:List Int),(0:Nat),(0:Nat)).2.2.1 0 (f,([]:List Int),(0:Nat),(0:Nat)).2.1.length (f,([]:List Int),(0:Nat),(0:Nat)).2.2.2)]) (hp:=[.cells (bG (f,([]:List Int),(0:Nat),(0:Nat)).2.1) 1 (f,([]:List Int),(0:Nat),(0:Nat)).2.2.1]) 1 rfl ⟨aW.refl _,aW.jk,trivial⟩ (qq5 _) rfl (dK _ _))) ?_;refine av.loop (fun x:Nat × List Int × Nat × Nat=>x.1 < 256∧x.2.1++aL x.1=aL f∧(x.2.2.2=x.2.1.length∨x.2.2.2=x.2.1.length+1)) (fun x=>⟨aZ [(0,kO x.1),(2,.bg 0 x.2.2.1 0 x.2.1.length x.2.2.2)],[.cells (bG x.2.1) 1 x.2.2.1],bA.none,false,0⟩) (fun x=>(aL x.1).length) ?_ (f,[],0,0) ⟨hf,rfl,.inl rfl⟩;rintro ⟨g,l,aA,c⟩ ⟨hg,hl,hcap⟩;dsimp only at hg hl hcap;show av _ _ _ _ ⟨aZ [(0,kO (g,l,aA,c).1),(2,.bg 0 (g,l,aA,c).2.2.1 0 (g,l,aA,c).2.1.length (g,l,aA,c).2.2.2)],[.cells (bG (g,l,aA,c).2.1) 1 (g,l,aA,c).2.2.1],bA.none,false,0⟩ _;dsimp only;refine aa (mu:=fun t=>Nat.beq t 13) ?_;by_cases h0:g=0
 ·subst h0;have d1:(!decide (((0:Nat):Int)=0))=false:=by decide
  have he:l=aL f:=by rw [←hl,show aL 0=[] from rfl,List.append_nil]
  rw [←he];repeat' first|((with_reducible show bk _ _ _ _ _ _ _ _ _);refine RM.O8 rfl rfl ?_)|refine u1 ?_|refine u2 ?_|fail
  exact ⟨[_],⟨Fz.row (es:=1) rfl (by rw [List.length_map];omega) (by rw [List.length_map]) (fun el hel=>by obtain ⟨x,_,rfl⟩:=List.mem_map.1 hel;rfl) (by rw [cK,List.drop_zero,List.take_of_length_le (by rw [List.length_map];omega)]) (by rw [cK];exact fu _) (fun h=>Bool.noConfusion h),trivial⟩,rfl⟩
 ·have d1:(!decide ((g:Int)=0))=true:=by rw [decide_eq_false (by omega)];rfl
  have hs:=zF hg h0;have ot:=QS one hg;have hle:g &&& (g - 1)≤g:=Nat.and_le_left;have hgl:(bG l).length=l.length:=by rw [List.length_map]
  have hl8:l.length≤8:=by have:=congrArg List.length hl;rw [List.length_append] at this;omega
  generalize (Lib.ctz 64 g:Int)=z at *
  repeat' first|((with_reducible show bk _ _ _ _ _ _ _ _ _);refine RM.O8 rfl rfl ?_)|((with_reducible show bk _ _ _ _ _ _ _ _ _);refine RM.SI rfl rfl (by omega) (by omega) ?_)|((with_reducible show bk _ _ _ _ _ _ _ _ _);refine RM.O7 rfl rfl (by omega) (by omega) ?_)|((with_reducible show RM.wpOp _ _ (.call _) _ _ _);refine RM.l5 (cs:=bG l) (n:=l.length) (els:=[eI z]) rfl rfl rfl rfl rfl (fun el hel=>by rw [List.mem_singleton.1 hel];rfl) rfl rfl (by rw [hgl];exact (Nat.mul_one _).symm) hcap (by simp only [List.length_singleton];omega) (fun v' c' hc'=>?_))|refine u1 ?_|((with_reducible refine qq3 ?_);refine aj.call ot rfl rfl ?_)|refine u2 ?_|fail
  refine ⟨(g &&& (g - 1),l++[z],v',c'),⟨by dsimp only;omega,?_,?_⟩,?_,?_⟩
  ·dsimp only;rw [←hl,hs,List.append_assoc];rfl
  ·dsimp only;rw [List.length_append];exact hc'
  ·dsimp only;rw [hs];exact Nat.lt_succ_self _
  ·exact ah.to 1 (by dsimp only;unfold bG;rw [List.map_append];rfl) ⟨rfl,(by rw [List.length_append];rfl),trivial⟩ (qq5 _) rfl (dK _ _)
def Ih (x y:Int):Int:=if x < y then -1 else if y < x then 1 else 0
def nJ:List Int→List Int→Int
 | [],[]=>0
 | [],_ :: _=>-1
 | _ :: _,[]=>1
 | x :: a,y :: b=>if Ih x y ≠ 0 then Ih x y else nJ a b
theorem tT (x y:Int) (a b:List Int):nJ (x :: a) (y :: b)=if Ih x y ≠ 0 then Ih x y else nJ a b:=rfl
theorem Pb (one:Bool) (x:Int):Pu one 92 [aC x] (BB false):=by
 have d1:(!decide (x=x))=false:=by rw [decide_eq_true rfl];rfl
 refine aj.body (fn:=Tryz.f92) rfl rfl rfl rfl ?_;refine qq1 ?_;repeat' first|refine u1 ?_|refine u2 ?_|fail
 exact ⟨[_],⟨Fz.deep rfl,trivial⟩,M9 d1⟩
theorem SP (one:Bool) (x y:Int):Pu one 78 [aC x,aC y] (aC (Ih x y)):=by
 have o1:=Pb one x;have o2:=Pb one y;unfold Ih;by_cases h1:x < y
 ·have d1:=decide_eq_true h1;rw [if_pos h1];refine aj.body (fn:=Tryz.f78) rfl rfl rfl rfl ?_;refine qq1 ?_;repeat' first|refine u1 ?_|((with_reducible refine qq3 ?_);refine aj.call o1 rfl rfl ?_)|((with_reducible refine qq3 ?_);refine aj.call o2 rfl rfl ?_)|refine u2 ?_|fail
  exact ⟨[_],⟨Fz.deep rfl,trivial⟩,rfl⟩
 ·have d1:=decide_eq_false h1;rw [if_neg h1];by_cases h2:y < x
  ·have d2:=decide_eq_true h2;rw [if_pos h2];refine aj.body (fn:=Tryz.f78) rfl rfl rfl rfl ?_;refine qq1 ?_;repeat' first|refine u1 ?_|((with_reducible refine qq3 ?_);refine aj.call o1 rfl rfl ?_)|((with_reducible refine qq3 ?_);refine aj.call o2 rfl rfl ?_)|refine u2 ?_|fail
   exact ⟨[_],⟨Fz.deep rfl,trivial⟩,rfl⟩
  ·have d2:=decide_eq_false h2;rw [if_neg h2];refine aj.body (fn:=Tryz.f78) rfl rfl rfl rfl ?_;refine qq1 ?_;repeat' first|refine u1 ?_|((with_reducible refine qq3 ?_);refine aj.call o1 rfl rfl ?_)|((with_reducible refine qq3 ?_);refine aj.call o2 rfl rfl ?_)|refine u2 ?_|fail
   exact ⟨[_],⟨Fz.deep rfl,trivial⟩,rfl⟩
theorem Pc (one:Bool) (a b:List Int) (fa fb:Bool) (ha:a.length≤maxLen) (hb:b.length≤maxLen):Pu one 54 [.sl (ints a) fa,.sl (ints b) fb] (aC (nJ a b)):=by
 have ma:a.length≤9223372036854775807:=Nat.le_trans ha (by simp [maxLen]);have mb:b.length≤9223372036854775807:=Nat.le_trans hb (by simp [maxLen]);have ea:((ints a).length:Int)=a.length:=by simp
 have eb:((ints b).length:Int)=b.length:=by simp
 obtain ⟨n,hn⟩:∃ n:Int,n=a.length:=⟨_,rfl⟩;refine aj.body (fn:=Tryz.f54) rfl rfl rfl rfl ?_;refine qq1 ?_;repeat' first|refine u1 ?_|refine u2 ?_|fail
 refine av.aJ (ah.to (l:=[(0,.sl (ints a) fa),(1,.sl (ints b) fb),(9,.sl (ints a) fa),(10,aC n),(11,aC (0:Nat))]) (hp:=[]) 0 rfl ⟨rfl,rfl,rfl,bq (by rw [hn];exact ea),rfl,trivial⟩ (qq5 _) rfl rfl) ?_;refine av.loop (fun k:Nat=>k≤a.length∧nJ a b=nJ (a.drop k) (b.drop k)) (fun k=>⟨aZ [(0,.sl (ints a) fa),(1,.sl (ints b) fb),(9,.sl (ints a) fa),(10,aC n),(11,aC (k:Nat))],[],bA.none,false,0⟩) (fun k=>a.length - k) ?_ 0 ⟨qq5 _,rfl⟩;rintro k ⟨hk,hrel⟩;refine qq1 ?_;by_cases hlt:k < a.length
 ·have d1:decide ((k:Int) < n)=true:=decide_eq_true (by omega);have hat:(ints a)[((k:Nat):Int).toNat]?=some (eI a[k]):=bp hlt;by_cases hbt:k < b.length
  ·have d2:decide (((ints b).length:Int)≤(k:Int))=false:=decide_eq_false (by omega);have hat2:(ints b)[((k:Nat):Int).toNat]?=some (eI b[k]):=bp hbt;rw [List.drop_eq_getElem_cons hlt,List.drop_eq_getElem_cons hbt] at hrel;have os:=SP one a[k] b[k];rw [tT] at hrel
   generalize a[k]=x at *
   generalize b[k]=y at *
   by_cases hs:Ih x y=0
   ·rw [if_neg (by omega)] at hrel;rw [hs] at os;have z0:(!decide ((0:Int)=0))=false:=by decide
    repeat' first|refine u1 ?_|((with_reducible refine qq4 ?_);refine ⟨eI x,⟨by omega,hat⟩,rfl,?_⟩)|((with_reducible refine qq4 ?_);refine ⟨eI y,⟨by omega,hat2⟩,rfl,?_⟩)|((with_reducible refine qq3 ?_);refine aj.call os rfl rfl ?_)|refine u2 ?_|fail
    exact ⟨k+1,⟨hlt,hrel⟩,(by dsimp only;omega),ah.to 0 rfl ⟨rfl,rfl,rfl,rfl,bq (by simp),trivial⟩ (qq5 _) rfl rfl⟩
   ·rw [if_pos hs] at hrel;rw [hrel];have z0:(!decide (Ih x y=0))=true:=by rw [decide_eq_false hs];rfl
    generalize Ih x y=w at *
    repeat' first|refine u1 ?_|((with_reducible refine qq4 ?_);refine ⟨eI x,⟨by omega,hat⟩,rfl,?_⟩)|((with_reducible refine qq4 ?_);refine ⟨eI y,⟨by omega,hat2⟩,rfl,?_⟩)|((with_reducible refine qq3 ?_);refine aj.call os rfl rfl ?_)|refine u2 ?_|fail
    exact ⟨[_],⟨Fz.deep rfl,trivial⟩,rfl⟩
  ·have d2:decide (((ints b).length:Int)≤(k:Int))=true:=decide_eq_true (by omega);rw [List.drop_eq_getElem_cons hlt,List.drop_eq_nil_of_le (by omega:b.length≤k)] at hrel;rw [hrel]
   generalize a[k]=x at *
   repeat' first|refine u1 ?_|((with_reducible refine qq4 ?_);refine ⟨eI x,⟨by omega,hat⟩,rfl,?_⟩)|refine u2 ?_|fail
   exact ⟨[_],⟨Fz.deep rfl,trivial⟩,rfl⟩
 ·have d1:decide ((k:Int) < n)=false:=decide_eq_false (by omega);rw [List.drop_eq_nil_of_le (by omega:a.length≤k)] at hrel;by_cases hab:a.length < b.length
  ·have d3:decide (((ints a).length:Int) < ((ints b).length:Int))=true:=decide_eq_true (by omega);rw [List.drop_eq_getElem_cons (by omega:k < b.length)] at hrel;rw [hrel];repeat' first|refine u1 ?_|refine u2 ?_|fail
   exact ⟨[_],⟨Fz.deep rfl,trivial⟩,rfl⟩
  ·have d3:decide (((ints a).length:Int) < ((ints b).length:Int))=false:=decide_eq_false (by omega);rw [List.drop_eq_nil_of_le (by omega:b.length≤k)] at hrel;rw [hrel];repeat' first|refine u1 ?_|refine u2 ?_|fail
   exact ⟨[_],⟨Fz.deep rfl,trivial⟩,rfl⟩
structure GA where
 f:Nat
 day:Int
 need:Int
structure GA.Ok (b:GA):Prop where
 f:b.f < 256
 day:0≤b.day∧b.day≤60
 need:0≤b.need∧b.need≤3
def zG (b x:GA):Bool :=
 if b.day - x.day ≠ 0 then decide (b.day - x.day < 0)
 else if b.need - x.need ≠ 0 then decide (b.need - x.need < 0)
 else if ((Nw b.f:Nat):Int) - (Nw x.f:Nat) ≠ 0 then decide (((Nw b.f:Nat):Int) - (Nw x.f:Nat) < 0)
 else decide (nJ (aL b.f) (aL x.f) < 0)
def xh (s:ai) (p:List Order) (y:Nat):Option GA:=(jV s p y).map fun x=>⟨y,(x.1:Nat),x.2⟩
def pe (s:ai) (p:List Order) (best:Option GA) (y:Nat):Option GA:=match xh s p y with
 | none=>best
 | some b=>match best with
  | none=>some b
  | some x=>if zG b x=true then some b else some x
def GC (s:ai) (p:List Order) (L:List Nat):Option GA:=L.foldl (pe s p) none
theorem ep {T:bJ} {t:TypeId} {hp:List AB} {K:AV→List AB→Prop} {o:BinOp} {x y:Operand} {a:AV} {j aA p:Nat} {b:Bool} (ha:a=.ptr j aA p) (ht:qH T.P t=true) (ho:iz o=some (.bool b,.none)) (k:K (.fl (.bool b)) hp):bk T o t x y a (.fl (.pointer none)) hp K:=by subst ha;exact ⟨ht,_,ho,k⟩
inductive Ur (P:Prop):Prop
 | is (h:P)
 | no (h:False)
def GD (s:ai) (p:List Order):Int:=if (oX s p).2 ≠ 0 then (oX s p).2 else if GC s p (SN s p)=none then 4 else 0
def kj (l:List Order):List AV:=(l.map aD).flatten
theorem lO:∀ l:List Order,(kj l).length=l.length * 2
 | []=>rfl
 | o :: l=>by have:=lO l;show (aD o++kj l).length=_;rw [List.length_append,this];show 2+l.length * 2=(l.length+1) * 2;omega
theorem mJ:∀ l:List Order,cC (kj l)=true
 | []=>rfl
 | _ :: l=>mJ l
theorem nK (j:Nat):∀ l:List Order,vi j (kj l)=true
 | []=>rfl
 | _ :: l=>nK j l
theorem sM (n:Nat):∀ l:List Order,qT n (kj l)=true
 | []=>rfl
 | _ :: l=>sM n l
theorem xj (l:List Order) (v:Nat):([.cells (kj l) 2 v]:List AB).all (AB.gF 1)=true:=by show (qT 1 (kj l) && true)=true;rw [sM];rfl
def Ff (s:ai) (p:List Order):Bool:=decide (GD s p=4)
theorem nL (f k:Nat):rowAt f (k+1)=if f.testBit k=true then rowAt f k+1 else 0:=rfl
theorem uM {f f':Nat}:∀ {k:Nat},(∀ i,i < k→f.testBit i=f'.testBit i)→rowAt f k=rowAt f' k
 | 0,_=>rfl
 | k+1,h=>by rw [nL,nL,h k (Nat.lt_succ_self _),uM (k:=k) fun i hi=>h i (by omega)]
theorem HI {came:List Bool} {k:Nat} (h:k < came.length):(eo came).testBit k=!came[k]:=by unfold eo;rw [gN _ 0 0 (by decide),Nat.zero_testBit,Nat.sub_zero,List.getD_eq_getElem?_getD,List.getElem?_map,List.getElem?_eq_getElem h];simp
theorem fT {α:Type} {l:List α} {i:Nat} {d:α} (h:i < l.length):l.getD i d=l[i]:=by rw [List.getD_eq_getElem?_getD,List.getElem?_eq_getElem h];rfl
def trail:Nat→List Bool→Nat
 | r,[]=>r
 | _,false :: l=>trail 0 l
 | r,true :: l=>trail (r+1) l
theorem xl:∀ (l:List Bool) (b:Bool),TeLaw.cnt (l++[b])=TeLaw.cnt l+if b=true then 1 else 0
 | [],b=>by cases b <;> rfl
 | true :: l,b=>by rw [List.cons_append,TeLaw.cnt,xl l b,TeLaw.cnt];omega
 | false :: l,b=>by rw [List.cons_append,TeLaw.cnt,xl l b,TeLaw.cnt]
theorem kQ:∀ (l:List Bool) (r:Nat) (b:Bool),trail r (l++[b])=if b=true then trail r l+1 else 0
 | [],r,b=>by cases b <;> rfl
 | true :: l,r,b=>by rw [List.cons_append,trail,kQ l,trail]
 | false :: l,r,b=>by rw [List.cons_append,trail,kQ l,trail]
theorem qZ {R:Nat}:∀ (l:List Bool) (r:Nat) (b:Bool),TeLaw.kP R r (l++[b])=(TeLaw.kP R r l && (!b || decide (trail r l < R)))
 | [],r,true=>by show (decide (r < R) && true)=(true && (false || decide (r < R)));rw [Bool.and_true,Bool.true_and,Bool.false_or]
 | [],r,false=>rfl
 | true :: l,r,b=>by rw [List.cons_append,TeLaw.kP,qZ l,TeLaw.kP,trail,Bool.and_assoc]
 | false :: l,r,b=>by rw [List.cons_append,TeLaw.kP,qZ l,TeLaw.kP,trail]
theorem LZ {s:ai} (hg:Good s) {k most y:Nat}:y ∈ nI s k 0 0 (most:Int) ↔ ∃ b:List Bool,b.length=k∧TeLaw.cnt b≤most∧TeLaw.kP s.row.toNat 0 b=true∧jW 0 0 b=y:=by
 rw [vo hg,List.mem_map];constructor
 ·rintro ⟨b,hb,rfl⟩;obtain ⟨h1,h2,h3⟩:=TeLaw.fO.1 hb;exact ⟨b,h1,h2,h3,rfl⟩
 ·rintro ⟨b,h1,h2,h3,rfl⟩;exact ⟨b,TeLaw.fO.2 ⟨h1,h2,h3⟩,rfl⟩
theorem xm:((List.range 256).all fun f=>dc (aL f) == f)=true:=by kernel_rfl
theorem rj {f:Nat} (h:f < 256):dc (aL f)=f:=by simpa using List.all_eq_true.1 xm f (List.mem_range.2 h)
theorem zH {f:Nat} {x:Int}:x ∈ aL f ↔ ∃ m:Nat,m < 8∧f.testBit m=true∧x=(m:Nat):=by
 unfold aL;simp only [List.mem_map,List.mem_filter,List.mem_range];constructor
 ·rintro ⟨m,⟨h1,h2⟩,rfl⟩;exact ⟨m,h1,h2,rfl⟩
 ·rintro ⟨m,h1,h2,rfl⟩;exact ⟨m,⟨h1,h2⟩,rfl⟩
theorem HJ (f:Nat):(aL f).Pairwise (· < ·):=by unfold aL;rw [List.pairwise_map];exact (List.Pairwise.filter _ List.pairwise_lt_range).imp fun h=>by omega
def ct (f k:Nat):List Int:=((List.range k).filter fun i=>f.testBit i).map fun i:Nat=>((i:Nat):Int)
theorem nM (f k:Nat):ct f (k+1)=ct f k++if f.testBit k=true then [((k:Nat):Int)] else []:=by unfold ct;rw [List.range_succ,List.filter_append,List.map_append];cases h:f.testBit k <;> simp [h]
theorem xo {f k:Nat} (hf:f < 2 ^ k):∀ n,k≤n→ct f n=ct f k
 | 0,h=>by rw [Nat.le_zero.1 h]
 | n+1,h=>by
  by_cases hk:k=n+1
  ·rw [hk]
  ·rw [nM,xo hf n (by omega),Nat.testBit_lt_two_pow (Nat.lt_of_lt_of_le hf (Nat.pow_le_pow_right (by decide) (show k≤n by omega)))];simp
theorem L3 (b:List Bool) (k:Nat):(jW 0 0 b).testBit k=b.getD k false:=by rw [gN b 0 0 (by decide) k];simp
def lP (a b:Int × Int):Prop:=a.1 < b.1∨(a.1=b.1∧a.2≤b.2)
theorem lP.refl (a:Int × Int):lP a a:=.inr ⟨rfl,Int.le_refl _⟩
theorem lP.trans {a b c:Int × Int} (h:lP a b) (k:lP b c):lP a c:=by unfold lP at *;omega
def GA.key (b:GA):Int × Int:=(b.day,b.need)
theorem HK {b x:GA} (h:zG b x=true):lP b.key x.key:=by
 unfold zG at h;unfold lP GA.key;dsimp only;split at h
 ·have:=of_decide_eq_true h;omega
 ·split at h
  ·have:=of_decide_eq_true h;omega
  ·omega
theorem Fg {b x:GA} (h:zG b x=false):lP x.key b.key:=by
 unfold zG at h;unfold lP GA.key;dsimp only;split at h
 ·have:=of_decide_eq_false h;omega
 ·split at h
  ·have:=of_decide_eq_false h;omega
  ·omega
theorem rm {s:ai} {p:List Order}:∀ (L:List Nat) (o:Option GA),(L.foldl (pe s p) o=none→o=none∧∀ y ∈ L,xh s p y=none) ∧
  ∀ b,L.foldl (pe s p) o=some b→(o=some b∨∃ y ∈ L,xh s p y=some b)∧(∀ x,o=some x→lP b.key x.key)∧∀ y ∈ L,∀ c,xh s p y=some c→lP b.key c.key
 | [],o=>⟨fun h=>⟨h,fun y hy=>by cases hy⟩,fun b h=>⟨.inl h,fun x hx=>by have h:o=some b:=h;rw [h] at hx;cases hx;exact lP.refl _,fun y hy=>by cases hy⟩⟩
 | y :: L,o=>by
  obtain ⟨h1,h2⟩:=rm (s:=s) (p:=p) L (pe s p o y);rw [List.foldl_cons];unfold pe at h1 h2 ⊢
  cases hy:xh s p y with
  | none =>
   rw [hy] at h1 h2;dsimp only at h1 h2 ⊢;refine ⟨fun h=>⟨(h1 h).1,fun z hz=>?_⟩,fun b h=>?_⟩
   ·rcases List.mem_cons.1 hz with rfl|hz
    ·exact hy
    ·exact (h1 h).2 z hz
   ·obtain ⟨q1,q2,q3⟩:=h2 b h;refine ⟨q1.imp id fun ⟨z,hz,e⟩=>⟨z,List.mem_cons_of_mem _ hz,e⟩,q2,fun z hz c hc=>?_⟩
    rcases List.mem_cons.1 hz with rfl|hz
    ·rw [hy] at hc;cases hc
    ·exact q3 z hz c hc
  | some d =>
   rw [hy] at h1 h2
   cases o with
   | none =>
    dsimp only at h1 h2 ⊢;refine ⟨fun h=>((nomatch (h1 h).1)),fun b h=>?_⟩;obtain ⟨q1,q2,q3⟩:=h2 b h;refine ⟨.inr ?_,fun x hx=>(nomatch hx),fun z hz c hc=>?_⟩
    ·rcases q1 with q1|⟨z,hz,e⟩
     ·cases q1;exact ⟨y,List.mem_cons_self,hy⟩
     ·exact ⟨z,List.mem_cons_of_mem _ hz,e⟩
    ·rcases List.mem_cons.1 hz with rfl|hz
     ·rw [hy] at hc;cases hc;exact q2 _ rfl
     ·exact q3 z hz c hc
   | some x =>
    dsimp only at h1 h2 ⊢
    cases hl:zG d x with
    | true =>
     rw [hl,if_pos rfl] at h1 h2;rw [if_pos rfl];refine ⟨fun h=>((nomatch (h1 h).1)),fun b h=>?_⟩;obtain ⟨q1,q2,q3⟩:=h2 b h;refine ⟨.inr ?_,fun z hz=>?_,fun z hz c hc=>?_⟩
     ·rcases q1 with q1|⟨z,hz,e⟩
      ·cases q1;exact ⟨y,List.mem_cons_self,hy⟩
      ·exact ⟨z,List.mem_cons_of_mem _ hz,e⟩
     ·cases hz;exact (q2 _ rfl).trans (HK hl)
     ·rcases List.mem_cons.1 hz with rfl|hz
      ·rw [hy] at hc;cases hc;exact q2 _ rfl
      ·exact q3 z hz c hc
    | false =>
     rw [hl,if_neg (by simp)] at h1 h2;rw [if_neg (by simp)];refine ⟨fun h=>((nomatch (h1 h).1)),fun b h=>?_⟩;obtain ⟨q1,q2,q3⟩:=h2 b h;refine ⟨q1.imp id fun ⟨z,hz,e⟩=>⟨z,List.mem_cons_of_mem _ hz,e⟩,fun z hz=>q2 z hz,fun z hz c hc=>?_⟩
     rcases List.mem_cons.1 hz with rfl|hz
     ·rw [hy] at hc;cases hc;exact (q2 _ rfl).trans (Fg hl)
     ·exact q3 z hz c hc
theorem xp {s:ai} {p:List Order} {y:Nat}:xh s p y=none ↔ jV s p y=none:=by unfold xh;rw [Option.map_eq_none_iff]
theorem HL {s:ai} {p:List Order} {L:List Nat}:GC s p L=none ↔ ∀ y ∈ L,jV s p y=none:=by
 constructor
 ·exact fun h y hy=>xp.1 (((rm L none).1 h).2 y hy)
 ·intro h
  cases hb:GC s p L with
  | none=>rfl
  | some b =>
   rcases ((rm L none).2 b hb).1 with e|⟨y,hy,e⟩
   ·cases e
   ·rw [xp.2 (h y hy)] at e;cases e
theorem Dp {s:ai} {p:List Order} {most:Int}:cu s p 0 0 most=true ↔ GC s p (nI s p.length 0 0 most)=none:=by rw [HL];unfold cu;rw [List.all_eq_true];exact ⟨fun h y hy=>Option.isNone_iff_eq_none.1 (h y hy),fun h y hy=>Option.isNone_iff_eq_none.2 (h y hy)⟩
