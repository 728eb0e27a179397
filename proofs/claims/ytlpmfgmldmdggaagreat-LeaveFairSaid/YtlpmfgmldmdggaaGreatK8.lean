/-
  Contracts of the program's functions and of the document's. Lemmas alone; their conditions stand in them.
-/
import Derived.Test.YtlpmfgmldmdggaaGreatK7
open Go Go.RM
namespace Go.Proofs.YtlpmfgmldmdggaaGreat
set_option maxRecDepth 100000
def bL (l:List Int):Nat:=l.foldl (fun a m=>a ||| 2 ^ m.toNat) 0
theorem CC (l:List Int) (z:Int):bL (l++[z])=bL l ||| 2 ^ z.toNat:=by unfold bL;rw [List.foldl_append];rfl
theorem CD {l:List Int} {q:Nat} (h:q < l.length):bL (l.take (q+1))=bL (l.take q) ||| 2 ^ (fG l q).toNat:=by rw [List.take_add_one,ku h];exact CC _ _
theorem Gy (l:List Int) (h:∀ x ∈ l,0≤x):∀ (a i:Nat),(l.foldl (fun a m=>a ||| 2 ^ m.toNat) a).testBit i=(a.testBit i || gL l (i:Nat)):=by
 induction l with
 | nil=>intro a i;simp [gL]
 | cons x l ih =>intro a i;rw [List.foldl_cons,ih (fun y hy=>h y (List.mem_cons_of_mem _ hy)),Nat.testBit_or,Nat.testBit_two_pow];have hx:=h x (by simp);have e:decide (x.toNat=i)=decide (x=(i:Int)):=decide_eq_decide.2 (by omega);rw [e];unfold gL;rw [List.any_cons,Bool.or_assoc]
theorem jL {l:List Int} (h:∀ x ∈ l,0≤x) (i:Nat):(bL l).testBit i=gL l (i:Nat):=by unfold bL;rw [Gy l h,Nat.zero_testBit,Bool.false_or]
theorem Dt:∀ (l:List Int) (a:Nat),a < 32→(∀ x ∈ l,x < 5)→l.foldl (fun a m=>a ||| 2 ^ m.toNat) a < 32
 | [],a,ha,_=>ha
 | x :: l,a,ha,h=>by rw [List.foldl_cons];refine Dt l _ (Nat.or_lt_two_pow (n:=5) ha ?_) fun y hy=>h y (List.mem_cons_of_mem _ hy);have:=h x (by simp);have:(2:Nat) ^ x.toNat≤2 ^ 4:=Nat.pow_le_pow_right (by decide) (by omega);omega
theorem rF {l:List Int} (h:∀ x ∈ l,x < 5):bL l < 32:=Dt l 0 (by decide) h
theorem Gz {a b:Nat}:a &&& b ≠ 0 ↔ ∃ i,a.testBit i=true∧b.testBit i=true:=by
 constructor
 ·intro h;obtain ⟨i,hi⟩:=Nat.exists_testBit_of_ne_zero h;rw [Nat.testBit_and,qq7] at hi;exact ⟨i,hi⟩
 ·rintro ⟨i,h1,h2⟩ h0;have:(a &&& b).testBit i=true:=by rw [Nat.testBit_and,h1,h2];rfl
  rw [h0,Nat.zero_testBit] at this;cases this
theorem zC {l:List Int} {n:Int}:gL l n=true ↔ n ∈ l:=by
 unfold gL;rw [List.any_eq_true];constructor
 ·rintro ⟨x,h1,h2⟩;rw [←of_decide_eq_true h2];exact h1
 ·intro h;exact ⟨n,h,decide_eq_true rfl⟩
theorem Bv {b l:List Int} (hb:∀ x ∈ b,0≤x) (hl:∀ x ∈ l,0≤x):(!decide (((bL l &&& bL b:Nat):Int)=0))=l.any fun x=>gL b x:=by
 have key:(bL l &&& bL b ≠ 0) ↔ (l.any fun x=>gL b x)=true:=by
  rw [Gz,List.any_eq_true];constructor
  ·rintro ⟨i,h1,h2⟩;rw [jL hl] at h1;rw [jL hb] at h2;exact ⟨(i:Int),zC.1 h1,h2⟩
  ·rintro ⟨x,h1,h2⟩;have hx:=hl x h1;refine ⟨x.toNat,?_,?_⟩
   ·rw [jL hl,Int.toNat_of_nonneg hx];exact zC.2 h1
   ·rw [jL hb,Int.toNat_of_nonneg hx];exact h2
 cases he:(l.any fun x=>gL b x) with
 | true =>have:=key.2 he;rw [decide_eq_false (by omega)];rfl
 | false =>
  have:bL l &&& bL b=0:=Decidable.not_not.1 fun h=>by rw [key.1 h] at he;cases he
  rw [this];rfl
theorem Du {a i:Nat} (ha:a < 32) (hi:i < 5):(18446744073709551615 - a).testBit i=!a.testBit i:=by
 have h:(18446744073709551615 - a)=2 ^ 64 - (a+1):=by omega
 rw [h,Nat.testBit_two_pow_sub_succ (by omega)];rw [decide_eq_true (show i < 64 by omega),Bool.true_and]
theorem sM {c:aP} (hm:c.aA.length≤5) {l:List Int} (h0:∀ x ∈ l,0≤x∧x < 5) (r:Nat):kr (bL l) (aI c r c.aA.length)=kz c l r:=by
 have hl:bL l < 32:=rF fun x hx=>(h0 x hx).2;have hbit:=fun i=>Bq c r c.aA.length i
 have k1:(aI c r c.aA.length ≠ 0) ↔ 0 < lu c r c.aA.length:=by
  unfold lu;rw [List.countP_pos_iff];constructor
  ·intro h;obtain ⟨i,hi⟩:=Nat.exists_testBit_of_ne_zero h;rw [hbit,qq7] at hi;exact ⟨i,List.mem_range.2 (of_decide_eq_true hi.1),hi.2⟩
  ·rintro ⟨i,h1,h2⟩ h;have:=hbit i;rw [h,Nat.zero_testBit,decide_eq_true (List.mem_range.1 h1),h2] at this;cases this
 have k2:(aI c r c.aA.length &&& (18446744073709551615 - bL l)=0) ↔ ∀ i,i < c.aA.length→gy c i=r→gL l (i:Nat)=true:=by
  rw [←Decidable.not_iff_not,←ne_eq,Gz];constructor
  ·rintro ⟨i,h1,h2⟩ h;rw [hbit,qq7] at h1;have hin:=of_decide_eq_true h1.1;rw [Du hl (by omega),jL (fun x hx=>(h0 x hx).1),h i hin (of_decide_eq_true h1.2)] at h2;cases h2
  ·intro h;obtain ⟨i,h⟩:=Classical.not_forall.1 h;obtain ⟨hin,h⟩:=Classical.not_imp.1 h;obtain ⟨hr,h⟩:=Classical.not_imp.1 h;refine ⟨i,?_,?_⟩
   ·rw [hbit,decide_eq_true hin,decide_eq_true hr];rfl
   ·rw [Du hl (by omega),jL (fun x hx=>(h0 x hx).1)]
    cases hv:gL l (i:Nat) with
    | true=>exact absurd hv h
    | false=>rfl
 have k3:(oH c l r c.aA.length=lu c r c.aA.length) ↔ ∀ i,i < c.aA.length→gy c i=r→gL l (i:Nat)=true:=by
  unfold oH lu
  have e:∀ L:List Nat,(L.countP (fun m=>decide (gy c m=r) && gL l (m:Nat))=L.countP fun m=>decide (gy c m=r)) ↔ ∀ i ∈ L,gy c i=r→gL l (i:Nat)=true:=by
   intro L
   induction L with
   | nil=>simp
   | cons a L ih =>
    have hle:L.countP (fun m=>decide (gy c m=r) && gL l (m:Nat))≤L.countP fun m=>decide (gy c m=r):=List.countP_mono_left fun x _ hx=>by rw [qq7] at hx;exact hx.1
    rw [List.countP_cons,List.countP_cons,List.forall_mem_cons,←ih];by_cases hr:gy c a=r
    ·by_cases hv:gL l (a:Nat)=true
     ·simp [hr,hv]
     ·have hv':gL l (a:Nat)=false:=by simpa using hv
      simp only [hr,hv',decide_true,Bool.and_false,if_true,Bool.false_eq_true,if_false];constructor
      ·intro h;omega
      ·rintro ⟨h,_⟩;exact absurd h (by simp)
    ·simp [hr]
  rw [e];exact ⟨fun h i hi=>h i (List.mem_range.2 hi),fun h i hi=>h i (List.mem_range.1 hi)⟩
 have d1:(!decide ((aI c r c.aA.length:Int)=0))=decide (0 < lu c r c.aA.length):=by
  by_cases h:aI c r c.aA.length=0
  ·rw [h,decide_eq_false (fun h2=>k1.2 h2 h)];rfl
  ·rw [decide_eq_false (show ¬ ((aI c r c.aA.length:Int)=0) by omega),decide_eq_true (k1.1 h)];rfl
 have d2:decide (((aI c r c.aA.length &&& (18446744073709551615 - bL l):Nat):Int)=0)=decide (oH c l r c.aA.length=lu c r c.aA.length):=by
  rw [decide_eq_decide];constructor
  ·intro h;exact k3.2 (k2.1 (by omega))
  ·intro h;have:=k2.2 (k3.1 h);omega
 unfold kr kz;rw [d1,d2]
theorem CE {c:aP} (hg:Good c) {l:List Int} {r:Nat} (hr:c.aB.length≤r):kz c l r=false:=by
 unfold kz
 have:lu c r c.aA.length=0:=by
  unfold lu;rw [List.countP_eq_zero];intro i hi;have hin:=List.mem_range.1 hi;have hm:=hg.L4 _ (List.getElem_mem hin);have:gy c i=c.aA[i].kC.toNat:=by unfold gy;rw [List.getElem?_eq_getElem hin];rfl
  rw [decide_eq_true_eq,this];omega
 rw [this];rfl
theorem wo {c:aP} (hg:Good c) {l:List Int} (h0:∀ x ∈ l,0≤x∧x < 5):zx (aI c 0 c.aA.length) (aI c 1 c.aA.length) (aI c 2 c.aA.length) (bL l)=!jG c l:=by
 have hm:=hg.aA.2;unfold zx;rw [sM hm h0,sM hm h0,sM hm h0]
 congr 1
 unfold jG;have hr:=hg.aB;have big:=fun r (h:c.aB.length≤r)=>CE hg (l:=l) h;obtain e|e|e:c.aB.length=1∨c.aB.length=2∨c.aB.length=3:=by omega
 ·rw [e,big 1 (by omega),big 2 (by omega)];simp [List.range_succ]
 ·rw [e,big 2 (by omega)];simp [List.range_succ]
 ·rw [e];simp [List.range_succ]
def CG (l:List Int):Bool:=(List.range (l.length - 1)).any fun j=>decide (fG l (j+1) < fG l j)
theorem J4 {l:List Int} (h:¬ Ez l):rC l=true:=by unfold Ez at h;obtain ⟨j,h⟩:=Classical.not_forall.1 h;obtain ⟨h1,h⟩:=Classical.not_imp.1 h;have h2:=Decidable.not_not.1 h;exact List.any_eq_true.2 ⟨j,List.mem_range.2 (by omega),decide_eq_true (by omega)⟩
theorem GA {l:List Int} (h:Ez l):rC l=CG l:=by
 unfold rC CG;rw [Bool.eq_iff_iff,List.any_eq_true,List.any_eq_true];constructor
 ·rintro ⟨j,h1,h2⟩;have:=h j (by have:=List.mem_range.1 h1;omega);have:=of_decide_eq_true h2;exact ⟨j,h1,decide_eq_true (by omega)⟩
 ·rintro ⟨j,h1,h2⟩;have:=of_decide_eq_true h2;exact ⟨j,h1,decide_eq_true (by omega)⟩
theorem CH {l:List Int} (h:rC l=false):∀ d j,j+d+1 < l.length→fG l j < fG l (j+d+1)
 | 0,j,hj=>by have:=List.any_eq_false.1 h j (List.mem_range.2 (by omega));simp only [decide_eq_true_eq] at this;show fG l j < fG l (j+1);omega
 | d+1,j,hj=>by have h1:=CH h d j (by omega);have h2:=List.any_eq_false.1 h (j+d+1) (List.mem_range.2 (by omega));simp only [decide_eq_true_eq] at h2;show fG l j < fG l (j+d+1+1);omega
theorem Dv {l:List Int} (h:rC l=false) {q:Nat} (hq:q < l.length):gL (l.take q) (fG l q)=false:=by
 cases hv:gL (l.take q) (fG l q) with
 | false=>rfl
 | true =>obtain ⟨j,hj,he⟩:=List.getElem_of_mem (zC.1 hv);rw [List.length_take] at hj;rw [List.getElem_take] at he;have h1:=ku (l:=l) (q:=j) (by omega);rw [List.getElem?_eq_getElem (by omega),he] at h1;have h2:=CH h (q - j - 1) j (by omega);rw [show j+(q - j - 1)+1=q by omega] at h2;have:=Option.some.inj h1;omega
def wq (T:List (List Int)) (k:Nat) (l:List Int) (q:Nat):List Int:=(List.range 5).map fun m=>(lA T m k:Int)+if gL (l.take q) (m:Nat)=true then 1 else 0
def wk (T:List (List Int)) (k:Nat):List Int:=(List.range 5).map fun m=>(lA T m k:Int)
theorem Is (T:List (List Int)) (k:Nat) (l:List Int):wq T k l 0=wk T k:=by unfold wq wk;apply List.map_congr_left;intro m _;rw [List.take_zero,if_neg (by simp [gL])];omega
theorem J5 {T:List (List Int)} {k:Nat} (hk:k < T.length):wq T k T[k] T[k].length=wk T (k+1):=by unfold wq wk;apply List.map_congr_left;intro m _;rw [List.take_length,Bu hk];split <;> simp
theorem wv (T:List (List Int)) (k:Nat) (l:List Int) (q:Nat):(wq T k l q).length=5:=by unfold wq;simp
theorem Dw {T:List (List Int)} {k:Nat} {l:List Int} {q m:Nat} (hm:m < 5):(wq T k l q)[m]?=some ((lA T m k:Int)+if gL (l.take q) (m:Nat)=true then 1 else 0):=by unfold wq;rw [List.getElem?_map,List.getElem?_range hm];rfl
theorem Ls {T:List (List Int)} {k m:Nat} (hm:m < 5):(wk T k)[m]?=some (lA T m k:Int):=by unfold wk;rw [List.getElem?_map,List.getElem?_range hm];rfl
theorem J6 {T:List (List Int)} {k:Nat} {l:List Int} (hd:rC l=false) {q m:Nat} (hq:q < l.length) (hz:fG l q=(m:Nat)):(wq T k l q).set m ((lA T m k:Int)+1)=wq T k l (q+1):=by
 have hnew:=Dv hd hq;apply List.ext_getElem?;intro i;by_cases hi:i < 5
 ·by_cases him:i=m
  ·subst him;rw [List.getElem?_set_self (by rw [wv];exact hi),Dw hi,ry (ku hq),hz];simp
  ·rw [List.getElem?_set_ne (Ne.symm him),Dw hi,Dw hi,ry (ku hq),hz,decide_eq_false (by omega),Bool.or_false]
 ·rw [List.getElem?_eq_none (by rw [List.length_set,wv];omega),List.getElem?_eq_none (by rw [wv];omega)]
end Go.Proofs.YtlpmfgmldmdggaaGreat
open Go Go.RM
namespace Go.Proofs.YtlpmfgmldmdggaaGreat
set_option maxRecDepth 100000
set_option maxHeartbeats 4000000
theorem J7 (one:Bool) (a b:Int):Pu one 110 [af a,af b] (BB (decide (a < b))):=by
 have o1:=Gs one a;refine ah.body (fn:=Tryz.f110) rfl rfl rfl rfl ?_;refine qq1 ?_;repeat' first|refine u1 ?_|((with_reducible refine qq3 ?_);refine ah.call o1 rfl rfl ?_)|refine u2 ?_|fail
 exact ⟨[_],⟨Fz.deep rfl,trivial⟩,rfl⟩
theorem GC (one:Bool) (l:List Int) (f:Bool) (hl:l.length≤maxLen):Pu one 78 [.sl (ints l) f] (BB (!CG l)):=by
 have el:((ints l).length:Int)=l.length:=by simp
 have hl':l.length≤maxLen:=hl;simp only [maxLen] at hl';refine ah.body (fn:=Tryz.f78) rfl rfl rfl rfl ?_;refine qq1 ?_;repeat' first|refine u1 ?_|refine u2 ?_|fail
 refine ay.aN (ak.to (l:=[(0,.sl (ints l) f),(3,af ((l.length:Nat) - 1))]) (hp:=[]) 0 rfl ⟨rfl,aH (by rw [el]),trivial⟩ (qq5 _) rfl rfl) ?_;refine ay.loop (fun n:Nat=>n≤l.length∧∀ j,n≤j+1→j+1 < l.length→¬ fG l (j+1) < fG l j) (fun n=>⟨aT [(0,.sl (ints l) f),(3,af ((n:Nat) - 1))],[],bJ.none,false,0⟩) (fun n=>n) ?_ l.length ⟨qq6 _,fun j h1 h2=>by omega⟩;rintro n ⟨hn,hno⟩;by_cases h2:2≤n
 ·have dl:decide ((0:Int) < (n:Int) - 1)=true:=decide_eq_true (by omega);have g1:(ints l)[((n:Int) - 1).toNat]?=some (eI (fG l (n - 1))):=by rw [show ((n:Int) - 1).toNat=(((n - 1:Nat)):Int).toNat by omega];exact pR (by omega)
  have g2:(ints l)[((n:Int) - 1 - 1).toNat]?=some (eI (fG l (n - 2))):=by rw [show ((n:Int) - 1 - 1).toNat=(((n - 2:Nat)):Int).toNat by omega];exact pR (by omega)
  have hyes:fG l (n - 1) < fG l (n - 2)→CG l=true:=fun h=>List.any_eq_true.2 ⟨n - 2,List.mem_range.2 (by omega),decide_eq_true (by rw [show n - 2+1=n - 1 by omega];exact h)⟩
  have hnx:¬ fG l (n - 1) < fG l (n - 2)→∀ j,n - 1≤j+1→j+1 < l.length→¬ fG l (j+1) < fG l j:=fun h j h3 h4=>by
   by_cases e:j=n - 2
   ·rw [e,show n - 2+1=n - 1 by omega];exact h
   ·exact hno j (by omega) h4
  generalize fG l (n - 1)=y at *
  generalize fG l (n - 2)=z at *
  have o1:=J7 true y z
  cases e:decide (y < z) with
  | true =>
   rw [e] at o1;rw [hyes (of_decide_eq_true e)];refine qq1 ?_;repeat' first|(refine ⟨_,_,.inl ⟨rfl,rfl⟩,o1,?_⟩)|refine u1 ?_|(refine ⟨[af y],⟨by omega,g1⟩,rfl,?_⟩)|(refine ⟨[af z],⟨by omega,g2⟩,rfl,?_⟩)|refine u2 ?_|fail
   exact ⟨[_],⟨Fz.deep rfl,trivial⟩,rfl⟩
  | false =>
   rw [e] at o1;refine qq1 ?_;repeat' first|(refine ⟨_,_,.inl ⟨rfl,rfl⟩,o1,?_⟩)|refine u1 ?_|(refine ⟨[af y],⟨by omega,g1⟩,rfl,?_⟩)|(refine ⟨[af z],⟨by omega,g2⟩,rfl,?_⟩)|refine u2 ?_|fail
   exact ⟨n - 1,⟨by omega,hnx (of_decide_eq_false e)⟩,(by dsimp only;omega),ak.to (l:=[(0,.sl (ints l) f),(3,af (((n - 1):Nat) - 1))]) 0 rfl ⟨rfl,aH (by omega),trivial⟩ (qq5 _) rfl rfl⟩
 ·have dl:decide ((0:Int) < (n:Int) - 1)=false:=decide_eq_false (by omega)
  have hv:CG l=false:=by
   cases hd:CG l with
   | false=>rfl
   | true =>obtain ⟨j,h3,h4⟩:=List.any_eq_true.1 hd;exact absurd (of_decide_eq_true h4) (hno j (by omega) (by have:=List.mem_range.1 h3;omega))
  rw [hv];refine qq1 ?_;repeat' first|refine u1 ?_|refine u2 ?_|fail
  exact ⟨[_],⟨Fz.deep rfl,trivial⟩,rfl⟩
theorem EA {one:Bool} {F v:AV} {a c:List AV} {b:Bool} (h:ah TT TB one F (a++.sl [] b :: c) v):ah TT TB one F (a++.fl (.slice none 0 0) :: c) v:=by
 refine ⟨h.1,fun X H u us hw hx hF hA=>h.2 X H u us hw hx hF ⟨?_,fun i x w hi hu=>?_⟩⟩
 ·have:=hA.1;simp only [List.length_append,List.length_cons] at this ⊢;exact this
 ·by_cases hlt:i < a.length
  ·rw [List.getElem?_append_left hlt] at hi;exact hA.2 i x w (by rw [List.getElem?_append_left hlt];exact hi) hu
  ·have ha:=fun y=>hA.2 i y w;rw [List.getElem?_append_right (by omega)] at hi ha
   cases hj:i - a.length with
   | zero =>rw [hj] at hi ha;obtain rfl:=Option.some.inj hi;have:=ha _ rfl hu;cases this;exact .nil
   | succ j =>rw [hj] at hi ha;exact ha x hi hu
theorem Bw (one:Bool):ah TT TB one (.fn 76 [] []) [.fl (.slice none 0 0)] (.sl [] false):=by
 refine EA (a:=[]) (c:=[]) (b:=false) ?_;have d2:decide ((([]:List (List AV)).length:Int) < 2)=true:=rfl;refine ah.body (fn:=Tryz.f76) rfl rfl rfl rfl ?_;refine qq1 ?_;repeat' first|refine u1 ?_|refine u2 ?_|fail
 exact ⟨[_],⟨Fz.deep rfl,trivial⟩,rfl⟩
theorem J8 (one:Bool) (lo hi:Int) (l:List Int) (f:Bool) (hl:l.length≤maxLen):Pu one 51 [af lo,af hi,.sl (ints l) f] (BB (fU lo hi l)):=by
 have h:=xX one lo hi (ints l) f (by rw [List.all_map,List.all_eq_true];intro x _;rfl) (by rw [List.length_map];exact hl);have e:(ints l).map Jk=l:=by rw [List.map_map];exact List.map_id' _
 rwa [e] at h
