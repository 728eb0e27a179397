/-
  Contracts of the program's functions and of the document's. Lemmas alone; their conditions stand in them.
-/
import Derived.Test.YtichbhmnhkegiaaGreatVA2
import Derived.Test.YtichbhmnhkegiaaGreatVA3
import Derived.Test.YtichbhmnhkegiaaGreatVT1
open Go Go.RM
namespace Go.Proofs.YtichbhmnhkegiaaGreat
set_option maxRecDepth 100000
abbrev ah (n:Int):AV:=.fl (.int .i64 n)
abbrev BB (b:Bool):AV:=.fl (.bool b)
abbrev ST (s:ByteArray):AV:=.fl (.string s)
abbrev eI (n:Int):List AV:=[ah n]
abbrev ints (l:List Int):List (List AV):=l.map eI
def TB:List XE:=[]
abbrev Pu (one:Bool) (f:FuncId) (args:List AV) (v:AV):Prop:=af TT TB one (.fn f [] []) args v
def nE {α:Type} (p:α→Bool) (l:List α):Int:=match l.findIdx? p with
 | some i=>(i:Int)
 | none=>-1
theorem qb {α:Type} {p:α→Bool} {l:List α} {k:Nat} (hk:k < l.length) (hprev:∀ i (h:i < l.length),i < k→p l[i]=false) (hp:p l[k]=true):nE p l=k:=by
 unfold nE
 have:l.findIdx? p=some k:=by
  rw [List.findIdx?_eq_some_iff_getElem]
  exact ⟨hk,hp,fun j hj=>by simp [hprev j (by omega) hj]⟩
 rw [this]
theorem qc {α:Type} {p:α→Bool} {l:List α} (hprev:∀ i (h:i < l.length),p l[i]=false):nE p l=-1:=by
 unfold nE
 have:l.findIdx? p=none:=by
  rw [List.findIdx?_eq_none_iff]
  intro x hx
  obtain ⟨i,hi,rfl⟩:=List.getElem_of_mem hx
  exact hprev i hi
 rw [this]
theorem wj {α:Type} (p:α→Bool) (l:List α):decide (0≤nE p l)=l.any p:=by
 unfold nE
 cases h:l.findIdx? p with
 | some i =>
  rw [List.findIdx?_eq_some_iff_getElem] at h
  obtain ⟨h1,h2,_⟩:=h
  simp only [Int.natCast_nonneg,decide_true]
  symm
  rw [List.any_eq_true]
  exact ⟨_,List.getElem_mem h1,h2⟩
 | none =>
  rw [List.findIdx?_eq_none_iff] at h
  simp
  intro x hx;exact h x hx
theorem fR (n:Nat):∀ (v:AV),v.deep=true→v.cO n=true:=by
 apply AV.rec (motive_1:=fun v=>v.deep=true→v.cO n=true) (motive_2:=fun _=>True) (motive_3:=fun l=>cA l=true→mJ n l=true)
 ·intro v _;rfl
 ·intro a b _ _;rfl
 ·intro a b _ _;rfl
 ·intro f a b ha hb h
  simp only [AV.deep,Bool.and_eq_true] at h
  simp only [AV.cO,Bool.and_eq_true]
  exact ⟨ha h.1,hb h.2⟩
 ·intro a ha h
  simp only [AV.deep] at h
  simp only [AV.cO]
  exact ha h
 ·intro a ha h
  simp only [AV.deep] at h
  simp only [AV.cO]
  exact ha h
 ·intro j v o h;simp [AV.deep] at h
 ·intro j v o n c h;simp [AV.deep] at h
 ·intro j h;simp [AV.deep] at h
 ·intro u _;rfl
 ·intro h;simp [AV.deep] at h
 ·trivial
 ·intros;trivial
 ·intro _;rfl
 ·intro a l ha hl h
  simp only [cA,Bool.and_eq_true] at h
  simp only [mJ,Bool.and_eq_true]
  exact ⟨ha h.1,hl h.2⟩
theorem eX {n:Nat} {v:Value}:(AV.fl v).cO n=true:=rfl
theorem qd {n:Nat} {a:List (List AV)} {b:Bool}:(AV.sl a b).cO n=true:=rfl
theorem cG {a b:Int} (h:a=b):AV.fl (.int .i64 a)=AV.fl (.int .i64 b):=by rw [h]
theorem Ew {a b:Bool} (h:a=b):AV.fl (.bool a)=AV.fl (.bool b):=by rw [h]
theorem zq (one:Bool) (n lo hi:Int):af TT TB one (.fn 110 [] [.pt [ah lo] 0,.pt [ah hi] 0]) [ah n] (BB (decide (n < lo) || decide (hi < n))):=by
 refine af.body (fn:=Tryz.f110) rfl rfl rfl rfl ?_
 refine aa (mu:=fun _=>false) ?_
 repeat' (first |(refine ⟨_,rfl,?_⟩) |(refine i6 (by assumption) ?_) |(refine jD (by assumption) ?_) |(refine ⟨fun h=>?_,fun h=>?_⟩) |fail)
 all_goals refine ⟨[_],⟨Fz.deep rfl,trivial⟩,?_⟩
 all_goals simp_all [vY]
theorem uq (one:Bool) (g:FuncId) (fs cs:List AV) (hF:(AV.fn g fs cs).deep=true) (p:Int→Bool) (l:List Int) (full:Bool) (hl:l.length≤maxLen) (hp:∀ n ∈ l,af TT TB one (.fn g fs cs) [ah n] (BB (p n))) :
  Pu one 138 [.sl (ints l) full,.fn g fs cs] (ah (nE p l)):=by
 unfold maxLen at hl
 refine af.body (fn:=Tryz.f138) rfl rfl rfl rfl ?_
 refine aa (mu:=fun _=>false) ?_
 skip
 refine av.aY (ai.to (l:=[(0,.sl (ints l) full),(1,.fn g fs cs),(7,ah l.length),(8,ah ((0:Nat):Int))]) 0 rfl ⟨rfl,rfl,cG (by simp),rfl,trivial⟩ (Nat.le_refl _) (by simp [eX,qd,fR 0 _ hF]) rfl) ?_
 refine av.loop (fun k:Nat=>k≤l.length∧∀ i (h:i < l.length),i < k→p l[i]=false) (fun k=>⟨aP [(0,.sl (ints l) full),(1,.fn g fs cs),(7,ah l.length),(8,ah (k:Int))],[],bq.none,false,0⟩) (fun k=>l.length - k) ?_ 0 ⟨Nat.zero_le _,fun i _ hi=>absurd hi (by omega)⟩
 intro k ⟨hk,hprev⟩
 refine aa (mu:=fun _=>false) ?_
 refine ⟨fun h=>?_,fun h=>?_⟩
 ·have hlt:k < l.length:=by simpa using h
  refine ⟨[ah l[k]],⟨by omega,by simp [hlt]⟩,rfl,?_⟩
  repeat' (first |refine u1 ?_ |fail)
  refine af.call (hp l[k] (List.getElem_mem _)) hF rfl ?_
  refine ⟨fun h2=>?_,fun h2=>?_⟩
  ·refine ⟨[_],⟨Fz.deep rfl,trivial⟩,?_⟩
   rw [qb hlt hprev h2];rfl
  ·repeat' (first |refine u2 ?_ |fail)
   refine ⟨k+1,⟨hlt,fun i hi hik=>?_⟩,(by dsimp only;omega),ai.to 0 rfl ⟨rfl,rfl,rfl,cG (by simp),trivial⟩ (Nat.le_refl _) (by simp [eX,qd,fR 0 _ hF]) rfl⟩
   by_cases hik':i=k
   ·subst hik';exact h2
   ·exact hprev i hi (by omega)
 ·skip
  refine ⟨[_],⟨Fz.deep rfl,trivial⟩,?_⟩
  have:k=l.length:=by simp at h;omega
  rw [qc fun i hi=>hprev i hi (by omega)];rfl
end Go.Proofs.YtichbhmnhkegiaaGreat
open Go Go.RM
namespace Go.Proofs.YtichbhmnhkegiaaGreat
set_option maxRecDepth 100000
def eJ (a b:Int):Int:=if a < b then -1 else if b < a then 1 else 0
def fV:List Int→List Int→Int
 | [],[]=>0
 | [],_ :: _=>-1
 | _ :: _,[]=>1
 | a :: l,b :: m=>if eJ a b=0 then fV l m else eJ a b
theorem oR (a b:Int) (l m:List Int):fV (a :: l) (b :: m)=if eJ a b=0 then fV l m else eJ a b:=by rw [fV]
theorem kW (a:Int) (l:List Int):fV (a :: l) []=1:=by rw [fV]
theorem oS (b:Int) (m:List Int):fV [] (b :: m)=-1:=by rw [fV]
theorem qZ:fV [] []=0:=by rw [fV]
def i7 (S:List Int) (m:Nat):Prop:=∀ p q:Nat,p < q→q < m→S.getD p 0≤S.getD q 0
theorem uX:∀ {x y:List Int},fV x y=0→x=y
 | [],[],_=>rfl
 | [],_ :: _,h=>by rw [oS] at h;omega
 | _ :: _,[],h=>by rw [kW] at h;omega
 | a :: l,b :: m,h=>by
  rw [oR] at h
  unfold eJ at h
  by_cases h1:a < b
  ·simp only [h1,if_true] at h
   omega
  ·by_cases h2:b < a
   ·simp only [h1,h2,if_true,if_false] at h
    omega
   ·simp only [h1,h2,if_false,if_true] at h
    rw [uX h,show a=b by omega]
theorem qe:∀ (x y:List Int),fV y x=- fV x y
 | [],[]=>by rw [qZ];rfl
 | [],_ :: _=>by rw [oS,kW];rfl
 | _ :: _,[]=>by rw [oS,kW]
 | a :: l,b :: m=>by
  rw [oR,oR]
  have ih:=qe l m
  unfold eJ
  by_cases h1:a < b
  ·have h2:¬ b < a:=by omega
   simp [h1,h2]
  ·by_cases h2:b < a
   ·simp [h1,h2]
   ·simp [h1,h2,ih]
theorem sX:∀ {x y z:List Int},fV x y < 0→fV y z < 0→fV x z < 0
 | [],[],z,h,_=>by rw [qZ] at h;omega
 | [],_ :: _,[],_,h=>by rw [kW] at h;omega
 | [],_ :: _,_ :: _,_,_=>by rw [oS];omega
 | _ :: _,[],z,h,_=>by rw [kW] at h;omega
 | _ :: _,_ :: _,[],_,h=>by rw [kW] at h;omega
 | a :: l,b :: m,c :: n,h,k=>by
  rw [oR] at h k ⊢
  have ih:=@sX l m n
  unfold eJ at *
  by_cases h1:a < b
  ·by_cases h2:b < c
   ·have:a < c:=by omega
    simp [this]
   ·by_cases h3:c < b
    ·simp [h2,h3] at k
    ·have:a < c:=by omega
     simp [this]
  ·by_cases h2:b < a
   ·simp [h1,h2] at h
   ·obtain rfl:a=b:=by omega
    simp only [h1,if_false,if_true] at h
    by_cases h2:a < c
    ·simp [h2]
    ·by_cases h3:c < a
     ·simp [h2,h3] at k
     ·simp only [h2,h3,if_false,if_true] at k ⊢
      exact ih h k
def fW (x y:List Int):Prop:=x.length < y.length∨x.length=y.length∧fV x y < 0
instance (x y:List Int):Decidable (fW x y):=by unfold fW;infer_instance
theorem Aa {x y:List Int} (h:¬ fW x y) (k:¬ fW y x):x=y:=by
 unfold fW at h k
 have hf:=qe x y
 apply uX
 omega
theorem Ba {x y z:List Int} (h:fW x y) (k:fW y z):fW x z:=by
 unfold fW at *
 rcases h with h|⟨h1,h2⟩
 ·left;omega
 ·rcases k with k|⟨k1,k2⟩
  ·left;omega
  ·exact .inr ⟨by omega,sX h2 k2⟩
theorem Ab {x:List Int}:¬ fW x x:=by
 intro h
 unfold fW at h
 have:=qe x x
 omega
def aW (p:Nat→Bool) (a m:Nat):List Int:=((List.range' a m).filter p).map fun (i:Nat)=>(i:Int)
theorem Ff {p:Nat→Bool} {a m:Nat} (h:p a=true):aW p a (m+1)=(a:Int) :: aW p (a+1) m:=by
 unfold aW
 rw [List.range'_succ,List.filter_cons,if_pos h,List.map_cons]
theorem Fg {p:Nat→Bool} {a m:Nat} (h:p a=false):aW p a (m+1)=aW p (a+1) m:=by
 unfold aW
 rw [List.range'_succ,List.filter_cons,if_neg (by rw [h];exact Bool.false_ne_true)]
theorem DA {p:Nat→Bool} {a m:Nat} {x:Int}:x ∈ aW p a m ↔ ∃ i:Nat,x=(i:Int)∧a≤i∧i < a+m∧p i=true:=by
 unfold aW
 rw [List.mem_map]
 constructor
 ·rintro ⟨i,hi,rfl⟩
  rw [List.mem_filter,List.mem_range'_1] at hi
  exact ⟨i,rfl,hi.1.1,hi.1.2,hi.2⟩
 ·rintro ⟨i,rfl,h1,h2,h3⟩
  exact ⟨i,by rw [List.mem_filter,List.mem_range'_1];exact ⟨⟨h1,h2⟩,h3⟩,rfl⟩
theorem fA (p:Nat→Bool) (a m:Nat):(aW p a m).length≤m:=by
 unfold aW
 rw [List.length_map]
 exact Nat.le_trans (List.length_filter_le ..) (by rw [List.length_range'];exact Nat.le_refl _)
theorem Bb {p q:Nat→Bool} {n:Nat} (h:∀ i,i < n→p i=q i):aW p 0 n=aW q 0 n:=by
 unfold aW
 congr 1
 apply List.filter_congr
 intro i hi
 rw [List.mem_range'_1] at hi
 exact h i (by omega)
theorem filter_or {α:Type} {p q:α→Bool} (hd:∀ i,p i=true→q i=true→False):∀ (L:List α),(L.filter fun i=>p i || q i).Perm (L.filter p++L.filter q)
 | []=>.refl _
 | a :: L=>by
  have ih:=filter_or hd L
  cases hp:p a with
  | true =>
   have hq:q a=false:=by cases hq:q a with|false=>rfl|true=>exact (hd a hp hq).elim
   simp only [List.filter_cons,hp,hq,Bool.or_false,if_true,Bool.false_eq_true,if_false,List.cons_append]
   exact ih.cons a
  | false =>
   cases hq:q a with
   | true =>
    simp only [List.filter_cons,hp,hq,Bool.or_true,if_true,Bool.false_eq_true,if_false]
    exact (ih.cons a).trans List.perm_middle.symm
   | false =>
    simp only [List.filter_cons,hp,hq,Bool.or_false,Bool.false_eq_true,if_false]
    exact ih
theorem Ex {p q:Nat→Bool} (hd:∀ i,p i=true→q i=true→False) (a m:Nat):(aW (fun i=>p i || q i) a m).Perm (aW p a m++aW q a m):=by
 unfold aW
 rw [←List.map_append]
 exact (filter_or hd _).map _
theorem nF (p:Nat→Bool):∀ (m a:Nat),(aW p a m).Pairwise (· < ·)
 | 0,a=>.nil
 | m+1,a=>by
  cases hp:p a with
  | false=>rw [Fg hp];exact nF p m (a+1)
  | true =>
   rw [Ff hp]
   refine .cons (fun x hx=>?_) (nF p m (a+1))
   obtain ⟨i,rfl,h1,_⟩:=DA.1 hx
   omega
theorem Bc {S:List Int} {N:Nat} (hN:S.length=N) (hs:i7 S N) {p:Nat→Bool} {a m:Nat} (hp:S.Perm (aW p a m)):S=aW p a m:=by
 refine List.Perm.eq_of_pairwise (le:=(·≤·)) (fun x y _ _ h1 h2=>by omega) ?_ ((nF p m a).imp (fun h=>by omega)) hp
 rw [List.pairwise_iff_getElem]
 intro i j hi hj hij
 have:=hs i j hij (by omega)
 rw [List.getD_eq_getElem?_getD,List.getD_eq_getElem?_getD,List.getElem?_eq_getElem hi,List.getElem?_eq_getElem hj] at this
 exact this
section
variable {τ : Type} (K n : Nat) (A : Nat → List τ) (M : Nat → τ → Nat → Bool)
variable {K n A M}
end
def cg (p:Nat→Bool):Nat→Nat
 | 0=>0
 | m+1=>cg p m+if p m=true then 2 ^ m else 0
theorem i9 (p:Nat→Bool):∀ m,cg p m < 2 ^ m
 | 0=>by unfold cg;exact Nat.one_pos
 | m+1=>by
  have:=i9 p m
  unfold cg
  rw [Nat.pow_succ]
  split <;> omega
theorem uY (p:Nat→Bool):∀ (m i:Nat),(cg p m).testBit i=(decide (i < m) && p i)
 | 0,i=>by unfold cg;simp
 | m+1,i=>by
  have ih:=uY p m i
  have hl:=i9 p m
  unfold cg
  cases hp:p m with
  | false =>
   simp only [Bool.false_eq_true,if_false,Nat.add_zero]
   rw [ih]
   by_cases him:i=m
   ·subst him;simp [hp]
   ·rw [show decide (i < m+1)=decide (i < m) from decide_eq_decide.2 (by omega)]
  | true =>
   simp only [if_true]
   have h2:=Nat.two_pow_add_eq_or_of_lt hl 1
   rw [Nat.mul_one] at h2
   rw [Nat.add_comm,h2,Nat.testBit_or,ih,Nat.testBit_two_pow]
   by_cases him:i=m
   ·subst him;simp [hp]
   ·rw [show decide (i < m+1)=decide (i < m) from decide_eq_decide.2 (by omega),show decide (m=i)=false from decide_eq_false (by omega),Bool.false_or]
theorem sY {p:Nat→Bool} {c:Nat} (h:p c=true):aW p 0 (c+1)=aW p 0 c++[(c:Int)]:=by
 unfold aW
 rw [List.range'_concat,List.filter_append,List.map_append]
 simp [h]
theorem sZ {p:Nat→Bool} {c:Nat} (h:p c=false):aW p 0 (c+1)=aW p 0 c:=by
 unfold aW
 rw [List.range'_concat,List.filter_append,List.map_append]
 simp [h]
end Go.Proofs.YtichbhmnhkegiaaGreat
open Go Go.RM
namespace Go.Proofs.YtichbhmnhkegiaaGreat
set_option maxRecDepth 100000
structure Span where
 lo:Int
 hi:Int
structure Pt where
 x:Int
 y:Int
structure lu where
 name:ByteArray
 cand:Span
 iq:Int
structure au where
 aj:List lu
 bW:Span
 clear:Span
structure aE where
 pos:Pt
 cM:Int
 eT:Int
 eK:Int
structure aA where
 pos:Pt
 cN:Bool
 yes:Bool
abbrev bw (s:Span):List AV:=[ah s.lo,ah s.hi]
abbrev FG (p:Pt):List AV:=[ah p.x,ah p.y]
abbrev aT (k:lu):List AV:=[ST k.name,ah k.cand.lo,ah k.cand.hi,ah k.iq]
abbrev az (r:aA):List AV:=[ah r.pos.x,ah r.pos.y,BB r.cN,BB r.yes]
abbrev gu (n:aE):List AV:=[ah n.pos.x,ah n.pos.y,ah n.cM,ah n.eT,ah n.eK]
abbrev bz (s:au):List AV:=[.sl (s.aj.map aT) false,ah s.bW.lo,ah s.bW.hi,ah s.clear.lo,ah s.clear.hi]
theorem kn (one:Bool) (g:FuncId) (fs cs:List AV) (hF:(AV.fn g fs cs).deep=true) (p:Int→Bool) (l:List Int) (full:Bool) (hl:l.length≤maxLen) (hp:∀ x ∈ l,af TT TB one (.fn g fs cs) [ah x] (BB (p x))) :
  Pu one 109 [.sl (l.map eI) full,.fn g fs cs] (BB (l.any p)):=by
 refine af.body (fn:=Tryz.f109) rfl rfl rfl rfl ?_
 refine aa (mu:=fun _=>false) ?_
 skip
 refine af.call (uq one g fs cs hF p l full hl hp) rfl (by simp only [cA,AV.deep,Bool.and_true,Bool.true_and];exact hF) ?_
 skip
 refine ⟨[_],⟨Fz.deep rfl,trivial⟩,?_⟩
 rw [←wj];rfl
theorem s0 (one:Bool) (g:FuncId) (fs cs:List AV) (hF:(AV.fn g fs cs).deep=true) (p:lu→Bool) (l:List lu) (full:Bool) (hl:l.length≤maxLen) (hp:∀ x ∈ l,af TT TB one (.fn g fs cs) [.ag (aT x)] (BB (p x))) :
  Pu one 115 [.sl (l.map aT) full,.fn g fs cs] (ah (nE p l)):=by
 unfold maxLen at hl
 refine af.body (fn:=Tryz.f115) rfl rfl rfl rfl ?_
 refine aa (mu:=fun _=>false) ?_
 skip
 refine av.aY (ai.to (l:=[(0,.sl (l.map aT) full),(1,.fn g fs cs),(7,ah l.length),(8,ah ((0:Nat):Int))]) 0 rfl ⟨rfl,rfl,cG (by simp),rfl,trivial⟩ (Nat.le_refl _) (by simp [eX,qd,fR 0 _ hF]) rfl) ?_
 refine av.loop (fun k:Nat=>k≤l.length∧∀ i (h:i < l.length),i < k→p l[i]=false) (fun k=>⟨aP [(0,.sl (l.map aT) full),(1,.fn g fs cs),(7,ah l.length),(8,ah (k:Int))],[],bq.none,false,0⟩) (fun k=>l.length - k) ?_ 0 ⟨Nat.zero_le _,fun i _ hi=>absurd hi (by omega)⟩
 intro k ⟨hk,hprev⟩
 refine aa (mu:=fun _=>false) ?_
 refine ⟨fun h=>?_,fun h=>?_⟩
 ·have hlt:k < l.length:=by simpa using h
  skip
  refine ⟨aT l[k],⟨by omega,by simp [hlt]⟩,rfl,?_⟩
  repeat' (first |refine u2 ?_ |fail)
  refine af.call (hp l[k] (List.getElem_mem _)) hF rfl ?_
  refine ⟨fun h2=>?_,fun h2=>?_⟩
  ·skip
   refine ⟨[_],⟨Fz.deep rfl,trivial⟩,?_⟩
   rw [qb hlt hprev h2];rfl
  ·repeat' (first |refine u2 ?_ |fail)
   refine ⟨k+1,⟨hlt,fun i hi hik=>?_⟩,(by dsimp only;omega),ai.to 0 rfl ⟨rfl,rfl,rfl,cG (by simp),trivial⟩ (Nat.le_refl _) (by simp [eX,qd,fR 0 _ hF]) rfl⟩
   by_cases hik':i=k
   ·subst hik';exact h2
   ·exact hprev i hi (by omega)
 ·skip
  refine ⟨[_],⟨Fz.deep rfl,trivial⟩,?_⟩
  have:k=l.length:=by simp at h;omega
  rw [qc fun i hi=>hprev i hi (by omega)];rfl
theorem qf (one:Bool) (g:FuncId) (fs cs:List AV) (hF:(AV.fn g fs cs).deep=true) (p:lu→Bool) (l:List lu) (full:Bool) (hl:l.length≤maxLen) (hp:∀ x ∈ l,af TT TB one (.fn g fs cs) [.ag (aT x)] (BB (p x))) :
  Pu one 72 [.sl (l.map aT) full,.fn g fs cs] (BB (l.any p)):=by
 refine af.body (fn:=Tryz.f72) rfl rfl rfl rfl ?_
 refine aa (mu:=fun _=>false) ?_
 skip
 refine af.call (s0 one g fs cs hF p l full hl hp) rfl (by simp only [cA,AV.deep,Bool.and_true,Bool.true_and];exact hF) ?_
 skip
 refine ⟨[_],⟨Fz.deep rfl,trivial⟩,?_⟩
 rw [←wj];rfl
theorem s5 (one:Bool) (g:FuncId) (fs cs:List AV) (hF:(AV.fn g fs cs).deep=true) (p:aA→Bool) (l:List aA) (full:Bool) (hl:l.length≤maxLen) (hp:∀ x ∈ l,af TT TB one (.fn g fs cs) [.ag (az x)] (BB (p x))) :
  Pu one 76 [.sl (l.map az) full,.fn g fs cs] (ah (nE p l)):=by
 unfold maxLen at hl
 refine af.body (fn:=Tryz.f76) rfl rfl rfl rfl ?_
 refine aa (mu:=fun _=>false) ?_
 skip
 refine av.aY (ai.to (l:=[(0,.sl (l.map az) full),(1,.fn g fs cs),(7,ah l.length),(8,ah ((0:Nat):Int))]) 0 rfl ⟨rfl,rfl,cG (by simp),rfl,trivial⟩ (Nat.le_refl _) (by simp [eX,qd,fR 0 _ hF]) rfl) ?_
 refine av.loop (fun k:Nat=>k≤l.length∧∀ i (h:i < l.length),i < k→p l[i]=false) (fun k=>⟨aP [(0,.sl (l.map az) full),(1,.fn g fs cs),(7,ah l.length),(8,ah (k:Int))],[],bq.none,false,0⟩) (fun k=>l.length - k) ?_ 0 ⟨Nat.zero_le _,fun i _ hi=>absurd hi (by omega)⟩
 intro k ⟨hk,hprev⟩
 refine aa (mu:=fun _=>false) ?_
 refine ⟨fun h=>?_,fun h=>?_⟩
 ·have hlt:k < l.length:=by simpa using h
  skip
  refine ⟨az l[k],⟨by omega,by simp [hlt]⟩,rfl,?_⟩
  repeat' (first |refine u2 ?_ |fail)
  refine af.call (hp l[k] (List.getElem_mem _)) hF rfl ?_
  refine ⟨fun h2=>?_,fun h2=>?_⟩
  ·skip
   refine ⟨[_],⟨Fz.deep rfl,trivial⟩,?_⟩
   rw [qb hlt hprev h2];rfl
  ·repeat' (first |refine u2 ?_ |fail)
   refine ⟨k+1,⟨hlt,fun i hi hik=>?_⟩,(by dsimp only;omega),ai.to 0 rfl ⟨rfl,rfl,rfl,cG (by simp),trivial⟩ (Nat.le_refl _) (by simp [eX,qd,fR 0 _ hF]) rfl⟩
   by_cases hik':i=k
   ·subst hik';exact h2
   ·exact hprev i hi (by omega)
 ·skip
  refine ⟨[_],⟨Fz.deep rfl,trivial⟩,?_⟩
  have:k=l.length:=by simp at h;omega
  rw [qc fun i hi=>hprev i hi (by omega)];rfl
end Go.Proofs.YtichbhmnhkegiaaGreat
open Go Go.RM
namespace Go.Proofs.YtichbhmnhkegiaaGreat
set_option maxRecDepth 100000
def bg (lo hi:Int) (l:List Int):Bool:=l.any fun n=>decide (n < lo) || decide (hi < n)
def Ey:List AV→Int
 | [.fl (.int _ n)]=>n
 | _=>0
def FU:List AV→Bool
 | [.fl (.int .i64 _)]=>true
 | _=>false
theorem allI:∀ {els:List (List AV)},els.all FU=true→els=ints (els.map Ey)
 | [],_=>rfl
 | el :: els,h=>by
  simp only [List.all_cons,Bool.and_eq_true] at h
  have ih:=allI h.2
  have:el=eI (Ey el):=by
   have h1:=h.1
   unfold FU at h1
   split at h1
   ·rfl
   ·cases h1
  show el :: els=eI (Ey el) :: ints (els.map Ey)
  rw [←this,←ih]
theorem gv (one:Bool) (lo hi:Int) (els:List (List AV)) (full:Bool) (h:els.all FU=true) (hl:els.length≤maxLen):Pu one 61 [ah lo,ah hi,.sl els full] (BB (bg lo hi (els.map Ey))):=by
 obtain ⟨l,hl'⟩:∃ l,els.map Ey=l:=⟨_,rfl⟩
 have he:els=ints l:=by rw [←hl'];exact allI h
 rw [hl']
 subst he
 refine af.body (fn:=Tryz.f61) rfl rfl rfl rfl ?_
 refine aa (mu:=fun _=>false) ?_
 repeat' (first |refine u2 ?_ |fail)
 refine af.call (kn one 110 [] _ rfl (fun n=>decide (n < lo) || decide (hi < n)) l full (by simpa using hl) (fun n _=>zq one n lo hi)) rfl rfl ?_
 skip
 refine ⟨[_],⟨Fz.deep rfl,trivial⟩,?_⟩
 rfl
def DB:UInt8→List UInt8→Bool
 | last,[]=>decide (last.toNat ≠ 45)
 | last,c :: l=>if 97≤c.toNat∧c.toNat≤122 then DB c l else if c.toNat ≠ 45∨last.toNat=45 then false else DB c l
theorem Co (last c:UInt8) (l:List UInt8):DB last (c :: l)=if 97≤c.toNat∧c.toNat≤122 then DB c l else if c.toNat ≠ 45∨last.toNat=45 then false else DB c l:=rfl
def m7 (s:ByteArray):Bool:=decide (s.data.toList.length≤14) && DB 45 s.data.toList
theorem uZ {s:ByteArray} {i:Nat} (h:i < s.data.toList.length):(s.get! i)=s.data.toList[i]:=by
 have:i < s.data.size:=by simpa using h
 simp only [ByteArray.get!,getElem!_pos s.data i this]
 simp
theorem Bd {s:ByteArray} {i:Nat} (h:i < s.data.toList.length) (hb:(s.data.toList[i]).toNat < 128):Utf8.decode s i=((s.data.toList[i]).toNat,1):=by
 unfold Utf8.decode
 simp only [Nat.add_zero,uZ h]
 rw [if_pos hb]
theorem Be {s:ByteArray} {i:Nat} (h:i < s.data.toList.length) (hb:128≤(s.data.toList[i]).toNat):128≤(Utf8.decode s i).1:=by
 unfold Utf8.decode
 simp only [Nat.add_zero,uZ h,Utf8.runeError]
 rw [if_neg (by omega)]
 repeat' split
 all_goals simp_all
 all_goals omega
theorem Ez (one : Bool) (s : ByteArray) (hs : s.data.toList.length ≤ maxLen) : Pu one 71 [ST s] (BB (m7 s)) := by
  unfold maxLen at hs
  refine af.body (fn := Tryz.f71) rfl rfl rfl rfl ?_
  refine aa (mu := fun _ => false) ?_
  skip
  refine av.aY (ai.to (l := [(0, ST s), (7, .ptr 0 0 0), (3, .fl (.int .i32 (((45 : UInt8).toNat : Nat) : Int)))]) 1 rfl ⟨rfl, rfl, rfl, trivial⟩ (Nat.zero_le _) rfl rfl) ?_
  refine av.loop (fun x : Nat × UInt8 => x.1 ≤ s.data.toList.length ∧ DB 45 s.data.toList = DB x.2 (s.data.toList.drop x.1)) (fun x => ⟨aP [(0, ST s), (7, .ptr 0 0 0), (3, .fl (.int .i32 ((x.2.toNat : Nat) : Int)))], [.cW s x.1], bq.none, false, 0⟩) (fun x => s.data.toList.length - x.1) ?_ (0, 45) ⟨Nat.zero_le _, rfl⟩
  intro ⟨pos, last⟩ ⟨hpos, hrel⟩
  refine aa (mu := fun _ => false) ?_
  have hdrop : ∀ h : pos < s.data.toList.length, s.data.toList.drop pos = s.data.toList[pos] :: s.data.toList.drop (pos + 1) := fun h => List.drop_eq_getElem_cons h
  refine ⟨s, pos, rfl, fun hlt => ?_, fun hge => ?_⟩
  · rw [hdrop hlt] at hrel
    simp only at hrel
    generalize hc : s.data.toList[pos] = c at hrel
    have hc256 : c.toNat < 256 := c.toNat_lt
    rw [Co] at hrel
    by_cases hb : c.toNat < 128
    · have hd := Bd hlt (by rw [hc]; exact hb)
      rw [hc] at hd
      rw [hd]
      clear hd hc hdrop
      repeat' (first |(refine ⟨_, rfl, ?_⟩) |(refine i6 (by assumption) ?_) |(refine i6 rfl ?_) |(refine jD rfl ?_) |(refine jD (by assumption) ?_) |(refine ⟨_, _, rfl, rfl, _, rfl, rfl, ?_⟩) |(refine ⟨fun h => ?_, fun h => ?_⟩) |fail)
      all_goals first
        | (refine ⟨(pos + 1, c), ⟨hlt, ?_⟩, (by dsimp only; omega), ai.to 1 rfl ⟨rfl, rfl, rfl, trivial⟩ (Nat.zero_le _) rfl rfl⟩
           first
             | rw [hrel, if_pos (by simp at *; omega)]
             | rw [hrel, if_neg (by simp at *; omega), if_neg (by simp at *; omega)])
        | (refine ⟨[_], ⟨Fz.deep rfl, trivial⟩, Ew ?_⟩
           rw [m7, hrel, if_neg (by simp at *; omega), if_pos (by simp at *; omega)]
           simp)
    · have hd := Be hlt (by rw [hc]; omega)
      generalize Utf8.decode s pos = d at hd
      clear hc hdrop
      repeat' (first |(refine ⟨_, rfl, ?_⟩) |(refine i6 (by assumption) ?_) |(refine i6 rfl ?_) |(refine jD rfl ?_) |(refine jD (by assumption) ?_) |(refine ⟨_, _, rfl, rfl, _, rfl, rfl, ?_⟩) |(refine ⟨fun h => ?_, fun h => ?_⟩) |fail)
      all_goals first
        | (exfalso; simp at *; omega)
        | (refine ⟨[_], ⟨Fz.deep rfl, trivial⟩, Ew ?_⟩
           rw [m7, hrel, if_neg (by omega), if_pos (by omega)]
           simp)
  · have hlen : pos = s.data.toList.length := by simp only at hpos; omega
    subst hlen
    simp only [List.drop_length, DB] at hrel
    repeat' (first |(refine ⟨_, rfl, ?_⟩) |(refine i6 (by assumption) ?_) |(refine jD rfl ?_) |(refine jD (by assumption) ?_) |(refine ⟨_, _, rfl, rfl, _, rfl, rfl, ?_⟩) |(refine ⟨fun h => ?_, fun h => ?_⟩) |fail)
    all_goals refine ⟨[_], ⟨Fz.deep rfl, trivial⟩, Ew ?_⟩
    all_goals rw [m7, hrel, Bool.eq_iff_iff]
    all_goals simp at *
    all_goals omega
end Go.Proofs.YtichbhmnhkegiaaGreat
open Go Go.RM
namespace Go.Proofs.YtichbhmnhkegiaaGreat
set_option maxRecDepth 100000
def DC (a b:ByteArray):Bool:=a.toList == b.toList
def gT (n:Nat) (e:Nat→Int):Int × Int:=match (List.range n).find? (fun i=>e i != 0) with
 | some i=>((i:Int),e i)
 | none=>(0,0)
theorem ya {n k:Nat} {e:Nat→Int} (hk:k < n) (hprev:∀ i,i < k→e i=0) (h:e k ≠ 0):gT n e=((k:Int),e k):=by
 unfold gT
 have:(List.range n).find? (fun i=>e i != 0)=some k:=by
  rw [List.find?_range_eq_some]
  exact ⟨by simpa using h,by simpa using hk,fun j hj=>by simp [hprev j hj]⟩
 rw [this]
theorem yb {n:Nat} {e:Nat→Int} (hprev:∀ i,i < n→e i=0):gT n e=(0,0):=by
 unfold gT
 have:(List.range n).find? (fun i=>e i != 0)=none:=by
  rw [List.find?_eq_none]
  intro x hx
  simp [hprev x (by simpa using hx)]
 rw [this]
end Go.Proofs.YtichbhmnhkegiaaGreat
open Go Go.RM
namespace Go.Proofs.YtichbhmnhkegiaaGreat
set_option maxRecDepth 100000
theorem fm {α β:Type} {f:α→β} {l:List α} {k:Nat} (h:k < l.length):(l.map f)[((k:Nat):Int).toNat]?=some (f l[k]):=by
 rw [Int.toNat_natCast,List.getElem?_map,List.getElem?_eq_getElem h]
 rfl
end Go.Proofs.YtichbhmnhkegiaaGreat
open Go Go.RM
namespace Go.Proofs.YtichbhmnhkegiaaGreat
set_option maxRecDepth 100000
end Go.Proofs.YtichbhmnhkegiaaGreat
open Go Go.RM
namespace Go.Proofs.YtichbhmnhkegiaaGreat
set_option maxRecDepth 100000
set_option maxHeartbeats 4000000
theorem ri (one:Bool) (a:Int):Pu one 133 [ah a] (BB false):=by
 have d1:(!decide (a=a))=false:=by simp
 refine af.body (fn:=Tryz.f133) rfl rfl rfl rfl ?_
 refine aa (mu:=fun _=>false) ?_
 repeat' (first |refine u1 ?_ |fail)
 exact ⟨[_],⟨Fz.deep rfl,trivial⟩,Ew d1⟩
theorem Ac (one:Bool) (a b:Int):Pu one 100 [ah a,ah b] (ah (eJ a b)):=by
 have ha:=ri one a
 have hb:=ri one b
 unfold eJ
 refine af.body (fn:=Tryz.f100) rfl rfl rfl rfl ?_
 refine aa (mu:=fun _=>false) ?_
 repeat' (first |refine u1 ?_ |fail)
 by_cases h1:a < b
 ·have d1:=decide_eq_true h1
  rw [if_pos h1]
  repeat' (first |refine u1 ?_ |fail)
  exact ⟨[_],⟨Fz.deep rfl,trivial⟩,rfl⟩
 ·have d1:=decide_eq_false h1
  rw [if_neg h1]
  by_cases h2:b < a
  ·have d2:=decide_eq_true h2
   rw [if_pos h2]
   repeat' (first |refine u1 ?_ |fail)
   exact ⟨[_],⟨Fz.deep rfl,trivial⟩,rfl⟩
  ·have d2:=decide_eq_false h2
   rw [if_neg h2]
   repeat' (first |refine u1 ?_ |fail)
   exact ⟨[_],⟨Fz.deep rfl,trivial⟩,rfl⟩
end Go.Proofs.YtichbhmnhkegiaaGreat
