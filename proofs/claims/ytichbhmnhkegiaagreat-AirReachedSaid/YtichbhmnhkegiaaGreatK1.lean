/-
  Contracts of the program's functions and of the document's. Lemmas alone; their conditions stand in them.
-/
import Derived.Test.YtichbhmnhkegiaaGreatA2
import Derived.Test.YtichbhmnhkegiaaGreatA3
import Derived.Test.YtichbhmnhkegiaaGreatT1
open Go Go.RM
namespace Go.Proofs.YtichbhmnhkegiaaGreat
set_option maxRecDepth 100000
abbrev ai (n:Int):AV:=.fl (.int .i64 n)
abbrev BB (b:Bool):AV:=.fl (.bool b)
abbrev ST (s:ByteArray):AV:=.fl (.string s)
abbrev eI (n:Int):List AV:=[ai n]
abbrev ints (l:List Int):List (List AV):=l.map eI
def TB:List XE:=[]
abbrev Pu (one:Bool) (f:FuncId) (args:List AV) (v:AV):Prop:=af TT TB one (.fn f [] []) args v
def lY {α:Type} (p:α→Bool) (l:List α):Int:=match l.findIdx? p with
 | some i=>(i:Int)
 | none=>-1
theorem mE {α:Type} {p:α→Bool} {l:List α} {k:Nat} (hk:k < l.length) (hprev:∀ i (h:i < l.length),i < k→p l[i]=false) (hp:p l[k]=true):lY p l=k:=by
 unfold lY
 have:l.findIdx? p=some k:=by
  rw [List.findIdx?_eq_some_iff_getElem]
  exact ⟨hk,hp,fun j hj=>by simp [hprev j (by omega) hj]⟩
 rw [this]
theorem mF {α:Type} {p:α→Bool} {l:List α} (hprev:∀ i (h:i < l.length),p l[i]=false):lY p l=-1:=by
 unfold lY
 have:l.findIdx? p=none:=by
  rw [List.findIdx?_eq_none_iff]
  intro x hx
  obtain ⟨i,hi,rfl⟩:=List.getElem_of_mem hx
  exact hprev i hi
 rw [this]
theorem sD {α:Type} (p:α→Bool) (l:List α):decide (0≤lY p l)=l.any p:=by
 unfold lY
 cases h:l.findIdx? p with
 | some i =>
  rw [List.findIdx?_eq_some_iff_getElem] at h
  obtain ⟨h1,h2,_⟩:=h
  simp only [Int.natCast_nonneg,decide_true]
  symm
  rw [List.any_eq_true]
  exact ⟨_,List.getElem_mem h1,h2⟩
 | none =>
  rw [List.findIdx?_eq_none_iff] at h
  simp
  intro x hx;exact h x hx
theorem ia (n:Nat):∀ (v:AV),v.deep=true→v.cJ n=true:=by
 apply AV.rec (motive_1:=fun v=>v.deep=true→v.cJ n=true) (motive_2:=fun _=>True) (motive_3:=fun l=>bP l=true→iM n l=true)
 ·intro v _;rfl
 ·intro a b _ _;rfl
 ·intro a b _ _;rfl
 ·intro f a b ha hb h
  simp only [AV.deep,Bool.and_eq_true] at h
  simp only [AV.cJ,Bool.and_eq_true]
  exact ⟨ha h.1,hb h.2⟩
 ·intro a ha h
  simp only [AV.deep] at h
  simp only [AV.cJ]
  exact ha h
 ·intro a ha h
  simp only [AV.deep] at h
  simp only [AV.cJ]
  exact ha h
 ·intro j v o h;simp [AV.deep] at h
 ·intro j v o n c h;simp [AV.deep] at h
 ·intro j h;simp [AV.deep] at h
 ·intro u _;rfl
 ·intro h;simp [AV.deep] at h
 ·trivial
 ·intros;trivial
 ·intro _;rfl
 ·intro a l ha hl h
  simp only [bP,Bool.and_eq_true] at h
  simp only [iM,Bool.and_eq_true]
  exact ⟨ha h.1,hl h.2⟩
theorem gm {n:Nat} {v:Value}:(AV.fl v).cJ n=true:=rfl
theorem tP {n:Nat} {a:List (List AV)} {b:Bool}:(AV.sl a b).cJ n=true:=rfl
theorem aR {a b:Int} (h:a=b):AV.fl (.int .i64 a)=AV.fl (.int .i64 b):=by rw [h]
theorem GJ {a b:Bool} (h:a=b):AV.fl (.bool a)=AV.fl (.bool b):=by rw [h]
theorem DT (one:Bool) (n lo hi:Int):af TT TB one (.fn 110 [] [.pt [ai lo] 0,.pt [ai hi] 0]) [ai n] (BB (decide (n < lo) || decide (hi < n))):=by
 refine af.body (fn:=Tryz.f110) rfl rfl rfl rfl ?_
 refine aa (mu:=fun _=>false) ?_
 repeat' (first |(refine ⟨_,rfl,?_⟩) |(refine eL (by assumption) ?_) |(refine fY (by assumption) ?_) |(refine ⟨fun h=>?_,fun h=>?_⟩) |fail)
 all_goals refine ⟨[_],⟨Fz.deep rfl,trivial⟩,?_⟩
 all_goals simp_all [Aj]
theorem x7 (one:Bool) (g:FuncId) (fs cs:List AV) (hF:(AV.fn g fs cs).deep=true) (p:Int→Bool) (l:List Int) (full:Bool) (hl:l.length≤maxLen) (hp:∀ n ∈ l,af TT TB one (.fn g fs cs) [ai n] (BB (p n))) :
  Pu one 138 [.sl (ints l) full,.fn g fs cs] (ai (lY p l)):=by
 unfold maxLen at hl
 refine af.body (fn:=Tryz.f138) rfl rfl rfl rfl ?_
 refine aa (mu:=fun _=>false) ?_
 skip
 refine ax.aK (ah.to (l:=[(0,.sl (ints l) full),(1,.fn g fs cs),(7,ai l.length),(8,ai ((0:Nat):Int))]) 0 rfl ⟨rfl,rfl,aR (by simp),rfl,trivial⟩ (Nat.le_refl _) (by simp [gm,tP,ia 0 _ hF]) rfl) ?_
 refine ax.loop (fun k:Nat=>k≤l.length∧∀ i (h:i < l.length),i < k→p l[i]=false) (fun k=>⟨aF [(0,.sl (ints l) full),(1,.fn g fs cs),(7,ai l.length),(8,ai (k:Int))],[],aV.none,false,0⟩) (fun k=>l.length - k) ?_ 0 ⟨Nat.zero_le _,fun i _ hi=>absurd hi (by omega)⟩
 intro k ⟨hk,hprev⟩
 refine aa (mu:=fun _=>false) ?_
 refine ⟨fun h=>?_,fun h=>?_⟩
 ·have hlt:k < l.length:=by simpa using h
  refine ⟨[ai l[k]],⟨by omega,by simp [hlt]⟩,rfl,?_⟩
  repeat' (first |refine u1 ?_ |fail)
  refine af.call (hp l[k] (List.getElem_mem _)) hF rfl ?_
  refine ⟨fun h2=>?_,fun h2=>?_⟩
  ·refine ⟨[_],⟨Fz.deep rfl,trivial⟩,?_⟩
   rw [mE hlt hprev h2];rfl
  ·repeat' (first |refine u2 ?_ |fail)
   refine ⟨k+1,⟨hlt,fun i hi hik=>?_⟩,(by dsimp only;omega),ah.to 0 rfl ⟨rfl,rfl,rfl,aR (by simp),trivial⟩ (Nat.le_refl _) (by simp [gm,tP,ia 0 _ hF]) rfl⟩
   by_cases hik':i=k
   ·subst hik';exact h2
   ·exact hprev i hi (by omega)
 ·skip
  refine ⟨[_],⟨Fz.deep rfl,trivial⟩,?_⟩
  have:k=l.length:=by simp at h;omega
  rw [mF fun i hi=>hprev i hi (by omega)];rfl
end Go.Proofs.YtichbhmnhkegiaaGreat
open Go Go.RM
namespace Go.Proofs.YtichbhmnhkegiaaGreat
set_option maxRecDepth 100000
def ek (a b:Int):Int:=if a < b then -1 else if b < a then 1 else 0
def gG:List Int→List Int→Int
 | [],[]=>0
 | [],_ :: _=>-1
 | _ :: _,[]=>1
 | a :: l,b :: m=>if ek a b=0 then gG l m else ek a b
theorem iZ (a b:Int) (l m:List Int):gG (a :: l) (b :: m)=if ek a b=0 then gG l m else ek a b:=by rw [gG]
theorem nA (a:Int) (l:List Int):gG (a :: l) []=1:=by rw [gG]
theorem sE (b:Int) (m:List Int):gG [] (b :: m)=-1:=by rw [gG]
theorem sF:gG [] []=0:=by rw [gG]
def kK (S:List Int) (m:Nat):Prop:=∀ p q:Nat,p < q→q < m→S.getD p 0≤S.getD q 0
theorem yK:∀ {x y:List Int},gG x y=0→x=y
 | [],[],_=>rfl
 | [],_ :: _,h=>by rw [sE] at h;omega
 | _ :: _,[],h=>by rw [nA] at h;omega
 | a :: l,b :: m,h=>by
  rw [iZ] at h
  unfold ek at h
  by_cases h1:a < b
  ·simp only [h1,if_true] at h
   omega
  ·by_cases h2:b < a
   ·simp only [h1,h2,if_true,if_false] at h
    omega
   ·simp only [h1,h2,if_false,if_true] at h
    rw [yK h,show a=b by omega]
theorem mG:∀ (x y:List Int),gG y x=- gG x y
 | [],[]=>by rw [sF];rfl
 | [],_ :: _=>by rw [sE,nA];rfl
 | _ :: _,[]=>by rw [sE,nA]
 | a :: l,b :: m=>by
  rw [iZ,iZ]
  have ih:=mG l m
  unfold ek
  by_cases h1:a < b
  ·have h2:¬ b < a:=by omega
   simp [h1,h2]
  ·by_cases h2:b < a
   ·simp [h1,h2]
   ·simp [h1,h2,ih]
theorem wJ:∀ {x y z:List Int},gG x y < 0→gG y z < 0→gG x z < 0
 | [],[],z,h,_=>by rw [sF] at h;omega
 | [],_ :: _,[],_,h=>by rw [nA] at h;omega
 | [],_ :: _,_ :: _,_,_=>by rw [sE];omega
 | _ :: _,[],z,h,_=>by rw [nA] at h;omega
 | _ :: _,_ :: _,[],_,h=>by rw [nA] at h;omega
 | a :: l,b :: m,c :: n,h,k=>by
  rw [iZ] at h k ⊢
  have ih:=@wJ l m n
  unfold ek at *
  by_cases h1:a < b
  ·by_cases h2:b < c
   ·have:a < c:=by omega
    simp [this]
   ·by_cases h3:c < b
    ·simp [h2,h3] at k
    ·have:a < c:=by omega
     simp [this]
  ·by_cases h2:b < a
   ·simp [h1,h2] at h
   ·obtain rfl:a=b:=by omega
    simp only [h1,if_false,if_true] at h
    by_cases h2:a < c
    ·simp [h2]
    ·by_cases h3:c < a
     ·simp [h2,h3] at k
     ·simp only [h2,h3,if_false,if_true] at k ⊢
      exact ih h k
def gv (x y:List Int):Prop:=x.length < y.length∨x.length=y.length∧gG x y < 0
instance (x y:List Int):Decidable (gv x y):=by unfold gv;infer_instance
theorem u9 {x y:List Int} (h:¬ gv x y) (k:¬ gv y x):x=y:=by
 unfold gv at h k
 have hf:=mG x y
 apply yK
 omega
theorem tQ {x y z:List Int} (h:gv x y) (k:gv y z):gv x z:=by
 unfold gv at *
 rcases h with h|⟨h1,h2⟩
 ·left;omega
 ·rcases k with k|⟨k1,k2⟩
  ·left;omega
  ·exact .inr ⟨by omega,wJ h2 k2⟩
theorem pM {x:List Int}:¬ gv x x:=by
 intro h
 unfold gv at h
 have:=mG x x
 omega
theorem tR {α:Type} (f:α→List Int):∀ (L:List α),L ≠ []→∃ t ∈ L,∀ u ∈ L,¬ gv (f u) (f t)
 | [],h=>absurd rfl h
 | [a],_=>⟨a,List.mem_cons_self ..,fun u hu=>by rw [List.mem_singleton.1 hu];exact pM⟩
 | a :: b :: L,_=>by
  obtain ⟨t,ht,hm⟩:=tR f (b :: L) (by simp)
  by_cases hb:gv (f a) (f t)
  ·refine ⟨a,List.mem_cons_self ..,fun u hu=>?_⟩
   rcases List.mem_cons.1 hu with rfl|hu
   ·exact pM
   ·exact fun h=>hm u hu (tQ h hb)
  ·refine ⟨t,List.mem_cons_of_mem _ ht,fun u hu=>?_⟩
   rcases List.mem_cons.1 hu with rfl|hu
   ·exact hb
   ·exact hm u hu
def aO (p:Nat→Bool) (a m:Nat):List Int:=((List.range' a m).filter p).map fun (i:Nat)=>(i:Int)
theorem oE {p:Nat→Bool} {a m:Nat} (h:p a=true):aO p a (m+1)=(a:Int) :: aO p (a+1) m:=by
 unfold aO
 rw [List.range'_succ,List.filter_cons,if_pos h,List.map_cons]
theorem oF {p:Nat→Bool} {a m:Nat} (h:p a=false):aO p a (m+1)=aO p (a+1) m:=by
 unfold aO
 rw [List.range'_succ,List.filter_cons,if_neg (by rw [h];exact Bool.false_ne_true)]
theorem pN {p:Nat→Bool} {a m:Nat} {x:Int}:x ∈ aO p a m ↔ ∃ i:Nat,x=(i:Int)∧a≤i∧i < a+m∧p i=true:=by
 unfold aO
 rw [List.mem_map]
 constructor
 ·rintro ⟨i,hi,rfl⟩
  rw [List.mem_filter,List.mem_range'_1] at hi
  exact ⟨i,rfl,hi.1.1,hi.1.2,hi.2⟩
 ·rintro ⟨i,rfl,h1,h2,h3⟩
  exact ⟨i,by rw [List.mem_filter,List.mem_range'_1];exact ⟨⟨h1,h2⟩,h3⟩,rfl⟩
theorem e8 (p:Nat→Bool) (a m:Nat):(aO p a m).length≤m:=by
 unfold aO
 rw [List.length_map]
 exact Nat.le_trans (List.length_filter_le ..) (by rw [List.length_range'];exact Nat.le_refl _)
theorem F3 {p q:Nat→Bool} {n:Nat} (h:∀ i,i < n→p i=q i):aO p 0 n=aO q 0 n:=by
 unfold aO
 congr 1
 apply List.filter_congr
 intro i hi
 rw [List.mem_range'_1] at hi
 exact h i (by omega)
theorem va {p q:Nat→Bool}:∀ (m a:Nat),(aO p a m).length=(aO q a m).length →
  (gG (aO p a m) (aO q a m) < 0 ↔ ∃ i,a≤i∧i < a+m∧p i=true∧q i=false∧∀ j,a≤j→j < i→p j=q j)
 | 0,a,_=>by
  refine ⟨fun h=>?_,fun ⟨i,h1,h2,_⟩=>absurd h1 (by omega)⟩
  change gG [] [] < 0 at h
  rw [sF] at h
  omega
 | m+1,a,h=>by
  cases hp:p a with
  | false =>
   cases hq:q a with
   | false =>
    rw [oF hp,oF hq] at h ⊢
    rw [va m (a+1) h]
    constructor
    ·rintro ⟨i,h1,h2,h3,h4,h5⟩
     refine ⟨i,by omega,by omega,h3,h4,fun j hj hji=>?_⟩
     by_cases hja:j=a
     ·rw [hja,hp,hq]
     ·exact h5 j (by omega) hji
    ·rintro ⟨i,h1,h2,h3,h4,h5⟩
     have:i ≠ a:=by rintro rfl;rw [hp] at h3;cases h3
     exact ⟨i,by omega,by omega,h3,h4,fun j hj hji=>h5 j (by omega) hji⟩
   | true =>
    rw [oF hp,oE hq] at h ⊢
    constructor
    ·intro hc
     cases hL:aO p (a+1) m with
     | nil=>rw [hL] at h;simp at h
     | cons b L =>
      have hb:b ∈ aO p (a+1) m:=by rw [hL];exact List.mem_cons_self ..
      obtain ⟨i,rfl,h1,_⟩:=pN.1 hb
      rw [hL,iZ] at hc
      unfold ek at hc
      have h2:¬ ((i:Int) < (a:Int)):=by omega
      have h3:((a:Int) < (i:Int)):=by omega
      simp [h2,h3] at hc
    ·rintro ⟨i,h1,h2,h3,h4,h5⟩
     have:i ≠ a:=by rintro rfl;rw [hp] at h3;cases h3
     have:=h5 a (Nat.le_refl _) (by omega)
     rw [hp,hq] at this
     cases this
  | true =>
   cases hq:q a with
   | false =>
    rw [oE hp,oF hq] at h ⊢
    refine ⟨fun _=>⟨a,Nat.le_refl _,by omega,hp,hq,fun j hj hja=>absurd hj (by omega)⟩,fun _=>?_⟩
    cases hL:aO q (a+1) m with
    | nil=>rw [hL] at h;simp at h
    | cons b L =>
     have hb:b ∈ aO q (a+1) m:=by rw [hL];exact List.mem_cons_self ..
     obtain ⟨i,rfl,h1,_⟩:=pN.1 hb
     rw [iZ]
     unfold ek
     have h3:((a:Int) < (i:Int)):=by omega
     simp [h3]
   | true =>
    rw [oE hp,oE hq] at h ⊢
    rw [iZ,show ek (a:Int) (a:Int)=0 by unfold ek;simp,if_pos rfl]
    rw [va m (a+1) (by simpa using h)]
    constructor
    ·rintro ⟨i,h1,h2,h3,h4,h5⟩
     refine ⟨i,by omega,by omega,h3,h4,fun j hj hji=>?_⟩
     by_cases hja:j=a
     ·rw [hja,hp,hq]
     ·exact h5 j (by omega) hji
    ·rintro ⟨i,h1,h2,h3,h4,h5⟩
     have:i ≠ a:=by rintro rfl;rw [hq] at h4;cases h4
     exact ⟨i,by omega,by omega,h3,h4,fun j hj hji=>h5 j (by omega) hji⟩
theorem EU {p q:Nat→Bool}:∀ (m a:Nat),(∀ i,a≤i→i < a+m→p i=true→q i=true) →
  (aO p a m).length≤(aO q a m).length∧((aO p a m).length=(aO q a m).length→∀ i,a≤i→i < a+m→p i=q i)
 | 0,a,_=>⟨Nat.le_refl _,fun _ i h1 h2=>absurd h1 (by omega)⟩
 | m+1,a,h=>by
  obtain ⟨h1,h2⟩:=EU m (a+1) (fun i x y=>h i (by omega) (by omega))
  have hf:p a=q a→(∀ i,a+1≤i→i < a+1+m→p i=q i)→∀ i,a≤i→i < a+(m+1)→p i=q i:=by
   intro ha hr i x y
   by_cases hia:i=a
   ·rw [hia];exact ha
   ·exact hr i (by omega) (by omega)
  cases hp:p a with
  | false =>
   cases hq:q a with
   | false =>
    rw [oF hp,oF hq]
    exact ⟨h1,fun e=>hf (by rw [hp,hq]) (h2 e)⟩
   | true =>
    rw [oF hp,oE hq,List.length_cons]
    exact ⟨by omega,fun e=>absurd e (by omega)⟩
  | true =>
   have hq:=h a (Nat.le_refl _) (by omega) hp
   rw [oE hp,oE hq,List.length_cons,List.length_cons]
   exact ⟨by omega,fun e=>hf (by rw [hp,hq]) (h2 (by omega))⟩
theorem filter_or {α:Type} {p q:α→Bool} (hd:∀ i,p i=true→q i=true→False):∀ (L:List α),(L.filter fun i=>p i || q i).Perm (L.filter p++L.filter q)
 | []=>.refl _
 | a :: L=>by
  have ih:=filter_or hd L
  cases hp:p a with
  | true =>
   have hq:q a=false:=by cases hq:q a with|false=>rfl|true=>exact (hd a hp hq).elim
   simp only [List.filter_cons,hp,hq,Bool.or_false,if_true,Bool.false_eq_true,if_false,List.cons_append]
   exact ih.cons a
  | false =>
   cases hq:q a with
   | true =>
    simp only [List.filter_cons,hp,hq,Bool.or_true,if_true,Bool.false_eq_true,if_false]
    exact (ih.cons a).trans List.perm_middle.symm
   | false =>
    simp only [List.filter_cons,hp,hq,Bool.or_false,Bool.false_eq_true,if_false]
    exact ih
theorem HE {p q:Nat→Bool} (hd:∀ i,p i=true→q i=true→False) (a m:Nat):(aO (fun i=>p i || q i) a m).Perm (aO p a m++aO q a m):=by
 unfold aO
 rw [←List.map_append]
 exact (filter_or hd _).map _
theorem qK (p:Nat→Bool):∀ (m a:Nat),(aO p a m).Pairwise (· < ·)
 | 0,a=>.nil
 | m+1,a=>by
  cases hp:p a with
  | false=>rw [oF hp];exact qK p m (a+1)
  | true =>
   rw [oE hp]
   refine .cons (fun x hx=>?_) (qK p m (a+1))
   obtain ⟨i,rfl,h1,_⟩:=pN.1 hx
   omega
theorem F4 {S:List Int} {N:Nat} (hN:S.length=N) (hs:kK S N) {p:Nat→Bool} {a m:Nat} (hp:S.Perm (aO p a m)):S=aO p a m:=by
 refine List.Perm.eq_of_pairwise (le:=(·≤·)) (fun x y _ _ h1 h2=>by omega) ?_ ((qK p m a).imp (fun h=>by omega)) hp
 rw [List.pairwise_iff_getElem]
 intro i j hi hj hij
 have:=hs i j hij (by omega)
 rw [List.getD_eq_getElem?_getD,List.getD_eq_getElem?_getD,List.getElem?_eq_getElem hi,List.getElem?_eq_getElem hj] at this
 exact this
section
variable {τ : Type} (K n : Nat) (A : Nat → List τ) (M : Nat → τ → Nat → Bool)
def JB (q:Nat→Bool):Prop:=∀ k,k < K→∃ t ∈ A k,∀ i,i < n→M k t i=true→q i=true
def HF:Prop:=∀ k k' t t' i,M k t i=true→M k' t' i=true→k=k'
def K1 (T:Nat→τ):Prop:=∀ k,k < K→T k ∈ A k∧∀ t ∈ A k,¬ gv (aO (M k t) 0 n) (aO (M k (T k)) 0 n)
def jk (T:Nat→τ) (m:Nat) (i:Nat):Bool:=(List.range m).any fun k=>M k (T k) i
variable {K n A M}
theorem ic {T:Nat→τ} {m i:Nat}:jk M T m i=true ↔ ∃ k,k < m∧M k (T k) i=true:=by
 unfold jk
 simp [List.any_eq_true,List.mem_range]
theorem F5 (T:Nat→τ) (m:Nat):jk M T (m+1)=fun i=>jk M T m i || M m (T m) i:=by
 funext i
 unfold jk
 rw [List.range_succ,List.any_append]
 simp
theorem JC (hd:HF M) (T:Nat→τ) (m:Nat):(aO (jk M T (m+1)) 0 n).Perm (aO (jk M T m) 0 n++aO (M m (T m)) 0 n):=by
 rw [F5]
 refine HE (fun i h1 h2=>?_) _ _
 obtain ⟨k,hk,h3⟩:=ic.1 h1
 have:=hd _ _ _ _ _ h3 h2
 omega
theorem HG (hd:HF M) (T:Nat→τ) (m:Nat):(aO (jk M T (m+1)) 0 n).length=(aO (jk M T m) 0 n).length+(aO (M m (T m)) 0 n).length:=by
 rw [(JC hd T m).length_eq,List.length_append]
theorem Ky (hd:HF M) {T T':Nat→τ}:∀ (m:Nat),(∀ k,k < m→(aO (M k (T k)) 0 n).length≤(aO (M k (T' k)) 0 n).length) →
  (aO (jk M T m) 0 n).length≤(aO (jk M T' m) 0 n).length∧((aO (jk M T m) 0 n).length=(aO (jk M T' m) 0 n).length→∀ k,k < m→(aO (M k (T k)) 0 n).length=(aO (M k (T' k)) 0 n).length)
 | 0,_=>⟨Nat.le_refl _,fun _ k hk=>absurd hk (by omega)⟩
 | m+1,h=>by
  obtain ⟨h1,h2⟩:=Ky hd m fun k hk=>h k (by omega)
  have h3:=h m (by omega)
  rw [HG hd,HG hd]
  refine ⟨by omega,fun e k hk=>?_⟩
  by_cases hkm:k=m
  ·subst hkm;omega
  ·exact h2 (by omega) k (by omega)
theorem JD {T:Nat→τ} (hb:K1 K n A M T):JB K n A M (jk M T K):=fun k hk =>
 ⟨T k,(hb k hk).1,fun _ _ h=>ic.2 ⟨k,hk,h⟩⟩
theorem HH (hd:HF M) {T:Nat→τ} (hb:K1 K n A M T) {q:Nat→Bool} (hq:JB K n A M q) :
  aO (jk M T K) 0 n=aO q 0 n∨gv (aO (jk M T K) 0 n) (aO q 0 n):=by
 obtain ⟨T',hT⟩:∃ T':Nat→τ,∀ k,k < K→T' k ∈ A k∧∀ i,i < n→M k (T' k) i=true→q i=true:=by
  refine ⟨fun k=>if h:k < K then (hq k h).choose else T k,fun k hk=>?_⟩
  simp only [hk,dif_pos]
  exact (hq k hk).choose_spec
 have hle:∀ k,k < K→(aO (M k (T k)) 0 n).length≤(aO (M k (T' k)) 0 n).length:=by
  intro k hk
  have:=(hb k hk).2 _ (hT k hk).1
  unfold gv at this
  omega
 obtain ⟨c1,c2⟩:=Ky hd (n:=n) K hle
 obtain ⟨d1,d2⟩:=EU (p:=jk M T' K) (q:=q) n 0 (fun i _ hi h=>by
  obtain ⟨k,hk,h1⟩:=ic.1 h
  exact (hT k hk).2 i (by omega) h1)
 by_cases hlt:(aO (jk M T K) 0 n).length < (aO q 0 n).length
 ·exact .inr (.inl hlt)
 ·have e1:=c2 (by omega)
  have e2:=d2 (by omega)
  have e3:(aO q 0 n).length=(aO (jk M T K) 0 n).length:=by omega
  by_cases hbq:gv (aO q 0 n) (aO (jk M T K) 0 n)
  ·exfalso
   rcases hbq with h|⟨_,h⟩
   ·omega
   ·obtain ⟨i,_,h2,h3,h4,h5⟩:=(va n 0 e3).1 h
    have hin:i < n:=by omega
    rw [←e2 i (Nat.zero_le _) (by omega)] at h3
    obtain ⟨k,hk,h6⟩:=ic.1 h3
    have h7:M k (T k) i=false:=by
     cases hm:M k (T k) i with
     | false=>rfl
     | true=>rw [ic.2 ⟨k,hk,hm⟩] at h4;cases h4
    refine (hb k hk).2 _ (hT k hk).1 (.inr ⟨(e1 k hk).symm,(va n 0 (e1 k hk).symm).2 ⟨i,Nat.zero_le _,by omega,h6,h7,fun j _ hji=>?_⟩⟩)
    have h8:=h5 j (Nat.zero_le _) hji
    have h9:=e2 j (Nat.zero_le _) (by omega)
    rw [Bool.eq_iff_iff]
    constructor
    ·intro hm
     have:jk M T' K j=true:=ic.2 ⟨k,hk,hm⟩
     rw [h9,h8] at this
     obtain ⟨k',hk',hm'⟩:=ic.1 this
     rw [hd _ _ _ _ _ hm hm']
     exact hm'
    ·intro hm
     have:jk M T K j=true:=ic.2 ⟨k,hk,hm⟩
     rw [←h8,←h9] at this
     obtain ⟨k',hk',hm'⟩:=ic.1 this
     rw [hd _ _ _ _ _ hm hm']
     exact hm'
  ·by_cases hbu:gv (aO (jk M T K) 0 n) (aO q 0 n)
   ·exact .inr hbu
   ·exact .inl (u9 hbu hbq)
end
def cP (p:Nat→Bool):Nat→Nat
 | 0=>0
 | m+1=>cP p m+if p m=true then 2 ^ m else 0
theorem kL (p:Nat→Bool):∀ m,cP p m < 2 ^ m
 | 0=>by unfold cP;exact Nat.one_pos
 | m+1=>by
  have:=kL p m
  unfold cP
  rw [Nat.pow_succ]
  split <;> omega
theorem yL (p:Nat→Bool):∀ (m i:Nat),(cP p m).testBit i=(decide (i < m) && p i)
 | 0,i=>by unfold cP;simp
 | m+1,i=>by
  have ih:=yL p m i
  have hl:=kL p m
  unfold cP
  cases hp:p m with
  | false =>
   simp only [Bool.false_eq_true,if_false,Nat.add_zero]
   rw [ih]
   by_cases him:i=m
   ·subst him;simp [hp]
   ·rw [show decide (i < m+1)=decide (i < m) from decide_eq_decide.2 (by omega)]
  | true =>
   simp only [if_true]
   have h2:=Nat.two_pow_add_eq_or_of_lt hl 1
   rw [Nat.mul_one] at h2
   rw [Nat.add_comm,h2,Nat.testBit_or,ih,Nat.testBit_two_pow]
   by_cases him:i=m
   ·subst him;simp [hp]
   ·rw [show decide (i < m+1)=decide (i < m) from decide_eq_decide.2 (by omega),show decide (m=i)=false from decide_eq_false (by omega),Bool.false_or]
theorem wK {p:Nat→Bool} {c:Nat} (h:p c=true):aO p 0 (c+1)=aO p 0 c++[(c:Int)]:=by
 unfold aO
 rw [List.range'_concat,List.filter_append,List.map_append]
 simp [h]
theorem wL {p:Nat→Bool} {c:Nat} (h:p c=false):aO p 0 (c+1)=aO p 0 c:=by
 unfold aO
 rw [List.range'_concat,List.filter_append,List.map_append]
 simp [h]
end Go.Proofs.YtichbhmnhkegiaaGreat
open Go Go.RM
namespace Go.Proofs.YtichbhmnhkegiaaGreat
set_option maxRecDepth 100000
structure Span where
 lo:Int
 hi:Int
structure Pt where
 x:Int
 y:Int
structure eT where
 name:ByteArray
 cand:Span
 fE:Int
structure au where
 ak:List eT
 aN:Span
 clear:Span
structure aA where
 pos:Pt
 bK:Int
 dc:Int
 bX:Int
structure av where
 pos:Pt
 aB:Bool
 yes:Bool
abbrev aG (s:Span):List AV:=[ai s.lo,ai s.hi]
abbrev oG (p:Pt):List AV:=[ai p.x,ai p.y]
abbrev aL (k:eT):List AV:=[ST k.name,ai k.cand.lo,ai k.cand.hi,ai k.fE]
abbrev aj (r:av):List AV:=[ai r.pos.x,ai r.pos.y,BB r.aB,BB r.yes]
abbrev aC (n:aA):List AV:=[ai n.pos.x,ai n.pos.y,ai n.bK,ai n.dc,ai n.bX]
abbrev ay (s:au):List AV:=[.sl (s.ak.map aL) false,ai s.aN.lo,ai s.aN.hi,ai s.clear.lo,ai s.clear.hi]
theorem mH (one:Bool) (g:FuncId) (fs cs:List AV) (hF:(AV.fn g fs cs).deep=true) (p:Int→Bool) (l:List Int) (full:Bool) (hl:l.length≤maxLen) (hp:∀ x ∈ l,af TT TB one (.fn g fs cs) [ai x] (BB (p x))) :
  Pu one 109 [.sl (l.map eI) full,.fn g fs cs] (BB (l.any p)):=by
 refine af.body (fn:=Tryz.f109) rfl rfl rfl rfl ?_
 refine aa (mu:=fun _=>false) ?_
 skip
 refine af.call (x7 one g fs cs hF p l full hl hp) rfl (by simp only [bP,AV.deep,Bool.and_true,Bool.true_and];exact hF) ?_
 skip
 refine ⟨[_],⟨Fz.deep rfl,trivial⟩,?_⟩
 rw [←sD];rfl
theorem wM (one:Bool) (g:FuncId) (fs cs:List AV) (hF:(AV.fn g fs cs).deep=true) (p:eT→Bool) (l:List eT) (full:Bool) (hl:l.length≤maxLen) (hp:∀ x ∈ l,af TT TB one (.fn g fs cs) [.ag (aL x)] (BB (p x))) :
  Pu one 115 [.sl (l.map aL) full,.fn g fs cs] (ai (lY p l)):=by
 unfold maxLen at hl
 refine af.body (fn:=Tryz.f115) rfl rfl rfl rfl ?_
 refine aa (mu:=fun _=>false) ?_
 skip
 refine ax.aK (ah.to (l:=[(0,.sl (l.map aL) full),(1,.fn g fs cs),(7,ai l.length),(8,ai ((0:Nat):Int))]) 0 rfl ⟨rfl,rfl,aR (by simp),rfl,trivial⟩ (Nat.le_refl _) (by simp [gm,tP,ia 0 _ hF]) rfl) ?_
 refine ax.loop (fun k:Nat=>k≤l.length∧∀ i (h:i < l.length),i < k→p l[i]=false) (fun k=>⟨aF [(0,.sl (l.map aL) full),(1,.fn g fs cs),(7,ai l.length),(8,ai (k:Int))],[],aV.none,false,0⟩) (fun k=>l.length - k) ?_ 0 ⟨Nat.zero_le _,fun i _ hi=>absurd hi (by omega)⟩
 intro k ⟨hk,hprev⟩
 refine aa (mu:=fun _=>false) ?_
 refine ⟨fun h=>?_,fun h=>?_⟩
 ·have hlt:k < l.length:=by simpa using h
  skip
  refine ⟨aL l[k],⟨by omega,by simp [hlt]⟩,rfl,?_⟩
  repeat' (first |refine u2 ?_ |fail)
  refine af.call (hp l[k] (List.getElem_mem _)) hF rfl ?_
  refine ⟨fun h2=>?_,fun h2=>?_⟩
  ·skip
   refine ⟨[_],⟨Fz.deep rfl,trivial⟩,?_⟩
   rw [mE hlt hprev h2];rfl
  ·repeat' (first |refine u2 ?_ |fail)
   refine ⟨k+1,⟨hlt,fun i hi hik=>?_⟩,(by dsimp only;omega),ah.to 0 rfl ⟨rfl,rfl,rfl,aR (by simp),trivial⟩ (Nat.le_refl _) (by simp [gm,tP,ia 0 _ hF]) rfl⟩
   by_cases hik':i=k
   ·subst hik';exact h2
   ·exact hprev i hi (by omega)
 ·skip
  refine ⟨[_],⟨Fz.deep rfl,trivial⟩,?_⟩
  have:k=l.length:=by simp at h;omega
  rw [mF fun i hi=>hprev i hi (by omega)];rfl
theorem tS (one:Bool) (g:FuncId) (fs cs:List AV) (hF:(AV.fn g fs cs).deep=true) (p:eT→Bool) (l:List eT) (full:Bool) (hl:l.length≤maxLen) (hp:∀ x ∈ l,af TT TB one (.fn g fs cs) [.ag (aL x)] (BB (p x))) :
  Pu one 72 [.sl (l.map aL) full,.fn g fs cs] (BB (l.any p)):=by
 refine af.body (fn:=Tryz.f72) rfl rfl rfl rfl ?_
 refine aa (mu:=fun _=>false) ?_
 skip
 refine af.call (wM one g fs cs hF p l full hl hp) rfl (by simp only [bP,AV.deep,Bool.and_true,Bool.true_and];exact hF) ?_
 skip
 refine ⟨[_],⟨Fz.deep rfl,trivial⟩,?_⟩
 rw [←sD];rfl
theorem wN (one:Bool) (g:FuncId) (fs cs:List AV) (hF:(AV.fn g fs cs).deep=true) (p:av→Bool) (l:List av) (full:Bool) (hl:l.length≤maxLen) (hp:∀ x ∈ l,af TT TB one (.fn g fs cs) [.ag (aj x)] (BB (p x))) :
  Pu one 76 [.sl (l.map aj) full,.fn g fs cs] (ai (lY p l)):=by
 unfold maxLen at hl
 refine af.body (fn:=Tryz.f76) rfl rfl rfl rfl ?_
 refine aa (mu:=fun _=>false) ?_
 skip
 refine ax.aK (ah.to (l:=[(0,.sl (l.map aj) full),(1,.fn g fs cs),(7,ai l.length),(8,ai ((0:Nat):Int))]) 0 rfl ⟨rfl,rfl,aR (by simp),rfl,trivial⟩ (Nat.le_refl _) (by simp [gm,tP,ia 0 _ hF]) rfl) ?_
 refine ax.loop (fun k:Nat=>k≤l.length∧∀ i (h:i < l.length),i < k→p l[i]=false) (fun k=>⟨aF [(0,.sl (l.map aj) full),(1,.fn g fs cs),(7,ai l.length),(8,ai (k:Int))],[],aV.none,false,0⟩) (fun k=>l.length - k) ?_ 0 ⟨Nat.zero_le _,fun i _ hi=>absurd hi (by omega)⟩
 intro k ⟨hk,hprev⟩
 refine aa (mu:=fun _=>false) ?_
 refine ⟨fun h=>?_,fun h=>?_⟩
 ·have hlt:k < l.length:=by simpa using h
  skip
  refine ⟨aj l[k],⟨by omega,by simp [hlt]⟩,rfl,?_⟩
  repeat' (first |refine u2 ?_ |fail)
  refine af.call (hp l[k] (List.getElem_mem _)) hF rfl ?_
  refine ⟨fun h2=>?_,fun h2=>?_⟩
  ·skip
   refine ⟨[_],⟨Fz.deep rfl,trivial⟩,?_⟩
   rw [mE hlt hprev h2];rfl
  ·repeat' (first |refine u2 ?_ |fail)
   refine ⟨k+1,⟨hlt,fun i hi hik=>?_⟩,(by dsimp only;omega),ah.to 0 rfl ⟨rfl,rfl,rfl,aR (by simp),trivial⟩ (Nat.le_refl _) (by simp [gm,tP,ia 0 _ hF]) rfl⟩
   by_cases hik':i=k
   ·subst hik';exact h2
   ·exact hprev i hi (by omega)
 ·skip
  refine ⟨[_],⟨Fz.deep rfl,trivial⟩,?_⟩
  have:k=l.length:=by simp at h;omega
  rw [mF fun i hi=>hprev i hi (by omega)];rfl
end Go.Proofs.YtichbhmnhkegiaaGreat
