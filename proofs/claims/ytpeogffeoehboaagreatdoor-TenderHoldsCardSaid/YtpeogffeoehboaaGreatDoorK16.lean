/-
  Contracts of the program's functions and of the document's. Lemmas alone; their conditions stand in them.
-/
import Derived.Test.YtpeogffeoehboaaGreatDoorK8
import Derived.Test.YtpeogffeoehboaaGreatDoorK10
import Derived.Test.YtpeogffeoehboaaGreatDoorK13
import Derived.Test.YtpeogffeoehboaaGreatDoorK15
open Go Go.RM
namespace Go.Proofs.YtpeogffeoehboaaGreatDoor
set_option maxRecDepth 100000
theorem JH (x y:Int):pT x y=- pT y x:=by
 unfold pT
 by_cases h1:x < y
 ·rw [if_pos h1,if_neg (by omega),if_pos h1]
 ·rw [if_neg h1]
  by_cases h2:y < x
  ·rw [if_pos h2,if_pos h2];rfl
  ·rw [if_neg h2,if_neg h2,if_neg h1];rfl
theorem v8:∀ a b:List Int,iY a b=- iY b a
 | [],[]=>rfl
 | [],_ :: _=>rfl
 | _ :: _,[]=>rfl
 | x :: a,y :: b=>by
  rw [fI,fI,v8 a b,JH x y]
  by_cases h:pT y x=0
  ·rw [if_neg (by omega),if_neg (by omega)]
  ·rw [if_pos (by omega),if_pos h]
theorem we {x y:Int} (h:pT x y=0):x=y:=by
 unfold pT at h
 by_cases h1:x < y
 ·rw [if_pos h1] at h;omega
 ·rw [if_neg h1] at h
  by_cases h2:y < x
  ·rw [if_pos h2] at h;omega
  ·omega
theorem Ep {x y:Int} (h:pT x y < 0):x < y:=by
 unfold pT at h
 by_cases h1:x < y
 ·exact h1
 ·rw [if_neg h1] at h
  by_cases h2:y < x
  ·rw [if_pos h2] at h;omega
  ·rw [if_neg h2] at h;omega
theorem JI {x y:Int} (h:x < y):pT x y=-1:=by unfold pT;rw [if_pos h]
theorem Ca:∀ {a b:List Int},iY a b=0→a=b
 | [],[],_=>rfl
 | [],_ :: _,h=>by cases h
 | _ :: _,[],h=>by cases h
 | x :: a,y :: b,h=>by
  rw [fI] at h
  by_cases e:pT x y=0
  ·rw [if_neg (by omega)] at h
   rw [we e,Ca h]
  ·rw [if_pos e] at h
   exact absurd h e
theorem yp:∀ {a b c:List Int},iY a b < 0→iY b c < 0→iY a c < 0
 | [],_ :: _,_ :: _,_,_=>by show (-1:Int) < 0;omega
 | [],[],_,h,_=>by have h:(0:Int) < 0:=h;omega
 | [],_ :: _,[],_,k=>by have k:(1:Int) < 0:=k;omega
 | _ :: _,[],_,h,_=>by have h:(1:Int) < 0:=h;omega
 | _ :: _,_ :: _,[],_,k=>by have k:(1:Int) < 0:=k;omega
 | x :: a,y :: b,z :: c,h,k=>by
  rw [fI] at h k ⊢
  by_cases e:pT x y=0
  ·rw [if_neg (by omega)] at h
   have e:=we e
   subst e
   by_cases e2:pT x z=0
   ·rw [if_neg (by omega)] at k ⊢
    exact yp h k
   ·rw [if_pos e2] at k ⊢
    exact k
  ·rw [if_pos e] at h
   have h:=Ep h
   by_cases e2:pT y z=0
   ·have e2:=we e2
    subst e2
    rw [JI h,if_pos (by omega)]
    omega
   ·rw [if_pos e2] at k
    have k:=Ep k
    rw [JI (by omega:x < z),if_pos (by omega)]
    omega
theorem Cb {a b c:List Int} (h:ahead a b) (k:ahead b c):ahead a c:=by
 rcases h with h|⟨h,h'⟩ <;> rcases k with k|⟨k,k'⟩
 ·exact .inl (by omega)
 ·exact .inl (by omega)
 ·exact .inl (by omega)
 ·exact .inr ⟨by omega,yp h' k'⟩
theorem Fm {a b:List Int} (h:ahead a b) (k:ahead b a):False:=by
 rcases h with h|⟨h,h'⟩ <;> rcases k with k|⟨k,k'⟩
 ·omega
 ·omega
 ·omega
 ·have:=v8 a b
  omega
abbrev FA:=List Int × Int × Int
def yq (a b:FA):Prop:=a.2.1 < b.2.1∨(a.2.1=b.2.1∧(a.2.2 < b.2.2∨(a.2.2=b.2.2∧(a.1=b.1∨ahead a.1 b.1))))
theorem iQ (a:FA):yq a a:=.inr ⟨rfl,.inr ⟨rfl,.inl rfl⟩⟩
theorem oF {a b c:FA} (h:yq a b) (k:yq b c):yq a c:=by
 rcases h with h|⟨h,h2|⟨h2,h3⟩⟩
 ·rcases k with k|⟨k,_⟩
  ·exact .inl (by omega)
  ·exact .inl (by omega)
 ·rcases k with k|⟨k,k2|⟨k2,_⟩⟩
  ·exact .inl (by omega)
  ·exact .inr ⟨by omega,.inl (by omega)⟩
  ·exact .inr ⟨by omega,.inl (by omega)⟩
 ·rcases k with k|⟨k,k2|⟨k2,k3⟩⟩
  ·exact .inl (by omega)
  ·exact .inr ⟨by omega,.inl (by omega)⟩
  ·refine .inr ⟨by omega,.inr ⟨by omega,?_⟩⟩
   rcases h3 with h3|h3
   ·rw [h3];exact k3
   ·rcases k3 with k3|k3
    ·rw [←k3];exact .inr h3
    ·exact .inr (Cb h3 k3)
theorem JJ {a b:FA} (h:yq a b) (k:yq b a):a=b:=by
 obtain ⟨a1,a2,a3⟩:=a
 obtain ⟨b1,b2,b3⟩:=b
 unfold yq at h k
 dsimp only at h k
 have e2:a2=b2:=by
  rcases h with h|⟨h,_⟩
  ·rcases k with k|⟨k,_⟩ <;> omega
  ·exact h
 subst e2
 have h:=h.resolve_left (by omega)
 have k:=k.resolve_left (by omega)
 have e3:a3=b3:=by
  rcases h.2 with h|⟨h,_⟩
  ·rcases k.2 with k|⟨k,_⟩ <;> omega
  ·exact h
 subst e3
 have h:=(h.2.resolve_left (by omega)).2
 have k:=(k.2.resolve_left (by omega)).2
 rcases h with h|h
 ·rw [h]
 ·rcases k with k|k
  ·rw [k]
  ·exact (Fm h k).elim
def wg (v:FA):Option FA→Option FA
 | none=>some v
 | some x=>if v.2.1 < x.2.1∨(v.2.1=x.2.1∧v.2.2 < x.2.2) then some v else some x
def kM (s:au) (p:List Order) (o:Option FA) (F:List Int):Option FA:=match gj s p (aO F) with
 | none=>o
 | some (d,n)=>wg (F,((d:Nat):Int),n) o
def nO (s:au) (p:List Order) (L:List (List Int)):Option FA:=L.foldl (kM s p) none
theorem nP {s:au} {p:List Order}:∀ (L:List (List Int)) (o:Option FA),L.Pairwise ahead→(∀ x,o=some x→∀ F ∈ L,ahead x.1 F)→(L.foldl (kM s p) o=none→o=none∧∀ F ∈ L,gj s p (aO F)=none) ∧
  ∀ R,L.foldl (kM s p) o=some R→(o=some R∨∃ F ∈ L,∃ d n,gj s p (aO F)=some (d,n)∧R=(F,((d:Nat):Int),n))∧(∀ x,o=some x→yq R x)∧∀ F ∈ L,∀ d n,gj s p (aO F)=some (d,n)→yq R (F,((d:Nat):Int),n)
 | [],o,_,_=>⟨fun h=>⟨h,fun y hy=>by cases hy⟩,fun b h=>⟨.inl h,fun x hx=>by have h:o=some b:=h;rw [h] at hx;cases hx;exact iQ _,fun y hy=>by cases hy⟩⟩
 | F :: L,o,hs,ho=>by
  rw [List.pairwise_cons] at hs
  rw [List.foldl_cons]
  cases hb:gj s p (aO F) with
  | none =>
   have e:kM s p o F=o:=by unfold kM;rw [hb]
   rw [e]
   obtain ⟨h1,h2⟩:=nP (s:=s) (p:=p) L o hs.2 fun x hx G hG=>ho x hx G (List.mem_cons_of_mem _ hG)
   refine ⟨fun h=>⟨(h1 h).1,fun G hG=>?_⟩,fun R hR=>?_⟩
   ·rcases List.mem_cons.1 hG with rfl|hG
    ·exact hb
    ·exact (h1 h).2 G hG
   ·obtain ⟨q1,q2,q3⟩:=h2 R hR
    refine ⟨?_,q2,fun G hG d n hd=>?_⟩
    ·rcases q1 with q1|⟨G,hG,q1⟩
     ·exact .inl q1
     ·exact .inr ⟨G,List.mem_cons_of_mem _ hG,q1⟩
    ·rcases List.mem_cons.1 hG with rfl|hG
     ·rw [hb] at hd;cases hd
     ·exact q3 G hG d n hd
  | some v =>
   obtain ⟨d,n⟩:=v
   have e:kM s p o F=wg (F,((d:Nat):Int),n) o:=by unfold kM;rw [hb]
   have key:∃ z,kM s p o F=some z∧(z=(F,((d:Nat):Int),n)∨o=some z)∧yq z (F,((d:Nat):Int),n)∧∀ x,o=some x→yq z x:=by
    rw [e]
    cases o with
    | none=>exact ⟨_,rfl,.inl rfl,iQ _,fun x hx=>by cases hx⟩
    | some x =>
     unfold wg
     dsimp only
     by_cases hc:(d:Int) < x.2.1∨((d:Int)=x.2.1∧n < x.2.2)
     ·rw [if_pos hc]
      refine ⟨_,rfl,.inl rfl,iQ _,fun x' hx=>?_⟩
      cases hx
      rcases hc with hc|⟨hc,hc2⟩
      ·exact .inl hc
      ·exact .inr ⟨hc,.inl hc2⟩
     ·rw [if_neg hc]
      refine ⟨_,rfl,.inr rfl,?_,fun x' hx=>by cases hx;exact iQ _⟩
      have hah:=ho x rfl F List.mem_cons_self
      unfold yq
      dsimp only
      rcases Int.lt_trichotomy x.2.1 (d:Int) with h|h|h
      ·exact .inl h
      ·refine .inr ⟨h,?_⟩
       rcases Int.lt_trichotomy x.2.2 n with h2|h2|h2
       ·exact .inl h2
       ·exact .inr ⟨h2,.inr hah⟩
       ·exact absurd (.inr ⟨h.symm,h2⟩) hc
      ·exact absurd (.inl h) hc
   obtain ⟨z,hz,hz1,hz2,hz3⟩:=key
   rw [hz]
   obtain ⟨h1,h2⟩:=nP (s:=s) (p:=p) L (some z) hs.2 fun x hx G hG=>by
    cases hx
    rcases hz1 with rfl|hz1
    ·exact hs.1 G hG
    ·exact ho z hz1 G (List.mem_cons_of_mem _ hG)
   refine ⟨(fun h=>by have:=(h1 h).1;cases this),fun R hR=>?_⟩
   obtain ⟨q1,q2,q3⟩:=h2 R hR
   have hRz:=q2 z rfl
   refine ⟨?_,fun x hx=>oF hRz (hz3 x hx),fun G hG d' n' hd=>?_⟩
   ·rcases q1 with q1|⟨G,hG,q1⟩
    ·cases q1
     rcases hz1 with rfl|hz1
     ·exact .inr ⟨F,List.mem_cons_self,d,n,hb,rfl⟩
     ·exact .inl hz1
    ·exact .inr ⟨G,List.mem_cons_of_mem _ hG,q1⟩
   ·rcases List.mem_cons.1 hG with rfl|hG
    ·rw [hb] at hd
     cases hd
     exact oF hRz hz2
    ·exact q3 G hG d' n' hd
theorem KZ:((List.range 256).all fun f=>jZ f == (bp f).length)=true:=by kernel_rfl
theorem tK {f:Nat} (h:f < 256):jZ f=(bp f).length:=by simpa using List.all_eq_true.1 KZ f (List.mem_range.2 h)
def fB.Cg (b:fB):FA:=(bp b.f,b.day,b.need)
theorem JK {b x:fB} (hb:b.f < 256) (hx:x.f < 256) (h:eu b x=true):yq b.Cg x.Cg:=by
 unfold eu at h
 rw [tK hb,tK hx] at h
 unfold yq fB.Cg
 dsimp only
 split at h
 ·have:=of_decide_eq_true h;exact .inl (by omega)
 ·refine .inr ⟨by omega,?_⟩
  split at h
  ·have:=of_decide_eq_true h;exact .inl (by omega)
  ·refine .inr ⟨by omega,?_⟩
   right
   split at h
   ·have:=of_decide_eq_true h;exact .inl (by omega)
   ·have:=of_decide_eq_true h
    exact .inr ⟨by omega,this⟩
theorem Fo {b x:fB} (hb:b.f < 256) (hx:x.f < 256) (h:eu b x=false):yq x.Cg b.Cg:=by
 unfold eu at h
 rw [tK hb,tK hx] at h
 unfold yq fB.Cg
 dsimp only
 split at h
 ·have:=of_decide_eq_false h;exact .inl (by omega)
 ·refine .inr ⟨by omega,?_⟩
  split at h
  ·have:=of_decide_eq_false h;exact .inl (by omega)
  ·refine .inr ⟨by omega,?_⟩
   split at h
   ·have:=of_decide_eq_false h;exact .inr (.inl (by omega))
   ·have:=of_decide_eq_false h
    have hf:=v8 (bp x.f) (bp b.f)
    by_cases e:iY (bp x.f) (bp b.f)=0
    ·exact .inl (Ca e)
    ·exact .inr (.inr ⟨by omega,by omega⟩)
def JL (v:fB) (o:Option fB):Option fB:=match o with
 | none=>some v
 | some x=>if eu v x=true then some v else some x
theorem wh {s:au} {p:List Order}:∀ (L:List Nat) (o:Option fB),(∀ y ∈ L,y < 256)→(∀ x,o=some x→x.f < 256)→(L.foldl (cu s p) o=none→o=none∧∀ y ∈ L,gj s p y=none) ∧
  ∀ b,L.foldl (cu s p) o=some b→(o=some b∨∃ y ∈ L,iM s p y=some b)∧(∀ x,o=some x→yq b.Cg x.Cg)∧∀ y ∈ L,∀ c,iM s p y=some c→yq b.Cg c.Cg
 | [],o,_,_=>⟨fun h=>⟨h,fun y hy=>by cases hy⟩,fun b h=>⟨.inl h,fun x hx=>by have h:o=some b:=h;rw [h] at hx;cases hx;exact iQ _,fun y hy=>by cases hy⟩⟩
 | y :: L,o,hL,ho=>by
  rw [List.foldl_cons]
  have hL2:∀ z ∈ L,z < 256:=fun z hz=>hL z (List.mem_cons_of_mem _ hz)
  cases hb:iM s p y with
  | none =>
   have e:cu s p o y=o:=by unfold cu;rw [hb]
   have hbv:gj s p y=none:=by
    unfold iM at hb
    rw [Option.map_eq_none_iff] at hb
    exact hb
   rw [e]
   obtain ⟨h1,h2⟩:=wh (s:=s) (p:=p) L o hL2 ho
   refine ⟨fun h=>⟨(h1 h).1,fun G hG=>?_⟩,fun R hR=>?_⟩
   ·rcases List.mem_cons.1 hG with rfl|hG
    ·exact hbv
    ·exact (h1 h).2 G hG
   ·obtain ⟨q1,q2,q3⟩:=h2 R hR
    refine ⟨?_,q2,fun G hG c hc=>?_⟩
    ·rcases q1 with q1|⟨G,hG,q1⟩
     ·exact .inl q1
     ·exact .inr ⟨G,List.mem_cons_of_mem _ hG,q1⟩
    ·rcases List.mem_cons.1 hG with rfl|hG
     ·rw [hb] at hc;cases hc
     ·exact q3 G hG c hc
  | some v =>
   have hvf:v.f < 256:=by
    unfold iM at hb
    rw [Option.map_eq_some_iff] at hb
    obtain ⟨w,_,rfl⟩:=hb
    exact hL y List.mem_cons_self
   have e:cu s p o y=JL v o:=by unfold cu JL;rw [hb];cases o <;> rfl
   have key:∃ z,cu s p o y=some z∧(z=v∨o=some z)∧z.f < 256∧yq z.Cg v.Cg∧∀ x,o=some x→yq z.Cg x.Cg:=by
    rw [e]
    cases o with
    | none=>exact ⟨_,rfl,.inl rfl,hvf,iQ _,fun x hx=>by cases hx⟩
    | some x =>
     unfold JL
     dsimp only
     have hxf:=ho x rfl
     cases hc:eu v x with
     | true =>
      rw [if_pos rfl]
      exact ⟨_,rfl,.inl rfl,hvf,iQ _,fun x' hx=>by cases hx;exact JK hvf hxf hc⟩
     | false =>
      rw [if_neg (by simp)]
      exact ⟨_,rfl,.inr rfl,hxf,Fo hvf hxf hc,fun x' hx=>by cases hx;exact iQ _⟩
   obtain ⟨z,hz,hz1,hzf,hz2,hz3⟩:=key
   rw [hz]
   obtain ⟨h1,h2⟩:=wh (s:=s) (p:=p) L (some z) hL2 fun x hx=>by cases hx;exact hzf
   refine ⟨(fun h=>by have:=(h1 h).1;cases this),fun R hR=>?_⟩
   obtain ⟨q1,q2,q3⟩:=h2 R hR
   have hRz:=q2 z rfl
   refine ⟨?_,fun x hx=>oF hRz (hz3 x hx),fun G hG c hc=>?_⟩
   ·rcases q1 with q1|⟨G,hG,q1⟩
    ·cases q1
     rcases hz1 with rfl|hz1
     ·exact .inr ⟨y,List.mem_cons_self,hb⟩
     ·exact .inl hz1
    ·exact .inr ⟨G,List.mem_cons_of_mem _ hG,q1⟩
   ·rcases List.mem_cons.1 hG with rfl|hG
    ·rw [hb] at hc
     cases hc
     exact oF hRz hz2
    ·exact q3 G hG c hc
theorem wj {s:au} (hg:Good s) {k:Nat}:∀ y,y ∈ pN s k 0 0 ((min s.fail.toNat k:Nat):Int) ↔ y ∈ pN s k 0 0 s.fail:=by
 intro y
 have hf:=hg.fail
 have e:s.fail=((s.fail.toNat:Nat):Int):=by omega
 rw [e,lN hg (Nat.zero_le _) (by decide),lN hg (Nat.zero_le _) (by decide)]
 have hl:(bK y k).length≤k:=by
  unfold bK
  rw [List.length_map]
  exact Nat.le_trans (List.length_filter_le _ _) (by simp)
 have h0:(bK 0 0).length=0:=rfl
 rw [h0,Int.toNat_natCast]
 constructor
 ·rintro ⟨h1,h2,h3,h4⟩;exact ⟨h1,h2,by omega,h4⟩
 ·rintro ⟨h1,h2,h3,h4⟩;exact ⟨h1,h2,by omega,h4⟩
abbrev pQ (s:au) (p:List Order):List (List Int):=pP s p.length 0 0 (min s.fail.toNat p.length)
theorem nQ {s:au} (hg:Good s) {p:List Order} (h8:p.length≤8) {F:List Int}:F ∈ pQ s p ↔ ∃ y ∈ jY s p,F=bp y:=by
 unfold pQ jY
 rw [vY hg h8 (Nat.zero_le _) (by decide)]
 constructor
 ·rintro ⟨y,hy,e⟩;exact ⟨y,(wj hg y).1 hy,e⟩
 ·rintro ⟨y,hy,e⟩;exact ⟨y,(wj hg y).2 hy,e⟩
theorem tL {s:au} (hg:Good s) {p:List Order} (h8:p.length≤8) {y:Nat} (hy:y ∈ jY s p):y < 256:=by
 have:=(lN hg (Nat.zero_le _) (by decide)).1 ((wj hg y).2 hy)
 exact Nat.lt_of_lt_of_le this.1 (Nat.pow_le_pow_right (by decide) h8)
theorem JM {s:au} (hg:Good s) {p:List Order} (h8:p.length≤8):nO s p (pQ s p)=(lM s p (jY s p)).map fB.Cg:=by
 obtain ⟨a1,a2⟩:=nP (s:=s) (p:=p) (pQ s p) none (B7 (Nat.zero_le _)) fun x hx=>by cases hx
 obtain ⟨b1,b2⟩:=wh (s:=s) (p:=p) (jY s p) none (fun y hy=>tL hg h8 hy) fun x hx=>by cases hx
 have bits:∀ {y:Nat},y ∈ jY s p→aO (bp y)=y:=fun hy=>ig (tL hg h8 hy)
 unfold nO lM
 cases hd:(pQ s p).foldl (kM s p) none with
 | none =>
  have hn:=(a1 hd).2
  cases hb:(jY s p).foldl (cu s p) none with
  | none=>rfl
  | some b =>
   exfalso
   obtain ⟨q1,_⟩:=b2 b hb
   rcases q1 with q1|⟨y,hy,q1⟩
   ·cases q1
   ·have:=hn (bp y) ((nQ hg h8).2 ⟨y,hy,rfl⟩)
    rw [bits hy] at this
    unfold iM at q1
    rw [this] at q1
    cases q1
 | some R =>
  obtain ⟨q1,_,q3⟩:=a2 R hd
  rcases q1 with q1|⟨F,hF,d,n,hv,rfl⟩
  ·cases q1
  obtain ⟨y,hy,rfl⟩:=(nQ hg h8).1 hF
  rw [bits hy] at hv
  have hbo:iM s p y=some ⟨y,((d:Nat):Int),n⟩:=by unfold iM;rw [hv];rfl
  cases hb:(jY s p).foldl (cu s p) none with
  | none =>
   have:=(b1 hb).2 y hy
   rw [this] at hv
   cases hv
  | some b =>
   obtain ⟨r1,_,r3⟩:=b2 b hb
   rcases r1 with r1|⟨z,hz,r1⟩
   ·cases r1
   have k1:=r3 y hy _ hbo
   unfold iM at r1
   rw [Option.map_eq_some_iff] at r1
   obtain ⟨⟨d',n'⟩,w1,rfl⟩:=r1
   have k2:=q3 (bp z) ((nQ hg h8).2 ⟨z,hz,rfl⟩) d' n' (by rw [bits hz];exact w1)
   exact congrArg some (JJ k2 k1)
theorem z6:∀ (l:List Int) (w:Int),l.foldl min w≤w∧∀ x ∈ l,l.foldl min w≤x
 | [],w=>⟨Int.le_refl _,fun x hx=>by cases hx⟩
 | a :: l,w=>by
  obtain ⟨h1,h2⟩:=z6 l (min w a)
  rw [List.foldl_cons]
  refine ⟨by omega,fun x hx=>?_⟩
  rcases List.mem_cons.1 hx with rfl|hx
  ·omega
  ·exact h2 x hx
theorem z7:∀ (l:List Int) (w:Int),l.foldl min w=w∨l.foldl min w ∈ l
 | [],w=>.inl rfl
 | a :: l,w=>by
  rw [List.foldl_cons]
  rcases z7 l (min w a) with h|h
  ·rw [h]
   by_cases e:w≤a
   ·exact .inl (by omega)
   ·exact .inr (by rw [show min w a=a by omega];exact List.mem_cons_self)
  ·exact .inr (List.mem_cons_of_mem _ h)
theorem JN {l m:List Int} (h:∀ x,x ∈ l ↔ x ∈ m) (w:Int):l.foldl min w=m.foldl min w:=by
 obtain ⟨a1,a2⟩:=z6 l w
 obtain ⟨b1,b2⟩:=z6 m w
 refine Int.le_antisymm ?_ ?_
 ·rcases z7 m w with e|e
  ·rw [e];exact a1
  ·exact a2 _ ((h _).2 e)
 ·rcases z7 l w with e|e
  ·rw [e];exact b1
  ·exact b2 _ ((h _).1 e)
theorem Og {s:au} {p:List Order} {f n:Nat}:∀ (d:Nat) (w:Int),wD s p f n w d=((List.range d).map fun d=>gK s p f n d).foldl min w:=by
 intro d w
 unfold wD
 rw [List.foldl_map]
theorem JO {s:au} {p:List Order} {n:Nat} (L:List Nat):wL s p n L=(L.flatMap fun f=>(List.range s.days.toNat).map fun d=>gK s p f n d).foldl min (dP s n):=by
 unfold wL
 generalize dP s n=w
 induction L generalizing w with
 | nil=>rfl
 | cons f L ih=>rw [List.foldl_cons,List.flatMap_cons,List.foldl_append,ih,Og]
theorem Oh {s:au} {p:List Order} {n:Nat} {L M:List Nat} (h:∀ y,y ∈ L ↔ y ∈ M):wL s p n L=wL s p n M:=by
 rw [JO,JO]
 refine JN (fun x=>?_) _
 rw [List.mem_flatMap,List.mem_flatMap]
 constructor
 ·rintro ⟨y,hy,hx⟩;exact ⟨y,(h y).1 hy,hx⟩
 ·rintro ⟨y,hy,hx⟩;exact ⟨y,(h y).2 hy,hx⟩
theorem Fp {s:au} (hg:Good s) {p:List Order} (h8:p.length≤8):∀ y,y ∈ (pQ s p).map aO ↔ y ∈ jY s p:=by
 intro y
 rw [List.mem_map]
 constructor
 ·rintro ⟨F,hF,rfl⟩
  obtain ⟨z,hz,rfl⟩:=(nQ hg h8).1 hF
  rw [ig (tL hg h8 hz)]
  exact hz
 ·intro hy
  exact ⟨bp y,(nQ hg h8).2 ⟨y,hy,rfl⟩,ig (tL hg h8 hy)⟩
theorem K0 {s:au} (hg:Good s) {p:List Order} (h8:p.length≤8):mC s p ((pQ s p).map aO)=mC s p (jY s p):=by
 unfold mC
 refine List.map_congr_left fun n _=>?_
 exact Oh (Fp hg h8)
theorem Fs {s:au} (hg:Good s) {p:List Order} (h8:p.length≤8) {known f most:Nat} (hk:known≤p.length) (hf:f < 2 ^ known):((pP s p.length known f most).all fun F=>(gj s p (aO F)).isNone)=fy s p known f (most:Int):=by
 unfold fy
 rw [Bool.eq_iff_iff,List.all_eq_true,List.all_eq_true]
 have lt:∀ {y:Nat},y ∈ pN s p.length known f (most:Int)→y < 256:=fun hy=>Nat.lt_of_lt_of_le ((lN hg hk hf).1 hy).1 (Nat.pow_le_pow_right (by decide) h8)
 constructor
 ·intro h y hy
  have:=h (bp y) ((vY hg h8 hk hf).2 ⟨y,hy,rfl⟩)
  rw [ig (lt hy)] at this
  exact this
 ·intro h F hF
  obtain ⟨y,hy,rfl⟩:=(vY hg h8 hk hf).1 hF
  rw [ig (lt hy)]
  exact h y hy
set_option maxHeartbeats 4000000
theorem z8 {s:au} {k known f most:Nat} (hk:known≤k) {F:List Int} (h:F ∈ pP s k known f most):(∀ x ∈ F,0≤x∧x < (k:Nat))∧F.length≤known+most:=by
 unfold pP B6 at h
 obtain ⟨many,hm,h⟩:=List.mem_flatMap.1 h
 obtain ⟨l,hl,rfl⟩:=List.mem_map.1 (List.mem_filter.1 h).1
 obtain ⟨_,h2,h3,_⟩:=gk (f:=f) hk hl
 have:=List.mem_range.1 hm
 have:=sA f known
 exact ⟨h2,by omega⟩
theorem wk {s:au} {k known f most:Nat} (h8:k≤8) (hk:known≤k) (hm:most≤8):(pP s k known f most).length≤150994944:=Eo (n:=most+1) h8 hk (by omega)
theorem qU (one:Bool) {s:au} (hg:Good s) {K:Nat} (h8:K≤8):Pu one 29 [.ag (ak s),aA (K:Nat)] (.sl ((pP s K 0 0 (min s.fail.toNat K)).map eL) false):=by
 have hf:=hg.fail
 have o1:Pu one 57 [.ag (ak s),aA (K:Nat),.sl [] false,aA ((min s.fail.toNat K:Nat):Int)] (.sl ((pP s K 0 0 (min s.fail.toNat K)).map eL) false):=sZ one hg h8 (most:=min s.fail.toNat K) (by omega) [] false (Nat.zero_le _)
 have e:((min s.fail.toNat K:Nat):Int)=min s.fail (K:Int):=by omega
 rw [e] at o1
 refine ah.body (fn:=Tryz.f29) rfl rfl rfl rfl ?_
 refine aa (mu:=fun _=>false) ?_
 repeat' (first |(refine RM.Cf rfl rfl rfl rfl ?_) |(refine ax.soft (fO.cons (bT.refl _) (fO.cons (bT.refl _) (fO.cons (bT.nil false) (fO.NF (bT.refl _))))) (ah.call o1 rfl rfl ?_)) |refine u1 ?_ |refine u2 ?_ |fail)
 exact ⟨[_],⟨Fz.deep rfl,trivial⟩,rfl⟩
theorem Cc (one:Bool) {s:au} {p:List Order} (hp:mO s p) (full:Bool) (came:List Bool) (cf:Bool) {most:Nat} (hm:most≤8) (hN:came.length≤p.length):Pu one 37 [.ag (ak s),.sl (p.map ay) full,.sl (came.map eB) cf,aA (most:Nat)] (BB (fy s p came.length (bE came) (most:Int))):=by
 have hg:=hp.good
 have h8:=hp.len
 have o1:=sZ one hg h8 hm came cf hN
 have ep:((p.map ay).length:Int)=p.length:=by simp
 have hset:=Fs hg h8 (most:=most) hN (vP came)
 have hin:=fun F (h:F ∈ pP s p.length came.length (bE came) most)=>z8 hN h
 have hLl:=wk (s:=s) (f:=bE came) h8 hN hm
 rw [←hset]
 rw [←ep] at o1
 clear hset
 generalize pP s p.length came.length (bE came) most=L at *
 refine ah.body (fn:=Tryz.f37) rfl rfl rfl rfl ?_
 refine RM.cv (mu:=fun _=>false) ?_
 repeat' (first |(refine RM.Cf rfl rfl rfl rfl ?_) |refine u1 ?_ |refine u2 ?_ |fail)
 refine RM.cv (mu:=fun _=>false) ?_
 repeat' (first |((with_reducible show ax _ _ _ _ _ _ _ _);refine ah.call o1 rfl rfl ?_) |refine u1 ?_ |refine u2 ?_ |fail)
 refine aB.seq ?_
 refine RM.cv (mu:=fun _=>false) ?_
 repeat' (first |refine u1 ?_ |refine u2 ?_ |fail)
 refine aB.block ?_
 refine aB.aJ (ai.to (l:=[(1,.sl (p.map ay) full),(4,.pt (ak s) 0),(9,.sl (L.map eL) false),(10,aA (0:Nat))]) (hp:=[]) 0 rfl ⟨rfl,rfl,rfl,rfl,trivial⟩ (Nat.zero_le _) rfl rfl) ?_
 refine aB.loop (fun i:Nat=>i≤L.length∧∀ (j:Nat) (h:j < L.length),j < i→(gj s p (aO L[j])).isNone=true) (fun i=>⟨aS [(1,.sl (p.map ay) full),(4,.pt (ak s) 0),(9,.sl (L.map eL) false),(10,aA (i:Nat))],[],bJ.none,false,0⟩) (fun i=>L.length - i) ?_ 0 ⟨Nat.zero_le _,fun j _ h=>absurd h (Nat.not_lt_zero _)⟩
 rintro i ⟨hi,hprev⟩
 have eLn:((L.map eL).length:Int)=L.length:=by simp
 by_cases hlt:i < L.length
 ·have d1:decide ((i:Int) < ((L.map eL).length:Int))=true:=decide_eq_true (by omega)
  have hbi:(i:Int) < ((L.map eL).length:Int):=by omega
  have hat:(L.map eL)[((i:Nat):Int).toNat]?=some (eL L[i]):=bl hlt
  obtain ⟨hF,hFl⟩:=hin _ (List.getElem_mem hlt)
  have ob:=B0 true hp full L[i] false (Nat.le_trans (show L[i].length≤24 by omega) (by decide)) hF
  unfold kK at ob
  cases hb:gj s p (aO L[i]) with
  | none =>
   rw [hb] at ob
   have ob:Pu true 30 [.ag (ak s),.sl (p.map ay) full,.sl (ints L[i]) false] (.tp [aA (-1),aA 0]):=ob
   have d2:decide ((0:Int)≤-1)=false:=by decide
   have hnx:∀ (j:Nat) (h:j < L.length),j < i+1→(gj s p (aO L[j])).isNone=true:=fun j h hj=>by
    by_cases e:j < i
    ·exact hprev j h e
    ·obtain rfl:j=i:=by omega
     rw [hb];rfl
   generalize L[i]=F at *
   refine RM.cv (mu:=fun _=>false) ?_
   repeat' (first |refine u1 ?_ |refine u2 ?_ |fail)
   refine RM.cv (mu:=fun _=>false) ?_
   repeat' (first |(refine ⟨_,ob,?_⟩) |refine u1 ?_ |((with_reducible show RM.wpOp _ _ (.indexAddr _ _ _) _ _ _);refine ⟨eL F,⟨by omega,hat⟩,rfl,?_⟩) |refine u2 ?_ |fail)
   refine aa (mu:=fun _=>false) ?_
   repeat' (first |refine u1 ?_ |refine u2 ?_ |fail)
   exact ⟨i+1,⟨hlt,hnx⟩,(by dsimp only;omega),ai.to 0 rfl ⟨rfl,rfl,rfl,aV (by simp),trivial⟩ (Nat.zero_le _) rfl rfl⟩
  | some v =>
   obtain ⟨d,n⟩:=v
   rw [hb] at ob
   have ob:Pu true 30 [.ag (ak s),.sl (p.map ay) full,.sl (ints L[i]) false] (.tp [aA (d:Nat),aA n]):=ob
   have d2:decide ((0:Int)≤(d:Int))=true:=decide_eq_true (by omega)
   have hres:(L.all fun F=>(gj s p (aO F)).isNone)=false:=by
    rw [List.all_eq_false]
    exact ⟨L[i],List.getElem_mem hlt,by rw [hb];simp⟩
   rw [hres]
   generalize L[i]=F at *
   refine RM.cv (mu:=fun _=>false) ?_
   repeat' (first |refine u1 ?_ |refine u2 ?_ |fail)
   refine aa (mu:=fun _=>false) ?_
   repeat' (first |(refine ⟨_,ob,?_⟩) |refine u1 ?_ |((with_reducible show RM.wpOp _ _ (.indexAddr _ _ _) _ _ _);refine ⟨eL F,⟨by omega,hat⟩,rfl,?_⟩) |refine u2 ?_ |fail)
   exact ⟨[_],⟨Fz.deep rfl,trivial⟩,rfl⟩
 ·have d1:decide ((i:Int) < ((L.map eL).length:Int))=false:=decide_eq_false (by omega)
  have hres:(L.all fun F=>(gj s p (aO F)).isNone)=true:=by
   rw [List.all_eq_true]
   intro F hF
   obtain ⟨j,hj,rfl⟩:=List.mem_iff_getElem.1 hF
   exact hprev j hj (by omega)
  rw [hres]
  refine aa (mu:=fun _=>false) ?_
  repeat' (first |refine u1 ?_ |refine u2 ?_ |fail)
  refine aa (mu:=fun _=>false) ?_
  repeat' (first |refine u1 ?_ |refine u2 ?_ |fail)
  exact ⟨[_],⟨Fz.deep rfl,trivial⟩,rfl⟩
end Go.Proofs.YtpeogffeoehboaaGreatDoor
