/-
  A layer of contracts over the abstract machine. Lemmas alone; no condition.
-/
import Derived.Test.YtpeogffeoehboaaDoorA3
namespace Go.RM
open Go
section
variable {T : bz} {tab : List XE} {one : Bool} {base : Nat} {E : Env} {hp : List AB} {aE : bR} {H : Hp} {ρ : Nat → Nat → Option Nat} {g : aF} {O O' : Nat → Prop}
inductive MB (a b:Nat):AB→AB→Prop
 | same {z:AB}:z.gy a=true→z.gy b=true→MB a b z z
 | cells {cs cs':List AV} {es aB:Nat}:cs.length=cs'.length→(∀ (i:Nat) (v w:AV),cs[i]?=some v→cs'[i]?=some w→Mv a b v w)→MB a b (.cells cs es aB) (.cells cs' es aB)
theorem MB.empty {a b v:Nat} {z z':AB} (h:MB a b z z') (hz:∃ es,z=.cells [] es v):∃ es,z'=.cells [] es v:=by
 cases h with
 | same _ _=>exact hz
 | cells hl _ =>
  obtain ⟨es,he⟩:=hz
  cases he
  exact ⟨_,by rw [List.length_eq_zero_iff.1 hl.symm]⟩
theorem MB.aB {a b:Nat} {z z':AB} (h:MB a b z z'):z.ver?=z'.ver?:=by cases h <;> rfl
theorem ak.QC {st:bF} {l:List (Nat × AV)} (a b:Nat) {x y:AB} {hp:List AB} (hab:a ≠ b) (hja:st.hp[a]?=some y) (hjb:st.hp[b]?=some x) (hn:st.fl≤a) (hn2:st.fl≤b) (hs:vk a b st.fr l)
  (hl:hp.length=st.hp.length) (hA:∀ z,hp[a]?=some z→MB a b x z) (hB:hp[b]?=some .gone)
  (hO:∀ (i:Nat) (z z':AB),i ≠ a→i ≠ b→st.hp[i]?=some z→hp[i]?=some z'→MB a b z z') :
  ak st ⟨bu l,hp,st.aE,st.rd,st.fl⟩:=by
 have hla:a < st.hp.length:=(List.getElem?_eq_some_iff.1 hja).1
 have hlb:b < st.hp.length:=(List.getElem?_eq_some_iff.1 hjb).1
 refine ⟨rfl,fun E base s hs'=>?_⟩
 have hr:=hs'.h
 have hget:∀ (i:Nat) (z:AB) (aB:Nat),hp[i]?=some z→z.ver?=some aB→(i=a∧MB a b x z)∨(i ≠ a∧i ≠ b∧∃ z0,st.hp[i]?=some z0∧MB a b z0 z):=by
  intro i z aB hi hv
  by_cases hib:i=b
  ·subst hib
   rw [hB] at hi
   cases hi;cases hv
  ·by_cases hia:i=a
   ·subst hia
    exact .inl ⟨rfl,hA z hi⟩
   ·have hlt:i < st.hp.length:=by
     have:=(List.getElem?_eq_some_iff.1 hi).1
     omega
    exact .inr ⟨hia,hib,_,List.getElem?_eq_getElem hlt,hO i _ z hia hib (List.getElem?_eq_getElem hlt) hi⟩
 have hma:∀ {v:Nat},aX a b E.ρ a v=E.ρ b v:=fun {v}=>by unfold aX;rw [if_pos rfl]
 have hmo:∀ {i v:Nat},i ≠ a→i ≠ b→aX a b E.ρ i v=E.ρ i v:=fun {i v} h1 h2=>by unfold aX;rw [if_neg h1,if_neg h2]
 have hmi:∀ {i v k:Nat},aX a b E.ρ i v=some k→(i=a∧E.ρ b v=some k)∨(i ≠ a∧i ≠ b∧E.ρ i v=some k):=by
  intro i v k h
  unfold aX at h
  split at h
  ·rename_i h1;exact .inl ⟨h1,h⟩
  ·split at h
   ·cases h
   ·rename_i h1 h2;exact .inr ⟨h1,h2,h⟩
 have hown:∀ k,Own (aX a b E.ρ) hp k→Own E.ρ st.hp k:=by
  rintro k ⟨i,z,v,h1,h2,h3⟩
  rcases hget i z v h1 h2 with ⟨rfl,hm⟩|⟨n1,n2,z0,h4,hm⟩
  ·rw [hma] at h3;exact ⟨b,_,v,hjb,hm.aB.trans h2,h3⟩
  ·rw [hmo n1 n2] at h3;exact ⟨i,z0,v,h4,hm.aB.trans h2,h3⟩
 have hOs:∀ k,({E with ρ:=aX a b E.ρ}:Env).O hp k→E.O st.hp k:=fun k h=>h.imp (hown k) id
 have hmv:∀ {v w:AV} {u:Value},Mv a b v w→AR E.ρ s.hp.get (E.O st.hp) v u→AR (aX a b E.ρ) s.hp.get (({E with ρ:=aX a b E.ρ}:Env).O hp) w u:=by
  intro v w u hm h
  cases hm with
  | same n1 n2=>exact h.move hOs n1 n2
  | ptr =>
   obtain ⟨k,hk,rfl⟩:=h.cM
   exact .ptr (by rw [hma];exact hk)
  | bO =>
   rcases h.eY with ⟨k,hk,rfl⟩|⟨rfl,rfl,rfl⟩
   ·exact .bO (by rw [hma];exact hk)
   ·exact .pe
  | bP=>exact .bP
 have hbr:∀ (z:AB) (z':aZ),z.gy a=true→z.gy b=true→BR E.ρ s.hp.get (E.O st.hp) z z'→BR (aX a b E.ρ) s.hp.get (({E with ρ:=aX a b E.ρ}:Env).O hp) z z':=by
  intro z z' n1 n2 q3
  cases z with
  | cells cs2 es2 ver2 =>
   obtain ⟨cs',rfl,h⟩:=q3
   exact ⟨cs',rfl,h.1,fun i v u ha hu=>(h.2 i v u ha hu).move hOs (cI n1 i v ha) (cI n2 i v ha)⟩
  | cV p q=>exact q3
  | map aH clock =>
   obtain ⟨es,rfl,h1,h2⟩:=q3
   refine ⟨es,rfl,h1,fun i k v born e hx hy=>?_⟩
   simp only [AB.gy,List.all_eq_true,Bool.and_eq_true] at n1 n2
   have m1:=n1 _ (List.mem_of_getElem? hx)
   have m2:=n2 _ (List.mem_of_getElem? hx)
   exact ⟨(h2 i k v born e hx hy).1.move hOs m1.1 m2.1,(h2 i k v born e hx hy).2.1.move hOs m1.2 m2.2,(h2 i k v born e hx hy).2.2⟩
  | iter i2 since seen stepped =>
   obtain ⟨m,rfl,h⟩:=q3
   exact ⟨m,rfl,by show aX a b E.ρ i2 0=_;rw [hmo (fe n1) (fe n2)];exact h⟩
  | gone=>exact q3
 have hmb:∀ (z w:AB) (z':aZ),MB a b z w→BR E.ρ s.hp.get (E.O st.hp) z z'→BR (aX a b E.ρ) s.hp.get (({E with ρ:=aX a b E.ρ}:Env).O hp) w z':=by
  intro z w z' hm q3
  cases hm with
  | same n1 n2=>exact hbr z z' n1 n2 q3
  | cells hcl hcm =>
   obtain ⟨cs',rfl,h⟩:=q3
   refine ⟨cs',rfl,hcl ▸ h.1,fun i v u ha hu=>?_⟩
   have hlt:=(List.getElem?_eq_some_iff.1 ha).1
   exact hmv (hcm i _ v (List.getElem?_eq_getElem (by omega)) ha) (h.2 i _ u (List.getElem?_eq_getElem (by omega)) hu)
 refine ⟨{E with ρ:=aX a b E.ρ},⟨⟨hr.wf,fun i z v hi hv=>?_,fun i i' v v' k h1 h2=>?_,fun i v k hk=>?_,fun i z v w h1 h2 h3=>?_,fun i v hi=>?_,fun k hk=>hr.sup k (hown k hk),fun k hk=>hr.iH k (hown k hk),hr.dx,hr.ds,hr.sn,hr.xn,fun k hk=>hr.oK k (hk.imp (hown k) id),hr.bn,hr.aE⟩,hs'.rd,fun t=>hmv (zu hs t) (hs'.fr t)⟩,
  ⟨Nat.le_refl _,fun i v k hi hk=>?_,fun k hk=>.inl (hown k hk),fun _ h=>.inl h,fun _ h=>.inl h,fun _ h=>h,fun _ h=>.inl h,fun _ _ _ _=>rfl,Nat.min_le_left _ _⟩⟩
 ·rcases hget i z v hi hv with ⟨rfl,hm⟩|⟨n1,n2,z0,h4,hm⟩
  ·rcases hr.fQ b _ v hjb (hm.aB.trans hv) with ⟨k,b',q1,q2,q3⟩|⟨q1,q2⟩
   ·exact .inl ⟨k,b',by show aX _ b E.ρ _ v=_;rw [hma];exact q1,q2,hmb _ _ _ hm q3⟩
   ·exact .inr ⟨by show aX _ b E.ρ _ v=_;rw [hma];exact q1,hm.empty q2⟩
  ·rcases hr.fQ i z0 v h4 (hm.aB.trans hv) with ⟨k,b',q1,q2,q3⟩|⟨q1,q2⟩
   ·exact .inl ⟨k,b',by show aX a b E.ρ i v=_;rw [hmo n1 n2];exact q1,q2,hmb _ _ _ hm q3⟩
   ·exact .inr ⟨by show aX a b E.ρ i v=_;rw [hmo n1 n2];exact q1,hm.empty q2⟩
 ·rcases hmi h1 with ⟨e1,p1⟩|⟨n1,n2,p1⟩
  ·rcases hmi h2 with ⟨e2,p2⟩|⟨m1,m2,p2⟩
   ·rw [e1,e2]
   ·exact absurd (hr.inj b i' v v' k p1 p2).symm m2
  ·rcases hmi h2 with ⟨e2,p2⟩|⟨m1,m2,p2⟩
   ·exact absurd (hr.inj i b v v' k p1 p2) n2
   ·exact hr.inj i i' v v' k p1 p2
 ·rcases hmi hk with ⟨rfl,h⟩|⟨_,_,h⟩
  ·exact hr.rn b v k h
  ·exact hr.rn i v k h
 ·rcases hget i z v h1 h2 with ⟨rfl,hm⟩|⟨n1,n2,z0,h4,hm⟩
  ·show aX _ b E.ρ _ w=none
   rw [hma];exact hr.fresh b _ v w hjb (hm.aB.trans h2) h3
  ·show aX a b E.ρ i w=none
   rw [hmo n1 n2];exact hr.fresh i z0 v w h4 (hm.aB.trans h2) h3
 ·show aX a b E.ρ i v=none
  have hi:st.hp.length≤i:=by rw [←hl];exact hi
  rw [hmo (by omega) (by omega)]
  exact hr.new i v hi
 ·show aX a b E.ρ i v=some k
  rw [hmo (by omega) (by omega)];exact hk
end
end Go.RM
