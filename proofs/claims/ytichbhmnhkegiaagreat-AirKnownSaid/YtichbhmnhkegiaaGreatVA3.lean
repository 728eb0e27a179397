/-
  A layer of contracts over the abstract machine. Lemmas alone; no condition.
-/
import Derived.Test.YtichbhmnhkegiaaGreatVR3
import Derived.Test.YtichbhmnhkegiaaGreatVA1
import Derived.Test.YtichbhmnhkegiaaGreatVA2
import Derived.ProofKit
import Derived.Carry
namespace Go.RM
open Go
section
variable {T : bf} {tab : List XE} {one : Bool} {mu : Tmp → Bool} {base : Nat} {E : Env} {hp : List AB} {ay : bq} {H : Hp} {ρ : Nat → Nat → Option Nat} {g : ax} {O O' : Nat → Prop}
theorem dA {a b:Code} {st:bM} {K:Exit→bM→Prop} (h:m5 T tab one mu a st (xR (fun s=>av T tab one b s K) K)):av T tab one (.seq a b) st K:=.seq (aa h)
def bK (j:Nat) (ρ:Nat→Nat→Option Nat):Nat→Nat→Option Nat:=fun i v=>if i=j then none else ρ i v
mutual
def AV.lq (j:Nat):AV→Bool
 | .fl _=>true
 | .sl _ _=>true
 | .pt _ _=>true
 | .fn _ a b=>x8 j a && x8 j b
 | .ag a=>x8 j a
 | .tp a=>x8 j a
 | .oq _=>true
 | .bk=>true
 | .ptr i _ _=>!Nat.beq i j
 | .bF i _ _ _ _=>!Nat.beq i j
 | .om i=>!Nat.beq i j
def x8 (j:Nat):List AV→Bool
 | []=>true
 | a :: l=>a.lq j && x8 j l
end
theorem cJ {j:Nat}:∀ {l:List AV},x8 j l=true→∀ (i:Nat) (a:AV),l[i]?=some a→a.lq j=true
 | [],_,i,a,h=>by cases h
 | x :: l,h,i,a,ha=>by
  simp only [x8,Bool.and_eq_true] at h
  cases i with
  | zero=>cases ha;exact h.1
  | succ i=>exact cJ h.2 i a (by simpa using ha)
theorem fe {i j:Nat} (h:(!Nat.beq i j)=true):i ≠ j:=by
 intro e
 subst e
 rw [Nat.beq_refl] at h
 cases h
theorem AR.lq {j:Nat} (hO:∀ k,O' k→O k) {v:AV} {u:Value} (h:AR ρ g O v u):v.lq j=true→AR (bK j ρ) g O' v u:=by
 induction h with
 | d h=>intro _;exact .d (h.mono fun k b hk ho=>⟨hk,fun h=>ho (hO k h)⟩)
 | bk=>intro _;exact .bk
 | ptr h=>intro hd;simp only [AV.lq] at hd;exact .ptr (by rw [bK,if_neg (fe hd)];exact h)
 | bF h=>intro hd;simp only [AV.lq] at hd;exact .bF (by rw [bK,if_neg (fe hd)];exact h)
 | pR=>intro _;exact .pR
 | om h=>intro hd;simp only [AV.lq] at hd;exact .om (by rw [bK,if_neg (fe hd)];exact h)
 | fn ha hb h1 h2 ih1 ih2 =>
  intro hd
  simp only [AV.lq,Bool.and_eq_true] at hd
  exact .fn ha hb (fun i x u hx hu=>ih1 i x u hx hu (cJ hd.1 i x hx)) (fun i x u hx hu=>ih2 i x u hx hu (cJ hd.2 i x hx))
 | ag ha h1 ih=>intro hd;simp only [AV.lq] at hd;exact .ag ha (fun i x u hx hu=>ih i x u hx hu (cJ hd i x hx))
 | tp ha h1 ih=>intro hd;simp only [AV.lq] at hd;exact .tp ha (fun i x u hx hu=>ih i x u hx hu (cJ hd i x hx))
def AB.lq (j:Nat):AB→Bool
 | .cells cs _ _=>x8 j cs
 | .cW _ _=>true
 | .map ents _=>ents.all fun p=>p.1.lq j && p.2.1.lq j
 | .iter i _ _ _=>!Nat.beq i j
 | .gone=>true
inductive Gv (j ver:Nat) (cs:List AV):AV→AV→Prop
 | same {a:AV}:a.lq j=true→Gv j ver cs a a
 | ptr {o:Nat}:Gv j ver cs (.ptr j ver o) (.pt cs o)
 | row {o n c:Nat} {els:List (List AV)} {b:Bool} (es:Nat):o+n * es≤cs.length→els.length=n→(∀ el ∈ els,el.length=es)→els.flatten=(cs.drop o).take (n * es)→(b=true→c=n)→Gv j ver cs (.bF j ver o n c) (.sl els b)
 | bk {a:AV}:Gv j ver cs a .bk
def we (j ver:Nat) (cs:List AV) (fr:Nat→AV):List (Nat × AV)→Prop
 | []=>True
 | (i,v) :: l=>Gv j ver cs (fr i) v∧we j ver cs fr l
theorem z6 {j ver:Nat} {cs:List AV} {fr:Nat→AV}:∀ {l:List (Nat × AV)},we j ver cs fr l→∀ t,Gv j ver cs (fr t) (aP l t)
 | [],_,t=>.bk
 | (i,v) :: l,h,t=>by
  unfold aP
  rw [Tr.beq_eq]
  by_cases hti:t=i
  ·rw [decide_eq_true hti,hti]
   exact h.1
  ·rw [decide_eq_false hti]
   exact z6 h.2 t
theorem ai.FN {st:bM} {l:List (Nat × AV)} {j ver es:Nat} {cs:List AV} (hj:st.hp[j]?=some (.cells cs es ver)) (hn:st.fl≤j) (hd:cA cs=true) (hs:we j ver cs st.fr l) (hb:∀ (i:Nat) (b:AB),st.hp[i]?=some b→i ≠ j→b.lq j=true) :
  ai st ⟨aP l,st.hp.set j .gone,st.ay,st.rd,st.fl⟩:=by
 have hlt:j < st.hp.length:=(List.getElem?_eq_some_iff.1 hj).1
 refine ⟨rfl,fun E base s hs'=>?_⟩
 have hr:=hs'.h
 have hget:∀ (i:Nat) (b:AB) (ver:Nat),(st.hp.set j .gone)[i]?=some b→b.ver?=some ver→i ≠ j∧st.hp[i]?=some b:=by
  intro i b ver hi hv
  by_cases hij:i=j
  ·subst hij;rw [List.getElem?_set_self hlt] at hi;cases hi;cases hv
  ·rw [List.getElem?_set_ne (Ne.symm hij)] at hi;exact ⟨hij,hi⟩
 have hdr:∀ {i v k:Nat},bK j E.ρ i v=some k→i ≠ j∧E.ρ i v=some k:=by
  intro i v k h
  unfold bK at h
  split at h
  ·cases h
  ·rename_i hne;exact ⟨hne,h⟩
 have hown:∀ k,Own (bK j E.ρ) (st.hp.set j .gone) k→Own E.ρ st.hp k:=by
  rintro k ⟨i,b,v,h1,h2,h3⟩
  exact ⟨i,b,v,(hget i b v h1 h2).2,h2,(hdr h3).2⟩
 have hOs:∀ k,({E with ρ:=bK j E.ρ}:Env).O (st.hp.set j .gone) k→E.O st.hp k:=fun k h=>h.imp (hown k) id
 have hpt:∀ {o:Nat} {u:Value},AR E.ρ s.hp.get (E.O st.hp) (.ptr j ver o) u→AR (bK j E.ρ) s.hp.get (({E with ρ:=bK j E.ρ}:Env).O (st.hp.set j .gone)) (.pt cs o) u:=by
  intro o u h
  obtain ⟨k,hk,rfl⟩:=h.cV
  obtain ⟨cs',q1,q2⟩:=hr.cells hj hk
  have hnO:¬ ({E with ρ:=bK j E.ρ}:Env).O (st.hp.set j .gone) k:=by
   rintro (⟨i,b,v,h1,h2,h3⟩|hx)
   ·have:=hdr h3
    exact this.1 (hr.inj i j v ver k this.2 hk)
   ·exact hr.ic k ⟨j,_,ver,hj,rfl,hk⟩ hx
  have:=q2.deep hd
  refine .d (?_:DR _ _ (.pt cs o) (.pointer (some ⟨k,o,none⟩)))
  have h0:DR s.hp.get (({E with ρ:=bK j E.ρ}:Env).O (st.hp.set j .gone)) (.pt cs o) (.pointer (some ⟨k,0+o,none⟩)) :=
   .pt q1 hnO (by rw [Nat.zero_add,this.1];exact Nat.le_refl _) (fun i a u x y=>(this.2 i a u x (by rw [Nat.zero_add] at y;exact y)).mono fun k b hk ho=>⟨hk,fun h=>ho (hOs k h)⟩)
  rw [Nat.zero_add] at h0
  exact h0
 have hrow:∀ {o n c:Nat} {els:List (List AV)} {b:Bool} {u:Value} (es:Nat),o+n * es≤cs.length→els.length=n→(∀ el ∈ els,el.length=es)→els.flatten=(cs.drop o).take (n * es)→(b=true→c=n)→AR E.ρ s.hp.get (E.O st.hp) (.bF j ver o n c) u →
   AR (bK j E.ρ) s.hp.get (({E with ρ:=bK j E.ρ}:Env).O (st.hp.set j .gone)) (.sl els b) u:=by
  intro o n c els b u es g1 g2 g3 g4 g5 h
  rcases h.fO with ⟨k,hk,rfl⟩|⟨rfl,rfl,rfl⟩
  ·obtain ⟨cs',q1,q2⟩:=hr.cells hj hk
   have hnO:¬ ({E with ρ:=bK j E.ρ}:Env).O (st.hp.set j .gone) k:=by
    rintro (⟨i,b,v,h1,h2,h3⟩|hx)
    ·have:=hdr h3
     exact this.1 (hr.inj i j v ver k this.2 hk)
    ·exact hr.ic k ⟨j,_,ver,hj,rfl,hk⟩ hx
   have hdp:=q2.deep hd
   refine .d (.sl (es:=es) q1 hnO (by rw [←q2.1];exact g1) g2 (fun i el he=>g3 el (List.mem_of_getElem? he)) (fun i el jj a u he hx hu=>?_) g5)
   have hjj:jj < es:=by rw [←g3 el (List.mem_of_getElem? he)];exact (List.getElem?_eq_some_iff.1 hx).1
   have hat:=fu g3 i el jj he hjj
   have hi:i < n:=by rw [←g2];exact (List.getElem?_eq_some_iff.1 he).1
   rw [g4,List.getElem?_take,List.getElem?_drop] at hat
   have hlt:i * es+jj < n * es:=by
    have:(i+1) * es≤n * es:=Nat.mul_le_mul_right _ hi
    rw [Nat.add_mul,Nat.one_mul] at this
    omega
   rw [if_pos hlt,hx,←Nat.add_assoc] at hat
   exact (hdp.2 _ a u hat hu).mono fun k b hk ho=>⟨hk,fun h=>ho (hOs k h)⟩
  ·simp only [List.length_eq_zero_iff] at g2
   subst g2
   exact .d .nil
 have hgv:∀ {a b:AV} {u:Value},Gv j ver cs a b→AR E.ρ s.hp.get (E.O st.hp) a u→AR (bK j E.ρ) s.hp.get (({E with ρ:=bK j E.ρ}:Env).O (st.hp.set j .gone)) b u:=by
  intro a b u hg h
  cases hg with
  | same hn=>exact h.lq hOs hn
  | ptr=>exact hpt h
  | row es g1 g2 g3 g4 g5=>exact hrow es g1 g2 g3 g4 g5 h
  | bk=>exact .bk
 refine ⟨{E with ρ:=bK j E.ρ},⟨⟨hr.wf,fun i b v hi hv=>?_,fun i i' v v' k h1 h2=>hr.inj i i' v v' k (hdr h1).2 (hdr h2).2,fun i v k hk=>hr.rn i v k (hdr hk).2,fun i b v w h1 h2 h3=>?_,fun i v hi=>?_,fun k hk=>hr.sup k (hown k hk),fun k hk=>hr.ic k (hown k hk),hr.dx,hr.ds,hr.sn,hr.xn,fun k hk=>hr.nK k (hk.imp (hown k) id),hr.bn,hr.ay⟩,hs'.rd,fun t=>hgv (z6 hs t) (hs'.fr t)⟩,
  ⟨Nat.le_refl _,fun i v k hi hk=>?_,fun k hk=>.inl (hown k hk),fun _ h=>.inl h,fun _ h=>.inl h,fun _ h=>h,fun _ h=>.inl h,fun _ _ _ _=>rfl,Nat.min_le_left _ _⟩⟩
 ·obtain ⟨hij,hi'⟩:=hget i b v hi hv
  have hbn:=hb i b hi' hij
  rcases hr.fG i b v hi' hv with ⟨k,b',q1,q2,q3⟩|⟨q1,q2⟩
  ·refine .inl ⟨k,b',by show bK j E.ρ i v=_;rw [bK,if_neg hij];exact q1,q2,?_⟩
   cases b with
   | cells cs2 es2 ver2 =>
    obtain ⟨cs',rfl,h⟩:=q3
    exact ⟨cs',rfl,h.1,fun i a u ha hu=>(h.2 i a u ha hu).lq hOs (cJ hbn i a ha)⟩
   | cW p q=>exact q3
   | map ents clock =>
    obtain ⟨es,rfl,h1,h2⟩:=q3
    refine ⟨es,rfl,h1,fun i k v born x hx hy=>?_⟩
    simp only [AB.lq,List.all_eq_true,Bool.and_eq_true] at hbn
    have:=hbn _ (List.mem_of_getElem? hx)
    exact ⟨(h2 i k v born x hx hy).1.lq hOs this.1,(h2 i k v born x hx hy).2.1.lq hOs this.2,(h2 i k v born x hx hy).2.2⟩
   | iter i2 since seen stepped =>
    obtain ⟨m,rfl,h⟩:=q3
    exact ⟨m,rfl,by show bK j E.ρ i2 0=_;rw [bK,if_neg (fe hbn)];exact h⟩
   | gone=>exact q3
  ·exact .inr ⟨by show bK j E.ρ i v=_;rw [bK,if_neg hij];exact q1,q2⟩
 ·obtain ⟨hij,h1⟩:=hget i b v h1 h2
  show bK j E.ρ i w=none
  rw [bK,if_neg hij];exact hr.fresh i b v w h1 h2 h3
 ·show bK j E.ρ i v=none
  unfold bK
  split
  ·rfl
  ·exact hr.new i v (by simpa using hi)
 ·show bK j E.ρ i v=some k
  rw [bK,if_neg (by omega)];exact hk
def kV (j:Nat):Nat→List AB→Bool
 | _,[]=>true
 | i,b :: l=>(Nat.beq i j || b.lq j) && kV j (i+1) l
theorem sU {j:Nat}:∀ {l:List AB} {i0:Nat},kV j i0 l=true→∀ (i:Nat) (b:AB),l[i]?=some b→i0+i ≠ j→b.lq j=true
 | [],_,_,i,b,h,_=>by cases h
 | x :: l,i0,h,i,b,hb,hne=>by
  simp only [kV,Bool.and_eq_true,Bool.or_eq_true] at h
  cases i with
  | zero =>
   cases hb
   rcases h.1 with h|h
   ·exact absurd (Nat.eq_of_beq_eq_true h) hne
   ·exact h
  | succ i=>exact sU h.2 i b (by simpa using hb) (by omega)
theorem ai.giveUp {st:bM} {l:List (Nat × AV)} (j:Nat) {ver es:Nat} {cs:List AV} {hp:List AB} (hj:st.hp[j]?=some (.cells cs es ver)) (hn:st.fl≤j) (hd:cA cs=true) (hs:we j ver cs st.fr l) (hb:kV j 0 st.hp=true) (hh:st.hp.set j .gone=hp) :
  ai st ⟨aP l,hp,st.ay,st.rd,st.fl⟩:=by
 subst hh
 exact ai.FN hj hn hd hs fun i b h hne=>sU hb i b h (by omega)
theorem Cj {P:Program} {t:TypeId} {x y:Operand} {n:Int}:eU P .shr t x y (.int .u64 n) (.int .u64 1)=some (.int .u64 (n / 2),.none):=by
 have h:eU P .shr t x y (.int .u64 n) (.int .u64 1)=some (.int .u64 (n.fdiv (2 ^ 1)),.none):=rfl
 rw [h,Int.fdiv_eq_ediv_of_nonneg n (by decide)]
 rfl
end
end Go.RM
namespace Go.RM
open Go
theorem dW.zk {j ver c:Nat}:dW (.fl (.slice none 0 0)) (.bF j ver 0 0 c):=fun _ _ _ u h=>by
 rw [h.fq.1]
 exact .pR
theorem ai.zl {st:bM} (es:Nat):ai st ⟨st.fr,st.hp++[.cells [] es 0],st.ay,st.rd,st.fl⟩:=by
 refine ⟨rfl,fun E base s hs=>?_⟩
 have hr:=hs.h
 have hget:∀ (i:Nat) (b:AB),(st.hp++[AB.cells [] es 0])[i]?=some b→(i < st.hp.length∧st.hp[i]?=some b)∨(i=st.hp.length∧b=.cells [] es 0):=by
  intro i b hi
  by_cases hlt:i < st.hp.length
  ·rw [List.getElem?_append_left hlt] at hi;exact .inl ⟨hlt,hi⟩
  ·rw [List.getElem?_append_right (by omega)] at hi
   have h0:i - st.hp.length=0:=by
    apply Nat.eq_zero_of_not_pos
    intro hp0
    rw [List.getElem?_eq_none (by simp;omega)] at hi
    cases hi
   rw [h0] at hi
   cases hi
   exact .inr ⟨by omega,rfl⟩
 have hown:∀ k,Own E.ρ (st.hp++[.cells [] es 0]) k→Own E.ρ st.hp k:=by
  rintro k ⟨i,b,v,h1,h2,h3⟩
  rcases hget i b h1 with ⟨_,h1⟩|⟨rfl,rfl⟩
  ·exact ⟨i,b,v,h1,h2,h3⟩
  ·rw [hr.new _ v (Nat.le_refl _)] at h3;cases h3
 have hO:∀ k,E.O (st.hp++[.cells [] es 0]) k→E.O st.hp k:=fun k h=>h.imp (hown k) id
 have keep:∀ k b,s.hp.get k=some b→¬ E.O st.hp k→s.hp.get k=some b∧¬ E.O (st.hp++[.cells [] es 0]) k:=fun k b hk ho=>⟨hk,fun h=>ho (hO k h)⟩
 have har:∀ {v:AV} {u:Value},AR E.ρ s.hp.get (E.O st.hp) v u→AR E.ρ s.hp.get (E.O (st.hp++[.cells [] es 0])) v u:=fun h=>h.mono (fun _ _ _ h=>h) keep
 refine ⟨E,⟨⟨hr.wf,fun i b v hi hv=>?_,hr.inj,hr.rn,fun i b v w h1 h2 h3=>?_,fun i v hi=>hr.new i v (by simp at hi;omega),fun k hk=>hr.sup k (hown k hk),fun k hk=>hr.ic k (hown k hk),hr.dx,hr.ds,hr.sn,hr.xn,fun k hk=>hr.nK k (hk.imp (hown k) id),hr.bn,hr.ay⟩,hs.rd,fun t=>har (hs.fr t)⟩,
  ⟨Nat.le_refl _,fun _ _ _ _ h=>h,fun k hk=>.inl (hown k hk),fun _ h=>.inl h,fun _ h=>.inl h,fun _ h=>h,fun _ h=>.inl h,fun _ _ _ _=>rfl,Nat.min_le_left _ _⟩⟩
 ·rcases hget i b hi with ⟨_,hi'⟩|⟨rfl,rfl⟩
  ·rcases hr.fG i b v hi' hv with ⟨k,b',q1,q2,q3⟩|q
   ·refine .inl ⟨k,b',q1,q2,?_⟩
    cases b with
    | cells cs2 es2 ver2 =>
     obtain ⟨cs',rfl,h⟩:=q3
     exact ⟨cs',rfl,h.1,fun i a u ha hu=>har (h.2 i a u ha hu)⟩
    | cW p q=>exact q3
    | map ents clock =>
     obtain ⟨es,rfl,h1,h2⟩:=q3
     exact ⟨es,rfl,h1,fun i k v born x hx hy=>⟨har (h2 i k v born x hx hy).1,har (h2 i k v born x hx hy).2.1,(h2 i k v born x hx hy).2.2⟩⟩
    | iter i2 since seen stepped=>exact q3
    | gone=>exact q3
   ·exact .inr q
  ·cases hv
   exact .inr ⟨hr.new _ _ (Nat.le_refl _),es,rfl⟩
 ·rcases hget i b h1 with ⟨_,h1⟩|⟨rfl,rfl⟩
  ·exact hr.fresh i b v w h1 h2 h3
  ·exact hr.new _ _ (Nat.le_refl _)
theorem q1 {σ:Type} {P:σ→Prop} {I:σ→bM} {m:σ→Nat} {K:Exit→bM→Prop} {x:σ} {s:bM} (h:K .ret s):Ca P I m K x .ret s:=h
theorem q2 {σ:Type} {P:σ→Prop} {I:σ→bM} {m:σ→Nat} {K:Exit→bM→Prop} {x:σ} {s:bM} {id:Nat} (h:K (.exit id) s):Ca P I m K x (.exit id) s:=h
end Go.RM
namespace Go.RM
open Go
end Go.RM
namespace Go.RM
open Go
theorem Ck {α:Type} {l:List α} {j:Nat} {a:α} (h:l[j]?=some a):l.set j a=l:=by
 apply List.ext_getElem?
 intro i
 rw [List.getElem?_set]
 split
 ·rename_i hij
  subst hij
  rw [h]
  split
  ·rfl
  ·rename_i hn
   exact absurd (List.getElem?_eq_some_iff.1 h).1 hn
 ·rfl
theorem Du {hp:List AB} {es bs:Nat} {x:AV} {els:List (List AV)} {j ver n c:Nat} {cs:List AV} {K:AV→List AB→Prop} (hx:xP hp es x els) (h1:els.flatten.all AV.one=true) (hj:hp[j]?=some (.cells cs es ver)) (hl:cs.length=n * es) (hc:c=n∨c=n+1)
  (hb:(n+els.length) * bs≤140737488355328∧n+els.length≤9223372036854775807) (hk:∀ v c',(c'=n+els.length∨c'=n+els.length+1)→K (.bF j v 0 (n+els.length) c') (hp.set j (.cells (cs++els.flatten) es v))) :
  ∃ els,xP hp es x els∧els.flatten.all AV.one=true∧∃ cs,hp[j]?=some (.cells cs es ver)∧cs.length=n * es∧(c=n∨c=n+1)∧((n+els.length) * bs≤140737488355328∧n+els.length≤9223372036854775807)∧(els=[]→K (.bF j ver 0 n c) hp) ∧
   (els ≠ []→K (.bF j (ver+1) 0 (n+els.length) (n+els.length+1)) (hp.set j (.cells (cs++els.flatten) es (ver+1)))):=by
 refine ⟨els,hx,h1,cs,hj,hl,hc,hb,fun he=>?_,fun _=>hk _ _ (.inr rfl)⟩
 subst he
 have h2:=hk ver c (by simpa using hc)
 rw [List.flatten_nil,List.append_nil,Ck hj] at h2
 exact h2
theorem Dv {T:bf} {own:Bool} {fr:Nat→AV} {hp:List AB} {K:AV→List AB→Prop} {s x:Operand} {t u e:TypeId} {a1 a2 a3 a4 a5 a6} {j ver n c:Nat} {els:List (List AV)} {f:Bool} {cs:List AV} {inf:ux} (hs:aB fr s=.bF j ver 0 n c) (hx:aB fr x=.sl els f)
  (hu:T.ty.get u=some ⟨.slice e,a1,a2,a3,a4,a5,a6⟩) (hi:elem? T t=some inf) (hz:aZ inf=true) (hel:∀ el ∈ els,el.length=inf.size) (h1:els.flatten.all AV.one=true) (hj:hp[j]?=some (.cells cs inf.size ver)) (hl:cs.length=n * inf.size) (hc:c=n∨c=n+1)
  (hb:(n+els.length) * inf.bytes≤140737488355328∧n+els.length≤9223372036854775807) (hk:∀ v c',(c'=n+els.length∨c'=n+els.length+1)→K (.bF j v 0 (n+els.length) c') (hp.set j (.cells (cs++els.flatten) inf.size v))) :
  RM.wpOp T own (.call ⟨.builtin .append,[s,x].toArray,[t,u].toArray⟩) fr hp K:=by
 show force (aB fr s) fun a=>force (aB fr x) fun b=>gq T own .append [a,b] [t,u] hp K
 rw [hs,hx]
 show (match T.ty.get u with|some ⟨.slice _,_,_,_,_,_,_⟩=>gI T own t (.bF j ver 0 n c) (.sl els f) hp K|_=>False)
 rw [hu]
 show gI T own t (.bF j ver 0 n c) (.sl els f) hp K
 unfold gI
 rw [hi]
 exact ⟨hz,Du (hp:=hp) (K:=K) ⟨hel,rfl⟩ h1 hj hl hc hb hk⟩
end Go.RM
namespace Go.RM
open Go
section
variable {T : bf} {tab : List XE} {one : Bool} {base : Nat} {E : Env} {hp : List AB} {ay : bq} {H : Hp} {ρ : Nat → Nat → Option Nat} {g : ax} {O O' : Nat → Prop}
def cF (a b:Nat) (ρ:Nat→Nat→Option Nat):Nat→Nat→Option Nat:=fun i v=>if i=a then ρ b v else if i=b then none else ρ i v
theorem AR.move {a b:Nat} (hO:∀ k,O' k→O k) {v:AV} {u:Value} (h:AR ρ g O v u):v.lq a=true→v.lq b=true→AR (cF a b ρ) g O' v u:=by
 have hm:∀ {i w:Nat},i ≠ a→i ≠ b→cF a b ρ i w=ρ i w:=fun {i w} h1 h2=>by unfold cF;rw [if_neg h1,if_neg h2]
 induction h with
 | d h=>intro _ _;exact .d (h.mono fun k b hk ho=>⟨hk,fun hx=>ho (hO k hx)⟩)
 | bk=>intro _ _;exact .bk
 | ptr h=>intro h1 h2;exact .ptr (by rw [hm (fe h1) (fe h2)];exact h)
 | bF h=>intro h1 h2;exact .bF (by rw [hm (fe h1) (fe h2)];exact h)
 | pR=>intro _ _;exact .pR
 | om h=>intro h1 h2;exact .om (by rw [hm (fe h1) (fe h2)];exact h)
 | fn ha hb h1 h2 ih1 ih2 =>
  intro n1 n2
  simp only [AV.lq,Bool.and_eq_true] at n1 n2
  exact .fn ha hb (fun i x u hx hu=>ih1 i x u hx hu (cJ n1.1 i x hx) (cJ n2.1 i x hx)) (fun i x u hx hu=>ih2 i x u hx hu (cJ n1.2 i x hx) (cJ n2.2 i x hx))
 | ag ha h1 ih=>intro n1 n2;simp only [AV.lq] at n1 n2;exact .ag ha (fun i x u hx hu=>ih i x u hx hu (cJ n1 i x hx) (cJ n2 i x hx))
 | tp ha h1 ih=>intro n1 n2;simp only [AV.lq] at n1 n2;exact .tp ha (fun i x u hx hu=>ih i x u hx hu (cJ n1 i x hx) (cJ n2 i x hx))
inductive Mv (a b:Nat):AV→AV→Prop
 | same {v:AV}:v.lq a=true→v.lq b=true→Mv a b v v
 | ptr {ver o:Nat}:Mv a b (.ptr b ver o) (.ptr a ver o)
 | bF {ver o n c:Nat}:Mv a b (.bF b ver o n c) (.bF a ver o n c)
 | bk {v:AV}:Mv a b v .bk
def zm (a b:Nat) (fr:Nat→AV):List (Nat × AV)→Prop
 | []=>True
 | (i,v) :: l=>Mv a b (fr i) v∧zm a b fr l
theorem z7 {a b:Nat} {fr:Nat→AV}:∀ {l:List (Nat × AV)},zm a b fr l→∀ t,Mv a b (fr t) (aP l t)
 | [],_,t=>.bk
 | (i,v) :: l,h,t=>by
  unfold aP
  rw [Tr.beq_eq]
  by_cases hti:t=i
  ·rw [decide_eq_true hti,hti]
   exact h.1
  ·rw [decide_eq_false hti]
   exact z7 h.2 t
theorem ai.move {st:bM} {l:List (Nat × AV)} (a b:Nat) {x y:AB} (hab:a ≠ b) (hja:st.hp[a]?=some y) (hjb:st.hp[b]?=some x) (hn:st.fl≤a) (hn2:st.fl≤b) (hs:zm a b st.fr l)
  (hb:∀ (i:Nat) (z:AB),st.hp[i]?=some z→i ≠ a→z.lq a=true∧z.lq b=true) :
  ai st ⟨aP l,(st.hp.set a x).set b .gone,st.ay,st.rd,st.fl⟩:=by
 have hla:a < st.hp.length:=(List.getElem?_eq_some_iff.1 hja).1
 have hlb:b < st.hp.length:=(List.getElem?_eq_some_iff.1 hjb).1
 refine ⟨rfl,fun E base s hs'=>?_⟩
 have hr:=hs'.h
 have hget:∀ (i:Nat) (z:AB) (ver:Nat),((st.hp.set a x).set b .gone)[i]?=some z→z.ver?=some ver→(i=a∧z=x)∨(i ≠ a∧i ≠ b∧st.hp[i]?=some z):=by
  intro i z ver hi hv
  by_cases hib:i=b
  ·subst hib
   rw [List.getElem?_set_self (by rw [List.length_set];exact hlb)] at hi
   cases hi;cases hv
  ·rw [List.getElem?_set_ne (Ne.symm hib)] at hi
   by_cases hia:i=a
   ·subst hia
    rw [List.getElem?_set_self hla] at hi
    cases hi;exact .inl ⟨rfl,rfl⟩
   ·rw [List.getElem?_set_ne (Ne.symm hia)] at hi
    exact .inr ⟨hia,hib,hi⟩
 have hma:∀ {v:Nat},cF a b E.ρ a v=E.ρ b v:=fun {v}=>by unfold cF;rw [if_pos rfl]
 have hmo:∀ {i v:Nat},i ≠ a→i ≠ b→cF a b E.ρ i v=E.ρ i v:=fun {i v} h1 h2=>by unfold cF;rw [if_neg h1,if_neg h2]
 have hmi:∀ {i v k:Nat},cF a b E.ρ i v=some k→(i=a∧E.ρ b v=some k)∨(i ≠ a∧i ≠ b∧E.ρ i v=some k):=by
  intro i v k h
  unfold cF at h
  split at h
  ·rename_i h1;exact .inl ⟨h1,h⟩
  ·split at h
   ·cases h
   ·rename_i h1 h2;exact .inr ⟨h1,h2,h⟩
 have hown:∀ k,Own (cF a b E.ρ) ((st.hp.set a x).set b .gone) k→Own E.ρ st.hp k:=by
  rintro k ⟨i,z,v,h1,h2,h3⟩
  rcases hget i z v h1 h2 with ⟨rfl,rfl⟩|⟨n1,n2,h4⟩
  ·rw [hma] at h3;exact ⟨b,_,v,hjb,h2,h3⟩
  ·rw [hmo n1 n2] at h3;exact ⟨i,z,v,h4,h2,h3⟩
 have hOs:∀ k,({E with ρ:=cF a b E.ρ}:Env).O ((st.hp.set a x).set b .gone) k→E.O st.hp k:=fun k h=>h.imp (hown k) id
 have hmv:∀ {v w:AV} {u:Value},Mv a b v w→AR E.ρ s.hp.get (E.O st.hp) v u→AR (cF a b E.ρ) s.hp.get (({E with ρ:=cF a b E.ρ}:Env).O ((st.hp.set a x).set b .gone)) w u:=by
  intro v w u hm h
  cases hm with
  | same n1 n2=>exact h.move hOs n1 n2
  | ptr =>
   obtain ⟨k,hk,rfl⟩:=h.cV
   exact .ptr (by rw [hma];exact hk)
  | bF =>
   rcases h.fO with ⟨k,hk,rfl⟩|⟨rfl,rfl,rfl⟩
   ·exact .bF (by rw [hma];exact hk)
   ·exact .pR
  | bk=>exact .bk
 have hbr:∀ (z:AB) (z':aH),z.lq a=true→z.lq b=true→BR E.ρ s.hp.get (E.O st.hp) z z'→BR (cF a b E.ρ) s.hp.get (({E with ρ:=cF a b E.ρ}:Env).O ((st.hp.set a x).set b .gone)) z z':=by
  intro z z' n1 n2 q3
  cases z with
  | cells cs2 es2 ver2 =>
   obtain ⟨cs',rfl,h⟩:=q3
   exact ⟨cs',rfl,h.1,fun i v u ha hu=>(h.2 i v u ha hu).move hOs (cJ n1 i v ha) (cJ n2 i v ha)⟩
  | cW p q=>exact q3
  | map ents clock =>
   obtain ⟨es,rfl,h1,h2⟩:=q3
   refine ⟨es,rfl,h1,fun i k v born e hx hy=>?_⟩
   simp only [AB.lq,List.all_eq_true,Bool.and_eq_true] at n1 n2
   have m1:=n1 _ (List.mem_of_getElem? hx)
   have m2:=n2 _ (List.mem_of_getElem? hx)
   exact ⟨(h2 i k v born e hx hy).1.move hOs m1.1 m2.1,(h2 i k v born e hx hy).2.1.move hOs m1.2 m2.2,(h2 i k v born e hx hy).2.2⟩
  | iter i2 since seen stepped =>
   obtain ⟨m,rfl,h⟩:=q3
   exact ⟨m,rfl,by show cF a b E.ρ i2 0=_;rw [hmo (fe n1) (fe n2)];exact h⟩
  | gone=>exact q3
 refine ⟨{E with ρ:=cF a b E.ρ},⟨⟨hr.wf,fun i z v hi hv=>?_,fun i i' v v' k h1 h2=>?_,fun i v k hk=>?_,fun i z v w h1 h2 h3=>?_,fun i v hi=>?_,fun k hk=>hr.sup k (hown k hk),fun k hk=>hr.ic k (hown k hk),hr.dx,hr.ds,hr.sn,hr.xn,fun k hk=>hr.nK k (hk.imp (hown k) id),hr.bn,hr.ay⟩,hs'.rd,fun t=>hmv (z7 hs t) (hs'.fr t)⟩,
  ⟨Nat.le_refl _,fun i v k hi hk=>?_,fun k hk=>.inl (hown k hk),fun _ h=>.inl h,fun _ h=>.inl h,fun _ h=>h,fun _ h=>.inl h,fun _ _ _ _=>rfl,Nat.min_le_left _ _⟩⟩
 ·rcases hget i z v hi hv with ⟨rfl,rfl⟩|⟨n1,n2,h4⟩
  ·have hz:=hb b _ hjb (Ne.symm hab)
   rcases hr.fG b _ v hjb hv with ⟨k,b',q1,q2,q3⟩|⟨q1,q2⟩
   ·exact .inl ⟨k,b',by show cF _ b E.ρ _ v=_;rw [hma];exact q1,q2,hbr _ _ hz.1 hz.2 q3⟩
   ·exact .inr ⟨by show cF _ b E.ρ _ v=_;rw [hma];exact q1,q2⟩
  ·have hz:=hb i z h4 n1
   rcases hr.fG i z v h4 hv with ⟨k,b',q1,q2,q3⟩|⟨q1,q2⟩
   ·exact .inl ⟨k,b',by show cF a b E.ρ i v=_;rw [hmo n1 n2];exact q1,q2,hbr _ _ hz.1 hz.2 q3⟩
   ·exact .inr ⟨by show cF a b E.ρ i v=_;rw [hmo n1 n2];exact q1,q2⟩
 ·rcases hmi h1 with ⟨e1,p1⟩|⟨n1,n2,p1⟩
  ·rcases hmi h2 with ⟨e2,p2⟩|⟨m1,m2,p2⟩
   ·rw [e1,e2]
   ·exact absurd (hr.inj b i' v v' k p1 p2).symm m2
  ·rcases hmi h2 with ⟨e2,p2⟩|⟨m1,m2,p2⟩
   ·exact absurd (hr.inj i b v v' k p1 p2) n2
   ·exact hr.inj i i' v v' k p1 p2
 ·rcases hmi hk with ⟨rfl,h⟩|⟨_,_,h⟩
  ·exact hr.rn b v k h
  ·exact hr.rn i v k h
 ·rcases hget i z v h1 h2 with ⟨rfl,rfl⟩|⟨n1,n2,h4⟩
  ·show cF _ b E.ρ _ w=none
   rw [hma];exact hr.fresh b _ v w hjb h2 h3
  ·show cF a b E.ρ i w=none
   rw [hmo n1 n2];exact hr.fresh i z v w h4 h2 h3
 ·show cF a b E.ρ i v=none
  have hi:st.hp.length≤i:=by simpa using hi
  rw [hmo (by omega) (by omega)]
  exact hr.new i v hi
 ·show cF a b E.ρ i v=some k
  rw [hmo (by omega) (by omega)];exact hk
def FO (T:bf) (rs:List ResultVar) (Q:AV→List AB→bq→Prop) (e:Exit) (s:bM):Prop :=
 match e with
 | .normal|.ret=>mY T s rs fun as=>Q (vY as) s.hp s.ay
 | _=>False
theorem Dw {vs:List AV} {us:List Value} (h:eF ρ g O vs us):AR ρ g O (vY vs) (cm us):=by
 match vs,us,h with
 | [],[],_=>exact .tp rfl (fun i x u hx=>by cases hx)
 | [v],[u],h=>exact h.2 0 v u rfl rfl
 | a :: b :: l,c :: d :: m,h=>exact .tp (by simpa using h.1) (fun i x u hx hu=>h.2 i x u hx (by simpa using hu))
 | [],u :: us,h=>exact absurd h.1 (by simp)
 | v :: vs,[],h=>exact absurd h.1 (by simp)
 | [v],a :: b :: l,h=>exact absurd h.1 (by simp)
 | a :: b :: l,[v],h=>exact absurd h.1 (by simp)
theorem aK.body {f:FuncId} {fn:Func} {c:Code} {first caps args:List AV} {Q:AV→List AB→bq→Prop} (hf:T.fn.get f=some fn) (hb:fn.body=some c) (hn:noEntry tab f=true)
  (hw:av T tab one c ⟨xT (first++args++caps),hp,ay,false,hp.length⟩ (FO T fn.results.toList Q)):aK T tab one (.fn f first caps) args hp ay Q:=by
 intro E base H u us hr hF ha
 obtain ⟨fs,cs,rfl,h1,h2⟩:∃ fs cs,u=.func (.func f) fs cs∧eF E.ρ H.get (E.O hp) first fs.toList∧eF E.ρ H.get (E.O hp) caps cs.toList:=by
  cases hF with
  | d h=>cases h with
   | fn ha hb h1 h2=>exact ⟨_,_,rfl,⟨ha,fun i x u hx hu=>.d (h1 i x u hx hu)⟩,⟨hb,fun i x u hx hu=>.d (h2 i x u hx hu)⟩⟩
  | fn ha hb h1 h2=>exact ⟨_,_,rfl,⟨ha,h1⟩,⟨hb,h2⟩⟩
 refine ⟨.fn f (fs.toList++us++cs.toList),rfl,?_⟩
 have hargs:=(h1.append ha).append h2
 obtain ⟨m,L,h1,h2,h3⟩:=hw E base ⟨setArgs .leaf 0 (fs.toList++us++cs.toList),H,false⟩ ⟨hr,rfl,sP hargs⟩
 obtain ⟨m',M,hm,q1,q2,q3⟩:=dN (one:=one) (L:=L) (f:=fun _ (p:Exit × St)=>dS T fn.results.toList p)
  (P:=fun r=>∃ w H',r=.ret w H'∧∃ E' a hp' amb',Q a hp' amb'∧aC E' base hp' amb' H'∧AR E'.ρ H'.get (E'.O hp') a w∧ji hp.length base E hp H E' hp' H')
  (fun _ _ _ _ _ h=>h) m h2 (fun p hp'=>by
   obtain ⟨E',st',k1,k0,k2,k3⟩:=h3 p hp'
   obtain ⟨e,s'⟩:=p
   have done:(e=.normal∨e=.ret)→(mY T st' fn.results.toList fun as=>Q (vY as) st'.hp st'.ay)→∃ (_:Nat) (M:List fc),dS T fn.results.toList (e,s')=some M ∧
     nC one M fun r=>∃ w H',r=.ret w H'∧∃ E' a hp' amb',Q a hp' amb'∧aC E' base hp' amb' H'∧AR E'.ρ H'.get (E'.O hp') a w∧ji hp.length base E hp H E' hp' H':=by
    intro he hr
    obtain ⟨ws,as,r1,r2,r4⟩:=jE k2 hr
    refine ⟨0,[.ret (cm ws) s'.hp],?_,.single ⟨_,_,rfl,E',vY as,st'.hp,st'.ay,r2,k2.h,Dw r4,k3⟩⟩
    unfold dS
    rcases he with rfl|rfl <;> simp only [r1,Option.map_some]
   cases e with
   | normal=>exact done (.inl rfl) k1
   | ret=>exact done (.inr rfl) k1
   | _=>exact k1.elim)
 refine ⟨m'+1,M,?_,q2,q3⟩
 show RX T tab (m'+1) (.call f _ H)=_
 rw [vN,mj _ _ hn]
 simp only
 rw [iS,hf]
 simp only [hb]
 rw [dM (eu hm) _ _ _ h1]
 exact q1
end
end Go.RM
namespace Go.RM
open Go
section
variable {T : bf} {tab : List XE} {one : Bool}
end
end Go.RM
namespace Go.RM
open Go
section
variable {T : bf} {tab : List XE} {one : Bool}
def sV (a b:AV):Prop:=∀ (g:ax) (O:Nat→Prop) (u:Value),DR g O a u→DR g O b u
theorem sV.refl (a:AV):sV a a:=fun _ _ _ h=>h
theorem sV.nil (b:Bool):sV (.fl (.slice none 0 0)) (.sl [] b):=fun _ _ u h=>by
 cases h with
 | fl=>exact .nil
theorem sV.full {els:List (List AV)}:sV (.sl els true) (.sl els false):=fun _ _ u h=>by
 cases h with
 | nil=>exact .nil
 | sl q1 q2 q3 q4 q5 q6 q7=>exact .sl q1 q2 q3 q4 q5 q6 (fun h=>Bool.noConfusion h)
def sW:List AV→List AV→Prop
 | [],[]=>True
 | a :: l,b :: m=>sV a b∧sW l m
 | _,_=>False
theorem sW.EY {g:ax} {O:Nat→Prop}:∀ {as bs:List AV} {us:List Value},sW as bs→nJ g O as us→nJ g O bs us
 | [],[],us,_,h=>h
 | a :: l,b :: m,[],_,h=>absurd h.1 (by simp)
 | a :: l,b :: m,u :: us,hs,h=>by
  have ih:=sW.EY (g:=g) (O:=O) (us:=us) hs.2 ⟨by simpa using h.1,fun i a v x y=>h.2 (i+1) a v (by simpa using x) (by simpa using y)⟩
  refine ⟨by simpa using ih.1,fun i x v hx hv=>?_⟩
  cases i with
  | zero=>cases hx;cases hv;exact hs.1 _ _ _ (h.2 0 a u rfl rfl)
  | succ i=>exact ih.2 i x v (by simpa using hx) (by simpa using hv)
 | [],_ :: _,_,hs,_=>hs.elim
 | _ :: _,[],_,hs,_=>hs.elim
theorem af.soft {F:AV} {args args':List AV} {v:AV} (h:af T tab one F args v) (hs:sW args' args):af T tab one F args' v :=
 ⟨h.1,fun X H u us hw hX hF ha=>h.2 X H u us hw hX hF (hs.EY ha)⟩
end
theorem qa {a:AB} {l:List AB} {n:Nat} (h:a.cO n=true) (k:l.all (AB.cO n)=true):(a :: l).all (AB.cO n)=true:=by
 rw [List.all_cons,h,k];rfl
end Go.RM
namespace Go.RM
open Go
section
variable {T : bf} {tab : List XE} {one : Bool} {base : Nat} {E : Env} {hp : List AB} {ay : bq} {H : Hp}
end
end Go.RM
namespace Go.RM
open Go
theorem wrap_i64 {n:Int} (h0:0≤n) (h1:n < 9223372036854775808):IntKind.wrap .i64 n=n:=by
 have hm:n % 18446744073709551616=n:=Int.emod_eq_of_lt h0 (by omega)
 show (if (true && decide (n % 18446744073709551616 ≥ 9223372036854775808))=true then n % 18446744073709551616 - 18446744073709551616 else n % 18446744073709551616)=n
 rw [hm,if_neg (by simp;omega)]
theorem Dx {w m n:Nat} (hm:m < 2 ^ w) (hn:n < 2 ^ w):(BitVec.ofInt w (m:Int) ||| BitVec.ofInt w (n:Int)).toNat=m ||| n:=by
 rw [BitVec.toNat_or,BitVec.ofInt_natCast,BitVec.ofInt_natCast,BitVec.toNat_ofNat,BitVec.toNat_ofNat,Nat.mod_eq_of_lt hm,Nat.mod_eq_of_lt hn]
theorem Er {P:Program} {t:TypeId} {x y:Operand} {m n:Nat} (hm:m < 4611686018427387904) (hn:n < 4611686018427387904):eU P .or t x y (.int .i64 (m:Int)) (.int .i64 (n:Int))=some (.int .i64 ((m ||| n:Nat):Int),.none):=by
 have h:eU P .or t x y (.int .i64 (m:Int)) (.int .i64 (n:Int))=some (.int .i64 (IntKind.wrap .i64 ((BitVec.ofInt 64 (m:Int) ||| BitVec.ofInt 64 (n:Int)).toNat:Int)),.none):=rfl
 have hlt:m ||| n < 2 ^ 62:=Nat.or_lt_two_pow (by omega) (by omega)
 rw [h,Dx (by omega) (by omega),wrap_i64 (by omega) (by omega)]
section
variable {T : bf} {a b : AV} {t : TypeId} {x y : Operand} {hp : List AB} {K : AV → List AB → Prop}
theorem FE {m n:Nat} (ha:a=.fl (.int .i64 (m:Int))) (hb:b=.fl (.int .i64 (n:Int))) (hm:m < 4611686018427387904) (hn:n < 4611686018427387904) (h:K (.fl (.int .i64 ((m ||| n:Nat):Int))) hp):cI T .or t x y a b hp K:=by
 subst ha hb
 exact ⟨.int .i64 ((m ||| n:Nat):Int),Er hm hn,rfl,h⟩
end
end Go.RM
namespace Go.RM
open Go
section
variable {T : bf} {tab : List XE} {one : Bool} {fl base : Nat} {E E' E2 : Env} {hp hp' hp2 : List AB} {ay amb' : bq} {H H' H2 : Hp} {ρ ρ2 : Nat → Nat → Option Nat} {g g2 : ax} {O O2 : Nat → Prop}
end
end Go.RM
namespace Go.RM
open Go
section
variable {T : bf} {tab : List XE} {one : Bool} {base : Nat} {E : Env} {hp : List AB} {ay : bq} {H : Hp}
inductive Fq (hp:List AB):AV→AV→Prop
 | fz {a v:AV}:Fz hp a v→Fq hp a v
 | ptr {j ver o es:Nat} {cs:List AV}:hp[j]?=some (.cells cs es ver)→cA cs=true→Fq hp (.ptr j ver o) (.pt cs o)
 | fn {f:FuncId} {a b x y:List AV}:a.length=x.length→b.length=y.length→(∀ (i:Nat) (u v:AV),a[i]?=some u→x[i]?=some v→Fq hp u v)→(∀ (i:Nat) (u v:AV),b[i]?=some u→y[i]?=some v→Fq hp u v)→Fq hp (.fn f a b) (.fn f x y)
theorem AR.Dy {ρ:Nat→Nat→Option Nat} {g:ax} {O:Nat→Prop} {f:FuncId} {a b:List AV} {u:Value} (h:AR ρ g O (.fn f a b) u):∃ a' b',u=.func (.func f) a' b'∧eF ρ g O a a'.toList∧eF ρ g O b b'.toList:=by
 cases h with
 | d h=>cases h with
  | fn ha hb h1 h2=>exact ⟨_,_,rfl,⟨ha,fun i x u hx hu=>.d (h1 i x u hx hu)⟩,⟨hb,fun i x u hx hu=>.d (h2 i x u hx hu)⟩⟩
 | fn ha hb h1 h2=>exact ⟨_,_,rfl,⟨ha,h1⟩,⟨hb,h2⟩⟩
theorem Fq.dr {X:Nat→Prop} (h:aC E base hp ay H) (hX:∀ k,X k→E.X k) {r v:AV} (hf:Fq hp r v):∀ {u:Value},AR E.ρ H.get (E.O hp) r u→DR H.get X v u:=by
 have weak:∀ {v:AV} {u:Value},DR H.get (E.O hp) v u→DR H.get X v u:=fun h=>h.mono fun k b hk ho=>⟨hk,fun hx=>ho (.inr (hX k hx))⟩
 induction hf with
 | fz hz=>intro u ha;exact hz.dr h hX ha
 | ptr h1 hd =>
  rename_i j ver o es cs
  intro u ha
  obtain ⟨k,hk,rfl⟩:=ha.cV
  obtain ⟨cs',q1,q2⟩:=h.cells h1 hk
  have hok:Own E.ρ hp k:=⟨j,_,ver,h1,rfl,hk⟩
  have hnx:¬ X k:=fun hx=>h.ic k hok (hX k hx)
  have:=DR.pt (g:=H.get) (O:=X) (l:=cs) (k:=k) (d:=0) (o:=o) (cs:=cs') q1 hnx (by rw [Nat.zero_add,q2.1];exact Nat.le_refl _) (fun i a u hx hu=>by
   rw [Nat.zero_add] at hu
   exact weak ((q2.2 i a u hx hu).deep (fF hd i a hx)))
  rw [Nat.zero_add] at this
  exact this
 | @fn f a b x y h1 h2 _ _ ih1 ih2 =>
  intro u ha
  obtain ⟨a',b',rfl,p1,p2⟩:=ha.Dy
  refine .fn (by rw [←h1];exact p1.1) (by rw [←h2];exact p2.1) (fun i v w hv hw=>?_) (fun i v w hv hw=>?_)
  ·have hi:i < a.length:=by rw [h1];exact (List.getElem?_eq_some_iff.1 hv).1
   have hai:a[i]?=some a[i]:=List.getElem?_eq_getElem hi
   exact ih1 i _ v hai hv (p1.2 i _ w hai hw)
  ·have hi:i < b.length:=by rw [h2];exact (List.getElem?_eq_some_iff.1 hv).1
   have hai:b[i]?=some b[i]:=List.getElem?_eq_getElem hi
   exact ih2 i _ v hai hv (p2.2 i _ w hai hw)
def gS (hp:List AB):List AV→List AV→Prop
 | [],[]=>True
 | r :: rs,v :: vs=>Fq hp r v∧gS hp rs vs
 | _,_=>False
theorem gS.dr {X:Nat→Prop} (h:aC E base hp ay H) (hX:∀ k,X k→E.X k):∀ {rs vs:List AV} {us:List Value},gS hp rs vs→eF E.ρ H.get (E.O hp) rs us→nJ H.get X vs us
 | [],[],us,_,ha=>⟨ha.1,fun i a u hx=>by cases hx⟩
 | r :: rs,v :: vs,[],_,ha=>absurd ha.1 (by simp)
 | r :: rs,v :: vs,u :: us,hf,ha=>by
  have:=gS.dr h hX hf.2 (us:=us) ⟨by simpa using ha.1,fun i a u x y=>ha.2 (i+1) a u (by simpa using x) (by simpa using y)⟩
  refine ⟨by simp [this.1],fun i a w hx hw=>?_⟩
  cases i with
  | zero=>cases hx;cases hw;exact hf.1.dr h hX (ha.2 0 r u rfl rfl)
  | succ i=>exact this.2 i a w (by simpa using hx) (by simpa using hw)
 | [],_ :: _,_,hf,_=>hf.elim
 | _ :: _,[],_,hf,_=>by simp [gS] at hf
theorem gS.Fc {f:FuncId} {a b x y:List AV} (h1:gS hp a x) (h2:gS hp b y):Fq hp (.fn f a b) (.fn f x y):=by
 have key:∀ {a x:List AV},gS hp a x→a.length=x.length∧∀ (i:Nat) (u v:AV),a[i]?=some u→x[i]?=some v→Fq hp u v:=by
  intro a
  induction a with
  | nil =>
   intro x h
   cases x with
   | nil=>exact ⟨rfl,fun i u v hu=>by cases hu⟩
   | cons=>exact h.elim
  | cons r rs ih =>
   intro x h
   cases x with
   | nil=>simp [gS] at h
   | cons v vs =>
    obtain ⟨l,k⟩:=ih h.2
    refine ⟨by simp [l],fun i u w hu hw=>?_⟩
    cases i with
    | zero=>cases hu;cases hw;exact h.1
    | succ i=>exact k i u w (by simpa using hu) (by simpa using hw)
 exact .fn (key h1).1 (key h2).1 (key h1).2 (key h2).2
theorem af.x9 {F F':AV} {args vs:List AV} {v:AV} (h:af T tab one F' vs v) (hF:Fq hp F F') (hz:gS hp args vs) (hfree:dP v) {Q:AV→List AB→bq→Prop} (hq:Q v hp ay):aK T tab one F args hp ay Q:=by
 intro E base H u us hr hf ha
 obtain ⟨hd,h⟩:=h
 obtain ⟨goal,hg,m,L,h1,h2,h3⟩:=h E.X H u us hr.wf (fun k hk=>hr.xn k hk) (hF.dr hr (fun _ h=>h) hf) (hz.dr hr (fun _ h=>h) ha)
 refine ⟨goal,hg,m,L,h1,h2,fun r hm=>?_⟩
 obtain ⟨w,H',rfl,hn,hwf,hsame,hlo,hv⟩:=h3 r hm
 have e:Ext base E hp H E hp H':=⟨hn,rfl,rfl,rfl,fun _ _ _ h=>h,fun _ h=>.inl h,fun k hk _=>hsame k hk,by have:=hr.bn;omega⟩
 refine ⟨w,H',rfl,E,v,hp,ay,hq,⟨hwf,fun j x ver hj hvx=>?_,hr.inj,fun j v k hk=>Nat.lt_of_lt_of_le (hr.rn j v k hk) hn,hr.fresh,hr.new,hr.sup,hr.ic,hr.dx,hr.ds,fun k hk=>Nat.lt_of_lt_of_le (hr.sn k hk) hn,fun k hk=>Nat.lt_of_lt_of_le (hr.xn k hk) hn,hr.nK,Nat.le_trans hr.bn hn,ay.st hr.ay (fun k hk=>hsame k (hr.sn k hk)) hn⟩,.d (hfree.2 _ _ _ _ hv),e.Dj⟩
 rcases hr.fG j x ver hj hvx with ⟨k,b',q1,q2,q3⟩|q
 ·exact .inl ⟨k,b',q1,by rw [hsame k (hr.wf.lt q2)];exact q2,e.br hr.wf q3⟩
 ·exact .inr q
theorem gS.nil:gS hp [] []:=trivial
theorem gS.cons {a x:AV} {as xs:List AV} (h:Fq hp a x) (k:gS hp as xs):gS hp (a :: as) (x :: xs):=⟨h,k⟩
theorem Fq.deep {v:AV} (h:v.deep=true):Fq hp v v:=.fz (.deep h)
end
end Go.RM
namespace Go.RM
open Go
section
variable {T : bf} {tab : List XE} {one : Bool} {mu : Tmp → Bool} {dst : Option Tmp} {fr : Nat → AV} {hp : List AB} {ay : bq} {rd : Bool} {fl : Nat} {KS : bM → Prop}
theorem om {r:Operand} {name:String} {l:List Operand} {tys} {F:AV} (hF:uR T.P (aB fr r) name=F) (h:force F fun F=>dz (l.map (aB fr)) fun as=>aK T tab one F as hp ay fun v hp' amb'=>eH dst fr v fun fr'=>KS ⟨fr',hp',amb',rd,fl⟩) :
  oM T tab one mu dst (.call ⟨.invoke r name,l.toArray,tys⟩) fr hp ay rd fl KS:=by
 subst hF
 exact h
theorem nm {r:Operand} {name:String} {l:List Operand} {tys} {i:Nat} {bt:Nat→Nat} {KD:(Nat→AV)→List AB→(Nat→Nat)→nD→Prop} {F v:AV} {as:List AV} (hp':af T tab true F as v) (hF:uR T.P (aB fr r) name=F) (ha:l.map (aB fr)=as) (hd:F.deep=true) (hda:cA as=true)
  (h:eH dst fr v fun fr'=>KD fr' hp (kj dst bt (i+1)) ⟨i,[],true,true⟩):cT T tab mu dst (.call ⟨.invoke r name,l.toArray,tys⟩) i bt fr hp KD:=by
 show force (uR T.P (aB fr r) name) fun F=>dz (l.map (aB fr)) fun as=>F.deep=true∧∃ vs v,Handed hp as vs v∧af T tab true F vs v∧eH dst fr v fun fr'=>KD fr' hp (kj dst bt (i+1)) ⟨i,[],true,true⟩
 rw [hF,ha]
 exact oQ (mo (P:=fun as=>F.deep=true∧∃ vs v,Handed hp as vs v∧af T tab true F vs v∧eH dst fr v fun fr'=>KD fr' hp (kj dst bt (i+1)) ⟨i,[],true,true⟩) ⟨hd,as,v,.inl ⟨rfl,hda⟩,hp',h⟩)
end
end Go.RM
namespace Go.RM
open Go
section
variable {T : bf} {tab : List XE} {one : Bool} {mu : Tmp → Bool} {KE : Exit → bM → Prop} {st : bM}
theorem A6 {l:List Oper} (hd:l.any uz=false):eV l.toArray=l.length:=by
 unfold eV
 have:l.findIdx? uz=none:=by
  rw [List.findIdx?_eq_none_iff]
  intro x hx
  rw [List.any_eq_false] at hd
  simpa using hd x hx
 simp only [this]
theorem Gf {id:Nat} {l:List Oper} (hd:l.any uz=false) (h:gR T tab mu l.toArray l 0 (fun _=>0) [] st (KE .normal)):m5 T tab one mu (.region id l.toArray true) st KE:=by
 refine c5 (A6 hd) rfl rfl ?_
 rw [List.take_length,List.drop_length]
 exact h
end
end Go.RM
namespace Go.RM
open Go
section
variable {T : bf} {tab : List XE} {one : Bool} {mu : Tmp → Bool} {own : Bool} {fr : Nat → AV} {hp : List AB} {K : AV → List AB → Prop} {t : TypeId} {jg : TypeDesc} {s by' : Nat} {z : Option Value} {agg : Bool} {bE : List (Nat × Nat)} {cY : Nat}
theorem Gg {a:Operand} {cs:List AV} {o:Nat} (ha:aB fr a=.pt cs o) (ht:T.ty.get t=some ⟨jg,s,by',z,true,bE,cY⟩) (hl:Nat.ble (o+s) cs.length=true) (h:K (.ag ((cs.drop o).take s)) hp):wpOp T own (.load t a) fr hp K:=by
 show eG T t (aB fr a) hp K
 unfold eG
 simp only [ha,ht]
 exact ⟨Nat.le_of_ble_eq_true hl,h⟩
theorem Gh {a:Operand} {cs:List AV} {o:Nat} {v:AV} (ha:aB fr a=.pt cs o) (ht:T.ty.get t=some ⟨jg,s,by',z,false,bE,cY⟩) (hv:cs[o]?=some v) (h:K v hp):wpOp T own (.load t a) fr hp K:=by
 show eG T t (aB fr a) hp K
 unfold eG
 simp only [ha,ht]
 exact ⟨v,hv,h⟩
theorem Gi {a:Operand} {j ver o es:Nat} {cs:List AV} (ha:aB fr a=.ptr j ver o) (ht:T.ty.get t=some ⟨jg,s,by',z,true,bE,cY⟩) (hj:hp[j]?=some (.cells cs es ver)) (hl:Nat.ble (o+s) cs.length=true) (h:K (.ag ((cs.drop o).take s)) hp):wpOp T own (.load t a) fr hp K:=by
 show eG T t (aB fr a) hp K
 unfold eG
 simp only [ha,ht]
 exact ⟨cs,es,hj,Nat.le_of_ble_eq_true hl,h⟩
theorem A7 {a:Operand} {j ver o es:Nat} {cs:List AV} {v:AV} (ha:aB fr a=.ptr j ver o) (ht:T.ty.get t=some ⟨jg,s,by',z,false,bE,cY⟩) (hj:hp[j]?=some (.cells cs es ver)) (hv:cs[o]?=some v) (h:K v hp):wpOp T own (.load t a) fr hp K:=by
 show eG T t (aB fr a) hp K
 unfold eG
 simp only [ha,ht]
 exact ⟨cs,es,hj,v,hv,h⟩
theorem Gj {a:Operand} {i:Nat} {cs:List AV} {o off sz:Nat} {fs} (ha:aB fr a=.pt cs o) (ht:T.ty.get t=some ⟨.struct fs,s,by',z,agg,bE,cY⟩) (hf:bE[i]?=some (off,sz)) (h1:Nat.ble 1 sz=true) (h:K (.pt cs (o+off)) hp):wpOp T own (.fieldAddr t a i) fr hp K:=by
 show ig T t (aB fr a) i hp K
 unfold ig
 simp only [ha,ht]
 exact ⟨off,sz,hf,Nat.le_of_ble_eq_true h1,h⟩
theorem Gk {a:Operand} {i:Nat} {j ver o off sz:Nat} {fs} (ha:aB fr a=.ptr j ver o) (ht:T.ty.get t=some ⟨.struct fs,s,by',z,agg,bE,cY⟩) (hf:bE[i]?=some (off,sz)) (h1:Nat.ble 1 sz=true) (h:K (.ptr j ver (o+off)) hp):wpOp T own (.fieldAddr t a i) fr hp K:=by
 show ig T t (aB fr a) i hp K
 unfold ig
 simp only [ha,ht]
 exact ⟨off,sz,hf,Nat.le_of_ble_eq_true h1,h⟩
theorem Gl {v:Value} (ht:T.ty.get t=some ⟨jg,s,by',some v,agg,bE,cY⟩) (h1:v.cells.toList.all aL=true) (h:K (.ptr hp.length 0 0) (hp++[.cells (v.cells.toList.map .fl) 0 0])):wpOp T own (.alloc t) fr hp K:=by
 show oF T t hp K
 unfold oF
 simp only [ht]
 exact ⟨h1,h⟩
theorem FP {x:Operand} (h:force (aB fr x) fun v=>uN own v hp K):wpOp T own (.box t x) fr hp K:=h
theorem Gn {v:AV} (ho:own=false) (h1:v.iZ=true) (h2:v.cells.all AV.one=true) (h3:cA v.cells=true) (h:K (.pt v.cells 0) hp):uN own v hp K:=by
 subst ho
 exact ⟨h1,h2,h3,h⟩
theorem Gp {v:AV} (ho:own=true) (h1:v.iZ=true) (h2:v.cells.all AV.one=true) (h:K (.ptr hp.length 0 0) (hp++[.cells v.cells 0 0])):uN own v hp K:=by
 subst ho
 exact ⟨h1,h2,h⟩
theorem Es {a x:Operand} (h:force (aB fr x) fun v=>di T t (aB fr a) v hp K):wpOp T own (.store t a x) fr hp K:=h
theorem Fe {a v:AV} {j ver o es:Nat} {cs:List AV} (ha:a=.ptr j ver o) (ht:T.ty.get t=some ⟨jg,s,by',z,agg,bE,cY⟩) (hj:hp[j]?=some (.cells cs es ver)) (h1:v.iZ=true) (h2:v.cells.all AV.one=true) (h3:v.cells.length=s) (h4:Nat.ble (o+s) cs.length=true) (h:K .bk (hp.set j (.cells (dh cs v.cells o) es ver))):di T t a v hp K:=by
 unfold di
 simp only [ha,ht]
 exact ⟨cs,es,hj,h1,h2,h3,Nat.le_of_ble_eq_true h4,h⟩
theorem Et {l:List (Nat × Operand)} (h:i5 (l.map fun p=>(p.1,aB fr p.2)) fun ps=>kS T t ps hp K):wpOp T own (.build t l.toArray) fr hp K:=h
theorem Dz {l:List (Nat × Operand)} {len:Nat} (h:i5 (l.map fun p=>(p.1,aB fr p.2)) fun ps=>cL T own t len ps hp K):wpOp T own (.buildSlice t len l.toArray) fr hp K:=h
theorem Gq {P:List (Nat × AV)→Prop} (h:P []):i5 (([]:List (Nat × Operand)).map fun p=>(p.1,aB fr p.2)) P:=h
theorem Gr {i:Nat} {x:Operand} {l:List (Nat × Operand)} {P:List (Nat × AV)→Prop} (h:force (aB fr x) fun a=>i5 (l.map fun p=>(p.1,aB fr p.2)) fun l=>P ((i,a) :: l)):i5 (((i,x) :: l).map fun p=>(p.1,aB fr p.2)) P:=h
theorem FI {v:Value} {parts:List (Nat × AV)} {cs:List AV} (ht:T.ty.get t=some ⟨jg,s,by',some v,true,bE,cY⟩) (h1:v.cells.toList.all aL=true) (h2:xJ (fk jg bE cY) (v.cells.toList.map .fl) parts=some cs) (h:K (.ag cs) hp):kS T t parts hp K:=by
 unfold kS
 simp only [ht]
 exact ⟨h1,cs,h2,h⟩
theorem Gs {len:Nat} {parts:List (Nat × AV)} {inf:ux} (ho:own=false) (hi:elem? T t=some inf) (h1:Nat.ble (len * inf.size) 65536=true) (h2:aZ inf=true) (h3:jB inf.size 0 parts=true) (h4:Nat.beq parts.length len=true) (h5:cA (parts.map (·.2.cells)).flatten=true) (h:K (.sl (parts.map (·.2.cells)) true) hp):cL T own t len parts hp K:=by
 subst ho
 unfold cL
 simp only [hi]
 exact ⟨h1,h2,h3,h4,h5,h⟩
theorem Gt {len:Nat} {parts:List (Nat × AV)} {inf:ux} (ho:own=true) (hi:elem? T t=some inf) (h1:Nat.ble (len * inf.size) 65536=true) (h2:aZ inf=true) (h3:jB inf.size 0 parts=true) (h4:Nat.beq parts.length len=true) (h:K (.bF hp.length 0 0 len len) (hp++[.cells (parts.map (·.2.cells)).flatten inf.size 0])):cL T own t len parts hp K:=by
 subst ho
 unfold cL
 simp only [hi]
 exact ⟨h1,h2,h3,h4,h⟩
theorem Gu {x:Operand} {i:Nat} {vs:List AV} {v:AV} (ha:aB fr x=.tp vs) (hv:vs[i]?=some v) (h:K v hp):wpOp T own (.extract x i) fr hp K:=by
 show iB (aB fr x) i hp K
 rw [ha]
 exact ⟨v,hv,h⟩
theorem F5 {a x:Operand} {e:TypeId} {els:List (List AV)} {f:Bool} {j:Int} {el:List AV} (ha:aB fr a=.sl els f) (hx:aB fr x=.fl (.int .i64 j)) (ht:T.ty.get t=some ⟨.slice e,s,by',z,agg,bE,cY⟩) (hat:els[j.toNat]?=some el) (h0:0≤j) (hl:el.length=cY) (h:K (.pt el 0) hp):wpOp T own (.indexAddr t a x) fr hp K:=by
 show bI T t (aB fr a) (aB fr x) hp K
 rw [ha,hx]
 unfold bI
 simp only [asInt,ht]
 exact ⟨el,⟨h0,hat⟩,hl,h⟩
theorem Gw {a x:Operand} {e:TypeId} {i ver o n c:Nat} {j:Int} (ha:aB fr a=.bF i ver o n c) (hx:aB fr x=.fl (.int .i64 j)) (ht:T.ty.get t=some ⟨.slice e,s,by',z,agg,bE,cY⟩) (h0:0≤j∧j < (n:Int)) (h:K (.ptr i ver (o+j.toNat * cY)) hp):wpOp T own (.indexAddr t a x) fr hp K:=by
 show bI T t (aB fr a) (aB fr x) hp K
 rw [ha,hx]
 unfold bI
 simp only [asInt,ht]
 exact ⟨h0,h⟩
theorem Gx {a x:Operand} {e:TypeId} {len:Nat} {cs:List AV} {o:Nat} {j:Int} (ha:aB fr a=.pt cs o) (hx:aB fr x=.fl (.int .i64 j)) (ht:T.ty.get t=some ⟨.array len e,s,by',z,agg,bE,cY⟩) (h0:0≤j∧j < (len:Int)) (h:K (.pt cs (o+j.toNat * cY)) hp):wpOp T own (.indexAddr t a x) fr hp K:=by
 show bI T t (aB fr a) (aB fr x) hp K
 rw [ha,hx]
 unfold bI
 simp only [asInt,ht]
 exact ⟨h0,h⟩
theorem Gy {a x:Operand} {e:TypeId} {len:Nat} {i ver o:Nat} {j:Int} (ha:aB fr a=.ptr i ver o) (hx:aB fr x=.fl (.int .i64 j)) (ht:T.ty.get t=some ⟨.array len e,s,by',z,agg,bE,cY⟩) (h0:0≤j∧j < (len:Int)) (h:K (.ptr i ver (o+j.toNat * cY)) hp):wpOp T own (.indexAddr t a x) fr hp K:=by
 show bI T t (aB fr a) (aB fr x) hp K
 rw [ha,hx]
 unfold bI
 simp only [asInt,ht]
 exact ⟨h0,h⟩
end
end Go.RM
namespace Go.RM
open Go
section
variable {T : bf} {own : Bool} {fr : Nat → AV} {hp : List AB} {K : AV → List AB → Prop} {t : TypeId}
theorem Gz {l c:Operand} {n:Nat} {inf:ux} (hi:elem? T t=some inf) (hl:aB fr l=.fl (.int .i64 (Int.ofNat n))) (hc:aB fr c=.fl (.int .i64 (Int.ofNat n))) (hb:inf.bytes * n≤140737488355328∧n≤9223372036854775807) (hz:aZ inf=true) (h:K (.bF hp.length 0 0 n n) (hp++[.cells ((cc (zeroCells inf) (n * inf.size)).map .fl) inf.size 0])):wpOp T own (.makeSlice t l c) fr hp K:=by
 show sK T t (aB fr l) (aB fr c) hp K
 unfold sK
 simp only [hi,hl,hc]
 refine ⟨n,n,rfl,rfl,⟨Nat.le_refl _,hb⟩,hz,?_⟩
 rw [show Nat.beq n n=true from Nat.beq_refl n]
 exact h
end
end Go.RM
namespace Go.RM
open Go
section
variable {T : bf} {own : Bool} {fr : Nat → AV} {hp : List AB} {K : AV → List AB → Prop} {s x : Operand} {t u e : TypeId} {a1 a2 a3 a4 a5 a6} {els : List (List AV)} {f : Bool} {inf : ux}
theorem FQ (hs:aB fr s=.fl (.slice none 0 0)) (hx:aB fr x=.sl els f) (hu:T.ty.get u=some ⟨.slice e,a1,a2,a3,a4,a5,a6⟩) (hi:elem? T t=some inf) (hz:aZ inf=true) (ho:own=true) (hel:∀ el ∈ els,el.length=inf.size) (h1:els.flatten.all AV.one=true) (hne:els.isEmpty=false)
  (hb:els.length * inf.bytes≤140737488355328∧els.length≤9223372036854775807) (hk:K (.bF hp.length 0 0 els.length (els.length+1)) (hp++[.cells els.flatten inf.size 0])) :
  RM.wpOp T own (.call ⟨.builtin .append,[s,x].toArray,[t,u].toArray⟩) fr hp K:=by
 subst ho
 show force (aB fr s) fun a=>force (aB fr x) fun b=>gq T true .append [a,b] [t,u] hp K
 rw [hs,hx]
 show (match T.ty.get u with|some ⟨.slice _,_,_,_,_,_,_⟩=>gI T true t (.fl (.slice none 0 0)) (.sl els f) hp K|_=>False)
 rw [hu]
 show gI T true t (.fl (.slice none 0 0)) (.sl els f) hp K
 unfold gI
 rw [hi]
 exact ⟨hz,els,⟨hel,rfl⟩,h1,hb,(fun h=>by rw [h] at hne;cases hne),fun _=>hk⟩
theorem FR {j ver n c:Nat} {cs:List AV} (hs:aB fr s=.bF j ver 0 n c) (hx:aB fr x=.sl els f) (hu:T.ty.get u=some ⟨.slice e,a1,a2,a3,a4,a5,a6⟩) (hi:elem? T t=some inf) (hz:aZ inf=true) (hel:∀ el ∈ els,el.length=inf.size) (h1:els.flatten.all AV.one=true) (hne:els.isEmpty=false) (hj:hp[j]?=some (.cells cs inf.size ver)) (hl:cs.length=n * inf.size) (hc:c=n∨c=n+1)
  (hb:(n+els.length) * inf.bytes≤140737488355328∧n+els.length≤9223372036854775807) (hk:K (.bF j (ver+1) 0 (n+els.length) (n+els.length+1)) (hp.set j (.cells (cs++els.flatten) inf.size (ver+1)))) :
  RM.wpOp T own (.call ⟨.builtin .append,[s,x].toArray,[t,u].toArray⟩) fr hp K:=by
 show force (aB fr s) fun a=>force (aB fr x) fun b=>gq T own .append [a,b] [t,u] hp K
 rw [hs,hx]
 show (match T.ty.get u with|some ⟨.slice _,_,_,_,_,_,_⟩=>gI T own t (.bF j ver 0 n c) (.sl els f) hp K|_=>False)
 rw [hu]
 show gI T own t (.bF j ver 0 n c) (.sl els f) hp K
 unfold gI
 rw [hi]
 exact ⟨hz,els,⟨hel,rfl⟩,h1,cs,hj,hl,hc,hb,(fun h=>by rw [h] at hne;cases hne),fun _=>hk⟩
end
end Go.RM
namespace Go.RM
open Go
theorem Cm {w m n:Nat} (hm:m < 2 ^ w) (hn:n < 2 ^ w):(BitVec.ofInt w (m:Int) &&& BitVec.ofInt w (n:Int)).toNat=m &&& n:=by
 rw [BitVec.toNat_and,BitVec.ofInt_natCast,BitVec.ofInt_natCast,BitVec.toNat_ofNat,BitVec.toNat_ofNat,Nat.mod_eq_of_lt hm,Nat.mod_eq_of_lt hn]
theorem Cn {P:Program} {t:TypeId} {x y:Operand} {m:Nat} (hm:m < 4611686018427387904):eU P .and t x y (.int .i64 (m:Int)) (.int .i64 1)=some (.int .i64 ((m % 2:Nat):Int),.none):=by
 have h:eU P .and t x y (.int .i64 (m:Int)) (.int .i64 ((1:Nat):Int))=some (.int .i64 (IntKind.wrap .i64 ((BitVec.ofInt 64 (m:Int) &&& BitVec.ofInt 64 ((1:Nat):Int)).toNat:Int)),.none):=rfl
 have h1:m &&& 1=m % 2:=Nat.and_one_is_mod m
 show eU P .and t x y (.int .i64 (m:Int)) (.int .i64 ((1:Nat):Int))=_
 rw [h,Cm (by omega) (by omega),h1,wrap_i64 (by omega) (by omega)]
theorem A8 {P:Program} {t:TypeId} {x y:Operand} {j:Nat} (hj:j < 8):eU P .shl t x y (.int .i64 1) (.int .i64 (j:Int))=some (.int .i64 ((2 ^ j:Nat):Int),.none):=by
 match j,hj with
 | 0,_|1,_|2,_|3,_|4,_|5,_|6,_|7,_=>rfl
theorem A9 {P:Program} {t:TypeId} {x y:Operand} {m j:Nat} (hj:j < 8):eU P .shr t x y (.int .i64 (m:Int)) (.int .i64 (j:Int))=some (.int .i64 ((m / 2 ^ j:Nat):Int),.none):=by
 have h:eU P .shr t x y (.int .i64 (m:Int)) (.int .i64 (j:Int))=some (.int .i64 ((m:Int).fdiv (2 ^ j)),.none):=by
  match j,hj with
  | 0,_|1,_|2,_|3,_|4,_|5,_|6,_|7,_=>rfl
 rw [h,Int.fdiv_eq_ediv_of_nonneg _ (Int.pow_nonneg (by decide)),Int.natCast_ediv,Int.natCast_pow]
 rfl
section
variable {T : bf} {a b : AV} {t : TypeId} {x y : Operand} {hp : List AB} {K : AV → List AB → Prop}
theorem z8 {m:Nat} (ha:a=.fl (.int .i64 (m:Int))) (hb:b=.fl (.int .i64 1)) (hm:m < 4611686018427387904) (h:K (.fl (.int .i64 ((m % 2:Nat):Int))) hp):cI T .and t x y a b hp K:=by
 subst ha hb
 exact ⟨.int .i64 ((m % 2:Nat):Int),Cn hm,rfl,h⟩
theorem wg {j:Nat} (ha:a=.fl (.int .i64 1)) (hb:b=.fl (.int .i64 (j:Int))) (hj:j < 8) (h:K (.fl (.int .i64 ((2 ^ j:Nat):Int))) hp):cI T .shl t x y a b hp K:=by
 subst ha hb
 exact ⟨.int .i64 ((2 ^ j:Nat):Int),A8 hj,rfl,h⟩
theorem wh {m j:Nat} (ha:a=.fl (.int .i64 (m:Int))) (hb:b=.fl (.int .i64 (j:Int))) (hj:j < 8) (h:K (.fl (.int .i64 ((m / 2 ^ j:Nat):Int))) hp):cI T .shr t x y a b hp K:=by
 subst ha hb
 exact ⟨.int .i64 ((m / 2 ^ j:Nat):Int),A9 hj,rfl,h⟩
end
end Go.RM
namespace Go.RM
open Go
section
variable {T : bf} {tab : List XE} {one : Bool} {fl base : Nat} {E E' E2 : Env} {hp hp' hp2 : List AB} {ay amb' : bq} {H H' H2 : Hp} {ρ ρ2 : Nat → Nat → Option Nat} {g g2 : ax} {O O2 : Nat → Prop}
abbrev z9 (T:bf) (tab:List XE) (base:Nat) (ops:Array Oper) (c:Nat) (K:bM→Prop) (l:List Oper) (i:Nat) (evs:List Ev) (st:bM) (tr:Nat→dO) (s:St):Prop :=
 ∃ m L,dF T (RX T tab m) ops l (nP T (RX T tab m) ops c) i s evs=some L∧∀ s' ∈ L,∃ E' st',K st'∧st'.fl=st.fl∧mI E' base st' s'∧ji st.fl base (tr 0).E (tr 0).hp (tr 0).H E' st'.hp s'.hp
theorem zn {mu:Tmp→Bool} {ops:Array Oper} {o:Oper} {l:List Oper} {i:Nat} {bt:Nat→Nat} {acc:List nD} {evs:List Ev} {st:bM} {K:bM→Prop} {tr:Nat→dO} {s:St} {c:Nat} {X:List Oper→Nat→(Nat→Nat)→List nD→bM→Prop}
  (hX:∀ {bt:Nat→Nat} {acc:List nD} {evs:List Ev} {st:bM} {tr:Nat→dO} {s:St},X l (i+1) bt acc st→pY base st.ay tr (i+1)→(tr (i+1)).hp=st.hp→(tr (i+1)).H=s.hp→s.rd=st.rd→gx tr (i+1) bt st.fr s.fr→mK tr (i+1) acc evs→z9 T tab base ops c K l (i+1) evs st tr s)
  (h:bC ops.toList o.guard st.fr (cT T tab mu o.dst o.op i bt st.fr st.hp fun fr' hp' bt' x=>X l (i+1) bt' (x :: acc) ⟨fr',hp',st.ay,st.rd,st.fl⟩)
   (eH o.dst st.fr (.tp []) fun fr'=>X l (i+1) (kj o.dst bt 0) (⟨i,[],false,false⟩ :: acc) ⟨fr',st.hp,st.ay,st.rd,st.fl⟩))
  (ht:pY base st.ay tr i) (h1:(tr i).hp=st.hp) (h2:(tr i).H=s.hp) (h3:s.rd=st.rd) (hb:gx tr i bt st.fr s.fr) (he:mK tr i acc evs):z9 T tab base ops c K (o :: l) i evs st tr s:=by
 have hrel:=ht.rel i (Nat.le_refl _)
 have hfr:jN (tr i).E.ρ (tr i).H.get ((tr i).E.O (tr i).hp) st.fr s.fr:=fun t=>(ht.ext _ i (hb t).1 (Nat.le_refl _)).ar (ht.rel _ (hb t).1).wf (hb t).2
 have hz0:(snoc tr i (tr i) 0)=tr 0:=bJ (Nat.zero_le _)
 rcases oO hfr h with ⟨hg,h⟩|⟨hg,h⟩
 ·
  have go:∀ (z:dO) (v:AV) (u:Value) (b:Nat) (x:nD) (t:Tc) (m0:Nat),aC z.E base z.hp st.ay z.H→Ext base (tr i).E (tr i).hp (tr i).H z.E z.hp z.H→b≤i+1→(snoc tr i z b).ar v u→x.i=i→Db (snoc tr i z) x t →
    (∀ m,m0≤m→aU T (RX T tab m) o.op i s=some (u,z.H,t))→X l (i+1) (kj o.dst bt b) (x :: acc) ⟨vW st.fr o.dst v,z.hp,st.ay,st.rd,st.fl⟩ →
    z9 T tab base ops c K (o :: l) i evs st tr s:=by
   intro z v u b x t m0 hz he' hbi hv hxi hx hd hw
   obtain ⟨m,L,r1,r2⟩:=hX (s:=⟨dX s.fr o.dst u,z.H,s.rd⟩) (evs:=⟨o,s,u,z.H,t⟩ :: evs) hw (ht.snoc hz he') (by rw [bD (Nat.lt_succ_self _)]) (by rw [bD (Nat.lt_succ_self _)]) h3 (hb.put hbi hv o.dst) (.cons (he.snoc (Nat.le_refl _)) hxi hx)
   rw [bJ (Nat.zero_le _)] at r2
   refine ⟨max m0 m,L,?_,r2⟩
   rw [dL,hg]
   simp only [cond_true,hd _ (Nat.le_max_left _ _)]
   exact kR (eu (Nat.le_max_right m0 m)) ops (fun _ _ _=>xz (eu (Nat.le_max_right m0 m))) _ _ _ _ _ r1
  unfold cT at h
  split at h
  ·rename_i f args hk
   have h:=ej (bS h)
   obtain ⟨hF,vs,v,hhand,⟨hvd,hpure⟩,h⟩:=h
   have hF':=(vX hfr f).deep hF
   have hget:({s.hp with lo:=s.hp.n}:Hp).get=(tr i).H.get:=by rw [h2];rfl
   obtain ⟨goal,hgo,m0,L,q1,q2,q3⟩:∃ goal,cD (jV T.P s.fr f) (args.map (aO s.fr))=some goal ∧
     ∃ m L,RX T tab m (gz {s.hp with lo:=s.hp.n} goal)=some L∧(true=true→∃ r,L=[r])∧∀ r ∈ L,∃ w H',r=.ret w H' ∧
      ({s.hp with lo:=s.hp.n}:Hp).n≤H'.n∧Wf H'∧(∀ k,k < ({s.hp with lo:=s.hp.n}:Hp).n→H'.get k=({s.hp with lo:=s.hp.n}:Hp).get k)∧min ({s.hp with lo:=s.hp.n}:Hp).lo ({s.hp with lo:=s.hp.n}:Hp).n≤H'.lo∧DR H'.get ((tr i).E.O (tr i).hp) v w:=by
    rcases hhand with ⟨rfl,hA⟩|⟨hz,hfree⟩
    ·have hA':=(dZ hfr args).deep hA
     exact hpure ((tr i).E.O (tr i).hp) {s.hp with lo:=s.hp.n} _ _ (by rw [h2] at hrel;exact hrel.wf) (fun k hk=>by
      have:k < (tr i).H.n:=hk.elim (fun h=>hrel.kg h) (hrel.xn k)
      rw [h2] at this;exact this) (by rw [hget];exact hF') (by rw [hget];exact hA')
    ·obtain ⟨goal,hgo,m0,L,q1,q2,q3⟩:=hpure (tr i).E.X {s.hp with lo:=s.hp.n} _ _ (by rw [h2] at hrel;exact hrel.wf) (fun k hk=>by
      have:k < (tr i).H.n:=hrel.xn k hk
      rw [h2] at this;exact this) (by rw [hget];exact hF'.mono fun k b hk ho=>⟨hk,fun hx=>ho (.inr hx)⟩) (by
       rw [hget]
       rw [←h1] at hz
       exact hz.dr hrel (fun _ h=>h) (dZ hfr args))
     refine ⟨goal,hgo,m0,L,q1,q2,fun r hm=>?_⟩
     obtain ⟨w,H',e1,e2,e3,e4,e5,e6⟩:=q3 r hm
     exact ⟨w,H',e1,e2,e3,e4,e5,hfree.2 _ _ _ _ e6⟩
   obtain ⟨r,hr⟩:=q2 rfl
   subst hr
   obtain ⟨w,H',rfl,hn,hwf,hsame,hlo,hdr⟩:=q3 r (by simp)
   obtain ⟨g1,g2⟩:=hrel.grow (H':={H' with lo:=s.hp.lo}) (by rw [h2];exact hn) hwf (fun k hk=>by
    have:=hsame k (by rw [←h2];exact hk)
    rw [h2];exact this) (by rw [h2];exact Nat.min_le_left _ _)
   refine go ⟨(tr i).E,st.hp,{H' with lo:=s.hp.lo}⟩ v w (i+1) ⟨i,[],true,true⟩ ⟨i,[],[],true,s.hp.n,H'.n⟩ m0 (by rw [←h1];exact g1) (by rw [←h1];exact g2) (Nat.le_refl _) ?_ rfl ?_ (fun m hm=>?_) (eS h)
   ·rw [bD (Nat.lt_succ_self _)]
    refine .d ?_
    show DR H'.get ((tr i).E.O st.hp) v w
    rw [←h1];exact hdr
   ·refine ⟨rfl,by rw [bJ (Nat.le_refl _),h2],by rw [bD (Nat.lt_succ_self _)],fun h=>Bool.noConfusion h,rfl,fun k hk=>(by cases hk),fun k hk=>(by cases hk)⟩
   ·unfold aU
    simp only [hk,hgo,eu hm _ _ q1]
    have:Nat.ble s.hp.n H'.lo=true:=Nat.ble_eq_true_of_le (by
     have:min s.hp.n s.hp.n≤H'.lo:=hlo
     omega)
    rw [this];rfl
  ·exact h.elim
  ·rename_i hk
   obtain ⟨a,hacc,hw⟩:=h
   have hw':=hw
   rw [←h1] at hw'
   obtain ⟨r,w,ht1,ht2,ht3⟩:=zX ht hb hacc hw'
   have evr:∀ (z:dO) (u:Value) (e:bG),iK T s.hp.n o.op (aO s.fr) s.hp.get=some (u,e)→z.H=s.hp.app e→Db (snoc tr i z) ⟨i,a,news? o.op,false⟩ ⟨i,r,w,false,s.hp.n,(s.hp.app e).n⟩:=by
    intro z u e hop hz
    refine ⟨rfl,by rw [bJ (Nat.le_refl _),h2],by rw [bD (Nat.lt_succ_self _),hz],fun hal _=>(uT (xX hop hal)).symm,rfl,fun k hk=>?_,fun k hk=>?_⟩
    ·obtain ⟨p,p1,p2,p3⟩:=ht2 k hk;exact ⟨p,p1,p2,p3.snoc (Nat.le_refl _)⟩
    ·obtain ⟨p,p1,p2,p3⟩:=ht3 k hk;exact ⟨p,p1,p2,p3.snoc (Nat.le_refl _)⟩
   have drw:∀ (u:Value) (e:bG) (m:Nat),iK T s.hp.n o.op (aO s.fr) s.hp.get=some (u,e)→aU T (RX T tab m) o.op i s=some (u,s.hp.app e,⟨i,r,w,false,s.hp.n,(s.hp.app e).n⟩):=by
    intro u e m hop
    unfold aU
    simp only [hk,ht1,hop]
   by_cases hm:∃ x,xV o.op st.fr=some [x]
   ·obtain ⟨x,hm⟩:=hm
    have hbirth:mZ o.op st.fr bt i=v7 bt x:=by unfold mZ;rw [hm]
    have hbx:=hb.eval x
    have eb:=ht.ext _ i hbx.1 (Nat.le_refl _)
    obtain ⟨u,v,r1,r2,r3,r4⟩:=xW (ρ2:=(tr (v7 bt x)).E.ρ) (g2:=(tr (v7 bt x)).H.get) (O2:=(tr (v7 bt x)).E.O (tr (v7 bt x)).hp) (n:=s.hp.n) hfr hm (fun y hy=>by
     obtain rfl:=List.mem_singleton.1 hy;exact hbx.2) (fun k b hk ho=>(eb.keep (ht.rel _ hbx.1).wf k b hk ho).1) hw
    rw [h2] at r1
    have hz:(tr i).H=s.hp.app .none:=h2
    rw [hbirth] at r2
    refine go (tr i) v u (v7 bt x) ⟨i,a,news? o.op,false⟩ ⟨i,r,w,false,s.hp.n,(s.hp.app .none).n⟩ 0 hrel .refl (by omega) (by rw [bJ hbx.1];exact r4) rfl (evr _ u .none r1 hz) (fun m _=>by rw [hz];exact drw u .none m r1) (by rw [h1];exact eS (bS r2))
   ·have hbirth:mZ o.op st.fr bt i=i+1:=by
     unfold mZ
     split
     ·rename_i x hx;exact absurd ⟨x,hx⟩ hm
     ·rfl
    obtain ⟨u,e,E',v,hp',r1,r2,r3,r4,r5⟩:=nB hrel hfr hw'
    rw [h2] at r1 r3 r4 r5
    rw [hbirth] at r2
    refine go ⟨E',hp',s.hp.app e⟩ v u (i+1) ⟨i,a,news? o.op,false⟩ ⟨i,r,w,false,s.hp.n,(s.hp.app e).n⟩ 0 r3 (by rw [h2];exact r4) (Nat.le_refl _) (by rw [bD (Nat.lt_succ_self _)];exact r5) rfl (evr _ u e r1 rfl) (fun m _=>drw u e m r1) (eS (bS r2))
 ·obtain ⟨m,L,r1,r2⟩:=hX (s:=⟨dX s.fr o.dst undef,s.hp,s.rd⟩) (evs:=⟨o,s,undef,s.hp,⟨i,[],[],false,s.hp.n,s.hp.n⟩⟩ :: evs) (eS h) (ht.snoc (z:=tr i) hrel .refl) (by rw [bD (Nat.lt_succ_self _)];exact h1) (by rw [bD (Nat.lt_succ_self _)];exact h2) h3
   (hb.put (Nat.zero_le _) sN o.dst) (.cons (he.snoc (Nat.le_refl _)) rfl ⟨rfl,by rw [bJ (Nat.le_refl _),h2],by rw [bD (Nat.lt_succ_self _),h2],fun _ _=>rfl,rfl,fun k hk=>(by cases hk),fun k hk=>(by cases hk)⟩)
  rw [hz0] at r2
  refine ⟨m,L,?_,r2⟩
  rw [dL,hg]
  exact r1
def Eu (T:bf) (tab:List XE) (mu:Tmp→Bool) (ops:Array Oper) (c:Nat) (K:bM→Prop) (acc:List nD) (st:bM):Prop :=
 match ops.toList[c]? with
 | some o=>match dw o.op with
  | .call f args=>bC ops.toList o.guard st.fr (force (FD T.P st.fr f) fun F=>dz (args.map (aB st.fr)) fun as=>F.deep=true∧∃ vs v,Handed st.hp as vs v∧af T tab false F vs v∧fQ (fW ops) (⟨c,[],true,true⟩ :: acc)=true ∧
   eH o.dst st.fr v fun fr'=>wpOps T tab false mu ops.toList (ops.toList.drop (c+1)) ⟨fr',st.hp,st.ay,st.rd,st.fl⟩ K) False
  | _=>False
 | none=>False
def fh (T:bf) (tab:List XE) (mu:Tmp→Bool) (ops:Array Oper) (c:Nat) (K:bM→Prop):List Oper→Nat→(Nat→Nat)→List nD→bM→Prop
 | [],i,_,acc,st=>i=c∧Eu T tab mu ops c K acc st
 | ⟨dst,op,_,_,_,gd⟩ :: l,i,bt,acc,⟨fr,hp,ay,rd,fl⟩ =>
  bC ops.toList gd fr (cT T tab mu dst op i bt fr hp fun fr' hp' bt' x=>fh T tab mu ops c K l (i+1) bt' (x :: acc) ⟨fr',hp',ay,rd,fl⟩)
   (eH dst fr (.tp []) fun fr'=>fh T tab mu ops c K l (i+1) (kj dst bt 0) (⟨i,[],false,false⟩ :: acc) ⟨fr',hp,ay,rd,fl⟩)
theorem m6 {mu:Tmp→Bool} {ops:Array Oper} {c:Nat} {K:bM→Prop}:∀ {l:List Oper} {i:Nat} {bt:Nat→Nat} {acc:List nD} {evs:List Ev} {st:bM} {tr:Nat→dO} {s:St},fh T tab mu ops c K l i bt acc st →
  pY base st.ay tr i→(tr i).hp=st.hp→(tr i).H=s.hp→s.rd=st.rd→gx tr i bt st.fr s.fr→mK tr i acc evs→z9 T tab base ops c K l i evs st tr s
 | o :: l,i,bt,acc,evs,st,tr,s,h,ht,h1,h2,h3,hb,he=>zn (X:=fun l i bt acc st=>fh T tab mu ops c K l i bt acc st) (fun h=>m6 h) h ht h1 h2 h3 hb he
 | [],i,bt,acc,evs,st,tr,s,h,ht,h1,h2,h3,hb,he=>by
  obtain ⟨rfl,h⟩:=h
  have hrel:=ht.rel i (Nat.le_refl _)
  have hfr:jN (tr i).E.ρ (tr i).H.get ((tr i).E.O (tr i).hp) st.fr s.fr:=fun t=>(ht.ext _ i (hb t).1 (Nat.le_refl _)).ar (ht.rel _ (hb t).1).wf (hb t).2
  unfold Eu at h
  split at h
  ·rename_i o ho
   split at h
   ·rename_i f args hk
    rcases oO hfr h with ⟨hg,h⟩|⟨_,h⟩
    case inr=>exact h.elim
    have h:=ej (bS h)
    obtain ⟨hF,vs,v,hhand,⟨hvd,hpure⟩,hchk,h⟩:=h
    have h:=eS h
    have hF':=(vX hfr f).deep hF
    have hget:({s.hp with lo:=s.hp.n}:Hp).get=(tr i).H.get:=by rw [h2];rfl
    obtain ⟨goal,hgo,m0,R,q1,q2,q3⟩:∃ goal,cD (jV T.P s.fr f) (args.map (aO s.fr))=some goal ∧
      ∃ m L,RX T tab m (gz {s.hp with lo:=s.hp.n} goal)=some L∧(false=true→∃ r,L=[r])∧∀ r ∈ L,∃ w H',r=.ret w H' ∧
       ({s.hp with lo:=s.hp.n}:Hp).n≤H'.n∧Wf H'∧(∀ k,k < ({s.hp with lo:=s.hp.n}:Hp).n→H'.get k=({s.hp with lo:=s.hp.n}:Hp).get k)∧min ({s.hp with lo:=s.hp.n}:Hp).lo ({s.hp with lo:=s.hp.n}:Hp).n≤H'.lo∧DR H'.get ((tr i).E.O (tr i).hp) v w:=by
     rcases hhand with ⟨rfl,hA⟩|⟨hz,hfree⟩
     ·have hA':=(dZ hfr args).deep hA
      exact hpure ((tr i).E.O (tr i).hp) {s.hp with lo:=s.hp.n} _ _ (by rw [h2] at hrel;exact hrel.wf) (fun k hk=>by
       have:k < (tr i).H.n:=hk.elim (fun h=>hrel.kg h) (hrel.xn k)
       rw [h2] at this;exact this) (by rw [hget];exact hF') (by rw [hget];exact hA')
     ·obtain ⟨goal,hgo,m0,L,q1,q2,q3⟩:=hpure (tr i).E.X {s.hp with lo:=s.hp.n} _ _ (by rw [h2] at hrel;exact hrel.wf) (fun k hk=>by
        have:k < (tr i).H.n:=hrel.xn k hk
        rw [h2] at this;exact this) (by rw [hget];exact hF'.mono fun k b hk ho=>⟨hk,fun hx=>ho (.inr hx)⟩) (by
        rw [hget]
        rw [←h1] at hz
        exact hz.dr hrel (fun _ h=>h) (dZ hfr args))
      refine ⟨goal,hgo,m0,L,q1,q2,fun r hm=>?_⟩
      obtain ⟨w,H',e1,e2,e3,e4,e5,e6⟩:=q3 r hm
      exact ⟨w,H',e1,e2,e3,e4,e5,hfree.2 _ _ _ _ e6⟩
    have hone:∀ r ∈ R,∃ w H',r=.ret w H'∧rD i s r=some [(w,({H' with lo:=s.hp.lo}:Hp),(⟨i,[],[],true,s.hp.n,H'.n⟩:Tc))] ∧
      cX T ops (⟨o,s,w,{H' with lo:=s.hp.lo},⟨i,[],[],true,s.hp.n,H'.n⟩⟩ :: evs)=true ∧
      mI (tr i).E base ⟨vW st.fr o.dst v,st.hp,st.ay,st.rd,st.fl⟩ ⟨dX s.fr o.dst w,{H' with lo:=s.hp.lo},s.rd⟩∧Ext base (tr 0).E (tr 0).hp (tr 0).H (tr i).E st.hp {H' with lo:=s.hp.lo}:=fun r hr=>by
     obtain ⟨w,H',rfl,hn,hwf,hsame,hlo,hdr⟩:=q3 r hr
     obtain ⟨g1,g2⟩:=hrel.grow (H':={H' with lo:=s.hp.lo}) (by rw [h2];exact hn) hwf (fun k hk=>by
      have:=hsame k (by rw [←h2];exact hk)
      rw [h2];exact this) (by rw [h2];exact Nat.min_le_left _ _)
     rw [h1] at g1 g2
     have hble:Nat.ble s.hp.n H'.lo=true:=Nat.ble_eq_true_of_le (by
      have:min s.hp.n s.hp.n≤H'.lo:=hlo
      omega)
     let z:dO:=⟨(tr i).E,st.hp,{H' with lo:=s.hp.lo}⟩
     have htz:pY base st.ay (snoc tr i z) (i+1):=ht.snoc (z:=z) g1 (by rw [h1];exact g2)
     have hev:mK (snoc tr i z) (i+1) (⟨i,[],true,true⟩ :: acc) (⟨o,s,w,{H' with lo:=s.hp.lo},⟨i,[],[],true,s.hp.n,H'.n⟩⟩ :: evs) :=
      .cons (he.snoc (Nat.le_refl _)) rfl ⟨rfl,by rw [bJ (Nat.le_refl _),h2],by rw [bD (Nat.lt_succ_self _)],fun h=>Bool.noConfusion h,rfl,fun k hk=>(by cases hk),fun k hk=>(by cases hk)⟩
     refine ⟨w,H',rfl,?_,?_,⟨g1,h3,fun t=>?_⟩,?_⟩
     ·show (bif Nat.ble s.hp.n H'.lo then _ else none)=_
      rw [hble];rfl
     ·unfold cX
      generalize hE:((⟨o,s,w,{H' with lo:=s.hp.lo},⟨i,[],[],true,s.hp.n,H'.n⟩⟩:Ev) :: evs)=evs' at *
      cases (evs'.all fun e=>e.t.wr.isEmpty && Nat.beq e.t.a e.t.b) with
      | true=>rfl
      | false=>exact hev.pairs htz (Nat.le_refl _) hchk
     ·have hb':=(hb.put (z:=z) (v:=v) (u:=w) (Nat.le_refl _) (by
       rw [bD (Nat.lt_succ_self _)]
       refine .d ?_
       show DR H'.get ((tr i).E.O st.hp) v w
       rw [←h1];exact hdr) o.dst) t
      have:=(htz.ext _ (i+1) hb'.1 (Nat.le_refl _)).ar (htz.rel _ hb'.1).wf hb'.2
      rw [bD (Nat.lt_succ_self _)] at this
      exact this
     ·have:=htz.ext 0 (i+1) (Nat.zero_le _) (Nat.le_refl _)
      rw [bJ (Nat.zero_le _),bD (Nat.lt_succ_self _)] at this
      exact this
    obtain ⟨P,hP⟩:∃ P,bX R (rD i s)=some P:=by
     obtain ⟨_,M,_,hM,_⟩:=dN (one:=false) (L:=R) (f:=fun _ r=>rD i s r) (P:=fun _=>True) (fun _ _ _ _ _ h=>h) 0 (fun h=>Bool.noConfusion h) (fun r hr=>by
      obtain ⟨w,H',_,e,_⟩:=hone r hr
      exact ⟨0,_,e,fun h=>Bool.noConfusion h,fun _ _=>trivial⟩)
     exact ⟨M,hM⟩
    have hPr:∀ p ∈ P,∃ w H',p=(w,({H' with lo:=s.hp.lo}:Hp),(⟨i,[],[],true,s.hp.n,H'.n⟩:Tc))∧fc.ret w H' ∈ R:=fun p hp=>by
     obtain ⟨r,hr,Pr,e1,e2⟩:=fo hP p hp
     obtain ⟨w,H',rfl,e3,_⟩:=hone r hr
     rw [e3] at e1
     cases e1
     exact ⟨w,H',List.mem_singleton.1 e2,hr⟩
    obtain ⟨m,L,hm,hL,_,hLs⟩:=dN (one:=false) (L:=P) (f:=fun m (p:Value × Hp × Tc)=>aR T (RX T tab m) ops.toList (ops.toList.drop (i+1)) ⟨dX s.fr o.dst p.1,p.2.1,s.rd⟩)
     (P:=fun s'=>∃ E' st',K st'∧st'.fl=st.fl∧mI E' base st' s'∧ji st.fl base (tr 0).E (tr 0).hp (tr 0).H E' st'.hp s'.hp) (fun a b x M hab hx=>gk (eu hab) _ _ _ _ hx) m0 (fun h=>Bool.noConfusion h) (fun p hp=>by
      obtain ⟨w,H',rfl,hr⟩:=hPr p hp
      obtain ⟨w',H'',e0,_,_,hrel2,hext⟩:=hone _ hr
      cases e0
      obtain ⟨m2,L2,k1,k2,k3⟩:=gJ h hrel2
      refine ⟨m2,L2,k1,fun h=>Bool.noConfusion h,fun s' hs'=>?_⟩
      obtain ⟨E2,st2,j1,j2,j3,j4⟩:=k3 s' hs'
      exact ⟨E2,st2,j1,j2,j3,hext.Dj.trans j4⟩)
    refine ⟨m,L,?_,hLs⟩
    rw [tP]
    unfold nP
    have hdm:gA T (RX T tab m) ops o i s=some P:=by
     unfold gA
     rw [hg,cond_true]
     unfold cZ
     simp only [hk,hgo,eu hm _ _ q1]
     exact hP
    simp only [ho,hdm]
    have hall:(P.all fun p=>cX T ops (⟨o,s,p.1,p.2.1,p.2.2⟩ :: evs))=true:=by
     rw [List.all_eq_true]
     intro p hp
     obtain ⟨w,H',rfl,hr⟩:=hPr p hp
     obtain ⟨w',H'',e0,_,hd,_⟩:=hone _ hr
     cases e0
     exact hd
    rw [hall]
    exact hL
   ·exact h.elim
  ·exact h.elim
theorem av.nd {id:Nat} (c:Nat) {l:List Oper} {mu:Tmp→Bool} {st:bM} {K:Exit→bM→Prop} (hc:qG l.toArray=some c) (h:fh T tab mu l.toArray c (K .normal) (l.take c) 0 (fun _=>0) [] st):av T tab false (.region id l.toArray true) st K:=by
 intro E base s hs
 obtain ⟨m,L,r1,r2⟩:=m6 (base:=base) (tr:=fun _=>⟨E,st.hp,s.hp⟩) (evs:=[]) h ⟨fun _ _=>hs.h,fun _ _ _ _=>.refl⟩ rfl rfl hs.rd (fun t=>⟨Nat.le_refl _,hs.fr t⟩) .nil
 refine ⟨m,L.map fun s=>(.normal,s),?_,fun h1=>Bool.noConfusion h1,fun p hp=>?_⟩
 ·rw [eR]
  have:bP T (RX T tab m) l.toArray s=some L:=by
   unfold bP
   rw [hc]
   exact r1
  simp only [cond_true,this]
 ·obtain ⟨s2,hm,rfl⟩:=List.mem_map.1 hp
  obtain ⟨E2,st2,k1,k2,k3,k4⟩:=r2 s2 hm
  exact ⟨E2,st2,k1,k2,k3,k4⟩
section
variable {mu : Tmp → Bool} {ops : Array Oper} {K : bM → Prop} {c i : Nat} {bt : Nat → Nat} {acc : List nD} {fr : Nat → AV} {rd : Bool}
theorem GA {dst:Option Tmp} {op:Op} {a1 a2 a3 gd} {l:List Oper} (h:bC ops.toList gd fr (cT T tab mu dst op i bt fr hp fun fr' hp' bt' x=>fh T tab mu ops c K l (i+1) bt' (x :: acc) ⟨fr',hp',ay,rd,fl⟩)
 (eH dst fr (.tp []) fun fr'=>fh T tab mu ops c K l (i+1) (kj dst bt 0) (⟨i,[],false,false⟩ :: acc) ⟨fr',hp,ay,rd,fl⟩)):fh T tab mu ops c K (⟨dst,op,a1,a2,a3,gd⟩ :: l) i bt acc ⟨fr,hp,ay,rd,fl⟩:=h
theorem F6 {d:Option Tmp} {f:Operand} {as:List Operand} {tys} {a1 a2 a3 gd} {F v:AV} {vals vs:List AV} (ho:ops.toList[c]?=some ⟨d,.call ⟨.value f,as.toArray,tys⟩,a1,a2,a3,gd⟩) (hi:i=c) (hgd:∀ X:Prop,X→bC ops.toList gd fr X False) (hpv:af T tab false F vs v) (hf:aB fr f=F) (ha:as.map (aB fr)=vals) (hF:F.deep=true) (hz:Handed hp vals vs v)
  (hchk:fQ (fW ops) (⟨c,[],true,true⟩ :: acc)=true) (h:eH d fr v fun fr'=>wpOps T tab false mu ops.toList (ops.toList.drop (c+1)) ⟨fr',hp,ay,rd,fl⟩ K):fh T tab mu ops c K [] i bt acc ⟨fr,hp,ay,rd,fl⟩:=by
 refine ⟨hi,?_⟩
 unfold Eu
 simp only [ho]
 refine hgd _ ?_
 show force (aB fr f) fun F=>dz (as.map (aB fr)) fun as=>F.deep=true∧∃ vs v,Handed hp as vs v∧af T tab false F vs v∧fQ (fW ops) (⟨c,[],true,true⟩ :: acc)=true ∧
   eH d fr v fun fr'=>wpOps T tab false mu ops.toList (ops.toList.drop (c+1)) ⟨fr',hp,ay,rd,fl⟩ K
 rw [hf,ha]
 exact oQ (mo (P:=fun as=>F.deep=true∧∃ vs v,Handed hp as vs v∧af T tab false F vs v∧fQ (fW ops) (⟨c,[],true,true⟩ :: acc)=true ∧
   eH d fr v fun fr'=>wpOps T tab false mu ops.toList (ops.toList.drop (c+1)) ⟨fr',hp,ay,rd,fl⟩ K) ⟨hF,vs,v,hz,hpv,hchk,h⟩)
end
end
end Go.RM
namespace Go.RM
open Go
section
variable {T : bf} {tab : List XE} {fl : Nat} {hp : List AB} {ay : bq} {mu : Tmp → Bool} {c i : Nat} {bt : Nat → Nat} {acc : List nD} {fr : Nat → AV} {rd : Bool}
theorem av.FF {id:Nat} (c:Nat) {l l1:List Oper} {st:bM} {K:Exit→bM→Prop} (hc:qG l.toArray=some c) (h1:l.take c=l1) (h:fh T tab mu l.toArray c (K .normal) l1 0 (fun _=>0) [] st):av T tab false (.region id l.toArray true) st K:=by
 subst h1
 exact av.nd c hc h
theorem FT {ops:List Oper} {K:bM→Prop} {d:Option Tmp} {f:Operand} {as:List Operand} {tys} {a1 a2 a3} {F v:AV} {vals vs:List AV} {l2:List Oper} {k:Nat} (ho:ops[c]?=some ⟨d,.call ⟨.value f,as.toArray,tys⟩,a1,a2,a3,none⟩) (hk:c+1=k) (hd:ops.drop k=l2) (hi:i=c) (hpv:af T tab false F vs v) (hf:aB fr f=F) (ha:as.map (aB fr)=vals) (hF:F.deep=true) (hz:Handed hp vals vs v)
  (hchk:fQ (fW ops.toArray) (⟨c,[],true,true⟩ :: acc)=true) (h:eH d fr v fun fr'=>wpOps T tab false mu ops l2 ⟨fr',hp,ay,rd,fl⟩ K):fh T tab mu ops.toArray c K [] i bt acc ⟨fr,hp,ay,rd,fl⟩:=by
 subst hk;subst hd
 exact F6 ho hi (fun _ h=>h) hpv hf ha hF hz hchk h
theorem GB {ops:List Oper} {K:bM→Prop} {d:Option Tmp} {f:Operand} {as:List Operand} {tys} {a1 a2 a3 gd} {F v:AV} {vals vs:List AV} {l2:List Oper} {k:Nat} (ho:ops[c]?=some ⟨d,.call ⟨.value f,as.toArray,tys⟩,a1,a2,a3,gd⟩) (hk:c+1=k) (hd:ops.drop k=l2) (hi:i=c) (hgd:∀ X:Prop,X→bC ops gd fr X False) (hpv:af T tab false F vs v) (hf:aB fr f=F) (ha:as.map (aB fr)=vals) (hF:F.deep=true) (hz:Handed hp vals vs v)
  (hchk:fQ (fW ops.toArray) (⟨c,[],true,true⟩ :: acc)=true) (h:eH d fr v fun fr'=>wpOps T tab false mu ops l2 ⟨fr',hp,ay,rd,fl⟩ K):fh T tab mu ops.toArray c K [] i bt acc ⟨fr,hp,ay,rd,fl⟩:=by
 subst hk;subst hd
 exact F6 ho hi hgd hpv hf ha hF hz hchk h
end
end Go.RM
namespace Go.RM
structure Hd (h:Prop):Prop where
 x:h
theorem u1 {g h : Prop} (q : h) (k : Hd h → g := by
    intro hd
    first
    | with_reducible (first | refine RM.c1 ?_ | refine RM.c2 ?_ | refine RM.c3 ?_ | refine RM.c4 ?_ | refine RM.c6 ?_ | refine RM.c7 ?_ | refine RM.c8 ?_ | refine RM.c9 ?_ | refine RM.d1 ?_ | refine RM.d2 ?_ | refine RM.d3 ?_ | refine RM.d4 ?_ | refine RM.d7 ?_ | refine RM.d8 ?_ | refine RM.d9 ?_ | refine RM.o1 ?_ | refine RM.o2 ?_ | refine RM.o3 ?_ | refine RM.o4 ?_ | refine RM.o5 ?_ | refine RM.o6 ?_ | refine RM.o7 ?_ | refine RM.o9 ?_ | refine RM.p1 ?_ | refine RM.p2 ?_ | refine RM.p3 ?_ | refine RM.p4 ?_ | refine RM.p5 ?_ | refine RM.p6 ?_ | refine RM.p7 ?_ | refine RM.p8 ?_ | refine RM.q1 ?_ | refine RM.q2 ?_ | refine RM.FP ?_ | refine RM.Es ?_ | refine RM.Et ?_ | refine RM.Dz ?_ | refine RM.Gq ?_ | refine RM.Gr ?_ | refine RM.GA ?_)
    | ((with_reducible show force _ _); first | refine RM.f1 rfl ?_ | refine RM.f2 rfl ?_ | refine RM.f3 rfl ?_ | refine RM.f4 rfl ?_ | refine RM.f5 rfl ?_ | refine RM.f6 rfl ?_ | refine RM.f7 rfl ?_ | refine RM.f8 rfl ?_ | refine RM.f9 rfl ?_ | refine RM.g1 rfl ?_ | refine RM.g2 rfl ?_)
    | ((with_reducible show RM.wpOp _ _ _ _ _ _); first
      | ((with_reducible show RM.wpOp _ _ (.load _ _) _ _ _); first | refine RM.Gh rfl rfl rfl ?_ | refine RM.Gg rfl rfl rfl ?_ | refine RM.A7 rfl rfl rfl rfl ?_ | refine RM.Gi rfl rfl rfl rfl ?_)
      | ((with_reducible show RM.wpOp _ _ (.fieldAddr _ _ _) _ _ _); first | refine RM.Gj rfl rfl rfl rfl ?_ | refine RM.Gk rfl rfl rfl rfl ?_)
      | ((with_reducible show RM.wpOp _ _ (.alloc _) _ _ _); refine RM.Gl rfl rfl ?_)
      | ((with_reducible show RM.wpOp _ _ (.extract _ _) _ _ _); refine RM.Gu rfl rfl ?_)
      | ((with_reducible show RM.wpOp _ _ (.indexAddr _ _ _) _ _ _); first | refine RM.F5 rfl rfl rfl (by assumption) (by omega) rfl ?_ | refine RM.F5 rfl rfl rfl rfl (by omega) rfl ?_ | refine RM.Gw rfl rfl rfl (by omega) ?_ | refine RM.Gx rfl rfl rfl (by omega) ?_ | refine RM.Gy rfl rfl rfl (by omega) ?_)
      | ((with_reducible show RM.wpOp _ _ (.makeSlice _ _ _) _ _ _); refine RM.Gz rfl rfl rfl (by decide) rfl ?_)
      | ((with_reducible show RM.wpOp _ _ (.unOp _ _ _) _ _ _); refine RM.n3 rfl ?_)
      | ((with_reducible show RM.wpOp _ _ (.call _) _ _ _); first | refine RM.n4 rfl rfl ?_ | refine RM.n5 rfl rfl ?_))
    | ((with_reducible show m5 _ _ _ _ (.region _ _ true) _ _); first | refine RM.Gf rfl ?_ | refine RM.c5 (by kernel_rfl) rfl rfl ?_)
    | ((with_reducible show oM _ _ _ _ _ _ _ _ _ _ _ _); refine RM.o8 rfl ?_)
    | ((with_reducible show cT _ _ _ _ _ _ _ _ _ _); first | refine RM.p9 rfl ?_ | refine RM.n1 ?_)
    | ((with_reducible show bC _ _ _ _ _); first | refine lP rfl rfl rfl ?_ | refine sS rfl rfl rfl ?_ | refine v9 rfl rfl ?_ | refine lP rfl rfl (by assumption) ?_ | refine sS rfl rfl (by assumption) ?_)
    | ((with_reducible show m5 _ _ _ _ (.cond _ _ _) _ _); first | refine RM.e2 rfl rfl ?_ | refine RM.e3 rfl rfl ?_ | refine RM.e2 rfl (by assumption) ?_ | refine RM.e3 rfl (by assumption) ?_)
    | ((with_reducible show pS _ _ _ _ _); refine RM.k1 rfl ?_)
    | ((with_reducible show ij _ _ _ _ _); first | refine RM.k2 rfl ?_ | refine RM.k3 rfl ?_ | refine RM.k2 (by assumption) ?_ | refine RM.k3 (by assumption) ?_ | refine RM.k4 rfl rfl ?_)
    | ((with_reducible show cI _ _ _ _ _ _ _ _ _); first | refine RM.b4 rfl rfl ?_ | refine RM.b5 rfl rfl ?_ | refine RM.b6 rfl rfl ?_ | refine RM.b7 rfl rfl ?_ | refine RM.b8 rfl rfl ?_ | refine RM.b9 rfl rfl ?_ | refine RM.b1 rfl rfl (by omega) ?_ | refine RM.b2 rfl rfl (by omega) ?_ | refine RM.b3 rfl rfl (by omega) ?_ | refine RM.r1 rfl rfl (by omega) ?_ | refine RM.r2 rfl rfl (by omega) ?_)
    | ((with_reducible show oI _ _ _ _ _); first | refine RM.l1 rfl ?_ | refine RM.l2 rfl ?_)
    | ((with_reducible show oH _ _ _); first | refine RM.l3 rfl ?_ | refine RM.l4 rfl ?_)
    | ((with_reducible show gQ _ _ _ _); first | refine RM.d5 rfl ?_ | refine RM.d6 rfl ?_)
    | ((with_reducible show uN _ _ _ _); first | refine RM.Gn rfl rfl rfl rfl ?_ | refine RM.Gp rfl rfl rfl ?_)
    | ((with_reducible show di _ _ _ _ _ _); refine RM.Fe rfl rfl rfl rfl rfl rfl rfl ?_)
    | ((with_reducible show kS _ _ _ _ _); refine RM.FI rfl rfl rfl ?_)
    | ((with_reducible show cL _ _ _ _ _ _ _); first | refine RM.Gs rfl rfl rfl rfl rfl rfl rfl ?_ | refine RM.Gt rfl rfl rfl rfl rfl rfl ?_)
    | ((with_reducible show aK _ _ _ _ _ _ _ _); refine af.call (by assumption) rfl rfl ?_)
    | ((with_reducible show fQ _ _ = true ∧ _); refine And.intro (by kernel_rfl) ?_)
    | ((with_reducible show ∃ _, Cc _ _ _ = some _ ∧ _); refine ⟨_, rfl, ?_⟩)
    | ((with_reducible show AV.deep _ = true ∧ _); refine ⟨rfl, rfl, ?_⟩)
    | ((with_reducible show ∃ _, af _ _ _ _ _ _ ∧ _); refine ⟨_, by assumption, ?_⟩)
    exact hd.x) : g := k ⟨q⟩
theorem u2 {g h:Prop} (q:h) (k:Hd h→g:=by
 intro hd
 first
 | refine ⟨_,rfl,?_⟩
 | refine ⟨_,_,rfl,by decide,?_⟩
 | refine ⟨rfl,rfl,rfl,?_⟩
 | refine ⟨rfl,rfl,?_⟩
 | refine ⟨_,_,rfl,_,rfl,?_⟩
 | refine And.intro (Nat.le_of_ble_eq_true rfl) ?_
 | refine And.intro (by omega) ?_
 | refine ⟨_,_,rfl,rfl,_,rfl,rfl,?_⟩
 | refine And.intro (by kernel_rfl) ?_
 | refine ⟨rfl,rfl,rfl,rfl,rfl,?_⟩
 | refine ⟨_,_,rfl,rfl,rfl,rfl,Nat.le_of_ble_eq_true rfl,?_⟩
 | refine ⟨_,_,rfl,Nat.le_of_ble_eq_true rfl,?_⟩
 exact hd.x):g:=k ⟨q⟩
end Go.RM
namespace Go.RM
open Go Go.ChangeShapes Go.WideShapes Go.ChangeAt Go.RowKit
section
variable {P : Program} {D : Type} {enc : TypeId × Value → D}
theorem ng (hl:laidOutB P=true) {W W':World} (hb:Below W.heap.size W W'):∀ {ts:List TypeId} {vs:List Value} {ds:List (DataW D)} {ps:List MemPlace},(ts.all fun t=>P.readableRec t && decide (t < P.types.size))=true →
  DataW.TrodAll enc P W 0 (fun _=>true) true ts vs ds ps→(∀ p ∈ ps,p.block < W.heap.size)→∀ sp:Nat→Bool,(∀ p ∈ ps,sp p.block=true)→DataW.TrodAll enc P W' 0 sp true ts vs ds ps
 | [],[],[],ps,_,h,_,sp,_=>h
 | t :: ts,v :: vs,d :: ds,ps,hr,h,hlt,sp,hs=>by
  obtain ⟨p,q,h1,h2,rfl⟩:=h
  simp only [List.all_cons,Bool.and_eq_true,decide_eq_true_eq] at hr
  refine ⟨p,q,WideElems.Trod_stays hl hr.1.1 hr.1.2 h1 (fun x hx=>hb.same (hlt x (List.mem_append_left _ hx))) (fun x hx=>hs x (List.mem_append_left _ hx)),?_,rfl⟩
  exact ng hl hb hr.2 h2 (fun x hx=>hlt x (List.mem_append_right _ hx)) sp (fun x hx=>hs x (List.mem_append_right _ hx))
 | [],_ :: _,_,_,_,h,_,_,_=>by simp [DataW.TrodAll] at h
 | [],[],_ :: _,_,_,h,_,_,_=>by simp [DataW.TrodAll] at h
 | _ :: _,[],_,_,_,h,_,_,_=>by simp [DataW.TrodAll] at h
 | _ :: _,_ :: _,[],_,_,h,_,_,_=>by simp [DataW.TrodAll] at h
theorem qF {W:World} {base:Nat} {spare:Nat→Bool} {held:Bool}:∀ {ts:List TypeId} {vs:List Value} {ds:List (DataW D)} {ps:List MemPlace},DataW.TrodAll enc P W base spare held ts vs ds ps→ds.length=ts.length
 | [],[],[],_,_=>rfl
 | _ :: _,_ :: _,_ :: _,_,h=>by
  obtain ⟨p,q,_,h2,_⟩:=h
  simp [qF h2]
 | [],_ :: _,_,_,h=>by simp [DataW.TrodAll] at h
 | [],[],_ :: _,_,h=>by simp [DataW.TrodAll] at h
 | _ :: _,[],_,_,h=>by simp [DataW.TrodAll] at h
 | _ :: _,_ :: _,[],_,h=>by simp [DataW.TrodAll] at h
theorem C7 (hl:laidOutB P=true) {f:FuncId} {fn:Func} {s:ChangeSpec} {tb:TypeId} (hr:(fn.params.toList.all fun t=>P.readableRec t && decide (t < P.types.size))=true) (hres:fn.resultTypes=#[tb])
  (hb:P.underlying tb=some .bool) (hv:s.vars=[]) (hs:∀ (ds:List (DataW D)),ds.length=fn.params.toList.length→s.fn D ds={results:=[.lit (.bool true)],args:=ds})
  {W:World} {args:Array Value} {ds gs:List (DataW D)} {before:List MemPlace} (hW:DataW.Whole enc P fn.params.toList s.vars false W args.toList ds gs before)
  (hc:Calls P f args W fun e w'=>e=.returned (.bool true)∧Below W.heap.size W w') :
  Calls P f args W fun e W'=>∃ v,e=.returned v∧s.post enc P fn false true false false W args v W':=by
 have hlt:=hW.lt
 have hW':=hW
 obtain ⟨p,q,hA,hV,rfl,hfz,hnd⟩:=hW
 rw [hv] at hV
 obtain ⟨rfl,rfl⟩:=trodVars_none hV
 have hds:=hs ds (qF hA)
 refine hc.mono fun e W' ⟨he,hw⟩=>?_
 subst he
 have hp:∀ x ∈ p,x.block < W.heap.size:=fun x hx=>hlt x (List.mem_append_left _ hx)
 have hold:∀ x ∈ p,(fun b=>decide (b < W.heap.size)) x.block=true:=fun x hx=>by simpa using hp x hx
 have hone:DataW.TrodAll enc P W' 0 (fun _=>false) false fn.resultTypes.toList ((Value.bool true).resultList fn.resultTypes.size) [.lit (.bool true)] []:=by
  rw [hres]
  exact trodAll_mk1 (shut_bool hb true)
 have hone':DataW.TrodAll enc P W' 0 (fun _=>true) true fn.resultTypes.toList ((Value.bool true).resultList fn.resultTypes.size) [.lit (.bool true)] []:=by
  rw [hres]
  exact trodAll_mk1 (shut_bool hb true)
 have hnow:=ng hl hw hr hA hp
 simp only [List.append_nil] at hW' hfz hnd
 refine ⟨_,rfl,ds,[],p,[],p,[],by simpa using hW',?_,?_,?_,hw.frame _,fun _=>⟨ok_one hres rfl (okWide_bool_mk hb true),_,[],([]++p)++[],⟨[]++p,[],trodAll_append (hnow _ (fun _ _=>rfl)) hone',?_,rfl,?_,?_⟩,?_⟩⟩
 ·rw [List.append_nil,hds,hres]
  exact trodAll_mk1 (shut_bool hb true)
 ·rw [List.append_nil,hds]
  exact hnow _ hold
 ·rw [List.append_nil,hds,hv]
  rfl
 ·rw [hv]
  rfl
 ·intro b off hx
  have hx':MemPlace.cell b off ∈ p:=by simpa using hx
  have hb':b < W.heap.size:=hp _ hx'
  rw [hw.frozen hb']
  exact hfz b off hx'
 ·intro ha
  cases ha
 ·intro x hx _
  simpa using hx
end
end Go.RM
