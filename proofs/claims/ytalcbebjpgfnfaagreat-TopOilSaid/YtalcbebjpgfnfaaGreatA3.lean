/-
  A layer of contracts over the abstract machine. Lemmas alone; no condition.
-/
import Derived.Test.YtalcbebjpgfnfaaGreatR3
import Derived.Test.YtalcbebjpgfnfaaGreatA1
import Derived.Test.YtalcbebjpgfnfaaGreatA2
import Derived.ProofKit
import Derived.Carry
namespace Go.RM
open Go
section
variable {T : cr} {tab : List XE} {one : Bool} {mu : Tmp → Bool} {base : Nat} {E : Env} {hp : List AB} {aJ : bN} {H : Hp} {ρ : Nat → Nat → Option Nat} {g : aI} {O O' : Nat → Prop}
theorem de {a b:Code} {st:cy} {K:Exit→cy→Prop} (h:mT T tab one mu a st (yH (fun s=>az T tab one b s K) K)):az T tab one (.seq a b) st K:=.seq (aa h)
def aS (j:Nat) (ρ:Nat→Nat→Option Nat):Nat→Nat→Option Nat:=fun i v=>if i=j then none else ρ i v
mutual
def AV.mA (j:Nat):AV→Bool
 | .fl _=>true
 | .sl _ _=>true
 | .pt _ _=>true
 | .fn _ a b=>CD j a && CD j b
 | .ag a=>CD j a
 | .tp a=>CD j a
 | .oq _=>true
 | .cv=>true
 | .ptr i _ _=>!Nat.beq i j
 | .bX i _ _ _ _=>!Nat.beq i j
 | .om i=>!Nat.beq i j
def CD (j:Nat):List AV→Bool
 | []=>true
 | a :: l=>a.mA j && CD j l
end
theorem dJ {j:Nat}:∀ {l:List AV},CD j l=true→∀ (i:Nat) (a:AV),l[i]?=some a→a.mA j=true
 | [],_,i,a,h=>by cases h
 | x :: l,h,i,a,ha=>by
  simp only [CD,Bool.and_eq_true] at h
  cases i with
  | zero=>cases ha;exact h.1
  | succ i=>exact dJ h.2 i a (by simpa using ha)
theorem gZ {i j:Nat} (h:(!Nat.beq i j)=true):i ≠ j:=by
 intro e
 subst e
 rw [Nat.beq_refl] at h
 cases h
theorem AR.mA {j:Nat} (hO:∀ k,O' k→O k) {v:AV} {u:Value} (h:AR ρ g O v u):v.mA j=true→AR (aS j ρ) g O' v u:=by
 induction h with
 | d h=>intro _;exact .d (h.mono fun k b hk ho=>⟨hk,fun h=>ho (hO k h)⟩)
 | cv=>intro _;exact .cv
 | ptr h=>intro hd;simp only [AV.mA] at hd;exact .ptr (by rw [aS,if_neg (gZ hd)];exact h)
 | bX h=>intro hd;simp only [AV.mA] at hd;exact .bX (by rw [aS,if_neg (gZ hd)];exact h)
 | tT=>intro _;exact .tT
 | om h=>intro hd;simp only [AV.mA] at hd;exact .om (by rw [aS,if_neg (gZ hd)];exact h)
 | fn ha hb h1 h2 ih1 ih2 =>
  intro hd
  simp only [AV.mA,Bool.and_eq_true] at hd
  exact .fn ha hb (fun i x u hx hu=>ih1 i x u hx hu (dJ hd.1 i x hx)) (fun i x u hx hu=>ih2 i x u hx hu (dJ hd.2 i x hx))
 | ag ha h1 ih=>intro hd;simp only [AV.mA] at hd;exact .ag ha (fun i x u hx hu=>ih i x u hx hu (dJ hd i x hx))
 | tp ha h1 ih=>intro hd;simp only [AV.mA] at hd;exact .tp ha (fun i x u hx hu=>ih i x u hx hu (dJ hd i x hx))
def AB.mA (j:Nat):AB→Bool
 | .cells cs _ _=>CD j cs
 | .dZ _ _=>true
 | .map ents _=>ents.all fun p=>p.1.mA j && p.2.1.mA j
 | .iter i _ _ _=>!Nat.beq i j
 | .gone=>true
inductive Gv (j aD:Nat) (cs:List AV):AV→AV→Prop
 | same {a:AV}:a.mA j=true→Gv j aD cs a a
 | ptr {o:Nat}:Gv j aD cs (.ptr j aD o) (.pt cs o)
 | row {o n c:Nat} {els:List (List AV)} {b:Bool} (es:Nat):o+n * es≤cs.length→els.length=n→(∀ el ∈ els,el.length=es)→els.flatten=(cs.drop o).take (n * es)→(b=true→c=n)→Gv j aD cs (.bX j aD o n c) (.sl els b)
 | cv {a:AV}:Gv j aD cs a .cv
def w7 (j aD:Nat) (cs:List AV) (fr:Nat→AV):List (Nat × AV)→Prop
 | []=>True
 | (i,v) :: l=>Gv j aD cs (fr i) v∧w7 j aD cs fr l
theorem AS {j aD:Nat} {cs:List AV} {fr:Nat→AV}:∀ {l:List (Nat × AV)},w7 j aD cs fr l→∀ t,Gv j aD cs (fr t) (aX l t)
 | [],_,t=>.cv
 | (i,v) :: l,h,t=>by
  unfold aX
  rw [Tr.beq_eq]
  by_cases hti:t=i
  ·rw [decide_eq_true hti,hti]
   exact h.1
  ·rw [decide_eq_false hti]
   exact AS h.2 t
theorem ai.NT {st:cy} {l:List (Nat × AV)} {j aD es:Nat} {cs:List AV} (hj:st.hp[j]?=some (.cells cs es aD)) (hn:st.fl≤j) (hd:bw cs=true) (hs:w7 j aD cs st.fr l) (hb:∀ (i:Nat) (b:AB),st.hp[i]?=some b→i ≠ j→b.mA j=true) :
  ai st ⟨aX l,st.hp.set j .gone,st.aJ,st.rd,st.fl⟩:=by
 have hlt:j < st.hp.length:=(List.getElem?_eq_some_iff.1 hj).1
 refine ⟨rfl,fun E base s hs'=>?_⟩
 have hr:=hs'.h
 have hget:∀ (i:Nat) (b:AB) (aD:Nat),(st.hp.set j .gone)[i]?=some b→b.ver?=some aD→i ≠ j∧st.hp[i]?=some b:=by
  intro i b aD hi hv
  by_cases hij:i=j
  ·subst hij;rw [List.getElem?_set_self hlt] at hi;cases hi;cases hv
  ·rw [List.getElem?_set_ne (Ne.symm hij)] at hi;exact ⟨hij,hi⟩
 have hdr:∀ {i v k:Nat},aS j E.ρ i v=some k→i ≠ j∧E.ρ i v=some k:=by
  intro i v k h
  unfold aS at h
  split at h
  ·cases h
  ·rename_i hne;exact ⟨hne,h⟩
 have hown:∀ k,Own (aS j E.ρ) (st.hp.set j .gone) k→Own E.ρ st.hp k:=by
  rintro k ⟨i,b,v,h1,h2,h3⟩
  exact ⟨i,b,v,(hget i b v h1 h2).2,h2,(hdr h3).2⟩
 have hOs:∀ k,({E with ρ:=aS j E.ρ}:Env).O (st.hp.set j .gone) k→E.O st.hp k:=fun k h=>h.imp (hown k) id
 have hpt:∀ {o:Nat} {u:Value},AR E.ρ s.hp.get (E.O st.hp) (.ptr j aD o) u→AR (aS j E.ρ) s.hp.get (({E with ρ:=aS j E.ρ}:Env).O (st.hp.set j .gone)) (.pt cs o) u:=by
  intro o u h
  obtain ⟨k,hk,rfl⟩:=h.dV
  obtain ⟨cs',q1,q2⟩:=hr.cells hj hk
  have hnO:¬ ({E with ρ:=aS j E.ρ}:Env).O (st.hp.set j .gone) k:=by
   rintro (⟨i,b,v,h1,h2,h3⟩|hx)
   ·have:=hdr h3
    exact this.1 (hr.inj i j v aD k this.2 hk)
   ·exact hr.jh k ⟨j,_,aD,hj,rfl,hk⟩ hx
  have:=q2.deep hd
  refine .d (?_:DR _ _ (.pt cs o) (.pointer (some ⟨k,o,none⟩)))
  have h0:DR s.hp.get (({E with ρ:=aS j E.ρ}:Env).O (st.hp.set j .gone)) (.pt cs o) (.pointer (some ⟨k,0+o,none⟩)) :=
   .pt q1 hnO (by rw [Nat.zero_add,this.1];exact Nat.le_refl _) (fun i a u x y=>(this.2 i a u x (by rw [Nat.zero_add] at y;exact y)).mono fun k b hk ho=>⟨hk,fun h=>ho (hOs k h)⟩)
  rw [Nat.zero_add] at h0
  exact h0
 have hrow:∀ {o n c:Nat} {els:List (List AV)} {b:Bool} {u:Value} (es:Nat),o+n * es≤cs.length→els.length=n→(∀ el ∈ els,el.length=es)→els.flatten=(cs.drop o).take (n * es)→(b=true→c=n)→AR E.ρ s.hp.get (E.O st.hp) (.bX j aD o n c) u →
   AR (aS j E.ρ) s.hp.get (({E with ρ:=aS j E.ρ}:Env).O (st.hp.set j .gone)) (.sl els b) u:=by
  intro o n c els b u es g1 g2 g3 g4 g5 h
  rcases h.iE with ⟨k,hk,rfl⟩|⟨rfl,rfl,rfl⟩
  ·obtain ⟨cs',q1,q2⟩:=hr.cells hj hk
   have hnO:¬ ({E with ρ:=aS j E.ρ}:Env).O (st.hp.set j .gone) k:=by
    rintro (⟨i,b,v,h1,h2,h3⟩|hx)
    ·have:=hdr h3
     exact this.1 (hr.inj i j v aD k this.2 hk)
    ·exact hr.jh k ⟨j,_,aD,hj,rfl,hk⟩ hx
   have hdp:=q2.deep hd
   refine .d (.sl (es:=es) q1 hnO (by rw [←q2.1];exact g1) g2 (fun i el he=>g3 el (List.mem_of_getElem? he)) (fun i el jj a u he hx hu=>?_) g5)
   have hjj:jj < es:=by rw [←g3 el (List.mem_of_getElem? he)];exact (List.getElem?_eq_some_iff.1 hx).1
   have hat:=gJ g3 i el jj he hjj
   have hi:i < n:=by rw [←g2];exact (List.getElem?_eq_some_iff.1 he).1
   rw [g4,List.getElem?_take,List.getElem?_drop] at hat
   have hlt:i * es+jj < n * es:=by
    have:(i+1) * es≤n * es:=Nat.mul_le_mul_right _ hi
    rw [Nat.add_mul,Nat.one_mul] at this
    omega
   rw [if_pos hlt,hx,←Nat.add_assoc] at hat
   exact (hdp.2 _ a u hat hu).mono fun k b hk ho=>⟨hk,fun h=>ho (hOs k h)⟩
  ·simp only [List.length_eq_zero_iff] at g2
   subst g2
   exact .d .nil
 have hgv:∀ {a b:AV} {u:Value},Gv j aD cs a b→AR E.ρ s.hp.get (E.O st.hp) a u→AR (aS j E.ρ) s.hp.get (({E with ρ:=aS j E.ρ}:Env).O (st.hp.set j .gone)) b u:=by
  intro a b u hg h
  cases hg with
  | same hn=>exact h.mA hOs hn
  | ptr=>exact hpt h
  | row es g1 g2 g3 g4 g5=>exact hrow es g1 g2 g3 g4 g5 h
  | cv=>exact .cv
 refine ⟨{E with ρ:=aS j E.ρ},⟨⟨hr.wf,fun i b v hi hv=>?_,fun i i' v v' k h1 h2=>hr.inj i i' v v' k (hdr h1).2 (hdr h2).2,fun i v k hk=>hr.rn i v k (hdr hk).2,fun i b v w h1 h2 h3=>?_,fun i v hi=>?_,fun k hk=>hr.sup k (hown k hk),fun k hk=>hr.jh k (hown k hk),hr.dx,hr.ds,hr.sn,hr.xn,fun k hk=>hr.qG k (hk.imp (hown k) id),hr.bn,hr.aJ⟩,hs'.rd,fun t=>hgv (AS hs t) (hs'.fr t)⟩,
  ⟨Nat.le_refl _,fun i v k hi hk=>?_,fun k hk=>.inl (hown k hk),fun _ h=>.inl h,fun _ h=>.inl h,fun _ h=>h,fun _ h=>.inl h,fun _ _ _ _=>rfl,Nat.min_le_left _ _⟩⟩
 ·obtain ⟨hij,hi'⟩:=hget i b v hi hv
  have hbn:=hb i b hi' hij
  rcases hr.iy i b v hi' hv with ⟨k,b',q1,q2,q3⟩|⟨q1,q2⟩
  ·refine .inl ⟨k,b',by show aS j E.ρ i v=_;rw [aS,if_neg hij];exact q1,q2,?_⟩
   cases b with
   | cells cs2 es2 ver2 =>
    obtain ⟨cs',rfl,h⟩:=q3
    exact ⟨cs',rfl,h.1,fun i a u ha hu=>(h.2 i a u ha hu).mA hOs (dJ hbn i a ha)⟩
   | dZ p q=>exact q3
   | map ents clock =>
    obtain ⟨es,rfl,h1,h2⟩:=q3
    refine ⟨es,rfl,h1,fun i k v born x hx hy=>?_⟩
    simp only [AB.mA,List.all_eq_true,Bool.and_eq_true] at hbn
    have:=hbn _ (List.mem_of_getElem? hx)
    exact ⟨(h2 i k v born x hx hy).1.mA hOs this.1,(h2 i k v born x hx hy).2.1.mA hOs this.2,(h2 i k v born x hx hy).2.2⟩
   | iter i2 since seen stepped =>
    obtain ⟨m,rfl,h⟩:=q3
    exact ⟨m,rfl,by show aS j E.ρ i2 0=_;rw [aS,if_neg (gZ hbn)];exact h⟩
   | gone=>exact q3
  ·exact .inr ⟨by show aS j E.ρ i v=_;rw [aS,if_neg hij];exact q1,q2⟩
 ·obtain ⟨hij,h1⟩:=hget i b v h1 h2
  show aS j E.ρ i w=none
  rw [aS,if_neg hij];exact hr.fresh i b v w h1 h2 h3
 ·show aS j E.ρ i v=none
  unfold aS
  split
  ·rfl
  ·exact hr.new i v (by simpa using hi)
 ·show aS j E.ρ i v=some k
  rw [aS,if_neg (by omega)];exact hk
def oa (j:Nat):Nat→List AB→Bool
 | _,[]=>true
 | i,b :: l=>(Nat.beq i j || b.mA j) && oa j (i+1) l
theorem w8 {j:Nat}:∀ {l:List AB} {i0:Nat},oa j i0 l=true→∀ (i:Nat) (b:AB),l[i]?=some b→i0+i ≠ j→b.mA j=true
 | [],_,_,i,b,h,_=>by cases h
 | x :: l,i0,h,i,b,hb,hne=>by
  simp only [oa,Bool.and_eq_true,Bool.or_eq_true] at h
  cases i with
  | zero =>
   cases hb
   rcases h.1 with h|h
   ·exact absurd (Nat.eq_of_beq_eq_true h) hne
   ·exact h
  | succ i=>exact w8 h.2 i b (by simpa using hb) (by omega)
theorem ai.giveUp {st:cy} {l:List (Nat × AV)} (j:Nat) {aD es:Nat} {cs:List AV} {hp:List AB} (hj:st.hp[j]?=some (.cells cs es aD)) (hn:st.fl≤j) (hd:bw cs=true) (hs:w7 j aD cs st.fr l) (hb:oa j 0 st.hp=true) (hh:st.hp.set j .gone=hp) :
  ai st ⟨aX l,hp,st.aJ,st.rd,st.fl⟩:=by
 subst hh
 exact ai.NT hj hn hd hs fun i b h hne=>w8 hb i b h (by omega)
theorem HV {P:Program} {t:TypeId} {x y:Operand} {n:Int}:hU P .shr t x y (.int .u64 n) (.int .u64 1)=some (.int .u64 (n / 2),.none):=by
 have h:hU P .shr t x y (.int .u64 n) (.int .u64 1)=some (.int .u64 (n.fdiv (2 ^ 1)),.none):=rfl
 rw [h,Int.fdiv_eq_ediv_of_nonneg n (by decide)]
 rfl
end
end Go.RM
namespace Go.RM
open Go
theorem dR.ud {j aD c:Nat}:dR (.fl (.slice none 0 0)) (.bX j aD 0 0 c):=fun _ _ _ u h=>by
 rw [h.iH.1]
 exact .tT
theorem ai.ue {st:cy} (es:Nat):ai st ⟨st.fr,st.hp++[.cells [] es 0],st.aJ,st.rd,st.fl⟩:=by
 refine ⟨rfl,fun E base s hs=>?_⟩
 have hr:=hs.h
 have hget:∀ (i:Nat) (b:AB),(st.hp++[AB.cells [] es 0])[i]?=some b→(i < st.hp.length∧st.hp[i]?=some b)∨(i=st.hp.length∧b=.cells [] es 0):=by
  intro i b hi
  by_cases hlt:i < st.hp.length
  ·rw [List.getElem?_append_left hlt] at hi;exact .inl ⟨hlt,hi⟩
  ·rw [List.getElem?_append_right (by omega)] at hi
   have h0:i - st.hp.length=0:=by
    apply Nat.eq_zero_of_not_pos
    intro hp0
    rw [List.getElem?_eq_none (by simp;omega)] at hi
    cases hi
   rw [h0] at hi
   cases hi
   exact .inr ⟨by omega,rfl⟩
 have hown:∀ k,Own E.ρ (st.hp++[.cells [] es 0]) k→Own E.ρ st.hp k:=by
  rintro k ⟨i,b,v,h1,h2,h3⟩
  rcases hget i b h1 with ⟨_,h1⟩|⟨rfl,rfl⟩
  ·exact ⟨i,b,v,h1,h2,h3⟩
  ·rw [hr.new _ v (Nat.le_refl _)] at h3;cases h3
 have hO:∀ k,E.O (st.hp++[.cells [] es 0]) k→E.O st.hp k:=fun k h=>h.imp (hown k) id
 have keep:∀ k b,s.hp.get k=some b→¬ E.O st.hp k→s.hp.get k=some b∧¬ E.O (st.hp++[.cells [] es 0]) k:=fun k b hk ho=>⟨hk,fun h=>ho (hO k h)⟩
 have har:∀ {v:AV} {u:Value},AR E.ρ s.hp.get (E.O st.hp) v u→AR E.ρ s.hp.get (E.O (st.hp++[.cells [] es 0])) v u:=fun h=>h.mono (fun _ _ _ h=>h) keep
 refine ⟨E,⟨⟨hr.wf,fun i b v hi hv=>?_,hr.inj,hr.rn,fun i b v w h1 h2 h3=>?_,fun i v hi=>hr.new i v (by simp at hi;omega),fun k hk=>hr.sup k (hown k hk),fun k hk=>hr.jh k (hown k hk),hr.dx,hr.ds,hr.sn,hr.xn,fun k hk=>hr.qG k (hk.imp (hown k) id),hr.bn,hr.aJ⟩,hs.rd,fun t=>har (hs.fr t)⟩,
  ⟨Nat.le_refl _,fun _ _ _ _ h=>h,fun k hk=>.inl (hown k hk),fun _ h=>.inl h,fun _ h=>.inl h,fun _ h=>h,fun _ h=>.inl h,fun _ _ _ _=>rfl,Nat.min_le_left _ _⟩⟩
 ·rcases hget i b hi with ⟨_,hi'⟩|⟨rfl,rfl⟩
  ·rcases hr.iy i b v hi' hv with ⟨k,b',q1,q2,q3⟩|q
   ·refine .inl ⟨k,b',q1,q2,?_⟩
    cases b with
    | cells cs2 es2 ver2 =>
     obtain ⟨cs',rfl,h⟩:=q3
     exact ⟨cs',rfl,h.1,fun i a u ha hu=>har (h.2 i a u ha hu)⟩
    | dZ p q=>exact q3
    | map ents clock =>
     obtain ⟨es,rfl,h1,h2⟩:=q3
     exact ⟨es,rfl,h1,fun i k v born x hx hy=>⟨har (h2 i k v born x hx hy).1,har (h2 i k v born x hx hy).2.1,(h2 i k v born x hx hy).2.2⟩⟩
    | iter i2 since seen stepped=>exact q3
    | gone=>exact q3
   ·exact .inr q
  ·cases hv
   exact .inr ⟨hr.new _ _ (Nat.le_refl _),es,rfl⟩
 ·rcases hget i b h1 with ⟨_,h1⟩|⟨rfl,rfl⟩
  ·exact hr.fresh i b v w h1 h2 h3
  ·exact hr.new _ _ (Nat.le_refl _)
theorem q1 {σ:Type} {P:σ→Prop} {I:σ→cy} {m:σ→Nat} {K:Exit→cy→Prop} {x:σ} {s:cy} (h:K .ret s):HL P I m K x .ret s:=h
theorem q2 {σ:Type} {P:σ→Prop} {I:σ→cy} {m:σ→Nat} {K:Exit→cy→Prop} {x:σ} {s:cy} {id:Nat} (h:K (.exit id) s):HL P I m K x (.exit id) s:=h
end Go.RM
namespace Go.RM
open Go
theorem ai.LH {st:cy} (j:Nat) {es aD:Nat} {cs ds:List AV} {hp:List AB} (hj:st.hp[j]?=some (.cells cs es aD)) (hs:i6 cs ds) (hh:st.hp.set j (.cells ds es aD)=hp):ai st ⟨st.fr,hp,st.aJ,st.rd,st.fl⟩:=by
 subst hh
 refine ⟨rfl,fun E base s hs'=>?_⟩
 have hr:=hs'.h
 have hlt:j < st.hp.length:=(List.getElem?_eq_some_iff.1 hj).1
 have hget:∀ (i:Nat) (b:AB),(st.hp.set j (.cells ds es aD))[i]?=some b→(i ≠ j∧st.hp[i]?=some b)∨(i=j∧b=.cells ds es aD):=by
  intro i b hi
  by_cases he:i=j
  ·subst he
   rw [List.getElem?_set_self hlt] at hi
   cases hi
   exact .inr ⟨rfl,rfl⟩
  ·rw [List.getElem?_set_ne (Ne.symm he)] at hi
   exact .inl ⟨he,hi⟩
 have hown:∀ k,Own E.ρ (st.hp.set j (.cells ds es aD)) k→Own E.ρ st.hp k:=by
  rintro k ⟨i,b,v,h1,h2,h3⟩
  rcases hget i b h1 with ⟨_,h1⟩|⟨rfl,rfl⟩
  ·exact ⟨i,b,v,h1,h2,h3⟩
  ·cases h2
   exact ⟨i,_,_,hj,rfl,h3⟩
 have hO:∀ k,E.O (st.hp.set j (.cells ds es aD)) k→E.O st.hp k:=fun k h=>h.imp (hown k) id
 have keep:∀ k b,s.hp.get k=some b→¬ E.O st.hp k→s.hp.get k=some b∧¬ E.O (st.hp.set j (.cells ds es aD)) k:=fun k b hk ho=>⟨hk,fun h=>ho (hO k h)⟩
 have har:∀ {v:AV} {u:Value},AR E.ρ s.hp.get (E.O st.hp) v u→AR E.ρ s.hp.get (E.O (st.hp.set j (.cells ds es aD))) v u:=fun h=>h.mono (fun _ _ _ h=>h) keep
 refine ⟨E,⟨⟨hr.wf,fun i b v hi hv=>?_,hr.inj,hr.rn,fun i b v w h1 h2 h3=>?_,fun i v hi=>hr.new i v (by simpa using hi),fun k hk=>hr.sup k (hown k hk),fun k hk=>hr.jh k (hown k hk),hr.dx,hr.ds,hr.sn,hr.xn,fun k hk=>hr.qG k (hk.imp (hown k) id),hr.bn,hr.aJ⟩,hs'.rd,fun t=>har (hs'.fr t)⟩,
  ⟨Nat.le_refl _,fun _ _ _ _ h=>h,fun k hk=>.inl (hown k hk),fun _ h=>.inl h,fun _ h=>.inl h,fun _ h=>h,fun _ h=>.inl h,fun _ _ _ _=>rfl,Nat.min_le_left _ _⟩⟩
 ·rcases hget i b hi with ⟨_,hi'⟩|⟨rfl,rfl⟩
  ·rcases hr.iy i b v hi' hv with ⟨k,b',q1,q2,q3⟩|q
   ·refine .inl ⟨k,b',q1,q2,?_⟩
    cases b with
    | cells cs2 es2 ver2 =>
     obtain ⟨cs',rfl,h⟩:=q3
     exact ⟨cs',rfl,h.1,fun i a u ha hu=>har (h.2 i a u ha hu)⟩
    | dZ p q=>exact q3
    | map ents clock =>
     obtain ⟨es,rfl,h1,h2⟩:=q3
     exact ⟨es,rfl,h1,fun i k v born x hx hy=>⟨har (h2 i k v born x hx hy).1,har (h2 i k v born x hx hy).2.1,(h2 i k v born x hx hy).2.2⟩⟩
    | iter i2 since seen stepped=>exact q3
    | gone=>exact q3
   ·exact .inr q
  ·cases hv
   rcases hr.iy i _ aD hj rfl with ⟨k,b',q1,q2,q3⟩|⟨q1,es',q2⟩
   ·refine .inl ⟨k,b',q1,q2,?_⟩
    obtain ⟨cs',rfl,h⟩:=q3
    have h':=i6.Bs hs h
    exact ⟨cs',rfl,h'.1,fun i a u ha hu=>har (h'.2 i a u ha hu)⟩
   ·cases q2
    cases ds with
    | nil=>exact .inr ⟨q1,_,rfl⟩
    | cons a l=>exact hs.elim
 ·rcases hget i b h1 with ⟨_,h1⟩|⟨rfl,rfl⟩
  ·exact hr.fresh i b v w h1 h2 h3
  ·cases h2
   exact hr.fresh i _ _ w hj rfl h3
end Go.RM
namespace Go.RM
open Go
theorem HW {α:Type} {l:List α} {j:Nat} {a:α} (h:l[j]?=some a):l.set j a=l:=by
 apply List.ext_getElem?
 intro i
 rw [List.getElem?_set]
 split
 ·rename_i hij
  subst hij
  rw [h]
  split
  ·rfl
  ·rename_i hn
   exact absurd (List.getElem?_eq_some_iff.1 h).1 hn
 ·rfl
theorem JR {hp:List AB} {es bs:Nat} {x:AV} {els:List (List AV)} {j aD n c:Nat} {cs:List AV} {K:AV→List AB→Prop} (hx:Cr hp es x els) (h1:els.flatten.all AV.one=true) (hj:hp[j]?=some (.cells cs es aD)) (hl:cs.length=n * es) (hc:c=n∨c=n+1)
  (hb:(n+els.length) * bs≤140737488355328∧n+els.length≤9223372036854775807) (hk:∀ v c',(c'=n+els.length∨c'=n+els.length+1)→K (.bX j v 0 (n+els.length) c') (hp.set j (.cells (cs++els.flatten) es v))) :
  ∃ els,Cr hp es x els∧els.flatten.all AV.one=true∧∃ cs,hp[j]?=some (.cells cs es aD)∧cs.length=n * es∧(c=n∨c=n+1)∧((n+els.length) * bs≤140737488355328∧n+els.length≤9223372036854775807)∧(els=[]→K (.bX j aD 0 n c) hp) ∧
   (els ≠ []→K (.bX j (aD+1) 0 (n+els.length) (n+els.length+1)) (hp.set j (.cells (cs++els.flatten) es (aD+1)))):=by
 refine ⟨els,hx,h1,cs,hj,hl,hc,hb,fun he=>?_,fun _=>hk _ _ (.inr rfl)⟩
 subst he
 have h2:=hk aD c (by simpa using hc)
 rw [List.flatten_nil,List.append_nil,HW hj] at h2
 exact h2
theorem F5 {T:cr} {own:Bool} {fr:Nat→AV} {hp:List AB} {K:AV→List AB→Prop} {s x:Operand} {t u e:TypeId} {a1 a2 a3 a4 a5 a6} {j aD n c:Nat} {els:List (List AV)} {f:Bool} {cs:List AV} {inf:yP} (hs:aQ fr s=.bX j aD 0 n c) (hx:aQ fr x=.sl els f)
  (hu:T.ty.get u=some ⟨.slice e,a1,a2,a3,a4,a5,a6⟩) (hi:elem? T t=some inf) (hz:ct inf=true) (hel:∀ el ∈ els,el.length=inf.size) (h1:els.flatten.all AV.one=true) (hj:hp[j]?=some (.cells cs inf.size aD)) (hl:cs.length=n * inf.size) (hc:c=n∨c=n+1)
  (hb:(n+els.length) * inf.bytes≤140737488355328∧n+els.length≤9223372036854775807) (hk:∀ v c',(c'=n+els.length∨c'=n+els.length+1)→K (.bX j v 0 (n+els.length) c') (hp.set j (.cells (cs++els.flatten) inf.size v))) :
  RM.wpOp T own (.call ⟨.builtin .append,[s,x].toArray,[t,u].toArray⟩) fr hp K:=by
 show force (aQ fr s) fun a=>force (aQ fr x) fun b=>jw T own .append [a,b] [t,u] hp K
 rw [hs,hx]
 show (match T.ty.get u with|some ⟨.slice _,_,_,_,_,_,_⟩=>jM T own t (.bX j aD 0 n c) (.sl els f) hp K|_=>False)
 rw [hu]
 show jM T own t (.bX j aD 0 n c) (.sl els f) hp K
 unfold jM
 rw [hi]
 exact ⟨hz,JR (hp:=hp) (K:=K) ⟨hel,rfl⟩ h1 hj hl hc hb hk⟩
end Go.RM
namespace Go.RM
open Go
section
variable {T : cr} {tab : List XE} {one : Bool} {base : Nat} {E : Env} {hp : List AB} {aJ : bN} {H : Hp} {ρ : Nat → Nat → Option Nat} {g : aI} {O O' : Nat → Prop}
def dP (a b:Nat) (ρ:Nat→Nat→Option Nat):Nat→Nat→Option Nat:=fun i v=>if i=a then ρ b v else if i=b then none else ρ i v
theorem AR.move {a b:Nat} (hO:∀ k,O' k→O k) {v:AV} {u:Value} (h:AR ρ g O v u):v.mA a=true→v.mA b=true→AR (dP a b ρ) g O' v u:=by
 have hm:∀ {i w:Nat},i ≠ a→i ≠ b→dP a b ρ i w=ρ i w:=fun {i w} h1 h2=>by unfold dP;rw [if_neg h1,if_neg h2]
 induction h with
 | d h=>intro _ _;exact .d (h.mono fun k b hk ho=>⟨hk,fun hx=>ho (hO k hx)⟩)
 | cv=>intro _ _;exact .cv
 | ptr h=>intro h1 h2;exact .ptr (by rw [hm (gZ h1) (gZ h2)];exact h)
 | bX h=>intro h1 h2;exact .bX (by rw [hm (gZ h1) (gZ h2)];exact h)
 | tT=>intro _ _;exact .tT
 | om h=>intro h1 h2;exact .om (by rw [hm (gZ h1) (gZ h2)];exact h)
 | fn ha hb h1 h2 ih1 ih2 =>
  intro n1 n2
  simp only [AV.mA,Bool.and_eq_true] at n1 n2
  exact .fn ha hb (fun i x u hx hu=>ih1 i x u hx hu (dJ n1.1 i x hx) (dJ n2.1 i x hx)) (fun i x u hx hu=>ih2 i x u hx hu (dJ n1.2 i x hx) (dJ n2.2 i x hx))
 | ag ha h1 ih=>intro n1 n2;simp only [AV.mA] at n1 n2;exact .ag ha (fun i x u hx hu=>ih i x u hx hu (dJ n1 i x hx) (dJ n2 i x hx))
 | tp ha h1 ih=>intro n1 n2;simp only [AV.mA] at n1 n2;exact .tp ha (fun i x u hx hu=>ih i x u hx hu (dJ n1 i x hx) (dJ n2 i x hx))
inductive Mv (a b:Nat):AV→AV→Prop
 | same {v:AV}:v.mA a=true→v.mA b=true→Mv a b v v
 | ptr {aD o:Nat}:Mv a b (.ptr b aD o) (.ptr a aD o)
 | bX {aD o n c:Nat}:Mv a b (.bX b aD o n c) (.bX a aD o n c)
 | cv {v:AV}:Mv a b v .cv
def DQ (a b:Nat) (fr:Nat→AV):List (Nat × AV)→Prop
 | []=>True
 | (i,v) :: l=>Mv a b (fr i) v∧DQ a b fr l
theorem EK {a b:Nat} {fr:Nat→AV}:∀ {l:List (Nat × AV)},DQ a b fr l→∀ t,Mv a b (fr t) (aX l t)
 | [],_,t=>.cv
 | (i,v) :: l,h,t=>by
  unfold aX
  rw [Tr.beq_eq]
  by_cases hti:t=i
  ·rw [decide_eq_true hti,hti]
   exact h.1
  ·rw [decide_eq_false hti]
   exact EK h.2 t
theorem ai.move {st:cy} {l:List (Nat × AV)} (a b:Nat) {x y:AB} (hab:a ≠ b) (hja:st.hp[a]?=some y) (hjb:st.hp[b]?=some x) (hn:st.fl≤a) (hn2:st.fl≤b) (hs:DQ a b st.fr l)
  (hb:∀ (i:Nat) (z:AB),st.hp[i]?=some z→i ≠ a→z.mA a=true∧z.mA b=true) :
  ai st ⟨aX l,(st.hp.set a x).set b .gone,st.aJ,st.rd,st.fl⟩:=by
 have hla:a < st.hp.length:=(List.getElem?_eq_some_iff.1 hja).1
 have hlb:b < st.hp.length:=(List.getElem?_eq_some_iff.1 hjb).1
 refine ⟨rfl,fun E base s hs'=>?_⟩
 have hr:=hs'.h
 have hget:∀ (i:Nat) (z:AB) (aD:Nat),((st.hp.set a x).set b .gone)[i]?=some z→z.ver?=some aD→(i=a∧z=x)∨(i ≠ a∧i ≠ b∧st.hp[i]?=some z):=by
  intro i z aD hi hv
  by_cases hib:i=b
  ·subst hib
   rw [List.getElem?_set_self (by rw [List.length_set];exact hlb)] at hi
   cases hi;cases hv
  ·rw [List.getElem?_set_ne (Ne.symm hib)] at hi
   by_cases hia:i=a
   ·subst hia
    rw [List.getElem?_set_self hla] at hi
    cases hi;exact .inl ⟨rfl,rfl⟩
   ·rw [List.getElem?_set_ne (Ne.symm hia)] at hi
    exact .inr ⟨hia,hib,hi⟩
 have hma:∀ {v:Nat},dP a b E.ρ a v=E.ρ b v:=fun {v}=>by unfold dP;rw [if_pos rfl]
 have hmo:∀ {i v:Nat},i ≠ a→i ≠ b→dP a b E.ρ i v=E.ρ i v:=fun {i v} h1 h2=>by unfold dP;rw [if_neg h1,if_neg h2]
 have hmi:∀ {i v k:Nat},dP a b E.ρ i v=some k→(i=a∧E.ρ b v=some k)∨(i ≠ a∧i ≠ b∧E.ρ i v=some k):=by
  intro i v k h
  unfold dP at h
  split at h
  ·rename_i h1;exact .inl ⟨h1,h⟩
  ·split at h
   ·cases h
   ·rename_i h1 h2;exact .inr ⟨h1,h2,h⟩
 have hown:∀ k,Own (dP a b E.ρ) ((st.hp.set a x).set b .gone) k→Own E.ρ st.hp k:=by
  rintro k ⟨i,z,v,h1,h2,h3⟩
  rcases hget i z v h1 h2 with ⟨rfl,rfl⟩|⟨n1,n2,h4⟩
  ·rw [hma] at h3;exact ⟨b,_,v,hjb,h2,h3⟩
  ·rw [hmo n1 n2] at h3;exact ⟨i,z,v,h4,h2,h3⟩
 have hOs:∀ k,({E with ρ:=dP a b E.ρ}:Env).O ((st.hp.set a x).set b .gone) k→E.O st.hp k:=fun k h=>h.imp (hown k) id
 have hmv:∀ {v w:AV} {u:Value},Mv a b v w→AR E.ρ s.hp.get (E.O st.hp) v u→AR (dP a b E.ρ) s.hp.get (({E with ρ:=dP a b E.ρ}:Env).O ((st.hp.set a x).set b .gone)) w u:=by
  intro v w u hm h
  cases hm with
  | same n1 n2=>exact h.move hOs n1 n2
  | ptr =>
   obtain ⟨k,hk,rfl⟩:=h.dV
   exact .ptr (by rw [hma];exact hk)
  | bX =>
   rcases h.iE with ⟨k,hk,rfl⟩|⟨rfl,rfl,rfl⟩
   ·exact .bX (by rw [hma];exact hk)
   ·exact .tT
  | cv=>exact .cv
 have hbr:∀ (z:AB) (z':bE),z.mA a=true→z.mA b=true→BR E.ρ s.hp.get (E.O st.hp) z z'→BR (dP a b E.ρ) s.hp.get (({E with ρ:=dP a b E.ρ}:Env).O ((st.hp.set a x).set b .gone)) z z':=by
  intro z z' n1 n2 q3
  cases z with
  | cells cs2 es2 ver2 =>
   obtain ⟨cs',rfl,h⟩:=q3
   exact ⟨cs',rfl,h.1,fun i v u ha hu=>(h.2 i v u ha hu).move hOs (dJ n1 i v ha) (dJ n2 i v ha)⟩
  | dZ p q=>exact q3
  | map ents clock =>
   obtain ⟨es,rfl,h1,h2⟩:=q3
   refine ⟨es,rfl,h1,fun i k v born e hx hy=>?_⟩
   simp only [AB.mA,List.all_eq_true,Bool.and_eq_true] at n1 n2
   have m1:=n1 _ (List.mem_of_getElem? hx)
   have m2:=n2 _ (List.mem_of_getElem? hx)
   exact ⟨(h2 i k v born e hx hy).1.move hOs m1.1 m2.1,(h2 i k v born e hx hy).2.1.move hOs m1.2 m2.2,(h2 i k v born e hx hy).2.2⟩
  | iter i2 since seen stepped =>
   obtain ⟨m,rfl,h⟩:=q3
   exact ⟨m,rfl,by show dP a b E.ρ i2 0=_;rw [hmo (gZ n1) (gZ n2)];exact h⟩
  | gone=>exact q3
 refine ⟨{E with ρ:=dP a b E.ρ},⟨⟨hr.wf,fun i z v hi hv=>?_,fun i i' v v' k h1 h2=>?_,fun i v k hk=>?_,fun i z v w h1 h2 h3=>?_,fun i v hi=>?_,fun k hk=>hr.sup k (hown k hk),fun k hk=>hr.jh k (hown k hk),hr.dx,hr.ds,hr.sn,hr.xn,fun k hk=>hr.qG k (hk.imp (hown k) id),hr.bn,hr.aJ⟩,hs'.rd,fun t=>hmv (EK hs t) (hs'.fr t)⟩,
  ⟨Nat.le_refl _,fun i v k hi hk=>?_,fun k hk=>.inl (hown k hk),fun _ h=>.inl h,fun _ h=>.inl h,fun _ h=>h,fun _ h=>.inl h,fun _ _ _ _=>rfl,Nat.min_le_left _ _⟩⟩
 ·rcases hget i z v hi hv with ⟨rfl,rfl⟩|⟨n1,n2,h4⟩
  ·have hz:=hb b _ hjb (Ne.symm hab)
   rcases hr.iy b _ v hjb hv with ⟨k,b',q1,q2,q3⟩|⟨q1,q2⟩
   ·exact .inl ⟨k,b',by show dP _ b E.ρ _ v=_;rw [hma];exact q1,q2,hbr _ _ hz.1 hz.2 q3⟩
   ·exact .inr ⟨by show dP _ b E.ρ _ v=_;rw [hma];exact q1,q2⟩
  ·have hz:=hb i z h4 n1
   rcases hr.iy i z v h4 hv with ⟨k,b',q1,q2,q3⟩|⟨q1,q2⟩
   ·exact .inl ⟨k,b',by show dP a b E.ρ i v=_;rw [hmo n1 n2];exact q1,q2,hbr _ _ hz.1 hz.2 q3⟩
   ·exact .inr ⟨by show dP a b E.ρ i v=_;rw [hmo n1 n2];exact q1,q2⟩
 ·rcases hmi h1 with ⟨e1,p1⟩|⟨n1,n2,p1⟩
  ·rcases hmi h2 with ⟨e2,p2⟩|⟨m1,m2,p2⟩
   ·rw [e1,e2]
   ·exact absurd (hr.inj b i' v v' k p1 p2).symm m2
  ·rcases hmi h2 with ⟨e2,p2⟩|⟨m1,m2,p2⟩
   ·exact absurd (hr.inj i b v v' k p1 p2) n2
   ·exact hr.inj i i' v v' k p1 p2
 ·rcases hmi hk with ⟨rfl,h⟩|⟨_,_,h⟩
  ·exact hr.rn b v k h
  ·exact hr.rn i v k h
 ·rcases hget i z v h1 h2 with ⟨rfl,rfl⟩|⟨n1,n2,h4⟩
  ·show dP _ b E.ρ _ w=none
   rw [hma];exact hr.fresh b _ v w hjb h2 h3
  ·show dP a b E.ρ i w=none
   rw [hmo n1 n2];exact hr.fresh i z v w h4 h2 h3
 ·show dP a b E.ρ i v=none
  have hi:st.hp.length≤i:=by simpa using hi
  rw [hmo (by omega) (by omega)]
  exact hr.new i v hi
 ·show dP a b E.ρ i v=some k
  rw [hmo (by omega) (by omega)];exact hk
def NU (T:cr) (rs:List ResultVar) (Q:AV→List AB→bN→Prop) (e:Exit) (s:cy):Prop :=
 match e with
 | .normal|.ret=>qH T s rs fun as=>Q (yI as) s.hp s.aJ
 | _=>False
theorem JS {vs:List AV} {us:List Value} (h:gI ρ g O vs us):AR ρ g O (yI vs) (dy us):=by
 match vs,us,h with
 | [],[],_=>exact .tp rfl (fun i x u hx=>by cases hx)
 | [v],[u],h=>exact h.2 0 v u rfl rfl
 | a :: b :: l,c :: d :: m,h=>exact .tp (by simpa using h.1) (fun i x u hx hu=>h.2 i x u hx (by simpa using hu))
 | [],u :: us,h=>exact absurd h.1 (by simp)
 | v :: vs,[],h=>exact absurd h.1 (by simp)
 | [v],a :: b :: l,h=>exact absurd h.1 (by simp)
 | a :: b :: l,[v],h=>exact absurd h.1 (by simp)
theorem bl.body {f:FuncId} {fn:Func} {c:Code} {first caps args:List AV} {Q:AV→List AB→bN→Prop} (hf:T.fn.get f=some fn) (hb:fn.body=some c) (hn:noEntry tab f=true)
  (hw:az T tab one c ⟨Cu (first++args++caps),hp,aJ,false,hp.length⟩ (NU T fn.results.toList Q)):bl T tab one (.fn f first caps) args hp aJ Q:=by
 intro E base H u us hr hF ha
 obtain ⟨fs,cs,rfl,h1,h2⟩:∃ fs cs,u=.func (.func f) fs cs∧gI E.ρ H.get (E.O hp) first fs.toList∧gI E.ρ H.get (E.O hp) caps cs.toList:=by
  cases hF with
  | d h=>cases h with
   | fn ha hb h1 h2=>exact ⟨_,_,rfl,⟨ha,fun i x u hx hu=>.d (h1 i x u hx hu)⟩,⟨hb,fun i x u hx hu=>.d (h2 i x u hx hu)⟩⟩
  | fn ha hb h1 h2=>exact ⟨_,_,rfl,⟨ha,h1⟩,⟨hb,h2⟩⟩
 refine ⟨.fn f (fs.toList++us++cs.toList),rfl,?_⟩
 have hargs:=(h1.append ha).append h2
 obtain ⟨m,L,h1,h2,h3⟩:=hw E base ⟨setArgs .leaf 0 (fs.toList++us++cs.toList),H,false⟩ ⟨hr,rfl,wY hargs⟩
 obtain ⟨m',M,hm,q1,q2,q3⟩:=fI (one:=one) (L:=L) (f:=fun _ (p:Exit × St)=>fQ T fn.results.toList p)
  (P:=fun r=>∃ w H',r=.ret w H'∧∃ E' a hp' amb',Q a hp' amb'∧aY E' base hp' amb' H'∧AR E'.ρ H'.get (E'.O hp') a w∧lW hp.length base E hp H E' hp' H')
  (fun _ _ _ _ _ h=>h) m h2 (fun p hp'=>by
   obtain ⟨E',st',k1,k0,k2,k3⟩:=h3 p hp'
   obtain ⟨e,s'⟩:=p
   have done:(e=.normal∨e=.ret)→(qH T st' fn.results.toList fun as=>Q (yI as) st'.hp st'.aJ)→∃ (_:Nat) (M:List ia),fQ T fn.results.toList (e,s')=some M ∧
     rm one M fun r=>∃ w H',r=.ret w H'∧∃ E' a hp' amb',Q a hp' amb'∧aY E' base hp' amb' H'∧AR E'.ρ H'.get (E'.O hp') a w∧lW hp.length base E hp H E' hp' H':=by
    intro he hr
    obtain ⟨ws,as,r1,r2,r4⟩:=mz k2 hr
    refine ⟨0,[.ret (dy ws) s'.hp],?_,.single ⟨_,_,rfl,E',yI as,st'.hp,st'.aJ,r2,k2.h,JS r4,k3⟩⟩
    unfold fQ
    rcases he with rfl|rfl <;> simp only [r1,Option.map_some]
   cases e with
   | normal=>exact done (.inl rfl) k1
   | ret=>exact done (.inr rfl) k1
   | _=>exact k1.elim)
 refine ⟨m'+1,M,?_,q2,q3⟩
 show RX T tab (m'+1) (.call f _ H)=_
 rw [Av,qa _ _ hn]
 simp only
 rw [k8,hf]
 simp only [hb]
 rw [fH (gy hm) _ _ _ h1]
 exact q1
end
end Go.RM
namespace Go.RM
open Go
section
variable {T : cr} {tab : List XE} {one : Bool}
end
end Go.RM
namespace Go.RM
open Go
section
variable {T : cr} {tab : List XE} {one : Bool}
def w9 (a b:AV):Prop:=∀ (g:aI) (O:Nat→Prop) (u:Value),DR g O a u→DR g O b u
theorem w9.refl (a:AV):w9 a a:=fun _ _ _ h=>h
theorem w9.nil (b:Bool):w9 (.fl (.slice none 0 0)) (.sl [] b):=fun _ _ u h=>by
 cases h with
 | fl=>exact .nil
theorem w9.full {els:List (List AV)}:w9 (.sl els true) (.sl els false):=fun _ _ u h=>by
 cases h with
 | nil=>exact .nil
 | sl q1 q2 q3 q4 q5 q6 q7=>exact .sl q1 q2 q3 q4 q5 q6 (fun h=>Bool.noConfusion h)
def xb:List AV→List AV→Prop
 | [],[]=>True
 | a :: l,b :: m=>w9 a b∧xb l m
 | _,_=>False
theorem xb.MB {g:aI} {O:Nat→Prop}:∀ {as bs:List AV} {us:List Value},xb as bs→rL g O as us→rL g O bs us
 | [],[],us,_,h=>h
 | a :: l,b :: m,[],_,h=>absurd h.1 (by simp)
 | a :: l,b :: m,u :: us,hs,h=>by
  have ih:=xb.MB (g:=g) (O:=O) (us:=us) hs.2 ⟨by simpa using h.1,fun i a v x y=>h.2 (i+1) a v (by simpa using x) (by simpa using y)⟩
  refine ⟨by simpa using ih.1,fun i x v hx hv=>?_⟩
  cases i with
  | zero=>cases hx;cases hv;exact hs.1 _ _ _ (h.2 0 a u rfl rfl)
  | succ i=>exact ih.2 i x v (by simpa using hx) (by simpa using hv)
 | [],_ :: _,_,hs,_=>hs.elim
 | _ :: _,[],_,hs,_=>hs.elim
theorem af.soft {F:AV} {args args':List AV} {v:AV} (h:af T tab one F args v) (hs:xb args' args):af T tab one F args' v :=
 ⟨h.1,fun X H u us hw hX hF ha=>h.2 X H u us hw hX hF (hs.MB ha)⟩
end
theorem uf {a:AB} {l:List AB} {n:Nat} (h:a.di n=true) (k:l.all (AB.di n)=true):(a :: l).all (AB.di n)=true:=by
 rw [List.all_cons,h,k];rfl
end Go.RM
namespace Go.RM
open Go
section
variable {T : cr} {tab : List XE} {one : Bool} {base : Nat} {E : Env} {hp : List AB} {aJ : bN} {H : Hp}
end
end Go.RM
namespace Go.RM
open Go
theorem wrap_i64 {n:Int} (h0:0≤n) (h1:n < 9223372036854775808):IntKind.wrap .i64 n=n:=by
 have hm:n % 18446744073709551616=n:=Int.emod_eq_of_lt h0 (by omega)
 show (if (true && decide (n % 18446744073709551616 ≥ 9223372036854775808))=true then n % 18446744073709551616 - 18446744073709551616 else n % 18446744073709551616)=n
 rw [hm,if_neg (by simp;omega)]
theorem JT {w m n:Nat} (hm:m < 2 ^ w) (hn:n < 2 ^ w):(BitVec.ofInt w (m:Int) ||| BitVec.ofInt w (n:Int)).toNat=m ||| n:=by
 rw [BitVec.toNat_or,BitVec.ofInt_natCast,BitVec.ofInt_natCast,BitVec.toNat_ofNat,BitVec.toNat_ofNat,Nat.mod_eq_of_lt hm,Nat.mod_eq_of_lt hn]
theorem LI {P:Program} {t:TypeId} {x y:Operand} {m n:Nat} (hm:m < 4611686018427387904) (hn:n < 4611686018427387904):hU P .or t x y (.int .i64 (m:Int)) (.int .i64 (n:Int))=some (.int .i64 ((m ||| n:Nat):Int),.none):=by
 have h:hU P .or t x y (.int .i64 (m:Int)) (.int .i64 (n:Int))=some (.int .i64 (IntKind.wrap .i64 ((BitVec.ofInt 64 (m:Int) ||| BitVec.ofInt 64 (n:Int)).toNat:Int)),.none):=rfl
 have hlt:m ||| n < 2 ^ 62:=Nat.or_lt_two_pow (by omega) (by omega)
 rw [h,JT (by omega) (by omega),wrap_i64 (by omega) (by omega)]
section
variable {T : cr} {a b : AV} {t : TypeId} {x y : Operand} {hp : List AB} {K : AV → List AB → Prop}
theorem NJ {m n:Nat} (ha:a=.fl (.int .i64 (m:Int))) (hb:b=.fl (.int .i64 (n:Int))) (hm:m < 4611686018427387904) (hn:n < 4611686018427387904) (h:K (.fl (.int .i64 ((m ||| n:Nat):Int))) hp):ee T .or t x y a b hp K:=by
 subst ha hb
 exact ⟨.int .i64 ((m ||| n:Nat):Int),LI hm hn,rfl,h⟩
end
end Go.RM
namespace Go.RM
open Go
section
variable {T : cr} {tab : List XE} {one : Bool} {fl base : Nat} {E E' E2 : Env} {hp hp' hp2 : List AB} {aJ amb' : bN} {H H' H2 : Hp} {ρ ρ2 : Nat → Nat → Option Nat} {g g2 : aI} {O O2 : Nat → Prop}
end
end Go.RM
namespace Go.RM
open Go
section
variable {T : cr} {tab : List XE} {one : Bool} {base : Nat} {E : Env} {hp : List AB} {aJ : bN} {H : Hp}
inductive Fq (hp:List AB):AV→AV→Prop
 | fz {a v:AV}:Fz hp a v→Fq hp a v
 | ptr {j aD o es:Nat} {cs:List AV}:hp[j]?=some (.cells cs es aD)→bw cs=true→Fq hp (.ptr j aD o) (.pt cs o)
 | fn {f:FuncId} {a b x y:List AV}:a.length=x.length→b.length=y.length→(∀ (i:Nat) (u v:AV),a[i]?=some u→x[i]?=some v→Fq hp u v)→(∀ (i:Nat) (u v:AV),b[i]?=some u→y[i]?=some v→Fq hp u v)→Fq hp (.fn f a b) (.fn f x y)
theorem AR.JU {ρ:Nat→Nat→Option Nat} {g:aI} {O:Nat→Prop} {f:FuncId} {a b:List AV} {u:Value} (h:AR ρ g O (.fn f a b) u):∃ a' b',u=.func (.func f) a' b'∧gI ρ g O a a'.toList∧gI ρ g O b b'.toList:=by
 cases h with
 | d h=>cases h with
  | fn ha hb h1 h2=>exact ⟨_,_,rfl,⟨ha,fun i x u hx hu=>.d (h1 i x u hx hu)⟩,⟨hb,fun i x u hx hu=>.d (h2 i x u hx hu)⟩⟩
 | fn ha hb h1 h2=>exact ⟨_,_,rfl,⟨ha,h1⟩,⟨hb,h2⟩⟩
theorem Fq.dr {X:Nat→Prop} (h:aY E base hp aJ H) (hX:∀ k,X k→E.X k) {r v:AV} (hf:Fq hp r v):∀ {u:Value},AR E.ρ H.get (E.O hp) r u→DR H.get X v u:=by
 have weak:∀ {v:AV} {u:Value},DR H.get (E.O hp) v u→DR H.get X v u:=fun h=>h.mono fun k b hk ho=>⟨hk,fun hx=>ho (.inr (hX k hx))⟩
 induction hf with
 | fz hz=>intro u ha;exact hz.dr h hX ha
 | ptr h1 hd =>
  rename_i j aD o es cs
  intro u ha
  obtain ⟨k,hk,rfl⟩:=ha.dV
  obtain ⟨cs',q1,q2⟩:=h.cells h1 hk
  have hok:Own E.ρ hp k:=⟨j,_,aD,h1,rfl,hk⟩
  have hnx:¬ X k:=fun hx=>h.jh k hok (hX k hx)
  have:=DR.pt (g:=H.get) (O:=X) (l:=cs) (k:=k) (d:=0) (o:=o) (cs:=cs') q1 hnx (by rw [Nat.zero_add,q2.1];exact Nat.le_refl _) (fun i a u hx hu=>by
   rw [Nat.zero_add] at hu
   exact weak ((q2.2 i a u hx hu).deep (gW hd i a hx)))
  rw [Nat.zero_add] at this
  exact this
 | @fn f a b x y h1 h2 _ _ ih1 ih2 =>
  intro u ha
  obtain ⟨a',b',rfl,p1,p2⟩:=ha.JU
  refine .fn (by rw [←h1];exact p1.1) (by rw [←h2];exact p2.1) (fun i v w hv hw=>?_) (fun i v w hv hw=>?_)
  ·have hi:i < a.length:=by rw [h1];exact (List.getElem?_eq_some_iff.1 hv).1
   have hai:a[i]?=some a[i]:=List.getElem?_eq_getElem hi
   exact ih1 i _ v hai hv (p1.2 i _ w hai hw)
  ·have hi:i < b.length:=by rw [h2];exact (List.getElem?_eq_some_iff.1 hv).1
   have hai:b[i]?=some b[i]:=List.getElem?_eq_getElem hi
   exact ih2 i _ v hai hv (p2.2 i _ w hai hw)
def jV (hp:List AB):List AV→List AV→Prop
 | [],[]=>True
 | r :: rs,v :: vs=>Fq hp r v∧jV hp rs vs
 | _,_=>False
theorem jV.dr {X:Nat→Prop} (h:aY E base hp aJ H) (hX:∀ k,X k→E.X k):∀ {rs vs:List AV} {us:List Value},jV hp rs vs→gI E.ρ H.get (E.O hp) rs us→rL H.get X vs us
 | [],[],us,_,ha=>⟨ha.1,fun i a u hx=>by cases hx⟩
 | r :: rs,v :: vs,[],_,ha=>absurd ha.1 (by simp)
 | r :: rs,v :: vs,u :: us,hf,ha=>by
  have:=jV.dr h hX hf.2 (us:=us) ⟨by simpa using ha.1,fun i a u x y=>ha.2 (i+1) a u (by simpa using x) (by simpa using y)⟩
  refine ⟨by simp [this.1],fun i a w hx hw=>?_⟩
  cases i with
  | zero=>cases hx;cases hw;exact hf.1.dr h hX (ha.2 0 r u rfl rfl)
  | succ i=>exact this.2 i a w (by simpa using hx) (by simpa using hw)
 | [],_ :: _,_,hf,_=>hf.elim
 | _ :: _,[],_,hf,_=>by simp [jV] at hf
theorem jV.ML {f:FuncId} {a b x y:List AV} (h1:jV hp a x) (h2:jV hp b y):Fq hp (.fn f a b) (.fn f x y):=by
 have key:∀ {a x:List AV},jV hp a x→a.length=x.length∧∀ (i:Nat) (u v:AV),a[i]?=some u→x[i]?=some v→Fq hp u v:=by
  intro a
  induction a with
  | nil =>
   intro x h
   cases x with
   | nil=>exact ⟨rfl,fun i u v hu=>by cases hu⟩
   | cons=>exact h.elim
  | cons r rs ih =>
   intro x h
   cases x with
   | nil=>simp [jV] at h
   | cons v vs =>
    obtain ⟨l,k⟩:=ih h.2
    refine ⟨by simp [l],fun i u w hu hw=>?_⟩
    cases i with
    | zero=>cases hu;cases hw;exact h.1
    | succ i=>exact k i u w (by simpa using hu) (by simpa using hw)
 exact .fn (key h1).1 (key h2).1 (key h1).2 (key h2).2
theorem af.CE {F F':AV} {args vs:List AV} {v:AV} (h:af T tab one F' vs v) (hF:Fq hp F F') (hz:jV hp args vs) (hfree:ej v) {Q:AV→List AB→bN→Prop} (hq:Q v hp aJ):bl T tab one F args hp aJ Q:=by
 intro E base H u us hr hf ha
 obtain ⟨hd,h⟩:=h
 obtain ⟨goal,hg,m,L,h1,h2,h3⟩:=h E.X H u us hr.wf (fun k hk=>hr.xn k hk) (hF.dr hr (fun _ h=>h) hf) (hz.dr hr (fun _ h=>h) ha)
 refine ⟨goal,hg,m,L,h1,h2,fun r hm=>?_⟩
 obtain ⟨w,H',rfl,hn,hwf,hsame,hlo,hv⟩:=h3 r hm
 have e:Ext base E hp H E hp H':=⟨hn,rfl,rfl,rfl,fun _ _ _ h=>h,fun _ h=>.inl h,fun k hk _=>hsame k hk,by have:=hr.bn;omega⟩
 refine ⟨w,H',rfl,E,v,hp,aJ,hq,⟨hwf,fun j x aD hj hvx=>?_,hr.inj,fun j v k hk=>Nat.lt_of_lt_of_le (hr.rn j v k hk) hn,hr.fresh,hr.new,hr.sup,hr.jh,hr.dx,hr.ds,fun k hk=>Nat.lt_of_lt_of_le (hr.sn k hk) hn,fun k hk=>Nat.lt_of_lt_of_le (hr.xn k hk) hn,hr.qG,Nat.le_trans hr.bn hn,aJ.st hr.aJ (fun k hk=>hsame k (hr.sn k hk)) hn⟩,.d (hfree.2 _ _ _ _ hv),e.JH⟩
 rcases hr.iy j x aD hj hvx with ⟨k,b',q1,q2,q3⟩|q
 ·exact .inl ⟨k,b',q1,by rw [hsame k (hr.wf.lt q2)];exact q2,e.br hr.wf q3⟩
 ·exact .inr q
theorem jV.nil:jV hp [] []:=trivial
theorem jV.cons {a x:AV} {as xs:List AV} (h:Fq hp a x) (k:jV hp as xs):jV hp (a :: as) (x :: xs):=⟨h,k⟩
theorem Fq.deep {v:AV} (h:v.deep=true):Fq hp v v:=.fz (.deep h)
end
end Go.RM
namespace Go.RM
open Go
section
variable {T : cr} {tab : List XE} {one : Bool} {mu : Tmp → Bool} {dst : Option Tmp} {fr : Nat → AV} {hp : List AB} {aJ : bN} {rd : Bool} {fl : Nat} {KS : cy → Prop}
theorem om {r:Operand} {name:String} {l:List Operand} {tys} {F:AV} (hF:zg T.P (aQ fr r) name=F) (h:force F fun F=>fh (l.map (aQ fr)) fun as=>bl T tab one F as hp aJ fun v hp' amb'=>gX dst fr v fun fr'=>KS ⟨fr',hp',amb',rd,fl⟩) :
  sU T tab one mu dst (.call ⟨.invoke r name,l.toArray,tys⟩) fr hp aJ rd fl KS:=by
 subst hF
 exact h
theorem nm {r:Operand} {name:String} {l:List Operand} {tys} {i:Nat} {bt:Nat→Nat} {KD:(Nat→AV)→List AB→(Nat→Nat)→rq→Prop} {F v:AV} {as:List AV} (hp':af T tab true F as v) (hF:zg T.P (aQ fr r) name=F) (ha:l.map (aQ fr)=as) (hd:F.deep=true) (hda:bw as=true)
  (h:gX dst fr v fun fr'=>KD fr' hp (nq dst bt (i+1)) ⟨i,[],true,true⟩):eG T tab mu dst (.call ⟨.invoke r name,l.toArray,tys⟩) i bt fr hp KD:=by
 show force (zg T.P (aQ fr r) name) fun F=>fh (l.map (aQ fr)) fun as=>F.deep=true∧∃ vs v,Handed hp as vs v∧af T tab true F vs v∧gX dst fr v fun fr'=>KD fr' hp (nq dst bt (i+1)) ⟨i,[],true,true⟩
 rw [hF,ha]
 exact sY (qc (P:=fun as=>F.deep=true∧∃ vs v,Handed hp as vs v∧af T tab true F vs v∧gX dst fr v fun fr'=>KD fr' hp (nq dst bt (i+1)) ⟨i,[],true,true⟩) ⟨hd,as,v,.inl ⟨rfl,hda⟩,hp',h⟩)
end
end Go.RM
namespace Go.RM
open Go
section
variable {T : cr} {tab : List XE} {one : Bool} {mu : Tmp → Bool} {KE : Exit → cy → Prop} {st : cy}
theorem F6 {l:List Oper} (hd:l.any yR=false):gF l.toArray=l.length:=by
 unfold gF
 have:l.findIdx? yR=none:=by
  rw [List.findIdx?_eq_none_iff]
  intro x hx
  rw [List.any_eq_false] at hd
  simpa using hd x hx
 simp only [this]
theorem EL {id:Nat} {l:List Oper} (hd:l.any yR=false) (h:jU T tab mu l.toArray l 0 (fun _=>0) [] st (KE .normal)):mT T tab one mu (.region id l.toArray true) st KE:=by
 refine c5 (F6 hd) rfl rfl ?_
 rw [List.take_length,List.drop_length]
 exact h
end
end Go.RM
namespace Go.RM
open Go
section
variable {T : cr} {tab : List XE} {one : Bool} {mu : Tmp → Bool} {own : Bool} {fr : Nat → AV} {hp : List AB} {K : AV → List AB → Prop} {t : TypeId} {lU : TypeDesc} {s by' : Nat} {z : Option Value} {agg : Bool} {cI : List (Nat × Nat)} {eP : Nat}
theorem Ou {a:Operand} {cs:List AV} {o:Nat} (ha:aQ fr a=.pt cs o) (ht:T.ty.get t=some ⟨lU,s,by',z,true,cI,eP⟩) (hl:Nat.ble (o+s) cs.length=true) (h:K (.ag ((cs.drop o).take s)) hp):wpOp T own (.load t a) fr hp K:=by
 show fT T t (aQ fr a) hp K
 unfold fT
 simp only [ha,ht]
 exact ⟨Nat.le_of_ble_eq_true hl,h⟩
theorem Ov {a:Operand} {cs:List AV} {o:Nat} {v:AV} (ha:aQ fr a=.pt cs o) (ht:T.ty.get t=some ⟨lU,s,by',z,false,cI,eP⟩) (hv:cs[o]?=some v) (h:K v hp):wpOp T own (.load t a) fr hp K:=by
 show fT T t (aQ fr a) hp K
 unfold fT
 simp only [ha,ht]
 exact ⟨v,hv,h⟩
theorem Ow {a:Operand} {j aD o es:Nat} {cs:List AV} (ha:aQ fr a=.ptr j aD o) (ht:T.ty.get t=some ⟨lU,s,by',z,true,cI,eP⟩) (hj:hp[j]?=some (.cells cs es aD)) (hl:Nat.ble (o+s) cs.length=true) (h:K (.ag ((cs.drop o).take s)) hp):wpOp T own (.load t a) fr hp K:=by
 show fT T t (aQ fr a) hp K
 unfold fT
 simp only [ha,ht]
 exact ⟨cs,es,hj,Nat.le_of_ble_eq_true hl,h⟩
theorem F7 {a:Operand} {j aD o es:Nat} {cs:List AV} {v:AV} (ha:aQ fr a=.ptr j aD o) (ht:T.ty.get t=some ⟨lU,s,by',z,false,cI,eP⟩) (hj:hp[j]?=some (.cells cs es aD)) (hv:cs[o]?=some v) (h:K v hp):wpOp T own (.load t a) fr hp K:=by
 show fT T t (aQ fr a) hp K
 unfold fT
 simp only [ha,ht]
 exact ⟨cs,es,hj,v,hv,h⟩
theorem Ox {a:Operand} {i:Nat} {cs:List AV} {o off sz:Nat} {fs} (ha:aQ fr a=.pt cs o) (ht:T.ty.get t=some ⟨.struct fs,s,by',z,agg,cI,eP⟩) (hf:cI[i]?=some (off,sz)) (h1:Nat.ble 1 sz=true) (h:K (.pt cs (o+off)) hp):wpOp T own (.fieldAddr t a i) fr hp K:=by
 show ku T t (aQ fr a) i hp K
 unfold ku
 simp only [ha,ht]
 exact ⟨off,sz,hf,Nat.le_of_ble_eq_true h1,h⟩
theorem Oy {a:Operand} {i:Nat} {j aD o off sz:Nat} {fs} (ha:aQ fr a=.ptr j aD o) (ht:T.ty.get t=some ⟨.struct fs,s,by',z,agg,cI,eP⟩) (hf:cI[i]?=some (off,sz)) (h1:Nat.ble 1 sz=true) (h:K (.ptr j aD (o+off)) hp):wpOp T own (.fieldAddr t a i) fr hp K:=by
 show ku T t (aQ fr a) i hp K
 unfold ku
 simp only [ha,ht]
 exact ⟨off,sz,hf,Nat.le_of_ble_eq_true h1,h⟩
theorem Oz {v:Value} (ht:T.ty.get t=some ⟨lU,s,by',some v,agg,cI,eP⟩) (h1:v.cells.toList.all bF=true) (h:K (.ptr hp.length 0 0) (hp++[.cells (v.cells.toList.map .fl) 0 0])):wpOp T own (.alloc t) fr hp K:=by
 show sM T t hp K
 unfold sM
 simp only [ht]
 exact ⟨h1,h⟩
theorem NV {x:Operand} (h:force (aQ fr x) fun v=>zb own v hp K):wpOp T own (.box t x) fr hp K:=h
theorem OA {v:AV} (ho:own=false) (h1:v.lA=true) (h2:v.cells.all AV.one=true) (h3:bw v.cells=true) (h:K (.pt v.cells 0) hp):zb own v hp K:=by
 subst ho
 exact ⟨h1,h2,h3,h⟩
theorem OB {v:AV} (ho:own=true) (h1:v.lA=true) (h2:v.cells.all AV.one=true) (h:K (.ptr hp.length 0 0) (hp++[.cells v.cells 0 0])):zb own v hp K:=by
 subst ho
 exact ⟨h1,h2,h⟩
theorem LJ {a x:Operand} (h:force (aQ fr x) fun v=>dW T t (aQ fr a) v hp K):wpOp T own (.store t a x) fr hp K:=h
theorem MC {a v:AV} {j aD o es:Nat} {cs:List AV} (ha:a=.ptr j aD o) (ht:T.ty.get t=some ⟨lU,s,by',z,agg,cI,eP⟩) (hj:hp[j]?=some (.cells cs es aD)) (h1:v.lA=true) (h2:v.cells.all AV.one=true) (h3:v.cells.length=s) (h4:Nat.ble (o+s) cs.length=true) (h:K .cv (hp.set j (.cells (cw cs v.cells o) es aD))):dW T t a v hp K:=by
 unfold dW
 simp only [ha,ht]
 exact ⟨cs,es,hj,h1,h2,h3,Nat.le_of_ble_eq_true h4,h⟩
theorem LK {l:List (Nat × Operand)} (h:lC (l.map fun p=>(p.1,aQ fr p.2)) fun ps=>nX T t ps hp K):wpOp T own (.build t l.toArray) fr hp K:=h
theorem JV {l:List (Nat × Operand)} {len:Nat} (h:lC (l.map fun p=>(p.1,aQ fr p.2)) fun ps=>dX T own t len ps hp K):wpOp T own (.buildSlice t len l.toArray) fr hp K:=h
theorem OC {P:List (Nat × AV)→Prop} (h:P []):lC (([]:List (Nat × Operand)).map fun p=>(p.1,aQ fr p.2)) P:=h
theorem OD {i:Nat} {x:Operand} {l:List (Nat × Operand)} {P:List (Nat × AV)→Prop} (h:force (aQ fr x) fun a=>lC (l.map fun p=>(p.1,aQ fr p.2)) fun l=>P ((i,a) :: l)):lC (((i,x) :: l).map fun p=>(p.1,aQ fr p.2)) P:=h
theorem NQ {v:Value} {parts:List (Nat × AV)} {cs:List AV} (ht:T.ty.get t=some ⟨lU,s,by',some v,true,cI,eP⟩) (h1:v.cells.toList.all bF=true) (h2:Ck (iF lU cI eP) (v.cells.toList.map .fl) parts=some cs) (h:K (.ag cs) hp):nX T t parts hp K:=by
 unfold nX
 simp only [ht]
 exact ⟨h1,cs,h2,h⟩
theorem OE {len:Nat} {parts:List (Nat × AV)} {inf:yP} (ho:own=false) (hi:elem? T t=some inf) (h1:Nat.ble (len * inf.size) 65536=true) (h2:ct inf=true) (h3:mq inf.size 0 parts=true) (h4:Nat.beq parts.length len=true) (h5:bw (parts.map (·.2.cells)).flatten=true) (h:K (.sl (parts.map (·.2.cells)) true) hp):dX T own t len parts hp K:=by
 subst ho
 unfold dX
 simp only [hi]
 exact ⟨h1,h2,h3,h4,h5,h⟩
theorem OG {len:Nat} {parts:List (Nat × AV)} {inf:yP} (ho:own=true) (hi:elem? T t=some inf) (h1:Nat.ble (len * inf.size) 65536=true) (h2:ct inf=true) (h3:mq inf.size 0 parts=true) (h4:Nat.beq parts.length len=true) (h:K (.bX hp.length 0 0 len len) (hp++[.cells (parts.map (·.2.cells)).flatten inf.size 0])):dX T own t len parts hp K:=by
 subst ho
 unfold dX
 simp only [hi]
 exact ⟨h1,h2,h3,h4,h⟩
theorem OH {x:Operand} {i:Nat} {vs:List AV} {v:AV} (ha:aQ fr x=.tp vs) (hv:vs[i]?=some v) (h:K v hp):wpOp T own (.extract x i) fr hp K:=by
 show kK (aQ fr x) i hp K
 rw [ha]
 exact ⟨v,hv,h⟩
theorem Oh {a x:Operand} {e:TypeId} {els:List (List AV)} {f:Bool} {j:Int} {el:List AV} (ha:aQ fr a=.sl els f) (hx:aQ fr x=.fl (.int .i64 j)) (ht:T.ty.get t=some ⟨.slice e,s,by',z,agg,cI,eP⟩) (hat:els[j.toNat]?=some el) (h0:0≤j) (hl:el.length=eP) (h:K (.pt el 0) hp):wpOp T own (.indexAddr t a x) fr hp K:=by
 show cO T t (aQ fr a) (aQ fr x) hp K
 rw [ha,hx]
 unfold cO
 simp only [asInt,ht]
 exact ⟨el,⟨h0,hat⟩,hl,h⟩
theorem OI {a x:Operand} {e:TypeId} {i aD o n c:Nat} {j:Int} (ha:aQ fr a=.bX i aD o n c) (hx:aQ fr x=.fl (.int .i64 j)) (ht:T.ty.get t=some ⟨.slice e,s,by',z,agg,cI,eP⟩) (h0:0≤j∧j < (n:Int)) (h:K (.ptr i aD (o+j.toNat * eP)) hp):wpOp T own (.indexAddr t a x) fr hp K:=by
 show cO T t (aQ fr a) (aQ fr x) hp K
 rw [ha,hx]
 unfold cO
 simp only [asInt,ht]
 exact ⟨h0,h⟩
theorem OJ {a x:Operand} {e:TypeId} {len:Nat} {cs:List AV} {o:Nat} {j:Int} (ha:aQ fr a=.pt cs o) (hx:aQ fr x=.fl (.int .i64 j)) (ht:T.ty.get t=some ⟨.array len e,s,by',z,agg,cI,eP⟩) (h0:0≤j∧j < (len:Int)) (h:K (.pt cs (o+j.toNat * eP)) hp):wpOp T own (.indexAddr t a x) fr hp K:=by
 show cO T t (aQ fr a) (aQ fr x) hp K
 rw [ha,hx]
 unfold cO
 simp only [asInt,ht]
 exact ⟨h0,h⟩
theorem OK {a x:Operand} {e:TypeId} {len:Nat} {i aD o:Nat} {j:Int} (ha:aQ fr a=.ptr i aD o) (hx:aQ fr x=.fl (.int .i64 j)) (ht:T.ty.get t=some ⟨.array len e,s,by',z,agg,cI,eP⟩) (h0:0≤j∧j < (len:Int)) (h:K (.ptr i aD (o+j.toNat * eP)) hp):wpOp T own (.indexAddr t a x) fr hp K:=by
 show cO T t (aQ fr a) (aQ fr x) hp K
 rw [ha,hx]
 unfold cO
 simp only [asInt,ht]
 exact ⟨h0,h⟩
end
end Go.RM
namespace Go.RM
open Go
section
variable {T : cr} {own : Bool} {fr : Nat → AV} {hp : List AB} {K : AV → List AB → Prop} {t : TypeId}
theorem OL {l c:Operand} {n:Nat} {inf:yP} (hi:elem? T t=some inf) (hl:aQ fr l=.fl (.int .i64 (Int.ofNat n))) (hc:aQ fr c=.fl (.int .i64 (Int.ofNat n))) (hb:inf.bytes * n≤140737488355328∧n≤9223372036854775807) (hz:ct inf=true) (h:K (.bX hp.length 0 0 n n) (hp++[.cells ((dj (zeroCells inf) (n * inf.size)).map .fl) inf.size 0])):wpOp T own (.makeSlice t l c) fr hp K:=by
 show wT T t (aQ fr l) (aQ fr c) hp K
 unfold wT
 simp only [hi,hl,hc]
 refine ⟨n,n,rfl,rfl,⟨Nat.le_refl _,hb⟩,hz,?_⟩
 rw [show Nat.beq n n=true from Nat.beq_refl n]
 exact h
end
end Go.RM
namespace Go.RM
open Go
section
variable {T : cr} {own : Bool} {fr : Nat → AV} {hp : List AB} {K : AV → List AB → Prop} {s x : Operand} {t u e : TypeId} {a1 a2 a3 a4 a5 a6} {els : List (List AV)} {f : Bool} {inf : yP}
theorem NW (hs:aQ fr s=.fl (.slice none 0 0)) (hx:aQ fr x=.sl els f) (hu:T.ty.get u=some ⟨.slice e,a1,a2,a3,a4,a5,a6⟩) (hi:elem? T t=some inf) (hz:ct inf=true) (ho:own=true) (hel:∀ el ∈ els,el.length=inf.size) (h1:els.flatten.all AV.one=true) (hne:els.isEmpty=false)
  (hb:els.length * inf.bytes≤140737488355328∧els.length≤9223372036854775807) (hk:K (.bX hp.length 0 0 els.length (els.length+1)) (hp++[.cells els.flatten inf.size 0])) :
  RM.wpOp T own (.call ⟨.builtin .append,[s,x].toArray,[t,u].toArray⟩) fr hp K:=by
 subst ho
 show force (aQ fr s) fun a=>force (aQ fr x) fun b=>jw T true .append [a,b] [t,u] hp K
 rw [hs,hx]
 show (match T.ty.get u with|some ⟨.slice _,_,_,_,_,_,_⟩=>jM T true t (.fl (.slice none 0 0)) (.sl els f) hp K|_=>False)
 rw [hu]
 show jM T true t (.fl (.slice none 0 0)) (.sl els f) hp K
 unfold jM
 rw [hi]
 exact ⟨hz,els,⟨hel,rfl⟩,h1,hb,(fun h=>by rw [h] at hne;cases hne),fun _=>hk⟩
theorem NX {j aD n c:Nat} {cs:List AV} (hs:aQ fr s=.bX j aD 0 n c) (hx:aQ fr x=.sl els f) (hu:T.ty.get u=some ⟨.slice e,a1,a2,a3,a4,a5,a6⟩) (hi:elem? T t=some inf) (hz:ct inf=true) (hel:∀ el ∈ els,el.length=inf.size) (h1:els.flatten.all AV.one=true) (hne:els.isEmpty=false) (hj:hp[j]?=some (.cells cs inf.size aD)) (hl:cs.length=n * inf.size) (hc:c=n∨c=n+1)
  (hb:(n+els.length) * inf.bytes≤140737488355328∧n+els.length≤9223372036854775807) (hk:K (.bX j (aD+1) 0 (n+els.length) (n+els.length+1)) (hp.set j (.cells (cs++els.flatten) inf.size (aD+1)))) :
  RM.wpOp T own (.call ⟨.builtin .append,[s,x].toArray,[t,u].toArray⟩) fr hp K:=by
 show force (aQ fr s) fun a=>force (aQ fr x) fun b=>jw T own .append [a,b] [t,u] hp K
 rw [hs,hx]
 show (match T.ty.get u with|some ⟨.slice _,_,_,_,_,_,_⟩=>jM T own t (.bX j aD 0 n c) (.sl els f) hp K|_=>False)
 rw [hu]
 show jM T own t (.bX j aD 0 n c) (.sl els f) hp K
 unfold jM
 rw [hi]
 exact ⟨hz,els,⟨hel,rfl⟩,h1,cs,hj,hl,hc,hb,(fun h=>by rw [h] at hne;cases hne),fun _=>hk⟩
end
end Go.RM
namespace Go.RM
open Go
theorem HX {w m n:Nat} (hm:m < 2 ^ w) (hn:n < 2 ^ w):(BitVec.ofInt w (m:Int) &&& BitVec.ofInt w (n:Int)).toNat=m &&& n:=by
 rw [BitVec.toNat_and,BitVec.ofInt_natCast,BitVec.ofInt_natCast,BitVec.toNat_ofNat,BitVec.toNat_ofNat,Nat.mod_eq_of_lt hm,Nat.mod_eq_of_lt hn]
theorem HY {P:Program} {t:TypeId} {x y:Operand} {m:Nat} (hm:m < 4611686018427387904):hU P .and t x y (.int .i64 (m:Int)) (.int .i64 1)=some (.int .i64 ((m % 2:Nat):Int),.none):=by
 have h:hU P .and t x y (.int .i64 (m:Int)) (.int .i64 ((1:Nat):Int))=some (.int .i64 (IntKind.wrap .i64 ((BitVec.ofInt 64 (m:Int) &&& BitVec.ofInt 64 ((1:Nat):Int)).toNat:Int)),.none):=rfl
 have h1:m &&& 1=m % 2:=Nat.and_one_is_mod m
 show hU P .and t x y (.int .i64 (m:Int)) (.int .i64 ((1:Nat):Int))=_
 rw [h,HX (by omega) (by omega),h1,wrap_i64 (by omega) (by omega)]
theorem F8 {P:Program} {t:TypeId} {x y:Operand} {j:Nat} (hj:j < 8):hU P .shl t x y (.int .i64 1) (.int .i64 (j:Int))=some (.int .i64 ((2 ^ j:Nat):Int),.none):=by
 match j,hj with
 | 0,_|1,_|2,_|3,_|4,_|5,_|6,_|7,_=>rfl
theorem F9 {P:Program} {t:TypeId} {x y:Operand} {m j:Nat} (hj:j < 8):hU P .shr t x y (.int .i64 (m:Int)) (.int .i64 (j:Int))=some (.int .i64 ((m / 2 ^ j:Nat):Int),.none):=by
 have h:hU P .shr t x y (.int .i64 (m:Int)) (.int .i64 (j:Int))=some (.int .i64 ((m:Int).fdiv (2 ^ j)),.none):=by
  match j,hj with
  | 0,_|1,_|2,_|3,_|4,_|5,_|6,_|7,_=>rfl
 rw [h,Int.fdiv_eq_ediv_of_nonneg _ (Int.pow_nonneg (by decide)),Int.natCast_ediv,Int.natCast_pow]
 rfl
section
variable {T : cr} {a b : AV} {t : TypeId} {x y : Operand} {hp : List AB} {K : AV → List AB → Prop}
theorem EM {m:Nat} (ha:a=.fl (.int .i64 (m:Int))) (hb:b=.fl (.int .i64 1)) (hm:m < 4611686018427387904) (h:K (.fl (.int .i64 ((m % 2:Nat):Int))) hp):ee T .and t x y a b hp K:=by
 subst ha hb
 exact ⟨.int .i64 ((m % 2:Nat):Int),HY hm,rfl,h⟩
theorem AU {j:Nat} (ha:a=.fl (.int .i64 1)) (hb:b=.fl (.int .i64 (j:Int))) (hj:j < 8) (h:K (.fl (.int .i64 ((2 ^ j:Nat):Int))) hp):ee T .shl t x y a b hp K:=by
 subst ha hb
 exact ⟨.int .i64 ((2 ^ j:Nat):Int),F8 hj,rfl,h⟩
theorem AW {m j:Nat} (ha:a=.fl (.int .i64 (m:Int))) (hb:b=.fl (.int .i64 (j:Int))) (hj:j < 8) (h:K (.fl (.int .i64 ((m / 2 ^ j:Nat):Int))) hp):ee T .shr t x y a b hp K:=by
 subst ha hb
 exact ⟨.int .i64 ((m / 2 ^ j:Nat):Int),F9 hj,rfl,h⟩
end
end Go.RM
namespace Go.RM
open Go
section
variable {T : cr} {tab : List XE} {one : Bool} {fl base : Nat} {E E' E2 : Env} {hp hp' hp2 : List AB} {aJ amb' : bN} {H H' H2 : Hp} {ρ ρ2 : Nat → Nat → Option Nat} {g g2 : aI} {O O2 : Nat → Prop}
abbrev EN (T:cr) (tab:List XE) (base:Nat) (ops:Array Oper) (c:Nat) (K:cy→Prop) (l:List Oper) (i:Nat) (evs:List Ev) (st:cy) (tr:Nat→fJ) (s:St):Prop :=
 ∃ m L,fu T (RX T tab m) ops l (rS T (RX T tab m) ops c) i s evs=some L∧∀ s' ∈ L,∃ E' st',K st'∧st'.fl=st.fl∧qp E' base st' s'∧lW st.fl base (tr 0).E (tr 0).hp (tr 0).H E' st'.hp s'.hp
theorem DS {mu:Tmp→Bool} {ops:Array Oper} {o:Oper} {l:List Oper} {i:Nat} {bt:Nat→Nat} {acc:List rq} {evs:List Ev} {st:cy} {K:cy→Prop} {tr:Nat→fJ} {s:St} {c:Nat} {X:List Oper→Nat→(Nat→Nat)→List rq→cy→Prop}
  (hX:∀ {bt:Nat→Nat} {acc:List rq} {evs:List Ev} {st:cy} {tr:Nat→fJ} {s:St},X l (i+1) bt acc st→ua base st.aJ tr (i+1)→(tr (i+1)).hp=st.hp→(tr (i+1)).H=s.hp→s.rd=st.rd→jC tr (i+1) bt st.fr s.fr→qq tr (i+1) acc evs→EN T tab base ops c K l (i+1) evs st tr s)
  (h:cC ops.toList o.guard st.fr (eG T tab mu o.dst o.op i bt st.fr st.hp fun fr' hp' bt' x=>X l (i+1) bt' (x :: acc) ⟨fr',hp',st.aJ,st.rd,st.fl⟩)
   (gX o.dst st.fr (.tp []) fun fr'=>X l (i+1) (nq o.dst bt 0) (⟨i,[],false,false⟩ :: acc) ⟨fr',st.hp,st.aJ,st.rd,st.fl⟩))
  (ht:ua base st.aJ tr i) (h1:(tr i).hp=st.hp) (h2:(tr i).H=s.hp) (h3:s.rd=st.rd) (hb:jC tr i bt st.fr s.fr) (he:qq tr i acc evs):EN T tab base ops c K (o :: l) i evs st tr s:=by
 have hrel:=ht.rel i (Nat.le_refl _)
 have hfr:mP (tr i).E.ρ (tr i).H.get ((tr i).E.O (tr i).hp) st.fr s.fr:=fun t=>(ht.ext _ i (hb t).1 (Nat.le_refl _)).ar (ht.rel _ (hb t).1).wf (hb t).2
 have hz0:(snoc tr i (tr i) 0)=tr 0:=cP (Nat.zero_le _)
 rcases sW hfr h with ⟨hg,h⟩|⟨hg,h⟩
 ·
  have go:∀ (z:fJ) (v:AV) (u:Value) (b:Nat) (x:rq) (t:Tc) (m0:Nat),aY z.E base z.hp st.aJ z.H→Ext base (tr i).E (tr i).hp (tr i).H z.E z.hp z.H→b≤i+1→(snoc tr i z b).ar v u→x.i=i→Jz (snoc tr i z) x t →
    (∀ m,m0≤m→bY T (RX T tab m) o.op i s=some (u,z.H,t))→X l (i+1) (nq o.dst bt b) (x :: acc) ⟨AJ st.fr o.dst v,z.hp,st.aJ,st.rd,st.fl⟩ →
    EN T tab base ops c K (o :: l) i evs st tr s:=by
   intro z v u b x t m0 hz he' hbi hv hxi hx hd hw
   obtain ⟨m,L,r1,r2⟩:=hX (s:=⟨fY s.fr o.dst u,z.H,s.rd⟩) (evs:=⟨o,s,u,z.H,t⟩ :: evs) hw (ht.snoc hz he') (by rw [cH (Nat.lt_succ_self _)]) (by rw [cH (Nat.lt_succ_self _)]) h3 (hb.put hbi hv o.dst) (.cons (he.snoc (Nat.le_refl _)) hxi hx)
   rw [cP (Nat.zero_le _)] at r2
   refine ⟨max m0 m,L,?_,r2⟩
   rw [fF,hg]
   simp only [cond_true,hd _ (Nat.le_max_left _ _)]
   exact nW (gy (Nat.le_max_right m0 m)) ops (fun _ _ _=>Cb (gy (Nat.le_max_right m0 m))) _ _ _ _ _ r1
  unfold eG at h
  split at h
  ·rename_i f args hk
   have h:=gq (cU h)
   obtain ⟨hF,vs,v,hhand,⟨hvd,hpure⟩,h⟩:=h
   have hF':=(AK hfr f).deep hF
   have hget:({s.hp with lo:=s.hp.n}:Hp).get=(tr i).H.get:=by rw [h2];rfl
   obtain ⟨goal,hgo,m0,L,q1,q2,q3⟩:∃ goal,dI (m5 T.P s.fr f) (args.map (bL s.fr))=some goal ∧
     ∃ m L,RX T tab m (jF {s.hp with lo:=s.hp.n} goal)=some L∧(true=true→∃ r,L=[r])∧∀ r ∈ L,∃ w H',r=.ret w H' ∧
      ({s.hp with lo:=s.hp.n}:Hp).n≤H'.n∧Wf H'∧(∀ k,k < ({s.hp with lo:=s.hp.n}:Hp).n→H'.get k=({s.hp with lo:=s.hp.n}:Hp).get k)∧min ({s.hp with lo:=s.hp.n}:Hp).lo ({s.hp with lo:=s.hp.n}:Hp).n≤H'.lo∧DR H'.get ((tr i).E.O (tr i).hp) v w:=by
    rcases hhand with ⟨rfl,hA⟩|⟨hz,hfree⟩
    ·have hA':=(gi hfr args).deep hA
     exact hpure ((tr i).E.O (tr i).hp) {s.hp with lo:=s.hp.n} _ _ (by rw [h2] at hrel;exact hrel.wf) (fun k hk=>by
      have:k < (tr i).H.n:=hk.elim (fun h=>hrel.nj h) (hrel.xn k)
      rw [h2] at this;exact this) (by rw [hget];exact hF') (by rw [hget];exact hA')
    ·obtain ⟨goal,hgo,m0,L,q1,q2,q3⟩:=hpure (tr i).E.X {s.hp with lo:=s.hp.n} _ _ (by rw [h2] at hrel;exact hrel.wf) (fun k hk=>by
      have:k < (tr i).H.n:=hrel.xn k hk
      rw [h2] at this;exact this) (by rw [hget];exact hF'.mono fun k b hk ho=>⟨hk,fun hx=>ho (.inr hx)⟩) (by
       rw [hget]
       rw [←h1] at hz
       exact hz.dr hrel (fun _ h=>h) (gi hfr args))
     refine ⟨goal,hgo,m0,L,q1,q2,fun r hm=>?_⟩
     obtain ⟨w,H',e1,e2,e3,e4,e5,e6⟩:=q3 r hm
     exact ⟨w,H',e1,e2,e3,e4,e5,hfree.2 _ _ _ _ e6⟩
   obtain ⟨r,hr⟩:=q2 rfl
   subst hr
   obtain ⟨w,H',rfl,hn,hwf,hsame,hlo,hdr⟩:=q3 r (by simp)
   obtain ⟨g1,g2⟩:=hrel.grow (H':={H' with lo:=s.hp.lo}) (by rw [h2];exact hn) hwf (fun k hk=>by
    have:=hsame k (by rw [←h2];exact hk)
    rw [h2];exact this) (by rw [h2];exact Nat.min_le_left _ _)
   refine go ⟨(tr i).E,st.hp,{H' with lo:=s.hp.lo}⟩ v w (i+1) ⟨i,[],true,true⟩ ⟨i,[],[],true,s.hp.n,H'.n⟩ m0 (by rw [←h1];exact g1) (by rw [←h1];exact g2) (Nat.le_refl _) ?_ rfl ?_ (fun m hm=>?_) (gY h)
   ·rw [cH (Nat.lt_succ_self _)]
    refine .d ?_
    show DR H'.get ((tr i).E.O st.hp) v w
    rw [←h1];exact hdr
   ·refine ⟨rfl,by rw [cP (Nat.le_refl _),h2],by rw [cH (Nat.lt_succ_self _)],fun h=>Bool.noConfusion h,rfl,fun k hk=>(by cases hk),fun k hk=>(by cases hk)⟩
   ·unfold bY
    simp only [hk,hgo,gy hm _ _ q1]
    have:Nat.ble s.hp.n H'.lo=true:=Nat.ble_eq_true_of_le (by
     have:min s.hp.n s.hp.n≤H'.lo:=hlo
     omega)
    rw [this];rfl
  ·exact h.elim
  ·rename_i hk
   obtain ⟨a,hacc,hw⟩:=h
   have hw':=hw
   rw [←h1] at hw'
   obtain ⟨r,w,ht1,ht2,ht3⟩:=EF ht hb hacc hw'
   have evr:∀ (z:fJ) (u:Value) (e:cK),kV T s.hp.n o.op (bL s.fr) s.hp.get=some (u,e)→z.H=s.hp.app e→Jz (snoc tr i z) ⟨i,a,news? o.op,false⟩ ⟨i,r,w,false,s.hp.n,(s.hp.app e).n⟩:=by
    intro z u e hop hz
    refine ⟨rfl,by rw [cP (Nat.le_refl _),h2],by rw [cH (Nat.lt_succ_self _),hz],fun hal _=>(zj (Cy hop hal)).symm,rfl,fun k hk=>?_,fun k hk=>?_⟩
    ·obtain ⟨p,p1,p2,p3⟩:=ht2 k hk;exact ⟨p,p1,p2,p3.snoc (Nat.le_refl _)⟩
    ·obtain ⟨p,p1,p2,p3⟩:=ht3 k hk;exact ⟨p,p1,p2,p3.snoc (Nat.le_refl _)⟩
   have drw:∀ (u:Value) (e:cK) (m:Nat),kV T s.hp.n o.op (bL s.fr) s.hp.get=some (u,e)→bY T (RX T tab m) o.op i s=some (u,s.hp.app e,⟨i,r,w,false,s.hp.n,(s.hp.app e).n⟩):=by
    intro u e m hop
    unfold bY
    simp only [hk,ht1,hop]
   by_cases hm:∃ x,Cw o.op st.fr=some [x]
   ·obtain ⟨x,hm⟩:=hm
    have hbirth:qI o.op st.fr bt i=AN bt x:=by unfold qI;rw [hm]
    have hbx:=hb.eval x
    have eb:=ht.ext _ i hbx.1 (Nat.le_refl _)
    obtain ⟨u,v,r1,r2,r3,r4⟩:=Cx (ρ2:=(tr (AN bt x)).E.ρ) (g2:=(tr (AN bt x)).H.get) (O2:=(tr (AN bt x)).E.O (tr (AN bt x)).hp) (n:=s.hp.n) hfr hm (fun y hy=>by
     obtain rfl:=List.mem_singleton.1 hy;exact hbx.2) (fun k b hk ho=>(eb.keep (ht.rel _ hbx.1).wf k b hk ho).1) hw
    rw [h2] at r1
    have hz:(tr i).H=s.hp.app .none:=h2
    rw [hbirth] at r2
    refine go (tr i) v u (AN bt x) ⟨i,a,news? o.op,false⟩ ⟨i,r,w,false,s.hp.n,(s.hp.app .none).n⟩ 0 hrel .refl (by omega) (by rw [cP hbx.1];exact r4) rfl (evr _ u .none r1 hz) (fun m _=>by rw [hz];exact drw u .none m r1) (by rw [h1];exact gY (cU r2))
   ·have hbirth:qI o.op st.fr bt i=i+1:=by
     unfold qI
     split
     ·rename_i x hx;exact absurd ⟨x,hx⟩ hm
     ·rfl
    obtain ⟨u,e,E',v,hp',r1,r2,r3,r4,r5⟩:=rj hrel hfr hw'
    rw [h2] at r1 r3 r4 r5
    rw [hbirth] at r2
    refine go ⟨E',hp',s.hp.app e⟩ v u (i+1) ⟨i,a,news? o.op,false⟩ ⟨i,r,w,false,s.hp.n,(s.hp.app e).n⟩ 0 r3 (by rw [h2];exact r4) (Nat.le_refl _) (by rw [cH (Nat.lt_succ_self _)];exact r5) rfl (evr _ u e r1 rfl) (fun m _=>drw u e m r1) (gY (cU r2))
 ·obtain ⟨m,L,r1,r2⟩:=hX (s:=⟨fY s.fr o.dst undef,s.hp,s.rd⟩) (evs:=⟨o,s,undef,s.hp,⟨i,[],[],false,s.hp.n,s.hp.n⟩⟩ :: evs) (gY h) (ht.snoc (z:=tr i) hrel .refl) (by rw [cH (Nat.lt_succ_self _)];exact h1) (by rw [cH (Nat.lt_succ_self _)];exact h2) h3
   (hb.put (Nat.zero_le _) wW o.dst) (.cons (he.snoc (Nat.le_refl _)) rfl ⟨rfl,by rw [cP (Nat.le_refl _),h2],by rw [cH (Nat.lt_succ_self _),h2],fun _ _=>rfl,rfl,fun k hk=>(by cases hk),fun k hk=>(by cases hk)⟩)
  rw [hz0] at r2
  refine ⟨m,L,?_,r2⟩
  rw [fF,hg]
  exact r1
def LL (T:cr) (tab:List XE) (mu:Tmp→Bool) (ops:Array Oper) (c:Nat) (K:cy→Prop) (acc:List rq) (st:cy):Prop :=
 match ops.toList[c]? with
 | some o=>match fc o.op with
  | .call f args=>cC ops.toList o.guard st.fr (force (NI T.P st.fr f) fun F=>fh (args.map (aQ st.fr)) fun as=>F.deep=true∧∃ vs v,Handed st.hp as vs v∧af T tab false F vs v∧jB (iq ops) (⟨c,[],true,true⟩ :: acc)=true ∧
   gX o.dst st.fr v fun fr'=>wpOps T tab false mu ops.toList (ops.toList.drop (c+1)) ⟨fr',st.hp,st.aJ,st.rd,st.fl⟩ K) False
  | _=>False
 | none=>False
def i7 (T:cr) (tab:List XE) (mu:Tmp→Bool) (ops:Array Oper) (c:Nat) (K:cy→Prop):List Oper→Nat→(Nat→Nat)→List rq→cy→Prop
 | [],i,_,acc,st=>i=c∧LL T tab mu ops c K acc st
 | ⟨dst,op,_,_,_,gd⟩ :: l,i,bt,acc,⟨fr,hp,aJ,rd,fl⟩ =>
  cC ops.toList gd fr (eG T tab mu dst op i bt fr hp fun fr' hp' bt' x=>i7 T tab mu ops c K l (i+1) bt' (x :: acc) ⟨fr',hp',aJ,rd,fl⟩)
   (gX dst fr (.tp []) fun fr'=>i7 T tab mu ops c K l (i+1) (nq dst bt 0) (⟨i,[],false,false⟩ :: acc) ⟨fr',hp,aJ,rd,fl⟩)
theorem qJ {mu:Tmp→Bool} {ops:Array Oper} {c:Nat} {K:cy→Prop}:∀ {l:List Oper} {i:Nat} {bt:Nat→Nat} {acc:List rq} {evs:List Ev} {st:cy} {tr:Nat→fJ} {s:St},i7 T tab mu ops c K l i bt acc st →
  ua base st.aJ tr i→(tr i).hp=st.hp→(tr i).H=s.hp→s.rd=st.rd→jC tr i bt st.fr s.fr→qq tr i acc evs→EN T tab base ops c K l i evs st tr s
 | o :: l,i,bt,acc,evs,st,tr,s,h,ht,h1,h2,h3,hb,he=>DS (X:=fun l i bt acc st=>i7 T tab mu ops c K l i bt acc st) (fun h=>qJ h) h ht h1 h2 h3 hb he
 | [],i,bt,acc,evs,st,tr,s,h,ht,h1,h2,h3,hb,he=>by
  obtain ⟨rfl,h⟩:=h
  have hrel:=ht.rel i (Nat.le_refl _)
  have hfr:mP (tr i).E.ρ (tr i).H.get ((tr i).E.O (tr i).hp) st.fr s.fr:=fun t=>(ht.ext _ i (hb t).1 (Nat.le_refl _)).ar (ht.rel _ (hb t).1).wf (hb t).2
  unfold LL at h
  split at h
  ·rename_i o ho
   split at h
   ·rename_i f args hk
    rcases sW hfr h with ⟨hg,h⟩|⟨_,h⟩
    case inr=>exact h.elim
    have h:=gq (cU h)
    obtain ⟨hF,vs,v,hhand,⟨hvd,hpure⟩,hchk,h⟩:=h
    have h:=gY h
    have hF':=(AK hfr f).deep hF
    have hget:({s.hp with lo:=s.hp.n}:Hp).get=(tr i).H.get:=by rw [h2];rfl
    obtain ⟨goal,hgo,m0,R,q1,q2,q3⟩:∃ goal,dI (m5 T.P s.fr f) (args.map (bL s.fr))=some goal ∧
      ∃ m L,RX T tab m (jF {s.hp with lo:=s.hp.n} goal)=some L∧(false=true→∃ r,L=[r])∧∀ r ∈ L,∃ w H',r=.ret w H' ∧
       ({s.hp with lo:=s.hp.n}:Hp).n≤H'.n∧Wf H'∧(∀ k,k < ({s.hp with lo:=s.hp.n}:Hp).n→H'.get k=({s.hp with lo:=s.hp.n}:Hp).get k)∧min ({s.hp with lo:=s.hp.n}:Hp).lo ({s.hp with lo:=s.hp.n}:Hp).n≤H'.lo∧DR H'.get ((tr i).E.O (tr i).hp) v w:=by
     rcases hhand with ⟨rfl,hA⟩|⟨hz,hfree⟩
     ·have hA':=(gi hfr args).deep hA
      exact hpure ((tr i).E.O (tr i).hp) {s.hp with lo:=s.hp.n} _ _ (by rw [h2] at hrel;exact hrel.wf) (fun k hk=>by
       have:k < (tr i).H.n:=hk.elim (fun h=>hrel.nj h) (hrel.xn k)
       rw [h2] at this;exact this) (by rw [hget];exact hF') (by rw [hget];exact hA')
     ·obtain ⟨goal,hgo,m0,L,q1,q2,q3⟩:=hpure (tr i).E.X {s.hp with lo:=s.hp.n} _ _ (by rw [h2] at hrel;exact hrel.wf) (fun k hk=>by
        have:k < (tr i).H.n:=hrel.xn k hk
        rw [h2] at this;exact this) (by rw [hget];exact hF'.mono fun k b hk ho=>⟨hk,fun hx=>ho (.inr hx)⟩) (by
        rw [hget]
        rw [←h1] at hz
        exact hz.dr hrel (fun _ h=>h) (gi hfr args))
      refine ⟨goal,hgo,m0,L,q1,q2,fun r hm=>?_⟩
      obtain ⟨w,H',e1,e2,e3,e4,e5,e6⟩:=q3 r hm
      exact ⟨w,H',e1,e2,e3,e4,e5,hfree.2 _ _ _ _ e6⟩
    have hone:∀ r ∈ R,∃ w H',r=.ret w H'∧vR i s r=some [(w,({H' with lo:=s.hp.lo}:Hp),(⟨i,[],[],true,s.hp.n,H'.n⟩:Tc))] ∧
      eL T ops (⟨o,s,w,{H' with lo:=s.hp.lo},⟨i,[],[],true,s.hp.n,H'.n⟩⟩ :: evs)=true ∧
      qp (tr i).E base ⟨AJ st.fr o.dst v,st.hp,st.aJ,st.rd,st.fl⟩ ⟨fY s.fr o.dst w,{H' with lo:=s.hp.lo},s.rd⟩∧Ext base (tr 0).E (tr 0).hp (tr 0).H (tr i).E st.hp {H' with lo:=s.hp.lo}:=fun r hr=>by
     obtain ⟨w,H',rfl,hn,hwf,hsame,hlo,hdr⟩:=q3 r hr
     obtain ⟨g1,g2⟩:=hrel.grow (H':={H' with lo:=s.hp.lo}) (by rw [h2];exact hn) hwf (fun k hk=>by
      have:=hsame k (by rw [←h2];exact hk)
      rw [h2];exact this) (by rw [h2];exact Nat.min_le_left _ _)
     rw [h1] at g1 g2
     have hble:Nat.ble s.hp.n H'.lo=true:=Nat.ble_eq_true_of_le (by
      have:min s.hp.n s.hp.n≤H'.lo:=hlo
      omega)
     let z:fJ:=⟨(tr i).E,st.hp,{H' with lo:=s.hp.lo}⟩
     have htz:ua base st.aJ (snoc tr i z) (i+1):=ht.snoc (z:=z) g1 (by rw [h1];exact g2)
     have hev:qq (snoc tr i z) (i+1) (⟨i,[],true,true⟩ :: acc) (⟨o,s,w,{H' with lo:=s.hp.lo},⟨i,[],[],true,s.hp.n,H'.n⟩⟩ :: evs) :=
      .cons (he.snoc (Nat.le_refl _)) rfl ⟨rfl,by rw [cP (Nat.le_refl _),h2],by rw [cH (Nat.lt_succ_self _)],fun h=>Bool.noConfusion h,rfl,fun k hk=>(by cases hk),fun k hk=>(by cases hk)⟩
     refine ⟨w,H',rfl,?_,?_,⟨g1,h3,fun t=>?_⟩,?_⟩
     ·show (bif Nat.ble s.hp.n H'.lo then _ else none)=_
      rw [hble];rfl
     ·unfold eL
      generalize hE:((⟨o,s,w,{H' with lo:=s.hp.lo},⟨i,[],[],true,s.hp.n,H'.n⟩⟩:Ev) :: evs)=evs' at *
      cases (evs'.all fun e=>e.t.wr.isEmpty && Nat.beq e.t.a e.t.b) with
      | true=>rfl
      | false=>exact hev.pairs htz (Nat.le_refl _) hchk
     ·have hb':=(hb.put (z:=z) (v:=v) (u:=w) (Nat.le_refl _) (by
       rw [cH (Nat.lt_succ_self _)]
       refine .d ?_
       show DR H'.get ((tr i).E.O st.hp) v w
       rw [←h1];exact hdr) o.dst) t
      have:=(htz.ext _ (i+1) hb'.1 (Nat.le_refl _)).ar (htz.rel _ hb'.1).wf hb'.2
      rw [cH (Nat.lt_succ_self _)] at this
      exact this
     ·have:=htz.ext 0 (i+1) (Nat.zero_le _) (Nat.le_refl _)
      rw [cP (Nat.zero_le _),cH (Nat.lt_succ_self _)] at this
      exact this
    obtain ⟨P,hP⟩:∃ P,cY R (vR i s)=some P:=by
     obtain ⟨_,M,_,hM,_⟩:=fI (one:=false) (L:=R) (f:=fun _ r=>vR i s r) (P:=fun _=>True) (fun _ _ _ _ _ h=>h) 0 (fun h=>Bool.noConfusion h) (fun r hr=>by
      obtain ⟨w,H',_,e,_⟩:=hone r hr
      exact ⟨0,_,e,fun h=>Bool.noConfusion h,fun _ _=>trivial⟩)
     exact ⟨M,hM⟩
    have hPr:∀ p ∈ P,∃ w H',p=(w,({H' with lo:=s.hp.lo}:Hp),(⟨i,[],[],true,s.hp.n,H'.n⟩:Tc))∧ia.ret w H' ∈ R:=fun p hp=>by
     obtain ⟨r,hr,Pr,e1,e2⟩:=iG hP p hp
     obtain ⟨w,H',rfl,e3,_⟩:=hone r hr
     rw [e3] at e1
     cases e1
     exact ⟨w,H',List.mem_singleton.1 e2,hr⟩
    obtain ⟨m,L,hm,hL,_,hLs⟩:=fI (one:=false) (L:=P) (f:=fun m (p:Value × Hp × Tc)=>bR T (RX T tab m) ops.toList (ops.toList.drop (i+1)) ⟨fY s.fr o.dst p.1,p.2.1,s.rd⟩)
     (P:=fun s'=>∃ E' st',K st'∧st'.fl=st.fl∧qp E' base st' s'∧lW st.fl base (tr 0).E (tr 0).hp (tr 0).H E' st'.hp s'.hp) (fun a b x M hab hx=>js (gy hab) _ _ _ _ hx) m0 (fun h=>Bool.noConfusion h) (fun p hp=>by
      obtain ⟨w,H',rfl,hr⟩:=hPr p hp
      obtain ⟨w',H'',e0,_,_,hrel2,hext⟩:=hone _ hr
      cases e0
      obtain ⟨m2,L2,k1,k2,k3⟩:=jN h hrel2
      refine ⟨m2,L2,k1,fun h=>Bool.noConfusion h,fun s' hs'=>?_⟩
      obtain ⟨E2,st2,j1,j2,j3,j4⟩:=k3 s' hs'
      exact ⟨E2,st2,j1,j2,j3,hext.JH.trans j4⟩)
    refine ⟨m,L,?_,hLs⟩
    rw [yg]
    unfold rS
    have hdm:jG T (RX T tab m) ops o i s=some P:=by
     unfold jG
     rw [hg,cond_true]
     unfold eR
     simp only [hk,hgo,gy hm _ _ q1]
     exact hP
    simp only [ho,hdm]
    have hall:(P.all fun p=>eL T ops (⟨o,s,p.1,p.2.1,p.2.2⟩ :: evs))=true:=by
     rw [List.all_eq_true]
     intro p hp
     obtain ⟨w,H',rfl,hr⟩:=hPr p hp
     obtain ⟨w',H'',e0,_,hd,_⟩:=hone _ hr
     cases e0
     exact hd
    rw [hall]
    exact hL
   ·exact h.elim
  ·exact h.elim
theorem az.nd {id:Nat} (c:Nat) {l:List Oper} {mu:Tmp→Bool} {st:cy} {K:Exit→cy→Prop} (hc:vc l.toArray=some c) (h:i7 T tab mu l.toArray c (K .normal) (l.take c) 0 (fun _=>0) [] st):az T tab false (.region id l.toArray true) st K:=by
 intro E base s hs
 obtain ⟨m,L,r1,r2⟩:=qJ (base:=base) (tr:=fun _=>⟨E,st.hp,s.hp⟩) (evs:=[]) h ⟨fun _ _=>hs.h,fun _ _ _ _=>.refl⟩ rfl rfl hs.rd (fun t=>⟨Nat.le_refl _,hs.fr t⟩) .nil
 refine ⟨m,L.map fun s=>(.normal,s),?_,fun h1=>Bool.noConfusion h1,fun p hp=>?_⟩
 ·rw [gV]
  have:cS T (RX T tab m) l.toArray s=some L:=by
   unfold cS
   rw [hc]
   exact r1
  simp only [cond_true,this]
 ·obtain ⟨s2,hm,rfl⟩:=List.mem_map.1 hp
  obtain ⟨E2,st2,k1,k2,k3,k4⟩:=r2 s2 hm
  exact ⟨E2,st2,k1,k2,k3,k4⟩
section
variable {mu : Tmp → Bool} {ops : Array Oper} {K : cy → Prop} {c i : Nat} {bt : Nat → Nat} {acc : List rq} {fr : Nat → AV} {rd : Bool}
theorem OM {dst:Option Tmp} {op:Op} {a1 a2 a3 gd} {l:List Oper} (h:cC ops.toList gd fr (eG T tab mu dst op i bt fr hp fun fr' hp' bt' x=>i7 T tab mu ops c K l (i+1) bt' (x :: acc) ⟨fr',hp',aJ,rd,fl⟩)
 (gX dst fr (.tp []) fun fr'=>i7 T tab mu ops c K l (i+1) (nq dst bt 0) (⟨i,[],false,false⟩ :: acc) ⟨fr',hp,aJ,rd,fl⟩)):i7 T tab mu ops c K (⟨dst,op,a1,a2,a3,gd⟩ :: l) i bt acc ⟨fr,hp,aJ,rd,fl⟩:=h
theorem ON {d:Option Tmp} {f:Operand} {as:List Operand} {tys} {a1 a2 a3 gd} {F v:AV} {vals vs:List AV} (ho:ops.toList[c]?=some ⟨d,.call ⟨.value f,as.toArray,tys⟩,a1,a2,a3,gd⟩) (hi:i=c) (hgd:∀ X:Prop,X→cC ops.toList gd fr X False) (hpv:af T tab false F vs v) (hf:aQ fr f=F) (ha:as.map (aQ fr)=vals) (hF:F.deep=true) (hz:Handed hp vals vs v)
  (hchk:jB (iq ops) (⟨c,[],true,true⟩ :: acc)=true) (h:gX d fr v fun fr'=>wpOps T tab false mu ops.toList (ops.toList.drop (c+1)) ⟨fr',hp,aJ,rd,fl⟩ K):i7 T tab mu ops c K [] i bt acc ⟨fr,hp,aJ,rd,fl⟩:=by
 refine ⟨hi,?_⟩
 unfold LL
 simp only [ho]
 refine hgd _ ?_
 show force (aQ fr f) fun F=>fh (as.map (aQ fr)) fun as=>F.deep=true∧∃ vs v,Handed hp as vs v∧af T tab false F vs v∧jB (iq ops) (⟨c,[],true,true⟩ :: acc)=true ∧
   gX d fr v fun fr'=>wpOps T tab false mu ops.toList (ops.toList.drop (c+1)) ⟨fr',hp,aJ,rd,fl⟩ K
 rw [hf,ha]
 exact sY (qc (P:=fun as=>F.deep=true∧∃ vs v,Handed hp as vs v∧af T tab false F vs v∧jB (iq ops) (⟨c,[],true,true⟩ :: acc)=true ∧
   gX d fr v fun fr'=>wpOps T tab false mu ops.toList (ops.toList.drop (c+1)) ⟨fr',hp,aJ,rd,fl⟩ K) ⟨hF,vs,v,hz,hpv,hchk,h⟩)
end
end
end Go.RM
namespace Go.RM
open Go
section
variable {T : cr} {tab : List XE} {fl : Nat} {hp : List AB} {aJ : bN} {mu : Tmp → Bool} {c i : Nat} {bt : Nat → Nat} {acc : List rq} {fr : Nat → AV} {rd : Bool}
theorem az.NY {id:Nat} (c:Nat) {l l1:List Oper} {st:cy} {K:Exit→cy→Prop} (hc:vc l.toArray=some c) (h1:l.take c=l1) (h:i7 T tab mu l.toArray c (K .normal) l1 0 (fun _=>0) [] st):az T tab false (.region id l.toArray true) st K:=by
 subst h1
 exact az.nd c hc h
theorem NZ {ops:List Oper} {K:cy→Prop} {d:Option Tmp} {f:Operand} {as:List Operand} {tys} {a1 a2 a3} {F v:AV} {vals vs:List AV} {l2:List Oper} {k:Nat} (ho:ops[c]?=some ⟨d,.call ⟨.value f,as.toArray,tys⟩,a1,a2,a3,none⟩) (hk:c+1=k) (hd:ops.drop k=l2) (hi:i=c) (hpv:af T tab false F vs v) (hf:aQ fr f=F) (ha:as.map (aQ fr)=vals) (hF:F.deep=true) (hz:Handed hp vals vs v)
  (hchk:jB (iq ops.toArray) (⟨c,[],true,true⟩ :: acc)=true) (h:gX d fr v fun fr'=>wpOps T tab false mu ops l2 ⟨fr',hp,aJ,rd,fl⟩ K):i7 T tab mu ops.toArray c K [] i bt acc ⟨fr,hp,aJ,rd,fl⟩:=by
 subst hk;subst hd
 exact ON ho hi (fun _ h=>h) hpv hf ha hF hz hchk h
end
end Go.RM
namespace Go.RM
structure Hd (h:Prop):Prop where
 x:h
theorem u1 {g h : Prop} (q : h) (k : Hd h → g := by
    intro hd
    first
    | with_reducible (first | refine RM.c1 ?_ | refine RM.c2 ?_ | refine RM.c3 ?_ | refine RM.c4 ?_ | refine RM.c6 ?_ | refine RM.c7 ?_ | refine RM.c8 ?_ | refine RM.c9 ?_ | refine RM.d1 ?_ | refine RM.d2 ?_ | refine RM.d3 ?_ | refine RM.d4 ?_ | refine RM.d7 ?_ | refine RM.d8 ?_ | refine RM.d9 ?_ | refine RM.o1 ?_ | refine RM.o2 ?_ | refine RM.o3 ?_ | refine RM.o4 ?_ | refine RM.o5 ?_ | refine RM.o6 ?_ | refine RM.o7 ?_ | refine RM.o9 ?_ | refine RM.p1 ?_ | refine RM.p2 ?_ | refine RM.p3 ?_ | refine RM.p4 ?_ | refine RM.p5 ?_ | refine RM.p6 ?_ | refine RM.p7 ?_ | refine RM.p8 ?_ | refine RM.q1 ?_ | refine RM.q2 ?_ | refine RM.NV ?_ | refine RM.LJ ?_ | refine RM.LK ?_ | refine RM.JV ?_ | refine RM.OC ?_ | refine RM.OD ?_ | refine RM.OM ?_)
    | ((with_reducible show force _ _); first | refine RM.f1 rfl ?_ | refine RM.f2 rfl ?_ | refine RM.f3 rfl ?_ | refine RM.f4 rfl ?_ | refine RM.f5 rfl ?_ | refine RM.f6 rfl ?_ | refine RM.f7 rfl ?_ | refine RM.f8 rfl ?_ | refine RM.f9 rfl ?_ | refine RM.g1 rfl ?_ | refine RM.g2 rfl ?_)
    | ((with_reducible show RM.wpOp _ _ _ _ _ _); first
      | ((with_reducible show RM.wpOp _ _ (.load _ _) _ _ _); first | refine RM.Ov rfl rfl rfl ?_ | refine RM.Ou rfl rfl rfl ?_ | refine RM.F7 rfl rfl rfl rfl ?_ | refine RM.Ow rfl rfl rfl rfl ?_)
      | ((with_reducible show RM.wpOp _ _ (.fieldAddr _ _ _) _ _ _); first | refine RM.Ox rfl rfl rfl rfl ?_ | refine RM.Oy rfl rfl rfl rfl ?_)
      | ((with_reducible show RM.wpOp _ _ (.alloc _) _ _ _); refine RM.Oz rfl rfl ?_)
      | ((with_reducible show RM.wpOp _ _ (.extract _ _) _ _ _); refine RM.OH rfl rfl ?_)
      | ((with_reducible show RM.wpOp _ _ (.indexAddr _ _ _) _ _ _); first | refine RM.Oh rfl rfl rfl (by assumption) (by omega) rfl ?_ | refine RM.Oh rfl rfl rfl rfl (by omega) rfl ?_ | refine RM.OI rfl rfl rfl (by omega) ?_ | refine RM.OJ rfl rfl rfl (by omega) ?_ | refine RM.OK rfl rfl rfl (by omega) ?_)
      | ((with_reducible show RM.wpOp _ _ (.makeSlice _ _ _) _ _ _); refine RM.OL rfl rfl rfl (by decide) rfl ?_)
      | ((with_reducible show RM.wpOp _ _ (.unOp _ _ _) _ _ _); refine RM.n3 rfl ?_)
      | ((with_reducible show RM.wpOp _ _ (.call _) _ _ _); first | refine RM.n4 rfl rfl ?_ | refine RM.n5 rfl rfl ?_))
    | ((with_reducible show mT _ _ _ _ (.region _ _ true) _ _); first | refine RM.EL rfl ?_ | refine RM.c5 (by kernel_rfl) rfl rfl ?_)
    | ((with_reducible show sU _ _ _ _ _ _ _ _ _ _ _ _); refine RM.o8 rfl ?_)
    | ((with_reducible show eG _ _ _ _ _ _ _ _ _ _); first | refine RM.p9 rfl ?_ | refine RM.n1 ?_)
    | ((with_reducible show cC _ _ _ _ _); first | refine uT rfl rfl rfl ?_ | refine w6 rfl rfl rfl ?_ | refine AQ rfl rfl ?_ | refine uT rfl rfl (by assumption) ?_ | refine w6 rfl rfl (by assumption) ?_)
    | ((with_reducible show mT _ _ _ _ (.cond _ _ _) _ _); first | refine RM.e2 rfl rfl ?_ | refine RM.e3 rfl rfl ?_ | refine RM.e2 rfl (by assumption) ?_ | refine RM.e3 rfl (by assumption) ?_)
    | ((with_reducible show tU _ _ _ _ _); refine RM.k1 rfl ?_)
    | ((with_reducible show kz _ _ _ _ _); first | refine RM.k2 rfl ?_ | refine RM.k3 rfl ?_ | refine RM.k2 (by assumption) ?_ | refine RM.k3 (by assumption) ?_ | refine RM.k4 rfl rfl ?_)
    | ((with_reducible show ee _ _ _ _ _ _ _ _ _); first | refine RM.b4 rfl rfl ?_ | refine RM.b5 rfl rfl ?_ | refine RM.b6 rfl rfl ?_ | refine RM.b7 rfl rfl ?_ | refine RM.b8 rfl rfl ?_ | refine RM.b9 rfl rfl ?_ | refine RM.b1 rfl rfl (by omega) ?_ | refine RM.b2 rfl rfl (by omega) ?_ | refine RM.b3 rfl rfl (by omega) ?_ | refine RM.r1 rfl rfl (by omega) ?_ | refine RM.r2 rfl rfl (by omega) ?_)
    | ((with_reducible show sP _ _ _ _ _); first | refine RM.l1 rfl ?_ | refine RM.l2 rfl ?_)
    | ((with_reducible show sO _ _ _); first | refine RM.l3 rfl ?_ | refine RM.l4 rfl ?_)
    | ((with_reducible show jx _ _ _ _); first | refine RM.d5 rfl ?_ | refine RM.d6 rfl ?_)
    | ((with_reducible show zb _ _ _ _); first | refine RM.OA rfl rfl rfl rfl ?_ | refine RM.OB rfl rfl rfl ?_)
    | ((with_reducible show dW _ _ _ _ _ _); refine RM.MC rfl rfl rfl rfl rfl rfl rfl ?_)
    | ((with_reducible show nX _ _ _ _ _); refine RM.NQ rfl rfl rfl ?_)
    | ((with_reducible show dX _ _ _ _ _ _ _); first | refine RM.OE rfl rfl rfl rfl rfl rfl rfl ?_ | refine RM.OG rfl rfl rfl rfl rfl rfl ?_)
    | ((with_reducible show bl _ _ _ _ _ _ _ _); refine af.call (by assumption) rfl rfl ?_)
    | ((with_reducible show jB _ _ = true ∧ _); refine And.intro (by kernel_rfl) ?_)
    | ((with_reducible show ∃ _, HN _ _ _ = some _ ∧ _); refine ⟨_, rfl, ?_⟩)
    | ((with_reducible show AV.deep _ = true ∧ _); refine ⟨rfl, rfl, ?_⟩)
    | ((with_reducible show ∃ _, af _ _ _ _ _ _ ∧ _); refine ⟨_, by assumption, ?_⟩)
    exact hd.x) : g := k ⟨q⟩
theorem u2 {g h:Prop} (q:h) (k:Hd h→g:=by
 intro hd
 first
 | refine ⟨_,rfl,?_⟩
 | refine ⟨_,_,rfl,by decide,?_⟩
 | refine ⟨rfl,rfl,rfl,?_⟩
 | refine ⟨rfl,rfl,?_⟩
 | refine ⟨_,_,rfl,_,rfl,?_⟩
 | refine And.intro (Nat.le_of_ble_eq_true rfl) ?_
 | refine And.intro (by omega) ?_
 | refine ⟨_,_,rfl,rfl,_,rfl,rfl,?_⟩
 | refine And.intro (by kernel_rfl) ?_
 | refine ⟨rfl,rfl,rfl,rfl,rfl,?_⟩
 | refine ⟨_,_,rfl,rfl,rfl,rfl,Nat.le_of_ble_eq_true rfl,?_⟩
 | refine ⟨_,_,rfl,Nat.le_of_ble_eq_true rfl,?_⟩
 exact hd.x):g:=k ⟨q⟩
end Go.RM
namespace Go.RM
open Go Go.ChangeShapes Go.WideShapes Go.ChangeAt Go.RowKit
section
variable {P : Program} {D : Type} {enc : TypeId × Value → D}
theorem qM (hl:laidOutB P=true) {W W':World} (hb:Below W.heap.size W W'):∀ {ts:List TypeId} {vs:List Value} {ds:List (DataW D)} {ps:List MemPlace},(ts.all fun t=>P.readableRec t && decide (t < P.types.size))=true →
  DataW.TrodAll enc P W 0 (fun _=>true) true ts vs ds ps→(∀ p ∈ ps,p.block < W.heap.size)→∀ sp:Nat→Bool,(∀ p ∈ ps,sp p.block=true)→DataW.TrodAll enc P W' 0 sp true ts vs ds ps
 | [],[],[],ps,_,h,_,sp,_=>h
 | t :: ts,v :: vs,d :: ds,ps,hr,h,hlt,sp,hs=>by
  obtain ⟨p,q,h1,h2,rfl⟩:=h
  simp only [List.all_cons,Bool.and_eq_true,decide_eq_true_eq] at hr
  refine ⟨p,q,WideElems.Trod_stays hl hr.1.1 hr.1.2 h1 (fun x hx=>hb.same (hlt x (List.mem_append_left _ hx))) (fun x hx=>hs x (List.mem_append_left _ hx)),?_,rfl⟩
  exact qM hl hb hr.2 h2 (fun x hx=>hlt x (List.mem_append_right _ hx)) sp (fun x hx=>hs x (List.mem_append_right _ hx))
 | [],_ :: _,_,_,_,h,_,_,_=>by simp [DataW.TrodAll] at h
 | [],[],_ :: _,_,_,h,_,_,_=>by simp [DataW.TrodAll] at h
 | _ :: _,[],_,_,_,h,_,_,_=>by simp [DataW.TrodAll] at h
 | _ :: _,_ :: _,[],_,_,h,_,_,_=>by simp [DataW.TrodAll] at h
theorem uV {W:World} {base:Nat} {spare:Nat→Bool} {held:Bool}:∀ {ts:List TypeId} {vs:List Value} {ds:List (DataW D)} {ps:List MemPlace},DataW.TrodAll enc P W base spare held ts vs ds ps→ds.length=ts.length
 | [],[],[],_,_=>rfl
 | _ :: _,_ :: _,_ :: _,_,h=>by
  obtain ⟨p,q,_,h2,_⟩:=h
  simp [uV h2]
 | [],_ :: _,_,_,h=>by simp [DataW.TrodAll] at h
 | [],[],_ :: _,_,h=>by simp [DataW.TrodAll] at h
 | _ :: _,[],_,_,h=>by simp [DataW.TrodAll] at h
 | _ :: _,_ :: _,[],_,h=>by simp [DataW.TrodAll] at h
theorem Ii (hl:laidOutB P=true) {f:FuncId} {fn:Func} {s:ChangeSpec} {tb:TypeId} (hr:(fn.params.toList.all fun t=>P.readableRec t && decide (t < P.types.size))=true) (hres:fn.resultTypes=#[tb])
  (hb:P.underlying tb=some .bool) (hv:s.vars=[]) (hs:∀ (ds:List (DataW D)),ds.length=fn.params.toList.length→s.fn D ds={results:=[.lit (.bool true)],args:=ds})
  {W:World} {args:Array Value} {ds gs:List (DataW D)} {before:List MemPlace} (hW:DataW.Whole enc P fn.params.toList s.vars false W args.toList ds gs before)
  (hc:Calls P f args W fun e w'=>e=.returned (.bool true)∧Below W.heap.size W w') :
  Calls P f args W fun e W'=>∃ v,e=.returned v∧s.post enc P fn false true false false W args v W':=by
 have hlt:=hW.lt
 have hW':=hW
 obtain ⟨p,q,hA,hV,rfl,hfz,hnd⟩:=hW
 rw [hv] at hV
 obtain ⟨rfl,rfl⟩:=trodVars_none hV
 have hds:=hs ds (uV hA)
 refine hc.mono fun e W' ⟨he,hw⟩=>?_
 subst he
 have hp:∀ x ∈ p,x.block < W.heap.size:=fun x hx=>hlt x (List.mem_append_left _ hx)
 have hold:∀ x ∈ p,(fun b=>decide (b < W.heap.size)) x.block=true:=fun x hx=>by simpa using hp x hx
 have hone:DataW.TrodAll enc P W' 0 (fun _=>false) false fn.resultTypes.toList ((Value.bool true).resultList fn.resultTypes.size) [.lit (.bool true)] []:=by
  rw [hres]
  exact trodAll_mk1 (shut_bool hb true)
 have hone':DataW.TrodAll enc P W' 0 (fun _=>true) true fn.resultTypes.toList ((Value.bool true).resultList fn.resultTypes.size) [.lit (.bool true)] []:=by
  rw [hres]
  exact trodAll_mk1 (shut_bool hb true)
 have hnow:=qM hl hw hr hA hp
 simp only [List.append_nil] at hW' hfz hnd
 refine ⟨_,rfl,ds,[],p,[],p,[],by simpa using hW',?_,?_,?_,hw.frame _,fun _=>⟨ok_one hres rfl (okWide_bool_mk hb true),_,[],([]++p)++[],⟨[]++p,[],trodAll_append (hnow _ (fun _ _=>rfl)) hone',?_,rfl,?_,?_⟩,?_⟩⟩
 ·rw [List.append_nil,hds,hres]
  exact trodAll_mk1 (shut_bool hb true)
 ·rw [List.append_nil,hds]
  exact hnow _ hold
 ·rw [List.append_nil,hds,hv]
  rfl
 ·rw [hv]
  rfl
 ·intro b off hx
  have hx':MemPlace.cell b off ∈ p:=by simpa using hx
  have hb':b < W.heap.size:=hp _ hx'
  rw [hw.frozen hb']
  exact hfz b off hx'
 ·intro ha
  cases ha
 ·intro x hx _
  simpa using hx
end
end Go.RM
namespace Go.RM
open Go
section
variable {T : cr} {tab : List XE} {one : Bool} {mu : Tmp → Bool} {base : Nat} {E : Env} {hp : List AB} {aJ : bN} {H : Hp} {ρ : Nat → Nat → Option Nat} {g : aI} {O O' : Nat → Prop}
def Lm (j aD:Nat) (cs:List AV):List AV→List AV→Prop
 | [],[]=>True
 | a :: l,b :: m=>Gv j aD cs a b∧Lm j aD cs l m
 | _,_=>False
theorem Lm.len {j aD:Nat} {cs:List AV}:∀ {l m:List AV},Lm j aD cs l m→l.length=m.length
 | [],[],_=>rfl
 | _ :: _,_ :: _,h=>by simp only [List.length_cons];rw [Lm.len h.2]
 | [],_ :: _,h=>h.elim
 | _ :: _,[],h=>h.elim
theorem Lm.get {j aD:Nat} {cs:List AV}:∀ {l m:List AV},Lm j aD cs l m→∀ (i:Nat) (a b:AV),l[i]?=some a→m[i]?=some b→Gv j aD cs a b
 | [],[],_,i,a,b,ha,_=>by cases ha
 | x :: l,y :: m,h,i,a,b,ha,hb=>by
  cases i with
  | zero=>cases ha;cases hb;exact h.1
  | succ i=>exact Lm.get h.2 i a b (by simpa using ha) (by simpa using hb)
 | [],_ :: _,h,_,_,_,_,_=>h.elim
 | _ :: _,[],h,_,_,_,_,_=>h.elim
inductive GB (j aD:Nat) (cs:List AV):AB→AB→Prop
 | cells {l m:List AV} {es v:Nat}:Lm j aD cs l m→GB j aD cs (.cells l es v) (.cells m es v)
 | same {b:AB}:b.mA j=true→GB j aD cs b b
theorem GB.aD {j aD:Nat} {cs:List AV} {b b':AB} (h:GB j aD cs b b'):b'.ver?=b.ver?:=by
 cases h with
 | cells=>rfl
 | same=>rfl
def Ln (j aD:Nat) (cs:List AV):Nat→List AB→List AB→Prop
 | _,[],[]=>True
 | i,b :: l,b' :: m=>(if Nat.beq i j then b'=.gone else GB j aD cs b b')∧Ln j aD cs (i+1) l m
 | _,_,_=>False
theorem Ln.len {j aD:Nat} {cs:List AV}:∀ {l m:List AB} {i:Nat},Ln j aD cs i l m→l.length=m.length
 | [],[],_,_=>rfl
 | _ :: _,_ :: _,_,h=>by simp only [List.length_cons];rw [Ln.len h.2]
 | [],_ :: _,_,h=>h.elim
 | _ :: _,[],_,h=>h.elim
theorem Ln.get {j aD:Nat} {cs:List AV}:∀ {l m:List AB} {i0:Nat},Ln j aD cs i0 l m→∀ (i:Nat) (b':AB),m[i]?=some b'→(i0+i=j∧b'=.gone)∨(i0+i ≠ j∧∃ b,l[i]?=some b∧GB j aD cs b b')
 | [],[],_,_,i,b',hb=>by cases hb
 | x :: l,y :: m,i0,h,i,b',hb=>by
  cases i with
  | zero =>
   cases hb
   have h1:=h.1
   split at h1
   ·rename_i hb
    exact .inl ⟨Nat.eq_of_beq_eq_true hb,h1⟩
   ·rename_i hb
    exact .inr ⟨fun e=>hb (by subst e;exact Nat.beq_refl _),x,rfl,h1⟩
  | succ i =>
   rcases Ln.get h.2 i b' (by simpa using hb) with ⟨h1,h2⟩|⟨h1,b,h2,h3⟩
   ·exact .inl ⟨by omega,h2⟩
   ·exact .inr ⟨by omega,b,by simpa using h2,h3⟩
 | [],_ :: _,_,h,_,_,_=>h.elim
 | _ :: _,[],_,h,_,_,_=>h.elim
theorem ai.M4 {st:cy} {l:List (Nat × AV)} (j:Nat) {aD es:Nat} {cs:List AV} {hp':List AB} (hj:st.hp[j]?=some (.cells cs es aD)) (hn:st.fl≤j) (hd:bw cs=true) (hs:w7 j aD cs st.fr l) (hb:Ln j aD cs 0 st.hp hp') :
  ai st ⟨aX l,hp',st.aJ,st.rd,st.fl⟩:=by
 have hlt:j < st.hp.length:=(List.getElem?_eq_some_iff.1 hj).1
 have hlen:=hb.len
 refine ⟨rfl,fun E base s hs'=>?_⟩
 have hr:=hs'.h
 have hget:∀ (i:Nat) (b:AB) (aD:Nat),hp'[i]?=some b→b.ver?=some aD→i ≠ j∧∃ b0,st.hp[i]?=some b0∧b0.ver?=some aD:=by
  intro i b v hi hv
  rcases hb.get i b hi with ⟨_,h2⟩|⟨h1,b0,h2,h3⟩
  ·subst h2;cases hv
  ·exact ⟨by omega,b0,h2,by rw [←h3.aD];exact hv⟩
 have hdr:∀ {i v k:Nat},aS j E.ρ i v=some k→i ≠ j∧E.ρ i v=some k:=by
  intro i v k h
  unfold aS at h
  split at h
  ·cases h
  ·rename_i hne;exact ⟨hne,h⟩
 have hown:∀ k,Own (aS j E.ρ) hp' k→Own E.ρ st.hp k:=by
  rintro k ⟨i,b,v,h1,h2,h3⟩
  obtain ⟨_,b0,g1,g2⟩:=hget i b v h1 h2
  exact ⟨i,b0,v,g1,g2,(hdr h3).2⟩
 have hOs:∀ k,({E with ρ:=aS j E.ρ}:Env).O hp' k→E.O st.hp k:=fun k h=>h.imp (hown k) id
 have hpt:∀ {o:Nat} {u:Value},AR E.ρ s.hp.get (E.O st.hp) (.ptr j aD o) u→AR (aS j E.ρ) s.hp.get (({E with ρ:=aS j E.ρ}:Env).O hp') (.pt cs o) u:=by
  intro o u h
  obtain ⟨k,hk,rfl⟩:=h.dV
  obtain ⟨cs',q1,q2⟩:=hr.cells hj hk
  have hnO:¬ ({E with ρ:=aS j E.ρ}:Env).O hp' k:=by
   rintro (⟨i,b,v,h1,h2,h3⟩|hx)
   ·have:=hdr h3
    exact this.1 (hr.inj i j v aD k this.2 hk)
   ·exact hr.jh k ⟨j,_,aD,hj,rfl,hk⟩ hx
  have:=q2.deep hd
  refine .d (?_:DR _ _ (.pt cs o) (.pointer (some ⟨k,o,none⟩)))
  have h0:DR s.hp.get (({E with ρ:=aS j E.ρ}:Env).O hp') (.pt cs o) (.pointer (some ⟨k,0+o,none⟩)) :=
   .pt q1 hnO (by rw [Nat.zero_add,this.1];exact Nat.le_refl _) (fun i a u x y=>(this.2 i a u x (by rw [Nat.zero_add] at y;exact y)).mono fun k b hk ho=>⟨hk,fun h=>ho (hOs k h)⟩)
  rw [Nat.zero_add] at h0
  exact h0
 have hrow:∀ {o n c:Nat} {els:List (List AV)} {b:Bool} {u:Value} (es:Nat),o+n * es≤cs.length→els.length=n→(∀ el ∈ els,el.length=es)→els.flatten=(cs.drop o).take (n * es)→(b=true→c=n)→AR E.ρ s.hp.get (E.O st.hp) (.bX j aD o n c) u →
   AR (aS j E.ρ) s.hp.get (({E with ρ:=aS j E.ρ}:Env).O hp') (.sl els b) u:=by
  intro o n c els b u es g1 g2 g3 g4 g5 h
  rcases h.iE with ⟨k,hk,rfl⟩|⟨rfl,rfl,rfl⟩
  ·obtain ⟨cs',q1,q2⟩:=hr.cells hj hk
   have hnO:¬ ({E with ρ:=aS j E.ρ}:Env).O hp' k:=by
    rintro (⟨i,b,v,h1,h2,h3⟩|hx)
    ·have:=hdr h3
     exact this.1 (hr.inj i j v aD k this.2 hk)
    ·exact hr.jh k ⟨j,_,aD,hj,rfl,hk⟩ hx
   have hdp:=q2.deep hd
   refine .d (.sl (es:=es) q1 hnO (by rw [←q2.1];exact g1) g2 (fun i el he=>g3 el (List.mem_of_getElem? he)) (fun i el jj a u he hx hu=>?_) g5)
   have hjj:jj < es:=by rw [←g3 el (List.mem_of_getElem? he)];exact (List.getElem?_eq_some_iff.1 hx).1
   have hat:=gJ g3 i el jj he hjj
   have hi:i < n:=by rw [←g2];exact (List.getElem?_eq_some_iff.1 he).1
   rw [g4,List.getElem?_take,List.getElem?_drop] at hat
   have hlt:i * es+jj < n * es:=by
    have:(i+1) * es≤n * es:=Nat.mul_le_mul_right _ hi
    rw [Nat.add_mul,Nat.one_mul] at this
    omega
   rw [if_pos hlt,hx,←Nat.add_assoc] at hat
   exact (hdp.2 _ a u hat hu).mono fun k b hk ho=>⟨hk,fun h=>ho (hOs k h)⟩
  ·simp only [List.length_eq_zero_iff] at g2
   subst g2
   exact .d .nil
 have hgv:∀ {a b:AV} {u:Value},Gv j aD cs a b→AR E.ρ s.hp.get (E.O st.hp) a u→AR (aS j E.ρ) s.hp.get (({E with ρ:=aS j E.ρ}:Env).O hp') b u:=by
  intro a b u hg h
  cases hg with
  | same hn=>exact h.mA hOs hn
  | ptr=>exact hpt h
  | row es g1 g2 g3 g4 g5=>exact hrow es g1 g2 g3 g4 g5 h
  | cv=>exact .cv
 refine ⟨{E with ρ:=aS j E.ρ},⟨⟨hr.wf,fun i b v hi hv=>?_,fun i i' v v' k h1 h2=>hr.inj i i' v v' k (hdr h1).2 (hdr h2).2,fun i v k hk=>hr.rn i v k (hdr hk).2,fun i b v w h1 h2 h3=>?_,fun i v hi=>?_,fun k hk=>hr.sup k (hown k hk),fun k hk=>hr.jh k (hown k hk),hr.dx,hr.ds,hr.sn,hr.xn,fun k hk=>hr.qG k (hk.imp (hown k) id),hr.bn,hr.aJ⟩,hs'.rd,fun t=>hgv (AS hs t) (hs'.fr t)⟩,
  ⟨Nat.le_refl _,fun i v k hi hk=>?_,fun k hk=>.inl (hown k hk),fun _ h=>.inl h,fun _ h=>.inl h,fun _ h=>h,fun _ h=>.inl h,fun _ _ _ _=>rfl,Nat.min_le_left _ _⟩⟩
 ·rcases hb.get i b hi with ⟨_,h2⟩|⟨hij,b0,hi',hG⟩
  ·subst h2;cases hv
  ·have hij:i ≠ j:=by omega
   have hv':b0.ver?=some v:=by rw [←hG.aD];exact hv
   rcases hr.iy i b0 v hi' hv' with ⟨k,b',q1,q2,q3⟩|⟨q1,q2⟩
   ·refine .inl ⟨k,b',by show aS j E.ρ i v=_;rw [aS,if_neg hij];exact q1,q2,?_⟩
    cases hG with
    | @cells l0 m0 es0 v0 hL =>
     obtain ⟨cs',rfl,h⟩:=q3
     refine ⟨cs',rfl,by rw [←hL.len];exact h.1,fun i a u ha hu=>?_⟩
     have hli:i < l0.length:=by rw [hL.len];exact (List.getElem?_eq_some_iff.1 ha).1
     exact hgv (hL.get i l0[i] a (List.getElem?_eq_getElem hli) ha) (h.2 i l0[i] u (List.getElem?_eq_getElem hli) hu)
    | same hbn =>
     cases b with
     | cells cs2 es2 ver2 =>
      obtain ⟨cs',rfl,h⟩:=q3
      exact ⟨cs',rfl,h.1,fun i a u ha hu=>(h.2 i a u ha hu).mA hOs (dJ hbn i a ha)⟩
     | dZ p q=>exact q3
     | map ents clock =>
      obtain ⟨es,rfl,h1,h2⟩:=q3
      refine ⟨es,rfl,h1,fun i k v born x hx hy=>?_⟩
      simp only [AB.mA,List.all_eq_true,Bool.and_eq_true] at hbn
      have:=hbn _ (List.mem_of_getElem? hx)
      exact ⟨(h2 i k v born x hx hy).1.mA hOs this.1,(h2 i k v born x hx hy).2.1.mA hOs this.2,(h2 i k v born x hx hy).2.2⟩
     | iter i2 since seen stepped =>
      obtain ⟨m,rfl,h⟩:=q3
      exact ⟨m,rfl,by show aS j E.ρ i2 0=_;rw [aS,if_neg (gZ hbn)];exact h⟩
     | gone=>exact q3
   ·refine .inr ⟨by show aS j E.ρ i v=_;rw [aS,if_neg hij];exact q1,?_⟩
    cases hG with
    | @cells l0 m0 es0 v0 hL =>
     obtain ⟨es1,h1⟩:=q2
     cases h1
     have h2:=hL.len
     cases m0 with
     | nil=>exact ⟨_,rfl⟩
     | cons _ _=>cases h2
    | same _=>exact q2
 ·obtain ⟨hij,b0,h1,h2⟩:=hget i b v h1 h2
  show aS j E.ρ i w=none
  rw [aS,if_neg hij];exact hr.fresh i b0 v w h1 h2 h3
 ·show aS j E.ρ i v=none
  unfold aS
  split
  ·rfl
  ·exact hr.new i v (by rw [hlen];exact hi)
 ·show aS j E.ρ i v=some k
  rw [aS,if_neg (by omega)];exact hk
end
end Go.RM
