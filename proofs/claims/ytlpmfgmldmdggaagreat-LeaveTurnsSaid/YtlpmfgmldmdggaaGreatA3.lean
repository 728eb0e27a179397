/-
  A layer of contracts over the abstract machine. Lemmas alone; no condition.
-/
import Derived.Test.YtlpmfgmldmdggaaGreatA2
namespace Go.RM
open Go
section
variable {T : bF} {tab : List XE} {one : Bool} {mu : Tmp → Bool} {base : Nat} {E : Env} {hp : List AB} {aC : bp} {H : Hp} {ρ : Nat → Nat → Option Nat} {g : aK} {O O' : Nat → Prop}
theorem nc {a b:Code} {st:bO} {K:Exit→bO→Prop} (h:kJ T tab one mu a st (sU (fun s=>aB T tab one b s K) K)):aB T tab one (.seq a b) st K:=.seq (aa h)
def aZ (j:Nat) (ρ:Nat→Nat→Option Nat):Nat→Nat→Option Nat:=fun i v=>if i=j then none else ρ i v
mutual
def AV.rI (j:Nat):AV→Bool
 | .fl _=>true
 | .sl _ _=>true
 | .pt _ _=>true
 | .fn _ a b=>Bt j a && Bt j b
 | .ag a=>Bt j a
 | .tp a=>Bt j a
 | .oq _=>true
 | .cG=>true
 | .ptr i _ _=>!Nat.beq i j
 | .aI i _ _ _ _=>!Nat.beq i j
 | .om i=>!Nat.beq i j
def Bt (j:Nat):List AV→Bool
 | []=>true
 | a :: l=>a.rI j && Bt j l
end
theorem kC {j:Nat}:∀ {l:List AV},Bt j l=true→∀ (i:Nat) (a:AV),l[i]?=some a→a.rI j=true
 | [],_,i,a,h=>by cases h
 | x :: l,h,i,a,ha=>by
  simp only [Bt,qq7] at h
  cases i with
  | zero=>cases ha;exact h.1
  | succ i=>exact kC h.2 i a (by simpa using ha)
theorem rJ {i j:Nat} (h:(!Nat.beq i j)=true):i ≠ j:=by intro e;subst e;rw [Nat.beq_refl] at h;cases h
theorem AR.rI {j:Nat} (hO:∀ k,O' k→O k) {v:AV} {u:Value} (h:AR ρ g O v u):v.rI j=true→AR (aZ j ρ) g O' v u:=by
 induction h with
 | d h=>intro _;exact .d (h.mono fun k b hk ho=>⟨hk,fun h=>ho (hO k h)⟩)
 | cG=>intro _;exact .cG
 | ptr h=>intro hd;simp only [AV.rI] at hd;exact .ptr (by rw [aZ,if_neg (rJ hd)];exact h)
 | aI h=>intro hd;simp only [AV.rI] at hd;exact .aI (by rw [aZ,if_neg (rJ hd)];exact h)
 | rq hc=>intro _;exact .rq hc
 | om h=>intro hd;simp only [AV.rI] at hd;exact .om (by rw [aZ,if_neg (rJ hd)];exact h)
 | fn ha hb h1 h2 ih1 ih2 =>intro hd;simp only [AV.rI,qq7] at hd;exact .fn ha hb (fun i x u hx hu=>ih1 i x u hx hu (kC hd.1 i x hx)) (fun i x u hx hu=>ih2 i x u hx hu (kC hd.2 i x hx))
 | ag ha h1 ih=>intro hd;simp only [AV.rI] at hd;exact .ag ha (fun i x u hx hu=>ih i x u hx hu (kC hd i x hx))
 | tp ha h1 ih=>intro hd;simp only [AV.rI] at hd;exact .tp ha (fun i x u hx hu=>ih i x u hx hu (kC hd i x hx))
def AB.rI (j:Nat):AB→Bool
 | .cells cs _ _=>Bt j cs
 | .dU _ _=>true
 | .map ents _=>ents.all fun p=>p.1.rI j && p.2.1.rI j
 | .iter i _ _ _=>!Nat.beq i j
 | .gone=>true
inductive Gv (j aJ:Nat) (cs:List AV):AV→AV→Prop
 | same {a:AV}:a.rI j=true→Gv j aJ cs a a
 | ptr {o:Nat}:Gv j aJ cs (.ptr j aJ o) (.pt cs o)
 | row {o n c:Nat} {els:List (List AV)} {b:Bool} (es:Nat):o+n * es≤cs.length→els.length=n→(∀ el ∈ els,el.length=es)→els.flatten=(cs.drop o).take (n * es)→(b=true→c=n)→Gv j aJ cs (.aI j aJ o n c) (.sl els b)
 | cG {a:AV}:Gv j aJ cs a .cG
def wB (j aJ:Nat) (cs:List AV) (fr:Nat→AV):List (Nat × AV)→Prop
 | []=>True
 | (i,v) :: l=>Gv j aJ cs (fr i) v∧wB j aJ cs fr l
theorem zF {j aJ:Nat} {cs:List AV} {fr:Nat→AV}:∀ {l:List (Nat × AV)},wB j aJ cs fr l→∀ t,Gv j aJ cs (fr t) (aL l t)
 | [],_,t=>.cG
 | (i,v) :: l,h,t=>by
  unfold aL;rw [Tr.beq_eq];by_cases hti:t=i
  ·rw [decide_eq_true hti,hti];exact h.1
  ·rw [decide_eq_false hti];exact zF h.2 t
theorem ah.Mv {st:bO} {l:List (Nat × AV)} {j aJ es:Nat} {cs:List AV} (hj:st.hp[j]?=some (.cells cs es aJ)) (hn:st.fl≤j) (hd:cZ cs=true) (hs:wB j aJ cs st.fr l) (hb:∀ (i:Nat) (b:AB),st.hp[i]?=some b→i ≠ j→b.rI j=true) :
  ah st ⟨aL l,st.hp.set j .gone,st.aC,st.rd,st.fl⟩:=by
 have hlt:j < st.hp.length:=(List.getElem?_eq_some_iff.1 hj).1;refine ⟨rfl,fun E base s hs'=>?_⟩;have hr:=hs'.h
 have hget:∀ (i:Nat) (b:AB) (aJ:Nat),(st.hp.set j .gone)[i]?=some b→b.ver?=some aJ→i ≠ j∧st.hp[i]?=some b:=by
  intro i b aJ hi hv;by_cases hij:i=j
  ·subst hij;rw [List.getElem?_set_self hlt] at hi;cases hi;cases hv
  ·rw [List.getElem?_set_ne (Ne.symm hij)] at hi;exact ⟨hij,hi⟩
 have hdr:∀ {i v k:Nat},aZ j E.ρ i v=some k→i ≠ j∧E.ρ i v=some k:=by
  intro i v k h;unfold aZ at h;split at h
  ·cases h
  ·rename_i hne;exact ⟨hne,h⟩
 have hown:∀ k,Own (aZ j E.ρ) (st.hp.set j .gone) k→Own E.ρ st.hp k:=by rintro k ⟨i,b,v,h1,h2,h3⟩;exact ⟨i,b,v,(hget i b v h1 h2).2,h2,(hdr h3).2⟩
 have hOs:∀ k,({E with ρ:=aZ j E.ρ}:Env).O (st.hp.set j .gone) k→E.O st.hp k:=fun k h=>h.imp (hown k) id
 have hpt:∀ {o:Nat} {u:Value},AR E.ρ s.hp.get (E.O st.hp) (.ptr j aJ o) u→AR (aZ j E.ρ) s.hp.get (({E with ρ:=aZ j E.ρ}:Env).O (st.hp.set j .gone)) (.pt cs o) u:=by
  intro o u h;obtain ⟨k,hk,rfl⟩:=h.dg;obtain ⟨cs',q1,q2⟩:=hr.cells hj hk
  have hnO:¬ ({E with ρ:=aZ j E.ρ}:Env).O (st.hp.set j .gone) k:=by
   rintro (⟨i,b,v,h1,h2,h3⟩|hx)
   ·have:=hdr h3;exact this.1 (hr.inj i j v aJ k this.2 hk)
   ·exact hr.hU k ⟨j,_,aJ,hj,rfl,hk⟩ hx
  have:=q2.deep hd;refine .d (?_:DR _ _ (.pt cs o) (.pointer (some ⟨k,o,none⟩)))
  have h0:DR s.hp.get (({E with ρ:=aZ j E.ρ}:Env).O (st.hp.set j .gone)) (.pt cs o) (.pointer (some ⟨k,0+o,none⟩)) :=
   .pt q1 hnO (by rw [Nat.zero_add,this.1];exact qq6 _) (fun i a u x y=>(this.2 i a u x (by rw [Nat.zero_add] at y;exact y)).mono fun k b hk ho=>⟨hk,fun h=>ho (hOs k h)⟩)
  rw [Nat.zero_add] at h0;exact h0
 have hrow:∀ {o n c:Nat} {els:List (List AV)} {b:Bool} {u:Value} (es:Nat),o+n * es≤cs.length→els.length=n→(∀ el ∈ els,el.length=es)→els.flatten=(cs.drop o).take (n * es)→(b=true→c=n)→AR E.ρ s.hp.get (E.O st.hp) (.aI j aJ o n c) u →
   AR (aZ j E.ρ) s.hp.get (({E with ρ:=aZ j E.ρ}:Env).O (st.hp.set j .gone)) (.sl els b) u:=by
  intro o n c els b u es g1 g2 g3 g4 g5 h
  rcases h.ey with ⟨k,hk,rfl⟩|⟨rfl,rfl,rfl⟩
  ·obtain ⟨cs',q1,q2⟩:=hr.cells hj hk
   have hnO:¬ ({E with ρ:=aZ j E.ρ}:Env).O (st.hp.set j .gone) k:=by
    rintro (⟨i,b,v,h1,h2,h3⟩|hx)
    ·have:=hdr h3;exact this.1 (hr.inj i j v aJ k this.2 hk)
    ·exact hr.hU k ⟨j,_,aJ,hj,rfl,hk⟩ hx
   have hdp:=q2.deep hd;refine .d (.sl (es:=es) q1 hnO (by rw [←q2.1];exact g1) g2 (fun i el he=>g3 el (List.mem_of_getElem? he)) (fun i el jj a u he hx hu=>?_) g5);have hjj:jj < es:=by rw [←g3 el (List.mem_of_getElem? he)];exact (List.getElem?_eq_some_iff.1 hx).1
   have hat:=eu g3 i el jj he hjj;have hi:i < n:=by rw [←g2];exact (List.getElem?_eq_some_iff.1 he).1
   rw [g4,List.getElem?_take,List.getElem?_drop] at hat;have hlt:i * es+jj < n * es:=by have:(i+1) * es≤n * es:=Nat.mul_le_mul_right _ hi;rw [Nat.add_mul,Nat.one_mul] at this;omega
   rw [if_pos hlt,hx,←Nat.add_assoc] at hat;exact (hdp.2 _ a u hat hu).mono fun k b hk ho=>⟨hk,fun h=>ho (hOs k h)⟩
  ·simp only [List.length_eq_zero_iff] at g2;subst g2;exact .d .nil
 have hgv:∀ {a b:AV} {u:Value},Gv j aJ cs a b→AR E.ρ s.hp.get (E.O st.hp) a u→AR (aZ j E.ρ) s.hp.get (({E with ρ:=aZ j E.ρ}:Env).O (st.hp.set j .gone)) b u:=by
  intro a b u hg h
  cases hg with
  | same hn=>exact h.rI hOs hn
  | ptr=>exact hpt h
  | row es g1 g2 g3 g4 g5=>exact hrow es g1 g2 g3 g4 g5 h
  | cG=>exact .cG
 refine ⟨{E with ρ:=aZ j E.ρ},⟨⟨hr.wf,fun i b v hi hv=>?_,fun i i' v v' k h1 h2=>hr.inj i i' v v' k (hdr h1).2 (hdr h2).2,fun i v k hk=>hr.rn i v k (hdr hk).2,fun i b v w h1 h2 h3=>?_,fun i v hi=>?_,fun k hk=>hr.sup k (hown k hk),fun k hk=>hr.hU k (hown k hk),hr.dx,hr.ds,hr.sn,hr.xn,fun k hk=>hr.pO k (hk.imp (hown k) id),hr.bn,hr.aC⟩,hs'.rd,fun t=>hgv (zF hs t) (hs'.fr t)⟩,
  ⟨qq6 _,fun i v k hi hk=>?_,fun k hk=>.inl (hown k hk),fun _ h=>.inl h,fun _ h=>.inl h,fun _ h=>h,fun _ h=>.inl h,fun _ _ _ _=>rfl,Nat.min_le_left _ _⟩⟩
 ·obtain ⟨hij,hi'⟩:=hget i b v hi hv;have hbn:=hb i b hi' hij
  rcases hr.gz i b v hi' hv with ⟨k,b',q1,q2,q3⟩|⟨q1,q2⟩
  ·refine .inl ⟨k,b',by show aZ j E.ρ i v=_;rw [aZ,if_neg hij];exact q1,q2,?_⟩
   cases b with
   | cells cs2 es2 ver2 =>obtain ⟨cs',rfl,h⟩:=q3;exact ⟨cs',rfl,h.1,fun i a u ha hu=>(h.2 i a u ha hu).rI hOs (kC hbn i a ha)⟩
   | dU p q=>exact q3
   | map ents clock =>obtain ⟨es,rfl,h1,h2⟩:=q3;refine ⟨es,rfl,h1,fun i k v born x hx hy=>?_⟩;simp only [AB.rI,List.all_eq_true,qq7] at hbn;have:=hbn _ (List.mem_of_getElem? hx);exact ⟨(h2 i k v born x hx hy).1.rI hOs this.1,(h2 i k v born x hx hy).2.1.rI hOs this.2,(h2 i k v born x hx hy).2.2⟩
   | iter i2 since seen stepped =>obtain ⟨m,rfl,h⟩:=q3;exact ⟨m,rfl,by show aZ j E.ρ i2 0=_;rw [aZ,if_neg (rJ hbn)];exact h⟩
   | gone=>exact q3
  ·exact .inr ⟨by show aZ j E.ρ i v=_;rw [aZ,if_neg hij];exact q1,q2⟩
 ·obtain ⟨hij,h1⟩:=hget i b v h1 h2;show aZ j E.ρ i w=none;rw [aZ,if_neg hij];exact hr.fresh i b v w h1 h2 h3
 ·show aZ j E.ρ i v=none;unfold aZ;split
  ·rfl
  ·exact hr.new i v (by simpa using hi)
 ·show aZ j E.ρ i v=some k;rw [aZ,if_neg (by omega)];exact hk
def zG (j:Nat):Nat→List AB→Bool
 | _,[]=>true
 | i,b :: l=>(Nat.beq i j || b.rI j) && zG j (i+1) l
theorem wC {j:Nat}:∀ {l:List AB} {i0:Nat},zG j i0 l=true→∀ (i:Nat) (b:AB),l[i]?=some b→i0+i ≠ j→b.rI j=true
 | [],_,_,i,b,h,_=>by cases h
 | x :: l,i0,h,i,b,hb,hne=>by
  simp only [zG,qq7,Bool.or_eq_true] at h
  cases i with
  | zero =>
   cases hb
   rcases h.1 with h|h
   ·exact absurd (Nat.eq_of_beq_eq_true h) hne
   ·exact h
  | succ i=>exact wC h.2 i b (by simpa using hb) (by omega)
theorem ah.giveUp {st:bO} {l:List (Nat × AV)} (j:Nat) {aJ es:Nat} {cs:List AV} {hp:List AB} (hj:st.hp[j]?=some (.cells cs es aJ)) (hn:st.fl≤j) (hd:cZ cs=true) (hs:wB j aJ cs st.fr l) (hb:zG j 0 st.hp=true) (hh:st.hp.set j .gone=hp) :
  ah st ⟨aL l,hp,st.aC,st.rd,st.fl⟩:=by
 subst hh;exact ah.Mv hj hn hd hs fun i b h hne=>wC hb i b h (by omega)
end
end Go.RM
namespace Go.RM
open Go
theorem eP.nV {j aJ c:Nat} (hc:c≤2:=by decide):eP (.fl (.slice none 0 0)) (.aI j aJ 0 0 c):=fun _ _ _ u h=>by rw [h.fc.1];exact .rq hc
theorem ah.nW {st:bO} (es:Nat):ah st ⟨st.fr,st.hp++[.cells [] es 0],st.aC,st.rd,st.fl⟩:=by
 refine ⟨rfl,fun E base s hs=>?_⟩;have hr:=hs.h
 have hget:∀ (i:Nat) (b:AB),(st.hp++[AB.cells [] es 0])[i]?=some b→(i < st.hp.length∧st.hp[i]?=some b)∨(i=st.hp.length∧b=.cells [] es 0):=by
  intro i b hi;by_cases hlt:i < st.hp.length
  ·rw [List.getElem?_append_left hlt] at hi;exact .inl ⟨hlt,hi⟩
  ·rw [List.getElem?_append_right (by omega)] at hi;have h0:i - st.hp.length=0:=by apply Nat.eq_zero_of_not_pos;intro hp0;rw [List.getElem?_eq_none (by simp;omega)] at hi;cases hi
   rw [h0] at hi;cases hi;exact .inr ⟨by omega,rfl⟩
 have hown:∀ k,Own E.ρ (st.hp++[.cells [] es 0]) k→Own E.ρ st.hp k:=by
  rintro k ⟨i,b,v,h1,h2,h3⟩
  rcases hget i b h1 with ⟨_,h1⟩|⟨rfl,rfl⟩
  ·exact ⟨i,b,v,h1,h2,h3⟩
  ·rw [hr.new _ v (qq6 _)] at h3;cases h3
 have hO:∀ k,E.O (st.hp++[.cells [] es 0]) k→E.O st.hp k:=fun k h=>h.imp (hown k) id;have keep:∀ k b,s.hp.get k=some b→¬ E.O st.hp k→s.hp.get k=some b∧¬ E.O (st.hp++[.cells [] es 0]) k:=fun k b hk ho=>⟨hk,fun h=>ho (hO k h)⟩;have har:∀ {v:AV} {u:Value},AR E.ρ s.hp.get (E.O st.hp) v u→AR E.ρ s.hp.get (E.O (st.hp++[.cells [] es 0])) v u:=fun h=>h.mono (fun _ _ _ h=>h) keep
 refine ⟨E,⟨⟨hr.wf,fun i b v hi hv=>?_,hr.inj,hr.rn,fun i b v w h1 h2 h3=>?_,fun i v hi=>hr.new i v (by simp at hi;omega),fun k hk=>hr.sup k (hown k hk),fun k hk=>hr.hU k (hown k hk),hr.dx,hr.ds,hr.sn,hr.xn,fun k hk=>hr.pO k (hk.imp (hown k) id),hr.bn,hr.aC⟩,hs.rd,fun t=>har (hs.fr t)⟩,
  ⟨qq6 _,fun _ _ _ _ h=>h,fun k hk=>.inl (hown k hk),fun _ h=>.inl h,fun _ h=>.inl h,fun _ h=>h,fun _ h=>.inl h,fun _ _ _ _=>rfl,Nat.min_le_left _ _⟩⟩
 ·rcases hget i b hi with ⟨_,hi'⟩|⟨rfl,rfl⟩
  ·rcases hr.gz i b v hi' hv with ⟨k,b',q1,q2,q3⟩|q
   ·refine .inl ⟨k,b',q1,q2,?_⟩
    cases b with
    | cells cs2 es2 ver2 =>obtain ⟨cs',rfl,h⟩:=q3;exact ⟨cs',rfl,h.1,fun i a u ha hu=>har (h.2 i a u ha hu)⟩
    | dU p q=>exact q3
    | map ents clock =>obtain ⟨es,rfl,h1,h2⟩:=q3;exact ⟨es,rfl,h1,fun i k v born x hx hy=>⟨har (h2 i k v born x hx hy).1,har (h2 i k v born x hx hy).2.1,(h2 i k v born x hx hy).2.2⟩⟩
    | iter i2 since seen stepped=>exact q3
    | gone=>exact q3
   ·exact .inr q
  ·cases hv;exact .inr ⟨hr.new _ _ (qq6 _),es,rfl⟩
 ·rcases hget i b h1 with ⟨_,h1⟩|⟨rfl,rfl⟩
  ·exact hr.fresh i b v w h1 h2 h3
  ·exact hr.new _ _ (qq6 _)
theorem q1 {σ:Type} {P:σ→Prop} {I:σ→bO} {m:σ→Nat} {K:Exit→bO→Prop} {x:σ} {s:bO} (h:K .ret s):FQ P I m K x .ret s:=h
theorem q2 {σ:Type} {P:σ→Prop} {I:σ→bO} {m:σ→Nat} {K:Exit→bO→Prop} {x:σ} {s:bO} {id:Nat} (h:K (.exit id) s):FQ P I m K x (.exit id) s:=h
end Go.RM
namespace Go.RM
open Go
end Go.RM
namespace Go.RM
open Go
theorem F3 {α:Type} {l:List α} {j:Nat} {a:α} (h:l[j]?=some a):l.set j a=l:=by
 apply List.ext_getElem?;intro i;rw [List.getElem?_set];split
 ·rename_i hij;subst hij;rw [h];split
  ·rfl
  ·rename_i hn;exact absurd (List.getElem?_eq_some_iff.1 h).1 hn
 ·rfl
theorem Ik {hp:List AB} {es bs:Nat} {x:AV} {els:List (List AV)} {j aJ n c:Nat} {cs:List AV} {K:AV→List AB→Prop} (hx:yd hp es x els) (h1:els.flatten.all AV.one=true) (hj:hp[j]?=some (.cells cs es aJ)) (hl:cs.length=n * es) (hc:c=n∨c=n+1)
  (hb:(n+els.length) * bs≤140737488355328∧n+els.length≤9223372036854775807) (hk:∀ v c',(c'=n+els.length∨c'=n+els.length+1)→K (.aI j v 0 (n+els.length) c') (hp.set j (.cells (cs++els.flatten) es v))) :
  ∃ els,yd hp es x els∧els.flatten.all AV.one=true∧∃ cs,hp[j]?=some (.cells cs es aJ)∧cs.length=n * es∧(c=n∨c=n+1)∧((n+els.length) * bs≤140737488355328∧n+els.length≤9223372036854775807)∧(els=[]→K (.aI j aJ 0 n c) hp) ∧
   (els ≠ []→K (.aI j (aJ+1) 0 (n+els.length) (n+els.length+1)) (hp.set j (.cells (cs++els.flatten) es (aJ+1)))):=by
 refine ⟨els,hx,h1,cs,hj,hl,hc,hb,fun he=>?_,fun _=>hk _ _ (.inr rfl)⟩;subst he;have h2:=hk aJ c (by simpa using hc);rw [List.flatten_nil,List.append_nil,F3 hj] at h2;exact h2
theorem wD {T:bF} {own:Bool} {fr:Nat→AV} {hp:List AB} {K:AV→List AB→Prop} {s x:Operand} {t u e:TypeId} {a1 a2 a3 a4 a5 a6} {j aJ n c:Nat} {els:List (List AV)} {f:Bool} {cs:List AV} {inf:uF} (hs:bg fr s=.aI j aJ 0 n c) (hx:bg fr x=.sl els f)
  (hu:T.ty.get u=some ⟨.slice e,a1,a2,a3,a4,a5,a6⟩) (hi:elem? T t=some inf) (hz:bS inf=true) (hel:∀ el ∈ els,el.length=inf.size) (h1:els.flatten.all AV.one=true) (hj:hp[j]?=some (.cells cs inf.size aJ)) (hl:cs.length=n * inf.size) (hc:c=n∨c=n+1)
  (hb:(n+els.length) * inf.bytes≤140737488355328∧n+els.length≤9223372036854775807) (hk:∀ v c',(c'=n+els.length∨c'=n+els.length+1)→K (.aI j v 0 (n+els.length) c') (hp.set j (.cells (cs++els.flatten) inf.size v))) :
  RM.wpOp T own (.call ⟨.builtin .append,[s,x].toArray,[t,u].toArray⟩) fr hp K:=by
 show force (bg fr s) fun a=>force (bg fr x) fun b=>iS T own .append [a,b] [t,u] hp K;rw [hs,hx];show (match T.ty.get u with|some ⟨.slice _,_,_,_,_,_,_⟩=>ld T own t (.aI j aJ 0 n c) (.sl els f) hp K|_=>False);rw [hu];show ld T own t (.aI j aJ 0 n c) (.sl els f) hp K;unfold ld;rw [hi];obtain ⟨els',q1,q2,q3⟩:=Ik (hp:=hp) (K:=K) (x:=.sl els f) ⟨hel,rfl⟩ h1 hj hl hc hb hk;exact ⟨hz,els',q1,q2,.inl ⟨rfl,q3⟩⟩
end Go.RM
namespace Go.RM
open Go
section
variable {T : bF} {tab : List XE} {one : Bool} {base : Nat} {E : Env} {hp : List AB} {aC : bp} {H : Hp} {ρ : Nat → Nat → Option Nat} {g : aK} {O O' : Nat → Prop}
def Mw (T:bF) (rs:List ResultVar) (Q:AV→List AB→bp→Prop) (e:Exit) (s:bO):Prop :=
 match e with
 | .normal|.ret=>pQ T s rs fun as=>Q (Bk as) s.hp s.aC
 | _=>False
theorem Il {vs:List AV} {us:List Value} (h:fN ρ g O vs us):AR ρ g O (Bk vs) (bT us):=by
 match vs,us,h with
 | [],[],_=>exact .tp rfl (fun i x u hx=>by cases hx)
 | [v],[u],h=>exact h.2 0 v u rfl rfl
 | a :: b :: l,c :: d :: m,h=>exact .tp (by simpa using h.1) (fun i x u hx hu=>h.2 i x u hx (by simpa using hu))
 | [],u :: us,h=>exact absurd h.1 (by simp)
 | v :: vs,[],h=>exact absurd h.1 (by simp)
 | [v],a :: b :: l,h=>exact absurd h.1 (by simp)
 | a :: b :: l,[v],h=>exact absurd h.1 (by simp)
theorem au.body {f:FuncId} {fn:Func} {c:Code} {first caps args:List AV} {Q:AV→List AB→bp→Prop} (hf:T.fn.get f=some fn) (hb:fn.body=some c) (hn:noEntry tab f=true)
  (hw:aB T tab one c ⟨Bl (first++args++caps),hp,aC,false,hp.length⟩ (Mw T fn.results.toList Q)):au T tab one (.fn f first caps) args hp aC Q:=by
 intro E base H u us hr hF ha
 obtain ⟨fs,cs,rfl,h1,h2⟩:∃ fs cs,u=.func (.func f) fs cs∧fN E.ρ H.get (E.O hp) first fs.toList∧fN E.ρ H.get (E.O hp) caps cs.toList:=by
  cases hF with
  | d h=>cases h with
   | fn ha hb h1 h2=>exact ⟨_,_,rfl,⟨ha,fun i x u hx hu=>.d (h1 i x u hx hu)⟩,⟨hb,fun i x u hx hu=>.d (h2 i x u hx hu)⟩⟩
  | fn ha hb h1 h2=>exact ⟨_,_,rfl,⟨ha,h1⟩,⟨hb,h2⟩⟩
 refine ⟨.fn f (fs.toList++us++cs.toList),rfl,?_⟩;have hargs:=(h1.append ha).append h2;obtain ⟨m,L,h1,h2,h3⟩:=hw E base ⟨setArgs .leaf 0 (fs.toList++us++cs.toList),H,false⟩ ⟨hr,rfl,wj hargs⟩
 obtain ⟨m',M,hm,q1,q2,q3⟩:=fK (one:=one) (L:=L) (f:=fun _ (p:Exit × St)=>eY T fn.results.toList p)
  (P:=fun r=>∃ w H',r=.ret w H'∧∃ E' a hp' amb',Q a hp' amb'∧aY E' base hp' amb' H'∧AR E'.ρ H'.get (E'.O hp') a w∧lf hp.length base E hp H E' hp' H')
  (fun _ _ _ _ _ h=>h) m h2 (fun p hp'=>by
   obtain ⟨E',st',k1,k0,k2,k3⟩:=h3 p hp';obtain ⟨e,s'⟩:=p
   have done:(e=.normal∨e=.ret)→(pQ T st' fn.results.toList fun as=>Q (Bk as) st'.hp st'.aC)→∃ (_:Nat) (M:List eU),eY T fn.results.toList (e,s')=some M ∧
     qk one M fun r=>∃ w H',r=.ret w H'∧∃ E' a hp' amb',Q a hp' amb'∧aY E' base hp' amb' H'∧AR E'.ρ H'.get (E'.O hp') a w∧lf hp.length base E hp H E' hp' H':=by
    intro he hr;obtain ⟨ws,as,r1,r2,r4⟩:=lg k2 hr;refine ⟨0,[.ret (bT ws) s'.hp],?_,.single ⟨_,_,rfl,E',Bk as,st'.hp,st'.aC,r2,k2.h,Il r4,k3⟩⟩;unfold eY
    rcases he with rfl|rfl <;> simp only [r1,Option.map_some]
   cases e with
   | normal=>exact done (.inl rfl) k1
   | ret=>exact done (.inr rfl) k1
   | _=>exact k1.elim)
 refine ⟨m'+1,M,?_,q2,q3⟩;show RX T tab (m'+1) (.call f _ H)=_;rw [zg,oH _ _ hn];simp only;rw [ki,hf];simp only [hb];rw [ej (gk hm) _ _ _ h1];exact q1
end
end Go.RM
namespace Go.RM
open Go
section
variable {T : bF} {tab : List XE} {one : Bool}
end
end Go.RM
namespace Go.RM
open Go
section
variable {T : bF} {tab : List XE} {one : Bool}
end
end Go.RM
namespace Go.RM
open Go
section
variable {T : bF} {tab : List XE} {one : Bool} {base : Nat} {E : Env} {hp : List AB} {aC : bp} {H : Hp}
end
end Go.RM
namespace Go.RM
open Go
theorem wrap_i64 {n:Int} (h0:0≤n) (h1:n < 9223372036854775808):IntKind.wrap .i64 n=n:=by have hm:n % 18446744073709551616=n:=Int.emod_eq_of_lt h0 (by omega);show (if (true && decide (n % 18446744073709551616 ≥ 9223372036854775808))=true then n % 18446744073709551616 - 18446744073709551616 else n % 18446744073709551616)=n;rw [hm,if_neg (by simp;omega)]
theorem Im {w m n:Nat} (hm:m < 2 ^ w) (hn:n < 2 ^ w):(BitVec.ofInt w (m:Int) ||| BitVec.ofInt w (n:Int)).toNat=m ||| n:=by rw [BitVec.toNat_or,BitVec.ofInt_natCast,BitVec.ofInt_natCast,BitVec.toNat_ofNat,BitVec.toNat_ofNat,Nat.mod_eq_of_lt hm,Nat.mod_eq_of_lt hn]
end Go.RM
namespace Go.RM
open Go
section
variable {T : bF} {tab : List XE} {one : Bool} {fl base : Nat} {E E' E2 : Env} {hp hp' hp2 : List AB} {aC amb' : bp} {H H' H2 : Hp} {ρ ρ2 : Nat → Nat → Option Nat} {g g2 : aK} {O O2 : Nat → Prop}
end
end Go.RM
namespace Go.RM
open Go
section
variable {T : bF} {tab : List XE} {one : Bool} {base : Nat} {E : Env} {hp : List AB} {aC : bp} {H : Hp}
inductive Fq (hp:List AB):AV→AV→Prop
 | fz {a v:AV}:Fz hp a v→Fq hp a v
 | ptr {j aJ o es:Nat} {cs:List AV}:hp[j]?=some (.cells cs es aJ)→cZ cs=true→Fq hp (.ptr j aJ o) (.pt cs o)
 | fn {f:FuncId} {a b x y:List AV}:a.length=x.length→b.length=y.length→(∀ (i:Nat) (u v:AV),a[i]?=some u→x[i]?=some v→Fq hp u v)→(∀ (i:Nat) (u v:AV),b[i]?=some u→y[i]?=some v→Fq hp u v)→Fq hp (.fn f a b) (.fn f x y)
theorem AR.Ip {ρ:Nat→Nat→Option Nat} {g:aK} {O:Nat→Prop} {f:FuncId} {a b:List AV} {u:Value} (h:AR ρ g O (.fn f a b) u):∃ a' b',u=.func (.func f) a' b'∧fN ρ g O a a'.toList∧fN ρ g O b b'.toList:=by
 cases h with
 | d h=>cases h with
  | fn ha hb h1 h2=>exact ⟨_,_,rfl,⟨ha,fun i x u hx hu=>.d (h1 i x u hx hu)⟩,⟨hb,fun i x u hx hu=>.d (h2 i x u hx hu)⟩⟩
 | fn ha hb h1 h2=>exact ⟨_,_,rfl,⟨ha,h1⟩,⟨hb,h2⟩⟩
theorem Fq.dr {X:Nat→Prop} (h:aY E base hp aC H) (hX:∀ k,X k→E.X k) {r v:AV} (hf:Fq hp r v):∀ {u:Value},AR E.ρ H.get (E.O hp) r u→DR H.get X v u:=by
 have weak:∀ {v:AV} {u:Value},DR H.get (E.O hp) v u→DR H.get X v u:=fun h=>h.mono fun k b hk ho=>⟨hk,fun hx=>ho (.inr (hX k hx))⟩
 induction hf with
 | fz hz=>intro u ha;exact hz.dr h hX ha
 | ptr h1 hd =>
  rename_i j aJ o es cs;intro u ha;obtain ⟨k,hk,rfl⟩:=ha.dg;obtain ⟨cs',q1,q2⟩:=h.cells h1 hk;have hok:Own E.ρ hp k:=⟨j,_,aJ,h1,rfl,hk⟩;have hnx:¬ X k:=fun hx=>h.hU k hok (hX k hx)
  have:=DR.pt (g:=H.get) (O:=X) (l:=cs) (k:=k) (d:=0) (o:=o) (cs:=cs') q1 hnx (by rw [Nat.zero_add,q2.1];exact qq6 _) (fun i a u hx hu=>by
   rw [Nat.zero_add] at hu
   exact weak ((q2.2 i a u hx hu).deep (gQ hd i a hx)))
  rw [Nat.zero_add] at this;exact this
 | @fn f a b x y h1 h2 _ _ ih1 ih2 =>
  intro u ha;obtain ⟨a',b',rfl,p1,p2⟩:=ha.Ip;refine .fn (by rw [←h1];exact p1.1) (by rw [←h2];exact p2.1) (fun i v w hv hw=>?_) (fun i v w hv hw=>?_)
  ·have hi:i < a.length:=by rw [h1];exact (List.getElem?_eq_some_iff.1 hv).1
   have hai:a[i]?=some a[i]:=List.getElem?_eq_getElem hi;exact ih1 i _ v hai hv (p1.2 i _ w hai hw)
  ·have hi:i < b.length:=by rw [h2];exact (List.getElem?_eq_some_iff.1 hv).1
   have hai:b[i]?=some b[i]:=List.getElem?_eq_getElem hi;exact ih2 i _ v hai hv (p2.2 i _ w hai hw)
def eX (hp:List AB):List AV→List AV→Prop
 | [],[]=>True
 | r :: rs,v :: vs=>Fq hp r v∧eX hp rs vs
 | _,_=>False
theorem eX.dr {X:Nat→Prop} (h:aY E base hp aC H) (hX:∀ k,X k→E.X k):∀ {rs vs:List AV} {us:List Value},eX hp rs vs→fN E.ρ H.get (E.O hp) rs us→sN H.get X vs us
 | [],[],us,_,ha=>⟨ha.1,fun i a u hx=>by cases hx⟩
 | r :: rs,v :: vs,[],_,ha=>absurd ha.1 (by simp)
 | r :: rs,v :: vs,u :: us,hf,ha=>by
  have:=eX.dr h hX hf.2 (us:=us) ⟨by simpa using ha.1,fun i a u x y=>ha.2 (i+1) a u (by simpa using x) (by simpa using y)⟩;refine ⟨by simp [this.1],fun i a w hx hw=>?_⟩
  cases i with
  | zero=>cases hx;cases hw;exact hf.1.dr h hX (ha.2 0 r u rfl rfl)
  | succ i=>exact this.2 i a w (by simpa using hx) (by simpa using hw)
 | [],_ :: _,_,hf,_=>hf.elim
 | _ :: _,[],_,hf,_=>by simp [eX] at hf
theorem eX.JK {f:FuncId} {a b x y:List AV} (h1:eX hp a x) (h2:eX hp b y):Fq hp (.fn f a b) (.fn f x y):=by
 have key:∀ {a x:List AV},eX hp a x→a.length=x.length∧∀ (i:Nat) (u v:AV),a[i]?=some u→x[i]?=some v→Fq hp u v:=by
  intro a
  induction a with
  | nil =>
   intro x h
   cases x with
   | nil=>exact ⟨rfl,fun i u v hu=>by cases hu⟩
   | cons=>exact h.elim
  | cons r rs ih =>
   intro x h
   cases x with
   | nil=>simp [eX] at h
   | cons v vs =>
    obtain ⟨l,k⟩:=ih h.2;refine ⟨by simp [l],fun i u w hu hw=>?_⟩
    cases i with
    | zero=>cases hu;cases hw;exact h.1
    | succ i=>exact k i u w (by simpa using hu) (by simpa using hw)
 exact .fn (key h1).1 (key h2).1 (key h1).2 (key h2).2
theorem ak.tY {F F':AV} {args vs:List AV} {v:AV} (h:ak T tab one F' vs v) (hF:Fq hp F F') (hz:eX hp args vs) (hfree:nU v) {Q:AV→List AB→bp→Prop} (hq:Q v hp aC):au T tab one F args hp aC Q:=by
 intro E base H u us hr hf ha;obtain ⟨hd,h⟩:=h;obtain ⟨goal,hg,m,L,h1,h2,h3⟩:=h E.X H u us hr.wf (fun k hk=>hr.xn k hk) (hF.dr hr (fun _ h=>h) hf) (hz.dr hr (fun _ h=>h) ha);refine ⟨goal,hg,m,L,h1,h2,fun r hm=>?_⟩;obtain ⟨w,H',rfl,hn,hwf,hsame,hlo,hv⟩:=h3 r hm;have e:Ext base E hp H E hp H':=⟨hn,rfl,rfl,rfl,fun _ _ _ h=>h,fun _ h=>.inl h,fun k hk _=>hsame k hk,by have:=hr.bn;omega⟩;refine ⟨w,H',rfl,E,v,hp,aC,hq,⟨hwf,fun j x aJ hj hvx=>?_,hr.inj,fun j v k hk=>Nat.lt_of_lt_of_le (hr.rn j v k hk) hn,hr.fresh,hr.new,hr.sup,hr.hU,hr.dx,hr.ds,fun k hk=>Nat.lt_of_lt_of_le (hr.sn k hk) hn,fun k hk=>Nat.lt_of_lt_of_le (hr.xn k hk) hn,hr.pO,Nat.le_trans hr.bn hn,aC.st hr.aC (fun k hk=>hsame k (hr.sn k hk)) hn⟩,.d (hfree.2 _ _ _ _ hv),e.FN⟩
 rcases hr.gz j x aJ hj hvx with ⟨k,b',q1,q2,q3⟩|q
 ·exact .inl ⟨k,b',q1,by rw [hsame k (hr.wf.lt q2)];exact q2,e.br hr.wf q3⟩
 ·exact .inr q
theorem eX.nil:eX hp [] []:=trivial
theorem eX.cons {a x:AV} {as xs:List AV} (h:Fq hp a x) (k:eX hp as xs):eX hp (a :: as) (x :: xs):=⟨h,k⟩
theorem Fq.deep {v:AV} (h:v.deep=true):Fq hp v v:=.fz (.deep h)
end
end Go.RM
namespace Go.RM
open Go
section
variable {T : bF} {tab : List XE} {one : Bool} {mu : Tmp → Bool} {dst : Option Tmp} {fr : Nat → AV} {hp : List AB} {aC : bp} {rd : Bool} {fl : Nat} {KS : bO → Prop}
theorem om {r:Operand} {name:String} {l:List Operand} {tys} {F:AV} (hF:yf T.P (bg fr r) name=F) (h:force F fun F=>eK (l.map (bg fr)) fun as=>au T tab one F as hp aC fun v hp' amb'=>ig dst fr v fun fr'=>KS ⟨fr',hp',amb',rd,fl⟩) :
  rD T tab one mu dst (.call ⟨.invoke r name,l.toArray,tys⟩) fr hp aC rd fl KS:=by
 subst hF;exact h
theorem nm {r:Operand} {name:String} {l:List Operand} {tys} {i:Nat} {bt:Nat→Nat} {KD:(Nat→AV)→List AB→(Nat→Nat)→nT→Prop} {F v:AV} {as:List AV} (hp':ak T tab true F as v) (hF:yf T.P (bg fr r) name=F) (ha:l.map (bg fr)=as) (hd:F.deep=true) (hda:cZ as=true)
  (h:ig dst fr v fun fr'=>KD fr' hp (lJ dst bt (i+1)) ⟨i,[],true,true⟩):fM T tab mu dst (.call ⟨.invoke r name,l.toArray,tys⟩) i bt fr hp KD:=by
 show force (yf T.P (bg fr r) name) fun F=>eK (l.map (bg fr)) fun as=>F.deep=true∧∃ vs v,Handed hp as vs v∧ak T tab true F vs v∧ig dst fr v fun fr'=>KD fr' hp (lJ dst bt (i+1)) ⟨i,[],true,true⟩;rw [hF,ha];exact wA (sY (P:=fun as=>F.deep=true∧∃ vs v,Handed hp as vs v∧ak T tab true F vs v∧ig dst fr v fun fr'=>KD fr' hp (lJ dst bt (i+1)) ⟨i,[],true,true⟩) ⟨hd,as,v,.inl ⟨rfl,hda⟩,hp',h⟩)
end
end Go.RM
namespace Go.RM
open Go
section
variable {T : bF} {tab : List XE} {one : Bool} {mu : Tmp → Bool} {KE : Exit → bO → Prop} {st : bO}
theorem En {l:List Oper} (hd:l.any xL=false):fF l.toArray=l.length:=by
 unfold fF;have:l.findIdx? xL=none:=by rw [List.findIdx?_eq_none_iff];intro x hx;rw [List.any_eq_false] at hd;simpa using hd x hx
 simp only [this]
theorem M1 {id:Nat} {l:List Oper} (hd:l.any xL=false) (h:jw T tab mu l.toArray l 0 (fun _=>0) [] st (KE .normal)):kJ T tab one mu (.region id l.toArray true) st KE:=by refine c5 (En hd) rfl rfl ?_;rw [List.take_length,List.drop_length];exact h
end
end Go.RM
namespace Go.RM
open Go
section
variable {T : bF} {tab : List XE} {one : Bool} {mu : Tmp → Bool} {own : Bool} {fr : Nat → AV} {hp : List AB} {K : AV → List AB → Prop} {t : TypeId} {jM : TypeDesc} {s by' : Nat} {z : Option Value} {agg : Bool} {cA : List (Nat × Nat)} {cK : Nat}
theorem M4 {a:Operand} {cs:List AV} {o:Nat} (ha:bg fr a=.pt cs o) (ht:T.ty.get t=some ⟨jM,s,by',z,true,cA,cK⟩) (hl:Nat.ble (o+s) cs.length=true) (h:K (.ag ((cs.drop o).take s)) hp):wpOp T own (.load t a) fr hp K:=by show eJ T t (bg fr a) hp K;unfold eJ;simp only [ha,ht];exact ⟨Nat.le_of_ble_eq_true hl,h⟩
theorem M5 {a:Operand} {cs:List AV} {o:Nat} {v:AV} (ha:bg fr a=.pt cs o) (ht:T.ty.get t=some ⟨jM,s,by',z,false,cA,cK⟩) (hv:cs[o]?=some v) (h:K v hp):wpOp T own (.load t a) fr hp K:=by show eJ T t (bg fr a) hp K;unfold eJ;simp only [ha,ht];exact ⟨v,hv,h⟩
theorem M6 {a:Operand} {j aJ o es:Nat} {cs:List AV} (ha:bg fr a=.ptr j aJ o) (ht:T.ty.get t=some ⟨jM,s,by',z,true,cA,cK⟩) (hj:hp[j]?=some (.cells cs es aJ)) (hl:Nat.ble (o+s) cs.length=true) (h:K (.ag ((cs.drop o).take s)) hp):wpOp T own (.load t a) fr hp K:=by show eJ T t (bg fr a) hp K;unfold eJ;simp only [ha,ht];exact ⟨cs,es,hj,Nat.le_of_ble_eq_true hl,h⟩
theorem bD {a:Operand} {j aJ o es:Nat} {cs:List AV} {v:AV} (ha:bg fr a=.ptr j aJ o) (ht:T.ty.get t=some ⟨jM,s,by',z,false,cA,cK⟩) (hj:hp[j]?=some (.cells cs es aJ)) (hv:cs[o]?=some v) (h:K v hp):wpOp T own (.load t a) fr hp K:=by show eJ T t (bg fr a) hp K;unfold eJ;simp only [ha,ht];exact ⟨cs,es,hj,v,hv,h⟩
theorem M7 {a:Operand} {i:Nat} {cs:List AV} {o off sz:Nat} {fs} (ha:bg fr a=.pt cs o) (ht:T.ty.get t=some ⟨.struct fs,s,by',z,agg,cA,cK⟩) (hf:cA[i]?=some (off,sz)) (h1:Nat.ble 1 sz=true) (h:K (.pt cs (o+off)) hp):wpOp T own (.fieldAddr t a i) fr hp K:=by show jH T t (bg fr a) i hp K;unfold jH;simp only [ha,ht];exact ⟨off,sz,hf,Nat.le_of_ble_eq_true h1,h⟩
theorem M8 {a:Operand} {i:Nat} {j aJ o off sz:Nat} {fs} (ha:bg fr a=.ptr j aJ o) (ht:T.ty.get t=some ⟨.struct fs,s,by',z,agg,cA,cK⟩) (hf:cA[i]?=some (off,sz)) (h1:Nat.ble 1 sz=true) (h:K (.ptr j aJ (o+off)) hp):wpOp T own (.fieldAddr t a i) fr hp K:=by show jH T t (bg fr a) i hp K;unfold jH;simp only [ha,ht];exact ⟨off,sz,hf,Nat.le_of_ble_eq_true h1,h⟩
theorem M9 {v:Value} (ht:T.ty.get t=some ⟨jM,s,by',some v,agg,cA,cK⟩) (h1:v.cells.toList.all bf=true) (h:K (.ptr hp.length 0 0) (hp++[.cells (v.cells.toList.map .fl) 0 0])):wpOp T own (.alloc t) fr hp K:=by show ry T t hp K;unfold ry;simp only [ht];exact ⟨h1,h⟩
theorem Mz {x:Operand} (h:force (bg fr x) fun v=>ya own v hp K):wpOp T own (.box t x) fr hp K:=h
theorem Na {v:AV} (ho:own=false) (h1:v.kz=true) (h2:v.cells.all AV.one=true) (h3:cZ v.cells=true) (h:K (.pt v.cells 0) hp):ya own v hp K:=by subst ho;exact ⟨h1,h2,h3,h⟩
theorem Nb {v:AV} (ho:own=true) (h1:v.kz=true) (h2:v.cells.all AV.one=true) (h:K (.ptr hp.length 0 0) (hp++[.cells v.cells 0 0])):ya own v hp K:=by subst ho;exact ⟨h1,h2,h⟩
theorem Kf {a x:Operand} (h:force (bg fr x) fun v=>aF T t (bg fr a) v hp K):wpOp T own (.store t a x) fr hp K:=h
theorem fy {a v:AV} {j aJ o es:Nat} {cs:List AV} (ha:a=.ptr j aJ o) (ht:T.ty.get t=some ⟨jM,s,by',z,agg,cA,cK⟩) (hj:hp[j]?=some (.cells cs es aJ)) (h1:v.kz=true) (h2:v.cells.all AV.one=true) (h3:v.cells.length=s) (h4:Nat.ble (o+s) cs.length=true) (h:K .cG (hp.set j (.cells (aQ cs v.cells o) es aJ))):aF T t a v hp K:=by unfold aF;simp only [ha,ht];exact ⟨cs,es,hj,h1,h2,h3,Nat.le_of_ble_eq_true h4,h⟩
theorem Kg {l:List (Nat × Operand)} (h:kA (l.map fun p=>(p.1,bg fr p.2)) fun ps=>mQ T t ps hp K):wpOp T own (.build t l.toArray) fr hp K:=h
theorem Iq {l:List (Nat × Operand)} {len:Nat} (h:kA (l.map fun p=>(p.1,bg fr p.2)) fun ps=>dL T own t len ps hp K):wpOp T own (.buildSlice t len l.toArray) fr hp K:=h
theorem Nc {P:List (Nat × AV)→Prop} (h:P []):kA (([]:List (Nat × Operand)).map fun p=>(p.1,bg fr p.2)) P:=h
theorem Nd {i:Nat} {x:Operand} {l:List (Nat × Operand)} {P:List (Nat × AV)→Prop} (h:force (bg fr x) fun a=>kA (l.map fun p=>(p.1,bg fr p.2)) fun l=>P ((i,a) :: l)):kA (((i,x) :: l).map fun p=>(p.1,bg fr p.2)) P:=h
theorem Mq {v:Value} {parts:List (Nat × AV)} {cs:List AV} (ht:T.ty.get t=some ⟨jM,s,by',some v,true,cA,cK⟩) (h1:v.cells.toList.all bf=true) (h2:Bb (gB jM cA cK) (v.cells.toList.map .fl) parts=some cs) (h:K (.ag cs) hp):mQ T t parts hp K:=by unfold mQ;simp only [ht];exact ⟨h1,cs,h2,h⟩
theorem Nf {len:Nat} {parts:List (Nat × AV)} {inf:uF} (ho:own=false) (hi:elem? T t=some inf) (h1:Nat.ble (len * inf.size) 65536=true) (h2:bS inf=true) (h3:k9 inf.size 0 parts=true) (h4:Nat.beq parts.length len=true) (h5:cZ (parts.map (·.2.cells)).flatten=true) (h:K (.sl (parts.map (·.2.cells)) true) hp):dL T own t len parts hp K:=by subst ho;unfold dL;simp only [hi];exact ⟨h1,h2,h3,h4,h5,h⟩
theorem Ng {len:Nat} {parts:List (Nat × AV)} {inf:uF} (ho:own=true) (hi:elem? T t=some inf) (h1:Nat.ble (len * inf.size) 65536=true) (h2:bS inf=true) (h3:k9 inf.size 0 parts=true) (h4:Nat.beq parts.length len=true) (h:K (.aI hp.length 0 0 len len) (hp++[.cells (parts.map (·.2.cells)).flatten inf.size 0])):dL T own t len parts hp K:=by subst ho;unfold dL;simp only [hi];exact ⟨h1,h2,h3,h4,h⟩
theorem Nh {x:Operand} {i:Nat} {vs:List AV} {v:AV} (ha:bg fr x=.tp vs) (hv:vs[i]?=some v) (h:K v hp):wpOp T own (.extract x i) fr hp K:=by show jO (bg fr x) i hp K;rw [ha];exact ⟨v,hv,h⟩
theorem MO {a x:Operand} {e:TypeId} {els:List (List AV)} {f:Bool} {j:Int} {el:List AV} (ha:bg fr a=.sl els f) (hx:bg fr x=.fl (.int .i64 j)) (ht:T.ty.get t=some ⟨.slice e,s,by',z,agg,cA,cK⟩) (hat:els[j.toNat]?=some el) (h0:0≤j) (hl:el.length=cK) (h:K (.pt el 0) hp):wpOp T own (.indexAddr t a x) fr hp K:=by show cI T t (bg fr a) (bg fr x) hp K;rw [ha,hx];unfold cI;simp only [asInt,ht];exact ⟨el,⟨h0,hat⟩,hl,h⟩
theorem Ni {a x:Operand} {e:TypeId} {i aJ o n c:Nat} {j:Int} (ha:bg fr a=.aI i aJ o n c) (hx:bg fr x=.fl (.int .i64 j)) (ht:T.ty.get t=some ⟨.slice e,s,by',z,agg,cA,cK⟩) (h0:0≤j∧j < (n:Int)) (h:K (.ptr i aJ (o+j.toNat * cK)) hp):wpOp T own (.indexAddr t a x) fr hp K:=by show cI T t (bg fr a) (bg fr x) hp K;rw [ha,hx];unfold cI;simp only [asInt,ht];exact ⟨h0,h⟩
theorem Nj {a x:Operand} {e:TypeId} {len:Nat} {cs:List AV} {o:Nat} {j:Int} (ha:bg fr a=.pt cs o) (hx:bg fr x=.fl (.int .i64 j)) (ht:T.ty.get t=some ⟨.array len e,s,by',z,agg,cA,cK⟩) (h0:0≤j∧j < (len:Int)) (h:K (.pt cs (o+j.toNat * cK)) hp):wpOp T own (.indexAddr t a x) fr hp K:=by show cI T t (bg fr a) (bg fr x) hp K;rw [ha,hx];unfold cI;simp only [asInt,ht];exact ⟨h0,h⟩
theorem Nk {a x:Operand} {e:TypeId} {len:Nat} {i aJ o:Nat} {j:Int} (ha:bg fr a=.ptr i aJ o) (hx:bg fr x=.fl (.int .i64 j)) (ht:T.ty.get t=some ⟨.array len e,s,by',z,agg,cA,cK⟩) (h0:0≤j∧j < (len:Int)) (h:K (.ptr i aJ (o+j.toNat * cK)) hp):wpOp T own (.indexAddr t a x) fr hp K:=by show cI T t (bg fr a) (bg fr x) hp K;rw [ha,hx];unfold cI;simp only [asInt,ht];exact ⟨h0,h⟩
end
end Go.RM
namespace Go.RM
open Go
section
variable {T : bF} {own : Bool} {fr : Nat → AV} {hp : List AB} {K : AV → List AB → Prop} {t : TypeId}
theorem MP {l c:Operand} {n:Nat} {inf:uF} (hi:elem? T t=some inf) (hl:bg fr l=.fl (.int .i64 (Int.ofNat n))) (hc:bg fr c=.fl (.int .i64 (Int.ofNat n))) (hb:inf.bytes * n≤140737488355328∧n≤9223372036854775807) (hz:bS inf=true) (h:K (.aI hp.length 0 0 n n) (hp++[.cells ((cg (zeroCells inf) (n * inf.size)).map .fl) inf.size 0])):wpOp T own (.makeSlice t l c) fr hp K:=by show qh T t (bg fr l) (bg fr c) hp K;unfold qh;simp only [hi,hl,hc];refine ⟨n,n,rfl,rfl,⟨qq6 _,hb⟩,hz,?_⟩;rw [show Nat.beq n n=true from Nat.beq_refl n];exact h
end
end Go.RM
namespace Go.RM
open Go
section
variable {T : bF} {own : Bool} {fr : Nat → AV} {hp : List AB} {K : AV → List AB → Prop} {s x : Operand} {t u e : TypeId} {a1 a2 a3 a4 a5 a6} {els : List (List AV)} {f : Bool} {inf : uF}
end
end Go.RM
namespace Go.RM
open Go
theorem wE {w m n:Nat} (hm:m < 2 ^ w) (hn:n < 2 ^ w):(BitVec.ofInt w (m:Int) &&& BitVec.ofInt w (n:Int)).toNat=m &&& n:=by rw [BitVec.toNat_and,BitVec.ofInt_natCast,BitVec.ofInt_natCast,BitVec.toNat_ofNat,BitVec.toNat_ofNat,Nat.mod_eq_of_lt hm,Nat.mod_eq_of_lt hn]
theorem F4 {P:Program} {t:TypeId} {x y:Operand} {m:Nat} (hm:m < 4611686018427387904):eN P .and t x y (.int .i64 (m:Int)) (.int .i64 1)=some (.int .i64 ((m % 2:Nat):Int),.none):=by have h:eN P .and t x y (.int .i64 (m:Int)) (.int .i64 ((1:Nat):Int))=some (.int .i64 (IntKind.wrap .i64 ((BitVec.ofInt 64 (m:Int) &&& BitVec.ofInt 64 ((1:Nat):Int)).toNat:Int)),.none):=rfl;have h1:m &&& 1=m % 2:=Nat.and_one_is_mod m;show eN P .and t x y (.int .i64 (m:Int)) (.int .i64 ((1:Nat):Int))=_;rw [h,wE (by omega) (by omega),h1,wrap_i64 (by omega) (by omega)]
theorem Eo {P:Program} {t:TypeId} {x y:Operand} {j:Nat} (hj:j < 8):eN P .shl t x y (.int .i64 1) (.int .i64 (j:Int))=some (.int .i64 ((2 ^ j:Nat):Int),.none):=by
 match j,hj with
 | 0,_|1,_|2,_|3,_|4,_|5,_|6,_|7,_=>rfl
theorem Ep {P:Program} {t:TypeId} {x y:Operand} {m j:Nat} (hj:j < 8):eN P .shr t x y (.int .i64 (m:Int)) (.int .i64 (j:Int))=some (.int .i64 ((m / 2 ^ j:Nat):Int),.none):=by
 have h:eN P .shr t x y (.int .i64 (m:Int)) (.int .i64 (j:Int))=some (.int .i64 ((m:Int).fdiv (2 ^ j)),.none):=by
  match j,hj with
  | 0,_|1,_|2,_|3,_|4,_|5,_|6,_|7,_=>rfl
 rw [h,Int.fdiv_eq_ediv_of_nonneg _ (Int.pow_nonneg (by decide)),Int.natCast_ediv,Int.natCast_pow];rfl
section
variable {T : bF} {a b : AV} {t : TypeId} {x y : Operand} {hp : List AB} {K : AV → List AB → Prop}
theorem F5 {m:Nat} (ha:a=.fl (.int .i64 (m:Int))) (hb:b=.fl (.int .i64 1)) (hm:m < 4611686018427387904) (h:K (.fl (.int .i64 ((m % 2:Nat):Int))) hp):aV T .and t x y a b hp K:=by subst ha hb;exact ⟨.int .i64 ((m % 2:Nat):Int),F4 hm,rfl,h⟩
theorem zH {j:Nat} (ha:a=.fl (.int .i64 1)) (hb:b=.fl (.int .i64 (j:Int))) (hj:j < 8) (h:K (.fl (.int .i64 ((2 ^ j:Nat):Int))) hp):aV T .shl t x y a b hp K:=by subst ha hb;exact ⟨.int .i64 ((2 ^ j:Nat):Int),Eo hj,rfl,h⟩
theorem CG {m j:Nat} (ha:a=.fl (.int .i64 (m:Int))) (hb:b=.fl (.int .i64 (j:Int))) (hj:j < 8) (h:K (.fl (.int .i64 ((m / 2 ^ j:Nat):Int))) hp):aV T .shr t x y a b hp K:=by subst ha hb;exact ⟨.int .i64 ((m / 2 ^ j:Nat):Int),Ep hj,rfl,h⟩
end
end Go.RM
namespace Go.RM
open Go
section
variable {T : bF} {tab : List XE} {one : Bool} {fl base : Nat} {E E' E2 : Env} {hp hp' hp2 : List AB} {aC amb' : bp} {H H' H2 : Hp} {ρ ρ2 : Nat → Nat → Option Nat} {g g2 : aK} {O O2 : Nat → Prop}
def MA (T:bF) (tab:List XE) (mu:Tmp→Bool) (ops:Array Oper) (c:Nat) (K:bO→Prop) (acc:List nT) (st:bO):Prop :=
 match ops.toList[c]? with
 | some o=>match cX o.op with
  | .call f args=>dM ops.toList o.guard st.fr (force (Lj T.P st.fr f) fun F=>eK (args.map (bg st.fr)) fun as=>F.deep=true∧∃ vs v,Handed st.hp as vs v∧ak T tab false F vs v∧oJ (oU ops) (⟨c,[],true,true⟩ :: acc)=true ∧
   ig o.dst st.fr v fun fr'=>wpOps T tab false mu ops.toList (ops.toList.drop (c+1)) ⟨fr',st.hp,st.aC,st.rd,st.fl⟩ K) False
  | _=>False
 | none=>False
def rK (T:bF) (tab:List XE) (mu:Tmp→Bool) (ops:Array Oper) (c:Nat) (K:bO→Prop):List Oper→Nat→(Nat→Nat)→List nT→bO→Prop
 | [],i,_,acc,st=>i=c∧MA T tab mu ops c K acc st
 | ⟨dst,op,_,_,_,gd⟩ :: l,i,bt,acc,⟨fr,hp,aC,rd,fl⟩ =>
  dM ops.toList gd fr (fM T tab mu dst op i bt fr hp fun fr' hp' bt' x=>rK T tab mu ops c K l (i+1) bt' (x :: acc) ⟨fr',hp',aC,rd,fl⟩)
   (ig dst fr (.tp []) fun fr'=>rK T tab mu ops c K l (i+1) (lJ dst bt 0) (⟨i,[],false,false⟩ :: acc) ⟨fr',hp,aC,rd,fl⟩)
section
variable {mu : Tmp → Bool} {ops : Array Oper} {K : bO → Prop} {c i : Nat} {bt : Nat → Nat} {acc : List nT} {fr : Nat → AV} {rd : Bool}
theorem Nl {dst:Option Tmp} {op:Op} {a1 a2 a3 gd} {l:List Oper} (h:dM ops.toList gd fr (fM T tab mu dst op i bt fr hp fun fr' hp' bt' x=>rK T tab mu ops c K l (i+1) bt' (x :: acc) ⟨fr',hp',aC,rd,fl⟩)
 (ig dst fr (.tp []) fun fr'=>rK T tab mu ops c K l (i+1) (lJ dst bt 0) (⟨i,[],false,false⟩ :: acc) ⟨fr',hp,aC,rd,fl⟩)):rK T tab mu ops c K (⟨dst,op,a1,a2,a3,gd⟩ :: l) i bt acc ⟨fr,hp,aC,rd,fl⟩:=h
end
end
end Go.RM
namespace Go.RM
open Go
end Go.RM
namespace Go.RM
structure Hd (h:Prop):Prop where
 x:h
theorem u1 {g h : Prop} (q : h) (k : Hd h → g := by
    intro hd;first
    | with_reducible (first | refine RM.c1 ?_ | refine RM.c2 ?_ | refine RM.c3 ?_ | refine RM.c4 ?_ | refine RM.c6 ?_ | refine RM.c7 ?_ | refine RM.c8 ?_ | refine RM.c9 ?_ | refine RM.d1 ?_ | refine RM.d2 ?_ | refine RM.d3 ?_ | refine RM.d4 ?_ | refine RM.d7 ?_ | refine RM.d8 ?_ | refine RM.d9 ?_ | refine RM.o1 ?_ | refine RM.o2 ?_ | refine RM.o3 ?_ | refine RM.o4 ?_ | refine RM.o5 ?_ | refine RM.o6 ?_ | refine RM.o7 ?_ | refine RM.o9 ?_ | refine RM.p1 ?_ | refine RM.p2 ?_ | refine RM.p3 ?_ | refine RM.p4 ?_ | refine RM.p5 ?_ | refine RM.p6 ?_ | refine RM.p7 ?_ | refine RM.p8 ?_ | refine RM.q1 ?_ | refine RM.q2 ?_ | refine RM.Mz ?_ | refine RM.Kf ?_ | refine RM.Kg ?_ | refine RM.Iq ?_ | refine RM.Nc ?_ | refine RM.Nd ?_ | refine RM.Nl ?_)
    | ((with_reducible show force _ _); first | refine RM.f1 rfl ?_ | refine RM.f2 rfl ?_ | refine RM.f3 rfl ?_ | refine RM.f4 rfl ?_ | refine RM.f5 rfl ?_ | refine RM.f6 rfl ?_ | refine RM.f7 rfl ?_ | refine RM.f8 rfl ?_ | refine RM.f9 rfl ?_ | refine RM.g1 rfl ?_ | refine RM.g2 rfl ?_)
    | ((with_reducible show RM.wpOp _ _ _ _ _ _); first
      | ((with_reducible show RM.wpOp _ _ (.load _ _) _ _ _); first | refine RM.M5 rfl rfl rfl ?_ | refine RM.M4 rfl rfl rfl ?_ | refine RM.bD rfl rfl rfl rfl ?_ | refine RM.M6 rfl rfl rfl rfl ?_)
      | ((with_reducible show RM.wpOp _ _ (.fieldAddr _ _ _) _ _ _); first | refine RM.M7 rfl rfl rfl rfl ?_ | refine RM.M8 rfl rfl rfl rfl ?_)
      | ((with_reducible show RM.wpOp _ _ (.alloc _) _ _ _); refine RM.M9 rfl rfl ?_)
      | ((with_reducible show RM.wpOp _ _ (.extract _ _) _ _ _); refine RM.Nh rfl rfl ?_)
      | ((with_reducible show RM.wpOp _ _ (.indexAddr _ _ _) _ _ _); first | refine RM.MO rfl rfl rfl (by assumption) (by omega) rfl ?_ | refine RM.MO rfl rfl rfl rfl (by omega) rfl ?_ | refine RM.Ni rfl rfl rfl (by omega) ?_ | refine RM.Nj rfl rfl rfl (by omega) ?_ | refine RM.Nk rfl rfl rfl (by omega) ?_)
      | ((with_reducible show RM.wpOp _ _ (.makeSlice _ _ _) _ _ _); refine RM.MP rfl rfl rfl (by decide) rfl ?_)
      | ((with_reducible show RM.wpOp _ _ (.unOp _ _ _) _ _ _); refine RM.n3 rfl ?_)
      | ((with_reducible show RM.wpOp _ _ (.call _) _ _ _); first | refine RM.n4 rfl rfl ?_ | refine RM.n5 rfl rfl ?_))
    | ((with_reducible show kJ _ _ _ _ (.region _ _ true) _ _); first | refine RM.M1 rfl ?_ | refine RM.c5 (by kernel_rfl) rfl rfl ?_)
    | ((with_reducible show rD _ _ _ _ _ _ _ _ _ _ _ _); refine RM.o8 rfl ?_)
    | ((with_reducible show fM _ _ _ _ _ _ _ _ _ _); first | refine RM.p9 rfl ?_ | refine RM.n1 ?_)
    | ((with_reducible show dM _ _ _ _ _); first | refine tX rfl rfl rfl ?_ | refine wz rfl rfl rfl ?_ | refine zE rfl rfl ?_ | refine tX rfl rfl (by assumption) ?_ | refine wz rfl rfl (by assumption) ?_)
    | ((with_reducible show kJ _ _ _ _ (.cond _ _ _) _ _); first | refine RM.e2 rfl rfl ?_ | refine RM.e3 rfl rfl ?_ | refine RM.e2 rfl (by assumption) ?_ | refine RM.e3 rfl (by assumption) ?_)
    | ((with_reducible show sO _ _ _ _ _); refine RM.k1 rfl ?_)
    | ((with_reducible show jI _ _ _ _ _); first | refine RM.k2 rfl ?_ | refine RM.k3 rfl ?_ | refine RM.k2 (by assumption) ?_ | refine RM.k3 (by assumption) ?_ | refine RM.k4 rfl rfl ?_)
    | ((with_reducible show aV _ _ _ _ _ _ _ _ _); first | refine RM.b4 rfl rfl ?_ | refine RM.b5 rfl rfl ?_ | refine RM.b6 rfl rfl ?_ | refine RM.b7 rfl rfl ?_ | refine RM.b8 rfl rfl ?_ | refine RM.b9 rfl rfl ?_ | refine RM.b1 rfl rfl (by omega) ?_ | refine RM.b2 rfl rfl (by omega) ?_ | refine RM.b3 rfl rfl (by omega) ?_ | refine RM.r1 rfl rfl (by omega) ?_ | refine RM.r2 rfl rfl (by omega) ?_)
    | ((with_reducible show rB _ _ _ _ _); first | refine RM.l1 rfl ?_ | refine RM.l2 rfl ?_)
    | ((with_reducible show rA _ _ _); first | refine RM.l3 rfl ?_ | refine RM.l4 rfl ?_)
    | ((with_reducible show kB _ _ _ _); first | refine RM.d5 rfl ?_ | refine RM.d6 rfl ?_)
    | ((with_reducible show ya _ _ _ _); first | refine RM.Na rfl rfl rfl rfl ?_ | refine RM.Nb rfl rfl rfl ?_)
    | ((with_reducible show aF _ _ _ _ _ _); refine RM.fy rfl rfl rfl rfl rfl rfl rfl ?_)
    | ((with_reducible show mQ _ _ _ _ _); refine RM.Mq rfl rfl rfl ?_)
    | ((with_reducible show dL _ _ _ _ _ _ _); first | refine RM.Nf rfl rfl rfl rfl rfl rfl rfl ?_ | refine RM.Ng rfl rfl rfl rfl rfl rfl ?_)
    | ((with_reducible show au _ _ _ _ _ _ _ _); refine ak.call (by assumption) rfl rfl ?_)
    | ((with_reducible show oJ _ _ = true ∧ _); refine And.intro (by kernel_rfl) ?_)
    | ((with_reducible show ∃ _, Cy _ _ _ = some _ ∧ _); refine ⟨_, rfl, ?_⟩)
    | ((with_reducible show AV.deep _ = true ∧ _); refine ⟨rfl, rfl, ?_⟩)
    | ((with_reducible show ∃ _, ak _ _ _ _ _ _ ∧ _); refine ⟨_, by assumption, ?_⟩)
    exact hd.x) : g := k ⟨q⟩
theorem u2 {g h:Prop} (q:h) (k:Hd h→g:=by
 intro hd;first
 | refine ⟨_,rfl,?_⟩
 | refine ⟨_,_,rfl,by decide,?_⟩
 | refine ⟨rfl,rfl,rfl,?_⟩
 | refine ⟨rfl,rfl,?_⟩
 | refine ⟨_,_,rfl,_,rfl,?_⟩
 | refine And.intro (Nat.le_of_ble_eq_true rfl) ?_
 | refine And.intro (by omega) ?_
 | refine ⟨_,_,rfl,rfl,_,rfl,rfl,?_⟩
 | refine And.intro (by kernel_rfl) ?_
 | refine ⟨rfl,rfl,rfl,rfl,rfl,?_⟩
 | refine ⟨_,_,rfl,rfl,rfl,rfl,Nat.le_of_ble_eq_true rfl,?_⟩
 | refine ⟨_,_,rfl,Nat.le_of_ble_eq_true rfl,?_⟩
 exact hd.x):g:=k ⟨q⟩
end Go.RM
namespace Go.RM
open Go
section
variable {T : bF} {tab : List XE} {one : Bool} {fl base : Nat} {E E' E2 : Env} {hp hp' hp2 : List AB} {aC amb' : bp} {H H' H2 : Hp} {ρ ρ2 : Nat → Nat → Option Nat} {g g2 : aK} {O O2 : Nat → Prop}
structure wH (tr:Nat→cR) (x:nT) (t:Tc):Prop where
 ev:Ib tr x t
 MD:∀ k ∈ t.rd,∃ p ∈ x.acc,p.wr=false∧dZ tr x.i p k∧(p.own.isSome=true→Own (tr x.i).E.ρ (tr x.i).hp k)
 keep:x.call=true→(tr (x.i+1)).E=(tr x.i).E∧(tr (x.i+1)).hp=(tr x.i).hp
theorem wH.snoc {tr:Nat→cR} {i:Nat} {z:cR} {x:nT} {t:Tc} (h:wH tr x t) (hi:x.i < i):wH (snoc tr i z) x t :=
 ⟨h.ev.snoc hi,fun k hk=>by
  obtain ⟨p,a,b,c,d⟩:=h.MD k hk
  exact ⟨p,a,b,c.snoc (by omega),fun ho=>by rw [bZ (by omega)];exact d ho⟩,
  fun hc=>by rw [bZ (by omega),bZ (by omega)];exact h.keep hc⟩
theorem dZ.F9 {tr:Nat→cR} {i:Nat} {p:Acc} {k:Nat} (h:dZ tr i p k) (ho:p.own.isSome=true) (hw:p.wr=true):Own (tr i).E.ρ (tr i).hp k:=by
 obtain ⟨_,_,h3⟩:=h
 cases hp:p.own with
 | none=>rw [hp] at ho;cases ho
 | some j =>rw [hp] at h3;obtain ⟨_,_,h4⟩:=h3;exact h4 hw
def Eu (o:Op):Bool :=
 match o with
 | .lookup ..=>false
 | .call ⟨.builtin .append,_,_⟩=>false
 | .call ⟨.builtin .len,_,_⟩=>false
 | _=>true
theorem Iv {tr:Nat→cR} {i:Nat} (ht:ng base aC tr i) {bt:Nat→Nat} {fr:Nat→AV} {tm:Tr Value} (hb:ir tr i bt fr tm) {own:Bool} {o:Op} (hro:Eu o=true) {l:List Acc} (h:Cy o fr (wZ bt)=some l)
  {K:AV→List AB→Prop} (hw:wpOp T own o fr (tr i).hp K) {r w:List Nat} (hto:jY o (aU tm)=some (r,w)):∀ k ∈ r,∃ p ∈ l,p.wr=false∧dZ tr i p k∧(p.own.isSome=true→Own (tr i).E.ρ (tr i).hp k):=by
 intro k hk;obtain ⟨r',w',e1,e2,_⟩:=uO ht hb h hw;rw [hto] at e1;simp only [qq9,Prod.mk.injEq] at e1;obtain ⟨rfl,rfl⟩:=e1;by_cases hl:∃ t a,o=.load t a
 ·obtain ⟨t,a,rfl⟩:=hl;have now:(tr i).ar (bg fr a) (aU tm a):=(ht.ext _ i (hb.eval a).1 (qq6 _)).ar (ht.rel _ (hb.eval a).1).wf (hb.eval a).2;obtain ⟨p,p1,p2,p3⟩:=e2 k hk;refine ⟨p,p1,p2,p3,fun ho=>?_⟩;have hw:eJ T t (bg fr a) (tr i).hp K:=hw;have h:rF (bg fr a) (wZ bt a) false=some l:=h;have hk:k ∈ cB (aU tm a):=by simp only [jY,qq9,Prod.mk.injEq] at hto;rw [hto.1];exact hk
  cases hv:bg fr a with
  | ptr j aJ o =>
   rw [hv] at now hw;obtain ⟨k',q1,q2⟩:=now.dg;rw [q2] at hk;obtain rfl:k=k':=by simpa [cB] using hk
   unfold eJ at hw;split at hw
   ·rename_i e _;cases e
   ·rename_i e _;cases e;obtain ⟨cs,es,h1,_⟩:=hw;exact ⟨j,_,aJ,h1,rfl,q1⟩
   ·exact hw.elim
  | pt =>rw [hv] at h;simp only [rF,qq9] at h;subst h;obtain rfl:=List.mem_singleton.1 p1;cases ho
  | _ =>
   rw [hv] at hw;unfold eJ at hw;split at hw
   ·rename_i e _;cases e
   ·rename_i e _;cases e
   ·exact hw.elim
 ·exfalso;revert hto hk;unfold jY;split
  ·rename_i t a;exact absurd ⟨t,a,rfl⟩ hl
  ·intro h hk;cases h;cases hk
  ·cases hro
  ·intro h hk;cases h;cases hk
  ·intro h hk;cases h;cases hk
  ·intro h hk;cases h;cases hk
  ·intro h _;cases h
  ·intro h _;cases h
  ·intro h _;cases h
  ·cases hro
  ·cases hro
  ·intro h _;cases h
  ·intro h _;cases h
  ·intro h hk;cases h;cases hk
variable {mu : Tmp → Bool} {fr : Nat → AV} {KS : bO → Prop} {rd : Bool} {dst : Option Tmp}
end
end Go.RM
namespace Go.RM
open Go
section
variable {T : bF} {tab : List XE} {one : Bool} {fl base : Nat} {E E' E2 : Env} {hp hp' hp2 : List AB} {aC amb' : bp} {H H' H2 : Hp} {ρ ρ2 : Nat → Nat → Option Nat} {g g2 : aK} {O O2 : Nat → Prop}
def wI (i:Nat) (p q:Acc):Bool :=
 (!p.wr && !q.wr) || (match p.own,q.own with
  | some j,some j'=>!Nat.beq j j'
  | some _,none=>Nat.ble q.b i
  | none,some _=>!p.wr
  | none,none=>false)
theorem Bv {tr:Nat→cR} {n:Nat} (ht:ng base aC tr n) {i l:Nat} (hil:i < l) (hl:l≤n) {p q:Acc} {k:Nat} (hp:dZ tr i p k) (hpo:p.own.isSome=true→Own (tr i).E.ρ (tr i).hp k) (hq:dZ tr l q k) (hw:p.wr=true∨q.wr=true) (hf:wI i p q=true):False:=by
 by_cases h:rG i p q=true
 ·exact wq ht hil hl hp hq hw h
 ·obtain ⟨p1,p2,p3⟩:=hp;obtain ⟨q1,q2,q3⟩:=hq;have back:∀ {b c:Nat},b≤c→c≤n→Own (tr c).E.ρ (tr c).hp k→k < (tr b).H.n→Own (tr b).E.ρ (tr b).hp k:=fun hbc hcn ho hk=>((ht.ext _ _ hbc hcn).own k ho).elim id (fun h=>by omega);unfold wI at hf;unfold rG at h;rw [Bool.or_eq_true] at hf;rw [Bool.or_eq_true,not_or] at h
  rcases hf with hf|hf
  ·exact h.1 hf
  ·cases hpo':p.own with
   | some j =>
    rw [hpo'] at hf h hpo
    cases hqo:q.own with
    | some j'=>rw [hqo] at hf h;exact h.2 hf
    | none =>rw [hqo] at hf q3;have hb:=Nat.le_of_ble_eq_true hf;exact q3 (.inl (back hb (by omega) (hpo rfl) q2))
   | none =>
    rw [hpo'] at hf h
    cases hqo:q.own with
    | some j'=>rw [hqo] at hf h;exact h.2 hf
    | none=>rw [hqo] at hf;cases hf
theorem Ga {tr:Nat→cR} {i:Nat} (ht:ng base aC tr i) {bt:Nat→Nat} {fr:Nat→AV} {tm:Tr Value} (hb:ir tr i bt fr tm) {own:Bool} {o:Op} {l:List Acc} (hro:(Eu o || l.all fun p=>p.wr || p.own.isNone)=true) (h:Cy o fr (wZ bt)=some l)
  {K:AV→List AB→Prop} (hw:wpOp T own o fr (tr i).hp K) {r w:List Nat} (hto:jY o (aU tm)=some (r,w)):∀ k ∈ r,∃ p ∈ l,p.wr=false∧dZ tr i p k∧(p.own.isSome=true→Own (tr i).E.ρ (tr i).hp k):=by
 rw [Bool.or_eq_true] at hro
 rcases hro with hro|hro
 ·exact Iv ht hb hro h hw hto
 ·intro k hk;obtain ⟨r',w',e1,e2,_⟩:=uO ht hb h hw;rw [hto] at e1;simp only [qq9,Prod.mk.injEq] at e1;obtain ⟨rfl,rfl⟩:=e1;obtain ⟨p,p1,p2,p3⟩:=e2 k hk;refine ⟨p,p1,p2,p3,fun ho=>?_⟩;have:=List.all_eq_true.1 hro p p1;rw [p2,Bool.false_or] at this
  cases hpo:p.own with
  | none=>rw [hpo] at ho;cases ho
  | some j=>rw [hpo] at this;cases this
def zI (x y:nT):Bool :=
 x.acc.all (fun p=>y.acc.all (wI x.i p)) && ((!x.al && !x.call) || y.acc.all (fun q=>Nat.ble q.b x.i || (x.call && q.own.isSome))) && (!x.call || y.acc.all (fun q=>!q.wr)) && (!y.call || x.acc.all (fun p=>!p.wr))
theorem CI {tr:Nat→cR} {n:Nat} (ht:ng base aC tr n) {x y:nT} {s t:Tc} (hs:wH tr x s) (hy:wH tr y t) (hxy:x.i < y.i) (hn:y.i≤n) (hf:zI x y=true):conflict s t=false:=by
 cases hc:conflict s t with
 | false=>rfl
 | true =>
  exfalso;unfold zI at hf;simp only [qq7,List.all_eq_true,Bool.or_eq_true,Bool.not_eq_true'] at hf;obtain ⟨⟨⟨f1,f2⟩,f3⟩,f4⟩:=hf;have two:∀ {k:Nat} {p q:Acc},p ∈ x.acc→q ∈ y.acc→dZ tr x.i p k→dZ tr y.i q k→(p.own.isSome=true→Own (tr x.i).E.ρ (tr x.i).hp k)→(p.wr=true∨q.wr=true)→False:=fun hp hq ap aq ho hw=>Bv ht hxy hn ap ho aq hw (f1 _ hp _ hq)
  have Ka:∀ {k:Nat} {q:Acc},q ∈ y.acc→dZ tr y.i q k→(q.own.isSome=true→Own (tr y.i).E.ρ (tr y.i).hp k)→s.a≤k→k < s.b→False:=by
   intro k q hq aq lq h1 h2
   rcases f2 with h|h
   ·have:=hs.ev.al h.1 h.2;omega
   ·rcases h q hq with h|⟨hcl,hos⟩
    ·have:=Nat.le_of_ble_eq_true h;have:=(ht.ext q.b x.i this (by omega)).n;have:=aq.2.1;rw [hs.ev.a] at h1;omega
    ·have hk:=hs.keep hcl;rw [hs.ev.b] at h2;rw [hs.ev.a] at h1
     rcases (ht.ext (x.i+1) y.i (by omega) hn).own k (lq hos) with h|h
     ·rw [hk.1,hk.2] at h;have:=(ht.rel x.i (by omega)).kZ h;omega
     ·omega
  have out:∀ {k:Nat} {p:Acc},dZ tr x.i p k→t.a≤k→False:=by intro k p ap h1;have:=(ht.ext p.b x.i ap.1 (by omega)).n;have:=(ht.ext x.i y.i (by omega) hn).n;have:=ap.2.1;rw [hy.ev.a] at h1;omega
  unfold conflict at hc;simp only [Bool.or_eq_true,qq7,Bool.not_eq_true'] at hc
  rcases hc with (((((((hc|hc)|hc)|hc)|hc)|hc)|hc)|hc)|hc
  ·obtain ⟨k,k1,k2⟩:=fV.1 hc;obtain ⟨p,p1,p2,p3⟩:=hs.ev.wr k k1;obtain ⟨q,q1,q2,q3⟩:=hy.ev.rd k k2;exact two p1 q1 p3 q3 (fun ho=>p3.F9 ho p2) (.inl p2)
  ·obtain ⟨k,k1,k2⟩:=fV.1 hc;obtain ⟨p,p1,p2,p3⟩:=hs.ev.wr k k1;obtain ⟨q,q1,q2,q3⟩:=hy.ev.wr k k2;exact two p1 q1 p3 q3 (fun ho=>p3.F9 ho p2) (.inl p2)
  ·obtain ⟨k,k1,k2⟩:=fV.1 hc;obtain ⟨q,q1,q2,q3⟩:=hy.ev.wr k k1;obtain ⟨p,p1,p2,p3,p4⟩:=hs.MD k k2;exact two p1 q1 p3 q3 p4 (.inr q2)
  ·rw [hs.ev.call] at hc
   cases hw:t.wr with
   | nil=>rw [hw] at hc;simp at hc
   | cons k l =>
    obtain ⟨q,q1,q2,q3⟩:=hy.ev.wr k (by rw [hw];simp)
    rcases f3 with h|h
    ·rw [hc.1] at h;cases h
    ·rw [h q q1] at q2;cases q2
  ·rw [hy.ev.call] at hc
   cases hw:s.wr with
   | nil=>rw [hw] at hc;simp at hc
   | cons k l =>
    obtain ⟨p,p1,p2,p3⟩:=hs.ev.wr k (by rw [hw];simp)
    rcases f4 with h|h
    ·rw [hc.1] at h;cases h
    ·rw [h p p1] at p2;cases p2
  ·obtain ⟨k,k1,k2,k3⟩:=within_iff.1 hc;obtain ⟨q,q1,q2,q3,q4⟩:=hy.MD k k1;exact Ka q1 q3 q4 k2 k3
  ·obtain ⟨k,k1,k2,k3⟩:=within_iff.1 hc;obtain ⟨q,q1,q2,q3⟩:=hy.ev.wr k k1;exact Ka q1 q3 (fun ho=>q3.F9 ho q2) k2 k3
  ·obtain ⟨k,k1,k2,k3⟩:=within_iff.1 hc;obtain ⟨p,p1,p2,p3⟩:=hs.ev.rd k k1;exact out p3 k2
  ·obtain ⟨k,k1,k2,k3⟩:=within_iff.1 hc;obtain ⟨p,p1,p2,p3⟩:=hs.ev.wr k k1;exact out p3 k2
variable {mu : Tmp → Bool} {fr : Nat → AV} {KS : bO → Prop} {rd : Bool} {dst : Option Tmp}
end
end Go.RM
namespace Go.RM
open Go
section
variable {T : bF} {tab : List XE} {one : Bool} {fl base : Nat} {E E' E2 : Env} {hp hp' hp2 : List AB} {aC amb' : bp} {H H' H2 : Hp} {ρ ρ2 : Nat → Nat → Option Nat} {g g2 : aK} {O O2 : Nat → Prop} {r : Rec}
def wJ (o:Oper):Bool :=
 match o.guard,o.op with
 | none,.move _=>true
 | none,.assign _=>true
 | none,.extract _ _=>true
 | none,.slice _ _ _ _ _=>true
 | _,_=>false
theorem Bw {o:Oper} (h:wJ o=true):o.guard=none∧cX o.op=.plain∧(∀ ρ,jY o.op ρ=some ([],[]))∧news? o.op=false:=by unfold wJ at h;split at h <;> first|(rename_i h1 h2;rw [h2];exact ⟨h1,rfl,fun _=>rfl,rfl⟩)|cases h
theorem Ew {o:Oper} (h:wJ o=true) {n:Nat} {ρ:Operand→Value} {g:aK} {v:Value} {e:cq} (ho:i9 T n o.op ρ g=some (v,e)):e=.none:=by
 obtain ⟨_,_,h3,h4⟩:=Bw h;have h1:=(mB ho).2 (nD (h3 ρ)).1;rw [(nD (h3 ρ)).2] at h1;have h2:=wm ho h4
 cases e with
 | none=>rfl
 | new b=>cases h2
 | put k b=>cases h1
 | app k b=>cases h1
theorem yw (a:Nat) (l:List Nat):within a a l=false:=by unfold within;rw [List.any_eq_false];intro k _ hk;simp only [qq7] at hk;have h1:=Nat.le_of_ble_eq_true hk.1;have h2:Nat.ble (k+1) a=true:=hk.2;have h2:=Nat.le_of_ble_eq_true h2;omega
theorem CJ (l:List Nat):meets l []=false:=by unfold meets;rw [List.any_eq_false];intro k _ h;cases h
theorem ql (a b:Nat):within a b []=false:=rfl
end
end Go.RM
namespace Go.RM
open Go
section
variable {T : bF} {tab : List XE} {one : Bool} {fl base : Nat} {E E' E2 : Env} {hp hp' hp2 : List AB} {aC amb' : bp} {H H' H2 : Hp} {ρ ρ2 : Nat → Nat → Option Nat} {g g2 : aK} {O O2 : Nat → Prop} {r : Rec}
end
end Go.RM
namespace Go.RM
open Go
section
variable {T : bF} {tab : List XE} {one : Bool} {fl base : Nat} {E E' E2 : Env} {hp hp' hp2 : List AB} {aC amb' : bp} {H H' H2 : Hp} {ρ ρ2 : Nat → Nat → Option Nat} {g g2 : aK} {O O2 : Nat → Prop}
theorem Bx {mu:Tmp→Bool} {dst:Option Tmp} {op:Op} {i:Nat} {bt:Nat→Nat} {fr:Nat→AV} {K:(Nat→AV)→List AB→(Nat→Nat)→nT→Prop} {tr:Nat→cR} {s:St} (h:fM T tab mu dst op i bt fr hp fun fr' hp' bt' x=>(Eu op || x.acc.all fun p=>p.wr || p.own.isNone)=true∧K fr' hp' bt' x)
  (ht:ng base aC tr i) (h1:(tr i).hp=hp) (h2:(tr i).H=s.hp) (hb:ir tr i bt fr s.fr) :
  ∃ (z:cR) (v:AV) (u:Value) (b:Nat) (x:nT) (t:Tc) (m0:Nat),aY z.E base z.hp aC z.H∧Ext base (tr i).E (tr i).hp (tr i).H z.E z.hp z.H∧b≤i+1∧(snoc tr i z b).ar v u∧x.i=i∧wH (snoc tr i z) x t ∧
   (∀ m,m0≤m→bH T (RX T tab m) op i s=some (u,z.H,t))∧K (uC fr dst v) z.hp (lJ dst bt b) x:=by
 have hrel:=ht.rel i (qq6 _);have hfr:lY (tr i).E.ρ (tr i).H.get ((tr i).E.O (tr i).hp) fr s.fr:=fun t=>(ht.ext _ i (hb t).1 (qq6 _)).ar (ht.rel _ (hb t).1).wf (hb t).2
 have go:∀ (z:cR) (v:AV) (u:Value) (b:Nat) (x:nT) (t:Tc) (m0:Nat),aY z.E base z.hp aC z.H→Ext base (tr i).E (tr i).hp (tr i).H z.E z.hp z.H→b≤i+1→(snoc tr i z b).ar v u→x.i=i→wH (snoc tr i z) x t →
   (∀ m,m0≤m→bH T (RX T tab m) op i s=some (u,z.H,t))→K (uC fr dst v) z.hp (lJ dst bt b) x →
   ∃ (z:cR) (v:AV) (u:Value) (b:Nat) (x:nT) (t:Tc) (m0:Nat),aY z.E base z.hp aC z.H∧Ext base (tr i).E (tr i).hp (tr i).H z.E z.hp z.H∧b≤i+1∧(snoc tr i z b).ar v u∧x.i=i∧wH (snoc tr i z) x t ∧
    (∀ m,m0≤m→bH T (RX T tab m) op i s=some (u,z.H,t))∧K (uC fr dst v) z.hp (lJ dst bt b) x :=
  fun z v u b x t m0 q1 q2 q3 q4 q5 q6 q7 q8=>⟨z,v,u,b,x,t,m0,q1,q2,q3,q4,q5,q6,q7,q8⟩
 unfold fM at h;split at h
 ·rename_i f args hk;have h:=fY (cJ h);obtain ⟨hF,vs,v,hhand,⟨hvd,hpure⟩,h⟩:=h;have hF':=(zB hfr f).deep hF;have hget:({s.hp with lo:=s.hp.n}:Hp).get=(tr i).H.get:=by rw [h2];rfl
  obtain ⟨goal,hgo,m0,L,q1,q2,q3⟩:∃ goal,cC (jX T.P s.fr f) (args.map (aU s.fr))=some goal ∧
    ∃ m L,RX T tab m (jy {s.hp with lo:=s.hp.n} goal)=some L∧(true=true→∃ r,L=[r])∧∀ r ∈ L,∃ w H',r=.ret w H' ∧
     ({s.hp with lo:=s.hp.n}:Hp).n≤H'.n∧Wf H'∧(∀ k,k < ({s.hp with lo:=s.hp.n}:Hp).n→H'.get k=({s.hp with lo:=s.hp.n}:Hp).get k)∧min ({s.hp with lo:=s.hp.n}:Hp).lo ({s.hp with lo:=s.hp.n}:Hp).n≤H'.lo∧DR H'.get ((tr i).E.O (tr i).hp) v w:=by
   rcases hhand with ⟨rfl,hA⟩|⟨hz,hfree⟩
   ·have hA':=(fJ hfr args).deep hA
    exact hpure ((tr i).E.O (tr i).hp) {s.hp with lo:=s.hp.n} _ _ (by rw [h2] at hrel;exact hrel.wf) (fun k hk=>by
     have:k < (tr i).H.n:=hk.elim (fun h=>hrel.kZ h) (hrel.xn k)
     rw [h2] at this;exact this) (by rw [hget];exact hF') (by rw [hget];exact hA')
   ·obtain ⟨goal,hgo,m0,L,q1,q2,q3⟩:=hpure (tr i).E.X {s.hp with lo:=s.hp.n} _ _ (by rw [h2] at hrel;exact hrel.wf) (fun k hk=>by
     have:k < (tr i).H.n:=hrel.xn k hk
     rw [h2] at this;exact this) (by rw [hget];exact hF'.mono fun k b hk ho=>⟨hk,fun hx=>ho (.inr hx)⟩) (by
      rw [hget];rw [←h1] at hz
      exact hz.dr hrel (fun _ h=>h) (fJ hfr args))
    refine ⟨goal,hgo,m0,L,q1,q2,fun r hm=>?_⟩;obtain ⟨w,H',e1,e2,e3,e4,e5,e6⟩:=q3 r hm;exact ⟨w,H',e1,e2,e3,e4,e5,hfree.2 _ _ _ _ e6⟩
  obtain ⟨r,hr⟩:=q2 rfl;subst hr;obtain ⟨w,H',rfl,hn,hwf,hsame,hlo,hdr⟩:=q3 r (by simp)
  obtain ⟨g1,g2⟩:=hrel.grow (H':={H' with lo:=s.hp.lo}) (by rw [h2];exact hn) hwf (fun k hk=>by
   have:=hsame k (by rw [←h2];exact hk)
   rw [h2];exact this) (by rw [h2];exact Nat.min_le_left _ _)
  refine go ⟨(tr i).E,hp,{H' with lo:=s.hp.lo}⟩ v w (i+1) ⟨i,[],true,true⟩ ⟨i,[],[],true,s.hp.n,H'.n⟩ m0 (by rw [←h1];exact g1) (by rw [←h1];exact g2) (qq6 _) ?_ rfl ?_ (fun m hm=>?_) (fZ h).2
  ·rw [dN (Nat.lt_succ_self _)];refine .d ?_;show DR H'.get ((tr i).E.O hp) v w;rw [←h1];exact hdr
  ·refine ⟨⟨rfl,by rw [bZ (qq6 _),h2],by rw [dN (Nat.lt_succ_self _)],fun h=>Bool.noConfusion h,rfl,fun k hk=>(by cases hk),fun k hk=>(by cases hk)⟩,fun k hk=>(by cases hk),fun _=>?_⟩;rw [dN (Nat.lt_succ_self _),bZ (qq6 _)];exact ⟨rfl,h1.symm⟩
  ·unfold bH;simp only [hk,hgo,gk hm _ _ q1]
   have:Nat.ble s.hp.n H'.lo=true:=Nat.ble_eq_true_of_le (by
    have:min s.hp.n s.hp.n≤H'.lo:=hlo
    omega)
   rw [sF this]
 ·exact h.elim
 ·rename_i hk;obtain ⟨a,hacc,hw⟩:=h;have hw':=hw;rw [←h1] at hw';obtain ⟨r,w,ht1,ht2,ht3⟩:=uO ht hb hacc hw'
  have evr:∀ (z:cR) (u:Value) (e:cq),(Eu op || a.all fun p=>p.wr || p.own.isNone)=true→i9 T s.hp.n op (aU s.fr) s.hp.get=some (u,e)→z.H=s.hp.app e→wH (snoc tr i z) ⟨i,a,news? op,false⟩ ⟨i,r,w,false,s.hp.n,(s.hp.app e).n⟩:=by
   intro z u e hro hop hz;refine ⟨⟨rfl,by rw [bZ (qq6 _),h2],by rw [dN (Nat.lt_succ_self _),hz],fun hal _=>(yg (wm hop hal)).symm,rfl,fun k hk=>?_,fun k hk=>?_⟩,fun k hk=>?_,fun h=>Bool.noConfusion h⟩
   ·obtain ⟨p,p1,p2,p3⟩:=ht2 k hk;exact ⟨p,p1,p2,p3.snoc (qq6 _)⟩
   ·obtain ⟨p,p1,p2,p3⟩:=ht3 k hk;exact ⟨p,p1,p2,p3.snoc (qq6 _)⟩
   ·obtain ⟨p,p1,p2,p3,p4⟩:=Ga ht hb hro hacc hw' ht1 k hk;exact ⟨p,p1,p2,p3.snoc (qq6 _),fun ho=>by rw [bZ (qq6 _)];exact p4 ho⟩
  have drw:∀ (u:Value) (e:cq) (m:Nat),i9 T s.hp.n op (aU s.fr) s.hp.get=some (u,e)→bH T (RX T tab m) op i s=some (u,s.hp.app e,⟨i,r,w,false,s.hp.n,(s.hp.app e).n⟩):=by intro u e m hop;unfold bH;simp only [hk,ht1,hop]
  by_cases hm:∃ x,Bn op fr=some [x]
  ·obtain ⟨x,hm⟩:=hm;have hbirth:pR op fr bt i=wZ bt x:=by unfold pR;rw [hm]
   have hbx:=hb.eval x;have eb:=ht.ext _ i hbx.1 (qq6 _);obtain ⟨u,v,r1,r2,r3,r4⟩:=Bo (ρ2:=(tr (wZ bt x)).E.ρ) (g2:=(tr (wZ bt x)).H.get) (O2:=(tr (wZ bt x)).E.O (tr (wZ bt x)).hp) (n:=s.hp.n) hfr hm (fun y hy=>by obtain rfl:=List.mem_singleton.1 hy;exact hbx.2) (fun k b hk ho=>(eb.keep (ht.rel _ hbx.1).wf k b hk ho).1) hw;rw [h2] at r1;have hz:(tr i).H=s.hp.app .none:=h2;rw [hbirth] at r2;refine go (tr i) v u (wZ bt x) ⟨i,a,news? op,false⟩ ⟨i,r,w,false,s.hp.n,(s.hp.app .none).n⟩ 0 hrel .refl (by omega) (by rw [bZ hbx.1];exact r4) rfl (evr _ u .none (fZ (cJ r2)).1 r1 hz) (fun m _=>by rw [hz];exact drw u .none m r1) (by rw [h1];exact (fZ (cJ r2)).2)
  ·have hbirth:pR op fr bt i=i+1:=by
    unfold pR;split
    ·rename_i x hx;exact absurd ⟨x,hx⟩ hm
    ·rfl
   obtain ⟨u,e,E',v,hp',r1,r2,r3,r4,r5⟩:=qj hrel hfr hw';rw [h2] at r1 r3 r4 r5;rw [hbirth] at r2;refine go ⟨E',hp',s.hp.app e⟩ v u (i+1) ⟨i,a,news? op,false⟩ ⟨i,r,w,false,s.hp.n,(s.hp.app e).n⟩ 0 r3 (by rw [h2];exact r4) (qq6 _) (by rw [dN (Nat.lt_succ_self _)];exact r5) rfl (evr _ u e (fZ (cJ r2)).1 r1 rfl) (fun m _=>drw u e m r1) (fZ (cJ r2)).2
inductive qq where
 | pl (x:nT)
 | quiet (i:Nat)
 | span (i i0 i1:Nat)
def qq.i:qq→Nat
 | .pl x=>x.i
 | .quiet i=>i
 | .span i _ _=>i
inductive wK (tr:Nat→cR):qq→Tc→Prop
 | pl {x:nT} {t:Tc}:wH tr x t→wK tr (.pl x) t
 | quiet {i:Nat} {t:Tc}:t.idx=i→t.rd=[]→t.wr=[]→t.call=false→t.a=t.b→wK tr (.quiet i) t
 | span {i i0 i1:Nat} {t:Tc}:t.idx=i→t.rd=[]→t.call=true→i0≤i→(∀ k ∈ t.wr,(tr i0).H.n≤k)→(tr i0).H.n≤t.a→t.b≤(tr i1).H.n→wK tr (.span i i0 i1) t
theorem wK.idx {tr:Nat→cR} {x:qq} {t:Tc} (h:wK tr x t):t.idx=x.i:=by
 cases h with
 | pl h=>exact h.ev.idx
 | quiet h=>exact h
 | span h=>exact h
def qq.top:qq→Nat
 | .pl x=>x.i+1
 | .quiet i=>i+1
 | .span i _ i1=>max (i+1) i1
theorem wK.snoc {tr:Nat→cR} {i:Nat} {z:cR} {x:qq} {t:Tc} (h:wK tr x t) (hi:x.top≤i):wK (snoc tr i z) x t:=by
 cases h with
 | pl h=>exact .pl (h.snoc (by have:_+1≤i:=hi;omega))
 | quiet a b c d e=>exact .quiet a b c d e
 | span a b c d f g k =>
  rename_i i' i0 i1;have hi:max (i'+1) i1≤i:=hi;refine .span a b c d ?_ ?_ ?_
  ·rw [bZ (by omega)];exact f
  ·rw [bZ (by omega)];exact g
  ·rw [bZ (by omega)];exact k
def Bz:qq→qq→Bool
 | .quiet _,_=>true
 | _,.quiet _=>true
 | .pl x,.pl y=>zI x y
 | .pl x,.span _ i0 _=>x.acc.all (fun p=>Nat.ble p.b i0 && !p.wr) && !x.call && !x.al
 | .span _ _ _,.pl y=>y.acc.isEmpty && !y.call && !y.al
 | .span _ _ _,.span _ _ _=>false
theorem iU {s t:Tc} (h:t.rd=[]∧t.wr=[]∧t.call=false∧t.a=t.b):conflict s t=false∧conflict t s=false:=by obtain ⟨h1,h2,h3,h4⟩:=h;have mn:∀ l,meets [] l=false:=fun _=>rfl;unfold conflict;rw [h1,h2,h3,h4];constructor <;> simp [mn,CJ,ql,yw]
theorem Gb {tr:Nat→cR} {n:Nat} (ht:ng base aC tr n) {x y:qq} {s t:Tc} (hs:wK tr x s) (hy:wK tr y t) (hxy:x.i < y.i) (hn:y.top≤n) (hf:Bz x y=true):conflict s t=false:=by
 have emp:∀ {y:nT} {t:Tc},wH tr y t→y.acc.isEmpty=true→y.call=false→y.al=false→t.rd=[]∧t.wr=[]∧t.call=false∧t.a=t.b:=by
  intro y t h h1 h2 h3;have h1:y.acc=[]:=List.isEmpty_iff.1 h1;refine ⟨List.eq_nil_iff_forall_not_mem.2 fun k hk=>?_,List.eq_nil_iff_forall_not_mem.2 fun k hk=>?_,by rw [h.ev.call];exact h2,h.ev.al h3 h2⟩
  ·obtain ⟨p,hp,_⟩:=h.ev.rd k hk;rw [h1] at hp;cases hp
  ·obtain ⟨p,hp,_⟩:=h.ev.wr k hk;rw [h1] at hp;cases hp
 cases hs with
 | quiet a b c d e=>exact (iU ⟨b,c,d,e⟩).2
 | pl hx =>
  cases hy with
  | quiet a b c d e=>exact (iU ⟨b,c,d,e⟩).1
  | pl hy=>exact CI ht hx hy hxy (by have:_+1≤n:=hn;omega) hf
  | span a b c d f g k =>
   rename_i x i i0 i1;have hxy:x.i < i:=hxy;have hn:max (i+1) i1≤n:=hn;simp only [Bz,qq7,List.all_eq_true,Bool.not_eq_true'] at hf;obtain ⟨⟨f1,f2⟩,f3⟩:=hf;have hw:s.wr=[]:=List.eq_nil_iff_forall_not_mem.2 fun q hq=>by obtain ⟨p,hp,h1,_⟩:=hx.ev.wr q hq;have:=(f1 p hp).2;rw [h1] at this;cases this
   have hr:∀ q ∈ s.rd,q < (tr i0).H.n:=fun q hq=>by obtain ⟨p,hp,_,h2⟩:=hx.ev.rd q hq;have h3:=Nat.le_of_ble_eq_true (f1 p hp).1;have:=(ht.ext p.b i0 h3 (by omega)).n;have:=h2.2.1;omega
   have hc:s.call=false:=by rw [hx.ev.call];exact f2
   have hab:=hx.ev.al f3 f2
   cases hcf:conflict s t with
   | false=>rfl
   | true =>
    exfalso;unfold conflict at hcf;rw [hw,hc,b,hab] at hcf;have mn:∀ l,meets [] l=false:=fun _=>rfl;simp only [mn,ql,yw,Bool.false_and,Bool.false_or,Bool.or_false,List.isEmpty_nil,Bool.not_true,Bool.and_false,Bool.or_eq_true] at hcf
    rcases hcf with hcf|hcf
    ·obtain ⟨q,q1,q2⟩:=fV.1 hcf;have:=f q q1;have:=hr q q2;omega
    ·obtain ⟨q,q1,q2,_⟩:=within_iff.1 hcf;have:=hr q q1;omega
 | span a b c d f g k =>
  cases hy with
  | quiet a b c d e=>exact (iU ⟨b,c,d,e⟩).1
  | pl hy =>simp only [Bz,qq7,Bool.not_eq_true'] at hf;exact (iU (emp hy hf.1.1 hf.1.2 hf.2)).1
  | span=>cases hf
def Iw (b:List Nat):List qq→Bool
 | []=>true
 | y :: l=>l.all (fun x=>(b.getD y.i 0).testBit x.i || Bz x y) && Iw b l
inductive nX (tr:Nat→cR) (n:Nat):Nat→List qq→List Ev→Prop
 | nil:nX tr n 0 [] []
 | cons {i:Nat} {x:qq} {ev:Ev} {l:List qq} {m:List Ev}:nX tr n i l m→x.i=i→x.top≤n→wK tr x ev.t→nX tr n (i+1) (x :: l) (ev :: m)
theorem nX.snoc {tr:Nat→cR} {n n':Nat} {z:cR} {i:Nat} {l:List qq} {m:List Ev} (h:nX tr n i l m) (hn:n≤n'):nX (snoc tr n z) n' i l m:=by
 induction h with
 | nil=>exact .nil
 | cons _ hi ht he ih=>exact .cons ih hi (by omega) (he.snoc ht)
theorem nX.pairs {tr:Nat→cR} {n:Nat} (ht:ng base aC tr n) {b:List Nat} {i:Nat} {l:List qq} {m:List Ev} (h:nX tr n i l m):Iw b l=true→dc T b m=true:=by
 induction h with
 | nil=>intro _;rfl
 | cons hl hi htop he ih =>
  rename_i i y ev l m;intro hc;simp only [Iw,qq7,List.all_eq_true] at hc;simp only [dc,qq7,List.all_eq_true];refine ⟨?_,ih hc.2⟩;have hc1:=hc.1;clear ih hc
  have key:∀ {j:Nat} {l:List qq} {m:List Ev},nX tr n j l m→(∀ x ∈ l,(b.getD y.i 0).testBit x.i=true∨Bz x y=true)→j≤y.i→∀ s ∈ m,(!conflict s.t ev.t || (b.getD ev.t.idx 0).testBit s.t.idx || spare T s ev)=true:=by
   intro j l m h
   induction h with
   | nil=>intro _ _ s hs;cases hs
   | cons hl' hi' htop' he' ih' =>
    rename_i x ev' _ _;intro hx hj s hs
    rcases List.mem_cons.1 hs with rfl|hs
    ·rcases hx x (by simp) with h|h
     ·rw [he.idx,he'.idx,h];simp
     ·rw [Gb ht he' he (by omega) htop h];simp
    ·exact ih' (fun z hz=>hx z (List.mem_cons_of_mem _ hz)) (by omega) s hs
  exact key hl (fun x hx=>by simpa using hc1 x hx) (by omega)
def oN (T:bF) (tab:List XE) (mu:Tmp→Bool) (ops:Array Oper) (aC:bp) (rd:Bool) (fl:Nat):List Oper→Nat→(Nat→Nat)→List qq→(Nat→AV)→List AB→(Nat→(Nat→Nat)→List qq→(Nat→AV)→List AB→Prop)→Prop
 | [],i,bt,acc,fr,hp,K=>K i bt acc fr hp
 | ⟨dst,op,_,_,_,gd⟩ :: l,i,bt,acc,fr,hp,K=>gd=none ∧
  fM T tab mu dst op i bt fr hp fun fr' hp' bt' x=>(Eu op || x.acc.all fun p=>p.wr || p.own.isNone)=true∧oN T tab mu ops aC rd fl l (i+1) bt' (.pl x :: acc) fr' hp' K
structure Gc (T:bF) (base:Nat) (aC:bp) (tr:Nat→cR) (i:Nat) (bt:Nat→Nat) (acc:List qq) (fr:Nat→AV) (hp:List AB) (s:St) (evs:List Ev):Prop where
 ht:ng base aC tr i
 h1:(tr i).hp=hp
 h2:(tr i).H=s.hp
 hb:ir tr i bt fr s.fr
 he:nX tr i i acc evs
theorem pT {mu:Tmp→Bool} {ops:Array Oper} {rd:Bool} {fl:Nat}:∀ {l:List Oper} {i:Nat} {bt:Nat→Nat} {acc:List qq} {evs:List Ev} {fr:Nat→AV} {hp:List AB} {K:Nat→(Nat→Nat)→List qq→(Nat→AV)→List AB→Prop} {tr:Nat→cR} {s:St},
  oN T tab mu ops aC rd fl l i bt acc fr hp K→Gc T base aC tr i bt acc fr hp s evs →
  ∃ (m0 i':Nat) (bt':Nat→Nat) (acc':List qq) (fr':Nat→AV) (hp':List AB) (tr':Nat→cR) (s':St) (evs':List Ev),K i' bt' acc' fr' hp'∧Gc T base aC tr' i' bt' acc' fr' hp' s' evs'∧tr' 0=tr 0∧s'.rd=s.rd ∧
   ∀ m,m0≤m→∀ rest,bV T (RX T tab m) ops (l++rest) i s evs=bV T (RX T tab m) ops rest i' s' evs'
 | [],i,bt,acc,evs,fr,hp,K,tr,s,h,hw=>⟨0,i,bt,acc,fr,hp,tr,s,evs,h,hw,rfl,rfl,fun _ _ _=>rfl⟩
 | ⟨dst,op,a1,a2,a3,gd⟩ :: l,i,bt,acc,evs,fr,hp,K,tr,s,h,hw=>by
  obtain ⟨hgd,h⟩:=h;subst hgd;obtain ⟨z,v,u,b,x,t,m0,q1,q2,q3,q4,q5,q6,q7,q8⟩:=Bx h hw.ht hw.h1 hw.h2 hw.hb;have hx:(qq.pl x).top≤i+1:=by show x.i+1≤i+1;omega
  obtain ⟨m1,i',bt',acc',fr',hp',tr',s',evs',r1,r2,r3,r4,r5⟩:=pT (s:=⟨dH s.fr dst u,z.H,s.rd⟩) (evs:=⟨⟨dst,op,a1,a2,a3,none⟩,s,u,z.H,t⟩ :: evs) q8
   ⟨hw.ht.snoc q1 q2,by rw [dN (Nat.lt_succ_self _)],by rw [dN (Nat.lt_succ_self _)],hw.hb.put q3 q4 dst,.cons (hw.he.snoc (Nat.le_succ _)) q5 hx (.pl q6)⟩
  rw [bZ (qq5 _)] at r3;refine ⟨max m0 m1,i',bt',acc',fr',hp',tr',s',evs',r1,r2,r3,r4,fun m hm rest=>?_⟩;rw [List.cons_append,bX];simp only [bh,cond_true,q7 m (by omega)];exact r5 m (by omega) rest
theorem Nm {mu:Tmp→Bool} {ops:Array Oper} {rd:Bool} {i:Nat} {bt:Nat→Nat} {acc:List qq} {fr:Nat→AV} {K:Nat→(Nat→Nat)→List qq→(Nat→AV)→List AB→Prop} (h:K i bt acc fr hp):oN T tab mu ops aC rd fl [] i bt acc fr hp K:=h
theorem Nn {mu:Tmp→Bool} {ops:Array Oper} {rd:Bool} {dst:Option Tmp} {op:Op} {a1 a2 a3} {l:List Oper} {i:Nat} {bt:Nat→Nat} {acc:List qq} {fr:Nat→AV} {K:Nat→(Nat→Nat)→List qq→(Nat→AV)→List AB→Prop}
 (h:fM T tab mu dst op i bt fr hp fun fr' hp' bt' x=>(Eu op || x.acc.all fun p=>p.wr || p.own.isNone)=true∧oN T tab mu ops aC rd fl l (i+1) bt' (.pl x :: acc) fr' hp' K) :
 oN T tab mu ops aC rd fl (⟨dst,op,a1,a2,a3,none⟩ :: l) i bt acc fr hp K:=⟨rfl,h⟩
end
end Go.RM
namespace Go.RM
open Go
section
variable {T : bF} {tab : List XE} {one : Bool} {fl base : Nat} {E E' E2 : Env} {hp hp' hp2 : List AB} {aC amb' : bp} {H H' H2 : Hp} {r : Rec}
theorem yx {ops:Array Oper} {ops':List Oper}:∀ (l:List Oper) (i:Nat) (st:St) (L:List St) (acc:List Ev),l.all wJ=true→bG T r ops' l st=some L→dc T (oU ops) acc=true→∃ s',L=[s']∧bV T r ops l i st acc=some [s']
 | [],i,st,L,acc,_,h,hp=>by
  rw [gJ] at h;cases h;refine ⟨st,rfl,?_⟩;rw [eZ]
  have:ep T ops acc=true:=by
   unfold ep
   cases (acc.all fun e=>e.t.wr.isEmpty && Nat.beq e.t.a e.t.b) with
   | true=>rfl
   | false=>exact hp
  rw [this];rfl
 | o :: l,i,st,L,acc,hq,h,hp=>by
  rw [List.all_cons,qq7] at hq;obtain ⟨g1,g2,g3,_⟩:=Bw hq.1;rw [de,g1] at h;rw [bX,g1];simp only [bh,cond_true] at h ⊢
  cases ho:i9 T st.hp.n o.op (aU st.fr) st.hp.get with
  | none =>
   exfalso;have:dY T r o.op st=none:=by unfold dY;simp only [g2,ho]
   rw [this] at h;cases h
  | some ve =>
   obtain ⟨v,e⟩:=ve;have he:=Ew hq.1 ho;subst he;have ha:dY T r o.op st=some [(v,st.hp)]:=by unfold dY;simp only [g2,ho];rfl
   rw [ha] at h;simp only [ee] at h;have hd:bH T r o.op i st=some (v,st.hp,⟨i,[],[],false,st.hp.n,st.hp.n⟩):=by unfold bH;simp only [g2,g3 (aU st.fr),ho];rfl
   simp only [hd];refine yx l (i+1) _ L _ hq.2 h ?_;simp only [dc,qq7,List.all_eq_true];refine ⟨fun s _=>?_,hp⟩;rw [(iU (s:=s.t) (t:=⟨i,[],[],false,st.hp.n,st.hp.n⟩) ⟨rfl,rfl,rfl,rfl⟩).1];rfl
def zJ (b:List Nat) (i:Nat) (acc:List qq):Bool :=
 acc.all fun x=>(b.getD i 0).testBit x.i || match x with
  | .pl x=>x.acc.all fun p=>!p.wr
  | .quiet _=>true
  | .span _ _ _=>false
theorem CK {tr:Nat→cR} {n i j:Nat} (ht:ng base aC tr n) {b:List Nat} {nn:Nat}:∀ {acc:List qq} {evs:List Ev},nX tr n j acc evs→zJ b i acc=true→∀ s ∈ evs,(!conflict s.t ⟨i,[],[],true,(tr n).H.n,nn⟩ || (b.getD i 0).testBit s.t.idx)=true:=by
 intro acc evs h
 induction h with
 | nil=>intro _ s hs;cases hs
 | cons hl hxi htop he ih =>
  rename_i x ev l m;intro hc s hs;unfold zJ at hc;rw [List.all_cons,qq7] at hc
  rcases List.mem_cons.1 hs with rfl|hs
  ·rw [he.idx];have hc1:=hc.1;rw [Bool.or_eq_true] at hc1
   rcases hc1 with h|h
   ·rw [h];simp
   ·cases he with
    | quiet a b c d e =>rw [(iU ⟨b,c,d,e⟩).2];rfl
    | span=>cases h
    | pl he =>
     rename_i x;have h:(x.acc.all fun p=>!p.wr)=true:=h;rw [List.all_eq_true] at h;have htop:x.i+1≤n:=htop;have hw:s.t.wr=[]:=List.eq_nil_iff_forall_not_mem.2 fun q hq=>by obtain ⟨p,hp,h1,_⟩:=he.ev.wr q hq;have:=h p hp;rw [h1] at this;cases this
     have hr:∀ q ∈ s.t.rd,q < (tr n).H.n:=fun q hq=>by obtain ⟨p,hp,_,h2⟩:=he.ev.rd q hq;have:=(ht.ext p.b n (by have:=h2.1;omega) (qq6 _)).n;have:=h2.2.1;omega
     have:conflict s.t ⟨i,[],[],true,(tr n).H.n,nn⟩=false:=by
      cases hcf:conflict s.t ⟨i,[],[],true,(tr n).H.n,nn⟩ with
      | false=>rfl
      | true =>exfalso;unfold conflict at hcf;rw [hw] at hcf;have mn:∀ l,meets [] l=false:=fun _=>rfl;simp only [mn,ql,Bool.false_or,Bool.or_false,List.isEmpty_nil,Bool.not_true,Bool.and_false] at hcf;obtain ⟨q,q1,q2,_⟩:=within_iff.1 hcf;have:=hr q q1;omega
     rw [this];rfl
  ·exact ih hc.2 s hs
theorem aB.LN {id n:Nat} {mu:Tmp→Bool} {l A B:List Oper} {o:Oper} {st:bO} {K:Exit→bO→Prop} (ht:fF l.toArray=n) (hn:l.length=n) (hl:l=A++(o :: B)) (hB:B.all wJ=true) (hgd:o.guard=none)
  (h:oN T tab mu l.toArray st.aC st.rd st.fl A 0 (fun _=>0) [] st.fr st.hp fun i _ acc fr hp=>Iw (oU l.toArray) acc=true∧zJ (oU l.toArray) i acc=true∧∃ st',ah ⟨fr,hp,st.aC,st.rd,st.fl⟩ st'∧∃ f args v,cX o.op=.call f args∧(Lj T.P st'.fr f).deep=true∧cZ (args.map (bg st'.fr))=true ∧
   ak T tab true (Lj T.P st'.fr f) (args.map (bg st'.fr)) v∧wpOps T tab one mu l B ⟨uC st'.fr o.dst v,st'.hp,st'.aC,st'.rd,st'.fl⟩ (K .normal)):aB T tab one (.region id l.toArray true) st K:=by
 intro E base s hs;obtain ⟨m1,i1,bt1,rF,fr1,hp1,tr1,s1,evs1,⟨hc4,hcc,st',hw,f,args,v,hk,hF,hA,hpv,hops⟩,w1,z1,r1,x1⟩:=pT (base:=base) (tr:=fun _=>⟨E,st.hp,s.hp⟩) (evs:=[]) h ⟨⟨fun _ _=>hs.h,fun _ _ _ _=>.refl⟩,rfl,rfl,fun t=>⟨qq6 _,hs.fr t⟩,.nil⟩;have hrel:=w1.ht.rel i1 (qq6 _);have hext:=w1.ht.ext 0 i1 (qq5 _) (qq6 _);rw [z1] at hext;rw [w1.h1,w1.h2] at hrel;have hext:Ext base E st.hp s.hp (tr1 i1).E hp1 s1.hp:=by have:=hext;rw [w1.h1,w1.h2] at this;exact this
 have hsr:oX (tr1 i1).E base ⟨fr1,hp1,st.aC,st.rd,st.fl⟩ s1:=⟨hrel,by rw [r1];exact hs.rd,fun t=>by
  have:=(w1.ht.ext _ i1 (w1.hb t).1 (qq6 _)).ar (w1.ht.rel _ (w1.hb t).1).wf (w1.hb t).2;rw [←w1.h1,←w1.h2]
  exact this⟩
 obtain ⟨E2,hs2,hfr⟩:=hw.2 _ base s1 hsr;obtain ⟨goal,hgo,m0,L,q1,q2,q3⟩:=hpv.2 (E2.O st'.hp) {s1.hp with lo:=s1.hp.n} (jX T.P s1.fr f) (args.map (aU s1.fr)) hs2.h.wf (fun k hk=>hk.elim (fun h=>hs2.h.kZ h) (hs2.h.xn k)) ((zB hs2.fr f).deep hF) ((fJ hs2.fr args).deep hA);obtain ⟨r,rfl⟩:=q2 rfl;obtain ⟨w,H',rfl,hn',hwf,hsame,hlo,hdr⟩:=q3 r List.mem_cons_self;have hlo':s1.hp.n≤H'.lo:=by have:min s1.hp.n s1.hp.n≤H'.lo:=hlo;omega
 obtain ⟨g1,g2⟩:=hs2.h.grow (H':={H' with lo:=s1.hp.lo}) hn' hwf (fun k hk=>hsame k hk) (Nat.min_le_left _ _);have hd:∀ m,m0≤m→bH T (RX T tab m) o.op i1 s1=some (w,{H' with lo:=s1.hp.lo},⟨i1,[],[],true,s1.hp.n,H'.n⟩):=by intro m hm;unfold bH;simp only [hk,hgo,gk hm _ _ q1];rw [sF (Nat.ble_eq_true_of_le hlo')]
 have hs3:oX E2 base ⟨uC st'.fr o.dst v,st'.hp,st'.aC,st'.rd,st'.fl⟩ ⟨dH s1.fr o.dst w,{H' with lo:=s1.hp.lo},s1.rd⟩ :=
  ⟨g1,hs2.rd,oG ((g2.FN (fl:=st'.hp.length)).fr hs2.h hs2.fr) (.d hdr) o.dst⟩
 obtain ⟨m2,L2,p1,_,p3⟩:=ji hops hs3;have hpairs:dc T (oU l.toArray) (⟨o,s1,w,{H' with lo:=s1.hp.lo},⟨i1,[],[],true,s1.hp.n,H'.n⟩⟩ :: evs1)=true:=by simp only [dc,qq7,List.all_eq_true];refine ⟨fun x hx=>?_,w1.he.pairs w1.ht hc4⟩;have:=CK (nn:=H'.n) w1.ht w1.he hcc x hx;rw [w1.h2] at this;rw [this];rfl
 obtain ⟨s3,rfl,hq⟩:=yx (ops:=l.toArray) B (i1+1) _ L2 _ hB p1 hpairs;obtain ⟨E3,st3,k1,k0,k2,k3⟩:=p3 s3 List.mem_cons_self
 have run:bV T (RX T tab (max m1 (max m0 m2))) l.toArray l 0 s []=some [s3]:=by
  have y1:=x1 (max m1 (max m0 m2)) (by omega) (o :: B)
  conv=>lhs;arg 4;rw [hl]
  rw [y1,bX,hgd];simp only [bh,cond_true,hd (max m1 (max m0 m2)) (by omega)];exact gP (gk (by omega)) _ _ _ _ _ _ hq
 have hfl:st'.fl=st.fl:=hw.1;refine ⟨max m1 (max m0 m2),[(.normal,s3)],?_,.single ⟨E3,st3,k1,k0.trans hfl,k2,?_⟩⟩
 ·rw [fS]
  have:cD T (RX T tab (max m1 (max m0 m2))) l.toArray s=some [s3]:=by
   cases hnd:uW l.toArray with
   | none =>unfold cD;simp only [hnd,ht];rw [←hn,List.take_length,run,List.drop_length];rfl
   | some c=>exact tS (by rw [ht,hn]) run
  simp only [cond_true,this,List.map_cons,List.map_nil]
 ·have k3':lf st.fl base E2 st'.hp {H' with lo:=s1.hp.lo} E3 st3.hp s3.hp:=by have:=k3;rw [hfl] at this;exact this
  exact ((hext.FN.trans hfr).trans g2.FN).trans k3'
end
end Go.RM
namespace Go.RM
open Go
section
variable {T : bF} {tab : List XE} {one : Bool} {base : Nat} {E E' : Env} {st st' : bO} {s s' : St} {n n' : Nat}
end
end Go.RM
namespace Go.RM
open Go
section
variable {T : bF} {tab : List XE} {one : Bool} {base : Nat} {E E' : Env} {st st' : bO} {s s' : St} {n n' : Nat}
end
end Go.RM
namespace Go.RM
open Go
section
variable {T : bF} {tab : List XE} {one : Bool} {base : Nat} {E E' : Env} {st st' : bO} {s s' : St} {n n' : Nat}
end
end Go.RM
namespace Go.RM
open Go
end Go.RM
namespace Go.RM
open Go
section
variable {T : bF} {tab : List XE} {one : Bool} {n : Nat}
end
end Go.RM
namespace Go.RM
open Go
section
variable {T : bF} {tab : List XE} {one : Bool}
theorem au.cut {F:AV} {args:List AV} {hp:List AB} {aC:bp} {Q:AV→List AB→bp→Prop} (h:au T tab one F args hp aC Q) (hc:∀ a hp' amb',Q a hp' amb'→a.i5 hp.length=true∧(hp'.take hp.length).all (AB.i5 hp.length)=true) :
  au T tab one F args hp aC fun a hp2 amb'=>∃ hp',hp2=hp'.take hp.length∧Q a hp' amb':=by
 intro E base H u us hr hf ha;obtain ⟨goal,hg,m,L,h1,h2,h3⟩:=h E base H u us hr hf ha;refine ⟨goal,hg,m,L,h1,h2,fun r hm=>?_⟩;obtain ⟨w,H',rfl,E',a,hp',amb',q1,q2,q3,q4⟩:=h3 r hm;obtain ⟨c1,c2⟩:=hc a hp' amb' q1
 have hw:ah (⟨aL [(0,a)],hp',amb',false,hp.length⟩:bO) ⟨aL [(0,a)],hp'.take hp.length,amb',false,hp.length⟩ :=
  ah.to hp.length rfl ⟨rfl,trivial⟩ (qq6 _) (by simp [c1]) c2
 have hs:oX E' base (⟨aL [(0,a)],hp',amb',false,hp.length⟩:bO) ⟨(.leaf:Tr Value).set 0 w,H',false⟩:=by
  refine ⟨q2,rfl,fun t=>?_⟩;show AR _ _ _ (aL [(0,a)] t) ((((.leaf:Tr Value).set 0 w).get t).getD undef);rw [Tr.gy];by_cases ht:t=0
  ·subst ht;exact q3
  ·rw [if_neg ht];have:aL [(0,a)] t=.cG:=by unfold aL;rw [Tr.beq_eq,decide_eq_false ht];rfl
   rw [this];exact .cG
 obtain ⟨E2,k1,k2⟩:=hw.2 E' base _ hs;have h0:=k1.fr 0;refine ⟨w,H',rfl,E2,a,_,amb',⟨hp',rfl,q1⟩,k1.h,?_,q4.trans k2⟩;have e:(((.leaf:Tr Value).set 0 w).get 0).getD undef=w:=by rw [Tr.gy,if_pos rfl];rfl
 have h0:AR E2.ρ H'.get (E2.O (hp'.take hp.length)) (aL [(0,a)] 0) ((((.leaf:Tr Value).set 0 w).get 0).getD undef):=h0;rw [e] at h0;exact h0
end
end Go.RM
namespace Go.RM
open Go
section
variable {T : bF} {tab : List XE} {one : Bool} {mu : Tmp → Bool} {base : Nat} {E : Env} {hp : List AB} {aC : bp} {H : Hp} {ρ : Nat → Nat → Option Nat} {g : aK} {O O' : Nat → Prop}
def JN (j aJ:Nat) (cs:List AV):List AV→List AV→Prop
 | [],[]=>True
 | a :: l,b :: m=>Gv j aJ cs a b∧JN j aJ cs l m
 | _,_=>False
theorem JN.len {j aJ:Nat} {cs:List AV}:∀ {l m:List AV},JN j aJ cs l m→l.length=m.length
 | [],[],_=>rfl
 | _ :: _,_ :: _,h=>by simp only [List.length_cons];rw [JN.len h.2]
 | [],_ :: _,h=>h.elim
 | _ :: _,[],h=>h.elim
theorem JN.get {j aJ:Nat} {cs:List AV}:∀ {l m:List AV},JN j aJ cs l m→∀ (i:Nat) (a b:AV),l[i]?=some a→m[i]?=some b→Gv j aJ cs a b
 | [],[],_,i,a,b,ha,_=>by cases ha
 | x :: l,y :: m,h,i,a,b,ha,hb=>by
  cases i with
  | zero=>cases ha;cases hb;exact h.1
  | succ i=>exact JN.get h.2 i a b (by simpa using ha) (by simpa using hb)
 | [],_ :: _,h,_,_,_,_,_=>h.elim
 | _ :: _,[],h,_,_,_,_,_=>h.elim
inductive GB (j aJ:Nat) (cs:List AV):AB→AB→Prop
 | cells {l m:List AV} {es v:Nat}:JN j aJ cs l m→GB j aJ cs (.cells l es v) (.cells m es v)
 | same {b:AB}:b.rI j=true→GB j aJ cs b b
theorem GB.aJ {j aJ:Nat} {cs:List AV} {b b':AB} (h:GB j aJ cs b b'):b'.ver?=b.ver?:=by
 cases h with
 | cells=>rfl
 | same=>rfl
def JO (j aJ:Nat) (cs:List AV):Nat→List AB→List AB→Prop
 | _,[],[]=>True
 | i,b :: l,b' :: m=>(if Nat.beq i j then b'=.gone else GB j aJ cs b b')∧JO j aJ cs (i+1) l m
 | _,_,_=>False
theorem JO.len {j aJ:Nat} {cs:List AV}:∀ {l m:List AB} {i:Nat},JO j aJ cs i l m→l.length=m.length
 | [],[],_,_=>rfl
 | _ :: _,_ :: _,_,h=>by simp only [List.length_cons];rw [JO.len h.2]
 | [],_ :: _,_,h=>h.elim
 | _ :: _,[],_,h=>h.elim
theorem JO.get {j aJ:Nat} {cs:List AV}:∀ {l m:List AB} {i0:Nat},JO j aJ cs i0 l m→∀ (i:Nat) (b':AB),m[i]?=some b'→(i0+i=j∧b'=.gone)∨(i0+i ≠ j∧∃ b,l[i]?=some b∧GB j aJ cs b b')
 | [],[],_,_,i,b',hb=>by cases hb
 | x :: l,y :: m,i0,h,i,b',hb=>by
  cases i with
  | zero =>
   cases hb;have h1:=h.1;split at h1
   ·rename_i hb;exact .inl ⟨Nat.eq_of_beq_eq_true hb,h1⟩
   ·rename_i hb;exact .inr ⟨fun e=>hb (by subst e;exact Nat.beq_refl _),x,rfl,h1⟩
  | succ i =>
   rcases JO.get h.2 i b' (by simpa using hb) with ⟨h1,h2⟩|⟨h1,b,h2,h3⟩
   ·exact .inl ⟨by omega,h2⟩
   ·exact .inr ⟨by omega,b,by simpa using h2,h3⟩
 | [],_ :: _,_,h,_,_,_=>h.elim
 | _ :: _,[],_,h,_,_,_=>h.elim
theorem ah.JP {st:bO} {l:List (Nat × AV)} (j:Nat) {aJ es:Nat} {cs:List AV} {hp':List AB} (hj:st.hp[j]?=some (.cells cs es aJ)) (hn:st.fl≤j) (hd:cZ cs=true) (hs:wB j aJ cs st.fr l) (hb:JO j aJ cs 0 st.hp hp') :
  ah st ⟨aL l,hp',st.aC,st.rd,st.fl⟩:=by
 have hlt:j < st.hp.length:=(List.getElem?_eq_some_iff.1 hj).1;have hlen:=hb.len;refine ⟨rfl,fun E base s hs'=>?_⟩;have hr:=hs'.h
 have hget:∀ (i:Nat) (b:AB) (aJ:Nat),hp'[i]?=some b→b.ver?=some aJ→i ≠ j∧∃ b0,st.hp[i]?=some b0∧b0.ver?=some aJ:=by
  intro i b v hi hv
  rcases hb.get i b hi with ⟨_,h2⟩|⟨h1,b0,h2,h3⟩
  ·subst h2;cases hv
  ·exact ⟨by omega,b0,h2,by rw [←h3.aJ];exact hv⟩
 have hdr:∀ {i v k:Nat},aZ j E.ρ i v=some k→i ≠ j∧E.ρ i v=some k:=by
  intro i v k h;unfold aZ at h;split at h
  ·cases h
  ·rename_i hne;exact ⟨hne,h⟩
 have hown:∀ k,Own (aZ j E.ρ) hp' k→Own E.ρ st.hp k:=by rintro k ⟨i,b,v,h1,h2,h3⟩;obtain ⟨_,b0,g1,g2⟩:=hget i b v h1 h2;exact ⟨i,b0,v,g1,g2,(hdr h3).2⟩
 have hOs:∀ k,({E with ρ:=aZ j E.ρ}:Env).O hp' k→E.O st.hp k:=fun k h=>h.imp (hown k) id
 have hpt:∀ {o:Nat} {u:Value},AR E.ρ s.hp.get (E.O st.hp) (.ptr j aJ o) u→AR (aZ j E.ρ) s.hp.get (({E with ρ:=aZ j E.ρ}:Env).O hp') (.pt cs o) u:=by
  intro o u h;obtain ⟨k,hk,rfl⟩:=h.dg;obtain ⟨cs',q1,q2⟩:=hr.cells hj hk
  have hnO:¬ ({E with ρ:=aZ j E.ρ}:Env).O hp' k:=by
   rintro (⟨i,b,v,h1,h2,h3⟩|hx)
   ·have:=hdr h3;exact this.1 (hr.inj i j v aJ k this.2 hk)
   ·exact hr.hU k ⟨j,_,aJ,hj,rfl,hk⟩ hx
  have:=q2.deep hd;refine .d (?_:DR _ _ (.pt cs o) (.pointer (some ⟨k,o,none⟩)))
  have h0:DR s.hp.get (({E with ρ:=aZ j E.ρ}:Env).O hp') (.pt cs o) (.pointer (some ⟨k,0+o,none⟩)) :=
   .pt q1 hnO (by rw [Nat.zero_add,this.1];exact qq6 _) (fun i a u x y=>(this.2 i a u x (by rw [Nat.zero_add] at y;exact y)).mono fun k b hk ho=>⟨hk,fun h=>ho (hOs k h)⟩)
  rw [Nat.zero_add] at h0;exact h0
 have hrow:∀ {o n c:Nat} {els:List (List AV)} {b:Bool} {u:Value} (es:Nat),o+n * es≤cs.length→els.length=n→(∀ el ∈ els,el.length=es)→els.flatten=(cs.drop o).take (n * es)→(b=true→c=n)→AR E.ρ s.hp.get (E.O st.hp) (.aI j aJ o n c) u →
   AR (aZ j E.ρ) s.hp.get (({E with ρ:=aZ j E.ρ}:Env).O hp') (.sl els b) u:=by
  intro o n c els b u es g1 g2 g3 g4 g5 h
  rcases h.ey with ⟨k,hk,rfl⟩|⟨rfl,rfl,rfl⟩
  ·obtain ⟨cs',q1,q2⟩:=hr.cells hj hk
   have hnO:¬ ({E with ρ:=aZ j E.ρ}:Env).O hp' k:=by
    rintro (⟨i,b,v,h1,h2,h3⟩|hx)
    ·have:=hdr h3;exact this.1 (hr.inj i j v aJ k this.2 hk)
    ·exact hr.hU k ⟨j,_,aJ,hj,rfl,hk⟩ hx
   have hdp:=q2.deep hd;refine .d (.sl (es:=es) q1 hnO (by rw [←q2.1];exact g1) g2 (fun i el he=>g3 el (List.mem_of_getElem? he)) (fun i el jj a u he hx hu=>?_) g5);have hjj:jj < es:=by rw [←g3 el (List.mem_of_getElem? he)];exact (List.getElem?_eq_some_iff.1 hx).1
   have hat:=eu g3 i el jj he hjj;have hi:i < n:=by rw [←g2];exact (List.getElem?_eq_some_iff.1 he).1
   rw [g4,List.getElem?_take,List.getElem?_drop] at hat;have hlt:i * es+jj < n * es:=by have:(i+1) * es≤n * es:=Nat.mul_le_mul_right _ hi;rw [Nat.add_mul,Nat.one_mul] at this;omega
   rw [if_pos hlt,hx,←Nat.add_assoc] at hat;exact (hdp.2 _ a u hat hu).mono fun k b hk ho=>⟨hk,fun h=>ho (hOs k h)⟩
  ·simp only [List.length_eq_zero_iff] at g2;subst g2;exact .d .nil
 have hgv:∀ {a b:AV} {u:Value},Gv j aJ cs a b→AR E.ρ s.hp.get (E.O st.hp) a u→AR (aZ j E.ρ) s.hp.get (({E with ρ:=aZ j E.ρ}:Env).O hp') b u:=by
  intro a b u hg h
  cases hg with
  | same hn=>exact h.rI hOs hn
  | ptr=>exact hpt h
  | row es g1 g2 g3 g4 g5=>exact hrow es g1 g2 g3 g4 g5 h
  | cG=>exact .cG
 refine ⟨{E with ρ:=aZ j E.ρ},⟨⟨hr.wf,fun i b v hi hv=>?_,fun i i' v v' k h1 h2=>hr.inj i i' v v' k (hdr h1).2 (hdr h2).2,fun i v k hk=>hr.rn i v k (hdr hk).2,fun i b v w h1 h2 h3=>?_,fun i v hi=>?_,fun k hk=>hr.sup k (hown k hk),fun k hk=>hr.hU k (hown k hk),hr.dx,hr.ds,hr.sn,hr.xn,fun k hk=>hr.pO k (hk.imp (hown k) id),hr.bn,hr.aC⟩,hs'.rd,fun t=>hgv (zF hs t) (hs'.fr t)⟩,
  ⟨qq6 _,fun i v k hi hk=>?_,fun k hk=>.inl (hown k hk),fun _ h=>.inl h,fun _ h=>.inl h,fun _ h=>h,fun _ h=>.inl h,fun _ _ _ _=>rfl,Nat.min_le_left _ _⟩⟩
 ·rcases hb.get i b hi with ⟨_,h2⟩|⟨hij,b0,hi',hG⟩
  ·subst h2;cases hv
  ·have hij:i ≠ j:=by omega
   have hv':b0.ver?=some v:=by rw [←hG.aJ];exact hv
   rcases hr.gz i b0 v hi' hv' with ⟨k,b',q1,q2,q3⟩|⟨q1,q2⟩
   ·refine .inl ⟨k,b',by show aZ j E.ρ i v=_;rw [aZ,if_neg hij];exact q1,q2,?_⟩
    cases hG with
    | @cells l0 m0 es0 v0 hL =>
     obtain ⟨cs',rfl,h⟩:=q3;refine ⟨cs',rfl,by rw [←hL.len];exact h.1,fun i a u ha hu=>?_⟩;have hli:i < l0.length:=by rw [hL.len];exact (List.getElem?_eq_some_iff.1 ha).1
     exact hgv (hL.get i l0[i] a (List.getElem?_eq_getElem hli) ha) (h.2 i l0[i] u (List.getElem?_eq_getElem hli) hu)
    | same hbn =>
     cases b with
     | cells cs2 es2 ver2 =>obtain ⟨cs',rfl,h⟩:=q3;exact ⟨cs',rfl,h.1,fun i a u ha hu=>(h.2 i a u ha hu).rI hOs (kC hbn i a ha)⟩
     | dU p q=>exact q3
     | map ents clock =>obtain ⟨es,rfl,h1,h2⟩:=q3;refine ⟨es,rfl,h1,fun i k v born x hx hy=>?_⟩;simp only [AB.rI,List.all_eq_true,qq7] at hbn;have:=hbn _ (List.mem_of_getElem? hx);exact ⟨(h2 i k v born x hx hy).1.rI hOs this.1,(h2 i k v born x hx hy).2.1.rI hOs this.2,(h2 i k v born x hx hy).2.2⟩
     | iter i2 since seen stepped =>obtain ⟨m,rfl,h⟩:=q3;exact ⟨m,rfl,by show aZ j E.ρ i2 0=_;rw [aZ,if_neg (rJ hbn)];exact h⟩
     | gone=>exact q3
   ·refine .inr ⟨by show aZ j E.ρ i v=_;rw [aZ,if_neg hij];exact q1,?_⟩
    cases hG with
    | @cells l0 m0 es0 v0 hL =>
     obtain ⟨es1,h1⟩:=q2;cases h1;have h2:=hL.len
     cases m0 with
     | nil=>exact ⟨_,rfl⟩
     | cons _ _=>cases h2
    | same _=>exact q2
 ·obtain ⟨hij,b0,h1,h2⟩:=hget i b v h1 h2;show aZ j E.ρ i w=none;rw [aZ,if_neg hij];exact hr.fresh i b0 v w h1 h2 h3
 ·show aZ j E.ρ i v=none;unfold aZ;split
  ·rfl
  ·exact hr.new i v (by rw [hlen];exact hi)
 ·show aZ j E.ρ i v=some k;rw [aZ,if_neg (by omega)];exact hk
end
end Go.RM
namespace Go.RM
open Go
theorem wrap_u64 {n:Nat} (h:n < 18446744073709551616):IntKind.wrap .u64 (n:Int)=(n:Int):=by show ((BitVec.ofInt 64 (n:Int)).toNat:Int)=_;rw [BitVec.ofInt_natCast,BitVec.toNat_ofNat,Nat.mod_eq_of_lt h]
theorem Gx {P:Program} {t:TypeId} {x y:Operand} {m n:Nat} (hm:m < 18446744073709551616) (hn:n < 18446744073709551616):eN P .and t x y (.int .u64 (m:Int)) (.int .u64 (n:Int))=some (.int .u64 ((m &&& n:Nat):Int),.none):=by have h:eN P .and t x y (.int .u64 (m:Int)) (.int .u64 (n:Int))=some (.int .u64 (IntKind.wrap .u64 ((BitVec.ofInt 64 (m:Int) &&& BitVec.ofInt 64 (n:Int)).toNat:Int)),.none):=rfl;rw [h,wE (by omega) (by omega),wrap_u64 (Nat.lt_of_le_of_lt Nat.and_le_left hm)]
theorem Gy {P:Program} {t:TypeId} {x y:Operand} {j:Nat} (hj:j < 8):eN P .shl t x y (.int .u64 1) (.int .i64 (j:Int))=some (.int .u64 ((2 ^ j:Nat):Int),.none):=by
 match j,hj with
 | 0,_|1,_|2,_|3,_|4,_|5,_|6,_|7,_=>rfl
theorem Gz {P:Program} {t:TypeId} {x y:Operand} {m:Nat} (h1:1≤m) (hm:m < 18446744073709551616):eN P .sub t x y (.int .u64 (m:Int)) (.int .u64 1)=some (.int .u64 ((m - 1:Nat):Int),.none):=by have h:eN P .sub t x y (.int .u64 (m:Int)) (.int .u64 1)=some (.int .u64 (IntKind.wrap .u64 ((m:Int) - 1)),.none):=rfl;rw [h,show (m:Int) - 1=((m - 1:Nat):Int) by omega,wrap_u64 (by omega)]
section
variable {T : bF} {a b : AV} {t : TypeId} {x y : Operand} {hp : List AB} {K : AV → List AB → Prop}
theorem LR {m n:Nat} (ha:a=.fl (.int .u64 (m:Int))) (hb:b=.fl (.int .u64 (n:Int))) (hm:m < 18446744073709551616) (hn:n < 18446744073709551616) (h:K (.fl (.int .u64 ((m &&& n:Nat):Int))) hp):aV T .and t x y a b hp K:=by subst ha hb;exact ⟨_,_,rfl,rfl,.int .u64 ((m &&& n:Nat):Int),Gx hm hn,rfl,h⟩
theorem LU {j:Nat} (ha:a=.fl (.int .u64 1)) (hb:b=.fl (.int .i64 (j:Int))) (hj:j < 8) (h:K (.fl (.int .u64 ((2 ^ j:Nat):Int))) hp):aV T .shl t x y a b hp K:=by subst ha hb;exact ⟨_,_,rfl,rfl,.int .u64 ((2 ^ j:Nat):Int),Gy hj,rfl,h⟩
theorem Dy {m:Nat} (ha:a=.fl (.int .u64 (m:Int))) (hb:b=.fl (.int .u64 1)) (h1:1≤m) (hm:m < 18446744073709551616) (h:K (.fl (.int .u64 ((m - 1:Nat):Int))) hp):aV T .sub t x y a b hp K:=by subst ha hb;exact ⟨_,_,rfl,rfl,.int .u64 ((m - 1:Nat):Int),Gz h1 hm,rfl,h⟩
end
end Go.RM
namespace Go.RM
open Go
section
variable {T : bF} {own : Bool} {fr : Nat → AV} {hp : List AB} {K : AV → List AB → Prop} {t : TypeId} {s by' cK : Nat} {z : Option Value} {agg : Bool} {cA : List (Nat × Nat)}
theorem MS {o:BinOp} {x y:Operand} {a:AV} {els:List (List AV)} {f b:Bool} (ha:a=.sl els f) (hne:els ≠ []) (ht:jU T.P t=true) (ho:i7 o=some (.bool b,.none)) (k:K (.fl (.bool b)) hp):aV T o t x y a (.fl (.slice none 0 0)) hp K:=by subst ha;exact ⟨hne,ht,_,ho,k⟩
end
end Go.RM
namespace Go.RM
open Go
inductive As (s st:bO):Prop
 | is (h:ah s st)
 | no (h:False)
theorem As.aP {s st:bO}:As s st→ah s st
 | .is h=>h
 | .no h=>h.elim
theorem cutAt {T:bF} {tab:List XE} {one:Bool} {a b:Code} {st st':bO} {K:Exit→bO→Prop} (h1:aB T tab one a st (sU (fun s=>As s st') K)) (h2:aB T tab one b st' K):aB T tab one (.seq a b) st K :=
 .seq (h1.mono fun e s h=>by cases e <;> first|exact .aP h.aP h2|exact h)
end Go.RM
namespace Go.RM
open Go
theorem GA {P:Program} {t:TypeId} {x y:Operand} {m n:Nat} (hm:m < 4611686018427387904) (hn:n < 4611686018427387904):eN P .and t x y (.int .i64 (m:Int)) (.int .i64 (n:Int))=some (.int .i64 ((m &&& n:Nat):Int),.none):=by have h:eN P .and t x y (.int .i64 (m:Int)) (.int .i64 (n:Int))=some (.int .i64 (IntKind.wrap .i64 ((BitVec.ofInt 64 (m:Int) &&& BitVec.ofInt 64 (n:Int)).toNat:Int)),.none):=rfl;have h1:m &&& n≤m:=Nat.and_le_left;rw [h,wE (by omega) (by omega),wrap_i64 (by omega) (by omega)]
theorem IE {P:Program} {t:TypeId} {x y:Operand} {m n:Nat} (hm:m < 4611686018427387904) (hn:n < 4611686018427387904):eN P .or t x y (.int .i64 (m:Int)) (.int .i64 (n:Int))=some (.int .i64 ((m ||| n:Nat):Int),.none):=by have h:eN P .or t x y (.int .i64 (m:Int)) (.int .i64 (n:Int))=some (.int .i64 (IntKind.wrap .i64 ((BitVec.ofInt 64 (m:Int) ||| BitVec.ofInt 64 (n:Int)).toNat:Int)),.none):=rfl;have h1:m ||| n < 2 ^ 62:=Nat.or_lt_two_pow (n:=62) hm hn;rw [h,Im (by omega) (by omega),wrap_i64 (by omega) (by omega)]
theorem BD {w m n:Nat} (hm:m < 2 ^ w) (hn:n < 2 ^ w):(BitVec.ofInt w (m:Int) &&& ~~~ BitVec.ofInt w (n:Int)).toNat=m &&& (2 ^ w - 1 - n):=by rw [BitVec.toNat_and,BitVec.toNat_not,BitVec.ofInt_natCast,BitVec.ofInt_natCast,BitVec.toNat_ofNat,BitVec.toNat_ofNat,Nat.mod_eq_of_lt hm,Nat.mod_eq_of_lt hn]
theorem BE {P:Program} {t:TypeId} {x y:Operand} {m n:Nat} (hm:m < 4611686018427387904) (hn:n < 4611686018427387904):eN P .andNot t x y (.int .i64 (m:Int)) (.int .i64 (n:Int))=some (.int .i64 ((m &&& (18446744073709551615 - n):Nat):Int),.none):=by have h:eN P .andNot t x y (.int .i64 (m:Int)) (.int .i64 (n:Int))=some (.int .i64 (IntKind.wrap .i64 ((BitVec.ofInt 64 (m:Int) &&& ~~~ BitVec.ofInt 64 (n:Int)).toNat:Int)),.none):=rfl;have h1:m &&& (18446744073709551615 - n)≤m:=Nat.and_le_left;rw [h,BD (by omega) (by omega)];show some (Value.int .i64 (IntKind.wrap .i64 ((m &&& (18446744073709551615 - n):Nat):Int)),cq.none)=_;rw [wrap_i64 (by omega) (by omega)]
section
variable {T : bF} {a b : AV} {t : TypeId} {x y : Operand} {hp : List AB} {K : AV → List AB → Prop}
theorem JR {m n:Nat} (ha:a=.fl (.int .i64 (m:Int))) (hb:b=.fl (.int .i64 (n:Int))) (hm:m < 4611686018427387904) (hn:n < 4611686018427387904) (h:K (.fl (.int .i64 ((m &&& n:Nat):Int))) hp):aV T .and t x y a b hp K:=by subst ha hb;exact ⟨.int .i64 ((m &&& n:Nat):Int),GA hm hn,rfl,h⟩
theorem Kl {m n:Nat} (ha:a=.fl (.int .i64 (m:Int))) (hb:b=.fl (.int .i64 (n:Int))) (hm:m < 4611686018427387904) (hn:n < 4611686018427387904) (h:K (.fl (.int .i64 ((m ||| n:Nat):Int))) hp):aV T .or t x y a b hp K:=by subst ha hb;exact ⟨.int .i64 ((m ||| n:Nat):Int),IE hm hn,rfl,h⟩
theorem Km {m n:Nat} (ha:a=.fl (.int .i64 (m:Int))) (hb:b=.fl (.int .i64 (n:Int))) (hm:m < 4611686018427387904) (hn:n < 4611686018427387904) (h:K (.fl (.int .i64 ((m &&& (18446744073709551615 - n):Nat):Int))) hp):aV T .andNot t x y a b hp K:=by subst ha hb;exact ⟨.int .i64 ((m &&& (18446744073709551615 - n):Nat):Int),BE hm hn,rfl,h⟩
end
section
variable {T : bF} {own : Bool} {fr : Nat → AV} {hp : List AB} {K : AV → List AB → Prop} {t : TypeId} {s by' cK : Nat} {z : Option Value} {agg : Bool} {cA : List (Nat × Nat)}
theorem Nq {x:Operand} {cs:List AV} {o len:Nat} {e:TypeId} {els:List (List AV)} (hx:bg fr x=.pt cs o) (ht:T.ty.get t=some ⟨.array len e,s,by',z,agg,cA,cK⟩)
  (hb:o+len * cK≤cs.length) (h1:1≤cK) (he:els.length=len∧(∀ el ∈ els,el.length=cK)∧els.flatten=(cs.drop o).take (len * cK)) (k:K (.sl els true) hp):wpOp T own (.slice t x none none none) fr hp K:=by
 show mR T t (bg fr x) none none hp K;rw [hx];unfold mR;simp only [ht];refine ⟨0,len,els,rfl,rfl,⟨qq5 _,qq6 _,hb⟩,h1,?_,by rw [Nat.beq_refl];exact k⟩;rw [Nat.zero_mul,Nat.add_zero,Nat.sub_zero];exact he
end
inductive Nr (s st:bO) (P:Prop):Prop
 | is (h:ah s st) (p:P)
 | no (h:False)
theorem CN {T:bF} {tab:List XE} {one:Bool} {a b:Code} {st:bO} (st':bO) (P:Prop) {K:Exit→bO→Prop} (h1:aB T tab one a st (sU (fun s=>Nr s st' P) K)) (h2:P→aB T tab one b st' K):aB T tab one (.seq a b) st K :=
 .seq (h1.mono fun e s h=>by
  cases e
  all_goals first
   | exact (match h with|.is h p=>.aP h (h2 p)|.no h=>h.elim)
   | exact h)
inductive MG {σ:Type} (s:bO) (Φ:σ→bO) (P:σ→Prop):Prop
 | is (x:σ) (h:ah s (Φ x)) (p:P x)
 | no (h:False)
theorem iz {T:bF} {tab:List XE} {one:Bool} {a b:Code} {st:bO} {σ:Type} (Φ:σ→bO) (P:σ→Prop) {K:Exit→bO→Prop} (h1:aB T tab one a st (sU (fun s=>MG s Φ P) K)) (h2:∀ x,P x→aB T tab one b (Φ x) K):aB T tab one (.seq a b) st K :=
 .seq (h1.mono fun e s h=>by
  cases e
  all_goals first
   | exact (match h with|.is x h p=>.aP h (h2 x p)|.no h=>h.elim)
   | exact h)
end Go.RM
namespace Go.RM
open Go
section
variable {T : bF} {tab : List XE} {one : Bool} {fl base base1 : Nat} {E E' E1 E2 E4 : Env} {hp hp' hp1 hp2 hp4 : List AB} {aC amb' amb4 : bp} {H H' H1 H2 H4 : Hp} {ρ ρ' : Nat → Nat → Option Nat} {g g' : aK} {O O' : Nat → Prop}
def MT:AV→Bool
 | .fl v=>bf v
 | _=>false
def MU:AV→Bool
 | .fl v=>bf v
 | .ptr _ _ _=>true
 | .aI _ _ _ _ _=>true
 | _=>false
def DA:AB→Bool
 | .cells cs _ _=>cs.all MU
 | .gone=>true
 | _=>false
theorem BR.flat {b:AB} {b':bz} (hf:DA b=true) (h:BR ρ g O b b'):BR ρ g' O' b b':=by
 cases b with
 | cells cs es aJ =>
  obtain ⟨cs',rfl,h⟩:=h;refine ⟨cs',rfl,h.1,fun i a u h1 h2=>?_⟩;have h3:=List.all_eq_true.1 hf a (List.mem_of_getElem? h1);have h4:=h.2 i _ u h1 h2
  cases a with
  | fl v =>obtain ⟨rfl,_⟩:=h4.fc;exact .d (.fl h3)
  | ptr j aJ o =>obtain ⟨k,hk,rfl⟩:=h4.dg;exact .ptr hk
  | aI j aJ o n c =>
   cases h4 with
   | aI h=>exact .aI h
   | rq h=>exact .rq h
   | d h=>cases h
  | _=>cases h3
 | gone=>exact h
 | _=>cases hf
inductive Ld (hp:List AB):AV→AV→Prop
 | row {j aJ o n c es:Nat} {cs:List AV} {els:List (List AV)}:hp[j]?=some (.cells cs es aJ)→o+n * es≤cs.length→els.length=n→(∀ el ∈ els,el.length=es)→els.flatten=(cs.drop o).take (n * es)→cs.all MT=true →
  Ld hp (.aI j aJ o n c) (.sl els false)
theorem Ld.dr (h:aY E base hp aC H) {O':Nat→Prop} (hO:∀ k,Own E.ρ hp k→¬ O' k) {a x:AV} (hl:Ld hp a x) {u:Value} (ha:AR E.ρ H.get (E.O hp) a u):DR H.get O' x u:=by
 cases hl with
 | row h1 h2 h3 h4 h5 h6 =>
  rename_i j aJ o n c es cs els
  rcases ha.ey with ⟨k,hk,rfl⟩|⟨rfl,rfl,rfl⟩
  ·obtain ⟨cs',q1,q2⟩:=h.cells h1 hk;refine .sl q1 (hO k ⟨j,_,aJ,h1,rfl,hk⟩) (by rw [←q2.1];exact h2) h3 (fun i el he=>h4 el (List.mem_of_getElem? he)) (fun i el j' a u e1 e2 e3=>?_) (fun h=>Bool.noConfusion h);have hlen:el.length=es:=h4 el (List.mem_of_getElem? e1);have hj:j' < es:=by rw [←hlen];exact (List.getElem?_eq_some_iff.1 e2).1
   have hf:=eu h4 i el j' e1 hj;have hi:i < n:=by rw [←h3];exact (List.getElem?_eq_some_iff.1 e1).1
   rw [h5,List.getElem?_take_of_lt (by
    have:(i+1) * es≤n * es:=Nat.mul_le_mul_right _ hi;rw [Nat.add_mul,Nat.one_mul] at this
    omega),List.getElem?_drop,e2] at hf
   rw [show o+(i * es+j')=o+i * es+j' by omega] at hf;have h7:=List.all_eq_true.1 h6 a (List.mem_of_getElem? hf);have h8:=q2.2 _ a u hf e3
   cases a with
   | fl v =>obtain ⟨rfl,_⟩:=h8.fc;exact .fl h7
   | _=>cases h7
  ·obtain rfl:=List.length_eq_zero_iff.1 h3;exact .nil
def MV (hp:List AB) (l m:List AV):Prop:=l.length=m.length∧∀ (i:Nat) (a x:AV),l[i]?=some a→m[i]?=some x→Ld hp a x
def zO (T:bF) (tab:List XE) (one:Bool) (u:Value) (x:List AV) (a:bp) (Q:Bool→bp→Prop):Prop :=
 ∀ (hp:List AB) (xs':List AV),MV hp xs' x→au T tab one (.oq u) xs' hp a fun v hp' a'=>hp'=hp∧∃ b,v=.fl (.bool b)∧Q b a'
def Ks (hpn:List AB) (an:bp) (pn:Prop) (e:Exit) (s:bO):Prop :=
 match e with
 | .normal=>pn∧∃ fr',ah s ⟨fr',hpn,an,s.rd,s.fl⟩
 | _=>False
def ED (T:bF) (tab:List XE) (one:Bool) (F:AV) (xs:List (List AV)):Prop :=
 (∃ f a b,F=.fn f a b)∧F.deep=true∧∀ (u:Value) (J:Nat→bp) (Stop:bp→Prop),(∀ (i:Nat) (x:List AV),xs[i]?=some x→zO T tab one u x (J i) (CE (J (i+1)) Stop)) →
  au T tab one F [.oq u] [] (J 0) fun _ _ a'=>a'=J xs.length∨Stop a'
theorem ED.body {f:FuncId} {fn:Func} {c:Code} {first caps:List AV} {xs:List (List AV)} (hf:T.fn.get f=some fn) (hb:fn.body=some c) (hn:noEntry tab f=true) (hd:(AV.fn f first caps).deep=true)
  (hw:∀ (u:Value) (J:Nat→bp) (Stop:bp→Prop),(∀ (i:Nat) (x:List AV),xs[i]?=some x→zO T tab one u x (J i) (CE (J (i+1)) Stop)) →
   aB T tab one c ⟨Bl (first++[.oq u]++caps),[],J 0,false,0⟩ (Mu T fn.results.toList fun a'=>a'=J xs.length∨Stop a'))  :ED T tab one (.fn f first caps) xs:=by
 refine ⟨⟨f,first,caps,rfl⟩,hd,fun u J Stop hy E base H v us hr hF ha=>?_⟩;have hF:=hF.deep hd
 cases hF with
 | fn l1 l2 d1 d2 =>
  rename_i a' b';have hall:fN E.ρ H.get (E.O []) (first++[.oq u]++caps) (a'.toList++us++b'.toList):=fN.append (fN.append (sN.Di ⟨l1,d1⟩) ha) (sN.Di ⟨l2,d2⟩);refine ⟨.fn f (a'.toList++us++b'.toList),rfl,?_⟩;obtain ⟨m,L,h1,h2,h3⟩:=hw u J Stop hy E base ⟨setArgs .leaf 0 (a'.toList++us++b'.toList),H,false⟩ ⟨hr,rfl,wj hall⟩
  obtain ⟨m',M,hm,q1,q2,q3⟩:=fK (one:=one) (L:=L) (f:=fun _ (p:Exit × St)=>eY T fn.results.toList p) (P:=fun r=>∃ w H',r=.ret w H'∧∃ E' a hp' amb',(amb'=J xs.length∨Stop amb')∧aY E' base hp' amb' H'∧AR E'.ρ H'.get (E'.O hp') a w∧lf ([]:List AB).length base E [] H E' hp' H')
   (fun _ _ _ _ _ h=>h) m h2 (fun p hp=>by
    obtain ⟨E',st',k1,_,k2,k3⟩:=h3 p hp;obtain ⟨e,s'⟩:=p
    have done:(e=.normal∨e=.ret)→(pQ T st' fn.results.toList fun _=>st'.aC=J xs.length∨Stop st'.aC)→∃ (_:Nat) (M:List eU),eY T fn.results.toList (e,s')=some M∧qk one M fun r=>∃ w H',r=.ret w H'∧∃ E' a hp' amb',(amb'=J xs.length∨Stop amb')∧aY E' base hp' amb' H'∧AR E'.ρ H'.get (E'.O hp') a w∧lf ([]:List AB).length base E [] H E' hp' H':=by
     intro he hr;obtain ⟨ws,az,r1,r2,r3⟩:=lg k2 hr;refine ⟨0,[.ret (bT ws) s'.hp],?_,.single ⟨_,_,rfl,E',.cG,st'.hp,st'.aC,r2,k2.h,.cG,k3⟩⟩;unfold eY
     rcases he with rfl|rfl <;> simp only [r1,Option.map_some]
    cases e with
    | normal=>exact done (.inl rfl) k1
    | ret=>exact done (.inr rfl) k1
    | _=>exact k1.elim)
  refine ⟨m'+1,M,?_,q2,q3⟩;show RX T tab (m'+1) (.call f _ H)=_;rw [zg,oH _ _ hn];simp only;rw [ki,hf];simp only [hb];rw [ej (gk hm) _ _ _ h1];exact q1
theorem aB.Kt {f:Operand} {ps:Array Tmp} {az bd:Code} {st:bO} {K:Exit→bO→Prop} {xs:List (List AV)} (Hs:Nat→List AB) (As:Nat→bp) (Ps:Nat→Prop) {rdv:Bool} (hrd:st.rd=rdv) (hgen:ED T tab one (bg st.fr f) xs) (hflat:∀ i,(Hs i).all DA=true) (h0:Hs 0=st.hp) (ha0:As 0=st.aC) (hp0:Ps 0)
  (hround:∀ (i:Nat) (x:List AV),xs[i]?=some x→Ps i→x.length=ps.toList.length∧aB T tab one az ⟨Ds st.fr (ps.toList.zip x),Hs i,As i,true,st.hp.length⟩ (M0 fun s=>aB T tab one bd s (Ks (Hs (i+1)) (As (i+1)) (Ps (i+1)))))
  (hend:Ps xs.length→K .normal ⟨st.fr,Hs xs.length,As xs.length,rdv,st.fl⟩):aB T tab one (.rangeFunc f ps az bd) st K:=by
 intro E base s hs;obtain ⟨⟨gf,ga,gb,hF⟩,hdeep,hgen⟩:=hgen;subst hrd
 let l:=s.hp.n
 let LP:bz→(List AB→bp→Prop)→bp:=F0 st.hp.length E st.hp s.hp
 let blkR:bz:=.loop .ready none s.fr ps az bd
 let J:Nat→bp:=fun i=>LP blkR fun hp' amb'=>hp'=Hs i∧amb'=As i∧Ps i
 let Stop:bp→Prop:=fun _=>False
 let u:Value:=.func (.yield l) #[] #[]
 have hy:∀ (i:Nat) (x:List AV),xs[i]?=some x→zO T tab one u x (J i) (CE (J (i+1)) Stop):=by
  intro i x hx hp xs' hld E1 base1 H w us hr hw ha
  have hwu:w=u:=by
   cases hw with
   | d h=>cases h;rfl
  subst hwu;obtain ⟨hlow,hl,E',b',hp',amb',H',⟨rfl,rfl,hPi⟩,q2,q3,q4,⟨q5,q5'⟩,q6,q7,q8,q9⟩:=hr.aC;obtain ⟨hxl,hround⟩:=hround i x hx hPi;refine ⟨.yield l ([]++us),rfl,?_⟩;rw [List.nil_append];have hln:l < H.n:=hr.sn _ (hlow _ (qq6 _))
  let X2:Nat→Prop:=fun k=>E'.X k∨(k < H.n∧¬ E1.S k)
  have hv:aY {E' with X:=X2} base1 (Hs i) (As i) H:=q2.view hr.wf q4 (fun k h=>.inl h) (fun k h=>by
    rcases h with h|h
    ·exact .inl h
    ·by_cases hk:k < H'.n
     ·exact .inl ((q6 k hk).resolve_left h.2)
     ·exact .inr (by omega)) (fun k h=>h.elim (fun h=>Nat.lt_of_lt_of_le (q2.xn k h) q4) And.left)
   (fun k hk h=>by
    rcases h with h|h
    ·exact q8 k ((q6 k hk).resolve_right h) (fun e=>h (e ▸ q5))
    ·exact q8 k (q7 k h) (fun e=>q5' (e ▸ h))) (fun k hk=>hr.pO k (.inr (q9 k (hk.imp id .inl)))) hr.bn
  have f0:lf st.hp.length 0 E st.hp s.hp {E' with X:=X2} (Hs i) H:=⟨Nat.le_trans q3.n q4,q3.z5,q3.own,q3.d,fun k h=>by
    rcases h with h|h
    ·exact q3.x k h
    ·by_cases hk:k < s.hp.n
     ·exact absurd (hlow k (Nat.le_of_lt hk)) h.2
     ·exact .inr (by omega),fun k h=>.inl (q3.xk k h),q3.s,fun k hk h1 h2=>by rw [q8 k (hlow k (Nat.le_of_lt hk)) (by omega)];exact q3.same k hk h1 h2,by omega⟩
  let X3:Nat→Prop:=fun k=>X2 k∧¬ Own E1.ρ hp k
  have hsub:∀ k,({E' with X:=X3}:Env).O (Hs i) k→({E' with X:=X2}:Env).O (Hs i) k:=fun k h=>h.imp id And.left
  have hvL:aY {E' with X:=X3} base1 (Hs i) (As i) H:=by
   refine ⟨hv.wf,fun j b aJ hj hv2=>?_,hv.inj,hv.rn,hv.fresh,hv.new,hv.sup,fun k hk hX=>hv.hU k hk hX.1,fun k hd=>⟨hv.dx k hd,fun ho=>hr.sup k ho (q7 k (q2.ds k hd))⟩,hv.ds,hv.sn,fun k hX=>hv.xn k hX.1,hv.pO,hv.bn,hv.aC⟩
   rcases hv.gz j b aJ hj hv2 with ⟨k,b',p1,p2,p3⟩|h
   ·exact .inl ⟨k,b',p1,p2,p3.mono (fun _ _ _ h=>h) fun k b hk ho=>⟨hk,fun h=>ho (hsub k h)⟩⟩
   ·exact .inr h
  have hfrm:lY E'.ρ H.get (({E' with X:=X3}:Env).O (Hs i)) st.fr s.fr:=fun t=>(f0.ar hs.h.FZ (hs.fr t)).mono (fun _ _ _ h=>h) (fun k b hk ho=>⟨hk,fun h=>ho (hsub k h)⟩)
  have hown:∀ k,Own E1.ρ hp k→¬ ({E' with X:=X3}:Env).O (Hs i) k:=fun k hk h=>by
   rcases h with h|h
   ·exact hr.sup k hk (hr.ds k (q9 k (.inl h)))
   ·exact h.2 hk
  have hargs:fN E'.ρ H.get (({E' with X:=X3}:Env).O (Hs i)) x us:=by
   refine ⟨by rw [←ha.1];exact hld.1.symm,fun i' a w' h1 h2=>?_⟩;have hlt:i' < xs'.length:=by rw [hld.1];exact (List.getElem?_eq_some_iff.1 h1).1
   have h3:xs'[i']?=some xs'[i']:=List.getElem?_eq_getElem hlt;exact .d ((hld.2 i' _ _ h3 h1).dr hr hown (ha.2 i' _ _ h3 h2))
  obtain ⟨m1,L1,a1,a2,a3⟩:=hround {E' with X:=X3} base1 ⟨eC s.fr (ps.toList.zip us),H,true⟩ ⟨hvL,rfl,Bs _ hfrm hargs⟩;have hXl2:X2 s.hp.n:=.inl q5;have hXl3:X3 s.hp.n:=⟨hXl2,fun ho=>hr.sup _ ho (hlow _ (qq6 _))⟩
  obtain ⟨m,M,hm,z1,z2⟩:=fK (one:=one) (L:=L1) (f:=fun m (p:Exit × St)=>cU T (RX T tab m) l bd p) (P:=fun r=>∃ w H',r=.ret w H'∧∃ E5 a hp5 amb5,(hp5=hp∧∃ b,a=.fl (.bool b)∧CE (J (i+1)) Stop b amb5)∧aY E5 base1 hp5 amb5 H'∧AR E5.ρ H'.get (E5.O hp5) a w∧lf hp.length base1 E1 hp H E5 hp5 H')
   (fun n m x M hnm hx=>wv (gk hnm) hx) m1 a2 (fun p hp0=>by
    obtain ⟨E2,st2,k1,k2,k3,k4⟩:=a3 p hp0;obtain ⟨e,p⟩:=p
    cases e with
    | normal =>
     obtain ⟨hrd2,hbd⟩:=k1;have gl:p.hp.get l=some blkR:=by rw [k4.same l hln (fun h=>hvL.hU _ h hXl3) (fun h=>q5' (q2.ds _ h))];exact hl
     have hl2:l < p.hp.n:=Nat.lt_of_lt_of_le hln k4.n;have hX2l:E2.X l:=k4.xk l hXl3
     have hS2l:¬ E2.S l:=fun h=>by
      rcases k4.s l h with h|h
      ·exact q5' h
      ·have:H.n≤l:=h;omega
     let bB:bz:=.loop .busy none s.fr ps az bd
     have hv2:aY E2 base1 st2.hp st2.aC (p.hp.put l bB):=k3.h.view (X':=E2.X) (fun k hk=>by
       have hk:p.hp.n≤k:=hk
       rw [bY (by omega)];exact k3.h.wf k hk) (qq6 _) (fun _ h=>h) (fun _ h=>.inl h) k3.h.xn (fun k hk h=>bY fun e=>by
       subst e
       exact h.elim (fun h=>h hX2l) hS2l) k3.h.pO k3.h.bn
     have har2:lY E2.ρ (p.hp.put l bB).get (E2.O st2.hp) st2.fr p.fr:=fun t=>(k3.fr t).mono (fun _ _ _ h=>h) (fun k b hk ho=>⟨by rw [bY (fun e=>by subst e;exact ho (.inr hX2l))];exact hk,ho⟩);obtain ⟨m2,L2,b1,b2,b3⟩:=hbd E2 base1 ⟨p.fr,p.hp.put l bB,true⟩ ⟨hv2,hrd2.symm,har2⟩
     have F1:lf st.hp.length base1 {E' with X:=X3} (Hs i) (H.put l bB) E2 st2.hp (p.hp.put l bB):=⟨k4.n,k4.z5,k4.own,k4.d,k4.x,k4.xk,k4.s,fun k hk h1 h2=>by
       by_cases hkl:k=l
       ·subst hkl;rw [ia,ia]
       ·rw [bY hkl,bY hkl];exact k4.same k hk h1 h2,by
       have h5:min H.lo base1≤p.hp.lo:=k4.lo;have h3:(H.put l bB).lo=min H.lo l:=rfl;have h4:(p.hp.put l bB).lo=min p.hp.lo l:=rfl
       omega⟩
     have back:∀ {E4:Env} {amb4:bp} {q:St} (blk':bz) {Q':List AB→bp→Prop},aY E4 base1 (Hs (i+1)) amb4 q.hp→lf st.hp.length base1 E2 st2.hp (p.hp.put l bB) E4 (Hs (i+1)) q.hp→Q' (Hs (i+1)) amb4 →
       ∃ E5,aY E5 base1 hp (LP blk' Q') (q.hp.put l blk')∧lf hp.length base1 E1 hp H E5 hp (q.hp.put l blk'):=by
      intro E4 amb4 q blk' Q' h4 f4 hQ;have ft:=F1.trans f4
      have h4':aY {E4 with X:=fun k=>E4.X k∨X2 k} base1 (Hs (i+1)) amb4 q.hp:=by
       refine ⟨h4.wf,fun j b aJ hj hv2=>?_,h4.inj,h4.rn,h4.fresh,h4.new,h4.sup,fun k hk hX=>?_,fun k hd=>.inl (h4.dx k hd),h4.ds,h4.sn,fun k hX=>?_,h4.pO,h4.bn,h4.aC⟩
       ·rcases h4.gz j b aJ hj hv2 with ⟨k,b',p1,p2,p3⟩|h
        ·exact .inl ⟨k,b',p1,p2,BR.flat (List.all_eq_true.1 (hflat (i+1)) b (List.mem_of_getElem? hj)) p3⟩
        ·exact .inr h
       ·rcases hX with hX|hX
        ·exact h4.hU k hk hX
        ·rcases ft.own k hk with h5|h5
         ·exact hv.hU k h5 hX
         ·have:H.n≤k:=h5;have:=hv.xn k hX;omega
       ·rcases hX with hX|hX
        ·exact h4.xn k hX
        ·exact Nat.lt_of_lt_of_le (hv.xn k hX) ft.n
      have f4':lf st.hp.length base1 {E' with X:=X2} (Hs i) (H.put l bB) {E4 with X:=fun k=>E4.X k∨X2 k} (Hs (i+1)) q.hp :=
       ⟨ft.n,ft.z5,ft.own,ft.d,fun k h=>by
        rcases h with h|h
        ·exact (ft.x k h).imp And.left id
        ·exact .inl h,fun k h=>.inr h,ft.s,ft.same,ft.lo⟩
      exact Em (E:={E' with X:=X2}) hr (fun k hk=>by
        by_cases hs1:E1.S k
        ·exact .inl hs1
        ·exact .inr (.inr ⟨hk,hs1⟩)) hXl2 q5' q7 q9 hlow f0 h4' f4' hQ
     refine ⟨max m2 0,?_⟩
     obtain ⟨m3,M3,hm3,y1,y2⟩:=fK (one:=one) (L:=L2) (f:=fun _ (q:Exit × St)=>iD l q) (P:=fun r=>∃ w H',r=.ret w H'∧∃ E5 a hp5 amb5,(hp5=hp∧∃ b,a=.fl (.bool b)∧CE (J (i+1)) Stop b amb5)∧aY E5 base1 hp5 amb5 H'∧AR E5.ρ H'.get (E5.O hp5) a w∧lf hp.length base1 E1 hp H E5 hp5 H')
      (fun _ _ _ _ _ h=>h) 0 b2 (fun q hq=>by
       obtain ⟨E3,st3,j1,j2,j3,j4⟩:=b3 q hq;obtain ⟨e,q⟩:=q;have gl2:q.hp.get l=some bB:=by rw [j4.same l hl2 (fun h=>hv2.hU _ h hX2l) (fun h=>hS2l (hv2.ds _ h))];exact ia
       have jfl:st2.fl=st.hp.length:=k2
       cases e with
       | normal =>obtain ⟨hPn,fr',hwk⟩:=j1;obtain ⟨E4,h4,f4⟩:=hwk.LM j3;rw [j2,jfl] at f4;rw [jfl] at j4;obtain ⟨E5,x1,x2⟩:=back (q:=q) (.loop .ready none s.fr ps az bd) (Q':=fun hp' amb'=>hp'=Hs (i+1)∧amb'=As (i+1)∧Ps (i+1)) h4 (j4.trans f4) ⟨rfl,rfl,hPn⟩;exact ⟨0,[.ret (.bool true) (q.hp.put l (.loop .ready none s.fr ps az bd))],by unfold iD;simp only [gl2,bB],.single ⟨_,_,rfl,E5,.fl (.bool true),hp,_,⟨rfl,true,rfl,.inl ⟨rfl,rfl⟩⟩,x1,.d (.fl rfl),x2⟩⟩
       | _=>exact j1.elim)
     refine ⟨M3,?_,y2⟩;unfold cU;simp only [gl,blkR];rw [ej (gk (Nat.le_max_left m2 0)) _ _ _ b1];exact y1
    | _=>exact k1.elim)
  refine ⟨m+1,M,?_,z2⟩;show RX T tab (m+1) (.round l us H)=_;rw [FK,nF,hl];simp only [blkR];rw [show Nat.beq us.length ps.toList.length=true by rw [←ha.1,hld.1,hxl];exact Nat.beq_refl _];simp only [cond_true];rw [ej (gk hm) _ _ _ a1];exact z1
 let E1:Env:=⟨fun _ _=>none,fun k=>Own E.ρ st.hp k∨E.D k∨k=l,fun k=>k≤l,fun k=>Own E.ρ st.hp k∨E.X k∨k=l⟩
 have hno:∀ k,¬ Own E1.ρ [] k:=fun k ⟨j,b,aJ,h,_⟩=>by cases h
 have hwf1:Wf (s.hp.push blkR):=(cW.push s.hp blkR).wf hs.h.wf
 have hrel1:aY E1 base [] (J 0) (s.hp.push blkR) :=
  {wf:=hwf1,gz:=fun j b aJ h _=>(by cases h),inj:=fun j j' aJ ver' k h=>(by cases h),rn:=fun j v k h=>(by cases h),fresh:=fun j b aJ v h=>(by cases h),new:=fun _ _ _=>rfl,
   sup:=fun k h=>(hno k h).elim,hU:=fun k h=>(hno k h).elim,dx:=fun k h=>h.imp id (fun h=>h.imp (hs.h.dx k) id),
   ds:=fun k h=>by
    rcases h with h|h|h
    ·exact Nat.le_of_lt (hs.h.kZ h)
    ·exact Nat.le_of_lt (hs.h.sn k (hs.h.ds k h))
    ·exact Nat.le_of_eq h
   sn:=fun k h=>Nat.lt_succ_of_le h
   xn:=fun k h=>by
    show k < s.hp.n+1
    rcases h with h|h|h
    ·exact Nat.lt_succ_of_lt (hs.h.kZ h)
    ·exact Nat.lt_succ_of_lt (hs.h.xn k h)
    ·have:k=s.hp.n:=h;omega
   pO:=fun k h=>by
    rcases h with h|h|h|h
    ·exact (hno k h).elim
    ·exact hs.h.pO k (.inl h)
    ·exact hs.h.pO k (.inr h)
    ·rw [h];exact hs.h.bn
   bn:=Nat.le_succ_of_le hs.h.bn
   aC:=by
    refine ⟨fun k h=>h,iQ,{E with X:=fun k=>E.X k∨k=s.hp.n},base,st.hp,st.aC,s.hp.push blkR,⟨h0.symm,ha0.symm,hp0⟩,hs.h.view hwf1 (Nat.le_succ _) (fun k h=>.inl h) (fun k h=>h.imp id (fun h=>Nat.le_of_eq h.symm)) (fun k h=>?_) (fun k hk _=>cz hk) hs.h.pO (Nat.le_succ_of_le hs.h.bn),
     ⟨Nat.le_succ _,fun _ _ _ _ h=>h,fun _ h=>.inl h,fun _ h=>.inl h,fun k h=>h.imp id (fun h=>Nat.le_of_eq h.symm),fun _ h=>.inl h,fun _ h=>.inl h,fun k hk _ _=>cz hk,by omega⟩,qq6 _,⟨.inr rfl,fun h=>Nat.lt_irrefl _ (hs.h.sn _ h)⟩,fun k hk=>.inl (Nat.le_of_lt_succ hk),fun k h=>Nat.le_of_lt (hs.h.sn k h),fun _ _ _=>rfl,fun k h=>h⟩
    show k < s.hp.n+1
    rcases h with h|h
    ·exact Nat.lt_succ_of_lt (hs.h.xn k h)
    ·omega}
 have hFv:=lH hs.fr f;have hdF:=hFv.deep hdeep
 have hF1:AR E1.ρ (s.hp.push blkR).get (E1.O []) (bg st.fr f) (aU s.fr f):=.d (hdF.mono fun k b hk ho=>by
  have hlt:=hs.h.wf.lt hk;refine ⟨by rw [cz hlt];exact hk,fun h=>?_⟩
  rcases h with h|h|h|h
  ·exact hno k h
  ·exact ho (.inl h)
  ·exact ho (.inr h)
  ·have:k=s.hp.n:=h;omega)
 obtain ⟨goal,hgo,m,L,c1,c2,c3⟩:=hgen u J Stop hy E1 base (s.hp.push blkR) _ [u] hrel1 hF1 (.cons (.d (.oq rfl)) .nil)
 have hgfn:∃ az',goal=.fn gf az':=by
  rw [hF] at hdF;generalize aU s.fr f=fv at hdF hgo
  cases hdF with
  | fn _ _ _ _=>exact ⟨_,by cases hgo;rfl⟩
 obtain ⟨az',rfl⟩:=hgfn
 obtain ⟨m',M,hm,z1,z2⟩:=fK (one:=one) (L:=L) (f:=fun _ (r:eU)=>lR l s.fr s.rd r) (P:=fun p=>rE E base st s (K p.1) p.2) (fun _ _ _ _ _ h=>h) m c2 (fun r hr=>by
  obtain ⟨w,H2,rfl,E2,a,hp2,amb2,k1,k2,k3,k4⟩:=c3 r hr
  have fin:∀ {gz:bz} (blk':bz) {Q:List AB→bp→Prop} {e:Exit},amb2=LP gz Q→(∀ hp' amb',Q hp' amb'→K e ⟨st.fr,hp',amb',st.rd,st.fl⟩)→H2.get l=some gz∧rE E base st s (K e) ⟨s.fr,H2.put l blk',s.rd⟩:=by
   intro gz blk' Q e ha hQ;subst ha;obtain ⟨hlow,hl,E',b',hp',amb',H',q1,q2,q3,q4,⟨q5,q5'⟩,q6,q7,q8,q9⟩:=k2.aC;have hln:l < H2.n:=k2.sn _ (hlow _ (qq6 _));have hbl:base≤l:=k2.pO _ (.inr (q9 _ (.inr (.inr rfl))));have hg2:∀ k,E2.S k→k ≠ l→(H2.put l blk').get k=H'.get k:=fun k h1 h2=>by rw [bY h2];exact q8 k h1 h2
   have hfin:aY {E' with X:=fun k=>E'.X k∨(k < H2.n∧¬ E2.S k)} base hp' amb' (H2.put l blk'):=q2.view (fun k hk=>by
      have hk:H2.n≤k:=hk
      rw [bY (by omega)];exact k2.wf k hk) q4 (fun k h=>.inl h) (fun k h=>by
     rcases h with h|h
     ·exact .inl h
     ·by_cases hk:k < H'.n
      ·exact .inl ((q6 k hk).resolve_left h.2)
      ·exact .inr (by omega)) (fun k h=>h.elim (fun h=>Nat.lt_of_lt_of_le (q2.xn k h) q4) And.left)
    (fun k hk h=>by
     rcases h with h|h
     ·exact hg2 k ((q6 k hk).resolve_right h) (fun e=>h (e ▸ q5))
     ·exact hg2 k (q7 k h) (fun e=>q5' (by have e:k=s.hp.n:=e;rw [←e];exact h))) (fun k hk=>k2.pO k (.inr (q9 k (hk.imp id .inl)))) k2.bn
   have ff:lf st.hp.length base E st.hp s.hp {E' with X:=fun k=>E'.X k∨(k < H2.n∧¬ E2.S k)} hp' (H2.put l blk'):=⟨Nat.le_trans q3.n q4,q3.z5,q3.own,q3.d,fun k h=>by
     rcases h with h|h
     ·exact q3.x k h
     ·by_cases hk:k < s.hp.n
      ·exact absurd (hlow k (Nat.le_of_lt hk)) h.2
      ·exact .inr (by omega),fun k h=>.inl (q3.xk k h),q3.s,fun k hk h1 h2=>by rw [hg2 k (hlow k (Nat.le_of_lt hk)) (Nat.ne_of_lt hk)];exact q3.same k hk h1 h2,by
     have h1:=k4.lo;have h2:(s.hp.push blkR).lo=s.hp.lo:=rfl;have h3:(H2.put l blk').lo=min H2.lo l:=rfl
     omega⟩
   exact ⟨hl,_,⟨st.fr,hp',amb',st.rd,st.fl⟩,hQ _ _ q1,rfl,⟨hfin,hs.rd,fun t=>ff.ar hs.h (hs.fr t)⟩,ff.low hs.h _⟩
  rcases k1 with k1|k1
  ·obtain ⟨g1,g2⟩:=fin (.loop .exhausted none s.fr ps az bd) (e:=.normal) k1 (fun hp' amb' ⟨h1,h2,h3⟩=>by subst h1;subst h2;exact hend h3);exact ⟨0,[(.normal,⟨s.fr,H2.put l (.loop .exhausted none s.fr ps az bd),s.rd⟩)],by unfold lR;simp only [g1,blkR],.single g2⟩
  ·exact k1.elim)
 refine ⟨m',M,?_,z2⟩;rw [kT];unfold mh;have hgo':cC (aU s.fr f) [Value.func (Fn.yield s.hp.n) #[] #[]]=some (.fn gf az'):=hgo;simp only [hgo'];have:RX T tab m' (.call gf az' (s.hp.push (.loop .ready none s.fr ps az bd)))=some L:=gk hm _ _ c1;rw [this];exact z1
end
end Go.RM
set_option autoImplicit false
namespace Go.RM
set_option maxRecDepth 100000
inductive Dn:AV→AV→Prop
 | refl (a:AV):Dn a a
 | nil {b:Bool}:Dn (.fl (.slice none 0 0)) (.sl [] b)
 | sl {els els':List (List AV)} {full full':Bool} (hf:full'=true→full=true) (hl:els.length=els'.length) (hc:∀ (i:Nat) (el el':List AV),els[i]?=some el→els'[i]?=some el'→el.length=el'.length)
  (h:∀ (i:Nat) (el el':List AV) (j:Nat) (a a':AV),els[i]?=some el→els'[i]?=some el'→el[j]?=some a→el'[j]?=some a'→Dn a a'):Dn (.sl els full) (.sl els' full')
theorem qn {α β:Type} {l:List α} {l':List β} (h:l.length=l'.length) {i:Nat} {a:β} (hi:l'[i]?=some a):∃ b,l[i]?=some b:=by have:=(List.getElem?_eq_some_iff.1 hi).1;exact ⟨l[i],List.getElem?_eq_getElem (by omega)⟩
theorem Dn.dr {g:aK} {O:Nat→Prop} {a b:AV} (h:Dn a b):∀ {u:Value},DR g O a u→DR g O b u:=by
 induction h with
 | refl a=>intro u h;exact h
 | nil =>
  intro u h
  cases h with
  | fl _=>exact .nil
 | @sl els els' full full' hf hl hc hd ih =>
  intro u h
  cases h with
  | nil =>have:els'=[]:=List.length_eq_zero_iff.1 hl.symm;rw [this];exact .nil
  | sl h1 h2 h3 h4 h5 h6 h7 =>
   refine .sl h1 h2 h3 (by omega) (fun i el hi=>?_) (fun i el j x u hi hj hu=>?_) (fun e=>h7 (hf e))
   ·obtain ⟨el0,h0⟩:=qn hl hi;rw [←hc i el0 el h0 hi];exact h5 i el0 h0
   ·obtain ⟨el0,h0⟩:=qn hl hi;obtain ⟨x0,hx0⟩:=qn (hc i el0 el h0 hi) hj;exact ih i el0 el j x0 x h0 hi hx0 hj (h6 i el0 j x0 u h0 hx0 hu)
variable {T : bF} {tab : List XE} {one : Bool}
theorem ak.dn {F:AV} {args:List AV} {v v':AV} (h:ak T tab one F args v) (hd:Dn v v') (hv:v'.deep=true):ak T tab one F args v':=by refine ⟨hv,fun X H u us hwf hX hF ha=>?_⟩;obtain ⟨goal,hg,m,L,h1,h2,h3⟩:=h.2 X H u us hwf hX hF ha;refine ⟨goal,hg,m,L,h1,h2,fun r hm=>?_⟩;obtain ⟨w,H',q1,q2,q3,q4,q5,q6⟩:=h3 r hm;exact ⟨w,H',q1,q2,q3,q4,q5,hd.dr q6⟩
end Go.RM
namespace Go.RM
open Go
theorem CY (P:Program) {t:TypeId} {x y:Operand} {m n:Int}:(∃ z:Nat,z < 18446744073709551616∧eN P .xor t x y (.int .u64 m) (.int .u64 n)=some (.int .u64 (z:Int),.none))∧(∃ z:Nat,z < 18446744073709551616∧eN P .shl t x y (.int .u64 m) (.int .u64 13)=some (.int .u64 (z:Int),.none))∧(∃ z:Nat,z < 18446744073709551616∧eN P .shl t x y (.int .u64 m) (.int .u64 17)=some (.int .u64 (z:Int),.none)):=by
 have w:∀ k:Int,∃ z:Nat,z < 18446744073709551616∧IntKind.wrap .u64 k=(z:Int):=fun k=>by refine ⟨(k % 18446744073709551616).toNat,by omega,?_⟩;show k % 18446744073709551616=_;omega
 refine ⟨?_,?_,?_⟩
 ·obtain ⟨z,h1,h2⟩:=w ((BitVec.ofInt 64 m ^^^ BitVec.ofInt 64 n).toNat:Int);exact ⟨z,h1,by rw [←h2];rfl⟩
 ·obtain ⟨z,h1,h2⟩:=w (m * 2 ^ 13);exact ⟨z,h1,by rw [←h2];rfl⟩
 ·obtain ⟨z,h1,h2⟩:=w (m * 2 ^ 17);exact ⟨z,h1,by rw [←h2];rfl⟩
section
variable {T : bF} {a b : AV} {t : TypeId} {x y : Operand} {hp : List AB} {K : AV → List AB → Prop}
theorem L9 {m n:Int} (ha:a=.fl (.int .u64 m)) (hb:b=.fl (.int .u64 n)) (h:∀ z:Nat,z < 18446744073709551616→K (.fl (.int .u64 (z:Int))) hp):aV T .xor t x y a b hp K:=by subst ha hb;obtain ⟨z,h1,h2⟩:=(CY T.P (t:=t) (x:=x) (y:=y) (m:=m) (n:=n)).1;exact ⟨_,_,rfl,rfl,.int .u64 (z:Int),h2,rfl,h z h1⟩
theorem KP {m:Int} (ha:a=.fl (.int .u64 m)) (hb:b=.fl (.int .u64 13)) (h:∀ z:Nat,z < 18446744073709551616→K (.fl (.int .u64 (z:Int))) hp):aV T .shl t x y a b hp K:=by subst ha hb;obtain ⟨z,h1,h2⟩:=(CY T.P (t:=t) (x:=x) (y:=y) (m:=m) (n:=m)).2.1;exact ⟨_,_,rfl,rfl,.int .u64 (z:Int),h2,rfl,h z h1⟩
theorem KQ {m:Int} (ha:a=.fl (.int .u64 m)) (hb:b=.fl (.int .u64 17)) (h:∀ z:Nat,z < 18446744073709551616→K (.fl (.int .u64 (z:Int))) hp):aV T .shl t x y a b hp K:=by subst ha hb;obtain ⟨z,h1,h2⟩:=(CY T.P (t:=t) (x:=x) (y:=y) (m:=m) (n:=m)).2.2;exact ⟨_,_,rfl,rfl,.int .u64 (z:Int),h2,rfl,h z h1⟩
theorem Mb {m:Nat} (ha:a=.fl (.int .u64 (m:Int))) (hb:b=.fl (.int .u64 7)) (h:∀ z:Nat,z < 18446744073709551616→K (.fl (.int .u64 (z:Int))) hp) (hm:m < 18446744073709551616):aV T .shr t x y a b hp K:=by
 subst ha hb;have e:eN T.P .shr t x y (.int .u64 (m:Int)) (.int .u64 7)=some (.int .u64 ((m:Int).fdiv (2 ^ 7)),.none):=rfl;have e2:(m:Int).fdiv (2 ^ 7)=((m / 128:Nat):Int):=by rw [Int.fdiv_eq_ediv_of_nonneg _ (Int.pow_nonneg (by decide))];omega
 rw [e2] at e;exact ⟨_,_,rfl,rfl,.int .u64 ((m / 128:Nat):Int),e,rfl,h _ (by omega)⟩
end
end Go.RM
namespace Go.RM
open Go
section
variable {T : bF} {own : Bool} {fr : Nat → AV} {hp : List AB} {K : AV → List AB → Prop} {t u e : TypeId} {a1 a2 a3 a4 a5 a6}
theorem Mo {l c:Operand} {n:Nat} {inf:uF} (hi:elem? T t=some inf) (hl:bg fr l=.fl (.int .i64 ((0:Nat):Int))) (hc:bg fr c=.fl (.int .i64 (n:Int))) (h0:0 < n) (hb:inf.bytes * n≤140737488355328∧n≤9223372036854775807) (hz:bS inf=true) (h:K (.aI hp.length 0 0 0 (n+3)) (hp++[.cells ((cg (zeroCells inf) (n * inf.size)).map .fl) inf.size 0])):wpOp T own (.makeSlice t l c) fr hp K:=by show qh T t (bg fr l) (bg fr c) hp K;unfold qh;simp only [hi,hl,hc];refine ⟨0,n,rfl,rfl,⟨qq5 _,hb⟩,hz,?_⟩;obtain ⟨m,rfl⟩:∃ m,n=m+1:=⟨n - 1,by omega⟩;exact h
theorem Me {s x:Operand} {j aJ o n c es:Nat} {cs:List AV} {els:List (List AV)} {f:Bool} {inf:uF} (hs:bg fr s=.aI j aJ o n c) (hx:bg fr x=.sl els f) (hu:T.ty.get u=some ⟨.slice e,a1,a2,a3,a4,a5,a6⟩) (hi:elem? T t=some inf) (hz:bS inf=true)
  (hel:∀ el ∈ els,el.length=inf.size) (h1:els.flatten.all AV.one=true) (hj:hp[j]?=some (.cells cs es aJ)) (hne:els ≠ []) (hr:n+els.length+3≤c) (hl:o+(n+els.length) * inf.size≤cs.length∧0 < cs.length) (hb:(n+els.length) * inf.bytes≤140737488355328∧n+els.length≤9223372036854775807)
  (hk:K (.aI j aJ o (n+els.length) c) (hp.set j (.cells (aQ cs els.flatten (o+n * inf.size)) es aJ))):wpOp T own (.call ⟨.builtin .append,[s,x].toArray,[t,u].toArray⟩) fr hp K:=by
 show force (bg fr s) fun a=>force (bg fr x) fun b=>iS T own .append [a,b] [t,u] hp K;rw [hs,hx];show (match T.ty.get u with|some ⟨.slice _,_,_,_,_,_,_⟩=>ld T own t (.aI j aJ o n c) (.sl els f) hp K|_=>False);rw [hu];show ld T own t (.aI j aJ o n c) (.sl els f) hp K;unfold ld;rw [hi];have:=List.length_pos_iff.2 hne;exact ⟨hz,els,⟨hel,rfl⟩,h1,.inr ⟨cs,es,hj,⟨by omega,hr,hl⟩,hb,fun h=>absurd h hne,fun _=>hk⟩⟩
theorem Jt {x hi:Operand} {j aJ o n c h:Nat} {inf:uF} (hx:bg fr x=.aI j aJ o n c) (hh:bg fr hi=.fl (.int .i64 (h:Int))) (hi':elem? T t=some inf) (hb:h < n∧n+3≤c) (h1:1≤inf.size) (k:K (.aI j aJ o h c) hp):wpOp T own (.slice t x none (some hi) none) fr hp K:=by show mR T t (bg fr x) none (some (bg fr hi)) hp K;rw [hx,hh];unfold mR;simp only [hi'];refine ⟨0,h,rfl,rfl,⟨qq5 _,Nat.le_of_lt hb.1⟩,h1,?_⟩;rw [show Nat.beq h n=false from uN (by omega),show Nat.ble (n+3) c=true from Nat.ble_eq_true_of_le hb.2,Nat.zero_mul];exact k
theorem Mf {d x:Operand} {j aJ o n c es:Nat} {cs:List AV} {els:List (List AV)} {f:Bool} {inf:uF} (hd:bg fr d=.aI j aJ o n c) (hx:bg fr x=.sl els f) (hi:elem? T t=some inf) (hel:∀ el ∈ els,el.length=inf.size) (h1:els.flatten.all AV.one=true)
  (hj:hp[j]?=some (.cells cs es aJ)) (hb:1≤n∧els.length≤n∧0 < cs.length) (hl:o+n * inf.size≤cs.length) (k:K (.fl (.int .i64 (Int.ofNat els.length))) (hp.set j (.cells (aQ cs els.flatten o) es aJ))):wpOp T own (.call ⟨.builtin .copy,[d,x].toArray,[t,u].toArray⟩) fr hp K:=by
 show force (bg fr d) fun a=>force (bg fr x) fun b=>iS T own .copy [a,b] [t,u] hp K;rw [hd,hx];show wg T t (.aI j aJ o n c) (.sl els f) hp K;unfold wg;rw [hi];exact ⟨els,cs,es,⟨hel,rfl⟩,h1,hj,hb,hl,k⟩
end
theorem qq1 {T tab one c st K} (h:kJ T tab one (fun _=>false) c st K):aB T tab one c st K:=aa h
theorem qq2 {T tab one a b st K} (h:kJ T tab one (fun _=>false) a st (sU (fun s=>aB T tab one b s K) K)):aB T tab one (.seq a b) st K:=nc h
theorem qq3 {T tab one F l hp a Q} (h:au T tab one F l hp a Q):au T tab one F l hp a Q:=h
theorem qq4 {T own t x i fr hp K} (h:RM.wpOp T own (.indexAddr t x i) fr hp K):RM.wpOp T own (.indexAddr t x i) fr hp K:=h
end Go.RM
