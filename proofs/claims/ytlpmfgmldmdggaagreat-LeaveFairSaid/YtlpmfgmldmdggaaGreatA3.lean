/-
  A layer of contracts over the abstract machine. Lemmas alone; no condition.
-/
import Derived.Test.YtlpmfgmldmdggaaGreatA2
namespace Go.RM
open Go
section
variable {T : bC} {tab : List XE} {one : Bool} {mu : Tmp → Bool} {base : Nat} {E : Env} {hp : List AB} {aC : bJ} {H : Hp} {ρ : Nat → Nat → Option Nat} {g : aG} {O O' : Nat → Prop}
theorem iU {a b:Code} {st:bO} {K:Exit→bO→Prop} (h:kA T tab one mu a st (qU (fun s=>ay T tab one b s K) K)):ay T tab one (.seq a b) st K:=.seq (aa h)
def aZ (j:Nat) (ρ:Nat→Nat→Option Nat):Nat→Nat→Option Nat:=fun i v=>if i=j then none else ρ i v
mutual
def AV.pX (j:Nat):AV→Bool
 | .fl _=>true
 | .sl _ _=>true
 | .pt _ _=>true
 | .fn _ a b=>xp j a && xp j b
 | .ag a=>xp j a
 | .tp a=>xp j a
 | .oq _=>true
 | .cA=>true
 | .ptr i _ _=>!Nat.beq i j
 | .aL i _ _ _ _=>!Nat.beq i j
 | .om i=>!Nat.beq i j
def xp (j:Nat):List AV→Bool
 | []=>true
 | a :: l=>a.pX j && xp j l
end
theorem kn {j:Nat}:∀ {l:List AV},xp j l=true→∀ (i:Nat) (a:AV),l[i]?=some a→a.pX j=true
 | [],_,i,a,h=>by cases h
 | x :: l,h,i,a,ha=>by
  simp only [xp,qq7] at h
  cases i with
  | zero=>cases ha;exact h.1
  | succ i=>exact kn h.2 i a (by simpa using ha)
theorem qW {i j:Nat} (h:(!Nat.beq i j)=true):i ≠ j:=by intro e;subst e;rw [Nat.beq_refl] at h;cases h
theorem AR.pX {j:Nat} (hO:∀ k,O' k→O k) {v:AV} {u:Value} (h:AR ρ g O v u):v.pX j=true→AR (aZ j ρ) g O' v u:=by
 induction h with
 | d h=>intro _;exact .d (h.mono fun k b hk ho=>⟨hk,fun h=>ho (hO k h)⟩)
 | cA=>intro _;exact .cA
 | ptr h=>intro hd;simp only [AV.pX] at hd;exact .ptr (by rw [aZ,if_neg (qW hd)];exact h)
 | aL h=>intro hd;simp only [AV.pX] at hd;exact .aL (by rw [aZ,if_neg (qW hd)];exact h)
 | qK hc=>intro _;exact .qK hc
 | om h=>intro hd;simp only [AV.pX] at hd;exact .om (by rw [aZ,if_neg (qW hd)];exact h)
 | fn ha hb h1 h2 ih1 ih2 =>intro hd;simp only [AV.pX,qq7] at hd;exact .fn ha hb (fun i x u hx hu=>ih1 i x u hx hu (kn hd.1 i x hx)) (fun i x u hx hu=>ih2 i x u hx hu (kn hd.2 i x hx))
 | ag ha h1 ih=>intro hd;simp only [AV.pX] at hd;exact .ag ha (fun i x u hx hu=>ih i x u hx hu (kn hd i x hx))
 | tp ha h1 ih=>intro hd;simp only [AV.pX] at hd;exact .tp ha (fun i x u hx hu=>ih i x u hx hu (kn hd i x hx))
def AB.pX (j:Nat):AB→Bool
 | .cells cs _ _=>xp j cs
 | .dL _ _=>true
 | .map ents _=>ents.all fun p=>p.1.pX j && p.2.1.pX j
 | .iter i _ _ _=>!Nat.beq i j
 | .gone=>true
inductive Gv (j aE:Nat) (cs:List AV):AV→AV→Prop
 | same {a:AV}:a.pX j=true→Gv j aE cs a a
 | ptr {o:Nat}:Gv j aE cs (.ptr j aE o) (.pt cs o)
 | row {o n c:Nat} {els:List (List AV)} {b:Bool} (es:Nat):o+n * es≤cs.length→els.length=n→(∀ el ∈ els,el.length=es)→els.flatten=(cs.drop o).take (n * es)→(b=true→c=n)→Gv j aE cs (.aL j aE o n c) (.sl els b)
 | cA {a:AV}:Gv j aE cs a .cA
def vZ (j aE:Nat) (cs:List AV) (fr:Nat→AV):List (Nat × AV)→Prop
 | []=>True
 | (i,v) :: l=>Gv j aE cs (fr i) v∧vZ j aE cs fr l
theorem zn {j aE:Nat} {cs:List AV} {fr:Nat→AV}:∀ {l:List (Nat × AV)},vZ j aE cs fr l→∀ t,Gv j aE cs (fr t) (aT l t)
 | [],_,t=>.cA
 | (i,v) :: l,h,t=>by
  unfold aT;rw [Tr.beq_eq];by_cases hti:t=i
  ·rw [decide_eq_true hti,hti];exact h.1
  ·rw [decide_eq_false hti];exact zn h.2 t
theorem ak.LU {st:bO} {l:List (Nat × AV)} {j aE es:Nat} {cs:List AV} (hj:st.hp[j]?=some (.cells cs es aE)) (hn:st.fl≤j) (hd:cV cs=true) (hs:vZ j aE cs st.fr l) (hb:∀ (i:Nat) (b:AB),st.hp[i]?=some b→i ≠ j→b.pX j=true) :
  ak st ⟨aT l,st.hp.set j .gone,st.aC,st.rd,st.fl⟩:=by
 have hlt:j < st.hp.length:=(List.getElem?_eq_some_iff.1 hj).1;refine ⟨rfl,fun E base s hs'=>?_⟩;have hr:=hs'.h
 have hget:∀ (i:Nat) (b:AB) (aE:Nat),(st.hp.set j .gone)[i]?=some b→b.ver?=some aE→i ≠ j∧st.hp[i]?=some b:=by
  intro i b aE hi hv;by_cases hij:i=j
  ·subst hij;rw [List.getElem?_set_self hlt] at hi;cases hi;cases hv
  ·rw [List.getElem?_set_ne (Ne.symm hij)] at hi;exact ⟨hij,hi⟩
 have hdr:∀ {i v k:Nat},aZ j E.ρ i v=some k→i ≠ j∧E.ρ i v=some k:=by
  intro i v k h;unfold aZ at h;split at h
  ·cases h
  ·rename_i hne;exact ⟨hne,h⟩
 have hown:∀ k,Own (aZ j E.ρ) (st.hp.set j .gone) k→Own E.ρ st.hp k:=by rintro k ⟨i,b,v,h1,h2,h3⟩;exact ⟨i,b,v,(hget i b v h1 h2).2,h2,(hdr h3).2⟩
 have hOs:∀ k,({E with ρ:=aZ j E.ρ}:Env).O (st.hp.set j .gone) k→E.O st.hp k:=fun k h=>h.imp (hown k) id
 have hpt:∀ {o:Nat} {u:Value},AR E.ρ s.hp.get (E.O st.hp) (.ptr j aE o) u→AR (aZ j E.ρ) s.hp.get (({E with ρ:=aZ j E.ρ}:Env).O (st.hp.set j .gone)) (.pt cs o) u:=by
  intro o u h;obtain ⟨k,hk,rfl⟩:=h.cX;obtain ⟨cs',q1,q2⟩:=hr.cells hj hk
  have hnO:¬ ({E with ρ:=aZ j E.ρ}:Env).O (st.hp.set j .gone) k:=by
   rintro (⟨i,b,v,h1,h2,h3⟩|hx)
   ·have:=hdr h3;exact this.1 (hr.inj i j v aE k this.2 hk)
   ·exact hr.gW k ⟨j,_,aE,hj,rfl,hk⟩ hx
  have:=q2.deep hd;refine .d (?_:DR _ _ (.pt cs o) (.pointer (some ⟨k,o,none⟩)))
  have h0:DR s.hp.get (({E with ρ:=aZ j E.ρ}:Env).O (st.hp.set j .gone)) (.pt cs o) (.pointer (some ⟨k,0+o,none⟩)) :=
   .pt q1 hnO (by rw [Nat.zero_add,this.1];exact qq6 _) (fun i a u x y=>(this.2 i a u x (by rw [Nat.zero_add] at y;exact y)).mono fun k b hk ho=>⟨hk,fun h=>ho (hOs k h)⟩)
  rw [Nat.zero_add] at h0;exact h0
 have hrow:∀ {o n c:Nat} {els:List (List AV)} {b:Bool} {u:Value} (es:Nat),o+n * es≤cs.length→els.length=n→(∀ el ∈ els,el.length=es)→els.flatten=(cs.drop o).take (n * es)→(b=true→c=n)→AR E.ρ s.hp.get (E.O st.hp) (.aL j aE o n c) u →
   AR (aZ j E.ρ) s.hp.get (({E with ρ:=aZ j E.ρ}:Env).O (st.hp.set j .gone)) (.sl els b) u:=by
  intro o n c els b u es g1 g2 g3 g4 g5 h
  rcases h.dW with ⟨k,hk,rfl⟩|⟨rfl,rfl,rfl⟩
  ·obtain ⟨cs',q1,q2⟩:=hr.cells hj hk
   have hnO:¬ ({E with ρ:=aZ j E.ρ}:Env).O (st.hp.set j .gone) k:=by
    rintro (⟨i,b,v,h1,h2,h3⟩|hx)
    ·have:=hdr h3;exact this.1 (hr.inj i j v aE k this.2 hk)
    ·exact hr.gW k ⟨j,_,aE,hj,rfl,hk⟩ hx
   have hdp:=q2.deep hd;refine .d (.sl (es:=es) q1 hnO (by rw [←q2.1];exact g1) g2 (fun i el he=>g3 el (List.mem_of_getElem? he)) (fun i el jj a u he hx hu=>?_) g5);have hjj:jj < es:=by rw [←g3 el (List.mem_of_getElem? he)];exact (List.getElem?_eq_some_iff.1 hx).1
   have hat:=ec g3 i el jj he hjj;have hi:i < n:=by rw [←g2];exact (List.getElem?_eq_some_iff.1 he).1
   rw [g4,List.getElem?_take,List.getElem?_drop] at hat;have hlt:i * es+jj < n * es:=by have:(i+1) * es≤n * es:=Nat.mul_le_mul_right _ hi;rw [Nat.add_mul,Nat.one_mul] at this;omega
   rw [if_pos hlt,hx,←Nat.add_assoc] at hat;exact (hdp.2 _ a u hat hu).mono fun k b hk ho=>⟨hk,fun h=>ho (hOs k h)⟩
  ·simp only [List.length_eq_zero_iff] at g2;subst g2;exact .d .nil
 have hgv:∀ {a b:AV} {u:Value},Gv j aE cs a b→AR E.ρ s.hp.get (E.O st.hp) a u→AR (aZ j E.ρ) s.hp.get (({E with ρ:=aZ j E.ρ}:Env).O (st.hp.set j .gone)) b u:=by
  intro a b u hg h
  cases hg with
  | same hn=>exact h.pX hOs hn
  | ptr=>exact hpt h
  | row es g1 g2 g3 g4 g5=>exact hrow es g1 g2 g3 g4 g5 h
  | cA=>exact .cA
 refine ⟨{E with ρ:=aZ j E.ρ},⟨⟨hr.wf,fun i b v hi hv=>?_,fun i i' v v' k h1 h2=>hr.inj i i' v v' k (hdr h1).2 (hdr h2).2,fun i v k hk=>hr.rn i v k (hdr hk).2,fun i b v w h1 h2 h3=>?_,fun i v hi=>?_,fun k hk=>hr.sup k (hown k hk),fun k hk=>hr.gW k (hown k hk),hr.dx,hr.ds,hr.sn,hr.xn,fun k hk=>hr.oX k (hk.imp (hown k) id),hr.bn,hr.aC⟩,hs'.rd,fun t=>hgv (zn hs t) (hs'.fr t)⟩,
  ⟨qq6 _,fun i v k hi hk=>?_,fun k hk=>.inl (hown k hk),fun _ h=>.inl h,fun _ h=>.inl h,fun _ h=>h,fun _ h=>.inl h,fun _ _ _ _=>rfl,Nat.min_le_left _ _⟩⟩
 ·obtain ⟨hij,hi'⟩:=hget i b v hi hv;have hbn:=hb i b hi' hij
  rcases hr.gm i b v hi' hv with ⟨k,b',q1,q2,q3⟩|⟨q1,q2⟩
  ·refine .inl ⟨k,b',by show aZ j E.ρ i v=_;rw [aZ,if_neg hij];exact q1,q2,?_⟩
   cases b with
   | cells cs2 es2 ver2 =>obtain ⟨cs',rfl,h⟩:=q3;exact ⟨cs',rfl,h.1,fun i a u ha hu=>(h.2 i a u ha hu).pX hOs (kn hbn i a ha)⟩
   | dL p q=>exact q3
   | map ents clock =>obtain ⟨es,rfl,h1,h2⟩:=q3;refine ⟨es,rfl,h1,fun i k v born x hx hy=>?_⟩;simp only [AB.pX,List.all_eq_true,qq7] at hbn;have:=hbn _ (List.mem_of_getElem? hx);exact ⟨(h2 i k v born x hx hy).1.pX hOs this.1,(h2 i k v born x hx hy).2.1.pX hOs this.2,(h2 i k v born x hx hy).2.2⟩
   | iter i2 since seen stepped =>obtain ⟨m,rfl,h⟩:=q3;exact ⟨m,rfl,by show aZ j E.ρ i2 0=_;rw [aZ,if_neg (qW hbn)];exact h⟩
   | gone=>exact q3
  ·exact .inr ⟨by show aZ j E.ρ i v=_;rw [aZ,if_neg hij];exact q1,q2⟩
 ·obtain ⟨hij,h1⟩:=hget i b v h1 h2;show aZ j E.ρ i w=none;rw [aZ,if_neg hij];exact hr.fresh i b v w h1 h2 h3
 ·show aZ j E.ρ i v=none;unfold aZ;split
  ·rfl
  ·exact hr.new i v (by simpa using hi)
 ·show aZ j E.ρ i v=some k;rw [aZ,if_neg (by omega)];exact hk
def sC (j:Nat):Nat→List AB→Bool
 | _,[]=>true
 | i,b :: l=>(Nat.beq i j || b.pX j) && sC j (i+1) l
theorem v5 {j:Nat}:∀ {l:List AB} {i0:Nat},sC j i0 l=true→∀ (i:Nat) (b:AB),l[i]?=some b→i0+i ≠ j→b.pX j=true
 | [],_,_,i,b,h,_=>by cases h
 | x :: l,i0,h,i,b,hb,hne=>by
  simp only [sC,qq7,Bool.or_eq_true] at h
  cases i with
  | zero =>
   cases hb
   rcases h.1 with h|h
   ·exact absurd (Nat.eq_of_beq_eq_true h) hne
   ·exact h
  | succ i=>exact v5 h.2 i b (by simpa using hb) (by omega)
theorem ak.giveUp {st:bO} {l:List (Nat × AV)} (j:Nat) {aE es:Nat} {cs:List AV} {hp:List AB} (hj:st.hp[j]?=some (.cells cs es aE)) (hn:st.fl≤j) (hd:cV cs=true) (hs:vZ j aE cs st.fr l) (hb:sC j 0 st.hp=true) (hh:st.hp.set j .gone=hp) :
  ak st ⟨aT l,hp,st.aC,st.rd,st.fl⟩:=by
 subst hh;exact ak.LU hj hn hd hs fun i b h hne=>v5 hb i b h (by omega)
end
end Go.RM
namespace Go.RM
open Go
theorem dI.mO {j aE c:Nat} (hc:c≤2:=by decide):dI (.fl (.slice none 0 0)) (.aL j aE 0 0 c):=fun _ _ _ u h=>by rw [h.eU.1];exact .qK hc
theorem ak.mP {st:bO} (es:Nat):ak st ⟨st.fr,st.hp++[.cells [] es 0],st.aC,st.rd,st.fl⟩:=by
 refine ⟨rfl,fun E base s hs=>?_⟩;have hr:=hs.h
 have hget:∀ (i:Nat) (b:AB),(st.hp++[AB.cells [] es 0])[i]?=some b→(i < st.hp.length∧st.hp[i]?=some b)∨(i=st.hp.length∧b=.cells [] es 0):=by
  intro i b hi;by_cases hlt:i < st.hp.length
  ·rw [List.getElem?_append_left hlt] at hi;exact .inl ⟨hlt,hi⟩
  ·rw [List.getElem?_append_right (by omega)] at hi;have h0:i - st.hp.length=0:=by apply Nat.eq_zero_of_not_pos;intro hp0;rw [List.getElem?_eq_none (by simp;omega)] at hi;cases hi
   rw [h0] at hi;cases hi;exact .inr ⟨by omega,rfl⟩
 have hown:∀ k,Own E.ρ (st.hp++[.cells [] es 0]) k→Own E.ρ st.hp k:=by
  rintro k ⟨i,b,v,h1,h2,h3⟩
  rcases hget i b h1 with ⟨_,h1⟩|⟨rfl,rfl⟩
  ·exact ⟨i,b,v,h1,h2,h3⟩
  ·rw [hr.new _ v (qq6 _)] at h3;cases h3
 have hO:∀ k,E.O (st.hp++[.cells [] es 0]) k→E.O st.hp k:=fun k h=>h.imp (hown k) id;have keep:∀ k b,s.hp.get k=some b→¬ E.O st.hp k→s.hp.get k=some b∧¬ E.O (st.hp++[.cells [] es 0]) k:=fun k b hk ho=>⟨hk,fun h=>ho (hO k h)⟩;have har:∀ {v:AV} {u:Value},AR E.ρ s.hp.get (E.O st.hp) v u→AR E.ρ s.hp.get (E.O (st.hp++[.cells [] es 0])) v u:=fun h=>h.mono (fun _ _ _ h=>h) keep
 refine ⟨E,⟨⟨hr.wf,fun i b v hi hv=>?_,hr.inj,hr.rn,fun i b v w h1 h2 h3=>?_,fun i v hi=>hr.new i v (by simp at hi;omega),fun k hk=>hr.sup k (hown k hk),fun k hk=>hr.gW k (hown k hk),hr.dx,hr.ds,hr.sn,hr.xn,fun k hk=>hr.oX k (hk.imp (hown k) id),hr.bn,hr.aC⟩,hs.rd,fun t=>har (hs.fr t)⟩,
  ⟨qq6 _,fun _ _ _ _ h=>h,fun k hk=>.inl (hown k hk),fun _ h=>.inl h,fun _ h=>.inl h,fun _ h=>h,fun _ h=>.inl h,fun _ _ _ _=>rfl,Nat.min_le_left _ _⟩⟩
 ·rcases hget i b hi with ⟨_,hi'⟩|⟨rfl,rfl⟩
  ·rcases hr.gm i b v hi' hv with ⟨k,b',q1,q2,q3⟩|q
   ·refine .inl ⟨k,b',q1,q2,?_⟩
    cases b with
    | cells cs2 es2 ver2 =>obtain ⟨cs',rfl,h⟩:=q3;exact ⟨cs',rfl,h.1,fun i a u ha hu=>har (h.2 i a u ha hu)⟩
    | dL p q=>exact q3
    | map ents clock =>obtain ⟨es,rfl,h1,h2⟩:=q3;exact ⟨es,rfl,h1,fun i k v born x hx hy=>⟨har (h2 i k v born x hx hy).1,har (h2 i k v born x hx hy).2.1,(h2 i k v born x hx hy).2.2⟩⟩
    | iter i2 since seen stepped=>exact q3
    | gone=>exact q3
   ·exact .inr q
  ·cases hv;exact .inr ⟨hr.new _ _ (qq6 _),es,rfl⟩
 ·rcases hget i b h1 with ⟨_,h1⟩|⟨rfl,rfl⟩
  ·exact hr.fresh i b v w h1 h2 h3
  ·exact hr.new _ _ (qq6 _)
theorem q1 {σ:Type} {P:σ→Prop} {I:σ→bO} {m:σ→Nat} {K:Exit→bO→Prop} {x:σ} {s:bO} (h:K .ret s):FC P I m K x .ret s:=h
theorem q2 {σ:Type} {P:σ→Prop} {I:σ→bO} {m:σ→Nat} {K:Exit→bO→Prop} {x:σ} {s:bO} {id:Nat} (h:K (.exit id) s):FC P I m K x (.exit id) s:=h
end Go.RM
namespace Go.RM
open Go
end Go.RM
namespace Go.RM
open Go
theorem FO {α:Type} {l:List α} {j:Nat} {a:α} (h:l[j]?=some a):l.set j a=l:=by
 apply List.ext_getElem?;intro i;rw [List.getElem?_set];split
 ·rename_i hij;subst hij;rw [h];split
  ·rfl
  ·rename_i hn;exact absurd (List.getElem?_eq_some_iff.1 h).1 hn
 ·rfl
theorem Df {hp:List AB} {es bs:Nat} {x:AV} {els:List (List AV)} {j aE n c:Nat} {cs:List AV} {K:AV→List AB→Prop} (hx:tE hp es x els) (h1:els.flatten.all AV.one=true) (hj:hp[j]?=some (.cells cs es aE)) (hl:cs.length=n * es) (hc:c=n∨c=n+1)
  (hb:(n+els.length) * bs≤140737488355328∧n+els.length≤9223372036854775807) (hk:∀ v c',(c'=n+els.length∨c'=n+els.length+1)→K (.aL j v 0 (n+els.length) c') (hp.set j (.cells (cs++els.flatten) es v))) :
  ∃ els,tE hp es x els∧els.flatten.all AV.one=true∧∃ cs,hp[j]?=some (.cells cs es aE)∧cs.length=n * es∧(c=n∨c=n+1)∧((n+els.length) * bs≤140737488355328∧n+els.length≤9223372036854775807)∧(els=[]→K (.aL j aE 0 n c) hp) ∧
   (els ≠ []→K (.aL j (aE+1) 0 (n+els.length) (n+els.length+1)) (hp.set j (.cells (cs++els.flatten) es (aE+1)))):=by
 refine ⟨els,hx,h1,cs,hj,hl,hc,hb,fun he=>?_,fun _=>hk _ _ (.inr rfl)⟩;subst he;have h2:=hk aE c (by simpa using hc);rw [List.flatten_nil,List.append_nil,FO hj] at h2;exact h2
theorem sD {T:bC} {own:Bool} {fr:Nat→AV} {hp:List AB} {K:AV→List AB→Prop} {s x:Operand} {t u e:TypeId} {a1 a2 a3 a4 a5 a6} {j aE n c:Nat} {els:List (List AV)} {f:Bool} {cs:List AV} {inf:sR} (hs:bh fr s=.aL j aE 0 n c) (hx:bh fr x=.sl els f)
  (hu:T.ty.get u=some ⟨.slice e,a1,a2,a3,a4,a5,a6⟩) (hi:elem? T t=some inf) (hz:bG inf=true) (hel:∀ el ∈ els,el.length=inf.size) (h1:els.flatten.all AV.one=true) (hj:hp[j]?=some (.cells cs inf.size aE)) (hl:cs.length=n * inf.size) (hc:c=n∨c=n+1)
  (hb:(n+els.length) * inf.bytes≤140737488355328∧n+els.length≤9223372036854775807) (hk:∀ v c',(c'=n+els.length∨c'=n+els.length+1)→K (.aL j v 0 (n+els.length) c') (hp.set j (.cells (cs++els.flatten) inf.size v))) :
  RM.wpOp T own (.call ⟨.builtin .append,[s,x].toArray,[t,u].toArray⟩) fr hp K:=by
 show force (bh fr s) fun a=>force (bh fr x) fun b=>gJ T own .append [a,b] [t,u] hp K;rw [hs,hx];show (match T.ty.get u with|some ⟨.slice _,_,_,_,_,_,_⟩=>i6 T own t (.aL j aE 0 n c) (.sl els f) hp K|_=>False);rw [hu];show i6 T own t (.aL j aE 0 n c) (.sl els f) hp K;unfold i6;rw [hi];obtain ⟨els',q1,q2,q3⟩:=Df (hp:=hp) (K:=K) (x:=.sl els f) ⟨hel,rfl⟩ h1 hj hl hc hb hk;exact ⟨hz,els',q1,q2,.inl ⟨rfl,q3⟩⟩
end Go.RM
namespace Go.RM
open Go
section
variable {T : bC} {tab : List XE} {one : Bool} {base : Nat} {E : Env} {hp : List AB} {aC : bJ} {H : Hp} {ρ : Nat → Nat → Option Nat} {g : aG} {O O' : Nat → Prop}
def LV (T:bC) (rs:List ResultVar) (Q:AV→List AB→bJ→Prop) (e:Exit) (s:bO):Prop :=
 match e with
 | .normal|.ret=>oZ T s rs fun as=>Q (zg as) s.hp s.aC
 | _=>False
theorem HS {vs:List AV} {us:List Value} (h:fB ρ g O vs us):AR ρ g O (zg vs) (bM us):=by
 match vs,us,h with
 | [],[],_=>exact .tp rfl (fun i x u hx=>by cases hx)
 | [v],[u],h=>exact h.2 0 v u rfl rfl
 | a :: b :: l,c :: d :: m,h=>exact .tp (by simpa using h.1) (fun i x u hx hu=>h.2 i x u hx (by simpa using hu))
 | [],u :: us,h=>exact absurd h.1 (by simp)
 | v :: vs,[],h=>exact absurd h.1 (by simp)
 | [v],a :: b :: l,h=>exact absurd h.1 (by simp)
 | a :: b :: l,[v],h=>exact absurd h.1 (by simp)
theorem au.body {f:FuncId} {fn:Func} {c:Code} {first caps args:List AV} {Q:AV→List AB→bJ→Prop} (hf:T.fn.get f=some fn) (hb:fn.body=some c) (hn:noEntry tab f=true)
  (hw:ay T tab one c ⟨Ba (first++args++caps),hp,aC,false,hp.length⟩ (LV T fn.results.toList Q)):au T tab one (.fn f first caps) args hp aC Q:=by
 intro E base H u us hr hF ha
 obtain ⟨fs,cs,rfl,h1,h2⟩:∃ fs cs,u=.func (.func f) fs cs∧fB E.ρ H.get (E.O hp) first fs.toList∧fB E.ρ H.get (E.O hp) caps cs.toList:=by
  cases hF with
  | d h=>cases h with
   | fn ha hb h1 h2=>exact ⟨_,_,rfl,⟨ha,fun i x u hx hu=>.d (h1 i x u hx hu)⟩,⟨hb,fun i x u hx hu=>.d (h2 i x u hx hu)⟩⟩
  | fn ha hb h1 h2=>exact ⟨_,_,rfl,⟨ha,h1⟩,⟨hb,h2⟩⟩
 refine ⟨.fn f (fs.toList++us++cs.toList),rfl,?_⟩;have hargs:=(h1.append ha).append h2;obtain ⟨m,L,h1,h2,h3⟩:=hw E base ⟨setArgs .leaf 0 (fs.toList++us++cs.toList),H,false⟩ ⟨hr,rfl,vT hargs⟩
 obtain ⟨m',M,hm,q1,q2,q3⟩:=fE (one:=one) (L:=L) (f:=fun _ (p:Exit × St)=>eN T fn.results.toList p)
  (P:=fun r=>∃ w H',r=.ret w H'∧∃ E' a hp' amb',Q a hp' amb'∧aX E' base hp' amb' H'∧AR E'.ρ H'.get (E'.O hp') a w∧lq hp.length base E hp H E' hp' H')
  (fun _ _ _ _ _ h=>h) m h2 (fun p hp'=>by
   obtain ⟨E',st',k1,k0,k2,k3⟩:=h3 p hp';obtain ⟨e,s'⟩:=p
   have done:(e=.normal∨e=.ret)→(oZ T st' fn.results.toList fun as=>Q (zg as) st'.hp st'.aC)→∃ (_:Nat) (M:List eF),eN T fn.results.toList (e,s')=some M ∧
     pQ one M fun r=>∃ w H',r=.ret w H'∧∃ E' a hp' amb',Q a hp' amb'∧aX E' base hp' amb' H'∧AR E'.ρ H'.get (E'.O hp') a w∧lq hp.length base E hp H E' hp' H':=by
    intro he hr;obtain ⟨ws,as,r1,r2,r4⟩:=kV k2 hr;refine ⟨0,[.ret (bM ws) s'.hp],?_,.single ⟨_,_,rfl,E',zg as,st'.hp,st'.aC,r2,k2.h,HS r4,k3⟩⟩;unfold eN
    rcases he with rfl|rfl <;> simp only [r1,Option.map_some]
   cases e with
   | normal=>exact done (.inl rfl) k1
   | ret=>exact done (.inr rfl) k1
   | _=>exact k1.elim)
 refine ⟨m'+1,M,?_,q2,q3⟩;show RX T tab (m'+1) (.call f _ H)=_;rw [yV,ou _ _ hn];simp only;rw [jZ,hf];simp only [hb];rw [dV (gV hm) _ _ _ h1];exact q1
end
end Go.RM
namespace Go.RM
open Go
section
variable {T : bC} {tab : List XE} {one : Bool}
end
end Go.RM
namespace Go.RM
open Go
section
variable {T : bC} {tab : List XE} {one : Bool}
end
end Go.RM
namespace Go.RM
open Go
section
variable {T : bC} {tab : List XE} {one : Bool} {base : Nat} {E : Env} {hp : List AB} {aC : bJ} {H : Hp}
end
end Go.RM
namespace Go.RM
open Go
theorem wrap_i64 {n:Int} (h0:0≤n) (h1:n < 9223372036854775808):IntKind.wrap .i64 n=n:=by have hm:n % 18446744073709551616=n:=Int.emod_eq_of_lt h0 (by omega);show (if (true && decide (n % 18446744073709551616 ≥ 9223372036854775808))=true then n % 18446744073709551616 - 18446744073709551616 else n % 18446744073709551616)=n;rw [hm,if_neg (by simp;omega)]
theorem HT {w m n:Nat} (hm:m < 2 ^ w) (hn:n < 2 ^ w):(BitVec.ofInt w (m:Int) ||| BitVec.ofInt w (n:Int)).toNat=m ||| n:=by rw [BitVec.toNat_or,BitVec.ofInt_natCast,BitVec.ofInt_natCast,BitVec.toNat_ofNat,BitVec.toNat_ofNat,Nat.mod_eq_of_lt hm,Nat.mod_eq_of_lt hn]
theorem FP {P:Program} {t:TypeId} {x y:Operand} {m j:Nat} (hj:j < 8):dF P .shr t x y (.int .u8 (m:Int)) (.int .i64 (j:Int))=some (.int .u8 ((m / 2 ^ j:Nat):Int),.none):=by
 have h:dF P .shr t x y (.int .u8 (m:Int)) (.int .i64 (j:Int))=some (.int .u8 ((m:Int).fdiv (2 ^ j)),.none):=by
  match j,hj with
  | 0,_|1,_|2,_|3,_|4,_|5,_|6,_|7,_=>rfl
 rw [h,Int.fdiv_eq_ediv_of_nonneg _ (Int.pow_nonneg (by decide)),Int.natCast_ediv,Int.natCast_pow];rfl
theorem FQ {P:Program} {t:TypeId} {x y:Operand} {m:Nat}:dF P .rem t x y (.int .u8 (m:Int)) (.int .u8 2)=some (.int .u8 ((m % 2:Nat):Int),.none):=by have h:dF P .rem t x y (.int .u8 (m:Int)) (.int .u8 2)=some (.int .u8 ((m:Int).tmod 2),.none):=rfl;rw [h];rfl
theorem FR {P:Program} {t:TypeId} {x y:Operand} {m:Nat} {n:Int}:dF P .eql t x y (.int .u8 (m:Int)) (.int .u8 n)=some (.bool (decide ((m:Int)=n)),.none):=rfl
section
variable {T : bC} {a b : AV} {t : TypeId} {x y : Operand} {hp : List AB} {K : AV → List AB → Prop}
theorem FT {m j:Nat} (ha:a=.fl (.int .u8 (m:Int))) (hb:b=.fl (.int .i64 (j:Int))) (hj:j < 8) (h:K (.fl (.int .u8 ((m / 2 ^ j:Nat):Int))) hp):aQ T .shr t x y a b hp K:=by subst ha hb;exact ⟨_,_,rfl,rfl,.int .u8 ((m / 2 ^ j:Nat):Int),FP hj,rfl,h⟩
theorem FU {m:Nat} (ha:a=.fl (.int .u8 (m:Int))) (hb:b=.fl (.int .u8 2)) (h:K (.fl (.int .u8 ((m % 2:Nat):Int))) hp):aQ T .rem t x y a b hp K:=by subst ha hb;exact ⟨_,_,rfl,rfl,.int .u8 ((m % 2:Nat):Int),FQ,rfl,h⟩
theorem FV {m:Nat} {n:Int} (ha:a=.fl (.int .u8 (m:Int))) (hb:b=.fl (.int .u8 n)) (h:K (.fl (.bool (decide ((m:Int)=n)))) hp):aQ T .eql t x y a b hp K:=by subst ha hb;exact ⟨_,_,rfl,rfl,.bool (decide ((m:Int)=n)),FR,rfl,h⟩
end
end Go.RM
namespace Go.RM
open Go
section
variable {T : bC} {tab : List XE} {one : Bool} {fl base : Nat} {E E' E2 : Env} {hp hp' hp2 : List AB} {aC amb' : bJ} {H H' H2 : Hp} {ρ ρ2 : Nat → Nat → Option Nat} {g g2 : aG} {O O2 : Nat → Prop}
end
end Go.RM
namespace Go.RM
open Go
section
variable {T : bC} {tab : List XE} {one : Bool} {base : Nat} {E : Env} {hp : List AB} {aC : bJ} {H : Hp}
inductive Fq (hp:List AB):AV→AV→Prop
 | fz {a v:AV}:Fz hp a v→Fq hp a v
 | ptr {j aE o es:Nat} {cs:List AV}:hp[j]?=some (.cells cs es aE)→cV cs=true→Fq hp (.ptr j aE o) (.pt cs o)
 | fn {f:FuncId} {a b x y:List AV}:a.length=x.length→b.length=y.length→(∀ (i:Nat) (u v:AV),a[i]?=some u→x[i]?=some v→Fq hp u v)→(∀ (i:Nat) (u v:AV),b[i]?=some u→y[i]?=some v→Fq hp u v)→Fq hp (.fn f a b) (.fn f x y)
theorem AR.HU {ρ:Nat→Nat→Option Nat} {g:aG} {O:Nat→Prop} {f:FuncId} {a b:List AV} {u:Value} (h:AR ρ g O (.fn f a b) u):∃ a' b',u=.func (.func f) a' b'∧fB ρ g O a a'.toList∧fB ρ g O b b'.toList:=by
 cases h with
 | d h=>cases h with
  | fn ha hb h1 h2=>exact ⟨_,_,rfl,⟨ha,fun i x u hx hu=>.d (h1 i x u hx hu)⟩,⟨hb,fun i x u hx hu=>.d (h2 i x u hx hu)⟩⟩
 | fn ha hb h1 h2=>exact ⟨_,_,rfl,⟨ha,h1⟩,⟨hb,h2⟩⟩
theorem Fq.dr {X:Nat→Prop} (h:aX E base hp aC H) (hX:∀ k,X k→E.X k) {r v:AV} (hf:Fq hp r v):∀ {u:Value},AR E.ρ H.get (E.O hp) r u→DR H.get X v u:=by
 have weak:∀ {v:AV} {u:Value},DR H.get (E.O hp) v u→DR H.get X v u:=fun h=>h.mono fun k b hk ho=>⟨hk,fun hx=>ho (.inr (hX k hx))⟩
 induction hf with
 | fz hz=>intro u ha;exact hz.dr h hX ha
 | ptr h1 hd =>
  rename_i j aE o es cs;intro u ha;obtain ⟨k,hk,rfl⟩:=ha.cX;obtain ⟨cs',q1,q2⟩:=h.cells h1 hk;have hok:Own E.ρ hp k:=⟨j,_,aE,h1,rfl,hk⟩;have hnx:¬ X k:=fun hx=>h.gW k hok (hX k hx)
  have:=DR.pt (g:=H.get) (O:=X) (l:=cs) (k:=k) (d:=0) (o:=o) (cs:=cs') q1 hnx (by rw [Nat.zero_add,q2.1];exact qq6 _) (fun i a u hx hu=>by
   rw [Nat.zero_add] at hu
   exact weak ((q2.2 i a u hx hu).deep (gI hd i a hx)))
  rw [Nat.zero_add] at this;exact this
 | @fn f a b x y h1 h2 _ _ ih1 ih2 =>
  intro u ha;obtain ⟨a',b',rfl,p1,p2⟩:=ha.HU;refine .fn (by rw [←h1];exact p1.1) (by rw [←h2];exact p2.1) (fun i v w hv hw=>?_) (fun i v w hv hw=>?_)
  ·have hi:i < a.length:=by rw [h1];exact (List.getElem?_eq_some_iff.1 hv).1
   have hai:a[i]?=some a[i]:=List.getElem?_eq_getElem hi;exact ih1 i _ v hai hv (p1.2 i _ w hai hw)
  ·have hi:i < b.length:=by rw [h2];exact (List.getElem?_eq_some_iff.1 hv).1
   have hai:b[i]?=some b[i]:=List.getElem?_eq_getElem hi;exact ih2 i _ v hai hv (p2.2 i _ w hai hw)
def eJ (hp:List AB):List AV→List AV→Prop
 | [],[]=>True
 | r :: rs,v :: vs=>Fq hp r v∧eJ hp rs vs
 | _,_=>False
theorem eJ.dr {X:Nat→Prop} (h:aX E base hp aC H) (hX:∀ k,X k→E.X k):∀ {rs vs:List AV} {us:List Value},eJ hp rs vs→fB E.ρ H.get (E.O hp) rs us→si H.get X vs us
 | [],[],us,_,ha=>⟨ha.1,fun i a u hx=>by cases hx⟩
 | r :: rs,v :: vs,[],_,ha=>absurd ha.1 (by simp)
 | r :: rs,v :: vs,u :: us,hf,ha=>by
  have:=eJ.dr h hX hf.2 (us:=us) ⟨by simpa using ha.1,fun i a u x y=>ha.2 (i+1) a u (by simpa using x) (by simpa using y)⟩;refine ⟨by simp [this.1],fun i a w hx hw=>?_⟩
  cases i with
  | zero=>cases hx;cases hw;exact hf.1.dr h hX (ha.2 0 r u rfl rfl)
  | succ i=>exact this.2 i a w (by simpa using hx) (by simpa using hw)
 | [],_ :: _,_,hf,_=>hf.elim
 | _ :: _,[],_,hf,_=>by simp [eJ] at hf
theorem eJ.Ji {f:FuncId} {a b x y:List AV} (h1:eJ hp a x) (h2:eJ hp b y):Fq hp (.fn f a b) (.fn f x y):=by
 have key:∀ {a x:List AV},eJ hp a x→a.length=x.length∧∀ (i:Nat) (u v:AV),a[i]?=some u→x[i]?=some v→Fq hp u v:=by
  intro a
  induction a with
  | nil =>
   intro x h
   cases x with
   | nil=>exact ⟨rfl,fun i u v hu=>by cases hu⟩
   | cons=>exact h.elim
  | cons r rs ih =>
   intro x h
   cases x with
   | nil=>simp [eJ] at h
   | cons v vs =>
    obtain ⟨l,k⟩:=ih h.2;refine ⟨by simp [l],fun i u w hu hw=>?_⟩
    cases i with
    | zero=>cases hu;cases hw;exact h.1
    | succ i=>exact k i u w (by simpa using hu) (by simpa using hw)
 exact .fn (key h1).1 (key h2).1 (key h1).2 (key h2).2
theorem ah.tH {F F':AV} {args vs:List AV} {v:AV} (h:ah T tab one F' vs v) (hF:Fq hp F F') (hz:eJ hp args vs) (hfree:m7 v) {Q:AV→List AB→bJ→Prop} (hq:Q v hp aC):au T tab one F args hp aC Q:=by
 intro E base H u us hr hf ha;obtain ⟨hd,h⟩:=h;obtain ⟨goal,hg,m,L,h1,h2,h3⟩:=h E.X H u us hr.wf (fun k hk=>hr.xn k hk) (hF.dr hr (fun _ h=>h) hf) (hz.dr hr (fun _ h=>h) ha);refine ⟨goal,hg,m,L,h1,h2,fun r hm=>?_⟩;obtain ⟨w,H',rfl,hn,hwf,hsame,hlo,hv⟩:=h3 r hm;have e:Ext base E hp H E hp H':=⟨hn,rfl,rfl,rfl,fun _ _ _ h=>h,fun _ h=>.inl h,fun k hk _=>hsame k hk,by have:=hr.bn;omega⟩;refine ⟨w,H',rfl,E,v,hp,aC,hq,⟨hwf,fun j x aE hj hvx=>?_,hr.inj,fun j v k hk=>Nat.lt_of_lt_of_le (hr.rn j v k hk) hn,hr.fresh,hr.new,hr.sup,hr.gW,hr.dx,hr.ds,fun k hk=>Nat.lt_of_lt_of_le (hr.sn k hk) hn,fun k hk=>Nat.lt_of_lt_of_le (hr.xn k hk) hn,hr.oX,Nat.le_trans hr.bn hn,aC.st hr.aC (fun k hk=>hsame k (hr.sn k hk)) hn⟩,.d (hfree.2 _ _ _ _ hv),e.Ho⟩
 rcases hr.gm j x aE hj hvx with ⟨k,b',q1,q2,q3⟩|q
 ·exact .inl ⟨k,b',q1,by rw [hsame k (hr.wf.lt q2)];exact q2,e.br hr.wf q3⟩
 ·exact .inr q
theorem eJ.nil:eJ hp [] []:=trivial
theorem eJ.cons {a x:AV} {as xs:List AV} (h:Fq hp a x) (k:eJ hp as xs):eJ hp (a :: as) (x :: xs):=⟨h,k⟩
theorem Fq.deep {v:AV} (h:v.deep=true):Fq hp v v:=.fz (.deep h)
end
end Go.RM
namespace Go.RM
open Go
section
variable {T : bC} {tab : List XE} {one : Bool} {mu : Tmp → Bool} {dst : Option Tmp} {fr : Nat → AV} {hp : List AB} {aC : bJ} {rd : Bool} {fl : Nat} {KS : bO → Prop}
theorem om {r:Operand} {name:String} {l:List Operand} {tys} {F:AV} (hF:xS T.P (bh fr r) name=F) (h:force F fun F=>eB (l.map (bh fr)) fun as=>au T tab one F as hp aC fun v hp' amb'=>gY dst fr v fun fr'=>KS ⟨fr',hp',amb',rd,fl⟩) :
  qS T tab one mu dst (.call ⟨.invoke r name,l.toArray,tys⟩) fr hp aC rd fl KS:=by
 subst hF;exact h
theorem nm {r:Operand} {name:String} {l:List Operand} {tys} {i:Nat} {bt:Nat→Nat} {KD:(Nat→AV)→List AB→(Nat→Nat)→uw→Prop} {F v:AV} {as:List AV} (hp':ah T tab true F as v) (hF:xS T.P (bh fr r) name=F) (ha:l.map (bh fr)=as) (hd:F.deep=true) (hda:cV as=true)
  (h:gY dst fr v fun fr'=>KD fr' hp (m6 dst bt (i+1)) ⟨i,[],true,true⟩):iL T tab mu dst (.call ⟨.invoke r name,l.toArray,tys⟩) i bt fr hp KD:=by
 show force (xS T.P (bh fr r) name) fun F=>eB (l.map (bh fr)) fun as=>F.deep=true∧∃ vs v,Handed hp as vs v∧ah T tab true F vs v∧gY dst fr v fun fr'=>KD fr' hp (m6 dst bt (i+1)) ⟨i,[],true,true⟩;rw [hF,ha];exact vY (sB (P:=fun as=>F.deep=true∧∃ vs v,Handed hp as vs v∧ah T tab true F vs v∧gY dst fr v fun fr'=>KD fr' hp (m6 dst bt (i+1)) ⟨i,[],true,true⟩) ⟨hd,as,v,.inl ⟨rfl,hda⟩,hp',h⟩)
end
end Go.RM
namespace Go.RM
open Go
section
variable {T : bC} {tab : List XE} {one : Bool} {mu : Tmp → Bool} {KE : Exit → bO → Prop} {st : bO}
theorem Ef {l:List Oper} (hd:l.any xw=false):fP l.toArray=l.length:=by
 unfold fP;have:l.findIdx? xw=none:=by rw [List.findIdx?_eq_none_iff];intro x hx;rw [List.any_eq_false] at hd;simpa using hd x hx
 simp only [this]
theorem MB {id:Nat} {l:List Oper} (hd:l.any xw=false) (h:jl T tab mu l.toArray l 0 (fun _=>0) [] st (KE .normal)):kA T tab one mu (.region id l.toArray true) st KE:=by refine c5 (Ef hd) rfl rfl ?_;rw [List.take_length,List.drop_length];exact h
end
end Go.RM
namespace Go.RM
open Go
section
variable {T : bC} {tab : List XE} {one : Bool} {mu : Tmp → Bool} {own : Bool} {fr : Nat → AV} {hp : List AB} {K : AV → List AB → Prop} {t : TypeId} {jH : TypeDesc} {s by' : Nat} {z : Option Value} {agg : Bool} {cu : List (Nat × Nat)} {cD : Nat}
theorem MC {a:Operand} {cs:List AV} {o:Nat} (ha:bh fr a=.pt cs o) (ht:T.ty.get t=some ⟨jH,s,by',z,true,cu,cD⟩) (hl:Nat.ble (o+s) cs.length=true) (h:K (.ag ((cs.drop o).take s)) hp):wpOp T own (.load t a) fr hp K:=by show fC T t (bh fr a) hp K;unfold fC;simp only [ha,ht];exact ⟨Nat.le_of_ble_eq_true hl,h⟩
theorem Mk {a:Operand} {cs:List AV} {o:Nat} {v:AV} (ha:bh fr a=.pt cs o) (ht:T.ty.get t=some ⟨jH,s,by',z,false,cu,cD⟩) (hv:cs[o]?=some v) (h:K v hp):wpOp T own (.load t a) fr hp K:=by show fC T t (bh fr a) hp K;unfold fC;simp only [ha,ht];exact ⟨v,hv,h⟩
theorem MD {a:Operand} {j aE o es:Nat} {cs:List AV} (ha:bh fr a=.ptr j aE o) (ht:T.ty.get t=some ⟨jH,s,by',z,true,cu,cD⟩) (hj:hp[j]?=some (.cells cs es aE)) (hl:Nat.ble (o+s) cs.length=true) (h:K (.ag ((cs.drop o).take s)) hp):wpOp T own (.load t a) fr hp K:=by show fC T t (bh fr a) hp K;unfold fC;simp only [ha,ht];exact ⟨cs,es,hj,Nat.le_of_ble_eq_true hl,h⟩
theorem cU {a:Operand} {j aE o es:Nat} {cs:List AV} {v:AV} (ha:bh fr a=.ptr j aE o) (ht:T.ty.get t=some ⟨jH,s,by',z,false,cu,cD⟩) (hj:hp[j]?=some (.cells cs es aE)) (hv:cs[o]?=some v) (h:K v hp):wpOp T own (.load t a) fr hp K:=by show fC T t (bh fr a) hp K;unfold fC;simp only [ha,ht];exact ⟨cs,es,hj,v,hv,h⟩
theorem ME {a:Operand} {i:Nat} {cs:List AV} {o off sz:Nat} {fs} (ha:bh fr a=.pt cs o) (ht:T.ty.get t=some ⟨.struct fs,s,by',z,agg,cu,cD⟩) (hf:cu[i]?=some (off,sz)) (h1:Nat.ble 1 sz=true) (h:K (.pt cs (o+off)) hp):wpOp T own (.fieldAddr t a i) fr hp K:=by show jC T t (bh fr a) i hp K;unfold jC;simp only [ha,ht];exact ⟨off,sz,hf,Nat.le_of_ble_eq_true h1,h⟩
theorem MF {a:Operand} {i:Nat} {j aE o off sz:Nat} {fs} (ha:bh fr a=.ptr j aE o) (ht:T.ty.get t=some ⟨.struct fs,s,by',z,agg,cu,cD⟩) (hf:cu[i]?=some (off,sz)) (h1:Nat.ble 1 sz=true) (h:K (.ptr j aE (o+off)) hp):wpOp T own (.fieldAddr t a i) fr hp K:=by show jC T t (bh fr a) i hp K;unfold jC;simp only [ha,ht];exact ⟨off,sz,hf,Nat.le_of_ble_eq_true h1,h⟩
theorem MG {v:Value} (ht:T.ty.get t=some ⟨jH,s,by',some v,agg,cu,cD⟩) (h1:v.cells.toList.all bf=true) (h:K (.ptr hp.length 0 0) (hp++[.cells (v.cells.toList.map .fl) 0 0])):wpOp T own (.alloc t) fr hp K:=by show qM T t hp K;unfold qM;simp only [ht];exact ⟨h1,h⟩
theorem LW {x:Operand} (h:force (bh fr x) fun v=>xO own v hp K):wpOp T own (.box t x) fr hp K:=h
theorem MH {v:AV} (ho:own=false) (h1:v.kg=true) (h2:v.cells.all AV.one=true) (h3:cV v.cells=true) (h:K (.pt v.cells 0) hp):xO own v hp K:=by subst ho;exact ⟨h1,h2,h3,h⟩
theorem MI {v:AV} (ho:own=true) (h1:v.kg=true) (h2:v.cells.all AV.one=true) (h:K (.ptr hp.length 0 0) (hp++[.cells v.cells 0 0])):xO own v hp K:=by subst ho;exact ⟨h1,h2,h⟩
theorem JM {a x:Operand} (h:force (bh fr x) fun v=>aR T t (bh fr a) v hp K):wpOp T own (.store t a x) fr hp K:=h
theorem lY {a v:AV} {j aE o es:Nat} {cs:List AV} (ha:a=.ptr j aE o) (ht:T.ty.get t=some ⟨jH,s,by',z,agg,cu,cD⟩) (hj:hp[j]?=some (.cells cs es aE)) (h1:v.kg=true) (h2:v.cells.all AV.one=true) (h3:v.cells.length=s) (h4:Nat.ble (o+s) cs.length=true) (h:K .cA (hp.set j (.cells (bg cs v.cells o) es aE))):aR T t a v hp K:=by unfold aR;simp only [ha,ht];exact ⟨cs,es,hj,h1,h2,h3,Nat.le_of_ble_eq_true h4,h⟩
theorem JN {l:List (Nat × Operand)} (h:ki (l.map fun p=>(p.1,bh fr p.2)) fun ps=>mJ T t ps hp K):wpOp T own (.build t l.toArray) fr hp K:=h
theorem HV {l:List (Nat × Operand)} {len:Nat} (h:ki (l.map fun p=>(p.1,bh fr p.2)) fun ps=>dy T own t len ps hp K):wpOp T own (.buildSlice t len l.toArray) fr hp K:=h
theorem MJ {P:List (Nat × AV)→Prop} (h:P []):ki (([]:List (Nat × Operand)).map fun p=>(p.1,bh fr p.2)) P:=h
theorem MK {i:Nat} {x:Operand} {l:List (Nat × Operand)} {P:List (Nat × AV)→Prop} (h:force (bh fr x) fun a=>ki (l.map fun p=>(p.1,bh fr p.2)) fun l=>P ((i,a) :: l)):ki (((i,x) :: l).map fun p=>(p.1,bh fr p.2)) P:=h
theorem LM {v:Value} {parts:List (Nat × AV)} {cs:List AV} (ht:T.ty.get t=some ⟨jH,s,by',some v,true,cu,cD⟩) (h1:v.cells.toList.all bf=true) (h2:AZ (gq jH cu cD) (v.cells.toList.map .fl) parts=some cs) (h:K (.ag cs) hp):mJ T t parts hp K:=by unfold mJ;simp only [ht];exact ⟨h1,cs,h2,h⟩
theorem ML {len:Nat} {parts:List (Nat × AV)} {inf:sR} (ho:own=false) (hi:elem? T t=some inf) (h1:Nat.ble (len * inf.size) 65536=true) (h2:bG inf=true) (h3:kS inf.size 0 parts=true) (h4:Nat.beq parts.length len=true) (h5:cV (parts.map (·.2.cells)).flatten=true) (h:K (.sl (parts.map (·.2.cells)) true) hp):dy T own t len parts hp K:=by subst ho;unfold dy;simp only [hi];exact ⟨h1,h2,h3,h4,h5,h⟩
theorem MM {len:Nat} {parts:List (Nat × AV)} {inf:sR} (ho:own=true) (hi:elem? T t=some inf) (h1:Nat.ble (len * inf.size) 65536=true) (h2:bG inf=true) (h3:kS inf.size 0 parts=true) (h4:Nat.beq parts.length len=true) (h:K (.aL hp.length 0 0 len len) (hp++[.cells (parts.map (·.2.cells)).flatten inf.size 0])):dy T own t len parts hp K:=by subst ho;unfold dy;simp only [hi];exact ⟨h1,h2,h3,h4,h⟩
theorem MN {x:Operand} {i:Nat} {vs:List AV} {v:AV} (ha:bh fr x=.tp vs) (hv:vs[i]?=some v) (h:K v hp):wpOp T own (.extract x i) fr hp K:=by show jJ (bh fr x) i hp K;rw [ha];exact ⟨v,hv,h⟩
theorem Ml {a x:Operand} {e:TypeId} {els:List (List AV)} {f:Bool} {j:Int} {el:List AV} (ha:bh fr a=.sl els f) (hx:bh fr x=.fl (.int .i64 j)) (ht:T.ty.get t=some ⟨.slice e,s,by',z,agg,cu,cD⟩) (hat:els[j.toNat]?=some el) (h0:0≤j) (hl:el.length=cD) (h:K (.pt el 0) hp):wpOp T own (.indexAddr t a x) fr hp K:=by show cC T t (bh fr a) (bh fr x) hp K;rw [ha,hx];unfold cC;simp only [asInt,ht];exact ⟨el,⟨h0,hat⟩,hl,h⟩
theorem MO {a x:Operand} {e:TypeId} {i aE o n c:Nat} {j:Int} (ha:bh fr a=.aL i aE o n c) (hx:bh fr x=.fl (.int .i64 j)) (ht:T.ty.get t=some ⟨.slice e,s,by',z,agg,cu,cD⟩) (h0:0≤j∧j < (n:Int)) (h:K (.ptr i aE (o+j.toNat * cD)) hp):wpOp T own (.indexAddr t a x) fr hp K:=by show cC T t (bh fr a) (bh fr x) hp K;rw [ha,hx];unfold cC;simp only [asInt,ht];exact ⟨h0,h⟩
theorem MP {a x:Operand} {e:TypeId} {len:Nat} {cs:List AV} {o:Nat} {j:Int} (ha:bh fr a=.pt cs o) (hx:bh fr x=.fl (.int .i64 j)) (ht:T.ty.get t=some ⟨.array len e,s,by',z,agg,cu,cD⟩) (h0:0≤j∧j < (len:Int)) (h:K (.pt cs (o+j.toNat * cD)) hp):wpOp T own (.indexAddr t a x) fr hp K:=by show cC T t (bh fr a) (bh fr x) hp K;rw [ha,hx];unfold cC;simp only [asInt,ht];exact ⟨h0,h⟩
theorem MQ {a x:Operand} {e:TypeId} {len:Nat} {i aE o:Nat} {j:Int} (ha:bh fr a=.ptr i aE o) (hx:bh fr x=.fl (.int .i64 j)) (ht:T.ty.get t=some ⟨.array len e,s,by',z,agg,cu,cD⟩) (h0:0≤j∧j < (len:Int)) (h:K (.ptr i aE (o+j.toNat * cD)) hp):wpOp T own (.indexAddr t a x) fr hp K:=by show cC T t (bh fr a) (bh fr x) hp K;rw [ha,hx];unfold cC;simp only [asInt,ht];exact ⟨h0,h⟩
end
end Go.RM
namespace Go.RM
open Go
section
variable {T : bC} {own : Bool} {fr : Nat → AV} {hp : List AB} {K : AV → List AB → Prop} {t : TypeId}
theorem Mm {l c:Operand} {n:Nat} {inf:sR} (hi:elem? T t=some inf) (hl:bh fr l=.fl (.int .i64 (Int.ofNat n))) (hc:bh fr c=.fl (.int .i64 (Int.ofNat n))) (hb:inf.bytes * n≤140737488355328∧n≤9223372036854775807) (hz:bG inf=true) (h:K (.aL hp.length 0 0 n n) (hp++[.cells ((bP (zeroCells inf) (n * inf.size)).map .fl) inf.size 0])):wpOp T own (.makeSlice t l c) fr hp K:=by show pO T t (bh fr l) (bh fr c) hp K;unfold pO;simp only [hi,hl,hc];refine ⟨n,n,rfl,rfl,⟨qq6 _,hb⟩,hz,?_⟩;rw [show Nat.beq n n=true from Nat.beq_refl n];exact h
end
end Go.RM
namespace Go.RM
open Go
section
variable {T : bC} {own : Bool} {fr : Nat → AV} {hp : List AB} {K : AV → List AB → Prop} {s x : Operand} {t u e : TypeId} {a1 a2 a3 a4 a5 a6} {els : List (List AV)} {f : Bool} {inf : sR}
end
end Go.RM
namespace Go.RM
open Go
theorem v7 {w m n:Nat} (hm:m < 2 ^ w) (hn:n < 2 ^ w):(BitVec.ofInt w (m:Int) &&& BitVec.ofInt w (n:Int)).toNat=m &&& n:=by rw [BitVec.toNat_and,BitVec.ofInt_natCast,BitVec.ofInt_natCast,BitVec.toNat_ofNat,BitVec.toNat_ofNat,Nat.mod_eq_of_lt hm,Nat.mod_eq_of_lt hn]
theorem FX {P:Program} {t:TypeId} {x y:Operand} {m:Nat} (hm:m < 4611686018427387904):dF P .and t x y (.int .i64 (m:Int)) (.int .i64 1)=some (.int .i64 ((m % 2:Nat):Int),.none):=by have h:dF P .and t x y (.int .i64 (m:Int)) (.int .i64 ((1:Nat):Int))=some (.int .i64 (IntKind.wrap .i64 ((BitVec.ofInt 64 (m:Int) &&& BitVec.ofInt 64 ((1:Nat):Int)).toNat:Int)),.none):=rfl;have h1:m &&& 1=m % 2:=Nat.and_one_is_mod m;show dF P .and t x y (.int .i64 (m:Int)) (.int .i64 ((1:Nat):Int))=_;rw [h,v7 (by omega) (by omega),h1,wrap_i64 (by omega) (by omega)]
theorem Eg {P:Program} {t:TypeId} {x y:Operand} {j:Nat} (hj:j < 8):dF P .shl t x y (.int .i64 1) (.int .i64 (j:Int))=some (.int .i64 ((2 ^ j:Nat):Int),.none):=by
 match j,hj with
 | 0,_|1,_|2,_|3,_|4,_|5,_|6,_|7,_=>rfl
theorem Eh {P:Program} {t:TypeId} {x y:Operand} {m j:Nat} (hj:j < 8):dF P .shr t x y (.int .i64 (m:Int)) (.int .i64 (j:Int))=some (.int .i64 ((m / 2 ^ j:Nat):Int),.none):=by
 have h:dF P .shr t x y (.int .i64 (m:Int)) (.int .i64 (j:Int))=some (.int .i64 ((m:Int).fdiv (2 ^ j)),.none):=by
  match j,hj with
  | 0,_|1,_|2,_|3,_|4,_|5,_|6,_|7,_=>rfl
 rw [h,Int.fdiv_eq_ediv_of_nonneg _ (Int.pow_nonneg (by decide)),Int.natCast_ediv,Int.natCast_pow];rfl
section
variable {T : bC} {a b : AV} {t : TypeId} {x y : Operand} {hp : List AB} {K : AV → List AB → Prop}
theorem FY {m:Nat} (ha:a=.fl (.int .i64 (m:Int))) (hb:b=.fl (.int .i64 1)) (hm:m < 4611686018427387904) (h:K (.fl (.int .i64 ((m % 2:Nat):Int))) hp):aQ T .and t x y a b hp K:=by subst ha hb;exact ⟨.int .i64 ((m % 2:Nat):Int),FX hm,rfl,h⟩
theorem v8 {j:Nat} (ha:a=.fl (.int .i64 1)) (hb:b=.fl (.int .i64 (j:Int))) (hj:j < 8) (h:K (.fl (.int .i64 ((2 ^ j:Nat):Int))) hp):aQ T .shl t x y a b hp K:=by subst ha hb;exact ⟨.int .i64 ((2 ^ j:Nat):Int),Eg hj,rfl,h⟩
theorem Cu {m j:Nat} (ha:a=.fl (.int .i64 (m:Int))) (hb:b=.fl (.int .i64 (j:Int))) (hj:j < 8) (h:K (.fl (.int .i64 ((m / 2 ^ j:Nat):Int))) hp):aQ T .shr t x y a b hp K:=by subst ha hb;exact ⟨.int .i64 ((m / 2 ^ j:Nat):Int),Eh hj,rfl,h⟩
end
end Go.RM
namespace Go.RM
open Go
section
variable {T : bC} {tab : List XE} {one : Bool} {fl base : Nat} {E E' E2 : Env} {hp hp' hp2 : List AB} {aC amb' : bJ} {H H' H2 : Hp} {ρ ρ2 : Nat → Nat → Option Nat} {g g2 : aG} {O O2 : Nat → Prop}
def LX (T:bC) (tab:List XE) (mu:Tmp→Bool) (ops:Array Oper) (c:Nat) (K:bO→Prop) (acc:List uw) (st:bO):Prop :=
 match ops.toList[c]? with
 | some o=>match cS o.op with
  | .call f args=>dA ops.toList o.guard st.fr (force (LI T.P st.fr f) fun F=>eB (args.map (bh st.fr)) fun as=>F.deep=true∧∃ vs v,Handed st.hp as vs v∧ah T tab false F vs v∧ow (pZ ops) (⟨c,[],true,true⟩ :: acc)=true ∧
   gY o.dst st.fr v fun fr'=>wpOps T tab false mu ops.toList (ops.toList.drop (c+1)) ⟨fr',st.hp,st.aC,st.rd,st.fl⟩ K) False
  | _=>False
 | none=>False
def qX (T:bC) (tab:List XE) (mu:Tmp→Bool) (ops:Array Oper) (c:Nat) (K:bO→Prop):List Oper→Nat→(Nat→Nat)→List uw→bO→Prop
 | [],i,_,acc,st=>i=c∧LX T tab mu ops c K acc st
 | ⟨dst,op,_,_,_,gd⟩ :: l,i,bt,acc,⟨fr,hp,aC,rd,fl⟩ =>
  dA ops.toList gd fr (iL T tab mu dst op i bt fr hp fun fr' hp' bt' x=>qX T tab mu ops c K l (i+1) bt' (x :: acc) ⟨fr',hp',aC,rd,fl⟩)
   (gY dst fr (.tp []) fun fr'=>qX T tab mu ops c K l (i+1) (m6 dst bt 0) (⟨i,[],false,false⟩ :: acc) ⟨fr',hp,aC,rd,fl⟩)
section
variable {mu : Tmp → Bool} {ops : Array Oper} {K : bO → Prop} {c i : Nat} {bt : Nat → Nat} {acc : List uw} {fr : Nat → AV} {rd : Bool}
theorem MR {dst:Option Tmp} {op:Op} {a1 a2 a3 gd} {l:List Oper} (h:dA ops.toList gd fr (iL T tab mu dst op i bt fr hp fun fr' hp' bt' x=>qX T tab mu ops c K l (i+1) bt' (x :: acc) ⟨fr',hp',aC,rd,fl⟩)
 (gY dst fr (.tp []) fun fr'=>qX T tab mu ops c K l (i+1) (m6 dst bt 0) (⟨i,[],false,false⟩ :: acc) ⟨fr',hp,aC,rd,fl⟩)):qX T tab mu ops c K (⟨dst,op,a1,a2,a3,gd⟩ :: l) i bt acc ⟨fr,hp,aC,rd,fl⟩:=h
end
end
end Go.RM
namespace Go.RM
open Go
end Go.RM
namespace Go.RM
structure Hd (h:Prop):Prop where
 x:h
theorem u1 {g h : Prop} (q : h) (k : Hd h → g := by
    intro hd;first
    | with_reducible (first | refine RM.c1 ?_ | refine RM.c2 ?_ | refine RM.c3 ?_ | refine RM.c4 ?_ | refine RM.c6 ?_ | refine RM.c7 ?_ | refine RM.c8 ?_ | refine RM.c9 ?_ | refine RM.d1 ?_ | refine RM.d2 ?_ | refine RM.d3 ?_ | refine RM.d4 ?_ | refine RM.d7 ?_ | refine RM.d8 ?_ | refine RM.d9 ?_ | refine RM.o1 ?_ | refine RM.o2 ?_ | refine RM.o3 ?_ | refine RM.o4 ?_ | refine RM.o5 ?_ | refine RM.o6 ?_ | refine RM.o7 ?_ | refine RM.o9 ?_ | refine RM.p1 ?_ | refine RM.p2 ?_ | refine RM.p3 ?_ | refine RM.p4 ?_ | refine RM.p5 ?_ | refine RM.p6 ?_ | refine RM.p7 ?_ | refine RM.p8 ?_ | refine RM.q1 ?_ | refine RM.q2 ?_ | refine RM.LW ?_ | refine RM.JM ?_ | refine RM.JN ?_ | refine RM.HV ?_ | refine RM.MJ ?_ | refine RM.MK ?_ | refine RM.MR ?_)
    | ((with_reducible show force _ _); first | refine RM.f1 rfl ?_ | refine RM.f2 rfl ?_ | refine RM.f3 rfl ?_ | refine RM.f4 rfl ?_ | refine RM.f5 rfl ?_ | refine RM.f6 rfl ?_ | refine RM.f7 rfl ?_ | refine RM.f8 rfl ?_ | refine RM.f9 rfl ?_ | refine RM.g1 rfl ?_ | refine RM.g2 rfl ?_)
    | ((with_reducible show RM.wpOp _ _ _ _ _ _); first
      | ((with_reducible show RM.wpOp _ _ (.load _ _) _ _ _); first | refine RM.Mk rfl rfl rfl ?_ | refine RM.MC rfl rfl rfl ?_ | refine RM.cU rfl rfl rfl rfl ?_ | refine RM.MD rfl rfl rfl rfl ?_)
      | ((with_reducible show RM.wpOp _ _ (.fieldAddr _ _ _) _ _ _); first | refine RM.ME rfl rfl rfl rfl ?_ | refine RM.MF rfl rfl rfl rfl ?_)
      | ((with_reducible show RM.wpOp _ _ (.alloc _) _ _ _); refine RM.MG rfl rfl ?_)
      | ((with_reducible show RM.wpOp _ _ (.extract _ _) _ _ _); refine RM.MN rfl rfl ?_)
      | ((with_reducible show RM.wpOp _ _ (.indexAddr _ _ _) _ _ _); first | refine RM.Ml rfl rfl rfl (by assumption) (by omega) rfl ?_ | refine RM.Ml rfl rfl rfl rfl (by omega) rfl ?_ | refine RM.MO rfl rfl rfl (by omega) ?_ | refine RM.MP rfl rfl rfl (by omega) ?_ | refine RM.MQ rfl rfl rfl (by omega) ?_)
      | ((with_reducible show RM.wpOp _ _ (.makeSlice _ _ _) _ _ _); refine RM.Mm rfl rfl rfl (by decide) rfl ?_)
      | ((with_reducible show RM.wpOp _ _ (.unOp _ _ _) _ _ _); refine RM.n3 rfl ?_)
      | ((with_reducible show RM.wpOp _ _ (.call _) _ _ _); first | refine RM.n4 rfl rfl ?_ | refine RM.n5 rfl rfl ?_))
    | ((with_reducible show kA _ _ _ _ (.region _ _ true) _ _); first | refine RM.MB rfl ?_ | refine RM.c5 (by kernel_rfl) rfl rfl ?_)
    | ((with_reducible show qS _ _ _ _ _ _ _ _ _ _ _ _); refine RM.o8 rfl ?_)
    | ((with_reducible show iL _ _ _ _ _ _ _ _ _ _); first | refine RM.p9 rfl ?_ | refine RM.n1 ?_)
    | ((with_reducible show dA _ _ _ _ _); first | refine tG rfl rfl rfl ?_ | refine vX rfl rfl rfl ?_ | refine zm rfl rfl ?_ | refine tG rfl rfl (by assumption) ?_ | refine vX rfl rfl (by assumption) ?_)
    | ((with_reducible show kA _ _ _ _ (.cond _ _ _) _ _); first | refine RM.e2 rfl rfl ?_ | refine RM.e3 rfl rfl ?_ | refine RM.e2 rfl (by assumption) ?_ | refine RM.e3 rfl (by assumption) ?_)
    | ((with_reducible show sj _ _ _ _ _); refine RM.k1 rfl ?_)
    | ((with_reducible show jD _ _ _ _ _); first | refine RM.k2 rfl ?_ | refine RM.k3 rfl ?_ | refine RM.k2 (by assumption) ?_ | refine RM.k3 (by assumption) ?_ | refine RM.k4 rfl rfl ?_)
    | ((with_reducible show aQ _ _ _ _ _ _ _ _ _); first | refine RM.b4 rfl rfl ?_ | refine RM.b5 rfl rfl ?_ | refine RM.b6 rfl rfl ?_ | refine RM.b7 rfl rfl ?_ | refine RM.b8 rfl rfl ?_ | refine RM.b9 rfl rfl ?_ | refine RM.b1 rfl rfl (by omega) ?_ | refine RM.b2 rfl rfl (by omega) ?_ | refine RM.b3 rfl rfl (by omega) ?_ | refine RM.r1 rfl rfl (by omega) ?_ | refine RM.r2 rfl rfl (by omega) ?_)
    | ((with_reducible show qP _ _ _ _ _); first | refine RM.l1 rfl ?_ | refine RM.l2 rfl ?_)
    | ((with_reducible show qO _ _ _); first | refine RM.l3 rfl ?_ | refine RM.l4 rfl ?_)
    | ((with_reducible show kj _ _ _ _); first | refine RM.d5 rfl ?_ | refine RM.d6 rfl ?_)
    | ((with_reducible show xO _ _ _ _); first | refine RM.MH rfl rfl rfl rfl ?_ | refine RM.MI rfl rfl rfl ?_)
    | ((with_reducible show aR _ _ _ _ _ _); refine RM.lY rfl rfl rfl rfl rfl rfl rfl ?_)
    | ((with_reducible show mJ _ _ _ _ _); refine RM.LM rfl rfl rfl ?_)
    | ((with_reducible show dy _ _ _ _ _ _ _); first | refine RM.ML rfl rfl rfl rfl rfl rfl rfl ?_ | refine RM.MM rfl rfl rfl rfl rfl rfl ?_)
    | ((with_reducible show au _ _ _ _ _ _ _ _); refine ah.call (by assumption) rfl rfl ?_)
    | ((with_reducible show ow _ _ = true ∧ _); refine And.intro (by kernel_rfl) ?_)
    | ((with_reducible show ∃ _, FF _ _ _ = some _ ∧ _); refine ⟨_, rfl, ?_⟩)
    | ((with_reducible show AV.deep _ = true ∧ _); refine ⟨rfl, rfl, ?_⟩)
    | ((with_reducible show ∃ _, ah _ _ _ _ _ _ ∧ _); refine ⟨_, by assumption, ?_⟩)
    exact hd.x) : g := k ⟨q⟩
theorem u2 {g h:Prop} (q:h) (k:Hd h→g:=by
 intro hd;first
 | refine ⟨_,rfl,?_⟩
 | refine ⟨_,_,rfl,by decide,?_⟩
 | refine ⟨rfl,rfl,rfl,?_⟩
 | refine ⟨rfl,rfl,?_⟩
 | refine ⟨_,_,rfl,_,rfl,?_⟩
 | refine And.intro (Nat.le_of_ble_eq_true rfl) ?_
 | refine And.intro (by omega) ?_
 | refine ⟨_,_,rfl,rfl,_,rfl,rfl,?_⟩
 | refine And.intro (by kernel_rfl) ?_
 | refine ⟨rfl,rfl,rfl,rfl,rfl,?_⟩
 | refine ⟨_,_,rfl,rfl,rfl,rfl,Nat.le_of_ble_eq_true rfl,?_⟩
 | refine ⟨_,_,rfl,Nat.le_of_ble_eq_true rfl,?_⟩
 exact hd.x):g:=k ⟨q⟩
end Go.RM
namespace Go.RM
open Go
section
variable {T : bC} {tab : List XE} {one : Bool} {fl base : Nat} {E E' E2 : Env} {hp hp' hp2 : List AB} {aC amb' : bJ} {H H' H2 : Hp} {ρ ρ2 : Nat → Nat → Option Nat} {g g2 : aG} {O O2 : Nat → Prop}
variable {mu : Tmp → Bool} {fr : Nat → AV} {KS : bO → Prop} {rd : Bool} {dst : Option Tmp}
end
end Go.RM
namespace Go.RM
open Go
section
variable {T : bC} {tab : List XE} {one : Bool} {fl base : Nat} {E E' E2 : Env} {hp hp' hp2 : List AB} {aC amb' : bJ} {H H' H2 : Hp} {ρ ρ2 : Nat → Nat → Option Nat} {g g2 : aG} {O O2 : Nat → Prop}
variable {mu : Tmp → Bool} {fr : Nat → AV} {KS : bO → Prop} {rd : Bool} {dst : Option Tmp}
end
end Go.RM
namespace Go.RM
open Go
section
variable {T : bC} {tab : List XE} {one : Bool} {fl base : Nat} {E E' E2 : Env} {hp hp' hp2 : List AB} {aC amb' : bJ} {H H' H2 : Hp} {ρ ρ2 : Nat → Nat → Option Nat} {g g2 : aG} {O O2 : Nat → Prop} {r : Rec}
theorem sH {α β:Type} (a:α) (l:List α) (f:α→Option (List β)) {x y:List β} (h1:f a=some x) (h2:bp l f=some y):bp (a :: l) f=some (x++y):=by
 cases l with
 | nil =>rw [lI] at h2;cases h2;rw [dH,h1,List.append_nil]
 | cons b l =>rw [gu,h1];simp only [h2,Option.map_some]
theorem sI {α β:Type} {a:α} {l:List α} {f:α→Option (List β)} {z:List β} (h:bp (a :: l) f=some z):∃ x y,f a=some x∧bp l f=some y∧z=x++y:=by
 cases l with
 | nil=>exact ⟨z,[],h,rfl,(List.append_nil _).symm⟩
 | cons b l =>
  rw [gu] at h
  cases hx:f a with
  | none=>rw [hx] at h;cases h
  | some x =>rw [hx] at h;simp only [Option.map_eq_some_iff] at h;obtain ⟨y,hy,rfl⟩:=h;exact ⟨x,y,rfl,hy,rfl⟩
theorem x7 {α β:Type} {f:α→Option (List β)}:∀ {a b:List α} {z:List β},bp (a++b) f=some z→∃ x y,bp a f=some x∧bp b f=some y∧z=x++y
 | [],b,z,h=>⟨[],z,rfl,h,rfl⟩
 | c :: a,b,z,h=>by obtain ⟨x,y,h1,h2,rfl⟩:=sI (l:=a++b) h;obtain ⟨u,v,h3,h4,rfl⟩:=x7 h2;exact ⟨x++u,v,sH _ _ _ h1 h3,h4,(List.append_assoc _ _ _).symm⟩
theorem tI {α β γ:Type} {f:α→Option (List β)} {k:β→Option (List γ)} {h:α→Option (List γ)} (hh:∀ x N M,f x=some N→bp N k=some M→h x=some M):∀ {L0:List α} {L:List β} {M:List γ},bp L0 f=some L→bp L k=some M→bp L0 h=some M
 | [],L,M,h1,h2=>by rw [lI] at h1;cases h1;exact h2
 | a :: l,L,M,h1,h2=>by obtain ⟨x,y,q1,q2,rfl⟩:=sI h1;obtain ⟨u,v,q3,q4,rfl⟩:=x7 h2;exact sH _ _ _ (hh a x u q1 q3) (tI hh q2 q4)
theorem kZ {ops ops':List Oper}:∀ (l:List Oper) (st:St),(l.all fun o=>o.guard.isNone)=true→aV T r ops l st=aV T r ops' l st
 | [],_,_=>rfl
 | o :: l,st,h=>by rw [List.all_cons,qq7] at h;have hg:o.guard=none:=Option.isNone_iff_eq_none.1 h.1;have e:(fun p:Value × Hp=>aV T r ops l ⟨cY st.fr o.dst p.1,p.2,st.rd⟩)=fun p=>aV T r ops' l ⟨cY st.fr o.dst p.1,p.2,st.rd⟩:=funext fun p=>kZ l _ h.2;rw [bU,bU,hg,e,kZ l _ h.2];rfl
theorem nO {ops:List Oper}:∀ (a b:List Oper) (st:St) {L M:List St},aV T r ops a st=some L→bp L (aV T r ops b)=some M→aV T r ops (a++b) st=some M
 | [],b,st,L,M,h1,h2=>by rw [fu] at h1;cases h1;exact h2
 | o :: a,b,st,L,M,h1,h2=>by
  rw [bU] at h1;rw [List.cons_append,bU]
  cases hg:bu ops st.fr o.guard with
  | false =>rw [hg] at h1;exact nO a b _ h1 h2
  | true =>
   rw [hg] at h1;simp only [cond_true] at h1 ⊢
   cases ho:dS T r o.op st with
   | none=>rw [ho] at h1;cases h1
   | some L0 =>rw [ho] at h1;exact tI (fun x N M q1 q2=>nO a b _ q1 q2) h1 h2
theorem wj {f:St→Option (List St)} {ψ:Exit × St→Option (List (Exit × St))} (hψ:∀ s,ψ (.normal,s)=(f s).map (List.map fun s=>(.normal,s))):∀ {M:List St} {L:List (Exit × St)},bp (M.map fun s=>(Exit.normal,s)) ψ=some L→∃ N,bp M f=some N∧L=N.map fun s=>(.normal,s)
 | [],L,h=>by rw [List.map_nil,lI] at h;cases h;exact ⟨[],rfl,rfl⟩
 | s :: M,L,h=>by rw [List.map_cons] at h;obtain ⟨x,y,q1,q2,rfl⟩:=sI h;rw [hψ,Option.map_eq_some_iff] at q1;obtain ⟨u,q1,rfl⟩:=q1;obtain ⟨v,q3,rfl⟩:=wj hψ q2;exact ⟨u++v,sH _ _ _ q1 q3,by rw [List.map_append]⟩
theorem ay.F3 {id id1 id2:Nat} {l l1 l2:List Oper} {st:bO} {K:Exit→bO→Prop} (hl:l=l1++l2) (hg:(l.all fun o=>o.guard.isNone)=true)
  (h:ay T tab one (.seq (.region id1 l1.toArray false) (.region id2 l2.toArray false)) st K):ay T tab one (.region id l.toArray false) st K:=by
 subst hl;intro E base s hs;obtain ⟨m,L,h1,h2⟩:=h E base s hs;refine ⟨m,L,?_,h2⟩;rw [List.all_append,qq7] at hg;rw [lJ,dU] at h1;simp only [cond_false] at h1
 cases he:aV T (RX T tab m) l1 l1 s with
 | none=>rw [he] at h1;cases h1
 | some M =>
  rw [he] at h1
  obtain ⟨N,q1,rfl⟩:=wj (f:=aV T (RX T tab m) l2 l2) (fun s=>by
   show (match _root_.cond false _ (aV T (RX T tab m) l2 l2 s) with
    | some L=>some (L.map fun s=>(Exit.normal,s))
    | none=>none)=_
   simp only [cond_false]
   cases aV T (RX T tab m) l2 l2 s <;> rfl) h1
  rw [dU]
  have:aV T (RX T tab m) (l1++l2) (l1++l2) s=some N:=by
   refine nO l1 l2 s (L:=M) ?_ ?_
   ·rw [kZ l1 s hg.1,he]
   ·rw [←q1]
    congr 1
    exact funext fun s=>kZ l2 s hg.2
  simp only [cond_false,this]
def L3 (T:bC) (o:Op) (st:bO) (Q:AV→List AB→Prop):Prop :=
 ∀ (E:Env) (base:Nat) (H:Hp) (tm:Tr Value),aX E base st.hp st.aC H→lQ E.ρ H.get (E.O st.hp) st.fr tm→dc base E st.hp st.aC H (jt T H.n o (aY tm) H.get) Q
theorem ay.Mn {id:Nat} {dst:Option Tmp} {o:Op} {a1 a2 a3} {st:bO} {K:Exit→bO→Prop} (hk:cS o=.plain)
  (h:L3 T o st fun v hp'=>K .normal ⟨A4 st.fr dst v,hp',st.aC,st.rd,st.fl⟩):ay T tab one (.region id [⟨dst,o,a1,a2,a3,none⟩].toArray false) st K:=by
 intro E base s hs;obtain ⟨u,e,E',v,hp',r1,r2,r3,r4,r5⟩:=h E base s.hp s.fr hs.h hs.fr;refine ⟨0,[(.normal,⟨cY s.fr dst u,s.hp.app e,s.rd⟩)],?_,.single ⟨E',_,r2,rfl,⟨r3,hs.rd,ot (r4.Ho.fr hs.h hs.fr) r5 dst⟩,r4.Ho⟩⟩;rw [dU]
 have:aV T (RX T tab 0) [⟨dst,o,a1,a2,a3,none⟩] [⟨dst,o,a1,a2,a3,none⟩] s=some [⟨cY s.fr dst u,s.hp.app e,s.rd⟩]:=by
  rw [bU];have:dS T (RX T tab 0) o s=some [(u,s.hp.app e)]:=by unfold dS;simp only [hk,r1]
  simp only [bu,cond_true,this,dH,fu]
 simp only [cond_false,this,List.map_cons,List.map_nil]
end
end Go.RM
namespace Go.RM
open Go
section
variable {T : bC} {tab : List XE} {one : Bool} {fl base : Nat} {E E' E2 : Env} {hp hp' hp2 : List AB} {aC amb' : bJ} {H H' H2 : Hp} {ρ ρ2 : Nat → Nat → Option Nat} {g g2 : aG} {O O2 : Nat → Prop} {r : Rec}
end
end Go.RM
namespace Go.RM
open Go
section
variable {T : bC} {tab : List XE} {one : Bool} {fl base : Nat} {E E' E2 : Env} {hp hp' hp2 : List AB} {aC amb' : bJ} {H H' H2 : Hp} {ρ ρ2 : Nat → Nat → Option Nat} {g g2 : aG} {O O2 : Nat → Prop}
end
end Go.RM
namespace Go.RM
open Go
section
variable {T : bC} {tab : List XE} {one : Bool} {fl base : Nat} {E E' E2 : Env} {hp hp' hp2 : List AB} {aC amb' : bJ} {H H' H2 : Hp} {r : Rec}
end
end Go.RM
namespace Go.RM
open Go
section
variable {T : bC} {tab : List XE} {one : Bool} {base : Nat} {E E' : Env} {st st' : bO} {s s' : St} {n n' : Nat}
end
end Go.RM
namespace Go.RM
open Go
section
variable {T : bC} {tab : List XE} {one : Bool} {base : Nat} {E E' : Env} {st st' : bO} {s s' : St} {n n' : Nat}
end
end Go.RM
namespace Go.RM
open Go
section
variable {T : bC} {tab : List XE} {one : Bool} {base : Nat} {E E' : Env} {st st' : bO} {s s' : St} {n n' : Nat}
end
end Go.RM
namespace Go.RM
open Go
end Go.RM
namespace Go.RM
open Go
section
variable {T : bC} {tab : List XE} {one : Bool} {n : Nat}
end
end Go.RM
namespace Go.RM
open Go
section
variable {T : bC} {tab : List XE} {one : Bool}
theorem au.cut {F:AV} {args:List AV} {hp:List AB} {aC:bJ} {Q:AV→List AB→bJ→Prop} (h:au T tab one F args hp aC Q) (hc:∀ a hp' amb',Q a hp' amb'→a.gZ hp.length=true∧(hp'.take hp.length).all (AB.gZ hp.length)=true) :
  au T tab one F args hp aC fun a hp2 amb'=>∃ hp',hp2=hp'.take hp.length∧Q a hp' amb':=by
 intro E base H u us hr hf ha;obtain ⟨goal,hg,m,L,h1,h2,h3⟩:=h E base H u us hr hf ha;refine ⟨goal,hg,m,L,h1,h2,fun r hm=>?_⟩;obtain ⟨w,H',rfl,E',a,hp',amb',q1,q2,q3,q4⟩:=h3 r hm;obtain ⟨c1,c2⟩:=hc a hp' amb' q1
 have hw:ak (⟨aT [(0,a)],hp',amb',false,hp.length⟩:bO) ⟨aT [(0,a)],hp'.take hp.length,amb',false,hp.length⟩ :=
  ak.to hp.length rfl ⟨rfl,trivial⟩ (qq6 _) (by simp [c1]) c2
 have hs:qR E' base (⟨aT [(0,a)],hp',amb',false,hp.length⟩:bO) ⟨(.leaf:Tr Value).set 0 w,H',false⟩:=by
  refine ⟨q2,rfl,fun t=>?_⟩;show AR _ _ _ (aT [(0,a)] t) ((((.leaf:Tr Value).set 0 w).get t).getD undef);rw [Tr.gk];by_cases ht:t=0
  ·subst ht;exact q3
  ·rw [if_neg ht];have:aT [(0,a)] t=.cA:=by unfold aT;rw [Tr.beq_eq,decide_eq_false ht];rfl
   rw [this];exact .cA
 obtain ⟨E2,k1,k2⟩:=hw.2 E' base _ hs;have h0:=k1.fr 0;refine ⟨w,H',rfl,E2,a,_,amb',⟨hp',rfl,q1⟩,k1.h,?_,q4.trans k2⟩;have e:(((.leaf:Tr Value).set 0 w).get 0).getD undef=w:=by rw [Tr.gk,if_pos rfl];rfl
 have h0:AR E2.ρ H'.get (E2.O (hp'.take hp.length)) (aT [(0,a)] 0) ((((.leaf:Tr Value).set 0 w).get 0).getD undef):=h0;rw [e] at h0;exact h0
end
end Go.RM
namespace Go.RM
open Go
section
variable {T : bC} {tab : List XE} {one : Bool} {mu : Tmp → Bool} {base : Nat} {E : Env} {hp : List AB} {aC : bJ} {H : Hp} {ρ : Nat → Nat → Option Nat} {g : aG} {O O' : Nat → Prop}
def Jm (j aE:Nat) (cs:List AV):List AV→List AV→Prop
 | [],[]=>True
 | a :: l,b :: m=>Gv j aE cs a b∧Jm j aE cs l m
 | _,_=>False
theorem Jm.len {j aE:Nat} {cs:List AV}:∀ {l m:List AV},Jm j aE cs l m→l.length=m.length
 | [],[],_=>rfl
 | _ :: _,_ :: _,h=>by simp only [List.length_cons];rw [Jm.len h.2]
 | [],_ :: _,h=>h.elim
 | _ :: _,[],h=>h.elim
theorem Jm.get {j aE:Nat} {cs:List AV}:∀ {l m:List AV},Jm j aE cs l m→∀ (i:Nat) (a b:AV),l[i]?=some a→m[i]?=some b→Gv j aE cs a b
 | [],[],_,i,a,b,ha,_=>by cases ha
 | x :: l,y :: m,h,i,a,b,ha,hb=>by
  cases i with
  | zero=>cases ha;cases hb;exact h.1
  | succ i=>exact Jm.get h.2 i a b (by simpa using ha) (by simpa using hb)
 | [],_ :: _,h,_,_,_,_,_=>h.elim
 | _ :: _,[],h,_,_,_,_,_=>h.elim
inductive GB (j aE:Nat) (cs:List AV):AB→AB→Prop
 | cells {l m:List AV} {es v:Nat}:Jm j aE cs l m→GB j aE cs (.cells l es v) (.cells m es v)
 | same {b:AB}:b.pX j=true→GB j aE cs b b
theorem GB.aE {j aE:Nat} {cs:List AV} {b b':AB} (h:GB j aE cs b b'):b'.ver?=b.ver?:=by
 cases h with
 | cells=>rfl
 | same=>rfl
def Jn (j aE:Nat) (cs:List AV):Nat→List AB→List AB→Prop
 | _,[],[]=>True
 | i,b :: l,b' :: m=>(if Nat.beq i j then b'=.gone else GB j aE cs b b')∧Jn j aE cs (i+1) l m
 | _,_,_=>False
theorem Jn.len {j aE:Nat} {cs:List AV}:∀ {l m:List AB} {i:Nat},Jn j aE cs i l m→l.length=m.length
 | [],[],_,_=>rfl
 | _ :: _,_ :: _,_,h=>by simp only [List.length_cons];rw [Jn.len h.2]
 | [],_ :: _,_,h=>h.elim
 | _ :: _,[],_,h=>h.elim
theorem Jn.get {j aE:Nat} {cs:List AV}:∀ {l m:List AB} {i0:Nat},Jn j aE cs i0 l m→∀ (i:Nat) (b':AB),m[i]?=some b'→(i0+i=j∧b'=.gone)∨(i0+i ≠ j∧∃ b,l[i]?=some b∧GB j aE cs b b')
 | [],[],_,_,i,b',hb=>by cases hb
 | x :: l,y :: m,i0,h,i,b',hb=>by
  cases i with
  | zero =>
   cases hb;have h1:=h.1;split at h1
   ·rename_i hb;exact .inl ⟨Nat.eq_of_beq_eq_true hb,h1⟩
   ·rename_i hb;exact .inr ⟨fun e=>hb (by subst e;exact Nat.beq_refl _),x,rfl,h1⟩
  | succ i =>
   rcases Jn.get h.2 i b' (by simpa using hb) with ⟨h1,h2⟩|⟨h1,b,h2,h3⟩
   ·exact .inl ⟨by omega,h2⟩
   ·exact .inr ⟨by omega,b,by simpa using h2,h3⟩
 | [],_ :: _,_,h,_,_,_=>h.elim
 | _ :: _,[],_,h,_,_,_=>h.elim
theorem ak.K8 {st:bO} {l:List (Nat × AV)} (j:Nat) {aE es:Nat} {cs:List AV} {hp':List AB} (hj:st.hp[j]?=some (.cells cs es aE)) (hn:st.fl≤j) (hd:cV cs=true) (hs:vZ j aE cs st.fr l) (hb:Jn j aE cs 0 st.hp hp') :
  ak st ⟨aT l,hp',st.aC,st.rd,st.fl⟩:=by
 have hlt:j < st.hp.length:=(List.getElem?_eq_some_iff.1 hj).1;have hlen:=hb.len;refine ⟨rfl,fun E base s hs'=>?_⟩;have hr:=hs'.h
 have hget:∀ (i:Nat) (b:AB) (aE:Nat),hp'[i]?=some b→b.ver?=some aE→i ≠ j∧∃ b0,st.hp[i]?=some b0∧b0.ver?=some aE:=by
  intro i b v hi hv
  rcases hb.get i b hi with ⟨_,h2⟩|⟨h1,b0,h2,h3⟩
  ·subst h2;cases hv
  ·exact ⟨by omega,b0,h2,by rw [←h3.aE];exact hv⟩
 have hdr:∀ {i v k:Nat},aZ j E.ρ i v=some k→i ≠ j∧E.ρ i v=some k:=by
  intro i v k h;unfold aZ at h;split at h
  ·cases h
  ·rename_i hne;exact ⟨hne,h⟩
 have hown:∀ k,Own (aZ j E.ρ) hp' k→Own E.ρ st.hp k:=by rintro k ⟨i,b,v,h1,h2,h3⟩;obtain ⟨_,b0,g1,g2⟩:=hget i b v h1 h2;exact ⟨i,b0,v,g1,g2,(hdr h3).2⟩
 have hOs:∀ k,({E with ρ:=aZ j E.ρ}:Env).O hp' k→E.O st.hp k:=fun k h=>h.imp (hown k) id
 have hpt:∀ {o:Nat} {u:Value},AR E.ρ s.hp.get (E.O st.hp) (.ptr j aE o) u→AR (aZ j E.ρ) s.hp.get (({E with ρ:=aZ j E.ρ}:Env).O hp') (.pt cs o) u:=by
  intro o u h;obtain ⟨k,hk,rfl⟩:=h.cX;obtain ⟨cs',q1,q2⟩:=hr.cells hj hk
  have hnO:¬ ({E with ρ:=aZ j E.ρ}:Env).O hp' k:=by
   rintro (⟨i,b,v,h1,h2,h3⟩|hx)
   ·have:=hdr h3;exact this.1 (hr.inj i j v aE k this.2 hk)
   ·exact hr.gW k ⟨j,_,aE,hj,rfl,hk⟩ hx
  have:=q2.deep hd;refine .d (?_:DR _ _ (.pt cs o) (.pointer (some ⟨k,o,none⟩)))
  have h0:DR s.hp.get (({E with ρ:=aZ j E.ρ}:Env).O hp') (.pt cs o) (.pointer (some ⟨k,0+o,none⟩)) :=
   .pt q1 hnO (by rw [Nat.zero_add,this.1];exact qq6 _) (fun i a u x y=>(this.2 i a u x (by rw [Nat.zero_add] at y;exact y)).mono fun k b hk ho=>⟨hk,fun h=>ho (hOs k h)⟩)
  rw [Nat.zero_add] at h0;exact h0
 have hrow:∀ {o n c:Nat} {els:List (List AV)} {b:Bool} {u:Value} (es:Nat),o+n * es≤cs.length→els.length=n→(∀ el ∈ els,el.length=es)→els.flatten=(cs.drop o).take (n * es)→(b=true→c=n)→AR E.ρ s.hp.get (E.O st.hp) (.aL j aE o n c) u →
   AR (aZ j E.ρ) s.hp.get (({E with ρ:=aZ j E.ρ}:Env).O hp') (.sl els b) u:=by
  intro o n c els b u es g1 g2 g3 g4 g5 h
  rcases h.dW with ⟨k,hk,rfl⟩|⟨rfl,rfl,rfl⟩
  ·obtain ⟨cs',q1,q2⟩:=hr.cells hj hk
   have hnO:¬ ({E with ρ:=aZ j E.ρ}:Env).O hp' k:=by
    rintro (⟨i,b,v,h1,h2,h3⟩|hx)
    ·have:=hdr h3;exact this.1 (hr.inj i j v aE k this.2 hk)
    ·exact hr.gW k ⟨j,_,aE,hj,rfl,hk⟩ hx
   have hdp:=q2.deep hd;refine .d (.sl (es:=es) q1 hnO (by rw [←q2.1];exact g1) g2 (fun i el he=>g3 el (List.mem_of_getElem? he)) (fun i el jj a u he hx hu=>?_) g5);have hjj:jj < es:=by rw [←g3 el (List.mem_of_getElem? he)];exact (List.getElem?_eq_some_iff.1 hx).1
   have hat:=ec g3 i el jj he hjj;have hi:i < n:=by rw [←g2];exact (List.getElem?_eq_some_iff.1 he).1
   rw [g4,List.getElem?_take,List.getElem?_drop] at hat;have hlt:i * es+jj < n * es:=by have:(i+1) * es≤n * es:=Nat.mul_le_mul_right _ hi;rw [Nat.add_mul,Nat.one_mul] at this;omega
   rw [if_pos hlt,hx,←Nat.add_assoc] at hat;exact (hdp.2 _ a u hat hu).mono fun k b hk ho=>⟨hk,fun h=>ho (hOs k h)⟩
  ·simp only [List.length_eq_zero_iff] at g2;subst g2;exact .d .nil
 have hgv:∀ {a b:AV} {u:Value},Gv j aE cs a b→AR E.ρ s.hp.get (E.O st.hp) a u→AR (aZ j E.ρ) s.hp.get (({E with ρ:=aZ j E.ρ}:Env).O hp') b u:=by
  intro a b u hg h
  cases hg with
  | same hn=>exact h.pX hOs hn
  | ptr=>exact hpt h
  | row es g1 g2 g3 g4 g5=>exact hrow es g1 g2 g3 g4 g5 h
  | cA=>exact .cA
 refine ⟨{E with ρ:=aZ j E.ρ},⟨⟨hr.wf,fun i b v hi hv=>?_,fun i i' v v' k h1 h2=>hr.inj i i' v v' k (hdr h1).2 (hdr h2).2,fun i v k hk=>hr.rn i v k (hdr hk).2,fun i b v w h1 h2 h3=>?_,fun i v hi=>?_,fun k hk=>hr.sup k (hown k hk),fun k hk=>hr.gW k (hown k hk),hr.dx,hr.ds,hr.sn,hr.xn,fun k hk=>hr.oX k (hk.imp (hown k) id),hr.bn,hr.aC⟩,hs'.rd,fun t=>hgv (zn hs t) (hs'.fr t)⟩,
  ⟨qq6 _,fun i v k hi hk=>?_,fun k hk=>.inl (hown k hk),fun _ h=>.inl h,fun _ h=>.inl h,fun _ h=>h,fun _ h=>.inl h,fun _ _ _ _=>rfl,Nat.min_le_left _ _⟩⟩
 ·rcases hb.get i b hi with ⟨_,h2⟩|⟨hij,b0,hi',hG⟩
  ·subst h2;cases hv
  ·have hij:i ≠ j:=by omega
   have hv':b0.ver?=some v:=by rw [←hG.aE];exact hv
   rcases hr.gm i b0 v hi' hv' with ⟨k,b',q1,q2,q3⟩|⟨q1,q2⟩
   ·refine .inl ⟨k,b',by show aZ j E.ρ i v=_;rw [aZ,if_neg hij];exact q1,q2,?_⟩
    cases hG with
    | @cells l0 m0 es0 v0 hL =>
     obtain ⟨cs',rfl,h⟩:=q3;refine ⟨cs',rfl,by rw [←hL.len];exact h.1,fun i a u ha hu=>?_⟩;have hli:i < l0.length:=by rw [hL.len];exact (List.getElem?_eq_some_iff.1 ha).1
     exact hgv (hL.get i l0[i] a (List.getElem?_eq_getElem hli) ha) (h.2 i l0[i] u (List.getElem?_eq_getElem hli) hu)
    | same hbn =>
     cases b with
     | cells cs2 es2 ver2 =>obtain ⟨cs',rfl,h⟩:=q3;exact ⟨cs',rfl,h.1,fun i a u ha hu=>(h.2 i a u ha hu).pX hOs (kn hbn i a ha)⟩
     | dL p q=>exact q3
     | map ents clock =>obtain ⟨es,rfl,h1,h2⟩:=q3;refine ⟨es,rfl,h1,fun i k v born x hx hy=>?_⟩;simp only [AB.pX,List.all_eq_true,qq7] at hbn;have:=hbn _ (List.mem_of_getElem? hx);exact ⟨(h2 i k v born x hx hy).1.pX hOs this.1,(h2 i k v born x hx hy).2.1.pX hOs this.2,(h2 i k v born x hx hy).2.2⟩
     | iter i2 since seen stepped =>obtain ⟨m,rfl,h⟩:=q3;exact ⟨m,rfl,by show aZ j E.ρ i2 0=_;rw [aZ,if_neg (qW hbn)];exact h⟩
     | gone=>exact q3
   ·refine .inr ⟨by show aZ j E.ρ i v=_;rw [aZ,if_neg hij];exact q1,?_⟩
    cases hG with
    | @cells l0 m0 es0 v0 hL =>
     obtain ⟨es1,h1⟩:=q2;cases h1;have h2:=hL.len
     cases m0 with
     | nil=>exact ⟨_,rfl⟩
     | cons _ _=>cases h2
    | same _=>exact q2
 ·obtain ⟨hij,b0,h1,h2⟩:=hget i b v h1 h2;show aZ j E.ρ i w=none;rw [aZ,if_neg hij];exact hr.fresh i b0 v w h1 h2 h3
 ·show aZ j E.ρ i v=none;unfold aZ;split
  ·rfl
  ·exact hr.new i v (by rw [hlen];exact hi)
 ·show aZ j E.ρ i v=some k;rw [aZ,if_neg (by omega)];exact hk
end
end Go.RM
namespace Go.RM
open Go
theorem wrap_u64 {n:Nat} (h:n < 18446744073709551616):IntKind.wrap .u64 (n:Int)=(n:Int):=by show ((BitVec.ofInt 64 (n:Int)).toNat:Int)=_;rw [BitVec.ofInt_natCast,BitVec.toNat_ofNat,Nat.mod_eq_of_lt h]
theorem Gj {P:Program} {t:TypeId} {x y:Operand} {m n:Nat} (hm:m < 18446744073709551616) (hn:n < 18446744073709551616):dF P .and t x y (.int .u64 (m:Int)) (.int .u64 (n:Int))=some (.int .u64 ((m &&& n:Nat):Int),.none):=by have h:dF P .and t x y (.int .u64 (m:Int)) (.int .u64 (n:Int))=some (.int .u64 (IntKind.wrap .u64 ((BitVec.ofInt 64 (m:Int) &&& BitVec.ofInt 64 (n:Int)).toNat:Int)),.none):=rfl;rw [h,v7 (by omega) (by omega),wrap_u64 (Nat.lt_of_le_of_lt Nat.and_le_left hm)]
theorem Gk {P:Program} {t:TypeId} {x y:Operand} {j:Nat} (hj:j < 8):dF P .shl t x y (.int .u64 1) (.int .i64 (j:Int))=some (.int .u64 ((2 ^ j:Nat):Int),.none):=by
 match j,hj with
 | 0,_|1,_|2,_|3,_|4,_|5,_|6,_|7,_=>rfl
theorem Gl {P:Program} {t:TypeId} {x y:Operand} {m:Nat} (h1:1≤m) (hm:m < 18446744073709551616):dF P .sub t x y (.int .u64 (m:Int)) (.int .u64 1)=some (.int .u64 ((m - 1:Nat):Int),.none):=by have h:dF P .sub t x y (.int .u64 (m:Int)) (.int .u64 1)=some (.int .u64 (IntKind.wrap .u64 ((m:Int) - 1)),.none):=rfl;rw [h,show (m:Int) - 1=((m - 1:Nat):Int) by omega,wrap_u64 (by omega)]
section
variable {T : bC} {a b : AV} {t : TypeId} {x y : Operand} {hp : List AB} {K : AV → List AB → Prop}
theorem Lf {m n:Nat} (ha:a=.fl (.int .u64 (m:Int))) (hb:b=.fl (.int .u64 (n:Int))) (hm:m < 18446744073709551616) (hn:n < 18446744073709551616) (h:K (.fl (.int .u64 ((m &&& n:Nat):Int))) hp):aQ T .and t x y a b hp K:=by subst ha hb;exact ⟨_,_,rfl,rfl,.int .u64 ((m &&& n:Nat):Int),Gj hm hn,rfl,h⟩
theorem Lg {j:Nat} (ha:a=.fl (.int .u64 1)) (hb:b=.fl (.int .i64 (j:Int))) (hj:j < 8) (h:K (.fl (.int .u64 ((2 ^ j:Nat):Int))) hp):aQ T .shl t x y a b hp K:=by subst ha hb;exact ⟨_,_,rfl,rfl,.int .u64 ((2 ^ j:Nat):Int),Gk hj,rfl,h⟩
theorem Jp {m:Nat} (ha:a=.fl (.int .u64 (m:Int))) (hb:b=.fl (.int .u64 1)) (h1:1≤m) (hm:m < 18446744073709551616) (h:K (.fl (.int .u64 ((m - 1:Nat):Int))) hp):aQ T .sub t x y a b hp K:=by subst ha hb;exact ⟨_,_,rfl,rfl,.int .u64 ((m - 1:Nat):Int),Gl h1 hm,rfl,h⟩
end
end Go.RM
namespace Go.RM
open Go
section
variable {T : bC} {own : Bool} {fr : Nat → AV} {hp : List AB} {K : AV → List AB → Prop} {t : TypeId} {s by' cD : Nat} {z : Option Value} {agg : Bool} {cu : List (Nat × Nat)}
end
end Go.RM
namespace Go.RM
open Go
inductive As (s st:bO):Prop
 | is (h:ak s st)
 | no (h:False)
theorem As.aN {s st:bO}:As s st→ak s st
 | .is h=>h
 | .no h=>h.elim
theorem cutAt {T:bC} {tab:List XE} {one:Bool} {a b:Code} {st st':bO} {K:Exit→bO→Prop} (h1:ay T tab one a st (qU (fun s=>As s st') K)) (h2:ay T tab one b st' K):ay T tab one (.seq a b) st K :=
 .seq (h1.mono fun e s h=>by cases e <;> first|exact .aN h.aN h2|exact h)
end Go.RM
namespace Go.RM
open Go
theorem Gn {P:Program} {t:TypeId} {x y:Operand} {m n:Nat} (hm:m < 4611686018427387904) (hn:n < 4611686018427387904):dF P .and t x y (.int .i64 (m:Int)) (.int .i64 (n:Int))=some (.int .i64 ((m &&& n:Nat):Int),.none):=by have h:dF P .and t x y (.int .i64 (m:Int)) (.int .i64 (n:Int))=some (.int .i64 (IntKind.wrap .i64 ((BitVec.ofInt 64 (m:Int) &&& BitVec.ofInt 64 (n:Int)).toNat:Int)),.none):=rfl;have h1:m &&& n≤m:=Nat.and_le_left;rw [h,v7 (by omega) (by omega),wrap_i64 (by omega) (by omega)]
theorem Ic {P:Program} {t:TypeId} {x y:Operand} {m n:Nat} (hm:m < 4611686018427387904) (hn:n < 4611686018427387904):dF P .or t x y (.int .i64 (m:Int)) (.int .i64 (n:Int))=some (.int .i64 ((m ||| n:Nat):Int),.none):=by have h:dF P .or t x y (.int .i64 (m:Int)) (.int .i64 (n:Int))=some (.int .i64 (IntKind.wrap .i64 ((BitVec.ofInt 64 (m:Int) ||| BitVec.ofInt 64 (n:Int)).toNat:Int)),.none):=rfl;have h1:m ||| n < 2 ^ 62:=Nat.or_lt_two_pow (n:=62) hm hn;rw [h,HT (by omega) (by omega),wrap_i64 (by omega) (by omega)]
theorem Bk {w m n:Nat} (hm:m < 2 ^ w) (hn:n < 2 ^ w):(BitVec.ofInt w (m:Int) &&& ~~~ BitVec.ofInt w (n:Int)).toNat=m &&& (2 ^ w - 1 - n):=by rw [BitVec.toNat_and,BitVec.toNat_not,BitVec.ofInt_natCast,BitVec.ofInt_natCast,BitVec.toNat_ofNat,BitVec.toNat_ofNat,Nat.mod_eq_of_lt hm,Nat.mod_eq_of_lt hn]
theorem Bl {P:Program} {t:TypeId} {x y:Operand} {m n:Nat} (hm:m < 4611686018427387904) (hn:n < 4611686018427387904):dF P .andNot t x y (.int .i64 (m:Int)) (.int .i64 (n:Int))=some (.int .i64 ((m &&& (18446744073709551615 - n):Nat):Int),.none):=by have h:dF P .andNot t x y (.int .i64 (m:Int)) (.int .i64 (n:Int))=some (.int .i64 (IntKind.wrap .i64 ((BitVec.ofInt 64 (m:Int) &&& ~~~ BitVec.ofInt 64 (n:Int)).toNat:Int)),.none):=rfl;have h1:m &&& (18446744073709551615 - n)≤m:=Nat.and_le_left;rw [h,Bk (by omega) (by omega)];show some (Value.int .i64 (IntKind.wrap .i64 ((m &&& (18446744073709551615 - n):Nat):Int)),bY.none)=_;rw [wrap_i64 (by omega) (by omega)]
section
variable {T : bC} {a b : AV} {t : TypeId} {x y : Operand} {hp : List AB} {K : AV → List AB → Prop}
theorem Bm {m n:Nat} (ha:a=.fl (.int .i64 (m:Int))) (hb:b=.fl (.int .i64 (n:Int))) (hm:m < 4611686018427387904) (hn:n < 4611686018427387904) (h:K (.fl (.int .i64 ((m &&& n:Nat):Int))) hp):aQ T .and t x y a b hp K:=by subst ha hb;exact ⟨.int .i64 ((m &&& n:Nat):Int),Gn hm hn,rfl,h⟩
theorem Ie {m n:Nat} (ha:a=.fl (.int .i64 (m:Int))) (hb:b=.fl (.int .i64 (n:Int))) (hm:m < 4611686018427387904) (hn:n < 4611686018427387904) (h:K (.fl (.int .i64 ((m ||| n:Nat):Int))) hp):aQ T .or t x y a b hp K:=by subst ha hb;exact ⟨.int .i64 ((m ||| n:Nat):Int),Ic hm hn,rfl,h⟩
theorem JR {m n:Nat} (ha:a=.fl (.int .i64 (m:Int))) (hb:b=.fl (.int .i64 (n:Int))) (hm:m < 4611686018427387904) (hn:n < 4611686018427387904) (h:K (.fl (.int .i64 ((m &&& (18446744073709551615 - n):Nat):Int))) hp):aQ T .andNot t x y a b hp K:=by subst ha hb;exact ⟨.int .i64 ((m &&& (18446744073709551615 - n):Nat):Int),Bl hm hn,rfl,h⟩
end
section
variable {T : bC} {own : Bool} {fr : Nat → AV} {hp : List AB} {K : AV → List AB → Prop} {t : TypeId} {s by' cD : Nat} {z : Option Value} {agg : Bool} {cu : List (Nat × Nat)}
theorem MU {x:Operand} {cs:List AV} {o len:Nat} {e:TypeId} {els:List (List AV)} (hx:bh fr x=.pt cs o) (ht:T.ty.get t=some ⟨.array len e,s,by',z,agg,cu,cD⟩)
  (hb:o+len * cD≤cs.length) (h1:1≤cD) (he:els.length=len∧(∀ el ∈ els,el.length=cD)∧els.flatten=(cs.drop o).take (len * cD)) (k:K (.sl els true) hp):wpOp T own (.slice t x none none none) fr hp K:=by
 show mK T t (bh fr x) none none hp K;rw [hx];unfold mK;simp only [ht];refine ⟨0,len,els,rfl,rfl,⟨qq5 _,qq6 _,hb⟩,h1,?_,by rw [Nat.beq_refl];exact k⟩;rw [Nat.zero_mul,Nat.add_zero,Nat.sub_zero];exact he
end
inductive Mp (s st:bO) (P:Prop):Prop
 | is (h:ak s st) (p:P)
 | no (h:False)
theorem sL {T:bC} {tab:List XE} {one:Bool} {a b:Code} {st:bO} (st':bO) (P:Prop) {K:Exit→bO→Prop} (h1:ay T tab one a st (qU (fun s=>Mp s st' P) K)) (h2:P→ay T tab one b st' K):ay T tab one (.seq a b) st K :=
 .seq (h1.mono fun e s h=>by
  cases e
  all_goals first
   | exact (match h with|.is h p=>.aN h (h2 p)|.no h=>h.elim)
   | exact h)
theorem JS {T:bC} {t t':TypeId} {x:Operand} {st:bO} {els:List (List AV)} {f:Bool} {Q:AV→List AB→Prop} (hx:bh st.fr x=.sl els f) (ht:jP T.P t=true)
  (hn:dF T.P .eql t x (.const (.slice none 0 0)) (.slice none 0 0) (.slice none 0 0)=some (.bool true,.none)) (hQ:∀ b:Bool,(b=true→els=[])→Q (.fl (.bool b)) st.hp):L3 T (.binOp .eql t x (.const (.slice none 0 0)) t') st Q:=by
 intro E base H tm hr hf;show dc base E st.hp st.aC H (dF T.P .eql t x (.const (.slice none 0 0)) (aY tm x) (.slice none 0 0)) Q;have ha:=ji hf x;rw [hx] at ha
 generalize aY tm x=u at *
 cases ha.iJ with
 | nil =>rw [hn];exact .pure hr (.d (.fl rfl)) (hQ true fun _=>rfl)
 | sl q1 q2 q3 q4 q5 q6 q7 =>unfold dF;simp only [ht,cond_true];exact .pure hr (.d (.fl rfl)) (hQ false fun h=>Bool.noConfusion h)
theorem zw (z:Value) (n:Nat):bP [z] n=List.replicate n z:=by
 unfold bP;apply List.ext_getElem?;intro i;rw [List.getElem?_map,List.getElem?_replicate];by_cases h:i < n
 ·rw [List.getElem?_range h,if_pos h];show some ([z].getD (i % 1) undef)=_;rw [Nat.mod_one];rfl
 ·rw [List.getElem?_eq_none (by rw [List.length_range];omega),if_neg h];rfl
theorem JT {T:bC} {t e:TypeId} {x:Operand} {st:bO} {j aE o n c es:Nat} {cs:List AV} {inf:sR} {a1 a2 a3 a4 a5 a6} {z:Value} {Q:AV→List AB→Prop} (hx:bh st.fr x=.aL j aE o n c) (hn:1≤n) (hty:T.ty.get t=some ⟨.slice e,a1,a2,a3,a4,a5,a6⟩)
  (hi:elem? T t=some inf) (hs:inf.size=1) (hzf:bG inf=true) (hz:((inf.zero.map fun z=>z.cells.toList).getD [])=[z]) (hz1:bf z=true) (hj:st.hp[j]?=some (.cells cs es aE)) (hb:o+n≤cs.length)
  (hQ:Q (.tp []) (st.hp.set j (.cells (bg cs (List.replicate n (.fl z)) o) es aE))):L3 T (.call ⟨.builtin .clear,[x].toArray,[t].toArray⟩) st Q:=by
 intro E base H tm hr hf;show dc base E st.hp st.aC H (k6 T t (aY tm x) H.get) Q;have ha:=ji hf x;rw [hx] at ha
 generalize aY tm x=u at *
 rcases ha.dW with ⟨k,hk,rfl⟩|⟨_,rfl,_⟩
 ·obtain ⟨cs',q1,q2⟩:=hr.cells hj hk;unfold k6;simp only [hty,hi,q1,cells?,hs,hzf,hz,Nat.mul_one,zw];rw [show Nat.ble 1 n=true from Nat.ble_eq_true_of_le hn,show Nat.ble (o+n) cs'.length=true from Nat.ble_eq_true_of_le (by rw [←q2.1];exact hb)];simp only [Bool.and_self,cond_true]
  have hrep:fB E.ρ H.get (E.O st.hp) (List.replicate n (.fl z)) (List.replicate n z):=⟨by simp,fun i a u hi hu=>by
   rw [List.getElem?_replicate] at hi hu;split at hi
   ·cases hi;rw [if_pos (by assumption)] at hu;cases hu;exact .d (.fl hz1)
   ·cases hi⟩
  obtain ⟨p1,p2⟩:=hr.put (a:=.cells (bg cs (List.replicate n (.fl z)) o) es aE) (b:=.cells (splice cs' (List.replicate n z) o) true es) hj rfl rfl hk ⟨_,rfl,q2.splice hrep o⟩;exact ⟨_,.put k _,E,_,_,rfl,hQ,p1,p2,.d (.tp rfl fun i x u hx _=>by cases hx)⟩
 ·omega
inductive Mq {σ:Type} (s:bO) (Φ:σ→bO) (P:σ→Prop):Prop
 | is (x:σ) (h:ak s (Φ x)) (p:P x)
 | no (h:False)
theorem rq {T:bC} {tab:List XE} {one:Bool} {a b:Code} {st:bO} {σ:Type} (Φ:σ→bO) (P:σ→Prop) {K:Exit→bO→Prop} (h1:ay T tab one a st (qU (fun s=>Mq s Φ P) K)) (h2:∀ x,P x→ay T tab one b (Φ x) K):ay T tab one (.seq a b) st K :=
 .seq (h1.mono fun e s h=>by
  cases e
  all_goals first
   | exact (match h with|.is x h p=>.aN h (h2 x p)|.no h=>h.elim)
   | exact h)
end Go.RM
namespace Go.RM
open Go
section
variable {T : bC} {tab : List XE} {one : Bool} {fl base base1 : Nat} {E E' E1 E2 E4 : Env} {hp hp' hp1 hp2 hp4 : List AB} {aC amb' amb4 : bJ} {H H' H1 H2 H4 : Hp} {ρ ρ' : Nat → Nat → Option Nat} {g g' : aG} {O O' : Nat → Prop}
def Mr:AV→Bool
 | .fl v=>bf v
 | _=>false
def Ms:AV→Bool
 | .fl v=>bf v
 | .ptr _ _ _=>true
 | .aL _ _ _ _ _=>true
 | _=>false
def Dr:AB→Bool
 | .cells cs _ _=>cs.all Ms
 | .gone=>true
 | _=>false
theorem BR.flat {b:AB} {b':bz} (hf:Dr b=true) (h:BR ρ g O b b'):BR ρ g' O' b b':=by
 cases b with
 | cells cs es aE =>
  obtain ⟨cs',rfl,h⟩:=h;refine ⟨cs',rfl,h.1,fun i a u h1 h2=>?_⟩;have h3:=List.all_eq_true.1 hf a (List.mem_of_getElem? h1);have h4:=h.2 i _ u h1 h2
  cases a with
  | fl v =>obtain ⟨rfl,_⟩:=h4.eU;exact .d (.fl h3)
  | ptr j aE o =>obtain ⟨k,hk,rfl⟩:=h4.cX;exact .ptr hk
  | aL j aE o n c =>
   cases h4 with
   | aL h=>exact .aL h
   | qK h=>exact .qK h
   | d h=>cases h
  | _=>cases h3
 | gone=>exact h
 | _=>cases hf
inductive Ld (hp:List AB):AV→AV→Prop
 | row {j aE o n c es:Nat} {cs:List AV} {els:List (List AV)}:hp[j]?=some (.cells cs es aE)→o+n * es≤cs.length→els.length=n→(∀ el ∈ els,el.length=es)→els.flatten=(cs.drop o).take (n * es)→cs.all Mr=true →
  Ld hp (.aL j aE o n c) (.sl els false)
theorem Ld.dr (h:aX E base hp aC H) {O':Nat→Prop} (hO:∀ k,Own E.ρ hp k→¬ O' k) {a x:AV} (hl:Ld hp a x) {u:Value} (ha:AR E.ρ H.get (E.O hp) a u):DR H.get O' x u:=by
 cases hl with
 | row h1 h2 h3 h4 h5 h6 =>
  rename_i j aE o n c es cs els
  rcases ha.dW with ⟨k,hk,rfl⟩|⟨rfl,rfl,rfl⟩
  ·obtain ⟨cs',q1,q2⟩:=h.cells h1 hk;refine .sl q1 (hO k ⟨j,_,aE,h1,rfl,hk⟩) (by rw [←q2.1];exact h2) h3 (fun i el he=>h4 el (List.mem_of_getElem? he)) (fun i el j' a u e1 e2 e3=>?_) (fun h=>Bool.noConfusion h);have hlen:el.length=es:=h4 el (List.mem_of_getElem? e1);have hj:j' < es:=by rw [←hlen];exact (List.getElem?_eq_some_iff.1 e2).1
   have hf:=ec h4 i el j' e1 hj;have hi:i < n:=by rw [←h3];exact (List.getElem?_eq_some_iff.1 e1).1
   rw [h5,List.getElem?_take_of_lt (by
    have:(i+1) * es≤n * es:=Nat.mul_le_mul_right _ hi;rw [Nat.add_mul,Nat.one_mul] at this
    omega),List.getElem?_drop,e2] at hf
   rw [show o+(i * es+j')=o+i * es+j' by omega] at hf;have h7:=List.all_eq_true.1 h6 a (List.mem_of_getElem? hf);have h8:=q2.2 _ a u hf e3
   cases a with
   | fl v =>obtain ⟨rfl,_⟩:=h8.eU;exact .fl h7
   | _=>cases h7
  ·obtain rfl:=List.length_eq_zero_iff.1 h3;exact .nil
def Mt (hp:List AB) (l m:List AV):Prop:=l.length=m.length∧∀ (i:Nat) (a x:AV),l[i]?=some a→m[i]?=some x→Ld hp a x
def zy (T:bC) (tab:List XE) (one:Bool) (u:Value) (x:List AV) (a:bJ) (Q:Bool→bJ→Prop):Prop :=
 ∀ (hp:List AB) (xs':List AV),Mt hp xs' x→au T tab one (.oq u) xs' hp a fun v hp' a'=>hp'=hp∧∃ b,v=.fl (.bool b)∧Q b a'
def JY (hpn:List AB) (an:bJ) (pn:Prop) (e:Exit) (s:bO):Prop :=
 match e with
 | .normal=>pn∧∃ fr',ak s ⟨fr',hpn,an,s.rd,s.fl⟩
 | _=>False
def Eu (T:bC) (tab:List XE) (one:Bool) (F:AV) (xs:List (List AV)):Prop :=
 (∃ f a b,F=.fn f a b)∧F.deep=true∧∀ (u:Value) (J:Nat→bJ) (Stop:bJ→Prop),(∀ (i:Nat) (x:List AV),xs[i]?=some x→zy T tab one u x (J i) (Ct (J (i+1)) Stop)) →
  au T tab one F [.oq u] [] (J 0) fun _ _ a'=>a'=J xs.length∨Stop a'
theorem Eu.body {f:FuncId} {fn:Func} {c:Code} {first caps:List AV} {xs:List (List AV)} (hf:T.fn.get f=some fn) (hb:fn.body=some c) (hn:noEntry tab f=true) (hd:(AV.fn f first caps).deep=true)
  (hw:∀ (u:Value) (J:Nat→bJ) (Stop:bJ→Prop),(∀ (i:Nat) (x:List AV),xs[i]?=some x→zy T tab one u x (J i) (Ct (J (i+1)) Stop)) →
   ay T tab one c ⟨Ba (first++[.oq u]++caps),[],J 0,false,0⟩ (LR T fn.results.toList fun a'=>a'=J xs.length∨Stop a'))  :Eu T tab one (.fn f first caps) xs:=by
 refine ⟨⟨f,first,caps,rfl⟩,hd,fun u J Stop hy E base H v us hr hF ha=>?_⟩;have hF:=hF.deep hd
 cases hF with
 | fn l1 l2 d1 d2 =>
  rename_i a' b';have hall:fB E.ρ H.get (E.O []) (first++[.oq u]++caps) (a'.toList++us++b'.toList):=fB.append (fB.append (si.C4 ⟨l1,d1⟩) ha) (si.C4 ⟨l2,d2⟩);refine ⟨.fn f (a'.toList++us++b'.toList),rfl,?_⟩;obtain ⟨m,L,h1,h2,h3⟩:=hw u J Stop hy E base ⟨setArgs .leaf 0 (a'.toList++us++b'.toList),H,false⟩ ⟨hr,rfl,vT hall⟩
  obtain ⟨m',M,hm,q1,q2,q3⟩:=fE (one:=one) (L:=L) (f:=fun _ (p:Exit × St)=>eN T fn.results.toList p) (P:=fun r=>∃ w H',r=.ret w H'∧∃ E' a hp' amb',(amb'=J xs.length∨Stop amb')∧aX E' base hp' amb' H'∧AR E'.ρ H'.get (E'.O hp') a w∧lq ([]:List AB).length base E [] H E' hp' H')
   (fun _ _ _ _ _ h=>h) m h2 (fun p hp=>by
    obtain ⟨E',st',k1,_,k2,k3⟩:=h3 p hp;obtain ⟨e,s'⟩:=p
    have done:(e=.normal∨e=.ret)→(oZ T st' fn.results.toList fun _=>st'.aC=J xs.length∨Stop st'.aC)→∃ (_:Nat) (M:List eF),eN T fn.results.toList (e,s')=some M∧pQ one M fun r=>∃ w H',r=.ret w H'∧∃ E' a hp' amb',(amb'=J xs.length∨Stop amb')∧aX E' base hp' amb' H'∧AR E'.ρ H'.get (E'.O hp') a w∧lq ([]:List AB).length base E [] H E' hp' H':=by
     intro he hr;obtain ⟨ws,az,r1,r2,r3⟩:=kV k2 hr;refine ⟨0,[.ret (bM ws) s'.hp],?_,.single ⟨_,_,rfl,E',.cA,st'.hp,st'.aC,r2,k2.h,.cA,k3⟩⟩;unfold eN
     rcases he with rfl|rfl <;> simp only [r1,Option.map_some]
    cases e with
    | normal=>exact done (.inl rfl) k1
    | ret=>exact done (.inr rfl) k1
    | _=>exact k1.elim)
  refine ⟨m'+1,M,?_,q2,q3⟩;show RX T tab (m'+1) (.call f _ H)=_;rw [yV,ou _ _ hn];simp only;rw [jZ,hf];simp only [hb];rw [dV (gV hm) _ _ _ h1];exact q1
theorem ay.JZ {f:Operand} {ps:Array Tmp} {az bd:Code} {st:bO} {K:Exit→bO→Prop} {xs:List (List AV)} (Hs:Nat→List AB) (As:Nat→bJ) (Ps:Nat→Prop) {rdv:Bool} (hrd:st.rd=rdv) (hgen:Eu T tab one (bh st.fr f) xs) (hflat:∀ i,(Hs i).all Dr=true) (h0:Hs 0=st.hp) (ha0:As 0=st.aC) (hp0:Ps 0)
  (hround:∀ (i:Nat) (x:List AV),xs[i]?=some x→Ps i→x.length=ps.toList.length∧ay T tab one az ⟨Dd st.fr (ps.toList.zip x),Hs i,As i,true,st.hp.length⟩ (MA fun s=>ay T tab one bd s (JY (Hs (i+1)) (As (i+1)) (Ps (i+1)))))
  (hend:Ps xs.length→K .normal ⟨st.fr,Hs xs.length,As xs.length,rdv,st.fl⟩):ay T tab one (.rangeFunc f ps az bd) st K:=by
 intro E base s hs;obtain ⟨⟨gf,ga,gb,hF⟩,hdeep,hgen⟩:=hgen;subst hrd
 let l:=s.hp.n
 let LP:bz→(List AB→bJ→Prop)→bJ:=FM st.hp.length E st.hp s.hp
 let blkR:bz:=.loop .ready none s.fr ps az bd
 let J:Nat→bJ:=fun i=>LP blkR fun hp' amb'=>hp'=Hs i∧amb'=As i∧Ps i
 let Stop:bJ→Prop:=fun _=>False
 let u:Value:=.func (.yield l) #[] #[]
 have hy:∀ (i:Nat) (x:List AV),xs[i]?=some x→zy T tab one u x (J i) (Ct (J (i+1)) Stop):=by
  intro i x hx hp xs' hld E1 base1 H w us hr hw ha
  have hwu:w=u:=by
   cases hw with
   | d h=>cases h;rfl
  subst hwu;obtain ⟨hlow,hl,E',b',hp',amb',H',⟨rfl,rfl,hPi⟩,q2,q3,q4,⟨q5,q5'⟩,q6,q7,q8,q9⟩:=hr.aC;obtain ⟨hxl,hround⟩:=hround i x hx hPi;refine ⟨.yield l ([]++us),rfl,?_⟩;rw [List.nil_append];have hln:l < H.n:=hr.sn _ (hlow _ (qq6 _))
  let X2:Nat→Prop:=fun k=>E'.X k∨(k < H.n∧¬ E1.S k)
  have hv:aX {E' with X:=X2} base1 (Hs i) (As i) H:=q2.view hr.wf q4 (fun k h=>.inl h) (fun k h=>by
    rcases h with h|h
    ·exact .inl h
    ·by_cases hk:k < H'.n
     ·exact .inl ((q6 k hk).resolve_left h.2)
     ·exact .inr (by omega)) (fun k h=>h.elim (fun h=>Nat.lt_of_lt_of_le (q2.xn k h) q4) And.left)
   (fun k hk h=>by
    rcases h with h|h
    ·exact q8 k ((q6 k hk).resolve_right h) (fun e=>h (e ▸ q5))
    ·exact q8 k (q7 k h) (fun e=>q5' (e ▸ h))) (fun k hk=>hr.oX k (.inr (q9 k (hk.imp id .inl)))) hr.bn
  have f0:lq st.hp.length 0 E st.hp s.hp {E' with X:=X2} (Hs i) H:=⟨Nat.le_trans q3.n q4,q3.zM,q3.own,q3.d,fun k h=>by
    rcases h with h|h
    ·exact q3.x k h
    ·by_cases hk:k < s.hp.n
     ·exact absurd (hlow k (Nat.le_of_lt hk)) h.2
     ·exact .inr (by omega),fun k h=>.inl (q3.xk k h),q3.s,fun k hk h1 h2=>by rw [q8 k (hlow k (Nat.le_of_lt hk)) (by omega)];exact q3.same k hk h1 h2,by omega⟩
  let X3:Nat→Prop:=fun k=>X2 k∧¬ Own E1.ρ hp k
  have hsub:∀ k,({E' with X:=X3}:Env).O (Hs i) k→({E' with X:=X2}:Env).O (Hs i) k:=fun k h=>h.imp id And.left
  have hvL:aX {E' with X:=X3} base1 (Hs i) (As i) H:=by
   refine ⟨hv.wf,fun j b aE hj hv2=>?_,hv.inj,hv.rn,hv.fresh,hv.new,hv.sup,fun k hk hX=>hv.gW k hk hX.1,fun k hd=>⟨hv.dx k hd,fun ho=>hr.sup k ho (q7 k (q2.ds k hd))⟩,hv.ds,hv.sn,fun k hX=>hv.xn k hX.1,hv.oX,hv.bn,hv.aC⟩
   rcases hv.gm j b aE hj hv2 with ⟨k,b',p1,p2,p3⟩|h
   ·exact .inl ⟨k,b',p1,p2,p3.mono (fun _ _ _ h=>h) fun k b hk ho=>⟨hk,fun h=>ho (hsub k h)⟩⟩
   ·exact .inr h
  have hfrm:lQ E'.ρ H.get (({E' with X:=X3}:Env).O (Hs i)) st.fr s.fr:=fun t=>(f0.ar hs.h.FL (hs.fr t)).mono (fun _ _ _ h=>h) (fun k b hk ho=>⟨hk,fun h=>ho (hsub k h)⟩)
  have hown:∀ k,Own E1.ρ hp k→¬ ({E' with X:=X3}:Env).O (Hs i) k:=fun k hk h=>by
   rcases h with h|h
   ·exact hr.sup k hk (hr.ds k (q9 k (.inl h)))
   ·exact h.2 hk
  have hargs:fB E'.ρ H.get (({E' with X:=X3}:Env).O (Hs i)) x us:=by
   refine ⟨by rw [←ha.1];exact hld.1.symm,fun i' a w' h1 h2=>?_⟩;have hlt:i' < xs'.length:=by rw [hld.1];exact (List.getElem?_eq_some_iff.1 h1).1
   have h3:xs'[i']?=some xs'[i']:=List.getElem?_eq_getElem hlt;exact .d ((hld.2 i' _ _ h3 h1).dr hr hown (ha.2 i' _ _ h3 h2))
  obtain ⟨m1,L1,a1,a2,a3⟩:=hround {E' with X:=X3} base1 ⟨ep s.fr (ps.toList.zip us),H,true⟩ ⟨hvL,rfl,Bf _ hfrm hargs⟩;have hXl2:X2 s.hp.n:=.inl q5;have hXl3:X3 s.hp.n:=⟨hXl2,fun ho=>hr.sup _ ho (hlow _ (qq6 _))⟩
  obtain ⟨m,M,hm,z1,z2⟩:=fE (one:=one) (L:=L1) (f:=fun m (p:Exit × St)=>cN T (RX T tab m) l bd p) (P:=fun r=>∃ w H',r=.ret w H'∧∃ E5 a hp5 amb5,(hp5=hp∧∃ b,a=.fl (.bool b)∧Ct (J (i+1)) Stop b amb5)∧aX E5 base1 hp5 amb5 H'∧AR E5.ρ H'.get (E5.O hp5) a w∧lq hp.length base1 E1 hp H E5 hp5 H')
   (fun n m x M hnm hx=>vW (gV hnm) hx) m1 a2 (fun p hp0=>by
    obtain ⟨E2,st2,k1,k2,k3,k4⟩:=a3 p hp0;obtain ⟨e,p⟩:=p
    cases e with
    | normal =>
     obtain ⟨hrd2,hbd⟩:=k1;have gl:p.hp.get l=some blkR:=by rw [k4.same l hln (fun h=>hvL.gW _ h hXl3) (fun h=>q5' (q2.ds _ h))];exact hl
     have hl2:l < p.hp.n:=Nat.lt_of_lt_of_le hln k4.n;have hX2l:E2.X l:=k4.xk l hXl3
     have hS2l:¬ E2.S l:=fun h=>by
      rcases k4.s l h with h|h
      ·exact q5' h
      ·have:H.n≤l:=h;omega
     let bB:bz:=.loop .busy none s.fr ps az bd
     have hv2:aX E2 base1 st2.hp st2.aC (p.hp.put l bB):=k3.h.view (X':=E2.X) (fun k hk=>by
       have hk:p.hp.n≤k:=hk
       rw [bT (by omega)];exact k3.h.wf k hk) (qq6 _) (fun _ h=>h) (fun _ h=>.inl h) k3.h.xn (fun k hk h=>bT fun e=>by
       subst e
       exact h.elim (fun h=>h hX2l) hS2l) k3.h.oX k3.h.bn
     have har2:lQ E2.ρ (p.hp.put l bB).get (E2.O st2.hp) st2.fr p.fr:=fun t=>(k3.fr t).mono (fun _ _ _ h=>h) (fun k b hk ho=>⟨by rw [bT (fun e=>by subst e;exact ho (.inr hX2l))];exact hk,ho⟩);obtain ⟨m2,L2,b1,b2,b3⟩:=hbd E2 base1 ⟨p.fr,p.hp.put l bB,true⟩ ⟨hv2,hrd2.symm,har2⟩
     have F1:lq st.hp.length base1 {E' with X:=X3} (Hs i) (H.put l bB) E2 st2.hp (p.hp.put l bB):=⟨k4.n,k4.zM,k4.own,k4.d,k4.x,k4.xk,k4.s,fun k hk h1 h2=>by
       by_cases hkl:k=l
       ·subst hkl;rw [gX,gX]
       ·rw [bT hkl,bT hkl];exact k4.same k hk h1 h2,by
       have h5:min H.lo base1≤p.hp.lo:=k4.lo;have h3:(H.put l bB).lo=min H.lo l:=rfl;have h4:(p.hp.put l bB).lo=min p.hp.lo l:=rfl
       omega⟩
     have back:∀ {E4:Env} {amb4:bJ} {q:St} (blk':bz) {Q':List AB→bJ→Prop},aX E4 base1 (Hs (i+1)) amb4 q.hp→lq st.hp.length base1 E2 st2.hp (p.hp.put l bB) E4 (Hs (i+1)) q.hp→Q' (Hs (i+1)) amb4 →
       ∃ E5,aX E5 base1 hp (LP blk' Q') (q.hp.put l blk')∧lq hp.length base1 E1 hp H E5 hp (q.hp.put l blk'):=by
      intro E4 amb4 q blk' Q' h4 f4 hQ;have ft:=F1.trans f4
      have h4':aX {E4 with X:=fun k=>E4.X k∨X2 k} base1 (Hs (i+1)) amb4 q.hp:=by
       refine ⟨h4.wf,fun j b aE hj hv2=>?_,h4.inj,h4.rn,h4.fresh,h4.new,h4.sup,fun k hk hX=>?_,fun k hd=>.inl (h4.dx k hd),h4.ds,h4.sn,fun k hX=>?_,h4.oX,h4.bn,h4.aC⟩
       ·rcases h4.gm j b aE hj hv2 with ⟨k,b',p1,p2,p3⟩|h
        ·exact .inl ⟨k,b',p1,p2,BR.flat (List.all_eq_true.1 (hflat (i+1)) b (List.mem_of_getElem? hj)) p3⟩
        ·exact .inr h
       ·rcases hX with hX|hX
        ·exact h4.gW k hk hX
        ·rcases ft.own k hk with h5|h5
         ·exact hv.gW k h5 hX
         ·have:H.n≤k:=h5;have:=hv.xn k hX;omega
       ·rcases hX with hX|hX
        ·exact h4.xn k hX
        ·exact Nat.lt_of_lt_of_le (hv.xn k hX) ft.n
      have f4':lq st.hp.length base1 {E' with X:=X2} (Hs i) (H.put l bB) {E4 with X:=fun k=>E4.X k∨X2 k} (Hs (i+1)) q.hp :=
       ⟨ft.n,ft.zM,ft.own,ft.d,fun k h=>by
        rcases h with h|h
        ·exact (ft.x k h).imp And.left id
        ·exact .inl h,fun k h=>.inr h,ft.s,ft.same,ft.lo⟩
      exact Ee (E:={E' with X:=X2}) hr (fun k hk=>by
        by_cases hs1:E1.S k
        ·exact .inl hs1
        ·exact .inr (.inr ⟨hk,hs1⟩)) hXl2 q5' q7 q9 hlow f0 h4' f4' hQ
     refine ⟨max m2 0,?_⟩
     obtain ⟨m3,M3,hm3,y1,y2⟩:=fE (one:=one) (L:=L2) (f:=fun _ (q:Exit × St)=>iu l q) (P:=fun r=>∃ w H',r=.ret w H'∧∃ E5 a hp5 amb5,(hp5=hp∧∃ b,a=.fl (.bool b)∧Ct (J (i+1)) Stop b amb5)∧aX E5 base1 hp5 amb5 H'∧AR E5.ρ H'.get (E5.O hp5) a w∧lq hp.length base1 E1 hp H E5 hp5 H')
      (fun _ _ _ _ _ h=>h) 0 b2 (fun q hq=>by
       obtain ⟨E3,st3,j1,j2,j3,j4⟩:=b3 q hq;obtain ⟨e,q⟩:=q;have gl2:q.hp.get l=some bB:=by rw [j4.same l hl2 (fun h=>hv2.gW _ h hX2l) (fun h=>hS2l (hv2.ds _ h))];exact gX
       have jfl:st2.fl=st.hp.length:=k2
       cases e with
       | normal =>obtain ⟨hPn,fr',hwk⟩:=j1;obtain ⟨E4,h4,f4⟩:=hwk.K7 j3;rw [j2,jfl] at f4;rw [jfl] at j4;obtain ⟨E5,x1,x2⟩:=back (q:=q) (.loop .ready none s.fr ps az bd) (Q':=fun hp' amb'=>hp'=Hs (i+1)∧amb'=As (i+1)∧Ps (i+1)) h4 (j4.trans f4) ⟨rfl,rfl,hPn⟩;exact ⟨0,[.ret (.bool true) (q.hp.put l (.loop .ready none s.fr ps az bd))],by unfold iu;simp only [gl2,bB],.single ⟨_,_,rfl,E5,.fl (.bool true),hp,_,⟨rfl,true,rfl,.inl ⟨rfl,rfl⟩⟩,x1,.d (.fl rfl),x2⟩⟩
       | _=>exact j1.elim)
     refine ⟨M3,?_,y2⟩;unfold cN;simp only [gl,blkR];rw [dV (gV (Nat.le_max_left m2 0)) _ _ _ b1];exact y1
    | _=>exact k1.elim)
  refine ⟨m+1,M,?_,z2⟩;show RX T tab (m+1) (.round l us H)=_;rw [Fv,ny,hl];simp only [blkR];rw [show Nat.beq us.length ps.toList.length=true by rw [←ha.1,hld.1,hxl];exact Nat.beq_refl _];simp only [cond_true];rw [dV (gV hm) _ _ _ a1];exact z1
 let E1:Env:=⟨fun _ _=>none,fun k=>Own E.ρ st.hp k∨E.D k∨k=l,fun k=>k≤l,fun k=>Own E.ρ st.hp k∨E.X k∨k=l⟩
 have hno:∀ k,¬ Own E1.ρ [] k:=fun k ⟨j,b,aE,h,_⟩=>by cases h
 have hwf1:Wf (s.hp.push blkR):=(cO.push s.hp blkR).wf hs.h.wf
 have hrel1:aX E1 base [] (J 0) (s.hp.push blkR) :=
  {wf:=hwf1,gm:=fun j b aE h _=>(by cases h),inj:=fun j j' aE ver' k h=>(by cases h),rn:=fun j v k h=>(by cases h),fresh:=fun j b aE v h=>(by cases h),new:=fun _ _ _=>rfl,
   sup:=fun k h=>(hno k h).elim,gW:=fun k h=>(hno k h).elim,dx:=fun k h=>h.imp id (fun h=>h.imp (hs.h.dx k) id),
   ds:=fun k h=>by
    rcases h with h|h|h
    ·exact Nat.le_of_lt (hs.h.nK h)
    ·exact Nat.le_of_lt (hs.h.sn k (hs.h.ds k h))
    ·exact Nat.le_of_eq h
   sn:=fun k h=>Nat.lt_succ_of_le h
   xn:=fun k h=>by
    show k < s.hp.n+1
    rcases h with h|h|h
    ·exact Nat.lt_succ_of_lt (hs.h.nK h)
    ·exact Nat.lt_succ_of_lt (hs.h.xn k h)
    ·have:k=s.hp.n:=h;omega
   oX:=fun k h=>by
    rcases h with h|h|h|h
    ·exact (hno k h).elim
    ·exact hs.h.oX k (.inl h)
    ·exact hs.h.oX k (.inr h)
    ·rw [h];exact hs.h.bn
   bn:=Nat.le_succ_of_le hs.h.bn
   aC:=by
    refine ⟨fun k h=>h,iI,{E with X:=fun k=>E.X k∨k=s.hp.n},base,st.hp,st.aC,s.hp.push blkR,⟨h0.symm,ha0.symm,hp0⟩,hs.h.view hwf1 (Nat.le_succ _) (fun k h=>.inl h) (fun k h=>h.imp id (fun h=>Nat.le_of_eq h.symm)) (fun k h=>?_) (fun k hk _=>ct hk) hs.h.oX (Nat.le_succ_of_le hs.h.bn),
     ⟨Nat.le_succ _,fun _ _ _ _ h=>h,fun _ h=>.inl h,fun _ h=>.inl h,fun k h=>h.imp id (fun h=>Nat.le_of_eq h.symm),fun _ h=>.inl h,fun _ h=>.inl h,fun k hk _ _=>ct hk,by omega⟩,qq6 _,⟨.inr rfl,fun h=>Nat.lt_irrefl _ (hs.h.sn _ h)⟩,fun k hk=>.inl (Nat.le_of_lt_succ hk),fun k h=>Nat.le_of_lt (hs.h.sn k h),fun _ _ _=>rfl,fun k h=>h⟩
    show k < s.hp.n+1
    rcases h with h|h
    ·exact Nat.lt_succ_of_lt (hs.h.xn k h)
    ·omega}
 have hFv:=ji hs.fr f;have hdF:=hFv.deep hdeep
 have hF1:AR E1.ρ (s.hp.push blkR).get (E1.O []) (bh st.fr f) (aY s.fr f):=.d (hdF.mono fun k b hk ho=>by
  have hlt:=hs.h.wf.lt hk;refine ⟨by rw [ct hlt];exact hk,fun h=>?_⟩
  rcases h with h|h|h|h
  ·exact hno k h
  ·exact ho (.inl h)
  ·exact ho (.inr h)
  ·have:k=s.hp.n:=h;omega)
 obtain ⟨goal,hgo,m,L,c1,c2,c3⟩:=hgen u J Stop hy E1 base (s.hp.push blkR) _ [u] hrel1 hF1 (.cons (.d (.oq rfl)) .nil)
 have hgfn:∃ az',goal=.fn gf az':=by
  rw [hF] at hdF;generalize aY s.fr f=fv at hdF hgo
  cases hdF with
  | fn _ _ _ _=>exact ⟨_,by cases hgo;rfl⟩
 obtain ⟨az',rfl⟩:=hgfn
 obtain ⟨m',M,hm,z1,z2⟩:=fE (one:=one) (L:=L) (f:=fun _ (r:eF)=>lF l s.fr s.rd r) (P:=fun p=>qT E base st s (K p.1) p.2) (fun _ _ _ _ _ h=>h) m c2 (fun r hr=>by
  obtain ⟨w,H2,rfl,E2,a,hp2,amb2,k1,k2,k3,k4⟩:=c3 r hr
  have fin:∀ {gm:bz} (blk':bz) {Q:List AB→bJ→Prop} {e:Exit},amb2=LP gm Q→(∀ hp' amb',Q hp' amb'→K e ⟨st.fr,hp',amb',st.rd,st.fl⟩)→H2.get l=some gm∧qT E base st s (K e) ⟨s.fr,H2.put l blk',s.rd⟩:=by
   intro gm blk' Q e ha hQ;subst ha;obtain ⟨hlow,hl,E',b',hp',amb',H',q1,q2,q3,q4,⟨q5,q5'⟩,q6,q7,q8,q9⟩:=k2.aC;have hln:l < H2.n:=k2.sn _ (hlow _ (qq6 _));have hbl:base≤l:=k2.oX _ (.inr (q9 _ (.inr (.inr rfl))));have hg2:∀ k,E2.S k→k ≠ l→(H2.put l blk').get k=H'.get k:=fun k h1 h2=>by rw [bT h2];exact q8 k h1 h2
   have hfin:aX {E' with X:=fun k=>E'.X k∨(k < H2.n∧¬ E2.S k)} base hp' amb' (H2.put l blk'):=q2.view (fun k hk=>by
      have hk:H2.n≤k:=hk
      rw [bT (by omega)];exact k2.wf k hk) q4 (fun k h=>.inl h) (fun k h=>by
     rcases h with h|h
     ·exact .inl h
     ·by_cases hk:k < H'.n
      ·exact .inl ((q6 k hk).resolve_left h.2)
      ·exact .inr (by omega)) (fun k h=>h.elim (fun h=>Nat.lt_of_lt_of_le (q2.xn k h) q4) And.left)
    (fun k hk h=>by
     rcases h with h|h
     ·exact hg2 k ((q6 k hk).resolve_right h) (fun e=>h (e ▸ q5))
     ·exact hg2 k (q7 k h) (fun e=>q5' (by have e:k=s.hp.n:=e;rw [←e];exact h))) (fun k hk=>k2.oX k (.inr (q9 k (hk.imp id .inl)))) k2.bn
   have ff:lq st.hp.length base E st.hp s.hp {E' with X:=fun k=>E'.X k∨(k < H2.n∧¬ E2.S k)} hp' (H2.put l blk'):=⟨Nat.le_trans q3.n q4,q3.zM,q3.own,q3.d,fun k h=>by
     rcases h with h|h
     ·exact q3.x k h
     ·by_cases hk:k < s.hp.n
      ·exact absurd (hlow k (Nat.le_of_lt hk)) h.2
      ·exact .inr (by omega),fun k h=>.inl (q3.xk k h),q3.s,fun k hk h1 h2=>by rw [hg2 k (hlow k (Nat.le_of_lt hk)) (Nat.ne_of_lt hk)];exact q3.same k hk h1 h2,by
     have h1:=k4.lo;have h2:(s.hp.push blkR).lo=s.hp.lo:=rfl;have h3:(H2.put l blk').lo=min H2.lo l:=rfl
     omega⟩
   exact ⟨hl,_,⟨st.fr,hp',amb',st.rd,st.fl⟩,hQ _ _ q1,rfl,⟨hfin,hs.rd,fun t=>ff.ar hs.h (hs.fr t)⟩,ff.low hs.h _⟩
  rcases k1 with k1|k1
  ·obtain ⟨g1,g2⟩:=fin (.loop .exhausted none s.fr ps az bd) (e:=.normal) k1 (fun hp' amb' ⟨h1,h2,h3⟩=>by subst h1;subst h2;exact hend h3);exact ⟨0,[(.normal,⟨s.fr,H2.put l (.loop .exhausted none s.fr ps az bd),s.rd⟩)],by unfold lF;simp only [g1,blkR],.single g2⟩
  ·exact k1.elim)
 refine ⟨m',M,?_,z2⟩;rw [kJ];unfold l6;have hgo':cy (aY s.fr f) [Value.func (Fn.yield s.hp.n) #[] #[]]=some (.fn gf az'):=hgo;simp only [hgo'];have:RX T tab m' (.call gf az' (s.hp.push (.loop .ready none s.fr ps az bd)))=some L:=gV hm _ _ c1;rw [this];exact z1
end
end Go.RM
set_option autoImplicit false
namespace Go.RM
set_option maxRecDepth 100000
variable {T : bC} {tab : List XE} {one : Bool}
end Go.RM
namespace Go.RM
open Go
section
variable {T : bC} {own : Bool} {fr : Nat → AV} {hp : List AB} {K : AV → List AB → Prop} {t u e : TypeId} {a1 a2 a3 a4 a5 a6}
theorem LL {l c:Operand} {n:Nat} {inf:sR} (hi:elem? T t=some inf) (hl:bh fr l=.fl (.int .i64 ((0:Nat):Int))) (hc:bh fr c=.fl (.int .i64 (n:Int))) (h0:0 < n) (hb:inf.bytes * n≤140737488355328∧n≤9223372036854775807) (hz:bG inf=true) (h:K (.aL hp.length 0 0 0 (n+3)) (hp++[.cells ((bP (zeroCells inf) (n * inf.size)).map .fl) inf.size 0])):wpOp T own (.makeSlice t l c) fr hp K:=by show pO T t (bh fr l) (bh fr c) hp K;unfold pO;simp only [hi,hl,hc];refine ⟨0,n,rfl,rfl,⟨qq5 _,hb⟩,hz,?_⟩;obtain ⟨m,rfl⟩:∃ m,n=m+1:=⟨n - 1,by omega⟩;exact h
theorem Lt {s x:Operand} {j aE o n c es:Nat} {cs:List AV} {els:List (List AV)} {f:Bool} {inf:sR} (hs:bh fr s=.aL j aE o n c) (hx:bh fr x=.sl els f) (hu:T.ty.get u=some ⟨.slice e,a1,a2,a3,a4,a5,a6⟩) (hi:elem? T t=some inf) (hz:bG inf=true)
  (hel:∀ el ∈ els,el.length=inf.size) (h1:els.flatten.all AV.one=true) (hj:hp[j]?=some (.cells cs es aE)) (hne:els ≠ []) (hr:n+els.length+3≤c) (hl:o+(n+els.length) * inf.size≤cs.length∧0 < cs.length) (hb:(n+els.length) * inf.bytes≤140737488355328∧n+els.length≤9223372036854775807)
  (hk:K (.aL j aE o (n+els.length) c) (hp.set j (.cells (bg cs els.flatten (o+n * inf.size)) es aE))):wpOp T own (.call ⟨.builtin .append,[s,x].toArray,[t,u].toArray⟩) fr hp K:=by
 show force (bh fr s) fun a=>force (bh fr x) fun b=>gJ T own .append [a,b] [t,u] hp K;rw [hs,hx];show (match T.ty.get u with|some ⟨.slice _,_,_,_,_,_,_⟩=>i6 T own t (.aL j aE o n c) (.sl els f) hp K|_=>False);rw [hu];show i6 T own t (.aL j aE o n c) (.sl els f) hp K;unfold i6;rw [hi];have:=List.length_pos_iff.2 hne;exact ⟨hz,els,⟨hel,rfl⟩,h1,.inr ⟨cs,es,hj,⟨by omega,hr,hl⟩,hb,fun h=>absurd h hne,fun _=>hk⟩⟩
theorem ID {x hi:Operand} {j aE o n c h:Nat} {inf:sR} (hx:bh fr x=.aL j aE o n c) (hh:bh fr hi=.fl (.int .i64 (h:Int))) (hi':elem? T t=some inf) (hb:h < n∧n+3≤c) (h1:1≤inf.size) (k:K (.aL j aE o h c) hp):wpOp T own (.slice t x none (some hi) none) fr hp K:=by show mK T t (bh fr x) none (some (bh fr hi)) hp K;rw [hx,hh];unfold mK;simp only [hi'];refine ⟨0,h,rfl,rfl,⟨qq5 _,Nat.le_of_lt hb.1⟩,h1,?_⟩;rw [show Nat.beq h n=false from uu (by omega),show Nat.ble (n+3) c=true from Nat.ble_eq_true_of_le hb.2,Nat.zero_mul];exact k
theorem Lu {d x:Operand} {j aE o n c es:Nat} {cs:List AV} {els:List (List AV)} {f:Bool} {inf:sR} (hd:bh fr d=.aL j aE o n c) (hx:bh fr x=.sl els f) (hi:elem? T t=some inf) (hel:∀ el ∈ els,el.length=inf.size) (h1:els.flatten.all AV.one=true)
  (hj:hp[j]?=some (.cells cs es aE)) (hb:1≤n∧els.length≤n∧0 < cs.length) (hl:o+n * inf.size≤cs.length) (k:K (.fl (.int .i64 (Int.ofNat els.length))) (hp.set j (.cells (bg cs els.flatten o) es aE))):wpOp T own (.call ⟨.builtin .copy,[d,x].toArray,[t,u].toArray⟩) fr hp K:=by
 show force (bh fr d) fun a=>force (bh fr x) fun b=>gJ T own .copy [a,b] [t,u] hp K;rw [hd,hx];show vQ T t (.aL j aE o n c) (.sl els f) hp K;unfold vQ;rw [hi];exact ⟨els,cs,es,⟨hel,rfl⟩,h1,hj,hb,hl,k⟩
end
end Go.RM
namespace Go.RM
open Go
section
variable {T : bC} {own : Bool} {fr : Nat → AV} {hp : List AB} {K : AV → List AB → Prop} {t u e : TypeId} {a1 a2 a3 a4 a5 a6}
theorem Lv {s x:Operand} {j aE n c j2 v2 o2 m2 c2:Nat} {els:List (List AV)} {cs:List AV} {inf:sR} (hs:bh fr s=.aL j aE 0 n c) (hx:bh fr x=.aL j2 v2 o2 m2 c2) (hu:T.ty.get u=some ⟨.slice e,a1,a2,a3,a4,a5,a6⟩) (hi:elem? T t=some inf) (hz:bG inf=true) (he:tE hp inf.size (.aL j2 v2 o2 m2 c2) els)
  (h1:els.flatten.all AV.one=true) (hj:hp[j]?=some (.cells cs inf.size aE)) (hl:cs.length=n * inf.size) (hc:c=n∨c=n+1) (hb:(n+els.length) * inf.bytes≤140737488355328∧n+els.length≤9223372036854775807)
  (hk:∀ v c',(c'=n+els.length∨c'=n+els.length+1)→K (.aL j v 0 (n+els.length) c') (hp.set j (.cells (cs++els.flatten) inf.size v))):wpOp T own (.call ⟨.builtin .append,[s,x].toArray,[t,u].toArray⟩) fr hp K:=by
 show force (bh fr s) fun a=>force (bh fr x) fun b=>gJ T own .append [a,b] [t,u] hp K;rw [hs,hx];show (match T.ty.get u with|some ⟨.slice _,_,_,_,_,_,_⟩=>i6 T own t (.aL j aE 0 n c) (.aL j2 v2 o2 m2 c2) hp K|_=>False);rw [hu];show i6 T own t (.aL j aE 0 n c) (.aL j2 v2 o2 m2 c2) hp K;unfold i6;rw [hi];obtain ⟨els',q1,q2,q3⟩:=Df (hp:=hp) (K:=K) (x:=.aL j2 v2 o2 m2 c2) he h1 hj hl hc hb hk;exact ⟨hz,els',q1,q2,.inl ⟨rfl,q3⟩⟩
end
end Go.RM
namespace Go.RM
open Go
theorem CO (P:Program) {t:TypeId} {x y:Operand} {m n:Int}:(∃ z:Nat,z < 18446744073709551616∧dF P .xor t x y (.int .u64 m) (.int .u64 n)=some (.int .u64 (z:Int),.none))∧(∃ z:Nat,z < 18446744073709551616∧dF P .shl t x y (.int .u64 m) (.int .u64 13)=some (.int .u64 (z:Int),.none))∧(∃ z:Nat,z < 18446744073709551616∧dF P .shl t x y (.int .u64 m) (.int .u64 17)=some (.int .u64 (z:Int),.none)):=by
 have w:∀ k:Int,∃ z:Nat,z < 18446744073709551616∧IntKind.wrap .u64 k=(z:Int):=fun k=>by refine ⟨(k % 18446744073709551616).toNat,by omega,?_⟩;show k % 18446744073709551616=_;omega
 refine ⟨?_,?_,?_⟩
 ·obtain ⟨z,h1,h2⟩:=w ((BitVec.ofInt 64 m ^^^ BitVec.ofInt 64 n).toNat:Int);exact ⟨z,h1,by rw [←h2];rfl⟩
 ·obtain ⟨z,h1,h2⟩:=w (m * 2 ^ 13);exact ⟨z,h1,by rw [←h2];rfl⟩
 ·obtain ⟨z,h1,h2⟩:=w (m * 2 ^ 17);exact ⟨z,h1,by rw [←h2];rfl⟩
section
variable {T : bC} {a b : AV} {t : TypeId} {x y : Operand} {hp : List AB} {K : AV → List AB → Prop}
theorem LA {m n:Int} (ha:a=.fl (.int .u64 m)) (hb:b=.fl (.int .u64 n)) (h:∀ z:Nat,z < 18446744073709551616→K (.fl (.int .u64 (z:Int))) hp):aQ T .xor t x y a b hp K:=by subst ha hb;obtain ⟨z,h1,h2⟩:=(CO T.P (t:=t) (x:=x) (y:=y) (m:=m) (n:=n)).1;exact ⟨_,_,rfl,rfl,.int .u64 (z:Int),h2,rfl,h z h1⟩
theorem Kq {m:Int} (ha:a=.fl (.int .u64 m)) (hb:b=.fl (.int .u64 13)) (h:∀ z:Nat,z < 18446744073709551616→K (.fl (.int .u64 (z:Int))) hp):aQ T .shl t x y a b hp K:=by subst ha hb;obtain ⟨z,h1,h2⟩:=(CO T.P (t:=t) (x:=x) (y:=y) (m:=m) (n:=m)).2.1;exact ⟨_,_,rfl,rfl,.int .u64 (z:Int),h2,rfl,h z h1⟩
theorem Kr {m:Int} (ha:a=.fl (.int .u64 m)) (hb:b=.fl (.int .u64 17)) (h:∀ z:Nat,z < 18446744073709551616→K (.fl (.int .u64 (z:Int))) hp):aQ T .shl t x y a b hp K:=by subst ha hb;obtain ⟨z,h1,h2⟩:=(CO T.P (t:=t) (x:=x) (y:=y) (m:=m) (n:=m)).2.2;exact ⟨_,_,rfl,rfl,.int .u64 (z:Int),h2,rfl,h z h1⟩
theorem LB {m:Nat} (ha:a=.fl (.int .u64 (m:Int))) (hb:b=.fl (.int .u64 7)) (h:∀ z:Nat,z < 18446744073709551616→K (.fl (.int .u64 (z:Int))) hp) (hm:m < 18446744073709551616):aQ T .shr t x y a b hp K:=by
 subst ha hb;have e:dF T.P .shr t x y (.int .u64 (m:Int)) (.int .u64 7)=some (.int .u64 ((m:Int).fdiv (2 ^ 7)),.none):=rfl;have e2:(m:Int).fdiv (2 ^ 7)=((m / 128:Nat):Int):=by rw [Int.fdiv_eq_ediv_of_nonneg _ (Int.pow_nonneg (by decide))];omega
 rw [e2] at e;exact ⟨_,_,rfl,rfl,.int .u64 ((m / 128:Nat):Int),e,rfl,h _ (by omega)⟩
end
theorem qq1 {T tab one c st K} (h:kA T tab one (fun _=>false) c st K):ay T tab one c st K:=aa h
theorem qq2 {T tab one a b st K} (h:kA T tab one (fun _=>false) a st (qU (fun s=>ay T tab one b s K) K)):ay T tab one (.seq a b) st K:=iU h
theorem qq3 {T tab one F l hp a Q} (h:au T tab one F l hp a Q):au T tab one F l hp a Q:=h
theorem qq4 {T own t x i fr hp K} (h:RM.wpOp T own (.indexAddr t x i) fr hp K):RM.wpOp T own (.indexAddr t x i) fr hp K:=h
end Go.RM
