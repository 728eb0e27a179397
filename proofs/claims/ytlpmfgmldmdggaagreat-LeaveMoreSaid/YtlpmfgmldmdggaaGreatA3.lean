/-
  A layer of contracts over the abstract machine. Lemmas alone; no condition.
-/
import Derived.Test.YtlpmfgmldmdggaaGreatA2
namespace Go.RM
open Go
section
variable {T : bG} {tab : List XE} {one : Bool} {mu : Tmp → Bool} {base : Nat} {E : Env} {hp : List AB} {aF : bq} {H : Hp} {ρ : Nat → Nat → Option Nat} {g : aN} {O O' : Nat → Prop}
theorem i4 {a b:Code} {st:bP} {K:Exit→bP→Prop} (h:kC T tab one mu a st (sM (fun s=>aB T tab one b s K) K)):aB T tab one (.seq a b) st K:=.seq (aa h)
def aY (j:Nat) (ρ:Nat→Nat→Option Nat):Nat→Nat→Option Nat:=fun i v=>if i=j then none else ρ i v
mutual
def AV.qp (j:Nat):AV→Bool
 | .fl _=>true
 | .sl _ _=>true
 | .pt _ _=>true
 | .fn _ a b=>xL j a && xL j b
 | .ag a=>xL j a
 | .tp a=>xL j a
 | .oq _=>true
 | .cB=>true
 | .ptr i _ _=>!Nat.beq i j
 | .aJ i _ _ _ _=>!Nat.beq i j
 | .om i=>!Nat.beq i j
def xL (j:Nat):List AV→Bool
 | []=>true
 | a :: l=>a.qp j && xL j l
end
theorem kD {j:Nat}:∀ {l:List AV},xL j l=true→∀ (i:Nat) (a:AV),l[i]?=some a→a.qp j=true
 | [],_,i,a,h=>by cases h
 | x :: l,h,i,a,ha=>by
  simp only [xL,qq7] at h
  cases i with
  | zero=>cases ha;exact h.1
  | succ i=>exact kD h.2 i a (by simpa using ha)
theorem rH {i j:Nat} (h:(!Nat.beq i j)=true):i ≠ j:=by intro e;subst e;rw [Nat.beq_refl] at h;cases h
theorem AR.qp {j:Nat} (hO:∀ k,O' k→O k) {v:AV} {u:Value} (h:AR ρ g O v u):v.qp j=true→AR (aY j ρ) g O' v u:=by
 induction h with
 | d h=>intro _;exact .d (h.mono fun k b hk ho=>⟨hk,fun h=>ho (hO k h)⟩)
 | cB=>intro _;exact .cB
 | ptr h=>intro hd;simp only [AV.qp] at hd;exact .ptr (by rw [aY,if_neg (rH hd)];exact h)
 | aJ h=>intro hd;simp only [AV.qp] at hd;exact .aJ (by rw [aY,if_neg (rH hd)];exact h)
 | rm hc=>intro _;exact .rm hc
 | om h=>intro hd;simp only [AV.qp] at hd;exact .om (by rw [aY,if_neg (rH hd)];exact h)
 | fn ha hb h1 h2 ih1 ih2 =>intro hd;simp only [AV.qp,qq7] at hd;exact .fn ha hb (fun i x u hx hu=>ih1 i x u hx hu (kD hd.1 i x hx)) (fun i x u hx hu=>ih2 i x u hx hu (kD hd.2 i x hx))
 | ag ha h1 ih=>intro hd;simp only [AV.qp] at hd;exact .ag ha (fun i x u hx hu=>ih i x u hx hu (kD hd i x hx))
 | tp ha h1 ih=>intro hd;simp only [AV.qp] at hd;exact .tp ha (fun i x u hx hu=>ih i x u hx hu (kD hd i x hx))
def AB.qp (j:Nat):AB→Bool
 | .cells cs _ _=>xL j cs
 | .dI _ _=>true
 | .map ents _=>ents.all fun p=>p.1.qp j && p.2.1.qp j
 | .iter i _ _ _=>!Nat.beq i j
 | .gone=>true
inductive Gv (j aK:Nat) (cs:List AV):AV→AV→Prop
 | same {a:AV}:a.qp j=true→Gv j aK cs a a
 | ptr {o:Nat}:Gv j aK cs (.ptr j aK o) (.pt cs o)
 | row {o n c:Nat} {els:List (List AV)} {b:Bool} (es:Nat):o+n * es≤cs.length→els.length=n→(∀ el ∈ els,el.length=es)→els.flatten=(cs.drop o).take (n * es)→(b=true→c=n)→Gv j aK cs (.aJ j aK o n c) (.sl els b)
 | cB {a:AV}:Gv j aK cs a .cB
def wE (j aK:Nat) (cs:List AV) (fr:Nat→AV):List (Nat × AV)→Prop
 | []=>True
 | (i,v) :: l=>Gv j aK cs (fr i) v∧wE j aK cs fr l
theorem zM {j aK:Nat} {cs:List AV} {fr:Nat→AV}:∀ {l:List (Nat × AV)},wE j aK cs fr l→∀ t,Gv j aK cs (fr t) (aM l t)
 | [],_,t=>.cB
 | (i,v) :: l,h,t=>by
  unfold aM;rw [Tr.beq_eq];by_cases hti:t=i
  ·rw [decide_eq_true hti,hti];exact h.1
  ·rw [decide_eq_false hti];exact zM h.2 t
theorem ah.Ni {st:bP} {l:List (Nat × AV)} {j aK es:Nat} {cs:List AV} (hj:st.hp[j]?=some (.cells cs es aK)) (hn:st.fl≤j) (hd:cI cs=true) (hs:wE j aK cs st.fr l) (hb:∀ (i:Nat) (b:AB),st.hp[i]?=some b→i ≠ j→b.qp j=true) :
  ah st ⟨aM l,st.hp.set j .gone,st.aF,st.rd,st.fl⟩:=by
 have hlt:j < st.hp.length:=(List.getElem?_eq_some_iff.1 hj).1;refine ⟨rfl,fun E base s hs'=>?_⟩;have hr:=hs'.h
 have hget:∀ (i:Nat) (b:AB) (aK:Nat),(st.hp.set j .gone)[i]?=some b→b.ver?=some aK→i ≠ j∧st.hp[i]?=some b:=by
  intro i b aK hi hv;by_cases hij:i=j
  ·subst hij;rw [List.getElem?_set_self hlt] at hi;cases hi;cases hv
  ·rw [List.getElem?_set_ne (Ne.symm hij)] at hi;exact ⟨hij,hi⟩
 have hdr:∀ {i v k:Nat},aY j E.ρ i v=some k→i ≠ j∧E.ρ i v=some k:=by
  intro i v k h;unfold aY at h;split at h
  ·cases h
  ·rename_i hne;exact ⟨hne,h⟩
 have hown:∀ k,Own (aY j E.ρ) (st.hp.set j .gone) k→Own E.ρ st.hp k:=by rintro k ⟨i,b,v,h1,h2,h3⟩;exact ⟨i,b,v,(hget i b v h1 h2).2,h2,(hdr h3).2⟩
 have hOs:∀ k,({E with ρ:=aY j E.ρ}:Env).O (st.hp.set j .gone) k→E.O st.hp k:=fun k h=>h.imp (hown k) id
 have hpt:∀ {o:Nat} {u:Value},AR E.ρ s.hp.get (E.O st.hp) (.ptr j aK o) u→AR (aY j E.ρ) s.hp.get (({E with ρ:=aY j E.ρ}:Env).O (st.hp.set j .gone)) (.pt cs o) u:=by
  intro o u h;obtain ⟨k,hk,rfl⟩:=h.cY;obtain ⟨cs',q1,q2⟩:=hr.cells hj hk
  have hnO:¬ ({E with ρ:=aY j E.ρ}:Env).O (st.hp.set j .gone) k:=by
   rintro (⟨i,b,v,h1,h2,h3⟩|hx)
   ·have:=hdr h3;exact this.1 (hr.inj i j v aK k this.2 hk)
   ·exact hr.hH k ⟨j,_,aK,hj,rfl,hk⟩ hx
  have:=q2.deep hd;refine .d (?_:DR _ _ (.pt cs o) (.pointer (some ⟨k,o,none⟩)))
  have h0:DR s.hp.get (({E with ρ:=aY j E.ρ}:Env).O (st.hp.set j .gone)) (.pt cs o) (.pointer (some ⟨k,0+o,none⟩)) :=
   .pt q1 hnO (by rw [Nat.zero_add,this.1];exact qq6 _) (fun i a u x y=>(this.2 i a u x (by rw [Nat.zero_add] at y;exact y)).mono fun k b hk ho=>⟨hk,fun h=>ho (hOs k h)⟩)
  rw [Nat.zero_add] at h0;exact h0
 have hrow:∀ {o n c:Nat} {els:List (List AV)} {b:Bool} {u:Value} (es:Nat),o+n * es≤cs.length→els.length=n→(∀ el ∈ els,el.length=es)→els.flatten=(cs.drop o).take (n * es)→(b=true→c=n)→AR E.ρ s.hp.get (E.O st.hp) (.aJ j aK o n c) u →
   AR (aY j E.ρ) s.hp.get (({E with ρ:=aY j E.ρ}:Env).O (st.hp.set j .gone)) (.sl els b) u:=by
  intro o n c els b u es g1 g2 g3 g4 g5 h
  rcases h.ej with ⟨k,hk,rfl⟩|⟨rfl,rfl,rfl⟩
  ·obtain ⟨cs',q1,q2⟩:=hr.cells hj hk
   have hnO:¬ ({E with ρ:=aY j E.ρ}:Env).O (st.hp.set j .gone) k:=by
    rintro (⟨i,b,v,h1,h2,h3⟩|hx)
    ·have:=hdr h3;exact this.1 (hr.inj i j v aK k this.2 hk)
    ·exact hr.hH k ⟨j,_,aK,hj,rfl,hk⟩ hx
   have hdp:=q2.deep hd;refine .d (.sl (es:=es) q1 hnO (by rw [←q2.1];exact g1) g2 (fun i el he=>g3 el (List.mem_of_getElem? he)) (fun i el jj a u he hx hu=>?_) g5);have hjj:jj < es:=by rw [←g3 el (List.mem_of_getElem? he)];exact (List.getElem?_eq_some_iff.1 hx).1
   have hat:=ec g3 i el jj he hjj;have hi:i < n:=by rw [←g2];exact (List.getElem?_eq_some_iff.1 he).1
   rw [g4,List.getElem?_take,List.getElem?_drop] at hat;have hlt:i * es+jj < n * es:=by have:(i+1) * es≤n * es:=Nat.mul_le_mul_right _ hi;rw [Nat.add_mul,Nat.one_mul] at this;omega
   rw [if_pos hlt,hx,←Nat.add_assoc] at hat;exact (hdp.2 _ a u hat hu).mono fun k b hk ho=>⟨hk,fun h=>ho (hOs k h)⟩
  ·simp only [List.length_eq_zero_iff] at g2;subst g2;exact .d .nil
 have hgv:∀ {a b:AV} {u:Value},Gv j aK cs a b→AR E.ρ s.hp.get (E.O st.hp) a u→AR (aY j E.ρ) s.hp.get (({E with ρ:=aY j E.ρ}:Env).O (st.hp.set j .gone)) b u:=by
  intro a b u hg h
  cases hg with
  | same hn=>exact h.qp hOs hn
  | ptr=>exact hpt h
  | row es g1 g2 g3 g4 g5=>exact hrow es g1 g2 g3 g4 g5 h
  | cB=>exact .cB
 refine ⟨{E with ρ:=aY j E.ρ},⟨⟨hr.wf,fun i b v hi hv=>?_,fun i i' v v' k h1 h2=>hr.inj i i' v v' k (hdr h1).2 (hdr h2).2,fun i v k hk=>hr.rn i v k (hdr hk).2,fun i b v w h1 h2 h3=>?_,fun i v hi=>?_,fun k hk=>hr.sup k (hown k hk),fun k hk=>hr.hH k (hown k hk),hr.dx,hr.ds,hr.sn,hr.xn,fun k hk=>hr.pQ k (hk.imp (hown k) id),hr.bn,hr.aF⟩,hs'.rd,fun t=>hgv (zM hs t) (hs'.fr t)⟩,
  ⟨qq6 _,fun i v k hi hk=>?_,fun k hk=>.inl (hown k hk),fun _ h=>.inl h,fun _ h=>.inl h,fun _ h=>h,fun _ h=>.inl h,fun _ _ _ _=>rfl,Nat.min_le_left _ _⟩⟩
 ·obtain ⟨hij,hi'⟩:=hget i b v hi hv;have hbn:=hb i b hi' hij
  rcases hr.gu i b v hi' hv with ⟨k,b',q1,q2,q3⟩|⟨q1,q2⟩
  ·refine .inl ⟨k,b',by show aY j E.ρ i v=_;rw [aY,if_neg hij];exact q1,q2,?_⟩
   cases b with
   | cells cs2 es2 ver2 =>obtain ⟨cs',rfl,h⟩:=q3;exact ⟨cs',rfl,h.1,fun i a u ha hu=>(h.2 i a u ha hu).qp hOs (kD hbn i a ha)⟩
   | dI p q=>exact q3
   | map ents clock =>obtain ⟨es,rfl,h1,h2⟩:=q3;refine ⟨es,rfl,h1,fun i k v born x hx hy=>?_⟩;simp only [AB.qp,List.all_eq_true,qq7] at hbn;have:=hbn _ (List.mem_of_getElem? hx);exact ⟨(h2 i k v born x hx hy).1.qp hOs this.1,(h2 i k v born x hx hy).2.1.qp hOs this.2,(h2 i k v born x hx hy).2.2⟩
   | iter i2 since seen stepped =>obtain ⟨m,rfl,h⟩:=q3;exact ⟨m,rfl,by show aY j E.ρ i2 0=_;rw [aY,if_neg (rH hbn)];exact h⟩
   | gone=>exact q3
  ·exact .inr ⟨by show aY j E.ρ i v=_;rw [aY,if_neg hij];exact q1,q2⟩
 ·obtain ⟨hij,h1⟩:=hget i b v h1 h2;show aY j E.ρ i w=none;rw [aY,if_neg hij];exact hr.fresh i b v w h1 h2 h3
 ·show aY j E.ρ i v=none;unfold aY;split
  ·rfl
  ·exact hr.new i v (by simpa using hi)
 ·show aY j E.ρ i v=some k;rw [aY,if_neg (by omega)];exact hk
def sQ (j:Nat):Nat→List AB→Bool
 | _,[]=>true
 | i,b :: l=>(Nat.beq i j || b.qp j) && sQ j (i+1) l
theorem wF {j:Nat}:∀ {l:List AB} {i0:Nat},sQ j i0 l=true→∀ (i:Nat) (b:AB),l[i]?=some b→i0+i ≠ j→b.qp j=true
 | [],_,_,i,b,h,_=>by cases h
 | x :: l,i0,h,i,b,hb,hne=>by
  simp only [sQ,qq7,Bool.or_eq_true] at h
  cases i with
  | zero =>
   cases hb
   rcases h.1 with h|h
   ·exact absurd (Nat.eq_of_beq_eq_true h) hne
   ·exact h
  | succ i=>exact wF h.2 i b (by simpa using hb) (by omega)
theorem ah.giveUp {st:bP} {l:List (Nat × AV)} (j:Nat) {aK es:Nat} {cs:List AV} {hp:List AB} (hj:st.hp[j]?=some (.cells cs es aK)) (hn:st.fl≤j) (hd:cI cs=true) (hs:wE j aK cs st.fr l) (hb:sQ j 0 st.hp=true) (hh:st.hp.set j .gone=hp) :
  ah st ⟨aM l,hp,st.aF,st.rd,st.fl⟩:=by
 subst hh;exact ah.Ni hj hn hd hs fun i b h hne=>wF hb i b h (by omega)
end
end Go.RM
namespace Go.RM
open Go
theorem dP.mY {j aK c:Nat} (hc:c≤2:=by decide):dP (.fl (.slice none 0 0)) (.aJ j aK 0 0 c):=fun _ _ _ u h=>by rw [h.eW.1];exact .rm hc
theorem ah.mZ {st:bP} (es:Nat):ah st ⟨st.fr,st.hp++[.cells [] es 0],st.aF,st.rd,st.fl⟩:=by
 refine ⟨rfl,fun E base s hs=>?_⟩;have hr:=hs.h
 have hget:∀ (i:Nat) (b:AB),(st.hp++[AB.cells [] es 0])[i]?=some b→(i < st.hp.length∧st.hp[i]?=some b)∨(i=st.hp.length∧b=.cells [] es 0):=by
  intro i b hi;by_cases hlt:i < st.hp.length
  ·rw [List.getElem?_append_left hlt] at hi;exact .inl ⟨hlt,hi⟩
  ·rw [List.getElem?_append_right (by omega)] at hi;have h0:i - st.hp.length=0:=by apply Nat.eq_zero_of_not_pos;intro hp0;rw [List.getElem?_eq_none (by simp;omega)] at hi;cases hi
   rw [h0] at hi;cases hi;exact .inr ⟨by omega,rfl⟩
 have hown:∀ k,Own E.ρ (st.hp++[.cells [] es 0]) k→Own E.ρ st.hp k:=by
  rintro k ⟨i,b,v,h1,h2,h3⟩
  rcases hget i b h1 with ⟨_,h1⟩|⟨rfl,rfl⟩
  ·exact ⟨i,b,v,h1,h2,h3⟩
  ·rw [hr.new _ v (qq6 _)] at h3;cases h3
 have hO:∀ k,E.O (st.hp++[.cells [] es 0]) k→E.O st.hp k:=fun k h=>h.imp (hown k) id;have keep:∀ k b,s.hp.get k=some b→¬ E.O st.hp k→s.hp.get k=some b∧¬ E.O (st.hp++[.cells [] es 0]) k:=fun k b hk ho=>⟨hk,fun h=>ho (hO k h)⟩;have har:∀ {v:AV} {u:Value},AR E.ρ s.hp.get (E.O st.hp) v u→AR E.ρ s.hp.get (E.O (st.hp++[.cells [] es 0])) v u:=fun h=>h.mono (fun _ _ _ h=>h) keep
 refine ⟨E,⟨⟨hr.wf,fun i b v hi hv=>?_,hr.inj,hr.rn,fun i b v w h1 h2 h3=>?_,fun i v hi=>hr.new i v (by simp at hi;omega),fun k hk=>hr.sup k (hown k hk),fun k hk=>hr.hH k (hown k hk),hr.dx,hr.ds,hr.sn,hr.xn,fun k hk=>hr.pQ k (hk.imp (hown k) id),hr.bn,hr.aF⟩,hs.rd,fun t=>har (hs.fr t)⟩,
  ⟨qq6 _,fun _ _ _ _ h=>h,fun k hk=>.inl (hown k hk),fun _ h=>.inl h,fun _ h=>.inl h,fun _ h=>h,fun _ h=>.inl h,fun _ _ _ _=>rfl,Nat.min_le_left _ _⟩⟩
 ·rcases hget i b hi with ⟨_,hi'⟩|⟨rfl,rfl⟩
  ·rcases hr.gu i b v hi' hv with ⟨k,b',q1,q2,q3⟩|q
   ·refine .inl ⟨k,b',q1,q2,?_⟩
    cases b with
    | cells cs2 es2 ver2 =>obtain ⟨cs',rfl,h⟩:=q3;exact ⟨cs',rfl,h.1,fun i a u ha hu=>har (h.2 i a u ha hu)⟩
    | dI p q=>exact q3
    | map ents clock =>obtain ⟨es,rfl,h1,h2⟩:=q3;exact ⟨es,rfl,h1,fun i k v born x hx hy=>⟨har (h2 i k v born x hx hy).1,har (h2 i k v born x hx hy).2.1,(h2 i k v born x hx hy).2.2⟩⟩
    | iter i2 since seen stepped=>exact q3
    | gone=>exact q3
   ·exact .inr q
  ·cases hv;exact .inr ⟨hr.new _ _ (qq6 _),es,rfl⟩
 ·rcases hget i b h1 with ⟨_,h1⟩|⟨rfl,rfl⟩
  ·exact hr.fresh i b v w h1 h2 h3
  ·exact hr.new _ _ (qq6 _)
theorem q1 {σ:Type} {P:σ→Prop} {I:σ→bP} {m:σ→Nat} {K:Exit→bP→Prop} {x:σ} {s:bP} (h:K .ret s):Gn P I m K x .ret s:=h
theorem q2 {σ:Type} {P:σ→Prop} {I:σ→bP} {m:σ→Nat} {K:Exit→bP→Prop} {x:σ} {s:bP} {id:Nat} (h:K (.exit id) s):Gn P I m K x (.exit id) s:=h
end Go.RM
namespace Go.RM
open Go
end Go.RM
namespace Go.RM
open Go
theorem GC {α:Type} {l:List α} {j:Nat} {a:α} (h:l[j]?=some a):l.set j a=l:=by
 apply List.ext_getElem?;intro i;rw [List.getElem?_set];split
 ·rename_i hij;subst hij;rw [h];split
  ·rfl
  ·rename_i hn;exact absurd (List.getElem?_eq_some_iff.1 h).1 hn
 ·rfl
theorem DM {hp:List AB} {es bs:Nat} {x:AV} {els:List (List AV)} {j aK n c:Nat} {cs:List AV} {K:AV→List AB→Prop} (hx:tU hp es x els) (h1:els.flatten.all AV.one=true) (hj:hp[j]?=some (.cells cs es aK)) (hl:cs.length=n * es) (hc:c=n∨c=n+1)
  (hb:(n+els.length) * bs≤140737488355328∧n+els.length≤9223372036854775807) (hk:∀ v c',(c'=n+els.length∨c'=n+els.length+1)→K (.aJ j v 0 (n+els.length) c') (hp.set j (.cells (cs++els.flatten) es v))) :
  ∃ els,tU hp es x els∧els.flatten.all AV.one=true∧∃ cs,hp[j]?=some (.cells cs es aK)∧cs.length=n * es∧(c=n∨c=n+1)∧((n+els.length) * bs≤140737488355328∧n+els.length≤9223372036854775807)∧(els=[]→K (.aJ j aK 0 n c) hp) ∧
   (els ≠ []→K (.aJ j (aK+1) 0 (n+els.length) (n+els.length+1)) (hp.set j (.cells (cs++els.flatten) es (aK+1)))):=by
 refine ⟨els,hx,h1,cs,hj,hl,hc,hb,fun he=>?_,fun _=>hk _ _ (.inr rfl)⟩;subst he;have h2:=hk aK c (by simpa using hc);rw [List.flatten_nil,List.append_nil,GC hj] at h2;exact h2
theorem sR {T:bG} {own:Bool} {fr:Nat→AV} {hp:List AB} {K:AV→List AB→Prop} {s x:Operand} {t u e:TypeId} {a1 a2 a3 a4 a5 a6} {j aK n c:Nat} {els:List (List AV)} {f:Bool} {cs:List AV} {inf:uf} (hs:bg fr s=.aJ j aK 0 n c) (hx:bg fr x=.sl els f)
  (hu:T.ty.get u=some ⟨.slice e,a1,a2,a3,a4,a5,a6⟩) (hi:elem? T t=some inf) (hz:bL inf=true) (hel:∀ el ∈ els,el.length=inf.size) (h1:els.flatten.all AV.one=true) (hj:hp[j]?=some (.cells cs inf.size aK)) (hl:cs.length=n * inf.size) (hc:c=n∨c=n+1)
  (hb:(n+els.length) * inf.bytes≤140737488355328∧n+els.length≤9223372036854775807) (hk:∀ v c',(c'=n+els.length∨c'=n+els.length+1)→K (.aJ j v 0 (n+els.length) c') (hp.set j (.cells (cs++els.flatten) inf.size v))) :
  RM.wpOp T own (.call ⟨.builtin .append,[s,x].toArray,[t,u].toArray⟩) fr hp K:=by
 show force (bg fr s) fun a=>force (bg fr x) fun b=>gL T own .append [a,b] [t,u] hp K;rw [hs,hx];show (match T.ty.get u with|some ⟨.slice _,_,_,_,_,_,_⟩=>jg T own t (.aJ j aK 0 n c) (.sl els f) hp K|_=>False);rw [hu];show jg T own t (.aJ j aK 0 n c) (.sl els f) hp K;unfold jg;rw [hi];obtain ⟨els',q1,q2,q3⟩:=DM (hp:=hp) (K:=K) (x:=.sl els f) ⟨hel,rfl⟩ h1 hj hl hc hb hk;exact ⟨hz,els',q1,q2,.inl ⟨rfl,q3⟩⟩
end Go.RM
namespace Go.RM
open Go
section
variable {T : bG} {tab : List XE} {one : Bool} {base : Nat} {E : Env} {hp : List AB} {aF : bq} {H : Hp} {ρ : Nat → Nat → Option Nat} {g : aN} {O O' : Nat → Prop}
def Nj (T:bG) (rs:List ResultVar) (Q:AV→List AB→bq→Prop) (e:Exit) (s:bP):Prop :=
 match e with
 | .normal|.ret=>pS T s rs fun as=>Q (Bz as) s.hp s.aF
 | _=>False
theorem IV {vs:List AV} {us:List Value} (h:fI ρ g O vs us):AR ρ g O (Bz vs) (bQ us):=by
 match vs,us,h with
 | [],[],_=>exact .tp rfl (fun i x u hx=>by cases hx)
 | [v],[u],h=>exact h.2 0 v u rfl rfl
 | a :: b :: l,c :: d :: m,h=>exact .tp (by simpa using h.1) (fun i x u hx hu=>h.2 i x u hx (by simpa using hu))
 | [],u :: us,h=>exact absurd h.1 (by simp)
 | v :: vs,[],h=>exact absurd h.1 (by simp)
 | [v],a :: b :: l,h=>exact absurd h.1 (by simp)
 | a :: b :: l,[v],h=>exact absurd h.1 (by simp)
theorem au.body {f:FuncId} {fn:Func} {c:Code} {first caps args:List AV} {Q:AV→List AB→bq→Prop} (hf:T.fn.get f=some fn) (hb:fn.body=some c) (hn:noEntry tab f=true)
  (hw:aB T tab one c ⟨BA (first++args++caps),hp,aF,false,hp.length⟩ (Nj T fn.results.toList Q)):au T tab one (.fn f first caps) args hp aF Q:=by
 intro E base H u us hr hF ha
 obtain ⟨fs,cs,rfl,h1,h2⟩:∃ fs cs,u=.func (.func f) fs cs∧fI E.ρ H.get (E.O hp) first fs.toList∧fI E.ρ H.get (E.O hp) caps cs.toList:=by
  cases hF with
  | d h=>cases h with
   | fn ha hb h1 h2=>exact ⟨_,_,rfl,⟨ha,fun i x u hx hu=>.d (h1 i x u hx hu)⟩,⟨hb,fun i x u hx hu=>.d (h2 i x u hx hu)⟩⟩
  | fn ha hb h1 h2=>exact ⟨_,_,rfl,⟨ha,h1⟩,⟨hb,h2⟩⟩
 refine ⟨.fn f (fs.toList++us++cs.toList),rfl,?_⟩;have hargs:=(h1.append ha).append h2;obtain ⟨m,L,h1,h2,h3⟩:=hw E base ⟨setArgs .leaf 0 (fs.toList++us++cs.toList),H,false⟩ ⟨hr,rfl,wq hargs⟩
 obtain ⟨m',M,hm,q1,q2,q3⟩:=fE (one:=one) (L:=L) (f:=fun _ (p:Exit × St)=>eR T fn.results.toList p)
  (P:=fun r=>∃ w H',r=.ret w H'∧∃ E' a hp' amb',Q a hp' amb'∧aX E' base hp' amb' H'∧AR E'.ρ H'.get (E'.O hp') a w∧lF hp.length base E hp H E' hp' H')
  (fun _ _ _ _ _ h=>h) m h2 (fun p hp'=>by
   obtain ⟨E',st',k1,k0,k2,k3⟩:=h3 p hp';obtain ⟨e,s'⟩:=p
   have done:(e=.normal∨e=.ret)→(pS T st' fn.results.toList fun as=>Q (Bz as) st'.hp st'.aF)→∃ (_:Nat) (M:List eH),eR T fn.results.toList (e,s')=some M ∧
     ql one M fun r=>∃ w H',r=.ret w H'∧∃ E' a hp' amb',Q a hp' amb'∧aX E' base hp' amb' H'∧AR E'.ρ H'.get (E'.O hp') a w∧lF hp.length base E hp H E' hp' H':=by
    intro he hr;obtain ⟨ws,as,r1,r2,r4⟩:=k7 k2 hr;refine ⟨0,[.ret (bQ ws) s'.hp],?_,.single ⟨_,_,rfl,E',Bz as,st'.hp,st'.aF,r2,k2.h,IV r4,k3⟩⟩;unfold eR
    rcases he with rfl|rfl <;> simp only [r1,Option.map_some]
   cases e with
   | normal=>exact done (.inl rfl) k1
   | ret=>exact done (.inr rfl) k1
   | _=>exact k1.elim)
 refine ⟨m'+1,M,?_,q2,q3⟩;show RX T tab (m'+1) (.call f _ H)=_;rw [zn,oL _ _ hn];simp only;rw [ki,hf];simp only [hb];rw [dV (gZ hm) _ _ _ h1];exact q1
end
end Go.RM
namespace Go.RM
open Go
section
variable {T : bG} {tab : List XE} {one : Bool}
end
end Go.RM
namespace Go.RM
open Go
section
variable {T : bG} {tab : List XE} {one : Bool}
end
end Go.RM
namespace Go.RM
open Go
section
variable {T : bG} {tab : List XE} {one : Bool} {base : Nat} {E : Env} {hp : List AB} {aF : bq} {H : Hp}
end
end Go.RM
namespace Go.RM
open Go
theorem wrap_i64 {n:Int} (h0:0≤n) (h1:n < 9223372036854775808):IntKind.wrap .i64 n=n:=by have hm:n % 18446744073709551616=n:=Int.emod_eq_of_lt h0 (by omega);show (if (true && decide (n % 18446744073709551616 ≥ 9223372036854775808))=true then n % 18446744073709551616 - 18446744073709551616 else n % 18446744073709551616)=n;rw [hm,if_neg (by simp;omega)]
theorem IW {w m n:Nat} (hm:m < 2 ^ w) (hn:n < 2 ^ w):(BitVec.ofInt w (m:Int) ||| BitVec.ofInt w (n:Int)).toNat=m ||| n:=by rw [BitVec.toNat_or,BitVec.ofInt_natCast,BitVec.ofInt_natCast,BitVec.toNat_ofNat,BitVec.toNat_ofNat,Nat.mod_eq_of_lt hm,Nat.mod_eq_of_lt hn]
theorem GD {P:Program} {t:TypeId} {x y:Operand} {m j:Nat} (hj:j < 8):dQ P .shr t x y (.int .u8 (m:Int)) (.int .i64 (j:Int))=some (.int .u8 ((m / 2 ^ j:Nat):Int),.none):=by
 have h:dQ P .shr t x y (.int .u8 (m:Int)) (.int .i64 (j:Int))=some (.int .u8 ((m:Int).fdiv (2 ^ j)),.none):=by
  match j,hj with
  | 0,_|1,_|2,_|3,_|4,_|5,_|6,_|7,_=>rfl
 rw [h,Int.fdiv_eq_ediv_of_nonneg _ (Int.pow_nonneg (by decide)),Int.natCast_ediv,Int.natCast_pow];rfl
theorem GF {P:Program} {t:TypeId} {x y:Operand} {m:Nat}:dQ P .rem t x y (.int .u8 (m:Int)) (.int .u8 2)=some (.int .u8 ((m % 2:Nat):Int),.none):=by have h:dQ P .rem t x y (.int .u8 (m:Int)) (.int .u8 2)=some (.int .u8 ((m:Int).tmod 2),.none):=rfl;rw [h];rfl
theorem GG {P:Program} {t:TypeId} {x y:Operand} {m:Nat} {n:Int}:dQ P .eql t x y (.int .u8 (m:Int)) (.int .u8 n)=some (.bool (decide ((m:Int)=n)),.none):=rfl
section
variable {T : bG} {a b : AV} {t : TypeId} {x y : Operand} {hp : List AB} {K : AV → List AB → Prop}
theorem GH {m j:Nat} (ha:a=.fl (.int .u8 (m:Int))) (hb:b=.fl (.int .i64 (j:Int))) (hj:j < 8) (h:K (.fl (.int .u8 ((m / 2 ^ j:Nat):Int))) hp):aU T .shr t x y a b hp K:=by subst ha hb;exact ⟨_,_,rfl,rfl,.int .u8 ((m / 2 ^ j:Nat):Int),GD hj,rfl,h⟩
theorem GI {m:Nat} (ha:a=.fl (.int .u8 (m:Int))) (hb:b=.fl (.int .u8 2)) (h:K (.fl (.int .u8 ((m % 2:Nat):Int))) hp):aU T .rem t x y a b hp K:=by subst ha hb;exact ⟨_,_,rfl,rfl,.int .u8 ((m % 2:Nat):Int),GF,rfl,h⟩
theorem GJ {m:Nat} {n:Int} (ha:a=.fl (.int .u8 (m:Int))) (hb:b=.fl (.int .u8 n)) (h:K (.fl (.bool (decide ((m:Int)=n)))) hp):aU T .eql t x y a b hp K:=by subst ha hb;exact ⟨_,_,rfl,rfl,.bool (decide ((m:Int)=n)),GG,rfl,h⟩
end
end Go.RM
namespace Go.RM
open Go
section
variable {T : bG} {tab : List XE} {one : Bool} {fl base : Nat} {E E' E2 : Env} {hp hp' hp2 : List AB} {aF amb' : bq} {H H' H2 : Hp} {ρ ρ2 : Nat → Nat → Option Nat} {g g2 : aN} {O O2 : Nat → Prop}
end
end Go.RM
namespace Go.RM
open Go
section
variable {T : bG} {tab : List XE} {one : Bool} {base : Nat} {E : Env} {hp : List AB} {aF : bq} {H : Hp}
inductive Fq (hp:List AB):AV→AV→Prop
 | fz {a v:AV}:Fz hp a v→Fq hp a v
 | ptr {j aK o es:Nat} {cs:List AV}:hp[j]?=some (.cells cs es aK)→cI cs=true→Fq hp (.ptr j aK o) (.pt cs o)
 | fn {f:FuncId} {a b x y:List AV}:a.length=x.length→b.length=y.length→(∀ (i:Nat) (u v:AV),a[i]?=some u→x[i]?=some v→Fq hp u v)→(∀ (i:Nat) (u v:AV),b[i]?=some u→y[i]?=some v→Fq hp u v)→Fq hp (.fn f a b) (.fn f x y)
theorem AR.IX {ρ:Nat→Nat→Option Nat} {g:aN} {O:Nat→Prop} {f:FuncId} {a b:List AV} {u:Value} (h:AR ρ g O (.fn f a b) u):∃ a' b',u=.func (.func f) a' b'∧fI ρ g O a a'.toList∧fI ρ g O b b'.toList:=by
 cases h with
 | d h=>cases h with
  | fn ha hb h1 h2=>exact ⟨_,_,rfl,⟨ha,fun i x u hx hu=>.d (h1 i x u hx hu)⟩,⟨hb,fun i x u hx hu=>.d (h2 i x u hx hu)⟩⟩
 | fn ha hb h1 h2=>exact ⟨_,_,rfl,⟨ha,h1⟩,⟨hb,h2⟩⟩
theorem Fq.dr {X:Nat→Prop} (h:aX E base hp aF H) (hX:∀ k,X k→E.X k) {r v:AV} (hf:Fq hp r v):∀ {u:Value},AR E.ρ H.get (E.O hp) r u→DR H.get X v u:=by
 have weak:∀ {v:AV} {u:Value},DR H.get (E.O hp) v u→DR H.get X v u:=fun h=>h.mono fun k b hk ho=>⟨hk,fun hx=>ho (.inr (hX k hx))⟩
 induction hf with
 | fz hz=>intro u ha;exact hz.dr h hX ha
 | ptr h1 hd =>
  rename_i j aK o es cs;intro u ha;obtain ⟨k,hk,rfl⟩:=ha.cY;obtain ⟨cs',q1,q2⟩:=h.cells h1 hk;have hok:Own E.ρ hp k:=⟨j,_,aK,h1,rfl,hk⟩;have hnx:¬ X k:=fun hx=>h.hH k hok (hX k hx)
  have:=DR.pt (g:=H.get) (O:=X) (l:=cs) (k:=k) (d:=0) (o:=o) (cs:=cs') q1 hnx (by rw [Nat.zero_add,q2.1];exact qq6 _) (fun i a u hx hu=>by
   rw [Nat.zero_add] at hu
   exact weak ((q2.2 i a u hx hu).deep (gK hd i a hx)))
  rw [Nat.zero_add] at this;exact this
 | @fn f a b x y h1 h2 _ _ ih1 ih2 =>
  intro u ha;obtain ⟨a',b',rfl,p1,p2⟩:=ha.IX;refine .fn (by rw [←h1];exact p1.1) (by rw [←h2];exact p2.1) (fun i v w hv hw=>?_) (fun i v w hv hw=>?_)
  ·have hi:i < a.length:=by rw [h1];exact (List.getElem?_eq_some_iff.1 hv).1
   have hai:a[i]?=some a[i]:=List.getElem?_eq_getElem hi;exact ih1 i _ v hai hv (p1.2 i _ w hai hw)
  ·have hi:i < b.length:=by rw [h2];exact (List.getElem?_eq_some_iff.1 hv).1
   have hai:b[i]?=some b[i]:=List.getElem?_eq_getElem hi;exact ih2 i _ v hai hv (p2.2 i _ w hai hw)
def eN (hp:List AB):List AV→List AV→Prop
 | [],[]=>True
 | r :: rs,v :: vs=>Fq hp r v∧eN hp rs vs
 | _,_=>False
theorem eN.dr {X:Nat→Prop} (h:aX E base hp aF H) (hX:∀ k,X k→E.X k):∀ {rs vs:List AV} {us:List Value},eN hp rs vs→fI E.ρ H.get (E.O hp) rs us→sG H.get X vs us
 | [],[],us,_,ha=>⟨ha.1,fun i a u hx=>by cases hx⟩
 | r :: rs,v :: vs,[],_,ha=>absurd ha.1 (by simp)
 | r :: rs,v :: vs,u :: us,hf,ha=>by
  have:=eN.dr h hX hf.2 (us:=us) ⟨by simpa using ha.1,fun i a u x y=>ha.2 (i+1) a u (by simpa using x) (by simpa using y)⟩;refine ⟨by simp [this.1],fun i a w hx hw=>?_⟩
  cases i with
  | zero=>cases hx;cases hw;exact hf.1.dr h hX (ha.2 0 r u rfl rfl)
  | succ i=>exact this.2 i a w (by simpa using hx) (by simpa using hw)
 | [],_ :: _,_,hf,_=>hf.elim
 | _ :: _,[],_,hf,_=>by simp [eN] at hf
theorem eN.Ke {f:FuncId} {a b x y:List AV} (h1:eN hp a x) (h2:eN hp b y):Fq hp (.fn f a b) (.fn f x y):=by
 have key:∀ {a x:List AV},eN hp a x→a.length=x.length∧∀ (i:Nat) (u v:AV),a[i]?=some u→x[i]?=some v→Fq hp u v:=by
  intro a
  induction a with
  | nil =>
   intro x h
   cases x with
   | nil=>exact ⟨rfl,fun i u v hu=>by cases hu⟩
   | cons=>exact h.elim
  | cons r rs ih =>
   intro x h
   cases x with
   | nil=>simp [eN] at h
   | cons v vs =>
    obtain ⟨l,k⟩:=ih h.2;refine ⟨by simp [l],fun i u w hu hw=>?_⟩
    cases i with
    | zero=>cases hu;cases hw;exact h.1
    | succ i=>exact k i u w (by simpa using hu) (by simpa using hw)
 exact .fn (key h1).1 (key h2).1 (key h1).2 (key h2).2
theorem ak.tX {F F':AV} {args vs:List AV} {v:AV} (h:ak T tab one F' vs v) (hF:Fq hp F F') (hz:eN hp args vs) (hfree:mV v) {Q:AV→List AB→bq→Prop} (hq:Q v hp aF):au T tab one F args hp aF Q:=by
 intro E base H u us hr hf ha;obtain ⟨hd,h⟩:=h;obtain ⟨goal,hg,m,L,h1,h2,h3⟩:=h E.X H u us hr.wf (fun k hk=>hr.xn k hk) (hF.dr hr (fun _ h=>h) hf) (hz.dr hr (fun _ h=>h) ha);refine ⟨goal,hg,m,L,h1,h2,fun r hm=>?_⟩;obtain ⟨w,H',rfl,hn,hwf,hsame,hlo,hv⟩:=h3 r hm;have e:Ext base E hp H E hp H':=⟨hn,rfl,rfl,rfl,fun _ _ _ h=>h,fun _ h=>.inl h,fun k hk _=>hsame k hk,by have:=hr.bn;omega⟩;refine ⟨w,H',rfl,E,v,hp,aF,hq,⟨hwf,fun j x aK hj hvx=>?_,hr.inj,fun j v k hk=>Nat.lt_of_lt_of_le (hr.rn j v k hk) hn,hr.fresh,hr.new,hr.sup,hr.hH,hr.dx,hr.ds,fun k hk=>Nat.lt_of_lt_of_le (hr.sn k hk) hn,fun k hk=>Nat.lt_of_lt_of_le (hr.xn k hk) hn,hr.pQ,Nat.le_trans hr.bn hn,aF.st hr.aF (fun k hk=>hsame k (hr.sn k hk)) hn⟩,.d (hfree.2 _ _ _ _ hv),e.J9⟩
 rcases hr.gu j x aK hj hvx with ⟨k,b',q1,q2,q3⟩|q
 ·exact .inl ⟨k,b',q1,by rw [hsame k (hr.wf.lt q2)];exact q2,e.br hr.wf q3⟩
 ·exact .inr q
theorem eN.nil:eN hp [] []:=trivial
theorem eN.cons {a x:AV} {as xs:List AV} (h:Fq hp a x) (k:eN hp as xs):eN hp (a :: as) (x :: xs):=⟨h,k⟩
theorem Fq.deep {v:AV} (h:v.deep=true):Fq hp v v:=.fz (.deep h)
end
end Go.RM
namespace Go.RM
open Go
section
variable {T : bG} {tab : List XE} {one : Bool} {mu : Tmp → Bool} {dst : Option Tmp} {fr : Nat → AV} {hp : List AB} {aF : bq} {rd : Bool} {fl : Nat} {KS : bP → Prop}
theorem om {r:Operand} {name:String} {l:List Operand} {tys} {F:AV} (hF:yl T.P (bg fr r) name=F) (h:force F fun F=>eD (l.map (bg fr)) fun as=>au T tab one F as hp aF fun v hp' amb'=>ia dst fr v fun fr'=>KS ⟨fr',hp',amb',rd,fl⟩) :
  rE T tab one mu dst (.call ⟨.invoke r name,l.toArray,tys⟩) fr hp aF rd fl KS:=by
 subst hF;exact h
theorem nm {r:Operand} {name:String} {l:List Operand} {tys} {i:Nat} {bt:Nat→Nat} {KD:(Nat→AV)→List AB→(Nat→Nat)→uN→Prop} {F v:AV} {as:List AV} (hp':ak T tab true F as v) (hF:yl T.P (bg fr r) name=F) (ha:l.map (bg fr)=as) (hd:F.deep=true) (hda:cI as=true)
  (h:ia dst fr v fun fr'=>KD fr' hp (nt dst bt (i+1)) ⟨i,[],true,true⟩):iR T tab mu dst (.call ⟨.invoke r name,l.toArray,tys⟩) i bt fr hp KD:=by
 show force (yl T.P (bg fr r) name) fun F=>eD (l.map (bg fr)) fun as=>F.deep=true∧∃ vs v,Handed hp as vs v∧ak T tab true F vs v∧ia dst fr v fun fr'=>KD fr' hp (nt dst bt (i+1)) ⟨i,[],true,true⟩;rw [hF,ha];exact wD (sP (P:=fun as=>F.deep=true∧∃ vs v,Handed hp as vs v∧ak T tab true F vs v∧ia dst fr v fun fr'=>KD fr' hp (nt dst bt (i+1)) ⟨i,[],true,true⟩) ⟨hd,as,v,.inl ⟨rfl,hda⟩,hp',h⟩)
end
end Go.RM
namespace Go.RM
open Go
section
variable {T : bG} {tab : List XE} {one : Bool} {mu : Tmp → Bool} {KE : Exit → bP → Prop} {st : bP}
theorem EW {l:List Oper} (hd:l.any xP=false):fS l.toArray=l.length:=by
 unfold fS;have:l.findIdx? xP=none:=by rw [List.findIdx?_eq_none_iff];intro x hx;rw [List.any_eq_false] at hd;simpa using hd x hx
 simp only [this]
theorem NN {id:Nat} {l:List Oper} (hd:l.any xP=false) (h:jw T tab mu l.toArray l 0 (fun _=>0) [] st (KE .normal)):kC T tab one mu (.region id l.toArray true) st KE:=by refine c5 (EW hd) rfl rfl ?_;rw [List.take_length,List.drop_length];exact h
end
end Go.RM
namespace Go.RM
open Go
section
variable {T : bG} {tab : List XE} {one : Bool} {mu : Tmp → Bool} {own : Bool} {fr : Nat → AV} {hp : List AB} {K : AV → List AB → Prop} {t : TypeId} {jP : TypeDesc} {s by' : Nat} {z : Option Value} {agg : Bool} {cu : List (Nat × Nat)} {cE : Nat}
theorem NO {a:Operand} {cs:List AV} {o:Nat} (ha:bg fr a=.pt cs o) (ht:T.ty.get t=some ⟨jP,s,by',z,true,cu,cE⟩) (hl:Nat.ble (o+s) cs.length=true) (h:K (.ag ((cs.drop o).take s)) hp):wpOp T own (.load t a) fr hp K:=by show fC T t (bg fr a) hp K;unfold fC;simp only [ha,ht];exact ⟨Nat.le_of_ble_eq_true hl,h⟩
theorem NP {a:Operand} {cs:List AV} {o:Nat} {v:AV} (ha:bg fr a=.pt cs o) (ht:T.ty.get t=some ⟨jP,s,by',z,false,cu,cE⟩) (hv:cs[o]?=some v) (h:K v hp):wpOp T own (.load t a) fr hp K:=by show fC T t (bg fr a) hp K;unfold fC;simp only [ha,ht];exact ⟨v,hv,h⟩
theorem NQ {a:Operand} {j aK o es:Nat} {cs:List AV} (ha:bg fr a=.ptr j aK o) (ht:T.ty.get t=some ⟨jP,s,by',z,true,cu,cE⟩) (hj:hp[j]?=some (.cells cs es aK)) (hl:Nat.ble (o+s) cs.length=true) (h:K (.ag ((cs.drop o).take s)) hp):wpOp T own (.load t a) fr hp K:=by show fC T t (bg fr a) hp K;unfold fC;simp only [ha,ht];exact ⟨cs,es,hj,Nat.le_of_ble_eq_true hl,h⟩
theorem bC {a:Operand} {j aK o es:Nat} {cs:List AV} {v:AV} (ha:bg fr a=.ptr j aK o) (ht:T.ty.get t=some ⟨jP,s,by',z,false,cu,cE⟩) (hj:hp[j]?=some (.cells cs es aK)) (hv:cs[o]?=some v) (h:K v hp):wpOp T own (.load t a) fr hp K:=by show fC T t (bg fr a) hp K;unfold fC;simp only [ha,ht];exact ⟨cs,es,hj,v,hv,h⟩
theorem NR {a:Operand} {i:Nat} {cs:List AV} {o off sz:Nat} {fs} (ha:bg fr a=.pt cs o) (ht:T.ty.get t=some ⟨.struct fs,s,by',z,agg,cu,cE⟩) (hf:cu[i]?=some (off,sz)) (h1:Nat.ble 1 sz=true) (h:K (.pt cs (o+off)) hp):wpOp T own (.fieldAddr t a i) fr hp K:=by show jM T t (bg fr a) i hp K;unfold jM;simp only [ha,ht];exact ⟨off,sz,hf,Nat.le_of_ble_eq_true h1,h⟩
theorem NS {a:Operand} {i:Nat} {j aK o off sz:Nat} {fs} (ha:bg fr a=.ptr j aK o) (ht:T.ty.get t=some ⟨.struct fs,s,by',z,agg,cu,cE⟩) (hf:cu[i]?=some (off,sz)) (h1:Nat.ble 1 sz=true) (h:K (.ptr j aK (o+off)) hp):wpOp T own (.fieldAddr t a i) fr hp K:=by show jM T t (bg fr a) i hp K;unfold jM;simp only [ha,ht];exact ⟨off,sz,hf,Nat.le_of_ble_eq_true h1,h⟩
theorem NT {v:Value} (ht:T.ty.get t=some ⟨jP,s,by',some v,agg,cu,cE⟩) (h1:v.cells.toList.all bf=true) (h:K (.ptr hp.length 0 0) (hp++[.cells (v.cells.toList.map .fl) 0 0])):wpOp T own (.alloc t) fr hp K:=by show ru T t hp K;unfold ru;simp only [ht];exact ⟨h1,h⟩
theorem Nk {x:Operand} (h:force (bg fr x) fun v=>ye own v hp K):wpOp T own (.box t x) fr hp K:=h
theorem NU {v:AV} (ho:own=false) (h1:v.kz=true) (h2:v.cells.all AV.one=true) (h3:cI v.cells=true) (h:K (.pt v.cells 0) hp):ye own v hp K:=by subst ho;exact ⟨h1,h2,h3,h⟩
theorem NV {v:AV} (ho:own=true) (h1:v.kz=true) (h2:v.cells.all AV.one=true) (h:K (.ptr hp.length 0 0) (hp++[.cells v.cells 0 0])):ye own v hp K:=by subst ho;exact ⟨h1,h2,h⟩
theorem KO {a x:Operand} (h:force (bg fr x) fun v=>aG T t (bg fr a) v hp K):wpOp T own (.store t a x) fr hp K:=h
theorem e9 {a v:AV} {j aK o es:Nat} {cs:List AV} (ha:a=.ptr j aK o) (ht:T.ty.get t=some ⟨jP,s,by',z,agg,cu,cE⟩) (hj:hp[j]?=some (.cells cs es aK)) (h1:v.kz=true) (h2:v.cells.all AV.one=true) (h3:v.cells.length=s) (h4:Nat.ble (o+s) cs.length=true) (h:K .cB (hp.set j (.cells (aQ cs v.cells o) es aK))):aG T t a v hp K:=by unfold aG;simp only [ha,ht];exact ⟨cs,es,hj,h1,h2,h3,Nat.le_of_ble_eq_true h4,h⟩
theorem KP {l:List (Nat × Operand)} (h:kA (l.map fun p=>(p.1,bg fr p.2)) fun ps=>mR T t ps hp K):wpOp T own (.build t l.toArray) fr hp K:=h
theorem IY {l:List (Nat × Operand)} {len:Nat} (h:kA (l.map fun p=>(p.1,bg fr p.2)) fun ps=>dy T own t len ps hp K):wpOp T own (.buildSlice t len l.toArray) fr hp K:=h
theorem NW {P:List (Nat × AV)→Prop} (h:P []):kA (([]:List (Nat × Operand)).map fun p=>(p.1,bg fr p.2)) P:=h
theorem NX {i:Nat} {x:Operand} {l:List (Nat × Operand)} {P:List (Nat × AV)→Prop} (h:force (bg fr x) fun a=>kA (l.map fun p=>(p.1,bg fr p.2)) fun l=>P ((i,a) :: l)):kA (((i,x) :: l).map fun p=>(p.1,bg fr p.2)) P:=h
theorem Nc {v:Value} {parts:List (Nat × AV)} {cs:List AV} (ht:T.ty.get t=some ⟨jP,s,by',some v,true,cu,cE⟩) (h1:v.cells.toList.all bf=true) (h2:Bp (gx jP cu cE) (v.cells.toList.map .fl) parts=some cs) (h:K (.ag cs) hp):mR T t parts hp K:=by unfold mR;simp only [ht];exact ⟨h1,cs,h2,h⟩
theorem NY {len:Nat} {parts:List (Nat × AV)} {inf:uf} (ho:own=false) (hi:elem? T t=some inf) (h1:Nat.ble (len * inf.size) 65536=true) (h2:bL inf=true) (h3:kY inf.size 0 parts=true) (h4:Nat.beq parts.length len=true) (h5:cI (parts.map (·.2.cells)).flatten=true) (h:K (.sl (parts.map (·.2.cells)) true) hp):dy T own t len parts hp K:=by subst ho;unfold dy;simp only [hi];exact ⟨h1,h2,h3,h4,h5,h⟩
theorem NZ {len:Nat} {parts:List (Nat × AV)} {inf:uf} (ho:own=true) (hi:elem? T t=some inf) (h1:Nat.ble (len * inf.size) 65536=true) (h2:bL inf=true) (h3:kY inf.size 0 parts=true) (h4:Nat.beq parts.length len=true) (h:K (.aJ hp.length 0 0 len len) (hp++[.cells (parts.map (·.2.cells)).flatten inf.size 0])):dy T own t len parts hp K:=by subst ho;unfold dy;simp only [hi];exact ⟨h1,h2,h3,h4,h⟩
theorem N1 {x:Operand} {i:Nat} {vs:List AV} {v:AV} (ha:bg fr x=.tp vs) (hv:vs[i]?=some v) (h:K v hp):wpOp T own (.extract x i) fr hp K:=by show jR (bg fr x) i hp K;rw [ha];exact ⟨v,hv,h⟩
theorem Nz {a x:Operand} {e:TypeId} {els:List (List AV)} {f:Bool} {j:Int} {el:List AV} (ha:bg fr a=.sl els f) (hx:bg fr x=.fl (.int .i64 j)) (ht:T.ty.get t=some ⟨.slice e,s,by',z,agg,cu,cE⟩) (hat:els[j.toNat]?=some el) (h0:0≤j) (hl:el.length=cE) (h:K (.pt el 0) hp):wpOp T own (.indexAddr t a x) fr hp K:=by show cD T t (bg fr a) (bg fr x) hp K;rw [ha,hx];unfold cD;simp only [asInt,ht];exact ⟨el,⟨h0,hat⟩,hl,h⟩
theorem N2 {a x:Operand} {e:TypeId} {i aK o n c:Nat} {j:Int} (ha:bg fr a=.aJ i aK o n c) (hx:bg fr x=.fl (.int .i64 j)) (ht:T.ty.get t=some ⟨.slice e,s,by',z,agg,cu,cE⟩) (h0:0≤j∧j < (n:Int)) (h:K (.ptr i aK (o+j.toNat * cE)) hp):wpOp T own (.indexAddr t a x) fr hp K:=by show cD T t (bg fr a) (bg fr x) hp K;rw [ha,hx];unfold cD;simp only [asInt,ht];exact ⟨h0,h⟩
theorem N3 {a x:Operand} {e:TypeId} {len:Nat} {cs:List AV} {o:Nat} {j:Int} (ha:bg fr a=.pt cs o) (hx:bg fr x=.fl (.int .i64 j)) (ht:T.ty.get t=some ⟨.array len e,s,by',z,agg,cu,cE⟩) (h0:0≤j∧j < (len:Int)) (h:K (.pt cs (o+j.toNat * cE)) hp):wpOp T own (.indexAddr t a x) fr hp K:=by show cD T t (bg fr a) (bg fr x) hp K;rw [ha,hx];unfold cD;simp only [asInt,ht];exact ⟨h0,h⟩
theorem N4 {a x:Operand} {e:TypeId} {len:Nat} {i aK o:Nat} {j:Int} (ha:bg fr a=.ptr i aK o) (hx:bg fr x=.fl (.int .i64 j)) (ht:T.ty.get t=some ⟨.array len e,s,by',z,agg,cu,cE⟩) (h0:0≤j∧j < (len:Int)) (h:K (.ptr i aK (o+j.toNat * cE)) hp):wpOp T own (.indexAddr t a x) fr hp K:=by show cD T t (bg fr a) (bg fr x) hp K;rw [ha,hx];unfold cD;simp only [asInt,ht];exact ⟨h0,h⟩
end
end Go.RM
namespace Go.RM
open Go
section
variable {T : bG} {own : Bool} {fr : Nat → AV} {hp : List AB} {K : AV → List AB → Prop} {t : TypeId}
theorem NA {l c:Operand} {n:Nat} {inf:uf} (hi:elem? T t=some inf) (hl:bg fr l=.fl (.int .i64 (Int.ofNat n))) (hc:bg fr c=.fl (.int .i64 (Int.ofNat n))) (hb:inf.bytes * n≤140737488355328∧n≤9223372036854775807) (hz:bL inf=true) (h:K (.aJ hp.length 0 0 n n) (hp++[.cells ((bV (zeroCells inf) (n * inf.size)).map .fl) inf.size 0])):wpOp T own (.makeSlice t l c) fr hp K:=by show qj T t (bg fr l) (bg fr c) hp K;unfold qj;simp only [hi,hl,hc];refine ⟨n,n,rfl,rfl,⟨qq6 _,hb⟩,hz,?_⟩;rw [show Nat.beq n n=true from Nat.beq_refl n];exact h
end
end Go.RM
namespace Go.RM
open Go
section
variable {T : bG} {own : Bool} {fr : Nat → AV} {hp : List AB} {K : AV → List AB → Prop} {s x : Operand} {t u e : TypeId} {a1 a2 a3 a4 a5 a6} {els : List (List AV)} {f : Bool} {inf : uf}
end
end Go.RM
namespace Go.RM
open Go
theorem wG {w m n:Nat} (hm:m < 2 ^ w) (hn:n < 2 ^ w):(BitVec.ofInt w (m:Int) &&& BitVec.ofInt w (n:Int)).toNat=m &&& n:=by rw [BitVec.toNat_and,BitVec.ofInt_natCast,BitVec.ofInt_natCast,BitVec.toNat_ofNat,BitVec.toNat_ofNat,Nat.mod_eq_of_lt hm,Nat.mod_eq_of_lt hn]
theorem GK {P:Program} {t:TypeId} {x y:Operand} {m:Nat} (hm:m < 4611686018427387904):dQ P .and t x y (.int .i64 (m:Int)) (.int .i64 1)=some (.int .i64 ((m % 2:Nat):Int),.none):=by have h:dQ P .and t x y (.int .i64 (m:Int)) (.int .i64 ((1:Nat):Int))=some (.int .i64 (IntKind.wrap .i64 ((BitVec.ofInt 64 (m:Int) &&& BitVec.ofInt 64 ((1:Nat):Int)).toNat:Int)),.none):=rfl;have h1:m &&& 1=m % 2:=Nat.and_one_is_mod m;show dQ P .and t x y (.int .i64 (m:Int)) (.int .i64 ((1:Nat):Int))=_;rw [h,wG (by omega) (by omega),h1,wrap_i64 (by omega) (by omega)]
theorem EX {P:Program} {t:TypeId} {x y:Operand} {j:Nat} (hj:j < 8):dQ P .shl t x y (.int .i64 1) (.int .i64 (j:Int))=some (.int .i64 ((2 ^ j:Nat):Int),.none):=by
 match j,hj with
 | 0,_|1,_|2,_|3,_|4,_|5,_|6,_|7,_=>rfl
theorem EY {P:Program} {t:TypeId} {x y:Operand} {m j:Nat} (hj:j < 8):dQ P .shr t x y (.int .i64 (m:Int)) (.int .i64 (j:Int))=some (.int .i64 ((m / 2 ^ j:Nat):Int),.none):=by
 have h:dQ P .shr t x y (.int .i64 (m:Int)) (.int .i64 (j:Int))=some (.int .i64 ((m:Int).fdiv (2 ^ j)),.none):=by
  match j,hj with
  | 0,_|1,_|2,_|3,_|4,_|5,_|6,_|7,_=>rfl
 rw [h,Int.fdiv_eq_ediv_of_nonneg _ (Int.pow_nonneg (by decide)),Int.natCast_ediv,Int.natCast_pow];rfl
section
variable {T : bG} {a b : AV} {t : TypeId} {x y : Operand} {hp : List AB} {K : AV → List AB → Prop}
theorem GM {m:Nat} (ha:a=.fl (.int .i64 (m:Int))) (hb:b=.fl (.int .i64 1)) (hm:m < 4611686018427387904) (h:K (.fl (.int .i64 ((m % 2:Nat):Int))) hp):aU T .and t x y a b hp K:=by subst ha hb;exact ⟨.int .i64 ((m % 2:Nat):Int),GK hm,rfl,h⟩
theorem zN {j:Nat} (ha:a=.fl (.int .i64 1)) (hb:b=.fl (.int .i64 (j:Int))) (hj:j < 8) (h:K (.fl (.int .i64 ((2 ^ j:Nat):Int))) hp):aU T .shl t x y a b hp K:=by subst ha hb;exact ⟨.int .i64 ((2 ^ j:Nat):Int),EX hj,rfl,h⟩
theorem CT {m j:Nat} (ha:a=.fl (.int .i64 (m:Int))) (hb:b=.fl (.int .i64 (j:Int))) (hj:j < 8) (h:K (.fl (.int .i64 ((m / 2 ^ j:Nat):Int))) hp):aU T .shr t x y a b hp K:=by subst ha hb;exact ⟨.int .i64 ((m / 2 ^ j:Nat):Int),EY hj,rfl,h⟩
end
end Go.RM
namespace Go.RM
open Go
section
variable {T : bG} {tab : List XE} {one : Bool} {fl base : Nat} {E E' E2 : Env} {hp hp' hp2 : List AB} {aF amb' : bq} {H H' H2 : Hp} {ρ ρ2 : Nat → Nat → Option Nat} {g g2 : aN} {O O2 : Nat → Prop}
def Nl (T:bG) (tab:List XE) (mu:Tmp→Bool) (ops:Array Oper) (c:Nat) (K:bP→Prop) (acc:List uN) (st:bP):Prop :=
 match ops.toList[c]? with
 | some o=>match cZ o.op with
  | .call f args=>dA ops.toList o.guard st.fr (force (M5 T.P st.fr f) fun F=>eD (args.map (bg st.fr)) fun as=>F.deep=true∧∃ vs v,Handed st.hp as vs v∧ak T tab false F vs v∧oM (qt ops) (⟨c,[],true,true⟩ :: acc)=true ∧
   ia o.dst st.fr v fun fr'=>wpOps T tab false mu ops.toList (ops.toList.drop (c+1)) ⟨fr',st.hp,st.aF,st.rd,st.fl⟩ K) False
  | _=>False
 | none=>False
def rI (T:bG) (tab:List XE) (mu:Tmp→Bool) (ops:Array Oper) (c:Nat) (K:bP→Prop):List Oper→Nat→(Nat→Nat)→List uN→bP→Prop
 | [],i,_,acc,st=>i=c∧Nl T tab mu ops c K acc st
 | ⟨dst,op,_,_,_,gd⟩ :: l,i,bt,acc,⟨fr,hp,aF,rd,fl⟩ =>
  dA ops.toList gd fr (iR T tab mu dst op i bt fr hp fun fr' hp' bt' x=>rI T tab mu ops c K l (i+1) bt' (x :: acc) ⟨fr',hp',aF,rd,fl⟩)
   (ia dst fr (.tp []) fun fr'=>rI T tab mu ops c K l (i+1) (nt dst bt 0) (⟨i,[],false,false⟩ :: acc) ⟨fr',hp,aF,rd,fl⟩)
section
variable {mu : Tmp → Bool} {ops : Array Oper} {K : bP → Prop} {c i : Nat} {bt : Nat → Nat} {acc : List uN} {fr : Nat → AV} {rd : Bool}
theorem N5 {dst:Option Tmp} {op:Op} {a1 a2 a3 gd} {l:List Oper} (h:dA ops.toList gd fr (iR T tab mu dst op i bt fr hp fun fr' hp' bt' x=>rI T tab mu ops c K l (i+1) bt' (x :: acc) ⟨fr',hp',aF,rd,fl⟩)
 (ia dst fr (.tp []) fun fr'=>rI T tab mu ops c K l (i+1) (nt dst bt 0) (⟨i,[],false,false⟩ :: acc) ⟨fr',hp,aF,rd,fl⟩)):rI T tab mu ops c K (⟨dst,op,a1,a2,a3,gd⟩ :: l) i bt acc ⟨fr,hp,aF,rd,fl⟩:=h
end
end
end Go.RM
namespace Go.RM
open Go
end Go.RM
namespace Go.RM
structure Hd (h:Prop):Prop where
 x:h
theorem u1 {g h : Prop} (q : h) (k : Hd h → g := by
    intro hd;first
    | with_reducible (first | refine RM.c1 ?_ | refine RM.c2 ?_ | refine RM.c3 ?_ | refine RM.c4 ?_ | refine RM.c6 ?_ | refine RM.c7 ?_ | refine RM.c8 ?_ | refine RM.c9 ?_ | refine RM.d1 ?_ | refine RM.d2 ?_ | refine RM.d3 ?_ | refine RM.d4 ?_ | refine RM.d7 ?_ | refine RM.d8 ?_ | refine RM.d9 ?_ | refine RM.o1 ?_ | refine RM.o2 ?_ | refine RM.o3 ?_ | refine RM.o4 ?_ | refine RM.o5 ?_ | refine RM.o6 ?_ | refine RM.o7 ?_ | refine RM.o9 ?_ | refine RM.p1 ?_ | refine RM.p2 ?_ | refine RM.p3 ?_ | refine RM.p4 ?_ | refine RM.p5 ?_ | refine RM.p6 ?_ | refine RM.p7 ?_ | refine RM.p8 ?_ | refine RM.q1 ?_ | refine RM.q2 ?_ | refine RM.Nk ?_ | refine RM.KO ?_ | refine RM.KP ?_ | refine RM.IY ?_ | refine RM.NW ?_ | refine RM.NX ?_ | refine RM.N5 ?_)
    | ((with_reducible show force _ _); first | refine RM.f1 rfl ?_ | refine RM.f2 rfl ?_ | refine RM.f3 rfl ?_ | refine RM.f4 rfl ?_ | refine RM.f5 rfl ?_ | refine RM.f6 rfl ?_ | refine RM.f7 rfl ?_ | refine RM.f8 rfl ?_ | refine RM.f9 rfl ?_ | refine RM.g1 rfl ?_ | refine RM.g2 rfl ?_)
    | ((with_reducible show RM.wpOp _ _ _ _ _ _); first
      | ((with_reducible show RM.wpOp _ _ (.load _ _) _ _ _); first | refine RM.NP rfl rfl rfl ?_ | refine RM.NO rfl rfl rfl ?_ | refine RM.bC rfl rfl rfl rfl ?_ | refine RM.NQ rfl rfl rfl rfl ?_)
      | ((with_reducible show RM.wpOp _ _ (.fieldAddr _ _ _) _ _ _); first | refine RM.NR rfl rfl rfl rfl ?_ | refine RM.NS rfl rfl rfl rfl ?_)
      | ((with_reducible show RM.wpOp _ _ (.alloc _) _ _ _); refine RM.NT rfl rfl ?_)
      | ((with_reducible show RM.wpOp _ _ (.extract _ _) _ _ _); refine RM.N1 rfl rfl ?_)
      | ((with_reducible show RM.wpOp _ _ (.indexAddr _ _ _) _ _ _); first | refine RM.Nz rfl rfl rfl (by assumption) (by omega) rfl ?_ | refine RM.Nz rfl rfl rfl rfl (by omega) rfl ?_ | refine RM.N2 rfl rfl rfl (by omega) ?_ | refine RM.N3 rfl rfl rfl (by omega) ?_ | refine RM.N4 rfl rfl rfl (by omega) ?_)
      | ((with_reducible show RM.wpOp _ _ (.makeSlice _ _ _) _ _ _); refine RM.NA rfl rfl rfl (by decide) rfl ?_)
      | ((with_reducible show RM.wpOp _ _ (.unOp _ _ _) _ _ _); refine RM.n3 rfl ?_)
      | ((with_reducible show RM.wpOp _ _ (.call _) _ _ _); first | refine RM.n4 rfl rfl ?_ | refine RM.n5 rfl rfl ?_))
    | ((with_reducible show kC _ _ _ _ (.region _ _ true) _ _); first | refine RM.NN rfl ?_ | refine RM.c5 (by kernel_rfl) rfl rfl ?_)
    | ((with_reducible show rE _ _ _ _ _ _ _ _ _ _ _ _); refine RM.o8 rfl ?_)
    | ((with_reducible show iR _ _ _ _ _ _ _ _ _ _); first | refine RM.p9 rfl ?_ | refine RM.n1 ?_)
    | ((with_reducible show dA _ _ _ _ _); first | refine tW rfl rfl rfl ?_ | refine wC rfl rfl rfl ?_ | refine zL rfl rfl ?_ | refine tW rfl rfl (by assumption) ?_ | refine wC rfl rfl (by assumption) ?_)
    | ((with_reducible show kC _ _ _ _ (.cond _ _ _) _ _); first | refine RM.e2 rfl rfl ?_ | refine RM.e3 rfl rfl ?_ | refine RM.e2 rfl (by assumption) ?_ | refine RM.e3 rfl (by assumption) ?_)
    | ((with_reducible show sH _ _ _ _ _); refine RM.k1 rfl ?_)
    | ((with_reducible show jN _ _ _ _ _); first | refine RM.k2 rfl ?_ | refine RM.k3 rfl ?_ | refine RM.k2 (by assumption) ?_ | refine RM.k3 (by assumption) ?_ | refine RM.k4 rfl rfl ?_)
    | ((with_reducible show aU _ _ _ _ _ _ _ _ _); first | refine RM.b4 rfl rfl ?_ | refine RM.b5 rfl rfl ?_ | refine RM.b6 rfl rfl ?_ | refine RM.b7 rfl rfl ?_ | refine RM.b8 rfl rfl ?_ | refine RM.b9 rfl rfl ?_ | refine RM.b1 rfl rfl (by omega) ?_ | refine RM.b2 rfl rfl (by omega) ?_ | refine RM.b3 rfl rfl (by omega) ?_ | refine RM.r1 rfl rfl (by omega) ?_ | refine RM.r2 rfl rfl (by omega) ?_)
    | ((with_reducible show rA _ _ _ _ _); first | refine RM.l1 rfl ?_ | refine RM.l2 rfl ?_)
    | ((with_reducible show rz _ _ _); first | refine RM.l3 rfl ?_ | refine RM.l4 rfl ?_)
    | ((with_reducible show kB _ _ _ _); first | refine RM.d5 rfl ?_ | refine RM.d6 rfl ?_)
    | ((with_reducible show ye _ _ _ _); first | refine RM.NU rfl rfl rfl rfl ?_ | refine RM.NV rfl rfl rfl ?_)
    | ((with_reducible show aG _ _ _ _ _ _); refine RM.e9 rfl rfl rfl rfl rfl rfl rfl ?_)
    | ((with_reducible show mR _ _ _ _ _); refine RM.Nc rfl rfl rfl ?_)
    | ((with_reducible show dy _ _ _ _ _ _ _); first | refine RM.NY rfl rfl rfl rfl rfl rfl rfl ?_ | refine RM.NZ rfl rfl rfl rfl rfl rfl ?_)
    | ((with_reducible show au _ _ _ _ _ _ _ _); refine ak.call (by assumption) rfl rfl ?_)
    | ((with_reducible show oM _ _ = true ∧ _); refine And.intro (by kernel_rfl) ?_)
    | ((with_reducible show ∃ _, Gr _ _ _ = some _ ∧ _); refine ⟨_, rfl, ?_⟩)
    | ((with_reducible show AV.deep _ = true ∧ _); refine ⟨rfl, rfl, ?_⟩)
    | ((with_reducible show ∃ _, ak _ _ _ _ _ _ ∧ _); refine ⟨_, by assumption, ?_⟩)
    exact hd.x) : g := k ⟨q⟩
theorem u2 {g h:Prop} (q:h) (k:Hd h→g:=by
 intro hd;first
 | refine ⟨_,rfl,?_⟩
 | refine ⟨_,_,rfl,by decide,?_⟩
 | refine ⟨rfl,rfl,rfl,?_⟩
 | refine ⟨rfl,rfl,?_⟩
 | refine ⟨_,_,rfl,_,rfl,?_⟩
 | refine And.intro (Nat.le_of_ble_eq_true rfl) ?_
 | refine And.intro (by omega) ?_
 | refine ⟨_,_,rfl,rfl,_,rfl,rfl,?_⟩
 | refine And.intro (by kernel_rfl) ?_
 | refine ⟨rfl,rfl,rfl,rfl,rfl,?_⟩
 | refine ⟨_,_,rfl,rfl,rfl,rfl,Nat.le_of_ble_eq_true rfl,?_⟩
 | refine ⟨_,_,rfl,Nat.le_of_ble_eq_true rfl,?_⟩
 exact hd.x):g:=k ⟨q⟩
end Go.RM
namespace Go.RM
open Go
section
variable {T : bG} {tab : List XE} {one : Bool} {fl base : Nat} {E E' E2 : Env} {hp hp' hp2 : List AB} {aF amb' : bq} {H H' H2 : Hp} {ρ ρ2 : Nat → Nat → Option Nat} {g g2 : aN} {O O2 : Nat → Prop}
variable {mu : Tmp → Bool} {fr : Nat → AV} {KS : bP → Prop} {rd : Bool} {dst : Option Tmp}
end
end Go.RM
namespace Go.RM
open Go
section
variable {T : bG} {tab : List XE} {one : Bool} {fl base : Nat} {E E' E2 : Env} {hp hp' hp2 : List AB} {aF amb' : bq} {H H' H2 : Hp} {ρ ρ2 : Nat → Nat → Option Nat} {g g2 : aN} {O O2 : Nat → Prop}
variable {mu : Tmp → Bool} {fr : Nat → AV} {KS : bP → Prop} {rd : Bool} {dst : Option Tmp}
end
end Go.RM
namespace Go.RM
open Go
section
variable {T : bG} {tab : List XE} {one : Bool} {fl base : Nat} {E E' E2 : Env} {hp hp' hp2 : List AB} {aF amb' : bq} {H H' H2 : Hp} {ρ ρ2 : Nat → Nat → Option Nat} {g g2 : aN} {O O2 : Nat → Prop} {r : Rec}
end
end Go.RM
namespace Go.RM
open Go
section
variable {T : bG} {tab : List XE} {one : Bool} {fl base : Nat} {E E' E2 : Env} {hp hp' hp2 : List AB} {aF amb' : bq} {H H' H2 : Hp} {ρ ρ2 : Nat → Nat → Option Nat} {g g2 : aN} {O O2 : Nat → Prop} {r : Rec}
end
end Go.RM
namespace Go.RM
open Go
section
variable {T : bG} {tab : List XE} {one : Bool} {fl base : Nat} {E E' E2 : Env} {hp hp' hp2 : List AB} {aF amb' : bq} {H H' H2 : Hp} {ρ ρ2 : Nat → Nat → Option Nat} {g g2 : aN} {O O2 : Nat → Prop}
end
end Go.RM
namespace Go.RM
open Go
section
variable {T : bG} {tab : List XE} {one : Bool} {fl base : Nat} {E E' E2 : Env} {hp hp' hp2 : List AB} {aF amb' : bq} {H H' H2 : Hp} {r : Rec}
end
end Go.RM
namespace Go.RM
open Go
section
variable {T : bG} {tab : List XE} {one : Bool} {base : Nat} {E E' : Env} {st st' : bP} {s s' : St} {n n' : Nat}
end
end Go.RM
namespace Go.RM
open Go
section
variable {T : bG} {tab : List XE} {one : Bool} {base : Nat} {E E' : Env} {st st' : bP} {s s' : St} {n n' : Nat}
end
end Go.RM
namespace Go.RM
open Go
section
variable {T : bG} {tab : List XE} {one : Bool} {base : Nat} {E E' : Env} {st st' : bP} {s s' : St} {n n' : Nat}
end
end Go.RM
namespace Go.RM
open Go
end Go.RM
namespace Go.RM
open Go
section
variable {T : bG} {tab : List XE} {one : Bool} {n : Nat}
end
end Go.RM
namespace Go.RM
open Go
section
variable {T : bG} {tab : List XE} {one : Bool}
theorem au.cut {F:AV} {args:List AV} {hp:List AB} {aF:bq} {Q:AV→List AB→bq→Prop} (h:au T tab one F args hp aF Q) (hc:∀ a hp' amb',Q a hp' amb'→a.ig hp.length=true∧(hp'.take hp.length).all (AB.ig hp.length)=true) :
  au T tab one F args hp aF fun a hp2 amb'=>∃ hp',hp2=hp'.take hp.length∧Q a hp' amb':=by
 intro E base H u us hr hf ha;obtain ⟨goal,hg,m,L,h1,h2,h3⟩:=h E base H u us hr hf ha;refine ⟨goal,hg,m,L,h1,h2,fun r hm=>?_⟩;obtain ⟨w,H',rfl,E',a,hp',amb',q1,q2,q3,q4⟩:=h3 r hm;obtain ⟨c1,c2⟩:=hc a hp' amb' q1
 have hw:ah (⟨aM [(0,a)],hp',amb',false,hp.length⟩:bP) ⟨aM [(0,a)],hp'.take hp.length,amb',false,hp.length⟩ :=
  ah.to hp.length rfl ⟨rfl,trivial⟩ (qq6 _) (by simp [c1]) c2
 have hs:rD E' base (⟨aM [(0,a)],hp',amb',false,hp.length⟩:bP) ⟨(.leaf:Tr Value).set 0 w,H',false⟩:=by
  refine ⟨q2,rfl,fun t=>?_⟩;show AR _ _ _ (aM [(0,a)] t) ((((.leaf:Tr Value).set 0 w).get t).getD undef);rw [Tr.gq];by_cases ht:t=0
  ·subst ht;exact q3
  ·rw [if_neg ht];have:aM [(0,a)] t=.cB:=by unfold aM;rw [Tr.beq_eq,decide_eq_false ht];rfl
   rw [this];exact .cB
 obtain ⟨E2,k1,k2⟩:=hw.2 E' base _ hs;have h0:=k1.fr 0;refine ⟨w,H',rfl,E2,a,_,amb',⟨hp',rfl,q1⟩,k1.h,?_,q4.trans k2⟩;have e:(((.leaf:Tr Value).set 0 w).get 0).getD undef=w:=by rw [Tr.gq,if_pos rfl];rfl
 have h0:AR E2.ρ H'.get (E2.O (hp'.take hp.length)) (aM [(0,a)] 0) ((((.leaf:Tr Value).set 0 w).get 0).getD undef):=h0;rw [e] at h0;exact h0
end
end Go.RM
namespace Go.RM
open Go
section
variable {T : bG} {tab : List XE} {one : Bool} {mu : Tmp → Bool} {base : Nat} {E : Env} {hp : List AB} {aF : bq} {H : Hp} {ρ : Nat → Nat → Option Nat} {g : aN} {O O' : Nat → Prop}
def Kh (j aK:Nat) (cs:List AV):List AV→List AV→Prop
 | [],[]=>True
 | a :: l,b :: m=>Gv j aK cs a b∧Kh j aK cs l m
 | _,_=>False
theorem Kh.len {j aK:Nat} {cs:List AV}:∀ {l m:List AV},Kh j aK cs l m→l.length=m.length
 | [],[],_=>rfl
 | _ :: _,_ :: _,h=>by simp only [List.length_cons];rw [Kh.len h.2]
 | [],_ :: _,h=>h.elim
 | _ :: _,[],h=>h.elim
theorem Kh.get {j aK:Nat} {cs:List AV}:∀ {l m:List AV},Kh j aK cs l m→∀ (i:Nat) (a b:AV),l[i]?=some a→m[i]?=some b→Gv j aK cs a b
 | [],[],_,i,a,b,ha,_=>by cases ha
 | x :: l,y :: m,h,i,a,b,ha,hb=>by
  cases i with
  | zero=>cases ha;cases hb;exact h.1
  | succ i=>exact Kh.get h.2 i a b (by simpa using ha) (by simpa using hb)
 | [],_ :: _,h,_,_,_,_,_=>h.elim
 | _ :: _,[],h,_,_,_,_,_=>h.elim
inductive GB (j aK:Nat) (cs:List AV):AB→AB→Prop
 | cells {l m:List AV} {es v:Nat}:Kh j aK cs l m→GB j aK cs (.cells l es v) (.cells m es v)
 | same {b:AB}:b.qp j=true→GB j aK cs b b
theorem GB.aK {j aK:Nat} {cs:List AV} {b b':AB} (h:GB j aK cs b b'):b'.ver?=b.ver?:=by
 cases h with
 | cells=>rfl
 | same=>rfl
def Ki (j aK:Nat) (cs:List AV):Nat→List AB→List AB→Prop
 | _,[],[]=>True
 | i,b :: l,b' :: m=>(if Nat.beq i j then b'=.gone else GB j aK cs b b')∧Ki j aK cs (i+1) l m
 | _,_,_=>False
theorem Ki.len {j aK:Nat} {cs:List AV}:∀ {l m:List AB} {i:Nat},Ki j aK cs i l m→l.length=m.length
 | [],[],_,_=>rfl
 | _ :: _,_ :: _,_,h=>by simp only [List.length_cons];rw [Ki.len h.2]
 | [],_ :: _,_,h=>h.elim
 | _ :: _,[],_,h=>h.elim
theorem Ki.get {j aK:Nat} {cs:List AV}:∀ {l m:List AB} {i0:Nat},Ki j aK cs i0 l m→∀ (i:Nat) (b':AB),m[i]?=some b'→(i0+i=j∧b'=.gone)∨(i0+i ≠ j∧∃ b,l[i]?=some b∧GB j aK cs b b')
 | [],[],_,_,i,b',hb=>by cases hb
 | x :: l,y :: m,i0,h,i,b',hb=>by
  cases i with
  | zero =>
   cases hb;have h1:=h.1;split at h1
   ·rename_i hb;exact .inl ⟨Nat.eq_of_beq_eq_true hb,h1⟩
   ·rename_i hb;exact .inr ⟨fun e=>hb (by subst e;exact Nat.beq_refl _),x,rfl,h1⟩
  | succ i =>
   rcases Ki.get h.2 i b' (by simpa using hb) with ⟨h1,h2⟩|⟨h1,b,h2,h3⟩
   ·exact .inl ⟨by omega,h2⟩
   ·exact .inr ⟨by omega,b,by simpa using h2,h3⟩
 | [],_ :: _,_,h,_,_,_=>h.elim
 | _ :: _,[],_,h,_,_,_=>h.elim
theorem ah.GV {st:bP} {l:List (Nat × AV)} (j:Nat) {aK es:Nat} {cs:List AV} {hp':List AB} (hj:st.hp[j]?=some (.cells cs es aK)) (hn:st.fl≤j) (hd:cI cs=true) (hs:wE j aK cs st.fr l) (hb:Ki j aK cs 0 st.hp hp') :
  ah st ⟨aM l,hp',st.aF,st.rd,st.fl⟩:=by
 have hlt:j < st.hp.length:=(List.getElem?_eq_some_iff.1 hj).1;have hlen:=hb.len;refine ⟨rfl,fun E base s hs'=>?_⟩;have hr:=hs'.h
 have hget:∀ (i:Nat) (b:AB) (aK:Nat),hp'[i]?=some b→b.ver?=some aK→i ≠ j∧∃ b0,st.hp[i]?=some b0∧b0.ver?=some aK:=by
  intro i b v hi hv
  rcases hb.get i b hi with ⟨_,h2⟩|⟨h1,b0,h2,h3⟩
  ·subst h2;cases hv
  ·exact ⟨by omega,b0,h2,by rw [←h3.aK];exact hv⟩
 have hdr:∀ {i v k:Nat},aY j E.ρ i v=some k→i ≠ j∧E.ρ i v=some k:=by
  intro i v k h;unfold aY at h;split at h
  ·cases h
  ·rename_i hne;exact ⟨hne,h⟩
 have hown:∀ k,Own (aY j E.ρ) hp' k→Own E.ρ st.hp k:=by rintro k ⟨i,b,v,h1,h2,h3⟩;obtain ⟨_,b0,g1,g2⟩:=hget i b v h1 h2;exact ⟨i,b0,v,g1,g2,(hdr h3).2⟩
 have hOs:∀ k,({E with ρ:=aY j E.ρ}:Env).O hp' k→E.O st.hp k:=fun k h=>h.imp (hown k) id
 have hpt:∀ {o:Nat} {u:Value},AR E.ρ s.hp.get (E.O st.hp) (.ptr j aK o) u→AR (aY j E.ρ) s.hp.get (({E with ρ:=aY j E.ρ}:Env).O hp') (.pt cs o) u:=by
  intro o u h;obtain ⟨k,hk,rfl⟩:=h.cY;obtain ⟨cs',q1,q2⟩:=hr.cells hj hk
  have hnO:¬ ({E with ρ:=aY j E.ρ}:Env).O hp' k:=by
   rintro (⟨i,b,v,h1,h2,h3⟩|hx)
   ·have:=hdr h3;exact this.1 (hr.inj i j v aK k this.2 hk)
   ·exact hr.hH k ⟨j,_,aK,hj,rfl,hk⟩ hx
  have:=q2.deep hd;refine .d (?_:DR _ _ (.pt cs o) (.pointer (some ⟨k,o,none⟩)))
  have h0:DR s.hp.get (({E with ρ:=aY j E.ρ}:Env).O hp') (.pt cs o) (.pointer (some ⟨k,0+o,none⟩)) :=
   .pt q1 hnO (by rw [Nat.zero_add,this.1];exact qq6 _) (fun i a u x y=>(this.2 i a u x (by rw [Nat.zero_add] at y;exact y)).mono fun k b hk ho=>⟨hk,fun h=>ho (hOs k h)⟩)
  rw [Nat.zero_add] at h0;exact h0
 have hrow:∀ {o n c:Nat} {els:List (List AV)} {b:Bool} {u:Value} (es:Nat),o+n * es≤cs.length→els.length=n→(∀ el ∈ els,el.length=es)→els.flatten=(cs.drop o).take (n * es)→(b=true→c=n)→AR E.ρ s.hp.get (E.O st.hp) (.aJ j aK o n c) u →
   AR (aY j E.ρ) s.hp.get (({E with ρ:=aY j E.ρ}:Env).O hp') (.sl els b) u:=by
  intro o n c els b u es g1 g2 g3 g4 g5 h
  rcases h.ej with ⟨k,hk,rfl⟩|⟨rfl,rfl,rfl⟩
  ·obtain ⟨cs',q1,q2⟩:=hr.cells hj hk
   have hnO:¬ ({E with ρ:=aY j E.ρ}:Env).O hp' k:=by
    rintro (⟨i,b,v,h1,h2,h3⟩|hx)
    ·have:=hdr h3;exact this.1 (hr.inj i j v aK k this.2 hk)
    ·exact hr.hH k ⟨j,_,aK,hj,rfl,hk⟩ hx
   have hdp:=q2.deep hd;refine .d (.sl (es:=es) q1 hnO (by rw [←q2.1];exact g1) g2 (fun i el he=>g3 el (List.mem_of_getElem? he)) (fun i el jj a u he hx hu=>?_) g5);have hjj:jj < es:=by rw [←g3 el (List.mem_of_getElem? he)];exact (List.getElem?_eq_some_iff.1 hx).1
   have hat:=ec g3 i el jj he hjj;have hi:i < n:=by rw [←g2];exact (List.getElem?_eq_some_iff.1 he).1
   rw [g4,List.getElem?_take,List.getElem?_drop] at hat;have hlt:i * es+jj < n * es:=by have:(i+1) * es≤n * es:=Nat.mul_le_mul_right _ hi;rw [Nat.add_mul,Nat.one_mul] at this;omega
   rw [if_pos hlt,hx,←Nat.add_assoc] at hat;exact (hdp.2 _ a u hat hu).mono fun k b hk ho=>⟨hk,fun h=>ho (hOs k h)⟩
  ·simp only [List.length_eq_zero_iff] at g2;subst g2;exact .d .nil
 have hgv:∀ {a b:AV} {u:Value},Gv j aK cs a b→AR E.ρ s.hp.get (E.O st.hp) a u→AR (aY j E.ρ) s.hp.get (({E with ρ:=aY j E.ρ}:Env).O hp') b u:=by
  intro a b u hg h
  cases hg with
  | same hn=>exact h.qp hOs hn
  | ptr=>exact hpt h
  | row es g1 g2 g3 g4 g5=>exact hrow es g1 g2 g3 g4 g5 h
  | cB=>exact .cB
 refine ⟨{E with ρ:=aY j E.ρ},⟨⟨hr.wf,fun i b v hi hv=>?_,fun i i' v v' k h1 h2=>hr.inj i i' v v' k (hdr h1).2 (hdr h2).2,fun i v k hk=>hr.rn i v k (hdr hk).2,fun i b v w h1 h2 h3=>?_,fun i v hi=>?_,fun k hk=>hr.sup k (hown k hk),fun k hk=>hr.hH k (hown k hk),hr.dx,hr.ds,hr.sn,hr.xn,fun k hk=>hr.pQ k (hk.imp (hown k) id),hr.bn,hr.aF⟩,hs'.rd,fun t=>hgv (zM hs t) (hs'.fr t)⟩,
  ⟨qq6 _,fun i v k hi hk=>?_,fun k hk=>.inl (hown k hk),fun _ h=>.inl h,fun _ h=>.inl h,fun _ h=>h,fun _ h=>.inl h,fun _ _ _ _=>rfl,Nat.min_le_left _ _⟩⟩
 ·rcases hb.get i b hi with ⟨_,h2⟩|⟨hij,b0,hi',hG⟩
  ·subst h2;cases hv
  ·have hij:i ≠ j:=by omega
   have hv':b0.ver?=some v:=by rw [←hG.aK];exact hv
   rcases hr.gu i b0 v hi' hv' with ⟨k,b',q1,q2,q3⟩|⟨q1,q2⟩
   ·refine .inl ⟨k,b',by show aY j E.ρ i v=_;rw [aY,if_neg hij];exact q1,q2,?_⟩
    cases hG with
    | @cells l0 m0 es0 v0 hL =>
     obtain ⟨cs',rfl,h⟩:=q3;refine ⟨cs',rfl,by rw [←hL.len];exact h.1,fun i a u ha hu=>?_⟩;have hli:i < l0.length:=by rw [hL.len];exact (List.getElem?_eq_some_iff.1 ha).1
     exact hgv (hL.get i l0[i] a (List.getElem?_eq_getElem hli) ha) (h.2 i l0[i] u (List.getElem?_eq_getElem hli) hu)
    | same hbn =>
     cases b with
     | cells cs2 es2 ver2 =>obtain ⟨cs',rfl,h⟩:=q3;exact ⟨cs',rfl,h.1,fun i a u ha hu=>(h.2 i a u ha hu).qp hOs (kD hbn i a ha)⟩
     | dI p q=>exact q3
     | map ents clock =>obtain ⟨es,rfl,h1,h2⟩:=q3;refine ⟨es,rfl,h1,fun i k v born x hx hy=>?_⟩;simp only [AB.qp,List.all_eq_true,qq7] at hbn;have:=hbn _ (List.mem_of_getElem? hx);exact ⟨(h2 i k v born x hx hy).1.qp hOs this.1,(h2 i k v born x hx hy).2.1.qp hOs this.2,(h2 i k v born x hx hy).2.2⟩
     | iter i2 since seen stepped =>obtain ⟨m,rfl,h⟩:=q3;exact ⟨m,rfl,by show aY j E.ρ i2 0=_;rw [aY,if_neg (rH hbn)];exact h⟩
     | gone=>exact q3
   ·refine .inr ⟨by show aY j E.ρ i v=_;rw [aY,if_neg hij];exact q1,?_⟩
    cases hG with
    | @cells l0 m0 es0 v0 hL =>
     obtain ⟨es1,h1⟩:=q2;cases h1;have h2:=hL.len
     cases m0 with
     | nil=>exact ⟨_,rfl⟩
     | cons _ _=>cases h2
    | same _=>exact q2
 ·obtain ⟨hij,b0,h1,h2⟩:=hget i b v h1 h2;show aY j E.ρ i w=none;rw [aY,if_neg hij];exact hr.fresh i b0 v w h1 h2 h3
 ·show aY j E.ρ i v=none;unfold aY;split
  ·rfl
  ·exact hr.new i v (by rw [hlen];exact hi)
 ·show aY j E.ρ i v=some k;rw [aY,if_neg (by omega)];exact hk
end
end Go.RM
namespace Go.RM
open Go
theorem wrap_u64 {n:Nat} (h:n < 18446744073709551616):IntKind.wrap .u64 (n:Int)=(n:Int):=by show ((BitVec.ofInt 64 (n:Int)).toNat:Int)=_;rw [BitVec.ofInt_natCast,BitVec.toNat_ofNat,Nat.mod_eq_of_lt h]
theorem G1 {P:Program} {t:TypeId} {x y:Operand} {m n:Nat} (hm:m < 18446744073709551616) (hn:n < 18446744073709551616):dQ P .and t x y (.int .u64 (m:Int)) (.int .u64 (n:Int))=some (.int .u64 ((m &&& n:Nat):Int),.none):=by have h:dQ P .and t x y (.int .u64 (m:Int)) (.int .u64 (n:Int))=some (.int .u64 (IntKind.wrap .u64 ((BitVec.ofInt 64 (m:Int) &&& BitVec.ofInt 64 (n:Int)).toNat:Int)),.none):=rfl;rw [h,wG (by omega) (by omega),wrap_u64 (Nat.lt_of_le_of_lt Nat.and_le_left hm)]
theorem G2 {P:Program} {t:TypeId} {x y:Operand} {j:Nat} (hj:j < 8):dQ P .shl t x y (.int .u64 1) (.int .i64 (j:Int))=some (.int .u64 ((2 ^ j:Nat):Int),.none):=by
 match j,hj with
 | 0,_|1,_|2,_|3,_|4,_|5,_|6,_|7,_=>rfl
theorem G3 {P:Program} {t:TypeId} {x y:Operand} {m:Nat} (h1:1≤m) (hm:m < 18446744073709551616):dQ P .sub t x y (.int .u64 (m:Int)) (.int .u64 1)=some (.int .u64 ((m - 1:Nat):Int),.none):=by have h:dQ P .sub t x y (.int .u64 (m:Int)) (.int .u64 1)=some (.int .u64 (IntKind.wrap .u64 ((m:Int) - 1)),.none):=rfl;rw [h,show (m:Int) - 1=((m - 1:Nat):Int) by omega,wrap_u64 (by omega)]
section
variable {T : bG} {a b : AV} {t : TypeId} {x y : Operand} {hp : List AB} {K : AV → List AB → Prop}
theorem ME {m n:Nat} (ha:a=.fl (.int .u64 (m:Int))) (hb:b=.fl (.int .u64 (n:Int))) (hm:m < 18446744073709551616) (hn:n < 18446744073709551616) (h:K (.fl (.int .u64 ((m &&& n:Nat):Int))) hp):aU T .and t x y a b hp K:=by subst ha hb;exact ⟨_,_,rfl,rfl,.int .u64 ((m &&& n:Nat):Int),G1 hm hn,rfl,h⟩
theorem MF {j:Nat} (ha:a=.fl (.int .u64 1)) (hb:b=.fl (.int .i64 (j:Int))) (hj:j < 8) (h:K (.fl (.int .u64 ((2 ^ j:Nat):Int))) hp):aU T .shl t x y a b hp K:=by subst ha hb;exact ⟨_,_,rfl,rfl,.int .u64 ((2 ^ j:Nat):Int),G2 hj,rfl,h⟩
theorem DT {m:Nat} (ha:a=.fl (.int .u64 (m:Int))) (hb:b=.fl (.int .u64 1)) (h1:1≤m) (hm:m < 18446744073709551616) (h:K (.fl (.int .u64 ((m - 1:Nat):Int))) hp):aU T .sub t x y a b hp K:=by subst ha hb;exact ⟨_,_,rfl,rfl,.int .u64 ((m - 1:Nat):Int),G3 h1 hm,rfl,h⟩
end
end Go.RM
namespace Go.RM
open Go
section
variable {T : bG} {own : Bool} {fr : Nat → AV} {hp : List AB} {K : AV → List AB → Prop} {t : TypeId} {s by' cE : Nat} {z : Option Value} {agg : Bool} {cu : List (Nat × Nat)}
end
end Go.RM
namespace Go.RM
open Go
inductive As (s st:bP):Prop
 | is (h:ah s st)
 | no (h:False)
theorem As.aO {s st:bP}:As s st→ah s st
 | .is h=>h
 | .no h=>h.elim
theorem cutAt {T:bG} {tab:List XE} {one:Bool} {a b:Code} {st st':bP} {K:Exit→bP→Prop} (h1:aB T tab one a st (sM (fun s=>As s st') K)) (h2:aB T tab one b st' K):aB T tab one (.seq a b) st K :=
 .seq (h1.mono fun e s h=>by cases e <;> first|exact .aO h.aO h2|exact h)
end Go.RM
namespace Go.RM
open Go
theorem G4 {P:Program} {t:TypeId} {x y:Operand} {m n:Nat} (hm:m < 4611686018427387904) (hn:n < 4611686018427387904):dQ P .and t x y (.int .i64 (m:Int)) (.int .i64 (n:Int))=some (.int .i64 ((m &&& n:Nat):Int),.none):=by have h:dQ P .and t x y (.int .i64 (m:Int)) (.int .i64 (n:Int))=some (.int .i64 (IntKind.wrap .i64 ((BitVec.ofInt 64 (m:Int) &&& BitVec.ofInt 64 (n:Int)).toNat:Int)),.none):=rfl;have h1:m &&& n≤m:=Nat.and_le_left;rw [h,wG (by omega) (by omega),wrap_i64 (by omega) (by omega)]
theorem Jb {P:Program} {t:TypeId} {x y:Operand} {m n:Nat} (hm:m < 4611686018427387904) (hn:n < 4611686018427387904):dQ P .or t x y (.int .i64 (m:Int)) (.int .i64 (n:Int))=some (.int .i64 ((m ||| n:Nat):Int),.none):=by have h:dQ P .or t x y (.int .i64 (m:Int)) (.int .i64 (n:Int))=some (.int .i64 (IntKind.wrap .i64 ((BitVec.ofInt 64 (m:Int) ||| BitVec.ofInt 64 (n:Int)).toNat:Int)),.none):=rfl;have h1:m ||| n < 2 ^ 62:=Nat.or_lt_two_pow (n:=62) hm hn;rw [h,IW (by omega) (by omega),wrap_i64 (by omega) (by omega)]
theorem BL {w m n:Nat} (hm:m < 2 ^ w) (hn:n < 2 ^ w):(BitVec.ofInt w (m:Int) &&& ~~~ BitVec.ofInt w (n:Int)).toNat=m &&& (2 ^ w - 1 - n):=by rw [BitVec.toNat_and,BitVec.toNat_not,BitVec.ofInt_natCast,BitVec.ofInt_natCast,BitVec.toNat_ofNat,BitVec.toNat_ofNat,Nat.mod_eq_of_lt hm,Nat.mod_eq_of_lt hn]
theorem BM {P:Program} {t:TypeId} {x y:Operand} {m n:Nat} (hm:m < 4611686018427387904) (hn:n < 4611686018427387904):dQ P .andNot t x y (.int .i64 (m:Int)) (.int .i64 (n:Int))=some (.int .i64 ((m &&& (18446744073709551615 - n):Nat):Int),.none):=by have h:dQ P .andNot t x y (.int .i64 (m:Int)) (.int .i64 (n:Int))=some (.int .i64 (IntKind.wrap .i64 ((BitVec.ofInt 64 (m:Int) &&& ~~~ BitVec.ofInt 64 (n:Int)).toNat:Int)),.none):=rfl;have h1:m &&& (18446744073709551615 - n)≤m:=Nat.and_le_left;rw [h,BL (by omega) (by omega)];show some (Value.int .i64 (IntKind.wrap .i64 ((m &&& (18446744073709551615 - n):Nat):Int)),bX.none)=_;rw [wrap_i64 (by omega) (by omega)]
section
variable {T : bG} {a b : AV} {t : TypeId} {x y : Operand} {hp : List AB} {K : AV → List AB → Prop}
theorem Kl {m n:Nat} (ha:a=.fl (.int .i64 (m:Int))) (hb:b=.fl (.int .i64 (n:Int))) (hm:m < 4611686018427387904) (hn:n < 4611686018427387904) (h:K (.fl (.int .i64 ((m &&& n:Nat):Int))) hp):aU T .and t x y a b hp K:=by subst ha hb;exact ⟨.int .i64 ((m &&& n:Nat):Int),G4 hm hn,rfl,h⟩
theorem KV {m n:Nat} (ha:a=.fl (.int .i64 (m:Int))) (hb:b=.fl (.int .i64 (n:Int))) (hm:m < 4611686018427387904) (hn:n < 4611686018427387904) (h:K (.fl (.int .i64 ((m ||| n:Nat):Int))) hp):aU T .or t x y a b hp K:=by subst ha hb;exact ⟨.int .i64 ((m ||| n:Nat):Int),Jb hm hn,rfl,h⟩
theorem KW {m n:Nat} (ha:a=.fl (.int .i64 (m:Int))) (hb:b=.fl (.int .i64 (n:Int))) (hm:m < 4611686018427387904) (hn:n < 4611686018427387904) (h:K (.fl (.int .i64 ((m &&& (18446744073709551615 - n):Nat):Int))) hp):aU T .andNot t x y a b hp K:=by subst ha hb;exact ⟨.int .i64 ((m &&& (18446744073709551615 - n):Nat):Int),BM hm hn,rfl,h⟩
end
section
variable {T : bG} {own : Bool} {fr : Nat → AV} {hp : List AB} {K : AV → List AB → Prop} {t : TypeId} {s by' cE : Nat} {z : Option Value} {agg : Bool} {cu : List (Nat × Nat)}
theorem N7 {x:Operand} {cs:List AV} {o len:Nat} {e:TypeId} {els:List (List AV)} (hx:bg fr x=.pt cs o) (ht:T.ty.get t=some ⟨.array len e,s,by',z,agg,cu,cE⟩)
  (hb:o+len * cE≤cs.length) (h1:1≤cE) (he:els.length=len∧(∀ el ∈ els,el.length=cE)∧els.flatten=(cs.drop o).take (len * cE)) (k:K (.sl els true) hp):wpOp T own (.slice t x none none none) fr hp K:=by
 show mS T t (bg fr x) none none hp K;rw [hx];unfold mS;simp only [ht];refine ⟨0,len,els,rfl,rfl,⟨qq5 _,qq6 _,hb⟩,h1,?_,by rw [Nat.beq_refl];exact k⟩;rw [Nat.zero_mul,Nat.add_zero,Nat.sub_zero];exact he
end
inductive N8 (s st:bP) (P:Prop):Prop
 | is (h:ah s st) (p:P)
 | no (h:False)
theorem C2 {T:bG} {tab:List XE} {one:Bool} {a b:Code} {st:bP} (st':bP) (P:Prop) {K:Exit→bP→Prop} (h1:aB T tab one a st (sM (fun s=>N8 s st' P) K)) (h2:P→aB T tab one b st' K):aB T tab one (.seq a b) st K :=
 .seq (h1.mono fun e s h=>by
  cases e
  all_goals first
   | exact (match h with|.is h p=>.aO h (h2 p)|.no h=>h.elim)
   | exact h)
inductive Nr {σ:Type} (s:bP) (Φ:σ→bP) (P:σ→Prop):Prop
 | is (x:σ) (h:ah s (Φ x)) (p:P x)
 | no (h:False)
theorem iy {T:bG} {tab:List XE} {one:Bool} {a b:Code} {st:bP} {σ:Type} (Φ:σ→bP) (P:σ→Prop) {K:Exit→bP→Prop} (h1:aB T tab one a st (sM (fun s=>Nr s Φ P) K)) (h2:∀ x,P x→aB T tab one b (Φ x) K):aB T tab one (.seq a b) st K :=
 .seq (h1.mono fun e s h=>by
  cases e
  all_goals first
   | exact (match h with|.is x h p=>.aO h (h2 x p)|.no h=>h.elim)
   | exact h)
end Go.RM
namespace Go.RM
open Go
section
variable {T : bG} {tab : List XE} {one : Bool} {fl base base1 : Nat} {E E' E1 E2 E4 : Env} {hp hp' hp1 hp2 hp4 : List AB} {aF amb' amb4 : bq} {H H' H1 H2 H4 : Hp} {ρ ρ' : Nat → Nat → Option Nat} {g g' : aN} {O O' : Nat → Prop}
def NF:AV→Bool
 | .fl v=>bf v
 | _=>false
def NG:AV→Bool
 | .fl v=>bf v
 | .ptr _ _ _=>true
 | .aJ _ _ _ _ _=>true
 | _=>false
def DY:AB→Bool
 | .cells cs _ _=>cs.all NG
 | .gone=>true
 | _=>false
theorem BR.flat {b:AB} {b':bx} (hf:DY b=true) (h:BR ρ g O b b'):BR ρ g' O' b b':=by
 cases b with
 | cells cs es aK =>
  obtain ⟨cs',rfl,h⟩:=h;refine ⟨cs',rfl,h.1,fun i a u h1 h2=>?_⟩;have h3:=List.all_eq_true.1 hf a (List.mem_of_getElem? h1);have h4:=h.2 i _ u h1 h2
  cases a with
  | fl v =>obtain ⟨rfl,_⟩:=h4.eW;exact .d (.fl h3)
  | ptr j aK o =>obtain ⟨k,hk,rfl⟩:=h4.cY;exact .ptr hk
  | aJ j aK o n c =>
   cases h4 with
   | aJ h=>exact .aJ h
   | rm h=>exact .rm h
   | d h=>cases h
  | _=>cases h3
 | gone=>exact h
 | _=>cases hf
inductive Ld (hp:List AB):AV→AV→Prop
 | row {j aK o n c es:Nat} {cs:List AV} {els:List (List AV)}:hp[j]?=some (.cells cs es aK)→o+n * es≤cs.length→els.length=n→(∀ el ∈ els,el.length=es)→els.flatten=(cs.drop o).take (n * es)→cs.all NF=true →
  Ld hp (.aJ j aK o n c) (.sl els false)
theorem Ld.dr (h:aX E base hp aF H) {O':Nat→Prop} (hO:∀ k,Own E.ρ hp k→¬ O' k) {a x:AV} (hl:Ld hp a x) {u:Value} (ha:AR E.ρ H.get (E.O hp) a u):DR H.get O' x u:=by
 cases hl with
 | row h1 h2 h3 h4 h5 h6 =>
  rename_i j aK o n c es cs els
  rcases ha.ej with ⟨k,hk,rfl⟩|⟨rfl,rfl,rfl⟩
  ·obtain ⟨cs',q1,q2⟩:=h.cells h1 hk;refine .sl q1 (hO k ⟨j,_,aK,h1,rfl,hk⟩) (by rw [←q2.1];exact h2) h3 (fun i el he=>h4 el (List.mem_of_getElem? he)) (fun i el j' a u e1 e2 e3=>?_) (fun h=>Bool.noConfusion h);have hlen:el.length=es:=h4 el (List.mem_of_getElem? e1);have hj:j' < es:=by rw [←hlen];exact (List.getElem?_eq_some_iff.1 e2).1
   have hf:=ec h4 i el j' e1 hj;have hi:i < n:=by rw [←h3];exact (List.getElem?_eq_some_iff.1 e1).1
   rw [h5,List.getElem?_take_of_lt (by
    have:(i+1) * es≤n * es:=Nat.mul_le_mul_right _ hi;rw [Nat.add_mul,Nat.one_mul] at this
    omega),List.getElem?_drop,e2] at hf
   rw [show o+(i * es+j')=o+i * es+j' by omega] at hf;have h7:=List.all_eq_true.1 h6 a (List.mem_of_getElem? hf);have h8:=q2.2 _ a u hf e3
   cases a with
   | fl v =>obtain ⟨rfl,_⟩:=h8.eW;exact .fl h7
   | _=>cases h7
  ·obtain rfl:=List.length_eq_zero_iff.1 h3;exact .nil
def NH (hp:List AB) (l m:List AV):Prop:=l.length=m.length∧∀ (i:Nat) (a x:AV),l[i]?=some a→m[i]?=some x→Ld hp a x
def zR (T:bG) (tab:List XE) (one:Bool) (u:Value) (x:List AV) (a:bq) (Q:Bool→bq→Prop):Prop :=
 ∀ (hp:List AB) (xs':List AV),NH hp xs' x→au T tab one (.oq u) xs' hp a fun v hp' a'=>hp'=hp∧∃ b,v=.fl (.bool b)∧Q b a'
def K3 (hpn:List AB) (an:bq) (pn:Prop) (e:Exit) (s:bP):Prop :=
 match e with
 | .normal=>pn∧∃ fr',ah s ⟨fr',hpn,an,s.rd,s.fl⟩
 | _=>False
def Fj (T:bG) (tab:List XE) (one:Bool) (F:AV) (xs:List (List AV)):Prop :=
 (∃ f a b,F=.fn f a b)∧F.deep=true∧∀ (u:Value) (J:Nat→bq) (Stop:bq→Prop),(∀ (i:Nat) (x:List AV),xs[i]?=some x→zR T tab one u x (J i) (CS (J (i+1)) Stop)) →
  au T tab one F [.oq u] [] (J 0) fun _ _ a'=>a'=J xs.length∨Stop a'
theorem Fj.body {f:FuncId} {fn:Func} {c:Code} {first caps:List AV} {xs:List (List AV)} (hf:T.fn.get f=some fn) (hb:fn.body=some c) (hn:noEntry tab f=true) (hd:(AV.fn f first caps).deep=true)
  (hw:∀ (u:Value) (J:Nat→bq) (Stop:bq→Prop),(∀ (i:Nat) (x:List AV),xs[i]?=some x→zR T tab one u x (J i) (CS (J (i+1)) Stop)) →
   aB T tab one c ⟨BA (first++[.oq u]++caps),[],J 0,false,0⟩ (Nh T fn.results.toList fun a'=>a'=J xs.length∨Stop a'))  :Fj T tab one (.fn f first caps) xs:=by
 refine ⟨⟨f,first,caps,rfl⟩,hd,fun u J Stop hy E base H v us hr hF ha=>?_⟩;have hF:=hF.deep hd
 cases hF with
 | fn l1 l2 d1 d2 =>
  rename_i a' b';have hall:fI E.ρ H.get (E.O []) (first++[.oq u]++caps) (a'.toList++us++b'.toList):=fI.append (fI.append (sG.DB ⟨l1,d1⟩) ha) (sG.DB ⟨l2,d2⟩);refine ⟨.fn f (a'.toList++us++b'.toList),rfl,?_⟩;obtain ⟨m,L,h1,h2,h3⟩:=hw u J Stop hy E base ⟨setArgs .leaf 0 (a'.toList++us++b'.toList),H,false⟩ ⟨hr,rfl,wq hall⟩
  obtain ⟨m',M,hm,q1,q2,q3⟩:=fE (one:=one) (L:=L) (f:=fun _ (p:Exit × St)=>eR T fn.results.toList p) (P:=fun r=>∃ w H',r=.ret w H'∧∃ E' a hp' amb',(amb'=J xs.length∨Stop amb')∧aX E' base hp' amb' H'∧AR E'.ρ H'.get (E'.O hp') a w∧lF ([]:List AB).length base E [] H E' hp' H')
   (fun _ _ _ _ _ h=>h) m h2 (fun p hp=>by
    obtain ⟨E',st',k1,_,k2,k3⟩:=h3 p hp;obtain ⟨e,s'⟩:=p
    have done:(e=.normal∨e=.ret)→(pS T st' fn.results.toList fun _=>st'.aF=J xs.length∨Stop st'.aF)→∃ (_:Nat) (M:List eH),eR T fn.results.toList (e,s')=some M∧ql one M fun r=>∃ w H',r=.ret w H'∧∃ E' a hp' amb',(amb'=J xs.length∨Stop amb')∧aX E' base hp' amb' H'∧AR E'.ρ H'.get (E'.O hp') a w∧lF ([]:List AB).length base E [] H E' hp' H':=by
     intro he hr;obtain ⟨ws,az,r1,r2,r3⟩:=k7 k2 hr;refine ⟨0,[.ret (bQ ws) s'.hp],?_,.single ⟨_,_,rfl,E',.cB,st'.hp,st'.aF,r2,k2.h,.cB,k3⟩⟩;unfold eR
     rcases he with rfl|rfl <;> simp only [r1,Option.map_some]
    cases e with
    | normal=>exact done (.inl rfl) k1
    | ret=>exact done (.inr rfl) k1
    | _=>exact k1.elim)
  refine ⟨m'+1,M,?_,q2,q3⟩;show RX T tab (m'+1) (.call f _ H)=_;rw [zn,oL _ _ hn];simp only;rw [ki,hf];simp only [hb];rw [dV (gZ hm) _ _ _ h1];exact q1
theorem aB.K4 {f:Operand} {ps:Array Tmp} {az bd:Code} {st:bP} {K:Exit→bP→Prop} {xs:List (List AV)} (Hs:Nat→List AB) (As:Nat→bq) (Ps:Nat→Prop) {rdv:Bool} (hrd:st.rd=rdv) (hgen:Fj T tab one (bg st.fr f) xs) (hflat:∀ i,(Hs i).all DY=true) (h0:Hs 0=st.hp) (ha0:As 0=st.aF) (hp0:Ps 0)
  (hround:∀ (i:Nat) (x:List AV),xs[i]?=some x→Ps i→x.length=ps.toList.length∧aB T tab one az ⟨DK st.fr (ps.toList.zip x),Hs i,As i,true,st.hp.length⟩ (NM fun s=>aB T tab one bd s (K3 (Hs (i+1)) (As (i+1)) (Ps (i+1)))))
  (hend:Ps xs.length→K .normal ⟨st.fr,Hs xs.length,As xs.length,rdv,st.fl⟩):aB T tab one (.rangeFunc f ps az bd) st K:=by
 intro E base s hs;obtain ⟨⟨gf,ga,gb,hF⟩,hdeep,hgen⟩:=hgen;subst hrd
 let l:=s.hp.n
 let LP:bx→(List AB→bq→Prop)→bq:=Gz st.hp.length E st.hp s.hp
 let blkR:bx:=.loop .ready none s.fr ps az bd
 let J:Nat→bq:=fun i=>LP blkR fun hp' amb'=>hp'=Hs i∧amb'=As i∧Ps i
 let Stop:bq→Prop:=fun _=>False
 let u:Value:=.func (.yield l) #[] #[]
 have hy:∀ (i:Nat) (x:List AV),xs[i]?=some x→zR T tab one u x (J i) (CS (J (i+1)) Stop):=by
  intro i x hx hp xs' hld E1 base1 H w us hr hw ha
  have hwu:w=u:=by
   cases hw with
   | d h=>cases h;rfl
  subst hwu;obtain ⟨hlow,hl,E',b',hp',amb',H',⟨rfl,rfl,hPi⟩,q2,q3,q4,⟨q5,q5'⟩,q6,q7,q8,q9⟩:=hr.aF;obtain ⟨hxl,hround⟩:=hround i x hx hPi;refine ⟨.yield l ([]++us),rfl,?_⟩;rw [List.nil_append];have hln:l < H.n:=hr.sn _ (hlow _ (qq6 _))
  let X2:Nat→Prop:=fun k=>E'.X k∨(k < H.n∧¬ E1.S k)
  have hv:aX {E' with X:=X2} base1 (Hs i) (As i) H:=q2.view hr.wf q4 (fun k h=>.inl h) (fun k h=>by
    rcases h with h|h
    ·exact .inl h
    ·by_cases hk:k < H'.n
     ·exact .inl ((q6 k hk).resolve_left h.2)
     ·exact .inr (by omega)) (fun k h=>h.elim (fun h=>Nat.lt_of_lt_of_le (q2.xn k h) q4) And.left)
   (fun k hk h=>by
    rcases h with h|h
    ·exact q8 k ((q6 k hk).resolve_right h) (fun e=>h (e ▸ q5))
    ·exact q8 k (q7 k h) (fun e=>q5' (e ▸ h))) (fun k hk=>hr.pQ k (.inr (q9 k (hk.imp id .inl)))) hr.bn
  have f0:lF st.hp.length 0 E st.hp s.hp {E' with X:=X2} (Hs i) H:=⟨Nat.le_trans q3.n q4,q3.Af,q3.own,q3.d,fun k h=>by
    rcases h with h|h
    ·exact q3.x k h
    ·by_cases hk:k < s.hp.n
     ·exact absurd (hlow k (Nat.le_of_lt hk)) h.2
     ·exact .inr (by omega),fun k h=>.inl (q3.xk k h),q3.s,fun k hk h1 h2=>by rw [q8 k (hlow k (Nat.le_of_lt hk)) (by omega)];exact q3.same k hk h1 h2,by omega⟩
  let X3:Nat→Prop:=fun k=>X2 k∧¬ Own E1.ρ hp k
  have hsub:∀ k,({E' with X:=X3}:Env).O (Hs i) k→({E' with X:=X2}:Env).O (Hs i) k:=fun k h=>h.imp id And.left
  have hvL:aX {E' with X:=X3} base1 (Hs i) (As i) H:=by
   refine ⟨hv.wf,fun j b aK hj hv2=>?_,hv.inj,hv.rn,hv.fresh,hv.new,hv.sup,fun k hk hX=>hv.hH k hk hX.1,fun k hd=>⟨hv.dx k hd,fun ho=>hr.sup k ho (q7 k (q2.ds k hd))⟩,hv.ds,hv.sn,fun k hX=>hv.xn k hX.1,hv.pQ,hv.bn,hv.aF⟩
   rcases hv.gu j b aK hj hv2 with ⟨k,b',p1,p2,p3⟩|h
   ·exact .inl ⟨k,b',p1,p2,p3.mono (fun _ _ _ h=>h) fun k b hk ho=>⟨hk,fun h=>ho (hsub k h)⟩⟩
   ·exact .inr h
  have hfrm:mO E'.ρ H.get (({E' with X:=X3}:Env).O (Hs i)) st.fr s.fr:=fun t=>(f0.ar hs.h.Gy (hs.fr t)).mono (fun _ _ _ h=>h) (fun k b hk ho=>⟨hk,fun h=>ho (hsub k h)⟩)
  have hown:∀ k,Own E1.ρ hp k→¬ ({E' with X:=X3}:Env).O (Hs i) k:=fun k hk h=>by
   rcases h with h|h
   ·exact hr.sup k hk (hr.ds k (q9 k (.inl h)))
   ·exact h.2 hk
  have hargs:fI E'.ρ H.get (({E' with X:=X3}:Env).O (Hs i)) x us:=by
   refine ⟨by rw [←ha.1];exact hld.1.symm,fun i' a w' h1 h2=>?_⟩;have hlt:i' < xs'.length:=by rw [hld.1];exact (List.getElem?_eq_some_iff.1 h1).1
   have h3:xs'[i']?=some xs'[i']:=List.getElem?_eq_getElem hlt;exact .d ((hld.2 i' _ _ h3 h1).dr hr hown (ha.2 i' _ _ h3 h2))
  obtain ⟨m1,L1,a1,a2,a3⟩:=hround {E' with X:=X3} base1 ⟨eu s.fr (ps.toList.zip us),H,true⟩ ⟨hvL,rfl,BG _ hfrm hargs⟩;have hXl2:X2 s.hp.n:=.inl q5;have hXl3:X3 s.hp.n:=⟨hXl2,fun ho=>hr.sup _ ho (hlow _ (qq6 _))⟩
  obtain ⟨m,M,hm,z1,z2⟩:=fE (one:=one) (L:=L1) (f:=fun m (p:Exit × St)=>cP T (RX T tab m) l bd p) (P:=fun r=>∃ w H',r=.ret w H'∧∃ E5 a hp5 amb5,(hp5=hp∧∃ b,a=.fl (.bool b)∧CS (J (i+1)) Stop b amb5)∧aX E5 base1 hp5 amb5 H'∧AR E5.ρ H'.get (E5.O hp5) a w∧lF hp.length base1 E1 hp H E5 hp5 H')
   (fun n m x M hnm hx=>wB (gZ hnm) hx) m1 a2 (fun p hp0=>by
    obtain ⟨E2,st2,k1,k2,k3,k4⟩:=a3 p hp0;obtain ⟨e,p⟩:=p
    cases e with
    | normal =>
     obtain ⟨hrd2,hbd⟩:=k1;have gl:p.hp.get l=some blkR:=by rw [k4.same l hln (fun h=>hvL.hH _ h hXl3) (fun h=>q5' (q2.ds _ h))];exact hl
     have hl2:l < p.hp.n:=Nat.lt_of_lt_of_le hln k4.n;have hX2l:E2.X l:=k4.xk l hXl3
     have hS2l:¬ E2.S l:=fun h=>by
      rcases k4.s l h with h|h
      ·exact q5' h
      ·have:H.n≤l:=h;omega
     let bB:bx:=.loop .busy none s.fr ps az bd
     have hv2:aX E2 base1 st2.hp st2.aF (p.hp.put l bB):=k3.h.view (X':=E2.X) (fun k hk=>by
       have hk:p.hp.n≤k:=hk
       rw [bU (by omega)];exact k3.h.wf k hk) (qq6 _) (fun _ h=>h) (fun _ h=>.inl h) k3.h.xn (fun k hk h=>bU fun e=>by
       subst e
       exact h.elim (fun h=>h hX2l) hS2l) k3.h.pQ k3.h.bn
     have har2:mO E2.ρ (p.hp.put l bB).get (E2.O st2.hp) st2.fr p.fr:=fun t=>(k3.fr t).mono (fun _ _ _ h=>h) (fun k b hk ho=>⟨by rw [bU (fun e=>by subst e;exact ho (.inr hX2l))];exact hk,ho⟩);obtain ⟨m2,L2,b1,b2,b3⟩:=hbd E2 base1 ⟨p.fr,p.hp.put l bB,true⟩ ⟨hv2,hrd2.symm,har2⟩
     have F1:lF st.hp.length base1 {E' with X:=X3} (Hs i) (H.put l bB) E2 st2.hp (p.hp.put l bB):=⟨k4.n,k4.Af,k4.own,k4.d,k4.x,k4.xk,k4.s,fun k hk h1 h2=>by
       by_cases hkl:k=l
       ·subst hkl;rw [hU,hU]
       ·rw [bU hkl,bU hkl];exact k4.same k hk h1 h2,by
       have h5:min H.lo base1≤p.hp.lo:=k4.lo;have h3:(H.put l bB).lo=min H.lo l:=rfl;have h4:(p.hp.put l bB).lo=min p.hp.lo l:=rfl
       omega⟩
     have back:∀ {E4:Env} {amb4:bq} {q:St} (blk':bx) {Q':List AB→bq→Prop},aX E4 base1 (Hs (i+1)) amb4 q.hp→lF st.hp.length base1 E2 st2.hp (p.hp.put l bB) E4 (Hs (i+1)) q.hp→Q' (Hs (i+1)) amb4 →
       ∃ E5,aX E5 base1 hp (LP blk' Q') (q.hp.put l blk')∧lF hp.length base1 E1 hp H E5 hp (q.hp.put l blk'):=by
      intro E4 amb4 q blk' Q' h4 f4 hQ;have ft:=F1.trans f4
      have h4':aX {E4 with X:=fun k=>E4.X k∨X2 k} base1 (Hs (i+1)) amb4 q.hp:=by
       refine ⟨h4.wf,fun j b aK hj hv2=>?_,h4.inj,h4.rn,h4.fresh,h4.new,h4.sup,fun k hk hX=>?_,fun k hd=>.inl (h4.dx k hd),h4.ds,h4.sn,fun k hX=>?_,h4.pQ,h4.bn,h4.aF⟩
       ·rcases h4.gu j b aK hj hv2 with ⟨k,b',p1,p2,p3⟩|h
        ·exact .inl ⟨k,b',p1,p2,BR.flat (List.all_eq_true.1 (hflat (i+1)) b (List.mem_of_getElem? hj)) p3⟩
        ·exact .inr h
       ·rcases hX with hX|hX
        ·exact h4.hH k hk hX
        ·rcases ft.own k hk with h5|h5
         ·exact hv.hH k h5 hX
         ·have:H.n≤k:=h5;have:=hv.xn k hX;omega
       ·rcases hX with hX|hX
        ·exact h4.xn k hX
        ·exact Nat.lt_of_lt_of_le (hv.xn k hX) ft.n
      have f4':lF st.hp.length base1 {E' with X:=X2} (Hs i) (H.put l bB) {E4 with X:=fun k=>E4.X k∨X2 k} (Hs (i+1)) q.hp :=
       ⟨ft.n,ft.Af,ft.own,ft.d,fun k h=>by
        rcases h with h|h
        ·exact (ft.x k h).imp And.left id
        ·exact .inl h,fun k h=>.inr h,ft.s,ft.same,ft.lo⟩
      exact EV (E:={E' with X:=X2}) hr (fun k hk=>by
        by_cases hs1:E1.S k
        ·exact .inl hs1
        ·exact .inr (.inr ⟨hk,hs1⟩)) hXl2 q5' q7 q9 hlow f0 h4' f4' hQ
     refine ⟨max m2 0,?_⟩
     obtain ⟨m3,M3,hm3,y1,y2⟩:=fE (one:=one) (L:=L2) (f:=fun _ (q:Exit × St)=>iC l q) (P:=fun r=>∃ w H',r=.ret w H'∧∃ E5 a hp5 amb5,(hp5=hp∧∃ b,a=.fl (.bool b)∧CS (J (i+1)) Stop b amb5)∧aX E5 base1 hp5 amb5 H'∧AR E5.ρ H'.get (E5.O hp5) a w∧lF hp.length base1 E1 hp H E5 hp5 H')
      (fun _ _ _ _ _ h=>h) 0 b2 (fun q hq=>by
       obtain ⟨E3,st3,j1,j2,j3,j4⟩:=b3 q hq;obtain ⟨e,q⟩:=q;have gl2:q.hp.get l=some bB:=by rw [j4.same l hl2 (fun h=>hv2.hH _ h hX2l) (fun h=>hS2l (hv2.ds _ h))];exact hU
       have jfl:st2.fl=st.hp.length:=k2
       cases e with
       | normal =>obtain ⟨hPn,fr',hwk⟩:=j1;obtain ⟨E4,h4,f4⟩:=hwk.MA j3;rw [j2,jfl] at f4;rw [jfl] at j4;obtain ⟨E5,x1,x2⟩:=back (q:=q) (.loop .ready none s.fr ps az bd) (Q':=fun hp' amb'=>hp'=Hs (i+1)∧amb'=As (i+1)∧Ps (i+1)) h4 (j4.trans f4) ⟨rfl,rfl,hPn⟩;exact ⟨0,[.ret (.bool true) (q.hp.put l (.loop .ready none s.fr ps az bd))],by unfold iC;simp only [gl2,bB],.single ⟨_,_,rfl,E5,.fl (.bool true),hp,_,⟨rfl,true,rfl,.inl ⟨rfl,rfl⟩⟩,x1,.d (.fl rfl),x2⟩⟩
       | _=>exact j1.elim)
     refine ⟨M3,?_,y2⟩;unfold cP;simp only [gl,blkR];rw [dV (gZ (Nat.le_max_left m2 0)) _ _ _ b1];exact y1
    | _=>exact k1.elim)
  refine ⟨m+1,M,?_,z2⟩;show RX T tab (m+1) (.round l us H)=_;rw [Gg,nM,hl];simp only [blkR];rw [show Nat.beq us.length ps.toList.length=true by rw [←ha.1,hld.1,hxl];exact Nat.beq_refl _];simp only [cond_true];rw [dV (gZ hm) _ _ _ a1];exact z1
 let E1:Env:=⟨fun _ _=>none,fun k=>Own E.ρ st.hp k∨E.D k∨k=l,fun k=>k≤l,fun k=>Own E.ρ st.hp k∨E.X k∨k=l⟩
 have hno:∀ k,¬ Own E1.ρ [] k:=fun k ⟨j,b,aK,h,_⟩=>by cases h
 have hwf1:Wf (s.hp.push blkR):=(cR.push s.hp blkR).wf hs.h.wf
 have hrel1:aX E1 base [] (J 0) (s.hp.push blkR) :=
  {wf:=hwf1,gu:=fun j b aK h _=>(by cases h),inj:=fun j j' aK ver' k h=>(by cases h),rn:=fun j v k h=>(by cases h),fresh:=fun j b aK v h=>(by cases h),new:=fun _ _ _=>rfl,
   sup:=fun k h=>(hno k h).elim,hH:=fun k h=>(hno k h).elim,dx:=fun k h=>h.imp id (fun h=>h.imp (hs.h.dx k) id),
   ds:=fun k h=>by
    rcases h with h|h|h
    ·exact Nat.le_of_lt (hs.h.nW h)
    ·exact Nat.le_of_lt (hs.h.sn k (hs.h.ds k h))
    ·exact Nat.le_of_eq h
   sn:=fun k h=>Nat.lt_succ_of_le h
   xn:=fun k h=>by
    show k < s.hp.n+1
    rcases h with h|h|h
    ·exact Nat.lt_succ_of_lt (hs.h.nW h)
    ·exact Nat.lt_succ_of_lt (hs.h.xn k h)
    ·have:k=s.hp.n:=h;omega
   pQ:=fun k h=>by
    rcases h with h|h|h|h
    ·exact (hno k h).elim
    ·exact hs.h.pQ k (.inl h)
    ·exact hs.h.pQ k (.inr h)
    ·rw [h];exact hs.h.bn
   bn:=Nat.le_succ_of_le hs.h.bn
   aF:=by
    refine ⟨fun k h=>h,iP,{E with X:=fun k=>E.X k∨k=s.hp.n},base,st.hp,st.aF,s.hp.push blkR,⟨h0.symm,ha0.symm,hp0⟩,hs.h.view hwf1 (Nat.le_succ _) (fun k h=>.inl h) (fun k h=>h.imp id (fun h=>Nat.le_of_eq h.symm)) (fun k h=>?_) (fun k hk _=>ct hk) hs.h.pQ (Nat.le_succ_of_le hs.h.bn),
     ⟨Nat.le_succ _,fun _ _ _ _ h=>h,fun _ h=>.inl h,fun _ h=>.inl h,fun k h=>h.imp id (fun h=>Nat.le_of_eq h.symm),fun _ h=>.inl h,fun _ h=>.inl h,fun k hk _ _=>ct hk,by omega⟩,qq6 _,⟨.inr rfl,fun h=>Nat.lt_irrefl _ (hs.h.sn _ h)⟩,fun k hk=>.inl (Nat.le_of_lt_succ hk),fun k h=>Nat.le_of_lt (hs.h.sn k h),fun _ _ _=>rfl,fun k h=>h⟩
    show k < s.hp.n+1
    rcases h with h|h
    ·exact Nat.lt_succ_of_lt (hs.h.xn k h)
    ·omega}
 have hFv:=lD hs.fr f;have hdF:=hFv.deep hdeep
 have hF1:AR E1.ρ (s.hp.push blkR).get (E1.O []) (bg st.fr f) (bh s.fr f):=.d (hdF.mono fun k b hk ho=>by
  have hlt:=hs.h.wf.lt hk;refine ⟨by rw [ct hlt];exact hk,fun h=>?_⟩
  rcases h with h|h|h|h
  ·exact hno k h
  ·exact ho (.inl h)
  ·exact ho (.inr h)
  ·have:k=s.hp.n:=h;omega)
 obtain ⟨goal,hgo,m,L,c1,c2,c3⟩:=hgen u J Stop hy E1 base (s.hp.push blkR) _ [u] hrel1 hF1 (.cons (.d (.oq rfl)) .nil)
 have hgfn:∃ az',goal=.fn gf az':=by
  rw [hF] at hdF;generalize bh s.fr f=fv at hdF hgo
  cases hdF with
  | fn _ _ _ _=>exact ⟨_,by cases hgo;rfl⟩
 obtain ⟨az',rfl⟩:=hgfn
 obtain ⟨m',M,hm,z1,z2⟩:=fE (one:=one) (L:=L) (f:=fun _ (r:eH)=>lO l s.fr s.rd r) (P:=fun p=>rF E base st s (K p.1) p.2) (fun _ _ _ _ _ h=>h) m c2 (fun r hr=>by
  obtain ⟨w,H2,rfl,E2,a,hp2,amb2,k1,k2,k3,k4⟩:=c3 r hr
  have fin:∀ {gu:bx} (blk':bx) {Q:List AB→bq→Prop} {e:Exit},amb2=LP gu Q→(∀ hp' amb',Q hp' amb'→K e ⟨st.fr,hp',amb',st.rd,st.fl⟩)→H2.get l=some gu∧rF E base st s (K e) ⟨s.fr,H2.put l blk',s.rd⟩:=by
   intro gu blk' Q e ha hQ;subst ha;obtain ⟨hlow,hl,E',b',hp',amb',H',q1,q2,q3,q4,⟨q5,q5'⟩,q6,q7,q8,q9⟩:=k2.aF;have hln:l < H2.n:=k2.sn _ (hlow _ (qq6 _));have hbl:base≤l:=k2.pQ _ (.inr (q9 _ (.inr (.inr rfl))));have hg2:∀ k,E2.S k→k ≠ l→(H2.put l blk').get k=H'.get k:=fun k h1 h2=>by rw [bU h2];exact q8 k h1 h2
   have hfin:aX {E' with X:=fun k=>E'.X k∨(k < H2.n∧¬ E2.S k)} base hp' amb' (H2.put l blk'):=q2.view (fun k hk=>by
      have hk:H2.n≤k:=hk
      rw [bU (by omega)];exact k2.wf k hk) q4 (fun k h=>.inl h) (fun k h=>by
     rcases h with h|h
     ·exact .inl h
     ·by_cases hk:k < H'.n
      ·exact .inl ((q6 k hk).resolve_left h.2)
      ·exact .inr (by omega)) (fun k h=>h.elim (fun h=>Nat.lt_of_lt_of_le (q2.xn k h) q4) And.left)
    (fun k hk h=>by
     rcases h with h|h
     ·exact hg2 k ((q6 k hk).resolve_right h) (fun e=>h (e ▸ q5))
     ·exact hg2 k (q7 k h) (fun e=>q5' (by have e:k=s.hp.n:=e;rw [←e];exact h))) (fun k hk=>k2.pQ k (.inr (q9 k (hk.imp id .inl)))) k2.bn
   have ff:lF st.hp.length base E st.hp s.hp {E' with X:=fun k=>E'.X k∨(k < H2.n∧¬ E2.S k)} hp' (H2.put l blk'):=⟨Nat.le_trans q3.n q4,q3.Af,q3.own,q3.d,fun k h=>by
     rcases h with h|h
     ·exact q3.x k h
     ·by_cases hk:k < s.hp.n
      ·exact absurd (hlow k (Nat.le_of_lt hk)) h.2
      ·exact .inr (by omega),fun k h=>.inl (q3.xk k h),q3.s,fun k hk h1 h2=>by rw [hg2 k (hlow k (Nat.le_of_lt hk)) (Nat.ne_of_lt hk)];exact q3.same k hk h1 h2,by
     have h1:=k4.lo;have h2:(s.hp.push blkR).lo=s.hp.lo:=rfl;have h3:(H2.put l blk').lo=min H2.lo l:=rfl
     omega⟩
   exact ⟨hl,_,⟨st.fr,hp',amb',st.rd,st.fl⟩,hQ _ _ q1,rfl,⟨hfin,hs.rd,fun t=>ff.ar hs.h (hs.fr t)⟩,ff.low hs.h _⟩
  rcases k1 with k1|k1
  ·obtain ⟨g1,g2⟩:=fin (.loop .exhausted none s.fr ps az bd) (e:=.normal) k1 (fun hp' amb' ⟨h1,h2,h3⟩=>by subst h1;subst h2;exact hend h3);exact ⟨0,[(.normal,⟨s.fr,H2.put l (.loop .exhausted none s.fr ps az bd),s.rd⟩)],by unfold lO;simp only [g1,blkR],.single g2⟩
  ·exact k1.elim)
 refine ⟨m',M,?_,z2⟩;rw [kP];unfold mg;have hgo':cz (bh s.fr f) [Value.func (Fn.yield s.hp.n) #[] #[]]=some (.fn gf az'):=hgo;simp only [hgo'];have:RX T tab m' (.call gf az' (s.hp.push (.loop .ready none s.fr ps az bd)))=some L:=gZ hm _ _ c1;rw [this];exact z1
end
end Go.RM
set_option autoImplicit false
namespace Go.RM
set_option maxRecDepth 100000
variable {T : bG} {tab : List XE} {one : Bool}
end Go.RM
namespace Go.RM
open Go
section
variable {T : bG} {own : Bool} {fr : Nat → AV} {hp : List AB} {K : AV → List AB → Prop} {t u e : TypeId} {a1 a2 a3 a4 a5 a6}
theorem M8 {l c:Operand} {n:Nat} {inf:uf} (hi:elem? T t=some inf) (hl:bg fr l=.fl (.int .i64 ((0:Nat):Int))) (hc:bg fr c=.fl (.int .i64 (n:Int))) (h0:0 < n) (hb:inf.bytes * n≤140737488355328∧n≤9223372036854775807) (hz:bL inf=true) (h:K (.aJ hp.length 0 0 0 (n+3)) (hp++[.cells ((bV (zeroCells inf) (n * inf.size)).map .fl) inf.size 0])):wpOp T own (.makeSlice t l c) fr hp K:=by show qj T t (bg fr l) (bg fr c) hp K;unfold qj;simp only [hi,hl,hc];refine ⟨0,n,rfl,rfl,⟨qq5 _,hb⟩,hz,?_⟩;obtain ⟨m,rfl⟩:∃ m,n=m+1:=⟨n - 1,by omega⟩;exact h
theorem MM {s x:Operand} {j aK o n c es:Nat} {cs:List AV} {els:List (List AV)} {f:Bool} {inf:uf} (hs:bg fr s=.aJ j aK o n c) (hx:bg fr x=.sl els f) (hu:T.ty.get u=some ⟨.slice e,a1,a2,a3,a4,a5,a6⟩) (hi:elem? T t=some inf) (hz:bL inf=true)
  (hel:∀ el ∈ els,el.length=inf.size) (h1:els.flatten.all AV.one=true) (hj:hp[j]?=some (.cells cs es aK)) (hne:els ≠ []) (hr:n+els.length+3≤c) (hl:o+(n+els.length) * inf.size≤cs.length∧0 < cs.length) (hb:(n+els.length) * inf.bytes≤140737488355328∧n+els.length≤9223372036854775807)
  (hk:K (.aJ j aK o (n+els.length) c) (hp.set j (.cells (aQ cs els.flatten (o+n * inf.size)) es aK))):wpOp T own (.call ⟨.builtin .append,[s,x].toArray,[t,u].toArray⟩) fr hp K:=by
 show force (bg fr s) fun a=>force (bg fr x) fun b=>gL T own .append [a,b] [t,u] hp K;rw [hs,hx];show (match T.ty.get u with|some ⟨.slice _,_,_,_,_,_,_⟩=>jg T own t (.aJ j aK o n c) (.sl els f) hp K|_=>False);rw [hu];show jg T own t (.aJ j aK o n c) (.sl els f) hp K;unfold jg;rw [hi];have:=List.length_pos_iff.2 hne;exact ⟨hz,els,⟨hel,rfl⟩,h1,.inr ⟨cs,es,hj,⟨by omega,hr,hl⟩,hb,fun h=>absurd h hne,fun _=>hk⟩⟩
theorem Jt {x hi:Operand} {j aK o n c h:Nat} {inf:uf} (hx:bg fr x=.aJ j aK o n c) (hh:bg fr hi=.fl (.int .i64 (h:Int))) (hi':elem? T t=some inf) (hb:h < n∧n+3≤c) (h1:1≤inf.size) (k:K (.aJ j aK o h c) hp):wpOp T own (.slice t x none (some hi) none) fr hp K:=by show mS T t (bg fr x) none (some (bg fr hi)) hp K;rw [hx,hh];unfold mS;simp only [hi'];refine ⟨0,h,rfl,rfl,⟨qq5 _,Nat.le_of_lt hb.1⟩,h1,?_⟩;rw [show Nat.beq h n=false from uM (by omega),show Nat.ble (n+3) c=true from Nat.ble_eq_true_of_le hb.2,Nat.zero_mul];exact k
theorem MN {d x:Operand} {j aK o n c es:Nat} {cs:List AV} {els:List (List AV)} {f:Bool} {inf:uf} (hd:bg fr d=.aJ j aK o n c) (hx:bg fr x=.sl els f) (hi:elem? T t=some inf) (hel:∀ el ∈ els,el.length=inf.size) (h1:els.flatten.all AV.one=true)
  (hj:hp[j]?=some (.cells cs es aK)) (hb:1≤n∧els.length≤n∧0 < cs.length) (hl:o+n * inf.size≤cs.length) (k:K (.fl (.int .i64 (Int.ofNat els.length))) (hp.set j (.cells (aQ cs els.flatten o) es aK))):wpOp T own (.call ⟨.builtin .copy,[d,x].toArray,[t,u].toArray⟩) fr hp K:=by
 show force (bg fr d) fun a=>force (bg fr x) fun b=>gL T own .copy [a,b] [t,u] hp K;rw [hd,hx];show wk T t (.aJ j aK o n c) (.sl els f) hp K;unfold wk;rw [hi];exact ⟨els,cs,es,⟨hel,rfl⟩,h1,hj,hb,hl,k⟩
end
end Go.RM
namespace Go.RM
open Go
section
variable {T : bG} {own : Bool} {fr : Nat → AV} {hp : List AB} {K : AV → List AB → Prop} {t u e : TypeId} {a1 a2 a3 a4 a5 a6}
theorem MO {s x:Operand} {j aK n c j2 v2 o2 m2 c2:Nat} {els:List (List AV)} {cs:List AV} {inf:uf} (hs:bg fr s=.aJ j aK 0 n c) (hx:bg fr x=.aJ j2 v2 o2 m2 c2) (hu:T.ty.get u=some ⟨.slice e,a1,a2,a3,a4,a5,a6⟩) (hi:elem? T t=some inf) (hz:bL inf=true) (he:tU hp inf.size (.aJ j2 v2 o2 m2 c2) els)
  (h1:els.flatten.all AV.one=true) (hj:hp[j]?=some (.cells cs inf.size aK)) (hl:cs.length=n * inf.size) (hc:c=n∨c=n+1) (hb:(n+els.length) * inf.bytes≤140737488355328∧n+els.length≤9223372036854775807)
  (hk:∀ v c',(c'=n+els.length∨c'=n+els.length+1)→K (.aJ j v 0 (n+els.length) c') (hp.set j (.cells (cs++els.flatten) inf.size v))):wpOp T own (.call ⟨.builtin .append,[s,x].toArray,[t,u].toArray⟩) fr hp K:=by
 show force (bg fr s) fun a=>force (bg fr x) fun b=>gL T own .append [a,b] [t,u] hp K;rw [hs,hx];show (match T.ty.get u with|some ⟨.slice _,_,_,_,_,_,_⟩=>jg T own t (.aJ j aK 0 n c) (.aJ j2 v2 o2 m2 c2) hp K|_=>False);rw [hu];show jg T own t (.aJ j aK 0 n c) (.aJ j2 v2 o2 m2 c2) hp K;unfold jg;rw [hi];obtain ⟨els',q1,q2,q3⟩:=DM (hp:=hp) (K:=K) (x:=.aJ j2 v2 o2 m2 c2) he h1 hj hl hc hb hk;exact ⟨hz,els',q1,q2,.inl ⟨rfl,q3⟩⟩
end
end Go.RM
namespace Go.RM
open Go
theorem Dg (P:Program) {t:TypeId} {x y:Operand} {m n:Int}:(∃ z:Nat,z < 18446744073709551616∧dQ P .xor t x y (.int .u64 m) (.int .u64 n)=some (.int .u64 (z:Int),.none))∧(∃ z:Nat,z < 18446744073709551616∧dQ P .shl t x y (.int .u64 m) (.int .u64 13)=some (.int .u64 (z:Int),.none))∧(∃ z:Nat,z < 18446744073709551616∧dQ P .shl t x y (.int .u64 m) (.int .u64 17)=some (.int .u64 (z:Int),.none)):=by
 have w:∀ k:Int,∃ z:Nat,z < 18446744073709551616∧IntKind.wrap .u64 k=(z:Int):=fun k=>by refine ⟨(k % 18446744073709551616).toNat,by omega,?_⟩;show k % 18446744073709551616=_;omega
 refine ⟨?_,?_,?_⟩
 ·obtain ⟨z,h1,h2⟩:=w ((BitVec.ofInt 64 m ^^^ BitVec.ofInt 64 n).toNat:Int);exact ⟨z,h1,by rw [←h2];rfl⟩
 ·obtain ⟨z,h1,h2⟩:=w (m * 2 ^ 13);exact ⟨z,h1,by rw [←h2];rfl⟩
 ·obtain ⟨z,h1,h2⟩:=w (m * 2 ^ 17);exact ⟨z,h1,by rw [←h2];rfl⟩
section
variable {T : bG} {a b : AV} {t : TypeId} {x y : Operand} {hp : List AB} {K : AV → List AB → Prop}
theorem MW {m n:Int} (ha:a=.fl (.int .u64 m)) (hb:b=.fl (.int .u64 n)) (h:∀ z:Nat,z < 18446744073709551616→K (.fl (.int .u64 (z:Int))) hp):aU T .xor t x y a b hp K:=by subst ha hb;obtain ⟨z,h1,h2⟩:=(Dg T.P (t:=t) (x:=x) (y:=y) (m:=m) (n:=n)).1;exact ⟨_,_,rfl,rfl,.int .u64 (z:Int),h2,rfl,h z h1⟩
theorem LB {m:Int} (ha:a=.fl (.int .u64 m)) (hb:b=.fl (.int .u64 13)) (h:∀ z:Nat,z < 18446744073709551616→K (.fl (.int .u64 (z:Int))) hp):aU T .shl t x y a b hp K:=by subst ha hb;obtain ⟨z,h1,h2⟩:=(Dg T.P (t:=t) (x:=x) (y:=y) (m:=m) (n:=m)).2.1;exact ⟨_,_,rfl,rfl,.int .u64 (z:Int),h2,rfl,h z h1⟩
theorem LC {m:Int} (ha:a=.fl (.int .u64 m)) (hb:b=.fl (.int .u64 17)) (h:∀ z:Nat,z < 18446744073709551616→K (.fl (.int .u64 (z:Int))) hp):aU T .shl t x y a b hp K:=by subst ha hb;obtain ⟨z,h1,h2⟩:=(Dg T.P (t:=t) (x:=x) (y:=y) (m:=m) (n:=m)).2.2;exact ⟨_,_,rfl,rfl,.int .u64 (z:Int),h2,rfl,h z h1⟩
theorem MX {m:Nat} (ha:a=.fl (.int .u64 (m:Int))) (hb:b=.fl (.int .u64 7)) (h:∀ z:Nat,z < 18446744073709551616→K (.fl (.int .u64 (z:Int))) hp) (hm:m < 18446744073709551616):aU T .shr t x y a b hp K:=by
 subst ha hb;have e:dQ T.P .shr t x y (.int .u64 (m:Int)) (.int .u64 7)=some (.int .u64 ((m:Int).fdiv (2 ^ 7)),.none):=rfl;have e2:(m:Int).fdiv (2 ^ 7)=((m / 128:Nat):Int):=by rw [Int.fdiv_eq_ediv_of_nonneg _ (Int.pow_nonneg (by decide))];omega
 rw [e2] at e;exact ⟨_,_,rfl,rfl,.int .u64 ((m / 128:Nat):Int),e,rfl,h _ (by omega)⟩
end
theorem qq1 {T tab one c st K} (h:kC T tab one (fun _=>false) c st K):aB T tab one c st K:=aa h
theorem qq2 {T tab one a b st K} (h:kC T tab one (fun _=>false) a st (sM (fun s=>aB T tab one b s K) K)):aB T tab one (.seq a b) st K:=i4 h
theorem qq3 {T tab one F l hp a Q} (h:au T tab one F l hp a Q):au T tab one F l hp a Q:=h
theorem qq4 {T own t x i fr hp K} (h:RM.wpOp T own (.indexAddr t x i) fr hp K):RM.wpOp T own (.indexAddr t x i) fr hp K:=h
end Go.RM
