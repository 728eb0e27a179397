/-
  A layer of contracts over the abstract machine. Lemmas alone; no condition.
-/
import Derived.Test.YtkappgolfkiaeaaGreatDoorR4
namespace Go.RM
open Go
abbrev Rec:=qW→Option (List gL)
def iY (a b:Rec):Prop:=∀ j L,a j=some L→b j=some L
section
variable {T : bL} {a b : Rec}
theorem kK {α β:Type} {f g:α→Option (List β)} (h:∀ x M,f x=some M→g x=some M):∀ {L:List α} {M:List β},dj L f=some M→dj L g=some M
 | [],M,e=>by rw [yY] at e ⊢;exact e
 | [x],M,e=>by rw [fP] at e ⊢;exact h _ _ e
 | x :: y :: l,M,e=>by
  rw [kE] at e ⊢
  cases hx:f x with
  | none=>rw [hx] at e;cases e
  | some X =>rw [hx] at e;simp only [Option.map_eq_some_iff] at e;obtain ⟨Y,hY,rfl⟩:=e;rw [h _ _ hx];simp only [kK h hY,Option.map_some]
theorem Iw (h:iY a b) {o:Op} {st:St} {L:List (Value × Hp)} (e:gk T a o st=some L):gk T b o st=some L:=by
 unfold gk at e ⊢
 cases hk:dF o with
 | call f args =>
  rw [hk] at e;simp only at e ⊢
  cases hg:dD (mq T.P st.fr f) (args.map (aQ st.fr)) with
  | none=>rw [hg] at e;cases e
  | some g =>
   rw [hg] at e;simp only at e ⊢
   cases hr:a (jB st.hp g) with
   | none=>rw [hr] at e;cases e
   | some M=>rw [hr] at e;rw [h _ _ hr];exact e
 | next it=>rw [hk] at e;exact e
 | plain=>rw [hk] at e;exact e
theorem kL (h:iY a b) (ops:List Oper):∀ (l:List Oper) (st:St) (L:List St),bU T a ops l st=some L→bU T b ops l st=some L:=by
 intro l
 induction l with
 | nil=>intro st L e;exact e
 | cons o l ih =>
  intro st L e;rw [eJ] at e ⊢
  cases hg:bX ops st.fr o.guard with
  | false=>rw [hg] at e;exact ih _ _ e
  | true =>
   rw [hg] at e;simp only [cond_true] at e ⊢
   cases ho:gk T a o.op st with
   | none=>rw [ho] at e;cases e
   | some M =>rw [ho] at e;rw [Iw h ho];exact kK (fun x M hx=>ih _ _ hx) e
theorem zb (h:iY a b) {o:Op} {i:Nat} {st:St} {r:Value × Hp × Tc} (e:bu T a o i st=some r):bu T b o i st=some r:=by
 unfold bu at e ⊢
 cases hk:dF o with
 | call f args =>
  rw [hk] at e;simp only at e ⊢
  cases hg:dD (mq T.P st.fr f) (args.map (aQ st.fr)) with
  | none=>rw [hg] at e;cases e
  | some g =>
   rw [hg] at e;simp only at e ⊢
   cases hr:a (jB {st.hp with lo:=st.hp.n} g) with
   | none=>rw [hr] at e;cases e
   | some M=>rw [hr] at e;rw [h _ _ hr];exact e
 | next it=>rw [hk] at e;exact e
 | plain=>rw [hk] at e;exact e
theorem jG (h:iY a b) (ops:Array Oper):∀ (l:List Oper) (i:Nat) (st:St) (acc:List Ev) (L:List St),cg T a ops l i st acc=some L→cg T b ops l i st acc=some L:=by
 intro l
 induction l with
 | nil=>intro i st acc L e;exact e
 | cons o l ih =>
  intro i st acc L e;rw [bW] at e ⊢
  cases hg:bX ops.toList st.fr o.guard with
  | false=>rw [hg] at e;exact ih _ _ _ _ e
  | true =>
   rw [hg] at e;simp only [cond_true] at e ⊢
   cases ho:bu T a o.op i st with
   | none=>rw [ho] at e;cases e
   | some r=>rw [ho] at e;rw [zb h ho];exact ih _ _ _ _ e
theorem Ct (h:iY a b) {o:Op} {i:Nat} {st:St} {P:List (Value × Hp × Tc)} (e:eZ T a o i st=some P):eZ T b o i st=some P:=by
 unfold eZ at e ⊢
 cases hk:dF o with
 | call f args =>
  rw [hk] at e;simp only at e ⊢
  cases hg:dD (mq T.P st.fr f) (args.map (aQ st.fr)) with
  | none=>rw [hg] at e;cases e
  | some g =>
   rw [hg] at e;simp only at e ⊢
   cases hr:a (jB {st.hp with lo:=st.hp.n} g) with
   | none=>rw [hr] at e;cases e
   | some M=>rw [hr] at e;rw [h _ _ hr];exact e
 | next it=>rw [hk] at e;cases e
 | plain=>rw [hk] at e;cases e
theorem Iy (h:iY a b) {ops:Array Oper} {o:Oper} {i:Nat} {st:St} {P:List (Value × Hp × Tc)} (e:kC T a ops o i st=some P):kC T b ops o i st=some P:=by
 unfold kC at e ⊢
 cases hg:bX ops.toList st.fr o.guard with
 | false=>rw [hg] at e;exact e
 | true=>rw [hg] at e;exact Ct h e
theorem rX (h:iY a b) (ops:Array Oper) {K K':St→List Ev→Option (List St)} (hK:∀ st acc L,K st acc=some L→K' st acc=some L):∀ (l:List Oper) (i:Nat) (st:St) (acc:List Ev) (L:List St),gz T a ops l K i st acc=some L→gz T b ops l K' i st acc=some L:=by
 intro l
 induction l with
 | nil=>intro i st acc L e;exact hK _ _ _ e
 | cons o l ih =>
  intro i st acc L e;rw [iI] at e ⊢
  cases hg:bX ops.toList st.fr o.guard with
  | false=>rw [hg] at e;exact ih _ _ _ _ e
  | true =>
   rw [hg] at e;simp only [cond_true] at e ⊢
   cases ho:bu T a o.op i st with
   | none=>rw [ho] at e;cases e
   | some r=>rw [ho] at e;rw [zb h ho];exact ih _ _ _ _ e
theorem Iz (h:iY a b) {ops:Array Oper} {c:Nat} {st:St} {acc:List Ev} {L:List St} (e:vC T a ops c st acc=some L):vC T b ops c st acc=some L:=by obtain ⟨o,P,h1,h2,h3,h4⟩:=qF e;unfold vC;simp only [h1,Iy h h2,List.all_eq_true.2 h3,cond_true];exact kK (fun x N hx=>kL h _ _ _ _ hx) h4
theorem Cu (h:iY a b) {ops:Array Oper} {st:St} {L:List St} (e:cM T a ops st=some L):cM T b ops st=some L:=by
 rcases lV e with ⟨c,h1,h2⟩|⟨h1,M,h2,h3⟩
 ·unfold cM;rw [h1];exact rX h ops (fun _ _ _=>Iz h) _ _ _ _ _ h2
 ·unfold cM;simp only [h1,jG h _ _ _ _ _ _ h2];exact kK (fun x N hx=>kL h _ _ _ _ hx) h3
theorem uF {ops:Array Oper} {e:Ev} {acc:List Ev} (h:dX T ops (e :: acc)=true):dX T ops acc=true:=by
 have hp:=iL h;have hp:=rO hp;unfold dX
 cases (acc.all fun e=>e.t.wr.isEmpty && Nat.beq e.t.a e.t.b) with
 | true=>rfl
 | false=>exact hp
theorem uG {r:Rec} {ops:Array Oper}:∀ (l:List Oper) (i:Nat) (st:St) (acc:List Ev) (L:List St),cg T r ops l i st acc=some L→dX T ops acc=true:=by
 intro l
 induction l with
 | nil =>
  intro i st acc L h;rw [eK] at h
  cases hc:dX T ops acc with
  | true=>rfl
  | false=>rw [hc] at h;cases h
 | cons o l ih =>
  intro i st acc L h;rw [bW] at h
  cases hg:bX ops.toList st.fr o.guard with
  | false=>rw [hg] at h;exact uF (ih _ _ _ _ h)
  | true =>
   rw [hg] at h;simp only [cond_true] at h
   cases ho:bu T r o.op i st with
   | none=>rw [ho] at h;cases h
   | some p=>rw [ho] at h;exact uF (ih _ _ _ _ h)
theorem rY {r:Rec} {ops:Array Oper}:∀ (l:List Oper) (i:Nat) (st:St) (acc:List Ev) {L:List St},cg T r ops l i st acc=some L→∃ s,L=[s]:=by
 intro l
 induction l with
 | nil =>
  intro i st acc L h;rw [eK] at h
  cases hc:dX T ops acc with
  | true=>rw [hc] at h;cases h;exact ⟨_,rfl⟩
  | false=>rw [hc] at h;cases h
 | cons o l ih =>
  intro i st acc L h;rw [bW] at h
  cases hg:bX ops.toList st.fr o.guard with
  | false=>rw [hg] at h;exact ih _ _ _ h
  | true =>
   rw [hg] at h;simp only [cond_true] at h
   cases ho:bu T r o.op i st with
   | none=>rw [ho] at h;cases h
   | some p=>rw [ho] at h;exact ih _ _ _ h
theorem wC {r:Rec} {ops:Array Oper} (l2:List Oper):∀ (l1:List Oper) (i:Nat) (st:St) (acc:List Ev),cg T r ops (l1++l2) i st acc=gz T r ops l1 (fun st acc=>cg T r ops l2 (i+l1.length) st acc) i st acc:=by
 intro l1
 induction l1 with
 | nil=>intro i st acc;rfl
 | cons o l ih =>intro i st acc;rw [List.cons_append,bW,iI,List.length_cons,show i+(l.length+1)=i+1+l.length by omega];simp only [ih]
theorem zc {r:Rec} {ops:Array Oper} {s':St}:∀ (l:List Oper) (i:Nat) (st:St) (acc:List Ev),l.all plainO=true→cg T r ops l i st acc=some [s']→bU T r ops.toList l st=some [s']:=by
 intro l
 induction l with
 | nil =>
  intro i st acc _ h;rw [eK] at h
  cases hc:dX T ops acc with
  | true=>rw [hc] at h;exact h
  | false=>rw [hc] at h;cases h
 | cons o l ih =>
  intro i st acc hp h;rw [List.all_cons,qq7] at hp;rw [bW] at h;rw [eJ]
  cases hg:bX ops.toList st.fr o.guard with
  | false=>rw [hg] at h;exact ih _ _ _ hp.2 h
  | true =>
   rw [hg] at h;simp only [cond_true] at h ⊢
   have hk:dF o.op=.plain:=by
    have:=hp.1;unfold plainO at this;split at this
    ·assumption
    ·cases this
   cases ho:bu T r o.op i st with
   | none=>rw [ho] at h;cases h
   | some p =>
    obtain ⟨v,hp',t⟩:=p;rw [ho] at h;unfold bu at ho;rw [hk] at ho;simp only at ho;split at ho
    ·rename_i ef _ hop;cases ho;have:gk T r o.op st=some [(v,st.hp.app ef)]:=by unfold gk;simp only [hk,hop]
     rw [this];exact ih _ _ _ hp.2 h
    ·cases ho
theorem GU {ops:Array Oper} {c:Nat} (h:vB ops=some c):fR ops=ops.toList.length:=by
 unfold vB at h;unfold fR;split at h
 ·cases h
 ·rename_i hn;simp only
theorem oJ {r:Rec} {ops:Array Oper} {st s':St} (ht:fR ops=ops.toList.length) (h:cg T r ops ops.toList 0 st []=some [s']):cM T r ops st=some [s']:=by
 unfold cM
 cases hn:vB ops with
 | none =>simp only;rw [ht,List.take_length,List.drop_length,h];rfl
 | some c =>
  show Fw T r ops c st=some [s'];unfold vB at hn;split at hn
  ·cases hn
  ·have hb:=List.find?_some hn;unfold PF at hb;rw [qq7,qq7] at hb;obtain ⟨⟨h1,_⟩,h3⟩:=hb;split at h1
   ·rename_i o ho;have hlt:c < ops.toList.length:=(List.getElem?_eq_some_iff.1 ho).1;have hs:ops.toList=ops.toList.take c++o :: ops.toList.drop (c+1):=by have e:=List.getElem?_eq_some_iff.1 ho;rw [←e.2,List.getElem_cons_drop,List.take_append_drop]
    have h':cg T r ops (ops.toList.take c++o :: ops.toList.drop (c+1)) 0 st []=some [s']:=by rw [←hs];exact h
    rw [wC] at h';have hcl:(ops.toList.take c).length=c:=by rw [List.length_take];omega
    rw [hcl,Nat.zero_add] at h';refine rX (fun _ _ e=>e) ops (fun s acc L e=>?_) _ _ _ _ _ h';rw [bW] at e;unfold vC kC
    cases hg:bX ops.toList s.fr o.guard with
    | false =>rw [hg] at e;simp only [cond_false] at e;obtain ⟨s2,rfl⟩:∃ s2,L=[s2]:=rY _ _ _ _ e;simp only [ho,hg,cond_false,List.all_cons,List.all_nil,Bool.and_true];rw [uG _ _ _ _ _ e];simp only [cond_true];rw [fP];exact zc _ _ _ _ h3 e
    | true =>
    rw [hg] at e;simp only [cond_true] at e
    cases hd:bu T r o.op c s with
    | none=>rw [hd] at e;cases e
    | some p =>
     obtain ⟨v,hp,t⟩:=p;rw [hd] at e;simp only at e;obtain ⟨s2,rfl⟩:∃ s2,L=[s2]:=rY _ _ _ _ e
     have hm:eZ T r o.op c s=some [(v,hp,t)]:=by
      have hk:∃ f as,dF o.op=.call f as:=by
       unfold HT at h1;split at h1
       ·rename_i e1;rw [e1];exact ⟨_,_,rfl⟩
       ·cases h1
      obtain ⟨f,as,hk⟩:=hk;unfold bu at hd;unfold eZ;simp only [hk] at hd ⊢;split at hd
      ·rename_i g hg;split at hd
       ·rename_i v0 hp0 hr;simp only [hr];rw [fP];show some [kB c s v0 hp0]=_;rw [Option.some.inj hd]
       ·cases hd
      ·cases hd
     simp only [ho,hg,cond_true,hm,List.all_cons,List.all_nil,Bool.and_true];rw [uG _ _ _ _ _ e];simp only [cond_true];rw [fP];exact zc _ _ _ _ h3 e
   ·cases h1
theorem fj (h:iY a b):∀ (c:Code) (st:St) (L:List (Exit × St)),bM T a c st=some L→bM T b c st=some L:=by
 intro c
 induction c with
 | skip=>intro st L e;exact e
 | region id ops draw =>
  intro st L e;rw [fG] at e ⊢
  cases draw with
  | false =>
   simp only [cond_false] at e ⊢
   cases ho:bU T a ops.toList ops.toList st with
   | none=>rw [ho] at e;cases e
   | some M=>rw [ho] at e;rw [kL h _ _ _ _ ho];exact e
  | true =>
   simp only [cond_true] at e ⊢
   cases ho:cM T a ops st with
   | none=>rw [ho] at e;cases e
   | some M =>rw [ho] at e;rw [Cu h ho];exact e
 | seq c d ihc ihd =>
  intro st L e;rw [pF] at e ⊢
  cases ho:bM T a c st with
  | none=>rw [ho] at e;cases e
  | some M =>
   rw [ho] at e;rw [ihc _ _ ho];refine kK (fun p N hp=>?_) e;unfold vD at hp ⊢;split at hp
   ·exact ihd _ _ hp
   ·exact hp
 | cond c x y ihx ihy =>
  intro st L e;rw [kF] at e ⊢;split at e
  ·rename_i t ht
   cases t with
   | true=>exact ihx _ _ e
   | false=>exact ihy _ _ e
  ·cases e
 | block id c ih =>
  intro st L e;rw [lg] at e ⊢
  cases ho:bM T a c st with
  | none=>rw [ho] at e;cases e
  | some M=>rw [ho] at e;rw [ih _ _ ho];exact e
 | loop c ih =>
  intro st L e;rw [ng] at e ⊢
  cases ho:a (.loop c st) with
  | none=>rw [ho] at e;cases e
  | some M=>rw [ho] at e;rw [h _ _ ho];exact e
 | rangeFunc f ps x y ihx ihy =>
  intro st L e;rw [lu] at e ⊢;unfold mU at e ⊢;split at e
  ·rename_i g args hg
   cases ho:a (.call g args (st.hp.push (.loop .ready none st.fr ps x y))) with
   | none=>rw [ho] at e;cases e
   | some M=>rw [ho] at e;rw [h _ _ ho];exact e
  ·cases e
 | exit id=>intro st L e;exact e
 | scope c ih =>intro st L e;rw [lz] at e ⊢;obtain ⟨e1,e2⟩:=oC e;rw [ih _ _ e1];rw [e1] at e;exact e
 | label l=>intro st L e;exact e
 | goto l=>intro st L e;exact e
 | ret=>intro st L e;exact e
 | refuse y=>intro st L e;exact e
theorem IA (h:iY a b):iY (iF T a) (iF T b):=by
 intro j L e
 cases j with
 | call f args hp =>
  rw [kG] at e ⊢;split at e
  ·rename_i fn hf;split at e
   ·rename_i c hc
    cases ho:bM T a c ⟨setArgs .leaf 0 args,hp,false⟩ with
    | none=>rw [ho] at e;cases e
    | some M=>rw [ho] at e;rw [fj h _ _ _ ho];exact e
   ·cases e
  ·cases e
 | round l args hp =>
  rw [oD] at e ⊢;split at e
  ·rename_i pend fr ps as bd hl
   cases hb:Nat.beq args.length ps.toList.length with
   | false=>rw [hb] at e;cases e
   | true =>
    rw [hb] at e;simp only [cond_true] at e ⊢
    cases ho:bM T a as ⟨fc fr (ps.toList.zip args),hp,true⟩ with
    | none=>rw [ho] at e;cases e
    | some M =>
     rw [ho] at e;rw [fj h _ _ _ ho];refine kK (fun p N hp=>?_) e;unfold cX at hp ⊢;split at hp
     ·split at hp
      ·rename_i pend2 fr2 ps2 as2 bd2 hl2
       cases hq:bM T a bd ⟨p.2.fr,p.2.hp.put l (.loop .busy pend2 fr2 ps2 as2 bd2),true⟩ with
       | none=>rw [hq] at hp;cases hp
       | some M2=>rw [hq] at hp;rw [fj h _ _ _ hq];exact hp
      ·cases hp
     ·cases hp
  ·cases e
 | loop c st =>
  rw [qG] at e ⊢
  cases ho:bM T a c st with
  | none=>rw [ho] at e;cases e
  | some M =>
   rw [ho] at e;rw [fj h _ _ _ ho];refine kK (fun p N hp=>?_) e;unfold fe at hp ⊢;split at hp
   ·exact h _ _ hp
   ·exact hp
theorem N9 {tab:List XE} (h:iY a b):iY (rx tab a) (rx tab b):=by
 intro j L e
 cases j with
 | call f args H =>
  unfold rx at e ⊢;simp only at e ⊢;split at e
  ·exact e
  ·exact h _ _ e
 | round l args H=>exact h _ _ e
 | loop c st=>exact h _ _ e
end
variable {T : bL} {tab : List XE}
theorem GV (n:Nat) (j:qW):u9 tab T (n+1) j=iF T (rx tab (u9 tab T n)) j:=rfl
theorem IB (n:Nat):iY (u9 tab T n) (u9 tab T (n+1)):=by
 induction n with
 | zero=>intro j L e;cases e
 | succ n ih=>intro j L e;rw [GV] at e ⊢;exact IA (N9 ih) _ _ e
theorem MK {n m:Nat} (h:n≤m):iY (u9 tab T n) (u9 tab T m):=by
 induction h with
 | refl=>exact fun _ _ e=>e
 | step _ ih=>exact fun j L e=>IB _ _ _ (ih j L e)
noncomputable def RX (T:bL) (tab:List XE) (n:Nat):Rec:=rx tab (u9 tab T n)
theorem gH {n m:Nat} (h:n≤m):iY (RX T tab n) (RX T tab m):=N9 (MK h)
theorem ML (n:Nat) (c:Code) (st:St):RX T tab (n+1) (.loop c st)=iF T (RX T tab n) (.loop c st):=rfl
theorem IC (n:Nat) (l:Nat) (args:List Value) (H:Hp):RX T tab (n+1) (.round l args H)=iF T (RX T tab n) (.round l args H):=rfl
theorem AD (n:Nat) (f:FuncId) (args:List Value) (H:Hp):RX T tab (n+1) (.call f args H)=match look tab f args H with
 | some (v,H')=>some [.ret v H']
 | none=>iF T (RX T tab n) (.call f args H):=rfl
inductive AV where
 | fl (v:Value)
 | sl (els:List (List AV)) (full:Bool)
 | pt (cs:List AV) (o:Nat)
 | fn (f:FuncId) (first caps:List AV)
 | ag (cs:List AV)
 | tp (vs:List AV)
 | ptr (j aF o:Nat)
 | dw (j aF o n c:Nat)
 | om (j:Nat)
 | oq (u:Value)
 | cw
inductive AB where
 | cells (cs:List AV) (es aF:Nat)
 | dQ (s:ByteArray) (pos:Nat)
 | map (ents:List (AV × AV × Nat)) (clock:Nat)
 | iter (j since:Nat) (seen:List Nat) (stepped:Nat)
 | gone
def AB.ver?:AB→Option Nat
 | .cells _ _ v=>some v
 | .gone=>none
 | _=>some 0
inductive DR (g:aG) (O:Nat→Prop):AV→Value→Prop
 | fl {v:Value}:bh v=true→DR g O (.fl v) v
 | oq {u:Value} (h:RM.bH u=true):DR g O (.oq u) u
 | nil {full:Bool}:DR g O (.sl [] full) (.slice none 0 0)
 | sl {els:List (List AV)} {full:Bool} {k o n c es:Nat} {cs:List Value} {own:Bool} {e:Nat} (hg:g k=some (.cells cs own e)) (hO:¬ O k) (hlen:o+n * es≤cs.length) (hn:els.length=n)
  (hel:∀ (i:Nat) (el:List AV),els[i]?=some el→el.length=es)
  (h:∀ (i:Nat) (el:List AV) (j:Nat) (a:AV) (u:Value),els[i]?=some el→el[j]?=some a→cs[o+i * es+j]?=some u→DR g O a u) (hc:full=true→c=n):DR g O (.sl els full) (.slice (some ⟨k,o,none⟩) n c)
 | pt {l:List AV} {k d o:Nat} {cs:List Value} {own:Bool} {e:Nat} (hg:g k=some (.cells cs own e)) (hO:¬ O k) (hlen:d+l.length≤cs.length)
  (h:∀ (i:Nat) (a:AV) (u:Value),l[i]?=some a→cs[d+i]?=some u→DR g O a u):DR g O (.pt l o) (.pointer (some ⟨k,d+o,none⟩))
 | fn {f:FuncId} {a b:List AV} {a' b':Array Value} (ha:a.length=a'.toList.length) (hb:b.length=b'.toList.length)
  (h1:∀ (i:Nat) (x:AV) (u:Value),a[i]?=some x→a'.toList[i]?=some u→DR g O x u) (h2:∀ (i:Nat) (x:AV) (u:Value),b[i]?=some x→b'.toList[i]?=some u→DR g O x u):DR g O (.fn f a b) (.func (.func f) a' b')
 | ag {a:List AV} {a':Array Value} (ha:a.length=a'.toList.length) (h1:∀ (i:Nat) (x:AV) (u:Value),a[i]?=some x→a'.toList[i]?=some u→DR g O x u):DR g O (.ag a) (.agg a')
 | tp {a:List AV} {a':Array Value} (ha:a.length=a'.toList.length) (h1:∀ (i:Nat) (x:AV) (u:Value),a[i]?=some x→a'.toList[i]?=some u→DR g O x u):DR g O (.tp a) (.tuple a')
inductive AR (ρ:Nat→Nat→Option Nat) (g:aG) (O:Nat→Prop):AV→Value→Prop
 | d {v:AV} {u:Value}:DR g O v u→AR ρ g O v u
 | cw {u:Value}:AR ρ g O .cw u
 | ptr {j aF o k:Nat}:ρ j aF=some k→AR ρ g O (.ptr j aF o) (.pointer (some ⟨k,o,none⟩))
 | dw {j aF o n c k:Nat}:ρ j aF=some k→AR ρ g O (.dw j aF o n c) (.slice (some ⟨k,o,none⟩) n c)
 | rZ {j aF c:Nat}:AR ρ g O (.dw j aF 0 0 c) (.slice none 0 0)
 | om {j k:Nat}:ρ j 0=some k→AR ρ g O (.om j) (.map (some k))
 | fn {f:FuncId} {a b:List AV} {a' b':Array Value} (ha:a.length=a'.toList.length) (hb:b.length=b'.toList.length)
  (h1:∀ (i:Nat) (x:AV) (u:Value),a[i]?=some x→a'.toList[i]?=some u→AR ρ g O x u) (h2:∀ (i:Nat) (x:AV) (u:Value),b[i]?=some x→b'.toList[i]?=some u→AR ρ g O x u):AR ρ g O (.fn f a b) (.func (.func f) a' b')
 | ag {a:List AV} {a':Array Value} (ha:a.length=a'.toList.length) (h1:∀ (i:Nat) (x:AV) (u:Value),a[i]?=some x→a'.toList[i]?=some u→AR ρ g O x u):AR ρ g O (.ag a) (.agg a')
 | tp {a:List AV} {a':Array Value} (ha:a.length=a'.toList.length) (h1:∀ (i:Nat) (x:AV) (u:Value),a[i]?=some x→a'.toList[i]?=some u→AR ρ g O x u):AR ρ g O (.tp a) (.tuple a')
def tD (g:aG) (O:Nat→Prop) (l:List AV) (l':List Value):Prop:=l.length=l'.length∧∀ (i:Nat) (a:AV) (u:Value),l[i]?=some a→l'[i]?=some u→DR g O a u
def gE (ρ:Nat→Nat→Option Nat) (g:aG) (O:Nat→Prop) (l:List AV) (l':List Value):Prop:=l.length=l'.length∧∀ (i:Nat) (a:AV) (u:Value),l[i]?=some a→l'[i]?=some u→AR ρ g O a u
mutual
def AV.deep:AV→Bool
 | .fl _=>true
 | .sl _ _=>true
 | .pt _ _=>true
 | .fn _ a b=>bG a && bG b
 | .ag a=>bG a
 | .tp a=>bG a
 | .oq _=>true
 | _=>false
def bG:List AV→Bool
 | []=>true
 | a :: l=>a.deep && bG l
end
theorem gF:∀ {l:List AV},bG l=true→∀ (i:Nat) (a:AV),l[i]?=some a→a.deep=true
 | [],_,i,a,h=>by cases h
 | x :: l,h,i,a,ha=>by
  simp only [bG,qq7] at h
  cases i with
  | zero=>cases ha;exact h.1
  | succ i=>exact gF h.2 i a (by simpa using ha)
section
variable {ρ ρ' : Nat → Nat → Option Nat} {g g' : aG} {O O' : Nat → Prop}
theorem AR.deep {v:AV} {u:Value} (h:AR ρ g O v u):v.deep=true→DR g O v u:=by
 induction h with
 | d h=>intro _;exact h
 | fn ha hb h1 h2 ih1 ih2 =>intro hd;simp only [AV.deep,qq7] at hd;exact .fn ha hb (fun i x u hx hu=>ih1 i x u hx hu (gF hd.1 i x hx)) (fun i x u hx hu=>ih2 i x u hx hu (gF hd.2 i x hx))
 | ag ha h1 ih=>intro hd;simp only [AV.deep] at hd;exact .ag ha (fun i x u hx hu=>ih i x u hx hu (gF hd i x hx))
 | tp ha h1 ih=>intro hd;simp only [AV.deep] at hd;exact .tp ha (fun i x u hx hu=>ih i x u hx hu (gF hd i x hx))
 | _=>intro hd;simp [AV.deep] at hd
theorem DR.mono {v:AV} {u:Value} (h:DR g O v u) (hg:∀ k b,g k=some b→¬ O k→g' k=some b∧¬ O' k):DR g' O' v u:=by
 induction h with
 | fl h=>exact .fl h
 | oq h=>exact .oq h
 | nil=>exact .nil
 | sl h1 h2 h3 h4 h5 h6 h7 ih=>exact .sl (hg _ _ h1 h2).1 (hg _ _ h1 h2).2 h3 h4 h5 ih h7
 | pt h1 h2 h3 h4 ih=>exact .pt (hg _ _ h1 h2).1 (hg _ _ h1 h2).2 h3 ih
 | fn ha hb h1 h2 ih1 ih2=>exact .fn ha hb ih1 ih2
 | ag ha h1 ih=>exact .ag ha ih
 | tp ha h1 ih=>exact .tp ha ih
theorem AR.mono {v:AV} {u:Value} (h:AR ρ g O v u) (hr:∀ j aF k,ρ j aF=some k→ρ' j aF=some k) (hg:∀ k b,g k=some b→¬ O k→g' k=some b∧¬ O' k):AR ρ' g' O' v u:=by
 induction h with
 | d h=>exact .d (h.mono hg)
 | cw=>exact .cw
 | ptr h=>exact .ptr (hr _ _ _ h)
 | dw h=>exact .dw (hr _ _ _ h)
 | rZ=>exact .rZ
 | om h=>exact .om (hr _ _ _ h)
 | fn ha hb h1 h2 ih1 ih2=>exact .fn ha hb ih1 ih2
 | ag ha h1 ih=>exact .ag ha ih
 | tp ha h1 ih=>exact .tp ha ih
theorem gE.mono {l:List AV} {l':List Value} (h:gE ρ g O l l') (hr:∀ j aF k,ρ j aF=some k→ρ' j aF=some k) (hg:∀ k b,g k=some b→¬ O k→g' k=some b∧¬ O' k):gE ρ' g' O' l l' :=
 ⟨h.1,fun i a u ha hu=>(h.2 i a u ha hu).mono hr hg⟩
theorem gE.nil:gE ρ g O [] []:=⟨rfl,fun i a u h=>by cases h⟩
theorem gE.cons {a:AV} {u:Value} {l:List AV} {l':List Value} (h:AR ρ g O a u) (t:gE ρ g O l l'):gE ρ g O (a :: l) (u :: l') :=
 ⟨by simp [t.1],fun i b v hb hv=>by
  cases i with
  | zero=>cases hb;cases hv;exact h
  | succ i=>exact t.2 i b v (by simpa using hb) (by simpa using hv)⟩
theorem gE.append {a b:List AV} {a' b':List Value} (h:gE ρ g O a a') (k:gE ρ g O b b'):gE ρ g O (a++b) (a'++b'):=by
 refine ⟨by simp [h.1,k.1],fun i x u hx hu=>?_⟩;by_cases hi:i < a.length
 ·rw [List.getElem?_append_left hi] at hx;rw [List.getElem?_append_left (by rw [←h.1];exact hi)] at hu;exact h.2 i x u hx hu
 ·rw [List.getElem?_append_right (by omega)] at hx;rw [List.getElem?_append_right (by rw [←h.1];omega),←h.1] at hu;exact k.2 _ x u hx hu
theorem gE.take {a:List AV} {a':List Value} (h:gE ρ g O a a') (n:Nat):gE ρ g O (a.take n) (a'.take n):=by
 refine ⟨by simp [h.1],fun i x u hx hu=>?_⟩;rw [List.getElem?_take] at hx hu;split at hx
 ·rw [if_pos (by assumption)] at hu;exact h.2 i x u hx hu
 ·cases hx
theorem gE.drop {a:List AV} {a':List Value} (h:gE ρ g O a a') (n:Nat):gE ρ g O (a.drop n) (a'.drop n):=by refine ⟨by simp [h.1],fun i x u hx hu=>?_⟩;rw [List.getElem?_drop] at hx hu;exact h.2 _ x u hx hu
theorem gE.get {l:List AV} {l':List Value} (h:gE ρ g O l l') {i:Nat} {a:AV} (ha:l[i]?=some a):∃ u,l'[i]?=some u∧AR ρ g O a u:=by
 have hi:i < l'.length:=by rw [←h.1];exact (List.getElem?_eq_some_iff.1 ha).1
 exact ⟨l'[i],List.getElem?_eq_getElem hi,h.2 i a _ ha (List.getElem?_eq_getElem hi)⟩
theorem gE.deep {l:List AV} {l':List Value} (h:gE ρ g O l l') (hd:bG l=true):tD g O l l':=⟨h.1,fun i a u ha hu=>(h.2 i a u ha hu).deep (gF hd i a ha)⟩
theorem tD.FF {l:List AV} {l':List Value} (h:tD g O l l'):gE ρ g O l l':=⟨h.1,fun i a u ha hu=>.d (h.2 i a u ha hu)⟩
def AV.one:AV→Bool
 | .fl _|.sl ..|.pt ..|.fn ..|.ptr ..|.dw ..|.om _|.oq _=>true
 | _=>false
theorem AR.bH {v:AV} {u:Value} (h:AR ρ g O v u) (ho:v.one=true):RM.bH u=true:=by
 cases h with
 | d h =>
  cases h with
  | fl h=>cases u <;> first|rfl|simp [bh] at h
  | oq h=>exact h
  | _=>first|rfl|simp [AV.one] at ho
 | _=>first|rfl|simp [AV.one] at ho
theorem gE.bH {l:List AV} {l':List Value} (h:gE ρ g O l l') (ho:l.all AV.one=true):l'.all RM.bH=true:=by
 rw [List.all_eq_true] at ho ⊢;intro u hu;obtain ⟨i,hi,rfl⟩:=List.getElem_of_mem hu;have hi':i < l.length:=by rw [h.1];exact hi
 exact (h.2 i l[i] _ (List.getElem?_eq_getElem hi') (List.getElem?_eq_getElem hi)).bH (ho _ (List.getElem_mem hi'))
def AV.cells:AV→List AV
 | .ag cs=>cs
 | v=>[v]
def AV.kM:AV→Bool
 | .ag _=>true
 | v=>v.one
theorem GW {u:Value} (h:RM.bH u=true):u.cells.toList=[u]:=by cases u <;> first|rfl|cases h
theorem AR.cells {v:AV} {u:Value} (h:AR ρ g O v u) (hc:v.kM=true):gE ρ g O v.cells u.cells.toList:=by
 cases v with
 | ag cs =>
  cases h with
  | d h=>cases h with
   | ag ha h1=>exact ⟨ha,fun i a u x y=>.d (h1 i a u x y)⟩
  | ag ha h1=>exact ⟨ha,h1⟩
 | cw=>simp [AV.kM,AV.one] at hc
 | tp=>simp [AV.kM,AV.one] at hc
 | _=>rw [GW (h.bH rfl)];exact .cons h .nil
theorem AR.gq {v u:Value} (h:AR ρ g O (.fl v) u):u=v∧bh v=true:=by
 cases h with
 | d h=>cases h with
  | fl h=>exact ⟨rfl,h⟩
theorem gE.gq {l:List Value} {l':List Value} (h:gE ρ g O (l.map .fl) l'):l'=l∧l.all bh=true:=by
 have key:∀ (i:Nat) (v u:Value),l[i]?=some v→l'[i]?=some u→u=v∧bh v=true:=fun i v u hv hu=>(h.2 i (.fl v) u (by simp [hv]) hu).gq;have hlen:l.length=l'.length:=by simpa using h.1
 refine ⟨List.ext_getElem? fun i=>?_,?_⟩
 ·by_cases hi:i < l.length
  ·rw [List.getElem?_eq_getElem hi,List.getElem?_eq_getElem (by omega:i < l'.length),(key i _ _ (List.getElem?_eq_getElem hi) (List.getElem?_eq_getElem (by omega))).1]
  ·rw [List.getElem?_eq_none (by omega),List.getElem?_eq_none (by omega)]
 ·rw [List.all_eq_true];intro x hx;obtain ⟨i,hi,rfl⟩:=List.getElem_of_mem hx;exact (key i _ _ (List.getElem?_eq_getElem hi) (List.getElem?_eq_getElem (by omega))).2
theorem gE.AE {l:List Value} (h:l.all bh=true):gE ρ g O (l.map .fl) l:=by refine ⟨by simp,fun i a u ha hu=>?_⟩;rw [List.getElem?_map,hu] at ha;cases ha;exact .d (.fl (List.all_eq_true.1 h u (List.mem_of_getElem? hu)))
end
structure cz where
 P:(Nat→Prop)→(Nat→Prop)→aG→Nat→Prop
 st:∀ {D S:Nat→Prop} {g g':aG} {n n':Nat},P D S g n→(∀ k,S k→g' k=g k)→n≤n'→P D S g' n'
def cz.none:cz:=⟨fun _ _ _ _=>True,fun _ _ _=>trivial⟩
structure Env where
 ρ:Nat→Nat→Option Nat
 D:Nat→Prop
 S:Nat→Prop
 X:Nat→Prop
def Own (ρ:Nat→Nat→Option Nat) (hp:List AB) (k:Nat):Prop:=∃ (j:Nat) (b:AB) (aF:Nat),hp[j]?=some b∧b.ver?=some aF∧ρ j aF=some k
def Env.O (E:Env) (hp:List AB) (k:Nat):Prop:=Own E.ρ hp k∨E.X k
def BR (ρ:Nat→Nat→Option Nat) (g:aG) (O:Nat→Prop):AB→bf→Prop
 | .cells cs es _,b'=>∃ cs',b'=.cells cs' true es∧gE ρ g O cs cs'
 | .dQ s p,b'=>b'=.dQ s p
 | .map ents clock,b'=>∃ es:List MapEntry,b'=.map es clock∧ents.length=es.length∧∀ (i:Nat) (k v:AV) (born:Nat) (e:MapEntry),ents[i]?=some (k,v,born)→es[i]?=some e→AR ρ g O k e.key∧AR ρ g O v e.val∧e.born=born
 | .iter j since seen stepped,b'=>∃ m,b'=.iter m since seen stepped∧ρ j 0=some m
 | .gone,_=>False
structure aY (E:Env) (base:Nat) (hp:List AB) (aO:cz) (H:Hp):Prop where
 wf:Wf H
 gT:∀ (j:Nat) (b:AB) (aF:Nat),hp[j]?=some b→b.ver?=some aF→(∃ k b',E.ρ j aF=some k∧H.get k=some b'∧BR E.ρ H.get (E.O hp) b b')∨(E.ρ j aF=none∧∃ es,b=.cells [] es aF)
 inj:∀ (j j' aF ver' k:Nat),E.ρ j aF=some k→E.ρ j' ver'=some k→j=j'
 rn:∀ (j v k:Nat),E.ρ j v=some k→k < H.n
 fresh:∀ (j:Nat) (b:AB) (aF v:Nat),hp[j]?=some b→b.ver?=some aF→aF < v→E.ρ j v=none
 new:∀ j v,hp.length≤j→E.ρ j v=none
 sup:∀ k,Own E.ρ hp k→¬ E.S k
 jm:∀ k,Own E.ρ hp k→¬ E.X k
 dx:∀ k,E.D k→E.X k
 ds:∀ k,E.D k→E.S k
 sn:∀ k,E.S k→k < H.n
 xn:∀ k,E.X k→k < H.n
 qK:∀ k,Own E.ρ hp k∨E.D k→base≤k
 bn:base≤H.n
 aO:aO.P E.D E.S H.get H.n
structure Ext (base:Nat) (E:Env) (hp:List AB) (H:Hp) (E':Env) (hp':List AB) (H':Hp):Prop where
 n:H.n≤H'.n
 d:E'.D=E.D
 s:E'.S=E.S
 x:E'.X=E.X
 Cv:∀ j v k,E.ρ j v=some k→E'.ρ j v=some k
 own:∀ k,Own E'.ρ hp' k→Own E.ρ hp k∨H.n≤k
 same:∀ k,k < H.n→¬ Own E.ρ hp k→H'.get k=H.get k
 lo:min H.lo base≤H'.lo
section
variable {base : Nat} {E E' E2 : Env} {hp hp' hp2 : List AB} {aO : cz} {H H' H2 : Hp}
theorem Wf.lt (h:Wf H) {k:Nat} {b:bf} (hk:H.get k=some b):k < H.n:=by apply Nat.lt_of_not_le;intro hle;rw [h k hle] at hk;cases hk
theorem Ext.refl:Ext base E hp H E hp H:=⟨qq6 _,rfl,rfl,rfl,fun _ _ _ h=>h,fun _ h=>.inl h,fun _ _ _=>rfl,Nat.min_le_left _ _⟩
theorem Ext.trans (a:Ext base E hp H E' hp' H') (b:Ext base E' hp' H' E2 hp2 H2):Ext base E hp H E2 hp2 H2:=by
 refine ⟨Nat.le_trans a.n b.n,b.d.trans a.d,b.s.trans a.s,b.x.trans a.x,fun j v k h=>b.Cv j v k (a.Cv j v k h),fun k h=>?_,fun k hk ho=>?_,?_⟩
 ·rcases b.own k h with h|h
  ·exact a.own k h
  ·exact .inr (Nat.le_trans a.n h)
 ·rw [b.same k (Nat.lt_of_lt_of_le hk a.n) (fun h=>(a.own k h).elim ho (fun h=>by omega)),a.same k hk ho]
 ·have:=a.lo;have:=b.lo;omega
theorem Ext.keep (e:Ext base E hp H E' hp' H') (hw:Wf H):∀ k b,H.get k=some b→¬ E.O hp k→H'.get k=some b∧¬ E'.O hp' k:=by
 intro k b hk ho;have hlt:=hw.lt hk;refine ⟨by rw [e.same k hlt (fun h=>ho (.inl h))];exact hk,fun h=>?_⟩
 rcases h with h|h
 ·rcases e.own k h with h|h
  ·exact ho (.inl h)
  ·omega
 ·rw [e.x] at h;exact ho (.inr h)
theorem Ext.ar (e:Ext base E hp H E' hp' H') (hw:Wf H) {v:AV} {u:Value} (h:AR E.ρ H.get (E.O hp) v u):AR E'.ρ H'.get (E'.O hp') v u:=h.mono e.Cv (e.keep hw)
theorem Ext.dr (e:Ext base E hp H E' hp' H') (hw:Wf H) {v:AV} {u:Value} (h:DR H.get (E.O hp) v u):DR H'.get (E'.O hp') v u:=h.mono (e.keep hw)
theorem Ext.FF (e:Ext base E hp H E' hp' H') (hw:Wf H) {v:List AV} {u:List Value} (h:gE E.ρ H.get (E.O hp) v u):gE E'.ρ H'.get (E'.O hp') v u:=h.mono e.Cv (e.keep hw)
theorem Ext.br (e:Ext base E hp H E' hp' H') (hw:Wf H) {b:AB} {b':bf} (h:BR E.ρ H.get (E.O hp) b b'):BR E'.ρ H'.get (E'.O hp') b b':=by
 cases b with
 | cells cs es aF=>obtain ⟨cs',rfl,h⟩:=h;exact ⟨cs',rfl,e.FF hw h⟩
 | dQ s p=>exact h
 | map ents clock =>obtain ⟨es,rfl,h1,h2⟩:=h;exact ⟨es,rfl,h1,fun i k v born x hx hy=>⟨e.ar hw (h2 i k v born x hx hy).1,e.ar hw (h2 i k v born x hx hy).2.1,(h2 i k v born x hx hy).2.2⟩⟩
 | iter j since seen stepped=>obtain ⟨m,rfl,h⟩:=h;exact ⟨m,rfl,e.Cv _ _ _ h⟩
 | gone=>exact h
theorem aY.kN (h:aY E base hp aO H) {k:Nat} (ho:Own E.ρ hp k):k < H.n:=by
 obtain ⟨j,b,aF,h1,h2,h3⟩:=ho
 rcases h.gT j b aF h1 h2 with ⟨k',b',h4,h5,_⟩|⟨h4,_⟩
 ·rw [h3] at h4;cases h4;exact h.wf.lt h5
 ·rw [h3] at h4;cases h4
def dJ (ρ:Nat→Nat→Option Nat) (j v k:Nat):Nat→Nat→Option Nat:=fun i w=>if i=j∧w=v then some k else ρ i w
theorem jn (ρ:Nat→Nat→Option Nat) (j v k:Nat):dJ ρ j v k j v=some k:=by simp [dJ]
theorem wD (ρ:Nat→Nat→Option Nat) {j v k i w:Nat} (h:¬ (i=j∧w=v)):dJ ρ j v k i w=ρ i w:=if_neg h
theorem cF {b:bf} {k:Nat} (h:k < H.n):(H.push b).get k=H.get k:=by rw [Hp.fh,if_neg (by omega)]
theorem jo {b:bf}:(H.push b).get H.n=some b:=by rw [Hp.fh,if_pos rfl]
theorem bY {b:bf} {k i:Nat} (h:k ≠ i):(H.put i b).get k=H.get k:=by rw [Hp.ju,if_neg h]
theorem iM {b:bf} {i:Nat}:(H.put i b).get i=some b:=by rw [Hp.ju,if_pos rfl]
theorem aY.IE (h:aY E base hp aO H) (b:bf):aY E base hp aO (H.push b)∧Ext base E hp H E hp (H.push b)∧¬ E.O hp H.n:=by
 have e:Ext base E hp H E hp (H.push b):=⟨Nat.le_succ _,rfl,rfl,rfl,fun _ _ _ h=>h,fun _ h=>.inl h,fun k hk _=>cF hk,Nat.min_le_left _ _⟩;refine ⟨⟨(dZ.push H b).wf h.wf,fun j x aF hj hv=>?_,h.inj,fun j v k hk=>Nat.lt_succ_of_lt (h.rn j v k hk),h.fresh,h.new,h.sup,h.jm,h.dx,h.ds,fun k hk=>Nat.lt_succ_of_lt (h.sn k hk),fun k hk=>Nat.lt_succ_of_lt (h.xn k hk),h.qK,Nat.le_succ_of_le h.bn,aO.st h.aO (fun k hk=>cF (h.sn k hk)) (Nat.le_succ _)⟩,e,fun ho=>?_⟩
 ·rcases h.gT j x aF hj hv with ⟨k,b',h1,h2,h3⟩|h1
  ·exact .inl ⟨k,b',h1,by rw [cF (h.wf.lt h2)];exact h2,e.br h.wf h3⟩
  ·exact .inr h1
 ·rcases ho with ho|ho
  ·have:=h.kN ho;omega
  ·have:=h.xn _ ho;omega
theorem aY.push (h:aY E base hp aO H) {a:AB} {b:bf} (hv:a.ver?=some 0)
  (hb:∀ E' H',E'={E with ρ:=dJ E.ρ hp.length 0 H.n}→H'=H.push b→Ext base E hp H E' (hp++[a]) H'→BR E'.ρ H'.get (E'.O (hp++[a])) a b) :
  ∃ E',E'={E with ρ:=dJ E.ρ hp.length 0 H.n}∧aY E' base (hp++[a]) aO (H.push b)∧Ext base E hp H E' (hp++[a]) (H.push b)∧E'.ρ hp.length 0=some H.n:=by
 have hold:∀ j v,j ≠ hp.length→dJ E.ρ hp.length 0 H.n j v=E.ρ j v:=fun j v hj=>wD _ (fun h=>hj h.1)
 have hget:∀ (j:Nat) (x:AB),(hp++[a])[j]?=some x→(j < hp.length∧hp[j]?=some x)∨(j=hp.length∧x=a):=by
  intro j x hj;by_cases hlt:j < hp.length
  ·rw [List.getElem?_append_left hlt] at hj;exact .inl ⟨hlt,hj⟩
  ·rw [List.getElem?_append_right (by omega)] at hj;have:j - hp.length=0:=by apply Nat.eq_zero_of_not_pos;intro hp0;rw [List.getElem?_eq_none (by simp;omega)] at hj;cases hj
   rw [this] at hj;cases hj;exact .inr ⟨by omega,rfl⟩
 have hown:∀ k,Own (dJ E.ρ hp.length 0 H.n) (hp++[a]) k→Own E.ρ hp k∨k=H.n:=by
  rintro k ⟨j,x,aF,h1,h2,h3⟩
  rcases hget j x h1 with ⟨hlt,h1⟩|⟨rfl,rfl⟩
  ·rw [hold j aF (by omega)] at h3;exact .inl ⟨j,x,aF,h1,h2,h3⟩
  ·rw [hv] at h2;cases h2;rw [jn] at h3;cases h3;exact .inr rfl
 have hownr:∀ k,Own E.ρ hp k→Own (dJ E.ρ hp.length 0 H.n) (hp++[a]) k:=by rintro k ⟨j,x,aF,h1,h2,h3⟩;have hlt:j < hp.length:=(List.getElem?_eq_some_iff.1 h1).1;exact ⟨j,x,aF,by rw [List.getElem?_append_left hlt];exact h1,h2,by rw [hold j aF (by omega)];exact h3⟩
 have e:Ext base E hp H {E with ρ:=dJ E.ρ hp.length 0 H.n} (hp++[a]) (H.push b):=by refine ⟨Nat.le_succ _,rfl,rfl,rfl,fun j v k hk=>?_,fun k hk=>(hown k hk).imp id (fun h=>by omega),fun k hk _=>cF hk,Nat.min_le_left _ _⟩;show dJ _ _ _ _ j v=_;rw [hold j v (fun hj=>by subst hj;rw [h.new _ v (qq6 _)] at hk;cases hk)];exact hk
 refine ⟨_,rfl,⟨(dZ.push H b).wf h.wf,fun j x aF hj hvx=>?_,fun j j' aF ver' k h1 h2=>?_,fun j v k hk=>?_,fun j x aF v h1 h2 h3=>?_,fun j v hj=>?_,fun k hk=>?_,fun k hk=>?_,h.dx,h.ds,fun k hk=>Nat.lt_succ_of_lt (h.sn k hk),fun k hk=>Nat.lt_succ_of_lt (h.xn k hk),fun k hk=>?_,Nat.le_succ_of_le h.bn,aO.st h.aO (fun k hk=>cF (h.sn k hk)) (Nat.le_succ _)⟩,e,jn _ _ _ _⟩
 ·rcases hget j x hj with ⟨hlt,h1⟩|⟨rfl,rfl⟩
  ·rcases h.gT j x aF h1 hvx with ⟨k,b',q1,q2,q3⟩|⟨q1,q2⟩
   ·exact .inl ⟨k,b',by show dJ _ _ _ _ _ _=_;rw [hold j aF (by omega)];exact q1,by rw [cF (h.wf.lt q2)];exact q2,e.br h.wf q3⟩
   ·exact .inr ⟨by show dJ _ _ _ _ _ _=_;rw [hold j aF (by omega)];exact q1,q2⟩
  ·rw [hv] at hvx;cases hvx;exact .inl ⟨H.n,b,jn _ _ _ _,jo,hb _ _ rfl rfl e⟩
 ·have key:∀ (j aF:Nat),dJ E.ρ hp.length 0 H.n j aF=some k→(E.ρ j aF=some k∧k < H.n)∨(j=hp.length∧k=H.n):=by
   intro j aF q;unfold dJ at q;split at q
   ·rename_i hc;cases q;exact .inr ⟨hc.1,rfl⟩
   ·exact .inl ⟨q,h.rn _ _ _ q⟩
  rcases key j aF h1 with ⟨a1,a2⟩|⟨a1,a2⟩
  ·rcases key j' ver' h2 with ⟨b1,b2⟩|⟨b1,b2⟩
   ·exact h.inj j j' aF ver' k a1 b1
   ·omega
  ·rcases key j' ver' h2 with ⟨b1,b2⟩|⟨b1,b2⟩
   ·omega
   ·omega
 ·have hk:dJ E.ρ hp.length 0 H.n j v=some k:=hk;unfold dJ at hk;show k < H.n+1;split at hk
  ·cases hk;omega
  ·have:=h.rn _ _ _ hk;omega
 ·rcases hget j x h1 with ⟨hlt,q1⟩|⟨rfl,rfl⟩
  ·show dJ _ _ _ _ _ _=_;rw [hold j v (by omega)];exact h.fresh j x aF v q1 h2 h3
  ·show dJ _ _ _ _ _ _=_;rw [wD _ (by omega)];exact h.new _ _ (qq6 _)
 ·show dJ _ _ _ _ _ _=_;simp only [List.length_append,List.length_cons,List.length_nil] at hj;rw [hold j v (by omega)];exact h.new j v (by omega)
 ·rcases hown k hk with hk|rfl
  ·exact h.sup k hk
  ·exact fun hs=>by have:=h.sn _ hs;omega
 ·rcases hown k hk with hk|rfl
  ·exact h.jm k hk
  ·exact fun hs=>by have:=h.xn _ hs;omega
 ·rcases hk with hk|hk
  ·rcases hown k hk with hk|rfl
   ·exact h.qK k (.inl hk)
   ·exact h.bn
  ·exact h.qK k (.inr hk)
theorem aY.put (h:aY E base hp aO H) {j aF k:Nat} {a0 a:AB} {b:bf} (hj:hp[j]?=some a0) (hv0:a0.ver?=some aF) (hv:a.ver?=some aF) (hk:E.ρ j aF=some k)
  (hb:BR E.ρ H.get (E.O hp) a b) :
  aY E base (hp.set j a) aO (H.put k b)∧Ext base E hp H E (hp.set j a) (H.put k b):=by
 have hlt:j < hp.length:=(List.getElem?_eq_some_iff.1 hj).1;have hok:Own E.ρ hp k:=⟨j,a0,aF,hj,hv0,hk⟩;have hkn:=h.kN hok
 have hget:∀ (i:Nat) (x:AB),(hp.set j a)[i]?=some x→(i ≠ j∧hp[i]?=some x)∨(i=j∧x=a):=by
  intro i x hi;by_cases hij:i=j
  ·subst hij;rw [List.getElem?_set_self hlt] at hi;cases hi;exact .inr ⟨rfl,rfl⟩
  ·rw [List.getElem?_set_ne (Ne.symm hij)] at hi;exact .inl ⟨hij,hi⟩
 have hown:∀ k',Own E.ρ (hp.set j a) k'→Own E.ρ hp k':=by
  rintro k' ⟨i,x,v,h1,h2,h3⟩
  rcases hget i x h1 with ⟨hij,h1⟩|⟨rfl,rfl⟩
  ·exact ⟨i,x,v,h1,h2,h3⟩
  ·rw [hv] at h2;cases h2;exact ⟨_,a0,_,hj,hv0,h3⟩
 have hbase:=h.qK k (.inl hok);have e:Ext base E hp H E (hp.set j a) (H.put k b):=by refine ⟨qq6 _,rfl,rfl,rfl,fun _ _ _ h=>h,fun k' h'=>.inl (hown k' h'),fun k' _ hn=>bY (fun e=>hn (e ▸ hok)),?_⟩;show _≤min H.lo k;omega
 have hwf:Wf (H.put k b):=fun i hi=>by rw [bY (by have:H.n≤i:=hi;omega)];exact h.wf i hi
 refine ⟨⟨hwf,fun i x v hi hvx=>?_,h.inj,h.rn,fun i x v w h1 h2 h3=>?_,fun i v hi=>h.new i v (by simpa using hi),fun k' hk'=>h.sup k' (hown k' hk'),fun k' hk'=>h.jm k' (hown k' hk'),h.dx,h.ds,h.sn,h.xn,fun k' hk'=>h.qK k' (hk'.imp (hown k') id),h.bn,aO.st h.aO (fun k' hs=>bY (fun e=>h.sup k hok (e ▸ hs))) (qq6 _)⟩,e⟩
 ·rcases hget i x hi with ⟨hij,h1⟩|⟨rfl,rfl⟩
  ·rcases h.gT i x v h1 hvx with ⟨k',b',q1,q2,q3⟩|q
   ·refine .inl ⟨k',b',q1,?_,e.br h.wf q3⟩;rw [bY (fun e=>hij (h.inj i j v aF k' q1 (by rw [hk,e])))];exact q2
   ·exact .inr q
  ·rw [hv] at hvx;cases hvx;exact .inl ⟨k,b,hk,iM,e.br h.wf hb⟩
 ·rcases hget i x h1 with ⟨hij,q1⟩|⟨rfl,rfl⟩
  ·exact h.fresh i x v w q1 h2 h3
  ·rw [hv] at h2;cases h2;exact h.fresh _ a0 _ w hj hv0 h3
theorem aY.renew (h:aY E base hp aO H) {j aF:Nat} {a0 a:AB} {H1:Hp} {b:bf} (hj:hp[j]?=some a0) (hv0:a0.ver?=some aF) (hv:a.ver?=some (aF+1))
  (h1:H1=H∨∃ k,E.ρ j aF=some k∧H1=H.put k .dead)
  (hb:∀ E' H',E'={E with ρ:=dJ E.ρ j (aF+1) H.n}→H'=H1.push b→Ext base E hp H E' (hp.set j a) H'→BR E'.ρ H'.get (E'.O (hp.set j a)) a b) :
  ∃ E',E'={E with ρ:=dJ E.ρ j (aF+1) H.n}∧aY E' base (hp.set j a) aO (H1.push b)∧Ext base E hp H E' (hp.set j a) (H1.push b)∧E'.ρ j (aF+1)=some H.n:=by
 have hlt:j < hp.length:=(List.getElem?_eq_some_iff.1 hj).1
 have hn1:H1.n=H.n:=by rcases h1 with rfl|⟨k,_,rfl⟩ <;> rfl
 have hw1:Wf H1:=by
  rcases h1 with rfl|⟨k,hk,rfl⟩
  ·exact h.wf
  ·have:=h.kN ⟨j,a0,aF,hj,hv0,hk⟩;exact fun i hi=>by have:H.n≤i:=hi;rw [bY (by omega)];exact h.wf i hi
 have hg1:∀ k,¬ E.ρ j aF=some k→H1.get k=H.get k:=by
  intro k hk
  rcases h1 with rfl|⟨k',hk',rfl⟩
  ·rfl
  ·exact bY (fun e=>hk (e ▸ hk'))
 have hnone:E.ρ j (aF+1)=none:=h.fresh j a0 aF _ hj hv0 (Nat.lt_succ_self _);have hold:∀ i v,¬ (i=j∧v=aF+1)→dJ E.ρ j (aF+1) H.n i v=E.ρ i v:=fun i v hne=>wD _ hne
 have hget:∀ (i:Nat) (x:AB),(hp.set j a)[i]?=some x→(i ≠ j∧hp[i]?=some x)∨(i=j∧x=a):=by
  intro i x hi;by_cases hij:i=j
  ·subst hij;rw [List.getElem?_set_self hlt] at hi;cases hi;exact .inr ⟨rfl,rfl⟩
  ·rw [List.getElem?_set_ne (Ne.symm hij)] at hi;exact .inl ⟨hij,hi⟩
 have hown:∀ k,Own (dJ E.ρ j (aF+1) H.n) (hp.set j a) k→(Own E.ρ hp k∧¬ E.ρ j aF=some k)∨k=H.n:=by
  rintro k ⟨i,x,v,q1,q2,q3⟩
  rcases hget i x q1 with ⟨hij,q1⟩|⟨rfl,rfl⟩
  ·rw [hold i v (fun e=>hij e.1)] at q3;exact .inl ⟨⟨i,x,v,q1,q2,q3⟩,fun e=>hij (h.inj i j v aF k q3 e)⟩
  ·rw [hv] at q2;cases q2;rw [jn] at q3;cases q3;exact .inr rfl
 have e:Ext base E hp H {E with ρ:=dJ E.ρ j (aF+1) H.n} (hp.set j a) (H1.push b):=by
  refine ⟨by show H.n≤H1.n+1;omega,rfl,rfl,rfl,fun i v k hk=>?_,fun k hk=>(hown k hk).imp And.left (fun h=>by omega),fun k hk hn=>?_,?_⟩
  ·show dJ _ _ _ _ _ _=_;rw [hold i v (fun e=>by rw [e.1,e.2,hnone] at hk;cases hk)];exact hk
  ·rw [cF (by omega),hg1 k (fun e=>hn ⟨j,a0,aF,hj,hv0,e⟩)]
  ·show _≤H1.lo
   rcases h1 with rfl|⟨k,hk,rfl⟩
   ·exact Nat.min_le_left _ _
   ·have:=h.qK k (.inl ⟨j,a0,aF,hj,hv0,hk⟩);show _≤min H.lo k;omega
 refine ⟨_,rfl,⟨(dZ.push H1 b).wf hw1,fun i x v hi hvx=>?_,fun i i' v v' k q1 q2=>?_,fun i v k hk=>?_,fun i x v w q1 q2 q3=>?_,fun i v hi=>?_,fun k hk=>?_,fun k hk=>?_,h.dx,h.ds,fun k hk=>?_,fun k hk=>?_,fun k hk=>?_,?_,aO.st h.aO (fun k hk=>?_) (by rw [←hn1];exact Nat.le_succ _)⟩,e,jn _ _ _ _⟩
 ·rcases hget i x hi with ⟨hij,q⟩|⟨rfl,rfl⟩
  ·rcases h.gT i x v q hvx with ⟨k,b',q1,q2,q3⟩|⟨q1,q2⟩
   ·refine .inl ⟨k,b',by show dJ _ _ _ _ _ _=_;rw [hold i v (fun e=>hij e.1)];exact q1,?_,e.br h.wf q3⟩;rw [cF (by rw [hn1];exact h.wf.lt q2),hg1 k (fun e=>hij (h.inj i j v aF k q1 e))];exact q2
   ·exact .inr ⟨by show dJ _ _ _ _ _ _=_;rw [hold i v (fun e=>hij e.1)];exact q1,q2⟩
  ·rw [hv] at hvx;cases hvx;refine .inl ⟨H.n,b,jn _ _ _ _,?_,hb _ _ rfl rfl e⟩;rw [←hn1];exact jo
 ·have key:∀ (i v:Nat),dJ E.ρ j (aF+1) H.n i v=some k→(E.ρ i v=some k∧k < H.n)∨(i=j∧k=H.n):=by
   intro i v q;unfold dJ at q;split at q
   ·rename_i hc;cases q;exact .inr ⟨hc.1,rfl⟩
   ·exact .inl ⟨q,h.rn _ _ _ q⟩
  rcases key i v q1 with ⟨a1,a2⟩|⟨a1,a2⟩
  ·rcases key i' v' q2 with ⟨b1,b2⟩|⟨b1,b2⟩
   ·exact h.inj i i' v v' k a1 b1
   ·omega
  ·rcases key i' v' q2 with ⟨b1,b2⟩|⟨b1,b2⟩
   ·omega
   ·omega
 ·have hk:dJ E.ρ j (aF+1) H.n i v=some k:=hk;unfold dJ at hk;show k < H1.n+1;split at hk
  ·cases hk;omega
  ·have:=h.rn _ _ _ hk;omega
 ·rcases hget i x q1 with ⟨hij,r1⟩|⟨rfl,rfl⟩
  ·show dJ _ _ _ _ _ _=_;rw [hold i w (fun e=>hij e.1)];exact h.fresh i x v w r1 q2 q3
  ·rw [hv] at q2;cases q2;show dJ _ _ _ _ _ _=_;rw [hold _ w (by omega)];exact h.fresh _ a0 _ w hj hv0 (by omega)
 ·show dJ _ _ _ _ _ _=_;simp only [List.length_set] at hi;rw [hold i v (by omega)];exact h.new i v hi
 ·rcases hown k hk with hk|rfl
  ·exact h.sup k hk.1
  ·exact fun hs=>by have:=h.sn _ hs;omega
 ·rcases hown k hk with hk|rfl
  ·exact h.jm k hk.1
  ·exact fun hs=>by have:=h.xn _ hs;omega
 ·have:=h.sn k hk;show k < H1.n+1;omega
 ·have:=h.xn k hk;show k < H1.n+1;omega
 ·rcases hk with hk|hk
  ·rcases hown k hk with hk|rfl
   ·exact h.qK k (.inl hk.1)
   ·exact h.bn
  ·exact h.qK k (.inr hk)
 ·have:=h.bn;show base≤H1.n+1;omega
 ·have hkn:=h.sn k hk;rw [cF (by omega),hg1 k (fun e'=>h.sup k ⟨j,a0,aF,hj,hv0,e'⟩ hk)]
end
def sg (v:Value):AV :=
 match v with
 | .agg cs=>.ag (cs.toList.map .fl)
 | .tuple _=>.tp []
 | v=>.fl v
def bq (fr:Nat→AV):Operand→AV
 | .tmp t=>fr t
 | .const v=>bif flat v then sg v else .cw
 | .func f=>.fn f [] []
 | .global _=>.cw
section
variable {T : bL} {base : Nat} {E E' : Env} {hp hp' : List AB} {aO : cz} {H H' : Hp} {ρ : Nat → Nat → Option Nat} {g : aG} {O : Nat → Prop}
theorem lC {v:Value} (h:flat v=true):AR ρ g O (sg v) v:=by
 unfold sg;split
 ·simp only [flat] at h;have:=gE.AE (ρ:=ρ) (g:=g) (O:=O) h;exact .ag this.1 this.2
 ·rename_i cs;simp only [flat,List.isEmpty_iff] at h;exact .tp (by rw [h];rfl) (fun i x u hx=>by cases hx)
 ·rename_i h1 h2;refine .d (.fl ?_);unfold flat at h;split at h
  ·exact absurd rfl (h1 _)
  ·exact absurd rfl (h2 _)
  ·exact h
def jX (ρ:Nat→Nat→Option Nat) (g:aG) (O:Nat→Prop) (fr:Nat→AV) (tm:Tr Value):Prop:=∀ t,AR ρ g O (fr t) ((tm.get t).getD undef)
theorem lZ {fr:Nat→AV} {tm:Tr Value} (h:jX ρ g O fr tm) (x:Operand):AR ρ g O (bq fr x) (aQ tm x):=by
 cases x with
 | tmp t=>exact h t
 | const v =>
  show AR ρ g O (bif flat v then sg v else .cw) v
  cases hf:flat v with
  | true=>exact lC hf
  | false=>exact .cw
 | global g=>exact .cw
 | func f=>exact .fn rfl rfl (fun i x u hx=>by cases hx) (fun i x u hx=>by cases hx)
def eE (base:Nat) (E:Env) (hp:List AB) (aO:cz) (H:Hp) (r:Option (Value × cv)) (K:AV→List AB→Prop):Prop :=
 ∃ u e E' a hp',r=some (u,e)∧K a hp'∧aY E' base hp' aO (H.app e)∧Ext base E hp H E' hp' (H.app e)∧AR E'.ρ (H.app e).get (E'.O hp') a u
theorem eE.pure {K:AV→List AB→Prop} (h:aY E base hp aO H) {u:Value} {a:AV} (ha:AR E.ρ H.get (E.O hp) a u) (hk:K a hp):eE base E hp aO H (some (u,.none)) K :=
 ⟨u,.none,E,a,hp,rfl,hk,h,.refl,ha⟩
theorem eE.vj {K:AV→List AB→Prop} (h:aY E base hp aO H) {u:Value} {a:AV} {b:bf}
  (ha:Ext base E hp H E hp (H.push b)→(H.push b).get H.n=some b→¬ E.O hp H.n→AR E.ρ (H.push b).get (E.O hp) a u) (hk:K a hp):eE base E hp aO H (some (u,.new b)) K:=by
 obtain ⟨h1,h2,h3⟩:=h.IE b;exact ⟨u,.new b,E,a,hp,rfl,hk,h1,h2,ha h2 jo h3⟩
theorem eE.new {K:AV→List AB→Prop} (h:aY E base hp aO H) {u:Value} {a:AV} {x:AB} {b:bf} (hv:x.ver?=some 0)
  (hb:∀ E' H',Ext base E hp H E' (hp++[x]) H'→BR E'.ρ H'.get (E'.O (hp++[x])) x b)
  (ha:∀ E':Env,E'.ρ hp.length 0=some H.n→AR E'.ρ (H.push b).get (E'.O (hp++[x])) a u) (hk:K a (hp++[x])):eE base E hp aO H (some (u,.new b)) K:=by
 obtain ⟨E',_,h1,h2,h3⟩:=h.push hv (b:=b) (fun E' H' _ _ e=>hb E' H' e);exact ⟨u,.new b,E',a,hp++[x],rfl,hk,h1,h2,ha E' h3⟩
def Cw (agg:Bool) (cs:List AV) (o s:Nat) (K:AV→Prop):Prop :=
 match agg with
 | true=>o+s≤cs.length∧K (.ag ((cs.drop o).take s))
 | false=>∃ v,cs[o]?=some v∧K v
def eF (T:bL) (t:TypeId) (a:AV) (hp:List AB) (K:AV→List AB→Prop):Prop :=
 match a,T.ty.get t with
 | .pt cs o,some ⟨_,s,_,_,agg,_,_⟩=>Cw agg cs o s fun v=>K v hp
 | .ptr j aF o,some ⟨_,s,_,_,agg,_,_⟩=>∃ cs es,hp[j]?=some (.cells cs es aF)∧Cw agg cs o s fun v=>K v hp
 | _,_=>False
theorem oK {cs:List Value} {o n:Nat} (h:o+n≤cs.length):cut cs o n=some ((cs.drop o).take n):=by unfold cut;rw [show Nat.ble (o+n) cs.length=true from Nat.ble_eq_true_of_le h];rfl
theorem DR.cT {l:List AV} {o:Nat} {u:Value} (h:DR g O (.pt l o) u):∃ k d cs own e,u=.pointer (some ⟨k,d+o,none⟩)∧g k=some (.cells cs own e)∧¬ O k∧d+l.length≤cs.length∧∀ (i:Nat) (a:AV) (u:Value),l[i]?=some a→cs[d+i]?=some u→DR g O a u:=by
 cases h with
 | pt h1 h2 h3 h4=>exact ⟨_,_,_,_,_,rfl,h1,h2,h3,h4⟩
theorem AR.cT {l:List AV} {o:Nat} {u:Value} (h:AR ρ g O (.pt l o) u):DR g O (.pt l o) u:=h.deep rfl
theorem AR.jL {l:List (List AV)} {f:Bool} {u:Value} (h:AR ρ g O (.sl l f) u):DR g O (.sl l f) u:=h.deep rfl
theorem AR.di {j aF o:Nat} {u:Value} (h:AR ρ g O (.ptr j aF o) u):∃ k,ρ j aF=some k∧u=.pointer (some ⟨k,o,none⟩):=by
 cases h with
 | d h=>cases h
 | ptr h=>exact ⟨_,h,rfl⟩
theorem AR.fT {j aF o n c:Nat} {u:Value} (h:AR ρ g O (.dw j aF o n c) u):(∃ k,ρ j aF=some k∧u=.slice (some ⟨k,o,none⟩) n c)∨(o=0∧n=0∧u=.slice none 0 0):=by
 cases h with
 | d h=>cases h
 | dw h=>exact .inl ⟨_,h,rfl⟩
 | rZ=>exact .inr ⟨rfl,rfl,rfl⟩
theorem aY.cells (h:aY E base hp aO H) {j aF k es:Nat} {cs:List AV} (hj:hp[j]?=some (.cells cs es aF)) (hk:E.ρ j aF=some k):∃ cs',H.get k=some (.cells cs' true es)∧gE E.ρ H.get (E.O hp) cs cs':=by
 rcases h.gT j _ aF hj rfl with ⟨k',b',h1,h2,h3⟩|⟨h1,_⟩
 ·rw [hk] at h1;cases h1;obtain ⟨cs',rfl,h4⟩:=h3;exact ⟨cs',h2,h4⟩
 ·rw [hk] at h1;cases h1
theorem lD {agg:Bool} {cs:List AV} {cs':List Value} {o d s:Nat} {K:AV→Prop} (h:∀ (i:Nat) (a:AV) (u:Value),cs[i]?=some a→cs'[d+i]?=some u→AR ρ g O a u) (hlen:d+cs.length≤cs'.length) (hw:Cw agg cs o s K) :
  ∃ u a,(bif agg then (cut cs' (d+o) s).map fun c=>((.agg c.toArray:Value),cv.none) else (cs'[d+o]?).map fun v=>(v,cv.none))=some (u,.none)∧K a∧AR ρ g O a u:=by
 unfold Cw at hw
 cases agg with
 | true =>
  obtain ⟨h1,h2⟩:=hw;refine ⟨.agg ((cs'.drop (d+o)).take s).toArray,_,by rw [oK (by omega)];rfl,h2,.ag ?_ ?_⟩
  ·simp;omega
  ·intro i x u hx hu;simp only [List.getElem?_take,List.getElem?_drop] at hx hu;split at hx
   ·rw [if_pos (by assumption)] at hu;exact h _ x u hx (by rw [←Nat.add_assoc];exact hu)
   ·cases hx
 | false =>obtain ⟨v,h1,h2⟩:=hw;have hlt:=(List.getElem?_eq_some_iff.1 h1).1;have hc:cs'[d+o]?=some (cs'[d+o]'(by omega)):=List.getElem?_eq_getElem _;exact ⟨_,v,by rw [hc];rfl,h2,h o v _ h1 hc⟩
theorem AF (h:aY E base hp aO H) {t:TypeId} {a:AV} {u:Value} (ha:AR E.ρ H.get (E.O hp) a u) {K:AV→List AB→Prop} (hw:eF T t a hp K):eE base E hp aO H (eV T t u H.get) K:=by
 unfold eF at hw;split at hw
 ·rename_i cs o und s bytes zero agg cJ cS hty;obtain ⟨k,d,cs',own,e,rfl,h1,h2,h3,h4⟩:=ha.cT.cT;unfold eV addr?;simp only [h1,cells?,hty];obtain ⟨u,a,e1,e2,e3⟩:=lD (ρ:=E.ρ) (fun i a u x y=>.d (h4 i a u x y)) h3 hw;rw [e1];exact .pure h e3 e2
 ·rename_i j aF o und s bytes zero agg cJ cS hty;obtain ⟨cs,es,h1,h2⟩:=hw;obtain ⟨k,hk,rfl⟩:=ha.di;obtain ⟨cs',h3,h4⟩:=h.cells h1 hk;unfold eV addr?;simp only [h3,cells?,hty];obtain ⟨u,a,e1,e2,e3⟩:=lD (d:=0) (fun i a u x y=>h4.2 i a u x (by rw [Nat.zero_add] at y;exact y)) (by rw [h4.1];omega) h2;rw [Nat.zero_add] at e1;rw [e1];exact .pure h e3 e2
 ·exact hw.elim
def eX (cs vs:List AV) (o:Nat):List AV:=cs.take o++vs++cs.drop (o+vs.length)
theorem gE.splice {a b:List AV} {a' b':List Value} (h:gE ρ g O a a') (k:gE ρ g O b b') (o:Nat):gE ρ g O (eX a b o) (splice a' b' o):=by unfold eX RM.splice;rw [k.1];exact ((h.take o).append k).append (h.drop _)
def dN (T:bL) (t:TypeId) (a v:AV) (hp:List AB) (K:AV→List AB→Prop):Prop :=
 match a,T.ty.get t with
 | .ptr j aF o,some ⟨_,s,_,_,_,_,_⟩=>∃ cs es,hp[j]?=some (.cells cs es aF)∧v.kM=true∧v.cells.all AV.one=true∧v.cells.length=s∧o+s≤cs.length∧K .cw (hp.set j (.cells (eX cs v.cells o) es aF))
 | _,_=>False
theorem yx (h:aY E base hp aO H) {t:TypeId} {a v:AV} {u x:Value} (ha:AR E.ρ H.get (E.O hp) a u) (hv:AR E.ρ H.get (E.O hp) v x) {K:AV→List AB→Prop} (hw:dN T t a v hp K):eE base E hp aO H (eB T t u x H.get) K:=by
 unfold dN at hw;split at hw
 ·rename_i j aF o und s bytes zero agg cJ cS hty;obtain ⟨cs,es,h1,h2,h3,h4,h5,h6⟩:=hw;obtain ⟨k,hk,rfl⟩:=ha.di;obtain ⟨cs',q1,q2⟩:=h.cells h1 hk;have hc:=hv.cells h2;have hone:=hc.bH h3;have e1:x.cells.toList.length=s:=by rw [←hc.1];exact h4
  unfold eB addr?;simp only [q1,cells?,hty];have e2:(true && Nat.beq x.cells.toList.length s && Nat.ble (o+s) cs'.length && x.cells.toList.all RM.bH)=true:=by rw [hone,e1];simp only [Bool.true_and,Bool.and_true,qq7];exact ⟨Nat.beq_refl s,Nat.ble_eq_true_of_le (by rw [←q2.1];exact h5)⟩
  rw [e2];simp only [cond_true];obtain ⟨p1,p2⟩:=h.put (a:=.cells (eX cs v.cells o) es aF) (b:=.cells (splice cs' x.cells.toList o) true es) h1 rfl rfl hk ⟨_,rfl,q2.splice hc o⟩;exact ⟨undef,.put k _,E,.cw,_,rfl,h6,p1,p2,.cw⟩
 ·exact hw.elim
def ze (own:Bool) (v:AV) (hp:List AB) (K:AV→List AB→Prop):Prop :=
 v.kM=true∧v.cells.all AV.one=true ∧
  match own with
  | true=>K (.ptr hp.length 0 0) (hp++[.cells v.cells 0 0])
  | false=>bG v.cells=true∧K (.pt v.cells 0) hp
theorem Cx (h:aY E base hp aO H) {own:Bool} {v:AV} {x:Value} (hv:AR E.ρ H.get (E.O hp) v x) {K:AV→List AB→Prop} (hw:ze own v hp K):eE base E hp aO H (Gw H.n x) K:=by
 obtain ⟨h1,h2,h3⟩:=hw;have hc:=hv.cells h1;unfold Gw;rw [hc.bH h2];simp only [cond_true]
 cases own with
 | true =>exact .new h (x:=.cells v.cells 0 0) rfl (fun E' H' e=>⟨_,rfl,e.FF h.wf hc⟩) (fun E' hr=>.ptr hr) h3
 | false =>obtain ⟨h3,h4⟩:=h3;refine .vj h (fun e hg hO=>.d (.pt (d:=0) (o:=0) hg hO (by rw [hc.1];omega) fun i a u ha hu=>?_)) h4;rw [Nat.zero_add] at hu;exact e.dr h.wf ((hc.deep h3).2 i a u ha hu)
def si (T:bL) (t:TypeId) (hp:List AB) (K:AV→List AB→Prop):Prop :=
 match T.ty.get t with
 | some ⟨_,_,_,some z,_,_,_⟩=>z.cells.toList.all bh=true∧K (.ptr hp.length 0 0) (hp++[.cells (z.cells.toList.map .fl) 0 0])
 | _=>False
theorem yz (h:aY E base hp aO H) {t:TypeId} {K:AV→List AB→Prop} (hw:si T t hp K):eE base E hp aO H (sW T H.n t) K:=by
 unfold si at hw;split at hw
 ·rename_i und s bytes z agg cJ cS hty;obtain ⟨h1,h2⟩:=hw;unfold sW;simp only [hty,h1,cond_true];exact .new h (x:=.cells (z.cells.toList.map .fl) 0 0) rfl (fun E' H' e=>⟨_,rfl,.AE h1⟩) (fun E' hr=>.ptr hr) h2
 ·exact hw.elim
def jY (T:bL) (t:TypeId) (a:AV) (i:Nat) (hp:List AB) (K:AV→List AB→Prop):Prop :=
 match a,T.ty.get t with
 | .pt cs o,some ⟨.struct _,_,_,_,_,cJ,_⟩=>∃ off s,cJ[i]?=some (off,s)∧1≤s∧K (.pt cs (o+off)) hp
 | .ptr j aF o,some ⟨.struct _,_,_,_,_,cJ,_⟩=>∃ off s,cJ[i]?=some (off,s)∧1≤s∧K (.ptr j aF (o+off)) hp
 | _,_=>False
theorem yA (h:aY E base hp aO H) {t:TypeId} {a:AV} {i:Nat} {u:Value} (ha:AR E.ρ H.get (E.O hp) a u) {K:AV→List AB→Prop} (hw:jY T t a i hp K):eE base E hp aO H (dV T t u i) K:=by
 unfold jY at hw;split at hw
 ·rename_i cs o fs s bytes z agg cJ cS hty;obtain ⟨off,s',h1,h2,h3⟩:=hw;obtain ⟨k,d,cs',own,e,rfl,q1,q2,q3,q4⟩:=ha.cT.cT;unfold dV addr?;simp only [hty,h1,Nat.ble_eq_true_of_le h2,cond_true];refine .pure h (a:=.pt cs (o+off)) ?_ h3;unfold ptr;rw [Nat.add_assoc];exact .d (.pt q1 q2 q3 q4)
 ·rename_i j aF o fs s bytes z agg cJ cS hty;obtain ⟨off,s',h1,h2,h3⟩:=hw;obtain ⟨k,hk,rfl⟩:=ha.di;unfold dV addr?;simp only [hty,h1,Nat.ble_eq_true_of_le h2,cond_true];exact .pure h (.ptr hk) h3
 ·exact hw.elim
def asInt:AV→Option Int
 | .fl (.int _ n)=>some n
 | _=>none
def cP (T:bL) (t:TypeId) (a ix:AV) (hp:List AB) (K:AV→List AB→Prop):Prop :=
 match asInt ix,T.ty.get t with
 | some j,some ⟨.array len _,_,_,_,_,_,cS⟩=>(0≤j∧j < (len:Int)) ∧
  match a with
  | .pt cs o=>K (.pt cs (o+j.toNat * cS)) hp
  | .ptr i aF o=>K (.ptr i aF (o+j.toNat * cS)) hp
  | _=>False
 | some j,some ⟨.slice _,_,_,_,_,_,cS⟩ =>
  match a with
  | .sl els _=>∃ el,(0≤j∧els[j.toNat]?=some el)∧el.length=cS∧K (.pt el 0) hp
  | .dw i aF o n _=>(0≤j∧j < (n:Int))∧K (.ptr i aF (o+j.toNat * cS)) hp
  | _=>False
 | _,_=>False
theorem lE {cS k o len:Nat} {j:Int} (h:0≤j∧j < (len:Int)):qa cS k o len j=some (ptr k (o+j.toNat * cS),.none):=by unfold qa;have e:Int.ofNat len=(len:Int):=rfl;rw [mX,ox,e,decide_eq_true h.1,decide_eq_true h.2];rfl
theorem jq {a:AV} {n:Int} {u:Value} (h:asInt a=some n) (ha:AR ρ g O a u):intOf? u=some n:=by
 unfold asInt at h;split at h
 ·cases h;rw [ha.gq.1];rfl
 ·cases h
theorem sj (h:aY E base hp aO H) {t:TypeId} {a ix:AV} {u x:Value} (ha:AR E.ρ H.get (E.O hp) a u) (hx:AR E.ρ H.get (E.O hp) ix x) {K:AV→List AB→Prop} (hw:cP T t a ix hp K):eE base E hp aO H (dW T t u x) K:=by
 unfold cP at hw;split at hw
 ·rename_i j len el s bytes z agg cJ cS hj hty;have hix:=jq hj hx;obtain ⟨h0,hw⟩:=hw;unfold dW;simp only [hix,hty];split at hw
  ·obtain ⟨k,d,cs',own,e,rfl,q1,q2,q3,q4⟩:=ha.cT.cT;simp only [addr?];rw [lE h0];refine .pure h ?_ hw;unfold ptr;rw [Nat.add_assoc];exact .d (.pt q1 q2 q3 q4)
  ·obtain ⟨k,hk,rfl⟩:=ha.di;simp only [addr?];rw [lE h0];exact .pure h (.ptr hk) hw
  ·exact hw.elim
 ·rename_i j el s bytes z agg cJ cS hj hty;have hix:=jq hj hx;unfold dW;simp only [hix,hty];split at hw
  ·rename_i els f;obtain ⟨el,⟨h0,h1⟩,h2,h3⟩:=hw
   cases ha.jL with
   | nil=>cases h1
   | sl q1 q2 q3 q4 q5 q6 q7 =>
    rename_i k o n c es cs own e;have hlt:j.toNat < els.length:=(List.getElem?_eq_some_iff.1 h1).1;have hes:es=cS:=by rw [←q5 _ _ h1,h2]
    subst hes;show eE base E hp aO H (qa es k o n j) K;rw [lE ⟨h0,by omega⟩];have hle:(j.toNat+1) * es≤n * es:=Nat.mul_le_mul_right _ (by omega);rw [Nat.add_mul,Nat.one_mul] at hle;refine .pure h (.d (.pt (d:=o+j.toNat * es) (o:=0) q1 q2 (by rw [h2];omega) fun i a u hi hu=>?_)) h3;exact q6 _ _ i a u h1 hi hu
  ·rename_i i aF o n c;obtain ⟨h0,h1⟩:=hw
   rcases ha.fT with ⟨k,hk,rfl⟩|⟨rfl,rfl,rfl⟩
   ·show eE base E hp aO H (qa cS k o n j) K;rw [lE h0];exact .pure h (.ptr hk) h1
   ·omega
  ·exact hw.elim
 ·exact hw.elim
def Ee:List AV→Option (List Value)
 | []=>some []
 | .fl v :: l=>(Ee l).map (v :: ·)
 | _=>none
theorem pN:∀ {cs:List AV} {l:List Value},Ee cs=some l→cs=l.map AV.fl
 | [],l,h=>by cases h;rfl
 | .fl v :: cs,l,h=>by simp only [Ee,Option.map_eq_some_iff] at h;obtain ⟨m,hm,rfl⟩:=h;rw [pN hm];rfl
 | .sl _ _ :: _,_,h|.pt _ _ :: _,_,h|.fn _ _ _ :: _,_,h|.ag _ :: _,_,h|.tp _ :: _,_,h|.ptr _ _ _ :: _,_,h|.dw _ _ _ _ _ :: _,_,h|.om _ :: _,_,h|.oq _ :: _,_,h|.cw :: _,_,h=>by simp [Ee] at h
def AV.ig:AV→Option Value
 | .fl v=>some v
 | .ag cs=>(Ee cs).map fun l=>.agg l.toArray
 | _=>none
theorem ej {a:AV} {v u:Value} (h:a.ig=some v) (ha:AR ρ g O a u):u=v∧flat v=true:=by
 unfold AV.ig at h;split at h
 ·cases h;obtain ⟨rfl,hf⟩:=ha.gq;refine ⟨rfl,?_⟩;cases u <;> first|exact hf|simp [bh] at hf
 ·rename_i cs;rw [Option.map_eq_some_iff] at h;obtain ⟨l,h1,rfl⟩:=h;have hcs:=pN h1;subst hcs
  cases ha with
  | d h=>cases h with
   | ag ha h1 =>rename_i a';obtain ⟨e1,e2⟩:=gE.gq (ρ:=ρ) (g:=g) (O:=O) (l':=a'.toList) ⟨ha,fun i a u x y=>.d (h1 i a u x y)⟩;refine ⟨by rw [←e1],?_⟩;simp only [flat];exact e2
  | ag ha h1 =>rename_i a';obtain ⟨e1,e2⟩:=gE.gq (ρ:=ρ) (g:=g) (O:=O) (l':=a'.toList) ⟨ha,h1⟩;refine ⟨by rw [←e1],?_⟩;simp only [flat];exact e2
 ·cases h
def kO (r:Option (Value × cv)) (hp:List AB) (K:AV→List AB→Prop):Prop:=∃ v,r=some (v,.none)∧flat v=true∧K (sg v) hp
theorem dz (h:aY E base hp aO H) {r:Option (Value × cv)} {K:AV→List AB→Prop} (hw:kO r hp K):eE base E hp aO H r K:=by obtain ⟨v,rfl,h2,h3⟩:=hw;exact .pure h (lC h2) h3
def bw (T:bL) (o:BinOp) (t:TypeId) (x y:Operand) (a b:AV) (hp:List AB) (K:AV→List AB→Prop):Prop :=
 match a,b with
 | .fl (.int .i64 m),.fl (.int .i64 n) =>
  match o with
  | .add=>(-9223372036854775808≤m+n∧m+n≤9223372036854775807)∧K (.fl (.int .i64 (m+n))) hp
  | .sub=>(-9223372036854775808≤m - n∧m - n≤9223372036854775807)∧K (.fl (.int .i64 (m - n))) hp
  | .mul=>(-9223372036854775808≤m * n∧m * n≤9223372036854775807)∧K (.fl (.int .i64 (m * n))) hp
  | .eql=>K (.fl (.bool (decide (m=n)))) hp
  | .neq=>K (.fl (.bool (!decide (m=n)))) hp
  | .lss=>K (.fl (.bool (decide (m < n)))) hp
  | .leq=>K (.fl (.bool (decide (m≤n)))) hp
  | .gtr=>K (.fl (.bool (decide (n < m)))) hp
  | .geq=>K (.fl (.bool (decide (n≤m)))) hp
  | _=>kO (eA T.P o t x y (.int .i64 m) (.int .i64 n)) hp K
 | .sl els _,.fl (.slice none 0 0)=>els ≠ []∧mj T.P t=true∧∃ v,jA o=some (v,.none)∧K (.fl v) hp
 | .dw _ _ _ m _,.fl (.slice none 0 0)=>m ≠ 0∧mj T.P t=true∧∃ v,jA o=some (v,.none)∧K (.fl v) hp
 | .pt _ _,.fl (.pointer none)=>qA T.P t=true∧∃ v,jA o=some (v,.none)∧K (.fl v) hp
 | .ptr _ _ _,.fl (.pointer none)=>qA T.P t=true∧∃ v,jA o=some (v,.none)∧K (.fl v) hp
 | _,_=>∃ v w,a.ig=some v∧b.ig=some w∧kO (eA T.P o t x y v w) hp K
theorem wE {c:Int} (h:-9223372036854775808≤c∧c≤9223372036854775807):yS c=true:=by unfold yS;rw [mX,mX,qq7,decide_eq_true_iff,decide_eq_true_iff];exact ⟨by have e:Int.negSucc 9223372036854775807=-9223372036854775808:=rfl;rw [e];exact h.1,by have e:Int.ofNat 9223372036854775807=9223372036854775807:=rfl;rw [e];exact h.2⟩
theorem MM (a b:Int):Fu a b=decide (a=b):=by
 cases h:Fu a b with
 | true=>exact (decide_eq_true (Ib h)).symm
 | false =>refine (decide_eq_false fun e=>?_).symm;subst e;cases a <;> simp [Fu] at h
theorem nw {o:BinOp} {v:Value} {e:cv} (h:jA o=some (v,e)):bh v=true:=by
 unfold jA at h;split at h
 ·cases h;rfl
 ·cases h;rfl
 ·cases h
theorem Cy (h:aY E base hp aO H) {o:BinOp} {t:TypeId} {x y:Operand} {a b:AV} {u v:Value} (ha:AR E.ρ H.get (E.O hp) a u) (hb:AR E.ρ H.get (E.O hp) b v) {K:AV→List AB→Prop}
  (hw:bw T o t x y a b hp K):eE base E hp aO H (eA T.P o t x y u v) K:=by
 unfold bw at hw;split at hw
 ·rename_i m n;obtain ⟨rfl,_⟩:=ha.gq;obtain ⟨rfl,_⟩:=hb.gq;have key:∀ {z:Value},jU o m n=some z→bh z=true→K (.fl z) hp→eE base E hp aO H (eA T.P o t x y (.int .i64 m) (.int .i64 n)) K:=by intro z hz hf hk;unfold eA;simp only [hz];exact .pure h (.d (.fl hf)) hk
  cases o <;> simp only at hw <;> first
   | exact key (by unfold jU oe;simp only;rw [show Int.add m n=m+n from rfl,wE hw.1];rfl) rfl hw.2
   | exact key (by unfold jU oe;simp only;rw [show Int.sub m n=m - n from rfl,wE hw.1];rfl) rfl hw.2
   | exact key (by unfold jU oe;simp only;rw [show Int.mul m n=m * n from rfl,wE hw.1];rfl) rfl hw.2
   | exact key (by simp only [jU,MM,ox,mX]) rfl hw
   | exact dz h hw
 ·obtain ⟨hne,ht,z,hz,hk⟩:=hw;obtain ⟨rfl,_⟩:=hb.gq
  cases ha.jL with
  | nil=>exact absurd rfl hne
  | sl q1 q2 q3 q4 q5 q6 q7 =>unfold eA;simp only [ht,hz,cond_true];exact .pure h (.d (.fl (nw hz))) hk
 ·obtain ⟨hne,ht,z,hz,hk⟩:=hw;obtain ⟨rfl,_⟩:=hb.gq
  rcases ha.fT with ⟨k,hk2,rfl⟩|⟨rfl,rfl,rfl⟩
  ·unfold eA;simp only [ht,hz,cond_true];exact .pure h (.d (.fl (nw hz))) hk
  ·exact absurd rfl hne
 ·obtain ⟨ht,z,hz,hk⟩:=hw;obtain ⟨rfl,_⟩:=hb.gq
  cases ha.cT with
  | pt =>unfold eA;simp only [ht,hz,cond_true];exact .pure h (.d (.fl (nw hz))) hk
 ·obtain ⟨ht,z,hz,hk⟩:=hw;obtain ⟨rfl,_⟩:=hb.gq;obtain ⟨k,hk2,rfl⟩:=ha.di;unfold eA;simp only [ht,hz,cond_true];exact .pure h (.d (.fl (nw hz))) hk
 ·obtain ⟨v',w',h1,h2,h3⟩:=hw;obtain ⟨rfl,_⟩:=ej h1 ha;obtain ⟨rfl,_⟩:=ej h2 hb;exact dz h h3
def MN (T:bL) (o:UnOp) (a:AV) (hp:List AB) (K:AV→List AB→Prop):Prop :=
 match o,a with
 | .not,.fl (.bool b)=>K (.fl (.bool (!b))) hp
 | _,_=>∃ v,a.ig=some v∧kO (cW (aK T.P (Op.unary o v))) hp K
theorem Ef (h:aY E base hp aO H) {o:UnOp} {a:AV} {u:Value} (ha:AR E.ρ H.get (E.O hp) a u) {K:AV→List AB→Prop} (hw:MN T o a hp K) :
  eE base E hp aO H (bif flat u then cW (aK T.P (Op.unary o u)) else none) K:=by
 unfold MN at hw;split at hw
 ·obtain ⟨rfl,_⟩:=ha.gq;exact .pure h (.d (.fl rfl)) hw
 ·obtain ⟨v,h1,h2⟩:=hw;obtain ⟨rfl,hf⟩:=ej h1 ha;rw [hf];exact dz h h2
def AG (T:bL) (s d:TypeId) (a:AV) (hp:List AB) (K:AV→List AB→Prop):Prop :=
 ∃ v,a.ig=some v∧kO (cW (aK T.P (convert s d v))) hp K
def FG (T:bL) (t:TypeId) (a:AV) (hp:List AB) (K:AV→List AB→Prop):Prop :=
 ∃ v,a.ig=some v∧kO (cW (aK T.P (Instr.makeInterface t v))) hp K
theorem yB (h:aY E base hp aO H) {t:TypeId} {a:AV} {u:Value} (ha:AR E.ρ H.get (E.O hp) a u) {K:AV→List AB→Prop} (hw:FG T t a hp K) :
  eE base E hp aO H (bif flat u then cW (aK T.P (Instr.makeInterface t u)) else none) K:=by
 obtain ⟨v,h1,h2⟩:=hw;obtain ⟨rfl,hf⟩:=ej h1 ha;rw [hf];exact dz h h2
theorem AH (h:aY E base hp aO H) {s d:TypeId} {a:AV} {u:Value} (ha:AR E.ρ H.get (E.O hp) a u) {K:AV→List AB→Prop} (hw:AG T s d a hp K) :
  eE base E hp aO H (bif flat u then cW (aK T.P (convert s d u)) else none) K:=by
 obtain ⟨v,h1,h2⟩:=hw;obtain ⟨rfl,hf⟩:=ej h1 ha;rw [hf];exact dz h h2
def FH (T:bL) (t:TypeId) (a ix:AV) (hp:List AB) (K:AV→List AB→Prop):Prop :=
 ∃ v w,a.ig=some v∧ix.ig=some w∧kO (cW (aK T.P (Instr.index t v w))) hp K
theorem yC (h:aY E base hp aO H) {t:TypeId} {a ix:AV} {u x:Value} (ha:AR E.ρ H.get (E.O hp) a u) (hx:AR E.ρ H.get (E.O hp) ix x) {K:AV→List AB→Prop} (hw:FH T t a ix hp K) :
  eE base E hp aO H (bif flat u && flat x then cW (aK T.P (Instr.index t u x)) else none) K:=by
 obtain ⟨v,w,h1,h2,h3⟩:=hw;obtain ⟨rfl,hf⟩:=ej h1 ha;obtain ⟨rfl,hf'⟩:=ej h2 hx;rw [hf,hf'];exact dz h h3
def Cz (T:bL) (t:TypeId) (a:AV) (i:Nat) (hp:List AB) (K:AV→List AB→Prop):Prop :=
 ∃ v,a.ig=some v∧kO (cW (aK T.P (Instr.field t v i))) hp K
theorem wF (h:aY E base hp aO H) {t:TypeId} {a:AV} {i:Nat} {u:Value} (ha:AR E.ρ H.get (E.O hp) a u) {K:AV→List AB→Prop} (hw:Cz T t a i hp K) :
  eE base E hp aO H (bif flat u then cW (aK T.P (Instr.field t u i)) else none) K:=by
 obtain ⟨v,h1,h2⟩:=hw;obtain ⟨rfl,hf⟩:=ej h1 ha;rw [hf];exact dz h h2
def ki (a:AV) (i:Nat) (hp:List AB) (K:AV→List AB→Prop):Prop :=
 match a with
 | .tp vs=>∃ v,vs[i]?=some v∧K v hp
 | _=>False
theorem AR.wG {vs:List AV} {u:Value} (h:AR ρ g O (.tp vs) u):∃ us:Array Value,u=.tuple us∧gE ρ g O vs us.toList:=by
 cases h with
 | d h=>cases h with
  | tp ha h1=>exact ⟨_,rfl,ha,fun i a u x y=>.d (h1 i a u x y)⟩
 | tp ha h1=>exact ⟨_,rfl,ha,h1⟩
theorem vc (h:aY E base hp aO H) {a:AV} {i:Nat} {u:Value} (ha:AR E.ρ H.get (E.O hp) a u) {K:AV→List AB→Prop} (hw:ki a i hp K):eE base E hp aO H (gi u i) K:=by
 unfold ki at hw;split at hw
 ·obtain ⟨v,h1,h2⟩:=hw;obtain ⟨us,rfl,h3⟩:=ha.wG;obtain ⟨x,h4,h5⟩:=h3.get h1;unfold gi;simp only [h4,Option.map_some];exact .pure h h5 h2
 ·exact hw.elim
def jZ (t:Bool) (a b:AV) (hp:List AB) (K:AV→List AB→Prop):Prop :=
 match a,b with
 | .fl (.bool x),.fl (.bool y)=>K (.fl (.bool (bif t then x else y))) hp
 | a,b=>(t=true→K a hp)∧(t=false→K b hp)
def tE (c a b:AV) (hp:List AB) (K:AV→List AB→Prop):Prop :=
 match c with
 | .fl (.bool t)=>jZ t a b hp K
 | _=>False
theorem AJ (h:aY E base hp aO H) {c a b:AV} {u v w:Value} (hc:AR E.ρ H.get (E.O hp) c u) (ha:AR E.ρ H.get (E.O hp) a v) (hb:AR E.ρ H.get (E.O hp) b w) {K:AV→List AB→Prop} (hw:tE c a b hp K) :
  eE base E hp aO H (uw u v w) K:=by
 unfold tE at hw;split at hw
 ·rename_i t;obtain ⟨rfl,_⟩:=hc.gq;unfold jZ at hw;split at hw
  ·rename_i x y;obtain ⟨rfl,_⟩:=ha.gq;obtain ⟨rfl,_⟩:=hb.gq;unfold uw;refine .pure h (a:=.fl (.bool (bif t then x else y))) ?_ hw;cases t <;> exact .d (.fl rfl)
  ·unfold uw
   cases ht:t with
   | true=>exact .pure h ha (hw.1 ht)
   | false=>exact .pure h hb (hw.2 ht)
 ·exact hw.elim
def sk (a:AV) (hp:List AB) (K:AV→List AB→Prop):Prop :=
 match a with
 | .pt cs o=>K (.pt cs o) hp
 | .ptr j aF o=>K (.ptr j aF o) hp
 | _=>False
theorem CA (h:aY E base hp aO H) {a:AV} {u:Value} (ha:AR E.ρ H.get (E.O hp) a u) {K:AV→List AB→Prop} (hw:sk a hp K):eE base E hp aO H (jc u) K:=by
 unfold sk at hw;split at hw
 ·obtain ⟨k,d,cs',own,e,rfl,_⟩:=ha.cT.cT;exact .pure h ha hw
 ·obtain ⟨k,hk,rfl⟩:=ha.di;exact .pure h ha hw
 ·exact hw.elim
end
section
variable {T : bL} {base : Nat} {E E' : Env} {hp hp' : List AB} {aO : cz} {H H' : Hp} {ρ : Nat → Nat → Option Nat} {g : aG} {O : Nat → Prop}
def CB (place:Nat→Option (Nat × Nat)) (cells:List AV):List (Nat × AV)→Option (List AV)
 | []=>some cells
 | (i,v) :: rest =>
  match place i with
  | none=>none
  | some (off,size)=>bif v.kM && Nat.beq v.cells.length size && Nat.ble (off+size) cells.length then CB place (eX cells v.cells off) rest else none
def oL (ρ:Nat→Nat→Option Nat) (g:aG) (O:Nat→Prop):List (Nat × AV)→List (Nat × Value)→Prop
 | [],[]=>True
 | (i,a) :: l,(k,u) :: m=>i=k∧AR ρ g O a u∧oL ρ g O l m
 | _,_=>False
theorem uH {place:Nat→Option (Nat × Nat)}:∀ {parts:List (Nat × AV)} {parts':List (Nat × Value)} {cells:List AV} {cells':List Value} {cs:List AV},oL ρ g O parts parts'→gE ρ g O cells cells' →
  CB place cells parts=some cs→∃ cs',nO place cells' parts'=some cs'∧gE ρ g O cs cs'
 | [],[],cells,cells',cs,_,hc,h=>by cases h;exact ⟨cells',rfl,hc⟩
 | (i,a) :: l,(k,u) :: m,cells,cells',cs,hp,hc,h=>by
  obtain ⟨rfl,ha,hl⟩:=hp;unfold CB at h;unfold nO
  cases hpl:place i with
  | none=>rw [hpl] at h;cases h
  | some p =>
   obtain ⟨off,size⟩:=p;rw [hpl] at h;simp only at h ⊢
   cases hb:(a.kM && Nat.beq a.cells.length size && Nat.ble (off+size) cells.length) with
   | false=>rw [hb] at h;cases h
   | true =>rw [hb] at h;simp only [cond_true] at h;simp only [qq7] at hb;have hac:=ha.cells hb.1.1;rw [show Nat.beq u.cells.toList.length size=true by rw [←hac.1];exact hb.1.2,show Nat.ble (off+size) cells'.length=true by rw [←hc.1];exact hb.2];exact uH hl (hc.splice hac off) h
 | [],_ :: _,_,_,_,hp,_,_=>hp.elim
 | _ :: _,[],_,_,_,hp,_,_=>by simp [oL] at hp
def nx (T:bL) (t:TypeId) (parts:List (Nat × AV)) (hp:List AB) (K:AV→List AB→Prop):Prop :=
 match T.ty.get t with
 | some ⟨und,_,_,some z,true,cJ,cS⟩=>z.cells.toList.all bh=true∧∃ cs,CB (gW und cJ cS) (z.cells.toList.map .fl) parts=some cs∧K (.ag cs) hp
 | _=>False
theorem yD (h:aY E base hp aO H) {t:TypeId} {parts:List (Nat × AV)} {parts':List (Nat × Value)} (hpt:oL E.ρ H.get (E.O hp) parts parts') {K:AV→List AB→Prop} (hw:nx T t parts hp K) :
  eE base E hp aO H (qz T t parts') K:=by
 unfold nx at hw;split at hw
 ·rename_i und s bytes z cJ cS hty;obtain ⟨h1,cs,h2,h3⟩:=hw;unfold qz;simp only [hty,h1,cond_true];obtain ⟨cs',e1,e2⟩:=uH hpt (gE.AE h1) h2;rw [e1];refine .pure h (a:=.ag cs) (.ag ?_ ?_) h3
  ·simpa using e2.1
  ·intro i x u hx hu;exact e2.2 i x u hx (by simpa using hu)
 ·exact hw.elim
def lF (es:Nat):Nat→List (Nat × AV)→Bool
 | _,[]=>true
 | i,(k,v) :: l=>Nat.beq k i && v.kM && v.cells.all AV.one && Nat.beq v.cells.length es && lF es (i+1) l
theorem zf {es:Nat}:∀ {parts:List (Nat × AV)} {parts':List (Nat × Value)} {i:Nat} {cells:List Value},oL ρ g O parts parts'→lF es i parts=true→cells.length=(i+parts.length) * es →
  ∃ cs',nO (fun i=>some (i * es,es)) cells parts'=some (cells.take (i * es)++cs')∧gE ρ g O (parts.map (·.2.cells)).flatten cs'∧cs'.length=parts.length * es
 | [],[],i,cells,_,_,hl=>by refine ⟨[],?_,.nil,by simp⟩;simp only [List.length_nil,Nat.add_zero] at hl;simp [nO,←hl]
 | (k,a) :: l,(k',u) :: m,i,cells,hp,hok,hlen=>by
  obtain ⟨rfl,ha,hl⟩:=hp;simp only [lF,qq7] at hok;obtain ⟨⟨⟨⟨o1,o2⟩,o3⟩,o4⟩,o5⟩:=hok;obtain rfl:=Nat.eq_of_beq_eq_true o1;have hac:=ha.cells o2;have hes:=Nat.eq_of_beq_eq_true o4;have hlen':cells.length=k * es+es+l.length * es:=by rw [hlen];simp only [List.length_cons];rw [Nat.add_mul,Nat.add_mul];omega
  unfold nO;simp only;rw [show Nat.beq u.cells.toList.length es=true by rw [←hac.1];exact o4,show Nat.ble (k * es+es) cells.length=true from Nat.ble_eq_true_of_le (by omega)];simp only [Bool.and_self,cond_true];have hsl:(splice cells u.cells.toList (k * es)).length=cells.length:=by unfold RM.splice;simp only [List.length_append,List.length_take,List.length_drop];rw [←hac.1,hes];omega
  obtain ⟨cs',e1,e2,e3⟩:=zf (i:=k+1) (cells:=splice cells u.cells.toList (k * es)) hl o5 (by rw [hsl,hlen];simp only [List.length_cons];rw [show k+1+l.length=k+(l.length+1) by omega]);refine ⟨u.cells.toList++cs',?_,?_,?_⟩
  ·rw [e1]
   congr 1
   rw [←List.append_assoc]
   congr 1
   unfold RM.splice;rw [Nat.add_mul,Nat.one_mul,List.take_append_of_le_length (by simp only [List.length_append,List.length_take];rw [←hac.1,hes];omega)];rw [List.take_of_length_le];simp only [List.length_append,List.length_take];rw [←hac.1,hes];omega
  ·simp only [List.map_cons,List.flatten_cons];exact hac.append e2
  ·simp only [List.length_append,List.length_cons,e3];rw [←hac.1,hes,Nat.add_mul];omega
 | [],_ :: _,_,_,hp,_,_=>hp.elim
 | _ :: _,[],_,_,hp,_,_=>by simp [oL] at hp
theorem uI {es:Nat}:∀ {l:List (Nat × AV)} {i:Nat},lF es i l=true→∀ p ∈ l,p.2.cells.length=es∧p.2.cells.all AV.one=true
 | [],_,_,p,hp=>by cases hp
 | (k,v) :: l,i,h,p,hp=>by
  simp only [lF,qq7] at h
  rcases List.mem_cons.1 hp with rfl|hp
  ·exact ⟨Nat.eq_of_beq_eq_true h.1.2,h.1.1.2⟩
  ·exact uI h.2 p hp
theorem fH {α:Type} {es:Nat}:∀ {els:List (List α)},(∀ el ∈ els,el.length=es)→∀ (i:Nat) (el:List α) (j:Nat),els[i]?=some el→j < es→els.flatten[i * es+j]?=el[j]?
 | [],_,i,el,j,h,_=>by cases h
 | x :: l,hl,i,el,j,h,hj=>by
  have hx:=hl x (by simp);rw [List.flatten_cons]
  cases i with
  | zero =>cases h;rw [Nat.zero_mul,Nat.zero_add,List.getElem?_append_left (by omega)]
  | succ i =>rw [List.getElem?_append_right (by rw [hx,Nat.add_mul];omega),hx,show (i+1) * es+j - es=i * es+j by rw [Nat.add_mul];omega];exact fH (fun e he=>hl e (List.mem_cons_of_mem _ he)) i el j (by simpa using h) hj
theorem dR {α:Type} {es:Nat}:∀ {els:List (List α)},(∀ el ∈ els,el.length=es)→els.flatten.length=els.length * es
 | [],_=>by simp
 | x :: l,h=>by rw [List.flatten_cons,List.length_append,dR (fun e he=>h e (List.mem_cons_of_mem _ he)),h x (by simp),List.length_cons,Nat.add_mul];omega
theorem DR.row {k n:Nat} {els:List (List AV)} {cs:List Value} {own full:Bool} {es e c:Nat} (hg:g k=some (.cells cs own e)) (hO:¬ O k) (hel:∀ el ∈ els,el.length=es) (hn:els.length=n) (hc:tD g O els.flatten cs) (hf:full=true→c=n) :
  DR g O (.sl els full) (.slice (some ⟨k,0,none⟩) n c):=by
 refine .sl (es:=es) hg hO ?_ hn (fun i el h=>hel el (List.mem_of_getElem? h)) (fun i el j a u h1 h2 h3=>?_) hf
 ·rw [←hc.1,dR hel,hn];omega
 ·have hj:j < es:=by rw [←hel el (List.mem_of_getElem? h1)];exact (List.getElem?_eq_some_iff.1 h2).1
  rw [Nat.zero_add] at h3;exact hc.2 _ a u (by rw [fH hel i el j h1 hj];exact h2) h3
def dO (T:bL) (own:Bool) (t:TypeId) (len:Nat) (parts:List (Nat × AV)) (hp:List AB) (K:AV→List AB→Prop):Prop :=
 match elem? T t with
 | some inf=>Nat.ble (len * inf.size) 65536=true∧bZ inf=true∧lF inf.size 0 parts=true∧Nat.beq parts.length len=true ∧
  match own with
  | true=>K (.dw hp.length 0 0 len len) (hp++[.cells (parts.map (·.2.cells)).flatten inf.size 0])
  | false=>bG (parts.map (·.2.cells)).flatten=true∧K (.sl (parts.map (·.2.cells)) true) hp
 | none=>False
theorem qL (h:aY E base hp aO H) {own:Bool} {t:TypeId} {len:Nat} {parts:List (Nat × AV)} {parts':List (Nat × Value)} (hpt:oL E.ρ H.get (E.O hp) parts parts') {K:AV→List AB→Prop}
  (hw:dO T own t len parts hp K):eE base E hp aO H (ic T H.n t len parts') K:=by
 unfold dO at hw;split at hw
 ·rename_i inf hi;obtain ⟨h1,h2,h3,h4,h5⟩:=hw;have h4:=Nat.eq_of_beq_eq_true h4;unfold ic;simp only [hi,h1,h2,Bool.and_self,cond_true];obtain ⟨cs',e1,e2,e3⟩:=zf (es:=inf.size) (i:=0) (cells:=cr ((inf.zero.map fun z=>z.cells.toList).getD []) (len * inf.size)) hpt h3 (by rw [Nat.zero_add,h4];simp [cr]);rw [e1];simp only [Nat.zero_mul,List.take_zero,List.nil_append]
  cases own with
  | true=>exact .new h (x:=.cells (parts.map (·.2.cells)).flatten inf.size 0) rfl (fun E' H' e=>⟨_,rfl,e.FF h.wf e2⟩) (fun E' hr=>.dw hr) h5
  | false =>
   obtain ⟨h5,h6⟩:=h5;refine .vj h (fun e hg hO=>.d (.row hg hO (es:=inf.size) (fun el he=>?_) (by simp [h4]) ?_ (fun _=>rfl))) h6
   ·obtain ⟨p,hp',rfl⟩:=List.mem_map.1 he;exact (uI h3 p hp').1
   ·have:=(e.FF h.wf e2).deep h5;exact this
 ·exact hw.elim
def qm (o:Option AV) (d l:Nat):Prop :=
 match o with
 | none=>l=d
 | some a=>asInt a=some (l:Int)
def GX (ρ:Nat→Nat→Option Nat) (g:aG) (O:Nat→Prop):Option AV→Option Value→Prop
 | none,none=>True
 | some a,some u=>AR ρ g O a u
 | _,_=>False
theorem eH {o:Option AV} {o':Option Value} {d l:Nat} (h:qm o d l) (ho:GX ρ g O o o'):dL d o'=some l:=by
 cases o with
 | none=>cases o' with
  | none=>cases h;rfl
  | some=>exact ho.elim
 | some a=>cases o' with
  | none=>exact ho.elim
  | some u =>
   have:=jq h ho;unfold intOf? at this;split at this
   ·cases this;unfold dL jR;simp only [Int.toNat_natCast];rw [decide_eq_false (by omega)];rfl
   ·cases this
def sq (T:bL) (t:TypeId) (x:AV) (lo hi:Option AV) (hp:List AB) (K:AV→List AB→Prop):Prop :=
 match x with
 | .fl (.string s)=>∃ lo' hi':Option Value,lo.map AV.ig=lo'.map some∧hi.map AV.ig=hi'.map some∧kO (cW (aK T.P (Instr.sliceAt t (.string s) lo' hi' none))) hp K
 | .sl els full=>match elem? T t with
  | some inf=>∃ l h:Nat,qm lo 0 l∧qm hi els.length h∧(l≤h∧h≤els.length)∧1≤inf.size∧(∀ el ∈ els,el.length=inf.size)∧K (.sl ((els.drop l).take (h - l)) (full && Nat.beq h els.length)) hp
  | none=>False
 | .dw j aF o n c=>match elem? T t with
  | some inf=>∃ l h:Nat,qm lo 0 l∧qm hi n h∧(l≤h∧h≤n)∧1≤inf.size∧K (.dw j aF (o+l * inf.size) (h - l) (bif Nat.beq h n && Nat.beq c n then h - l else bif Nat.beq h n then h - l+2 else h - l+3+(n - h))) hp
  | none=>False
 | .pt cs o=>match T.ty.get t with
  | some ⟨.array len _,_,_,_,_,_,cS⟩=>∃ (l h:Nat) (els:List (List AV)),qm lo 0 l∧qm hi len h∧(l≤h∧h≤len∧o+h * cS≤cs.length)∧1≤cS∧(els.length=h - l∧(∀ el ∈ els,el.length=cS)∧els.flatten=(cs.drop (o+l * cS)).take ((h - l) * cS))∧K (.sl els (Nat.beq h len)) hp
  | _=>False
 | _=>False
theorem yE (h:aY E base hp aO H) {t:TypeId} {x:AV} {u:Value} {lo hi:Option AV} {lo' hi':Option Value} (hx:AR E.ρ H.get (E.O hp) x u) (hlo:GX E.ρ H.get (E.O hp) lo lo') (hhi:GX E.ρ H.get (E.O hp) hi hi')
  {K:AV→List AB→Prop} (hw:sq T t x lo hi hp K):eE base E hp aO H (gj T t u lo' hi') K:=by
 unfold sq at hw;split at hw
 ·rename_i s;obtain ⟨rfl,_⟩:=hx.gq;obtain ⟨l',h',h1,h2,h3⟩:=hw
  have key:∀ {o:Option AV} {o' o'':Option Value},GX E.ρ H.get (E.O hp) o o'→o.map AV.ig=o''.map some→o'=o''∧o'.toList.all flat=true:=by
   intro o o' o'' ho he
   cases o with
   | none=>cases o' with
    | none=>cases o'' with
     | none=>exact ⟨rfl,rfl⟩
     | some=>cases he
    | some=>exact ho.elim
   | some a=>cases o' with
    | none=>exact ho.elim
    | some v=>cases o'' with
     | none=>cases he
     | some w =>simp only [Option.map_some,qq9] at he;obtain ⟨rfl,hf⟩:=ej he ho;exact ⟨rfl,by simp [hf]⟩
  obtain ⟨rfl,f1⟩:=key hlo h1;obtain ⟨rfl,f2⟩:=key hhi h2;unfold gj;simp only [f1,f2,Bool.and_self,cond_true];exact dz h h3
 ·rename_i els full;split at hw
  ·rename_i inf hi';obtain ⟨l,m,h1,h2,⟨h3,h4⟩,h5,h6,h7⟩:=hw;have e1:=eH h1 hlo
   cases hx.jL with
   | nil =>
    have e2:=eH h2 hhi;simp only [List.length_nil] at h4 e2;obtain rfl:m=0:=by omega
    obtain rfl:l=0:=by omega
    unfold gj qy;simp only [hi',e1,e2];rw [show Nat.ble 1 inf.size=true from Nat.ble_eq_true_of_le h5];exact .pure h (.d .nil) h7
   | sl q1 q2 q3 q4 q5 q6 q7 =>
    rename_i k o n c es cs own e;rw [q4] at h2 h4 h7;have e2:=eH h2 hhi;unfold gj qy;simp only [hi',e1,e2];rw [show Nat.ble 1 inf.size=true from Nat.ble_eq_true_of_le h5,show Nat.ble l m=true from Nat.ble_eq_true_of_le h3,show Nat.ble m n=true from Nat.ble_eq_true_of_le h4];simp only [Bool.and_self,cond_true,Option.map_some]
    have hes:els ≠ []→es=inf.size:=by
     intro hne
     cases els with
     | nil=>exact absurd rfl hne
     | cons x l=>rw [←q5 0 x rfl];exact h6 x (by simp)
    by_cases hne:els=[]
    ·subst hne;simp only [List.length_nil] at q4;subst q4;obtain rfl:m=0:=by omega
     obtain rfl:l=0:=by omega
     refine .pure h (a:=_) (.d (.sl (es:=es) q1 q2 ?_ ?_ ?_ ?_ ?_)) h7
     ·simpa using q3
     ·simp
     ·intro i el hel;simp at hel
     ·intro i el j a u hel;simp at hel
     ·intro hf;simp only [qq7] at hf;rw [q7 hf.1];rfl
    ·have hes:=hes hne;subst hes;refine .pure h (a:=_) (.d (.sl (es:=inf.size) q1 q2 ?_ ?_ ?_ ?_ ?_)) h7
     ·have:l * inf.size+(m - l) * inf.size≤n * inf.size:=by rw [←Nat.add_mul];exact Nat.mul_le_mul_right _ (by omega)
      omega
     ·simp only [List.length_take,List.length_drop];omega
     ·intro i el hel;rw [List.getElem?_take] at hel;split at hel
      ·rw [List.getElem?_drop] at hel;exact q5 _ el hel
      ·cases hel
     ·intro i el j a u hel ha hu;rw [List.getElem?_take] at hel;split at hel
      ·rw [List.getElem?_drop] at hel;refine q6 _ el j a u hel ha ?_;rw [Nat.add_mul];rw [show o+(l * inf.size+i * inf.size)+j=o+l * inf.size+i * inf.size+j by omega];exact hu
      ·cases hel
     ·intro hf;simp only [qq7] at hf;rw [hf.2,q7 hf.1,Nat.beq_refl];rfl
  ·exact hw.elim
 ·rename_i j aF o n c;split at hw
  ·rename_i inf hi';obtain ⟨l,m,h1,h2,⟨h3,h4⟩,h5,h7⟩:=hw;have e1:=eH h1 hlo;have e2:=eH h2 hhi
   rcases hx.fT with ⟨k,hk,rfl⟩|⟨rfl,rfl,rfl⟩
   ·unfold gj qy;simp only [hi',e1,e2];rw [show Nat.ble 1 inf.size=true from Nat.ble_eq_true_of_le h5,show Nat.ble l m=true from Nat.ble_eq_true_of_le h3,show Nat.ble m n=true from Nat.ble_eq_true_of_le h4];simp only [Bool.and_self,cond_true,Option.map_some];exact .pure h (.dw hk) h7
   ·obtain rfl:m=0:=by omega
    obtain rfl:l=0:=by omega
    unfold gj qy;simp only [hi',e1,e2];rw [show Nat.ble 1 inf.size=true from Nat.ble_eq_true_of_le h5];simp only [Nat.zero_mul,Nat.add_zero] at h7;exact .pure h .rZ h7
  ·exact hw.elim
 ·rename_i cs o;split at hw
  ·rename_i len el sz by' z ag fl cS hty
   obtain ⟨l,m,els,h1,h2,⟨h3,h4,h5⟩,h6,⟨e1,e2,e3⟩,h7⟩:=hw;have n1:=eH h1 hlo;have n2:=eH h2 hhi;obtain ⟨k,d,cs',own,e,rfl,q1,q2,q3,q4⟩:=hx.cT.cT;unfold gj pe;simp only [hty,n1,n2,addr?];rw [show Nat.ble 1 cS=true from Nat.ble_eq_true_of_le h6,show Nat.ble l m=true from Nat.ble_eq_true_of_le h3,show Nat.ble m len=true from Nat.ble_eq_true_of_le h4];simp only [Bool.and_self,cond_true,Option.map_some];have hmul:l * cS+(m - l) * cS=m * cS:=by rw [←Nat.add_mul];congr 1;omega
   refine .pure h (a:=_) (.d (.sl (es:=cS) q1 q2 ?_ ?_ ?_ ?_ ?_)) h7
   ·omega
   ·exact e1
   ·intro i x hx;exact e2 x (List.mem_of_getElem? hx)
   ·intro i x j a u hx ha hu;have hj:j < cS:=by rw [←e2 x (List.mem_of_getElem? hx)];exact (List.getElem?_eq_some_iff.1 ha).1
    have hat:=fH e2 i x j hx hj;have hi:i < m - l:=by rw [←e1];exact (List.getElem?_eq_some_iff.1 hx).1
    rw [e3,List.getElem?_take,List.getElem?_drop] at hat;have hlt:i * cS+j < (m - l) * cS:=by have:(i+1) * cS≤(m - l) * cS:=Nat.mul_le_mul_right _ hi;rw [Nat.add_mul,Nat.one_mul] at this;omega
    rw [if_pos hlt,ha] at hat;refine q4 _ a u hat ?_;rw [show d+(o+l * cS+(i * cS+j))=d+o+l * cS+i * cS+j by omega];exact hu
   ·intro hf;rw [hf];rfl
  ·exact hw.elim
 ·exact hw.elim
def wH (T:bL) (t:TypeId) (x:AV) (lo:Option AV) (hi mx:AV) (hp:List AB) (K:AV→List AB→Prop):Prop :=
 match x,elem? T t with
 | .fl (.slice none 0 0),some inf=>qm lo 0 0∧asInt hi=some 0∧asInt mx=some 0∧1≤inf.size∧K (.fl (.slice none 0 0)) hp
 | .sl els _,some inf=>∃ l h:Nat,qm lo 0 l∧asInt hi=some h∧asInt mx=some h∧(l≤h∧h≤els.length)∧1≤inf.size∧(∀ el ∈ els,el.length=inf.size)∧K (.sl ((els.drop l).take (h - l)) true) hp
 | .dw j aF o n _,some inf=>∃ l h:Nat,qm lo 0 l∧asInt hi=some h∧asInt mx=some h∧(l≤h∧h≤n)∧1≤inf.size∧K (.dw j aF (o+l * inf.size) (h - l) (h - l)) hp
 | _,_=>False
theorem wI (h:aY E base hp aO H) {t:TypeId} {x hi mx:AV} {u hi' mx':Value} {lo:Option AV} {lo':Option Value} (hx:AR E.ρ H.get (E.O hp) x u) (hlo:GX E.ρ H.get (E.O hp) lo lo') (hhi:AR E.ρ H.get (E.O hp) hi hi') (hmx:AR E.ρ H.get (E.O hp) mx mx')
  {K:AV→List AB→Prop} (hw:wH T t x lo hi mx hp K):eE base E hp aO H ((jT T t u lo' hi' mx').map fun v=>(v,.none)) K:=by
 have nat:∀ {a:AV} {u:Value} {n:Nat},asInt a=some (n:Int)→AR E.ρ H.get (E.O hp) a u→jR u=some n:=fun {a u n} h1 h2=>eH (o:=some a) (o':=some u) (d:=0) h1 h2;unfold wH at hw;split at hw
 ·rename_i inf he;obtain ⟨h1,h2,h3,h5,h7⟩:=hw;obtain ⟨rfl,_⟩:=hx.gq;have n1:=eH h1 hlo;have n2:=nat (n:=0) h2 hhi;have n3:=nat (n:=0) h3 hmx;unfold jT;simp only [he,n1,n2,n3];rw [show Nat.ble 1 inf.size=true from Nat.ble_eq_true_of_le h5];exact .pure h hx h7
 ·rename_i els full inf he;obtain ⟨l,m,h1,h2,h3,⟨h4,h5⟩,h6,h8,h7⟩:=hw;have n1:=eH h1 hlo;have n2:=nat h2 hhi;have n3:=nat h3 hmx
  cases hx.jL with
  | nil =>
   simp only [List.length_nil] at h5;obtain rfl:m=0:=by omega
   obtain rfl:l=0:=by omega
   unfold jT;simp only [he,n1,n2,n3];rw [show Nat.ble 1 inf.size=true from Nat.ble_eq_true_of_le h6];exact .pure h (.d .nil) h7
  | sl q1 q2 q3 q4 q5 q6 q7 =>
   rename_i k o n c es cs own e;rw [q4] at h5;unfold jT;simp only [he,n1,n2,n3];rw [show Nat.ble 1 inf.size=true from Nat.ble_eq_true_of_le h6,show Nat.ble l m=true from Nat.ble_eq_true_of_le h4,show Nat.ble m n=true from Nat.ble_eq_true_of_le h5,show Nat.ble m m=true from Nat.ble_eq_true_of_le (qq6 m),Nat.beq_refl];simp only [Bool.and_self,cond_true,Option.map_some];by_cases hne:els=[]
   ·subst hne;simp only [List.length_nil] at q4;subst q4;obtain rfl:m=0:=by omega
    obtain rfl:l=0:=by omega
    refine .pure h (a:=_) (.d (.sl (es:=es) q1 q2 ?_ ?_ ?_ ?_ ?_)) h7
    ·simpa using q3
    ·simp
    ·intro i el hel;simp at hel
    ·intro i el j a u hel;simp at hel
    ·intro _;rfl
   ·have hes:es=inf.size:=by
     cases els with
     | nil=>exact absurd rfl hne
     | cons x l=>rw [←q5 0 x rfl];exact h8 x (by simp)
    subst hes;refine .pure h (a:=_) (.d (.sl (es:=inf.size) q1 q2 ?_ ?_ ?_ ?_ ?_)) h7
    ·have:l * inf.size+(m - l) * inf.size≤n * inf.size:=by rw [←Nat.add_mul];exact Nat.mul_le_mul_right _ (by omega)
     omega
    ·simp only [List.length_take,List.length_drop];omega
    ·intro i el hel;rw [List.getElem?_take] at hel;split at hel
     ·rw [List.getElem?_drop] at hel;exact q5 _ el hel
     ·cases hel
    ·intro i el j a u hel ha hu;rw [List.getElem?_take] at hel;split at hel
     ·rw [List.getElem?_drop] at hel;refine q6 _ el j a u hel ha ?_;rw [Nat.add_mul];rw [show o+(l * inf.size+i * inf.size)+j=o+l * inf.size+i * inf.size+j by omega];exact hu
     ·cases hel
    ·intro _;rfl
 ·rename_i j aF o n c inf he;obtain ⟨l,m,h1,h2,h3,⟨h4,h5⟩,h6,h7⟩:=hw;have n1:=eH h1 hlo;have n2:=nat h2 hhi;have n3:=nat h3 hmx
  rcases hx.fT with ⟨k,hk,rfl⟩|⟨rfl,rfl,rfl⟩
  ·unfold jT;simp only [he,n1,n2,n3];rw [show Nat.ble 1 inf.size=true from Nat.ble_eq_true_of_le h6,show Nat.ble l m=true from Nat.ble_eq_true_of_le h4,show Nat.ble m n=true from Nat.ble_eq_true_of_le h5,show Nat.ble m m=true from Nat.ble_eq_true_of_le (qq6 m),Nat.beq_refl];simp only [Bool.and_self,cond_true,Option.map_some];exact .pure h (.dw hk) h7
  ·obtain rfl:m=0:=by omega
   obtain rfl:l=0:=by omega
   unfold jT;simp only [he,n1,n2,n3];rw [show Nat.ble 1 inf.size=true from Nat.ble_eq_true_of_le h6];simp only [Nat.zero_mul,Nat.add_zero] at h7;exact .pure h .rZ h7
 ·exact hw.elim
def zeroCells (inf:yR):List Value:=(inf.zero.map fun z=>z.cells.toList).getD []
theorem yF {inf:yR} (h:bZ inf=true) (n:Nat):(cr (zeroCells inf) (n * inf.size)).all bh=true:=by
 unfold bZ at h;split at h
 ·rename_i z hz;simp only [qq7] at h;obtain ⟨⟨h1,h2⟩,h3⟩:=h;have h1:=Nat.eq_of_beq_eq_true h1;have h2:=Nat.le_of_ble_eq_true h2;unfold cr zeroCells;rw [hz,List.all_map,List.all_eq_true];intro i hi;simp only [Option.map_some,Option.getD_some,Function.comp];rw [List.all_eq_true] at h3;have hlt:i % z.cells.toList.length < z.cells.toList.length:=Nat.mod_lt _ (by omega);rw [List.getD_eq_getElem?_getD,List.getElem?_eq_getElem hlt];exact h3 _ (List.getElem_mem hlt)
 ·cases h
def wJ (T:bL) (t:TypeId) (ln cp:AV) (hp:List AB) (K:AV→List AB→Prop):Prop :=
 match elem? T t with
 | some inf=>∃ l c:Nat,asInt ln=some (l:Int)∧asInt cp=some (c:Int)∧(l≤c∧inf.bytes * c≤140737488355328∧c≤9223372036854775807)∧bZ inf=true ∧
  K (.dw hp.length 0 0 l (bif Nat.beq l c then l else l+1)) (hp++[.cells ((cr (zeroCells inf) (l * inf.size)).map .fl) inf.size 0])
 | none=>False
theorem zg {a:AV} {n:Nat} {u:Value} (h:asInt a=some (n:Int)) (ha:AR ρ g O a u):jR u=some n:=eH (o:=some a) (o':=some u) (d:=0) h ha
theorem AK (h:aY E base hp aO H) {t:TypeId} {ln cp:AV} {u v:Value} (hl:AR E.ρ H.get (E.O hp) ln u) (hc:AR E.ρ H.get (E.O hp) cp v) {K:AV→List AB→Prop} (hw:wJ T t ln cp hp K) :
  eE base E hp aO H (jb T H.n t u v) K:=by
 unfold wJ at hw;split at hw
 ·rename_i inf hi;obtain ⟨l,c,h1,h2,⟨h3,h4,h5⟩,h6,h7⟩:=hw;unfold jb;simp only [hi,zg h1 hl,zg h2 hc];rw [show Nat.ble l c=true from Nat.ble_eq_true_of_le h3,show Nat.ble (inf.bytes * c) 140737488355328=true from Nat.ble_eq_true_of_le h4,show Nat.ble c 9223372036854775807=true from Nat.ble_eq_true_of_le h5,h6];simp only [Bool.and_self,cond_true];exact .new h (x:=.cells ((cr (zeroCells inf) (l * inf.size)).map .fl) inf.size 0) rfl (fun E' H' e=>⟨_,rfl,.AE (yF h6 l)⟩) (fun E' hr=>.dw hr) h7
 ·exact hw.elim
def sv (T:bL) (t:TypeId) (x:AV) (hp:List AB) (K:AV→List AB→Prop):Prop :=
 match T.ty.get t,x with
 | some ⟨.slice _,_,_,_,_,_,_⟩,.sl els _=>K (.fl (.int .i64 els.length)) hp
 | some ⟨.slice _,_,_,_,_,_,_⟩,.dw _ _ _ n _=>K (.fl (.int .i64 n)) hp
 | some ⟨.slice _,_,_,_,_,_,_⟩,.fl (.slice _ n _)=>K (.fl (.int .i64 n)) hp
 | some ⟨.array n _,_,_,_,_,_,_⟩,_=>K (.fl (.int .i64 n)) hp
 | some ⟨.string,_,_,_,_,_,_⟩,.fl (.string s)=>K (.fl (.int .i64 s.data.toList.length)) hp
 | some ⟨.map ..,_,_,_,_,_,_⟩,.om j=>∃ ents clock,hp[j]?=some (.map ents clock)∧K (.fl (.int .i64 ents.length)) hp
 | _,_=>False
theorem AR.oM {j:Nat} {u:Value} (h:AR ρ g O (.om j) u):∃ k,ρ j 0=some k∧u=.map (some k):=by
 cases h with
 | d h=>cases h
 | om h=>exact ⟨_,h,rfl⟩
theorem aY.map (h:aY E base hp aO H) {j k clock:Nat} {ents:List (AV × AV × Nat)} (hj:hp[j]?=some (.map ents clock)) (hk:E.ρ j 0=some k):∃ es,H.get k=some (.map es clock)∧ents.length=es.length ∧
  ∀ (i:Nat) (k v:AV) (born:Nat) (e:MapEntry),ents[i]?=some (k,v,born)→es[i]?=some e→AR E.ρ H.get (E.O hp) k e.key∧AR E.ρ H.get (E.O hp) v e.val∧e.born=born:=by
 rcases h.gT j _ 0 hj rfl with ⟨k',b',h1,h2,h3⟩|⟨h1,_,h2⟩
 ·rw [hk] at h1;cases h1;obtain ⟨es,rfl,h4,h5⟩:=h3;exact ⟨es,h2,h4,h5⟩
 ·cases h2
theorem CC (h:aY E base hp aO H) {t:TypeId} {x:AV} {u:Value} (hx:AR E.ρ H.get (E.O hp) x u) {K:AV→List AB→Prop} (hw:sv T t x hp K):eE base E hp aO H (kA T t u H.get) K:=by
 have num:∀ (n:Nat),AR E.ρ H.get (E.O hp) (.fl (.int .i64 n)) (.int .i64 n):=fun n=>.d (.fl rfl);unfold sv at hw;unfold kA;split at hw
 ·rename_i e s b z a f es els full hty;rw [hty]
  cases hx.jL with
  | nil=>exact .pure h (num 0) hw
  | sl q1 q2 q3 q4 q5 q6 q7=>rw [q4] at hw;exact .pure h (num _) hw
 ·rename_i hty;rw [hty]
  rcases hx.fT with ⟨k,hk,rfl⟩|⟨rfl,rfl,rfl⟩
  ·exact .pure h (num _) hw
  ·exact .pure h (num 0) hw
 ·rename_i hty;rw [hty];obtain ⟨rfl,_⟩:=hx.gq;exact .pure h (num _) hw
 ·rename_i hty;rw [hty];exact .pure h (num _) hw
 ·rename_i hty;rw [hty];obtain ⟨rfl,_⟩:=hx.gq;exact .pure h (num _) hw
 ·rename_i j hty;rw [hty];obtain ⟨ents,clock,h1,h2⟩:=hw;obtain ⟨k,hk,rfl⟩:=hx.oM;obtain ⟨es,q1,q2,_⟩:=h.map h1 hk;simp only [q1,map?];rw [←q2];exact .pure h (num _) h2
 ·exact hw.elim
def FI (T:bL) (args:List AV) (hp:List AB) (K:AV→List AB→Prop):Prop :=
 match args with
 | [.fl (.int .i64 x),.fl (.int .i64 y)]=>K (.fl (.int .i64 (min x y))) hp
 | l=>∃ vs,Ee l=some vs∧kO (zY T.P vs) hp K
def FJ (T:bL) (args:List AV) (hp:List AB) (K:AV→List AB→Prop):Prop :=
 match args with
 | [.fl (.int .i64 x),.fl (.int .i64 y)]=>K (.fl (.int .i64 (max x y))) hp
 | l=>∃ vs,Ee l=some vs∧kO (zZ T.P vs) hp K
theorem gE.two {a b:AV} {l:List Value} (h:gE ρ g O [a,b] l):∃ u v,l=[u,v]∧AR ρ g O a u∧AR ρ g O b v:=by
 match l,h with
 | [u,v],h=>exact ⟨u,v,rfl,h.2 0 a u rfl rfl,h.2 1 b v rfl rfl⟩
 | [],h=>exact absurd h.1 (by simp)
 | [_],h=>exact absurd h.1 (by simp)
 | _ :: _ :: _ :: _,h=>exact absurd h.1 (by simp)
theorem CD (h:aY E base hp aO H) {args:List AV} {us:List Value} (ha:gE E.ρ H.get (E.O hp) args us) {K:AV→List AB→Prop} (hw:FI T args hp K):eE base E hp aO H (zY T.P us) K:=by
 unfold FI at hw;split at hw
 ·rename_i x y;obtain ⟨u,v,rfl,h1,h2⟩:=ha.two;obtain ⟨rfl,_⟩:=h1.gq;obtain ⟨rfl,_⟩:=h2.gq;unfold zY;simp only
  have e:(bif Gx y x then y else x)=min x y:=by
   rw [ox];by_cases hxy:y < x
   ·rw [decide_eq_true hxy];simp only [cond_true];omega
   ·rw [decide_eq_false hxy];simp only [cond_false];omega
  rw [e];exact .pure h (.d (.fl rfl)) hw
 ·obtain ⟨vs,h1,h2⟩:=hw;have:=pN h1;subst this;rw [ha.gq.1];exact dz h h2
theorem CE (h:aY E base hp aO H) {args:List AV} {us:List Value} (ha:gE E.ρ H.get (E.O hp) args us) {K:AV→List AB→Prop} (hw:FJ T args hp K):eE base E hp aO H (zZ T.P us) K:=by
 unfold FJ at hw;split at hw
 ·rename_i x y;obtain ⟨u,v,rfl,h1,h2⟩:=ha.two;obtain ⟨rfl,_⟩:=h1.gq;obtain ⟨rfl,_⟩:=h2.gq;unfold zZ;simp only
  have e:(bif Gx x y then y else x)=max x y:=by
   rw [ox];by_cases hxy:x < y
   ·rw [decide_eq_true hxy];simp only [cond_true];omega
   ·rw [decide_eq_false hxy];simp only [cond_false];omega
  rw [e];exact .pure h (.d (.fl rfl)) hw
 ·obtain ⟨vs,h1,h2⟩:=hw;have:=pN h1;subst this;rw [ha.gq.1];exact dz h h2
end
section
variable {T : bL} {base : Nat} {E E' : Env} {hp hp' : List AB} {aO : cz} {H H' : Hp} {ρ : Nat → Nat → Option Nat} {g : aG} {O : Nat → Prop}
def tF:List (AV × AV × Nat)→Option (List Value)
 | []=>some []
 | (k,_,_) :: l=>match k.ig,tF l with
  | some v,some vs=>some (v :: vs)
  | _,_=>none
def fU (ρ:Nat→Nat→Option Nat) (g:aG) (O:Nat→Prop) (ents:List (AV × AV × Nat)) (es:List MapEntry):Prop :=
 ents.length=es.length∧∀ (i:Nat) (k v:AV) (born:Nat) (e:MapEntry),ents[i]?=some (k,v,born)→es[i]?=some e→AR ρ g O k e.key∧AR ρ g O v e.val∧e.born=born
theorem fU.keys:∀ {ents:List (AV × AV × Nat)} {es:List MapEntry} {ks:List Value},fU ρ g O ents es→tF ents=some ks→es.map (·.key)=ks
 | [],es,ks,h,hk=>by cases hk;have:=h.1;rw [List.length_nil] at this;rw [List.eq_nil_of_length_eq_zero this.symm];rfl
 | (k,v,b) :: ents,[],ks,h,hk=>absurd h.1 (by simp)
 | (k,v,b) :: ents,e :: es,ks,h,hk=>by
  unfold tF at hk;split at hk
  ·rename_i kv vs h1 h2;cases hk;have hh:fU ρ g O ents es:=⟨by simpa using h.1,fun i k v b e x y=>h.2 (i+1) k v b e (by simpa using x) (by simpa using y)⟩;rw [List.map_cons,hh.keys h2,(ej h1 (h.2 0 k v b e rfl rfl).1).1]
  ·cases hk
theorem fU.empty {ents:List (AV × AV × Nat)} {es:List MapEntry} (h:fU ρ g O ents es):es.isEmpty=ents.isEmpty:=by have:=h.1;cases ents <;> cases es <;> simp_all
theorem fU.get {ents:List (AV × AV × Nat)} {es:List MapEntry} (h:fU ρ g O ents es) {i:Nat} {p:AV × AV × Nat} (hi:ents[i]?=some p):∃ e,es[i]?=some e∧AR ρ g O p.1 e.key∧AR ρ g O p.2.1 e.val∧e.born=p.2.2:=by
 have hlt:i < es.length:=by rw [←h.1];exact (List.getElem?_eq_some_iff.1 hi).1
 obtain ⟨k,v,b⟩:=p;exact ⟨es[i],List.getElem?_eq_getElem hlt,h.2 i k v b _ hi (List.getElem?_eq_getElem hlt)⟩
def IG (T:bL) (emp:Bool) (kt:TypeId) (kv:Value) (ks:List Value) (r:Option Nat):Prop:=∀ es:List MapEntry,es.map (·.key)=ks→od T.P emp kt kv es=some r
def wK (T:bL) (t:TypeId) (m k:AV) (ok:Bool) (hp:List AB) (K:AV→List AB→Prop):Prop :=
 match m with
 | .om j=>∃ ents clock ks kv kt z r,hp[j]?=some (.map ents clock)∧tF ents=some ks∧k.ig=some kv∧ku T t=some (kt,some z)∧IG T ents.isEmpty kt kv ks r ∧
  match r with
  | some i=>∃ e,ents[i]?=some e∧K (bif ok then .tp [e.2.1,.fl (.bool true)] else e.2.1) hp
  | none=>flat z=true∧K (bif ok then .tp [sg z,.fl (.bool false)] else sg z) hp
 | _=>False
theorem aY.Eg (h:aY E base hp aO H) {j k:Nat} {ents:List (AV × AV × Nat)} {clock:Nat} (hj:hp[j]?=some (.map ents clock)) (hk:E.ρ j 0=some k):∃ es:List MapEntry,H.get k=some (.map es clock)∧fU E.ρ H.get (E.O hp) ents es:=by obtain ⟨es,q1,q2,q3⟩:=h.map hj hk;exact ⟨es,q1,q2,q3⟩
theorem wL {a b:AV} {u v:Value} (h:AR ρ g O a u) (k:AR ρ g O b v):AR ρ g O (.tp [a,b]) (.tuple #[u,v]) :=
 .tp rfl fun i x y hx hy=>by
  match i with
  | 0=>cases hx;cases hy;exact h
  | 1=>cases hx;cases hy;exact k
  | i+2=>simp at hx
theorem wM (h:aY E base hp aO H) {t:TypeId} {m k:AV} {ok:Bool} {um uk:Value} (hm:AR E.ρ H.get (E.O hp) m um) (hk:AR E.ρ H.get (E.O hp) k uk) {K:AV→List AB→Prop} (hw:wK T t m k ok hp K) :
  eE base E hp aO H ((kZ T t um uk ok H.get).map fun v=>(v,cv.none)) K:=by
 unfold wK at hw;split at hw
 ·rename_i j;obtain ⟨ents,clock,ks,kv,kt,z,r,h1,h2,h3,h4,h5,h6⟩:=hw;obtain ⟨q,hq,rfl⟩:=hm.oM;obtain ⟨es,q1,q2⟩:=h.Eg h1 hq;obtain ⟨rfl,_⟩:=ej h3 hk;have hf:=h5 es (q2.keys h2);rw [←q2.empty] at hf;have hb:((ia (.map (some q))).bind fun r=>map? (H.get r))=some (es,clock):=by show map? (H.get q)=_;rw [q1];rfl
  unfold kZ;rw [h4,hb];simp only;unfold zX;rw [hf]
  cases r with
  | some i =>
   obtain ⟨e,e1,e2⟩:=h6;obtain ⟨e',f1,_,f3,_⟩:=q2.get e1;simp only [f1,Option.map_some]
   cases ok with
   | true=>exact .pure h (wL f3 (.d (.fl rfl))) e2
   | false=>exact .pure h f3 e2
  | none =>
   obtain ⟨hz,e2⟩:=h6;simp only [hz,cond_true,Option.map_some]
   cases ok with
   | true=>exact .pure h (wL (lC hz) (.d (.fl rfl))) e2
   | false=>exact .pure h (lC hz) e2
 ·exact hw.elim
def gY (T:bL) (t:TypeId) (m k:AV) (hp:List AB) (K:AV→List AB→Prop):Prop :=
 match m with
 | .om j=>∃ ents clock ks kv kt z r,hp[j]?=some (.map ents clock)∧tF ents=some ks∧k.ig=some kv∧ku T t=some (kt,some z)∧IG T false kt kv ks r ∧
  match r with
  | some i=>∃ e,ents[i]?=some e∧(∃ ke,e.1.ig=some ke∧Instr.sameBits 10000 ke kv=true)∧K (.tp [e.2.1,.fl (.int .i64 e.2.2)]) (hp.set j (.map (ents.set i (k,e.2.1,e.2.2)) clock))
  | none=>flat z=true∧K (.tp [sg z,.fl (.int .i64 clock)]) (hp.set j (.map (ents++[(k,sg z,clock)]) (clock+1)))
 | _=>False
theorem fU.set {ents:List (AV × AV × Nat)} {es:List MapEntry} (h:fU ρ g O ents es) {i:Nat} {e:MapEntry} (he:es[i]?=some e) {k v:AV} {f:MapEntry→MapEntry} (hk:AR ρ g O k (f e).key) (hv:AR ρ g O v (f e).val):fU ρ g O (ents.set i (k,v,(f e).born)) (es.modify i f):=by
 refine ⟨by rw [List.length_set,List.length_modify];exact h.1,fun a k' v' b e' x y=>?_⟩;have hi:i < es.length:=(List.getElem?_eq_some_iff.1 he).1;by_cases ha:i=a
 ·subst ha;rw [List.getElem?_set_self (by rw [h.1];exact hi)] at x;rw [List.getElem?_modify_eq,he] at y;cases x;cases y;exact ⟨hk,hv,rfl⟩
 ·rw [List.getElem?_set_ne ha] at x;rw [List.getElem?_modify_ne _ _ ha] at y;exact h.2 a k' v' b e' x y
theorem fU.snoc {ents:List (AV × AV × Nat)} {es:List MapEntry} (h:fU ρ g O ents es) {k v:AV} {e:MapEntry} (hk:AR ρ g O k e.key) (hv:AR ρ g O v e.val):fU ρ g O (ents++[(k,v,e.born)]) (es++[e]):=by
 refine ⟨by rw [List.length_append,List.length_append,h.1];rfl,fun a k' v' b e' x y=>?_⟩;by_cases ha:a < ents.length
 ·rw [List.getElem?_append_left ha] at x;rw [List.getElem?_append_left (by rw [←h.1];exact ha)] at y;exact h.2 a k' v' b e' x y
 ·rw [List.getElem?_append_right (by omega)] at x;rw [List.getElem?_append_right (by rw [←h.1];omega),←h.1] at y
  generalize a - ents.length=c at *
  match c,x,y with
  | 0,x,y=>cases x;cases y;exact ⟨hk,hv,rfl⟩
  | c+1,x,y=>simp at x
theorem tG (h:aY E base hp aO H) {t:TypeId} {m k:AV} {um uk:Value} (hm:AR E.ρ H.get (E.O hp) m um) (hk:AR E.ρ H.get (E.O hp) k uk) {K:AV→List AB→Prop} (hw:gY T t m k hp K) :
  eE base E hp aO H (eY T t um uk H.get) K:=by
 unfold gY at hw;split at hw
 ·rename_i j;obtain ⟨ents,clock,ks,kv,kt,z,r,h1,h2,h3,h4,h5,h6⟩:=hw;obtain ⟨q,hq,rfl⟩:=hm.oM;obtain ⟨es,q1,q2⟩:=h.Eg h1 hq;obtain ⟨rfl,_⟩:=ej h3 hk;have hf:=h5 es (q2.keys h2);unfold eY;simp only [h4,ia,q1,map?];unfold mh;rw [hf]
  cases r with
  | some i =>obtain ⟨e,e1,⟨ke,e2,e3⟩,e4⟩:=h6;obtain ⟨e',f1,f2,f3,f4⟩:=q2.get e1;obtain ⟨rfl,_⟩:=ej e2 f2;simp only [f1,e3,cond_true];have hs:=q2.set (k:=k) (v:=e.2.1) (f:=fun e=>{e with key:=uk}) f1 hk f3;obtain ⟨p1,p2⟩:=h.put (a:=.map (ents.set i (k,e.2.1,e'.born)) clock) (b:=.map (es.modify i fun e=>{e with key:=uk}) clock) h1 rfl rfl hq ⟨_,rfl,hs.1,hs.2⟩;rw [f4] at p1 p2;refine ⟨_,.put q _,E,_,_,rfl,e4,p1,p2,?_⟩;rw [f4];exact wL (p2.ar h.wf f3) (.d (.fl rfl))
  | none =>obtain ⟨hz,e2⟩:=h6;simp only [hz,cond_true];have hs:=q2.snoc (k:=k) (v:=sg z) (e:={key:=uk,val:=z,born:=clock}) hk (lC hz);obtain ⟨p1,p2⟩:=h.put (a:=.map (ents++[(k,sg z,clock)]) (clock+1)) (b:=.map (es++[{key:=uk,val:=z,born:=clock}]) (clock+1)) h1 rfl rfl hq ⟨_,rfl,hs.1,hs.2⟩;exact ⟨_,.put q _,E,_,_,rfl,e2,p1,p2,wL (lC hz) (.d (.fl rfl))⟩
 ·exact hw.elim
def fI (m s v:AV) (hp:List AB) (K:AV→List AB→Prop):Prop :=
 match m with
 | .om j=>∃ ents clock born i e,hp[j]?=some (.map ents clock)∧asInt s=some born∧(ents.map fun p=>((p.2.2:Nat):Int)).findIdx? (· == born)=some i∧ents[i]?=some e∧K .cw (hp.set j (.map (ents.set i (e.1,v,e.2.2)) clock))
 | _=>False
theorem fU.Oa:∀ {ents:List (AV × AV × Nat)} {es:List MapEntry},fU ρ g O ents es→es.map (fun e=>((e.born:Nat):Int))=ents.map fun p=>((p.2.2:Nat):Int)
 | [],es,h=>by have:=h.1;rw [List.length_nil] at this;rw [List.eq_nil_of_length_eq_zero this.symm];rfl
 | (k,v,b) :: ents,[],h=>absurd h.1 (by simp)
 | (k,v,b) :: ents,e :: es,h=>by have hh:fU ρ g O ents es:=⟨by simpa using h.1,fun i k v b e x y=>h.2 (i+1) k v b e (by simpa using x) (by simpa using y)⟩;rw [List.map_cons,List.map_cons,hh.Oa,(h.2 0 k v b e rfl rfl).2.2]
theorem qM (h:aY E base hp aO H) {m s v:AV} {um us uv:Value} (hm:AR E.ρ H.get (E.O hp) m um) (hs:AR E.ρ H.get (E.O hp) s us) (hv:AR E.ρ H.get (E.O hp) v uv) {K:AV→List AB→Prop} (hw:fI m s v hp K) :
  eE base E hp aO H ((dB um us uv H.get).map fun e=>(undef,e)) K:=by
 unfold fI at hw;split at hw
 ·rename_i j;obtain ⟨ents,clock,born,i,e,h1,h2,h3,h4,h5⟩:=hw;obtain ⟨q,hq,rfl⟩:=hm.oM;obtain ⟨es,q1,q2⟩:=h.Eg h1 hq;have hb:=jq h2 hs;unfold dB;simp only [ia,hb,q1,map?];have hi:es.findIdx? (fun e=>((e.born:Nat):Int) == born)=some i:=by rw [←q2.Oa,List.findIdx?_map] at h3;exact h3
  obtain ⟨e',f1,f2,f3,f4⟩:=q2.get h4;simp only [hi,Option.map_some];have hset:=q2.set (k:=e.1) (v:=v) (f:=fun e=>{e with val:=uv}) f1 f2 hv;obtain ⟨p1,p2⟩:=h.put (a:=.map (ents.set i (e.1,v,e'.born)) clock) (b:=.map (es.modify i fun e=>{e with val:=uv}) clock) h1 rfl rfl hq ⟨_,rfl,hset.1,hset.2⟩;rw [f4] at p1 p2;exact ⟨_,.put q _,E,.cw,_,rfl,h5,p1,p2,.cw⟩
 ·exact hw.elim
def oN (T:bL) (t:TypeId) (m k v:AV) (hp:List AB) (K:AV→List AB→Prop):Prop :=
 match m with
 | .om j=>∃ ents clock ks kv kt z r,hp[j]?=some (.map ents clock)∧tF ents=some ks∧k.ig=some kv∧ku T t=some (kt,z)∧IG T false kt kv ks r ∧
  match r with
  | some i=>∃ e,ents[i]?=some e∧(∃ ke,e.1.ig=some ke∧Instr.sameBits 10000 ke kv=true)∧K .cw (hp.set j (.map (ents.set i (k,v,e.2.2)) clock))
  | none=>K .cw (hp.set j (.map (ents++[(k,v,clock)]) (clock+1)))
 | _=>False
theorem sw (h:aY E base hp aO H) {t:TypeId} {m k v:AV} {um uk uv:Value} (hm:AR E.ρ H.get (E.O hp) m um) (hk:AR E.ρ H.get (E.O hp) k uk) (hv:AR E.ρ H.get (E.O hp) v uv) {K:AV→List AB→Prop} (hw:oN T t m k v hp K) :
  eE base E hp aO H ((eR T t um uk uv H.get).map fun e=>(undef,e)) K:=by
 unfold oN at hw;split at hw
 ·rename_i j;obtain ⟨ents,clock,ks,kv,kt,z,r,h1,h2,h3,h4,h5,h6⟩:=hw;obtain ⟨q,hq,rfl⟩:=hm.oM;obtain ⟨es,q1,q2⟩:=h.Eg h1 hq;obtain ⟨rfl,_⟩:=ej h3 hk;have hf:=h5 es (q2.keys h2);unfold eR;simp only [h4,ia,q1,map?];unfold mT;rw [hf]
  cases r with
  | some i =>obtain ⟨e,e1,⟨ke,e2,e3⟩,e4⟩:=h6;obtain ⟨e',f1,f2,f3,f4⟩:=q2.get e1;obtain ⟨rfl,_⟩:=ej e2 f2;simp only [f1,e3,cond_true,Option.map_some];have hs:=q2.set (k:=k) (v:=v) (f:=fun e=>{e with key:=uk,val:=uv}) f1 hk hv;obtain ⟨p1,p2⟩:=h.put (a:=.map (ents.set i (k,v,e'.born)) clock) (b:=.map (es.modify i fun e=>{e with key:=uk,val:=uv}) clock) h1 rfl rfl hq ⟨_,rfl,hs.1,hs.2⟩;rw [f4] at p1 p2;exact ⟨_,.put q _,E,.cw,_,rfl,e4,p1,p2,.cw⟩
  | none =>simp only [Option.map_some];have hs:=q2.snoc (k:=k) (v:=v) (e:={key:=uk,val:=uv,born:=clock}) hk hv;obtain ⟨p1,p2⟩:=h.put (a:=.map (ents++[(k,v,clock)]) (clock+1)) (b:=.map (es++[{key:=uk,val:=uv,born:=clock}]) (clock+1)) h1 rfl rfl hq ⟨_,rfl,hs.1,hs.2⟩;exact ⟨_,.put q _,E,.cw,_,rfl,h6,p1,p2,.cw⟩
 ·exact hw.elim
def AL (it:AV) (hp:List AB) (K:AV→List AB→Prop):Prop :=
 match it with
 | .ptr q 0 0=>∃ j since seen stepped ents clock stamp e,hp[q]?=some (.iter j since seen stepped)∧hp[j]?=some (.map ents clock)∧clock=stepped∧seen.getLast?=some stamp∧(ents.find? fun p=>p.2.2 == stamp)=some e∧K (.tp [e.1,e.2.1]) hp
 | _=>False
theorem aY.iter (h:aY E base hp aO H) {q k j since stepped:Nat} {seen:List Nat} (hj:hp[q]?=some (.iter j since seen stepped)) (hk:E.ρ q 0=some k):∃ m,H.get k=some (.iter m since seen stepped)∧E.ρ j 0=some m:=by
 rcases h.gT q _ 0 hj rfl with ⟨k',b',h1,h2,h3⟩|⟨h1,_,h2⟩
 ·rw [hk] at h1;cases h1;obtain ⟨m,rfl,h4⟩:=h3;exact ⟨m,h2,h4⟩
 ·cases h2
theorem fU.find:∀ {ents:List (AV × AV × Nat)} {es:List MapEntry} {stamp:Nat} {p:AV × AV × Nat},fU ρ g O ents es→(ents.find? fun p=>p.2.2 == stamp)=some p→∃ e,es.find? (fun e=>e.born == stamp)=some e∧AR ρ g O p.1 e.key∧AR ρ g O p.2.1 e.val
 | [],es,_,p,h,hf=>by cases hf
 | (k,v,b) :: ents,[],_,p,h,hf=>absurd h.1 (by simp)
 | (k,v,b) :: ents,e :: es,stamp,p,h,hf=>by
  have hh:fU ρ g O ents es:=⟨by simpa using h.1,fun i k v b e x y=>h.2 (i+1) k v b e (by simpa using x) (by simpa using y)⟩;obtain ⟨e1,e2,e3⟩:=h.2 0 k v b e rfl rfl;rw [List.find?_cons] at hf ⊢;dsimp only at hf;rw [e3]
  cases hb:b == stamp with
  | true =>rw [hb] at hf;cases hf;exact ⟨e,rfl,e1,e2⟩
  | false =>rw [hb] at hf;exact hh.find hf
theorem yG (h:aY E base hp aO H) {it:AV} {u:Value} (hx:AR E.ρ H.get (E.O hp) it u) {K:AV→List AB→Prop} (hw:AL it hp K):eE base E hp aO H (sY u H.get) K:=by
 unfold AL at hw;split at hw
 ·rename_i q;obtain ⟨j,since,seen,stepped,ents,clock,stamp,e,h1,h2,h3,h4,h5,h6⟩:=hw;obtain ⟨k,hk,rfl⟩:=hx.di;obtain ⟨m,g1,g2⟩:=h.iter h1 hk;obtain ⟨es,q1,q2⟩:=h.Eg h2 g2;obtain ⟨e',f1,f2,f3⟩:=q2.find h5;unfold sY addr?;simp only [g1,h4,q1,map?,h3,Nat.beq_refl,cond_true,f1,Option.map_some];exact .pure h (wL f2 f3) h6
 ·exact hw.elim
def AM (it:AV) (hp:List AB) (K:AV→List AB→Prop):Prop :=
 match it with
 | .ptr q 0 0=>∃ j since seen stepped ents clock,hp[q]?=some (.iter j since seen stepped)∧hp[j]?=some (.map ents clock)∧(∀ e ∈ ents,e.2.2 < since∧e.2.2 < stepped) ∧
  (∀ e ∈ ents,e.2.2 ∉ seen→K (.tp [.fl (.bool true),e.1,e.2.1]) (hp.set q (.iter j since (seen++[e.2.2]) clock)))∧((∀ e ∈ ents,e.2.2 ∈ seen)→K (.tp [.fl (.bool false)]) hp)
 | _=>False
theorem fU.mem {ents:List (AV × AV × Nat)} {es:List MapEntry} (h:fU ρ g O ents es) {e:MapEntry} (he:e ∈ es):∃ p ∈ ents,AR ρ g O p.1 e.key∧AR ρ g O p.2.1 e.val∧e.born=p.2.2:=by
 obtain ⟨i,hi,rfl⟩:=List.getElem_of_mem he;have hlt:i < ents.length:=by rw [h.1];exact hi
 exact ⟨ents[i],List.getElem_mem hlt,h.2 i _ _ _ _ (List.getElem?_eq_getElem hlt) (List.getElem?_eq_getElem hi)⟩
theorem fU.mem' {ents:List (AV × AV × Nat)} {es:List MapEntry} (h:fU ρ g O ents es) {p:AV × AV × Nat} (hp:p ∈ ents):∃ e ∈ es,e.born=p.2.2:=by
 obtain ⟨i,hi,rfl⟩:=List.getElem_of_mem hp;have hlt:i < es.length:=by rw [←h.1];exact hi
 exact ⟨es[i],List.getElem_mem hlt,(h.2 i _ _ _ _ (List.getElem?_eq_getElem hi) (List.getElem?_eq_getElem hlt)).2.2⟩
theorem yH (h:aY E base hp aO H) {it:AV} {u:Value} (hx:AR E.ρ H.get (E.O hp) it u) {K:AV→List AB→Prop} (hw:AM it hp K) :
  ∃ L,ri u H.get=some L∧∀ p ∈ L,∃ E' a hp',K a hp'∧aY E' base hp' aO (H.app p.2)∧Ext base E hp H E' hp' (H.app p.2)∧AR E'.ρ (H.app p.2).get (E'.O hp') a p.1:=by
 unfold AM at hw;split at hw
 ·rename_i q;obtain ⟨j,since,seen,stepped,ents,clock,h1,h2,h3,h4,h5⟩:=hw;obtain ⟨k,hk,rfl⟩:=hx.di;obtain ⟨m,g1,g2⟩:=h.iter h1 hk;obtain ⟨es,q1,q2⟩:=h.Eg h2 g2;have hlow:∀ e ∈ es,e.born < since∧e.born < stepped:=fun e he=>by obtain ⟨p,hp,_,_,hb⟩:=q2.mem he;rw [hb];exact h3 p hp
  have hn:ri (.pointer (some ⟨k,0,none⟩)) H.get=vv k m since seen stepped es clock:=by show (match H.get k with|some (.iter m since seen last)=>_|_=>none)=_;rw [g1];show (match map? (H.get m) with|some (es,clock)=>_|none=>none)=_;rw [q1];rfl
  rw [hn];unfold vv
  have hc:(!seen.isEmpty && !es.isEmpty && es.all (fun e=>Nat.ble stepped e.born))=false:=by
   cases es with
   | nil=>simp
   | cons e es =>
    have:=(hlow e (by simp)).2
    have hb:Nat.ble stepped e.born=false:=by
     cases hb:Nat.ble stepped e.born with
     | false=>rfl
     | true=>exact absurd (Nat.le_of_ble_eq_true hb) (by omega)
    rw [List.all_cons,hb];simp
  rw [hc];simp only [cond_false];refine ⟨_,rfl,fun p hp=>?_⟩
  rcases List.mem_append.1 hp with hp|hp
  ·cases hemp:((es.filter fun e=>!seen.contains e.born).filter (fun e=>decide (e.born < since))).isEmpty with
   | false=>rw [hemp] at hp;cases hp
   | true =>
    rw [hemp] at hp;obtain rfl:=List.mem_singleton.1 hp;rw [List.isEmpty_iff] at hemp;refine ⟨E,_,_,h5 fun x hx=>?_,h,.refl,.d (.tp rfl fun i a v ha hv=>?_)⟩
    ·obtain ⟨e,he,hb⟩:=q2.mem' hx;apply Classical.byContradiction;intro hne;have:e ∈ (es.filter fun e=>!seen.contains e.born).filter (fun e=>decide (e.born < since)):=by rw [List.mem_filter,List.mem_filter];refine ⟨⟨he,?_⟩,decide_eq_true (hlow e he).1⟩;rw [hb];simpa using hne
     rw [hemp] at this;cases this
    ·match i with
     | 0=>cases ha;cases hv;exact .fl rfl
     | i+1=>simp at ha
  ·obtain ⟨e,he,rfl⟩:=List.mem_map.1 hp
   have hes:e ∈ es∧e.born ∉ seen:=by
    rcases List.mem_append.1 he with he|he
    ·rw [List.mem_filter,List.mem_filter] at he;exact ⟨he.1.1,by simpa using he.1.2⟩
    ·rw [List.mem_filter,List.mem_filter] at he;exact ⟨he.1.1,by simpa using he.1.2⟩
   obtain ⟨x,hx,f1,f2,f3⟩:=q2.mem hes.1;have hns:=hes.2;rw [f3] at hns ⊢;obtain ⟨p1,p2⟩:=h.put (a:=.iter j since (seen++[x.2.2]) clock) (b:=.iter m since (seen++[x.2.2]) clock) h1 rfl rfl hk ⟨m,rfl,g2⟩;refine ⟨E,_,_,h4 x hx hns,p1,p2,.tp rfl fun i a v ha hv=>?_⟩
   match i with
   | 0=>cases ha;cases hv;exact .d (.fl rfl)
   | 1=>cases ha;cases hv;exact p2.ar h.wf f1
   | 2=>cases ha;cases hv;exact p2.ar h.wf f2
   | i+3=>simp at ha
 ·exact hw.elim
end
section
variable {T : bL} {base : Nat} {E E' : Env} {hp hp' : List AB} {aO : cz} {H H' : Hp} {ρ : Nat → Nat → Option Nat} {g : aG} {O : Nat → Prop}
def CF (hp:List AB) (size:Nat) (x:AV) (els:List (List AV)):Prop :=
 (∀ el ∈ els,el.length=size) ∧
  match x with
  | .sl els' _=>els=els'
  | .dw j aF o m _=>∃ cs es,hp[j]?=some (.cells cs es aF)∧o+m * size≤cs.length∧els.length=m∧els.flatten=(cs.drop o).take (m * size)
  | .fl (.slice none 0 0)=>els=[]
  | _=>False
theorem CF.row (h:aY E base hp aO H) {size:Nat} {x:AV} {u:Value} {els:List (List AV)} (he:CF hp size x els) (hx:AR E.ρ H.get (E.O hp) x u) :
  vu u=some els.length∧∃ cs,bT H.get size u=some cs∧gE E.ρ H.get (E.O hp) els.flatten cs:=by
 obtain ⟨h1,h2⟩:=he;split at h2
 ·rename_i els' full;subst h2
  cases hx.jL with
  | nil=>exact ⟨rfl,[],rfl,.nil⟩
  | sl q1 q2 q3 q4 q5 q6 q7 =>
   rename_i k o n c es cs own e;refine ⟨by simp [vu,q4],?_⟩;unfold bT;simp only [q1,cells?];by_cases hne:els=[]
   ·subst hne;simp only [List.length_nil] at q4;subst q4;rw [Nat.zero_mul,oK (by omega)];exact ⟨_,rfl,by simp;exact .nil⟩
   ·have hes:es=size:=by
     cases els with
     | nil=>exact absurd rfl hne
     | cons x l=>rw [←q5 0 x rfl];exact h1 x (by simp)
    subst hes;rw [oK q3];refine ⟨_,rfl,?_,?_⟩
    ·rw [dR h1,q4];simp;omega
    ·intro i a u ha hu;have hlt:i < els.length * es:=by rw [←dR h1];exact (List.getElem?_eq_some_iff.1 ha).1
     have hes:0 < es:=by apply Nat.pos_of_ne_zero;intro h0;subst h0;omega
     have hi:i=i / es * es+i % es:=by rw [Nat.mul_comm];exact (Nat.div_add_mod i es).symm
     have hq:i / es < els.length:=(Nat.div_lt_iff_lt_mul hes).2 hlt;have hel:els[i / es]?=some els[i / es]:=List.getElem?_eq_getElem hq;have hm:i % es < es:=Nat.mod_lt _ hes;rw [hi,fH h1 _ _ _ hel hm] at ha;rw [List.getElem?_take] at hu;split at hu
     ·rw [List.getElem?_drop] at hu;refine .d (q6 _ _ (i % es) a u hel ha ?_);rw [Nat.add_assoc,←hi];exact hu
     ·cases hu
 ·rename_i j aF o m c;obtain ⟨cs,es,h3,h4,h5,h6⟩:=h2
  rcases hx.fT with ⟨k,hk,rfl⟩|⟨rfl,rfl,rfl⟩
  ·obtain ⟨cs',q1,q2⟩:=h.cells h3 hk;refine ⟨by simp [vu,h5],?_⟩;unfold bT;simp only [q1,cells?];rw [oK (by rw [←q2.1];exact h4),h6];exact ⟨_,rfl,(q2.drop o).take _⟩
  ·refine ⟨by simp [vu,h5],[],rfl,?_⟩;rw [h6];simp;exact .nil
 ·subst h2;obtain ⟨rfl,_⟩:=hx.gq;exact ⟨rfl,[],rfl,.nil⟩
 ·exact h2.elim
def oO (T:bL) (own:Bool) (t:TypeId) (s x:AV) (hp:List AB) (K:AV→List AB→Prop):Prop :=
 match elem? T t with
 | some inf=>bZ inf=true∧∃ els,CF hp inf.size x els∧els.flatten.all AV.one=true ∧
  match s with
  | .fl (.slice none 0 0)=>(els.length * inf.bytes≤140737488355328∧els.length≤9223372036854775807)∧(els=[]→K s hp)∧(els ≠ [] →
   match own with
   | true=>K (.dw hp.length 0 0 els.length (els.length+1)) (hp++[.cells els.flatten inf.size 0])
   | false=>bG els.flatten=true∧K (.sl els false) hp)
  | .sl els0 true=>(∀ el ∈ els0,el.length=inf.size)∧((els0.length+els.length) * inf.bytes≤140737488355328∧els0.length+els.length≤9223372036854775807)∧(els=[]→K s hp)∧(els ≠ [] →
   match own with
   | true=>K (.dw hp.length 0 0 (els0.length+els.length) (els0.length+els.length+1)) (hp++[.cells (els0.flatten++els.flatten) inf.size 0])
   | false=>bG els.flatten=true∧K (.sl (els0++els) false) hp)
  | .dw j aF 0 n c=>∃ cs,hp[j]?=some (.cells cs inf.size aF)∧cs.length=n * inf.size∧(c=n∨c=n+1)∧((n+els.length) * inf.bytes≤140737488355328∧n+els.length≤9223372036854775807)∧(els=[]→K s hp) ∧
   (els ≠ []→K (.dw j (aF+1) 0 (n+els.length) (n+els.length+1)) (hp.set j (.cells (cs++els.flatten) inf.size (aF+1))))
  | _=>False
 | none=>False
theorem ny (a:Nat):Nat.beq a a=true:=Nat.beq_refl a
theorem FK {a b:Nat} (h:a ≠ b):Nat.beq a b=false:=by rw [Tr.beq_eq];exact decide_eq_false h
theorem tD.append {a b:List AV} {a' b':List Value} (h:tD g O a a') (k:tD g O b b'):tD g O (a++b) (a'++b'):=by
 refine ⟨by simp [h.1,k.1],fun i x u hx hu=>?_⟩;by_cases hi:i < a.length
 ·rw [List.getElem?_append_left hi] at hx;rw [List.getElem?_append_left (by rw [←h.1];exact hi)] at hu;exact h.2 i x u hx hu
 ·rw [List.getElem?_append_right (by omega)] at hx;rw [List.getElem?_append_right (by rw [←h.1];omega),←h.1] at hu;exact k.2 _ x u hx hu
theorem DR.T5 {els:List (List AV)} {full:Bool} {u:Value} {size:Nat} (hx:DR g O (.sl els full) u) (h1:∀ el ∈ els,el.length=size):∃ cs,bT g size u=some cs∧tD g O els.flatten cs∧vu u=some els.length:=by
 cases hx with
 | nil=>exact ⟨[],rfl,⟨rfl,fun i a u h=>by cases h⟩,rfl⟩
 | sl q1 q2 q3 q4 q5 q6 q7 =>
  rename_i k o n c es cs own e;unfold bT;simp only [q1,cells?];by_cases hne:els=[]
  ·subst hne;simp only [List.length_nil] at q4;subst q4;rw [Nat.zero_mul,oK (by omega)];exact ⟨_,rfl,⟨by simp,fun i a u h=>by cases h⟩,rfl⟩
  ·have hes:es=size:=by
    cases els with
    | nil=>exact absurd rfl hne
    | cons x l=>rw [←q5 0 x rfl];exact h1 x (by simp)
   subst hes;rw [oK q3];refine ⟨_,rfl,⟨?_,?_⟩,by simp [vu,q4]⟩
   ·rw [dR h1,q4];simp;omega
   ·intro i a u ha hu;have hlt:i < els.length * es:=by rw [←dR h1];exact (List.getElem?_eq_some_iff.1 ha).1
    have hes:0 < es:=by apply Nat.pos_of_ne_zero;intro h0;subst h0;omega
    have hi:i=i / es * es+i % es:=by rw [Nat.mul_comm];exact (Nat.div_add_mod i es).symm
    have hq:i / es < els.length:=(Nat.div_lt_iff_lt_mul hes).2 hlt;have hel:els[i / es]?=some els[i / es]:=List.getElem?_eq_getElem hq;have hm:i % es < es:=Nat.mod_lt _ hes;rw [hi,fH h1 _ _ _ hel hm] at ha;rw [List.getElem?_take] at hu;split at hu
    ·rw [List.getElem?_drop] at hu;refine q6 _ _ (i % es) a u hel ha ?_;rw [Nat.add_assoc,←hi];exact hu
    ·cases hu
theorem CG (h:aY E base hp aO H) {own:Bool} {t:TypeId} {s x:AV} {u v:Value} (hs:AR E.ρ H.get (E.O hp) s u) (hx:AR E.ρ H.get (E.O hp) x v) {K:AV→List AB→Prop}
  (hw:oO T own t s x hp K):eE base E hp aO H (gy T H.n t u v H.get) K:=by
 unfold oO at hw;split at hw
 ·rename_i inf hi;obtain ⟨hz,els,he,hone,hw⟩:=hw;obtain ⟨hlen,new,hnew,hna⟩:=he.row h hx;have hone':=hna.bH hone;have hel:=he.1
  have main:∀ (n:Nat) (base':Option Addr) (cp:Nat) (old:List Value),u=.slice base' n cp→bT H.get inf.size u=some old→((n+els.length) * inf.bytes≤140737488355328∧n+els.length≤9223372036854775807) →
    gy T H.n t u v H.get=if els=[] then some (u,.none) else iD H.n inf base' n cp els.length old new H.get:=by
   intro n base' cp old hu ho hb;subst hu;unfold gy;simp only [hi,hlen,ho,hnew,hone',hz,Bool.and_true];rw [show Nat.ble ((n+els.length) * inf.bytes) 140737488355328=true from Nat.ble_eq_true_of_le hb.1,show Nat.ble (n+els.length) 9223372036854775807=true from Nat.ble_eq_true_of_le hb.2];simp only [Bool.and_self,cond_true];by_cases hne:els=[]
   ·subst hne;rfl
   ·rw [if_neg hne,FK (by simpa using hne)];rfl
  split at hw
  ·obtain ⟨hb,h0,h1⟩:=hw;obtain ⟨rfl,_⟩:=hs.gq;rw [main 0 none 0 [] rfl rfl (by simpa using hb)];by_cases hne:els=[]
   ·rw [if_pos hne];exact .pure h (.d (.fl rfl)) (h0 hne)
   ·rw [if_neg hne];have h1:=h1 hne;unfold iD;simp only [ny,cond_true,List.nil_append,Nat.zero_add];split at h1
    ·exact .new h (x:=.cells els.flatten inf.size 0) rfl (fun E' H' e=>⟨_,rfl,e.FF h.wf hna⟩) (fun E' hr=>.dw hr) h1
    ·obtain ⟨hd,h1⟩:=h1;exact .vj h (fun e hg hO=>.d (.row hg hO hel rfl ((e.FF h.wf hna).deep hd) (fun hf=>by cases hf))) h1
  ·rename_i els0;obtain ⟨hel0,hb,h0,h1⟩:=hw;obtain ⟨old,ho,hod,hol⟩:=hs.jL.T5 hel0
   have hsl:∃ base' ,u=.slice base' els0.length els0.length:=by
    cases hs.jL with
    | nil=>exact ⟨_,rfl⟩
    | sl q1 q2 q3 q4 q5 q6 q7=>rw [q7 rfl,q4];exact ⟨_,rfl⟩
   obtain ⟨base',hu⟩:=hsl;rw [main els0.length base' els0.length old hu ho hb];by_cases hne:els=[]
   ·rw [if_pos hne];exact .pure h hs (h0 hne)
   ·rw [if_neg hne];have h1:=h1 hne;unfold iD;simp only [ny,cond_true];split at h1
    ·exact .new h (x:=.cells (els0.flatten++els.flatten) inf.size 0) rfl (fun E' H' e=>⟨_,rfl,e.FF h.wf (hod.FF.append hna)⟩) (fun E' hr=>.dw hr) h1
    ·obtain ⟨hd,h1⟩:=h1;refine .vj h (fun e hg hO=>.d (.row hg hO (es:=inf.size) ?_ (by simp) ?_ (fun hf=>by cases hf))) h1
     ·intro el he
      rcases List.mem_append.1 he with he|he
      ·exact hel0 el he
      ·exact hel el he
     ·rw [List.flatten_append];exact tD.append ⟨hod.1,fun i a u ha hu=>e.dr h.wf (hod.2 i a u ha hu)⟩ ((e.FF h.wf hna).deep hd)
  ·rename_i j aF n c;obtain ⟨cs,hj,hcs,hc,hb,h0,h1⟩:=hw
   rcases hs.fT with ⟨k,hk,rfl⟩|⟨_,rfl,rfl⟩
   ·obtain ⟨cs',q1,q2⟩:=h.cells hj hk;have ho:bT H.get inf.size (.slice (some ⟨k,0,none⟩) n c)=some cs':=by unfold bT;simp only [q1,cells?];rw [oK (by rw [←q2.1,hcs];omega)];simp only [List.drop_zero];rw [List.take_of_length_le (by rw [←q2.1,hcs];omega)]
    rw [main n _ c cs' rfl ho hb];by_cases hne:els=[]
    ·rw [if_pos hne];exact .pure h hs (h0 hne)
    ·rw [if_neg hne];have h1:=h1 hne;unfold iD
     have fin:∀ (e:cv) (H1:Hp),(H1=H∨∃ k,E.ρ j aF=some k∧H1=H.put k .dead)→H.app e=H1.push (.cells (cs'++new) true inf.size) →
       eE base E hp aO H (some (.slice (some ⟨H.n,0,none⟩) (n+els.length) (n+els.length+1),e)) K:=by
      intro e H1 hH1 he;obtain ⟨E',_,r1,r2,r3⟩:=h.renew (a:=.cells (cs++els.flatten) inf.size (aF+1)) (b:=.cells (cs'++new) true inf.size) hj rfl rfl hH1 (fun E' H' _ _ e=>⟨_,rfl,e.FF h.wf (q2.append hna)⟩);refine ⟨_,e,E',_,_,rfl,h1,by rw [he];exact r1,by rw [he];exact r2,.dw r3⟩
     by_cases hcn:c=n
     ·subst hcn;simp only [ny,cond_true];exact fin _ H (.inl rfl) rfl
     ·have hc':c=n+1:=by omega
      subst hc';rw [FK (by omega),show Nat.ble (n+els.length+3) (n+1)=false from Bool.eq_false_iff.2 (fun h=>by have:=Nat.le_of_ble_eq_true h;omega)];simp only [cond_false,q1,cells?,ny,Bool.true_and,Bool.and_true];rw [show Nat.beq cs'.length (n * inf.size)=true by rw [←q2.1,hcs];exact ny _];simp only [cond_true];exact fin _ (H.put k .dead) (.inr ⟨k,hk,rfl⟩) rfl
   ·rw [main 0 none 0 [] rfl rfl hb];by_cases hne:els=[]
    ·rw [if_pos hne];exact .pure h .rZ (h0 hne)
    ·rw [if_neg hne];have h1:=h1 hne;have hcs0:cs=[]:=List.length_eq_zero_iff.1 (by rw [hcs];simp);subst hcs0;unfold iD;simp only [ny,cond_true,List.nil_append];obtain ⟨E',_,r1,r2,r3⟩:=h.renew (a:=.cells ([]++els.flatten) inf.size (aF+1)) (b:=.cells new true inf.size) hj rfl rfl (.inl rfl) (fun E' H' _ _ e=>⟨_,rfl,e.FF h.wf hna⟩);exact ⟨_,.new _,E',_,_,rfl,h1,r1,r2,.dw r3⟩
  ·exact hw.elim
 ·exact hw.elim
def AO (T:bL) (t:TypeId) (x:AV) (hp:List AB) (K:AV→List AB→Prop):Prop :=
 match T.ty.get t,x with
 | some ⟨.string,_,_,_,_,_,_⟩,.fl (.string s)=>K (.ptr hp.length 0 0) (hp++[.dQ s 0])
 | some ⟨.map ..,_,_,_,_,_,_⟩,.om j=>∃ ents clock,hp[j]?=some (.map ents clock)∧K (.ptr hp.length 0 0) (hp++[.iter j clock [] clock])
 | _,_=>False
theorem yI (h:aY E base hp aO H) {t:TypeId} {x:AV} {u:Value} (hx:AR E.ρ H.get (E.O hp) x u) {K:AV→List AB→Prop} (hw:AO T t x hp K):eE base E hp aO H (sX T H.n t u H.get) K:=by
 unfold AO at hw;unfold sX;split at hw
 ·rename_i hty;rw [hty];obtain ⟨rfl,_⟩:=hx.gq;exact .new h (x:=.dQ _ 0) rfl (fun E' H' e=>rfl) (fun E' hr=>.ptr hr) hw
 ·rename_i j hty;rw [hty];obtain ⟨ents,clock,h1,h2⟩:=hw;obtain ⟨k,hk,rfl⟩:=hx.oM;obtain ⟨es,q1,q2,_⟩:=h.map h1 hk;simp only [q1,map?];exact .new h (x:=.iter j clock [] clock) rfl (fun E' H' e=>⟨_,rfl,e.Cv _ _ _ hk⟩) (fun E' hr=>.ptr hr) h2
 ·exact hw.elim
def tH (it:AV) (hp:List AB) (K:AV→List AB→Prop):Prop :=
 match it with
 | .ptr j 0 0=>∃ s pos,hp[j]?=some (.dQ s pos)∧(pos < s.data.toList.length→K (.tp [.fl (.bool true),.fl (.int .i64 pos),.fl (.int .i32 (Utf8.decode s pos).1)]) (hp.set j (.dQ s (pos+(Utf8.decode s pos).2)))) ∧
  (s.data.toList.length≤pos→K (.tp [.fl (.bool false)]) hp)
 | _=>False
theorem aY.dQ (h:aY E base hp aO H) {j k pos:Nat} {s:ByteArray} (hj:hp[j]?=some (.dQ s pos)) (hk:E.ρ j 0=some k):H.get k=some (.dQ s pos):=by
 rcases h.gT j _ 0 hj rfl with ⟨k',b',h1,h2,h3⟩|⟨h1,_,h2⟩
 ·rw [hk] at h1;cases h1;cases h3;exact h2
 ·cases h2
theorem ve (h:aY E base hp aO H) {it:AV} {u:Value} (hx:AR E.ρ H.get (E.O hp) it u) {K:AV→List AB→Prop} (hw:tH it hp K):eE base E hp aO H (kz u H.get) K:=by
 unfold tH at hw;split at hw
 ·rename_i j;obtain ⟨s,pos,h1,h2,h3⟩:=hw;obtain ⟨k,hk,rfl⟩:=hx.di;have hg:=h.dQ h1 hk;unfold kz addr?;simp only [hg];by_cases hlt:pos < s.data.toList.length
  ·rw [show Nat.blt pos s.data.toList.length=true from Nat.ble_eq_true_of_le hlt];simp only [cond_true];obtain ⟨p1,p2⟩:=h.put (a:=.dQ s (pos+(Utf8.decode s pos).2)) (b:=.dQ s (pos+(Utf8.decode s pos).2)) h1 rfl rfl hk rfl;refine ⟨_,.put k _,E,_,_,rfl,h2 hlt,p1,p2,.d (.tp rfl fun i x u hx hu=>?_)⟩
   match i with
   | 0=>cases hx;cases hu;exact .fl rfl
   | 1=>cases hx;cases hu;exact .fl rfl
   | 2=>cases hx;cases hu;exact .fl rfl
   | i+3=>simp at hx
  ·have hb:Nat.blt pos s.data.toList.length=false:=by
    cases hb:Nat.blt pos s.data.toList.length with
    | false=>rfl
    | true=>exact absurd (Nat.le_of_ble_eq_true hb) hlt
   rw [hb];simp only [cond_false];refine .pure h (.d (.tp rfl fun i x u hx hu=>?_)) (h3 (by omega))
   match i with
   | 0=>cases hx;cases hu;exact .fl rfl
   | i+1=>simp at hx
 ·exact hw.elim
def AP (T:bL) (t:TypeId) (x:AV) (hp:List AB) (K:AV→List AB→Prop):Prop :=
 match T.ty.get t,x with
 | some ⟨.map ..,_,_,_,_,_,_⟩,.om j=>∃ ents clock,hp[j]?=some (.map ents clock)∧K (.tp []) (hp.set j (.map [] clock))
 | _,_=>False
theorem yJ (h:aY E base hp aO H) {t:TypeId} {x:AV} {u:Value} (hx:AR E.ρ H.get (E.O hp) x u) {K:AV→List AB→Prop} (hw:AP T t x hp K) :
  eE base E hp aO H (og T t u H.get) K:=by
 unfold AP at hw;split at hw
 ·rename_i j hty;obtain ⟨ents,clock,h1,h2⟩:=hw;obtain ⟨q,hq,rfl⟩:=hx.oM;obtain ⟨es,q1,q2⟩:=h.Eg h1 hq;unfold og;simp only [hty,q1,map?];obtain ⟨p1,p2⟩:=h.put (a:=.map [] clock) (b:=.map [] clock) h1 rfl rfl hq ⟨_,rfl,rfl,fun i k v born x hx _=>by cases hx⟩;exact ⟨_,.put q _,E,.tp [],_,rfl,h2,p1,p2,.d (.tp rfl fun i x u hx _=>by cases hx)⟩
 ·exact hw.elim
def mG (T:bL) (own:Bool) (b:Builtin) (args:List AV) (tys:List TypeId) (hp:List AB) (K:AV→List AB→Prop):Prop :=
 match b with
 | .len=>match args,tys with
  | [x],[t]=>sv T t x hp K
  | _,_=>False
 | .min=>FI T args hp K
 | .max=>FJ T args hp K
 | .clear=>match args,tys with
  | [x],[t]=>AP T t x hp K
  | _,_=>False
 | .append=>match args,tys with
  | [s,x],[t,u]=>match T.ty.get u with
   | some ⟨.slice _,_,_,_,_,_,_⟩=>oO T own t s x hp K
   | _=>False
  | _,_=>False
 | _=>False
def force (v:AV) (K:AV→Prop):Prop :=
 match v with
 | .fl x=>K (.fl x)
 | .sl a b=>K (.sl a b)
 | .pt a b=>K (.pt a b)
 | .fn a b c=>K (.fn a b c)
 | .ag a=>K (.ag a)
 | .tp a=>K (.tp a)
 | .ptr a b c=>K (.ptr a b c)
 | .dw a b c d e=>K (.dw a b c d e)
 | .om a=>K (.om a)
 | .oq a=>K (.oq a)
 | .cw=>K .cw
theorem ct {v:AV} {K:AV→Prop} (h:force v K):K v:=by cases v <;> exact h
def fk:List AV→(List AV→Prop)→Prop
 | [],K=>K []
 | a :: l,K=>force a fun a=>fk l fun l=>K (a :: l)
theorem fQ:∀ {l:List AV} {K:List AV→Prop},fk l K→K l
 | [],_,h=>h
 | a :: l,K,h=>by have h1:fk l fun l=>K (a :: l):=ct h;exact fQ (K:=fun l=>K (a :: l)) h1
def kP:List (Nat × AV)→(List (Nat × AV)→Prop)→Prop
 | [],K=>K []
 | (i,a) :: l,K=>force a fun a=>kP l fun l=>K ((i,a) :: l)
theorem tI:∀ {l:List (Nat × AV)} {K:List (Nat × AV)→Prop},kP l K→K l
 | [],_,h=>h
 | (i,a) :: l,K,h=>by have h1:kP l fun l=>K ((i,a) :: l):=ct (K:=fun a=>kP l fun l=>K ((i,a) :: l)) h;exact tI (K:=fun l=>K ((i,a) :: l)) h1
def wpOp (T:bL) (own:Bool) (o:Op) (fr:Nat→AV) (hp:List AB) (K:AV→List AB→Prop):Prop :=
 match o with
 | .move x=>K (bq fr x) hp
 | .assign x=>K (bq fr x) hp
 | .pick c a b=>tE (bq fr c) (bq fr a) (bq fr b) hp K
 | .alloc t=>si T t hp K
 | .box _ x=>force (bq fr x) fun v=>ze own v hp K
 | .build t parts=>kP (parts.toList.map fun p=>(p.1,bq fr p.2)) fun ps=>nx T t ps hp K
 | .buildSlice t len parts=>kP (parts.toList.map fun p=>(p.1,bq fr p.2)) fun ps=>dO T own t len ps hp K
 | .load t a=>eF T t (bq fr a) hp K
 | .store t a x=>force (bq fr x) fun v=>dN T t (bq fr a) v hp K
 | .fieldAddr t a i=>jY T t (bq fr a) i hp K
 | .indexAddr t a ix=>cP T t (bq fr a) (bq fr ix) hp K
 | .index t a ix=>FH T t (bq fr a) (bq fr ix) hp K
 | .field t a i=>Cz T t (bq fr a) i hp K
 | .binOp o t x y _=>bw T o t x y (bq fr x) (bq fr y) hp K
 | .unOp o _ x=>MN T o (bq fr x) hp K
 | .convert s d x=>AG T s d (bq fr x) hp K
 | .makeInterface t x=>FG T t (bq fr x) hp K
 | .extract x i=>ki (bq fr x) i hp K
 | .makeFunc (.func f) first captured=>fk (first.toList.map (bq fr)) fun a=>fk (captured.toList.map (bq fr)) fun b=>K (.fn f a b) hp
 | .nilCheck x=>sk (bq fr x) hp K
 | .slice t x lo hi none=>sq T t (bq fr x) (lo.map (bq fr)) (hi.map (bq fr)) hp K
 | .slice t x lo (some hi) (some m)=>wH T t (bq fr x) (lo.map (bq fr)) (bq fr hi) (bq fr m) hp K
 | .makeSlice t l c=>wJ T t (bq fr l) (bq fr c) hp K
 | .range t x=>AO T t (bq fr x) hp K
 | .next it true=>tH (bq fr it) hp K
 | .makeMap _ none=>K (.om hp.length) (hp++[.map [] 0])
 | .lookup t m k ok=>wK T t (bq fr m) (bq fr k) ok hp K
 | .mapEntry t m k=>gY T t (bq fr m) (bq fr k) hp K
 | .entryStore _ m s v=>fI (bq fr m) (bq fr s) (bq fr v) hp K
 | .entry it=>AL (bq fr it) hp K
 | .mapUpdate t m k v=>force (bq fr v) fun v=>oN T t (bq fr m) (bq fr k) v hp K
 | .call ⟨.builtin b,args,tys⟩=>fk (args.toList.map (bq fr)) fun as=>mG T own b as tys.toList hp K
 | _=>False
theorem fM {fr:Nat→AV} {tm:Tr Value} (h:jX ρ g O fr tm) (l:List Operand):gE ρ g O (l.map (bq fr)) (l.map (aQ tm)):=by
 induction l with
 | nil=>exact .nil
 | cons x l ih=>exact .cons (lZ h x) ih
theorem zh {fr:Nat→AV} {tm:Tr Value} (h:jX ρ g O fr tm) (l:List (Nat × Operand)):oL ρ g O (l.map fun p=>(p.1,bq fr p.2)) (l.map fun (i,x)=>(i,aQ tm x)):=by
 induction l with
 | nil=>trivial
 | cons x l ih=>exact ⟨rfl,lZ h _,ih⟩
theorem AQ {fr:Nat→AV} {tm:Tr Value} (h:jX ρ g O fr tm) (o:Option Operand):GX ρ g O (o.map (bq fr)) (o.map (aQ tm)):=by
 cases o with
 | none=>trivial
 | some x=>exact lZ h x
theorem nA (h:aY E base hp aO H) {own:Bool} {o:Op} {fr:Nat→AV} {tm:Tr Value} (hf:jX E.ρ H.get (E.O hp) fr tm) {K:AV→List AB→Prop} (hw:wpOp T own o fr hp K) :
  eE base E hp aO H (iU T H.n o (aQ tm) H.get) K:=by
 have ev:=fun x=>lZ hf x;unfold wpOp at hw;split at hw
 ·exact .pure h (ev _) hw
 ·exact .pure h (ev _) hw
 ·exact AJ h (ev _) (ev _) (ev _) hw
 ·exact yz h hw
 ·exact Cx h (ev _) (ct hw)
 ·exact yD h (zh hf _) (tI hw)
 ·exact qL h (zh hf _) (tI hw)
 ·exact AF h (ev _) hw
 ·exact yx h (ev _) (ev _) (ct hw)
 ·exact yA h (ev _) hw
 ·exact sj h (ev _) (ev _) hw
 ·exact yC h (ev _) (ev _) hw
 ·exact wF h (ev _) hw
 ·exact Cy h (ev _) (ev _) hw
 ·exact Ef h (ev _) hw
 ·exact AH h (ev _) hw
 ·exact yB h (ev _) hw
 ·exact vc h (ev _) hw
 ·refine .pure h (.fn ?_ ?_ ?_ ?_) (fQ (fQ hw))
  ·exact (fM hf _).1
  ·exact (fM hf _).1
  ·exact (fM hf _).2
  ·exact (fM hf _).2
 ·exact CA h (ev _) hw
 ·exact yE h (ev _) (AQ hf _) (AQ hf _) hw
 ·exact wI h (ev _) (AQ hf _) (ev _) (ev _) hw
 ·exact AK h (ev _) (ev _) hw
 ·exact yI h (ev _) hw
 ·exact ve h (ev _) hw
 ·exact .new h (x:=.map [] 0) rfl (fun E' H' e=>⟨[],rfl,rfl,fun i k v born e x=>by cases x⟩) (fun E' hr=>.om hr) hw
 ·exact wM h (ev _) (ev _) hw
 ·exact tG h (ev _) (ev _) hw
 ·exact qM h (ev _) (ev _) (ev _) hw
 ·exact yG h (ev _) hw
 ·exact sw h (ev _) (ev _) (ev _) (ct hw)
 ·rename_i b args tys;have hw:=fQ hw;have hl:=fM hf args.toList;show eE base E hp aO H (iE T H.n b (args.toList.map (aQ tm)) tys.toList H.get) K;unfold mG at hw;unfold iE;split at hw
  ·split at hw
   ·rename_i x t hx ht;rw [hx] at hl
    match hl':args.toList.map (aQ tm),hl with
    | [u],hl=>simp only [ht];exact CC h (hl.2 0 _ _ rfl rfl) hw
    | [],hl=>exact absurd hl.1 (by simp)
    | _ :: _ :: _,hl=>exact absurd hl.1 (by simp)
   ·exact hw.elim
  ·exact CD h hl hw
  ·exact CE h hl hw
  ·split at hw
   ·rename_i x t hx ht;rw [hx] at hl
    match hl':args.toList.map (aQ tm),hl with
    | [u],hl=>simp only [ht];exact yJ h (hl.2 0 _ _ rfl rfl) hw
    | [],hl=>exact absurd hl.1 (by simp)
    | _ :: _ :: _,hl=>exact absurd hl.1 (by simp)
   ·exact hw.elim
  ·split at hw
   ·rename_i s x t u hx ht;rw [hx] at hl;obtain ⟨a,b,hab,h1,h2⟩:=hl.two;rw [hab,ht];simp only;split at hw
    ·rename_i hu;simp only [hu];exact CG h h1 h2 hw
    ·exact hw.elim
   ·exact hw.elim
  ·exact hw.elim
 ·exact hw.elim
end
end Go.RM
