/-
  A layer of contracts over the abstract machine. Lemmas alone; no condition.
-/
import Derived.Test.YtalcbebjpgfnfaaGreatR3
namespace Go.RM
open Go
abbrev Rec:=rJ→Option (List ia)
def ji (a b:Rec):Prop:=∀ j L,a j=some L→b j=some L
section
variable {T : cr} {a b : Rec}
theorem lz {α β:Type} {f g:α→Option (List β)} (h:∀ x M,f x=some M→g x=some M):∀ {L:List α} {M:List β},cY L f=some M→cY L g=some M
 | [],M,e=>by rw [yX] at e ⊢;exact e
 | [x],M,e=>by rw [gp] at e ⊢;exact h _ _ e
 | x :: y :: l,M,e=>by
  rw [kZ] at e ⊢
  cases hx:f x with
  | none=>rw [hx] at e;cases e
  | some X =>
   rw [hx] at e
   simp only [Option.map_eq_some_iff] at e
   obtain ⟨Y,hY,rfl⟩:=e
   rw [h _ _ hx]
   simp only [lz h hY,Option.map_some]
theorem HC (h:ji a b) {o:Op} {st:St} {L:List (Value × Hp)} (e:gE T a o st=some L):gE T b o st=some L:=by
 unfold gE at e ⊢
 cases hk:fc o with
 | call f args =>
  rw [hk] at e
  simp only at e ⊢
  cases hg:dI (m5 T.P st.fr f) (args.map (bL st.fr)) with
  | none=>rw [hg] at e;cases e
  | some g =>
   rw [hg] at e
   simp only at e ⊢
   cases hr:a (jF st.hp g) with
   | none=>rw [hr] at e;cases e
   | some M=>rw [hr] at e;rw [h _ _ hr];exact e
 | next it=>rw [hk] at e;exact e
 | plain=>rw [hk] at e;exact e
theorem js (h:ji a b) (ops:List Oper):∀ (l:List Oper) (st:St) (L:List St),bR T a ops l st=some L→bR T b ops l st=some L:=by
 intro l
 induction l with
 | nil=>intro st L e;exact e
 | cons o l ih =>
  intro st L e
  rw [eU] at e ⊢
  cases hg:cm ops st.fr o.guard with
  | false=>rw [hg] at e;exact ih _ _ e
  | true =>
   rw [hg] at e
   simp only [cond_true] at e ⊢
   cases ho:gE T a o.op st with
   | none=>rw [ho] at e;cases e
   | some M =>
    rw [ho] at e
    rw [HC h ho]
    exact lz (fun x M hx=>ih _ _ hx) e
theorem y9 (h:ji a b) {o:Op} {i:Nat} {st:St} {r:Value × Hp × Tc} (e:bY T a o i st=some r):bY T b o i st=some r:=by
 unfold bY at e ⊢
 cases hk:fc o with
 | call f args =>
  rw [hk] at e
  simp only at e ⊢
  cases hg:dI (m5 T.P st.fr f) (args.map (bL st.fr)) with
  | none=>rw [hg] at e;cases e
  | some g =>
   rw [hg] at e
   simp only at e ⊢
   cases hr:a (jF {st.hp with lo:=st.hp.n} g) with
   | none=>rw [hr] at e;cases e
   | some M=>rw [hr] at e;rw [h _ _ hr];exact e
 | next it=>rw [hk] at e;exact e
 | plain=>rw [hk] at e;exact e
theorem mh (h:ji a b) (ops:Array Oper):∀ (l:List Oper) (i:Nat) (st:St) (acc:List Ev) (L:List St),cR T a ops l i st acc=some L→cR T b ops l i st acc=some L:=by
 intro l
 induction l with
 | nil=>intro i st acc L e;exact e
 | cons o l ih =>
  intro i st acc L e
  rw [cQ] at e ⊢
  cases hg:cm ops.toList st.fr o.guard with
  | false=>rw [hg] at e;exact ih _ _ _ _ e
  | true =>
   rw [hg] at e
   simp only [cond_true] at e ⊢
   cases ho:bY T a o.op i st with
   | none=>rw [ho] at e;cases e
   | some r=>rw [ho] at e;rw [y9 h ho];exact ih _ _ _ _ e
theorem Ca (h:ji a b) {o:Op} {i:Nat} {st:St} {P:List (Value × Hp × Tc)} (e:eR T a o i st=some P):eR T b o i st=some P:=by
 unfold eR at e ⊢
 cases hk:fc o with
 | call f args =>
  rw [hk] at e
  simp only at e ⊢
  cases hg:dI (m5 T.P st.fr f) (args.map (bL st.fr)) with
  | none=>rw [hg] at e;cases e
  | some g =>
   rw [hg] at e
   simp only at e ⊢
   cases hr:a (jF {st.hp with lo:=st.hp.n} g) with
   | none=>rw [hr] at e;cases e
   | some M=>rw [hr] at e;rw [h _ _ hr];exact e
 | next it=>rw [hk] at e;cases e
 | plain=>rw [hk] at e;cases e
theorem HD (h:ji a b) {ops:Array Oper} {o:Oper} {i:Nat} {st:St} {P:List (Value × Hp × Tc)} (e:jG T a ops o i st=some P):jG T b ops o i st=some P:=by
 unfold jG at e ⊢
 cases hg:cm ops.toList st.fr o.guard with
 | false=>rw [hg] at e;exact e
 | true=>rw [hg] at e;exact Ca h e
theorem nW (h:ji a b) (ops:Array Oper) {K K':St→List Ev→Option (List St)} (hK:∀ st acc L,K st acc=some L→K' st acc=some L):∀ (l:List Oper) (i:Nat) (st:St) (acc:List Ev) (L:List St),fu T a ops l K i st acc=some L→fu T b ops l K' i st acc=some L:=by
 intro l
 induction l with
 | nil=>intro i st acc L e;exact hK _ _ _ e
 | cons o l ih =>
  intro i st acc L e
  rw [fF] at e ⊢
  cases hg:cm ops.toList st.fr o.guard with
  | false=>rw [hg] at e;exact ih _ _ _ _ e
  | true =>
   rw [hg] at e
   simp only [cond_true] at e ⊢
   cases ho:bY T a o.op i st with
   | none=>rw [ho] at e;cases e
   | some r=>rw [ho] at e;rw [y9 h ho];exact ih _ _ _ _ e
theorem Cb (h:ji a b) {ops:Array Oper} {c:Nat} {st:St} {acc:List Ev} {L:List St} (e:rS T a ops c st acc=some L):rS T b ops c st acc=some L:=by
 obtain ⟨o,P,h1,h2,h3,h4⟩:=qV e
 unfold rS
 simp only [h1,HD h h2,List.all_eq_true.2 h3,cond_true]
 exact lz (fun x N hx=>js h _ _ _ _ hx) h4
theorem Cc (h:ji a b) {ops:Array Oper} {st:St} {L:List St} (e:cS T a ops st=some L):cS T b ops st=some L:=by
 rcases mL e with ⟨c,h1,h2⟩|⟨h1,M,h2,h3⟩
 ·unfold cS
  rw [h1]
  exact nW h ops (fun _ _ _=>Cb h) _ _ _ _ _ h2
 ·unfold cS
  simp only [h1,mh h _ _ _ _ _ _ h2]
  exact lz (fun x N hx=>js h _ _ _ _ hx) h3
theorem uO {ops:Array Oper} {e:Ev} {acc:List Ev} (h:eL T ops (e :: acc)=true):eL T ops acc=true:=by
 have hp:=iZ h
 unfold fP at hp
 rw [Bool.and_eq_true] at hp
 unfold eL
 cases (acc.all fun e=>e.t.wr.isEmpty && Nat.beq e.t.a e.t.b) with
 | true=>rfl
 | false=>exact hp.2
theorem uP {r:Rec} {ops:Array Oper}:∀ (l:List Oper) (i:Nat) (st:St) (acc:List Ev) (L:List St),cR T r ops l i st acc=some L→eL T ops acc=true:=by
 intro l
 induction l with
 | nil =>
  intro i st acc L h
  rw [gU] at h
  cases hc:eL T ops acc with
  | true=>rfl
  | false=>rw [hc] at h;cases h
 | cons o l ih =>
  intro i st acc L h
  rw [cQ] at h
  cases hg:cm ops.toList st.fr o.guard with
  | false=>rw [hg] at h;exact uO (ih _ _ _ _ h)
  | true =>
   rw [hg] at h
   simp only [cond_true] at h
   cases ho:bY T r o.op i st with
   | none=>rw [ho] at h;cases h
   | some p=>rw [ho] at h;exact uO (ih _ _ _ _ h)
theorem sK {r:Rec} {ops:Array Oper}:∀ (l:List Oper) (i:Nat) (st:St) (acc:List Ev) {L:List St},cR T r ops l i st acc=some L→∃ s,L=[s]:=by
 intro l
 induction l with
 | nil =>
  intro i st acc L h
  rw [gU] at h
  cases hc:eL T ops acc with
  | true=>rw [hc] at h;cases h;exact ⟨_,rfl⟩
  | false=>rw [hc] at h;cases h
 | cons o l ih =>
  intro i st acc L h
  rw [cQ] at h
  cases hg:cm ops.toList st.fr o.guard with
  | false=>rw [hg] at h;exact ih _ _ _ h
  | true =>
   rw [hg] at h
   simp only [cond_true] at h
   cases ho:bY T r o.op i st with
   | none=>rw [ho] at h;cases h
   | some p=>rw [ho] at h;exact ih _ _ _ h
theorem wO {r:Rec} {ops:Array Oper} (l2:List Oper):∀ (l1:List Oper) (i:Nat) (st:St) (acc:List Ev),cR T r ops (l1++l2) i st acc=fu T r ops l1 (fun st acc=>cR T r ops l2 (i+l1.length) st acc) i st acc:=by
 intro l1
 induction l1 with
 | nil=>intro i st acc;rfl
 | cons o l ih =>
  intro i st acc
  rw [List.cons_append,cQ,fF,List.length_cons,show i+(l.length+1)=i+1+l.length by omega]
  simp only [ih]
theorem za {r:Rec} {ops:Array Oper} {s':St}:∀ (l:List Oper) (i:Nat) (st:St) (acc:List Ev),l.all Dj=true→cR T r ops l i st acc=some [s']→bR T r ops.toList l st=some [s']:=by
 intro l
 induction l with
 | nil =>
  intro i st acc _ h
  rw [gU] at h
  cases hc:eL T ops acc with
  | true=>rw [hc] at h;exact h
  | false=>rw [hc] at h;cases h
 | cons o l ih =>
  intro i st acc hp h
  rw [List.all_cons,Bool.and_eq_true] at hp
  rw [cQ] at h
  rw [eU]
  cases hg:cm ops.toList st.fr o.guard with
  | false=>rw [hg] at h;exact ih _ _ _ hp.2 h
  | true =>
   rw [hg] at h
   simp only [cond_true] at h ⊢
   have hk:fc o.op=.plain:=by
    have:=hp.1
    unfold Dj at this
    split at this
    ·assumption
    ·cases this
   cases ho:bY T r o.op i st with
   | none=>rw [ho] at h;cases h
   | some p =>
    obtain ⟨v,hp',t⟩:=p
    rw [ho] at h
    unfold bY at ho
    rw [hk] at ho
    simp only at ho
    split at ho
    ·rename_i ef _ hop
     cases ho
     have:gE T r o.op st=some [(v,st.hp.app ef)]:=by
      unfold gE
      simp only [hk,hop]
     rw [this]
     exact ih _ _ _ hp.2 h
    ·cases ho
theorem FT {ops:Array Oper} {c:Nat} (h:vc ops=some c):gF ops=ops.toList.length:=by
 unfold vc at h
 unfold gF
 split at h
 ·cases h
 ·rename_i hn
  simp only
theorem Cd {r:Rec} {ops:Array Oper} {st s':St} (ht:gF ops=ops.toList.length) (h:cR T r ops ops.toList 0 st []=some [s']):cS T r ops st=some [s']:=by
 unfold cS
 cases hn:vc ops with
 | none =>
  simp only
  rw [ht,List.take_length,List.drop_length,h]
  rfl
 | some c =>
  show El T r ops c st=some [s']
  unfold vc at hn
  split at hn
  ·cases hn
  ·have hb:=List.find?_some hn
   unfold Lw at hb
   rw [Bool.and_eq_true,Bool.and_eq_true] at hb
   obtain ⟨⟨h1,_⟩,h3⟩:=hb
   split at h1
   ·rename_i o ho
    have hlt:c < ops.toList.length:=(List.getElem?_eq_some_iff.1 ho).1
    have hs:ops.toList=ops.toList.take c++o :: ops.toList.drop (c+1):=by
     have e:=List.getElem?_eq_some_iff.1 ho
     rw [←e.2,List.getElem_cons_drop,List.take_append_drop]
    have h':cR T r ops (ops.toList.take c++o :: ops.toList.drop (c+1)) 0 st []=some [s']:=by rw [←hs];exact h
    rw [wO] at h'
    have hcl:(ops.toList.take c).length=c:=by rw [List.length_take];omega
    rw [hcl,Nat.zero_add] at h'
    refine nW (fun _ _ e=>e) ops (fun s acc L e=>?_) _ _ _ _ _ h'
    rw [cQ] at e
    unfold rS jG
    cases hg:cm ops.toList s.fr o.guard with
    | false =>
     rw [hg] at e
     simp only [cond_false] at e
     obtain ⟨s2,rfl⟩:∃ s2,L=[s2]:=sK _ _ _ _ e
     simp only [ho,hg,cond_false,List.all_cons,List.all_nil,Bool.and_true]
     rw [uP _ _ _ _ _ e]
     simp only [cond_true]
     rw [gp]
     exact za _ _ _ _ h3 e
    | true =>
    rw [hg] at e
    simp only [cond_true] at e
    cases hd:bY T r o.op c s with
    | none=>rw [hd] at e;cases e
    | some p =>
     obtain ⟨v,hp,t⟩:=p
     rw [hd] at e
     simp only at e
     obtain ⟨s2,rfl⟩:∃ s2,L=[s2]:=sK _ _ _ _ e
     have hm:eR T r o.op c s=some [(v,hp,t)]:=by
      have hk:∃ f as,fc o.op=.call f as:=by
       unfold G4 at h1
       split at h1
       ·rename_i e1;rw [e1];exact ⟨_,_,rfl⟩
       ·cases h1
      obtain ⟨f,as,hk⟩:=hk
      unfold bY at hd
      unfold eR
      simp only [hk] at hd ⊢
      split at hd
      ·rename_i g hg
       split at hd
       ·rename_i v0 hp0 hr
        simp only [hr]
        rw [gp]
        show (bif Nat.ble s.hp.n hp0.lo then some [(v0,({hp0 with lo:=s.hp.lo}:Hp),(⟨c,[],[],true,s.hp.n,hp0.n⟩:Tc))] else none)=_
        cases hb:Nat.ble s.hp.n hp0.lo with
        | false=>rw [hb] at hd;cases hd
        | true=>rw [hb] at hd;simp only [cond_true,Option.some.injEq] at hd ⊢;rw [←hd]
       ·cases hd
      ·cases hd
     simp only [ho,hg,cond_true,hm,List.all_cons,List.all_nil,Bool.and_true]
     rw [uP _ _ _ _ _ e]
     simp only [cond_true]
     rw [gp]
     exact za _ _ _ _ h3 e
   ·cases h1
theorem fH (h:ji a b):∀ (c:Code) (st:St) (L:List (Exit × St)),bJ T a c st=some L→bJ T b c st=some L:=by
 intro c
 induction c with
 | skip=>intro st L e;exact e
 | region id ops draw =>
  intro st L e
  rw [gV] at e ⊢
  cases draw with
  | false =>
   simp only [cond_false] at e ⊢
   cases ho:bR T a ops.toList ops.toList st with
   | none=>rw [ho] at e;cases e
   | some M=>rw [ho] at e;rw [js h _ _ _ _ ho];exact e
  | true =>
   simp only [cond_true] at e ⊢
   cases ho:cS T a ops st with
   | none=>rw [ho] at e;cases e
   | some M =>
    rw [ho] at e
    rw [Cc h ho]
    exact e
 | seq c d ihc ihd =>
  intro st L e
  rw [pV] at e ⊢
  cases ho:bJ T a c st with
  | none=>rw [ho] at e;cases e
  | some M =>
   rw [ho] at e
   rw [ihc _ _ ho]
   refine lz (fun p N hp=>?_) e
   unfold vS at hp ⊢
   split at hp
   ·exact ihd _ _ hp
   ·exact hp
 | cond c x y ihx ihy =>
  intro st L e
  rw [k7] at e ⊢
  split at e
  ·rename_i t ht
   cases t with
   | true=>exact ihx _ _ e
   | false=>exact ihy _ _ e
  ·cases e
 | block id c ih =>
  intro st L e
  rw [l9] at e ⊢
  cases ho:bJ T a c st with
  | none=>rw [ho] at e;cases e
  | some M=>rw [ho] at e;rw [ih _ _ ho];exact e
 | loop c ih =>
  intro st L e
  rw [nO] at e ⊢
  cases ho:a (.loop c st) with
  | none=>rw [ho] at e;cases e
  | some M=>rw [ho] at e;rw [h _ _ ho];exact e
 | rangeFunc f ps x y ihx ihy =>
  intro st L e
  rw [mb] at e ⊢
  unfold nI at e ⊢
  split at e
  ·rename_i g args hg
   cases ho:a (.call g args (st.hp.push (.loop .ready none st.fr ps x y))) with
   | none=>rw [ho] at e;cases e
   | some M=>rw [ho] at e;rw [h _ _ ho];exact e
  ·cases e
 | exit id=>intro st L e;exact e
 | scope c ih =>
  intro st L e
  rw [mc] at e ⊢
  obtain ⟨e1,e2⟩:=oR e
  rw [ih _ _ e1]
  rw [e1] at e
  exact e
 | label l=>intro st L e;exact e
 | goto l=>intro st L e;exact e
 | ret=>intro st L e;exact e
 | refuse y=>intro st L e;exact e
theorem HE (h:ji a b):ji (iX T a) (iX T b):=by
 intro j L e
 cases j with
 | call f args hp =>
  rw [k8] at e ⊢
  split at e
  ·rename_i fn hf
   split at e
   ·rename_i c hc
    cases ho:bJ T a c ⟨setArgs .leaf 0 args,hp,false⟩ with
    | none=>rw [ho] at e;cases e
    | some M=>rw [ho] at e;rw [fH h _ _ _ ho];exact e
   ·cases e
  ·cases e
 | round l args hp =>
  rw [oS] at e ⊢
  split at e
  ·rename_i pend fr ps as bd hl
   cases hb:Nat.beq args.length ps.toList.length with
   | false=>rw [hb] at e;cases e
   | true =>
    rw [hb] at e
    simp only [cond_true] at e ⊢
    cases ho:bJ T a as ⟨fy fr (ps.toList.zip args),hp,true⟩ with
    | none=>rw [ho] at e;cases e
    | some M =>
     rw [ho] at e
     rw [fH h _ _ _ ho]
     refine lz (fun p N hp=>?_) e
     unfold cZ at hp ⊢
     split at hp
     ·split at hp
      ·rename_i pend2 fr2 ps2 as2 bd2 hl2
       cases hq:bJ T a bd ⟨p.2.fr,p.2.hp.put l (.loop .busy pend2 fr2 ps2 as2 bd2),true⟩ with
       | none=>rw [hq] at hp;cases hp
       | some M2=>rw [hq] at hp;rw [fH h _ _ _ hq];exact hp
      ·cases hp
     ·cases hp
  ·cases e
 | loop c st =>
  rw [qW] at e ⊢
  cases ho:bJ T a c st with
  | none=>rw [ho] at e;cases e
  | some M =>
   rw [ho] at e
   rw [fH h _ _ _ ho]
   refine lz (fun p N hp=>?_) e
   unfold fA at hp ⊢
   split at hp
   ·exact h _ _ hp
   ·exact hp
theorem K5 {tab:List XE} (h:ji a b):ji (rx tab a) (rx tab b):=by
 intro j L e
 cases j with
 | call f args H =>
  unfold rx at e ⊢
  simp only at e ⊢
  split at e
  ·exact e
  ·exact h _ _ e
 | round l args H=>exact h _ _ e
 | loop c st=>exact h _ _ e
end
variable {T : cr} {tab : List XE}
theorem FU (n:Nat) (j:rJ):wM tab T (n+1) j=iX T (rx tab (wM tab T n)) j:=rfl
theorem HF (n:Nat):ji (wM tab T n) (wM tab T (n+1)):=by
 induction n with
 | zero=>intro j L e;cases e
 | succ n ih=>intro j L e;rw [FU] at e ⊢;exact HE (K5 ih) _ _ e
theorem JE {n m:Nat} (h:n≤m):ji (wM tab T n) (wM tab T m):=by
 induction h with
 | refl=>exact fun _ _ e=>e
 | step _ ih=>exact fun j L e=>HF _ _ _ (ih j L e)
noncomputable def RX (T:cr) (tab:List XE) (n:Nat):Rec:=rx tab (wM tab T n)
theorem gy {n m:Nat} (h:n≤m):ji (RX T tab n) (RX T tab m):=K5 (JE h)
theorem JF (n:Nat) (c:Code) (st:St):RX T tab (n+1) (.loop c st)=iX T (RX T tab n) (.loop c st):=rfl
theorem HG (n:Nat) (l:Nat) (args:List Value) (H:Hp):RX T tab (n+1) (.round l args H)=iX T (RX T tab n) (.round l args H):=rfl
theorem Av (n:Nat) (f:FuncId) (args:List Value) (H:Hp):RX T tab (n+1) (.call f args H)=match look tab f args H with
 | some (v,H')=>some [.ret v H']
 | none=>iX T (RX T tab n) (.call f args H):=rfl
end Go.RM
namespace Go.RM
open Go
inductive AV where
 | fl (v:Value)
 | sl (els:List (List AV)) (full:Bool)
 | pt (cs:List AV) (o:Nat)
 | fn (f:FuncId) (first caps:List AV)
 | ag (cs:List AV)
 | tp (vs:List AV)
 | ptr (j aD o:Nat)
 | bX (j aD o n c:Nat)
 | om (j:Nat)
 | oq (u:Value)
 | cv
inductive AB where
 | cells (cs:List AV) (es aD:Nat)
 | dZ (s:ByteArray) (pos:Nat)
 | map (ents:List (AV × AV × Nat)) (clock:Nat)
 | iter (j since:Nat) (seen:List Nat) (stepped:Nat)
 | gone
def AB.ver?:AB→Option Nat
 | .cells _ _ v=>some v
 | .gone=>none
 | _=>some 0
inductive DR (g:aI) (O:Nat→Prop):AV→Value→Prop
 | fl {v:Value}:bF v=true→DR g O (.fl v) v
 | oq {u:Value} (h:RM.bQ u=true):DR g O (.oq u) u
 | nil {full:Bool}:DR g O (.sl [] full) (.slice none 0 0)
 | sl {els:List (List AV)} {full:Bool} {k o n c es:Nat} {cs:List Value} {own:Bool} {e:Nat} (hg:g k=some (.cells cs own e)) (hO:¬ O k) (hlen:o+n * es≤cs.length) (hn:els.length=n)
  (hel:∀ (i:Nat) (el:List AV),els[i]?=some el→el.length=es)
  (h:∀ (i:Nat) (el:List AV) (j:Nat) (a:AV) (u:Value),els[i]?=some el→el[j]?=some a→cs[o+i * es+j]?=some u→DR g O a u) (hc:full=true→c=n):DR g O (.sl els full) (.slice (some ⟨k,o,none⟩) n c)
 | pt {l:List AV} {k d o:Nat} {cs:List Value} {own:Bool} {e:Nat} (hg:g k=some (.cells cs own e)) (hO:¬ O k) (hlen:d+l.length≤cs.length)
  (h:∀ (i:Nat) (a:AV) (u:Value),l[i]?=some a→cs[d+i]?=some u→DR g O a u):DR g O (.pt l o) (.pointer (some ⟨k,d+o,none⟩))
 | fn {f:FuncId} {a b:List AV} {a' b':Array Value} (ha:a.length=a'.toList.length) (hb:b.length=b'.toList.length)
  (h1:∀ (i:Nat) (x:AV) (u:Value),a[i]?=some x→a'.toList[i]?=some u→DR g O x u) (h2:∀ (i:Nat) (x:AV) (u:Value),b[i]?=some x→b'.toList[i]?=some u→DR g O x u):DR g O (.fn f a b) (.func (.func f) a' b')
 | ag {a:List AV} {a':Array Value} (ha:a.length=a'.toList.length) (h1:∀ (i:Nat) (x:AV) (u:Value),a[i]?=some x→a'.toList[i]?=some u→DR g O x u):DR g O (.ag a) (.agg a')
 | tp {a:List AV} {a':Array Value} (ha:a.length=a'.toList.length) (h1:∀ (i:Nat) (x:AV) (u:Value),a[i]?=some x→a'.toList[i]?=some u→DR g O x u):DR g O (.tp a) (.tuple a')
inductive AR (ρ:Nat→Nat→Option Nat) (g:aI) (O:Nat→Prop):AV→Value→Prop
 | d {v:AV} {u:Value}:DR g O v u→AR ρ g O v u
 | cv {u:Value}:AR ρ g O .cv u
 | ptr {j aD o k:Nat}:ρ j aD=some k→AR ρ g O (.ptr j aD o) (.pointer (some ⟨k,o,none⟩))
 | bX {j aD o n c k:Nat}:ρ j aD=some k→AR ρ g O (.bX j aD o n c) (.slice (some ⟨k,o,none⟩) n c)
 | tT {j aD c:Nat}:AR ρ g O (.bX j aD 0 0 c) (.slice none 0 0)
 | om {j k:Nat}:ρ j 0=some k→AR ρ g O (.om j) (.map (some k))
 | fn {f:FuncId} {a b:List AV} {a' b':Array Value} (ha:a.length=a'.toList.length) (hb:b.length=b'.toList.length)
  (h1:∀ (i:Nat) (x:AV) (u:Value),a[i]?=some x→a'.toList[i]?=some u→AR ρ g O x u) (h2:∀ (i:Nat) (x:AV) (u:Value),b[i]?=some x→b'.toList[i]?=some u→AR ρ g O x u):AR ρ g O (.fn f a b) (.func (.func f) a' b')
 | ag {a:List AV} {a':Array Value} (ha:a.length=a'.toList.length) (h1:∀ (i:Nat) (x:AV) (u:Value),a[i]?=some x→a'.toList[i]?=some u→AR ρ g O x u):AR ρ g O (.ag a) (.agg a')
 | tp {a:List AV} {a':Array Value} (ha:a.length=a'.toList.length) (h1:∀ (i:Nat) (x:AV) (u:Value),a[i]?=some x→a'.toList[i]?=some u→AR ρ g O x u):AR ρ g O (.tp a) (.tuple a')
def rL (g:aI) (O:Nat→Prop) (l:List AV) (l':List Value):Prop:=l.length=l'.length∧∀ (i:Nat) (a:AV) (u:Value),l[i]?=some a→l'[i]?=some u→DR g O a u
def gI (ρ:Nat→Nat→Option Nat) (g:aI) (O:Nat→Prop) (l:List AV) (l':List Value):Prop:=l.length=l'.length∧∀ (i:Nat) (a:AV) (u:Value),l[i]?=some a→l'[i]?=some u→AR ρ g O a u
mutual
def AV.deep:AV→Bool
 | .fl _=>true
 | .sl _ _=>true
 | .pt _ _=>true
 | .fn _ a b=>bw a && bw b
 | .ag a=>bw a
 | .tp a=>bw a
 | .oq _=>true
 | _=>false
def bw:List AV→Bool
 | []=>true
 | a :: l=>a.deep && bw l
end
theorem gW:∀ {l:List AV},bw l=true→∀ (i:Nat) (a:AV),l[i]?=some a→a.deep=true
 | [],_,i,a,h=>by cases h
 | x :: l,h,i,a,ha=>by
  simp only [bw,Bool.and_eq_true] at h
  cases i with
  | zero=>cases ha;exact h.1
  | succ i=>exact gW h.2 i a (by simpa using ha)
section
variable {ρ ρ' : Nat → Nat → Option Nat} {g g' : aI} {O O' : Nat → Prop}
theorem AR.deep {v:AV} {u:Value} (h:AR ρ g O v u):v.deep=true→DR g O v u:=by
 induction h with
 | d h=>intro _;exact h
 | fn ha hb h1 h2 ih1 ih2 =>
  intro hd
  simp only [AV.deep,Bool.and_eq_true] at hd
  exact .fn ha hb (fun i x u hx hu=>ih1 i x u hx hu (gW hd.1 i x hx)) (fun i x u hx hu=>ih2 i x u hx hu (gW hd.2 i x hx))
 | ag ha h1 ih=>intro hd;simp only [AV.deep] at hd;exact .ag ha (fun i x u hx hu=>ih i x u hx hu (gW hd i x hx))
 | tp ha h1 ih=>intro hd;simp only [AV.deep] at hd;exact .tp ha (fun i x u hx hu=>ih i x u hx hu (gW hd i x hx))
 | _=>intro hd;simp [AV.deep] at hd
theorem DR.mono {v:AV} {u:Value} (h:DR g O v u) (hg:∀ k b,g k=some b→¬ O k→g' k=some b∧¬ O' k):DR g' O' v u:=by
 induction h with
 | fl h=>exact .fl h
 | oq h=>exact .oq h
 | nil=>exact .nil
 | sl h1 h2 h3 h4 h5 h6 h7 ih=>exact .sl (hg _ _ h1 h2).1 (hg _ _ h1 h2).2 h3 h4 h5 ih h7
 | pt h1 h2 h3 h4 ih=>exact .pt (hg _ _ h1 h2).1 (hg _ _ h1 h2).2 h3 ih
 | fn ha hb h1 h2 ih1 ih2=>exact .fn ha hb ih1 ih2
 | ag ha h1 ih=>exact .ag ha ih
 | tp ha h1 ih=>exact .tp ha ih
theorem AR.mono {v:AV} {u:Value} (h:AR ρ g O v u) (hr:∀ j aD k,ρ j aD=some k→ρ' j aD=some k) (hg:∀ k b,g k=some b→¬ O k→g' k=some b∧¬ O' k):AR ρ' g' O' v u:=by
 induction h with
 | d h=>exact .d (h.mono hg)
 | cv=>exact .cv
 | ptr h=>exact .ptr (hr _ _ _ h)
 | bX h=>exact .bX (hr _ _ _ h)
 | tT=>exact .tT
 | om h=>exact .om (hr _ _ _ h)
 | fn ha hb h1 h2 ih1 ih2=>exact .fn ha hb ih1 ih2
 | ag ha h1 ih=>exact .ag ha ih
 | tp ha h1 ih=>exact .tp ha ih
theorem gI.mono {l:List AV} {l':List Value} (h:gI ρ g O l l') (hr:∀ j aD k,ρ j aD=some k→ρ' j aD=some k) (hg:∀ k b,g k=some b→¬ O k→g' k=some b∧¬ O' k):gI ρ' g' O' l l' :=
 ⟨h.1,fun i a u ha hu=>(h.2 i a u ha hu).mono hr hg⟩
theorem gI.nil:gI ρ g O [] []:=⟨rfl,fun i a u h=>by cases h⟩
theorem gI.cons {a:AV} {u:Value} {l:List AV} {l':List Value} (h:AR ρ g O a u) (t:gI ρ g O l l'):gI ρ g O (a :: l) (u :: l') :=
 ⟨by simp [t.1],fun i b v hb hv=>by
  cases i with
  | zero=>cases hb;cases hv;exact h
  | succ i=>exact t.2 i b v (by simpa using hb) (by simpa using hv)⟩
theorem gI.append {a b:List AV} {a' b':List Value} (h:gI ρ g O a a') (k:gI ρ g O b b'):gI ρ g O (a++b) (a'++b'):=by
 refine ⟨by simp [h.1,k.1],fun i x u hx hu=>?_⟩
 by_cases hi:i < a.length
 ·rw [List.getElem?_append_left hi] at hx
  rw [List.getElem?_append_left (by rw [←h.1];exact hi)] at hu
  exact h.2 i x u hx hu
 ·rw [List.getElem?_append_right (by omega)] at hx
  rw [List.getElem?_append_right (by rw [←h.1];omega),←h.1] at hu
  exact k.2 _ x u hx hu
theorem gI.take {a:List AV} {a':List Value} (h:gI ρ g O a a') (n:Nat):gI ρ g O (a.take n) (a'.take n):=by
 refine ⟨by simp [h.1],fun i x u hx hu=>?_⟩
 rw [List.getElem?_take] at hx hu
 split at hx
 ·rw [if_pos (by assumption)] at hu;exact h.2 i x u hx hu
 ·cases hx
theorem gI.drop {a:List AV} {a':List Value} (h:gI ρ g O a a') (n:Nat):gI ρ g O (a.drop n) (a'.drop n):=by
 refine ⟨by simp [h.1],fun i x u hx hu=>?_⟩
 rw [List.getElem?_drop] at hx hu
 exact h.2 _ x u hx hu
theorem gI.get {l:List AV} {l':List Value} (h:gI ρ g O l l') {i:Nat} {a:AV} (ha:l[i]?=some a):∃ u,l'[i]?=some u∧AR ρ g O a u:=by
 have hi:i < l'.length:=by rw [←h.1];exact (List.getElem?_eq_some_iff.1 ha).1
 exact ⟨l'[i],List.getElem?_eq_getElem hi,h.2 i a _ ha (List.getElem?_eq_getElem hi)⟩
theorem gI.deep {l:List AV} {l':List Value} (h:gI ρ g O l l') (hd:bw l=true):rL g O l l':=⟨h.1,fun i a u ha hu=>(h.2 i a u ha hu).deep (gW hd i a ha)⟩
theorem rL.Bs {l:List AV} {l':List Value} (h:rL g O l l'):gI ρ g O l l':=⟨h.1,fun i a u ha hu=>.d (h.2 i a u ha hu)⟩
def AV.one:AV→Bool
 | .fl _|.sl ..|.pt ..|.fn ..|.ptr ..|.bX ..|.om _|.oq _=>true
 | _=>false
theorem AR.bQ {v:AV} {u:Value} (h:AR ρ g O v u) (ho:v.one=true):RM.bQ u=true:=by
 cases h with
 | d h =>
  cases h with
  | fl h=>cases u <;> first|rfl|simp [bF] at h
  | oq h=>exact h
  | _=>first|rfl|simp [AV.one] at ho
 | _=>first|rfl|simp [AV.one] at ho
theorem gI.bQ {l:List AV} {l':List Value} (h:gI ρ g O l l') (ho:l.all AV.one=true):l'.all RM.bQ=true:=by
 rw [List.all_eq_true] at ho ⊢
 intro u hu
 obtain ⟨i,hi,rfl⟩:=List.getElem_of_mem hu
 have hi':i < l.length:=by rw [h.1];exact hi
 exact (h.2 i l[i] _ (List.getElem?_eq_getElem hi') (List.getElem?_eq_getElem hi)).bQ (ho _ (List.getElem_mem hi'))
def AV.cells:AV→List AV
 | .ag cs=>cs
 | v=>[v]
def AV.lA:AV→Bool
 | .ag _=>true
 | v=>v.one
theorem FV {u:Value} (h:RM.bQ u=true):u.cells.toList=[u]:=by
 cases u <;> first|rfl|cases h
theorem AR.cells {v:AV} {u:Value} (h:AR ρ g O v u) (hc:v.lA=true):gI ρ g O v.cells u.cells.toList:=by
 cases v with
 | ag cs =>
  cases h with
  | d h=>cases h with
   | ag ha h1=>exact ⟨ha,fun i a u x y=>.d (h1 i a u x y)⟩
  | ag ha h1=>exact ⟨ha,h1⟩
 | cv=>simp [AV.lA,AV.one] at hc
 | tp=>simp [AV.lA,AV.one] at hc
 | _=>rw [FV (h.bQ rfl)];exact .cons h .nil
theorem AR.iH {v u:Value} (h:AR ρ g O (.fl v) u):u=v∧bF v=true:=by
 cases h with
 | d h=>cases h with
  | fl h=>exact ⟨rfl,h⟩
theorem gI.iH {l:List Value} {l':List Value} (h:gI ρ g O (l.map .fl) l'):l'=l∧l.all bF=true:=by
 have key:∀ (i:Nat) (v u:Value),l[i]?=some v→l'[i]?=some u→u=v∧bF v=true:=fun i v u hv hu=>(h.2 i (.fl v) u (by simp [hv]) hu).iH
 have hlen:l.length=l'.length:=by simpa using h.1
 refine ⟨List.ext_getElem? fun i=>?_,?_⟩
 ·by_cases hi:i < l.length
  ·rw [List.getElem?_eq_getElem hi,List.getElem?_eq_getElem (by omega:i < l'.length),(key i _ _ (List.getElem?_eq_getElem hi) (List.getElem?_eq_getElem (by omega))).1]
  ·rw [List.getElem?_eq_none (by omega),List.getElem?_eq_none (by omega)]
 ·rw [List.all_eq_true]
  intro x hx
  obtain ⟨i,hi,rfl⟩:=List.getElem_of_mem hx
  exact (key i _ _ (List.getElem?_eq_getElem hi) (List.getElem?_eq_getElem (by omega))).2
theorem gI.Aw {l:List Value} (h:l.all bF=true):gI ρ g O (l.map .fl) l:=by
 refine ⟨by simp,fun i a u ha hu=>?_⟩
 rw [List.getElem?_map,hu] at ha
 cases ha
 exact .d (.fl (List.all_eq_true.1 h u (List.mem_of_getElem? hu)))
end
structure bN where
 P:(Nat→Prop)→(Nat→Prop)→aI→Nat→Prop
 st:∀ {D S:Nat→Prop} {g g':aI} {n n':Nat},P D S g n→(∀ k,S k→g' k=g k)→n≤n'→P D S g' n'
def bN.none:bN:=⟨fun _ _ _ _=>True,fun _ _ _=>trivial⟩
structure Env where
 ρ:Nat→Nat→Option Nat
 D:Nat→Prop
 S:Nat→Prop
 X:Nat→Prop
def Own (ρ:Nat→Nat→Option Nat) (hp:List AB) (k:Nat):Prop:=∃ (j:Nat) (b:AB) (aD:Nat),hp[j]?=some b∧b.ver?=some aD∧ρ j aD=some k
def Env.O (E:Env) (hp:List AB) (k:Nat):Prop:=Own E.ρ hp k∨E.X k
def BR (ρ:Nat→Nat→Option Nat) (g:aI) (O:Nat→Prop):AB→bE→Prop
 | .cells cs es _,b'=>∃ cs',b'=.cells cs' true es∧gI ρ g O cs cs'
 | .dZ s p,b'=>b'=.dZ s p
 | .map ents clock,b'=>∃ es:List MapEntry,b'=.map es clock∧ents.length=es.length∧∀ (i:Nat) (k v:AV) (born:Nat) (e:MapEntry),ents[i]?=some (k,v,born)→es[i]?=some e→AR ρ g O k e.key∧AR ρ g O v e.val∧e.born=born
 | .iter j since seen stepped,b'=>∃ m,b'=.iter m since seen stepped∧ρ j 0=some m
 | .gone,_=>False
structure aY (E:Env) (base:Nat) (hp:List AB) (aJ:bN) (H:Hp):Prop where
 wf:Wf H
 iy:∀ (j:Nat) (b:AB) (aD:Nat),hp[j]?=some b→b.ver?=some aD→(∃ k b',E.ρ j aD=some k∧H.get k=some b'∧BR E.ρ H.get (E.O hp) b b')∨(E.ρ j aD=none∧∃ es,b=.cells [] es aD)
 inj:∀ (j j' aD ver' k:Nat),E.ρ j aD=some k→E.ρ j' ver'=some k→j=j'
 rn:∀ (j v k:Nat),E.ρ j v=some k→k < H.n
 fresh:∀ (j:Nat) (b:AB) (aD v:Nat),hp[j]?=some b→b.ver?=some aD→aD < v→E.ρ j v=none
 new:∀ j v,hp.length≤j→E.ρ j v=none
 sup:∀ k,Own E.ρ hp k→¬ E.S k
 jh:∀ k,Own E.ρ hp k→¬ E.X k
 dx:∀ k,E.D k→E.X k
 ds:∀ k,E.D k→E.S k
 sn:∀ k,E.S k→k < H.n
 xn:∀ k,E.X k→k < H.n
 qG:∀ k,Own E.ρ hp k∨E.D k→base≤k
 bn:base≤H.n
 aJ:aJ.P E.D E.S H.get H.n
structure Ext (base:Nat) (E:Env) (hp:List AB) (H:Hp) (E':Env) (hp':List AB) (H':Hp):Prop where
 n:H.n≤H'.n
 d:E'.D=E.D
 s:E'.S=E.S
 x:E'.X=E.X
 Ce:∀ j v k,E.ρ j v=some k→E'.ρ j v=some k
 own:∀ k,Own E'.ρ hp' k→Own E.ρ hp k∨H.n≤k
 same:∀ k,k < H.n→¬ Own E.ρ hp k→H'.get k=H.get k
 lo:min H.lo base≤H'.lo
section
variable {base : Nat} {E E' E2 : Env} {hp hp' hp2 : List AB} {aJ : bN} {H H' H2 : Hp}
theorem Wf.lt (h:Wf H) {k:Nat} {b:bE} (hk:H.get k=some b):k < H.n:=by
 apply Nat.lt_of_not_le
 intro hle
 rw [h k hle] at hk
 cases hk
theorem Ext.refl:Ext base E hp H E hp H:=⟨Nat.le_refl _,rfl,rfl,rfl,fun _ _ _ h=>h,fun _ h=>.inl h,fun _ _ _=>rfl,Nat.min_le_left _ _⟩
theorem Ext.trans (a:Ext base E hp H E' hp' H') (b:Ext base E' hp' H' E2 hp2 H2):Ext base E hp H E2 hp2 H2:=by
 refine ⟨Nat.le_trans a.n b.n,b.d.trans a.d,b.s.trans a.s,b.x.trans a.x,fun j v k h=>b.Ce j v k (a.Ce j v k h),fun k h=>?_,fun k hk ho=>?_,?_⟩
 ·rcases b.own k h with h|h
  ·exact a.own k h
  ·exact .inr (Nat.le_trans a.n h)
 ·rw [b.same k (Nat.lt_of_lt_of_le hk a.n) (fun h=>(a.own k h).elim ho (fun h=>by omega)),a.same k hk ho]
 ·have:=a.lo;have:=b.lo;omega
theorem Ext.keep (e:Ext base E hp H E' hp' H') (hw:Wf H):∀ k b,H.get k=some b→¬ E.O hp k→H'.get k=some b∧¬ E'.O hp' k:=by
 intro k b hk ho
 have hlt:=hw.lt hk
 refine ⟨by rw [e.same k hlt (fun h=>ho (.inl h))];exact hk,fun h=>?_⟩
 rcases h with h|h
 ·rcases e.own k h with h|h
  ·exact ho (.inl h)
  ·omega
 ·rw [e.x] at h;exact ho (.inr h)
theorem Ext.ar (e:Ext base E hp H E' hp' H') (hw:Wf H) {v:AV} {u:Value} (h:AR E.ρ H.get (E.O hp) v u):AR E'.ρ H'.get (E'.O hp') v u:=h.mono e.Ce (e.keep hw)
theorem Ext.dr (e:Ext base E hp H E' hp' H') (hw:Wf H) {v:AV} {u:Value} (h:DR H.get (E.O hp) v u):DR H'.get (E'.O hp') v u:=h.mono (e.keep hw)
theorem Ext.Bs (e:Ext base E hp H E' hp' H') (hw:Wf H) {v:List AV} {u:List Value} (h:gI E.ρ H.get (E.O hp) v u):gI E'.ρ H'.get (E'.O hp') v u:=h.mono e.Ce (e.keep hw)
theorem Ext.br (e:Ext base E hp H E' hp' H') (hw:Wf H) {b:AB} {b':bE} (h:BR E.ρ H.get (E.O hp) b b'):BR E'.ρ H'.get (E'.O hp') b b':=by
 cases b with
 | cells cs es aD=>obtain ⟨cs',rfl,h⟩:=h;exact ⟨cs',rfl,e.Bs hw h⟩
 | dZ s p=>exact h
 | map ents clock =>
  obtain ⟨es,rfl,h1,h2⟩:=h
  exact ⟨es,rfl,h1,fun i k v born x hx hy=>⟨e.ar hw (h2 i k v born x hx hy).1,e.ar hw (h2 i k v born x hx hy).2.1,(h2 i k v born x hx hy).2.2⟩⟩
 | iter j since seen stepped=>obtain ⟨m,rfl,h⟩:=h;exact ⟨m,rfl,e.Ce _ _ _ h⟩
 | gone=>exact h
theorem aY.nj (h:aY E base hp aJ H) {k:Nat} (ho:Own E.ρ hp k):k < H.n:=by
 obtain ⟨j,b,aD,h1,h2,h3⟩:=ho
 rcases h.iy j b aD h1 h2 with ⟨k',b',h4,h5,_⟩|⟨h4,_⟩
 ·rw [h3] at h4;cases h4;exact h.wf.lt h5
 ·rw [h3] at h4;cases h4
def dN (ρ:Nat→Nat→Option Nat) (j v k:Nat):Nat→Nat→Option Nat:=fun i w=>if i=j∧w=v then some k else ρ i w
theorem jt (ρ:Nat→Nat→Option Nat) (j v k:Nat):dN ρ j v k j v=some k:=by simp [dN]
theorem wP (ρ:Nat→Nat→Option Nat) {j v k i w:Nat} (h:¬ (i=j∧w=v)):dN ρ j v k i w=ρ i w:=if_neg h
theorem cB {b:bE} {k:Nat} (h:k < H.n):(H.push b).get k=H.get k:=by rw [Hp.fB,if_neg (by omega)]
theorem ju {b:bE}:(H.push b).get H.n=some b:=by rw [Hp.fB,if_pos rfl]
theorem cg {b:bE} {k i:Nat} (h:k ≠ i):(H.put i b).get k=H.get k:=by rw [Hp.kn,if_neg h]
theorem i4 {b:bE} {i:Nat}:(H.put i b).get i=some b:=by rw [Hp.kn,if_pos rfl]
theorem aY.HH (h:aY E base hp aJ H) (b:bE):aY E base hp aJ (H.push b)∧Ext base E hp H E hp (H.push b)∧¬ E.O hp H.n:=by
 have e:Ext base E hp H E hp (H.push b):=⟨Nat.le_succ _,rfl,rfl,rfl,fun _ _ _ h=>h,fun _ h=>.inl h,fun k hk _=>cB hk,Nat.min_le_left _ _⟩
 refine ⟨⟨(eT.push H b).wf h.wf,fun j x aD hj hv=>?_,h.inj,fun j v k hk=>Nat.lt_succ_of_lt (h.rn j v k hk),h.fresh,h.new,h.sup,h.jh,h.dx,h.ds,fun k hk=>Nat.lt_succ_of_lt (h.sn k hk),fun k hk=>Nat.lt_succ_of_lt (h.xn k hk),h.qG,Nat.le_succ_of_le h.bn,aJ.st h.aJ (fun k hk=>cB (h.sn k hk)) (Nat.le_succ _)⟩,e,fun ho=>?_⟩
 ·rcases h.iy j x aD hj hv with ⟨k,b',h1,h2,h3⟩|h1
  ·exact .inl ⟨k,b',h1,by rw [cB (h.wf.lt h2)];exact h2,e.br h.wf h3⟩
  ·exact .inr h1
 ·rcases ho with ho|ho
  ·have:=h.nj ho;omega
  ·have:=h.xn _ ho;omega
theorem aY.push (h:aY E base hp aJ H) {a:AB} {b:bE} (hv:a.ver?=some 0)
  (hb:∀ E' H',E'={E with ρ:=dN E.ρ hp.length 0 H.n}→H'=H.push b→Ext base E hp H E' (hp++[a]) H'→BR E'.ρ H'.get (E'.O (hp++[a])) a b) :
  ∃ E',E'={E with ρ:=dN E.ρ hp.length 0 H.n}∧aY E' base (hp++[a]) aJ (H.push b)∧Ext base E hp H E' (hp++[a]) (H.push b)∧E'.ρ hp.length 0=some H.n:=by
 have hold:∀ j v,j ≠ hp.length→dN E.ρ hp.length 0 H.n j v=E.ρ j v:=fun j v hj=>wP _ (fun h=>hj h.1)
 have hget:∀ (j:Nat) (x:AB),(hp++[a])[j]?=some x→(j < hp.length∧hp[j]?=some x)∨(j=hp.length∧x=a):=by
  intro j x hj
  by_cases hlt:j < hp.length
  ·rw [List.getElem?_append_left hlt] at hj;exact .inl ⟨hlt,hj⟩
  ·rw [List.getElem?_append_right (by omega)] at hj
   have:j - hp.length=0:=by
    apply Nat.eq_zero_of_not_pos
    intro hp0
    rw [List.getElem?_eq_none (by simp;omega)] at hj
    cases hj
   rw [this] at hj
   cases hj
   exact .inr ⟨by omega,rfl⟩
 have hown:∀ k,Own (dN E.ρ hp.length 0 H.n) (hp++[a]) k→Own E.ρ hp k∨k=H.n:=by
  rintro k ⟨j,x,aD,h1,h2,h3⟩
  rcases hget j x h1 with ⟨hlt,h1⟩|⟨rfl,rfl⟩
  ·rw [hold j aD (by omega)] at h3;exact .inl ⟨j,x,aD,h1,h2,h3⟩
  ·rw [hv] at h2;cases h2
   rw [jt] at h3;cases h3;exact .inr rfl
 have hownr:∀ k,Own E.ρ hp k→Own (dN E.ρ hp.length 0 H.n) (hp++[a]) k:=by
  rintro k ⟨j,x,aD,h1,h2,h3⟩
  have hlt:j < hp.length:=(List.getElem?_eq_some_iff.1 h1).1
  exact ⟨j,x,aD,by rw [List.getElem?_append_left hlt];exact h1,h2,by rw [hold j aD (by omega)];exact h3⟩
 have e:Ext base E hp H {E with ρ:=dN E.ρ hp.length 0 H.n} (hp++[a]) (H.push b):=by
  refine ⟨Nat.le_succ _,rfl,rfl,rfl,fun j v k hk=>?_,fun k hk=>(hown k hk).imp id (fun h=>by omega),fun k hk _=>cB hk,Nat.min_le_left _ _⟩
  show dN _ _ _ _ j v=_
  rw [hold j v (fun hj=>by subst hj;rw [h.new _ v (Nat.le_refl _)] at hk;cases hk)]
  exact hk
 refine ⟨_,rfl,⟨(eT.push H b).wf h.wf,fun j x aD hj hvx=>?_,fun j j' aD ver' k h1 h2=>?_,fun j v k hk=>?_,fun j x aD v h1 h2 h3=>?_,fun j v hj=>?_,fun k hk=>?_,fun k hk=>?_,h.dx,h.ds,fun k hk=>Nat.lt_succ_of_lt (h.sn k hk),fun k hk=>Nat.lt_succ_of_lt (h.xn k hk),fun k hk=>?_,Nat.le_succ_of_le h.bn,aJ.st h.aJ (fun k hk=>cB (h.sn k hk)) (Nat.le_succ _)⟩,e,jt _ _ _ _⟩
 ·rcases hget j x hj with ⟨hlt,h1⟩|⟨rfl,rfl⟩
  ·rcases h.iy j x aD h1 hvx with ⟨k,b',q1,q2,q3⟩|⟨q1,q2⟩
   ·exact .inl ⟨k,b',by show dN _ _ _ _ _ _=_;rw [hold j aD (by omega)];exact q1,by rw [cB (h.wf.lt q2)];exact q2,e.br h.wf q3⟩
   ·exact .inr ⟨by show dN _ _ _ _ _ _=_;rw [hold j aD (by omega)];exact q1,q2⟩
  ·rw [hv] at hvx;cases hvx
   exact .inl ⟨H.n,b,jt _ _ _ _,ju,hb _ _ rfl rfl e⟩
 ·have key:∀ (j aD:Nat),dN E.ρ hp.length 0 H.n j aD=some k→(E.ρ j aD=some k∧k < H.n)∨(j=hp.length∧k=H.n):=by
   intro j aD q
   unfold dN at q
   split at q
   ·rename_i hc
    cases q
    exact .inr ⟨hc.1,rfl⟩
   ·exact .inl ⟨q,h.rn _ _ _ q⟩
  rcases key j aD h1 with ⟨a1,a2⟩|⟨a1,a2⟩
  ·rcases key j' ver' h2 with ⟨b1,b2⟩|⟨b1,b2⟩
   ·exact h.inj j j' aD ver' k a1 b1
   ·omega
  ·rcases key j' ver' h2 with ⟨b1,b2⟩|⟨b1,b2⟩
   ·omega
   ·omega
 ·have hk:dN E.ρ hp.length 0 H.n j v=some k:=hk
  unfold dN at hk
  show k < H.n+1
  split at hk
  ·cases hk;omega
  ·have:=h.rn _ _ _ hk;omega
 ·rcases hget j x h1 with ⟨hlt,q1⟩|⟨rfl,rfl⟩
  ·show dN _ _ _ _ _ _=_;rw [hold j v (by omega)];exact h.fresh j x aD v q1 h2 h3
  ·show dN _ _ _ _ _ _=_;rw [wP _ (by omega)];exact h.new _ _ (Nat.le_refl _)
 ·show dN _ _ _ _ _ _=_
  simp only [List.length_append,List.length_cons,List.length_nil] at hj
  rw [hold j v (by omega)];exact h.new j v (by omega)
 ·rcases hown k hk with hk|rfl
  ·exact h.sup k hk
  ·exact fun hs=>by have:=h.sn _ hs;omega
 ·rcases hown k hk with hk|rfl
  ·exact h.jh k hk
  ·exact fun hs=>by have:=h.xn _ hs;omega
 ·rcases hk with hk|hk
  ·rcases hown k hk with hk|rfl
   ·exact h.qG k (.inl hk)
   ·exact h.bn
  ·exact h.qG k (.inr hk)
theorem aY.put (h:aY E base hp aJ H) {j aD k:Nat} {a0 a:AB} {b:bE} (hj:hp[j]?=some a0) (hv0:a0.ver?=some aD) (hv:a.ver?=some aD) (hk:E.ρ j aD=some k)
  (hb:BR E.ρ H.get (E.O hp) a b) :
  aY E base (hp.set j a) aJ (H.put k b)∧Ext base E hp H E (hp.set j a) (H.put k b):=by
 have hlt:j < hp.length:=(List.getElem?_eq_some_iff.1 hj).1
 have hok:Own E.ρ hp k:=⟨j,a0,aD,hj,hv0,hk⟩
 have hkn:=h.nj hok
 have hget:∀ (i:Nat) (x:AB),(hp.set j a)[i]?=some x→(i ≠ j∧hp[i]?=some x)∨(i=j∧x=a):=by
  intro i x hi
  by_cases hij:i=j
  ·subst hij;rw [List.getElem?_set_self hlt] at hi;cases hi;exact .inr ⟨rfl,rfl⟩
  ·rw [List.getElem?_set_ne (Ne.symm hij)] at hi;exact .inl ⟨hij,hi⟩
 have hown:∀ k',Own E.ρ (hp.set j a) k'→Own E.ρ hp k':=by
  rintro k' ⟨i,x,v,h1,h2,h3⟩
  rcases hget i x h1 with ⟨hij,h1⟩|⟨rfl,rfl⟩
  ·exact ⟨i,x,v,h1,h2,h3⟩
  ·rw [hv] at h2;cases h2;exact ⟨_,a0,_,hj,hv0,h3⟩
 have hbase:=h.qG k (.inl hok)
 have e:Ext base E hp H E (hp.set j a) (H.put k b):=by
  refine ⟨Nat.le_refl _,rfl,rfl,rfl,fun _ _ _ h=>h,fun k' h'=>.inl (hown k' h'),fun k' _ hn=>cg (fun e=>hn (e ▸ hok)),?_⟩
  show _≤min H.lo k
  omega
 have hwf:Wf (H.put k b):=fun i hi=>by rw [cg (by have:H.n≤i:=hi;omega)];exact h.wf i hi
 refine ⟨⟨hwf,fun i x v hi hvx=>?_,h.inj,h.rn,fun i x v w h1 h2 h3=>?_,fun i v hi=>h.new i v (by simpa using hi),fun k' hk'=>h.sup k' (hown k' hk'),fun k' hk'=>h.jh k' (hown k' hk'),h.dx,h.ds,h.sn,h.xn,fun k' hk'=>h.qG k' (hk'.imp (hown k') id),h.bn,aJ.st h.aJ (fun k' hs=>cg (fun e=>h.sup k hok (e ▸ hs))) (Nat.le_refl _)⟩,e⟩
 ·rcases hget i x hi with ⟨hij,h1⟩|⟨rfl,rfl⟩
  ·rcases h.iy i x v h1 hvx with ⟨k',b',q1,q2,q3⟩|q
   ·refine .inl ⟨k',b',q1,?_,e.br h.wf q3⟩
    rw [cg (fun e=>hij (h.inj i j v aD k' q1 (by rw [hk,e])))]
    exact q2
   ·exact .inr q
  ·rw [hv] at hvx;cases hvx
   exact .inl ⟨k,b,hk,i4,e.br h.wf hb⟩
 ·rcases hget i x h1 with ⟨hij,q1⟩|⟨rfl,rfl⟩
  ·exact h.fresh i x v w q1 h2 h3
  ·rw [hv] at h2;cases h2;exact h.fresh _ a0 _ w hj hv0 h3
theorem aY.renew (h:aY E base hp aJ H) {j aD:Nat} {a0 a:AB} {H1:Hp} {b:bE} (hj:hp[j]?=some a0) (hv0:a0.ver?=some aD) (hv:a.ver?=some (aD+1))
  (h1:H1=H∨∃ k,E.ρ j aD=some k∧H1=H.put k .dead)
  (hb:∀ E' H',E'={E with ρ:=dN E.ρ j (aD+1) H.n}→H'=H1.push b→Ext base E hp H E' (hp.set j a) H'→BR E'.ρ H'.get (E'.O (hp.set j a)) a b) :
  ∃ E',E'={E with ρ:=dN E.ρ j (aD+1) H.n}∧aY E' base (hp.set j a) aJ (H1.push b)∧Ext base E hp H E' (hp.set j a) (H1.push b)∧E'.ρ j (aD+1)=some H.n:=by
 have hlt:j < hp.length:=(List.getElem?_eq_some_iff.1 hj).1
 have hn1:H1.n=H.n:=by rcases h1 with rfl|⟨k,_,rfl⟩ <;> rfl
 have hw1:Wf H1:=by
  rcases h1 with rfl|⟨k,hk,rfl⟩
  ·exact h.wf
  ·have:=h.nj ⟨j,a0,aD,hj,hv0,hk⟩
   exact fun i hi=>by have:H.n≤i:=hi;rw [cg (by omega)];exact h.wf i hi
 have hg1:∀ k,¬ E.ρ j aD=some k→H1.get k=H.get k:=by
  intro k hk
  rcases h1 with rfl|⟨k',hk',rfl⟩
  ·rfl
  ·exact cg (fun e=>hk (e ▸ hk'))
 have hnone:E.ρ j (aD+1)=none:=h.fresh j a0 aD _ hj hv0 (Nat.lt_succ_self _)
 have hold:∀ i v,¬ (i=j∧v=aD+1)→dN E.ρ j (aD+1) H.n i v=E.ρ i v:=fun i v hne=>wP _ hne
 have hget:∀ (i:Nat) (x:AB),(hp.set j a)[i]?=some x→(i ≠ j∧hp[i]?=some x)∨(i=j∧x=a):=by
  intro i x hi
  by_cases hij:i=j
  ·subst hij;rw [List.getElem?_set_self hlt] at hi;cases hi;exact .inr ⟨rfl,rfl⟩
  ·rw [List.getElem?_set_ne (Ne.symm hij)] at hi;exact .inl ⟨hij,hi⟩
 have hown:∀ k,Own (dN E.ρ j (aD+1) H.n) (hp.set j a) k→(Own E.ρ hp k∧¬ E.ρ j aD=some k)∨k=H.n:=by
  rintro k ⟨i,x,v,q1,q2,q3⟩
  rcases hget i x q1 with ⟨hij,q1⟩|⟨rfl,rfl⟩
  ·rw [hold i v (fun e=>hij e.1)] at q3
   exact .inl ⟨⟨i,x,v,q1,q2,q3⟩,fun e=>hij (h.inj i j v aD k q3 e)⟩
  ·rw [hv] at q2;cases q2;rw [jt] at q3;cases q3;exact .inr rfl
 have e:Ext base E hp H {E with ρ:=dN E.ρ j (aD+1) H.n} (hp.set j a) (H1.push b):=by
  refine ⟨by show H.n≤H1.n+1;omega,rfl,rfl,rfl,fun i v k hk=>?_,fun k hk=>(hown k hk).imp And.left (fun h=>by omega),fun k hk hn=>?_,?_⟩
  ·show dN _ _ _ _ _ _=_
   rw [hold i v (fun e=>by rw [e.1,e.2,hnone] at hk;cases hk)];exact hk
  ·rw [cB (by omega),hg1 k (fun e=>hn ⟨j,a0,aD,hj,hv0,e⟩)]
  ·show _≤H1.lo
   rcases h1 with rfl|⟨k,hk,rfl⟩
   ·exact Nat.min_le_left _ _
   ·have:=h.qG k (.inl ⟨j,a0,aD,hj,hv0,hk⟩)
    show _≤min H.lo k
    omega
 refine ⟨_,rfl,⟨(eT.push H1 b).wf hw1,fun i x v hi hvx=>?_,fun i i' v v' k q1 q2=>?_,fun i v k hk=>?_,fun i x v w q1 q2 q3=>?_,fun i v hi=>?_,fun k hk=>?_,fun k hk=>?_,h.dx,h.ds,fun k hk=>?_,fun k hk=>?_,fun k hk=>?_,?_,aJ.st h.aJ (fun k hk=>?_) (by rw [←hn1];exact Nat.le_succ _)⟩,e,jt _ _ _ _⟩
 ·rcases hget i x hi with ⟨hij,q⟩|⟨rfl,rfl⟩
  ·rcases h.iy i x v q hvx with ⟨k,b',q1,q2,q3⟩|⟨q1,q2⟩
   ·refine .inl ⟨k,b',by show dN _ _ _ _ _ _=_;rw [hold i v (fun e=>hij e.1)];exact q1,?_,e.br h.wf q3⟩
    rw [cB (by rw [hn1];exact h.wf.lt q2),hg1 k (fun e=>hij (h.inj i j v aD k q1 e))]
    exact q2
   ·exact .inr ⟨by show dN _ _ _ _ _ _=_;rw [hold i v (fun e=>hij e.1)];exact q1,q2⟩
  ·rw [hv] at hvx;cases hvx
   refine .inl ⟨H.n,b,jt _ _ _ _,?_,hb _ _ rfl rfl e⟩
   rw [←hn1];exact ju
 ·have key:∀ (i v:Nat),dN E.ρ j (aD+1) H.n i v=some k→(E.ρ i v=some k∧k < H.n)∨(i=j∧k=H.n):=by
   intro i v q
   unfold dN at q
   split at q
   ·rename_i hc
    cases q
    exact .inr ⟨hc.1,rfl⟩
   ·exact .inl ⟨q,h.rn _ _ _ q⟩
  rcases key i v q1 with ⟨a1,a2⟩|⟨a1,a2⟩
  ·rcases key i' v' q2 with ⟨b1,b2⟩|⟨b1,b2⟩
   ·exact h.inj i i' v v' k a1 b1
   ·omega
  ·rcases key i' v' q2 with ⟨b1,b2⟩|⟨b1,b2⟩
   ·omega
   ·omega
 ·have hk:dN E.ρ j (aD+1) H.n i v=some k:=hk
  unfold dN at hk
  show k < H1.n+1
  split at hk
  ·cases hk;omega
  ·have:=h.rn _ _ _ hk;omega
 ·rcases hget i x q1 with ⟨hij,r1⟩|⟨rfl,rfl⟩
  ·show dN _ _ _ _ _ _=_;rw [hold i w (fun e=>hij e.1)];exact h.fresh i x v w r1 q2 q3
  ·rw [hv] at q2;cases q2
   show dN _ _ _ _ _ _=_;rw [hold _ w (by omega)];exact h.fresh _ a0 _ w hj hv0 (by omega)
 ·show dN _ _ _ _ _ _=_
  simp only [List.length_set] at hi
  rw [hold i v (by omega)];exact h.new i v hi
 ·rcases hown k hk with hk|rfl
  ·exact h.sup k hk.1
  ·exact fun hs=>by have:=h.sn _ hs;omega
 ·rcases hown k hk with hk|rfl
  ·exact h.jh k hk.1
  ·exact fun hs=>by have:=h.xn _ hs;omega
 ·have:=h.sn k hk;show k < H1.n+1;omega
 ·have:=h.xn k hk;show k < H1.n+1;omega
 ·rcases hk with hk|hk
  ·rcases hown k hk with hk|rfl
   ·exact h.qG k (.inl hk.1)
   ·exact h.bn
  ·exact h.qG k (.inr hk)
 ·have:=h.bn;show base≤H1.n+1;omega
 ·have hkn:=h.sn k hk
  rw [cB (by omega),hg1 k (fun e'=>h.sup k ⟨j,a0,aD,hj,hv0,e'⟩ hk)]
end
end Go.RM
namespace Go.RM
open Go
def sL (v:Value):AV :=
 match v with
 | .agg cs=>.ag (cs.toList.map .fl)
 | .tuple _=>.tp []
 | v=>.fl v
def aQ (fr:Nat→AV):Operand→AV
 | .tmp t=>fr t
 | .const v=>bif flat v then sL v else .cv
 | .func f=>.fn f [] []
 | .global _=>.cv
section
variable {T : cr} {base : Nat} {E E' : Env} {hp hp' : List AB} {aJ : bN} {H H' : Hp} {ρ : Nat → Nat → Option Nat} {g : aI} {O : Nat → Prop}
theorem mj {v:Value} (h:flat v=true):AR ρ g O (sL v) v:=by
 unfold sL
 split
 ·simp only [flat] at h
  have:=gI.Aw (ρ:=ρ) (g:=g) (O:=O) h
  exact .ag this.1 this.2
 ·rename_i cs
  simp only [flat,List.isEmpty_iff] at h
  exact .tp (by rw [h];rfl) (fun i x u hx=>by cases hx)
 ·rename_i h1 h2
  refine .d (.fl ?_)
  unfold flat at h
  split at h
  ·exact absurd rfl (h1 _)
  ·exact absurd rfl (h2 _)
  ·exact h
def mP (ρ:Nat→Nat→Option Nat) (g:aI) (O:Nat→Prop) (fr:Nat→AV) (tm:Tr Value):Prop:=∀ t,AR ρ g O (fr t) ((tm.get t).getD undef)
theorem mQ {fr:Nat→AV} {tm:Tr Value} (h:mP ρ g O fr tm) (x:Operand):AR ρ g O (aQ fr x) (bL tm x):=by
 cases x with
 | tmp t=>exact h t
 | const v =>
  show AR ρ g O (bif flat v then sL v else .cv) v
  cases hf:flat v with
  | true=>exact mj hf
  | false=>exact .cv
 | global g=>exact .cv
 | func f=>exact .fn rfl rfl (fun i x u hx=>by cases hx) (fun i x u hx=>by cases hx)
def fe (base:Nat) (E:Env) (hp:List AB) (aJ:bN) (H:Hp) (r:Option (Value × cK)) (K:AV→List AB→Prop):Prop :=
 ∃ u e E' a hp',r=some (u,e)∧K a hp'∧aY E' base hp' aJ (H.app e)∧Ext base E hp H E' hp' (H.app e)∧AR E'.ρ (H.app e).get (E'.O hp') a u
theorem fe.pure {K:AV→List AB→Prop} (h:aY E base hp aJ H) {u:Value} {a:AV} (ha:AR E.ρ H.get (E.O hp) a u) (hk:K a hp):fe base E hp aJ H (some (u,.none)) K :=
 ⟨u,.none,E,a,hp,rfl,hk,h,.refl,ha⟩
theorem fe.vB {K:AV→List AB→Prop} (h:aY E base hp aJ H) {u:Value} {a:AV} {b:bE}
  (ha:Ext base E hp H E hp (H.push b)→(H.push b).get H.n=some b→¬ E.O hp H.n→AR E.ρ (H.push b).get (E.O hp) a u) (hk:K a hp):fe base E hp aJ H (some (u,.new b)) K:=by
 obtain ⟨h1,h2,h3⟩:=h.HH b
 exact ⟨u,.new b,E,a,hp,rfl,hk,h1,h2,ha h2 ju h3⟩
theorem fe.new {K:AV→List AB→Prop} (h:aY E base hp aJ H) {u:Value} {a:AV} {x:AB} {b:bE} (hv:x.ver?=some 0)
  (hb:∀ E' H',Ext base E hp H E' (hp++[x]) H'→BR E'.ρ H'.get (E'.O (hp++[x])) x b)
  (ha:∀ E':Env,E'.ρ hp.length 0=some H.n→AR E'.ρ (H.push b).get (E'.O (hp++[x])) a u) (hk:K a (hp++[x])):fe base E hp aJ H (some (u,.new b)) K:=by
 obtain ⟨E',_,h1,h2,h3⟩:=h.push hv (b:=b) (fun E' H' _ _ e=>hb E' H' e)
 exact ⟨u,.new b,E',a,hp++[x],rfl,hk,h1,h2,ha E' h3⟩
def Cf (agg:Bool) (cs:List AV) (o s:Nat) (K:AV→Prop):Prop :=
 match agg with
 | true=>o+s≤cs.length∧K (.ag ((cs.drop o).take s))
 | false=>∃ v,cs[o]?=some v∧K v
def fT (T:cr) (t:TypeId) (a:AV) (hp:List AB) (K:AV→List AB→Prop):Prop :=
 match a,T.ty.get t with
 | .pt cs o,some ⟨_,s,_,_,agg,_,_⟩=>Cf agg cs o s fun v=>K v hp
 | .ptr j aD o,some ⟨_,s,_,_,agg,_,_⟩=>∃ cs es,hp[j]?=some (.cells cs es aD)∧Cf agg cs o s fun v=>K v hp
 | _,_=>False
theorem oV {cs:List Value} {o n:Nat} (h:o+n≤cs.length):cut cs o n=some ((cs.drop o).take n):=by
 unfold cut;rw [show Nat.ble (o+n) cs.length=true from Nat.ble_eq_true_of_le h];rfl
theorem DR.dA {l:List AV} {o:Nat} {u:Value} (h:DR g O (.pt l o) u):∃ k d cs own e,u=.pointer (some ⟨k,d+o,none⟩)∧g k=some (.cells cs own e)∧¬ O k∧d+l.length≤cs.length∧∀ (i:Nat) (a:AV) (u:Value),l[i]?=some a→cs[d+i]?=some u→DR g O a u:=by
 cases h with
 | pt h1 h2 h3 h4=>exact ⟨_,_,_,_,_,rfl,h1,h2,h3,h4⟩
theorem AR.dA {l:List AV} {o:Nat} {u:Value} (h:AR ρ g O (.pt l o) u):DR g O (.pt l o) u:=h.deep rfl
theorem AR.mS {l:List (List AV)} {f:Bool} {u:Value} (h:AR ρ g O (.sl l f) u):DR g O (.sl l f) u:=h.deep rfl
theorem AR.dV {j aD o:Nat} {u:Value} (h:AR ρ g O (.ptr j aD o) u):∃ k,ρ j aD=some k∧u=.pointer (some ⟨k,o,none⟩):=by
 cases h with
 | d h=>cases h
 | ptr h=>exact ⟨_,h,rfl⟩
theorem AR.iE {j aD o n c:Nat} {u:Value} (h:AR ρ g O (.bX j aD o n c) u):(∃ k,ρ j aD=some k∧u=.slice (some ⟨k,o,none⟩) n c)∨(o=0∧n=0∧u=.slice none 0 0):=by
 cases h with
 | d h=>cases h
 | bX h=>exact .inl ⟨_,h,rfl⟩
 | tT=>exact .inr ⟨rfl,rfl,rfl⟩
theorem aY.cells (h:aY E base hp aJ H) {j aD k es:Nat} {cs:List AV} (hj:hp[j]?=some (.cells cs es aD)) (hk:E.ρ j aD=some k):∃ cs',H.get k=some (.cells cs' true es)∧gI E.ρ H.get (E.O hp) cs cs':=by
 rcases h.iy j _ aD hj rfl with ⟨k',b',h1,h2,h3⟩|⟨h1,_⟩
 ·rw [hk] at h1;cases h1
  obtain ⟨cs',rfl,h4⟩:=h3
  exact ⟨cs',h2,h4⟩
 ·rw [hk] at h1;cases h1
theorem mm {agg:Bool} {cs:List AV} {cs':List Value} {o d s:Nat} {K:AV→Prop} (h:∀ (i:Nat) (a:AV) (u:Value),cs[i]?=some a→cs'[d+i]?=some u→AR ρ g O a u) (hlen:d+cs.length≤cs'.length) (hw:Cf agg cs o s K) :
  ∃ u a,(bif agg then (cut cs' (d+o) s).map fun c=>((.agg c.toArray:Value),cK.none) else (cs'[d+o]?).map fun v=>(v,cK.none))=some (u,.none)∧K a∧AR ρ g O a u:=by
 unfold Cf at hw
 cases agg with
 | true =>
  obtain ⟨h1,h2⟩:=hw
  refine ⟨.agg ((cs'.drop (d+o)).take s).toArray,_,by rw [oV (by omega)];rfl,h2,.ag ?_ ?_⟩
  ·simp;omega
  ·intro i x u hx hu
   simp only [List.getElem?_take,List.getElem?_drop] at hx hu
   split at hx
   ·rw [if_pos (by assumption)] at hu
    exact h _ x u hx (by rw [←Nat.add_assoc];exact hu)
   ·cases hx
 | false =>
  obtain ⟨v,h1,h2⟩:=hw
  have hlt:=(List.getElem?_eq_some_iff.1 h1).1
  have hc:cs'[d+o]?=some (cs'[d+o]'(by omega)):=List.getElem?_eq_getElem _
  exact ⟨_,v,by rw [hc];rfl,h2,h o v _ h1 hc⟩
theorem Ay (h:aY E base hp aJ H) {t:TypeId} {a:AV} {u:Value} (ha:AR E.ρ H.get (E.O hp) a u) {K:AV→List AB→Prop} (hw:fT T t a hp K):fe base E hp aJ H (iV T t u H.get) K:=by
 unfold fT at hw
 split at hw
 ·rename_i cs o lU s bytes zero agg cI eP hty
  obtain ⟨k,d,cs',own,e,rfl,h1,h2,h3,h4⟩:=ha.dA.dA
  unfold iV addr?
  simp only [h1,cells?,hty]
  obtain ⟨u,a,e1,e2,e3⟩:=mm (ρ:=E.ρ) (fun i a u x y=>.d (h4 i a u x y)) h3 hw
  rw [e1]
  exact .pure h e3 e2
 ·rename_i j aD o lU s bytes zero agg cI eP hty
  obtain ⟨cs,es,h1,h2⟩:=hw
  obtain ⟨k,hk,rfl⟩:=ha.dV
  obtain ⟨cs',h3,h4⟩:=h.cells h1 hk
  unfold iV addr?
  simp only [h3,cells?,hty]
  obtain ⟨u,a,e1,e2,e3⟩:=mm (d:=0) (fun i a u x y=>h4.2 i a u x (by rw [Nat.zero_add] at y;exact y)) (by rw [h4.1];omega) h2
  rw [Nat.zero_add] at e1
  rw [e1]
  exact .pure h e3 e2
 ·exact hw.elim
def cw (cs vs:List AV) (o:Nat):List AV:=cs.take o++vs++cs.drop (o+vs.length)
theorem gI.splice {a b:List AV} {a' b':List Value} (h:gI ρ g O a a') (k:gI ρ g O b b') (o:Nat):gI ρ g O (cw a b o) (splice a' b' o):=by
 unfold cw RM.splice
 rw [k.1]
 exact ((h.take o).append k).append (h.drop _)
def dW (T:cr) (t:TypeId) (a v:AV) (hp:List AB) (K:AV→List AB→Prop):Prop :=
 match a,T.ty.get t with
 | .ptr j aD o,some ⟨_,s,_,_,_,_,_⟩=>∃ cs es,hp[j]?=some (.cells cs es aD)∧v.lA=true∧v.cells.all AV.one=true∧v.cells.length=s∧o+s≤cs.length∧K .cv (hp.set j (.cells (cw cs v.cells o) es aD))
 | _,_=>False
theorem yw (h:aY E base hp aJ H) {t:TypeId} {a v:AV} {u x:Value} (ha:AR E.ρ H.get (E.O hp) a u) (hv:AR E.ρ H.get (E.O hp) v x) {K:AV→List AB→Prop} (hw:dW T t a v hp K):fe base E hp aJ H (kS T t u x H.get) K:=by
 unfold dW at hw
 split at hw
 ·rename_i j aD o lU s bytes zero agg cI eP hty
  obtain ⟨cs,es,h1,h2,h3,h4,h5,h6⟩:=hw
  obtain ⟨k,hk,rfl⟩:=ha.dV
  obtain ⟨cs',q1,q2⟩:=h.cells h1 hk
  have hc:=hv.cells h2
  have hone:=hc.bQ h3
  have e1:x.cells.toList.length=s:=by rw [←hc.1];exact h4
  unfold kS addr?
  simp only [q1,cells?,hty]
  have e2:(true && Nat.beq x.cells.toList.length s && Nat.ble (o+s) cs'.length && x.cells.toList.all RM.bQ)=true:=by
   rw [hone,e1]
   simp only [Bool.true_and,Bool.and_true,Bool.and_eq_true]
   exact ⟨Nat.beq_refl s,Nat.ble_eq_true_of_le (by rw [←q2.1];exact h5)⟩
  rw [e2]
  simp only [cond_true]
  obtain ⟨p1,p2⟩:=h.put (a:=.cells (cw cs v.cells o) es aD) (b:=.cells (splice cs' x.cells.toList o) true es) h1 rfl rfl hk ⟨_,rfl,q2.splice hc o⟩
  exact ⟨undef,.put k _,E,.cv,_,rfl,h6,p1,p2,.cv⟩
 ·exact hw.elim
def zb (own:Bool) (v:AV) (hp:List AB) (K:AV→List AB→Prop):Prop :=
 v.lA=true∧v.cells.all AV.one=true ∧
  match own with
  | true=>K (.ptr hp.length 0 0) (hp++[.cells v.cells 0 0])
  | false=>bw v.cells=true∧K (.pt v.cells 0) hp
theorem Cg (h:aY E base hp aJ H) {own:Bool} {v:AV} {x:Value} (hv:AR E.ρ H.get (E.O hp) v x) {K:AV→List AB→Prop} (hw:zb own v hp K):fe base E hp aJ H (Fy H.n x) K:=by
 obtain ⟨h1,h2,h3⟩:=hw
 have hc:=hv.cells h1
 unfold Fy
 rw [hc.bQ h2]
 simp only [cond_true]
 cases own with
 | true =>
  exact .new h (x:=.cells v.cells 0 0) rfl (fun E' H' e=>⟨_,rfl,e.Bs h.wf hc⟩) (fun E' hr=>.ptr hr) h3
 | false =>
  obtain ⟨h3,h4⟩:=h3
  refine .vB h (fun e hg hO=>.d (.pt (d:=0) (o:=0) hg hO (by rw [hc.1];omega) fun i a u ha hu=>?_)) h4
  rw [Nat.zero_add] at hu
  exact e.dr h.wf ((hc.deep h3).2 i a u ha hu)
def sM (T:cr) (t:TypeId) (hp:List AB) (K:AV→List AB→Prop):Prop :=
 match T.ty.get t with
 | some ⟨_,_,_,some z,_,_,_⟩=>z.cells.toList.all bF=true∧K (.ptr hp.length 0 0) (hp++[.cells (z.cells.toList.map .fl) 0 0])
 | _=>False
theorem yx (h:aY E base hp aJ H) {t:TypeId} {K:AV→List AB→Prop} (hw:sM T t hp K):fe base E hp aJ H (tD T H.n t) K:=by
 unfold sM at hw
 split at hw
 ·rename_i lU s bytes z agg cI eP hty
  obtain ⟨h1,h2⟩:=hw
  unfold tD
  simp only [hty,h1,cond_true]
  exact .new h (x:=.cells (z.cells.toList.map .fl) 0 0) rfl (fun E' H' e=>⟨_,rfl,.Aw h1⟩) (fun E' hr=>.ptr hr) h2
 ·exact hw.elim
def ku (T:cr) (t:TypeId) (a:AV) (i:Nat) (hp:List AB) (K:AV→List AB→Prop):Prop :=
 match a,T.ty.get t with
 | .pt cs o,some ⟨.struct _,_,_,_,_,cI,_⟩=>∃ off s,cI[i]?=some (off,s)∧1≤s∧K (.pt cs (o+off)) hp
 | .ptr j aD o,some ⟨.struct _,_,_,_,_,cI,_⟩=>∃ off s,cI[i]?=some (off,s)∧1≤s∧K (.ptr j aD (o+off)) hp
 | _,_=>False
theorem yy (h:aY E base hp aJ H) {t:TypeId} {a:AV} {i:Nat} {u:Value} (ha:AR E.ρ H.get (E.O hp) a u) {K:AV→List AB→Prop} (hw:ku T t a i hp K):fe base E hp aJ H (eA T t u i) K:=by
 unfold ku at hw
 split at hw
 ·rename_i cs o fs s bytes z agg cI eP hty
  obtain ⟨off,s',h1,h2,h3⟩:=hw
  obtain ⟨k,d,cs',own,e,rfl,q1,q2,q3,q4⟩:=ha.dA.dA
  unfold eA addr?
  simp only [hty,h1,Nat.ble_eq_true_of_le h2,cond_true]
  refine .pure h (a:=.pt cs (o+off)) ?_ h3
  unfold ptr
  rw [Nat.add_assoc]
  exact .d (.pt q1 q2 q3 q4)
 ·rename_i j aD o fs s bytes z agg cI eP hty
  obtain ⟨off,s',h1,h2,h3⟩:=hw
  obtain ⟨k,hk,rfl⟩:=ha.dV
  unfold eA addr?
  simp only [hty,h1,Nat.ble_eq_true_of_le h2,cond_true]
  exact .pure h (.ptr hk) h3
 ·exact hw.elim
def asInt:AV→Option Int
 | .fl (.int _ n)=>some n
 | _=>none
def cO (T:cr) (t:TypeId) (a ix:AV) (hp:List AB) (K:AV→List AB→Prop):Prop :=
 match asInt ix,T.ty.get t with
 | some j,some ⟨.array len _,_,_,_,_,_,eP⟩=>(0≤j∧j < (len:Int)) ∧
  match a with
  | .pt cs o=>K (.pt cs (o+j.toNat * eP)) hp
  | .ptr i aD o=>K (.ptr i aD (o+j.toNat * eP)) hp
  | _=>False
 | some j,some ⟨.slice _,_,_,_,_,_,eP⟩ =>
  match a with
  | .sl els _=>∃ el,(0≤j∧els[j.toNat]?=some el)∧el.length=eP∧K (.pt el 0) hp
  | .bX i aD o n _=>(0≤j∧j < (n:Int))∧K (.ptr i aD (o+j.toNat * eP)) hp
  | _=>False
 | _,_=>False
theorem mo {eP k o len:Nat} {j:Int} (h:0≤j∧j < (len:Int)):qo eP k o len j=some (ptr k (o+j.toNat * eP),.none):=by
 unfold qo
 have e:Int.ofNat len=(len:Int):=rfl
 rw [nL,oN,e,decide_eq_true h.1,decide_eq_true h.2]
 rfl
theorem jv {a:AV} {n:Int} {u:Value} (h:asInt a=some n) (ha:AR ρ g O a u):intOf? u=some n:=by
 unfold asInt at h
 split at h
 ·cases h
  rw [ha.iH.1]
  rfl
 ·cases h
theorem sN (h:aY E base hp aJ H) {t:TypeId} {a ix:AV} {u x:Value} (ha:AR E.ρ H.get (E.O hp) a u) (hx:AR E.ρ H.get (E.O hp) ix x) {K:AV→List AB→Prop} (hw:cO T t a ix hp K):fe base E hp aJ H (eD T t u x) K:=by
 unfold cO at hw
 split at hw
 ·rename_i j len el s bytes z agg cI eP hj hty
  have hix:=jv hj hx
  obtain ⟨h0,hw⟩:=hw
  unfold eD
  simp only [hix,hty]
  split at hw
  ·obtain ⟨k,d,cs',own,e,rfl,q1,q2,q3,q4⟩:=ha.dA.dA
   simp only [addr?]
   rw [mo h0]
   refine .pure h ?_ hw
   unfold ptr
   rw [Nat.add_assoc]
   exact .d (.pt q1 q2 q3 q4)
  ·obtain ⟨k,hk,rfl⟩:=ha.dV
   simp only [addr?]
   rw [mo h0]
   exact .pure h (.ptr hk) hw
  ·exact hw.elim
 ·rename_i j el s bytes z agg cI eP hj hty
  have hix:=jv hj hx
  unfold eD
  simp only [hix,hty]
  split at hw
  ·rename_i els f
   obtain ⟨el,⟨h0,h1⟩,h2,h3⟩:=hw
   cases ha.mS with
   | nil=>cases h1
   | sl q1 q2 q3 q4 q5 q6 q7 =>
    rename_i k o n c es cs own e
    have hlt:j.toNat < els.length:=(List.getElem?_eq_some_iff.1 h1).1
    have hes:es=eP:=by rw [←q5 _ _ h1,h2]
    subst hes
    show fe base E hp aJ H (qo es k o n j) K
    rw [mo ⟨h0,by omega⟩]
    have hle:(j.toNat+1) * es≤n * es:=Nat.mul_le_mul_right _ (by omega)
    rw [Nat.add_mul,Nat.one_mul] at hle
    refine .pure h (.d (.pt (d:=o+j.toNat * es) (o:=0) q1 q2 (by rw [h2];omega) fun i a u hi hu=>?_)) h3
    exact q6 _ _ i a u h1 hi hu
  ·rename_i i aD o n c
   obtain ⟨h0,h1⟩:=hw
   rcases ha.iE with ⟨k,hk,rfl⟩|⟨rfl,rfl,rfl⟩
   ·show fe base E hp aJ H (qo eP k o n j) K
    rw [mo h0]
    exact .pure h (.ptr hk) h1
   ·omega
  ·exact hw.elim
 ·exact hw.elim
def DF:List AV→Option (List Value)
 | []=>some []
 | .fl v :: l=>(DF l).map (v :: ·)
 | _=>none
theorem pZ:∀ {cs:List AV} {l:List Value},DF cs=some l→cs=l.map AV.fl
 | [],l,h=>by cases h;rfl
 | .fl v :: cs,l,h=>by
  simp only [DF,Option.map_eq_some_iff] at h
  obtain ⟨m,hm,rfl⟩:=h
  rw [pZ hm];rfl
 | .sl _ _ :: _,_,h|.pt _ _ :: _,_,h|.fn _ _ _ :: _,_,h|.ag _ :: _,_,h|.tp _ :: _,_,h|.ptr _ _ _ :: _,_,h|.bX _ _ _ _ _ :: _,_,h|.om _ :: _,_,h|.oq _ :: _,_,h|.cv :: _,_,h=>by simp [DF] at h
def AV.iu:AV→Option Value
 | .fl v=>some v
 | .ag cs=>(DF cs).map fun l=>.agg l.toArray
 | _=>none
theorem eF {a:AV} {v u:Value} (h:a.iu=some v) (ha:AR ρ g O a u):u=v∧flat v=true:=by
 unfold AV.iu at h
 split at h
 ·cases h
  obtain ⟨rfl,hf⟩:=ha.iH
  refine ⟨rfl,?_⟩
  cases u <;> first|exact hf|simp [bF] at hf
 ·rename_i cs
  rw [Option.map_eq_some_iff] at h
  obtain ⟨l,h1,rfl⟩:=h
  have hcs:=pZ h1
  subst hcs
  cases ha with
  | d h=>cases h with
   | ag ha h1 =>
    rename_i a'
    obtain ⟨e1,e2⟩:=gI.iH (ρ:=ρ) (g:=g) (O:=O) (l':=a'.toList) ⟨ha,fun i a u x y=>.d (h1 i a u x y)⟩
    refine ⟨by rw [←e1],?_⟩
    simp only [flat]
    exact e2
  | ag ha h1 =>
   rename_i a'
   obtain ⟨e1,e2⟩:=gI.iH (ρ:=ρ) (g:=g) (O:=O) (l':=a'.toList) ⟨ha,h1⟩
   refine ⟨by rw [←e1],?_⟩
   simp only [flat]
   exact e2
 ·cases h
def lB (r:Option (Value × cK)) (hp:List AB) (K:AV→List AB→Prop):Prop:=∃ v,r=some (v,.none)∧flat v=true∧K (sL v) hp
theorem dF (h:aY E base hp aJ H) {r:Option (Value × cK)} {K:AV→List AB→Prop} (hw:lB r hp K):fe base E hp aJ H r K:=by
 obtain ⟨v,rfl,h2,h3⟩:=hw
 exact .pure h (mj h2) h3
def ee (T:cr) (o:BinOp) (t:TypeId) (x y:Operand) (a b:AV) (hp:List AB) (K:AV→List AB→Prop):Prop :=
 match a,b with
 | .fl (.int .i64 m),.fl (.int .i64 n) =>
  match o with
  | .add=>(-9223372036854775808≤m+n∧m+n≤9223372036854775807)∧K (.fl (.int .i64 (m+n))) hp
  | .sub=>(-9223372036854775808≤m - n∧m - n≤9223372036854775807)∧K (.fl (.int .i64 (m - n))) hp
  | .mul=>(-9223372036854775808≤m * n∧m * n≤9223372036854775807)∧K (.fl (.int .i64 (m * n))) hp
  | .eql=>K (.fl (.bool (decide (m=n)))) hp
  | .neq=>K (.fl (.bool (!decide (m=n)))) hp
  | .lss=>K (.fl (.bool (decide (m < n)))) hp
  | .leq=>K (.fl (.bool (decide (m≤n)))) hp
  | .gtr=>K (.fl (.bool (decide (n < m)))) hp
  | .geq=>K (.fl (.bool (decide (n≤m)))) hp
  | _=>lB (hU T.P o t x y (.int .i64 m) (.int .i64 n)) hp K
 | _,_=>∃ v w,a.iu=some v∧b.iu=some w∧lB (hU T.P o t x y v w) hp K
theorem wQ {c:Int} (h:-9223372036854775808≤c∧c≤9223372036854775807):yQ c=true:=by
 unfold yQ
 rw [nL,nL,Bool.and_eq_true,decide_eq_true_iff,decide_eq_true_iff]
 exact ⟨by have e:Int.negSucc 9223372036854775807=-9223372036854775808:=rfl;rw [e];exact h.1,by have e:Int.ofNat 9223372036854775807=9223372036854775807:=rfl;rw [e];exact h.2⟩
theorem JG (a b:Int):Jy a b=decide (a=b):=by
 cases h:Jy a b with
 | true=>exact (decide_eq_true (Hj h)).symm
 | false =>
  refine (decide_eq_false fun e=>?_).symm
  subst e
  cases a <;> simp [Jy] at h
theorem Ch (h:aY E base hp aJ H) {o:BinOp} {t:TypeId} {x y:Operand} {a b:AV} {u v:Value} (ha:AR E.ρ H.get (E.O hp) a u) (hb:AR E.ρ H.get (E.O hp) b v) {K:AV→List AB→Prop}
  (hw:ee T o t x y a b hp K):fe base E hp aJ H (hU T.P o t x y u v) K:=by
 unfold ee at hw
 split at hw
 ·rename_i m n
  obtain ⟨rfl,_⟩:=ha.iH
  obtain ⟨rfl,_⟩:=hb.iH
  have key:∀ {z:Value},kj o m n=some z→bF z=true→K (.fl z) hp→fe base E hp aJ H (hU T.P o t x y (.int .i64 m) (.int .i64 n)) K:=by
   intro z hz hf hk
   unfold hU
   simp only [hz]
   exact .pure h (.d (.fl hf)) hk
  cases o <;> simp only at hw <;> first
   | exact key (by unfold kj oL;simp only;rw [show Int.add m n=m+n from rfl,wQ hw.1];rfl) rfl hw.2
   | exact key (by unfold kj oL;simp only;rw [show Int.sub m n=m - n from rfl,wQ hw.1];rfl) rfl hw.2
   | exact key (by unfold kj oL;simp only;rw [show Int.mul m n=m * n from rfl,wQ hw.1];rfl) rfl hw.2
   | exact key (by simp only [kj,JG,oN,nL]) rfl hw
   | exact dF h hw
 ·obtain ⟨v',w',h1,h2,h3⟩:=hw
  obtain ⟨rfl,_⟩:=eF h1 ha
  obtain ⟨rfl,_⟩:=eF h2 hb
  exact dF h h3
def HI (T:cr) (o:UnOp) (a:AV) (hp:List AB) (K:AV→List AB→Prop):Prop :=
 match o,a with
 | .not,.fl (.bool b)=>K (.fl (.bool (!b))) hp
 | _,_=>∃ v,a.iu=some v∧lB (cE (aA T.P (Op.unary o v))) hp K
theorem DG (h:aY E base hp aJ H) {o:UnOp} {a:AV} {u:Value} (ha:AR E.ρ H.get (E.O hp) a u) {K:AV→List AB→Prop} (hw:HI T o a hp K) :
  fe base E hp aJ H (bif flat u then cE (aA T.P (Op.unary o u)) else none) K:=by
 unfold HI at hw
 split at hw
 ·obtain ⟨rfl,_⟩:=ha.iH
  exact .pure h (.d (.fl rfl)) hw
 ·obtain ⟨v,h1,h2⟩:=hw
  obtain ⟨rfl,hf⟩:=eF h1 ha
  rw [hf]
  exact dF h h2
def Az (T:cr) (s d:TypeId) (a:AV) (hp:List AB) (K:AV→List AB→Prop):Prop :=
 ∃ v,a.iu=some v∧lB (cE (aA T.P (convert s d v))) hp K
def Ey (T:cr) (t:TypeId) (a:AV) (hp:List AB) (K:AV→List AB→Prop):Prop :=
 ∃ v,a.iu=some v∧lB (cE (aA T.P (Instr.makeInterface t v))) hp K
theorem yz (h:aY E base hp aJ H) {t:TypeId} {a:AV} {u:Value} (ha:AR E.ρ H.get (E.O hp) a u) {K:AV→List AB→Prop} (hw:Ey T t a hp K) :
  fe base E hp aJ H (bif flat u then cE (aA T.P (Instr.makeInterface t u)) else none) K:=by
 obtain ⟨v,h1,h2⟩:=hw
 obtain ⟨rfl,hf⟩:=eF h1 ha
 rw [hf]
 exact dF h h2
theorem AA (h:aY E base hp aJ H) {s d:TypeId} {a:AV} {u:Value} (ha:AR E.ρ H.get (E.O hp) a u) {K:AV→List AB→Prop} (hw:Az T s d a hp K) :
  fe base E hp aJ H (bif flat u then cE (aA T.P (convert s d u)) else none) K:=by
 obtain ⟨v,h1,h2⟩:=hw
 obtain ⟨rfl,hf⟩:=eF h1 ha
 rw [hf]
 exact dF h h2
def vC (T:cr) (t:TypeId) (a ix:AV) (hp:List AB) (K:AV→List AB→Prop):Prop :=
 ∃ v w,a.iu=some v∧ix.iu=some w∧lB (cE (aA T.P (Instr.index t v w))) hp K
theorem yA (h:aY E base hp aJ H) {t:TypeId} {a ix:AV} {u x:Value} (ha:AR E.ρ H.get (E.O hp) a u) (hx:AR E.ρ H.get (E.O hp) ix x) {K:AV→List AB→Prop} (hw:vC T t a ix hp K) :
  fe base E hp aJ H (bif flat u && flat x then cE (aA T.P (Instr.index t u x)) else none) K:=by
 obtain ⟨v,w,h1,h2,h3⟩:=hw
 obtain ⟨rfl,hf⟩:=eF h1 ha
 obtain ⟨rfl,hf'⟩:=eF h2 hx
 rw [hf,hf']
 exact dF h h3
def Ci (T:cr) (t:TypeId) (a:AV) (i:Nat) (hp:List AB) (K:AV→List AB→Prop):Prop :=
 ∃ v,a.iu=some v∧lB (cE (aA T.P (Instr.field t v i))) hp K
theorem wR (h:aY E base hp aJ H) {t:TypeId} {a:AV} {i:Nat} {u:Value} (ha:AR E.ρ H.get (E.O hp) a u) {K:AV→List AB→Prop} (hw:Ci T t a i hp K) :
  fe base E hp aJ H (bif flat u then cE (aA T.P (Instr.field t u i)) else none) K:=by
 obtain ⟨v,h1,h2⟩:=hw
 obtain ⟨rfl,hf⟩:=eF h1 ha
 rw [hf]
 exact dF h h2
def kK (a:AV) (i:Nat) (hp:List AB) (K:AV→List AB→Prop):Prop :=
 match a with
 | .tp vs=>∃ v,vs[i]?=some v∧K v hp
 | _=>False
theorem AR.wS {vs:List AV} {u:Value} (h:AR ρ g O (.tp vs) u):∃ us:Array Value,u=.tuple us∧gI ρ g O vs us.toList:=by
 cases h with
 | d h=>cases h with
  | tp ha h1=>exact ⟨_,rfl,ha,fun i a u x y=>.d (h1 i a u x y)⟩
 | tp ha h1=>exact ⟨_,rfl,ha,h1⟩
theorem vp (h:aY E base hp aJ H) {a:AV} {i:Nat} {u:Value} (ha:AR E.ρ H.get (E.O hp) a u) {K:AV→List AB→Prop} (hw:kK a i hp K):fe base E hp aJ H (gC u i) K:=by
 unfold kK at hw
 split at hw
 ·obtain ⟨v,h1,h2⟩:=hw
  obtain ⟨us,rfl,h3⟩:=ha.wS
  obtain ⟨x,h4,h5⟩:=h3.get h1
  unfold gC
  simp only [h4,Option.map_some]
  exact .pure h h5 h2
 ·exact hw.elim
def kz (t:Bool) (a b:AV) (hp:List AB) (K:AV→List AB→Prop):Prop :=
 match a,b with
 | .fl (.bool x),.fl (.bool y)=>K (.fl (.bool (bif t then x else y))) hp
 | a,b=>(t=true→K a hp)∧(t=false→K b hp)
def tU (c a b:AV) (hp:List AB) (K:AV→List AB→Prop):Prop :=
 match c with
 | .fl (.bool t)=>kz t a b hp K
 | _=>False
theorem AD (h:aY E base hp aJ H) {c a b:AV} {u v w:Value} (hc:AR E.ρ H.get (E.O hp) c u) (ha:AR E.ρ H.get (E.O hp) a v) (hb:AR E.ρ H.get (E.O hp) b w) {K:AV→List AB→Prop} (hw:tU c a b hp K) :
  fe base E hp aJ H (uF u v w) K:=by
 unfold tU at hw
 split at hw
 ·rename_i t
  obtain ⟨rfl,_⟩:=hc.iH
  unfold kz at hw
  split at hw
  ·rename_i x y
   obtain ⟨rfl,_⟩:=ha.iH
   obtain ⟨rfl,_⟩:=hb.iH
   unfold uF
   refine .pure h (a:=.fl (.bool (bif t then x else y))) ?_ hw
   cases t <;> exact .d (.fl rfl)
  ·unfold uF
   cases ht:t with
   | true=>exact .pure h ha (hw.1 ht)
   | false=>exact .pure h hb (hw.2 ht)
 ·exact hw.elim
def sO (a:AV) (hp:List AB) (K:AV→List AB→Prop):Prop :=
 match a with
 | .pt cs o=>K (.pt cs o) hp
 | .ptr j aD o=>K (.ptr j aD o) hp
 | _=>False
theorem Cj (h:aY E base hp aJ H) {a:AV} {u:Value} (ha:AR E.ρ H.get (E.O hp) a u) {K:AV→List AB→Prop} (hw:sO a hp K):fe base E hp aJ H (jn u) K:=by
 unfold sO at hw
 split at hw
 ·obtain ⟨k,d,cs',own,e,rfl,_⟩:=ha.dA.dA
  exact .pure h ha hw
 ·obtain ⟨k,hk,rfl⟩:=ha.dV
  exact .pure h ha hw
 ·exact hw.elim
end
end Go.RM
namespace Go.RM
open Go
section
variable {T : cr} {base : Nat} {E E' : Env} {hp hp' : List AB} {aJ : bN} {H H' : Hp} {ρ : Nat → Nat → Option Nat} {g : aI} {O : Nat → Prop}
def Ck (place:Nat→Option (Nat × Nat)) (cells:List AV):List (Nat × AV)→Option (List AV)
 | []=>some cells
 | (i,v) :: rest =>
  match place i with
  | none=>none
  | some (off,size)=>bif v.lA && Nat.beq v.cells.length size && Nat.ble (off+size) cells.length then Ck place (cw cells v.cells off) rest else none
def oW (ρ:Nat→Nat→Option Nat) (g:aI) (O:Nat→Prop):List (Nat × AV)→List (Nat × Value)→Prop
 | [],[]=>True
 | (i,a) :: l,(k,u) :: m=>i=k∧AR ρ g O a u∧oW ρ g O l m
 | _,_=>False
theorem uQ {place:Nat→Option (Nat × Nat)}:∀ {parts:List (Nat × AV)} {parts':List (Nat × Value)} {cells:List AV} {cells':List Value} {cs:List AV},oW ρ g O parts parts'→gI ρ g O cells cells' →
  Ck place cells parts=some cs→∃ cs',oz place cells' parts'=some cs'∧gI ρ g O cs cs'
 | [],[],cells,cells',cs,_,hc,h=>by cases h;exact ⟨cells',rfl,hc⟩
 | (i,a) :: l,(k,u) :: m,cells,cells',cs,hp,hc,h=>by
  obtain ⟨rfl,ha,hl⟩:=hp
  unfold Ck at h
  unfold oz
  cases hpl:place i with
  | none=>rw [hpl] at h;cases h
  | some p =>
   obtain ⟨off,size⟩:=p
   rw [hpl] at h
   simp only at h ⊢
   cases hb:(a.lA && Nat.beq a.cells.length size && Nat.ble (off+size) cells.length) with
   | false=>rw [hb] at h;cases h
   | true =>
    rw [hb] at h
    simp only [cond_true] at h
    simp only [Bool.and_eq_true] at hb
    have hac:=ha.cells hb.1.1
    rw [show Nat.beq u.cells.toList.length size=true by rw [←hac.1];exact hb.1.2,show Nat.ble (off+size) cells'.length=true by rw [←hc.1];exact hb.2]
    exact uQ hl (hc.splice hac off) h
 | [],_ :: _,_,_,_,hp,_,_=>hp.elim
 | _ :: _,[],_,_,_,hp,_,_=>by simp [oW] at hp
def nX (T:cr) (t:TypeId) (parts:List (Nat × AV)) (hp:List AB) (K:AV→List AB→Prop):Prop :=
 match T.ty.get t with
 | some ⟨lU,_,_,some z,true,cI,eP⟩=>z.cells.toList.all bF=true∧∃ cs,Ck (iF lU cI eP) (z.cells.toList.map .fl) parts=some cs∧K (.ag cs) hp
 | _=>False
theorem yB (h:aY E base hp aJ H) {t:TypeId} {parts:List (Nat × AV)} {parts':List (Nat × Value)} (hpt:oW E.ρ H.get (E.O hp) parts parts') {K:AV→List AB→Prop} (hw:nX T t parts hp K) :
  fe base E hp aJ H (qR T t parts') K:=by
 unfold nX at hw
 split at hw
 ·rename_i lU s bytes z cI eP hty
  obtain ⟨h1,cs,h2,h3⟩:=hw
  unfold qR
  simp only [hty,h1,cond_true]
  obtain ⟨cs',e1,e2⟩:=uQ hpt (gI.Aw h1) h2
  rw [e1]
  refine .pure h (a:=.ag cs) (.ag ?_ ?_) h3
  ·simpa using e2.1
  ·intro i x u hx hu;exact e2.2 i x u hx (by simpa using hu)
 ·exact hw.elim
def mq (es:Nat):Nat→List (Nat × AV)→Bool
 | _,[]=>true
 | i,(k,v) :: l=>Nat.beq k i && v.lA && v.cells.all AV.one && Nat.beq v.cells.length es && mq es (i+1) l
theorem zc {es:Nat}:∀ {parts:List (Nat × AV)} {parts':List (Nat × Value)} {i:Nat} {cells:List Value},oW ρ g O parts parts'→mq es i parts=true→cells.length=(i+parts.length) * es →
  ∃ cs',oz (fun i=>some (i * es,es)) cells parts'=some (cells.take (i * es)++cs')∧gI ρ g O (parts.map (·.2.cells)).flatten cs'∧cs'.length=parts.length * es
 | [],[],i,cells,_,_,hl=>by
  refine ⟨[],?_,.nil,by simp⟩
  simp only [List.length_nil,Nat.add_zero] at hl
  simp [oz,←hl]
 | (k,a) :: l,(k',u) :: m,i,cells,hp,hok,hlen=>by
  obtain ⟨rfl,ha,hl⟩:=hp
  simp only [mq,Bool.and_eq_true] at hok
  obtain ⟨⟨⟨⟨o1,o2⟩,o3⟩,o4⟩,o5⟩:=hok
  obtain rfl:=Nat.eq_of_beq_eq_true o1
  have hac:=ha.cells o2
  have hes:=Nat.eq_of_beq_eq_true o4
  have hlen':cells.length=k * es+es+l.length * es:=by
   rw [hlen];simp only [List.length_cons];rw [Nat.add_mul,Nat.add_mul];omega
  unfold oz
  simp only
  rw [show Nat.beq u.cells.toList.length es=true by rw [←hac.1];exact o4,show Nat.ble (k * es+es) cells.length=true from Nat.ble_eq_true_of_le (by omega)]
  simp only [Bool.and_self,cond_true]
  have hsl:(splice cells u.cells.toList (k * es)).length=cells.length:=by
   unfold RM.splice
   simp only [List.length_append,List.length_take,List.length_drop]
   rw [←hac.1,hes]
   omega
  obtain ⟨cs',e1,e2,e3⟩:=zc (i:=k+1) (cells:=splice cells u.cells.toList (k * es)) hl o5 (by rw [hsl,hlen];simp only [List.length_cons];rw [show k+1+l.length=k+(l.length+1) by omega])
  refine ⟨u.cells.toList++cs',?_,?_,?_⟩
  ·rw [e1]
   congr 1
   rw [←List.append_assoc]
   congr 1
   unfold RM.splice
   rw [Nat.add_mul,Nat.one_mul,List.take_append_of_le_length (by simp only [List.length_append,List.length_take];rw [←hac.1,hes];omega)]
   rw [List.take_of_length_le]
   simp only [List.length_append,List.length_take]
   rw [←hac.1,hes]
   omega
  ·simp only [List.map_cons,List.flatten_cons]
   exact hac.append e2
  ·simp only [List.length_append,List.length_cons,e3]
   rw [←hac.1,hes,Nat.add_mul]
   omega
 | [],_ :: _,_,_,hp,_,_=>hp.elim
 | _ :: _,[],_,_,hp,_,_=>by simp [oW] at hp
theorem uR {es:Nat}:∀ {l:List (Nat × AV)} {i:Nat},mq es i l=true→∀ p ∈ l,p.2.cells.length=es∧p.2.cells.all AV.one=true
 | [],_,_,p,hp=>by cases hp
 | (k,v) :: l,i,h,p,hp=>by
  simp only [mq,Bool.and_eq_true] at h
  rcases List.mem_cons.1 hp with rfl|hp
  ·exact ⟨Nat.eq_of_beq_eq_true h.1.2,h.1.1.2⟩
  ·exact uR h.2 p hp
theorem gJ {α:Type} {es:Nat}:∀ {els:List (List α)},(∀ el ∈ els,el.length=es)→∀ (i:Nat) (el:List α) (j:Nat),els[i]?=some el→j < es→els.flatten[i * es+j]?=el[j]?
 | [],_,i,el,j,h,_=>by cases h
 | x :: l,hl,i,el,j,h,hj=>by
  have hx:=hl x (by simp)
  rw [List.flatten_cons]
  cases i with
  | zero =>
   cases h
   rw [Nat.zero_mul,Nat.zero_add,List.getElem?_append_left (by omega)]
  | succ i =>
   rw [List.getElem?_append_right (by rw [hx,Nat.add_mul];omega),hx,show (i+1) * es+j - es=i * es+j by rw [Nat.add_mul];omega]
   exact gJ (fun e he=>hl e (List.mem_cons_of_mem _ he)) i el j (by simpa using h) hj
theorem dc {α:Type} {es:Nat}:∀ {els:List (List α)},(∀ el ∈ els,el.length=es)→els.flatten.length=els.length * es
 | [],_=>by simp
 | x :: l,h=>by
  rw [List.flatten_cons,List.length_append,dc (fun e he=>h e (List.mem_cons_of_mem _ he)),h x (by simp),List.length_cons,Nat.add_mul]
  omega
theorem DR.row {k n:Nat} {els:List (List AV)} {cs:List Value} {own full:Bool} {es e c:Nat} (hg:g k=some (.cells cs own e)) (hO:¬ O k) (hel:∀ el ∈ els,el.length=es) (hn:els.length=n) (hc:rL g O els.flatten cs) (hf:full=true→c=n) :
  DR g O (.sl els full) (.slice (some ⟨k,0,none⟩) n c):=by
 refine .sl (es:=es) hg hO ?_ hn (fun i el h=>hel el (List.mem_of_getElem? h)) (fun i el j a u h1 h2 h3=>?_) hf
 ·rw [←hc.1,dc hel,hn];omega
 ·have hj:j < es:=by rw [←hel el (List.mem_of_getElem? h1)];exact (List.getElem?_eq_some_iff.1 h2).1
  rw [Nat.zero_add] at h3
  exact hc.2 _ a u (by rw [gJ hel i el j h1 hj];exact h2) h3
def dX (T:cr) (own:Bool) (t:TypeId) (len:Nat) (parts:List (Nat × AV)) (hp:List AB) (K:AV→List AB→Prop):Prop :=
 match elem? T t with
 | some inf=>Nat.ble (len * inf.size) 65536=true∧ct inf=true∧mq inf.size 0 parts=true∧Nat.beq parts.length len=true ∧
  match own with
  | true=>K (.bX hp.length 0 0 len len) (hp++[.cells (parts.map (·.2.cells)).flatten inf.size 0])
  | false=>bw (parts.map (·.2.cells)).flatten=true∧K (.sl (parts.map (·.2.cells)) true) hp
 | none=>False
theorem qY (h:aY E base hp aJ H) {own:Bool} {t:TypeId} {len:Nat} {parts:List (Nat × AV)} {parts':List (Nat × Value)} (hpt:oW E.ρ H.get (E.O hp) parts parts') {K:AV→List AB→Prop}
  (hw:dX T own t len parts hp K):fe base E hp aJ H (iN T H.n t len parts') K:=by
 unfold dX at hw
 split at hw
 ·rename_i inf hi
  obtain ⟨h1,h2,h3,h4,h5⟩:=hw
  have h4:=Nat.eq_of_beq_eq_true h4
  unfold iN
  simp only [hi,h1,h2,Bool.and_self,cond_true]
  obtain ⟨cs',e1,e2,e3⟩:=zc (es:=inf.size) (i:=0) (cells:=dj ((inf.zero.map fun z=>z.cells.toList).getD []) (len * inf.size)) hpt h3 (by rw [Nat.zero_add,h4];simp [dj])
  rw [e1]
  simp only [Nat.zero_mul,List.take_zero,List.nil_append]
  cases own with
  | true=>exact .new h (x:=.cells (parts.map (·.2.cells)).flatten inf.size 0) rfl (fun E' H' e=>⟨_,rfl,e.Bs h.wf e2⟩) (fun E' hr=>.bX hr) h5
  | false =>
   obtain ⟨h5,h6⟩:=h5
   refine .vB h (fun e hg hO=>.d (.row hg hO (es:=inf.size) (fun el he=>?_) (by simp [h4]) ?_ (fun _=>rfl))) h6
   ·obtain ⟨p,hp',rfl⟩:=List.mem_map.1 he
    exact (uR h3 p hp').1
   ·have:=(e.Bs h.wf e2).deep h5
    exact this
 ·exact hw.elim
def Cm (o:Option AV) (d l:Nat):Prop :=
 match o with
 | none=>l=d
 | some a=>asInt a=some (l:Int)
def HJ (ρ:Nat→Nat→Option Nat) (g:aI) (O:Nat→Prop):Option AV→Option Value→Prop
 | none,none=>True
 | some a,some u=>AR ρ g O a u
 | _,_=>False
theorem kL {o:Option AV} {o':Option Value} {d l:Nat} (h:Cm o d l) (ho:HJ ρ g O o o'):kQ d o'=some l:=by
 cases o with
 | none=>cases o' with
  | none=>cases h;rfl
  | some=>exact ho.elim
 | some a=>cases o' with
  | none=>exact ho.elim
  | some u =>
   have:=jv h ho
   unfold intOf? at this
   split at this
   ·cases this
    unfold kQ rO
    simp only [Int.toNat_natCast]
    rw [decide_eq_false (by omega)]
    rfl
   ·cases this
def AE (T:cr) (t:TypeId) (x:AV) (lo hi:Option AV) (hp:List AB) (K:AV→List AB→Prop):Prop :=
 match x with
 | .fl (.string s)=>∃ lo' hi':Option Value,lo.map AV.iu=lo'.map some∧hi.map AV.iu=hi'.map some∧lB (cE (aA T.P (Instr.sliceAt t (.string s) lo' hi' none))) hp K
 | .sl els full=>match elem? T t with
  | some inf=>∃ l h:Nat,Cm lo 0 l∧Cm hi els.length h∧(l≤h∧h≤els.length)∧1≤inf.size∧(∀ el ∈ els,el.length=inf.size)∧K (.sl ((els.drop l).take (h - l)) (full && Nat.beq h els.length)) hp
  | none=>False
 | .bX j aD o n c=>match elem? T t with
  | some inf=>∃ l h:Nat,Cm lo 0 l∧Cm hi n h∧(l≤h∧h≤n)∧1≤inf.size∧K (.bX j aD (o+l * inf.size) (h - l) (bif Nat.beq h n && Nat.beq c n then h - l else h - l+2)) hp
  | none=>False
 | _=>False
theorem yC (h:aY E base hp aJ H) {t:TypeId} {x:AV} {u:Value} {lo hi:Option AV} {lo' hi':Option Value} (hx:AR E.ρ H.get (E.O hp) x u) (hlo:HJ E.ρ H.get (E.O hp) lo lo') (hhi:HJ E.ρ H.get (E.O hp) hi hi')
  {K:AV→List AB→Prop} (hw:AE T t x lo hi hp K):fe base E hp aJ H (iw T t u lo' hi') K:=by
 unfold AE at hw
 split at hw
 ·rename_i s
  obtain ⟨rfl,_⟩:=hx.iH
  obtain ⟨l',h',h1,h2,h3⟩:=hw
  have key:∀ {o:Option AV} {o' o'':Option Value},HJ E.ρ H.get (E.O hp) o o'→o.map AV.iu=o''.map some→o'=o''∧o'.toList.all flat=true:=by
   intro o o' o'' ho he
   cases o with
   | none=>cases o' with
    | none=>cases o'' with
     | none=>exact ⟨rfl,rfl⟩
     | some=>cases he
    | some=>exact ho.elim
   | some a=>cases o' with
    | none=>exact ho.elim
    | some v=>cases o'' with
     | none=>cases he
     | some w =>
      simp only [Option.map_some,Option.some.injEq] at he
      obtain ⟨rfl,hf⟩:=eF he ho
      exact ⟨rfl,by simp [hf]⟩
  obtain ⟨rfl,f1⟩:=key hlo h1
  obtain ⟨rfl,f2⟩:=key hhi h2
  unfold iw
  simp only [f1,f2,Bool.and_self,cond_true]
  exact dF h h3
 ·rename_i els full
  split at hw
  ·rename_i inf hi'
   obtain ⟨l,m,h1,h2,⟨h3,h4⟩,h5,h6,h7⟩:=hw
   have e1:=kL h1 hlo
   cases hx.mS with
   | nil =>
    have e2:=kL h2 hhi
    simp only [List.length_nil] at h4 e2
    obtain rfl:m=0:=by omega
    obtain rfl:l=0:=by omega
    unfold iw qQ
    simp only [hi',e1,e2]
    rw [show Nat.ble 1 inf.size=true from Nat.ble_eq_true_of_le h5]
    exact .pure h (.d .nil) h7
   | sl q1 q2 q3 q4 q5 q6 q7 =>
    rename_i k o n c es cs own e
    rw [q4] at h2 h4 h7
    have e2:=kL h2 hhi
    unfold iw qQ
    simp only [hi',e1,e2]
    rw [show Nat.ble 1 inf.size=true from Nat.ble_eq_true_of_le h5,show Nat.ble l m=true from Nat.ble_eq_true_of_le h3,show Nat.ble m n=true from Nat.ble_eq_true_of_le h4]
    simp only [Bool.and_self,cond_true,Option.map_some]
    have hes:els ≠ []→es=inf.size:=by
     intro hne
     cases els with
     | nil=>exact absurd rfl hne
     | cons x l=>rw [←q5 0 x rfl];exact h6 x (by simp)
    by_cases hne:els=[]
    ·subst hne
     simp only [List.length_nil] at q4
     subst q4
     obtain rfl:m=0:=by omega
     obtain rfl:l=0:=by omega
     refine .pure h (a:=_) (.d (.sl (es:=es) q1 q2 ?_ ?_ ?_ ?_ ?_)) h7
     ·simpa using q3
     ·simp
     ·intro i el hel;simp at hel
     ·intro i el j a u hel;simp at hel
     ·intro hf
      simp only [Bool.and_eq_true] at hf
      rw [q7 hf.1];rfl
    ·have hes:=hes hne
     subst hes
     refine .pure h (a:=_) (.d (.sl (es:=inf.size) q1 q2 ?_ ?_ ?_ ?_ ?_)) h7
     ·have:l * inf.size+(m - l) * inf.size≤n * inf.size:=by
       rw [←Nat.add_mul];exact Nat.mul_le_mul_right _ (by omega)
      omega
     ·simp only [List.length_take,List.length_drop];omega
     ·intro i el hel
      rw [List.getElem?_take] at hel
      split at hel
      ·rw [List.getElem?_drop] at hel;exact q5 _ el hel
      ·cases hel
     ·intro i el j a u hel ha hu
      rw [List.getElem?_take] at hel
      split at hel
      ·rw [List.getElem?_drop] at hel
       refine q6 _ el j a u hel ha ?_
       rw [Nat.add_mul]
       rw [show o+(l * inf.size+i * inf.size)+j=o+l * inf.size+i * inf.size+j by omega]
       exact hu
      ·cases hel
     ·intro hf
      simp only [Bool.and_eq_true] at hf
      rw [hf.2,q7 hf.1,Nat.beq_refl];rfl
  ·exact hw.elim
 ·rename_i j aD o n c
  split at hw
  ·rename_i inf hi'
   obtain ⟨l,m,h1,h2,⟨h3,h4⟩,h5,h7⟩:=hw
   have e1:=kL h1 hlo
   have e2:=kL h2 hhi
   rcases hx.iE with ⟨k,hk,rfl⟩|⟨rfl,rfl,rfl⟩
   ·unfold iw qQ
    simp only [hi',e1,e2]
    rw [show Nat.ble 1 inf.size=true from Nat.ble_eq_true_of_le h5,show Nat.ble l m=true from Nat.ble_eq_true_of_le h3,show Nat.ble m n=true from Nat.ble_eq_true_of_le h4]
    simp only [Bool.and_self,cond_true,Option.map_some]
    exact .pure h (.bX hk) h7
   ·obtain rfl:m=0:=by omega
    obtain rfl:l=0:=by omega
    unfold iw qQ
    simp only [hi',e1,e2]
    rw [show Nat.ble 1 inf.size=true from Nat.ble_eq_true_of_le h5]
    simp only [Nat.zero_mul,Nat.add_zero] at h7
    exact .pure h .tT h7
  ·exact hw.elim
 ·exact hw.elim
def zeroCells (inf:yP):List Value:=(inf.zero.map fun z=>z.cells.toList).getD []
theorem yD {inf:yP} (h:ct inf=true) (n:Nat):(dj (zeroCells inf) (n * inf.size)).all bF=true:=by
 unfold ct at h
 split at h
 ·rename_i z hz
  simp only [Bool.and_eq_true] at h
  obtain ⟨⟨h1,h2⟩,h3⟩:=h
  have h1:=Nat.eq_of_beq_eq_true h1
  have h2:=Nat.le_of_ble_eq_true h2
  unfold dj zeroCells
  rw [hz,List.all_map,List.all_eq_true]
  intro i hi
  simp only [Option.map_some,Option.getD_some,Function.comp]
  rw [List.all_eq_true] at h3
  have hlt:i % z.cells.toList.length < z.cells.toList.length:=Nat.mod_lt _ (by omega)
  rw [List.getD_eq_getElem?_getD,List.getElem?_eq_getElem hlt]
  exact h3 _ (List.getElem_mem hlt)
 ·cases h
def wT (T:cr) (t:TypeId) (ln cp:AV) (hp:List AB) (K:AV→List AB→Prop):Prop :=
 match elem? T t with
 | some inf=>∃ l c:Nat,asInt ln=some (l:Int)∧asInt cp=some (c:Int)∧(l≤c∧inf.bytes * c≤140737488355328∧c≤9223372036854775807)∧ct inf=true ∧
  K (.bX hp.length 0 0 l (bif Nat.beq l c then l else l+1)) (hp++[.cells ((dj (zeroCells inf) (l * inf.size)).map .fl) inf.size 0])
 | none=>False
theorem ze {a:AV} {n:Nat} {u:Value} (h:asInt a=some (n:Int)) (ha:AR ρ g O a u):rO u=some n:=kL (o:=some a) (o':=some u) (d:=0) h ha
theorem AF (h:aY E base hp aJ H) {t:TypeId} {ln cp:AV} {u v:Value} (hl:AR E.ρ H.get (E.O hp) ln u) (hc:AR E.ρ H.get (E.O hp) cp v) {K:AV→List AB→Prop} (hw:wT T t ln cp hp K) :
  fe base E hp aJ H (jm T H.n t u v) K:=by
 unfold wT at hw
 split at hw
 ·rename_i inf hi
  obtain ⟨l,c,h1,h2,⟨h3,h4,h5⟩,h6,h7⟩:=hw
  unfold jm
  simp only [hi,ze h1 hl,ze h2 hc]
  rw [show Nat.ble l c=true from Nat.ble_eq_true_of_le h3,show Nat.ble (inf.bytes * c) 140737488355328=true from Nat.ble_eq_true_of_le h4,show Nat.ble c 9223372036854775807=true from Nat.ble_eq_true_of_le h5,h6]
  simp only [Bool.and_self,cond_true]
  exact .new h (x:=.cells ((dj (zeroCells inf) (l * inf.size)).map .fl) inf.size 0) rfl (fun E' H' e=>⟨_,rfl,.Aw (yD h6 l)⟩) (fun E' hr=>.bX hr) h7
 ·exact hw.elim
def sP (T:cr) (t:TypeId) (x:AV) (hp:List AB) (K:AV→List AB→Prop):Prop :=
 match T.ty.get t,x with
 | some ⟨.slice _,_,_,_,_,_,_⟩,.sl els _=>K (.fl (.int .i64 els.length)) hp
 | some ⟨.slice _,_,_,_,_,_,_⟩,.bX _ _ _ n _=>K (.fl (.int .i64 n)) hp
 | some ⟨.slice _,_,_,_,_,_,_⟩,.fl (.slice _ n _)=>K (.fl (.int .i64 n)) hp
 | some ⟨.array n _,_,_,_,_,_,_⟩,_=>K (.fl (.int .i64 n)) hp
 | some ⟨.string,_,_,_,_,_,_⟩,.fl (.string s)=>K (.fl (.int .i64 s.data.toList.length)) hp
 | some ⟨.map ..,_,_,_,_,_,_⟩,.om j=>∃ ents clock,hp[j]?=some (.map ents clock)∧K (.fl (.int .i64 ents.length)) hp
 | _,_=>False
theorem AR.qZ {j:Nat} {u:Value} (h:AR ρ g O (.om j) u):∃ k,ρ j 0=some k∧u=.map (some k):=by
 cases h with
 | d h=>cases h
 | om h=>exact ⟨_,h,rfl⟩
theorem aY.map (h:aY E base hp aJ H) {j k clock:Nat} {ents:List (AV × AV × Nat)} (hj:hp[j]?=some (.map ents clock)) (hk:E.ρ j 0=some k):∃ es,H.get k=some (.map es clock)∧ents.length=es.length ∧
  ∀ (i:Nat) (k v:AV) (born:Nat) (e:MapEntry),ents[i]?=some (k,v,born)→es[i]?=some e→AR E.ρ H.get (E.O hp) k e.key∧AR E.ρ H.get (E.O hp) v e.val∧e.born=born:=by
 rcases h.iy j _ 0 hj rfl with ⟨k',b',h1,h2,h3⟩|⟨h1,_,h2⟩
 ·rw [hk] at h1;cases h1
  obtain ⟨es,rfl,h4,h5⟩:=h3
  exact ⟨es,h2,h4,h5⟩
 ·cases h2
theorem Cn (h:aY E base hp aJ H) {t:TypeId} {x:AV} {u:Value} (hx:AR E.ρ H.get (E.O hp) x u) {K:AV→List AB→Prop} (hw:sP T t x hp K):fe base E hp aJ H (kU T t u H.get) K:=by
 have num:∀ (n:Nat),AR E.ρ H.get (E.O hp) (.fl (.int .i64 n)) (.int .i64 n):=fun n=>.d (.fl rfl)
 unfold sP at hw
 unfold kU
 split at hw
 ·rename_i e s b z a f es els full hty
  rw [hty]
  cases hx.mS with
  | nil=>exact .pure h (num 0) hw
  | sl q1 q2 q3 q4 q5 q6 q7=>rw [q4] at hw;exact .pure h (num _) hw
 ·rename_i hty
  rw [hty]
  rcases hx.iE with ⟨k,hk,rfl⟩|⟨rfl,rfl,rfl⟩
  ·exact .pure h (num _) hw
  ·exact .pure h (num 0) hw
 ·rename_i hty
  rw [hty]
  obtain ⟨rfl,_⟩:=hx.iH
  exact .pure h (num _) hw
 ·rename_i hty
  rw [hty]
  exact .pure h (num _) hw
 ·rename_i hty
  rw [hty]
  obtain ⟨rfl,_⟩:=hx.iH
  exact .pure h (num _) hw
 ·rename_i j hty
  rw [hty]
  obtain ⟨ents,clock,h1,h2⟩:=hw
  obtain ⟨k,hk,rfl⟩:=hx.qZ
  obtain ⟨es,q1,q2,_⟩:=h.map h1 hk
  simp only [q1,map?]
  rw [←q2]
  exact .pure h (num _) h2
 ·exact hw.elim
def Ez (T:cr) (args:List AV) (hp:List AB) (K:AV→List AB→Prop):Prop :=
 match args with
 | [.fl (.int .i64 x),.fl (.int .i64 y)]=>K (.fl (.int .i64 (min x y))) hp
 | l=>∃ vs,DF l=some vs∧lB (z5 T.P vs) hp K
def EA (T:cr) (args:List AV) (hp:List AB) (K:AV→List AB→Prop):Prop :=
 match args with
 | [.fl (.int .i64 x),.fl (.int .i64 y)]=>K (.fl (.int .i64 (max x y))) hp
 | l=>∃ vs,DF l=some vs∧lB (z6 T.P vs) hp K
theorem gI.two {a b:AV} {l:List Value} (h:gI ρ g O [a,b] l):∃ u v,l=[u,v]∧AR ρ g O a u∧AR ρ g O b v:=by
 match l,h with
 | [u,v],h=>exact ⟨u,v,rfl,h.2 0 a u rfl rfl,h.2 1 b v rfl rfl⟩
 | [],h=>exact absurd h.1 (by simp)
 | [_],h=>exact absurd h.1 (by simp)
 | _ :: _ :: _ :: _,h=>exact absurd h.1 (by simp)
theorem Co (h:aY E base hp aJ H) {args:List AV} {us:List Value} (ha:gI E.ρ H.get (E.O hp) args us) {K:AV→List AB→Prop} (hw:Ez T args hp K):fe base E hp aJ H (z5 T.P us) K:=by
 unfold Ez at hw
 split at hw
 ·rename_i x y
  obtain ⟨u,v,rfl,h1,h2⟩:=ha.two
  obtain ⟨rfl,_⟩:=h1.iH
  obtain ⟨rfl,_⟩:=h2.iH
  unfold z5
  simp only
  have e:(bif FA y x then y else x)=min x y:=by
   rw [oN]
   by_cases hxy:y < x
   ·rw [decide_eq_true hxy];simp only [cond_true];omega
   ·rw [decide_eq_false hxy];simp only [cond_false];omega
  rw [e]
  exact .pure h (.d (.fl rfl)) hw
 ·obtain ⟨vs,h1,h2⟩:=hw
  have:=pZ h1
  subst this
  rw [ha.iH.1]
  exact dF h h2
theorem Cp (h:aY E base hp aJ H) {args:List AV} {us:List Value} (ha:gI E.ρ H.get (E.O hp) args us) {K:AV→List AB→Prop} (hw:EA T args hp K):fe base E hp aJ H (z6 T.P us) K:=by
 unfold EA at hw
 split at hw
 ·rename_i x y
  obtain ⟨u,v,rfl,h1,h2⟩:=ha.two
  obtain ⟨rfl,_⟩:=h1.iH
  obtain ⟨rfl,_⟩:=h2.iH
  unfold z6
  simp only
  have e:(bif FA x y then y else x)=max x y:=by
   rw [oN]
   by_cases hxy:x < y
   ·rw [decide_eq_true hxy];simp only [cond_true];omega
   ·rw [decide_eq_false hxy];simp only [cond_false];omega
  rw [e]
  exact .pure h (.d (.fl rfl)) hw
 ·obtain ⟨vs,h1,h2⟩:=hw
  have:=pZ h1
  subst this
  rw [ha.iH.1]
  exact dF h h2
end
end Go.RM
namespace Go.RM
open Go
section
variable {T : cr} {base : Nat} {E E' : Env} {hp hp' : List AB} {aJ : bN} {H H' : Hp} {ρ : Nat → Nat → Option Nat} {g : aI} {O : Nat → Prop}
def oX:List (AV × AV × Nat)→Option (List Value)
 | []=>some []
 | (k,_,_) :: l=>match k.iu,oX l with
  | some v,some vs=>some (v :: vs)
  | _,_=>none
def gz (ρ:Nat→Nat→Option Nat) (g:aI) (O:Nat→Prop) (ents:List (AV × AV × Nat)) (es:List MapEntry):Prop :=
 ents.length=es.length∧∀ (i:Nat) (k v:AV) (born:Nat) (e:MapEntry),ents[i]?=some (k,v,born)→es[i]?=some e→AR ρ g O k e.key∧AR ρ g O v e.val∧e.born=born
theorem gz.keys:∀ {ents:List (AV × AV × Nat)} {es:List MapEntry} {ks:List Value},gz ρ g O ents es→oX ents=some ks→es.map (·.key)=ks
 | [],es,ks,h,hk=>by
  cases hk
  have:=h.1
  rw [List.length_nil] at this
  rw [List.eq_nil_of_length_eq_zero this.symm]
  rfl
 | (k,v,b) :: ents,[],ks,h,hk=>absurd h.1 (by simp)
 | (k,v,b) :: ents,e :: es,ks,h,hk=>by
  unfold oX at hk
  split at hk
  ·rename_i kv vs h1 h2
   cases hk
   have hh:gz ρ g O ents es:=⟨by simpa using h.1,fun i k v b e x y=>h.2 (i+1) k v b e (by simpa using x) (by simpa using y)⟩
   rw [List.map_cons,hh.keys h2,(eF h1 (h.2 0 k v b e rfl rfl).1).1]
  ·cases hk
theorem gz.empty {ents:List (AV × AV × Nat)} {es:List MapEntry} (h:gz ρ g O ents es):es.isEmpty=ents.isEmpty:=by
 have:=h.1
 cases ents <;> cases es <;> simp_all
theorem gz.get {ents:List (AV × AV × Nat)} {es:List MapEntry} (h:gz ρ g O ents es) {i:Nat} {p:AV × AV × Nat} (hi:ents[i]?=some p):∃ e,es[i]?=some e∧AR ρ g O p.1 e.key∧AR ρ g O p.2.1 e.val∧e.born=p.2.2:=by
 have hlt:i < es.length:=by rw [←h.1];exact (List.getElem?_eq_some_iff.1 hi).1
 obtain ⟨k,v,b⟩:=p
 exact ⟨es[i],List.getElem?_eq_getElem hlt,h.2 i k v b _ hi (List.getElem?_eq_getElem hlt)⟩
def Cq (T:cr) (emp:Bool) (kt:TypeId) (kv:Value) (ks:List Value) (r:Option Nat):Prop:=∀ es:List MapEntry,es.map (·.key)=ks→oy T.P emp kt kv es=some r
def sQ (T:cr) (t:TypeId) (m k:AV) (ok:Bool) (hp:List AB) (K:AV→List AB→Prop):Prop :=
 match m with
 | .om j=>∃ ents clock ks kv kt z r,hp[j]?=some (.map ents clock)∧oX ents=some ks∧k.iu=some kv∧kR T t=some (kt,some z)∧Cq T ents.isEmpty kt kv ks r ∧
  match r with
  | some i=>∃ e,ents[i]?=some e∧K (bif ok then .tp [e.2.1,.fl (.bool true)] else e.2.1) hp
  | none=>flat z=true∧K (bif ok then .tp [sL z,.fl (.bool false)] else sL z) hp
 | _=>False
theorem aY.FX (h:aY E base hp aJ H) {j k:Nat} {ents:List (AV × AV × Nat)} {clock:Nat} (hj:hp[j]?=some (.map ents clock)) (hk:E.ρ j 0=some k):∃ es:List MapEntry,H.get k=some (.map es clock)∧gz E.ρ H.get (E.O hp) ents es:=by
 obtain ⟨es,q1,q2,q3⟩:=h.map hj hk
 exact ⟨es,q1,q2,q3⟩
theorem wU {a b:AV} {u v:Value} (h:AR ρ g O a u) (k:AR ρ g O b v):AR ρ g O (.tp [a,b]) (.tuple #[u,v]) :=
 .tp rfl fun i x y hx hy=>by
  match i with
  | 0=>cases hx;cases hy;exact h
  | 1=>cases hx;cases hy;exact k
  | i+2=>simp at hx
theorem wV (h:aY E base hp aJ H) {t:TypeId} {m k:AV} {ok:Bool} {um uk:Value} (hm:AR E.ρ H.get (E.O hp) m um) (hk:AR E.ρ H.get (E.O hp) k uk) {K:AV→List AB→Prop} (hw:sQ T t m k ok hp K) :
  fe base E hp aJ H ((lZ T t um uk ok H.get).map fun v=>(v,cK.none)) K:=by
 unfold sQ at hw
 split at hw
 ·rename_i j
  obtain ⟨ents,clock,ks,kv,kt,z,r,h1,h2,h3,h4,h5,h6⟩:=hw
  obtain ⟨q,hq,rfl⟩:=hm.qZ
  obtain ⟨es,q1,q2⟩:=h.FX h1 hq
  obtain ⟨rfl,_⟩:=eF h3 hk
  have hf:=h5 es (q2.keys h2)
  rw [←q2.empty] at hf
  have hb:((iM (.map (some q))).bind fun r=>map? (H.get r))=some (es,clock):=by
   show map? (H.get q)=_
   rw [q1];rfl
  unfold lZ
  rw [h4,hb]
  simp only
  unfold z4
  rw [hf]
  cases r with
  | some i =>
   obtain ⟨e,e1,e2⟩:=h6
   obtain ⟨e',f1,_,f3,_⟩:=q2.get e1
   simp only [f1,Option.map_some]
   cases ok with
   | true=>exact .pure h (wU f3 (.d (.fl rfl))) e2
   | false=>exact .pure h f3 e2
  | none =>
   obtain ⟨hz,e2⟩:=h6
   simp only [hz,cond_true,Option.map_some]
   cases ok with
   | true=>exact .pure h (wU (mj hz) (.d (.fl rfl))) e2
   | false=>exact .pure h (mj hz) e2
 ·exact hw.elim
def iI (T:cr) (t:TypeId) (m k:AV) (hp:List AB) (K:AV→List AB→Prop):Prop :=
 match m with
 | .om j=>∃ ents clock ks kv kt z r,hp[j]?=some (.map ents clock)∧oX ents=some ks∧k.iu=some kv∧kR T t=some (kt,some z)∧Cq T false kt kv ks r ∧
  match r with
  | some i=>∃ e,ents[i]?=some e∧(∃ ke,e.1.iu=some ke∧Instr.sameBits 10000 ke kv=true)∧K (.tp [e.2.1,.fl (.int .i64 e.2.2)]) (hp.set j (.map (ents.set i (k,e.2.1,e.2.2)) clock))
  | none=>flat z=true∧K (.tp [sL z,.fl (.int .i64 clock)]) (hp.set j (.map (ents++[(k,sL z,clock)]) (clock+1)))
 | _=>False
theorem gz.set {ents:List (AV × AV × Nat)} {es:List MapEntry} (h:gz ρ g O ents es) {i:Nat} {e:MapEntry} (he:es[i]?=some e) {k v:AV} {f:MapEntry→MapEntry} (hk:AR ρ g O k (f e).key) (hv:AR ρ g O v (f e).val):gz ρ g O (ents.set i (k,v,(f e).born)) (es.modify i f):=by
 refine ⟨by rw [List.length_set,List.length_modify];exact h.1,fun a k' v' b e' x y=>?_⟩
 have hi:i < es.length:=(List.getElem?_eq_some_iff.1 he).1
 by_cases ha:i=a
 ·subst ha
  rw [List.getElem?_set_self (by rw [h.1];exact hi)] at x
  rw [List.getElem?_modify_eq,he] at y
  cases x
  cases y
  exact ⟨hk,hv,rfl⟩
 ·rw [List.getElem?_set_ne ha] at x
  rw [List.getElem?_modify_ne _ _ ha] at y
  exact h.2 a k' v' b e' x y
theorem gz.snoc {ents:List (AV × AV × Nat)} {es:List MapEntry} (h:gz ρ g O ents es) {k v:AV} {e:MapEntry} (hk:AR ρ g O k e.key) (hv:AR ρ g O v e.val):gz ρ g O (ents++[(k,v,e.born)]) (es++[e]):=by
 refine ⟨by rw [List.length_append,List.length_append,h.1];rfl,fun a k' v' b e' x y=>?_⟩
 by_cases ha:a < ents.length
 ·rw [List.getElem?_append_left ha] at x
  rw [List.getElem?_append_left (by rw [←h.1];exact ha)] at y
  exact h.2 a k' v' b e' x y
 ·rw [List.getElem?_append_right (by omega)] at x
  rw [List.getElem?_append_right (by rw [←h.1];omega),←h.1] at y
  generalize a - ents.length=c at *
  match c,x,y with
  | 0,x,y=>cases x;cases y;exact ⟨hk,hv,rfl⟩
  | c+1,x,y=>simp at x
theorem tW (h:aY E base hp aJ H) {t:TypeId} {m k:AV} {um uk:Value} (hm:AR E.ρ H.get (E.O hp) m um) (hk:AR E.ρ H.get (E.O hp) k uk) {K:AV→List AB→Prop} (hw:iI T t m k hp K) :
  fe base E hp aJ H (fq T t um uk H.get) K:=by
 unfold iI at hw
 split at hw
 ·rename_i j
  obtain ⟨ents,clock,ks,kv,kt,z,r,h1,h2,h3,h4,h5,h6⟩:=hw
  obtain ⟨q,hq,rfl⟩:=hm.qZ
  obtain ⟨es,q1,q2⟩:=h.FX h1 hq
  obtain ⟨rfl,_⟩:=eF h3 hk
  have hf:=h5 es (q2.keys h2)
  unfold fq
  simp only [h4,iM,q1,map?]
  unfold mY
  rw [hf]
  cases r with
  | some i =>
   obtain ⟨e,e1,⟨ke,e2,e3⟩,e4⟩:=h6
   obtain ⟨e',f1,f2,f3,f4⟩:=q2.get e1
   obtain ⟨rfl,_⟩:=eF e2 f2
   simp only [f1,e3,cond_true]
   have hs:=q2.set (k:=k) (v:=e.2.1) (f:=fun e=>{e with key:=uk}) f1 hk f3
   obtain ⟨p1,p2⟩:=h.put (a:=.map (ents.set i (k,e.2.1,e'.born)) clock) (b:=.map (es.modify i fun e=>{e with key:=uk}) clock) h1 rfl rfl hq ⟨_,rfl,hs.1,hs.2⟩
   rw [f4] at p1 p2
   refine ⟨_,.put q _,E,_,_,rfl,e4,p1,p2,?_⟩
   rw [f4]
   exact wU (p2.ar h.wf f3) (.d (.fl rfl))
  | none =>
   obtain ⟨hz,e2⟩:=h6
   simp only [hz,cond_true]
   have hs:=q2.snoc (k:=k) (v:=sL z) (e:={key:=uk,val:=z,born:=clock}) hk (mj hz)
   obtain ⟨p1,p2⟩:=h.put (a:=.map (ents++[(k,sL z,clock)]) (clock+1)) (b:=.map (es++[{key:=uk,val:=z,born:=clock}]) (clock+1)) h1 rfl rfl hq ⟨_,rfl,hs.1,hs.2⟩
   exact ⟨_,.put q _,E,_,_,rfl,e2,p1,p2,wU (mj hz) (.d (.fl rfl))⟩
 ·exact hw.elim
def fU (m s v:AV) (hp:List AB) (K:AV→List AB→Prop):Prop :=
 match m with
 | .om j=>∃ ents clock born i e,hp[j]?=some (.map ents clock)∧asInt s=some born∧(ents.map fun p=>((p.2.2:Nat):Int)).findIdx? (· == born)=some i∧ents[i]?=some e∧K .cv (hp.set j (.map (ents.set i (e.1,v,e.2.2)) clock))
 | _=>False
theorem gz.K6:∀ {ents:List (AV × AV × Nat)} {es:List MapEntry},gz ρ g O ents es→es.map (fun e=>((e.born:Nat):Int))=ents.map fun p=>((p.2.2:Nat):Int)
 | [],es,h=>by
  have:=h.1
  rw [List.length_nil] at this
  rw [List.eq_nil_of_length_eq_zero this.symm]
  rfl
 | (k,v,b) :: ents,[],h=>absurd h.1 (by simp)
 | (k,v,b) :: ents,e :: es,h=>by
  have hh:gz ρ g O ents es:=⟨by simpa using h.1,fun i k v b e x y=>h.2 (i+1) k v b e (by simpa using x) (by simpa using y)⟩
  rw [List.map_cons,List.map_cons,hh.K6,(h.2 0 k v b e rfl rfl).2.2]
theorem ri (h:aY E base hp aJ H) {m s v:AV} {um us uv:Value} (hm:AR E.ρ H.get (E.O hp) m um) (hs:AR E.ρ H.get (E.O hp) s us) (hv:AR E.ρ H.get (E.O hp) v uv) {K:AV→List AB→Prop} (hw:fU m s v hp K) :
  fe base E hp aJ H ((dH um us uv H.get).map fun e=>(undef,e)) K:=by
 unfold fU at hw
 split at hw
 ·rename_i j
  obtain ⟨ents,clock,born,i,e,h1,h2,h3,h4,h5⟩:=hw
  obtain ⟨q,hq,rfl⟩:=hm.qZ
  obtain ⟨es,q1,q2⟩:=h.FX h1 hq
  have hb:=jv h2 hs
  unfold dH
  simp only [iM,hb,q1,map?]
  have hi:es.findIdx? (fun e=>((e.born:Nat):Int) == born)=some i:=by
   rw [←q2.K6,List.findIdx?_map] at h3
   exact h3
  obtain ⟨e',f1,f2,f3,f4⟩:=q2.get h4
  simp only [hi,Option.map_some]
  have hset:=q2.set (k:=e.1) (v:=v) (f:=fun e=>{e with val:=uv}) f1 f2 hv
  obtain ⟨p1,p2⟩:=h.put (a:=.map (ents.set i (e.1,v,e'.born)) clock) (b:=.map (es.modify i fun e=>{e with val:=uv}) clock) h1 rfl rfl hq ⟨_,rfl,hset.1,hset.2⟩
  rw [f4] at p1 p2
  exact ⟨_,.put q _,E,.cv,_,rfl,h5,p1,p2,.cv⟩
 ·exact hw.elim
def mw (T:cr) (t:TypeId) (m k v:AV) (hp:List AB) (K:AV→List AB→Prop):Prop :=
 match m with
 | .om j=>∃ ents clock ks kv kt z r,hp[j]?=some (.map ents clock)∧oX ents=some ks∧k.iu=some kv∧kR T t=some (kt,z)∧Cq T false kt kv ks r ∧
  match r with
  | some i=>∃ e,ents[i]?=some e∧(∃ ke,e.1.iu=some ke∧Instr.sameBits 10000 ke kv=true)∧K .cv (hp.set j (.map (ents.set i (k,v,e.2.2)) clock))
  | none=>K .cv (hp.set j (.map (ents++[(k,v,clock)]) (clock+1)))
 | _=>False
theorem sR (h:aY E base hp aJ H) {t:TypeId} {m k v:AV} {um uk uv:Value} (hm:AR E.ρ H.get (E.O hp) m um) (hk:AR E.ρ H.get (E.O hp) k uk) (hv:AR E.ρ H.get (E.O hp) v uv) {K:AV→List AB→Prop} (hw:mw T t m k v hp K) :
  fe base E hp aJ H ((e9 T t um uk uv H.get).map fun e=>(undef,e)) K:=by
 unfold mw at hw
 split at hw
 ·rename_i j
  obtain ⟨ents,clock,ks,kv,kt,z,r,h1,h2,h3,h4,h5,h6⟩:=hw
  obtain ⟨q,hq,rfl⟩:=hm.qZ
  obtain ⟨es,q1,q2⟩:=h.FX h1 hq
  obtain ⟨rfl,_⟩:=eF h3 hk
  have hf:=h5 es (q2.keys h2)
  unfold e9
  simp only [h4,iM,q1,map?]
  unfold nH
  rw [hf]
  cases r with
  | some i =>
   obtain ⟨e,e1,⟨ke,e2,e3⟩,e4⟩:=h6
   obtain ⟨e',f1,f2,f3,f4⟩:=q2.get e1
   obtain ⟨rfl,_⟩:=eF e2 f2
   simp only [f1,e3,cond_true,Option.map_some]
   have hs:=q2.set (k:=k) (v:=v) (f:=fun e=>{e with key:=uk,val:=uv}) f1 hk hv
   obtain ⟨p1,p2⟩:=h.put (a:=.map (ents.set i (k,v,e'.born)) clock) (b:=.map (es.modify i fun e=>{e with key:=uk,val:=uv}) clock) h1 rfl rfl hq ⟨_,rfl,hs.1,hs.2⟩
   rw [f4] at p1 p2
   exact ⟨_,.put q _,E,.cv,_,rfl,e4,p1,p2,.cv⟩
  | none =>
   simp only [Option.map_some]
   have hs:=q2.snoc (k:=k) (v:=v) (e:={key:=uk,val:=uv,born:=clock}) hk hv
   obtain ⟨p1,p2⟩:=h.put (a:=.map (ents++[(k,v,clock)]) (clock+1)) (b:=.map (es++[{key:=uk,val:=uv,born:=clock}]) (clock+1)) h1 rfl rfl hq ⟨_,rfl,hs.1,hs.2⟩
   exact ⟨_,.put q _,E,.cv,_,rfl,h6,p1,p2,.cv⟩
 ·exact hw.elim
def vD (it:AV) (hp:List AB) (K:AV→List AB→Prop):Prop :=
 match it with
 | .ptr q 0 0=>∃ j since seen stepped ents clock stamp e,hp[q]?=some (.iter j since seen stepped)∧hp[j]?=some (.map ents clock)∧clock=stepped∧seen.getLast?=some stamp∧(ents.find? fun p=>p.2.2 == stamp)=some e∧K (.tp [e.1,e.2.1]) hp
 | _=>False
theorem aY.iter (h:aY E base hp aJ H) {q k j since stepped:Nat} {seen:List Nat} (hj:hp[q]?=some (.iter j since seen stepped)) (hk:E.ρ q 0=some k):∃ m,H.get k=some (.iter m since seen stepped)∧E.ρ j 0=some m:=by
 rcases h.iy q _ 0 hj rfl with ⟨k',b',h1,h2,h3⟩|⟨h1,_,h2⟩
 ·rw [hk] at h1;cases h1
  obtain ⟨m,rfl,h4⟩:=h3
  exact ⟨m,h2,h4⟩
 ·cases h2
theorem gz.find:∀ {ents:List (AV × AV × Nat)} {es:List MapEntry} {stamp:Nat} {p:AV × AV × Nat},gz ρ g O ents es→(ents.find? fun p=>p.2.2 == stamp)=some p→∃ e,es.find? (fun e=>e.born == stamp)=some e∧AR ρ g O p.1 e.key∧AR ρ g O p.2.1 e.val
 | [],es,_,p,h,hf=>by cases hf
 | (k,v,b) :: ents,[],_,p,h,hf=>absurd h.1 (by simp)
 | (k,v,b) :: ents,e :: es,stamp,p,h,hf=>by
  have hh:gz ρ g O ents es:=⟨by simpa using h.1,fun i k v b e x y=>h.2 (i+1) k v b e (by simpa using x) (by simpa using y)⟩
  obtain ⟨e1,e2,e3⟩:=h.2 0 k v b e rfl rfl
  rw [List.find?_cons] at hf ⊢
  dsimp only at hf
  rw [e3]
  cases hb:b == stamp with
  | true =>
   rw [hb] at hf
   cases hf
   exact ⟨e,rfl,e1,e2⟩
  | false =>
   rw [hb] at hf
   exact hh.find hf
theorem yE (h:aY E base hp aJ H) {it:AV} {u:Value} (hx:AR E.ρ H.get (E.O hp) it u) {K:AV→List AB→Prop} (hw:vD it hp K):fe base E hp aJ H (tF u H.get) K:=by
 unfold vD at hw
 split at hw
 ·rename_i q
  obtain ⟨j,since,seen,stepped,ents,clock,stamp,e,h1,h2,h3,h4,h5,h6⟩:=hw
  obtain ⟨k,hk,rfl⟩:=hx.dV
  obtain ⟨m,g1,g2⟩:=h.iter h1 hk
  obtain ⟨es,q1,q2⟩:=h.FX h2 g2
  obtain ⟨e',f1,f2,f3⟩:=q2.find h5
  unfold tF addr?
  simp only [g1,h4,q1,map?,h3,Nat.beq_refl,cond_true,f1,Option.map_some]
  exact .pure h (wU f2 f3) h6
 ·exact hw.elim
def AG (it:AV) (hp:List AB) (K:AV→List AB→Prop):Prop :=
 match it with
 | .ptr q 0 0=>∃ j since seen stepped ents clock,hp[q]?=some (.iter j since seen stepped)∧hp[j]?=some (.map ents clock)∧(∀ e ∈ ents,e.2.2 < since∧e.2.2 < stepped) ∧
  (∀ e ∈ ents,e.2.2 ∉ seen→K (.tp [.fl (.bool true),e.1,e.2.1]) (hp.set q (.iter j since (seen++[e.2.2]) clock)))∧((∀ e ∈ ents,e.2.2 ∈ seen)→K (.tp [.fl (.bool false)]) hp)
 | _=>False
theorem gz.mem {ents:List (AV × AV × Nat)} {es:List MapEntry} (h:gz ρ g O ents es) {e:MapEntry} (he:e ∈ es):∃ p ∈ ents,AR ρ g O p.1 e.key∧AR ρ g O p.2.1 e.val∧e.born=p.2.2:=by
 obtain ⟨i,hi,rfl⟩:=List.getElem_of_mem he
 have hlt:i < ents.length:=by rw [h.1];exact hi
 exact ⟨ents[i],List.getElem_mem hlt,h.2 i _ _ _ _ (List.getElem?_eq_getElem hlt) (List.getElem?_eq_getElem hi)⟩
theorem gz.mem' {ents:List (AV × AV × Nat)} {es:List MapEntry} (h:gz ρ g O ents es) {p:AV × AV × Nat} (hp:p ∈ ents):∃ e ∈ es,e.born=p.2.2:=by
 obtain ⟨i,hi,rfl⟩:=List.getElem_of_mem hp
 have hlt:i < es.length:=by rw [←h.1];exact hi
 exact ⟨es[i],List.getElem_mem hlt,(h.2 i _ _ _ _ (List.getElem?_eq_getElem hi) (List.getElem?_eq_getElem hlt)).2.2⟩
theorem yF (h:aY E base hp aJ H) {it:AV} {u:Value} (hx:AR E.ρ H.get (E.O hp) it u) {K:AV→List AB→Prop} (hw:AG it hp K) :
  ∃ L,rP u H.get=some L∧∀ p ∈ L,∃ E' a hp',K a hp'∧aY E' base hp' aJ (H.app p.2)∧Ext base E hp H E' hp' (H.app p.2)∧AR E'.ρ (H.app p.2).get (E'.O hp') a p.1:=by
 unfold AG at hw
 split at hw
 ·rename_i q
  obtain ⟨j,since,seen,stepped,ents,clock,h1,h2,h3,h4,h5⟩:=hw
  obtain ⟨k,hk,rfl⟩:=hx.dV
  obtain ⟨m,g1,g2⟩:=h.iter h1 hk
  obtain ⟨es,q1,q2⟩:=h.FX h2 g2
  have hlow:∀ e ∈ es,e.born < since∧e.born < stepped:=fun e he=>by
   obtain ⟨p,hp,_,_,hb⟩:=q2.mem he
   rw [hb];exact h3 p hp
  have hn:rP (.pointer (some ⟨k,0,none⟩)) H.get=vO k m since seen stepped es clock:=by
   show (match H.get k with|some (.iter m since seen last)=>_|_=>none)=_
   rw [g1]
   show (match map? (H.get m) with|some (es,clock)=>_|none=>none)=_
   rw [q1]
   rfl
  rw [hn]
  unfold vO
  have hc:(!seen.isEmpty && !es.isEmpty && es.all (fun e=>Nat.ble stepped e.born))=false:=by
   cases es with
   | nil=>simp
   | cons e es =>
    have:=(hlow e (by simp)).2
    have hb:Nat.ble stepped e.born=false:=by
     cases hb:Nat.ble stepped e.born with
     | false=>rfl
     | true=>exact absurd (Nat.le_of_ble_eq_true hb) (by omega)
    rw [List.all_cons,hb]
    simp
  rw [hc]
  simp only [cond_false]
  refine ⟨_,rfl,fun p hp=>?_⟩
  rcases List.mem_append.1 hp with hp|hp
  ·cases hemp:((es.filter fun e=>!seen.contains e.born).filter (fun e=>decide (e.born < since))).isEmpty with
   | false=>rw [hemp] at hp;cases hp
   | true =>
    rw [hemp] at hp
    obtain rfl:=List.mem_singleton.1 hp
    rw [List.isEmpty_iff] at hemp
    refine ⟨E,_,_,h5 fun x hx=>?_,h,.refl,.d (.tp rfl fun i a v ha hv=>?_)⟩
    ·obtain ⟨e,he,hb⟩:=q2.mem' hx
     apply Classical.byContradiction
     intro hne
     have:e ∈ (es.filter fun e=>!seen.contains e.born).filter (fun e=>decide (e.born < since)):=by
      rw [List.mem_filter,List.mem_filter]
      refine ⟨⟨he,?_⟩,decide_eq_true (hlow e he).1⟩
      rw [hb]
      simpa using hne
     rw [hemp] at this
     cases this
    ·match i with
     | 0=>cases ha;cases hv;exact .fl rfl
     | i+1=>simp at ha
  ·obtain ⟨e,he,rfl⟩:=List.mem_map.1 hp
   have hes:e ∈ es∧e.born ∉ seen:=by
    rcases List.mem_append.1 he with he|he
    ·rw [List.mem_filter,List.mem_filter] at he
     exact ⟨he.1.1,by simpa using he.1.2⟩
    ·rw [List.mem_filter,List.mem_filter] at he
     exact ⟨he.1.1,by simpa using he.1.2⟩
   obtain ⟨x,hx,f1,f2,f3⟩:=q2.mem hes.1
   have hns:=hes.2
   rw [f3] at hns ⊢
   obtain ⟨p1,p2⟩:=h.put (a:=.iter j since (seen++[x.2.2]) clock) (b:=.iter m since (seen++[x.2.2]) clock) h1 rfl rfl hk ⟨m,rfl,g2⟩
   refine ⟨E,_,_,h4 x hx hns,p1,p2,.tp rfl fun i a v ha hv=>?_⟩
   match i with
   | 0=>cases ha;cases hv;exact .d (.fl rfl)
   | 1=>cases ha;cases hv;exact p2.ar h.wf f1
   | 2=>cases ha;cases hv;exact p2.ar h.wf f2
   | i+3=>simp at ha
 ·exact hw.elim
end
end Go.RM
namespace Go.RM
open Go
section
variable {T : cr} {base : Nat} {E E' : Env} {hp hp' : List AB} {aJ : bN} {H H' : Hp} {ρ : Nat → Nat → Option Nat} {g : aI} {O : Nat → Prop}
def Cr (hp:List AB) (size:Nat) (x:AV) (els:List (List AV)):Prop :=
 (∀ el ∈ els,el.length=size) ∧
  match x with
  | .sl els' _=>els=els'
  | .bX j aD o m _=>∃ cs es,hp[j]?=some (.cells cs es aD)∧o+m * size≤cs.length∧els.length=m∧els.flatten=(cs.drop o).take (m * size)
  | .fl (.slice none 0 0)=>els=[]
  | _=>False
theorem Cr.row (h:aY E base hp aJ H) {size:Nat} {x:AV} {u:Value} {els:List (List AV)} (he:Cr hp size x els) (hx:AR E.ρ H.get (E.O hp) x u) :
  vN u=some els.length∧∃ cs,bU H.get size u=some cs∧gI E.ρ H.get (E.O hp) els.flatten cs:=by
 obtain ⟨h1,h2⟩:=he
 split at h2
 ·rename_i els' full
  subst h2
  cases hx.mS with
  | nil=>exact ⟨rfl,[],rfl,.nil⟩
  | sl q1 q2 q3 q4 q5 q6 q7 =>
   rename_i k o n c es cs own e
   refine ⟨by simp [vN,q4],?_⟩
   unfold bU
   simp only [q1,cells?]
   by_cases hne:els=[]
   ·subst hne
    simp only [List.length_nil] at q4
    subst q4
    rw [Nat.zero_mul,oV (by omega)]
    exact ⟨_,rfl,by simp;exact .nil⟩
   ·have hes:es=size:=by
     cases els with
     | nil=>exact absurd rfl hne
     | cons x l=>rw [←q5 0 x rfl];exact h1 x (by simp)
    subst hes
    rw [oV q3]
    refine ⟨_,rfl,?_,?_⟩
    ·rw [dc h1,q4];simp;omega
    ·intro i a u ha hu
     have hlt:i < els.length * es:=by rw [←dc h1];exact (List.getElem?_eq_some_iff.1 ha).1
     have hes:0 < es:=by
      apply Nat.pos_of_ne_zero
      intro h0;subst h0;omega
     have hi:i=i / es * es+i % es:=by rw [Nat.mul_comm];exact (Nat.div_add_mod i es).symm
     have hq:i / es < els.length:=(Nat.div_lt_iff_lt_mul hes).2 hlt
     have hel:els[i / es]?=some els[i / es]:=List.getElem?_eq_getElem hq
     have hm:i % es < es:=Nat.mod_lt _ hes
     rw [hi,gJ h1 _ _ _ hel hm] at ha
     rw [List.getElem?_take] at hu
     split at hu
     ·rw [List.getElem?_drop] at hu
      refine .d (q6 _ _ (i % es) a u hel ha ?_)
      rw [Nat.add_assoc,←hi]
      exact hu
     ·cases hu
 ·rename_i j aD o m c
  obtain ⟨cs,es,h3,h4,h5,h6⟩:=h2
  rcases hx.iE with ⟨k,hk,rfl⟩|⟨rfl,rfl,rfl⟩
  ·obtain ⟨cs',q1,q2⟩:=h.cells h3 hk
   refine ⟨by simp [vN,h5],?_⟩
   unfold bU
   simp only [q1,cells?]
   rw [oV (by rw [←q2.1];exact h4),h6]
   exact ⟨_,rfl,(q2.drop o).take _⟩
  ·refine ⟨by simp [vN,h5],[],rfl,?_⟩
   rw [h6]
   simp
   exact .nil
 ·subst h2
  obtain ⟨rfl,_⟩:=hx.iH
  exact ⟨rfl,[],rfl,.nil⟩
 ·exact h2.elim
def jM (T:cr) (own:Bool) (t:TypeId) (s x:AV) (hp:List AB) (K:AV→List AB→Prop):Prop :=
 match elem? T t with
 | some inf=>ct inf=true∧∃ els,Cr hp inf.size x els∧els.flatten.all AV.one=true ∧
  match s with
  | .fl (.slice none 0 0)=>(els.length * inf.bytes≤140737488355328∧els.length≤9223372036854775807)∧(els=[]→K s hp)∧(els ≠ [] →
   match own with
   | true=>K (.bX hp.length 0 0 els.length (els.length+1)) (hp++[.cells els.flatten inf.size 0])
   | false=>bw els.flatten=true∧K (.sl els false) hp)
  | .sl els0 true=>(∀ el ∈ els0,el.length=inf.size)∧((els0.length+els.length) * inf.bytes≤140737488355328∧els0.length+els.length≤9223372036854775807)∧(els=[]→K s hp)∧(els ≠ [] →
   match own with
   | true=>K (.bX hp.length 0 0 (els0.length+els.length) (els0.length+els.length+1)) (hp++[.cells (els0.flatten++els.flatten) inf.size 0])
   | false=>bw els.flatten=true∧K (.sl (els0++els) false) hp)
  | .bX j aD 0 n c=>∃ cs,hp[j]?=some (.cells cs inf.size aD)∧cs.length=n * inf.size∧(c=n∨c=n+1)∧((n+els.length) * inf.bytes≤140737488355328∧n+els.length≤9223372036854775807)∧(els=[]→K s hp) ∧
   (els ≠ []→K (.bX j (aD+1) 0 (n+els.length) (n+els.length+1)) (hp.set j (.cells (cs++els.flatten) inf.size (aD+1))))
  | _=>False
 | none=>False
theorem nY (a:Nat):Nat.beq a a=true:=Nat.beq_refl a
theorem EB {a b:Nat} (h:a ≠ b):Nat.beq a b=false:=by
 rw [Tr.beq_eq];exact decide_eq_false h
theorem rL.append {a b:List AV} {a' b':List Value} (h:rL g O a a') (k:rL g O b b'):rL g O (a++b) (a'++b'):=by
 refine ⟨by simp [h.1,k.1],fun i x u hx hu=>?_⟩
 by_cases hi:i < a.length
 ·rw [List.getElem?_append_left hi] at hx
  rw [List.getElem?_append_left (by rw [←h.1];exact hi)] at hu
  exact h.2 i x u hx hu
 ·rw [List.getElem?_append_right (by omega)] at hx
  rw [List.getElem?_append_right (by rw [←h.1];omega),←h.1] at hu
  exact k.2 _ x u hx hu
theorem DR.NR {els:List (List AV)} {full:Bool} {u:Value} {size:Nat} (hx:DR g O (.sl els full) u) (h1:∀ el ∈ els,el.length=size):∃ cs,bU g size u=some cs∧rL g O els.flatten cs∧vN u=some els.length:=by
 cases hx with
 | nil=>exact ⟨[],rfl,⟨rfl,fun i a u h=>by cases h⟩,rfl⟩
 | sl q1 q2 q3 q4 q5 q6 q7 =>
  rename_i k o n c es cs own e
  unfold bU
  simp only [q1,cells?]
  by_cases hne:els=[]
  ·subst hne
   simp only [List.length_nil] at q4
   subst q4
   rw [Nat.zero_mul,oV (by omega)]
   exact ⟨_,rfl,⟨by simp,fun i a u h=>by cases h⟩,rfl⟩
  ·have hes:es=size:=by
    cases els with
    | nil=>exact absurd rfl hne
    | cons x l=>rw [←q5 0 x rfl];exact h1 x (by simp)
   subst hes
   rw [oV q3]
   refine ⟨_,rfl,⟨?_,?_⟩,by simp [vN,q4]⟩
   ·rw [dc h1,q4];simp;omega
   ·intro i a u ha hu
    have hlt:i < els.length * es:=by rw [←dc h1];exact (List.getElem?_eq_some_iff.1 ha).1
    have hes:0 < es:=by
     apply Nat.pos_of_ne_zero
     intro h0;subst h0;omega
    have hi:i=i / es * es+i % es:=by rw [Nat.mul_comm];exact (Nat.div_add_mod i es).symm
    have hq:i / es < els.length:=(Nat.div_lt_iff_lt_mul hes).2 hlt
    have hel:els[i / es]?=some els[i / es]:=List.getElem?_eq_getElem hq
    have hm:i % es < es:=Nat.mod_lt _ hes
    rw [hi,gJ h1 _ _ _ hel hm] at ha
    rw [List.getElem?_take] at hu
    split at hu
    ·rw [List.getElem?_drop] at hu
     refine q6 _ _ (i % es) a u hel ha ?_
     rw [Nat.add_assoc,←hi]
     exact hu
    ·cases hu
theorem Cs (h:aY E base hp aJ H) {own:Bool} {t:TypeId} {s x:AV} {u v:Value} (hs:AR E.ρ H.get (E.O hp) s u) (hx:AR E.ρ H.get (E.O hp) x v) {K:AV→List AB→Prop}
  (hw:jM T own t s x hp K):fe base E hp aJ H (gQ T H.n t u v H.get) K:=by
 unfold jM at hw
 split at hw
 ·rename_i inf hi
  obtain ⟨hz,els,he,hone,hw⟩:=hw
  obtain ⟨hlen,new,hnew,hna⟩:=he.row h hx
  have hone':=hna.bQ hone
  have hel:=he.1
  have main:∀ (n:Nat) (base':Option Addr) (cp:Nat) (old:List Value),u=.slice base' n cp→bU H.get inf.size u=some old→((n+els.length) * inf.bytes≤140737488355328∧n+els.length≤9223372036854775807) →
    gQ T H.n t u v H.get=if els=[] then some (u,.none) else iU H.n inf base' n cp els.length old new H.get:=by
   intro n base' cp old hu ho hb
   subst hu
   unfold gQ
   simp only [hi,hlen,ho,hnew,hone',hz,Bool.and_true]
   rw [show Nat.ble ((n+els.length) * inf.bytes) 140737488355328=true from Nat.ble_eq_true_of_le hb.1,show Nat.ble (n+els.length) 9223372036854775807=true from Nat.ble_eq_true_of_le hb.2]
   simp only [Bool.and_self,cond_true]
   by_cases hne:els=[]
   ·subst hne;rfl
   ·rw [if_neg hne,EB (by simpa using hne)];rfl
  split at hw
  ·obtain ⟨hb,h0,h1⟩:=hw
   obtain ⟨rfl,_⟩:=hs.iH
   rw [main 0 none 0 [] rfl rfl (by simpa using hb)]
   by_cases hne:els=[]
   ·rw [if_pos hne];exact .pure h (.d (.fl rfl)) (h0 hne)
   ·rw [if_neg hne]
    have h1:=h1 hne
    unfold iU
    simp only [nY,cond_true,List.nil_append,Nat.zero_add]
    split at h1
    ·exact .new h (x:=.cells els.flatten inf.size 0) rfl (fun E' H' e=>⟨_,rfl,e.Bs h.wf hna⟩) (fun E' hr=>.bX hr) h1
    ·obtain ⟨hd,h1⟩:=h1
     exact .vB h (fun e hg hO=>.d (.row hg hO hel rfl ((e.Bs h.wf hna).deep hd) (fun hf=>by cases hf))) h1
  ·rename_i els0
   obtain ⟨hel0,hb,h0,h1⟩:=hw
   obtain ⟨old,ho,hod,hol⟩:=hs.mS.NR hel0
   have hsl:∃ base' ,u=.slice base' els0.length els0.length:=by
    cases hs.mS with
    | nil=>exact ⟨_,rfl⟩
    | sl q1 q2 q3 q4 q5 q6 q7=>rw [q7 rfl,q4];exact ⟨_,rfl⟩
   obtain ⟨base',hu⟩:=hsl
   rw [main els0.length base' els0.length old hu ho hb]
   by_cases hne:els=[]
   ·rw [if_pos hne];exact .pure h hs (h0 hne)
   ·rw [if_neg hne]
    have h1:=h1 hne
    unfold iU
    simp only [nY,cond_true]
    split at h1
    ·exact .new h (x:=.cells (els0.flatten++els.flatten) inf.size 0) rfl (fun E' H' e=>⟨_,rfl,e.Bs h.wf (hod.Bs.append hna)⟩) (fun E' hr=>.bX hr) h1
    ·obtain ⟨hd,h1⟩:=h1
     refine .vB h (fun e hg hO=>.d (.row hg hO (es:=inf.size) ?_ (by simp) ?_ (fun hf=>by cases hf))) h1
     ·intro el he
      rcases List.mem_append.1 he with he|he
      ·exact hel0 el he
      ·exact hel el he
     ·rw [List.flatten_append]
      exact rL.append ⟨hod.1,fun i a u ha hu=>e.dr h.wf (hod.2 i a u ha hu)⟩ ((e.Bs h.wf hna).deep hd)
  ·rename_i j aD n c
   obtain ⟨cs,hj,hcs,hc,hb,h0,h1⟩:=hw
   rcases hs.iE with ⟨k,hk,rfl⟩|⟨_,rfl,rfl⟩
   ·obtain ⟨cs',q1,q2⟩:=h.cells hj hk
    have ho:bU H.get inf.size (.slice (some ⟨k,0,none⟩) n c)=some cs':=by
     unfold bU
     simp only [q1,cells?]
     rw [oV (by rw [←q2.1,hcs];omega)]
     simp only [List.drop_zero]
     rw [List.take_of_length_le (by rw [←q2.1,hcs];omega)]
    rw [main n _ c cs' rfl ho hb]
    by_cases hne:els=[]
    ·rw [if_pos hne];exact .pure h hs (h0 hne)
    ·rw [if_neg hne]
     have h1:=h1 hne
     unfold iU
     have fin:∀ (e:cK) (H1:Hp),(H1=H∨∃ k,E.ρ j aD=some k∧H1=H.put k .dead)→H.app e=H1.push (.cells (cs'++new) true inf.size) →
       fe base E hp aJ H (some (.slice (some ⟨H.n,0,none⟩) (n+els.length) (n+els.length+1),e)) K:=by
      intro e H1 hH1 he
      obtain ⟨E',_,r1,r2,r3⟩:=h.renew (a:=.cells (cs++els.flatten) inf.size (aD+1)) (b:=.cells (cs'++new) true inf.size) hj rfl rfl hH1 (fun E' H' _ _ e=>⟨_,rfl,e.Bs h.wf (q2.append hna)⟩)
      refine ⟨_,e,E',_,_,rfl,h1,by rw [he];exact r1,by rw [he];exact r2,.bX r3⟩
     by_cases hcn:c=n
     ·subst hcn
      simp only [nY,cond_true]
      exact fin _ H (.inl rfl) rfl
     ·have hc':c=n+1:=by omega
      subst hc'
      rw [EB (by omega)]
      simp only [cond_false,q1,cells?,nY,Bool.true_and,Bool.and_true]
      rw [show Nat.beq cs'.length (n * inf.size)=true by rw [←q2.1,hcs];exact nY _]
      simp only [cond_true]
      exact fin _ (H.put k .dead) (.inr ⟨k,hk,rfl⟩) rfl
   ·rw [main 0 none 0 [] rfl rfl hb]
    by_cases hne:els=[]
    ·rw [if_pos hne]
     exact .pure h .tT (h0 hne)
    ·rw [if_neg hne]
     have h1:=h1 hne
     have hcs0:cs=[]:=List.length_eq_zero_iff.1 (by rw [hcs];simp)
     subst hcs0
     unfold iU
     simp only [nY,cond_true,List.nil_append]
     obtain ⟨E',_,r1,r2,r3⟩:=h.renew (a:=.cells ([]++els.flatten) inf.size (aD+1)) (b:=.cells new true inf.size) hj rfl rfl (.inl rfl) (fun E' H' _ _ e=>⟨_,rfl,e.Bs h.wf hna⟩)
     exact ⟨_,.new _,E',_,_,rfl,h1,r1,r2,.bX r3⟩
  ·exact hw.elim
 ·exact hw.elim
def AH (T:cr) (t:TypeId) (x:AV) (hp:List AB) (K:AV→List AB→Prop):Prop :=
 match T.ty.get t,x with
 | some ⟨.string,_,_,_,_,_,_⟩,.fl (.string s)=>K (.ptr hp.length 0 0) (hp++[.dZ s 0])
 | some ⟨.map ..,_,_,_,_,_,_⟩,.om j=>∃ ents clock,hp[j]?=some (.map ents clock)∧K (.ptr hp.length 0 0) (hp++[.iter j clock [] clock])
 | _,_=>False
theorem yG (h:aY E base hp aJ H) {t:TypeId} {x:AV} {u:Value} (hx:AR E.ρ H.get (E.O hp) x u) {K:AV→List AB→Prop} (hw:AH T t x hp K):fe base E hp aJ H (tE T H.n t u H.get) K:=by
 unfold AH at hw
 unfold tE
 split at hw
 ·rename_i hty
  rw [hty]
  obtain ⟨rfl,_⟩:=hx.iH
  exact .new h (x:=.dZ _ 0) rfl (fun E' H' e=>rfl) (fun E' hr=>.ptr hr) hw
 ·rename_i j hty
  rw [hty]
  obtain ⟨ents,clock,h1,h2⟩:=hw
  obtain ⟨k,hk,rfl⟩:=hx.qZ
  obtain ⟨es,q1,q2,_⟩:=h.map h1 hk
  simp only [q1,map?]
  exact .new h (x:=.iter j clock [] clock) rfl (fun E' H' e=>⟨_,rfl,e.Ce _ _ _ hk⟩) (fun E' hr=>.ptr hr) h2
 ·exact hw.elim
def tX (it:AV) (hp:List AB) (K:AV→List AB→Prop):Prop :=
 match it with
 | .ptr j 0 0=>∃ s pos,hp[j]?=some (.dZ s pos)∧(pos < s.data.toList.length→K (.tp [.fl (.bool true),.fl (.int .i64 pos),.fl (.int .i32 (Utf8.decode s pos).1)]) (hp.set j (.dZ s (pos+(Utf8.decode s pos).2)))) ∧
  (s.data.toList.length≤pos→K (.tp [.fl (.bool false)]) hp)
 | _=>False
theorem aY.dZ (h:aY E base hp aJ H) {j k pos:Nat} {s:ByteArray} (hj:hp[j]?=some (.dZ s pos)) (hk:E.ρ j 0=some k):H.get k=some (.dZ s pos):=by
 rcases h.iy j _ 0 hj rfl with ⟨k',b',h1,h2,h3⟩|⟨h1,_,h2⟩
 ·rw [hk] at h1;cases h1
  cases h3
  exact h2
 ·cases h2
theorem vq (h:aY E base hp aJ H) {it:AV} {u:Value} (hx:AR E.ρ H.get (E.O hp) it u) {K:AV→List AB→Prop} (hw:tX it hp K):fe base E hp aJ H (kT u H.get) K:=by
 unfold tX at hw
 split at hw
 ·rename_i j
  obtain ⟨s,pos,h1,h2,h3⟩:=hw
  obtain ⟨k,hk,rfl⟩:=hx.dV
  have hg:=h.dZ h1 hk
  unfold kT addr?
  simp only [hg]
  by_cases hlt:pos < s.data.toList.length
  ·rw [show Nat.blt pos s.data.toList.length=true from Nat.ble_eq_true_of_le hlt]
   simp only [cond_true]
   obtain ⟨p1,p2⟩:=h.put (a:=.dZ s (pos+(Utf8.decode s pos).2)) (b:=.dZ s (pos+(Utf8.decode s pos).2)) h1 rfl rfl hk rfl
   refine ⟨_,.put k _,E,_,_,rfl,h2 hlt,p1,p2,.d (.tp rfl fun i x u hx hu=>?_)⟩
   match i with
   | 0=>cases hx;cases hu;exact .fl rfl
   | 1=>cases hx;cases hu;exact .fl rfl
   | 2=>cases hx;cases hu;exact .fl rfl
   | i+3=>simp at hx
  ·have hb:Nat.blt pos s.data.toList.length=false:=by
    cases hb:Nat.blt pos s.data.toList.length with
    | false=>rfl
    | true=>exact absurd (Nat.le_of_ble_eq_true hb) hlt
   rw [hb]
   simp only [cond_false]
   refine .pure h (.d (.tp rfl fun i x u hx hu=>?_)) (h3 (by omega))
   match i with
   | 0=>cases hx;cases hu;exact .fl rfl
   | i+1=>simp at hx
 ·exact hw.elim
def jw (T:cr) (own:Bool) (b:Builtin) (args:List AV) (tys:List TypeId) (hp:List AB) (K:AV→List AB→Prop):Prop :=
 match b with
 | .len=>match args,tys with
  | [x],[t]=>sP T t x hp K
  | _,_=>False
 | .min=>Ez T args hp K
 | .max=>EA T args hp K
 | .append=>match args,tys with
  | [s,x],[t,u]=>match T.ty.get u with
   | some ⟨.slice _,_,_,_,_,_,_⟩=>jM T own t s x hp K
   | _=>False
  | _,_=>False
 | _=>False
def force (v:AV) (K:AV→Prop):Prop :=
 match v with
 | .fl x=>K (.fl x)
 | .sl a b=>K (.sl a b)
 | .pt a b=>K (.pt a b)
 | .fn a b c=>K (.fn a b c)
 | .ag a=>K (.ag a)
 | .tp a=>K (.tp a)
 | .ptr a b c=>K (.ptr a b c)
 | .bX a b c d e=>K (.bX a b c d e)
 | .om a=>K (.om a)
 | .oq a=>K (.oq a)
 | .cv=>K .cv
theorem cU {v:AV} {K:AV→Prop} (h:force v K):K v:=by cases v <;> exact h
def fh:List AV→(List AV→Prop)→Prop
 | [],K=>K []
 | a :: l,K=>force a fun a=>fh l fun l=>K (a :: l)
theorem gq:∀ {l:List AV} {K:List AV→Prop},fh l K→K l
 | [],_,h=>h
 | a :: l,K,h=>by
  have h1:fh l fun l=>K (a :: l):=cU h
  exact gq (K:=fun l=>K (a :: l)) h1
def lC:List (Nat × AV)→(List (Nat × AV)→Prop)→Prop
 | [],K=>K []
 | (i,a) :: l,K=>force a fun a=>lC l fun l=>K ((i,a) :: l)
theorem tY:∀ {l:List (Nat × AV)} {K:List (Nat × AV)→Prop},lC l K→K l
 | [],_,h=>h
 | (i,a) :: l,K,h=>by
  have h1:lC l fun l=>K ((i,a) :: l):=cU (K:=fun a=>lC l fun l=>K ((i,a) :: l)) h
  exact tY (K:=fun l=>K ((i,a) :: l)) h1
def wpOp (T:cr) (own:Bool) (o:Op) (fr:Nat→AV) (hp:List AB) (K:AV→List AB→Prop):Prop :=
 match o with
 | .move x=>K (aQ fr x) hp
 | .assign x=>K (aQ fr x) hp
 | .pick c a b=>tU (aQ fr c) (aQ fr a) (aQ fr b) hp K
 | .alloc t=>sM T t hp K
 | .box _ x=>force (aQ fr x) fun v=>zb own v hp K
 | .build t parts=>lC (parts.toList.map fun p=>(p.1,aQ fr p.2)) fun ps=>nX T t ps hp K
 | .buildSlice t len parts=>lC (parts.toList.map fun p=>(p.1,aQ fr p.2)) fun ps=>dX T own t len ps hp K
 | .load t a=>fT T t (aQ fr a) hp K
 | .store t a x=>force (aQ fr x) fun v=>dW T t (aQ fr a) v hp K
 | .fieldAddr t a i=>ku T t (aQ fr a) i hp K
 | .indexAddr t a ix=>cO T t (aQ fr a) (aQ fr ix) hp K
 | .index t a ix=>vC T t (aQ fr a) (aQ fr ix) hp K
 | .field t a i=>Ci T t (aQ fr a) i hp K
 | .binOp o t x y _=>ee T o t x y (aQ fr x) (aQ fr y) hp K
 | .unOp o _ x=>HI T o (aQ fr x) hp K
 | .convert s d x=>Az T s d (aQ fr x) hp K
 | .makeInterface t x=>Ey T t (aQ fr x) hp K
 | .extract x i=>kK (aQ fr x) i hp K
 | .makeFunc (.func f) first captured=>fh (first.toList.map (aQ fr)) fun a=>fh (captured.toList.map (aQ fr)) fun b=>K (.fn f a b) hp
 | .nilCheck x=>sO (aQ fr x) hp K
 | .slice t x lo hi none=>AE T t (aQ fr x) (lo.map (aQ fr)) (hi.map (aQ fr)) hp K
 | .makeSlice t l c=>wT T t (aQ fr l) (aQ fr c) hp K
 | .range t x=>AH T t (aQ fr x) hp K
 | .next it true=>tX (aQ fr it) hp K
 | .makeMap _ none=>K (.om hp.length) (hp++[.map [] 0])
 | .lookup t m k ok=>sQ T t (aQ fr m) (aQ fr k) ok hp K
 | .mapEntry t m k=>iI T t (aQ fr m) (aQ fr k) hp K
 | .entryStore _ m s v=>fU (aQ fr m) (aQ fr s) (aQ fr v) hp K
 | .entry it=>vD (aQ fr it) hp K
 | .mapUpdate t m k v=>force (aQ fr v) fun v=>mw T t (aQ fr m) (aQ fr k) v hp K
 | .call ⟨.builtin b,args,tys⟩=>fh (args.toList.map (aQ fr)) fun as=>jw T own b as tys.toList hp K
 | _=>False
theorem gi {fr:Nat→AV} {tm:Tr Value} (h:mP ρ g O fr tm) (l:List Operand):gI ρ g O (l.map (aQ fr)) (l.map (bL tm)):=by
 induction l with
 | nil=>exact .nil
 | cons x l ih=>exact .cons (mQ h x) ih
theorem zf {fr:Nat→AV} {tm:Tr Value} (h:mP ρ g O fr tm) (l:List (Nat × Operand)):oW ρ g O (l.map fun p=>(p.1,aQ fr p.2)) (l.map fun (i,x)=>(i,bL tm x)):=by
 induction l with
 | nil=>trivial
 | cons x l ih=>exact ⟨rfl,mQ h _,ih⟩
theorem EC {fr:Nat→AV} {tm:Tr Value} (h:mP ρ g O fr tm) (o:Option Operand):HJ ρ g O (o.map (aQ fr)) (o.map (bL tm)):=by
 cases o with
 | none=>trivial
 | some x=>exact mQ h x
theorem rj (h:aY E base hp aJ H) {own:Bool} {o:Op} {fr:Nat→AV} {tm:Tr Value} (hf:mP E.ρ H.get (E.O hp) fr tm) {K:AV→List AB→Prop} (hw:wpOp T own o fr hp K) :
  fe base E hp aJ H (kV T H.n o (bL tm) H.get) K:=by
 have ev:=fun x=>mQ hf x
 unfold wpOp at hw
 split at hw
 ·exact .pure h (ev _) hw
 ·exact .pure h (ev _) hw
 ·exact AD h (ev _) (ev _) (ev _) hw
 ·exact yx h hw
 ·exact Cg h (ev _) (cU hw)
 ·exact yB h (zf hf _) (tY hw)
 ·exact qY h (zf hf _) (tY hw)
 ·exact Ay h (ev _) hw
 ·exact yw h (ev _) (ev _) (cU hw)
 ·exact yy h (ev _) hw
 ·exact sN h (ev _) (ev _) hw
 ·exact yA h (ev _) (ev _) hw
 ·exact wR h (ev _) hw
 ·exact Ch h (ev _) (ev _) hw
 ·exact DG h (ev _) hw
 ·exact AA h (ev _) hw
 ·exact yz h (ev _) hw
 ·exact vp h (ev _) hw
 ·refine .pure h (.fn ?_ ?_ ?_ ?_) (gq (gq hw))
  ·exact (gi hf _).1
  ·exact (gi hf _).1
  ·exact (gi hf _).2
  ·exact (gi hf _).2
 ·exact Cj h (ev _) hw
 ·exact yC h (ev _) (EC hf _) (EC hf _) hw
 ·exact AF h (ev _) (ev _) hw
 ·exact yG h (ev _) hw
 ·exact vq h (ev _) hw
 ·exact .new h (x:=.map [] 0) rfl (fun E' H' e=>⟨[],rfl,rfl,fun i k v born e x=>by cases x⟩) (fun E' hr=>.om hr) hw
 ·exact wV h (ev _) (ev _) hw
 ·exact tW h (ev _) (ev _) hw
 ·exact ri h (ev _) (ev _) (ev _) hw
 ·exact yE h (ev _) hw
 ·exact sR h (ev _) (ev _) (ev _) (cU hw)
 ·rename_i b args tys
  have hw:=gq hw
  have hl:=gi hf args.toList
  show fe base E hp aJ H (iW T H.n b (args.toList.map (bL tm)) tys.toList H.get) K
  unfold jw at hw
  unfold iW
  split at hw
  ·split at hw
   ·rename_i x t hx ht
    rw [hx] at hl
    match hl':args.toList.map (bL tm),hl with
    | [u],hl=>simp only [ht];exact Cn h (hl.2 0 _ _ rfl rfl) hw
    | [],hl=>exact absurd hl.1 (by simp)
    | _ :: _ :: _,hl=>exact absurd hl.1 (by simp)
   ·exact hw.elim
  ·exact Co h hl hw
  ·exact Cp h hl hw
  ·split at hw
   ·rename_i s x t u hx ht
    rw [hx] at hl
    obtain ⟨a,b,hab,h1,h2⟩:=hl.two
    rw [hab,ht]
    simp only
    split at hw
    ·rename_i hu
     simp only [hu]
     exact Cs h h1 h2 hw
    ·exact hw.elim
   ·exact hw.elim
  ·exact hw.elim
 ·exact hw.elim
end
end Go.RM
namespace Go.RM
open Go
structure cy where
 fr:Nat→AV
 hp:List AB
 aJ:bN
 rd:Bool
 fl:Nat
structure lW (fl base:Nat) (E:Env) (hp:List AB) (H:Hp) (E':Env) (hp':List AB) (H':Hp):Prop where
 n:H.n≤H'.n
 Ce:∀ j v k,j < fl→E.ρ j v=some k→E'.ρ j v=some k
 own:∀ k,Own E'.ρ hp' k→Own E.ρ hp k∨H.n≤k
 d:∀ k,E'.D k→E.D k∨H.n≤k
 x:∀ k,E'.X k→E.X k∨H.n≤k
 xk:∀ k,E.X k→E'.X k
 s:∀ k,E'.S k→E.S k∨H.n≤k
 same:∀ k,k < H.n→¬ Own E.ρ hp k→¬ E.D k→H'.get k=H.get k
 lo:min H.lo base≤H'.lo
section
variable {T : cr} {tab : List XE} {one : Bool} {fl base : Nat} {E E' E2 : Env} {hp hp' hp2 : List AB} {aJ amb' : bN} {H H' H2 : Hp} {ρ : Nat → Nat → Option Nat} {g : aI} {O : Nat → Prop}
theorem lW.refl:lW fl base E hp H E hp H:=⟨Nat.le_refl _,fun _ _ _ _ h=>h,fun _ h=>.inl h,fun _ h=>.inl h,fun _ h=>.inl h,fun _ h=>h,fun _ h=>.inl h,fun _ _ _ _=>rfl,Nat.min_le_left _ _⟩
theorem lW.trans (a:lW fl base E hp H E' hp' H') (b:lW fl base E' hp' H' E2 hp2 H2):lW fl base E hp H E2 hp2 H2:=by
 have step:∀ {P P' P2:Nat→Prop},(∀ k,P' k→P k∨H.n≤k)→(∀ k,P2 k→P' k∨H'.n≤k)→∀ k,P2 k→P k∨H.n≤k:=by
  intro P P' P2 h1 h2 k hk
  rcases h2 k hk with h|h
  ·exact h1 k h
  ·exact .inr (Nat.le_trans a.n h)
 refine ⟨Nat.le_trans a.n b.n,fun j v k hl h=>b.Ce j v k hl (a.Ce j v k hl h),step a.own b.own,step a.d b.d,step a.x b.x,fun k h=>b.xk k (a.xk k h),step a.s b.s,fun k hk ho hd=>?_,?_⟩
 ·rw [b.same k (Nat.lt_of_lt_of_le hk a.n) (fun h=>(a.own k h).elim ho (fun h=>by omega)) (fun h=>(a.d k h).elim hd (fun h=>by omega)),a.same k hk ho hd]
 ·have:=a.lo;have:=b.lo;omega
theorem Ext.JH (e:Ext base E hp H E' hp' H'):lW fl base E hp H E' hp' H' :=
 ⟨e.n,fun j v k _ h=>e.Ce j v k h,e.own,fun k h=>.inl (by rw [←e.d];exact h),fun k h=>.inl (by rw [←e.x];exact h),fun k h=>by rw [e.x];exact h,fun k h=>.inl (by rw [←e.s];exact h),fun k hk ho _=>e.same k hk ho,e.lo⟩
theorem lW.keep (e:lW fl base E hp H E' hp' H') (h:aY E base hp aJ H):∀ k b,H.get k=some b→¬ E.O hp k→H'.get k=some b∧¬ E'.O hp' k:=by
 intro k b hk ho
 have hlt:=h.wf.lt hk
 refine ⟨by rw [e.same k hlt (fun h=>ho (.inl h)) (fun hd=>ho (.inr (h.dx k hd)))];exact hk,fun h'=>?_⟩
 rcases h' with h'|h'
 ·rcases e.own k h' with h'|h'
  ·exact ho (.inl h')
  ·omega
 ·rcases e.x k h' with h'|h'
  ·exact ho (.inr h')
  ·omega
theorem lW.full (e:lW hp.length base E hp H E' hp' H') (h:aY E base hp aJ H):∀ j v k,E.ρ j v=some k→E'.ρ j v=some k:=fun j v k hk=>by
 by_cases hj:j < hp.length
 ·exact e.Ce j v k hj hk
 ·rw [h.new j v (by omega)] at hk;cases hk
theorem lW.low (e:lW hp.length base E hp H E' hp' H') (h:aY E base hp aJ H) (fl:Nat):lW fl base E hp H E' hp' H':=⟨e.n,fun j v k _ hk=>e.full h j v k hk,e.own,e.d,e.x,e.xk,e.s,e.same,e.lo⟩
theorem lW.ar (e:lW hp.length base E hp H E' hp' H') (h:aY E base hp aJ H) {v:AV} {u:Value} (ha:AR E.ρ H.get (E.O hp) v u):AR E'.ρ H'.get (E'.O hp') v u:=ha.mono (e.full h) (e.keep h)
theorem lW.dr (e:lW fl base E hp H E' hp' H') (h:aY E base hp aJ H) {v:AV} {u:Value} (ha:DR H.get (E.O hp) v u):DR H'.get (E'.O hp') v u:=ha.mono (e.keep h)
theorem lW.fr (e:lW hp.length base E hp H E' hp' H') (h:aY E base hp aJ H) {fr:Nat→AV} {tm:Tr Value} (hf:mP E.ρ H.get (E.O hp) fr tm):mP E'.ρ H'.get (E'.O hp') fr tm:=fun t=>e.ar h (hf t)
def AJ (fr:Nat→AV) (d:Option Tmp) (v:AV):Nat→AV :=
 match d with
 | some d=>fun t=>bif Nat.beq t d then v else fr t
 | none=>fr
theorem sS {fr:Nat→AV} {tm:Tr Value} (h:mP ρ g O fr tm) {v:AV} {u:Value} (hv:AR ρ g O v u) (d:Option Tmp):mP ρ g O (AJ fr d v) (fY tm d u):=by
 cases d with
 | none=>exact h
 | some d =>
  intro t
  show AR ρ g O (bif Nat.beq t d then v else fr t) (((tm.set d u).get t).getD undef)
  rw [Tr.jA,Tr.beq_eq]
  by_cases htd:t=d
  ·rw [if_pos htd,decide_eq_true htd];exact hv
  ·rw [if_neg htd,decide_eq_false htd];exact h t
structure qp (E:Env) (base:Nat) (st:cy) (s:St):Prop where
 h:aY E base st.hp st.aJ s.hp
 rd:s.rd=st.rd
 fr:mP E.ρ s.hp.get (E.O st.hp) st.fr s.fr
def bl (T:cr) (tab:List XE) (one:Bool) (F:AV) (args:List AV) (hp:List AB) (aJ:bN) (Q:AV→List AB→bN→Prop):Prop :=
 ∀ (E:Env) (base:Nat) (H:Hp) (u:Value) (us:List Value),aY E base hp aJ H→AR E.ρ H.get (E.O hp) F u→gI E.ρ H.get (E.O hp) args us→∃ goal,dI u us=some goal ∧
  ∃ m L,RX T tab m (jF H goal)=some L∧(one=true→∃ r,L=[r])∧∀ r ∈ L,∃ w H',r=.ret w H' ∧
   ∃ E' a hp' amb',Q a hp' amb'∧aY E' base hp' amb' H'∧AR E'.ρ H'.get (E'.O hp') a w∧lW hp.length base E hp H E' hp' H'
def af (T:cr) (tab:List XE) (one:Bool) (F:AV) (args:List AV) (v:AV):Prop :=
 v.deep=true∧∀ (X:Nat→Prop) (H:Hp) (u:Value) (us:List Value),Wf H→(∀ k,X k→k < H.n)→DR H.get X F u→rL H.get X args us→∃ goal,dI u us=some goal ∧
  ∃ m L,RX T tab m (jF H goal)=some L∧(one=true→∃ r,L=[r])∧∀ r ∈ L,∃ w H',r=.ret w H' ∧
   H.n≤H'.n∧Wf H'∧(∀ k,k < H.n→H'.get k=H.get k)∧min H.lo H.n≤H'.lo∧DR H'.get X v w
theorem af.call {F:AV} {args:List AV} {v:AV} (h:af T tab one F args v) (hF:F.deep=true) (hargs:bw args=true) {Q:AV→List AB→bN→Prop} (hq:Q v hp aJ):bl T tab one F args hp aJ Q:=by
 intro E base H u us hr hf ha
 obtain ⟨hd,h⟩:=h
 obtain ⟨goal,hg,m,L,h1,h2,h3⟩:=h (E.O hp) H u us hr.wf (fun k hk=>hk.elim (fun h=>hr.nj h) (hr.xn k)) (hf.deep hF) (ha.deep hargs)
 refine ⟨goal,hg,m,L,h1,h2,fun r hm=>?_⟩
 obtain ⟨w,H',rfl,hn,hwf,hsame,hlo,hv⟩:=h3 r hm
 have e:Ext base E hp H E hp H':=⟨hn,rfl,rfl,rfl,fun _ _ _ h=>h,fun _ h=>.inl h,fun k hk _=>hsame k hk,by have:=hr.bn;omega⟩
 refine ⟨w,H',rfl,E,v,hp,aJ,hq,⟨hwf,fun j x aD hj hvx=>?_,hr.inj,fun j v k hk=>Nat.lt_of_lt_of_le (hr.rn j v k hk) hn,hr.fresh,hr.new,hr.sup,hr.jh,hr.dx,hr.ds,fun k hk=>Nat.lt_of_lt_of_le (hr.sn k hk) hn,fun k hk=>Nat.lt_of_lt_of_le (hr.xn k hk) hn,hr.qG,Nat.le_trans hr.bn hn,aJ.st hr.aJ (fun k hk=>hsame k (hr.sn k hk)) hn⟩,.d hv,e.JH⟩
 rcases hr.iy j x aD hj hvx with ⟨k,b',q1,q2,q3⟩|q
 ·exact .inl ⟨k,b',q1,by rw [hsame k (hr.wf.lt q2)];exact q2,e.br hr.wf q3⟩
 ·exact .inr q
theorem af.weak {F:AV} {args:List AV} {v:AV} (h:af T tab one F args v):af T tab false F args v :=
 ⟨h.1,fun X H u us h1 h2 h3 h4=>by
  obtain ⟨goal,hg,m,L,q1,q2,q3⟩:=h.2 X H u us h1 h2 h3 h4
  exact ⟨goal,hg,m,L,q1,fun h=>Bool.noConfusion h,q3⟩⟩
theorem bl.mono {F:AV} {args:List AV} {Q Q':AV→List AB→bN→Prop} (h:bl T tab one F args hp aJ Q) (hq:∀ a hp aJ,Q a hp aJ→Q' a hp aJ):bl T tab one F args hp aJ Q':=by
 intro E base H u us hr hf ha
 obtain ⟨goal,hg,m,L,h1,h2,h3⟩:=h E base H u us hr hf ha
 refine ⟨goal,hg,m,L,h1,h2,fun r hm=>?_⟩
 obtain ⟨w,H',rfl,E',a,hp',amb',q1,q2⟩:=h3 r hm
 exact ⟨w,H',rfl,E',a,hp',amb',hq _ _ _ q1,q2⟩
theorem wW:AR ρ g O (.tp []) undef:=.d (.tp rfl (fun i a u hx=>by cases hx))
def cC (ops:List Oper) (gd:Option (Nat × Bool)) (fr:Nat→AV) (yes no:Prop):Prop :=
 match gd with
 | none=>yes
 | some (j,want)=>match ops[j]? with
  | some ⟨some d,_,_,_,_,_⟩=>match fr d with
   | .fl (.bool b)=>(b=want→yes)∧(b=(!want)→no)
   | .tp _=>no
   | _=>False
  | _=>False
def gX (d:Option Tmp) (fr:Nat→AV) (v:AV) (K:(Nat→AV)→Prop):Prop :=
 match d with
 | some d=>K fun t=>bif Nat.beq t d then v else fr t
 | none=>K fr
theorem gY {d:Option Tmp} {fr:Nat→AV} {v:AV} {K:(Nat→AV)→Prop} (h:gX d fr v K):K (AJ fr d v):=by cases d <;> exact h
def JI (mu:Tmp→Bool):Option Tmp→Bool
 | some d=>mu d
 | none=>false
def zg (P:Program) (v:AV) (name:String):AV :=
 match v with
 | .fl (.iface t x)=>match aA P (method (P.types.size+Made.depth) t x name) with
  | some (f,v)=>bif flat v then .fn f [sL v] [] else .cv
  | none=>.cv
 | _=>.cv
def NI (P:Program) (fr:Nat→AV):Mz→AV
 | .op f=>aQ fr f
 | .FB r name=>zg P (aQ fr r) name
theorem HK {ρ:Nat→Nat→Option Nat} {g:aI} {O:Nat→Prop} {P:Program} {v:AV} {u:Value} (hr:AR ρ g O v u) (name:String):AR ρ g O (zg P v name) (vQ P u name):=by
 unfold zg
 split
 ·rename_i t x
  obtain ⟨e1,_⟩:=hr.iH
  rw [e1]
  unfold vQ
  simp only
  cases hp:aA P (method (P.types.size+Made.depth) t x name) with
  | none=>exact .cv
  | some p =>
   obtain ⟨f,v⟩:=p
   simp only
   cases hv:flat v with
   | true =>
    simp only [cond_true]
    refine .fn (a:=[sL v]) (b:=[]) (a':=#[v]) (b':=#[]) rfl rfl (fun i x u hx hu=>?_) (fun i x u hx=>by cases hx)
    cases i with
    | zero =>
     cases hx
     cases hu
     exact mj hv
    | succ i=>cases hx
   | false=>exact .cv
 ·exact .cv
theorem AK {ρ:Nat→Nat→Option Nat} {g:aI} {O:Nat→Prop} {P:Program} {fr:Nat→AV} {tm:Tr Value} (h:mP ρ g O fr tm) (f:Mz):AR ρ g O (NI P fr f) (m5 P tm f):=by
 cases f with
 | op f=>exact mQ h f
 | FB r name=>exact HK (mQ h r) name
def sU (T:cr) (tab:List XE) (one:Bool) (mu:Tmp→Bool) (dst:Option Tmp) (op:Op) (fr:Nat→AV) (hp:List AB) (aJ:bN) (rd:Bool) (fl:Nat) (K:cy→Prop):Prop :=
 match fc op with
 | .call f args=>force (NI T.P fr f) fun F=>fh (args.map (aQ fr)) fun as=>bl T tab one F as hp aJ fun v hp' amb'=>gX dst fr v fun fr'=>K ⟨fr',hp',amb',rd,fl⟩
 | .next it=>one=false∧force (aQ fr it) fun x=>AG x hp fun v hp'=>gX dst fr v fun fr'=>K ⟨fr',hp',aJ,rd,fl⟩
 | .plain=>wpOp T (JI mu dst) op fr hp fun v hp'=>force v fun v=>gX dst fr v fun fr'=>K ⟨fr',hp',aJ,rd,fl⟩
def wpOps (T:cr) (tab:List XE) (one:Bool) (mu:Tmp→Bool) (ops:List Oper):List Oper→cy→(cy→Prop)→Prop
 | [],st,K=>K st
 | ⟨dst,op,_,_,_,gd⟩ :: l,⟨fr,hp,aJ,rd,fl⟩,K=>cC ops gd fr (sU T tab one mu dst op fr hp aJ rd fl fun st'=>wpOps T tab one mu ops l st' K) (gX dst fr (.tp []) fun fr'=>wpOps T tab one mu ops l ⟨fr',hp,aJ,rd,fl⟩ K)
def rm {β:Type} (one:Bool) (L:List β) (P:β→Prop):Prop:=(one=true→∃ p,L=[p])∧∀ p ∈ L,P p
theorem rm.single {β:Type} {p:β} {P:β→Prop} (h:P p):rm one [p] P:=⟨fun _=>⟨p,rfl⟩,fun q hq=>by obtain rfl:=List.mem_singleton.1 hq;exact h⟩
theorem fI {α β:Type} {f:Nat→α→Option (List β)} {P:β→Prop} (mono:∀ n m x M,n≤m→f n x=some M→f m x=some M):∀ {L:List α} (n0:Nat),(one=true→∃ x,L=[x])→(∀ x ∈ L,∃ m M,f m x=some M∧rm one M P) →
  ∃ m M,n0≤m∧cY L (f m)=some M∧rm one M P
 | [],n0,h1,_=>⟨n0,[],Nat.le_refl _,rfl,⟨fun h=>absurd (h1 h) (fun ⟨x,hx⟩=>by cases hx),fun p hp=>by cases hp⟩⟩
 | [x],n0,_,h=>by
  obtain ⟨m,M,h1,h2⟩:=h x (by simp)
  exact ⟨max n0 m,M,Nat.le_max_left _ _,by rw [gp];exact mono m _ x M (Nat.le_max_right _ _) h1,h2⟩
 | x :: y :: l,n0,h1,h=>by
  have hone:one=false:=by
   cases hb:one with
   | false=>rfl
   | true=>obtain ⟨z,hz⟩:=h1 hb;cases hz
  have hno:one=true→False:=fun h=>by rw [hone] at h;cases h
  obtain ⟨m,M,a1,a2⟩:=h x (by simp)
  obtain ⟨m',M',b0,b1,b2⟩:=fI mono (L:=y :: l) (max n0 m) (fun h=>(hno h).elim) (fun z hz=>h z (List.mem_cons_of_mem _ hz))
  have hle:=Nat.max_le.1 b0
  refine ⟨m',M++M',hle.1,?_,⟨fun h=>(hno h).elim,fun p hp=>?_⟩⟩
  ·rw [kZ,mono m m' x M hle.2 a1]
   simp only [b1,Option.map_some]
  ·rcases List.mem_append.1 hp with hp|hp
   ·exact a2.2 p hp
   ·exact b2.2 p hp
def sV (E:Env) (base:Nat) (st:cy) (s:St) (K:cy→Prop) (s':St):Prop:=∃ E' st',K st'∧st'.fl=st.fl∧qp E' base st' s'∧lW st.fl base E st.hp s.hp E' st'.hp s'.hp
theorem bC {b want:Bool} {yes no:Prop} (h:b=want) (y:yes):(b=want→yes)∧(b=(!want)→no):=by subst h;exact ⟨fun _=>y,fun h'=>by cases b <;> cases h'⟩
theorem bS {b want:Bool} {yes no:Prop} (h:b=(!want)) (n:no):(b=want→yes)∧(b=(!want)→no):=by subst h;exact ⟨fun h'=>(by cases want <;> cases h'),fun _=>n⟩
theorem JJ {t:Bool} {a b:Prop} (h:t=true) (y:a):(t=true→a)∧(t=false→b):=by subst h;exact ⟨fun _=>y,fun h'=>by cases h'⟩
theorem LC {t:Bool} {a b:Prop} (h:t=false) (y:b):(t=true→a)∧(t=false→b):=by subst h;exact ⟨fun h'=>(by cases h'),fun _=>y⟩
theorem sW {ops:List Oper} {gd:Option (Nat × Bool)} {fr:Nat→AV} {tm:Tr Value} (hf:mP ρ g O fr tm) {yes no:Prop} (h:cC ops gd fr yes no):(cm ops tm gd=true∧yes)∨(cm ops tm gd=false∧no):=by
 unfold cC at h
 unfold cm
 split at h
 ·exact .inl ⟨rfl,h⟩
 ·rename_i j want
  split at h
  ·rename_i d o1 o2 o3 o4 o5 ho
   simp only [ho]
   split at h
   ·rename_i b hb
    have:=hf d
    rw [hb] at this
    have hv:=this.iH.1
    cases hd:tm.get d with
    | none=>rw [hd] at hv;cases hv
    | some v =>
     rw [hd] at hv
     simp only [Option.getD_some] at hv
     subst hv
     simp only
     cases b <;> cases want <;> first|exact .inl ⟨rfl,h.1 rfl⟩|exact .inr ⟨rfl,h.2 rfl⟩
   ·rename_i vs hb
    have:=hf d
    rw [hb] at this
    obtain ⟨us,hv,_⟩:=this.wS
    cases hd:tm.get d with
    | none=>exact .inr ⟨rfl,h⟩
    | some v =>
     rw [hd] at hv
     simp only [Option.getD_some] at hv
     subst hv
     exact .inr ⟨rfl,h⟩
   ·exact h.elim
  ·exact h.elim
theorem jN {mu:Tmp→Bool} {ops:List Oper}:∀ {l:List Oper} {st:cy} {K:cy→Prop},wpOps T tab one mu ops l st K→∀ {E:Env} {base:Nat} {s:St},qp E base st s →
  ∃ m L,bR T (RX T tab m) ops l s=some L∧rm one L (sV E base st s K)
 | [],st,K,h,E,base,s,hs=>⟨0,[s],rfl,.single ⟨E,st,h,rfl,hs,.refl⟩⟩
 | o :: l,st,K,h,E,base,s,hs=>by
  have h:cC ops o.guard st.fr (sU T tab one mu o.dst o.op st.fr st.hp st.aJ st.rd st.fl fun st'=>wpOps T tab one mu ops l st' K) (gX o.dst st.fr (.tp []) fun fr'=>wpOps T tab one mu ops l ⟨fr',st.hp,st.aJ,st.rd,st.fl⟩ K):=h
  rcases sW hs.fr h with ⟨hg,h⟩|⟨hg,h⟩
  ·
   have rest:∀ {E':Env} {st':cy} {s':St},st'.fl=st.fl→lW st.fl base E st.hp s.hp E' st'.hp s'.hp→qp E' base st' s'→wpOps T tab one mu ops l st' K→∃ m L,bR T (RX T tab m) ops l s'=some L∧rm one L (sV E base st s K):=by
    intro E' st' s' hfl hfm hs' hw
    obtain ⟨m,L,h1,h2,h3⟩:=jN hw hs'
    refine ⟨m,L,h1,h2,fun p hp=>?_⟩
    obtain ⟨E2,st2,k1,k0,k2,k3⟩:=h3 p hp
    rw [hfl] at k3
    exact ⟨E2,st2,k1,k0.trans hfl,k2,hfm.trans k3⟩
   have fin:∀ (m0:Nat) (L0:List (Value × Hp)),(∀ m,m0≤m→gE T (RX T tab m) o.op s=some L0)→(one=true→∃ x,L0=[x])→(∀ p ∈ L0,∃ m L,bR T (RX T tab m) ops l ⟨fY s.fr o.dst p.1,p.2,s.rd⟩=some L∧rm one L (sV E base st s K)) →
     ∃ m L,bR T (RX T tab m) ops (o :: l) s=some L∧rm one L (sV E base st s K):=by
    intro m0 L0 h0 h1 h2
    obtain ⟨m,M,hm,q1,q2⟩:=fI (one:=one) (f:=fun m (p:Value × Hp)=>bR T (RX T tab m) ops l ⟨fY s.fr o.dst p.1,p.2,s.rd⟩) (P:=sV E base st s K) (fun n m x M hnm hx=>js (gy hnm) ops l _ M hx) m0 h1 h2
    refine ⟨m,M,?_,q2⟩
    rw [eU,hg]
    simp only [cond_true,h0 m hm]
    exact q1
   unfold sU at h
   split at h
   ·rename_i f args hk
    have h:=gq (cU h)
    obtain ⟨goal,hgo,m0,L0,q1,q2,q3⟩:=h E base s.hp _ _ hs.h (AK hs.fr f) (gi hs.fr args)
    have hval:∃ V,cY L0 valOf=some V∧(one=true→∃ x,V=[x])∧∀ p ∈ V,∃ r ∈ L0,r=.ret p.1 p.2:=by
     have:∀ (L:List ia),(∀ r ∈ L,∃ w H',r=ia.ret w H')→∃ V,cY L valOf=some V∧V.length=L.length∧∀ p ∈ V,∃ r ∈ L,r=.ret p.1 p.2:=by
      intro L
      induction L with
      | nil=>intro _;exact ⟨[],rfl,rfl,fun p hp=>by cases hp⟩
      | cons r L ih =>
       intro hr
       obtain ⟨w,H',hrr⟩:=hr r (by simp)
       obtain ⟨V,v1,v2,v3⟩:=ih (fun r' h'=>hr r' (List.mem_cons_of_mem _ h'))
       cases L with
       | nil =>
        refine ⟨[(w,H')],by rw [gp,hrr];rfl,rfl,fun p hp=>?_⟩
        obtain rfl:=List.mem_singleton.1 hp
        exact ⟨r,by simp,hrr⟩
       | cons r2 L2 =>
        refine ⟨(w,H') :: V,?_,by simp [v2],fun p hp=>?_⟩
        ·rw [kZ,hrr]
         simp only [valOf,v1,Option.map_some]
         rfl
        ·rcases List.mem_cons.1 hp with rfl|hp
         ·exact ⟨r,by simp,hrr⟩
         ·obtain ⟨r',m1,m2⟩:=v3 p hp
          exact ⟨r',List.mem_cons_of_mem _ m1,m2⟩
     obtain ⟨V,v1,v2,v3⟩:=this L0 (fun r hr=>by obtain ⟨w,H',e,_⟩:=q3 r hr;exact ⟨w,H',e⟩)
     refine ⟨V,v1,fun h1=>?_,v3⟩
     obtain ⟨r,hr⟩:=q2 h1
     subst hr
     match V,v2 with
     | [x],_=>exact ⟨x,rfl⟩
    obtain ⟨V,v1,v2,v3⟩:=hval
    refine fin m0 V (fun m hm=>?_) v2 (fun p hp=>?_)
    ·unfold gE
     simp only [hk,hgo,gy hm _ _ q1]
     exact v1
    ·obtain ⟨r,hr,hrr⟩:=v3 p hp
     obtain ⟨w,H',e1,E',a,hp',amb',k1,k2,k3,k4⟩:=q3 r hr
     rw [hrr] at e1
     cases e1
     exact rest (st':=⟨AJ st.fr o.dst a,hp',amb',st.rd,st.fl⟩) rfl (k4.low hs.h _) ⟨k2,hs.rd,sS (k4.fr hs.h hs.fr) k3 o.dst⟩ (gY k1)
   ·rename_i it hk
    obtain ⟨hone,h⟩:=h
    obtain ⟨L,q1,q2⟩:=yF hs.h (mQ hs.fr it) (cU h)
    refine fin 0 (L.map fun (v,e)=>(v,s.hp.app e)) (fun m _=>?_) (fun h1=>by rw [hone] at h1;cases h1) (fun p hp=>?_)
    ·unfold gE
     simp only [hk,q1,Option.map_some]
    ·obtain ⟨x,hx,rfl⟩:=List.mem_map.1 hp
     obtain ⟨E',a,hp',k1,k2,k3,k4⟩:=q2 x hx
     exact rest (st':=⟨AJ st.fr o.dst a,hp',st.aJ,st.rd,st.fl⟩) rfl k3.JH ⟨k2,hs.rd,sS (k3.JH.fr hs.h hs.fr) k4 o.dst⟩ (gY k1)
   ·rename_i hk
    obtain ⟨u,e,E',a,hp',r1,r2,r3,r4,r5⟩:=rj hs.h hs.fr h
    refine fin 0 [(u,s.hp.app e)] (fun m _=>?_) (fun _=>⟨_,rfl⟩) (fun p hp=>?_)
    ·unfold gE
     simp only [hk,r1]
    ·obtain rfl:=List.mem_singleton.1 hp
     exact rest (st':=⟨AJ st.fr o.dst a,hp',st.aJ,st.rd,st.fl⟩) rfl r4.JH ⟨r3,hs.rd,sS (r4.JH.fr hs.h hs.fr) r5 o.dst⟩ (gY (cU r2))
  ·obtain ⟨m,L,h1,h2⟩:=jN (gY h) (E:=E) (base:=base) (s:=⟨fY s.fr o.dst undef,s.hp,s.rd⟩) ⟨hs.h,hs.rd,sS hs.fr wW o.dst⟩
   refine ⟨m,L,?_,h2⟩
   rw [eU,hg]
   exact h1
def az (T:cr) (tab:List XE) (one:Bool) (c:Code) (st:cy) (K:Exit→cy→Prop):Prop :=
 ∀ (E:Env) (base:Nat) (s:St),qp E base st s→∃ m L,bJ T (RX T tab m) c s=some L∧rm one L fun p=>sV E base st s (K p.1) p.2
theorem az.mono {c:Code} {st:cy} {K K':Exit→cy→Prop} (h:az T tab one c st K) (hk:∀ e s,K e s→K' e s):az T tab one c st K':=by
 intro E base s hs
 obtain ⟨m,L,h1,h2,h3⟩:=h E base s hs
 refine ⟨m,L,h1,h2,fun p hp=>?_⟩
 obtain ⟨E',st',k1,k2⟩:=h3 p hp
 exact ⟨E',st',hk _ _ k1,k2⟩
def FY (st st':cy):Prop:=st'.hp=st.hp∧(st'.aJ=st.aJ∧st'.rd=st.rd)∧st'.fl=st.fl∧∀ t,st'.fr t=st.fr t∨st'.fr t=.cv
theorem FY.rel {st st':cy} (h:FY st st') {s:St} (hs:qp E base st s):qp E base st' s:=by
 obtain ⟨h1,⟨h2,h3⟩,h0,h4⟩:=h
 refine ⟨by rw [h1,h2];exact hs.h,by rw [h3];exact hs.rd,fun t=>?_⟩
 rw [h1]
 rcases h4 t with h|h
 ·rw [h];exact hs.fr t
 ·rw [h];exact .cv
theorem az.weak {c:Code} {st st':cy} {K:Exit→cy→Prop} (hw:FY st st') (h:az T tab one c st' K):az T tab one c st K:=by
 intro E base s hs
 obtain ⟨m,L,h1,h2,h3⟩:=h E base s (hw.rel hs)
 refine ⟨m,L,h1,h2,fun p hp=>?_⟩
 obtain ⟨E',st2,k1,k0,k2,k3⟩:=h3 p hp
 rw [hw.2.2.1,hw.1] at k3
 exact ⟨E',st2,k1,k0.trans hw.2.2.1,k2,k3⟩
def yH (Kb:cy→Prop) (K:Exit→cy→Prop) (e:Exit) (s:cy):Prop :=
 match e with
 | .normal=>Kb s
 | e=>K e s
theorem az.seq {a b:Code} {st:cy} {K:Exit→cy→Prop} (h:az T tab one a st (yH (fun s=>az T tab one b s K) K)):az T tab one (.seq a b) st K:=by
 intro E base s hs
 obtain ⟨m0,L0,h1,h2,h3⟩:=h E base s hs
 obtain ⟨m,M,hm,q1,q2⟩:=fI (one:=one) (L:=L0) (f:=fun m (p:Exit × St)=>vS (bJ T (RX T tab m) b) p) (P:=fun p=>sV E base st s (K p.1) p.2) (fun n m x M hnm hx=>by
   unfold vS at hx ⊢
   split at hx
   ·exact fH (gy hnm) _ _ _ hx
   ·exact hx) m0 h2 (fun p hp=>by
  obtain ⟨E',st',k1,k0,k2,k3⟩:=h3 p hp
  obtain ⟨e,s'⟩:=p
  have other:(∀ st',yH (fun s=>az T tab one b s K) K e st'=K e st')→(vS (bJ T (RX T tab 0) b) (e,s')=some [(e,s')])→∃ m M,vS (bJ T (RX T tab m) b) (e,s')=some M∧rm one M fun p=>sV E base st s (K p.1) p.2:=by
   intro h1 h2
   refine ⟨0,[(e,s')],h2,.single ⟨E',st',?_,k0,k2,k3⟩⟩
   rw [←h1];exact k1
  cases e with
  | normal =>
   obtain ⟨m,M,r1,r2,r3⟩:=k1 E' base s' k2
   refine ⟨m,M,r1,r2,fun q hq=>?_⟩
   obtain ⟨E2,st2,j1,j0,j2,j3⟩:=r3 q hq
   rw [k0] at j3
   exact ⟨E2,st2,j1,j0.trans k0,j2,k3.trans j3⟩
  | _=>exact other (fun _=>rfl) rfl)
 refine ⟨m,M,?_,q2⟩
 rw [pV,fH (gy hm) _ _ _ h1]
 exact q1
theorem az.cond {c:Operand} {a b:Code} {st:cy} {K:Exit→cy→Prop} {t:Bool} (hc:aQ st.fr c=.fl (.bool t)) (h1:t=true→az T tab one a st K) (h2:t=false→az T tab one b st K):az T tab one (.cond c a b) st K:=by
 intro E base s hs
 have:=mQ hs.fr c
 rw [hc] at this
 have hv:=this.iH.1
 cases t with
 | true =>
  obtain ⟨m,L,q1,q2⟩:=h1 rfl E base s hs
  exact ⟨m,L,by rw [k7,hv];exact q1,q2⟩
 | false =>
  obtain ⟨m,L,q1,q2⟩:=h2 rfl E base s hs
  exact ⟨m,L,by rw [k7,hv];exact q1,q2⟩
def jx (id:Nat) (K:Exit→cy→Prop) (e:Exit) (s:cy):Prop :=
 match e with
 | .exit id'=>bif Nat.beq id' id then K .normal s else K (.exit id') s
 | e=>K e s
theorem az.block {id:Nat} {c:Code} {st:cy} {K:Exit→cy→Prop} (h:az T tab one c st (jx id K)):az T tab one (.block id c) st K:=by
 intro E base s hs
 obtain ⟨m,L,q1,q2,q3⟩:=h E base s hs
 refine ⟨m,L.map (gR id),by rw [l9,q1],fun h1=>?_,fun p hp=>?_⟩
 ·obtain ⟨p,hp⟩:=q2 h1
  exact ⟨_,by rw [hp];rfl⟩
 ·obtain ⟨p0,hm,rfl⟩:=List.mem_map.1 hp
  obtain ⟨E',st',k1,k2,k3⟩:=q3 p0 hm
  obtain ⟨e,s'⟩:=p0
  unfold jx at k1
  cases e with
  | exit id' =>
   simp only [gR]
   simp only at k1
   cases hb:Nat.beq id' id with
   | true=>rw [hb] at k1;exact ⟨E',st',k1,k2,k3⟩
   | false=>rw [hb] at k1;exact ⟨E',st',k1,k2,k3⟩
  | _=>exact ⟨E',st',k1,k2,k3⟩
theorem az.ops {id:Nat} {ops:Array Oper} {mu:Tmp→Bool} {st:cy} {K:Exit→cy→Prop} (h:wpOps T tab one mu ops.toList ops.toList st (K .normal)):az T tab one (.region id ops false) st K:=by
 intro E base s hs
 obtain ⟨m,L,q1,q2,q3⟩:=jN h hs
 refine ⟨m,L.map fun s=>(.normal,s),by rw [gV];simp only [cond_false,q1],fun h1=>?_,fun p hp=>?_⟩
 ·obtain ⟨p,hp⟩:=q2 h1
  exact ⟨_,by rw [hp];rfl⟩
 ·obtain ⟨s',hm,rfl⟩:=List.mem_map.1 hp
  exact q3 s' hm
theorem az.here {c:Code} {e:Exit} {st:cy} {K:Exit→cy→Prop} (hc:∀ rec s,bJ T rec c s=some [(e,s)]) (h:K e st):az T tab one c st K :=
 fun E _ s hs=>⟨0,[(e,s)],hc _ _,.single ⟨E,st,h,rfl,hs,.refl⟩⟩
def tZ (K:Exit→cy→Prop) (e:Exit) (s:cy):Prop :=
 match e with
 | .goto _=>False
 | e=>K e s
theorem az.scope {c:Code} {st:cy} {K:Exit→cy→Prop} (h:az T tab one c st (tZ K)):az T tab one (.scope c) st K:=by
 intro E base s hs
 obtain ⟨m,L,q1,q2,q3⟩:=h E base s hs
 refine ⟨m,L,?_,q2,fun p hp=>?_⟩
 ·rw [mc,q1]
  unfold vT
  have:L.all noGoto=true:=by
   rw [List.all_eq_true]
   intro p hp
   obtain ⟨_,_,k1,_⟩:=q3 p hp
   obtain ⟨e,s'⟩:=p
   cases e <;> first|rfl|exact k1.elim
  simp only [this,cond_true]
 ·obtain ⟨E',st',k1,k2⟩:=q3 p hp
  refine ⟨E',st',?_,k2⟩
  obtain ⟨e,s'⟩:=p
  cases e <;> first|exact k1|exact k1.elim
end
end Go.RM
