/-
  A layer of contracts over the abstract machine. Lemmas alone; no condition.
-/
import Derived.Test.YtgdbfbalchdmcaaGreatR4
namespace Go.RM
open Go
abbrev Rec:=pR→Option (List fQ)
def fS (a b:Rec):Prop:=∀ j L,a j=some L→b j=some L
section
variable {T : bM} {a b : Rec}
theorem fK {α β:Type} {f g:α→Option (List β)} (h:∀ x M,f x=some M→g x=some M):∀ {L:List α} {M:List β},aZ L f=some M→aZ L g=some M
 | [],M,e=>by rw [lX] at e ⊢;exact e
 | [x],M,e=>by rw [dN] at e ⊢;exact h _ _ e
 | x :: y :: l,M,e=>by
  rw [fo] at e ⊢
  cases hx:f x with
  | none=>rw [hx] at e;cases e
  | some X =>
   rw [hx] at e
   simp only [Option.map_eq_some_iff] at e
   obtain ⟨Y,hY,rfl⟩:=e
   rw [h _ _ hx]
   simp only [fK h hY,Option.map_some]
theorem C3 (h:fS a b) {o:Op} {st:St} {L:List (Value × Hp)} (e:fh T a o st=some L):fh T b o st=some L:=by
 unfold fh at e ⊢
 cases hk:dc o with
 | call f args =>
  rw [hk] at e
  simp only at e ⊢
  cases hg:cC (nG T.P st.fr f) (args.map (aX st.fr)) with
  | none=>rw [hg] at e;cases e
  | some g =>
   rw [hg] at e
   simp only at e ⊢
   cases hr:a (lz st.hp g) with
   | none=>rw [hr] at e;cases e
   | some M=>rw [hr] at e;rw [h _ _ hr];exact e
 | next it=>rw [hk] at e;exact e
 | plain=>rw [hk] at e;exact e
theorem gW (h:fS a b) (ops:List Oper):∀ (l:List Oper) (st:St) (L:List St),bL T a ops l st=some L→bL T b ops l st=some L:=by
 intro l
 induction l with
 | nil=>intro st L e;exact e
 | cons o l ih =>
  intro st L e
  rw [dP] at e ⊢
  cases hg:bx ops st.fr o.guard with
  | false=>rw [hg] at e;exact ih _ _ e
  | true =>
   rw [hg] at e
   simp only [cond_true] at e ⊢
   cases ho:fh T a o.op st with
   | none=>rw [ho] at e;cases e
   | some M =>
    rw [ho] at e
    rw [C3 h ho]
    exact fK (fun x M hx=>ih _ _ hx) e
theorem z7 (h:fS a b) {o:Op} {i:Nat} {st:St} {r:Value × Hp × Tc} (e:cM T a o i st=some r):cM T b o i st=some r:=by
 unfold cM at e ⊢
 cases hk:dc o with
 | call f args =>
  rw [hk] at e
  simp only at e ⊢
  cases hg:cC (nG T.P st.fr f) (args.map (aX st.fr)) with
  | none=>rw [hg] at e;cases e
  | some g =>
   rw [hg] at e
   simp only at e ⊢
   cases hr:a (lz {st.hp with lo:=st.hp.n} g) with
   | none=>rw [hr] at e;cases e
   | some M=>rw [hr] at e;rw [h _ _ hr];exact e
 | next it=>rw [hk] at e;exact e
 | plain=>rw [hk] at e;exact e
theorem jh (h:fS a b) (ops:Array Oper):∀ (l:List Oper) (i:Nat) (st:St) (acc:List Ev) (L:List St),cR T a ops l i st acc=some L→cR T b ops l i st acc=some L:=by
 intro l
 induction l with
 | nil=>intro i st acc L e;exact e
 | cons o l ih =>
  intro i st acc L e
  rw [dB] at e ⊢
  cases hg:bx ops.toList st.fr o.guard with
  | false=>rw [hg] at e;exact ih _ _ _ _ e
  | true =>
   rw [hg] at e
   simp only [cond_true] at e ⊢
   cases ho:cM T a o.op i st with
   | none=>rw [ho] at e;cases e
   | some r=>rw [ho] at e;rw [z7 h ho];exact ih _ _ _ _ e
theorem C4 (h:fS a b) {o:Op} {i:Nat} {st:St} {P:List (Value × Hp × Tc)} (e:fC T a o i st=some P):fC T b o i st=some P:=by
 unfold fC at e ⊢
 cases hk:dc o with
 | call f args =>
  rw [hk] at e
  simp only at e ⊢
  cases hg:cC (nG T.P st.fr f) (args.map (aX st.fr)) with
  | none=>rw [hg] at e;cases e
  | some g =>
   rw [hg] at e
   simp only at e ⊢
   cases hr:a (lz {st.hp with lo:=st.hp.n} g) with
   | none=>rw [hr] at e;cases e
   | some M=>rw [hr] at e;rw [h _ _ hr];exact e
 | next it=>rw [hk] at e;cases e
 | plain=>rw [hk] at e;cases e
theorem Iq (h:fS a b) {ops:Array Oper} {o:Oper} {i:Nat} {st:St} {P:List (Value × Hp × Tc)} (e:mh T a ops o i st=some P):mh T b ops o i st=some P:=by
 unfold mh at e ⊢
 cases hg:bx ops.toList st.fr o.guard with
 | false=>rw [hg] at e;exact e
 | true=>rw [hg] at e;exact C4 h e
theorem tD (h:fS a b) (ops:Array Oper) {K K':St→List Ev→Option (List St)} (hK:∀ st acc L,K st acc=some L→K' st acc=some L):∀ (l:List Oper) (i:Nat) (st:St) (acc:List Ev) (L:List St),ij T a ops l K i st acc=some L→ij T b ops l K' i st acc=some L:=by
 intro l
 induction l with
 | nil=>intro i st acc L e;exact hK _ _ _ e
 | cons o l ih =>
  intro i st acc L e
  rw [jx] at e ⊢
  cases hg:bx ops.toList st.fr o.guard with
  | false=>rw [hg] at e;exact ih _ _ _ _ e
  | true =>
   rw [hg] at e
   simp only [cond_true] at e ⊢
   cases ho:cM T a o.op i st with
   | none=>rw [ho] at e;cases e
   | some r=>rw [ho] at e;rw [z7 h ho];exact ih _ _ _ _ e
theorem Ir (h:fS a b) {ops:Array Oper} {c:Nat} {st:St} {acc:List Ev} {L:List St} (e:wS T a ops c st acc=some L):wS T b ops c st acc=some L:=by
 obtain ⟨o,P,h1,h2,h3,h4⟩:=so e
 unfold wS
 simp only [h1,Iq h h2,List.all_eq_true.2 h3,cond_true]
 exact fK (fun x N hx=>gW h _ _ _ _ hx) h4
theorem vD (h:fS a b) {ops:Array Oper} {st:St} {L:List St} (e:cS T a ops st=some L):cS T b ops st=some L:=by
 rcases nq e with ⟨c,h1,h2⟩|⟨h1,M,h2,h3⟩
 ·unfold cS
  rw [h1]
  exact tD h ops (fun _ _ _=>Ir h) _ _ _ _ _ h2
 ·unfold cS
  simp only [h1,jh h _ _ _ _ _ _ h2]
  exact fK (fun x N hx=>gW h _ _ _ _ hx) h3
theorem vE {ops:Array Oper} {e:Ev} {acc:List Ev} (h:fX T ops (e :: acc)=true):fX T ops acc=true:=by
 have hp:=iy h
 unfold fW at hp
 rw [Bool.and_eq_true] at hp
 unfold fX
 cases (acc.all fun e=>e.t.wr.isEmpty && Nat.beq e.t.a e.t.b) with
 | true=>rfl
 | false=>exact hp.2
theorem vF {r:Rec} {ops:Array Oper}:∀ (l:List Oper) (i:Nat) (st:St) (acc:List Ev) (L:List St),cR T r ops l i st acc=some L→fX T ops acc=true:=by
 intro l
 induction l with
 | nil =>
  intro i st acc L h
  rw [iu] at h
  cases hc:fX T ops acc with
  | true=>rfl
  | false=>rw [hc] at h;cases h
 | cons o l ih =>
  intro i st acc L h
  rw [dB] at h
  cases hg:bx ops.toList st.fr o.guard with
  | false=>rw [hg] at h;exact vE (ih _ _ _ _ h)
  | true =>
   rw [hg] at h
   simp only [cond_true] at h
   cases ho:cM T r o.op i st with
   | none=>rw [ho] at h;cases h
   | some p=>rw [ho] at h;exact vE (ih _ _ _ _ h)
theorem tE {r:Rec} {ops:Array Oper}:∀ (l:List Oper) (i:Nat) (st:St) (acc:List Ev) {L:List St},cR T r ops l i st acc=some L→∃ s,L=[s]:=by
 intro l
 induction l with
 | nil =>
  intro i st acc L h
  rw [iu] at h
  cases hc:fX T ops acc with
  | true=>rw [hc] at h;cases h;exact ⟨_,rfl⟩
  | false=>rw [hc] at h;cases h
 | cons o l ih =>
  intro i st acc L h
  rw [dB] at h
  cases hg:bx ops.toList st.fr o.guard with
  | false=>rw [hg] at h;exact ih _ _ _ h
  | true =>
   rw [hg] at h
   simp only [cond_true] at h
   cases ho:cM T r o.op i st with
   | none=>rw [ho] at h;cases h
   | some p=>rw [ho] at h;exact ih _ _ _ h
theorem xP {r:Rec} {ops:Array Oper} (l2:List Oper):∀ (l1:List Oper) (i:Nat) (st:St) (acc:List Ev),cR T r ops (l1++l2) i st acc=ij T r ops l1 (fun st acc=>cR T r ops l2 (i+l1.length) st acc) i st acc:=by
 intro l1
 induction l1 with
 | nil=>intro i st acc;rfl
 | cons o l ih =>
  intro i st acc
  rw [List.cons_append,dB,jx,List.length_cons,show i+(l.length+1)=i+1+l.length by omega]
  simp only [ih]
theorem z8 {r:Rec} {ops:Array Oper} {s':St}:∀ (l:List Oper) (i:Nat) (st:St) (acc:List Ev),l.all Eg=true→cR T r ops l i st acc=some [s']→bL T r ops.toList l st=some [s']:=by
 intro l
 induction l with
 | nil =>
  intro i st acc _ h
  rw [iu] at h
  cases hc:fX T ops acc with
  | true=>rw [hc] at h;exact h
  | false=>rw [hc] at h;cases h
 | cons o l ih =>
  intro i st acc hp h
  rw [List.all_cons,Bool.and_eq_true] at hp
  rw [dB] at h
  rw [dP]
  cases hg:bx ops.toList st.fr o.guard with
  | false=>rw [hg] at h;exact ih _ _ _ hp.2 h
  | true =>
   rw [hg] at h
   simp only [cond_true] at h ⊢
   have hk:dc o.op=.plain:=by
    have:=hp.1
    unfold Eg at this
    split at this
    ·assumption
    ·cases this
   cases ho:cM T r o.op i st with
   | none=>rw [ho] at h;cases h
   | some p =>
    obtain ⟨v,hp',t⟩:=p
    rw [ho] at h
    unfold cM at ho
    rw [hk] at ho
    simp only at ho
    split at ho
    ·rename_i ef _ hop
     cases ho
     have:fh T r o.op st=some [(v,st.hp.app ef)]:=by
      unfold fh
      simp only [hk,hop]
     rw [this]
     exact ih _ _ _ hp.2 h
    ·cases ho
theorem GX {ops:Array Oper} {c:Nat} (h:y6 ops=some c):gQ ops=ops.toList.length:=by
 unfold y6 at h
 unfold gQ
 split at h
 ·cases h
 ·rename_i hn
  simp only
theorem C5 {r:Rec} {ops:Array Oper} {st s':St} (ht:gQ ops=ops.toList.length) (h:cR T r ops ops.toList 0 st []=some [s']):cS T r ops st=some [s']:=by
 unfold cS
 cases hn:y6 ops with
 | none =>
  simp only
  rw [ht,List.take_length,List.drop_length,h]
  rfl
 | some c =>
  show FI T r ops c st=some [s']
  unfold y6 at hn
  split at hn
  ·cases hn
  ·have hb:=List.find?_some hn
   unfold Mm at hb
   rw [Bool.and_eq_true,Bool.and_eq_true] at hb
   obtain ⟨⟨h1,_⟩,h3⟩:=hb
   split at h1
   ·rename_i o ho
    have hlt:c < ops.toList.length:=(List.getElem?_eq_some_iff.1 ho).1
    have hs:ops.toList=ops.toList.take c++o :: ops.toList.drop (c+1):=by
     have e:=List.getElem?_eq_some_iff.1 ho
     rw [←e.2,List.getElem_cons_drop,List.take_append_drop]
    have h':cR T r ops (ops.toList.take c++o :: ops.toList.drop (c+1)) 0 st []=some [s']:=by rw [←hs];exact h
    rw [xP] at h'
    have hcl:(ops.toList.take c).length=c:=by rw [List.length_take];omega
    rw [hcl,Nat.zero_add] at h'
    refine tD (fun _ _ e=>e) ops (fun s acc L e=>?_) _ _ _ _ _ h'
    rw [dB] at e
    unfold wS mh
    cases hg:bx ops.toList s.fr o.guard with
    | false =>
     rw [hg] at e
     simp only [cond_false] at e
     obtain ⟨s2,rfl⟩:∃ s2,L=[s2]:=tE _ _ _ _ e
     simp only [ho,hg,cond_false,List.all_cons,List.all_nil,Bool.and_true]
     rw [vF _ _ _ _ _ e]
     simp only [cond_true]
     rw [dN]
     exact z8 _ _ _ _ h3 e
    | true =>
    rw [hg] at e
    simp only [cond_true] at e
    cases hd:cM T r o.op c s with
    | none=>rw [hd] at e;cases e
    | some p =>
     obtain ⟨v,hp,t⟩:=p
     rw [hd] at e
     simp only at e
     obtain ⟨s2,rfl⟩:∃ s2,L=[s2]:=tE _ _ _ _ e
     have hm:fC T r o.op c s=some [(v,hp,t)]:=by
      have hk:∃ f as,dc o.op=.call f as:=by
       unfold HS at h1
       split at h1
       ·rename_i e1;rw [e1];exact ⟨_,_,rfl⟩
       ·cases h1
      obtain ⟨f,as,hk⟩:=hk
      unfold cM at hd
      unfold fC
      simp only [hk] at hd ⊢
      split at hd
      ·rename_i g hg
       split at hd
       ·rename_i v0 hp0 hr
        simp only [hr]
        rw [dN]
        show some [mg c s v0 hp0]=_
        rw [Option.some.inj hd]
       ·cases hd
      ·cases hd
     simp only [ho,hg,cond_true,hm,List.all_cons,List.all_nil,Bool.and_true]
     rw [vF _ _ _ _ _ e]
     simp only [cond_true]
     rw [dN]
     exact z8 _ _ _ _ h3 e
   ·cases h1
theorem eR (h:fS a b):∀ (c:Code) (st:St) (L:List (Exit × St)),bN T a c st=some L→bN T b c st=some L:=by
 intro c
 induction c with
 | skip=>intro st L e;exact e
 | region id ops draw =>
  intro st L e
  rw [gh] at e ⊢
  cases draw with
  | false =>
   simp only [cond_false] at e ⊢
   cases ho:bL T a ops.toList ops.toList st with
   | none=>rw [ho] at e;cases e
   | some M=>rw [ho] at e;rw [gW h _ _ _ _ ho];exact e
  | true =>
   simp only [cond_true] at e ⊢
   cases ho:cS T a ops st with
   | none=>rw [ho] at e;cases e
   | some M =>
    rw [ho] at e
    rw [vD h ho]
    exact e
 | seq c d ihc ihd =>
  intro st L e
  rw [nK] at e ⊢
  cases ho:bN T a c st with
  | none=>rw [ho] at e;cases e
  | some M =>
   rw [ho] at e
   rw [ihc _ _ ho]
   refine fK (fun p N hp=>?_) e
   unfold v5 at hp ⊢
   split at hp
   ·exact ihd _ _ hp
   ·exact hp
 | cond c x y ihx ihy =>
  intro st L e
  rw [jP] at e ⊢
  split at e
  ·rename_i t ht
   cases t with
   | true=>exact ihx _ _ e
   | false=>exact ihy _ _ e
  ·cases e
 | block id c ih =>
  intro st L e
  rw [kJ] at e ⊢
  cases ho:bN T a c st with
  | none=>rw [ho] at e;cases e
  | some M=>rw [ho] at e;rw [ih _ _ ho];exact e
 | loop c ih =>
  intro st L e
  rw [oA] at e ⊢
  cases ho:a (.loop c st) with
  | none=>rw [ho] at e;cases e
  | some M=>rw [ho] at e;rw [h _ _ ho];exact e
 | rangeFunc f ps x y ihx ihy =>
  intro st L e
  rw [mS] at e ⊢
  unfold oc at e ⊢
  split at e
  ·rename_i g args hg
   cases ho:a (.call g args (st.hp.push (.loop .ready none st.fr ps x y))) with
   | none=>rw [ho] at e;cases e
   | some M=>rw [ho] at e;rw [h _ _ ho];exact e
  ·cases e
 | exit id=>intro st L e;exact e
 | scope c ih =>
  intro st L e
  rw [mT] at e ⊢
  obtain ⟨e1,e2⟩:=qc e
  rw [ih _ _ e1]
  rw [e1] at e
  exact e
 | label l=>intro st L e;exact e
 | goto l=>intro st L e;exact e
 | ret=>intro st L e;exact e
 | refuse y=>intro st L e;exact e
def qn (a b:od→Option (List ey)):Prop:=∀ j L,a j=some L→b j=some L
section
variable {pa pb : od → Option (List ey)}
theorem GY (h:fS a b) (hp:qn pa pb) {o:Op} {st:St} {L:List ey} (e:fH T a pa o st=some L):fH T b pb o st=some L:=by
 unfold fH at e ⊢
 split
 ·rename_i x hx
  rw [hx] at e
  exact e
 ·rename_i hx
  rw [hx] at e
  simp only at e
  split
  ·rename_i g as hg
   rw [hg] at e
   exact hp _ _ e
  ·rename_i hg
   rw [hg] at e
   simp only [Option.map_eq_some_iff] at e ⊢
   obtain ⟨M,h1,h2⟩:=e
   exact ⟨M,C3 h h1,h2⟩
theorem qo (h:fS a b) (hp:qn pa pb) (ops:List Oper):∀ (l:List Oper) (st:St) (L:List (Option Value × St)),aS T a pa ops l st=some L→aS T b pb ops l st=some L:=by
 intro l
 induction l with
 | nil=>intro st L e;exact e
 | cons o l ih =>
  intro st L e
  rw [cT] at e ⊢
  cases hg:bx ops st.fr o.guard with
  | false=>rw [hg] at e;exact ih ⟨dR st.fr o.dst undef,st.hp,st.rd⟩ L e
  | true =>
   rw [hg] at e
   simp only [cond_true] at e ⊢
   cases hx:fH T a pa o.op st with
   | none=>rw [hx] at e;cases e
   | some A =>
    rw [hx] at e
    rw [GY h hp hx]
    refine fK (fun r M hr=>?_) e
    rcases qf hr with ⟨v,h1,rfl,h2⟩|⟨v,h1,rfl,rfl⟩
    ·exact ih _ _ h2
    ·rfl
theorem Bp (h:fS a b) (hp:qn pa pb) {ops:Array Oper} {st:St} {L:List (Option Value × St)} (e:di T a pa ops st=some L):di T b pb ops st=some L:=by
 rcases mA e with ⟨c,h1,M,h2,h3⟩|⟨h1,M,h2,rfl⟩
 ·unfold di
  rw [h1]
  simp only [jh h _ _ _ _ _ _ h2]
  exact fK (fun _ _=>qo h hp _ _ _ _) h3
 ·unfold di
  rw [h1]
  simp only [vD h h2]
theorem nR (h:fS a b) (hp:qn pa pb):∀ (c:Code) (st:St) (L:List (kF × St)),cq T a pa c st=some L→cq T b pb c st=some L:=by
 intro c
 induction c with
 | region id ops draw =>
  intro st L e
  rw [cU] at e ⊢
  cases draw with
  | true =>
   simp only [cond_true] at e ⊢
   cases hx:di T a pa ops st with
   | none=>rw [hx] at e;cases e
   | some R=>rw [hx] at e;rw [Bp h hp hx];exact e
  | false =>
   simp only [cond_false] at e ⊢
   cases hx:aS T a pa ops.toList ops.toList st with
   | none=>rw [hx] at e;cases e
   | some R=>rw [hx] at e;rw [qo h hp _ _ _ _ hx];exact e
 | seq x y ihx ihy =>
  intro st L e
  rw [jR] at e ⊢
  cases hx:cq T a pa x st with
  | none=>rw [hx] at e;cases e
  | some R =>
   rw [hx] at e
   rw [ihx _ _ hx]
   refine fK (fun p M hq=>?_) e
   obtain ⟨z,s⟩:=p
   unfold sO at hq ⊢
   simp only at hq ⊢
   split at hq
   ·exact ihy _ _ hq
   ·exact hq
 | cond c x y ihx ihy =>
  intro st L e
  rw [jb] at e ⊢
  split at e
  ·rename_i t _
   cases t with
   | true=>exact ihx _ _ e
   | false=>exact ihy _ _ e
  ·cases e
 | block id c ih =>
  intro st L e
  rw [jy] at e ⊢
  cases hx:cq T a pa c st with
  | none=>rw [hx] at e;cases e
  | some R=>rw [hx] at e;rw [ih _ _ hx];exact e
 | loop c _ =>
  intro st L e
  rw [mU] at e ⊢
  cases hx:pa (.loop c st) with
  | none=>rw [hx] at e;cases e
  | some R=>rw [hx] at e;rw [hp _ _ hx];exact e
 | _=>intro st L e;exact e
theorem C6 (h:fS a b) (hp:qn pa pb):qn (lA T a pa) (lA T b pb):=by
 intro j L e
 cases j with
 | call f args H =>
  obtain ⟨fn,c,R,h1,h2,h3,h4⟩:=kX e
  unfold lA
  simp only [h1,h2,nR h hp _ _ _ h3]
  exact h4
 | loop c st =>
  obtain ⟨R,h1,h2⟩:=kY e
  unfold lA
  simp only [nR h hp _ _ _ h1]
  refine fK (fun p M hq=>?_) h2
  obtain ⟨z,s⟩:=p
  unfold gR at hq ⊢
  simp only at hq ⊢
  split at hq
  ·exact hp _ _ hq
  ·exact hq
end
theorem oL (h:fS a b):∀ n,qn (gJ T a n) (gJ T b n)
 | 0=>fun _ _ e=>e
 | n+1=>fun j L e=>C6 h (oL h n) j L e
theorem xQ (h:fS a b):∀ (c:Code) (st:St) (L:List (kF × St × Value)),pF T a c st=some L→pF T b c st=some L:=by
 intro c
 induction c with
 | seq x y _ ihy =>
  intro st L e
  rw [nM] at e ⊢
  split at e
  ·rename_i l o hd
   split at e
   ·rename_i M hx
    rw [gW h _ _ _ _ hx]
    refine fK (fun s R hq=>?_) e
    simp only [Option.map_eq_some_iff] at hq ⊢
    obtain ⟨Q,h1,h2⟩:=hq
    exact ⟨Q,nR h (oL h 1000) _ _ _ h1,h2⟩
   ·cases e
  ·split at e
   ·rename_i M hx
    rw [eR h _ _ _ hx]
    refine fK (fun p R hq=>?_) e
    split at hq
    ·exact ihy _ _ hq
    ·cases hq
   ·cases e
 | _=>intro st L e;exact e
theorem Is (h:fS a b) {f:FuncId} {args:List Value} {H:Hp} {L:List fQ} (e:pG T a f args H=some L):pG T b f args H=some L:=by
 obtain ⟨fn,c,R,h1,h2,h3,h4⟩:=sw e
 unfold pG
 simp only [h1,h2,xQ h _ _ _ h3]
 exact h4
theorem It (h:fS a b):fS (jv T a) (jv T b):=by
 intro j L e
 cases j with
 | call f args hp =>
  rw [iW] at e ⊢
  split at e
  ·rename_i fn hf
   split at e
   ·rename_i c hc
    cases ho:bN T a c ⟨setArgs .leaf 0 args,hp,false⟩ with
    | none=>rw [ho] at e;cases e
    | some M=>rw [ho] at e;rw [eR h _ _ _ ho];exact e
   ·cases e
  ·exact Is h e
 | round l args hp =>
  rw [qd] at e ⊢
  split at e
  ·rename_i pend fr ps as bd hl
   cases hb:Nat.beq args.length ps.toList.length with
   | false=>rw [hb] at e;cases e
   | true =>
    rw [hb] at e
    simp only [cond_true] at e ⊢
    cases ho:bN T a as ⟨fE fr (ps.toList.zip args),hp,true⟩ with
    | none=>rw [ho] at e;cases e
    | some M =>
     rw [ho] at e
     rw [eR h _ _ _ ho]
     refine fK (fun p N hp=>?_) e
     unfold dH at hp ⊢
     split at hp
     ·split at hp
      ·rename_i pend2 fr2 ps2 as2 bd2 hl2
       cases hq:bN T a bd ⟨p.2.fr,p.2.hp.put l (.loop .busy pend2 fr2 ps2 as2 bd2),true⟩ with
       | none=>rw [hq] at hp;cases hp
       | some M2=>rw [hq] at hp;rw [eR h _ _ _ hq];exact hp
      ·cases hp
     ·cases hp
  ·cases e
 | loop c st =>
  rw [sq] at e ⊢
  cases ho:bN T a c st with
  | none=>rw [ho] at e;cases e
  | some M =>
   rw [ho] at e
   rw [eR h _ _ _ ho]
   refine fK (fun p N hp=>?_) e
   unfold fF at hp ⊢
   split at hp
   ·exact h _ _ hp
   ·exact hp
theorem LX {tab:List XE} (h:fS a b):fS (rx tab a) (rx tab b):=by
 intro j L e
 cases j with
 | call f args H =>
  unfold rx at e ⊢
  simp only at e ⊢
  split at e
  ·exact e
  ·exact h _ _ e
 | round l args H=>exact h _ _ e
 | loop c st=>exact h _ _ e
end
variable {T : bM} {tab : List XE}
theorem GZ (n:Nat) (j:pR):wo tab T (n+1) j=jv T (rx tab (wo tab T n)) j:=rfl
theorem Iu (n:Nat):fS (wo tab T n) (wo tab T (n+1)):=by
 induction n with
 | zero=>intro j L e;cases e
 | succ n ih=>intro j L e;rw [GZ] at e ⊢;exact It (LX ih) _ _ e
theorem Kt {n m:Nat} (h:n≤m):fS (wo tab T n) (wo tab T m):=by
 induction h with
 | refl=>exact fun _ _ e=>e
 | step _ ih=>exact fun j L e=>Iu _ _ _ (ih j L e)
noncomputable def RX (T:bM) (tab:List XE) (n:Nat):Rec:=rx tab (wo tab T n)
theorem eH {n m:Nat} (h:n≤m):fS (RX T tab n) (RX T tab m):=LX (Kt h)
theorem Ku (n:Nat) (c:Code) (st:St):RX T tab (n+1) (.loop c st)=jv T (RX T tab n) (.loop c st):=rfl
theorem Iv (n:Nat) (l:Nat) (args:List Value) (H:Hp):RX T tab (n+1) (.round l args H)=jv T (RX T tab n) (.round l args H):=rfl
theorem tF (n:Nat) (f:FuncId) (args:List Value) (H:Hp):RX T tab (n+1) (.call f args H)=match look tab f args H with
 | some (v,H')=>some [.ret v H']
 | none=>jv T (RX T tab n) (.call f args H):=rfl
end Go.RM
namespace Go.RM
open Go
inductive AV where
 | fl (v:Value)
 | sl (els:List (List AV)) (full:Bool)
 | pt (cs:List AV) (o:Nat)
 | fn (f:FuncId) (first caps:List AV)
 | ag (cs:List AV)
 | tp (vs:List AV)
 | ptr (j aB o:Nat)
 | dM (j aB o n c:Nat)
 | om (j:Nat)
 | oq (u:Value)
 | cJ
inductive AB where
 | cells (cs:List AV) (es aB:Nat)
 | eF (s:ByteArray) (pos:Nat)
 | map (ents:List (AV × AV × Nat)) (clock:Nat)
 | iter (j since:Nat) (seen:List Nat) (stepped:Nat)
 | gone
def AB.ver?:AB→Option Nat
 | .cells _ _ v=>some v
 | .gone=>none
 | _=>some 0
inductive DR (g:aE) (O:Nat→Prop):AV→Value→Prop
 | fl {v:Value}:bk v=true→DR g O (.fl v) v
 | oq {u:Value} (h:RM.bC u=true):DR g O (.oq u) u
 | nil {full:Bool}:DR g O (.sl [] full) (.slice none 0 0)
 | sl {els:List (List AV)} {full:Bool} {k o n c es:Nat} {cs:List Value} {own:Bool} {e:Nat} (hg:g k=some (.cells cs own e)) (hO:¬ O k) (hlen:o+n * es≤cs.length) (hn:els.length=n)
  (hel:∀ (i:Nat) (el:List AV),els[i]?=some el→el.length=es)
  (h:∀ (i:Nat) (el:List AV) (j:Nat) (a:AV) (u:Value),els[i]?=some el→el[j]?=some a→cs[o+i * es+j]?=some u→DR g O a u) (hc:full=true→c=n):DR g O (.sl els full) (.slice (some ⟨k,o,none⟩) n c)
 | pt {l:List AV} {k d o:Nat} {cs:List Value} {own:Bool} {e:Nat} (hg:g k=some (.cells cs own e)) (hO:¬ O k) (hlen:d+l.length≤cs.length)
  (h:∀ (i:Nat) (a:AV) (u:Value),l[i]?=some a→cs[d+i]?=some u→DR g O a u):DR g O (.pt l o) (.pointer (some ⟨k,d+o,none⟩))
 | fn {f:FuncId} {a b:List AV} {a' b':Array Value} (ha:a.length=a'.toList.length) (hb:b.length=b'.toList.length)
  (h1:∀ (i:Nat) (x:AV) (u:Value),a[i]?=some x→a'.toList[i]?=some u→DR g O x u) (h2:∀ (i:Nat) (x:AV) (u:Value),b[i]?=some x→b'.toList[i]?=some u→DR g O x u):DR g O (.fn f a b) (.func (.func f) a' b')
 | ag {a:List AV} {a':Array Value} (ha:a.length=a'.toList.length) (h1:∀ (i:Nat) (x:AV) (u:Value),a[i]?=some x→a'.toList[i]?=some u→DR g O x u):DR g O (.ag a) (.agg a')
 | tp {a:List AV} {a':Array Value} (ha:a.length=a'.toList.length) (h1:∀ (i:Nat) (x:AV) (u:Value),a[i]?=some x→a'.toList[i]?=some u→DR g O x u):DR g O (.tp a) (.tuple a')
inductive AR (ρ:Nat→Nat→Option Nat) (g:aE) (O:Nat→Prop):AV→Value→Prop
 | d {v:AV} {u:Value}:DR g O v u→AR ρ g O v u
 | cJ {u:Value}:AR ρ g O .cJ u
 | ptr {j aB o k:Nat}:ρ j aB=some k→AR ρ g O (.ptr j aB o) (.pointer (some ⟨k,o,none⟩))
 | dM {j aB o n c k:Nat}:ρ j aB=some k→AR ρ g O (.dM j aB o n c) (.slice (some ⟨k,o,none⟩) n c)
 | wq {j aB c:Nat} (hc:c≤2):AR ρ g O (.dM j aB 0 0 c) (.slice none 0 0)
 | om {j k:Nat}:ρ j 0=some k→AR ρ g O (.om j) (.map (some k))
 | fn {f:FuncId} {a b:List AV} {a' b':Array Value} (ha:a.length=a'.toList.length) (hb:b.length=b'.toList.length)
  (h1:∀ (i:Nat) (x:AV) (u:Value),a[i]?=some x→a'.toList[i]?=some u→AR ρ g O x u) (h2:∀ (i:Nat) (x:AV) (u:Value),b[i]?=some x→b'.toList[i]?=some u→AR ρ g O x u):AR ρ g O (.fn f a b) (.func (.func f) a' b')
 | ag {a:List AV} {a':Array Value} (ha:a.length=a'.toList.length) (h1:∀ (i:Nat) (x:AV) (u:Value),a[i]?=some x→a'.toList[i]?=some u→AR ρ g O x u):AR ρ g O (.ag a) (.agg a')
 | tp {a:List AV} {a':Array Value} (ha:a.length=a'.toList.length) (h1:∀ (i:Nat) (x:AV) (u:Value),a[i]?=some x→a'.toList[i]?=some u→AR ρ g O x u):AR ρ g O (.tp a) (.tuple a')
def uI (g:aE) (O:Nat→Prop) (l:List AV) (l':List Value):Prop:=l.length=l'.length∧∀ (i:Nat) (a:AV) (u:Value),l[i]?=some a→l'[i]?=some u→DR g O a u
def gk (ρ:Nat→Nat→Option Nat) (g:aE) (O:Nat→Prop) (l:List AV) (l':List Value):Prop:=l.length=l'.length∧∀ (i:Nat) (a:AV) (u:Value),l[i]?=some a→l'[i]?=some u→AR ρ g O a u
mutual
def AV.deep:AV→Bool
 | .fl _=>true
 | .sl _ _=>true
 | .pt _ _=>true
 | .fn _ a b=>bU a && bU b
 | .ag a=>bU a
 | .tp a=>bU a
 | .oq _=>true
 | _=>false
def bU:List AV→Bool
 | []=>true
 | a :: l=>a.deep && bU l
end
theorem iz:∀ {l:List AV},bU l=true→∀ (i:Nat) (a:AV),l[i]?=some a→a.deep=true
 | [],_,i,a,h=>by cases h
 | x :: l,h,i,a,ha=>by
  simp only [bU,Bool.and_eq_true] at h
  cases i with
  | zero=>cases ha;exact h.1
  | succ i=>exact iz h.2 i a (by simpa using ha)
section
variable {ρ ρ' : Nat → Nat → Option Nat} {g g' : aE} {O O' : Nat → Prop}
theorem AR.deep {v:AV} {u:Value} (h:AR ρ g O v u):v.deep=true→DR g O v u:=by
 induction h with
 | d h=>intro _;exact h
 | fn ha hb h1 h2 ih1 ih2 =>
  intro hd
  simp only [AV.deep,Bool.and_eq_true] at hd
  exact .fn ha hb (fun i x u hx hu=>ih1 i x u hx hu (iz hd.1 i x hx)) (fun i x u hx hu=>ih2 i x u hx hu (iz hd.2 i x hx))
 | ag ha h1 ih=>intro hd;simp only [AV.deep] at hd;exact .ag ha (fun i x u hx hu=>ih i x u hx hu (iz hd i x hx))
 | tp ha h1 ih=>intro hd;simp only [AV.deep] at hd;exact .tp ha (fun i x u hx hu=>ih i x u hx hu (iz hd i x hx))
 | _=>intro hd;simp [AV.deep] at hd
theorem DR.mono {v:AV} {u:Value} (h:DR g O v u) (hg:∀ k b,g k=some b→¬ O k→g' k=some b∧¬ O' k):DR g' O' v u:=by
 induction h with
 | fl h=>exact .fl h
 | oq h=>exact .oq h
 | nil=>exact .nil
 | sl h1 h2 h3 h4 h5 h6 h7 ih=>exact .sl (hg _ _ h1 h2).1 (hg _ _ h1 h2).2 h3 h4 h5 ih h7
 | pt h1 h2 h3 h4 ih=>exact .pt (hg _ _ h1 h2).1 (hg _ _ h1 h2).2 h3 ih
 | fn ha hb h1 h2 ih1 ih2=>exact .fn ha hb ih1 ih2
 | ag ha h1 ih=>exact .ag ha ih
 | tp ha h1 ih=>exact .tp ha ih
theorem AR.mono {v:AV} {u:Value} (h:AR ρ g O v u) (hr:∀ j aB k,ρ j aB=some k→ρ' j aB=some k) (hg:∀ k b,g k=some b→¬ O k→g' k=some b∧¬ O' k):AR ρ' g' O' v u:=by
 induction h with
 | d h=>exact .d (h.mono hg)
 | cJ=>exact .cJ
 | ptr h=>exact .ptr (hr _ _ _ h)
 | dM h=>exact .dM (hr _ _ _ h)
 | wq hc=>exact .wq hc
 | om h=>exact .om (hr _ _ _ h)
 | fn ha hb h1 h2 ih1 ih2=>exact .fn ha hb ih1 ih2
 | ag ha h1 ih=>exact .ag ha ih
 | tp ha h1 ih=>exact .tp ha ih
theorem gk.mono {l:List AV} {l':List Value} (h:gk ρ g O l l') (hr:∀ j aB k,ρ j aB=some k→ρ' j aB=some k) (hg:∀ k b,g k=some b→¬ O k→g' k=some b∧¬ O' k):gk ρ' g' O' l l' :=
 ⟨h.1,fun i a u ha hu=>(h.2 i a u ha hu).mono hr hg⟩
theorem gk.nil:gk ρ g O [] []:=⟨rfl,fun i a u h=>by cases h⟩
theorem gk.cons {a:AV} {u:Value} {l:List AV} {l':List Value} (h:AR ρ g O a u) (t:gk ρ g O l l'):gk ρ g O (a :: l) (u :: l') :=
 ⟨by simp [t.1],fun i b v hb hv=>by
  cases i with
  | zero=>cases hb;cases hv;exact h
  | succ i=>exact t.2 i b v (by simpa using hb) (by simpa using hv)⟩
theorem gk.append {a b:List AV} {a' b':List Value} (h:gk ρ g O a a') (k:gk ρ g O b b'):gk ρ g O (a++b) (a'++b'):=by
 refine ⟨by simp [h.1,k.1],fun i x u hx hu=>?_⟩
 by_cases hi:i < a.length
 ·rw [List.getElem?_append_left hi] at hx
  rw [List.getElem?_append_left (by rw [←h.1];exact hi)] at hu
  exact h.2 i x u hx hu
 ·rw [List.getElem?_append_right (by omega)] at hx
  rw [List.getElem?_append_right (by rw [←h.1];omega),←h.1] at hu
  exact k.2 _ x u hx hu
theorem gk.take {a:List AV} {a':List Value} (h:gk ρ g O a a') (n:Nat):gk ρ g O (a.take n) (a'.take n):=by
 refine ⟨by simp [h.1],fun i x u hx hu=>?_⟩
 rw [List.getElem?_take] at hx hu
 split at hx
 ·rw [if_pos (by assumption)] at hu;exact h.2 i x u hx hu
 ·cases hx
theorem gk.drop {a:List AV} {a':List Value} (h:gk ρ g O a a') (n:Nat):gk ρ g O (a.drop n) (a'.drop n):=by
 refine ⟨by simp [h.1],fun i x u hx hu=>?_⟩
 rw [List.getElem?_drop] at hx hu
 exact h.2 _ x u hx hu
theorem gk.get {l:List AV} {l':List Value} (h:gk ρ g O l l') {i:Nat} {a:AV} (ha:l[i]?=some a):∃ u,l'[i]?=some u∧AR ρ g O a u:=by
 have hi:i < l'.length:=by rw [←h.1];exact (List.getElem?_eq_some_iff.1 ha).1
 exact ⟨l'[i],List.getElem?_eq_getElem hi,h.2 i a _ ha (List.getElem?_eq_getElem hi)⟩
theorem gk.deep {l:List AV} {l':List Value} (h:gk ρ g O l l') (hd:bU l=true):uI g O l l':=⟨h.1,fun i a u ha hu=>(h.2 i a u ha hu).deep (iz hd i a ha)⟩
theorem uI.C7 {l:List AV} {l':List Value} (h:uI g O l l'):gk ρ g O l l':=⟨h.1,fun i a u ha hu=>.d (h.2 i a u ha hu)⟩
def AV.one:AV→Bool
 | .fl _|.sl ..|.pt ..|.fn ..|.ptr ..|.dM ..|.om _|.oq _=>true
 | _=>false
theorem AR.bC {v:AV} {u:Value} (h:AR ρ g O v u) (ho:v.one=true):RM.bC u=true:=by
 cases h with
 | d h =>
  cases h with
  | fl h=>cases u <;> first|rfl|simp [bk] at h
  | oq h=>exact h
  | _=>first|rfl|simp [AV.one] at ho
 | _=>first|rfl|simp [AV.one] at ho
theorem gk.bC {l:List AV} {l':List Value} (h:gk ρ g O l l') (ho:l.all AV.one=true):l'.all RM.bC=true:=by
 rw [List.all_eq_true] at ho ⊢
 intro u hu
 obtain ⟨i,hi,rfl⟩:=List.getElem_of_mem hu
 have hi':i < l.length:=by rw [h.1];exact hi
 exact (h.2 i l[i] _ (List.getElem?_eq_getElem hi') (List.getElem?_eq_getElem hi)).bC (ho _ (List.getElem_mem hi'))
def AV.cells:AV→List AV
 | .ag cs=>cs
 | v=>[v]
def AV.mD:AV→Bool
 | .ag _=>true
 | v=>v.one
theorem G0 {u:Value} (h:RM.bC u=true):u.cells.toList=[u]:=by
 cases u <;> first|rfl|cases h
theorem AR.cells {v:AV} {u:Value} (h:AR ρ g O v u) (hc:v.mD=true):gk ρ g O v.cells u.cells.toList:=by
 cases v with
 | ag cs =>
  cases h with
  | d h=>cases h with
   | ag ha h1=>exact ⟨ha,fun i a u x y=>.d (h1 i a u x y)⟩
  | ag ha h1=>exact ⟨ha,h1⟩
 | cJ=>simp [AV.mD,AV.one] at hc
 | tp=>simp [AV.mD,AV.one] at hc
 | _=>rw [G0 (h.bC rfl)];exact .cons h .nil
theorem AR.gm {v u:Value} (h:AR ρ g O (.fl v) u):u=v∧bk v=true:=by
 cases h with
 | d h=>cases h with
  | fl h=>exact ⟨rfl,h⟩
theorem gk.gm {l:List Value} {l':List Value} (h:gk ρ g O (l.map .fl) l'):l'=l∧l.all bk=true:=by
 have key:∀ (i:Nat) (v u:Value),l[i]?=some v→l'[i]?=some u→u=v∧bk v=true:=fun i v u hv hu=>(h.2 i (.fl v) u (by simp [hv]) hu).gm
 have hlen:l.length=l'.length:=by simpa using h.1
 refine ⟨List.ext_getElem? fun i=>?_,?_⟩
 ·by_cases hi:i < l.length
  ·rw [List.getElem?_eq_getElem hi,List.getElem?_eq_getElem (by omega:i < l'.length),(key i _ _ (List.getElem?_eq_getElem hi) (List.getElem?_eq_getElem (by omega))).1]
  ·rw [List.getElem?_eq_none (by omega),List.getElem?_eq_none (by omega)]
 ·rw [List.all_eq_true]
  intro x hx
  obtain ⟨i,hi,rfl⟩:=List.getElem_of_mem hx
  exact (key i _ _ (List.getElem?_eq_getElem hi) (List.getElem?_eq_getElem (by omega))).2
theorem gk.Bq {l:List Value} (h:l.all bk=true):gk ρ g O (l.map .fl) l:=by
 refine ⟨by simp,fun i a u ha hu=>?_⟩
 rw [List.getElem?_map,hu] at ha
 cases ha
 exact .d (.fl (List.all_eq_true.1 h u (List.mem_of_getElem? hu)))
end
structure bW where
 P:(Nat→Prop)→(Nat→Prop)→aE→Nat→Prop
 st:∀ {D S:Nat→Prop} {g g':aE} {n n':Nat},P D S g n→(∀ k,S k→g' k=g k)→n≤n'→P D S g' n'
def bW.none:bW:=⟨fun _ _ _ _=>True,fun _ _ _=>trivial⟩
structure Env where
 ρ:Nat→Nat→Option Nat
 D:Nat→Prop
 S:Nat→Prop
 X:Nat→Prop
def Own (ρ:Nat→Nat→Option Nat) (hp:List AB) (k:Nat):Prop:=∃ (j:Nat) (b:AB) (aB:Nat),hp[j]?=some b∧b.ver?=some aB∧ρ j aB=some k
def Env.O (E:Env) (hp:List AB) (k:Nat):Prop:=Own E.ρ hp k∨E.X k
def BR (ρ:Nat→Nat→Option Nat) (g:aE) (O:Nat→Prop):AB→bG→Prop
 | .cells cs es _,b'=>∃ cs',b'=.cells cs' true es∧gk ρ g O cs cs'
 | .eF s p,b'=>b'=.eF s p
 | .map ents clock,b'=>∃ es:List MapEntry,b'=.map es clock∧ents.length=es.length∧∀ (i:Nat) (k v:AV) (born:Nat) (e:MapEntry),ents[i]?=some (k,v,born)→es[i]?=some e→AR ρ g O k e.key∧AR ρ g O v e.val∧e.born=born
 | .iter j since seen stepped,b'=>∃ m,b'=.iter m since seen stepped∧ρ j 0=some m
 | .gone,_=>False
structure aV (E:Env) (base:Nat) (hp:List AB) (aA:bW) (H:Hp):Prop where
 wf:Wf H
 iQ:∀ (j:Nat) (b:AB) (aB:Nat),hp[j]?=some b→b.ver?=some aB→(∃ k b',E.ρ j aB=some k∧H.get k=some b'∧BR E.ρ H.get (E.O hp) b b')∨(E.ρ j aB=none∧∃ es,b=.cells [] es aB)
 inj:∀ (j j' aB ver' k:Nat),E.ρ j aB=some k→E.ρ j' ver'=some k→j=j'
 rn:∀ (j v k:Nat),E.ρ j v=some k→k < H.n
 fresh:∀ (j:Nat) (b:AB) (aB v:Nat),hp[j]?=some b→b.ver?=some aB→aB < v→E.ρ j v=none
 new:∀ j v,hp.length≤j→E.ρ j v=none
 sup:∀ k,Own E.ρ hp k→¬ E.S k
 jX:∀ k,Own E.ρ hp k→¬ E.X k
 dx:∀ k,E.D k→E.X k
 ds:∀ k,E.D k→E.S k
 sn:∀ k,E.S k→k < H.n
 xn:∀ k,E.X k→k < H.n
 sA:∀ k,Own E.ρ hp k∨E.D k→base≤k
 bn:base≤H.n
 aA:aA.P E.D E.S H.get H.n
structure Ext (base:Nat) (E:Env) (hp:List AB) (H:Hp) (E':Env) (hp':List AB) (H':Hp):Prop where
 n:H.n≤H'.n
 d:E'.D=E.D
 s:E'.S=E.S
 x:E'.X=E.X
 C8:∀ j v k,E.ρ j v=some k→E'.ρ j v=some k
 own:∀ k,Own E'.ρ hp' k→Own E.ρ hp k∨H.n≤k
 same:∀ k,k < H.n→¬ Own E.ρ hp k→H'.get k=H.get k
 lo:min H.lo base≤H'.lo
section
variable {base : Nat} {E E' E2 : Env} {hp hp' hp2 : List AB} {aA : bW} {H H' H2 : Hp}
theorem Wf.lt (h:Wf H) {k:Nat} {b:bG} (hk:H.get k=some b):k < H.n:=by
 apply Nat.lt_of_not_le
 intro hle
 rw [h k hle] at hk
 cases hk
theorem Ext.refl:Ext base E hp H E hp H:=⟨Nat.le_refl _,rfl,rfl,rfl,fun _ _ _ h=>h,fun _ h=>.inl h,fun _ _ _=>rfl,Nat.min_le_left _ _⟩
theorem Ext.trans (a:Ext base E hp H E' hp' H') (b:Ext base E' hp' H' E2 hp2 H2):Ext base E hp H E2 hp2 H2:=by
 refine ⟨Nat.le_trans a.n b.n,b.d.trans a.d,b.s.trans a.s,b.x.trans a.x,fun j v k h=>b.C8 j v k (a.C8 j v k h),fun k h=>?_,fun k hk ho=>?_,?_⟩
 ·rcases b.own k h with h|h
  ·exact a.own k h
  ·exact .inr (Nat.le_trans a.n h)
 ·rw [b.same k (Nat.lt_of_lt_of_le hk a.n) (fun h=>(a.own k h).elim ho (fun h=>by omega)),a.same k hk ho]
 ·have:=a.lo;have:=b.lo;omega
theorem Ext.keep (e:Ext base E hp H E' hp' H') (hw:Wf H):∀ k b,H.get k=some b→¬ E.O hp k→H'.get k=some b∧¬ E'.O hp' k:=by
 intro k b hk ho
 have hlt:=hw.lt hk
 refine ⟨by rw [e.same k hlt (fun h=>ho (.inl h))];exact hk,fun h=>?_⟩
 rcases h with h|h
 ·rcases e.own k h with h|h
  ·exact ho (.inl h)
  ·omega
 ·rw [e.x] at h;exact ho (.inr h)
theorem Ext.ar (e:Ext base E hp H E' hp' H') (hw:Wf H) {v:AV} {u:Value} (h:AR E.ρ H.get (E.O hp) v u):AR E'.ρ H'.get (E'.O hp') v u:=h.mono e.C8 (e.keep hw)
theorem Ext.dr (e:Ext base E hp H E' hp' H') (hw:Wf H) {v:AV} {u:Value} (h:DR H.get (E.O hp) v u):DR H'.get (E'.O hp') v u:=h.mono (e.keep hw)
theorem Ext.C7 (e:Ext base E hp H E' hp' H') (hw:Wf H) {v:List AV} {u:List Value} (h:gk E.ρ H.get (E.O hp) v u):gk E'.ρ H'.get (E'.O hp') v u:=h.mono e.C8 (e.keep hw)
theorem Ext.br (e:Ext base E hp H E' hp' H') (hw:Wf H) {b:AB} {b':bG} (h:BR E.ρ H.get (E.O hp) b b'):BR E'.ρ H'.get (E'.O hp') b b':=by
 cases b with
 | cells cs es aB=>obtain ⟨cs',rfl,h⟩:=h;exact ⟨cs',rfl,e.C7 hw h⟩
 | eF s p=>exact h
 | map ents clock =>
  obtain ⟨es,rfl,h1,h2⟩:=h
  exact ⟨es,rfl,h1,fun i k v born x hx hy=>⟨e.ar hw (h2 i k v born x hx hy).1,e.ar hw (h2 i k v born x hx hy).2.1,(h2 i k v born x hx hy).2.2⟩⟩
 | iter j since seen stepped=>obtain ⟨m,rfl,h⟩:=h;exact ⟨m,rfl,e.C8 _ _ _ h⟩
 | gone=>exact h
theorem aV.qp (h:aV E base hp aA H) {k:Nat} (ho:Own E.ρ hp k):k < H.n:=by
 obtain ⟨j,b,aB,h1,h2,h3⟩:=ho
 rcases h.iQ j b aB h1 h2 with ⟨k',b',h4,h5,_⟩|⟨h4,_⟩
 ·rw [h3] at h4;cases h4;exact h.wf.lt h5
 ·rw [h3] at h4;cases h4
def dX (ρ:Nat→Nat→Option Nat) (j v k:Nat):Nat→Nat→Option Nat:=fun i w=>if i=j∧w=v then some k else ρ i w
theorem jY (ρ:Nat→Nat→Option Nat) (j v k:Nat):dX ρ j v k j v=some k:=by simp [dX]
theorem xR (ρ:Nat→Nat→Option Nat) {j v k i w:Nat} (h:¬ (i=j∧w=v)):dX ρ j v k i w=ρ i w:=if_neg h
theorem cQ {b:bG} {k:Nat} (h:k < H.n):(H.push b).get k=H.get k:=by rw [Hp.fI,if_neg (by omega)]
theorem jZ {b:bG}:(H.push b).get H.n=some b:=by rw [Hp.fI,if_pos rfl]
theorem cv {b:bG} {k i:Nat} (h:k ≠ i):(H.put i b).get k=H.get k:=by rw [Hp.lH,if_neg h]
theorem jz {b:bG} {i:Nat}:(H.put i b).get i=some b:=by rw [Hp.lH,if_pos rfl]
theorem aV.Iw (h:aV E base hp aA H) (b:bG):aV E base hp aA (H.push b)∧Ext base E hp H E hp (H.push b)∧¬ E.O hp H.n:=by
 have e:Ext base E hp H E hp (H.push b):=⟨Nat.le_succ _,rfl,rfl,rfl,fun _ _ _ h=>h,fun _ h=>.inl h,fun k hk _=>cQ hk,Nat.min_le_left _ _⟩
 refine ⟨⟨(dL.push H b).wf h.wf,fun j x aB hj hv=>?_,h.inj,fun j v k hk=>Nat.lt_succ_of_lt (h.rn j v k hk),h.fresh,h.new,h.sup,h.jX,h.dx,h.ds,fun k hk=>Nat.lt_succ_of_lt (h.sn k hk),fun k hk=>Nat.lt_succ_of_lt (h.xn k hk),h.sA,Nat.le_succ_of_le h.bn,aA.st h.aA (fun k hk=>cQ (h.sn k hk)) (Nat.le_succ _)⟩,e,fun ho=>?_⟩
 ·rcases h.iQ j x aB hj hv with ⟨k,b',h1,h2,h3⟩|h1
  ·exact .inl ⟨k,b',h1,by rw [cQ (h.wf.lt h2)];exact h2,e.br h.wf h3⟩
  ·exact .inr h1
 ·rcases ho with ho|ho
  ·have:=h.qp ho;omega
  ·have:=h.xn _ ho;omega
theorem aV.push (h:aV E base hp aA H) {a:AB} {b:bG} (hv:a.ver?=some 0)
  (hb:∀ E' H',E'={E with ρ:=dX E.ρ hp.length 0 H.n}→H'=H.push b→Ext base E hp H E' (hp++[a]) H'→BR E'.ρ H'.get (E'.O (hp++[a])) a b) :
  ∃ E',E'={E with ρ:=dX E.ρ hp.length 0 H.n}∧aV E' base (hp++[a]) aA (H.push b)∧Ext base E hp H E' (hp++[a]) (H.push b)∧E'.ρ hp.length 0=some H.n:=by
 have hold:∀ j v,j ≠ hp.length→dX E.ρ hp.length 0 H.n j v=E.ρ j v:=fun j v hj=>xR _ (fun h=>hj h.1)
 have hget:∀ (j:Nat) (x:AB),(hp++[a])[j]?=some x→(j < hp.length∧hp[j]?=some x)∨(j=hp.length∧x=a):=by
  intro j x hj
  by_cases hlt:j < hp.length
  ·rw [List.getElem?_append_left hlt] at hj;exact .inl ⟨hlt,hj⟩
  ·rw [List.getElem?_append_right (by omega)] at hj
   have:j - hp.length=0:=by
    apply Nat.eq_zero_of_not_pos
    intro hp0
    rw [List.getElem?_eq_none (by simp;omega)] at hj
    cases hj
   rw [this] at hj
   cases hj
   exact .inr ⟨by omega,rfl⟩
 have hown:∀ k,Own (dX E.ρ hp.length 0 H.n) (hp++[a]) k→Own E.ρ hp k∨k=H.n:=by
  rintro k ⟨j,x,aB,h1,h2,h3⟩
  rcases hget j x h1 with ⟨hlt,h1⟩|⟨rfl,rfl⟩
  ·rw [hold j aB (by omega)] at h3;exact .inl ⟨j,x,aB,h1,h2,h3⟩
  ·rw [hv] at h2;cases h2
   rw [jY] at h3;cases h3;exact .inr rfl
 have hownr:∀ k,Own E.ρ hp k→Own (dX E.ρ hp.length 0 H.n) (hp++[a]) k:=by
  rintro k ⟨j,x,aB,h1,h2,h3⟩
  have hlt:j < hp.length:=(List.getElem?_eq_some_iff.1 h1).1
  exact ⟨j,x,aB,by rw [List.getElem?_append_left hlt];exact h1,h2,by rw [hold j aB (by omega)];exact h3⟩
 have e:Ext base E hp H {E with ρ:=dX E.ρ hp.length 0 H.n} (hp++[a]) (H.push b):=by
  refine ⟨Nat.le_succ _,rfl,rfl,rfl,fun j v k hk=>?_,fun k hk=>(hown k hk).imp id (fun h=>by omega),fun k hk _=>cQ hk,Nat.min_le_left _ _⟩
  show dX _ _ _ _ j v=_
  rw [hold j v (fun hj=>by subst hj;rw [h.new _ v (Nat.le_refl _)] at hk;cases hk)]
  exact hk
 refine ⟨_,rfl,⟨(dL.push H b).wf h.wf,fun j x aB hj hvx=>?_,fun j j' aB ver' k h1 h2=>?_,fun j v k hk=>?_,fun j x aB v h1 h2 h3=>?_,fun j v hj=>?_,fun k hk=>?_,fun k hk=>?_,h.dx,h.ds,fun k hk=>Nat.lt_succ_of_lt (h.sn k hk),fun k hk=>Nat.lt_succ_of_lt (h.xn k hk),fun k hk=>?_,Nat.le_succ_of_le h.bn,aA.st h.aA (fun k hk=>cQ (h.sn k hk)) (Nat.le_succ _)⟩,e,jY _ _ _ _⟩
 ·rcases hget j x hj with ⟨hlt,h1⟩|⟨rfl,rfl⟩
  ·rcases h.iQ j x aB h1 hvx with ⟨k,b',q1,q2,q3⟩|⟨q1,q2⟩
   ·exact .inl ⟨k,b',by show dX _ _ _ _ _ _=_;rw [hold j aB (by omega)];exact q1,by rw [cQ (h.wf.lt q2)];exact q2,e.br h.wf q3⟩
   ·exact .inr ⟨by show dX _ _ _ _ _ _=_;rw [hold j aB (by omega)];exact q1,q2⟩
  ·rw [hv] at hvx;cases hvx
   exact .inl ⟨H.n,b,jY _ _ _ _,jZ,hb _ _ rfl rfl e⟩
 ·have key:∀ (j aB:Nat),dX E.ρ hp.length 0 H.n j aB=some k→(E.ρ j aB=some k∧k < H.n)∨(j=hp.length∧k=H.n):=by
   intro j aB q
   unfold dX at q
   split at q
   ·rename_i hc
    cases q
    exact .inr ⟨hc.1,rfl⟩
   ·exact .inl ⟨q,h.rn _ _ _ q⟩
  rcases key j aB h1 with ⟨a1,a2⟩|⟨a1,a2⟩
  ·rcases key j' ver' h2 with ⟨b1,b2⟩|⟨b1,b2⟩
   ·exact h.inj j j' aB ver' k a1 b1
   ·omega
  ·rcases key j' ver' h2 with ⟨b1,b2⟩|⟨b1,b2⟩
   ·omega
   ·omega
 ·have hk:dX E.ρ hp.length 0 H.n j v=some k:=hk
  unfold dX at hk
  show k < H.n+1
  split at hk
  ·cases hk;omega
  ·have:=h.rn _ _ _ hk;omega
 ·rcases hget j x h1 with ⟨hlt,q1⟩|⟨rfl,rfl⟩
  ·show dX _ _ _ _ _ _=_;rw [hold j v (by omega)];exact h.fresh j x aB v q1 h2 h3
  ·show dX _ _ _ _ _ _=_;rw [xR _ (by omega)];exact h.new _ _ (Nat.le_refl _)
 ·show dX _ _ _ _ _ _=_
  simp only [List.length_append,List.length_cons,List.length_nil] at hj
  rw [hold j v (by omega)];exact h.new j v (by omega)
 ·rcases hown k hk with hk|rfl
  ·exact h.sup k hk
  ·exact fun hs=>by have:=h.sn _ hs;omega
 ·rcases hown k hk with hk|rfl
  ·exact h.jX k hk
  ·exact fun hs=>by have:=h.xn _ hs;omega
 ·rcases hk with hk|hk
  ·rcases hown k hk with hk|rfl
   ·exact h.sA k (.inl hk)
   ·exact h.bn
  ·exact h.sA k (.inr hk)
theorem aV.put (h:aV E base hp aA H) {j aB k:Nat} {a0 a:AB} {b:bG} (hj:hp[j]?=some a0) (hv0:a0.ver?=some aB) (hv:a.ver?=some aB) (hk:E.ρ j aB=some k)
  (hb:BR E.ρ H.get (E.O hp) a b) :
  aV E base (hp.set j a) aA (H.put k b)∧Ext base E hp H E (hp.set j a) (H.put k b):=by
 have hlt:j < hp.length:=(List.getElem?_eq_some_iff.1 hj).1
 have hok:Own E.ρ hp k:=⟨j,a0,aB,hj,hv0,hk⟩
 have hkn:=h.qp hok
 have hget:∀ (i:Nat) (x:AB),(hp.set j a)[i]?=some x→(i ≠ j∧hp[i]?=some x)∨(i=j∧x=a):=by
  intro i x hi
  by_cases hij:i=j
  ·subst hij;rw [List.getElem?_set_self hlt] at hi;cases hi;exact .inr ⟨rfl,rfl⟩
  ·rw [List.getElem?_set_ne (Ne.symm hij)] at hi;exact .inl ⟨hij,hi⟩
 have hown:∀ k',Own E.ρ (hp.set j a) k'→Own E.ρ hp k':=by
  rintro k' ⟨i,x,v,h1,h2,h3⟩
  rcases hget i x h1 with ⟨hij,h1⟩|⟨rfl,rfl⟩
  ·exact ⟨i,x,v,h1,h2,h3⟩
  ·rw [hv] at h2;cases h2;exact ⟨_,a0,_,hj,hv0,h3⟩
 have hbase:=h.sA k (.inl hok)
 have e:Ext base E hp H E (hp.set j a) (H.put k b):=by
  refine ⟨Nat.le_refl _,rfl,rfl,rfl,fun _ _ _ h=>h,fun k' h'=>.inl (hown k' h'),fun k' _ hn=>cv (fun e=>hn (e ▸ hok)),?_⟩
  show _≤min H.lo k
  omega
 have hwf:Wf (H.put k b):=fun i hi=>by rw [cv (by have:H.n≤i:=hi;omega)];exact h.wf i hi
 refine ⟨⟨hwf,fun i x v hi hvx=>?_,h.inj,h.rn,fun i x v w h1 h2 h3=>?_,fun i v hi=>h.new i v (by simpa using hi),fun k' hk'=>h.sup k' (hown k' hk'),fun k' hk'=>h.jX k' (hown k' hk'),h.dx,h.ds,h.sn,h.xn,fun k' hk'=>h.sA k' (hk'.imp (hown k') id),h.bn,aA.st h.aA (fun k' hs=>cv (fun e=>h.sup k hok (e ▸ hs))) (Nat.le_refl _)⟩,e⟩
 ·rcases hget i x hi with ⟨hij,h1⟩|⟨rfl,rfl⟩
  ·rcases h.iQ i x v h1 hvx with ⟨k',b',q1,q2,q3⟩|q
   ·refine .inl ⟨k',b',q1,?_,e.br h.wf q3⟩
    rw [cv (fun e=>hij (h.inj i j v aB k' q1 (by rw [hk,e])))]
    exact q2
   ·exact .inr q
  ·rw [hv] at hvx;cases hvx
   exact .inl ⟨k,b,hk,jz,e.br h.wf hb⟩
 ·rcases hget i x h1 with ⟨hij,q1⟩|⟨rfl,rfl⟩
  ·exact h.fresh i x v w q1 h2 h3
  ·rw [hv] at h2;cases h2;exact h.fresh _ a0 _ w hj hv0 h3
theorem aV.renew (h:aV E base hp aA H) {j aB:Nat} {a0 a:AB} {H1:Hp} {b:bG} (hj:hp[j]?=some a0) (hv0:a0.ver?=some aB) (hv:a.ver?=some (aB+1))
  (h1:H1=H∨∃ k,E.ρ j aB=some k∧H1=H.put k .dead)
  (hb:∀ E' H',E'={E with ρ:=dX E.ρ j (aB+1) H.n}→H'=H1.push b→Ext base E hp H E' (hp.set j a) H'→BR E'.ρ H'.get (E'.O (hp.set j a)) a b) :
  ∃ E',E'={E with ρ:=dX E.ρ j (aB+1) H.n}∧aV E' base (hp.set j a) aA (H1.push b)∧Ext base E hp H E' (hp.set j a) (H1.push b)∧E'.ρ j (aB+1)=some H.n:=by
 have hlt:j < hp.length:=(List.getElem?_eq_some_iff.1 hj).1
 have hn1:H1.n=H.n:=by rcases h1 with rfl|⟨k,_,rfl⟩ <;> rfl
 have hw1:Wf H1:=by
  rcases h1 with rfl|⟨k,hk,rfl⟩
  ·exact h.wf
  ·have:=h.qp ⟨j,a0,aB,hj,hv0,hk⟩
   exact fun i hi=>by have:H.n≤i:=hi;rw [cv (by omega)];exact h.wf i hi
 have hg1:∀ k,¬ E.ρ j aB=some k→H1.get k=H.get k:=by
  intro k hk
  rcases h1 with rfl|⟨k',hk',rfl⟩
  ·rfl
  ·exact cv (fun e=>hk (e ▸ hk'))
 have hnone:E.ρ j (aB+1)=none:=h.fresh j a0 aB _ hj hv0 (Nat.lt_succ_self _)
 have hold:∀ i v,¬ (i=j∧v=aB+1)→dX E.ρ j (aB+1) H.n i v=E.ρ i v:=fun i v hne=>xR _ hne
 have hget:∀ (i:Nat) (x:AB),(hp.set j a)[i]?=some x→(i ≠ j∧hp[i]?=some x)∨(i=j∧x=a):=by
  intro i x hi
  by_cases hij:i=j
  ·subst hij;rw [List.getElem?_set_self hlt] at hi;cases hi;exact .inr ⟨rfl,rfl⟩
  ·rw [List.getElem?_set_ne (Ne.symm hij)] at hi;exact .inl ⟨hij,hi⟩
 have hown:∀ k,Own (dX E.ρ j (aB+1) H.n) (hp.set j a) k→(Own E.ρ hp k∧¬ E.ρ j aB=some k)∨k=H.n:=by
  rintro k ⟨i,x,v,q1,q2,q3⟩
  rcases hget i x q1 with ⟨hij,q1⟩|⟨rfl,rfl⟩
  ·rw [hold i v (fun e=>hij e.1)] at q3
   exact .inl ⟨⟨i,x,v,q1,q2,q3⟩,fun e=>hij (h.inj i j v aB k q3 e)⟩
  ·rw [hv] at q2;cases q2;rw [jY] at q3;cases q3;exact .inr rfl
 have e:Ext base E hp H {E with ρ:=dX E.ρ j (aB+1) H.n} (hp.set j a) (H1.push b):=by
  refine ⟨by show H.n≤H1.n+1;omega,rfl,rfl,rfl,fun i v k hk=>?_,fun k hk=>(hown k hk).imp And.left (fun h=>by omega),fun k hk hn=>?_,?_⟩
  ·show dX _ _ _ _ _ _=_
   rw [hold i v (fun e=>by rw [e.1,e.2,hnone] at hk;cases hk)];exact hk
  ·rw [cQ (by omega),hg1 k (fun e=>hn ⟨j,a0,aB,hj,hv0,e⟩)]
  ·show _≤H1.lo
   rcases h1 with rfl|⟨k,hk,rfl⟩
   ·exact Nat.min_le_left _ _
   ·have:=h.sA k (.inl ⟨j,a0,aB,hj,hv0,hk⟩)
    show _≤min H.lo k
    omega
 refine ⟨_,rfl,⟨(dL.push H1 b).wf hw1,fun i x v hi hvx=>?_,fun i i' v v' k q1 q2=>?_,fun i v k hk=>?_,fun i x v w q1 q2 q3=>?_,fun i v hi=>?_,fun k hk=>?_,fun k hk=>?_,h.dx,h.ds,fun k hk=>?_,fun k hk=>?_,fun k hk=>?_,?_,aA.st h.aA (fun k hk=>?_) (by rw [←hn1];exact Nat.le_succ _)⟩,e,jY _ _ _ _⟩
 ·rcases hget i x hi with ⟨hij,q⟩|⟨rfl,rfl⟩
  ·rcases h.iQ i x v q hvx with ⟨k,b',q1,q2,q3⟩|⟨q1,q2⟩
   ·refine .inl ⟨k,b',by show dX _ _ _ _ _ _=_;rw [hold i v (fun e=>hij e.1)];exact q1,?_,e.br h.wf q3⟩
    rw [cQ (by rw [hn1];exact h.wf.lt q2),hg1 k (fun e=>hij (h.inj i j v aB k q1 e))]
    exact q2
   ·exact .inr ⟨by show dX _ _ _ _ _ _=_;rw [hold i v (fun e=>hij e.1)];exact q1,q2⟩
  ·rw [hv] at hvx;cases hvx
   refine .inl ⟨H.n,b,jY _ _ _ _,?_,hb _ _ rfl rfl e⟩
   rw [←hn1];exact jZ
 ·have key:∀ (i v:Nat),dX E.ρ j (aB+1) H.n i v=some k→(E.ρ i v=some k∧k < H.n)∨(i=j∧k=H.n):=by
   intro i v q
   unfold dX at q
   split at q
   ·rename_i hc
    cases q
    exact .inr ⟨hc.1,rfl⟩
   ·exact .inl ⟨q,h.rn _ _ _ q⟩
  rcases key i v q1 with ⟨a1,a2⟩|⟨a1,a2⟩
  ·rcases key i' v' q2 with ⟨b1,b2⟩|⟨b1,b2⟩
   ·exact h.inj i i' v v' k a1 b1
   ·omega
  ·rcases key i' v' q2 with ⟨b1,b2⟩|⟨b1,b2⟩
   ·omega
   ·omega
 ·have hk:dX E.ρ j (aB+1) H.n i v=some k:=hk
  unfold dX at hk
  show k < H1.n+1
  split at hk
  ·cases hk;omega
  ·have:=h.rn _ _ _ hk;omega
 ·rcases hget i x q1 with ⟨hij,r1⟩|⟨rfl,rfl⟩
  ·show dX _ _ _ _ _ _=_;rw [hold i w (fun e=>hij e.1)];exact h.fresh i x v w r1 q2 q3
  ·rw [hv] at q2;cases q2
   show dX _ _ _ _ _ _=_;rw [hold _ w (by omega)];exact h.fresh _ a0 _ w hj hv0 (by omega)
 ·show dX _ _ _ _ _ _=_
  simp only [List.length_set] at hi
  rw [hold i v (by omega)];exact h.new i v hi
 ·rcases hown k hk with hk|rfl
  ·exact h.sup k hk.1
  ·exact fun hs=>by have:=h.sn _ hs;omega
 ·rcases hown k hk with hk|rfl
  ·exact h.jX k hk.1
  ·exact fun hs=>by have:=h.xn _ hs;omega
 ·have:=h.sn k hk;show k < H1.n+1;omega
 ·have:=h.xn k hk;show k < H1.n+1;omega
 ·rcases hk with hk|hk
  ·rcases hown k hk with hk|rfl
   ·exact h.sA k (.inl hk.1)
   ·exact h.bn
  ·exact h.sA k (.inr hk)
 ·have:=h.bn;show base≤H1.n+1;omega
 ·have hkn:=h.sn k hk
  rw [cQ (by omega),hg1 k (fun e'=>h.sup k ⟨j,a0,aB,hj,hv0,e'⟩ hk)]
end
end Go.RM
namespace Go.RM
open Go
def tG (v:Value):AV :=
 match v with
 | .agg cs=>.ag (cs.toList.map .fl)
 | .tuple _=>.tp []
 | v=>.fl v
def bw (fr:Nat→AV):Operand→AV
 | .tmp t=>fr t
 | .const v=>bif flat v then tG v else .cJ
 | .func f=>.fn f [] []
 | .global _=>.cJ
section
variable {T : bM} {base : Nat} {E E' : Env} {hp hp' : List AB} {aA : bW} {H H' : Hp} {ρ : Nat → Nat → Option Nat} {g : aE} {O : Nat → Prop}
theorem mZ {v:Value} (h:flat v=true):AR ρ g O (tG v) v:=by
 unfold tG
 split
 ·simp only [flat] at h
  have:=gk.Bq (ρ:=ρ) (g:=g) (O:=O) h
  exact .ag this.1 this.2
 ·rename_i cs
  simp only [flat,List.isEmpty_iff] at h
  exact .tp (by rw [h];rfl) (fun i x u hx=>by cases hx)
 ·rename_i h1 h2
  refine .d (.fl ?_)
  unfold flat at h
  split at h
  ·exact absurd rfl (h1 _)
  ·exact absurd rfl (h2 _)
  ·exact h
def oM (ρ:Nat→Nat→Option Nat) (g:aE) (O:Nat→Prop) (fr:Nat→AV) (tm:Tr Value):Prop:=∀ t,AR ρ g O (fr t) ((tm.get t).getD undef)
theorem iX {fr:Nat→AV} {tm:Tr Value} (h:oM ρ g O fr tm) (x:Operand):AR ρ g O (bw fr x) (aX tm x):=by
 cases x with
 | tmp t=>exact h t
 | const v =>
  show AR ρ g O (bif flat v then tG v else .cJ) v
  cases hf:flat v with
  | true=>exact mZ hf
  | false=>exact .cJ
 | global g=>exact .cJ
 | func f=>exact .fn rfl rfl (fun i x u hx=>by cases hx) (fun i x u hx=>by cases hx)
def eK (base:Nat) (E:Env) (hp:List AB) (aA:bW) (H:Hp) (r:Option (Value × cG)) (K:AV→List AB→Prop):Prop :=
 ∃ u e E' a hp',r=some (u,e)∧K a hp'∧aV E' base hp' aA (H.app e)∧Ext base E hp H E' hp' (H.app e)∧AR E'.ρ (H.app e).get (E'.O hp') a u
theorem eK.pure {K:AV→List AB→Prop} (h:aV E base hp aA H) {u:Value} {a:AV} (ha:AR E.ρ H.get (E.O hp) a u) (hk:K a hp):eK base E hp aA H (some (u,.none)) K :=
 ⟨u,.none,E,a,hp,rfl,hk,h,.refl,ha⟩
theorem eK.wG {K:AV→List AB→Prop} (h:aV E base hp aA H) {u:Value} {a:AV} {b:bG}
  (ha:Ext base E hp H E hp (H.push b)→(H.push b).get H.n=some b→¬ E.O hp H.n→AR E.ρ (H.push b).get (E.O hp) a u) (hk:K a hp):eK base E hp aA H (some (u,.new b)) K:=by
 obtain ⟨h1,h2,h3⟩:=h.Iw b
 exact ⟨u,.new b,E,a,hp,rfl,hk,h1,h2,ha h2 jZ h3⟩
theorem eK.new {K:AV→List AB→Prop} (h:aV E base hp aA H) {u:Value} {a:AV} {x:AB} {b:bG} (hv:x.ver?=some 0)
  (hb:∀ E' H',Ext base E hp H E' (hp++[x]) H'→BR E'.ρ H'.get (E'.O (hp++[x])) x b)
  (ha:∀ E':Env,E'.ρ hp.length 0=some H.n→AR E'.ρ (H.push b).get (E'.O (hp++[x])) a u) (hk:K a (hp++[x])):eK base E hp aA H (some (u,.new b)) K:=by
 obtain ⟨E',_,h1,h2,h3⟩:=h.push hv (b:=b) (fun E' H' _ _ e=>hb E' H' e)
 exact ⟨u,.new b,E',a,hp++[x],rfl,hk,h1,h2,ha E' h3⟩
def C9 (agg:Bool) (cs:List AV) (o s:Nat) (K:AV→Prop):Prop :=
 match agg with
 | true=>o+s≤cs.length∧K (.ag ((cs.drop o).take s))
 | false=>∃ v,cs[o]?=some v∧K v
def gn (T:bM) (t:TypeId) (a:AV) (hp:List AB) (K:AV→List AB→Prop):Prop :=
 match a,T.ty.get t with
 | .pt cs o,some ⟨_,s,_,_,agg,_,_⟩=>C9 agg cs o s fun v=>K v hp
 | .ptr j aB o,some ⟨_,s,_,_,agg,_,_⟩=>∃ cs es,hp[j]?=some (.cells cs es aB)∧C9 agg cs o s fun v=>K v hp
 | _,_=>False
theorem oN {cs:List Value} {o n:Nat} (h:o+n≤cs.length):cut cs o n=some ((cs.drop o).take n):=by
 unfold cut;rw [show Nat.ble (o+n) cs.length=true from Nat.ble_eq_true_of_le h];rfl
theorem DR.dz {l:List AV} {o:Nat} {u:Value} (h:DR g O (.pt l o) u):∃ k d cs own e,u=.pointer (some ⟨k,d+o,none⟩)∧g k=some (.cells cs own e)∧¬ O k∧d+l.length≤cs.length∧∀ (i:Nat) (a:AV) (u:Value),l[i]?=some a→cs[d+i]?=some u→DR g O a u:=by
 cases h with
 | pt h1 h2 h3 h4=>exact ⟨_,_,_,_,_,rfl,h1,h2,h3,h4⟩
theorem AR.dz {l:List AV} {o:Nat} {u:Value} (h:AR ρ g O (.pt l o) u):DR g O (.pt l o) u:=h.deep rfl
theorem AR.kZ {l:List (List AV)} {f:Bool} {u:Value} (h:AR ρ g O (.sl l f) u):DR g O (.sl l f) u:=h.deep rfl
theorem AR.eB {j aB o:Nat} {u:Value} (h:AR ρ g O (.ptr j aB o) u):∃ k,ρ j aB=some k∧u=.pointer (some ⟨k,o,none⟩):=by
 cases h with
 | d h=>cases h
 | ptr h=>exact ⟨_,h,rfl⟩
theorem AR.gp {j aB o n c:Nat} {u:Value} (h:AR ρ g O (.dM j aB o n c) u):(∃ k,ρ j aB=some k∧u=.slice (some ⟨k,o,none⟩) n c)∨(o=0∧n=0∧u=.slice none 0 0):=by
 cases h with
 | d h=>cases h
 | dM h=>exact .inl ⟨_,h,rfl⟩
 | wq=>exact .inr ⟨rfl,rfl,rfl⟩
theorem AR.qZ {j aB o n c:Nat} (h:AR ρ g O (.dM j aB o n c) (.slice none 0 0)):c≤2:=by
 cases h with
 | d h=>cases h
 | wq hc=>exact hc
theorem aV.cells (h:aV E base hp aA H) {j aB k es:Nat} {cs:List AV} (hj:hp[j]?=some (.cells cs es aB)) (hk:E.ρ j aB=some k):∃ cs',H.get k=some (.cells cs' true es)∧gk E.ρ H.get (E.O hp) cs cs':=by
 rcases h.iQ j _ aB hj rfl with ⟨k',b',h1,h2,h3⟩|⟨h1,_⟩
 ·rw [hk] at h1;cases h1
  obtain ⟨cs',rfl,h4⟩:=h3
  exact ⟨cs',h2,h4⟩
 ·rw [hk] at h1;cases h1
theorem m4 {agg:Bool} {cs:List AV} {cs':List Value} {o d s:Nat} {K:AV→Prop} (h:∀ (i:Nat) (a:AV) (u:Value),cs[i]?=some a→cs'[d+i]?=some u→AR ρ g O a u) (hlen:d+cs.length≤cs'.length) (hw:C9 agg cs o s K) :
  ∃ u a,(bif agg then (cut cs' (d+o) s).map fun c=>((.agg c.toArray:Value),cG.none) else (cs'[d+o]?).map fun v=>(v,cG.none))=some (u,.none)∧K a∧AR ρ g O a u:=by
 unfold C9 at hw
 cases agg with
 | true =>
  obtain ⟨h1,h2⟩:=hw
  refine ⟨.agg ((cs'.drop (d+o)).take s).toArray,_,by rw [oN (by omega)];rfl,h2,.ag ?_ ?_⟩
  ·simp;omega
  ·intro i x u hx hu
   simp only [List.getElem?_take,List.getElem?_drop] at hx hu
   split at hx
   ·rw [if_pos (by assumption)] at hu
    exact h _ x u hx (by rw [←Nat.add_assoc];exact hu)
   ·cases hx
 | false =>
  obtain ⟨v,h1,h2⟩:=hw
  have hlt:=(List.getElem?_eq_some_iff.1 h1).1
  have hc:cs'[d+o]?=some (cs'[d+o]'(by omega)):=List.getElem?_eq_getElem _
  exact ⟨_,v,by rw [hc];rfl,h2,h o v _ h1 hc⟩
theorem Br (h:aV E base hp aA H) {t:TypeId} {a:AV} {u:Value} (ha:AR E.ρ H.get (E.O hp) a u) {K:AV→List AB→Prop} (hw:gn T t a hp K):eK base E hp aA H (jt T t u H.get) K:=by
 unfold gn at hw
 split at hw
 ·rename_i cs o jI s bytes zero agg cy dh hty
  obtain ⟨k,d,cs',own,e,rfl,h1,h2,h3,h4⟩:=ha.dz.dz
  unfold jt addr?
  simp only [h1,cells?,hty]
  obtain ⟨u,a,e1,e2,e3⟩:=m4 (ρ:=E.ρ) (fun i a u x y=>.d (h4 i a u x y)) h3 hw
  rw [e1]
  exact .pure h e3 e2
 ·rename_i j aB o jI s bytes zero agg cy dh hty
  obtain ⟨cs,es,h1,h2⟩:=hw
  obtain ⟨k,hk,rfl⟩:=ha.eB
  obtain ⟨cs',h3,h4⟩:=h.cells h1 hk
  unfold jt addr?
  simp only [h3,cells?,hty]
  obtain ⟨u,a,e1,e2,e3⟩:=m4 (d:=0) (fun i a u x y=>h4.2 i a u x (by rw [Nat.zero_add] at y;exact y)) (by rw [h4.1];omega) h2
  rw [Nat.zero_add] at e1
  rw [e1]
  exact .pure h e3 e2
 ·exact hw.elim
def dy (cs vs:List AV) (o:Nat):List AV:=cs.take o++vs++cs.drop (o+vs.length)
theorem gk.splice {a b:List AV} {a' b':List Value} (h:gk ρ g O a a') (k:gk ρ g O b b') (o:Nat):gk ρ g O (dy a b o) (splice a' b' o):=by
 unfold dy RM.splice
 rw [k.1]
 exact ((h.take o).append k).append (h.drop _)
def eZ (T:bM) (t:TypeId) (a v:AV) (hp:List AB) (K:AV→List AB→Prop):Prop :=
 match a,T.ty.get t with
 | .ptr j aB o,some ⟨_,s,_,_,_,_,_⟩=>∃ cs es,hp[j]?=some (.cells cs es aB)∧v.mD=true∧v.cells.all AV.one=true∧v.cells.length=s∧o+s≤cs.length∧K .cJ (hp.set j (.cells (dy cs v.cells o) es aB))
 | _,_=>False
theorem zq (h:aV E base hp aA H) {t:TypeId} {a v:AV} {u x:Value} (ha:AR E.ρ H.get (E.O hp) a u) (hv:AR E.ρ H.get (E.O hp) v x) {K:AV→List AB→Prop} (hw:eZ T t a v hp K):eK base E hp aA H (mb T t u x H.get) K:=by
 unfold eZ at hw
 split at hw
 ·rename_i j aB o jI s bytes zero agg cy dh hty
  obtain ⟨cs,es,h1,h2,h3,h4,h5,h6⟩:=hw
  obtain ⟨k,hk,rfl⟩:=ha.eB
  obtain ⟨cs',q1,q2⟩:=h.cells h1 hk
  have hc:=hv.cells h2
  have hone:=hc.bC h3
  have e1:x.cells.toList.length=s:=by rw [←hc.1];exact h4
  unfold mb addr?
  simp only [q1,cells?,hty]
  have e2:(true && Nat.beq x.cells.toList.length s && Nat.ble (o+s) cs'.length && x.cells.toList.all RM.bC)=true:=by
   rw [hone,e1]
   simp only [Bool.true_and,Bool.and_true,Bool.and_eq_true]
   exact ⟨Nat.beq_refl s,Nat.ble_eq_true_of_le (by rw [←q2.1];exact h5)⟩
  rw [e2]
  simp only [cond_true]
  obtain ⟨p1,p2⟩:=h.put (a:=.cells (dy cs v.cells o) es aB) (b:=.cells (splice cs' x.cells.toList o) true es) h1 rfl rfl hk ⟨_,rfl,q2.splice hc o⟩
  exact ⟨undef,.put k _,E,.cJ,_,rfl,h6,p1,p2,.cJ⟩
 ·exact hw.elim
def z9 (own:Bool) (v:AV) (hp:List AB) (K:AV→List AB→Prop):Prop :=
 v.mD=true∧v.cells.all AV.one=true ∧
  match own with
  | true=>K (.ptr hp.length 0 0) (hp++[.cells v.cells 0 0])
  | false=>bU v.cells=true∧K (.pt v.cells 0) hp
theorem Da (h:aV E base hp aA H) {own:Bool} {v:AV} {x:Value} (hv:AR E.ρ H.get (E.O hp) v x) {K:AV→List AB→Prop} (hw:z9 own v hp K):eK base E hp aA H (Gx H.n x) K:=by
 obtain ⟨h1,h2,h3⟩:=hw
 have hc:=hv.cells h1
 unfold Gx
 rw [hc.bC h2]
 simp only [cond_true]
 cases own with
 | true =>
  exact .new h (x:=.cells v.cells 0 0) rfl (fun E' H' e=>⟨_,rfl,e.C7 h.wf hc⟩) (fun E' hr=>.ptr hr) h3
 | false =>
  obtain ⟨h3,h4⟩:=h3
  refine .wG h (fun e hg hO=>.d (.pt (d:=0) (o:=0) hg hO (by rw [hc.1];omega) fun i a u ha hu=>?_)) h4
  rw [Nat.zero_add] at hu
  exact e.dr h.wf ((hc.deep h3).2 i a u ha hu)
def tH (T:bM) (t:TypeId) (hp:List AB) (K:AV→List AB→Prop):Prop :=
 match T.ty.get t with
 | some ⟨_,_,_,some z,_,_,_⟩=>z.cells.toList.all bk=true∧K (.ptr hp.length 0 0) (hp++[.cells (z.cells.toList.map .fl) 0 0])
 | _=>False
theorem zu (h:aV E base hp aA H) {t:TypeId} {K:AV→List AB→Prop} (hw:tH T t hp K):eK base E hp aA H (ug T H.n t) K:=by
 unfold tH at hw
 split at hw
 ·rename_i jI s bytes z agg cy dh hty
  obtain ⟨h1,h2⟩:=hw
  unfold ug
  simp only [hty,h1,cond_true]
  exact .new h (x:=.cells (z.cells.toList.map .fl) 0 0) rfl (fun E' H' e=>⟨_,rfl,.Bq h1⟩) (fun E' hr=>.ptr hr) h2
 ·exact hw.elim
def lN (T:bM) (t:TypeId) (a:AV) (i:Nat) (hp:List AB) (K:AV→List AB→Prop):Prop :=
 match a,T.ty.get t with
 | .pt cs o,some ⟨.struct _,_,_,_,_,cy,_⟩=>∃ off s,cy[i]?=some (off,s)∧1≤s∧K (.pt cs (o+off)) hp
 | .ptr j aB o,some ⟨.struct _,_,_,_,_,cy,_⟩=>∃ off s,cy[i]?=some (off,s)∧1≤s∧K (.ptr j aB (o+off)) hp
 | _,_=>False
theorem zw (h:aV E base hp aA H) {t:TypeId} {a:AV} {i:Nat} {u:Value} (ha:AR E.ρ H.get (E.O hp) a u) {K:AV→List AB→Prop} (hw:lN T t a i hp K):eK base E hp aA H (eM T t u i) K:=by
 unfold lN at hw
 split at hw
 ·rename_i cs o fs s bytes z agg cy dh hty
  obtain ⟨off,s',h1,h2,h3⟩:=hw
  obtain ⟨k,d,cs',own,e,rfl,q1,q2,q3,q4⟩:=ha.dz.dz
  unfold eM addr?
  simp only [hty,h1,Nat.ble_eq_true_of_le h2,cond_true]
  refine .pure h (a:=.pt cs (o+off)) ?_ h3
  unfold ptr
  rw [Nat.add_assoc]
  exact .d (.pt q1 q2 q3 q4)
 ·rename_i j aB o fs s bytes z agg cy dh hty
  obtain ⟨off,s',h1,h2,h3⟩:=hw
  obtain ⟨k,hk,rfl⟩:=ha.eB
  unfold eM addr?
  simp only [hty,h1,Nat.ble_eq_true_of_le h2,cond_true]
  exact .pure h (.ptr hk) h3
 ·exact hw.elim
def asInt:AV→Option Int
 | .fl (.int _ n)=>some n
 | _=>none
def dm (T:bM) (t:TypeId) (a ix:AV) (hp:List AB) (K:AV→List AB→Prop):Prop :=
 match asInt ix,T.ty.get t with
 | some j,some ⟨.array len _,_,_,_,_,_,dh⟩=>(0≤j∧j < (len:Int)) ∧
  match a with
  | .pt cs o=>K (.pt cs (o+j.toNat * dh)) hp
  | .ptr i aB o=>K (.ptr i aB (o+j.toNat * dh)) hp
  | _=>False
 | some j,some ⟨.slice _,_,_,_,_,_,dh⟩ =>
  match a with
  | .sl els _=>∃ el,(0≤j∧els[j.toNat]?=some el)∧el.length=dh∧K (.pt el 0) hp
  | .dM i aB o n _=>(0≤j∧j < (n:Int))∧K (.ptr i aB (o+j.toNat * dh)) hp
  | _=>False
 | _,_=>False
theorem m5 {dh k o len:Nat} {j:Int} (h:0≤j∧j < (len:Int)):rE dh k o len j=some (ptr k (o+j.toNat * dh),.none):=by
 unfold rE
 have e:Int.ofNat len=(len:Int):=rfl
 rw [ot,pW,e,decide_eq_true h.1,decide_eq_true h.2]
 rfl
theorem j5 {a:AV} {n:Int} {u:Value} (h:asInt a=some n) (ha:AR ρ g O a u):intOf? u=some n:=by
 unfold asInt at h
 split at h
 ·cases h
  rw [ha.gm.1]
  rfl
 ·cases h
theorem tI (h:aV E base hp aA H) {t:TypeId} {a ix:AV} {u x:Value} (ha:AR E.ρ H.get (E.O hp) a u) (hx:AR E.ρ H.get (E.O hp) ix x) {K:AV→List AB→Prop} (hw:dm T t a ix hp K):eK base E hp aA H (eN T t u x) K:=by
 unfold dm at hw
 split at hw
 ·rename_i j len el s bytes z agg cy dh hj hty
  have hix:=j5 hj hx
  obtain ⟨h0,hw⟩:=hw
  unfold eN
  simp only [hix,hty]
  split at hw
  ·obtain ⟨k,d,cs',own,e,rfl,q1,q2,q3,q4⟩:=ha.dz.dz
   simp only [addr?]
   rw [m5 h0]
   refine .pure h ?_ hw
   unfold ptr
   rw [Nat.add_assoc]
   exact .d (.pt q1 q2 q3 q4)
  ·obtain ⟨k,hk,rfl⟩:=ha.eB
   simp only [addr?]
   rw [m5 h0]
   exact .pure h (.ptr hk) hw
  ·exact hw.elim
 ·rename_i j el s bytes z agg cy dh hj hty
  have hix:=j5 hj hx
  unfold eN
  simp only [hix,hty]
  split at hw
  ·rename_i els f
   obtain ⟨el,⟨h0,h1⟩,h2,h3⟩:=hw
   cases ha.kZ with
   | nil=>cases h1
   | sl q1 q2 q3 q4 q5 q6 q7 =>
    rename_i k o n c es cs own e
    have hlt:j.toNat < els.length:=(List.getElem?_eq_some_iff.1 h1).1
    have hes:es=dh:=by rw [←q5 _ _ h1,h2]
    subst hes
    show eK base E hp aA H (rE es k o n j) K
    rw [m5 ⟨h0,by omega⟩]
    have hle:(j.toNat+1) * es≤n * es:=Nat.mul_le_mul_right _ (by omega)
    rw [Nat.add_mul,Nat.one_mul] at hle
    refine .pure h (.d (.pt (d:=o+j.toNat * es) (o:=0) q1 q2 (by rw [h2];omega) fun i a u hi hu=>?_)) h3
    exact q6 _ _ i a u h1 hi hu
  ·rename_i i aB o n c
   obtain ⟨h0,h1⟩:=hw
   rcases ha.gp with ⟨k,hk,rfl⟩|⟨rfl,rfl,rfl⟩
   ·show eK base E hp aA H (rE dh k o n j) K
    rw [m5 h0]
    exact .pure h (.ptr hk) h1
   ·omega
  ·exact hw.elim
 ·exact hw.elim
def EK:List AV→Option (List Value)
 | []=>some []
 | .fl v :: l=>(EK l).map (v :: ·)
 | _=>none
theorem ri:∀ {cs:List AV} {l:List Value},EK cs=some l→cs=l.map AV.fl
 | [],l,h=>by cases h;rfl
 | .fl v :: cs,l,h=>by
  simp only [EK,Option.map_eq_some_iff] at h
  obtain ⟨m,hm,rfl⟩:=h
  rw [ri hm];rfl
 | .sl _ _ :: _,_,h|.pt _ _ :: _,_,h|.fn _ _ _ :: _,_,h|.ag _ :: _,_,h|.tp _ :: _,_,h|.ptr _ _ _ :: _,_,h|.dM _ _ _ _ _ :: _,_,h|.om _ :: _,_,h|.oq _ :: _,_,h|.cJ :: _,_,h=>by simp [EK] at h
def AV.iI:AV→Option Value
 | .fl v=>some v
 | .ag cs=>(EK cs).map fun l=>.agg l.toArray
 | _=>none
theorem ej {a:AV} {v u:Value} (h:a.iI=some v) (ha:AR ρ g O a u):u=v∧flat v=true:=by
 unfold AV.iI at h
 split at h
 ·cases h
  obtain ⟨rfl,hf⟩:=ha.gm
  refine ⟨rfl,?_⟩
  cases u <;> first|exact hf|simp [bk] at hf
 ·rename_i cs
  rw [Option.map_eq_some_iff] at h
  obtain ⟨l,h1,rfl⟩:=h
  have hcs:=ri h1
  subst hcs
  cases ha with
  | d h=>cases h with
   | ag ha h1 =>
    rename_i a'
    obtain ⟨e1,e2⟩:=gk.gm (ρ:=ρ) (g:=g) (O:=O) (l':=a'.toList) ⟨ha,fun i a u x y=>.d (h1 i a u x y)⟩
    refine ⟨by rw [←e1],?_⟩
    simp only [flat]
    exact e2
  | ag ha h1 =>
   rename_i a'
   obtain ⟨e1,e2⟩:=gk.gm (ρ:=ρ) (g:=g) (O:=O) (l':=a'.toList) ⟨ha,h1⟩
   refine ⟨by rw [←e1],?_⟩
   simp only [flat]
   exact e2
 ·cases h
def k8 (r:Option (Value × cG)) (hp:List AB) (K:AV→List AB→Prop):Prop:=∃ v,r=some (v,.none)∧flat v=true∧K (tG v) hp
theorem dG (h:aV E base hp aA H) {r:Option (Value × cG)} {K:AV→List AB→Prop} (hw:k8 r hp K):eK base E hp aA H r K:=by
 obtain ⟨v,rfl,h2,h3⟩:=hw
 exact .pure h (mZ h2) h3
def lC (T:bM) (o:BinOp) (t:TypeId) (x y:Operand) (a b:AV) (hp:List AB) (K:AV→List AB→Prop):Prop :=
 match a,b with
 | .fl (.int .i64 m),.fl (.int .i64 n) =>
  match o with
  | .add=>(-9223372036854775808≤m+n∧m+n≤9223372036854775807)∧K (.fl (.int .i64 (m+n))) hp
  | .sub=>(-9223372036854775808≤m - n∧m - n≤9223372036854775807)∧K (.fl (.int .i64 (m - n))) hp
  | .mul=>(-9223372036854775808≤m * n∧m * n≤9223372036854775807)∧K (.fl (.int .i64 (m * n))) hp
  | .eql=>K (.fl (.bool (decide (m=n)))) hp
  | .neq=>K (.fl (.bool (!decide (m=n)))) hp
  | .lss=>K (.fl (.bool (decide (m < n)))) hp
  | .leq=>K (.fl (.bool (decide (m≤n)))) hp
  | .gtr=>K (.fl (.bool (decide (n < m)))) hp
  | .geq=>K (.fl (.bool (decide (n≤m)))) hp
  | _=>k8 (mJ T.P o t x y (.int .i64 m) (.int .i64 n)) hp K
 | .sl els _,.fl (.slice none 0 0)=>els ≠ []∧nE T.P t=true∧∃ v,lg o=some (v,.none)∧K (.fl v) hp
 | .dM _ _ _ m _,.fl (.slice none 0 0)=>m ≠ 0∧nE T.P t=true∧∃ v,lg o=some (v,.none)∧K (.fl v) hp
 | .pt _ _,.fl (.pointer none)=>uh T.P t=true∧∃ v,lg o=some (v,.none)∧K (.fl v) hp
 | .ptr _ _ _,.fl (.pointer none)=>uh T.P t=true∧∃ v,lg o=some (v,.none)∧K (.fl v) hp
 | _,_=>∃ v w,a.iI=some v∧b.iI=some w∧k8 (mJ T.P o t x y v w) hp K
theorem xS {c:Int} (h:-9223372036854775808≤c∧c≤9223372036854775807):zN c=true:=by
 unfold zN
 rw [ot,ot,Bool.and_eq_true,decide_eq_true_iff,decide_eq_true_iff]
 exact ⟨by have e:Int.negSucc 9223372036854775807=-9223372036854775808:=rfl;rw [e];exact h.1,by have e:Int.ofNat 9223372036854775807=9223372036854775807:=rfl;rw [e];exact h.2⟩
theorem Kv (a b:Int):Kj a b=decide (a=b):=by
 cases h:Kj a b with
 | true=>exact (decide_eq_true (H9 h)).symm
 | false =>
  refine (decide_eq_false fun e=>?_).symm
  subst e
  cases a <;> simp [Kj] at h
theorem oO {o:BinOp} {v:Value} {e:cG} (h:lg o=some (v,e)):bk v=true:=by
 unfold lg at h
 split at h
 ·cases h;rfl
 ·cases h;rfl
 ·cases h
theorem Db (h:aV E base hp aA H) {o:BinOp} {t:TypeId} {x y:Operand} {a b:AV} {u v:Value} (ha:AR E.ρ H.get (E.O hp) a u) (hb:AR E.ρ H.get (E.O hp) b v) {K:AV→List AB→Prop}
  (hw:lC T o t x y a b hp K):eK base E hp aA H (mJ T.P o t x y u v) K:=by
 unfold lC at hw
 split at hw
 ·rename_i m n
  obtain ⟨rfl,_⟩:=ha.gm
  obtain ⟨rfl,_⟩:=hb.gm
  have key:∀ {z:Value},lG o m n=some z→bk z=true→K (.fl z) hp→eK base E hp aA H (mJ T.P o t x y (.int .i64 m) (.int .i64 n)) K:=by
   intro z hz hf hk
   unfold mJ
   simp only [hz]
   exact .pure h (.d (.fl hf)) hk
  cases o <;> simp only at hw <;> first
   | exact key (by unfold lG pU;simp only;rw [show Int.add m n=m+n from rfl,xS hw.1];rfl) rfl hw.2
   | exact key (by unfold lG pU;simp only;rw [show Int.sub m n=m - n from rfl,xS hw.1];rfl) rfl hw.2
   | exact key (by unfold lG pU;simp only;rw [show Int.mul m n=m * n from rfl,xS hw.1];rfl) rfl hw.2
   | exact key (by simp only [lG,Kv,pW,ot]) rfl hw
   | exact dG h hw
 ·obtain ⟨hne,ht,z,hz,hk⟩:=hw
  obtain ⟨rfl,_⟩:=hb.gm
  cases ha.kZ with
  | nil=>exact absurd rfl hne
  | sl q1 q2 q3 q4 q5 q6 q7 =>
   unfold mJ
   simp only [ht,hz,cond_true]
   exact .pure h (.d (.fl (oO hz))) hk
 ·obtain ⟨hne,ht,z,hz,hk⟩:=hw
  obtain ⟨rfl,_⟩:=hb.gm
  rcases ha.gp with ⟨k,hk2,rfl⟩|⟨rfl,rfl,rfl⟩
  ·unfold mJ
   simp only [ht,hz,cond_true]
   exact .pure h (.d (.fl (oO hz))) hk
  ·exact absurd rfl hne
 ·obtain ⟨ht,z,hz,hk⟩:=hw
  obtain ⟨rfl,_⟩:=hb.gm
  cases ha.dz with
  | pt =>
   unfold mJ
   simp only [ht,hz,cond_true]
   exact .pure h (.d (.fl (oO hz))) hk
 ·obtain ⟨ht,z,hz,hk⟩:=hw
  obtain ⟨rfl,_⟩:=hb.gm
  obtain ⟨k,hk2,rfl⟩:=ha.eB
  unfold mJ
  simp only [ht,hz,cond_true]
  exact .pure h (.d (.fl (oO hz))) hk
 ·obtain ⟨v',w',h1,h2,h3⟩:=hw
  obtain ⟨rfl,_⟩:=ej h1 ha
  obtain ⟨rfl,_⟩:=ej h2 hb
  exact dG h h3
def Kw (T:bM) (o:UnOp) (a:AV) (hp:List AB) (K:AV→List AB→Prop):Prop :=
 match o,a with
 | .not,.fl (.bool b)=>K (.fl (.bool (!b))) hp
 | _,_=>∃ v,a.iI=some v∧k8 (cZ (aD T.P (Op.unary o v))) hp K
theorem EL (h:aV E base hp aA H) {o:UnOp} {a:AV} {u:Value} (ha:AR E.ρ H.get (E.O hp) a u) {K:AV→List AB→Prop} (hw:Kw T o a hp K) :
  eK base E hp aA H (bif flat u then cZ (aD T.P (Op.unary o u)) else none) K:=by
 unfold Kw at hw
 split at hw
 ·obtain ⟨rfl,_⟩:=ha.gm
  exact .pure h (.d (.fl rfl)) hw
 ·obtain ⟨v,h1,h2⟩:=hw
  obtain ⟨rfl,hf⟩:=ej h1 ha
  rw [hf]
  exact dG h h2
def EM (T:bM) (s d:TypeId) (a:AV) (hp:List AB) (K:AV→List AB→Prop):Prop :=
 ∃ v,a.iI=some v∧k8 (cZ (aD T.P (convert s d v))) hp K
def FT (T:bM) (t:TypeId) (a:AV) (hp:List AB) (K:AV→List AB→Prop):Prop :=
 ∃ v,a.iI=some v∧k8 (cZ (aD T.P (Instr.makeInterface t v))) hp K
def Dc (T:bM) (t d:TypeId) (ok:Bool) (a:AV) (hp:List AB) (K:AV→List AB→Prop):Prop :=
 ∃ v,a.iI=some v∧k8 (cZ (aD T.P (Instr.typeAssert v t d ok))) hp K
theorem xT (h:aV E base hp aA H) {t d:TypeId} {ok:Bool} {a:AV} {u:Value} (ha:AR E.ρ H.get (E.O hp) a u) {K:AV→List AB→Prop} (hw:Dc T t d ok a hp K) :
  eK base E hp aA H (bif flat u then cZ (aD T.P (Instr.typeAssert u t d ok)) else none) K:=by
 obtain ⟨v,h1,h2⟩:=hw
 obtain ⟨rfl,hf⟩:=ej h1 ha
 rw [hf]
 exact dG h h2
theorem zx (h:aV E base hp aA H) {t:TypeId} {a:AV} {u:Value} (ha:AR E.ρ H.get (E.O hp) a u) {K:AV→List AB→Prop} (hw:FT T t a hp K) :
  eK base E hp aA H (bif flat u then cZ (aD T.P (Instr.makeInterface t u)) else none) K:=by
 obtain ⟨v,h1,h2⟩:=hw
 obtain ⟨rfl,hf⟩:=ej h1 ha
 rw [hf]
 exact dG h h2
theorem Bs (h:aV E base hp aA H) {s d:TypeId} {a:AV} {u:Value} (ha:AR E.ρ H.get (E.O hp) a u) {K:AV→List AB→Prop} (hw:EM T s d a hp K) :
  eK base E hp aA H (bif flat u then cZ (aD T.P (convert s d u)) else none) K:=by
 obtain ⟨v,h1,h2⟩:=hw
 obtain ⟨rfl,hf⟩:=ej h1 ha
 rw [hf]
 exact dG h h2
def wH (T:bM) (t:TypeId) (a ix:AV) (hp:List AB) (K:AV→List AB→Prop):Prop :=
 ∃ v w,a.iI=some v∧ix.iI=some w∧k8 (cZ (aD T.P (Instr.index t v w))) hp K
theorem nx (h:aV E base hp aA H) {t:TypeId} {a ix:AV} {u x:Value} (ha:AR E.ρ H.get (E.O hp) a u) (hx:AR E.ρ H.get (E.O hp) ix x) {K:AV→List AB→Prop} {r:Option (Value × cG)} (hw:wH T t a ix hp K) :
  eK base E hp aA H (bif flat u && flat x then cZ (aD T.P (Instr.index t u x)) else r) K:=by
 obtain ⟨v,w,h1,h2,h3⟩:=hw
 obtain ⟨rfl,hf⟩:=ej h1 ha
 obtain ⟨rfl,hf'⟩:=ej h2 hx
 rw [hf,hf']
 exact dG h h3
def xU (T:bM) (t:TypeId) (a ix:AV) (hp:List AB) (K:AV→List AB→Prop):Prop :=
 match a,ix with
 | .ag cs,.fl (.int _ (.ofNat j))=>match T.ty.get t with
  | some ⟨.array n e,_,_,_,_,_,_⟩=>match T.ty.get e,cs[j]? with
   | some ⟨_,1,_,_,false,_,_⟩,some (.fn f x y)=>(Nat.blt j n=true∧(cs.any fun v=>!v.one)=false)∧K (.fn f x y) hp
   | _,_=>wH T t a ix hp K
  | _=>wH T t a ix hp K
 | _,_=>wH T t a ix hp K
theorem xV (h:aV E base hp aA H) {t:TypeId} {a ix:AV} {u x:Value} (ha:AR E.ρ H.get (E.O hp) a u) (hx:AR E.ρ H.get (E.O hp) ix x) {K:AV→List AB→Prop} (hw:xU T t a ix hp K) :
  eK base E hp aA H (bif flat u && flat x then cZ (aD T.P (Instr.index t u x)) else ob T t u x) K:=by
 unfold xU at hw
 split at hw
 ·rename_i cs k j
  split at hw
  ·rename_i m e _ _ _ _ _ _ hty
   split at hw
   ·rename_i jI _ _ _ _ f y z hel hcs
    obtain ⟨⟨h1,_⟩,h2⟩:=hw
    obtain ⟨rfl,_⟩:=hx.gm
    obtain ⟨us,rfl,h3⟩:∃ us:Array Value,u=.agg us∧gk E.ρ H.get (E.O hp) cs us.toList:=by
     cases ha with
     | d h=>cases h with
      | ag ha h1=>exact ⟨_,rfl,ha,fun i a u x y=>.d (h1 i a u x y)⟩
     | ag ha h1=>exact ⟨_,rfl,ha,h1⟩
    have hj:j < us.toList.length:=by rw [←h3.1];exact (List.getElem?_eq_some_iff.1 hcs).1
    have hv:=h3.2 j _ _ hcs (List.getElem?_eq_getElem hj)
    obtain ⟨p,q,hpq⟩:∃ p q,us.toList[j]=.func (.func f) p q:=by
     revert hv
     generalize us.toList[j]=uj
     intro hv
     cases hv with
     | d h=>cases h with
      | fn=>exact ⟨_,_,rfl⟩
     | fn=>exact ⟨_,_,rfl⟩
    have hnf:flat (.agg us)=false:=by
     show us.toList.all bk=false
     rw [Bool.eq_false_iff]
     intro hall
     have:=List.all_eq_true.1 hall _ (List.getElem_mem hj)
     rw [hpq] at this
     cases this
    rw [hnf]
    simp only [Bool.false_and,cond_false]
    unfold ob
    simp only [hty,hel,h1,cond_true]
    rw [List.getElem?_eq_getElem hj,hpq]
    exact .pure h (by rw [hpq] at hv;exact hv) h2
   ·exact nx h ha hx hw
  ·exact nx h ha hx hw
 ·exact nx h ha hx hw
def Dd (T:bM) (t:TypeId) (a:AV) (i:Nat) (hp:List AB) (K:AV→List AB→Prop):Prop :=
 ∃ v,a.iI=some v∧k8 (cZ (aD T.P (Instr.field t v i))) hp K
theorem xW (h:aV E base hp aA H) {t:TypeId} {a:AV} {i:Nat} {u:Value} (ha:AR E.ρ H.get (E.O hp) a u) {K:AV→List AB→Prop} (hw:Dd T t a i hp K) :
  eK base E hp aA H (bif flat u then cZ (aD T.P (Instr.field t u i)) else none) K:=by
 obtain ⟨v,h1,h2⟩:=hw
 obtain ⟨rfl,hf⟩:=ej h1 ha
 rw [hf]
 exact dG h h2
def lZ (a:AV) (i:Nat) (hp:List AB) (K:AV→List AB→Prop):Prop :=
 match a with
 | .tp vs=>∃ v,vs[i]?=some v∧K v hp
 | _=>False
theorem AR.xX {vs:List AV} {u:Value} (h:AR ρ g O (.tp vs) u):∃ us:Array Value,u=.tuple us∧gk ρ g O vs us.toList:=by
 cases h with
 | d h=>cases h with
  | tp ha h1=>exact ⟨_,rfl,ha,fun i a u x y=>.d (h1 i a u x y)⟩
 | tp ha h1=>exact ⟨_,rfl,ha,h1⟩
theorem wv (h:aV E base hp aA H) {a:AV} {i:Nat} {u:Value} (ha:AR E.ρ H.get (E.O hp) a u) {K:AV→List AB→Prop} (hw:lZ a i hp K):eK base E hp aA H (gO u i) K:=by
 unfold lZ at hw
 split at hw
 ·obtain ⟨v,h1,h2⟩:=hw
  obtain ⟨us,rfl,h3⟩:=ha.xX
  obtain ⟨x,h4,h5⟩:=h3.get h1
  unfold gO
  simp only [h4,Option.map_some]
  exact .pure h h5 h2
 ·exact hw.elim
def lO (t:Bool) (a b:AV) (hp:List AB) (K:AV→List AB→Prop):Prop :=
 match a,b with
 | .fl (.bool x),.fl (.bool y)=>K (.fl (.bool (bif t then x else y))) hp
 | a,b=>(t=true→K a hp)∧(t=false→K b hp)
def uJ (c a b:AV) (hp:List AB) (K:AV→List AB→Prop):Prop :=
 match c with
 | .fl (.bool t)=>lO t a b hp K
 | _=>False
theorem Bt (h:aV E base hp aA H) {c a b:AV} {u v w:Value} (hc:AR E.ρ H.get (E.O hp) c u) (ha:AR E.ρ H.get (E.O hp) a v) (hb:AR E.ρ H.get (E.O hp) b w) {K:AV→List AB→Prop} (hw:uJ c a b hp K) :
  eK base E hp aA H (vl u v w) K:=by
 unfold uJ at hw
 split at hw
 ·rename_i t
  obtain ⟨rfl,_⟩:=hc.gm
  unfold lO at hw
  split at hw
  ·rename_i x y
   obtain ⟨rfl,_⟩:=ha.gm
   obtain ⟨rfl,_⟩:=hb.gm
   unfold vl
   refine .pure h (a:=.fl (.bool (bif t then x else y))) ?_ hw
   cases t <;> exact .d (.fl rfl)
  ·unfold vl
   cases ht:t with
   | true=>exact .pure h ha (hw.1 ht)
   | false=>exact .pure h hb (hw.2 ht)
 ·exact hw.elim
def tJ (a:AV) (hp:List AB) (K:AV→List AB→Prop):Prop :=
 match a with
 | .pt cs o=>K (.pt cs o) hp
 | .ptr j aB o=>K (.ptr j aB o) hp
 | _=>False
theorem De (h:aV E base hp aA H) {a:AV} {u:Value} (ha:AR E.ρ H.get (E.O hp) a u) {K:AV→List AB→Prop} (hw:tJ a hp K):eK base E hp aA H (jN u) K:=by
 unfold tJ at hw
 split at hw
 ·obtain ⟨k,d,cs',own,e,rfl,_⟩:=ha.dz.dz
  exact .pure h ha hw
 ·obtain ⟨k,hk,rfl⟩:=ha.eB
  exact .pure h ha hw
 ·exact hw.elim
end
end Go.RM
namespace Go.RM
open Go
section
variable {T : bM} {base : Nat} {E E' : Env} {hp hp' : List AB} {aA : bW} {H H' : Hp} {ρ : Nat → Nat → Option Nat} {g : aE} {O : Nat → Prop}
def Df (place:Nat→Option (Nat × Nat)) (cells:List AV):List (Nat × AV)→Option (List AV)
 | []=>some cells
 | (i,v) :: rest =>
  match place i with
  | none=>none
  | some (off,size)=>bif v.mD && Nat.beq v.cells.length size && Nat.ble (off+size) cells.length then Df place (dy cells v.cells off) rest else none
def qq (ρ:Nat→Nat→Option Nat) (g:aE) (O:Nat→Prop):List (Nat × AV)→List (Nat × Value)→Prop
 | [],[]=>True
 | (i,a) :: l,(k,u) :: m=>i=k∧AR ρ g O a u∧qq ρ g O l m
 | _,_=>False
theorem vG {place:Nat→Option (Nat × Nat)}:∀ {parts:List (Nat × AV)} {parts':List (Nat × Value)} {cells:List AV} {cells':List Value} {cs:List AV},qq ρ g O parts parts'→gk ρ g O cells cells' →
  Df place cells parts=some cs→∃ cs',pE place cells' parts'=some cs'∧gk ρ g O cs cs'
 | [],[],cells,cells',cs,_,hc,h=>by cases h;exact ⟨cells',rfl,hc⟩
 | (i,a) :: l,(k,u) :: m,cells,cells',cs,hp,hc,h=>by
  obtain ⟨rfl,ha,hl⟩:=hp
  unfold Df at h
  unfold pE
  cases hpl:place i with
  | none=>rw [hpl] at h;cases h
  | some p =>
   obtain ⟨off,size⟩:=p
   rw [hpl] at h
   simp only at h ⊢
   cases hb:(a.mD && Nat.beq a.cells.length size && Nat.ble (off+size) cells.length) with
   | false=>rw [hb] at h;cases h
   | true =>
    rw [hb] at h
    simp only [cond_true] at h
    simp only [Bool.and_eq_true] at hb
    have hac:=ha.cells hb.1.1
    rw [show Nat.beq u.cells.toList.length size=true by rw [←hac.1];exact hb.1.2,show Nat.ble (off+size) cells'.length=true by rw [←hc.1];exact hb.2]
    exact vG hl (hc.splice hac off) h
 | [],_ :: _,_,_,_,hp,_,_=>hp.elim
 | _ :: _,[],_,_,_,hp,_,_=>by simp [qq] at hp
def oP (T:bM) (t:TypeId) (parts:List (Nat × AV)) (hp:List AB) (K:AV→List AB→Prop):Prop :=
 match T.ty.get t with
 | some ⟨jI,_,_,some z,true,cy,dh⟩=>z.cells.toList.all bk=true∧∃ cs,Df (iT jI cy dh) (z.cells.toList.map .fl) parts=some cs∧K (.ag cs) hp
 | _=>False
theorem zy (h:aV E base hp aA H) {t:TypeId} {parts:List (Nat × AV)} {parts':List (Nat × Value)} (hpt:qq E.ρ H.get (E.O hp) parts parts') {K:AV→List AB→Prop} (hw:oP T t parts hp K) :
  eK base E hp aA H (si T t parts') K:=by
 unfold oP at hw
 split at hw
 ·rename_i jI s bytes z cy dh hty
  obtain ⟨h1,cs,h2,h3⟩:=hw
  unfold si
  simp only [hty,h1,cond_true]
  obtain ⟨cs',e1,e2⟩:=vG hpt (gk.Bq h1) h2
  rw [e1]
  refine .pure h (a:=.ag cs) (.ag ?_ ?_) h3
  ·simpa using e2.1
  ·intro i x u hx hu;exact e2.2 i x u hx (by simpa using hu)
 ·exact hw.elim
def m6 (es:Nat):Nat→List (Nat × AV)→Bool
 | _,[]=>true
 | i,(k,v) :: l=>Nat.beq k i && v.mD && v.cells.all AV.one && Nat.beq v.cells.length es && m6 es (i+1) l
theorem Aa {es:Nat}:∀ {parts:List (Nat × AV)} {parts':List (Nat × Value)} {i:Nat} {cells:List Value},qq ρ g O parts parts'→m6 es i parts=true→cells.length=(i+parts.length) * es →
  ∃ cs',pE (fun i=>some (i * es,es)) cells parts'=some (cells.take (i * es)++cs')∧gk ρ g O (parts.map (·.2.cells)).flatten cs'∧cs'.length=parts.length * es
 | [],[],i,cells,_,_,hl=>by
  refine ⟨[],?_,.nil,by simp⟩
  simp only [List.length_nil,Nat.add_zero] at hl
  simp [pE,←hl]
 | (k,a) :: l,(k',u) :: m,i,cells,hp,hok,hlen=>by
  obtain ⟨rfl,ha,hl⟩:=hp
  simp only [m6,Bool.and_eq_true] at hok
  obtain ⟨⟨⟨⟨o1,o2⟩,o3⟩,o4⟩,o5⟩:=hok
  obtain rfl:=Nat.eq_of_beq_eq_true o1
  have hac:=ha.cells o2
  have hes:=Nat.eq_of_beq_eq_true o4
  have hlen':cells.length=k * es+es+l.length * es:=by
   rw [hlen];simp only [List.length_cons];rw [Nat.add_mul,Nat.add_mul];omega
  unfold pE
  simp only
  rw [show Nat.beq u.cells.toList.length es=true by rw [←hac.1];exact o4,show Nat.ble (k * es+es) cells.length=true from Nat.ble_eq_true_of_le (by omega)]
  simp only [Bool.and_self,cond_true]
  have hsl:(splice cells u.cells.toList (k * es)).length=cells.length:=by
   unfold RM.splice
   simp only [List.length_append,List.length_take,List.length_drop]
   rw [←hac.1,hes]
   omega
  obtain ⟨cs',e1,e2,e3⟩:=Aa (i:=k+1) (cells:=splice cells u.cells.toList (k * es)) hl o5 (by rw [hsl,hlen];simp only [List.length_cons];rw [show k+1+l.length=k+(l.length+1) by omega])
  refine ⟨u.cells.toList++cs',?_,?_,?_⟩
  ·rw [e1]
   congr 1
   rw [←List.append_assoc]
   congr 1
   unfold RM.splice
   rw [Nat.add_mul,Nat.one_mul,List.take_append_of_le_length (by simp only [List.length_append,List.length_take];rw [←hac.1,hes];omega)]
   rw [List.take_of_length_le]
   simp only [List.length_append,List.length_take]
   rw [←hac.1,hes]
   omega
  ·simp only [List.map_cons,List.flatten_cons]
   exact hac.append e2
  ·simp only [List.length_append,List.length_cons,e3]
   rw [←hac.1,hes,Nat.add_mul]
   omega
 | [],_ :: _,_,_,hp,_,_=>hp.elim
 | _ :: _,[],_,_,hp,_,_=>by simp [qq] at hp
theorem vH {es:Nat}:∀ {l:List (Nat × AV)} {i:Nat},m6 es i l=true→∀ p ∈ l,p.2.cells.length=es∧p.2.cells.all AV.one=true
 | [],_,_,p,hp=>by cases hp
 | (k,v) :: l,i,h,p,hp=>by
  simp only [m6,Bool.and_eq_true] at h
  rcases List.mem_cons.1 hp with rfl|hp
  ·exact ⟨Nat.eq_of_beq_eq_true h.1.2,h.1.1.2⟩
  ·exact vH h.2 p hp
theorem gq {α:Type} {es:Nat}:∀ {els:List (List α)},(∀ el ∈ els,el.length=es)→∀ (i:Nat) (el:List α) (j:Nat),els[i]?=some el→j < es→els.flatten[i * es+j]?=el[j]?
 | [],_,i,el,j,h,_=>by cases h
 | x :: l,hl,i,el,j,h,hj=>by
  have hx:=hl x (by simp)
  rw [List.flatten_cons]
  cases i with
  | zero =>
   cases h
   rw [Nat.zero_mul,Nat.zero_add,List.getElem?_append_left (by omega)]
  | succ i =>
   rw [List.getElem?_append_right (by rw [hx,Nat.add_mul];omega),hx,show (i+1) * es+j - es=i * es+j by rw [Nat.add_mul];omega]
   exact gq (fun e he=>hl e (List.mem_cons_of_mem _ he)) i el j (by simpa using h) hj
theorem eJ {α:Type} {es:Nat}:∀ {els:List (List α)},(∀ el ∈ els,el.length=es)→els.flatten.length=els.length * es
 | [],_=>by simp
 | x :: l,h=>by
  rw [List.flatten_cons,List.length_append,eJ (fun e he=>h e (List.mem_cons_of_mem _ he)),h x (by simp),List.length_cons,Nat.add_mul]
  omega
theorem DR.row {k n:Nat} {els:List (List AV)} {cs:List Value} {own full:Bool} {es e c:Nat} (hg:g k=some (.cells cs own e)) (hO:¬ O k) (hel:∀ el ∈ els,el.length=es) (hn:els.length=n) (hc:uI g O els.flatten cs) (hf:full=true→c=n) :
  DR g O (.sl els full) (.slice (some ⟨k,0,none⟩) n c):=by
 refine .sl (es:=es) hg hO ?_ hn (fun i el h=>hel el (List.mem_of_getElem? h)) (fun i el j a u h1 h2 h3=>?_) hf
 ·rw [←hc.1,eJ hel,hn];omega
 ·have hj:j < es:=by rw [←hel el (List.mem_of_getElem? h1)];exact (List.getElem?_eq_some_iff.1 h2).1
  rw [Nat.zero_add] at h3
  exact hc.2 _ a u (by rw [gq hel i el j h1 hj];exact h2) h3
def eD (T:bM) (own:Bool) (t:TypeId) (len:Nat) (parts:List (Nat × AV)) (hp:List AB) (K:AV→List AB→Prop):Prop :=
 match elem? T t with
 | some inf=>Nat.ble (len * inf.size) 65536=true∧cx inf=true∧m6 inf.size 0 parts=true∧Nat.beq parts.length len=true ∧
  match own with
  | true=>K (.dM hp.length 0 0 len len) (hp++[.cells (parts.map (·.2.cells)).flatten inf.size 0])
  | false=>bU (parts.map (·.2.cells)).flatten=true∧K (.sl (parts.map (·.2.cells)) true) hp
 | none=>False
theorem sB (h:aV E base hp aA H) {own:Bool} {t:TypeId} {len:Nat} {parts:List (Nat × AV)} {parts':List (Nat × Value)} (hpt:qq E.ρ H.get (E.O hp) parts parts') {K:AV→List AB→Prop}
  (hw:eD T own t len parts hp K):eK base E hp aA H (i7 T H.n t len parts') K:=by
 unfold eD at hw
 split at hw
 ·rename_i inf hi
  obtain ⟨h1,h2,h3,h4,h5⟩:=hw
  have h4:=Nat.eq_of_beq_eq_true h4
  unfold i7
  simp only [hi,h1,h2,Bool.and_self,cond_true]
  obtain ⟨cs',e1,e2,e3⟩:=Aa (es:=inf.size) (i:=0) (cells:=cH ((inf.zero.map fun z=>z.cells.toList).getD []) (len * inf.size)) hpt h3 (by rw [Nat.zero_add,h4];simp [cH])
  rw [e1]
  simp only [Nat.zero_mul,List.take_zero,List.nil_append]
  cases own with
  | true=>exact .new h (x:=.cells (parts.map (·.2.cells)).flatten inf.size 0) rfl (fun E' H' e=>⟨_,rfl,e.C7 h.wf e2⟩) (fun E' hr=>.dM hr) h5
  | false =>
   obtain ⟨h5,h6⟩:=h5
   refine .wG h (fun e hg hO=>.d (.row hg hO (es:=inf.size) (fun el he=>?_) (by simp [h4]) ?_ (fun _=>rfl))) h6
   ·obtain ⟨p,hp',rfl⟩:=List.mem_map.1 he
    exact (vH h3 p hp').1
   ·have:=(e.C7 h.wf e2).deep h5
    exact this
 ·exact hw.elim
def rS (o:Option AV) (d l:Nat):Prop :=
 match o with
 | none=>l=d
 | some a=>asInt a=some (l:Int)
def G1 (ρ:Nat→Nat→Option Nat) (g:aE) (O:Nat→Prop):Option AV→Option Value→Prop
 | none,none=>True
 | some a,some u=>AR ρ g O a u
 | _,_=>False
theorem fe {o:Option AV} {o':Option Value} {d l:Nat} (h:rS o d l) (ho:G1 ρ g O o o'):eu d o'=some l:=by
 cases o with
 | none=>cases o' with
  | none=>cases h;rfl
  | some=>exact ho.elim
 | some a=>cases o' with
  | none=>exact ho.elim
  | some u =>
   have:=j5 h ho
   unfold intOf? at this
   split at this
   ·cases this
    unfold eu lf
    simp only [Int.toNat_natCast]
    rw [decide_eq_false (by omega)]
    rfl
   ·cases this
def Bu (T:bM) (t:TypeId) (x:AV) (lo hi:Option AV) (hp:List AB) (K:AV→List AB→Prop):Prop :=
 match x with
 | .fl (.string s)=>∃ lo' hi':Option Value,lo.map AV.iI=lo'.map some∧hi.map AV.iI=hi'.map some∧k8 (cZ (aD T.P (Instr.sliceAt t (.string s) lo' hi' none))) hp K
 | .sl els full=>match elem? T t with
  | some inf=>∃ l h:Nat,rS lo 0 l∧rS hi els.length h∧(l≤h∧h≤els.length)∧1≤inf.size∧(∀ el ∈ els,el.length=inf.size)∧K (.sl ((els.drop l).take (h - l)) (full && Nat.beq h els.length)) hp
  | none=>False
 | .dM j aB o n c=>match elem? T t with
  | some inf=>∃ l h:Nat,rS lo 0 l∧rS hi n h∧(l≤h∧h≤n)∧1≤inf.size∧K (.dM j aB (o+l * inf.size) (h - l) (bif Nat.beq h n && Nat.beq c n then h - l else bif Nat.beq h n then h - l+2 else bif Nat.ble (n+3) c then c - l else h - l+3+(n - h))) hp
  | none=>False
 | .pt cs o=>match T.ty.get t with
  | some ⟨.array len _,_,_,_,_,_,dh⟩=>∃ (l h:Nat) (els:List (List AV)),rS lo 0 l∧rS hi len h∧(l≤h∧h≤len∧o+h * dh≤cs.length)∧1≤dh∧(els.length=h - l∧(∀ el ∈ els,el.length=dh)∧els.flatten=(cs.drop (o+l * dh)).take ((h - l) * dh))∧K (.sl els (Nat.beq h len)) hp
  | _=>False
 | _=>False
theorem zA (h:aV E base hp aA H) {t:TypeId} {x:AV} {u:Value} {lo hi:Option AV} {lo' hi':Option Value} (hx:AR E.ρ H.get (E.O hp) x u) (hlo:G1 E.ρ H.get (E.O hp) lo lo') (hhi:G1 E.ρ H.get (E.O hp) hi hi')
  {K:AV→List AB→Prop} (hw:Bu T t x lo hi hp K):eK base E hp aA H (gP T t u lo' hi') K:=by
 unfold Bu at hw
 split at hw
 ·rename_i s
  obtain ⟨rfl,_⟩:=hx.gm
  obtain ⟨l',h',h1,h2,h3⟩:=hw
  have key:∀ {o:Option AV} {o' o'':Option Value},G1 E.ρ H.get (E.O hp) o o'→o.map AV.iI=o''.map some→o'=o''∧o'.toList.all flat=true:=by
   intro o o' o'' ho he
   cases o with
   | none=>cases o' with
    | none=>cases o'' with
     | none=>exact ⟨rfl,rfl⟩
     | some=>cases he
    | some=>exact ho.elim
   | some a=>cases o' with
    | none=>exact ho.elim
    | some v=>cases o'' with
     | none=>cases he
     | some w =>
      simp only [Option.map_some,Option.some.injEq] at he
      obtain ⟨rfl,hf⟩:=ej he ho
      exact ⟨rfl,by simp [hf]⟩
  obtain ⟨rfl,f1⟩:=key hlo h1
  obtain ⟨rfl,f2⟩:=key hhi h2
  unfold gP
  simp only [f1,f2,Bool.and_self,cond_true]
  exact dG h h3
 ·rename_i els full
  split at hw
  ·rename_i inf hi'
   obtain ⟨l,m,h1,h2,⟨h3,h4⟩,h5,h6,h7⟩:=hw
   have e1:=fe h1 hlo
   cases hx.kZ with
   | nil =>
    have e2:=fe h2 hhi
    simp only [List.length_nil] at h4 e2
    obtain rfl:m=0:=by omega
    obtain rfl:l=0:=by omega
    unfold gP sg
    simp only [hi',e1,e2]
    rw [show Nat.ble 1 inf.size=true from Nat.ble_eq_true_of_le h5]
    exact .pure h (.d .nil) h7
   | sl q1 q2 q3 q4 q5 q6 q7 =>
    rename_i k o n c es cs own e
    rw [q4] at h2 h4 h7
    have e2:=fe h2 hhi
    unfold gP sg
    simp only [hi',e1,e2]
    rw [show Nat.ble 1 inf.size=true from Nat.ble_eq_true_of_le h5,show Nat.ble l m=true from Nat.ble_eq_true_of_le h3,show Nat.ble m n=true from Nat.ble_eq_true_of_le h4]
    simp only [Bool.and_self,cond_true,Option.map_some]
    have hes:els ≠ []→es=inf.size:=by
     intro hne
     cases els with
     | nil=>exact absurd rfl hne
     | cons x l=>rw [←q5 0 x rfl];exact h6 x (by simp)
    by_cases hne:els=[]
    ·subst hne
     simp only [List.length_nil] at q4
     subst q4
     obtain rfl:m=0:=by omega
     obtain rfl:l=0:=by omega
     refine .pure h (a:=_) (.d (.sl (es:=es) q1 q2 ?_ ?_ ?_ ?_ ?_)) h7
     ·simpa using q3
     ·simp
     ·intro i el hel;simp at hel
     ·intro i el j a u hel;simp at hel
     ·intro hf
      simp only [Bool.and_eq_true] at hf
      rw [q7 hf.1];rfl
    ·have hes:=hes hne
     subst hes
     refine .pure h (a:=_) (.d (.sl (es:=inf.size) q1 q2 ?_ ?_ ?_ ?_ ?_)) h7
     ·have:l * inf.size+(m - l) * inf.size≤n * inf.size:=by
       rw [←Nat.add_mul];exact Nat.mul_le_mul_right _ (by omega)
      omega
     ·simp only [List.length_take,List.length_drop];omega
     ·intro i el hel
      rw [List.getElem?_take] at hel
      split at hel
      ·rw [List.getElem?_drop] at hel;exact q5 _ el hel
      ·cases hel
     ·intro i el j a u hel ha hu
      rw [List.getElem?_take] at hel
      split at hel
      ·rw [List.getElem?_drop] at hel
       refine q6 _ el j a u hel ha ?_
       rw [Nat.add_mul]
       rw [show o+(l * inf.size+i * inf.size)+j=o+l * inf.size+i * inf.size+j by omega]
       exact hu
      ·cases hel
     ·intro hf
      simp only [Bool.and_eq_true] at hf
      rw [hf.2,q7 hf.1,Nat.beq_refl];rfl
  ·exact hw.elim
 ·rename_i j aB o n c
  split at hw
  ·rename_i inf hi'
   obtain ⟨l,m,h1,h2,⟨h3,h4⟩,h5,h7⟩:=hw
   have e1:=fe h1 hlo
   have e2:=fe h2 hhi
   rcases hx.gp with ⟨k,hk,rfl⟩|⟨rfl,rfl,rfl⟩
   ·unfold gP sg
    simp only [hi',e1,e2]
    rw [show Nat.ble 1 inf.size=true from Nat.ble_eq_true_of_le h5,show Nat.ble l m=true from Nat.ble_eq_true_of_le h3,show Nat.ble m n=true from Nat.ble_eq_true_of_le h4]
    simp only [Bool.and_self,cond_true,Option.map_some]
    exact .pure h (.dM hk) h7
   ·obtain rfl:m=0:=by omega
    obtain rfl:l=0:=by omega
    unfold gP sg
    simp only [hi',e1,e2]
    rw [show Nat.ble 1 inf.size=true from Nat.ble_eq_true_of_le h5]
    simp only [Nat.zero_mul,Nat.add_zero] at h7
    exact .pure h (.wq (by first|(have:=hx.qZ;revert this;cases Nat.beq c 0 <;> simp)|simp)) h7
  ·exact hw.elim
 ·rename_i cs o
  split at hw
  ·rename_i len el sz by' z ag fl dh hty
   obtain ⟨l,m,els,h1,h2,⟨h3,h4,h5⟩,h6,⟨e1,e2,e3⟩,h7⟩:=hw
   have n1:=fe h1 hlo
   have n2:=fe h2 hhi
   obtain ⟨k,d,cs',own,e,rfl,q1,q2,q3,q4⟩:=hx.dz.dz
   unfold gP qN
   simp only [hty,n1,n2,addr?]
   rw [show Nat.ble 1 dh=true from Nat.ble_eq_true_of_le h6,show Nat.ble l m=true from Nat.ble_eq_true_of_le h3,show Nat.ble m len=true from Nat.ble_eq_true_of_le h4]
   simp only [Bool.and_self,cond_true,Option.map_some]
   have hmul:l * dh+(m - l) * dh=m * dh:=by rw [←Nat.add_mul];congr 1;omega
   refine .pure h (a:=_) (.d (.sl (es:=dh) q1 q2 ?_ ?_ ?_ ?_ ?_)) h7
   ·omega
   ·exact e1
   ·intro i x hx;exact e2 x (List.mem_of_getElem? hx)
   ·intro i x j a u hx ha hu
    have hj:j < dh:=by rw [←e2 x (List.mem_of_getElem? hx)];exact (List.getElem?_eq_some_iff.1 ha).1
    have hat:=gq e2 i x j hx hj
    have hi:i < m - l:=by rw [←e1];exact (List.getElem?_eq_some_iff.1 hx).1
    rw [e3,List.getElem?_take,List.getElem?_drop] at hat
    have hlt:i * dh+j < (m - l) * dh:=by
     have:(i+1) * dh≤(m - l) * dh:=Nat.mul_le_mul_right _ hi
     rw [Nat.add_mul,Nat.one_mul] at this
     omega
    rw [if_pos hlt,ha] at hat
    refine q4 _ a u hat ?_
    rw [show d+(o+l * dh+(i * dh+j))=d+o+l * dh+i * dh+j by omega]
    exact hu
   ·intro hf;rw [hf];rfl
  ·exact hw.elim
 ·exact hw.elim
def xY (T:bM) (t:TypeId) (x:AV) (lo:Option AV) (hi mx:AV) (hp:List AB) (K:AV→List AB→Prop):Prop :=
 match x,elem? T t with
 | .fl (.slice none 0 0),some inf=>rS lo 0 0∧asInt hi=some 0∧asInt mx=some 0∧1≤inf.size∧K (.fl (.slice none 0 0)) hp
 | .sl els _,some inf=>∃ l h:Nat,rS lo 0 l∧asInt hi=some h∧asInt mx=some h∧(l≤h∧h≤els.length)∧1≤inf.size∧(∀ el ∈ els,el.length=inf.size)∧K (.sl ((els.drop l).take (h - l)) true) hp
 | .dM j aB o n _,some inf=>∃ l h:Nat,rS lo 0 l∧asInt hi=some h∧asInt mx=some h∧(l≤h∧h≤n)∧1≤inf.size∧K (.dM j aB (o+l * inf.size) (h - l) (h - l)) hp
 | _,_=>False
theorem xZ (h:aV E base hp aA H) {t:TypeId} {x hi mx:AV} {u hi' mx':Value} {lo:Option AV} {lo':Option Value} (hx:AR E.ρ H.get (E.O hp) x u) (hlo:G1 E.ρ H.get (E.O hp) lo lo') (hhi:AR E.ρ H.get (E.O hp) hi hi') (hmx:AR E.ρ H.get (E.O hp) mx mx')
  {K:AV→List AB→Prop} (hw:xY T t x lo hi mx hp K):eK base E hp aA H ((lF T t u lo' hi' mx').map fun v=>(v,.none)) K:=by
 have nat:∀ {a:AV} {u:Value} {n:Nat},asInt a=some (n:Int)→AR E.ρ H.get (E.O hp) a u→lf u=some n:=fun {a u n} h1 h2=>fe (o:=some a) (o':=some u) (d:=0) h1 h2
 unfold xY at hw
 split at hw
 ·rename_i inf he
  obtain ⟨h1,h2,h3,h5,h7⟩:=hw
  obtain ⟨rfl,_⟩:=hx.gm
  have n1:=fe h1 hlo
  have n2:=nat (n:=0) h2 hhi
  have n3:=nat (n:=0) h3 hmx
  unfold lF
  simp only [he,n1,n2,n3]
  rw [show Nat.ble 1 inf.size=true from Nat.ble_eq_true_of_le h5]
  exact .pure h hx h7
 ·rename_i els full inf he
  obtain ⟨l,m,h1,h2,h3,⟨h4,h5⟩,h6,h8,h7⟩:=hw
  have n1:=fe h1 hlo
  have n2:=nat h2 hhi
  have n3:=nat h3 hmx
  cases hx.kZ with
  | nil =>
   simp only [List.length_nil] at h5
   obtain rfl:m=0:=by omega
   obtain rfl:l=0:=by omega
   unfold lF
   simp only [he,n1,n2,n3]
   rw [show Nat.ble 1 inf.size=true from Nat.ble_eq_true_of_le h6]
   exact .pure h (.d .nil) h7
  | sl q1 q2 q3 q4 q5 q6 q7 =>
   rename_i k o n c es cs own e
   rw [q4] at h5
   unfold lF
   simp only [he,n1,n2,n3]
   rw [show Nat.ble 1 inf.size=true from Nat.ble_eq_true_of_le h6,show Nat.ble l m=true from Nat.ble_eq_true_of_le h4,show Nat.ble m n=true from Nat.ble_eq_true_of_le h5,show Nat.ble m m=true from Nat.ble_eq_true_of_le (Nat.le_refl m),Nat.beq_refl]
   simp only [Bool.and_self,cond_true,Option.map_some]
   by_cases hne:els=[]
   ·subst hne
    simp only [List.length_nil] at q4
    subst q4
    obtain rfl:m=0:=by omega
    obtain rfl:l=0:=by omega
    refine .pure h (a:=_) (.d (.sl (es:=es) q1 q2 ?_ ?_ ?_ ?_ ?_)) h7
    ·simpa using q3
    ·simp
    ·intro i el hel;simp at hel
    ·intro i el j a u hel;simp at hel
    ·intro _;rfl
   ·have hes:es=inf.size:=by
     cases els with
     | nil=>exact absurd rfl hne
     | cons x l=>rw [←q5 0 x rfl];exact h8 x (by simp)
    subst hes
    refine .pure h (a:=_) (.d (.sl (es:=inf.size) q1 q2 ?_ ?_ ?_ ?_ ?_)) h7
    ·have:l * inf.size+(m - l) * inf.size≤n * inf.size:=by
      rw [←Nat.add_mul];exact Nat.mul_le_mul_right _ (by omega)
     omega
    ·simp only [List.length_take,List.length_drop];omega
    ·intro i el hel
     rw [List.getElem?_take] at hel
     split at hel
     ·rw [List.getElem?_drop] at hel;exact q5 _ el hel
     ·cases hel
    ·intro i el j a u hel ha hu
     rw [List.getElem?_take] at hel
     split at hel
     ·rw [List.getElem?_drop] at hel
      refine q6 _ el j a u hel ha ?_
      rw [Nat.add_mul]
      rw [show o+(l * inf.size+i * inf.size)+j=o+l * inf.size+i * inf.size+j by omega]
      exact hu
     ·cases hel
    ·intro _;rfl
 ·rename_i j aB o n c inf he
  obtain ⟨l,m,h1,h2,h3,⟨h4,h5⟩,h6,h7⟩:=hw
  have n1:=fe h1 hlo
  have n2:=nat h2 hhi
  have n3:=nat h3 hmx
  rcases hx.gp with ⟨k,hk,rfl⟩|⟨rfl,rfl,rfl⟩
  ·unfold lF
   simp only [he,n1,n2,n3]
   rw [show Nat.ble 1 inf.size=true from Nat.ble_eq_true_of_le h6,show Nat.ble l m=true from Nat.ble_eq_true_of_le h4,show Nat.ble m n=true from Nat.ble_eq_true_of_le h5,show Nat.ble m m=true from Nat.ble_eq_true_of_le (Nat.le_refl m),Nat.beq_refl]
   simp only [Bool.and_self,cond_true,Option.map_some]
   exact .pure h (.dM hk) h7
  ·obtain rfl:m=0:=by omega
   obtain rfl:l=0:=by omega
   unfold lF
   simp only [he,n1,n2,n3]
   rw [show Nat.ble 1 inf.size=true from Nat.ble_eq_true_of_le h6]
   simp only [Nat.zero_mul,Nat.add_zero] at h7
   exact .pure h (.wq (by first|(have:=hx.qZ;revert this;cases Nat.beq c 0 <;> simp)|simp)) h7
 ·exact hw.elim
def zeroCells (inf:zM):List Value:=(inf.zero.map fun z=>z.cells.toList).getD []
theorem zB {inf:zM} (h:cx inf=true) (n:Nat):(cH (zeroCells inf) (n * inf.size)).all bk=true:=by
 unfold cx at h
 split at h
 ·rename_i z hz
  simp only [Bool.and_eq_true] at h
  obtain ⟨⟨h1,h2⟩,h3⟩:=h
  have h1:=Nat.eq_of_beq_eq_true h1
  have h2:=Nat.le_of_ble_eq_true h2
  unfold cH zeroCells
  rw [hz,List.all_map,List.all_eq_true]
  intro i hi
  simp only [Option.map_some,Option.getD_some,Function.comp]
  rw [List.all_eq_true] at h3
  have hlt:i % z.cells.toList.length < z.cells.toList.length:=Nat.mod_lt _ (by omega)
  rw [List.getD_eq_getElem?_getD,List.getElem?_eq_getElem hlt]
  exact h3 _ (List.getElem_mem hlt)
 ·cases h
def x6 (T:bM) (t:TypeId) (ln cp:AV) (hp:List AB) (K:AV→List AB→Prop):Prop :=
 match elem? T t with
 | some inf=>∃ l c:Nat,asInt ln=some (l:Int)∧asInt cp=some (c:Int)∧(l≤c∧inf.bytes * c≤140737488355328∧c≤9223372036854775807)∧cx inf=true ∧
  K (.dM hp.length 0 0 l (bif Nat.beq l c then l else c+3)) (hp++[.cells ((cH (zeroCells inf) (c * inf.size)).map .fl) inf.size 0])
 | none=>False
theorem Ab {a:AV} {n:Nat} {u:Value} (h:asInt a=some (n:Int)) (ha:AR ρ g O a u):lf u=some n:=fe (o:=some a) (o':=some u) (d:=0) h ha
theorem Bv (h:aV E base hp aA H) {t:TypeId} {ln cp:AV} {u v:Value} (hl:AR E.ρ H.get (E.O hp) ln u) (hc:AR E.ρ H.get (E.O hp) cp v) {K:AV→List AB→Prop} (hw:x6 T t ln cp hp K) :
  eK base E hp aA H (jM T H.n t u v) K:=by
 unfold x6 at hw
 split at hw
 ·rename_i inf hi
  obtain ⟨l,c,h1,h2,⟨h3,h4,h5⟩,h6,h7⟩:=hw
  unfold jM
  simp only [hi,Ab h1 hl,Ab h2 hc]
  rw [show Nat.ble l c=true from Nat.ble_eq_true_of_le h3,show Nat.ble (inf.bytes * c) 140737488355328=true from Nat.ble_eq_true_of_le h4,show Nat.ble c 9223372036854775807=true from Nat.ble_eq_true_of_le h5,h6]
  simp only [Bool.and_self,cond_true]
  exact .new h (x:=.cells ((cH (zeroCells inf) (c * inf.size)).map .fl) inf.size 0) rfl (fun E' H' e=>⟨_,rfl,.Bq (zB h6 c)⟩) (fun E' hr=>.dM hr) h7
 ·exact hw.elim
def tK (T:bM) (t:TypeId) (x:AV) (hp:List AB) (K:AV→List AB→Prop):Prop :=
 match T.ty.get t,x with
 | some ⟨.slice _,_,_,_,_,_,_⟩,.sl els _=>K (.fl (.int .i64 els.length)) hp
 | some ⟨.slice _,_,_,_,_,_,_⟩,.dM _ _ _ n _=>K (.fl (.int .i64 n)) hp
 | some ⟨.slice _,_,_,_,_,_,_⟩,.fl (.slice _ n _)=>K (.fl (.int .i64 n)) hp
 | some ⟨.array n _,_,_,_,_,_,_⟩,_=>K (.fl (.int .i64 n)) hp
 | some ⟨.string,_,_,_,_,_,_⟩,.fl (.string s)=>K (.fl (.int .i64 s.data.toList.length)) hp
 | some ⟨.map ..,_,_,_,_,_,_⟩,.om j=>∃ ents clock,hp[j]?=some (.map ents clock)∧K (.fl (.int .i64 ents.length)) hp
 | _,_=>False
theorem AR.qt {j:Nat} {u:Value} (h:AR ρ g O (.om j) u):∃ k,ρ j 0=some k∧u=.map (some k):=by
 cases h with
 | d h=>cases h
 | om h=>exact ⟨_,h,rfl⟩
theorem aV.map (h:aV E base hp aA H) {j k clock:Nat} {ents:List (AV × AV × Nat)} (hj:hp[j]?=some (.map ents clock)) (hk:E.ρ j 0=some k):∃ es,H.get k=some (.map es clock)∧ents.length=es.length ∧
  ∀ (i:Nat) (k v:AV) (born:Nat) (e:MapEntry),ents[i]?=some (k,v,born)→es[i]?=some e→AR E.ρ H.get (E.O hp) k e.key∧AR E.ρ H.get (E.O hp) v e.val∧e.born=born:=by
 rcases h.iQ j _ 0 hj rfl with ⟨k',b',h1,h2,h3⟩|⟨h1,_,h2⟩
 ·rw [hk] at h1;cases h1
  obtain ⟨es,rfl,h4,h5⟩:=h3
  exact ⟨es,h2,h4,h5⟩
 ·cases h2
theorem Dg (h:aV E base hp aA H) {t:TypeId} {x:AV} {u:Value} (hx:AR E.ρ H.get (E.O hp) x u) {K:AV→List AB→Prop} (hw:tK T t x hp K):eK base E hp aA H (me T t u H.get) K:=by
 have num:∀ (n:Nat),AR E.ρ H.get (E.O hp) (.fl (.int .i64 n)) (.int .i64 n):=fun n=>.d (.fl rfl)
 unfold tK at hw
 unfold me
 split at hw
 ·rename_i e s b z a f es els full hty
  rw [hty]
  cases hx.kZ with
  | nil=>exact .pure h (num 0) hw
  | sl q1 q2 q3 q4 q5 q6 q7=>rw [q4] at hw;exact .pure h (num _) hw
 ·rename_i hty
  rw [hty]
  rcases hx.gp with ⟨k,hk,rfl⟩|⟨rfl,rfl,rfl⟩
  ·exact .pure h (num _) hw
  ·exact .pure h (num 0) hw
 ·rename_i hty
  rw [hty]
  obtain ⟨rfl,_⟩:=hx.gm
  exact .pure h (num _) hw
 ·rename_i hty
  rw [hty]
  exact .pure h (num _) hw
 ·rename_i hty
  rw [hty]
  obtain ⟨rfl,_⟩:=hx.gm
  exact .pure h (num _) hw
 ·rename_i j hty
  rw [hty]
  obtain ⟨ents,clock,h1,h2⟩:=hw
  obtain ⟨k,hk,rfl⟩:=hx.qt
  obtain ⟨es,q1,q2,_⟩:=h.map h1 hk
  simp only [q1,map?]
  rw [←q2]
  exact .pure h (num _) h2
 ·exact hw.elim
def FU (T:bM) (args:List AV) (hp:List AB) (K:AV→List AB→Prop):Prop :=
 match args with
 | [.fl (.int .i64 x),.fl (.int .i64 y)]=>K (.fl (.int .i64 (min x y))) hp
 | l=>∃ vs,EK l=some vs∧k8 (AW T.P vs) hp K
def FV (T:bM) (args:List AV) (hp:List AB) (K:AV→List AB→Prop):Prop :=
 match args with
 | [.fl (.int .i64 x),.fl (.int .i64 y)]=>K (.fl (.int .i64 (max x y))) hp
 | l=>∃ vs,EK l=some vs∧k8 (AX T.P vs) hp K
theorem gk.two {a b:AV} {l:List Value} (h:gk ρ g O [a,b] l):∃ u v,l=[u,v]∧AR ρ g O a u∧AR ρ g O b v:=by
 match l,h with
 | [u,v],h=>exact ⟨u,v,rfl,h.2 0 a u rfl rfl,h.2 1 b v rfl rfl⟩
 | [],h=>exact absurd h.1 (by simp)
 | [_],h=>exact absurd h.1 (by simp)
 | _ :: _ :: _ :: _,h=>exact absurd h.1 (by simp)
theorem Dh (h:aV E base hp aA H) {args:List AV} {us:List Value} (ha:gk E.ρ H.get (E.O hp) args us) {K:AV→List AB→Prop} (hw:FU T args hp K):eK base E hp aA H (AW T.P us) K:=by
 unfold FU at hw
 split at hw
 ·rename_i x y
  obtain ⟨u,v,rfl,h1,h2⟩:=ha.two
  obtain ⟨rfl,_⟩:=h1.gm
  obtain ⟨rfl,_⟩:=h2.gm
  unfold AW
  simp only
  have e:(bif Gy y x then y else x)=min x y:=by
   rw [pW]
   by_cases hxy:y < x
   ·rw [decide_eq_true hxy];simp only [cond_true];omega
   ·rw [decide_eq_false hxy];simp only [cond_false];omega
  rw [e]
  exact .pure h (.d (.fl rfl)) hw
 ·obtain ⟨vs,h1,h2⟩:=hw
  have:=ri h1
  subst this
  rw [ha.gm.1]
  exact dG h h2
theorem Di (h:aV E base hp aA H) {args:List AV} {us:List Value} (ha:gk E.ρ H.get (E.O hp) args us) {K:AV→List AB→Prop} (hw:FV T args hp K):eK base E hp aA H (AX T.P us) K:=by
 unfold FV at hw
 split at hw
 ·rename_i x y
  obtain ⟨u,v,rfl,h1,h2⟩:=ha.two
  obtain ⟨rfl,_⟩:=h1.gm
  obtain ⟨rfl,_⟩:=h2.gm
  unfold AX
  simp only
  have e:(bif Gy x y then y else x)=max x y:=by
   rw [pW]
   by_cases hxy:x < y
   ·rw [decide_eq_true hxy];simp only [cond_true];omega
   ·rw [decide_eq_false hxy];simp only [cond_false];omega
  rw [e]
  exact .pure h (.d (.fl rfl)) hw
 ·obtain ⟨vs,h1,h2⟩:=hw
  have:=ri h1
  subst this
  rw [ha.gm.1]
  exact dG h h2
end
end Go.RM
namespace Go.RM
open Go
section
variable {T : bM} {base : Nat} {E E' : Env} {hp hp' : List AB} {aA : bW} {H H' : Hp} {ρ : Nat → Nat → Option Nat} {g : aE} {O : Nat → Prop}
def uK:List (AV × AV × Nat)→Option (List Value)
 | []=>some []
 | (k,_,_) :: l=>match k.iI,uK l with
  | some v,some vs=>some (v :: vs)
  | _,_=>none
def gH (ρ:Nat→Nat→Option Nat) (g:aE) (O:Nat→Prop) (ents:List (AV × AV × Nat)) (es:List MapEntry):Prop :=
 ents.length=es.length∧∀ (i:Nat) (k v:AV) (born:Nat) (e:MapEntry),ents[i]?=some (k,v,born)→es[i]?=some e→AR ρ g O k e.key∧AR ρ g O v e.val∧e.born=born
theorem gH.keys:∀ {ents:List (AV × AV × Nat)} {es:List MapEntry} {ks:List Value},gH ρ g O ents es→uK ents=some ks→es.map (·.key)=ks
 | [],es,ks,h,hk=>by
  cases hk
  have:=h.1
  rw [List.length_nil] at this
  rw [List.eq_nil_of_length_eq_zero this.symm]
  rfl
 | (k,v,b) :: ents,[],ks,h,hk=>absurd h.1 (by simp)
 | (k,v,b) :: ents,e :: es,ks,h,hk=>by
  unfold uK at hk
  split at hk
  ·rename_i kv vs h1 h2
   cases hk
   have hh:gH ρ g O ents es:=⟨by simpa using h.1,fun i k v b e x y=>h.2 (i+1) k v b e (by simpa using x) (by simpa using y)⟩
   rw [List.map_cons,hh.keys h2,(ej h1 (h.2 0 k v b e rfl rfl).1).1]
  ·cases hk
theorem gH.empty {ents:List (AV × AV × Nat)} {es:List MapEntry} (h:gH ρ g O ents es):es.isEmpty=ents.isEmpty:=by
 have:=h.1
 cases ents <;> cases es <;> simp_all
theorem gH.get {ents:List (AV × AV × Nat)} {es:List MapEntry} (h:gH ρ g O ents es) {i:Nat} {p:AV × AV × Nat} (hi:ents[i]?=some p):∃ e,es[i]?=some e∧AR ρ g O p.1 e.key∧AR ρ g O p.2.1 e.val∧e.born=p.2.2:=by
 have hlt:i < es.length:=by rw [←h.1];exact (List.getElem?_eq_some_iff.1 hi).1
 obtain ⟨k,v,b⟩:=p
 exact ⟨es[i],List.getElem?_eq_getElem hlt,h.2 i k v b _ hi (List.getElem?_eq_getElem hlt)⟩
def Iy (T:bM) (emp:Bool) (kt:TypeId) (kv:Value) (ks:List Value) (r:Option Nat):Prop:=∀ es:List MapEntry,es.map (·.key)=ks→pT T.P emp kt kv es=some r
def x7 (T:bM) (t:TypeId) (m k:AV) (ok:Bool) (hp:List AB) (K:AV→List AB→Prop):Prop :=
 match m with
 | .om j=>∃ ents clock ks kv kt z r,hp[j]?=some (.map ents clock)∧uK ents=some ks∧k.iI=some kv∧l9 T t=some (kt,some z)∧Iy T ents.isEmpty kt kv ks r ∧
  match r with
  | some i=>∃ e,ents[i]?=some e∧K (bif ok then .tp [e.2.1,.fl (.bool true)] else e.2.1) hp
  | none=>flat z=true∧K (bif ok then .tp [tG z,.fl (.bool false)] else tG z) hp
 | _=>False
theorem aV.EN (h:aV E base hp aA H) {j k:Nat} {ents:List (AV × AV × Nat)} {clock:Nat} (hj:hp[j]?=some (.map ents clock)) (hk:E.ρ j 0=some k):∃ es:List MapEntry,H.get k=some (.map es clock)∧gH E.ρ H.get (E.O hp) ents es:=by
 obtain ⟨es,q1,q2,q3⟩:=h.map hj hk
 exact ⟨es,q1,q2,q3⟩
theorem x8 {a b:AV} {u v:Value} (h:AR ρ g O a u) (k:AR ρ g O b v):AR ρ g O (.tp [a,b]) (.tuple #[u,v]) :=
 .tp rfl fun i x y hx hy=>by
  match i with
  | 0=>cases hx;cases hy;exact h
  | 1=>cases hx;cases hy;exact k
  | i+2=>simp at hx
theorem x9 (h:aV E base hp aA H) {t:TypeId} {m k:AV} {ok:Bool} {um uk:Value} (hm:AR E.ρ H.get (E.O hp) m um) (hk:AR E.ρ H.get (E.O hp) k uk) {K:AV→List AB→Prop} (hw:x7 T t m k ok hp K) :
  eK base E hp aA H ((mN T t um uk ok H.get).map fun v=>(v,cG.none)) K:=by
 unfold x7 at hw
 split at hw
 ·rename_i j
  obtain ⟨ents,clock,ks,kv,kt,z,r,h1,h2,h3,h4,h5,h6⟩:=hw
  obtain ⟨q,hq,rfl⟩:=hm.qt
  obtain ⟨es,q1,q2⟩:=h.EN h1 hq
  obtain ⟨rfl,_⟩:=ej h3 hk
  have hf:=h5 es (q2.keys h2)
  rw [←q2.empty] at hf
  have hb:((i6 (.map (some q))).bind fun r=>map? (H.get r))=some (es,clock):=by
   show map? (H.get q)=_
   rw [q1];rfl
  unfold mN
  rw [h4,hb]
  simp only
  unfold AU
  rw [hf]
  cases r with
  | some i =>
   obtain ⟨e,e1,e2⟩:=h6
   obtain ⟨e',f1,_,f3,_⟩:=q2.get e1
   simp only [f1,Option.map_some]
   cases ok with
   | true=>exact .pure h (x8 f3 (.d (.fl rfl))) e2
   | false=>exact .pure h f3 e2
  | none =>
   obtain ⟨hz,e2⟩:=h6
   simp only [hz,cond_true,Option.map_some]
   cases ok with
   | true=>exact .pure h (x8 (mZ hz) (.d (.fl rfl))) e2
   | false=>exact .pure h (mZ hz) e2
 ·exact hw.elim
def iY (T:bM) (t:TypeId) (m k:AV) (hp:List AB) (K:AV→List AB→Prop):Prop :=
 match m with
 | .om j=>∃ ents clock ks kv kt z r,hp[j]?=some (.map ents clock)∧uK ents=some ks∧k.iI=some kv∧l9 T t=some (kt,some z)∧Iy T false kt kv ks r ∧
  match r with
  | some i=>∃ e,ents[i]?=some e∧(∃ ke,e.1.iI=some ke∧Instr.sameBits 10000 ke kv=true)∧K (.tp [e.2.1,.fl (.int .i64 e.2.2)]) (hp.set j (.map (ents.set i (k,e.2.1,e.2.2)) clock))
  | none=>flat z=true∧K (.tp [tG z,.fl (.int .i64 clock)]) (hp.set j (.map (ents++[(k,tG z,clock)]) (clock+1)))
 | _=>False
theorem gH.set {ents:List (AV × AV × Nat)} {es:List MapEntry} (h:gH ρ g O ents es) {i:Nat} {e:MapEntry} (he:es[i]?=some e) {k v:AV} {f:MapEntry→MapEntry} (hk:AR ρ g O k (f e).key) (hv:AR ρ g O v (f e).val):gH ρ g O (ents.set i (k,v,(f e).born)) (es.modify i f):=by
 refine ⟨by rw [List.length_set,List.length_modify];exact h.1,fun a k' v' b e' x y=>?_⟩
 have hi:i < es.length:=(List.getElem?_eq_some_iff.1 he).1
 by_cases ha:i=a
 ·subst ha
  rw [List.getElem?_set_self (by rw [h.1];exact hi)] at x
  rw [List.getElem?_modify_eq,he] at y
  cases x
  cases y
  exact ⟨hk,hv,rfl⟩
 ·rw [List.getElem?_set_ne ha] at x
  rw [List.getElem?_modify_ne _ _ ha] at y
  exact h.2 a k' v' b e' x y
theorem gH.snoc {ents:List (AV × AV × Nat)} {es:List MapEntry} (h:gH ρ g O ents es) {k v:AV} {e:MapEntry} (hk:AR ρ g O k e.key) (hv:AR ρ g O v e.val):gH ρ g O (ents++[(k,v,e.born)]) (es++[e]):=by
 refine ⟨by rw [List.length_append,List.length_append,h.1];rfl,fun a k' v' b e' x y=>?_⟩
 by_cases ha:a < ents.length
 ·rw [List.getElem?_append_left ha] at x
  rw [List.getElem?_append_left (by rw [←h.1];exact ha)] at y
  exact h.2 a k' v' b e' x y
 ·rw [List.getElem?_append_right (by omega)] at x
  rw [List.getElem?_append_right (by rw [←h.1];omega),←h.1] at y
  generalize a - ents.length=c at *
  match c,x,y with
  | 0,x,y=>cases x;cases y;exact ⟨hk,hv,rfl⟩
  | c+1,x,y=>simp at x
theorem uL (h:aV E base hp aA H) {t:TypeId} {m k:AV} {um uk:Value} (hm:AR E.ρ H.get (E.O hp) m um) (hk:AR E.ρ H.get (E.O hp) k uk) {K:AV→List AB→Prop} (hw:iY T t m k hp K) :
  eK base E hp aA H (fB T t um uk H.get) K:=by
 unfold iY at hw
 split at hw
 ·rename_i j
  obtain ⟨ents,clock,ks,kv,kt,z,r,h1,h2,h3,h4,h5,h6⟩:=hw
  obtain ⟨q,hq,rfl⟩:=hm.qt
  obtain ⟨es,q1,q2⟩:=h.EN h1 hq
  obtain ⟨rfl,_⟩:=ej h3 hk
  have hf:=h5 es (q2.keys h2)
  unfold fB
  simp only [h4,i6,q1,map?]
  unfold nD
  rw [hf]
  cases r with
  | some i =>
   obtain ⟨e,e1,⟨ke,e2,e3⟩,e4⟩:=h6
   obtain ⟨e',f1,f2,f3,f4⟩:=q2.get e1
   obtain ⟨rfl,_⟩:=ej e2 f2
   simp only [f1,e3,cond_true]
   have hs:=q2.set (k:=k) (v:=e.2.1) (f:=fun e=>{e with key:=uk}) f1 hk f3
   obtain ⟨p1,p2⟩:=h.put (a:=.map (ents.set i (k,e.2.1,e'.born)) clock) (b:=.map (es.modify i fun e=>{e with key:=uk}) clock) h1 rfl rfl hq ⟨_,rfl,hs.1,hs.2⟩
   rw [f4] at p1 p2
   refine ⟨_,.put q _,E,_,_,rfl,e4,p1,p2,?_⟩
   rw [f4]
   exact x8 (p2.ar h.wf f3) (.d (.fl rfl))
  | none =>
   obtain ⟨hz,e2⟩:=h6
   simp only [hz,cond_true]
   have hs:=q2.snoc (k:=k) (v:=tG z) (e:={key:=uk,val:=z,born:=clock}) hk (mZ hz)
   obtain ⟨p1,p2⟩:=h.put (a:=.map (ents++[(k,tG z,clock)]) (clock+1)) (b:=.map (es++[{key:=uk,val:=z,born:=clock}]) (clock+1)) h1 rfl rfl hq ⟨_,rfl,hs.1,hs.2⟩
   exact ⟨_,.put q _,E,_,_,rfl,e2,p1,p2,x8 (mZ hz) (.d (.fl rfl))⟩
 ·exact hw.elim
def gu (m s v:AV) (hp:List AB) (K:AV→List AB→Prop):Prop :=
 match m with
 | .om j=>∃ ents clock born i e,hp[j]?=some (.map ents clock)∧asInt s=some born∧(ents.map fun p=>((p.2.2:Nat):Int)).findIdx? (· == born)=some i∧ents[i]?=some e∧K .cJ (hp.set j (.map (ents.set i (e.1,v,e.2.2)) clock))
 | _=>False
theorem gH.LY:∀ {ents:List (AV × AV × Nat)} {es:List MapEntry},gH ρ g O ents es→es.map (fun e=>((e.born:Nat):Int))=ents.map fun p=>((p.2.2:Nat):Int)
 | [],es,h=>by
  have:=h.1
  rw [List.length_nil] at this
  rw [List.eq_nil_of_length_eq_zero this.symm]
  rfl
 | (k,v,b) :: ents,[],h=>absurd h.1 (by simp)
 | (k,v,b) :: ents,e :: es,h=>by
  have hh:gH ρ g O ents es:=⟨by simpa using h.1,fun i k v b e x y=>h.2 (i+1) k v b e (by simpa using x) (by simpa using y)⟩
  rw [List.map_cons,List.map_cons,hh.LY,(h.2 0 k v b e rfl rfl).2.2]
theorem sC (h:aV E base hp aA H) {m s v:AV} {um us uv:Value} (hm:AR E.ρ H.get (E.O hp) m um) (hs:AR E.ρ H.get (E.O hp) s us) (hv:AR E.ρ H.get (E.O hp) v uv) {K:AV→List AB→Prop} (hw:gu m s v hp K) :
  eK base E hp aA H ((dQ um us uv H.get).map fun e=>(undef,e)) K:=by
 unfold gu at hw
 split at hw
 ·rename_i j
  obtain ⟨ents,clock,born,i,e,h1,h2,h3,h4,h5⟩:=hw
  obtain ⟨q,hq,rfl⟩:=hm.qt
  obtain ⟨es,q1,q2⟩:=h.EN h1 hq
  have hb:=j5 h2 hs
  unfold dQ
  simp only [i6,hb,q1,map?]
  have hi:es.findIdx? (fun e=>((e.born:Nat):Int) == born)=some i:=by
   rw [←q2.LY,List.findIdx?_map] at h3
   exact h3
  obtain ⟨e',f1,f2,f3,f4⟩:=q2.get h4
  simp only [hi,Option.map_some]
  have hset:=q2.set (k:=e.1) (v:=v) (f:=fun e=>{e with val:=uv}) f1 f2 hv
  obtain ⟨p1,p2⟩:=h.put (a:=.map (ents.set i (e.1,v,e'.born)) clock) (b:=.map (es.modify i fun e=>{e with val:=uv}) clock) h1 rfl rfl hq ⟨_,rfl,hset.1,hset.2⟩
  rw [f4] at p1 p2
  exact ⟨_,.put q _,E,.cJ,_,rfl,h5,p1,p2,.cJ⟩
 ·exact hw.elim
def qu (T:bM) (t:TypeId) (m k v:AV) (hp:List AB) (K:AV→List AB→Prop):Prop :=
 match m with
 | .om j=>∃ ents clock ks kv kt z r,hp[j]?=some (.map ents clock)∧uK ents=some ks∧k.iI=some kv∧l9 T t=some (kt,z)∧Iy T false kt kv ks r ∧
  match r with
  | some i=>∃ e,ents[i]?=some e∧(∃ ke,e.1.iI=some ke∧Instr.sameBits 10000 ke kv=true)∧K .cJ (hp.set j (.map (ents.set i (k,v,e.2.2)) clock))
  | none=>K .cJ (hp.set j (.map (ents++[(k,v,clock)]) (clock+1)))
 | _=>False
theorem tL (h:aV E base hp aA H) {t:TypeId} {m k v:AV} {um uk uv:Value} (hm:AR E.ρ H.get (E.O hp) m um) (hk:AR E.ρ H.get (E.O hp) k uk) (hv:AR E.ρ H.get (E.O hp) v uv) {K:AV→List AB→Prop} (hw:qu T t m k v hp K) :
  eK base E hp aA H ((fm T t um uk uv H.get).map fun e=>(undef,e)) K:=by
 unfold qu at hw
 split at hw
 ·rename_i j
  obtain ⟨ents,clock,ks,kv,kt,z,r,h1,h2,h3,h4,h5,h6⟩:=hw
  obtain ⟨q,hq,rfl⟩:=hm.qt
  obtain ⟨es,q1,q2⟩:=h.EN h1 hq
  obtain ⟨rfl,_⟩:=ej h3 hk
  have hf:=h5 es (q2.keys h2)
  unfold fm
  simp only [h4,i6,q1,map?]
  unfold oa
  rw [hf]
  cases r with
  | some i =>
   obtain ⟨e,e1,⟨ke,e2,e3⟩,e4⟩:=h6
   obtain ⟨e',f1,f2,f3,f4⟩:=q2.get e1
   obtain ⟨rfl,_⟩:=ej e2 f2
   simp only [f1,e3,cond_true,Option.map_some]
   have hs:=q2.set (k:=k) (v:=v) (f:=fun e=>{e with key:=uk,val:=uv}) f1 hk hv
   obtain ⟨p1,p2⟩:=h.put (a:=.map (ents.set i (k,v,e'.born)) clock) (b:=.map (es.modify i fun e=>{e with key:=uk,val:=uv}) clock) h1 rfl rfl hq ⟨_,rfl,hs.1,hs.2⟩
   rw [f4] at p1 p2
   exact ⟨_,.put q _,E,.cJ,_,rfl,e4,p1,p2,.cJ⟩
  | none =>
   simp only [Option.map_some]
   have hs:=q2.snoc (k:=k) (v:=v) (e:={key:=uk,val:=uv,born:=clock}) hk hv
   obtain ⟨p1,p2⟩:=h.put (a:=.map (ents++[(k,v,clock)]) (clock+1)) (b:=.map (es++[{key:=uk,val:=uv,born:=clock}]) (clock+1)) h1 rfl rfl hq ⟨_,rfl,hs.1,hs.2⟩
   exact ⟨_,.put q _,E,.cJ,_,rfl,h6,p1,p2,.cJ⟩
 ·exact hw.elim
def Bw (it:AV) (hp:List AB) (K:AV→List AB→Prop):Prop :=
 match it with
 | .ptr q 0 0=>∃ j since seen stepped ents clock stamp e,hp[q]?=some (.iter j since seen stepped)∧hp[j]?=some (.map ents clock)∧clock=stepped∧seen.getLast?=some stamp∧(ents.find? fun p=>p.2.2 == stamp)=some e∧K (.tp [e.1,e.2.1]) hp
 | _=>False
theorem aV.iter (h:aV E base hp aA H) {q k j since stepped:Nat} {seen:List Nat} (hj:hp[q]?=some (.iter j since seen stepped)) (hk:E.ρ q 0=some k):∃ m,H.get k=some (.iter m since seen stepped)∧E.ρ j 0=some m:=by
 rcases h.iQ q _ 0 hj rfl with ⟨k',b',h1,h2,h3⟩|⟨h1,_,h2⟩
 ·rw [hk] at h1;cases h1
  obtain ⟨m,rfl,h4⟩:=h3
  exact ⟨m,h2,h4⟩
 ·cases h2
theorem gH.find:∀ {ents:List (AV × AV × Nat)} {es:List MapEntry} {stamp:Nat} {p:AV × AV × Nat},gH ρ g O ents es→(ents.find? fun p=>p.2.2 == stamp)=some p→∃ e,es.find? (fun e=>e.born == stamp)=some e∧AR ρ g O p.1 e.key∧AR ρ g O p.2.1 e.val
 | [],es,_,p,h,hf=>by cases hf
 | (k,v,b) :: ents,[],_,p,h,hf=>absurd h.1 (by simp)
 | (k,v,b) :: ents,e :: es,stamp,p,h,hf=>by
  have hh:gH ρ g O ents es:=⟨by simpa using h.1,fun i k v b e x y=>h.2 (i+1) k v b e (by simpa using x) (by simpa using y)⟩
  obtain ⟨e1,e2,e3⟩:=h.2 0 k v b e rfl rfl
  rw [List.find?_cons] at hf ⊢
  dsimp only at hf
  rw [e3]
  cases hb:b == stamp with
  | true =>
   rw [hb] at hf
   cases hf
   exact ⟨e,rfl,e1,e2⟩
  | false =>
   rw [hb] at hf
   exact hh.find hf
theorem zC (h:aV E base hp aA H) {it:AV} {u:Value} (hx:AR E.ρ H.get (E.O hp) it u) {K:AV→List AB→Prop} (hw:Bw it hp K):eK base E hp aA H (uq u H.get) K:=by
 unfold Bw at hw
 split at hw
 ·rename_i q
  obtain ⟨j,since,seen,stepped,ents,clock,stamp,e,h1,h2,h3,h4,h5,h6⟩:=hw
  obtain ⟨k,hk,rfl⟩:=hx.eB
  obtain ⟨m,g1,g2⟩:=h.iter h1 hk
  obtain ⟨es,q1,q2⟩:=h.EN h2 g2
  obtain ⟨e',f1,f2,f3⟩:=q2.find h5
  unfold uq addr?
  simp only [g1,h4,q1,map?,h3,Nat.beq_refl,cond_true,f1,Option.map_some]
  exact .pure h (x8 f2 f3) h6
 ·exact hw.elim
def Bx (it:AV) (hp:List AB) (K:AV→List AB→Prop):Prop :=
 match it with
 | .ptr q 0 0=>∃ j since seen stepped ents clock,hp[q]?=some (.iter j since seen stepped)∧hp[j]?=some (.map ents clock)∧(∀ e ∈ ents,e.2.2 < since∧e.2.2 < stepped) ∧
  (∀ e ∈ ents,e.2.2 ∉ seen→K (.tp [.fl (.bool true),e.1,e.2.1]) (hp.set q (.iter j since (seen++[e.2.2]) clock)))∧((∀ e ∈ ents,e.2.2 ∈ seen)→K (.tp [.fl (.bool false)]) hp)
 | _=>False
theorem gH.mem {ents:List (AV × AV × Nat)} {es:List MapEntry} (h:gH ρ g O ents es) {e:MapEntry} (he:e ∈ es):∃ p ∈ ents,AR ρ g O p.1 e.key∧AR ρ g O p.2.1 e.val∧e.born=p.2.2:=by
 obtain ⟨i,hi,rfl⟩:=List.getElem_of_mem he
 have hlt:i < ents.length:=by rw [h.1];exact hi
 exact ⟨ents[i],List.getElem_mem hlt,h.2 i _ _ _ _ (List.getElem?_eq_getElem hlt) (List.getElem?_eq_getElem hi)⟩
theorem gH.mem' {ents:List (AV × AV × Nat)} {es:List MapEntry} (h:gH ρ g O ents es) {p:AV × AV × Nat} (hp:p ∈ ents):∃ e ∈ es,e.born=p.2.2:=by
 obtain ⟨i,hi,rfl⟩:=List.getElem_of_mem hp
 have hlt:i < es.length:=by rw [←h.1];exact hi
 exact ⟨es[i],List.getElem_mem hlt,(h.2 i _ _ _ _ (List.getElem?_eq_getElem hi) (List.getElem?_eq_getElem hlt)).2.2⟩
theorem zD (h:aV E base hp aA H) {it:AV} {u:Value} (hx:AR E.ρ H.get (E.O hp) it u) {K:AV→List AB→Prop} (hw:Bx it hp K) :
  ∃ L,sL u H.get=some L∧∀ p ∈ L,∃ E' a hp',K a hp'∧aV E' base hp' aA (H.app p.2)∧Ext base E hp H E' hp' (H.app p.2)∧AR E'.ρ (H.app p.2).get (E'.O hp') a p.1:=by
 unfold Bx at hw
 split at hw
 ·rename_i q
  obtain ⟨j,since,seen,stepped,ents,clock,h1,h2,h3,h4,h5⟩:=hw
  obtain ⟨k,hk,rfl⟩:=hx.eB
  obtain ⟨m,g1,g2⟩:=h.iter h1 hk
  obtain ⟨es,q1,q2⟩:=h.EN h2 g2
  have hlow:∀ e ∈ es,e.born < since∧e.born < stepped:=fun e he=>by
   obtain ⟨p,hp,_,_,hb⟩:=q2.mem he
   rw [hb];exact h3 p hp
  have hn:sL (.pointer (some ⟨k,0,none⟩)) H.get=wO k m since seen stepped es clock:=by
   show (match H.get k with|some (.iter m since seen last)=>_|_=>none)=_
   rw [g1]
   show (match map? (H.get m) with|some (es,clock)=>_|none=>none)=_
   rw [q1]
   rfl
  rw [hn]
  unfold wO
  have hc:(!seen.isEmpty && !es.isEmpty && es.all (fun e=>Nat.ble stepped e.born))=false:=by
   cases es with
   | nil=>simp
   | cons e es =>
    have:=(hlow e (by simp)).2
    have hb:Nat.ble stepped e.born=false:=by
     cases hb:Nat.ble stepped e.born with
     | false=>rfl
     | true=>exact absurd (Nat.le_of_ble_eq_true hb) (by omega)
    rw [List.all_cons,hb]
    simp
  rw [hc]
  simp only [cond_false]
  refine ⟨_,rfl,fun p hp=>?_⟩
  rcases List.mem_append.1 hp with hp|hp
  ·cases hemp:((es.filter fun e=>!seen.contains e.born).filter (fun e=>decide (e.born < since))).isEmpty with
   | false=>rw [hemp] at hp;cases hp
   | true =>
    rw [hemp] at hp
    obtain rfl:=List.mem_singleton.1 hp
    rw [List.isEmpty_iff] at hemp
    refine ⟨E,_,_,h5 fun x hx=>?_,h,.refl,.d (.tp rfl fun i a v ha hv=>?_)⟩
    ·obtain ⟨e,he,hb⟩:=q2.mem' hx
     apply Classical.byContradiction
     intro hne
     have:e ∈ (es.filter fun e=>!seen.contains e.born).filter (fun e=>decide (e.born < since)):=by
      rw [List.mem_filter,List.mem_filter]
      refine ⟨⟨he,?_⟩,decide_eq_true (hlow e he).1⟩
      rw [hb]
      simpa using hne
     rw [hemp] at this
     cases this
    ·match i with
     | 0=>cases ha;cases hv;exact .fl rfl
     | i+1=>simp at ha
  ·obtain ⟨e,he,rfl⟩:=List.mem_map.1 hp
   have hes:e ∈ es∧e.born ∉ seen:=by
    rcases List.mem_append.1 he with he|he
    ·rw [List.mem_filter,List.mem_filter] at he
     exact ⟨he.1.1,by simpa using he.1.2⟩
    ·rw [List.mem_filter,List.mem_filter] at he
     exact ⟨he.1.1,by simpa using he.1.2⟩
   obtain ⟨x,hx,f1,f2,f3⟩:=q2.mem hes.1
   have hns:=hes.2
   rw [f3] at hns ⊢
   obtain ⟨p1,p2⟩:=h.put (a:=.iter j since (seen++[x.2.2]) clock) (b:=.iter m since (seen++[x.2.2]) clock) h1 rfl rfl hk ⟨m,rfl,g2⟩
   refine ⟨E,_,_,h4 x hx hns,p1,p2,.tp rfl fun i a v ha hv=>?_⟩
   match i with
   | 0=>cases ha;cases hv;exact .d (.fl rfl)
   | 1=>cases ha;cases hv;exact p2.ar h.wf f1
   | 2=>cases ha;cases hv;exact p2.ar h.wf f2
   | i+3=>simp at ha
 ·exact hw.elim
end
end Go.RM
namespace Go.RM
open Go
section
variable {T : bM} {base : Nat} {E E' : Env} {hp hp' : List AB} {aA : bW} {H H' : Hp} {ρ : Nat → Nat → Option Nat} {g : aE} {O : Nat → Prop}
def Ac (hp:List AB) (size:Nat) (x:AV) (els:List (List AV)):Prop :=
 (∀ el ∈ els,el.length=size) ∧
  match x with
  | .sl els' _=>els=els'
  | .dM j aB o m _=>∃ cs es,hp[j]?=some (.cells cs es aB)∧o+m * size≤cs.length∧els.length=m∧els.flatten=(cs.drop o).take (m * size)
  | .fl (.slice none 0 0)=>els=[]
  | _=>False
theorem Ac.row (h:aV E base hp aA H) {size:Nat} {x:AV} {u:Value} {els:List (List AV)} (he:Ac hp size x els) (hx:AR E.ρ H.get (E.O hp) x u) :
  vZ u=some els.length∧∃ cs,bR H.get size u=some cs∧gk E.ρ H.get (E.O hp) els.flatten cs:=by
 obtain ⟨h1,h2⟩:=he
 split at h2
 ·rename_i els' full
  subst h2
  cases hx.kZ with
  | nil=>exact ⟨rfl,[],rfl,.nil⟩
  | sl q1 q2 q3 q4 q5 q6 q7 =>
   rename_i k o n c es cs own e
   refine ⟨by simp [vZ,q4],?_⟩
   unfold bR
   simp only [q1,cells?]
   by_cases hne:els=[]
   ·subst hne
    simp only [List.length_nil] at q4
    subst q4
    rw [Nat.zero_mul,oN (by omega)]
    exact ⟨_,rfl,by simp;exact .nil⟩
   ·have hes:es=size:=by
     cases els with
     | nil=>exact absurd rfl hne
     | cons x l=>rw [←q5 0 x rfl];exact h1 x (by simp)
    subst hes
    rw [oN q3]
    refine ⟨_,rfl,?_,?_⟩
    ·rw [eJ h1,q4];simp;omega
    ·intro i a u ha hu
     have hlt:i < els.length * es:=by rw [←eJ h1];exact (List.getElem?_eq_some_iff.1 ha).1
     have hes:0 < es:=by
      apply Nat.pos_of_ne_zero
      intro h0;subst h0;omega
     have hi:i=i / es * es+i % es:=by rw [Nat.mul_comm];exact (Nat.div_add_mod i es).symm
     have hq:i / es < els.length:=(Nat.div_lt_iff_lt_mul hes).2 hlt
     have hel:els[i / es]?=some els[i / es]:=List.getElem?_eq_getElem hq
     have hm:i % es < es:=Nat.mod_lt _ hes
     rw [hi,gq h1 _ _ _ hel hm] at ha
     rw [List.getElem?_take] at hu
     split at hu
     ·rw [List.getElem?_drop] at hu
      refine .d (q6 _ _ (i % es) a u hel ha ?_)
      rw [Nat.add_assoc,←hi]
      exact hu
     ·cases hu
 ·rename_i j aB o m c
  obtain ⟨cs,es,h3,h4,h5,h6⟩:=h2
  rcases hx.gp with ⟨k,hk,rfl⟩|⟨rfl,rfl,rfl⟩
  ·obtain ⟨cs',q1,q2⟩:=h.cells h3 hk
   refine ⟨by simp [vZ,h5],?_⟩
   unfold bR
   simp only [q1,cells?]
   rw [oN (by rw [←q2.1];exact h4),h6]
   exact ⟨_,rfl,(q2.drop o).take _⟩
  ·refine ⟨by simp [vZ,h5],[],rfl,?_⟩
   rw [h6]
   simp
   exact .nil
 ·subst h2
  obtain ⟨rfl,_⟩:=hx.gm
  exact ⟨rfl,[],rfl,.nil⟩
 ·exact h2.elim
def qv (T:bM) (own:Bool) (t:TypeId) (s x:AV) (hp:List AB) (K:AV→List AB→Prop):Prop :=
 match elem? T t with
 | some inf=>cx inf=true∧∃ els,Ac hp inf.size x els∧els.flatten.all AV.one=true ∧
  match s with
  | .fl (.slice none 0 0)=>(els.length * inf.bytes≤140737488355328∧els.length≤9223372036854775807)∧(els=[]→K s hp)∧(els ≠ [] →
   match own with
   | true=>K (.dM hp.length 0 0 els.length (els.length+1)) (hp++[.cells els.flatten inf.size 0])
   | false=>bU els.flatten=true∧K (.sl els false) hp)
  | .sl els0 true=>(∀ el ∈ els0,el.length=inf.size)∧((els0.length+els.length) * inf.bytes≤140737488355328∧els0.length+els.length≤9223372036854775807)∧(els=[]→K s hp)∧(els ≠ [] →
   match own with
   | true=>K (.dM hp.length 0 0 (els0.length+els.length) (els0.length+els.length+1)) (hp++[.cells (els0.flatten++els.flatten) inf.size 0])
   | false=>bU els.flatten=true∧K (.sl (els0++els) false) hp)
  | .dM j aB o n c=>(o=0∧∃ cs,hp[j]?=some (.cells cs inf.size aB)∧cs.length=n * inf.size∧(c=n∨c=n+1)∧((n+els.length) * inf.bytes≤140737488355328∧n+els.length≤9223372036854775807)∧(els=[]→K s hp) ∧
   (els ≠ []→K (.dM j (aB+1) 0 (n+els.length) (n+els.length+1)) (hp.set j (.cells (cs++els.flatten) inf.size (aB+1))))) ∨
   (∃ cs es,hp[j]?=some (.cells cs es aB)∧(1≤n+els.length∧n+els.length+3≤c∧o+(n+els.length) * inf.size≤cs.length∧0 < cs.length)∧((n+els.length) * inf.bytes≤140737488355328∧n+els.length≤9223372036854775807)∧(els=[]→K s hp) ∧
   (els ≠ []→K (.dM j aB o (n+els.length) c) (hp.set j (.cells (dy cs els.flatten (o+n * inf.size)) es aB))))
  | _=>False
 | none=>False
theorem oQ (a:Nat):Nat.beq a a=true:=Nat.beq_refl a
theorem Bz {a b:Nat} (h:a ≠ b):Nat.beq a b=false:=by
 rw [Tr.beq_eq];exact decide_eq_false h
theorem uI.append {a b:List AV} {a' b':List Value} (h:uI g O a a') (k:uI g O b b'):uI g O (a++b) (a'++b'):=by
 refine ⟨by simp [h.1,k.1],fun i x u hx hu=>?_⟩
 by_cases hi:i < a.length
 ·rw [List.getElem?_append_left hi] at hx
  rw [List.getElem?_append_left (by rw [←h.1];exact hi)] at hu
  exact h.2 i x u hx hu
 ·rw [List.getElem?_append_right (by omega)] at hx
  rw [List.getElem?_append_right (by rw [←h.1];omega),←h.1] at hu
  exact k.2 _ x u hx hu
theorem DR.ON {els:List (List AV)} {full:Bool} {u:Value} {size:Nat} (hx:DR g O (.sl els full) u) (h1:∀ el ∈ els,el.length=size):∃ cs,bR g size u=some cs∧uI g O els.flatten cs∧vZ u=some els.length:=by
 cases hx with
 | nil=>exact ⟨[],rfl,⟨rfl,fun i a u h=>by cases h⟩,rfl⟩
 | sl q1 q2 q3 q4 q5 q6 q7 =>
  rename_i k o n c es cs own e
  unfold bR
  simp only [q1,cells?]
  by_cases hne:els=[]
  ·subst hne
   simp only [List.length_nil] at q4
   subst q4
   rw [Nat.zero_mul,oN (by omega)]
   exact ⟨_,rfl,⟨by simp,fun i a u h=>by cases h⟩,rfl⟩
  ·have hes:es=size:=by
    cases els with
    | nil=>exact absurd rfl hne
    | cons x l=>rw [←q5 0 x rfl];exact h1 x (by simp)
   subst hes
   rw [oN q3]
   refine ⟨_,rfl,⟨?_,?_⟩,by simp [vZ,q4]⟩
   ·rw [eJ h1,q4];simp;omega
   ·intro i a u ha hu
    have hlt:i < els.length * es:=by rw [←eJ h1];exact (List.getElem?_eq_some_iff.1 ha).1
    have hes:0 < es:=by
     apply Nat.pos_of_ne_zero
     intro h0;subst h0;omega
    have hi:i=i / es * es+i % es:=by rw [Nat.mul_comm];exact (Nat.div_add_mod i es).symm
    have hq:i / es < els.length:=(Nat.div_lt_iff_lt_mul hes).2 hlt
    have hel:els[i / es]?=some els[i / es]:=List.getElem?_eq_getElem hq
    have hm:i % es < es:=Nat.mod_lt _ hes
    rw [hi,gq h1 _ _ _ hel hm] at ha
    rw [List.getElem?_take] at hu
    split at hu
    ·rw [List.getElem?_drop] at hu
     refine q6 _ _ (i % es) a u hel ha ?_
     rw [Nat.add_assoc,←hi]
     exact hu
    ·cases hu
theorem Dj (h:aV E base hp aA H) {own:Bool} {t:TypeId} {s x:AV} {u v:Value} (hs:AR E.ρ H.get (E.O hp) s u) (hx:AR E.ρ H.get (E.O hp) x v) {K:AV→List AB→Prop}
  (hw:qv T own t s x hp K):eK base E hp aA H (ig T H.n t u v H.get) K:=by
 unfold qv at hw
 split at hw
 ·rename_i inf hi
  obtain ⟨hz,els,he,hone,hw⟩:=hw
  obtain ⟨hlen,new,hnew,hna⟩:=he.row h hx
  have hone':=hna.bC hone
  have hel:=he.1
  have main:∀ (n:Nat) (base':Option Addr) (cp:Nat) (old:List Value),u=.slice base' n cp→bR H.get inf.size u=some old→((n+els.length) * inf.bytes≤140737488355328∧n+els.length≤9223372036854775807) →
    ig T H.n t u v H.get=if els=[] then some (u,.none) else iM H.n inf base' n cp els.length old new H.get:=by
   intro n base' cp old hu ho hb
   subst hu
   unfold ig
   simp only [hi,hlen,ho,hnew,hone',hz,Bool.and_true]
   rw [show Nat.ble ((n+els.length) * inf.bytes) 140737488355328=true from Nat.ble_eq_true_of_le hb.1,show Nat.ble (n+els.length) 9223372036854775807=true from Nat.ble_eq_true_of_le hb.2]
   simp only [Bool.and_self,cond_true]
   by_cases hne:els=[]
   ·subst hne;rfl
   ·rw [if_neg hne,Bz (by simpa using hne)];rfl
  split at hw
  ·obtain ⟨hb,h0,h1⟩:=hw
   obtain ⟨rfl,_⟩:=hs.gm
   rw [main 0 none 0 [] rfl rfl (by simpa using hb)]
   by_cases hne:els=[]
   ·rw [if_pos hne];exact .pure h (.d (.fl rfl)) (h0 hne)
   ·rw [if_neg hne]
    have h1:=h1 hne
    unfold iM
    simp only [oQ,cond_true,List.nil_append,Nat.zero_add]
    split at h1
    ·exact .new h (x:=.cells els.flatten inf.size 0) rfl (fun E' H' e=>⟨_,rfl,e.C7 h.wf hna⟩) (fun E' hr=>.dM hr) h1
    ·obtain ⟨hd,h1⟩:=h1
     exact .wG h (fun e hg hO=>.d (.row hg hO hel rfl ((e.C7 h.wf hna).deep hd) (fun hf=>by cases hf))) h1
  ·rename_i els0
   obtain ⟨hel0,hb,h0,h1⟩:=hw
   obtain ⟨old,ho,hod,hol⟩:=hs.kZ.ON hel0
   have hsl:∃ base' ,u=.slice base' els0.length els0.length:=by
    cases hs.kZ with
    | nil=>exact ⟨_,rfl⟩
    | sl q1 q2 q3 q4 q5 q6 q7=>rw [q7 rfl,q4];exact ⟨_,rfl⟩
   obtain ⟨base',hu⟩:=hsl
   rw [main els0.length base' els0.length old hu ho hb]
   by_cases hne:els=[]
   ·rw [if_pos hne];exact .pure h hs (h0 hne)
   ·rw [if_neg hne]
    have h1:=h1 hne
    unfold iM
    simp only [oQ,cond_true]
    split at h1
    ·exact .new h (x:=.cells (els0.flatten++els.flatten) inf.size 0) rfl (fun E' H' e=>⟨_,rfl,e.C7 h.wf (hod.C7.append hna)⟩) (fun E' hr=>.dM hr) h1
    ·obtain ⟨hd,h1⟩:=h1
     refine .wG h (fun e hg hO=>.d (.row hg hO (es:=inf.size) ?_ (by simp) ?_ (fun hf=>by cases hf))) h1
     ·intro el he
      rcases List.mem_append.1 he with he|he
      ·exact hel0 el he
      ·exact hel el he
     ·rw [List.flatten_append]
      exact uI.append ⟨hod.1,fun i a u ha hu=>e.dr h.wf (hod.2 i a u ha hu)⟩ ((e.C7 h.wf hna).deep hd)
  ·rename_i j aB o n c
   rcases hw with ⟨rfl,cs,hj,hcs,hc,hb,h0,h1⟩|⟨cs,es,hj,⟨c1,c2,c3,c4⟩,hb,h0,h1⟩
   ·rcases hs.gp with ⟨k,hk,rfl⟩|⟨_,rfl,rfl⟩
    ·obtain ⟨cs',q1,q2⟩:=h.cells hj hk
     have ho:bR H.get inf.size (.slice (some ⟨k,0,none⟩) n c)=some cs':=by
      unfold bR
      simp only [q1,cells?]
      rw [oN (by rw [←q2.1,hcs];omega)]
      simp only [List.drop_zero]
      rw [List.take_of_length_le (by rw [←q2.1,hcs];omega)]
     rw [main n _ c cs' rfl ho hb]
     by_cases hne:els=[]
     ·rw [if_pos hne];exact .pure h hs (h0 hne)
     ·rw [if_neg hne]
      have h1:=h1 hne
      unfold iM
      have fin:∀ (e:cG) (H1:Hp),(H1=H∨∃ k,E.ρ j aB=some k∧H1=H.put k .dead)→H.app e=H1.push (.cells (cs'++new) true inf.size) →
        eK base E hp aA H (some (.slice (some ⟨H.n,0,none⟩) (n+els.length) (n+els.length+1),e)) K:=by
       intro e H1 hH1 he
       obtain ⟨E',_,r1,r2,r3⟩:=h.renew (a:=.cells (cs++els.flatten) inf.size (aB+1)) (b:=.cells (cs'++new) true inf.size) hj rfl rfl hH1 (fun E' H' _ _ e=>⟨_,rfl,e.C7 h.wf (q2.append hna)⟩)
       refine ⟨_,e,E',_,_,rfl,h1,by rw [he];exact r1,by rw [he];exact r2,.dM r3⟩
      by_cases hcn:c=n
      ·subst hcn
       simp only [oQ,cond_true]
       exact fin _ H (.inl rfl) rfl
      ·have hc':c=n+1:=by omega
       subst hc'
       rw [Bz (by omega),show Nat.ble (n+els.length+3) (n+1)=false from Bool.eq_false_iff.2 (fun h=>by have:=Nat.le_of_ble_eq_true h;omega)]
       simp only [cond_false,q1,cells?,oQ,Bool.true_and,Bool.and_true]
       rw [show Nat.beq cs'.length (n * inf.size)=true by rw [←q2.1,hcs];exact oQ _]
       simp only [cond_true]
       exact fin _ (H.put k .dead) (.inr ⟨k,hk,rfl⟩) rfl
    ·rw [main 0 none 0 [] rfl rfl hb]
     by_cases hne:els=[]
     ·rw [if_pos hne]
      exact .pure h (.wq hs.qZ) (h0 hne)
     ·rw [if_neg hne]
      have h1:=h1 hne
      have hcs0:cs=[]:=List.length_eq_zero_iff.1 (by rw [hcs];simp)
      subst hcs0
      unfold iM
      simp only [oQ,cond_true,List.nil_append]
      obtain ⟨E',_,r1,r2,r3⟩:=h.renew (a:=.cells ([]++els.flatten) inf.size (aB+1)) (b:=.cells new true inf.size) hj rfl rfl (.inl rfl) (fun E' H' _ _ e=>⟨_,rfl,e.C7 h.wf hna⟩)
      exact ⟨_,.new _,E',_,_,rfl,h1,r1,r2,.dM r3⟩
   ·rcases hs.gp with ⟨k,hk,rfl⟩|⟨rfl,rfl,rfl⟩
    ·obtain ⟨cs',q1,q2⟩:=h.cells hj hk
     have hmul:(n+els.length) * inf.size=n * inf.size+els.length * inf.size:=Nat.add_mul _ _ _
     have ho:bR H.get inf.size (.slice (some ⟨k,o,none⟩) n c)=some ((cs'.drop o).take (n * inf.size)):=by
      unfold bR
      simp only [q1,cells?]
      rw [oN (by rw [←q2.1];omega)]
     rw [main n _ c _ rfl ho hb]
     by_cases hne:els=[]
     ·rw [if_pos hne];exact .pure h hs (h0 hne)
     ·rw [if_neg hne]
      have h1:=h1 hne
      unfold iM
      rw [Bz (by omega),show Nat.ble (n+els.length+3) c=true from Nat.ble_eq_true_of_le c2]
      simp only [cond_false,cond_true]
      unfold l8
      simp only [q1,cells?]
      rw [show Nat.ble (o+(n+els.length) * inf.size) cs'.length=true from Nat.ble_eq_true_of_le (by rw [←q2.1];exact c3)]
      simp only [Bool.and_self,cond_true]
      obtain ⟨p1,p2⟩:=h.put (a:=.cells (dy cs els.flatten (o+n * inf.size)) es aB) (b:=.cells (splice cs' new (o+n * inf.size)) true es) hj rfl rfl hk ⟨_,rfl,q2.splice hna _⟩
      exact ⟨_,.put k _,E,_,_,rfl,h1,p1,p2,.dM hk⟩
    ·have:=hs.qZ
     omega
  ·exact hw.elim
 ·exact hw.elim
def BA (T:bM) (t:TypeId) (x:AV) (hp:List AB) (K:AV→List AB→Prop):Prop :=
 match T.ty.get t,x with
 | some ⟨.string,_,_,_,_,_,_⟩,.fl (.string s)=>K (.ptr hp.length 0 0) (hp++[.eF s 0])
 | some ⟨.map ..,_,_,_,_,_,_⟩,.om j=>∃ ents clock,hp[j]?=some (.map ents clock)∧K (.ptr hp.length 0 0) (hp++[.iter j clock [] clock])
 | _,_=>False
theorem zE (h:aV E base hp aA H) {t:TypeId} {x:AV} {u:Value} (hx:AR E.ρ H.get (E.O hp) x u) {K:AV→List AB→Prop} (hw:BA T t x hp K):eK base E hp aA H (uo T H.n t u H.get) K:=by
 unfold BA at hw
 unfold uo
 split at hw
 ·rename_i hty
  rw [hty]
  obtain ⟨rfl,_⟩:=hx.gm
  exact .new h (x:=.eF _ 0) rfl (fun E' H' e=>rfl) (fun E' hr=>.ptr hr) hw
 ·rename_i j hty
  rw [hty]
  obtain ⟨ents,clock,h1,h2⟩:=hw
  obtain ⟨k,hk,rfl⟩:=hx.qt
  obtain ⟨es,q1,q2,_⟩:=h.map h1 hk
  simp only [q1,map?]
  exact .new h (x:=.iter j clock [] clock) rfl (fun E' H' e=>⟨_,rfl,e.C8 _ _ _ hk⟩) (fun E' hr=>.ptr hr) h2
 ·exact hw.elim
def uM (it:AV) (hp:List AB) (K:AV→List AB→Prop):Prop :=
 match it with
 | .ptr j 0 0=>∃ s pos,hp[j]?=some (.eF s pos)∧(pos < s.data.toList.length→K (.tp [.fl (.bool true),.fl (.int .i64 pos),.fl (.int .i32 (Utf8.decode s pos).1)]) (hp.set j (.eF s (pos+(Utf8.decode s pos).2)))) ∧
  (s.data.toList.length≤pos→K (.tp [.fl (.bool false)]) hp)
 | _=>False
theorem aV.eF (h:aV E base hp aA H) {j k pos:Nat} {s:ByteArray} (hj:hp[j]?=some (.eF s pos)) (hk:E.ρ j 0=some k):H.get k=some (.eF s pos):=by
 rcases h.iQ j _ 0 hj rfl with ⟨k',b',h1,h2,h3⟩|⟨h1,_,h2⟩
 ·rw [hk] at h1;cases h1
  cases h3
  exact h2
 ·cases h2
theorem wz (h:aV E base hp aA H) {it:AV} {u:Value} (hx:AR E.ρ H.get (E.O hp) it u) {K:AV→List AB→Prop} (hw:uM it hp K):eK base E hp aA H (mc u H.get) K:=by
 unfold uM at hw
 split at hw
 ·rename_i j
  obtain ⟨s,pos,h1,h2,h3⟩:=hw
  obtain ⟨k,hk,rfl⟩:=hx.eB
  have hg:=h.eF h1 hk
  unfold mc addr?
  simp only [hg]
  by_cases hlt:pos < s.data.toList.length
  ·rw [show Nat.blt pos s.data.toList.length=true from Nat.ble_eq_true_of_le hlt]
   simp only [cond_true]
   obtain ⟨p1,p2⟩:=h.put (a:=.eF s (pos+(Utf8.decode s pos).2)) (b:=.eF s (pos+(Utf8.decode s pos).2)) h1 rfl rfl hk rfl
   refine ⟨_,.put k _,E,_,_,rfl,h2 hlt,p1,p2,.d (.tp rfl fun i x u hx hu=>?_)⟩
   match i with
   | 0=>cases hx;cases hu;exact .fl rfl
   | 1=>cases hx;cases hu;exact .fl rfl
   | 2=>cases hx;cases hu;exact .fl rfl
   | i+3=>simp at hx
  ·have hb:Nat.blt pos s.data.toList.length=false:=by
    cases hb:Nat.blt pos s.data.toList.length with
    | false=>rfl
    | true=>exact absurd (Nat.le_of_ble_eq_true hb) hlt
   rw [hb]
   simp only [cond_false]
   refine .pure h (.d (.tp rfl fun i x u hx hu=>?_)) (h3 (by omega))
   match i with
   | 0=>cases hx;cases hu;exact .fl rfl
   | i+1=>simp at hx
 ·exact hw.elim
def BC (T:bM) (t:TypeId) (x:AV) (hp:List AB) (K:AV→List AB→Prop):Prop :=
 match T.ty.get t,x with
 | some ⟨.map ..,_,_,_,_,_,_⟩,.om j=>∃ ents clock,hp[j]?=some (.map ents clock)∧K (.tp []) (hp.set j (.map [] clock))
 | _,_=>False
theorem zF (h:aV E base hp aA H) {t:TypeId} {x:AV} {u:Value} (hx:AR E.ρ H.get (E.O hp) x u) {K:AV→List AB→Prop} (hw:BC T t x hp K) :
  eK base E hp aA H (pV T t u H.get) K:=by
 unfold BC at hw
 split at hw
 ·rename_i j hty
  obtain ⟨ents,clock,h1,h2⟩:=hw
  obtain ⟨q,hq,rfl⟩:=hx.qt
  obtain ⟨es,q1,q2⟩:=h.EN h1 hq
  unfold pV
  simp only [hty,q1,map?]
  obtain ⟨p1,p2⟩:=h.put (a:=.map [] clock) (b:=.map [] clock) h1 rfl rfl hq ⟨_,rfl,rfl,fun i k v born x hx _=>by cases hx⟩
  exact ⟨_,.put q _,E,.tp [],_,rfl,h2,p1,p2,.d (.tp rfl fun i x u hx _=>by cases hx)⟩
 ·exact hw.elim
def EO (T:bM) (t:TypeId) (d x:AV) (hp:List AB) (K:AV→List AB→Prop):Prop :=
 match elem? T t,d with
 | some inf,.dM j aB o n _=>∃ els cs es,Ac hp inf.size x els∧els.flatten.all AV.one=true∧hp[j]?=some (.cells cs es aB)∧(1≤n∧els.length≤n∧0 < cs.length)∧o+n * inf.size≤cs.length ∧
  K (.fl (.int .i64 (Int.ofNat els.length))) (hp.set j (.cells (dy cs els.flatten o) es aB))
 | _,_=>False
theorem BD (h:aV E base hp aA H) {t:TypeId} {d x:AV} {u v:Value} (hd:AR E.ρ H.get (E.O hp) d u) (hx:AR E.ρ H.get (E.O hp) x v) {K:AV→List AB→Prop} (hw:EO T t d x hp K) :
  eK base E hp aA H (vk T t u v H.get) K:=by
 unfold EO at hw
 split at hw
 ·rename_i inf j aB o n c hi
  obtain ⟨els,cs,es,he,hone,hj,⟨h1,h2,h3⟩,h4,h5⟩:=hw
  obtain ⟨hlen,new,hnew,hna⟩:=he.row h hx
  have hone':=hna.bC hone
  rcases hd.gp with ⟨k,hk,rfl⟩|⟨_,rfl,rfl⟩
  ·obtain ⟨cs',q1,q2⟩:=h.cells hj hk
   unfold vk
   simp only [hi,q1,cells?,hlen,hnew,hone']
   rw [show Nat.ble 1 n=true from Nat.ble_eq_true_of_le h1,show Nat.ble els.length n=true from Nat.ble_eq_true_of_le h2,show Nat.ble (o+n * inf.size) cs'.length=true from Nat.ble_eq_true_of_le (by rw [←q2.1];exact h4)]
   simp only [Bool.and_self,cond_true]
   obtain ⟨p1,p2⟩:=h.put (a:=.cells (dy cs els.flatten o) es aB) (b:=.cells (splice cs' new o) true es) hj rfl rfl hk ⟨_,rfl,q2.splice hna o⟩
   exact ⟨_,.put k _,E,_,_,rfl,h5,p1,p2,.d (.fl rfl)⟩
  ·omega
 ·exact hw.elim
def nS (T:bM) (own:Bool) (b:Builtin) (args:List AV) (tys:List TypeId) (hp:List AB) (K:AV→List AB→Prop):Prop :=
 match b with
 | .len=>match args,tys with
  | [x],[t]=>tK T t x hp K
  | _,_=>False
 | .min=>FU T args hp K
 | .max=>FV T args hp K
 | .clear=>match args,tys with
  | [x],[t]=>BC T t x hp K
  | _,_=>False
 | .copy=>match args,tys with
  | [d,x],[t,_]=>EO T t d x hp K
  | _,_=>False
 | .append=>match args,tys with
  | [s,x],[t,u]=>match T.ty.get u with
   | some ⟨.slice _,_,_,_,_,_,_⟩=>qv T own t s x hp K
   | _=>False
  | _,_=>False
 | _=>False
def force (v:AV) (K:AV→Prop):Prop :=
 match v with
 | .fl x=>K (.fl x)
 | .sl a b=>K (.sl a b)
 | .pt a b=>K (.pt a b)
 | .fn a b c=>K (.fn a b c)
 | .ag a=>K (.ag a)
 | .tp a=>K (.tp a)
 | .ptr a b c=>K (.ptr a b c)
 | .dM a b c d e=>K (.dM a b c d e)
 | .om a=>K (.om a)
 | .oq a=>K (.oq a)
 | .cJ=>K .cJ
theorem eo {v:AV} {K:AV→Prop} (h:force v K):K v:=by cases v <;> exact h
def fL:List AV→(List AV→Prop)→Prop
 | [],K=>K []
 | a :: l,K=>force a fun a=>fL l fun l=>K (a :: l)
theorem ji:∀ {l:List AV} {K:List AV→Prop},fL l K→K l
 | [],_,h=>h
 | a :: l,K,h=>by
  have h1:fL l fun l=>K (a :: l):=eo h
  exact ji (K:=fun l=>K (a :: l)) h1
def mE:List (Nat × AV)→(List (Nat × AV)→Prop)→Prop
 | [],K=>K []
 | (i,a) :: l,K=>force a fun a=>mE l fun l=>K ((i,a) :: l)
theorem uN:∀ {l:List (Nat × AV)} {K:List (Nat × AV)→Prop},mE l K→K l
 | [],_,h=>h
 | (i,a) :: l,K,h=>by
  have h1:mE l fun l=>K ((i,a) :: l):=eo (K:=fun a=>mE l fun l=>K ((i,a) :: l)) h
  exact uN (K:=fun l=>K ((i,a) :: l)) h1
def wpOp (T:bM) (own:Bool) (o:Op) (fr:Nat→AV) (hp:List AB) (K:AV→List AB→Prop):Prop :=
 match o with
 | .move x=>K (bw fr x) hp
 | .assign x=>K (bw fr x) hp
 | .pick c a b=>uJ (bw fr c) (bw fr a) (bw fr b) hp K
 | .alloc t=>tH T t hp K
 | .box _ x=>force (bw fr x) fun v=>z9 own v hp K
 | .build t parts=>mE (parts.toList.map fun p=>(p.1,bw fr p.2)) fun ps=>oP T t ps hp K
 | .buildSlice t len parts=>mE (parts.toList.map fun p=>(p.1,bw fr p.2)) fun ps=>eD T own t len ps hp K
 | .load t a=>gn T t (bw fr a) hp K
 | .store t a x=>force (bw fr x) fun v=>eZ T t (bw fr a) v hp K
 | .fieldAddr t a i=>lN T t (bw fr a) i hp K
 | .indexAddr t a ix=>dm T t (bw fr a) (bw fr ix) hp K
 | .index t a ix=>xU T t (bw fr a) (bw fr ix) hp K
 | .field t a i=>Dd T t (bw fr a) i hp K
 | .binOp o t x y _=>lC T o t x y (bw fr x) (bw fr y) hp K
 | .unOp o _ x=>Kw T o (bw fr x) hp K
 | .convert s d x=>EM T s d (bw fr x) hp K
 | .makeInterface t x=>FT T t (bw fr x) hp K
 | .typeAssert x t d ok=>Dc T t d ok (bw fr x) hp K
 | .extract x i=>lZ (bw fr x) i hp K
 | .makeFunc (.func f) first captured=>fL (first.toList.map (bw fr)) fun a=>fL (captured.toList.map (bw fr)) fun b=>K (.fn f a b) hp
 | .nilCheck x=>tJ (bw fr x) hp K
 | .slice t x lo hi none=>Bu T t (bw fr x) (lo.map (bw fr)) (hi.map (bw fr)) hp K
 | .slice t x lo (some hi) (some m)=>xY T t (bw fr x) (lo.map (bw fr)) (bw fr hi) (bw fr m) hp K
 | .makeSlice t l c=>x6 T t (bw fr l) (bw fr c) hp K
 | .range t x=>BA T t (bw fr x) hp K
 | .next it true=>uM (bw fr it) hp K
 | .makeMap _ none=>K (.om hp.length) (hp++[.map [] 0])
 | .lookup t m k ok=>x7 T t (bw fr m) (bw fr k) ok hp K
 | .mapEntry t m k=>iY T t (bw fr m) (bw fr k) hp K
 | .entryStore _ m s v=>gu (bw fr m) (bw fr s) (bw fr v) hp K
 | .entry it=>Bw (bw fr it) hp K
 | .mapUpdate t m k v=>force (bw fr v) fun v=>qu T t (bw fr m) (bw fr k) v hp K
 | .call ⟨.builtin b,args,tys⟩=>fL (args.toList.map (bw fr)) fun as=>nS T own b as tys.toList hp K
 | _=>False
theorem jA {fr:Nat→AV} {tm:Tr Value} (h:oM ρ g O fr tm) (l:List Operand):gk ρ g O (l.map (bw fr)) (l.map (aX tm)):=by
 induction l with
 | nil=>exact .nil
 | cons x l ih=>exact .cons (iX h x) ih
theorem Ad {fr:Nat→AV} {tm:Tr Value} (h:oM ρ g O fr tm) (l:List (Nat × Operand)):qq ρ g O (l.map fun p=>(p.1,bw fr p.2)) (l.map fun (i,x)=>(i,aX tm x)):=by
 induction l with
 | nil=>trivial
 | cons x l ih=>exact ⟨rfl,iX h _,ih⟩
theorem BE {fr:Nat→AV} {tm:Tr Value} (h:oM ρ g O fr tm) (o:Option Operand):G1 ρ g O (o.map (bw fr)) (o.map (aX tm)):=by
 cases o with
 | none=>trivial
 | some x=>exact iX h x
theorem sD (h:aV E base hp aA H) {own:Bool} {o:Op} {fr:Nat→AV} {tm:Tr Value} (hf:oM E.ρ H.get (E.O hp) fr tm) {K:AV→List AB→Prop} (hw:wpOp T own o fr hp K) :
  eK base E hp aA H (lu T H.n o (aX tm) H.get) K:=by
 have ev:=fun x=>iX hf x
 unfold wpOp at hw
 split at hw
 ·exact .pure h (ev _) hw
 ·exact .pure h (ev _) hw
 ·exact Bt h (ev _) (ev _) (ev _) hw
 ·exact zu h hw
 ·exact Da h (ev _) (eo hw)
 ·exact zy h (Ad hf _) (uN hw)
 ·exact sB h (Ad hf _) (uN hw)
 ·exact Br h (ev _) hw
 ·exact zq h (ev _) (ev _) (eo hw)
 ·exact zw h (ev _) hw
 ·exact tI h (ev _) (ev _) hw
 ·exact xV h (ev _) (ev _) hw
 ·exact xW h (ev _) hw
 ·exact Db h (ev _) (ev _) hw
 ·exact EL h (ev _) hw
 ·exact Bs h (ev _) hw
 ·exact zx h (ev _) hw
 ·exact xT h (ev _) hw
 ·exact wv h (ev _) hw
 ·refine .pure h (.fn ?_ ?_ ?_ ?_) (ji (ji hw))
  ·exact (jA hf _).1
  ·exact (jA hf _).1
  ·exact (jA hf _).2
  ·exact (jA hf _).2
 ·exact De h (ev _) hw
 ·exact zA h (ev _) (BE hf _) (BE hf _) hw
 ·exact xZ h (ev _) (BE hf _) (ev _) (ev _) hw
 ·exact Bv h (ev _) (ev _) hw
 ·exact zE h (ev _) hw
 ·exact wz h (ev _) hw
 ·exact .new h (x:=.map [] 0) rfl (fun E' H' e=>⟨[],rfl,rfl,fun i k v born e x=>by cases x⟩) (fun E' hr=>.om hr) hw
 ·exact x9 h (ev _) (ev _) hw
 ·exact uL h (ev _) (ev _) hw
 ·exact sC h (ev _) (ev _) (ev _) hw
 ·exact zC h (ev _) hw
 ·exact tL h (ev _) (ev _) (ev _) (eo hw)
 ·rename_i b args tys
  have hw:=ji hw
  have hl:=jA hf args.toList
  show eK base E hp aA H (ju T H.n b (args.toList.map (aX tm)) tys.toList H.get) K
  unfold nS at hw
  unfold ju
  split at hw
  ·split at hw
   ·rename_i x t hx ht
    rw [hx] at hl
    match hl':args.toList.map (aX tm),hl with
    | [u],hl=>simp only [ht];exact Dg h (hl.2 0 _ _ rfl rfl) hw
    | [],hl=>exact absurd hl.1 (by simp)
    | _ :: _ :: _,hl=>exact absurd hl.1 (by simp)
   ·exact hw.elim
  ·exact Dh h hl hw
  ·exact Di h hl hw
  ·split at hw
   ·rename_i x t hx ht
    rw [hx] at hl
    match hl':args.toList.map (aX tm),hl with
    | [u],hl=>simp only [ht];exact zF h (hl.2 0 _ _ rfl rfl) hw
    | [],hl=>exact absurd hl.1 (by simp)
    | _ :: _ :: _,hl=>exact absurd hl.1 (by simp)
   ·exact hw.elim
  ·split at hw
   ·rename_i d x t u hx ht
    rw [hx] at hl
    obtain ⟨a,b,hab,h1,h2⟩:=hl.two
    rw [hab,ht]
    simp only
    exact BD h h1 h2 hw
   ·exact hw.elim
  ·split at hw
   ·rename_i s x t u hx ht
    rw [hx] at hl
    obtain ⟨a,b,hab,h1,h2⟩:=hl.two
    rw [hab,ht]
    simp only
    split at hw
    ·rename_i hu
     simp only [hu]
     exact Dj h h1 h2 hw
    ·exact hw.elim
   ·exact hw.elim
  ·exact hw.elim
 ·exact hw.elim
end
end Go.RM
