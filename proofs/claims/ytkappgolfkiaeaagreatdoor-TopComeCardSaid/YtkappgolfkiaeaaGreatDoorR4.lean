/-
  An abstract machine, and that its runs are the model's. Lemmas alone; no condition.
-/
import Derived.Test.YtkappgolfkiaeaaGreatDoorR3
namespace Go.RM
open Go
def cnt (D:Nat→Bool):Nat→Nat
 | 0=>0
 | n+1=>cnt D n+(if D n=true then 0 else 1)
theorem Aw {D D':Nat→Bool} {j:Nat} (hd:D j=false) (hd':D' j=true) (h:∀ m,m ≠ j→D' m=D m):∀ n,j < n→cnt D' n+1=cnt D n:=by
 have hle:∀ n,n≤j→cnt D' n=cnt D n:=by
  intro n
  induction n with
  | zero=>intro _;rfl
  | succ n ih=>intro hn;rw [cnt,cnt,ih (by omega),h n (by omega)]
 intro n
 induction n with
 | zero=>intro h;omega
 | succ n ih =>
  intro hn;rw [cnt,cnt];by_cases hjn:n=j
  ·subst hjn;rw [hle n (qq6 _),hd,hd'];simp
  ·rw [h n hjn];have:=ih (by omega);omega
theorem wg {D:Nat→Bool}:∀ n,cnt D n=0→∀ i,i < n→D i=true:=by
 intro n
 induction n with
 | zero=>intro _ i h;omega
 | succ n ih =>
  intro h i hi;rw [cnt] at h;by_cases hin:i=n
  ·subst hin
   cases hD:D i with
   | true=>rfl
   | false=>rw [hD] at h;simp at h
  ·exact ih (by omega) i (by omega)
theorem Ik {D:Nat→Bool}:∀ n,cnt D n≤n:=by
 intro n
 induction n with
 | zero=>exact qq6 _
 | succ n ih=>rw [cnt];split <;> omega
section
variable {T : bL} {rec : qW → Option (List gL)} {m : Nat} {ops : Array Oper} {es : List Ev} {st0 stF : St} {γ0 : Gm} {w0 : World} {a0 : Act}
abbrev gM (listed:Array Bool) (i:Nat):Bool:=listed.getD i true
theorem mC {listed:Array Bool} {i:Nat}:i ∈ Region.ready .any ops listed ↔ ∃ o,ops[i]?=some o∧gM listed i=false∧∀ e ∈ o.after.toList,Region.binds .any e=true→listed.getD e.on false=true:=by
 unfold Region.ready;simp only [List.mem_filter,List.mem_range,qq7,Bool.not_eq_true'];constructor
 ·rintro ⟨h1,h2,h3⟩;have ho:ops[i]?=some ops[i]:=Array.getElem?_eq_getElem h1;rw [ho] at h3;simp only [Option.map_some,Option.getD_some] at h3;refine ⟨ops[i],ho,h2,fun e he hb=>?_⟩;rw [←Array.all_toList,List.all_eq_true] at h3;have:=h3 e he;simpa [hb] using this
 ·rintro ⟨o,ho,h2,h3⟩;refine ⟨(Array.getElem?_eq_some_iff.1 ho).1,h2,?_⟩;rw [ho];simp only [Option.map_some,Option.getD_some];rw [←Array.all_toList,List.all_eq_true];intro e he
  cases hb:Region.binds .any e with
  | false=>rfl
  | true=>simpa using h3 e he hb
theorem GQ {listed:Array Bool} {i:Nat} (h:listed.getD i false=true):gM listed i=true:=by
 rw [gM,Array.getD_eq_getD_getElem?];rw [Array.getD_eq_getD_getElem?] at h
 cases hi:listed[i]? with
 | none=>rw [hi] at h;cases h
 | some b=>rw [hi] at h;exact h
theorem wh {listed:Array Bool} (hsz:listed.size=ops.size) (hback:∀ (i:Nat) (o:Oper),ops[i]?=some o→∀ e ∈ o.after.toList,Region.binds .any e=true→e.on < i) (h:Region.ready .any ops listed=[]) :
  ∀ i,gM listed i=true:=by
 have key:∀ n i,i < n→gM listed i=true:=by
  intro n
  induction n with
  | zero=>intro i h;omega
  | succ n ih =>
   intro i hi;by_cases hin:i=n
   ·subst hin
    cases hl:gM listed i with
    | true=>rfl
    | false =>
     exfalso;have hlt:i < listed.size:=by apply Nat.lt_of_not_le;intro hle;rw [gM,Array.getD_eq_getD_getElem?,Array.getElem?_eq_none hle] at hl;cases hl
     have ho:ops[i]?=some ops[i]:=Array.getElem?_eq_getElem (hsz ▸ hlt)
     have:i ∈ Region.ready .any ops listed:=mC.2 ⟨_,ho,hl,fun e he hb=>by
      have hlt':=hback i _ ho e he hb;have:=ih e.on hlt';rw [gM,Array.getD_eq_getD_getElem?] at this;rw [Array.getD_eq_getD_getElem?];have hs:listed[e.on]?=some (listed[e.on]'(by omega)):=Array.getElem?_eq_getElem _;rw [hs] at this ⊢
      exact this⟩
     rw [h] at this;cases this
   ·exact ih i (by omega)
 exact fun i=>key (i+1) i (by omega)
theorem lX {b:List Nat} {n c:Nat} (h:ou b n c=true):∀ j i,c≤j→i < j→j < n→ord b i j:=by
 intro j i hc hij hn;unfold ou at h;rw [List.all_eq_true] at h;have h1:=h j (List.mem_range.2 hn);rw [Bool.or_eq_true,List.all_eq_true] at h1
 rcases h1 with h1|h1
 ·have:=Nat.le_of_ble_eq_true h1;omega
 ·exact h1 i (List.mem_range.2 hij)
theorem Cn (ops:Array Oper):fR ops≤ops.size∧∀ j i,fR ops≤j→i < j→j < ops.size→ord (oc ops) i j:=by
 unfold fR;split
 ·cases hf:(List.range ops.toList.length).find? (DM ops.toList (oc ops)) with
  | some c =>have h1:=List.mem_range.1 (List.mem_of_find?_eq_some hf);have h2:=List.find?_some hf;unfold DM at h2;rw [qq7] at h2;have ht:=h2.2;rw [Array.length_toList] at h1 ht;exact ⟨Nat.le_of_lt h1,lX ht⟩
  | none =>simp only [Option.getD_none,Array.length_toList];exact ⟨qq6 _,fun j i h1 _ h2=>by omega⟩
 ·rw [Array.length_toList];exact ⟨qq6 _,fun j i h1 _ h2=>by omega⟩
theorem jW {ops:Array Oper} {listed:Array Bool} {j:Nat} (hsz:listed.size=ops.size) (hlt:j < ops.size) (i:Nat):gM (listed.setIfInBounds j true) i=if i=j then true else gM listed i:=by
 rw [gM,gM,Array.getD_eq_getD_getElem?,Array.getD_eq_getD_getElem?,Array.getElem?_setIfInBounds];by_cases hij:i=j
 ·subst hij;simp [hsz,hlt]
 ·rw [if_neg (Ne.symm hij),if_neg hij]
theorem Ay {ops:Array Oper} {listed:Array Bool} {j:Nat} {o:Oper} (hsz:listed.size=ops.size) (hlt:j < ops.size) (ho:ops[j]?=some o) (h3:∀ e ∈ o.after.toList,Region.binds .any e=true→listed.getD e.on false=true) (hcl:Cl ops.toList (gM listed)):Cl ops.toList (gM (listed.setIfInBounds j true)):=by
 intro i o' ho' hD e he hb
 have key:gM listed e.on=true:=by
  by_cases hij:i=j
  ·subst hij;rw [Array.getElem?_toList,ho] at ho';cases ho';exact GQ (h3 e he hb)
  ·rw [jW hsz hlt,if_neg hij] at hD;exact hcl i o' ho' hD e he hb
 rw [jW hsz hlt];split
 ·rfl
 ·exact key
theorem D9 (hT:cE T) (hK:bE rec) (hS:cO T rec m) {ops:Array Oper} {c:Nat} (htail:∀ j i,c≤j→i < j→j < ops.size→ord (oc ops) i j) {γ0:Gm} {H0:Hp} {w0:World} {sz:Nat} {rd:Option Nat} {N0 N:Nat} {Lb:List (Exit × St)} (hok:ops.toList.all (gn sz)=true)
  (hback:∀ (i:Nat) (o:Oper),ops[i]?=some o→∀ e ∈ o.after.toList,Region.binds .any e=true→e.on < i) :
  ∀ (l:List Oper) (k:Nat),ops.toList.drop k=l→c≤k→∀ (st:St) (L:List St),bU T rec ops.toList l st=some L→∀ γ a w,Pre γ st a w rd N0→a.tmps.size=sz→Step γ0 H0 w0 γ st.hp w→fy γ st.hp.n N→(∀ s ∈ L,s.hp.n≤N)→(∀ s ∈ L,(Exit.normal,s) ∈ Lb) →
   ∀ (fuel:Nat) (listed:Array Bool),listed.size=ops.size→(∀ i,i < ops.size→(gM listed i=true ↔ i < k))→Cl ops.toList (gM listed)→cnt (gM listed) ops.size≤fuel→wpAnyIn (FW rd) 0 T.P .any ops (jF γ0 H0 w0 sz rd N0 Lb) fuel listed a w:=by
 intro l
 induction l with
 | nil =>
  intro k hdk hck st L h γ a w hp hsz hs hf hN hb fuel listed hls hiff hcl hcnt;rw [k9] at h;cases h;have hk:ops.size≤k:=by have:=congrArg List.length hdk;rw [List.length_drop,Array.length_toList] at this;simp at this;omega
  have hq:jF γ0 H0 w0 sz rd N0 Lb .normal a w:=⟨_,hb st (by simp),γ,rfl,hp,hsz,hs⟩
  have hr:Region.ready .any ops listed=[]:=by
   cases hl:Region.ready .any ops listed with
   | nil=>rfl
   | cons i l =>
    have hi:i ∈ Region.ready .any ops listed:=by rw [hl];simp
    obtain ⟨o,ho,h2,_⟩:=mC.1 hi;have hlt:=(Array.getElem?_eq_some_iff.1 ho).1;rw [(hiff i hlt).2 (by omega)] at h2;cases h2
  cases fuel with
  | zero=>exact ⟨hr,hq⟩
  | succ fuel=>exact ⟨fun _=>hq,fun j hj=>by rw [hr] at hj;cases hj⟩
 | cons o l ih =>
  intro k hdk hck st L h γ a w hp hsz hs hf hN hb fuel listed hls hiff hcl hcnt;have hk:k < ops.size:=by have:=congrArg List.length hdk;rw [List.length_drop,Array.length_toList] at this;simp at this;omega
  have hok0:ops[k]?=some o:=by have:=congrArg (·[0]?) hdk;simp only [List.getElem?_drop,Nat.add_zero] at this;rw [←Array.getElem?_toList,this];rfl
  have hdl:ops.toList.drop (k+1)=l:=by rw [←List.drop_drop,hdk];rfl
  have hkn:gM listed k=false:=by
   cases hx:gM listed k with
   | false=>rfl
   | true=>exact absurd ((hiff k hk).1 hx) (Nat.lt_irrefl _)
  have hoo:gn sz o=true:=List.all_eq_true.1 hok o (by
   have:ops.toList[k]?=some o:=by rw [Array.getElem?_toList];exact hok0
   exact List.mem_of_getElem? this)
  cases fuel with
  | zero =>exfalso;have:=wg _ (Nat.le_zero.1 hcnt) k hk;rw [hkn] at this;cases this
  | succ fuel =>
   refine ⟨fun hr=>?_,fun j hj=>?_⟩
   ·have:=wh hls hback hr k;rw [hkn] at this;cases this
   obtain ⟨o',ho',h2,h3⟩:=mC.1 hj;have hjlt:j < ops.size:=(Array.getElem?_eq_some_iff.1 ho').1
   have hjk:j=k:=by
    have h4:¬ j < k:=fun hlt=>by rw [(hiff j hjlt).2 hlt] at h2;cases h2
    by_cases hgt:k < j
    ·exfalso;have hcl':=Ay hls hjlt ho' h3 hcl;have:=gp hcl' (htail j k (by omega) hgt hjlt) (by rw [jW hls hjlt,if_pos rfl]);rw [jW hls hjlt,if_neg (by omega),hkn] at this;cases this
    ·omega
   subst hjk;have hcl':=Ay hls hjlt ho' h3 hcl;rw [hok0] at ho';cases ho'
   have hnext:∀ i,i < ops.size→(gM (listed.setIfInBounds j true) i=true ↔ i < j+1):=by
    intro i hi;rw [jW hls hjlt];by_cases hij:i=j
    ·subst hij;simp
    ·rw [if_neg hij,hiff i hi];omega
   have hcnt':cnt (gM (listed.setIfInBounds j true)) ops.size≤fuel:=by have:=Aw (D':=gM (listed.setIfInBounds j true)) h2 (by rw [jW hls hjlt,if_pos rfl]) (fun i hi=>by rw [jW hls hjlt,if_neg hi]) ops.size hjlt;omega
   have go:∀ (st':St) (M:List St),bU T rec ops.toList l st'=some M→∀ γ' a' w',Pre γ' st' a' w' rd N0→a'.tmps.size=sz→Step γ0 H0 w0 γ' st'.hp w'→fy γ' st'.hp.n N→(∀ s ∈ M,s ∈ L) →
     wpAnyIn (FW rd) 0 T.P .any ops (jF γ0 H0 w0 sz rd N0 Lb) fuel (listed.setIfInBounds j true) a' w':=fun st' M e γ' a' w' p1 p2 p3 p4 p5 =>
    ih (j+1) hdl (by omega) st' M e γ' a' w' p1 p2 p3 p4 (fun s hs=>hN s (p5 s hs)) (fun s hs=>hb s (p5 s hs)) fuel _ (by simp [hls]) hnext hcl' hcnt'
   rw [eJ] at h;have hdst:∀ d,o.dst=some d→d < a.tmps.size:=by rw [hsz];exact nj hoo
   unfold wpOpIn;rw [hok0];simp only;rw [Ie hp.fr]
   cases hg:bX ops.toList st.fr o.guard with
   | false =>rw [hg] at h;simp only [cond_false] at h;refine ⟨fun _ _=>trivial,?_⟩;exact go _ L h γ _ w (hp.put (VR.undef γ) (Step.refl hp.hr) hdst (.refl _)) ((gO _ _ _).trans hsz) hs hf (fun s hs=>hs)
   | true =>
    rw [hg] at h;simp only [cond_true] at h;simp only [if_true]
    cases ha:gk T rec o.op st with
    | none=>rw [ha] at h;cases h
    | some A =>
     rw [ha] at h;simp only at h;have hsub:∀ p ∈ A,∃ M,bU T rec ops.toList l ⟨fC st.fr o.dst p.1,p.2,st.rd⟩=some M∧∀ s ∈ M,s ∈ L:=fun p hpm=>cN h p hpm;have hle:∀ p ∈ A,p.2.n≤N:=fun p hpm=>by obtain ⟨M,h1,h2⟩:=hsub p hpm;exact Good.le (fF hK _ _ _ _ h1).1 (fun s hsm=>hN s (h2 s hsm))
     have hops:o.op.operands.toList.all ux=true:=by have:=hoo;simp only [gn,qq7] at this;exact this.1
     refine uC hT hS ha hp.fr hp.wf hp.hr hops hf hle fun v hp' v' γ' w' hm hv hst=>?_;obtain ⟨M,h1,h2⟩:=hsub _ hm;exact go _ M h1 γ' _ w' (hp.put hv hst hdst ((qE hK ha).2 _ hm)) ((gO _ _ _).trans hsz) (hs.trans hst) (hst.fresh hf) h2
theorem tA (C:Ctx T rec m ops es st0 stF) {rd:Option Nat} {Q:Exit→Act→World→Prop} (hok:∀ (j:Nat) (ev:Ev),es[j]?=some ev→gn a0.tmps.size ev.o=true)
  (hback:∀ (i:Nat) (o:Oper),ops[i]?=some o→∀ e ∈ o.after.toList,Region.binds .any e=true→e.on < i)
  (_hlen:es.length≤ops.size) (htail:∀ j i,es.length≤j→i < es.length→j < ops.size→ord (oc ops) i j)
  (hQ:∀ fuel listed γ a w,listed.size=ops.size→cnt (gM listed) ops.size≤fuel→Cl ops.toList (gM listed)→(∀ i,i < ops.size→(gM listed i=true ↔ i < es.length))→Inv es st0 stF γ0 w0 a0 (gM listed) γ a w→wpAnyIn (FW rd) 0 T.P .any ops Q fuel listed a w) :
  ∀ (fuel:Nat) (listed:Array Bool) (γ:Gm) (a:Act) (w:World),listed.size=ops.size→cnt (gM listed) ops.size≤fuel→Cl ops.toList (gM listed)→(∀ i,es.length≤i→i < ops.size→gM listed i=false)→Inv es st0 stF γ0 w0 a0 (gM listed) γ a w→(∀ (j:Nat) (ev:Ev),es[j]?=some ev→gM listed j=false→RE T rec ops j ev) →
   wpAnyIn (FW rd) 0 T.P .any ops Q fuel listed a w:=by
 intro fuel
 induction fuel with
 | zero =>intro listed γ a w hsz hc hcl hun I _;refine hQ 0 listed γ a w hsz hc hcl (fun i hi=>⟨fun h=>?_,fun _=>wg _ (Nat.le_zero.1 hc) i hi⟩) I;apply Nat.lt_of_not_le;intro hle;rw [hun i hle hi] at h;cases h
 | succ fuel ih =>
  intro listed γ a w hsz hc hcl hun I hdet;by_cases hall:∀ i,i < es.length→gM listed i=true
  ·refine hQ _ listed γ a w hsz hc hcl (fun i hi=>⟨fun h=>?_,hall i⟩) I;apply Nat.lt_of_not_le;intro hle;rw [hun i hle hi] at h;cases h
  obtain ⟨i0,hi0,hu0⟩:∃ i0,i0 < es.length∧gM listed i0=false:=by
   apply Classical.byContradiction;intro hno;refine hall fun i hi=>?_
   cases hx:gM listed i with
   | true=>rfl
   | false=>exact absurd ⟨i,hi,hx⟩ hno
  refine ⟨fun hr=>?_,fun j hj=>?_⟩
  ·have:=wh hsz hback hr i0;rw [hu0] at this;cases this
  obtain ⟨o,ho,h2,h3⟩:=mC.1 hj;have hlt:j < ops.size:=(Array.getElem?_eq_some_iff.1 ho).1;have hset:=fun i=>jW (listed:=listed) hsz hlt i;have hj':gM (listed.setIfInBounds j true) j=true:=by rw [hset,if_pos rfl]
  have hm:∀ i,i ≠ j→gM (listed.setIfInBounds j true) i=gM listed i:=fun i hi=>by rw [hset,if_neg hi]
  have hcl':=Ay hsz hlt ho h3 hcl;have hje:j < es.length:=by apply Nat.lt_of_not_le;intro hle;have:=gp hcl' (htail j i0 hle hi0 hlt) hj';rw [hm i0 (by omega),hu0] at this;cases this
  have hev:es[j]?=some es[j]:=List.getElem?_eq_getElem hje;refine we C ⟨hev,h2,hj',hm,hcl,hcl'⟩ (hdet j _ hev h2) I (by rw [I.sz];exact hok j _ hev) fun γ' a' w' I'=>?_;refine ih _ γ' a' w' (by simp [hsz]) ?_ hcl' (fun i h1 h4=>by rw [hm i (by omega)];exact hun i h1 h4) I' (fun j' ev' q1 q2=>hdet j' ev' q1 (by by_cases hjj:j'=j;rw [hjj,hj'] at q2;cases q2;rw [hm j' hjj] at q2;exact q2));have:=Aw h2 hj' hm ops.size hlt;omega
theorem wj {s t:Tc} (hs:s.wr.isEmpty=true) (ht:t.wr.isEmpty=true) (hs':s.a=s.b) (ht':t.a=t.b):conflict s t=false:=by have e1:s.wr=[]:=List.isEmpty_iff.1 hs;have e2:t.wr=[]:=List.isEmpty_iff.1 ht;simp [conflict,e1,e2,hs',ht',meets,within]
theorem qk {b:List Nat}:∀ (l:List Ev),(∀ e ∈ l,e.t.wr.isEmpty=true∧e.t.a=e.t.b)→ez T b l=true
 | [],_=>rfl
 | t :: l,h=>by refine lB ⟨fun s hs=>?_,qk l fun e he=>h e (List.mem_cons_of_mem _ he)⟩;have h1:=h s (List.mem_cons_of_mem _ hs);have h2:=h t List.mem_cons_self;rw [wj h1.1 h2.1 h1.2 h2.2];rfl
theorem iL {ops:Array Oper} {acc:List Ev} (h:dX T ops acc=true):ez T (oc ops) acc=true:=by
 unfold dX at h
 cases hq:(acc.all fun e=>e.t.wr.isEmpty && Nat.beq e.t.a e.t.b) with
 | true =>refine qk _ fun e he=>?_;have:=List.all_eq_true.1 hq e he;simp only [qq7] at this;exact ⟨this.1,Nat.eq_of_beq_eq_true this.2⟩
 | false=>rw [hq] at h;exact h
theorem Az (hT:cE T) (hK:bE rec) (hS:cO T rec m) {ops:Array Oper} {es:List Ev} {st stF:St} (hch:dG T rec ops es 0 st stF) (hwf0:Wf st.hp) (hos:es.map (·.o)=ops.toList.take es.length) (hdr:ez T (oc ops) es.reverse=true)
  (hsep:∀ i j x y,i < j→ops.toList[i]?=some x→ops.toList[j]?=some y→x.apart ops y=true∨ord (oc ops) i j):Ctx T rec m ops es st stF:=by
 have hidx:∀ (i:Nat) (ev:Ev),es[i]?=some ev→ev.t.idx=i:=fun i ev h=>by have:=dG.get hK hch hwf0 i ev h;rw [Nat.zero_add] at this;exact (this.1.facts hK this.2.1).1
 refine ⟨hT,hK,hS,hch,hwf0,hos,hsep,?_⟩;have rget:∀ (i:Nat) (ev:Ev),es[i]?=some ev→es.reverse[es.length - 1 - i]?=some ev:=fun i ev h=>by have hli:i < es.length:=(List.getElem?_eq_some_iff.1 h).1;rw [List.getElem?_reverse (by omega)];rw [show es.length - 1 - (es.length - 1 - i)=i by omega,h]
 refine (Ch hdr).imp (fun h i j ev ev' hij hi hj hcf=>?_) (fun h i j ev ev' hij hi hj hcf=>?_)
 all_goals
  have hlj:j < es.length:=(List.getElem?_eq_some_iff.1 hj).1;have:=h (es.length - 1 - j) (es.length - 1 - i) ev' ev (by omega) (rget j ev' hj) (rget i ev hi) hcf;rw [hidx i ev hi,hidx j ev' hj] at this;exact this
theorem dG.snoc {ops:Array Oper} {ev:Ev}:∀ {es:List Ev} {i:Nat} {st st':St},dG T rec ops es i st st'→ev.st=st'→qI T rec ops (i+es.length) ev→dG T rec ops (es++[ev]) i st ev.after
 | [],i,st,st',h,h1,h2=>by have:st'=st:=h;exact ⟨h1.trans this,h2,rfl⟩
 | e :: es,i,st,st',h,h1,h2=>by obtain ⟨q1,q2,q3⟩:=h;exact ⟨q1,q2,dG.snoc q3 h1 (by rw [List.length_cons,show i+(es.length+1)=i+1+es.length by omega] at h2;exact h2)⟩
theorem wk {β:Type} {f:Ev→β→β} {ev:Ev} {D:Nat→Bool}:∀ (es:List Ev) (i:Nat) (x:β),D (i+es.length)=false→iJ f (es++[ev]) D i x=iJ f es D i x
 | [],i,x,h=>by have h:D i=false:=h;show iJ f [ev] D i x=iJ f [] D i x;simp only [iJ,h,Bool.false_eq_true,if_false]
 | e :: es,i,x,h=>by rw [List.length_cons,show i+(es.length+1)=i+1+es.length by omega] at h;have:=fun x=>wk (f:=f) (ev:=ev) (D:=D) es (i+1) x h;rw [List.cons_append];simp only [iJ,this]
abbrev yq (o:Oper) (st:St) (p:Value × Hp × Tc):Ev:=⟨o,st,p.1,p.2.1,p.2.2⟩
noncomputable abbrev MI (o:Oper) (st:St) (p:Value × Hp × Tc):St:=⟨fC st.fr o.dst p.1,p.2.1,st.rd⟩
open Classical in
theorem PK (hK:bE rec) {ops:Array Oper} {o:Oper} {c:Nat} {st:St} {P:List (Value × Hp × Tc)} (hP:kC T rec ops o c st=some P) {p:Value × Hp × Tc} (hp:p ∈ P):qI T rec ops c (yq o st p):=by
 unfold kC at hP
 cases hg:bX ops.toList st.fr o.guard with
 | false =>rw [hg] at hP;simp only [cond_false,qq9] at hP;subst hP;obtain rfl:=List.mem_singleton.1 hp;exact .inl ⟨hg,rfl,rfl,rfl⟩
 | true =>
 rw [hg] at hP;simp only [cond_true] at hP;refine .inr ⟨hg,?_⟩;unfold eZ at hP;split at hP
 ·rename_i f as hk;split at hP
  ·rename_i g hgo;split at hP
   ·rename_i R hR;obtain ⟨r,hr,Pr,h1,h2⟩:=jd hP p hp;obtain ⟨v,hp',rfl,rfl⟩:=ij h1;obtain rfl:=List.mem_singleton.1 h2;refine ⟨fun j=>if j=jB {st.hp with lo:=st.hp.n} g then some [.ret v hp'] else none,fun j L hj=>?_,?_⟩
    ·dsimp only at hj;split at hj
     ·rename_i e;cases hj;subst e;exact ⟨by simp,fun b hb=>by rw [List.mem_singleton.1 hb];exact (hK _ _ hR).2 _ hr⟩
     ·cases hj
    ·show bu T _ o.op c st=_;unfold bu;simp only [hk,hgo,if_pos]
   ·cases hP
  ·cases hP
 ·cases hP
theorem y6 {o:Oper} {c:Nat} {st:St} {P:List (Value × Hp × Tc)} (hP:eZ T rec o.op c st=some P) {p:Value × Hp × Tc} (hp:p ∈ P):∃ wr,p.2.2=⟨c,[],wr,true,st.hp.n,p.2.1.n⟩∧∀ k ∈ wr,k < st.hp.n:=by
 unfold eZ at hP;split at hP
 ·split at hP
  ·split at hP
   ·obtain ⟨r,hr,Pr,h1,h2⟩:=jd hP p hp;obtain ⟨v,hp',rfl,rfl⟩:=ij h1;obtain rfl:=List.mem_singleton.1 h2;exact ⟨_,rfl,fun k hk=>(DW hk).2⟩
   ·cases hP
  ·cases hP
 ·cases hP
theorem PL {ops:Array Oper} {o:Oper} {c:Nat} {st:St} {P:List (Value × Hp × Tc)} (hP:kC T rec ops o c st=some P) {p:Value × Hp × Tc} (hp:p ∈ P):p.2.2.a=st.hp.n∧p.2.2.b=p.2.1.n:=by
 unfold kC at hP
 cases hg:bX ops.toList st.fr o.guard with
 | false =>rw [hg] at hP;simp only [cond_false,qq9] at hP;subst hP;obtain rfl:=List.mem_singleton.1 hp;exact ⟨rfl,rfl⟩
 | true =>rw [hg] at hP;obtain ⟨_,this,_⟩:=y6 hP hp;rw [this];exact ⟨rfl,rfl⟩
theorem Inv.ext {es:List Ev} {st0 st stF:St} {ev:Ev} {D:Nat→Bool} {γ0 γ:Gm} {w0 w:World} {a0 a:Act} {N:Nat} (I:Inv es st0 st γ0 w0 a0 D γ a w) (hD:D es.length=false) (hst:st0.hp.n≤st.hp.n) (hle:st.hp.n≤stF.hp.n) (hN:stF.hp.n≤N) (ha:ev.t.a=st.hp.n) (hb:ev.t.b=stF.hp.n) (hf:fy γ0 st0.hp.n N) :
  Inv (es++[ev]) st0 stF γ0 w0 a0 D γ a w:=by
 have hg:gD (es++[ev]) st0 D=gD es st0 D:=funext fun k=>wk es 0 _ (by rw [Nat.zero_add];exact hD);have hF:fD (es++[ev]) st0 D=fD es st0 D:=funext fun k=>wk es 0 _ (by rw [Nat.zero_add];exact hD);refine ⟨I.le,fun k hk=>I.out k (by omega),fun j e hj hd k h1 h2=>?_,by rw [hg];exact I.hr,by rw [hg];exact I.iB,fun t=>by rw [hF];exact I.tm t,I.sz,I.df⟩;by_cases hlt:j < es.length
 ·rw [List.getElem?_append_left hlt] at hj;exact I.fresh j e hj hd k h1 h2
 ·rw [List.getElem?_append_right (by omega)] at hj;have:j - es.length=0:=by apply Classical.byContradiction;intro hne;rw [List.getElem?_eq_none (by simp;omega)] at hj;cases hj
  rw [this] at hj;cases hj;rw [I.out k (by omega)];exact hf k (by omega) (by omega)
theorem MJ {ops:Array Oper} {es:List Ev} {st0 st:St} {o:Oper} {P:List (Value × Hp × Tc)} {γ0 γ:Gm} {w0 w:World} {a0 a:Act} {D D':Nat→Bool} {N:Nat} (hP:kC T rec ops o es.length st=some P) (hne:P ≠ [])
  (hC:∀ p ∈ P,Ctx T rec m ops (es++[yq o st p]) st0 (MI o st p)) (n:∀ p ∈ P,BL ops (es++[yq o st p]) D D' es.length (yq o st p)) (hst:st0.hp.n≤st.hp.n) (hle:∀ p ∈ P,st.hp.n≤p.2.1.n) (hN:∀ p ∈ P,p.2.1.n≤N) (hf:fy γ0 st0.hp.n N)
  (I:Inv es st0 st γ0 w0 a0 D γ a w) (hok:gn a.tmps.size o=true) {rd:Option Nat} {next:Act→World→Prop} {Q:Exit→Act→World→Prop}
  (hnext:∀ p ∈ P,∀ γ' a' w',Inv (es++[yq o st p]) st0 (MI o st p) γ0 w0 a0 D' γ' a' w'→next a' w'):wpOpIn (FW rd) 0 T.P ops Q es.length next a w:=by
 have hIp:∀ p ∈ P,Inv (es++[yq o st p]) st0 (MI o st p) γ0 w0 a0 D γ a w:=fun p hp=>by obtain ⟨hFa,hFb⟩:=PL hP hp;exact I.ext (N:=N) (n p hp).d hst (hle p hp) (hN p hp) hFa hFb hf
 obtain ⟨p0,hp0⟩:=List.exists_mem_of_ne_nil P hne;have C0:=hC p0 hp0;have n0:=n p0 hp0;have I0:=hIp p0 hp0;have ho:ops[es.length]?=some o:=by rw [←Array.getElem?_toList];exact C0.oper n0.hj
 have hdst:∀ d,o.dst=some d→d < a.tmps.size:=nj hok;obtain ⟨hev,wf,b1,b2,_,_,_⟩:=C0.at n0.hj
 cases hg:bX ops.toList st.fr o.guard with
 | false=>exact we C0 n0 (fun h=>absurd (hg.symm.trans h) (by decide)) I0 hok fun γ' a' w' I'=>hnext p0 hp0 γ' a' w' I'
 | true =>
 have hP:eZ T rec o.op es.length st=some P:=by unfold kC at hP;rw [hg] at hP;exact hP
 unfold wpOpIn;rw [ho];simp only
 rw [An (γ:=γ) (fr:=st.fr) ops o fun g want q d h1 h2 h3=>by
  have:=I0.tm d;rw [C0.v7 n0 (qj h1 h2 h3)] at this
  exact this]
 rw [hg];simp only [if_true];have heval:=I0.eval C0 n0 hok;have hP':=hP;unfold eZ at hP';split at hP'
 ·rename_i f as hk;split at hP'
  ·rename_i g hgo;split at hP'
   ·rename_i R hR;obtain ⟨hnd,ha,vf',hv,hx⟩:=Ap hk heval hgo w;obtain ⟨wr0,hF0,hw0⟩:=y6 hP hp0;obtain ⟨hr0,_⟩:=I0.tv C0 n0 (by show p0.2.2.call=true;rw [hF0]) (by show ∀ k ∈ p0.2.2.wr,k < st.hp.n;rw [hF0];exact hw0);have hfr:fy γ st.hp.n N:=fun k h1 h2=>by rw [I.out k (.inr h1)];exact hf k (by omega) h2
    have hin:∀ v hp,gL.ret v hp ∈ R→kB es.length st v hp ∈ P:=fun v hp hr=>by obtain ⟨Ma,q1,q2⟩:=cN hP' _ hr;obtain ⟨v',hp',e,rfl⟩:=ij q1;cases e;exact q2 _ (by simp)
    have hRN:∀ r ∈ R,r.hp.n≤N:=fun r hr=>by obtain ⟨Ma,q1,q2⟩:=cN hP' _ hr;obtain ⟨v',hp',rfl,rfl⟩:=ij q1;exact hN _ (hin v' hp' hr)
    refine Ih C0.hS hnd (H:={st.hp with lo:=st.hp.n}) (N:=N) hgo hR wf hr0 hfr hRN hv ha hx fun v' w' hRet=>?_;obtain ⟨v0,hp1,v1,γ',hm,he,hv',hs⟩:=hRet;cases he;have hp:=hin v0 hp1 hm;have I1:=hIp _ hp;obtain ⟨_,hstep⟩:=I1.tv (hC _ hp) (n _ hp) rfl (fun k hk=>(DW hk).2);obtain ⟨r1,r2⟩:=hstep (H:={st.hp with lo:=st.hp.n}) (H':=hp1) rfl rfl rfl rfl hs;have hout:∀ k,(k < st.hp.n∨hp1.n≤k)→γ'.loc k=γ.loc k:=fun k hk=>hs.out k hk;refine hnext _ hp γ' _ w' ⟨I1.le.trans hs.le,fun k hk=>?_,I1.jk (hC _ hp) (n _ hp) hout,r1,I1.iB.trans r2,fun t=>I1.pI (hC _ hp) (n _ hp) hs.le hv' hdst t,(gO _ _ _).trans I1.sz,(put_defers _ _ _).trans I1.df⟩
    rw [hout k (by
     have:(MI o st (kB es.length st v0 hp1)).hp.n=hp1.n:=rfl
     omega),I1.out k hk]
   ·cases hP'
  ·cases hP'
 ·cases hP'
theorem Il {ops:Array Oper} {es:List Ev} {st0 st:St} {o:Oper} {P:List (Value × Hp × Tc)} {γ0:Gm} {w0:World} {a0:Act} {N:Nat} (hP:kC T rec ops o es.length st=some P) (hne:P ≠ [])
  (C:Ctx T rec m ops es st0 st) (hC:∀ p ∈ P,Ctx T rec m ops (es++[yq o st p]) st0 (MI o st p)) (hst:st0.hp.n≤st.hp.n) (hle:∀ p ∈ P,st.hp.n≤p.2.1.n) (hN:∀ p ∈ P,p.2.1.n≤N) (hf:fy γ0 st0.hp.n N)
  (hdet:∀ (j:Nat) (ev:Ev),es[j]?=some ev→RE T rec ops j ev) {rd:Option Nat} {Q:Exit→Act→World→Prop} (hok:∀ (j:Nat) (o:Oper),ops.toList[j]?=some o→gn a0.tmps.size o=true)
  (hback:∀ (i:Nat) (o:Oper),ops[i]?=some o→∀ e ∈ o.after.toList,Region.binds .any e=true→e.on < i) (ho:ops.toList[es.length]?=some o)
  (htail:∀ j i,es.length+1≤j→i < es.length+1→j < ops.size→ord (oc ops) i j)
  (hQ:∀ p ∈ P,∀ fuel listed γ a w,listed.size=ops.size→cnt (gM listed) ops.size≤fuel→Cl ops.toList (gM listed)→(∀ i,i < ops.size→(gM listed i=true ↔ i < es.length+1))→Inv (es++[yq o st p]) st0 (MI o st p) γ0 w0 a0 (gM listed) γ a w→wpAnyIn (FW rd) 0 T.P .any ops Q fuel listed a w) :
  ∀ (fuel:Nat) (listed:Array Bool) (γ:Gm) (a:Act) (w:World),listed.size=ops.size→cnt (gM listed) ops.size≤fuel→Cl ops.toList (gM listed)→(∀ i,es.length≤i→i < ops.size→gM listed i=false)→Inv es st0 st γ0 w0 a0 (gM listed) γ a w →
   wpAnyIn (FW rd) 0 T.P .any ops Q fuel listed a w:=by
 have hclt:es.length < ops.size:=by have:=(List.getElem?_eq_some_iff.1 ho).1;simpa using this
 intro fuel
 induction fuel with
 | zero =>intro listed γ a w hsz hc hcl hun I;have h1:=wg _ (Nat.le_zero.1 hc) es.length hclt;rw [hun _ (qq6 _) hclt] at h1;cases h1
 | succ fuel ih =>
  intro listed γ a w hsz hc hcl hun I;have hcu:=hun _ (qq6 _) hclt;refine ⟨fun hr=>?_,fun j hj=>?_⟩
  ·have:=wh hsz hback hr es.length;rw [hcu] at this;cases this
  obtain ⟨oj,hoj,h2,h3⟩:=mC.1 hj;have hlt:j < ops.size:=(Array.getElem?_eq_some_iff.1 hoj).1;have hset:=fun i=>jW (listed:=listed) hsz hlt i;have hj':gM (listed.setIfInBounds j true) j=true:=by rw [hset,if_pos rfl]
  have hm:∀ i,i ≠ j→gM (listed.setIfInBounds j true) i=gM listed i:=fun i hi=>by rw [hset,if_neg hi]
  have hcl':=Ay hsz hlt hoj h3 hcl;have hcs:=Aw h2 hj' hm ops.size hlt;have hjc:j≤es.length:=by apply Nat.le_of_not_lt;intro hgt;have:=gp hcl' (htail j es.length hgt (Nat.lt_succ_self _) hlt) hj';rw [hm _ (by omega),hcu] at this;cases this
  by_cases hje:j < es.length
  ·have hev:es[j]?=some es[j]:=List.getElem?_eq_getElem hje;refine we C ⟨hev,h2,hj',hm,hcl,hcl'⟩ (hdet j _ hev) I (by rw [I.sz];exact hok j _ (C.oper hev)) fun γ' a' w' I'=>?_;exact ih _ γ' a' w' (by simp [hsz]) (by omega) hcl' (fun i h1 h4=>by rw [hm i (by omega)];exact hun i h1 h4) I'
  ·have hje:j=es.length:=by omega
   subst hje;have hat:∀ p,(es++[yq o st p])[es.length]?=some (yq o st p):=fun p=>by rw [List.getElem?_append_right (qq6 _),Nat.sub_self];rfl
   refine MJ (N:=N) hP hne hC (fun p _=>⟨hat p,h2,hj',hm,hcl,hcl'⟩) hst hle hN hf I (by rw [I.sz];exact hok _ _ ho) fun p hp γ' a' w' I'=>?_;have hlen:(es++[yq o st p]).length=es.length+1:=by simp
   refine tA (hC p hp) (fun j ev hev=>?_) hback (by rw [hlen];exact hclt) (by rw [hlen];exact htail) (by rw [hlen];exact hQ p hp) _ _ γ' a' w' (by simp [hsz]) (by omega) hcl' (fun i h1 h4=>?_) I' (fun j ev hev hd=>?_)
   ·exact hok j _ ((hC p hp).oper hev)
   ·rw [hlen] at h1;rw [hm i (by omega)];exact hun i (by omega) h4
   ·by_cases hjl:j < es.length
    ·rw [List.getElem?_append_left hjl] at hev;exact hdet j ev hev
    ·have hjl2:j < (es++[yq o st p]).length:=(List.getElem?_eq_some_iff.1 hev).1;rw [hlen] at hjl2;have:j=es.length:=by omega
     rw [this,hj'] at hd;cases hd
theorem yu {b:List Nat} {n c:Nat} (h:rm b n c=true):∀ j i,c≤j→i < c→j < n→ord b i j:=by
 intro j i hc hij hn;unfold rm at h;rw [List.all_eq_true] at h;have h1:=h j (List.mem_range.2 hn);rw [Bool.or_eq_true,List.all_eq_true] at h1
 rcases h1 with h1|h1
 ·have:=Nat.le_of_ble_eq_true h1;omega
 ·exact h1 i (List.mem_range.2 hij)
theorem yw {s t:Tc} (hr:t.rd=[]) (hw:t.wr=[]) (hc:t.call=false) (hab:t.a=t.b):conflict s t=false:=by simp [conflict,hr,hw,hc,hab,meets,within]
def Idle (H:Hp) (e:Ev):Prop:=e.st.hp=H∧e.hp=H∧e.t.rd=[]∧e.t.wr=[]∧e.t.call=false∧e.t.a=H.n∧e.t.b=H.n
theorem rQ {b:List Nat} {H:Hp} {l2:List Ev} (h2:ez T b l2=true):∀ (l:List Ev),(∀ e ∈ l,Idle H e)→ez T b (l++l2)=true
 | [],_=>h2
 | t :: l,h=>by rw [List.cons_append];refine lB ⟨fun s _=>?_,rQ h2 l fun e he=>h e (List.mem_cons_of_mem _ he)⟩;obtain ⟨_,_,h1,h2,h3,h4,h5⟩:=h t List.mem_cons_self;rw [yw h1 h2 h3 (h4.trans h5.symm)];rfl
theorem Im {o:Oper} (h:s5 o=true) {st:St} {R:List (Value × Hp)} (i:Nat) (hR:gk T rec o.op st=some R):o.guard=none∧∃ v,R=[(v,st.hp)]∧bu T rec o.op i st=some (v,st.hp,⟨i,[],[],false,st.hp.n,st.hp.n⟩):=by
 unfold s5 at h;split at h
 ·rename_i x e1 e2;rw [e1] at hR ⊢;cases hR;exact ⟨e2,_,rfl,rfl⟩
 ·rename_i x e1 e2;rw [e1] at hR ⊢;cases hR;exact ⟨e2,_,rfl,rfl⟩
 ·rename_i x k e1 e2;rw [e1] at hR ⊢;refine ⟨e2,?_⟩
  cases hx:gi (aQ st.fr x) k with
  | none =>unfold gk at hR;simp only [dF,iU,hx] at hR;cases hR
  | some p =>
   obtain ⟨v,e⟩:=p
   have he:e=.none:=by
    unfold gi at hx;split at hx
    ·rename_i vs hv
     cases hq:vs.toList[k]? with
     | none=>rw [hq] at hx;cases hx
     | some u=>rw [hq] at hx;cases hx;rfl
    ·cases hx
   subst he;unfold gk at hR;unfold bu;simp only [dF,iX,iU,hx] at hR ⊢;cases hR;exact ⟨_,rfl,rfl⟩
 ·cases h
theorem y7 (hK:bE rec) {ops:Array Oper}:∀ (l:List Oper) (i:Nat) (st:St) (L:List St),l.all s5=true→bU T rec ops.toList l st=some L →
  ∃ es st',L=[st']∧dG T rec ops es i st st'∧es.map (·.o)=l∧st'.hp=st.hp∧(∀ e ∈ es,Idle st.hp e)∧∀ j ev,es[j]?=some ev→RE T rec ops (i+j) ev
 | [],i,st,L,_,h=>by cases h;exact ⟨[],st,rfl,rfl,rfl,rfl,(fun e he=>by cases he),fun j ev hj=>by cases hj⟩
 | o :: l,i,st,L,hq,h=>by
  rw [List.all_cons,qq7] at hq;rw [eJ] at h
  cases ha:gk T rec o.op st with
  | none =>
   exfalso
   have hg:o.guard=none:=by
    have:=hq.1;unfold s5 at this;split at this
    ·assumption
    ·assumption
    ·assumption
    ·cases this
   rw [hg,ha] at h;cases h
  | some R =>
   obtain ⟨hg,v,rfl,hd⟩:=Im hq.1 i ha;have hgt:bX ops.toList st.fr o.guard=true:=by rw [hg];rfl
   rw [hgt,ha] at h;simp only [cond_true] at h;rw [fP] at h;obtain ⟨es,st',h1,h2,h3,h4,h5,h6⟩:=y7 hK l (i+1) _ L hq.2 h;refine ⟨⟨o,st,v,st.hp,⟨i,[],[],false,st.hp.n,st.hp.n⟩⟩ :: es,st',h1,⟨rfl,.inr ⟨hgt,rec,hK,hd⟩,h2⟩,by simp [h3],h4,fun e he=>?_,fun j ev hj=>?_⟩
   ·rcases List.mem_cons.1 he with rfl|he
    ·exact ⟨rfl,rfl,rfl,rfl,rfl,rfl,rfl⟩
    ·exact h5 e he
   ·cases j with
    | zero=>cases hj;exact fun _=>hd
    | succ j=>rw [show i+(j+1)=i+1+j by omega];exact h6 j ev hj
theorem dG.append {ops:Array Oper} {es2:List Ev} {st'':St}:∀ {es:List Ev} {i:Nat} {st st':St},dG T rec ops es i st st'→dG T rec ops es2 (i+es.length) st' st''→dG T rec ops (es++es2) i st st''
 | [],i,st,st',h,h2=>by have h:st'=st:=h;subst h;exact h2
 | e :: es,i,st,st',h,h2=>by obtain ⟨q1,q2,q3⟩:=h;exact ⟨q1,q2,dG.append q3 (by rw [List.length_cons,show i+(es.length+1)=i+1+es.length by omega] at h2;exact h2)⟩
theorem Inv.exts {ops:Array Oper} {st0 st2:St} {H:Hp} {D:Nat→Bool} {γ0 γ:Gm} {w0 w:World} {a0 a:Act} {N:Nat} (h0:st0.hp.n≤H.n) (hN:H.n≤N) (hf:fy γ0 st0.hp.n N):∀ {es2 es:List Ev} {st:St},Inv es st0 st γ0 w0 a0 D γ a w→dG T rec ops es2 es.length st st2→(∀ e ∈ es2,Idle H e)→st.hp=H→(∀ i,es.length≤i→i < es.length+es2.length→D i=false) →
  Inv (es++es2) st0 st2 γ0 w0 a0 D γ a w
 | [],es,st,I,hch,_,_,_=>by have hch:st2=st:=hch;subst hch;rw [List.append_nil];exact I
 | ev :: es2,es,st,I,hch,hid,hst,hD=>by
  obtain ⟨_,_,q3⟩:=hch;obtain ⟨_,e2,_,_,_,ea,eb⟩:=hid ev List.mem_cons_self;have ha:ev.after.hp=H:=e2;have I1:=I.ext (ev:=ev) (stF:=ev.after) (N:=N) (hD _ (qq6 _) (by simp)) (by rw [hst];exact h0) (by rw [hst,ha];exact qq6 _) (by rw [ha];exact hN) (by rw [hst];exact ea) (by rw [ha];exact eb) hf;have:=Inv.exts h0 hN hf (es2:=es2) I1 (by rw [List.length_append,List.length_singleton];exact q3) (fun e he=>hid e (List.mem_cons_of_mem _ he)) ha (fun i h1 h2=>hD i (by simp at h1;omega) (by simp at h2 ⊢;omega))
  rwa [List.append_assoc] at this
theorem GR {ops:Array Oper} {c:Nat} (h:vB ops=some c):(match ops.toList[c]? with|some o=>HT o|none=>false)=true∧(ou (oc ops) ops.toList.length (c+1)=true∨rm (oc ops) ops.toList.length (c+1)=true∧(ops.toList.drop (c+1)).all s5=true):=by
 unfold vB at h;split at h
 ·cases h
 ·have:=List.find?_some h;unfold PF at this;rw [qq7,qq7,Bool.or_eq_true,qq7] at this;exact this.1
theorem Ea (hT:cE T) (hm:T.P.follows .mixedOrders=true) (hK:bE rec) (hS:cO T rec m):j9 T rec:=by
 intro id ops st L hx γ w a rd N0 N hp hc hf hN;have hwf0:Wf st.hp:=hp.wf;simp only [codeOk,Bool.not_true,Bool.false_or,qq7,List.all_eq_true] at hc;obtain ⟨hdc,hopk⟩:=hc;simp only [BO,qq7,List.all_eq_true] at hdc;obtain ⟨hsep,hedge⟩:=hdc;have hzip:∀ (i:Nat) (o:Oper),ops.toList[i]?=some o→ops.toList.zipIdx[i]?=some (o,i):=fun i o h=>by rw [List.getElem?_zipIdx,h];simp
 have hsep':∀ i j x y,i < j→ops.toList[i]?=some x→ops.toList[j]?=some y→x.apart ops y=true∨ord (oc ops) i j:=fun i j x y hij hi hj=>GN hsep i j _ _ hij (hzip i x hi) (hzip j y hj);have hback:∀ (i:Nat) (o:Oper),ops[i]?=some o→∀ e ∈ o.after.toList,Region.binds .any e=true→e.on < i:=fun i o ho e he hb=>by have:=hedge (o,i) (List.mem_of_getElem? (hzip i o (by rw [Array.getElem?_toList];exact ho))) e he;simpa [hb] using this
 have hokl:∀ (j:Nat) (o:Oper),ops.toList[j]?=some o→gn a.tmps.size o=true:=fun j o h=>by have:=hopk o (List.mem_of_getElem? h);rw [gn,qq7,List.all_eq_true];exact this
 have hall:ops.toList.all (gn a.tmps.size)=true:=by rw [List.all_eq_true];intro o ho;have:=hopk o ho;rw [gn,qq7,List.all_eq_true];exact this
 have hnone:∀ i,i < ops.size→gM (Array.replicate ops.size false) i=false:=fun i hi=>by simp [gM,Array.getD_eq_getD_getElem?,hi]
 have hstart:∀ {es:List Ev} {stF:St},Ctx T rec m ops es st stF→es.length≤ops.size→stF.hp.n≤N→Inv es st stF γ w a (gM (Array.replicate ops.size false)) γ a {w with drawn:=w.drawn+1}:=fun {es stF} C hle hNF=>by
  have hsel:∀ {β:Type} (f:Ev→β→β) (x:β),iJ f es (gM (Array.replicate ops.size false)) 0 x=x:=fun {β} f x=>qH es _ 0 x fun j ev hj hD=>by rw [Nat.zero_add,hnone j (by have:=(List.getElem?_eq_some_iff.1 hj).1;omega)] at hD;cases hD
  have hg:gD es st (gM (Array.replicate ops.size false))=st.hp.get:=funext fun k=>hsel _ _;refine ⟨Gm.Le.refl γ,fun _ _=>rfl,fun j ev hj _ k h1 h2=>?_,by rw [hg];exact hp.hr.same rfl,by rw [hg];exact j7.heap rfl rfl rfl rfl,fun t=>?_,rfl,rfl⟩
  ·obtain ⟨_,f2,f3,f4,_⟩:=C.facts hj;obtain ⟨_,_,b1,b2,_⟩:=C.at hj;exact hf k (by omega) (by omega)
  ·have e:fD es st (gM (Array.replicate ops.size false)) t=st.fr.get t:=hsel _ _;rw [e];exact hp.fr t
 have hgo:∀ {es:List Ev} {stF:St} {Lp:List St},dG T rec ops es 0 st stF→dZ st.hp stF.hp→es.length≤ops.size→(∀ j i,es.length≤j→i < j→j < ops.size→ord (oc ops) i j)→bU T rec ops.toList (ops.toList.drop es.length) stF=some Lp→(∀ s ∈ Lp,s ∈ L) →
   ∀ fuel listed γ' a' w',listed.size=ops.size→cnt (gM listed) ops.size≤fuel→Cl ops.toList (gM listed)→(∀ i,i < ops.size→(gM listed i=true ↔ i < es.length))→Inv es st stF γ w a (gM listed) γ' a' w'→wpAnyIn (FW rd) 0 T.P .any ops (jF γ st.hp w a.tmps.size rd N0 (L.map fun s=>(.normal,s))) fuel listed a' w' :=
  fun {es stF Lp} hch hkp hle ht2 hx2 hsub fuel listed γ' a' w' hls hcn hcl hiff I=>by
  obtain ⟨g1,g2,g3,g4,g5⟩:=dG.last hK hch hwf0 (gM listed) fun j hj=>by rw [Nat.zero_add];exact (hiff j (by omega)).2 hj
  have hget:gD es st (gM listed)=stF.hp.get:=funext fun k=>(g1 k).symm;have hr:=I.hr;have hu:=I.iB;rw [hget] at hr hu;have hstep:Step γ st.hp w γ' stF.hp w':=⟨g4,I.le,I.out,hr,hu⟩
  have hpre:Pre γ' stF a' w' rd N0:=⟨fun t=>by
    have:=I.tm t;have e:fD es st (gM listed) t=stF.fr.get t:=(g2 t).symm;rw [e] at this
    exact this,hr,g3.trans hp.rd,by rw [I.df];exact hp.df.step hstep,g5,fun b hb=>let ⟨l,q1,q2⟩:=hp.lp b hb;⟨l,hstep.le.loc _ _ q1,hkp.loop hp.wf l q2⟩⟩
  exact D9 hT hK hS (c:=es.length) ht2 (sz:=a.tmps.size) hall hback (ops.toList.drop es.length) es.length rfl (qq6 _) stF Lp hx2 γ' a' w' hpre I.sz hstep (hstep.fresh hf) (fun s hs=>hN s (hsub s hs)) (fun s hs=>List.mem_map.2 ⟨s,hsub s hs,rfl⟩) fuel listed hls hiff hcl hcn
 have hempty:Cl ops.toList (gM (Array.replicate ops.size false)):=fun j o ho hD=>by exfalso;rw [hnone j (by have:=(List.getElem?_eq_some_iff.1 ho).1;simpa using this)] at hD;cases hD
 refine wpIn_region_any hm ?_
 rcases lV hx with ⟨c,hc,hx⟩|⟨_,M,hx,hx2⟩
 ·
  obtain ⟨es,stM,hfin,hch,hos,hkM,hdet⟩:=u7 hK ops _ _ 0 st [] L hx;rw [List.append_nil] at hfin;obtain ⟨o,P,ho,hP,hdr,hL⟩:=qF hfin;have hclt:c < ops.toList.length:=(List.getElem?_eq_some_iff.1 ho).1;have hlen:es.length=c:=by rw [←List.length_map (f:=(·.o)),hos,List.length_take];omega
  subst hlen;have hsz:ops.toList.length=ops.size:=Array.length_toList ..;obtain ⟨_,htf⟩:=GR hc;have hgood:=vU hK hP;have hchP:∀ p ∈ P,dG T rec ops (es++[yq o stM p]) 0 st (MI o stM p):=fun p hp=>hch.snoc rfl (by rw [Nat.zero_add];exact PK hK hP hp);have hosP:∀ p,(es++[yq o stM p]).map (·.o)=ops.toList.take (es++[yq o stM p]).length:=fun p=>by rw [List.map_append,hos,List.length_append,List.length_singleton,List.take_add_one,ho];rfl
  have hCP:∀ p ∈ P,Ctx T rec m ops (es++[yq o stM p]) st (MI o stM p):=fun p hp =>Az hT hK hS (hchP p hp) hwf0 (hosP p) (by rw [List.reverse_append];exact iL (hdr p hp)) hsep';obtain ⟨p0,hp0⟩:=List.exists_mem_of_ne_nil P hgood.1
  have hCM:Ctx T rec m ops es st stM:=Az hT hK hS hch hwf0 hos (by
   have:=iL (hdr p0 hp0)
   exact rO this) hsep'
  have hkeepP:∀ p ∈ P,dZ stM.hp p.2.1:=fun p hp=>hgood.2 p hp;have hlast:=dG.last hK hch hwf0 (fun _=>true) fun _ _=>rfl;have hstM:st.hp.n≤stM.hp.n:=hlast.2.2.2.1;have hsubL:∀ p ∈ P,∃ Lp,bU T rec ops.toList (ops.toList.drop (es.length+1)) (MI o stM p)=some Lp∧∀ s ∈ Lp,s ∈ L:=fun p hp=>cN hL p hp;have hNP:∀ p ∈ P,p.2.1.n≤N:=fun p hp=>by obtain ⟨Lp,q1,q2⟩:=hsubL p hp;have:=(fF hK _ _ _ _ q1).1;exact Good.le this fun s hs=>hN s (q2 s hs)
  have htail:∀ j i,es.length+1≤j→i < es.length+1→j < ops.size→ord (oc ops) i j:=fun j i h1 h2 h3=>by
   rcases htf with htf|⟨htf,_⟩
   ·exact lX htf j i h1 (by omega) (by rw [hsz];exact h3)
   ·exact yu htf j i h1 h2 (by rw [hsz];exact h3)
  refine Il (N:=N) hP hgood.1 hCM hCP hstM (fun p hp=>(hkeepP p hp).n) hNP hf (fun j ev h=>by have:=hdet j ev h;rwa [Nat.zero_add] at this) hokl hback ho htail (fun p hp=>?_) ops.size _ γ a _ (by simp) (Ik _) hempty (fun i _ h2=>hnone i h2) (hstart hCM (by omega) (Nat.le_trans (hkeepP p0 hp0).n (hNP p0 hp0)));obtain ⟨Lp,q1,q2⟩:=hsubL p hp;have hl1:(es++[yq o stM p]).length=es.length+1:=by simp
  rcases htf with htf|⟨_,hqt⟩
  ·have:=hgo (hchP p hp) (hkM.trans (hkeepP p hp)) (by rw [hl1];omega) (by rw [hl1];exact fun j i h1 h2 h3=>lX htf j i h1 h2 (by rw [hsz];exact h3)) (by rw [hl1];exact q1) q2;rw [hl1] at this;exact this
  ·intro fuel listed γ' a' w' hls hcn hcl hiff I;obtain ⟨es2,st2,rfl,hch2,hos2,hhp,hid,hdet2⟩:=y7 hK (ops:=ops) _ (es.length+1) _ _ hqt q1;have hl2:es2.length=ops.size - (es.length+1):=by rw [←List.length_map (f:=(·.o)),hos2,List.length_drop,hsz]
   have hl3:(es++[yq o stM p]++es2).length=ops.size:=by rw [List.length_append,hl1,hl2];omega
   have hch':=(hchP p hp).append (es2:=es2) (st'':=st2) (by rw [Nat.zero_add,hl1];exact hch2);have hos':(es++[yq o stM p]++es2).map (·.o)=ops.toList.take (es++[yq o stM p]++es2).length:=by rw [List.map_append,hosP p,hos2,hl1,List.take_append_drop,hl3,←hsz,List.take_length]
   have C':Ctx T rec m ops (es++[yq o stM p]++es2) st st2:=Az hT hK hS hch' hwf0 hos' (by
    rw [List.reverse_append];refine rQ (H:=p.2.1) ?_ _ fun e he=>hid e (List.mem_reverse.1 he);rw [List.reverse_append]
    exact iL (hdr p hp)) hsep'
   have hnp:=(hkeepP p hp).n
   have I':=I.exts (N:=N) (H:=p.2.1) (st2:=st2) (by omega) (hNP p hp) hf (by rw [hl1];exact hch2) hid rfl (fun i h1 h2=>by
    cases hD:gM listed i with
    | false=>rfl
    | true =>
     rw [hl1] at h1 h2;have:=(hiff i (by omega)).1 hD
     omega)
   have hkp2:dZ st.hp st2.hp:=by rw [hhp];exact hkM.trans (hkeepP p hp)
   refine tA (γ0:=γ) (w0:=w) (a0:=a) C' (fun j ev h=>hokl j _ (C'.oper h)) hback (Nat.le_of_eq hl3) (fun j i h1 _ h3=>by omega) (fun fuel listed γ' a' w'=>hgo hch' hkp2 (Nat.le_of_eq hl3) (fun j i h1 _ h3=>by omega) (Lp:=[st2]) (by rw [hl3,←hsz,List.drop_length];rfl) q2 fuel listed γ' a' w') fuel listed γ' a' w' hls hcn hcl (fun i h1 h2=>by omega) I' (fun j ev hev hd=>?_);by_cases hj:j < es.length+1
   ·rw [(hiff j (by omega)).2 hj] at hd;cases hd
   ·rw [List.getElem?_append_right (by rw [hl1];omega),hl1] at hev;have:=hdet2 _ ev hev
    rwa [show es.length+1+(j - (es.length+1))=j by omega] at this
 ·have hkp0:=(qf hK ops _ 0 st [] M hx).1.2;obtain ⟨es,stF,rfl,hch,hos,hdr,hdet⟩:=vZ hK ops _ 0 st [] M hx;rw [fP] at hx2;obtain ⟨ht1,ht2⟩:=Cn ops;have hkp:dZ st.hp stF.hp:=hkp0 stF (by simp);rw [List.append_nil] at hdr;have hlen:es.length=fR ops:=by rw [←List.length_map (f:=(·.o)),hos,List.length_take,Array.length_toList];omega
  have hNF:stF.hp.n≤N:=Good.le (fF hK _ _ _ _ hx2).1 hN;rw [←hlen] at ht1 ht2 hx2 hos;have C:Ctx T rec m ops es st stF:=Az hT hK hS hch hwf0 hos (iL hdr) hsep';exact tA (γ0:=γ) (w0:=w) (a0:=a) C (fun j ev h=>hokl j _ (C.oper h)) hback ht1 (fun j i h1 h2 h3=>ht2 j i h1 (by omega) h3) (fun fuel listed γ' a' w'=>hgo hch hkp ht1 ht2 hx2 (fun _ h=>h) fuel listed γ' a' w') ops.size _ γ a _ (by simp) (Ik _) hempty (fun i _ h2=>hnone i h2) (hstart C ht1 hNF) (fun j ev h _=>by have:=hdet j ev h;rwa [Nat.zero_add] at this)
end
end Go.RM
namespace Go.RM
open Go
def Tr.All {α:Type} (Q:Nat→α→Prop):Tr α→(Nat→Nat)→Prop
 | .leaf,_=>True
 | .node l v r,f=>(match v with|some x=>Q (f 0) x|none=>True)∧Tr.All Q l (fun i=>f (2 * i+1))∧Tr.All Q r (fun i=>f (2 * i+2))
theorem Tr.All.get {α:Type} {Q:Nat→α→Prop}:∀ {t:Tr α} {f:Nat→Nat},Tr.All Q t f→∀ (i:Nat) (x:α),t.get i=some x→Q (f i) x:=by
 intro t
 induction t with
 | leaf=>intro f _ i x h;rw [Tr.mz] at h;cases h
 | node l v r ihl ihr =>
  intro f h i x hx;obtain ⟨h1,h2,h3⟩:=h;rw [Tr.fO] at hx;by_cases h0:i=0
  ·subst h0;rw [if_pos rfl] at hx;subst hx;exact h1
  ·rw [if_neg h0] at hx;by_cases h4:i % 2=1
   ·rw [if_pos h4] at hx;have:=ihl h2 _ _ hx;rw [show 2 * (i / 2)+1=i by omega] at this;exact this
   ·rw [if_neg h4] at hx;have:=ihr h3 _ _ hx;rw [show 2 * (i / 2 - 1)+2=i by omega] at this;exact this
def wm (P:Program) (t:TypeId) (r:yR):Prop:=∃ i,P.info? t=some i∧i.size=r.size∧i.bytes=r.bytes∧i.zero=r.zero∧P.underlying t=some r.und ∧
 (match r.und with
  | .struct fs=>r.agg=true∧r.cJ.length=fs.size∧∀ (j:Nat) (f:Field),fs[j]?=some f→∃ i',P.info? f.type=some i'∧r.cJ[j]?=some (f.offset,i'.size)
  | .array _ e=>r.agg=true∧∃ i',P.info? e=some i'∧r.cS=i'.size
  | .slice e=>r.agg=false∧∃ i',P.info? e=some i'∧r.cS=i'.size
  | _=>r.agg=false)
def Ip (P:Program) (t:TypeId) (s:Nat):Bool :=
 match P.info? t with
 | some i=>Nat.beq i.size s
 | none=>false
def AA (P:Program):List Field→List (Nat × Nat)→Bool
 | [],[]=>true
 | f :: fs,(o,s) :: l=>Nat.beq f.offset o && Ip P f.type s && AA P fs l
 | _,_=>false
def Iq (P:Program) (r:yR):Bool :=
 match r.und with
 | .struct fs=>r.agg && AA P fs.toList r.cJ
 | .array _ e=>r.agg && Ip P e r.cS
 | .slice e=>!r.agg && Ip P e r.cS
 | _=>!r.agg
theorem tC {P:Program} {t:TypeId} {s:Nat} (h:Ip P t s=true):∃ i,P.info? t=some i∧s=i.size:=by
 unfold Ip at h;split at h
 ·rename_i i hi;exact ⟨i,hi,(Nat.eq_of_beq_eq_true h).symm⟩
 ·cases h
theorem wo {P:Program}:∀ {fs:List Field} {l:List (Nat × Nat)},AA P fs l=true→l.length=fs.length∧∀ (j:Nat) (f:Field),fs[j]?=some f→∃ i,P.info? f.type=some i∧l[j]?=some (f.offset,i.size)
 | [],[],_=>⟨rfl,fun j f h=>by cases h⟩
 | f :: fs,(o,s) :: l,h=>by
  simp only [AA,qq7] at h;obtain ⟨⟨h1,h2⟩,h3⟩:=h;obtain ⟨e1,e2⟩:=wo h3;refine ⟨by simp [e1],fun j f' hj=>?_⟩
  cases j with
  | zero =>cases hj;obtain ⟨i,q1,q2⟩:=tC h2;exact ⟨i,q1,by simp [q2,Nat.eq_of_beq_eq_true h1]⟩
  | succ j=>exact e2 j f' hj
 | [],_ :: _,h=>by cases h
 | _ :: _,[],h=>by cases h
theorem wm.mk {P:Program} {t:TypeId} {r:yR} {i:TypeInfo} (h1:P.info? t=some i) (h2:i.size=r.size) (h3:i.bytes=r.bytes) (h4:i.zero=r.zero) (h5:P.underlying t=some r.und) (h6:Iq P r=true):wm P t r:=by
 refine ⟨i,h1,h2,h3,h4,h5,?_⟩;unfold Iq at h6;split at h6 <;> simp only [qq7,Bool.not_eq_true'] at h6
 ·obtain ⟨e1,e2⟩:=wo h6.2;exact ⟨h6.1,by simpa using e1,fun j f hj=>e2 j f (by rw [Array.getElem?_toList];exact hj)⟩
 ·exact ⟨h6.1,tC h6.2⟩
 ·exact ⟨h6.1,tC h6.2⟩
 ·rename_i n1 n2 n3;revert h6 n1 n2 n3;cases r.und <;> intro n1 n2 n3 h6 <;> first|exact absurd rfl (n1 _)|exact absurd rfl (n2 _ _)|exact absurd rfl (n3 _)|exact h6
def Ir (fn : Func) : Bool := !(fn.name == "runtime.NumGoroutine") && (match fn.body with | some c => codeOk fn.ntmps c | none => true)
def Eb (P:Program) (f:FuncId) (fn:Func):Prop:=P.funcs[f]?=some fn∧Ir fn=true
theorem cE.mk' {T:bL} (h1:Tr.All (wm T.P) T.ty id) (h2:Tr.All (Eb T.P) T.fn id):cE T:=by refine ⟨fun t r h=>h1.get t r h,fun f fn h=>?_⟩;obtain ⟨e1,e2⟩:=h2.get f fn h;simp only [id] at e1;simp only [Ir,qq7,Bool.not_eq_true'] at e2;refine ⟨e1,e2.1,fun c hc=>?_⟩;rw [hc] at e2;exact e2.2
structure XE where
 f:FuncId
 args:List Value
 eD:List (List Value)
 res:Value
 news:List (List Value)
abbrev Ren:=Tr (Nat × Nat)
noncomputable def FB (lim k:Nat) (k' o:Nat) (φ:Ren):Option Ren :=
 bif Nat.blt k lim then
  match φ.get k with
  | none=>some (φ.set k (k',o))
  | some (k1,o1)=>bif Nat.beq k1 k' && Nat.beq o1 o then some φ else none
 else none
noncomputable def pK (lim:Nat) (p v:Value) (φ:Ren):Option Ren :=
 match p,v with
 | .slice (some ⟨k,0,none⟩) n c,.slice (some ⟨k',o,none⟩) n' _ =>bif Nat.beq n n' && Nat.beq c (n+2) then (bif Nat.beq n 0 then some φ else FB lim k k' o φ) else none
 | .pointer (some ⟨k,0,none⟩),.pointer (some ⟨k',o,none⟩)=>FB lim k k' o φ
 | _,_=>bif Gz p v then some φ else none
noncomputable def kJ (lim:Nat):List Value→List Value→Ren→Option Ren
 | [],[],φ=>some φ
 | p :: ps,v :: vs,φ=>(pK lim p v φ).bind (kJ lim ps vs)
 | _,_,_=>none
noncomputable def mD (lim:Nat) (p v:Value) (φ:Ren):Option Ren :=
 match p,v with
 | .agg ps,.agg vs=>kJ lim ps.toList vs.toList φ
 | _,_=>pK lim p v φ
noncomputable def jl (lim:Nat):List Value→List Value→Ren→Option Ren
 | [],[],φ=>some φ
 | p :: ps,v :: vs,φ=>(mD lim p v φ).bind (jl lim ps vs)
 | _,_,_=>none
noncomputable def wq (lim:Nat) (p v:Value) (φ:Ren):Option Ren :=
 match p,v with
 | .tuple ps,.tuple vs=>jl lim ps.toList vs.toList φ
 | _,_=>mD lim p v φ
noncomputable def kg (lim:Nat) (g:aG):List (List Value)→Nat→Ren→Option Ren
 | [],_,φ=>some φ
 | ps :: l,k,φ =>
  match φ.get k with
  | some (k',o) =>
   match cells? (g k') with
   | some (cs,_,_)=>match cut cs o ps.length with
    | some vs=>(kJ lim ps vs φ).bind (kg lim g l (k+1))
    | none=>none
   | none=>none
  | none=>none
def y8 (φ ψ:Ren):Prop:=∀ k x,φ.get k=some x→ψ.get k=some x
theorem y8.refl (φ:Ren):y8 φ φ:=fun _ _ h=>h
theorem y8.trans {a b c:Ren} (h:y8 a b) (k:y8 b c):y8 a c:=fun i x hx=>k i x (h i x hx)
noncomputable def Gm.ren (γ:Gm) (φ:Ren):Gm where
 loc k:=(φ.get k).bind fun p=>(γ.loc p.1).map fun q=>(q.1,q.2+p.2)
 cap _:=0
 B:=γ.B
section
variable {γ : Gm} {lim : Nat} {φ ψ : Ren}
theorem Co {k k' o:Nat} (h:FB lim k k' o φ=some ψ):y8 φ ψ∧ψ.get k=some (k',o)∧k < lim∧∀ i x,ψ.get i=some x→φ.get i=some x∨i=k:=by
 unfold FB at h
 cases hl:Nat.blt k lim with
 | false=>rw [hl] at h;cases h
 | true =>
  rw [hl] at h;simp only [cond_true] at h;have hlt:=Nat.le_of_ble_eq_true hl;split at h
  ·rename_i hn;simp only [qq9] at h;subst h;refine ⟨fun i x hx=>?_,Tr.z7 _ _ _,hlt,fun i x hx=>?_⟩
   ·have:i ≠ k:=fun e=>by subst e;rw [hn] at hx;cases hx
    rw [Tr.vF _ _ this];exact hx
   ·by_cases hik:i=k
    ·exact .inr hik
    ·rw [Tr.vF _ _ hik] at hx;exact .inl hx
  ·rename_i k1 o1 hs
   cases hb:(Nat.beq k1 k' && Nat.beq o1 o) with
   | false=>rw [hb] at h;cases h
   | true =>rw [hb] at h;simp only [cond_true,qq9] at h;subst h;simp only [qq7] at hb;rw [Nat.eq_of_beq_eq_true hb.1,Nat.eq_of_beq_eq_true hb.2] at hs;exact ⟨y8.refl _,hs,hlt,fun i x hx=>.inl hx⟩
def wv (lim:Nat) (φ:Ren):Prop:=∀ k x,φ.get k=some x→k < lim
def TU (γ:Gm) (lim:Nat) (φ ψ:Ren) (p v:Value):Prop:=y8 φ ψ∧(wv lim φ→wv lim ψ)∧∀ χ,y8 ψ χ→∀ v',VR γ v v'→VR (γ.ren χ) p v'
theorem FC {χ:Ren} {k k' o b d:Nat} (h:χ.get k=some (k',o)) (hl:γ.loc k'=some (b,d)):(γ.ren χ).loc k=some (b,d+o):=by simp [Gm.ren,h,hl]
theorem rR {p v:Value} (h:pK lim p v φ=some ψ):TU γ lim φ ψ p v:=by
 unfold pK at h;split at h
 ·rename_i k n c k' o n' c'
  cases hb:(Nat.beq n n' && Nat.beq c (n+2)) with
  | false=>rw [hb] at h;cases h
  | true =>
   rw [hb] at h;simp only [qq7] at hb;obtain rfl:=Nat.eq_of_beq_eq_true hb.1;obtain rfl:=Nat.eq_of_beq_eq_true hb.2;simp only [cond_true] at h
   cases h0:Nat.beq n 0 with
   | true =>
    rw [h0] at h;simp only [cond_true,qq9] at h;subst h;obtain rfl:=Nat.eq_of_beq_eq_true h0;refine ⟨y8.refl _,id,fun χ _ v' hv=>?_⟩
    cases hv with
    | flat hf=>cases hf
    | slice hl hn ht hlo _=>exact .dc (by omega) (fun e=>by omega) (by omega)
    | dc h0 ht=>exact .dc (by omega) (fun e=>by omega) (by omega)
   | false =>
    rw [h0] at h;simp only [cond_false] at h;obtain ⟨e1,e2,e3,e4⟩:=Co h;refine ⟨e1,fun hu i x hx=>?_,fun χ hχ v' hv=>?_⟩
    ·rcases e4 i x hx with h|rfl
     ·exact hu i x h
     ·exact e3
    ·have hne:n ≠ 0:=fun e=>by subst e;cases h0
     cases hv with
     | flat hf=>cases hf
     | slice hl hn ht hlo _ =>rename_i b d c'' _;have:=VR.slice (γ:=γ.ren χ) (k:=k) (o:=0) (n:=n) (c:=n+2) (c':=c'') (FC (hχ _ _ e2) hl) hn (fun e=>by omega) (fun e=>by omega) (fun e=>by omega);rw [Nat.add_zero] at this;exact this
     | dc=>exact absurd rfl hne
 ·rename_i k k' o;obtain ⟨e1,e2,e3,e4⟩:=Co h;refine ⟨e1,fun hu i x hx=>?_,fun χ hχ v' hv=>?_⟩
  ·rcases e4 i x hx with h|rfl
   ·exact hu i x h
   ·exact e3
  ·cases hv with
   | flat hf=>cases hf
   | ptr hl =>rename_i b d;have:=VR.ptr (γ:=γ.ren χ) (o:=0) (FC (hχ _ _ e2) hl);rw [Nat.add_zero] at this;exact this
 ·cases hb:Gz p v with
  | false=>rw [hb] at h;cases h
  | true =>rw [hb] at h;simp only [cond_true,qq9] at h;subst h;obtain ⟨rfl,hf⟩:=Al hb;refine ⟨y8.refl _,id,fun χ _ v' hv=>?_⟩;rw [hv.bN hf];exact .flat hf
def Ec (γ:Gm) (lim:Nat) (φ ψ:Ren) (ps vs:List Value):Prop:=y8 φ ψ∧(wv lim φ→wv lim ψ)∧∀ χ,y8 ψ χ→∀ vs',cy γ vs vs'→cy (γ.ren χ) ps vs'
theorem Ec.cons {p v:Value} {ps vs:List Value} {ψ':Ren} (h:TU γ lim φ ψ p v) (k:Ec γ lim ψ ψ' ps vs):Ec γ lim φ ψ' (p :: ps) (v :: vs):=by
 refine ⟨h.1.trans k.1,fun hu=>k.2.1 (h.2.1 hu),fun χ hχ vs' hv=>?_⟩
 cases vs' with
 | nil=>exact absurd hv.1 (by simp)
 | cons v' vs' =>exact .cons (h.2.2 χ (k.1.trans hχ) v' (hv.2 0 v v' rfl rfl)) (k.2.2 χ hχ vs' ⟨by simpa using hv.1,fun i a b ha hb=>hv.2 (i+1) a b ha hb⟩)
theorem Ec.nil:Ec γ lim φ φ [] []:=⟨y8.refl _,id,fun χ _ vs' hv=>by
 cases vs' with
 | nil=>exact cy.nil _
 | cons=>exact absurd hv.1 (by simp)⟩
theorem lY:∀ {ps vs:List Value} {φ ψ:Ren},kJ lim ps vs φ=some ψ→Ec γ lim φ ψ ps vs
 | [],[],φ,ψ,h=>by cases h;exact .nil
 | p :: ps,v :: vs,φ,ψ,h=>by simp only [kJ,Option.bind_eq_some_iff] at h;obtain ⟨χ,h1,h2⟩:=h;exact .cons (rR h1) (lY h2)
 | [],_ :: _,_,_,h=>by cases h
 | _ :: _,[],_,_,h=>by cases h
theorem uD {p v:Value} (h:mD lim p v φ=some ψ):TU γ lim φ ψ p v:=by
 unfold mD at h;split at h
 ·rename_i ps vs;obtain ⟨h1,h2,h3⟩:=lY (γ:=γ) h;refine ⟨h1,h2,fun χ hχ v' hv=>?_⟩
  cases hv with
  | flat hf=>cases hf
  | agg e hc =>rename_i cs';have:=VR.kD (h3 χ hχ cs'.toList (cy.mV e hc));simpa using this
 ·exact rR h
theorem nt:∀ {ps vs:List Value} {φ ψ:Ren},jl lim ps vs φ=some ψ→Ec γ lim φ ψ ps vs
 | [],[],φ,ψ,h=>by cases h;exact .nil
 | p :: ps,v :: vs,φ,ψ,h=>by simp only [jl,Option.bind_eq_some_iff] at h;obtain ⟨χ,h1,h2⟩:=h;exact .cons (uD h1) (nt h2)
 | [],_ :: _,_,_,h=>by cases h
 | _ :: _,[],_,_,h=>by cases h
theorem Cp {p v:Value} (h:wq lim p v φ=some ψ):TU γ lim φ ψ p v:=by
 unfold wq at h;split at h
 ·rename_i ps vs;obtain ⟨h1,h2,h3⟩:=nt (γ:=γ) h;refine ⟨h1,h2,fun χ hχ v' hv=>?_⟩
  cases hv with
  | flat hf=>cases hf
  | tuple e hc =>rename_i cs';have:=VR.cL (h3 χ hχ cs'.toList (cy.mV e hc));simpa using this
 ·exact uD h
def UE (γ:Gm) (lim:Nat) (g:aG) (φ ψ:Ren) (l:List (List Value)) (k0:Nat):Prop:=y8 φ ψ∧(wv lim φ→wv lim ψ) ∧
 ∀ (i:Nat) (ps:List Value),l[i]?=some ps→∃ k' o cs own es vs,ψ.get (k0+i)=some (k',o)∧g k'=some (.cells cs own es)∧cut cs o ps.length=some vs∧∀ χ,y8 ψ χ→∀ vs',cy γ vs vs'→cy (γ.ren χ) ps vs'
theorem rS {g:aG}:∀ {l:List (List Value)} {k0:Nat} {φ ψ:Ren},kg lim g l k0 φ=some ψ→UE γ lim g φ ψ l k0
 | [],k0,φ,ψ,h=>by cases h;exact ⟨y8.refl _,id,fun i ps h=>by cases h⟩
 | ps :: l,k0,φ,ψ,h=>by
  unfold kg at h;split at h
  ·rename_i k' o hφ;split at h
   ·rename_i cs own es hc;split at h
    ·rename_i vs hcut;simp only [Option.bind_eq_some_iff] at h;obtain ⟨χ,h1,h2⟩:=h;obtain ⟨a1,a2,a3⟩:=lY (γ:=γ) h1;obtain ⟨b1,b2,b3⟩:=rS h2;refine ⟨a1.trans b1,fun hu=>b2 (a2 hu),fun i qs hi=>?_⟩
     cases i with
     | zero =>cases hi;exact ⟨k',o,cs,own,es,vs,b1 _ _ (a1 _ _ hφ),eT hc,hcut,fun χ' hχ'=>a3 χ' (b1.trans hχ')⟩
     | succ i =>obtain ⟨q1,q2,q3,q4,q5,q6,r1,r2⟩:=b3 i qs hi;exact ⟨q1,q2,q3,q4,q5,q6,by rw [show k0+(i+1)=k0+1+i by omega];exact r1,r2⟩
    ·cases h
   ·cases h
  ·cases h
end
noncomputable def eW (H:Hp) (l:List (List Value)):Hp:=l.foldl (fun h c=>h.push (.cells c false 0)) H
theorem mE:∀ (l:List (List Value)) (H:Hp),(eW H l).n=H.n+l.length
 | [],H=>rfl
 | c :: l,H=>by show (eW (H.push _) l).n=_;rw [mE l];show H.n+1+l.length=_;simp;omega
theorem ir:∀ (l:List (List Value)) (H:Hp) (k:Nat),(k < H.n→(eW H l).get k=H.get k)∧(H.n+l.length≤k→(eW H l).get k=H.get k) ∧
  (∀ (i:Nat) (c:List Value),l[i]?=some c→(eW H l).get (H.n+i)=some (.cells c false 0))
 | [],H,k=>⟨fun _=>rfl,fun _=>rfl,fun i c h=>by cases h⟩
 | c :: l,H,k=>by
  obtain ⟨h1,h2,_⟩:=ir l (H.push (.cells c false 0)) k;have hn:(H.push (.cells c false 0)).n=H.n+1:=rfl;refine ⟨fun hk=>?_,fun hk=>?_,fun i d hi=>?_⟩
  ·show (eW (H.push _) l).get k=_;rw [h1 (by omega),Hp.fh,if_neg (by omega)]
  ·show (eW (H.push _) l).get k=_;simp only [List.length_cons] at hk;rw [h2 (by omega),Hp.fh,if_neg (by omega)]
  ·show (eW (H.push _) l).get (H.n+i)=_
   cases i with
   | zero =>cases hi;rw [(ir l (H.push _) (H.n+0)).1 (by omega),Hp.fh,if_pos (by omega)]
   | succ i =>have:=(ir l (H.push (.cells c false 0)) 0).2.2 i d hi;rw [hn,show H.n+1+i=H.n+(i+1) by omega] at this;exact this
theorem rT (H:Hp) (l:List (List Value)):dZ H (eW H l):=by
 induction l generalizing H with
 | nil=>exact .refl H
 | cons c l ih=>exact (dZ.push H _).trans (ih _)
theorem Cq:Wf Hp.empty:=fun _ _=>rfl
noncomputable def pL (nb n:Nat) (p:Value):Option Value :=
 match p with
 | .slice (some ⟨k,0,none⟩) m c=>bif Nat.ble nb k && Nat.beq c (m+2) then some (.slice (some ⟨k - nb+n,0,none⟩) m c) else none
 | v=>bif bh v then some v else none
noncomputable def nu (nb n:Nat):List Value→Option (List Value)
 | []=>some []
 | p :: l=>match pL nb n p,nu nb n l with
  | some q,some m=>some (q :: m)
  | _,_=>none
noncomputable def rU (nb n:Nat) (p:Value):Option Value :=
 match p with
 | .agg ps=>(nu nb n ps.toList).map fun l=>.agg l.toArray
 | v=>pL nb n v
noncomputable def pM (nb n:Nat):List Value→Option (List Value)
 | []=>some []
 | p :: l=>match rU nb n p,pM nb n l with
  | some q,some m=>some (q :: m)
  | _,_=>none
noncomputable def oH (nb n:Nat) (p:Value):Option Value :=
 match p with
 | .tuple ps=>(pM nb n ps.toList).map fun l=>.tuple l.toArray
 | v=>rU nb n v
section
variable {δ γ : Gm} {nb n : Nat}
theorem rV (hl:∀ k x,nb≤k→δ.loc k=some x→γ.loc (k - nb+n)=some x) {p q v:Value} (h:pL nb n p=some q) (hv:VR δ p v):VR γ q v:=by
 unfold pL at h;split at h
 ·rename_i k m c
  cases hb:(Nat.ble nb k && Nat.beq c (m+2)) with
  | false=>rw [hb] at h;cases h
  | true =>
   rw [hb] at h;simp only [cond_true,qq9] at h;subst h;simp only [qq7] at hb;obtain rfl:=Nat.eq_of_beq_eq_true hb.2
   cases hv with
   | flat hf=>cases hf
   | slice h1 h2 h3 h4=>exact .slice (hl _ _ (Nat.le_of_ble_eq_true hb.1) h1) h2 (fun e=>by omega) (fun e=>by omega) (fun e=>by omega)
   | dc h0 ht=>exact .dc (by omega) (fun e=>by omega) (by omega)
 ·cases hb:bh p with
  | false=>rw [hb] at h;cases h
  | true =>rw [hb] at h;simp only [cond_true,qq9] at h;subst h;rw [hv.bN hb];exact .flat hb
theorem ql (hl:∀ k x,nb≤k→δ.loc k=some x→γ.loc (k - nb+n)=some x):∀ {ps qs vs:List Value},nu nb n ps=some qs→cy δ ps vs→cy γ qs vs
 | [],qs,vs,h,hv=>by
  cases h
  cases vs with
  | nil=>exact cy.nil _
  | cons=>exact absurd hv.1 (by simp)
 | p :: ps,qs,vs,h,hv=>by
  unfold nu at h;split at h
  ·rename_i q m h1 h2;cases h
   cases vs with
   | nil=>exact absurd hv.1 (by simp)
   | cons v vs=>exact .cons (rV hl h1 (hv.2 0 p v rfl rfl)) (ql hl h2 ⟨by simpa using hv.1,fun i a b ha hb=>hv.2 (i+1) a b ha hb⟩)
  ·cases h
theorem uE (hl:∀ k x,nb≤k→δ.loc k=some x→γ.loc (k - nb+n)=some x) {p q v:Value} (h:rU nb n p=some q) (hv:VR δ p v):VR γ q v:=by
 unfold rU at h;split at h
 ·simp only [Option.map_eq_some_iff] at h;obtain ⟨l,h1,rfl⟩:=h
  cases hv with
  | flat hf=>cases hf
  | agg e hc =>rename_i cs';have:=VR.kD (ql hl h1 (cy.mV e hc));simpa using this
 ·exact rV hl h hv
theorem rW (hl:∀ k x,nb≤k→δ.loc k=some x→γ.loc (k - nb+n)=some x):∀ {ps qs vs:List Value},pM nb n ps=some qs→cy δ ps vs→cy γ qs vs
 | [],qs,vs,h,hv=>by
  cases h
  cases vs with
  | nil=>exact cy.nil _
  | cons=>exact absurd hv.1 (by simp)
 | p :: ps,qs,vs,h,hv=>by
  unfold pM at h;split at h
  ·rename_i q m h1 h2;cases h
   cases vs with
   | nil=>exact absurd hv.1 (by simp)
   | cons v vs=>exact .cons (uE hl h1 (hv.2 0 p v rfl rfl)) (rW hl h2 ⟨by simpa using hv.1,fun i a b ha hb=>hv.2 (i+1) a b ha hb⟩)
  ·cases h
theorem Cr (hl:∀ k x,nb≤k→δ.loc k=some x→γ.loc (k - nb+n)=some x) {p q v:Value} (h:oH nb n p=some q) (hv:VR δ p v):VR γ q v:=by
 unfold oH at h;split at h
 ·simp only [Option.map_eq_some_iff] at h;obtain ⟨l,h1,rfl⟩:=h
  cases hv with
  | flat hf =>cases hf
  | tuple e hc =>rename_i cs';have:=VR.cL (rW hl h1 (cy.mV e hc));simpa using this
 ·exact uE hl h hv
end
structure XR (e:XE) (w:World) (v':Value) (δ':Gm) (w':World):Prop where
 val:VR δ' e.res v'
 new:∀ k b o,δ'.loc k=some (b,o)→e.eD.length≤k∧k < e.eD.length+e.news.length∧w.heap.size≤b∧b < w'.heap.size ∧
  ∀ cs,e.news[k - e.eD.length]?=some cs→∃ cs' el fz,w'.heap[b]?=some (.cells cs' el fz)∧∀ γ,dM γ cs cs' o
 os:w'.os=w.os
 tape:w'.tape=w.tape
 output:w'.output=w.output
 size:w.heap.size≤w'.heap.size
 same:∀ b,b < w.heap.size→w'.heap[b]?=w.heap[b]?
def aj (T : bL) (e : XE) : Prop :=
  (∃ fn c, T.P.funcs[e.f]? = some fn ∧ (fn.name == "runtime.NumGoroutine") = false ∧ fn.body = some c) ∧
  ∀ (δ : Gm) (w : World) (args' : List Value), δ.B ≤ w.heap.size → (∀ x ∈ GL, x.1 < δ.B ∧ HP (w.heap[x.1]?) x.2) → (∀ k b o, δ.loc k = some (b, o) → b < w.heap.size ∧ k < e.eD.length) →
    (∀ k b o cs, e.eD[k]? = some cs → δ.loc k = some (b, o) → ∃ cs' el fz, w.heap[b]? = some (.cells cs' el fz) ∧ dM δ cs cs' o) → cy δ e.args args' →
    CallsIn (FW none) 0 T.P e.f args'.toArray w fun en w' => ∃ v' δ', en = .returned v' ∧ XR e w v' δ' w'
noncomputable def oI (eD:List (List Value)):Hp:=eW Hp.empty eD
noncomputable def FD (hp:Hp) (φ:Ren) (nb:Nat):List (List Value)→Nat→Bool
 | [],_=>true
 | cs :: l,i=>(match φ.get (nb+i) with
  | some (k',o)=>match cells? (hp.get k') with
   | some (ds,own,_)=>own && (match cut ds o cs.length with
    | some vs=>Nat.beq vs.length cs.length && (cs.zip vs).all fun p=>Gz p.1 p.2
    | none=>false)
   | none=>false
  | none=>true) && FD hp φ nb l (i+1)
noncomputable def N8 (e:XE) (r:gL):Bool :=
 match r with
 | .ret v hp=>match wq (e.eD.length+e.news.length) e.res v .leaf with
  | some φ=>(List.range e.eD.length).all (fun i=>(φ.get i).isNone) && FD hp φ e.eD.length e.news 0
  | none=>false
 | .out ..=>false
noncomputable def PM (rn:qW→Option (List gL)) (e:XE):Bool :=
 match rn (.call e.f e.args (oI e.eD)) with
 | some L=>L.all (N8 e)
 | none=>false
theorem y9 {hp:Hp} {φ:Ren} {nb:Nat}:∀ {l:List (List Value)} {j:Nat},FD hp φ nb l j=true→∀ (i:Nat) (cs:List Value),l[i]?=some cs→∀ k' o,φ.get (nb+(j+i))=some (k',o) →
  ∃ ds es vs,hp.get k'=some (.cells ds true es)∧cut ds o cs.length=some vs∧vs=cs∧cs.all bh=true
 | [],j,h,i,cs,hi=>by cases hi
 | c :: l,j,h,i,cs,hi=>by
  intro k' o hk;simp only [FD,qq7] at h
  cases i with
  | zero =>
   have hi':c=cs:=by simpa using hi
   have h1:=h.1;rw [hi'] at h1;rw [Nat.add_zero] at hk;rw [hk] at h1;simp only at h1;split at h1
   ·rename_i ds own es hc;simp only [qq7] at h1;obtain ⟨h2,h3⟩:=h1;subst h2;split at h3
    ·rename_i vs hcut;simp only [qq7,List.all_eq_true] at h3;have hlen:=Nat.eq_of_beq_eq_true h3.1;have key:∀ (i:Nat) (a b:Value),cs[i]?=some a→vs[i]?=some b→a=b∧bh b=true:=fun i a b ha hb =>Al (h3.2 (a,b) (List.mem_of_getElem? (List.getElem?_zip_eq_some.2 ⟨ha,hb⟩)))
     have heq:vs=cs:=by
      apply List.ext_getElem? fun i=>?_
      cases ha:cs[i]? with
      | none=>rw [List.getElem?_eq_none_iff] at ha ⊢;omega
      | some a =>have hlt:=(List.getElem?_eq_some_iff.1 ha).1;have hb:vs[i]?=some (vs[i]'(by omega)):=List.getElem?_eq_getElem _;rw [hb,(key i a _ ha hb).1]
     refine ⟨ds,es,vs,eT hc,hcut,heq,?_⟩;rw [List.all_eq_true];intro x hx;obtain ⟨i,hi,rfl⟩:=List.getElem_of_mem hx;have ha:cs[i]?=some cs[i]:=List.getElem?_eq_getElem hi;exact (key i _ _ ha (by rw [heq];exact ha)).2
    ·cases h3
   ·cases h1
  | succ i=>exact y9 h.2 i cs hi k' o (by rw [show j+1+i=j+(i+1) by omega];exact hk)
theorem Is (eD:List (List Value)):(oI eD).n=eD.length:=by unfold oI;rw [mE];show 0+_=_;omega
theorem wz (eD:List (List Value)) (k:Nat) (a:bf) (h:(oI eD).get k=some a):∃ cs,eD[k]?=some cs∧a=.cells cs false 0:=by
 unfold oI at h;obtain ⟨_,h2,_⟩:=ir eD Hp.empty k;by_cases hk:k < eD.length
 ·have hc:eD[k]?=some eD[k]:=List.getElem?_eq_getElem hk;have:=(ir eD Hp.empty 0).2.2 k _ hc;rw [show Hp.empty.n+k=k from Nat.zero_add k] at this;rw [this] at h;cases h;exact ⟨_,hc,rfl⟩
 ·rw [h2 (by show 0+_≤_;omega)] at h;cases h
theorem Iu {T:bL} {rn:qW→Option (List gL)} {m:Nat} (hS:cO T rn m) {e:XE} (h:PM rn e=true):aj T e:=by
 unfold PM at h;split at h
 ·rename_i L hL;rw [List.all_eq_true] at h;obtain ⟨hfn,hcall⟩:=hS.call _ _ _ _ hL;refine ⟨hfn,fun δ w args' hB hgl hlt hrow ha=>?_⟩
  have hN:∃ N,∀ r ∈ L,r.hp.n≤N:=by
   clear h hL hcall
   induction L with
   | nil=>exact ⟨0,fun r hr=>by cases hr⟩
   | cons a l ih =>
    obtain ⟨N,hN⟩:=ih;refine ⟨max a.hp.n N,fun r hr=>?_⟩
    rcases List.mem_cons.1 hr with rfl|hr
    ·omega
    ·have:=hN r hr;omega
  obtain ⟨N,hN⟩:=hN;have hnown:∀ k a,(oI e.eD).get k=some a→a.own=false:=fun k a hk=>by obtain ⟨cs,_,rfl⟩:=wz _ _ _ hk;rfl
  have hhr:HR δ (oI e.eD).get w:=by
   refine ⟨fun k b o a hk hl=>?_,fun k k' b o o' a a' hk ho=>?_,fun k b o hl=>(hlt k b o hl).1,hB,hgl⟩
   ·obtain ⟨cs,h1,rfl⟩:=wz _ _ _ hk;obtain ⟨cs',el,fz,h2,h3⟩:=hrow k b o cs h1 hl;exact ⟨cs',el,fz,h2,h3,fun h=>Bool.noConfusion h⟩
   ·rw [hnown k a hk] at ho;cases ho
  have hfresh:fy δ (oI e.eD).n N:=fun k hk _=>by
   rw [Is] at hk
   cases hl:δ.loc k with
   | none=>rfl
   | some p=>have:=(hlt k p.1 p.2 hl).2;omega
  refine CallsIn.mono (F:=FW none) (hcall δ w args' N ((rT _ _).wf Cq) hhr hfresh hN ha) fun en w' hR=>?_;obtain ⟨v,hp,v',γ1,hm,rfl,hv,hs⟩:=hR;have hr:=h _ hm;unfold N8 at hr;simp only at hr;split at hr
  ·rename_i φ hφ;simp only [qq7,List.all_eq_true] at hr;obtain ⟨q1,q2,q3⟩:=Cp (γ:=γ1) hφ;refine ⟨v',γ1.ren φ,rfl,q3 φ (y8.refl φ) v' hv,fun k b o hl=>?_,hs.iB.os,hs.iB.tape,hs.iB.output,hs.iB.size,fun b hb=>hs.iB.same b hb fun k o a h1 h2 _=>by rw [hnown k a h1] at h2;cases h2⟩;simp only [Gm.ren,Option.bind_eq_some_iff,Option.map_eq_some_iff] at hl;obtain ⟨⟨k',o'⟩,h1,⟨b',d'⟩,h2,h3⟩:=hl;simp only [Prod.mk.injEq] at h3;obtain ⟨rfl,rfl⟩:=h3;simp only at h2;have hk1:e.eD.length≤k:=by apply Nat.le_of_not_lt;intro hlt';have:=hr.1 k (List.mem_range.2 hlt');rw [h1] at this;cases this
   have hk2:k < e.eD.length+e.news.length:=q2 (fun i x hx=>by cases hx) k _ h1;have hget:=y9 hr.2 (k - e.eD.length) _ (List.getElem?_eq_getElem (by omega)) k' o' (by rw [Nat.zero_add,show e.eD.length+(k - e.eD.length)=k by omega];exact h1);obtain ⟨ds,es,vs,r1,r2,r3,r4⟩:=hget;refine ⟨hk1,hk2,?_,hs.hr.lt _ _ _ h2,fun cs hcs=>?_⟩
   ·apply Nat.le_of_not_lt;intro hlt';obtain ⟨k0,o0,a0,t1,t2,_⟩:=hs.iB.uy k' b' d' _ r1 rfl h2 hlt';rw [hnown k0 a0 t1] at t2;cases t2
   ·obtain ⟨cs',el,fz,s1,s2,_⟩:=hs.hr.gT k' b' d' _ r1 h2;refine ⟨cs',el,fz,s1,fun γ j x hx=>?_⟩;obtain ⟨c',u1,u2,u3,u4,u5⟩:=s2.HZ r2;rw [List.getElem?_eq_getElem (by omega)] at hcs;simp only [qq9] at hcs;subst hcs;subst r3;obtain ⟨y,y1,y2⟩:=u1.get hx;have hfx:bh x=true:=List.all_eq_true.1 r4 x (List.mem_of_getElem? hx);have:=y2.bN hfx;subst this;exact ⟨_,u3 j _ y1,.flat hfx⟩
  ·cases hr
 ·cases h
noncomputable def mF (e:XE) (f:FuncId) (args:List Value) (H:Hp):Option (Value × Hp) :=
 bif Nat.beq e.f f then
  match jl e.eD.length e.args args .leaf with
  | some φ=>match kg e.eD.length H.get e.eD 0 φ with
   | some _=>(oH e.eD.length H.n e.res).map fun v=>(v,eW H e.news)
   | none=>none
  | none=>none
 else none
noncomputable def look (tab:List XE) (f:FuncId) (args:List Value) (H:Hp):Option (Value × Hp) :=
 List.rec none (fun e _ ih=>match mF e f args H with
  | some r=>some r
  | none=>ih) tab
noncomputable def rx (tab:List XE) (rec:qW→Option (List gL)) (j:qW):Option (List gL) :=
 match j with
 | .call f args H=>match look tab f args H with
  | some (v,H')=>some [.ret v H']
  | none=>rec (.call f args H)
 | .round l args H=>rec (.round l args H)
 | .loop c st=>rec (.loop c st)
theorem za {tab:List XE} {f:FuncId} {args:List Value} {H:Hp} {r:Value × Hp} (h:look tab f args H=some r):∃ e ∈ tab,mF e f args H=some r:=by
 induction tab with
 | nil=>cases h
 | cons e l ih =>
  have hu:look (e :: l) f args H=match mF e f args H with
   | some r=>some r
   | none=>look l f args H:=rfl
  rw [hu] at h
  cases h1:mF e f args H with
  | some r'=>rw [h1] at h;cases h;exact ⟨e,by simp,h1⟩
  | none =>rw [h1] at h;obtain ⟨e',m,h2⟩:=ih h;exact ⟨e',List.mem_cons_of_mem _ m,h2⟩
theorem wA {e:XE} {f:FuncId} {args:List Value} {H H':Hp} {v:Value} (h:mF e f args H=some (v,H')) :
  e.f=f∧H'=eW H e.news∧oH e.eD.length H.n e.res=some v∧∃ φ ψ,jl e.eD.length e.args args .leaf=some φ∧kg e.eD.length H.get e.eD 0 φ=some ψ:=by
 unfold mF at h
 cases hb:Nat.beq e.f f with
 | false=>rw [hb] at h;cases h
 | true =>
  rw [hb] at h;simp only [cond_true] at h;split at h
  ·rename_i φ hφ;split at h
   ·rename_i ψ hψ;simp only [Option.map_eq_some_iff,Prod.mk.injEq] at h;obtain ⟨v0,h1,rfl,rfl⟩:=h;exact ⟨Nat.eq_of_beq_eq_true hb,rfl,h1,φ,ψ,hφ,hψ⟩
   ·cases h
  ·cases h
theorem FE {tab:List XE} {rec:qW→Option (List gL)} (h:bE rec):bE (rx tab rec):=by
 intro j L hj
 cases j with
 | call f args H =>
  unfold rx at hj;simp only at hj;split at hj
  ·rename_i v H' hl;cases hj;obtain ⟨e,_,h1⟩:=za hl;obtain ⟨_,rfl,_⟩:=wA h1;exact .one (rT H e.news)
  ·exact h _ _ hj
 | round l args H=>exact h _ _ hj
 | loop c st=>exact h _ _ hj
theorem Ed {T : bL} {e : XE} (he : aj T e) {f : FuncId} {args : List Value} {H H' : Hp} {v : Value} (h : mF e f args H = some (v, H')) :
    (∃ fn c, T.P.funcs[f]? = some fn ∧ (fn.name == "runtime.NumGoroutine") = false ∧ fn.body = some c) ∧
    ∀ γ w args' N, Wf H → HR γ H.get w → fy γ H.n N → H'.n ≤ N → cy γ args args' → CallsIn (FW none) 0 T.P f args'.toArray w (tq γ H w [.ret v H']) := by
  obtain ⟨rfl, rfl, hsh, φ, ψ, hφ, hψ⟩ := wA h;refine ⟨he.1, fun γ w args' N hw hh hf hN ha => ?_⟩;obtain ⟨a1, a2, a3⟩ := nt (γ := γ) hφ;obtain ⟨b1, b2, b3⟩ := rS (γ := γ) hψ;have hu : wv e.eD.length ψ := b2 (a2 fun k x hx => by cases hx);rw [mE] at hN;refine CallsIn.mono (F := FW none) (he.2 (γ.ren ψ) w args' hh.base hh.gl (fun k b o hl => ?_) (fun k b o cs hk hl => ?_) (a3 ψ b1 args' ha)) fun en w' hR => ?_
  · simp only [Gm.ren, Option.bind_eq_some_iff, Option.map_eq_some_iff] at hl;obtain ⟨⟨k', o'⟩, h1, ⟨b', d'⟩, h2, h3⟩ := hl;simp only [Prod.mk.injEq] at h3;obtain ⟨rfl, rfl⟩ := h3;exact ⟨hh.lt _ _ _ h2, hu _ _ h1⟩
  · simp only [Gm.ren, Option.bind_eq_some_iff, Option.map_eq_some_iff] at hl;obtain ⟨⟨k', o'⟩, h1, ⟨b', d'⟩, h2, h3⟩ := hl;simp only [Prod.mk.injEq] at h3;obtain ⟨rfl, rfl⟩ := h3;obtain ⟨k1, o1, cs1, own, es, vs, r1, r2, r3, r4⟩ := b3 k cs hk;rw [Nat.zero_add] at r1;rw [r1] at h1;cases h1;obtain ⟨cs', el, fz, s1, s2, _⟩ := hh.gT _ _ _ _ r2 h2;refine ⟨cs', el, fz, s1, fun j x hx => ?_⟩;obtain ⟨c', u1, u2, u3, u4, u5⟩ := s2.HZ r3;have := r4 ψ (y8.refl ψ) c' u1;obtain ⟨y, y1, y2⟩ := this.get hx;exact ⟨y, u3 j y y1, y2⟩
  · obtain ⟨v', δ', rfl, X⟩ := hR
    let γ' : Gm := { γ with loc := fun k => if H.n ≤ k ∧ k < H.n + e.news.length then δ'.loc (k - H.n + e.eD.length) else γ.loc k }
    have hold : ∀ k, ¬ (H.n ≤ k ∧ k < H.n + e.news.length) → γ'.loc k = γ.loc k := fun k hk => if_neg hk;have hnew : ∀ k, (H.n ≤ k ∧ k < H.n + e.news.length) → γ'.loc k = δ'.loc (k - H.n + e.eD.length) := fun k hk => if_pos hk
    have hle : γ.Le γ' := by
      refine ⟨fun k x hx => ?_, fun k x hx => rfl, rfl⟩;by_cases hk : H.n ≤ k ∧ k < H.n + e.news.length
      · rw [hf k hk.1 (by omega)] at hx; cases hx
      · rw [hold k hk]; exact hx
    have hget : ∀ k a, (eW H e.news).get k = some a → (¬ (H.n ≤ k ∧ k < H.n + e.news.length) ∧ H.get k = some a) ∨ ((H.n ≤ k ∧ k < H.n + e.news.length) ∧ ∃ cs, e.news[k - H.n]? = some cs ∧ a = .cells cs false 0) := by
      intro k a hk;obtain ⟨g1, g2, g3⟩ := ir e.news H k;by_cases hr : H.n ≤ k ∧ k < H.n + e.news.length
      · refine .inr ⟨hr, ?_⟩;have hc : e.news[k - H.n]? = some (e.news[k - H.n]'(by omega)) := List.getElem?_eq_getElem _;have := g3 _ _ hc;rw [show H.n + (k - H.n) = k by omega, hk] at this;cases this;exact ⟨_, hc, rfl⟩
      · refine .inl ⟨hr, ?_⟩;by_cases hlt : k < H.n
        · rw [← g1 hlt]; exact hk
        · rw [← g2 (by omega)]; exact hk
    have hnl : ∀ k b o, (H.n ≤ k ∧ k < H.n + e.news.length) → γ'.loc k = some (b, o) → w.heap.size ≤ b ∧ b < w'.heap.size := fun k b o hk hl => by rw [hnew k hk] at hl;obtain ⟨_, _, x3, x4, _⟩ := X.new _ _ _ hl;exact ⟨x3, x4⟩
    have hhr : HR γ' (eW H e.news).get w' := by
      refine ⟨fun k b o a hk hl => ?_, fun k k' b o o' a a' hk ho hk' hd hne hl hl' => ?_, fun k b o hl => ?_, Nat.le_trans hh.base X.size, fun x hx => ⟨by rw [hle.B]; exact (hh.gl x hx).1, by rw [X.same _ (Nat.lt_of_lt_of_le (hh.gl x hx).1 hh.base)]; exact (hh.gl x hx).2⟩⟩
      · rcases hget k a hk with ⟨h1, h2⟩ | ⟨h1, cs, h2, rfl⟩
        · rw [hold k h1] at hl;exact (hh.gT k b o a h2 hl).mono hle hl (X.same b (hh.lt _ _ _ hl))
        · rw [hnew k h1] at hl;obtain ⟨_, _, _, _, x5⟩ := X.new _ _ _ hl;rw [show k - H.n + e.eD.length - e.eD.length = k - H.n by omega] at x5;obtain ⟨cs', el, fz, y1, y2⟩ := x5 cs h2;exact ⟨cs', el, fz, y1, y2 γ', fun h => Bool.noConfusion h⟩
      · rcases hget k a hk with ⟨h1, h2⟩ | ⟨h1, cs, h2, rfl⟩
        · have hl0 := hl;rw [hold k h1] at hl0
          rcases hget k' a' hk' with ⟨h1', h2'⟩ | ⟨h1', _⟩
          · rw [hold k' h1'] at hl';exact hh.inj k k' b o o' a a' h2 ho h2' hd hne hl0 hl'
          · have := (hnl k' b o' h1' hl').1;have := hh.lt k b o hl0;omega
        · cases ho
      · by_cases hk : H.n ≤ k ∧ k < H.n + e.news.length
        · exact (hnl k b o hk hl).2
        · rw [hold k hk] at hl;exact Nat.lt_of_lt_of_le (hh.lt k b o hl) X.size
    refine ⟨v, eW H e.news, v', γ', by simp, rfl, Cr (fun k x hk hl => ?_) hsh X.val, ⟨by rw [mE]; omega, hle, fun k hk => hold k (by rw [mE] at hk; omega), hhr, ?_⟩⟩
    · have := X.new k x.1 x.2 hl;rw [hnew _ (by omega), show k - e.eD.length + H.n - H.n + e.eD.length = k by omega];exact hl
    · refine ⟨X.os, X.tape, X.output, X.size, fun b hb _ => X.same b hb, fun k b o a hk ho hl hb => ?_, fun k b o a hk hd hl hb => ?_, fun k b o hl hb => ?_⟩
      · rcases hget k a hk with ⟨h1, h2⟩ | ⟨h1, _⟩
        · rw [hold k h1] at hl; exact ⟨k, o, a, h2, ho, hl⟩
        · have := (hnl k b o h1 hl).1; omega
      · rcases hget k a hk with ⟨h1, h2⟩ | ⟨h1, _⟩
        · rw [hold k h1] at hl; exact ⟨k, o, a, h2, hd, hl⟩
        · have := (hnl k b o h1 hl).1; omega
      · by_cases hk : H.n ≤ k ∧ k < H.n + e.news.length
        · have := (hnl k b o hk hl).1; omega
        · rw [hold k hk] at hl; exact ⟨k, o, hl⟩
theorem Cs {T:bL} {tab:List XE} (ht:∀ e ∈ tab,aj T e) {rec:qW→Option (List gL)} {m:Nat} (hS:cO T rec m):cO T (rx tab rec) m:=by
 refine ⟨fun f args hp L h=>?_,hS.round,hS.loop⟩;unfold rx at h;simp only at h;split at h
 ·rename_i v H' hl;cases h;obtain ⟨e,he,h1⟩:=za hl;obtain ⟨x1,x2⟩:=Ed (ht e he) h1;exact ⟨x1,fun γ w args' N hw hh hf hN ha=>x2 γ w args' N hw hh hf (hN (.ret v H') (by simp)) ha⟩
 ·exact hS.call f args hp L h
noncomputable def u9 (tab:List XE) (T:bL) (n:Nat):qW→Option (List gL) :=
 Nat.rec (motive:=fun _=>qW→Option (List gL)) (fun _=>none) (fun _ ih j=>iF T (rx tab ih) j) n
theorem GS (tab:List XE) (T:bL) (n:Nat):bE (u9 tab T n):=by
 induction n with
 | zero=>intro j L h;cases h
 | succ n ih=>exact fun j L h=>DY (FE ih) j L h
theorem wB {T:bL} (hT:cE T) (hm:T.P.follows .mixedOrders=true) {tab:List XE} (ht:∀ e ∈ tab,aj T e) (n:Nat):cO T (u9 tab T n) n:=by
 induction n with
 | zero=>exact {call:=fun _ _ _ _ h=>(by cases h),round:=fun _ _ _ _ h=>(by cases h),loop:=fun _ _ _ h=>(by cases h)}
 | succ n ih =>have hk:=FE (tab:=tab) (GS tab T n);have hs:=Cs ht ih;exact D4 hT hk hs (Ea hT hm hk hs)
theorem ak {T:bL} (hT:cE T) (hm:T.P.follows .mixedOrders=true) {tab:List XE} (ht:∀ e ∈ tab,aj T e) {e:XE} (n:Nat) (h:PM (u9 tab T n) e=true):aj T e :=
 Iu (wB hT hm ht n) h
end Go.RM
