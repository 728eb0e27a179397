/-
  A layer of contracts over the abstract machine. Lemmas alone; no condition.
-/
import Derived.Test.YtlpmfgmldmdggaaGreatR4
import Derived.ProofKit
import Derived.Carry
namespace Go.RM
open Go Go.ChangeShapes Go.WideShapes Go.ChangeAt Go.RowKit
section
variable {P : Program} {D : Type} {enc : TypeId × Value → D}
theorem pO (hl:laidOutB P=true) {W W':World} (hb:Below W.heap.size W W'):∀ {ts:List TypeId} {vs:List Value} {ds:List (DataW D)} {ps:List MemPlace},(ts.all fun t=>P.readableRec t && decide (t < P.types.size))=true →
  DataW.TrodAll enc P W 0 (fun _=>true) true ts vs ds ps→(∀ p ∈ ps,p.block < W.heap.size)→∀ sp:Nat→Bool,(∀ p ∈ ps,sp p.block=true)→DataW.TrodAll enc P W' 0 sp true ts vs ds ps
 | [],[],[],ps,_,h,_,sp,_=>h
 | t :: ts,v :: vs,d :: ds,ps,hr,h,hlt,sp,hs=>by obtain ⟨p,q,h1,h2,rfl⟩:=h;simp only [List.all_cons,qq7,decide_eq_true_eq] at hr;refine ⟨p,q,WideElems.Trod_stays hl hr.1.1 hr.1.2 h1 (fun x hx=>hb.same (hlt x (List.mem_append_left _ hx))) (fun x hx=>hs x (List.mem_append_left _ hx)),?_,rfl⟩;exact pO hl hb hr.2 h2 (fun x hx=>hlt x (List.mem_append_right _ hx)) sp (fun x hx=>hs x (List.mem_append_right _ hx))
 | [],_ :: _,_,_,_,h,_,_,_=>by simp [DataW.TrodAll] at h
 | [],[],_ :: _,_,_,h,_,_,_=>by simp [DataW.TrodAll] at h
 | _ :: _,[],_,_,_,h,_,_,_=>by simp [DataW.TrodAll] at h
 | _ :: _,_ :: _,[],_,_,h,_,_,_=>by simp [DataW.TrodAll] at h
theorem tN {W:World} {base:Nat} {spare:Nat→Bool} {held:Bool}:∀ {ts:List TypeId} {vs:List Value} {ds:List (DataW D)} {ps:List MemPlace},DataW.TrodAll enc P W base spare held ts vs ds ps→ds.length=ts.length
 | [],[],[],_,_=>rfl
 | _ :: _,_ :: _,_ :: _,_,h=>by obtain ⟨p,q,_,h2,_⟩:=h;simp [tN h2]
 | [],_ :: _,_,_,h=>by simp [DataW.TrodAll] at h
 | [],[],_ :: _,_,h=>by simp [DataW.TrodAll] at h
 | _ :: _,[],_,_,h=>by simp [DataW.TrodAll] at h
 | _ :: _,_ :: _,[],_,h=>by simp [DataW.TrodAll] at h
theorem Bd (hl:laidOutB P=true) {f:FuncId} {fn:Func} {s:ChangeSpec} {tb:TypeId} (hr:(fn.params.toList.all fun t=>P.readableRec t && decide (t < P.types.size))=true) (hres:fn.resultTypes=#[tb])
  (hb:P.underlying tb=some .bool) (hv:s.vars=[]) (hs:∀ (ds:List (DataW D)),ds.length=fn.params.toList.length→s.fn D ds={results:=[.lit (.bool true)],args:=ds})
  {W:World} {args:Array Value} {ds gs:List (DataW D)} {before:List MemPlace} (hW:DataW.Whole enc P fn.params.toList s.vars false W args.toList ds gs before)
  (hc:Calls P f args W fun e w'=>e=.returned (.bool true)∧Below W.heap.size W w') :
  Calls P f args W fun e W'=>∃ v,e=.returned v∧s.post enc P fn false true false false W args v W':=by
 have hlt:=hW.lt;have hW':=hW;obtain ⟨p,q,hA,hV,rfl,hfz,hnd⟩:=hW;rw [hv] at hV;obtain ⟨rfl,rfl⟩:=trodVars_none hV;have hds:=hs ds (tN hA);refine hc.mono fun e W' ⟨he,hw⟩=>?_;subst he;have hp:∀ x ∈ p,x.block < W.heap.size:=fun x hx=>hlt x (List.mem_append_left _ hx);have hold:∀ x ∈ p,(fun b=>decide (b < W.heap.size)) x.block=true:=fun x hx=>by simpa using hp x hx
 have hone:DataW.TrodAll enc P W' 0 (fun _=>false) false fn.resultTypes.toList ((Value.bool true).resultList fn.resultTypes.size) [.lit (.bool true)] []:=by rw [hres];exact trodAll_mk1 (shut_bool hb true)
 have hone':DataW.TrodAll enc P W' 0 (fun _=>true) true fn.resultTypes.toList ((Value.bool true).resultList fn.resultTypes.size) [.lit (.bool true)] []:=by rw [hres];exact trodAll_mk1 (shut_bool hb true)
 have hnow:=pO hl hw hr hA hp;simp only [List.append_nil] at hW' hfz hnd;refine ⟨_,rfl,ds,[],p,[],p,[],by simpa using hW',?_,?_,?_,hw.frame _,fun _=>⟨ok_one hres rfl (okWide_bool_mk hb true),_,[],([]++p)++[],⟨[]++p,[],trodAll_append (hnow _ (fun _ _=>rfl)) hone',?_,rfl,?_,?_⟩,?_⟩⟩
 ·rw [List.append_nil,hds,hres];exact trodAll_mk1 (shut_bool hb true)
 ·rw [List.append_nil,hds];exact hnow _ hold
 ·rw [List.append_nil,hds,hv];rfl
 ·rw [hv];rfl
 ·intro b off hx;have hx':MemPlace.cell b off ∈ p:=by simpa using hx
  have hb':b < W.heap.size:=hp _ hx';rw [hw.frozen hb'];exact hfz b off hx'
 ·intro ha;cases ha
 ·intro x hx _;simpa using hx
end
end Go.RM
namespace Go.RM
open Go
abbrev Rec:=nw→Option (List eH)
def eK (a b:Rec):Prop:=∀ j L,a j=some L→b j=some L
section
variable {T : bG} {a b : Rec}
theorem eC {α β:Type} {f g:α→Option (List β)} (h:∀ x M,f x=some M→g x=some M):∀ {L:List α} {M:List β},bM L f=some M→bM L g=some M
 | [],M,e=>by rw [xX] at e ⊢;exact e
 | [x],M,e=>by rw [eA] at e ⊢;exact h _ _ e
 | x :: y :: l,M,e=>by
  rw [j8] at e ⊢
  cases hx:f x with
  | none=>rw [hx] at e;cases e
  | some X =>rw [hx] at e;simp only [Option.map_eq_some_iff] at e;obtain ⟨Y,hY,rfl⟩:=e;rw [h _ _ hx];simp only [eC h hY,Option.map_some]
theorem Bg (h:eK a b) {o:Op} {st:St} {L:List (Value × Hp)} (e:eJ T a o st=some L):eJ T b o st=some L:=by
 unfold eJ at e ⊢
 cases hk:cZ o with
 | call f args =>
  rw [hk] at e;simp only at e ⊢
  cases hg:cz (lM T.P st.fr f) (args.map (bh st.fr)) with
  | none=>rw [hg] at e;cases e
  | some g =>
   rw [hg] at e;simp only at e ⊢
   cases hr:a (jY st.hp g) with
   | none=>rw [hr] at e;cases e
   | some M=>rw [hr] at e;rw [h _ _ hr];exact e
 | next it=>rw [hk] at e;exact e
 | plain=>rw [hk] at e;exact e
theorem iM (h:eK a b) (ops:List Oper):∀ (l:List Oper) (st:St) (L:List St),bH T a ops l st=some L→bH T b ops l st=some L:=by
 intro l
 induction l with
 | nil=>intro st L e;exact e
 | cons o l ih =>
  intro st L e;rw [dj] at e ⊢
  cases hg:bz ops st.fr o.guard with
  | false=>rw [hg] at e;exact ih _ _ e
  | true =>
   rw [hg] at e;simp only [cond_true] at e ⊢
   cases ho:eJ T a o.op st with
   | none=>rw [ho] at e;cases e
   | some M =>rw [ho] at e;rw [Bg h ho];exact eC (fun x M hx=>ih _ _ hx) e
theorem yc (h:eK a b) {o:Op} {i:Nat} {st:St} {r:Value × Hp × Tc} (e:cg T a o i st=some r):cg T b o i st=some r:=by
 unfold cg at e ⊢
 cases hk:cZ o with
 | call f args =>
  rw [hk] at e;simp only at e ⊢
  cases hg:cz (lM T.P st.fr f) (args.map (bh st.fr)) with
  | none=>rw [hg] at e;cases e
  | some g =>
   rw [hg] at e;simp only at e ⊢
   cases hr:a (jY {st.hp with lo:=st.hp.n} g) with
   | none=>rw [hr] at e;cases e
   | some M=>rw [hr] at e;rw [h _ _ hr];exact e
 | next it=>rw [hk] at e;exact e
 | plain=>rw [hk] at e;exact e
theorem je (h:eK a b) (ops:Array Oper):∀ (l:List Oper) (i:Nat) (st:St) (acc:List Ev) (L:List St),cv T a ops l i st acc=some L→cv T b ops l i st acc=some L:=by
 intro l
 induction l with
 | nil=>intro i st acc L e;exact e
 | cons o l ih =>
  intro i st acc L e;rw [cJ] at e ⊢
  cases hg:bz ops.toList st.fr o.guard with
  | false=>rw [hg] at e;exact ih _ _ _ _ e
  | true =>
   rw [hg] at e;simp only [cond_true] at e ⊢
   cases ho:cg T a o.op i st with
   | none=>rw [ho] at e;cases e
   | some r=>rw [ho] at e;rw [yc h ho];exact ih _ _ _ _ e
theorem Bh (h:eK a b) {o:Op} {i:Nat} {st:St} {P:List (Value × Hp × Tc)} (e:ep T a o i st=some P):ep T b o i st=some P:=by
 unfold ep at e ⊢
 cases hk:cZ o with
 | call f args =>
  rw [hk] at e;simp only at e ⊢
  cases hg:cz (lM T.P st.fr f) (args.map (bh st.fr)) with
  | none=>rw [hg] at e;cases e
  | some g =>
   rw [hg] at e;simp only at e ⊢
   cases hr:a (jY {st.hp with lo:=st.hp.n} g) with
   | none=>rw [hr] at e;cases e
   | some M=>rw [hr] at e;rw [h _ _ hr];exact e
 | next it=>rw [hk] at e;cases e
 | plain=>rw [hk] at e;cases e
theorem F9 (h:eK a b) {ops:Array Oper} {o:Oper} {i:Nat} {st:St} {P:List (Value × Hp × Tc)} (e:j5 T a ops o i st=some P):j5 T b ops o i st=some P:=by
 unfold j5 at e ⊢
 cases hg:bz ops.toList st.fr o.guard with
 | false=>rw [hg] at e;exact e
 | true=>rw [hg] at e;exact Bh h e
theorem qZ (h:eK a b) (ops:Array Oper) {K K':St→List Ev→Option (List St)} (hK:∀ st acc L,K st acc=some L→K' st acc=some L):∀ (l:List Oper) (i:Nat) (st:St) (acc:List Ev) (L:List St),fK T a ops l K i st acc=some L→fK T b ops l K' i st acc=some L:=by
 intro l
 induction l with
 | nil=>intro i st acc L e;exact hK _ _ _ e
 | cons o l ih =>
  intro i st acc L e;rw [gX] at e ⊢
  cases hg:bz ops.toList st.fr o.guard with
  | false=>rw [hg] at e;exact ih _ _ _ _ e
  | true =>
   rw [hg] at e;simp only [cond_true] at e ⊢
   cases ho:cg T a o.op i st with
   | none=>rw [ho] at e;cases e
   | some r=>rw [ho] at e;rw [yc h ho];exact ih _ _ _ _ e
theorem Ga (h:eK a b) {ops:Array Oper} {c:Nat} {st:St} {acc:List Ev} {L:List St} (e:uZ T a ops c st acc=some L):uZ T b ops c st acc=some L:=by obtain ⟨o,P,h1,h2,h3,h4⟩:=qa e;unfold uZ;simp only [h1,F9 h h2,List.all_eq_true.2 h3,cond_true];exact eC (fun x N hx=>iM h _ _ _ _ hx) h4
theorem tO (h:eK a b) {ops:Array Oper} {st:St} {L:List St} (e:cK T a ops st=some L):cK T b ops st=some L:=by
 rcases lz e with ⟨c,h1,h2⟩|⟨h1,M,h2,h3⟩
 ·unfold cK;rw [h1];exact qZ h ops (fun _ _ _=>Ga h) _ _ _ _ _ h2
 ·unfold cK;simp only [h1,je h _ _ _ _ _ _ h2];exact eC (fun x N hx=>iM h _ _ _ _ hx) h3
theorem tP {ops:Array Oper} {e:Ev} {acc:List Ev} (h:eP T ops (e :: acc)=true):eP T ops acc=true:=by
 have hp:=fP h;unfold eO at hp;rw [qq7] at hp;unfold eP
 cases (acc.all fun e=>e.t.wr.isEmpty && Nat.beq e.t.a e.t.b) with
 | true=>rfl
 | false=>exact hp.2
theorem tQ {r:Rec} {ops:Array Oper}:∀ (l:List Oper) (i:Nat) (st:St) (acc:List Ev) (L:List St),cv T r ops l i st acc=some L→eP T ops acc=true:=by
 intro l
 induction l with
 | nil =>
  intro i st acc L h;rw [fN] at h
  cases hc:eP T ops acc with
  | true=>rfl
  | false=>rw [hc] at h;cases h
 | cons o l ih =>
  intro i st acc L h;rw [cJ] at h
  cases hg:bz ops.toList st.fr o.guard with
  | false=>rw [hg] at h;exact tP (ih _ _ _ _ h)
  | true =>
   rw [hg] at h;simp only [cond_true] at h
   cases ho:cg T r o.op i st with
   | none=>rw [ho] at h;cases h
   | some p=>rw [ho] at h;exact tP (ih _ _ _ _ h)
theorem rj {r:Rec} {ops:Array Oper}:∀ (l:List Oper) (i:Nat) (st:St) (acc:List Ev) {L:List St},cv T r ops l i st acc=some L→∃ s,L=[s]:=by
 intro l
 induction l with
 | nil =>
  intro i st acc L h;rw [fN] at h
  cases hc:eP T ops acc with
  | true=>rw [hc] at h;cases h;exact ⟨_,rfl⟩
  | false=>rw [hc] at h;cases h
 | cons o l ih =>
  intro i st acc L h;rw [cJ] at h
  cases hg:bz ops.toList st.fr o.guard with
  | false=>rw [hg] at h;exact ih _ _ _ h
  | true =>
   rw [hg] at h;simp only [cond_true] at h
   cases ho:cg T r o.op i st with
   | none=>rw [ho] at h;cases h
   | some p=>rw [ho] at h;exact ih _ _ _ h
theorem vT {r:Rec} {ops:Array Oper} (l2:List Oper):∀ (l1:List Oper) (i:Nat) (st:St) (acc:List Ev),cv T r ops (l1++l2) i st acc=fK T r ops l1 (fun st acc=>cv T r ops l2 (i+l1.length) st acc) i st acc:=by
 intro l1
 induction l1 with
 | nil=>intro i st acc;rfl
 | cons o l ih =>intro i st acc;rw [List.cons_append,cJ,gX,List.length_cons,show i+(l.length+1)=i+1+l.length by omega];simp only [ih]
theorem yd {r:Rec} {ops:Array Oper} {s':St}:∀ (l:List Oper) (i:Nat) (st:St) (acc:List Ev),l.all Cf=true→cv T r ops l i st acc=some [s']→bH T r ops.toList l st=some [s']:=by
 intro l
 induction l with
 | nil =>
  intro i st acc _ h;rw [fN] at h
  cases hc:eP T ops acc with
  | true=>rw [hc] at h;exact h
  | false=>rw [hc] at h;cases h
 | cons o l ih =>
  intro i st acc hp h;rw [List.all_cons,qq7] at hp;rw [cJ] at h;rw [dj]
  cases hg:bz ops.toList st.fr o.guard with
  | false=>rw [hg] at h;exact ih _ _ _ hp.2 h
  | true =>
   rw [hg] at h;simp only [cond_true] at h ⊢
   have hk:cZ o.op=.plain:=by
    have:=hp.1;unfold Cf at this;split at this
    ·assumption
    ·cases this
   cases ho:cg T r o.op i st with
   | none=>rw [ho] at h;cases h
   | some p =>
    obtain ⟨v,hp',t⟩:=p;rw [ho] at h;unfold cg at ho;rw [hk] at ho;simp only at ho;split at ho
    ·rename_i ef _ hop;cases ho;have:eJ T r o.op st=some [(v,st.hp.app ef)]:=by unfold eJ;simp only [hk,hop]
     rw [this];exact ih _ _ _ hp.2 h
    ·cases ho
theorem EJ {ops:Array Oper} {c:Nat} (h:w7 ops=some c):fS ops=ops.toList.length:=by
 unfold w7 at h;unfold fS;split at h
 ·cases h
 ·rename_i hn;simp only
theorem Bi {r:Rec} {ops:Array Oper} {st s':St} (ht:fS ops=ops.toList.length) (h:cv T r ops ops.toList 0 st []=some [s']):cK T r ops st=some [s']:=by
 unfold cK
 cases hn:w7 ops with
 | none =>simp only;rw [ht,List.take_length,List.drop_length,h];rfl
 | some c =>
  show Dq T r ops c st=some [s'];unfold w7 at hn;split at hn
  ·cases hn
  ·have hb:=List.find?_some hn;unfold Ky at hb;rw [qq7,qq7] at hb;obtain ⟨⟨h1,_⟩,h3⟩:=hb;split at h1
   ·rename_i o ho;have hlt:c < ops.toList.length:=(List.getElem?_eq_some_iff.1 ho).1;have hs:ops.toList=ops.toList.take c++o :: ops.toList.drop (c+1):=by have e:=List.getElem?_eq_some_iff.1 ho;rw [←e.2,List.getElem_cons_drop,List.take_append_drop]
    have h':cv T r ops (ops.toList.take c++o :: ops.toList.drop (c+1)) 0 st []=some [s']:=by rw [←hs];exact h
    rw [vT] at h';have hcl:(ops.toList.take c).length=c:=by rw [List.length_take];omega
    rw [hcl,Nat.zero_add] at h';refine qZ (fun _ _ e=>e) ops (fun s acc L e=>?_) _ _ _ _ _ h';rw [cJ] at e;unfold uZ j5
    cases hg:bz ops.toList s.fr o.guard with
    | false =>rw [hg] at e;simp only [cond_false] at e;obtain ⟨s2,rfl⟩:∃ s2,L=[s2]:=rj _ _ _ _ e;simp only [ho,hg,cond_false,List.all_cons,List.all_nil,Bool.and_true];rw [tQ _ _ _ _ _ e];simp only [cond_true];rw [eA];exact yd _ _ _ _ h3 e
    | true =>
    rw [hg] at e;simp only [cond_true] at e
    cases hd:cg T r o.op c s with
    | none=>rw [hd] at e;cases e
    | some p =>
     obtain ⟨v,hp,t⟩:=p;rw [hd] at e;simp only at e;obtain ⟨s2,rfl⟩:∃ s2,L=[s2]:=rj _ _ _ _ e
     have hm:ep T r o.op c s=some [(v,hp,t)]:=by
      have hk:∃ f as,cZ o.op=.call f as:=by
       unfold FH at h1;split at h1
       ·rename_i e1;rw [e1];exact ⟨_,_,rfl⟩
       ·cases h1
      obtain ⟨f,as,hk⟩:=hk;unfold cg at hd;unfold ep;simp only [hk] at hd ⊢;split at hd
      ·rename_i g hg;split at hd
       ·rename_i v0 hp0 hr;simp only [hr];rw [eA];show some [jZ c s v0 hp0]=_;rw [Option.some.inj hd]
       ·cases hd
      ·cases hd
     simp only [ho,hg,cond_true,hm,List.all_cons,List.all_nil,Bool.and_true];rw [tQ _ _ _ _ _ e];simp only [cond_true];rw [eA];exact yd _ _ _ _ h3 e
   ·cases h1
theorem dV (h:eK a b):∀ (c:Code) (st:St) (L:List (Exit × St)),bJ T a c st=some L→bJ T b c st=some L:=by
 intro c
 induction c with
 | skip=>intro st L e;exact e
 | region id ops draw =>
  intro st L e;rw [gY] at e ⊢
  cases draw with
  | false =>
   simp only [cond_false] at e ⊢
   cases ho:bH T a ops.toList ops.toList st with
   | none=>rw [ho] at e;cases e
   | some M=>rw [ho] at e;rw [iM h _ _ _ _ ho];exact e
  | true =>
   simp only [cond_true] at e ⊢
   cases ho:cK T a ops st with
   | none=>rw [ho] at e;cases e
   | some M =>rw [ho] at e;rw [tO h ho];exact e
 | seq c d ihc ihd =>
  intro st L e;rw [oB] at e ⊢
  cases ho:bJ T a c st with
  | none=>rw [ho] at e;cases e
  | some M =>
   rw [ho] at e;rw [ihc _ _ ho];refine eC (fun p N hp=>?_) e;unfold u0 at hp ⊢;split at hp
   ·exact ihd _ _ hp
   ·exact hp
 | cond c x y ihx ihy =>
  intro st L e;rw [kg] at e ⊢;split at e
  ·rename_i t ht
   cases t with
   | true=>exact ihx _ _ e
   | false=>exact ihy _ _ e
  ·cases e
 | block id c ih =>
  intro st L e;rw [kO] at e ⊢
  cases ho:bJ T a c st with
  | none=>rw [ho] at e;cases e
  | some M=>rw [ho] at e;rw [ih _ _ ho];exact e
 | loop c ih =>
  intro st L e;rw [mB] at e ⊢
  cases ho:a (.loop c st) with
  | none=>rw [ho] at e;cases e
  | some M=>rw [ho] at e;rw [h _ _ ho];exact e
 | rangeFunc f ps x y ihx ihy =>
  intro st L e;rw [kP] at e ⊢;unfold mg at e ⊢;split at e
  ·rename_i g args hg
   cases ho:a (.call g args (st.hp.push (.loop .ready none st.fr ps x y))) with
   | none=>rw [ho] at e;cases e
   | some M=>rw [ho] at e;rw [h _ _ ho];exact e
  ·cases e
 | exit id=>intro st L e;exact e
 | scope c ih =>intro st L e;rw [kQ] at e ⊢;obtain ⟨e1,e2⟩:=nL e;rw [ih _ _ e1];rw [e1] at e;exact e
 | label l=>intro st L e;exact e
 | goto l=>intro st L e;exact e
 | ret=>intro st L e;exact e
 | refuse y=>intro st L e;exact e
def qh (a b:qw→Option (List eG)):Prop:=∀ j L,a j=some L→b j=some L
section
variable {pa pb : qw → Option (List eG)}
theorem EK (h:eK a b) (hp:qh pa pb) {o:Op} {st:St} {L:List eG} (e:iD T a pa o st=some L):iD T b pb o st=some L:=by
 unfold iD at e ⊢;split
 ·rename_i x hx;rw [hx] at e;exact e
 ·rename_i hx;rw [hx] at e;simp only at e;split
  ·rename_i g as hg;rw [hg] at e;exact hp _ _ e
  ·rename_i hg;rw [hg] at e;simp only [Option.map_eq_some_iff] at e ⊢;obtain ⟨M,h1,h2⟩:=e;exact ⟨M,Bg h h1,h2⟩
theorem tR (h:eK a b) (hp:qh pa pb) (ops:List Oper):∀ (l:List Oper) (st:St) (L:List (Option Value × St)),cC T a pa ops l st=some L→cC T b pb ops l st=some L:=by
 intro l
 induction l with
 | nil=>intro st L e;exact e
 | cons o l ih =>
  intro st L e;rw [iW] at e ⊢
  cases hg:bz ops st.fr o.guard with
  | false=>rw [hg] at e;exact ih ⟨dL st.fr o.dst undef,st.hp,st.rd⟩ L e
  | true =>
   rw [hg] at e;simp only [cond_true] at e ⊢
   cases hx:iD T a pa o.op st with
   | none=>rw [hx] at e;cases e
   | some A =>
    rw [hx] at e;rw [EK h hp hx];refine eC (fun r M hr=>?_) e
    rcases qI hr with ⟨v,h1,rfl,h2⟩|⟨v,h1,rfl,rfl⟩
    ·exact ih _ _ h2
    ·rfl
theorem zm (h:eK a b) (hp:qh pa pb) {ops:Array Oper} {st:St} {L:List (Option Value × St)} (e:dF T a pa ops st=some L):dF T b pb ops st=some L:=by
 rcases kq e with ⟨c,h1,M,h2,h3⟩|⟨h1,M,h2,rfl⟩
 ·unfold dF;rw [h1];simp only [je h _ _ _ _ _ _ h2];exact eC (fun _ _=>tR h hp _ _ _ _) h3
 ·unfold dF;rw [h1];simp only [tO h h2]
theorem sF (h:eK a b) (hp:qh pa pb):∀ (c:Code) (st:St) (L:List (nx × St)),cF T a pa c st=some L→cF T b pb c st=some L:=by
 intro c
 induction c with
 | region id ops draw =>
  intro st L e;rw [lB] at e ⊢
  cases draw with
  | true =>
   simp only [cond_true] at e ⊢
   cases hx:dF T a pa ops st with
   | none=>rw [hx] at e;cases e
   | some R=>rw [hx] at e;rw [zm h hp hx];exact e
  | false =>
   simp only [cond_false] at e ⊢
   cases hx:cC T a pa ops.toList ops.toList st with
   | none=>rw [hx] at e;cases e
   | some R=>rw [hx] at e;rw [tR h hp _ _ _ _ hx];exact e
 | seq x y ihx ihy =>
  intro st L e;rw [qc] at e ⊢
  cases hx:cF T a pa x st with
  | none=>rw [hx] at e;cases e
  | some R =>
   rw [hx] at e;rw [ihx _ _ hx];refine eC (fun p M hq=>?_) e;obtain ⟨z,s⟩:=p;unfold xR at hq ⊢;simp only at hq ⊢;split at hq
   ·exact ihy _ _ hq
   ·exact hq
 | cond c x y ihx ihy =>
  intro st L e;rw [nO] at e ⊢;split at e
  ·rename_i t _
   cases t with
   | true=>exact ihx _ _ e
   | false=>exact ihy _ _ e
  ·cases e
 | block id c ih =>
  intro st L e;rw [mE] at e ⊢
  cases hx:cF T a pa c st with
  | none=>rw [hx] at e;cases e
  | some R=>rw [hx] at e;rw [ih _ _ hx];exact e
 | loop c _ =>
  intro st L e;rw [nP] at e ⊢
  cases hx:pa (.loop c st) with
  | none=>rw [hx] at e;cases e
  | some R=>rw [hx] at e;rw [hp _ _ hx];exact e
 | _=>intro st L e;exact e
theorem Gb (h:eK a b) (hp:qh pa pb):qh (ng T a pa) (ng T b pb):=by
 intro j L e
 cases j with
 | call f args H =>obtain ⟨fn,c,R,h1,h2,h3,h4⟩:=js e;unfold ng;simp only [h1,h2,sF h hp _ _ _ h3];exact h4
 | loop c st =>
  obtain ⟨R,h1,h2⟩:=jt e;unfold ng;simp only [sF h hp _ _ _ h1];refine eC (fun p M hq=>?_) h2;obtain ⟨z,s⟩:=p;unfold iE at hq ⊢;simp only at hq ⊢;split at hq
  ·exact hp _ _ hq
  ·exact hq
end
theorem DA (h:eK a b):∀ n,qh (Ch T a n) (Ch T b n)
 | 0=>fun _ _ e=>e
 | n+1=>fun j L e=>Gb h (DA h n) j L e
theorem Gc (h:eK a b):∀ (c:Code) (st:St) (L:List (nx × St × Value)),pq T a c st=some L→pq T b c st=some L:=by
 intro c
 induction c with
 | seq x y _ ihy =>
  intro st L e;rw [sy] at e ⊢;split at e
  ·rename_i l o hd;split at e
   ·rename_i M hx;rw [iM h _ _ _ _ hx];refine eC (fun s R hq=>?_) e;simp only [Option.map_eq_some_iff] at hq ⊢;obtain ⟨Q,h1,h2⟩:=hq;exact ⟨Q,sF h (DA h 1000) _ _ _ h1,h2⟩
   ·cases e
  ·split at e
   ·rename_i M hx;rw [dV h _ _ _ hx];refine eC (fun p R hq=>?_) e;split at hq
    ·exact ihy _ _ hq
    ·cases hq
   ·cases e
 | _=>intro st L e;exact e
theorem Gd (h:eK a b) {f:FuncId} {args:List Value} {H:Hp} {L:List eH} (e:pz T a f args H=some L):pz T b f args H=some L:=by obtain ⟨fn,c,R,h1,h2,h3,h4⟩:=qe e;unfold pz;simp only [h1,h2,Gc h _ _ _ h3];exact h4
theorem Ge (h:eK a b):eK (gV T a) (gV T b):=by
 intro j L e
 cases j with
 | call f args hp =>
  rw [ki] at e ⊢;split at e
  ·rename_i fn hf;split at e
   ·rename_i c hc
    cases ho:bJ T a c ⟨setArgs .leaf 0 args,hp,false⟩ with
    | none=>rw [ho] at e;cases e
    | some M=>rw [ho] at e;rw [dV h _ _ _ ho];exact e
   ·cases e
  ·exact Gd h e
 | round l args hp =>
  rw [nM] at e ⊢;split at e
  ·rename_i pend fr ps as bd hl
   cases hb:Nat.beq args.length ps.toList.length with
   | false=>rw [hb] at e;cases e
   | true =>
    rw [hb] at e;simp only [cond_true] at e ⊢
    cases ho:bJ T a as ⟨eu fr (ps.toList.zip args),hp,true⟩ with
    | none=>rw [ho] at e;cases e
    | some M =>
     rw [ho] at e;rw [dV h _ _ _ ho];refine eC (fun p N hp=>?_) e;unfold cP at hp ⊢;split at hp
     ·split at hp
      ·rename_i pend2 fr2 ps2 as2 bd2 hl2
       cases hq:bJ T a bd ⟨p.2.fr,p.2.hp.put l (.loop .busy pend2 fr2 ps2 as2 bd2),true⟩ with
       | none=>rw [hq] at hp;cases hp
       | some M2=>rw [hq] at hp;rw [dV h _ _ _ hq];exact hp
      ·cases hp
     ·cases hp
  ·cases e
 | loop c st =>
  rw [qb] at e ⊢
  cases ho:bJ T a c st with
  | none=>rw [ho] at e;cases e
  | some M =>
   rw [ho] at e;rw [dV h _ _ _ ho];refine eC (fun p N hp=>?_) e;unfold ew at hp ⊢;split at hp
   ·exact h _ _ hp
   ·exact hp
theorem J7 {tab:List XE} (h:eK a b):eK (rx tab a) (rx tab b):=by
 intro j L e
 cases j with
 | call f args H =>
  unfold rx at e ⊢;simp only at e ⊢;split at e
  ·exact e
  ·exact h _ _ e
 | round l args H=>exact h _ _ e
 | loop c st=>exact h _ _ e
end
variable {T : bG} {tab : List XE}
theorem EL (n:Nat) (j:nw):vQ tab T (n+1) j=gV T (rx tab (vQ tab T n)) j:=rfl
theorem Gf (n:Nat):eK (vQ tab T n) (vQ tab T (n+1)):=by
 induction n with
 | zero=>intro j L e;cases e
 | succ n ih=>intro j L e;rw [EL] at e ⊢;exact Ge (J7 ih) _ _ e
theorem Iz {n m:Nat} (h:n≤m):eK (vQ tab T n) (vQ tab T m):=by
 induction h with
 | refl=>exact fun _ _ e=>e
 | step _ ih=>exact fun j L e=>Gf _ _ _ (ih j L e)
noncomputable def RX (T:bG) (tab:List XE) (n:Nat):Rec:=rx tab (vQ tab T n)
theorem gZ {n m:Nat} (h:n≤m):eK (RX T tab n) (RX T tab m):=J7 (Iz h)
theorem IA (n:Nat) (c:Code) (st:St):RX T tab (n+1) (.loop c st)=gV T (RX T tab n) (.loop c st):=rfl
theorem Gg (n:Nat) (l:Nat) (args:List Value) (H:Hp):RX T tab (n+1) (.round l args H)=gV T (RX T tab n) (.round l args H):=rfl
theorem zn (n:Nat) (f:FuncId) (args:List Value) (H:Hp):RX T tab (n+1) (.call f args H)=match look tab f args H with
 | some (v,H')=>some [.ret v H']
 | none=>gV T (RX T tab n) (.call f args H):=rfl
end Go.RM
namespace Go.RM
open Go
inductive AV where
 | fl (v:Value)
 | sl (els:List (List AV)) (full:Bool)
 | pt (cs:List AV) (o:Nat)
 | fn (f:FuncId) (first caps:List AV)
 | ag (cs:List AV)
 | tp (vs:List AV)
 | ptr (j aK o:Nat)
 | aJ (j aK o n c:Nat)
 | om (j:Nat)
 | oq (u:Value)
 | cB
inductive AB where
 | cells (cs:List AV) (es aK:Nat)
 | dI (s:ByteArray) (pos:Nat)
 | map (ents:List (AV × AV × Nat)) (clock:Nat)
 | iter (j since:Nat) (seen:List Nat) (stepped:Nat)
 | gone
def AB.ver?:AB→Option Nat
 | .cells _ _ v=>some v
 | .gone=>none
 | _=>some 0
inductive DR (g:aN) (O:Nat→Prop):AV→Value→Prop
 | fl {v:Value}:bf v=true→DR g O (.fl v) v
 | oq {u:Value} (h:RM.bw u=true):DR g O (.oq u) u
 | nil {full:Bool}:DR g O (.sl [] full) (.slice none 0 0)
 | sl {els:List (List AV)} {full:Bool} {k o n c es:Nat} {cs:List Value} {own:Bool} {e:Nat} (hg:g k=some (.cells cs own e)) (hO:¬ O k) (hlen:o+n * es≤cs.length) (hn:els.length=n)
  (hel:∀ (i:Nat) (el:List AV),els[i]?=some el→el.length=es)
  (h:∀ (i:Nat) (el:List AV) (j:Nat) (a:AV) (u:Value),els[i]?=some el→el[j]?=some a→cs[o+i * es+j]?=some u→DR g O a u) (hc:full=true→c=n):DR g O (.sl els full) (.slice (some ⟨k,o,none⟩) n c)
 | pt {l:List AV} {k d o:Nat} {cs:List Value} {own:Bool} {e:Nat} (hg:g k=some (.cells cs own e)) (hO:¬ O k) (hlen:d+l.length≤cs.length)
  (h:∀ (i:Nat) (a:AV) (u:Value),l[i]?=some a→cs[d+i]?=some u→DR g O a u):DR g O (.pt l o) (.pointer (some ⟨k,d+o,none⟩))
 | fn {f:FuncId} {a b:List AV} {a' b':Array Value} (ha:a.length=a'.toList.length) (hb:b.length=b'.toList.length)
  (h1:∀ (i:Nat) (x:AV) (u:Value),a[i]?=some x→a'.toList[i]?=some u→DR g O x u) (h2:∀ (i:Nat) (x:AV) (u:Value),b[i]?=some x→b'.toList[i]?=some u→DR g O x u):DR g O (.fn f a b) (.func (.func f) a' b')
 | ag {a:List AV} {a':Array Value} (ha:a.length=a'.toList.length) (h1:∀ (i:Nat) (x:AV) (u:Value),a[i]?=some x→a'.toList[i]?=some u→DR g O x u):DR g O (.ag a) (.agg a')
 | tp {a:List AV} {a':Array Value} (ha:a.length=a'.toList.length) (h1:∀ (i:Nat) (x:AV) (u:Value),a[i]?=some x→a'.toList[i]?=some u→DR g O x u):DR g O (.tp a) (.tuple a')
inductive AR (ρ:Nat→Nat→Option Nat) (g:aN) (O:Nat→Prop):AV→Value→Prop
 | d {v:AV} {u:Value}:DR g O v u→AR ρ g O v u
 | cB {u:Value}:AR ρ g O .cB u
 | ptr {j aK o k:Nat}:ρ j aK=some k→AR ρ g O (.ptr j aK o) (.pointer (some ⟨k,o,none⟩))
 | aJ {j aK o n c k:Nat}:ρ j aK=some k→AR ρ g O (.aJ j aK o n c) (.slice (some ⟨k,o,none⟩) n c)
 | rm {j aK c:Nat} (hc:c≤2):AR ρ g O (.aJ j aK 0 0 c) (.slice none 0 0)
 | om {j k:Nat}:ρ j 0=some k→AR ρ g O (.om j) (.map (some k))
 | fn {f:FuncId} {a b:List AV} {a' b':Array Value} (ha:a.length=a'.toList.length) (hb:b.length=b'.toList.length)
  (h1:∀ (i:Nat) (x:AV) (u:Value),a[i]?=some x→a'.toList[i]?=some u→AR ρ g O x u) (h2:∀ (i:Nat) (x:AV) (u:Value),b[i]?=some x→b'.toList[i]?=some u→AR ρ g O x u):AR ρ g O (.fn f a b) (.func (.func f) a' b')
 | ag {a:List AV} {a':Array Value} (ha:a.length=a'.toList.length) (h1:∀ (i:Nat) (x:AV) (u:Value),a[i]?=some x→a'.toList[i]?=some u→AR ρ g O x u):AR ρ g O (.ag a) (.agg a')
 | tp {a:List AV} {a':Array Value} (ha:a.length=a'.toList.length) (h1:∀ (i:Nat) (x:AV) (u:Value),a[i]?=some x→a'.toList[i]?=some u→AR ρ g O x u):AR ρ g O (.tp a) (.tuple a')
def sG (g:aN) (O:Nat→Prop) (l:List AV) (l':List Value):Prop:=l.length=l'.length∧∀ (i:Nat) (a:AV) (u:Value),l[i]?=some a→l'[i]?=some u→DR g O a u
def fI (ρ:Nat→Nat→Option Nat) (g:aN) (O:Nat→Prop) (l:List AV) (l':List Value):Prop:=l.length=l'.length∧∀ (i:Nat) (a:AV) (u:Value),l[i]?=some a→l'[i]?=some u→AR ρ g O a u
mutual
def AV.deep:AV→Bool
 | .fl _=>true
 | .sl _ _=>true
 | .pt _ _=>true
 | .fn _ a b=>cI a && cI b
 | .ag a=>cI a
 | .tp a=>cI a
 | .oq _=>true
 | _=>false
def cI:List AV→Bool
 | []=>true
 | a :: l=>a.deep && cI l
end
theorem gK:∀ {l:List AV},cI l=true→∀ (i:Nat) (a:AV),l[i]?=some a→a.deep=true
 | [],_,i,a,h=>by cases h
 | x :: l,h,i,a,ha=>by
  simp only [cI,qq7] at h
  cases i with
  | zero=>cases ha;exact h.1
  | succ i=>exact gK h.2 i a (by simpa using ha)
section
variable {ρ ρ' : Nat → Nat → Option Nat} {g g' : aN} {O O' : Nat → Prop}
theorem AR.deep {v:AV} {u:Value} (h:AR ρ g O v u):v.deep=true→DR g O v u:=by
 induction h with
 | d h=>intro _;exact h
 | fn ha hb h1 h2 ih1 ih2 =>intro hd;simp only [AV.deep,qq7] at hd;exact .fn ha hb (fun i x u hx hu=>ih1 i x u hx hu (gK hd.1 i x hx)) (fun i x u hx hu=>ih2 i x u hx hu (gK hd.2 i x hx))
 | ag ha h1 ih=>intro hd;simp only [AV.deep] at hd;exact .ag ha (fun i x u hx hu=>ih i x u hx hu (gK hd i x hx))
 | tp ha h1 ih=>intro hd;simp only [AV.deep] at hd;exact .tp ha (fun i x u hx hu=>ih i x u hx hu (gK hd i x hx))
 | _=>intro hd;simp [AV.deep] at hd
theorem DR.mono {v:AV} {u:Value} (h:DR g O v u) (hg:∀ k b,g k=some b→¬ O k→g' k=some b∧¬ O' k):DR g' O' v u:=by
 induction h with
 | fl h=>exact .fl h
 | oq h=>exact .oq h
 | nil=>exact .nil
 | sl h1 h2 h3 h4 h5 h6 h7 ih=>exact .sl (hg _ _ h1 h2).1 (hg _ _ h1 h2).2 h3 h4 h5 ih h7
 | pt h1 h2 h3 h4 ih=>exact .pt (hg _ _ h1 h2).1 (hg _ _ h1 h2).2 h3 ih
 | fn ha hb h1 h2 ih1 ih2=>exact .fn ha hb ih1 ih2
 | ag ha h1 ih=>exact .ag ha ih
 | tp ha h1 ih=>exact .tp ha ih
theorem AR.mono {v:AV} {u:Value} (h:AR ρ g O v u) (hr:∀ j aK k,ρ j aK=some k→ρ' j aK=some k) (hg:∀ k b,g k=some b→¬ O k→g' k=some b∧¬ O' k):AR ρ' g' O' v u:=by
 induction h with
 | d h=>exact .d (h.mono hg)
 | cB=>exact .cB
 | ptr h=>exact .ptr (hr _ _ _ h)
 | aJ h=>exact .aJ (hr _ _ _ h)
 | rm hc=>exact .rm hc
 | om h=>exact .om (hr _ _ _ h)
 | fn ha hb h1 h2 ih1 ih2=>exact .fn ha hb ih1 ih2
 | ag ha h1 ih=>exact .ag ha ih
 | tp ha h1 ih=>exact .tp ha ih
theorem fI.mono {l:List AV} {l':List Value} (h:fI ρ g O l l') (hr:∀ j aK k,ρ j aK=some k→ρ' j aK=some k) (hg:∀ k b,g k=some b→¬ O k→g' k=some b∧¬ O' k):fI ρ' g' O' l l' :=
 ⟨h.1,fun i a u ha hu=>(h.2 i a u ha hu).mono hr hg⟩
theorem fI.nil:fI ρ g O [] []:=⟨rfl,fun i a u h=>by cases h⟩
theorem fI.cons {a:AV} {u:Value} {l:List AV} {l':List Value} (h:AR ρ g O a u) (t:fI ρ g O l l'):fI ρ g O (a :: l) (u :: l') :=
 ⟨by simp [t.1],fun i b v hb hv=>by
  cases i with
  | zero=>cases hb;cases hv;exact h
  | succ i=>exact t.2 i b v (by simpa using hb) (by simpa using hv)⟩
theorem fI.append {a b:List AV} {a' b':List Value} (h:fI ρ g O a a') (k:fI ρ g O b b'):fI ρ g O (a++b) (a'++b'):=by
 refine ⟨by simp [h.1,k.1],fun i x u hx hu=>?_⟩;by_cases hi:i < a.length
 ·rw [List.getElem?_append_left hi] at hx;rw [List.getElem?_append_left (by rw [←h.1];exact hi)] at hu;exact h.2 i x u hx hu
 ·rw [List.getElem?_append_right (by omega)] at hx;rw [List.getElem?_append_right (by rw [←h.1];omega),←h.1] at hu;exact k.2 _ x u hx hu
theorem fI.take {a:List AV} {a':List Value} (h:fI ρ g O a a') (n:Nat):fI ρ g O (a.take n) (a'.take n):=by
 refine ⟨by simp [h.1],fun i x u hx hu=>?_⟩;rw [List.getElem?_take] at hx hu;split at hx
 ·rw [if_pos (by assumption)] at hu;exact h.2 i x u hx hu
 ·cases hx
theorem fI.drop {a:List AV} {a':List Value} (h:fI ρ g O a a') (n:Nat):fI ρ g O (a.drop n) (a'.drop n):=by refine ⟨by simp [h.1],fun i x u hx hu=>?_⟩;rw [List.getElem?_drop] at hx hu;exact h.2 _ x u hx hu
theorem fI.get {l:List AV} {l':List Value} (h:fI ρ g O l l') {i:Nat} {a:AV} (ha:l[i]?=some a):∃ u,l'[i]?=some u∧AR ρ g O a u:=by
 have hi:i < l'.length:=by rw [←h.1];exact (List.getElem?_eq_some_iff.1 ha).1
 exact ⟨l'[i],List.getElem?_eq_getElem hi,h.2 i a _ ha (List.getElem?_eq_getElem hi)⟩
theorem fI.deep {l:List AV} {l':List Value} (h:fI ρ g O l l') (hd:cI l=true):sG g O l l':=⟨h.1,fun i a u ha hu=>(h.2 i a u ha hu).deep (gK hd i a ha)⟩
theorem sG.DB {l:List AV} {l':List Value} (h:sG g O l l'):fI ρ g O l l':=⟨h.1,fun i a u ha hu=>.d (h.2 i a u ha hu)⟩
def AV.one:AV→Bool
 | .fl _|.sl ..|.pt ..|.fn ..|.ptr ..|.aJ ..|.om _|.oq _=>true
 | _=>false
theorem AR.bw {v:AV} {u:Value} (h:AR ρ g O v u) (ho:v.one=true):RM.bw u=true:=by
 cases h with
 | d h =>
  cases h with
  | fl h=>cases u <;> first|rfl|simp [bf] at h
  | oq h=>exact h
  | _=>first|rfl|simp [AV.one] at ho
 | _=>first|rfl|simp [AV.one] at ho
theorem fI.bw {l:List AV} {l':List Value} (h:fI ρ g O l l') (ho:l.all AV.one=true):l'.all RM.bw=true:=by
 rw [List.all_eq_true] at ho ⊢;intro u hu;obtain ⟨i,hi,rfl⟩:=List.getElem_of_mem hu;have hi':i < l.length:=by rw [h.1];exact hi
 exact (h.2 i l[i] _ (List.getElem?_eq_getElem hi') (List.getElem?_eq_getElem hi)).bw (ho _ (List.getElem_mem hi'))
def AV.cells:AV→List AV
 | .ag cs=>cs
 | v=>[v]
def AV.kz:AV→Bool
 | .ag _=>true
 | v=>v.one
theorem EM {u:Value} (h:RM.bw u=true):u.cells.toList=[u]:=by cases u <;> first|rfl|cases h
theorem AR.cells {v:AV} {u:Value} (h:AR ρ g O v u) (hc:v.kz=true):fI ρ g O v.cells u.cells.toList:=by
 cases v with
 | ag cs =>
  cases h with
  | d h=>cases h with
   | ag ha h1=>exact ⟨ha,fun i a u x y=>.d (h1 i a u x y)⟩
  | ag ha h1=>exact ⟨ha,h1⟩
 | cB=>simp [AV.kz,AV.one] at hc
 | tp=>simp [AV.kz,AV.one] at hc
 | _=>rw [EM (h.bw rfl)];exact .cons h .nil
theorem AR.eW {v u:Value} (h:AR ρ g O (.fl v) u):u=v∧bf v=true:=by
 cases h with
 | d h=>cases h with
  | fl h=>exact ⟨rfl,h⟩
theorem fI.eW {l:List Value} {l':List Value} (h:fI ρ g O (l.map .fl) l'):l'=l∧l.all bf=true:=by
 have key:∀ (i:Nat) (v u:Value),l[i]?=some v→l'[i]?=some u→u=v∧bf v=true:=fun i v u hv hu=>(h.2 i (.fl v) u (by simp [hv]) hu).eW;have hlen:l.length=l'.length:=by simpa using h.1
 refine ⟨List.ext_getElem? fun i=>?_,?_⟩
 ·by_cases hi:i < l.length
  ·rw [List.getElem?_eq_getElem hi,List.getElem?_eq_getElem (by omega:i < l'.length),(key i _ _ (List.getElem?_eq_getElem hi) (List.getElem?_eq_getElem (by omega))).1]
  ·rw [List.getElem?_eq_none (by omega),List.getElem?_eq_none (by omega)]
 ·rw [List.all_eq_true];intro x hx;obtain ⟨i,hi,rfl⟩:=List.getElem_of_mem hx;exact (key i _ _ (List.getElem?_eq_getElem hi) (List.getElem?_eq_getElem (by omega))).2
theorem fI.zq {l:List Value} (h:l.all bf=true):fI ρ g O (l.map .fl) l:=by refine ⟨by simp,fun i a u ha hu=>?_⟩;rw [List.getElem?_map,hu] at ha;cases ha;exact .d (.fl (List.all_eq_true.1 h u (List.mem_of_getElem? hu)))
end
structure bq where
 P:(Nat→Prop)→(Nat→Prop)→aN→Nat→Prop
 st:∀ {D S:Nat→Prop} {g g':aN} {n n':Nat},P D S g n→(∀ k,S k→g' k=g k)→n≤n'→P D S g' n'
def bq.none:bq:=⟨fun _ _ _ _=>True,fun _ _ _=>trivial⟩
structure Env where
 ρ:Nat→Nat→Option Nat
 D:Nat→Prop
 S:Nat→Prop
 X:Nat→Prop
def Own (ρ:Nat→Nat→Option Nat) (hp:List AB) (k:Nat):Prop:=∃ (j:Nat) (b:AB) (aK:Nat),hp[j]?=some b∧b.ver?=some aK∧ρ j aK=some k
def Env.O (E:Env) (hp:List AB) (k:Nat):Prop:=Own E.ρ hp k∨E.X k
def BR (ρ:Nat→Nat→Option Nat) (g:aN) (O:Nat→Prop):AB→bx→Prop
 | .cells cs es _,b'=>∃ cs',b'=.cells cs' true es∧fI ρ g O cs cs'
 | .dI s p,b'=>b'=.dI s p
 | .map ents clock,b'=>∃ es:List MapEntry,b'=.map es clock∧ents.length=es.length∧∀ (i:Nat) (k v:AV) (born:Nat) (e:MapEntry),ents[i]?=some (k,v,born)→es[i]?=some e→AR ρ g O k e.key∧AR ρ g O v e.val∧e.born=born
 | .iter j since seen stepped,b'=>∃ m,b'=.iter m since seen stepped∧ρ j 0=some m
 | .gone,_=>False
structure aX (E:Env) (base:Nat) (hp:List AB) (aF:bq) (H:Hp):Prop where
 wf:Wf H
 gu:∀ (j:Nat) (b:AB) (aK:Nat),hp[j]?=some b→b.ver?=some aK→(∃ k b',E.ρ j aK=some k∧H.get k=some b'∧BR E.ρ H.get (E.O hp) b b')∨(E.ρ j aK=none∧∃ es,b=.cells [] es aK)
 inj:∀ (j j' aK ver' k:Nat),E.ρ j aK=some k→E.ρ j' ver'=some k→j=j'
 rn:∀ (j v k:Nat),E.ρ j v=some k→k < H.n
 fresh:∀ (j:Nat) (b:AB) (aK v:Nat),hp[j]?=some b→b.ver?=some aK→aK < v→E.ρ j v=none
 new:∀ j v,hp.length≤j→E.ρ j v=none
 sup:∀ k,Own E.ρ hp k→¬ E.S k
 hH:∀ k,Own E.ρ hp k→¬ E.X k
 dx:∀ k,E.D k→E.X k
 ds:∀ k,E.D k→E.S k
 sn:∀ k,E.S k→k < H.n
 xn:∀ k,E.X k→k < H.n
 pQ:∀ k,Own E.ρ hp k∨E.D k→base≤k
 bn:base≤H.n
 aF:aF.P E.D E.S H.get H.n
structure Ext (base:Nat) (E:Env) (hp:List AB) (H:Hp) (E':Env) (hp':List AB) (H':Hp):Prop where
 n:H.n≤H'.n
 d:E'.D=E.D
 s:E'.S=E.S
 x:E'.X=E.X
 Af:∀ j v k,E.ρ j v=some k→E'.ρ j v=some k
 own:∀ k,Own E'.ρ hp' k→Own E.ρ hp k∨H.n≤k
 same:∀ k,k < H.n→¬ Own E.ρ hp k→H'.get k=H.get k
 lo:min H.lo base≤H'.lo
section
variable {base : Nat} {E E' E2 : Env} {hp hp' hp2 : List AB} {aF : bq} {H H' H2 : Hp}
theorem Wf.lt (h:Wf H) {k:Nat} {b:bx} (hk:H.get k=some b):k < H.n:=by apply Nat.lt_of_not_le;intro hle;rw [h k hle] at hk;cases hk
theorem Ext.refl:Ext base E hp H E hp H:=⟨qq6 _,rfl,rfl,rfl,fun _ _ _ h=>h,fun _ h=>.inl h,fun _ _ _=>rfl,Nat.min_le_left _ _⟩
theorem Ext.trans (a:Ext base E hp H E' hp' H') (b:Ext base E' hp' H' E2 hp2 H2):Ext base E hp H E2 hp2 H2:=by
 refine ⟨Nat.le_trans a.n b.n,b.d.trans a.d,b.s.trans a.s,b.x.trans a.x,fun j v k h=>b.Af j v k (a.Af j v k h),fun k h=>?_,fun k hk ho=>?_,?_⟩
 ·rcases b.own k h with h|h
  ·exact a.own k h
  ·exact .inr (Nat.le_trans a.n h)
 ·rw [b.same k (Nat.lt_of_lt_of_le hk a.n) (fun h=>(a.own k h).elim ho (fun h=>by omega)),a.same k hk ho]
 ·have:=a.lo;have:=b.lo;omega
theorem Ext.keep (e:Ext base E hp H E' hp' H') (hw:Wf H):∀ k b,H.get k=some b→¬ E.O hp k→H'.get k=some b∧¬ E'.O hp' k:=by
 intro k b hk ho;have hlt:=hw.lt hk;refine ⟨by rw [e.same k hlt (fun h=>ho (.inl h))];exact hk,fun h=>?_⟩
 rcases h with h|h
 ·rcases e.own k h with h|h
  ·exact ho (.inl h)
  ·omega
 ·rw [e.x] at h;exact ho (.inr h)
theorem Ext.ar (e:Ext base E hp H E' hp' H') (hw:Wf H) {v:AV} {u:Value} (h:AR E.ρ H.get (E.O hp) v u):AR E'.ρ H'.get (E'.O hp') v u:=h.mono e.Af (e.keep hw)
theorem Ext.dr (e:Ext base E hp H E' hp' H') (hw:Wf H) {v:AV} {u:Value} (h:DR H.get (E.O hp) v u):DR H'.get (E'.O hp') v u:=h.mono (e.keep hw)
theorem Ext.DB (e:Ext base E hp H E' hp' H') (hw:Wf H) {v:List AV} {u:List Value} (h:fI E.ρ H.get (E.O hp) v u):fI E'.ρ H'.get (E'.O hp') v u:=h.mono e.Af (e.keep hw)
theorem Ext.br (e:Ext base E hp H E' hp' H') (hw:Wf H) {b:AB} {b':bx} (h:BR E.ρ H.get (E.O hp) b b'):BR E'.ρ H'.get (E'.O hp') b b':=by
 cases b with
 | cells cs es aK=>obtain ⟨cs',rfl,h⟩:=h;exact ⟨cs',rfl,e.DB hw h⟩
 | dI s p=>exact h
 | map ents clock =>obtain ⟨es,rfl,h1,h2⟩:=h;exact ⟨es,rfl,h1,fun i k v born x hx hy=>⟨e.ar hw (h2 i k v born x hx hy).1,e.ar hw (h2 i k v born x hx hy).2.1,(h2 i k v born x hx hy).2.2⟩⟩
 | iter j since seen stepped=>obtain ⟨m,rfl,h⟩:=h;exact ⟨m,rfl,e.Af _ _ _ h⟩
 | gone=>exact h
theorem aX.nW (h:aX E base hp aF H) {k:Nat} (ho:Own E.ρ hp k):k < H.n:=by
 obtain ⟨j,b,aK,h1,h2,h3⟩:=ho
 rcases h.gu j b aK h1 h2 with ⟨k',b',h4,h5,_⟩|⟨h4,_⟩
 ·rw [h3] at h4;cases h4;exact h.wf.lt h5
 ·rw [h3] at h4;cases h4
def cX (ρ:Nat→Nat→Option Nat) (j v k:Nat):Nat→Nat→Option Nat:=fun i w=>if i=j∧w=v then some k else ρ i w
theorem iN (ρ:Nat→Nat→Option Nat) (j v k:Nat):cX ρ j v k j v=some k:=by simp [cX]
theorem vU (ρ:Nat→Nat→Option Nat) {j v k i w:Nat} (h:¬ (i=j∧w=v)):cX ρ j v k i w=ρ i w:=if_neg h
theorem ct {b:bx} {k:Nat} (h:k < H.n):(H.push b).get k=H.get k:=by rw [Hp.ey,if_neg (by omega)]
theorem iP {b:bx}:(H.push b).get H.n=some b:=by rw [Hp.ey,if_pos rfl]
theorem bU {b:bx} {k i:Nat} (h:k ≠ i):(H.put i b).get k=H.get k:=by rw [Hp.jI,if_neg h]
theorem hU {b:bx} {i:Nat}:(H.put i b).get i=some b:=by rw [Hp.jI,if_pos rfl]
theorem aX.Gh (h:aX E base hp aF H) (b:bx):aX E base hp aF (H.push b)∧Ext base E hp H E hp (H.push b)∧¬ E.O hp H.n:=by
 have e:Ext base E hp H E hp (H.push b):=⟨Nat.le_succ _,rfl,rfl,rfl,fun _ _ _ h=>h,fun _ h=>.inl h,fun k hk _=>ct hk,Nat.min_le_left _ _⟩;refine ⟨⟨(cR.push H b).wf h.wf,fun j x aK hj hv=>?_,h.inj,fun j v k hk=>Nat.lt_succ_of_lt (h.rn j v k hk),h.fresh,h.new,h.sup,h.hH,h.dx,h.ds,fun k hk=>Nat.lt_succ_of_lt (h.sn k hk),fun k hk=>Nat.lt_succ_of_lt (h.xn k hk),h.pQ,Nat.le_succ_of_le h.bn,aF.st h.aF (fun k hk=>ct (h.sn k hk)) (Nat.le_succ _)⟩,e,fun ho=>?_⟩
 ·rcases h.gu j x aK hj hv with ⟨k,b',h1,h2,h3⟩|h1
  ·exact .inl ⟨k,b',h1,by rw [ct (h.wf.lt h2)];exact h2,e.br h.wf h3⟩
  ·exact .inr h1
 ·rcases ho with ho|ho
  ·have:=h.nW ho;omega
  ·have:=h.xn _ ho;omega
theorem aX.push (h:aX E base hp aF H) {a:AB} {b:bx} (hv:a.ver?=some 0)
  (hb:∀ E' H',E'={E with ρ:=cX E.ρ hp.length 0 H.n}→H'=H.push b→Ext base E hp H E' (hp++[a]) H'→BR E'.ρ H'.get (E'.O (hp++[a])) a b) :
  ∃ E',E'={E with ρ:=cX E.ρ hp.length 0 H.n}∧aX E' base (hp++[a]) aF (H.push b)∧Ext base E hp H E' (hp++[a]) (H.push b)∧E'.ρ hp.length 0=some H.n:=by
 have hold:∀ j v,j ≠ hp.length→cX E.ρ hp.length 0 H.n j v=E.ρ j v:=fun j v hj=>vU _ (fun h=>hj h.1)
 have hget:∀ (j:Nat) (x:AB),(hp++[a])[j]?=some x→(j < hp.length∧hp[j]?=some x)∨(j=hp.length∧x=a):=by
  intro j x hj;by_cases hlt:j < hp.length
  ·rw [List.getElem?_append_left hlt] at hj;exact .inl ⟨hlt,hj⟩
  ·rw [List.getElem?_append_right (by omega)] at hj;have:j - hp.length=0:=by apply Nat.eq_zero_of_not_pos;intro hp0;rw [List.getElem?_eq_none (by simp;omega)] at hj;cases hj
   rw [this] at hj;cases hj;exact .inr ⟨by omega,rfl⟩
 have hown:∀ k,Own (cX E.ρ hp.length 0 H.n) (hp++[a]) k→Own E.ρ hp k∨k=H.n:=by
  rintro k ⟨j,x,aK,h1,h2,h3⟩
  rcases hget j x h1 with ⟨hlt,h1⟩|⟨rfl,rfl⟩
  ·rw [hold j aK (by omega)] at h3;exact .inl ⟨j,x,aK,h1,h2,h3⟩
  ·rw [hv] at h2;cases h2;rw [iN] at h3;cases h3;exact .inr rfl
 have hownr:∀ k,Own E.ρ hp k→Own (cX E.ρ hp.length 0 H.n) (hp++[a]) k:=by rintro k ⟨j,x,aK,h1,h2,h3⟩;have hlt:j < hp.length:=(List.getElem?_eq_some_iff.1 h1).1;exact ⟨j,x,aK,by rw [List.getElem?_append_left hlt];exact h1,h2,by rw [hold j aK (by omega)];exact h3⟩
 have e:Ext base E hp H {E with ρ:=cX E.ρ hp.length 0 H.n} (hp++[a]) (H.push b):=by refine ⟨Nat.le_succ _,rfl,rfl,rfl,fun j v k hk=>?_,fun k hk=>(hown k hk).imp id (fun h=>by omega),fun k hk _=>ct hk,Nat.min_le_left _ _⟩;show cX _ _ _ _ j v=_;rw [hold j v (fun hj=>by subst hj;rw [h.new _ v (qq6 _)] at hk;cases hk)];exact hk
 refine ⟨_,rfl,⟨(cR.push H b).wf h.wf,fun j x aK hj hvx=>?_,fun j j' aK ver' k h1 h2=>?_,fun j v k hk=>?_,fun j x aK v h1 h2 h3=>?_,fun j v hj=>?_,fun k hk=>?_,fun k hk=>?_,h.dx,h.ds,fun k hk=>Nat.lt_succ_of_lt (h.sn k hk),fun k hk=>Nat.lt_succ_of_lt (h.xn k hk),fun k hk=>?_,Nat.le_succ_of_le h.bn,aF.st h.aF (fun k hk=>ct (h.sn k hk)) (Nat.le_succ _)⟩,e,iN _ _ _ _⟩
 ·rcases hget j x hj with ⟨hlt,h1⟩|⟨rfl,rfl⟩
  ·rcases h.gu j x aK h1 hvx with ⟨k,b',q1,q2,q3⟩|⟨q1,q2⟩
   ·exact .inl ⟨k,b',by show cX _ _ _ _ _ _=_;rw [hold j aK (by omega)];exact q1,by rw [ct (h.wf.lt q2)];exact q2,e.br h.wf q3⟩
   ·exact .inr ⟨by show cX _ _ _ _ _ _=_;rw [hold j aK (by omega)];exact q1,q2⟩
  ·rw [hv] at hvx;cases hvx;exact .inl ⟨H.n,b,iN _ _ _ _,iP,hb _ _ rfl rfl e⟩
 ·have key:∀ (j aK:Nat),cX E.ρ hp.length 0 H.n j aK=some k→(E.ρ j aK=some k∧k < H.n)∨(j=hp.length∧k=H.n):=by
   intro j aK q;unfold cX at q;split at q
   ·rename_i hc;cases q;exact .inr ⟨hc.1,rfl⟩
   ·exact .inl ⟨q,h.rn _ _ _ q⟩
  rcases key j aK h1 with ⟨a1,a2⟩|⟨a1,a2⟩
  ·rcases key j' ver' h2 with ⟨b1,b2⟩|⟨b1,b2⟩
   ·exact h.inj j j' aK ver' k a1 b1
   ·omega
  ·rcases key j' ver' h2 with ⟨b1,b2⟩|⟨b1,b2⟩
   ·omega
   ·omega
 ·have hk:cX E.ρ hp.length 0 H.n j v=some k:=hk;unfold cX at hk;show k < H.n+1;split at hk
  ·cases hk;omega
  ·have:=h.rn _ _ _ hk;omega
 ·rcases hget j x h1 with ⟨hlt,q1⟩|⟨rfl,rfl⟩
  ·show cX _ _ _ _ _ _=_;rw [hold j v (by omega)];exact h.fresh j x aK v q1 h2 h3
  ·show cX _ _ _ _ _ _=_;rw [vU _ (by omega)];exact h.new _ _ (qq6 _)
 ·show cX _ _ _ _ _ _=_;simp only [List.length_append,List.length_cons,List.length_nil] at hj;rw [hold j v (by omega)];exact h.new j v (by omega)
 ·rcases hown k hk with hk|rfl
  ·exact h.sup k hk
  ·exact fun hs=>by have:=h.sn _ hs;omega
 ·rcases hown k hk with hk|rfl
  ·exact h.hH k hk
  ·exact fun hs=>by have:=h.xn _ hs;omega
 ·rcases hk with hk|hk
  ·rcases hown k hk with hk|rfl
   ·exact h.pQ k (.inl hk)
   ·exact h.bn
  ·exact h.pQ k (.inr hk)
theorem aX.put (h:aX E base hp aF H) {j aK k:Nat} {a0 a:AB} {b:bx} (hj:hp[j]?=some a0) (hv0:a0.ver?=some aK) (hv:a.ver?=some aK) (hk:E.ρ j aK=some k)
  (hb:BR E.ρ H.get (E.O hp) a b) :
  aX E base (hp.set j a) aF (H.put k b)∧Ext base E hp H E (hp.set j a) (H.put k b):=by
 have hlt:j < hp.length:=(List.getElem?_eq_some_iff.1 hj).1;have hok:Own E.ρ hp k:=⟨j,a0,aK,hj,hv0,hk⟩;have hkn:=h.nW hok
 have hget:∀ (i:Nat) (x:AB),(hp.set j a)[i]?=some x→(i ≠ j∧hp[i]?=some x)∨(i=j∧x=a):=by
  intro i x hi;by_cases hij:i=j
  ·subst hij;rw [List.getElem?_set_self hlt] at hi;cases hi;exact .inr ⟨rfl,rfl⟩
  ·rw [List.getElem?_set_ne (Ne.symm hij)] at hi;exact .inl ⟨hij,hi⟩
 have hown:∀ k',Own E.ρ (hp.set j a) k'→Own E.ρ hp k':=by
  rintro k' ⟨i,x,v,h1,h2,h3⟩
  rcases hget i x h1 with ⟨hij,h1⟩|⟨rfl,rfl⟩
  ·exact ⟨i,x,v,h1,h2,h3⟩
  ·rw [hv] at h2;cases h2;exact ⟨_,a0,_,hj,hv0,h3⟩
 have hbase:=h.pQ k (.inl hok);have e:Ext base E hp H E (hp.set j a) (H.put k b):=by refine ⟨qq6 _,rfl,rfl,rfl,fun _ _ _ h=>h,fun k' h'=>.inl (hown k' h'),fun k' _ hn=>bU (fun e=>hn (e ▸ hok)),?_⟩;show _≤min H.lo k;omega
 have hwf:Wf (H.put k b):=fun i hi=>by rw [bU (by have:H.n≤i:=hi;omega)];exact h.wf i hi
 refine ⟨⟨hwf,fun i x v hi hvx=>?_,h.inj,h.rn,fun i x v w h1 h2 h3=>?_,fun i v hi=>h.new i v (by simpa using hi),fun k' hk'=>h.sup k' (hown k' hk'),fun k' hk'=>h.hH k' (hown k' hk'),h.dx,h.ds,h.sn,h.xn,fun k' hk'=>h.pQ k' (hk'.imp (hown k') id),h.bn,aF.st h.aF (fun k' hs=>bU (fun e=>h.sup k hok (e ▸ hs))) (qq6 _)⟩,e⟩
 ·rcases hget i x hi with ⟨hij,h1⟩|⟨rfl,rfl⟩
  ·rcases h.gu i x v h1 hvx with ⟨k',b',q1,q2,q3⟩|q
   ·refine .inl ⟨k',b',q1,?_,e.br h.wf q3⟩;rw [bU (fun e=>hij (h.inj i j v aK k' q1 (by rw [hk,e])))];exact q2
   ·exact .inr q
  ·rw [hv] at hvx;cases hvx;exact .inl ⟨k,b,hk,hU,e.br h.wf hb⟩
 ·rcases hget i x h1 with ⟨hij,q1⟩|⟨rfl,rfl⟩
  ·exact h.fresh i x v w q1 h2 h3
  ·rw [hv] at h2;cases h2;exact h.fresh _ a0 _ w hj hv0 h3
theorem aX.renew (h:aX E base hp aF H) {j aK:Nat} {a0 a:AB} {H1:Hp} {b:bx} (hj:hp[j]?=some a0) (hv0:a0.ver?=some aK) (hv:a.ver?=some (aK+1))
  (h1:H1=H∨∃ k,E.ρ j aK=some k∧H1=H.put k .dead)
  (hb:∀ E' H',E'={E with ρ:=cX E.ρ j (aK+1) H.n}→H'=H1.push b→Ext base E hp H E' (hp.set j a) H'→BR E'.ρ H'.get (E'.O (hp.set j a)) a b) :
  ∃ E',E'={E with ρ:=cX E.ρ j (aK+1) H.n}∧aX E' base (hp.set j a) aF (H1.push b)∧Ext base E hp H E' (hp.set j a) (H1.push b)∧E'.ρ j (aK+1)=some H.n:=by
 have hlt:j < hp.length:=(List.getElem?_eq_some_iff.1 hj).1
 have hn1:H1.n=H.n:=by rcases h1 with rfl|⟨k,_,rfl⟩ <;> rfl
 have hw1:Wf H1:=by
  rcases h1 with rfl|⟨k,hk,rfl⟩
  ·exact h.wf
  ·have:=h.nW ⟨j,a0,aK,hj,hv0,hk⟩;exact fun i hi=>by have:H.n≤i:=hi;rw [bU (by omega)];exact h.wf i hi
 have hg1:∀ k,¬ E.ρ j aK=some k→H1.get k=H.get k:=by
  intro k hk
  rcases h1 with rfl|⟨k',hk',rfl⟩
  ·rfl
  ·exact bU (fun e=>hk (e ▸ hk'))
 have hnone:E.ρ j (aK+1)=none:=h.fresh j a0 aK _ hj hv0 (Nat.lt_succ_self _);have hold:∀ i v,¬ (i=j∧v=aK+1)→cX E.ρ j (aK+1) H.n i v=E.ρ i v:=fun i v hne=>vU _ hne
 have hget:∀ (i:Nat) (x:AB),(hp.set j a)[i]?=some x→(i ≠ j∧hp[i]?=some x)∨(i=j∧x=a):=by
  intro i x hi;by_cases hij:i=j
  ·subst hij;rw [List.getElem?_set_self hlt] at hi;cases hi;exact .inr ⟨rfl,rfl⟩
  ·rw [List.getElem?_set_ne (Ne.symm hij)] at hi;exact .inl ⟨hij,hi⟩
 have hown:∀ k,Own (cX E.ρ j (aK+1) H.n) (hp.set j a) k→(Own E.ρ hp k∧¬ E.ρ j aK=some k)∨k=H.n:=by
  rintro k ⟨i,x,v,q1,q2,q3⟩
  rcases hget i x q1 with ⟨hij,q1⟩|⟨rfl,rfl⟩
  ·rw [hold i v (fun e=>hij e.1)] at q3;exact .inl ⟨⟨i,x,v,q1,q2,q3⟩,fun e=>hij (h.inj i j v aK k q3 e)⟩
  ·rw [hv] at q2;cases q2;rw [iN] at q3;cases q3;exact .inr rfl
 have e:Ext base E hp H {E with ρ:=cX E.ρ j (aK+1) H.n} (hp.set j a) (H1.push b):=by
  refine ⟨by show H.n≤H1.n+1;omega,rfl,rfl,rfl,fun i v k hk=>?_,fun k hk=>(hown k hk).imp And.left (fun h=>by omega),fun k hk hn=>?_,?_⟩
  ·show cX _ _ _ _ _ _=_;rw [hold i v (fun e=>by rw [e.1,e.2,hnone] at hk;cases hk)];exact hk
  ·rw [ct (by omega),hg1 k (fun e=>hn ⟨j,a0,aK,hj,hv0,e⟩)]
  ·show _≤H1.lo
   rcases h1 with rfl|⟨k,hk,rfl⟩
   ·exact Nat.min_le_left _ _
   ·have:=h.pQ k (.inl ⟨j,a0,aK,hj,hv0,hk⟩);show _≤min H.lo k;omega
 refine ⟨_,rfl,⟨(cR.push H1 b).wf hw1,fun i x v hi hvx=>?_,fun i i' v v' k q1 q2=>?_,fun i v k hk=>?_,fun i x v w q1 q2 q3=>?_,fun i v hi=>?_,fun k hk=>?_,fun k hk=>?_,h.dx,h.ds,fun k hk=>?_,fun k hk=>?_,fun k hk=>?_,?_,aF.st h.aF (fun k hk=>?_) (by rw [←hn1];exact Nat.le_succ _)⟩,e,iN _ _ _ _⟩
 ·rcases hget i x hi with ⟨hij,q⟩|⟨rfl,rfl⟩
  ·rcases h.gu i x v q hvx with ⟨k,b',q1,q2,q3⟩|⟨q1,q2⟩
   ·refine .inl ⟨k,b',by show cX _ _ _ _ _ _=_;rw [hold i v (fun e=>hij e.1)];exact q1,?_,e.br h.wf q3⟩;rw [ct (by rw [hn1];exact h.wf.lt q2),hg1 k (fun e=>hij (h.inj i j v aK k q1 e))];exact q2
   ·exact .inr ⟨by show cX _ _ _ _ _ _=_;rw [hold i v (fun e=>hij e.1)];exact q1,q2⟩
  ·rw [hv] at hvx;cases hvx;refine .inl ⟨H.n,b,iN _ _ _ _,?_,hb _ _ rfl rfl e⟩;rw [←hn1];exact iP
 ·have key:∀ (i v:Nat),cX E.ρ j (aK+1) H.n i v=some k→(E.ρ i v=some k∧k < H.n)∨(i=j∧k=H.n):=by
   intro i v q;unfold cX at q;split at q
   ·rename_i hc;cases q;exact .inr ⟨hc.1,rfl⟩
   ·exact .inl ⟨q,h.rn _ _ _ q⟩
  rcases key i v q1 with ⟨a1,a2⟩|⟨a1,a2⟩
  ·rcases key i' v' q2 with ⟨b1,b2⟩|⟨b1,b2⟩
   ·exact h.inj i i' v v' k a1 b1
   ·omega
  ·rcases key i' v' q2 with ⟨b1,b2⟩|⟨b1,b2⟩
   ·omega
   ·omega
 ·have hk:cX E.ρ j (aK+1) H.n i v=some k:=hk;unfold cX at hk;show k < H1.n+1;split at hk
  ·cases hk;omega
  ·have:=h.rn _ _ _ hk;omega
 ·rcases hget i x q1 with ⟨hij,r1⟩|⟨rfl,rfl⟩
  ·show cX _ _ _ _ _ _=_;rw [hold i w (fun e=>hij e.1)];exact h.fresh i x v w r1 q2 q3
  ·rw [hv] at q2;cases q2;show cX _ _ _ _ _ _=_;rw [hold _ w (by omega)];exact h.fresh _ a0 _ w hj hv0 (by omega)
 ·show cX _ _ _ _ _ _=_;simp only [List.length_set] at hi;rw [hold i v (by omega)];exact h.new i v hi
 ·rcases hown k hk with hk|rfl
  ·exact h.sup k hk.1
  ·exact fun hs=>by have:=h.sn _ hs;omega
 ·rcases hown k hk with hk|rfl
  ·exact h.hH k hk.1
  ·exact fun hs=>by have:=h.xn _ hs;omega
 ·have:=h.sn k hk;show k < H1.n+1;omega
 ·have:=h.xn k hk;show k < H1.n+1;omega
 ·rcases hk with hk|hk
  ·rcases hown k hk with hk|rfl
   ·exact h.pQ k (.inl hk.1)
   ·exact h.bn
  ·exact h.pQ k (.inr hk)
 ·have:=h.bn;show base≤H1.n+1;omega
 ·have hkn:=h.sn k hk;rw [ct (by omega),hg1 k (fun e'=>h.sup k ⟨j,a0,aK,hj,hv0,e'⟩ hk)]
end
end Go.RM
namespace Go.RM
open Go
def rq (v:Value):AV :=
 match v with
 | .agg cs=>.ag (cs.toList.map .fl)
 | .tuple _=>.tp []
 | v=>.fl v
def bg (fr:Nat→AV):Operand→AV
 | .tmp t=>fr t
 | .const v=>bif flat v then rq v else .cB
 | .func f=>.fn f [] []
 | .global _=>.cB
section
variable {T : bG} {base : Nat} {E E' : Env} {hp hp' : List AB} {aF : bq} {H H' : Hp} {ρ : Nat → Nat → Option Nat} {g : aN} {O : Nat → Prop}
theorem kV {v:Value} (h:flat v=true):AR ρ g O (rq v) v:=by
 unfold rq;split
 ·simp only [flat] at h;have:=fI.zq (ρ:=ρ) (g:=g) (O:=O) h;exact .ag this.1 this.2
 ·rename_i cs;simp only [flat,List.isEmpty_iff] at h;exact .tp (by rw [h];rfl) (fun i x u hx=>by cases hx)
 ·rename_i h1 h2;refine .d (.fl ?_);unfold flat at h;split at h
  ·exact absurd rfl (h1 _)
  ·exact absurd rfl (h2 _)
  ·exact h
def mO (ρ:Nat→Nat→Option Nat) (g:aN) (O:Nat→Prop) (fr:Nat→AV) (tm:Tr Value):Prop:=∀ t,AR ρ g O (fr t) ((tm.get t).getD undef)
theorem lD {fr:Nat→AV} {tm:Tr Value} (h:mO ρ g O fr tm) (x:Operand):AR ρ g O (bg fr x) (bh tm x):=by
 cases x with
 | tmp t=>exact h t
 | const v =>
  show AR ρ g O (bif flat v then rq v else .cB) v
  cases hf:flat v with
  | true=>exact kV hf
  | false=>exact .cB
 | global g=>exact .cB
 | func f=>exact .fn rfl rfl (fun i x u hx=>by cases hx) (fun i x u hx=>by cases hx)
def dG (base:Nat) (E:Env) (hp:List AB) (aF:bq) (H:Hp) (r:Option (Value × bX)) (K:AV→List AB→Prop):Prop :=
 ∃ u e E' a hp',r=some (u,e)∧K a hp'∧aX E' base hp' aF (H.app e)∧Ext base E hp H E' hp' (H.app e)∧AR E'.ρ (H.app e).get (E'.O hp') a u
theorem dG.pure {K:AV→List AB→Prop} (h:aX E base hp aF H) {u:Value} {a:AV} (ha:AR E.ρ H.get (E.O hp) a u) (hk:K a hp):dG base E hp aF H (some (u,.none)) K :=
 ⟨u,.none,E,a,hp,rfl,hk,h,.refl,ha⟩
theorem dG.uK {K:AV→List AB→Prop} (h:aX E base hp aF H) {u:Value} {a:AV} {b:bx}
  (ha:Ext base E hp H E hp (H.push b)→(H.push b).get H.n=some b→¬ E.O hp H.n→AR E.ρ (H.push b).get (E.O hp) a u) (hk:K a hp):dG base E hp aF H (some (u,.new b)) K:=by
 obtain ⟨h1,h2,h3⟩:=h.Gh b;exact ⟨u,.new b,E,a,hp,rfl,hk,h1,h2,ha h2 iP h3⟩
theorem dG.new {K:AV→List AB→Prop} (h:aX E base hp aF H) {u:Value} {a:AV} {x:AB} {b:bx} (hv:x.ver?=some 0)
  (hb:∀ E' H',Ext base E hp H E' (hp++[x]) H'→BR E'.ρ H'.get (E'.O (hp++[x])) x b)
  (ha:∀ E':Env,E'.ρ hp.length 0=some H.n→AR E'.ρ (H.push b).get (E'.O (hp++[x])) a u) (hk:K a (hp++[x])):dG base E hp aF H (some (u,.new b)) K:=by
 obtain ⟨E',_,h1,h2,h3⟩:=h.push hv (b:=b) (fun E' H' _ _ e=>hb E' H' e);exact ⟨u,.new b,E',a,hp++[x],rfl,hk,h1,h2,ha E' h3⟩
def Bj (agg:Bool) (cs:List AV) (o s:Nat) (K:AV→Prop):Prop :=
 match agg with
 | true=>o+s≤cs.length∧K (.ag ((cs.drop o).take s))
 | false=>∃ v,cs[o]?=some v∧K v
def fC (T:bG) (t:TypeId) (a:AV) (hp:List AB) (K:AV→List AB→Prop):Prop :=
 match a,T.ty.get t with
 | .pt cs o,some ⟨_,s,_,_,agg,_,_⟩=>Bj agg cs o s fun v=>K v hp
 | .ptr j aK o,some ⟨_,s,_,_,agg,_,_⟩=>∃ cs es,hp[j]?=some (.cells cs es aK)∧Bj agg cs o s fun v=>K v hp
 | _,_=>False
theorem mP {cs:List Value} {o n:Nat} (h:o+n≤cs.length):cut cs o n=some ((cs.drop o).take n):=by unfold cut;rw [show Nat.ble (o+n) cs.length=true from Nat.ble_eq_true_of_le h];rfl
theorem DR.cG {l:List AV} {o:Nat} {u:Value} (h:DR g O (.pt l o) u):∃ k d cs own e,u=.pointer (some ⟨k,d+o,none⟩)∧g k=some (.cells cs own e)∧¬ O k∧d+l.length≤cs.length∧∀ (i:Nat) (a:AV) (u:Value),l[i]?=some a→cs[d+i]?=some u→DR g O a u:=by
 cases h with
 | pt h1 h2 h3 h4=>exact ⟨_,_,_,_,_,rfl,h1,h2,h3,h4⟩
theorem AR.cG {l:List AV} {o:Nat} {u:Value} (h:AR ρ g O (.pt l o) u):DR g O (.pt l o) u:=h.deep rfl
theorem AR.ju {l:List (List AV)} {f:Bool} {u:Value} (h:AR ρ g O (.sl l f) u):DR g O (.sl l f) u:=h.deep rfl
theorem AR.cY {j aK o:Nat} {u:Value} (h:AR ρ g O (.ptr j aK o) u):∃ k,ρ j aK=some k∧u=.pointer (some ⟨k,o,none⟩):=by
 cases h with
 | d h=>cases h
 | ptr h=>exact ⟨_,h,rfl⟩
theorem AR.ej {j aK o n c:Nat} {u:Value} (h:AR ρ g O (.aJ j aK o n c) u):(∃ k,ρ j aK=some k∧u=.slice (some ⟨k,o,none⟩) n c)∨(o=0∧n=0∧u=.slice none 0 0):=by
 cases h with
 | d h=>cases h
 | aJ h=>exact .inl ⟨_,h,rfl⟩
 | rm=>exact .inr ⟨rfl,rfl,rfl⟩
theorem AR.oJ {j aK o n c:Nat} (h:AR ρ g O (.aJ j aK o n c) (.slice none 0 0)):c≤2:=by
 cases h with
 | d h=>cases h
 | rm hc=>exact hc
theorem aX.cells (h:aX E base hp aF H) {j aK k es:Nat} {cs:List AV} (hj:hp[j]?=some (.cells cs es aK)) (hk:E.ρ j aK=some k):∃ cs',H.get k=some (.cells cs' true es)∧fI E.ρ H.get (E.O hp) cs cs':=by
 rcases h.gu j _ aK hj rfl with ⟨k',b',h1,h2,h3⟩|⟨h1,_⟩
 ·rw [hk] at h1;cases h1;obtain ⟨cs',rfl,h4⟩:=h3;exact ⟨cs',h2,h4⟩
 ·rw [hk] at h1;cases h1
theorem kW {agg:Bool} {cs:List AV} {cs':List Value} {o d s:Nat} {K:AV→Prop} (h:∀ (i:Nat) (a:AV) (u:Value),cs[i]?=some a→cs'[d+i]?=some u→AR ρ g O a u) (hlen:d+cs.length≤cs'.length) (hw:Bj agg cs o s K) :
  ∃ u a,(bif agg then (cut cs' (d+o) s).map fun c=>((.agg c.toArray:Value),bX.none) else (cs'[d+o]?).map fun v=>(v,bX.none))=some (u,.none)∧K a∧AR ρ g O a u:=by
 unfold Bj at hw
 cases agg with
 | true =>
  obtain ⟨h1,h2⟩:=hw;refine ⟨.agg ((cs'.drop (d+o)).take s).toArray,_,by rw [mP (by omega)];rfl,h2,.ag ?_ ?_⟩
  ·simp;omega
  ·intro i x u hx hu;simp only [List.getElem?_take,List.getElem?_drop] at hx hu;split at hx
   ·rw [if_pos (by assumption)] at hu;exact h _ x u hx (by rw [←Nat.add_assoc];exact hu)
   ·cases hx
 | false =>obtain ⟨v,h1,h2⟩:=hw;have hlt:=(List.getElem?_eq_some_iff.1 h1).1;have hc:cs'[d+o]?=some (cs'[d+o]'(by omega)):=List.getElem?_eq_getElem _;exact ⟨_,v,by rw [hc];rfl,h2,h o v _ h1 hc⟩
theorem zu (h:aX E base hp aF H) {t:TypeId} {a:AV} {u:Value} (ha:AR E.ρ H.get (E.O hp) a u) {K:AV→List AB→Prop} (hw:fC T t a hp K):dG base E hp aF H (gT T t u H.get) K:=by
 unfold fC at hw;split at hw
 ·rename_i cs o jP s bytes zero agg cu cE hty;obtain ⟨k,d,cs',own,e,rfl,h1,h2,h3,h4⟩:=ha.cG.cG;unfold gT addr?;simp only [h1,cells?,hty];obtain ⟨u,a,e1,e2,e3⟩:=kW (ρ:=E.ρ) (fun i a u x y=>.d (h4 i a u x y)) h3 hw;rw [e1];exact .pure h e3 e2
 ·rename_i j aK o jP s bytes zero agg cu cE hty;obtain ⟨cs,es,h1,h2⟩:=hw;obtain ⟨k,hk,rfl⟩:=ha.cY;obtain ⟨cs',h3,h4⟩:=h.cells h1 hk;unfold gT addr?;simp only [h3,cells?,hty];obtain ⟨u,a,e1,e2,e3⟩:=kW (d:=0) (fun i a u x y=>h4.2 i a u x (by rw [Nat.zero_add] at y;exact y)) (by rw [h4.1];omega) h2;rw [Nat.zero_add] at e1;rw [e1];exact .pure h e3 e2
 ·exact hw.elim
def aQ (cs vs:List AV) (o:Nat):List AV:=cs.take o++vs++cs.drop (o+vs.length)
theorem fI.splice {a b:List AV} {a' b':List Value} (h:fI ρ g O a a') (k:fI ρ g O b b') (o:Nat):fI ρ g O (aQ a b o) (splice a' b' o):=by unfold aQ RM.splice;rw [k.1];exact ((h.take o).append k).append (h.drop _)
def aG (T:bG) (t:TypeId) (a v:AV) (hp:List AB) (K:AV→List AB→Prop):Prop :=
 match a,T.ty.get t with
 | .ptr j aK o,some ⟨_,s,_,_,_,_,_⟩=>∃ cs es,hp[j]?=some (.cells cs es aK)∧v.kz=true∧v.cells.all AV.one=true∧v.cells.length=s∧o+s≤cs.length∧K .cB (hp.set j (.cells (aQ cs v.cells o) es aK))
 | _,_=>False
theorem xy (h:aX E base hp aF H) {t:TypeId} {a v:AV} {u x:Value} (ha:AR E.ρ H.get (E.O hp) a u) (hv:AR E.ρ H.get (E.O hp) v x) {K:AV→List AB→Prop} (hw:aG T t a v hp K):dG base E hp aF H (jV T t u x H.get) K:=by
 unfold aG at hw;split at hw
 ·rename_i j aK o jP s bytes zero agg cu cE hty;obtain ⟨cs,es,h1,h2,h3,h4,h5,h6⟩:=hw;obtain ⟨k,hk,rfl⟩:=ha.cY;obtain ⟨cs',q1,q2⟩:=h.cells h1 hk;have hc:=hv.cells h2;have hone:=hc.bw h3;have e1:x.cells.toList.length=s:=by rw [←hc.1];exact h4
  unfold jV addr?;simp only [q1,cells?,hty];have e2:(true && Nat.beq x.cells.toList.length s && Nat.ble (o+s) cs'.length && x.cells.toList.all RM.bw)=true:=by rw [hone,e1];simp only [Bool.true_and,Bool.and_true,qq7];exact ⟨Nat.beq_refl s,Nat.ble_eq_true_of_le (by rw [←q2.1];exact h5)⟩
  rw [e2];simp only [cond_true];obtain ⟨p1,p2⟩:=h.put (a:=.cells (aQ cs v.cells o) es aK) (b:=.cells (splice cs' x.cells.toList o) true es) h1 rfl rfl hk ⟨_,rfl,q2.splice hc o⟩;exact ⟨undef,.put k _,E,.cB,_,rfl,h6,p1,p2,.cB⟩
 ·exact hw.elim
def ye (own:Bool) (v:AV) (hp:List AB) (K:AV→List AB→Prop):Prop :=
 v.kz=true∧v.cells.all AV.one=true ∧
  match own with
  | true=>K (.ptr hp.length 0 0) (hp++[.cells v.cells 0 0])
  | false=>cI v.cells=true∧K (.pt v.cells 0) hp
theorem Bk (h:aX E base hp aF H) {own:Bool} {v:AV} {x:Value} (hv:AR E.ρ H.get (E.O hp) v x) {K:AV→List AB→Prop} (hw:ye own v hp K):dG base E hp aF H (Ek H.n x) K:=by
 obtain ⟨h1,h2,h3⟩:=hw;have hc:=hv.cells h1;unfold Ek;rw [hc.bw h2];simp only [cond_true]
 cases own with
 | true =>exact .new h (x:=.cells v.cells 0 0) rfl (fun E' H' e=>⟨_,rfl,e.DB h.wf hc⟩) (fun E' hr=>.ptr hr) h3
 | false =>obtain ⟨h3,h4⟩:=h3;refine .uK h (fun e hg hO=>.d (.pt (d:=0) (o:=0) hg hO (by rw [hc.1];omega) fun i a u ha hu=>?_)) h4;rw [Nat.zero_add] at hu;exact e.dr h.wf ((hc.deep h3).2 i a u ha hu)
def ru (T:bG) (t:TypeId) (hp:List AB) (K:AV→List AB→Prop):Prop :=
 match T.ty.get t with
 | some ⟨_,_,_,some z,_,_,_⟩=>z.cells.toList.all bf=true∧K (.ptr hp.length 0 0) (hp++[.cells (z.cells.toList.map .fl) 0 0])
 | _=>False
theorem xz (h:aX E base hp aF H) {t:TypeId} {K:AV→List AB→Prop} (hw:ru T t hp K):dG base E hp aF H (rW T H.n t) K:=by
 unfold ru at hw;split at hw
 ·rename_i jP s bytes z agg cu cE hty;obtain ⟨h1,h2⟩:=hw;unfold rW;simp only [hty,h1,cond_true];exact .new h (x:=.cells (z.cells.toList.map .fl) 0 0) rfl (fun E' H' e=>⟨_,rfl,.zq h1⟩) (fun E' hr=>.ptr hr) h2
 ·exact hw.elim
def jM (T:bG) (t:TypeId) (a:AV) (i:Nat) (hp:List AB) (K:AV→List AB→Prop):Prop :=
 match a,T.ty.get t with
 | .pt cs o,some ⟨.struct _,_,_,_,_,cu,_⟩=>∃ off s,cu[i]?=some (off,s)∧1≤s∧K (.pt cs (o+off)) hp
 | .ptr j aK o,some ⟨.struct _,_,_,_,_,cu,_⟩=>∃ off s,cu[i]?=some (off,s)∧1≤s∧K (.ptr j aK (o+off)) hp
 | _,_=>False
theorem xA (h:aX E base hp aF H) {t:TypeId} {a:AV} {i:Nat} {u:Value} (ha:AR E.ρ H.get (E.O hp) a u) {K:AV→List AB→Prop} (hw:jM T t a i hp K):dG base E hp aF H (dJ T t u i) K:=by
 unfold jM at hw;split at hw
 ·rename_i cs o fs s bytes z agg cu cE hty;obtain ⟨off,s',h1,h2,h3⟩:=hw;obtain ⟨k,d,cs',own,e,rfl,q1,q2,q3,q4⟩:=ha.cG.cG;unfold dJ addr?;simp only [hty,h1,Nat.ble_eq_true_of_le h2,cond_true];refine .pure h (a:=.pt cs (o+off)) ?_ h3;unfold ptr;rw [Nat.add_assoc];exact .d (.pt q1 q2 q3 q4)
 ·rename_i j aK o fs s bytes z agg cu cE hty;obtain ⟨off,s',h1,h2,h3⟩:=hw;obtain ⟨k,hk,rfl⟩:=ha.cY;unfold dJ addr?;simp only [hty,h1,Nat.ble_eq_true_of_le h2,cond_true];exact .pure h (.ptr hk) h3
 ·exact hw.elim
def asInt:AV→Option Int
 | .fl (.int _ n)=>some n
 | _=>none
def cD (T:bG) (t:TypeId) (a ix:AV) (hp:List AB) (K:AV→List AB→Prop):Prop :=
 match asInt ix,T.ty.get t with
 | some j,some ⟨.array len _,_,_,_,_,_,cE⟩=>(0≤j∧j < (len:Int)) ∧
  match a with
  | .pt cs o=>K (.pt cs (o+j.toNat * cE)) hp
  | .ptr i aK o=>K (.ptr i aK (o+j.toNat * cE)) hp
  | _=>False
 | some j,some ⟨.slice _,_,_,_,_,_,cE⟩ =>
  match a with
  | .sl els _=>∃ el,(0≤j∧els[j.toNat]?=some el)∧el.length=cE∧K (.pt el 0) hp
  | .aJ i aK o n _=>(0≤j∧j < (n:Int))∧K (.ptr i aK (o+j.toNat * cE)) hp
  | _=>False
 | _,_=>False
theorem kX {cE k o len:Nat} {j:Int} (h:0≤j∧j < (len:Int)):oV cE k o len j=some (ptr k (o+j.toNat * cE),.none):=by unfold oV;have e:Int.ofNat len=(len:Int):=rfl;rw [mm,nE,e,decide_eq_true h.1,decide_eq_true h.2];rfl
theorem iQ {a:AV} {n:Int} {u:Value} (h:asInt a=some n) (ha:AR ρ g O a u):intOf? u=some n:=by
 unfold asInt at h;split at h
 ·cases h;rw [ha.eW.1];rfl
 ·cases h
theorem ry (h:aX E base hp aF H) {t:TypeId} {a ix:AV} {u x:Value} (ha:AR E.ρ H.get (E.O hp) a u) (hx:AR E.ρ H.get (E.O hp) ix x) {K:AV→List AB→Prop} (hw:cD T t a ix hp K):dG base E hp aF H (dK T t u x) K:=by
 unfold cD at hw;split at hw
 ·rename_i j len el s bytes z agg cu cE hj hty;have hix:=iQ hj hx;obtain ⟨h0,hw⟩:=hw;unfold dK;simp only [hix,hty];split at hw
  ·obtain ⟨k,d,cs',own,e,rfl,q1,q2,q3,q4⟩:=ha.cG.cG;simp only [addr?];rw [kX h0];refine .pure h ?_ hw;unfold ptr;rw [Nat.add_assoc];exact .d (.pt q1 q2 q3 q4)
  ·obtain ⟨k,hk,rfl⟩:=ha.cY;simp only [addr?];rw [kX h0];exact .pure h (.ptr hk) hw
  ·exact hw.elim
 ·rename_i j el s bytes z agg cu cE hj hty;have hix:=iQ hj hx;unfold dK;simp only [hix,hty];split at hw
  ·rename_i els f;obtain ⟨el,⟨h0,h1⟩,h2,h3⟩:=hw
   cases ha.ju with
   | nil=>cases h1
   | sl q1 q2 q3 q4 q5 q6 q7 =>
    rename_i k o n c es cs own e;have hlt:j.toNat < els.length:=(List.getElem?_eq_some_iff.1 h1).1;have hes:es=cE:=by rw [←q5 _ _ h1,h2]
    subst hes;show dG base E hp aF H (oV es k o n j) K;rw [kX ⟨h0,by omega⟩];have hle:(j.toNat+1) * es≤n * es:=Nat.mul_le_mul_right _ (by omega);rw [Nat.add_mul,Nat.one_mul] at hle;refine .pure h (.d (.pt (d:=o+j.toNat * es) (o:=0) q1 q2 (by rw [h2];omega) fun i a u hi hu=>?_)) h3;exact q6 _ _ i a u h1 hi hu
  ·rename_i i aK o n c;obtain ⟨h0,h1⟩:=hw
   rcases ha.ej with ⟨k,hk,rfl⟩|⟨rfl,rfl,rfl⟩
   ·show dG base E hp aF H (oV cE k o n j) K;rw [kX h0];exact .pure h (.ptr hk) h1
   ·omega
  ·exact hw.elim
 ·exact hw.elim
def CJ:List AV→Option (List Value)
 | []=>some []
 | .fl v :: l=>(CJ l).map (v :: ·)
 | _=>none
theorem oK:∀ {cs:List AV} {l:List Value},CJ cs=some l→cs=l.map AV.fl
 | [],l,h=>by cases h;rfl
 | .fl v :: cs,l,h=>by simp only [CJ,Option.map_eq_some_iff] at h;obtain ⟨m,hm,rfl⟩:=h;rw [oK hm];rfl
 | .sl _ _ :: _,_,h|.pt _ _ :: _,_,h|.fn _ _ _ :: _,_,h|.ag _ :: _,_,h|.tp _ :: _,_,h|.ptr _ _ _ :: _,_,h|.aJ _ _ _ _ _ :: _,_,h|.om _ :: _,_,h|.oq _ :: _,_,h|.cB :: _,_,h=>by simp [CJ] at h
def AV.fX:AV→Option Value
 | .fl v=>some v
 | .ag cs=>(CJ cs).map fun l=>.agg l.toArray
 | _=>none
theorem dg {a:AV} {v u:Value} (h:a.fX=some v) (ha:AR ρ g O a u):u=v∧flat v=true:=by
 unfold AV.fX at h;split at h
 ·cases h;obtain ⟨rfl,hf⟩:=ha.eW;refine ⟨rfl,?_⟩;cases u <;> first|exact hf|simp [bf] at hf
 ·rename_i cs;rw [Option.map_eq_some_iff] at h;obtain ⟨l,h1,rfl⟩:=h;have hcs:=oK h1;subst hcs
  cases ha with
  | d h=>cases h with
   | ag ha h1 =>rename_i a';obtain ⟨e1,e2⟩:=fI.eW (ρ:=ρ) (g:=g) (O:=O) (l':=a'.toList) ⟨ha,fun i a u x y=>.d (h1 i a u x y)⟩;refine ⟨by rw [←e1],?_⟩;simp only [flat];exact e2
  | ag ha h1 =>rename_i a';obtain ⟨e1,e2⟩:=fI.eW (ρ:=ρ) (g:=g) (O:=O) (l':=a'.toList) ⟨ha,h1⟩;refine ⟨by rw [←e1],?_⟩;simp only [flat];exact e2
 ·cases h
def jv (r:Option (Value × bX)) (hp:List AB) (K:AV→List AB→Prop):Prop:=∃ v,r=some (v,.none)∧flat v=true∧K (rq v) hp
theorem cN (h:aX E base hp aF H) {r:Option (Value × bX)} {K:AV→List AB→Prop} (hw:jv r hp K):dG base E hp aF H r K:=by obtain ⟨v,rfl,h2,h3⟩:=hw;exact .pure h (kV h2) h3
def aU (T:bG) (o:BinOp) (t:TypeId) (x y:Operand) (a b:AV) (hp:List AB) (K:AV→List AB→Prop):Prop :=
 match a,b with
 | .fl (.int .i64 m),.fl (.int .i64 n) =>
  match o with
  | .add=>(-9223372036854775808≤m+n∧m+n≤9223372036854775807)∧K (.fl (.int .i64 (m+n))) hp
  | .sub=>(-9223372036854775808≤m - n∧m - n≤9223372036854775807)∧K (.fl (.int .i64 (m - n))) hp
  | .mul=>(-9223372036854775808≤m * n∧m * n≤9223372036854775807)∧K (.fl (.int .i64 (m * n))) hp
  | .eql=>K (.fl (.bool (decide (m=n)))) hp
  | .neq=>K (.fl (.bool (!decide (m=n)))) hp
  | .lss=>K (.fl (.bool (decide (m < n)))) hp
  | .leq=>K (.fl (.bool (decide (m≤n)))) hp
  | .gtr=>K (.fl (.bool (decide (n < m)))) hp
  | .geq=>K (.fl (.bool (decide (n≤m)))) hp
  | _=>jv (dQ T.P o t x y (.int .i64 m) (.int .i64 n)) hp K
 | .sl els _,.fl (.slice none 0 0)=>els ≠ []∧lJ T.P t=true∧∃ v,jD o=some (v,.none)∧K (.fl v) hp
 | .aJ _ _ _ m _,.fl (.slice none 0 0)=>m ≠ 0∧lJ T.P t=true∧∃ v,jD o=some (v,.none)∧K (.fl v) hp
 | .pt _ _,.fl (.pointer none)=>rX T.P t=true∧∃ v,jD o=some (v,.none)∧K (.fl v) hp
 | .ptr _ _ _,.fl (.pointer none)=>rX T.P t=true∧∃ v,jD o=some (v,.none)∧K (.fl v) hp
 | _,_=>∃ v w,a.fX=some v∧b.fX=some w∧jv (dQ T.P o t x y v w) hp K
theorem vV {c:Int} (h:-9223372036854775808≤c∧c≤9223372036854775807):xO c=true:=by unfold xO;rw [mm,mm,qq7,decide_eq_true_iff,decide_eq_true_iff];exact ⟨by have e:Int.negSucc 9223372036854775807=-9223372036854775808:=rfl;rw [e];exact h.1,by have e:Int.ofNat 9223372036854775807=9223372036854775807:=rfl;rw [e];exact h.2⟩
theorem IB (a b:Int):Il a b=decide (a=b):=by
 cases h:Il a b with
 | true=>exact (decide_eq_true (FU h)).symm
 | false =>refine (decide_eq_false fun e=>?_).symm;subst e;cases a <;> simp [Il] at h
theorem mQ {o:BinOp} {v:Value} {e:bX} (h:jD o=some (v,e)):bf v=true:=by
 unfold jD at h;split at h
 ·cases h;rfl
 ·cases h;rfl
 ·cases h
theorem Bl (h:aX E base hp aF H) {o:BinOp} {t:TypeId} {x y:Operand} {a b:AV} {u v:Value} (ha:AR E.ρ H.get (E.O hp) a u) (hb:AR E.ρ H.get (E.O hp) b v) {K:AV→List AB→Prop}
  (hw:aU T o t x y a b hp K):dG base E hp aF H (dQ T.P o t x y u v) K:=by
 unfold aU at hw;split at hw
 ·rename_i m n;obtain ⟨rfl,_⟩:=ha.eW;obtain ⟨rfl,_⟩:=hb.eW;have key:∀ {z:Value},jG o m n=some z→bf z=true→K (.fl z) hp→dG base E hp aF H (dQ T.P o t x y (.int .i64 m) (.int .i64 n)) K:=by intro z hz hf hk;unfold dQ;simp only [hz];exact .pure h (.d (.fl hf)) hk
  cases o <;> simp only at hw <;> first
   | exact key (by unfold jG nA;simp only;rw [show Int.add m n=m+n from rfl,vV hw.1];rfl) rfl hw.2
   | exact key (by unfold jG nA;simp only;rw [show Int.sub m n=m - n from rfl,vV hw.1];rfl) rfl hw.2
   | exact key (by unfold jG nA;simp only;rw [show Int.mul m n=m * n from rfl,vV hw.1];rfl) rfl hw.2
   | exact key (by simp only [jG,IB,nE,mm]) rfl hw
   | exact cN h hw
 ·obtain ⟨hne,ht,z,hz,hk⟩:=hw;obtain ⟨rfl,_⟩:=hb.eW
  cases ha.ju with
  | nil=>exact absurd rfl hne
  | sl q1 q2 q3 q4 q5 q6 q7 =>unfold dQ;simp only [ht,hz,cond_true];exact .pure h (.d (.fl (mQ hz))) hk
 ·obtain ⟨hne,ht,z,hz,hk⟩:=hw;obtain ⟨rfl,_⟩:=hb.eW
  rcases ha.ej with ⟨k,hk2,rfl⟩|⟨rfl,rfl,rfl⟩
  ·unfold dQ;simp only [ht,hz,cond_true];exact .pure h (.d (.fl (mQ hz))) hk
  ·exact absurd rfl hne
 ·obtain ⟨ht,z,hz,hk⟩:=hw;obtain ⟨rfl,_⟩:=hb.eW
  cases ha.cG with
  | pt =>unfold dQ;simp only [ht,hz,cond_true];exact .pure h (.d (.fl (mQ hz))) hk
 ·obtain ⟨ht,z,hz,hk⟩:=hw;obtain ⟨rfl,_⟩:=hb.eW;obtain ⟨k,hk2,rfl⟩:=ha.cY;unfold dQ;simp only [ht,hz,cond_true];exact .pure h (.d (.fl (mQ hz))) hk
 ·obtain ⟨v',w',h1,h2,h3⟩:=hw;obtain ⟨rfl,_⟩:=dg h1 ha;obtain ⟨rfl,_⟩:=dg h2 hb;exact cN h h3
def IC (T:bG) (o:UnOp) (a:AV) (hp:List AB) (K:AV→List AB→Prop):Prop :=
 match o,a with
 | .not,.fl (.bool b)=>K (.fl (.bool (!b))) hp
 | _,_=>∃ v,a.fX=some v∧jv (cS (aP T.P (Op.unary o v))) hp K
theorem CK (h:aX E base hp aF H) {o:UnOp} {a:AV} {u:Value} (ha:AR E.ρ H.get (E.O hp) a u) {K:AV→List AB→Prop} (hw:IC T o a hp K) :
  dG base E hp aF H (bif flat u then cS (aP T.P (Op.unary o u)) else none) K:=by
 unfold IC at hw;split at hw
 ·obtain ⟨rfl,_⟩:=ha.eW;exact .pure h (.d (.fl rfl)) hw
 ·obtain ⟨v,h1,h2⟩:=hw;obtain ⟨rfl,hf⟩:=dg h1 ha;rw [hf];exact cN h h2
def vW (T:bG) (s d:TypeId) (a:AV) (hp:List AB) (K:AV→List AB→Prop):Prop :=
 ∃ v,a.fX=some v∧jv (cS (aP T.P (convert s d v))) hp K
def DC (T:bG) (t:TypeId) (a:AV) (hp:List AB) (K:AV→List AB→Prop):Prop :=
 ∃ v,a.fX=some v∧jv (cS (aP T.P (Instr.makeInterface t v))) hp K
def Bm (T:bG) (t d:TypeId) (ok:Bool) (a:AV) (hp:List AB) (K:AV→List AB→Prop):Prop :=
 ∃ v,a.fX=some v∧jv (cS (aP T.P (Instr.typeAssert v t d ok))) hp K
theorem vX (h:aX E base hp aF H) {t d:TypeId} {ok:Bool} {a:AV} {u:Value} (ha:AR E.ρ H.get (E.O hp) a u) {K:AV→List AB→Prop} (hw:Bm T t d ok a hp K) :
  dG base E hp aF H (bif flat u then cS (aP T.P (Instr.typeAssert u t d ok)) else none) K:=by
 obtain ⟨v,h1,h2⟩:=hw;obtain ⟨rfl,hf⟩:=dg h1 ha;rw [hf];exact cN h h2
theorem xB (h:aX E base hp aF H) {t:TypeId} {a:AV} {u:Value} (ha:AR E.ρ H.get (E.O hp) a u) {K:AV→List AB→Prop} (hw:DC T t a hp K) :
  dG base E hp aF H (bif flat u then cS (aP T.P (Instr.makeInterface t u)) else none) K:=by
 obtain ⟨v,h1,h2⟩:=hw;obtain ⟨rfl,hf⟩:=dg h1 ha;rw [hf];exact cN h h2
theorem zw (h:aX E base hp aF H) {s d:TypeId} {a:AV} {u:Value} (ha:AR E.ρ H.get (E.O hp) a u) {K:AV→List AB→Prop} (hw:vW T s d a hp K) :
  dG base E hp aF H (bif flat u then cS (aP T.P (convert s d u)) else none) K:=by
 obtain ⟨v,h1,h2⟩:=hw;obtain ⟨rfl,hf⟩:=dg h1 ha;rw [hf];exact cN h h2
def uL (T:bG) (t:TypeId) (a ix:AV) (hp:List AB) (K:AV→List AB→Prop):Prop :=
 ∃ v w,a.fX=some v∧ix.fX=some w∧jv (cS (aP T.P (Instr.index t v w))) hp K
theorem lE (h:aX E base hp aF H) {t:TypeId} {a ix:AV} {u x:Value} (ha:AR E.ρ H.get (E.O hp) a u) (hx:AR E.ρ H.get (E.O hp) ix x) {K:AV→List AB→Prop} {r:Option (Value × bX)} (hw:uL T t a ix hp K) :
  dG base E hp aF H (bif flat u && flat x then cS (aP T.P (Instr.index t u x)) else r) K:=by
 obtain ⟨v,w,h1,h2,h3⟩:=hw;obtain ⟨rfl,hf⟩:=dg h1 ha;obtain ⟨rfl,hf'⟩:=dg h2 hx;rw [hf,hf'];exact cN h h3
def vY (T:bG) (t:TypeId) (a ix:AV) (hp:List AB) (K:AV→List AB→Prop):Prop :=
 match a,ix with
 | .ag cs,.fl (.int _ (.ofNat j))=>match T.ty.get t with
  | some ⟨.array n e,_,_,_,_,_,_⟩=>match T.ty.get e,cs[j]? with
   | some ⟨_,1,_,_,false,_,_⟩,some (.fn f x y)=>(Nat.blt j n=true∧(cs.any fun v=>!v.one)=false)∧K (.fn f x y) hp
   | _,_=>uL T t a ix hp K
  | _=>uL T t a ix hp K
 | _,_=>uL T t a ix hp K
theorem vZ (h:aX E base hp aF H) {t:TypeId} {a ix:AV} {u x:Value} (ha:AR E.ρ H.get (E.O hp) a u) (hx:AR E.ρ H.get (E.O hp) ix x) {K:AV→List AB→Prop} (hw:vY T t a ix hp K) :
  dG base E hp aF H (bif flat u && flat x then cS (aP T.P (Instr.index t u x)) else me T t u x) K:=by
 unfold vY at hw;split at hw
 ·rename_i cs k j;split at hw
  ·rename_i m e _ _ _ _ _ _ hty;split at hw
   ·rename_i jP _ _ _ _ f y z hel hcs;obtain ⟨⟨h1,_⟩,h2⟩:=hw;obtain ⟨rfl,_⟩:=hx.eW
    obtain ⟨us,rfl,h3⟩:∃ us:Array Value,u=.agg us∧fI E.ρ H.get (E.O hp) cs us.toList:=by
     cases ha with
     | d h=>cases h with
      | ag ha h1=>exact ⟨_,rfl,ha,fun i a u x y=>.d (h1 i a u x y)⟩
     | ag ha h1=>exact ⟨_,rfl,ha,h1⟩
    have hj:j < us.toList.length:=by rw [←h3.1];exact (List.getElem?_eq_some_iff.1 hcs).1
    have hv:=h3.2 j _ _ hcs (List.getElem?_eq_getElem hj)
    obtain ⟨p,q,hpq⟩:∃ p q,us.toList[j]=.func (.func f) p q:=by
     revert hv;generalize us.toList[j]=uj;intro hv
     cases hv with
     | d h=>cases h with
      | fn=>exact ⟨_,_,rfl⟩
     | fn=>exact ⟨_,_,rfl⟩
    have hnf:flat (.agg us)=false:=by show us.toList.all bf=false;rw [Bool.eq_false_iff];intro hall;have:=List.all_eq_true.1 hall _ (List.getElem_mem hj);rw [hpq] at this;cases this
    rw [hnf];simp only [Bool.false_and,cond_false];unfold me;simp only [hty,hel,h1,cond_true];rw [List.getElem?_eq_getElem hj,hpq];exact .pure h (by rw [hpq] at hv;exact hv) h2
   ·exact lE h ha hx hw
  ·exact lE h ha hx hw
 ·exact lE h ha hx hw
def Bn (T:bG) (t:TypeId) (a:AV) (i:Nat) (hp:List AB) (K:AV→List AB→Prop):Prop :=
 ∃ v,a.fX=some v∧jv (cS (aP T.P (Instr.field t v i))) hp K
theorem v5 (h:aX E base hp aF H) {t:TypeId} {a:AV} {i:Nat} {u:Value} (ha:AR E.ρ H.get (E.O hp) a u) {K:AV→List AB→Prop} (hw:Bn T t a i hp K) :
  dG base E hp aF H (bif flat u then cS (aP T.P (Instr.field t u i)) else none) K:=by
 obtain ⟨v,h1,h2⟩:=hw;obtain ⟨rfl,hf⟩:=dg h1 ha;rw [hf];exact cN h h2
def jR (a:AV) (i:Nat) (hp:List AB) (K:AV→List AB→Prop):Prop :=
 match a with
 | .tp vs=>∃ v,vs[i]?=some v∧K v hp
 | _=>False
theorem AR.v7 {vs:List AV} {u:Value} (h:AR ρ g O (.tp vs) u):∃ us:Array Value,u=.tuple us∧fI ρ g O vs us.toList:=by
 cases h with
 | d h=>cases h with
  | tp ha h1=>exact ⟨_,rfl,ha,fun i a u x y=>.d (h1 i a u x y)⟩
 | tp ha h1=>exact ⟨_,rfl,ha,h1⟩
theorem uA (h:aX E base hp aF H) {a:AV} {i:Nat} {u:Value} (ha:AR E.ρ H.get (E.O hp) a u) {K:AV→List AB→Prop} (hw:jR a i hp K):dG base E hp aF H (fq u i) K:=by
 unfold jR at hw;split at hw
 ·obtain ⟨v,h1,h2⟩:=hw;obtain ⟨us,rfl,h3⟩:=ha.v7;obtain ⟨x,h4,h5⟩:=h3.get h1;unfold fq;simp only [h4,Option.map_some];exact .pure h h5 h2
 ·exact hw.elim
def jN (t:Bool) (a b:AV) (hp:List AB) (K:AV→List AB→Prop):Prop :=
 match a,b with
 | .fl (.bool x),.fl (.bool y)=>K (.fl (.bool (bif t then x else y))) hp
 | a,b=>(t=true→K a hp)∧(t=false→K b hp)
def sH (c a b:AV) (hp:List AB) (K:AV→List AB→Prop):Prop :=
 match c with
 | .fl (.bool t)=>jN t a b hp K
 | _=>False
theorem zx (h:aX E base hp aF H) {c a b:AV} {u v w:Value} (hc:AR E.ρ H.get (E.O hp) c u) (ha:AR E.ρ H.get (E.O hp) a v) (hb:AR E.ρ H.get (E.O hp) b w) {K:AV→List AB→Prop} (hw:sH c a b hp K) :
  dG base E hp aF H (tq u v w) K:=by
 unfold sH at hw;split at hw
 ·rename_i t;obtain ⟨rfl,_⟩:=hc.eW;unfold jN at hw;split at hw
  ·rename_i x y;obtain ⟨rfl,_⟩:=ha.eW;obtain ⟨rfl,_⟩:=hb.eW;unfold tq;refine .pure h (a:=.fl (.bool (bif t then x else y))) ?_ hw;cases t <;> exact .d (.fl rfl)
  ·unfold tq
   cases ht:t with
   | true=>exact .pure h ha (hw.1 ht)
   | false=>exact .pure h hb (hw.2 ht)
 ·exact hw.elim
def rz (a:AV) (hp:List AB) (K:AV→List AB→Prop):Prop :=
 match a with
 | .pt cs o=>K (.pt cs o) hp
 | .ptr j aK o=>K (.ptr j aK o) hp
 | _=>False
theorem Bo (h:aX E base hp aF H) {a:AV} {u:Value} (ha:AR E.ρ H.get (E.O hp) a u) {K:AV→List AB→Prop} (hw:rz a hp K):dG base E hp aF H (iB u) K:=by
 unfold rz at hw;split at hw
 ·obtain ⟨k,d,cs',own,e,rfl,_⟩:=ha.cG.cG;exact .pure h ha hw
 ·obtain ⟨k,hk,rfl⟩:=ha.cY;exact .pure h ha hw
 ·exact hw.elim
end
end Go.RM
namespace Go.RM
open Go
section
variable {T : bG} {base : Nat} {E E' : Env} {hp hp' : List AB} {aF : bq} {H H' : Hp} {ρ : Nat → Nat → Option Nat} {g : aN} {O : Nat → Prop}
def Bp (place:Nat→Option (Nat × Nat)) (cells:List AV):List (Nat × AV)→Option (List AV)
 | []=>some cells
 | (i,v) :: rest =>
  match place i with
  | none=>none
  | some (off,size)=>bif v.kz && Nat.beq v.cells.length size && Nat.ble (off+size) cells.length then Bp place (aQ cells v.cells off) rest else none
def nX (ρ:Nat→Nat→Option Nat) (g:aN) (O:Nat→Prop):List (Nat × AV)→List (Nat × Value)→Prop
 | [],[]=>True
 | (i,a) :: l,(k,u) :: m=>i=k∧AR ρ g O a u∧nX ρ g O l m
 | _,_=>False
theorem tS {place:Nat→Option (Nat × Nat)}:∀ {parts:List (Nat × AV)} {parts':List (Nat × Value)} {cells:List AV} {cells':List Value} {cs:List AV},nX ρ g O parts parts'→fI ρ g O cells cells' →
  Bp place cells parts=some cs→∃ cs',m9 place cells' parts'=some cs'∧fI ρ g O cs cs'
 | [],[],cells,cells',cs,_,hc,h=>by cases h;exact ⟨cells',rfl,hc⟩
 | (i,a) :: l,(k,u) :: m,cells,cells',cs,hp,hc,h=>by
  obtain ⟨rfl,ha,hl⟩:=hp;unfold Bp at h;unfold m9
  cases hpl:place i with
  | none=>rw [hpl] at h;cases h
  | some p =>
   obtain ⟨off,size⟩:=p;rw [hpl] at h;simp only at h ⊢
   cases hb:(a.kz && Nat.beq a.cells.length size && Nat.ble (off+size) cells.length) with
   | false=>rw [hb] at h;cases h
   | true =>rw [hb] at h;simp only [cond_true] at h;simp only [qq7] at hb;have hac:=ha.cells hb.1.1;rw [show Nat.beq u.cells.toList.length size=true by rw [←hac.1];exact hb.1.2,show Nat.ble (off+size) cells'.length=true by rw [←hc.1];exact hb.2];exact tS hl (hc.splice hac off) h
 | [],_ :: _,_,_,_,hp,_,_=>hp.elim
 | _ :: _,[],_,_,_,hp,_,_=>by simp [nX] at hp
def mR (T:bG) (t:TypeId) (parts:List (Nat × AV)) (hp:List AB) (K:AV→List AB→Prop):Prop :=
 match T.ty.get t with
 | some ⟨jP,_,_,some z,true,cu,cE⟩=>z.cells.toList.all bf=true∧∃ cs,Bp (gx jP cu cE) (z.cells.toList.map .fl) parts=some cs∧K (.ag cs) hp
 | _=>False
theorem xC (h:aX E base hp aF H) {t:TypeId} {parts:List (Nat × AV)} {parts':List (Nat × Value)} (hpt:nX E.ρ H.get (E.O hp) parts parts') {K:AV→List AB→Prop} (hw:mR T t parts hp K) :
  dG base E hp aF H (pX T t parts') K:=by
 unfold mR at hw;split at hw
 ·rename_i jP s bytes z cu cE hty;obtain ⟨h1,cs,h2,h3⟩:=hw;unfold pX;simp only [hty,h1,cond_true];obtain ⟨cs',e1,e2⟩:=tS hpt (fI.zq h1) h2;rw [e1];refine .pure h (a:=.ag cs) (.ag ?_ ?_) h3
  ·simpa using e2.1
  ·intro i x u hx hu;exact e2.2 i x u hx (by simpa using hu)
 ·exact hw.elim
def kY (es:Nat):Nat→List (Nat × AV)→Bool
 | _,[]=>true
 | i,(k,v) :: l=>Nat.beq k i && v.kz && v.cells.all AV.one && Nat.beq v.cells.length es && kY es (i+1) l
theorem yf {es:Nat}:∀ {parts:List (Nat × AV)} {parts':List (Nat × Value)} {i:Nat} {cells:List Value},nX ρ g O parts parts'→kY es i parts=true→cells.length=(i+parts.length) * es →
  ∃ cs',m9 (fun i=>some (i * es,es)) cells parts'=some (cells.take (i * es)++cs')∧fI ρ g O (parts.map (·.2.cells)).flatten cs'∧cs'.length=parts.length * es
 | [],[],i,cells,_,_,hl=>by refine ⟨[],?_,.nil,by simp⟩;simp only [List.length_nil,Nat.add_zero] at hl;simp [m9,←hl]
 | (k,a) :: l,(k',u) :: m,i,cells,hp,hok,hlen=>by
  obtain ⟨rfl,ha,hl⟩:=hp;simp only [kY,qq7] at hok;obtain ⟨⟨⟨⟨o1,o2⟩,o3⟩,o4⟩,o5⟩:=hok;obtain rfl:=Nat.eq_of_beq_eq_true o1;have hac:=ha.cells o2;have hes:=Nat.eq_of_beq_eq_true o4;have hlen':cells.length=k * es+es+l.length * es:=by rw [hlen];simp only [List.length_cons];rw [Nat.add_mul,Nat.add_mul];omega
  unfold m9;simp only;rw [show Nat.beq u.cells.toList.length es=true by rw [←hac.1];exact o4,show Nat.ble (k * es+es) cells.length=true from Nat.ble_eq_true_of_le (by omega)];simp only [Bool.and_self,cond_true];have hsl:(splice cells u.cells.toList (k * es)).length=cells.length:=by unfold RM.splice;simp only [List.length_append,List.length_take,List.length_drop];rw [←hac.1,hes];omega
  obtain ⟨cs',e1,e2,e3⟩:=yf (i:=k+1) (cells:=splice cells u.cells.toList (k * es)) hl o5 (by rw [hsl,hlen];simp only [List.length_cons];rw [show k+1+l.length=k+(l.length+1) by omega]);refine ⟨u.cells.toList++cs',?_,?_,?_⟩
  ·rw [e1]
   congr 1
   rw [←List.append_assoc]
   congr 1
   unfold RM.splice;rw [Nat.add_mul,Nat.one_mul,List.take_append_of_le_length (by simp only [List.length_append,List.length_take];rw [←hac.1,hes];omega)];rw [List.take_of_length_le];simp only [List.length_append,List.length_take];rw [←hac.1,hes];omega
  ·simp only [List.map_cons,List.flatten_cons];exact hac.append e2
  ·simp only [List.length_append,List.length_cons,e3];rw [←hac.1,hes,Nat.add_mul];omega
 | [],_ :: _,_,_,hp,_,_=>hp.elim
 | _ :: _,[],_,_,hp,_,_=>by simp [nX] at hp
theorem tT {es:Nat}:∀ {l:List (Nat × AV)} {i:Nat},kY es i l=true→∀ p ∈ l,p.2.cells.length=es∧p.2.cells.all AV.one=true
 | [],_,_,p,hp=>by cases hp
 | (k,v) :: l,i,h,p,hp=>by
  simp only [kY,qq7] at h
  rcases List.mem_cons.1 hp with rfl|hp
  ·exact ⟨Nat.eq_of_beq_eq_true h.1.2,h.1.1.2⟩
  ·exact tT h.2 p hp
theorem ec {α:Type} {es:Nat}:∀ {els:List (List α)},(∀ el ∈ els,el.length=es)→∀ (i:Nat) (el:List α) (j:Nat),els[i]?=some el→j < es→els.flatten[i * es+j]?=el[j]?
 | [],_,i,el,j,h,_=>by cases h
 | x :: l,hl,i,el,j,h,hj=>by
  have hx:=hl x (by simp);rw [List.flatten_cons]
  cases i with
  | zero =>cases h;rw [Nat.zero_mul,Nat.zero_add,List.getElem?_append_left (by omega)]
  | succ i =>rw [List.getElem?_append_right (by rw [hx,Nat.add_mul];omega),hx,show (i+1) * es+j - es=i * es+j by rw [Nat.add_mul];omega];exact ec (fun e he=>hl e (List.mem_cons_of_mem _ he)) i el j (by simpa using h) hj
theorem dW {α:Type} {es:Nat}:∀ {els:List (List α)},(∀ el ∈ els,el.length=es)→els.flatten.length=els.length * es
 | [],_=>by simp
 | x :: l,h=>by rw [List.flatten_cons,List.length_append,dW (fun e he=>h e (List.mem_cons_of_mem _ he)),h x (by simp),List.length_cons,Nat.add_mul];omega
theorem DR.row {k n:Nat} {els:List (List AV)} {cs:List Value} {own full:Bool} {es e c:Nat} (hg:g k=some (.cells cs own e)) (hO:¬ O k) (hel:∀ el ∈ els,el.length=es) (hn:els.length=n) (hc:sG g O els.flatten cs) (hf:full=true→c=n) :
  DR g O (.sl els full) (.slice (some ⟨k,0,none⟩) n c):=by
 refine .sl (es:=es) hg hO ?_ hn (fun i el h=>hel el (List.mem_of_getElem? h)) (fun i el j a u h1 h2 h3=>?_) hf
 ·rw [←hc.1,dW hel,hn];omega
 ·have hj:j < es:=by rw [←hel el (List.mem_of_getElem? h1)];exact (List.getElem?_eq_some_iff.1 h2).1
  rw [Nat.zero_add] at h3;exact hc.2 _ a u (by rw [ec hel i el j h1 hj];exact h2) h3
def dy (T:bG) (own:Bool) (t:TypeId) (len:Nat) (parts:List (Nat × AV)) (hp:List AB) (K:AV→List AB→Prop):Prop :=
 match elem? T t with
 | some inf=>Nat.ble (len * inf.size) 65536=true∧bL inf=true∧kY inf.size 0 parts=true∧Nat.beq parts.length len=true ∧
  match own with
  | true=>K (.aJ hp.length 0 0 len len) (hp++[.cells (parts.map (·.2.cells)).flatten inf.size 0])
  | false=>cI (parts.map (·.2.cells)).flatten=true∧K (.sl (parts.map (·.2.cells)) true) hp
 | none=>False
theorem qi (h:aX E base hp aF H) {own:Bool} {t:TypeId} {len:Nat} {parts:List (Nat × AV)} {parts':List (Nat × Value)} (hpt:nX E.ρ H.get (E.O hp) parts parts') {K:AV→List AB→Prop}
  (hw:dy T own t len parts hp K):dG base E hp aF H (gF T H.n t len parts') K:=by
 unfold dy at hw;split at hw
 ·rename_i inf hi;obtain ⟨h1,h2,h3,h4,h5⟩:=hw;have h4:=Nat.eq_of_beq_eq_true h4;unfold gF;simp only [hi,h1,h2,Bool.and_self,cond_true];obtain ⟨cs',e1,e2,e3⟩:=yf (es:=inf.size) (i:=0) (cells:=bV ((inf.zero.map fun z=>z.cells.toList).getD []) (len * inf.size)) hpt h3 (by rw [Nat.zero_add,h4];simp [bV]);rw [e1];simp only [Nat.zero_mul,List.take_zero,List.nil_append]
  cases own with
  | true=>exact .new h (x:=.cells (parts.map (·.2.cells)).flatten inf.size 0) rfl (fun E' H' e=>⟨_,rfl,e.DB h.wf e2⟩) (fun E' hr=>.aJ hr) h5
  | false =>
   obtain ⟨h5,h6⟩:=h5;refine .uK h (fun e hg hO=>.d (.row hg hO (es:=inf.size) (fun el he=>?_) (by simp [h4]) ?_ (fun _=>rfl))) h6
   ·obtain ⟨p,hp',rfl⟩:=List.mem_map.1 he;exact (tT h3 p hp').1
   ·have:=(e.DB h.wf e2).deep h5;exact this
 ·exact hw.elim
def pR (o:Option AV) (d l:Nat):Prop :=
 match o with
 | none=>l=d
 | some a=>asInt a=some (l:Int)
def EN (ρ:Nat→Nat→Option Nat) (g:aN) (O:Nat→Prop):Option AV→Option Value→Prop
 | none,none=>True
 | some a,some u=>AR ρ g O a u
 | _,_=>False
theorem dU {o:Option AV} {o':Option Value} {d l:Nat} (h:pR o d l) (ho:EN ρ g O o o'):dh d o'=some l:=by
 cases o with
 | none=>cases o' with
  | none=>cases h;rfl
  | some=>exact ho.elim
 | some a=>cases o' with
  | none=>exact ho.elim
  | some u =>
   have:=iQ h ho;unfold intOf? at this;split at this
   ·cases this;unfold dh jC;simp only [Int.toNat_natCast];rw [decide_eq_false (by omega)];rfl
   ·cases this
def mS (T:bG) (t:TypeId) (x:AV) (lo hi:Option AV) (hp:List AB) (K:AV→List AB→Prop):Prop :=
 match x with
 | .fl (.string s)=>∃ lo' hi':Option Value,lo.map AV.fX=lo'.map some∧hi.map AV.fX=hi'.map some∧jv (cS (aP T.P (Instr.sliceAt t (.string s) lo' hi' none))) hp K
 | .sl els full=>match elem? T t with
  | some inf=>∃ l h:Nat,pR lo 0 l∧pR hi els.length h∧(l≤h∧h≤els.length)∧1≤inf.size∧(∀ el ∈ els,el.length=inf.size)∧K (.sl ((els.drop l).take (h - l)) (full && Nat.beq h els.length)) hp
  | none=>False
 | .aJ j aK o n c=>match elem? T t with
  | some inf=>∃ l h:Nat,pR lo 0 l∧pR hi n h∧(l≤h∧h≤n)∧1≤inf.size∧K (.aJ j aK (o+l * inf.size) (h - l) (bif Nat.beq h n && Nat.beq c n then h - l else bif Nat.beq h n then h - l+2 else bif Nat.ble (n+3) c then c - l else h - l+3+(n - h))) hp
  | none=>False
 | .pt cs o=>match T.ty.get t with
  | some ⟨.array len _,_,_,_,_,_,cE⟩=>∃ (l h:Nat) (els:List (List AV)),pR lo 0 l∧pR hi len h∧(l≤h∧h≤len∧o+h * cE≤cs.length)∧1≤cE∧(els.length=h - l∧(∀ el ∈ els,el.length=cE)∧els.flatten=(cs.drop (o+l * cE)).take ((h - l) * cE))∧K (.sl els (Nat.beq h len)) hp
  | _=>False
 | _=>False
theorem xD (h:aX E base hp aF H) {t:TypeId} {x:AV} {u:Value} {lo hi:Option AV} {lo' hi':Option Value} (hx:AR E.ρ H.get (E.O hp) x u) (hlo:EN E.ρ H.get (E.O hp) lo lo') (hhi:EN E.ρ H.get (E.O hp) hi hi')
  {K:AV→List AB→Prop} (hw:mS T t x lo hi hp K):dG base E hp aF H (fu T t u lo' hi') K:=by
 unfold mS at hw;split at hw
 ·rename_i s;obtain ⟨rfl,_⟩:=hx.eW;obtain ⟨l',h',h1,h2,h3⟩:=hw
  have key:∀ {o:Option AV} {o' o'':Option Value},EN E.ρ H.get (E.O hp) o o'→o.map AV.fX=o''.map some→o'=o''∧o'.toList.all flat=true:=by
   intro o o' o'' ho he
   cases o with
   | none=>cases o' with
    | none=>cases o'' with
     | none=>exact ⟨rfl,rfl⟩
     | some=>cases he
    | some=>exact ho.elim
   | some a=>cases o' with
    | none=>exact ho.elim
    | some v=>cases o'' with
     | none=>cases he
     | some w =>simp only [Option.map_some,qq9] at he;obtain ⟨rfl,hf⟩:=dg he ho;exact ⟨rfl,by simp [hf]⟩
  obtain ⟨rfl,f1⟩:=key hlo h1;obtain ⟨rfl,f2⟩:=key hhi h2;unfold fu;simp only [f1,f2,Bool.and_self,cond_true];exact cN h h3
 ·rename_i els full;split at hw
  ·rename_i inf hi';obtain ⟨l,m,h1,h2,⟨h3,h4⟩,h5,h6,h7⟩:=hw;have e1:=dU h1 hlo
   cases hx.ju with
   | nil =>
    have e2:=dU h2 hhi;simp only [List.length_nil] at h4 e2;obtain rfl:m=0:=by omega
    obtain rfl:l=0:=by omega
    unfold fu pW;simp only [hi',e1,e2];rw [show Nat.ble 1 inf.size=true from Nat.ble_eq_true_of_le h5];exact .pure h (.d .nil) h7
   | sl q1 q2 q3 q4 q5 q6 q7 =>
    rename_i k o n c es cs own e;rw [q4] at h2 h4 h7;have e2:=dU h2 hhi;unfold fu pW;simp only [hi',e1,e2];rw [show Nat.ble 1 inf.size=true from Nat.ble_eq_true_of_le h5,show Nat.ble l m=true from Nat.ble_eq_true_of_le h3,show Nat.ble m n=true from Nat.ble_eq_true_of_le h4];simp only [Bool.and_self,cond_true,Option.map_some]
    have hes:els ≠ []→es=inf.size:=by
     intro hne
     cases els with
     | nil=>exact absurd rfl hne
     | cons x l=>rw [←q5 0 x rfl];exact h6 x (by simp)
    by_cases hne:els=[]
    ·subst hne;simp only [List.length_nil] at q4;subst q4;obtain rfl:m=0:=by omega
     obtain rfl:l=0:=by omega
     refine .pure h (a:=_) (.d (.sl (es:=es) q1 q2 ?_ ?_ ?_ ?_ ?_)) h7
     ·simpa using q3
     ·simp
     ·intro i el hel;simp at hel
     ·intro i el j a u hel;simp at hel
     ·intro hf;simp only [qq7] at hf;rw [q7 hf.1];rfl
    ·have hes:=hes hne;subst hes;refine .pure h (a:=_) (.d (.sl (es:=inf.size) q1 q2 ?_ ?_ ?_ ?_ ?_)) h7
     ·have:l * inf.size+(m - l) * inf.size≤n * inf.size:=by rw [←Nat.add_mul];exact Nat.mul_le_mul_right _ (by omega)
      omega
     ·simp only [List.length_take,List.length_drop];omega
     ·intro i el hel;rw [List.getElem?_take] at hel;split at hel
      ·rw [List.getElem?_drop] at hel;exact q5 _ el hel
      ·cases hel
     ·intro i el j a u hel ha hu;rw [List.getElem?_take] at hel;split at hel
      ·rw [List.getElem?_drop] at hel;refine q6 _ el j a u hel ha ?_;rw [Nat.add_mul];rw [show o+(l * inf.size+i * inf.size)+j=o+l * inf.size+i * inf.size+j by omega];exact hu
      ·cases hel
     ·intro hf;simp only [qq7] at hf;rw [hf.2,q7 hf.1,Nat.beq_refl];rfl
  ·exact hw.elim
 ·rename_i j aK o n c;split at hw
  ·rename_i inf hi';obtain ⟨l,m,h1,h2,⟨h3,h4⟩,h5,h7⟩:=hw;have e1:=dU h1 hlo;have e2:=dU h2 hhi
   rcases hx.ej with ⟨k,hk,rfl⟩|⟨rfl,rfl,rfl⟩
   ·unfold fu pW;simp only [hi',e1,e2];rw [show Nat.ble 1 inf.size=true from Nat.ble_eq_true_of_le h5,show Nat.ble l m=true from Nat.ble_eq_true_of_le h3,show Nat.ble m n=true from Nat.ble_eq_true_of_le h4];simp only [Bool.and_self,cond_true,Option.map_some];exact .pure h (.aJ hk) h7
   ·obtain rfl:m=0:=by omega
    obtain rfl:l=0:=by omega
    unfold fu pW;simp only [hi',e1,e2];rw [show Nat.ble 1 inf.size=true from Nat.ble_eq_true_of_le h5];simp only [Nat.zero_mul,Nat.add_zero] at h7;exact .pure h (.rm (by first|(have:=hx.oJ;revert this;cases Nat.beq c 0 <;> simp)|simp)) h7
  ·exact hw.elim
 ·rename_i cs o;split at hw
  ·rename_i len el sz by' z ag fl cE hty
   obtain ⟨l,m,els,h1,h2,⟨h3,h4,h5⟩,h6,⟨e1,e2,e3⟩,h7⟩:=hw;have n1:=dU h1 hlo;have n2:=dU h2 hhi;obtain ⟨k,d,cs',own,e,rfl,q1,q2,q3,q4⟩:=hx.cG.cG;unfold fu ow;simp only [hty,n1,n2,addr?];rw [show Nat.ble 1 cE=true from Nat.ble_eq_true_of_le h6,show Nat.ble l m=true from Nat.ble_eq_true_of_le h3,show Nat.ble m len=true from Nat.ble_eq_true_of_le h4];simp only [Bool.and_self,cond_true,Option.map_some];have hmul:l * cE+(m - l) * cE=m * cE:=by rw [←Nat.add_mul];congr 1;omega
   refine .pure h (a:=_) (.d (.sl (es:=cE) q1 q2 ?_ ?_ ?_ ?_ ?_)) h7
   ·omega
   ·exact e1
   ·intro i x hx;exact e2 x (List.mem_of_getElem? hx)
   ·intro i x j a u hx ha hu;have hj:j < cE:=by rw [←e2 x (List.mem_of_getElem? hx)];exact (List.getElem?_eq_some_iff.1 ha).1
    have hat:=ec e2 i x j hx hj;have hi:i < m - l:=by rw [←e1];exact (List.getElem?_eq_some_iff.1 hx).1
    rw [e3,List.getElem?_take,List.getElem?_drop] at hat;have hlt:i * cE+j < (m - l) * cE:=by have:(i+1) * cE≤(m - l) * cE:=Nat.mul_le_mul_right _ hi;rw [Nat.add_mul,Nat.one_mul] at this;omega
    rw [if_pos hlt,ha] at hat;refine q4 _ a u hat ?_;rw [show d+(o+l * cE+(i * cE+j))=d+o+l * cE+i * cE+j by omega];exact hu
   ·intro hf;rw [hf];rfl
  ·exact hw.elim
 ·exact hw.elim
def v8 (T:bG) (t:TypeId) (x:AV) (lo:Option AV) (hi mx:AV) (hp:List AB) (K:AV→List AB→Prop):Prop :=
 match x,elem? T t with
 | .fl (.slice none 0 0),some inf=>pR lo 0 0∧asInt hi=some 0∧asInt mx=some 0∧1≤inf.size∧K (.fl (.slice none 0 0)) hp
 | .sl els _,some inf=>∃ l h:Nat,pR lo 0 l∧asInt hi=some h∧asInt mx=some h∧(l≤h∧h≤els.length)∧1≤inf.size∧(∀ el ∈ els,el.length=inf.size)∧K (.sl ((els.drop l).take (h - l)) true) hp
 | .aJ j aK o n _,some inf=>∃ l h:Nat,pR lo 0 l∧asInt hi=some h∧asInt mx=some h∧(l≤h∧h≤n)∧1≤inf.size∧K (.aJ j aK (o+l * inf.size) (h - l) (h - l)) hp
 | _,_=>False
theorem we (h:aX E base hp aF H) {t:TypeId} {x hi mx:AV} {u hi' mx':Value} {lo:Option AV} {lo':Option Value} (hx:AR E.ρ H.get (E.O hp) x u) (hlo:EN E.ρ H.get (E.O hp) lo lo') (hhi:AR E.ρ H.get (E.O hp) hi hi') (hmx:AR E.ρ H.get (E.O hp) mx mx')
  {K:AV→List AB→Prop} (hw:v8 T t x lo hi mx hp K):dG base E hp aF H ((jF T t u lo' hi' mx').map fun v=>(v,.none)) K:=by
 have nat:∀ {a:AV} {u:Value} {n:Nat},asInt a=some (n:Int)→AR E.ρ H.get (E.O hp) a u→jC u=some n:=fun {a u n} h1 h2=>dU (o:=some a) (o':=some u) (d:=0) h1 h2;unfold v8 at hw;split at hw
 ·rename_i inf he;obtain ⟨h1,h2,h3,h5,h7⟩:=hw;obtain ⟨rfl,_⟩:=hx.eW;have n1:=dU h1 hlo;have n2:=nat (n:=0) h2 hhi;have n3:=nat (n:=0) h3 hmx;unfold jF;simp only [he,n1,n2,n3];rw [show Nat.ble 1 inf.size=true from Nat.ble_eq_true_of_le h5];exact .pure h hx h7
 ·rename_i els full inf he;obtain ⟨l,m,h1,h2,h3,⟨h4,h5⟩,h6,h8,h7⟩:=hw;have n1:=dU h1 hlo;have n2:=nat h2 hhi;have n3:=nat h3 hmx
  cases hx.ju with
  | nil =>
   simp only [List.length_nil] at h5;obtain rfl:m=0:=by omega
   obtain rfl:l=0:=by omega
   unfold jF;simp only [he,n1,n2,n3];rw [show Nat.ble 1 inf.size=true from Nat.ble_eq_true_of_le h6];exact .pure h (.d .nil) h7
  | sl q1 q2 q3 q4 q5 q6 q7 =>
   rename_i k o n c es cs own e;rw [q4] at h5;unfold jF;simp only [he,n1,n2,n3];rw [show Nat.ble 1 inf.size=true from Nat.ble_eq_true_of_le h6,show Nat.ble l m=true from Nat.ble_eq_true_of_le h4,show Nat.ble m n=true from Nat.ble_eq_true_of_le h5,show Nat.ble m m=true from Nat.ble_eq_true_of_le (qq6 m),Nat.beq_refl];simp only [Bool.and_self,cond_true,Option.map_some];by_cases hne:els=[]
   ·subst hne;simp only [List.length_nil] at q4;subst q4;obtain rfl:m=0:=by omega
    obtain rfl:l=0:=by omega
    refine .pure h (a:=_) (.d (.sl (es:=es) q1 q2 ?_ ?_ ?_ ?_ ?_)) h7
    ·simpa using q3
    ·simp
    ·intro i el hel;simp at hel
    ·intro i el j a u hel;simp at hel
    ·intro _;rfl
   ·have hes:es=inf.size:=by
     cases els with
     | nil=>exact absurd rfl hne
     | cons x l=>rw [←q5 0 x rfl];exact h8 x (by simp)
    subst hes;refine .pure h (a:=_) (.d (.sl (es:=inf.size) q1 q2 ?_ ?_ ?_ ?_ ?_)) h7
    ·have:l * inf.size+(m - l) * inf.size≤n * inf.size:=by rw [←Nat.add_mul];exact Nat.mul_le_mul_right _ (by omega)
     omega
    ·simp only [List.length_take,List.length_drop];omega
    ·intro i el hel;rw [List.getElem?_take] at hel;split at hel
     ·rw [List.getElem?_drop] at hel;exact q5 _ el hel
     ·cases hel
    ·intro i el j a u hel ha hu;rw [List.getElem?_take] at hel;split at hel
     ·rw [List.getElem?_drop] at hel;refine q6 _ el j a u hel ha ?_;rw [Nat.add_mul];rw [show o+(l * inf.size+i * inf.size)+j=o+l * inf.size+i * inf.size+j by omega];exact hu
     ·cases hel
    ·intro _;rfl
 ·rename_i j aK o n c inf he;obtain ⟨l,m,h1,h2,h3,⟨h4,h5⟩,h6,h7⟩:=hw;have n1:=dU h1 hlo;have n2:=nat h2 hhi;have n3:=nat h3 hmx
  rcases hx.ej with ⟨k,hk,rfl⟩|⟨rfl,rfl,rfl⟩
  ·unfold jF;simp only [he,n1,n2,n3];rw [show Nat.ble 1 inf.size=true from Nat.ble_eq_true_of_le h6,show Nat.ble l m=true from Nat.ble_eq_true_of_le h4,show Nat.ble m n=true from Nat.ble_eq_true_of_le h5,show Nat.ble m m=true from Nat.ble_eq_true_of_le (qq6 m),Nat.beq_refl];simp only [Bool.and_self,cond_true,Option.map_some];exact .pure h (.aJ hk) h7
  ·obtain rfl:m=0:=by omega
   obtain rfl:l=0:=by omega
   unfold jF;simp only [he,n1,n2,n3];rw [show Nat.ble 1 inf.size=true from Nat.ble_eq_true_of_le h6];simp only [Nat.zero_mul,Nat.add_zero] at h7;exact .pure h (.rm (by first|(have:=hx.oJ;revert this;cases Nat.beq c 0 <;> simp)|simp)) h7
 ·exact hw.elim
def zeroCells (inf:uf):List Value:=(inf.zero.map fun z=>z.cells.toList).getD []
theorem xE {inf:uf} (h:bL inf=true) (n:Nat):(bV (zeroCells inf) (n * inf.size)).all bf=true:=by
 unfold bL at h;split at h
 ·rename_i z hz;simp only [qq7] at h;obtain ⟨⟨h1,h2⟩,h3⟩:=h;have h1:=Nat.eq_of_beq_eq_true h1;have h2:=Nat.le_of_ble_eq_true h2;unfold bV zeroCells;rw [hz,List.all_map,List.all_eq_true];intro i hi;simp only [Option.map_some,Option.getD_some,Function.comp];rw [List.all_eq_true] at h3;have hlt:i % z.cells.toList.length < z.cells.toList.length:=Nat.mod_lt _ (by omega);rw [List.getD_eq_getElem?_getD,List.getElem?_eq_getElem hlt];exact h3 _ (List.getElem_mem hlt)
 ·cases h
def qj (T:bG) (t:TypeId) (ln cp:AV) (hp:List AB) (K:AV→List AB→Prop):Prop :=
 match elem? T t with
 | some inf=>∃ l c:Nat,asInt ln=some (l:Int)∧asInt cp=some (c:Int)∧(l≤c∧inf.bytes * c≤140737488355328∧c≤9223372036854775807)∧bL inf=true ∧
  K (.aJ hp.length 0 0 l (bif Nat.beq l c then l else c+3)) (hp++[.cells ((bV (zeroCells inf) (c * inf.size)).map .fl) inf.size 0])
 | none=>False
theorem yg {a:AV} {n:Nat} {u:Value} (h:asInt a=some (n:Int)) (ha:AR ρ g O a u):jC u=some n:=dU (o:=some a) (o':=some u) (d:=0) h ha
theorem zy (h:aX E base hp aF H) {t:TypeId} {ln cp:AV} {u v:Value} (hl:AR E.ρ H.get (E.O hp) ln u) (hc:AR E.ρ H.get (E.O hp) cp v) {K:AV→List AB→Prop} (hw:qj T t ln cp hp K) :
  dG base E hp aF H (iA T H.n t u v) K:=by
 unfold qj at hw;split at hw
 ·rename_i inf hi;obtain ⟨l,c,h1,h2,⟨h3,h4,h5⟩,h6,h7⟩:=hw;unfold iA;simp only [hi,yg h1 hl,yg h2 hc];rw [show Nat.ble l c=true from Nat.ble_eq_true_of_le h3,show Nat.ble (inf.bytes * c) 140737488355328=true from Nat.ble_eq_true_of_le h4,show Nat.ble c 9223372036854775807=true from Nat.ble_eq_true_of_le h5,h6];simp only [Bool.and_self,cond_true];exact .new h (x:=.cells ((bV (zeroCells inf) (c * inf.size)).map .fl) inf.size 0) rfl (fun E' H' e=>⟨_,rfl,.zq (xE h6 c)⟩) (fun E' hr=>.aJ hr) h7
 ·exact hw.elim
def rA (T:bG) (t:TypeId) (x:AV) (hp:List AB) (K:AV→List AB→Prop):Prop :=
 match T.ty.get t,x with
 | some ⟨.slice _,_,_,_,_,_,_⟩,.sl els _=>K (.fl (.int .i64 els.length)) hp
 | some ⟨.slice _,_,_,_,_,_,_⟩,.aJ _ _ _ n _=>K (.fl (.int .i64 n)) hp
 | some ⟨.slice _,_,_,_,_,_,_⟩,.fl (.slice _ n _)=>K (.fl (.int .i64 n)) hp
 | some ⟨.array n _,_,_,_,_,_,_⟩,_=>K (.fl (.int .i64 n)) hp
 | some ⟨.string,_,_,_,_,_,_⟩,.fl (.string s)=>K (.fl (.int .i64 s.data.toList.length)) hp
 | some ⟨.map ..,_,_,_,_,_,_⟩,.om j=>∃ ents clock,hp[j]?=some (.map ents clock)∧K (.fl (.int .i64 ents.length)) hp
 | _,_=>False
theorem AR.nY {j:Nat} {u:Value} (h:AR ρ g O (.om j) u):∃ k,ρ j 0=some k∧u=.map (some k):=by
 cases h with
 | d h=>cases h
 | om h=>exact ⟨_,h,rfl⟩
theorem aX.map (h:aX E base hp aF H) {j k clock:Nat} {ents:List (AV × AV × Nat)} (hj:hp[j]?=some (.map ents clock)) (hk:E.ρ j 0=some k):∃ es,H.get k=some (.map es clock)∧ents.length=es.length ∧
  ∀ (i:Nat) (k v:AV) (born:Nat) (e:MapEntry),ents[i]?=some (k,v,born)→es[i]?=some e→AR E.ρ H.get (E.O hp) k e.key∧AR E.ρ H.get (E.O hp) v e.val∧e.born=born:=by
 rcases h.gu j _ 0 hj rfl with ⟨k',b',h1,h2,h3⟩|⟨h1,_,h2⟩
 ·rw [hk] at h1;cases h1;obtain ⟨es,rfl,h4,h5⟩:=h3;exact ⟨es,h2,h4,h5⟩
 ·cases h2
theorem Bq (h:aX E base hp aF H) {t:TypeId} {x:AV} {u:Value} (hx:AR E.ρ H.get (E.O hp) x u) {K:AV→List AB→Prop} (hw:rA T t x hp K):dG base E hp aF H (jX T t u H.get) K:=by
 have num:∀ (n:Nat),AR E.ρ H.get (E.O hp) (.fl (.int .i64 n)) (.int .i64 n):=fun n=>.d (.fl rfl);unfold rA at hw;unfold jX;split at hw
 ·rename_i e s b z a f es els full hty;rw [hty]
  cases hx.ju with
  | nil=>exact .pure h (num 0) hw
  | sl q1 q2 q3 q4 q5 q6 q7=>rw [q4] at hw;exact .pure h (num _) hw
 ·rename_i hty;rw [hty]
  rcases hx.ej with ⟨k,hk,rfl⟩|⟨rfl,rfl,rfl⟩
  ·exact .pure h (num _) hw
  ·exact .pure h (num 0) hw
 ·rename_i hty;rw [hty];obtain ⟨rfl,_⟩:=hx.eW;exact .pure h (num _) hw
 ·rename_i hty;rw [hty];exact .pure h (num _) hw
 ·rename_i hty;rw [hty];obtain ⟨rfl,_⟩:=hx.eW;exact .pure h (num _) hw
 ·rename_i j hty;rw [hty];obtain ⟨ents,clock,h1,h2⟩:=hw;obtain ⟨k,hk,rfl⟩:=hx.nY;obtain ⟨es,q1,q2,_⟩:=h.map h1 hk;simp only [q1,map?];rw [←q2];exact .pure h (num _) h2
 ·exact hw.elim
def DD (T:bG) (args:List AV) (hp:List AB) (K:AV→List AB→Prop):Prop :=
 match args with
 | [.fl (.int .i64 x),.fl (.int .i64 y)]=>K (.fl (.int .i64 (min x y))) hp
 | l=>∃ vs,CJ l=some vs∧jv (yL T.P vs) hp K
def DE (T:bG) (args:List AV) (hp:List AB) (K:AV→List AB→Prop):Prop :=
 match args with
 | [.fl (.int .i64 x),.fl (.int .i64 y)]=>K (.fl (.int .i64 (max x y))) hp
 | l=>∃ vs,CJ l=some vs∧jv (yM T.P vs) hp K
theorem fI.two {a b:AV} {l:List Value} (h:fI ρ g O [a,b] l):∃ u v,l=[u,v]∧AR ρ g O a u∧AR ρ g O b v:=by
 match l,h with
 | [u,v],h=>exact ⟨u,v,rfl,h.2 0 a u rfl rfl,h.2 1 b v rfl rfl⟩
 | [],h=>exact absurd h.1 (by simp)
 | [_],h=>exact absurd h.1 (by simp)
 | _ :: _ :: _ :: _,h=>exact absurd h.1 (by simp)
theorem Br (h:aX E base hp aF H) {args:List AV} {us:List Value} (ha:fI E.ρ H.get (E.O hp) args us) {K:AV→List AB→Prop} (hw:DD T args hp K):dG base E hp aF H (yL T.P us) K:=by
 unfold DD at hw;split at hw
 ·rename_i x y;obtain ⟨u,v,rfl,h1,h2⟩:=ha.two;obtain ⟨rfl,_⟩:=h1.eW;obtain ⟨rfl,_⟩:=h2.eW;unfold yL;simp only
  have e:(bif El y x then y else x)=min x y:=by
   rw [nE];by_cases hxy:y < x
   ·rw [decide_eq_true hxy];simp only [cond_true];omega
   ·rw [decide_eq_false hxy];simp only [cond_false];omega
  rw [e];exact .pure h (.d (.fl rfl)) hw
 ·obtain ⟨vs,h1,h2⟩:=hw;have:=oK h1;subst this;rw [ha.eW.1];exact cN h h2
theorem Bs (h:aX E base hp aF H) {args:List AV} {us:List Value} (ha:fI E.ρ H.get (E.O hp) args us) {K:AV→List AB→Prop} (hw:DE T args hp K):dG base E hp aF H (yM T.P us) K:=by
 unfold DE at hw;split at hw
 ·rename_i x y;obtain ⟨u,v,rfl,h1,h2⟩:=ha.two;obtain ⟨rfl,_⟩:=h1.eW;obtain ⟨rfl,_⟩:=h2.eW;unfold yM;simp only
  have e:(bif El x y then y else x)=max x y:=by
   rw [nE];by_cases hxy:x < y
   ·rw [decide_eq_true hxy];simp only [cond_true];omega
   ·rw [decide_eq_false hxy];simp only [cond_false];omega
  rw [e];exact .pure h (.d (.fl rfl)) hw
 ·obtain ⟨vs,h1,h2⟩:=hw;have:=oK h1;subst this;rw [ha.eW.1];exact cN h h2
end
end Go.RM
namespace Go.RM
open Go
section
variable {T : bG} {base : Nat} {E E' : Env} {hp hp' : List AB} {aF : bq} {H H' : Hp} {ρ : Nat → Nat → Option Nat} {g : aN} {O : Nat → Prop}
def sI:List (AV × AV × Nat)→Option (List Value)
 | []=>some []
 | (k,_,_) :: l=>match k.fX,sI l with
  | some v,some vs=>some (v :: vs)
  | _,_=>none
def fh (ρ:Nat→Nat→Option Nat) (g:aN) (O:Nat→Prop) (ents:List (AV × AV × Nat)) (es:List MapEntry):Prop :=
 ents.length=es.length∧∀ (i:Nat) (k v:AV) (born:Nat) (e:MapEntry),ents[i]?=some (k,v,born)→es[i]?=some e→AR ρ g O k e.key∧AR ρ g O v e.val∧e.born=born
theorem fh.keys:∀ {ents:List (AV × AV × Nat)} {es:List MapEntry} {ks:List Value},fh ρ g O ents es→sI ents=some ks→es.map (·.key)=ks
 | [],es,ks,h,hk=>by cases hk;have:=h.1;rw [List.length_nil] at this;rw [List.eq_nil_of_length_eq_zero this.symm];rfl
 | (k,v,b) :: ents,[],ks,h,hk=>absurd h.1 (by simp)
 | (k,v,b) :: ents,e :: es,ks,h,hk=>by
  unfold sI at hk;split at hk
  ·rename_i kv vs h1 h2;cases hk;have hh:fh ρ g O ents es:=⟨by simpa using h.1,fun i k v b e x y=>h.2 (i+1) k v b e (by simpa using x) (by simpa using y)⟩;rw [List.map_cons,hh.keys h2,(dg h1 (h.2 0 k v b e rfl rfl).1).1]
  ·cases hk
theorem fh.empty {ents:List (AV × AV × Nat)} {es:List MapEntry} (h:fh ρ g O ents es):es.isEmpty=ents.isEmpty:=by have:=h.1;cases ents <;> cases es <;> simp_all
theorem fh.get {ents:List (AV × AV × Nat)} {es:List MapEntry} (h:fh ρ g O ents es) {i:Nat} {p:AV × AV × Nat} (hi:ents[i]?=some p):∃ e,es[i]?=some e∧AR ρ g O p.1 e.key∧AR ρ g O p.2.1 e.val∧e.born=p.2.2:=by
 have hlt:i < es.length:=by rw [←h.1];exact (List.getElem?_eq_some_iff.1 hi).1
 obtain ⟨k,v,b⟩:=p;exact ⟨es[i],List.getElem?_eq_getElem hlt,h.2 i k v b _ hi (List.getElem?_eq_getElem hlt)⟩
def Gi (T:bG) (emp:Bool) (kt:TypeId) (kv:Value) (ks:List Value) (r:Option Nat):Prop:=∀ es:List MapEntry,es.map (·.key)=ks→ny T.P emp kt kv es=some r
def wg (T:bG) (t:TypeId) (m k:AV) (ok:Bool) (hp:List AB) (K:AV→List AB→Prop):Prop :=
 match m with
 | .om j=>∃ ents clock ks kv kt z r,hp[j]?=some (.map ents clock)∧sI ents=some ks∧k.fX=some kv∧jU T t=some (kt,some z)∧Gi T ents.isEmpty kt kv ks r ∧
  match r with
  | some i=>∃ e,ents[i]?=some e∧K (bif ok then .tp [e.2.1,.fl (.bool true)] else e.2.1) hp
  | none=>flat z=true∧K (bif ok then .tp [rq z,.fl (.bool false)] else rq z) hp
 | _=>False
theorem aX.CL (h:aX E base hp aF H) {j k:Nat} {ents:List (AV × AV × Nat)} {clock:Nat} (hj:hp[j]?=some (.map ents clock)) (hk:E.ρ j 0=some k):∃ es:List MapEntry,H.get k=some (.map es clock)∧fh E.ρ H.get (E.O hp) ents es:=by obtain ⟨es,q1,q2,q3⟩:=h.map hj hk;exact ⟨es,q1,q2,q3⟩
theorem wh {a b:AV} {u v:Value} (h:AR ρ g O a u) (k:AR ρ g O b v):AR ρ g O (.tp [a,b]) (.tuple #[u,v]) :=
 .tp rfl fun i x y hx hy=>by
  match i with
  | 0=>cases hx;cases hy;exact h
  | 1=>cases hx;cases hy;exact k
  | i+2=>simp at hx
theorem wj (h:aX E base hp aF H) {t:TypeId} {m k:AV} {ok:Bool} {um uk:Value} (hm:AR E.ρ H.get (E.O hp) m um) (hk:AR E.ρ H.get (E.O hp) k uk) {K:AV→List AB→Prop} (hw:wg T t m k ok hp K) :
  dG base E hp aF H ((kK T t um uk ok H.get).map fun v=>(v,bX.none)) K:=by
 unfold wg at hw;split at hw
 ·rename_i j;obtain ⟨ents,clock,ks,kv,kt,z,r,h1,h2,h3,h4,h5,h6⟩:=hw;obtain ⟨q,hq,rfl⟩:=hm.nY;obtain ⟨es,q1,q2⟩:=h.CL h1 hq;obtain ⟨rfl,_⟩:=dg h3 hk;have hf:=h5 es (q2.keys h2);rw [←q2.empty] at hf;have hb:((gE (.map (some q))).bind fun r=>map? (H.get r))=some (es,clock):=by show map? (H.get q)=_;rw [q1];rfl
  unfold kK;rw [h4,hb];simp only;unfold yK;rw [hf]
  cases r with
  | some i =>
   obtain ⟨e,e1,e2⟩:=h6;obtain ⟨e',f1,_,f3,_⟩:=q2.get e1;simp only [f1,Option.map_some]
   cases ok with
   | true=>exact .pure h (wh f3 (.d (.fl rfl))) e2
   | false=>exact .pure h f3 e2
  | none =>
   obtain ⟨hz,e2⟩:=h6;simp only [hz,cond_true,Option.map_some]
   cases ok with
   | true=>exact .pure h (wh (kV hz) (.d (.fl rfl))) e2
   | false=>exact .pure h (kV hz) e2
 ·exact hw.elim
def gA (T:bG) (t:TypeId) (m k:AV) (hp:List AB) (K:AV→List AB→Prop):Prop :=
 match m with
 | .om j=>∃ ents clock ks kv kt z r,hp[j]?=some (.map ents clock)∧sI ents=some ks∧k.fX=some kv∧jU T t=some (kt,some z)∧Gi T false kt kv ks r ∧
  match r with
  | some i=>∃ e,ents[i]?=some e∧(∃ ke,e.1.fX=some ke∧Instr.sameBits 10000 ke kv=true)∧K (.tp [e.2.1,.fl (.int .i64 e.2.2)]) (hp.set j (.map (ents.set i (k,e.2.1,e.2.2)) clock))
  | none=>flat z=true∧K (.tp [rq z,.fl (.int .i64 clock)]) (hp.set j (.map (ents++[(k,rq z,clock)]) (clock+1)))
 | _=>False
theorem fh.set {ents:List (AV × AV × Nat)} {es:List MapEntry} (h:fh ρ g O ents es) {i:Nat} {e:MapEntry} (he:es[i]?=some e) {k v:AV} {f:MapEntry→MapEntry} (hk:AR ρ g O k (f e).key) (hv:AR ρ g O v (f e).val):fh ρ g O (ents.set i (k,v,(f e).born)) (es.modify i f):=by
 refine ⟨by rw [List.length_set,List.length_modify];exact h.1,fun a k' v' b e' x y=>?_⟩;have hi:i < es.length:=(List.getElem?_eq_some_iff.1 he).1;by_cases ha:i=a
 ·subst ha;rw [List.getElem?_set_self (by rw [h.1];exact hi)] at x;rw [List.getElem?_modify_eq,he] at y;cases x;cases y;exact ⟨hk,hv,rfl⟩
 ·rw [List.getElem?_set_ne ha] at x;rw [List.getElem?_modify_ne _ _ ha] at y;exact h.2 a k' v' b e' x y
theorem fh.snoc {ents:List (AV × AV × Nat)} {es:List MapEntry} (h:fh ρ g O ents es) {k v:AV} {e:MapEntry} (hk:AR ρ g O k e.key) (hv:AR ρ g O v e.val):fh ρ g O (ents++[(k,v,e.born)]) (es++[e]):=by
 refine ⟨by rw [List.length_append,List.length_append,h.1];rfl,fun a k' v' b e' x y=>?_⟩;by_cases ha:a < ents.length
 ·rw [List.getElem?_append_left ha] at x;rw [List.getElem?_append_left (by rw [←h.1];exact ha)] at y;exact h.2 a k' v' b e' x y
 ·rw [List.getElem?_append_right (by omega)] at x;rw [List.getElem?_append_right (by rw [←h.1];omega),←h.1] at y
  generalize a - ents.length=c at *
  match c,x,y with
  | 0,x,y=>cases x;cases y;exact ⟨hk,hv,rfl⟩
  | c+1,x,y=>simp at x
theorem sJ (h:aX E base hp aF H) {t:TypeId} {m k:AV} {um uk:Value} (hm:AR E.ρ H.get (E.O hp) m um) (hk:AR E.ρ H.get (E.O hp) k uk) {K:AV→List AB→Prop} (hw:gA T t m k hp K) :
  dG base E hp aF H (eo T t um uk H.get) K:=by
 unfold gA at hw;split at hw
 ·rename_i j;obtain ⟨ents,clock,ks,kv,kt,z,r,h1,h2,h3,h4,h5,h6⟩:=hw;obtain ⟨q,hq,rfl⟩:=hm.nY;obtain ⟨es,q1,q2⟩:=h.CL h1 hq;obtain ⟨rfl,_⟩:=dg h3 hk;have hf:=h5 es (q2.keys h2);unfold eo;simp only [h4,gE,q1,map?];unfold lI;rw [hf]
  cases r with
  | some i =>obtain ⟨e,e1,⟨ke,e2,e3⟩,e4⟩:=h6;obtain ⟨e',f1,f2,f3,f4⟩:=q2.get e1;obtain ⟨rfl,_⟩:=dg e2 f2;simp only [f1,e3,cond_true];have hs:=q2.set (k:=k) (v:=e.2.1) (f:=fun e=>{e with key:=uk}) f1 hk f3;obtain ⟨p1,p2⟩:=h.put (a:=.map (ents.set i (k,e.2.1,e'.born)) clock) (b:=.map (es.modify i fun e=>{e with key:=uk}) clock) h1 rfl rfl hq ⟨_,rfl,hs.1,hs.2⟩;rw [f4] at p1 p2;refine ⟨_,.put q _,E,_,_,rfl,e4,p1,p2,?_⟩;rw [f4];exact wh (p2.ar h.wf f3) (.d (.fl rfl))
  | none =>obtain ⟨hz,e2⟩:=h6;simp only [hz,cond_true];have hs:=q2.snoc (k:=k) (v:=rq z) (e:={key:=uk,val:=z,born:=clock}) hk (kV hz);obtain ⟨p1,p2⟩:=h.put (a:=.map (ents++[(k,rq z,clock)]) (clock+1)) (b:=.map (es++[{key:=uk,val:=z,born:=clock}]) (clock+1)) h1 rfl rfl hq ⟨_,rfl,hs.1,hs.2⟩;exact ⟨_,.put q _,E,_,_,rfl,e2,p1,p2,wh (kV hz) (.d (.fl rfl))⟩
 ·exact hw.elim
def eV (m s v:AV) (hp:List AB) (K:AV→List AB→Prop):Prop :=
 match m with
 | .om j=>∃ ents clock born i e,hp[j]?=some (.map ents clock)∧asInt s=some born∧(ents.map fun p=>((p.2.2:Nat):Int)).findIdx? (· == born)=some i∧ents[i]?=some e∧K .cB (hp.set j (.map (ents.set i (e.1,v,e.2.2)) clock))
 | _=>False
theorem fh.J8:∀ {ents:List (AV × AV × Nat)} {es:List MapEntry},fh ρ g O ents es→es.map (fun e=>((e.born:Nat):Int))=ents.map fun p=>((p.2.2:Nat):Int)
 | [],es,h=>by have:=h.1;rw [List.length_nil] at this;rw [List.eq_nil_of_length_eq_zero this.symm];rfl
 | (k,v,b) :: ents,[],h=>absurd h.1 (by simp)
 | (k,v,b) :: ents,e :: es,h=>by have hh:fh ρ g O ents es:=⟨by simpa using h.1,fun i k v b e x y=>h.2 (i+1) k v b e (by simpa using x) (by simpa using y)⟩;rw [List.map_cons,List.map_cons,hh.J8,(h.2 0 k v b e rfl rfl).2.2]
theorem qk (h:aX E base hp aF H) {m s v:AV} {um us uv:Value} (hm:AR E.ρ H.get (E.O hp) m um) (hs:AR E.ρ H.get (E.O hp) s us) (hv:AR E.ρ H.get (E.O hp) v uv) {K:AV→List AB→Prop} (hw:eV m s v hp K) :
  dG base E hp aF H ((cW um us uv H.get).map fun e=>(undef,e)) K:=by
 unfold eV at hw;split at hw
 ·rename_i j;obtain ⟨ents,clock,born,i,e,h1,h2,h3,h4,h5⟩:=hw;obtain ⟨q,hq,rfl⟩:=hm.nY;obtain ⟨es,q1,q2⟩:=h.CL h1 hq;have hb:=iQ h2 hs;unfold cW;simp only [gE,hb,q1,map?];have hi:es.findIdx? (fun e=>((e.born:Nat):Int) == born)=some i:=by rw [←q2.J8,List.findIdx?_map] at h3;exact h3
  obtain ⟨e',f1,f2,f3,f4⟩:=q2.get h4;simp only [hi,Option.map_some];have hset:=q2.set (k:=e.1) (v:=v) (f:=fun e=>{e with val:=uv}) f1 f2 hv;obtain ⟨p1,p2⟩:=h.put (a:=.map (ents.set i (e.1,v,e'.born)) clock) (b:=.map (es.modify i fun e=>{e with val:=uv}) clock) h1 rfl rfl hq ⟨_,rfl,hset.1,hset.2⟩;rw [f4] at p1 p2;exact ⟨_,.put q _,E,.cB,_,rfl,h5,p1,p2,.cB⟩
 ·exact hw.elim
def nZ (T:bG) (t:TypeId) (m k v:AV) (hp:List AB) (K:AV→List AB→Prop):Prop :=
 match m with
 | .om j=>∃ ents clock ks kv kt z r,hp[j]?=some (.map ents clock)∧sI ents=some ks∧k.fX=some kv∧jU T t=some (kt,z)∧Gi T false kt kv ks r ∧
  match r with
  | some i=>∃ e,ents[i]?=some e∧(∃ ke,e.1.fX=some ke∧Instr.sameBits 10000 ke kv=true)∧K .cB (hp.set j (.map (ents.set i (k,v,e.2.2)) clock))
  | none=>K .cB (hp.set j (.map (ents++[(k,v,clock)]) (clock+1)))
 | _=>False
theorem rB (h:aX E base hp aF H) {t:TypeId} {m k v:AV} {um uk uv:Value} (hm:AR E.ρ H.get (E.O hp) m um) (hk:AR E.ρ H.get (E.O hp) k uk) (hv:AR E.ρ H.get (E.O hp) v uv) {K:AV→List AB→Prop} (hw:nZ T t m k v hp K) :
  dG base E hp aF H ((dZ T t um uk uv H.get).map fun e=>(undef,e)) K:=by
 unfold nZ at hw;split at hw
 ·rename_i j;obtain ⟨ents,clock,ks,kv,kt,z,r,h1,h2,h3,h4,h5,h6⟩:=hw;obtain ⟨q,hq,rfl⟩:=hm.nY;obtain ⟨es,q1,q2⟩:=h.CL h1 hq;obtain ⟨rfl,_⟩:=dg h3 hk;have hf:=h5 es (q2.keys h2);unfold dZ;simp only [h4,gE,q1,map?];unfold mc;rw [hf]
  cases r with
  | some i =>obtain ⟨e,e1,⟨ke,e2,e3⟩,e4⟩:=h6;obtain ⟨e',f1,f2,f3,f4⟩:=q2.get e1;obtain ⟨rfl,_⟩:=dg e2 f2;simp only [f1,e3,cond_true,Option.map_some];have hs:=q2.set (k:=k) (v:=v) (f:=fun e=>{e with key:=uk,val:=uv}) f1 hk hv;obtain ⟨p1,p2⟩:=h.put (a:=.map (ents.set i (k,v,e'.born)) clock) (b:=.map (es.modify i fun e=>{e with key:=uk,val:=uv}) clock) h1 rfl rfl hq ⟨_,rfl,hs.1,hs.2⟩;rw [f4] at p1 p2;exact ⟨_,.put q _,E,.cB,_,rfl,e4,p1,p2,.cB⟩
  | none =>simp only [Option.map_some];have hs:=q2.snoc (k:=k) (v:=v) (e:={key:=uk,val:=uv,born:=clock}) hk hv;obtain ⟨p1,p2⟩:=h.put (a:=.map (ents++[(k,v,clock)]) (clock+1)) (b:=.map (es++[{key:=uk,val:=uv,born:=clock}]) (clock+1)) h1 rfl rfl hq ⟨_,rfl,hs.1,hs.2⟩;exact ⟨_,.put q _,E,.cB,_,rfl,h6,p1,p2,.cB⟩
 ·exact hw.elim
def zA (it:AV) (hp:List AB) (K:AV→List AB→Prop):Prop :=
 match it with
 | .ptr q 0 0=>∃ j since seen stepped ents clock stamp e,hp[q]?=some (.iter j since seen stepped)∧hp[j]?=some (.map ents clock)∧clock=stepped∧seen.getLast?=some stamp∧(ents.find? fun p=>p.2.2 == stamp)=some e∧K (.tp [e.1,e.2.1]) hp
 | _=>False
theorem aX.iter (h:aX E base hp aF H) {q k j since stepped:Nat} {seen:List Nat} (hj:hp[q]?=some (.iter j since seen stepped)) (hk:E.ρ q 0=some k):∃ m,H.get k=some (.iter m since seen stepped)∧E.ρ j 0=some m:=by
 rcases h.gu q _ 0 hj rfl with ⟨k',b',h1,h2,h3⟩|⟨h1,_,h2⟩
 ·rw [hk] at h1;cases h1;obtain ⟨m,rfl,h4⟩:=h3;exact ⟨m,h2,h4⟩
 ·cases h2
theorem fh.find:∀ {ents:List (AV × AV × Nat)} {es:List MapEntry} {stamp:Nat} {p:AV × AV × Nat},fh ρ g O ents es→(ents.find? fun p=>p.2.2 == stamp)=some p→∃ e,es.find? (fun e=>e.born == stamp)=some e∧AR ρ g O p.1 e.key∧AR ρ g O p.2.1 e.val
 | [],es,_,p,h,hf=>by cases hf
 | (k,v,b) :: ents,[],_,p,h,hf=>absurd h.1 (by simp)
 | (k,v,b) :: ents,e :: es,stamp,p,h,hf=>by
  have hh:fh ρ g O ents es:=⟨by simpa using h.1,fun i k v b e x y=>h.2 (i+1) k v b e (by simpa using x) (by simpa using y)⟩;obtain ⟨e1,e2,e3⟩:=h.2 0 k v b e rfl rfl;rw [List.find?_cons] at hf ⊢;dsimp only at hf;rw [e3]
  cases hb:b == stamp with
  | true =>rw [hb] at hf;cases hf;exact ⟨e,rfl,e1,e2⟩
  | false =>rw [hb] at hf;exact hh.find hf
theorem xF (h:aX E base hp aF H) {it:AV} {u:Value} (hx:AR E.ρ H.get (E.O hp) it u) {K:AV→List AB→Prop} (hw:zA it hp K):dG base E hp aF H (rZ u H.get) K:=by
 unfold zA at hw;split at hw
 ·rename_i q;obtain ⟨j,since,seen,stepped,ents,clock,stamp,e,h1,h2,h3,h4,h5,h6⟩:=hw;obtain ⟨k,hk,rfl⟩:=hx.cY;obtain ⟨m,g1,g2⟩:=h.iter h1 hk;obtain ⟨es,q1,q2⟩:=h.CL h2 g2;obtain ⟨e',f1,f2,f3⟩:=q2.find h5;unfold rZ addr?;simp only [g1,h4,q1,map?,h3,Nat.beq_refl,cond_true,f1,Option.map_some];exact .pure h (wh f2 f3) h6
 ·exact hw.elim
def zB (it:AV) (hp:List AB) (K:AV→List AB→Prop):Prop :=
 match it with
 | .ptr q 0 0=>∃ j since seen stepped ents clock,hp[q]?=some (.iter j since seen stepped)∧hp[j]?=some (.map ents clock)∧(∀ e ∈ ents,e.2.2 < since∧e.2.2 < stepped) ∧
  (∀ e ∈ ents,e.2.2 ∉ seen→K (.tp [.fl (.bool true),e.1,e.2.1]) (hp.set q (.iter j since (seen++[e.2.2]) clock)))∧((∀ e ∈ ents,e.2.2 ∈ seen)→K (.tp [.fl (.bool false)]) hp)
 | _=>False
theorem fh.mem {ents:List (AV × AV × Nat)} {es:List MapEntry} (h:fh ρ g O ents es) {e:MapEntry} (he:e ∈ es):∃ p ∈ ents,AR ρ g O p.1 e.key∧AR ρ g O p.2.1 e.val∧e.born=p.2.2:=by
 obtain ⟨i,hi,rfl⟩:=List.getElem_of_mem he;have hlt:i < ents.length:=by rw [h.1];exact hi
 exact ⟨ents[i],List.getElem_mem hlt,h.2 i _ _ _ _ (List.getElem?_eq_getElem hlt) (List.getElem?_eq_getElem hi)⟩
theorem fh.mem' {ents:List (AV × AV × Nat)} {es:List MapEntry} (h:fh ρ g O ents es) {p:AV × AV × Nat} (hp:p ∈ ents):∃ e ∈ es,e.born=p.2.2:=by
 obtain ⟨i,hi,rfl⟩:=List.getElem_of_mem hp;have hlt:i < es.length:=by rw [←h.1];exact hi
 exact ⟨es[i],List.getElem_mem hlt,(h.2 i _ _ _ _ (List.getElem?_eq_getElem hi) (List.getElem?_eq_getElem hlt)).2.2⟩
theorem xG (h:aX E base hp aF H) {it:AV} {u:Value} (hx:AR E.ρ H.get (E.O hp) it u) {K:AV→List AB→Prop} (hw:zB it hp K) :
  ∃ L,qq u H.get=some L∧∀ p ∈ L,∃ E' a hp',K a hp'∧aX E' base hp' aF (H.app p.2)∧Ext base E hp H E' hp' (H.app p.2)∧AR E'.ρ (H.app p.2).get (E'.O hp') a p.1:=by
 unfold zB at hw;split at hw
 ·rename_i q;obtain ⟨j,since,seen,stepped,ents,clock,h1,h2,h3,h4,h5⟩:=hw;obtain ⟨k,hk,rfl⟩:=hx.cY;obtain ⟨m,g1,g2⟩:=h.iter h1 hk;obtain ⟨es,q1,q2⟩:=h.CL h2 g2;have hlow:∀ e ∈ es,e.born < since∧e.born < stepped:=fun e he=>by obtain ⟨p,hp,_,_,hb⟩:=q2.mem he;rw [hb];exact h3 p hp
  have hn:qq (.pointer (some ⟨k,0,none⟩)) H.get=uV k m since seen stepped es clock:=by show (match H.get k with|some (.iter m since seen last)=>_|_=>none)=_;rw [g1];show (match map? (H.get m) with|some (es,clock)=>_|none=>none)=_;rw [q1];rfl
  rw [hn];unfold uV
  have hc:(!seen.isEmpty && !es.isEmpty && es.all (fun e=>Nat.ble stepped e.born))=false:=by
   cases es with
   | nil=>simp
   | cons e es =>
    have:=(hlow e (by simp)).2
    have hb:Nat.ble stepped e.born=false:=by
     cases hb:Nat.ble stepped e.born with
     | false=>rfl
     | true=>exact absurd (Nat.le_of_ble_eq_true hb) (by omega)
    rw [List.all_cons,hb];simp
  rw [hc];simp only [cond_false];refine ⟨_,rfl,fun p hp=>?_⟩
  rcases List.mem_append.1 hp with hp|hp
  ·cases hemp:((es.filter fun e=>!seen.contains e.born).filter (fun e=>decide (e.born < since))).isEmpty with
   | false=>rw [hemp] at hp;cases hp
   | true =>
    rw [hemp] at hp;obtain rfl:=List.mem_singleton.1 hp;rw [List.isEmpty_iff] at hemp;refine ⟨E,_,_,h5 fun x hx=>?_,h,.refl,.d (.tp rfl fun i a v ha hv=>?_)⟩
    ·obtain ⟨e,he,hb⟩:=q2.mem' hx;apply Classical.byContradiction;intro hne;have:e ∈ (es.filter fun e=>!seen.contains e.born).filter (fun e=>decide (e.born < since)):=by rw [List.mem_filter,List.mem_filter];refine ⟨⟨he,?_⟩,decide_eq_true (hlow e he).1⟩;rw [hb];simpa using hne
     rw [hemp] at this;cases this
    ·match i with
     | 0=>cases ha;cases hv;exact .fl rfl
     | i+1=>simp at ha
  ·obtain ⟨e,he,rfl⟩:=List.mem_map.1 hp
   have hes:e ∈ es∧e.born ∉ seen:=by
    rcases List.mem_append.1 he with he|he
    ·rw [List.mem_filter,List.mem_filter] at he;exact ⟨he.1.1,by simpa using he.1.2⟩
    ·rw [List.mem_filter,List.mem_filter] at he;exact ⟨he.1.1,by simpa using he.1.2⟩
   obtain ⟨x,hx,f1,f2,f3⟩:=q2.mem hes.1;have hns:=hes.2;rw [f3] at hns ⊢;obtain ⟨p1,p2⟩:=h.put (a:=.iter j since (seen++[x.2.2]) clock) (b:=.iter m since (seen++[x.2.2]) clock) h1 rfl rfl hk ⟨m,rfl,g2⟩;refine ⟨E,_,_,h4 x hx hns,p1,p2,.tp rfl fun i a v ha hv=>?_⟩
   match i with
   | 0=>cases ha;cases hv;exact .d (.fl rfl)
   | 1=>cases ha;cases hv;exact p2.ar h.wf f1
   | 2=>cases ha;cases hv;exact p2.ar h.wf f2
   | i+3=>simp at ha
 ·exact hw.elim
end
end Go.RM
namespace Go.RM
open Go
section
variable {T : bG} {base : Nat} {E E' : Env} {hp hp' : List AB} {aF : bq} {H H' : Hp} {ρ : Nat → Nat → Option Nat} {g : aN} {O : Nat → Prop}
def tU (hp:List AB) (size:Nat) (x:AV) (els:List (List AV)):Prop :=
 (∀ el ∈ els,el.length=size) ∧
  match x with
  | .sl els' _=>els=els'
  | .aJ j aK o m _=>∃ cs es,hp[j]?=some (.cells cs es aK)∧o+m * size≤cs.length∧els.length=m∧els.flatten=(cs.drop o).take (m * size)
  | .fl (.slice none 0 0)=>els=[]
  | _=>False
theorem tU.row (h:aX E base hp aF H) {size:Nat} {x:AV} {u:Value} {els:List (List AV)} (he:tU hp size x els) (hx:AR E.ρ H.get (E.O hp) x u) :
  ug u=some els.length∧∃ cs,bI H.get size u=some cs∧fI E.ρ H.get (E.O hp) els.flatten cs:=by
 obtain ⟨h1,h2⟩:=he;split at h2
 ·rename_i els' full;subst h2
  cases hx.ju with
  | nil=>exact ⟨rfl,[],rfl,.nil⟩
  | sl q1 q2 q3 q4 q5 q6 q7 =>
   rename_i k o n c es cs own e;refine ⟨by simp [ug,q4],?_⟩;unfold bI;simp only [q1,cells?];by_cases hne:els=[]
   ·subst hne;simp only [List.length_nil] at q4;subst q4;rw [Nat.zero_mul,mP (by omega)];exact ⟨_,rfl,by simp;exact .nil⟩
   ·have hes:es=size:=by
     cases els with
     | nil=>exact absurd rfl hne
     | cons x l=>rw [←q5 0 x rfl];exact h1 x (by simp)
    subst hes;rw [mP q3];refine ⟨_,rfl,?_,?_⟩
    ·rw [dW h1,q4];simp;omega
    ·intro i a u ha hu;have hlt:i < els.length * es:=by rw [←dW h1];exact (List.getElem?_eq_some_iff.1 ha).1
     have hes:0 < es:=by apply Nat.pos_of_ne_zero;intro h0;subst h0;omega
     have hi:i=i / es * es+i % es:=by rw [Nat.mul_comm];exact (Nat.div_add_mod i es).symm
     have hq:i / es < els.length:=(Nat.div_lt_iff_lt_mul hes).2 hlt;have hel:els[i / es]?=some els[i / es]:=List.getElem?_eq_getElem hq;have hm:i % es < es:=Nat.mod_lt _ hes;rw [hi,ec h1 _ _ _ hel hm] at ha;rw [List.getElem?_take] at hu;split at hu
     ·rw [List.getElem?_drop] at hu;refine .d (q6 _ _ (i % es) a u hel ha ?_);rw [Nat.add_assoc,←hi];exact hu
     ·cases hu
 ·rename_i j aK o m c;obtain ⟨cs,es,h3,h4,h5,h6⟩:=h2
  rcases hx.ej with ⟨k,hk,rfl⟩|⟨rfl,rfl,rfl⟩
  ·obtain ⟨cs',q1,q2⟩:=h.cells h3 hk;refine ⟨by simp [ug,h5],?_⟩;unfold bI;simp only [q1,cells?];rw [mP (by rw [←q2.1];exact h4),h6];exact ⟨_,rfl,(q2.drop o).take _⟩
  ·refine ⟨by simp [ug,h5],[],rfl,?_⟩;rw [h6];simp;exact .nil
 ·subst h2;obtain ⟨rfl,_⟩:=hx.eW;exact ⟨rfl,[],rfl,.nil⟩
 ·exact h2.elim
def jg (T:bG) (own:Bool) (t:TypeId) (s x:AV) (hp:List AB) (K:AV→List AB→Prop):Prop :=
 match elem? T t with
 | some inf=>bL inf=true∧∃ els,tU hp inf.size x els∧els.flatten.all AV.one=true ∧
  match s with
  | .fl (.slice none 0 0)=>(els.length * inf.bytes≤140737488355328∧els.length≤9223372036854775807)∧(els=[]→K s hp)∧(els ≠ [] →
   match own with
   | true=>K (.aJ hp.length 0 0 els.length (els.length+1)) (hp++[.cells els.flatten inf.size 0])
   | false=>cI els.flatten=true∧K (.sl els false) hp)
  | .sl els0 true=>(∀ el ∈ els0,el.length=inf.size)∧((els0.length+els.length) * inf.bytes≤140737488355328∧els0.length+els.length≤9223372036854775807)∧(els=[]→K s hp)∧(els ≠ [] →
   match own with
   | true=>K (.aJ hp.length 0 0 (els0.length+els.length) (els0.length+els.length+1)) (hp++[.cells (els0.flatten++els.flatten) inf.size 0])
   | false=>cI els.flatten=true∧K (.sl (els0++els) false) hp)
  | .aJ j aK o n c=>(o=0∧∃ cs,hp[j]?=some (.cells cs inf.size aK)∧cs.length=n * inf.size∧(c=n∨c=n+1)∧((n+els.length) * inf.bytes≤140737488355328∧n+els.length≤9223372036854775807)∧(els=[]→K s hp) ∧
   (els ≠ []→K (.aJ j (aK+1) 0 (n+els.length) (n+els.length+1)) (hp.set j (.cells (cs++els.flatten) inf.size (aK+1))))) ∨
   (∃ cs es,hp[j]?=some (.cells cs es aK)∧(1≤n+els.length∧n+els.length+3≤c∧o+(n+els.length) * inf.size≤cs.length∧0 < cs.length)∧((n+els.length) * inf.bytes≤140737488355328∧n+els.length≤9223372036854775807)∧(els=[]→K s hp) ∧
   (els ≠ []→K (.aJ j aK o (n+els.length) c) (hp.set j (.cells (aQ cs els.flatten (o+n * inf.size)) es aK))))
  | _=>False
 | none=>False
theorem mT (a:Nat):Nat.beq a a=true:=Nat.beq_refl a
theorem uM {a b:Nat} (h:a ≠ b):Nat.beq a b=false:=by rw [Tr.beq_eq];exact decide_eq_false h
theorem sG.append {a b:List AV} {a' b':List Value} (h:sG g O a a') (k:sG g O b b'):sG g O (a++b) (a'++b'):=by
 refine ⟨by simp [h.1,k.1],fun i x u hx hu=>?_⟩;by_cases hi:i < a.length
 ·rw [List.getElem?_append_left hi] at hx;rw [List.getElem?_append_left (by rw [←h.1];exact hi)] at hu;exact h.2 i x u hx hu
 ·rw [List.getElem?_append_right (by omega)] at hx;rw [List.getElem?_append_right (by rw [←h.1];omega),←h.1] at hu;exact k.2 _ x u hx hu
theorem DR.Nf {els:List (List AV)} {full:Bool} {u:Value} {size:Nat} (hx:DR g O (.sl els full) u) (h1:∀ el ∈ els,el.length=size):∃ cs,bI g size u=some cs∧sG g O els.flatten cs∧ug u=some els.length:=by
 cases hx with
 | nil=>exact ⟨[],rfl,⟨rfl,fun i a u h=>by cases h⟩,rfl⟩
 | sl q1 q2 q3 q4 q5 q6 q7 =>
  rename_i k o n c es cs own e;unfold bI;simp only [q1,cells?];by_cases hne:els=[]
  ·subst hne;simp only [List.length_nil] at q4;subst q4;rw [Nat.zero_mul,mP (by omega)];exact ⟨_,rfl,⟨by simp,fun i a u h=>by cases h⟩,rfl⟩
  ·have hes:es=size:=by
    cases els with
    | nil=>exact absurd rfl hne
    | cons x l=>rw [←q5 0 x rfl];exact h1 x (by simp)
   subst hes;rw [mP q3];refine ⟨_,rfl,⟨?_,?_⟩,by simp [ug,q4]⟩
   ·rw [dW h1,q4];simp;omega
   ·intro i a u ha hu;have hlt:i < els.length * es:=by rw [←dW h1];exact (List.getElem?_eq_some_iff.1 ha).1
    have hes:0 < es:=by apply Nat.pos_of_ne_zero;intro h0;subst h0;omega
    have hi:i=i / es * es+i % es:=by rw [Nat.mul_comm];exact (Nat.div_add_mod i es).symm
    have hq:i / es < els.length:=(Nat.div_lt_iff_lt_mul hes).2 hlt;have hel:els[i / es]?=some els[i / es]:=List.getElem?_eq_getElem hq;have hm:i % es < es:=Nat.mod_lt _ hes;rw [hi,ec h1 _ _ _ hel hm] at ha;rw [List.getElem?_take] at hu;split at hu
    ·rw [List.getElem?_drop] at hu;refine q6 _ _ (i % es) a u hel ha ?_;rw [Nat.add_assoc,←hi];exact hu
    ·cases hu
theorem Bt (h:aX E base hp aF H) {own:Bool} {t:TypeId} {s x:AV} {u v:Value} (hs:AR E.ρ H.get (E.O hp) s u) (hx:AR E.ρ H.get (E.O hp) x v) {K:AV→List AB→Prop}
  (hw:jg T own t s x hp K):dG base E hp aF H (fJ T H.n t u v H.get) K:=by
 unfold jg at hw;split at hw
 ·rename_i inf hi;obtain ⟨hz,els,he,hone,hw⟩:=hw;obtain ⟨hlen,new,hnew,hna⟩:=he.row h hx;have hone':=hna.bw hone;have hel:=he.1
  have main:∀ (n:Nat) (base':Option Addr) (cp:Nat) (old:List Value),u=.slice base' n cp→bI H.get inf.size u=some old→((n+els.length) * inf.bytes≤140737488355328∧n+els.length≤9223372036854775807) →
    fJ T H.n t u v H.get=if els=[] then some (u,.none) else gn H.n inf base' n cp els.length old new H.get:=by
   intro n base' cp old hu ho hb;subst hu;unfold fJ;simp only [hi,hlen,ho,hnew,hone',hz,Bool.and_true];rw [show Nat.ble ((n+els.length) * inf.bytes) 140737488355328=true from Nat.ble_eq_true_of_le hb.1,show Nat.ble (n+els.length) 9223372036854775807=true from Nat.ble_eq_true_of_le hb.2];simp only [Bool.and_self,cond_true];by_cases hne:els=[]
   ·subst hne;rfl
   ·rw [if_neg hne,uM (by simpa using hne)];rfl
  split at hw
  ·obtain ⟨hb,h0,h1⟩:=hw;obtain ⟨rfl,_⟩:=hs.eW;rw [main 0 none 0 [] rfl rfl (by simpa using hb)];by_cases hne:els=[]
   ·rw [if_pos hne];exact .pure h (.d (.fl rfl)) (h0 hne)
   ·rw [if_neg hne];have h1:=h1 hne;unfold gn;simp only [mT,cond_true,List.nil_append,Nat.zero_add];split at h1
    ·exact .new h (x:=.cells els.flatten inf.size 0) rfl (fun E' H' e=>⟨_,rfl,e.DB h.wf hna⟩) (fun E' hr=>.aJ hr) h1
    ·obtain ⟨hd,h1⟩:=h1;exact .uK h (fun e hg hO=>.d (.row hg hO hel rfl ((e.DB h.wf hna).deep hd) (fun hf=>by cases hf))) h1
  ·rename_i els0;obtain ⟨hel0,hb,h0,h1⟩:=hw;obtain ⟨old,ho,hod,hol⟩:=hs.ju.Nf hel0
   have hsl:∃ base' ,u=.slice base' els0.length els0.length:=by
    cases hs.ju with
    | nil=>exact ⟨_,rfl⟩
    | sl q1 q2 q3 q4 q5 q6 q7=>rw [q7 rfl,q4];exact ⟨_,rfl⟩
   obtain ⟨base',hu⟩:=hsl;rw [main els0.length base' els0.length old hu ho hb];by_cases hne:els=[]
   ·rw [if_pos hne];exact .pure h hs (h0 hne)
   ·rw [if_neg hne];have h1:=h1 hne;unfold gn;simp only [mT,cond_true];split at h1
    ·exact .new h (x:=.cells (els0.flatten++els.flatten) inf.size 0) rfl (fun E' H' e=>⟨_,rfl,e.DB h.wf (hod.DB.append hna)⟩) (fun E' hr=>.aJ hr) h1
    ·obtain ⟨hd,h1⟩:=h1;refine .uK h (fun e hg hO=>.d (.row hg hO (es:=inf.size) ?_ (by simp) ?_ (fun hf=>by cases hf))) h1
     ·intro el he
      rcases List.mem_append.1 he with he|he
      ·exact hel0 el he
      ·exact hel el he
     ·rw [List.flatten_append];exact sG.append ⟨hod.1,fun i a u ha hu=>e.dr h.wf (hod.2 i a u ha hu)⟩ ((e.DB h.wf hna).deep hd)
  ·rename_i j aK o n c
   rcases hw with ⟨rfl,cs,hj,hcs,hc,hb,h0,h1⟩|⟨cs,es,hj,⟨c1,c2,c3,c4⟩,hb,h0,h1⟩
   ·rcases hs.ej with ⟨k,hk,rfl⟩|⟨_,rfl,rfl⟩
    ·obtain ⟨cs',q1,q2⟩:=h.cells hj hk;have ho:bI H.get inf.size (.slice (some ⟨k,0,none⟩) n c)=some cs':=by unfold bI;simp only [q1,cells?];rw [mP (by rw [←q2.1,hcs];omega)];simp only [List.drop_zero];rw [List.take_of_length_le (by rw [←q2.1,hcs];omega)]
     rw [main n _ c cs' rfl ho hb];by_cases hne:els=[]
     ·rw [if_pos hne];exact .pure h hs (h0 hne)
     ·rw [if_neg hne];have h1:=h1 hne;unfold gn
      have fin:∀ (e:bX) (H1:Hp),(H1=H∨∃ k,E.ρ j aK=some k∧H1=H.put k .dead)→H.app e=H1.push (.cells (cs'++new) true inf.size) →
        dG base E hp aF H (some (.slice (some ⟨H.n,0,none⟩) (n+els.length) (n+els.length+1),e)) K:=by
       intro e H1 hH1 he;obtain ⟨E',_,r1,r2,r3⟩:=h.renew (a:=.cells (cs++els.flatten) inf.size (aK+1)) (b:=.cells (cs'++new) true inf.size) hj rfl rfl hH1 (fun E' H' _ _ e=>⟨_,rfl,e.DB h.wf (q2.append hna)⟩);refine ⟨_,e,E',_,_,rfl,h1,by rw [he];exact r1,by rw [he];exact r2,.aJ r3⟩
      by_cases hcn:c=n
      ·subst hcn;simp only [mT,cond_true];exact fin _ H (.inl rfl) rfl
      ·have hc':c=n+1:=by omega
       subst hc';rw [uM (by omega),show Nat.ble (n+els.length+3) (n+1)=false from Bool.eq_false_iff.2 (fun h=>by have:=Nat.le_of_ble_eq_true h;omega)];simp only [cond_false,q1,cells?,mT,Bool.true_and,Bool.and_true];rw [show Nat.beq cs'.length (n * inf.size)=true by rw [←q2.1,hcs];exact mT _];simp only [cond_true];exact fin _ (H.put k .dead) (.inr ⟨k,hk,rfl⟩) rfl
    ·rw [main 0 none 0 [] rfl rfl hb];by_cases hne:els=[]
     ·rw [if_pos hne];exact .pure h (.rm hs.oJ) (h0 hne)
     ·rw [if_neg hne];have h1:=h1 hne;have hcs0:cs=[]:=List.length_eq_zero_iff.1 (by rw [hcs];simp);subst hcs0;unfold gn;simp only [mT,cond_true,List.nil_append];obtain ⟨E',_,r1,r2,r3⟩:=h.renew (a:=.cells ([]++els.flatten) inf.size (aK+1)) (b:=.cells new true inf.size) hj rfl rfl (.inl rfl) (fun E' H' _ _ e=>⟨_,rfl,e.DB h.wf hna⟩);exact ⟨_,.new _,E',_,_,rfl,h1,r1,r2,.aJ r3⟩
   ·rcases hs.ej with ⟨k,hk,rfl⟩|⟨rfl,rfl,rfl⟩
    ·obtain ⟨cs',q1,q2⟩:=h.cells hj hk;have hmul:(n+els.length) * inf.size=n * inf.size+els.length * inf.size:=Nat.add_mul _ _ _;have ho:bI H.get inf.size (.slice (some ⟨k,o,none⟩) n c)=some ((cs'.drop o).take (n * inf.size)):=by unfold bI;simp only [q1,cells?];rw [mP (by rw [←q2.1];omega)]
     rw [main n _ c _ rfl ho hb];by_cases hne:els=[]
     ·rw [if_pos hne];exact .pure h hs (h0 hne)
     ·rw [if_neg hne];have h1:=h1 hne;unfold gn;rw [uM (by omega),show Nat.ble (n+els.length+3) c=true from Nat.ble_eq_true_of_le c2];simp only [cond_false,cond_true];unfold jT;simp only [q1,cells?];rw [show Nat.ble (o+(n+els.length) * inf.size) cs'.length=true from Nat.ble_eq_true_of_le (by rw [←q2.1];exact c3)];simp only [Bool.and_self,cond_true];obtain ⟨p1,p2⟩:=h.put (a:=.cells (aQ cs els.flatten (o+n * inf.size)) es aK) (b:=.cells (splice cs' new (o+n * inf.size)) true es) hj rfl rfl hk ⟨_,rfl,q2.splice hna _⟩;exact ⟨_,.put k _,E,_,_,rfl,h1,p1,p2,.aJ hk⟩
    ·have:=hs.oJ;omega
  ·exact hw.elim
 ·exact hw.elim
def zC (T:bG) (t:TypeId) (x:AV) (hp:List AB) (K:AV→List AB→Prop):Prop :=
 match T.ty.get t,x with
 | some ⟨.string,_,_,_,_,_,_⟩,.fl (.string s)=>K (.ptr hp.length 0 0) (hp++[.dI s 0])
 | some ⟨.map ..,_,_,_,_,_,_⟩,.om j=>∃ ents clock,hp[j]?=some (.map ents clock)∧K (.ptr hp.length 0 0) (hp++[.iter j clock [] clock])
 | _,_=>False
theorem xH (h:aX E base hp aF H) {t:TypeId} {x:AV} {u:Value} (hx:AR E.ρ H.get (E.O hp) x u) {K:AV→List AB→Prop} (hw:zC T t x hp K):dG base E hp aF H (rY T H.n t u H.get) K:=by
 unfold zC at hw;unfold rY;split at hw
 ·rename_i hty;rw [hty];obtain ⟨rfl,_⟩:=hx.eW;exact .new h (x:=.dI _ 0) rfl (fun E' H' e=>rfl) (fun E' hr=>.ptr hr) hw
 ·rename_i j hty;rw [hty];obtain ⟨ents,clock,h1,h2⟩:=hw;obtain ⟨k,hk,rfl⟩:=hx.nY;obtain ⟨es,q1,q2,_⟩:=h.map h1 hk;simp only [q1,map?];exact .new h (x:=.iter j clock [] clock) rfl (fun E' H' e=>⟨_,rfl,e.Af _ _ _ hk⟩) (fun E' hr=>.ptr hr) h2
 ·exact hw.elim
def sK (it:AV) (hp:List AB) (K:AV→List AB→Prop):Prop :=
 match it with
 | .ptr j 0 0=>∃ s pos,hp[j]?=some (.dI s pos)∧(pos < s.data.toList.length→K (.tp [.fl (.bool true),.fl (.int .i64 pos),.fl (.int .i32 (Utf8.decode s pos).1)]) (hp.set j (.dI s (pos+(Utf8.decode s pos).2)))) ∧
  (s.data.toList.length≤pos→K (.tp [.fl (.bool false)]) hp)
 | _=>False
theorem aX.dI (h:aX E base hp aF H) {j k pos:Nat} {s:ByteArray} (hj:hp[j]?=some (.dI s pos)) (hk:E.ρ j 0=some k):H.get k=some (.dI s pos):=by
 rcases h.gu j _ 0 hj rfl with ⟨k',b',h1,h2,h3⟩|⟨h1,_,h2⟩
 ·rw [hk] at h1;cases h1;cases h3;exact h2
 ·cases h2
theorem uB (h:aX E base hp aF H) {it:AV} {u:Value} (hx:AR E.ρ H.get (E.O hp) it u) {K:AV→List AB→Prop} (hw:sK it hp K):dG base E hp aF H (jW u H.get) K:=by
 unfold sK at hw;split at hw
 ·rename_i j;obtain ⟨s,pos,h1,h2,h3⟩:=hw;obtain ⟨k,hk,rfl⟩:=hx.cY;have hg:=h.dI h1 hk;unfold jW addr?;simp only [hg];by_cases hlt:pos < s.data.toList.length
  ·rw [show Nat.blt pos s.data.toList.length=true from Nat.ble_eq_true_of_le hlt];simp only [cond_true];obtain ⟨p1,p2⟩:=h.put (a:=.dI s (pos+(Utf8.decode s pos).2)) (b:=.dI s (pos+(Utf8.decode s pos).2)) h1 rfl rfl hk rfl;refine ⟨_,.put k _,E,_,_,rfl,h2 hlt,p1,p2,.d (.tp rfl fun i x u hx hu=>?_)⟩
   match i with
   | 0=>cases hx;cases hu;exact .fl rfl
   | 1=>cases hx;cases hu;exact .fl rfl
   | 2=>cases hx;cases hu;exact .fl rfl
   | i+3=>simp at hx
  ·have hb:Nat.blt pos s.data.toList.length=false:=by
    cases hb:Nat.blt pos s.data.toList.length with
    | false=>rfl
    | true=>exact absurd (Nat.le_of_ble_eq_true hb) hlt
   rw [hb];simp only [cond_false];refine .pure h (.d (.tp rfl fun i x u hx hu=>?_)) (h3 (by omega))
   match i with
   | 0=>cases hx;cases hu;exact .fl rfl
   | i+1=>simp at hx
 ·exact hw.elim
def zD (T:bG) (t:TypeId) (x:AV) (hp:List AB) (K:AV→List AB→Prop):Prop :=
 match T.ty.get t,x with
 | some ⟨.map ..,_,_,_,_,_,_⟩,.om j=>∃ ents clock,hp[j]?=some (.map ents clock)∧K (.tp []) (hp.set j (.map [] clock))
 | _,_=>False
theorem xI (h:aX E base hp aF H) {t:TypeId} {x:AV} {u:Value} (hx:AR E.ρ H.get (E.O hp) x u) {K:AV→List AB→Prop} (hw:zD T t x hp K) :
  dG base E hp aF H (nB T t u H.get) K:=by
 unfold zD at hw;split at hw
 ·rename_i j hty;obtain ⟨ents,clock,h1,h2⟩:=hw;obtain ⟨q,hq,rfl⟩:=hx.nY;obtain ⟨es,q1,q2⟩:=h.CL h1 hq;unfold nB;simp only [hty,q1,map?];obtain ⟨p1,p2⟩:=h.put (a:=.map [] clock) (b:=.map [] clock) h1 rfl rfl hq ⟨_,rfl,rfl,fun i k v born x hx _=>by cases hx⟩;exact ⟨_,.put q _,E,.tp [],_,rfl,h2,p1,p2,.d (.tp rfl fun i x u hx _=>by cases hx)⟩
 ·exact hw.elim
def wk (T:bG) (t:TypeId) (d x:AV) (hp:List AB) (K:AV→List AB→Prop):Prop :=
 match elem? T t,d with
 | some inf,.aJ j aK o n _=>∃ els cs es,tU hp inf.size x els∧els.flatten.all AV.one=true∧hp[j]?=some (.cells cs es aK)∧(1≤n∧els.length≤n∧0 < cs.length)∧o+n * inf.size≤cs.length ∧
  K (.fl (.int .i64 (Int.ofNat els.length))) (hp.set j (.cells (aQ cs els.flatten o) es aK))
 | _,_=>False
theorem zE (h:aX E base hp aF H) {t:TypeId} {d x:AV} {u v:Value} (hd:AR E.ρ H.get (E.O hp) d u) (hx:AR E.ρ H.get (E.O hp) x v) {K:AV→List AB→Prop} (hw:wk T t d x hp K) :
  dG base E hp aF H (tj T t u v H.get) K:=by
 unfold wk at hw;split at hw
 ·rename_i inf j aK o n c hi;obtain ⟨els,cs,es,he,hone,hj,⟨h1,h2,h3⟩,h4,h5⟩:=hw;obtain ⟨hlen,new,hnew,hna⟩:=he.row h hx;have hone':=hna.bw hone
  rcases hd.ej with ⟨k,hk,rfl⟩|⟨_,rfl,rfl⟩
  ·obtain ⟨cs',q1,q2⟩:=h.cells hj hk;unfold tj;simp only [hi,q1,cells?,hlen,hnew,hone'];rw [show Nat.ble 1 n=true from Nat.ble_eq_true_of_le h1,show Nat.ble els.length n=true from Nat.ble_eq_true_of_le h2,show Nat.ble (o+n * inf.size) cs'.length=true from Nat.ble_eq_true_of_le (by rw [←q2.1];exact h4)];simp only [Bool.and_self,cond_true];obtain ⟨p1,p2⟩:=h.put (a:=.cells (aQ cs els.flatten o) es aK) (b:=.cells (splice cs' new o) true es) hj rfl rfl hk ⟨_,rfl,q2.splice hna o⟩;exact ⟨_,.put k _,E,_,_,rfl,h5,p1,p2,.d (.fl rfl)⟩
  ·omega
 ·exact hw.elim
def gL (T:bG) (own:Bool) (b:Builtin) (args:List AV) (tys:List TypeId) (hp:List AB) (K:AV→List AB→Prop):Prop :=
 match b with
 | .len=>match args,tys with
  | [x],[t]=>rA T t x hp K
  | _,_=>False
 | .min=>DD T args hp K
 | .max=>DE T args hp K
 | .clear=>match args,tys with
  | [x],[t]=>zD T t x hp K
  | _,_=>False
 | .copy=>match args,tys with
  | [d,x],[t,_]=>wk T t d x hp K
  | _,_=>False
 | .append=>match args,tys with
  | [s,x],[t,u]=>match T.ty.get u with
   | some ⟨.slice _,_,_,_,_,_,_⟩=>jg T own t s x hp K
   | _=>False
  | _,_=>False
 | _=>False
def force (v:AV) (K:AV→Prop):Prop :=
 match v with
 | .fl x=>K (.fl x)
 | .sl a b=>K (.sl a b)
 | .pt a b=>K (.pt a b)
 | .fn a b c=>K (.fn a b c)
 | .ag a=>K (.ag a)
 | .tp a=>K (.tp a)
 | .ptr a b c=>K (.ptr a b c)
 | .aJ a b c d e=>K (.aJ a b c d e)
 | .om a=>K (.om a)
 | .oq a=>K (.oq a)
 | .cB=>K .cB
theorem dO {v:AV} {K:AV→Prop} (h:force v K):K v:=by cases v <;> exact h
def eD:List AV→(List AV→Prop)→Prop
 | [],K=>K []
 | a :: l,K=>force a fun a=>eD l fun l=>K (a :: l)
theorem gM:∀ {l:List AV} {K:List AV→Prop},eD l K→K l
 | [],_,h=>h
 | a :: l,K,h=>by have h1:eD l fun l=>K (a :: l):=dO h;exact gM (K:=fun l=>K (a :: l)) h1
def kA:List (Nat × AV)→(List (Nat × AV)→Prop)→Prop
 | [],K=>K []
 | (i,a) :: l,K=>force a fun a=>kA l fun l=>K ((i,a) :: l)
theorem sL:∀ {l:List (Nat × AV)} {K:List (Nat × AV)→Prop},kA l K→K l
 | [],_,h=>h
 | (i,a) :: l,K,h=>by have h1:kA l fun l=>K ((i,a) :: l):=dO (K:=fun a=>kA l fun l=>K ((i,a) :: l)) h;exact sL (K:=fun l=>K ((i,a) :: l)) h1
def wpOp (T:bG) (own:Bool) (o:Op) (fr:Nat→AV) (hp:List AB) (K:AV→List AB→Prop):Prop :=
 match o with
 | .move x=>K (bg fr x) hp
 | .assign x=>K (bg fr x) hp
 | .pick c a b=>sH (bg fr c) (bg fr a) (bg fr b) hp K
 | .alloc t=>ru T t hp K
 | .box _ x=>force (bg fr x) fun v=>ye own v hp K
 | .build t parts=>kA (parts.toList.map fun p=>(p.1,bg fr p.2)) fun ps=>mR T t ps hp K
 | .buildSlice t len parts=>kA (parts.toList.map fun p=>(p.1,bg fr p.2)) fun ps=>dy T own t len ps hp K
 | .load t a=>fC T t (bg fr a) hp K
 | .store t a x=>force (bg fr x) fun v=>aG T t (bg fr a) v hp K
 | .fieldAddr t a i=>jM T t (bg fr a) i hp K
 | .indexAddr t a ix=>cD T t (bg fr a) (bg fr ix) hp K
 | .index t a ix=>vY T t (bg fr a) (bg fr ix) hp K
 | .field t a i=>Bn T t (bg fr a) i hp K
 | .binOp o t x y _=>aU T o t x y (bg fr x) (bg fr y) hp K
 | .unOp o _ x=>IC T o (bg fr x) hp K
 | .convert s d x=>vW T s d (bg fr x) hp K
 | .makeInterface t x=>DC T t (bg fr x) hp K
 | .typeAssert x t d ok=>Bm T t d ok (bg fr x) hp K
 | .extract x i=>jR (bg fr x) i hp K
 | .makeFunc (.func f) first captured=>eD (first.toList.map (bg fr)) fun a=>eD (captured.toList.map (bg fr)) fun b=>K (.fn f a b) hp
 | .nilCheck x=>rz (bg fr x) hp K
 | .slice t x lo hi none=>mS T t (bg fr x) (lo.map (bg fr)) (hi.map (bg fr)) hp K
 | .slice t x lo (some hi) (some m)=>v8 T t (bg fr x) (lo.map (bg fr)) (bg fr hi) (bg fr m) hp K
 | .makeSlice t l c=>qj T t (bg fr l) (bg fr c) hp K
 | .range t x=>zC T t (bg fr x) hp K
 | .next it true=>sK (bg fr it) hp K
 | .makeMap _ none=>K (.om hp.length) (hp++[.map [] 0])
 | .lookup t m k ok=>wg T t (bg fr m) (bg fr k) ok hp K
 | .mapEntry t m k=>gA T t (bg fr m) (bg fr k) hp K
 | .entryStore _ m s v=>eV (bg fr m) (bg fr s) (bg fr v) hp K
 | .entry it=>zA (bg fr it) hp K
 | .mapUpdate t m k v=>force (bg fr v) fun v=>nZ T t (bg fr m) (bg fr k) v hp K
 | .call ⟨.builtin b,args,tys⟩=>eD (args.toList.map (bg fr)) fun as=>gL T own b as tys.toList hp K
 | _=>False
theorem jh {fr:Nat→AV} {tm:Tr Value} (h:mO ρ g O fr tm) (l:List Operand):fI ρ g O (l.map (bg fr)) (l.map (bh tm)):=by
 induction l with
 | nil=>exact .nil
 | cons x l ih=>exact .cons (lD h x) ih
theorem yh {fr:Nat→AV} {tm:Tr Value} (h:mO ρ g O fr tm) (l:List (Nat × Operand)):nX ρ g O (l.map fun p=>(p.1,bg fr p.2)) (l.map fun (i,x)=>(i,bh tm x)):=by
 induction l with
 | nil=>trivial
 | cons x l ih=>exact ⟨rfl,lD h _,ih⟩
theorem zF {fr:Nat→AV} {tm:Tr Value} (h:mO ρ g O fr tm) (o:Option Operand):EN ρ g O (o.map (bg fr)) (o.map (bh tm)):=by
 cases o with
 | none=>trivial
 | some x=>exact lD h x
theorem wm (h:aX E base hp aF H) {own:Bool} {o:Op} {fr:Nat→AV} {tm:Tr Value} (hf:mO E.ρ H.get (E.O hp) fr tm) {K:AV→List AB→Prop} (hw:wpOp T own o fr hp K) :
  dG base E hp aF H (jH T H.n o (bh tm) H.get) K:=by
 have ev:=fun x=>lD hf x;unfold wpOp at hw;split at hw
 ·exact .pure h (ev _) hw
 ·exact .pure h (ev _) hw
 ·exact zx h (ev _) (ev _) (ev _) hw
 ·exact xz h hw
 ·exact Bk h (ev _) (dO hw)
 ·exact xC h (yh hf _) (sL hw)
 ·exact qi h (yh hf _) (sL hw)
 ·exact zu h (ev _) hw
 ·exact xy h (ev _) (ev _) (dO hw)
 ·exact xA h (ev _) hw
 ·exact ry h (ev _) (ev _) hw
 ·exact vZ h (ev _) (ev _) hw
 ·exact v5 h (ev _) hw
 ·exact Bl h (ev _) (ev _) hw
 ·exact CK h (ev _) hw
 ·exact zw h (ev _) hw
 ·exact xB h (ev _) hw
 ·exact vX h (ev _) hw
 ·exact uA h (ev _) hw
 ·refine .pure h (.fn ?_ ?_ ?_ ?_) (gM (gM hw))
  ·exact (jh hf _).1
  ·exact (jh hf _).1
  ·exact (jh hf _).2
  ·exact (jh hf _).2
 ·exact Bo h (ev _) hw
 ·exact xD h (ev _) (zF hf _) (zF hf _) hw
 ·exact we h (ev _) (zF hf _) (ev _) (ev _) hw
 ·exact zy h (ev _) (ev _) hw
 ·exact xH h (ev _) hw
 ·exact uB h (ev _) hw
 ·exact .new h (x:=.map [] 0) rfl (fun E' H' e=>⟨[],rfl,rfl,fun i k v born e x=>by cases x⟩) (fun E' hr=>.om hr) hw
 ·exact wj h (ev _) (ev _) hw
 ·exact sJ h (ev _) (ev _) hw
 ·exact qk h (ev _) (ev _) (ev _) hw
 ·exact xF h (ev _) hw
 ·exact rB h (ev _) (ev _) (ev _) (dO hw)
 ·rename_i b args tys;have hw:=gM hw;have hl:=jh hf args.toList;show dG base E hp aF H (gU T H.n b (args.toList.map (bh tm)) tys.toList H.get) K;unfold gL at hw;unfold gU;split at hw
  ·split at hw
   ·rename_i x t hx ht;rw [hx] at hl
    match hl':args.toList.map (bh tm),hl with
    | [u],hl=>simp only [ht];exact Bq h (hl.2 0 _ _ rfl rfl) hw
    | [],hl=>exact absurd hl.1 (by simp)
    | _ :: _ :: _,hl=>exact absurd hl.1 (by simp)
   ·exact hw.elim
  ·exact Br h hl hw
  ·exact Bs h hl hw
  ·split at hw
   ·rename_i x t hx ht;rw [hx] at hl
    match hl':args.toList.map (bh tm),hl with
    | [u],hl=>simp only [ht];exact xI h (hl.2 0 _ _ rfl rfl) hw
    | [],hl=>exact absurd hl.1 (by simp)
    | _ :: _ :: _,hl=>exact absurd hl.1 (by simp)
   ·exact hw.elim
  ·split at hw
   ·rename_i d x t u hx ht;rw [hx] at hl;obtain ⟨a,b,hab,h1,h2⟩:=hl.two;rw [hab,ht];simp only;exact zE h h1 h2 hw
   ·exact hw.elim
  ·split at hw
   ·rename_i s x t u hx ht;rw [hx] at hl;obtain ⟨a,b,hab,h1,h2⟩:=hl.two;rw [hab,ht];simp only;split at hw
    ·rename_i hu;simp only [hu];exact Bt h h1 h2 hw
    ·exact hw.elim
   ·exact hw.elim
  ·exact hw.elim
 ·exact hw.elim
end
end Go.RM
