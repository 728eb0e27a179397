/-
  A layer of contracts over the abstract machine. Lemmas alone; no condition.
-/
import Derived.Test.YtlpmfgmldmdggaaGreatR4
import Derived.ProofKit
import Derived.Carry
namespace Go.RM
open Go Go.ChangeShapes Go.WideShapes Go.ChangeAt Go.RowKit
section
variable {P : Program} {D : Type} {enc : TypeId × Value → D}
theorem oW (hl:laidOutB P=true) {W W':World} (hb:Below W.heap.size W W'):∀ {ts:List TypeId} {vs:List Value} {ds:List (DataW D)} {ps:List MemPlace},(ts.all fun t=>P.readableRec t && decide (t < P.types.size))=true →
  DataW.TrodAll enc P W 0 (fun _=>true) true ts vs ds ps→(∀ p ∈ ps,p.block < W.heap.size)→∀ sp:Nat→Bool,(∀ p ∈ ps,sp p.block=true)→DataW.TrodAll enc P W' 0 sp true ts vs ds ps
 | [],[],[],ps,_,h,_,sp,_=>h
 | t :: ts,v :: vs,d :: ds,ps,hr,h,hlt,sp,hs=>by obtain ⟨p,q,h1,h2,rfl⟩:=h;simp only [List.all_cons,qq7,decide_eq_true_eq] at hr;refine ⟨p,q,WideElems.Trod_stays hl hr.1.1 hr.1.2 h1 (fun x hx=>hb.same (hlt x (List.mem_append_left _ hx))) (fun x hx=>hs x (List.mem_append_left _ hx)),?_,rfl⟩;exact oW hl hb hr.2 h2 (fun x hx=>hlt x (List.mem_append_right _ hx)) sp (fun x hx=>hs x (List.mem_append_right _ hx))
 | [],_ :: _,_,_,_,h,_,_,_=>by simp [DataW.TrodAll] at h
 | [],[],_ :: _,_,_,h,_,_,_=>by simp [DataW.TrodAll] at h
 | _ :: _,[],_,_,_,h,_,_,_=>by simp [DataW.TrodAll] at h
 | _ :: _,_ :: _,[],_,_,h,_,_,_=>by simp [DataW.TrodAll] at h
theorem tq {W:World} {base:Nat} {spare:Nat→Bool} {held:Bool}:∀ {ts:List TypeId} {vs:List Value} {ds:List (DataW D)} {ps:List MemPlace},DataW.TrodAll enc P W base spare held ts vs ds ps→ds.length=ts.length
 | [],[],[],_,_=>rfl
 | _ :: _,_ :: _,_ :: _,_,h=>by obtain ⟨p,q,_,h2,_⟩:=h;simp [tq h2]
 | [],_ :: _,_,_,h=>by simp [DataW.TrodAll] at h
 | [],[],_ :: _,_,h=>by simp [DataW.TrodAll] at h
 | _ :: _,[],_,_,h=>by simp [DataW.TrodAll] at h
 | _ :: _,_ :: _,[],_,h=>by simp [DataW.TrodAll] at h
theorem Fj (hl:laidOutB P=true) {f:FuncId} {fn:Func} {s:ChangeSpec} {tb:TypeId} (hr:(fn.params.toList.all fun t=>P.readableRec t && decide (t < P.types.size))=true) (hres:fn.resultTypes=#[tb])
  (hb:P.underlying tb=some .bool) (hv:s.vars=[]) (hs:∀ (ds:List (DataW D)),ds.length=fn.params.toList.length→s.fn D ds={results:=[.lit (.bool true)],args:=ds})
  {W:World} {args:Array Value} {ds gs:List (DataW D)} {before:List MemPlace} (hW:DataW.Whole enc P fn.params.toList s.vars false W args.toList ds gs before)
  (hc:Calls P f args W fun e w'=>e=.returned (.bool true)∧Below W.heap.size W w') :
  Calls P f args W fun e W'=>∃ v,e=.returned v∧s.post enc P fn false true false false W args v W':=by
 have hlt:=hW.lt;have hW':=hW;obtain ⟨p,q,hA,hV,rfl,hfz,hnd⟩:=hW;rw [hv] at hV;obtain ⟨rfl,rfl⟩:=trodVars_none hV;have hds:=hs ds (tq hA);refine hc.mono fun e W' ⟨he,hw⟩=>?_;subst he;have hp:∀ x ∈ p,x.block < W.heap.size:=fun x hx=>hlt x (List.mem_append_left _ hx);have hold:∀ x ∈ p,(fun b=>decide (b < W.heap.size)) x.block=true:=fun x hx=>by simpa using hp x hx
 have hone:DataW.TrodAll enc P W' 0 (fun _=>false) false fn.resultTypes.toList ((Value.bool true).resultList fn.resultTypes.size) [.lit (.bool true)] []:=by rw [hres];exact trodAll_mk1 (shut_bool hb true)
 have hone':DataW.TrodAll enc P W' 0 (fun _=>true) true fn.resultTypes.toList ((Value.bool true).resultList fn.resultTypes.size) [.lit (.bool true)] []:=by rw [hres];exact trodAll_mk1 (shut_bool hb true)
 have hnow:=oW hl hw hr hA hp;simp only [List.append_nil] at hW' hfz hnd;refine ⟨_,rfl,ds,[],p,[],p,[],by simpa using hW',?_,?_,?_,hw.frame _,fun _=>⟨ok_one hres rfl (okWide_bool_mk hb true),_,[],([]++p)++[],⟨[]++p,[],trodAll_append (hnow _ (fun _ _=>rfl)) hone',?_,rfl,?_,?_⟩,?_⟩⟩
 ·rw [List.append_nil,hds,hres];exact trodAll_mk1 (shut_bool hb true)
 ·rw [List.append_nil,hds];exact hnow _ hold
 ·rw [List.append_nil,hds,hv];rfl
 ·rw [hv];rfl
 ·intro b off hx;have hx':MemPlace.cell b off ∈ p:=by simpa using hx
  have hb':b < W.heap.size:=hp _ hx';rw [hw.frozen hb'];exact hfz b off hx'
 ·intro ha;cases ha
 ·intro x hx _;simpa using hx
end
end Go.RM
namespace Go.RM
open Go
abbrev Rec:=m9→Option (List eF)
def eG (a b:Rec):Prop:=∀ j L,a j=some L→b j=some L
section
variable {T : bC} {a b : Rec}
theorem eA {α β:Type} {f g:α→Option (List β)} (h:∀ x M,f x=some M→g x=some M):∀ {L:List α} {M:List β},bp L f=some M→bp L g=some M
 | [],M,e=>by rw [lI] at e ⊢;exact e
 | [x],M,e=>by rw [dH] at e ⊢;exact h _ _ e
 | x :: y :: l,M,e=>by
  rw [gu] at e ⊢
  cases hx:f x with
  | none=>rw [hx] at e;cases e
  | some X =>rw [hx] at e;simp only [Option.map_eq_some_iff] at e;obtain ⟨Y,hY,rfl⟩:=e;rw [h _ _ hx];simp only [eA h hY,Option.map_some]
theorem AN (h:eG a b) {o:Op} {st:St} {L:List (Value × Hp)} (e:dS T a o st=some L):dS T b o st=some L:=by
 unfold dS at e ⊢
 cases hk:cS o with
 | call f args =>
  rw [hk] at e;simp only at e ⊢
  cases hg:cy (lD T.P st.fr f) (args.map (aY st.fr)) with
  | none=>rw [hg] at e;cases e
  | some g =>
   rw [hg] at e;simp only at e ⊢
   cases hr:a (jS st.hp g) with
   | none=>rw [hr] at e;cases e
   | some M=>rw [hr] at e;rw [h _ _ hr];exact e
 | next it=>rw [hk] at e;exact e
 | plain=>rw [hk] at e;exact e
theorem iG (h:eG a b) (ops:List Oper):∀ (l:List Oper) (st:St) (L:List St),aV T a ops l st=some L→aV T b ops l st=some L:=by
 intro l
 induction l with
 | nil=>intro st L e;exact e
 | cons o l ih =>
  intro st L e;rw [bU] at e ⊢
  cases hg:bu ops st.fr o.guard with
  | false=>rw [hg] at e;exact ih _ _ e
  | true =>
   rw [hg] at e;simp only [cond_true] at e ⊢
   cases ho:dS T a o.op st with
   | none=>rw [ho] at e;cases e
   | some M =>rw [ho] at e;rw [AN h ho];exact eA (fun x M hx=>ih _ _ hx) e
theorem xM (h:eG a b) {o:Op} {i:Nat} {st:St} {r:Value × Hp × Tc} (e:ck T a o i st=some r):ck T b o i st=some r:=by
 unfold ck at e ⊢
 cases hk:cS o with
 | call f args =>
  rw [hk] at e;simp only at e ⊢
  cases hg:cy (lD T.P st.fr f) (args.map (aY st.fr)) with
  | none=>rw [hg] at e;cases e
  | some g =>
   rw [hg] at e;simp only at e ⊢
   cases hr:a (jS {st.hp with lo:=st.hp.n} g) with
   | none=>rw [hr] at e;cases e
   | some M=>rw [hr] at e;rw [h _ _ hr];exact e
 | next it=>rw [hk] at e;exact e
 | plain=>rw [hk] at e;exact e
theorem i5 (h:eG a b) (ops:Array Oper):∀ (l:List Oper) (i:Nat) (st:St) (acc:List Ev) (L:List St),cv T a ops l i st acc=some L→cv T b ops l i st acc=some L:=by
 intro l
 induction l with
 | nil=>intro i st acc L e;exact e
 | cons o l ih =>
  intro i st acc L e;rw [cG] at e ⊢
  cases hg:bu ops.toList st.fr o.guard with
  | false=>rw [hg] at e;exact ih _ _ _ _ e
  | true =>
   rw [hg] at e;simp only [cond_true] at e ⊢
   cases ho:ck T a o.op i st with
   | none=>rw [ho] at e;cases e
   | some r=>rw [ho] at e;rw [xM h ho];exact ih _ _ _ _ e
theorem AO (h:eG a b) {o:Op} {i:Nat} {st:St} {P:List (Value × Hp × Tc)} (e:eo T a o i st=some P):eo T b o i st=some P:=by
 unfold eo at e ⊢
 cases hk:cS o with
 | call f args =>
  rw [hk] at e;simp only at e ⊢
  cases hg:cy (lD T.P st.fr f) (args.map (aY st.fr)) with
  | none=>rw [hg] at e;cases e
  | some g =>
   rw [hg] at e;simp only at e ⊢
   cases hr:a (jS {st.hp with lo:=st.hp.n} g) with
   | none=>rw [hr] at e;cases e
   | some M=>rw [hr] at e;rw [h _ _ hr];exact e
 | next it=>rw [hk] at e;cases e
 | plain=>rw [hk] at e;cases e
theorem Fl (h:eG a b) {ops:Array Oper} {o:Oper} {i:Nat} {st:St} {P:List (Value × Hp × Tc)} (e:jU T a ops o i st=some P):jU T b ops o i st=some P:=by
 unfold jU at e ⊢
 cases hg:bu ops.toList st.fr o.guard with
 | false=>rw [hg] at e;exact e
 | true=>rw [hg] at e;exact AO h e
theorem qI (h:eG a b) (ops:Array Oper) {K K':St→List Ev→Option (List St)} (hK:∀ st acc L,K st acc=some L→K' st acc=some L):∀ (l:List Oper) (i:Nat) (st:St) (acc:List Ev) (L:List St),fI T a ops l K i st acc=some L→fI T b ops l K' i st acc=some L:=by
 intro l
 induction l with
 | nil=>intro i st acc L e;exact hK _ _ _ e
 | cons o l ih =>
  intro i st acc L e;rw [gT] at e ⊢
  cases hg:bu ops.toList st.fr o.guard with
  | false=>rw [hg] at e;exact ih _ _ _ _ e
  | true =>
   rw [hg] at e;simp only [cond_true] at e ⊢
   cases ho:ck T a o.op i st with
   | none=>rw [ho] at e;cases e
   | some r=>rw [ho] at e;rw [xM h ho];exact ih _ _ _ _ e
theorem Fm (h:eG a b) {ops:Array Oper} {c:Nat} {st:St} {acc:List Ev} {L:List St} (e:uJ T a ops c st acc=some L):uJ T b ops c st acc=some L:=by obtain ⟨o,P,h1,h2,h3,h4⟩:=pF e;unfold uJ;simp only [h1,Fl h h2,List.all_eq_true.2 h3,cond_true];exact eA (fun x N hx=>iG h _ _ _ _ hx) h4
theorem tv (h:eG a b) {ops:Array Oper} {st:St} {L:List St} (e:cH T a ops st=some L):cH T b ops st=some L:=by
 rcases k8 e with ⟨c,h1,h2⟩|⟨h1,M,h2,h3⟩
 ·unfold cH;rw [h1];exact qI h ops (fun _ _ _=>Fm h) _ _ _ _ _ h2
 ·unfold cH;simp only [h1,i5 h _ _ _ _ _ _ h2];exact eA (fun x N hx=>iG h _ _ _ _ hx) h3
theorem tw {ops:Array Oper} {e:Ev} {acc:List Ev} (h:eM T ops (e :: acc)=true):eM T ops acc=true:=by
 have hp:=fN h;unfold eK at hp;rw [qq7] at hp;unfold eM
 cases (acc.all fun e=>e.t.wr.isEmpty && Nat.beq e.t.a e.t.b) with
 | true=>rfl
 | false=>exact hp.2
theorem tA {r:Rec} {ops:Array Oper}:∀ (l:List Oper) (i:Nat) (st:St) (acc:List Ev) (L:List St),cv T r ops l i st acc=some L→eM T ops acc=true:=by
 intro l
 induction l with
 | nil =>
  intro i st acc L h;rw [fL] at h
  cases hc:eM T ops acc with
  | true=>rfl
  | false=>rw [hc] at h;cases h
 | cons o l ih =>
  intro i st acc L h;rw [cG] at h
  cases hg:bu ops.toList st.fr o.guard with
  | false=>rw [hg] at h;exact tw (ih _ _ _ _ h)
  | true =>
   rw [hg] at h;simp only [cond_true] at h
   cases ho:ck T r o.op i st with
   | none=>rw [ho] at h;cases h
   | some p=>rw [ho] at h;exact tw (ih _ _ _ _ h)
theorem qJ {r:Rec} {ops:Array Oper}:∀ (l:List Oper) (i:Nat) (st:St) (acc:List Ev) {L:List St},cv T r ops l i st acc=some L→∃ s,L=[s]:=by
 intro l
 induction l with
 | nil =>
  intro i st acc L h;rw [fL] at h
  cases hc:eM T ops acc with
  | true=>rw [hc] at h;cases h;exact ⟨_,rfl⟩
  | false=>rw [hc] at h;cases h
 | cons o l ih =>
  intro i st acc L h;rw [cG] at h
  cases hg:bu ops.toList st.fr o.guard with
  | false=>rw [hg] at h;exact ih _ _ _ h
  | true =>
   rw [hg] at h;simp only [cond_true] at h
   cases ho:ck T r o.op i st with
   | none=>rw [ho] at h;cases h
   | some p=>rw [ho] at h;exact ih _ _ _ h
theorem vD {r:Rec} {ops:Array Oper} (l2:List Oper):∀ (l1:List Oper) (i:Nat) (st:St) (acc:List Ev),cv T r ops (l1++l2) i st acc=fI T r ops l1 (fun st acc=>cv T r ops l2 (i+l1.length) st acc) i st acc:=by
 intro l1
 induction l1 with
 | nil=>intro i st acc;rfl
 | cons o l ih =>intro i st acc;rw [List.cons_append,cG,gT,List.length_cons,show i+(l.length+1)=i+1+l.length by omega];simp only [ih]
theorem xN {r:Rec} {ops:Array Oper} {s':St}:∀ (l:List Oper) (i:Nat) (st:St) (acc:List Ev),l.all BP=true→cv T r ops l i st acc=some [s']→aV T r ops.toList l st=some [s']:=by
 intro l
 induction l with
 | nil =>
  intro i st acc _ h;rw [fL] at h
  cases hc:eM T ops acc with
  | true=>rw [hc] at h;exact h
  | false=>rw [hc] at h;cases h
 | cons o l ih =>
  intro i st acc hp h;rw [List.all_cons,qq7] at hp;rw [cG] at h;rw [bU]
  cases hg:bu ops.toList st.fr o.guard with
  | false=>rw [hg] at h;exact ih _ _ _ hp.2 h
  | true =>
   rw [hg] at h;simp only [cond_true] at h ⊢
   have hk:cS o.op=.plain:=by
    have:=hp.1;unfold BP at this;split at this
    ·assumption
    ·cases this
   cases ho:ck T r o.op i st with
   | none=>rw [ho] at h;cases h
   | some p =>
    obtain ⟨v,hp',t⟩:=p;rw [ho] at h;unfold ck at ho;rw [hk] at ho;simp only at ho;split at ho
    ·rename_i ef _ hop;cases ho;have:dS T r o.op st=some [(v,st.hp.app ef)]:=by unfold dS;simp only [hk,hop]
     rw [this];exact ih _ _ _ hp.2 h
    ·cases ho
theorem D4 {ops:Array Oper} {c:Nat} (h:wK ops=some c):fP ops=ops.toList.length:=by
 unfold wK at h;unfold fP;split at h
 ·cases h
 ·rename_i hn;simp only
theorem AP {r:Rec} {ops:Array Oper} {st s':St} (ht:fP ops=ops.toList.length) (h:cv T r ops ops.toList 0 st []=some [s']):cH T r ops st=some [s']:=by
 unfold cH
 cases hn:wK ops with
 | none =>simp only;rw [ht,List.take_length,List.drop_length,h];rfl
 | some c =>
  show CT T r ops c st=some [s'];unfold wK at hn;split at hn
  ·cases hn
  ·have hb:=List.find?_some hn;unfold Jz at hb;rw [qq7,qq7] at hb;obtain ⟨⟨h1,_⟩,h3⟩:=hb;split at h1
   ·rename_i o ho;have hlt:c < ops.toList.length:=(List.getElem?_eq_some_iff.1 ho).1;have hs:ops.toList=ops.toList.take c++o :: ops.toList.drop (c+1):=by have e:=List.getElem?_eq_some_iff.1 ho;rw [←e.2,List.getElem_cons_drop,List.take_append_drop]
    have h':cv T r ops (ops.toList.take c++o :: ops.toList.drop (c+1)) 0 st []=some [s']:=by rw [←hs];exact h
    rw [vD] at h';have hcl:(ops.toList.take c).length=c:=by rw [List.length_take];omega
    rw [hcl,Nat.zero_add] at h';refine qI (fun _ _ e=>e) ops (fun s acc L e=>?_) _ _ _ _ _ h';rw [cG] at e;unfold uJ jU
    cases hg:bu ops.toList s.fr o.guard with
    | false =>rw [hg] at e;simp only [cond_false] at e;obtain ⟨s2,rfl⟩:∃ s2,L=[s2]:=qJ _ _ _ _ e;simp only [ho,hg,cond_false,List.all_cons,List.all_nil,Bool.and_true];rw [tA _ _ _ _ _ e];simp only [cond_true];rw [dH];exact xN _ _ _ _ h3 e
    | true =>
    rw [hg] at e;simp only [cond_true] at e
    cases hd:ck T r o.op c s with
    | none=>rw [hd] at e;cases e
    | some p =>
     obtain ⟨v,hp,t⟩:=p;rw [hd] at e;simp only at e;obtain ⟨s2,rfl⟩:∃ s2,L=[s2]:=qJ _ _ _ _ e
     have hm:eo T r o.op c s=some [(v,hp,t)]:=by
      have hk:∃ f as,cS o.op=.call f as:=by
       unfold EM at h1;split at h1
       ·rename_i e1;rw [e1];exact ⟨_,_,rfl⟩
       ·cases h1
      obtain ⟨f,as,hk⟩:=hk;unfold ck at hd;unfold eo;simp only [hk] at hd ⊢;split at hd
      ·rename_i g hg;split at hd
       ·rename_i v0 hp0 hr;simp only [hr];rw [dH];show some [jT c s v0 hp0]=_;rw [Option.some.inj hd]
       ·cases hd
      ·cases hd
     simp only [ho,hg,cond_true,hm,List.all_cons,List.all_nil,Bool.and_true];rw [tA _ _ _ _ _ e];simp only [cond_true];rw [dH];exact xN _ _ _ _ h3 e
   ·cases h1
theorem dV (h:eG a b):∀ (c:Code) (st:St) (L:List (Exit × St)),bH T a c st=some L→bH T b c st=some L:=by
 intro c
 induction c with
 | skip=>intro st L e;exact e
 | region id ops draw =>
  intro st L e;rw [dU] at e ⊢
  cases draw with
  | false =>
   simp only [cond_false] at e ⊢
   cases ho:aV T a ops.toList ops.toList st with
   | none=>rw [ho] at e;cases e
   | some M=>rw [ho] at e;rw [iG h _ _ _ _ ho];exact e
  | true =>
   simp only [cond_true] at e ⊢
   cases ho:cH T a ops st with
   | none=>rw [ho] at e;cases e
   | some M =>rw [ho] at e;rw [tv h ho];exact e
 | seq c d ihc ihd =>
  intro st L e;rw [lJ] at e ⊢
  cases ho:bH T a c st with
  | none=>rw [ho] at e;cases e
  | some M =>
   rw [ho] at e;rw [ihc _ _ ho];refine eA (fun p N hp=>?_) e;unfold uK at hp ⊢;split at hp
   ·exact ihd _ _ hp
   ·exact hp
 | cond c x y ihx ihy =>
  intro st L e;rw [jY] at e ⊢;split at e
  ·rename_i t ht
   cases t with
   | true=>exact ihx _ _ e
   | false=>exact ihy _ _ e
  ·cases e
 | block id c ih =>
  intro st L e;rw [kI] at e ⊢
  cases ho:bH T a c st with
  | none=>rw [ho] at e;cases e
  | some M=>rw [ho] at e;rw [ih _ _ ho];exact e
 | loop c ih =>
  intro st L e;rw [mj] at e ⊢
  cases ho:a (.loop c st) with
  | none=>rw [ho] at e;cases e
  | some M=>rw [ho] at e;rw [h _ _ ho];exact e
 | rangeFunc f ps x y ihx ihy =>
  intro st L e;rw [kJ] at e ⊢;unfold l6 at e ⊢;split at e
  ·rename_i g args hg
   cases ho:a (.call g args (st.hp.push (.loop .ready none st.fr ps x y))) with
   | none=>rw [ho] at e;cases e
   | some M=>rw [ho] at e;rw [h _ _ ho];exact e
  ·cases e
 | exit id=>intro st L e;exact e
 | scope c ih =>intro st L e;rw [kK] at e ⊢;obtain ⟨e1,e2⟩:=nx e;rw [ih _ _ e1];rw [e1] at e;exact e
 | label l=>intro st L e;exact e
 | goto l=>intro st L e;exact e
 | ret=>intro st L e;exact e
 | refuse y=>intro st L e;exact e
def pM (a b:qc→Option (List eE)):Prop:=∀ j L,a j=some L→b j=some L
section
variable {pa pb : qc → Option (List eE)}
theorem D5 (h:eG a b) (hp:pM pa pb) {o:Op} {st:St} {L:List eE} (e:iw T a pa o st=some L):iw T b pb o st=some L:=by
 unfold iw at e ⊢;split
 ·rename_i x hx;rw [hx] at e;exact e
 ·rename_i hx;rw [hx] at e;simp only at e;split
  ·rename_i g as hg;rw [hg] at e;exact hp _ _ e
  ·rename_i hg;rw [hg] at e;simp only [Option.map_eq_some_iff] at e ⊢;obtain ⟨M,h1,h2⟩:=e;exact ⟨M,AN h h1,h2⟩
theorem tB (h:eG a b) (hp:pM pa pb) (ops:List Oper):∀ (l:List Oper) (st:St) (L:List (Option Value × St)),cB T a pa ops l st=some L→cB T b pb ops l st=some L:=by
 intro l
 induction l with
 | nil=>intro st L e;exact e
 | cons o l ih =>
  intro st L e;rw [iQ] at e ⊢
  cases hg:bu ops st.fr o.guard with
  | false=>rw [hg] at e;exact ih ⟨cY st.fr o.dst undef,st.hp,st.rd⟩ L e
  | true =>
   rw [hg] at e;simp only [cond_true] at e ⊢
   cases hx:iw T a pa o.op st with
   | none=>rw [hx] at e;cases e
   | some A =>
    rw [hx] at e;rw [D5 h hp hx];refine eA (fun r M hr=>?_) e
    rcases qo hr with ⟨v,h1,rfl,h2⟩|⟨v,h1,rfl,rfl⟩
    ·exact ih _ _ h2
    ·rfl
theorem yU (h:eG a b) (hp:pM pa pb) {ops:Array Oper} {st:St} {L:List (Option Value × St)} (e:dG T a pa ops st=some L):dG T b pb ops st=some L:=by
 rcases j7 e with ⟨c,h1,M,h2,h3⟩|⟨h1,M,h2,rfl⟩
 ·unfold dG;rw [h1];simp only [i5 h _ _ _ _ _ _ h2];exact eA (fun _ _=>tB h hp _ _ _ _) h3
 ·unfold dG;rw [h1];simp only [tv h h2]
theorem sg (h:eG a b) (hp:pM pa pb):∀ (c:Code) (st:St) (L:List (nc × St)),cE T a pa c st=some L→cE T b pb c st=some L:=by
 intro c
 induction c with
 | region id ops draw =>
  intro st L e;rw [ld] at e ⊢
  cases draw with
  | true =>
   simp only [cond_true] at e ⊢
   cases hx:dG T a pa ops st with
   | none=>rw [hx] at e;cases e
   | some R=>rw [hx] at e;rw [yU h hp hx];exact e
  | false =>
   simp only [cond_false] at e ⊢
   cases hx:cB T a pa ops.toList ops.toList st with
   | none=>rw [hx] at e;cases e
   | some R=>rw [hx] at e;rw [tB h hp _ _ _ _ hx];exact e
 | seq x y ihx ihy =>
  intro st L e;rw [pH] at e ⊢
  cases hx:cE T a pa x st with
  | none=>rw [hx] at e;cases e
  | some R =>
   rw [hx] at e;rw [ihx _ _ hx];refine eA (fun p M hq=>?_) e;obtain ⟨z,s⟩:=p;unfold xy at hq ⊢;simp only at hq ⊢;split at hq
   ·exact ihy _ _ hq
   ·exact hq
 | cond c x y ihx ihy =>
  intro st L e;rw [nB] at e ⊢;split at e
  ·rename_i t _
   cases t with
   | true=>exact ihx _ _ e
   | false=>exact ihy _ _ e
  ·cases e
 | block id c ih =>
  intro st L e;rw [mw] at e ⊢
  cases hx:cE T a pa c st with
  | none=>rw [hx] at e;cases e
  | some R=>rw [hx] at e;rw [ih _ _ hx];exact e
 | loop c _ =>
  intro st L e;rw [nC] at e ⊢
  cases hx:pa (.loop c st) with
  | none=>rw [hx] at e;cases e
  | some R=>rw [hx] at e;rw [hp _ _ hx];exact e
 | _=>intro st L e;exact e
theorem Fo (h:eG a b) (hp:pM pa pb):pM (mW T a pa) (mW T b pb):=by
 intro j L e
 cases j with
 | call f args H =>obtain ⟨fn,c,R,h1,h2,h3,h4⟩:=jg e;unfold mW;simp only [h1,h2,sg h hp _ _ _ h3];exact h4
 | loop c st =>
  obtain ⟨R,h1,h2⟩:=jh e;unfold mW;simp only [sg h hp _ _ _ h1];refine eA (fun p M hq=>?_) h2;obtain ⟨z,s⟩:=p;unfold iy at hq ⊢;simp only at hq ⊢;split at hq
  ·exact hp _ _ hq
  ·exact hq
end
theorem C3 (h:eG a b):∀ n,pM (BS T a n) (BS T b n)
 | 0=>fun _ _ e=>e
 | n+1=>fun j L e=>Fo h (C3 h n) j L e
theorem Fp (h:eG a b):∀ (c:Code) (st:St) (L:List (nc × St × Value)),oK T a c st=some L→oK T b c st=some L:=by
 intro c
 induction c with
 | seq x y _ ihy =>
  intro st L e;rw [rV] at e ⊢;split at e
  ·rename_i l o hd;split at e
   ·rename_i M hx;rw [iG h _ _ _ _ hx];refine eA (fun s R hq=>?_) e;simp only [Option.map_eq_some_iff] at hq ⊢;obtain ⟨Q,h1,h2⟩:=hq;exact ⟨Q,sg h (C3 h 1000) _ _ _ h1,h2⟩
   ·cases e
  ·split at e
   ·rename_i M hx;rw [dV h _ _ _ hx];refine eA (fun p R hq=>?_) e;split at hq
    ·exact ihy _ _ hq
    ·cases hq
   ·cases e
 | _=>intro st L e;exact e
theorem Fs (h:eG a b) {f:FuncId} {args:List Value} {H:Hp} {L:List eF} (e:oL T a f args H=some L):oL T b f args H=some L:=by obtain ⟨fn,c,R,h1,h2,h3,h4⟩:=pJ e;unfold oL;simp only [h1,h2,Fp h _ _ _ h3];exact h4
theorem Ft (h:eG a b):eG (gQ T a) (gQ T b):=by
 intro j L e
 cases j with
 | call f args hp =>
  rw [jZ] at e ⊢;split at e
  ·rename_i fn hf;split at e
   ·rename_i c hc
    cases ho:bH T a c ⟨setArgs .leaf 0 args,hp,false⟩ with
    | none=>rw [ho] at e;cases e
    | some M=>rw [ho] at e;rw [dV h _ _ _ ho];exact e
   ·cases e
  ·exact Fs h e
 | round l args hp =>
  rw [ny] at e ⊢;split at e
  ·rename_i pend fr ps as bd hl
   cases hb:Nat.beq args.length ps.toList.length with
   | false=>rw [hb] at e;cases e
   | true =>
    rw [hb] at e;simp only [cond_true] at e ⊢
    cases ho:bH T a as ⟨ep fr (ps.toList.zip args),hp,true⟩ with
    | none=>rw [ho] at e;cases e
    | some M =>
     rw [ho] at e;rw [dV h _ _ _ ho];refine eA (fun p N hp=>?_) e;unfold cN at hp ⊢;split at hp
     ·split at hp
      ·rename_i pend2 fr2 ps2 as2 bd2 hl2
       cases hq:bH T a bd ⟨p.2.fr,p.2.hp.put l (.loop .busy pend2 fr2 ps2 as2 bd2),true⟩ with
       | none=>rw [hq] at hp;cases hp
       | some M2=>rw [hq] at hp;rw [dV h _ _ _ hq];exact hp
      ·cases hp
     ·cases hp
  ·cases e
 | loop c st =>
  rw [pG] at e ⊢
  cases ho:bH T a c st with
  | none=>rw [ho] at e;cases e
  | some M =>
   rw [ho] at e;rw [dV h _ _ _ ho];refine eA (fun p N hp=>?_) e;unfold eu at hp ⊢;split at hp
   ·exact h _ _ hp
   ·exact hp
theorem Je {tab:List XE} (h:eG a b):eG (rx tab a) (rx tab b):=by
 intro j L e
 cases j with
 | call f args H =>
  unfold rx at e ⊢;simp only at e ⊢;split at e
  ·exact e
  ·exact h _ _ e
 | round l args H=>exact h _ _ e
 | loop c st=>exact h _ _ e
end
variable {T : bC} {tab : List XE}
theorem D6 (n:Nat) (j:m9):vA tab T (n+1) j=gQ T (rx tab (vA tab T n)) j:=rfl
theorem Fu (n:Nat):eG (vA tab T n) (vA tab T (n+1)):=by
 induction n with
 | zero=>intro j L e;cases e
 | succ n ih=>intro j L e;rw [D6] at e ⊢;exact Ft (Je ih) _ _ e
theorem HB {n m:Nat} (h:n≤m):eG (vA tab T n) (vA tab T m):=by
 induction h with
 | refl=>exact fun _ _ e=>e
 | step _ ih=>exact fun j L e=>Fu _ _ _ (ih j L e)
noncomputable def RX (T:bC) (tab:List XE) (n:Nat):Rec:=rx tab (vA tab T n)
theorem gV {n m:Nat} (h:n≤m):eG (RX T tab n) (RX T tab m):=Je (HB h)
theorem HC (n:Nat) (c:Code) (st:St):RX T tab (n+1) (.loop c st)=gQ T (RX T tab n) (.loop c st):=rfl
theorem Fv (n:Nat) (l:Nat) (args:List Value) (H:Hp):RX T tab (n+1) (.round l args H)=gQ T (RX T tab n) (.round l args H):=rfl
theorem yV (n:Nat) (f:FuncId) (args:List Value) (H:Hp):RX T tab (n+1) (.call f args H)=match look tab f args H with
 | some (v,H')=>some [.ret v H']
 | none=>gQ T (RX T tab n) (.call f args H):=rfl
end Go.RM
namespace Go.RM
open Go
inductive AV where
 | fl (v:Value)
 | sl (els:List (List AV)) (full:Bool)
 | pt (cs:List AV) (o:Nat)
 | fn (f:FuncId) (first caps:List AV)
 | ag (cs:List AV)
 | tp (vs:List AV)
 | ptr (j aE o:Nat)
 | aL (j aE o n c:Nat)
 | om (j:Nat)
 | oq (u:Value)
 | cA
inductive AB where
 | cells (cs:List AV) (es aE:Nat)
 | dL (s:ByteArray) (pos:Nat)
 | map (ents:List (AV × AV × Nat)) (clock:Nat)
 | iter (j since:Nat) (seen:List Nat) (stepped:Nat)
 | gone
def AB.ver?:AB→Option Nat
 | .cells _ _ v=>some v
 | .gone=>none
 | _=>some 0
inductive DR (g:aG) (O:Nat→Prop):AV→Value→Prop
 | fl {v:Value}:bf v=true→DR g O (.fl v) v
 | oq {u:Value} (h:RM.bx u=true):DR g O (.oq u) u
 | nil {full:Bool}:DR g O (.sl [] full) (.slice none 0 0)
 | sl {els:List (List AV)} {full:Bool} {k o n c es:Nat} {cs:List Value} {own:Bool} {e:Nat} (hg:g k=some (.cells cs own e)) (hO:¬ O k) (hlen:o+n * es≤cs.length) (hn:els.length=n)
  (hel:∀ (i:Nat) (el:List AV),els[i]?=some el→el.length=es)
  (h:∀ (i:Nat) (el:List AV) (j:Nat) (a:AV) (u:Value),els[i]?=some el→el[j]?=some a→cs[o+i * es+j]?=some u→DR g O a u) (hc:full=true→c=n):DR g O (.sl els full) (.slice (some ⟨k,o,none⟩) n c)
 | pt {l:List AV} {k d o:Nat} {cs:List Value} {own:Bool} {e:Nat} (hg:g k=some (.cells cs own e)) (hO:¬ O k) (hlen:d+l.length≤cs.length)
  (h:∀ (i:Nat) (a:AV) (u:Value),l[i]?=some a→cs[d+i]?=some u→DR g O a u):DR g O (.pt l o) (.pointer (some ⟨k,d+o,none⟩))
 | fn {f:FuncId} {a b:List AV} {a' b':Array Value} (ha:a.length=a'.toList.length) (hb:b.length=b'.toList.length)
  (h1:∀ (i:Nat) (x:AV) (u:Value),a[i]?=some x→a'.toList[i]?=some u→DR g O x u) (h2:∀ (i:Nat) (x:AV) (u:Value),b[i]?=some x→b'.toList[i]?=some u→DR g O x u):DR g O (.fn f a b) (.func (.func f) a' b')
 | ag {a:List AV} {a':Array Value} (ha:a.length=a'.toList.length) (h1:∀ (i:Nat) (x:AV) (u:Value),a[i]?=some x→a'.toList[i]?=some u→DR g O x u):DR g O (.ag a) (.agg a')
 | tp {a:List AV} {a':Array Value} (ha:a.length=a'.toList.length) (h1:∀ (i:Nat) (x:AV) (u:Value),a[i]?=some x→a'.toList[i]?=some u→DR g O x u):DR g O (.tp a) (.tuple a')
inductive AR (ρ:Nat→Nat→Option Nat) (g:aG) (O:Nat→Prop):AV→Value→Prop
 | d {v:AV} {u:Value}:DR g O v u→AR ρ g O v u
 | cA {u:Value}:AR ρ g O .cA u
 | ptr {j aE o k:Nat}:ρ j aE=some k→AR ρ g O (.ptr j aE o) (.pointer (some ⟨k,o,none⟩))
 | aL {j aE o n c k:Nat}:ρ j aE=some k→AR ρ g O (.aL j aE o n c) (.slice (some ⟨k,o,none⟩) n c)
 | qK {j aE c:Nat} (hc:c≤2):AR ρ g O (.aL j aE 0 0 c) (.slice none 0 0)
 | om {j k:Nat}:ρ j 0=some k→AR ρ g O (.om j) (.map (some k))
 | fn {f:FuncId} {a b:List AV} {a' b':Array Value} (ha:a.length=a'.toList.length) (hb:b.length=b'.toList.length)
  (h1:∀ (i:Nat) (x:AV) (u:Value),a[i]?=some x→a'.toList[i]?=some u→AR ρ g O x u) (h2:∀ (i:Nat) (x:AV) (u:Value),b[i]?=some x→b'.toList[i]?=some u→AR ρ g O x u):AR ρ g O (.fn f a b) (.func (.func f) a' b')
 | ag {a:List AV} {a':Array Value} (ha:a.length=a'.toList.length) (h1:∀ (i:Nat) (x:AV) (u:Value),a[i]?=some x→a'.toList[i]?=some u→AR ρ g O x u):AR ρ g O (.ag a) (.agg a')
 | tp {a:List AV} {a':Array Value} (ha:a.length=a'.toList.length) (h1:∀ (i:Nat) (x:AV) (u:Value),a[i]?=some x→a'.toList[i]?=some u→AR ρ g O x u):AR ρ g O (.tp a) (.tuple a')
def si (g:aG) (O:Nat→Prop) (l:List AV) (l':List Value):Prop:=l.length=l'.length∧∀ (i:Nat) (a:AV) (u:Value),l[i]?=some a→l'[i]?=some u→DR g O a u
def fB (ρ:Nat→Nat→Option Nat) (g:aG) (O:Nat→Prop) (l:List AV) (l':List Value):Prop:=l.length=l'.length∧∀ (i:Nat) (a:AV) (u:Value),l[i]?=some a→l'[i]?=some u→AR ρ g O a u
mutual
def AV.deep:AV→Bool
 | .fl _=>true
 | .sl _ _=>true
 | .pt _ _=>true
 | .fn _ a b=>cV a && cV b
 | .ag a=>cV a
 | .tp a=>cV a
 | .oq _=>true
 | _=>false
def cV:List AV→Bool
 | []=>true
 | a :: l=>a.deep && cV l
end
theorem gI:∀ {l:List AV},cV l=true→∀ (i:Nat) (a:AV),l[i]?=some a→a.deep=true
 | [],_,i,a,h=>by cases h
 | x :: l,h,i,a,ha=>by
  simp only [cV,qq7] at h
  cases i with
  | zero=>cases ha;exact h.1
  | succ i=>exact gI h.2 i a (by simpa using ha)
section
variable {ρ ρ' : Nat → Nat → Option Nat} {g g' : aG} {O O' : Nat → Prop}
theorem AR.deep {v:AV} {u:Value} (h:AR ρ g O v u):v.deep=true→DR g O v u:=by
 induction h with
 | d h=>intro _;exact h
 | fn ha hb h1 h2 ih1 ih2 =>intro hd;simp only [AV.deep,qq7] at hd;exact .fn ha hb (fun i x u hx hu=>ih1 i x u hx hu (gI hd.1 i x hx)) (fun i x u hx hu=>ih2 i x u hx hu (gI hd.2 i x hx))
 | ag ha h1 ih=>intro hd;simp only [AV.deep] at hd;exact .ag ha (fun i x u hx hu=>ih i x u hx hu (gI hd i x hx))
 | tp ha h1 ih=>intro hd;simp only [AV.deep] at hd;exact .tp ha (fun i x u hx hu=>ih i x u hx hu (gI hd i x hx))
 | _=>intro hd;simp [AV.deep] at hd
theorem DR.mono {v:AV} {u:Value} (h:DR g O v u) (hg:∀ k b,g k=some b→¬ O k→g' k=some b∧¬ O' k):DR g' O' v u:=by
 induction h with
 | fl h=>exact .fl h
 | oq h=>exact .oq h
 | nil=>exact .nil
 | sl h1 h2 h3 h4 h5 h6 h7 ih=>exact .sl (hg _ _ h1 h2).1 (hg _ _ h1 h2).2 h3 h4 h5 ih h7
 | pt h1 h2 h3 h4 ih=>exact .pt (hg _ _ h1 h2).1 (hg _ _ h1 h2).2 h3 ih
 | fn ha hb h1 h2 ih1 ih2=>exact .fn ha hb ih1 ih2
 | ag ha h1 ih=>exact .ag ha ih
 | tp ha h1 ih=>exact .tp ha ih
theorem AR.mono {v:AV} {u:Value} (h:AR ρ g O v u) (hr:∀ j aE k,ρ j aE=some k→ρ' j aE=some k) (hg:∀ k b,g k=some b→¬ O k→g' k=some b∧¬ O' k):AR ρ' g' O' v u:=by
 induction h with
 | d h=>exact .d (h.mono hg)
 | cA=>exact .cA
 | ptr h=>exact .ptr (hr _ _ _ h)
 | aL h=>exact .aL (hr _ _ _ h)
 | qK hc=>exact .qK hc
 | om h=>exact .om (hr _ _ _ h)
 | fn ha hb h1 h2 ih1 ih2=>exact .fn ha hb ih1 ih2
 | ag ha h1 ih=>exact .ag ha ih
 | tp ha h1 ih=>exact .tp ha ih
theorem fB.mono {l:List AV} {l':List Value} (h:fB ρ g O l l') (hr:∀ j aE k,ρ j aE=some k→ρ' j aE=some k) (hg:∀ k b,g k=some b→¬ O k→g' k=some b∧¬ O' k):fB ρ' g' O' l l' :=
 ⟨h.1,fun i a u ha hu=>(h.2 i a u ha hu).mono hr hg⟩
theorem fB.nil:fB ρ g O [] []:=⟨rfl,fun i a u h=>by cases h⟩
theorem fB.cons {a:AV} {u:Value} {l:List AV} {l':List Value} (h:AR ρ g O a u) (t:fB ρ g O l l'):fB ρ g O (a :: l) (u :: l') :=
 ⟨by simp [t.1],fun i b v hb hv=>by
  cases i with
  | zero=>cases hb;cases hv;exact h
  | succ i=>exact t.2 i b v (by simpa using hb) (by simpa using hv)⟩
theorem fB.append {a b:List AV} {a' b':List Value} (h:fB ρ g O a a') (k:fB ρ g O b b'):fB ρ g O (a++b) (a'++b'):=by
 refine ⟨by simp [h.1,k.1],fun i x u hx hu=>?_⟩;by_cases hi:i < a.length
 ·rw [List.getElem?_append_left hi] at hx;rw [List.getElem?_append_left (by rw [←h.1];exact hi)] at hu;exact h.2 i x u hx hu
 ·rw [List.getElem?_append_right (by omega)] at hx;rw [List.getElem?_append_right (by rw [←h.1];omega),←h.1] at hu;exact k.2 _ x u hx hu
theorem fB.take {a:List AV} {a':List Value} (h:fB ρ g O a a') (n:Nat):fB ρ g O (a.take n) (a'.take n):=by
 refine ⟨by simp [h.1],fun i x u hx hu=>?_⟩;rw [List.getElem?_take] at hx hu;split at hx
 ·rw [if_pos (by assumption)] at hu;exact h.2 i x u hx hu
 ·cases hx
theorem fB.drop {a:List AV} {a':List Value} (h:fB ρ g O a a') (n:Nat):fB ρ g O (a.drop n) (a'.drop n):=by refine ⟨by simp [h.1],fun i x u hx hu=>?_⟩;rw [List.getElem?_drop] at hx hu;exact h.2 _ x u hx hu
theorem fB.get {l:List AV} {l':List Value} (h:fB ρ g O l l') {i:Nat} {a:AV} (ha:l[i]?=some a):∃ u,l'[i]?=some u∧AR ρ g O a u:=by
 have hi:i < l'.length:=by rw [←h.1];exact (List.getElem?_eq_some_iff.1 ha).1
 exact ⟨l'[i],List.getElem?_eq_getElem hi,h.2 i a _ ha (List.getElem?_eq_getElem hi)⟩
theorem fB.deep {l:List AV} {l':List Value} (h:fB ρ g O l l') (hd:cV l=true):si g O l l':=⟨h.1,fun i a u ha hu=>(h.2 i a u ha hu).deep (gI hd i a ha)⟩
theorem si.C4 {l:List AV} {l':List Value} (h:si g O l l'):fB ρ g O l l':=⟨h.1,fun i a u ha hu=>.d (h.2 i a u ha hu)⟩
def AV.one:AV→Bool
 | .fl _|.sl ..|.pt ..|.fn ..|.ptr ..|.aL ..|.om _|.oq _=>true
 | _=>false
theorem AR.bx {v:AV} {u:Value} (h:AR ρ g O v u) (ho:v.one=true):RM.bx u=true:=by
 cases h with
 | d h =>
  cases h with
  | fl h=>cases u <;> first|rfl|simp [bf] at h
  | oq h=>exact h
  | _=>first|rfl|simp [AV.one] at ho
 | _=>first|rfl|simp [AV.one] at ho
theorem fB.bx {l:List AV} {l':List Value} (h:fB ρ g O l l') (ho:l.all AV.one=true):l'.all RM.bx=true:=by
 rw [List.all_eq_true] at ho ⊢;intro u hu;obtain ⟨i,hi,rfl⟩:=List.getElem_of_mem hu;have hi':i < l.length:=by rw [h.1];exact hi
 exact (h.2 i l[i] _ (List.getElem?_eq_getElem hi') (List.getElem?_eq_getElem hi)).bx (ho _ (List.getElem_mem hi'))
def AV.cells:AV→List AV
 | .ag cs=>cs
 | v=>[v]
def AV.kg:AV→Bool
 | .ag _=>true
 | v=>v.one
theorem D7 {u:Value} (h:RM.bx u=true):u.cells.toList=[u]:=by cases u <;> first|rfl|cases h
theorem AR.cells {v:AV} {u:Value} (h:AR ρ g O v u) (hc:v.kg=true):fB ρ g O v.cells u.cells.toList:=by
 cases v with
 | ag cs =>
  cases h with
  | d h=>cases h with
   | ag ha h1=>exact ⟨ha,fun i a u x y=>.d (h1 i a u x y)⟩
  | ag ha h1=>exact ⟨ha,h1⟩
 | cA=>simp [AV.kg,AV.one] at hc
 | tp=>simp [AV.kg,AV.one] at hc
 | _=>rw [D7 (h.bx rfl)];exact .cons h .nil
theorem AR.eU {v u:Value} (h:AR ρ g O (.fl v) u):u=v∧bf v=true:=by
 cases h with
 | d h=>cases h with
  | fl h=>exact ⟨rfl,h⟩
theorem fB.eU {l:List Value} {l':List Value} (h:fB ρ g O (l.map .fl) l'):l'=l∧l.all bf=true:=by
 have key:∀ (i:Nat) (v u:Value),l[i]?=some v→l'[i]?=some u→u=v∧bf v=true:=fun i v u hv hu=>(h.2 i (.fl v) u (by simp [hv]) hu).eU;have hlen:l.length=l'.length:=by simpa using h.1
 refine ⟨List.ext_getElem? fun i=>?_,?_⟩
 ·by_cases hi:i < l.length
  ·rw [List.getElem?_eq_getElem hi,List.getElem?_eq_getElem (by omega:i < l'.length),(key i _ _ (List.getElem?_eq_getElem hi) (List.getElem?_eq_getElem (by omega))).1]
  ·rw [List.getElem?_eq_none (by omega),List.getElem?_eq_none (by omega)]
 ·rw [List.all_eq_true];intro x hx;obtain ⟨i,hi,rfl⟩:=List.getElem_of_mem hx;exact (key i _ _ (List.getElem?_eq_getElem hi) (List.getElem?_eq_getElem (by omega))).2
theorem fB.yW {l:List Value} (h:l.all bf=true):fB ρ g O (l.map .fl) l:=by refine ⟨by simp,fun i a u ha hu=>?_⟩;rw [List.getElem?_map,hu] at ha;cases ha;exact .d (.fl (List.all_eq_true.1 h u (List.mem_of_getElem? hu)))
end
structure bJ where
 P:(Nat→Prop)→(Nat→Prop)→aG→Nat→Prop
 st:∀ {D S:Nat→Prop} {g g':aG} {n n':Nat},P D S g n→(∀ k,S k→g' k=g k)→n≤n'→P D S g' n'
def bJ.none:bJ:=⟨fun _ _ _ _=>True,fun _ _ _=>trivial⟩
structure Env where
 ρ:Nat→Nat→Option Nat
 D:Nat→Prop
 S:Nat→Prop
 X:Nat→Prop
def Own (ρ:Nat→Nat→Option Nat) (hp:List AB) (k:Nat):Prop:=∃ (j:Nat) (b:AB) (aE:Nat),hp[j]?=some b∧b.ver?=some aE∧ρ j aE=some k
def Env.O (E:Env) (hp:List AB) (k:Nat):Prop:=Own E.ρ hp k∨E.X k
def BR (ρ:Nat→Nat→Option Nat) (g:aG) (O:Nat→Prop):AB→bz→Prop
 | .cells cs es _,b'=>∃ cs',b'=.cells cs' true es∧fB ρ g O cs cs'
 | .dL s p,b'=>b'=.dL s p
 | .map ents clock,b'=>∃ es:List MapEntry,b'=.map es clock∧ents.length=es.length∧∀ (i:Nat) (k v:AV) (born:Nat) (e:MapEntry),ents[i]?=some (k,v,born)→es[i]?=some e→AR ρ g O k e.key∧AR ρ g O v e.val∧e.born=born
 | .iter j since seen stepped,b'=>∃ m,b'=.iter m since seen stepped∧ρ j 0=some m
 | .gone,_=>False
structure aX (E:Env) (base:Nat) (hp:List AB) (aC:bJ) (H:Hp):Prop where
 wf:Wf H
 gm:∀ (j:Nat) (b:AB) (aE:Nat),hp[j]?=some b→b.ver?=some aE→(∃ k b',E.ρ j aE=some k∧H.get k=some b'∧BR E.ρ H.get (E.O hp) b b')∨(E.ρ j aE=none∧∃ es,b=.cells [] es aE)
 inj:∀ (j j' aE ver' k:Nat),E.ρ j aE=some k→E.ρ j' ver'=some k→j=j'
 rn:∀ (j v k:Nat),E.ρ j v=some k→k < H.n
 fresh:∀ (j:Nat) (b:AB) (aE v:Nat),hp[j]?=some b→b.ver?=some aE→aE < v→E.ρ j v=none
 new:∀ j v,hp.length≤j→E.ρ j v=none
 sup:∀ k,Own E.ρ hp k→¬ E.S k
 gW:∀ k,Own E.ρ hp k→¬ E.X k
 dx:∀ k,E.D k→E.X k
 ds:∀ k,E.D k→E.S k
 sn:∀ k,E.S k→k < H.n
 xn:∀ k,E.X k→k < H.n
 oX:∀ k,Own E.ρ hp k∨E.D k→base≤k
 bn:base≤H.n
 aC:aC.P E.D E.S H.get H.n
structure Ext (base:Nat) (E:Env) (hp:List AB) (H:Hp) (E':Env) (hp':List AB) (H':Hp):Prop where
 n:H.n≤H'.n
 d:E'.D=E.D
 s:E'.S=E.S
 x:E'.X=E.X
 zM:∀ j v k,E.ρ j v=some k→E'.ρ j v=some k
 own:∀ k,Own E'.ρ hp' k→Own E.ρ hp k∨H.n≤k
 same:∀ k,k < H.n→¬ Own E.ρ hp k→H'.get k=H.get k
 lo:min H.lo base≤H'.lo
section
variable {base : Nat} {E E' E2 : Env} {hp hp' hp2 : List AB} {aC : bJ} {H H' H2 : Hp}
theorem Wf.lt (h:Wf H) {k:Nat} {b:bz} (hk:H.get k=some b):k < H.n:=by apply Nat.lt_of_not_le;intro hle;rw [h k hle] at hk;cases hk
theorem Ext.refl:Ext base E hp H E hp H:=⟨qq6 _,rfl,rfl,rfl,fun _ _ _ h=>h,fun _ h=>.inl h,fun _ _ _=>rfl,Nat.min_le_left _ _⟩
theorem Ext.trans (a:Ext base E hp H E' hp' H') (b:Ext base E' hp' H' E2 hp2 H2):Ext base E hp H E2 hp2 H2:=by
 refine ⟨Nat.le_trans a.n b.n,b.d.trans a.d,b.s.trans a.s,b.x.trans a.x,fun j v k h=>b.zM j v k (a.zM j v k h),fun k h=>?_,fun k hk ho=>?_,?_⟩
 ·rcases b.own k h with h|h
  ·exact a.own k h
  ·exact .inr (Nat.le_trans a.n h)
 ·rw [b.same k (Nat.lt_of_lt_of_le hk a.n) (fun h=>(a.own k h).elim ho (fun h=>by omega)),a.same k hk ho]
 ·have:=a.lo;have:=b.lo;omega
theorem Ext.keep (e:Ext base E hp H E' hp' H') (hw:Wf H):∀ k b,H.get k=some b→¬ E.O hp k→H'.get k=some b∧¬ E'.O hp' k:=by
 intro k b hk ho;have hlt:=hw.lt hk;refine ⟨by rw [e.same k hlt (fun h=>ho (.inl h))];exact hk,fun h=>?_⟩
 rcases h with h|h
 ·rcases e.own k h with h|h
  ·exact ho (.inl h)
  ·omega
 ·rw [e.x] at h;exact ho (.inr h)
theorem Ext.ar (e:Ext base E hp H E' hp' H') (hw:Wf H) {v:AV} {u:Value} (h:AR E.ρ H.get (E.O hp) v u):AR E'.ρ H'.get (E'.O hp') v u:=h.mono e.zM (e.keep hw)
theorem Ext.dr (e:Ext base E hp H E' hp' H') (hw:Wf H) {v:AV} {u:Value} (h:DR H.get (E.O hp) v u):DR H'.get (E'.O hp') v u:=h.mono (e.keep hw)
theorem Ext.C4 (e:Ext base E hp H E' hp' H') (hw:Wf H) {v:List AV} {u:List Value} (h:fB E.ρ H.get (E.O hp) v u):fB E'.ρ H'.get (E'.O hp') v u:=h.mono e.zM (e.keep hw)
theorem Ext.br (e:Ext base E hp H E' hp' H') (hw:Wf H) {b:AB} {b':bz} (h:BR E.ρ H.get (E.O hp) b b'):BR E'.ρ H'.get (E'.O hp') b b':=by
 cases b with
 | cells cs es aE=>obtain ⟨cs',rfl,h⟩:=h;exact ⟨cs',rfl,e.C4 hw h⟩
 | dL s p=>exact h
 | map ents clock =>obtain ⟨es,rfl,h1,h2⟩:=h;exact ⟨es,rfl,h1,fun i k v born x hx hy=>⟨e.ar hw (h2 i k v born x hx hy).1,e.ar hw (h2 i k v born x hx hy).2.1,(h2 i k v born x hx hy).2.2⟩⟩
 | iter j since seen stepped=>obtain ⟨m,rfl,h⟩:=h;exact ⟨m,rfl,e.zM _ _ _ h⟩
 | gone=>exact h
theorem aX.nK (h:aX E base hp aC H) {k:Nat} (ho:Own E.ρ hp k):k < H.n:=by
 obtain ⟨j,b,aE,h1,h2,h3⟩:=ho
 rcases h.gm j b aE h1 h2 with ⟨k',b',h4,h5,_⟩|⟨h4,_⟩
 ·rw [h3] at h4;cases h4;exact h.wf.lt h5
 ·rw [h3] at h4;cases h4
def cW (ρ:Nat→Nat→Option Nat) (j v k:Nat):Nat→Nat→Option Nat:=fun i w=>if i=j∧w=v then some k else ρ i w
theorem iH (ρ:Nat→Nat→Option Nat) (j v k:Nat):cW ρ j v k j v=some k:=by simp [cW]
theorem vE (ρ:Nat→Nat→Option Nat) {j v k i w:Nat} (h:¬ (i=j∧w=v)):cW ρ j v k i w=ρ i w:=if_neg h
theorem ct {b:bz} {k:Nat} (h:k < H.n):(H.push b).get k=H.get k:=by rw [Hp.ew,if_neg (by omega)]
theorem iI {b:bz}:(H.push b).get H.n=some b:=by rw [Hp.ew,if_pos rfl]
theorem bT {b:bz} {k i:Nat} (h:k ≠ i):(H.put i b).get k=H.get k:=by rw [Hp.jy,if_neg h]
theorem gX {b:bz} {i:Nat}:(H.put i b).get i=some b:=by rw [Hp.jy,if_pos rfl]
theorem aX.Fw (h:aX E base hp aC H) (b:bz):aX E base hp aC (H.push b)∧Ext base E hp H E hp (H.push b)∧¬ E.O hp H.n:=by
 have e:Ext base E hp H E hp (H.push b):=⟨Nat.le_succ _,rfl,rfl,rfl,fun _ _ _ h=>h,fun _ h=>.inl h,fun k hk _=>ct hk,Nat.min_le_left _ _⟩;refine ⟨⟨(cO.push H b).wf h.wf,fun j x aE hj hv=>?_,h.inj,fun j v k hk=>Nat.lt_succ_of_lt (h.rn j v k hk),h.fresh,h.new,h.sup,h.gW,h.dx,h.ds,fun k hk=>Nat.lt_succ_of_lt (h.sn k hk),fun k hk=>Nat.lt_succ_of_lt (h.xn k hk),h.oX,Nat.le_succ_of_le h.bn,aC.st h.aC (fun k hk=>ct (h.sn k hk)) (Nat.le_succ _)⟩,e,fun ho=>?_⟩
 ·rcases h.gm j x aE hj hv with ⟨k,b',h1,h2,h3⟩|h1
  ·exact .inl ⟨k,b',h1,by rw [ct (h.wf.lt h2)];exact h2,e.br h.wf h3⟩
  ·exact .inr h1
 ·rcases ho with ho|ho
  ·have:=h.nK ho;omega
  ·have:=h.xn _ ho;omega
theorem aX.push (h:aX E base hp aC H) {a:AB} {b:bz} (hv:a.ver?=some 0)
  (hb:∀ E' H',E'={E with ρ:=cW E.ρ hp.length 0 H.n}→H'=H.push b→Ext base E hp H E' (hp++[a]) H'→BR E'.ρ H'.get (E'.O (hp++[a])) a b) :
  ∃ E',E'={E with ρ:=cW E.ρ hp.length 0 H.n}∧aX E' base (hp++[a]) aC (H.push b)∧Ext base E hp H E' (hp++[a]) (H.push b)∧E'.ρ hp.length 0=some H.n:=by
 have hold:∀ j v,j ≠ hp.length→cW E.ρ hp.length 0 H.n j v=E.ρ j v:=fun j v hj=>vE _ (fun h=>hj h.1)
 have hget:∀ (j:Nat) (x:AB),(hp++[a])[j]?=some x→(j < hp.length∧hp[j]?=some x)∨(j=hp.length∧x=a):=by
  intro j x hj;by_cases hlt:j < hp.length
  ·rw [List.getElem?_append_left hlt] at hj;exact .inl ⟨hlt,hj⟩
  ·rw [List.getElem?_append_right (by omega)] at hj;have:j - hp.length=0:=by apply Nat.eq_zero_of_not_pos;intro hp0;rw [List.getElem?_eq_none (by simp;omega)] at hj;cases hj
   rw [this] at hj;cases hj;exact .inr ⟨by omega,rfl⟩
 have hown:∀ k,Own (cW E.ρ hp.length 0 H.n) (hp++[a]) k→Own E.ρ hp k∨k=H.n:=by
  rintro k ⟨j,x,aE,h1,h2,h3⟩
  rcases hget j x h1 with ⟨hlt,h1⟩|⟨rfl,rfl⟩
  ·rw [hold j aE (by omega)] at h3;exact .inl ⟨j,x,aE,h1,h2,h3⟩
  ·rw [hv] at h2;cases h2;rw [iH] at h3;cases h3;exact .inr rfl
 have hownr:∀ k,Own E.ρ hp k→Own (cW E.ρ hp.length 0 H.n) (hp++[a]) k:=by rintro k ⟨j,x,aE,h1,h2,h3⟩;have hlt:j < hp.length:=(List.getElem?_eq_some_iff.1 h1).1;exact ⟨j,x,aE,by rw [List.getElem?_append_left hlt];exact h1,h2,by rw [hold j aE (by omega)];exact h3⟩
 have e:Ext base E hp H {E with ρ:=cW E.ρ hp.length 0 H.n} (hp++[a]) (H.push b):=by refine ⟨Nat.le_succ _,rfl,rfl,rfl,fun j v k hk=>?_,fun k hk=>(hown k hk).imp id (fun h=>by omega),fun k hk _=>ct hk,Nat.min_le_left _ _⟩;show cW _ _ _ _ j v=_;rw [hold j v (fun hj=>by subst hj;rw [h.new _ v (qq6 _)] at hk;cases hk)];exact hk
 refine ⟨_,rfl,⟨(cO.push H b).wf h.wf,fun j x aE hj hvx=>?_,fun j j' aE ver' k h1 h2=>?_,fun j v k hk=>?_,fun j x aE v h1 h2 h3=>?_,fun j v hj=>?_,fun k hk=>?_,fun k hk=>?_,h.dx,h.ds,fun k hk=>Nat.lt_succ_of_lt (h.sn k hk),fun k hk=>Nat.lt_succ_of_lt (h.xn k hk),fun k hk=>?_,Nat.le_succ_of_le h.bn,aC.st h.aC (fun k hk=>ct (h.sn k hk)) (Nat.le_succ _)⟩,e,iH _ _ _ _⟩
 ·rcases hget j x hj with ⟨hlt,h1⟩|⟨rfl,rfl⟩
  ·rcases h.gm j x aE h1 hvx with ⟨k,b',q1,q2,q3⟩|⟨q1,q2⟩
   ·exact .inl ⟨k,b',by show cW _ _ _ _ _ _=_;rw [hold j aE (by omega)];exact q1,by rw [ct (h.wf.lt q2)];exact q2,e.br h.wf q3⟩
   ·exact .inr ⟨by show cW _ _ _ _ _ _=_;rw [hold j aE (by omega)];exact q1,q2⟩
  ·rw [hv] at hvx;cases hvx;exact .inl ⟨H.n,b,iH _ _ _ _,iI,hb _ _ rfl rfl e⟩
 ·have key:∀ (j aE:Nat),cW E.ρ hp.length 0 H.n j aE=some k→(E.ρ j aE=some k∧k < H.n)∨(j=hp.length∧k=H.n):=by
   intro j aE q;unfold cW at q;split at q
   ·rename_i hc;cases q;exact .inr ⟨hc.1,rfl⟩
   ·exact .inl ⟨q,h.rn _ _ _ q⟩
  rcases key j aE h1 with ⟨a1,a2⟩|⟨a1,a2⟩
  ·rcases key j' ver' h2 with ⟨b1,b2⟩|⟨b1,b2⟩
   ·exact h.inj j j' aE ver' k a1 b1
   ·omega
  ·rcases key j' ver' h2 with ⟨b1,b2⟩|⟨b1,b2⟩
   ·omega
   ·omega
 ·have hk:cW E.ρ hp.length 0 H.n j v=some k:=hk;unfold cW at hk;show k < H.n+1;split at hk
  ·cases hk;omega
  ·have:=h.rn _ _ _ hk;omega
 ·rcases hget j x h1 with ⟨hlt,q1⟩|⟨rfl,rfl⟩
  ·show cW _ _ _ _ _ _=_;rw [hold j v (by omega)];exact h.fresh j x aE v q1 h2 h3
  ·show cW _ _ _ _ _ _=_;rw [vE _ (by omega)];exact h.new _ _ (qq6 _)
 ·show cW _ _ _ _ _ _=_;simp only [List.length_append,List.length_cons,List.length_nil] at hj;rw [hold j v (by omega)];exact h.new j v (by omega)
 ·rcases hown k hk with hk|rfl
  ·exact h.sup k hk
  ·exact fun hs=>by have:=h.sn _ hs;omega
 ·rcases hown k hk with hk|rfl
  ·exact h.gW k hk
  ·exact fun hs=>by have:=h.xn _ hs;omega
 ·rcases hk with hk|hk
  ·rcases hown k hk with hk|rfl
   ·exact h.oX k (.inl hk)
   ·exact h.bn
  ·exact h.oX k (.inr hk)
theorem aX.put (h:aX E base hp aC H) {j aE k:Nat} {a0 a:AB} {b:bz} (hj:hp[j]?=some a0) (hv0:a0.ver?=some aE) (hv:a.ver?=some aE) (hk:E.ρ j aE=some k)
  (hb:BR E.ρ H.get (E.O hp) a b) :
  aX E base (hp.set j a) aC (H.put k b)∧Ext base E hp H E (hp.set j a) (H.put k b):=by
 have hlt:j < hp.length:=(List.getElem?_eq_some_iff.1 hj).1;have hok:Own E.ρ hp k:=⟨j,a0,aE,hj,hv0,hk⟩;have hkn:=h.nK hok
 have hget:∀ (i:Nat) (x:AB),(hp.set j a)[i]?=some x→(i ≠ j∧hp[i]?=some x)∨(i=j∧x=a):=by
  intro i x hi;by_cases hij:i=j
  ·subst hij;rw [List.getElem?_set_self hlt] at hi;cases hi;exact .inr ⟨rfl,rfl⟩
  ·rw [List.getElem?_set_ne (Ne.symm hij)] at hi;exact .inl ⟨hij,hi⟩
 have hown:∀ k',Own E.ρ (hp.set j a) k'→Own E.ρ hp k':=by
  rintro k' ⟨i,x,v,h1,h2,h3⟩
  rcases hget i x h1 with ⟨hij,h1⟩|⟨rfl,rfl⟩
  ·exact ⟨i,x,v,h1,h2,h3⟩
  ·rw [hv] at h2;cases h2;exact ⟨_,a0,_,hj,hv0,h3⟩
 have hbase:=h.oX k (.inl hok);have e:Ext base E hp H E (hp.set j a) (H.put k b):=by refine ⟨qq6 _,rfl,rfl,rfl,fun _ _ _ h=>h,fun k' h'=>.inl (hown k' h'),fun k' _ hn=>bT (fun e=>hn (e ▸ hok)),?_⟩;show _≤min H.lo k;omega
 have hwf:Wf (H.put k b):=fun i hi=>by rw [bT (by have:H.n≤i:=hi;omega)];exact h.wf i hi
 refine ⟨⟨hwf,fun i x v hi hvx=>?_,h.inj,h.rn,fun i x v w h1 h2 h3=>?_,fun i v hi=>h.new i v (by simpa using hi),fun k' hk'=>h.sup k' (hown k' hk'),fun k' hk'=>h.gW k' (hown k' hk'),h.dx,h.ds,h.sn,h.xn,fun k' hk'=>h.oX k' (hk'.imp (hown k') id),h.bn,aC.st h.aC (fun k' hs=>bT (fun e=>h.sup k hok (e ▸ hs))) (qq6 _)⟩,e⟩
 ·rcases hget i x hi with ⟨hij,h1⟩|⟨rfl,rfl⟩
  ·rcases h.gm i x v h1 hvx with ⟨k',b',q1,q2,q3⟩|q
   ·refine .inl ⟨k',b',q1,?_,e.br h.wf q3⟩;rw [bT (fun e=>hij (h.inj i j v aE k' q1 (by rw [hk,e])))];exact q2
   ·exact .inr q
  ·rw [hv] at hvx;cases hvx;exact .inl ⟨k,b,hk,gX,e.br h.wf hb⟩
 ·rcases hget i x h1 with ⟨hij,q1⟩|⟨rfl,rfl⟩
  ·exact h.fresh i x v w q1 h2 h3
  ·rw [hv] at h2;cases h2;exact h.fresh _ a0 _ w hj hv0 h3
theorem aX.renew (h:aX E base hp aC H) {j aE:Nat} {a0 a:AB} {H1:Hp} {b:bz} (hj:hp[j]?=some a0) (hv0:a0.ver?=some aE) (hv:a.ver?=some (aE+1))
  (h1:H1=H∨∃ k,E.ρ j aE=some k∧H1=H.put k .dead)
  (hb:∀ E' H',E'={E with ρ:=cW E.ρ j (aE+1) H.n}→H'=H1.push b→Ext base E hp H E' (hp.set j a) H'→BR E'.ρ H'.get (E'.O (hp.set j a)) a b) :
  ∃ E',E'={E with ρ:=cW E.ρ j (aE+1) H.n}∧aX E' base (hp.set j a) aC (H1.push b)∧Ext base E hp H E' (hp.set j a) (H1.push b)∧E'.ρ j (aE+1)=some H.n:=by
 have hlt:j < hp.length:=(List.getElem?_eq_some_iff.1 hj).1
 have hn1:H1.n=H.n:=by rcases h1 with rfl|⟨k,_,rfl⟩ <;> rfl
 have hw1:Wf H1:=by
  rcases h1 with rfl|⟨k,hk,rfl⟩
  ·exact h.wf
  ·have:=h.nK ⟨j,a0,aE,hj,hv0,hk⟩;exact fun i hi=>by have:H.n≤i:=hi;rw [bT (by omega)];exact h.wf i hi
 have hg1:∀ k,¬ E.ρ j aE=some k→H1.get k=H.get k:=by
  intro k hk
  rcases h1 with rfl|⟨k',hk',rfl⟩
  ·rfl
  ·exact bT (fun e=>hk (e ▸ hk'))
 have hnone:E.ρ j (aE+1)=none:=h.fresh j a0 aE _ hj hv0 (Nat.lt_succ_self _);have hold:∀ i v,¬ (i=j∧v=aE+1)→cW E.ρ j (aE+1) H.n i v=E.ρ i v:=fun i v hne=>vE _ hne
 have hget:∀ (i:Nat) (x:AB),(hp.set j a)[i]?=some x→(i ≠ j∧hp[i]?=some x)∨(i=j∧x=a):=by
  intro i x hi;by_cases hij:i=j
  ·subst hij;rw [List.getElem?_set_self hlt] at hi;cases hi;exact .inr ⟨rfl,rfl⟩
  ·rw [List.getElem?_set_ne (Ne.symm hij)] at hi;exact .inl ⟨hij,hi⟩
 have hown:∀ k,Own (cW E.ρ j (aE+1) H.n) (hp.set j a) k→(Own E.ρ hp k∧¬ E.ρ j aE=some k)∨k=H.n:=by
  rintro k ⟨i,x,v,q1,q2,q3⟩
  rcases hget i x q1 with ⟨hij,q1⟩|⟨rfl,rfl⟩
  ·rw [hold i v (fun e=>hij e.1)] at q3;exact .inl ⟨⟨i,x,v,q1,q2,q3⟩,fun e=>hij (h.inj i j v aE k q3 e)⟩
  ·rw [hv] at q2;cases q2;rw [iH] at q3;cases q3;exact .inr rfl
 have e:Ext base E hp H {E with ρ:=cW E.ρ j (aE+1) H.n} (hp.set j a) (H1.push b):=by
  refine ⟨by show H.n≤H1.n+1;omega,rfl,rfl,rfl,fun i v k hk=>?_,fun k hk=>(hown k hk).imp And.left (fun h=>by omega),fun k hk hn=>?_,?_⟩
  ·show cW _ _ _ _ _ _=_;rw [hold i v (fun e=>by rw [e.1,e.2,hnone] at hk;cases hk)];exact hk
  ·rw [ct (by omega),hg1 k (fun e=>hn ⟨j,a0,aE,hj,hv0,e⟩)]
  ·show _≤H1.lo
   rcases h1 with rfl|⟨k,hk,rfl⟩
   ·exact Nat.min_le_left _ _
   ·have:=h.oX k (.inl ⟨j,a0,aE,hj,hv0,hk⟩);show _≤min H.lo k;omega
 refine ⟨_,rfl,⟨(cO.push H1 b).wf hw1,fun i x v hi hvx=>?_,fun i i' v v' k q1 q2=>?_,fun i v k hk=>?_,fun i x v w q1 q2 q3=>?_,fun i v hi=>?_,fun k hk=>?_,fun k hk=>?_,h.dx,h.ds,fun k hk=>?_,fun k hk=>?_,fun k hk=>?_,?_,aC.st h.aC (fun k hk=>?_) (by rw [←hn1];exact Nat.le_succ _)⟩,e,iH _ _ _ _⟩
 ·rcases hget i x hi with ⟨hij,q⟩|⟨rfl,rfl⟩
  ·rcases h.gm i x v q hvx with ⟨k,b',q1,q2,q3⟩|⟨q1,q2⟩
   ·refine .inl ⟨k,b',by show cW _ _ _ _ _ _=_;rw [hold i v (fun e=>hij e.1)];exact q1,?_,e.br h.wf q3⟩;rw [ct (by rw [hn1];exact h.wf.lt q2),hg1 k (fun e=>hij (h.inj i j v aE k q1 e))];exact q2
   ·exact .inr ⟨by show cW _ _ _ _ _ _=_;rw [hold i v (fun e=>hij e.1)];exact q1,q2⟩
  ·rw [hv] at hvx;cases hvx;refine .inl ⟨H.n,b,iH _ _ _ _,?_,hb _ _ rfl rfl e⟩;rw [←hn1];exact iI
 ·have key:∀ (i v:Nat),cW E.ρ j (aE+1) H.n i v=some k→(E.ρ i v=some k∧k < H.n)∨(i=j∧k=H.n):=by
   intro i v q;unfold cW at q;split at q
   ·rename_i hc;cases q;exact .inr ⟨hc.1,rfl⟩
   ·exact .inl ⟨q,h.rn _ _ _ q⟩
  rcases key i v q1 with ⟨a1,a2⟩|⟨a1,a2⟩
  ·rcases key i' v' q2 with ⟨b1,b2⟩|⟨b1,b2⟩
   ·exact h.inj i i' v v' k a1 b1
   ·omega
  ·rcases key i' v' q2 with ⟨b1,b2⟩|⟨b1,b2⟩
   ·omega
   ·omega
 ·have hk:cW E.ρ j (aE+1) H.n i v=some k:=hk;unfold cW at hk;show k < H1.n+1;split at hk
  ·cases hk;omega
  ·have:=h.rn _ _ _ hk;omega
 ·rcases hget i x q1 with ⟨hij,r1⟩|⟨rfl,rfl⟩
  ·show cW _ _ _ _ _ _=_;rw [hold i w (fun e=>hij e.1)];exact h.fresh i x v w r1 q2 q3
  ·rw [hv] at q2;cases q2;show cW _ _ _ _ _ _=_;rw [hold _ w (by omega)];exact h.fresh _ a0 _ w hj hv0 (by omega)
 ·show cW _ _ _ _ _ _=_;simp only [List.length_set] at hi;rw [hold i v (by omega)];exact h.new i v hi
 ·rcases hown k hk with hk|rfl
  ·exact h.sup k hk.1
  ·exact fun hs=>by have:=h.sn _ hs;omega
 ·rcases hown k hk with hk|rfl
  ·exact h.gW k hk.1
  ·exact fun hs=>by have:=h.xn _ hs;omega
 ·have:=h.sn k hk;show k < H1.n+1;omega
 ·have:=h.xn k hk;show k < H1.n+1;omega
 ·rcases hk with hk|hk
  ·rcases hown k hk with hk|rfl
   ·exact h.oX k (.inl hk.1)
   ·exact h.bn
  ·exact h.oX k (.inr hk)
 ·have:=h.bn;show base≤H1.n+1;omega
 ·have hkn:=h.sn k hk;rw [ct (by omega),hg1 k (fun e'=>h.sup k ⟨j,a0,aE,hj,hv0,e'⟩ hk)]
end
end Go.RM
namespace Go.RM
open Go
def qL (v:Value):AV :=
 match v with
 | .agg cs=>.ag (cs.toList.map .fl)
 | .tuple _=>.tp []
 | v=>.fl v
def bh (fr:Nat→AV):Operand→AV
 | .tmp t=>fr t
 | .const v=>bif flat v then qL v else .cA
 | .func f=>.fn f [] []
 | .global _=>.cA
section
variable {T : bC} {base : Nat} {E E' : Env} {hp hp' : List AB} {aC : bJ} {H H' : Hp} {ρ : Nat → Nat → Option Nat} {g : aG} {O : Nat → Prop}
theorem kP {v:Value} (h:flat v=true):AR ρ g O (qL v) v:=by
 unfold qL;split
 ·simp only [flat] at h;have:=fB.yW (ρ:=ρ) (g:=g) (O:=O) h;exact .ag this.1 this.2
 ·rename_i cs;simp only [flat,List.isEmpty_iff] at h;exact .tp (by rw [h];rfl) (fun i x u hx=>by cases hx)
 ·rename_i h1 h2;refine .d (.fl ?_);unfold flat at h;split at h
  ·exact absurd rfl (h1 _)
  ·exact absurd rfl (h2 _)
  ·exact h
def lQ (ρ:Nat→Nat→Option Nat) (g:aG) (O:Nat→Prop) (fr:Nat→AV) (tm:Tr Value):Prop:=∀ t,AR ρ g O (fr t) ((tm.get t).getD undef)
theorem ji {fr:Nat→AV} {tm:Tr Value} (h:lQ ρ g O fr tm) (x:Operand):AR ρ g O (bh fr x) (aY tm x):=by
 cases x with
 | tmp t=>exact h t
 | const v =>
  show AR ρ g O (bif flat v then qL v else .cA) v
  cases hf:flat v with
  | true=>exact kP hf
  | false=>exact .cA
 | global g=>exact .cA
 | func f=>exact .fn rfl rfl (fun i x u hx=>by cases hx) (fun i x u hx=>by cases hx)
def dc (base:Nat) (E:Env) (hp:List AB) (aC:bJ) (H:Hp) (r:Option (Value × bY)) (K:AV→List AB→Prop):Prop :=
 ∃ u e E' a hp',r=some (u,e)∧K a hp'∧aX E' base hp' aC (H.app e)∧Ext base E hp H E' hp' (H.app e)∧AR E'.ρ (H.app e).get (E'.O hp') a u
theorem dc.pure {K:AV→List AB→Prop} (h:aX E base hp aC H) {u:Value} {a:AV} (ha:AR E.ρ H.get (E.O hp) a u) (hk:K a hp):dc base E hp aC H (some (u,.none)) K :=
 ⟨u,.none,E,a,hp,rfl,hk,h,.refl,ha⟩
theorem dc.uq {K:AV→List AB→Prop} (h:aX E base hp aC H) {u:Value} {a:AV} {b:bz}
  (ha:Ext base E hp H E hp (H.push b)→(H.push b).get H.n=some b→¬ E.O hp H.n→AR E.ρ (H.push b).get (E.O hp) a u) (hk:K a hp):dc base E hp aC H (some (u,.new b)) K:=by
 obtain ⟨h1,h2,h3⟩:=h.Fw b;exact ⟨u,.new b,E,a,hp,rfl,hk,h1,h2,ha h2 iI h3⟩
theorem dc.new {K:AV→List AB→Prop} (h:aX E base hp aC H) {u:Value} {a:AV} {x:AB} {b:bz} (hv:x.ver?=some 0)
  (hb:∀ E' H',Ext base E hp H E' (hp++[x]) H'→BR E'.ρ H'.get (E'.O (hp++[x])) x b)
  (ha:∀ E':Env,E'.ρ hp.length 0=some H.n→AR E'.ρ (H.push b).get (E'.O (hp++[x])) a u) (hk:K a (hp++[x])):dc base E hp aC H (some (u,.new b)) K:=by
 obtain ⟨E',_,h1,h2,h3⟩:=h.push hv (b:=b) (fun E' H' _ _ e=>hb E' H' e);exact ⟨u,.new b,E',a,hp++[x],rfl,hk,h1,h2,ha E' h3⟩
def AQ (agg:Bool) (cs:List AV) (o s:Nat) (K:AV→Prop):Prop :=
 match agg with
 | true=>o+s≤cs.length∧K (.ag ((cs.drop o).take s))
 | false=>∃ v,cs[o]?=some v∧K v
def fC (T:bC) (t:TypeId) (a:AV) (hp:List AB) (K:AV→List AB→Prop):Prop :=
 match a,T.ty.get t with
 | .pt cs o,some ⟨_,s,_,_,agg,_,_⟩=>AQ agg cs o s fun v=>K v hp
 | .ptr j aE o,some ⟨_,s,_,_,agg,_,_⟩=>∃ cs es,hp[j]?=some (.cells cs es aE)∧AQ agg cs o s fun v=>K v hp
 | _,_=>False
theorem mH {cs:List Value} {o n:Nat} (h:o+n≤cs.length):cut cs o n=some ((cs.drop o).take n):=by unfold cut;rw [show Nat.ble (o+n) cs.length=true from Nat.ble_eq_true_of_le h];rfl
theorem DR.cF {l:List AV} {o:Nat} {u:Value} (h:DR g O (.pt l o) u):∃ k d cs own e,u=.pointer (some ⟨k,d+o,none⟩)∧g k=some (.cells cs own e)∧¬ O k∧d+l.length≤cs.length∧∀ (i:Nat) (a:AV) (u:Value),l[i]?=some a→cs[d+i]?=some u→DR g O a u:=by
 cases h with
 | pt h1 h2 h3 h4=>exact ⟨_,_,_,_,_,rfl,h1,h2,h3,h4⟩
theorem AR.cF {l:List AV} {o:Nat} {u:Value} (h:AR ρ g O (.pt l o) u):DR g O (.pt l o) u:=h.deep rfl
theorem AR.iJ {l:List (List AV)} {f:Bool} {u:Value} (h:AR ρ g O (.sl l f) u):DR g O (.sl l f) u:=h.deep rfl
theorem AR.cX {j aE o:Nat} {u:Value} (h:AR ρ g O (.ptr j aE o) u):∃ k,ρ j aE=some k∧u=.pointer (some ⟨k,o,none⟩):=by
 cases h with
 | d h=>cases h
 | ptr h=>exact ⟨_,h,rfl⟩
theorem AR.dW {j aE o n c:Nat} {u:Value} (h:AR ρ g O (.aL j aE o n c) u):(∃ k,ρ j aE=some k∧u=.slice (some ⟨k,o,none⟩) n c)∨(o=0∧n=0∧u=.slice none 0 0):=by
 cases h with
 | d h=>cases h
 | aL h=>exact .inl ⟨_,h,rfl⟩
 | qK=>exact .inr ⟨rfl,rfl,rfl⟩
theorem AR.og {j aE o n c:Nat} (h:AR ρ g O (.aL j aE o n c) (.slice none 0 0)):c≤2:=by
 cases h with
 | d h=>cases h
 | qK hc=>exact hc
theorem aX.cells (h:aX E base hp aC H) {j aE k es:Nat} {cs:List AV} (hj:hp[j]?=some (.cells cs es aE)) (hk:E.ρ j aE=some k):∃ cs',H.get k=some (.cells cs' true es)∧fB E.ρ H.get (E.O hp) cs cs':=by
 rcases h.gm j _ aE hj rfl with ⟨k',b',h1,h2,h3⟩|⟨h1,_⟩
 ·rw [hk] at h1;cases h1;obtain ⟨cs',rfl,h4⟩:=h3;exact ⟨cs',h2,h4⟩
 ·rw [hk] at h1;cases h1
theorem kQ {agg:Bool} {cs:List AV} {cs':List Value} {o d s:Nat} {K:AV→Prop} (h:∀ (i:Nat) (a:AV) (u:Value),cs[i]?=some a→cs'[d+i]?=some u→AR ρ g O a u) (hlen:d+cs.length≤cs'.length) (hw:AQ agg cs o s K) :
  ∃ u a,(bif agg then (cut cs' (d+o) s).map fun c=>((.agg c.toArray:Value),bY.none) else (cs'[d+o]?).map fun v=>(v,bY.none))=some (u,.none)∧K a∧AR ρ g O a u:=by
 unfold AQ at hw
 cases agg with
 | true =>
  obtain ⟨h1,h2⟩:=hw;refine ⟨.agg ((cs'.drop (d+o)).take s).toArray,_,by rw [mH (by omega)];rfl,h2,.ag ?_ ?_⟩
  ·simp;omega
  ·intro i x u hx hu;simp only [List.getElem?_take,List.getElem?_drop] at hx hu;split at hx
   ·rw [if_pos (by assumption)] at hu;exact h _ x u hx (by rw [←Nat.add_assoc];exact hu)
   ·cases hx
 | false =>obtain ⟨v,h1,h2⟩:=hw;have hlt:=(List.getElem?_eq_some_iff.1 h1).1;have hc:cs'[d+o]?=some (cs'[d+o]'(by omega)):=List.getElem?_eq_getElem _;exact ⟨_,v,by rw [hc];rfl,h2,h o v _ h1 hc⟩
theorem yX (h:aX E base hp aC H) {t:TypeId} {a:AV} {u:Value} (ha:AR E.ρ H.get (E.O hp) a u) {K:AV→List AB→Prop} (hw:fC T t a hp K):dc base E hp aC H (gO T t u H.get) K:=by
 unfold fC at hw;split at hw
 ·rename_i cs o jH s bytes zero agg cu cD hty;obtain ⟨k,d,cs',own,e,rfl,h1,h2,h3,h4⟩:=ha.cF.cF;unfold gO addr?;simp only [h1,cells?,hty];obtain ⟨u,a,e1,e2,e3⟩:=kQ (ρ:=E.ρ) (fun i a u x y=>.d (h4 i a u x y)) h3 hw;rw [e1];exact .pure h e3 e2
 ·rename_i j aE o jH s bytes zero agg cu cD hty;obtain ⟨cs,es,h1,h2⟩:=hw;obtain ⟨k,hk,rfl⟩:=ha.cX;obtain ⟨cs',h3,h4⟩:=h.cells h1 hk;unfold gO addr?;simp only [h3,cells?,hty];obtain ⟨u,a,e1,e2,e3⟩:=kQ (d:=0) (fun i a u x y=>h4.2 i a u x (by rw [Nat.zero_add] at y;exact y)) (by rw [h4.1];omega) h2;rw [Nat.zero_add] at e1;rw [e1];exact .pure h e3 e2
 ·exact hw.elim
def bg (cs vs:List AV) (o:Nat):List AV:=cs.take o++vs++cs.drop (o+vs.length)
theorem fB.splice {a b:List AV} {a' b':List Value} (h:fB ρ g O a a') (k:fB ρ g O b b') (o:Nat):fB ρ g O (bg a b o) (splice a' b' o):=by unfold bg RM.splice;rw [k.1];exact ((h.take o).append k).append (h.drop _)
def aR (T:bC) (t:TypeId) (a v:AV) (hp:List AB) (K:AV→List AB→Prop):Prop :=
 match a,T.ty.get t with
 | .ptr j aE o,some ⟨_,s,_,_,_,_,_⟩=>∃ cs es,hp[j]?=some (.cells cs es aE)∧v.kg=true∧v.cells.all AV.one=true∧v.cells.length=s∧o+s≤cs.length∧K .cA (hp.set j (.cells (bg cs v.cells o) es aE))
 | _,_=>False
theorem w5 (h:aX E base hp aC H) {t:TypeId} {a v:AV} {u x:Value} (ha:AR E.ρ H.get (E.O hp) a u) (hv:AR E.ρ H.get (E.O hp) v x) {K:AV→List AB→Prop} (hw:aR T t a v hp K):dc base E hp aC H (jO T t u x H.get) K:=by
 unfold aR at hw;split at hw
 ·rename_i j aE o jH s bytes zero agg cu cD hty;obtain ⟨cs,es,h1,h2,h3,h4,h5,h6⟩:=hw;obtain ⟨k,hk,rfl⟩:=ha.cX;obtain ⟨cs',q1,q2⟩:=h.cells h1 hk;have hc:=hv.cells h2;have hone:=hc.bx h3;have e1:x.cells.toList.length=s:=by rw [←hc.1];exact h4
  unfold jO addr?;simp only [q1,cells?,hty];have e2:(true && Nat.beq x.cells.toList.length s && Nat.ble (o+s) cs'.length && x.cells.toList.all RM.bx)=true:=by rw [hone,e1];simp only [Bool.true_and,Bool.and_true,qq7];exact ⟨Nat.beq_refl s,Nat.ble_eq_true_of_le (by rw [←q2.1];exact h5)⟩
  rw [e2];simp only [cond_true];obtain ⟨p1,p2⟩:=h.put (a:=.cells (bg cs v.cells o) es aE) (b:=.cells (splice cs' x.cells.toList o) true es) h1 rfl rfl hk ⟨_,rfl,q2.splice hc o⟩;exact ⟨undef,.put k _,E,.cA,_,rfl,h6,p1,p2,.cA⟩
 ·exact hw.elim
def xO (own:Bool) (v:AV) (hp:List AB) (K:AV→List AB→Prop):Prop :=
 v.kg=true∧v.cells.all AV.one=true ∧
  match own with
  | true=>K (.ptr hp.length 0 0) (hp++[.cells v.cells 0 0])
  | false=>cV v.cells=true∧K (.pt v.cells 0) hp
theorem AS (h:aX E base hp aC H) {own:Bool} {v:AV} {x:Value} (hv:AR E.ρ H.get (E.O hp) v x) {K:AV→List AB→Prop} (hw:xO own v hp K):dc base E hp aC H (DG H.n x) K:=by
 obtain ⟨h1,h2,h3⟩:=hw;have hc:=hv.cells h1;unfold DG;rw [hc.bx h2];simp only [cond_true]
 cases own with
 | true =>exact .new h (x:=.cells v.cells 0 0) rfl (fun E' H' e=>⟨_,rfl,e.C4 h.wf hc⟩) (fun E' hr=>.ptr hr) h3
 | false =>obtain ⟨h3,h4⟩:=h3;refine .uq h (fun e hg hO=>.d (.pt (d:=0) (o:=0) hg hO (by rw [hc.1];omega) fun i a u ha hu=>?_)) h4;rw [Nat.zero_add] at hu;exact e.dr h.wf ((hc.deep h3).2 i a u ha hu)
def qM (T:bC) (t:TypeId) (hp:List AB) (K:AV→List AB→Prop):Prop :=
 match T.ty.get t with
 | some ⟨_,_,_,some z,_,_,_⟩=>z.cells.toList.all bf=true∧K (.ptr hp.length 0 0) (hp++[.cells (z.cells.toList.map .fl) 0 0])
 | _=>False
theorem w6 (h:aX E base hp aC H) {t:TypeId} {K:AV→List AB→Prop} (hw:qM T t hp K):dc base E hp aC H (rI T H.n t) K:=by
 unfold qM at hw;split at hw
 ·rename_i jH s bytes z agg cu cD hty;obtain ⟨h1,h2⟩:=hw;unfold rI;simp only [hty,h1,cond_true];exact .new h (x:=.cells (z.cells.toList.map .fl) 0 0) rfl (fun E' H' e=>⟨_,rfl,.yW h1⟩) (fun E' hr=>.ptr hr) h2
 ·exact hw.elim
def jC (T:bC) (t:TypeId) (a:AV) (i:Nat) (hp:List AB) (K:AV→List AB→Prop):Prop :=
 match a,T.ty.get t with
 | .pt cs o,some ⟨.struct _,_,_,_,_,cu,_⟩=>∃ off s,cu[i]?=some (off,s)∧1≤s∧K (.pt cs (o+off)) hp
 | .ptr j aE o,some ⟨.struct _,_,_,_,_,cu,_⟩=>∃ off s,cu[i]?=some (off,s)∧1≤s∧K (.ptr j aE (o+off)) hp
 | _,_=>False
theorem w7 (h:aX E base hp aC H) {t:TypeId} {a:AV} {i:Nat} {u:Value} (ha:AR E.ρ H.get (E.O hp) a u) {K:AV→List AB→Prop} (hw:jC T t a i hp K):dc base E hp aC H (dM T t u i) K:=by
 unfold jC at hw;split at hw
 ·rename_i cs o fs s bytes z agg cu cD hty;obtain ⟨off,s',h1,h2,h3⟩:=hw;obtain ⟨k,d,cs',own,e,rfl,q1,q2,q3,q4⟩:=ha.cF.cF;unfold dM addr?;simp only [hty,h1,Nat.ble_eq_true_of_le h2,cond_true];refine .pure h (a:=.pt cs (o+off)) ?_ h3;unfold ptr;rw [Nat.add_assoc];exact .d (.pt q1 q2 q3 q4)
 ·rename_i j aE o fs s bytes z agg cu cD hty;obtain ⟨off,s',h1,h2,h3⟩:=hw;obtain ⟨k,hk,rfl⟩:=ha.cX;unfold dM addr?;simp only [hty,h1,Nat.ble_eq_true_of_le h2,cond_true];exact .pure h (.ptr hk) h3
 ·exact hw.elim
def asInt:AV→Option Int
 | .fl (.int _ n)=>some n
 | _=>none
def cC (T:bC) (t:TypeId) (a ix:AV) (hp:List AB) (K:AV→List AB→Prop):Prop :=
 match asInt ix,T.ty.get t with
 | some j,some ⟨.array len _,_,_,_,_,_,cD⟩=>(0≤j∧j < (len:Int)) ∧
  match a with
  | .pt cs o=>K (.pt cs (o+j.toNat * cD)) hp
  | .ptr i aE o=>K (.ptr i aE (o+j.toNat * cD)) hp
  | _=>False
 | some j,some ⟨.slice _,_,_,_,_,_,cD⟩ =>
  match a with
  | .sl els _=>∃ el,(0≤j∧els[j.toNat]?=some el)∧el.length=cD∧K (.pt el 0) hp
  | .aL i aE o n _=>(0≤j∧j < (n:Int))∧K (.ptr i aE (o+j.toNat * cD)) hp
  | _=>False
 | _,_=>False
theorem kR {cD k o len:Nat} {j:Int} (h:0≤j∧j < (len:Int)):oD cD k o len j=some (ptr k (o+j.toNat * cD),.none):=by unfold oD;have e:Int.ofNat len=(len:Int):=rfl;rw [l9,nk,e,decide_eq_true h.1,decide_eq_true h.2];rfl
theorem iK {a:AV} {n:Int} {u:Value} (h:asInt a=some n) (ha:AR ρ g O a u):intOf? u=some n:=by
 unfold asInt at h;split at h
 ·cases h;rw [ha.eU.1];rfl
 ·cases h
theorem qN (h:aX E base hp aC H) {t:TypeId} {a ix:AV} {u x:Value} (ha:AR E.ρ H.get (E.O hp) a u) (hx:AR E.ρ H.get (E.O hp) ix x) {K:AV→List AB→Prop} (hw:cC T t a ix hp K):dc base E hp aC H (dN T t u x) K:=by
 unfold cC at hw;split at hw
 ·rename_i j len el s bytes z agg cu cD hj hty;have hix:=iK hj hx;obtain ⟨h0,hw⟩:=hw;unfold dN;simp only [hix,hty];split at hw
  ·obtain ⟨k,d,cs',own,e,rfl,q1,q2,q3,q4⟩:=ha.cF.cF;simp only [addr?];rw [kR h0];refine .pure h ?_ hw;unfold ptr;rw [Nat.add_assoc];exact .d (.pt q1 q2 q3 q4)
  ·obtain ⟨k,hk,rfl⟩:=ha.cX;simp only [addr?];rw [kR h0];exact .pure h (.ptr hk) hw
  ·exact hw.elim
 ·rename_i j el s bytes z agg cu cD hj hty;have hix:=iK hj hx;unfold dN;simp only [hix,hty];split at hw
  ·rename_i els f;obtain ⟨el,⟨h0,h1⟩,h2,h3⟩:=hw
   cases ha.iJ with
   | nil=>cases h1
   | sl q1 q2 q3 q4 q5 q6 q7 =>
    rename_i k o n c es cs own e;have hlt:j.toNat < els.length:=(List.getElem?_eq_some_iff.1 h1).1;have hes:es=cD:=by rw [←q5 _ _ h1,h2]
    subst hes;show dc base E hp aC H (oD es k o n j) K;rw [kR ⟨h0,by omega⟩];have hle:(j.toNat+1) * es≤n * es:=Nat.mul_le_mul_right _ (by omega);rw [Nat.add_mul,Nat.one_mul] at hle;refine .pure h (.d (.pt (d:=o+j.toNat * es) (o:=0) q1 q2 (by rw [h2];omega) fun i a u hi hu=>?_)) h3;exact q6 _ _ i a u h1 hi hu
  ·rename_i i aE o n c;obtain ⟨h0,h1⟩:=hw
   rcases ha.dW with ⟨k,hk,rfl⟩|⟨rfl,rfl,rfl⟩
   ·show dc base E hp aC H (oD cD k o n j) K;rw [kR h0];exact .pure h (.ptr hk) h1
   ·omega
  ·exact hw.elim
 ·exact hw.elim
def Cj:List AV→Option (List Value)
 | []=>some []
 | .fl v :: l=>(Cj l).map (v :: ·)
 | _=>none
theorem oh:∀ {cs:List AV} {l:List Value},Cj cs=some l→cs=l.map AV.fl
 | [],l,h=>by cases h;rfl
 | .fl v :: cs,l,h=>by simp only [Cj,Option.map_eq_some_iff] at h;obtain ⟨m,hm,rfl⟩:=h;rw [oh hm];rfl
 | .sl _ _ :: _,_,h|.pt _ _ :: _,_,h|.fn _ _ _ :: _,_,h|.ag _ :: _,_,h|.tp _ :: _,_,h|.ptr _ _ _ :: _,_,h|.aL _ _ _ _ _ :: _,_,h|.om _ :: _,_,h|.oq _ :: _,_,h|.cA :: _,_,h=>by simp [Cj] at h
def AV.fV:AV→Option Value
 | .fl v=>some v
 | .ag cs=>(Cj cs).map fun l=>.agg l.toArray
 | _=>none
theorem dg {a:AV} {v u:Value} (h:a.fV=some v) (ha:AR ρ g O a u):u=v∧flat v=true:=by
 unfold AV.fV at h;split at h
 ·cases h;obtain ⟨rfl,hf⟩:=ha.eU;refine ⟨rfl,?_⟩;cases u <;> first|exact hf|simp [bf] at hf
 ·rename_i cs;rw [Option.map_eq_some_iff] at h;obtain ⟨l,h1,rfl⟩:=h;have hcs:=oh h1;subst hcs
  cases ha with
  | d h=>cases h with
   | ag ha h1 =>rename_i a';obtain ⟨e1,e2⟩:=fB.eU (ρ:=ρ) (g:=g) (O:=O) (l':=a'.toList) ⟨ha,fun i a u x y=>.d (h1 i a u x y)⟩;refine ⟨by rw [←e1],?_⟩;simp only [flat];exact e2
  | ag ha h1 =>rename_i a';obtain ⟨e1,e2⟩:=fB.eU (ρ:=ρ) (g:=g) (O:=O) (l':=a'.toList) ⟨ha,h1⟩;refine ⟨by rw [←e1],?_⟩;simp only [flat];exact e2
 ·cases h
def jk (r:Option (Value × bY)) (hp:List AB) (K:AV→List AB→Prop):Prop:=∃ v,r=some (v,.none)∧flat v=true∧K (qL v) hp
theorem cK (h:aX E base hp aC H) {r:Option (Value × bY)} {K:AV→List AB→Prop} (hw:jk r hp K):dc base E hp aC H r K:=by obtain ⟨v,rfl,h2,h3⟩:=hw;exact .pure h (kP h2) h3
def aQ (T:bC) (o:BinOp) (t:TypeId) (x y:Operand) (a b:AV) (hp:List AB) (K:AV→List AB→Prop):Prop :=
 match a,b with
 | .fl (.int .i64 m),.fl (.int .i64 n) =>
  match o with
  | .add=>(-9223372036854775808≤m+n∧m+n≤9223372036854775807)∧K (.fl (.int .i64 (m+n))) hp
  | .sub=>(-9223372036854775808≤m - n∧m - n≤9223372036854775807)∧K (.fl (.int .i64 (m - n))) hp
  | .mul=>(-9223372036854775808≤m * n∧m * n≤9223372036854775807)∧K (.fl (.int .i64 (m * n))) hp
  | .eql=>K (.fl (.bool (decide (m=n)))) hp
  | .neq=>K (.fl (.bool (!decide (m=n)))) hp
  | .lss=>K (.fl (.bool (decide (m < n)))) hp
  | .leq=>K (.fl (.bool (decide (m≤n)))) hp
  | .gtr=>K (.fl (.bool (decide (n < m)))) hp
  | .geq=>K (.fl (.bool (decide (n≤m)))) hp
  | _=>jk (dF T.P o t x y (.int .i64 m) (.int .i64 n)) hp K
 | .sl els _,.fl (.slice none 0 0)=>els ≠ []∧jP T.P t=true∧∃ v,js o=some (v,.none)∧K (.fl v) hp
 | .aL _ _ _ m _,.fl (.slice none 0 0)=>m ≠ 0∧jP T.P t=true∧∃ v,js o=some (v,.none)∧K (.fl v) hp
 | .pt _ _,.fl (.pointer none)=>rJ T.P t=true∧∃ v,js o=some (v,.none)∧K (.fl v) hp
 | .ptr _ _ _,.fl (.pointer none)=>rJ T.P t=true∧∃ v,js o=some (v,.none)∧K (.fl v) hp
 | _,_=>∃ v w,a.fV=some v∧b.fV=some w∧jk (dF T.P o t x y v w) hp K
theorem vF {c:Int} (h:-9223372036854775808≤c∧c≤9223372036854775807):xu c=true:=by unfold xu;rw [l9,l9,qq7,decide_eq_true_iff,decide_eq_true_iff];exact ⟨by have e:Int.negSucc 9223372036854775807=-9223372036854775808:=rfl;rw [e];exact h.1,by have e:Int.ofNat 9223372036854775807=9223372036854775807:=rfl;rw [e];exact h.2⟩
theorem HD (a b:Int):Hl a b=decide (a=b):=by
 cases h:Hl a b with
 | true=>exact (decide_eq_true (EZ h)).symm
 | false =>refine (decide_eq_false fun e=>?_).symm;subst e;cases a <;> simp [Hl] at h
theorem mI {o:BinOp} {v:Value} {e:bY} (h:js o=some (v,e)):bf v=true:=by
 unfold js at h;split at h
 ·cases h;rfl
 ·cases h;rfl
 ·cases h
theorem AU (h:aX E base hp aC H) {o:BinOp} {t:TypeId} {x y:Operand} {a b:AV} {u v:Value} (ha:AR E.ρ H.get (E.O hp) a u) (hb:AR E.ρ H.get (E.O hp) b v) {K:AV→List AB→Prop}
  (hw:aQ T o t x y a b hp K):dc base E hp aC H (dF T.P o t x y u v) K:=by
 unfold aQ at hw;split at hw
 ·rename_i m n;obtain ⟨rfl,_⟩:=ha.eU;obtain ⟨rfl,_⟩:=hb.eU;have key:∀ {z:Value},jx o m n=some z→bf z=true→K (.fl z) hp→dc base E hp aC H (dF T.P o t x y (.int .i64 m) (.int .i64 n)) K:=by intro z hz hf hk;unfold dF;simp only [hz];exact .pure h (.d (.fl hf)) hk
  cases o <;> simp only at hw <;> first
   | exact key (by unfold jx nh;simp only;rw [show Int.add m n=m+n from rfl,vF hw.1];rfl) rfl hw.2
   | exact key (by unfold jx nh;simp only;rw [show Int.sub m n=m - n from rfl,vF hw.1];rfl) rfl hw.2
   | exact key (by unfold jx nh;simp only;rw [show Int.mul m n=m * n from rfl,vF hw.1];rfl) rfl hw.2
   | exact key (by simp only [jx,HD,nk,l9]) rfl hw
   | exact cK h hw
 ·obtain ⟨hne,ht,z,hz,hk⟩:=hw;obtain ⟨rfl,_⟩:=hb.eU
  cases ha.iJ with
  | nil=>exact absurd rfl hne
  | sl q1 q2 q3 q4 q5 q6 q7 =>unfold dF;simp only [ht,hz,cond_true];exact .pure h (.d (.fl (mI hz))) hk
 ·obtain ⟨hne,ht,z,hz,hk⟩:=hw;obtain ⟨rfl,_⟩:=hb.eU
  rcases ha.dW with ⟨k,hk2,rfl⟩|⟨rfl,rfl,rfl⟩
  ·unfold dF;simp only [ht,hz,cond_true];exact .pure h (.d (.fl (mI hz))) hk
  ·exact absurd rfl hne
 ·obtain ⟨ht,z,hz,hk⟩:=hw;obtain ⟨rfl,_⟩:=hb.eU
  cases ha.cF with
  | pt =>unfold dF;simp only [ht,hz,cond_true];exact .pure h (.d (.fl (mI hz))) hk
 ·obtain ⟨ht,z,hz,hk⟩:=hw;obtain ⟨rfl,_⟩:=hb.eU;obtain ⟨k,hk2,rfl⟩:=ha.cX;unfold dF;simp only [ht,hz,cond_true];exact .pure h (.d (.fl (mI hz))) hk
 ·obtain ⟨v',w',h1,h2,h3⟩:=hw;obtain ⟨rfl,_⟩:=dg h1 ha;obtain ⟨rfl,_⟩:=dg h2 hb;exact cK h h3
def HE (T:bC) (o:UnOp) (a:AV) (hp:List AB) (K:AV→List AB→Prop):Prop :=
 match o,a with
 | .not,.fl (.bool b)=>K (.fl (.bool (!b))) hp
 | _,_=>∃ v,a.fV=some v∧jk (cR (aK T.P (Op.unary o v))) hp K
theorem Ck (h:aX E base hp aC H) {o:UnOp} {a:AV} {u:Value} (ha:AR E.ρ H.get (E.O hp) a u) {K:AV→List AB→Prop} (hw:HE T o a hp K) :
  dc base E hp aC H (bif flat u then cR (aK T.P (Op.unary o u)) else none) K:=by
 unfold HE at hw;split at hw
 ·obtain ⟨rfl,_⟩:=ha.eU;exact .pure h (.d (.fl rfl)) hw
 ·obtain ⟨v,h1,h2⟩:=hw;obtain ⟨rfl,hf⟩:=dg h1 ha;rw [hf];exact cK h h2
def yY (T:bC) (s d:TypeId) (a:AV) (hp:List AB) (K:AV→List AB→Prop):Prop :=
 ∃ v,a.fV=some v∧jk (cR (aK T.P (convert s d v))) hp K
def C5 (T:bC) (t:TypeId) (a:AV) (hp:List AB) (K:AV→List AB→Prop):Prop :=
 ∃ v,a.fV=some v∧jk (cR (aK T.P (Instr.makeInterface t v))) hp K
def AW (T:bC) (t d:TypeId) (ok:Bool) (a:AV) (hp:List AB) (K:AV→List AB→Prop):Prop :=
 ∃ v,a.fV=some v∧jk (cR (aK T.P (Instr.typeAssert v t d ok))) hp K
theorem vG (h:aX E base hp aC H) {t d:TypeId} {ok:Bool} {a:AV} {u:Value} (ha:AR E.ρ H.get (E.O hp) a u) {K:AV→List AB→Prop} (hw:AW T t d ok a hp K) :
  dc base E hp aC H (bif flat u then cR (aK T.P (Instr.typeAssert u t d ok)) else none) K:=by
 obtain ⟨v,h1,h2⟩:=hw;obtain ⟨rfl,hf⟩:=dg h1 ha;rw [hf];exact cK h h2
theorem w8 (h:aX E base hp aC H) {t:TypeId} {a:AV} {u:Value} (ha:AR E.ρ H.get (E.O hp) a u) {K:AV→List AB→Prop} (hw:C5 T t a hp K) :
  dc base E hp aC H (bif flat u then cR (aK T.P (Instr.makeInterface t u)) else none) K:=by
 obtain ⟨v,h1,h2⟩:=hw;obtain ⟨rfl,hf⟩:=dg h1 ha;rw [hf];exact cK h h2
theorem yZ (h:aX E base hp aC H) {s d:TypeId} {a:AV} {u:Value} (ha:AR E.ρ H.get (E.O hp) a u) {K:AV→List AB→Prop} (hw:yY T s d a hp K) :
  dc base E hp aC H (bif flat u then cR (aK T.P (convert s d u)) else none) K:=by
 obtain ⟨v,h1,h2⟩:=hw;obtain ⟨rfl,hf⟩:=dg h1 ha;rw [hf];exact cK h h2
def ur (T:bC) (t:TypeId) (a ix:AV) (hp:List AB) (K:AV→List AB→Prop):Prop :=
 ∃ v w,a.fV=some v∧ix.fV=some w∧jk (cR (aK T.P (Instr.index t v w))) hp K
theorem lg (h:aX E base hp aC H) {t:TypeId} {a ix:AV} {u x:Value} (ha:AR E.ρ H.get (E.O hp) a u) (hx:AR E.ρ H.get (E.O hp) ix x) {K:AV→List AB→Prop} {r:Option (Value × bY)} (hw:ur T t a ix hp K) :
  dc base E hp aC H (bif flat u && flat x then cR (aK T.P (Instr.index t u x)) else r) K:=by
 obtain ⟨v,w,h1,h2,h3⟩:=hw;obtain ⟨rfl,hf⟩:=dg h1 ha;obtain ⟨rfl,hf'⟩:=dg h2 hx;rw [hf,hf'];exact cK h h3
def vH (T:bC) (t:TypeId) (a ix:AV) (hp:List AB) (K:AV→List AB→Prop):Prop :=
 match a,ix with
 | .ag cs,.fl (.int _ (.ofNat j))=>match T.ty.get t with
  | some ⟨.array n e,_,_,_,_,_,_⟩=>match T.ty.get e,cs[j]? with
   | some ⟨_,1,_,_,false,_,_⟩,some (.fn f x y)=>(Nat.blt j n=true∧(cs.any fun v=>!v.one)=false)∧K (.fn f x y) hp
   | _,_=>ur T t a ix hp K
  | _=>ur T t a ix hp K
 | _,_=>ur T t a ix hp K
theorem vI (h:aX E base hp aC H) {t:TypeId} {a ix:AV} {u x:Value} (ha:AR E.ρ H.get (E.O hp) a u) (hx:AR E.ρ H.get (E.O hp) ix x) {K:AV→List AB→Prop} (hw:vH T t a ix hp K) :
  dc base E hp aC H (bif flat u && flat x then cR (aK T.P (Instr.index t u x)) else l5 T t u x) K:=by
 unfold vH at hw;split at hw
 ·rename_i cs k j;split at hw
  ·rename_i m e _ _ _ _ _ _ hty;split at hw
   ·rename_i jH _ _ _ _ f y z hel hcs;obtain ⟨⟨h1,_⟩,h2⟩:=hw;obtain ⟨rfl,_⟩:=hx.eU
    obtain ⟨us,rfl,h3⟩:∃ us:Array Value,u=.agg us∧fB E.ρ H.get (E.O hp) cs us.toList:=by
     cases ha with
     | d h=>cases h with
      | ag ha h1=>exact ⟨_,rfl,ha,fun i a u x y=>.d (h1 i a u x y)⟩
     | ag ha h1=>exact ⟨_,rfl,ha,h1⟩
    have hj:j < us.toList.length:=by rw [←h3.1];exact (List.getElem?_eq_some_iff.1 hcs).1
    have hv:=h3.2 j _ _ hcs (List.getElem?_eq_getElem hj)
    obtain ⟨p,q,hpq⟩:∃ p q,us.toList[j]=.func (.func f) p q:=by
     revert hv;generalize us.toList[j]=uj;intro hv
     cases hv with
     | d h=>cases h with
      | fn=>exact ⟨_,_,rfl⟩
     | fn=>exact ⟨_,_,rfl⟩
    have hnf:flat (.agg us)=false:=by show us.toList.all bf=false;rw [Bool.eq_false_iff];intro hall;have:=List.all_eq_true.1 hall _ (List.getElem_mem hj);rw [hpq] at this;cases this
    rw [hnf];simp only [Bool.false_and,cond_false];unfold l5;simp only [hty,hel,h1,cond_true];rw [List.getElem?_eq_getElem hj,hpq];exact .pure h (by rw [hpq] at hv;exact hv) h2
   ·exact lg h ha hx hw
  ·exact lg h ha hx hw
 ·exact lg h ha hx hw
def AX (T:bC) (t:TypeId) (a:AV) (i:Nat) (hp:List AB) (K:AV→List AB→Prop):Prop :=
 ∃ v,a.fV=some v∧jk (cR (aK T.P (Instr.field t v i))) hp K
theorem vJ (h:aX E base hp aC H) {t:TypeId} {a:AV} {i:Nat} {u:Value} (ha:AR E.ρ H.get (E.O hp) a u) {K:AV→List AB→Prop} (hw:AX T t a i hp K) :
  dc base E hp aC H (bif flat u then cR (aK T.P (Instr.field t u i)) else none) K:=by
 obtain ⟨v,h1,h2⟩:=hw;obtain ⟨rfl,hf⟩:=dg h1 ha;rw [hf];exact cK h h2
def jJ (a:AV) (i:Nat) (hp:List AB) (K:AV→List AB→Prop):Prop :=
 match a with
 | .tp vs=>∃ v,vs[i]?=some v∧K v hp
 | _=>False
theorem AR.vK {vs:List AV} {u:Value} (h:AR ρ g O (.tp vs) u):∃ us:Array Value,u=.tuple us∧fB ρ g O vs us.toList:=by
 cases h with
 | d h=>cases h with
  | tp ha h1=>exact ⟨_,rfl,ha,fun i a u x y=>.d (h1 i a u x y)⟩
 | tp ha h1=>exact ⟨_,rfl,ha,h1⟩
theorem tZ (h:aX E base hp aC H) {a:AV} {i:Nat} {u:Value} (ha:AR E.ρ H.get (E.O hp) a u) {K:AV→List AB→Prop} (hw:jJ a i hp K):dc base E hp aC H (fk u i) K:=by
 unfold jJ at hw;split at hw
 ·obtain ⟨v,h1,h2⟩:=hw;obtain ⟨us,rfl,h3⟩:=ha.vK;obtain ⟨x,h4,h5⟩:=h3.get h1;unfold fk;simp only [h4,Option.map_some];exact .pure h h5 h2
 ·exact hw.elim
def jD (t:Bool) (a b:AV) (hp:List AB) (K:AV→List AB→Prop):Prop :=
 match a,b with
 | .fl (.bool x),.fl (.bool y)=>K (.fl (.bool (bif t then x else y))) hp
 | a,b=>(t=true→K a hp)∧(t=false→K b hp)
def sj (c a b:AV) (hp:List AB) (K:AV→List AB→Prop):Prop :=
 match c with
 | .fl (.bool t)=>jD t a b hp K
 | _=>False
theorem y6 (h:aX E base hp aC H) {c a b:AV} {u v w:Value} (hc:AR E.ρ H.get (E.O hp) c u) (ha:AR E.ρ H.get (E.O hp) a v) (hb:AR E.ρ H.get (E.O hp) b w) {K:AV→List AB→Prop} (hw:sj c a b hp K) :
  dc base E hp aC H (sU u v w) K:=by
 unfold sj at hw;split at hw
 ·rename_i t;obtain ⟨rfl,_⟩:=hc.eU;unfold jD at hw;split at hw
  ·rename_i x y;obtain ⟨rfl,_⟩:=ha.eU;obtain ⟨rfl,_⟩:=hb.eU;unfold sU;refine .pure h (a:=.fl (.bool (bif t then x else y))) ?_ hw;cases t <;> exact .d (.fl rfl)
  ·unfold sU
   cases ht:t with
   | true=>exact .pure h ha (hw.1 ht)
   | false=>exact .pure h hb (hw.2 ht)
 ·exact hw.elim
def qO (a:AV) (hp:List AB) (K:AV→List AB→Prop):Prop :=
 match a with
 | .pt cs o=>K (.pt cs o) hp
 | .ptr j aE o=>K (.ptr j aE o) hp
 | _=>False
theorem AY (h:aX E base hp aC H) {a:AV} {u:Value} (ha:AR E.ρ H.get (E.O hp) a u) {K:AV→List AB→Prop} (hw:qO a hp K):dc base E hp aC H (ir u) K:=by
 unfold qO at hw;split at hw
 ·obtain ⟨k,d,cs',own,e,rfl,_⟩:=ha.cF.cF;exact .pure h ha hw
 ·obtain ⟨k,hk,rfl⟩:=ha.cX;exact .pure h ha hw
 ·exact hw.elim
end
end Go.RM
namespace Go.RM
open Go
section
variable {T : bC} {base : Nat} {E E' : Env} {hp hp' : List AB} {aC : bJ} {H H' : Hp} {ρ : Nat → Nat → Option Nat} {g : aG} {O : Nat → Prop}
def AZ (place:Nat→Option (Nat × Nat)) (cells:List AV):List (Nat × AV)→Option (List AV)
 | []=>some cells
 | (i,v) :: rest =>
  match place i with
  | none=>none
  | some (off,size)=>bif v.kg && Nat.beq v.cells.length size && Nat.ble (off+size) cells.length then AZ place (bg cells v.cells off) rest else none
def nL (ρ:Nat→Nat→Option Nat) (g:aG) (O:Nat→Prop):List (Nat × AV)→List (Nat × Value)→Prop
 | [],[]=>True
 | (i,a) :: l,(k,u) :: m=>i=k∧AR ρ g O a u∧nL ρ g O l m
 | _,_=>False
theorem tC {place:Nat→Option (Nat × Nat)}:∀ {parts:List (Nat × AV)} {parts':List (Nat × Value)} {cells:List AV} {cells':List Value} {cs:List AV},nL ρ g O parts parts'→fB ρ g O cells cells' →
  AZ place cells parts=some cs→∃ cs',mU place cells' parts'=some cs'∧fB ρ g O cs cs'
 | [],[],cells,cells',cs,_,hc,h=>by cases h;exact ⟨cells',rfl,hc⟩
 | (i,a) :: l,(k,u) :: m,cells,cells',cs,hp,hc,h=>by
  obtain ⟨rfl,ha,hl⟩:=hp;unfold AZ at h;unfold mU
  cases hpl:place i with
  | none=>rw [hpl] at h;cases h
  | some p =>
   obtain ⟨off,size⟩:=p;rw [hpl] at h;simp only at h ⊢
   cases hb:(a.kg && Nat.beq a.cells.length size && Nat.ble (off+size) cells.length) with
   | false=>rw [hb] at h;cases h
   | true =>rw [hb] at h;simp only [cond_true] at h;simp only [qq7] at hb;have hac:=ha.cells hb.1.1;rw [show Nat.beq u.cells.toList.length size=true by rw [←hac.1];exact hb.1.2,show Nat.ble (off+size) cells'.length=true by rw [←hc.1];exact hb.2];exact tC hl (hc.splice hac off) h
 | [],_ :: _,_,_,_,hp,_,_=>hp.elim
 | _ :: _,[],_,_,_,hp,_,_=>by simp [nL] at hp
def mJ (T:bC) (t:TypeId) (parts:List (Nat × AV)) (hp:List AB) (K:AV→List AB→Prop):Prop :=
 match T.ty.get t with
 | some ⟨jH,_,_,some z,true,cu,cD⟩=>z.cells.toList.all bf=true∧∃ cs,AZ (gq jH cu cD) (z.cells.toList.map .fl) parts=some cs∧K (.ag cs) hp
 | _=>False
theorem w9 (h:aX E base hp aC H) {t:TypeId} {parts:List (Nat × AV)} {parts':List (Nat × Value)} (hpt:nL E.ρ H.get (E.O hp) parts parts') {K:AV→List AB→Prop} (hw:mJ T t parts hp K) :
  dc base E hp aC H (pq T t parts') K:=by
 unfold mJ at hw;split at hw
 ·rename_i jH s bytes z cu cD hty;obtain ⟨h1,cs,h2,h3⟩:=hw;unfold pq;simp only [hty,h1,cond_true];obtain ⟨cs',e1,e2⟩:=tC hpt (fB.yW h1) h2;rw [e1];refine .pure h (a:=.ag cs) (.ag ?_ ?_) h3
  ·simpa using e2.1
  ·intro i x u hx hu;exact e2.2 i x u hx (by simpa using hu)
 ·exact hw.elim
def kS (es:Nat):Nat→List (Nat × AV)→Bool
 | _,[]=>true
 | i,(k,v) :: l=>Nat.beq k i && v.kg && v.cells.all AV.one && Nat.beq v.cells.length es && kS es (i+1) l
theorem xP {es:Nat}:∀ {parts:List (Nat × AV)} {parts':List (Nat × Value)} {i:Nat} {cells:List Value},nL ρ g O parts parts'→kS es i parts=true→cells.length=(i+parts.length) * es →
  ∃ cs',mU (fun i=>some (i * es,es)) cells parts'=some (cells.take (i * es)++cs')∧fB ρ g O (parts.map (·.2.cells)).flatten cs'∧cs'.length=parts.length * es
 | [],[],i,cells,_,_,hl=>by refine ⟨[],?_,.nil,by simp⟩;simp only [List.length_nil,Nat.add_zero] at hl;simp [mU,←hl]
 | (k,a) :: l,(k',u) :: m,i,cells,hp,hok,hlen=>by
  obtain ⟨rfl,ha,hl⟩:=hp;simp only [kS,qq7] at hok;obtain ⟨⟨⟨⟨o1,o2⟩,o3⟩,o4⟩,o5⟩:=hok;obtain rfl:=Nat.eq_of_beq_eq_true o1;have hac:=ha.cells o2;have hes:=Nat.eq_of_beq_eq_true o4;have hlen':cells.length=k * es+es+l.length * es:=by rw [hlen];simp only [List.length_cons];rw [Nat.add_mul,Nat.add_mul];omega
  unfold mU;simp only;rw [show Nat.beq u.cells.toList.length es=true by rw [←hac.1];exact o4,show Nat.ble (k * es+es) cells.length=true from Nat.ble_eq_true_of_le (by omega)];simp only [Bool.and_self,cond_true];have hsl:(splice cells u.cells.toList (k * es)).length=cells.length:=by unfold RM.splice;simp only [List.length_append,List.length_take,List.length_drop];rw [←hac.1,hes];omega
  obtain ⟨cs',e1,e2,e3⟩:=xP (i:=k+1) (cells:=splice cells u.cells.toList (k * es)) hl o5 (by rw [hsl,hlen];simp only [List.length_cons];rw [show k+1+l.length=k+(l.length+1) by omega]);refine ⟨u.cells.toList++cs',?_,?_,?_⟩
  ·rw [e1]
   congr 1
   rw [←List.append_assoc]
   congr 1
   unfold RM.splice;rw [Nat.add_mul,Nat.one_mul,List.take_append_of_le_length (by simp only [List.length_append,List.length_take];rw [←hac.1,hes];omega)];rw [List.take_of_length_le];simp only [List.length_append,List.length_take];rw [←hac.1,hes];omega
  ·simp only [List.map_cons,List.flatten_cons];exact hac.append e2
  ·simp only [List.length_append,List.length_cons,e3];rw [←hac.1,hes,Nat.add_mul];omega
 | [],_ :: _,_,_,hp,_,_=>hp.elim
 | _ :: _,[],_,_,hp,_,_=>by simp [nL] at hp
theorem tD {es:Nat}:∀ {l:List (Nat × AV)} {i:Nat},kS es i l=true→∀ p ∈ l,p.2.cells.length=es∧p.2.cells.all AV.one=true
 | [],_,_,p,hp=>by cases hp
 | (k,v) :: l,i,h,p,hp=>by
  simp only [kS,qq7] at h
  rcases List.mem_cons.1 hp with rfl|hp
  ·exact ⟨Nat.eq_of_beq_eq_true h.1.2,h.1.1.2⟩
  ·exact tD h.2 p hp
theorem ec {α:Type} {es:Nat}:∀ {els:List (List α)},(∀ el ∈ els,el.length=es)→∀ (i:Nat) (el:List α) (j:Nat),els[i]?=some el→j < es→els.flatten[i * es+j]?=el[j]?
 | [],_,i,el,j,h,_=>by cases h
 | x :: l,hl,i,el,j,h,hj=>by
  have hx:=hl x (by simp);rw [List.flatten_cons]
  cases i with
  | zero =>cases h;rw [Nat.zero_mul,Nat.zero_add,List.getElem?_append_left (by omega)]
  | succ i =>rw [List.getElem?_append_right (by rw [hx,Nat.add_mul];omega),hx,show (i+1) * es+j - es=i * es+j by rw [Nat.add_mul];omega];exact ec (fun e he=>hl e (List.mem_cons_of_mem _ he)) i el j (by simpa using h) hj
theorem dX {α:Type} {es:Nat}:∀ {els:List (List α)},(∀ el ∈ els,el.length=es)→els.flatten.length=els.length * es
 | [],_=>by simp
 | x :: l,h=>by rw [List.flatten_cons,List.length_append,dX (fun e he=>h e (List.mem_cons_of_mem _ he)),h x (by simp),List.length_cons,Nat.add_mul];omega
theorem DR.row {k n:Nat} {els:List (List AV)} {cs:List Value} {own full:Bool} {es e c:Nat} (hg:g k=some (.cells cs own e)) (hO:¬ O k) (hel:∀ el ∈ els,el.length=es) (hn:els.length=n) (hc:si g O els.flatten cs) (hf:full=true→c=n) :
  DR g O (.sl els full) (.slice (some ⟨k,0,none⟩) n c):=by
 refine .sl (es:=es) hg hO ?_ hn (fun i el h=>hel el (List.mem_of_getElem? h)) (fun i el j a u h1 h2 h3=>?_) hf
 ·rw [←hc.1,dX hel,hn];omega
 ·have hj:j < es:=by rw [←hel el (List.mem_of_getElem? h1)];exact (List.getElem?_eq_some_iff.1 h2).1
  rw [Nat.zero_add] at h3;exact hc.2 _ a u (by rw [ec hel i el j h1 hj];exact h2) h3
def dy (T:bC) (own:Bool) (t:TypeId) (len:Nat) (parts:List (Nat × AV)) (hp:List AB) (K:AV→List AB→Prop):Prop :=
 match elem? T t with
 | some inf=>Nat.ble (len * inf.size) 65536=true∧bG inf=true∧kS inf.size 0 parts=true∧Nat.beq parts.length len=true ∧
  match own with
  | true=>K (.aL hp.length 0 0 len len) (hp++[.cells (parts.map (·.2.cells)).flatten inf.size 0])
  | false=>cV (parts.map (·.2.cells)).flatten=true∧K (.sl (parts.map (·.2.cells)) true) hp
 | none=>False
theorem pN (h:aX E base hp aC H) {own:Bool} {t:TypeId} {len:Nat} {parts:List (Nat × AV)} {parts':List (Nat × Value)} (hpt:nL E.ρ H.get (E.O hp) parts parts') {K:AV→List AB→Prop}
  (hw:dy T own t len parts hp K):dc base E hp aC H (gB T H.n t len parts') K:=by
 unfold dy at hw;split at hw
 ·rename_i inf hi;obtain ⟨h1,h2,h3,h4,h5⟩:=hw;have h4:=Nat.eq_of_beq_eq_true h4;unfold gB;simp only [hi,h1,h2,Bool.and_self,cond_true];obtain ⟨cs',e1,e2,e3⟩:=xP (es:=inf.size) (i:=0) (cells:=bP ((inf.zero.map fun z=>z.cells.toList).getD []) (len * inf.size)) hpt h3 (by rw [Nat.zero_add,h4];simp [bP]);rw [e1];simp only [Nat.zero_mul,List.take_zero,List.nil_append]
  cases own with
  | true=>exact .new h (x:=.cells (parts.map (·.2.cells)).flatten inf.size 0) rfl (fun E' H' e=>⟨_,rfl,e.C4 h.wf e2⟩) (fun E' hr=>.aL hr) h5
  | false =>
   obtain ⟨h5,h6⟩:=h5;refine .uq h (fun e hg hO=>.d (.row hg hO (es:=inf.size) (fun el he=>?_) (by simp [h4]) ?_ (fun _=>rfl))) h6
   ·obtain ⟨p,hp',rfl⟩:=List.mem_map.1 he;exact (tD h3 p hp').1
   ·have:=(e.C4 h.wf e2).deep h5;exact this
 ·exact hw.elim
def oY (o:Option AV) (d l:Nat):Prop :=
 match o with
 | none=>l=d
 | some a=>asInt a=some (l:Int)
def D8 (ρ:Nat→Nat→Option Nat) (g:aG) (O:Nat→Prop):Option AV→Option Value→Prop
 | none,none=>True
 | some a,some u=>AR ρ g O a u
 | _,_=>False
theorem dR {o:Option AV} {o':Option Value} {d l:Nat} (h:oY o d l) (ho:D8 ρ g O o o'):di d o'=some l:=by
 cases o with
 | none=>cases o' with
  | none=>cases h;rfl
  | some=>exact ho.elim
 | some a=>cases o' with
  | none=>exact ho.elim
  | some u =>
   have:=iK h ho;unfold intOf? at this;split at this
   ·cases this;unfold di jr;simp only [Int.toNat_natCast];rw [decide_eq_false (by omega)];rfl
   ·cases this
def mK (T:bC) (t:TypeId) (x:AV) (lo hi:Option AV) (hp:List AB) (K:AV→List AB→Prop):Prop :=
 match x with
 | .fl (.string s)=>∃ lo' hi':Option Value,lo.map AV.fV=lo'.map some∧hi.map AV.fV=hi'.map some∧jk (cR (aK T.P (Instr.sliceAt t (.string s) lo' hi' none))) hp K
 | .sl els full=>match elem? T t with
  | some inf=>∃ l h:Nat,oY lo 0 l∧oY hi els.length h∧(l≤h∧h≤els.length)∧1≤inf.size∧(∀ el ∈ els,el.length=inf.size)∧K (.sl ((els.drop l).take (h - l)) (full && Nat.beq h els.length)) hp
  | none=>False
 | .aL j aE o n c=>match elem? T t with
  | some inf=>∃ l h:Nat,oY lo 0 l∧oY hi n h∧(l≤h∧h≤n)∧1≤inf.size∧K (.aL j aE (o+l * inf.size) (h - l) (bif Nat.beq h n && Nat.beq c n then h - l else bif Nat.beq h n then h - l+2 else bif Nat.ble (n+3) c then c - l else h - l+3+(n - h))) hp
  | none=>False
 | .pt cs o=>match T.ty.get t with
  | some ⟨.array len _,_,_,_,_,_,cD⟩=>∃ (l h:Nat) (els:List (List AV)),oY lo 0 l∧oY hi len h∧(l≤h∧h≤len∧o+h * cD≤cs.length)∧1≤cD∧(els.length=h - l∧(∀ el ∈ els,el.length=cD)∧els.flatten=(cs.drop (o+l * cD)).take ((h - l) * cD))∧K (.sl els (Nat.beq h len)) hp
  | _=>False
 | _=>False
theorem xb (h:aX E base hp aC H) {t:TypeId} {x:AV} {u:Value} {lo hi:Option AV} {lo' hi':Option Value} (hx:AR E.ρ H.get (E.O hp) x u) (hlo:D8 E.ρ H.get (E.O hp) lo lo') (hhi:D8 E.ρ H.get (E.O hp) hi hi')
  {K:AV→List AB→Prop} (hw:mK T t x lo hi hp K):dc base E hp aC H (fo T t u lo' hi') K:=by
 unfold mK at hw;split at hw
 ·rename_i s;obtain ⟨rfl,_⟩:=hx.eU;obtain ⟨l',h',h1,h2,h3⟩:=hw
  have key:∀ {o:Option AV} {o' o'':Option Value},D8 E.ρ H.get (E.O hp) o o'→o.map AV.fV=o''.map some→o'=o''∧o'.toList.all flat=true:=by
   intro o o' o'' ho he
   cases o with
   | none=>cases o' with
    | none=>cases o'' with
     | none=>exact ⟨rfl,rfl⟩
     | some=>cases he
    | some=>exact ho.elim
   | some a=>cases o' with
    | none=>exact ho.elim
    | some v=>cases o'' with
     | none=>cases he
     | some w =>simp only [Option.map_some,qq9] at he;obtain ⟨rfl,hf⟩:=dg he ho;exact ⟨rfl,by simp [hf]⟩
  obtain ⟨rfl,f1⟩:=key hlo h1;obtain ⟨rfl,f2⟩:=key hhi h2;unfold fo;simp only [f1,f2,Bool.and_self,cond_true];exact cK h h3
 ·rename_i els full;split at hw
  ·rename_i inf hi';obtain ⟨l,m,h1,h2,⟨h3,h4⟩,h5,h6,h7⟩:=hw;have e1:=dR h1 hlo
   cases hx.iJ with
   | nil =>
    have e2:=dR h2 hhi;simp only [List.length_nil] at h4 e2;obtain rfl:m=0:=by omega
    obtain rfl:l=0:=by omega
    unfold fo pg;simp only [hi',e1,e2];rw [show Nat.ble 1 inf.size=true from Nat.ble_eq_true_of_le h5];exact .pure h (.d .nil) h7
   | sl q1 q2 q3 q4 q5 q6 q7 =>
    rename_i k o n c es cs own e;rw [q4] at h2 h4 h7;have e2:=dR h2 hhi;unfold fo pg;simp only [hi',e1,e2];rw [show Nat.ble 1 inf.size=true from Nat.ble_eq_true_of_le h5,show Nat.ble l m=true from Nat.ble_eq_true_of_le h3,show Nat.ble m n=true from Nat.ble_eq_true_of_le h4];simp only [Bool.and_self,cond_true,Option.map_some]
    have hes:els ≠ []→es=inf.size:=by
     intro hne
     cases els with
     | nil=>exact absurd rfl hne
     | cons x l=>rw [←q5 0 x rfl];exact h6 x (by simp)
    by_cases hne:els=[]
    ·subst hne;simp only [List.length_nil] at q4;subst q4;obtain rfl:m=0:=by omega
     obtain rfl:l=0:=by omega
     refine .pure h (a:=_) (.d (.sl (es:=es) q1 q2 ?_ ?_ ?_ ?_ ?_)) h7
     ·simpa using q3
     ·simp
     ·intro i el hel;simp at hel
     ·intro i el j a u hel;simp at hel
     ·intro hf;simp only [qq7] at hf;rw [q7 hf.1];rfl
    ·have hes:=hes hne;subst hes;refine .pure h (a:=_) (.d (.sl (es:=inf.size) q1 q2 ?_ ?_ ?_ ?_ ?_)) h7
     ·have:l * inf.size+(m - l) * inf.size≤n * inf.size:=by rw [←Nat.add_mul];exact Nat.mul_le_mul_right _ (by omega)
      omega
     ·simp only [List.length_take,List.length_drop];omega
     ·intro i el hel;rw [List.getElem?_take] at hel;split at hel
      ·rw [List.getElem?_drop] at hel;exact q5 _ el hel
      ·cases hel
     ·intro i el j a u hel ha hu;rw [List.getElem?_take] at hel;split at hel
      ·rw [List.getElem?_drop] at hel;refine q6 _ el j a u hel ha ?_;rw [Nat.add_mul];rw [show o+(l * inf.size+i * inf.size)+j=o+l * inf.size+i * inf.size+j by omega];exact hu
      ·cases hel
     ·intro hf;simp only [qq7] at hf;rw [hf.2,q7 hf.1,Nat.beq_refl];rfl
  ·exact hw.elim
 ·rename_i j aE o n c;split at hw
  ·rename_i inf hi';obtain ⟨l,m,h1,h2,⟨h3,h4⟩,h5,h7⟩:=hw;have e1:=dR h1 hlo;have e2:=dR h2 hhi
   rcases hx.dW with ⟨k,hk,rfl⟩|⟨rfl,rfl,rfl⟩
   ·unfold fo pg;simp only [hi',e1,e2];rw [show Nat.ble 1 inf.size=true from Nat.ble_eq_true_of_le h5,show Nat.ble l m=true from Nat.ble_eq_true_of_le h3,show Nat.ble m n=true from Nat.ble_eq_true_of_le h4];simp only [Bool.and_self,cond_true,Option.map_some];exact .pure h (.aL hk) h7
   ·obtain rfl:m=0:=by omega
    obtain rfl:l=0:=by omega
    unfold fo pg;simp only [hi',e1,e2];rw [show Nat.ble 1 inf.size=true from Nat.ble_eq_true_of_le h5];simp only [Nat.zero_mul,Nat.add_zero] at h7;exact .pure h (.qK (by first|(have:=hx.og;revert this;cases Nat.beq c 0 <;> simp)|simp)) h7
  ·exact hw.elim
 ·rename_i cs o;split at hw
  ·rename_i len el sz by' z ag fl cD hty
   obtain ⟨l,m,els,h1,h2,⟨h3,h4,h5⟩,h6,⟨e1,e2,e3⟩,h7⟩:=hw;have n1:=dR h1 hlo;have n2:=dR h2 hhi;obtain ⟨k,d,cs',own,e,rfl,q1,q2,q3,q4⟩:=hx.cF.cF;unfold fo nT;simp only [hty,n1,n2,addr?];rw [show Nat.ble 1 cD=true from Nat.ble_eq_true_of_le h6,show Nat.ble l m=true from Nat.ble_eq_true_of_le h3,show Nat.ble m len=true from Nat.ble_eq_true_of_le h4];simp only [Bool.and_self,cond_true,Option.map_some];have hmul:l * cD+(m - l) * cD=m * cD:=by rw [←Nat.add_mul];congr 1;omega
   refine .pure h (a:=_) (.d (.sl (es:=cD) q1 q2 ?_ ?_ ?_ ?_ ?_)) h7
   ·omega
   ·exact e1
   ·intro i x hx;exact e2 x (List.mem_of_getElem? hx)
   ·intro i x j a u hx ha hu;have hj:j < cD:=by rw [←e2 x (List.mem_of_getElem? hx)];exact (List.getElem?_eq_some_iff.1 ha).1
    have hat:=ec e2 i x j hx hj;have hi:i < m - l:=by rw [←e1];exact (List.getElem?_eq_some_iff.1 hx).1
    rw [e3,List.getElem?_take,List.getElem?_drop] at hat;have hlt:i * cD+j < (m - l) * cD:=by have:(i+1) * cD≤(m - l) * cD:=Nat.mul_le_mul_right _ hi;rw [Nat.add_mul,Nat.one_mul] at this;omega
    rw [if_pos hlt,ha] at hat;refine q4 _ a u hat ?_;rw [show d+(o+l * cD+(i * cD+j))=d+o+l * cD+i * cD+j by omega];exact hu
   ·intro hf;rw [hf];rfl
  ·exact hw.elim
 ·exact hw.elim
def vL (T:bC) (t:TypeId) (x:AV) (lo:Option AV) (hi mx:AV) (hp:List AB) (K:AV→List AB→Prop):Prop :=
 match x,elem? T t with
 | .fl (.slice none 0 0),some inf=>oY lo 0 0∧asInt hi=some 0∧asInt mx=some 0∧1≤inf.size∧K (.fl (.slice none 0 0)) hp
 | .sl els _,some inf=>∃ l h:Nat,oY lo 0 l∧asInt hi=some h∧asInt mx=some h∧(l≤h∧h≤els.length)∧1≤inf.size∧(∀ el ∈ els,el.length=inf.size)∧K (.sl ((els.drop l).take (h - l)) true) hp
 | .aL j aE o n _,some inf=>∃ l h:Nat,oY lo 0 l∧asInt hi=some h∧asInt mx=some h∧(l≤h∧h≤n)∧1≤inf.size∧K (.aL j aE (o+l * inf.size) (h - l) (h - l)) hp
 | _,_=>False
theorem vM (h:aX E base hp aC H) {t:TypeId} {x hi mx:AV} {u hi' mx':Value} {lo:Option AV} {lo':Option Value} (hx:AR E.ρ H.get (E.O hp) x u) (hlo:D8 E.ρ H.get (E.O hp) lo lo') (hhi:AR E.ρ H.get (E.O hp) hi hi') (hmx:AR E.ρ H.get (E.O hp) mx mx')
  {K:AV→List AB→Prop} (hw:vL T t x lo hi mx hp K):dc base E hp aC H ((jw T t u lo' hi' mx').map fun v=>(v,.none)) K:=by
 have nat:∀ {a:AV} {u:Value} {n:Nat},asInt a=some (n:Int)→AR E.ρ H.get (E.O hp) a u→jr u=some n:=fun {a u n} h1 h2=>dR (o:=some a) (o':=some u) (d:=0) h1 h2;unfold vL at hw;split at hw
 ·rename_i inf he;obtain ⟨h1,h2,h3,h5,h7⟩:=hw;obtain ⟨rfl,_⟩:=hx.eU;have n1:=dR h1 hlo;have n2:=nat (n:=0) h2 hhi;have n3:=nat (n:=0) h3 hmx;unfold jw;simp only [he,n1,n2,n3];rw [show Nat.ble 1 inf.size=true from Nat.ble_eq_true_of_le h5];exact .pure h hx h7
 ·rename_i els full inf he;obtain ⟨l,m,h1,h2,h3,⟨h4,h5⟩,h6,h8,h7⟩:=hw;have n1:=dR h1 hlo;have n2:=nat h2 hhi;have n3:=nat h3 hmx
  cases hx.iJ with
  | nil =>
   simp only [List.length_nil] at h5;obtain rfl:m=0:=by omega
   obtain rfl:l=0:=by omega
   unfold jw;simp only [he,n1,n2,n3];rw [show Nat.ble 1 inf.size=true from Nat.ble_eq_true_of_le h6];exact .pure h (.d .nil) h7
  | sl q1 q2 q3 q4 q5 q6 q7 =>
   rename_i k o n c es cs own e;rw [q4] at h5;unfold jw;simp only [he,n1,n2,n3];rw [show Nat.ble 1 inf.size=true from Nat.ble_eq_true_of_le h6,show Nat.ble l m=true from Nat.ble_eq_true_of_le h4,show Nat.ble m n=true from Nat.ble_eq_true_of_le h5,show Nat.ble m m=true from Nat.ble_eq_true_of_le (qq6 m),Nat.beq_refl];simp only [Bool.and_self,cond_true,Option.map_some];by_cases hne:els=[]
   ·subst hne;simp only [List.length_nil] at q4;subst q4;obtain rfl:m=0:=by omega
    obtain rfl:l=0:=by omega
    refine .pure h (a:=_) (.d (.sl (es:=es) q1 q2 ?_ ?_ ?_ ?_ ?_)) h7
    ·simpa using q3
    ·simp
    ·intro i el hel;simp at hel
    ·intro i el j a u hel;simp at hel
    ·intro _;rfl
   ·have hes:es=inf.size:=by
     cases els with
     | nil=>exact absurd rfl hne
     | cons x l=>rw [←q5 0 x rfl];exact h8 x (by simp)
    subst hes;refine .pure h (a:=_) (.d (.sl (es:=inf.size) q1 q2 ?_ ?_ ?_ ?_ ?_)) h7
    ·have:l * inf.size+(m - l) * inf.size≤n * inf.size:=by rw [←Nat.add_mul];exact Nat.mul_le_mul_right _ (by omega)
     omega
    ·simp only [List.length_take,List.length_drop];omega
    ·intro i el hel;rw [List.getElem?_take] at hel;split at hel
     ·rw [List.getElem?_drop] at hel;exact q5 _ el hel
     ·cases hel
    ·intro i el j a u hel ha hu;rw [List.getElem?_take] at hel;split at hel
     ·rw [List.getElem?_drop] at hel;refine q6 _ el j a u hel ha ?_;rw [Nat.add_mul];rw [show o+(l * inf.size+i * inf.size)+j=o+l * inf.size+i * inf.size+j by omega];exact hu
     ·cases hel
    ·intro _;rfl
 ·rename_i j aE o n c inf he;obtain ⟨l,m,h1,h2,h3,⟨h4,h5⟩,h6,h7⟩:=hw;have n1:=dR h1 hlo;have n2:=nat h2 hhi;have n3:=nat h3 hmx
  rcases hx.dW with ⟨k,hk,rfl⟩|⟨rfl,rfl,rfl⟩
  ·unfold jw;simp only [he,n1,n2,n3];rw [show Nat.ble 1 inf.size=true from Nat.ble_eq_true_of_le h6,show Nat.ble l m=true from Nat.ble_eq_true_of_le h4,show Nat.ble m n=true from Nat.ble_eq_true_of_le h5,show Nat.ble m m=true from Nat.ble_eq_true_of_le (qq6 m),Nat.beq_refl];simp only [Bool.and_self,cond_true,Option.map_some];exact .pure h (.aL hk) h7
  ·obtain rfl:m=0:=by omega
   obtain rfl:l=0:=by omega
   unfold jw;simp only [he,n1,n2,n3];rw [show Nat.ble 1 inf.size=true from Nat.ble_eq_true_of_le h6];simp only [Nat.zero_mul,Nat.add_zero] at h7;exact .pure h (.qK (by first|(have:=hx.og;revert this;cases Nat.beq c 0 <;> simp)|simp)) h7
 ·exact hw.elim
def zeroCells (inf:sR):List Value:=(inf.zero.map fun z=>z.cells.toList).getD []
theorem xd {inf:sR} (h:bG inf=true) (n:Nat):(bP (zeroCells inf) (n * inf.size)).all bf=true:=by
 unfold bG at h;split at h
 ·rename_i z hz;simp only [qq7] at h;obtain ⟨⟨h1,h2⟩,h3⟩:=h;have h1:=Nat.eq_of_beq_eq_true h1;have h2:=Nat.le_of_ble_eq_true h2;unfold bP zeroCells;rw [hz,List.all_map,List.all_eq_true];intro i hi;simp only [Option.map_some,Option.getD_some,Function.comp];rw [List.all_eq_true] at h3;have hlt:i % z.cells.toList.length < z.cells.toList.length:=Nat.mod_lt _ (by omega);rw [List.getD_eq_getElem?_getD,List.getElem?_eq_getElem hlt];exact h3 _ (List.getElem_mem hlt)
 ·cases h
def pO (T:bC) (t:TypeId) (ln cp:AV) (hp:List AB) (K:AV→List AB→Prop):Prop :=
 match elem? T t with
 | some inf=>∃ l c:Nat,asInt ln=some (l:Int)∧asInt cp=some (c:Int)∧(l≤c∧inf.bytes * c≤140737488355328∧c≤9223372036854775807)∧bG inf=true ∧
  K (.aL hp.length 0 0 l (bif Nat.beq l c then l else c+3)) (hp++[.cells ((bP (zeroCells inf) (c * inf.size)).map .fl) inf.size 0])
 | none=>False
theorem xQ {a:AV} {n:Nat} {u:Value} (h:asInt a=some (n:Int)) (ha:AR ρ g O a u):jr u=some n:=dR (o:=some a) (o':=some u) (d:=0) h ha
theorem y7 (h:aX E base hp aC H) {t:TypeId} {ln cp:AV} {u v:Value} (hl:AR E.ρ H.get (E.O hp) ln u) (hc:AR E.ρ H.get (E.O hp) cp v) {K:AV→List AB→Prop} (hw:pO T t ln cp hp K) :
  dc base E hp aC H (iq T H.n t u v) K:=by
 unfold pO at hw;split at hw
 ·rename_i inf hi;obtain ⟨l,c,h1,h2,⟨h3,h4,h5⟩,h6,h7⟩:=hw;unfold iq;simp only [hi,xQ h1 hl,xQ h2 hc];rw [show Nat.ble l c=true from Nat.ble_eq_true_of_le h3,show Nat.ble (inf.bytes * c) 140737488355328=true from Nat.ble_eq_true_of_le h4,show Nat.ble c 9223372036854775807=true from Nat.ble_eq_true_of_le h5,h6];simp only [Bool.and_self,cond_true];exact .new h (x:=.cells ((bP (zeroCells inf) (c * inf.size)).map .fl) inf.size 0) rfl (fun E' H' e=>⟨_,rfl,.yW (xd h6 c)⟩) (fun E' hr=>.aL hr) h7
 ·exact hw.elim
def qP (T:bC) (t:TypeId) (x:AV) (hp:List AB) (K:AV→List AB→Prop):Prop :=
 match T.ty.get t,x with
 | some ⟨.slice _,_,_,_,_,_,_⟩,.sl els _=>K (.fl (.int .i64 els.length)) hp
 | some ⟨.slice _,_,_,_,_,_,_⟩,.aL _ _ _ n _=>K (.fl (.int .i64 n)) hp
 | some ⟨.slice _,_,_,_,_,_,_⟩,.fl (.slice _ n _)=>K (.fl (.int .i64 n)) hp
 | some ⟨.array n _,_,_,_,_,_,_⟩,_=>K (.fl (.int .i64 n)) hp
 | some ⟨.string,_,_,_,_,_,_⟩,.fl (.string s)=>K (.fl (.int .i64 s.data.toList.length)) hp
 | some ⟨.map ..,_,_,_,_,_,_⟩,.om j=>∃ ents clock,hp[j]?=some (.map ents clock)∧K (.fl (.int .i64 ents.length)) hp
 | _,_=>False
theorem AR.nM {j:Nat} {u:Value} (h:AR ρ g O (.om j) u):∃ k,ρ j 0=some k∧u=.map (some k):=by
 cases h with
 | d h=>cases h
 | om h=>exact ⟨_,h,rfl⟩
theorem aX.map (h:aX E base hp aC H) {j k clock:Nat} {ents:List (AV × AV × Nat)} (hj:hp[j]?=some (.map ents clock)) (hk:E.ρ j 0=some k):∃ es,H.get k=some (.map es clock)∧ents.length=es.length ∧
  ∀ (i:Nat) (k v:AV) (born:Nat) (e:MapEntry),ents[i]?=some (k,v,born)→es[i]?=some e→AR E.ρ H.get (E.O hp) k e.key∧AR E.ρ H.get (E.O hp) v e.val∧e.born=born:=by
 rcases h.gm j _ 0 hj rfl with ⟨k',b',h1,h2,h3⟩|⟨h1,_,h2⟩
 ·rw [hk] at h1;cases h1;obtain ⟨es,rfl,h4,h5⟩:=h3;exact ⟨es,h2,h4,h5⟩
 ·cases h2
theorem A0 (h:aX E base hp aC H) {t:TypeId} {x:AV} {u:Value} (hx:AR E.ρ H.get (E.O hp) x u) {K:AV→List AB→Prop} (hw:qP T t x hp K):dc base E hp aC H (jR T t u H.get) K:=by
 have num:∀ (n:Nat),AR E.ρ H.get (E.O hp) (.fl (.int .i64 n)) (.int .i64 n):=fun n=>.d (.fl rfl);unfold qP at hw;unfold jR;split at hw
 ·rename_i e s b z a f es els full hty;rw [hty]
  cases hx.iJ with
  | nil=>exact .pure h (num 0) hw
  | sl q1 q2 q3 q4 q5 q6 q7=>rw [q4] at hw;exact .pure h (num _) hw
 ·rename_i hty;rw [hty]
  rcases hx.dW with ⟨k,hk,rfl⟩|⟨rfl,rfl,rfl⟩
  ·exact .pure h (num _) hw
  ·exact .pure h (num 0) hw
 ·rename_i hty;rw [hty];obtain ⟨rfl,_⟩:=hx.eU;exact .pure h (num _) hw
 ·rename_i hty;rw [hty];exact .pure h (num _) hw
 ·rename_i hty;rw [hty];obtain ⟨rfl,_⟩:=hx.eU;exact .pure h (num _) hw
 ·rename_i j hty;rw [hty];obtain ⟨ents,clock,h1,h2⟩:=hw;obtain ⟨k,hk,rfl⟩:=hx.nM;obtain ⟨es,q1,q2,_⟩:=h.map h1 hk;simp only [q1,map?];rw [←q2];exact .pure h (num _) h2
 ·exact hw.elim
def C6 (T:bC) (args:List AV) (hp:List AB) (K:AV→List AB→Prop):Prop :=
 match args with
 | [.fl (.int .i64 x),.fl (.int .i64 y)]=>K (.fl (.int .i64 (min x y))) hp
 | l=>∃ vs,Cj l=some vs∧jk (yl T.P vs) hp K
def C7 (T:bC) (args:List AV) (hp:List AB) (K:AV→List AB→Prop):Prop :=
 match args with
 | [.fl (.int .i64 x),.fl (.int .i64 y)]=>K (.fl (.int .i64 (max x y))) hp
 | l=>∃ vs,Cj l=some vs∧jk (ym T.P vs) hp K
theorem fB.two {a b:AV} {l:List Value} (h:fB ρ g O [a,b] l):∃ u v,l=[u,v]∧AR ρ g O a u∧AR ρ g O b v:=by
 match l,h with
 | [u,v],h=>exact ⟨u,v,rfl,h.2 0 a u rfl rfl,h.2 1 b v rfl rfl⟩
 | [],h=>exact absurd h.1 (by simp)
 | [_],h=>exact absurd h.1 (by simp)
 | _ :: _ :: _ :: _,h=>exact absurd h.1 (by simp)
theorem A1 (h:aX E base hp aC H) {args:List AV} {us:List Value} (ha:fB E.ρ H.get (E.O hp) args us) {K:AV→List AB→Prop} (hw:C6 T args hp K):dc base E hp aC H (yl T.P us) K:=by
 unfold C6 at hw;split at hw
 ·rename_i x y;obtain ⟨u,v,rfl,h1,h2⟩:=ha.two;obtain ⟨rfl,_⟩:=h1.eU;obtain ⟨rfl,_⟩:=h2.eU;unfold yl;simp only
  have e:(bif DH y x then y else x)=min x y:=by
   rw [nk];by_cases hxy:y < x
   ·rw [decide_eq_true hxy];simp only [cond_true];omega
   ·rw [decide_eq_false hxy];simp only [cond_false];omega
  rw [e];exact .pure h (.d (.fl rfl)) hw
 ·obtain ⟨vs,h1,h2⟩:=hw;have:=oh h1;subst this;rw [ha.eU.1];exact cK h h2
theorem A2 (h:aX E base hp aC H) {args:List AV} {us:List Value} (ha:fB E.ρ H.get (E.O hp) args us) {K:AV→List AB→Prop} (hw:C7 T args hp K):dc base E hp aC H (ym T.P us) K:=by
 unfold C7 at hw;split at hw
 ·rename_i x y;obtain ⟨u,v,rfl,h1,h2⟩:=ha.two;obtain ⟨rfl,_⟩:=h1.eU;obtain ⟨rfl,_⟩:=h2.eU;unfold ym;simp only
  have e:(bif DH x y then y else x)=max x y:=by
   rw [nk];by_cases hxy:x < y
   ·rw [decide_eq_true hxy];simp only [cond_true];omega
   ·rw [decide_eq_false hxy];simp only [cond_false];omega
  rw [e];exact .pure h (.d (.fl rfl)) hw
 ·obtain ⟨vs,h1,h2⟩:=hw;have:=oh h1;subst this;rw [ha.eU.1];exact cK h h2
end
end Go.RM
namespace Go.RM
open Go
section
variable {T : bC} {base : Nat} {E E' : Env} {hp hp' : List AB} {aC : bJ} {H H' : Hp} {ρ : Nat → Nat → Option Nat} {g : aG} {O : Nat → Prop}
def sk:List (AV × AV × Nat)→Option (List Value)
 | []=>some []
 | (k,_,_) :: l=>match k.fV,sk l with
  | some v,some vs=>some (v :: vs)
  | _,_=>none
def fe (ρ:Nat→Nat→Option Nat) (g:aG) (O:Nat→Prop) (ents:List (AV × AV × Nat)) (es:List MapEntry):Prop :=
 ents.length=es.length∧∀ (i:Nat) (k v:AV) (born:Nat) (e:MapEntry),ents[i]?=some (k,v,born)→es[i]?=some e→AR ρ g O k e.key∧AR ρ g O v e.val∧e.born=born
theorem fe.keys:∀ {ents:List (AV × AV × Nat)} {es:List MapEntry} {ks:List Value},fe ρ g O ents es→sk ents=some ks→es.map (·.key)=ks
 | [],es,ks,h,hk=>by cases hk;have:=h.1;rw [List.length_nil] at this;rw [List.eq_nil_of_length_eq_zero this.symm];rfl
 | (k,v,b) :: ents,[],ks,h,hk=>absurd h.1 (by simp)
 | (k,v,b) :: ents,e :: es,ks,h,hk=>by
  unfold sk at hk;split at hk
  ·rename_i kv vs h1 h2;cases hk;have hh:fe ρ g O ents es:=⟨by simpa using h.1,fun i k v b e x y=>h.2 (i+1) k v b e (by simpa using x) (by simpa using y)⟩;rw [List.map_cons,hh.keys h2,(dg h1 (h.2 0 k v b e rfl rfl).1).1]
  ·cases hk
theorem fe.empty {ents:List (AV × AV × Nat)} {es:List MapEntry} (h:fe ρ g O ents es):es.isEmpty=ents.isEmpty:=by have:=h.1;cases ents <;> cases es <;> simp_all
theorem fe.get {ents:List (AV × AV × Nat)} {es:List MapEntry} (h:fe ρ g O ents es) {i:Nat} {p:AV × AV × Nat} (hi:ents[i]?=some p):∃ e,es[i]?=some e∧AR ρ g O p.1 e.key∧AR ρ g O p.2.1 e.val∧e.born=p.2.2:=by
 have hlt:i < es.length:=by rw [←h.1];exact (List.getElem?_eq_some_iff.1 hi).1
 obtain ⟨k,v,b⟩:=p;exact ⟨es[i],List.getElem?_eq_getElem hlt,h.2 i k v b _ hi (List.getElem?_eq_getElem hlt)⟩
def Fx (T:bC) (emp:Bool) (kt:TypeId) (kv:Value) (ks:List Value) (r:Option Nat):Prop:=∀ es:List MapEntry,es.map (·.key)=ks→ng T.P emp kt kv es=some r
def vN (T:bC) (t:TypeId) (m k:AV) (ok:Bool) (hp:List AB) (K:AV→List AB→Prop):Prop :=
 match m with
 | .om j=>∃ ents clock ks kv kt z r,hp[j]?=some (.map ents clock)∧sk ents=some ks∧k.fV=some kv∧jN T t=some (kt,some z)∧Fx T ents.isEmpty kt kv ks r ∧
  match r with
  | some i=>∃ e,ents[i]?=some e∧K (bif ok then .tp [e.2.1,.fl (.bool true)] else e.2.1) hp
  | none=>flat z=true∧K (bif ok then .tp [qL z,.fl (.bool false)] else qL z) hp
 | _=>False
theorem aX.Cm (h:aX E base hp aC H) {j k:Nat} {ents:List (AV × AV × Nat)} {clock:Nat} (hj:hp[j]?=some (.map ents clock)) (hk:E.ρ j 0=some k):∃ es:List MapEntry,H.get k=some (.map es clock)∧fe E.ρ H.get (E.O hp) ents es:=by obtain ⟨es,q1,q2,q3⟩:=h.map hj hk;exact ⟨es,q1,q2,q3⟩
theorem vO {a b:AV} {u v:Value} (h:AR ρ g O a u) (k:AR ρ g O b v):AR ρ g O (.tp [a,b]) (.tuple #[u,v]) :=
 .tp rfl fun i x y hx hy=>by
  match i with
  | 0=>cases hx;cases hy;exact h
  | 1=>cases hx;cases hy;exact k
  | i+2=>simp at hx
theorem vP (h:aX E base hp aC H) {t:TypeId} {m k:AV} {ok:Bool} {um uk:Value} (hm:AR E.ρ H.get (E.O hp) m um) (hk:AR E.ρ H.get (E.O hp) k uk) {K:AV→List AB→Prop} (hw:vN T t m k ok hp K) :
  dc base E hp aC H ((kE T t um uk ok H.get).map fun v=>(v,bY.none)) K:=by
 unfold vN at hw;split at hw
 ·rename_i j;obtain ⟨ents,clock,ks,kv,kt,z,r,h1,h2,h3,h4,h5,h6⟩:=hw;obtain ⟨q,hq,rfl⟩:=hm.nM;obtain ⟨es,q1,q2⟩:=h.Cm h1 hq;obtain ⟨rfl,_⟩:=dg h3 hk;have hf:=h5 es (q2.keys h2);rw [←q2.empty] at hf;have hb:((gA (.map (some q))).bind fun r=>map? (H.get r))=some (es,clock):=by show map? (H.get q)=_;rw [q1];rfl
  unfold kE;rw [h4,hb];simp only;unfold yh;rw [hf]
  cases r with
  | some i =>
   obtain ⟨e,e1,e2⟩:=h6;obtain ⟨e',f1,_,f3,_⟩:=q2.get e1;simp only [f1,Option.map_some]
   cases ok with
   | true=>exact .pure h (vO f3 (.d (.fl rfl))) e2
   | false=>exact .pure h f3 e2
  | none =>
   obtain ⟨hz,e2⟩:=h6;simp only [hz,cond_true,Option.map_some]
   cases ok with
   | true=>exact .pure h (vO (kP hz) (.d (.fl rfl))) e2
   | false=>exact .pure h (kP hz) e2
 ·exact hw.elim
def gx (T:bC) (t:TypeId) (m k:AV) (hp:List AB) (K:AV→List AB→Prop):Prop :=
 match m with
 | .om j=>∃ ents clock ks kv kt z r,hp[j]?=some (.map ents clock)∧sk ents=some ks∧k.fV=some kv∧jN T t=some (kt,some z)∧Fx T false kt kv ks r ∧
  match r with
  | some i=>∃ e,ents[i]?=some e∧(∃ ke,e.1.fV=some ke∧Instr.sameBits 10000 ke kv=true)∧K (.tp [e.2.1,.fl (.int .i64 e.2.2)]) (hp.set j (.map (ents.set i (k,e.2.1,e.2.2)) clock))
  | none=>flat z=true∧K (.tp [qL z,.fl (.int .i64 clock)]) (hp.set j (.map (ents++[(k,qL z,clock)]) (clock+1)))
 | _=>False
theorem fe.set {ents:List (AV × AV × Nat)} {es:List MapEntry} (h:fe ρ g O ents es) {i:Nat} {e:MapEntry} (he:es[i]?=some e) {k v:AV} {f:MapEntry→MapEntry} (hk:AR ρ g O k (f e).key) (hv:AR ρ g O v (f e).val):fe ρ g O (ents.set i (k,v,(f e).born)) (es.modify i f):=by
 refine ⟨by rw [List.length_set,List.length_modify];exact h.1,fun a k' v' b e' x y=>?_⟩;have hi:i < es.length:=(List.getElem?_eq_some_iff.1 he).1;by_cases ha:i=a
 ·subst ha;rw [List.getElem?_set_self (by rw [h.1];exact hi)] at x;rw [List.getElem?_modify_eq,he] at y;cases x;cases y;exact ⟨hk,hv,rfl⟩
 ·rw [List.getElem?_set_ne ha] at x;rw [List.getElem?_modify_ne _ _ ha] at y;exact h.2 a k' v' b e' x y
theorem fe.snoc {ents:List (AV × AV × Nat)} {es:List MapEntry} (h:fe ρ g O ents es) {k v:AV} {e:MapEntry} (hk:AR ρ g O k e.key) (hv:AR ρ g O v e.val):fe ρ g O (ents++[(k,v,e.born)]) (es++[e]):=by
 refine ⟨by rw [List.length_append,List.length_append,h.1];rfl,fun a k' v' b e' x y=>?_⟩;by_cases ha:a < ents.length
 ·rw [List.getElem?_append_left ha] at x;rw [List.getElem?_append_left (by rw [←h.1];exact ha)] at y;exact h.2 a k' v' b e' x y
 ·rw [List.getElem?_append_right (by omega)] at x;rw [List.getElem?_append_right (by rw [←h.1];omega),←h.1] at y
  generalize a - ents.length=c at *
  match c,x,y with
  | 0,x,y=>cases x;cases y;exact ⟨hk,hv,rfl⟩
  | c+1,x,y=>simp at x
theorem so (h:aX E base hp aC H) {t:TypeId} {m k:AV} {um uk:Value} (hm:AR E.ρ H.get (E.O hp) m um) (hk:AR E.ρ H.get (E.O hp) k uk) {K:AV→List AB→Prop} (hw:gx T t m k hp K) :
  dc base E hp aC H (ek T t um uk H.get) K:=by
 unfold gx at hw;split at hw
 ·rename_i j;obtain ⟨ents,clock,ks,kv,kt,z,r,h1,h2,h3,h4,h5,h6⟩:=hw;obtain ⟨q,hq,rfl⟩:=hm.nM;obtain ⟨es,q1,q2⟩:=h.Cm h1 hq;obtain ⟨rfl,_⟩:=dg h3 hk;have hf:=h5 es (q2.keys h2);unfold ek;simp only [h4,gA,q1,map?];unfold lB;rw [hf]
  cases r with
  | some i =>obtain ⟨e,e1,⟨ke,e2,e3⟩,e4⟩:=h6;obtain ⟨e',f1,f2,f3,f4⟩:=q2.get e1;obtain ⟨rfl,_⟩:=dg e2 f2;simp only [f1,e3,cond_true];have hs:=q2.set (k:=k) (v:=e.2.1) (f:=fun e=>{e with key:=uk}) f1 hk f3;obtain ⟨p1,p2⟩:=h.put (a:=.map (ents.set i (k,e.2.1,e'.born)) clock) (b:=.map (es.modify i fun e=>{e with key:=uk}) clock) h1 rfl rfl hq ⟨_,rfl,hs.1,hs.2⟩;rw [f4] at p1 p2;refine ⟨_,.put q _,E,_,_,rfl,e4,p1,p2,?_⟩;rw [f4];exact vO (p2.ar h.wf f3) (.d (.fl rfl))
  | none =>obtain ⟨hz,e2⟩:=h6;simp only [hz,cond_true];have hs:=q2.snoc (k:=k) (v:=qL z) (e:={key:=uk,val:=z,born:=clock}) hk (kP hz);obtain ⟨p1,p2⟩:=h.put (a:=.map (ents++[(k,qL z,clock)]) (clock+1)) (b:=.map (es++[{key:=uk,val:=z,born:=clock}]) (clock+1)) h1 rfl rfl hq ⟨_,rfl,hs.1,hs.2⟩;exact ⟨_,.put q _,E,_,_,rfl,e2,p1,p2,vO (kP hz) (.d (.fl rfl))⟩
 ·exact hw.elim
def eP (m s v:AV) (hp:List AB) (K:AV→List AB→Prop):Prop :=
 match m with
 | .om j=>∃ ents clock born i e,hp[j]?=some (.map ents clock)∧asInt s=some born∧(ents.map fun p=>((p.2.2:Nat):Int)).findIdx? (· == born)=some i∧ents[i]?=some e∧K .cA (hp.set j (.map (ents.set i (e.1,v,e.2.2)) clock))
 | _=>False
theorem fe.Jf:∀ {ents:List (AV × AV × Nat)} {es:List MapEntry},fe ρ g O ents es→es.map (fun e=>((e.born:Nat):Int))=ents.map fun p=>((p.2.2:Nat):Int)
 | [],es,h=>by have:=h.1;rw [List.length_nil] at this;rw [List.eq_nil_of_length_eq_zero this.symm];rfl
 | (k,v,b) :: ents,[],h=>absurd h.1 (by simp)
 | (k,v,b) :: ents,e :: es,h=>by have hh:fe ρ g O ents es:=⟨by simpa using h.1,fun i k v b e x y=>h.2 (i+1) k v b e (by simpa using x) (by simpa using y)⟩;rw [List.map_cons,List.map_cons,hh.Jf,(h.2 0 k v b e rfl rfl).2.2]
theorem pP (h:aX E base hp aC H) {m s v:AV} {um us uv:Value} (hm:AR E.ρ H.get (E.O hp) m um) (hs:AR E.ρ H.get (E.O hp) s us) (hv:AR E.ρ H.get (E.O hp) v uv) {K:AV→List AB→Prop} (hw:eP m s v hp K) :
  dc base E hp aC H ((cQ um us uv H.get).map fun e=>(undef,e)) K:=by
 unfold eP at hw;split at hw
 ·rename_i j;obtain ⟨ents,clock,born,i,e,h1,h2,h3,h4,h5⟩:=hw;obtain ⟨q,hq,rfl⟩:=hm.nM;obtain ⟨es,q1,q2⟩:=h.Cm h1 hq;have hb:=iK h2 hs;unfold cQ;simp only [gA,hb,q1,map?];have hi:es.findIdx? (fun e=>((e.born:Nat):Int) == born)=some i:=by rw [←q2.Jf,List.findIdx?_map] at h3;exact h3
  obtain ⟨e',f1,f2,f3,f4⟩:=q2.get h4;simp only [hi,Option.map_some];have hset:=q2.set (k:=e.1) (v:=v) (f:=fun e=>{e with val:=uv}) f1 f2 hv;obtain ⟨p1,p2⟩:=h.put (a:=.map (ents.set i (e.1,v,e'.born)) clock) (b:=.map (es.modify i fun e=>{e with val:=uv}) clock) h1 rfl rfl hq ⟨_,rfl,hset.1,hset.2⟩;rw [f4] at p1 p2;exact ⟨_,.put q _,E,.cA,_,rfl,h5,p1,p2,.cA⟩
 ·exact hw.elim
def nN (T:bC) (t:TypeId) (m k v:AV) (hp:List AB) (K:AV→List AB→Prop):Prop :=
 match m with
 | .om j=>∃ ents clock ks kv kt z r,hp[j]?=some (.map ents clock)∧sk ents=some ks∧k.fV=some kv∧jN T t=some (kt,z)∧Fx T false kt kv ks r ∧
  match r with
  | some i=>∃ e,ents[i]?=some e∧(∃ ke,e.1.fV=some ke∧Instr.sameBits 10000 ke kv=true)∧K .cA (hp.set j (.map (ents.set i (k,v,e.2.2)) clock))
  | none=>K .cA (hp.set j (.map (ents++[(k,v,clock)]) (clock+1)))
 | _=>False
theorem qQ (h:aX E base hp aC H) {t:TypeId} {m k v:AV} {um uk uv:Value} (hm:AR E.ρ H.get (E.O hp) m um) (hk:AR E.ρ H.get (E.O hp) k uk) (hv:AR E.ρ H.get (E.O hp) v uv) {K:AV→List AB→Prop} (hw:nN T t m k v hp K) :
  dc base E hp aC H ((dZ T t um uk uv H.get).map fun e=>(undef,e)) K:=by
 unfold nN at hw;split at hw
 ·rename_i j;obtain ⟨ents,clock,ks,kv,kt,z,r,h1,h2,h3,h4,h5,h6⟩:=hw;obtain ⟨q,hq,rfl⟩:=hm.nM;obtain ⟨es,q1,q2⟩:=h.Cm h1 hq;obtain ⟨rfl,_⟩:=dg h3 hk;have hf:=h5 es (q2.keys h2);unfold dZ;simp only [h4,gA,q1,map?];unfold lZ;rw [hf]
  cases r with
  | some i =>obtain ⟨e,e1,⟨ke,e2,e3⟩,e4⟩:=h6;obtain ⟨e',f1,f2,f3,f4⟩:=q2.get e1;obtain ⟨rfl,_⟩:=dg e2 f2;simp only [f1,e3,cond_true,Option.map_some];have hs:=q2.set (k:=k) (v:=v) (f:=fun e=>{e with key:=uk,val:=uv}) f1 hk hv;obtain ⟨p1,p2⟩:=h.put (a:=.map (ents.set i (k,v,e'.born)) clock) (b:=.map (es.modify i fun e=>{e with key:=uk,val:=uv}) clock) h1 rfl rfl hq ⟨_,rfl,hs.1,hs.2⟩;rw [f4] at p1 p2;exact ⟨_,.put q _,E,.cA,_,rfl,e4,p1,p2,.cA⟩
  | none =>simp only [Option.map_some];have hs:=q2.snoc (k:=k) (v:=v) (e:={key:=uk,val:=uv,born:=clock}) hk hv;obtain ⟨p1,p2⟩:=h.put (a:=.map (ents++[(k,v,clock)]) (clock+1)) (b:=.map (es++[{key:=uk,val:=uv,born:=clock}]) (clock+1)) h1 rfl rfl hq ⟨_,rfl,hs.1,hs.2⟩;exact ⟨_,.put q _,E,.cA,_,rfl,h6,p1,p2,.cA⟩
 ·exact hw.elim
def y8 (it:AV) (hp:List AB) (K:AV→List AB→Prop):Prop :=
 match it with
 | .ptr q 0 0=>∃ j since seen stepped ents clock stamp e,hp[q]?=some (.iter j since seen stepped)∧hp[j]?=some (.map ents clock)∧clock=stepped∧seen.getLast?=some stamp∧(ents.find? fun p=>p.2.2 == stamp)=some e∧K (.tp [e.1,e.2.1]) hp
 | _=>False
theorem aX.iter (h:aX E base hp aC H) {q k j since stepped:Nat} {seen:List Nat} (hj:hp[q]?=some (.iter j since seen stepped)) (hk:E.ρ q 0=some k):∃ m,H.get k=some (.iter m since seen stepped)∧E.ρ j 0=some m:=by
 rcases h.gm q _ 0 hj rfl with ⟨k',b',h1,h2,h3⟩|⟨h1,_,h2⟩
 ·rw [hk] at h1;cases h1;obtain ⟨m,rfl,h4⟩:=h3;exact ⟨m,h2,h4⟩
 ·cases h2
theorem fe.find:∀ {ents:List (AV × AV × Nat)} {es:List MapEntry} {stamp:Nat} {p:AV × AV × Nat},fe ρ g O ents es→(ents.find? fun p=>p.2.2 == stamp)=some p→∃ e,es.find? (fun e=>e.born == stamp)=some e∧AR ρ g O p.1 e.key∧AR ρ g O p.2.1 e.val
 | [],es,_,p,h,hf=>by cases hf
 | (k,v,b) :: ents,[],_,p,h,hf=>absurd h.1 (by simp)
 | (k,v,b) :: ents,e :: es,stamp,p,h,hf=>by
  have hh:fe ρ g O ents es:=⟨by simpa using h.1,fun i k v b e x y=>h.2 (i+1) k v b e (by simpa using x) (by simpa using y)⟩;obtain ⟨e1,e2,e3⟩:=h.2 0 k v b e rfl rfl;rw [List.find?_cons] at hf ⊢;dsimp only at hf;rw [e3]
  cases hb:b == stamp with
  | true =>rw [hb] at hf;cases hf;exact ⟨e,rfl,e1,e2⟩
  | false =>rw [hb] at hf;exact hh.find hf
theorem xe (h:aX E base hp aC H) {it:AV} {u:Value} (hx:AR E.ρ H.get (E.O hp) it u) {K:AV→List AB→Prop} (hw:y8 it hp K):dc base E hp aC H (rL u H.get) K:=by
 unfold y8 at hw;split at hw
 ·rename_i q;obtain ⟨j,since,seen,stepped,ents,clock,stamp,e,h1,h2,h3,h4,h5,h6⟩:=hw;obtain ⟨k,hk,rfl⟩:=hx.cX;obtain ⟨m,g1,g2⟩:=h.iter h1 hk;obtain ⟨es,q1,q2⟩:=h.Cm h2 g2;obtain ⟨e',f1,f2,f3⟩:=q2.find h5;unfold rL addr?;simp only [g1,h4,q1,map?,h3,Nat.beq_refl,cond_true,f1,Option.map_some];exact .pure h (vO f2 f3) h6
 ·exact hw.elim
def y9 (it:AV) (hp:List AB) (K:AV→List AB→Prop):Prop :=
 match it with
 | .ptr q 0 0=>∃ j since seen stepped ents clock,hp[q]?=some (.iter j since seen stepped)∧hp[j]?=some (.map ents clock)∧(∀ e ∈ ents,e.2.2 < since∧e.2.2 < stepped) ∧
  (∀ e ∈ ents,e.2.2 ∉ seen→K (.tp [.fl (.bool true),e.1,e.2.1]) (hp.set q (.iter j since (seen++[e.2.2]) clock)))∧((∀ e ∈ ents,e.2.2 ∈ seen)→K (.tp [.fl (.bool false)]) hp)
 | _=>False
theorem fe.mem {ents:List (AV × AV × Nat)} {es:List MapEntry} (h:fe ρ g O ents es) {e:MapEntry} (he:e ∈ es):∃ p ∈ ents,AR ρ g O p.1 e.key∧AR ρ g O p.2.1 e.val∧e.born=p.2.2:=by
 obtain ⟨i,hi,rfl⟩:=List.getElem_of_mem he;have hlt:i < ents.length:=by rw [h.1];exact hi
 exact ⟨ents[i],List.getElem_mem hlt,h.2 i _ _ _ _ (List.getElem?_eq_getElem hlt) (List.getElem?_eq_getElem hi)⟩
theorem fe.mem' {ents:List (AV × AV × Nat)} {es:List MapEntry} (h:fe ρ g O ents es) {p:AV × AV × Nat} (hp:p ∈ ents):∃ e ∈ es,e.born=p.2.2:=by
 obtain ⟨i,hi,rfl⟩:=List.getElem_of_mem hp;have hlt:i < es.length:=by rw [←h.1];exact hi
 exact ⟨es[i],List.getElem_mem hlt,(h.2 i _ _ _ _ (List.getElem?_eq_getElem hi) (List.getElem?_eq_getElem hlt)).2.2⟩
theorem xg (h:aX E base hp aC H) {it:AV} {u:Value} (hx:AR E.ρ H.get (E.O hp) it u) {K:AV→List AB→Prop} (hw:y9 it hp K) :
  ∃ L,pY u H.get=some L∧∀ p ∈ L,∃ E' a hp',K a hp'∧aX E' base hp' aC (H.app p.2)∧Ext base E hp H E' hp' (H.app p.2)∧AR E'.ρ (H.app p.2).get (E'.O hp') a p.1:=by
 unfold y9 at hw;split at hw
 ·rename_i q;obtain ⟨j,since,seen,stepped,ents,clock,h1,h2,h3,h4,h5⟩:=hw;obtain ⟨k,hk,rfl⟩:=hx.cX;obtain ⟨m,g1,g2⟩:=h.iter h1 hk;obtain ⟨es,q1,q2⟩:=h.Cm h2 g2;have hlow:∀ e ∈ es,e.born < since∧e.born < stepped:=fun e he=>by obtain ⟨p,hp,_,_,hb⟩:=q2.mem he;rw [hb];exact h3 p hp
  have hn:pY (.pointer (some ⟨k,0,none⟩)) H.get=uF k m since seen stepped es clock:=by show (match H.get k with|some (.iter m since seen last)=>_|_=>none)=_;rw [g1];show (match map? (H.get m) with|some (es,clock)=>_|none=>none)=_;rw [q1];rfl
  rw [hn];unfold uF
  have hc:(!seen.isEmpty && !es.isEmpty && es.all (fun e=>Nat.ble stepped e.born))=false:=by
   cases es with
   | nil=>simp
   | cons e es =>
    have:=(hlow e (by simp)).2
    have hb:Nat.ble stepped e.born=false:=by
     cases hb:Nat.ble stepped e.born with
     | false=>rfl
     | true=>exact absurd (Nat.le_of_ble_eq_true hb) (by omega)
    rw [List.all_cons,hb];simp
  rw [hc];simp only [cond_false];refine ⟨_,rfl,fun p hp=>?_⟩
  rcases List.mem_append.1 hp with hp|hp
  ·cases hemp:((es.filter fun e=>!seen.contains e.born).filter (fun e=>decide (e.born < since))).isEmpty with
   | false=>rw [hemp] at hp;cases hp
   | true =>
    rw [hemp] at hp;obtain rfl:=List.mem_singleton.1 hp;rw [List.isEmpty_iff] at hemp;refine ⟨E,_,_,h5 fun x hx=>?_,h,.refl,.d (.tp rfl fun i a v ha hv=>?_)⟩
    ·obtain ⟨e,he,hb⟩:=q2.mem' hx;apply Classical.byContradiction;intro hne;have:e ∈ (es.filter fun e=>!seen.contains e.born).filter (fun e=>decide (e.born < since)):=by rw [List.mem_filter,List.mem_filter];refine ⟨⟨he,?_⟩,decide_eq_true (hlow e he).1⟩;rw [hb];simpa using hne
     rw [hemp] at this;cases this
    ·match i with
     | 0=>cases ha;cases hv;exact .fl rfl
     | i+1=>simp at ha
  ·obtain ⟨e,he,rfl⟩:=List.mem_map.1 hp
   have hes:e ∈ es∧e.born ∉ seen:=by
    rcases List.mem_append.1 he with he|he
    ·rw [List.mem_filter,List.mem_filter] at he;exact ⟨he.1.1,by simpa using he.1.2⟩
    ·rw [List.mem_filter,List.mem_filter] at he;exact ⟨he.1.1,by simpa using he.1.2⟩
   obtain ⟨x,hx,f1,f2,f3⟩:=q2.mem hes.1;have hns:=hes.2;rw [f3] at hns ⊢;obtain ⟨p1,p2⟩:=h.put (a:=.iter j since (seen++[x.2.2]) clock) (b:=.iter m since (seen++[x.2.2]) clock) h1 rfl rfl hk ⟨m,rfl,g2⟩;refine ⟨E,_,_,h4 x hx hns,p1,p2,.tp rfl fun i a v ha hv=>?_⟩
   match i with
   | 0=>cases ha;cases hv;exact .d (.fl rfl)
   | 1=>cases ha;cases hv;exact p2.ar h.wf f1
   | 2=>cases ha;cases hv;exact p2.ar h.wf f2
   | i+3=>simp at ha
 ·exact hw.elim
end
end Go.RM
namespace Go.RM
open Go
section
variable {T : bC} {base : Nat} {E E' : Env} {hp hp' : List AB} {aC : bJ} {H H' : Hp} {ρ : Nat → Nat → Option Nat} {g : aG} {O : Nat → Prop}
def tE (hp:List AB) (size:Nat) (x:AV) (els:List (List AV)):Prop :=
 (∀ el ∈ els,el.length=size) ∧
  match x with
  | .sl els' _=>els=els'
  | .aL j aE o m _=>∃ cs es,hp[j]?=some (.cells cs es aE)∧o+m * size≤cs.length∧els.length=m∧els.flatten=(cs.drop o).take (m * size)
  | .fl (.slice none 0 0)=>els=[]
  | _=>False
theorem tE.row (h:aX E base hp aC H) {size:Nat} {x:AV} {u:Value} {els:List (List AV)} (he:tE hp size x els) (hx:AR E.ρ H.get (E.O hp) x u) :
  tP u=some els.length∧∃ cs,bF H.get size u=some cs∧fB E.ρ H.get (E.O hp) els.flatten cs:=by
 obtain ⟨h1,h2⟩:=he;split at h2
 ·rename_i els' full;subst h2
  cases hx.iJ with
  | nil=>exact ⟨rfl,[],rfl,.nil⟩
  | sl q1 q2 q3 q4 q5 q6 q7 =>
   rename_i k o n c es cs own e;refine ⟨by simp [tP,q4],?_⟩;unfold bF;simp only [q1,cells?];by_cases hne:els=[]
   ·subst hne;simp only [List.length_nil] at q4;subst q4;rw [Nat.zero_mul,mH (by omega)];exact ⟨_,rfl,by simp;exact .nil⟩
   ·have hes:es=size:=by
     cases els with
     | nil=>exact absurd rfl hne
     | cons x l=>rw [←q5 0 x rfl];exact h1 x (by simp)
    subst hes;rw [mH q3];refine ⟨_,rfl,?_,?_⟩
    ·rw [dX h1,q4];simp;omega
    ·intro i a u ha hu;have hlt:i < els.length * es:=by rw [←dX h1];exact (List.getElem?_eq_some_iff.1 ha).1
     have hes:0 < es:=by apply Nat.pos_of_ne_zero;intro h0;subst h0;omega
     have hi:i=i / es * es+i % es:=by rw [Nat.mul_comm];exact (Nat.div_add_mod i es).symm
     have hq:i / es < els.length:=(Nat.div_lt_iff_lt_mul hes).2 hlt;have hel:els[i / es]?=some els[i / es]:=List.getElem?_eq_getElem hq;have hm:i % es < es:=Nat.mod_lt _ hes;rw [hi,ec h1 _ _ _ hel hm] at ha;rw [List.getElem?_take] at hu;split at hu
     ·rw [List.getElem?_drop] at hu;refine .d (q6 _ _ (i % es) a u hel ha ?_);rw [Nat.add_assoc,←hi];exact hu
     ·cases hu
 ·rename_i j aE o m c;obtain ⟨cs,es,h3,h4,h5,h6⟩:=h2
  rcases hx.dW with ⟨k,hk,rfl⟩|⟨rfl,rfl,rfl⟩
  ·obtain ⟨cs',q1,q2⟩:=h.cells h3 hk;refine ⟨by simp [tP,h5],?_⟩;unfold bF;simp only [q1,cells?];rw [mH (by rw [←q2.1];exact h4),h6];exact ⟨_,rfl,(q2.drop o).take _⟩
  ·refine ⟨by simp [tP,h5],[],rfl,?_⟩;rw [h6];simp;exact .nil
 ·subst h2;obtain ⟨rfl,_⟩:=hx.eU;exact ⟨rfl,[],rfl,.nil⟩
 ·exact h2.elim
def i6 (T:bC) (own:Bool) (t:TypeId) (s x:AV) (hp:List AB) (K:AV→List AB→Prop):Prop :=
 match elem? T t with
 | some inf=>bG inf=true∧∃ els,tE hp inf.size x els∧els.flatten.all AV.one=true ∧
  match s with
  | .fl (.slice none 0 0)=>(els.length * inf.bytes≤140737488355328∧els.length≤9223372036854775807)∧(els=[]→K s hp)∧(els ≠ [] →
   match own with
   | true=>K (.aL hp.length 0 0 els.length (els.length+1)) (hp++[.cells els.flatten inf.size 0])
   | false=>cV els.flatten=true∧K (.sl els false) hp)
  | .sl els0 true=>(∀ el ∈ els0,el.length=inf.size)∧((els0.length+els.length) * inf.bytes≤140737488355328∧els0.length+els.length≤9223372036854775807)∧(els=[]→K s hp)∧(els ≠ [] →
   match own with
   | true=>K (.aL hp.length 0 0 (els0.length+els.length) (els0.length+els.length+1)) (hp++[.cells (els0.flatten++els.flatten) inf.size 0])
   | false=>cV els.flatten=true∧K (.sl (els0++els) false) hp)
  | .aL j aE o n c=>(o=0∧∃ cs,hp[j]?=some (.cells cs inf.size aE)∧cs.length=n * inf.size∧(c=n∨c=n+1)∧((n+els.length) * inf.bytes≤140737488355328∧n+els.length≤9223372036854775807)∧(els=[]→K s hp) ∧
   (els ≠ []→K (.aL j (aE+1) 0 (n+els.length) (n+els.length+1)) (hp.set j (.cells (cs++els.flatten) inf.size (aE+1))))) ∨
   (∃ cs es,hp[j]?=some (.cells cs es aE)∧(1≤n+els.length∧n+els.length+3≤c∧o+(n+els.length) * inf.size≤cs.length∧0 < cs.length)∧((n+els.length) * inf.bytes≤140737488355328∧n+els.length≤9223372036854775807)∧(els=[]→K s hp) ∧
   (els ≠ []→K (.aL j aE o (n+els.length) c) (hp.set j (.cells (bg cs els.flatten (o+n * inf.size)) es aE))))
  | _=>False
 | none=>False
theorem mL (a:Nat):Nat.beq a a=true:=Nat.beq_refl a
theorem uu {a b:Nat} (h:a ≠ b):Nat.beq a b=false:=by rw [Tr.beq_eq];exact decide_eq_false h
theorem si.append {a b:List AV} {a' b':List Value} (h:si g O a a') (k:si g O b b'):si g O (a++b) (a'++b'):=by
 refine ⟨by simp [h.1,k.1],fun i x u hx hu=>?_⟩;by_cases hi:i < a.length
 ·rw [List.getElem?_append_left hi] at hx;rw [List.getElem?_append_left (by rw [←h.1];exact hi)] at hu;exact h.2 i x u hx hu
 ·rw [List.getElem?_append_right (by omega)] at hx;rw [List.getElem?_append_right (by rw [←h.1];omega),←h.1] at hu;exact k.2 _ x u hx hu
theorem DR.LO {els:List (List AV)} {full:Bool} {u:Value} {size:Nat} (hx:DR g O (.sl els full) u) (h1:∀ el ∈ els,el.length=size):∃ cs,bF g size u=some cs∧si g O els.flatten cs∧tP u=some els.length:=by
 cases hx with
 | nil=>exact ⟨[],rfl,⟨rfl,fun i a u h=>by cases h⟩,rfl⟩
 | sl q1 q2 q3 q4 q5 q6 q7 =>
  rename_i k o n c es cs own e;unfold bF;simp only [q1,cells?];by_cases hne:els=[]
  ·subst hne;simp only [List.length_nil] at q4;subst q4;rw [Nat.zero_mul,mH (by omega)];exact ⟨_,rfl,⟨by simp,fun i a u h=>by cases h⟩,rfl⟩
  ·have hes:es=size:=by
    cases els with
    | nil=>exact absurd rfl hne
    | cons x l=>rw [←q5 0 x rfl];exact h1 x (by simp)
   subst hes;rw [mH q3];refine ⟨_,rfl,⟨?_,?_⟩,by simp [tP,q4]⟩
   ·rw [dX h1,q4];simp;omega
   ·intro i a u ha hu;have hlt:i < els.length * es:=by rw [←dX h1];exact (List.getElem?_eq_some_iff.1 ha).1
    have hes:0 < es:=by apply Nat.pos_of_ne_zero;intro h0;subst h0;omega
    have hi:i=i / es * es+i % es:=by rw [Nat.mul_comm];exact (Nat.div_add_mod i es).symm
    have hq:i / es < els.length:=(Nat.div_lt_iff_lt_mul hes).2 hlt;have hel:els[i / es]?=some els[i / es]:=List.getElem?_eq_getElem hq;have hm:i % es < es:=Nat.mod_lt _ hes;rw [hi,ec h1 _ _ _ hel hm] at ha;rw [List.getElem?_take] at hu;split at hu
    ·rw [List.getElem?_drop] at hu;refine q6 _ _ (i % es) a u hel ha ?_;rw [Nat.add_assoc,←hi];exact hu
    ·cases hu
theorem A3 (h:aX E base hp aC H) {own:Bool} {t:TypeId} {s x:AV} {u v:Value} (hs:AR E.ρ H.get (E.O hp) s u) (hx:AR E.ρ H.get (E.O hp) x v) {K:AV→List AB→Prop}
  (hw:i6 T own t s x hp K):dc base E hp aC H (fH T H.n t u v H.get) K:=by
 unfold i6 at hw;split at hw
 ·rename_i inf hi;obtain ⟨hz,els,he,hone,hw⟩:=hw;obtain ⟨hlen,new,hnew,hna⟩:=he.row h hx;have hone':=hna.bx hone;have hel:=he.1
  have main:∀ (n:Nat) (base':Option Addr) (cp:Nat) (old:List Value),u=.slice base' n cp→bF H.get inf.size u=some old→((n+els.length) * inf.bytes≤140737488355328∧n+els.length≤9223372036854775807) →
    fH T H.n t u v H.get=if els=[] then some (u,.none) else gh H.n inf base' n cp els.length old new H.get:=by
   intro n base' cp old hu ho hb;subst hu;unfold fH;simp only [hi,hlen,ho,hnew,hone',hz,Bool.and_true];rw [show Nat.ble ((n+els.length) * inf.bytes) 140737488355328=true from Nat.ble_eq_true_of_le hb.1,show Nat.ble (n+els.length) 9223372036854775807=true from Nat.ble_eq_true_of_le hb.2];simp only [Bool.and_self,cond_true];by_cases hne:els=[]
   ·subst hne;rfl
   ·rw [if_neg hne,uu (by simpa using hne)];rfl
  split at hw
  ·obtain ⟨hb,h0,h1⟩:=hw;obtain ⟨rfl,_⟩:=hs.eU;rw [main 0 none 0 [] rfl rfl (by simpa using hb)];by_cases hne:els=[]
   ·rw [if_pos hne];exact .pure h (.d (.fl rfl)) (h0 hne)
   ·rw [if_neg hne];have h1:=h1 hne;unfold gh;simp only [mL,cond_true,List.nil_append,Nat.zero_add];split at h1
    ·exact .new h (x:=.cells els.flatten inf.size 0) rfl (fun E' H' e=>⟨_,rfl,e.C4 h.wf hna⟩) (fun E' hr=>.aL hr) h1
    ·obtain ⟨hd,h1⟩:=h1;exact .uq h (fun e hg hO=>.d (.row hg hO hel rfl ((e.C4 h.wf hna).deep hd) (fun hf=>by cases hf))) h1
  ·rename_i els0;obtain ⟨hel0,hb,h0,h1⟩:=hw;obtain ⟨old,ho,hod,hol⟩:=hs.iJ.LO hel0
   have hsl:∃ base' ,u=.slice base' els0.length els0.length:=by
    cases hs.iJ with
    | nil=>exact ⟨_,rfl⟩
    | sl q1 q2 q3 q4 q5 q6 q7=>rw [q7 rfl,q4];exact ⟨_,rfl⟩
   obtain ⟨base',hu⟩:=hsl;rw [main els0.length base' els0.length old hu ho hb];by_cases hne:els=[]
   ·rw [if_pos hne];exact .pure h hs (h0 hne)
   ·rw [if_neg hne];have h1:=h1 hne;unfold gh;simp only [mL,cond_true];split at h1
    ·exact .new h (x:=.cells (els0.flatten++els.flatten) inf.size 0) rfl (fun E' H' e=>⟨_,rfl,e.C4 h.wf (hod.C4.append hna)⟩) (fun E' hr=>.aL hr) h1
    ·obtain ⟨hd,h1⟩:=h1;refine .uq h (fun e hg hO=>.d (.row hg hO (es:=inf.size) ?_ (by simp) ?_ (fun hf=>by cases hf))) h1
     ·intro el he
      rcases List.mem_append.1 he with he|he
      ·exact hel0 el he
      ·exact hel el he
     ·rw [List.flatten_append];exact si.append ⟨hod.1,fun i a u ha hu=>e.dr h.wf (hod.2 i a u ha hu)⟩ ((e.C4 h.wf hna).deep hd)
  ·rename_i j aE o n c
   rcases hw with ⟨rfl,cs,hj,hcs,hc,hb,h0,h1⟩|⟨cs,es,hj,⟨c1,c2,c3,c4⟩,hb,h0,h1⟩
   ·rcases hs.dW with ⟨k,hk,rfl⟩|⟨_,rfl,rfl⟩
    ·obtain ⟨cs',q1,q2⟩:=h.cells hj hk;have ho:bF H.get inf.size (.slice (some ⟨k,0,none⟩) n c)=some cs':=by unfold bF;simp only [q1,cells?];rw [mH (by rw [←q2.1,hcs];omega)];simp only [List.drop_zero];rw [List.take_of_length_le (by rw [←q2.1,hcs];omega)]
     rw [main n _ c cs' rfl ho hb];by_cases hne:els=[]
     ·rw [if_pos hne];exact .pure h hs (h0 hne)
     ·rw [if_neg hne];have h1:=h1 hne;unfold gh
      have fin:∀ (e:bY) (H1:Hp),(H1=H∨∃ k,E.ρ j aE=some k∧H1=H.put k .dead)→H.app e=H1.push (.cells (cs'++new) true inf.size) →
        dc base E hp aC H (some (.slice (some ⟨H.n,0,none⟩) (n+els.length) (n+els.length+1),e)) K:=by
       intro e H1 hH1 he;obtain ⟨E',_,r1,r2,r3⟩:=h.renew (a:=.cells (cs++els.flatten) inf.size (aE+1)) (b:=.cells (cs'++new) true inf.size) hj rfl rfl hH1 (fun E' H' _ _ e=>⟨_,rfl,e.C4 h.wf (q2.append hna)⟩);refine ⟨_,e,E',_,_,rfl,h1,by rw [he];exact r1,by rw [he];exact r2,.aL r3⟩
      by_cases hcn:c=n
      ·subst hcn;simp only [mL,cond_true];exact fin _ H (.inl rfl) rfl
      ·have hc':c=n+1:=by omega
       subst hc';rw [uu (by omega),show Nat.ble (n+els.length+3) (n+1)=false from Bool.eq_false_iff.2 (fun h=>by have:=Nat.le_of_ble_eq_true h;omega)];simp only [cond_false,q1,cells?,mL,Bool.true_and,Bool.and_true];rw [show Nat.beq cs'.length (n * inf.size)=true by rw [←q2.1,hcs];exact mL _];simp only [cond_true];exact fin _ (H.put k .dead) (.inr ⟨k,hk,rfl⟩) rfl
    ·rw [main 0 none 0 [] rfl rfl hb];by_cases hne:els=[]
     ·rw [if_pos hne];exact .pure h (.qK hs.og) (h0 hne)
     ·rw [if_neg hne];have h1:=h1 hne;have hcs0:cs=[]:=List.length_eq_zero_iff.1 (by rw [hcs];simp);subst hcs0;unfold gh;simp only [mL,cond_true,List.nil_append];obtain ⟨E',_,r1,r2,r3⟩:=h.renew (a:=.cells ([]++els.flatten) inf.size (aE+1)) (b:=.cells new true inf.size) hj rfl rfl (.inl rfl) (fun E' H' _ _ e=>⟨_,rfl,e.C4 h.wf hna⟩);exact ⟨_,.new _,E',_,_,rfl,h1,r1,r2,.aL r3⟩
   ·rcases hs.dW with ⟨k,hk,rfl⟩|⟨rfl,rfl,rfl⟩
    ·obtain ⟨cs',q1,q2⟩:=h.cells hj hk;have hmul:(n+els.length) * inf.size=n * inf.size+els.length * inf.size:=Nat.add_mul _ _ _;have ho:bF H.get inf.size (.slice (some ⟨k,o,none⟩) n c)=some ((cs'.drop o).take (n * inf.size)):=by unfold bF;simp only [q1,cells?];rw [mH (by rw [←q2.1];omega)]
     rw [main n _ c _ rfl ho hb];by_cases hne:els=[]
     ·rw [if_pos hne];exact .pure h hs (h0 hne)
     ·rw [if_neg hne];have h1:=h1 hne;unfold gh;rw [uu (by omega),show Nat.ble (n+els.length+3) c=true from Nat.ble_eq_true_of_le c2];simp only [cond_false,cond_true];unfold jM;simp only [q1,cells?];rw [show Nat.ble (o+(n+els.length) * inf.size) cs'.length=true from Nat.ble_eq_true_of_le (by rw [←q2.1];exact c3)];simp only [Bool.and_self,cond_true];obtain ⟨p1,p2⟩:=h.put (a:=.cells (bg cs els.flatten (o+n * inf.size)) es aE) (b:=.cells (splice cs' new (o+n * inf.size)) true es) hj rfl rfl hk ⟨_,rfl,q2.splice hna _⟩;exact ⟨_,.put k _,E,_,_,rfl,h1,p1,p2,.aL hk⟩
    ·have:=hs.og;omega
  ·exact hw.elim
 ·exact hw.elim
def za (T:bC) (t:TypeId) (x:AV) (hp:List AB) (K:AV→List AB→Prop):Prop :=
 match T.ty.get t,x with
 | some ⟨.string,_,_,_,_,_,_⟩,.fl (.string s)=>K (.ptr hp.length 0 0) (hp++[.dL s 0])
 | some ⟨.map ..,_,_,_,_,_,_⟩,.om j=>∃ ents clock,hp[j]?=some (.map ents clock)∧K (.ptr hp.length 0 0) (hp++[.iter j clock [] clock])
 | _,_=>False
theorem xh (h:aX E base hp aC H) {t:TypeId} {x:AV} {u:Value} (hx:AR E.ρ H.get (E.O hp) x u) {K:AV→List AB→Prop} (hw:za T t x hp K):dc base E hp aC H (rK T H.n t u H.get) K:=by
 unfold za at hw;unfold rK;split at hw
 ·rename_i hty;rw [hty];obtain ⟨rfl,_⟩:=hx.eU;exact .new h (x:=.dL _ 0) rfl (fun E' H' e=>rfl) (fun E' hr=>.ptr hr) hw
 ·rename_i j hty;rw [hty];obtain ⟨ents,clock,h1,h2⟩:=hw;obtain ⟨k,hk,rfl⟩:=hx.nM;obtain ⟨es,q1,q2,_⟩:=h.map h1 hk;simp only [q1,map?];exact .new h (x:=.iter j clock [] clock) rfl (fun E' H' e=>⟨_,rfl,e.zM _ _ _ hk⟩) (fun E' hr=>.ptr hr) h2
 ·exact hw.elim
def sq (it:AV) (hp:List AB) (K:AV→List AB→Prop):Prop :=
 match it with
 | .ptr j 0 0=>∃ s pos,hp[j]?=some (.dL s pos)∧(pos < s.data.toList.length→K (.tp [.fl (.bool true),.fl (.int .i64 pos),.fl (.int .i32 (Utf8.decode s pos).1)]) (hp.set j (.dL s (pos+(Utf8.decode s pos).2)))) ∧
  (s.data.toList.length≤pos→K (.tp [.fl (.bool false)]) hp)
 | _=>False
theorem aX.dL (h:aX E base hp aC H) {j k pos:Nat} {s:ByteArray} (hj:hp[j]?=some (.dL s pos)) (hk:E.ρ j 0=some k):H.get k=some (.dL s pos):=by
 rcases h.gm j _ 0 hj rfl with ⟨k',b',h1,h2,h3⟩|⟨h1,_,h2⟩
 ·rw [hk] at h1;cases h1;cases h3;exact h2
 ·cases h2
theorem ua (h:aX E base hp aC H) {it:AV} {u:Value} (hx:AR E.ρ H.get (E.O hp) it u) {K:AV→List AB→Prop} (hw:sq it hp K):dc base E hp aC H (jQ u H.get) K:=by
 unfold sq at hw;split at hw
 ·rename_i j;obtain ⟨s,pos,h1,h2,h3⟩:=hw;obtain ⟨k,hk,rfl⟩:=hx.cX;have hg:=h.dL h1 hk;unfold jQ addr?;simp only [hg];by_cases hlt:pos < s.data.toList.length
  ·rw [show Nat.blt pos s.data.toList.length=true from Nat.ble_eq_true_of_le hlt];simp only [cond_true];obtain ⟨p1,p2⟩:=h.put (a:=.dL s (pos+(Utf8.decode s pos).2)) (b:=.dL s (pos+(Utf8.decode s pos).2)) h1 rfl rfl hk rfl;refine ⟨_,.put k _,E,_,_,rfl,h2 hlt,p1,p2,.d (.tp rfl fun i x u hx hu=>?_)⟩
   match i with
   | 0=>cases hx;cases hu;exact .fl rfl
   | 1=>cases hx;cases hu;exact .fl rfl
   | 2=>cases hx;cases hu;exact .fl rfl
   | i+3=>simp at hx
  ·have hb:Nat.blt pos s.data.toList.length=false:=by
    cases hb:Nat.blt pos s.data.toList.length with
    | false=>rfl
    | true=>exact absurd (Nat.le_of_ble_eq_true hb) hlt
   rw [hb];simp only [cond_false];refine .pure h (.d (.tp rfl fun i x u hx hu=>?_)) (h3 (by omega))
   match i with
   | 0=>cases hx;cases hu;exact .fl rfl
   | i+1=>simp at hx
 ·exact hw.elim
def zb (T:bC) (t:TypeId) (x:AV) (hp:List AB) (K:AV→List AB→Prop):Prop :=
 match T.ty.get t,x with
 | some ⟨.map ..,_,_,_,_,_,_⟩,.om j=>∃ ents clock,hp[j]?=some (.map ents clock)∧K (.tp []) (hp.set j (.map [] clock))
 | _,_=>False
theorem xj (h:aX E base hp aC H) {t:TypeId} {x:AV} {u:Value} (hx:AR E.ρ H.get (E.O hp) x u) {K:AV→List AB→Prop} (hw:zb T t x hp K) :
  dc base E hp aC H (k6 T t u H.get) K:=by
 unfold zb at hw;split at hw
 ·rename_i j hty;obtain ⟨ents,clock,h1,h2⟩:=hw;obtain ⟨q,hq,rfl⟩:=hx.nM;obtain ⟨es,q1,q2⟩:=h.Cm h1 hq;unfold k6;simp only [hty,q1,map?];obtain ⟨p1,p2⟩:=h.put (a:=.map [] clock) (b:=.map [] clock) h1 rfl rfl hq ⟨_,rfl,rfl,fun i k v born x hx _=>by cases hx⟩;exact ⟨_,.put q _,E,.tp [],_,rfl,h2,p1,p2,.d (.tp rfl fun i x u hx _=>by cases hx)⟩
 ·exact hw.elim
def vQ (T:bC) (t:TypeId) (d x:AV) (hp:List AB) (K:AV→List AB→Prop):Prop :=
 match elem? T t,d with
 | some inf,.aL j aE o n _=>∃ els cs es,tE hp inf.size x els∧els.flatten.all AV.one=true∧hp[j]?=some (.cells cs es aE)∧(1≤n∧els.length≤n∧0 < cs.length)∧o+n * inf.size≤cs.length ∧
  K (.fl (.int .i64 (Int.ofNat els.length))) (hp.set j (.cells (bg cs els.flatten o) es aE))
 | _,_=>False
theorem zc (h:aX E base hp aC H) {t:TypeId} {d x:AV} {u v:Value} (hd:AR E.ρ H.get (E.O hp) d u) (hx:AR E.ρ H.get (E.O hp) x v) {K:AV→List AB→Prop} (hw:vQ T t d x hp K) :
  dc base E hp aC H (sS T t u v H.get) K:=by
 unfold vQ at hw;split at hw
 ·rename_i inf j aE o n c hi;obtain ⟨els,cs,es,he,hone,hj,⟨h1,h2,h3⟩,h4,h5⟩:=hw;obtain ⟨hlen,new,hnew,hna⟩:=he.row h hx;have hone':=hna.bx hone
  rcases hd.dW with ⟨k,hk,rfl⟩|⟨_,rfl,rfl⟩
  ·obtain ⟨cs',q1,q2⟩:=h.cells hj hk;unfold sS;simp only [hi,q1,cells?,hlen,hnew,hone'];rw [show Nat.ble 1 n=true from Nat.ble_eq_true_of_le h1,show Nat.ble els.length n=true from Nat.ble_eq_true_of_le h2,show Nat.ble (o+n * inf.size) cs'.length=true from Nat.ble_eq_true_of_le (by rw [←q2.1];exact h4)];simp only [Bool.and_self,cond_true];obtain ⟨p1,p2⟩:=h.put (a:=.cells (bg cs els.flatten o) es aE) (b:=.cells (splice cs' new o) true es) hj rfl rfl hk ⟨_,rfl,q2.splice hna o⟩;exact ⟨_,.put k _,E,_,_,rfl,h5,p1,p2,.d (.fl rfl)⟩
  ·omega
 ·exact hw.elim
def gJ (T:bC) (own:Bool) (b:Builtin) (args:List AV) (tys:List TypeId) (hp:List AB) (K:AV→List AB→Prop):Prop :=
 match b with
 | .len=>match args,tys with
  | [x],[t]=>qP T t x hp K
  | _,_=>False
 | .min=>C6 T args hp K
 | .max=>C7 T args hp K
 | .clear=>match args,tys with
  | [x],[t]=>zb T t x hp K
  | _,_=>False
 | .copy=>match args,tys with
  | [d,x],[t,_]=>vQ T t d x hp K
  | _,_=>False
 | .append=>match args,tys with
  | [s,x],[t,u]=>match T.ty.get u with
   | some ⟨.slice _,_,_,_,_,_,_⟩=>i6 T own t s x hp K
   | _=>False
  | _,_=>False
 | _=>False
def force (v:AV) (K:AV→Prop):Prop :=
 match v with
 | .fl x=>K (.fl x)
 | .sl a b=>K (.sl a b)
 | .pt a b=>K (.pt a b)
 | .fn a b c=>K (.fn a b c)
 | .ag a=>K (.ag a)
 | .tp a=>K (.tp a)
 | .ptr a b c=>K (.ptr a b c)
 | .aL a b c d e=>K (.aL a b c d e)
 | .om a=>K (.om a)
 | .oq a=>K (.oq a)
 | .cA=>K .cA
theorem dP {v:AV} {K:AV→Prop} (h:force v K):K v:=by cases v <;> exact h
def eB:List AV→(List AV→Prop)→Prop
 | [],K=>K []
 | a :: l,K=>force a fun a=>eB l fun l=>K (a :: l)
theorem gK:∀ {l:List AV} {K:List AV→Prop},eB l K→K l
 | [],_,h=>h
 | a :: l,K,h=>by have h1:eB l fun l=>K (a :: l):=dP h;exact gK (K:=fun l=>K (a :: l)) h1
def ki:List (Nat × AV)→(List (Nat × AV)→Prop)→Prop
 | [],K=>K []
 | (i,a) :: l,K=>force a fun a=>ki l fun l=>K ((i,a) :: l)
theorem sv:∀ {l:List (Nat × AV)} {K:List (Nat × AV)→Prop},ki l K→K l
 | [],_,h=>h
 | (i,a) :: l,K,h=>by have h1:ki l fun l=>K ((i,a) :: l):=dP (K:=fun a=>ki l fun l=>K ((i,a) :: l)) h;exact sv (K:=fun l=>K ((i,a) :: l)) h1
def wpOp (T:bC) (own:Bool) (o:Op) (fr:Nat→AV) (hp:List AB) (K:AV→List AB→Prop):Prop :=
 match o with
 | .move x=>K (bh fr x) hp
 | .assign x=>K (bh fr x) hp
 | .pick c a b=>sj (bh fr c) (bh fr a) (bh fr b) hp K
 | .alloc t=>qM T t hp K
 | .box _ x=>force (bh fr x) fun v=>xO own v hp K
 | .build t parts=>ki (parts.toList.map fun p=>(p.1,bh fr p.2)) fun ps=>mJ T t ps hp K
 | .buildSlice t len parts=>ki (parts.toList.map fun p=>(p.1,bh fr p.2)) fun ps=>dy T own t len ps hp K
 | .load t a=>fC T t (bh fr a) hp K
 | .store t a x=>force (bh fr x) fun v=>aR T t (bh fr a) v hp K
 | .fieldAddr t a i=>jC T t (bh fr a) i hp K
 | .indexAddr t a ix=>cC T t (bh fr a) (bh fr ix) hp K
 | .index t a ix=>vH T t (bh fr a) (bh fr ix) hp K
 | .field t a i=>AX T t (bh fr a) i hp K
 | .binOp o t x y _=>aQ T o t x y (bh fr x) (bh fr y) hp K
 | .unOp o _ x=>HE T o (bh fr x) hp K
 | .convert s d x=>yY T s d (bh fr x) hp K
 | .makeInterface t x=>C5 T t (bh fr x) hp K
 | .typeAssert x t d ok=>AW T t d ok (bh fr x) hp K
 | .extract x i=>jJ (bh fr x) i hp K
 | .makeFunc (.func f) first captured=>eB (first.toList.map (bh fr)) fun a=>eB (captured.toList.map (bh fr)) fun b=>K (.fn f a b) hp
 | .nilCheck x=>qO (bh fr x) hp K
 | .slice t x lo hi none=>mK T t (bh fr x) (lo.map (bh fr)) (hi.map (bh fr)) hp K
 | .slice t x lo (some hi) (some m)=>vL T t (bh fr x) (lo.map (bh fr)) (bh fr hi) (bh fr m) hp K
 | .makeSlice t l c=>pO T t (bh fr l) (bh fr c) hp K
 | .range t x=>za T t (bh fr x) hp K
 | .next it true=>sq (bh fr it) hp K
 | .makeMap _ none=>K (.om hp.length) (hp++[.map [] 0])
 | .lookup t m k ok=>vN T t (bh fr m) (bh fr k) ok hp K
 | .mapEntry t m k=>gx T t (bh fr m) (bh fr k) hp K
 | .entryStore _ m s v=>eP (bh fr m) (bh fr s) (bh fr v) hp K
 | .entry it=>y8 (bh fr it) hp K
 | .mapUpdate t m k v=>force (bh fr v) fun v=>nN T t (bh fr m) (bh fr k) v hp K
 | .call ⟨.builtin b,args,tys⟩=>eB (args.toList.map (bh fr)) fun as=>gJ T own b as tys.toList hp K
 | _=>False
theorem i7 {fr:Nat→AV} {tm:Tr Value} (h:lQ ρ g O fr tm) (l:List Operand):fB ρ g O (l.map (bh fr)) (l.map (aY tm)):=by
 induction l with
 | nil=>exact .nil
 | cons x l ih=>exact .cons (ji h x) ih
theorem xR {fr:Nat→AV} {tm:Tr Value} (h:lQ ρ g O fr tm) (l:List (Nat × Operand)):nL ρ g O (l.map fun p=>(p.1,bh fr p.2)) (l.map fun (i,x)=>(i,aY tm x)):=by
 induction l with
 | nil=>trivial
 | cons x l ih=>exact ⟨rfl,ji h _,ih⟩
theorem ze {fr:Nat→AV} {tm:Tr Value} (h:lQ ρ g O fr tm) (o:Option Operand):D8 ρ g O (o.map (bh fr)) (o.map (aY tm)):=by
 cases o with
 | none=>trivial
 | some x=>exact ji h x
theorem vR (h:aX E base hp aC H) {own:Bool} {o:Op} {fr:Nat→AV} {tm:Tr Value} (hf:lQ E.ρ H.get (E.O hp) fr tm) {K:AV→List AB→Prop} (hw:wpOp T own o fr hp K) :
  dc base E hp aC H (jt T H.n o (aY tm) H.get) K:=by
 have ev:=fun x=>ji hf x;unfold wpOp at hw;split at hw
 ·exact .pure h (ev _) hw
 ·exact .pure h (ev _) hw
 ·exact y6 h (ev _) (ev _) (ev _) hw
 ·exact w6 h hw
 ·exact AS h (ev _) (dP hw)
 ·exact w9 h (xR hf _) (sv hw)
 ·exact pN h (xR hf _) (sv hw)
 ·exact yX h (ev _) hw
 ·exact w5 h (ev _) (ev _) (dP hw)
 ·exact w7 h (ev _) hw
 ·exact qN h (ev _) (ev _) hw
 ·exact vI h (ev _) (ev _) hw
 ·exact vJ h (ev _) hw
 ·exact AU h (ev _) (ev _) hw
 ·exact Ck h (ev _) hw
 ·exact yZ h (ev _) hw
 ·exact w8 h (ev _) hw
 ·exact vG h (ev _) hw
 ·exact tZ h (ev _) hw
 ·refine .pure h (.fn ?_ ?_ ?_ ?_) (gK (gK hw))
  ·exact (i7 hf _).1
  ·exact (i7 hf _).1
  ·exact (i7 hf _).2
  ·exact (i7 hf _).2
 ·exact AY h (ev _) hw
 ·exact xb h (ev _) (ze hf _) (ze hf _) hw
 ·exact vM h (ev _) (ze hf _) (ev _) (ev _) hw
 ·exact y7 h (ev _) (ev _) hw
 ·exact xh h (ev _) hw
 ·exact ua h (ev _) hw
 ·exact .new h (x:=.map [] 0) rfl (fun E' H' e=>⟨[],rfl,rfl,fun i k v born e x=>by cases x⟩) (fun E' hr=>.om hr) hw
 ·exact vP h (ev _) (ev _) hw
 ·exact so h (ev _) (ev _) hw
 ·exact pP h (ev _) (ev _) (ev _) hw
 ·exact xe h (ev _) hw
 ·exact qQ h (ev _) (ev _) (ev _) (dP hw)
 ·rename_i b args tys;have hw:=gK hw;have hl:=i7 hf args.toList;show dc base E hp aC H (gP T H.n b (args.toList.map (aY tm)) tys.toList H.get) K;unfold gJ at hw;unfold gP;split at hw
  ·split at hw
   ·rename_i x t hx ht;rw [hx] at hl
    match hl':args.toList.map (aY tm),hl with
    | [u],hl=>simp only [ht];exact A0 h (hl.2 0 _ _ rfl rfl) hw
    | [],hl=>exact absurd hl.1 (by simp)
    | _ :: _ :: _,hl=>exact absurd hl.1 (by simp)
   ·exact hw.elim
  ·exact A1 h hl hw
  ·exact A2 h hl hw
  ·split at hw
   ·rename_i x t hx ht;rw [hx] at hl
    match hl':args.toList.map (aY tm),hl with
    | [u],hl=>simp only [ht];exact xj h (hl.2 0 _ _ rfl rfl) hw
    | [],hl=>exact absurd hl.1 (by simp)
    | _ :: _ :: _,hl=>exact absurd hl.1 (by simp)
   ·exact hw.elim
  ·split at hw
   ·rename_i d x t u hx ht;rw [hx] at hl;obtain ⟨a,b,hab,h1,h2⟩:=hl.two;rw [hab,ht];simp only;exact zc h h1 h2 hw
   ·exact hw.elim
  ·split at hw
   ·rename_i s x t u hx ht;rw [hx] at hl;obtain ⟨a,b,hab,h1,h2⟩:=hl.two;rw [hab,ht];simp only;split at hw
    ·rename_i hu;simp only [hu];exact A3 h h1 h2 hw
    ·exact hw.elim
   ·exact hw.elim
  ·exact hw.elim
 ·exact hw.elim
end
end Go.RM
