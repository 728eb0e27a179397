/-
  A layer of contracts over the abstract machine. Lemmas alone; no condition.
-/
import Derived.Test.YtpeogffeoehboaaDoorR4
import Derived.ProofKit
import Derived.Carry
namespace Go.RM
open Go Go.ChangeShapes Go.WideShapes Go.ChangeAt Go.RowKit
section
variable {P : Program} {D : Type} {enc : TypeId × Value → D}
theorem oJ (hl:laidOutB P=true) {W W':World} (hb:Below W.heap.size W W'):∀ {ts:List TypeId} {vs:List Value} {ds:List (DataW D)} {ps:List MemPlace},(ts.all fun t=>P.readableRec t && decide (t < P.types.size))=true →
  DataW.TrodAll enc P W 0 (fun _=>true) true ts vs ds ps→(∀ p ∈ ps,p.block < W.heap.size)→∀ sp:Nat→Bool,(∀ p ∈ ps,sp p.block=true)→DataW.TrodAll enc P W' 0 sp true ts vs ds ps
 | [],[],[],ps,_,h,_,sp,_=>h
 | t :: ts,v :: vs,d :: ds,ps,hr,h,hlt,sp,hs=>by
  obtain ⟨p,q,h1,h2,rfl⟩:=h
  simp only [List.all_cons,Bool.and_eq_true,decide_eq_true_eq] at hr
  refine ⟨p,q,WideElems.Trod_stays hl hr.1.1 hr.1.2 h1 (fun x hx=>hb.same (hlt x (List.mem_append_left _ hx))) (fun x hx=>hs x (List.mem_append_left _ hx)),?_,rfl⟩
  exact oJ hl hb hr.2 h2 (fun x hx=>hlt x (List.mem_append_right _ hx)) sp (fun x hx=>hs x (List.mem_append_right _ hx))
 | [],_ :: _,_,_,_,h,_,_,_=>by simp [DataW.TrodAll] at h
 | [],[],_ :: _,_,_,h,_,_,_=>by simp [DataW.TrodAll] at h
 | _ :: _,[],_,_,_,h,_,_,_=>by simp [DataW.TrodAll] at h
 | _ :: _,_ :: _,[],_,_,h,_,_,_=>by simp [DataW.TrodAll] at h
theorem sx {W:World} {base:Nat} {spare:Nat→Bool} {held:Bool}:∀ {ts:List TypeId} {vs:List Value} {ds:List (DataW D)} {ps:List MemPlace},DataW.TrodAll enc P W base spare held ts vs ds ps→ds.length=ts.length
 | [],[],[],_,_=>rfl
 | _ :: _,_ :: _,_ :: _,_,h=>by
  obtain ⟨p,q,_,h2,_⟩:=h
  simp [sx h2]
 | [],_ :: _,_,_,h=>by simp [DataW.TrodAll] at h
 | [],[],_ :: _,_,h=>by simp [DataW.TrodAll] at h
 | _ :: _,[],_,_,h=>by simp [DataW.TrodAll] at h
 | _ :: _,_ :: _,[],_,h=>by simp [DataW.TrodAll] at h
theorem Gu (hl:laidOutB P=true) {f:FuncId} {fn:Func} {s:ChangeSpec} {tb:TypeId} (hr:(fn.params.toList.all fun t=>P.readableRec t && decide (t < P.types.size))=true) (hres:fn.resultTypes=#[tb])
  (hb:P.underlying tb=some .bool) (hv:s.vars=[]) (hs:∀ (ds:List (DataW D)),ds.length=fn.params.toList.length→s.fn D ds={results:=[.lit (.bool true)],args:=ds})
  {W:World} {args:Array Value} {ds gs:List (DataW D)} {before:List MemPlace} (hW:DataW.Whole enc P fn.params.toList s.vars false W args.toList ds gs before)
  (hc:Calls P f args W fun e w'=>e=.returned (.bool true)∧Below W.heap.size W w') :
  Calls P f args W fun e W'=>∃ v,e=.returned v∧s.post enc P fn false true false false W args v W':=by
 have hlt:=hW.lt
 have hW':=hW
 obtain ⟨p,q,hA,hV,rfl,hfz,hnd⟩:=hW
 rw [hv] at hV
 obtain ⟨rfl,rfl⟩:=trodVars_none hV
 have hds:=hs ds (sx hA)
 refine hc.mono fun e W' ⟨he,hw⟩=>?_
 subst he
 have hp:∀ x ∈ p,x.block < W.heap.size:=fun x hx=>hlt x (List.mem_append_left _ hx)
 have hold:∀ x ∈ p,(fun b=>decide (b < W.heap.size)) x.block=true:=fun x hx=>by simpa using hp x hx
 have hone:DataW.TrodAll enc P W' 0 (fun _=>false) false fn.resultTypes.toList ((Value.bool true).resultList fn.resultTypes.size) [.lit (.bool true)] []:=by
  rw [hres]
  exact trodAll_mk1 (shut_bool hb true)
 have hone':DataW.TrodAll enc P W' 0 (fun _=>true) true fn.resultTypes.toList ((Value.bool true).resultList fn.resultTypes.size) [.lit (.bool true)] []:=by
  rw [hres]
  exact trodAll_mk1 (shut_bool hb true)
 have hnow:=oJ hl hw hr hA hp
 simp only [List.append_nil] at hW' hfz hnd
 refine ⟨_,rfl,ds,[],p,[],p,[],by simpa using hW',?_,?_,?_,hw.frame _,fun _=>⟨ok_one hres rfl (okWide_bool_mk hb true),_,[],([]++p)++[],⟨[]++p,[],trodAll_append (hnow _ (fun _ _=>rfl)) hone',?_,rfl,?_,?_⟩,?_⟩⟩
 ·rw [List.append_nil,hds,hres]
  exact trodAll_mk1 (shut_bool hb true)
 ·rw [List.append_nil,hds]
  exact hnow _ hold
 ·rw [List.append_nil,hds,hv]
  rfl
 ·rw [hv]
  rfl
 ·intro b off hx
  have hx':MemPlace.cell b off ∈ p:=by simpa using hx
  have hb':b < W.heap.size:=hp _ hx'
  rw [hw.frozen hb']
  exact hfz b off hx'
 ·intro ha
  cases ha
 ·intro x hx _
  simpa using hx
end
end Go.RM
namespace Go.RM
open Go
abbrev Rec:=oT→Option (List fP)
def gV (a b:Rec):Prop:=∀ j L,a j=some L→b j=some L
section
variable {T : bz} {a b : Rec}
theorem jB {α β:Type} {f g:α→Option (List β)} (h:∀ x M,f x=some M→g x=some M):∀ {L:List α} {M:List β},cz L f=some M→cz L g=some M
 | [],M,e=>by rw [wZ] at e ⊢;exact e
 | [x],M,e=>by rw [eV] at e ⊢;exact h _ _ e
 | x :: y :: l,M,e=>by
  rw [jt] at e ⊢
  cases hx:f x with
  | none=>rw [hx] at e;cases e
  | some X =>
   rw [hx] at e
   simp only [Option.map_eq_some_iff] at e
   obtain ⟨Y,hY,rfl⟩:=e
   rw [h _ _ hx]
   simp only [jB h hY,Option.map_some]
theorem IQ (h:gV a b) {o:Op} {st:St} {L:List (Value × Hp)} (e:fy T a o st=some L):fy T b o st=some L:=by
 unfold fy at e ⊢
 cases hk:dK o with
 | call f args =>
  rw [hk] at e
  simp only at e ⊢
  cases hg:cD (jr T.P st.fr f) (args.map (aP st.fr)) with
  | none=>rw [hg] at e;cases e
  | some g =>
   rw [hg] at e
   simp only at e ⊢
   cases hr:a (gI st.hp g) with
   | none=>rw [hr] at e;cases e
   | some M=>rw [hr] at e;rw [h _ _ hr];exact e
 | next it=>rw [hk] at e;exact e
 | plain=>rw [hk] at e;exact e
theorem gh (h:gV a b) (ops:List Oper):∀ (l:List Oper) (st:St) (L:List St),bw T a ops l st=some L→bw T b ops l st=some L:=by
 intro l
 induction l with
 | nil=>intro st L e;exact e
 | cons o l ih =>
  intro st L e
  rw [dS] at e ⊢
  cases hg:bf ops st.fr o.guard with
  | false=>rw [hg] at e;exact ih _ _ e
  | true =>
   rw [hg] at e
   simp only [cond_true] at e ⊢
   cases ho:fy T a o.op st with
   | none=>rw [ho] at e;cases e
   | some M =>
    rw [ho] at e
    rw [IQ h ho]
    exact jB (fun x M hx=>ih _ _ hx) e
theorem xx (h:gV a b) {o:Op} {i:Nat} {st:St} {r:Value × Hp × Tc} (e:aW T a o i st=some r):aW T b o i st=some r:=by
 unfold aW at e ⊢
 cases hk:dK o with
 | call f args =>
  rw [hk] at e
  simp only at e ⊢
  cases hg:cD (jr T.P st.fr f) (args.map (aP st.fr)) with
  | none=>rw [hg] at e;cases e
  | some g =>
   rw [hg] at e
   simp only at e ⊢
   cases hr:a (gI {st.hp with lo:=st.hp.n} g) with
   | none=>rw [hr] at e;cases e
   | some M=>rw [hr] at e;rw [h _ _ hr];exact e
 | next it=>rw [hk] at e;exact e
 | plain=>rw [hk] at e;exact e
theorem eJ (h:gV a b) (ops:Array Oper):∀ (l:List Oper) (i:Nat) (st:St) (acc:List Ev) (L:List St),bC T a ops l i st acc=some L→bC T b ops l i st acc=some L:=by
 intro l
 induction l with
 | nil=>intro i st acc L e;exact e
 | cons o l ih =>
  intro i st acc L e
  rw [aK] at e ⊢
  cases hg:bf ops.toList st.fr o.guard with
  | false=>rw [hg] at e;exact ih _ _ _ _ e
  | true =>
   rw [hg] at e
   simp only [cond_true] at e ⊢
   cases ho:aW T a o.op i st with
   | none=>rw [ho] at e;cases e
   | some r=>rw [ho] at e;rw [xx h ho];exact ih _ _ _ _ e
theorem A5 (h:gV a b) {o:Op} {i:Nat} {st:St} {P:List (Value × Hp × Tc)} (e:dQ T a o i st=some P):dQ T b o i st=some P:=by
 unfold dQ at e ⊢
 cases hk:dK o with
 | call f args =>
  rw [hk] at e
  simp only at e ⊢
  cases hg:cD (jr T.P st.fr f) (args.map (aP st.fr)) with
  | none=>rw [hg] at e;cases e
  | some g =>
   rw [hg] at e
   simp only at e ⊢
   cases hr:a (gI {st.hp with lo:=st.hp.n} g) with
   | none=>rw [hr] at e;cases e
   | some M=>rw [hr] at e;rw [h _ _ hr];exact e
 | next it=>rw [hk] at e;cases e
 | plain=>rw [hk] at e;cases e
theorem IU (h:gV a b) {ops:Array Oper} {o:Oper} {i:Nat} {st:St} {P:List (Value × Hp × Tc)} (e:iA T a ops o i st=some P):iA T b ops o i st=some P:=by
 unfold iA at e ⊢
 cases hg:bf ops.toList st.fr o.guard with
 | false=>rw [hg] at e;exact e
 | true=>rw [hg] at e;exact A5 h e
theorem lW (h:gV a b) (ops:Array Oper) {K K':St→List Ev→Option (List St)} (hK:∀ st acc L,K st acc=some L→K' st acc=some L):∀ (l:List Oper) (i:Nat) (st:St) (acc:List Ev) (L:List St),ek T a ops l K i st acc=some L→ek T b ops l K' i st acc=some L:=by
 intro l
 induction l with
 | nil=>intro i st acc L e;exact hK _ _ _ e
 | cons o l ih =>
  intro i st acc L e
  rw [ey] at e ⊢
  cases hg:bf ops.toList st.fr o.guard with
  | false=>rw [hg] at e;exact ih _ _ _ _ e
  | true =>
   rw [hg] at e
   simp only [cond_true] at e ⊢
   cases ho:aW T a o.op i st with
   | none=>rw [ho] at e;cases e
   | some r=>rw [ho] at e;rw [xx h ho];exact ih _ _ _ _ e
theorem A6 (h:gV a b) {ops:Array Oper} {c:Nat} {st:St} {acc:List Ev} {L:List St} (e:pM T a ops c st acc=some L):pM T b ops c st acc=some L:=by
 obtain ⟨o,P,h1,h2,h3,h4⟩:=oY e
 unfold pM
 simp only [h1,IU h h2,List.all_eq_true.2 h3,cond_true]
 exact jB (fun x N hx=>gh h _ _ _ _ hx) h4
theorem A7 (h:gV a b) {ops:Array Oper} {st:St} {L:List St} (e:bL T a ops st=some L):bL T b ops st=some L:=by
 rcases kL e with ⟨c,h1,h2⟩|⟨h1,M,h2,h3⟩
 ·unfold bL
  rw [h1]
  exact lW h ops (fun _ _ _=>A6 h) _ _ _ _ _ h2
 ·unfold bL
  simp only [h1,eJ h _ _ _ _ _ _ h2]
  exact jB (fun x N hx=>gh h _ _ _ _ hx) h3
theorem sy {ops:Array Oper} {e:Ev} {acc:List Ev} (h:cE T ops (e :: acc)=true):cE T ops acc=true:=by
 have hp:=gL h
 unfold cL at hp
 rw [Bool.and_eq_true] at hp
 unfold cE
 cases (acc.all fun e=>e.t.wr.isEmpty && Nat.beq e.t.a e.t.b) with
 | true=>rfl
 | false=>exact hp.2
theorem sA {r:Rec} {ops:Array Oper}:∀ (l:List Oper) (i:Nat) (st:St) (acc:List Ev) (L:List St),bC T r ops l i st acc=some L→cE T ops acc=true:=by
 intro l
 induction l with
 | nil =>
  intro i st acc L h
  rw [cZ] at h
  cases hc:cE T ops acc with
  | true=>rfl
  | false=>rw [hc] at h;cases h
 | cons o l ih =>
  intro i st acc L h
  rw [aK] at h
  cases hg:bf ops.toList st.fr o.guard with
  | false=>rw [hg] at h;exact sy (ih _ _ _ _ h)
  | true =>
   rw [hg] at h
   simp only [cond_true] at h
   cases ho:aW T r o.op i st with
   | none=>rw [ho] at h;cases h
   | some p=>rw [ho] at h;exact sy (ih _ _ _ _ h)
theorem qi {r:Rec} {ops:Array Oper}:∀ (l:List Oper) (i:Nat) (st:St) (acc:List Ev) {L:List St},bC T r ops l i st acc=some L→∃ s,L=[s]:=by
 intro l
 induction l with
 | nil =>
  intro i st acc L h
  rw [cZ] at h
  cases hc:cE T ops acc with
  | true=>rw [hc] at h;cases h;exact ⟨_,rfl⟩
  | false=>rw [hc] at h;cases h
 | cons o l ih =>
  intro i st acc L h
  rw [aK] at h
  cases hg:bf ops.toList st.fr o.guard with
  | false=>rw [hg] at h;exact ih _ _ _ h
  | true =>
   rw [hg] at h
   simp only [cond_true] at h
   cases ho:aW T r o.op i st with
   | none=>rw [ho] at h;cases h
   | some p=>rw [ho] at h;exact ih _ _ _ h
theorem uO {r:Rec} {ops:Array Oper} (l2:List Oper):∀ (l1:List Oper) (i:Nat) (st:St) (acc:List Ev),bC T r ops (l1++l2) i st acc=ek T r ops l1 (fun st acc=>bC T r ops l2 (i+l1.length) st acc) i st acc:=by
 intro l1
 induction l1 with
 | nil=>intro i st acc;rfl
 | cons o l ih =>
  intro i st acc
  rw [List.cons_append,aK,ey,List.length_cons,show i+(l.length+1)=i+1+l.length by omega]
  simp only [ih]
theorem xy {r:Rec} {ops:Array Oper} {s':St}:∀ (l:List Oper) (i:Nat) (st:St) (acc:List Ev),l.all plainO=true→bC T r ops l i st acc=some [s']→bw T r ops.toList l st=some [s']:=by
 intro l
 induction l with
 | nil =>
  intro i st acc _ h
  rw [cZ] at h
  cases hc:cE T ops acc with
  | true=>rw [hc] at h;exact h
  | false=>rw [hc] at h;cases h
 | cons o l ih =>
  intro i st acc hp h
  rw [List.all_cons,Bool.and_eq_true] at hp
  rw [aK] at h
  rw [dS]
  cases hg:bf ops.toList st.fr o.guard with
  | false=>rw [hg] at h;exact ih _ _ _ hp.2 h
  | true =>
   rw [hg] at h
   simp only [cond_true] at h ⊢
   have hk:dK o.op=.plain:=by
    have:=hp.1
    unfold plainO at this
    split at this
    ·assumption
    ·cases this
   cases ho:aW T r o.op i st with
   | none=>rw [ho] at h;cases h
   | some p =>
    obtain ⟨v,hp',t⟩:=p
    rw [ho] at h
    unfold aW at ho
    rw [hk] at ho
    simp only at ho
    split at ho
    ·rename_i ef _ hop
     cases ho
     have:fy T r o.op st=some [(v,st.hp.app ef)]:=by
      unfold fy
      simp only [hk,hop]
     rw [this]
     exact ih _ _ _ hp.2 h
    ·cases ho
theorem xA {ops:Array Oper} {c:Nat} (h:sM ops=some c):eM ops=ops.toList.length:=by
 unfold sM at h
 unfold eM
 split at h
 ·cases h
 ·rename_i hn
  simp only
theorem j9 {r:Rec} {ops:Array Oper} {st s':St} (ht:eM ops=ops.toList.length) (h:bC T r ops ops.toList 0 st []=some [s']):bL T r ops st=some [s']:=by
 unfold bL
 cases hn:sM ops with
 | none =>
  simp only
  rw [ht,List.take_length,List.drop_length,h]
  rfl
 | some c =>
  show DP T r ops c st=some [s']
  unfold sM at hn
  split at hn
  ·cases hn
  ·have hb:=List.find?_some hn
   unfold MO at hb
   rw [Bool.and_eq_true,Bool.and_eq_true] at hb
   obtain ⟨⟨h1,_⟩,h3⟩:=hb
   split at h1
   ·rename_i o ho
    have hlt:c < ops.toList.length:=(List.getElem?_eq_some_iff.1 ho).1
    have hs:ops.toList=ops.toList.take c++o :: ops.toList.drop (c+1):=by
     have e:=List.getElem?_eq_some_iff.1 ho
     rw [←e.2,List.getElem_cons_drop,List.take_append_drop]
    have h':bC T r ops (ops.toList.take c++o :: ops.toList.drop (c+1)) 0 st []=some [s']:=by rw [←hs];exact h
    rw [uO] at h'
    have hcl:(ops.toList.take c).length=c:=by rw [List.length_take];omega
    rw [hcl,Nat.zero_add] at h'
    refine lW (fun _ _ e=>e) ops (fun s acc L e=>?_) _ _ _ _ _ h'
    rw [aK] at e
    unfold pM iA
    cases hg:bf ops.toList s.fr o.guard with
    | false =>
     rw [hg] at e
     simp only [cond_false] at e
     obtain ⟨s2,rfl⟩:∃ s2,L=[s2]:=qi _ _ _ _ e
     simp only [ho,hg,cond_false,List.all_cons,List.all_nil,Bool.and_true]
     rw [sA _ _ _ _ _ e]
     simp only [cond_true]
     rw [eV]
     exact xy _ _ _ _ h3 e
    | true =>
    rw [hg] at e
    simp only [cond_true] at e
    cases hd:aW T r o.op c s with
    | none=>rw [hd] at e;cases e
    | some p =>
     obtain ⟨v,hp,t⟩:=p
     rw [hd] at e
     simp only at e
     obtain ⟨s2,rfl⟩:∃ s2,L=[s2]:=qi _ _ _ _ e
     have hm:dQ T r o.op c s=some [(v,hp,t)]:=by
      have hk:∃ f as,dK o.op=.call f as:=by
       unfold F3 at h1
       split at h1
       ·rename_i e1;rw [e1];exact ⟨_,_,rfl⟩
       ·cases h1
      obtain ⟨f,as,hk⟩:=hk
      unfold aW at hd
      unfold dQ
      simp only [hk] at hd ⊢
      split at hd
      ·rename_i g hg
       split at hd
       ·rename_i v0 hp0 hr
        simp only [hr]
        rw [eV]
        show some [iU c s v0 hp0]=_
        rw [Option.some.inj hd]
       ·cases hd
      ·cases hd
     simp only [ho,hg,cond_true,hm,List.all_cons,List.all_nil,Bool.and_true]
     rw [sA _ _ _ _ _ e]
     simp only [cond_true]
     rw [eV]
     exact xy _ _ _ _ h3 e
   ·cases h1
theorem eA (h:gV a b):∀ (c:Code) (st:St) (L:List (Exit × St)),bl T a c st=some L→bl T b c st=some L:=by
 intro c
 induction c with
 | skip=>intro st L e;exact e
 | region id ops draw =>
  intro st L e
  rw [dc] at e ⊢
  cases draw with
  | false =>
   simp only [cond_false] at e ⊢
   cases ho:bw T a ops.toList ops.toList st with
   | none=>rw [ho] at e;cases e
   | some M=>rw [ho] at e;rw [gh h _ _ _ _ ho];exact e
  | true =>
   simp only [cond_true] at e ⊢
   cases ho:bL T a ops st with
   | none=>rw [ho] at e;cases e
   | some M =>
    rw [ho] at e
    rw [A7 h ho]
    exact e
 | seq c d ihc ihd =>
  intro st L e
  rw [nM] at e ⊢
  cases ho:bl T a c st with
  | none=>rw [ho] at e;cases e
  | some M =>
   rw [ho] at e
   rw [ihc _ _ ho]
   refine jB (fun p N hp=>?_) e
   unfold tE at hp ⊢
   split at hp
   ·exact ihd _ _ hp
   ·exact hp
 | cond c x y ihx ihy =>
  intro st L e
  rw [ju] at e ⊢
  split at e
  ·rename_i t ht
   cases t with
   | true=>exact ihx _ _ e
   | false=>exact ihy _ _ e
  ·cases e
 | block id c ih =>
  intro st L e
  rw [jZ] at e ⊢
  cases ho:bl T a c st with
  | none=>rw [ho] at e;cases e
  | some M=>rw [ho] at e;rw [ih _ _ ho];exact e
 | loop c ih =>
  intro st L e
  rw [lN] at e ⊢
  cases ho:a (.loop c st) with
  | none=>rw [ho] at e;cases e
  | some M=>rw [ho] at e;rw [h _ _ ho];exact e
 | rangeFunc f ps x y ihx ihy =>
  intro st L e
  rw [j5] at e ⊢
  unfold lG at e ⊢
  split at e
  ·rename_i g args hg
   cases ho:a (.call g args (st.hp.push (.loop .ready none st.fr ps x y))) with
   | none=>rw [ho] at e;cases e
   | some M=>rw [ho] at e;rw [h _ _ ho];exact e
  ·cases e
 | exit id=>intro st L e;exact e
 | scope c ih =>
  intro st L e
  rw [j6] at e ⊢
  obtain ⟨e1,e2⟩:=mX e
  rw [ih _ _ e1]
  rw [e1] at e
  exact e
 | label l=>intro st L e;exact e
 | goto l=>intro st L e;exact e
 | ret=>intro st L e;exact e
 | refuse y=>intro st L e;exact e
theorem IV (h:gV a b):gV (gJ T a) (gJ T b):=by
 intro j L e
 cases j with
 | call f args hp =>
  rw [jv] at e ⊢
  split at e
  ·rename_i fn hf
   split at e
   ·rename_i c hc
    cases ho:bl T a c ⟨setArgs .leaf 0 args,hp,false⟩ with
    | none=>rw [ho] at e;cases e
    | some M=>rw [ho] at e;rw [eA h _ _ _ ho];exact e
   ·cases e
  ·cases e
 | round l args hp =>
  rw [mY] at e ⊢
  split at e
  ·rename_i pend fr ps as bd hl
   cases hb:Nat.beq args.length ps.toList.length with
   | false=>rw [hb] at e;cases e
   | true =>
    rw [hb] at e
    simp only [cond_true] at e ⊢
    cases ho:bl T a as ⟨eo fr (ps.toList.zip args),hp,true⟩ with
    | none=>rw [ho] at e;cases e
    | some M =>
     rw [ho] at e
     rw [eA h _ _ _ ho]
     refine jB (fun p N hp=>?_) e
     unfold cA at hp ⊢
     split at hp
     ·split at hp
      ·rename_i pend2 fr2 ps2 as2 bd2 hl2
       cases hq:bl T a bd ⟨p.2.fr,p.2.hp.put l (.loop .busy pend2 fr2 ps2 as2 bd2),true⟩ with
       | none=>rw [hq] at hp;cases hp
       | some M2=>rw [hq] at hp;rw [eA h _ _ _ hq];exact hp
      ·cases hp
     ·cases hp
  ·cases e
 | loop c st =>
  rw [oZ] at e ⊢
  cases ho:bl T a c st with
  | none=>rw [ho] at e;cases e
  | some M =>
   rw [ho] at e
   rw [eA h _ _ _ ho]
   refine jB (fun p N hp=>?_) e
   unfold eu at hp ⊢
   split at hp
   ·exact h _ _ hp
   ·exact hp
theorem Mt {tab:List XE} (h:gV a b):gV (rx tab a) (rx tab b):=by
 intro j L e
 cases j with
 | call f args H =>
  unfold rx at e ⊢
  simp only at e ⊢
  split at e
  ·exact e
  ·exact h _ _ e
 | round l args H=>exact h _ _ e
 | loop c st=>exact h _ _ e
end
variable {T : bz} {tab : List XE}
theorem Fg (n:Nat) (j:oT):sX tab T (n+1) j=gJ T (rx tab (sX tab T n)) j:=rfl
theorem IW (n:Nat):gV (sX tab T n) (sX tab T (n+1)):=by
 induction n with
 | zero=>intro j L e;cases e
 | succ n ih=>intro j L e;rw [Fg] at e ⊢;exact IV (Mt ih) _ _ e
theorem Kg {n m:Nat} (h:n≤m):gV (sX tab T n) (sX tab T m):=by
 induction h with
 | refl=>exact fun _ _ e=>e
 | step _ ih=>exact fun j L e=>IW _ _ _ (ih j L e)
noncomputable def RX (T:bz) (tab:List XE) (n:Nat):Rec:=rx tab (sX tab T n)
theorem dD {n m:Nat} (h:n≤m):gV (RX T tab n) (RX T tab m):=Mt (Kg h)
theorem Kh (n:Nat) (c:Code) (st:St):RX T tab (n+1) (.loop c st)=gJ T (RX T tab n) (.loop c st):=rfl
theorem IX (n:Nat) (l:Nat) (args:List Value) (H:Hp):RX T tab (n+1) (.round l args H)=gJ T (RX T tab n) (.round l args H):=rfl
theorem y8 (n:Nat) (f:FuncId) (args:List Value) (H:Hp):RX T tab (n+1) (.call f args H)=match look tab f args H with
 | some (v,H')=>some [.ret v H']
 | none=>gJ T (RX T tab n) (.call f args H):=rfl
end Go.RM
namespace Go.RM
open Go
inductive AV where
 | fl (v:Value)
 | sl (els:List (List AV)) (full:Bool)
 | pt (cs:List AV) (o:Nat)
 | fn (f:FuncId) (first caps:List AV)
 | ag (cs:List AV)
 | tp (vs:List AV)
 | ptr (j aB o:Nat)
 | bO (j aB o n c:Nat)
 | om (j:Nat)
 | oq (u:Value)
 | bP
inductive AB where
 | cells (cs:List AV) (es aB:Nat)
 | cV (s:ByteArray) (pos:Nat)
 | map (aH:List (AV × AV × Nat)) (clock:Nat)
 | iter (j since:Nat) (seen:List Nat) (stepped:Nat)
 | gone
def AB.ver?:AB→Option Nat
 | .cells _ _ v=>some v
 | .gone=>none
 | _=>some 0
inductive DR (g:aF) (O:Nat→Prop):AV→Value→Prop
 | fl {v:Value}:aV v=true→DR g O (.fl v) v
 | oq {u:Value} (h:RM.bh u=true):DR g O (.oq u) u
 | nil {full:Bool}:DR g O (.sl [] full) (.slice none 0 0)
 | sl {els:List (List AV)} {full:Bool} {k o n c es:Nat} {cs:List Value} {own:Bool} {e:Nat} (hg:g k=some (.cells cs own e)) (hO:¬ O k) (hlen:o+n * es≤cs.length) (hn:els.length=n)
  (hel:∀ (i:Nat) (el:List AV),els[i]?=some el→el.length=es)
  (h:∀ (i:Nat) (el:List AV) (j:Nat) (a:AV) (u:Value),els[i]?=some el→el[j]?=some a→cs[o+i * es+j]?=some u→DR g O a u) (hc:full=true→c=n):DR g O (.sl els full) (.slice (some ⟨k,o,none⟩) n c)
 | pt {l:List AV} {k d o:Nat} {cs:List Value} {own:Bool} {e:Nat} (hg:g k=some (.cells cs own e)) (hO:¬ O k) (hlen:d+l.length≤cs.length)
  (h:∀ (i:Nat) (a:AV) (u:Value),l[i]?=some a→cs[d+i]?=some u→DR g O a u):DR g O (.pt l o) (.pointer (some ⟨k,d+o,none⟩))
 | fn {f:FuncId} {a b:List AV} {a' b':Array Value} (ha:a.length=a'.toList.length) (hb:b.length=b'.toList.length)
  (h1:∀ (i:Nat) (x:AV) (u:Value),a[i]?=some x→a'.toList[i]?=some u→DR g O x u) (h2:∀ (i:Nat) (x:AV) (u:Value),b[i]?=some x→b'.toList[i]?=some u→DR g O x u):DR g O (.fn f a b) (.func (.func f) a' b')
 | ag {a:List AV} {a':Array Value} (ha:a.length=a'.toList.length) (h1:∀ (i:Nat) (x:AV) (u:Value),a[i]?=some x→a'.toList[i]?=some u→DR g O x u):DR g O (.ag a) (.agg a')
 | tp {a:List AV} {a':Array Value} (ha:a.length=a'.toList.length) (h1:∀ (i:Nat) (x:AV) (u:Value),a[i]?=some x→a'.toList[i]?=some u→DR g O x u):DR g O (.tp a) (.tuple a')
inductive AR (ρ:Nat→Nat→Option Nat) (g:aF) (O:Nat→Prop):AV→Value→Prop
 | d {v:AV} {u:Value}:DR g O v u→AR ρ g O v u
 | bP {u:Value}:AR ρ g O .bP u
 | ptr {j aB o k:Nat}:ρ j aB=some k→AR ρ g O (.ptr j aB o) (.pointer (some ⟨k,o,none⟩))
 | bO {j aB o n c k:Nat}:ρ j aB=some k→AR ρ g O (.bO j aB o n c) (.slice (some ⟨k,o,none⟩) n c)
 | pe {j aB c:Nat}:AR ρ g O (.bO j aB 0 0 c) (.slice none 0 0)
 | om {j k:Nat}:ρ j 0=some k→AR ρ g O (.om j) (.map (some k))
 | fn {f:FuncId} {a b:List AV} {a' b':Array Value} (ha:a.length=a'.toList.length) (hb:b.length=b'.toList.length)
  (h1:∀ (i:Nat) (x:AV) (u:Value),a[i]?=some x→a'.toList[i]?=some u→AR ρ g O x u) (h2:∀ (i:Nat) (x:AV) (u:Value),b[i]?=some x→b'.toList[i]?=some u→AR ρ g O x u):AR ρ g O (.fn f a b) (.func (.func f) a' b')
 | ag {a:List AV} {a':Array Value} (ha:a.length=a'.toList.length) (h1:∀ (i:Nat) (x:AV) (u:Value),a[i]?=some x→a'.toList[i]?=some u→AR ρ g O x u):AR ρ g O (.ag a) (.agg a')
 | tp {a:List AV} {a':Array Value} (ha:a.length=a'.toList.length) (h1:∀ (i:Nat) (x:AV) (u:Value),a[i]?=some x→a'.toList[i]?=some u→AR ρ g O x u):AR ρ g O (.tp a) (.tuple a')
def qj (g:aF) (O:Nat→Prop) (l:List AV) (l':List Value):Prop:=l.length=l'.length∧∀ (i:Nat) (a:AV) (u:Value),l[i]?=some a→l'[i]?=some u→DR g O a u
def fC (ρ:Nat→Nat→Option Nat) (g:aF) (O:Nat→Prop) (l:List AV) (l':List Value):Prop:=l.length=l'.length∧∀ (i:Nat) (a:AV) (u:Value),l[i]?=some a→l'[i]?=some u→AR ρ g O a u
mutual
def AV.deep:AV→Bool
 | .fl _=>true
 | .sl _ _=>true
 | .pt _ _=>true
 | .fn _ a b=>cK a && cK b
 | .ag a=>cK a
 | .tp a=>cK a
 | .oq _=>true
 | _=>false
def cK:List AV→Bool
 | []=>true
 | a :: l=>a.deep && cK l
end
theorem gu:∀ {l:List AV},cK l=true→∀ (i:Nat) (a:AV),l[i]?=some a→a.deep=true
 | [],_,i,a,h=>by cases h
 | x :: l,h,i,a,ha=>by
  simp only [cK,Bool.and_eq_true] at h
  cases i with
  | zero=>cases ha;exact h.1
  | succ i=>exact gu h.2 i a (by simpa using ha)
section
variable {ρ ρ' : Nat → Nat → Option Nat} {g g' : aF} {O O' : Nat → Prop}
theorem AR.deep {v:AV} {u:Value} (h:AR ρ g O v u):v.deep=true→DR g O v u:=by
 induction h with
 | d h=>intro _;exact h
 | fn ha hb h1 h2 ih1 ih2 =>
  intro hd
  simp only [AV.deep,Bool.and_eq_true] at hd
  exact .fn ha hb (fun i x u hx hu=>ih1 i x u hx hu (gu hd.1 i x hx)) (fun i x u hx hu=>ih2 i x u hx hu (gu hd.2 i x hx))
 | ag ha h1 ih=>intro hd;simp only [AV.deep] at hd;exact .ag ha (fun i x u hx hu=>ih i x u hx hu (gu hd i x hx))
 | tp ha h1 ih=>intro hd;simp only [AV.deep] at hd;exact .tp ha (fun i x u hx hu=>ih i x u hx hu (gu hd i x hx))
 | _=>intro hd;simp [AV.deep] at hd
theorem DR.mono {v:AV} {u:Value} (h:DR g O v u) (hg:∀ k b,g k=some b→¬ O k→g' k=some b∧¬ O' k):DR g' O' v u:=by
 induction h with
 | fl h=>exact .fl h
 | oq h=>exact .oq h
 | nil=>exact .nil
 | sl h1 h2 h3 h4 h5 h6 h7 ih=>exact .sl (hg _ _ h1 h2).1 (hg _ _ h1 h2).2 h3 h4 h5 ih h7
 | pt h1 h2 h3 h4 ih=>exact .pt (hg _ _ h1 h2).1 (hg _ _ h1 h2).2 h3 ih
 | fn ha hb h1 h2 ih1 ih2=>exact .fn ha hb ih1 ih2
 | ag ha h1 ih=>exact .ag ha ih
 | tp ha h1 ih=>exact .tp ha ih
theorem AR.mono {v:AV} {u:Value} (h:AR ρ g O v u) (hr:∀ j aB k,ρ j aB=some k→ρ' j aB=some k) (hg:∀ k b,g k=some b→¬ O k→g' k=some b∧¬ O' k):AR ρ' g' O' v u:=by
 induction h with
 | d h=>exact .d (h.mono hg)
 | bP=>exact .bP
 | ptr h=>exact .ptr (hr _ _ _ h)
 | bO h=>exact .bO (hr _ _ _ h)
 | pe=>exact .pe
 | om h=>exact .om (hr _ _ _ h)
 | fn ha hb h1 h2 ih1 ih2=>exact .fn ha hb ih1 ih2
 | ag ha h1 ih=>exact .ag ha ih
 | tp ha h1 ih=>exact .tp ha ih
theorem fC.mono {l:List AV} {l':List Value} (h:fC ρ g O l l') (hr:∀ j aB k,ρ j aB=some k→ρ' j aB=some k) (hg:∀ k b,g k=some b→¬ O k→g' k=some b∧¬ O' k):fC ρ' g' O' l l' :=
 ⟨h.1,fun i a u ha hu=>(h.2 i a u ha hu).mono hr hg⟩
theorem fC.nil:fC ρ g O [] []:=⟨rfl,fun i a u h=>by cases h⟩
theorem fC.cons {a:AV} {u:Value} {l:List AV} {l':List Value} (h:AR ρ g O a u) (t:fC ρ g O l l'):fC ρ g O (a :: l) (u :: l') :=
 ⟨by simp [t.1],fun i b v hb hv=>by
  cases i with
  | zero=>cases hb;cases hv;exact h
  | succ i=>exact t.2 i b v (by simpa using hb) (by simpa using hv)⟩
theorem fC.append {a b:List AV} {a' b':List Value} (h:fC ρ g O a a') (k:fC ρ g O b b'):fC ρ g O (a++b) (a'++b'):=by
 refine ⟨by simp [h.1,k.1],fun i x u hx hu=>?_⟩
 by_cases hi:i < a.length
 ·rw [List.getElem?_append_left hi] at hx
  rw [List.getElem?_append_left (by rw [←h.1];exact hi)] at hu
  exact h.2 i x u hx hu
 ·rw [List.getElem?_append_right (by omega)] at hx
  rw [List.getElem?_append_right (by rw [←h.1];omega),←h.1] at hu
  exact k.2 _ x u hx hu
theorem fC.take {a:List AV} {a':List Value} (h:fC ρ g O a a') (n:Nat):fC ρ g O (a.take n) (a'.take n):=by
 refine ⟨by simp [h.1],fun i x u hx hu=>?_⟩
 rw [List.getElem?_take] at hx hu
 split at hx
 ·rw [if_pos (by assumption)] at hu;exact h.2 i x u hx hu
 ·cases hx
theorem fC.drop {a:List AV} {a':List Value} (h:fC ρ g O a a') (n:Nat):fC ρ g O (a.drop n) (a'.drop n):=by
 refine ⟨by simp [h.1],fun i x u hx hu=>?_⟩
 rw [List.getElem?_drop] at hx hu
 exact h.2 _ x u hx hu
theorem fC.get {l:List AV} {l':List Value} (h:fC ρ g O l l') {i:Nat} {a:AV} (ha:l[i]?=some a):∃ u,l'[i]?=some u∧AR ρ g O a u:=by
 have hi:i < l'.length:=by rw [←h.1];exact (List.getElem?_eq_some_iff.1 ha).1
 exact ⟨l'[i],List.getElem?_eq_getElem hi,h.2 i a _ ha (List.getElem?_eq_getElem hi)⟩
theorem fC.deep {l:List AV} {l':List Value} (h:fC ρ g O l l') (hd:cK l=true):qj g O l l':=⟨h.1,fun i a u ha hu=>(h.2 i a u ha hu).deep (gu hd i a ha)⟩
theorem qj.zS {l:List AV} {l':List Value} (h:qj g O l l'):fC ρ g O l l':=⟨h.1,fun i a u ha hu=>.d (h.2 i a u ha hu)⟩
def AV.one:AV→Bool
 | .fl _|.sl ..|.pt ..|.fn ..|.ptr ..|.bO ..|.om _|.oq _=>true
 | _=>false
theorem AR.bh {v:AV} {u:Value} (h:AR ρ g O v u) (ho:v.one=true):RM.bh u=true:=by
 cases h with
 | d h =>
  cases h with
  | fl h=>cases u <;> first|rfl|simp [aV] at h
  | oq h=>exact h
  | _=>first|rfl|simp [AV.one] at ho
 | _=>first|rfl|simp [AV.one] at ho
theorem fC.bh {l:List AV} {l':List Value} (h:fC ρ g O l l') (ho:l.all AV.one=true):l'.all RM.bh=true:=by
 rw [List.all_eq_true] at ho ⊢
 intro u hu
 obtain ⟨i,hi,rfl⟩:=List.getElem_of_mem hu
 have hi':i < l.length:=by rw [h.1];exact hi
 exact (h.2 i l[i] _ (List.getElem?_eq_getElem hi') (List.getElem?_eq_getElem hi)).bh (ho _ (List.getElem_mem hi'))
def AV.cells:AV→List AV
 | .ag cs=>cs
 | v=>[v]
def AV.jC:AV→Bool
 | .ag _=>true
 | v=>v.one
theorem Fh {u:Value} (h:RM.bh u=true):u.cells.toList=[u]:=by
 cases u <;> first|rfl|cases h
theorem AR.cells {v:AV} {u:Value} (h:AR ρ g O v u) (hc:v.jC=true):fC ρ g O v.cells u.cells.toList:=by
 cases v with
 | ag cs =>
  cases h with
  | d h=>cases h with
   | ag ha h1=>exact ⟨ha,fun i a u x y=>.d (h1 i a u x y)⟩
  | ag ha h1=>exact ⟨ha,h1⟩
 | bP=>simp [AV.jC,AV.one] at hc
 | tp=>simp [AV.jC,AV.one] at hc
 | _=>rw [Fh (h.bh rfl)];exact .cons h .nil
theorem AR.eG {v u:Value} (h:AR ρ g O (.fl v) u):u=v∧aV v=true:=by
 cases h with
 | d h=>cases h with
  | fl h=>exact ⟨rfl,h⟩
theorem fC.eG {l:List Value} {l':List Value} (h:fC ρ g O (l.map .fl) l'):l'=l∧l.all aV=true:=by
 have key:∀ (i:Nat) (v u:Value),l[i]?=some v→l'[i]?=some u→u=v∧aV v=true:=fun i v u hv hu=>(h.2 i (.fl v) u (by simp [hv]) hu).eG
 have hlen:l.length=l'.length:=by simpa using h.1
 refine ⟨List.ext_getElem? fun i=>?_,?_⟩
 ·by_cases hi:i < l.length
  ·rw [List.getElem?_eq_getElem hi,List.getElem?_eq_getElem (by omega:i < l'.length),(key i _ _ (List.getElem?_eq_getElem hi) (List.getElem?_eq_getElem (by omega))).1]
  ·rw [List.getElem?_eq_none (by omega),List.getElem?_eq_none (by omega)]
 ·rw [List.all_eq_true]
  intro x hx
  obtain ⟨i,hi,rfl⟩:=List.getElem_of_mem hx
  exact (key i _ _ (List.getElem?_eq_getElem hi) (List.getElem?_eq_getElem (by omega))).2
theorem fC.y9 {l:List Value} (h:l.all aV=true):fC ρ g O (l.map .fl) l:=by
 refine ⟨by simp,fun i a u ha hu=>?_⟩
 rw [List.getElem?_map,hu] at ha
 cases ha
 exact .d (.fl (List.all_eq_true.1 h u (List.mem_of_getElem? hu)))
end
structure bR where
 P:(Nat→Prop)→(Nat→Prop)→aF→Nat→Prop
 st:∀ {D S:Nat→Prop} {g g':aF} {n n':Nat},P D S g n→(∀ k,S k→g' k=g k)→n≤n'→P D S g' n'
def bR.none:bR:=⟨fun _ _ _ _=>True,fun _ _ _=>trivial⟩
structure Env where
 ρ:Nat→Nat→Option Nat
 D:Nat→Prop
 S:Nat→Prop
 X:Nat→Prop
def Own (ρ:Nat→Nat→Option Nat) (hp:List AB) (k:Nat):Prop:=∃ (j:Nat) (b:AB) (aB:Nat),hp[j]?=some b∧b.ver?=some aB∧ρ j aB=some k
def Env.O (E:Env) (hp:List AB) (k:Nat):Prop:=Own E.ρ hp k∨E.X k
def BR (ρ:Nat→Nat→Option Nat) (g:aF) (O:Nat→Prop):AB→aZ→Prop
 | .cells cs es _,b'=>∃ cs',b'=.cells cs' true es∧fC ρ g O cs cs'
 | .cV s p,b'=>b'=.cV s p
 | .map aH clock,b'=>∃ es:List MapEntry,b'=.map es clock∧aH.length=es.length∧∀ (i:Nat) (k v:AV) (born:Nat) (e:MapEntry),aH[i]?=some (k,v,born)→es[i]?=some e→AR ρ g O k e.key∧AR ρ g O v e.val∧e.born=born
 | .iter j since seen stepped,b'=>∃ m,b'=.iter m since seen stepped∧ρ j 0=some m
 | .gone,_=>False
structure aS (E:Env) (base:Nat) (hp:List AB) (aE:bR) (H:Hp):Prop where
 wf:Wf H
 fQ:∀ (j:Nat) (b:AB) (aB:Nat),hp[j]?=some b→b.ver?=some aB→(∃ k b',E.ρ j aB=some k∧H.get k=some b'∧BR E.ρ H.get (E.O hp) b b')∨(E.ρ j aB=none∧∃ es,b=.cells [] es aB)
 inj:∀ (j j' aB ver' k:Nat),E.ρ j aB=some k→E.ρ j' ver'=some k→j=j'
 rn:∀ (j v k:Nat),E.ρ j v=some k→k < H.n
 fresh:∀ (j:Nat) (b:AB) (aB v:Nat),hp[j]?=some b→b.ver?=some aB→aB < v→E.ρ j v=none
 new:∀ j v,hp.length≤j→E.ρ j v=none
 sup:∀ k,Own E.ρ hp k→¬ E.S k
 iH:∀ k,Own E.ρ hp k→¬ E.X k
 dx:∀ k,E.D k→E.X k
 ds:∀ k,E.D k→E.S k
 sn:∀ k,E.S k→k < H.n
 xn:∀ k,E.X k→k < H.n
 oK:∀ k,Own E.ρ hp k∨E.D k→base≤k
 bn:base≤H.n
 aE:aE.P E.D E.S H.get H.n
structure Ext (base:Nat) (E:Env) (hp:List AB) (H:Hp) (E':Env) (hp':List AB) (H':Hp):Prop where
 n:H.n≤H'.n
 d:E'.D=E.D
 s:E'.S=E.S
 x:E'.X=E.X
 A8:∀ j v k,E.ρ j v=some k→E'.ρ j v=some k
 own:∀ k,Own E'.ρ hp' k→Own E.ρ hp k∨H.n≤k
 same:∀ k,k < H.n→¬ Own E.ρ hp k→H'.get k=H.get k
 lo:min H.lo base≤H'.lo
section
variable {base : Nat} {E E' E2 : Env} {hp hp' hp2 : List AB} {aE : bR} {H H' H2 : Hp}
theorem Wf.lt (h:Wf H) {k:Nat} {b:aZ} (hk:H.get k=some b):k < H.n:=by
 apply Nat.lt_of_not_le
 intro hle
 rw [h k hle] at hk
 cases hk
theorem Ext.refl:Ext base E hp H E hp H:=⟨Nat.le_refl _,rfl,rfl,rfl,fun _ _ _ h=>h,fun _ h=>.inl h,fun _ _ _=>rfl,Nat.min_le_left _ _⟩
theorem Ext.trans (a:Ext base E hp H E' hp' H') (b:Ext base E' hp' H' E2 hp2 H2):Ext base E hp H E2 hp2 H2:=by
 refine ⟨Nat.le_trans a.n b.n,b.d.trans a.d,b.s.trans a.s,b.x.trans a.x,fun j v k h=>b.A8 j v k (a.A8 j v k h),fun k h=>?_,fun k hk ho=>?_,?_⟩
 ·rcases b.own k h with h|h
  ·exact a.own k h
  ·exact .inr (Nat.le_trans a.n h)
 ·rw [b.same k (Nat.lt_of_lt_of_le hk a.n) (fun h=>(a.own k h).elim ho (fun h=>by omega)),a.same k hk ho]
 ·have:=a.lo;have:=b.lo;omega
theorem Ext.keep (e:Ext base E hp H E' hp' H') (hw:Wf H):∀ k b,H.get k=some b→¬ E.O hp k→H'.get k=some b∧¬ E'.O hp' k:=by
 intro k b hk ho
 have hlt:=hw.lt hk
 refine ⟨by rw [e.same k hlt (fun h=>ho (.inl h))];exact hk,fun h=>?_⟩
 rcases h with h|h
 ·rcases e.own k h with h|h
  ·exact ho (.inl h)
  ·omega
 ·rw [e.x] at h;exact ho (.inr h)
theorem Ext.ar (e:Ext base E hp H E' hp' H') (hw:Wf H) {v:AV} {u:Value} (h:AR E.ρ H.get (E.O hp) v u):AR E'.ρ H'.get (E'.O hp') v u:=h.mono e.A8 (e.keep hw)
theorem Ext.dr (e:Ext base E hp H E' hp' H') (hw:Wf H) {v:AV} {u:Value} (h:DR H.get (E.O hp) v u):DR H'.get (E'.O hp') v u:=h.mono (e.keep hw)
theorem Ext.zS (e:Ext base E hp H E' hp' H') (hw:Wf H) {v:List AV} {u:List Value} (h:fC E.ρ H.get (E.O hp) v u):fC E'.ρ H'.get (E'.O hp') v u:=h.mono e.A8 (e.keep hw)
theorem Ext.br (e:Ext base E hp H E' hp' H') (hw:Wf H) {b:AB} {b':aZ} (h:BR E.ρ H.get (E.O hp) b b'):BR E'.ρ H'.get (E'.O hp') b b':=by
 cases b with
 | cells cs es aB=>obtain ⟨cs',rfl,h⟩:=h;exact ⟨cs',rfl,e.zS hw h⟩
 | cV s p=>exact h
 | map aH clock =>
  obtain ⟨es,rfl,h1,h2⟩:=h
  exact ⟨es,rfl,h1,fun i k v born x hx hy=>⟨e.ar hw (h2 i k v born x hx hy).1,e.ar hw (h2 i k v born x hx hy).2.1,(h2 i k v born x hx hy).2.2⟩⟩
 | iter j since seen stepped=>obtain ⟨m,rfl,h⟩:=h;exact ⟨m,rfl,e.A8 _ _ _ h⟩
 | gone=>exact h
theorem aS.iI (h:aS E base hp aE H) {k:Nat} (ho:Own E.ρ hp k):k < H.n:=by
 obtain ⟨j,b,aB,h1,h2,h3⟩:=ho
 rcases h.fQ j b aB h1 h2 with ⟨k',b',h4,h5,_⟩|⟨h4,_⟩
 ·rw [h3] at h4;cases h4;exact h.wf.lt h5
 ·rw [h3] at h4;cases h4
def cT (ρ:Nat→Nat→Option Nat) (j v k:Nat):Nat→Nat→Option Nat:=fun i w=>if i=j∧w=v then some k else ρ i w
theorem hJ (ρ:Nat→Nat→Option Nat) (j v k:Nat):cT ρ j v k j v=some k:=by simp [cT]
theorem uP (ρ:Nat→Nat→Option Nat) {j v k i w:Nat} (h:¬ (i=j∧w=v)):cT ρ j v k i w=ρ i w:=if_neg h
theorem bU {b:aZ} {k:Nat} (h:k < H.n):(H.push b).get k=H.get k:=by rw [Hp.ew,if_neg (by omega)]
theorem hU {b:aZ}:(H.push b).get H.n=some b:=by rw [Hp.ew,if_pos rfl]
theorem bG {b:aZ} {k i:Nat} (h:k ≠ i):(H.put i b).get k=H.get k:=by rw [Hp.iZ,if_neg h]
theorem gM {b:aZ} {i:Nat}:(H.put i b).get i=some b:=by rw [Hp.iZ,if_pos rfl]
theorem aS.IY (h:aS E base hp aE H) (b:aZ):aS E base hp aE (H.push b)∧Ext base E hp H E hp (H.push b)∧¬ E.O hp H.n:=by
 have e:Ext base E hp H E hp (H.push b):=⟨Nat.le_succ _,rfl,rfl,rfl,fun _ _ _ h=>h,fun _ h=>.inl h,fun k hk _=>bU hk,Nat.min_le_left _ _⟩
 refine ⟨⟨(dB.push H b).wf h.wf,fun j x aB hj hv=>?_,h.inj,fun j v k hk=>Nat.lt_succ_of_lt (h.rn j v k hk),h.fresh,h.new,h.sup,h.iH,h.dx,h.ds,fun k hk=>Nat.lt_succ_of_lt (h.sn k hk),fun k hk=>Nat.lt_succ_of_lt (h.xn k hk),h.oK,Nat.le_succ_of_le h.bn,aE.st h.aE (fun k hk=>bU (h.sn k hk)) (Nat.le_succ _)⟩,e,fun ho=>?_⟩
 ·rcases h.fQ j x aB hj hv with ⟨k,b',h1,h2,h3⟩|h1
  ·exact .inl ⟨k,b',h1,by rw [bU (h.wf.lt h2)];exact h2,e.br h.wf h3⟩
  ·exact .inr h1
 ·rcases ho with ho|ho
  ·have:=h.iI ho;omega
  ·have:=h.xn _ ho;omega
theorem aS.push (h:aS E base hp aE H) {a:AB} {b:aZ} (hv:a.ver?=some 0)
  (hb:∀ E' H',E'={E with ρ:=cT E.ρ hp.length 0 H.n}→H'=H.push b→Ext base E hp H E' (hp++[a]) H'→BR E'.ρ H'.get (E'.O (hp++[a])) a b) :
  ∃ E',E'={E with ρ:=cT E.ρ hp.length 0 H.n}∧aS E' base (hp++[a]) aE (H.push b)∧Ext base E hp H E' (hp++[a]) (H.push b)∧E'.ρ hp.length 0=some H.n:=by
 have hold:∀ j v,j ≠ hp.length→cT E.ρ hp.length 0 H.n j v=E.ρ j v:=fun j v hj=>uP _ (fun h=>hj h.1)
 have hget:∀ (j:Nat) (x:AB),(hp++[a])[j]?=some x→(j < hp.length∧hp[j]?=some x)∨(j=hp.length∧x=a):=by
  intro j x hj
  by_cases hlt:j < hp.length
  ·rw [List.getElem?_append_left hlt] at hj;exact .inl ⟨hlt,hj⟩
  ·rw [List.getElem?_append_right (by omega)] at hj
   have:j - hp.length=0:=by
    apply Nat.eq_zero_of_not_pos
    intro hp0
    rw [List.getElem?_eq_none (by simp;omega)] at hj
    cases hj
   rw [this] at hj
   cases hj
   exact .inr ⟨by omega,rfl⟩
 have hown:∀ k,Own (cT E.ρ hp.length 0 H.n) (hp++[a]) k→Own E.ρ hp k∨k=H.n:=by
  rintro k ⟨j,x,aB,h1,h2,h3⟩
  rcases hget j x h1 with ⟨hlt,h1⟩|⟨rfl,rfl⟩
  ·rw [hold j aB (by omega)] at h3;exact .inl ⟨j,x,aB,h1,h2,h3⟩
  ·rw [hv] at h2;cases h2
   rw [hJ] at h3;cases h3;exact .inr rfl
 have hownr:∀ k,Own E.ρ hp k→Own (cT E.ρ hp.length 0 H.n) (hp++[a]) k:=by
  rintro k ⟨j,x,aB,h1,h2,h3⟩
  have hlt:j < hp.length:=(List.getElem?_eq_some_iff.1 h1).1
  exact ⟨j,x,aB,by rw [List.getElem?_append_left hlt];exact h1,h2,by rw [hold j aB (by omega)];exact h3⟩
 have e:Ext base E hp H {E with ρ:=cT E.ρ hp.length 0 H.n} (hp++[a]) (H.push b):=by
  refine ⟨Nat.le_succ _,rfl,rfl,rfl,fun j v k hk=>?_,fun k hk=>(hown k hk).imp id (fun h=>by omega),fun k hk _=>bU hk,Nat.min_le_left _ _⟩
  show cT _ _ _ _ j v=_
  rw [hold j v (fun hj=>by subst hj;rw [h.new _ v (Nat.le_refl _)] at hk;cases hk)]
  exact hk
 refine ⟨_,rfl,⟨(dB.push H b).wf h.wf,fun j x aB hj hvx=>?_,fun j j' aB ver' k h1 h2=>?_,fun j v k hk=>?_,fun j x aB v h1 h2 h3=>?_,fun j v hj=>?_,fun k hk=>?_,fun k hk=>?_,h.dx,h.ds,fun k hk=>Nat.lt_succ_of_lt (h.sn k hk),fun k hk=>Nat.lt_succ_of_lt (h.xn k hk),fun k hk=>?_,Nat.le_succ_of_le h.bn,aE.st h.aE (fun k hk=>bU (h.sn k hk)) (Nat.le_succ _)⟩,e,hJ _ _ _ _⟩
 ·rcases hget j x hj with ⟨hlt,h1⟩|⟨rfl,rfl⟩
  ·rcases h.fQ j x aB h1 hvx with ⟨k,b',q1,q2,q3⟩|⟨q1,q2⟩
   ·exact .inl ⟨k,b',by show cT _ _ _ _ _ _=_;rw [hold j aB (by omega)];exact q1,by rw [bU (h.wf.lt q2)];exact q2,e.br h.wf q3⟩
   ·exact .inr ⟨by show cT _ _ _ _ _ _=_;rw [hold j aB (by omega)];exact q1,q2⟩
  ·rw [hv] at hvx;cases hvx
   exact .inl ⟨H.n,b,hJ _ _ _ _,hU,hb _ _ rfl rfl e⟩
 ·have key:∀ (j aB:Nat),cT E.ρ hp.length 0 H.n j aB=some k→(E.ρ j aB=some k∧k < H.n)∨(j=hp.length∧k=H.n):=by
   intro j aB q
   unfold cT at q
   split at q
   ·rename_i hc
    cases q
    exact .inr ⟨hc.1,rfl⟩
   ·exact .inl ⟨q,h.rn _ _ _ q⟩
  rcases key j aB h1 with ⟨a1,a2⟩|⟨a1,a2⟩
  ·rcases key j' ver' h2 with ⟨b1,b2⟩|⟨b1,b2⟩
   ·exact h.inj j j' aB ver' k a1 b1
   ·omega
  ·rcases key j' ver' h2 with ⟨b1,b2⟩|⟨b1,b2⟩
   ·omega
   ·omega
 ·have hk:cT E.ρ hp.length 0 H.n j v=some k:=hk
  unfold cT at hk
  show k < H.n+1
  split at hk
  ·cases hk;omega
  ·have:=h.rn _ _ _ hk;omega
 ·rcases hget j x h1 with ⟨hlt,q1⟩|⟨rfl,rfl⟩
  ·show cT _ _ _ _ _ _=_;rw [hold j v (by omega)];exact h.fresh j x aB v q1 h2 h3
  ·show cT _ _ _ _ _ _=_;rw [uP _ (by omega)];exact h.new _ _ (Nat.le_refl _)
 ·show cT _ _ _ _ _ _=_
  simp only [List.length_append,List.length_cons,List.length_nil] at hj
  rw [hold j v (by omega)];exact h.new j v (by omega)
 ·rcases hown k hk with hk|rfl
  ·exact h.sup k hk
  ·exact fun hs=>by have:=h.sn _ hs;omega
 ·rcases hown k hk with hk|rfl
  ·exact h.iH k hk
  ·exact fun hs=>by have:=h.xn _ hs;omega
 ·rcases hk with hk|hk
  ·rcases hown k hk with hk|rfl
   ·exact h.oK k (.inl hk)
   ·exact h.bn
  ·exact h.oK k (.inr hk)
theorem aS.put (h:aS E base hp aE H) {j aB k:Nat} {a0 a:AB} {b:aZ} (hj:hp[j]?=some a0) (hv0:a0.ver?=some aB) (hv:a.ver?=some aB) (hk:E.ρ j aB=some k)
  (hb:BR E.ρ H.get (E.O hp) a b) :
  aS E base (hp.set j a) aE (H.put k b)∧Ext base E hp H E (hp.set j a) (H.put k b):=by
 have hlt:j < hp.length:=(List.getElem?_eq_some_iff.1 hj).1
 have hok:Own E.ρ hp k:=⟨j,a0,aB,hj,hv0,hk⟩
 have hkn:=h.iI hok
 have hget:∀ (i:Nat) (x:AB),(hp.set j a)[i]?=some x→(i ≠ j∧hp[i]?=some x)∨(i=j∧x=a):=by
  intro i x hi
  by_cases hij:i=j
  ·subst hij;rw [List.getElem?_set_self hlt] at hi;cases hi;exact .inr ⟨rfl,rfl⟩
  ·rw [List.getElem?_set_ne (Ne.symm hij)] at hi;exact .inl ⟨hij,hi⟩
 have hown:∀ k',Own E.ρ (hp.set j a) k'→Own E.ρ hp k':=by
  rintro k' ⟨i,x,v,h1,h2,h3⟩
  rcases hget i x h1 with ⟨hij,h1⟩|⟨rfl,rfl⟩
  ·exact ⟨i,x,v,h1,h2,h3⟩
  ·rw [hv] at h2;cases h2;exact ⟨_,a0,_,hj,hv0,h3⟩
 have hbase:=h.oK k (.inl hok)
 have e:Ext base E hp H E (hp.set j a) (H.put k b):=by
  refine ⟨Nat.le_refl _,rfl,rfl,rfl,fun _ _ _ h=>h,fun k' h'=>.inl (hown k' h'),fun k' _ hn=>bG (fun e=>hn (e ▸ hok)),?_⟩
  show _≤min H.lo k
  omega
 have hwf:Wf (H.put k b):=fun i hi=>by rw [bG (by have:H.n≤i:=hi;omega)];exact h.wf i hi
 refine ⟨⟨hwf,fun i x v hi hvx=>?_,h.inj,h.rn,fun i x v w h1 h2 h3=>?_,fun i v hi=>h.new i v (by simpa using hi),fun k' hk'=>h.sup k' (hown k' hk'),fun k' hk'=>h.iH k' (hown k' hk'),h.dx,h.ds,h.sn,h.xn,fun k' hk'=>h.oK k' (hk'.imp (hown k') id),h.bn,aE.st h.aE (fun k' hs=>bG (fun e=>h.sup k hok (e ▸ hs))) (Nat.le_refl _)⟩,e⟩
 ·rcases hget i x hi with ⟨hij,h1⟩|⟨rfl,rfl⟩
  ·rcases h.fQ i x v h1 hvx with ⟨k',b',q1,q2,q3⟩|q
   ·refine .inl ⟨k',b',q1,?_,e.br h.wf q3⟩
    rw [bG (fun e=>hij (h.inj i j v aB k' q1 (by rw [hk,e])))]
    exact q2
   ·exact .inr q
  ·rw [hv] at hvx;cases hvx
   exact .inl ⟨k,b,hk,gM,e.br h.wf hb⟩
 ·rcases hget i x h1 with ⟨hij,q1⟩|⟨rfl,rfl⟩
  ·exact h.fresh i x v w q1 h2 h3
  ·rw [hv] at h2;cases h2;exact h.fresh _ a0 _ w hj hv0 h3
theorem aS.renew (h:aS E base hp aE H) {j aB:Nat} {a0 a:AB} {H1:Hp} {b:aZ} (hj:hp[j]?=some a0) (hv0:a0.ver?=some aB) (hv:a.ver?=some (aB+1))
  (h1:H1=H∨∃ k,E.ρ j aB=some k∧H1=H.put k .dead)
  (hb:∀ E' H',E'={E with ρ:=cT E.ρ j (aB+1) H.n}→H'=H1.push b→Ext base E hp H E' (hp.set j a) H'→BR E'.ρ H'.get (E'.O (hp.set j a)) a b) :
  ∃ E',E'={E with ρ:=cT E.ρ j (aB+1) H.n}∧aS E' base (hp.set j a) aE (H1.push b)∧Ext base E hp H E' (hp.set j a) (H1.push b)∧E'.ρ j (aB+1)=some H.n:=by
 have hlt:j < hp.length:=(List.getElem?_eq_some_iff.1 hj).1
 have hn1:H1.n=H.n:=by rcases h1 with rfl|⟨k,_,rfl⟩ <;> rfl
 have hw1:Wf H1:=by
  rcases h1 with rfl|⟨k,hk,rfl⟩
  ·exact h.wf
  ·have:=h.iI ⟨j,a0,aB,hj,hv0,hk⟩
   exact fun i hi=>by have:H.n≤i:=hi;rw [bG (by omega)];exact h.wf i hi
 have hg1:∀ k,¬ E.ρ j aB=some k→H1.get k=H.get k:=by
  intro k hk
  rcases h1 with rfl|⟨k',hk',rfl⟩
  ·rfl
  ·exact bG (fun e=>hk (e ▸ hk'))
 have hnone:E.ρ j (aB+1)=none:=h.fresh j a0 aB _ hj hv0 (Nat.lt_succ_self _)
 have hold:∀ i v,¬ (i=j∧v=aB+1)→cT E.ρ j (aB+1) H.n i v=E.ρ i v:=fun i v hne=>uP _ hne
 have hget:∀ (i:Nat) (x:AB),(hp.set j a)[i]?=some x→(i ≠ j∧hp[i]?=some x)∨(i=j∧x=a):=by
  intro i x hi
  by_cases hij:i=j
  ·subst hij;rw [List.getElem?_set_self hlt] at hi;cases hi;exact .inr ⟨rfl,rfl⟩
  ·rw [List.getElem?_set_ne (Ne.symm hij)] at hi;exact .inl ⟨hij,hi⟩
 have hown:∀ k,Own (cT E.ρ j (aB+1) H.n) (hp.set j a) k→(Own E.ρ hp k∧¬ E.ρ j aB=some k)∨k=H.n:=by
  rintro k ⟨i,x,v,q1,q2,q3⟩
  rcases hget i x q1 with ⟨hij,q1⟩|⟨rfl,rfl⟩
  ·rw [hold i v (fun e=>hij e.1)] at q3
   exact .inl ⟨⟨i,x,v,q1,q2,q3⟩,fun e=>hij (h.inj i j v aB k q3 e)⟩
  ·rw [hv] at q2;cases q2;rw [hJ] at q3;cases q3;exact .inr rfl
 have e:Ext base E hp H {E with ρ:=cT E.ρ j (aB+1) H.n} (hp.set j a) (H1.push b):=by
  refine ⟨by show H.n≤H1.n+1;omega,rfl,rfl,rfl,fun i v k hk=>?_,fun k hk=>(hown k hk).imp And.left (fun h=>by omega),fun k hk hn=>?_,?_⟩
  ·show cT _ _ _ _ _ _=_
   rw [hold i v (fun e=>by rw [e.1,e.2,hnone] at hk;cases hk)];exact hk
  ·rw [bU (by omega),hg1 k (fun e=>hn ⟨j,a0,aB,hj,hv0,e⟩)]
  ·show _≤H1.lo
   rcases h1 with rfl|⟨k,hk,rfl⟩
   ·exact Nat.min_le_left _ _
   ·have:=h.oK k (.inl ⟨j,a0,aB,hj,hv0,hk⟩)
    show _≤min H.lo k
    omega
 refine ⟨_,rfl,⟨(dB.push H1 b).wf hw1,fun i x v hi hvx=>?_,fun i i' v v' k q1 q2=>?_,fun i v k hk=>?_,fun i x v w q1 q2 q3=>?_,fun i v hi=>?_,fun k hk=>?_,fun k hk=>?_,h.dx,h.ds,fun k hk=>?_,fun k hk=>?_,fun k hk=>?_,?_,aE.st h.aE (fun k hk=>?_) (by rw [←hn1];exact Nat.le_succ _)⟩,e,hJ _ _ _ _⟩
 ·rcases hget i x hi with ⟨hij,q⟩|⟨rfl,rfl⟩
  ·rcases h.fQ i x v q hvx with ⟨k,b',q1,q2,q3⟩|⟨q1,q2⟩
   ·refine .inl ⟨k,b',by show cT _ _ _ _ _ _=_;rw [hold i v (fun e=>hij e.1)];exact q1,?_,e.br h.wf q3⟩
    rw [bU (by rw [hn1];exact h.wf.lt q2),hg1 k (fun e=>hij (h.inj i j v aB k q1 e))]
    exact q2
   ·exact .inr ⟨by show cT _ _ _ _ _ _=_;rw [hold i v (fun e=>hij e.1)];exact q1,q2⟩
  ·rw [hv] at hvx;cases hvx
   refine .inl ⟨H.n,b,hJ _ _ _ _,?_,hb _ _ rfl rfl e⟩
   rw [←hn1];exact hU
 ·have key:∀ (i v:Nat),cT E.ρ j (aB+1) H.n i v=some k→(E.ρ i v=some k∧k < H.n)∨(i=j∧k=H.n):=by
   intro i v q
   unfold cT at q
   split at q
   ·rename_i hc
    cases q
    exact .inr ⟨hc.1,rfl⟩
   ·exact .inl ⟨q,h.rn _ _ _ q⟩
  rcases key i v q1 with ⟨a1,a2⟩|⟨a1,a2⟩
  ·rcases key i' v' q2 with ⟨b1,b2⟩|⟨b1,b2⟩
   ·exact h.inj i i' v v' k a1 b1
   ·omega
  ·rcases key i' v' q2 with ⟨b1,b2⟩|⟨b1,b2⟩
   ·omega
   ·omega
 ·have hk:cT E.ρ j (aB+1) H.n i v=some k:=hk
  unfold cT at hk
  show k < H1.n+1
  split at hk
  ·cases hk;omega
  ·have:=h.rn _ _ _ hk;omega
 ·rcases hget i x q1 with ⟨hij,r1⟩|⟨rfl,rfl⟩
  ·show cT _ _ _ _ _ _=_;rw [hold i w (fun e=>hij e.1)];exact h.fresh i x v w r1 q2 q3
  ·rw [hv] at q2;cases q2
   show cT _ _ _ _ _ _=_;rw [hold _ w (by omega)];exact h.fresh _ a0 _ w hj hv0 (by omega)
 ·show cT _ _ _ _ _ _=_
  simp only [List.length_set] at hi
  rw [hold i v (by omega)];exact h.new i v hi
 ·rcases hown k hk with hk|rfl
  ·exact h.sup k hk.1
  ·exact fun hs=>by have:=h.sn _ hs;omega
 ·rcases hown k hk with hk|rfl
  ·exact h.iH k hk.1
  ·exact fun hs=>by have:=h.xn _ hs;omega
 ·have:=h.sn k hk;show k < H1.n+1;omega
 ·have:=h.xn k hk;show k < H1.n+1;omega
 ·rcases hk with hk|hk
  ·rcases hown k hk with hk|rfl
   ·exact h.oK k (.inl hk.1)
   ·exact h.bn
  ·exact h.oK k (.inr hk)
 ·have:=h.bn;show base≤H1.n+1;omega
 ·have hkn:=h.sn k hk
  rw [bU (by omega),hg1 k (fun e'=>h.sup k ⟨j,a0,aB,hj,hv0,e'⟩ hk)]
end
end Go.RM
namespace Go.RM
open Go
def qk (v:Value):AV :=
 match v with
 | .agg cs=>.ag (cs.toList.map .fl)
 | .tuple _=>.tp []
 | v=>.fl v
def aO (fr:Nat→AV):Operand→AV
 | .tmp t=>fr t
 | .const v=>bif flat v then qk v else .bP
 | .func f=>.fn f [] []
 | .global _=>.bP
section
variable {T : bz} {base : Nat} {E E' : Env} {hp hp' : List AB} {aE : bR} {H H' : Hp} {ρ : Nat → Nat → Option Nat} {g : aF} {O : Nat → Prop}
theorem kg {v:Value} (h:flat v=true):AR ρ g O (qk v) v:=by
 unfold qk
 split
 ·simp only [flat] at h
  have:=fC.y9 (ρ:=ρ) (g:=g) (O:=O) h
  exact .ag this.1 this.2
 ·rename_i cs
  simp only [flat,List.isEmpty_iff] at h
  exact .tp (by rw [h];rfl) (fun i x u hx=>by cases hx)
 ·rename_i h1 h2
  refine .d (.fl ?_)
  unfold flat at h
  split at h
  ·exact absurd rfl (h1 _)
  ·exact absurd rfl (h2 _)
  ·exact h
def iJ (ρ:Nat→Nat→Option Nat) (g:aF) (O:Nat→Prop) (fr:Nat→AV) (tm:Tr Value):Prop:=∀ t,AR ρ g O (fr t) ((tm.get t).getD undef)
theorem h9 {fr:Nat→AV} {tm:Tr Value} (h:iJ ρ g O fr tm) (x:Operand):AR ρ g O (aO fr x) (aP tm x):=by
 cases x with
 | tmp t=>exact h t
 | const v =>
  show AR ρ g O (bif flat v then qk v else .bP) v
  cases hf:flat v with
  | true=>exact kg hf
  | false=>exact .bP
 | global g=>exact .bP
 | func f=>exact .fn rfl rfl (fun i x u hx=>by cases hx) (fun i x u hx=>by cases hx)
def dM (base:Nat) (E:Env) (hp:List AB) (aE:bR) (H:Hp) (r:Option (Value × bN)) (K:AV→List AB→Prop):Prop :=
 ∃ u e E' a hp',r=some (u,e)∧K a hp'∧aS E' base hp' aE (H.app e)∧Ext base E hp H E' hp' (H.app e)∧AR E'.ρ (H.app e).get (E'.O hp') a u
theorem dM.pure {K:AV→List AB→Prop} (h:aS E base hp aE H) {u:Value} {a:AV} (ha:AR E.ρ H.get (E.O hp) a u) (hk:K a hp):dM base E hp aE H (some (u,.none)) K :=
 ⟨u,.none,E,a,hp,rfl,hk,h,.refl,ha⟩
theorem dM.s8 {K:AV→List AB→Prop} (h:aS E base hp aE H) {u:Value} {a:AV} {b:aZ}
  (ha:Ext base E hp H E hp (H.push b)→(H.push b).get H.n=some b→¬ E.O hp H.n→AR E.ρ (H.push b).get (E.O hp) a u) (hk:K a hp):dM base E hp aE H (some (u,.new b)) K:=by
 obtain ⟨h1,h2,h3⟩:=h.IY b
 exact ⟨u,.new b,E,a,hp,rfl,hk,h1,h2,ha h2 hU h3⟩
theorem dM.new {K:AV→List AB→Prop} (h:aS E base hp aE H) {u:Value} {a:AV} {x:AB} {b:aZ} (hv:x.ver?=some 0)
  (hb:∀ E' H',Ext base E hp H E' (hp++[x]) H'→BR E'.ρ H'.get (E'.O (hp++[x])) x b)
  (ha:∀ E':Env,E'.ρ hp.length 0=some H.n→AR E'.ρ (H.push b).get (E'.O (hp++[x])) a u) (hk:K a (hp++[x])):dM base E hp aE H (some (u,.new b)) K:=by
 obtain ⟨E',_,h1,h2,h3⟩:=h.push hv (b:=b) (fun E' H' _ _ e=>hb E' H' e)
 exact ⟨u,.new b,E',a,hp++[x],rfl,hk,h1,h2,ha E' h3⟩
def A9 (agg:Bool) (cs:List AV) (o s:Nat) (K:AV→Prop):Prop :=
 match agg with
 | true=>o+s≤cs.length∧K (.ag ((cs.drop o).take s))
 | false=>∃ v,cs[o]?=some v∧K v
def eB (T:bz) (t:TypeId) (a:AV) (hp:List AB) (K:AV→List AB→Prop):Prop :=
 match a,T.ty.get t with
 | .pt cs o,some ⟨_,s,_,_,agg,_,_⟩=>A9 agg cs o s fun v=>K v hp
 | .ptr j aB o,some ⟨_,s,_,_,agg,_,_⟩=>∃ cs es,hp[j]?=some (.cells cs es aB)∧A9 agg cs o s fun v=>K v hp
 | _,_=>False
theorem nh {cs:List Value} {o n:Nat} (h:o+n≤cs.length):cut cs o n=some ((cs.drop o).take n):=by
 unfold cut;rw [show Nat.ble (o+n) cs.length=true from Nat.ble_eq_true_of_le h];rfl
theorem DR.cv {l:List AV} {o:Nat} {u:Value} (h:DR g O (.pt l o) u):∃ k d cs own e,u=.pointer (some ⟨k,d+o,none⟩)∧g k=some (.cells cs own e)∧¬ O k∧d+l.length≤cs.length∧∀ (i:Nat) (a:AV) (u:Value),l[i]?=some a→cs[d+i]?=some u→DR g O a u:=by
 cases h with
 | pt h1 h2 h3 h4=>exact ⟨_,_,_,_,_,rfl,h1,h2,h3,h4⟩
theorem AR.cv {l:List AV} {o:Nat} {u:Value} (h:AR ρ g O (.pt l o) u):DR g O (.pt l o) u:=h.deep rfl
theorem AR.ia {l:List (List AV)} {f:Bool} {u:Value} (h:AR ρ g O (.sl l f) u):DR g O (.sl l f) u:=h.deep rfl
theorem AR.cM {j aB o:Nat} {u:Value} (h:AR ρ g O (.ptr j aB o) u):∃ k,ρ j aB=some k∧u=.pointer (some ⟨k,o,none⟩):=by
 cases h with
 | d h=>cases h
 | ptr h=>exact ⟨_,h,rfl⟩
theorem AR.eY {j aB o n c:Nat} {u:Value} (h:AR ρ g O (.bO j aB o n c) u):(∃ k,ρ j aB=some k∧u=.slice (some ⟨k,o,none⟩) n c)∨(o=0∧n=0∧u=.slice none 0 0):=by
 cases h with
 | d h=>cases h
 | bO h=>exact .inl ⟨_,h,rfl⟩
 | pe=>exact .inr ⟨rfl,rfl,rfl⟩
theorem aS.cells (h:aS E base hp aE H) {j aB k es:Nat} {cs:List AV} (hj:hp[j]?=some (.cells cs es aB)) (hk:E.ρ j aB=some k):∃ cs',H.get k=some (.cells cs' true es)∧fC E.ρ H.get (E.O hp) cs cs':=by
 rcases h.fQ j _ aB hj rfl with ⟨k',b',h1,h2,h3⟩|⟨h1,_⟩
 ·rw [hk] at h1;cases h1
  obtain ⟨cs',rfl,h4⟩:=h3
  exact ⟨cs',h2,h4⟩
 ·rw [hk] at h1;cases h1
theorem ki {agg:Bool} {cs:List AV} {cs':List Value} {o d s:Nat} {K:AV→Prop} (h:∀ (i:Nat) (a:AV) (u:Value),cs[i]?=some a→cs'[d+i]?=some u→AR ρ g O a u) (hlen:d+cs.length≤cs'.length) (hw:A9 agg cs o s K) :
  ∃ u a,(bif agg then (cut cs' (d+o) s).map fun c=>((.agg c.toArray:Value),bN.none) else (cs'[d+o]?).map fun v=>(v,bN.none))=some (u,.none)∧K a∧AR ρ g O a u:=by
 unfold A9 at hw
 cases agg with
 | true =>
  obtain ⟨h1,h2⟩:=hw
  refine ⟨.agg ((cs'.drop (d+o)).take s).toArray,_,by rw [nh (by omega)];rfl,h2,.ag ?_ ?_⟩
  ·simp;omega
  ·intro i x u hx hu
   simp only [List.getElem?_take,List.getElem?_drop] at hx hu
   split at hx
   ·rw [if_pos (by assumption)] at hu
    exact h _ x u hx (by rw [←Nat.add_assoc];exact hu)
   ·cases hx
 | false =>
  obtain ⟨v,h1,h2⟩:=hw
  have hlt:=(List.getElem?_eq_some_iff.1 h1).1
  have hc:cs'[d+o]?=some (cs'[d+o]'(by omega)):=List.getElem?_eq_getElem _
  exact ⟨_,v,by rw [hc];rfl,h2,h o v _ h1 hc⟩
theorem za (h:aS E base hp aE H) {t:TypeId} {a:AV} {u:Value} (ha:AR E.ρ H.get (E.O hp) a u) {K:AV→List AB→Prop} (hw:eB T t a hp K):dM base E hp aE H (gF T t u H.get) K:=by
 unfold eB at hw
 split at hw
 ·rename_i cs o und s bytes zero agg bW cu hty
  obtain ⟨k,d,cs',own,e,rfl,h1,h2,h3,h4⟩:=ha.cv.cv
  unfold gF addr?
  simp only [h1,cells?,hty]
  obtain ⟨u,a,e1,e2,e3⟩:=ki (ρ:=E.ρ) (fun i a u x y=>.d (h4 i a u x y)) h3 hw
  rw [e1]
  exact .pure h e3 e2
 ·rename_i j aB o und s bytes zero agg bW cu hty
  obtain ⟨cs,es,h1,h2⟩:=hw
  obtain ⟨k,hk,rfl⟩:=ha.cM
  obtain ⟨cs',h3,h4⟩:=h.cells h1 hk
  unfold gF addr?
  simp only [h3,cells?,hty]
  obtain ⟨u,a,e1,e2,e3⟩:=ki (d:=0) (fun i a u x y=>h4.2 i a u x (by rw [Nat.zero_add] at y;exact y)) (by rw [h4.1];omega) h2
  rw [Nat.zero_add] at e1
  rw [e1]
  exact .pure h e3 e2
 ·exact hw.elim
def cN (cs vs:List AV) (o:Nat):List AV:=cs.take o++vs++cs.drop (o+vs.length)
theorem fC.splice {a b:List AV} {a' b':List Value} (h:fC ρ g O a a') (k:fC ρ g O b b') (o:Nat):fC ρ g O (cN a b o) (splice a' b' o):=by
 unfold cN RM.splice
 rw [k.1]
 exact ((h.take o).append k).append (h.drop _)
def cG (T:bz) (t:TypeId) (a v:AV) (hp:List AB) (K:AV→List AB→Prop):Prop :=
 match a,T.ty.get t with
 | .ptr j aB o,some ⟨_,s,_,_,_,_,_⟩=>∃ cs es,hp[j]?=some (.cells cs es aB)∧v.jC=true∧v.cells.all AV.one=true∧v.cells.length=s∧o+s≤cs.length∧K .bP (hp.set j (.cells (cN cs v.cells o) es aB))
 | _,_=>False
theorem wq (h:aS E base hp aE H) {t:TypeId} {a v:AV} {u x:Value} (ha:AR E.ρ H.get (E.O hp) a u) (hv:AR E.ρ H.get (E.O hp) v x) {K:AV→List AB→Prop} (hw:cG T t a v hp K):dM base E hp aE H (jn T t u x H.get) K:=by
 unfold cG at hw
 split at hw
 ·rename_i j aB o und s bytes zero agg bW cu hty
  obtain ⟨cs,es,h1,h2,h3,h4,h5,h6⟩:=hw
  obtain ⟨k,hk,rfl⟩:=ha.cM
  obtain ⟨cs',q1,q2⟩:=h.cells h1 hk
  have hc:=hv.cells h2
  have hone:=hc.bh h3
  have e1:x.cells.toList.length=s:=by rw [←hc.1];exact h4
  unfold jn addr?
  simp only [q1,cells?,hty]
  have e2:(true && Nat.beq x.cells.toList.length s && Nat.ble (o+s) cs'.length && x.cells.toList.all RM.bh)=true:=by
   rw [hone,e1]
   simp only [Bool.true_and,Bool.and_true,Bool.and_eq_true]
   exact ⟨Nat.beq_refl s,Nat.ble_eq_true_of_le (by rw [←q2.1];exact h5)⟩
  rw [e2]
  simp only [cond_true]
  obtain ⟨p1,p2⟩:=h.put (a:=.cells (cN cs v.cells o) es aB) (b:=.cells (splice cs' x.cells.toList o) true es) h1 rfl rfl hk ⟨_,rfl,q2.splice hc o⟩
  exact ⟨undef,.put k _,E,.bP,_,rfl,h6,p1,p2,.bP⟩
 ·exact hw.elim
def xB (own:Bool) (v:AV) (hp:List AB) (K:AV→List AB→Prop):Prop :=
 v.jC=true∧v.cells.all AV.one=true ∧
  match own with
  | true=>K (.ptr hp.length 0 0) (hp++[.cells v.cells 0 0])
  | false=>cK v.cells=true∧K (.pt v.cells 0) hp
theorem Ba (h:aS E base hp aE H) {own:Bool} {v:AV} {x:Value} (hv:AR E.ρ H.get (E.O hp) v x) {K:AV→List AB→Prop} (hw:xB own v hp K):dM base E hp aE H (EP H.n x) K:=by
 obtain ⟨h1,h2,h3⟩:=hw
 have hc:=hv.cells h1
 unfold EP
 rw [hc.bh h2]
 simp only [cond_true]
 cases own with
 | true =>
  exact .new h (x:=.cells v.cells 0 0) rfl (fun E' H' e=>⟨_,rfl,e.zS h.wf hc⟩) (fun E' hr=>.ptr hr) h3
 | false =>
  obtain ⟨h3,h4⟩:=h3
  refine .s8 h (fun e hg hO=>.d (.pt (d:=0) (o:=0) hg hO (by rw [hc.1];omega) fun i a u ha hu=>?_)) h4
  rw [Nat.zero_add] at hu
  exact e.dr h.wf ((hc.deep h3).2 i a u ha hu)
def ql (T:bz) (t:TypeId) (hp:List AB) (K:AV→List AB→Prop):Prop :=
 match T.ty.get t with
 | some ⟨_,_,_,some z,_,_,_⟩=>z.cells.toList.all aV=true∧K (.ptr hp.length 0 0) (hp++[.cells (z.cells.toList.map .fl) 0 0])
 | _=>False
theorem wv (h:aS E base hp aE H) {t:TypeId} {K:AV→List AB→Prop} (hw:ql T t hp K):dM base E hp aE H (qO T H.n t) K:=by
 unfold ql at hw
 split at hw
 ·rename_i und s bytes z agg bW cu hty
  obtain ⟨h1,h2⟩:=hw
  unfold qO
  simp only [hty,h1,cond_true]
  exact .new h (x:=.cells (z.cells.toList.map .fl) 0 0) rfl (fun E' H' e=>⟨_,rfl,.y9 h1⟩) (fun E' hr=>.ptr hr) h2
 ·exact hw.elim
def ja (T:bz) (t:TypeId) (a:AV) (i:Nat) (hp:List AB) (K:AV→List AB→Prop):Prop :=
 match a,T.ty.get t with
 | .pt cs o,some ⟨.struct _,_,_,_,_,bW,_⟩=>∃ off s,bW[i]?=some (off,s)∧1≤s∧K (.pt cs (o+off)) hp
 | .ptr j aB o,some ⟨.struct _,_,_,_,_,bW,_⟩=>∃ off s,bW[i]?=some (off,s)∧1≤s∧K (.ptr j aB (o+off)) hp
 | _,_=>False
theorem wz (h:aS E base hp aE H) {t:TypeId} {a:AV} {i:Nat} {u:Value} (ha:AR E.ρ H.get (E.O hp) a u) {K:AV→List AB→Prop} (hw:ja T t a i hp K):dM base E hp aE H (dw T t u i) K:=by
 unfold ja at hw
 split at hw
 ·rename_i cs o fs s bytes z agg bW cu hty
  obtain ⟨off,s',h1,h2,h3⟩:=hw
  obtain ⟨k,d,cs',own,e,rfl,q1,q2,q3,q4⟩:=ha.cv.cv
  unfold dw addr?
  simp only [hty,h1,Nat.ble_eq_true_of_le h2,cond_true]
  refine .pure h (a:=.pt cs (o+off)) ?_ h3
  unfold ptr
  rw [Nat.add_assoc]
  exact .d (.pt q1 q2 q3 q4)
 ·rename_i j aB o fs s bytes z agg bW cu hty
  obtain ⟨off,s',h1,h2,h3⟩:=hw
  obtain ⟨k,hk,rfl⟩:=ha.cM
  unfold dw addr?
  simp only [hty,h1,Nat.ble_eq_true_of_le h2,cond_true]
  exact .pure h (.ptr hk) h3
 ·exact hw.elim
def asInt:AV→Option Int
 | .fl (.int _ n)=>some n
 | _=>none
def cr (T:bz) (t:TypeId) (a ix:AV) (hp:List AB) (K:AV→List AB→Prop):Prop :=
 match asInt ix,T.ty.get t with
 | some j,some ⟨.array len _,_,_,_,_,_,cu⟩=>(0≤j∧j < (len:Int)) ∧
  match a with
  | .pt cs o=>K (.pt cs (o+j.toNat * cu)) hp
  | .ptr i aB o=>K (.ptr i aB (o+j.toNat * cu)) hp
  | _=>False
 | some j,some ⟨.slice _,_,_,_,_,_,cu⟩ =>
  match a with
  | .sl els _=>∃ el,(0≤j∧els[j.toNat]?=some el)∧el.length=cu∧K (.pt el 0) hp
  | .bO i aB o n _=>(0≤j∧j < (n:Int))∧K (.ptr i aB (o+j.toNat * cu)) hp
  | _=>False
 | _,_=>False
theorem kj {cu k o len:Nat} {j:Int} (h:0≤j∧j < (len:Int)):oy cu k o len j=some (ptr k (o+j.toNat * cu),.none):=by
 unfold oy
 have e:Int.ofNat len=(len:Int):=rfl
 rw [lJ,mS,e,decide_eq_true h.1,decide_eq_true h.2]
 rfl
theorem ic {a:AV} {n:Int} {u:Value} (h:asInt a=some n) (ha:AR ρ g O a u):intOf? u=some n:=by
 unfold asInt at h
 split at h
 ·cases h
  rw [ha.eG.1]
  rfl
 ·cases h
theorem qm (h:aS E base hp aE H) {t:TypeId} {a ix:AV} {u x:Value} (ha:AR E.ρ H.get (E.O hp) a u) (hx:AR E.ρ H.get (E.O hp) ix x) {K:AV→List AB→Prop} (hw:cr T t a ix hp K):dM base E hp aE H (dy T t u x) K:=by
 unfold cr at hw
 split at hw
 ·rename_i j len el s bytes z agg bW cu hj hty
  have hix:=ic hj hx
  obtain ⟨h0,hw⟩:=hw
  unfold dy
  simp only [hix,hty]
  split at hw
  ·obtain ⟨k,d,cs',own,e,rfl,q1,q2,q3,q4⟩:=ha.cv.cv
   simp only [addr?]
   rw [kj h0]
   refine .pure h ?_ hw
   unfold ptr
   rw [Nat.add_assoc]
   exact .d (.pt q1 q2 q3 q4)
  ·obtain ⟨k,hk,rfl⟩:=ha.cM
   simp only [addr?]
   rw [kj h0]
   exact .pure h (.ptr hk) hw
  ·exact hw.elim
 ·rename_i j el s bytes z agg bW cu hj hty
  have hix:=ic hj hx
  unfold dy
  simp only [hix,hty]
  split at hw
  ·rename_i els f
   obtain ⟨el,⟨h0,h1⟩,h2,h3⟩:=hw
   cases ha.ia with
   | nil=>cases h1
   | sl q1 q2 q3 q4 q5 q6 q7 =>
    rename_i k o n c es cs own e
    have hlt:j.toNat < els.length:=(List.getElem?_eq_some_iff.1 h1).1
    have hes:es=cu:=by rw [←q5 _ _ h1,h2]
    subst hes
    show dM base E hp aE H (oy es k o n j) K
    rw [kj ⟨h0,by omega⟩]
    have hle:(j.toNat+1) * es≤n * es:=Nat.mul_le_mul_right _ (by omega)
    rw [Nat.add_mul,Nat.one_mul] at hle
    refine .pure h (.d (.pt (d:=o+j.toNat * es) (o:=0) q1 q2 (by rw [h2];omega) fun i a u hi hu=>?_)) h3
    exact q6 _ _ i a u h1 hi hu
  ·rename_i i aB o n c
   obtain ⟨h0,h1⟩:=hw
   rcases ha.eY with ⟨k,hk,rfl⟩|⟨rfl,rfl,rfl⟩
   ·show dM base E hp aE H (oy cu k o n j) K
    rw [kj h0]
    exact .pure h (.ptr hk) h1
   ·omega
  ·exact hw.elim
 ·exact hw.elim
def CV:List AV→Option (List Value)
 | []=>some []
 | .fl v :: l=>(CV l).map (v :: ·)
 | _=>none
theorem nQ:∀ {cs:List AV} {l:List Value},CV cs=some l→cs=l.map AV.fl
 | [],l,h=>by cases h;rfl
 | .fl v :: cs,l,h=>by
  simp only [CV,Option.map_eq_some_iff] at h
  obtain ⟨m,hm,rfl⟩:=h
  rw [nQ hm];rfl
 | .sl _ _ :: _,_,h|.pt _ _ :: _,_,h|.fn _ _ _ :: _,_,h|.ag _ :: _,_,h|.tp _ :: _,_,h|.ptr _ _ _ :: _,_,h|.bO _ _ _ _ _ :: _,_,h|.om _ :: _,_,h|.oq _ :: _,_,h|.bP :: _,_,h=>by simp [CV] at h
def AV.fS:AV→Option Value
 | .fl v=>some v
 | .ag cs=>(CV cs).map fun l=>.agg l.toArray
 | _=>none
theorem dF {a:AV} {v u:Value} (h:a.fS=some v) (ha:AR ρ g O a u):u=v∧flat v=true:=by
 unfold AV.fS at h
 split at h
 ·cases h
  obtain ⟨rfl,hf⟩:=ha.eG
  refine ⟨rfl,?_⟩
  cases u <;> first|exact hf|simp [aV] at hf
 ·rename_i cs
  rw [Option.map_eq_some_iff] at h
  obtain ⟨l,h1,rfl⟩:=h
  have hcs:=nQ h1
  subst hcs
  cases ha with
  | d h=>cases h with
   | ag ha h1 =>
    rename_i a'
    obtain ⟨e1,e2⟩:=fC.eG (ρ:=ρ) (g:=g) (O:=O) (l':=a'.toList) ⟨ha,fun i a u x y=>.d (h1 i a u x y)⟩
    refine ⟨by rw [←e1],?_⟩
    simp only [flat]
    exact e2
  | ag ha h1 =>
   rename_i a'
   obtain ⟨e1,e2⟩:=fC.eG (ρ:=ρ) (g:=g) (O:=O) (l':=a'.toList) ⟨ha,h1⟩
   refine ⟨by rw [←e1],?_⟩
   simp only [flat]
   exact e2
 ·cases h
def jD (r:Option (Value × bN)) (hp:List AB) (K:AV→List AB→Prop):Prop:=∃ v,r=some (v,.none)∧flat v=true∧K (qk v) hp
theorem cO (h:aS E base hp aE H) {r:Option (Value × bN)} {K:AV→List AB→Prop} (hw:jD r hp K):dM base E hp aE H r K:=by
 obtain ⟨v,rfl,h2,h3⟩:=hw
 exact .pure h (kg h2) h3
def aJ (T:bz) (o:BinOp) (t:TypeId) (x y:Operand) (a b:AV) (hp:List AB) (K:AV→List AB→Prop):Prop :=
 match a,b with
 | .fl (.int .i64 m),.fl (.int .i64 n) =>
  match o with
  | .add=>(-9223372036854775808≤m+n∧m+n≤9223372036854775807)∧K (.fl (.int .i64 (m+n))) hp
  | .sub=>(-9223372036854775808≤m - n∧m - n≤9223372036854775807)∧K (.fl (.int .i64 (m - n))) hp
  | .mul=>(-9223372036854775808≤m * n∧m * n≤9223372036854775807)∧K (.fl (.int .i64 (m * n))) hp
  | .eql=>K (.fl (.bool (decide (m=n)))) hp
  | .neq=>K (.fl (.bool (!decide (m=n)))) hp
  | .lss=>K (.fl (.bool (decide (m < n)))) hp
  | .leq=>K (.fl (.bool (decide (m≤n)))) hp
  | .gtr=>K (.fl (.bool (decide (n < m)))) hp
  | .geq=>K (.fl (.bool (decide (n≤m)))) hp
  | _=>jD (dz T.P o t x y (.int .i64 m) (.int .i64 n)) hp K
 | .sl els _,.fl (.slice none 0 0)=>els ≠ []∧iz T.P t=true∧∃ v,gG o=some (v,.none)∧K (.fl v) hp
 | .bO _ _ _ m _,.fl (.slice none 0 0)=>m ≠ 0∧iz T.P t=true∧∃ v,gG o=some (v,.none)∧K (.fl v) hp
 | .pt _ _,.fl (.pointer none)=>oR T.P t=true∧∃ v,gG o=some (v,.none)∧K (.fl v) hp
 | .ptr _ _ _,.fl (.pointer none)=>oR T.P t=true∧∃ v,gG o=some (v,.none)∧K (.fl v) hp
 | _,_=>∃ v w,a.fS=some v∧b.fS=some w∧jD (dz T.P o t x y v w) hp K
theorem uQ {c:Int} (h:-9223372036854775808≤c∧c≤9223372036854775807):wT c=true:=by
 unfold wT
 rw [lJ,lJ,Bool.and_eq_true,decide_eq_true_iff,decide_eq_true_iff]
 exact ⟨by have e:Int.negSucc 9223372036854775807=-9223372036854775808:=rfl;rw [e];exact h.1,by have e:Int.ofNat 9223372036854775807=9223372036854775807:=rfl;rw [e];exact h.2⟩
theorem Ki (a b:Int):Cg a b=decide (a=b):=by
 cases h:Cg a b with
 | true=>exact (decide_eq_true (Ge h)).symm
 | false =>
  refine (decide_eq_false fun e=>?_).symm
  subst e
  cases a <;> simp [Cg] at h
theorem lX {o:BinOp} {v:Value} {e:bN} (h:gG o=some (v,e)):aV v=true:=by
 unfold gG at h
 split at h
 ·cases h;rfl
 ·cases h;rfl
 ·cases h
theorem Bb (h:aS E base hp aE H) {o:BinOp} {t:TypeId} {x y:Operand} {a b:AV} {u v:Value} (ha:AR E.ρ H.get (E.O hp) a u) (hb:AR E.ρ H.get (E.O hp) b v) {K:AV→List AB→Prop}
  (hw:aJ T o t x y a b hp K):dM base E hp aE H (dz T.P o t x y u v) K:=by
 unfold aJ at hw
 split at hw
 ·rename_i m n
  obtain ⟨rfl,_⟩:=ha.eG
  obtain ⟨rfl,_⟩:=hb.eG
  have key:∀ {z:Value},iY o m n=some z→aV z=true→K (.fl z) hp→dM base E hp aE H (dz T.P o t x y (.int .i64 m) (.int .i64 n)) K:=by
   intro z hz hf hk
   unfold dz
   simp only [hz]
   exact .pure h (.d (.fl hf)) hk
  cases o <;> simp only at hw <;> first
   | exact key (by unfold iY mP;simp only;rw [show Int.add m n=m+n from rfl,uQ hw.1];rfl) rfl hw.2
   | exact key (by unfold iY mP;simp only;rw [show Int.sub m n=m - n from rfl,uQ hw.1];rfl) rfl hw.2
   | exact key (by unfold iY mP;simp only;rw [show Int.mul m n=m * n from rfl,uQ hw.1];rfl) rfl hw.2
   | exact key (by simp only [iY,Ki,mS,lJ]) rfl hw
   | exact cO h hw
 ·obtain ⟨hne,ht,z,hz,hk⟩:=hw
  obtain ⟨rfl,_⟩:=hb.eG
  cases ha.ia with
  | nil=>exact absurd rfl hne
  | sl q1 q2 q3 q4 q5 q6 q7 =>
   unfold dz
   simp only [ht,hz,cond_true]
   exact .pure h (.d (.fl (lX hz))) hk
 ·obtain ⟨hne,ht,z,hz,hk⟩:=hw
  obtain ⟨rfl,_⟩:=hb.eG
  rcases ha.eY with ⟨k,hk2,rfl⟩|⟨rfl,rfl,rfl⟩
  ·unfold dz
   simp only [ht,hz,cond_true]
   exact .pure h (.d (.fl (lX hz))) hk
  ·exact absurd rfl hne
 ·obtain ⟨ht,z,hz,hk⟩:=hw
  obtain ⟨rfl,_⟩:=hb.eG
  cases ha.cv with
  | pt =>
   unfold dz
   simp only [ht,hz,cond_true]
   exact .pure h (.d (.fl (lX hz))) hk
 ·obtain ⟨ht,z,hz,hk⟩:=hw
  obtain ⟨rfl,_⟩:=hb.eG
  obtain ⟨k,hk2,rfl⟩:=ha.cM
  unfold dz
  simp only [ht,hz,cond_true]
  exact .pure h (.d (.fl (lX hz))) hk
 ·obtain ⟨v',w',h1,h2,h3⟩:=hw
  obtain ⟨rfl,_⟩:=dF h1 ha
  obtain ⟨rfl,_⟩:=dF h2 hb
  exact cO h h3
def Kj (T:bz) (o:UnOp) (a:AV) (hp:List AB) (K:AV→List AB→Prop):Prop :=
 match o,a with
 | .not,.fl (.bool b)=>K (.fl (.bool (!b))) hp
 | _,_=>∃ v,a.fS=some v∧jD (dJ (aD T.P (Op.unary o v))) hp K
theorem CW (h:aS E base hp aE H) {o:UnOp} {a:AV} {u:Value} (ha:AR E.ρ H.get (E.O hp) a u) {K:AV→List AB→Prop} (hw:Kj T o a hp K) :
  dM base E hp aE H (bif flat u then dJ (aD T.P (Op.unary o u)) else none) K:=by
 unfold Kj at hw
 split at hw
 ·obtain ⟨rfl,_⟩:=ha.eG
  exact .pure h (.d (.fl rfl)) hw
 ·obtain ⟨v,h1,h2⟩:=hw
  obtain ⟨rfl,hf⟩:=dF h1 ha
  rw [hf]
  exact cO h h2
def CX (T:bz) (s d:TypeId) (a:AV) (hp:List AB) (K:AV→List AB→Prop):Prop :=
 ∃ v,a.fS=some v∧jD (dJ (aD T.P (convert s d v))) hp K
def Eb (T:bz) (t:TypeId) (a:AV) (hp:List AB) (K:AV→List AB→Prop):Prop :=
 ∃ v,a.fS=some v∧jD (dJ (aD T.P (Instr.makeInterface t v))) hp K
theorem wA (h:aS E base hp aE H) {t:TypeId} {a:AV} {u:Value} (ha:AR E.ρ H.get (E.O hp) a u) {K:AV→List AB→Prop} (hw:Eb T t a hp K) :
  dM base E hp aE H (bif flat u then dJ (aD T.P (Instr.makeInterface t u)) else none) K:=by
 obtain ⟨v,h1,h2⟩:=hw
 obtain ⟨rfl,hf⟩:=dF h1 ha
 rw [hf]
 exact cO h h2
theorem zb (h:aS E base hp aE H) {s d:TypeId} {a:AV} {u:Value} (ha:AR E.ρ H.get (E.O hp) a u) {K:AV→List AB→Prop} (hw:CX T s d a hp K) :
  dM base E hp aE H (bif flat u then dJ (aD T.P (convert s d u)) else none) K:=by
 obtain ⟨v,h1,h2⟩:=hw
 obtain ⟨rfl,hf⟩:=dF h1 ha
 rw [hf]
 exact cO h h2
def Ec (T:bz) (t:TypeId) (a ix:AV) (hp:List AB) (K:AV→List AB→Prop):Prop :=
 ∃ v w,a.fS=some v∧ix.fS=some w∧jD (dJ (aD T.P (Instr.index t v w))) hp K
theorem wB (h:aS E base hp aE H) {t:TypeId} {a ix:AV} {u x:Value} (ha:AR E.ρ H.get (E.O hp) a u) (hx:AR E.ρ H.get (E.O hp) ix x) {K:AV→List AB→Prop} (hw:Ec T t a ix hp K) :
  dM base E hp aE H (bif flat u && flat x then dJ (aD T.P (Instr.index t u x)) else none) K:=by
 obtain ⟨v,w,h1,h2,h3⟩:=hw
 obtain ⟨rfl,hf⟩:=dF h1 ha
 obtain ⟨rfl,hf'⟩:=dF h2 hx
 rw [hf,hf']
 exact cO h h3
def Bc (T:bz) (t:TypeId) (a:AV) (i:Nat) (hp:List AB) (K:AV→List AB→Prop):Prop :=
 ∃ v,a.fS=some v∧jD (dJ (aD T.P (Instr.field t v i))) hp K
theorem uR (h:aS E base hp aE H) {t:TypeId} {a:AV} {i:Nat} {u:Value} (ha:AR E.ρ H.get (E.O hp) a u) {K:AV→List AB→Prop} (hw:Bc T t a i hp K) :
  dM base E hp aE H (bif flat u then dJ (aD T.P (Instr.field t u i)) else none) K:=by
 obtain ⟨v,h1,h2⟩:=hw
 obtain ⟨rfl,hf⟩:=dF h1 ha
 rw [hf]
 exact cO h h2
def jl (a:AV) (i:Nat) (hp:List AB) (K:AV→List AB→Prop):Prop :=
 match a with
 | .tp vs=>∃ v,vs[i]?=some v∧K v hp
 | _=>False
theorem AR.uS {vs:List AV} {u:Value} (h:AR ρ g O (.tp vs) u):∃ us:Array Value,u=.tuple us∧fC ρ g O vs us.toList:=by
 cases h with
 | d h=>cases h with
  | tp ha h1=>exact ⟨_,rfl,ha,fun i a u x y=>.d (h1 i a u x y)⟩
 | tp ha h1=>exact ⟨_,rfl,ha,h1⟩
theorem sY (h:aS E base hp aE H) {a:AV} {i:Nat} {u:Value} (ha:AR E.ρ H.get (E.O hp) a u) {K:AV→List AB→Prop} (hw:jl a i hp K):dM base E hp aE H (fq u i) K:=by
 unfold jl at hw
 split at hw
 ·obtain ⟨v,h1,h2⟩:=hw
  obtain ⟨us,rfl,h3⟩:=ha.uS
  obtain ⟨x,h4,h5⟩:=h3.get h1
  unfold fq
  simp only [h4,Option.map_some]
  exact .pure h h5 h2
 ·exact hw.elim
def jb (t:Bool) (a b:AV) (hp:List AB) (K:AV→List AB→Prop):Prop :=
 match a,b with
 | .fl (.bool x),.fl (.bool y)=>K (.fl (.bool (bif t then x else y))) hp
 | a,b=>(t=true→K a hp)∧(t=false→K b hp)
def rD (c a b:AV) (hp:List AB) (K:AV→List AB→Prop):Prop :=
 match c with
 | .fl (.bool t)=>jb t a b hp K
 | _=>False
theorem zc (h:aS E base hp aE H) {c a b:AV} {u v w:Value} (hc:AR E.ρ H.get (E.O hp) c u) (ha:AR E.ρ H.get (E.O hp) a v) (hb:AR E.ρ H.get (E.O hp) b w) {K:AV→List AB→Prop} (hw:rD c a b hp K) :
  dM base E hp aE H (rY u v w) K:=by
 unfold rD at hw
 split at hw
 ·rename_i t
  obtain ⟨rfl,_⟩:=hc.eG
  unfold jb at hw
  split at hw
  ·rename_i x y
   obtain ⟨rfl,_⟩:=ha.eG
   obtain ⟨rfl,_⟩:=hb.eG
   unfold rY
   refine .pure h (a:=.fl (.bool (bif t then x else y))) ?_ hw
   cases t <;> exact .d (.fl rfl)
  ·unfold rY
   cases ht:t with
   | true=>exact .pure h ha (hw.1 ht)
   | false=>exact .pure h hb (hw.2 ht)
 ·exact hw.elim
def qn (a:AV) (hp:List AB) (K:AV→List AB→Prop):Prop :=
 match a with
 | .pt cs o=>K (.pt cs o) hp
 | .ptr j aB o=>K (.ptr j aB o) hp
 | _=>False
theorem Bd (h:aS E base hp aE H) {a:AV} {u:Value} (ha:AR E.ρ H.get (E.O hp) a u) {K:AV→List AB→Prop} (hw:qn a hp K):dM base E hp aE H (gY u) K:=by
 unfold qn at hw
 split at hw
 ·obtain ⟨k,d,cs',own,e,rfl,_⟩:=ha.cv.cv
  exact .pure h ha hw
 ·obtain ⟨k,hk,rfl⟩:=ha.cM
  exact .pure h ha hw
 ·exact hw.elim
end
end Go.RM
namespace Go.RM
open Go
section
variable {T : bz} {base : Nat} {E E' : Env} {hp hp' : List AB} {aE : bR} {H H' : Hp} {ρ : Nat → Nat → Option Nat} {g : aF} {O : Nat → Prop}
def cH (place:Nat→Option (Nat × Nat)) (cells:List AV):List (Nat × AV)→Option (List AV)
 | []=>some cells
 | (i,v) :: rest =>
  match place i with
  | none=>none
  | some (off,size)=>bif v.jC && Nat.beq v.cells.length size && Nat.ble (off+size) cells.length then cH place (cN cells v.cells off) rest else none
def ni (ρ:Nat→Nat→Option Nat) (g:aF) (O:Nat→Prop):List (Nat × AV)→List (Nat × Value)→Prop
 | [],[]=>True
 | (i,a) :: l,(k,u) :: m=>i=k∧AR ρ g O a u∧ni ρ g O l m
 | _,_=>False
theorem sB {place:Nat→Option (Nat × Nat)}:∀ {parts:List (Nat × AV)} {parts':List (Nat × Value)} {cells:List AV} {cells':List Value} {cs:List AV},ni ρ g O parts parts'→fC ρ g O cells cells' →
  cH place cells parts=some cs→∃ cs',mB place cells' parts'=some cs'∧fC ρ g O cs cs'
 | [],[],cells,cells',cs,_,hc,h=>by cases h;exact ⟨cells',rfl,hc⟩
 | (i,a) :: l,(k,u) :: m,cells,cells',cs,hp,hc,h=>by
  obtain ⟨rfl,ha,hl⟩:=hp
  unfold cH at h
  unfold mB
  cases hpl:place i with
  | none=>rw [hpl] at h;cases h
  | some p =>
   obtain ⟨off,size⟩:=p
   rw [hpl] at h
   simp only at h ⊢
   cases hb:(a.jC && Nat.beq a.cells.length size && Nat.ble (off+size) cells.length) with
   | false=>rw [hb] at h;cases h
   | true =>
    rw [hb] at h
    simp only [cond_true] at h
    simp only [Bool.and_eq_true] at hb
    have hac:=ha.cells hb.1.1
    rw [show Nat.beq u.cells.toList.length size=true by rw [←hac.1];exact hb.1.2,show Nat.ble (off+size) cells'.length=true by rw [←hc.1];exact hb.2]
    exact sB hl (hc.splice hac off) h
 | [],_ :: _,_,_,_,hp,_,_=>hp.elim
 | _ :: _,[],_,_,_,hp,_,_=>by simp [ni] at hp
def lY (T:bz) (t:TypeId) (parts:List (Nat × AV)) (hp:List AB) (K:AV→List AB→Prop):Prop :=
 match T.ty.get t with
 | some ⟨und,_,_,some z,true,bW,cu⟩=>z.cells.toList.all aV=true∧∃ cs,cH (fY und bW cu) (z.cells.toList.map .fl) parts=some cs∧K (.ag cs) hp
 | _=>False
theorem wC (h:aS E base hp aE H) {t:TypeId} {parts:List (Nat × AV)} {parts':List (Nat × Value)} (hpt:ni E.ρ H.get (E.O hp) parts parts') {K:AV→List AB→Prop} (hw:lY T t parts hp K) :
  dM base E hp aE H (oQ T t parts') K:=by
 unfold lY at hw
 split at hw
 ·rename_i und s bytes z bW cu hty
  obtain ⟨h1,cs,h2,h3⟩:=hw
  unfold oQ
  simp only [hty,h1,cond_true]
  obtain ⟨cs',e1,e2⟩:=sB hpt (fC.y9 h1) h2
  rw [e1]
  refine .pure h (a:=.ag cs) (.ag ?_ ?_) h3
  ·simpa using e2.1
  ·intro i x u hx hu;exact e2.2 i x u hx (by simpa using hu)
 ·exact hw.elim
def kn (es:Nat):Nat→List (Nat × AV)→Bool
 | _,[]=>true
 | i,(k,v) :: l=>Nat.beq k i && v.jC && v.cells.all AV.one && Nat.beq v.cells.length es && kn es (i+1) l
theorem xC {es:Nat}:∀ {parts:List (Nat × AV)} {parts':List (Nat × Value)} {i:Nat} {cells:List Value},ni ρ g O parts parts'→kn es i parts=true→cells.length=(i+parts.length) * es →
  ∃ cs',mB (fun i=>some (i * es,es)) cells parts'=some (cells.take (i * es)++cs')∧fC ρ g O (parts.map (·.2.cells)).flatten cs'∧cs'.length=parts.length * es
 | [],[],i,cells,_,_,hl=>by
  refine ⟨[],?_,.nil,by simp⟩
  simp only [List.length_nil,Nat.add_zero] at hl
  simp [mB,←hl]
 | (k,a) :: l,(k',u) :: m,i,cells,hp,hok,hlen=>by
  obtain ⟨rfl,ha,hl⟩:=hp
  simp only [kn,Bool.and_eq_true] at hok
  obtain ⟨⟨⟨⟨o1,o2⟩,o3⟩,o4⟩,o5⟩:=hok
  obtain rfl:=Nat.eq_of_beq_eq_true o1
  have hac:=ha.cells o2
  have hes:=Nat.eq_of_beq_eq_true o4
  have hlen':cells.length=k * es+es+l.length * es:=by
   rw [hlen];simp only [List.length_cons];rw [Nat.add_mul,Nat.add_mul];omega
  unfold mB
  simp only
  rw [show Nat.beq u.cells.toList.length es=true by rw [←hac.1];exact o4,show Nat.ble (k * es+es) cells.length=true from Nat.ble_eq_true_of_le (by omega)]
  simp only [Bool.and_self,cond_true]
  have hsl:(splice cells u.cells.toList (k * es)).length=cells.length:=by
   unfold RM.splice
   simp only [List.length_append,List.length_take,List.length_drop]
   rw [←hac.1,hes]
   omega
  obtain ⟨cs',e1,e2,e3⟩:=xC (i:=k+1) (cells:=splice cells u.cells.toList (k * es)) hl o5 (by rw [hsl,hlen];simp only [List.length_cons];rw [show k+1+l.length=k+(l.length+1) by omega])
  refine ⟨u.cells.toList++cs',?_,?_,?_⟩
  ·rw [e1]
   congr 1
   rw [←List.append_assoc]
   congr 1
   unfold RM.splice
   rw [Nat.add_mul,Nat.one_mul,List.take_append_of_le_length (by simp only [List.length_append,List.length_take];rw [←hac.1,hes];omega)]
   rw [List.take_of_length_le]
   simp only [List.length_append,List.length_take]
   rw [←hac.1,hes]
   omega
  ·simp only [List.map_cons,List.flatten_cons]
   exact hac.append e2
  ·simp only [List.length_append,List.length_cons,e3]
   rw [←hac.1,hes,Nat.add_mul]
   omega
 | [],_ :: _,_,_,hp,_,_=>hp.elim
 | _ :: _,[],_,_,hp,_,_=>by simp [ni] at hp
theorem sC {es:Nat}:∀ {l:List (Nat × AV)} {i:Nat},kn es i l=true→∀ p ∈ l,p.2.cells.length=es∧p.2.cells.all AV.one=true
 | [],_,_,p,hp=>by cases hp
 | (k,v) :: l,i,h,p,hp=>by
  simp only [kn,Bool.and_eq_true] at h
  rcases List.mem_cons.1 hp with rfl|hp
  ·exact ⟨Nat.eq_of_beq_eq_true h.1.2,h.1.1.2⟩
  ·exact sC h.2 p hp
theorem fE {α:Type} {es:Nat}:∀ {els:List (List α)},(∀ el ∈ els,el.length=es)→∀ (i:Nat) (el:List α) (j:Nat),els[i]?=some el→j < es→els.flatten[i * es+j]?=el[j]?
 | [],_,i,el,j,h,_=>by cases h
 | x :: l,hl,i,el,j,h,hj=>by
  have hx:=hl x (by simp)
  rw [List.flatten_cons]
  cases i with
  | zero =>
   cases h
   rw [Nat.zero_mul,Nat.zero_add,List.getElem?_append_left (by omega)]
  | succ i =>
   rw [List.getElem?_append_right (by rw [hx,Nat.add_mul];omega),hx,show (i+1) * es+j - es=i * es+j by rw [Nat.add_mul];omega]
   exact fE (fun e he=>hl e (List.mem_cons_of_mem _ he)) i el j (by simpa using h) hj
theorem dV {α:Type} {es:Nat}:∀ {els:List (List α)},(∀ el ∈ els,el.length=es)→els.flatten.length=els.length * es
 | [],_=>by simp
 | x :: l,h=>by
  rw [List.flatten_cons,List.length_append,dV (fun e he=>h e (List.mem_cons_of_mem _ he)),h x (by simp),List.length_cons,Nat.add_mul]
  omega
theorem DR.row {k n:Nat} {els:List (List AV)} {cs:List Value} {own full:Bool} {es e c:Nat} (hg:g k=some (.cells cs own e)) (hO:¬ O k) (hel:∀ el ∈ els,el.length=es) (hn:els.length=n) (hc:qj g O els.flatten cs) (hf:full=true→c=n) :
  DR g O (.sl els full) (.slice (some ⟨k,0,none⟩) n c):=by
 refine .sl (es:=es) hg hO ?_ hn (fun i el h=>hel el (List.mem_of_getElem? h)) (fun i el j a u h1 h2 h3=>?_) hf
 ·rw [←hc.1,dV hel,hn];omega
 ·have hj:j < es:=by rw [←hel el (List.mem_of_getElem? h1)];exact (List.getElem?_eq_some_iff.1 h2).1
  rw [Nat.zero_add] at h3
  exact hc.2 _ a u (by rw [fE hel i el j h1 hj];exact h2) h3
def dh (T:bz) (own:Bool) (t:TypeId) (len:Nat) (parts:List (Nat × AV)) (hp:List AB) (K:AV→List AB→Prop):Prop :=
 match elem? T t with
 | some inf=>Nat.ble (len * inf.size) 65536=true∧bk inf=true∧kn inf.size 0 parts=true∧Nat.beq parts.length len=true ∧
  match own with
  | true=>K (.bO hp.length 0 0 len len) (hp++[.cells (parts.map (·.2.cells)).flatten inf.size 0])
  | false=>cK (parts.map (·.2.cells)).flatten=true∧K (.sl (parts.map (·.2.cells)) true) hp
 | none=>False
theorem pg (h:aS E base hp aE H) {own:Bool} {t:TypeId} {len:Nat} {parts:List (Nat × AV)} {parts':List (Nat × Value)} (hpt:ni E.ρ H.get (E.O hp) parts parts') {K:AV→List AB→Prop}
  (hw:dh T own t len parts hp K):dM base E hp aE H (gn T H.n t len parts') K:=by
 unfold dh at hw
 split at hw
 ·rename_i inf hi
  obtain ⟨h1,h2,h3,h4,h5⟩:=hw
  have h4:=Nat.eq_of_beq_eq_true h4
  unfold gn
  simp only [hi,h1,h2,Bool.and_self,cond_true]
  obtain ⟨cs',e1,e2,e3⟩:=xC (es:=inf.size) (i:=0) (cells:=bK ((inf.zero.map fun z=>z.cells.toList).getD []) (len * inf.size)) hpt h3 (by rw [Nat.zero_add,h4];simp [bK])
  rw [e1]
  simp only [Nat.zero_mul,List.take_zero,List.nil_append]
  cases own with
  | true=>exact .new h (x:=.cells (parts.map (·.2.cells)).flatten inf.size 0) rfl (fun E' H' e=>⟨_,rfl,e.zS h.wf e2⟩) (fun E' hr=>.bO hr) h5
  | false =>
   obtain ⟨h5,h6⟩:=h5
   refine .s8 h (fun e hg hO=>.d (.row hg hO (es:=inf.size) (fun el he=>?_) (by simp [h4]) ?_ (fun _=>rfl))) h6
   ·obtain ⟨p,hp',rfl⟩:=List.mem_map.1 he
    exact (sC h3 p hp').1
   ·have:=(e.zS h.wf e2).deep h5
    exact this
 ·exact hw.elim
def oL (o:Option AV) (d l:Nat):Prop :=
 match o with
 | none=>l=d
 | some a=>asInt a=some (l:Int)
def Fi (ρ:Nat→Nat→Option Nat) (g:aF) (O:Nat→Prop):Option AV→Option Value→Prop
 | none,none=>True
 | some a,some u=>AR ρ g O a u
 | _,_=>False
theorem dO {o:Option AV} {o':Option Value} {d l:Nat} (h:oL o d l) (ho:Fi ρ g O o o'):cQ d o'=some l:=by
 cases o with
 | none=>cases o' with
  | none=>cases h;rfl
  | some=>exact ho.elim
 | some a=>cases o' with
  | none=>exact ho.elim
  | some u =>
   have:=ic h ho
   unfold intOf? at this
   split at this
   ·cases this
    unfold cQ iy
    simp only [Int.toNat_natCast]
    rw [decide_eq_false (by omega)]
    rfl
   ·cases this
def qo (T:bz) (t:TypeId) (x:AV) (lo hi:Option AV) (hp:List AB) (K:AV→List AB→Prop):Prop :=
 match x with
 | .fl (.string s)=>∃ lo' hi':Option Value,lo.map AV.fS=lo'.map some∧hi.map AV.fS=hi'.map some∧jD (dJ (aD T.P (Instr.sliceAt t (.string s) lo' hi' none))) hp K
 | .sl els full=>match elem? T t with
  | some inf=>∃ l h:Nat,oL lo 0 l∧oL hi els.length h∧(l≤h∧h≤els.length)∧1≤inf.size∧(∀ el ∈ els,el.length=inf.size)∧K (.sl ((els.drop l).take (h - l)) (full && Nat.beq h els.length)) hp
  | none=>False
 | .bO j aB o n c=>match elem? T t with
  | some inf=>∃ l h:Nat,oL lo 0 l∧oL hi n h∧(l≤h∧h≤n)∧1≤inf.size∧K (.bO j aB (o+l * inf.size) (h - l) (bif Nat.beq h n && Nat.beq c n then h - l else bif Nat.beq h n then h - l+2 else h - l+3+(n - h))) hp
  | none=>False
 | .pt cs o=>match T.ty.get t with
  | some ⟨.array len _,_,_,_,_,_,cu⟩=>∃ (l h:Nat) (els:List (List AV)),oL lo 0 l∧oL hi len h∧(l≤h∧h≤len∧o+h * cu≤cs.length)∧1≤cu∧(els.length=h - l∧(∀ el ∈ els,el.length=cu)∧els.flatten=(cs.drop (o+l * cu)).take ((h - l) * cu))∧K (.sl els (Nat.beq h len)) hp
  | _=>False
 | _=>False
theorem wE (h:aS E base hp aE H) {t:TypeId} {x:AV} {u:Value} {lo hi:Option AV} {lo' hi':Option Value} (hx:AR E.ρ H.get (E.O hp) x u) (hlo:Fi E.ρ H.get (E.O hp) lo lo') (hhi:Fi E.ρ H.get (E.O hp) hi hi')
  {K:AV→List AB→Prop} (hw:qo T t x lo hi hp K):dM base E hp aE H (fu T t u lo' hi') K:=by
 unfold qo at hw
 split at hw
 ·rename_i s
  obtain ⟨rfl,_⟩:=hx.eG
  obtain ⟨l',h',h1,h2,h3⟩:=hw
  have key:∀ {o:Option AV} {o' o'':Option Value},Fi E.ρ H.get (E.O hp) o o'→o.map AV.fS=o''.map some→o'=o''∧o'.toList.all flat=true:=by
   intro o o' o'' ho he
   cases o with
   | none=>cases o' with
    | none=>cases o'' with
     | none=>exact ⟨rfl,rfl⟩
     | some=>cases he
    | some=>exact ho.elim
   | some a=>cases o' with
    | none=>exact ho.elim
    | some v=>cases o'' with
     | none=>cases he
     | some w =>
      simp only [Option.map_some,Option.some.injEq] at he
      obtain ⟨rfl,hf⟩:=dF he ho
      exact ⟨rfl,by simp [hf]⟩
  obtain ⟨rfl,f1⟩:=key hlo h1
  obtain ⟨rfl,f2⟩:=key hhi h2
  unfold fu
  simp only [f1,f2,Bool.and_self,cond_true]
  exact cO h h3
 ·rename_i els full
  split at hw
  ·rename_i inf hi'
   obtain ⟨l,m,h1,h2,⟨h3,h4⟩,h5,h6,h7⟩:=hw
   have e1:=dO h1 hlo
   cases hx.ia with
   | nil =>
    have e2:=dO h2 hhi
    simp only [List.length_nil] at h4 e2
    obtain rfl:m=0:=by omega
    obtain rfl:l=0:=by omega
    unfold fu oP
    simp only [hi',e1,e2]
    rw [show Nat.ble 1 inf.size=true from Nat.ble_eq_true_of_le h5]
    exact .pure h (.d .nil) h7
   | sl q1 q2 q3 q4 q5 q6 q7 =>
    rename_i k o n c es cs own e
    rw [q4] at h2 h4 h7
    have e2:=dO h2 hhi
    unfold fu oP
    simp only [hi',e1,e2]
    rw [show Nat.ble 1 inf.size=true from Nat.ble_eq_true_of_le h5,show Nat.ble l m=true from Nat.ble_eq_true_of_le h3,show Nat.ble m n=true from Nat.ble_eq_true_of_le h4]
    simp only [Bool.and_self,cond_true,Option.map_some]
    have hes:els ≠ []→es=inf.size:=by
     intro hne
     cases els with
     | nil=>exact absurd rfl hne
     | cons x l=>rw [←q5 0 x rfl];exact h6 x (by simp)
    by_cases hne:els=[]
    ·subst hne
     simp only [List.length_nil] at q4
     subst q4
     obtain rfl:m=0:=by omega
     obtain rfl:l=0:=by omega
     refine .pure h (a:=_) (.d (.sl (es:=es) q1 q2 ?_ ?_ ?_ ?_ ?_)) h7
     ·simpa using q3
     ·simp
     ·intro i el hel;simp at hel
     ·intro i el j a u hel;simp at hel
     ·intro hf
      simp only [Bool.and_eq_true] at hf
      rw [q7 hf.1];rfl
    ·have hes:=hes hne
     subst hes
     refine .pure h (a:=_) (.d (.sl (es:=inf.size) q1 q2 ?_ ?_ ?_ ?_ ?_)) h7
     ·have:l * inf.size+(m - l) * inf.size≤n * inf.size:=by
       rw [←Nat.add_mul];exact Nat.mul_le_mul_right _ (by omega)
      omega
     ·simp only [List.length_take,List.length_drop];omega
     ·intro i el hel
      rw [List.getElem?_take] at hel
      split at hel
      ·rw [List.getElem?_drop] at hel;exact q5 _ el hel
      ·cases hel
     ·intro i el j a u hel ha hu
      rw [List.getElem?_take] at hel
      split at hel
      ·rw [List.getElem?_drop] at hel
       refine q6 _ el j a u hel ha ?_
       rw [Nat.add_mul]
       rw [show o+(l * inf.size+i * inf.size)+j=o+l * inf.size+i * inf.size+j by omega]
       exact hu
      ·cases hel
     ·intro hf
      simp only [Bool.and_eq_true] at hf
      rw [hf.2,q7 hf.1,Nat.beq_refl];rfl
  ·exact hw.elim
 ·rename_i j aB o n c
  split at hw
  ·rename_i inf hi'
   obtain ⟨l,m,h1,h2,⟨h3,h4⟩,h5,h7⟩:=hw
   have e1:=dO h1 hlo
   have e2:=dO h2 hhi
   rcases hx.eY with ⟨k,hk,rfl⟩|⟨rfl,rfl,rfl⟩
   ·unfold fu oP
    simp only [hi',e1,e2]
    rw [show Nat.ble 1 inf.size=true from Nat.ble_eq_true_of_le h5,show Nat.ble l m=true from Nat.ble_eq_true_of_le h3,show Nat.ble m n=true from Nat.ble_eq_true_of_le h4]
    simp only [Bool.and_self,cond_true,Option.map_some]
    exact .pure h (.bO hk) h7
   ·obtain rfl:m=0:=by omega
    obtain rfl:l=0:=by omega
    unfold fu oP
    simp only [hi',e1,e2]
    rw [show Nat.ble 1 inf.size=true from Nat.ble_eq_true_of_le h5]
    simp only [Nat.zero_mul,Nat.add_zero] at h7
    exact .pure h .pe h7
  ·exact hw.elim
 ·rename_i cs o
  split at hw
  ·rename_i len el sz by' z ag fl cu hty
   obtain ⟨l,m,els,h1,h2,⟨h3,h4,h5⟩,h6,⟨e1,e2,e3⟩,h7⟩:=hw
   have n1:=dO h1 hlo
   have n2:=dO h2 hhi
   obtain ⟨k,d,cs',own,e,rfl,q1,q2,q3,q4⟩:=hx.cv.cv
   unfold fu nH
   simp only [hty,n1,n2,addr?]
   rw [show Nat.ble 1 cu=true from Nat.ble_eq_true_of_le h6,show Nat.ble l m=true from Nat.ble_eq_true_of_le h3,show Nat.ble m len=true from Nat.ble_eq_true_of_le h4]
   simp only [Bool.and_self,cond_true,Option.map_some]
   have hmul:l * cu+(m - l) * cu=m * cu:=by rw [←Nat.add_mul];congr 1;omega
   refine .pure h (a:=_) (.d (.sl (es:=cu) q1 q2 ?_ ?_ ?_ ?_ ?_)) h7
   ·omega
   ·exact e1
   ·intro i x hx;exact e2 x (List.mem_of_getElem? hx)
   ·intro i x j a u hx ha hu
    have hj:j < cu:=by rw [←e2 x (List.mem_of_getElem? hx)];exact (List.getElem?_eq_some_iff.1 ha).1
    have hat:=fE e2 i x j hx hj
    have hi:i < m - l:=by rw [←e1];exact (List.getElem?_eq_some_iff.1 hx).1
    rw [e3,List.getElem?_take,List.getElem?_drop] at hat
    have hlt:i * cu+j < (m - l) * cu:=by
     have:(i+1) * cu≤(m - l) * cu:=Nat.mul_le_mul_right _ hi
     rw [Nat.add_mul,Nat.one_mul] at this
     omega
    rw [if_pos hlt,ha] at hat
    refine q4 _ a u hat ?_
    rw [show d+(o+l * cu+(i * cu+j))=d+o+l * cu+i * cu+j by omega]
    exact hu
   ·intro hf;rw [hf];rfl
  ·exact hw.elim
 ·exact hw.elim
def nj (T:bz) (t:TypeId) (x:AV) (lo:Option AV) (hi mx:AV) (hp:List AB) (K:AV→List AB→Prop):Prop :=
 match x,elem? T t with
 | .fl (.slice none 0 0),some inf=>oL lo 0 0∧asInt hi=some 0∧asInt mx=some 0∧1≤inf.size∧K (.fl (.slice none 0 0)) hp
 | .sl els _,some inf=>∃ l h:Nat,oL lo 0 l∧asInt hi=some h∧asInt mx=some h∧(l≤h∧h≤els.length)∧1≤inf.size∧(∀ el ∈ els,el.length=inf.size)∧K (.sl ((els.drop l).take (h - l)) true) hp
 | .bO j aB o n _,some inf=>∃ l h:Nat,oL lo 0 l∧asInt hi=some h∧asInt mx=some h∧(l≤h∧h≤n)∧1≤inf.size∧K (.bO j aB (o+l * inf.size) (h - l) (h - l)) hp
 | _,_=>False
theorem uT (h:aS E base hp aE H) {t:TypeId} {x hi mx:AV} {u hi' mx':Value} {lo:Option AV} {lo':Option Value} (hx:AR E.ρ H.get (E.O hp) x u) (hlo:Fi E.ρ H.get (E.O hp) lo lo') (hhi:AR E.ρ H.get (E.O hp) hi hi') (hmx:AR E.ρ H.get (E.O hp) mx mx')
  {K:AV→List AB→Prop} (hw:nj T t x lo hi mx hp K):dM base E hp aE H ((fK T t u lo' hi' mx').map fun v=>(v,.none)) K:=by
 have nat:∀ {a:AV} {u:Value} {n:Nat},asInt a=some (n:Int)→AR E.ρ H.get (E.O hp) a u→iy u=some n:=fun {a u n} h1 h2=>dO (o:=some a) (o':=some u) (d:=0) h1 h2
 unfold nj at hw
 split at hw
 ·rename_i inf he
  obtain ⟨h1,h2,h3,h5,h7⟩:=hw
  obtain ⟨rfl,_⟩:=hx.eG
  have n1:=dO h1 hlo
  have n2:=nat (n:=0) h2 hhi
  have n3:=nat (n:=0) h3 hmx
  unfold fK
  simp only [he,n1,n2,n3]
  rw [show Nat.ble 1 inf.size=true from Nat.ble_eq_true_of_le h5]
  exact .pure h hx h7
 ·rename_i els full inf he
  obtain ⟨l,m,h1,h2,h3,⟨h4,h5⟩,h6,h8,h7⟩:=hw
  have n1:=dO h1 hlo
  have n2:=nat h2 hhi
  have n3:=nat h3 hmx
  cases hx.ia with
  | nil =>
   simp only [List.length_nil] at h5
   obtain rfl:m=0:=by omega
   obtain rfl:l=0:=by omega
   unfold fK
   simp only [he,n1,n2,n3]
   rw [show Nat.ble 1 inf.size=true from Nat.ble_eq_true_of_le h6]
   exact .pure h (.d .nil) h7
  | sl q1 q2 q3 q4 q5 q6 q7 =>
   rename_i k o n c es cs own e
   rw [q4] at h5
   unfold fK
   simp only [he,n1,n2,n3]
   rw [show Nat.ble 1 inf.size=true from Nat.ble_eq_true_of_le h6,show Nat.ble l m=true from Nat.ble_eq_true_of_le h4,show Nat.ble m n=true from Nat.ble_eq_true_of_le h5,show Nat.ble m m=true from Nat.ble_eq_true_of_le (Nat.le_refl m),Nat.beq_refl]
   simp only [Bool.and_self,cond_true,Option.map_some]
   by_cases hne:els=[]
   ·subst hne
    simp only [List.length_nil] at q4
    subst q4
    obtain rfl:m=0:=by omega
    obtain rfl:l=0:=by omega
    refine .pure h (a:=_) (.d (.sl (es:=es) q1 q2 ?_ ?_ ?_ ?_ ?_)) h7
    ·simpa using q3
    ·simp
    ·intro i el hel;simp at hel
    ·intro i el j a u hel;simp at hel
    ·intro _;rfl
   ·have hes:es=inf.size:=by
     cases els with
     | nil=>exact absurd rfl hne
     | cons x l=>rw [←q5 0 x rfl];exact h8 x (by simp)
    subst hes
    refine .pure h (a:=_) (.d (.sl (es:=inf.size) q1 q2 ?_ ?_ ?_ ?_ ?_)) h7
    ·have:l * inf.size+(m - l) * inf.size≤n * inf.size:=by
      rw [←Nat.add_mul];exact Nat.mul_le_mul_right _ (by omega)
     omega
    ·simp only [List.length_take,List.length_drop];omega
    ·intro i el hel
     rw [List.getElem?_take] at hel
     split at hel
     ·rw [List.getElem?_drop] at hel;exact q5 _ el hel
     ·cases hel
    ·intro i el j a u hel ha hu
     rw [List.getElem?_take] at hel
     split at hel
     ·rw [List.getElem?_drop] at hel
      refine q6 _ el j a u hel ha ?_
      rw [Nat.add_mul]
      rw [show o+(l * inf.size+i * inf.size)+j=o+l * inf.size+i * inf.size+j by omega]
      exact hu
     ·cases hel
    ·intro _;rfl
 ·rename_i j aB o n c inf he
  obtain ⟨l,m,h1,h2,h3,⟨h4,h5⟩,h6,h7⟩:=hw
  have n1:=dO h1 hlo
  have n2:=nat h2 hhi
  have n3:=nat h3 hmx
  rcases hx.eY with ⟨k,hk,rfl⟩|⟨rfl,rfl,rfl⟩
  ·unfold fK
   simp only [he,n1,n2,n3]
   rw [show Nat.ble 1 inf.size=true from Nat.ble_eq_true_of_le h6,show Nat.ble l m=true from Nat.ble_eq_true_of_le h4,show Nat.ble m n=true from Nat.ble_eq_true_of_le h5,show Nat.ble m m=true from Nat.ble_eq_true_of_le (Nat.le_refl m),Nat.beq_refl]
   simp only [Bool.and_self,cond_true,Option.map_some]
   exact .pure h (.bO hk) h7
  ·obtain rfl:m=0:=by omega
   obtain rfl:l=0:=by omega
   unfold fK
   simp only [he,n1,n2,n3]
   rw [show Nat.ble 1 inf.size=true from Nat.ble_eq_true_of_le h6]
   simp only [Nat.zero_mul,Nat.add_zero] at h7
   exact .pure h .pe h7
 ·exact hw.elim
def zeroCells (inf:rX):List Value:=(inf.zero.map fun z=>z.cells.toList).getD []
theorem wG {inf:rX} (h:bk inf=true) (n:Nat):(bK (zeroCells inf) (n * inf.size)).all aV=true:=by
 unfold bk at h
 split at h
 ·rename_i z hz
  simp only [Bool.and_eq_true] at h
  obtain ⟨⟨h1,h2⟩,h3⟩:=h
  have h1:=Nat.eq_of_beq_eq_true h1
  have h2:=Nat.le_of_ble_eq_true h2
  unfold bK zeroCells
  rw [hz,List.all_map,List.all_eq_true]
  intro i hi
  simp only [Option.map_some,Option.getD_some,Function.comp]
  rw [List.all_eq_true] at h3
  have hlt:i % z.cells.toList.length < z.cells.toList.length:=Nat.mod_lt _ (by omega)
  rw [List.getD_eq_getElem?_getD,List.getElem?_eq_getElem hlt]
  exact h3 _ (List.getElem_mem hlt)
 ·cases h
def uU (T:bz) (t:TypeId) (ln cp:AV) (hp:List AB) (K:AV→List AB→Prop):Prop :=
 match elem? T t with
 | some inf=>∃ l c:Nat,asInt ln=some (l:Int)∧asInt cp=some (c:Int)∧(l≤c∧inf.bytes * c≤140737488355328∧c≤9223372036854775807)∧bk inf=true ∧
  K (.bO hp.length 0 0 l (bif Nat.beq l c then l else l+1)) (hp++[.cells ((bK (zeroCells inf) (l * inf.size)).map .fl) inf.size 0])
 | none=>False
theorem xD {a:AV} {n:Nat} {u:Value} (h:asInt a=some (n:Int)) (ha:AR ρ g O a u):iy u=some n:=dO (o:=some a) (o':=some u) (d:=0) h ha
theorem ze (h:aS E base hp aE H) {t:TypeId} {ln cp:AV} {u v:Value} (hl:AR E.ρ H.get (E.O hp) ln u) (hc:AR E.ρ H.get (E.O hp) cp v) {K:AV→List AB→Prop} (hw:uU T t ln cp hp K) :
  dM base E hp aE H (gX T H.n t u v) K:=by
 unfold uU at hw
 split at hw
 ·rename_i inf hi
  obtain ⟨l,c,h1,h2,⟨h3,h4,h5⟩,h6,h7⟩:=hw
  unfold gX
  simp only [hi,xD h1 hl,xD h2 hc]
  rw [show Nat.ble l c=true from Nat.ble_eq_true_of_le h3,show Nat.ble (inf.bytes * c) 140737488355328=true from Nat.ble_eq_true_of_le h4,show Nat.ble c 9223372036854775807=true from Nat.ble_eq_true_of_le h5,h6]
  simp only [Bool.and_self,cond_true]
  exact .new h (x:=.cells ((bK (zeroCells inf) (l * inf.size)).map .fl) inf.size 0) rfl (fun E' H' e=>⟨_,rfl,.y9 (wG h6 l)⟩) (fun E' hr=>.bO hr) h7
 ·exact hw.elim
def qp (T:bz) (t:TypeId) (x:AV) (hp:List AB) (K:AV→List AB→Prop):Prop :=
 match T.ty.get t,x with
 | some ⟨.slice _,_,_,_,_,_,_⟩,.sl els _=>K (.fl (.int .i64 els.length)) hp
 | some ⟨.slice _,_,_,_,_,_,_⟩,.bO _ _ _ n _=>K (.fl (.int .i64 n)) hp
 | some ⟨.slice _,_,_,_,_,_,_⟩,.fl (.slice _ n _)=>K (.fl (.int .i64 n)) hp
 | some ⟨.array n _,_,_,_,_,_,_⟩,_=>K (.fl (.int .i64 n)) hp
 | some ⟨.string,_,_,_,_,_,_⟩,.fl (.string s)=>K (.fl (.int .i64 s.data.toList.length)) hp
 | some ⟨.map ..,_,_,_,_,_,_⟩,.om j=>∃ aH clock,hp[j]?=some (.map aH clock)∧K (.fl (.int .i64 aH.length)) hp
 | _,_=>False
theorem AR.lZ {j:Nat} {u:Value} (h:AR ρ g O (.om j) u):∃ k,ρ j 0=some k∧u=.map (some k):=by
 cases h with
 | d h=>cases h
 | om h=>exact ⟨_,h,rfl⟩
theorem aS.map (h:aS E base hp aE H) {j k clock:Nat} {aH:List (AV × AV × Nat)} (hj:hp[j]?=some (.map aH clock)) (hk:E.ρ j 0=some k):∃ es,H.get k=some (.map es clock)∧aH.length=es.length ∧
  ∀ (i:Nat) (k v:AV) (born:Nat) (e:MapEntry),aH[i]?=some (k,v,born)→es[i]?=some e→AR E.ρ H.get (E.O hp) k e.key∧AR E.ρ H.get (E.O hp) v e.val∧e.born=born:=by
 rcases h.fQ j _ 0 hj rfl with ⟨k',b',h1,h2,h3⟩|⟨h1,_,h2⟩
 ·rw [hk] at h1;cases h1
  obtain ⟨es,rfl,h4,h5⟩:=h3
  exact ⟨es,h2,h4,h5⟩
 ·cases h2
theorem Be (h:aS E base hp aE H) {t:TypeId} {x:AV} {u:Value} (hx:AR E.ρ H.get (E.O hp) x u) {K:AV→List AB→Prop} (hw:qp T t x hp K):dM base E hp aE H (jq T t u H.get) K:=by
 have num:∀ (n:Nat),AR E.ρ H.get (E.O hp) (.fl (.int .i64 n)) (.int .i64 n):=fun n=>.d (.fl rfl)
 unfold qp at hw
 unfold jq
 split at hw
 ·rename_i e s b z a f es els full hty
  rw [hty]
  cases hx.ia with
  | nil=>exact .pure h (num 0) hw
  | sl q1 q2 q3 q4 q5 q6 q7=>rw [q4] at hw;exact .pure h (num _) hw
 ·rename_i hty
  rw [hty]
  rcases hx.eY with ⟨k,hk,rfl⟩|⟨rfl,rfl,rfl⟩
  ·exact .pure h (num _) hw
  ·exact .pure h (num 0) hw
 ·rename_i hty
  rw [hty]
  obtain ⟨rfl,_⟩:=hx.eG
  exact .pure h (num _) hw
 ·rename_i hty
  rw [hty]
  exact .pure h (num _) hw
 ·rename_i hty
  rw [hty]
  obtain ⟨rfl,_⟩:=hx.eG
  exact .pure h (num _) hw
 ·rename_i j hty
  rw [hty]
  obtain ⟨aH,clock,h1,h2⟩:=hw
  obtain ⟨k,hk,rfl⟩:=hx.lZ
  obtain ⟨es,q1,q2,_⟩:=h.map h1 hk
  simp only [q1,map?]
  rw [←q2]
  exact .pure h (num _) h2
 ·exact hw.elim
def Ed (T:bz) (args:List AV) (hp:List AB) (K:AV→List AB→Prop):Prop :=
 match args with
 | [.fl (.int .i64 x),.fl (.int .i64 y)]=>K (.fl (.int .i64 (min x y))) hp
 | l=>∃ vs,CV l=some vs∧jD (ye T.P vs) hp K
def Ee (T:bz) (args:List AV) (hp:List AB) (K:AV→List AB→Prop):Prop :=
 match args with
 | [.fl (.int .i64 x),.fl (.int .i64 y)]=>K (.fl (.int .i64 (max x y))) hp
 | l=>∃ vs,CV l=some vs∧jD (yf T.P vs) hp K
theorem fC.two {a b:AV} {l:List Value} (h:fC ρ g O [a,b] l):∃ u v,l=[u,v]∧AR ρ g O a u∧AR ρ g O b v:=by
 match l,h with
 | [u,v],h=>exact ⟨u,v,rfl,h.2 0 a u rfl rfl,h.2 1 b v rfl rfl⟩
 | [],h=>exact absurd h.1 (by simp)
 | [_],h=>exact absurd h.1 (by simp)
 | _ :: _ :: _ :: _,h=>exact absurd h.1 (by simp)
theorem Bf (h:aS E base hp aE H) {args:List AV} {us:List Value} (ha:fC E.ρ H.get (E.O hp) args us) {K:AV→List AB→Prop} (hw:Ed T args hp K):dM base E hp aE H (ye T.P us) K:=by
 unfold Ed at hw
 split at hw
 ·rename_i x y
  obtain ⟨u,v,rfl,h1,h2⟩:=ha.two
  obtain ⟨rfl,_⟩:=h1.eG
  obtain ⟨rfl,_⟩:=h2.eG
  unfold ye
  simp only
  have e:(bif ER y x then y else x)=min x y:=by
   rw [mS]
   by_cases hxy:y < x
   ·rw [decide_eq_true hxy];simp only [cond_true];omega
   ·rw [decide_eq_false hxy];simp only [cond_false];omega
  rw [e]
  exact .pure h (.d (.fl rfl)) hw
 ·obtain ⟨vs,h1,h2⟩:=hw
  have:=nQ h1
  subst this
  rw [ha.eG.1]
  exact cO h h2
theorem Bg (h:aS E base hp aE H) {args:List AV} {us:List Value} (ha:fC E.ρ H.get (E.O hp) args us) {K:AV→List AB→Prop} (hw:Ee T args hp K):dM base E hp aE H (yf T.P us) K:=by
 unfold Ee at hw
 split at hw
 ·rename_i x y
  obtain ⟨u,v,rfl,h1,h2⟩:=ha.two
  obtain ⟨rfl,_⟩:=h1.eG
  obtain ⟨rfl,_⟩:=h2.eG
  unfold yf
  simp only
  have e:(bif ER x y then y else x)=max x y:=by
   rw [mS]
   by_cases hxy:x < y
   ·rw [decide_eq_true hxy];simp only [cond_true];omega
   ·rw [decide_eq_false hxy];simp only [cond_false];omega
  rw [e]
  exact .pure h (.d (.fl rfl)) hw
 ·obtain ⟨vs,h1,h2⟩:=hw
  have:=nQ h1
  subst this
  rw [ha.eG.1]
  exact cO h h2
end
end Go.RM
namespace Go.RM
open Go
section
variable {T : bz} {base : Nat} {E E' : Env} {hp hp' : List AB} {aE : bR} {H H' : Hp} {ρ : Nat → Nat → Option Nat} {g : aF} {O : Nat → Prop}
def nk:List (AV × AV × Nat)→Option (List Value)
 | []=>some []
 | (k,_,_) :: l=>match k.fS,nk l with
  | some v,some vs=>some (v :: vs)
  | _,_=>none
def eZ (ρ:Nat→Nat→Option Nat) (g:aF) (O:Nat→Prop) (aH:List (AV × AV × Nat)) (es:List MapEntry):Prop :=
 aH.length=es.length∧∀ (i:Nat) (k v:AV) (born:Nat) (e:MapEntry),aH[i]?=some (k,v,born)→es[i]?=some e→AR ρ g O k e.key∧AR ρ g O v e.val∧e.born=born
theorem eZ.keys:∀ {aH:List (AV × AV × Nat)} {es:List MapEntry} {ks:List Value},eZ ρ g O aH es→nk aH=some ks→es.map (·.key)=ks
 | [],es,ks,h,hk=>by
  cases hk
  have:=h.1
  rw [List.length_nil] at this
  rw [List.eq_nil_of_length_eq_zero this.symm]
  rfl
 | (k,v,b) :: aH,[],ks,h,hk=>absurd h.1 (by simp)
 | (k,v,b) :: aH,e :: es,ks,h,hk=>by
  unfold nk at hk
  split at hk
  ·rename_i kv vs h1 h2
   cases hk
   have hh:eZ ρ g O aH es:=⟨by simpa using h.1,fun i k v b e x y=>h.2 (i+1) k v b e (by simpa using x) (by simpa using y)⟩
   rw [List.map_cons,hh.keys h2,(dF h1 (h.2 0 k v b e rfl rfl).1).1]
  ·cases hk
theorem eZ.empty {aH:List (AV × AV × Nat)} {es:List MapEntry} (h:eZ ρ g O aH es):es.isEmpty=aH.isEmpty:=by
 have:=h.1
 cases aH <;> cases es <;> simp_all
theorem eZ.get {aH:List (AV × AV × Nat)} {es:List MapEntry} (h:eZ ρ g O aH es) {i:Nat} {p:AV × AV × Nat} (hi:aH[i]?=some p):∃ e,es[i]?=some e∧AR ρ g O p.1 e.key∧AR ρ g O p.2.1 e.val∧e.born=p.2.2:=by
 have hlt:i < es.length:=by rw [←h.1];exact (List.getElem?_eq_some_iff.1 hi).1
 obtain ⟨k,v,b⟩:=p
 exact ⟨es[i],List.getElem?_eq_getElem hlt,h.2 i k v b _ hi (List.getElem?_eq_getElem hlt)⟩
def Ef (T:bz) (emp:Bool) (kt:TypeId) (kv:Value) (ks:List Value) (r:Option Nat):Prop:=∀ es:List MapEntry,es.map (·.key)=ks→mA T.P emp kt kv es=some r
def k9 (T:bz) (t:TypeId) (m k:AV) (ok:Bool) (hp:List AB) (K:AV→List AB→Prop):Prop :=
 match m with
 | .om j=>∃ aH clock ks kv kt z r,hp[j]?=some (.map aH clock)∧nk aH=some ks∧k.fS=some kv∧jm T t=some (kt,some z)∧Ef T aH.isEmpty kt kv ks r ∧
  match r with
  | some i=>∃ e,aH[i]?=some e∧K (bif ok then .tp [e.2.1,.fl (.bool true)] else e.2.1) hp
  | none=>flat z=true∧K (bif ok then .tp [qk z,.fl (.bool false)] else qk z) hp
 | _=>False
theorem aS.CY (h:aS E base hp aE H) {j k:Nat} {aH:List (AV × AV × Nat)} {clock:Nat} (hj:hp[j]?=some (.map aH clock)) (hk:E.ρ j 0=some k):∃ es:List MapEntry,H.get k=some (.map es clock)∧eZ E.ρ H.get (E.O hp) aH es:=by
 obtain ⟨es,q1,q2,q3⟩:=h.map hj hk
 exact ⟨es,q1,q2,q3⟩
theorem uV {a b:AV} {u v:Value} (h:AR ρ g O a u) (k:AR ρ g O b v):AR ρ g O (.tp [a,b]) (.tuple #[u,v]) :=
 .tp rfl fun i x y hx hy=>by
  match i with
  | 0=>cases hx;cases hy;exact h
  | 1=>cases hx;cases hy;exact k
  | i+2=>simp at hx
theorem uW (h:aS E base hp aE H) {t:TypeId} {m k:AV} {ok:Bool} {um uk:Value} (hm:AR E.ρ H.get (E.O hp) m um) (hk:AR E.ρ H.get (E.O hp) k uk) {K:AV→List AB→Prop} (hw:k9 T t m k ok hp K) :
  dM base E hp aE H ((iX T t um uk ok H.get).map fun v=>(v,bN.none)) K:=by
 unfold k9 at hw
 split at hw
 ·rename_i j
  obtain ⟨aH,clock,ks,kv,kt,z,r,h1,h2,h3,h4,h5,h6⟩:=hw
  obtain ⟨q,hq,rfl⟩:=hm.lZ
  obtain ⟨es,q1,q2⟩:=h.CY h1 hq
  obtain ⟨rfl,_⟩:=dF h3 hk
  have hf:=h5 es (q2.keys h2)
  rw [←q2.empty] at hf
  have hb:((gm (.map (some q))).bind fun r=>map? (H.get r))=some (es,clock):=by
   show map? (H.get q)=_
   rw [q1];rfl
  unfold iX
  rw [h4,hb]
  simp only
  unfold yd
  rw [hf]
  cases r with
  | some i =>
   obtain ⟨e,e1,e2⟩:=h6
   obtain ⟨e',f1,_,f3,_⟩:=q2.get e1
   simp only [f1,Option.map_some]
   cases ok with
   | true=>exact .pure h (uV f3 (.d (.fl rfl))) e2
   | false=>exact .pure h f3 e2
  | none =>
   obtain ⟨hz,e2⟩:=h6
   simp only [hz,cond_true,Option.map_some]
   cases ok with
   | true=>exact .pure h (uV (kg hz) (.d (.fl rfl))) e2
   | false=>exact .pure h (kg hz) e2
 ·exact hw.elim
def fF (T:bz) (t:TypeId) (m k:AV) (hp:List AB) (K:AV→List AB→Prop):Prop :=
 match m with
 | .om j=>∃ aH clock ks kv kt z r,hp[j]?=some (.map aH clock)∧nk aH=some ks∧k.fS=some kv∧jm T t=some (kt,some z)∧Ef T false kt kv ks r ∧
  match r with
  | some i=>∃ e,aH[i]?=some e∧(∃ ke,e.1.fS=some ke∧Instr.sameBits 10000 ke kv=true)∧K (.tp [e.2.1,.fl (.int .i64 e.2.2)]) (hp.set j (.map (aH.set i (k,e.2.1,e.2.2)) clock))
  | none=>flat z=true∧K (.tp [qk z,.fl (.int .i64 clock)]) (hp.set j (.map (aH++[(k,qk z,clock)]) (clock+1)))
 | _=>False
theorem eZ.set {aH:List (AV × AV × Nat)} {es:List MapEntry} (h:eZ ρ g O aH es) {i:Nat} {e:MapEntry} (he:es[i]?=some e) {k v:AV} {f:MapEntry→MapEntry} (hk:AR ρ g O k (f e).key) (hv:AR ρ g O v (f e).val):eZ ρ g O (aH.set i (k,v,(f e).born)) (es.modify i f):=by
 refine ⟨by rw [List.length_set,List.length_modify];exact h.1,fun a k' v' b e' x y=>?_⟩
 have hi:i < es.length:=(List.getElem?_eq_some_iff.1 he).1
 by_cases ha:i=a
 ·subst ha
  rw [List.getElem?_set_self (by rw [h.1];exact hi)] at x
  rw [List.getElem?_modify_eq,he] at y
  cases x
  cases y
  exact ⟨hk,hv,rfl⟩
 ·rw [List.getElem?_set_ne ha] at x
  rw [List.getElem?_modify_ne _ _ ha] at y
  exact h.2 a k' v' b e' x y
theorem eZ.snoc {aH:List (AV × AV × Nat)} {es:List MapEntry} (h:eZ ρ g O aH es) {k v:AV} {e:MapEntry} (hk:AR ρ g O k e.key) (hv:AR ρ g O v e.val):eZ ρ g O (aH++[(k,v,e.born)]) (es++[e]):=by
 refine ⟨by rw [List.length_append,List.length_append,h.1];rfl,fun a k' v' b e' x y=>?_⟩
 by_cases ha:a < aH.length
 ·rw [List.getElem?_append_left ha] at x
  rw [List.getElem?_append_left (by rw [←h.1];exact ha)] at y
  exact h.2 a k' v' b e' x y
 ·rw [List.getElem?_append_right (by omega)] at x
  rw [List.getElem?_append_right (by rw [←h.1];omega),←h.1] at y
  generalize a - aH.length=c at *
  match c,x,y with
  | 0,x,y=>cases x;cases y;exact ⟨hk,hv,rfl⟩
  | c+1,x,y=>simp at x
theorem rE (h:aS E base hp aE H) {t:TypeId} {m k:AV} {um uk:Value} (hm:AR E.ρ H.get (E.O hp) m um) (hk:AR E.ρ H.get (E.O hp) k uk) {K:AV→List AB→Prop} (hw:fF T t m k hp K) :
  dM base E hp aE H (ej T t um uk H.get) K:=by
 unfold fF at hw
 split at hw
 ·rename_i j
  obtain ⟨aH,clock,ks,kv,kt,z,r,h1,h2,h3,h4,h5,h6⟩:=hw
  obtain ⟨q,hq,rfl⟩:=hm.lZ
  obtain ⟨es,q1,q2⟩:=h.CY h1 hq
  obtain ⟨rfl,_⟩:=dF h3 hk
  have hf:=h5 es (q2.keys h2)
  unfold ej
  simp only [h4,gm,q1,map?]
  unfold kR
  rw [hf]
  cases r with
  | some i =>
   obtain ⟨e,e1,⟨ke,e2,e3⟩,e4⟩:=h6
   obtain ⟨e',f1,f2,f3,f4⟩:=q2.get e1
   obtain ⟨rfl,_⟩:=dF e2 f2
   simp only [f1,e3,cond_true]
   have hs:=q2.set (k:=k) (v:=e.2.1) (f:=fun e=>{e with key:=uk}) f1 hk f3
   obtain ⟨p1,p2⟩:=h.put (a:=.map (aH.set i (k,e.2.1,e'.born)) clock) (b:=.map (es.modify i fun e=>{e with key:=uk}) clock) h1 rfl rfl hq ⟨_,rfl,hs.1,hs.2⟩
   rw [f4] at p1 p2
   refine ⟨_,.put q _,E,_,_,rfl,e4,p1,p2,?_⟩
   rw [f4]
   exact uV (p2.ar h.wf f3) (.d (.fl rfl))
  | none =>
   obtain ⟨hz,e2⟩:=h6
   simp only [hz,cond_true]
   have hs:=q2.snoc (k:=k) (v:=qk z) (e:={key:=uk,val:=z,born:=clock}) hk (kg hz)
   obtain ⟨p1,p2⟩:=h.put (a:=.map (aH++[(k,qk z,clock)]) (clock+1)) (b:=.map (es++[{key:=uk,val:=z,born:=clock}]) (clock+1)) h1 rfl rfl hq ⟨_,rfl,hs.1,hs.2⟩
   exact ⟨_,.put q _,E,_,_,rfl,e2,p1,p2,uV (kg hz) (.d (.fl rfl))⟩
 ·exact hw.elim
def dW (m s v:AV) (hp:List AB) (K:AV→List AB→Prop):Prop :=
 match m with
 | .om j=>∃ aH clock born i e,hp[j]?=some (.map aH clock)∧asInt s=some born∧(aH.map fun p=>((p.2.2:Nat):Int)).findIdx? (· == born)=some i∧aH[i]?=some e∧K .bP (hp.set j (.map (aH.set i (e.1,v,e.2.2)) clock))
 | _=>False
theorem eZ.Mu:∀ {aH:List (AV × AV × Nat)} {es:List MapEntry},eZ ρ g O aH es→es.map (fun e=>((e.born:Nat):Int))=aH.map fun p=>((p.2.2:Nat):Int)
 | [],es,h=>by
  have:=h.1
  rw [List.length_nil] at this
  rw [List.eq_nil_of_length_eq_zero this.symm]
  rfl
 | (k,v,b) :: aH,[],h=>absurd h.1 (by simp)
 | (k,v,b) :: aH,e :: es,h=>by
  have hh:eZ ρ g O aH es:=⟨by simpa using h.1,fun i k v b e x y=>h.2 (i+1) k v b e (by simpa using x) (by simpa using y)⟩
  rw [List.map_cons,List.map_cons,hh.Mu,(h.2 0 k v b e rfl rfl).2.2]
theorem pq (h:aS E base hp aE H) {m s v:AV} {um us uv:Value} (hm:AR E.ρ H.get (E.O hp) m um) (hs:AR E.ρ H.get (E.O hp) s us) (hv:AR E.ρ H.get (E.O hp) v uv) {K:AV→List AB→Prop} (hw:dW m s v hp K) :
  dM base E hp aE H ((cR um us uv H.get).map fun e=>(undef,e)) K:=by
 unfold dW at hw
 split at hw
 ·rename_i j
  obtain ⟨aH,clock,born,i,e,h1,h2,h3,h4,h5⟩:=hw
  obtain ⟨q,hq,rfl⟩:=hm.lZ
  obtain ⟨es,q1,q2⟩:=h.CY h1 hq
  have hb:=ic h2 hs
  unfold cR
  simp only [gm,hb,q1,map?]
  have hi:es.findIdx? (fun e=>((e.born:Nat):Int) == born)=some i:=by
   rw [←q2.Mu,List.findIdx?_map] at h3
   exact h3
  obtain ⟨e',f1,f2,f3,f4⟩:=q2.get h4
  simp only [hi,Option.map_some]
  have hset:=q2.set (k:=e.1) (v:=v) (f:=fun e=>{e with val:=uv}) f1 f2 hv
  obtain ⟨p1,p2⟩:=h.put (a:=.map (aH.set i (e.1,v,e'.born)) clock) (b:=.map (es.modify i fun e=>{e with val:=uv}) clock) h1 rfl rfl hq ⟨_,rfl,hset.1,hset.2⟩
  rw [f4] at p1 p2
  exact ⟨_,.put q _,E,.bP,_,rfl,h5,p1,p2,.bP⟩
 ·exact hw.elim
def nr (T:bz) (t:TypeId) (m k v:AV) (hp:List AB) (K:AV→List AB→Prop):Prop :=
 match m with
 | .om j=>∃ aH clock ks kv kt z r,hp[j]?=some (.map aH clock)∧nk aH=some ks∧k.fS=some kv∧jm T t=some (kt,z)∧Ef T false kt kv ks r ∧
  match r with
  | some i=>∃ e,aH[i]?=some e∧(∃ ke,e.1.fS=some ke∧Instr.sameBits 10000 ke kv=true)∧K .bP (hp.set j (.map (aH.set i (k,v,e.2.2)) clock))
  | none=>K .bP (hp.set j (.map (aH++[(k,v,clock)]) (clock+1)))
 | _=>False
theorem qq (h:aS E base hp aE H) {t:TypeId} {m k v:AV} {um uk uv:Value} (hm:AR E.ρ H.get (E.O hp) m um) (hk:AR E.ρ H.get (E.O hp) k uk) (hv:AR E.ρ H.get (E.O hp) v uv) {K:AV→List AB→Prop} (hw:nr T t m k v hp K) :
  dM base E hp aE H ((dY T t um uk uv H.get).map fun e=>(undef,e)) K:=by
 unfold nr at hw
 split at hw
 ·rename_i j
  obtain ⟨aH,clock,ks,kv,kt,z,r,h1,h2,h3,h4,h5,h6⟩:=hw
  obtain ⟨q,hq,rfl⟩:=hm.lZ
  obtain ⟨es,q1,q2⟩:=h.CY h1 hq
  obtain ⟨rfl,_⟩:=dF h3 hk
  have hf:=h5 es (q2.keys h2)
  unfold dY
  simp only [h4,gm,q1,map?]
  unfold lF
  rw [hf]
  cases r with
  | some i =>
   obtain ⟨e,e1,⟨ke,e2,e3⟩,e4⟩:=h6
   obtain ⟨e',f1,f2,f3,f4⟩:=q2.get e1
   obtain ⟨rfl,_⟩:=dF e2 f2
   simp only [f1,e3,cond_true,Option.map_some]
   have hs:=q2.set (k:=k) (v:=v) (f:=fun e=>{e with key:=uk,val:=uv}) f1 hk hv
   obtain ⟨p1,p2⟩:=h.put (a:=.map (aH.set i (k,v,e'.born)) clock) (b:=.map (es.modify i fun e=>{e with key:=uk,val:=uv}) clock) h1 rfl rfl hq ⟨_,rfl,hs.1,hs.2⟩
   rw [f4] at p1 p2
   exact ⟨_,.put q _,E,.bP,_,rfl,e4,p1,p2,.bP⟩
  | none =>
   simp only [Option.map_some]
   have hs:=q2.snoc (k:=k) (v:=v) (e:={key:=uk,val:=uv,born:=clock}) hk hv
   obtain ⟨p1,p2⟩:=h.put (a:=.map (aH++[(k,v,clock)]) (clock+1)) (b:=.map (es++[{key:=uk,val:=uv,born:=clock}]) (clock+1)) h1 rfl rfl hq ⟨_,rfl,hs.1,hs.2⟩
   exact ⟨_,.put q _,E,.bP,_,rfl,h6,p1,p2,.bP⟩
 ·exact hw.elim
def zf (it:AV) (hp:List AB) (K:AV→List AB→Prop):Prop :=
 match it with
 | .ptr q 0 0=>∃ j since seen stepped aH clock stamp e,hp[q]?=some (.iter j since seen stepped)∧hp[j]?=some (.map aH clock)∧clock=stepped∧seen.getLast?=some stamp∧(aH.find? fun p=>p.2.2 == stamp)=some e∧K (.tp [e.1,e.2.1]) hp
 | _=>False
theorem aS.iter (h:aS E base hp aE H) {q k j since stepped:Nat} {seen:List Nat} (hj:hp[q]?=some (.iter j since seen stepped)) (hk:E.ρ q 0=some k):∃ m,H.get k=some (.iter m since seen stepped)∧E.ρ j 0=some m:=by
 rcases h.fQ q _ 0 hj rfl with ⟨k',b',h1,h2,h3⟩|⟨h1,_,h2⟩
 ·rw [hk] at h1;cases h1
  obtain ⟨m,rfl,h4⟩:=h3
  exact ⟨m,h2,h4⟩
 ·cases h2
theorem eZ.find:∀ {aH:List (AV × AV × Nat)} {es:List MapEntry} {stamp:Nat} {p:AV × AV × Nat},eZ ρ g O aH es→(aH.find? fun p=>p.2.2 == stamp)=some p→∃ e,es.find? (fun e=>e.born == stamp)=some e∧AR ρ g O p.1 e.key∧AR ρ g O p.2.1 e.val
 | [],es,_,p,h,hf=>by cases hf
 | (k,v,b) :: aH,[],_,p,h,hf=>absurd h.1 (by simp)
 | (k,v,b) :: aH,e :: es,stamp,p,h,hf=>by
  have hh:eZ ρ g O aH es:=⟨by simpa using h.1,fun i k v b e x y=>h.2 (i+1) k v b e (by simpa using x) (by simpa using y)⟩
  obtain ⟨e1,e2,e3⟩:=h.2 0 k v b e rfl rfl
  rw [List.find?_cons] at hf ⊢
  dsimp only at hf
  rw [e3]
  cases hb:b == stamp with
  | true =>
   rw [hb] at hf
   cases hf
   exact ⟨e,rfl,e1,e2⟩
  | false =>
   rw [hb] at hf
   exact hh.find hf
theorem wH (h:aS E base hp aE H) {it:AV} {u:Value} (hx:AR E.ρ H.get (E.O hp) it u) {K:AV→List AB→Prop} (hw:zf it hp K):dM base E hp aE H (qQ u H.get) K:=by
 unfold zf at hw
 split at hw
 ·rename_i q
  obtain ⟨j,since,seen,stepped,aH,clock,stamp,e,h1,h2,h3,h4,h5,h6⟩:=hw
  obtain ⟨k,hk,rfl⟩:=hx.cM
  obtain ⟨m,g1,g2⟩:=h.iter h1 hk
  obtain ⟨es,q1,q2⟩:=h.CY h2 g2
  obtain ⟨e',f1,f2,f3⟩:=q2.find h5
  unfold qQ addr?
  simp only [g1,h4,q1,map?,h3,Nat.beq_refl,cond_true,f1,Option.map_some]
  exact .pure h (uV f2 f3) h6
 ·exact hw.elim
def zg (it:AV) (hp:List AB) (K:AV→List AB→Prop):Prop :=
 match it with
 | .ptr q 0 0=>∃ j since seen stepped aH clock,hp[q]?=some (.iter j since seen stepped)∧hp[j]?=some (.map aH clock)∧(∀ e ∈ aH,e.2.2 < since∧e.2.2 < stepped) ∧
  (∀ e ∈ aH,e.2.2 ∉ seen→K (.tp [.fl (.bool true),e.1,e.2.1]) (hp.set q (.iter j since (seen++[e.2.2]) clock)))∧((∀ e ∈ aH,e.2.2 ∈ seen)→K (.tp [.fl (.bool false)]) hp)
 | _=>False
theorem eZ.mem {aH:List (AV × AV × Nat)} {es:List MapEntry} (h:eZ ρ g O aH es) {e:MapEntry} (he:e ∈ es):∃ p ∈ aH,AR ρ g O p.1 e.key∧AR ρ g O p.2.1 e.val∧e.born=p.2.2:=by
 obtain ⟨i,hi,rfl⟩:=List.getElem_of_mem he
 have hlt:i < aH.length:=by rw [h.1];exact hi
 exact ⟨aH[i],List.getElem_mem hlt,h.2 i _ _ _ _ (List.getElem?_eq_getElem hlt) (List.getElem?_eq_getElem hi)⟩
theorem eZ.mem' {aH:List (AV × AV × Nat)} {es:List MapEntry} (h:eZ ρ g O aH es) {p:AV × AV × Nat} (hp:p ∈ aH):∃ e ∈ es,e.born=p.2.2:=by
 obtain ⟨i,hi,rfl⟩:=List.getElem_of_mem hp
 have hlt:i < es.length:=by rw [←h.1];exact hi
 exact ⟨es[i],List.getElem_mem hlt,(h.2 i _ _ _ _ (List.getElem?_eq_getElem hi) (List.getElem?_eq_getElem hlt)).2.2⟩
theorem wI (h:aS E base hp aE H) {it:AV} {u:Value} (hx:AR E.ρ H.get (E.O hp) it u) {K:AV→List AB→Prop} (hw:zg it hp K) :
  ∃ L,pJ u H.get=some L∧∀ p ∈ L,∃ E' a hp',K a hp'∧aS E' base hp' aE (H.app p.2)∧Ext base E hp H E' hp' (H.app p.2)∧AR E'.ρ (H.app p.2).get (E'.O hp') a p.1:=by
 unfold zg at hw
 split at hw
 ·rename_i q
  obtain ⟨j,since,seen,stepped,aH,clock,h1,h2,h3,h4,h5⟩:=hw
  obtain ⟨k,hk,rfl⟩:=hx.cM
  obtain ⟨m,g1,g2⟩:=h.iter h1 hk
  obtain ⟨es,q1,q2⟩:=h.CY h2 g2
  have hlow:∀ e ∈ es,e.born < since∧e.born < stepped:=fun e he=>by
   obtain ⟨p,hp,_,_,hb⟩:=q2.mem he
   rw [hb];exact h3 p hp
  have hn:pJ (.pointer (some ⟨k,0,none⟩)) H.get=tA k m since seen stepped es clock:=by
   show (match H.get k with|some (.iter m since seen last)=>_|_=>none)=_
   rw [g1]
   show (match map? (H.get m) with|some (es,clock)=>_|none=>none)=_
   rw [q1]
   rfl
  rw [hn]
  unfold tA
  have hc:(!seen.isEmpty && !es.isEmpty && es.all (fun e=>Nat.ble stepped e.born))=false:=by
   cases es with
   | nil=>simp
   | cons e es =>
    have:=(hlow e (by simp)).2
    have hb:Nat.ble stepped e.born=false:=by
     cases hb:Nat.ble stepped e.born with
     | false=>rfl
     | true=>exact absurd (Nat.le_of_ble_eq_true hb) (by omega)
    rw [List.all_cons,hb]
    simp
  rw [hc]
  simp only [cond_false]
  refine ⟨_,rfl,fun p hp=>?_⟩
  rcases List.mem_append.1 hp with hp|hp
  ·cases hemp:((es.filter fun e=>!seen.contains e.born).filter (fun e=>decide (e.born < since))).isEmpty with
   | false=>rw [hemp] at hp;cases hp
   | true =>
    rw [hemp] at hp
    obtain rfl:=List.mem_singleton.1 hp
    rw [List.isEmpty_iff] at hemp
    refine ⟨E,_,_,h5 fun x hx=>?_,h,.refl,.d (.tp rfl fun i a v ha hv=>?_)⟩
    ·obtain ⟨e,he,hb⟩:=q2.mem' hx
     apply Classical.byContradiction
     intro hne
     have:e ∈ (es.filter fun e=>!seen.contains e.born).filter (fun e=>decide (e.born < since)):=by
      rw [List.mem_filter,List.mem_filter]
      refine ⟨⟨he,?_⟩,decide_eq_true (hlow e he).1⟩
      rw [hb]
      simpa using hne
     rw [hemp] at this
     cases this
    ·match i with
     | 0=>cases ha;cases hv;exact .fl rfl
     | i+1=>simp at ha
  ·obtain ⟨e,he,rfl⟩:=List.mem_map.1 hp
   have hes:e ∈ es∧e.born ∉ seen:=by
    rcases List.mem_append.1 he with he|he
    ·rw [List.mem_filter,List.mem_filter] at he
     exact ⟨he.1.1,by simpa using he.1.2⟩
    ·rw [List.mem_filter,List.mem_filter] at he
     exact ⟨he.1.1,by simpa using he.1.2⟩
   obtain ⟨x,hx,f1,f2,f3⟩:=q2.mem hes.1
   have hns:=hes.2
   rw [f3] at hns ⊢
   obtain ⟨p1,p2⟩:=h.put (a:=.iter j since (seen++[x.2.2]) clock) (b:=.iter m since (seen++[x.2.2]) clock) h1 rfl rfl hk ⟨m,rfl,g2⟩
   refine ⟨E,_,_,h4 x hx hns,p1,p2,.tp rfl fun i a v ha hv=>?_⟩
   match i with
   | 0=>cases ha;cases hv;exact .d (.fl rfl)
   | 1=>cases ha;cases hv;exact p2.ar h.wf f1
   | 2=>cases ha;cases hv;exact p2.ar h.wf f2
   | i+3=>simp at ha
 ·exact hw.elim
end
end Go.RM
namespace Go.RM
open Go
section
variable {T : bz} {base : Nat} {E E' : Env} {hp hp' : List AB} {aE : bR} {H H' : Hp} {ρ : Nat → Nat → Option Nat} {g : aF} {O : Nat → Prop}
def Bh (hp:List AB) (size:Nat) (x:AV) (els:List (List AV)):Prop :=
 (∀ el ∈ els,el.length=size) ∧
  match x with
  | .sl els' _=>els=els'
  | .bO j aB o m _=>∃ cs es,hp[j]?=some (.cells cs es aB)∧o+m * size≤cs.length∧els.length=m∧els.flatten=(cs.drop o).take (m * size)
  | .fl (.slice none 0 0)=>els=[]
  | _=>False
theorem Bh.row (h:aS E base hp aE H) {size:Nat} {x:AV} {u:Value} {els:List (List AV)} (he:Bh hp size x els) (hx:AR E.ρ H.get (E.O hp) x u) :
  tv u=some els.length∧∃ cs,bA H.get size u=some cs∧fC E.ρ H.get (E.O hp) els.flatten cs:=by
 obtain ⟨h1,h2⟩:=he
 split at h2
 ·rename_i els' full
  subst h2
  cases hx.ia with
  | nil=>exact ⟨rfl,[],rfl,.nil⟩
  | sl q1 q2 q3 q4 q5 q6 q7 =>
   rename_i k o n c es cs own e
   refine ⟨by simp [tv,q4],?_⟩
   unfold bA
   simp only [q1,cells?]
   by_cases hne:els=[]
   ·subst hne
    simp only [List.length_nil] at q4
    subst q4
    rw [Nat.zero_mul,nh (by omega)]
    exact ⟨_,rfl,by simp;exact .nil⟩
   ·have hes:es=size:=by
     cases els with
     | nil=>exact absurd rfl hne
     | cons x l=>rw [←q5 0 x rfl];exact h1 x (by simp)
    subst hes
    rw [nh q3]
    refine ⟨_,rfl,?_,?_⟩
    ·rw [dV h1,q4];simp;omega
    ·intro i a u ha hu
     have hlt:i < els.length * es:=by rw [←dV h1];exact (List.getElem?_eq_some_iff.1 ha).1
     have hes:0 < es:=by
      apply Nat.pos_of_ne_zero
      intro h0;subst h0;omega
     have hi:i=i / es * es+i % es:=by rw [Nat.mul_comm];exact (Nat.div_add_mod i es).symm
     have hq:i / es < els.length:=(Nat.div_lt_iff_lt_mul hes).2 hlt
     have hel:els[i / es]?=some els[i / es]:=List.getElem?_eq_getElem hq
     have hm:i % es < es:=Nat.mod_lt _ hes
     rw [hi,fE h1 _ _ _ hel hm] at ha
     rw [List.getElem?_take] at hu
     split at hu
     ·rw [List.getElem?_drop] at hu
      refine .d (q6 _ _ (i % es) a u hel ha ?_)
      rw [Nat.add_assoc,←hi]
      exact hu
     ·cases hu
 ·rename_i j aB o m c
  obtain ⟨cs,es,h3,h4,h5,h6⟩:=h2
  rcases hx.eY with ⟨k,hk,rfl⟩|⟨rfl,rfl,rfl⟩
  ·obtain ⟨cs',q1,q2⟩:=h.cells h3 hk
   refine ⟨by simp [tv,h5],?_⟩
   unfold bA
   simp only [q1,cells?]
   rw [nh (by rw [←q2.1];exact h4),h6]
   exact ⟨_,rfl,(q2.drop o).take _⟩
  ·refine ⟨by simp [tv,h5],[],rfl,?_⟩
   rw [h6]
   simp
   exact .nil
 ·subst h2
  obtain ⟨rfl,_⟩:=hx.eG
  exact ⟨rfl,[],rfl,.nil⟩
 ·exact h2.elim
def gv (T:bz) (own:Bool) (t:TypeId) (s x:AV) (hp:List AB) (K:AV→List AB→Prop):Prop :=
 match elem? T t with
 | some inf=>bk inf=true∧∃ els,Bh hp inf.size x els∧els.flatten.all AV.one=true ∧
  match s with
  | .fl (.slice none 0 0)=>(els.length * inf.bytes≤140737488355328∧els.length≤9223372036854775807)∧(els=[]→K s hp)∧(els ≠ [] →
   match own with
   | true=>K (.bO hp.length 0 0 els.length (els.length+1)) (hp++[.cells els.flatten inf.size 0])
   | false=>cK els.flatten=true∧K (.sl els false) hp)
  | .sl els0 true=>(∀ el ∈ els0,el.length=inf.size)∧((els0.length+els.length) * inf.bytes≤140737488355328∧els0.length+els.length≤9223372036854775807)∧(els=[]→K s hp)∧(els ≠ [] →
   match own with
   | true=>K (.bO hp.length 0 0 (els0.length+els.length) (els0.length+els.length+1)) (hp++[.cells (els0.flatten++els.flatten) inf.size 0])
   | false=>cK els.flatten=true∧K (.sl (els0++els) false) hp)
  | .bO j aB 0 n c=>∃ cs,hp[j]?=some (.cells cs inf.size aB)∧cs.length=n * inf.size∧(c=n∨c=n+1)∧((n+els.length) * inf.bytes≤140737488355328∧n+els.length≤9223372036854775807)∧(els=[]→K s hp) ∧
   (els ≠ []→K (.bO j (aB+1) 0 (n+els.length) (n+els.length+1)) (hp.set j (.cells (cs++els.flatten) inf.size (aB+1))))
  | _=>False
 | none=>False
theorem l5 (a:Nat):Nat.beq a a=true:=Nat.beq_refl a
theorem Eg {a b:Nat} (h:a ≠ b):Nat.beq a b=false:=by
 rw [Tr.beq_eq];exact decide_eq_false h
theorem qj.append {a b:List AV} {a' b':List Value} (h:qj g O a a') (k:qj g O b b'):qj g O (a++b) (a'++b'):=by
 refine ⟨by simp [h.1,k.1],fun i x u hx hu=>?_⟩
 by_cases hi:i < a.length
 ·rw [List.getElem?_append_left hi] at hx
  rw [List.getElem?_append_left (by rw [←h.1];exact hi)] at hu
  exact h.2 i x u hx hu
 ·rw [List.getElem?_append_right (by omega)] at hx
  rw [List.getElem?_append_right (by rw [←h.1];omega),←h.1] at hu
  exact k.2 _ x u hx hu
theorem DR.QX {els:List (List AV)} {full:Bool} {u:Value} {size:Nat} (hx:DR g O (.sl els full) u) (h1:∀ el ∈ els,el.length=size):∃ cs,bA g size u=some cs∧qj g O els.flatten cs∧tv u=some els.length:=by
 cases hx with
 | nil=>exact ⟨[],rfl,⟨rfl,fun i a u h=>by cases h⟩,rfl⟩
 | sl q1 q2 q3 q4 q5 q6 q7 =>
  rename_i k o n c es cs own e
  unfold bA
  simp only [q1,cells?]
  by_cases hne:els=[]
  ·subst hne
   simp only [List.length_nil] at q4
   subst q4
   rw [Nat.zero_mul,nh (by omega)]
   exact ⟨_,rfl,⟨by simp,fun i a u h=>by cases h⟩,rfl⟩
  ·have hes:es=size:=by
    cases els with
    | nil=>exact absurd rfl hne
    | cons x l=>rw [←q5 0 x rfl];exact h1 x (by simp)
   subst hes
   rw [nh q3]
   refine ⟨_,rfl,⟨?_,?_⟩,by simp [tv,q4]⟩
   ·rw [dV h1,q4];simp;omega
   ·intro i a u ha hu
    have hlt:i < els.length * es:=by rw [←dV h1];exact (List.getElem?_eq_some_iff.1 ha).1
    have hes:0 < es:=by
     apply Nat.pos_of_ne_zero
     intro h0;subst h0;omega
    have hi:i=i / es * es+i % es:=by rw [Nat.mul_comm];exact (Nat.div_add_mod i es).symm
    have hq:i / es < els.length:=(Nat.div_lt_iff_lt_mul hes).2 hlt
    have hel:els[i / es]?=some els[i / es]:=List.getElem?_eq_getElem hq
    have hm:i % es < es:=Nat.mod_lt _ hes
    rw [hi,fE h1 _ _ _ hel hm] at ha
    rw [List.getElem?_take] at hu
    split at hu
    ·rw [List.getElem?_drop] at hu
     refine q6 _ _ (i % es) a u hel ha ?_
     rw [Nat.add_assoc,←hi]
     exact hu
    ·cases hu
theorem Bi (h:aS E base hp aE H) {own:Bool} {t:TypeId} {s x:AV} {u v:Value} (hs:AR E.ρ H.get (E.O hp) s u) (hx:AR E.ρ H.get (E.O hp) x v) {K:AV→List AB→Prop}
  (hw:gv T own t s x hp K):dM base E hp aE H (fJ T H.n t u v H.get) K:=by
 unfold gv at hw
 split at hw
 ·rename_i inf hi
  obtain ⟨hz,els,he,hone,hw⟩:=hw
  obtain ⟨hlen,new,hnew,hna⟩:=he.row h hx
  have hone':=hna.bh hone
  have hel:=he.1
  have main:∀ (n:Nat) (base':Option Addr) (cp:Nat) (old:List Value),u=.slice base' n cp→bA H.get inf.size u=some old→((n+els.length) * inf.bytes≤140737488355328∧n+els.length≤9223372036854775807) →
    fJ T H.n t u v H.get=if els=[] then some (u,.none) else gE H.n inf base' n cp els.length old new H.get:=by
   intro n base' cp old hu ho hb
   subst hu
   unfold fJ
   simp only [hi,hlen,ho,hnew,hone',hz,Bool.and_true]
   rw [show Nat.ble ((n+els.length) * inf.bytes) 140737488355328=true from Nat.ble_eq_true_of_le hb.1,show Nat.ble (n+els.length) 9223372036854775807=true from Nat.ble_eq_true_of_le hb.2]
   simp only [Bool.and_self,cond_true]
   by_cases hne:els=[]
   ·subst hne;rfl
   ·rw [if_neg hne,Eg (by simpa using hne)];rfl
  split at hw
  ·obtain ⟨hb,h0,h1⟩:=hw
   obtain ⟨rfl,_⟩:=hs.eG
   rw [main 0 none 0 [] rfl rfl (by simpa using hb)]
   by_cases hne:els=[]
   ·rw [if_pos hne];exact .pure h (.d (.fl rfl)) (h0 hne)
   ·rw [if_neg hne]
    have h1:=h1 hne
    unfold gE
    simp only [l5,cond_true,List.nil_append,Nat.zero_add]
    split at h1
    ·exact .new h (x:=.cells els.flatten inf.size 0) rfl (fun E' H' e=>⟨_,rfl,e.zS h.wf hna⟩) (fun E' hr=>.bO hr) h1
    ·obtain ⟨hd,h1⟩:=h1
     exact .s8 h (fun e hg hO=>.d (.row hg hO hel rfl ((e.zS h.wf hna).deep hd) (fun hf=>by cases hf))) h1
  ·rename_i els0
   obtain ⟨hel0,hb,h0,h1⟩:=hw
   obtain ⟨old,ho,hod,hol⟩:=hs.ia.QX hel0
   have hsl:∃ base' ,u=.slice base' els0.length els0.length:=by
    cases hs.ia with
    | nil=>exact ⟨_,rfl⟩
    | sl q1 q2 q3 q4 q5 q6 q7=>rw [q7 rfl,q4];exact ⟨_,rfl⟩
   obtain ⟨base',hu⟩:=hsl
   rw [main els0.length base' els0.length old hu ho hb]
   by_cases hne:els=[]
   ·rw [if_pos hne];exact .pure h hs (h0 hne)
   ·rw [if_neg hne]
    have h1:=h1 hne
    unfold gE
    simp only [l5,cond_true]
    split at h1
    ·exact .new h (x:=.cells (els0.flatten++els.flatten) inf.size 0) rfl (fun E' H' e=>⟨_,rfl,e.zS h.wf (hod.zS.append hna)⟩) (fun E' hr=>.bO hr) h1
    ·obtain ⟨hd,h1⟩:=h1
     refine .s8 h (fun e hg hO=>.d (.row hg hO (es:=inf.size) ?_ (by simp) ?_ (fun hf=>by cases hf))) h1
     ·intro el he
      rcases List.mem_append.1 he with he|he
      ·exact hel0 el he
      ·exact hel el he
     ·rw [List.flatten_append]
      exact qj.append ⟨hod.1,fun i a u ha hu=>e.dr h.wf (hod.2 i a u ha hu)⟩ ((e.zS h.wf hna).deep hd)
  ·rename_i j aB n c
   obtain ⟨cs,hj,hcs,hc,hb,h0,h1⟩:=hw
   rcases hs.eY with ⟨k,hk,rfl⟩|⟨_,rfl,rfl⟩
   ·obtain ⟨cs',q1,q2⟩:=h.cells hj hk
    have ho:bA H.get inf.size (.slice (some ⟨k,0,none⟩) n c)=some cs':=by
     unfold bA
     simp only [q1,cells?]
     rw [nh (by rw [←q2.1,hcs];omega)]
     simp only [List.drop_zero]
     rw [List.take_of_length_le (by rw [←q2.1,hcs];omega)]
    rw [main n _ c cs' rfl ho hb]
    by_cases hne:els=[]
    ·rw [if_pos hne];exact .pure h hs (h0 hne)
    ·rw [if_neg hne]
     have h1:=h1 hne
     unfold gE
     have fin:∀ (e:bN) (H1:Hp),(H1=H∨∃ k,E.ρ j aB=some k∧H1=H.put k .dead)→H.app e=H1.push (.cells (cs'++new) true inf.size) →
       dM base E hp aE H (some (.slice (some ⟨H.n,0,none⟩) (n+els.length) (n+els.length+1),e)) K:=by
      intro e H1 hH1 he
      obtain ⟨E',_,r1,r2,r3⟩:=h.renew (a:=.cells (cs++els.flatten) inf.size (aB+1)) (b:=.cells (cs'++new) true inf.size) hj rfl rfl hH1 (fun E' H' _ _ e=>⟨_,rfl,e.zS h.wf (q2.append hna)⟩)
      refine ⟨_,e,E',_,_,rfl,h1,by rw [he];exact r1,by rw [he];exact r2,.bO r3⟩
     by_cases hcn:c=n
     ·subst hcn
      simp only [l5,cond_true]
      exact fin _ H (.inl rfl) rfl
     ·have hc':c=n+1:=by omega
      subst hc'
      rw [Eg (by omega),show Nat.ble (n+els.length+3) (n+1)=false from Bool.eq_false_iff.2 (fun h=>by have:=Nat.le_of_ble_eq_true h;omega)]
      simp only [cond_false,q1,cells?,l5,Bool.true_and,Bool.and_true]
      rw [show Nat.beq cs'.length (n * inf.size)=true by rw [←q2.1,hcs];exact l5 _]
      simp only [cond_true]
      exact fin _ (H.put k .dead) (.inr ⟨k,hk,rfl⟩) rfl
   ·rw [main 0 none 0 [] rfl rfl hb]
    by_cases hne:els=[]
    ·rw [if_pos hne]
     exact .pure h .pe (h0 hne)
    ·rw [if_neg hne]
     have h1:=h1 hne
     have hcs0:cs=[]:=List.length_eq_zero_iff.1 (by rw [hcs];simp)
     subst hcs0
     unfold gE
     simp only [l5,cond_true,List.nil_append]
     obtain ⟨E',_,r1,r2,r3⟩:=h.renew (a:=.cells ([]++els.flatten) inf.size (aB+1)) (b:=.cells new true inf.size) hj rfl rfl (.inl rfl) (fun E' H' _ _ e=>⟨_,rfl,e.zS h.wf hna⟩)
     exact ⟨_,.new _,E',_,_,rfl,h1,r1,r2,.bO r3⟩
  ·exact hw.elim
 ·exact hw.elim
def zh (T:bz) (t:TypeId) (x:AV) (hp:List AB) (K:AV→List AB→Prop):Prop :=
 match T.ty.get t,x with
 | some ⟨.string,_,_,_,_,_,_⟩,.fl (.string s)=>K (.ptr hp.length 0 0) (hp++[.cV s 0])
 | some ⟨.map ..,_,_,_,_,_,_⟩,.om j=>∃ aH clock,hp[j]?=some (.map aH clock)∧K (.ptr hp.length 0 0) (hp++[.iter j clock [] clock])
 | _,_=>False
theorem wJ (h:aS E base hp aE H) {t:TypeId} {x:AV} {u:Value} (hx:AR E.ρ H.get (E.O hp) x u) {K:AV→List AB→Prop} (hw:zh T t x hp K):dM base E hp aE H (qP T H.n t u H.get) K:=by
 unfold zh at hw
 unfold qP
 split at hw
 ·rename_i hty
  rw [hty]
  obtain ⟨rfl,_⟩:=hx.eG
  exact .new h (x:=.cV _ 0) rfl (fun E' H' e=>rfl) (fun E' hr=>.ptr hr) hw
 ·rename_i j hty
  rw [hty]
  obtain ⟨aH,clock,h1,h2⟩:=hw
  obtain ⟨k,hk,rfl⟩:=hx.lZ
  obtain ⟨es,q1,q2,_⟩:=h.map h1 hk
  simp only [q1,map?]
  exact .new h (x:=.iter j clock [] clock) rfl (fun E' H' e=>⟨_,rfl,e.A8 _ _ _ hk⟩) (fun E' hr=>.ptr hr) h2
 ·exact hw.elim
def rF (it:AV) (hp:List AB) (K:AV→List AB→Prop):Prop :=
 match it with
 | .ptr j 0 0=>∃ s pos,hp[j]?=some (.cV s pos)∧(pos < s.data.toList.length→K (.tp [.fl (.bool true),.fl (.int .i64 pos),.fl (.int .i32 (Utf8.decode s pos).1)]) (hp.set j (.cV s (pos+(Utf8.decode s pos).2)))) ∧
  (s.data.toList.length≤pos→K (.tp [.fl (.bool false)]) hp)
 | _=>False
theorem aS.cV (h:aS E base hp aE H) {j k pos:Nat} {s:ByteArray} (hj:hp[j]?=some (.cV s pos)) (hk:E.ρ j 0=some k):H.get k=some (.cV s pos):=by
 rcases h.fQ j _ 0 hj rfl with ⟨k',b',h1,h2,h3⟩|⟨h1,_,h2⟩
 ·rw [hk] at h1;cases h1
  cases h3
  exact h2
 ·cases h2
theorem sZ (h:aS E base hp aE H) {it:AV} {u:Value} (hx:AR E.ρ H.get (E.O hp) it u) {K:AV→List AB→Prop} (hw:rF it hp K):dM base E hp aE H (jo u H.get) K:=by
 unfold rF at hw
 split at hw
 ·rename_i j
  obtain ⟨s,pos,h1,h2,h3⟩:=hw
  obtain ⟨k,hk,rfl⟩:=hx.cM
  have hg:=h.cV h1 hk
  unfold jo addr?
  simp only [hg]
  by_cases hlt:pos < s.data.toList.length
  ·rw [show Nat.blt pos s.data.toList.length=true from Nat.ble_eq_true_of_le hlt]
   simp only [cond_true]
   obtain ⟨p1,p2⟩:=h.put (a:=.cV s (pos+(Utf8.decode s pos).2)) (b:=.cV s (pos+(Utf8.decode s pos).2)) h1 rfl rfl hk rfl
   refine ⟨_,.put k _,E,_,_,rfl,h2 hlt,p1,p2,.d (.tp rfl fun i x u hx hu=>?_)⟩
   match i with
   | 0=>cases hx;cases hu;exact .fl rfl
   | 1=>cases hx;cases hu;exact .fl rfl
   | 2=>cases hx;cases hu;exact .fl rfl
   | i+3=>simp at hx
  ·have hb:Nat.blt pos s.data.toList.length=false:=by
    cases hb:Nat.blt pos s.data.toList.length with
    | false=>rfl
    | true=>exact absurd (Nat.le_of_ble_eq_true hb) hlt
   rw [hb]
   simp only [cond_false]
   refine .pure h (.d (.tp rfl fun i x u hx hu=>?_)) (h3 (by omega))
   match i with
   | 0=>cases hx;cases hu;exact .fl rfl
   | i+1=>simp at hx
 ·exact hw.elim
def nR (T:bz) (t:TypeId) (x:AV) (hp:List AB) (K:AV→List AB→Prop):Prop :=
 match T.ty.get t,x with
 | some ⟨.map ..,_,_,_,_,_,_⟩,.om j=>∃ aH clock,hp[j]?=some (.map aH clock)∧K (.tp []) (hp.set j (.map [] clock))
 | _,_=>False
theorem wK (h:aS E base hp aE H) {t:TypeId} {x:AV} {u:Value} (hx:AR E.ρ H.get (E.O hp) x u) {K:AV→List AB→Prop} (hw:nR T t x hp K) :
  dM base E hp aE H (mQ T t u H.get) K:=by
 unfold nR at hw
 split at hw
 ·rename_i j hty
  obtain ⟨aH,clock,h1,h2⟩:=hw
  obtain ⟨q,hq,rfl⟩:=hx.lZ
  obtain ⟨es,q1,q2⟩:=h.CY h1 hq
  unfold mQ
  simp only [hty,q1,map?]
  obtain ⟨p1,p2⟩:=h.put (a:=.map [] clock) (b:=.map [] clock) h1 rfl rfl hq ⟨_,rfl,rfl,fun i k v born x hx _=>by cases hx⟩
  exact ⟨_,.put q _,E,.tp [],_,rfl,h2,p1,p2,.d (.tp rfl fun i x u hx _=>by cases hx)⟩
 ·exact hw.elim
def gw (T:bz) (own:Bool) (b:Builtin) (args:List AV) (tys:List TypeId) (hp:List AB) (K:AV→List AB→Prop):Prop :=
 match b with
 | .len=>match args,tys with
  | [x],[t]=>qp T t x hp K
  | _,_=>False
 | .min=>Ed T args hp K
 | .max=>Ee T args hp K
 | .clear=>match args,tys with
  | [x],[t]=>nR T t x hp K
  | _,_=>False
 | .append=>match args,tys with
  | [s,x],[t,u]=>match T.ty.get u with
   | some ⟨.slice _,_,_,_,_,_,_⟩=>gv T own t s x hp K
   | _=>False
  | _,_=>False
 | _=>False
def force (v:AV) (K:AV→Prop):Prop :=
 match v with
 | .fl x=>K (.fl x)
 | .sl a b=>K (.sl a b)
 | .pt a b=>K (.pt a b)
 | .fn a b c=>K (.fn a b c)
 | .ag a=>K (.ag a)
 | .tp a=>K (.tp a)
 | .ptr a b c=>K (.ptr a b c)
 | .bO a b c d e=>K (.bO a b c d e)
 | .om a=>K (.om a)
 | .oq a=>K (.oq a)
 | .bP=>K .bP
theorem aY {v:AV} {K:AV→Prop} (h:force v K):K v:=by cases v <;> exact h
def eP:List AV→(List AV→Prop)→Prop
 | [],K=>K []
 | a :: l,K=>force a fun a=>eP l fun l=>K (a :: l)
theorem dP:∀ {l:List AV} {K:List AV→Prop},eP l K→K l
 | [],_,h=>h
 | a :: l,K,h=>by
  have h1:eP l fun l=>K (a :: l):=aY h
  exact dP (K:=fun l=>K (a :: l)) h1
def jE:List (Nat × AV)→(List (Nat × AV)→Prop)→Prop
 | [],K=>K []
 | (i,a) :: l,K=>force a fun a=>jE l fun l=>K ((i,a) :: l)
theorem rG:∀ {l:List (Nat × AV)} {K:List (Nat × AV)→Prop},jE l K→K l
 | [],_,h=>h
 | (i,a) :: l,K,h=>by
  have h1:jE l fun l=>K ((i,a) :: l):=aY (K:=fun a=>jE l fun l=>K ((i,a) :: l)) h
  exact rG (K:=fun l=>K ((i,a) :: l)) h1
def wpOp (T:bz) (own:Bool) (o:Op) (fr:Nat→AV) (hp:List AB) (K:AV→List AB→Prop):Prop :=
 match o with
 | .move x=>K (aO fr x) hp
 | .assign x=>K (aO fr x) hp
 | .pick c a b=>rD (aO fr c) (aO fr a) (aO fr b) hp K
 | .alloc t=>ql T t hp K
 | .box _ x=>force (aO fr x) fun v=>xB own v hp K
 | .build t parts=>jE (parts.toList.map fun p=>(p.1,aO fr p.2)) fun ps=>lY T t ps hp K
 | .buildSlice t len parts=>jE (parts.toList.map fun p=>(p.1,aO fr p.2)) fun ps=>dh T own t len ps hp K
 | .load t a=>eB T t (aO fr a) hp K
 | .store t a x=>force (aO fr x) fun v=>cG T t (aO fr a) v hp K
 | .fieldAddr t a i=>ja T t (aO fr a) i hp K
 | .indexAddr t a ix=>cr T t (aO fr a) (aO fr ix) hp K
 | .index t a ix=>Ec T t (aO fr a) (aO fr ix) hp K
 | .field t a i=>Bc T t (aO fr a) i hp K
 | .binOp o t x y _=>aJ T o t x y (aO fr x) (aO fr y) hp K
 | .unOp o _ x=>Kj T o (aO fr x) hp K
 | .convert s d x=>CX T s d (aO fr x) hp K
 | .makeInterface t x=>Eb T t (aO fr x) hp K
 | .extract x i=>jl (aO fr x) i hp K
 | .makeFunc (.func f) first captured=>eP (first.toList.map (aO fr)) fun a=>eP (captured.toList.map (aO fr)) fun b=>K (.fn f a b) hp
 | .nilCheck x=>qn (aO fr x) hp K
 | .slice t x lo hi none=>qo T t (aO fr x) (lo.map (aO fr)) (hi.map (aO fr)) hp K
 | .slice t x lo (some hi) (some m)=>nj T t (aO fr x) (lo.map (aO fr)) (aO fr hi) (aO fr m) hp K
 | .makeSlice t l c=>uU T t (aO fr l) (aO fr c) hp K
 | .range t x=>zh T t (aO fr x) hp K
 | .next it true=>rF (aO fr it) hp K
 | .makeMap _ none=>K (.om hp.length) (hp++[.map [] 0])
 | .lookup t m k ok=>k9 T t (aO fr m) (aO fr k) ok hp K
 | .mapEntry t m k=>fF T t (aO fr m) (aO fr k) hp K
 | .entryStore _ m s v=>dW (aO fr m) (aO fr s) (aO fr v) hp K
 | .entry it=>zf (aO fr it) hp K
 | .mapUpdate t m k v=>force (aO fr v) fun v=>nr T t (aO fr m) (aO fr k) v hp K
 | .call ⟨.builtin b,args,tys⟩=>eP (args.toList.map (aO fr)) fun as=>gw T own b as tys.toList hp K
 | _=>False
theorem cX {fr:Nat→AV} {tm:Tr Value} (h:iJ ρ g O fr tm) (l:List Operand):fC ρ g O (l.map (aO fr)) (l.map (aP tm)):=by
 induction l with
 | nil=>exact .nil
 | cons x l ih=>exact .cons (h9 h x) ih
theorem xE {fr:Nat→AV} {tm:Tr Value} (h:iJ ρ g O fr tm) (l:List (Nat × Operand)):ni ρ g O (l.map fun p=>(p.1,aO fr p.2)) (l.map fun (i,x)=>(i,aP tm x)):=by
 induction l with
 | nil=>trivial
 | cons x l ih=>exact ⟨rfl,h9 h _,ih⟩
theorem zj {fr:Nat→AV} {tm:Tr Value} (h:iJ ρ g O fr tm) (o:Option Operand):Fi ρ g O (o.map (aO fr)) (o.map (aP tm)):=by
 cases o with
 | none=>trivial
 | some x=>exact h9 h x
theorem gi (h:aS E base hp aE H) {own:Bool} {o:Op} {fr:Nat→AV} {tm:Tr Value} (hf:iJ E.ρ H.get (E.O hp) fr tm) {K:AV→List AB→Prop} (hw:wpOp T own o fr hp K) :
  dM base E hp aE H (gU T H.n o (aP tm) H.get) K:=by
 have ev:=fun x=>h9 hf x
 unfold wpOp at hw
 split at hw
 ·exact .pure h (ev _) hw
 ·exact .pure h (ev _) hw
 ·exact zc h (ev _) (ev _) (ev _) hw
 ·exact wv h hw
 ·exact Ba h (ev _) (aY hw)
 ·exact wC h (xE hf _) (rG hw)
 ·exact pg h (xE hf _) (rG hw)
 ·exact za h (ev _) hw
 ·exact wq h (ev _) (ev _) (aY hw)
 ·exact wz h (ev _) hw
 ·exact qm h (ev _) (ev _) hw
 ·exact wB h (ev _) (ev _) hw
 ·exact uR h (ev _) hw
 ·exact Bb h (ev _) (ev _) hw
 ·exact CW h (ev _) hw
 ·exact zb h (ev _) hw
 ·exact wA h (ev _) hw
 ·exact sY h (ev _) hw
 ·refine .pure h (.fn ?_ ?_ ?_ ?_) (dP (dP hw))
  ·exact (cX hf _).1
  ·exact (cX hf _).1
  ·exact (cX hf _).2
  ·exact (cX hf _).2
 ·exact Bd h (ev _) hw
 ·exact wE h (ev _) (zj hf _) (zj hf _) hw
 ·exact uT h (ev _) (zj hf _) (ev _) (ev _) hw
 ·exact ze h (ev _) (ev _) hw
 ·exact wJ h (ev _) hw
 ·exact sZ h (ev _) hw
 ·exact .new h (x:=.map [] 0) rfl (fun E' H' e=>⟨[],rfl,rfl,fun i k v born e x=>by cases x⟩) (fun E' hr=>.om hr) hw
 ·exact uW h (ev _) (ev _) hw
 ·exact rE h (ev _) (ev _) hw
 ·exact pq h (ev _) (ev _) (ev _) hw
 ·exact wH h (ev _) hw
 ·exact qq h (ev _) (ev _) (ev _) (aY hw)
 ·rename_i b args tys
  have hw:=dP hw
  have hl:=cX hf args.toList
  show dM base E hp aE H (gH T H.n b (args.toList.map (aP tm)) tys.toList H.get) K
  unfold gw at hw
  unfold gH
  split at hw
  ·split at hw
   ·rename_i x t hx ht
    rw [hx] at hl
    match hl':args.toList.map (aP tm),hl with
    | [u],hl=>simp only [ht];exact Be h (hl.2 0 _ _ rfl rfl) hw
    | [],hl=>exact absurd hl.1 (by simp)
    | _ :: _ :: _,hl=>exact absurd hl.1 (by simp)
   ·exact hw.elim
  ·exact Bf h hl hw
  ·exact Bg h hl hw
  ·split at hw
   ·rename_i x t hx ht
    rw [hx] at hl
    match hl':args.toList.map (aP tm),hl with
    | [u],hl=>simp only [ht];exact wK h (hl.2 0 _ _ rfl rfl) hw
    | [],hl=>exact absurd hl.1 (by simp)
    | _ :: _ :: _,hl=>exact absurd hl.1 (by simp)
   ·exact hw.elim
  ·split at hw
   ·rename_i s x t u hx ht
    rw [hx] at hl
    obtain ⟨a,b,hab,h1,h2⟩:=hl.two
    rw [hab,ht]
    simp only
    split at hw
    ·rename_i hu
     simp only [hu]
     exact Bi h h1 h2 hw
    ·exact hw.elim
   ·exact hw.elim
  ·exact hw.elim
 ·exact hw.elim
end
end Go.RM
