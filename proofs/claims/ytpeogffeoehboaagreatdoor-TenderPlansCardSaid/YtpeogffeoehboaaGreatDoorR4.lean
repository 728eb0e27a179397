/-
  An abstract machine, and that its runs are the model's. Lemmas alone; no condition.
-/
import Derived.Test.YtpeogffeoehboaaGreatDoorR3
namespace Go.RM
open Go
noncomputable def eZ (H:Hp) (l:List (List Value)):Hp:=l.foldl (fun h c=>h.push (.cells c false 0)) H
theorem mA:∀ (l:List (List Value)) (H:Hp),(eZ H l).n=H.n+l.length
 | [],H=>rfl
 | c :: l,H=>by show (eZ (H.push _) l).n=_;rw [mA l];show H.n+1+l.length=_;simp;omega
theorem ig:∀ (l:List (List Value)) (H:Hp) (k:Nat),(k < H.n→(eZ H l).get k=H.get k)∧(H.n+l.length≤k→(eZ H l).get k=H.get k) ∧
  (∀ (i:Nat) (c:List Value),l[i]?=some c→(eZ H l).get (H.n+i)=some (.cells c false 0))
 | [],H,k=>⟨fun _=>rfl,fun _=>rfl,fun i c h=>by cases h⟩
 | c :: l,H,k=>by
  obtain ⟨h1,h2,_⟩:=ig l (H.push (.cells c false 0)) k;have hn:(H.push (.cells c false 0)).n=H.n+1:=rfl;refine ⟨fun hk=>?_,fun hk=>?_,fun i d hi=>?_⟩
  ·show (eZ (H.push _) l).get k=_;rw [h1 (by omega),Hp.fk,if_neg (by omega)]
  ·show (eZ (H.push _) l).get k=_;simp only [List.length_cons] at hk;rw [h2 (by omega),Hp.fk,if_neg (by omega)]
  ·show (eZ (H.push _) l).get (H.n+i)=_
   cases i with
   | zero =>cases hi;rw [(ig l (H.push _) (H.n+0)).1 (by omega),Hp.fk,if_pos (by omega)]
   | succ i =>have:=(ig l (H.push (.cells c false 0)) 0).2.2 i d hi;rw [hn,show H.n+1+i=H.n+(i+1) by omega] at this;exact this
theorem rX (H:Hp) (l:List (List Value)):ej H (eZ H l):=by
 induction l generalizing H with
 | nil=>exact .refl H
 | cons c l ih=>exact (ej.push H _).trans (ih _)
theorem Co:Wf Hp.empty:=fun _ _=>rfl
noncomputable def pT (nb n:Nat) (p:Value):Option Value :=
 match p with
 | .slice (some ⟨k,0,none⟩) m c=>bif Nat.ble nb k && Nat.beq c (m+2) then some (.slice (some ⟨k - nb+n,0,none⟩) m c) else none
 | v=>bif aV v then some v else none
noncomputable def ni (nb n:Nat):List Value→Option (List Value)
 | []=>some []
 | p :: l=>match pT nb n p,ni nb n l with
  | some q,some m=>some (q :: m)
  | _,_=>none
noncomputable def rY (nb n:Nat) (p:Value):Option Value :=
 match p with
 | .agg ps=>(ni nb n ps.toList).map fun l=>.agg l.toArray
 | v=>pT nb n v
noncomputable def pU (nb n:Nat):List Value→Option (List Value)
 | []=>some []
 | p :: l=>match rY nb n p,pU nb n l with
  | some q,some m=>some (q :: m)
  | _,_=>none
noncomputable def oO (nb n:Nat) (p:Value):Option Value :=
 match p with
 | .tuple ps=>(pU nb n ps.toList).map fun l=>.tuple l.toArray
 | v=>rY nb n v
section
variable {δ γ : Gm} {nb n : Nat}
theorem rZ (hl:∀ k x,nb≤k→δ.loc k=some x→γ.loc (k - nb+n)=some x) {p q v:Value} (h:pT nb n p=some q) (hv:VR δ p v):VR γ q v:=by
 unfold pT at h;split at h
 ·rename_i k m c
  cases hb:(Nat.ble nb k && Nat.beq c (m+2)) with
  | false=>rw [hb] at h;cases h
  | true =>
   rw [hb] at h;simp only [cond_true,qq9] at h;subst h;simp only [qq7] at hb;obtain rfl:=Nat.eq_of_beq_eq_true hb.2
   cases hv with
   | flat hf=>cases hf
   | slice h1 h2 h3 h4=>exact .slice (hl _ _ (Nat.le_of_ble_eq_true hb.1) h1) h2 (fun e=>by omega) (fun e=>by omega) (fun e=>by omega)
   | dh h0 ht=>exact .dh (by omega) (fun e=>by omega) (by omega)
 ·cases hb:aV p with
  | false=>rw [hb] at h;cases h
  | true =>rw [hb] at h;simp only [cond_true,qq9] at h;subst h;rw [hv.bM hb];exact .flat hb
theorem qy (hl:∀ k x,nb≤k→δ.loc k=some x→γ.loc (k - nb+n)=some x):∀ {ps qs vs:List Value},ni nb n ps=some qs→cv δ ps vs→cv γ qs vs
 | [],qs,vs,h,hv=>by
  cases h
  cases vs with
  | nil=>exact cv.nil _
  | cons=>exact absurd hv.1 (by simp)
 | p :: ps,qs,vs,h,hv=>by
  unfold ni at h;split at h
  ·rename_i q m h1 h2;cases h
   cases vs with
   | nil=>exact absurd hv.1 (by simp)
   | cons v vs=>exact .cons (rZ hl h1 (hv.2 0 p v rfl rfl)) (qy hl h2 ⟨by simpa using hv.1,fun i a b ha hb=>hv.2 (i+1) a b ha hb⟩)
  ·cases h
theorem uB (hl:∀ k x,nb≤k→δ.loc k=some x→γ.loc (k - nb+n)=some x) {p q v:Value} (h:rY nb n p=some q) (hv:VR δ p v):VR γ q v:=by
 unfold rY at h;split at h
 ·simp only [Option.map_eq_some_iff] at h;obtain ⟨l,h1,rfl⟩:=h
  cases hv with
  | flat hf=>cases hf
  | agg e hc =>rename_i cs';have:=VR.kA (qy hl h1 (cv.mQ e hc));simpa using this
 ·exact rZ hl h hv
theorem r0 (hl:∀ k x,nb≤k→δ.loc k=some x→γ.loc (k - nb+n)=some x):∀ {ps qs vs:List Value},pU nb n ps=some qs→cv δ ps vs→cv γ qs vs
 | [],qs,vs,h,hv=>by
  cases h
  cases vs with
  | nil=>exact cv.nil _
  | cons=>exact absurd hv.1 (by simp)
 | p :: ps,qs,vs,h,hv=>by
  unfold pU at h;split at h
  ·rename_i q m h1 h2;cases h
   cases vs with
   | nil=>exact absurd hv.1 (by simp)
   | cons v vs=>exact .cons (uB hl h1 (hv.2 0 p v rfl rfl)) (r0 hl h2 ⟨by simpa using hv.1,fun i a b ha hb=>hv.2 (i+1) a b ha hb⟩)
  ·cases h
theorem Cp (hl:∀ k x,nb≤k→δ.loc k=some x→γ.loc (k - nb+n)=some x) {p q v:Value} (h:oO nb n p=some q) (hv:VR δ p v):VR γ q v:=by
 unfold oO at h;split at h
 ·simp only [Option.map_eq_some_iff] at h;obtain ⟨l,h1,rfl⟩:=h
  cases hv with
  | flat hf =>cases hf
  | tuple e hc =>rename_i cs';have:=VR.cF (r0 hl h1 (cv.mQ e hc));simpa using this
 ·exact uB hl h hv
end
structure XR (e:XE) (w:World) (v':Value) (δ':Gm) (w':World):Prop where
 val:VR δ' e.res v'
 new:∀ k b o,δ'.loc k=some (b,o)→e.eA.length≤k∧k < e.eA.length+e.news.length∧w.heap.size≤b∧b < w'.heap.size ∧
  ∀ cs,e.news[k - e.eA.length]?=some cs→∃ cs' el fz,w'.heap[b]?=some (.cells cs' el fz)∧∀ γ,dR γ cs cs' o
 os:w'.os=w.os
 tape:w'.tape=w.tape
 output:w'.output=w.output
 size:w.heap.size≤w'.heap.size
 same:∀ b,b < w.heap.size→w'.heap[b]?=w.heap[b]?
def ak (T : bJ) (e : XE) : Prop :=
  (∃ fn c, T.P.funcs[e.f]? = some fn ∧ (fn.name == "runtime.NumGoroutine") = false ∧ fn.body = some c) ∧
  ∀ (δ : Gm) (w : World) (args' : List Value), δ.B ≤ w.heap.size → (∀ x ∈ GL, x.1 < δ.B ∧ Ii (w.heap[x.1]?) x.2) → (∀ k b o, δ.loc k = some (b, o) → b < w.heap.size ∧ k < e.eA.length) →
    (∀ k b o cs, e.eA[k]? = some cs → δ.loc k = some (b, o) → ∃ cs' el fz, w.heap[b]? = some (.cells cs' el fz) ∧ dR δ cs cs' o) → cv δ e.args args' →
    CallsIn (FW none) 0 T.P e.f args'.toArray w fun en w' => ∃ v' δ', en = .returned v' ∧ XR e w v' δ' w'
noncomputable def oP (eA:List (List Value)):Hp:=eZ Hp.empty eA
noncomputable def FO (hp:Hp) (φ:Ren) (nb:Nat):List (List Value)→Nat→Bool
 | [],_=>true
 | cs :: l,i=>(match φ.get (nb+i) with
  | some (k',o)=>match cells? (hp.get k') with
   | some (ds,own,_)=>own && (match cut ds o cs.length with
    | some vs=>Nat.beq vs.length cs.length && (cs.zip vs).all fun p=>DZ p.1 p.2
    | none=>false)
   | none=>false
  | none=>true) && FO hp φ nb l (i+1)
noncomputable def NX (e:XE) (r:gC):Bool :=
 match r with
 | .ret v hp=>match wg (e.eA.length+e.news.length) e.res v .leaf with
  | some φ=>(List.range e.eA.length).all (fun i=>(φ.get i).isNone) && FO hp φ e.eA.length e.news 0
  | none=>false
 | .out ..=>false
noncomputable def Pm (rn:qI→Option (List gC)) (e:XE):Bool :=
 match rn (.call e.f e.args (oP e.eA)) with
 | some L=>L.all (NX e)
 | none=>false
theorem yU {hp:Hp} {φ:Ren} {nb:Nat}:∀ {l:List (List Value)} {j:Nat},FO hp φ nb l j=true→∀ (i:Nat) (cs:List Value),l[i]?=some cs→∀ k' o,φ.get (nb+(j+i))=some (k',o) →
  ∃ ds es vs,hp.get k'=some (.cells ds true es)∧cut ds o cs.length=some vs∧vs=cs∧cs.all aV=true
 | [],j,h,i,cs,hi=>by cases hi
 | c :: l,j,h,i,cs,hi=>by
  intro k' o hk;simp only [FO,qq7] at h
  cases i with
  | zero =>
   have hi':c=cs:=by simpa using hi
   have h1:=h.1;rw [hi'] at h1;rw [Nat.add_zero] at hk;rw [hk] at h1;simp only at h1;split at h1
   ·rename_i ds own es hc;simp only [qq7] at h1;obtain ⟨h2,h3⟩:=h1;subst h2;split at h3
    ·rename_i vs hcut;simp only [qq7,List.all_eq_true] at h3;have hlen:=Nat.eq_of_beq_eq_true h3.1;have key:∀ (i:Nat) (a b:Value),cs[i]?=some a→vs[i]?=some b→a=b∧aV b=true:=fun i a b ha hb =>Aq (h3.2 (a,b) (List.mem_of_getElem? (List.getElem?_zip_eq_some.2 ⟨ha,hb⟩)))
     have heq:vs=cs:=by
      apply List.ext_getElem? fun i=>?_
      cases ha:cs[i]? with
      | none=>rw [List.getElem?_eq_none_iff] at ha ⊢;omega
      | some a =>have hlt:=(List.getElem?_eq_some_iff.1 ha).1;have hb:vs[i]?=some (vs[i]'(by omega)):=List.getElem?_eq_getElem _;rw [hb,(key i a _ ha hb).1]
     refine ⟨ds,es,vs,eW hc,hcut,heq,?_⟩;rw [List.all_eq_true];intro x hx;obtain ⟨i,hi,rfl⟩:=List.getElem_of_mem hx;have ha:cs[i]?=some cs[i]:=List.getElem?_eq_getElem hi;exact (key i _ _ ha (by rw [heq];exact ha)).2
    ·cases h3
   ·cases h1
  | succ i=>exact yU h.2 i cs hi k' o (by rw [show j+1+i=j+(i+1) by omega];exact hk)
theorem IU (eA:List (List Value)):(oP eA).n=eA.length:=by unfold oP;rw [mA];show 0+_=_;omega
theorem wj (eA:List (List Value)) (k:Nat) (a:bu) (h:(oP eA).get k=some a):∃ cs,eA[k]?=some cs∧a=.cells cs false 0:=by
 unfold oP at h;obtain ⟨_,h2,_⟩:=ig eA Hp.empty k;by_cases hk:k < eA.length
 ·have hc:eA[k]?=some eA[k]:=List.getElem?_eq_getElem hk;have:=(ig eA Hp.empty 0).2.2 k _ hc;rw [show Hp.empty.n+k=k from Nat.zero_add k] at this;rw [this] at h;cases h;exact ⟨_,hc,rfl⟩
 ·rw [h2 (by show 0+_≤_;omega)] at h;cases h
theorem IV {T:bJ} {rn:qI→Option (List gC)} {m:Nat} (hS:cI T rn m) {e:XE} (h:Pm rn e=true):ak T e:=by
 unfold Pm at h;split at h
 ·rename_i L hL;rw [List.all_eq_true] at h;obtain ⟨hfn,hcall⟩:=hS.call _ _ _ _ hL;refine ⟨hfn,fun δ w args' hB hgl hlt hrow ha=>?_⟩
  have hN:∃ N,∀ r ∈ L,r.hp.n≤N:=by
   clear h hL hcall
   induction L with
   | nil=>exact ⟨0,fun r hr=>by cases hr⟩
   | cons a l ih =>
    obtain ⟨N,hN⟩:=ih;refine ⟨max a.hp.n N,fun r hr=>?_⟩
    rcases List.mem_cons.1 hr with rfl|hr
    ·omega
    ·have:=hN r hr;omega
  obtain ⟨N,hN⟩:=hN;have hnown:∀ k a,(oP e.eA).get k=some a→a.own=false:=fun k a hk=>by obtain ⟨cs,_,rfl⟩:=wj _ _ _ hk;rfl
  have hhr:HR δ (oP e.eA).get w:=by
   refine ⟨fun k b o a hk hl=>?_,fun k k' b o o' a a' hk ho=>?_,fun k b o hl=>(hlt k b o hl).1,hB,hgl⟩
   ·obtain ⟨cs,h1,rfl⟩:=wj _ _ _ hk;obtain ⟨cs',el,fz,h2,h3⟩:=hrow k b o cs h1 hl;exact ⟨cs',el,fz,h2,h3,fun h=>Bool.noConfusion h⟩
   ·rw [hnown k a hk] at ho;cases ho
  have hfresh:fB δ (oP e.eA).n N:=fun k hk _=>by
   rw [IU] at hk
   cases hl:δ.loc k with
   | none=>rfl
   | some p=>have:=(hlt k p.1 p.2 hl).2;omega
  refine CallsIn.mono (F:=FW none) (hcall δ w args' N ((rX _ _).wf Co) hhr hfresh hN ha) fun en w' hR=>?_;obtain ⟨v,hp,v',γ1,hm,rfl,hv,hs⟩:=hR;have hr:=h _ hm;unfold NX at hr;simp only at hr;split at hr
  ·rename_i φ hφ;simp only [qq7,List.all_eq_true] at hr;obtain ⟨q1,q2,q3⟩:=Cn (γ:=γ1) hφ;refine ⟨v',γ1.ren φ,rfl,q3 φ (yT.refl φ) v' hv,fun k b o hl=>?_,hs.iK.os,hs.iK.tape,hs.iK.output,hs.iK.size,fun b hb=>hs.iK.same b hb fun k o a h1 h2 _=>by rw [hnown k a h1] at h2;cases h2⟩;simp only [Gm.ren,Option.bind_eq_some_iff,Option.map_eq_some_iff] at hl;obtain ⟨⟨k',o'⟩,h1,⟨b',d'⟩,h2,h3⟩:=hl;simp only [Prod.mk.injEq] at h3;obtain ⟨rfl,rfl⟩:=h3;simp only at h2;have hk1:e.eA.length≤k:=by apply Nat.le_of_not_lt;intro hlt';have:=hr.1 k (List.mem_range.2 hlt');rw [h1] at this;cases this
   have hk2:k < e.eA.length+e.news.length:=q2 (fun i x hx=>by cases hx) k _ h1;have hget:=yU hr.2 (k - e.eA.length) _ (List.getElem?_eq_getElem (by omega)) k' o' (by rw [Nat.zero_add,show e.eA.length+(k - e.eA.length)=k by omega];exact h1);obtain ⟨ds,es,vs,r1,r2,r3,r4⟩:=hget;refine ⟨hk1,hk2,?_,hs.hr.lt _ _ _ h2,fun cs hcs=>?_⟩
   ·apply Nat.le_of_not_lt;intro hlt';obtain ⟨k0,o0,a0,t1,t2,_⟩:=hs.iK.uu k' b' d' _ r1 rfl h2 hlt';rw [hnown k0 a0 t1] at t2;cases t2
   ·obtain ⟨cs',el,fz,s1,s2,_⟩:=hs.hr.gE k' b' d' _ r1 h2;refine ⟨cs',el,fz,s1,fun γ j x hx=>?_⟩;obtain ⟨c',u1,u2,u3,u4,u5⟩:=s2.Is r2;rw [List.getElem?_eq_getElem (by omega)] at hcs;simp only [qq9] at hcs;subst hcs;subst r3;obtain ⟨y,y1,y2⟩:=u1.get hx;have hfx:aV x=true:=List.all_eq_true.1 r4 x (List.mem_of_getElem? hx);have:=y2.bM hfx;subst this;exact ⟨_,u3 j _ y1,.flat hfx⟩
  ·cases hr
 ·cases h
noncomputable def mB (e:XE) (f:FuncId) (args:List Value) (H:Hp):Option (Value × Hp) :=
 bif Nat.beq e.f f then
  match jc e.eA.length e.args args .leaf with
  | some φ=>match j7 e.eA.length H.get e.eA 0 φ with
   | some _=>(oO e.eA.length H.n e.res).map fun v=>(v,eZ H e.news)
   | none=>none
  | none=>none
 else none
noncomputable def look (tab:List XE) (f:FuncId) (args:List Value) (H:Hp):Option (Value × Hp) :=
 List.rec none (fun e _ ih=>match mB e f args H with
  | some r=>some r
  | none=>ih) tab
noncomputable def rx (tab:List XE) (rec:qI→Option (List gC)) (j:qI):Option (List gC) :=
 match j with
 | .call f args H=>match look tab f args H with
  | some (v,H')=>some [.ret v H']
  | none=>rec (.call f args H)
 | .round l args H=>rec (.round l args H)
 | .loop c st=>rec (.loop c st)
theorem yV {tab:List XE} {f:FuncId} {args:List Value} {H:Hp} {r:Value × Hp} (h:look tab f args H=some r):∃ e ∈ tab,mB e f args H=some r:=by
 induction tab with
 | nil=>cases h
 | cons e l ih =>
  have hu:look (e :: l) f args H=match mB e f args H with
   | some r=>some r
   | none=>look l f args H:=rfl
  rw [hu] at h
  cases h1:mB e f args H with
  | some r'=>rw [h1] at h;cases h;exact ⟨e,by simp,h1⟩
  | none =>rw [h1] at h;obtain ⟨e',m,h2⟩:=ih h;exact ⟨e',List.mem_cons_of_mem _ m,h2⟩
theorem wk {e:XE} {f:FuncId} {args:List Value} {H H':Hp} {v:Value} (h:mB e f args H=some (v,H')) :
  e.f=f∧H'=eZ H e.news∧oO e.eA.length H.n e.res=some v∧∃ φ ψ,jc e.eA.length e.args args .leaf=some φ∧j7 e.eA.length H.get e.eA 0 φ=some ψ:=by
 unfold mB at h
 cases hb:Nat.beq e.f f with
 | false=>rw [hb] at h;cases h
 | true =>
  rw [hb] at h;simp only [cond_true] at h;split at h
  ·rename_i φ hφ;split at h
   ·rename_i ψ hψ;simp only [Option.map_eq_some_iff,Prod.mk.injEq] at h;obtain ⟨v0,h1,rfl,rfl⟩:=h;exact ⟨Nat.eq_of_beq_eq_true hb,rfl,h1,φ,ψ,hφ,hψ⟩
   ·cases h
  ·cases h
theorem FP {tab:List XE} {rec:qI→Option (List gC)} (h:bF rec):bF (rx tab rec):=by
 intro j L hj
 cases j with
 | call f args H =>
  unfold rx at hj;simp only at hj;split at hj
  ·rename_i v H' hl;cases hj;obtain ⟨e,_,h1⟩:=yV hl;obtain ⟨_,rfl,_⟩:=wk h1;exact .one (rX H e.news)
  ·exact h _ _ hj
 | round l args H=>exact h _ _ hj
 | loop c st=>exact h _ _ hj
theorem Er {T : bJ} {e : XE} (he : ak T e) {f : FuncId} {args : List Value} {H H' : Hp} {v : Value} (h : mB e f args H = some (v, H')) :
    (∃ fn c, T.P.funcs[f]? = some fn ∧ (fn.name == "runtime.NumGoroutine") = false ∧ fn.body = some c) ∧
    ∀ γ w args' N, Wf H → HR γ H.get w → fB γ H.n N → H'.n ≤ N → cv γ args args' → CallsIn (FW none) 0 T.P f args'.toArray w (th γ H w [.ret v H']) := by
  obtain ⟨rfl, rfl, hsh, φ, ψ, hφ, hψ⟩ := wk h;refine ⟨he.1, fun γ w args' N hw hh hf hN ha => ?_⟩;obtain ⟨a1, a2, a3⟩ := nh (γ := γ) hφ;obtain ⟨b1, b2, b3⟩ := rW (γ := γ) hψ;have hu : wh e.eA.length ψ := b2 (a2 fun k x hx => by cases hx);rw [mA] at hN;refine CallsIn.mono (F := FW none) (he.2 (γ.ren ψ) w args' hh.base hh.gl (fun k b o hl => ?_) (fun k b o cs hk hl => ?_) (a3 ψ b1 args' ha)) fun en w' hR => ?_
  · simp only [Gm.ren, Option.bind_eq_some_iff, Option.map_eq_some_iff] at hl;obtain ⟨⟨k', o'⟩, h1, ⟨b', d'⟩, h2, h3⟩ := hl;simp only [Prod.mk.injEq] at h3;obtain ⟨rfl, rfl⟩ := h3;exact ⟨hh.lt _ _ _ h2, hu _ _ h1⟩
  · simp only [Gm.ren, Option.bind_eq_some_iff, Option.map_eq_some_iff] at hl;obtain ⟨⟨k', o'⟩, h1, ⟨b', d'⟩, h2, h3⟩ := hl;simp only [Prod.mk.injEq] at h3;obtain ⟨rfl, rfl⟩ := h3;obtain ⟨k1, o1, cs1, own, es, vs, r1, r2, r3, r4⟩ := b3 k cs hk;rw [Nat.zero_add] at r1;rw [r1] at h1;cases h1;obtain ⟨cs', el, fz, s1, s2, _⟩ := hh.gE _ _ _ _ r2 h2;refine ⟨cs', el, fz, s1, fun j x hx => ?_⟩;obtain ⟨c', u1, u2, u3, u4, u5⟩ := s2.Is r3;have := r4 ψ (yT.refl ψ) c' u1;obtain ⟨y, y1, y2⟩ := this.get hx;exact ⟨y, u3 j y y1, y2⟩
  · obtain ⟨v', δ', rfl, X⟩ := hR
    let γ' : Gm := { γ with loc := fun k => if H.n ≤ k ∧ k < H.n + e.news.length then δ'.loc (k - H.n + e.eA.length) else γ.loc k }
    have hold : ∀ k, ¬ (H.n ≤ k ∧ k < H.n + e.news.length) → γ'.loc k = γ.loc k := fun k hk => if_neg hk;have hnew : ∀ k, (H.n ≤ k ∧ k < H.n + e.news.length) → γ'.loc k = δ'.loc (k - H.n + e.eA.length) := fun k hk => if_pos hk
    have hle : γ.Le γ' := by
      refine ⟨fun k x hx => ?_, fun k x hx => rfl, rfl⟩;by_cases hk : H.n ≤ k ∧ k < H.n + e.news.length
      · rw [hf k hk.1 (by omega)] at hx; cases hx
      · rw [hold k hk]; exact hx
    have hget : ∀ k a, (eZ H e.news).get k = some a → (¬ (H.n ≤ k ∧ k < H.n + e.news.length) ∧ H.get k = some a) ∨ ((H.n ≤ k ∧ k < H.n + e.news.length) ∧ ∃ cs, e.news[k - H.n]? = some cs ∧ a = .cells cs false 0) := by
      intro k a hk;obtain ⟨g1, g2, g3⟩ := ig e.news H k;by_cases hr : H.n ≤ k ∧ k < H.n + e.news.length
      · refine .inr ⟨hr, ?_⟩;have hc : e.news[k - H.n]? = some (e.news[k - H.n]'(by omega)) := List.getElem?_eq_getElem _;have := g3 _ _ hc;rw [show H.n + (k - H.n) = k by omega, hk] at this;cases this;exact ⟨_, hc, rfl⟩
      · refine .inl ⟨hr, ?_⟩;by_cases hlt : k < H.n
        · rw [← g1 hlt]; exact hk
        · rw [← g2 (by omega)]; exact hk
    have hnl : ∀ k b o, (H.n ≤ k ∧ k < H.n + e.news.length) → γ'.loc k = some (b, o) → w.heap.size ≤ b ∧ b < w'.heap.size := fun k b o hk hl => by rw [hnew k hk] at hl;obtain ⟨_, _, x3, x4, _⟩ := X.new _ _ _ hl;exact ⟨x3, x4⟩
    have hhr : HR γ' (eZ H e.news).get w' := by
      refine ⟨fun k b o a hk hl => ?_, fun k k' b o o' a a' hk ho hk' hd hne hl hl' => ?_, fun k b o hl => ?_, Nat.le_trans hh.base X.size, fun x hx => ⟨by rw [hle.B]; exact (hh.gl x hx).1, by rw [X.same _ (Nat.lt_of_lt_of_le (hh.gl x hx).1 hh.base)]; exact (hh.gl x hx).2⟩⟩
      · rcases hget k a hk with ⟨h1, h2⟩ | ⟨h1, cs, h2, rfl⟩
        · rw [hold k h1] at hl;exact (hh.gE k b o a h2 hl).mono hle hl (X.same b (hh.lt _ _ _ hl))
        · rw [hnew k h1] at hl;obtain ⟨_, _, _, _, x5⟩ := X.new _ _ _ hl;rw [show k - H.n + e.eA.length - e.eA.length = k - H.n by omega] at x5;obtain ⟨cs', el, fz, y1, y2⟩ := x5 cs h2;exact ⟨cs', el, fz, y1, y2 γ', fun h => Bool.noConfusion h⟩
      · rcases hget k a hk with ⟨h1, h2⟩ | ⟨h1, cs, h2, rfl⟩
        · have hl0 := hl;rw [hold k h1] at hl0
          rcases hget k' a' hk' with ⟨h1', h2'⟩ | ⟨h1', _⟩
          · rw [hold k' h1'] at hl';exact hh.inj k k' b o o' a a' h2 ho h2' hd hne hl0 hl'
          · have := (hnl k' b o' h1' hl').1;have := hh.lt k b o hl0;omega
        · cases ho
      · by_cases hk : H.n ≤ k ∧ k < H.n + e.news.length
        · exact (hnl k b o hk hl).2
        · rw [hold k hk] at hl;exact Nat.lt_of_lt_of_le (hh.lt k b o hl) X.size
    refine ⟨v, eZ H e.news, v', γ', by simp, rfl, Cp (fun k x hk hl => ?_) hsh X.val, ⟨by rw [mA]; omega, hle, fun k hk => hold k (by rw [mA] at hk; omega), hhr, ?_⟩⟩
    · have := X.new k x.1 x.2 hl;rw [hnew _ (by omega), show k - e.eA.length + H.n - H.n + e.eA.length = k by omega];exact hl
    · refine ⟨X.os, X.tape, X.output, X.size, fun b hb _ => X.same b hb, fun k b o a hk ho hl hb => ?_, fun k b o a hk hd hl hb => ?_, fun k b o hl hb => ?_⟩
      · rcases hget k a hk with ⟨h1, h2⟩ | ⟨h1, _⟩
        · rw [hold k h1] at hl; exact ⟨k, o, a, h2, ho, hl⟩
        · have := (hnl k b o h1 hl).1; omega
      · rcases hget k a hk with ⟨h1, h2⟩ | ⟨h1, _⟩
        · rw [hold k h1] at hl; exact ⟨k, o, a, h2, hd, hl⟩
        · have := (hnl k b o h1 hl).1; omega
      · by_cases hk : H.n ≤ k ∧ k < H.n + e.news.length
        · have := (hnl k b o hk hl).1; omega
        · rw [hold k hk] at hl; exact ⟨k, o, hl⟩
theorem Cq {T:bJ} {tab:List XE} (ht:∀ e ∈ tab,ak T e) {rec:qI→Option (List gC)} {m:Nat} (hS:cI T rec m):cI T (rx tab rec) m:=by
 refine ⟨fun f args hp L h=>?_,hS.round,hS.loop⟩;unfold rx at h;simp only at h;split at h
 ·rename_i v H' hl;cases h;obtain ⟨e,he,h1⟩:=yV hl;obtain ⟨x1,x2⟩:=Er (ht e he) h1;exact ⟨x1,fun γ w args' N hw hh hf hN ha=>x2 γ w args' N hw hh hf (hN (.ret v H') (by simp)) ha⟩
 ·exact hS.call f args hp L h
noncomputable def vc (tab:List XE) (T:bJ) (n:Nat):qI→Option (List gC) :=
 Nat.rec (motive:=fun _=>qI→Option (List gC)) (fun _=>none) (fun _ ih j=>iB T (rx tab ih) j) n
theorem G9 (tab:List XE) (T:bJ) (n:Nat):bF (vc tab T n):=by
 induction n with
 | zero=>intro j L h;cases h
 | succ n ih=>exact fun j L h=>Ed (FP ih) j L h
theorem wm {T:bJ} (hT:cx T) (hm:T.P.follows .mixedOrders=true) {tab:List XE} (ht:∀ e ∈ tab,ak T e) (n:Nat):cI T (vc tab T n) n:=by
 induction n with
 | zero=>exact {call:=fun _ _ _ _ h=>(by cases h),round:=fun _ _ _ _ h=>(by cases h),loop:=fun _ _ _ h=>(by cases h)}
 | succ n ih =>have hk:=FP (tab:=tab) (G9 tab T n);have hs:=Cq ht ih;exact Ej hT hk hs (En hT hm hk hs)
theorem au {T:bJ} (hT:cx T) (hm:T.P.follows .mixedOrders=true) {tab:List XE} (ht:∀ e ∈ tab,ak T e) {e:XE} (n:Nat) (h:Pm (vc tab T n) e=true):ak T e :=
 IV (wm hT hm ht n) h
end Go.RM
