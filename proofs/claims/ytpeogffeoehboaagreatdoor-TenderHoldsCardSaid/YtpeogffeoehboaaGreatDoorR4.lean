/-
  An abstract machine, and that its runs are the model's. Lemmas alone; no condition.
-/
import Derived.Test.YtpeogffeoehboaaGreatDoorR3
namespace Go.RM
open Go
noncomputable def dR (H:Hp) (l:List (List Value)):Hp:=l.foldl (fun h c=>h.push (.cells c false 0)) H
theorem lD:∀ (l:List (List Value)) (H:Hp),(dR H l).n=H.n+l.length
 | [],H=>rfl
 | c :: l,H=>by
  show (dR (H.push _) l).n=_
  rw [lD l]
  show H.n+1+l.length=_
  simp;omega
theorem gu:∀ (l:List (List Value)) (H:Hp) (k:Nat),(k < H.n→(dR H l).get k=H.get k)∧(H.n+l.length≤k→(dR H l).get k=H.get k) ∧
  (∀ (i:Nat) (c:List Value),l[i]?=some c→(dR H l).get (H.n+i)=some (.cells c false 0))
 | [],H,k=>⟨fun _=>rfl,fun _=>rfl,fun i c h=>by cases h⟩
 | c :: l,H,k=>by
  obtain ⟨h1,h2,_⟩:=gu l (H.push (.cells c false 0)) k
  have hn:(H.push (.cells c false 0)).n=H.n+1:=rfl
  refine ⟨fun hk=>?_,fun hk=>?_,fun i d hi=>?_⟩
  ·show (dR (H.push _) l).get k=_
   rw [h1 (by omega),Hp.dX,if_neg (by omega)]
  ·show (dR (H.push _) l).get k=_
   simp only [List.length_cons] at hk
   rw [h2 (by omega),Hp.dX,if_neg (by omega)]
  ·show (dR (H.push _) l).get (H.n+i)=_
   cases i with
   | zero =>
    cases hi
    rw [(gu l (H.push _) (H.n+0)).1 (by omega),Hp.dX,if_pos (by omega)]
   | succ i =>
    have:=(gu l (H.push (.cells c false 0)) 0).2.2 i d hi
    rw [hn,show H.n+1+i=H.n+(i+1) by omega] at this
    exact this
theorem qp (H:Hp) (l:List (List Value)):dw H (dR H l):=by
 induction l generalizing H with
 | nil=>exact .refl H
 | cons c l ih=>exact (dw.push H _).trans (ih _)
theorem AX:Wf Hp.empty:=fun _ _=>rfl
noncomputable def nY (nb n:Nat) (p:Value):Option Value :=
 match p with
 | .slice (some ⟨k,0,none⟩) m c=>bif Nat.ble nb k && Nat.beq c (m+2) then some (.slice (some ⟨k - nb+n,0,none⟩) m c) else none
 | v=>bif aN v then some v else none
noncomputable def me (nb n:Nat):List Value→Option (List Value)
 | []=>some []
 | p :: l=>match nY nb n p,me nb n l with
  | some q,some m=>some (q :: m)
  | _,_=>none
noncomputable def qq (nb n:Nat) (p:Value):Option Value :=
 match p with
 | .agg ps=>(me nb n ps.toList).map fun l=>.agg l.toArray
 | v=>nY nb n v
noncomputable def nZ (nb n:Nat):List Value→Option (List Value)
 | []=>some []
 | p :: l=>match qq nb n p,nZ nb n l with
  | some q,some m=>some (q :: m)
  | _,_=>none
noncomputable def nk (nb n:Nat) (p:Value):Option Value :=
 match p with
 | .tuple ps=>(nZ nb n ps.toList).map fun l=>.tuple l.toArray
 | v=>qq nb n v
section
variable {δ γ : Gm} {nb n : Nat}
theorem qt (hl:∀ k x,nb≤k→δ.loc k=some x→γ.loc (k - nb+n)=some x) {p q v:Value} (h:nY nb n p=some q) (hv:VR δ p v):VR γ q v:=by
 unfold nY at h
 split at h
 ·rename_i k m c
  cases hb:(Nat.ble nb k && Nat.beq c (m+2)) with
  | false=>rw [hb] at h;cases h
  | true =>
   rw [hb] at h
   simp only [cond_true,Option.some.injEq] at h
   subst h
   simp only [Bool.and_eq_true] at hb
   obtain rfl:=Nat.eq_of_beq_eq_true hb.2
   cases hv with
   | flat hf=>cases hf
   | slice h1 h2 h3 h4=>exact .slice (hl _ _ (Nat.le_of_ble_eq_true hb.1) h1) h2 (fun e=>by omega) (fun e=>by omega) (fun e=>by omega)
   | cE h0 ht=>exact .cE (by omega) (fun e=>by omega) (by omega)
 ·cases hb:aN p with
  | false=>rw [hb] at h;cases h
  | true =>
   rw [hb] at h
   simp only [cond_true,Option.some.injEq] at h
   subst h
   rw [hv.bh hb]
   exact .flat hb
theorem oQ (hl:∀ k x,nb≤k→δ.loc k=some x→γ.loc (k - nb+n)=some x):∀ {ps qs vs:List Value},me nb n ps=some qs→bM δ ps vs→bM γ qs vs
 | [],qs,vs,h,hv=>by
  cases h
  cases vs with
  | nil=>exact bM.nil _
  | cons=>exact absurd hv.1 (by simp)
 | p :: ps,qs,vs,h,hv=>by
  unfold me at h
  split at h
  ·rename_i q m h1 h2
   cases h
   cases vs with
   | nil=>exact absurd hv.1 (by simp)
   | cons v vs=>exact .cons (qt hl h1 (hv.2 0 p v rfl rfl)) (oQ hl h2 ⟨by simpa using hv.1,fun i a b ha hb=>hv.2 (i+1) a b ha hb⟩)
  ·cases h
theorem sL (hl:∀ k x,nb≤k→δ.loc k=some x→γ.loc (k - nb+n)=some x) {p q v:Value} (h:qq nb n p=some q) (hv:VR δ p v):VR γ q v:=by
 unfold qq at h
 split at h
 ·simp only [Option.map_eq_some_iff] at h
  obtain ⟨l,h1,rfl⟩:=h
  cases hv with
  | flat hf=>cases hf
  | agg e hc =>
   rename_i cs'
   have:=VR.jB (oQ hl h1 (bM.lS e hc))
   simpa using this
 ·exact qt hl h hv
theorem qu (hl:∀ k x,nb≤k→δ.loc k=some x→γ.loc (k - nb+n)=some x):∀ {ps qs vs:List Value},nZ nb n ps=some qs→bM δ ps vs→bM γ qs vs
 | [],qs,vs,h,hv=>by
  cases h
  cases vs with
  | nil=>exact bM.nil _
  | cons=>exact absurd hv.1 (by simp)
 | p :: ps,qs,vs,h,hv=>by
  unfold nZ at h
  split at h
  ·rename_i q m h1 h2
   cases h
   cases vs with
   | nil=>exact absurd hv.1 (by simp)
   | cons v vs=>exact .cons (sL hl h1 (hv.2 0 p v rfl rfl)) (qu hl h2 ⟨by simpa using hv.1,fun i a b ha hb=>hv.2 (i+1) a b ha hb⟩)
  ·cases h
theorem AY (hl:∀ k x,nb≤k→δ.loc k=some x→γ.loc (k - nb+n)=some x) {p q v:Value} (h:nk nb n p=some q) (hv:VR δ p v):VR γ q v:=by
 unfold nk at h
 split at h
 ·simp only [Option.map_eq_some_iff] at h
  obtain ⟨l,h1,rfl⟩:=h
  cases hv with
  | flat hf =>
   cases hf
  | tuple e hc =>
   rename_i cs'
   have:=VR.cg (qu hl h1 (bM.lS e hc))
   simpa using this
 ·exact sL hl h hv
end
structure XR (e:XE) (w:World) (v':Value) (δ':Gm) (w':World):Prop where
 val:VR δ' e.res v'
 new:∀ k b o,δ'.loc k=some (b,o)→e.dA.length≤k∧k < e.dA.length+e.news.length∧w.heap.size≤b∧b < w'.heap.size ∧
  ∀ cs,e.news[k - e.dA.length]?=some cs→∃ cs' el fz,w'.heap[b]?=some (.cells cs' el fz)∧∀ γ,cW γ cs cs' o
 os:w'.os=w.os
 tape:w'.tape=w.tape
 output:w'.output=w.output
 size:w.heap.size≤w'.heap.size
 same:∀ b,b < w.heap.size→w'.heap[b]?=w.heap[b]?
def aj (T : bz) (e : XE) : Prop :=
  (∃ fn c, T.P.funcs[e.f]? = some fn ∧ (fn.name == "runtime.NumGoroutine") = false ∧ fn.body = some c) ∧
  ∀ (δ : Gm) (w : World) (args' : List Value), δ.B ≤ w.heap.size → (∀ x ∈ GL, x.1 < δ.B ∧ FB (w.heap[x.1]?) x.2) → (∀ k b o, δ.loc k = some (b, o) → b < w.heap.size ∧ k < e.dA.length) →
    (∀ k b o cs, e.dA[k]? = some cs → δ.loc k = some (b, o) → ∃ cs' el fz, w.heap[b]? = some (.cells cs' el fz) ∧ cW δ cs cs' o) → bM δ e.args args' →
    CallsIn (FW none) 0 T.P e.f args'.toArray w fun en w' => ∃ v' δ', en = .returned v' ∧ XR e w v' δ' w'
noncomputable def nr (dA:List (List Value)):Hp:=dR Hp.empty dA
noncomputable def DF (hp:Hp) (φ:Ren) (nb:Nat):List (List Value)→Nat→Bool
 | [],_=>true
 | cs :: l,i=>(match φ.get (nb+i) with
  | some (k',o)=>match cells? (hp.get k') with
   | some (ds,own,_)=>own && (match cut ds o cs.length with
    | some vs=>Nat.beq vs.length cs.length && (cs.zip vs).all fun p=>Eu p.1 p.2
    | none=>false)
   | none=>false
  | none=>true) && DF hp φ nb l (i+1)
noncomputable def K4 (e:XE) (r:fJ):Bool :=
 match r with
 | .ret v hp=>match uK (e.dA.length+e.news.length) e.res v .leaf with
  | some φ=>(List.range e.dA.length).all (fun i=>(φ.get i).isNone) && DF hp φ e.dA.length e.news 0
  | none=>false
 | .out ..=>false
noncomputable def Mu (rn:pR→Option (List fJ)) (e:XE):Bool :=
 match rn (.call e.f e.args (nr e.dA)) with
 | some L=>L.all (K4 e)
 | none=>false
theorem xE {hp:Hp} {φ:Ren} {nb:Nat}:∀ {l:List (List Value)} {j:Nat},DF hp φ nb l j=true→∀ (i:Nat) (cs:List Value),l[i]?=some cs→∀ k' o,φ.get (nb+(j+i))=some (k',o) →
  ∃ ds es vs,hp.get k'=some (.cells ds true es)∧cut ds o cs.length=some vs∧vs=cs∧cs.all aN=true
 | [],j,h,i,cs,hi=>by cases hi
 | c :: l,j,h,i,cs,hi=>by
  intro k' o hk
  simp only [DF,Bool.and_eq_true] at h
  cases i with
  | zero =>
   have hi':c=cs:=by simpa using hi
   have h1:=h.1
   rw [hi'] at h1
   rw [Nat.add_zero] at hk
   rw [hk] at h1
   simp only at h1
   split at h1
   ·rename_i ds own es hc
    simp only [Bool.and_eq_true] at h1
    obtain ⟨h2,h3⟩:=h1
    subst h2
    split at h3
    ·rename_i vs hcut
     simp only [Bool.and_eq_true,List.all_eq_true] at h3
     have hlen:=Nat.eq_of_beq_eq_true h3.1
     have key:∀ (i:Nat) (a b:Value),cs[i]?=some a→vs[i]?=some b→a=b∧aN b=true:=fun i a b ha hb =>
      yM (h3.2 (a,b) (List.mem_of_getElem? (List.getElem?_zip_eq_some.2 ⟨ha,hb⟩)))
     have heq:vs=cs:=by
      apply List.ext_getElem? fun i=>?_
      cases ha:cs[i]? with
      | none=>rw [List.getElem?_eq_none_iff] at ha ⊢;omega
      | some a =>
       have hlt:=(List.getElem?_eq_some_iff.1 ha).1
       have hb:vs[i]?=some (vs[i]'(by omega)):=List.getElem?_eq_getElem _
       rw [hb,(key i a _ ha hb).1]
     refine ⟨ds,es,vs,dO hc,hcut,heq,?_⟩
     rw [List.all_eq_true]
     intro x hx
     obtain ⟨i,hi,rfl⟩:=List.getElem_of_mem hx
     have ha:cs[i]?=some cs[i]:=List.getElem?_eq_getElem hi
     exact (key i _ _ ha (by rw [heq];exact ha)).2
    ·cases h3
   ·cases h1
  | succ i=>exact xE h.2 i cs hi k' o (by rw [show j+1+i=j+(i+1) by omega];exact hk)
theorem F4 (dA:List (List Value)):(nr dA).n=dA.length:=by
 unfold nr
 rw [lD]
 show 0+_=_
 omega
theorem uM (dA:List (List Value)) (k:Nat) (a:aR) (h:(nr dA).get k=some a):∃ cs,dA[k]?=some cs∧a=.cells cs false 0:=by
 unfold nr at h
 obtain ⟨_,h2,_⟩:=gu dA Hp.empty k
 by_cases hk:k < dA.length
 ·have hc:dA[k]?=some dA[k]:=List.getElem?_eq_getElem hk
  have:=(gu dA Hp.empty 0).2.2 k _ hc
  rw [show Hp.empty.n+k=k from Nat.zero_add k] at this
  rw [this] at h
  cases h
  exact ⟨_,hc,rfl⟩
 ·rw [h2 (by show 0+_≤_;omega)] at h
  cases h
theorem F5 {T:bz} {rn:pR→Option (List fJ)} {m:Nat} (hS:cq T rn m) {e:XE} (h:Mu rn e=true):aj T e:=by
 unfold Mu at h
 split at h
 ·rename_i L hL
  rw [List.all_eq_true] at h
  obtain ⟨hfn,hcall⟩:=hS.call _ _ _ _ hL
  refine ⟨hfn,fun δ w args' hB hgl hlt hrow ha=>?_⟩
  have hN:∃ N,∀ r ∈ L,r.hp.n≤N:=by
   clear h hL hcall
   induction L with
   | nil=>exact ⟨0,fun r hr=>by cases hr⟩
   | cons a l ih =>
    obtain ⟨N,hN⟩:=ih
    refine ⟨max a.hp.n N,fun r hr=>?_⟩
    rcases List.mem_cons.1 hr with rfl|hr
    ·omega
    ·have:=hN r hr;omega
  obtain ⟨N,hN⟩:=hN
  have hnown:∀ k a,(nr e.dA).get k=some a→a.own=false:=fun k a hk=>by
   obtain ⟨cs,_,rfl⟩:=uM _ _ _ hk;rfl
  have hhr:HR δ (nr e.dA).get w:=by
   refine ⟨fun k b o a hk hl=>?_,fun k k' b o o' a a' hk ho=>?_,fun k b o hl=>(hlt k b o hl).1,hB,hgl⟩
   ·obtain ⟨cs,h1,rfl⟩:=uM _ _ _ hk
    obtain ⟨cs',el,fz,h2,h3⟩:=hrow k b o cs h1 hl
    exact ⟨cs',el,fz,h2,h3,fun h=>Bool.noConfusion h⟩
   ·rw [hnown k a hk] at ho;cases ho
  have hfresh:ew δ (nr e.dA).n N:=fun k hk _=>by
   rw [F4] at hk
   cases hl:δ.loc k with
   | none=>rfl
   | some p=>have:=(hlt k p.1 p.2 hl).2;omega
  refine CallsIn.mono (F:=FW none) (hcall δ w args' N ((qp _ _).wf AX) hhr hfresh hN ha) fun en w' hR=>?_
  obtain ⟨v,hp,v',γ1,hm,rfl,hv,hs⟩:=hR
  have hr:=h _ hm
  unfold K4 at hr
  simp only at hr
  split at hr
  ·rename_i φ hφ
   simp only [Bool.and_eq_true,List.all_eq_true] at hr
   obtain ⟨q1,q2,q3⟩:=AW (γ:=γ1) hφ
   refine ⟨v',γ1.ren φ,rfl,q3 φ (xD.refl φ) v' hv,fun k b o hl=>?_,hs.gO.os,hs.gO.tape,hs.gO.output,hs.gO.size,fun b hb=>hs.gO.same b hb fun k o a h1 h2 _=>by rw [hnown k a h1] at h2;cases h2⟩
   simp only [Gm.ren,Option.bind_eq_some_iff,Option.map_eq_some_iff] at hl
   obtain ⟨⟨k',o'⟩,h1,⟨b',d'⟩,h2,h3⟩:=hl
   simp only [Prod.mk.injEq] at h3
   obtain ⟨rfl,rfl⟩:=h3
   simp only at h2
   have hk1:e.dA.length≤k:=by
    apply Nat.le_of_not_lt
    intro hlt'
    have:=hr.1 k (List.mem_range.2 hlt')
    rw [h1] at this
    cases this
   have hk2:k < e.dA.length+e.news.length:=q2 (fun i x hx=>by cases hx) k _ h1
   have hget:=xE hr.2 (k - e.dA.length) _ (List.getElem?_eq_getElem (by omega)) k' o' (by rw [Nat.zero_add,show e.dA.length+(k - e.dA.length)=k by omega];exact h1)
   obtain ⟨ds,es,vs,r1,r2,r3,r4⟩:=hget
   refine ⟨hk1,hk2,?_,hs.hr.lt _ _ _ h2,fun cs hcs=>?_⟩
   ·apply Nat.le_of_not_lt
    intro hlt'
    obtain ⟨k0,o0,a0,t1,t2,_⟩:=hs.gO.sF k' b' d' _ r1 rfl h2 hlt'
    rw [hnown k0 a0 t1] at t2
    cases t2
   ·obtain ⟨cs',el,fz,s1,s2,_⟩:=hs.hr.fM k' b' d' _ r1 h2
    refine ⟨cs',el,fz,s1,fun γ j x hx=>?_⟩
    obtain ⟨c',u1,u2,u3,u4,u5⟩:=s2.FJ r2
    rw [List.getElem?_eq_getElem (by omega)] at hcs
    simp only [Option.some.injEq] at hcs
    subst hcs
    subst r3
    obtain ⟨y,y1,y2⟩:=u1.get hx
    have hfx:aN x=true:=List.all_eq_true.1 r4 x (List.mem_of_getElem? hx)
    have:=y2.bh hfx
    subst this
    exact ⟨_,u3 j _ y1,.flat hfx⟩
  ·cases hr
 ·cases h
noncomputable def lE (e:XE) (f:FuncId) (args:List Value) (H:Hp):Option (Value × Hp) :=
 bif Nat.beq e.f f then
  match gZ e.dA.length e.args args .leaf with
  | some φ=>match js e.dA.length H.get e.dA 0 φ with
   | some _=>(nk e.dA.length H.n e.res).map fun v=>(v,dR H e.news)
   | none=>none
  | none=>none
 else none
noncomputable def look (tab:List XE) (f:FuncId) (args:List Value) (H:Hp):Option (Value × Hp) :=
 List.rec none (fun e _ ih=>match lE e f args H with
  | some r=>some r
  | none=>ih) tab
noncomputable def rx (tab:List XE) (rec:pR→Option (List fJ)) (j:pR):Option (List fJ) :=
 match j with
 | .call f args H=>match look tab f args H with
  | some (v,H')=>some [.ret v H']
  | none=>rec (.call f args H)
 | .round l args H=>rec (.round l args H)
 | .loop c st=>rec (.loop c st)
theorem xF {tab:List XE} {f:FuncId} {args:List Value} {H:Hp} {r:Value × Hp} (h:look tab f args H=some r):∃ e ∈ tab,lE e f args H=some r:=by
 induction tab with
 | nil=>cases h
 | cons e l ih =>
  have hu:look (e :: l) f args H=match lE e f args H with
   | some r=>some r
   | none=>look l f args H:=rfl
  rw [hu] at h
  cases h1:lE e f args H with
  | some r'=>rw [h1] at h;cases h;exact ⟨e,by simp,h1⟩
  | none =>
   rw [h1] at h
   obtain ⟨e',m,h2⟩:=ih h
   exact ⟨e',List.mem_cons_of_mem _ m,h2⟩
theorem uN {e:XE} {f:FuncId} {args:List Value} {H H':Hp} {v:Value} (h:lE e f args H=some (v,H')) :
  e.f=f∧H'=dR H e.news∧nk e.dA.length H.n e.res=some v∧∃ φ ψ,gZ e.dA.length e.args args .leaf=some φ∧js e.dA.length H.get e.dA 0 φ=some ψ:=by
 unfold lE at h
 cases hb:Nat.beq e.f f with
 | false=>rw [hb] at h;cases h
 | true =>
  rw [hb] at h
  simp only [cond_true] at h
  split at h
  ·rename_i φ hφ
   split at h
   ·rename_i ψ hψ
    simp only [Option.map_eq_some_iff,Prod.mk.injEq] at h
    obtain ⟨v0,h1,rfl,rfl⟩:=h
    exact ⟨Nat.eq_of_beq_eq_true hb,rfl,h1,φ,ψ,hφ,hψ⟩
   ·cases h
  ·cases h
theorem DG {tab:List XE} {rec:pR→Option (List fJ)} (h:aW rec):aW (rx tab rec):=by
 intro j L hj
 cases j with
 | call f args H =>
  unfold rx at hj
  simp only at hj
  split at hj
  ·rename_i v H' hl
   cases hj
   obtain ⟨e,_,h1⟩:=xF hl
   obtain ⟨_,rfl,_⟩:=uN h1
   exact .one (qp H e.news)
  ·exact h _ _ hj
 | round l args H=>exact h _ _ hj
 | loop c st=>exact h _ _ hj
theorem CG {T : bz} {e : XE} (he : aj T e) {f : FuncId} {args : List Value} {H H' : Hp} {v : Value} (h : lE e f args H = some (v, H')) :
    (∃ fn c, T.P.funcs[f]? = some fn ∧ (fn.name == "runtime.NumGoroutine") = false ∧ fn.body = some c) ∧
    ∀ γ w args' N, Wf H → HR γ H.get w → ew γ H.n N → H'.n ≤ N → bM γ args args' → CallsIn (FW none) 0 T.P f args'.toArray w (rA γ H w [.ret v H']) := by
  obtain ⟨rfl, rfl, hsh, φ, ψ, hφ, hψ⟩ := uN h
  refine ⟨he.1, fun γ w args' N hw hh hf hN ha => ?_⟩
  obtain ⟨a1, a2, a3⟩ := l9 (γ := γ) hφ
  obtain ⟨b1, b2, b3⟩ := qo (γ := γ) hψ
  have hu : uL e.dA.length ψ := b2 (a2 fun k x hx => by cases hx)
  rw [lD] at hN
  refine CallsIn.mono (F := FW none) (he.2 (γ.ren ψ) w args' hh.base hh.gl (fun k b o hl => ?_) (fun k b o cs hk hl => ?_) (a3 ψ b1 args' ha)) fun en w' hR => ?_
  · simp only [Gm.ren, Option.bind_eq_some_iff, Option.map_eq_some_iff] at hl
    obtain ⟨⟨k', o'⟩, h1, ⟨b', d'⟩, h2, h3⟩ := hl
    simp only [Prod.mk.injEq] at h3
    obtain ⟨rfl, rfl⟩ := h3
    exact ⟨hh.lt _ _ _ h2, hu _ _ h1⟩
  · simp only [Gm.ren, Option.bind_eq_some_iff, Option.map_eq_some_iff] at hl
    obtain ⟨⟨k', o'⟩, h1, ⟨b', d'⟩, h2, h3⟩ := hl
    simp only [Prod.mk.injEq] at h3
    obtain ⟨rfl, rfl⟩ := h3
    obtain ⟨k1, o1, cs1, own, es, vs, r1, r2, r3, r4⟩ := b3 k cs hk
    rw [Nat.zero_add] at r1
    rw [r1] at h1
    cases h1
    obtain ⟨cs', el, fz, s1, s2, _⟩ := hh.fM _ _ _ _ r2 h2
    refine ⟨cs', el, fz, s1, fun j x hx => ?_⟩
    obtain ⟨c', u1, u2, u3, u4, u5⟩ := s2.FJ r3
    have := r4 ψ (xD.refl ψ) c' u1
    obtain ⟨y, y1, y2⟩ := this.get hx
    exact ⟨y, u3 j y y1, y2⟩
  · obtain ⟨v', δ', rfl, X⟩ := hR
    let γ' : Gm := { γ with loc := fun k => if H.n ≤ k ∧ k < H.n + e.news.length then δ'.loc (k - H.n + e.dA.length) else γ.loc k }
    have hold : ∀ k, ¬ (H.n ≤ k ∧ k < H.n + e.news.length) → γ'.loc k = γ.loc k := fun k hk => if_neg hk
    have hnew : ∀ k, (H.n ≤ k ∧ k < H.n + e.news.length) → γ'.loc k = δ'.loc (k - H.n + e.dA.length) := fun k hk => if_pos hk
    have hle : γ.Le γ' := by
      refine ⟨fun k x hx => ?_, fun k x hx => rfl, rfl⟩
      by_cases hk : H.n ≤ k ∧ k < H.n + e.news.length
      · rw [hf k hk.1 (by omega)] at hx; cases hx
      · rw [hold k hk]; exact hx
    have hget : ∀ k a, (dR H e.news).get k = some a → (¬ (H.n ≤ k ∧ k < H.n + e.news.length) ∧ H.get k = some a) ∨ ((H.n ≤ k ∧ k < H.n + e.news.length) ∧ ∃ cs, e.news[k - H.n]? = some cs ∧ a = .cells cs false 0) := by
      intro k a hk
      obtain ⟨g1, g2, g3⟩ := gu e.news H k
      by_cases hr : H.n ≤ k ∧ k < H.n + e.news.length
      · refine .inr ⟨hr, ?_⟩
        have hc : e.news[k - H.n]? = some (e.news[k - H.n]'(by omega)) := List.getElem?_eq_getElem _
        have := g3 _ _ hc
        rw [show H.n + (k - H.n) = k by omega, hk] at this
        cases this
        exact ⟨_, hc, rfl⟩
      · refine .inl ⟨hr, ?_⟩
        by_cases hlt : k < H.n
        · rw [← g1 hlt]; exact hk
        · rw [← g2 (by omega)]; exact hk
    have hnl : ∀ k b o, (H.n ≤ k ∧ k < H.n + e.news.length) → γ'.loc k = some (b, o) → w.heap.size ≤ b ∧ b < w'.heap.size := fun k b o hk hl => by
      rw [hnew k hk] at hl
      obtain ⟨_, _, x3, x4, _⟩ := X.new _ _ _ hl
      exact ⟨x3, x4⟩
    have hhr : HR γ' (dR H e.news).get w' := by
      refine ⟨fun k b o a hk hl => ?_, fun k k' b o o' a a' hk ho hk' hd hne hl hl' => ?_, fun k b o hl => ?_, Nat.le_trans hh.base X.size, fun x hx => ⟨by rw [hle.B]; exact (hh.gl x hx).1, by rw [X.same _ (Nat.lt_of_lt_of_le (hh.gl x hx).1 hh.base)]; exact (hh.gl x hx).2⟩⟩
      · rcases hget k a hk with ⟨h1, h2⟩ | ⟨h1, cs, h2, rfl⟩
        · rw [hold k h1] at hl
          exact (hh.fM k b o a h2 hl).mono hle hl (X.same b (hh.lt _ _ _ hl))
        · rw [hnew k h1] at hl
          obtain ⟨_, _, _, _, x5⟩ := X.new _ _ _ hl
          rw [show k - H.n + e.dA.length - e.dA.length = k - H.n by omega] at x5
          obtain ⟨cs', el, fz, y1, y2⟩ := x5 cs h2
          exact ⟨cs', el, fz, y1, y2 γ', fun h => Bool.noConfusion h⟩
      · rcases hget k a hk with ⟨h1, h2⟩ | ⟨h1, cs, h2, rfl⟩
        · have hl0 := hl
          rw [hold k h1] at hl0
          rcases hget k' a' hk' with ⟨h1', h2'⟩ | ⟨h1', _⟩
          · rw [hold k' h1'] at hl'
            exact hh.inj k k' b o o' a a' h2 ho h2' hd hne hl0 hl'
          · have := (hnl k' b o' h1' hl').1
            have := hh.lt k b o hl0
            omega
        · cases ho
      · by_cases hk : H.n ≤ k ∧ k < H.n + e.news.length
        · exact (hnl k b o hk hl).2
        · rw [hold k hk] at hl
          exact Nat.lt_of_lt_of_le (hh.lt k b o hl) X.size
    refine ⟨v, dR H e.news, v', γ', by simp, rfl, AY (fun k x hk hl => ?_) hsh X.val, ⟨by rw [lD]; omega, hle, fun k hk => hold k (by rw [lD] at hk; omega), hhr, ?_⟩⟩
    · have := X.new k x.1 x.2 hl
      rw [hnew _ (by omega), show k - e.dA.length + H.n - H.n + e.dA.length = k by omega]
      exact hl
    · refine ⟨X.os, X.tape, X.output, X.size, fun b hb _ => X.same b hb, fun k b o a hk ho hl hb => ?_, fun k b o a hk hd hl hb => ?_, fun k b o hl hb => ?_⟩
      · rcases hget k a hk with ⟨h1, h2⟩ | ⟨h1, _⟩
        · rw [hold k h1] at hl; exact ⟨k, o, a, h2, ho, hl⟩
        · have := (hnl k b o h1 hl).1; omega
      · rcases hget k a hk with ⟨h1, h2⟩ | ⟨h1, _⟩
        · rw [hold k h1] at hl; exact ⟨k, o, a, h2, hd, hl⟩
        · have := (hnl k b o h1 hl).1; omega
      · by_cases hk : H.n ≤ k ∧ k < H.n + e.news.length
        · have := (hnl k b o hk hl).1; omega
        · rw [hold k hk] at hl; exact ⟨k, o, hl⟩
theorem AZ {T:bz} {tab:List XE} (ht:∀ e ∈ tab,aj T e) {rec:pR→Option (List fJ)} {m:Nat} (hS:cq T rec m):cq T (rx tab rec) m:=by
 refine ⟨fun f args hp L h=>?_,hS.round,hS.loop⟩
 unfold rx at h
 simp only at h
 split at h
 ·rename_i v H' hl
  cases h
  obtain ⟨e,he,h1⟩:=xF hl
  obtain ⟨x1,x2⟩:=CG (ht e he) h1
  exact ⟨x1,fun γ w args' N hw hh hf hN ha=>x2 γ w args' N hw hh hf (hN (.ret v H') (by simp)) ha⟩
 ·exact hS.call f args hp L h
noncomputable def tu (tab:List XE) (T:bz) (n:Nat):pR→Option (List fJ) :=
 Nat.rec (motive:=fun _=>pR→Option (List fJ)) (fun _=>none) (fun _ ih j=>gF T (rx tab ih) j) n
theorem EJ (tab:List XE) (T:bz) (n:Nat):aW (tu tab T n):=by
 induction n with
 | zero=>intro j L h;cases h
 | succ n ih=>exact fun j L h=>Ct (DG ih) j L h
theorem uO {T:bz} (hT:bR T) (hm:T.P.follows .mixedOrders=true) {tab:List XE} (ht:∀ e ∈ tab,aj T e) (n:Nat):cq T (tu tab T n) n:=by
 induction n with
 | zero=>exact {call:=fun _ _ _ _ h=>(by cases h),round:=fun _ _ _ _ h=>(by cases h),loop:=fun _ _ _ h=>(by cases h)}
 | succ n ih =>
  have hk:=DG (tab:=tab) (EJ tab T n)
  have hs:=AZ ht ih
  exact Cz hT hk hs (CD hT hm hk hs)
theorem av {T:bz} (hT:bR T) (hm:T.P.follows .mixedOrders=true) {tab:List XE} (ht:∀ e ∈ tab,aj T e) {e:XE} (n:Nat) (h:Mu (tu tab T n) e=true):aj T e :=
 F5 (uO hT hm ht n) h
end Go.RM
