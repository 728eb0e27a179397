/-
  An abstract machine, and that its runs are the model's. Lemmas alone; no condition.
-/
import Derived.Test.YtpeogffeoehboaaDoorR3
namespace Go.RM
open Go
noncomputable def eG (H:Hp) (l:List (List Value)):Hp:=l.foldl (fun h c=>h.push (.cells c false 0)) H
theorem lA:∀ (l:List (List Value)) (H:Hp),(eG H l).n=H.n+l.length
 | [],H=>rfl
 | c :: l,H=>by
  show (eG (H.push _) l).n=_
  rw [lA l]
  show H.n+1+l.length=_
  simp;omega
theorem gK:∀ (l:List (List Value)) (H:Hp) (k:Nat),(k < H.n→(eG H l).get k=H.get k)∧(H.n+l.length≤k→(eG H l).get k=H.get k) ∧
  (∀ (i:Nat) (c:List Value),l[i]?=some c→(eG H l).get (H.n+i)=some (.cells c false 0))
 | [],H,k=>⟨fun _=>rfl,fun _=>rfl,fun i c h=>by cases h⟩
 | c :: l,H,k=>by
  obtain ⟨h1,h2,_⟩:=gK l (H.push (.cells c false 0)) k
  have hn:(H.push (.cells c false 0)).n=H.n+1:=rfl
  refine ⟨fun hk=>?_,fun hk=>?_,fun i d hi=>?_⟩
  ·show (eG (H.push _) l).get k=_
   rw [h1 (by omega),Hp.eO,if_neg (by omega)]
  ·show (eG (H.push _) l).get k=_
   simp only [List.length_cons] at hk
   rw [h2 (by omega),Hp.eO,if_neg (by omega)]
  ·show (eG (H.push _) l).get (H.n+i)=_
   cases i with
   | zero =>
    cases hi
    rw [(gK l (H.push _) (H.n+0)).1 (by omega),Hp.eO,if_pos (by omega)]
   | succ i =>
    have:=(gK l (H.push (.cells c false 0)) 0).2.2 i d hi
    rw [hn,show H.n+1+i=H.n+(i+1) by omega] at this
    exact this
theorem qJ (H:Hp) (l:List (List Value)):dQ H (eG H l):=by
 induction l generalizing H with
 | nil=>exact .refl H
 | cons c l ih=>exact (dQ.push H _).trans (ih _)
theorem Bq:Wf Hp.empty:=fun _ _=>rfl
noncomputable def oz (nb n:Nat) (p:Value):Option Value :=
 match p with
 | .slice (some ⟨k,0,none⟩) m c=>bif Nat.ble nb k && Nat.beq c (m+2) then some (.slice (some ⟨k - nb+n,0,none⟩) m c) else none
 | v=>bif aS v then some v else none
noncomputable def me (nb n:Nat):List Value→Option (List Value)
 | []=>some []
 | p :: l=>match oz nb n p,me nb n l with
  | some q,some m=>some (q :: m)
  | _,_=>none
noncomputable def qK (nb n:Nat) (p:Value):Option Value :=
 match p with
 | .agg ps=>(me nb n ps.toList).map fun l=>.agg l.toArray
 | v=>oz nb n v
noncomputable def oA (nb n:Nat):List Value→Option (List Value)
 | []=>some []
 | p :: l=>match qK nb n p,oA nb n l with
  | some q,some m=>some (q :: m)
  | _,_=>none
noncomputable def nH (nb n:Nat) (p:Value):Option Value :=
 match p with
 | .tuple ps=>(oA nb n ps.toList).map fun l=>.tuple l.toArray
 | v=>qK nb n v
section
variable {δ γ : Gm} {nb n : Nat}
theorem qL (hl:∀ k x,nb≤k→δ.loc k=some x→γ.loc (k - nb+n)=some x) {p q v:Value} (h:oz nb n p=some q) (hv:VR δ p v):VR γ q v:=by
 unfold oz at h
 split at h
 ·rename_i k m c
  cases hb:(Nat.ble nb k && Nat.beq c (m+2)) with
  | false=>rw [hb] at h;cases h
  | true =>
   rw [hb] at h
   simp only [cond_true,Option.some.injEq] at h
   subst h
   simp only [Bool.and_eq_true] at hb
   obtain rfl:=Nat.eq_of_beq_eq_true hb.2
   cases hv with
   | flat hf=>cases hf
   | slice h1 h2 h3 h4=>exact .slice (hl _ _ (Nat.le_of_ble_eq_true hb.1) h1) h2 (fun e=>by omega) (fun e=>by omega) (fun e=>by omega)
   | cQ h0 ht=>exact .cQ (by omega) (fun e=>by omega) (by omega)
 ·cases hb:aS p with
  | false=>rw [hb] at h;cases h
  | true =>
   rw [hb] at h
   simp only [cond_true,Option.some.injEq] at h
   subst h
   rw [hv.bC hb]
   exact .flat hb
theorem pF (hl:∀ k x,nb≤k→δ.loc k=some x→γ.loc (k - nb+n)=some x):∀ {ps qs vs:List Value},me nb n ps=some qs→bX δ ps vs→bX γ qs vs
 | [],qs,vs,h,hv=>by
  cases h
  cases vs with
  | nil=>exact bX.nil _
  | cons=>exact absurd hv.1 (by simp)
 | p :: ps,qs,vs,h,hv=>by
  unfold me at h
  split at h
  ·rename_i q m h1 h2
   cases h
   cases vs with
   | nil=>exact absurd hv.1 (by simp)
   | cons v vs=>exact .cons (qL hl h1 (hv.2 0 p v rfl rfl)) (pF hl h2 ⟨by simpa using hv.1,fun i a b ha hb=>hv.2 (i+1) a b ha hb⟩)
  ·cases h
theorem tf (hl:∀ k x,nb≤k→δ.loc k=some x→γ.loc (k - nb+n)=some x) {p q v:Value} (h:qK nb n p=some q) (hv:VR δ p v):VR γ q v:=by
 unfold qK at h
 split at h
 ·simp only [Option.map_eq_some_iff] at h
  obtain ⟨l,h1,rfl⟩:=h
  cases hv with
  | flat hf=>cases hf
  | agg e hc =>
   rename_i cs'
   have:=VR.jz (pF hl h1 (bX.lS e hc))
   simpa using this
 ·exact qL hl h hv
theorem qM (hl:∀ k x,nb≤k→δ.loc k=some x→γ.loc (k - nb+n)=some x):∀ {ps qs vs:List Value},oA nb n ps=some qs→bX δ ps vs→bX γ qs vs
 | [],qs,vs,h,hv=>by
  cases h
  cases vs with
  | nil=>exact bX.nil _
  | cons=>exact absurd hv.1 (by simp)
 | p :: ps,qs,vs,h,hv=>by
  unfold oA at h
  split at h
  ·rename_i q m h1 h2
   cases h
   cases vs with
   | nil=>exact absurd hv.1 (by simp)
   | cons v vs=>exact .cons (tf hl h1 (hv.2 0 p v rfl rfl)) (qM hl h2 ⟨by simpa using hv.1,fun i a b ha hb=>hv.2 (i+1) a b ha hb⟩)
  ·cases h
theorem Br (hl:∀ k x,nb≤k→δ.loc k=some x→γ.loc (k - nb+n)=some x) {p q v:Value} (h:nH nb n p=some q) (hv:VR δ p v):VR γ q v:=by
 unfold nH at h
 split at h
 ·simp only [Option.map_eq_some_iff] at h
  obtain ⟨l,h1,rfl⟩:=h
  cases hv with
  | flat hf =>
   cases hf
  | tuple e hc =>
   rename_i cs'
   have:=VR.cv (qM hl h1 (bX.lS e hc))
   simpa using this
 ·exact tf hl h hv
end
structure XR (e:XE) (w:World) (v':Value) (δ':Gm) (w':World):Prop where
 val:VR δ' e.res v'
 new:∀ k b o,δ'.loc k=some (b,o)→e.dY.length≤k∧k < e.dY.length+e.news.length∧w.heap.size≤b∧b < w'.heap.size ∧
  ∀ cs,e.news[k - e.dY.length]?=some cs→∃ cs' el fz,w'.heap[b]?=some (.cells cs' el fz)∧∀ γ,dG γ cs cs' o
 os:w'.os=w.os
 tape:w'.tape=w.tape
 output:w'.output=w.output
 size:w.heap.size≤w'.heap.size
 same:∀ b,b < w.heap.size→w'.heap[b]?=w.heap[b]?
def ak (T : bz) (e : XE) : Prop :=
  (∃ fn c, T.P.funcs[e.f]? = some fn ∧ (fn.name == "runtime.NumGoroutine") = false ∧ fn.body = some c) ∧
  ∀ (δ : Gm) (w : World) (args' : List Value), δ.B ≤ w.heap.size → (∀ x ∈ GL, x.1 < δ.B ∧ GP (w.heap[x.1]?) x.2) → (∀ k b o, δ.loc k = some (b, o) → b < w.heap.size ∧ k < e.dY.length) →
    (∀ k b o cs, e.dY[k]? = some cs → δ.loc k = some (b, o) → ∃ cs' el fz, w.heap[b]? = some (.cells cs' el fz) ∧ dG δ cs cs' o) → bX δ e.args args' →
    CallsIn (FW none) 0 T.P e.f args'.toArray w fun en w' => ∃ v' δ', en = .returned v' ∧ XR e w v' δ' w'
noncomputable def nI (dY:List (List Value)):Hp:=eG Hp.empty dY
noncomputable def EG (hp:Hp) (φ:Ren) (nb:Nat):List (List Value)→Nat→Bool
 | [],_=>true
 | cs :: l,i=>(match φ.get (nb+i) with
  | some (k',o)=>match cells? (hp.get k') with
   | some (ds,own,_)=>own && (match cut ds o cs.length with
    | some vs=>Nat.beq vs.length cs.length && (cs.zip vs).all fun p=>CX p.1 p.2
    | none=>false)
   | none=>false
  | none=>true) && EG hp φ nb l (i+1)
noncomputable def Ms (e:XE) (r:gk):Bool :=
 match r with
 | .ret v hp=>match vg (e.dY.length+e.news.length) e.res v .leaf with
  | some φ=>(List.range e.dY.length).all (fun i=>(φ.get i).isNone) && EG hp φ e.dY.length e.news 0
  | none=>false
 | .out ..=>false
noncomputable def NZ (rn:pO→Option (List gk)) (e:XE):Bool :=
 match rn (.call e.f e.args (nI e.dY)) with
 | some L=>L.all (Ms e)
 | none=>false
theorem xT {hp:Hp} {φ:Ren} {nb:Nat}:∀ {l:List (List Value)} {j:Nat},EG hp φ nb l j=true→∀ (i:Nat) (cs:List Value),l[i]?=some cs→∀ k' o,φ.get (nb+(j+i))=some (k',o) →
  ∃ ds es vs,hp.get k'=some (.cells ds true es)∧cut ds o cs.length=some vs∧vs=cs∧cs.all aS=true
 | [],j,h,i,cs,hi=>by cases hi
 | c :: l,j,h,i,cs,hi=>by
  intro k' o hk
  simp only [EG,Bool.and_eq_true] at h
  cases i with
  | zero =>
   have hi':c=cs:=by simpa using hi
   have h1:=h.1
   rw [hi'] at h1
   rw [Nat.add_zero] at hk
   rw [hk] at h1
   simp only at h1
   split at h1
   ·rename_i ds own es hc
    simp only [Bool.and_eq_true] at h1
    obtain ⟨h2,h3⟩:=h1
    subst h2
    split at h3
    ·rename_i vs hcut
     simp only [Bool.and_eq_true,List.all_eq_true] at h3
     have hlen:=Nat.eq_of_beq_eq_true h3.1
     have key:∀ (i:Nat) (a b:Value),cs[i]?=some a→vs[i]?=some b→a=b∧aS b=true:=fun i a b ha hb =>
      zj (h3.2 (a,b) (List.mem_of_getElem? (List.getElem?_zip_eq_some.2 ⟨ha,hb⟩)))
     have heq:vs=cs:=by
      apply List.ext_getElem? fun i=>?_
      cases ha:cs[i]? with
      | none=>rw [List.getElem?_eq_none_iff] at ha ⊢;omega
      | some a =>
       have hlt:=(List.getElem?_eq_some_iff.1 ha).1
       have hb:vs[i]?=some (vs[i]'(by omega)):=List.getElem?_eq_getElem _
       rw [hb,(key i a _ ha hb).1]
     refine ⟨ds,es,vs,eB hc,hcut,heq,?_⟩
     rw [List.all_eq_true]
     intro x hx
     obtain ⟨i,hi,rfl⟩:=List.getElem_of_mem hx
     have ha:cs[i]?=some cs[i]:=List.getElem?_eq_getElem hi
     exact (key i _ _ ha (by rw [heq];exact ha)).2
    ·cases h3
   ·cases h1
  | succ i=>exact xT h.2 i cs hi k' o (by rw [show j+1+i=j+(i+1) by omega];exact hk)
theorem Hl (dY:List (List Value)):(nI dY).n=dY.length:=by
 unfold nI
 rw [lA]
 show 0+_=_
 omega
theorem vi (dY:List (List Value)) (k:Nat) (a:bg) (h:(nI dY).get k=some a):∃ cs,dY[k]?=some cs∧a=.cells cs false 0:=by
 unfold nI at h
 obtain ⟨_,h2,_⟩:=gK dY Hp.empty k
 by_cases hk:k < dY.length
 ·have hc:dY[k]?=some dY[k]:=List.getElem?_eq_getElem hk
  have:=(gK dY Hp.empty 0).2.2 k _ hc
  rw [show Hp.empty.n+k=k from Nat.zero_add k] at this
  rw [this] at h
  cases h
  exact ⟨_,hc,rfl⟩
 ·rw [h2 (by show 0+_≤_;omega)] at h
  cases h
theorem Ho {T:bz} {rn:pO→Option (List gk)} {m:Nat} (hS:cx T rn m) {e:XE} (h:NZ rn e=true):ak T e:=by
 unfold NZ at h
 split at h
 ·rename_i L hL
  rw [List.all_eq_true] at h
  obtain ⟨hfn,hcall⟩:=hS.call _ _ _ _ hL
  refine ⟨hfn,fun δ w args' hB hgl hlt hrow ha=>?_⟩
  have hN:∃ N,∀ r ∈ L,r.hp.n≤N:=by
   clear h hL hcall
   induction L with
   | nil=>exact ⟨0,fun r hr=>by cases hr⟩
   | cons a l ih =>
    obtain ⟨N,hN⟩:=ih
    refine ⟨max a.hp.n N,fun r hr=>?_⟩
    rcases List.mem_cons.1 hr with rfl|hr
    ·omega
    ·have:=hN r hr;omega
  obtain ⟨N,hN⟩:=hN
  have hnown:∀ k a,(nI e.dY).get k=some a→a.own=false:=fun k a hk=>by
   obtain ⟨cs,_,rfl⟩:=vi _ _ _ hk;rfl
  have hhr:HR δ (nI e.dY).get w:=by
   refine ⟨fun k b o a hk hl=>?_,fun k k' b o o' a a' hk ho=>?_,fun k b o hl=>(hlt k b o hl).1,hB,hgl⟩
   ·obtain ⟨cs,h1,rfl⟩:=vi _ _ _ hk
    obtain ⟨cs',el,fz,h2,h3⟩:=hrow k b o cs h1 hl
    exact ⟨cs',el,fz,h2,h3,fun h=>Bool.noConfusion h⟩
   ·rw [hnown k a hk] at ho;cases ho
  have hfresh:eX δ (nI e.dY).n N:=fun k hk _=>by
   rw [Hl] at hk
   cases hl:δ.loc k with
   | none=>rfl
   | some p=>have:=(hlt k p.1 p.2 hl).2;omega
  refine CallsIn.mono (F:=FW none) (hcall δ w args' N ((qJ _ _).wf Bq) hhr hfresh hN ha) fun en w' hR=>?_
  obtain ⟨v,hp,v',γ1,hm,rfl,hv,hs⟩:=hR
  have hr:=h _ hm
  unfold Ms at hr
  simp only at hr
  split at hr
  ·rename_i φ hφ
   simp only [Bool.and_eq_true,List.all_eq_true] at hr
   obtain ⟨q1,q2,q3⟩:=Bp (γ:=γ1) hφ
   refine ⟨v',γ1.ren φ,rfl,q3 φ (xS.refl φ) v' hv,fun k b o hl=>?_,hs.h9.os,hs.h9.tape,hs.h9.output,hs.h9.size,fun b hb=>hs.h9.same b hb fun k o a h1 h2 _=>by rw [hnown k a h1] at h2;cases h2⟩
   simp only [Gm.ren,Option.bind_eq_some_iff,Option.map_eq_some_iff] at hl
   obtain ⟨⟨k',o'⟩,h1,⟨b',d'⟩,h2,h3⟩:=hl
   simp only [Prod.mk.injEq] at h3
   obtain ⟨rfl,rfl⟩:=h3
   simp only at h2
   have hk1:e.dY.length≤k:=by
    apply Nat.le_of_not_lt
    intro hlt'
    have:=hr.1 k (List.mem_range.2 hlt')
    rw [h1] at this
    cases this
   have hk2:k < e.dY.length+e.news.length:=q2 (fun i x hx=>by cases hx) k _ h1
   have hget:=xT hr.2 (k - e.dY.length) _ (List.getElem?_eq_getElem (by omega)) k' o' (by rw [Nat.zero_add,show e.dY.length+(k - e.dY.length)=k by omega];exact h1)
   obtain ⟨ds,es,vs,r1,r2,r3,r4⟩:=hget
   refine ⟨hk1,hk2,?_,hs.hr.lt _ _ _ h2,fun cs hcs=>?_⟩
   ·apply Nat.le_of_not_lt
    intro hlt'
    obtain ⟨k0,o0,a0,t1,t2,_⟩:=hs.h9.s5 k' b' d' _ r1 rfl h2 hlt'
    rw [hnown k0 a0 t1] at t2
    cases t2
   ·obtain ⟨cs',el,fz,s1,s2,_⟩:=hs.hr.fU k' b' d' _ r1 h2
    refine ⟨cs',el,fz,s1,fun γ j x hx=>?_⟩
    obtain ⟨c',u1,u2,u3,u4,u5⟩:=s2.GY r2
    rw [List.getElem?_eq_getElem (by omega)] at hcs
    simp only [Option.some.injEq] at hcs
    subst hcs
    subst r3
    obtain ⟨y,y1,y2⟩:=u1.get hx
    have hfx:aS x=true:=List.all_eq_true.1 r4 x (List.mem_of_getElem? hx)
    have:=y2.bC hfx
    subst this
    exact ⟨_,u3 j _ y1,.flat hfx⟩
  ·cases hr
 ·cases h
noncomputable def lB (e:XE) (f:FuncId) (args:List Value) (H:Hp):Option (Value × Hp) :=
 bif Nat.beq e.f f then
  match iC e.dY.length e.args args .leaf with
  | some φ=>match jt e.dY.length H.get e.dY 0 φ with
   | some _=>(nH e.dY.length H.n e.res).map fun v=>(v,eG H e.news)
   | none=>none
  | none=>none
 else none
noncomputable def look (tab:List XE) (f:FuncId) (args:List Value) (H:Hp):Option (Value × Hp) :=
 List.rec none (fun e _ ih=>match lB e f args H with
  | some r=>some r
  | none=>ih) tab
noncomputable def rx (tab:List XE) (rec:pO→Option (List gk)) (j:pO):Option (List gk) :=
 match j with
 | .call f args H=>match look tab f args H with
  | some (v,H')=>some [.ret v H']
  | none=>rec (.call f args H)
 | .round l args H=>rec (.round l args H)
 | .loop c st=>rec (.loop c st)
theorem xU {tab:List XE} {f:FuncId} {args:List Value} {H:Hp} {r:Value × Hp} (h:look tab f args H=some r):∃ e ∈ tab,lB e f args H=some r:=by
 induction tab with
 | nil=>cases h
 | cons e l ih =>
  have hu:look (e :: l) f args H=match lB e f args H with
   | some r=>some r
   | none=>look l f args H:=rfl
  rw [hu] at h
  cases h1:lB e f args H with
  | some r'=>rw [h1] at h;cases h;exact ⟨e,by simp,h1⟩
  | none =>
   rw [h1] at h
   obtain ⟨e',m,h2⟩:=ih h
   exact ⟨e',List.mem_cons_of_mem _ m,h2⟩
theorem vj {e:XE} {f:FuncId} {args:List Value} {H H':Hp} {v:Value} (h:lB e f args H=some (v,H')) :
  e.f=f∧H'=eG H e.news∧nH e.dY.length H.n e.res=some v∧∃ φ ψ,iC e.dY.length e.args args .leaf=some φ∧jt e.dY.length H.get e.dY 0 φ=some ψ:=by
 unfold lB at h
 cases hb:Nat.beq e.f f with
 | false=>rw [hb] at h;cases h
 | true =>
  rw [hb] at h
  simp only [cond_true] at h
  split at h
  ·rename_i φ hφ
   split at h
   ·rename_i ψ hψ
    simp only [Option.map_eq_some_iff,Prod.mk.injEq] at h
    obtain ⟨v0,h1,rfl,rfl⟩:=h
    exact ⟨Nat.eq_of_beq_eq_true hb,rfl,h1,φ,ψ,hφ,hψ⟩
   ·cases h
  ·cases h
theorem EH {tab:List XE} {rec:pO→Option (List gk)} (h:bq rec):bq (rx tab rec):=by
 intro j L hj
 cases j with
 | call f args H =>
  unfold rx at hj
  simp only at hj
  split at hj
  ·rename_i v H' hl
   cases hj
   obtain ⟨e,_,h1⟩:=xU hl
   obtain ⟨_,rfl,_⟩:=vj h1
   exact .one (qJ H e.news)
  ·exact h _ _ hj
 | round l args H=>exact h _ _ hj
 | loop c st=>exact h _ _ hj
theorem Dp {T : bz} {e : XE} (he : ak T e) {f : FuncId} {args : List Value} {H H' : Hp} {v : Value} (h : lB e f args H = some (v, H')) :
    (∃ fn c, T.P.funcs[f]? = some fn ∧ (fn.name == "runtime.NumGoroutine") = false ∧ fn.body = some c) ∧
    ∀ γ w args' N, Wf H → HR γ H.get w → eX γ H.n N → H'.n ≤ N → bX γ args args' → CallsIn (FW none) 0 T.P f args'.toArray w (rZ γ H w [.ret v H']) := by
  obtain ⟨rfl, rfl, hsh, φ, ψ, hφ, hψ⟩ := vj h
  refine ⟨he.1, fun γ w args' N hw hh hf hN ha => ?_⟩
  obtain ⟨a1, a2, a3⟩ := l9 (γ := γ) hφ
  obtain ⟨b1, b2, b3⟩ := qI (γ := γ) hψ
  have hu : vh e.dY.length ψ := b2 (a2 fun k x hx => by cases hx)
  rw [lA] at hN
  refine CallsIn.mono (F := FW none) (he.2 (γ.ren ψ) w args' hh.base hh.gl (fun k b o hl => ?_) (fun k b o cs hk hl => ?_) (a3 ψ b1 args' ha)) fun en w' hR => ?_
  · simp only [Gm.ren, Option.bind_eq_some_iff, Option.map_eq_some_iff] at hl
    obtain ⟨⟨k', o'⟩, h1, ⟨b', d'⟩, h2, h3⟩ := hl
    simp only [Prod.mk.injEq] at h3
    obtain ⟨rfl, rfl⟩ := h3
    exact ⟨hh.lt _ _ _ h2, hu _ _ h1⟩
  · simp only [Gm.ren, Option.bind_eq_some_iff, Option.map_eq_some_iff] at hl
    obtain ⟨⟨k', o'⟩, h1, ⟨b', d'⟩, h2, h3⟩ := hl
    simp only [Prod.mk.injEq] at h3
    obtain ⟨rfl, rfl⟩ := h3
    obtain ⟨k1, o1, cs1, own, es, vs, r1, r2, r3, r4⟩ := b3 k cs hk
    rw [Nat.zero_add] at r1
    rw [r1] at h1
    cases h1
    obtain ⟨cs', el, fz, s1, s2, _⟩ := hh.fU _ _ _ _ r2 h2
    refine ⟨cs', el, fz, s1, fun j x hx => ?_⟩
    obtain ⟨c', u1, u2, u3, u4, u5⟩ := s2.GY r3
    have := r4 ψ (xS.refl ψ) c' u1
    obtain ⟨y, y1, y2⟩ := this.get hx
    exact ⟨y, u3 j y y1, y2⟩
  · obtain ⟨v', δ', rfl, X⟩ := hR
    let γ' : Gm := { γ with loc := fun k => if H.n ≤ k ∧ k < H.n + e.news.length then δ'.loc (k - H.n + e.dY.length) else γ.loc k }
    have hold : ∀ k, ¬ (H.n ≤ k ∧ k < H.n + e.news.length) → γ'.loc k = γ.loc k := fun k hk => if_neg hk
    have hnew : ∀ k, (H.n ≤ k ∧ k < H.n + e.news.length) → γ'.loc k = δ'.loc (k - H.n + e.dY.length) := fun k hk => if_pos hk
    have hle : γ.Le γ' := by
      refine ⟨fun k x hx => ?_, fun k x hx => rfl, rfl⟩
      by_cases hk : H.n ≤ k ∧ k < H.n + e.news.length
      · rw [hf k hk.1 (by omega)] at hx; cases hx
      · rw [hold k hk]; exact hx
    have hget : ∀ k a, (eG H e.news).get k = some a → (¬ (H.n ≤ k ∧ k < H.n + e.news.length) ∧ H.get k = some a) ∨ ((H.n ≤ k ∧ k < H.n + e.news.length) ∧ ∃ cs, e.news[k - H.n]? = some cs ∧ a = .cells cs false 0) := by
      intro k a hk
      obtain ⟨g1, g2, g3⟩ := gK e.news H k
      by_cases hr : H.n ≤ k ∧ k < H.n + e.news.length
      · refine .inr ⟨hr, ?_⟩
        have hc : e.news[k - H.n]? = some (e.news[k - H.n]'(by omega)) := List.getElem?_eq_getElem _
        have := g3 _ _ hc
        rw [show H.n + (k - H.n) = k by omega, hk] at this
        cases this
        exact ⟨_, hc, rfl⟩
      · refine .inl ⟨hr, ?_⟩
        by_cases hlt : k < H.n
        · rw [← g1 hlt]; exact hk
        · rw [← g2 (by omega)]; exact hk
    have hnl : ∀ k b o, (H.n ≤ k ∧ k < H.n + e.news.length) → γ'.loc k = some (b, o) → w.heap.size ≤ b ∧ b < w'.heap.size := fun k b o hk hl => by
      rw [hnew k hk] at hl
      obtain ⟨_, _, x3, x4, _⟩ := X.new _ _ _ hl
      exact ⟨x3, x4⟩
    have hhr : HR γ' (eG H e.news).get w' := by
      refine ⟨fun k b o a hk hl => ?_, fun k k' b o o' a a' hk ho hk' hd hne hl hl' => ?_, fun k b o hl => ?_, Nat.le_trans hh.base X.size, fun x hx => ⟨by rw [hle.B]; exact (hh.gl x hx).1, by rw [X.same _ (Nat.lt_of_lt_of_le (hh.gl x hx).1 hh.base)]; exact (hh.gl x hx).2⟩⟩
      · rcases hget k a hk with ⟨h1, h2⟩ | ⟨h1, cs, h2, rfl⟩
        · rw [hold k h1] at hl
          exact (hh.fU k b o a h2 hl).mono hle hl (X.same b (hh.lt _ _ _ hl))
        · rw [hnew k h1] at hl
          obtain ⟨_, _, _, _, x5⟩ := X.new _ _ _ hl
          rw [show k - H.n + e.dY.length - e.dY.length = k - H.n by omega] at x5
          obtain ⟨cs', el, fz, y1, y2⟩ := x5 cs h2
          exact ⟨cs', el, fz, y1, y2 γ', fun h => Bool.noConfusion h⟩
      · rcases hget k a hk with ⟨h1, h2⟩ | ⟨h1, cs, h2, rfl⟩
        · have hl0 := hl
          rw [hold k h1] at hl0
          rcases hget k' a' hk' with ⟨h1', h2'⟩ | ⟨h1', _⟩
          · rw [hold k' h1'] at hl'
            exact hh.inj k k' b o o' a a' h2 ho h2' hd hne hl0 hl'
          · have := (hnl k' b o' h1' hl').1
            have := hh.lt k b o hl0
            omega
        · cases ho
      · by_cases hk : H.n ≤ k ∧ k < H.n + e.news.length
        · exact (hnl k b o hk hl).2
        · rw [hold k hk] at hl
          exact Nat.lt_of_lt_of_le (hh.lt k b o hl) X.size
    refine ⟨v, eG H e.news, v', γ', by simp, rfl, Br (fun k x hk hl => ?_) hsh X.val, ⟨by rw [lA]; omega, hle, fun k hk => hold k (by rw [lA] at hk; omega), hhr, ?_⟩⟩
    · have := X.new k x.1 x.2 hl
      rw [hnew _ (by omega), show k - e.dY.length + H.n - H.n + e.dY.length = k by omega]
      exact hl
    · refine ⟨X.os, X.tape, X.output, X.size, fun b hb _ => X.same b hb, fun k b o a hk ho hl hb => ?_, fun k b o a hk hd hl hb => ?_, fun k b o hl hb => ?_⟩
      · rcases hget k a hk with ⟨h1, h2⟩ | ⟨h1, _⟩
        · rw [hold k h1] at hl; exact ⟨k, o, a, h2, ho, hl⟩
        · have := (hnl k b o h1 hl).1; omega
      · rcases hget k a hk with ⟨h1, h2⟩ | ⟨h1, _⟩
        · rw [hold k h1] at hl; exact ⟨k, o, a, h2, hd, hl⟩
        · have := (hnl k b o h1 hl).1; omega
      · by_cases hk : H.n ≤ k ∧ k < H.n + e.news.length
        · have := (hnl k b o hk hl).1; omega
        · rw [hold k hk] at hl; exact ⟨k, o, hl⟩
theorem Bs {T:bz} {tab:List XE} (ht:∀ e ∈ tab,ak T e) {rec:pO→Option (List gk)} {m:Nat} (hS:cx T rec m):cx T (rx tab rec) m:=by
 refine ⟨fun f args hp L h=>?_,hS.round,hS.loop⟩
 unfold rx at h
 simp only at h
 split at h
 ·rename_i v H' hl
  cases h
  obtain ⟨e,he,h1⟩:=xU hl
  obtain ⟨x1,x2⟩:=Dp (ht e he) h1
  exact ⟨x1,fun γ w args' N hw hh hf hN ha=>x2 γ w args' N hw hh hf (hN (.ret v H') (by simp)) ha⟩
 ·exact hS.call f args hp L h
noncomputable def tX (tab:List XE) (T:bz) (n:Nat):pO→Option (List gk) :=
 Nat.rec (motive:=fun _=>pO→Option (List gk)) (fun _=>none) (fun _ ih j=>gW T (rx tab ih) j) n
theorem F4 (tab:List XE) (T:bz) (n:Nat):bq (tX tab T n):=by
 induction n with
 | zero=>intro j L h;cases h
 | succ n ih=>exact fun j L h=>Db (EH ih) j L h
theorem vk {T:bz} (hT:cc T) (hm:T.P.follows .mixedOrders=true) {tab:List XE} (ht:∀ e ∈ tab,ak T e) (n:Nat):cx T (tX tab T n) n:=by
 induction n with
 | zero=>exact {call:=fun _ _ _ _ h=>(by cases h),round:=fun _ _ _ _ h=>(by cases h),loop:=fun _ _ _ h=>(by cases h)}
 | succ n ih =>
  have hk:=EH (tab:=tab) (F4 tab T n)
  have hs:=Bs ht ih
  exact Dh hT hk hs (Dl hT hm hk hs)
theorem au {T:bz} (hT:cc T) (hm:T.P.follows .mixedOrders=true) {tab:List XE} (ht:∀ e ∈ tab,ak T e) {e:XE} (n:Nat) (h:NZ (tX tab T n) e=true):ak T e :=
 Ho (vk hT hm ht n) h
end Go.RM
