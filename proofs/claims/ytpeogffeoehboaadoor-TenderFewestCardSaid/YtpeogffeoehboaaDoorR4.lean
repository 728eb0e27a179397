/-
  An abstract machine, and that its runs are the model's. Lemmas alone; no condition.
-/
import Derived.Test.YtpeogffeoehboaaDoorR3
namespace Go.RM
open Go
noncomputable def ei (H:Hp) (l:List (List Value)):Hp:=l.foldl (fun h c=>h.push (.cells c false 0)) H
theorem k7:∀ (l:List (List Value)) (H:Hp),(ei H l).n=H.n+l.length
 | [],H=>rfl
 | c :: l,H=>by
  show (ei (H.push _) l).n=_
  rw [k7 l]
  show H.n+1+l.length=_
  simp;omega
theorem gq:∀ (l:List (List Value)) (H:Hp) (k:Nat),(k < H.n→(ei H l).get k=H.get k)∧(H.n+l.length≤k→(ei H l).get k=H.get k) ∧
  (∀ (i:Nat) (c:List Value),l[i]?=some c→(ei H l).get (H.n+i)=some (.cells c false 0))
 | [],H,k=>⟨fun _=>rfl,fun _=>rfl,fun i c h=>by cases h⟩
 | c :: l,H,k=>by
  obtain ⟨h1,h2,_⟩:=gq l (H.push (.cells c false 0)) k
  have hn:(H.push (.cells c false 0)).n=H.n+1:=rfl
  refine ⟨fun hk=>?_,fun hk=>?_,fun i d hi=>?_⟩
  ·show (ei (H.push _) l).get k=_
   rw [h1 (by omega),Hp.ew,if_neg (by omega)]
  ·show (ei (H.push _) l).get k=_
   simp only [List.length_cons] at hk
   rw [h2 (by omega),Hp.ew,if_neg (by omega)]
  ·show (ei (H.push _) l).get (H.n+i)=_
   cases i with
   | zero =>
    cases hi
    rw [(gq l (H.push _) (H.n+0)).1 (by omega),Hp.ew,if_pos (by omega)]
   | succ i =>
    have:=(gq l (H.push (.cells c false 0)) 0).2.2 i d hi
    rw [hn,show H.n+1+i=H.n+(i+1) by omega] at this
    exact this
theorem qe (H:Hp) (l:List (List Value)):dB H (ei H l):=by
 induction l generalizing H with
 | nil=>exact .refl H
 | cons c l ih=>exact (dB.push H _).trans (ih _)
theorem AG:Wf Hp.empty:=fun _ _=>rfl
noncomputable def nO (nb n:Nat) (p:Value):Option Value :=
 match p with
 | .slice (some ⟨k,0,none⟩) m c=>bif Nat.ble nb k && Nat.beq c (m+2) then some (.slice (some ⟨k - nb+n,0,none⟩) m c) else none
 | v=>bif aV v then some v else none
noncomputable def lV (nb n:Nat):List Value→Option (List Value)
 | []=>some []
 | p :: l=>match nO nb n p,lV nb n l with
  | some q,some m=>some (q :: m)
  | _,_=>none
noncomputable def qf (nb n:Nat) (p:Value):Option Value :=
 match p with
 | .agg ps=>(lV nb n ps.toList).map fun l=>.agg l.toArray
 | v=>nO nb n v
noncomputable def nP (nb n:Nat):List Value→Option (List Value)
 | []=>some []
 | p :: l=>match qf nb n p,nP nb n l with
  | some q,some m=>some (q :: m)
  | _,_=>none
noncomputable def nc (nb n:Nat) (p:Value):Option Value :=
 match p with
 | .tuple ps=>(nP nb n ps.toList).map fun l=>.tuple l.toArray
 | v=>qf nb n v
section
variable {δ γ : Gm} {nb n : Nat}
theorem qg (hl:∀ k x,nb≤k→δ.loc k=some x→γ.loc (k - nb+n)=some x) {p q v:Value} (h:nO nb n p=some q) (hv:VR δ p v):VR γ q v:=by
 unfold nO at h
 split at h
 ·rename_i k m c
  cases hb:(Nat.ble nb k && Nat.beq c (m+2)) with
  | false=>rw [hb] at h;cases h
  | true =>
   rw [hb] at h
   simp only [cond_true,Option.some.injEq] at h
   subst h
   simp only [Bool.and_eq_true] at hb
   obtain rfl:=Nat.eq_of_beq_eq_true hb.2
   cases hv with
   | flat hf=>cases hf
   | slice h1 h2 h3 h4=>exact .slice (hl _ _ (Nat.le_of_ble_eq_true hb.1) h1) h2 (fun e=>by omega) (fun e=>by omega) (fun e=>by omega)
   | cF h0 ht=>exact .cF (by omega) (fun e=>by omega) (by omega)
 ·cases hb:aV p with
  | false=>rw [hb] at h;cases h
  | true =>
   rw [hb] at h
   simp only [cond_true,Option.some.injEq] at h
   subst h
   rw [hv.bp hb]
   exact .flat hb
theorem oI (hl:∀ k x,nb≤k→δ.loc k=some x→γ.loc (k - nb+n)=some x):∀ {ps qs vs:List Value},lV nb n ps=some qs→bQ δ ps vs→bQ γ qs vs
 | [],qs,vs,h,hv=>by
  cases h
  cases vs with
  | nil=>exact bQ.nil _
  | cons=>exact absurd hv.1 (by simp)
 | p :: ps,qs,vs,h,hv=>by
  unfold lV at h
  split at h
  ·rename_i q m h1 h2
   cases h
   cases vs with
   | nil=>exact absurd hv.1 (by simp)
   | cons v vs=>exact .cons (qg hl h1 (hv.2 0 p v rfl rfl)) (oI hl h2 ⟨by simpa using hv.1,fun i a b ha hb=>hv.2 (i+1) a b ha hb⟩)
  ·cases h
theorem sw (hl:∀ k x,nb≤k→δ.loc k=some x→γ.loc (k - nb+n)=some x) {p q v:Value} (h:qf nb n p=some q) (hv:VR δ p v):VR γ q v:=by
 unfold qf at h
 split at h
 ·simp only [Option.map_eq_some_iff] at h
  obtain ⟨l,h1,rfl⟩:=h
  cases hv with
  | flat hf=>cases hf
  | agg e hc =>
   rename_i cs'
   have:=VR.js (oI hl h1 (bQ.lH e hc))
   simpa using this
 ·exact qg hl h hv
theorem qh (hl:∀ k x,nb≤k→δ.loc k=some x→γ.loc (k - nb+n)=some x):∀ {ps qs vs:List Value},nP nb n ps=some qs→bQ δ ps vs→bQ γ qs vs
 | [],qs,vs,h,hv=>by
  cases h
  cases vs with
  | nil=>exact bQ.nil _
  | cons=>exact absurd hv.1 (by simp)
 | p :: ps,qs,vs,h,hv=>by
  unfold nP at h
  split at h
  ·rename_i q m h1 h2
   cases h
   cases vs with
   | nil=>exact absurd hv.1 (by simp)
   | cons v vs=>exact .cons (sw hl h1 (hv.2 0 p v rfl rfl)) (qh hl h2 ⟨by simpa using hv.1,fun i a b ha hb=>hv.2 (i+1) a b ha hb⟩)
  ·cases h
theorem AH (hl:∀ k x,nb≤k→δ.loc k=some x→γ.loc (k - nb+n)=some x) {p q v:Value} (h:nc nb n p=some q) (hv:VR δ p v):VR γ q v:=by
 unfold nc at h
 split at h
 ·simp only [Option.map_eq_some_iff] at h
  obtain ⟨l,h1,rfl⟩:=h
  cases hv with
  | flat hf =>
   cases hf
  | tuple e hc =>
   rename_i cs'
   have:=VR.cg (qh hl h1 (bQ.lH e hc))
   simpa using this
 ·exact sw hl h hv
end
structure XR (e:XE) (w:World) (v':Value) (δ':Gm) (w':World):Prop where
 val:VR δ' e.res v'
 new:∀ k b o,δ'.loc k=some (b,o)→e.dL.length≤k∧k < e.dL.length+e.news.length∧w.heap.size≤b∧b < w'.heap.size ∧
  ∀ cs,e.news[k - e.dL.length]?=some cs→∃ cs' el fz,w'.heap[b]?=some (.cells cs' el fz)∧∀ γ,cY γ cs cs' o
 os:w'.os=w.os
 tape:w'.tape=w.tape
 output:w'.output=w.output
 size:w.heap.size≤w'.heap.size
 same:∀ b,b < w.heap.size→w'.heap[b]?=w.heap[b]?
def aj (T : bz) (e : XE) : Prop :=
  (∃ fn c, T.P.funcs[e.f]? = some fn ∧ (fn.name == "runtime.NumGoroutine") = false ∧ fn.body = some c) ∧
  ∀ (δ : Gm) (w : World) (args' : List Value), δ.B ≤ w.heap.size → (∀ x ∈ GL, x.1 < δ.B ∧ F0 (w.heap[x.1]?) x.2) → (∀ k b o, δ.loc k = some (b, o) → b < w.heap.size ∧ k < e.dL.length) →
    (∀ k b o cs, e.dL[k]? = some cs → δ.loc k = some (b, o) → ∃ cs' el fz, w.heap[b]? = some (.cells cs' el fz) ∧ cY δ cs cs' o) → bQ δ e.args args' →
    CallsIn (FW none) 0 T.P e.f args'.toArray w fun en w' => ∃ v' δ', en = .returned v' ∧ XR e w v' δ' w'
noncomputable def ng (dL:List (List Value)):Hp:=ei Hp.empty dL
noncomputable def DW (hp:Hp) (φ:Ren) (nb:Nat):List (List Value)→Nat→Bool
 | [],_=>true
 | cs :: l,i=>(match φ.get (nb+i) with
  | some (k',o)=>match cells? (hp.get k') with
   | some (ds,own,_)=>own && (match cut ds o cs.length with
    | some vs=>Nat.beq vs.length cs.length && (cs.zip vs).all fun p=>Ch p.1 p.2
    | none=>false)
   | none=>false
  | none=>true) && DW hp φ nb l (i+1)
noncomputable def Lj (e:XE) (r:fP):Bool :=
 match r with
 | .ret v hp=>match uu (e.dL.length+e.news.length) e.res v .leaf with
  | some φ=>(List.range e.dL.length).all (fun i=>(φ.get i).isNone) && DW hp φ e.dL.length e.news 0
  | none=>false
 | .out ..=>false
noncomputable def MS (rn:oT→Option (List fP)) (e:XE):Bool :=
 match rn (.call e.f e.args (ng e.dL)) with
 | some L=>L.all (Lj e)
 | none=>false
theorem xe {hp:Hp} {φ:Ren} {nb:Nat}:∀ {l:List (List Value)} {j:Nat},DW hp φ nb l j=true→∀ (i:Nat) (cs:List Value),l[i]?=some cs→∀ k' o,φ.get (nb+(j+i))=some (k',o) →
  ∃ ds es vs,hp.get k'=some (.cells ds true es)∧cut ds o cs.length=some vs∧vs=cs∧cs.all aV=true
 | [],j,h,i,cs,hi=>by cases hi
 | c :: l,j,h,i,cs,hi=>by
  intro k' o hk
  simp only [DW,Bool.and_eq_true] at h
  cases i with
  | zero =>
   have hi':c=cs:=by simpa using hi
   have h1:=h.1
   rw [hi'] at h1
   rw [Nat.add_zero] at hk
   rw [hk] at h1
   simp only at h1
   split at h1
   ·rename_i ds own es hc
    simp only [Bool.and_eq_true] at h1
    obtain ⟨h2,h3⟩:=h1
    subst h2
    split at h3
    ·rename_i vs hcut
     simp only [Bool.and_eq_true,List.all_eq_true] at h3
     have hlen:=Nat.eq_of_beq_eq_true h3.1
     have key:∀ (i:Nat) (a b:Value),cs[i]?=some a→vs[i]?=some b→a=b∧aV b=true:=fun i a b ha hb =>
      yD (h3.2 (a,b) (List.mem_of_getElem? (List.getElem?_zip_eq_some.2 ⟨ha,hb⟩)))
     have heq:vs=cs:=by
      apply List.ext_getElem? fun i=>?_
      cases ha:cs[i]? with
      | none=>rw [List.getElem?_eq_none_iff] at ha ⊢;omega
      | some a =>
       have hlt:=(List.getElem?_eq_some_iff.1 ha).1
       have hb:vs[i]?=some (vs[i]'(by omega)):=List.getElem?_eq_getElem _
       rw [hb,(key i a _ ha hb).1]
     refine ⟨ds,es,vs,dZ hc,hcut,heq,?_⟩
     rw [List.all_eq_true]
     intro x hx
     obtain ⟨i,hi,rfl⟩:=List.getElem_of_mem hx
     have ha:cs[i]?=some cs[i]:=List.getElem?_eq_getElem hi
     exact (key i _ _ ha (by rw [heq];exact ha)).2
    ·cases h3
   ·cases h1
  | succ i=>exact xe h.2 i cs hi k' o (by rw [show j+1+i=j+(i+1) by omega];exact hk)
theorem Gs (dL:List (List Value)):(ng dL).n=dL.length:=by
 unfold ng
 rw [k7]
 show 0+_=_
 omega
theorem ux (dL:List (List Value)) (k:Nat) (a:aZ) (h:(ng dL).get k=some a):∃ cs,dL[k]?=some cs∧a=.cells cs false 0:=by
 unfold ng at h
 obtain ⟨_,h2,_⟩:=gq dL Hp.empty k
 by_cases hk:k < dL.length
 ·have hc:dL[k]?=some dL[k]:=List.getElem?_eq_getElem hk
  have:=(gq dL Hp.empty 0).2.2 k _ hc
  rw [show Hp.empty.n+k=k from Nat.zero_add k] at this
  rw [this] at h
  cases h
  exact ⟨_,hc,rfl⟩
 ·rw [h2 (by show 0+_≤_;omega)] at h
  cases h
theorem Gt {T:bz} {rn:oT→Option (List fP)} {m:Nat} (hS:cq T rn m) {e:XE} (h:MS rn e=true):aj T e:=by
 unfold MS at h
 split at h
 ·rename_i L hL
  rw [List.all_eq_true] at h
  obtain ⟨hfn,hcall⟩:=hS.call _ _ _ _ hL
  refine ⟨hfn,fun δ w args' hB hgl hlt hrow ha=>?_⟩
  have hN:∃ N,∀ r ∈ L,r.hp.n≤N:=by
   clear h hL hcall
   induction L with
   | nil=>exact ⟨0,fun r hr=>by cases hr⟩
   | cons a l ih =>
    obtain ⟨N,hN⟩:=ih
    refine ⟨max a.hp.n N,fun r hr=>?_⟩
    rcases List.mem_cons.1 hr with rfl|hr
    ·omega
    ·have:=hN r hr;omega
  obtain ⟨N,hN⟩:=hN
  have hnown:∀ k a,(ng e.dL).get k=some a→a.own=false:=fun k a hk=>by
   obtain ⟨cs,_,rfl⟩:=ux _ _ _ hk;rfl
  have hhr:HR δ (ng e.dL).get w:=by
   refine ⟨fun k b o a hk hl=>?_,fun k k' b o o' a a' hk ho=>?_,fun k b o hl=>(hlt k b o hl).1,hB,hgl⟩
   ·obtain ⟨cs,h1,rfl⟩:=ux _ _ _ hk
    obtain ⟨cs',el,fz,h2,h3⟩:=hrow k b o cs h1 hl
    exact ⟨cs',el,fz,h2,h3,fun h=>Bool.noConfusion h⟩
   ·rw [hnown k a hk] at ho;cases ho
  have hfresh:eH δ (ng e.dL).n N:=fun k hk _=>by
   rw [Gs] at hk
   cases hl:δ.loc k with
   | none=>rfl
   | some p=>have:=(hlt k p.1 p.2 hl).2;omega
  refine CallsIn.mono (F:=FW none) (hcall δ w args' N ((qe _ _).wf AG) hhr hfresh hN ha) fun en w' hR=>?_
  obtain ⟨v,hp,v',γ1,hm,rfl,hv,hs⟩:=hR
  have hr:=h _ hm
  unfold Lj at hr
  simp only at hr
  split at hr
  ·rename_i φ hφ
   simp only [Bool.and_eq_true,List.all_eq_true] at hr
   obtain ⟨q1,q2,q3⟩:=AF (γ:=γ1) hφ
   refine ⟨v',γ1.ren φ,rfl,q3 φ (xd.refl φ) v' hv,fun k b o hl=>?_,hs.gQ.os,hs.gQ.tape,hs.gQ.output,hs.gQ.size,fun b hb=>hs.gQ.same b hb fun k o a h1 h2 _=>by rw [hnown k a h1] at h2;cases h2⟩
   simp only [Gm.ren,Option.bind_eq_some_iff,Option.map_eq_some_iff] at hl
   obtain ⟨⟨k',o'⟩,h1,⟨b',d'⟩,h2,h3⟩:=hl
   simp only [Prod.mk.injEq] at h3
   obtain ⟨rfl,rfl⟩:=h3
   simp only at h2
   have hk1:e.dL.length≤k:=by
    apply Nat.le_of_not_lt
    intro hlt'
    have:=hr.1 k (List.mem_range.2 hlt')
    rw [h1] at this
    cases this
   have hk2:k < e.dL.length+e.news.length:=q2 (fun i x hx=>by cases hx) k _ h1
   have hget:=xe hr.2 (k - e.dL.length) _ (List.getElem?_eq_getElem (by omega)) k' o' (by rw [Nat.zero_add,show e.dL.length+(k - e.dL.length)=k by omega];exact h1)
   obtain ⟨ds,es,vs,r1,r2,r3,r4⟩:=hget
   refine ⟨hk1,hk2,?_,hs.hr.lt _ _ _ h2,fun cs hcs=>?_⟩
   ·apply Nat.le_of_not_lt
    intro hlt'
    obtain ⟨k0,o0,a0,t1,t2,_⟩:=hs.gQ.sg k' b' d' _ r1 rfl h2 hlt'
    rw [hnown k0 a0 t1] at t2
    cases t2
   ·obtain ⟨cs',el,fz,s1,s2,_⟩:=hs.hr.fQ k' b' d' _ r1 h2
    refine ⟨cs',el,fz,s1,fun γ j x hx=>?_⟩
    obtain ⟨c',u1,u2,u3,u4,u5⟩:=s2.F9 r2
    rw [List.getElem?_eq_getElem (by omega)] at hcs
    simp only [Option.some.injEq] at hcs
    subst hcs
    subst r3
    obtain ⟨y,y1,y2⟩:=u1.get hx
    have hfx:aV x=true:=List.all_eq_true.1 r4 x (List.mem_of_getElem? hx)
    have:=y2.bp hfx
    subst this
    exact ⟨_,u3 j _ y1,.flat hfx⟩
  ·cases hr
 ·cases h
noncomputable def k8 (e:XE) (f:FuncId) (args:List Value) (H:Hp):Option (Value × Hp) :=
 bif Nat.beq e.f f then
  match hH e.dL.length e.args args .leaf with
  | some φ=>match jk e.dL.length H.get e.dL 0 φ with
   | some _=>(nc e.dL.length H.n e.res).map fun v=>(v,ei H e.news)
   | none=>none
  | none=>none
 else none
noncomputable def look (tab:List XE) (f:FuncId) (args:List Value) (H:Hp):Option (Value × Hp) :=
 List.rec none (fun e _ ih=>match k8 e f args H with
  | some r=>some r
  | none=>ih) tab
noncomputable def rx (tab:List XE) (rec:oT→Option (List fP)) (j:oT):Option (List fP) :=
 match j with
 | .call f args H=>match look tab f args H with
  | some (v,H')=>some [.ret v H']
  | none=>rec (.call f args H)
 | .round l args H=>rec (.round l args H)
 | .loop c st=>rec (.loop c st)
theorem xg {tab:List XE} {f:FuncId} {args:List Value} {H:Hp} {r:Value × Hp} (h:look tab f args H=some r):∃ e ∈ tab,k8 e f args H=some r:=by
 induction tab with
 | nil=>cases h
 | cons e l ih =>
  have hu:look (e :: l) f args H=match k8 e f args H with
   | some r=>some r
   | none=>look l f args H:=rfl
  rw [hu] at h
  cases h1:k8 e f args H with
  | some r'=>rw [h1] at h;cases h;exact ⟨e,by simp,h1⟩
  | none =>
   rw [h1] at h
   obtain ⟨e',m,h2⟩:=ih h
   exact ⟨e',List.mem_cons_of_mem _ m,h2⟩
theorem uy {e:XE} {f:FuncId} {args:List Value} {H H':Hp} {v:Value} (h:k8 e f args H=some (v,H')) :
  e.f=f∧H'=ei H e.news∧nc e.dL.length H.n e.res=some v∧∃ φ ψ,hH e.dL.length e.args args .leaf=some φ∧jk e.dL.length H.get e.dL 0 φ=some ψ:=by
 unfold k8 at h
 cases hb:Nat.beq e.f f with
 | false=>rw [hb] at h;cases h
 | true =>
  rw [hb] at h
  simp only [cond_true] at h
  split at h
  ·rename_i φ hφ
   split at h
   ·rename_i ψ hψ
    simp only [Option.map_eq_some_iff,Prod.mk.injEq] at h
    obtain ⟨v0,h1,rfl,rfl⟩:=h
    exact ⟨Nat.eq_of_beq_eq_true hb,rfl,h1,φ,ψ,hφ,hψ⟩
   ·cases h
  ·cases h
theorem DX {tab:List XE} {rec:oT→Option (List fP)} (h:bg rec):bg (rx tab rec):=by
 intro j L hj
 cases j with
 | call f args H =>
  unfold rx at hj
  simp only at hj
  split at hj
  ·rename_i v H' hl
   cases hj
   obtain ⟨e,_,h1⟩:=xg hl
   obtain ⟨_,rfl,_⟩:=uy h1
   exact .one (qe H e.news)
  ·exact h _ _ hj
 | round l args H=>exact h _ _ hj
 | loop c st=>exact h _ _ hj
theorem CI {T : bz} {e : XE} (he : aj T e) {f : FuncId} {args : List Value} {H H' : Hp} {v : Value} (h : k8 e f args H = some (v, H')) :
    (∃ fn c, T.P.funcs[f]? = some fn ∧ (fn.name == "runtime.NumGoroutine") = false ∧ fn.body = some c) ∧
    ∀ γ w args' N, Wf H → HR γ H.get w → eH γ H.n N → H'.n ≤ N → bQ γ args args' → CallsIn (FW none) 0 T.P f args'.toArray w (qZ γ H w [.ret v H']) := by
  obtain ⟨rfl, rfl, hsh, φ, ψ, hφ, hψ⟩ := uy h
  refine ⟨he.1, fun γ w args' N hw hh hf hN ha => ?_⟩
  obtain ⟨a1, a2, a3⟩ := lU (γ := γ) hφ
  obtain ⟨b1, b2, b3⟩ := qd (γ := γ) hψ
  have hu : uw e.dL.length ψ := b2 (a2 fun k x hx => by cases hx)
  rw [k7] at hN
  refine CallsIn.mono (F := FW none) (he.2 (γ.ren ψ) w args' hh.base hh.gl (fun k b o hl => ?_) (fun k b o cs hk hl => ?_) (a3 ψ b1 args' ha)) fun en w' hR => ?_
  · simp only [Gm.ren, Option.bind_eq_some_iff, Option.map_eq_some_iff] at hl
    obtain ⟨⟨k', o'⟩, h1, ⟨b', d'⟩, h2, h3⟩ := hl
    simp only [Prod.mk.injEq] at h3
    obtain ⟨rfl, rfl⟩ := h3
    exact ⟨hh.lt _ _ _ h2, hu _ _ h1⟩
  · simp only [Gm.ren, Option.bind_eq_some_iff, Option.map_eq_some_iff] at hl
    obtain ⟨⟨k', o'⟩, h1, ⟨b', d'⟩, h2, h3⟩ := hl
    simp only [Prod.mk.injEq] at h3
    obtain ⟨rfl, rfl⟩ := h3
    obtain ⟨k1, o1, cs1, own, es, vs, r1, r2, r3, r4⟩ := b3 k cs hk
    rw [Nat.zero_add] at r1
    rw [r1] at h1
    cases h1
    obtain ⟨cs', el, fz, s1, s2, _⟩ := hh.fQ _ _ _ _ r2 h2
    refine ⟨cs', el, fz, s1, fun j x hx => ?_⟩
    obtain ⟨c', u1, u2, u3, u4, u5⟩ := s2.F9 r3
    have := r4 ψ (xd.refl ψ) c' u1
    obtain ⟨y, y1, y2⟩ := this.get hx
    exact ⟨y, u3 j y y1, y2⟩
  · obtain ⟨v', δ', rfl, X⟩ := hR
    let γ' : Gm := { γ with loc := fun k => if H.n ≤ k ∧ k < H.n + e.news.length then δ'.loc (k - H.n + e.dL.length) else γ.loc k }
    have hold : ∀ k, ¬ (H.n ≤ k ∧ k < H.n + e.news.length) → γ'.loc k = γ.loc k := fun k hk => if_neg hk
    have hnew : ∀ k, (H.n ≤ k ∧ k < H.n + e.news.length) → γ'.loc k = δ'.loc (k - H.n + e.dL.length) := fun k hk => if_pos hk
    have hle : γ.Le γ' := by
      refine ⟨fun k x hx => ?_, fun k x hx => rfl, rfl⟩
      by_cases hk : H.n ≤ k ∧ k < H.n + e.news.length
      · rw [hf k hk.1 (by omega)] at hx; cases hx
      · rw [hold k hk]; exact hx
    have hget : ∀ k a, (ei H e.news).get k = some a → (¬ (H.n ≤ k ∧ k < H.n + e.news.length) ∧ H.get k = some a) ∨ ((H.n ≤ k ∧ k < H.n + e.news.length) ∧ ∃ cs, e.news[k - H.n]? = some cs ∧ a = .cells cs false 0) := by
      intro k a hk
      obtain ⟨g1, g2, g3⟩ := gq e.news H k
      by_cases hr : H.n ≤ k ∧ k < H.n + e.news.length
      · refine .inr ⟨hr, ?_⟩
        have hc : e.news[k - H.n]? = some (e.news[k - H.n]'(by omega)) := List.getElem?_eq_getElem _
        have := g3 _ _ hc
        rw [show H.n + (k - H.n) = k by omega, hk] at this
        cases this
        exact ⟨_, hc, rfl⟩
      · refine .inl ⟨hr, ?_⟩
        by_cases hlt : k < H.n
        · rw [← g1 hlt]; exact hk
        · rw [← g2 (by omega)]; exact hk
    have hnl : ∀ k b o, (H.n ≤ k ∧ k < H.n + e.news.length) → γ'.loc k = some (b, o) → w.heap.size ≤ b ∧ b < w'.heap.size := fun k b o hk hl => by
      rw [hnew k hk] at hl
      obtain ⟨_, _, x3, x4, _⟩ := X.new _ _ _ hl
      exact ⟨x3, x4⟩
    have hhr : HR γ' (ei H e.news).get w' := by
      refine ⟨fun k b o a hk hl => ?_, fun k k' b o o' a a' hk ho hk' hd hne hl hl' => ?_, fun k b o hl => ?_, Nat.le_trans hh.base X.size, fun x hx => ⟨by rw [hle.B]; exact (hh.gl x hx).1, by rw [X.same _ (Nat.lt_of_lt_of_le (hh.gl x hx).1 hh.base)]; exact (hh.gl x hx).2⟩⟩
      · rcases hget k a hk with ⟨h1, h2⟩ | ⟨h1, cs, h2, rfl⟩
        · rw [hold k h1] at hl
          exact (hh.fQ k b o a h2 hl).mono hle hl (X.same b (hh.lt _ _ _ hl))
        · rw [hnew k h1] at hl
          obtain ⟨_, _, _, _, x5⟩ := X.new _ _ _ hl
          rw [show k - H.n + e.dL.length - e.dL.length = k - H.n by omega] at x5
          obtain ⟨cs', el, fz, y1, y2⟩ := x5 cs h2
          exact ⟨cs', el, fz, y1, y2 γ', fun h => Bool.noConfusion h⟩
      · rcases hget k a hk with ⟨h1, h2⟩ | ⟨h1, cs, h2, rfl⟩
        · have hl0 := hl
          rw [hold k h1] at hl0
          rcases hget k' a' hk' with ⟨h1', h2'⟩ | ⟨h1', _⟩
          · rw [hold k' h1'] at hl'
            exact hh.inj k k' b o o' a a' h2 ho h2' hd hne hl0 hl'
          · have := (hnl k' b o' h1' hl').1
            have := hh.lt k b o hl0
            omega
        · cases ho
      · by_cases hk : H.n ≤ k ∧ k < H.n + e.news.length
        · exact (hnl k b o hk hl).2
        · rw [hold k hk] at hl
          exact Nat.lt_of_lt_of_le (hh.lt k b o hl) X.size
    refine ⟨v, ei H e.news, v', γ', by simp, rfl, AH (fun k x hk hl => ?_) hsh X.val, ⟨by rw [k7]; omega, hle, fun k hk => hold k (by rw [k7] at hk; omega), hhr, ?_⟩⟩
    · have := X.new k x.1 x.2 hl
      rw [hnew _ (by omega), show k - e.dL.length + H.n - H.n + e.dL.length = k by omega]
      exact hl
    · refine ⟨X.os, X.tape, X.output, X.size, fun b hb _ => X.same b hb, fun k b o a hk ho hl hb => ?_, fun k b o a hk hd hl hb => ?_, fun k b o hl hb => ?_⟩
      · rcases hget k a hk with ⟨h1, h2⟩ | ⟨h1, _⟩
        · rw [hold k h1] at hl; exact ⟨k, o, a, h2, ho, hl⟩
        · have := (hnl k b o h1 hl).1; omega
      · rcases hget k a hk with ⟨h1, h2⟩ | ⟨h1, _⟩
        · rw [hold k h1] at hl; exact ⟨k, o, a, h2, hd, hl⟩
        · have := (hnl k b o h1 hl).1; omega
      · by_cases hk : H.n ≤ k ∧ k < H.n + e.news.length
        · have := (hnl k b o hk hl).1; omega
        · rw [hold k hk] at hl; exact ⟨k, o, hl⟩
theorem AJ {T:bz} {tab:List XE} (ht:∀ e ∈ tab,aj T e) {rec:oT→Option (List fP)} {m:Nat} (hS:cq T rec m):cq T (rx tab rec) m:=by
 refine ⟨fun f args hp L h=>?_,hS.round,hS.loop⟩
 unfold rx at h
 simp only at h
 split at h
 ·rename_i v H' hl
  cases h
  obtain ⟨e,he,h1⟩:=xg hl
  obtain ⟨x1,x2⟩:=CI (ht e he) h1
  exact ⟨x1,fun γ w args' N hw hh hf hN ha=>x2 γ w args' N hw hh hf (hN (.ret v H') (by simp)) ha⟩
 ·exact hS.call f args hp L h
noncomputable def sX (tab:List XE) (T:bz) (n:Nat):oT→Option (List fP) :=
 Nat.rec (motive:=fun _=>oT→Option (List fP)) (fun _=>none) (fun _ ih j=>gJ T (rx tab ih) j) n
theorem Fe (tab:List XE) (T:bz) (n:Nat):bg (sX tab T n):=by
 induction n with
 | zero=>intro j L h;cases h
 | succ n ih=>exact fun j L h=>Cv (DX ih) j L h
theorem uz {T:bz} (hT:bT T) (hm:T.P.follows .mixedOrders=true) {tab:List XE} (ht:∀ e ∈ tab,aj T e) (n:Nat):cq T (sX tab T n) n:=by
 induction n with
 | zero=>exact {call:=fun _ _ _ _ h=>(by cases h),round:=fun _ _ _ _ h=>(by cases h),loop:=fun _ _ _ h=>(by cases h)}
 | succ n ih =>
  have hk:=DX (tab:=tab) (Fe tab T n)
  have hs:=AJ ht ih
  exact CB hT hk hs (CF hT hm hk hs)
theorem au {T:bz} (hT:bT T) (hm:T.P.follows .mixedOrders=true) {tab:List XE} (ht:∀ e ∈ tab,aj T e) {e:XE} (n:Nat) (h:MS (sX tab T n) e=true):aj T e :=
 Gt (uz hT hm ht n) h
end Go.RM
