/-
  An abstract machine, and that its runs are the model's. Lemmas alone; no condition.
-/
import Derived.Test.YtichbhmnhkegiaaGreatVR1
import Derived.OrdersIn
import Derived.OwnWalkIn
import Derived.LoopNIn
import Derived.RangeFuncNested
namespace Go.RM
open Go.RowKit
section
variable {T : bf} {γ : Gm} {g : ax} {w : World} {n : Nat}
def eA (γ:Gm):List MapEntry→List MapEntry→Prop
 | [],[]=>True
 | e :: l,e' :: l'=>(VR γ e.key e'.key∧VR γ e.val e'.val∧e.born=e'.born)∧eA γ l l'
 | _,_=>False
theorem eA.BG {γ:Gm}:∀ {l l':List MapEntry},l.length=l'.length →
  (∀ (i:Nat) (e e':MapEntry),l[i]?=some e→l'[i]?=some e'→VR γ e.key e'.key∧VR γ e.val e'.val∧e.born=e'.born)→eA γ l l'
 | [],[],_,_=>trivial
 | [],_ :: _,h,_=>by simp at h
 | _ :: _,[],h,_=>by simp at h
 | e :: l,e' :: l',h,hp=>⟨hp 0 e e' rfl rfl,eA.BG (by simpa using h) fun i a a' x y=>hp (i+1) a a' (by simpa using x) (by simpa using y)⟩
theorem gO.list {es:List MapEntry} {es':Array MapEntry} (h:gO γ es es'):eA γ es es'.toList :=
 eA.BG (by simpa using h.1) fun i e e' a b=>h.2 i e e' a (by simpa using b)
theorem eA.len {γ:Gm}:∀ {l l':List MapEntry},eA γ l l'→l.length=l'.length
 | [],[],_=>rfl
 | [],_ :: _,h=>h.elim
 | _ :: _,[],h=>h.elim
 | _ :: _,_ :: _,h=>by simp [eA.len h.2]
theorem eA.get {γ:Gm}:∀ {l l':List MapEntry} {i:Nat} {e':MapEntry},eA γ l l'→l'[i]?=some e'→∃ e,l[i]?=some e∧VR γ e.key e'.key∧VR γ e.val e'.val∧e.born=e'.born
 | [],[],i,e',_,h=>by simp at h
 | [],_ :: _,_,_,h,_=>h.elim
 | _ :: _,[],_,_,h,_=>h.elim
 | e :: l,x :: l',0,e',h,hx=>by simp at hx;subst hx;exact ⟨e,rfl,h.1⟩
 | e :: l,x :: l',i+1,e',h,hx=>by
  obtain ⟨y,a,b⟩:=eA.get (i:=i) h.2 (by simpa using hx)
  exact ⟨y,by simpa using a,b⟩
theorem eA.filter {γ:Gm} (p:Nat→Bool):∀ {l l':List MapEntry},eA γ l l'→eA γ (l.filter fun e=>p e.born) (l'.filter fun e=>p e.born)
 | [],[],_=>trivial
 | [],_ :: _,h=>h.elim
 | _ :: _,[],h=>h.elim
 | e :: l,e' :: l',h=>by
  have ih:=eA.filter p h.2
  have hb:=h.1.2.2
  by_cases hp:p e.born=true
  ·have hp':p e'.born=true:=by rw [←hb];exact hp
   rw [List.filter_cons_of_pos (by simpa using hp),List.filter_cons_of_pos (by simpa using hp')]
   exact ⟨h.1,ih⟩
  ·have hp':¬ p e'.born=true:=by rw [←hb];exact hp
   rw [List.filter_cons_of_neg (by simpa using hp),List.filter_cons_of_neg (by simpa using hp')]
   exact ih
theorem eA.append {γ:Gm}:∀ {a a' b b':List MapEntry},eA γ a a'→eA γ b b'→eA γ (a++b) (a'++b')
 | [],[],_,_,_,h=>h
 | [],_ :: _,_,_,h,_=>h.elim
 | _ :: _,[],_,_,h,_=>h.elim
 | _ :: _,_ :: _,_,_,h,k=>⟨h.1,eA.append h.2 k⟩
theorem eA.findIdx {γ:Gm} (p:Nat→Bool):∀ {l l':List MapEntry},eA γ l l'→(l.findIdx? fun e=>p e.born)=l'.findIdx? fun e=>p e.born
 | [],[],_=>rfl
 | [],_ :: _,h=>h.elim
 | _ :: _,[],h=>h.elim
 | e :: l,e' :: l',h=>by
  rw [List.findIdx?_cons,List.findIdx?_cons,h.1.2.2,eA.findIdx p h.2]
theorem eA.find {γ:Gm} (p:Nat→Bool):∀ {l l':List MapEntry},eA γ l l' →
  match l.find? (fun e=>p e.born) with
  | none=>l'.find? (fun e=>p e.born)=none
  | some e=>∃ e',l'.find? (fun e=>p e.born)=some e'∧VR γ e.key e'.key∧VR γ e.val e'.val∧e.born=e'.born
 | [],[],_=>rfl
 | [],_ :: _,h=>h.elim
 | _ :: _,[],h=>h.elim
 | e :: l,e' :: l',h=>by
  have hb:=h.1.2.2
  cases hp:p e.born with
  | true =>
   rw [List.find?_cons_of_pos (by simpa using hp),List.find?_cons_of_pos (by rw [←hb];simpa using hp)]
   exact ⟨e',rfl,h.1⟩
  | false =>
   rw [List.find?_cons_of_neg (by simp [hp]),List.find?_cons_of_neg (by rw [←hb];simp [hp])]
   exact eA.find p h.2
theorem pI (h:HR γ g w) {t:TypeId} {m m' s s' x x':Value} {e:bG} (ho:cw m s x g=some e) (hm:VR γ m m') (hs:VR γ s s') (hx:VR γ x x') :
  aD T.P γ g w n (do Instr.entryStore t m' s' x';Pure.pure Next.skip) undef e:=by
 unfold cw at ho
 cases hb:fB m with
 | none=>rw [hb] at ho;simp at ho
 | some r =>
  cases hi:intOf? s with
  | none=>rw [hb,hi] at ho;simp at ho
  | some born =>
   cases hmp:map? (g r) with
   | none=>rw [hb,hi] at ho;simp only [hmp] at ho;cases ho
   | some q =>
    obtain ⟨es,c⟩:=q
    rw [hb,hi] at ho
    simp only [hmp] at ho
    obtain ⟨b,es',rfl,hl,hB,hw,he,hgo⟩:=fm h hb hmp hm
    obtain ⟨kk,rfl⟩:=rJ hi
    obtain rfl:=hs.cx rfl
    cases hf:es.findIdx? (fun e=>(e.born:Int) == born) with
    | none=>rw [hf] at ho;cases ho
    | some i =>
     rw [hf] at ho
     simp only [Option.some.injEq] at ho
     subst ho
     have hf':es'.findIdx? (fun e=>(e.born:Int) == born)=some i:=by
      have:=eA.findIdx (fun k=>(k:Int) == born) he.list
      rw [hf] at this
      obtain ⟨l⟩:=es'
      rw [List.findIdx?_toArray]
      exact this.symm
     have hmod:gO γ (es.modify i fun e=>{e with val:=x}) (es'.modify i fun e=>{e with val:=x'}) :=
      he.modify i _ _ fun a a' h1 h2=>by obtain ⟨y,_,zz⟩:=he.2 i a a' h1 h2;exact ⟨y,hx,zz⟩
     obtain ⟨q1,q2,q3⟩:=nZ (c2:=c) h hmp hl hB hw hmod
     refine ⟨undef,_,γ,.inr ⟨nQ ?_,rfl⟩,Gm.Le.refl γ,fun _ _=>rfl,q1,VR.undef γ,q2⟩
     simp [Instr.entryStore,hgo,asInt,asIntOf,hf',q3]
theorem qN (hT:bL T) (h:HR γ g w) {t:TypeId} {m m' k k' x x':Value} {e:bG} (ho:dn T t m k x g=some e) (hm:VR γ m m') (hk:VR γ k k') (hx:VR γ x x') :
  aD T.P γ g w n (do Instr.mapUpdate t m' k' x';Pure.pure Next.skip) undef e:=by
 unfold dn at ho
 cases hmt:iG T t with
 | none=>rw [hmt] at ho;simp at ho
 | some p =>
  obtain ⟨kt,z⟩:=p
  cases hb:fB m with
  | none=>rw [hmt,hb] at ho;simp at ho
  | some r =>
   cases hmp:map? (g r) with
   | none=>rw [hmt,hb] at ho;simp only [hmp] at ho;cases ho
   | some q =>
    obtain ⟨es,c⟩:=q
    rw [hmt,hb] at ho
    simp only [hmp] at ho
    obtain ⟨b,es',rfl,hl,hB,hw,he,hgo⟩:=fm h hb hmp hm
    obtain ⟨et,hu,hz⟩:=nk hT hmt
    unfold kE at ho
    cases hf:k7 T.P false kt k es with
    | none=>rw [hf] at ho;simp at ho
    | some r' =>
     obtain ⟨rfl,hck,hfk⟩:=pH hf he hk
     have hflk:flat k'=true:=by
      unfold k7 at hf
      cases hc:(flat k' && es.all fun e=>flat e.key) with
      | false=>rw [hc] at hf;cases hf
      | true=>simp only [Bool.and_eq_true] at hc;exact hc.1
     cases r' with
     | some i =>
      obtain ⟨y,y',he1,he2,hvv,hkk,hkf,hborn,hrun⟩:=hfk
      rw [hf] at ho
      simp only [he1] at ho
      cases hsb:Instr.sameBits 10000 y.key k' with
      | false=>rw [hsb] at ho;cases ho
      | true =>
       rw [hsb] at ho
       simp only [cond_true,Option.some.injEq] at ho
       subst ho
       have hmod:gO γ (es.modify i fun e=>{e with key:=k',val:=x}) (es'.modify i fun e=>{e with key:=k',val:=x'}) :=
        he.modify i _ _ fun a a' h1 h2=>by obtain ⟨_,_,zz⟩:=he.2 i a a' h1 h2;exact ⟨VR.of_flat hflk,hx,zz⟩
       obtain ⟨q1,q2,q3⟩:=nZ (c2:=c) h hmp hl hB hw hmod
       refine ⟨undef,_,γ,.inr ⟨nQ ?_,rfl⟩,Gm.Le.refl γ,fun _ _=>rfl,q1,VR.undef γ,q2⟩
       have hstay:(Instr.keyThatStays y'.key k').run T.P w=.ok k' w:=by simp [Instr.keyThatStays,hkk,hsb]
       simp [Instr.mapUpdate,bQ hu,hgo,hck,hrun,he2,hstay,q3]
     | none =>
      rw [hf] at ho
      simp only [Option.some.injEq] at ho
      subst ho
      have hpush:gO γ (es++[{key:=k',val:=x,born:=c}]) (es'.push {key:=k',val:=x',born:=c}):=he.push ⟨VR.of_flat hflk,hx,rfl⟩
      obtain ⟨q1,q2,q3⟩:=nZ (c2:=c+1) h hmp hl hB hw hpush
      refine ⟨undef,_,γ,.inr ⟨nQ ?_,rfl⟩,Gm.Le.refl γ,fun _ _=>rfl,q1,VR.undef γ,q2⟩
      simp [Instr.mapUpdate,bQ hu,hgo,hck,hfk,q3]
theorem vt (h:HR γ g w) (hn:γ.loc n=none) {t:TypeId} :
  aD T.P γ g w n (do Pure.pure (Next.value (←Instr.makeMap t none))) (.map (some n)) (.new (.map [] 0)):=by
 have hle:=Gm.kG (b:=w.heap.size) (c:=0) hn
 refine ⟨.map (some w.heap.size),w.alloc (.map #[] 0),γ.add n w.heap.size 0,.inl (aF (by simp [Instr.makeMap])),hle,fun k hk=>Gm.aN _ _ _ (fun e=>Bool.noConfusion (hk e:true=false)),?_,VR.map (Gm.bl _ _ _ _),jh.new (obj:=_) rfl rfl rfl rfl⟩
 refine HR.new (w:=w) h hn (obj:=_) rfl ⟨rfl,h.base,#[],?_,rfl,by simp⟩
 show (w.heap.push _)[w.heap.size]?=_
 simp
theorem zI (h:HR γ g w) {it it':Value} {r m since last c:Nat} {seen:List Nat} {es:List MapEntry} (ha:addr? it=some (r,0)) (hg:g r=some (.iter m since seen last))
  (hm:map? (g m)=some (es,c)) (hv:VR γ it it') :
  ∃ b bm es',it'=.pointer (some ⟨b,0,none⟩)∧γ.loc r=some (b,0)∧γ.B≤b∧γ.loc m=some (bm,0)∧w.heap[b]?=some (.mapIter (some bm) since seen.toArray last) ∧
   w.heap[bm]?=some (.map es' c)∧gO γ es es':=by
 obtain ⟨b,d,hl,rfl⟩:=hv.addr ha
 obtain ⟨rfl,hB,bm,hlm,hw⟩:=h.fG r b d _ hg hl
 obtain ⟨_,_,es',hw',he⟩:=h.fG m bm 0 _ (map_some hm) hlm
 exact ⟨b,bm,es',rfl,hl,hB,hlm,hw,hw',he⟩
theorem wU (h:HR γ g w) {it it' v:Value} {e:bG} (ho:pz it g=some (v,e)) (hv:VR γ it it') :
  aD T.P γ g w n (do Pure.pure (Next.value (←Instr.entry it'))) v e:=by
 unfold pz at ho
 split at ho
 ·rename_i r ha
  cases hg:g r with
  | none=>rw [hg] at ho;cases ho
  | some fG =>
   rw [hg] at ho
   cases fG with
   | iter m since seen stepped =>
    simp only at ho
    cases hs:seen.getLast? with
    | none=>rw [hs] at ho;simp at ho
    | some stamp =>
     cases hm:map? (g m) with
     | none=>rw [hs,hm] at ho;simp at ho
     | some q =>
      obtain ⟨es,clock⟩:=q
      rw [hs,hm] at ho
      simp only at ho
      cases hc:Nat.beq clock stepped with
      | false=>rw [hc] at ho;cases ho
      | true =>
       rw [hc] at ho
       simp only [cond_true,Option.map_eq_some_iff,Prod.mk.injEq] at ho
       obtain ⟨x,hx,rfl,rfl⟩:=ho
       have hcc:=Nat.eq_of_beq_eq_true hc
       subst hcc
       obtain ⟨b,bm,es',rfl,hl,hB,hlm,hw,hw',he⟩:=zI h ha hg hm hv
       have hf:=eA.find (fun k=>k == stamp) he.list
       rw [hx] at hf
       obtain ⟨x',h1,h2,h3,_⟩:=hf
       have h1':es'.find? (fun e=>e.born == stamp)=some x':=by rw [←Array.find?_toList];exact h1
       have hg1:(getObj b).run T.P w=.ok (.mapIter (some bm) since seen.toArray clock) w:=by simp [getObj,Sem.run,hw]
       have hg2:(getObj bm).run T.P w=.ok (.map es' clock) w:=by simp [getObj,Sem.run,hw']
       have hback:seen.toArray.back?=some stamp:=by simpa using hs
       refine .pure h (aF (v:=.tuple #[x'.key,x'.val]) ?_) (VR.cE (.cons h2 (.cons h3 (.nil γ))))
       simp [Instr.entry,hg1,hg2,hback,h1']
   | _=>cases ho
 ·cases ho
theorem yL (h:HR γ g w) {it it':Value} {ty:TypeId} {L:List (Value × bG)} (ho:nM it g=some L) (hv:VR γ it it') :
  ∃ v e,(v,e) ∈ L∧aD T.P γ g w n (do Pure.pure (Next.value (←Instr.next it' false ty))) v e:=by
 unfold nM at ho
 split at ho
 ·rename_i r
  cases hg:g r with
  | none=>rw [hg] at ho;cases ho
  | some fG =>
   rw [hg] at ho
   cases fG with
   | iter m since seen last =>
    simp only at ho
    cases hm:map? (g m) with
    | none=>rw [hm] at ho;cases ho
    | some q =>
     obtain ⟨es,clock⟩:=q
     rw [hm] at ho
     simp only at ho
     obtain ⟨b,bm,es',rfl,hl,hB,hlm,hw,hw',he⟩:=zI h rfl hg hm hv
     have hg1:(getObj b).run T.P w=.ok (.mapIter (some bm) since seen.toArray last) w:=by simp [getObj,Sem.run,hw]
     have hg2:(getObj bm).run T.P w=.ok (.map es' clock) w:=by simp [getObj,Sem.run,hw']
     unfold ru at ho
     cases hgone:(!seen.isEmpty && !es.isEmpty && es.all (fun e=>Nat.ble last e.born)) with
     | true=>rw [hgone] at ho;cases ho
     | false =>
      rw [hgone] at ho
      simp only [cond_false,Option.some.injEq] at ho
      subst ho
      have hleft:eA γ (es.filter fun e=>!seen.contains e.born) (es'.filter fun e=>!seen.toArray.contains e.born).toList:=by
       rw [Array.toList_filter]
       have:=eA.filter (fun k=>!seen.contains k) he.list
       simpa using this
      have hold:eA γ ((es.filter fun e=>!seen.contains e.born).filter fun e=>decide (e.born < since)) ((es'.filter fun e=>!seen.toArray.contains e.born).filter (·.born < since)).toList:=by
       rw [Array.toList_filter]
       exact eA.filter (fun k=>decide (k < since)) hleft
      have hnew:eA γ ((es.filter fun e=>!seen.contains e.born).filter fun e=>decide (e.born ≥ since)) ((es'.filter fun e=>!seen.toArray.contains e.born).filter (·.born ≥ since)).toList:=by
       rw [Array.toList_filter]
       exact eA.filter (fun k=>decide (k ≥ since)) hleft
      have hgone':(!seen.toArray.isEmpty && !es'.isEmpty && es'.all (·.born ≥ last))=false:=by
       have h1:es'.all (·.born ≥ last)=es.all (fun e=>Nat.ble last e.born):=by
        rw [←Array.all_toList]
        have:∀ {l l':List MapEntry},eA γ l l'→l'.all (fun e=>decide (e.born ≥ last))=l.all (fun e=>Nat.ble last e.born):=by
         intro l
         induction l with
         | nil=>intro l' hh;cases l' with
          | nil=>rfl
          | cons=>exact hh.elim
         | cons a l ih=>intro l' hh;cases l' with
          | nil=>exact hh.elim
          | cons a' l' =>
           simp only [List.all_cons,ih hh.2,ble_eq,←hh.1.2.2]
        exact this he.list
       rw [h1,he.empty]
       have h2:seen.toArray.isEmpty=seen.isEmpty:=by cases seen <;> rfl
       rw [h2];exact hgone
      generalize hO:(es.filter fun e=>!seen.contains e.born).filter (fun e=>decide (e.born < since))=old at hold ⊢
      generalize hN:(es.filter fun e=>!seen.contains e.born).filter (fun e=>decide (e.born ≥ since))=new at hnew ⊢
      generalize hO':(es'.filter fun e=>!seen.toArray.contains e.born).filter (·.born < since)=old' at hold
      generalize hN':(es'.filter fun e=>!seen.toArray.contains e.born).filter (·.born ≥ since)=new' at hnew
      have hboth:=hold.append hnew
      have hempty:old'.isEmpty=old.isEmpty:=by
       have:=hold.len
       cases old with
       | nil =>
        have hz:old'=#[]:=Array.eq_empty_of_size_eq_zero (by simpa using this.symm)
        subst hz;rfl
       | cons a l =>
        cases hx:old'.isEmpty with
        | false=>rfl
        | true =>
         have hz:old'=#[]:=by simpa using hx
         subst hz
         simp at this
      let cand:Array (Option MapEntry):=(if old'.isEmpty then #[none] else #[])++(old'++new').map some
      have hpos:0 < cand.size:=by
       show 0 < ((if old'.isEmpty then #[none] else #[])++(old'++new').map some).size
       cases hx:old'.isEmpty with
       | true=>simp;omega
       | false =>
        have:0 < old'.size:=by
         rcases Nat.eq_zero_or_pos old'.size with h0|h0
         ·have:old'=#[]:=Array.eq_empty_of_size_eq_zero h0
          subst this;simp at hx
         ·exact h0
        simp;omega
      obtain ⟨i,w1,hi,hw1,hch⟩:∃ i w1,i < cand.size∧(w1=w∨w1=w.drew)∧(choose (.mapNext cand.size)).run T.P w=.ok i w1:=by
       by_cases hf:cand.size≤1
       ·refine ⟨0,w,hpos,.inl rfl,?_⟩
        simp [choose,Sem.run,Question.forced,hf]
       ·refine ⟨_,w.drew,Nat.mod_lt (w.tape w.drawn (.mapNext cand.size)) hpos,.inr rfl,?_⟩
        have hf':decide (cand.size≤1)=false:=decide_eq_false hf
        simp only [choose,Sem.run,Question.forced,hf',Bool.false_eq_true,if_false,Question.cut]
        rfl
      have hw1h:w1.heap=w.heap:=by rcases hw1 with rfl|rfl <;> rfl
      have hw1o:w1.os=w.os∧w1.tape=w.tape∧w1.output=w.output:=by rcases hw1 with rfl|rfl <;> exact ⟨rfl,rfl,rfl⟩
      have hH1:HR γ g w1:=h.same hw1h
      have hU1:jh γ g w γ g w1:=jh.heap hw1h hw1o.1 hw1o.2.1 hw1o.2.2
      obtain ⟨x,hx⟩:∃ x,cand[i]?=some x:=⟨_,Array.getElem?_eq_getElem hi⟩
      have hmain:∀ u wu,(match x with
        | some e=>(do setObj b (.mapIter (some bm) since (seen.toArray.push e.born) clock);Pure.pure (.tuple #[.bool true,e.key,e.val]):Sem Value)
        | none=>Pure.pure (.tuple #[.bool false])).run T.P w1=.ok u wu→(Instr.next (.pointer (some ⟨b,0,none⟩)) false ty).run T.P w=.ok u wu:=by
       intro u wu hu
       have hx':((if old'.isEmpty=true then #[none] else #[])++Array.map some (old'++new'))[i]?=some x:=hx
       simp only [Instr.next,Sem.run_bind,hg1,Result.andThen_ok,hg2,hgone',Bool.false_eq_true,if_false,hO',hN']
       have hch':(choose (.mapNext ((if old'.isEmpty=true then #[none] else #[])++Array.map some (old'++new')).size)).run T.P w=.ok i w1:=hch
       rw [hch']
       simp only [Result.andThen_ok,hx']
       cases x with
       | none=>exact hu
       | some e=>simpa using hu
      by_cases hover:old'.isEmpty=true∧i=0
      ·
       obtain ⟨ho1,rfl⟩:=hover
       have hxn:x=none:=by
        have hx':((if old'.isEmpty=true then #[none] else #[])++Array.map some (old'++new'))[0]?=some x:=hx
        rw [if_pos ho1] at hx'
        rw [Array.getElem?_append_left (by simp)] at hx'
        simpa using hx'.symm
       subst hxn
       refine ⟨.tuple #[.bool false],.none,?_,?_⟩
       ·rw [←hempty,ho1];simp
       ·refine ⟨.tuple #[.bool false],w1,γ,.inl (aF (hmain _ _ rfl)),Gm.Le.refl γ,fun _ _=>rfl,hH1,VR.cE (l:=[.bool false]) (bu.of_flat rfl),hU1⟩
      ·
       obtain ⟨j,e',hj,rfl⟩:∃ (j:Nat) (e':MapEntry),(old'.toList++new'.toList)[j]?=some e'∧x=some e':=by
        have hx':((if old'.isEmpty=true then #[none] else #[])++Array.map some (old'++new'))[i]?=some x:=hx
        cases hox:old'.isEmpty with
        | true =>
         rw [hox] at hx' hover
         simp only [if_true] at hx'
         have hi0:i ≠ 0:=fun e=>hover ⟨rfl,e⟩
         rw [Array.getElem?_append_right (by simp;omega)] at hx'
         simp only [List.size_toArray,List.length_cons,List.length_nil,Array.getElem?_map] at hx'
         obtain ⟨e',h1,h2⟩:=Option.map_eq_some_iff.1 hx'
         exact ⟨i - 1,e',by rw [←Array.toList_append,Array.getElem?_toList];simpa using h1,h2.symm⟩
        | false =>
         rw [hox] at hx'
         simp only [Bool.false_eq_true,if_false,Array.empty_append,Array.getElem?_map] at hx'
         obtain ⟨e',h1,h2⟩:=Option.map_eq_some_iff.1 hx'
         exact ⟨i,e',by rw [←Array.toList_append,Array.getElem?_toList];exact h1,h2.symm⟩
       obtain ⟨e,he1,hk,hvv,hborn⟩:=hboth.get hj
       have hset:(setObj b (.mapIter (some bm) since (seen.toArray.push e'.born) clock)).run T.P w1=.ok () {w1 with heap:=w1.heap.setIfInBounds b (.mapIter (some bm) since (seen.toArray.push e'.born) clock)}:=by
        simp [setObj,Sem.run,hw1h,hw]
       have hwb:w1.heap[b]?=some (.mapIter (some bm) since seen.toArray last):=by rw [hw1h];exact hw
       have hltb:b < w1.heap.size:=(Array.getElem?_eq_some_iff.1 hwb).1
       obtain ⟨q1,q2,_⟩:=vp (a:=.iter m since (seen++[e.born]) clock) (obj:=.mapIter (some bm) since (seen.toArray.push e'.born) clock) hH1 hg rfl hl hwb rfl
        ⟨rfl,hB,bm,hlm,by rw [hborn];simp [hltb]⟩
       refine ⟨.tuple #[.bool true,e.key,e.val],.put r (.iter m since (seen++[e.born]) clock),?_,?_⟩
       ·refine List.mem_append.2 (.inr ?_)
        exact List.mem_map.2 ⟨e,List.mem_of_getElem? he1,rfl⟩
       ·refine ⟨.tuple #[.bool true,e'.key,e'.val],_,γ,.inl (aF (hmain _ _ (by simp only [Sem.run_bind,hset,Result.andThen_ok,Sem.run_pure]))),Gm.Le.refl γ,fun _ _=>rfl,q1,
         VR.cE (.cons (.flat rfl) (.cons hk (.cons hvv (.nil γ)))),?_⟩
        exact hU1.trans q2
   | _=>cases ho
 ·cases ho
end
end Go.RM
namespace Go.RM
open Go.RowKit
section
variable {T : bf} {γ : Gm} {g : ax} {w : World} {n : Nat}
theorem bu.map {ρ ρ':Operand→Value} {l:List Operand} (h:∀ x ∈ l,VR γ (ρ x) (ρ' x)):bu γ (l.map ρ) (l.map ρ'):=by
 refine ⟨by simp,fun i v v' a b=>?_⟩
 rw [List.getElem?_map] at a b
 obtain ⟨x,hx,rfl⟩:=Option.map_eq_some_iff.1 a
 rw [hx] at b
 simp at b
 subst b
 exact h x (List.mem_of_getElem? hx)
theorem gP.map {ρ ρ':Operand→Value} {l:List (Nat × Operand)} (h:∀ x ∈ l,VR γ (ρ x.2) (ρ' x.2)):gP γ (l.map fun (i,x)=>(i,ρ x)) (l.map fun (i,x)=>(i,ρ' x)):=by
 refine ⟨by simp,fun i p p' a b=>?_⟩
 rw [List.getElem?_map] at a b
 obtain ⟨x,hx,rfl⟩:=Option.map_eq_some_iff.1 a
 rw [hx] at b
 simp at b
 subst b
 exact ⟨rfl,h x (List.mem_of_getElem? hx)⟩
theorem tI.map {ρ ρ':Operand→Value} {x:Option Operand} (h:∀ y,x=some y→VR γ (ρ y) (ρ' y)):tI γ (x.map ρ) (x.map ρ'):=by
 cases x with
 | none=>trivial
 | some y=>exact h y rfl
theorem tI.bZ {a b:Option Value} (h:tI γ a b) (hf:a.toList.all flat=true):b=a:=by
 cases a with
 | none=>cases b with
  | none=>rfl
  | some _=>exact h.elim
 | some x=>cases b with
  | none=>exact h.elim
  | some y=>simp at hf;rw [VR.bZ h hf]
theorem tL (hT:bL T) (h:HR γ g w) {b:Builtin} {l l':List Value} {tys:List TypeId} {ty:TypeId} {cs:Array Bool} {v:Value} {e:bG}
  (hn:e.news=true→γ.loc n=none) (ho:fJ T n b l tys g=some (v,e)) (hl:bu γ l l'):aD T.P γ g w n (builtin b tys.toArray ty cs l'.toArray) v e:=by
 unfold fJ at ho
 have two:∀ {x y:Value},bu γ [x,y] l'→∃ x' y',l'=[x',y']∧VR γ x x'∧VR γ y y':=fun {x y} hh=>by
  match l',hh with
  | [x',y'],hh=>exact ⟨x',y',rfl,hh.2 0 _ _ rfl rfl,hh.2 1 _ _ rfl rfl⟩
  | [],hh=>exact absurd hh.1 (by simp)
  | [_],hh=>exact absurd hh.1 (by simp)
  | _ :: _ :: _ :: _,hh=>exact absurd hh.1 (by simp)
 have one:∀ {x:Value},bu γ [x] l'→∃ x',l'=[x']∧VR γ x x':=fun {x} hh=>by
  match l',hh with
  | [x'],hh=>exact ⟨x',rfl,hh.2 0 _ _ rfl rfl⟩
  | [],hh=>exact absurd hh.1 (by simp)
  | _ :: _ :: _,hh=>exact absurd hh.1 (by simp)
 split at ho
 ·split at ho
  ·obtain ⟨x',rfl,hx⟩:=one hl
   exact wR hT h ho hx
  ·cases ho
 ·exact AJ h ho hl
 ·exact AK h ho hl
 ·split at ho
  ·rename_i s x t u
   obtain ⟨s',x',rfl,hs,hx⟩:=two hl
   split at ho
   ·rename_i hty
    obtain ⟨i,_,_,_,_,hu,_⟩:=hT.ty u _ hty
    exact vo hT h hu hn ho hs hx
   ·cases ho
  ·cases ho
 ·cases ho
theorem wV (hT:bL T) (h:HR γ g w) {ρ ρ':Operand→Value} {o:Oper} {v:Value} {e:bG}
  (hn:e.news=true→γ.loc n=none) (ho:iK T n o.op ρ g=some (v,e)) (hρ:∀ x ∈ o.op.operands,VR γ (ρ x) (ρ' x)):aD T.P γ g w n (execOp ρ' o) v e:=by
 obtain ⟨dst,op,ty,pos,after,guard⟩:=o
 simp only at ho hρ
 cases op <;> simp only [iK] at ho
 case move x =>
  simp only [Option.some.injEq,Prod.mk.injEq] at ho
  obtain ⟨rfl,rfl⟩:=ho
  exact .pure h rfl (hρ x (by simp [Op.operands]))
 case assign x =>
  simp only [Option.some.injEq,Prod.mk.injEq] at ho
  obtain ⟨rfl,rfl⟩:=ho
  exact .pure h rfl (hρ x (by simp [Op.operands]))
 case pick c a b=>exact yK h ho (hρ c (by simp [Op.operands])) (hρ a (by simp [Op.operands])) (hρ b (by simp [Op.operands]))
 case alloc t=>exact wO hT h hn ho
 case box t x=>exact AF h hn ho (hρ x (by simp [Op.operands]))
 case build t parts =>
  have:=wQ (n:=n) hT h ho (gP.map (ρ:=ρ) (ρ':=ρ') (l:=parts.toList) fun x hx=>hρ x.2 (by simp [Op.operands];exact ⟨x.1,by simpa using hx⟩))
  have e1:(parts.toList.map fun (i,x)=>(i,ρ' x)).toArray=parts.map fun (i,x)=>(i,ρ' x):=by apply Array.ext';simp
  rw [e1] at this
  exact this
 case buildSlice t len parts =>
  have:=pG hT h hn ho (gP.map (ρ:=ρ) (ρ':=ρ') (l:=parts.toList) fun x hx=>hρ x.2 (by simp [Op.operands];exact ⟨x.1,by simpa using hx⟩))
  have e1:(parts.toList.map fun (i,x)=>(i,ρ' x)).toArray=parts.map fun (i,x)=>(i,ρ' x):=by apply Array.ext';simp
  rw [e1] at this
  exact this
 case load t a=>exact yJ hT h ho (hρ a (by simp [Op.operands]))
 case store t a x=>exact wN hT h ho (hρ a (by simp [Op.operands])) (hρ x (by simp [Op.operands]))
 case fieldAddr t a i=>exact qH hT h ho (hρ a (by simp [Op.operands]))
 case indexAddr t a ix=>exact qI hT h ho (hρ a (by simp [Op.operands])) (hρ ix (by simp [Op.operands]))
 case index t a ix =>
  cases hf:(flat (ρ a) && flat (ρ ix)) with
  | false=>rw [hf] at ho;cases ho
  | true =>
   rw [hf] at ho
   simp only [Bool.and_eq_true] at hf
   have:=aD.reckon (n:=n) h ho
   rw [←(hρ a (by simp [Op.operands])).bZ hf.1,←(hρ ix (by simp [Op.operands])).bZ hf.2] at this
   exact this
 case field t a i =>
  cases hf:flat (ρ a) with
  | false=>rw [hf] at ho;cases ho
  | true =>
   rw [hf] at ho
   have:=aD.reckon (n:=n) h ho
   rw [←(hρ a (by simp [Op.operands])).bZ hf] at this
   exact this
 case binOp o t x y yt=>exact AH h ho (hρ x (by simp [Op.operands])) (hρ y (by simp [Op.operands]))
 case unOp o t x =>
  cases hf:flat (ρ x) with
  | false=>rw [hf] at ho;cases ho
  | true =>
   rw [hf] at ho
   have:=aD.reckon (n:=n) h ho
   rw [←(hρ x (by simp [Op.operands])).bZ hf] at this
   exact this
 case convert s d x =>
  cases hf:flat (ρ x) with
  | false=>rw [hf] at ho;cases ho
  | true =>
   rw [hf] at ho
   have:=aD.reckon (n:=n) h ho
   rw [←(hρ x (by simp [Op.operands])).bZ hf] at this
   exact this
 case makeInterface t x =>
  cases hf:flat (ρ x) with
  | false=>rw [hf] at ho;cases ho
  | true =>
   rw [hf] at ho
   have:=aD.reckon (n:=n) h ho
   rw [←(hρ x (by simp [Op.operands])).bZ hf] at this
   exact this
 case extract x i=>exact tG h ho (hρ x (by simp [Op.operands]))
 case makeFunc fn first captured =>
  have:=rK (T:=T) (n:=n) h ho (bu.map (ρ:=ρ) (ρ':=ρ') (l:=first.toList) fun x hx=>hρ x (by simp [Op.operands];exact .inl (by simpa using hx)))
   (bu.map (ρ:=ρ) (ρ':=ρ') (l:=captured.toList) fun x hx=>hρ x (by simp [Op.operands];exact .inr (by simpa using hx)))
  have e1:(first.toList.map ρ').toArray=first.map ρ':=by apply Array.ext';simp
  have e2:(captured.toList.map ρ').toArray=captured.map ρ':=by apply Array.ext';simp
  rw [e1,e2] at this
  exact this
 case nilCheck x =>
  obtain ⟨a,hx,rfl,rfl⟩:=rL ho
  have hv:=hρ x (by simp [Op.operands])
  rw [hx] at hv
  have hp:∃ a',ρ' x=.pointer (some a'):=by
   generalize ρ' x=y at hv
   cases hv with
   | flat hf=>exact ⟨a,rfl⟩
   | ptr=>exact ⟨_,rfl⟩
  obtain ⟨a',ha'⟩:=hp
  refine .pure h (v':=.pointer (some a')) ?_ (by rw [←ha'];exact hv)
  simp [execOp,ha']
 case slice t x lo hi mx =>
  cases mx with
  | some _=>cases ho
  | none =>
   simp only at ho
   have hvx:=hρ x (by simp [Op.operands])
   have rlo:=tI.map (γ:=γ) (ρ:=ρ) (ρ':=ρ') (x:=lo) fun y hy=>hρ y (by subst hy;simp [Op.operands])
   have rhi:=tI.map (γ:=γ) (ρ:=ρ) (ρ':=ρ') (x:=hi) fun y hy=>hρ y (by subst hy;simp [Op.operands])
   show aD T.P γ g w n (do Pure.pure (Next.value (←Instr.sliceAt t (ρ' x) (lo.map ρ') (hi.map ρ') none))) v e
   unfold eZ at ho
   split at ho
   ·rename_i s hs
    cases hf:((lo.map ρ).toList.all flat && (hi.map ρ).toList.all flat) with
    | false=>rw [hf] at ho;cases ho
    | true =>
     rw [hf] at ho
     simp only [Bool.and_eq_true] at hf
     rw [rlo.bZ hf.1,rhi.bZ hf.2,hvx.bZ (by rw [hs];rfl)]
     exact aD.reckon h ho
   ·simp only [Option.map_eq_some_iff,Prod.mk.injEq] at ho
    obtain ⟨u,hu,rfl,rfl⟩:=ho
    exact wS hT h hu hvx rlo rhi
 case makeSlice t l c=>exact qL hT h hn ho (hρ l (by simp [Op.operands])) (hρ c (by simp [Op.operands]))
 case makeMap t r =>
  cases r with
  | some _=>cases ho
  | none =>
   simp only [Option.some.injEq,Prod.mk.injEq] at ho
   obtain ⟨rfl,rfl⟩:=ho
   exact vt h (hn rfl)
 case lookup t m k ok =>
  simp only [Option.map_eq_some_iff,Prod.mk.injEq] at ho
  obtain ⟨u,hu,rfl,rfl⟩:=ho
  exact vr hT h hu (hρ m (by simp [Op.operands])) (hρ k (by simp [Op.operands]))
 case mapEntry t m k=>exact rP hT h ho (hρ m (by simp [Op.operands])) (hρ k (by simp [Op.operands]))
 case entryStore t m s x =>
  simp only [Option.map_eq_some_iff,Prod.mk.injEq] at ho
  obtain ⟨u,hu,rfl,rfl⟩:=ho
  exact pI h hu (hρ m (by simp [Op.operands])) (hρ s (by simp [Op.operands])) (hρ x (by simp [Op.operands]))
 case mapUpdate t m k x =>
  simp only [Option.map_eq_some_iff,Prod.mk.injEq] at ho
  obtain ⟨u,hu,rfl,rfl⟩:=ho
  exact qN hT h hu (hρ m (by simp [Op.operands])) (hρ k (by simp [Op.operands])) (hρ x (by simp [Op.operands]))
 case range t x=>exact tJ hT h hn ho (hρ x (by simp [Op.operands]))
 case next it s =>
  cases s with
  | false=>cases ho
  | true=>exact tK h ho (hρ it (by simp [Op.operands]))
 case entry it=>exact wU h ho (hρ it (by simp [Op.operands]))
 case call c =>
  obtain ⟨callee,args,tys⟩:=c
  unfold wJ at ho
  cases callee with
  | value f=>cases ho
  | invoke r m=>cases ho
  | builtin b =>
   simp only at ho
   have:=tL (ty:=ty) (cs:=args.map fun|.const _=>true|_=>false) hT h hn ho (bu.map (ρ:=ρ) (ρ':=ρ') (l:=args.toList) fun x hx=>hρ x (by simp [Op.operands,Call.operands];simpa using hx))
   have e1:(args.toList.map ρ').toArray=args.map ρ':=by apply Array.ext';simp
   rw [e1] at this
   have e2:execOp ρ' ⟨dst,.call ⟨.builtin b,args,tys⟩,ty,pos,after,guard⟩=builtin b tys ty (args.map fun|.const _=>true|_=>false) (args.map ρ'):=rfl
   rw [e2]
   simpa using this
 all_goals cases ho
end
end Go.RM
namespace Go.RM
def lG:Option aH→Bool
 | some (.loop ..)=>true
 | _=>false
def uD (g:ax):bG→Prop
 | .put k _|.app k _=>g k ≠ none∧lG (g k)=false
 | _=>True
def zJ (l:List Nat):bG→Prop
 | .put k _|.app k _=>k ∈ l
 | _=>True
section
variable {T : bf} {n : Nat} {g g' : ax}
theorem wW {k:Nat} {x:List Value × Bool × Nat} (h:cells? (g k)=some x):g k ≠ none∧lG (g k)=false:=by
 generalize g k=b at h
 cases b with
 | none=>cases h
 | some b=>cases b <;> first|exact ⟨by simp,rfl⟩|cases h
theorem rQ {k:Nat} {x:List MapEntry × Nat} (h:map? (g k)=some x):g k ≠ none∧lG (g k)=false:=by
 generalize g k=b at h
 cases b with
 | none=>cases h
 | some b=>cases b <;> first|exact ⟨by simp,rfl⟩|cases h
theorem pJ {v:Value} {k o:Nat} (h:addr? v=some (k,o)):k ∈ ck v:=by rw [uB h];simp [ck]
theorem fL {v:Value} {k:Nat} (h:fB v=some k):k ∈ ck v:=by rw [rO h];simp [ck]
def oa (g:ax) (l:List Nat) (e:bG):Prop:=uD g e∧zJ l e
theorem eO {o:Option Value} {v:Value} {e:bG} {l:List Nat} (h:cr o=some (v,e)):oa g l e:=by
 obtain ⟨_,_,rfl⟩:=nj h
 exact ⟨trivial,trivial⟩
theorem yM {t:TypeId} {a x v:Value} {e:bG} (h:iH T t a x g=some (v,e)):oa g (ck a) e:=by
 unfold iH at h
 split at h
 ·rename_i k o ha
  cases hc:cells? (g k) with
  | none=>rw [hc] at h;cases h
  | some c =>
   obtain ⟨cs,own,es⟩:=c
   cases ht:T.ty.get t with
   | none=>rw [hc,ht] at h;cases h
   | some r =>
    obtain ⟨jg,s,bytes,zero,agg,bE,cY⟩:=r
    rw [hc,ht] at h
    simp only at h
    cases hb:(own && Nat.beq x.cells.toList.length s && Nat.ble (o+s) cs.length && x.cells.toList.all aQ) <;> rw [hb] at h
    ·cases h
    ·simp at h;obtain ⟨_,rfl⟩:=h;exact ⟨wW hc,pJ ha⟩
 ·cases h
theorem tM {t:TypeId} {m k v:Value} {e:bG} (h:dD T t m k g=some (v,e)):oa g (ck m) e:=by
 unfold dD at h
 split at h
 ·rename_i kt z r _ hr
  split at h
  ·rename_i es clock hm
   unfold jT at h
   split at h
   ·split at h
    ·rename_i x _
     cases hb:Instr.sameBits 10000 x.key k <;> rw [hb] at h
     ·cases h
     ·simp at h;obtain ⟨_,rfl⟩:=h;exact ⟨rQ hm,fL hr⟩
    ·cases h
   ·rename_i z _ _
    cases hb:flat z <;> rw [hb] at h
    ·cases h
    ·simp at h;obtain ⟨_,rfl⟩:=h;exact ⟨rQ hm,fL hr⟩
   ·cases h
  ·cases h
 ·cases h
theorem qO {m s v:Value} {e:bG} (h:cw m s v g=some e):oa g (ck m) e:=by
 unfold cw at h
 split at h
 ·rename_i r _ hr _
  split at h
  ·rename_i es clock hm
   split at h
   ·simp at h;subst h;exact ⟨rQ hm,fL hr⟩
   ·cases h
  ·cases h
 ·cases h
theorem rR {t:TypeId} {m k v:Value} {e:bG} (h:dn T t m k v g=some e):oa g (ck m) e:=by
 unfold dn at h
 split at h
 ·rename_i kt _ r _ hr
  split at h
  ·rename_i es clock hm
   unfold kE at h
   split at h
   ·split at h
    ·rename_i x _
     cases hb:Instr.sameBits 10000 x.key k <;> rw [hb] at h
     ·cases h
     ·simp at h;subst h;exact ⟨rQ hm,fL hr⟩
    ·cases h
   ·simp at h;subst h;exact ⟨rQ hm,fL hr⟩
   ·cases h
  ·cases h
 ·cases h
theorem wX {t:TypeId} {s x v:Value} {e:bG} (h:eL T n t s x g=some (v,e)):oa g (ck s) e:=by
 unfold eL at h
 split at h
 ·rename_i inf _
  split at h
  ·rename_i base ln cp
   split at h
   ·rename_i m old new _ _ _
    cases hb:(Nat.ble ((ln+m) * inf.bytes) 140737488355328 && Nat.ble (ln+m) 9223372036854775807 && new.all aQ && aZ inf) <;> rw [hb] at h
    ·cases h
    ·simp only [cond_true] at h
     cases hm:Nat.beq m 0 <;> rw [hm] at h
     ·simp only [cond_false] at h
      unfold fH at h
      cases hc:Nat.beq cp ln <;> rw [hc] at h
      ·simp only [cond_false] at h
       split at h
       ·rename_i k
        split at h
        ·rename_i cs own es hcs
         cases hd:(own && Nat.beq cp (ln+1) && Nat.beq cs.length (ln * inf.size) && Nat.beq es inf.size) <;> rw [hd] at h
         ·cases h
         ·simp at h;obtain ⟨_,rfl⟩:=h;exact ⟨wW hcs,by simp [ck,zJ]⟩
        ·cases h
       ·cases h
      ·simp at h;obtain ⟨_,rfl⟩:=h;exact ⟨trivial,trivial⟩
     ·simp at h;obtain ⟨_,rfl⟩:=h;exact ⟨trivial,trivial⟩
   ·cases h
  ·cases h
 ·cases h
theorem rS {it v:Value} {e:bG} (h:iI it g=some (v,e)):uD g e:=by
 unfold iI at h
 split at h
 ·rename_i r _
  split at h
  ·rename_i s pos hr
   cases hb:Nat.blt pos s.data.toList.length <;> rw [hb] at h
   ·simp at h;obtain ⟨_,rfl⟩:=h;trivial
   ·simp at h;obtain ⟨_,rfl⟩:=h;exact ⟨by rw [hr];simp,by rw [hr];rfl⟩
  ·cases h
 ·cases h
theorem BH {P:Program} {l:List Value} {v:Value} {e:bG} {ks:List Nat} (h:vi P l=some (v,e)):oa g ks e:=by
 unfold vi at h
 split at h
 ·simp at h;obtain ⟨_,rfl⟩:=h;exact ⟨trivial,trivial⟩
 ·cases hb:l.all flat <;> rw [hb] at h
  ·cases h
  ·exact eO h
theorem BI {P:Program} {l:List Value} {v:Value} {e:bG} {ks:List Nat} (h:vj P l=some (v,e)):oa g ks e:=by
 unfold vj at h
 split at h
 ·simp at h;obtain ⟨_,rfl⟩:=h;exact ⟨trivial,trivial⟩
 ·cases hb:l.all flat <;> rw [hb] at h
  ·cases h
  ·exact eO h
theorem yN {t:TypeId} {x v:Value} {e:bG} {ks:List Nat} (h:iJ T t x g=some (v,e)):oa g ks e:=by
 unfold iJ at h
 split at h
 ·simp at h;obtain ⟨_,rfl⟩:=h;exact ⟨trivial,trivial⟩
 ·split at h
  ·simp at h;obtain ⟨_,rfl⟩:=h;exact ⟨trivial,trivial⟩
  ·cases h
 ·simp at h;obtain ⟨_,rfl⟩:=h;exact ⟨trivial,trivial⟩
 ·simp at h;obtain ⟨_,rfl⟩:=h;exact ⟨trivial,trivial⟩
 ·cases h
def AL (o:Op) (ρ:Operand→Value):List Nat :=
 match o with
 | .store _ a _=>ck (ρ a)
 | .mapEntry _ m _=>ck (ρ m)
 | .entryStore _ m _ _=>ck (ρ m)
 | .mapUpdate _ m _ _=>ck (ρ m)
 | .call ⟨.builtin .append,args,_⟩=>match args.toList.map ρ with
  | [s,_]=>ck s
  | _=>[]
 | _=>[]
theorem cR {ks:List Nat}:oa g ks .none:=⟨trivial,trivial⟩
theorem kJ {ks:List Nat} {b:aH}:oa g ks (.new b):=⟨trivial,trivial⟩
theorem ob {o:Op} {ρ:Operand→Value} {v:Value} {e:bG} (h:iK T n o ρ g=some (v,e)):uD g e∧((∀ it,o ≠ .next it true)→zJ (AL o ρ) e):=by
 have key:∀ {ks:List Nat},oa g ks e→AL o ρ=ks→uD g e∧((∀ it,o ≠ .next it true)→zJ (AL o ρ) e):=fun hk he=>⟨hk.1,fun _=>by rw [he];exact hk.2⟩
 cases o <;> simp only [iK] at h
 case move x=>simp at h;obtain ⟨_,rfl⟩:=h;exact key cR rfl
 case assign x=>simp at h;obtain ⟨_,rfl⟩:=h;exact key cR rfl
 case pick c a b =>
  unfold qo at h
  split at h
  ·simp at h;obtain ⟨_,rfl⟩:=h;exact key cR rfl
  ·cases h
 case alloc t =>
  unfold pg at h
  split at h
  ·rename_i z _ _ _ _
   cases hb:z.cells.toList.all aL <;> rw [hb] at h
   ·cases h
   ·simp at h;obtain ⟨_,rfl⟩:=h;exact key kJ rfl
  ·cases h
 case box t x =>
  unfold Az at h
  cases hb:(ρ x).cells.toList.all aQ <;> rw [hb] at h
  ·cases h
  ·simp at h;obtain ⟨_,rfl⟩:=h;exact key kJ rfl
 case build t parts =>
  unfold ni at h
  split at h
  ·rename_i z _ _ _
   cases hb:z.cells.toList.all aL <;> rw [hb] at h
   ·cases h
   ·simp only [cond_true,Option.map_eq_some_iff,Prod.mk.injEq] at h
    obtain ⟨_,_,_,rfl⟩:=h
    exact key cR rfl
  ·cases h
 case buildSlice t len parts =>
  unfold fC at h
  split at h
  ·rename_i inf _
   cases hb:(Nat.ble (len * inf.size) 65536 && aZ inf) <;> rw [hb] at h
   ·cases h
   ·simp only [cond_true] at h
    split at h
    ·simp at h;obtain ⟨_,rfl⟩:=h;exact key kJ rfl
    ·cases h
  ·cases h
 case load t a =>
  unfold fI at h
  split at h
  ·split at h
   ·rename_i s _ _ agg _ _ _ _
    cases agg
    ·simp only [cond_false,Option.map_eq_some_iff,Prod.mk.injEq] at h
     obtain ⟨_,_,_,rfl⟩:=h
     exact key cR rfl
    ·simp only [cond_true,Option.map_eq_some_iff,Prod.mk.injEq] at h
     obtain ⟨_,_,_,rfl⟩:=h
     exact key cR rfl
   ·cases h
  ·cases h
 case store t a x=>exact key (yM h) rfl
 case fieldAddr t a i =>
  unfold cP at h
  split at h
  ·split at h
   ·rename_i s _
    cases hb:Nat.ble 1 s <;> rw [hb] at h
    ·cases h
    ·simp at h;obtain ⟨_,rfl⟩:=h;exact key cR rfl
   ·cases h
  ·cases h
 case indexAddr t a ix =>
  have hi:∀ {cY k o len:Nat} {j:Int},mH cY k o len j=some (v,e)→oa g [] e:=by
   intro cY k o len j h
   unfold mH at h
   cases hb:(Bw 0 j && AA j (.ofNat len)) <;> rw [hb] at h
   ·cases h
   ·simp at h;obtain ⟨_,rfl⟩:=h;exact cR
  unfold cQ at h
  split at h
  ·split at h
   ·exact key (hi h) rfl
   ·cases h
  ·split at h
   ·exact key (hi h) rfl
   ·cases h
  ·cases h
 case index t a ix =>
  cases hb:(flat (ρ a) && flat (ρ ix)) <;> rw [hb] at h
  ·cases h
  ·exact key (eO h) rfl
 case field t a i =>
  cases hb:flat (ρ a) <;> rw [hb] at h
  ·cases h
  ·exact key (eO h) rfl
 case binOp o t x y yt =>
  have hs:∀ {a b:Value},dB T.P o t x y a b=some (v,e)→oa g [] e:=by
   intro a b h
   unfold dB at h
   cases hb:(flat a && flat b) <;> rw [hb] at h
   ·cases h
   ·exact eO h
  unfold eU at h
  split at h
  ·split at h
   ·simp at h;obtain ⟨_,rfl⟩:=h;exact key cR rfl
   ·exact key (hs h) rfl
  ·exact key (hs h) rfl
 case unOp o t x =>
  cases hb:flat (ρ x) <;> rw [hb] at h
  ·cases h
  ·exact key (eO h) rfl
 case convert s d x =>
  cases hb:flat (ρ x) <;> rw [hb] at h
  ·cases h
  ·exact key (eO h) rfl
 case makeInterface t x =>
  cases hb:flat (ρ x) <;> rw [hb] at h
  ·cases h
  ·exact key (eO h) rfl
 case extract x i =>
  unfold eC at h
  split at h
  ·simp only [Option.map_eq_some_iff,Prod.mk.injEq] at h
   obtain ⟨_,_,_,rfl⟩:=h
   exact key cR rfl
  ·cases h
 case makeFunc fn first captured =>
  unfold jU at h
  split at h
  ·simp at h;obtain ⟨_,rfl⟩:=h;exact key cR rfl
  ·cases h
 case nilCheck x =>
  unfold fZ at h
  split at h
  ·simp at h;obtain ⟨_,rfl⟩:=h;exact key cR rfl
  ·cases h
 case slice t x lo hi mx =>
  cases mx with
  | some _=>cases h
  | none =>
   simp only at h
   unfold eZ at h
   split at h
   ·cases hb:((lo.map ρ).toList.all flat && (hi.map ρ).toList.all flat) <;> rw [hb] at h
    ·cases h
    ·exact key (eO h) rfl
   ·simp only [Option.map_eq_some_iff,Prod.mk.injEq] at h
    obtain ⟨_,_,_,rfl⟩:=h
    exact key cR rfl
 case makeSlice t l c =>
  unfold fY at h
  split at h
  ·rename_i inf _
   split at h
   ·rename_i l c _ _
    cases hb:(Nat.ble l c && Nat.ble (inf.bytes * c) 140737488355328 && Nat.ble c 9223372036854775807 && aZ inf) <;> rw [hb] at h
    ·cases h
    ·simp at h;obtain ⟨_,rfl⟩:=h;exact key kJ rfl
   ·cases h
  ·cases h
 case makeMap t r =>
  cases r with
  | some _=>cases h
  | none=>simp at h;obtain ⟨_,rfl⟩:=h;exact key kJ rfl
 case lookup t m k ok =>
  simp only [Option.map_eq_some_iff,Prod.mk.injEq] at h
  obtain ⟨_,_,_,rfl⟩:=h
  exact key cR rfl
 case mapEntry t m k=>exact key (tM h) rfl
 case entryStore t m s x =>
  simp only [Option.map_eq_some_iff,Prod.mk.injEq] at h
  obtain ⟨_,hu,_,rfl⟩:=h
  exact key (qO hu) rfl
 case mapUpdate t m k x =>
  simp only [Option.map_eq_some_iff,Prod.mk.injEq] at h
  obtain ⟨_,hu,_,rfl⟩:=h
  exact key (rR hu) rfl
 case range t x =>
  unfold pq at h
  split at h
  ·split at h
   ·simp at h;obtain ⟨_,rfl⟩:=h;exact key kJ rfl
   ·cases h
  ·simp at h;obtain ⟨_,rfl⟩:=h;exact key kJ rfl
  ·cases h
 case next it s =>
  cases s with
  | false=>cases h
  | true=>exact ⟨rS h,fun hn=>absurd rfl (hn it)⟩
 case entry it =>
  unfold pz at h
  split at h
  ·split at h
   ·split at h
    ·rw [cond_eq_ite] at h
     split at h <;> rename_i hb
     ·simp only [Option.map_eq_some_iff,Prod.mk.injEq] at h
      obtain ⟨_,_,_,rfl⟩:=h
      exact key cR rfl
     ·cases h
    ·cases h
   ·cases h
  ·cases h
 case call c =>
  obtain ⟨callee,args,tys⟩:=c
  unfold wJ at h
  cases callee with
  | value f=>cases h
  | invoke r m=>cases h
  | builtin b =>
   simp only at h
   unfold fJ at h
   split at h
   ·split at h
    ·exact key (yN (ks:=[]) h) rfl
    ·cases h
   ·exact key (BH (ks:=[]) h) rfl
   ·exact key (BI (ks:=[]) h) rfl
   ·split at h
    ·rename_i s x t u ha _
     split at h
     ·refine key (wX h) ?_
      unfold AL
      simp only [ha]
     ·cases h
    ·cases h
   ·cases h
 all_goals cases h
theorem wY {it:Value} {L:List (Value × bG)} (h:nM it g=some L):∀ p ∈ L,uD g p.2:=by
 unfold nM at h
 split at h
 ·rename_i r
  split at h
  ·rename_i m since seen last hr
   split at h
   ·rename_i es clock hm
    unfold ru at h
    intro p hp
    cases hb:(!seen.isEmpty && !es.isEmpty && es.all (fun e=>Nat.ble last e.born)) with
    | true=>rw [hb] at h;cases h
    | false =>
     rw [hb] at h
     simp only [cond_false,Option.some.injEq] at h
     subst h
     rcases List.mem_append.1 hp with hp|hp
     ·revert hp
      generalize (List.filter (fun e=>decide (e.born < since)) (List.filter (fun e=>!seen.contains e.born) es))=old
      cases old with
      | nil=>simp only [List.isEmpty_nil,cond_true,List.mem_singleton];intro e;subst e;trivial
      | cons=>simp
     ·obtain ⟨x,_,rfl⟩:=List.mem_map.1 hp
      exact ⟨by rw [hr];simp,by rw [hr];rfl⟩
   ·cases h
  ·cases h
 ·cases h
theorem lH {size:Nat} {v:Value} (h:∀ k ∈ ck v,g' k=g k):aS g' size v=aS g size v:=by
 unfold aS
 split
 ·rfl
 ·rw [h _ (by simp [ck])]
 ·rfl
theorem tN {t:TypeId} {s x:Value} (hs:∀ k ∈ ck s,g' k=g k) (hx:∀ k ∈ ck x,g' k=g k):eL T n t s x g'=eL T n t s x g:=by
 unfold eL
 have e1:∀ size,aS g' size x=aS g size x:=fun _=>lH hx
 have e2:∀ size,aS g' size s=aS g size s:=fun _=>lH hs
 simp only [e1,e2]
 split
 ·split
  ·rename_i base ln cp
   have hb:∀ inf m old new,fH n inf base ln cp m old new g'=fH n inf base ln cp m old new g:=by
    intro inf m old new
    unfold fH
    split
    ·rename_i k
     rw [hs k (by simp [ck])]
    ·rfl
   simp only [hb]
  ·rfl
 ·rfl
theorem wZ {t:TypeId} {a:Value} (h:∀ k ∈ ck a,g' k=g k):fI T t a g'=fI T t a g:=by
 unfold fI
 cases ha:addr? a with
 | none=>rfl
 | some p=>simp only;rw [h p.1 (pJ (o:=p.2) ha)]
theorem vu {t:TypeId} {a v:Value} (h:∀ k ∈ ck a,g' k=g k):iH T t a v g'=iH T t a v g:=by
 unfold iH
 cases ha:addr? a with
 | none=>rfl
 | some p=>simp only;rw [h p.1 (pJ (o:=p.2) ha)]
theorem tO {t:TypeId} {m k:Value} {ok:Bool} (h:∀ k ∈ ck m,g' k=g k):jl T t m k ok g'=jl T t m k ok g:=by
 unfold jl
 cases hm:fB m with
 | none=>rfl
 | some r=>simp only [Option.bind_some];rw [h r (fL hm)]
theorem qP {t:TypeId} {m k:Value} (h:∀ k ∈ ck m,g' k=g k):dD T t m k g'=dD T t m k g:=by
 unfold dD
 cases hm:fB m with
 | none=>cases iG T t <;> rfl
 | some r=>cases iG T t with
  | none=>rfl
  | some p=>simp only [h r (fL hm)]
theorem oc {m s v:Value} (h:∀ k ∈ ck m,g' k=g k):cw m s v g'=cw m s v g:=by
 unfold cw
 cases hm:fB m with
 | none=>rfl
 | some r=>cases intOf? s with
  | none=>rfl
  | some p=>simp only [h r (fL hm)]
theorem pK {t:TypeId} {m k v:Value} (h:∀ k ∈ ck m,g' k=g k):dn T t m k v g'=dn T t m k v g:=by
 unfold dn
 cases hm:fB m with
 | none=>cases iG T t <;> rfl
 | some r=>cases iG T t with
  | none=>rfl
  | some p=>simp only [h r (fL hm)]
theorem vv {t:TypeId} {x:Value} (h:∀ k ∈ ck x,g' k=g k):iJ T t x g'=iJ T t x g:=by
 unfold iJ
 split
 ·rfl
 ·rw [h _ (by simp [ck])]
 ·rfl
 ·rfl
 ·rfl
theorem uE {o:Op} {ρ:Operand→Value} {r wr:List Nat} (ht:mN o ρ=some (r,wr)) (hr:∀ k ∈ r,g' k=g k) (hw:∀ k ∈ wr,g' k=g k):iK T n o ρ g'=iK T n o ρ g:=by
 cases o <;> simp only [iK] <;> simp only [mN,Option.some.injEq,Prod.mk.injEq,reduceCtorEq] at ht
 case load t a=>obtain ⟨rfl,rfl⟩:=ht;exact wZ hr
 case store t a x=>obtain ⟨rfl,rfl⟩:=ht;exact vu hw
 case lookup t m k ok=>obtain ⟨rfl,rfl⟩:=ht;rw [tO hr]
 case mapEntry t m k=>obtain ⟨rfl,rfl⟩:=ht;exact qP hw
 case entryStore t m s x=>obtain ⟨rfl,rfl⟩:=ht;rw [oc hw]
 case mapUpdate t m k x=>obtain ⟨rfl,rfl⟩:=ht;rw [pK hw]
 case makeMap t r=>cases r <;> rfl
 case slice t x lo hi mx=>cases mx <;> rfl
 case call c =>
  obtain ⟨callee,args,tys⟩:=c
  cases callee with
  | value f=>rfl
  | invoke r m=>rfl
  | builtin b =>
   unfold wJ fJ
   simp only
   cases b <;> try rfl
   case len =>
    simp only at ht
    split at ht
    ·rename_i x hx
     simp only [Option.some.injEq,Prod.mk.injEq] at ht
     obtain ⟨rfl,rfl⟩:=ht
     rw [hx]
     cases tys.toList with
     | nil=>rfl
     | cons t l=>cases l with
      | nil=>exact vv hr
      | cons=>rfl
    ·cases ht
   case append =>
    simp only at ht
    split at ht
    ·rename_i s x hx
     simp only [Option.some.injEq,Prod.mk.injEq] at ht
     obtain ⟨rfl,rfl⟩:=ht
     rw [hx]
     have e1:∀ t,eL T n t s x g'=eL T n t s x g:=fun _=>tN hw hr
     cases tys.toList with
     | nil=>rfl
     | cons t l=>cases l with
      | nil=>rfl
      | cons u l2=>cases l2 with
       | nil=>simp only [e1]
       | cons=>rfl
    ·cases ht
theorem rT {o:Op} {ρ:Operand→Value} {r wr:List Nat} (ht:mN o ρ=some (r,wr)):(∀ it,o ≠ .next it true)∧AL o ρ=wr:=by
 refine ⟨fun it e=>(by subst e;cases ht),?_⟩
 cases o <;> simp only [mN,Option.some.injEq,Prod.mk.injEq,reduceCtorEq] at ht <;> try (exact ht.2)
 case call c =>
  obtain ⟨callee,args,tys⟩:=c
  cases callee with
  | value f=>simp only [Option.some.injEq,Prod.mk.injEq] at ht;exact ht.2
  | invoke r m=>simp only [Option.some.injEq,Prod.mk.injEq] at ht;exact ht.2
  | builtin b =>
   cases b <;> try (simp only [Option.some.injEq,Prod.mk.injEq] at ht;exact ht.2)
   case len =>
    simp only at ht
    split at ht
    ·simp only [Option.some.injEq,Prod.mk.injEq] at ht;exact ht.2
    ·cases ht
   case append =>
    simp only at ht
    split at ht
    ·rename_i s x hx
     simp only [Option.some.injEq,Prod.mk.injEq] at ht
     simp only [AL,hx];exact ht.2
    ·cases ht
end
end Go.RM
namespace Go.RM
def Wf (h:Hp):Prop:=∀ k,h.n≤k→h.get k=none
structure dc (a b:Hp):Prop where
 n:a.n≤b.n
 lo:b.lo≤a.lo
 same:∀ k,k < a.n→k < b.lo→b.get k=a.get k
 wf:Wf a→Wf b
 loop:Wf a→∀ k,lG (a.get k)=true→lG (b.get k)=true
theorem dc.refl (a:Hp):dc a a:=⟨Nat.le_refl _,Nat.le_refl _,fun _ _ _=>rfl,id,fun _ _ h=>h⟩
theorem dc.trans {a b c:Hp} (h:dc a b) (k:dc b c):dc a c :=
 ⟨Nat.le_trans h.n k.n,Nat.le_trans k.lo h.lo,fun i hi hl=>(k.same i (Nat.lt_of_lt_of_le hi h.n) hl).trans (h.same i hi (Nat.lt_of_lt_of_le hl k.lo)),fun hw=>k.wf (h.wf hw),fun hw i hi=>k.loop (h.wf hw) i (h.loop hw i hi)⟩
theorem dc.push (a:Hp) (b:aH):dc a (a.push b) :=
 ⟨Nat.le_succ _,Nat.le_refl _,fun k hk _=>by rw [Hp.dI,if_neg (by omega)],fun hw k hk=>by
  have hk':a.n+1≤k:=hk
  rw [Hp.dI,if_neg (by omega)];exact hw k (by omega),fun hw k hk=>by
  have hne:k ≠ a.n:=fun e=>by rw [hw k (by omega)] at hk;cases hk
  rw [Hp.dI,if_neg hne];exact hk⟩
theorem dc.put (a:Hp) (i:Nat) (b:aH) (hi:a.get i ≠ none) (hl:lG (a.get i)=true→lG (some b)=true):dc a (a.put i b) :=
 ⟨Nat.le_refl _,Nat.min_le_left _ _,fun k _ hl=>by
  have:k < i:=Nat.lt_of_lt_of_le hl (Nat.min_le_right _ _)
  rw [Hp.hU,if_neg (by omega)],fun hw k hk=>by
  have hk':a.n≤k:=hk
  rw [Hp.hU,if_neg (fun e=>hi (by rw [←e];exact hw k hk'))];exact hw k hk',fun _ k hk=>by
  rw [Hp.hU]
  split
  ·rename_i e
   rw [e] at hk
   exact hl hk
  ·exact hk⟩
theorem dc.app (a:Hp) (e:bG) (he:uD a.get e):dc a (a.app e):=by
 cases e with
 | none=>exact .refl a
 | new b=>exact .push a b
 | put k b=>exact .put a k b he.1 (fun h=>by rw [he.2] at h;cases h)
 | app k b=>exact (dc.put a k .dead he.1 (fun h=>by rw [he.2] at h;cases h)).trans (dc.push _ _)
section bind
variable {α β : Type}
theorem uF (f:α→Option (List β)):bX [] f=some []:=rfl
theorem ei (a:α) (f:α→Option (List β)):bX [a] f=f a:=rfl
theorem iQ (a b:α) (l:List α) (f:α→Option (List β)):bX (a :: b :: l) f=match f a with
 | some x=>(bX (b :: l) f).map (x++·)
 | none=>none:=rfl
theorem bH {f:α→Option (List β)}:∀ {L:List α} {M:List β},bX L f=some M→∀ a ∈ L,∃ Ma,f a=some Ma∧∀ b ∈ Ma,b ∈ M
 | [],_,_,a,ha=>by cases ha
 | [x],M,h,a,ha=>by
  rw [ei] at h
  obtain rfl:=List.mem_singleton.1 ha
  exact ⟨M,h,fun _ hb=>hb⟩
 | x :: y :: l,M,h,a,ha=>by
  rw [iQ] at h
  cases hx:f x with
  | none=>rw [hx] at h;cases h
  | some X =>
   rw [hx] at h
   simp only [Option.map_eq_some_iff] at h
   obtain ⟨Y,hY,rfl⟩:=h
   rcases List.mem_cons.1 ha with rfl|ha
   ·exact ⟨X,hx,fun b hb=>List.mem_append.2 (.inl hb)⟩
   ·obtain ⟨Ma,h1,h2⟩:=bH hY a ha
    exact ⟨Ma,h1,fun b hb=>List.mem_append.2 (.inr (h2 b hb))⟩
theorem fo {f:α→Option (List β)}:∀ {L:List α} {M:List β},bX L f=some M→∀ b ∈ M,∃ a ∈ L,∃ Ma,f a=some Ma∧b ∈ Ma
 | [],M,h,b,hb=>by rw [uF] at h;cases h;cases hb
 | [x],M,h,b,hb=>by
  rw [ei] at h
  exact ⟨x,by simp,M,h,hb⟩
 | x :: y :: l,M,h,b,hb=>by
  rw [iQ] at h
  cases hx:f x with
  | none=>rw [hx] at h;cases h
  | some X =>
   rw [hx] at h
   simp only [Option.map_eq_some_iff] at h
   obtain ⟨Y,hY,rfl⟩:=h
   rcases List.mem_append.1 hb with hb|hb
   ·exact ⟨x,by simp,X,hx,hb⟩
   ·obtain ⟨a,ha,Ma,h1,h2⟩:=fo hY b hb
    exact ⟨a,List.mem_cons_of_mem _ ha,Ma,h1,h2⟩
theorem w4 {f:α→Option (List β)} {L:List α} {M:List β} (h:bX L f=some M) (hL:L ≠ []) (hf:∀ a ∈ L,∀ Ma,f a=some Ma→Ma ≠ []):M ≠ []:=by
 cases L with
 | nil=>exact absurd rfl hL
 | cons a l =>
  obtain ⟨Ma,h1,h2⟩:=bH h a (by simp)
  have:=hf a (by simp) Ma h1
  cases Ma with
  | nil=>exact absurd rfl this
  | cons x _=>intro e;subst e;exact absurd (h2 x (by simp)) (by simp)
end bind
def pe.hp:pe→Hp
 | .call _ _ h=>h
 | .round _ _ h=>h
 | .loop _ st=>st.hp
def fc.hp:fc→Hp
 | .ret _ h=>h
 | .out _ st=>st.hp
def Good (a:Hp) {β:Type} (f:β→Hp) (M:List β):Prop:=M ≠ []∧∀ b ∈ M,dc a (f b)
def aJ (rec:pe→Option (List fc)):Prop:=∀ j L,rec j=some L→Good j.hp fc.hp L
theorem Good.one {a:Hp} {β:Type} {f:β→Hp} {b:β} (h:dc a (f b)):Good a f [b]:=⟨by simp,fun x hx=>by obtain rfl:=List.mem_singleton.1 hx;exact h⟩
theorem Good.bind {a:Hp} {α β:Type} {f:α→Hp} {f':β→Hp} {L:List α} {M:List β} {k:α→Option (List β)} (h:bX L k=some M) (hL:Good a f L) (hk:∀ x,∀ Mx,k x=some Mx→Good (f x) f' Mx):Good a f' M :=
 ⟨w4 h hL.1 fun x _ Mx hx=>(hk x Mx hx).1,fun b hb=>by
  obtain ⟨x,hx,Mx,h1,h2⟩:=fo h b hb
  exact (hL.2 x hx).trans ((hk x Mx h1).2 b h2)⟩
theorem Good.map {a:Hp} {α β:Type} {f:α→Hp} {f':β→Hp} {L:List α} {k:α→β} (hL:Good a f L) (hk:∀ x,f' (k x)=f x):Good a f' (L.map k) :=
 ⟨by intro e;exact hL.1 (List.map_eq_nil_iff.1 e),fun b hb=>by
  obtain ⟨x,hx,rfl⟩:=List.mem_map.1 hb
  rw [hk];exact hL.2 x hx⟩
section
variable {T : bf} {rec : pe → Option (List fc)}
theorem od (H:Hp) (g:Goal):(gz H g).hp=H:=by cases g <;> rfl
theorem BJ {it:Value} {g:ax} {L:List (Value × bG)} (h:nM it g=some L):L ≠ []:=by
 have key:∀ {r m since last clock:Nat} {seen:List Nat} {es:List MapEntry},ru r m since seen last es clock=some L→L ≠ []:=by
  intro r m since last clock seen es h
  unfold ru at h
  cases hb:(!seen.isEmpty && !es.isEmpty && es.all (fun e=>Nat.ble last e.born)) with
  | true=>rw [hb] at h;cases h
  | false =>
   rw [hb] at h
   simp only [cond_false,Option.some.injEq] at h
   rw [←h]
   generalize (es.filter fun e=>!seen.contains e.born).filter (fun e=>decide (e.born < since))=old
   cases old with
   | nil=>simp
   | cons x l=>simp
 unfold nM at h
 split at h
 ·split at h
  ·split at h
   ·exact key h
   ·cases h
  ·cases h
 ·cases h
theorem nq (hr:aJ rec) {o:Op} {st:St} {L:List (Value × Hp)} (h:eD T rec o st=some L):Good st.hp (fun p=>p.2) L:=by
 unfold eD at h
 split at h
 ·rename_i f args _
  split at h
  ·rename_i g _
   cases hj:rec (gz st.hp g) with
   | none=>rw [hj] at h;cases h
   | some R =>
    rw [hj] at h
    have:=hr _ _ hj
    rw [od] at this
    refine Good.bind h this fun x Mx hx=>?_
    cases x with
    | ret v hp=>simp only [valOf,Option.some.injEq] at hx;subst hx;exact .one (.refl _)
    | out e s=>cases hx
  ·cases h
 ·rename_i it _
  simp only [Option.map_eq_some_iff] at h
  obtain ⟨N,hN,rfl⟩:=h
  refine ⟨by intro e;exact BJ hN (List.map_eq_nil_iff.1 e),fun p hp=>?_⟩
  obtain ⟨⟨v,e⟩,hm,rfl⟩:=List.mem_map.1 hp
  exact dc.app _ _ (wY hN _ hm)
 ·split at h
  ·rename_i hop
   simp only [Option.some.injEq] at h
   subst h
   exact .one (dc.app _ _ (ob hop).1)
  ·cases h
theorem jo (ops:List Oper) (st:St):aR T rec ops [] st=some [st]:=rfl
theorem de (ops:List Oper) (o:Oper) (l:List Oper) (st:St):aR T rec ops (o :: l) st =
 cond (aX ops st.fr o.guard)
  (match eD T rec o.op st with
   | some L=>bX L fun p=>aR T rec ops l ⟨dX st.fr o.dst p.1,p.2,st.rd⟩
   | none=>none)
  (aR T rec ops l ⟨dX st.fr o.dst undef,st.hp,st.rd⟩):=rfl
theorem dU (hr:aJ rec) (ops:List Oper):∀ (l:List Oper) (st:St) (L:List St),aR T rec ops l st=some L→Good st.hp St.hp L∧∀ s ∈ L,s.rd=st.rd:=by
 intro l
 induction l with
 | nil=>intro st L h;rw [jo] at h;cases h;exact ⟨.one (.refl _),by simp⟩
 | cons o l ih =>
  intro st L h
  rw [de] at h
  cases hg:aX ops st.fr o.guard with
  | false=>rw [hg] at h;simp only [cond_false] at h;exact ih ⟨dX st.fr o.dst undef,st.hp,st.rd⟩ _ h
  | true =>
   rw [hg] at h
   simp only [cond_true] at h
   cases ha:eD T rec o.op st with
   | none=>rw [ha] at h;cases h
   | some A =>
    rw [ha] at h
    refine ⟨Good.bind h (nq hr ha) fun p Mx hx=>(ih _ _ hx).1,fun s hs=>?_⟩
    obtain ⟨p,_,Mx,h1,h2⟩:=fo h s hs
    exact (ih _ _ h1).2 s h2
theorem eP (ops:Array Oper) (i:Nat) (st:St) (acc:List Ev):bO T rec ops [] i st acc=cond (cX T ops acc) (some [st]) none:=rfl
theorem bN (ops:Array Oper) (o:Oper) (l:List Oper) (i:Nat) (st:St) (acc:List Ev):bO T rec ops (o :: l) i st acc =
 cond (aX ops.toList st.fr o.guard)
  (match aU T rec o.op i st with
   | some (v,hp,t)=>bO T rec ops l (i+1) ⟨dX st.fr o.dst v,hp,st.rd⟩ (⟨o,st,v,hp,t⟩ :: acc)
   | none=>none)
  (bO T rec ops l (i+1) ⟨dX st.fr o.dst undef,st.hp,st.rd⟩ (⟨o,st,undef,st.hp,⟨i,[],[],false,st.hp.n,st.hp.n⟩⟩ :: acc)):=rfl
theorem jq (hr:aJ rec) {o:Op} {i:Nat} {st:St} {v:Value} {hp:Hp} {t:Tc} (h:aU T rec o i st=some (v,hp,t)):dc st.hp hp:=by
 unfold aU at h
 split at h
 ·split at h
  ·rename_i g _
   split at h
   ·rename_i v' hp' hj
    cases hc:Nat.ble st.hp.n hp'.lo with
    | false=>rw [hc] at h;cases h
    | true =>
     rw [hc] at h
     simp only [cond_true,Option.some.injEq,Prod.mk.injEq] at h
     obtain ⟨rfl,rfl,rfl⟩:=h
     have:=hr _ _ hj
     rw [od] at this
     have hk:=this.2 _ (List.mem_singleton.2 rfl)
     have hle:=Nat.le_of_ble_eq_true hc
     exact ⟨hk.n,Nat.le_refl _,fun k hk1 _=>hk.same k hk1 (Nat.lt_of_lt_of_le hk1 hle),hk.wf,hk.loop⟩
   ·cases h
  ·cases h
 ·cases h
 ·split at h
  ·rename_i hop
   simp only [Option.some.injEq,Prod.mk.injEq] at h
   obtain ⟨_,rfl,_⟩:=h
   exact dc.app _ _ (ob hop).1
  ·cases h
theorem mP (hr:aJ rec) (ops:Array Oper):∀ (l:List Oper) (i:Nat) (st:St) (acc:List Ev) (L:List St),bO T rec ops l i st acc=some L→Good st.hp St.hp L∧∀ s ∈ L,s.rd=st.rd:=by
 intro l
 induction l with
 | nil =>
  intro i st acc L h
  rw [eP] at h
  cases hc:cX T ops acc with
  | false=>rw [hc] at h;cases h
  | true=>rw [hc] at h;simp at h;subst h;exact ⟨.one (.refl _),by simp⟩
 | cons o l ih =>
  intro i st acc L h
  rw [bN] at h
  cases hg:aX ops.toList st.fr o.guard with
  | false=>rw [hg] at h;simp only [cond_false] at h;exact ih _ ⟨dX st.fr o.dst undef,st.hp,st.rd⟩ _ _ h
  | true =>
   rw [hg] at h
   simp only [cond_true] at h
   cases ha:aU T rec o.op i st with
   | none=>rw [ha] at h;cases h
   | some p =>
    obtain ⟨v,hp,t⟩:=p
    rw [ha] at h
    have:=ih _ _ _ _ h
    have hk:=jq hr ha
    exact ⟨⟨this.1.1,fun s hs=>hk.trans (this.1.2 s hs)⟩,this.2⟩
theorem rU (st:St):aM T rec .skip st=some [(.normal,st)]:=rfl
theorem qq (l:Nat) (st:St):aM T rec (.label l) st=some [(.normal,st)]:=rfl
theorem jJ {ops:Array Oper} {st:St} {L:List St} (h:bP T rec ops st=some L):(∃ c,qG ops=some c∧zG T rec ops c st=some L)∨(qG ops=none∧∃ M,bO T rec ops (ops.toList.take (eV ops)) 0 st []=some M∧bX M (aR T rec ops.toList (ops.toList.drop (eV ops)))=some L):=by
 unfold bP at h
 split at h
 ·exact .inl ⟨_,by assumption,h⟩
 ·refine .inr ⟨by assumption,?_⟩
  split at h
  ·exact ⟨_,by assumption,h⟩
  ·cases h
theorem tP (ops:Array Oper) (K:St→List Ev→Option (List St)) (i:Nat) (st:St) (acc:List Ev):dF T rec ops [] K i st acc=K st acc:=rfl
theorem dL (ops:Array Oper) (K:St→List Ev→Option (List St)) (o:Oper) (l:List Oper) (i:Nat) (st:St) (acc:List Ev):dF T rec ops (o :: l) K i st acc =
 cond (aX ops.toList st.fr o.guard)
  (match aU T rec o.op i st with
   | some (v,hp,t)=>dF T rec ops l K (i+1) ⟨dX st.fr o.dst v,hp,st.rd⟩ (⟨o,st,v,hp,t⟩ :: acc)
   | none=>none)
  (dF T rec ops l K (i+1) ⟨dX st.fr o.dst undef,st.hp,st.rd⟩ (⟨o,st,undef,st.hp,⟨i,[],[],false,st.hp.n,st.hp.n⟩⟩ :: acc)):=rfl
theorem rV (hr:aJ rec) (ops:Array Oper) (K:St→List Ev→Option (List St)):∀ (l:List Oper) (i:Nat) (st:St) (acc:List Ev) (L:List St),dF T rec ops l K i st acc=some L→∃ st' acc',dc st.hp st'.hp∧st'.rd=st.rd∧K st' acc'=some L:=by
 intro l
 induction l with
 | nil=>intro i st acc L h;exact ⟨st,acc,.refl _,rfl,h⟩
 | cons o l ih =>
  intro i st acc L h
  rw [dL] at h
  cases hg:aX ops.toList st.fr o.guard with
  | false=>rw [hg] at h;simp only [cond_false] at h;exact ih _ ⟨dX st.fr o.dst undef,st.hp,st.rd⟩ _ _ h
  | true =>
   rw [hg] at h
   simp only [cond_true] at h
   cases ha:aU T rec o.op i st with
   | none=>rw [ha] at h;cases h
   | some p =>
    obtain ⟨v,hp,t⟩:=p
    rw [ha] at h
    obtain ⟨st',acc',h1,h2,h3⟩:=ih _ _ _ _ h
    exact ⟨st',acc',(jq hr ha).trans h1,h2,h3⟩
theorem fE {i:Nat} {st:St} {r:fc} {P:List (Value × Hp × Tc)} (h:rD i st r=some P):∃ v hp,r=.ret v hp∧Nat.ble st.hp.n hp.lo=true∧P=[(v,{hp with lo:=st.hp.lo},⟨i,[],[],true,st.hp.n,hp.n⟩)]:=by
 cases r with
 | ret v hp =>
  have h:(bif Nat.ble st.hp.n hp.lo then some [(v,({hp with lo:=st.hp.lo}:Hp),(⟨i,[],[],true,st.hp.n,hp.n⟩:Tc))] else none)=some P:=h
  cases hc:Nat.ble st.hp.n hp.lo with
  | false=>rw [hc] at h;cases h
  | true=>rw [hc] at h;simp only [cond_true,Option.some.injEq] at h;exact ⟨v,hp,rfl,hc,h.symm⟩
 | out e s=>cases h
theorem tQ (hr:aJ rec) {o:Op} {i:Nat} {st:St} {P:List (Value × Hp × Tc)} (h:cZ T rec o i st=some P):Good st.hp (fun p=>p.2.1) P:=by
 unfold cZ at h
 split at h
 ·split at h
  ·rename_i g _
   split at h
   ·rename_i R hj
    have:=hr _ _ hj
    rw [od] at this
    refine ⟨w4 h this.1 fun r _ Pr hp=>?_,fun p hp=>?_⟩
    ·obtain ⟨v,hp,_,_,rfl⟩:=fE hp
     simp
    ·obtain ⟨r,hrm,Pr,h1,h2⟩:=fo h p hp
     obtain ⟨v,hp',rfl,hc,rfl⟩:=fE h1
     obtain rfl:=List.mem_singleton.1 h2
     have hk:=this.2 _ hrm
     have hle:=Nat.le_of_ble_eq_true hc
     exact ⟨hk.n,Nat.le_refl _,fun k hk1 _=>hk.same k hk1 (Nat.lt_of_lt_of_le hk1 hle),hk.wf,hk.loop⟩
   ·cases h
  ·cases h
 ·cases h
theorem rW (hr:aJ rec) {ops:Array Oper} {o:Oper} {i:Nat} {st:St} {P:List (Value × Hp × Tc)} (h:gA T rec ops o i st=some P):Good st.hp (fun p=>p.2.1) P:=by
 unfold gA at h
 cases hg:aX ops.toList st.fr o.guard with
 | true =>
  rw [hg] at h
  exact tQ hr h
 | false =>
  rw [hg] at h
  simp only [cond_false,Option.some.injEq] at h
  subst h
  exact ⟨by simp,fun p hp=>by rw [List.mem_singleton.1 hp];exact .refl _⟩
theorem nr {ops:Array Oper} {c:Nat} {st:St} {acc:List Ev} {L:List St} (h:nP T rec ops c st acc=some L):∃ o P,ops.toList[c]?=some o∧gA T rec ops o c st=some P∧(∀ p ∈ P,cX T ops (⟨o,st,p.1,p.2.1,p.2.2⟩ :: acc)=true)∧(bX P fun p=>aR T rec ops.toList (ops.toList.drop (c+1)) ⟨dX st.fr o.dst p.1,p.2.1,st.rd⟩)=some L:=by
 unfold nP at h
 split at h
 ·rename_i o ho
  split at h
  ·rename_i P hP
   cases hq:P.all fun p=>cX T ops (⟨o,st,p.1,p.2.1,p.2.2⟩ :: acc) with
   | false=>rw [hq] at h;cases h
   | true =>
    rw [hq] at h
    exact ⟨o,P,ho,hP,List.all_eq_true.1 hq,h⟩
  ·cases h
 ·cases h
theorem yO (hr:aJ rec) (ops:Array Oper) (c:Nat) (st:St) (L:List St) (h:zG T rec ops c st=some L):Good st.hp St.hp L:=by
 obtain ⟨st',acc',h1,h2,h3⟩:=rV hr _ _ _ _ _ _ _ h
 obtain ⟨o,P,_,hP,_,hL⟩:=nr h3
 have hg:=rW hr hP
 have hg':Good st.hp (fun p:Value × Hp × Tc=>p.2.1) P:=⟨hg.1,fun p hp=>h1.trans (hg.2 p hp)⟩
 exact Good.bind hL hg' fun p Mx hx=>(dU hr _ _ _ _ hx).1
theorem tR (hr:aJ rec) (ops:Array Oper) (st:St) (L:List St) (h:bP T rec ops st=some L):Good st.hp St.hp L:=by
 rcases jJ h with ⟨c,_,h⟩|⟨_,M,h1,h2⟩
 ·exact yO hr _ _ _ _ h
 ·exact Good.bind h2 (mP hr _ _ _ _ _ _ h1).1 fun x Mx hx=>(dU hr _ _ _ _ hx).1
theorem eR (id:Nat) (ops:Array Oper) (draw:Bool) (st:St):aM T rec (.region id ops draw) st =
 match cond draw (bP T rec ops st) (aR T rec ops.toList ops.toList st) with
  | some L=>some (L.map fun s=>(.normal,s))
  | none=>none:=rfl
theorem l9 (a b:Code) (st:St):aM T rec (.seq a b) st=match aM T rec a st with
 | some L=>bX L (rE (aM T rec b))
 | none=>none:=rfl
theorem iR (c:Operand) (a b:Code) (st:St):aM T rec (.cond c a b) st=match aO st.fr c with
 | .bool t=>cond t (aM T rec a st) (aM T rec b st)
 | _=>none:=rfl
theorem jr (id:Nat) (c:Code) (st:St):aM T rec (.block id c) st=match aM T rec c st with
 | some L=>some (L.map (eM id))
 | none=>none:=rfl
theorem kK (c:Code) (st:St):aM T rec (.loop c) st=match rec (.loop c st) with
 | some L=>bX L wL
 | none=>none:=rfl
theorem rX (id:Nat) (st:St):aM T rec (.exit id) st=some [(.exit id,st)]:=rfl
theorem uG (st:St):aM T rec .ret st=some [(.ret,st)]:=rfl
theorem js (f:Operand) (ps:Array Tmp) (a b:Code) (st:St):aM T rec (.rangeFunc f ps a b) st=kF rec f ps a b st:=rfl
theorem jt (c:Code) (st:St):aM T rec (.scope c) st=rF (aM T rec c st):=rfl
theorem lI {o:Option (List (Exit × St))} {L:List (Exit × St)} (h:rF o=some L):o=some L∧∀ p ∈ L,∀ l,p.1 ≠ .goto l:=by
 unfold rF at h
 split at h
 ·rename_i M
  cases hb:M.all noGoto with
  | false=>rw [hb] at h;cases h
  | true =>
   rw [hb] at h
   simp only [cond_true,Option.some.injEq] at h
   subst h
   refine ⟨rfl,fun p hp l e=>?_⟩
   have:=List.all_eq_true.1 hb p hp
   unfold noGoto at this
   rw [e] at this
   cases this
 ·cases h
theorem rY (l:Nat) (st:St):aM T rec (.goto l) st=none:=rfl
theorem oe (y:String) (st:St):aM T rec (.refuse y) st=none:=rfl
theorem jK {l : Nat} {fr : Tr Value} {rd : Bool} {r : fc} {M : List (Exit × St)} (h : gB l fr rd r = some M) :
    ∃ v hp s pend fr0 ps as bd, r = .ret v hp ∧ hp.get l = some (.loop s pend fr0 ps as bd) ∧ s ≠ .busy ∧
      ((pend = none ∧ M = [(.normal, ⟨fr, hp.put l (.loop .exhausted pend fr0 ps as bd), rd⟩)]) ∨ (pend = some .ret ∧ M = [(.ret, ⟨fr, hp.put l (.loop .exhausted pend fr0 ps as bd), rd⟩)]) ∨
        ∃ id, pend = some (.exit id) ∧ M = [(.exit id, ⟨fr, hp.put l (.loop .exhausted pend fr0 ps as bd), rd⟩)]) := by
  cases r with
  | out e s => cases h
  | ret v hp =>
    unfold gB at h
    simp only at h
    split at h
    · rename_i s pend fr0 ps as bd hl
      refine ⟨v, hp, s, pend, fr0, ps, as, bd, rfl, hl, ?_⟩
      have hs : s ≠ .busy := fun e => by subst e; simp at h
      refine ⟨hs, ?_⟩
      cases pend with
      | none => cases s <;> simp at h hs ⊢ <;> exact h.symm
      | some c =>
        cases c with
        | ret => refine .inr (.inl ⟨rfl, ?_⟩); cases s <;> simp at h hs ⊢ <;> exact h.symm
        | exit id => refine .inr (.inr ⟨id, rfl, ?_⟩); cases s <;> simp at h hs ⊢ <;> exact h.symm
        | _ => cases s <;> simp at h
    · cases h
theorem gi (hr:aJ rec):∀ (c:Code) (st:St) (L:List (Exit × St)),aM T rec c st=some L→Good st.hp (fun p=>p.2.hp) L:=by
 intro c
 induction c with
 | skip=>intro st L h;rw [rU] at h;cases h;exact .one (.refl _)
 | label l=>intro st L h;rw [qq] at h;cases h;exact .one (.refl _)
 | exit id=>intro st L h;rw [rX] at h;cases h;exact .one (.refl _)
 | ret=>intro st L h;rw [uG] at h;cases h;exact .one (.refl _)
 | scope c ih=>intro st L h;rw [jt] at h;exact ih st L (lI h).1
 | goto l=>intro st L h;rw [rY] at h;cases h
 | refuse y=>intro st L h;rw [oe] at h;cases h
 | region id ops draw =>
  intro st L h
  rw [eR] at h
  cases draw with
  | true =>
   simp only [cond_true] at h
   cases hx:bP T rec ops st with
   | none=>rw [hx] at h;cases h
   | some R=>rw [hx] at h;simp only [Option.some.injEq] at h;subst h;exact (tR hr _ _ _ hx).map fun _=>rfl
  | false =>
   simp only [cond_false] at h
   cases hx:aR T rec ops.toList ops.toList st with
   | none=>rw [hx] at h;cases h
   | some R=>rw [hx] at h;simp only [Option.some.injEq] at h;subst h;exact (dU hr _ _ _ _ hx).1.map fun _=>rfl
 | seq a b iha ihb =>
  intro st L h
  rw [l9] at h
  cases hx:aM T rec a st with
  | none=>rw [hx] at h;cases h
  | some R =>
   rw [hx] at h
   refine Good.bind h (iha _ _ hx) fun p Mx hp=>?_
   unfold rE at hp
   split at hp
   ·exact ihb _ _ hp
   ·simp only [Option.some.injEq] at hp;subst hp;exact .one (.refl _)
 | cond c a b iha ihb =>
  intro st L h
  rw [iR] at h
  split at h
  ·rename_i t _
   cases t with
   | true=>exact iha _ _ h
   | false=>exact ihb _ _ h
  ·cases h
 | block id c ih =>
  intro st L h
  rw [jr] at h
  cases hx:aM T rec c st with
  | none=>rw [hx] at h;cases h
  | some R =>
   rw [hx] at h
   simp only [Option.some.injEq] at h
   subst h
   refine (ih _ _ hx).map fun p=>?_
   unfold eM
   split <;> rfl
 | loop c _ =>
  intro st L h
  rw [kK] at h
  cases hx:rec (.loop c st) with
  | none=>rw [hx] at h;cases h
  | some R =>
   rw [hx] at h
   refine Good.bind h (hr _ _ hx) fun p Mx hp=>?_
   cases p with
   | ret=>cases hp
   | out e s=>simp only [wL,Option.some.injEq] at hp;subst hp;exact .one (.refl _)
 | rangeFunc f ps a b _ _ =>
  intro st L h
  rw [js] at h
  unfold kF at h
  split at h
  ·rename_i g args _
   cases hx:rec (.call g args (st.hp.push (.loop .ready none st.fr ps a b))) with
   | none=>rw [hx] at h;cases h
   | some R =>
    rw [hx] at h
    have hk:=hr _ _ hx
    have hk':Good st.hp fc.hp R:=⟨hk.1,fun r hr'=>(dc.push _ _).trans (hk.2 r hr')⟩
    refine Good.bind h hk' fun p Mx hp=>?_
    obtain ⟨v,hp2,s,pend,fr0,ps',as',bd',rfl,hgt,_,h1|h1|⟨_,h1⟩⟩:=jK hp <;> (obtain ⟨_,rfl⟩:=h1;exact .one (dc.put hp2 _ _ (by rw [hgt];simp) (fun _=>rfl)))
  ·cases h
theorem iS (f:FuncId) (args:List Value) (hp:Hp):fK T rec (.call f args hp)=match T.fn.get f with
 | some fn=>match fn.body with
  | some c=>match aM T rec c ⟨setArgs .leaf 0 args,hp,false⟩ with
   | some L=>bX L (dS T fn.results.toList)
   | none=>none
  | none=>none
 | none=>none:=rfl
theorem lJ (l:Nat) (args:List Value) (hp:Hp):fK T rec (.round l args hp)=match hp.get l with
 | some (.loop .ready _ fr ps as bd)=>cond (Nat.beq args.length ps.toList.length)
  (match aM T rec as ⟨dG fr (ps.toList.zip args),hp,true⟩ with
  | some L=>bX L (bY T rec l bd)
  | none=>none) none
 | _=>none:=rfl
theorem nu (c:Code) (st:St):fK T rec (.loop c st)=match aM T rec c st with
 | some L=>bX L (dH rec c)
 | none=>none:=rfl
theorem kL {rs:List ResultVar} {p:Exit × St} {M:List fc} (h:dS T rs p=some M):(p.1=.normal∨p.1=.ret)∧∃ vs,jm T p.2.fr p.2.hp rs=some vs∧M=[.ret (cm vs) p.2.hp]:=by
 obtain ⟨e,s⟩:=p
 unfold dS at h
 cases e with
 | normal=>simp only [Option.map_eq_some_iff] at h;obtain ⟨vs,a,b⟩:=h;exact ⟨.inl rfl,vs,a,b.symm⟩
 | ret=>simp only [Option.map_eq_some_iff] at h;obtain ⟨vs,a,b⟩:=h;exact ⟨.inr rfl,vs,a,b.symm⟩
 | _=>simp at h
theorem iT {l : Nat} {p : Exit × St} {M : List fc} (h : eN l p = some M) : ∃ st pend fr ps as bd, p.2.hp.get l = some (.loop st pend fr ps as bd) ∧
    ((p.1 = .normal ∧ M = [.ret (.bool true) (p.2.hp.put l (.loop .ready none fr ps as bd))]) ∨
     (p.1 = .ret ∧ M = [.ret (.bool false) (p.2.hp.put l (.loop .done (some .ret) fr ps as bd))]) ∨
     ∃ id, p.1 = .exit id ∧ M = [.ret (.bool false) (p.2.hp.put l (.loop .done (some (.exit id)) fr ps as bd))]) := by
  obtain ⟨e, s⟩ := p
  unfold eN at h
  simp only at h
  split at h
  · rename_i st pend fr ps as bd hl
    refine ⟨st, pend, fr, ps, as, bd, hl, ?_⟩
    cases e with
    | normal => simp only [Option.some.injEq] at h; exact .inl ⟨rfl, h.symm⟩
    | ret => simp only [Option.some.injEq] at h; exact .inr (.inl ⟨rfl, h.symm⟩)
    | exit id => simp only [Option.some.injEq] at h; exact .inr (.inr ⟨id, rfl, h.symm⟩)
    | _ => simp at h
  · cases h
theorem gj {l:Nat} {body:Code} {p:Exit × St} {M:List fc} (h:bY T rec l body p=some M):p.1=.normal∧∃ pend fr ps as bd R,p.2.hp.get l=some (.loop .ready pend fr ps as bd) ∧
  aM T rec body ⟨p.2.fr,p.2.hp.put l (.loop .busy pend fr ps as bd),true⟩=some R∧bX R (eN l)=some M:=by
 obtain ⟨e,s⟩:=p
 unfold bY at h
 have he:e=.normal:=by cases e <;> first|rfl|simp at h
 subst he
 simp only at h
 split at h
 ·rename_i pend fr ps as bd hl
  cases hy:aM T rec body ⟨s.fr,s.hp.put l (.loop .busy pend fr ps as bd),true⟩ with
  | none=>rw [hy] at h;cases h
  | some R=>rw [hy] at h;exact ⟨rfl,pend,fr,ps,as,bd,R,hl,hy,h⟩
 ·cases h
theorem ld {f:FuncId} {args:List Value} {hp:Hp} {L:List fc} (h:fK T rec (.call f args hp)=some L) :
  ∃ fn c R,T.fn.get f=some fn∧fn.body=some c∧aM T rec c ⟨setArgs .leaf 0 args,hp,false⟩=some R∧bX R (dS T fn.results.toList)=some L:=by
 rw [iS] at h
 cases hf:T.fn.get f with
 | none=>rw [hf] at h;cases h
 | some fn =>
  rw [hf] at h
  simp only at h
  cases hb:fn.body with
  | none=>rw [hb] at h;cases h
  | some c =>
   rw [hb] at h
   simp only at h
   cases hx:aM T rec c ⟨setArgs .leaf 0 args,hp,false⟩ with
   | none=>rw [hx] at h;cases h
   | some R=>rw [hx] at h;exact ⟨fn,c,R,rfl,hb,hx,h⟩
theorem jX {l:Nat} {args:List Value} {hp:Hp} {L:List fc} (h:fK T rec (.round l args hp)=some L) :
  ∃ pend fr ps as bd R,hp.get l=some (.loop .ready pend fr ps as bd)∧args.length=ps.size∧aM T rec as ⟨dG fr (ps.toList.zip args),hp,true⟩=some R∧bX R (bY T rec l bd)=some L:=by
 rw [lJ] at h
 split at h
 ·rename_i pend fr ps as bd hl
  cases hlen:Nat.beq args.length ps.toList.length with
  | false=>rw [hlen] at h;cases h
  | true =>
   rw [hlen] at h
   simp only [cond_true] at h
   cases hx:aM T rec as ⟨dG fr (ps.toList.zip args),hp,true⟩ with
   | none=>rw [hx] at h;cases h
   | some R=>rw [hx] at h;exact ⟨pend,fr,ps,as,bd,R,hl,by simpa using Nat.eq_of_beq_eq_true hlen,hx,h⟩
 ·cases h
theorem lf {c:Code} {st:St} {L:List fc} (h:fK T rec (.loop c st)=some L):∃ R,aM T rec c st=some R∧bX R (dH rec c)=some L:=by
 rw [nu] at h
 cases hx:aM T rec c st with
 | none=>rw [hx] at h;cases h
 | some R=>rw [hx] at h;exact ⟨R,rfl,h⟩
theorem iU {c:Code} {p:Exit × St} {M:List fc} (h:dH rec c p=some M):(p.1=.normal∧rec (.loop c p.2)=some M)∨(p.1 ≠ .normal∧M=[.out p.1 p.2]):=by
 obtain ⟨e,s⟩:=p
 unfold dH at h
 cases e <;> simp only [Option.some.injEq] at h <;> first
  | exact .inl ⟨rfl,h⟩
  | exact .inr ⟨by simp,h.symm⟩
theorem yP (hr:aJ rec):aJ (fK T rec):=by
 intro j L h
 cases j with
 | call f args hp =>
  obtain ⟨fn,c,R,_,_,hx,h⟩:=ld h
  refine Good.bind h (gi hr _ _ _ hx) fun p Mx hq=>?_
  obtain ⟨_,vs,_,rfl⟩:=kL hq
  exact .one (.refl _)
 | round l args hp =>
  obtain ⟨pend,fr,ps,as,bd,R,_,_,hx,h⟩:=jX h
  refine Good.bind h (gi hr _ _ _ hx) fun p Mx hq=>?_
  obtain ⟨_,pend',fr',ps',as',bd',R2,hgt,hy,hz⟩:=gj hq
  have hk:=gi hr _ _ _ hy
  have hk':Good p.2.hp (fun q=>q.2.hp) R2:=⟨hk.1,fun r hr'=>(dc.put p.2.hp _ _ (by rw [hgt];simp) (fun _=>rfl)).trans (hk.2 r hr')⟩
  refine Good.bind hz hk' fun q My hw=>?_
  obtain ⟨_,_,_,_,_,_,hgt2,h1|h1|⟨_,h1⟩⟩:=iT hw <;> (obtain ⟨_,rfl⟩:=h1;exact .one (dc.put q.2.hp _ _ (by rw [hgt2];simp) (fun _=>rfl)))
 | loop c st =>
  obtain ⟨R,hx,h⟩:=lf h
  refine Good.bind h (gi hr _ _ _ hx) fun p Mx hq=>?_
  rcases iU hq with ⟨_,h1⟩|⟨_,rfl⟩
  ·exact hr _ _ h1
  ·exact .one (.refl _)
end
end Go.RM
namespace Go.RM
open Go
theorem qt:∀ {l m:List UInt8},nN l m=true→l=m
 | [],[],_=>rfl
 | a :: l,b :: m,h=>by
  simp only [nN,Bool.and_eq_true] at h
  rw [qt h.2,UInt8.toNat_inj.1 (Nat.eq_of_beq_eq_true h.1)]
 | [],_ :: _,h=>by cases h
 | _ :: _,[],h=>by cases h
theorem BK {a b:Int} (h:C9 a b=true):a=b:=by
 cases a <;> cases b <;> simp only [C9,Bool.false_eq_true] at h
 ·rw [Nat.eq_of_beq_eq_true h]
 ·rw [Nat.eq_of_beq_eq_true h]
theorem zK {p v:Value} (h:Bx p v=true):p=v∧aL v=true:=by
 unfold Bx at h
 split at h
 ·simp at h;subst h;exact ⟨rfl,rfl⟩
 ·simp only [Bool.and_eq_true,beq_iff_eq] at h;obtain ⟨rfl,h⟩:=h;rw [BK h];exact ⟨rfl,rfl⟩
 ·rename_i s t
  have:=qt h
  have e:s=t:=by
   cases s;cases t
   simp only at this
   rw [Array.toList_inj.1 this]
  rw [e];exact ⟨rfl,rfl⟩
 ·exact ⟨rfl,rfl⟩
 ·exact ⟨rfl,rfl⟩
 ·exact ⟨rfl,rfl⟩
 ·exact ⟨rfl,rfl⟩
 ·exact ⟨rfl,rfl⟩
 ·cases h
abbrev FW (r:Option Nat):Fence:={fn:=fun _=>True,depth:=none,alive:=false,round:=r}
def dY (γ:Gm) (a N:Nat):Prop:=∀ k,a≤k→k < N→γ.loc k=none
structure Step (γ:Gm) (H:Hp) (w:World) (γ':Gm) (H':Hp) (w':World):Prop where
 n:H.n≤H'.n
 le:γ.Le γ'
 out:∀ k,(k < H.n∨H'.n≤k)→γ'.loc k=γ.loc k
 hr:HR γ' H'.get w'
 gN:jh γ H.get w γ' H'.get w'
section
variable {T : bf} {γ γ' γ1 γ2 : Gm} {H H' H1 H2 : Hp} {w w' w1 w2 : World} {N : Nat}
theorem Step.refl (h:HR γ H.get w):Step γ H w γ H w:=⟨Nat.le_refl _,Gm.Le.refl γ,fun _ _=>rfl,h,jh.refl _ _ _⟩
theorem Step.trans (a:Step γ H w γ1 H1 w1) (b:Step γ1 H1 w1 γ2 H2 w2):Step γ H w γ2 H2 w2 :=
 ⟨Nat.le_trans a.n b.n,a.le.trans b.le,fun k hk=>by
  have h1:=a.n
  have h2:=b.n
  rw [b.out k (by omega),a.out k (by omega)],b.hr,a.gN.trans b.gN⟩
theorem Step.fresh (a:Step γ H w γ1 H1 w1) (h:dY γ H.n N):dY γ1 H1.n N:=fun k h1 h2=>by
 rw [a.out k (.inr h1)]
 exact h k (Nat.le_trans a.n h1) h2
theorem HR.off {g:ax} (h:HR γ g w) (hs:w.heap.size≤w'.heap.size) (hh:∀ k b o,γ.loc k=some (b,o)→w'.heap[b]?=w.heap[b]?):HR γ g w' :=
 ⟨fun k b o a ha hl=>(h.fG k b o a ha hl).mono (Gm.Le.refl γ) hl (hh k b o hl),h.inj,fun k b o hl=>Nat.lt_of_lt_of_le (h.lt k b o hl) hs,Nat.le_trans h.base hs⟩
theorem jh.off {g g':ax} (u:jh γ g w γ' g' w1) (h1:w2.os=w1.os) (h2:w2.tape=w1.tape) (h3:w2.output=w1.output) (hs:w1.heap.size≤w2.heap.size)
  (hh:∀ b,b < w.heap.size→w2.heap[b]?=w1.heap[b]?):jh γ g w γ' g' w2 :=
 ⟨h1.trans u.os,h2.trans u.tape,h3.trans u.output,Nat.le_trans u.size hs,fun b hb hn=>(hh b hb).trans (u.same b hb hn),u.rI,u.live,u.pF⟩
theorem mQ (e:bG):(H.app e).n=if e.news=true then H.n+1 else H.n:=by cases e <;> rfl
theorem aD.step {s:Sem Next} {v:Value} {e:bG} (h:aD T.P γ H.get w H.n s v e) :
  ∃ v' w' γ',(s.run T.P w=.ok (.value v') w'∨(s.run T.P w=.ok .skip w'∧v'=undef))∧VR γ' v v'∧Step γ H w γ' (H.app e) w':=by
 obtain ⟨v',w',γ',h1,h2,h3,h4,h5,h6⟩:=h
 refine ⟨v',w',γ',h1,h5,?_,h2,fun k hk=>h3 k fun e'=>?_,by rw [Hp.vl];exact h4,by rw [Hp.vl];exact h6⟩
 ·rw [mQ];split <;> omega
 ·rw [mQ] at hk
  subst e'
  cases hn:e.news with
  | false=>rfl
  | true=>rw [hn] at hk;simp at hk;omega
def vw (γ:Gm) (w:World) (N0:Nat) (ds:List Deferred):Prop :=
 ∃ rs:List Nat,ds=rs.map (fun r=>{target:=.collected r,args:=#[]})∧rs.Nodup∧∀ r ∈ rs,N0≤r∧w.heap[r]?=some (.deferred (some []))∧∀ k o,γ.loc k ≠ some (r,o)
theorem vw.nil (γ:Gm) (w:World) (N0:Nat):vw γ w N0 []:=⟨[],rfl,List.nodup_nil,fun r hr=>by cases hr⟩
theorem vw.step {N0:Nat} {ds:List Deferred} (h:vw γ w N0 ds) (s:Step γ H w γ' H' w'):vw γ' w' N0 ds:=by
 obtain ⟨rs,h1,h2,h3⟩:=h
 refine ⟨rs,h1,h2,fun r hr=>?_⟩
 obtain ⟨a,b,c⟩:=h3 r hr
 have hlt:r < w.heap.size:=(Array.getElem?_eq_some_iff.1 b).1
 refine ⟨a,(s.gN.same r hlt fun k o _ _ _ hl=>c k o hl).trans b,fun k o hl=>?_⟩
 obtain ⟨k0,o0,hl0⟩:=s.gN.pF k r o hl hlt
 exact c k0 o0 hl0
theorem BL {fr:Tr Value} {a:Act} (h:tE γ fr a.tmps) {x:Operand} (hx:qp x=true):VR γ (aO fr x) (a.eval x):=by
 cases x with
 | tmp t=>exact h t
 | const v=>exact VR.of_flat hx
 | global g=>cases hx
 | func f=>exact .func rfl rfl (fun i a _=>absurd a (by simp)) (fun i a _=>absurd a (by simp))
theorem w5 {tm:Array Value} {d i:Nat} {v:Value} (hd:d < tm.size):(tm.setIfInBounds d v).getD i undef=if i=d then v else tm.getD i undef:=by
 simp only [Array.getD_eq_getD_getElem?,Array.getElem?_setIfInBounds]
 by_cases h:i=d
 ·subst h;simp [hd]
 ·simp [h,Ne.symm h]
theorem tE.set {fr:Tr Value} {tm:Array Value} (h:tE γ fr tm) {v v':Value} (hv:VR γ v v') {d:Nat} (hd:d < tm.size):tE γ (fr.set d v) (tm.setIfInBounds d v'):=by
 intro i
 rw [Tr.gw,w5 hd]
 by_cases hi:i=d
 ·rw [if_pos hi,if_pos hi];exact hv
 ·rw [if_neg hi,if_neg hi];exact h i
theorem tE.put {fr:Tr Value} {a:Act} (h:tE γ fr a.tmps) {v v':Value} (hv:VR γ v v') {dst:Option Tmp} (hd:∀ d,dst=some d→d < a.tmps.size):tE γ (dX fr dst v) (a.put dst v').tmps:=by
 cases dst with
 | none=>exact h
 | some d=>exact h.set hv (hd d rfl)
theorem gF (a:Act) (dst:Option Tmp) (v:Value):(a.put dst v).tmps.size=a.tmps.size:=by cases dst <;> simp [Act.put]
theorem put_defers (a:Act) (dst:Option Tmp) (v:Value):(a.put dst v).defers=a.defers:=by cases dst <;> rfl
theorem VR.w6 {v:Value} {b:Bool} (h:VR γ v (.bool b)):v=.bool b:=by cases h with|flat=>rfl
theorem vz {fr:Tr Value} {tm:Array Value} (ops:Array Oper) (o:Oper) (h:∀ g want q d,o.guard=some (g,want)→ops[g]?=some q→q.dst=some d→VR γ ((fr.get d).getD undef) (tm.getD d undef)):Region.wanted o (yielded ops tm)=aX ops.toList fr o.guard:=by
 unfold Region.wanted aX
 cases hgu:o.guard with
 | none=>rfl
 | some p =>
  obtain ⟨j,want⟩:=p
  simp only [yielded,Array.getElem?_toList]
  cases hoq:ops[j]? with
  | none=>rfl
  | some q =>
   obtain ⟨dst,op,ty,pos,after,guard⟩:=q
   cases dst with
   | none=>rfl
   | some d =>
    simp only [Option.bind_some]
    have hd:=h j want _ d hgu hoq rfl
    rw [Array.getD_eq_getD_getElem?] at hd
    cases hf:fr.get d with
    | none =>
     rw [hf] at hd
     simp only
     cases ht:tm[d]? with
     | none=>rfl
     | some u =>
      rw [ht] at hd
      simp at hd
      cases u <;> first|rfl|skip
      have:=hd.w6
      cases this
    | some x =>
     rw [hf] at hd
     simp at hd
     cases x with
     | bool b =>
      have:=hd.bZ rfl
      cases ht:tm[d]? with
      | none=>rw [ht] at this;cases this
      | some u =>
       rw [ht] at this
       simp at this
       subst this
       cases b <;> cases want <;> rfl
     | _ =>
      cases ht:tm[d]? with
      | none=>rfl
      | some u =>
       rw [ht] at hd
       simp at hd
       cases u <;> first|rfl|(have:=hd.w6;cases this)
theorem BM {fr:Tr Value} {tm:Array Value} (h:tE γ fr tm) (ops:Array Oper) (o:Oper):Region.wanted o (yielded ops tm)=aX ops.toList fr o.guard :=
 vz ops o fun _ _ _ d _ _ _=>h d
theorem qu:∀ (l:List Value) (t:Tr Value) (i j:Nat),(setArgs t i l).get j=if i≤j∧j < i+l.length then l[j - i]? else t.get j:=by
 intro l
 induction l with
 | nil=>intro t i j;simp [setArgs];intro h1 h2;omega
 | cons v vs ih =>
  intro t i j
  rw [setArgs,ih,Tr.gw]
  simp only [List.length_cons]
  by_cases hj:j=i
  ·subst hj;simp;omega
  ·by_cases h:i≤j∧j < i+(vs.length+1)
   ·rw [if_pos h,if_pos (by omega)]
    obtain ⟨q,rfl⟩:∃ q,j=i+1+q:=⟨j - (i+1),by omega⟩
    rw [show i+1+q - (i+1)=q by omega,show i+1+q - i=q+1 by omega]
    rfl
   ·rw [if_neg h,if_neg (by omega),if_neg hj]
theorem tE.args {args args':List Value} (h:bu γ args args') (n:Nat):tE γ (setArgs .leaf 0 args) (args'.toArray++Array.replicate n undef):=by
 intro i
 rw [qu,Array.getD_eq_getD_getElem?,Array.getElem?_append]
 have hl:=h.1
 by_cases hi:i < args.length
 ·rw [if_pos ⟨Nat.zero_le _,by omega⟩,if_pos (by simp;omega)]
  have h1:args[i]?=some (args[i]'hi):=List.getElem?_eq_getElem hi
  obtain ⟨v',e1,e2⟩:=h.get h1
  simp only [Nat.sub_zero,h1,Option.getD_some,List.getElem?_toArray,e1]
  exact e2
 ·rw [if_neg (by omega),if_neg (by simp;omega)]
  have:(Array.replicate n undef)[i - args'.toArray.size]?.getD undef=undef:=by
   rw [Array.getElem?_replicate];split <;> rfl
  rw [this]
  exact VR.undef γ
theorem w7:∀ (l:List (Tmp × Value)) (l':List (Tmp × Value)) (fr:Tr Value) (tm:Array Value),tE γ fr tm→l.length=l'.length →
  (∀ (i:Nat) (p p':Tmp × Value),l[i]?=some p→l'[i]?=some p'→p.1=p'.1∧VR γ p.2 p'.2∧p'.1 < tm.size) →
  tE γ (dG fr l) (l'.foldl (fun tmps (t,a)=>tmps.setIfInBounds t a) tm)∧(l'.foldl (fun tmps (t,a)=>tmps.setIfInBounds t a) tm).size=tm.size:=by
 intro l
 induction l with
 | nil=>intro l' fr tm h hl _;cases l' with
  | nil=>exact ⟨h,rfl⟩
  | cons=>cases hl
 | cons p l ih =>
  intro l' fr tm h hl hh
  cases l' with
  | nil=>cases hl
  | cons p' l' =>
   obtain ⟨e1,e2,e3⟩:=hh 0 p p' rfl rfl
   obtain ⟨d,v⟩:=p
   obtain ⟨d',v'⟩:=p'
   simp only at e1 e2 e3
   subst e1
   have hsz:(tm.setIfInBounds d v').size=tm.size:=by simp
   obtain ⟨r1,r2⟩:=ih l' (fr.set d v) (tm.setIfInBounds d v') (h.set e2 e3) (by simpa using hl) fun i p p' a b=>by
    rw [hsz];exact hh (i+1) p p' a b
   exact ⟨r1,r2.trans hsz⟩
theorem AM (hT:bL T) {g:ax} (h:HR γ g w) {t:TypeId} {a a' v:Value} {e:bG} (ho:fI T t a g=some (v,e)) (ha:VR γ a a') :
  ∃ ad v',a'=.pointer (some ad)∧(loadVar t ad).run T.P w=.ok v' w∧VR γ v v':=by
 unfold fI at ho
 cases hk:addr? a with
 | none=>rw [hk] at ho;cases ho
 | some ko =>
  obtain ⟨k,o⟩:=ko
  rw [hk] at ho
  simp only at ho
  cases hc:cells? (g k) with
  | none=>rw [hc] at ho;cases ho
  | some c0 =>
   obtain ⟨cs,own,es⟩:=c0
   cases hty:T.ty.get t with
   | none=>rw [hc,hty] at ho;cases ho
   | some r =>
    obtain ⟨i,hi,hsz,_,_,hu,_⟩:=hT.ty t r hty
    have hag:=hT.agg hty
    obtain ⟨jg,s,bytes,zero,agg,bE,cY⟩:=r
    rw [hc,hty] at ho
    simp only at ho hsz hu hag
    obtain ⟨b,d,hl,rfl⟩:=ha.addr hk
    obtain ⟨cs',el,fz,hw,hcr,_⟩:=h.cells hc hl
    cases agg with
    | true =>
     simp only [cond_true,Option.map_eq_some_iff,Prod.mk.injEq] at ho
     obtain ⟨c,hcut,rfl,rfl⟩:=ho
     obtain ⟨c',hv,hlen,hat,_,_⟩:=hcr.Dc hcut
     refine ⟨_,.agg c'.toArray,rfl,?_,VR.iL hv⟩
     have hload:=run_loadCells_list (P:=T.P) w ⟨b,d+o,none⟩ c' (fun j v hj=>by rw [Addr.add_lit,nS hw];exact hat j v hj)
     rw [hlen,←hsz] at hload
     simp [loadVar,l6 hu,←hag,dK hi,hload]
    | false =>
     simp only [cond_false,Option.map_eq_some_iff,Prod.mk.injEq] at ho
     obtain ⟨x,hx,rfl,rfl⟩:=ho
     obtain ⟨x',h1,h2⟩:=hcr o x hx
     refine ⟨_,x',rfl,?_,h2⟩
     simp [loadVar,l6 hu,←hag,load,Sem.run,nS hw,h1]
theorem dg {α β:Type} {P:Program} {s:Sem α} {k:α→Sem β} {a:α} {w w1:World} (h:s.run P w=.ok a w1):(s >>= k).run P w=(k a).run P w1:=by
 simp [h]
def Ei (tm:Array Value):ResultVar→Sem Value
 | .tmp t=>pure (tm.getD t undef)
 | .cell a t=>do loadVar t (←asAddr (tm.getD a undef))
theorem yQ (fn:Func) (tm:Array Value):results fn tm=(do
  let vs ←fn.results.mapM (Ei tm)
  pure (if h:vs.size=1 then vs[0] else .tuple vs)):=by
 unfold results
 congr 2
theorem w8 (hT:bL T) {fr:Tr Value} {tm:Array Value} (h:HR γ H.get w) (hf:tE γ fr tm):∀ (rs:List ResultVar) (vs:List Value),jm T fr H rs=some vs →
  ∃ vs',(List.mapM (m:=Sem) (Ei tm) rs).run T.P w=.ok vs' w∧bu γ vs vs':=by
 intro rs
 induction rs with
 | nil=>intro vs hv;cases hv;exact ⟨[],rfl,bu.nil γ⟩
 | cons r rs ih =>
  intro vs hv
  rw [jm] at hv
  cases hr:uA T fr H r with
  | none=>rw [hr] at hv;cases hv
  | some v =>
   rw [hr] at hv
   simp only [Option.map_eq_some_iff] at hv
   obtain ⟨us,hus,rfl⟩:=hv
   obtain ⟨us',h1,h2⟩:=ih us hus
   cases r with
   | tmp t =>
    simp only [uA,Option.some.injEq] at hr
    subst hr
    refine ⟨tm.getD t undef :: us',?_,.cons (hf t) h2⟩
    rw [List.mapM_cons,dg rfl,dg h1]
    rfl
   | cell a t =>
    simp only [uA,Option.map_eq_some_iff] at hr
    obtain ⟨⟨x,e⟩,hx,rfl⟩:=hr
    obtain ⟨ad,v',e1,e2,e3⟩:=AM hT h hx (hf a)
    refine ⟨v' :: us',?_,.cons e3 h2⟩
    rw [List.mapM_cons,dg (a:=v') (w1:=w) (by simp only [Ei];rw [e1];simp [asAddr,e2]),dg h1]
    rfl
theorem vA {vs vs':List Value} (h:bu γ vs vs'):VR γ (cm vs) (cm vs'):=by
 match vs,vs',h with
 | [],[],h=>exact VR.cE h
 | [v],[v'],h=>exact h.2 0 v v' rfl rfl
 | a :: b :: l,a' :: b' :: l',h=>exact VR.cE h
 | [],_ :: _,h=>exact absurd h.1 (by simp)
 | [_],[],h=>exact absurd h.1 (by simp)
 | [_],_ :: _ :: _,h=>exact absurd h.1 (by simp)
 | _ :: _ :: _,[],h=>exact absurd h.1 (by simp)
 | _ :: _ :: _,[_],h=>exact absurd h.1 (by simp)
theorem AN (hT:bL T) {fr:Tr Value} {tm:Array Value} (h:HR γ H.get w) (hf:tE γ fr tm) {fn:Func} {vs:List Value} (hv:jm T fr H fn.results.toList=some vs) :
  ∃ v',(results fn tm).run T.P w=.ok v' w∧VR γ (cm vs) v':=by
 obtain ⟨vs',h1,h2⟩:=w8 hT h hf fn.results.toList vs hv
 refine ⟨cm vs',?_,vA h2⟩
 rw [yQ,Array.mapM_eq_mapM_toList]
 rw [dg (a:=vs'.toArray) (w1:=w) (by rw [map_eq_pure_bind,dg h1];rfl)]
 match vs' with
 | []=>rfl
 | [v]=>rfl
 | a :: b :: l=>simp [cm]
end
end Go.RM
namespace Go.RM
open Go
theorem w9 {n m:Nat} (h:n≤m):∀ {c:Code},codeOk n c=true→codeOk m c=true:=by
 intro c
 induction c with
 | region id ops draw =>
  intro hc
  simp only [codeOk,Bool.and_eq_true,List.all_eq_true] at hc ⊢
  refine ⟨hc.1,fun o ho=>⟨(hc.2 o ho).1,?_⟩⟩
  have:=(hc.2 o ho).2
  cases hd:o.dst with
  | none=>rfl
  | some d =>
   rw [hd] at this
   simp only at this ⊢
   have h1:=Nat.le_of_ble_eq_true this
   exact Nat.ble_eq_true_of_le (Nat.le_trans h1 h)
 | seq a b iha ihb=>intro hc;simp only [codeOk,Bool.and_eq_true] at hc ⊢;exact ⟨iha hc.1,ihb hc.2⟩
 | cond x a b iha ihb=>intro hc;simp only [codeOk,Bool.and_eq_true] at hc ⊢;exact ⟨⟨hc.1.1,iha hc.1.2⟩,ihb hc.2⟩
 | block id c ih=>intro hc;simp only [codeOk] at hc ⊢;exact ih hc
 | loop c ih=>intro hc;simp only [codeOk] at hc ⊢;exact ih hc
 | scope c ih=>intro hc;simp only [codeOk] at hc ⊢;exact ih hc
 | rangeFunc f ps a b iha ihb =>
  intro hc
  simp only [codeOk,Bool.and_eq_true,List.all_eq_true] at hc ⊢
  exact ⟨⟨⟨hc.1.1.1,fun p hp=>Nat.ble_eq_true_of_le (Nat.le_trans (Nat.le_of_ble_eq_true (hc.1.1.2 p hp)) h)⟩,iha hc.1.2⟩,ihb hc.2⟩
 | _=>intro _;rfl
structure Pre (γ:Gm) (st:St) (a:Act) (w:World) (rr:Option Nat) (N0:Nat):Prop where
 fr:tE γ st.fr a.tmps
 hr:HR γ st.hp.get w
 rd:st.rd=rr.isSome
 df:vw γ w N0 a.defers
 wf:Wf st.hp
 lp:∀ b,rr=some b→∃ l,γ.loc l=some (b,0)∧lG (st.hp.get l)=true
def pL (γ:Gm) (H:Hp) (w:World) (L:List fc) (e:Ending) (w':World):Prop :=
 ∃ v hp v' γ',fc.ret v hp ∈ L∧e=.returned v'∧VR γ' v v'∧Step γ H w γ' hp w'
def gG (γ:Gm) (H:Hp) (w:World) (sz:Nat) (rd:Option Nat) (N0:Nat) (L:List (Exit × St)) (e:Exit) (a':Act) (w':World):Prop :=
 ∃ p ∈ L,∃ γ',e=p.1∧Pre γ' p.2 a' w' rd N0∧a'.tmps.size=sz∧Step γ H w γ' p.2.hp w'
theorem gG.trans {γ γ1:Gm} {H H1:Hp} {w w1 w2:World} {sz:Nat} {rd:Option Nat} {N0:Nat} {L M:List (Exit × St)} {e:Exit} {a:Act}
  (s:Step γ H w γ1 H1 w1) (h:gG γ1 H1 w1 sz rd N0 M e a w2) (hs:∀ p ∈ M,p ∈ L):gG γ H w sz rd N0 L e a w2:=by
 obtain ⟨p,hp,γ',h1,h2,h3,h4⟩:=h
 exact ⟨p,hs p hp,γ',h1,h2,h3,s.trans h4⟩
structure bR (T : bf) (rec : pe → Option (List fc)) (m : Nat) : Prop where
  call : ∀ f args hp L, rec (.call f args hp) = some L → (∃ fn c, T.P.funcs[f]? = some fn ∧ (fn.name == "runtime.NumGoroutine") = false ∧ fn.body = some c) ∧
    ∀ γ w args' N, Wf hp → HR γ hp.get w → dY γ hp.n N → (∀ r ∈ L, r.hp.n ≤ N) → bu γ args args' → CallsIn (FW none) 0 T.P f args'.toArray w (pL γ hp w L)
  round : ∀ l args hp L, rec (.round l args hp) = some L → ∀ γ w args' N b, Wf hp → γ.loc l = some (b, 0) → HR γ hp.get w → dY γ hp.n N → (∀ r ∈ L, r.hp.n ≤ N) → bu γ args args' →
    ∃ r : Loop, w.heap[b]? = some (.loop r) ∧ args'.length = r.params.size ∧
      RoundIn (FW none) 0 T.P b r.fn ((r.params.zip args'.toArray).foldl (fun tmps (t, a) => tmps.setIfInBounds t a) r.tmps) r.assign r.body w (pL γ hp w L)
  loop : ∀ c st Lr, rec (.loop c st) = some Lr → ∀ L, (∀ r ∈ Lr, ∃ p ∈ L, r = .out p.1 p.2) → ∀ γ w a rd N0 N, Pre γ st a w rd N0 → codeOk a.tmps.size c = true → dY γ st.hp.n N → (∀ r ∈ Lr, r.hp.n ≤ N) →
    N0 ≤ w.heap.size → Code.roundsIn (FW rd) 0 T.P c (gG γ st.hp w a.tmps.size rd N0 L) m a w
def iA (T:bf) (rec:pe→Option (List fc)):Prop :=
 ∀ id ops st L,bP T rec ops st=some L→∀ γ w a rd N0 N,Pre γ st a w rd N0→codeOk a.tmps.size (.region id ops true)=true→dY γ st.hp.n N→(∀ s ∈ L,s.hp.n≤N) →
  (Code.region id ops true).wpIn (FW rd) 0 T.P (gG γ st.hp w a.tmps.size rd N0 (L.map fun s=>(.normal,s))) a w
section
variable {T : bf} {rec : pe → Option (List fc)} {m : Nat}
theorem VR.lK {γ:Gm} {f:FuncId} {fs cs:Array Value} {v:Value} (h:VR γ (.func (.func f) fs cs) v):∃ fs' cs',v=.func (.func f) fs' cs'∧bu γ fs.toList fs'.toList∧bu γ cs.toList cs'.toList:=by
 cases h with
 | flat h=>cases h
 | func h1 h2 hf hc=>exact ⟨_,_,rfl,.lD h1 hf,.lD h2 hc⟩
theorem VR.pM {γ:Gm} {l:Nat} {fs cs:Array Value} {v:Value} (h:VR γ (.func (.yield l) fs cs) v):fs=#[]∧∃ b,v=.func (.yield b) #[] #[]∧γ.loc l=some (b,0):=by
 cases h with
 | flat h=>cases h
 | yield h=>exact ⟨rfl,_,rfl,h⟩
theorem jY {v:Value} {args:List Value} {f:FuncId} {as:List Value} (h:cD v args=some (.fn f as)):∃ fs cs,v=.func (.func f) fs cs∧as=fs.toList++args++cs.toList:=by
 unfold cD at h
 split at h
 ·simp only [Option.some.injEq,Goal.fn.injEq] at h
  obtain ⟨rfl,rfl⟩:=h
  exact ⟨_,_,rfl,rfl⟩
 ·simp at h
 ·cases h
theorem kM {v:Value} {args:List Value} {l:Nat} {as:List Value} (h:cD v args=some (.yield l as)):∃ fs cs,v=.func (.yield l) fs cs∧as=fs.toList++args:=by
 unfold cD at h
 split at h
 ·simp at h
 ·simp only [Option.some.injEq,Goal.yield.injEq] at h
  obtain ⟨rfl,rfl⟩:=h
  exact ⟨_,_,rfl,rfl⟩
 ·cases h
theorem og {P : Program} {f : FuncId} {fn : Func} {c : Code} (h : P.funcs[f]? = some fn) (hn : (fn.name == "runtime.NumGoroutine") = false) (hb : fn.body = some c) (args : Array Value) (w : World) :
    (callFunc f args).run P w = .ok (.enter f args) w := by
  unfold callFunc
  have hn' : ¬ fn.name = "runtime.NumGoroutine" := by simpa using hn
  simp [program, Sem.run, h, hn', hb]
theorem rZ (hS:bR T rec m) {γ:Gm} {H:Hp} {w:World} {v v':Value} {args args':List Value} {g:Goal} {L:List fc} {N:Nat} (hg:cD v args=some g) (hv:VR γ v v') (ha:bu γ args args')
  (hr:rec (gz H g)=some L) (hw:Wf H) (hh:HR γ H.get w) (hf:dY γ H.n N) (hN:∀ r ∈ L,r.hp.n≤N) {d:Deferred} (hd:(Deferred.ofValue v' args'.toArray).run T.P w=.ok d w) :
  (∃ f as,(invoke d.target d.args).run T.P w=.ok (.enter f as) w∧CallsIn (FW none) 0 T.P f as w (pL γ H w L)) ∨
  (∃ l f tm asg bd,(invoke d.target d.args).run T.P w=.ok (.round l f tm asg bd) w∧RoundIn (FW none) 0 T.P l f tm asg bd w (pL γ H w L)):=by
 cases g with
 | fn f as =>
  obtain ⟨fs,cs,rfl,rfl⟩:=jY hg
  obtain ⟨fs',cs',rfl,e1,e2⟩:=hv.lK
  obtain ⟨⟨fn,c,h1,h2,h3⟩,hcall⟩:=hS.call _ _ _ _ hr
  have hd':d={target:=.fn (.func f) cs',args:=fs'++args'.toArray}:=by
   simp only [Deferred.ofValue] at hd
   cases hd;rfl
  subst hd'
  refine .inl ⟨f,fs'++args'.toArray++cs',og h1 h2 h3 _ w,?_⟩
  have:=hcall γ w (fs'.toList++args'++cs'.toList) N hw hh hf hN ((e1.append ha).append e2)
  have he:(fs'.toList++args'++cs'.toList).toArray=fs'++args'.toArray++cs':=by apply Array.ext';simp
  rw [he] at this
  exact this
 | yield l as =>
  obtain ⟨fs,cs,rfl,rfl⟩:=kM hg
  obtain ⟨rfl,b,rfl,hl⟩:=hv.pM
  have hd':d={target:=.fn (.yield b) #[],args:=#[]++args'.toArray}:=by
   simp only [Deferred.ofValue] at hd
   cases hd;rfl
  subst hd'
  obtain ⟨r,h1,h2,h3⟩:=hS.round _ _ _ _ hr γ w args' N b hw hl hh hf hN (by simpa using ha)
  refine .inr ⟨b,r.fn,_,r.assign,r.body,?_,h3⟩
  show (Instr.yield b (#[]++args'.toArray)).run T.P w=_
  rw [Array.empty_append]
  exact run_yield h1 (by simpa using h2)
theorem xb {o:Op} {f:EW} {as:List Operand} (h:dw o=.call f as):(∃ x args tys,o=.call ⟨.value x,args,tys⟩∧f=.op x∧as=args.toList)∨∃ r name args tys,o=.call ⟨.invoke r name,args,tys⟩∧f=.AD r name∧as=args.toList:=by
 unfold dw at h
 split at h
 ·simp only [Kind.call.injEq] at h;obtain ⟨rfl,rfl⟩:=h;exact .inl ⟨_,_,_,rfl,rfl,rfl⟩
 ·simp only [Kind.call.injEq] at h;obtain ⟨rfl,rfl⟩:=h;exact .inr ⟨_,_,_,_,rfl,rfl,rfl⟩
 ·cases h
 ·cases h
theorem yR {P:Program} {v:Value} {name:String} {vs:List Value} {g:Goal} (h:cD (rC P v name) vs=some g):∃ t x f r,v=.iface t x∧ak P (method (P.types.size+Made.depth) t x name)=some (f,r)∧flat r=true∧rC P v name=.func (.func f) #[r] #[]:=by
 unfold rC at h ⊢
 split at h
 ·rename_i t x
  split at h
  ·rename_i f r hp
   cases hr:flat r with
   | true=>exact ⟨t,x,f,r,rfl,hp,hr,by simp only [cond_true]⟩
   | false=>rw [hr] at h;cases h
  ·cases h
 ·cases h
theorem Ga {α:Type} (x:α) (b:Array α):(#[x]++b)[0]?=some x:=by
 rw [←Array.getElem?_toList,Array.toList_append];rfl
theorem Gb {α:Type} (x:α) (b:Array α):(#[x]++b).extract 1 (#[x]++b).size=b:=by
 apply Array.ext'
 rw [Array.toList_extract,Array.toList_append,Array.size_append]
 show (x :: b.toList).extract 1 _=_
 simp [List.extract]
 rw [show b.size=b.toList.length from Array.length_toList.symm]
 rw [List.take_of_length_le (by omega)]
theorem vB {T:bf} {γ:Gm} {o:Oper} {f:EW} {as:List Operand} (hk:dw o.op=.call f as) {fr:Tr Value} {a:Act} (hev:∀ x ∈ o.op.operands,VR γ (aO fr x) (a.eval x)) {vs:List Value} {g:Goal} (hg:cD (jV T.P fr f) vs=some g) (w:World) :
  (∀ c,o.op ≠ .defer c)∧bu γ (as.map (aO fr)) (as.map a.eval)∧∃ vf',VR γ (jV T.P fr f) vf'∧∀ d,(Deferred.ofValue vf' (as.map a.eval).toArray).run T.P w=.ok d w→(execOp a.eval o).run T.P w=(invoke d.target d.args).run T.P w:=by
 rcases xb hk with ⟨x,args,tys,hop,rfl,rfl⟩|⟨r,name,args,tys,hop,rfl,rfl⟩
 ·refine ⟨(by rw [hop];intro c hc;cases hc),bu.map fun x hx=>hev x (by rw [hop];simp [Op.operands,Call.operands];exact .inr (by simpa using hx)),a.eval x,hev x (by rw [hop];simp [Op.operands,Call.operands]),fun d hd=>?_⟩
  obtain ⟨dst,op,ty,pos,after,guard⟩:=o
  simp only at hop
  subst hop
  show (do let d ←resolve a.eval ⟨.value x,args,tys⟩ ty;invoke d.target d.args:Sem Next).run T.P w=_
  refine dg ?_
  have e2:(args.toList.map a.eval).toArray=args.map a.eval:=by apply Array.ext';simp
  rw [e2] at hd
  exact hd
 ·obtain ⟨t,x,f0,rv,hv,hp,hfl,hm⟩:=yR hg
  have hr:a.eval r=.iface t x:=by
   have:=hev r (by rw [hop];simp [Op.operands,Call.operands])
   rw [hv] at this
   generalize a.eval r=y at this
   cases this with
   | flat=>rfl
  have hvr:VR γ (jV T.P fr (.AD r name)) (.func (.func f0) #[rv] #[]):=by
   show VR γ (rC T.P (aO fr r) name) _
   rw [hm]
   exact .func rfl rfl (fun i h1 h2=>by
    have:i=0:=by simpa using h1
    subst this
    exact VR.of_flat hfl) (fun i h1=>absurd h1 (by simp))
  refine ⟨(by rw [hop];intro c hc;cases hc),bu.map fun x hx=>hev x (by rw [hop];simp [Op.operands,Call.operands];exact .inr (by simpa using hx)),_,hvr,fun d hd=>?_⟩
  obtain ⟨dst,op,ty,pos,after,guard⟩:=o
  simp only at hop
  subst hop
  have e2:(args.toList.map a.eval).toArray=args.map a.eval:=by apply Array.ext';simp
  rw [e2] at hd
  have hd':d={target:=.fn (.func f0) #[],args:=#[rv]++args.map a.eval}:=by
   have:(Deferred.ofValue (.func (.func f0) #[rv] #[]) (args.map a.eval)).run T.P w=.ok {target:=.fn (.func f0) #[],args:=#[rv]++args.map a.eval} w:=rfl
   rw [this] at hd
   cases hd
   rfl
  subst hd'
  have hmr:=gE T.P hp w
  have h1:(resolve a.eval ⟨.invoke r name,args,tys⟩ ty).run T.P w=.ok {target:=.fn (.method name) #[],args:=#[a.eval r]++args.map a.eval} w:=rfl
  refine (dg h1:(do let d ←resolve a.eval ⟨.invoke r name,args,tys⟩ ty;invoke d.target d.args:Sem Next).run T.P w=_).trans ?_
  have h0:(#[a.eval r]++args.map a.eval)[0]?=some (a.eval r):=Ga _ _
  show (invoke (.fn (.method name) #[]) (#[a.eval r]++args.map a.eval)).run T.P w=(callFunc f0 ((#[rv]++args.map a.eval)++#[])).run T.P w
  have h2:invoke (.fn (.method name) #[]) (#[a.eval r]++args.map a.eval)=callMethod (a.eval r) name ((#[a.eval r]++args.map a.eval).extract 1 (#[a.eval r]++args.map a.eval).size):=by
   unfold invoke
   simp only [h0]
  rw [h2]
  rw [hr]
  have e3:(#[Value.iface t x]++args.map a.eval).extract 1 (#[Value.iface t x]++args.map a.eval).size=args.map a.eval:=Gb _ _
  rw [e3]
  show (do let p ←method ((←program).types.size+Made.depth) t x name;callFunc p.1 (#[p.2]++args.map a.eval):Sem Next).run T.P w=_
  rw [Array.append_empty]
  have hq:(do method ((←program).types.size+Made.depth) t x name:Sem (FuncId × Value)).run T.P w=.ok (f0,rv) w:=hmr
  exact dg hq
theorem xd {o:Op} {it:Operand} (h:dw o=.next it):o=.next it false:=by
 unfold dw at h
 split at h
 ·cases h
 ·cases h
 ·simp only [Kind.next.injEq] at h;rw [h]
 ·cases h
theorem uH {n:Nat} {o:Op} {ρ:Operand→Value} {g:ax} {v:Value} {e:bG} (h:iK T n o ρ g=some (v,e)):∀ c,o ≠ .defer c:=by
 intro c hc
 subst hc
 cases h
theorem Oper.vC {rd:Option Nat} {P:Program} {o:Oper} {a:Act} {w w':World} {next:Act→World→Prop} {Q:Exit→Act→World→Prop} {v':Value} (hp:∀ c,o.op ≠ .defer c)
  (hr:(execOp a.eval o).run P w=.ok (.value v') w'∨((execOp a.eval o).run P w=.ok .skip w'∧v'=undef)) (h:next (a.put o.dst v') w'):o.wpIn (FW rd) 0 P a w next Q:=by
 refine ⟨fun _ _=>trivial,?_⟩
 have he:o.semAt rd a.eval=execOp a.eval o:=Oper.semAt_plain (FW rd) _ _ hp
 show o.uponIn _ _ _ _ _ _ ((o.semAt rd a.eval).run P w)
 rw [he]
 rcases hr with hr|⟨hr,rfl⟩
 ·rw [hr];exact h
 ·rw [hr];exact h
theorem qv (hT:bL T) (hS:bR T rec m) {o:Oper} {st:St} {L:List (Value × Hp)} (ho:eD T rec o.op st=some L) {γ:Gm} {w:World} {a:Act} {rd:Option Nat} {N:Nat}
  (hfr:tE γ st.fr a.tmps) (hw:Wf st.hp) (hh:HR γ st.hp.get w) (hops:o.op.operands.toList.all qp=true) (hf:dY γ st.hp.n N) (hN:∀ p ∈ L,p.2.n≤N) {next:Act→World→Prop} {Q:Exit→Act→World→Prop}
  (hnext:∀ v hp v' γ' w',(v,hp) ∈ L→VR γ' v v'→Step γ st.hp w γ' hp w'→next (a.put o.dst v') w'):o.wpIn (FW rd) 0 T.P a w next Q:=by
 have hev:∀ x ∈ o.op.operands,VR γ (aO st.fr x) (a.eval x):=fun x hx=>BL hfr (List.all_eq_true.1 hops x (by simpa using hx))
 unfold eD at ho
 split at ho
 ·rename_i f as hk
  split at ho
  ·rename_i g hg
   obtain ⟨hnd,ha,vf',hv,hx⟩:=vB hk hev hg w
   cases hr:rec (gz st.hp g) with
   | none=>rw [hr] at ho;cases ho
   | some R =>
    rw [hr] at ho
    simp only at ho
    have hmem:∀ r ∈ R,∃ v hp,r=.ret v hp∧(v,hp) ∈ L:=by
     intro r hrm
     obtain ⟨Ma,h1,h2⟩:=bH ho r hrm
     cases r with
     | ret v hp=>simp only [valOf,Option.some.injEq] at h1;subst h1;exact ⟨v,hp,rfl,h2 _ (by simp)⟩
     | out e s=>cases h1
    have hN':∀ r ∈ R,r.hp.n≤N:=fun r hrm=>by
     obtain ⟨v,hp,rfl,hm⟩:=hmem r hrm
     exact hN _ hm
    have hd:∃ d,(Deferred.ofValue vf' (as.map a.eval).toArray).run T.P w=.ok d w:=by
     cases g with
     | fn f' as' =>
      obtain ⟨fs,cs,e,_⟩:=jY hg
      rw [e] at hv
      obtain ⟨fs',cs',e',_,_⟩:=hv.lK
      rw [e']
      exact ⟨_,rfl⟩
     | yield l as' =>
      obtain ⟨fs,cs,e,_⟩:=kM hg
      rw [e] at hv
      obtain ⟨_,b,e',_⟩:=hv.pM
      rw [e']
      exact ⟨_,rfl⟩
    obtain ⟨d,hd⟩:=hd
    have hback:∀ e w',pL γ st.hp w R e w'→(match e with
      | .returned v=>next (a.put o.dst v) w'
      | .panicked chain=>Q (.panic chain) a w'
      | .outgrown=>LetsOut Q):=by
     intro e w' ⟨v,hp,v',γ',hm,he,hv',hs⟩
     subst he
     obtain ⟨v0,hp0,e0,hm0⟩:=hmem _ hm
     cases e0
     exact hnext v hp v' γ' w' hm0 hv' hs
    refine ⟨fun _ _=>trivial,?_⟩
    have he:o.semAt rd a.eval=execOp a.eval o:=Oper.semAt_plain (FW rd) _ _ hnd
    show o.uponIn _ _ _ _ _ _ ((o.semAt rd a.eval).run T.P w)
    rw [he]
    have hx:=hx d hd
    rw [hx]
    rcases rZ hS hg hv ha hr hw hh hf hN' hd with ⟨f',as',h1,h2⟩|⟨l,f',tm,asg,bd,h1,h2⟩
    ·rw [h1]
     refine ⟨fun h=>Bool.noConfusion h,?_⟩
     exact CallsIn.mono (F:=FW none) h2 fun e w' he=>by
      have:=hback e w' he
      cases e <;> exact this
    ·rw [h1]
     refine ⟨fun h=>Bool.noConfusion h,?_⟩
     exact RoundIn.mono (F:=FW none) h2 fun e w' he=>by
      have:=hback e w' he
      cases e <;> exact this
  ·cases ho
 ·rename_i it hk
  have hop:=xd hk
  simp only [Option.map_eq_some_iff] at ho
  obtain ⟨M,hM,rfl⟩:=ho
  obtain ⟨v,e,hm,hg⟩:=yL (T:=T) (n:=st.hp.n) (ty:=o.type) hh hM (hev it (by rw [hop];simp [Op.operands]))
  obtain ⟨v',w',γ',h1,h2,h3⟩:=hg.step
  refine Oper.vC (w':=w') (v':=v') (by rw [hop];intro c hc;cases hc) ?_ (hnext v _ v' γ' w' (List.mem_map.2 ⟨(v,e),hm,rfl⟩) h2 h3)
  obtain ⟨dst,op,ty,pos,after,guard⟩:=o
  simp only at hop
  subst hop
  exact h1
 ·split at ho
  ·rename_i v e hop
   simp only [Option.some.injEq] at ho
   subst ho
   have hn:e.news=true→γ.loc st.hp.n=none:=fun he=>hf _ (Nat.le_refl _) (by
    have:=hN (v,st.hp.app e) (by simp)
    simp only [mQ,he,if_true] at this
    omega)
   obtain ⟨v',w',γ',h1,h2,h3⟩:=(wV (n:=st.hp.n) hT hh hn hop hev).step
   exact Oper.vC (w':=w') (v':=v') (uH hop) h1 (hnext v _ v' γ' w' (by simp) h2 h3)
  ·cases ho
theorem Good.le {β:Type} {H:Hp} {f:β→Hp} {M:List β} (h:Good H f M) {N:Nat} (hN:∀ b ∈ M,(f b).n≤N):H.n≤N:=by
 obtain ⟨h1,h2⟩:=h
 cases M with
 | nil=>exact absurd rfl h1
 | cons b l=>exact Nat.le_trans (h2 b (by simp)).n (hN b (by simp))
theorem Pre.put {γ γ':Gm} {st:St} {a:Act} {w w':World} {rd:Option Nat} {N0:Nat} (h:Pre γ st a w rd N0) {hp:Hp} {v v':Value} {dst:Option Tmp} (hv:VR γ' v v') (hs:Step γ st.hp w γ' hp w')
  (hd:∀ d,dst=some d→d < a.tmps.size) (hk:dc st.hp hp):Pre γ' ⟨dX st.fr dst v,hp,st.rd⟩ (a.put dst v') w' rd N0 :=
 ⟨(h.fr.mono hs.le).put hv hd,hs.hr,h.rd,by rw [put_defers];exact h.df.step hs,hk.wf h.wf,fun b hb=>let ⟨l,h1,h2⟩:=h.lp b hb;⟨l,hs.le.loc _ _ h1,hk.loop h.wf l h2⟩⟩
def eE (n:Nat) (o:Oper):Bool:=o.op.operands.toList.all qp && (match o.dst with|some d=>Nat.blt d n|none=>true)
theorem kN {n:Nat} {o:Oper} (h:eE n o=true):∀ d,o.dst=some d→d < n:=by
 intro d hd
 simp only [eE,Bool.and_eq_true,hd] at h
 exact Nat.le_of_ble_eq_true h.2
theorem tS (hT:bL T) (hK:aJ rec) (hS:bR T rec m) (ops:Array Oper) {γ0:Gm} {H0:Hp} {w0:World} {sz:Nat} {rd:Option Nat} {N0 N:Nat} {Lb:List (Exit × St)} :
  ∀ (l:List Oper) (st:St) (L:List St),aR T rec ops.toList l st=some L→∀ γ a w,Pre γ st a w rd N0→a.tmps.size=sz→Step γ0 H0 w0 γ st.hp w→l.all (eE sz)=true→dY γ st.hp.n N →
   (∀ s ∈ L,s.hp.n≤N)→(∀ s ∈ L,(Exit.normal,s) ∈ Lb)→wpListIn (FW rd) 0 T.P ops (gG γ0 H0 w0 sz rd N0 Lb) l a w:=by
 intro l
 induction l with
 | nil =>
  intro st L h γ a w hp hsz hs _ _ _ hb
  rw [jo] at h
  cases h
  exact ⟨_,hb st (by simp),γ,rfl,hp,hsz,hs⟩
 | cons o l ih =>
  intro st L h γ a w hp hsz hs hok hf hN hb
  rw [de] at h
  simp only [List.all_cons,Bool.and_eq_true] at hok
  have hdst:∀ d,o.dst=some d→d < a.tmps.size:=by rw [hsz];exact kN hok.1
  rw [wpListIn,BM hp.fr]
  cases hg:aX ops.toList st.fr o.guard with
  | false =>
   rw [hg] at h
   simp only [cond_false] at h
   refine ⟨fun _ _=>trivial,?_⟩
   have hr:=Step.refl hp.hr
   exact ih _ L h γ _ w (hp.put (VR.undef γ) hr hdst (.refl _)) ((gF _ _ _).trans hsz) hs hok.2 hf hN hb
  | true =>
   rw [hg] at h
   simp only [cond_true] at h
   simp only [if_true]
   cases ha:eD T rec o.op st with
   | none=>rw [ha] at h;cases h
   | some A =>
    rw [ha] at h
    simp only at h
    have hsub:∀ p ∈ A,∃ M,aR T rec ops.toList l ⟨dX st.fr o.dst p.1,p.2,st.rd⟩=some M∧∀ s ∈ M,s ∈ L:=fun p hpm=>bH h p hpm
    have hle:∀ p ∈ A,p.2.n≤N:=fun p hpm=>by
     obtain ⟨M,h1,h2⟩:=hsub p hpm
     exact Good.le (dU hK _ _ _ _ h1).1 (fun s hsm=>hN s (h2 s hsm))
    have hops:o.op.operands.toList.all qp=true:=by
     have:=hok.1
     simp only [eE,Bool.and_eq_true] at this
     exact this.1
    refine qv hT hS ha hp.fr hp.wf hp.hr hops hf hle fun v hp' v' γ' w' hm hv hst=>?_
    obtain ⟨M,h1,h2⟩:=hsub _ hm
    exact ih _ M h1 γ' _ w' (hp.put hv hst hdst ((nq hK ha).2 _ hm)) ((gF _ _ _).trans hsz) (hs.trans hst) hok.2 (hst.fresh hf) (fun s hsm=>hN s (h2 s hsm)) fun s hsm=>hb s (h2 s hsm)
theorem HR.oh {γ:Gm} {g:ax} {w:World} (h:HR γ g w) {l b o:Nat} {s:LoopState} {pend:Option Code} {fr:Tr Value} {ps:Array Tmp} {as bd:Code} (hg:g l=some (.loop s pend fr ps as bd)) (hl:γ.loc l=some (b,o)) :
  o=0∧∃ r:Loop,w.heap[b]?=some (.loop r)∧r.state=s∧r.pending=pend∧r.params=ps∧r.assign=as∧r.body=bd ∧
   tE γ fr r.tmps∧codeOk r.tmps.size as=true∧codeOk r.tmps.size bd=true∧(∀ p ∈ ps,p < r.tmps.size):=by
 obtain ⟨h0,_,fn,tm,df',h1,h2,h3,h4,h5⟩:=h.fG l b o _ hg hl
 exact ⟨h0,_,h1,rfl,rfl,rfl,rfl,rfl,h2,h3,h4,h5⟩
theorem Step.vD {γ:Gm} {H:Hp} {w:World} (h:HR γ H.get w) {l b:Nat} {s s':LoopState} {pend pend':Option Code} {fr:Tr Value} {ps:Array Tmp} {as bd:Code} (hg:H.get l=some (.loop s pend fr ps as bd)) (hl:γ.loc l=some (b,0))
  {r:Loop} (hr:w.heap[b]?=some (.loop r)):Step γ H w γ (H.put l (.loop s' pend' fr ps as bd)) (w.putObj b (.loop {r with state:=s',pending:=pend'})):=by
 obtain ⟨_,_,fn,tm,df',h1,h2,h3⟩:=h.fG l b 0 _ hg hl
 rw [hr] at h1
 cases h1
 have hlt:=h.lt _ _ _ hl
 have hoth:∀ i,i ≠ b→(w.putObj b (.loop {state:=s',pending:=pend',fn,tmps:=tm,params:=ps,assign:=as,body:=bd,defers:=df'})).heap[i]?=w.heap[i]?:=fun i hi=>World.putObj_heap_other hi
 have hB:γ.B≤b:=(h.fG l b 0 _ hg hl).2.1
 refine ⟨Nat.le_refl _,Gm.Le.refl γ,fun _ _=>rfl,?_,?_⟩
 ·rw [Hp.jn]
  exact h.put hg rfl hl World.putObj_size hoth (.inl rfl) ⟨rfl,hB,fn,tm,df',World.putObj_heap_same hlt,h2,h3⟩
 ·rw [Hp.jn]
  exact jh.put hg rfl hl rfl rfl rfl World.putObj_size hoth
theorem xe {v:Value} {args:List Value} {f:FuncId} {as:List Value} (h:cD v args=some (.fn f as)) {γ:Gm} {v':Value} (hv:VR γ v v') (args':Array Value) (P:Program) (w:World) :
  ∃ d,(Deferred.ofValue v' args').run P w=.ok d w:=by
 obtain ⟨fs,cs,e,_⟩:=jY h
 rw [e] at hv
 obtain ⟨fs',cs',e',_,_⟩:=hv.lK
 rw [e']
 exact ⟨_,rfl⟩
theorem AO {ps:Array Tmp} {as bd:Code} {_f:Operand} {st:St} {γ:Gm} {w:World} {a:Act} {rd:Option Nat} {N0:Nat} (hp:Pre γ st a w rd N0) (h0:N0≤w.heap.size) (_hnone:γ.loc st.hp.n=none):∃ (w1:World) (D:Nat) (ds:List Deferred),
  HR γ st.hp.get w1∧w.heap.size≤w1.heap.size∧jh γ st.hp.get w γ st.hp.get w1 ∧
  (∀ fn,(Instr.enterLoop fn a.tmps ps as bd rd).run T.P w=.ok (w1.heap.size,ds) (w1.alloc (.loop {state:=.ready,pending:=none,fn,tmps:=a.tmps,params:=ps,assign:=as,body:=bd,defers:=D}))) ∧
  ∀ (o:Obj) (H1:Hp),Step γ st.hp w (γ.add st.hp.n w1.heap.size 0) H1 (w1.alloc o)→vw (γ.add st.hp.n w1.heap.size 0) (w1.alloc o) N0 (ds++a.defers):=by
 cases rd with
 | some b =>
  obtain ⟨l,hl,hlp⟩:=hp.lp b rfl
  obtain ⟨r,hr⟩:∃ r,w.heap[b]?=some (.loop r):=by
   cases hg:st.hp.get l with
   | none=>rw [hg] at hlp;cases hlp
   | some x =>
    cases x with
    | loop s pend fr ps as bd =>
     obtain ⟨_,r,h,_⟩:=hp.hr.oh hg hl
     exact ⟨r,h⟩
    | _=>rw [hg] at hlp;cases hlp
  exact ⟨w,r.defers,[],hp.hr,Nat.le_refl _,.refl _ _ _,fun fn=>run_enterLoop_inner hr fn a.tmps ps as bd,fun o H1 hs=>hp.df.step hs⟩
 | none =>
  let w1:=w.alloc (.deferred (some []))
  have hh1:HR γ st.hp.get w1:=hp.hr.off (by show _≤(w.heap.push _).size;simp) fun k b o hl=>by
   show (w.heap.push _)[b]?=_
   rw [Array.getElem?_push,if_neg (by have:=hp.hr.lt _ _ _ hl;omega)]
  have hsz1:w1.heap.size=w.heap.size+1:=by show (w.heap.push _).size=_;simp
  have hu1:jh γ st.hp.get w γ st.hp.get w1:=(jh.refl _ _ _).off rfl rfl rfl (by omega) fun b hb=>by
   show (w.heap.push _)[b]?=_
   rw [Array.getElem?_push,if_neg (by omega)]
  refine ⟨w1,w.heap.size,[{target:=.collected w.heap.size,args:=#[]}],hh1,by omega,hu1,fun fn=>by rw [hsz1];exact run_enterLoop_outer fn a.tmps ps as bd,fun o H1 hs1=>?_⟩
  have hl1:(γ.add st.hp.n w1.heap.size 0).loc st.hp.n=some (w.heap.size+1,0):=by rw [←hsz1];exact Gm.bl _ _ _ _
  obtain ⟨rs,e1,e2,e3⟩:=hp.df.step hs1
  refine ⟨w.heap.size :: rs,by rw [e1];rfl,List.nodup_cons.2 ⟨fun hmem=>?_,e2⟩,fun r hrm=>?_⟩
  ·obtain ⟨rs0,q1,q2,q3⟩:=hp.df
   have hrr:rs0=rs:=by
    have hinj:∀ (l l':List Nat),l.map (fun r=>({target:=.collected r,args:=#[]}:Deferred))=l'.map (fun r=>({target:=.collected r,args:=#[]}:Deferred))→l=l':=by
     intro l
     induction l with
     | nil=>intro l' he;cases l' with
      | nil=>rfl
      | cons=>cases he
     | cons x l ih=>intro l' he;cases l' with
      | nil=>cases he
      | cons y l' =>
       simp only [List.map_cons,List.cons.injEq,Deferred.mk.injEq,Target.collected.injEq,and_true] at he
       rw [he.1,ih l' he.2]
    exact hinj _ _ (q1.symm.trans e1)
   subst hrr
   have:=(Array.getElem?_eq_some_iff.1 (q3 _ hmem).2.1).1
   omega
  ·rcases List.mem_cons.1 hrm with rfl|hrm
   ·refine ⟨h0,?_,fun k o hl=>?_⟩
    ·show (w1.heap.push _)[w.heap.size]?=_
     rw [Array.getElem?_push,if_neg (by omega)]
     show (w.heap.push _)[w.heap.size]?=_
     simp
    ·by_cases hk:k=st.hp.n
     ·subst hk
      rw [hl1] at hl
      simp at hl
     ·have:=hp.hr.lt k _ o (by rw [←hl];exact (Gm.aN _ _ _ hk).symm)
      omega
   ·exact e3 r hrm
theorem xg (hK:aJ rec) (hS:bR T rec m) {f:Operand} {ps:Array Tmp} {as bd:Code} {st:St} {L:List (Exit × St)} (h:kF rec f ps as bd st=some L)
  {γ:Gm} {w:World} {a:Act} {rd:Option Nat} {N0 N:Nat} (hp:Pre γ st a w rd N0) (hc:codeOk a.tmps.size (.rangeFunc f ps as bd)=true) (hf:dY γ st.hp.n N) (hN:∀ p ∈ L,p.2.hp.n≤N) (h0:N0≤w.heap.size) :
  (Code.rangeFunc f ps as bd).wpIn (FW rd) 0 T.P (gG γ st.hp w a.tmps.size rd N0 L) a w:=by
 simp only [codeOk,Bool.and_eq_true,List.all_eq_true] at hc
 obtain ⟨⟨⟨hc1,hc2⟩,hc3⟩,hc4⟩:=hc
 unfold kF at h
 split at h
 ·rename_i g args hg
  cases hr:rec (.call g args (st.hp.push (.loop .ready none st.fr ps as bd))) with
  | none=>rw [hr] at h;cases h
  | some R =>
   rw [hr] at h
   simp only at h
   have hsub:∀ r ∈ R,∃ M,gB st.hp.n st.fr st.rd r=some M∧∀ q ∈ M,q ∈ L:=fun r hrm=>bH h r hrm
   have hNR:∀ r ∈ R,r.hp.n≤N:=by
    intro r hrm
    obtain ⟨M,h1,h2⟩:=hsub r hrm
    obtain ⟨v,hp',s,pend,fr0,ps0,as0,bd0,rfl,_,_,h3⟩:=jK h1
    rcases h3 with ⟨_,rfl⟩|⟨_,rfl⟩|⟨id,_,rfl⟩ <;> exact hN _ (h2 _ (List.mem_singleton_self _))
   have hn1:st.hp.n < N:=by
    have:=Good.le (hK _ _ hr) hNR
    exact this
   have hnone:γ.loc st.hp.n=none:=hf _ (Nat.le_refl _) hn1
   obtain ⟨w1,D,ds,hh1,hsz1,hu1,hent,hdf⟩:=AO (T:=T) (_f:=f) (ps:=ps) (as:=as) (bd:=bd) hp h0 hnone
   refine wpIn_rangeFunc fun fn _=>?_
   let rcd:Loop:={state:=.ready,pending:=none,fn,tmps:=a.tmps,params:=ps,assign:=as,body:=bd,defers:=D}
   let w2:=w1.alloc (.loop rcd)
   let γ1:=γ.add st.hp.n w1.heap.size 0
   have hle:γ.Le γ1:=Gm.kG hnone
   have hh2:HR γ1 (st.hp.push (.loop .ready none st.fr ps as bd)).get w2:=by
    rw [Hp.h9]
    refine hh1.new hnone (obj:=.loop rcd) rfl ⟨rfl,by rw [hle.B];exact hh1.base,fn,a.tmps,D,?_,hp.fr.mono hle,hc3,hc4,fun p hpp=>Nat.le_of_ble_eq_true (hc2 p (by simpa using hpp))⟩
    show (w1.heap.push _)[w1.heap.size]?=_
    simp [rcd]
   have hs1:Step γ st.hp w γ1 (st.hp.push (.loop .ready none st.fr ps as bd)) w2 :=
    ⟨Nat.le_succ _,hle,fun k hk=>Gm.aN _ _ _ (by
     have:(st.hp.push (.loop .ready none st.fr ps as bd)).n=st.hp.n+1:=rfl
     omega),hh2,by
     rw [Hp.h9]
     exact hu1.trans (jh.new (obj:=.loop rcd) rfl rfl rfl rfl)⟩
   have hf1:dY γ1 (st.hp.push (.loop .ready none st.fr ps as bd)).n N:=hs1.fresh hf
   have hl1:γ1.loc st.hp.n=some (w1.heap.size,0):=Gm.bl _ _ _ _
   have hw1:Wf (st.hp.push (.loop .ready none st.fr ps as bd)):=(dc.push _ _).wf hp.wf
   have hv:=(BL hp.fr hc1).mono hle
   have ha:bu γ1 [.func (.yield st.hp.n) #[] #[]] [.func (.yield w1.heap.size) #[] #[]]:=.cons (.yield hl1) (bu.nil _)
   obtain ⟨d,hd⟩:=xe hg hv #[.func (.yield w1.heap.size) #[] #[]] T.P w2
   have hcall:∃ f' as',(invoke d.target d.args).run T.P w2=.ok (.enter f' as') w2∧CallsIn (FW none) 0 T.P f' as' w2 (pL γ1 (st.hp.push (.loop .ready none st.fr ps as bd)) w2 R):=by
    rcases rZ hS (g:=.fn g args) hg hv ha hr hw1 hh2 hf1 hNR hd with x|⟨l',f',tm,asg,bd',h1,_⟩
    ·exact x
    ·exfalso
     obtain ⟨fs,cs,e,_⟩:=jY hg
     rw [e] at hv
     obtain ⟨fs',cs',e',_,_⟩:=hv.lK
     rw [e'] at hd
     simp only [Deferred.ofValue] at hd
     cases hd
     obtain ⟨⟨fn',c',q1,q2,q3⟩,_⟩:=hS.call _ _ _ _ hr
     have:=og q1 q2 q3 (fs'++#[Value.func (.yield w1.heap.size) #[] #[]]++cs') w2
     have h1':(callFunc g (fs'++#[Value.func (.yield w1.heap.size) #[] #[]]++cs')).run T.P w2=_:=h1
     rw [this] at h1'
     cases h1'
   obtain ⟨f',as',hinv,hcl⟩:=hcall
   refine ⟨w1.heap.size,ds,w2,d,w2,f',as',w2,hent fn,?_,fun _ _=>trivial,hinv,fun h=>Bool.noConfusion h,?_⟩
   ·have hres0:resolve a.eval (rangeCall f w1.heap.size) 0=Deferred.ofValue (a.eval f) #[.func (.yield w1.heap.size) #[] #[]]:=by simp [resolve,Act.eval]
    rw [hres0];exact hd
   refine CallsIn.mono (F:=FW none) hcl fun e w3 hR=>?_
   obtain ⟨v,hp',v',γ',hm,rfl,_,hs2⟩:=hR
   obtain ⟨M,h1,h2⟩:=hsub _ hm
   obtain ⟨v0,hp0,s,pend,fr0,ps0,as0,bd0,e0,hget,hbusy,hres⟩:=jK h1
   cases e0
   have hl3:γ'.loc st.hp.n=some (w1.heap.size,0):=hs2.le.loc _ _ hl1
   obtain ⟨_,r,hr1,hr2,hr3,_⟩:=hs2.hr.oh hget hl3
   have hs3:=Step.vD (s':=.exhausted) (pend':=pend) hs2.hr hget hl3 hr1
   have hend:=run_endLoop (P:=T.P) hr1 (by rw [hr2];exact hbusy)
   have hsall:=(hs1.trans hs2).trans hs3
   have hwe:w3.putObj w1.heap.size (.loop {r with state:=.exhausted})=w3.putObj w1.heap.size (.loop {r with state:=.exhausted,pending:=pend}):=by rw [←hr3]
   rw [hwe] at hend
   rw [hr3] at hend
   let st':St:=⟨st.fr,hp'.put st.hp.n (.loop .exhausted pend fr0 ps0 as0 bd0),st.rd⟩
   have hkeep:dc st.hp st'.hp:=((dc.push _ _).trans ((hK _ _ hr).2 _ hm)).trans (dc.put hp' _ _ (by rw [hget];simp) (fun _=>rfl))
   have hpre:Pre γ' st' {a with defers:=ds++a.defers} (w3.putObj w1.heap.size (.loop {r with state:=.exhausted,pending:=pend})) rd N0 :=
    ⟨hp.fr.mono hsall.le,hsall.hr,hp.rd,((hdf _ _ hs1).step hs2).step hs3,hkeep.wf hp.wf,fun b hb=>let ⟨l,q1,q2⟩:=hp.lp b hb;⟨l,hsall.le.loc _ _ q1,hkeep.loop hp.wf l q2⟩⟩
   refine ⟨pend,_,hend,?_⟩
   rcases hres with ⟨e,rfl⟩|⟨e,rfl⟩|⟨id,e,rfl⟩
   ·subst e
    exact ⟨_,h2 _ (List.mem_singleton_self _),γ',rfl,hpre,rfl,hsall⟩
   ·subst e
    exact wpIn_ret ⟨_,h2 _ (List.mem_singleton_self _),γ',rfl,hpre,rfl,hsall⟩
   ·subst e
    exact wpIn_exit ⟨_,h2 _ (List.mem_singleton_self _),γ',rfl,hpre,rfl,hsall⟩
 ·cases h
end
end Go.RM
namespace Go.RM
open Go
theorem yS {F:Fence} {n:Nat} {P:Program} {c:Code} {Q:Exit→Act→World→Prop} {a:Act} {w:World} (h:c.wpIn F n P Q a w) (hq:∀ l a w,¬ Q (.goto l) a w):(Code.scope c).wpIn F n P Q a w:=by
 intro b k cs hro hb hr
 have h0:(lone (b.atR a (.code (.scope c) :: k)) cs w).fenced P F:=fenced_calm hb hr rfl
 have s1:step P (lone (b.atR a (.code (.scope c) :: k)) cs w)=.next (lone (b.atR a (.code c :: .inScope c :: k)) cs w):=step_lone_go (by simp [stepG,stepG.exec,Frame.atR])
 have s2:∀ a w,step P (lone (b.atR a (.inScope c :: k)) cs w)=.next (lone (b.atR a k) cs w):=fun a w=>step_lone_go (by simp [stepG,stepG.exec,Frame.atR])
 obtain ⟨e,a₁,w₁,hq1,harr⟩:=h b (.inScope c :: k) cs hro hb hr
 cases e with
 | normal=>exact ⟨.normal,a₁,w₁,hq1,.head h0 s1 (StepsIn.trans harr (.one (fenced_calm hb hr rfl) (s2 a₁ w₁)))⟩
 | exit id =>
  have hx:exitTo id (.inScope c :: k)=exitTo id k:=by simp [exitTo]
  exact ⟨.exit id,a₁,w₁,hq1,fun k' hk=>.head h0 s1 (harr.1 k' (by rw [hx];exact hk)),fun hr' hk=>let ⟨k₁,h1,h2⟩:=harr.2 hr' (by rw [hx];exact hk);⟨k₁,h1,.head h0 s1 h2⟩⟩
 | goto l=>exact absurd hq1 (hq l a₁ w₁)
 | ret=>exact ⟨_,a₁,w₁,hq1,.of_steps (.one h0 s1) harr⟩
 | panic ch=>exact ⟨_,a₁,w₁,hq1,.of_steps (.one h0 s1) harr⟩
 | outgrown=>exact ⟨_,a₁,w₁,hq1,.of_steps (.one h0 s1) harr⟩
section
variable {T : bf} {rec : pe → Option (List fc)} {m : Nat}
theorem ju (hT:bL T) (hK:aJ rec) (hS:bR T rec m) (hD:iA T rec):∀ (c:Code) (st:St) (L:List (Exit × St)),aM T rec c st=some L →
  ∀ {γ:Gm} {w:World} {a:Act} {rd:Option Nat} {N0 N:Nat},Pre γ st a w rd N0→codeOk a.tmps.size c=true→dY γ st.hp.n N→(∀ p ∈ L,p.2.hp.n≤N)→N0≤w.heap.size →
  c.wpIn (FW rd) 0 T.P (gG γ st.hp w a.tmps.size rd N0 L) a w:=by
 intro c
 induction c with
 | skip =>
  intro st L h γ w a rd N0 N hp hc hf hN h0
  rw [rU] at h
  cases h
  exact wpIn_skip ⟨_,List.mem_singleton_self _,γ,rfl,hp,rfl,Step.refl hp.hr⟩
 | label l =>
  intro st L h γ w a rd N0 N hp hc hf hN h0
  rw [qq] at h
  cases h
  exact wpIn_label ⟨_,List.mem_singleton_self _,γ,rfl,hp,rfl,Step.refl hp.hr⟩
 | exit id =>
  intro st L h γ w a rd N0 N hp hc hf hN h0
  rw [rX] at h
  cases h
  exact wpIn_exit ⟨_,List.mem_singleton_self _,γ,rfl,hp,rfl,Step.refl hp.hr⟩
 | ret =>
  intro st L h γ w a rd N0 N hp hc hf hN h0
  rw [uG] at h
  cases h
  exact wpIn_ret ⟨_,List.mem_singleton_self _,γ,rfl,hp,rfl,Step.refl hp.hr⟩
 | region id ops draw =>
  intro st L h γ w a rd N0 N hp hc hf hN h0
  rw [eR] at h
  cases draw with
  | false =>
   simp only [cond_false] at h
   cases hx:aR T rec ops.toList ops.toList st with
   | none=>rw [hx] at h;cases h
   | some M =>
    rw [hx] at h
    simp only [Option.some.injEq] at h
    subst h
    simp only [codeOk,Bool.and_eq_true] at hc
    exact wpIn_region_list (tS hT hK hS ops ops.toList st M hx γ a w hp rfl (Step.refl hp.hr) hc.2 hf (fun s hs=>hN (.normal,s) (List.mem_map.2 ⟨s,hs,rfl⟩)) fun s hs=>List.mem_map.2 ⟨s,hs,rfl⟩)
  | true =>
   simp only [cond_true] at h
   cases hx:bP T rec ops st with
   | none=>rw [hx] at h;cases h
   | some M =>
    rw [hx] at h
    simp only [Option.some.injEq] at h
    subst h
    exact hD id ops st M hx γ w a rd N0 N hp hc hf fun s hs=>hN (.normal,s) (List.mem_map.2 ⟨s,hs,rfl⟩)
 | seq x y ihx ihy =>
  intro st L h γ w a rd N0 N hp hc hf hN h0
  simp only [codeOk,Bool.and_eq_true] at hc
  rw [l9] at h
  cases hx:aM T rec x st with
  | none=>rw [hx] at h;cases h
  | some A =>
   rw [hx] at h
   simp only at h
   have hsub:∀ p ∈ A,∃ M,rE (aM T rec y) p=some M∧∀ q ∈ M,q ∈ L:=fun p hpm=>bH h p hpm
   have hA:∀ p ∈ A,p.2.hp.n≤N:=by
    intro p hpm
    obtain ⟨M,h1,h2⟩:=hsub p hpm
    obtain ⟨e,s⟩:=p
    unfold rE at h1
    cases e with
    | normal=>exact Good.le (gi hK y s M h1) fun q hq=>hN q (h2 q hq)
    | _=>simp only [Option.some.injEq] at h1;subst h1;exact hN _ (h2 _ (List.mem_singleton_self _))
   refine wpIn_seq (Go.wpIn_mono (ihx st A hx hp hc.1 hf hA h0) fun e a1 w1 hq=>?_)
   obtain ⟨p,hpm,γ1,he,hp1,hsz,hs⟩:=hq
   obtain ⟨M,h1,h2⟩:=hsub p hpm
   obtain ⟨e',s⟩:=p
   simp only at he hp1 hs
   subst he
   unfold rE at h1
   cases e with
   | normal =>
    refine Go.wpIn_mono (ihy s M h1 hp1 (by rw [hsz];exact hc.2) (hs.fresh hf) (fun q hq=>hN q (h2 q hq)) (Nat.le_trans h0 hs.gN.size)) fun e a2 w2 hq=>?_
    rw [hsz] at hq
    exact hq.trans hs h2
   | _=>simp only [Option.some.injEq] at h1;subst h1;exact ⟨_,h2 _ (List.mem_singleton_self _),γ1,rfl,hp1,hsz,hs⟩
 | cond x y z ihy ihz =>
  intro st L h γ w a rd N0 N hp hc hf hN h0
  simp only [codeOk,Bool.and_eq_true] at hc
  rw [iR] at h
  cases hv:aO st.fr x with
  | bool t =>
   rw [hv] at h
   simp only at h
   have he:=(BL hp.fr hc.1.1)
   rw [hv] at he
   refine wpIn_cond (he.bZ rfl) ?_
   cases t with
   | true=>exact ihy st L h hp hc.1.2 hf hN h0
   | false=>exact ihz st L h hp hc.2 hf hN h0
  | _=>rw [hv] at h;cases h
 | block id x ih =>
  intro st L h γ w a rd N0 N hp hc hf hN h0
  rw [jr] at h
  cases hx:aM T rec x st with
  | none=>rw [hx] at h;cases h
  | some A =>
   rw [hx] at h
   simp only [Option.some.injEq] at h
   subst h
   have hhp:∀ p:Exit × St,(eM id p).2=p.2:=by
    intro p
    obtain ⟨e,s⟩:=p
    unfold eM
    cases e <;> rfl
   refine wpIn_block (Go.wpIn_mono (ih st A hx hp hc hf (fun p hpm=>by
    have:=hN _ (List.mem_map.2 ⟨p,hpm,rfl⟩)
    rw [hhp] at this
    exact this) h0) fun e a1 w1 hq=>?_)
   obtain ⟨p,hpm,γ1,he,hp1,hsz,hs⟩:=hq
   have hm:eM id p ∈ A.map (eM id):=List.mem_map.2 ⟨p,hpm,rfl⟩
   obtain ⟨e',s⟩:=p
   simp only at he hp1 hs
   subst he
   cases e with
   | exit i =>
    show if i=id then _ else _
    by_cases hi:i=id
    ·subst hi
     rw [if_pos rfl]
     have hb:eM i (.exit i,s)=(.normal,s):=by unfold eM;simp
     rw [hb] at hm
     exact ⟨_,hm,γ1,rfl,hp1,hsz,hs⟩
    ·rw [if_neg hi]
     have hb:eM id (.exit i,s)=(.exit i,s):=by
      unfold eM
      have:Nat.beq i id=false:=by rw [Tr.beq_eq];simpa using hi
      simp only [this,cond_false]
     rw [hb] at hm
     exact ⟨_,hm,γ1,rfl,hp1,hsz,hs⟩
   | _=>exact ⟨_,hm,γ1,rfl,hp1,hsz,hs⟩
 | loop x ih =>
  intro st L h γ w a rd N0 N hp hc hf hN h0
  rw [kK] at h
  cases hx:rec (.loop x st) with
  | none=>rw [hx] at h;cases h
  | some R =>
   rw [hx] at h
   simp only at h
   have hm:∀ r ∈ R,∃ p ∈ L,r=.out p.1 p.2:=by
    intro r hrm
    obtain ⟨M,h1,h2⟩:=bH h r hrm
    cases r with
    | ret v hp=>cases h1
    | out e s=>simp only [wL,Option.some.injEq] at h1;subst h1;exact ⟨(e,s),h2 _ (List.mem_singleton_self _),rfl⟩
   exact wpIn_loop_rounds m (hS.loop x st R hx L hm γ w a rd N0 N hp hc hf (fun r hrm=>by
    obtain ⟨p,h1,rfl⟩:=hm r hrm
    exact hN p h1) h0)
 | rangeFunc f ps as bd _ _ =>
  intro st L h γ w a rd N0 N hp hc hf hN h0
  rw [js] at h
  exact xg hK hS h hp hc hf hN h0
 | goto l=>intro st L h;rw [rY] at h;cases h
 | scope c ih =>
  intro st L h γ w a rd N0 N hp hc hf hN h0
  rw [jt] at h
  obtain ⟨h1,h2⟩:=lI h
  refine yS (ih st L h1 hp hc hf hN h0) fun l a w hq=>?_
  obtain ⟨p,hpm,_,he,_⟩:=hq
  exact h2 p hpm l he.symm
 | refuse y=>intro st L h;rw [oe] at h;cases h
theorem vE {P:Program} {fn:Func} {tmps:Array Value} {R:Ending→World→Prop} {γ:Gm}:∀ (rs:List Nat) (w:World),rs.Nodup →
  (∀ r ∈ rs,w.heap[r]?=some (.deferred (some []))∧∀ k o,γ.loc k ≠ some (r,o)) →
  (∀ w',w'.os=w.os→w'.tape=w.tape→w'.output=w.output→w'.heap.size=w.heap.size→(∀ i,i ∉ rs→w'.heap[i]?=w.heap[i]?)→LeavesIn (FW none) 0 P fn tmps R [] .returning w') →
  LeavesInM (FW none) 0 P fn tmps R (rs.map fun r=>{target:=.collected r,args:=#[]}) .returning w:=by
 intro rs
 induction rs with
 | nil=>intro w _ _ h;exact h w rfl rfl rfl rfl (fun _ _=>rfl)
 | cons r rs ih =>
  intro w hnd hr h
  refine ⟨by simp,.inl ⟨r,w.putObj r (.deferred none),rfl,run_takeDeferred (hr r (by simp)).1,?_⟩⟩
  have hnd':=List.nodup_cons.1 hnd
  refine ih _ hnd'.2 (fun r' hr'=>?_) fun w' h1 h2 h3 h4 h5=>?_
  ·have hne:r' ≠ r:=fun e=>by subst e;exact hnd'.1 hr'
   rw [World.putObj_heap_other hne]
   exact hr r' (List.mem_cons_of_mem _ hr')
  ·refine h w' h1 h2 h3 (h4.trans World.putObj_size) fun i hi=>?_
   have h6:i ≠ r∧i ∉ rs:=⟨fun e=>hi (by rw [e];simp),fun e=>hi (List.mem_cons_of_mem _ e)⟩
   rw [h5 i h6.2,World.putObj_heap_other h6.1]
theorem yT (hT : bL T) (hK : aJ rec) (hS : bR T rec m) (hD : iA T rec) {f : FuncId} {args : List Value} {hp : Hp} {L : List fc} (h : fK T rec (.call f args hp) = some L) :
    (∃ fn c, T.P.funcs[f]? = some fn ∧ (fn.name == "runtime.NumGoroutine") = false ∧ fn.body = some c) ∧
    ∀ γ w args' N, Wf hp → HR γ hp.get w → dY γ hp.n N → (∀ r ∈ L, r.hp.n ≤ N) → bu γ args args' → CallsIn (FW none) 0 T.P f args'.toArray w (pL γ hp w L) := by
  obtain ⟨fn, c, R, h1, h2, h3, h4⟩ := ld h
  obtain ⟨q1, q2, q3⟩ := hT.fn f fn h1
  refine ⟨⟨fn, c, q1, q2, h2⟩, fun γ w args' N hw hh hf hN ha => ?_⟩
  refine callsIn_of_wp_marks (F := FW none) q1 h2 trivial ?_ rfl
  have hsub : ∀ p ∈ R, ∃ M, dS T fn.results.toList p = some M ∧ ∀ q ∈ M, q ∈ L := fun p hpm => bH h4 p hpm
  have hR : ∀ p ∈ R, p.2.hp.n ≤ N := by
    intro p hpm
    obtain ⟨M, e1, e2⟩ := hsub p hpm
    obtain ⟨_, vs, _, rfl⟩ := kL e1
    exact hN _ (e2 _ (List.mem_singleton_self _))
  have hok : codeOk (args'.toArray ++ Array.replicate (fn.ntmps - args'.toArray.size) undef).size c = true := w9 (by simp; omega) (q3 c h2)
  have hpre : Pre γ ⟨setArgs .leaf 0 args, hp, false⟩ { tmps := args'.toArray ++ Array.replicate (fn.ntmps - args'.toArray.size) undef, defers := [] } w none w.heap.size :=
    ⟨tE.args ha _, hh, rfl, vw.nil _ _ _, hw, fun b hb => (by cases hb)⟩
  refine Go.wpIn_mono (ju hT hK hS hD c _ R h3 hpre hok hf hR (Nat.le_refl _)) fun e a' w' hq => ?_
  obtain ⟨p, hpm, γ', he, hp', hsz, hs⟩ := hq
  obtain ⟨M, e1, e2⟩ := hsub p hpm
  obtain ⟨hne, vs, hvs, rfl⟩ := kL e1
  have hmem := e2 _ (List.mem_singleton.2 rfl)
  have key : LeavesInM (FW none) 0 T.P fn a'.tmps (pL γ hp w L) a'.defers .returning w' := by
    obtain ⟨rs, d1, d2, d3⟩ := hp'.df
    rw [d1]
    refine vE (γ := γ') rs w' d2 (fun r hr => ⟨(d3 r hr).2.1, (d3 r hr).2.2⟩) fun w2 k1 k2 k3 k4 k5 => ?_
    have hh2 : HR γ' p.2.hp.get w2 := hp'.hr.off (by omega) fun k b o hl => k5 b fun hb => (d3 b hb).2.2 k o hl
    obtain ⟨v', r1, r2⟩ := AN hT hh2 hp'.fr hvs
    refine ⟨v', r1, cm vs, p.2.hp, v', γ', hmem, rfl, r2, hs.n, hs.le, hs.out, hh2, hs.gN.off k1 k2 k3 (by omega) fun b hb => k5 b fun hbm => ?_⟩
    have := (d3 b hbm).1
    omega
  obtain ⟨e', s⟩ := p
  simp only at he hne
  subst he
  rcases hne with rfl | rfl
  · exact key
  · exact key
theorem xh (hT:bL T) (hK:aJ rec) (hS:bR T rec m) (hD:iA T rec) {l:Nat} {args:List Value} {hp:Hp} {L:List fc} (h:fK T rec (.round l args hp)=some L)
  (γ:Gm) (w:World) (args':List Value) (N b:Nat) (hw:Wf hp) (hl:γ.loc l=some (b,0)) (hh:HR γ hp.get w) (hf:dY γ hp.n N) (hN:∀ r ∈ L,r.hp.n≤N) (ha:bu γ args args') :
  ∃ r:Loop,w.heap[b]?=some (.loop r)∧args'.length=r.params.size ∧
   RoundIn (FW none) 0 T.P b r.fn ((r.params.zip args'.toArray).foldl (fun tmps (t,a)=>tmps.setIfInBounds t a) r.tmps) r.assign r.body w (pL γ hp w L):=by
 obtain ⟨pend,fr,ps,as,bd,R,h1,h2,h3,h4⟩:=jX h
 obtain ⟨_,r,r1,r2,r3,r4,r5,r6,r7,r8,r9,r10⟩:=hh.oh h1 hl
 subst r4 r5 r6
 refine ⟨r,r1,ha.1.symm.trans h2,?_⟩
 refine roundIn_of_wpIn (F:=FW none) trivial ?_
 have hz:(r.params.zip args'.toArray).foldl (fun tmps (t,a)=>tmps.setIfInBounds t a) r.tmps=(r.params.toList.zip args').foldl (fun tmps (t,a)=>tmps.setIfInBounds t a) r.tmps:=by
  rw [←Array.foldl_toList,Array.toList_zip]
 rw [hz]
 have hlen:r.params.toList.length=args'.length:=by rw [Array.length_toList];exact (ha.1.symm.trans h2).symm
 obtain ⟨f1,f2⟩:=w7 (γ:=γ) (r.params.toList.zip args) (r.params.toList.zip args') fr r.tmps r7 (by simp [ha.1]) fun i p p' x y=>by
  rw [List.getElem?_zip_eq_some] at x y
  obtain ⟨x1,x2⟩:=x
  obtain ⟨y1,y2⟩:=y
  rw [x1] at y1
  simp only [Option.some.injEq] at y1
  exact ⟨y1,ha.2 i _ _ x2 y2,by rw [←y1];exact r10 _ (by have:=List.mem_of_getElem? x1;simpa using this)⟩
 have hsub:∀ p ∈ R,∃ M,bY T rec l r.body p=some M∧∀ q ∈ M,q ∈ L:=fun p hpm=>bH h4 p hpm
 have endN:∀ {q:Exit × St} {M:List fc},eN l q=some M→(∀ x ∈ M,x ∈ L)→q.2.hp.n≤N:=by
  intro q M e1 e2
  obtain ⟨_,_,_,_,_,_,_,e3⟩:=iT e1
  rcases e3 with ⟨_,rfl⟩|⟨_,rfl⟩|⟨_,_,rfl⟩ <;> exact hN _ (e2 _ (List.mem_singleton_self _))
 have hR:∀ p ∈ R,p.2.hp.n≤N:=by
  intro p hpm
  obtain ⟨M,e1,e2⟩:=hsub p hpm
  obtain ⟨_,_,_,_,_,_,R2,_,e4,e5⟩:=gj e1
  have hg:=gi hK _ _ _ e4
  have:(p.2.hp.put l _).n≤N:=Good.le hg fun q hq=>by
   obtain ⟨M',x1,x2⟩:=bH e5 q hq
   exact endN x1 fun x hx=>e2 x (x2 x hx)
  exact this
 have hpre:Pre γ ⟨dG fr (r.params.toList.zip args),hp,true⟩ {tmps:=(r.params.toList.zip args').foldl (fun tmps (t,a)=>tmps.setIfInBounds t a) r.tmps,defers:=[]} w (some b) w.heap.size:=⟨f1,hh,rfl,vw.nil _ _ _,hw,fun b hb=>(by cases hb;exact ⟨l,hl,by rw [h1];rfl⟩)⟩
 refine Go.wpIn_mono (ju hT hK hS hD r.assign _ R h3 hpre (by rw [f2];exact r8) hf hR (Nat.le_refl _)) fun e a1 w1 hq=>?_
 obtain ⟨p,hpm,γ1,he,hp1,hsz,hs⟩:=hq
 obtain ⟨M,e1,e2⟩:=hsub p hpm
 obtain ⟨hn,pend1,fr1,ps1,as1,FI,R2,e3,e4,e5⟩:=gj e1
 rw [hn] at he
 subst he
 have hl1:=hs.le.loc _ _ hl
 obtain ⟨_,q,q1,q2,q3,_⟩:=hp1.hr.oh e3 hl1
 have hs2:=Step.vD (s':=.busy) (pend':=pend1) hp1.hr e3 hl1 q1
 have hbr:=run_beginRound (P:=T.P) q1 q2
 have hweq:w1.putObj b (.loop {q with state:=.busy})=w1.putObj b (.loop {q with state:=.busy,pending:=pend1}):=by rw [←q3]
 rw [hweq] at hbr
 refine ⟨_,hbr,?_⟩
 have hs12:=hs.trans hs2
 have hpre2:Pre γ1 ⟨p.2.fr,p.2.hp.put l (.loop .busy pend1 fr1 ps1 as1 FI),true⟩ a1 (w1.putObj b (.loop {q with state:=.busy,pending:=pend1})) (some b) w.heap.size :=
  ⟨hp1.fr,hs2.hr,rfl,hp1.df.step hs2,(dc.put p.2.hp _ _ (by rw [e3];simp) (fun _=>rfl)).wf hp1.wf,fun b hb=>(by cases hb;exact ⟨l,hl1,by rw [Hp.hU,if_pos rfl];rfl⟩)⟩
 have hsz':a1.tmps.size=r.tmps.size:=hsz.trans f2
 refine Go.wpIn_mono (ju hT hK hS hD r.body _ R2 e4 hpre2 (by rw [hsz'];exact r9) (hs12.fresh hf) (fun x hx=>by
  obtain ⟨M',x1,x2⟩:=bH e5 x hx
  exact endN x1 fun y hy=>e2 y (x2 y hy)) hs12.gN.size) fun e a2 w2 hq2=>?_
 obtain ⟨p2,hpm2,γ2,he2,hp2,hsz2,hs3⟩:=hq2
 obtain ⟨M2,x1,x2⟩:=bH e5 p2 hpm2
 obtain ⟨st4,pend4,fr4,ps4,as4,bd4,y1,y2⟩:=iT x1
 have hl2:=hs3.le.loc _ _ hl1
 obtain ⟨_,t,t1,_⟩:=hp2.hr.oh y1 hl2
 obtain ⟨e6,s6⟩:=p2
 simp only at he2 y2
 subst he2
 have fin:∀ (jump:Option Code) (s':LoopState) (bo:Bool),s'=(if jump.isNone then .ready else .done)→bo=jump.isNone→(fc.ret (.bool bo) (s6.hp.put l (.loop s' jump fr4 ps4 as4 bd4))) ∈ L →
   ∃ v w',(Instr.endRound b jump).run T.P w2=.ok v w'∧pL γ hp w L (.returned v) w':=by
  intro jump s' bo hs' hbo hmem
  subst hs' hbo
  refine ⟨_,_,run_endRound jump t1,.bool jump.isNone,_,.bool jump.isNone,γ2,hmem,rfl,.flat rfl,?_⟩
  exact (hs12.trans hs3).trans (Step.vD hp2.hr y1 hl2 t1)
 rcases y2 with ⟨rfl,rfl⟩|⟨rfl,rfl⟩|⟨id,rfl,rfl⟩
 ·exact fin none .ready true rfl rfl (e2 _ (x2 _ (List.mem_singleton_self _)))
 ·exact fin (some .ret) .done false rfl rfl (e2 _ (x2 _ (List.mem_singleton_self _)))
 ·exact fin (some (.exit id)) .done false rfl rfl (e2 _ (x2 _ (List.mem_singleton_self _)))
theorem yU (hT:bL T) (hK:aJ rec) (hS:bR T rec m) (hD:iA T rec) {c:Code} {st:St} {Lr:List fc} (h:fK T rec (.loop c st)=some Lr)
  (L:List (Exit × St)) (hL:∀ r ∈ Lr,∃ p ∈ L,r=.out p.1 p.2) (γ:Gm) (w:World) (a:Act) (rd:Option Nat) (N0 N:Nat) (hp:Pre γ st a w rd N0) (hc:codeOk a.tmps.size c=true) (hf:dY γ st.hp.n N)
  (hN:∀ r ∈ Lr,r.hp.n≤N) (h0:N0≤w.heap.size):Code.roundsIn (FW rd) 0 T.P c (gG γ st.hp w a.tmps.size rd N0 L) (m+1) a w:=by
 obtain ⟨R,h1,h2⟩:=lf h
 have hsub:∀ p ∈ R,∃ M,dH rec c p=some M∧∀ q ∈ M,q ∈ Lr:=fun p hpm=>bH h2 p hpm
 have hR:∀ p ∈ R,p.2.hp.n≤N:=by
  intro p hpm
  obtain ⟨M,e1,e2⟩:=hsub p hpm
  rcases iU e1 with ⟨_,e3⟩|⟨_,rfl⟩
  ·exact Good.le (hK _ _ e3) fun q hq=>hN q (e2 q hq)
  ·exact hN _ (e2 _ (List.mem_singleton_self _))
 rw [roundsIn_succ]
 refine Go.wpIn_mono (ju hT hK hS hD c st R h1 hp hc hf hR h0) fun e a1 w1 hq=>?_
 obtain ⟨p,hpm,γ1,he,hp1,hsz,hs⟩:=hq
 obtain ⟨M,e1,e2⟩:=hsub p hpm
 rcases iU e1 with ⟨e3,e4⟩|⟨e3,rfl⟩
 ·rw [e3] at he
  subst he
  have:=hS.loop c p.2 M e4 L (fun r hr=>hL r (e2 r hr)) γ1 w1 a1 rd N0 N hp1 (by rw [hsz];exact hc) (hs.fresh hf) (fun r hr=>hN r (e2 r hr)) (Nat.le_trans h0 hs.gN.size)
  rw [hsz] at this
  show Code.roundsIn _ _ _ _ _ _ _ _
  have mono:∀ k a' w',Code.roundsIn (FW rd) 0 T.P c (gG γ1 p.2.hp w1 a.tmps.size rd N0 L) k a' w'→Code.roundsIn (FW rd) 0 T.P c (gG γ st.hp w a.tmps.size rd N0 L) k a' w':=by
   intro k
   induction k with
   | zero=>intro a' w' h;exact h
   | succ k ih =>
    intro a' w' h
    rw [roundsIn_succ] at h ⊢
    refine Go.wpIn_mono h fun e a2 w2 hq=>?_
    cases e with
    | normal=>exact ih _ _ hq
    | _=>exact gG.trans hs hq fun _ h=>h
  exact mono _ _ _ this
 ·obtain ⟨q,hq,hqe⟩:=hL _ (e2 _ (List.mem_singleton_self _))
  obtain ⟨e',s⟩:=p
  simp only at he e3 hqe
  subst he
  cases hqe
  have:gG γ st.hp w a.tmps.size rd N0 L q.1 a1 w1:=⟨q,hq,γ1,rfl,hp1,hsz,hs⟩
  revert e3
  generalize q.1=e0 at this
  intro e3
  cases e0 <;> first|exact absurd rfl e3|exact this
theorem yV (hT:bL T) (hK:aJ rec) (hS:bR T rec m) (hD:iA T rec):bR T (fK T rec) (m+1) :=
 ⟨fun _ _ _ _ h=>yT hT hK hS hD h,fun _ _ _ _ h=>xh hT hK hS hD h,fun _ _ _ h=>yU hT hK hS hD h⟩
end
end Go.RM
