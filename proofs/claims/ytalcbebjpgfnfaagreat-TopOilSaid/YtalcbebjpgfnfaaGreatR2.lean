/-
  An abstract machine, and that its runs are the model's. Lemmas alone; no condition.
-/
import Derived.Test.YtalcbebjpgfnfaaGreatR1
import Derived.OrdersIn
import Derived.OwnWalkIn
import Derived.LoopNIn
import Derived.RangeFuncNested
namespace Go.RM
open Go.RowKit
section
variable {T : cr} {γ : Gm} {g : aI} {w : World} {n : Nat}
def gB (γ:Gm):List MapEntry→List MapEntry→Prop
 | [],[]=>True
 | e :: l,e' :: l'=>(VR γ e.key e'.key∧VR γ e.val e'.val∧e.born=e'.born)∧gB γ l l'
 | _,_=>False
theorem gB.Hf {γ:Gm}:∀ {l l':List MapEntry},l.length=l'.length →
  (∀ (i:Nat) (e e':MapEntry),l[i]?=some e→l'[i]?=some e'→VR γ e.key e'.key∧VR γ e.val e'.val∧e.born=e'.born)→gB γ l l'
 | [],[],_,_=>trivial
 | [],_ :: _,h,_=>by simp at h
 | _ :: _,[],h,_=>by simp at h
 | e :: l,e' :: l',h,hp=>⟨hp 0 e e' rfl rfl,gB.Hf (by simpa using h) fun i a a' x y=>hp (i+1) a a' (by simpa using x) (by simpa using y)⟩
theorem jS.list {es:List MapEntry} {es':Array MapEntry} (h:jS γ es es'):gB γ es es'.toList :=
 gB.Hf (by simpa using h.1) fun i e e' a b=>h.2 i e e' a (by simpa using b)
theorem gB.len {γ:Gm}:∀ {l l':List MapEntry},gB γ l l'→l.length=l'.length
 | [],[],_=>rfl
 | [],_ :: _,h=>h.elim
 | _ :: _,[],h=>h.elim
 | _ :: _,_ :: _,h=>by simp [gB.len h.2]
theorem gB.get {γ:Gm}:∀ {l l':List MapEntry} {i:Nat} {e':MapEntry},gB γ l l'→l'[i]?=some e'→∃ e,l[i]?=some e∧VR γ e.key e'.key∧VR γ e.val e'.val∧e.born=e'.born
 | [],[],i,e',_,h=>by simp at h
 | [],_ :: _,_,_,h,_=>h.elim
 | _ :: _,[],_,_,h,_=>h.elim
 | e :: l,x :: l',0,e',h,hx=>by simp at hx;subst hx;exact ⟨e,rfl,h.1⟩
 | e :: l,x :: l',i+1,e',h,hx=>by
  obtain ⟨y,a,b⟩:=gB.get (i:=i) h.2 (by simpa using hx)
  exact ⟨y,by simpa using a,b⟩
theorem gB.filter {γ:Gm} (p:Nat→Bool):∀ {l l':List MapEntry},gB γ l l'→gB γ (l.filter fun e=>p e.born) (l'.filter fun e=>p e.born)
 | [],[],_=>trivial
 | [],_ :: _,h=>h.elim
 | _ :: _,[],h=>h.elim
 | e :: l,e' :: l',h=>by
  have ih:=gB.filter p h.2
  have hb:=h.1.2.2
  by_cases hp:p e.born=true
  ·have hp':p e'.born=true:=by rw [←hb];exact hp
   rw [List.filter_cons_of_pos (by simpa using hp),List.filter_cons_of_pos (by simpa using hp')]
   exact ⟨h.1,ih⟩
  ·have hp':¬ p e'.born=true:=by rw [←hb];exact hp
   rw [List.filter_cons_of_neg (by simpa using hp),List.filter_cons_of_neg (by simpa using hp')]
   exact ih
theorem gB.append {γ:Gm}:∀ {a a' b b':List MapEntry},gB γ a a'→gB γ b b'→gB γ (a++b) (a'++b')
 | [],[],_,_,_,h=>h
 | [],_ :: _,_,_,h,_=>h.elim
 | _ :: _,[],_,_,h,_=>h.elim
 | _ :: _,_ :: _,_,_,h,k=>⟨h.1,gB.append h.2 k⟩
theorem gB.findIdx {γ:Gm} (p:Nat→Bool):∀ {l l':List MapEntry},gB γ l l'→(l.findIdx? fun e=>p e.born)=l'.findIdx? fun e=>p e.born
 | [],[],_=>rfl
 | [],_ :: _,h=>h.elim
 | _ :: _,[],h=>h.elim
 | e :: l,e' :: l',h=>by
  rw [List.findIdx?_cons,List.findIdx?_cons,h.1.2.2,gB.findIdx p h.2]
theorem gB.find {γ:Gm} (p:Nat→Bool):∀ {l l':List MapEntry},gB γ l l' →
  match l.find? (fun e=>p e.born) with
  | none=>l'.find? (fun e=>p e.born)=none
  | some e=>∃ e',l'.find? (fun e=>p e.born)=some e'∧VR γ e.key e'.key∧VR γ e.val e'.val∧e.born=e'.born
 | [],[],_=>rfl
 | [],_ :: _,h=>h.elim
 | _ :: _,[],h=>h.elim
 | e :: l,e' :: l',h=>by
  have hb:=h.1.2.2
  cases hp:p e.born with
  | true =>
   rw [List.find?_cons_of_pos (by simpa using hp),List.find?_cons_of_pos (by rw [←hb];simpa using hp)]
   exact ⟨e',rfl,h.1⟩
  | false =>
   rw [List.find?_cons_of_neg (by simp [hp]),List.find?_cons_of_neg (by rw [←hb];simp [hp])]
   exact gB.find p h.2
theorem tK (h:HR γ g w) {t:TypeId} {m m' s s' x x':Value} {e:cK} (ho:dH m s x g=some e) (hm:VR γ m m') (hs:VR γ s s') (hx:VR γ x x') :
  aZ T.P γ g w n (do Instr.entryStore t m' s' x';Pure.pure Next.skip) undef e:=by
 unfold dH at ho
 cases hb:iM m with
 | none=>rw [hb] at ho;simp at ho
 | some r =>
  cases hi:intOf? s with
  | none=>rw [hb,hi] at ho;simp at ho
  | some born =>
   cases hmp:map? (g r) with
   | none=>rw [hb,hi] at ho;simp only [hmp] at ho;cases ho
   | some q =>
    obtain ⟨es,c⟩:=q
    rw [hb,hi] at ho
    simp only [hmp] at ho
    obtain ⟨b,es',rfl,hl,hB,hw,he,hgo⟩:=cq h hb hmp hm
    obtain ⟨kk,rfl⟩:=vV hi
    obtain rfl:=hs.dm rfl
    cases hf:es.findIdx? (fun e=>(e.born:Int) == born) with
    | none=>rw [hf] at ho;cases ho
    | some i =>
     rw [hf] at ho
     simp only [Option.some.injEq] at ho
     subst ho
     have hf':es'.findIdx? (fun e=>(e.born:Int) == born)=some i:=by
      have:=gB.findIdx (fun k=>(k:Int) == born) he.list
      rw [hf] at this
      obtain ⟨l⟩:=es'
      rw [List.findIdx?_toArray]
      exact this.symm
     have hmod:jS γ (es.modify i fun e=>{e with val:=x}) (es'.modify i fun e=>{e with val:=x'}) :=
      he.modify i _ _ fun a a' h1 h2=>by obtain ⟨y,_,zz⟩:=he.2 i a a' h1 h2;exact ⟨y,hx,zz⟩
     obtain ⟨q1,q2,q3⟩:=sj (c2:=c) h hmp hl hB hw hmod
     refine ⟨undef,_,γ,.inr ⟨rT ?_,rfl⟩,Gm.Le.refl γ,fun _ _=>rfl,q1,VR.undef γ,q2⟩
     simp [Instr.entryStore,hgo,asInt,asIntOf,hf',q3]
theorem vl (hT:cL T) (h:HR γ g w) {t:TypeId} {m m' k k' x x':Value} {e:cK} (ho:e9 T t m k x g=some e) (hm:VR γ m m') (hk:VR γ k k') (hx:VR γ x x') :
  aZ T.P γ g w n (do Instr.mapUpdate t m' k' x';Pure.pure Next.skip) undef e:=by
 unfold e9 at ho
 cases hmt:kR T t with
 | none=>rw [hmt] at ho;simp at ho
 | some p =>
  obtain ⟨kt,z⟩:=p
  cases hb:iM m with
  | none=>rw [hmt,hb] at ho;simp at ho
  | some r =>
   cases hmp:map? (g r) with
   | none=>rw [hmt,hb] at ho;simp only [hmp] at ho;cases ho
   | some q =>
    obtain ⟨es,c⟩:=q
    rw [hmt,hb] at ho
    simp only [hmp] at ho
    obtain ⟨b,es',rfl,hl,hB,hw,he,hgo⟩:=cq h hb hmp hm
    obtain ⟨et,hu,hz⟩:=qT hT hmt
    unfold nH at ho
    cases hf:oy T.P false kt k es with
    | none=>rw [hf] at ho;simp at ho
    | some r' =>
     obtain ⟨rfl,hck,hfk⟩:=tJ hf he hk
     have hflk:flat k'=true:=by
      unfold oy at hf
      cases hc:(flat k' && es.all fun e=>flat e.key) with
      | false=>rw [hc] at hf;cases hf
      | true=>simp only [Bool.and_eq_true] at hc;exact hc.1
     cases r' with
     | some i =>
      obtain ⟨y,y',he1,he2,hvv,hkk,hkf,hborn,hrun⟩:=hfk
      rw [hf] at ho
      simp only [he1] at ho
      cases hsb:Instr.sameBits 10000 y.key k' with
      | false=>rw [hsb] at ho;cases ho
      | true =>
       rw [hsb] at ho
       simp only [cond_true,Option.some.injEq] at ho
       subst ho
       have hmod:jS γ (es.modify i fun e=>{e with key:=k',val:=x}) (es'.modify i fun e=>{e with key:=k',val:=x'}) :=
        he.modify i _ _ fun a a' h1 h2=>by obtain ⟨_,_,zz⟩:=he.2 i a a' h1 h2;exact ⟨VR.of_flat hflk,hx,zz⟩
       obtain ⟨q1,q2,q3⟩:=sj (c2:=c) h hmp hl hB hw hmod
       refine ⟨undef,_,γ,.inr ⟨rT ?_,rfl⟩,Gm.Le.refl γ,fun _ _=>rfl,q1,VR.undef γ,q2⟩
       have hstay:(Instr.keyThatStays y'.key k').run T.P w=.ok k' w:=by simp [Instr.keyThatStays,hkk,hsb]
       simp [Instr.mapUpdate,cT hu,hgo,hck,hrun,he2,hstay,q3]
     | none =>
      rw [hf] at ho
      simp only [Option.some.injEq] at ho
      subst ho
      have hpush:jS γ (es++[{key:=k',val:=x,born:=c}]) (es'.push {key:=k',val:=x',born:=c}):=he.push ⟨VR.of_flat hflk,hx,rfl⟩
      obtain ⟨q1,q2,q3⟩:=sj (c2:=c+1) h hmp hl hB hw hpush
      refine ⟨undef,_,γ,.inr ⟨rT ?_,rfl⟩,Gm.Le.refl γ,fun _ _=>rfl,q1,VR.undef γ,q2⟩
      simp [Instr.mapUpdate,cT hu,hgo,hck,hfk,q3]
theorem Af (h:HR γ g w) (hn:γ.loc n=none) {t:TypeId} :
  aZ T.P γ g w n (do Pure.pure (Next.value (←Instr.makeMap t none))) (.map (some n)) (.new (.map [] 0)):=by
 have hle:=Gm.nK (b:=w.heap.size) (c:=0) hn
 refine ⟨.map (some w.heap.size),w.alloc (.map #[] 0),γ.add n w.heap.size 0,.inl (bq (by simp [Instr.makeMap])),hle,fun k hk=>Gm.bK _ _ _ (fun e=>Bool.noConfusion (hk e:true=false)),?_,VR.map (Gm.cA _ _ _ _),lV.new (obj:=_) rfl rfl rfl rfl⟩
 refine HR.new (w:=w) h hn (obj:=_) rfl ⟨rfl,h.base,#[],?_,rfl,by simp⟩
 show (w.heap.push _)[w.heap.size]?=_
 simp
theorem En (h:HR γ g w) {it it':Value} {r m since last c:Nat} {seen:List Nat} {es:List MapEntry} (ha:addr? it=some (r,0)) (hg:g r=some (.iter m since seen last))
  (hm:map? (g m)=some (es,c)) (hv:VR γ it it') :
  ∃ b bm es',it'=.pointer (some ⟨b,0,none⟩)∧γ.loc r=some (b,0)∧γ.B≤b∧γ.loc m=some (bm,0)∧w.heap[b]?=some (.mapIter (some bm) since seen.toArray last) ∧
   w.heap[bm]?=some (.map es' c)∧jS γ es es':=by
 obtain ⟨b,d,hl,rfl⟩:=hv.addr ha
 obtain ⟨rfl,hB,bm,hlm,hw⟩:=h.iy r b d _ hg hl
 obtain ⟨_,_,es',hw',he⟩:=h.iy m bm 0 _ (map_some hm) hlm
 exact ⟨b,bm,es',rfl,hl,hB,hlm,hw,hw',he⟩
theorem BH (h:HR γ g w) {it it' v:Value} {e:cK} (ho:tF it g=some (v,e)) (hv:VR γ it it') :
  aZ T.P γ g w n (do Pure.pure (Next.value (←Instr.entry it'))) v e:=by
 unfold tF at ho
 split at ho
 ·rename_i r ha
  cases hg:g r with
  | none=>rw [hg] at ho;cases ho
  | some iy =>
   rw [hg] at ho
   cases iy with
   | iter m since seen stepped =>
    simp only at ho
    cases hs:seen.getLast? with
    | none=>rw [hs] at ho;simp at ho
    | some stamp =>
     cases hm:map? (g m) with
     | none=>rw [hs,hm] at ho;simp at ho
     | some q =>
      obtain ⟨es,clock⟩:=q
      rw [hs,hm] at ho
      simp only at ho
      cases hc:Nat.beq clock stepped with
      | false=>rw [hc] at ho;cases ho
      | true =>
       rw [hc] at ho
       simp only [cond_true,Option.map_eq_some_iff,Prod.mk.injEq] at ho
       obtain ⟨x,hx,rfl,rfl⟩:=ho
       have hcc:=Nat.eq_of_beq_eq_true hc
       subst hcc
       obtain ⟨b,bm,es',rfl,hl,hB,hlm,hw,hw',he⟩:=En h ha hg hm hv
       have hf:=gB.find (fun k=>k == stamp) he.list
       rw [hx] at hf
       obtain ⟨x',h1,h2,h3,_⟩:=hf
       have h1':es'.find? (fun e=>e.born == stamp)=some x':=by rw [←Array.find?_toList];exact h1
       have hg1:(getObj b).run T.P w=.ok (.mapIter (some bm) since seen.toArray clock) w:=by simp [getObj,Sem.run,hw]
       have hg2:(getObj bm).run T.P w=.ok (.map es' clock) w:=by simp [getObj,Sem.run,hw']
       have hback:seen.toArray.back?=some stamp:=by simpa using hs
       refine .pure h (bq (v:=.tuple #[x'.key,x'.val]) ?_) (VR.dz (.cons h2 (.cons h3 (.nil γ))))
       simp [Instr.entry,hg1,hg2,hback,h1']
   | _=>cases ho
 ·cases ho
theorem Dm (h:HR γ g w) {it it':Value} {ty:TypeId} {L:List (Value × cK)} (ho:rP it g=some L) (hv:VR γ it it') :
  ∃ v e,(v,e) ∈ L∧aZ T.P γ g w n (do Pure.pure (Next.value (←Instr.next it' false ty))) v e:=by
 unfold rP at ho
 split at ho
 ·rename_i r
  cases hg:g r with
  | none=>rw [hg] at ho;cases ho
  | some iy =>
   rw [hg] at ho
   cases iy with
   | iter m since seen last =>
    simp only at ho
    cases hm:map? (g m) with
    | none=>rw [hm] at ho;cases ho
    | some q =>
     obtain ⟨es,clock⟩:=q
     rw [hm] at ho
     simp only at ho
     obtain ⟨b,bm,es',rfl,hl,hB,hlm,hw,hw',he⟩:=En h rfl hg hm hv
     have hg1:(getObj b).run T.P w=.ok (.mapIter (some bm) since seen.toArray last) w:=by simp [getObj,Sem.run,hw]
     have hg2:(getObj bm).run T.P w=.ok (.map es' clock) w:=by simp [getObj,Sem.run,hw']
     unfold vO at ho
     cases hgone:(!seen.isEmpty && !es.isEmpty && es.all (fun e=>Nat.ble last e.born)) with
     | true=>rw [hgone] at ho;cases ho
     | false =>
      rw [hgone] at ho
      simp only [cond_false,Option.some.injEq] at ho
      subst ho
      have hleft:gB γ (es.filter fun e=>!seen.contains e.born) (es'.filter fun e=>!seen.toArray.contains e.born).toList:=by
       rw [Array.toList_filter]
       have:=gB.filter (fun k=>!seen.contains k) he.list
       simpa using this
      have hold:gB γ ((es.filter fun e=>!seen.contains e.born).filter fun e=>decide (e.born < since)) ((es'.filter fun e=>!seen.toArray.contains e.born).filter (·.born < since)).toList:=by
       rw [Array.toList_filter]
       exact gB.filter (fun k=>decide (k < since)) hleft
      have hnew:gB γ ((es.filter fun e=>!seen.contains e.born).filter fun e=>decide (e.born ≥ since)) ((es'.filter fun e=>!seen.toArray.contains e.born).filter (·.born ≥ since)).toList:=by
       rw [Array.toList_filter]
       exact gB.filter (fun k=>decide (k ≥ since)) hleft
      have hgone':(!seen.toArray.isEmpty && !es'.isEmpty && es'.all (·.born ≥ last))=false:=by
       have h1:es'.all (·.born ≥ last)=es.all (fun e=>Nat.ble last e.born):=by
        rw [←Array.all_toList]
        have:∀ {l l':List MapEntry},gB γ l l'→l'.all (fun e=>decide (e.born ≥ last))=l.all (fun e=>Nat.ble last e.born):=by
         intro l
         induction l with
         | nil=>intro l' hh;cases l' with
          | nil=>rfl
          | cons=>exact hh.elim
         | cons a l ih=>intro l' hh;cases l' with
          | nil=>exact hh.elim
          | cons a' l' =>
           simp only [List.all_cons,ih hh.2,ble_eq,←hh.1.2.2]
        exact this he.list
       rw [h1,he.empty]
       have h2:seen.toArray.isEmpty=seen.isEmpty:=by cases seen <;> rfl
       rw [h2];exact hgone
      generalize hO:(es.filter fun e=>!seen.contains e.born).filter (fun e=>decide (e.born < since))=old at hold ⊢
      generalize hN:(es.filter fun e=>!seen.contains e.born).filter (fun e=>decide (e.born ≥ since))=new at hnew ⊢
      generalize hO':(es'.filter fun e=>!seen.toArray.contains e.born).filter (·.born < since)=old' at hold
      generalize hN':(es'.filter fun e=>!seen.toArray.contains e.born).filter (·.born ≥ since)=new' at hnew
      have hboth:=hold.append hnew
      have hempty:old'.isEmpty=old.isEmpty:=by
       have:=hold.len
       cases old with
       | nil =>
        have hz:old'=#[]:=Array.eq_empty_of_size_eq_zero (by simpa using this.symm)
        subst hz;rfl
       | cons a l =>
        cases hx:old'.isEmpty with
        | false=>rfl
        | true =>
         have hz:old'=#[]:=by simpa using hx
         subst hz
         simp at this
      let cand:Array (Option MapEntry):=(if old'.isEmpty then #[none] else #[])++(old'++new').map some
      have hpos:0 < cand.size:=by
       show 0 < ((if old'.isEmpty then #[none] else #[])++(old'++new').map some).size
       cases hx:old'.isEmpty with
       | true=>simp;omega
       | false =>
        have:0 < old'.size:=by
         rcases Nat.eq_zero_or_pos old'.size with h0|h0
         ·have:old'=#[]:=Array.eq_empty_of_size_eq_zero h0
          subst this;simp at hx
         ·exact h0
        simp;omega
      obtain ⟨i,w1,hi,hw1,hch⟩:∃ i w1,i < cand.size∧(w1=w∨w1=w.drew)∧(choose (.mapNext cand.size)).run T.P w=.ok i w1:=by
       by_cases hf:cand.size≤1
       ·refine ⟨0,w,hpos,.inl rfl,?_⟩
        simp [choose,Sem.run,Question.forced,hf]
       ·refine ⟨_,w.drew,Nat.mod_lt (w.tape w.drawn (.mapNext cand.size)) hpos,.inr rfl,?_⟩
        have hf':decide (cand.size≤1)=false:=decide_eq_false hf
        simp only [choose,Sem.run,Question.forced,hf',Bool.false_eq_true,if_false,Question.cut]
        rfl
      have hw1h:w1.heap=w.heap:=by rcases hw1 with rfl|rfl <;> rfl
      have hw1o:w1.os=w.os∧w1.tape=w.tape∧w1.output=w.output:=by rcases hw1 with rfl|rfl <;> exact ⟨rfl,rfl,rfl⟩
      have hH1:HR γ g w1:=h.same hw1h
      have hU1:lV γ g w γ g w1:=lV.heap hw1h hw1o.1 hw1o.2.1 hw1o.2.2
      obtain ⟨x,hx⟩:∃ x,cand[i]?=some x:=⟨_,Array.getElem?_eq_getElem hi⟩
      have hmain:∀ u wu,(match x with
        | some e=>(do setObj b (.mapIter (some bm) since (seen.toArray.push e.born) clock);Pure.pure (.tuple #[.bool true,e.key,e.val]):Sem Value)
        | none=>Pure.pure (.tuple #[.bool false])).run T.P w1=.ok u wu→(Instr.next (.pointer (some ⟨b,0,none⟩)) false ty).run T.P w=.ok u wu:=by
       intro u wu hu
       have hx':((if old'.isEmpty=true then #[none] else #[])++Array.map some (old'++new'))[i]?=some x:=hx
       simp only [Instr.next,Sem.run_bind,hg1,Result.andThen_ok,hg2,hgone',Bool.false_eq_true,if_false,hO',hN']
       have hch':(choose (.mapNext ((if old'.isEmpty=true then #[none] else #[])++Array.map some (old'++new')).size)).run T.P w=.ok i w1:=hch
       rw [hch']
       simp only [Result.andThen_ok,hx']
       cases x with
       | none=>exact hu
       | some e=>simpa using hu
      by_cases hover:old'.isEmpty=true∧i=0
      ·
       obtain ⟨ho1,rfl⟩:=hover
       have hxn:x=none:=by
        have hx':((if old'.isEmpty=true then #[none] else #[])++Array.map some (old'++new'))[0]?=some x:=hx
        rw [if_pos ho1] at hx'
        rw [Array.getElem?_append_left (by simp)] at hx'
        simpa using hx'.symm
       subst hxn
       refine ⟨.tuple #[.bool false],.none,?_,?_⟩
       ·rw [←hempty,ho1];simp
       ·refine ⟨.tuple #[.bool false],w1,γ,.inl (bq (hmain _ _ rfl)),Gm.Le.refl γ,fun _ _=>rfl,hH1,VR.dz (l:=[.bool false]) (cD.of_flat rfl),hU1⟩
      ·
       obtain ⟨j,e',hj,rfl⟩:∃ (j:Nat) (e':MapEntry),(old'.toList++new'.toList)[j]?=some e'∧x=some e':=by
        have hx':((if old'.isEmpty=true then #[none] else #[])++Array.map some (old'++new'))[i]?=some x:=hx
        cases hox:old'.isEmpty with
        | true =>
         rw [hox] at hx' hover
         simp only [if_true] at hx'
         have hi0:i ≠ 0:=fun e=>hover ⟨rfl,e⟩
         rw [Array.getElem?_append_right (by simp;omega)] at hx'
         simp only [List.size_toArray,List.length_cons,List.length_nil,Array.getElem?_map] at hx'
         obtain ⟨e',h1,h2⟩:=Option.map_eq_some_iff.1 hx'
         exact ⟨i - 1,e',by rw [←Array.toList_append,Array.getElem?_toList];simpa using h1,h2.symm⟩
        | false =>
         rw [hox] at hx'
         simp only [Bool.false_eq_true,if_false,Array.empty_append,Array.getElem?_map] at hx'
         obtain ⟨e',h1,h2⟩:=Option.map_eq_some_iff.1 hx'
         exact ⟨i,e',by rw [←Array.toList_append,Array.getElem?_toList];exact h1,h2.symm⟩
       obtain ⟨e,he1,hk,hvv,hborn⟩:=hboth.get hj
       have hset:(setObj b (.mapIter (some bm) since (seen.toArray.push e'.born) clock)).run T.P w1=.ok () {w1 with heap:=w1.heap.setIfInBounds b (.mapIter (some bm) since (seen.toArray.push e'.born) clock)}:=by
        simp [setObj,Sem.run,hw1h,hw]
       have hwb:w1.heap[b]?=some (.mapIter (some bm) since seen.toArray last):=by rw [hw1h];exact hw
       have hltb:b < w1.heap.size:=(Array.getElem?_eq_some_iff.1 hwb).1
       obtain ⟨q1,q2,_⟩:=Ac (a:=.iter m since (seen++[e.born]) clock) (obj:=.mapIter (some bm) since (seen.toArray.push e'.born) clock) hH1 hg rfl hl hwb rfl
        ⟨rfl,hB,bm,hlm,by rw [hborn];simp [hltb]⟩
       refine ⟨.tuple #[.bool true,e.key,e.val],.put r (.iter m since (seen++[e.born]) clock),?_,?_⟩
       ·refine List.mem_append.2 (.inr ?_)
        exact List.mem_map.2 ⟨e,List.mem_of_getElem? he1,rfl⟩
       ·refine ⟨.tuple #[.bool true,e'.key,e'.val],_,γ,.inl (bq (hmain _ _ (by simp only [Sem.run_bind,hset,Result.andThen_ok,Sem.run_pure]))),Gm.Le.refl γ,fun _ _=>rfl,q1,
         VR.dz (.cons (.flat rfl) (.cons hk (.cons hvv (.nil γ)))),?_⟩
        exact hU1.trans q2
   | _=>cases ho
 ·cases ho
end
end Go.RM
namespace Go.RM
open Go.RowKit
section
variable {T : cr} {γ : Gm} {g : aI} {w : World} {n : Nat}
theorem cD.map {ρ ρ':Operand→Value} {l:List Operand} (h:∀ x ∈ l,VR γ (ρ x) (ρ' x)):cD γ (l.map ρ) (l.map ρ'):=by
 refine ⟨by simp,fun i v v' a b=>?_⟩
 rw [List.getElem?_map] at a b
 obtain ⟨x,hx,rfl⟩:=Option.map_eq_some_iff.1 a
 rw [hx] at b
 simp at b
 subst b
 exact h x (List.mem_of_getElem? hx)
theorem jT.map {ρ ρ':Operand→Value} {l:List (Nat × Operand)} (h:∀ x ∈ l,VR γ (ρ x.2) (ρ' x.2)):jT γ (l.map fun (i,x)=>(i,ρ x)) (l.map fun (i,x)=>(i,ρ' x)):=by
 refine ⟨by simp,fun i p p' a b=>?_⟩
 rw [List.getElem?_map] at a b
 obtain ⟨x,hx,rfl⟩:=Option.map_eq_some_iff.1 a
 rw [hx] at b
 simp at b
 subst b
 exact ⟨rfl,h x (List.mem_of_getElem? hx)⟩
theorem x9.map {ρ ρ':Operand→Value} {x:Option Operand} (h:∀ y,x=some y→VR γ (ρ y) (ρ' y)):x9 γ (x.map ρ) (x.map ρ'):=by
 cases x with
 | none=>trivial
 | some y=>exact h y rfl
theorem x9.dh {a b:Option Value} (h:x9 γ a b) (hf:a.toList.all flat=true):b=a:=by
 cases a with
 | none=>cases b with
  | none=>rfl
  | some _=>exact h.elim
 | some x=>cases b with
  | none=>exact h.elim
  | some y=>simp at hf;rw [VR.dh h hf]
theorem yc (hT:cL T) (h:HR γ g w) {b:Builtin} {l l':List Value} {tys:List TypeId} {ty:TypeId} {cs:Array Bool} {v:Value} {e:cK}
  (hn:e.news=true→γ.loc n=none) (ho:iW T n b l tys g=some (v,e)) (hl:cD γ l l'):aZ T.P γ g w n (builtin b tys.toArray ty cs l'.toArray) v e:=by
 unfold iW at ho
 have two:∀ {x y:Value},cD γ [x,y] l'→∃ x' y',l'=[x',y']∧VR γ x x'∧VR γ y y':=fun {x y} hh=>by
  match l',hh with
  | [x',y'],hh=>exact ⟨x',y',rfl,hh.2 0 _ _ rfl rfl,hh.2 1 _ _ rfl rfl⟩
  | [],hh=>exact absurd hh.1 (by simp)
  | [_],hh=>exact absurd hh.1 (by simp)
  | _ :: _ :: _ :: _,hh=>exact absurd hh.1 (by simp)
 have one:∀ {x:Value},cD γ [x] l'→∃ x',l'=[x']∧VR γ x x':=fun {x} hh=>by
  match l',hh with
  | [x'],hh=>exact ⟨x',rfl,hh.2 0 _ _ rfl rfl⟩
  | [],hh=>exact absurd hh.1 (by simp)
  | _ :: _ :: _,hh=>exact absurd hh.1 (by simp)
 split at ho
 ·split at ho
  ·obtain ⟨x',rfl,hx⟩:=one hl
   exact BE hT h ho hx
  ·cases ho
 ·exact FH h ho hl
 ·exact FI h ho hl
 ·split at ho
  ·rename_i s x t u
   obtain ⟨s',x',rfl,hs,hx⟩:=two hl
   split at ho
   ·rename_i hty
    obtain ⟨i,_,_,_,_,hu,_⟩:=hT.ty u _ hty
    exact Ab hT h hu hn ho hs hx
   ·cases ho
  ·cases ho
 ·cases ho
theorem BI (hT:cL T) (h:HR γ g w) {ρ ρ':Operand→Value} {o:Oper} {v:Value} {e:cK}
  (hn:e.news=true→γ.loc n=none) (ho:kV T n o.op ρ g=some (v,e)) (hρ:∀ x ∈ o.op.operands,VR γ (ρ x) (ρ' x)):aZ T.P γ g w n (execOp ρ' o) v e:=by
 obtain ⟨dst,op,ty,pos,after,guard⟩:=o
 simp only at ho hρ
 cases op <;> simp only [kV] at ho
 case move x =>
  simp only [Option.some.injEq,Prod.mk.injEq] at ho
  obtain ⟨rfl,rfl⟩:=ho
  exact .pure h rfl (hρ x (by simp [Op.operands]))
 case assign x =>
  simp only [Option.some.injEq,Prod.mk.injEq] at ho
  obtain ⟨rfl,rfl⟩:=ho
  exact .pure h rfl (hρ x (by simp [Op.operands]))
 case pick c a b=>exact Dl h ho (hρ c (by simp [Op.operands])) (hρ a (by simp [Op.operands])) (hρ b (by simp [Op.operands]))
 case alloc t=>exact BA hT h hn ho
 case box t x=>exact FE h hn ho (hρ x (by simp [Op.operands]))
 case build t parts =>
  have:=BD (n:=n) hT h ho (jT.map (ρ:=ρ) (ρ':=ρ') (l:=parts.toList) fun x hx=>hρ x.2 (by simp [Op.operands];exact ⟨x.1,by simpa using hx⟩))
  have e1:(parts.toList.map fun (i,x)=>(i,ρ' x)).toArray=parts.map fun (i,x)=>(i,ρ' x):=by apply Array.ext';simp
  rw [e1] at this
  exact this
 case buildSlice t len parts =>
  have:=tI hT h hn ho (jT.map (ρ:=ρ) (ρ':=ρ') (l:=parts.toList) fun x hx=>hρ x.2 (by simp [Op.operands];exact ⟨x.1,by simpa using hx⟩))
  have e1:(parts.toList.map fun (i,x)=>(i,ρ' x)).toArray=parts.map fun (i,x)=>(i,ρ' x):=by apply Array.ext';simp
  rw [e1] at this
  exact this
 case load t a=>exact Dk hT h ho (hρ a (by simp [Op.operands]))
 case store t a x=>exact Bz hT h ho (hρ a (by simp [Op.operands])) (hρ x (by simp [Op.operands]))
 case fieldAddr t a i=>exact ve hT h ho (hρ a (by simp [Op.operands]))
 case indexAddr t a ix=>exact vg hT h ho (hρ a (by simp [Op.operands])) (hρ ix (by simp [Op.operands]))
 case index t a ix =>
  cases hf:(flat (ρ a) && flat (ρ ix)) with
  | false=>rw [hf] at ho;cases ho
  | true =>
   rw [hf] at ho
   simp only [Bool.and_eq_true] at hf
   have:=aZ.reckon (n:=n) h ho
   rw [←(hρ a (by simp [Op.operands])).dh hf.1,←(hρ ix (by simp [Op.operands])).dh hf.2] at this
   exact this
 case field t a i =>
  cases hf:flat (ρ a) with
  | false=>rw [hf] at ho;cases ho
  | true =>
   rw [hf] at ho
   have:=aZ.reckon (n:=n) h ho
   rw [←(hρ a (by simp [Op.operands])).dh hf] at this
   exact this
 case binOp o t x y yt=>exact FG h ho (hρ x (by simp [Op.operands])) (hρ y (by simp [Op.operands]))
 case unOp o t x =>
  cases hf:flat (ρ x) with
  | false=>rw [hf] at ho;cases ho
  | true =>
   rw [hf] at ho
   have:=aZ.reckon (n:=n) h ho
   rw [←(hρ x (by simp [Op.operands])).dh hf] at this
   exact this
 case convert s d x =>
  cases hf:flat (ρ x) with
  | false=>rw [hf] at ho;cases ho
  | true =>
   rw [hf] at ho
   have:=aZ.reckon (n:=n) h ho
   rw [←(hρ x (by simp [Op.operands])).dh hf] at this
   exact this
 case makeInterface t x =>
  cases hf:flat (ρ x) with
  | false=>rw [hf] at ho;cases ho
  | true =>
   rw [hf] at ho
   have:=aZ.reckon (n:=n) h ho
   rw [←(hρ x (by simp [Op.operands])).dh hf] at this
   exact this
 case extract x i=>exact x7 h ho (hρ x (by simp [Op.operands]))
 case makeFunc fn first captured =>
  have:=vW (T:=T) (n:=n) h ho (cD.map (ρ:=ρ) (ρ':=ρ') (l:=first.toList) fun x hx=>hρ x (by simp [Op.operands];exact .inl (by simpa using hx)))
   (cD.map (ρ:=ρ) (ρ':=ρ') (l:=captured.toList) fun x hx=>hρ x (by simp [Op.operands];exact .inr (by simpa using hx)))
  have e1:(first.toList.map ρ').toArray=first.map ρ':=by apply Array.ext';simp
  have e2:(captured.toList.map ρ').toArray=captured.map ρ':=by apply Array.ext';simp
  rw [e1,e2] at this
  exact this
 case nilCheck x =>
  obtain ⟨a,hx,rfl,rfl⟩:=vX ho
  have hv:=hρ x (by simp [Op.operands])
  rw [hx] at hv
  have hp:∃ a',ρ' x=.pointer (some a'):=by
   generalize ρ' x=y at hv
   cases hv with
   | flat hf=>exact ⟨a,rfl⟩
   | ptr=>exact ⟨_,rfl⟩
  obtain ⟨a',ha'⟩:=hp
  refine .pure h (v':=.pointer (some a')) ?_ (by rw [←ha'];exact hv)
  simp [execOp,ha']
 case slice t x lo hi mx =>
  cases mx with
  | some _=>cases ho
  | none =>
   simp only at ho
   have hvx:=hρ x (by simp [Op.operands])
   have rlo:=x9.map (γ:=γ) (ρ:=ρ) (ρ':=ρ') (x:=lo) fun y hy=>hρ y (by subst hy;simp [Op.operands])
   have rhi:=x9.map (γ:=γ) (ρ:=ρ) (ρ':=ρ') (x:=hi) fun y hy=>hρ y (by subst hy;simp [Op.operands])
   show aZ T.P γ g w n (do Pure.pure (Next.value (←Instr.sliceAt t (ρ' x) (lo.map ρ') (hi.map ρ') none))) v e
   unfold iw at ho
   split at ho
   ·rename_i s hs
    cases hf:((lo.map ρ).toList.all flat && (hi.map ρ).toList.all flat) with
    | false=>rw [hf] at ho;cases ho
    | true =>
     rw [hf] at ho
     simp only [Bool.and_eq_true] at hf
     rw [rlo.dh hf.1,rhi.dh hf.2,hvx.dh (by rw [hs];rfl)]
     exact aZ.reckon h ho
   ·simp only [Option.map_eq_some_iff,Prod.mk.injEq] at ho
    obtain ⟨u,hu,rfl,rfl⟩:=ho
    exact BF hT h hu hvx rlo rhi
 case makeSlice t l c=>exact vj hT h hn ho (hρ l (by simp [Op.operands])) (hρ c (by simp [Op.operands]))
 case makeMap t r =>
  cases r with
  | some _=>cases ho
  | none =>
   simp only [Option.some.injEq,Prod.mk.injEq] at ho
   obtain ⟨rfl,rfl⟩:=ho
   exact Af h (hn rfl)
 case lookup t m k ok =>
  simp only [Option.map_eq_some_iff,Prod.mk.injEq] at ho
  obtain ⟨u,hu,rfl,rfl⟩:=ho
  exact Ae hT h hu (hρ m (by simp [Op.operands])) (hρ k (by simp [Op.operands]))
 case mapEntry t m k=>exact v5 hT h ho (hρ m (by simp [Op.operands])) (hρ k (by simp [Op.operands]))
 case entryStore t m s x =>
  simp only [Option.map_eq_some_iff,Prod.mk.injEq] at ho
  obtain ⟨u,hu,rfl,rfl⟩:=ho
  exact tK h hu (hρ m (by simp [Op.operands])) (hρ s (by simp [Op.operands])) (hρ x (by simp [Op.operands]))
 case mapUpdate t m k x =>
  simp only [Option.map_eq_some_iff,Prod.mk.injEq] at ho
  obtain ⟨u,hu,rfl,rfl⟩:=ho
  exact vl hT h hu (hρ m (by simp [Op.operands])) (hρ k (by simp [Op.operands])) (hρ x (by simp [Op.operands]))
 case range t x=>exact ya hT h hn ho (hρ x (by simp [Op.operands]))
 case next it s =>
  cases s with
  | false=>cases ho
  | true=>exact yb h ho (hρ it (by simp [Op.operands]))
 case entry it=>exact BH h ho (hρ it (by simp [Op.operands]))
 case call c =>
  obtain ⟨callee,args,tys⟩:=c
  unfold Bu at ho
  cases callee with
  | value f=>cases ho
  | invoke r m=>cases ho
  | builtin b =>
   simp only at ho
   have:=yc (ty:=ty) (cs:=args.map fun|.const _=>true|_=>false) hT h hn ho (cD.map (ρ:=ρ) (ρ':=ρ') (l:=args.toList) fun x hx=>hρ x (by simp [Op.operands,Call.operands];simpa using hx))
   have e1:(args.toList.map ρ').toArray=args.map ρ':=by apply Array.ext';simp
   rw [e1] at this
   have e2:execOp ρ' ⟨dst,.call ⟨.builtin b,args,tys⟩,ty,pos,after,guard⟩=builtin b tys ty (args.map fun|.const _=>true|_=>false) (args.map ρ'):=rfl
   rw [e2]
   simpa using this
 all_goals cases ho
end
end Go.RM
namespace Go.RM
def oP:Option bE→Bool
 | some (.loop ..)=>true
 | _=>false
def yV (g:aI):cK→Prop
 | .put k _|.app k _=>g k ≠ none∧oP (g k)=false
 | _=>True
def Eo (l:List Nat):cK→Prop
 | .put k _|.app k _=>k ∈ l
 | _=>True
section
variable {T : cr} {n : Nat} {g g' : aI}
theorem BJ {k:Nat} {x:List Value × Bool × Nat} (h:cells? (g k)=some x):g k ≠ none∧oP (g k)=false:=by
 generalize g k=b at h
 cases b with
 | none=>cases h
 | some b=>cases b <;> first|exact ⟨by simp,rfl⟩|cases h
theorem v7 {k:Nat} {x:List MapEntry × Nat} (h:map? (g k)=some x):g k ≠ none∧oP (g k)=false:=by
 generalize g k=b at h
 cases b with
 | none=>cases h
 | some b=>cases b <;> first|exact ⟨by simp,rfl⟩|cases h
theorem tL {v:Value} {k o:Nat} (h:addr? v=some (k,o)):k ∈ dw v:=by rw [yT h];simp [dw]
theorem iY {v:Value} {k:Nat} (h:iM v=some k):k ∈ dw v:=by rw [vZ h];simp [dw]
def sk (g:aI) (l:List Nat) (e:cK):Prop:=yV g e∧Eo l e
theorem gT {o:Option Value} {v:Value} {e:cK} {l:List Nat} (h:cE o=some (v,e)):sk g l e:=by
 obtain ⟨_,_,rfl⟩:=qS h
 exact ⟨trivial,trivial⟩
theorem Dn {t:TypeId} {a x v:Value} {e:cK} (h:kS T t a x g=some (v,e)):sk g (dw a) e:=by
 unfold kS at h
 split at h
 ·rename_i k o ha
  cases hc:cells? (g k) with
  | none=>rw [hc] at h;cases h
  | some c =>
   obtain ⟨cs,own,es⟩:=c
   cases ht:T.ty.get t with
   | none=>rw [hc,ht] at h;cases h
   | some r =>
    obtain ⟨lU,s,bytes,zero,agg,cI,eP⟩:=r
    rw [hc,ht] at h
    simp only at h
    cases hb:(own && Nat.beq x.cells.toList.length s && Nat.ble (o+s) cs.length && x.cells.toList.all bQ) <;> rw [hb] at h
    ·cases h
    ·simp at h;obtain ⟨_,rfl⟩:=h;exact ⟨BJ hc,tL ha⟩
 ·cases h
theorem yd {t:TypeId} {m k v:Value} {e:cK} (h:fq T t m k g=some (v,e)):sk g (dw m) e:=by
 unfold fq at h
 split at h
 ·rename_i kt z r _ hr
  split at h
  ·rename_i es clock hm
   unfold mY at h
   split at h
   ·split at h
    ·rename_i x _
     cases hb:Instr.sameBits 10000 x.key k <;> rw [hb] at h
     ·cases h
     ·simp at h;obtain ⟨_,rfl⟩:=h;exact ⟨v7 hm,iY hr⟩
    ·cases h
   ·rename_i z _ _
    cases hb:flat z <;> rw [hb] at h
    ·cases h
    ·simp at h;obtain ⟨_,rfl⟩:=h;exact ⟨v7 hm,iY hr⟩
   ·cases h
  ·cases h
 ·cases h
theorem vm {m s v:Value} {e:cK} (h:dH m s v g=some e):sk g (dw m) e:=by
 unfold dH at h
 split at h
 ·rename_i r _ hr _
  split at h
  ·rename_i es clock hm
   split at h
   ·simp at h;subst h;exact ⟨v7 hm,iY hr⟩
   ·cases h
  ·cases h
 ·cases h
theorem v8 {t:TypeId} {m k v:Value} {e:cK} (h:e9 T t m k v g=some e):sk g (dw m) e:=by
 unfold e9 at h
 split at h
 ·rename_i kt _ r _ hr
  split at h
  ·rename_i es clock hm
   unfold nH at h
   split at h
   ·split at h
    ·rename_i x _
     cases hb:Instr.sameBits 10000 x.key k <;> rw [hb] at h
     ·cases h
     ·simp at h;subst h;exact ⟨v7 hm,iY hr⟩
    ·cases h
   ·simp at h;subst h;exact ⟨v7 hm,iY hr⟩
   ·cases h
  ·cases h
 ·cases h
theorem BK {t:TypeId} {s x v:Value} {e:cK} (h:gQ T n t s x g=some (v,e)):sk g (dw s) e:=by
 unfold gQ at h
 split at h
 ·rename_i inf _
  split at h
  ·rename_i base ln cp
   split at h
   ·rename_i m old new _ _ _
    cases hb:(Nat.ble ((ln+m) * inf.bytes) 140737488355328 && Nat.ble (ln+m) 9223372036854775807 && new.all bQ && ct inf) <;> rw [hb] at h
    ·cases h
    ·simp only [cond_true] at h
     cases hm:Nat.beq m 0 <;> rw [hm] at h
     ·simp only [cond_false] at h
      unfold iU at h
      cases hc:Nat.beq cp ln <;> rw [hc] at h
      ·simp only [cond_false] at h
       split at h
       ·rename_i k
        split at h
        ·rename_i cs own es hcs
         cases hd:(own && Nat.beq cp (ln+1) && Nat.beq cs.length (ln * inf.size) && Nat.beq es inf.size) <;> rw [hd] at h
         ·cases h
         ·simp at h;obtain ⟨_,rfl⟩:=h;exact ⟨BJ hcs,by simp [dw,Eo]⟩
        ·cases h
       ·cases h
      ·simp at h;obtain ⟨_,rfl⟩:=h;exact ⟨trivial,trivial⟩
     ·simp at h;obtain ⟨_,rfl⟩:=h;exact ⟨trivial,trivial⟩
   ·cases h
  ·cases h
 ·cases h
theorem v9 {it v:Value} {e:cK} (h:kT it g=some (v,e)):yV g e:=by
 unfold kT at h
 split at h
 ·rename_i r _
  split at h
  ·rename_i s pos hr
   cases hb:Nat.blt pos s.data.toList.length <;> rw [hb] at h
   ·simp at h;obtain ⟨_,rfl⟩:=h;trivial
   ·simp at h;obtain ⟨_,rfl⟩:=h;exact ⟨by rw [hr];simp,by rw [hr];rfl⟩
  ·cases h
 ·cases h
theorem Hg {P:Program} {l:List Value} {v:Value} {e:cK} {ks:List Nat} (h:z5 P l=some (v,e)):sk g ks e:=by
 unfold z5 at h
 split at h
 ·simp at h;obtain ⟨_,rfl⟩:=h;exact ⟨trivial,trivial⟩
 ·cases hb:l.all flat <;> rw [hb] at h
  ·cases h
  ·exact gT h
theorem Hh {P:Program} {l:List Value} {v:Value} {e:cK} {ks:List Nat} (h:z6 P l=some (v,e)):sk g ks e:=by
 unfold z6 at h
 split at h
 ·simp at h;obtain ⟨_,rfl⟩:=h;exact ⟨trivial,trivial⟩
 ·cases hb:l.all flat <;> rw [hb] at h
  ·cases h
  ·exact gT h
theorem Dp {t:TypeId} {x v:Value} {e:cK} {ks:List Nat} (h:kU T t x g=some (v,e)):sk g ks e:=by
 unfold kU at h
 split at h
 ·simp at h;obtain ⟨_,rfl⟩:=h;exact ⟨trivial,trivial⟩
 ·split at h
  ·simp at h;obtain ⟨_,rfl⟩:=h;exact ⟨trivial,trivial⟩
  ·cases h
 ·simp at h;obtain ⟨_,rfl⟩:=h;exact ⟨trivial,trivial⟩
 ·simp at h;obtain ⟨_,rfl⟩:=h;exact ⟨trivial,trivial⟩
 ·cases h
def FJ (o:Op) (ρ:Operand→Value):List Nat :=
 match o with
 | .store _ a _=>dw (ρ a)
 | .mapEntry _ m _=>dw (ρ m)
 | .entryStore _ m _ _=>dw (ρ m)
 | .mapUpdate _ m _ _=>dw (ρ m)
 | .call ⟨.builtin .append,args,_⟩=>match args.toList.map ρ with
  | [s,_]=>dw s
  | _=>[]
 | _=>[]
theorem eE {ks:List Nat}:sk g ks .none:=⟨trivial,trivial⟩
theorem nN {ks:List Nat} {b:bE}:sk g ks (.new b):=⟨trivial,trivial⟩
theorem so {o:Op} {ρ:Operand→Value} {v:Value} {e:cK} (h:kV T n o ρ g=some (v,e)):yV g e∧((∀ it,o ≠ .next it true)→Eo (FJ o ρ) e):=by
 have key:∀ {ks:List Nat},sk g ks e→FJ o ρ=ks→yV g e∧((∀ it,o ≠ .next it true)→Eo (FJ o ρ) e):=fun hk he=>⟨hk.1,fun _=>by rw [he];exact hk.2⟩
 cases o <;> simp only [kV] at h
 case move x=>simp at h;obtain ⟨_,rfl⟩:=h;exact key eE rfl
 case assign x=>simp at h;obtain ⟨_,rfl⟩:=h;exact key eE rfl
 case pick c a b =>
  unfold uF at h
  split at h
  ·simp at h;obtain ⟨_,rfl⟩:=h;exact key eE rfl
  ·cases h
 case alloc t =>
  unfold tD at h
  split at h
  ·rename_i z _ _ _ _
   cases hb:z.cells.toList.all bF <;> rw [hb] at h
   ·cases h
   ·simp at h;obtain ⟨_,rfl⟩:=h;exact key nN rfl
  ·cases h
 case box t x =>
  unfold Fy at h
  cases hb:(ρ x).cells.toList.all bQ <;> rw [hb] at h
  ·cases h
  ·simp at h;obtain ⟨_,rfl⟩:=h;exact key nN rfl
 case build t parts =>
  unfold qR at h
  split at h
  ·rename_i z _ _ _
   cases hb:z.cells.toList.all bF <;> rw [hb] at h
   ·cases h
   ·simp only [cond_true,Option.map_eq_some_iff,Prod.mk.injEq] at h
    obtain ⟨_,_,_,rfl⟩:=h
    exact key eE rfl
  ·cases h
 case buildSlice t len parts =>
  unfold iN at h
  split at h
  ·rename_i inf _
   cases hb:(Nat.ble (len * inf.size) 65536 && ct inf) <;> rw [hb] at h
   ·cases h
   ·simp only [cond_true] at h
    split at h
    ·simp at h;obtain ⟨_,rfl⟩:=h;exact key nN rfl
    ·cases h
  ·cases h
 case load t a =>
  unfold iV at h
  split at h
  ·split at h
   ·rename_i s _ _ agg _ _ _ _
    cases agg
    ·simp only [cond_false,Option.map_eq_some_iff,Prod.mk.injEq] at h
     obtain ⟨_,_,_,rfl⟩:=h
     exact key eE rfl
    ·simp only [cond_true,Option.map_eq_some_iff,Prod.mk.injEq] at h
     obtain ⟨_,_,_,rfl⟩:=h
     exact key eE rfl
   ·cases h
  ·cases h
 case store t a x=>exact key (Dn h) rfl
 case fieldAddr t a i =>
  unfold eA at h
  split at h
  ·split at h
   ·rename_i s _
    cases hb:Nat.ble 1 s <;> rw [hb] at h
    ·cases h
    ·simp at h;obtain ⟨_,rfl⟩:=h;exact key eE rfl
   ·cases h
  ·cases h
 case indexAddr t a ix =>
  have hi:∀ {eP k o len:Nat} {j:Int},qo eP k o len j=some (v,e)→sk g [] e:=by
   intro eP k o len j h
   unfold qo at h
   cases hb:(G3 0 j && FA j (.ofNat len)) <;> rw [hb] at h
   ·cases h
   ·simp at h;obtain ⟨_,rfl⟩:=h;exact eE
  unfold eD at h
  split at h
  ·split at h
   ·exact key (hi h) rfl
   ·cases h
  ·split at h
   ·exact key (hi h) rfl
   ·cases h
  ·cases h
 case index t a ix =>
  cases hb:(flat (ρ a) && flat (ρ ix)) <;> rw [hb] at h
  ·cases h
  ·exact key (gT h) rfl
 case field t a i =>
  cases hb:flat (ρ a) <;> rw [hb] at h
  ·cases h
  ·exact key (gT h) rfl
 case binOp o t x y yt =>
  have hs:∀ {a b:Value},fk T.P o t x y a b=some (v,e)→sk g [] e:=by
   intro a b h
   unfold fk at h
   cases hb:(flat a && flat b) <;> rw [hb] at h
   ·cases h
   ·exact gT h
  unfold hU at h
  split at h
  ·split at h
   ·simp at h;obtain ⟨_,rfl⟩:=h;exact key eE rfl
   ·exact key (hs h) rfl
  ·exact key (hs h) rfl
 case unOp o t x =>
  cases hb:flat (ρ x) <;> rw [hb] at h
  ·cases h
  ·exact key (gT h) rfl
 case convert s d x =>
  cases hb:flat (ρ x) <;> rw [hb] at h
  ·cases h
  ·exact key (gT h) rfl
 case makeInterface t x =>
  cases hb:flat (ρ x) <;> rw [hb] at h
  ·cases h
  ·exact key (gT h) rfl
 case extract x i =>
  unfold gC at h
  split at h
  ·simp only [Option.map_eq_some_iff,Prod.mk.injEq] at h
   obtain ⟨_,_,_,rfl⟩:=h
   exact key eE rfl
  ·cases h
 case makeFunc fn first captured =>
  unfold mZ at h
  split at h
  ·simp at h;obtain ⟨_,rfl⟩:=h;exact key eE rfl
  ·cases h
 case nilCheck x =>
  unfold jn at h
  split at h
  ·simp at h;obtain ⟨_,rfl⟩:=h;exact key eE rfl
  ·cases h
 case slice t x lo hi mx =>
  cases mx with
  | some _=>cases h
  | none =>
   simp only at h
   unfold iw at h
   split at h
   ·cases hb:((lo.map ρ).toList.all flat && (hi.map ρ).toList.all flat) <;> rw [hb] at h
    ·cases h
    ·exact key (gT h) rfl
   ·simp only [Option.map_eq_some_iff,Prod.mk.injEq] at h
    obtain ⟨_,_,_,rfl⟩:=h
    exact key eE rfl
 case makeSlice t l c =>
  unfold jm at h
  split at h
  ·rename_i inf _
   split at h
   ·rename_i l c _ _
    cases hb:(Nat.ble l c && Nat.ble (inf.bytes * c) 140737488355328 && Nat.ble c 9223372036854775807 && ct inf) <;> rw [hb] at h
    ·cases h
    ·simp at h;obtain ⟨_,rfl⟩:=h;exact key nN rfl
   ·cases h
  ·cases h
 case makeMap t r =>
  cases r with
  | some _=>cases h
  | none=>simp at h;obtain ⟨_,rfl⟩:=h;exact key nN rfl
 case lookup t m k ok =>
  simp only [Option.map_eq_some_iff,Prod.mk.injEq] at h
  obtain ⟨_,_,_,rfl⟩:=h
  exact key eE rfl
 case mapEntry t m k=>exact key (yd h) rfl
 case entryStore t m s x =>
  simp only [Option.map_eq_some_iff,Prod.mk.injEq] at h
  obtain ⟨_,hu,_,rfl⟩:=h
  exact key (vm hu) rfl
 case mapUpdate t m k x =>
  simp only [Option.map_eq_some_iff,Prod.mk.injEq] at h
  obtain ⟨_,hu,_,rfl⟩:=h
  exact key (v8 hu) rfl
 case range t x =>
  unfold tE at h
  split at h
  ·split at h
   ·simp at h;obtain ⟨_,rfl⟩:=h;exact key nN rfl
   ·cases h
  ·simp at h;obtain ⟨_,rfl⟩:=h;exact key nN rfl
  ·cases h
 case next it s =>
  cases s with
  | false=>cases h
  | true=>exact ⟨v9 h,fun hn=>absurd rfl (hn it)⟩
 case entry it =>
  unfold tF at h
  split at h
  ·split at h
   ·split at h
    ·rw [cond_eq_ite] at h
     split at h <;> rename_i hb
     ·simp only [Option.map_eq_some_iff,Prod.mk.injEq] at h
      obtain ⟨_,_,_,rfl⟩:=h
      exact key eE rfl
     ·cases h
    ·cases h
   ·cases h
  ·cases h
 case call c =>
  obtain ⟨callee,args,tys⟩:=c
  unfold Bu at h
  cases callee with
  | value f=>cases h
  | invoke r m=>cases h
  | builtin b =>
   simp only at h
   unfold iW at h
   split at h
   ·split at h
    ·exact key (Dp (ks:=[]) h) rfl
    ·cases h
   ·exact key (Hg (ks:=[]) h) rfl
   ·exact key (Hh (ks:=[]) h) rfl
   ·split at h
    ·rename_i s x t u ha _
     split at h
     ·refine key (BK h) ?_
      unfold FJ
      simp only [ha]
     ·cases h
    ·cases h
   ·cases h
 all_goals cases h
theorem BL {it:Value} {L:List (Value × cK)} (h:rP it g=some L):∀ p ∈ L,yV g p.2:=by
 unfold rP at h
 split at h
 ·rename_i r
  split at h
  ·rename_i m since seen last hr
   split at h
   ·rename_i es clock hm
    unfold vO at h
    intro p hp
    cases hb:(!seen.isEmpty && !es.isEmpty && es.all (fun e=>Nat.ble last e.born)) with
    | true=>rw [hb] at h;cases h
    | false =>
     rw [hb] at h
     simp only [cond_false,Option.some.injEq] at h
     subst h
     rcases List.mem_append.1 hp with hp|hp
     ·revert hp
      generalize (List.filter (fun e=>decide (e.born < since)) (List.filter (fun e=>!seen.contains e.born) es))=old
      cases old with
      | nil=>simp only [List.isEmpty_nil,cond_true,List.mem_singleton];intro e;subst e;trivial
      | cons=>simp
     ·obtain ⟨x,_,rfl⟩:=List.mem_map.1 hp
      exact ⟨by rw [hr];simp,by rw [hr];rfl⟩
   ·cases h
  ·cases h
 ·cases h
theorem oQ {size:Nat} {v:Value} (h:∀ k ∈ dw v,g' k=g k):bU g' size v=bU g size v:=by
 unfold bU
 split
 ·rfl
 ·rw [h _ (by simp [dw])]
 ·rfl
theorem ye {t:TypeId} {s x:Value} (hs:∀ k ∈ dw s,g' k=g k) (hx:∀ k ∈ dw x,g' k=g k):gQ T n t s x g'=gQ T n t s x g:=by
 unfold gQ
 have e1:∀ size,bU g' size x=bU g size x:=fun _=>oQ hx
 have e2:∀ size,bU g' size s=bU g size s:=fun _=>oQ hs
 simp only [e1,e2]
 split
 ·split
  ·rename_i base ln cp
   have hb:∀ inf m old new,iU n inf base ln cp m old new g'=iU n inf base ln cp m old new g:=by
    intro inf m old new
    unfold iU
    split
    ·rename_i k
     rw [hs k (by simp [dw])]
    ·rfl
   simp only [hb]
  ·rfl
 ·rfl
theorem BM {t:TypeId} {a:Value} (h:∀ k ∈ dw a,g' k=g k):iV T t a g'=iV T t a g:=by
 unfold iV
 cases ha:addr? a with
 | none=>rfl
 | some p=>simp only;rw [h p.1 (tL (o:=p.2) ha)]
theorem Ag {t:TypeId} {a v:Value} (h:∀ k ∈ dw a,g' k=g k):kS T t a v g'=kS T t a v g:=by
 unfold kS
 cases ha:addr? a with
 | none=>rfl
 | some p=>simp only;rw [h p.1 (tL (o:=p.2) ha)]
theorem yf {t:TypeId} {m k:Value} {ok:Bool} (h:∀ k ∈ dw m,g' k=g k):lZ T t m k ok g'=lZ T t m k ok g:=by
 unfold lZ
 cases hm:iM m with
 | none=>rfl
 | some r=>simp only [Option.bind_some];rw [h r (iY hm)]
theorem vn {t:TypeId} {m k:Value} (h:∀ k ∈ dw m,g' k=g k):fq T t m k g'=fq T t m k g:=by
 unfold fq
 cases hm:iM m with
 | none=>cases kR T t <;> rfl
 | some r=>cases kR T t with
  | none=>rfl
  | some p=>simp only [h r (iY hm)]
theorem sv {m s v:Value} (h:∀ k ∈ dw m,g' k=g k):dH m s v g'=dH m s v g:=by
 unfold dH
 cases hm:iM m with
 | none=>rfl
 | some r=>cases intOf? s with
  | none=>rfl
  | some p=>simp only [h r (iY hm)]
theorem tM {t:TypeId} {m k v:Value} (h:∀ k ∈ dw m,g' k=g k):e9 T t m k v g'=e9 T t m k v g:=by
 unfold e9
 cases hm:iM m with
 | none=>cases kR T t <;> rfl
 | some r=>cases kR T t with
  | none=>rfl
  | some p=>simp only [h r (iY hm)]
theorem Ah {t:TypeId} {x:Value} (h:∀ k ∈ dw x,g' k=g k):kU T t x g'=kU T t x g:=by
 unfold kU
 split
 ·rfl
 ·rw [h _ (by simp [dw])]
 ·rfl
 ·rfl
 ·rfl
theorem yW {o:Op} {ρ:Operand→Value} {r wr:List Nat} (ht:qw o ρ=some (r,wr)) (hr:∀ k ∈ r,g' k=g k) (hw:∀ k ∈ wr,g' k=g k):kV T n o ρ g'=kV T n o ρ g:=by
 cases o <;> simp only [kV] <;> simp only [qw,Option.some.injEq,Prod.mk.injEq,reduceCtorEq] at ht
 case load t a=>obtain ⟨rfl,rfl⟩:=ht;exact BM hr
 case store t a x=>obtain ⟨rfl,rfl⟩:=ht;exact Ag hw
 case lookup t m k ok=>obtain ⟨rfl,rfl⟩:=ht;rw [yf hr]
 case mapEntry t m k=>obtain ⟨rfl,rfl⟩:=ht;exact vn hw
 case entryStore t m s x=>obtain ⟨rfl,rfl⟩:=ht;rw [sv hw]
 case mapUpdate t m k x=>obtain ⟨rfl,rfl⟩:=ht;rw [tM hw]
 case makeMap t r=>cases r <;> rfl
 case slice t x lo hi mx=>cases mx <;> rfl
 case call c =>
  obtain ⟨callee,args,tys⟩:=c
  cases callee with
  | value f=>rfl
  | invoke r m=>rfl
  | builtin b =>
   unfold Bu iW
   simp only
   cases b <;> try rfl
   case len =>
    simp only at ht
    split at ht
    ·rename_i x hx
     simp only [Option.some.injEq,Prod.mk.injEq] at ht
     obtain ⟨rfl,rfl⟩:=ht
     rw [hx]
     cases tys.toList with
     | nil=>rfl
     | cons t l=>cases l with
      | nil=>exact Ah hr
      | cons=>rfl
    ·cases ht
   case append =>
    simp only at ht
    split at ht
    ·rename_i s x hx
     simp only [Option.some.injEq,Prod.mk.injEq] at ht
     obtain ⟨rfl,rfl⟩:=ht
     rw [hx]
     have e1:∀ t,gQ T n t s x g'=gQ T n t s x g:=fun _=>ye hw hr
     cases tys.toList with
     | nil=>rfl
     | cons t l=>cases l with
      | nil=>rfl
      | cons u l2=>cases l2 with
       | nil=>simp only [e1]
       | cons=>rfl
    ·cases ht
theorem we {o:Op} {ρ:Operand→Value} {r wr:List Nat} (ht:qw o ρ=some (r,wr)):(∀ it,o ≠ .next it true)∧FJ o ρ=wr:=by
 refine ⟨fun it e=>(by subst e;cases ht),?_⟩
 cases o <;> simp only [qw,Option.some.injEq,Prod.mk.injEq,reduceCtorEq] at ht <;> try (exact ht.2)
 case call c =>
  obtain ⟨callee,args,tys⟩:=c
  cases callee with
  | value f=>simp only [Option.some.injEq,Prod.mk.injEq] at ht;exact ht.2
  | invoke r m=>simp only [Option.some.injEq,Prod.mk.injEq] at ht;exact ht.2
  | builtin b =>
   cases b <;> try (simp only [Option.some.injEq,Prod.mk.injEq] at ht;exact ht.2)
   case len =>
    simp only at ht
    split at ht
    ·simp only [Option.some.injEq,Prod.mk.injEq] at ht;exact ht.2
    ·cases ht
   case append =>
    simp only at ht
    split at ht
    ·rename_i s x hx
     simp only [Option.some.injEq,Prod.mk.injEq] at ht
     simp only [FJ,hx];exact ht.2
    ·cases ht
end
end Go.RM
namespace Go.RM
def Wf (h:Hp):Prop:=∀ k,h.n≤k→h.get k=none
structure eT (a b:Hp):Prop where
 n:a.n≤b.n
 lo:b.lo≤a.lo
 same:∀ k,k < a.n→k < b.lo→b.get k=a.get k
 wf:Wf a→Wf b
 loop:Wf a→∀ k,oP (a.get k)=true→oP (b.get k)=true
theorem eT.refl (a:Hp):eT a a:=⟨Nat.le_refl _,Nat.le_refl _,fun _ _ _=>rfl,id,fun _ _ h=>h⟩
theorem eT.trans {a b c:Hp} (h:eT a b) (k:eT b c):eT a c :=
 ⟨Nat.le_trans h.n k.n,Nat.le_trans k.lo h.lo,fun i hi hl=>(k.same i (Nat.lt_of_lt_of_le hi h.n) hl).trans (h.same i hi (Nat.lt_of_lt_of_le hl k.lo)),fun hw=>k.wf (h.wf hw),fun hw i hi=>k.loop (h.wf hw) i (h.loop hw i hi)⟩
theorem eT.push (a:Hp) (b:bE):eT a (a.push b) :=
 ⟨Nat.le_succ _,Nat.le_refl _,fun k hk _=>by rw [Hp.fB,if_neg (by omega)],fun hw k hk=>by
  have hk':a.n+1≤k:=hk
  rw [Hp.fB,if_neg (by omega)];exact hw k (by omega),fun hw k hk=>by
  have hne:k ≠ a.n:=fun e=>by rw [hw k (by omega)] at hk;cases hk
  rw [Hp.fB,if_neg hne];exact hk⟩
theorem eT.put (a:Hp) (i:Nat) (b:bE) (hi:a.get i ≠ none) (hl:oP (a.get i)=true→oP (some b)=true):eT a (a.put i b) :=
 ⟨Nat.le_refl _,Nat.min_le_left _ _,fun k _ hl=>by
  have:k < i:=Nat.lt_of_lt_of_le hl (Nat.min_le_right _ _)
  rw [Hp.kn,if_neg (by omega)],fun hw k hk=>by
  have hk':a.n≤k:=hk
  rw [Hp.kn,if_neg (fun e=>hi (by rw [←e];exact hw k hk'))];exact hw k hk',fun _ k hk=>by
  rw [Hp.kn]
  split
  ·rename_i e
   rw [e] at hk
   exact hl hk
  ·exact hk⟩
theorem eT.app (a:Hp) (e:cK) (he:yV a.get e):eT a (a.app e):=by
 cases e with
 | none=>exact .refl a
 | new b=>exact .push a b
 | put k b=>exact .put a k b he.1 (fun h=>by rw [he.2] at h;cases h)
 | app k b=>exact (eT.put a k .dead he.1 (fun h=>by rw [he.2] at h;cases h)).trans (eT.push _ _)
section bind
variable {α β : Type}
theorem yX (f:α→Option (List β)):cY [] f=some []:=rfl
theorem gp (a:α) (f:α→Option (List β)):cY [a] f=f a:=rfl
theorem kZ (a b:α) (l:List α) (f:α→Option (List β)):cY (a :: b :: l) f=match f a with
 | some x=>(cY (b :: l) f).map (x++·)
 | none=>none:=rfl
theorem cM {f:α→Option (List β)}:∀ {L:List α} {M:List β},cY L f=some M→∀ a ∈ L,∃ Ma,f a=some Ma∧∀ b ∈ Ma,b ∈ M
 | [],_,_,a,ha=>by cases ha
 | [x],M,h,a,ha=>by
  rw [gp] at h
  obtain rfl:=List.mem_singleton.1 ha
  exact ⟨M,h,fun _ hb=>hb⟩
 | x :: y :: l,M,h,a,ha=>by
  rw [kZ] at h
  cases hx:f x with
  | none=>rw [hx] at h;cases h
  | some X =>
   rw [hx] at h
   simp only [Option.map_eq_some_iff] at h
   obtain ⟨Y,hY,rfl⟩:=h
   rcases List.mem_cons.1 ha with rfl|ha
   ·exact ⟨X,hx,fun b hb=>List.mem_append.2 (.inl hb)⟩
   ·obtain ⟨Ma,h1,h2⟩:=cM hY a ha
    exact ⟨Ma,h1,fun b hb=>List.mem_append.2 (.inr (h2 b hb))⟩
theorem iG {f:α→Option (List β)}:∀ {L:List α} {M:List β},cY L f=some M→∀ b ∈ M,∃ a ∈ L,∃ Ma,f a=some Ma∧b ∈ Ma
 | [],M,h,b,hb=>by rw [yX] at h;cases h;cases hb
 | [x],M,h,b,hb=>by
  rw [gp] at h
  exact ⟨x,by simp,M,h,hb⟩
 | x :: y :: l,M,h,b,hb=>by
  rw [kZ] at h
  cases hx:f x with
  | none=>rw [hx] at h;cases h
  | some X =>
   rw [hx] at h
   simp only [Option.map_eq_some_iff] at h
   obtain ⟨Y,hY,rfl⟩:=h
   rcases List.mem_append.1 hb with hb|hb
   ·exact ⟨x,by simp,X,hx,hb⟩
   ·obtain ⟨a,ha,Ma,h1,h2⟩:=iG hY b hb
    exact ⟨a,List.mem_cons_of_mem _ ha,Ma,h1,h2⟩
theorem BN {f:α→Option (List β)} {L:List α} {M:List β} (h:cY L f=some M) (hL:L ≠ []) (hf:∀ a ∈ L,∀ Ma,f a=some Ma→Ma ≠ []):M ≠ []:=by
 cases L with
 | nil=>exact absurd rfl hL
 | cons a l =>
  obtain ⟨Ma,h1,h2⟩:=cM h a (by simp)
  have:=hf a (by simp) Ma h1
  cases Ma with
  | nil=>exact absurd rfl this
  | cons x _=>intro e;subst e;exact absurd (h2 x (by simp)) (by simp)
end bind
def rJ.hp:rJ→Hp
 | .call _ _ h=>h
 | .round _ _ h=>h
 | .loop _ st=>st.hp
def ia.hp:ia→Hp
 | .ret _ h=>h
 | .out _ st=>st.hp
def Good (a:Hp) {β:Type} (f:β→Hp) (M:List β):Prop:=M ≠ []∧∀ b ∈ M,eT a (f b)
def bI (rec:rJ→Option (List ia)):Prop:=∀ j L,rec j=some L→Good j.hp ia.hp L
theorem Good.one {a:Hp} {β:Type} {f:β→Hp} {b:β} (h:eT a (f b)):Good a f [b]:=⟨by simp,fun x hx=>by obtain rfl:=List.mem_singleton.1 hx;exact h⟩
theorem Good.bind {a:Hp} {α β:Type} {f:α→Hp} {f':β→Hp} {L:List α} {M:List β} {k:α→Option (List β)} (h:cY L k=some M) (hL:Good a f L) (hk:∀ x,∀ Mx,k x=some Mx→Good (f x) f' Mx):Good a f' M :=
 ⟨BN h hL.1 fun x _ Mx hx=>(hk x Mx hx).1,fun b hb=>by
  obtain ⟨x,hx,Mx,h1,h2⟩:=iG h b hb
  exact (hL.2 x hx).trans ((hk x Mx h1).2 b h2)⟩
theorem Good.map {a:Hp} {α β:Type} {f:α→Hp} {f':β→Hp} {L:List α} {k:α→β} (hL:Good a f L) (hk:∀ x,f' (k x)=f x):Good a f' (L.map k) :=
 ⟨by intro e;exact hL.1 (List.map_eq_nil_iff.1 e),fun b hb=>by
  obtain ⟨x,hx,rfl⟩:=List.mem_map.1 hb
  rw [hk];exact hL.2 x hx⟩
section
variable {T : cr} {rec : rJ → Option (List ia)}
theorem sw (H:Hp) (g:Goal):(jF H g).hp=H:=by cases g <;> rfl
theorem Hi {it:Value} {g:aI} {L:List (Value × cK)} (h:rP it g=some L):L ≠ []:=by
 have key:∀ {r m since last clock:Nat} {seen:List Nat} {es:List MapEntry},vO r m since seen last es clock=some L→L ≠ []:=by
  intro r m since last clock seen es h
  unfold vO at h
  cases hb:(!seen.isEmpty && !es.isEmpty && es.all (fun e=>Nat.ble last e.born)) with
  | true=>rw [hb] at h;cases h
  | false =>
   rw [hb] at h
   simp only [cond_false,Option.some.injEq] at h
   rw [←h]
   generalize (es.filter fun e=>!seen.contains e.born).filter (fun e=>decide (e.born < since))=old
   cases old with
   | nil=>simp
   | cons x l=>simp
 unfold rP at h
 split at h
 ·split at h
  ·split at h
   ·exact key h
   ·cases h
  ·cases h
 ·cases h
theorem qU (hr:bI rec) {o:Op} {st:St} {L:List (Value × Hp)} (h:gE T rec o st=some L):Good st.hp (fun p=>p.2) L:=by
 unfold gE at h
 split at h
 ·rename_i f args _
  split at h
  ·rename_i g _
   cases hj:rec (jF st.hp g) with
   | none=>rw [hj] at h;cases h
   | some R =>
    rw [hj] at h
    have:=hr _ _ hj
    rw [sw] at this
    refine Good.bind h this fun x Mx hx=>?_
    cases x with
    | ret v hp=>simp only [valOf,Option.some.injEq] at hx;subst hx;exact .one (.refl _)
    | out e s=>cases hx
  ·cases h
 ·rename_i it _
  simp only [Option.map_eq_some_iff] at h
  obtain ⟨N,hN,rfl⟩:=h
  refine ⟨by intro e;exact Hi hN (List.map_eq_nil_iff.1 e),fun p hp=>?_⟩
  obtain ⟨⟨v,e⟩,hm,rfl⟩:=List.mem_map.1 hp
  exact eT.app _ _ (BL hN _ hm)
 ·split at h
  ·rename_i hop
   simp only [Option.some.injEq] at h
   subst h
   exact .one (eT.app _ _ (so hop).1)
  ·cases h
theorem l7 (ops:List Oper) (st:St):bR T rec ops [] st=some [st]:=rfl
theorem eU (ops:List Oper) (o:Oper) (l:List Oper) (st:St):bR T rec ops (o :: l) st =
 cond (cm ops st.fr o.guard)
  (match gE T rec o.op st with
   | some L=>cY L fun p=>bR T rec ops l ⟨fY st.fr o.dst p.1,p.2,st.rd⟩
   | none=>none)
  (bR T rec ops l ⟨fY st.fr o.dst undef,st.hp,st.rd⟩):=rfl
theorem fR (hr:bI rec) (ops:List Oper):∀ (l:List Oper) (st:St) (L:List St),bR T rec ops l st=some L→Good st.hp St.hp L∧∀ s ∈ L,s.rd=st.rd:=by
 intro l
 induction l with
 | nil=>intro st L h;rw [l7] at h;cases h;exact ⟨.one (.refl _),by simp⟩
 | cons o l ih =>
  intro st L h
  rw [eU] at h
  cases hg:cm ops st.fr o.guard with
  | false=>rw [hg] at h;simp only [cond_false] at h;exact ih ⟨fY st.fr o.dst undef,st.hp,st.rd⟩ _ h
  | true =>
   rw [hg] at h
   simp only [cond_true] at h
   cases ha:gE T rec o.op st with
   | none=>rw [ha] at h;cases h
   | some A =>
    rw [ha] at h
    refine ⟨Good.bind h (qU hr ha) fun p Mx hx=>(ih _ _ hx).1,fun s hs=>?_⟩
    obtain ⟨p,_,Mx,h1,h2⟩:=iG h s hs
    exact (ih _ _ h1).2 s h2
theorem gU (ops:Array Oper) (i:Nat) (st:St) (acc:List Ev):cR T rec ops [] i st acc=cond (eL T ops acc) (some [st]) none:=rfl
theorem cQ (ops:Array Oper) (o:Oper) (l:List Oper) (i:Nat) (st:St) (acc:List Ev):cR T rec ops (o :: l) i st acc =
 cond (cm ops.toList st.fr o.guard)
  (match bY T rec o.op i st with
   | some (v,hp,t)=>cR T rec ops l (i+1) ⟨fY st.fr o.dst v,hp,st.rd⟩ (⟨o,st,v,hp,t⟩ :: acc)
   | none=>none)
  (cR T rec ops l (i+1) ⟨fY st.fr o.dst undef,st.hp,st.rd⟩ (⟨o,st,undef,st.hp,⟨i,[],[],false,st.hp.n,st.hp.n⟩⟩ :: acc)):=rfl
theorem l8 (hr:bI rec) {o:Op} {i:Nat} {st:St} {v:Value} {hp:Hp} {t:Tc} (h:bY T rec o i st=some (v,hp,t)):eT st.hp hp:=by
 unfold bY at h
 split at h
 ·split at h
  ·rename_i g _
   split at h
   ·rename_i v' hp' hj
    cases hc:Nat.ble st.hp.n hp'.lo with
    | false=>rw [hc] at h;cases h
    | true =>
     rw [hc] at h
     simp only [cond_true,Option.some.injEq,Prod.mk.injEq] at h
     obtain ⟨rfl,rfl,rfl⟩:=h
     have:=hr _ _ hj
     rw [sw] at this
     have hk:=this.2 _ (List.mem_singleton.2 rfl)
     have hle:=Nat.le_of_ble_eq_true hc
     exact ⟨hk.n,Nat.le_refl _,fun k hk1 _=>hk.same k hk1 (Nat.lt_of_lt_of_le hk1 hle),hk.wf,hk.loop⟩
   ·cases h
  ·cases h
 ·cases h
 ·split at h
  ·rename_i hop
   simp only [Option.some.injEq,Prod.mk.injEq] at h
   obtain ⟨_,rfl,_⟩:=h
   exact eT.app _ _ (so hop).1
  ·cases h
theorem qy (hr:bI rec) (ops:Array Oper):∀ (l:List Oper) (i:Nat) (st:St) (acc:List Ev) (L:List St),cR T rec ops l i st acc=some L→Good st.hp St.hp L∧∀ s ∈ L,s.rd=st.rd:=by
 intro l
 induction l with
 | nil =>
  intro i st acc L h
  rw [gU] at h
  cases hc:eL T ops acc with
  | false=>rw [hc] at h;cases h
  | true=>rw [hc] at h;simp at h;subst h;exact ⟨.one (.refl _),by simp⟩
 | cons o l ih =>
  intro i st acc L h
  rw [cQ] at h
  cases hg:cm ops.toList st.fr o.guard with
  | false=>rw [hg] at h;simp only [cond_false] at h;exact ih _ ⟨fY st.fr o.dst undef,st.hp,st.rd⟩ _ _ h
  | true =>
   rw [hg] at h
   simp only [cond_true] at h
   cases ha:bY T rec o.op i st with
   | none=>rw [ha] at h;cases h
   | some p =>
    obtain ⟨v,hp,t⟩:=p
    rw [ha] at h
    have:=ih _ _ _ _ h
    have hk:=l8 hr ha
    exact ⟨⟨this.1.1,fun s hs=>hk.trans (this.1.2 s hs)⟩,this.2⟩
theorem wg (st:St):bJ T rec .skip st=some [(.normal,st)]:=rfl
theorem uI (l:Nat) (st:St):bJ T rec (.label l) st=some [(.normal,st)]:=rfl
theorem mL {ops:Array Oper} {st:St} {L:List St} (h:cS T rec ops st=some L):(∃ c,vc ops=some c∧El T rec ops c st=some L)∨(vc ops=none∧∃ M,cR T rec ops (ops.toList.take (gF ops)) 0 st []=some M∧cY M (bR T rec ops.toList (ops.toList.drop (gF ops)))=some L):=by
 unfold cS at h
 split at h
 ·exact .inl ⟨_,by assumption,h⟩
 ·refine .inr ⟨by assumption,?_⟩
  split at h
  ·exact ⟨_,by assumption,h⟩
  ·cases h
theorem yg (ops:Array Oper) (K:St→List Ev→Option (List St)) (i:Nat) (st:St) (acc:List Ev):fu T rec ops [] K i st acc=K st acc:=rfl
theorem fF (ops:Array Oper) (K:St→List Ev→Option (List St)) (o:Oper) (l:List Oper) (i:Nat) (st:St) (acc:List Ev):fu T rec ops (o :: l) K i st acc =
 cond (cm ops.toList st.fr o.guard)
  (match bY T rec o.op i st with
   | some (v,hp,t)=>fu T rec ops l K (i+1) ⟨fY st.fr o.dst v,hp,st.rd⟩ (⟨o,st,v,hp,t⟩ :: acc)
   | none=>none)
  (fu T rec ops l K (i+1) ⟨fY st.fr o.dst undef,st.hp,st.rd⟩ (⟨o,st,undef,st.hp,⟨i,[],[],false,st.hp.n,st.hp.n⟩⟩ :: acc)):=rfl
theorem wh (hr:bI rec) (ops:Array Oper) (K:St→List Ev→Option (List St)):∀ (l:List Oper) (i:Nat) (st:St) (acc:List Ev) (L:List St),fu T rec ops l K i st acc=some L→∃ st' acc',eT st.hp st'.hp∧st'.rd=st.rd∧K st' acc'=some L:=by
 intro l
 induction l with
 | nil=>intro i st acc L h;exact ⟨st,acc,.refl _,rfl,h⟩
 | cons o l ih =>
  intro i st acc L h
  rw [fF] at h
  cases hg:cm ops.toList st.fr o.guard with
  | false=>rw [hg] at h;simp only [cond_false] at h;exact ih _ ⟨fY st.fr o.dst undef,st.hp,st.rd⟩ _ _ h
  | true =>
   rw [hg] at h
   simp only [cond_true] at h
   cases ha:bY T rec o.op i st with
   | none=>rw [ha] at h;cases h
   | some p =>
    obtain ⟨v,hp,t⟩:=p
    rw [ha] at h
    obtain ⟨st',acc',h1,h2,h3⟩:=ih _ _ _ _ h
    exact ⟨st',acc',(l8 hr ha).trans h1,h2,h3⟩
theorem iP {i:Nat} {st:St} {r:ia} {P:List (Value × Hp × Tc)} (h:vR i st r=some P):∃ v hp,r=.ret v hp∧Nat.ble st.hp.n hp.lo=true∧P=[(v,{hp with lo:=st.hp.lo},⟨i,[],[],true,st.hp.n,hp.n⟩)]:=by
 cases r with
 | ret v hp =>
  have h:(bif Nat.ble st.hp.n hp.lo then some [(v,({hp with lo:=st.hp.lo}:Hp),(⟨i,[],[],true,st.hp.n,hp.n⟩:Tc))] else none)=some P:=h
  cases hc:Nat.ble st.hp.n hp.lo with
  | false=>rw [hc] at h;cases h
  | true=>rw [hc] at h;simp only [cond_true,Option.some.injEq] at h;exact ⟨v,hp,rfl,hc,h.symm⟩
 | out e s=>cases h
theorem yh (hr:bI rec) {o:Op} {i:Nat} {st:St} {P:List (Value × Hp × Tc)} (h:eR T rec o i st=some P):Good st.hp (fun p=>p.2.1) P:=by
 unfold eR at h
 split at h
 ·split at h
  ·rename_i g _
   split at h
   ·rename_i R hj
    have:=hr _ _ hj
    rw [sw] at this
    refine ⟨BN h this.1 fun r _ Pr hp=>?_,fun p hp=>?_⟩
    ·obtain ⟨v,hp,_,_,rfl⟩:=iP hp
     simp
    ·obtain ⟨r,hrm,Pr,h1,h2⟩:=iG h p hp
     obtain ⟨v,hp',rfl,hc,rfl⟩:=iP h1
     obtain rfl:=List.mem_singleton.1 h2
     have hk:=this.2 _ hrm
     have hle:=Nat.le_of_ble_eq_true hc
     exact ⟨hk.n,Nat.le_refl _,fun k hk1 _=>hk.same k hk1 (Nat.lt_of_lt_of_le hk1 hle),hk.wf,hk.loop⟩
   ·cases h
  ·cases h
 ·cases h
theorem wj (hr:bI rec) {ops:Array Oper} {o:Oper} {i:Nat} {st:St} {P:List (Value × Hp × Tc)} (h:jG T rec ops o i st=some P):Good st.hp (fun p=>p.2.1) P:=by
 unfold jG at h
 cases hg:cm ops.toList st.fr o.guard with
 | true =>
  rw [hg] at h
  exact yh hr h
 | false =>
  rw [hg] at h
  simp only [cond_false,Option.some.injEq] at h
  subst h
  exact ⟨by simp,fun p hp=>by rw [List.mem_singleton.1 hp];exact .refl _⟩
theorem qV {ops:Array Oper} {c:Nat} {st:St} {acc:List Ev} {L:List St} (h:rS T rec ops c st acc=some L):∃ o P,ops.toList[c]?=some o∧jG T rec ops o c st=some P∧(∀ p ∈ P,eL T ops (⟨o,st,p.1,p.2.1,p.2.2⟩ :: acc)=true)∧(cY P fun p=>bR T rec ops.toList (ops.toList.drop (c+1)) ⟨fY st.fr o.dst p.1,p.2.1,st.rd⟩)=some L:=by
 unfold rS at h
 split at h
 ·rename_i o ho
  split at h
  ·rename_i P hP
   cases hq:P.all fun p=>eL T ops (⟨o,st,p.1,p.2.1,p.2.2⟩ :: acc) with
   | false=>rw [hq] at h;cases h
   | true =>
    rw [hq] at h
    exact ⟨o,P,ho,hP,List.all_eq_true.1 hq,h⟩
  ·cases h
 ·cases h
theorem Dq (hr:bI rec) (ops:Array Oper) (c:Nat) (st:St) (L:List St) (h:El T rec ops c st=some L):Good st.hp St.hp L:=by
 obtain ⟨st',acc',h1,h2,h3⟩:=wh hr _ _ _ _ _ _ _ h
 obtain ⟨o,P,_,hP,_,hL⟩:=qV h3
 have hg:=wj hr hP
 have hg':Good st.hp (fun p:Value × Hp × Tc=>p.2.1) P:=⟨hg.1,fun p hp=>h1.trans (hg.2 p hp)⟩
 exact Good.bind hL hg' fun p Mx hx=>(fR hr _ _ _ _ hx).1
theorem yl (hr:bI rec) (ops:Array Oper) (st:St) (L:List St) (h:cS T rec ops st=some L):Good st.hp St.hp L:=by
 rcases mL h with ⟨c,_,h⟩|⟨_,M,h1,h2⟩
 ·exact Dq hr _ _ _ _ h
 ·exact Good.bind h2 (qy hr _ _ _ _ _ _ h1).1 fun x Mx hx=>(fR hr _ _ _ _ hx).1
theorem gV (id:Nat) (ops:Array Oper) (draw:Bool) (st:St):bJ T rec (.region id ops draw) st =
 match cond draw (cS T rec ops st) (bR T rec ops.toList ops.toList st) with
  | some L=>some (L.map fun s=>(.normal,s))
  | none=>none:=rfl
theorem pV (a b:Code) (st:St):bJ T rec (.seq a b) st=match bJ T rec a st with
 | some L=>cY L (vS (bJ T rec b))
 | none=>none:=rfl
theorem k7 (c:Operand) (a b:Code) (st:St):bJ T rec (.cond c a b) st=match bL st.fr c with
 | .bool t=>cond t (bJ T rec a st) (bJ T rec b st)
 | _=>none:=rfl
theorem l9 (id:Nat) (c:Code) (st:St):bJ T rec (.block id c) st=match bJ T rec c st with
 | some L=>some (L.map (gR id))
 | none=>none:=rfl
theorem nO (c:Code) (st:St):bJ T rec (.loop c) st=match rec (.loop c st) with
 | some L=>cY L Bw
 | none=>none:=rfl
theorem wk (id:Nat) (st:St):bJ T rec (.exit id) st=some [(.exit id,st)]:=rfl
theorem yY (st:St):bJ T rec .ret st=some [(.ret,st)]:=rfl
theorem mb (f:Operand) (ps:Array Tmp) (a b:Code) (st:St):bJ T rec (.rangeFunc f ps a b) st=nI rec f ps a b st:=rfl
theorem mc (c:Code) (st:St):bJ T rec (.scope c) st=vT (bJ T rec c st):=rfl
theorem oR {o:Option (List (Exit × St))} {L:List (Exit × St)} (h:vT o=some L):o=some L∧∀ p ∈ L,∀ l,p.1 ≠ .goto l:=by
 unfold vT at h
 split at h
 ·rename_i M
  cases hb:M.all noGoto with
  | false=>rw [hb] at h;cases h
  | true =>
   rw [hb] at h
   simp only [cond_true,Option.some.injEq] at h
   subst h
   refine ⟨rfl,fun p hp l e=>?_⟩
   have:=List.all_eq_true.1 hb p hp
   unfold noGoto at this
   rw [e] at this
   cases this
 ·cases h
theorem wm (l:Nat) (st:St):bJ T rec (.goto l) st=none:=rfl
theorem sx (y:String) (st:St):bJ T rec (.refuse y) st=none:=rfl
theorem mM {l : Nat} {fr : Tr Value} {rd : Bool} {r : ia} {M : List (Exit × St)} (h : jH l fr rd r = some M) :
    ∃ v hp s pend fr0 ps as bd, r = .ret v hp ∧ hp.get l = some (.loop s pend fr0 ps as bd) ∧ s ≠ .busy ∧
      ((pend = none ∧ M = [(.normal, ⟨fr, hp.put l (.loop .exhausted pend fr0 ps as bd), rd⟩)]) ∨ (pend = some .ret ∧ M = [(.ret, ⟨fr, hp.put l (.loop .exhausted pend fr0 ps as bd), rd⟩)]) ∨
        ∃ id, pend = some (.exit id) ∧ M = [(.exit id, ⟨fr, hp.put l (.loop .exhausted pend fr0 ps as bd), rd⟩)]) := by
  cases r with
  | out e s => cases h
  | ret v hp =>
    unfold jH at h
    simp only at h
    split at h
    · rename_i s pend fr0 ps as bd hl
      refine ⟨v, hp, s, pend, fr0, ps, as, bd, rfl, hl, ?_⟩
      have hs : s ≠ .busy := fun e => by subst e; simp at h
      refine ⟨hs, ?_⟩
      cases pend with
      | none => cases s <;> simp at h hs ⊢ <;> exact h.symm
      | some c =>
        cases c with
        | ret => refine .inr (.inl ⟨rfl, ?_⟩); cases s <;> simp at h hs ⊢ <;> exact h.symm
        | exit id => refine .inr (.inr ⟨id, rfl, ?_⟩); cases s <;> simp at h hs ⊢ <;> exact h.symm
        | _ => cases s <;> simp at h
    · cases h
theorem jq (hr:bI rec):∀ (c:Code) (st:St) (L:List (Exit × St)),bJ T rec c st=some L→Good st.hp (fun p=>p.2.hp) L:=by
 intro c
 induction c with
 | skip=>intro st L h;rw [wg] at h;cases h;exact .one (.refl _)
 | label l=>intro st L h;rw [uI] at h;cases h;exact .one (.refl _)
 | exit id=>intro st L h;rw [wk] at h;cases h;exact .one (.refl _)
 | ret=>intro st L h;rw [yY] at h;cases h;exact .one (.refl _)
 | scope c ih=>intro st L h;rw [mc] at h;exact ih st L (oR h).1
 | goto l=>intro st L h;rw [wm] at h;cases h
 | refuse y=>intro st L h;rw [sx] at h;cases h
 | region id ops draw =>
  intro st L h
  rw [gV] at h
  cases draw with
  | true =>
   simp only [cond_true] at h
   cases hx:cS T rec ops st with
   | none=>rw [hx] at h;cases h
   | some R=>rw [hx] at h;simp only [Option.some.injEq] at h;subst h;exact (yl hr _ _ _ hx).map fun _=>rfl
  | false =>
   simp only [cond_false] at h
   cases hx:bR T rec ops.toList ops.toList st with
   | none=>rw [hx] at h;cases h
   | some R=>rw [hx] at h;simp only [Option.some.injEq] at h;subst h;exact (fR hr _ _ _ _ hx).1.map fun _=>rfl
 | seq a b iha ihb =>
  intro st L h
  rw [pV] at h
  cases hx:bJ T rec a st with
  | none=>rw [hx] at h;cases h
  | some R =>
   rw [hx] at h
   refine Good.bind h (iha _ _ hx) fun p Mx hp=>?_
   unfold vS at hp
   split at hp
   ·exact ihb _ _ hp
   ·simp only [Option.some.injEq] at hp;subst hp;exact .one (.refl _)
 | cond c a b iha ihb =>
  intro st L h
  rw [k7] at h
  split at h
  ·rename_i t _
   cases t with
   | true=>exact iha _ _ h
   | false=>exact ihb _ _ h
  ·cases h
 | block id c ih =>
  intro st L h
  rw [l9] at h
  cases hx:bJ T rec c st with
  | none=>rw [hx] at h;cases h
  | some R =>
   rw [hx] at h
   simp only [Option.some.injEq] at h
   subst h
   refine (ih _ _ hx).map fun p=>?_
   unfold gR
   split <;> rfl
 | loop c _ =>
  intro st L h
  rw [nO] at h
  cases hx:rec (.loop c st) with
  | none=>rw [hx] at h;cases h
  | some R =>
   rw [hx] at h
   refine Good.bind h (hr _ _ hx) fun p Mx hp=>?_
   cases p with
   | ret=>cases hp
   | out e s=>simp only [Bw,Option.some.injEq] at hp;subst hp;exact .one (.refl _)
 | rangeFunc f ps a b _ _ =>
  intro st L h
  rw [mb] at h
  unfold nI at h
  split at h
  ·rename_i g args _
   cases hx:rec (.call g args (st.hp.push (.loop .ready none st.fr ps a b))) with
   | none=>rw [hx] at h;cases h
   | some R =>
    rw [hx] at h
    have hk:=hr _ _ hx
    have hk':Good st.hp ia.hp R:=⟨hk.1,fun r hr'=>(eT.push _ _).trans (hk.2 r hr')⟩
    refine Good.bind h hk' fun p Mx hp=>?_
    obtain ⟨v,hp2,s,pend,fr0,ps',as',bd',rfl,hgt,_,h1|h1|⟨_,h1⟩⟩:=mM hp <;> (obtain ⟨_,rfl⟩:=h1;exact .one (eT.put hp2 _ _ (by rw [hgt];simp) (fun _=>rfl)))
  ·cases h
theorem k8 (f:FuncId) (args:List Value) (hp:Hp):iX T rec (.call f args hp)=match T.fn.get f with
 | some fn=>match fn.body with
  | some c=>match bJ T rec c ⟨setArgs .leaf 0 args,hp,false⟩ with
   | some L=>cY L (fQ T fn.results.toList)
   | none=>none
  | none=>none
 | none=>none:=rfl
theorem oS (l:Nat) (args:List Value) (hp:Hp):iX T rec (.round l args hp)=match hp.get l with
 | some (.loop .ready _ fr ps as bd)=>cond (Nat.beq args.length ps.toList.length)
  (match bJ T rec as ⟨fy fr (ps.toList.zip args),hp,true⟩ with
  | some L=>cY L (cZ T rec l bd)
  | none=>none) none
 | _=>none:=rfl
theorem qW (c:Code) (st:St):iX T rec (.loop c st)=match bJ T rec c st with
 | some L=>cY L (fA rec c)
 | none=>none:=rfl
theorem nP {rs:List ResultVar} {p:Exit × St} {M:List ia} (h:fQ T rs p=some M):(p.1=.normal∨p.1=.ret)∧∃ vs,l5 T p.2.fr p.2.hp rs=some vs∧M=[.ret (dy vs) p.2.hp]:=by
 obtain ⟨e,s⟩:=p
 unfold fQ at h
 cases e with
 | normal=>simp only [Option.map_eq_some_iff] at h;obtain ⟨vs,a,b⟩:=h;exact ⟨.inl rfl,vs,a,b.symm⟩
 | ret=>simp only [Option.map_eq_some_iff] at h;obtain ⟨vs,a,b⟩:=h;exact ⟨.inr rfl,vs,a,b.symm⟩
 | _=>simp at h
theorem k9 {l : Nat} {p : Exit × St} {M : List ia} (h : gS l p = some M) : ∃ st pend fr ps as bd, p.2.hp.get l = some (.loop st pend fr ps as bd) ∧
    ((p.1 = .normal ∧ M = [.ret (.bool true) (p.2.hp.put l (.loop .ready none fr ps as bd))]) ∨
     (p.1 = .ret ∧ M = [.ret (.bool false) (p.2.hp.put l (.loop .done (some .ret) fr ps as bd))]) ∨
     ∃ id, p.1 = .exit id ∧ M = [.ret (.bool false) (p.2.hp.put l (.loop .done (some (.exit id)) fr ps as bd))]) := by
  obtain ⟨e, s⟩ := p
  unfold gS at h
  simp only at h
  split at h
  · rename_i st pend fr ps as bd hl
    refine ⟨st, pend, fr, ps, as, bd, hl, ?_⟩
    cases e with
    | normal => simp only [Option.some.injEq] at h; exact .inl ⟨rfl, h.symm⟩
    | ret => simp only [Option.some.injEq] at h; exact .inr (.inl ⟨rfl, h.symm⟩)
    | exit id => simp only [Option.some.injEq] at h; exact .inr (.inr ⟨id, rfl, h.symm⟩)
    | _ => simp at h
  · cases h
theorem jr {l:Nat} {body:Code} {p:Exit × St} {M:List ia} (h:cZ T rec l body p=some M):p.1=.normal∧∃ pend fr ps as bd R,p.2.hp.get l=some (.loop .ready pend fr ps as bd) ∧
  bJ T rec body ⟨p.2.fr,p.2.hp.put l (.loop .busy pend fr ps as bd),true⟩=some R∧cY R (gS l)=some M:=by
 obtain ⟨e,s⟩:=p
 unfold cZ at h
 have he:e=.normal:=by cases e <;> first|rfl|simp at h
 subst he
 simp only at h
 split at h
 ·rename_i pend fr ps as bd hl
  cases hy:bJ T rec body ⟨s.fr,s.hp.put l (.loop .busy pend fr ps as bd),true⟩ with
  | none=>rw [hy] at h;cases h
  | some R=>rw [hy] at h;exact ⟨rfl,pend,fr,ps,as,bd,R,hl,hy,h⟩
 ·cases h
theorem oB {f:FuncId} {args:List Value} {hp:Hp} {L:List ia} (h:iX T rec (.call f args hp)=some L) :
  ∃ fn c R,T.fn.get f=some fn∧fn.body=some c∧bJ T rec c ⟨setArgs .leaf 0 args,hp,false⟩=some R∧cY R (fQ T fn.results.toList)=some L:=by
 rw [k8] at h
 cases hf:T.fn.get f with
 | none=>rw [hf] at h;cases h
 | some fn =>
  rw [hf] at h
  simp only at h
  cases hb:fn.body with
  | none=>rw [hb] at h;cases h
  | some c =>
   rw [hb] at h
   simp only at h
   cases hx:bJ T rec c ⟨setArgs .leaf 0 args,hp,false⟩ with
   | none=>rw [hx] at h;cases h
   | some R=>rw [hx] at h;exact ⟨fn,c,R,rfl,hb,hx,h⟩
theorem m7 {l:Nat} {args:List Value} {hp:Hp} {L:List ia} (h:iX T rec (.round l args hp)=some L) :
  ∃ pend fr ps as bd R,hp.get l=some (.loop .ready pend fr ps as bd)∧args.length=ps.size∧bJ T rec as ⟨fy fr (ps.toList.zip args),hp,true⟩=some R∧cY R (cZ T rec l bd)=some L:=by
 rw [oS] at h
 split at h
 ·rename_i pend fr ps as bd hl
  cases hlen:Nat.beq args.length ps.toList.length with
  | false=>rw [hlen] at h;cases h
  | true =>
   rw [hlen] at h
   simp only [cond_true] at h
   cases hx:bJ T rec as ⟨fy fr (ps.toList.zip args),hp,true⟩ with
   | none=>rw [hx] at h;cases h
   | some R=>rw [hx] at h;exact ⟨pend,fr,ps,as,bd,R,hl,by simpa using Nat.eq_of_beq_eq_true hlen,hx,h⟩
 ·cases h
theorem oC {c:Code} {st:St} {L:List ia} (h:iX T rec (.loop c st)=some L):∃ R,bJ T rec c st=some R∧cY R (fA rec c)=some L:=by
 rw [qW] at h
 cases hx:bJ T rec c st with
 | none=>rw [hx] at h;cases h
 | some R=>rw [hx] at h;exact ⟨R,rfl,h⟩
theorem ld {c:Code} {p:Exit × St} {M:List ia} (h:fA rec c p=some M):(p.1=.normal∧rec (.loop c p.2)=some M)∨(p.1 ≠ .normal∧M=[.out p.1 p.2]):=by
 obtain ⟨e,s⟩:=p
 unfold fA at h
 cases e <;> simp only [Option.some.injEq] at h <;> first
  | exact .inl ⟨rfl,h⟩
  | exact .inr ⟨by simp,h.symm⟩
theorem Dr (hr:bI rec):bI (iX T rec):=by
 intro j L h
 cases j with
 | call f args hp =>
  obtain ⟨fn,c,R,_,_,hx,h⟩:=oB h
  refine Good.bind h (jq hr _ _ _ hx) fun p Mx hq=>?_
  obtain ⟨_,vs,_,rfl⟩:=nP hq
  exact .one (.refl _)
 | round l args hp =>
  obtain ⟨pend,fr,ps,as,bd,R,_,_,hx,h⟩:=m7 h
  refine Good.bind h (jq hr _ _ _ hx) fun p Mx hq=>?_
  obtain ⟨_,pend',fr',ps',as',bd',R2,hgt,hy,hz⟩:=jr hq
  have hk:=jq hr _ _ _ hy
  have hk':Good p.2.hp (fun q=>q.2.hp) R2:=⟨hk.1,fun r hr'=>(eT.put p.2.hp _ _ (by rw [hgt];simp) (fun _=>rfl)).trans (hk.2 r hr')⟩
  refine Good.bind hz hk' fun q My hw=>?_
  obtain ⟨_,_,_,_,_,_,hgt2,h1|h1|⟨_,h1⟩⟩:=k9 hw <;> (obtain ⟨_,rfl⟩:=h1;exact .one (eT.put q.2.hp _ _ (by rw [hgt2];simp) (fun _=>rfl)))
 | loop c st =>
  obtain ⟨R,hx,h⟩:=oC h
  refine Good.bind h (jq hr _ _ _ hx) fun p Mx hq=>?_
  rcases ld hq with ⟨_,h1⟩|⟨_,rfl⟩
  ·exact hr _ _ h1
  ·exact .one (.refl _)
end
end Go.RM
namespace Go.RM
open Go
theorem uJ:∀ {l m:List UInt8},rQ l m=true→l=m
 | [],[],_=>rfl
 | a :: l,b :: m,h=>by
  simp only [rQ,Bool.and_eq_true] at h
  rw [uJ h.2,UInt8.toNat_inj.1 (Nat.eq_of_beq_eq_true h.1)]
 | [],_ :: _,h=>by cases h
 | _ :: _,[],h=>by cases h
theorem Hj {a b:Int} (h:Jy a b=true):a=b:=by
 cases a <;> cases b <;> simp only [Jy,Bool.false_eq_true] at h
 ·rw [Nat.eq_of_beq_eq_true h]
 ·rw [Nat.eq_of_beq_eq_true h]
theorem Ai {p v:Value} (h:FC p v=true):p=v∧bF v=true:=by
 unfold FC at h
 split at h
 ·simp at h;subst h;exact ⟨rfl,rfl⟩
 ·simp only [Bool.and_eq_true,beq_iff_eq] at h;obtain ⟨rfl,h⟩:=h;rw [Hj h];exact ⟨rfl,rfl⟩
 ·rename_i s t
  have:=uJ h
  have e:s=t:=by
   cases s;cases t
   simp only at this
   rw [Array.toList_inj.1 this]
  rw [e];exact ⟨rfl,rfl⟩
 ·exact ⟨rfl,rfl⟩
 ·exact ⟨rfl,rfl⟩
 ·exact ⟨rfl,rfl⟩
 ·exact ⟨rfl,rfl⟩
 ·exact ⟨rfl,rfl⟩
 ·cases h
abbrev FW (r:Option Nat):Fence:={fn:=fun _=>True,depth:=none,alive:=false,round:=r}
def fM (γ:Gm) (a N:Nat):Prop:=∀ k,a≤k→k < N→γ.loc k=none
structure Step (γ:Gm) (H:Hp) (w:World) (γ':Gm) (H':Hp) (w':World):Prop where
 n:H.n≤H'.n
 le:γ.Le γ'
 out:∀ k,(k < H.n∨H'.n≤k)→γ'.loc k=γ.loc k
 hr:HR γ' H'.get w'
 jg:lV γ H.get w γ' H'.get w'
section
variable {T : cr} {γ γ' γ1 γ2 : Gm} {H H' H1 H2 : Hp} {w w' w1 w2 : World} {N : Nat}
theorem Step.refl (h:HR γ H.get w):Step γ H w γ H w:=⟨Nat.le_refl _,Gm.Le.refl γ,fun _ _=>rfl,h,lV.refl _ _ _⟩
theorem Step.trans (a:Step γ H w γ1 H1 w1) (b:Step γ1 H1 w1 γ2 H2 w2):Step γ H w γ2 H2 w2 :=
 ⟨Nat.le_trans a.n b.n,a.le.trans b.le,fun k hk=>by
  have h1:=a.n
  have h2:=b.n
  rw [b.out k (by omega),a.out k (by omega)],b.hr,a.jg.trans b.jg⟩
theorem Step.fresh (a:Step γ H w γ1 H1 w1) (h:fM γ H.n N):fM γ1 H1.n N:=fun k h1 h2=>by
 rw [a.out k (.inr h1)]
 exact h k (Nat.le_trans a.n h1) h2
theorem HR.off {g:aI} (h:HR γ g w) (hs:w.heap.size≤w'.heap.size) (hh:∀ k b o,γ.loc k=some (b,o)→w'.heap[b]?=w.heap[b]?):HR γ g w' :=
 ⟨fun k b o a ha hl=>(h.iy k b o a ha hl).mono (Gm.Le.refl γ) hl (hh k b o hl),h.inj,fun k b o hl=>Nat.lt_of_lt_of_le (h.lt k b o hl) hs,Nat.le_trans h.base hs⟩
theorem lV.off {g g':aI} (u:lV γ g w γ' g' w1) (h1:w2.os=w1.os) (h2:w2.tape=w1.tape) (h3:w2.output=w1.output) (hs:w1.heap.size≤w2.heap.size)
  (hh:∀ b,b < w.heap.size→w2.heap[b]?=w1.heap[b]?):lV γ g w γ' g' w2 :=
 ⟨h1.trans u.os,h2.trans u.tape,h3.trans u.output,Nat.le_trans u.size hs,fun b hb hn=>(hh b hb).trans (u.same b hb hn),u.uH,u.live,u.tH⟩
theorem qz (e:cK):(H.app e).n=if e.news=true then H.n+1 else H.n:=by cases e <;> rfl
theorem aZ.step {s:Sem Next} {v:Value} {e:cK} (h:aZ T.P γ H.get w H.n s v e) :
  ∃ v' w' γ',(s.run T.P w=.ok (.value v') w'∨(s.run T.P w=.ok .skip w'∧v'=undef))∧VR γ' v v'∧Step γ H w γ' (H.app e) w':=by
 obtain ⟨v',w',γ',h1,h2,h3,h4,h5,h6⟩:=h
 refine ⟨v',w',γ',h1,h5,?_,h2,fun k hk=>h3 k fun e'=>?_,by rw [Hp.z8];exact h4,by rw [Hp.z8];exact h6⟩
 ·rw [qz];split <;> omega
 ·rw [qz] at hk
  subst e'
  cases hn:e.news with
  | false=>rfl
  | true=>rw [hn] at hk;simp at hk;omega
def Aj (γ:Gm) (w:World) (N0:Nat) (ds:List Deferred):Prop :=
 ∃ rs:List Nat,ds=rs.map (fun r=>{target:=.collected r,args:=#[]})∧rs.Nodup∧∀ r ∈ rs,N0≤r∧w.heap[r]?=some (.deferred (some []))∧∀ k o,γ.loc k ≠ some (r,o)
theorem Aj.nil (γ:Gm) (w:World) (N0:Nat):Aj γ w N0 []:=⟨[],rfl,List.nodup_nil,fun r hr=>by cases hr⟩
theorem Aj.step {N0:Nat} {ds:List Deferred} (h:Aj γ w N0 ds) (s:Step γ H w γ' H' w'):Aj γ' w' N0 ds:=by
 obtain ⟨rs,h1,h2,h3⟩:=h
 refine ⟨rs,h1,h2,fun r hr=>?_⟩
 obtain ⟨a,b,c⟩:=h3 r hr
 have hlt:r < w.heap.size:=(Array.getElem?_eq_some_iff.1 b).1
 refine ⟨a,(s.jg.same r hlt fun k o _ _ _ hl=>c k o hl).trans b,fun k o hl=>?_⟩
 obtain ⟨k0,o0,hl0⟩:=s.jg.tH k r o hl hlt
 exact c k0 o0 hl0
theorem Hl {fr:Tr Value} {a:Act} (h:xZ γ fr a.tmps) {x:Operand} (hx:uG x=true):VR γ (bL fr x) (a.eval x):=by
 cases x with
 | tmp t=>exact h t
 | const v=>exact VR.of_flat hx
 | global g=>cases hx
 | func f=>exact .func rfl rfl (fun i a _=>absurd a (by simp)) (fun i a _=>absurd a (by simp))
theorem BO {tm:Array Value} {d i:Nat} {v:Value} (hd:d < tm.size):(tm.setIfInBounds d v).getD i undef=if i=d then v else tm.getD i undef:=by
 simp only [Array.getD_eq_getD_getElem?,Array.getElem?_setIfInBounds]
 by_cases h:i=d
 ·subst h;simp [hd]
 ·simp [h,Ne.symm h]
theorem xZ.set {fr:Tr Value} {tm:Array Value} (h:xZ γ fr tm) {v v':Value} (hv:VR γ v v') {d:Nat} (hd:d < tm.size):xZ γ (fr.set d v) (tm.setIfInBounds d v'):=by
 intro i
 rw [Tr.jA,BO hd]
 by_cases hi:i=d
 ·rw [if_pos hi,if_pos hi];exact hv
 ·rw [if_neg hi,if_neg hi];exact h i
theorem xZ.put {fr:Tr Value} {a:Act} (h:xZ γ fr a.tmps) {v v':Value} (hv:VR γ v v') {dst:Option Tmp} (hd:∀ d,dst=some d→d < a.tmps.size):xZ γ (fY fr dst v) (a.put dst v').tmps:=by
 cases dst with
 | none=>exact h
 | some d=>exact h.set hv (hd d rfl)
theorem jK (a:Act) (dst:Option Tmp) (v:Value):(a.put dst v).tmps.size=a.tmps.size:=by cases dst <;> simp [Act.put]
theorem put_defers (a:Act) (dst:Option Tmp) (v:Value):(a.put dst v).defers=a.defers:=by cases dst <;> rfl
theorem VR.BP {v:Value} {b:Bool} (h:VR γ v (.bool b)):v=.bool b:=by cases h with|flat=>rfl
theorem Ak {fr:Tr Value} {tm:Array Value} (ops:Array Oper) (o:Oper) (h:∀ g want q d,o.guard=some (g,want)→ops[g]?=some q→q.dst=some d→VR γ ((fr.get d).getD undef) (tm.getD d undef)):Region.wanted o (yielded ops tm)=cm ops.toList fr o.guard:=by
 unfold Region.wanted cm
 cases hgu:o.guard with
 | none=>rfl
 | some p =>
  obtain ⟨j,want⟩:=p
  simp only [yielded,Array.getElem?_toList]
  cases hoq:ops[j]? with
  | none=>rfl
  | some q =>
   obtain ⟨dst,op,ty,pos,after,guard⟩:=q
   cases dst with
   | none=>rfl
   | some d =>
    simp only [Option.bind_some]
    have hd:=h j want _ d hgu hoq rfl
    rw [Array.getD_eq_getD_getElem?] at hd
    cases hf:fr.get d with
    | none =>
     rw [hf] at hd
     simp only
     cases ht:tm[d]? with
     | none=>rfl
     | some u =>
      rw [ht] at hd
      simp at hd
      cases u <;> first|rfl|skip
      have:=hd.BP
      cases this
    | some x =>
     rw [hf] at hd
     simp at hd
     cases x with
     | bool b =>
      have:=hd.dh rfl
      cases ht:tm[d]? with
      | none=>rw [ht] at this;cases this
      | some u =>
       rw [ht] at this
       simp at this
       subst this
       cases b <;> cases want <;> rfl
     | _ =>
      cases ht:tm[d]? with
      | none=>rfl
      | some u =>
       rw [ht] at hd
       simp at hd
       cases u <;> first|rfl|(have:=hd.BP;cases this)
theorem Ho {fr:Tr Value} {tm:Array Value} (h:xZ γ fr tm) (ops:Array Oper) (o:Oper):Region.wanted o (yielded ops tm)=cm ops.toList fr o.guard :=
 Ak ops o fun _ _ _ d _ _ _=>h d
theorem uK:∀ (l:List Value) (t:Tr Value) (i j:Nat),(setArgs t i l).get j=if i≤j∧j < i+l.length then l[j - i]? else t.get j:=by
 intro l
 induction l with
 | nil=>intro t i j;simp [setArgs];intro h1 h2;omega
 | cons v vs ih =>
  intro t i j
  rw [setArgs,ih,Tr.jA]
  simp only [List.length_cons]
  by_cases hj:j=i
  ·subst hj;simp;omega
  ·by_cases h:i≤j∧j < i+(vs.length+1)
   ·rw [if_pos h,if_pos (by omega)]
    obtain ⟨q,rfl⟩:∃ q,j=i+1+q:=⟨j - (i+1),by omega⟩
    rw [show i+1+q - (i+1)=q by omega,show i+1+q - i=q+1 by omega]
    rfl
   ·rw [if_neg h,if_neg (by omega),if_neg hj]
theorem xZ.args {args args':List Value} (h:cD γ args args') (n:Nat):xZ γ (setArgs .leaf 0 args) (args'.toArray++Array.replicate n undef):=by
 intro i
 rw [uK,Array.getD_eq_getD_getElem?,Array.getElem?_append]
 have hl:=h.1
 by_cases hi:i < args.length
 ·rw [if_pos ⟨Nat.zero_le _,by omega⟩,if_pos (by simp;omega)]
  have h1:args[i]?=some (args[i]'hi):=List.getElem?_eq_getElem hi
  obtain ⟨v',e1,e2⟩:=h.get h1
  simp only [Nat.sub_zero,h1,Option.getD_some,List.getElem?_toArray,e1]
  exact e2
 ·rw [if_neg (by omega),if_neg (by simp;omega)]
  have:(Array.replicate n undef)[i - args'.toArray.size]?.getD undef=undef:=by
   rw [Array.getElem?_replicate];split <;> rfl
  rw [this]
  exact VR.undef γ
theorem BQ:∀ (l:List (Tmp × Value)) (l':List (Tmp × Value)) (fr:Tr Value) (tm:Array Value),xZ γ fr tm→l.length=l'.length →
  (∀ (i:Nat) (p p':Tmp × Value),l[i]?=some p→l'[i]?=some p'→p.1=p'.1∧VR γ p.2 p'.2∧p'.1 < tm.size) →
  xZ γ (fy fr l) (l'.foldl (fun tmps (t,a)=>tmps.setIfInBounds t a) tm)∧(l'.foldl (fun tmps (t,a)=>tmps.setIfInBounds t a) tm).size=tm.size:=by
 intro l
 induction l with
 | nil=>intro l' fr tm h hl _;cases l' with
  | nil=>exact ⟨h,rfl⟩
  | cons=>cases hl
 | cons p l ih =>
  intro l' fr tm h hl hh
  cases l' with
  | nil=>cases hl
  | cons p' l' =>
   obtain ⟨e1,e2,e3⟩:=hh 0 p p' rfl rfl
   obtain ⟨d,v⟩:=p
   obtain ⟨d',v'⟩:=p'
   simp only at e1 e2 e3
   subst e1
   have hsz:(tm.setIfInBounds d v').size=tm.size:=by simp
   obtain ⟨r1,r2⟩:=ih l' (fr.set d v) (tm.setIfInBounds d v') (h.set e2 e3) (by simpa using hl) fun i p p' a b=>by
    rw [hsz];exact hh (i+1) p p' a b
   exact ⟨r1,r2.trans hsz⟩
theorem FK (hT:cL T) {g:aI} (h:HR γ g w) {t:TypeId} {a a' v:Value} {e:cK} (ho:iV T t a g=some (v,e)) (ha:VR γ a a') :
  ∃ ad v',a'=.pointer (some ad)∧(loadVar t ad).run T.P w=.ok v' w∧VR γ v v':=by
 unfold iV at ho
 cases hk:addr? a with
 | none=>rw [hk] at ho;cases ho
 | some ko =>
  obtain ⟨k,o⟩:=ko
  rw [hk] at ho
  simp only at ho
  cases hc:cells? (g k) with
  | none=>rw [hc] at ho;cases ho
  | some c0 =>
   obtain ⟨cs,own,es⟩:=c0
   cases hty:T.ty.get t with
   | none=>rw [hc,hty] at ho;cases ho
   | some r =>
    obtain ⟨i,hi,hsz,_,_,hu,_⟩:=hT.ty t r hty
    have hag:=hT.agg hty
    obtain ⟨lU,s,bytes,zero,agg,cI,eP⟩:=r
    rw [hc,hty] at ho
    simp only at ho hsz hu hag
    obtain ⟨b,d,hl,rfl⟩:=ha.addr hk
    obtain ⟨cs',el,fz,hw,hcr,_⟩:=h.cells hc hl
    cases agg with
    | true =>
     simp only [cond_true,Option.map_eq_some_iff,Prod.mk.injEq] at ho
     obtain ⟨c,hcut,rfl,rfl⟩:=ho
     obtain ⟨c',hv,hlen,hat,_,_⟩:=hcr.He hcut
     refine ⟨_,.agg c'.toArray,rfl,?_,VR.kW hv⟩
     have hload:=run_loadCells_list (P:=T.P) w ⟨b,d+o,none⟩ c' (fun j v hj=>by rw [Addr.add_lit,rV hw];exact hat j v hj)
     rw [hlen,←hsz] at hload
     simp [loadVar,pS hu,←hag,fE hi,hload]
    | false =>
     simp only [cond_false,Option.map_eq_some_iff,Prod.mk.injEq] at ho
     obtain ⟨x,hx,rfl,rfl⟩:=ho
     obtain ⟨x',h1,h2⟩:=hcr o x hx
     refine ⟨_,x',rfl,?_,h2⟩
     simp [loadVar,pS hu,←hag,load,Sem.run,rV hw,h1]
theorem eV {α β:Type} {P:Program} {s:Sem α} {k:α→Sem β} {a:α} {w w1:World} (h:s.run P w=.ok a w1):(s >>= k).run P w=(k a).run P w1:=by
 simp [h]
def Ly (tm:Array Value):ResultVar→Sem Value
 | .tmp t=>pure (tm.getD t undef)
 | .cell a t=>do loadVar t (←asAddr (tm.getD a undef))
theorem Ds (fn:Func) (tm:Array Value):results fn tm=(do
  let vs ←fn.results.mapM (Ly tm)
  pure (if h:vs.size=1 then vs[0] else .tuple vs)):=by
 unfold results
 congr 2
theorem BS (hT:cL T) {fr:Tr Value} {tm:Array Value} (h:HR γ H.get w) (hf:xZ γ fr tm):∀ (rs:List ResultVar) (vs:List Value),l5 T fr H rs=some vs →
  ∃ vs',(List.mapM (m:=Sem) (Ly tm) rs).run T.P w=.ok vs' w∧cD γ vs vs':=by
 intro rs
 induction rs with
 | nil=>intro vs hv;cases hv;exact ⟨[],rfl,cD.nil γ⟩
 | cons r rs ih =>
  intro vs hv
  rw [l5] at hv
  cases hr:yS T fr H r with
  | none=>rw [hr] at hv;cases hv
  | some v =>
   rw [hr] at hv
   simp only [Option.map_eq_some_iff] at hv
   obtain ⟨us,hus,rfl⟩:=hv
   obtain ⟨us',h1,h2⟩:=ih us hus
   cases r with
   | tmp t =>
    simp only [yS,Option.some.injEq] at hr
    subst hr
    refine ⟨tm.getD t undef :: us',?_,.cons (hf t) h2⟩
    rw [List.mapM_cons,eV rfl,eV h1]
    rfl
   | cell a t =>
    simp only [yS,Option.map_eq_some_iff] at hr
    obtain ⟨⟨x,e⟩,hx,rfl⟩:=hr
    obtain ⟨ad,v',e1,e2,e3⟩:=FK hT h hx (hf a)
    refine ⟨v' :: us',?_,.cons e3 h2⟩
    rw [List.mapM_cons,eV (a:=v') (w1:=w) (by simp only [Ly];rw [e1];simp [asAddr,e2]),eV h1]
    rfl
theorem Al {vs vs':List Value} (h:cD γ vs vs'):VR γ (dy vs) (dy vs'):=by
 match vs,vs',h with
 | [],[],h=>exact VR.dz h
 | [v],[v'],h=>exact h.2 0 v v' rfl rfl
 | a :: b :: l,a' :: b' :: l',h=>exact VR.dz h
 | [],_ :: _,h=>exact absurd h.1 (by simp)
 | [_],[],h=>exact absurd h.1 (by simp)
 | [_],_ :: _ :: _,h=>exact absurd h.1 (by simp)
 | _ :: _ :: _,[],h=>exact absurd h.1 (by simp)
 | _ :: _ :: _,[_],h=>exact absurd h.1 (by simp)
theorem FL (hT:cL T) {fr:Tr Value} {tm:Array Value} (h:HR γ H.get w) (hf:xZ γ fr tm) {fn:Func} {vs:List Value} (hv:l5 T fr H fn.results.toList=some vs) :
  ∃ v',(results fn tm).run T.P w=.ok v' w∧VR γ (dy vs) v':=by
 obtain ⟨vs',h1,h2⟩:=BS hT h hf fn.results.toList vs hv
 refine ⟨dy vs',?_,Al h2⟩
 rw [Ds,Array.mapM_eq_mapM_toList]
 rw [eV (a:=vs'.toArray) (w1:=w) (by rw [map_eq_pure_bind,eV h1];rfl)]
 match vs' with
 | []=>rfl
 | [v]=>rfl
 | a :: b :: l=>simp [dy]
end
end Go.RM
namespace Go.RM
open Go
theorem BT {n m:Nat} (h:n≤m):∀ {c:Code},codeOk n c=true→codeOk m c=true:=by
 intro c
 induction c with
 | region id ops draw =>
  intro hc
  simp only [codeOk,Bool.and_eq_true,List.all_eq_true] at hc ⊢
  refine ⟨hc.1,fun o ho=>⟨(hc.2 o ho).1,?_⟩⟩
  have:=(hc.2 o ho).2
  cases hd:o.dst with
  | none=>rfl
  | some d =>
   rw [hd] at this
   simp only at this ⊢
   have h1:=Nat.le_of_ble_eq_true this
   exact Nat.ble_eq_true_of_le (Nat.le_trans h1 h)
 | seq a b iha ihb=>intro hc;simp only [codeOk,Bool.and_eq_true] at hc ⊢;exact ⟨iha hc.1,ihb hc.2⟩
 | cond x a b iha ihb=>intro hc;simp only [codeOk,Bool.and_eq_true] at hc ⊢;exact ⟨⟨hc.1.1,iha hc.1.2⟩,ihb hc.2⟩
 | block id c ih=>intro hc;simp only [codeOk] at hc ⊢;exact ih hc
 | loop c ih=>intro hc;simp only [codeOk] at hc ⊢;exact ih hc
 | scope c ih=>intro hc;simp only [codeOk] at hc ⊢;exact ih hc
 | rangeFunc f ps a b iha ihb =>
  intro hc
  simp only [codeOk,Bool.and_eq_true,List.all_eq_true] at hc ⊢
  exact ⟨⟨⟨hc.1.1.1,fun p hp=>Nat.ble_eq_true_of_le (Nat.le_trans (Nat.le_of_ble_eq_true (hc.1.1.2 p hp)) h)⟩,iha hc.1.2⟩,ihb hc.2⟩
 | _=>intro _;rfl
structure Pre (γ:Gm) (st:St) (a:Act) (w:World) (rr:Option Nat) (N0:Nat):Prop where
 fr:xZ γ st.fr a.tmps
 hr:HR γ st.hp.get w
 rd:st.rd=rr.isSome
 df:Aj γ w N0 a.defers
 wf:Wf st.hp
 lp:∀ b,rr=some b→∃ l,γ.loc l=some (b,0)∧oP (st.hp.get l)=true
def tN (γ:Gm) (H:Hp) (w:World) (L:List ia) (e:Ending) (w':World):Prop :=
 ∃ v hp v' γ',ia.ret v hp ∈ L∧e=.returned v'∧VR γ' v v'∧Step γ H w γ' hp w'
def jL (γ:Gm) (H:Hp) (w:World) (sz:Nat) (rd:Option Nat) (N0:Nat) (L:List (Exit × St)) (e:Exit) (a':Act) (w':World):Prop :=
 ∃ p ∈ L,∃ γ',e=p.1∧Pre γ' p.2 a' w' rd N0∧a'.tmps.size=sz∧Step γ H w γ' p.2.hp w'
theorem jL.trans {γ γ1:Gm} {H H1:Hp} {w w1 w2:World} {sz:Nat} {rd:Option Nat} {N0:Nat} {L M:List (Exit × St)} {e:Exit} {a:Act}
  (s:Step γ H w γ1 H1 w1) (h:jL γ1 H1 w1 sz rd N0 M e a w2) (hs:∀ p ∈ M,p ∈ L):jL γ H w sz rd N0 L e a w2:=by
 obtain ⟨p,hp,γ',h1,h2,h3,h4⟩:=h
 exact ⟨p,hs p hp,γ',h1,h2,h3,s.trans h4⟩
structure cN (T : cr) (rec : rJ → Option (List ia)) (m : Nat) : Prop where
  call : ∀ f args hp L, rec (.call f args hp) = some L → (∃ fn c, T.P.funcs[f]? = some fn ∧ (fn.name == "runtime.NumGoroutine") = false ∧ fn.body = some c) ∧
    ∀ γ w args' N, Wf hp → HR γ hp.get w → fM γ hp.n N → (∀ r ∈ L, r.hp.n ≤ N) → cD γ args args' → CallsIn (FW none) 0 T.P f args'.toArray w (tN γ hp w L)
  round : ∀ l args hp L, rec (.round l args hp) = some L → ∀ γ w args' N b, Wf hp → γ.loc l = some (b, 0) → HR γ hp.get w → fM γ hp.n N → (∀ r ∈ L, r.hp.n ≤ N) → cD γ args args' →
    ∃ r : Loop, w.heap[b]? = some (.loop r) ∧ args'.length = r.params.size ∧
      RoundIn (FW none) 0 T.P b r.fn ((r.params.zip args'.toArray).foldl (fun tmps (t, a) => tmps.setIfInBounds t a) r.tmps) r.assign r.body w (tN γ hp w L)
  loop : ∀ c st Lr, rec (.loop c st) = some Lr → ∀ L, (∀ r ∈ Lr, ∃ p ∈ L, r = .out p.1 p.2) → ∀ γ w a rd N0 N, Pre γ st a w rd N0 → codeOk a.tmps.size c = true → fM γ st.hp.n N → (∀ r ∈ Lr, r.hp.n ≤ N) →
    N0 ≤ w.heap.size → Code.roundsIn (FW rd) 0 T.P c (jL γ st.hp w a.tmps.size rd N0 L) m a w
def kI (T:cr) (rec:rJ→Option (List ia)):Prop :=
 ∀ id ops st L,cS T rec ops st=some L→∀ γ w a rd N0 N,Pre γ st a w rd N0→codeOk a.tmps.size (.region id ops true)=true→fM γ st.hp.n N→(∀ s ∈ L,s.hp.n≤N) →
  (Code.region id ops true).wpIn (FW rd) 0 T.P (jL γ st.hp w a.tmps.size rd N0 (L.map fun s=>(.normal,s))) a w
section
variable {T : cr} {rec : rJ → Option (List ia)} {m : Nat}
theorem VR.oT {γ:Gm} {f:FuncId} {fs cs:Array Value} {v:Value} (h:VR γ (.func (.func f) fs cs) v):∃ fs' cs',v=.func (.func f) fs' cs'∧cD γ fs.toList fs'.toList∧cD γ cs.toList cs'.toList:=by
 cases h with
 | flat h=>cases h
 | func h1 h2 hf hc=>exact ⟨_,_,rfl,.nJ h1 hf,.nJ h2 hc⟩
theorem VR.tO {γ:Gm} {l:Nat} {fs cs:Array Value} {v:Value} (h:VR γ (.func (.yield l) fs cs) v):fs=#[]∧∃ b,v=.func (.yield b) #[] #[]∧γ.loc l=some (b,0):=by
 cases h with
 | flat h=>cases h
 | yield h=>exact ⟨rfl,_,rfl,h⟩
theorem m8 {v:Value} {args:List Value} {f:FuncId} {as:List Value} (h:dI v args=some (.fn f as)):∃ fs cs,v=.func (.func f) fs cs∧as=fs.toList++args++cs.toList:=by
 unfold dI at h
 split at h
 ·simp only [Option.some.injEq,Goal.fn.injEq] at h
  obtain ⟨rfl,rfl⟩:=h
  exact ⟨_,_,rfl,rfl⟩
 ·simp at h
 ·cases h
theorem nQ {v:Value} {args:List Value} {l:Nat} {as:List Value} (h:dI v args=some (.yield l as)):∃ fs cs,v=.func (.yield l) fs cs∧as=fs.toList++args:=by
 unfold dI at h
 split at h
 ·simp at h
 ·simp only [Option.some.injEq,Goal.yield.injEq] at h
  obtain ⟨rfl,rfl⟩:=h
  exact ⟨_,_,rfl,rfl⟩
 ·cases h
theorem sy {P : Program} {f : FuncId} {fn : Func} {c : Code} (h : P.funcs[f]? = some fn) (hn : (fn.name == "runtime.NumGoroutine") = false) (hb : fn.body = some c) (args : Array Value) (w : World) :
    (callFunc f args).run P w = .ok (.enter f args) w := by
  unfold callFunc
  have hn' : ¬ fn.name = "runtime.NumGoroutine" := by simpa using hn
  simp [program, Sem.run, h, hn', hb]
theorem wo (hS:cN T rec m) {γ:Gm} {H:Hp} {w:World} {v v':Value} {args args':List Value} {g:Goal} {L:List ia} {N:Nat} (hg:dI v args=some g) (hv:VR γ v v') (ha:cD γ args args')
  (hr:rec (jF H g)=some L) (hw:Wf H) (hh:HR γ H.get w) (hf:fM γ H.n N) (hN:∀ r ∈ L,r.hp.n≤N) {d:Deferred} (hd:(Deferred.ofValue v' args'.toArray).run T.P w=.ok d w) :
  (∃ f as,(invoke d.target d.args).run T.P w=.ok (.enter f as) w∧CallsIn (FW none) 0 T.P f as w (tN γ H w L)) ∨
  (∃ l f tm asg bd,(invoke d.target d.args).run T.P w=.ok (.round l f tm asg bd) w∧RoundIn (FW none) 0 T.P l f tm asg bd w (tN γ H w L)):=by
 cases g with
 | fn f as =>
  obtain ⟨fs,cs,rfl,rfl⟩:=m8 hg
  obtain ⟨fs',cs',rfl,e1,e2⟩:=hv.oT
  obtain ⟨⟨fn,c,h1,h2,h3⟩,hcall⟩:=hS.call _ _ _ _ hr
  have hd':d={target:=.fn (.func f) cs',args:=fs'++args'.toArray}:=by
   simp only [Deferred.ofValue] at hd
   cases hd;rfl
  subst hd'
  refine .inl ⟨f,fs'++args'.toArray++cs',sy h1 h2 h3 _ w,?_⟩
  have:=hcall γ w (fs'.toList++args'++cs'.toList) N hw hh hf hN ((e1.append ha).append e2)
  have he:(fs'.toList++args'++cs'.toList).toArray=fs'++args'.toArray++cs':=by apply Array.ext';simp
  rw [he] at this
  exact this
 | yield l as =>
  obtain ⟨fs,cs,rfl,rfl⟩:=nQ hg
  obtain ⟨rfl,b,rfl,hl⟩:=hv.tO
  have hd':d={target:=.fn (.yield b) #[],args:=#[]++args'.toArray}:=by
   simp only [Deferred.ofValue] at hd
   cases hd;rfl
  subst hd'
  obtain ⟨r,h1,h2,h3⟩:=hS.round _ _ _ _ hr γ w args' N b hw hl hh hf hN (by simpa using ha)
  refine .inr ⟨b,r.fn,_,r.assign,r.body,?_,h3⟩
  show (Instr.yield b (#[]++args'.toArray)).run T.P w=_
  rw [Array.empty_append]
  exact run_yield h1 (by simpa using h2)
theorem BU {o:Op} {f:Mz} {as:List Operand} (h:fc o=.call f as):(∃ x args tys,o=.call ⟨.value x,args,tys⟩∧f=.op x∧as=args.toList)∨∃ r name args tys,o=.call ⟨.invoke r name,args,tys⟩∧f=.FB r name∧as=args.toList:=by
 unfold fc at h
 split at h
 ·simp only [Kind.call.injEq] at h;obtain ⟨rfl,rfl⟩:=h;exact .inl ⟨_,_,_,rfl,rfl,rfl⟩
 ·simp only [Kind.call.injEq] at h;obtain ⟨rfl,rfl⟩:=h;exact .inr ⟨_,_,_,_,rfl,rfl,rfl⟩
 ·cases h
 ·cases h
theorem Dt {P:Program} {v:Value} {name:String} {vs:List Value} {g:Goal} (h:dI (vQ P v name) vs=some g):∃ t x f r,v=.iface t x∧aA P (method (P.types.size+Made.depth) t x name)=some (f,r)∧flat r=true∧vQ P v name=.func (.func f) #[r] #[]:=by
 unfold vQ at h ⊢
 split at h
 ·rename_i t x
  split at h
  ·rename_i f r hp
   cases hr:flat r with
   | true=>exact ⟨t,x,f,r,rfl,hp,hr,by simp only [cond_true]⟩
   | false=>rw [hr] at h;cases h
  ·cases h
 ·cases h
theorem Om {α:Type} (x:α) (b:Array α):(#[x]++b)[0]?=some x:=by
 rw [←Array.getElem?_toList,Array.toList_append];rfl
theorem On {α:Type} (x:α) (b:Array α):(#[x]++b).extract 1 (#[x]++b).size=b:=by
 apply Array.ext'
 rw [Array.toList_extract,Array.toList_append,Array.size_append]
 show (x :: b.toList).extract 1 _=_
 simp [List.extract]
 rw [show b.size=b.toList.length from Array.length_toList.symm]
 rw [List.take_of_length_le (by omega)]
theorem Am {T:cr} {γ:Gm} {o:Oper} {f:Mz} {as:List Operand} (hk:fc o.op=.call f as) {fr:Tr Value} {a:Act} (hev:∀ x ∈ o.op.operands,VR γ (bL fr x) (a.eval x)) {vs:List Value} {g:Goal} (hg:dI (m5 T.P fr f) vs=some g) (w:World) :
  (∀ c,o.op ≠ .defer c)∧cD γ (as.map (bL fr)) (as.map a.eval)∧∃ vf',VR γ (m5 T.P fr f) vf'∧∀ d,(Deferred.ofValue vf' (as.map a.eval).toArray).run T.P w=.ok d w→(execOp a.eval o).run T.P w=(invoke d.target d.args).run T.P w:=by
 rcases BU hk with ⟨x,args,tys,hop,rfl,rfl⟩|⟨r,name,args,tys,hop,rfl,rfl⟩
 ·refine ⟨(by rw [hop];intro c hc;cases hc),cD.map fun x hx=>hev x (by rw [hop];simp [Op.operands,Call.operands];exact .inr (by simpa using hx)),a.eval x,hev x (by rw [hop];simp [Op.operands,Call.operands]),fun d hd=>?_⟩
  obtain ⟨dst,op,ty,pos,after,guard⟩:=o
  simp only at hop
  subst hop
  show (do let d ←resolve a.eval ⟨.value x,args,tys⟩ ty;invoke d.target d.args:Sem Next).run T.P w=_
  refine eV ?_
  have e2:(args.toList.map a.eval).toArray=args.map a.eval:=by apply Array.ext';simp
  rw [e2] at hd
  exact hd
 ·obtain ⟨t,x,f0,rv,hv,hp,hfl,hm⟩:=Dt hg
  have hr:a.eval r=.iface t x:=by
   have:=hev r (by rw [hop];simp [Op.operands,Call.operands])
   rw [hv] at this
   generalize a.eval r=y at this
   cases this with
   | flat=>rfl
  have hvr:VR γ (m5 T.P fr (.FB r name)) (.func (.func f0) #[rv] #[]):=by
   show VR γ (vQ T.P (bL fr r) name) _
   rw [hm]
   exact .func rfl rfl (fun i h1 h2=>by
    have:i=0:=by simpa using h1
    subst this
    exact VR.of_flat hfl) (fun i h1=>absurd h1 (by simp))
  refine ⟨(by rw [hop];intro c hc;cases hc),cD.map fun x hx=>hev x (by rw [hop];simp [Op.operands,Call.operands];exact .inr (by simpa using hx)),_,hvr,fun d hd=>?_⟩
  obtain ⟨dst,op,ty,pos,after,guard⟩:=o
  simp only at hop
  subst hop
  have e2:(args.toList.map a.eval).toArray=args.map a.eval:=by apply Array.ext';simp
  rw [e2] at hd
  have hd':d={target:=.fn (.func f0) #[],args:=#[rv]++args.map a.eval}:=by
   have:(Deferred.ofValue (.func (.func f0) #[rv] #[]) (args.map a.eval)).run T.P w=.ok {target:=.fn (.func f0) #[],args:=#[rv]++args.map a.eval} w:=rfl
   rw [this] at hd
   cases hd
   rfl
  subst hd'
  have hmr:=jJ T.P hp w
  have h1:(resolve a.eval ⟨.invoke r name,args,tys⟩ ty).run T.P w=.ok {target:=.fn (.method name) #[],args:=#[a.eval r]++args.map a.eval} w:=rfl
  refine (eV h1:(do let d ←resolve a.eval ⟨.invoke r name,args,tys⟩ ty;invoke d.target d.args:Sem Next).run T.P w=_).trans ?_
  have h0:(#[a.eval r]++args.map a.eval)[0]?=some (a.eval r):=Om _ _
  show (invoke (.fn (.method name) #[]) (#[a.eval r]++args.map a.eval)).run T.P w=(callFunc f0 ((#[rv]++args.map a.eval)++#[])).run T.P w
  have h2:invoke (.fn (.method name) #[]) (#[a.eval r]++args.map a.eval)=callMethod (a.eval r) name ((#[a.eval r]++args.map a.eval).extract 1 (#[a.eval r]++args.map a.eval).size):=by
   unfold invoke
   simp only [h0]
  rw [h2]
  rw [hr]
  have e3:(#[Value.iface t x]++args.map a.eval).extract 1 (#[Value.iface t x]++args.map a.eval).size=args.map a.eval:=On _ _
  rw [e3]
  show (do let p ←method ((←program).types.size+Made.depth) t x name;callFunc p.1 (#[p.2]++args.map a.eval):Sem Next).run T.P w=_
  rw [Array.append_empty]
  have hq:(do method ((←program).types.size+Made.depth) t x name:Sem (FuncId × Value)).run T.P w=.ok (f0,rv) w:=hmr
  exact eV hq
theorem BV {o:Op} {it:Operand} (h:fc o=.next it):o=.next it false:=by
 unfold fc at h
 split at h
 ·cases h
 ·cases h
 ·simp only [Kind.next.injEq] at h;rw [h]
 ·cases h
theorem yZ {n:Nat} {o:Op} {ρ:Operand→Value} {g:aI} {v:Value} {e:cK} (h:kV T n o ρ g=some (v,e)):∀ c,o ≠ .defer c:=by
 intro c hc
 subst hc
 cases h
theorem Oper.An {rd:Option Nat} {P:Program} {o:Oper} {a:Act} {w w':World} {next:Act→World→Prop} {Q:Exit→Act→World→Prop} {v':Value} (hp:∀ c,o.op ≠ .defer c)
  (hr:(execOp a.eval o).run P w=.ok (.value v') w'∨((execOp a.eval o).run P w=.ok .skip w'∧v'=undef)) (h:next (a.put o.dst v') w'):o.wpIn (FW rd) 0 P a w next Q:=by
 refine ⟨fun _ _=>trivial,?_⟩
 have he:o.semAt rd a.eval=execOp a.eval o:=Oper.semAt_plain (FW rd) _ _ hp
 show o.uponIn _ _ _ _ _ _ ((o.semAt rd a.eval).run P w)
 rw [he]
 rcases hr with hr|⟨hr,rfl⟩
 ·rw [hr];exact h
 ·rw [hr];exact h
theorem uL (hT:cL T) (hS:cN T rec m) {o:Oper} {st:St} {L:List (Value × Hp)} (ho:gE T rec o.op st=some L) {γ:Gm} {w:World} {a:Act} {rd:Option Nat} {N:Nat}
  (hfr:xZ γ st.fr a.tmps) (hw:Wf st.hp) (hh:HR γ st.hp.get w) (hops:o.op.operands.toList.all uG=true) (hf:fM γ st.hp.n N) (hN:∀ p ∈ L,p.2.n≤N) {next:Act→World→Prop} {Q:Exit→Act→World→Prop}
  (hnext:∀ v hp v' γ' w',(v,hp) ∈ L→VR γ' v v'→Step γ st.hp w γ' hp w'→next (a.put o.dst v') w'):o.wpIn (FW rd) 0 T.P a w next Q:=by
 have hev:∀ x ∈ o.op.operands,VR γ (bL st.fr x) (a.eval x):=fun x hx=>Hl hfr (List.all_eq_true.1 hops x (by simpa using hx))
 unfold gE at ho
 split at ho
 ·rename_i f as hk
  split at ho
  ·rename_i g hg
   obtain ⟨hnd,ha,vf',hv,hx⟩:=Am hk hev hg w
   cases hr:rec (jF st.hp g) with
   | none=>rw [hr] at ho;cases ho
   | some R =>
    rw [hr] at ho
    simp only at ho
    have hmem:∀ r ∈ R,∃ v hp,r=.ret v hp∧(v,hp) ∈ L:=by
     intro r hrm
     obtain ⟨Ma,h1,h2⟩:=cM ho r hrm
     cases r with
     | ret v hp=>simp only [valOf,Option.some.injEq] at h1;subst h1;exact ⟨v,hp,rfl,h2 _ (by simp)⟩
     | out e s=>cases h1
    have hN':∀ r ∈ R,r.hp.n≤N:=fun r hrm=>by
     obtain ⟨v,hp,rfl,hm⟩:=hmem r hrm
     exact hN _ hm
    have hd:∃ d,(Deferred.ofValue vf' (as.map a.eval).toArray).run T.P w=.ok d w:=by
     cases g with
     | fn f' as' =>
      obtain ⟨fs,cs,e,_⟩:=m8 hg
      rw [e] at hv
      obtain ⟨fs',cs',e',_,_⟩:=hv.oT
      rw [e']
      exact ⟨_,rfl⟩
     | yield l as' =>
      obtain ⟨fs,cs,e,_⟩:=nQ hg
      rw [e] at hv
      obtain ⟨_,b,e',_⟩:=hv.tO
      rw [e']
      exact ⟨_,rfl⟩
    obtain ⟨d,hd⟩:=hd
    have hback:∀ e w',tN γ st.hp w R e w'→(match e with
      | .returned v=>next (a.put o.dst v) w'
      | .panicked chain=>Q (.panic chain) a w'
      | .outgrown=>LetsOut Q):=by
     intro e w' ⟨v,hp,v',γ',hm,he,hv',hs⟩
     subst he
     obtain ⟨v0,hp0,e0,hm0⟩:=hmem _ hm
     cases e0
     exact hnext v hp v' γ' w' hm0 hv' hs
    refine ⟨fun _ _=>trivial,?_⟩
    have he:o.semAt rd a.eval=execOp a.eval o:=Oper.semAt_plain (FW rd) _ _ hnd
    show o.uponIn _ _ _ _ _ _ ((o.semAt rd a.eval).run T.P w)
    rw [he]
    have hx:=hx d hd
    rw [hx]
    rcases wo hS hg hv ha hr hw hh hf hN' hd with ⟨f',as',h1,h2⟩|⟨l,f',tm,asg,bd,h1,h2⟩
    ·rw [h1]
     refine ⟨fun h=>Bool.noConfusion h,?_⟩
     exact CallsIn.mono (F:=FW none) h2 fun e w' he=>by
      have:=hback e w' he
      cases e <;> exact this
    ·rw [h1]
     refine ⟨fun h=>Bool.noConfusion h,?_⟩
     exact RoundIn.mono (F:=FW none) h2 fun e w' he=>by
      have:=hback e w' he
      cases e <;> exact this
  ·cases ho
 ·rename_i it hk
  have hop:=BV hk
  simp only [Option.map_eq_some_iff] at ho
  obtain ⟨M,hM,rfl⟩:=ho
  obtain ⟨v,e,hm,hg⟩:=Dm (T:=T) (n:=st.hp.n) (ty:=o.type) hh hM (hev it (by rw [hop];simp [Op.operands]))
  obtain ⟨v',w',γ',h1,h2,h3⟩:=hg.step
  refine Oper.An (w':=w') (v':=v') (by rw [hop];intro c hc;cases hc) ?_ (hnext v _ v' γ' w' (List.mem_map.2 ⟨(v,e),hm,rfl⟩) h2 h3)
  obtain ⟨dst,op,ty,pos,after,guard⟩:=o
  simp only at hop
  subst hop
  exact h1
 ·split at ho
  ·rename_i v e hop
   simp only [Option.some.injEq] at ho
   subst ho
   have hn:e.news=true→γ.loc st.hp.n=none:=fun he=>hf _ (Nat.le_refl _) (by
    have:=hN (v,st.hp.app e) (by simp)
    simp only [qz,he,if_true] at this
    omega)
   obtain ⟨v',w',γ',h1,h2,h3⟩:=(BI (n:=st.hp.n) hT hh hn hop hev).step
   exact Oper.An (w':=w') (v':=v') (yZ hop) h1 (hnext v _ v' γ' w' (by simp) h2 h3)
  ·cases ho
theorem Good.le {β:Type} {H:Hp} {f:β→Hp} {M:List β} (h:Good H f M) {N:Nat} (hN:∀ b ∈ M,(f b).n≤N):H.n≤N:=by
 obtain ⟨h1,h2⟩:=h
 cases M with
 | nil=>exact absurd rfl h1
 | cons b l=>exact Nat.le_trans (h2 b (by simp)).n (hN b (by simp))
theorem Pre.put {γ γ':Gm} {st:St} {a:Act} {w w':World} {rd:Option Nat} {N0:Nat} (h:Pre γ st a w rd N0) {hp:Hp} {v v':Value} {dst:Option Tmp} (hv:VR γ' v v') (hs:Step γ st.hp w γ' hp w')
  (hd:∀ d,dst=some d→d < a.tmps.size) (hk:eT st.hp hp):Pre γ' ⟨fY st.fr dst v,hp,st.rd⟩ (a.put dst v') w' rd N0 :=
 ⟨(h.fr.mono hs.le).put hv hd,hs.hr,h.rd,by rw [put_defers];exact h.df.step hs,hk.wf h.wf,fun b hb=>let ⟨l,h1,h2⟩:=h.lp b hb;⟨l,hs.le.loc _ _ h1,hk.loop h.wf l h2⟩⟩
def gG (n:Nat) (o:Oper):Bool:=o.op.operands.toList.all uG && (match o.dst with|some d=>Nat.blt d n|none=>true)
theorem nR {n:Nat} {o:Oper} (h:gG n o=true):∀ d,o.dst=some d→d < n:=by
 intro d hd
 simp only [gG,Bool.and_eq_true,hd] at h
 exact Nat.le_of_ble_eq_true h.2
theorem ym (hT:cL T) (hK:bI rec) (hS:cN T rec m) (ops:Array Oper) {γ0:Gm} {H0:Hp} {w0:World} {sz:Nat} {rd:Option Nat} {N0 N:Nat} {Lb:List (Exit × St)} :
  ∀ (l:List Oper) (st:St) (L:List St),bR T rec ops.toList l st=some L→∀ γ a w,Pre γ st a w rd N0→a.tmps.size=sz→Step γ0 H0 w0 γ st.hp w→l.all (gG sz)=true→fM γ st.hp.n N →
   (∀ s ∈ L,s.hp.n≤N)→(∀ s ∈ L,(Exit.normal,s) ∈ Lb)→wpListIn (FW rd) 0 T.P ops (jL γ0 H0 w0 sz rd N0 Lb) l a w:=by
 intro l
 induction l with
 | nil =>
  intro st L h γ a w hp hsz hs _ _ _ hb
  rw [l7] at h
  cases h
  exact ⟨_,hb st (by simp),γ,rfl,hp,hsz,hs⟩
 | cons o l ih =>
  intro st L h γ a w hp hsz hs hok hf hN hb
  rw [eU] at h
  simp only [List.all_cons,Bool.and_eq_true] at hok
  have hdst:∀ d,o.dst=some d→d < a.tmps.size:=by rw [hsz];exact nR hok.1
  rw [wpListIn,Ho hp.fr]
  cases hg:cm ops.toList st.fr o.guard with
  | false =>
   rw [hg] at h
   simp only [cond_false] at h
   refine ⟨fun _ _=>trivial,?_⟩
   have hr:=Step.refl hp.hr
   exact ih _ L h γ _ w (hp.put (VR.undef γ) hr hdst (.refl _)) ((jK _ _ _).trans hsz) hs hok.2 hf hN hb
  | true =>
   rw [hg] at h
   simp only [cond_true] at h
   simp only [if_true]
   cases ha:gE T rec o.op st with
   | none=>rw [ha] at h;cases h
   | some A =>
    rw [ha] at h
    simp only at h
    have hsub:∀ p ∈ A,∃ M,bR T rec ops.toList l ⟨fY st.fr o.dst p.1,p.2,st.rd⟩=some M∧∀ s ∈ M,s ∈ L:=fun p hpm=>cM h p hpm
    have hle:∀ p ∈ A,p.2.n≤N:=fun p hpm=>by
     obtain ⟨M,h1,h2⟩:=hsub p hpm
     exact Good.le (fR hK _ _ _ _ h1).1 (fun s hsm=>hN s (h2 s hsm))
    have hops:o.op.operands.toList.all uG=true:=by
     have:=hok.1
     simp only [gG,Bool.and_eq_true] at this
     exact this.1
    refine uL hT hS ha hp.fr hp.wf hp.hr hops hf hle fun v hp' v' γ' w' hm hv hst=>?_
    obtain ⟨M,h1,h2⟩:=hsub _ hm
    exact ih _ M h1 γ' _ w' (hp.put hv hst hdst ((qU hK ha).2 _ hm)) ((jK _ _ _).trans hsz) (hs.trans hst) hok.2 (hst.fresh hf) (fun s hsm=>hN s (h2 s hsm)) fun s hsm=>hb s (h2 s hsm)
theorem HR.sA {γ:Gm} {g:aI} {w:World} (h:HR γ g w) {l b o:Nat} {s:LoopState} {pend:Option Code} {fr:Tr Value} {ps:Array Tmp} {as bd:Code} (hg:g l=some (.loop s pend fr ps as bd)) (hl:γ.loc l=some (b,o)) :
  o=0∧∃ r:Loop,w.heap[b]?=some (.loop r)∧r.state=s∧r.pending=pend∧r.params=ps∧r.assign=as∧r.body=bd ∧
   xZ γ fr r.tmps∧codeOk r.tmps.size as=true∧codeOk r.tmps.size bd=true∧(∀ p ∈ ps,p < r.tmps.size):=by
 obtain ⟨h0,_,fn,tm,df',h1,h2,h3,h4,h5⟩:=h.iy l b o _ hg hl
 exact ⟨h0,_,h1,rfl,rfl,rfl,rfl,rfl,h2,h3,h4,h5⟩
theorem Step.Ao {γ:Gm} {H:Hp} {w:World} (h:HR γ H.get w) {l b:Nat} {s s':LoopState} {pend pend':Option Code} {fr:Tr Value} {ps:Array Tmp} {as bd:Code} (hg:H.get l=some (.loop s pend fr ps as bd)) (hl:γ.loc l=some (b,0))
  {r:Loop} (hr:w.heap[b]?=some (.loop r)):Step γ H w γ (H.put l (.loop s' pend' fr ps as bd)) (w.putObj b (.loop {r with state:=s',pending:=pend'})):=by
 obtain ⟨_,_,fn,tm,df',h1,h2,h3⟩:=h.iy l b 0 _ hg hl
 rw [hr] at h1
 cases h1
 have hlt:=h.lt _ _ _ hl
 have hoth:∀ i,i ≠ b→(w.putObj b (.loop {state:=s',pending:=pend',fn,tmps:=tm,params:=ps,assign:=as,body:=bd,defers:=df'})).heap[i]?=w.heap[i]?:=fun i hi=>World.putObj_heap_other hi
 have hB:γ.B≤b:=(h.iy l b 0 _ hg hl).2.1
 refine ⟨Nat.le_refl _,Gm.Le.refl γ,fun _ _=>rfl,?_,?_⟩
 ·rw [Hp.l6]
  exact h.put hg rfl hl World.putObj_size hoth (.inl rfl) ⟨rfl,hB,fn,tm,df',World.putObj_heap_same hlt,h2,h3⟩
 ·rw [Hp.l6]
  exact lV.put hg rfl hl rfl rfl rfl World.putObj_size hoth
theorem BW {v:Value} {args:List Value} {f:FuncId} {as:List Value} (h:dI v args=some (.fn f as)) {γ:Gm} {v':Value} (hv:VR γ v v') (args':Array Value) (P:Program) (w:World) :
  ∃ d,(Deferred.ofValue v' args').run P w=.ok d w:=by
 obtain ⟨fs,cs,e,_⟩:=m8 h
 rw [e] at hv
 obtain ⟨fs',cs',e',_,_⟩:=hv.oT
 rw [e']
 exact ⟨_,rfl⟩
theorem FM {ps:Array Tmp} {as bd:Code} {_f:Operand} {st:St} {γ:Gm} {w:World} {a:Act} {rd:Option Nat} {N0:Nat} (hp:Pre γ st a w rd N0) (h0:N0≤w.heap.size) (_hnone:γ.loc st.hp.n=none):∃ (w1:World) (D:Nat) (ds:List Deferred),
  HR γ st.hp.get w1∧w.heap.size≤w1.heap.size∧lV γ st.hp.get w γ st.hp.get w1 ∧
  (∀ fn,(Instr.enterLoop fn a.tmps ps as bd rd).run T.P w=.ok (w1.heap.size,ds) (w1.alloc (.loop {state:=.ready,pending:=none,fn,tmps:=a.tmps,params:=ps,assign:=as,body:=bd,defers:=D}))) ∧
  ∀ (o:Obj) (H1:Hp),Step γ st.hp w (γ.add st.hp.n w1.heap.size 0) H1 (w1.alloc o)→Aj (γ.add st.hp.n w1.heap.size 0) (w1.alloc o) N0 (ds++a.defers):=by
 cases rd with
 | some b =>
  obtain ⟨l,hl,hlp⟩:=hp.lp b rfl
  obtain ⟨r,hr⟩:∃ r,w.heap[b]?=some (.loop r):=by
   cases hg:st.hp.get l with
   | none=>rw [hg] at hlp;cases hlp
   | some x =>
    cases x with
    | loop s pend fr ps as bd =>
     obtain ⟨_,r,h,_⟩:=hp.hr.sA hg hl
     exact ⟨r,h⟩
    | _=>rw [hg] at hlp;cases hlp
  exact ⟨w,r.defers,[],hp.hr,Nat.le_refl _,.refl _ _ _,fun fn=>run_enterLoop_inner hr fn a.tmps ps as bd,fun o H1 hs=>hp.df.step hs⟩
 | none =>
  let w1:=w.alloc (.deferred (some []))
  have hh1:HR γ st.hp.get w1:=hp.hr.off (by show _≤(w.heap.push _).size;simp) fun k b o hl=>by
   show (w.heap.push _)[b]?=_
   rw [Array.getElem?_push,if_neg (by have:=hp.hr.lt _ _ _ hl;omega)]
  have hsz1:w1.heap.size=w.heap.size+1:=by show (w.heap.push _).size=_;simp
  have hu1:lV γ st.hp.get w γ st.hp.get w1:=(lV.refl _ _ _).off rfl rfl rfl (by omega) fun b hb=>by
   show (w.heap.push _)[b]?=_
   rw [Array.getElem?_push,if_neg (by omega)]
  refine ⟨w1,w.heap.size,[{target:=.collected w.heap.size,args:=#[]}],hh1,by omega,hu1,fun fn=>by rw [hsz1];exact run_enterLoop_outer fn a.tmps ps as bd,fun o H1 hs1=>?_⟩
  have hl1:(γ.add st.hp.n w1.heap.size 0).loc st.hp.n=some (w.heap.size+1,0):=by rw [←hsz1];exact Gm.cA _ _ _ _
  obtain ⟨rs,e1,e2,e3⟩:=hp.df.step hs1
  refine ⟨w.heap.size :: rs,by rw [e1];rfl,List.nodup_cons.2 ⟨fun hmem=>?_,e2⟩,fun r hrm=>?_⟩
  ·obtain ⟨rs0,q1,q2,q3⟩:=hp.df
   have hrr:rs0=rs:=by
    have hinj:∀ (l l':List Nat),l.map (fun r=>({target:=.collected r,args:=#[]}:Deferred))=l'.map (fun r=>({target:=.collected r,args:=#[]}:Deferred))→l=l':=by
     intro l
     induction l with
     | nil=>intro l' he;cases l' with
      | nil=>rfl
      | cons=>cases he
     | cons x l ih=>intro l' he;cases l' with
      | nil=>cases he
      | cons y l' =>
       simp only [List.map_cons,List.cons.injEq,Deferred.mk.injEq,Target.collected.injEq,and_true] at he
       rw [he.1,ih l' he.2]
    exact hinj _ _ (q1.symm.trans e1)
   subst hrr
   have:=(Array.getElem?_eq_some_iff.1 (q3 _ hmem).2.1).1
   omega
  ·rcases List.mem_cons.1 hrm with rfl|hrm
   ·refine ⟨h0,?_,fun k o hl=>?_⟩
    ·show (w1.heap.push _)[w.heap.size]?=_
     rw [Array.getElem?_push,if_neg (by omega)]
     show (w.heap.push _)[w.heap.size]?=_
     simp
    ·by_cases hk:k=st.hp.n
     ·subst hk
      rw [hl1] at hl
      simp at hl
     ·have:=hp.hr.lt k _ o (by rw [←hl];exact (Gm.bK _ _ _ hk).symm)
      omega
   ·exact e3 r hrm
theorem BX (hK:bI rec) (hS:cN T rec m) {f:Operand} {ps:Array Tmp} {as bd:Code} {st:St} {L:List (Exit × St)} (h:nI rec f ps as bd st=some L)
  {γ:Gm} {w:World} {a:Act} {rd:Option Nat} {N0 N:Nat} (hp:Pre γ st a w rd N0) (hc:codeOk a.tmps.size (.rangeFunc f ps as bd)=true) (hf:fM γ st.hp.n N) (hN:∀ p ∈ L,p.2.hp.n≤N) (h0:N0≤w.heap.size) :
  (Code.rangeFunc f ps as bd).wpIn (FW rd) 0 T.P (jL γ st.hp w a.tmps.size rd N0 L) a w:=by
 simp only [codeOk,Bool.and_eq_true,List.all_eq_true] at hc
 obtain ⟨⟨⟨hc1,hc2⟩,hc3⟩,hc4⟩:=hc
 unfold nI at h
 split at h
 ·rename_i g args hg
  cases hr:rec (.call g args (st.hp.push (.loop .ready none st.fr ps as bd))) with
  | none=>rw [hr] at h;cases h
  | some R =>
   rw [hr] at h
   simp only at h
   have hsub:∀ r ∈ R,∃ M,jH st.hp.n st.fr st.rd r=some M∧∀ q ∈ M,q ∈ L:=fun r hrm=>cM h r hrm
   have hNR:∀ r ∈ R,r.hp.n≤N:=by
    intro r hrm
    obtain ⟨M,h1,h2⟩:=hsub r hrm
    obtain ⟨v,hp',s,pend,fr0,ps0,as0,bd0,rfl,_,_,h3⟩:=mM h1
    rcases h3 with ⟨_,rfl⟩|⟨_,rfl⟩|⟨id,_,rfl⟩ <;> exact hN _ (h2 _ (List.mem_singleton_self _))
   have hn1:st.hp.n < N:=by
    have:=Good.le (hK _ _ hr) hNR
    exact this
   have hnone:γ.loc st.hp.n=none:=hf _ (Nat.le_refl _) hn1
   obtain ⟨w1,D,ds,hh1,hsz1,hu1,hent,hdf⟩:=FM (T:=T) (_f:=f) (ps:=ps) (as:=as) (bd:=bd) hp h0 hnone
   refine wpIn_rangeFunc fun fn _=>?_
   let rcd:Loop:={state:=.ready,pending:=none,fn,tmps:=a.tmps,params:=ps,assign:=as,body:=bd,defers:=D}
   let w2:=w1.alloc (.loop rcd)
   let γ1:=γ.add st.hp.n w1.heap.size 0
   have hle:γ.Le γ1:=Gm.nK hnone
   have hh2:HR γ1 (st.hp.push (.loop .ready none st.fr ps as bd)).get w2:=by
    rw [Hp.kq]
    refine hh1.new hnone (obj:=.loop rcd) rfl ⟨rfl,by rw [hle.B];exact hh1.base,fn,a.tmps,D,?_,hp.fr.mono hle,hc3,hc4,fun p hpp=>Nat.le_of_ble_eq_true (hc2 p (by simpa using hpp))⟩
    show (w1.heap.push _)[w1.heap.size]?=_
    simp [rcd]
   have hs1:Step γ st.hp w γ1 (st.hp.push (.loop .ready none st.fr ps as bd)) w2 :=
    ⟨Nat.le_succ _,hle,fun k hk=>Gm.bK _ _ _ (by
     have:(st.hp.push (.loop .ready none st.fr ps as bd)).n=st.hp.n+1:=rfl
     omega),hh2,by
     rw [Hp.kq]
     exact hu1.trans (lV.new (obj:=.loop rcd) rfl rfl rfl rfl)⟩
   have hf1:fM γ1 (st.hp.push (.loop .ready none st.fr ps as bd)).n N:=hs1.fresh hf
   have hl1:γ1.loc st.hp.n=some (w1.heap.size,0):=Gm.cA _ _ _ _
   have hw1:Wf (st.hp.push (.loop .ready none st.fr ps as bd)):=(eT.push _ _).wf hp.wf
   have hv:=(Hl hp.fr hc1).mono hle
   have ha:cD γ1 [.func (.yield st.hp.n) #[] #[]] [.func (.yield w1.heap.size) #[] #[]]:=.cons (.yield hl1) (cD.nil _)
   obtain ⟨d,hd⟩:=BW hg hv #[.func (.yield w1.heap.size) #[] #[]] T.P w2
   have hcall:∃ f' as',(invoke d.target d.args).run T.P w2=.ok (.enter f' as') w2∧CallsIn (FW none) 0 T.P f' as' w2 (tN γ1 (st.hp.push (.loop .ready none st.fr ps as bd)) w2 R):=by
    rcases wo hS (g:=.fn g args) hg hv ha hr hw1 hh2 hf1 hNR hd with x|⟨l',f',tm,asg,bd',h1,_⟩
    ·exact x
    ·exfalso
     obtain ⟨fs,cs,e,_⟩:=m8 hg
     rw [e] at hv
     obtain ⟨fs',cs',e',_,_⟩:=hv.oT
     rw [e'] at hd
     simp only [Deferred.ofValue] at hd
     cases hd
     obtain ⟨⟨fn',c',q1,q2,q3⟩,_⟩:=hS.call _ _ _ _ hr
     have:=sy q1 q2 q3 (fs'++#[Value.func (.yield w1.heap.size) #[] #[]]++cs') w2
     have h1':(callFunc g (fs'++#[Value.func (.yield w1.heap.size) #[] #[]]++cs')).run T.P w2=_:=h1
     rw [this] at h1'
     cases h1'
   obtain ⟨f',as',hinv,hcl⟩:=hcall
   refine ⟨w1.heap.size,ds,w2,d,w2,f',as',w2,hent fn,?_,fun _ _=>trivial,hinv,fun h=>Bool.noConfusion h,?_⟩
   ·have hres0:resolve a.eval (rangeCall f w1.heap.size) 0=Deferred.ofValue (a.eval f) #[.func (.yield w1.heap.size) #[] #[]]:=by simp [resolve,Act.eval]
    rw [hres0];exact hd
   refine CallsIn.mono (F:=FW none) hcl fun e w3 hR=>?_
   obtain ⟨v,hp',v',γ',hm,rfl,_,hs2⟩:=hR
   obtain ⟨M,h1,h2⟩:=hsub _ hm
   obtain ⟨v0,hp0,s,pend,fr0,ps0,as0,bd0,e0,hget,hbusy,hres⟩:=mM h1
   cases e0
   have hl3:γ'.loc st.hp.n=some (w1.heap.size,0):=hs2.le.loc _ _ hl1
   obtain ⟨_,r,hr1,hr2,hr3,_⟩:=hs2.hr.sA hget hl3
   have hs3:=Step.Ao (s':=.exhausted) (pend':=pend) hs2.hr hget hl3 hr1
   have hend:=run_endLoop (P:=T.P) hr1 (by rw [hr2];exact hbusy)
   have hsall:=(hs1.trans hs2).trans hs3
   have hwe:w3.putObj w1.heap.size (.loop {r with state:=.exhausted})=w3.putObj w1.heap.size (.loop {r with state:=.exhausted,pending:=pend}):=by rw [←hr3]
   rw [hwe] at hend
   rw [hr3] at hend
   let st':St:=⟨st.fr,hp'.put st.hp.n (.loop .exhausted pend fr0 ps0 as0 bd0),st.rd⟩
   have hkeep:eT st.hp st'.hp:=((eT.push _ _).trans ((hK _ _ hr).2 _ hm)).trans (eT.put hp' _ _ (by rw [hget];simp) (fun _=>rfl))
   have hpre:Pre γ' st' {a with defers:=ds++a.defers} (w3.putObj w1.heap.size (.loop {r with state:=.exhausted,pending:=pend})) rd N0 :=
    ⟨hp.fr.mono hsall.le,hsall.hr,hp.rd,((hdf _ _ hs1).step hs2).step hs3,hkeep.wf hp.wf,fun b hb=>let ⟨l,q1,q2⟩:=hp.lp b hb;⟨l,hsall.le.loc _ _ q1,hkeep.loop hp.wf l q2⟩⟩
   refine ⟨pend,_,hend,?_⟩
   rcases hres with ⟨e,rfl⟩|⟨e,rfl⟩|⟨id,e,rfl⟩
   ·subst e
    exact ⟨_,h2 _ (List.mem_singleton_self _),γ',rfl,hpre,rfl,hsall⟩
   ·subst e
    exact wpIn_ret ⟨_,h2 _ (List.mem_singleton_self _),γ',rfl,hpre,rfl,hsall⟩
   ·subst e
    exact wpIn_exit ⟨_,h2 _ (List.mem_singleton_self _),γ',rfl,hpre,rfl,hsall⟩
 ·cases h
end
end Go.RM
namespace Go.RM
open Go
theorem Du {F:Fence} {n:Nat} {P:Program} {c:Code} {Q:Exit→Act→World→Prop} {a:Act} {w:World} (h:c.wpIn F n P Q a w) (hq:∀ l a w,¬ Q (.goto l) a w):(Code.scope c).wpIn F n P Q a w:=by
 intro b k cs hro hb hr
 have h0:(lone (b.atR a (.code (.scope c) :: k)) cs w).fenced P F:=fenced_calm hb hr rfl
 have s1:step P (lone (b.atR a (.code (.scope c) :: k)) cs w)=.next (lone (b.atR a (.code c :: .inScope c :: k)) cs w):=step_lone_go (by simp [stepG,stepG.exec,Frame.atR])
 have s2:∀ a w,step P (lone (b.atR a (.inScope c :: k)) cs w)=.next (lone (b.atR a k) cs w):=fun a w=>step_lone_go (by simp [stepG,stepG.exec,Frame.atR])
 obtain ⟨e,a₁,w₁,hq1,harr⟩:=h b (.inScope c :: k) cs hro hb hr
 cases e with
 | normal=>exact ⟨.normal,a₁,w₁,hq1,.head h0 s1 (StepsIn.trans harr (.one (fenced_calm hb hr rfl) (s2 a₁ w₁)))⟩
 | exit id =>
  have hx:exitTo id (.inScope c :: k)=exitTo id k:=by simp [exitTo]
  exact ⟨.exit id,a₁,w₁,hq1,fun k' hk=>.head h0 s1 (harr.1 k' (by rw [hx];exact hk)),fun hr' hk=>let ⟨k₁,h1,h2⟩:=harr.2 hr' (by rw [hx];exact hk);⟨k₁,h1,.head h0 s1 h2⟩⟩
 | goto l=>exact absurd hq1 (hq l a₁ w₁)
 | ret=>exact ⟨_,a₁,w₁,hq1,.of_steps (.one h0 s1) harr⟩
 | panic ch=>exact ⟨_,a₁,w₁,hq1,.of_steps (.one h0 s1) harr⟩
 | outgrown=>exact ⟨_,a₁,w₁,hq1,.of_steps (.one h0 s1) harr⟩
section
variable {T : cr} {rec : rJ → Option (List ia)} {m : Nat}
theorem me (hT:cL T) (hK:bI rec) (hS:cN T rec m) (hD:kI T rec):∀ (c:Code) (st:St) (L:List (Exit × St)),bJ T rec c st=some L →
  ∀ {γ:Gm} {w:World} {a:Act} {rd:Option Nat} {N0 N:Nat},Pre γ st a w rd N0→codeOk a.tmps.size c=true→fM γ st.hp.n N→(∀ p ∈ L,p.2.hp.n≤N)→N0≤w.heap.size →
  c.wpIn (FW rd) 0 T.P (jL γ st.hp w a.tmps.size rd N0 L) a w:=by
 intro c
 induction c with
 | skip =>
  intro st L h γ w a rd N0 N hp hc hf hN h0
  rw [wg] at h
  cases h
  exact wpIn_skip ⟨_,List.mem_singleton_self _,γ,rfl,hp,rfl,Step.refl hp.hr⟩
 | label l =>
  intro st L h γ w a rd N0 N hp hc hf hN h0
  rw [uI] at h
  cases h
  exact wpIn_label ⟨_,List.mem_singleton_self _,γ,rfl,hp,rfl,Step.refl hp.hr⟩
 | exit id =>
  intro st L h γ w a rd N0 N hp hc hf hN h0
  rw [wk] at h
  cases h
  exact wpIn_exit ⟨_,List.mem_singleton_self _,γ,rfl,hp,rfl,Step.refl hp.hr⟩
 | ret =>
  intro st L h γ w a rd N0 N hp hc hf hN h0
  rw [yY] at h
  cases h
  exact wpIn_ret ⟨_,List.mem_singleton_self _,γ,rfl,hp,rfl,Step.refl hp.hr⟩
 | region id ops draw =>
  intro st L h γ w a rd N0 N hp hc hf hN h0
  rw [gV] at h
  cases draw with
  | false =>
   simp only [cond_false] at h
   cases hx:bR T rec ops.toList ops.toList st with
   | none=>rw [hx] at h;cases h
   | some M =>
    rw [hx] at h
    simp only [Option.some.injEq] at h
    subst h
    simp only [codeOk,Bool.and_eq_true] at hc
    exact wpIn_region_list (ym hT hK hS ops ops.toList st M hx γ a w hp rfl (Step.refl hp.hr) hc.2 hf (fun s hs=>hN (.normal,s) (List.mem_map.2 ⟨s,hs,rfl⟩)) fun s hs=>List.mem_map.2 ⟨s,hs,rfl⟩)
  | true =>
   simp only [cond_true] at h
   cases hx:cS T rec ops st with
   | none=>rw [hx] at h;cases h
   | some M =>
    rw [hx] at h
    simp only [Option.some.injEq] at h
    subst h
    exact hD id ops st M hx γ w a rd N0 N hp hc hf fun s hs=>hN (.normal,s) (List.mem_map.2 ⟨s,hs,rfl⟩)
 | seq x y ihx ihy =>
  intro st L h γ w a rd N0 N hp hc hf hN h0
  simp only [codeOk,Bool.and_eq_true] at hc
  rw [pV] at h
  cases hx:bJ T rec x st with
  | none=>rw [hx] at h;cases h
  | some A =>
   rw [hx] at h
   simp only at h
   have hsub:∀ p ∈ A,∃ M,vS (bJ T rec y) p=some M∧∀ q ∈ M,q ∈ L:=fun p hpm=>cM h p hpm
   have hA:∀ p ∈ A,p.2.hp.n≤N:=by
    intro p hpm
    obtain ⟨M,h1,h2⟩:=hsub p hpm
    obtain ⟨e,s⟩:=p
    unfold vS at h1
    cases e with
    | normal=>exact Good.le (jq hK y s M h1) fun q hq=>hN q (h2 q hq)
    | _=>simp only [Option.some.injEq] at h1;subst h1;exact hN _ (h2 _ (List.mem_singleton_self _))
   refine wpIn_seq (Go.wpIn_mono (ihx st A hx hp hc.1 hf hA h0) fun e a1 w1 hq=>?_)
   obtain ⟨p,hpm,γ1,he,hp1,hsz,hs⟩:=hq
   obtain ⟨M,h1,h2⟩:=hsub p hpm
   obtain ⟨e',s⟩:=p
   simp only at he hp1 hs
   subst he
   unfold vS at h1
   cases e with
   | normal =>
    refine Go.wpIn_mono (ihy s M h1 hp1 (by rw [hsz];exact hc.2) (hs.fresh hf) (fun q hq=>hN q (h2 q hq)) (Nat.le_trans h0 hs.jg.size)) fun e a2 w2 hq=>?_
    rw [hsz] at hq
    exact hq.trans hs h2
   | _=>simp only [Option.some.injEq] at h1;subst h1;exact ⟨_,h2 _ (List.mem_singleton_self _),γ1,rfl,hp1,hsz,hs⟩
 | cond x y z ihy ihz =>
  intro st L h γ w a rd N0 N hp hc hf hN h0
  simp only [codeOk,Bool.and_eq_true] at hc
  rw [k7] at h
  cases hv:bL st.fr x with
  | bool t =>
   rw [hv] at h
   simp only at h
   have he:=(Hl hp.fr hc.1.1)
   rw [hv] at he
   refine wpIn_cond (he.dh rfl) ?_
   cases t with
   | true=>exact ihy st L h hp hc.1.2 hf hN h0
   | false=>exact ihz st L h hp hc.2 hf hN h0
  | _=>rw [hv] at h;cases h
 | block id x ih =>
  intro st L h γ w a rd N0 N hp hc hf hN h0
  rw [l9] at h
  cases hx:bJ T rec x st with
  | none=>rw [hx] at h;cases h
  | some A =>
   rw [hx] at h
   simp only [Option.some.injEq] at h
   subst h
   have hhp:∀ p:Exit × St,(gR id p).2=p.2:=by
    intro p
    obtain ⟨e,s⟩:=p
    unfold gR
    cases e <;> rfl
   refine wpIn_block (Go.wpIn_mono (ih st A hx hp hc hf (fun p hpm=>by
    have:=hN _ (List.mem_map.2 ⟨p,hpm,rfl⟩)
    rw [hhp] at this
    exact this) h0) fun e a1 w1 hq=>?_)
   obtain ⟨p,hpm,γ1,he,hp1,hsz,hs⟩:=hq
   have hm:gR id p ∈ A.map (gR id):=List.mem_map.2 ⟨p,hpm,rfl⟩
   obtain ⟨e',s⟩:=p
   simp only at he hp1 hs
   subst he
   cases e with
   | exit i =>
    show if i=id then _ else _
    by_cases hi:i=id
    ·subst hi
     rw [if_pos rfl]
     have hb:gR i (.exit i,s)=(.normal,s):=by unfold gR;simp
     rw [hb] at hm
     exact ⟨_,hm,γ1,rfl,hp1,hsz,hs⟩
    ·rw [if_neg hi]
     have hb:gR id (.exit i,s)=(.exit i,s):=by
      unfold gR
      have:Nat.beq i id=false:=by rw [Tr.beq_eq];simpa using hi
      simp only [this,cond_false]
     rw [hb] at hm
     exact ⟨_,hm,γ1,rfl,hp1,hsz,hs⟩
   | _=>exact ⟨_,hm,γ1,rfl,hp1,hsz,hs⟩
 | loop x ih =>
  intro st L h γ w a rd N0 N hp hc hf hN h0
  rw [nO] at h
  cases hx:rec (.loop x st) with
  | none=>rw [hx] at h;cases h
  | some R =>
   rw [hx] at h
   simp only at h
   have hm:∀ r ∈ R,∃ p ∈ L,r=.out p.1 p.2:=by
    intro r hrm
    obtain ⟨M,h1,h2⟩:=cM h r hrm
    cases r with
    | ret v hp=>cases h1
    | out e s=>simp only [Bw,Option.some.injEq] at h1;subst h1;exact ⟨(e,s),h2 _ (List.mem_singleton_self _),rfl⟩
   exact wpIn_loop_rounds m (hS.loop x st R hx L hm γ w a rd N0 N hp hc hf (fun r hrm=>by
    obtain ⟨p,h1,rfl⟩:=hm r hrm
    exact hN p h1) h0)
 | rangeFunc f ps as bd _ _ =>
  intro st L h γ w a rd N0 N hp hc hf hN h0
  rw [mb] at h
  exact BX hK hS h hp hc hf hN h0
 | goto l=>intro st L h;rw [wm] at h;cases h
 | scope c ih =>
  intro st L h γ w a rd N0 N hp hc hf hN h0
  rw [mc] at h
  obtain ⟨h1,h2⟩:=oR h
  refine Du (ih st L h1 hp hc hf hN h0) fun l a w hq=>?_
  obtain ⟨p,hpm,_,he,_⟩:=hq
  exact h2 p hpm l he.symm
 | refuse y=>intro st L h;rw [sx] at h;cases h
theorem Ap {P:Program} {fn:Func} {tmps:Array Value} {R:Ending→World→Prop} {γ:Gm}:∀ (rs:List Nat) (w:World),rs.Nodup →
  (∀ r ∈ rs,w.heap[r]?=some (.deferred (some []))∧∀ k o,γ.loc k ≠ some (r,o)) →
  (∀ w',w'.os=w.os→w'.tape=w.tape→w'.output=w.output→w'.heap.size=w.heap.size→(∀ i,i ∉ rs→w'.heap[i]?=w.heap[i]?)→LeavesIn (FW none) 0 P fn tmps R [] .returning w') →
  LeavesInM (FW none) 0 P fn tmps R (rs.map fun r=>{target:=.collected r,args:=#[]}) .returning w:=by
 intro rs
 induction rs with
 | nil=>intro w _ _ h;exact h w rfl rfl rfl rfl (fun _ _=>rfl)
 | cons r rs ih =>
  intro w hnd hr h
  refine ⟨by simp,.inl ⟨r,w.putObj r (.deferred none),rfl,run_takeDeferred (hr r (by simp)).1,?_⟩⟩
  have hnd':=List.nodup_cons.1 hnd
  refine ih _ hnd'.2 (fun r' hr'=>?_) fun w' h1 h2 h3 h4 h5=>?_
  ·have hne:r' ≠ r:=fun e=>by subst e;exact hnd'.1 hr'
   rw [World.putObj_heap_other hne]
   exact hr r' (List.mem_cons_of_mem _ hr')
  ·refine h w' h1 h2 h3 (h4.trans World.putObj_size) fun i hi=>?_
   have h6:i ≠ r∧i ∉ rs:=⟨fun e=>hi (by rw [e];simp),fun e=>hi (List.mem_cons_of_mem _ e)⟩
   rw [h5 i h6.2,World.putObj_heap_other h6.1]
theorem Dv (hT : cL T) (hK : bI rec) (hS : cN T rec m) (hD : kI T rec) {f : FuncId} {args : List Value} {hp : Hp} {L : List ia} (h : iX T rec (.call f args hp) = some L) :
    (∃ fn c, T.P.funcs[f]? = some fn ∧ (fn.name == "runtime.NumGoroutine") = false ∧ fn.body = some c) ∧
    ∀ γ w args' N, Wf hp → HR γ hp.get w → fM γ hp.n N → (∀ r ∈ L, r.hp.n ≤ N) → cD γ args args' → CallsIn (FW none) 0 T.P f args'.toArray w (tN γ hp w L) := by
  obtain ⟨fn, c, R, h1, h2, h3, h4⟩ := oB h
  obtain ⟨q1, q2, q3⟩ := hT.fn f fn h1
  refine ⟨⟨fn, c, q1, q2, h2⟩, fun γ w args' N hw hh hf hN ha => ?_⟩
  refine callsIn_of_wp_marks (F := FW none) q1 h2 trivial ?_ rfl
  have hsub : ∀ p ∈ R, ∃ M, fQ T fn.results.toList p = some M ∧ ∀ q ∈ M, q ∈ L := fun p hpm => cM h4 p hpm
  have hR : ∀ p ∈ R, p.2.hp.n ≤ N := by
    intro p hpm
    obtain ⟨M, e1, e2⟩ := hsub p hpm
    obtain ⟨_, vs, _, rfl⟩ := nP e1
    exact hN _ (e2 _ (List.mem_singleton_self _))
  have hok : codeOk (args'.toArray ++ Array.replicate (fn.ntmps - args'.toArray.size) undef).size c = true := BT (by simp; omega) (q3 c h2)
  have hpre : Pre γ ⟨setArgs .leaf 0 args, hp, false⟩ { tmps := args'.toArray ++ Array.replicate (fn.ntmps - args'.toArray.size) undef, defers := [] } w none w.heap.size :=
    ⟨xZ.args ha _, hh, rfl, Aj.nil _ _ _, hw, fun b hb => (by cases hb)⟩
  refine Go.wpIn_mono (me hT hK hS hD c _ R h3 hpre hok hf hR (Nat.le_refl _)) fun e a' w' hq => ?_
  obtain ⟨p, hpm, γ', he, hp', hsz, hs⟩ := hq
  obtain ⟨M, e1, e2⟩ := hsub p hpm
  obtain ⟨hne, vs, hvs, rfl⟩ := nP e1
  have hmem := e2 _ (List.mem_singleton.2 rfl)
  have key : LeavesInM (FW none) 0 T.P fn a'.tmps (tN γ hp w L) a'.defers .returning w' := by
    obtain ⟨rs, d1, d2, d3⟩ := hp'.df
    rw [d1]
    refine Ap (γ := γ') rs w' d2 (fun r hr => ⟨(d3 r hr).2.1, (d3 r hr).2.2⟩) fun w2 k1 k2 k3 k4 k5 => ?_
    have hh2 : HR γ' p.2.hp.get w2 := hp'.hr.off (by omega) fun k b o hl => k5 b fun hb => (d3 b hb).2.2 k o hl
    obtain ⟨v', r1, r2⟩ := FL hT hh2 hp'.fr hvs
    refine ⟨v', r1, dy vs, p.2.hp, v', γ', hmem, rfl, r2, hs.n, hs.le, hs.out, hh2, hs.jg.off k1 k2 k3 (by omega) fun b hb => k5 b fun hbm => ?_⟩
    have := (d3 b hbm).1
    omega
  obtain ⟨e', s⟩ := p
  simp only at he hne
  subst he
  rcases hne with rfl | rfl
  · exact key
  · exact key
theorem BZ (hT:cL T) (hK:bI rec) (hS:cN T rec m) (hD:kI T rec) {l:Nat} {args:List Value} {hp:Hp} {L:List ia} (h:iX T rec (.round l args hp)=some L)
  (γ:Gm) (w:World) (args':List Value) (N b:Nat) (hw:Wf hp) (hl:γ.loc l=some (b,0)) (hh:HR γ hp.get w) (hf:fM γ hp.n N) (hN:∀ r ∈ L,r.hp.n≤N) (ha:cD γ args args') :
  ∃ r:Loop,w.heap[b]?=some (.loop r)∧args'.length=r.params.size ∧
   RoundIn (FW none) 0 T.P b r.fn ((r.params.zip args'.toArray).foldl (fun tmps (t,a)=>tmps.setIfInBounds t a) r.tmps) r.assign r.body w (tN γ hp w L):=by
 obtain ⟨pend,fr,ps,as,bd,R,h1,h2,h3,h4⟩:=m7 h
 obtain ⟨_,r,r1,r2,r3,r4,r5,r6,r7,r8,r9,r10⟩:=hh.sA h1 hl
 subst r4 r5 r6
 refine ⟨r,r1,ha.1.symm.trans h2,?_⟩
 refine roundIn_of_wpIn (F:=FW none) trivial ?_
 have hz:(r.params.zip args'.toArray).foldl (fun tmps (t,a)=>tmps.setIfInBounds t a) r.tmps=(r.params.toList.zip args').foldl (fun tmps (t,a)=>tmps.setIfInBounds t a) r.tmps:=by
  rw [←Array.foldl_toList,Array.toList_zip]
 rw [hz]
 have hlen:r.params.toList.length=args'.length:=by rw [Array.length_toList];exact (ha.1.symm.trans h2).symm
 obtain ⟨f1,f2⟩:=BQ (γ:=γ) (r.params.toList.zip args) (r.params.toList.zip args') fr r.tmps r7 (by simp [ha.1]) fun i p p' x y=>by
  rw [List.getElem?_zip_eq_some] at x y
  obtain ⟨x1,x2⟩:=x
  obtain ⟨y1,y2⟩:=y
  rw [x1] at y1
  simp only [Option.some.injEq] at y1
  exact ⟨y1,ha.2 i _ _ x2 y2,by rw [←y1];exact r10 _ (by have:=List.mem_of_getElem? x1;simpa using this)⟩
 have hsub:∀ p ∈ R,∃ M,cZ T rec l r.body p=some M∧∀ q ∈ M,q ∈ L:=fun p hpm=>cM h4 p hpm
 have endN:∀ {q:Exit × St} {M:List ia},gS l q=some M→(∀ x ∈ M,x ∈ L)→q.2.hp.n≤N:=by
  intro q M e1 e2
  obtain ⟨_,_,_,_,_,_,_,e3⟩:=k9 e1
  rcases e3 with ⟨_,rfl⟩|⟨_,rfl⟩|⟨_,_,rfl⟩ <;> exact hN _ (e2 _ (List.mem_singleton_self _))
 have hR:∀ p ∈ R,p.2.hp.n≤N:=by
  intro p hpm
  obtain ⟨M,e1,e2⟩:=hsub p hpm
  obtain ⟨_,_,_,_,_,_,R2,_,e4,e5⟩:=jr e1
  have hg:=jq hK _ _ _ e4
  have:(p.2.hp.put l _).n≤N:=Good.le hg fun q hq=>by
   obtain ⟨M',x1,x2⟩:=cM e5 q hq
   exact endN x1 fun x hx=>e2 x (x2 x hx)
  exact this
 have hpre:Pre γ ⟨fy fr (r.params.toList.zip args),hp,true⟩ {tmps:=(r.params.toList.zip args').foldl (fun tmps (t,a)=>tmps.setIfInBounds t a) r.tmps,defers:=[]} w (some b) w.heap.size:=⟨f1,hh,rfl,Aj.nil _ _ _,hw,fun b hb=>(by cases hb;exact ⟨l,hl,by rw [h1];rfl⟩)⟩
 refine Go.wpIn_mono (me hT hK hS hD r.assign _ R h3 hpre (by rw [f2];exact r8) hf hR (Nat.le_refl _)) fun e a1 w1 hq=>?_
 obtain ⟨p,hpm,γ1,he,hp1,hsz,hs⟩:=hq
 obtain ⟨M,e1,e2⟩:=hsub p hpm
 obtain ⟨hn,pend1,fr1,ps1,as1,NQ,R2,e3,e4,e5⟩:=jr e1
 rw [hn] at he
 subst he
 have hl1:=hs.le.loc _ _ hl
 obtain ⟨_,q,q1,q2,q3,_⟩:=hp1.hr.sA e3 hl1
 have hs2:=Step.Ao (s':=.busy) (pend':=pend1) hp1.hr e3 hl1 q1
 have hbr:=run_beginRound (P:=T.P) q1 q2
 have hweq:w1.putObj b (.loop {q with state:=.busy})=w1.putObj b (.loop {q with state:=.busy,pending:=pend1}):=by rw [←q3]
 rw [hweq] at hbr
 refine ⟨_,hbr,?_⟩
 have hs12:=hs.trans hs2
 have hpre2:Pre γ1 ⟨p.2.fr,p.2.hp.put l (.loop .busy pend1 fr1 ps1 as1 NQ),true⟩ a1 (w1.putObj b (.loop {q with state:=.busy,pending:=pend1})) (some b) w.heap.size :=
  ⟨hp1.fr,hs2.hr,rfl,hp1.df.step hs2,(eT.put p.2.hp _ _ (by rw [e3];simp) (fun _=>rfl)).wf hp1.wf,fun b hb=>(by cases hb;exact ⟨l,hl1,by rw [Hp.kn,if_pos rfl];rfl⟩)⟩
 have hsz':a1.tmps.size=r.tmps.size:=hsz.trans f2
 refine Go.wpIn_mono (me hT hK hS hD r.body _ R2 e4 hpre2 (by rw [hsz'];exact r9) (hs12.fresh hf) (fun x hx=>by
  obtain ⟨M',x1,x2⟩:=cM e5 x hx
  exact endN x1 fun y hy=>e2 y (x2 y hy)) hs12.jg.size) fun e a2 w2 hq2=>?_
 obtain ⟨p2,hpm2,γ2,he2,hp2,hsz2,hs3⟩:=hq2
 obtain ⟨M2,x1,x2⟩:=cM e5 p2 hpm2
 obtain ⟨st4,pend4,fr4,ps4,as4,bd4,y1,y2⟩:=k9 x1
 have hl2:=hs3.le.loc _ _ hl1
 obtain ⟨_,t,t1,_⟩:=hp2.hr.sA y1 hl2
 obtain ⟨e6,s6⟩:=p2
 simp only at he2 y2
 subst he2
 have fin:∀ (jump:Option Code) (s':LoopState) (bo:Bool),s'=(if jump.isNone then .ready else .done)→bo=jump.isNone→(ia.ret (.bool bo) (s6.hp.put l (.loop s' jump fr4 ps4 as4 bd4))) ∈ L →
   ∃ v w',(Instr.endRound b jump).run T.P w2=.ok v w'∧tN γ hp w L (.returned v) w':=by
  intro jump s' bo hs' hbo hmem
  subst hs' hbo
  refine ⟨_,_,run_endRound jump t1,.bool jump.isNone,_,.bool jump.isNone,γ2,hmem,rfl,.flat rfl,?_⟩
  exact (hs12.trans hs3).trans (Step.Ao hp2.hr y1 hl2 t1)
 rcases y2 with ⟨rfl,rfl⟩|⟨rfl,rfl⟩|⟨id,rfl,rfl⟩
 ·exact fin none .ready true rfl rfl (e2 _ (x2 _ (List.mem_singleton_self _)))
 ·exact fin (some .ret) .done false rfl rfl (e2 _ (x2 _ (List.mem_singleton_self _)))
 ·exact fin (some (.exit id)) .done false rfl rfl (e2 _ (x2 _ (List.mem_singleton_self _)))
theorem Dw (hT:cL T) (hK:bI rec) (hS:cN T rec m) (hD:kI T rec) {c:Code} {st:St} {Lr:List ia} (h:iX T rec (.loop c st)=some Lr)
  (L:List (Exit × St)) (hL:∀ r ∈ Lr,∃ p ∈ L,r=.out p.1 p.2) (γ:Gm) (w:World) (a:Act) (rd:Option Nat) (N0 N:Nat) (hp:Pre γ st a w rd N0) (hc:codeOk a.tmps.size c=true) (hf:fM γ st.hp.n N)
  (hN:∀ r ∈ Lr,r.hp.n≤N) (h0:N0≤w.heap.size):Code.roundsIn (FW rd) 0 T.P c (jL γ st.hp w a.tmps.size rd N0 L) (m+1) a w:=by
 obtain ⟨R,h1,h2⟩:=oC h
 have hsub:∀ p ∈ R,∃ M,fA rec c p=some M∧∀ q ∈ M,q ∈ Lr:=fun p hpm=>cM h2 p hpm
 have hR:∀ p ∈ R,p.2.hp.n≤N:=by
  intro p hpm
  obtain ⟨M,e1,e2⟩:=hsub p hpm
  rcases ld e1 with ⟨_,e3⟩|⟨_,rfl⟩
  ·exact Good.le (hK _ _ e3) fun q hq=>hN q (e2 q hq)
  ·exact hN _ (e2 _ (List.mem_singleton_self _))
 rw [roundsIn_succ]
 refine Go.wpIn_mono (me hT hK hS hD c st R h1 hp hc hf hR h0) fun e a1 w1 hq=>?_
 obtain ⟨p,hpm,γ1,he,hp1,hsz,hs⟩:=hq
 obtain ⟨M,e1,e2⟩:=hsub p hpm
 rcases ld e1 with ⟨e3,e4⟩|⟨e3,rfl⟩
 ·rw [e3] at he
  subst he
  have:=hS.loop c p.2 M e4 L (fun r hr=>hL r (e2 r hr)) γ1 w1 a1 rd N0 N hp1 (by rw [hsz];exact hc) (hs.fresh hf) (fun r hr=>hN r (e2 r hr)) (Nat.le_trans h0 hs.jg.size)
  rw [hsz] at this
  show Code.roundsIn _ _ _ _ _ _ _ _
  have mono:∀ k a' w',Code.roundsIn (FW rd) 0 T.P c (jL γ1 p.2.hp w1 a.tmps.size rd N0 L) k a' w'→Code.roundsIn (FW rd) 0 T.P c (jL γ st.hp w a.tmps.size rd N0 L) k a' w':=by
   intro k
   induction k with
   | zero=>intro a' w' h;exact h
   | succ k ih =>
    intro a' w' h
    rw [roundsIn_succ] at h ⊢
    refine Go.wpIn_mono h fun e a2 w2 hq=>?_
    cases e with
    | normal=>exact ih _ _ hq
    | _=>exact jL.trans hs hq fun _ h=>h
  exact mono _ _ _ this
 ·obtain ⟨q,hq,hqe⟩:=hL _ (e2 _ (List.mem_singleton_self _))
  obtain ⟨e',s⟩:=p
  simp only at he e3 hqe
  subst he
  cases hqe
  have:jL γ st.hp w a.tmps.size rd N0 L q.1 a1 w1:=⟨q,hq,γ1,rfl,hp1,hsz,hs⟩
  revert e3
  generalize q.1=e0 at this
  intro e3
  cases e0 <;> first|exact absurd rfl e3|exact this
theorem Dx (hT:cL T) (hK:bI rec) (hS:cN T rec m) (hD:kI T rec):cN T (iX T rec) (m+1) :=
 ⟨fun _ _ _ _ h=>Dv hT hK hS hD h,fun _ _ _ _ h=>BZ hT hK hS hD h,fun _ _ _ h=>Dw hT hK hS hD h⟩
end
end Go.RM
