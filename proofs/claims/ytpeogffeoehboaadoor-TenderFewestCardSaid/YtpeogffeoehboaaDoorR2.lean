/-
  An abstract machine, and that its runs are the model's. Lemmas alone; no condition.
-/
import Derived.Test.YtpeogffeoehboaaDoorR1
import Derived.OrdersIn
import Derived.OwnWalkIn
namespace Go.RM
open Go.RowKit
section
variable {T : bz} {γ : Gm} {g : aF} {w : World} {n : Nat}
def mU (γ:Gm):Option Value→Option Value→Prop
 | none,none=>True
 | some a,some b=>VR γ a b
 | _,_=>False
theorem mD {P:Program} {lo hi lo' hi':Option Value} {l hv len c':Nat} (hl:cQ 0 lo=some l) (hh:cQ len hi=some hv) (c1:l≤hv) (c2:hv≤c')
  (rlo:mU γ lo lo') (rhi:mU γ hi hi'):(Instr.sliceBounds true len c' lo' hi' none).run P w=.ok (l,hv,c') w:=by
 have q1:((0:Int)≤(hv:Int)∧(hv:Int)≤(c':Int))=True:=eq_true (by omega)
 have q2:((0:Int)≤(l:Int)∧(l:Int)≤(hv:Int))=True:=eq_true (by omega)
 cases lo with
 | none =>
  cases lo' with
  | some _=>exact rlo.elim
  | none =>
   simp only [cQ,Option.some.injEq] at hl
   subst hl
   cases hi with
   | none =>
    cases hi' with
    | some _=>exact rhi.elim
    | none =>
     simp only [cQ,Option.some.injEq] at hh
     subst hh
     simp [Instr.sliceBounds]
   | some a =>
    cases hi' with
    | none=>exact rhi.elim
    | some a' =>
     obtain ⟨kk,rfl⟩:=dA hh
     obtain rfl:=VR.bp rhi rfl
     simp only [Instr.sliceBounds,Instr.sliceBound,asIntOf,Sem.run_bind,Sem.run_pure,Result.andThen_ok,if_true,Int.toNat_natCast,q1]
 | some b =>
  cases lo' with
  | none=>exact rlo.elim
  | some b' =>
   obtain ⟨kk,rfl⟩:=dA hl
   obtain rfl:=VR.bp rlo rfl
   cases hi with
   | none =>
    cases hi' with
    | some _=>exact rhi.elim
    | none =>
     simp only [cQ,Option.some.injEq] at hh
     subst hh
     simp only [Instr.sliceBounds,Instr.sliceBound,asIntOf,Sem.run_bind,Sem.run_pure,Result.andThen_ok,Option.isSome_none,Bool.false_eq_true,if_false,if_true,Int.toNat_natCast,q2]
   | some a =>
    cases hi' with
    | none=>exact rhi.elim
    | some a' =>
     obtain ⟨kk,rfl⟩:=dA hh
     obtain rfl:=VR.bp rhi rfl
     simp only [Instr.sliceBounds,Instr.sliceBound,asIntOf,Sem.run_bind,Sem.run_pure,Result.andThen_ok,Option.isSome_none,Bool.false_eq_true,if_false,if_true,Int.toNat_natCast,q1,q2]
theorem Ab (hT:bT T) (h:HR γ g w) {t:TypeId} {x x':Value} {lo hi lo' hi':Option Value} {v:Value}
  (ho:oP T t x lo hi=some v) (hx:VR γ x x') (rlo:mU γ lo lo') (rhi:mU γ hi hi') :
  aT T.P γ g w n (do Pure.pure (Next.value (←Instr.sliceAt t x' lo' hi' none))) v .none:=by
 unfold oP at ho
 cases he:elem? T t with
 | none=>rw [he] at ho;cases ho
 | some inf =>
  rw [he] at ho
  simp only at ho
  obtain ⟨el,i,hut,hii,hsz,_,_⟩:=jh hT he
  cases x with
  | slice base len cp =>
   simp only at ho
   cases hl:cQ 0 lo with
   | none=>rw [hl] at ho;cases ho
   | some l =>
    cases hh:cQ len hi with
    | none=>rw [hl,hh] at ho;cases ho
    | some hv =>
     rw [hl,hh] at ho
     simp only at ho
     cases hcd:(Nat.ble l hv && Nat.ble hv len && Nat.ble 1 inf.size) with
     | false =>
      rw [hcd] at ho
      simp only [cond_false] at ho
      unfold DN at ho
      split at ho
      ·rename_i k o
       cases hce:(Nat.ble (l+1) hv && Nat.ble (len+3) cp && Nat.ble (hv+3) cp) with
       | false=>rw [hce] at ho;cases ho
       | true =>
        rw [hce] at ho
        simp only [cond_true,Option.some.injEq] at ho
        subst ho
        simp only [Bool.and_eq_true] at hce
        have c1:=Nat.le_of_ble_eq_true hce.1.1
        have c2:=Nat.le_of_ble_eq_true hce.1.2
        have c3:=Nat.le_of_ble_eq_true hce.2
        cases hx with
        | flat hf=>simp [aV] at hf
        | cF hne ht0 h20=>omega
        | slice hl' hn ht hlo' hk' =>
         rename_i b d c'
         have hk2:=hk' c2
         have run:(Instr.sliceAt t (.slice (some ⟨b,d+o,none⟩) len c') lo' hi' none).run T.P w=.ok (.slice (if c'=l then some ⟨b,d+o,none⟩ else (some ⟨b,d+o,none⟩:Option Addr).map (·.add (l * inf.size))) (hv - l) (c' - l)) w:=by
          simp only [Instr.sliceAt,Instr.slice,Sem.run_bind,bJ hut,Result.andThen_ok,mD hl hh (c':=c') (by omega) (by omega) rlo rhi,cW hii,hsz,Sem.run_pure]
         refine .pure h (aN run) ?_
         rw [if_neg (by omega),Option.map_some,Addr.add_lit,Nat.add_assoc d o]
         exact VR.slice hl' (by omega) (fun e=>by omega) (fun e=>by omega) (fun e=>by omega)
      ·cases ho
     | true =>
      rw [hcd] at ho
      simp only [cond_true] at ho
      simp only [Bool.and_eq_true] at hcd
      have c1:=Nat.le_of_ble_eq_true hcd.1.1
      have c2:=Nat.le_of_ble_eq_true hcd.1.2
      have bounds:∀ c',len≤c'→(Instr.sliceBounds true len c' lo' hi' none).run T.P w=.ok (l,hv,c') w:=fun c' hc'=>mD hl hh c1 (by omega) rlo rhi
      have run:∀ (a':Option Addr) (c':Nat),len≤c'→(Instr.sliceAt t (.slice a' len c') lo' hi' none).run T.P w=.ok (.slice (if c'=l then a' else a'.map (·.add (l * inf.size))) (hv - l) (c' - l)) w:=by
       intro a' c' hc'
       simp only [Instr.sliceAt,Instr.slice,Sem.run_bind,bJ hut,Result.andThen_ok,bounds c' hc',cW hii,hsz,Sem.run_pure]
      cases base with
      | none =>
       simp only at ho
       cases hz:(Nat.beq len 0 && Nat.beq cp 0) with
       | false=>rw [hz] at ho;cases ho
       | true =>
        rw [hz] at ho
        simp only [cond_true,Option.some.injEq] at ho
        subst ho
        simp only [Bool.and_eq_true] at hz
        have z1:=Nat.eq_of_beq_eq_true hz.1
        have z2:=Nat.eq_of_beq_eq_true hz.2
        subst z1
        subst z2
        obtain rfl:=hx.bp rfl
        have e1:hv=0:=by omega
        have e2:l=0:=by omega
        subst e1
        subst e2
        exact .pure h (aN (by rw [run none 0 (Nat.le_refl _)];simp)) (.flat rfl)
      | some ad =>
       obtain ⟨k,o,sp⟩:=ad
       cases sp with
       | some s=>cases ho
       | none =>
        simp only [Option.some.injEq] at ho
        subst ho
        have told:∀ c',len≤c'→(cp=len→c'=len) →
          ((bif Nat.beq hv len && Nat.beq cp len then hv - l else bif Nat.beq hv len then hv - l+2 else hv - l+3+(len - hv))=hv - l→c' - l=hv - l)∧(bif Nat.beq hv len && Nat.beq cp len then hv - l else bif Nat.beq hv len then hv - l+2 else hv - l+3+(len - hv)) ≠ hv - l+1 ∧
          (hv - l+3≤(bif Nat.beq hv len && Nat.beq cp len then hv - l else bif Nat.beq hv len then hv - l+2 else hv - l+3+(len - hv))→(bif Nat.beq hv len && Nat.beq cp len then hv - l else bif Nat.beq hv len then hv - l+2 else hv - l+3+(len - hv))≤c' - l+3) ∧
          (hv=len→(bif Nat.beq hv len && Nat.beq cp len then hv - l else bif Nat.beq hv len then hv - l+2 else hv - l+3+(len - hv))≤hv - l+2):=by
         intro c' hc' ht
         cases hb:(Nat.beq hv len && Nat.beq cp len) with
         | true =>
          simp only [Bool.and_eq_true] at hb
          have b1:=Nat.eq_of_beq_eq_true hb.1
          have b2:=Nat.eq_of_beq_eq_true hb.2
          have:=ht b2
          simp only [cond_true]
          exact ⟨fun _=>by omega,by omega,fun _=>by omega,fun _=>by omega⟩
         | false =>
          simp only [cond_false]
          cases hb2:Nat.beq hv len with
          | true =>
           have b1:=Nat.eq_of_beq_eq_true hb2
           simp only [cond_true]
           exact ⟨fun e=>by omega,by omega,fun e=>by omega,fun _=>by omega⟩
          | false =>
           have b1:hv ≠ len:=fun e=>by subst e;rw [Nat.beq_refl] at hb2;cases hb2
           simp only [cond_false]
           exact ⟨fun e=>by omega,by omega,fun e=>by omega,fun e=>absurd e b1⟩
        cases hx with
        | flat hf=>simp [aV] at hf
        | cF hne ht0 h20 =>
         rename_i c' a'
         have e1:hv=0:=by omega
         have e2:l=0:=by omega
         subst e1
         subst e2
         have tl:=told c' (Nat.zero_le _) (fun e=>ht0 e)
         refine .pure h (aN (run (some a') c' (Nat.zero_le _))) ?_
         have hsome:∃ a'',(if c'=0 then some a' else (some a').map (·.add (0 * inf.size)))=some a'':=by split <;> exact ⟨_,rfl⟩
         obtain ⟨a'',ha''⟩:=hsome
         rw [ha'']
         exact VR.cF (fun e=>tl.2.1 (by simpa using e)) (fun e=>by have:=tl.1 (by simpa using e);simpa using this) (by have:=tl.2.2.2 rfl;simpa using this)
        | slice hl' hn ht hlo' hk' =>
         rename_i b d c'
         have tl:=told c' hn ht
         refine .pure h (aN (run _ c' hn)) ?_
         by_cases hcl:c'=l
         ·rw [if_pos hcl]
          have e1:hv - l=0:=by omega
          rw [e1] at tl ⊢
          exact VR.cF (fun e=>tl.2.1 (by simpa using e)) (fun e=>by have:=tl.1 e;simpa using this) (by have:=tl.2.2.2 (by omega);simpa using this)
         ·rw [if_neg hcl,Option.map_some,Addr.add_lit,Nat.add_assoc d o]
          exact VR.slice hl' (by omega) tl.1 (fun e=>absurd e tl.2.1) tl.2.2.1
  | _=>cases ho
theorem sR {P:Program} {lo hi lo' hi':Option Value} {l hv len:Nat} (hl:cQ 0 lo=some l) (hh:cQ len hi=some hv) (c1:l≤hv) (c2:hv≤len)
  (rlo:mU γ lo lo') (rhi:mU γ hi hi'):(Instr.sliceBounds false len len lo' hi' none).run P w=.ok (l,hv,len) w:=by
 have q1:((0:Int)≤(hv:Int)∧(hv:Int)≤(len:Int))=True:=eq_true (by omega)
 have q2:((0:Int)≤(l:Int)∧(l:Int)≤(hv:Int))=True:=eq_true (by omega)
 cases lo with
 | none =>
  cases lo' with
  | some _=>exact rlo.elim
  | none =>
   simp only [cQ,Option.some.injEq] at hl
   subst hl
   cases hi with
   | none =>
    cases hi' with
    | some _=>exact rhi.elim
    | none =>
     simp only [cQ,Option.some.injEq] at hh
     subst hh
     simp [Instr.sliceBounds]
   | some a =>
    cases hi' with
    | none=>exact rhi.elim
    | some a' =>
     obtain ⟨kk,rfl⟩:=dA hh
     obtain rfl:=VR.bp rhi rfl
     simp only [Instr.sliceBounds,Instr.sliceBound,asIntOf,Sem.run_bind,Sem.run_pure,Result.andThen_ok,Bool.false_eq_true,if_false,if_true,Int.toNat_natCast,q1]
 | some b =>
  cases lo' with
  | none=>exact rlo.elim
  | some b' =>
   obtain ⟨kk,rfl⟩:=dA hl
   obtain rfl:=VR.bp rlo rfl
   cases hi with
   | none =>
    cases hi' with
    | some _=>exact rhi.elim
    | none =>
     simp only [cQ,Option.some.injEq] at hh
     subst hh
     simp only [Instr.sliceBounds,Instr.sliceBound,asIntOf,Sem.run_bind,Sem.run_pure,Result.andThen_ok,Option.isSome_none,Bool.false_eq_true,if_false,if_true,Int.toNat_natCast,q2]
   | some a =>
    cases hi' with
    | none=>exact rhi.elim
    | some a' =>
     obtain ⟨kk,rfl⟩:=dA hh
     obtain rfl:=VR.bp rhi rfl
     simp only [Instr.sliceBounds,Instr.sliceBound,asIntOf,Sem.run_bind,Sem.run_pure,Result.andThen_ok,Option.isSome_none,Bool.false_eq_true,if_false,if_true,Int.toNat_natCast,q1,q2]
theorem tL (hT:bT T) (h:HR γ g w) {t:TypeId} {x x':Value} {lo hi lo' hi':Option Value} {v:Value}
  (ho:nH T t x lo hi=some v) (hx:VR γ x x') (rlo:mU γ lo lo') (rhi:mU γ hi hi') :
  aT T.P γ g w n (do Pure.pure (Next.value (←Instr.sliceAt t x' lo' hi' none))) v .none:=by
 unfold nH at ho
 split at ho
 ·rename_i len e _ _ _ _ _ cu hty
  obtain ⟨i,hi0,_,_,_,hu,hes⟩:=hT.ty t _ hty
  cases hk:addr? x with
  | none=>rw [hk] at ho;cases ho
  | some ko =>
   obtain ⟨k,o⟩:=ko
   cases hl:cQ 0 lo with
   | none=>rw [hk,hl] at ho;cases ho
   | some l =>
    cases hh:cQ len hi with
    | none=>rw [hk,hl,hh] at ho;cases ho
    | some hv =>
     rw [hk,hl,hh] at ho
     simp only at ho
     cases hcd:(Nat.ble l hv && Nat.ble hv len && Nat.ble 1 cu) with
     | false=>rw [hcd] at ho;cases ho
     | true =>
      rw [hcd] at ho
      simp only [cond_true,Option.some.injEq] at ho
      subst ho
      simp only [Bool.and_eq_true] at hcd
      have c1:=Nat.le_of_ble_eq_true hcd.1.1
      have c2:=Nat.le_of_ble_eq_true hcd.1.2
      obtain ⟨b,d,hl2,rfl⟩:=hx.addr hk
      obtain ⟨_,j,hj,he'⟩:=hes
      have he':j.size=cu:=he'.symm
      have run:(Instr.sliceAt t (.pointer (some ⟨b,d+o,none⟩)) lo' hi' none).run T.P w=.ok (.slice (some (if len=l then ⟨b,d+o,none⟩ else Addr.add ⟨b,d+o,none⟩ (l * cu))) (hv - l) (len - l)) w:=by
       simp only [Instr.sliceAt,Instr.sureAddr,Sem.run_bind,bJ hu,Result.andThen_ok,sR hl hh c1 c2 rlo rhi,cW hj,he',Sem.run_pure]
      refine .pure h (aN run) ?_
      by_cases hcl:len=l
      ·have e1:hv=len:=by omega
       subst hcl
       subst e1
       rw [if_pos rfl,Nat.sub_self]
       exact VR.cF (by rw [Nat.beq_refl];simp) (fun _=>rfl) (by rw [Nat.beq_refl];simp)
      ·rw [if_neg hcl,Addr.add_lit,Nat.add_assoc d o]
       cases hb:Nat.beq hv len with
       | true =>
        have:=Nat.eq_of_beq_eq_true hb
        simp only [cond_true]
        exact VR.slice hl2 (by omega) (fun _=>by omega) (fun e=>by omega) (fun e=>by omega)
       | false =>
        simp only [cond_false]
        exact VR.slice hl2 (by omega) (fun e=>by omega) (fun e=>by omega) (fun e=>by omega)
 ·cases ho
theorem vV {P:Program} {lo lo':Option Value} {hi mx hi' mx':Value} {l hv mv len c':Nat} (hl:cQ 0 lo=some l) (hh:iy hi=some hv) (hm:iy mx=some mv) (c1:l≤hv) (c2:hv≤mv) (hc':mv≤c')
  (rlo:mU γ lo lo') (rhi:VR γ hi hi') (rmx:VR γ mx mx'):(Instr.sliceBounds true len c' lo' (some hi') (some mx')).run P w=.ok (l,hv,mv) w:=by
 have q1:((0:Int)≤(mv:Int)∧(mv:Int)≤(c':Int))=True:=eq_true (by omega)
 have q3:((0:Int)≤(hv:Int)∧(hv:Int)≤(mv:Int))=True:=eq_true (by omega)
 have q2:((0:Int)≤(l:Int)∧(l:Int)≤(hv:Int))=True:=eq_true (by omega)
 obtain ⟨k1,rfl⟩:=dA hh
 obtain rfl:=VR.bp rhi rfl
 obtain ⟨k2,rfl⟩:=dA hm
 obtain rfl:=VR.bp rmx rfl
 cases lo with
 | none =>
  cases lo' with
  | some _=>exact rlo.elim
  | none =>
   simp only [cQ,Option.some.injEq] at hl
   subst hl
   simp only [Instr.sliceBounds,Instr.sliceBound,asIntOf,Sem.run_bind,Sem.run_pure,Result.andThen_ok,if_true,Int.toNat_natCast,q1,q3]
 | some b =>
  cases lo' with
  | none=>exact rlo.elim
  | some b' =>
   obtain ⟨kk,rfl⟩:=dA hl
   obtain rfl:=VR.bp rlo rfl
   simp only [Instr.sliceBounds,Instr.sliceBound,asIntOf,Sem.run_bind,Sem.run_pure,Result.andThen_ok,Option.isSome_some,if_true,Int.toNat_natCast,q1,q2,q3]
theorem yu (hT:bT T) (h:HR γ g w) {t:TypeId} {x x':Value} {lo lo':Option Value} {hi mx hi' mx' v:Value}
  (ho:fK T t x lo hi mx=some v) (hx:VR γ x x') (rlo:mU γ lo lo') (rhi:VR γ hi hi') (rmx:VR γ mx mx') :
  aT T.P γ g w n (do Pure.pure (Next.value (←Instr.sliceAt t x' lo' (some hi') (some mx')))) v .none:=by
 unfold fK at ho
 cases he:elem? T t with
 | none=>rw [he] at ho;cases ho
 | some inf =>
  rw [he] at ho
  simp only at ho
  obtain ⟨el,i,hut,hii,hsz,_,_⟩:=jh hT he
  cases x with
  | slice base len cp =>
   simp only at ho
   cases hl:cQ 0 lo with
   | none=>rw [hl] at ho;cases ho
   | some l =>
    cases hh:iy hi with
    | none=>rw [hl,hh] at ho;cases ho
    | some hv =>
     cases hm:iy mx with
     | none=>rw [hl,hh,hm] at ho;cases ho
     | some m =>
      rw [hl,hh,hm] at ho
      simp only at ho
      cases hcd:(Nat.ble l hv && Nat.ble hv m && Nat.ble m len && Nat.ble 1 inf.size) with
      | false=>rw [hcd] at ho;cases ho
      | true =>
       rw [hcd] at ho
       simp only [cond_true] at ho
       simp only [Bool.and_eq_true] at hcd
       have c1:=Nat.le_of_ble_eq_true hcd.1.1.1
       have c2:=Nat.le_of_ble_eq_true hcd.1.1.2
       have c3:=Nat.le_of_ble_eq_true hcd.1.2
       have run:∀ (a':Option Addr) (c':Nat),len≤c'→(Instr.sliceAt t (.slice a' len c') lo' (some hi') (some mx')).run T.P w=.ok (.slice (if m=l then a' else a'.map (·.add (l * inf.size))) (hv - l) (m - l)) w:=by
        intro a' c' hc'
        simp only [Instr.sliceAt,Instr.slice,Sem.run_bind,bJ hut,Result.andThen_ok,vV hl hh hm c1 c2 (Nat.le_trans c3 hc') rlo rhi rmx,cW hii,hsz,Sem.run_pure]
       cases base with
       | none =>
        simp only at ho
        cases hz:(Nat.beq len 0 && Nat.beq cp 0) with
        | false=>rw [hz] at ho;cases ho
        | true =>
         rw [hz] at ho
         simp only [cond_true,Option.some.injEq] at ho
         subst ho
         simp only [Bool.and_eq_true] at hz
         have z1:=Nat.eq_of_beq_eq_true hz.1
         have z2:=Nat.eq_of_beq_eq_true hz.2
         subst z1
         subst z2
         obtain rfl:=hx.bp rfl
         have e0:m=0:=by omega
         have e1:hv=0:=by omega
         have e2:l=0:=by omega
         subst e0
         subst e1
         subst e2
         exact .pure h (aN (by rw [run none 0 (Nat.le_refl _)];simp)) (.flat rfl)
       | some ad =>
        obtain ⟨k,o,sp⟩:=ad
        cases sp with
        | some s=>cases ho
        | none =>
         simp only [Option.some.injEq] at ho
         subst ho
         cases hx with
         | flat hf=>simp [aV] at hf
         | cF hne ht0 h20 =>
          rename_i c' a'
          have e0:m=0:=by omega
          have e1:hv=0:=by omega
          have e2:l=0:=by omega
          subst e0
          subst e1
          subst e2
          refine .pure h (aN (run (some a') c' (Nat.zero_le _))) ?_
          rw [if_pos rfl]
          exact VR.cF (by simp) (fun _=>rfl) (by simp)
         | slice hl' hn ht hlo' hk' =>
          rename_i b d c'
          refine .pure h (aN (run _ c' hn)) ?_
          by_cases hcl:m=l
          ·obtain rfl:hv=m:=by omega
           subst hcl
           rw [if_pos rfl,Nat.sub_self]
           exact VR.cF (by simp) (fun _=>rfl) (by simp)
          ·rw [if_neg hcl,Option.map_some,Addr.add_lit,Nat.add_assoc d o]
           cases hb:Nat.beq hv m with
           | true =>
            have:=Nat.eq_of_beq_eq_true hb
            simp only [cond_true]
            exact VR.slice hl' (by omega) (fun _=>by omega) (fun e=>by omega) (fun e=>by omega)
           | false =>
            simp only [cond_false]
            exact VR.slice hl' (by omega) (fun e=>by omega) (fun e=>by omega) (fun e=>by omega)
  | _=>cases ho
theorem vW (hT:bT T) (h:HR γ g w) {t:TypeId} {x x' v:Value} {e:bN} (hn:e.news=true→γ.loc n=none) (ho:qP T n t x g=some (v,e)) (hx:VR γ x x') :
  aT T.P γ g w n (do Pure.pure (Next.value (←Instr.range t x'))) v e:=by
 unfold qP at ho
 split at ho
 ·rename_i kt et _ _ _ _ _ _ m hty
  cases hm:map? (g m) with
  | none=>rw [hm] at ho;cases ho
  | some p =>
   obtain ⟨es,clock⟩:=p
   rw [hm] at ho
   simp only [Option.some.injEq,Prod.mk.injEq] at ho
   obtain ⟨rfl,rfl⟩:=ho
   obtain ⟨i,_,_,_,_,hu,_⟩:=hT.ty t _ hty
   have hgr:g m=some (.map es clock):=by
    unfold map? at hm
    split at hm
    ·simp at hm;obtain ⟨rfl,rfl⟩:=hm;assumption
    ·cases hm
   cases hx with
   | flat hf=>simp [aV] at hf
   | map hl =>
    rename_i b
    obtain ⟨_,_,es',hw,_⟩:=h.fQ m b 0 _ hgr hl
    have hle:=Gm.lI (b:=w.heap.size) (c:=0) (hn rfl)
    have hrun:(Instr.range t (.map (some b))).run T.P w=.ok (.pointer (some ⟨w.heap.size,0,none⟩)) (w.alloc (.mapIter (some b) clock #[] clock)):=by
     have hgo:(getObj b).run T.P w=.ok (.map es' clock) w:=by simp [getObj,Sem.run,hw]
     simp [Instr.range,bJ hu,hgo]
    refine ⟨_,_,γ.add n w.heap.size 0,.inl (aN hrun),hle,fun k hk=>Gm.bq _ _ _ (fun e=>Bool.noConfusion (hk e:true=false)),?_,VR.ptr (o:=0) (Gm.bS _ _ _ _),jg.new (obj:=_) rfl rfl rfl rfl⟩
    refine HR.new (w:=w) h (hn rfl) (obj:=_) rfl ⟨rfl,h.base,b,hle.loc _ _ hl,?_⟩
    show (w.heap.push _)[w.heap.size]?=_
    simp
 ·rename_i s hty
  simp only [Option.some.injEq,Prod.mk.injEq] at ho
  obtain ⟨rfl,rfl⟩:=ho
  obtain ⟨i,_,_,_,_,hu,_⟩:=hT.ty t _ hty
  obtain rfl:=hx.bp rfl
  have hle:=Gm.lI (b:=w.heap.size) (c:=0) (hn rfl)
  have hrun:(Instr.range t (.string s)).run T.P w=.ok (.pointer (some ⟨w.heap.size,0,none⟩)) (w.alloc (.stringIter s 0)):=by
   simp [Instr.range,bJ hu]
  refine ⟨_,_,γ.add n w.heap.size 0,.inl (aN hrun),hle,fun k hk=>Gm.bq _ _ _ (fun e=>Bool.noConfusion (hk e:true=false)),?_,VR.ptr (o:=0) (Gm.bS _ _ _ _),jg.new (obj:=_) rfl rfl rfl rfl⟩
  refine HR.new (w:=w) h (hn rfl) (obj:=_) rfl ⟨rfl,h.base,?_⟩
  show (w.heap.push _)[w.heap.size]?=_
  simp
 ·cases ho
theorem yw {k b:Nat} {a0 a:aZ} {obj0 obj:Obj} (h:HR γ g w) (h0:g k=some a0) (ho:a0.own=true) (hl:γ.loc k=some (b,0)) (hw:w.heap[b]?=some obj0)
  (hown:a.own=true) (ha:zW γ (w.heap.setIfInBounds b obj) k b 0 a) :
  HR γ (gQ g k a) {w with heap:=w.heap.setIfInBounds b obj}∧jg γ g w γ (gQ g k a) {w with heap:=w.heap.setIfInBounds b obj}∧(w.heap.setIfInBounds b obj)[b]?=some obj:=by
 have hlt:b < w.heap.size:=(Array.getElem?_eq_some_iff.1 hw).1
 have hsz:(w.heap.setIfInBounds b obj).size=w.heap.size:=by simp
 have hne:∀ i,i ≠ b→(w.heap.setIfInBounds b obj)[i]?=w.heap[i]?:=fun i hi=>Array.getElem?_setIfInBounds_ne (Ne.symm hi)
 exact ⟨h.put h0 ho hl hsz hne (.inl hown) ha,jg.put h0 ho hl rfl rfl rfl hsz hne,by simp [hlt]⟩
theorem vX (h:HR γ g w) {x x' v:Value} {e:bN} {ty:TypeId} (ho:jo x g=some (v,e)) (hx:VR γ x x') :
  aT T.P γ g w n (do Pure.pure (Next.value (←Instr.next x' true ty))) v e:=by
 unfold jo at ho
 split at ho
 ·rename_i r hk
  cases hg:g r with
  | none=>rw [hg] at ho;cases ho
  | some fQ =>
   rw [hg] at ho
   cases fQ with
   | cV s pos =>
    simp only at ho
    obtain ⟨b,d,hl,rfl⟩:=hx.addr hk
    obtain ⟨rfl,hB,hw⟩:=h.fQ r b d _ hg hl
    have hgo:(getObj b).run T.P w=.ok (.stringIter s pos) w:=by simp [getObj,Sem.run,hw]
    cases hc:Nat.blt pos s.data.toList.length with
    | true =>
     rw [hc] at ho
     simp only [cond_true,Option.some.injEq,Prod.mk.injEq] at ho
     obtain ⟨rfl,rfl⟩:=ho
     have hlt:pos < s.size:=Nat.le_of_ble_eq_true hc
     have hset:(setObj b (.stringIter s (pos+(Utf8.decode s pos).2))).run T.P w=.ok () {w with heap:=w.heap.setIfInBounds b (.stringIter s (pos+(Utf8.decode s pos).2))}:=by simp [setObj,Sem.run,hw]
     obtain ⟨q1,q2,q3⟩:=yw (a:=.cV s (pos+(Utf8.decode s pos).2)) (obj:=.stringIter s (pos+(Utf8.decode s pos).2)) h hg rfl hl hw rfl ⟨rfl,hB,by simp [(Array.getElem?_eq_some_iff.1 hw).1]⟩
     refine ⟨.tuple #[.bool true,.int .i64 pos,.int .i32 (Utf8.decode s pos).1],_,γ,.inl (aN ?_),Gm.Le.refl γ,fun _ _=>rfl,q1,?_,q2⟩
     ·simp [Instr.next,hgo,hlt,hset,goInt]
     ·exact VR.cg (l:=[.bool true,.int .i64 pos,.int .i32 (Utf8.decode s pos).1]) (bQ.of_flat rfl)
    | false =>
     rw [hc] at ho
     simp only [cond_false,Option.some.injEq,Prod.mk.injEq] at ho
     obtain ⟨rfl,rfl⟩:=ho
     have hlt:¬ (pos < s.size):=fun e=>by
      have:Nat.blt pos s.data.toList.length=true:=Nat.ble_eq_true_of_le e
      rw [this] at hc;cases hc
     refine .pure h (aN (v:=.tuple #[.bool false]) ?_) (VR.cg (l:=[.bool false]) (bQ.of_flat rfl))
     simp [Instr.next,hgo,hlt]
   | _=>cases ho
 ·cases ho
end
end Go.RM
namespace Go.RM
open Go.RowKit
section
variable {T : bz} {γ : Gm} {g : aF} {w : World} {n : Nat}
theorem bH (P:Program) {α β:Type} (x:Sem α) (f:α→Sem β):aD P (x >>= f)=(aD P x).bind fun a=>aD P (f a):=by
 show aD P (x.bind f)=_
 induction x with
 | pure a=>rfl
 | program k ih=>simp only [Sem.bind,aD];exact ih P
 | mark m k ih=>simp only [Sem.bind,aD];exact ih
 | _=>rfl
theorem dR (P:Program) {α:Type} (a:α):aD P (Pure.pure a)=some a:=rfl
def SameKeys (l l':List MapEntry):Prop:=l.map (·.key)=l'.map (·.key)
theorem SameKeys.Ac {e e':MapEntry} {l l':List MapEntry} (h:SameKeys (e :: l) (e' :: l')):e.key=e'.key∧SameKeys l l':=by
 simpa [SameKeys] using h
theorem pT (kind:TypeDesc) (k:Value):∀ (l l':List MapEntry) (i:Nat),SameKeys l l' →
  match Instr.findNow kind k l i with
  | none=>Instr.findNow kind k l' i=none
  | some none=>Instr.findNow kind k l' i=some none
  | some (some (j,_))=>∃ e,i≤j∧l'[j - i]?=some e∧Instr.findNow kind k l' i=some (some (j,e.val))
 | [],[],_,_=>rfl
 | [],_ :: _,_,h=>by simp [SameKeys] at h
 | _ :: _,[],_,h=>by simp [SameKeys] at h
 | e :: l,e' :: l',i,h=>by
  obtain ⟨h1,h2⟩:=h.Ac
  simp only [Instr.findNow,←h1]
  cases hs:Instr.sameNow kind k e.key with
  | none=>rfl
  | some b =>
   cases b with
   | true=>exact ⟨e',Nat.le_refl _,by simp,rfl⟩
   | false =>
    have ih:=pT kind k l l' (i+1) h2
    simp only
    cases hf:Instr.findNow kind k l (i+1) with
    | none=>rw [hf] at ih;exact ih
    | some r =>
     rw [hf] at ih
     cases r with
     | none=>exact ih
     | some p =>
      obtain ⟨j,v⟩:=p
      obtain ⟨x,a,b,c⟩:=ih
      refine ⟨x,by omega,?_,c⟩
      rw [show j - i=(j - (i+1))+1 from by omega]
      simpa using b
theorem mE (P:Program) (kt:TypeId) (k:Value):∀ (l l':List MapEntry) (i:Nat) (r:Option (Nat × Value)),SameKeys l l'→aD P (Instr.findAsking kt k l i)=some r →
  match r with
  | none=>aD P (Instr.findAsking kt k l' i)=some none
  | some (j,_)=>∃ e,i≤j∧l'[j - i]?=some e∧aD P (Instr.findAsking kt k l' i)=some (some (j,e.val))
 | [],[],_,r,_,h=>by
  simp only [Instr.findAsking,dR,Option.some.injEq] at h
  subst h
  rfl
 | [],_ :: _,_,_,h,_=>by simp [SameKeys] at h
 | _ :: _,[],_,_,h,_=>by simp [SameKeys] at h
 | e :: l,e' :: l',i,r,hk,h=>by
  obtain ⟨h1,h2⟩:=hk.Ac
  simp only [Instr.findAsking,bH,h1] at h ⊢
  cases hq:aD P (Op.equal kt k e'.key) with
  | none=>rw [hq] at h;cases h
  | some b =>
   rw [hq] at h
   simp only [Option.bind_some] at h ⊢
   cases b with
   | true =>
    simp only [if_true,dR,Option.some.injEq] at h ⊢
    subst h
    exact ⟨e',Nat.le_refl _,by simp,rfl⟩
   | false =>
    simp only [Bool.false_eq_true,if_false] at h ⊢
    have ih:=mE P kt k l l' (i+1) r h2 h
    cases r with
    | none=>exact ih
    | some p =>
     obtain ⟨j,v⟩:=p
     obtain ⟨x,a,b,c⟩:=ih
     refine ⟨x,by omega,?_,c⟩
     rw [show j - i=(j - (i+1))+1 from by omega]
     simpa using b
theorem yx {P:Program} {kt:TypeId} {k:Value} {l l':List MapEntry} {r:Option (Nat × Value)} (hk:SameKeys l l') (h:aD P (Instr.findKey kt k l)=some r) :
  match r with
  | none=>aD P (Instr.findKey kt k l')=some none
  | some (j,_)=>∃ e,l'[j]?=some e∧aD P (Instr.findKey kt k l')=some (some (j,e.val)):=by
 unfold Instr.findKey at h ⊢
 simp only [bH] at h ⊢
 cases hu:aD P (underlying kt) with
 | none=>rw [hu] at h;cases h
 | some d =>
  rw [hu] at h
  simp only [Option.bind_some] at h ⊢
  have hs:=pT d k l l' 0 hk
  cases hf:Instr.findNow d k l 0 with
  | none =>
   rw [hf] at h hs
   simp only at h hs
   simp only [hs]
   have:=mE P kt k l l' 0 r hk h
   cases r with
   | none=>exact this
   | some p=>obtain ⟨j,v⟩:=p;obtain ⟨e,_,b,c⟩:=this;exact ⟨e,by simpa using b,c⟩
  | some q =>
   rw [hf] at h hs
   simp only [dR,Option.some.injEq] at h
   subst h
   cases q with
   | none=>simp only at hs ⊢;rw [hs];rfl
   | some p =>
    obtain ⟨j,v⟩:=p
    obtain ⟨e,_,b,c⟩:=hs
    exact ⟨e,by simpa using b,by rw [c];rfl⟩
theorem iN.keys {es:List MapEntry} {es':Array MapEntry} (h:iN γ es es') (hf:es.all (fun e=>flat e.key)=true):SameKeys (es.map fun e=>{e with val:=.nilIface}) es'.toList:=by
 unfold SameKeys
 rw [List.map_map]
 apply List.ext_getElem?
 intro i
 rw [List.getElem?_map,List.getElem?_map]
 cases he:es[i]? with
 | none =>
  have:es'.toList[i]?=none:=by
   rw [List.getElem?_eq_none_iff] at he ⊢
   have:=h.1
   simp;omega
  rw [this];rfl
 | some e =>
  have hi:i < es.length:=(List.getElem?_eq_some_iff.1 he).1
  have hi':i < es'.size:=by have:=h.1;omega
  have he':es'.toList[i]?=some es'[i]:=by simp [hi']
  rw [he']
  obtain ⟨h1,_,_⟩:=h.2 i e es'[i] he (by simp)
  have:=h1.cy (List.all_eq_true.1 hf e (List.mem_of_getElem? he))
  simp [this]
theorem qU {P:Program} {emp:Bool} {kt:TypeId} {k k':Value} {es:List MapEntry} {es':Array MapEntry} {r:Option Nat} (h:mA P emp kt k es=some r) (he:iN γ es es') (hk:VR γ k k') :
  k'=k∧(∀ w:World,(Instr.checkKey emp 10000 kt k).run P w=.ok () w) ∧
  match r with
  | none=>∀ w:World,(Instr.findKey kt k es'.toList).run P w=.ok none w
  | some i=>∃ e e',es[i]?=some e∧es'[i]?=some e'∧VR γ e.val e'.val∧e'.key=e.key∧flat e.key=true∧e.born=e'.born∧∀ w:World,(Instr.findKey kt k es'.toList).run P w=.ok (some (i,e'.val)) w:=by
 unfold mA at h
 cases hc:(flat k && es.all fun e=>flat e.key) with
 | false=>rw [hc] at h;cases h
 | true =>
  rw [hc] at h
  simp only [cond_true] at h
  simp only [Bool.and_eq_true] at hc
  have hke:=hk.cy hc.1
  cases hck:aD P (Instr.checkKey emp 10000 kt k) with
  | none=>rw [hck] at h;cases h
  | some u =>
   rw [hck] at h
   simp only [Option.map_eq_some_iff] at h
   obtain ⟨q,hq,rfl⟩:=h
   refine ⟨hke,fun w=>fA P hck w,?_⟩
   have hs:=yx (he.keys hc.2) hq
   cases q with
   | none=>exact fun w=>fA P hs w
   | some p =>
    obtain ⟨j,v⟩:=p
    obtain ⟨e',a,b⟩:=hs
    have hj':es'[j]?=some e':=by simpa using a
    have hjl:j < es.length:=by have:=(Array.getElem?_eq_some_iff.1 hj').1;have:=he.1;omega
    have hj:es[j]?=some es[j]:=List.getElem?_eq_getElem hjl
    obtain ⟨x,y,z⟩:=he.2 j _ _ hj hj'
    have hfk:=List.all_eq_true.1 hc.2 _ (List.getElem_mem hjl)
    exact ⟨es[j],e',hj,hj',y,x.cy hfk,hfk,z,fun w=>fA P b w⟩
theorem iN.empty {es:List MapEntry} {es':Array MapEntry} (h:iN γ es es'):es'.isEmpty=es.isEmpty:=by
 have:=h.1
 cases hx:es'.isEmpty with
 | true =>
  have hz:es'=#[]:=by simpa using hx
  subst hz
  cases es with
  | nil=>rfl
  | cons a l=>simp at this
 | false =>
  cases es with
  | nil =>
   have hz:es'=#[]:=Array.eq_empty_of_size_eq_zero this.symm
   subst hz
   simp at hx
  | cons a l=>rfl
theorem map_some {a:Option aZ} {es:List MapEntry} {c:Nat} (h:map? a=some (es,c)):a=some (.map es c):=by
 unfold map? at h
 split at h
 ·simp at h;obtain ⟨rfl,rfl⟩:=h;rfl
 ·cases h
theorem oV (hT:bT T) {t kt:TypeId} {z:Option Value} (h:jm T t=some (kt,z)) :
  ∃ et,T.P.underlying t=some (.map kt et)∧∀ v,z=some v→∃ i,T.P.info? et=some i∧i.zero=some v:=by
 unfold jm at h
 split at h
 ·rename_i k e _ _ _ _ _ _ hty
  simp only [Option.some.injEq,Prod.mk.injEq] at h
  obtain ⟨rfl,rfl⟩:=h
  obtain ⟨i,_,_,_,_,hu,_⟩:=hT.ty t _ hty
  refine ⟨e,hu,fun v hv=>?_⟩
  cases he:T.ty.get e with
  | none=>rw [he] at hv;cases hv
  | some r =>
   rw [he] at hv
   obtain ⟨i',h1,_,_,h4,_⟩:=hT.ty e r he
   exact ⟨i',h1,h4.trans hv⟩
 ·cases h
theorem tM {v:Value} {r:Nat} (h:gm v=some r):v=.map (some r):=by
 unfold gm at h
 split at h
 ·simp at h;subst h;rfl
 ·cases h
theorem bY (h:HR γ g w) {m m':Value} {r:Nat} {es:List MapEntry} {c:Nat} (hb:gm m=some r) (hm:map? (g r)=some (es,c)) (hv:VR γ m m') :
  ∃ b es',m'=.map (some b)∧γ.loc r=some (b,0)∧γ.B≤b∧w.heap[b]?=some (.map es' c)∧iN γ es es'∧(∀ P:Program,(getObj b).run P w=.ok (.map es' c) w):=by
 obtain rfl:=tM hb
 cases hv with
 | flat hf=>simp [aV] at hf
 | map hl =>
  rename_i b
  obtain ⟨_,hB,es',hw,he⟩:=h.fQ r b 0 _ (map_some hm) hl
  exact ⟨b,es',rfl,hl,hB,hw,he,fun P=>by simp [getObj,Sem.run,hw]⟩
theorem yz (hT:bT T) (h:HR γ g w) {t:TypeId} {m m' k k' v:Value} {ok:Bool} (ho:iX T t m k ok g=some v) (hm:VR γ m m') (hk:VR γ k k') :
  aT T.P γ g w n (do Pure.pure (Next.value (←Instr.lookup t m' k' ok))) v .none:=by
 unfold iX at ho
 cases hmt:jm T t with
 | none=>rw [hmt] at ho;cases ho
 | some p =>
  obtain ⟨kt,z⟩:=p
  cases hb:gm m with
  | none=>rw [hmt,hb] at ho;cases ho
  | some r =>
   cases hmp:map? (g r) with
   | none=>rw [hmt,hb] at ho;simp only [Option.bind_some,hmp] at ho;cases ho
   | some q =>
    obtain ⟨es,c⟩:=q
    rw [hmt,hb] at ho
    simp only [Option.bind_some,hmp] at ho
    obtain ⟨b,es',rfl,hl,hB,hw,he,hgo⟩:=bY h hb hmp hm
    obtain ⟨et,hu,hz⟩:=oV hT hmt
    unfold yd at ho
    cases hf:mA T.P es.isEmpty kt k es with
    | none=>rw [hf] at ho;simp at ho
    | some r' =>
     obtain ⟨rfl,hck,hfk⟩:=qU hf he hk
     rw [←he.empty] at hck
     cases r' with
     | some i =>
      obtain ⟨e,e',he1,he2,hvv,_,_,_,hrun⟩:=hfk
      cases z with
      | none=>rw [hf] at ho;simp at ho
      | some zv =>
       rw [hf] at ho
       simp only [he1,Option.map_some,Option.some.injEq] at ho
       subst ho
       refine .pure h (aN (v:=bif ok then .tuple #[e'.val,.bool true] else e'.val) ?_) ?_
       ·cases ok <;> simp [Instr.lookup,bJ hu,hgo,hck,hrun]
       ·cases ok with
        | false=>exact hvv
        | true=>exact VR.cg (.cons hvv (.cons (.flat rfl) (.nil γ)))
     | none =>
      cases z with
      | none=>rw [hf] at ho;simp at ho
      | some zv =>
       rw [hf] at ho
       simp only at ho
       obtain ⟨ie,hi1,hi2⟩:=hz zv rfl
       cases hfl:flat zv with
       | false=>rw [hfl] at ho;cases ho
       | true =>
        rw [hfl] at ho
        simp only [cond_true,Option.some.injEq] at ho
        subst ho
        refine .pure h (aN (v:=bif ok then .tuple #[zv,.bool false] else zv) ?_) ?_
        ·cases ok <;> simp [Instr.lookup,bJ hu,hgo,hck,hfk,iD hi1 hi2]
        ·cases ok with
         | false=>exact VR.of_flat hfl
         | true=>exact VR.cg (.cons (VR.of_flat hfl) (.cons (.flat rfl) (.nil γ)))
theorem iN.modify {es:List MapEntry} {es':Array MapEntry} (h:iN γ es es') (i:Nat) (f f':MapEntry→MapEntry)
  (hf:∀ e e',es[i]?=some e→es'[i]?=some e'→VR γ (f e).key (f' e').key∧VR γ (f e).val (f' e').val∧(f e).born=(f' e').born):iN γ (es.modify i f) (es'.modify i f'):=by
 refine ⟨by simp [h.1],fun j a b ha hb=>?_⟩
 rw [List.getElem?_modify] at ha
 rw [Array.getElem?_modify] at hb
 by_cases hij:i=j
 ·subst hij
  simp only [if_true] at ha hb
  obtain ⟨e,h1,rfl⟩:=Option.map_eq_some_iff.1 ha
  obtain ⟨e',h2,rfl⟩:=Option.map_eq_some_iff.1 hb
  exact hf e e' h1 h2
 ·simp only [hij,if_false] at ha hb
  have ha':es[j]?=some a:=by cases hx:es[j]? <;> simp_all
  exact h.2 j a b ha' hb
theorem iN.push {es:List MapEntry} {es':Array MapEntry} (h:iN γ es es') {e e':MapEntry} (he:VR γ e.key e'.key∧VR γ e.val e'.val∧e.born=e'.born):iN γ (es++[e]) (es'.push e'):=by
 refine ⟨by simp [h.1],fun j a b ha hb=>?_⟩
 by_cases hj:j < es.length
 ·rw [List.getElem?_append_left hj] at ha
  rw [Array.getElem?_push,if_neg (by have:=h.1;omega)] at hb
  exact h.2 j a b ha hb
 ·rw [List.getElem?_append_right (by omega)] at ha
  have hj2:j - es.length=0:=by
   have:=(List.getElem?_eq_some_iff.1 ha).1
   simp at this;omega
  rw [hj2] at ha
  simp at ha
  subst ha
  rw [Array.getElem?_push,if_pos (by have:=h.1;omega)] at hb
  cases hb
  exact he
theorem nL (h:HR γ g w) {r b:Nat} {es es2:List MapEntry} {c c2:Nat} {es' es2':Array MapEntry} (hm:map? (g r)=some (es,c)) (hl:γ.loc r=some (b,0)) (hB:γ.B≤b)
  (hw:w.heap[b]?=some (.map es' c)) (he:iN γ es2 es2') :
  HR γ (gQ g r (.map es2 c2)) {w with heap:=w.heap.setIfInBounds b (.map es2' c2)}∧jg γ g w γ (gQ g r (.map es2 c2)) {w with heap:=w.heap.setIfInBounds b (.map es2' c2)} ∧
   (∀ P:Program,(setObj b (.map es2' c2)).run P w=.ok () {w with heap:=w.heap.setIfInBounds b (.map es2' c2)}):=by
 have hlt:b < w.heap.size:=(Array.getElem?_eq_some_iff.1 hw).1
 obtain ⟨q1,q2,_⟩:=yw (a:=.map es2 c2) (obj:=.map es2' c2) h (map_some hm) rfl hl hw rfl ⟨rfl,hB,es2',by simp [hlt],he⟩
 exact ⟨q1,q2,fun P=>by simp [setObj,Sem.run,hw]⟩
theorem tN (hT:bT T) (h:HR γ g w) {t:TypeId} {m m' k k' v:Value} {e:bN} (ho:ej T t m k g=some (v,e)) (hm:VR γ m m') (hk:VR γ k k') :
  aT T.P γ g w n (do Pure.pure (Next.value (←Instr.mapEntry t m' k'))) v e:=by
 unfold ej at ho
 cases hmt:jm T t with
 | none=>rw [hmt] at ho;cases ho
 | some p =>
  obtain ⟨kt,z⟩:=p
  cases hb:gm m with
  | none=>rw [hmt,hb] at ho;cases ho
  | some r =>
   cases hmp:map? (g r) with
   | none=>rw [hmt,hb] at ho;simp only [hmp] at ho;cases ho
   | some q =>
    obtain ⟨es,c⟩:=q
    rw [hmt,hb] at ho
    simp only [hmp] at ho
    obtain ⟨b,es',rfl,hl,hB,hw,he,hgo⟩:=bY h hb hmp hm
    obtain ⟨et,hu,hz⟩:=oV hT hmt
    unfold kR at ho
    cases hf:mA T.P false kt k es with
    | none=>rw [hf] at ho;simp at ho
    | some r' =>
     obtain ⟨rfl,hck,hfk⟩:=qU hf he hk
     have hflk:flat k'=true:=by
      unfold mA at hf
      cases hc:(flat k' && es.all fun e=>flat e.key) with
      | false=>rw [hc] at hf;cases hf
      | true=>simp only [Bool.and_eq_true] at hc;exact hc.1
     cases r' with
     | some i =>
      obtain ⟨x,x',he1,he2,hvv,hkk,hkf,hborn,hrun⟩:=hfk
      rw [hf] at ho
      simp only [he1] at ho
      cases hsb:Instr.sameBits 10000 x.key k' with
      | false=>rw [hsb] at ho;cases ho
      | true =>
       rw [hsb] at ho
       simp only [cond_true,Option.some.injEq,Prod.mk.injEq] at ho
       obtain ⟨rfl,rfl⟩:=ho
       have hmod:iN γ (es.modify i fun e=>{e with key:=k'}) (es'.modify i fun e=>{e with key:=k'}) :=
        he.modify i _ _ fun a a' h1 h2=>by obtain ⟨_,y,zz⟩:=he.2 i a a' h1 h2;exact ⟨VR.of_flat hflk,y,zz⟩
       obtain ⟨q1,q2,q3⟩:=nL (c2:=c) h hmp hl hB hw hmod
       refine ⟨.tuple #[x'.val,.int .i64 x'.born],_,γ,.inl (aN ?_),Gm.Le.refl γ,fun _ _=>rfl,q1,?_,q2⟩
       ·have hstay:(Instr.keyThatStays x'.key k').run T.P w=.ok k' w:=by simp [Instr.keyThatStays,hkk,hsb]
        simp [Instr.mapEntry,bJ hu,hgo,hck,hrun,he2,hstay,q3,goInt]
       ·rw [←hborn]
        exact VR.cg (.cons hvv (.cons (.flat rfl) (.nil γ)))
     | none =>
      cases z with
      | none=>rw [hf] at ho;simp at ho
      | some zv =>
       rw [hf] at ho
       simp only at ho
       obtain ⟨ie,hi1,hi2⟩:=hz zv rfl
       cases hfl:flat zv with
       | false=>rw [hfl] at ho;cases ho
       | true =>
        rw [hfl] at ho
        simp only [cond_true,Option.some.injEq,Prod.mk.injEq] at ho
        obtain ⟨rfl,rfl⟩:=ho
        have hpush:iN γ (es++[{key:=k',val:=zv,born:=c}]) (es'.push {key:=k',val:=zv,born:=c}):=he.push ⟨VR.of_flat hflk,VR.of_flat hfl,rfl⟩
        obtain ⟨q1,q2,q3⟩:=nL (c2:=c+1) h hmp hl hB hw hpush
        refine ⟨.tuple #[zv,.int .i64 c],_,γ,.inl (aN ?_),Gm.Le.refl γ,fun _ _=>rfl,q1,VR.cg (.cons (VR.of_flat hfl) (.cons (.flat rfl) (.nil γ))),q2⟩
        simp [Instr.mapEntry,bJ hu,hgo,hck,hfk,iD hi1 hi2,q3,goInt]
end
end Go.RM
namespace Go.RM
open Go.RowKit
section
variable {T : bz} {γ : Gm} {g : aF} {w : World} {n : Nat}
def fk (γ:Gm):List MapEntry→List MapEntry→Prop
 | [],[]=>True
 | e :: l,e' :: l'=>(VR γ e.key e'.key∧VR γ e.val e'.val∧e.born=e'.born)∧fk γ l l'
 | _,_=>False
theorem fk.Ga {γ:Gm}:∀ {l l':List MapEntry},l.length=l'.length →
  (∀ (i:Nat) (e e':MapEntry),l[i]?=some e→l'[i]?=some e'→VR γ e.key e'.key∧VR γ e.val e'.val∧e.born=e'.born)→fk γ l l'
 | [],[],_,_=>trivial
 | [],_ :: _,h,_=>by simp at h
 | _ :: _,[],h,_=>by simp at h
 | e :: l,e' :: l',h,hp=>⟨hp 0 e e' rfl rfl,fk.Ga (by simpa using h) fun i a a' x y=>hp (i+1) a a' (by simpa using x) (by simpa using y)⟩
theorem iN.list {es:List MapEntry} {es':Array MapEntry} (h:iN γ es es'):fk γ es es'.toList :=
 fk.Ga (by simpa using h.1) fun i e e' a b=>h.2 i e e' a (by simpa using b)
theorem fk.len {γ:Gm}:∀ {l l':List MapEntry},fk γ l l'→l.length=l'.length
 | [],[],_=>rfl
 | [],_ :: _,h=>h.elim
 | _ :: _,[],h=>h.elim
 | _ :: _,_ :: _,h=>by simp [fk.len h.2]
theorem fk.get {γ:Gm}:∀ {l l':List MapEntry} {i:Nat} {e':MapEntry},fk γ l l'→l'[i]?=some e'→∃ e,l[i]?=some e∧VR γ e.key e'.key∧VR γ e.val e'.val∧e.born=e'.born
 | [],[],i,e',_,h=>by simp at h
 | [],_ :: _,_,_,h,_=>h.elim
 | _ :: _,[],_,_,h,_=>h.elim
 | e :: l,x :: l',0,e',h,hx=>by simp at hx;subst hx;exact ⟨e,rfl,h.1⟩
 | e :: l,x :: l',i+1,e',h,hx=>by
  obtain ⟨y,a,b⟩:=fk.get (i:=i) h.2 (by simpa using hx)
  exact ⟨y,by simpa using a,b⟩
theorem fk.filter {γ:Gm} (p:Nat→Bool):∀ {l l':List MapEntry},fk γ l l'→fk γ (l.filter fun e=>p e.born) (l'.filter fun e=>p e.born)
 | [],[],_=>trivial
 | [],_ :: _,h=>h.elim
 | _ :: _,[],h=>h.elim
 | e :: l,e' :: l',h=>by
  have ih:=fk.filter p h.2
  have hb:=h.1.2.2
  by_cases hp:p e.born=true
  ·have hp':p e'.born=true:=by rw [←hb];exact hp
   rw [List.filter_cons_of_pos (by simpa using hp),List.filter_cons_of_pos (by simpa using hp')]
   exact ⟨h.1,ih⟩
  ·have hp':¬ p e'.born=true:=by rw [←hb];exact hp
   rw [List.filter_cons_of_neg (by simpa using hp),List.filter_cons_of_neg (by simpa using hp')]
   exact ih
theorem fk.append {γ:Gm}:∀ {a a' b b':List MapEntry},fk γ a a'→fk γ b b'→fk γ (a++b) (a'++b')
 | [],[],_,_,_,h=>h
 | [],_ :: _,_,_,h,_=>h.elim
 | _ :: _,[],_,_,h,_=>h.elim
 | _ :: _,_ :: _,_,_,h,k=>⟨h.1,fk.append h.2 k⟩
theorem fk.findIdx {γ:Gm} (p:Nat→Bool):∀ {l l':List MapEntry},fk γ l l'→(l.findIdx? fun e=>p e.born)=l'.findIdx? fun e=>p e.born
 | [],[],_=>rfl
 | [],_ :: _,h=>h.elim
 | _ :: _,[],h=>h.elim
 | e :: l,e' :: l',h=>by
  rw [List.findIdx?_cons,List.findIdx?_cons,h.1.2.2,fk.findIdx p h.2]
theorem fk.find {γ:Gm} (p:Nat→Bool):∀ {l l':List MapEntry},fk γ l l' →
  match l.find? (fun e=>p e.born) with
  | none=>l'.find? (fun e=>p e.born)=none
  | some e=>∃ e',l'.find? (fun e=>p e.born)=some e'∧VR γ e.key e'.key∧VR γ e.val e'.val∧e.born=e'.born
 | [],[],_=>rfl
 | [],_ :: _,h=>h.elim
 | _ :: _,[],h=>h.elim
 | e :: l,e' :: l',h=>by
  have hb:=h.1.2.2
  cases hp:p e.born with
  | true =>
   rw [List.find?_cons_of_pos (by simpa using hp),List.find?_cons_of_pos (by rw [←hb];simpa using hp)]
   exact ⟨e',rfl,h.1⟩
  | false =>
   rw [List.find?_cons_of_neg (by simp [hp]),List.find?_cons_of_neg (by rw [←hb];simp [hp])]
   exact fk.find p h.2
theorem qV (h:HR γ g w) {t:TypeId} {m m' s s' x x':Value} {e:bN} (ho:cR m s x g=some e) (hm:VR γ m m') (hs:VR γ s s') (hx:VR γ x x') :
  aT T.P γ g w n (do Instr.entryStore t m' s' x';Pure.pure Next.skip) undef e:=by
 unfold cR at ho
 cases hb:gm m with
 | none=>rw [hb] at ho;simp at ho
 | some r =>
  cases hi:intOf? s with
  | none=>rw [hb,hi] at ho;simp at ho
  | some born =>
   cases hmp:map? (g r) with
   | none=>rw [hb,hi] at ho;simp only [hmp] at ho;cases ho
   | some q =>
    obtain ⟨es,c⟩:=q
    rw [hb,hi] at ho
    simp only [hmp] at ho
    obtain ⟨b,es',rfl,hl,hB,hw,he,hgo⟩:=bY h hb hmp hm
    obtain ⟨kk,rfl⟩:=tH hi
    obtain rfl:=hs.bp rfl
    cases hf:es.findIdx? (fun e=>(e.born:Int) == born) with
    | none=>rw [hf] at ho;cases ho
    | some i =>
     rw [hf] at ho
     simp only [Option.some.injEq] at ho
     subst ho
     have hf':es'.findIdx? (fun e=>(e.born:Int) == born)=some i:=by
      have:=fk.findIdx (fun k=>(k:Int) == born) he.list
      rw [hf] at this
      obtain ⟨l⟩:=es'
      rw [List.findIdx?_toArray]
      exact this.symm
     have hmod:iN γ (es.modify i fun e=>{e with val:=x}) (es'.modify i fun e=>{e with val:=x'}) :=
      he.modify i _ _ fun a a' h1 h2=>by obtain ⟨y,_,zz⟩:=he.2 i a a' h1 h2;exact ⟨y,hx,zz⟩
     obtain ⟨q1,q2,q3⟩:=nL (c2:=c) h hmp hl hB hw hmod
     refine ⟨undef,_,γ,.inr ⟨pN ?_,rfl⟩,Gm.Le.refl γ,fun _ _=>rfl,q1,VR.undef γ,q2⟩
     simp [Instr.entryStore,hgo,asInt,asIntOf,hf',q3]
theorem sS (hT:bT T) (h:HR γ g w) {t:TypeId} {m m' k k' x x':Value} {e:bN} (ho:dY T t m k x g=some e) (hm:VR γ m m') (hk:VR γ k k') (hx:VR γ x x') :
  aT T.P γ g w n (do Instr.mapUpdate t m' k' x';Pure.pure Next.skip) undef e:=by
 unfold dY at ho
 cases hmt:jm T t with
 | none=>rw [hmt] at ho;simp at ho
 | some p =>
  obtain ⟨kt,z⟩:=p
  cases hb:gm m with
  | none=>rw [hmt,hb] at ho;simp at ho
  | some r =>
   cases hmp:map? (g r) with
   | none=>rw [hmt,hb] at ho;simp only [hmp] at ho;cases ho
   | some q =>
    obtain ⟨es,c⟩:=q
    rw [hmt,hb] at ho
    simp only [hmp] at ho
    obtain ⟨b,es',rfl,hl,hB,hw,he,hgo⟩:=bY h hb hmp hm
    obtain ⟨et,hu,hz⟩:=oV hT hmt
    unfold lF at ho
    cases hf:mA T.P false kt k es with
    | none=>rw [hf] at ho;simp at ho
    | some r' =>
     obtain ⟨rfl,hck,hfk⟩:=qU hf he hk
     have hflk:flat k'=true:=by
      unfold mA at hf
      cases hc:(flat k' && es.all fun e=>flat e.key) with
      | false=>rw [hc] at hf;cases hf
      | true=>simp only [Bool.and_eq_true] at hc;exact hc.1
     cases r' with
     | some i =>
      obtain ⟨y,y',he1,he2,hvv,hkk,hkf,hborn,hrun⟩:=hfk
      rw [hf] at ho
      simp only [he1] at ho
      cases hsb:Instr.sameBits 10000 y.key k' with
      | false=>rw [hsb] at ho;cases ho
      | true =>
       rw [hsb] at ho
       simp only [cond_true,Option.some.injEq] at ho
       subst ho
       have hmod:iN γ (es.modify i fun e=>{e with key:=k',val:=x}) (es'.modify i fun e=>{e with key:=k',val:=x'}) :=
        he.modify i _ _ fun a a' h1 h2=>by obtain ⟨_,_,zz⟩:=he.2 i a a' h1 h2;exact ⟨VR.of_flat hflk,hx,zz⟩
       obtain ⟨q1,q2,q3⟩:=nL (c2:=c) h hmp hl hB hw hmod
       refine ⟨undef,_,γ,.inr ⟨pN ?_,rfl⟩,Gm.Le.refl γ,fun _ _=>rfl,q1,VR.undef γ,q2⟩
       have hstay:(Instr.keyThatStays y'.key k').run T.P w=.ok k' w:=by simp [Instr.keyThatStays,hkk,hsb]
       simp [Instr.mapUpdate,bJ hu,hgo,hck,hrun,he2,hstay,q3]
     | none =>
      rw [hf] at ho
      simp only [Option.some.injEq] at ho
      subst ho
      have hpush:iN γ (es++[{key:=k',val:=x,born:=c}]) (es'.push {key:=k',val:=x',born:=c}):=he.push ⟨VR.of_flat hflk,hx,rfl⟩
      obtain ⟨q1,q2,q3⟩:=nL (c2:=c+1) h hmp hl hB hw hpush
      refine ⟨undef,_,γ,.inr ⟨pN ?_,rfl⟩,Gm.Le.refl γ,fun _ _=>rfl,q1,VR.undef γ,q2⟩
      simp [Instr.mapUpdate,bJ hu,hgo,hck,hfk,q3]
theorem yA (h:HR γ g w) (hn:γ.loc n=none) {t:TypeId} :
  aT T.P γ g w n (do Pure.pure (Next.value (←Instr.makeMap t none))) (.map (some n)) (.new (.map [] 0)):=by
 have hle:=Gm.lI (b:=w.heap.size) (c:=0) hn
 refine ⟨.map (some w.heap.size),w.alloc (.map #[] 0),γ.add n w.heap.size 0,.inl (aN (by simp [Instr.makeMap])),hle,fun k hk=>Gm.bq _ _ _ (fun e=>Bool.noConfusion (hk e:true=false)),?_,VR.map (Gm.bS _ _ _ _),jg.new (obj:=_) rfl rfl rfl rfl⟩
 refine HR.new (w:=w) h hn (obj:=_) rfl ⟨rfl,h.base,#[],?_,rfl,by simp⟩
 show (w.heap.push _)[w.heap.size]?=_
 simp
theorem DQ (h:HR γ g w) {it it':Value} {r m since last c:Nat} {seen:List Nat} {es:List MapEntry} (ha:addr? it=some (r,0)) (hg:g r=some (.iter m since seen last))
  (hm:map? (g m)=some (es,c)) (hv:VR γ it it') :
  ∃ b bm es',it'=.pointer (some ⟨b,0,none⟩)∧γ.loc r=some (b,0)∧γ.B≤b∧γ.loc m=some (bm,0)∧w.heap[b]?=some (.mapIter (some bm) since seen.toArray last) ∧
   w.heap[bm]?=some (.map es' c)∧iN γ es es':=by
 obtain ⟨b,d,hl,rfl⟩:=hv.addr ha
 obtain ⟨rfl,hB,bm,hlm,hw⟩:=h.fQ r b d _ hg hl
 obtain ⟨_,_,es',hw',he⟩:=h.fQ m bm 0 _ (map_some hm) hlm
 exact ⟨b,bm,es',rfl,hl,hB,hlm,hw,hw',he⟩
theorem Ad (h:HR γ g w) {it it' v:Value} {e:bN} (ho:qQ it g=some (v,e)) (hv:VR γ it it') :
  aT T.P γ g w n (do Pure.pure (Next.value (←Instr.entry it'))) v e:=by
 unfold qQ at ho
 split at ho
 ·rename_i r ha
  cases hg:g r with
  | none=>rw [hg] at ho;cases ho
  | some fQ =>
   rw [hg] at ho
   cases fQ with
   | iter m since seen stepped =>
    simp only at ho
    cases hs:seen.getLast? with
    | none=>rw [hs] at ho;simp at ho
    | some stamp =>
     cases hm:map? (g m) with
     | none=>rw [hs,hm] at ho;simp at ho
     | some q =>
      obtain ⟨es,clock⟩:=q
      rw [hs,hm] at ho
      simp only at ho
      cases hc:Nat.beq clock stepped with
      | false=>rw [hc] at ho;cases ho
      | true =>
       rw [hc] at ho
       simp only [cond_true,Option.map_eq_some_iff,Prod.mk.injEq] at ho
       obtain ⟨x,hx,rfl,rfl⟩:=ho
       have hcc:=Nat.eq_of_beq_eq_true hc
       subst hcc
       obtain ⟨b,bm,es',rfl,hl,hB,hlm,hw,hw',he⟩:=DQ h ha hg hm hv
       have hf:=fk.find (fun k=>k == stamp) he.list
       rw [hx] at hf
       obtain ⟨x',h1,h2,h3,_⟩:=hf
       have h1':es'.find? (fun e=>e.born == stamp)=some x':=by rw [←Array.find?_toList];exact h1
       have hg1:(getObj b).run T.P w=.ok (.mapIter (some bm) since seen.toArray clock) w:=by simp [getObj,Sem.run,hw]
       have hg2:(getObj bm).run T.P w=.ok (.map es' clock) w:=by simp [getObj,Sem.run,hw']
       have hback:seen.toArray.back?=some stamp:=by simpa using hs
       refine .pure h (aN (v:=.tuple #[x'.key,x'.val]) ?_) (VR.cg (.cons h2 (.cons h3 (.nil γ))))
       simp [Instr.entry,hg1,hg2,hback,h1']
   | _=>cases ho
 ·cases ho
theorem Co (h:HR γ g w) {it it':Value} {ty:TypeId} {L:List (Value × bN)} (ho:pJ it g=some L) (hv:VR γ it it') :
  ∃ v e,(v,e) ∈ L∧aT T.P γ g w n (do Pure.pure (Next.value (←Instr.next it' false ty))) v e:=by
 unfold pJ at ho
 split at ho
 ·rename_i r
  cases hg:g r with
  | none=>rw [hg] at ho;cases ho
  | some fQ =>
   rw [hg] at ho
   cases fQ with
   | iter m since seen last =>
    simp only at ho
    cases hm:map? (g m) with
    | none=>rw [hm] at ho;cases ho
    | some q =>
     obtain ⟨es,clock⟩:=q
     rw [hm] at ho
     simp only at ho
     obtain ⟨b,bm,es',rfl,hl,hB,hlm,hw,hw',he⟩:=DQ h rfl hg hm hv
     have hg1:(getObj b).run T.P w=.ok (.mapIter (some bm) since seen.toArray last) w:=by simp [getObj,Sem.run,hw]
     have hg2:(getObj bm).run T.P w=.ok (.map es' clock) w:=by simp [getObj,Sem.run,hw']
     unfold tA at ho
     cases hgone:(!seen.isEmpty && !es.isEmpty && es.all (fun e=>Nat.ble last e.born)) with
     | true=>rw [hgone] at ho;cases ho
     | false =>
      rw [hgone] at ho
      simp only [cond_false,Option.some.injEq] at ho
      subst ho
      have hleft:fk γ (es.filter fun e=>!seen.contains e.born) (es'.filter fun e=>!seen.toArray.contains e.born).toList:=by
       rw [Array.toList_filter]
       have:=fk.filter (fun k=>!seen.contains k) he.list
       simpa using this
      have hold:fk γ ((es.filter fun e=>!seen.contains e.born).filter fun e=>decide (e.born < since)) ((es'.filter fun e=>!seen.toArray.contains e.born).filter (·.born < since)).toList:=by
       rw [Array.toList_filter]
       exact fk.filter (fun k=>decide (k < since)) hleft
      have hnew:fk γ ((es.filter fun e=>!seen.contains e.born).filter fun e=>decide (e.born ≥ since)) ((es'.filter fun e=>!seen.toArray.contains e.born).filter (·.born ≥ since)).toList:=by
       rw [Array.toList_filter]
       exact fk.filter (fun k=>decide (k ≥ since)) hleft
      have hgone':(!seen.toArray.isEmpty && !es'.isEmpty && es'.all (·.born ≥ last))=false:=by
       have h1:es'.all (·.born ≥ last)=es.all (fun e=>Nat.ble last e.born):=by
        rw [←Array.all_toList]
        have:∀ {l l':List MapEntry},fk γ l l'→l'.all (fun e=>decide (e.born ≥ last))=l.all (fun e=>Nat.ble last e.born):=by
         intro l
         induction l with
         | nil=>intro l' hh;cases l' with
          | nil=>rfl
          | cons=>exact hh.elim
         | cons a l ih=>intro l' hh;cases l' with
          | nil=>exact hh.elim
          | cons a' l' =>
           simp only [List.all_cons,ih hh.2,ble_eq,←hh.1.2.2]
        exact this he.list
       rw [h1,he.empty]
       have h2:seen.toArray.isEmpty=seen.isEmpty:=by cases seen <;> rfl
       rw [h2];exact hgone
      generalize hO:(es.filter fun e=>!seen.contains e.born).filter (fun e=>decide (e.born < since))=old at hold ⊢
      generalize hN:(es.filter fun e=>!seen.contains e.born).filter (fun e=>decide (e.born ≥ since))=new at hnew ⊢
      generalize hO':(es'.filter fun e=>!seen.toArray.contains e.born).filter (·.born < since)=old' at hold
      generalize hN':(es'.filter fun e=>!seen.toArray.contains e.born).filter (·.born ≥ since)=new' at hnew
      have hboth:=hold.append hnew
      have hempty:old'.isEmpty=old.isEmpty:=by
       have:=hold.len
       cases old with
       | nil =>
        have hz:old'=#[]:=Array.eq_empty_of_size_eq_zero (by simpa using this.symm)
        subst hz;rfl
       | cons a l =>
        cases hx:old'.isEmpty with
        | false=>rfl
        | true =>
         have hz:old'=#[]:=by simpa using hx
         subst hz
         simp at this
      let cand:Array (Option MapEntry):=(if old'.isEmpty then #[none] else #[])++(old'++new').map some
      have hpos:0 < cand.size:=by
       show 0 < ((if old'.isEmpty then #[none] else #[])++(old'++new').map some).size
       cases hx:old'.isEmpty with
       | true=>simp;omega
       | false =>
        have:0 < old'.size:=by
         rcases Nat.eq_zero_or_pos old'.size with h0|h0
         ·have:old'=#[]:=Array.eq_empty_of_size_eq_zero h0
          subst this;simp at hx
         ·exact h0
        simp;omega
      obtain ⟨i,w1,hi,hw1,hch⟩:∃ i w1,i < cand.size∧(w1=w∨w1=w.drew)∧(choose (.mapNext cand.size)).run T.P w=.ok i w1:=by
       by_cases hf:cand.size≤1
       ·refine ⟨0,w,hpos,.inl rfl,?_⟩
        simp [choose,Sem.run,Question.forced,hf]
       ·refine ⟨_,w.drew,Nat.mod_lt (w.tape w.drawn (.mapNext cand.size)) hpos,.inr rfl,?_⟩
        have hf':decide (cand.size≤1)=false:=decide_eq_false hf
        simp only [choose,Sem.run,Question.forced,hf',Bool.false_eq_true,if_false,Question.cut]
        rfl
      have hw1h:w1.heap=w.heap:=by rcases hw1 with rfl|rfl <;> rfl
      have hw1o:w1.os=w.os∧w1.tape=w.tape∧w1.output=w.output:=by rcases hw1 with rfl|rfl <;> exact ⟨rfl,rfl,rfl⟩
      have hH1:HR γ g w1:=h.same hw1h
      have hU1:jg γ g w γ g w1:=jg.heap hw1h hw1o.1 hw1o.2.1 hw1o.2.2
      obtain ⟨x,hx⟩:∃ x,cand[i]?=some x:=⟨_,Array.getElem?_eq_getElem hi⟩
      have hmain:∀ u wu,(match x with
        | some e=>(do setObj b (.mapIter (some bm) since (seen.toArray.push e.born) clock);Pure.pure (.tuple #[.bool true,e.key,e.val]):Sem Value)
        | none=>Pure.pure (.tuple #[.bool false])).run T.P w1=.ok u wu→(Instr.next (.pointer (some ⟨b,0,none⟩)) false ty).run T.P w=.ok u wu:=by
       intro u wu hu
       have hx':((if old'.isEmpty=true then #[none] else #[])++Array.map some (old'++new'))[i]?=some x:=hx
       simp only [Instr.next,Sem.run_bind,hg1,Result.andThen_ok,hg2,hgone',Bool.false_eq_true,if_false,hO',hN']
       have hch':(choose (.mapNext ((if old'.isEmpty=true then #[none] else #[])++Array.map some (old'++new')).size)).run T.P w=.ok i w1:=hch
       rw [hch']
       simp only [Result.andThen_ok,hx']
       cases x with
       | none=>exact hu
       | some e=>simpa using hu
      by_cases hover:old'.isEmpty=true∧i=0
      ·
       obtain ⟨ho1,rfl⟩:=hover
       have hxn:x=none:=by
        have hx':((if old'.isEmpty=true then #[none] else #[])++Array.map some (old'++new'))[0]?=some x:=hx
        rw [if_pos ho1] at hx'
        rw [Array.getElem?_append_left (by simp)] at hx'
        simpa using hx'.symm
       subst hxn
       refine ⟨.tuple #[.bool false],.none,?_,?_⟩
       ·rw [←hempty,ho1];simp
       ·refine ⟨.tuple #[.bool false],w1,γ,.inl (aN (hmain _ _ rfl)),Gm.Le.refl γ,fun _ _=>rfl,hH1,VR.cg (l:=[.bool false]) (bQ.of_flat rfl),hU1⟩
      ·
       obtain ⟨j,e',hj,rfl⟩:∃ (j:Nat) (e':MapEntry),(old'.toList++new'.toList)[j]?=some e'∧x=some e':=by
        have hx':((if old'.isEmpty=true then #[none] else #[])++Array.map some (old'++new'))[i]?=some x:=hx
        cases hox:old'.isEmpty with
        | true =>
         rw [hox] at hx' hover
         simp only [if_true] at hx'
         have hi0:i ≠ 0:=fun e=>hover ⟨rfl,e⟩
         rw [Array.getElem?_append_right (by simp;omega)] at hx'
         simp only [List.size_toArray,List.length_cons,List.length_nil,Array.getElem?_map] at hx'
         obtain ⟨e',h1,h2⟩:=Option.map_eq_some_iff.1 hx'
         exact ⟨i - 1,e',by rw [←Array.toList_append,Array.getElem?_toList];simpa using h1,h2.symm⟩
        | false =>
         rw [hox] at hx'
         simp only [Bool.false_eq_true,if_false,Array.empty_append,Array.getElem?_map] at hx'
         obtain ⟨e',h1,h2⟩:=Option.map_eq_some_iff.1 hx'
         exact ⟨i,e',by rw [←Array.toList_append,Array.getElem?_toList];exact h1,h2.symm⟩
       obtain ⟨e,he1,hk,hvv,hborn⟩:=hboth.get hj
       have hset:(setObj b (.mapIter (some bm) since (seen.toArray.push e'.born) clock)).run T.P w1=.ok () {w1 with heap:=w1.heap.setIfInBounds b (.mapIter (some bm) since (seen.toArray.push e'.born) clock)}:=by
        simp [setObj,Sem.run,hw1h,hw]
       have hwb:w1.heap[b]?=some (.mapIter (some bm) since seen.toArray last):=by rw [hw1h];exact hw
       have hltb:b < w1.heap.size:=(Array.getElem?_eq_some_iff.1 hwb).1
       obtain ⟨q1,q2,_⟩:=yw (a:=.iter m since (seen++[e.born]) clock) (obj:=.mapIter (some bm) since (seen.toArray.push e'.born) clock) hH1 hg rfl hl hwb rfl
        ⟨rfl,hB,bm,hlm,by rw [hborn];simp [hltb]⟩
       refine ⟨.tuple #[.bool true,e.key,e.val],.put r (.iter m since (seen++[e.born]) clock),?_,?_⟩
       ·refine List.mem_append.2 (.inr ?_)
        exact List.mem_map.2 ⟨e,List.mem_of_getElem? he1,rfl⟩
       ·refine ⟨.tuple #[.bool true,e'.key,e'.val],_,γ,.inl (aN (hmain _ _ (by simp only [Sem.run_bind,hset,Result.andThen_ok,Sem.run_pure]))),Gm.Le.refl γ,fun _ _=>rfl,q1,
         VR.cg (.cons (.flat rfl) (.cons hk (.cons hvv (.nil γ)))),?_⟩
        exact hU1.trans q2
   | _=>cases ho
 ·cases ho
end
end Go.RM
namespace Go.RM
open Go.RowKit
section
variable {T : bz} {γ : Gm} {g : aF} {w : World} {n : Nat}
theorem bQ.map {ρ ρ':Operand→Value} {l:List Operand} (h:∀ x ∈ l,VR γ (ρ x) (ρ' x)):bQ γ (l.map ρ) (l.map ρ'):=by
 refine ⟨by simp,fun i v v' a b=>?_⟩
 rw [List.getElem?_map] at a b
 obtain ⟨x,hx,rfl⟩:=Option.map_eq_some_iff.1 a
 rw [hx] at b
 simp at b
 subst b
 exact h x (List.mem_of_getElem? hx)
theorem iP.map {ρ ρ':Operand→Value} {l:List (Nat × Operand)} (h:∀ x ∈ l,VR γ (ρ x.2) (ρ' x.2)):iP γ (l.map fun (i,x)=>(i,ρ x)) (l.map fun (i,x)=>(i,ρ' x)):=by
 refine ⟨by simp,fun i p p' a b=>?_⟩
 rw [List.getElem?_map] at a b
 obtain ⟨x,hx,rfl⟩:=Option.map_eq_some_iff.1 a
 rw [hx] at b
 simp at b
 subst b
 exact ⟨rfl,h x (List.mem_of_getElem? hx)⟩
theorem mU.map {ρ ρ':Operand→Value} {x:Option Operand} (h:∀ y,x=some y→VR γ (ρ y) (ρ' y)):mU γ (x.map ρ) (x.map ρ'):=by
 cases x with
 | none=>trivial
 | some y=>exact h y rfl
theorem mU.cy {a b:Option Value} (h:mU γ a b) (hf:a.toList.all flat=true):b=a:=by
 cases a with
 | none=>cases b with
  | none=>rfl
  | some _=>exact h.elim
 | some x=>cases b with
  | none=>exact h.elim
  | some y=>simp at hf;rw [VR.cy h hf]
theorem Ae (hT:bT T) (h:HR γ g w) {t ty:TypeId} {x x' v:Value} {e:bN} (ho:mQ T t x g=some (v,e)) (hx:VR γ x x') :
  aT T.P γ g w n (do Pure.pure (Next.value (←Builtin.clear_ #[t] ty #[x']))) v e:=by
 unfold mQ at ho
 split at ho
 ·rename_i r hty
  obtain ⟨i,_,_,_,_,hu,_⟩:=hT.ty t _ hty
  cases hm:map? (g r) with
  | none=>rw [hm] at ho;cases ho
  | some p =>
   obtain ⟨es,clock⟩:=p
   rw [hm] at ho
   simp only [Option.some.injEq,Prod.mk.injEq] at ho
   obtain ⟨rfl,rfl⟩:=ho
   obtain ⟨b,es',rfl,hl,hB,hw,he,hget⟩:=bY h (m:=.map (some r)) rfl hm hx
   obtain ⟨q1,q2,q3⟩:=nL (es2:=[]) (es2':=#[]) (c2:=clock) h hm hl hB hw ⟨rfl,fun i a b ha=>by cases ha⟩
   refine ⟨.tuple #[],_,γ,.inl (aN ?_),Gm.Le.refl γ,fun _ _=>rfl,q1,VR.cg (l:=[]) (l':=[]) (bQ.nil γ),q2⟩
   simp [Builtin.clear_,bJ hu,hget T.P,q3 T.P]
 ·rename_i k o nn _ hty
  obtain ⟨i,_,_,_,_,hu,_⟩:=hT.ty t _ hty
  cases he:elem? T t with
  | none=>rw [he] at ho;cases ho
  | some inf =>
   cases hc:cells? (g k) with
   | none=>rw [he,hc] at ho;cases ho
   | some p =>
    obtain ⟨cs,own,es⟩:=p
    rw [he,hc] at ho
    simp only at ho
    cases hcd:(Nat.ble 1 nn && own && bk inf && Nat.ble (o+nn * inf.size) cs.length) with
    | false=>rw [hcd] at ho;cases ho
    | true =>
     rw [hcd] at ho
     simp only [cond_true,Option.some.injEq,Prod.mk.injEq] at ho
     obtain ⟨rfl,rfl⟩:=ho
     obtain ⟨c1,c2,c3,c4⟩:=zX hcd
     subst c2
     have c1:=Nat.le_of_ble_eq_true c1
     have c4:=Nat.le_of_ble_eq_true c4
     obtain ⟨z,hzz,hzs,h1,hfl⟩:=ij c3
     obtain ⟨el,j,hut,hj,hsz,_,hz⟩:=jh hT he
     cases hx with
     | flat hf=>simp [aV] at hf
     | cF=>omega
     | slice hl hle0 ht hlo hk =>
      rename_i b d c'
      obtain ⟨cs',el',fz,hw,hcr,hown⟩:=h.cells hc hl
      obtain ⟨rfl,rfl,hB,hcapsz⟩:=hown rfl
      have hpos:0 < z.cells.size:=by omega
      have harr:=lK z.cells (nn * inf.size) (.inr hpos)
      have hflz:=kK hfl (nn * inf.size) (.inr (by simpa using hpos))
      have hlen:=mC z.cells.toList (nn * inf.size)
      have hcs:cs.length≤cs'.size:=by
       by_cases hn:cs=[]
       ·subst hn;simp
       ·have:=hcr.size_le hn;omega
      have hzc:(Builtin.zeroCells z.cells nn).toList=bK z.cells.toList (nn * inf.size):=by
       unfold Builtin.zeroCells
       rw [hzs]
       rw [hzs] at harr
       exact harr
      have hst:=run_storeCells_at T.P b (0+o) el' (bK z.cells.toList (nn * inf.size)) 0 cs' w hw (by rw [hlen];omega) ((bQ.of_flat (γ:=γ) hflz).bh (List.all_eq_true.2 fun v hv=>by have h2:=List.all_eq_true.1 hflz v hv;cases v <;> first|rfl|(simp [aV] at h2)))
      obtain ⟨o1,o2,o3,o4⟩:=setRow_os w b (splice cs'.toList (bK z.cells.toList (nn * inf.size)) o).toArray
      rw [hzz]
      simp only [Option.map_some,Option.getD_some]
      refine ⟨.tuple #[],w.setRow b (splice cs'.toList (bK z.cells.toList (nn * inf.size)) o).toArray,γ,.inl (aN ?_),Gm.Le.refl γ,fun _ _=>rfl,?_,VR.cg (l:=[]) (l':=[]) (bQ.nil γ),?_⟩
      ·obtain ⟨q,rfl⟩:∃ q,nn=q+1:=⟨nn - 1,by omega⟩
       simp only [Nat.add_zero,Nat.zero_add] at hst
       simp [Builtin.clear_,bJ hut,iD hj (hz.trans hzz),hzc,hst,splice]
      ·refine h.put (dZ hc) rfl hl o4 (fun j hj=>setRow_other w b j _ hj) (.inl rfl) ?_
       refine ⟨_,el',(0,0),setRow_heap w b cs' _ el' _ hw,hcr.splice (bQ.of_flat hflz) (by rw [hlen];exact c4) (by rw [hlen];omega),fun _=>⟨rfl,rfl,hB,?_⟩⟩
       rw [List.size_toArray,fT _ _ _ (by rw [hlen,Array.length_toList];omega)]
       simpa using hcapsz
      ·exact jg.put (dZ hc) rfl hl o1 o2 o3 o4 (fun j hj=>setRow_other w b j _ hj)
 ·cases ho
theorem vY (hT:bT T) (h:HR γ g w) {b:Builtin} {l l':List Value} {tys:List TypeId} {ty:TypeId} {cs:Array Bool} {v:Value} {e:bN}
  (hn:e.news=true→γ.loc n=none) (ho:gH T n b l tys g=some (v,e)) (hl:bQ γ l l'):aT T.P γ g w n (builtin b tys.toArray ty cs l'.toArray) v e:=by
 unfold gH at ho
 have two:∀ {x y:Value},bQ γ [x,y] l'→∃ x' y',l'=[x',y']∧VR γ x x'∧VR γ y y':=fun {x y} hh=>by
  match l',hh with
  | [x',y'],hh=>exact ⟨x',y',rfl,hh.2 0 _ _ rfl rfl,hh.2 1 _ _ rfl rfl⟩
  | [],hh=>exact absurd hh.1 (by simp)
  | [_],hh=>exact absurd hh.1 (by simp)
  | _ :: _ :: _ :: _,hh=>exact absurd hh.1 (by simp)
 have one:∀ {x:Value},bQ γ [x] l'→∃ x',l'=[x']∧VR γ x x':=fun {x} hh=>by
  match l',hh with
  | [x'],hh=>exact ⟨x',rfl,hh.2 0 _ _ rfl rfl⟩
  | [],hh=>exact absurd hh.1 (by simp)
  | _ :: _ :: _,hh=>exact absurd hh.1 (by simp)
 split at ho
 ·split at ho
  ·obtain ⟨x',rfl,hx⟩:=one hl
   exact Aa hT h ho hx
  ·cases ho
 ·exact EX h ho hl
 ·exact EY h ho hl
 ·split at ho
  ·obtain ⟨x',rfl,hx⟩:=one hl
   exact Ae hT h ho hx
  ·cases ho
 ·split at ho
  ·rename_i s x t u
   obtain ⟨s',x',rfl,hs,hx⟩:=two hl
   split at ho
   ·rename_i hty
    obtain ⟨i,_,_,_,_,hu,_⟩:=hT.ty u _ hty
    exact yq hT h hu hn ho hs hx
   ·cases ho
  ·cases ho
 ·cases ho
theorem Af (hT:bT T) (h:HR γ g w) {ρ ρ':Operand→Value} {o:Oper} {v:Value} {e:bN}
  (hn:e.news=true→γ.loc n=none) (ho:gU T n o.op ρ g=some (v,e)) (hρ:∀ x ∈ o.op.operands,VR γ (ρ x) (ρ' x)):aT T.P γ g w n (execOp ρ' o) v e:=by
 obtain ⟨dst,op,ty,pos,after,guard⟩:=o
 simp only at ho hρ
 cases op <;> simp only [gU] at ho
 case move x =>
  simp only [Option.some.injEq,Prod.mk.injEq] at ho
  obtain ⟨rfl,rfl⟩:=ho
  exact .pure h rfl (hρ x (by simp [Op.operands]))
 case assign x =>
  simp only [Option.some.injEq,Prod.mk.injEq] at ho
  obtain ⟨rfl,rfl⟩:=ho
  exact .pure h rfl (hρ x (by simp [Op.operands]))
 case pick c a b=>exact Cm h ho (hρ c (by simp [Op.operands])) (hρ a (by simp [Op.operands])) (hρ b (by simp [Op.operands]))
 case alloc t=>exact zZ hT h hn ho
 case box t x=>exact EU h hn ho (hρ x (by simp [Op.operands]))
 case build t parts =>
  have:=z8 (n:=n) hT h ho (iP.map (ρ:=ρ) (ρ':=ρ') (l:=parts.toList) fun x hx=>hρ x.2 (by simp [Op.operands];exact ⟨x.1,by simpa using hx⟩))
  have e1:(parts.toList.map fun (i,x)=>(i,ρ' x)).toArray=parts.map fun (i,x)=>(i,ρ' x):=by apply Array.ext';simp
  rw [e1] at this
  exact this
 case buildSlice t len parts =>
  have:=qT hT h hn ho (iP.map (ρ:=ρ) (ρ':=ρ') (l:=parts.toList) fun x hx=>hρ x.2 (by simp [Op.operands];exact ⟨x.1,by simpa using hx⟩))
  have e1:(parts.toList.map fun (i,x)=>(i,ρ' x)).toArray=parts.map fun (i,x)=>(i,ρ' x):=by apply Array.ext';simp
  rw [e1] at this
  exact this
 case load t a=>exact Cj hT h ho (hρ a (by simp [Op.operands]))
 case store t a x=>exact zY hT h ho (hρ a (by simp [Op.operands])) (hρ x (by simp [Op.operands]))
 case fieldAddr t a i=>exact sN hT h ho (hρ a (by simp [Op.operands]))
 case indexAddr t a ix=>exact sO hT h ho (hρ a (by simp [Op.operands])) (hρ ix (by simp [Op.operands]))
 case index t a ix =>
  cases hf:(flat (ρ a) && flat (ρ ix)) with
  | false=>rw [hf] at ho;cases ho
  | true =>
   rw [hf] at ho
   simp only [Bool.and_eq_true] at hf
   have:=aT.reckon (n:=n) h ho
   rw [←(hρ a (by simp [Op.operands])).cy hf.1,←(hρ ix (by simp [Op.operands])).cy hf.2] at this
   exact this
 case field t a i =>
  cases hf:flat (ρ a) with
  | false=>rw [hf] at ho;cases ho
  | true =>
   rw [hf] at ho
   have:=aT.reckon (n:=n) h ho
   rw [←(hρ a (by simp [Op.operands])).cy hf] at this
   exact this
 case binOp o t x y yt=>exact EW h ho (hρ x (by simp [Op.operands])) (hρ y (by simp [Op.operands]))
 case unOp o t x =>
  cases hf:flat (ρ x) with
  | false=>rw [hf] at ho;cases ho
  | true =>
   rw [hf] at ho
   have:=aT.reckon (n:=n) h ho
   rw [←(hρ x (by simp [Op.operands])).cy hf] at this
   exact this
 case convert s d x =>
  cases hf:flat (ρ x) with
  | false=>rw [hf] at ho;cases ho
  | true =>
   rw [hf] at ho
   have:=aT.reckon (n:=n) h ho
   rw [←(hρ x (by simp [Op.operands])).cy hf] at this
   exact this
 case makeInterface t x =>
  cases hf:flat (ρ x) with
  | false=>rw [hf] at ho;cases ho
  | true =>
   rw [hf] at ho
   have:=aT.reckon (n:=n) h ho
   rw [←(hρ x (by simp [Op.operands])).cy hf] at this
   exact this
 case extract x i=>exact vS h ho (hρ x (by simp [Op.operands]))
 case makeFunc fn first captured =>
  have:=tI (T:=T) (n:=n) h ho (bQ.map (ρ:=ρ) (ρ':=ρ') (l:=first.toList) fun x hx=>hρ x (by simp [Op.operands];exact .inl (by simpa using hx)))
   (bQ.map (ρ:=ρ) (ρ':=ρ') (l:=captured.toList) fun x hx=>hρ x (by simp [Op.operands];exact .inr (by simpa using hx)))
  have e1:(first.toList.map ρ').toArray=first.map ρ':=by apply Array.ext';simp
  have e2:(captured.toList.map ρ').toArray=captured.map ρ':=by apply Array.ext';simp
  rw [e1,e2] at this
  exact this
 case nilCheck x =>
  obtain ⟨a,hx,rfl,rfl⟩:=tJ ho
  have hv:=hρ x (by simp [Op.operands])
  rw [hx] at hv
  have hp:∃ a',ρ' x=.pointer (some a'):=by
   generalize ρ' x=y at hv
   cases hv with
   | flat hf=>exact ⟨a,rfl⟩
   | ptr=>exact ⟨_,rfl⟩
  obtain ⟨a',ha'⟩:=hp
  refine .pure h (v':=.pointer (some a')) ?_ (by rw [←ha'];exact hv)
  simp [execOp,ha']
 case slice t x lo hi mx =>
  cases mx with
  | some m =>
   cases hi with
   | none=>cases ho
   | some hi =>
    simp only [Option.map_eq_some_iff,Prod.mk.injEq] at ho
    obtain ⟨u,hu,rfl,rfl⟩:=ho
    have rlo:=mU.map (γ:=γ) (ρ:=ρ) (ρ':=ρ') (x:=lo) fun y hy=>hρ y (by subst hy;simp [Op.operands])
    exact yu hT h hu (hρ x (by simp [Op.operands])) rlo (hρ hi (by simp [Op.operands])) (hρ m (by simp [Op.operands]))
  | none =>
   simp only at ho
   have hvx:=hρ x (by simp [Op.operands])
   have rlo:=mU.map (γ:=γ) (ρ:=ρ) (ρ':=ρ') (x:=lo) fun y hy=>hρ y (by subst hy;simp [Op.operands])
   have rhi:=mU.map (γ:=γ) (ρ:=ρ) (ρ':=ρ') (x:=hi) fun y hy=>hρ y (by subst hy;simp [Op.operands])
   show aT T.P γ g w n (do Pure.pure (Next.value (←Instr.sliceAt t (ρ' x) (lo.map ρ') (hi.map ρ') none))) v e
   unfold fu at ho
   split at ho
   ·rename_i s hs
    cases hf:((lo.map ρ).toList.all flat && (hi.map ρ).toList.all flat) with
    | false=>rw [hf] at ho;cases ho
    | true =>
     rw [hf] at ho
     simp only [Bool.and_eq_true] at hf
     rw [rlo.cy hf.1,rhi.cy hf.2,hvx.cy (by rw [hs];rfl)]
     exact aT.reckon h ho
   ·simp only [Option.map_eq_some_iff,Prod.mk.injEq] at ho
    obtain ⟨u,hu,rfl,rfl⟩:=ho
    exact tL hT h hu hvx rlo rhi
   ·simp only [Option.map_eq_some_iff,Prod.mk.injEq] at ho
    obtain ⟨u,hu,rfl,rfl⟩:=ho
    exact Ab hT h hu hvx rlo rhi
 case makeSlice t l c=>exact sQ hT h hn ho (hρ l (by simp [Op.operands])) (hρ c (by simp [Op.operands]))
 case makeMap t r =>
  cases r with
  | some _=>cases ho
  | none =>
   simp only [Option.some.injEq,Prod.mk.injEq] at ho
   obtain ⟨rfl,rfl⟩:=ho
   exact yA h (hn rfl)
 case lookup t m k ok =>
  simp only [Option.map_eq_some_iff,Prod.mk.injEq] at ho
  obtain ⟨u,hu,rfl,rfl⟩:=ho
  exact yz hT h hu (hρ m (by simp [Op.operands])) (hρ k (by simp [Op.operands]))
 case mapEntry t m k=>exact tN hT h ho (hρ m (by simp [Op.operands])) (hρ k (by simp [Op.operands]))
 case entryStore t m s x =>
  simp only [Option.map_eq_some_iff,Prod.mk.injEq] at ho
  obtain ⟨u,hu,rfl,rfl⟩:=ho
  exact qV h hu (hρ m (by simp [Op.operands])) (hρ s (by simp [Op.operands])) (hρ x (by simp [Op.operands]))
 case mapUpdate t m k x =>
  simp only [Option.map_eq_some_iff,Prod.mk.injEq] at ho
  obtain ⟨u,hu,rfl,rfl⟩:=ho
  exact sS hT h hu (hρ m (by simp [Op.operands])) (hρ k (by simp [Op.operands])) (hρ x (by simp [Op.operands]))
 case range t x=>exact vW hT h hn ho (hρ x (by simp [Op.operands]))
 case next it s =>
  cases s with
  | false=>cases ho
  | true=>exact vX h ho (hρ it (by simp [Op.operands]))
 case entry it=>exact Ad h ho (hρ it (by simp [Op.operands]))
 case call c =>
  obtain ⟨callee,args,tys⟩:=c
  unfold zT at ho
  cases callee with
  | value f=>cases ho
  | invoke r m=>cases ho
  | builtin b =>
   simp only at ho
   have:=vY (ty:=ty) (cs:=args.map fun|.const _=>true|_=>false) hT h hn ho (bQ.map (ρ:=ρ) (ρ':=ρ') (l:=args.toList) fun x hx=>hρ x (by simp [Op.operands,Call.operands];simpa using hx))
   have e1:(args.toList.map ρ').toArray=args.map ρ':=by apply Array.ext';simp
   rw [e1] at this
   have e2:execOp ρ' ⟨dst,.call ⟨.builtin b,args,tys⟩,ty,pos,after,guard⟩=builtin b tys ty (args.map fun|.const _=>true|_=>false) (args.map ρ'):=rfl
   rw [e2]
   simpa using this
 all_goals cases ho
end
end Go.RM
namespace Go.RM
def mV:Option aZ→Bool
 | some (.loop ..)=>true
 | _=>false
def wX (g:aF):bN→Prop
 | .put k _|.app k _=>g k ≠ none∧mV (g k)=false
 | _=>True
def tO (l:List Nat):bN→Prop
 | .put k _|.app k _=>k ∈ l
 | _=>True
section
variable {T : bz} {n : Nat} {g g' : aF}
theorem pU {k:Nat} {x:List Value × Bool × Nat} (h:cells? (g k)=some x):g k ≠ none∧mV (g k)=false:=by
 generalize g k=b at h
 cases b with
 | none=>cases h
 | some b=>cases b <;> first|exact ⟨by simp,rfl⟩|cases h
theorem qW {k:Nat} {x:List MapEntry × Nat} (h:map? (g k)=some x):g k ≠ none∧mV (g k)=false:=by
 generalize g k=b at h
 cases b with
 | none=>cases h
 | some b=>cases b <;> first|exact ⟨by simp,rfl⟩|cases h
theorem qX {v:Value} {k o:Nat} (h:addr? v=some (k,o)):k ∈ cc v:=by rw [wV h];simp [cc]
theorem gK {v:Value} {k:Nat} (h:gm v=some k):k ∈ cc v:=by rw [tM h];simp [cc]
def oW (g:aF) (l:List Nat) (e:bN):Prop:=wX g e∧tO l e
theorem fN {o:Option Value} {v:Value} {e:bN} {l:List Nat} (h:dJ o=some (v,e)):oW g l e:=by
 obtain ⟨_,_,rfl⟩:=oU h
 exact ⟨trivial,trivial⟩
theorem Cp {t:TypeId} {a x v:Value} {e:bN} (h:jn T t a x g=some (v,e)):oW g (cc a) e:=by
 unfold jn at h
 split at h
 ·rename_i k o ha
  cases hc:cells? (g k) with
  | none=>rw [hc] at h;cases h
  | some c =>
   obtain ⟨cs,own,es⟩:=c
   cases ht:T.ty.get t with
   | none=>rw [hc,ht] at h;cases h
   | some r =>
    obtain ⟨und,s,bytes,zero,agg,bW,cu⟩:=r
    rw [hc,ht] at h
    simp only at h
    cases hb:(own && Nat.beq x.cells.toList.length s && Nat.ble (o+s) cs.length && x.cells.toList.all bh) <;> rw [hb] at h
    ·cases h
    ·simp at h;obtain ⟨_,rfl⟩:=h;exact ⟨pU hc,qX ha⟩
 ·cases h
theorem vZ {t:TypeId} {m k v:Value} {e:bN} (h:ej T t m k g=some (v,e)):oW g (cc m) e:=by
 unfold ej at h
 split at h
 ·rename_i kt z r _ hr
  split at h
  ·rename_i es clock hm
   unfold kR at h
   split at h
   ·split at h
    ·rename_i x _
     cases hb:Instr.sameBits 10000 x.key k <;> rw [hb] at h
     ·cases h
     ·simp at h;obtain ⟨_,rfl⟩:=h;exact ⟨qW hm,gK hr⟩
    ·cases h
   ·rename_i z _ _
    cases hb:flat z <;> rw [hb] at h
    ·cases h
    ·simp at h;obtain ⟨_,rfl⟩:=h;exact ⟨qW hm,gK hr⟩
   ·cases h
  ·cases h
 ·cases h
theorem sU {m s v:Value} {e:bN} (h:cR m s v g=some e):oW g (cc m) e:=by
 unfold cR at h
 split at h
 ·rename_i r _ hr _
  split at h
  ·rename_i es clock hm
   split at h
   ·simp at h;subst h;exact ⟨qW hm,gK hr⟩
   ·cases h
  ·cases h
 ·cases h
theorem tP {t:TypeId} {m k v:Value} {e:bN} (h:dY T t m k v g=some e):oW g (cc m) e:=by
 unfold dY at h
 split at h
 ·rename_i kt _ r _ hr
  split at h
  ·rename_i es clock hm
   unfold lF at h
   split at h
   ·split at h
    ·rename_i x _
     cases hb:Instr.sameBits 10000 x.key k <;> rw [hb] at h
     ·cases h
     ·simp at h;subst h;exact ⟨qW hm,gK hr⟩
    ·cases h
   ·simp at h;subst h;exact ⟨qW hm,gK hr⟩
   ·cases h
  ·cases h
 ·cases h
theorem Ag {t:TypeId} {s x v:Value} {e:bN} (h:fJ T n t s x g=some (v,e)):oW g (cc s) e:=by
 unfold fJ at h
 split at h
 ·rename_i inf _
  split at h
  ·rename_i base ln cp
   split at h
   ·rename_i m old new _ _ _
    cases hb:(Nat.ble ((ln+m) * inf.bytes) 140737488355328 && Nat.ble (ln+m) 9223372036854775807 && new.all bh && bk inf) <;> rw [hb] at h
    ·cases h
    ·simp only [cond_true] at h
     cases hm:Nat.beq m 0 <;> rw [hm] at h
     ·simp only [cond_false] at h
      unfold gE at h
      cases hc:Nat.beq cp ln <;> rw [hc] at h
      ·simp only [cond_false] at h
       cases hin:Nat.ble (ln+m+3) cp <;> rw [hin] at h
       rotate_left
       ·simp only [cond_true] at h
        unfold kQ at h
        split at h
        ·split at h
         ·rename_i k o _ _ cs own es hcs
          cases hd:(own && Nat.ble (o+(ln+m) * inf.size) cs.length) <;> rw [hd] at h
          ·cases h
          ·simp at h;obtain ⟨_,rfl⟩:=h;exact ⟨pU hcs,by simp [cc,tO]⟩
         ·cases h
        ·cases h
       simp only [cond_false] at h
       split at h
       ·rename_i k
        split at h
        ·rename_i cs own es hcs
         cases hd:(own && Nat.beq cp (ln+1) && Nat.beq cs.length (ln * inf.size) && Nat.beq es inf.size) <;> rw [hd] at h
         ·cases h
         ·simp at h;obtain ⟨_,rfl⟩:=h;exact ⟨pU hcs,by simp [cc,tO]⟩
        ·cases h
       ·cases h
      ·simp at h;obtain ⟨_,rfl⟩:=h;exact ⟨trivial,trivial⟩
     ·simp at h;obtain ⟨_,rfl⟩:=h;exact ⟨trivial,trivial⟩
   ·cases h
  ·cases h
 ·cases h
theorem tQ {it v:Value} {e:bN} (h:jo it g=some (v,e)):wX g e:=by
 unfold jo at h
 split at h
 ·rename_i r _
  split at h
  ·rename_i s pos hr
   cases hb:Nat.blt pos s.data.toList.length <;> rw [hb] at h
   ·simp at h;obtain ⟨_,rfl⟩:=h;trivial
   ·simp at h;obtain ⟨_,rfl⟩:=h;exact ⟨by rw [hr];simp,by rw [hr];rfl⟩
  ·cases h
 ·cases h
theorem Gb {P:Program} {l:List Value} {v:Value} {e:bN} {ks:List Nat} (h:ye P l=some (v,e)):oW g ks e:=by
 unfold ye at h
 split at h
 ·simp at h;obtain ⟨_,rfl⟩:=h;exact ⟨trivial,trivial⟩
 ·cases hb:l.all flat <;> rw [hb] at h
  ·cases h
  ·exact fN h
theorem Gc {P:Program} {l:List Value} {v:Value} {e:bN} {ks:List Nat} (h:yf P l=some (v,e)):oW g ks e:=by
 unfold yf at h
 split at h
 ·simp at h;obtain ⟨_,rfl⟩:=h;exact ⟨trivial,trivial⟩
 ·cases hb:l.all flat <;> rw [hb] at h
  ·cases h
  ·exact fN h
theorem Cq {t:TypeId} {x v:Value} {e:bN} {ks:List Nat} (h:jq T t x g=some (v,e)):oW g ks e:=by
 unfold jq at h
 split at h
 ·simp at h;obtain ⟨_,rfl⟩:=h;exact ⟨trivial,trivial⟩
 ·split at h
  ·simp at h;obtain ⟨_,rfl⟩:=h;exact ⟨trivial,trivial⟩
  ·cases h
 ·simp at h;obtain ⟨_,rfl⟩:=h;exact ⟨trivial,trivial⟩
 ·simp at h;obtain ⟨_,rfl⟩:=h;exact ⟨trivial,trivial⟩
 ·cases h
def Cr (o:Op) (ρ:Operand→Value):List Nat :=
 match o with
 | .store _ a _=>cc (ρ a)
 | .mapEntry _ m _=>cc (ρ m)
 | .entryStore _ m _ _=>cc (ρ m)
 | .mapUpdate _ m _ _=>cc (ρ m)
 | .call ⟨.builtin .append,args,_⟩=>match args.toList.map ρ with
  | [s,_]=>cc s
  | _=>[]
 | .call ⟨.builtin .clear,args,_⟩=>match args.toList.map ρ with
  | [x]=>cc x
  | _=>[]
 | _=>[]
theorem Cs {t:TypeId} {x v:Value} {e:bN} (h:mQ T t x g=some (v,e)):oW g (cc x) e:=by
 unfold mQ at h
 split at h
 ·split at h
  ·rename_i hm
   simp at h;obtain ⟨_,rfl⟩:=h;exact ⟨qW hm,by simp [cc,tO]⟩
  ·cases h
 ·split at h
  ·rename_i _ k o nn _ _ _ _ inf cs own es _ hcs
   cases hb:(Nat.ble 1 nn && own && bk inf && Nat.ble (o+nn * inf.size) cs.length) <;> rw [hb] at h
   ·cases h
   ·simp at h;obtain ⟨_,rfl⟩:=h;exact ⟨pU hcs,by simp [cc,tO]⟩
  ·cases h
 ·cases h
theorem bZ {ks:List Nat}:oW g ks .none:=⟨trivial,trivial⟩
theorem lM {ks:List Nat} {b:aZ}:oW g ks (.new b):=⟨trivial,trivial⟩
theorem pV {o:Op} {ρ:Operand→Value} {v:Value} {e:bN} (h:gU T n o ρ g=some (v,e)):wX g e∧((∀ it,o ≠ .next it true)→tO (Cr o ρ) e):=by
 have key:∀ {ks:List Nat},oW g ks e→Cr o ρ=ks→wX g e∧((∀ it,o ≠ .next it true)→tO (Cr o ρ) e):=fun hk he=>⟨hk.1,fun _=>by rw [he];exact hk.2⟩
 cases o <;> simp only [gU] at h
 case move x=>simp at h;obtain ⟨_,rfl⟩:=h;exact key bZ rfl
 case assign x=>simp at h;obtain ⟨_,rfl⟩:=h;exact key bZ rfl
 case pick c a b =>
  unfold rY at h
  split at h
  ·simp at h;obtain ⟨_,rfl⟩:=h;exact key bZ rfl
  ·cases h
 case alloc t =>
  unfold qO at h
  split at h
  ·rename_i z _ _ _ _
   cases hb:z.cells.toList.all aV <;> rw [hb] at h
   ·cases h
   ·simp at h;obtain ⟨_,rfl⟩:=h;exact key lM rfl
  ·cases h
 case box t x =>
  unfold EP at h
  cases hb:(ρ x).cells.toList.all bh <;> rw [hb] at h
  ·cases h
  ·simp at h;obtain ⟨_,rfl⟩:=h;exact key lM rfl
 case build t parts =>
  unfold oQ at h
  split at h
  ·rename_i z _ _ _
   cases hb:z.cells.toList.all aV <;> rw [hb] at h
   ·cases h
   ·simp only [cond_true,Option.map_eq_some_iff,Prod.mk.injEq] at h
    obtain ⟨_,_,_,rfl⟩:=h
    exact key bZ rfl
  ·cases h
 case buildSlice t len parts =>
  unfold gn at h
  split at h
  ·rename_i inf _
   cases hb:(Nat.ble (len * inf.size) 65536 && bk inf) <;> rw [hb] at h
   ·cases h
   ·simp only [cond_true] at h
    split at h
    ·simp at h;obtain ⟨_,rfl⟩:=h;exact key lM rfl
    ·cases h
  ·cases h
 case load t a =>
  unfold gF at h
  split at h
  ·split at h
   ·rename_i s _ _ agg _ _ _ _
    cases agg
    ·simp only [cond_false,Option.map_eq_some_iff,Prod.mk.injEq] at h
     obtain ⟨_,_,_,rfl⟩:=h
     exact key bZ rfl
    ·simp only [cond_true,Option.map_eq_some_iff,Prod.mk.injEq] at h
     obtain ⟨_,_,_,rfl⟩:=h
     exact key bZ rfl
   ·cases h
  ·cases h
 case store t a x=>exact key (Cp h) rfl
 case fieldAddr t a i =>
  unfold dw at h
  split at h
  ·split at h
   ·rename_i s _
    cases hb:Nat.ble 1 s <;> rw [hb] at h
    ·cases h
    ·simp at h;obtain ⟨_,rfl⟩:=h;exact key bZ rfl
   ·cases h
  ·cases h
 case indexAddr t a ix =>
  have hi:∀ {cu k o len:Nat} {j:Int},oy cu k o len j=some (v,e)→oW g [] e:=by
   intro cu k o len j h
   unfold oy at h
   cases hb:(F2 0 j && ER j (.ofNat len)) <;> rw [hb] at h
   ·cases h
   ·simp at h;obtain ⟨_,rfl⟩:=h;exact bZ
  unfold dy at h
  split at h
  ·split at h
   ·exact key (hi h) rfl
   ·cases h
  ·split at h
   ·exact key (hi h) rfl
   ·cases h
  ·cases h
 case index t a ix =>
  cases hb:(flat (ρ a) && flat (ρ ix)) <;> rw [hb] at h
  ·cases h
  ·exact key (fN h) rfl
 case field t a i =>
  cases hb:flat (ρ a) <;> rw [hb] at h
  ·cases h
  ·exact key (fN h) rfl
 case binOp o t x y yt =>
  have hs:∀ {a b:Value},eX T.P o t x y a b=some (v,e)→oW g [] e:=by
   intro a b h
   unfold eX at h
   cases hb:(flat a && flat b) <;> rw [hb] at h
   ·cases h
   ·exact fN h
  unfold dz at h
  split at h
  ·split at h
   ·simp at h;obtain ⟨_,rfl⟩:=h;exact key bZ rfl
   ·exact key (hs h) rfl
  ·rw [cond_eq_ite] at h
   split at h
   ·unfold gG at h
    split at h
    ·simp at h;obtain ⟨_,rfl⟩:=h;exact key bZ rfl
    ·simp at h;obtain ⟨_,rfl⟩:=h;exact key bZ rfl
    ·cases h
   ·cases h
  ·rw [cond_eq_ite] at h
   split at h
   ·unfold gG at h
    split at h
    ·simp at h;obtain ⟨_,rfl⟩:=h;exact key bZ rfl
    ·simp at h;obtain ⟨_,rfl⟩:=h;exact key bZ rfl
    ·cases h
   ·cases h
  ·exact key (hs h) rfl
 case unOp o t x =>
  cases hb:flat (ρ x) <;> rw [hb] at h
  ·cases h
  ·exact key (fN h) rfl
 case convert s d x =>
  cases hb:flat (ρ x) <;> rw [hb] at h
  ·cases h
  ·exact key (fN h) rfl
 case makeInterface t x =>
  cases hb:flat (ρ x) <;> rw [hb] at h
  ·cases h
  ·exact key (fN h) rfl
 case extract x i =>
  unfold fq at h
  split at h
  ·simp only [Option.map_eq_some_iff,Prod.mk.injEq] at h
   obtain ⟨_,_,_,rfl⟩:=h
   exact key bZ rfl
  ·cases h
 case makeFunc fn first captured =>
  unfold kS at h
  split at h
  ·simp at h;obtain ⟨_,rfl⟩:=h;exact key bZ rfl
  ·cases h
 case nilCheck x =>
  unfold gY at h
  split at h
  ·simp at h;obtain ⟨_,rfl⟩:=h;exact key bZ rfl
  ·cases h
 case slice t x lo hi mx =>
  cases mx with
  | some _ =>
   cases hi with
   | none=>cases h
   | some hi =>
    simp only [Option.map_eq_some_iff,Prod.mk.injEq] at h
    obtain ⟨_,_,_,rfl⟩:=h
    exact key bZ rfl
  | none =>
   simp only at h
   unfold fu at h
   split at h
   ·cases hb:((lo.map ρ).toList.all flat && (hi.map ρ).toList.all flat) <;> rw [hb] at h
    ·cases h
    ·exact key (fN h) rfl
   ·simp only [Option.map_eq_some_iff,Prod.mk.injEq] at h
    obtain ⟨_,_,_,rfl⟩:=h
    exact key bZ rfl
   ·simp only [Option.map_eq_some_iff,Prod.mk.injEq] at h
    obtain ⟨_,_,_,rfl⟩:=h
    exact key bZ rfl
 case makeSlice t l c =>
  unfold gX at h
  split at h
  ·rename_i inf _
   split at h
   ·rename_i l c _ _
    cases hb:(Nat.ble l c && Nat.ble (inf.bytes * c) 140737488355328 && Nat.ble c 9223372036854775807 && bk inf) <;> rw [hb] at h
    ·cases h
    ·simp at h;obtain ⟨_,rfl⟩:=h;exact key lM rfl
   ·cases h
  ·cases h
 case makeMap t r =>
  cases r with
  | some _=>cases h
  | none=>simp at h;obtain ⟨_,rfl⟩:=h;exact key lM rfl
 case lookup t m k ok =>
  simp only [Option.map_eq_some_iff,Prod.mk.injEq] at h
  obtain ⟨_,_,_,rfl⟩:=h
  exact key bZ rfl
 case mapEntry t m k=>exact key (vZ h) rfl
 case entryStore t m s x =>
  simp only [Option.map_eq_some_iff,Prod.mk.injEq] at h
  obtain ⟨_,hu,_,rfl⟩:=h
  exact key (sU hu) rfl
 case mapUpdate t m k x =>
  simp only [Option.map_eq_some_iff,Prod.mk.injEq] at h
  obtain ⟨_,hu,_,rfl⟩:=h
  exact key (tP hu) rfl
 case range t x =>
  unfold qP at h
  split at h
  ·split at h
   ·simp at h;obtain ⟨_,rfl⟩:=h;exact key lM rfl
   ·cases h
  ·simp at h;obtain ⟨_,rfl⟩:=h;exact key lM rfl
  ·cases h
 case next it s =>
  cases s with
  | false=>cases h
  | true=>exact ⟨tQ h,fun hn=>absurd rfl (hn it)⟩
 case entry it =>
  unfold qQ at h
  split at h
  ·split at h
   ·split at h
    ·rw [cond_eq_ite] at h
     split at h <;> rename_i hb
     ·simp only [Option.map_eq_some_iff,Prod.mk.injEq] at h
      obtain ⟨_,_,_,rfl⟩:=h
      exact key bZ rfl
     ·cases h
    ·cases h
   ·cases h
  ·cases h
 case call c =>
  obtain ⟨callee,args,tys⟩:=c
  unfold zT at h
  cases callee with
  | value f=>cases h
  | invoke r m=>cases h
  | builtin b =>
   simp only at h
   unfold gH at h
   split at h
   ·split at h
    ·exact key (Cq (ks:=[]) h) rfl
    ·cases h
   ·exact key (Gb (ks:=[]) h) rfl
   ·exact key (Gc (ks:=[]) h) rfl
   ·split at h
    ·rename_i x t ha _
     refine key (Cs h) ?_
     simp only [Cr]
     rw [ha]
    ·cases h
   ·split at h
    ·rename_i s x t u ha _
     split at h
     ·refine key (Ag h) ?_
      unfold Cr
      simp only [ha]
     ·cases h
    ·cases h
   ·cases h
 all_goals cases h
theorem Ah {it:Value} {L:List (Value × bN)} (h:pJ it g=some L):∀ p ∈ L,wX g p.2:=by
 unfold pJ at h
 split at h
 ·rename_i r
  split at h
  ·rename_i m since seen last hr
   split at h
   ·rename_i es clock hm
    unfold tA at h
    intro p hp
    cases hb:(!seen.isEmpty && !es.isEmpty && es.all (fun e=>Nat.ble last e.born)) with
    | true=>rw [hb] at h;cases h
    | false =>
     rw [hb] at h
     simp only [cond_false,Option.some.injEq] at h
     subst h
     rcases List.mem_append.1 hp with hp|hp
     ·revert hp
      generalize (List.filter (fun e=>decide (e.born < since)) (List.filter (fun e=>!seen.contains e.born) es))=old
      cases old with
      | nil=>simp only [List.isEmpty_nil,cond_true,List.mem_singleton];intro e;subst e;trivial
      | cons=>simp
     ·obtain ⟨x,_,rfl⟩:=List.mem_map.1 hp
      exact ⟨by rw [hr];simp,by rw [hr];rfl⟩
   ·cases h
  ·cases h
 ·cases h
theorem mW {size:Nat} {v:Value} (h:∀ k ∈ cc v,g' k=g k):bA g' size v=bA g size v:=by
 unfold bA
 split
 ·rfl
 ·rw [h _ (by simp [cc])]
 ·rfl
theorem v7 {t:TypeId} {s x:Value} (hs:∀ k ∈ cc s,g' k=g k) (hx:∀ k ∈ cc x,g' k=g k):fJ T n t s x g'=fJ T n t s x g:=by
 unfold fJ
 have e1:∀ size,bA g' size x=bA g size x:=fun _=>mW hx
 have e2:∀ size,bA g' size s=bA g size s:=fun _=>mW hs
 simp only [e1,e2]
 split
 ·split
  ·rename_i base ln cp
   have hb:∀ inf m old new,gE n inf base ln cp m old new g'=gE n inf base ln cp m old new g:=by
    intro inf m old new
    have hi:kQ inf base ln cp m new g'=kQ inf base ln cp m new g:=by
     unfold kQ
     split
     ·rename_i k o
      rw [hs k (by simp [cc])]
     ·rfl
    unfold gE
    rw [hi]
    split
    ·rename_i k
     rw [hs k (by simp [cc])]
    ·rfl
   simp only [hb]
  ·rfl
 ·rfl
theorem Ai {t:TypeId} {a:Value} (h:∀ k ∈ cc a,g' k=g k):gF T t a g'=gF T t a g:=by
 unfold gF
 cases ha:addr? a with
 | none=>rfl
 | some p=>simp only;rw [h p.1 (qX (o:=p.2) ha)]
theorem yB {t:TypeId} {a v:Value} (h:∀ k ∈ cc a,g' k=g k):jn T t a v g'=jn T t a v g:=by
 unfold jn
 cases ha:addr? a with
 | none=>rfl
 | some p=>simp only;rw [h p.1 (qX (o:=p.2) ha)]
theorem v8 {t:TypeId} {m k:Value} {ok:Bool} (h:∀ k ∈ cc m,g' k=g k):iX T t m k ok g'=iX T t m k ok g:=by
 unfold iX
 cases hm:gm m with
 | none=>rfl
 | some r=>simp only [Option.bind_some];rw [h r (gK hm)]
theorem sV {t:TypeId} {m k:Value} (h:∀ k ∈ cc m,g' k=g k):ej T t m k g'=ej T t m k g:=by
 unfold ej
 cases hm:gm m with
 | none=>cases jm T t <;> rfl
 | some r=>cases jm T t with
  | none=>rfl
  | some p=>simp only [h r (gK hm)]
theorem pW {m s v:Value} (h:∀ k ∈ cc m,g' k=g k):cR m s v g'=cR m s v g:=by
 unfold cR
 cases hm:gm m with
 | none=>rfl
 | some r=>cases intOf? s with
  | none=>rfl
  | some p=>simp only [h r (gK hm)]
theorem qY {t:TypeId} {m k v:Value} (h:∀ k ∈ cc m,g' k=g k):dY T t m k v g'=dY T t m k v g:=by
 unfold dY
 cases hm:gm m with
 | none=>cases jm T t <;> rfl
 | some r=>cases jm T t with
  | none=>rfl
  | some p=>simp only [h r (gK hm)]
theorem yC {t:TypeId} {x:Value} (h:∀ k ∈ cc x,g' k=g k):jq T t x g'=jq T t x g:=by
 unfold jq
 split
 ·rfl
 ·rw [h _ (by simp [cc])]
 ·rfl
 ·rfl
 ·rfl
theorem wY {o:Op} {ρ:Operand→Value} {r wr:List Nat} (ht:iT o ρ=some (r,wr)) (hr:∀ k ∈ r,g' k=g k) (hw:∀ k ∈ wr,g' k=g k):gU T n o ρ g'=gU T n o ρ g:=by
 cases o <;> simp only [gU] <;> simp only [iT,Option.some.injEq,Prod.mk.injEq,reduceCtorEq] at ht
 case load t a=>obtain ⟨rfl,rfl⟩:=ht;exact Ai hr
 case store t a x=>obtain ⟨rfl,rfl⟩:=ht;exact yB hw
 case lookup t m k ok=>obtain ⟨rfl,rfl⟩:=ht;rw [v8 hr]
 case mapEntry t m k=>obtain ⟨rfl,rfl⟩:=ht;exact sV hw
 case entryStore t m s x=>obtain ⟨rfl,rfl⟩:=ht;rw [pW hw]
 case mapUpdate t m k x=>obtain ⟨rfl,rfl⟩:=ht;rw [qY hw]
 case makeMap t r=>cases r <;> rfl
 case slice t x lo hi mx=>cases mx <;> cases hi <;> rfl
 case call c =>
  obtain ⟨callee,args,tys⟩:=c
  cases callee with
  | value f=>rfl
  | invoke r m=>rfl
  | builtin b =>
   unfold zT gH
   simp only
   cases b <;> try rfl
   case clear=>cases ht
   case len =>
    simp only at ht
    split at ht
    ·rename_i x hx
     simp only [Option.some.injEq,Prod.mk.injEq] at ht
     obtain ⟨rfl,rfl⟩:=ht
     rw [hx]
     cases tys.toList with
     | nil=>rfl
     | cons t l=>cases l with
      | nil=>exact yC hr
      | cons=>rfl
    ·cases ht
   case append =>
    simp only at ht
    split at ht
    ·rename_i s x hx
     simp only [Option.some.injEq,Prod.mk.injEq] at ht
     obtain ⟨rfl,rfl⟩:=ht
     rw [hx]
     have e1:∀ t,fJ T n t s x g'=fJ T n t s x g:=fun _=>v7 hw hr
     cases tys.toList with
     | nil=>rfl
     | cons t l=>cases l with
      | nil=>rfl
      | cons u l2=>cases l2 with
       | nil=>simp only [e1]
       | cons=>rfl
    ·cases ht
theorem tR {o:Op} {ρ:Operand→Value} {r wr:List Nat} (ht:iT o ρ=some (r,wr)):(∀ it,o ≠ .next it true)∧Cr o ρ=wr:=by
 refine ⟨fun it e=>(by subst e;cases ht),?_⟩
 cases o <;> simp only [iT,Option.some.injEq,Prod.mk.injEq,reduceCtorEq] at ht <;> try (exact ht.2)
 case call c =>
  obtain ⟨callee,args,tys⟩:=c
  cases callee with
  | value f=>simp only [Option.some.injEq,Prod.mk.injEq] at ht;exact ht.2
  | invoke r m=>simp only [Option.some.injEq,Prod.mk.injEq] at ht;exact ht.2
  | builtin b =>
   cases b <;> try (simp only [Option.some.injEq,Prod.mk.injEq] at ht;exact ht.2)
   case clear=>cases ht
   case len =>
    simp only at ht
    split at ht
    ·simp only [Option.some.injEq,Prod.mk.injEq] at ht;exact ht.2
    ·cases ht
   case append =>
    simp only at ht
    split at ht
    ·rename_i s x hx
     simp only [Option.some.injEq,Prod.mk.injEq] at ht
     simp only [Cr,hx];exact ht.2
    ·cases ht
end
end Go.RM
namespace Go.RM
def Wf (h:Hp):Prop:=∀ k,h.n≤k→h.get k=none
structure dB (a b:Hp):Prop where
 n:a.n≤b.n
 lo:b.lo≤a.lo
 same:∀ k,k < a.n→k < b.lo→b.get k=a.get k
 wf:Wf a→Wf b
 loop:Wf a→∀ k,mV (a.get k)=true→mV (b.get k)=true
theorem dB.refl (a:Hp):dB a a:=⟨Nat.le_refl _,Nat.le_refl _,fun _ _ _=>rfl,id,fun _ _ h=>h⟩
theorem dB.trans {a b c:Hp} (h:dB a b) (k:dB b c):dB a c :=
 ⟨Nat.le_trans h.n k.n,Nat.le_trans k.lo h.lo,fun i hi hl=>(k.same i (Nat.lt_of_lt_of_le hi h.n) hl).trans (h.same i hi (Nat.lt_of_lt_of_le hl k.lo)),fun hw=>k.wf (h.wf hw),fun hw i hi=>k.loop (h.wf hw) i (h.loop hw i hi)⟩
theorem dB.push (a:Hp) (b:aZ):dB a (a.push b) :=
 ⟨Nat.le_succ _,Nat.le_refl _,fun k hk _=>by rw [Hp.ew,if_neg (by omega)],fun hw k hk=>by
  have hk':a.n+1≤k:=hk
  rw [Hp.ew,if_neg (by omega)];exact hw k (by omega),fun hw k hk=>by
  have hne:k ≠ a.n:=fun e=>by rw [hw k (by omega)] at hk;cases hk
  rw [Hp.ew,if_neg hne];exact hk⟩
theorem dB.put (a:Hp) (i:Nat) (b:aZ) (hi:a.get i ≠ none) (hl:mV (a.get i)=true→mV (some b)=true):dB a (a.put i b) :=
 ⟨Nat.le_refl _,Nat.min_le_left _ _,fun k _ hl=>by
  have:k < i:=Nat.lt_of_lt_of_le hl (Nat.min_le_right _ _)
  rw [Hp.iZ,if_neg (by omega)],fun hw k hk=>by
  have hk':a.n≤k:=hk
  rw [Hp.iZ,if_neg (fun e=>hi (by rw [←e];exact hw k hk'))];exact hw k hk',fun _ k hk=>by
  rw [Hp.iZ]
  split
  ·rename_i e
   rw [e] at hk
   exact hl hk
  ·exact hk⟩
theorem dB.app (a:Hp) (e:bN) (he:wX a.get e):dB a (a.app e):=by
 cases e with
 | none=>exact .refl a
 | new b=>exact .push a b
 | put k b=>exact .put a k b he.1 (fun h=>by rw [he.2] at h;cases h)
 | app k b=>exact (dB.put a k .dead he.1 (fun h=>by rw [he.2] at h;cases h)).trans (dB.push _ _)
section bind
variable {α β : Type}
theorem wZ (f:α→Option (List β)):cz [] f=some []:=rfl
theorem eV (a:α) (f:α→Option (List β)):cz [a] f=f a:=rfl
theorem jt (a b:α) (l:List α) (f:α→Option (List β)):cz (a :: b :: l) f=match f a with
 | some x=>(cz (b :: l) f).map (x++·)
 | none=>none:=rfl
theorem cm {f:α→Option (List β)}:∀ {L:List α} {M:List β},cz L f=some M→∀ a ∈ L,∃ Ma,f a=some Ma∧∀ b ∈ Ma,b ∈ M
 | [],_,_,a,ha=>by cases ha
 | [x],M,h,a,ha=>by
  rw [eV] at h
  obtain rfl:=List.mem_singleton.1 ha
  exact ⟨M,h,fun _ hb=>hb⟩
 | x :: y :: l,M,h,a,ha=>by
  rw [jt] at h
  cases hx:f x with
  | none=>rw [hx] at h;cases h
  | some X =>
   rw [hx] at h
   simp only [Option.map_eq_some_iff] at h
   obtain ⟨Y,hY,rfl⟩:=h
   rcases List.mem_cons.1 ha with rfl|ha
   ·exact ⟨X,hx,fun b hb=>List.mem_append.2 (.inl hb)⟩
   ·obtain ⟨Ma,h1,h2⟩:=cm hY a ha
    exact ⟨Ma,h1,fun b hb=>List.mem_append.2 (.inr (h2 b hb))⟩
theorem fZ {f:α→Option (List β)}:∀ {L:List α} {M:List β},cz L f=some M→∀ b ∈ M,∃ a ∈ L,∃ Ma,f a=some Ma∧b ∈ Ma
 | [],M,h,b,hb=>by rw [wZ] at h;cases h;cases hb
 | [x],M,h,b,hb=>by
  rw [eV] at h
  exact ⟨x,by simp,M,h,hb⟩
 | x :: y :: l,M,h,b,hb=>by
  rw [jt] at h
  cases hx:f x with
  | none=>rw [hx] at h;cases h
  | some X =>
   rw [hx] at h
   simp only [Option.map_eq_some_iff] at h
   obtain ⟨Y,hY,rfl⟩:=h
   rcases List.mem_append.1 hb with hb|hb
   ·exact ⟨x,by simp,X,hx,hb⟩
   ·obtain ⟨a,ha,Ma,h1,h2⟩:=fZ hY b hb
    exact ⟨a,List.mem_cons_of_mem _ ha,Ma,h1,h2⟩
theorem Aj {f:α→Option (List β)} {L:List α} {M:List β} (h:cz L f=some M) (hL:L ≠ []) (hf:∀ a ∈ L,∀ Ma,f a=some Ma→Ma ≠ []):M ≠ []:=by
 cases L with
 | nil=>exact absurd rfl hL
 | cons a l =>
  obtain ⟨Ma,h1,h2⟩:=cm h a (by simp)
  have:=hf a (by simp) Ma h1
  cases Ma with
  | nil=>exact absurd rfl this
  | cons x _=>intro e;subst e;exact absurd (h2 x (by simp)) (by simp)
end bind
def oT.hp:oT→Hp
 | .call _ _ h=>h
 | .round _ _ h=>h
 | .loop _ st=>st.hp
def fP.hp:fP→Hp
 | .ret _ h=>h
 | .out _ st=>st.hp
def Good (a:Hp) {β:Type} (f:β→Hp) (M:List β):Prop:=M ≠ []∧∀ b ∈ M,dB a (f b)
def bg (rec:oT→Option (List fP)):Prop:=∀ j L,rec j=some L→Good j.hp fP.hp L
theorem Good.one {a:Hp} {β:Type} {f:β→Hp} {b:β} (h:dB a (f b)):Good a f [b]:=⟨by simp,fun x hx=>by obtain rfl:=List.mem_singleton.1 hx;exact h⟩
theorem Good.bind {a:Hp} {α β:Type} {f:α→Hp} {f':β→Hp} {L:List α} {M:List β} {k:α→Option (List β)} (h:cz L k=some M) (hL:Good a f L) (hk:∀ x,∀ Mx,k x=some Mx→Good (f x) f' Mx):Good a f' M :=
 ⟨Aj h hL.1 fun x _ Mx hx=>(hk x Mx hx).1,fun b hb=>by
  obtain ⟨x,hx,Mx,h1,h2⟩:=fZ h b hb
  exact (hL.2 x hx).trans ((hk x Mx h1).2 b h2)⟩
theorem Good.map {a:Hp} {α β:Type} {f:α→Hp} {f':β→Hp} {L:List α} {k:α→β} (hL:Good a f L) (hk:∀ x,f' (k x)=f x):Good a f' (L.map k) :=
 ⟨by intro e;exact hL.1 (List.map_eq_nil_iff.1 e),fun b hb=>by
  obtain ⟨x,hx,rfl⟩:=List.mem_map.1 hb
  rw [hk];exact hL.2 x hx⟩
section
variable {T : bz} {rec : oT → Option (List fP)}
theorem pX (H:Hp) (g:Goal):(gI H g).hp=H:=by cases g <;> rfl
theorem Gd {it:Value} {g:aF} {L:List (Value × bN)} (h:pJ it g=some L):L ≠ []:=by
 have key:∀ {r m since last clock:Nat} {seen:List Nat} {es:List MapEntry},tA r m since seen last es clock=some L→L ≠ []:=by
  intro r m since last clock seen es h
  unfold tA at h
  cases hb:(!seen.isEmpty && !es.isEmpty && es.all (fun e=>Nat.ble last e.born)) with
  | true=>rw [hb] at h;cases h
  | false =>
   rw [hb] at h
   simp only [cond_false,Option.some.injEq] at h
   rw [←h]
   generalize (es.filter fun e=>!seen.contains e.born).filter (fun e=>decide (e.born < since))=old
   cases old with
   | nil=>simp
   | cons x l=>simp
 unfold pJ at h
 split at h
 ·split at h
  ·split at h
   ·exact key h
   ·cases h
  ·cases h
 ·cases h
theorem oX (hr:bg rec) {o:Op} {st:St} {L:List (Value × Hp)} (h:fy T rec o st=some L):Good st.hp (fun p=>p.2) L:=by
 unfold fy at h
 split at h
 ·rename_i f args _
  split at h
  ·rename_i g _
   cases hj:rec (gI st.hp g) with
   | none=>rw [hj] at h;cases h
   | some R =>
    rw [hj] at h
    have:=hr _ _ hj
    rw [pX] at this
    refine Good.bind h this fun x Mx hx=>?_
    cases x with
    | ret v hp=>simp only [valOf,Option.some.injEq] at hx;subst hx;exact .one (.refl _)
    | out e s=>cases hx
  ·cases h
 ·rename_i it _
  simp only [Option.map_eq_some_iff] at h
  obtain ⟨N,hN,rfl⟩:=h
  refine ⟨by intro e;exact Gd hN (List.map_eq_nil_iff.1 e),fun p hp=>?_⟩
  obtain ⟨⟨v,e⟩,hm,rfl⟩:=List.mem_map.1 hp
  exact dB.app _ _ (Ah hN _ hm)
 ·split at h
  ·rename_i hop
   simp only [Option.some.injEq] at h
   subst h
   exact .one (dB.app _ _ (pV hop).1)
  ·cases h
theorem iE (ops:List Oper) (st:St):bw T rec ops [] st=some [st]:=rfl
theorem dS (ops:List Oper) (o:Oper) (l:List Oper) (st:St):bw T rec ops (o :: l) st =
 cond (bf ops st.fr o.guard)
  (match fy T rec o.op st with
   | some L=>cz L fun p=>bw T rec ops l ⟨dm st.fr o.dst p.1,p.2,st.rd⟩
   | none=>none)
  (bw T rec ops l ⟨dm st.fr o.dst undef,st.hp,st.rd⟩):=rfl
theorem eO (hr:bg rec) (ops:List Oper):∀ (l:List Oper) (st:St) (L:List St),bw T rec ops l st=some L→Good st.hp St.hp L∧∀ s ∈ L,s.rd=st.rd:=by
 intro l
 induction l with
 | nil=>intro st L h;rw [iE] at h;cases h;exact ⟨.one (.refl _),by simp⟩
 | cons o l ih =>
  intro st L h
  rw [dS] at h
  cases hg:bf ops st.fr o.guard with
  | false=>rw [hg] at h;simp only [cond_false] at h;exact ih ⟨dm st.fr o.dst undef,st.hp,st.rd⟩ _ h
  | true =>
   rw [hg] at h
   simp only [cond_true] at h
   cases ha:fy T rec o.op st with
   | none=>rw [ha] at h;cases h
   | some A =>
    rw [ha] at h
    refine ⟨Good.bind h (oX hr ha) fun p Mx hx=>(ih _ _ hx).1,fun s hs=>?_⟩
    obtain ⟨p,_,Mx,h1,h2⟩:=fZ h s hs
    exact (ih _ _ h1).2 s h2
theorem cZ (ops:Array Oper) (i:Nat) (st:St) (acc:List Ev):bC T rec ops [] i st acc=cond (cE T ops acc) (some [st]) none:=rfl
theorem aK (ops:Array Oper) (o:Oper) (l:List Oper) (i:Nat) (st:St) (acc:List Ev):bC T rec ops (o :: l) i st acc =
 cond (bf ops.toList st.fr o.guard)
  (match aW T rec o.op i st with
   | some (v,hp,t)=>bC T rec ops l (i+1) ⟨dm st.fr o.dst v,hp,st.rd⟩ (⟨o,st,v,hp,t⟩ :: acc)
   | none=>none)
  (bC T rec ops l (i+1) ⟨dm st.fr o.dst undef,st.hp,st.rd⟩ (⟨o,st,undef,st.hp,⟨i,[],[],false,st.hp.n,st.hp.n⟩⟩ :: acc)):=rfl
theorem Ct {n lo k:Nat} (h:k ∈ OV n lo):lo≤k∧k < n:=by
 unfold OV at h
 cases hc:Nat.ble n lo with
 | true=>rw [hc] at h;cases h
 | false =>
  rw [hc] at h
  simp only [cond_false,List.mem_range'_1] at h
  omega
theorem J6 {n lo k:Nat} (h:k ∉ OV n lo) (hk:k < n):k < lo:=by
 unfold OV at h
 cases hc:Nat.ble n lo with
 | true=>have:=Nat.le_of_ble_eq_true hc;omega
 | false =>
  rw [hc] at h
  simp only [cond_false,List.mem_range'_1,not_and,Nat.not_lt] at h
  apply Nat.lt_of_not_le
  intro hle
  have:=h hle
  omega
theorem kU {i:Nat} {st:St} {v:Value} {hp:Hp} (h:Nat.ble st.hp.n hp.lo=true):iU i st v hp=(v,{hp with lo:=st.hp.lo},⟨i,[],[],true,st.hp.n,hp.n⟩):=by
 unfold iU OV
 rw [h]
 rfl
theorem tS {i:Nat} {st:St} {v:Value} {hp:Hp} (hk:dB {st.hp with lo:=st.hp.n} hp):dB st.hp (iU i st v hp).2.1:=by
 have hn:st.hp.n≤hp.n:=hk.n
 refine ⟨hn,?_,fun k hk1 hk2=>?_,hk.wf,hk.loop⟩
 ·show (bif Nat.ble st.hp.n hp.lo then st.hp.lo else min st.hp.lo hp.lo)≤st.hp.lo
  cases Nat.ble st.hp.n hp.lo with
  | true=>exact Nat.le_refl _
  | false=>exact Nat.min_le_left _ _
 ·refine hk.same k hk1 ?_
  have hk2:k < (bif Nat.ble st.hp.n hp.lo then st.hp.lo else min st.hp.lo hp.lo):=hk2
  cases hc:Nat.ble st.hp.n hp.lo with
  | true=>have:=Nat.le_of_ble_eq_true hc;omega
  | false=>rw [hc] at hk2;simp only [cond_false] at hk2;omega
theorem jY (hr:bg rec) {o:Op} {i:Nat} {st:St} {v:Value} {hp:Hp} {t:Tc} (h:aW T rec o i st=some (v,hp,t)):dB st.hp hp:=by
 unfold aW at h
 split at h
 ·split at h
  ·rename_i g _
   split at h
   ·rename_i v' hp' hj
    have e:=Option.some.inj h
    have:=hr _ _ hj
    rw [pX] at this
    have hk:dB st.hp (iU i st v' hp').2.1:=tS (this.2 _ (List.mem_singleton.2 rfl))
    rw [e] at hk
    exact hk
   ·cases h
  ·cases h
 ·cases h
 ·split at h
  ·rename_i hop
   simp only [Option.some.injEq,Prod.mk.injEq] at h
   obtain ⟨_,rfl,_⟩:=h
   exact dB.app _ _ (pV hop).1
  ·cases h
theorem oB (hr:bg rec) (ops:Array Oper):∀ (l:List Oper) (i:Nat) (st:St) (acc:List Ev) (L:List St),bC T rec ops l i st acc=some L→Good st.hp St.hp L∧∀ s ∈ L,s.rd=st.rd:=by
 intro l
 induction l with
 | nil =>
  intro i st acc L h
  rw [cZ] at h
  cases hc:cE T ops acc with
  | false=>rw [hc] at h;cases h
  | true=>rw [hc] at h;simp at h;subst h;exact ⟨.one (.refl _),by simp⟩
 | cons o l ih =>
  intro i st acc L h
  rw [aK] at h
  cases hg:bf ops.toList st.fr o.guard with
  | false=>rw [hg] at h;simp only [cond_false] at h;exact ih _ ⟨dm st.fr o.dst undef,st.hp,st.rd⟩ _ _ h
  | true =>
   rw [hg] at h
   simp only [cond_true] at h
   cases ha:aW T rec o.op i st with
   | none=>rw [ha] at h;cases h
   | some p =>
    obtain ⟨v,hp,t⟩:=p
    rw [ha] at h
    have:=ih _ _ _ _ h
    have hk:=jY hr ha
    exact ⟨⟨this.1.1,fun s hs=>hk.trans (this.1.2 s hs)⟩,this.2⟩
theorem tT (st:St):bl T rec .skip st=some [(.normal,st)]:=rfl
theorem si (l:Nat) (st:St):bl T rec (.label l) st=some [(.normal,st)]:=rfl
theorem kL {ops:Array Oper} {st:St} {L:List St} (h:bL T rec ops st=some L):(∃ c,sM ops=some c∧DP T rec ops c st=some L)∨(sM ops=none∧∃ M,bC T rec ops (ops.toList.take (eM ops)) 0 st []=some M∧cz M (bw T rec ops.toList (ops.toList.drop (eM ops)))=some L):=by
 unfold bL at h
 split at h
 ·exact .inl ⟨_,by assumption,h⟩
 ·refine .inr ⟨by assumption,?_⟩
  split at h
  ·exact ⟨_,by assumption,h⟩
  ·cases h
theorem we (ops:Array Oper) (K:St→List Ev→Option (List St)) (i:Nat) (st:St) (acc:List Ev):ek T rec ops [] K i st acc=K st acc:=rfl
theorem ey (ops:Array Oper) (K:St→List Ev→Option (List St)) (o:Oper) (l:List Oper) (i:Nat) (st:St) (acc:List Ev):ek T rec ops (o :: l) K i st acc =
 cond (bf ops.toList st.fr o.guard)
  (match aW T rec o.op i st with
   | some (v,hp,t)=>ek T rec ops l K (i+1) ⟨dm st.fr o.dst v,hp,st.rd⟩ (⟨o,st,v,hp,t⟩ :: acc)
   | none=>none)
  (ek T rec ops l K (i+1) ⟨dm st.fr o.dst undef,st.hp,st.rd⟩ (⟨o,st,undef,st.hp,⟨i,[],[],false,st.hp.n,st.hp.n⟩⟩ :: acc)):=rfl
theorem tU (hr:bg rec) (ops:Array Oper) (K:St→List Ev→Option (List St)):∀ (l:List Oper) (i:Nat) (st:St) (acc:List Ev) (L:List St),ek T rec ops l K i st acc=some L→∃ st' acc',dB st.hp st'.hp∧st'.rd=st.rd∧K st' acc'=some L:=by
 intro l
 induction l with
 | nil=>intro i st acc L h;exact ⟨st,acc,.refl _,rfl,h⟩
 | cons o l ih =>
  intro i st acc L h
  rw [ey] at h
  cases hg:bf ops.toList st.fr o.guard with
  | false=>rw [hg] at h;simp only [cond_false] at h;exact ih _ ⟨dm st.fr o.dst undef,st.hp,st.rd⟩ _ _ h
  | true =>
   rw [hg] at h
   simp only [cond_true] at h
   cases ha:aW T rec o.op i st with
   | none=>rw [ha] at h;cases h
   | some p =>
    obtain ⟨v,hp,t⟩:=p
    rw [ha] at h
    obtain ⟨st',acc',h1,h2,h3⟩:=ih _ _ _ _ h
    exact ⟨st',acc',(jY hr ha).trans h1,h2,h3⟩
theorem gp {i:Nat} {st:St} {r:fP} {P:List (Value × Hp × Tc)} (h:tD i st r=some P):∃ v hp,r=.ret v hp∧P=[iU i st v hp]:=by
 cases r with
 | ret v hp=>exact ⟨v,hp,rfl,(Option.some.inj h).symm⟩
 | out e s=>cases h
theorem wg (hr:bg rec) {o:Op} {i:Nat} {st:St} {P:List (Value × Hp × Tc)} (h:dQ T rec o i st=some P):Good st.hp (fun p=>p.2.1) P:=by
 unfold dQ at h
 split at h
 ·split at h
  ·rename_i g _
   split at h
   ·rename_i R hj
    have:=hr _ _ hj
    rw [pX] at this
    refine ⟨Aj h this.1 fun r _ Pr hp=>?_,fun p hp=>?_⟩
    ·obtain ⟨v,hp,_,rfl⟩:=gp hp
     simp
    ·obtain ⟨r,hrm,Pr,h1,h2⟩:=fZ h p hp
     obtain ⟨v,hp',rfl,rfl⟩:=gp h1
     obtain rfl:=List.mem_singleton.1 h2
     exact tS (this.2 _ hrm)
   ·cases h
  ·cases h
 ·cases h
theorem tV (hr:bg rec) {ops:Array Oper} {o:Oper} {i:Nat} {st:St} {P:List (Value × Hp × Tc)} (h:iA T rec ops o i st=some P):Good st.hp (fun p=>p.2.1) P:=by
 unfold iA at h
 cases hg:bf ops.toList st.fr o.guard with
 | true =>
  rw [hg] at h
  exact wg hr h
 | false =>
  rw [hg] at h
  simp only [cond_false,Option.some.injEq] at h
  subst h
  exact ⟨by simp,fun p hp=>by rw [List.mem_singleton.1 hp];exact .refl _⟩
theorem oY {ops:Array Oper} {c:Nat} {st:St} {acc:List Ev} {L:List St} (h:pM T rec ops c st acc=some L):∃ o P,ops.toList[c]?=some o∧iA T rec ops o c st=some P∧(∀ p ∈ P,cE T ops (⟨o,st,p.1,p.2.1,p.2.2⟩ :: acc)=true)∧(cz P fun p=>bw T rec ops.toList (ops.toList.drop (c+1)) ⟨dm st.fr o.dst p.1,p.2.1,st.rd⟩)=some L:=by
 unfold pM at h
 split at h
 ·rename_i o ho
  split at h
  ·rename_i P hP
   cases hq:P.all fun p=>cE T ops (⟨o,st,p.1,p.2.1,p.2.2⟩ :: acc) with
   | false=>rw [hq] at h;cases h
   | true =>
    rw [hq] at h
    exact ⟨o,P,ho,hP,List.all_eq_true.1 hq,h⟩
  ·cases h
 ·cases h
theorem Cu (hr:bg rec) (ops:Array Oper) (c:Nat) (st:St) (L:List St) (h:DP T rec ops c st=some L):Good st.hp St.hp L:=by
 obtain ⟨st',acc',h1,h2,h3⟩:=tU hr _ _ _ _ _ _ _ h
 obtain ⟨o,P,_,hP,_,hL⟩:=oY h3
 have hg:=tV hr hP
 have hg':Good st.hp (fun p:Value × Hp × Tc=>p.2.1) P:=⟨hg.1,fun p hp=>h1.trans (hg.2 p hp)⟩
 exact Good.bind hL hg' fun p Mx hx=>(eO hr _ _ _ _ hx).1
theorem wh (hr:bg rec) (ops:Array Oper) (st:St) (L:List St) (h:bL T rec ops st=some L):Good st.hp St.hp L:=by
 rcases kL h with ⟨c,_,h⟩|⟨_,M,h1,h2⟩
 ·exact Cu hr _ _ _ _ h
 ·exact Good.bind h2 (oB hr _ _ _ _ _ _ h1).1 fun x Mx hx=>(eO hr _ _ _ _ hx).1
theorem dc (id:Nat) (ops:Array Oper) (draw:Bool) (st:St):bl T rec (.region id ops draw) st =
 match cond draw (bL T rec ops st) (bw T rec ops.toList ops.toList st) with
  | some L=>some (L.map fun s=>(.normal,s))
  | none=>none:=rfl
theorem nM (a b:Code) (st:St):bl T rec (.seq a b) st=match bl T rec a st with
 | some L=>cz L (tE (bl T rec b))
 | none=>none:=rfl
theorem ju (c:Operand) (a b:Code) (st:St):bl T rec (.cond c a b) st=match aP st.fr c with
 | .bool t=>cond t (bl T rec a st) (bl T rec b st)
 | _=>none:=rfl
theorem jZ (id:Nat) (c:Code) (st:St):bl T rec (.block id c) st=match bl T rec c st with
 | some L=>some (L.map (fL id))
 | none=>none:=rfl
theorem lN (c:Code) (st:St):bl T rec (.loop c) st=match rec (.loop c st) with
 | some L=>cz L zV
 | none=>none:=rfl
theorem tW (id:Nat) (st:St):bl T rec (.exit id) st=some [(.exit id,st)]:=rfl
theorem w7 (st:St):bl T rec .ret st=some [(.ret,st)]:=rfl
theorem j5 (f:Operand) (ps:Array Tmp) (a b:Code) (st:St):bl T rec (.rangeFunc f ps a b) st=lG rec f ps a b st:=rfl
theorem j6 (c:Code) (st:St):bl T rec (.scope c) st=tF (bl T rec c st):=rfl
theorem mX {o:Option (List (Exit × St))} {L:List (Exit × St)} (h:tF o=some L):o=some L∧∀ p ∈ L,∀ l,p.1 ≠ .goto l:=by
 unfold tF at h
 split at h
 ·rename_i M
  cases hb:M.all noGoto with
  | false=>rw [hb] at h;cases h
  | true =>
   rw [hb] at h
   simp only [cond_true,Option.some.injEq] at h
   subst h
   refine ⟨rfl,fun p hp l e=>?_⟩
   have:=List.all_eq_true.1 hb p hp
   unfold noGoto at this
   rw [e] at this
   cases this
 ·cases h
theorem tX (l:Nat) (st:St):bl T rec (.goto l) st=none:=rfl
theorem pY (y:String) (st:St):bl T rec (.refuse y) st=none:=rfl
theorem kM {l : Nat} {fr : Tr Value} {rd : Bool} {r : fP} {M : List (Exit × St)} (h : iB l fr rd r = some M) :
    ∃ v hp s pend fr0 ps as bd, r = .ret v hp ∧ hp.get l = some (.loop s pend fr0 ps as bd) ∧ s ≠ .busy ∧
      ((pend = none ∧ M = [(.normal, ⟨fr, hp.put l (.loop .exhausted pend fr0 ps as bd), rd⟩)]) ∨ (pend = some .ret ∧ M = [(.ret, ⟨fr, hp.put l (.loop .exhausted pend fr0 ps as bd), rd⟩)]) ∨
        ∃ id, pend = some (.exit id) ∧ M = [(.exit id, ⟨fr, hp.put l (.loop .exhausted pend fr0 ps as bd), rd⟩)]) := by
  cases r with
  | out e s => cases h
  | ret v hp =>
    unfold iB at h
    simp only at h
    split at h
    · rename_i s pend fr0 ps as bd hl
      refine ⟨v, hp, s, pend, fr0, ps, as, bd, rfl, hl, ?_⟩
      have hs : s ≠ .busy := fun e => by subst e; simp at h
      refine ⟨hs, ?_⟩
      cases pend with
      | none => cases s <;> simp at h hs ⊢ <;> exact h.symm
      | some c =>
        cases c with
        | ret => refine .inr (.inl ⟨rfl, ?_⟩); cases s <;> simp at h hs ⊢ <;> exact h.symm
        | exit id => refine .inr (.inr ⟨id, rfl, ?_⟩); cases s <;> simp at h hs ⊢ <;> exact h.symm
        | _ => cases s <;> simp at h
    · cases h
theorem gZ (hr:bg rec):∀ (c:Code) (st:St) (L:List (Exit × St)),bl T rec c st=some L→Good st.hp (fun p=>p.2.hp) L:=by
 intro c
 induction c with
 | skip=>intro st L h;rw [tT] at h;cases h;exact .one (.refl _)
 | label l=>intro st L h;rw [si] at h;cases h;exact .one (.refl _)
 | exit id=>intro st L h;rw [tW] at h;cases h;exact .one (.refl _)
 | ret=>intro st L h;rw [w7] at h;cases h;exact .one (.refl _)
 | scope c ih=>intro st L h;rw [j6] at h;exact ih st L (mX h).1
 | goto l=>intro st L h;rw [tX] at h;cases h
 | refuse y=>intro st L h;rw [pY] at h;cases h
 | region id ops draw =>
  intro st L h
  rw [dc] at h
  cases draw with
  | true =>
   simp only [cond_true] at h
   cases hx:bL T rec ops st with
   | none=>rw [hx] at h;cases h
   | some R=>rw [hx] at h;simp only [Option.some.injEq] at h;subst h;exact (wh hr _ _ _ hx).map fun _=>rfl
  | false =>
   simp only [cond_false] at h
   cases hx:bw T rec ops.toList ops.toList st with
   | none=>rw [hx] at h;cases h
   | some R=>rw [hx] at h;simp only [Option.some.injEq] at h;subst h;exact (eO hr _ _ _ _ hx).1.map fun _=>rfl
 | seq a b iha ihb =>
  intro st L h
  rw [nM] at h
  cases hx:bl T rec a st with
  | none=>rw [hx] at h;cases h
  | some R =>
   rw [hx] at h
   refine Good.bind h (iha _ _ hx) fun p Mx hp=>?_
   unfold tE at hp
   split at hp
   ·exact ihb _ _ hp
   ·simp only [Option.some.injEq] at hp;subst hp;exact .one (.refl _)
 | cond c a b iha ihb =>
  intro st L h
  rw [ju] at h
  split at h
  ·rename_i t _
   cases t with
   | true=>exact iha _ _ h
   | false=>exact ihb _ _ h
  ·cases h
 | block id c ih =>
  intro st L h
  rw [jZ] at h
  cases hx:bl T rec c st with
  | none=>rw [hx] at h;cases h
  | some R =>
   rw [hx] at h
   simp only [Option.some.injEq] at h
   subst h
   refine (ih _ _ hx).map fun p=>?_
   unfold fL
   split <;> rfl
 | loop c _ =>
  intro st L h
  rw [lN] at h
  cases hx:rec (.loop c st) with
  | none=>rw [hx] at h;cases h
  | some R =>
   rw [hx] at h
   refine Good.bind h (hr _ _ hx) fun p Mx hp=>?_
   cases p with
   | ret=>cases hp
   | out e s=>simp only [zV,Option.some.injEq] at hp;subst hp;exact .one (.refl _)
 | rangeFunc f ps a b _ _ =>
  intro st L h
  rw [j5] at h
  unfold lG at h
  split at h
  ·rename_i g args _
   cases hx:rec (.call g args (st.hp.push (.loop .ready none st.fr ps a b))) with
   | none=>rw [hx] at h;cases h
   | some R =>
    rw [hx] at h
    have hk:=hr _ _ hx
    have hk':Good st.hp fP.hp R:=⟨hk.1,fun r hr'=>(dB.push _ _).trans (hk.2 r hr')⟩
    refine Good.bind h hk' fun p Mx hp=>?_
    obtain ⟨v,hp2,s,pend,fr0,ps',as',bd',rfl,hgt,_,h1|h1|⟨_,h1⟩⟩:=kM hp <;> (obtain ⟨_,rfl⟩:=h1;exact .one (dB.put hp2 _ _ (by rw [hgt];simp) (fun _=>rfl)))
  ·cases h
theorem jv (f:FuncId) (args:List Value) (hp:Hp):gJ T rec (.call f args hp)=match T.fn.get f with
 | some fn=>match fn.body with
  | some c=>match bl T rec c ⟨setArgs .leaf 0 args,hp,false⟩ with
   | some L=>cz L (eN T fn.results.toList)
   | none=>none
  | none=>none
 | none=>none:=rfl
theorem mY (l:Nat) (args:List Value) (hp:Hp):gJ T rec (.round l args hp)=match hp.get l with
 | some (.loop .ready _ fr ps as bd)=>cond (Nat.beq args.length ps.toList.length)
  (match bl T rec as ⟨eo fr (ps.toList.zip args),hp,true⟩ with
  | some L=>cz L (cA T rec l bd)
  | none=>none) none
 | _=>none:=rfl
theorem oZ (c:Code) (st:St):gJ T rec (.loop c st)=match bl T rec c st with
 | some L=>cz L (eu rec c)
 | none=>none:=rfl
theorem lO {rs:List ResultVar} {p:Exit × St} {M:List fP} (h:eN T rs p=some M):(p.1=.normal∨p.1=.ret)∧∃ vs,jW T p.2.fr p.2.hp rs=some vs∧M=[.ret (cJ vs) p.2.hp]:=by
 obtain ⟨e,s⟩:=p
 unfold eN at h
 cases e with
 | normal=>simp only [Option.map_eq_some_iff] at h;obtain ⟨vs,a,b⟩:=h;exact ⟨.inl rfl,vs,a,b.symm⟩
 | ret=>simp only [Option.map_eq_some_iff] at h;obtain ⟨vs,a,b⟩:=h;exact ⟨.inr rfl,vs,a,b.symm⟩
 | _=>simp at h
theorem jw {l : Nat} {p : Exit × St} {M : List fP} (h : fM l p = some M) : ∃ st pend fr ps as bd, p.2.hp.get l = some (.loop st pend fr ps as bd) ∧
    ((p.1 = .normal ∧ M = [.ret (.bool true) (p.2.hp.put l (.loop .ready none fr ps as bd))]) ∨
     (p.1 = .ret ∧ M = [.ret (.bool false) (p.2.hp.put l (.loop .done (some .ret) fr ps as bd))]) ∨
     ∃ id, p.1 = .exit id ∧ M = [.ret (.bool false) (p.2.hp.put l (.loop .done (some (.exit id)) fr ps as bd))]) := by
  obtain ⟨e, s⟩ := p
  unfold fM at h
  simp only at h
  split at h
  · rename_i st pend fr ps as bd hl
    refine ⟨st, pend, fr, ps, as, bd, hl, ?_⟩
    cases e with
    | normal => simp only [Option.some.injEq] at h; exact .inl ⟨rfl, h.symm⟩
    | ret => simp only [Option.some.injEq] at h; exact .inr (.inl ⟨rfl, h.symm⟩)
    | exit id => simp only [Option.some.injEq] at h; exact .inr (.inr ⟨id, rfl, h.symm⟩)
    | _ => simp at h
  · cases h
theorem hG {l:Nat} {body:Code} {p:Exit × St} {M:List fP} (h:cA T rec l body p=some M):p.1=.normal∧∃ pend fr ps as bd R,p.2.hp.get l=some (.loop .ready pend fr ps as bd) ∧
  bl T rec body ⟨p.2.fr,p.2.hp.put l (.loop .busy pend fr ps as bd),true⟩=some R∧cz R (fM l)=some M:=by
 obtain ⟨e,s⟩:=p
 unfold cA at h
 have he:e=.normal:=by cases e <;> first|rfl|simp at h
 subst he
 simp only at h
 split at h
 ·rename_i pend fr ps as bd hl
  cases hy:bl T rec body ⟨s.fr,s.hp.put l (.loop .busy pend fr ps as bd),true⟩ with
  | none=>rw [hy] at h;cases h
  | some R=>rw [hy] at h;exact ⟨rfl,pend,fr,ps,as,bd,R,hl,hy,h⟩
 ·cases h
theorem mF {f:FuncId} {args:List Value} {hp:Hp} {L:List fP} (h:gJ T rec (.call f args hp)=some L) :
  ∃ fn c R,T.fn.get f=some fn∧fn.body=some c∧bl T rec c ⟨setArgs .leaf 0 args,hp,false⟩=some R∧cz R (eN T fn.results.toList)=some L:=by
 rw [jv] at h
 cases hf:T.fn.get f with
 | none=>rw [hf] at h;cases h
 | some fn =>
  rw [hf] at h
  simp only at h
  cases hb:fn.body with
  | none=>rw [hb] at h;cases h
  | some c =>
   rw [hb] at h
   simp only at h
   cases hx:bl T rec c ⟨setArgs .leaf 0 args,hp,false⟩ with
   | none=>rw [hx] at h;cases h
   | some R=>rw [hx] at h;exact ⟨fn,c,R,rfl,hb,hx,h⟩
theorem kV {l:Nat} {args:List Value} {hp:Hp} {L:List fP} (h:gJ T rec (.round l args hp)=some L) :
  ∃ pend fr ps as bd R,hp.get l=some (.loop .ready pend fr ps as bd)∧args.length=ps.size∧bl T rec as ⟨eo fr (ps.toList.zip args),hp,true⟩=some R∧cz R (cA T rec l bd)=some L:=by
 rw [mY] at h
 split at h
 ·rename_i pend fr ps as bd hl
  cases hlen:Nat.beq args.length ps.toList.length with
  | false=>rw [hlen] at h;cases h
  | true =>
   rw [hlen] at h
   simp only [cond_true] at h
   cases hx:bl T rec as ⟨eo fr (ps.toList.zip args),hp,true⟩ with
   | none=>rw [hx] at h;cases h
   | some R=>rw [hx] at h;exact ⟨pend,fr,ps,as,bd,R,hl,by simpa using Nat.eq_of_beq_eq_true hlen,hx,h⟩
 ·cases h
theorem mG {c:Code} {st:St} {L:List fP} (h:gJ T rec (.loop c st)=some L):∃ R,bl T rec c st=some R∧cz R (eu rec c)=some L:=by
 rw [oZ] at h
 cases hx:bl T rec c st with
 | none=>rw [hx] at h;cases h
 | some R=>rw [hx] at h;exact ⟨R,rfl,h⟩
theorem jx {c:Code} {p:Exit × St} {M:List fP} (h:eu rec c p=some M):(p.1=.normal∧rec (.loop c p.2)=some M)∨(p.1 ≠ .normal∧M=[.out p.1 p.2]):=by
 obtain ⟨e,s⟩:=p
 unfold eu at h
 cases e <;> simp only [Option.some.injEq] at h <;> first
  | exact .inl ⟨rfl,h⟩
  | exact .inr ⟨by simp,h.symm⟩
theorem Cv (hr:bg rec):bg (gJ T rec):=by
 intro j L h
 cases j with
 | call f args hp =>
  obtain ⟨fn,c,R,_,_,hx,h⟩:=mF h
  refine Good.bind h (gZ hr _ _ _ hx) fun p Mx hq=>?_
  obtain ⟨_,vs,_,rfl⟩:=lO hq
  exact .one (.refl _)
 | round l args hp =>
  obtain ⟨pend,fr,ps,as,bd,R,_,_,hx,h⟩:=kV h
  refine Good.bind h (gZ hr _ _ _ hx) fun p Mx hq=>?_
  obtain ⟨_,pend',fr',ps',as',bd',R2,hgt,hy,hz⟩:=hG hq
  have hk:=gZ hr _ _ _ hy
  have hk':Good p.2.hp (fun q=>q.2.hp) R2:=⟨hk.1,fun r hr'=>(dB.put p.2.hp _ _ (by rw [hgt];simp) (fun _=>rfl)).trans (hk.2 r hr')⟩
  refine Good.bind hz hk' fun q My hw=>?_
  obtain ⟨_,_,_,_,_,_,hgt2,h1|h1|⟨_,h1⟩⟩:=jw hw <;> (obtain ⟨_,rfl⟩:=h1;exact .one (dB.put q.2.hp _ _ (by rw [hgt2];simp) (fun _=>rfl)))
 | loop c st =>
  obtain ⟨R,hx,h⟩:=mG h
  refine Good.bind h (gZ hr _ _ _ hx) fun p Mx hq=>?_
  rcases jx hq with ⟨_,h1⟩|⟨_,rfl⟩
  ·exact hr _ _ h1
  ·exact .one (.refl _)
end
end Go.RM
namespace Go.RM
open Go
theorem sj:∀ {l m:List UInt8},pK l m=true→l=m
 | [],[],_=>rfl
 | a :: l,b :: m,h=>by
  simp only [pK,Bool.and_eq_true] at h
  rw [sj h.2,UInt8.toNat_inj.1 (Nat.eq_of_beq_eq_true h.1)]
 | [],_ :: _,h=>by cases h
 | _ :: _,[],h=>by cases h
theorem Ge {a b:Int} (h:Cg a b=true):a=b:=by
 cases a <;> cases b <;> simp only [Cg,Bool.false_eq_true] at h
 ·rw [Nat.eq_of_beq_eq_true h]
 ·rw [Nat.eq_of_beq_eq_true h]
theorem yD {p v:Value} (h:Ch p v=true):p=v∧aV v=true:=by
 unfold Ch at h
 split at h
 ·simp at h;subst h;exact ⟨rfl,rfl⟩
 ·simp only [Bool.and_eq_true,beq_iff_eq] at h;obtain ⟨rfl,h⟩:=h;rw [Ge h];exact ⟨rfl,rfl⟩
 ·rename_i s t
  have:=sj h
  have e:s=t:=by
   cases s;cases t
   simp only at this
   rw [Array.toList_inj.1 this]
  rw [e];exact ⟨rfl,rfl⟩
 ·exact ⟨rfl,rfl⟩
 ·exact ⟨rfl,rfl⟩
 ·exact ⟨rfl,rfl⟩
 ·exact ⟨rfl,rfl⟩
 ·exact ⟨rfl,rfl⟩
 ·cases h
abbrev FW (r:Option Nat):Fence:={fn:=fun _=>True,depth:=none,alive:=false,round:=r}
def eH (γ:Gm) (a N:Nat):Prop:=∀ k,a≤k→k < N→γ.loc k=none
structure Step (γ:Gm) (H:Hp) (w:World) (γ':Gm) (H':Hp) (w':World):Prop where
 n:H.n≤H'.n
 le:γ.Le γ'
 out:∀ k,(k < H.n∨H'.n≤k)→γ'.loc k=γ.loc k
 hr:HR γ' H'.get w'
 gQ:jg γ H.get w γ' H'.get w'
section
variable {T : bz} {γ γ' γ1 γ2 : Gm} {H H' H1 H2 : Hp} {w w' w1 w2 : World} {N : Nat}
theorem Step.refl (h:HR γ H.get w):Step γ H w γ H w:=⟨Nat.le_refl _,Gm.Le.refl γ,fun _ _=>rfl,h,jg.refl _ _ _⟩
theorem Step.trans (a:Step γ H w γ1 H1 w1) (b:Step γ1 H1 w1 γ2 H2 w2):Step γ H w γ2 H2 w2 :=
 ⟨Nat.le_trans a.n b.n,a.le.trans b.le,fun k hk=>by
  have h1:=a.n
  have h2:=b.n
  rw [b.out k (by omega),a.out k (by omega)],b.hr,a.gQ.trans b.gQ⟩
theorem Step.fresh (a:Step γ H w γ1 H1 w1) (h:eH γ H.n N):eH γ1 H1.n N:=fun k h1 h2=>by
 rw [a.out k (.inr h1)]
 exact h k (Nat.le_trans a.n h1) h2
theorem HR.off {g:aF} (h:HR γ g w) (hs:w.heap.size≤w'.heap.size) (hh:∀ k b o,γ.loc k=some (b,o)→w'.heap[b]?=w.heap[b]?) (hg:∀ b,b < γ.B→w'.heap[b]?=w.heap[b]?):HR γ g w' :=
 ⟨fun k b o a ha hl=>(h.fQ k b o a ha hl).mono (Gm.Le.refl γ) hl (hh k b o hl),h.inj,fun k b o hl=>Nat.lt_of_lt_of_le (h.lt k b o hl) hs,Nat.le_trans h.base hs,fun x hx=>⟨(h.gl x hx).1,by rw [hg _ (h.gl x hx).1];exact (h.gl x hx).2⟩⟩
theorem jg.off {g g':aF} (u:jg γ g w γ' g' w1) (h1:w2.os=w1.os) (h2:w2.tape=w1.tape) (h3:w2.output=w1.output) (hs:w1.heap.size≤w2.heap.size)
  (hh:∀ b,b < w.heap.size→w2.heap[b]?=w1.heap[b]?):jg γ g w γ' g' w2 :=
 ⟨h1.trans u.os,h2.trans u.tape,h3.trans u.output,Nat.le_trans u.size hs,fun b hb hn=>(hh b hb).trans (u.same b hb hn),u.sg,u.live,u.qS⟩
theorem oC (e:bN):(H.app e).n=if e.news=true then H.n+1 else H.n:=by cases e <;> rfl
theorem aT.step {s:Sem Next} {v:Value} {e:bN} (h:aT T.P γ H.get w H.n s v e) :
  ∃ v' w' γ',(s.run T.P w=.ok (.value v') w'∨(s.run T.P w=.ok .skip w'∧v'=undef))∧VR γ' v v'∧Step γ H w γ' (H.app e) w':=by
 obtain ⟨v',w',γ',h1,h2,h3,h4,h5,h6⟩:=h
 refine ⟨v',w',γ',h1,h5,?_,h2,fun k hk=>h3 k fun e'=>?_,by rw [Hp.yh];exact h4,by rw [Hp.yh];exact h6⟩
 ·rw [oC];split <;> omega
 ·rw [oC] at hk
  subst e'
  cases hn:e.news with
  | false=>rfl
  | true=>rw [hn] at hk;simp at hk;omega
def yE (γ:Gm) (w:World) (N0:Nat) (ds:List Deferred):Prop :=
 ∃ rs:List Nat,ds=rs.map (fun r=>{target:=.collected r,args:=#[]})∧rs.Nodup∧∀ r ∈ rs,N0≤r∧w.heap[r]?=some (.deferred (some []))∧∀ k o,γ.loc k ≠ some (r,o)
theorem yE.nil (γ:Gm) (w:World) (N0:Nat):yE γ w N0 []:=⟨[],rfl,List.nodup_nil,fun r hr=>by cases hr⟩
theorem yE.step {N0:Nat} {ds:List Deferred} (h:yE γ w N0 ds) (s:Step γ H w γ' H' w'):yE γ' w' N0 ds:=by
 obtain ⟨rs,h1,h2,h3⟩:=h
 refine ⟨rs,h1,h2,fun r hr=>?_⟩
 obtain ⟨a,b,c⟩:=h3 r hr
 have hlt:r < w.heap.size:=(Array.getElem?_eq_some_iff.1 b).1
 refine ⟨a,(s.gQ.same r hlt fun k o _ _ _ hl=>c k o hl).trans b,fun k o hl=>?_⟩
 obtain ⟨k0,o0,hl0⟩:=s.gQ.qS k r o hl hlt
 exact c k0 o0 hl0
theorem Gf {fr:Tr Value} {a:Act} (h:vQ γ fr a.tmps) {x:Operand} (hx:rZ x=true):VR γ (aP fr x) (a.eval x):=by
 cases x with
 | tmp t=>exact h t
 | const v=>exact VR.of_flat hx
 | global g=>cases hx
 | func f=>exact .func rfl rfl (fun i a _=>absurd a (by simp)) (fun i a _=>absurd a (by simp))
theorem Ak {tm:Array Value} {d i:Nat} {v:Value} (hd:d < tm.size):(tm.setIfInBounds d v).getD i undef=if i=d then v else tm.getD i undef:=by
 simp only [Array.getD_eq_getD_getElem?,Array.getElem?_setIfInBounds]
 by_cases h:i=d
 ·subst h;simp [hd]
 ·simp [h,Ne.symm h]
theorem vQ.set {fr:Tr Value} {tm:Array Value} (h:vQ γ fr tm) {v v':Value} (hv:VR γ v v') {d:Nat} (hd:d < tm.size):vQ γ (fr.set d v) (tm.setIfInBounds d v'):=by
 intro i
 rw [Tr.ig,Ak hd]
 by_cases hi:i=d
 ·rw [if_pos hi,if_pos hi];exact hv
 ·rw [if_neg hi,if_neg hi];exact h i
theorem vQ.put {fr:Tr Value} {a:Act} (h:vQ γ fr a.tmps) {v v':Value} (hv:VR γ v v') {dst:Option Tmp} (hd:∀ d,dst=some d→d < a.tmps.size):vQ γ (dm fr dst v) (a.put dst v').tmps:=by
 cases dst with
 | none=>exact h
 | some d=>exact h.set hv (hd d rfl)
theorem iF (a:Act) (dst:Option Tmp) (v:Value):(a.put dst v).tmps.size=a.tmps.size:=by cases dst <;> simp [Act.put]
theorem put_defers (a:Act) (dst:Option Tmp) (v:Value):(a.put dst v).defers=a.defers:=by cases dst <;> rfl
theorem VR.Al {v:Value} {b:Bool} (h:VR γ v (.bool b)):v=.bool b:=by cases h with|flat=>rfl
theorem yF {fr:Tr Value} {tm:Array Value} (ops:Array Oper) (o:Oper) (h:∀ g want q d,o.guard=some (g,want)→ops[g]?=some q→q.dst=some d→VR γ ((fr.get d).getD undef) (tm.getD d undef)):Region.wanted o (yielded ops tm)=bf ops.toList fr o.guard:=by
 unfold Region.wanted bf
 cases hgu:o.guard with
 | none=>rfl
 | some p =>
  obtain ⟨j,want⟩:=p
  simp only [yielded,Array.getElem?_toList]
  cases hoq:ops[j]? with
  | none=>rfl
  | some q =>
   obtain ⟨dst,op,ty,pos,after,guard⟩:=q
   cases dst with
   | none=>rfl
   | some d =>
    simp only [Option.bind_some]
    have hd:=h j want _ d hgu hoq rfl
    rw [Array.getD_eq_getD_getElem?] at hd
    cases hf:fr.get d with
    | none =>
     rw [hf] at hd
     simp only
     cases ht:tm[d]? with
     | none=>rfl
     | some u =>
      rw [ht] at hd
      simp at hd
      cases u <;> first|rfl|skip
      have:=hd.Al
      cases this
    | some x =>
     rw [hf] at hd
     simp at hd
     cases x with
     | bool b =>
      have:=hd.cy rfl
      cases ht:tm[d]? with
      | none=>rw [ht] at this;cases this
      | some u =>
       rw [ht] at this
       simp at this
       subst this
       cases b <;> cases want <;> rfl
     | _ =>
      cases ht:tm[d]? with
      | none=>rfl
      | some u =>
       rw [ht] at hd
       simp at hd
       cases u <;> first|rfl|(have:=hd.Al;cases this)
theorem Gg {fr:Tr Value} {tm:Array Value} (h:vQ γ fr tm) (ops:Array Oper) (o:Oper):Region.wanted o (yielded ops tm)=bf ops.toList fr o.guard :=
 yF ops o fun _ _ _ d _ _ _=>h d
theorem sk:∀ (l:List Value) (t:Tr Value) (i j:Nat),(setArgs t i l).get j=if i≤j∧j < i+l.length then l[j - i]? else t.get j:=by
 intro l
 induction l with
 | nil=>intro t i j;simp [setArgs];intro h1 h2;omega
 | cons v vs ih =>
  intro t i j
  rw [setArgs,ih,Tr.ig]
  simp only [List.length_cons]
  by_cases hj:j=i
  ·subst hj;simp;omega
  ·by_cases h:i≤j∧j < i+(vs.length+1)
   ·rw [if_pos h,if_pos (by omega)]
    obtain ⟨q,rfl⟩:∃ q,j=i+1+q:=⟨j - (i+1),by omega⟩
    rw [show i+1+q - (i+1)=q by omega,show i+1+q - i=q+1 by omega]
    rfl
   ·rw [if_neg h,if_neg (by omega),if_neg hj]
theorem vQ.args {args args':List Value} (h:bQ γ args args') (n:Nat):vQ γ (setArgs .leaf 0 args) (args'.toArray++Array.replicate n undef):=by
 intro i
 rw [sk,Array.getD_eq_getD_getElem?,Array.getElem?_append]
 have hl:=h.1
 by_cases hi:i < args.length
 ·rw [if_pos ⟨Nat.zero_le _,by omega⟩,if_pos (by simp;omega)]
  have h1:args[i]?=some (args[i]'hi):=List.getElem?_eq_getElem hi
  obtain ⟨v',e1,e2⟩:=h.get h1
  simp only [Nat.sub_zero,h1,Option.getD_some,List.getElem?_toArray,e1]
  exact e2
 ·rw [if_neg (by omega),if_neg (by simp;omega)]
  have:(Array.replicate n undef)[i - args'.toArray.size]?.getD undef=undef:=by
   rw [Array.getElem?_replicate];split <;> rfl
  rw [this]
  exact VR.undef γ
theorem Am:∀ (l:List (Tmp × Value)) (l':List (Tmp × Value)) (fr:Tr Value) (tm:Array Value),vQ γ fr tm→l.length=l'.length →
  (∀ (i:Nat) (p p':Tmp × Value),l[i]?=some p→l'[i]?=some p'→p.1=p'.1∧VR γ p.2 p'.2∧p'.1 < tm.size) →
  vQ γ (eo fr l) (l'.foldl (fun tmps (t,a)=>tmps.setIfInBounds t a) tm)∧(l'.foldl (fun tmps (t,a)=>tmps.setIfInBounds t a) tm).size=tm.size:=by
 intro l
 induction l with
 | nil=>intro l' fr tm h hl _;cases l' with
  | nil=>exact ⟨h,rfl⟩
  | cons=>cases hl
 | cons p l ih =>
  intro l' fr tm h hl hh
  cases l' with
  | nil=>cases hl
  | cons p' l' =>
   obtain ⟨e1,e2,e3⟩:=hh 0 p p' rfl rfl
   obtain ⟨d,v⟩:=p
   obtain ⟨d',v'⟩:=p'
   simp only at e1 e2 e3
   subst e1
   have hsz:(tm.setIfInBounds d v').size=tm.size:=by simp
   obtain ⟨r1,r2⟩:=ih l' (fr.set d v) (tm.setIfInBounds d v') (h.set e2 e3) (by simpa using hl) fun i p p' a b=>by
    rw [hsz];exact hh (i+1) p p' a b
   exact ⟨r1,r2.trans hsz⟩
theorem EZ (hT:bT T) {g:aF} (h:HR γ g w) {t:TypeId} {a a' v:Value} {e:bN} (ho:gF T t a g=some (v,e)) (ha:VR γ a a') :
  ∃ ad v',a'=.pointer (some ad)∧(loadVar t ad).run T.P w=.ok v' w∧VR γ v v':=by
 unfold gF at ho
 cases hk:addr? a with
 | none=>rw [hk] at ho;cases ho
 | some ko =>
  obtain ⟨k,o⟩:=ko
  rw [hk] at ho
  simp only at ho
  cases hc:cells? (g k) with
  | none=>rw [hc] at ho;cases ho
  | some c0 =>
   obtain ⟨cs,own,es⟩:=c0
   cases hty:T.ty.get t with
   | none=>rw [hc,hty] at ho;cases ho
   | some r =>
    obtain ⟨i,hi,hsz,_,_,hu,_⟩:=hT.ty t r hty
    have hag:=hT.agg hty
    obtain ⟨und,s,bytes,zero,agg,bW,cu⟩:=r
    rw [hc,hty] at ho
    simp only at ho hsz hu hag
    obtain ⟨b,d,hl,rfl⟩:=ha.addr hk
    obtain ⟨cs',el,fz,hw,hcr,_⟩:=h.cells hc hl
    cases agg with
    | true =>
     simp only [cond_true,Option.map_eq_some_iff,Prod.mk.injEq] at ho
     obtain ⟨c,hcut,rfl,rfl⟩:=ho
     obtain ⟨c',hv,hlen,hat,_,_⟩:=hcr.F9 hcut
     refine ⟨_,.agg c'.toArray,rfl,?_,VR.js hv⟩
     have hload:=run_loadCells_list (P:=T.P) w ⟨b,d+o,none⟩ c' (fun j v hj=>by rw [Addr.add_lit,pP hw];exact hat j v hj)
     rw [hlen,←hsz] at hload
     simp [loadVar,nJ hu,←hag,cW hi,hload]
    | false =>
     simp only [cond_false,Option.map_eq_some_iff,Prod.mk.injEq] at ho
     obtain ⟨x,hx,rfl,rfl⟩:=ho
     obtain ⟨x',h1,h2⟩:=hcr o x hx
     refine ⟨_,x',rfl,?_,h2⟩
     simp [loadVar,nJ hu,←hag,load,Sem.run,pP hw,h1]
theorem dU {α β:Type} {P:Program} {s:Sem α} {k:α→Sem β} {a:α} {w w1:World} (h:s.run P w=.ok a w1):(s >>= k).run P w=(k a).run P w1:=by
 simp [h]
def MP (tm:Array Value):ResultVar→Sem Value
 | .tmp t=>pure (tm.getD t undef)
 | .cell a t=>do loadVar t (←asAddr (tm.getD a undef))
theorem Cw (fn:Func) (tm:Array Value):results fn tm=(do
  let vs ←fn.results.mapM (MP tm)
  pure (if h:vs.size=1 then vs[0] else .tuple vs)):=by
 unfold results
 congr 2
theorem An (hT:bT T) {fr:Tr Value} {tm:Array Value} (h:HR γ H.get w) (hf:vQ γ fr tm):∀ (rs:List ResultVar) (vs:List Value),jW T fr H rs=some vs →
  ∃ vs',(List.mapM (m:=Sem) (MP tm) rs).run T.P w=.ok vs' w∧bQ γ vs vs':=by
 intro rs
 induction rs with
 | nil=>intro vs hv;cases hv;exact ⟨[],rfl,bQ.nil γ⟩
 | cons r rs ih =>
  intro vs hv
  rw [jW] at hv
  cases hr:wU T fr H r with
  | none=>rw [hr] at hv;cases hv
  | some v =>
   rw [hr] at hv
   simp only [Option.map_eq_some_iff] at hv
   obtain ⟨us,hus,rfl⟩:=hv
   obtain ⟨us',h1,h2⟩:=ih us hus
   cases r with
   | tmp t =>
    simp only [wU,Option.some.injEq] at hr
    subst hr
    refine ⟨tm.getD t undef :: us',?_,.cons (hf t) h2⟩
    rw [List.mapM_cons,dU rfl,dU h1]
    rfl
   | cell a t =>
    simp only [wU,Option.map_eq_some_iff] at hr
    obtain ⟨⟨x,e⟩,hx,rfl⟩:=hr
    obtain ⟨ad,v',e1,e2,e3⟩:=EZ hT h hx (hf a)
    refine ⟨v' :: us',?_,.cons e3 h2⟩
    rw [List.mapM_cons,dU (a:=v') (w1:=w) (by simp only [MP];rw [e1];simp [asAddr,e2]),dU h1]
    rfl
theorem yG {vs vs':List Value} (h:bQ γ vs vs'):VR γ (cJ vs) (cJ vs'):=by
 match vs,vs',h with
 | [],[],h=>exact VR.cg h
 | [v],[v'],h=>exact h.2 0 v v' rfl rfl
 | a :: b :: l,a' :: b' :: l',h=>exact VR.cg h
 | [],_ :: _,h=>exact absurd h.1 (by simp)
 | [_],[],h=>exact absurd h.1 (by simp)
 | [_],_ :: _ :: _,h=>exact absurd h.1 (by simp)
 | _ :: _ :: _,[],h=>exact absurd h.1 (by simp)
 | _ :: _ :: _,[_],h=>exact absurd h.1 (by simp)
theorem E7 (hT:bT T) {fr:Tr Value} {tm:Array Value} (h:HR γ H.get w) (hf:vQ γ fr tm) {fn:Func} {vs:List Value} (hv:jW T fr H fn.results.toList=some vs) :
  ∃ v',(results fn tm).run T.P w=.ok v' w∧VR γ (cJ vs) v':=by
 obtain ⟨vs',h1,h2⟩:=An hT h hf fn.results.toList vs hv
 refine ⟨cJ vs',?_,yG h2⟩
 rw [Cw,Array.mapM_eq_mapM_toList]
 rw [dU (a:=vs'.toArray) (w1:=w) (by rw [map_eq_pure_bind,dU h1];rfl)]
 match vs' with
 | []=>rfl
 | [v]=>rfl
 | a :: b :: l=>simp [cJ]
end
end Go.RM
