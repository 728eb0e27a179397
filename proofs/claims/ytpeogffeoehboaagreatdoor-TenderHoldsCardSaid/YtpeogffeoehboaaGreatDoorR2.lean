/-
  An abstract machine, and that its runs are the model's. Lemmas alone; no condition.
-/
import Derived.Test.YtpeogffeoehboaaGreatDoorR1
import Derived.OrdersIn
import Derived.OwnWalkIn
namespace Go.RM
open Go.RowKit
section
variable {T : bz} {γ : Gm} {g : aD} {w : World} {n : Nat}
def mZ (γ:Gm):Option Value→Option Value→Prop
 | none,none=>True
 | some a,some b=>VR γ a b
 | _,_=>False
theorem mJ {P:Program} {lo hi lo' hi':Option Value} {l hv len c':Nat} (hl:cT 0 lo=some l) (hh:cT len hi=some hv) (c1:l≤hv) (c2:hv≤c')
  (rlo:mZ γ lo lo') (rhi:mZ γ hi hi'):(Instr.sliceBounds true len c' lo' hi' none).run P w=.ok (l,hv,c') w:=by
 have q1:((0:Int)≤(hv:Int)∧(hv:Int)≤(c':Int))=True:=eq_true (by omega)
 have q2:((0:Int)≤(l:Int)∧(l:Int)≤(hv:Int))=True:=eq_true (by omega)
 cases lo with
 | none =>
  cases lo' with
  | some _=>exact rlo.elim
  | none =>
   simp only [cT,Option.some.injEq] at hl
   subst hl
   cases hi with
   | none =>
    cases hi' with
    | some _=>exact rhi.elim
    | none =>
     simp only [cT,Option.some.injEq] at hh
     subst hh
     simp [Instr.sliceBounds]
   | some a =>
    cases hi' with
    | none=>exact rhi.elim
    | some a' =>
     obtain ⟨kk,rfl⟩:=dn hh
     obtain rfl:=VR.bh rhi rfl
     simp only [Instr.sliceBounds,Instr.sliceBound,asIntOf,Sem.run_bind,Sem.run_pure,Result.andThen_ok,if_true,Int.toNat_natCast,q1]
 | some b =>
  cases lo' with
  | none=>exact rlo.elim
  | some b' =>
   obtain ⟨kk,rfl⟩:=dn hl
   obtain rfl:=VR.bh rlo rfl
   cases hi with
   | none =>
    cases hi' with
    | some _=>exact rhi.elim
    | none =>
     simp only [cT,Option.some.injEq] at hh
     subst hh
     simp only [Instr.sliceBounds,Instr.sliceBound,asIntOf,Sem.run_bind,Sem.run_pure,Result.andThen_ok,Option.isSome_none,Bool.false_eq_true,if_false,if_true,Int.toNat_natCast,q2]
   | some a =>
    cases hi' with
    | none=>exact rhi.elim
    | some a' =>
     obtain ⟨kk,rfl⟩:=dn hh
     obtain rfl:=VR.bh rhi rfl
     simp only [Instr.sliceBounds,Instr.sliceBound,asIntOf,Sem.run_bind,Sem.run_pure,Result.andThen_ok,Option.isSome_none,Bool.false_eq_true,if_false,if_true,Int.toNat_natCast,q1,q2]
theorem Am (hT:bR T) (h:HR γ g w) {t:TypeId} {x x':Value} {lo hi lo' hi':Option Value} {v:Value}
  (ho:oX T t x lo hi=some v) (hx:VR γ x x') (rlo:mZ γ lo lo') (rhi:mZ γ hi hi') :
  aK T.P γ g w n (do Pure.pure (Next.value (←Instr.sliceAt t x' lo' hi' none))) v .none:=by
 unfold oX at ho
 cases he:elem? T t with
 | none=>rw [he] at ho;cases ho
 | some inf =>
  rw [he] at ho
  simp only at ho
  obtain ⟨el,i,hut,hii,hsz,_,_⟩:=jq hT he
  cases x with
  | slice base len cp =>
   simp only at ho
   cases hl:cT 0 lo with
   | none=>rw [hl] at ho;cases ho
   | some l =>
    cases hh:cT len hi with
    | none=>rw [hl,hh] at ho;cases ho
    | some hv =>
     rw [hl,hh] at ho
     simp only at ho
     cases hcd:(Nat.ble l hv && Nat.ble hv len && Nat.ble 1 inf.size) with
     | false =>
      rw [hcd] at ho
      simp only [cond_false] at ho
      unfold Dw at ho
      split at ho
      ·rename_i k o
       cases hce:(Nat.ble (l+1) hv && Nat.ble (len+3) cp && Nat.ble (hv+3) cp) with
       | false=>rw [hce] at ho;cases ho
       | true =>
        rw [hce] at ho
        simp only [cond_true,Option.some.injEq] at ho
        subst ho
        simp only [Bool.and_eq_true] at hce
        have c1:=Nat.le_of_ble_eq_true hce.1.1
        have c2:=Nat.le_of_ble_eq_true hce.1.2
        have c3:=Nat.le_of_ble_eq_true hce.2
        cases hx with
        | flat hf=>simp [aN] at hf
        | cE hne ht0 h20=>omega
        | slice hl' hn ht hlo' hk' =>
         rename_i b d c'
         have hk2:=hk' c2
         have run:(Instr.sliceAt t (.slice (some ⟨b,d+o,none⟩) len c') lo' hi' none).run T.P w=.ok (.slice (if c'=l then some ⟨b,d+o,none⟩ else (some ⟨b,d+o,none⟩:Option Addr).map (·.add (l * inf.size))) (hv - l) (c' - l)) w:=by
          simp only [Instr.sliceAt,Instr.slice,Sem.run_bind,bF hut,Result.andThen_ok,mJ hl hh (c':=c') (by omega) (by omega) rlo rhi,cS hii,hsz,Sem.run_pure]
         refine .pure h (aI run) ?_
         rw [if_neg (by omega),Option.map_some,Addr.add_lit,Nat.add_assoc d o]
         exact VR.slice hl' (by omega) (fun e=>by omega) (fun e=>by omega) (fun e=>by omega)
      ·cases ho
     | true =>
      rw [hcd] at ho
      simp only [cond_true] at ho
      simp only [Bool.and_eq_true] at hcd
      have c1:=Nat.le_of_ble_eq_true hcd.1.1
      have c2:=Nat.le_of_ble_eq_true hcd.1.2
      have bounds:∀ c',len≤c'→(Instr.sliceBounds true len c' lo' hi' none).run T.P w=.ok (l,hv,c') w:=fun c' hc'=>mJ hl hh c1 (by omega) rlo rhi
      have run:∀ (a':Option Addr) (c':Nat),len≤c'→(Instr.sliceAt t (.slice a' len c') lo' hi' none).run T.P w=.ok (.slice (if c'=l then a' else a'.map (·.add (l * inf.size))) (hv - l) (c' - l)) w:=by
       intro a' c' hc'
       simp only [Instr.sliceAt,Instr.slice,Sem.run_bind,bF hut,Result.andThen_ok,bounds c' hc',cS hii,hsz,Sem.run_pure]
      cases base with
      | none =>
       simp only at ho
       cases hz:(Nat.beq len 0 && Nat.beq cp 0) with
       | false=>rw [hz] at ho;cases ho
       | true =>
        rw [hz] at ho
        simp only [cond_true,Option.some.injEq] at ho
        subst ho
        simp only [Bool.and_eq_true] at hz
        have z1:=Nat.eq_of_beq_eq_true hz.1
        have z2:=Nat.eq_of_beq_eq_true hz.2
        subst z1
        subst z2
        obtain rfl:=hx.bh rfl
        have e1:hv=0:=by omega
        have e2:l=0:=by omega
        subst e1
        subst e2
        exact .pure h (aI (by rw [run none 0 (Nat.le_refl _)];simp)) (.flat rfl)
      | some ad =>
       obtain ⟨k,o,sp⟩:=ad
       cases sp with
       | some s=>cases ho
       | none =>
        simp only [Option.some.injEq] at ho
        subst ho
        have told:∀ c',len≤c'→(cp=len→c'=len) →
          ((bif Nat.beq hv len && Nat.beq cp len then hv - l else bif Nat.beq hv len then hv - l+2 else hv - l+3+(len - hv))=hv - l→c' - l=hv - l)∧(bif Nat.beq hv len && Nat.beq cp len then hv - l else bif Nat.beq hv len then hv - l+2 else hv - l+3+(len - hv)) ≠ hv - l+1 ∧
          (hv - l+3≤(bif Nat.beq hv len && Nat.beq cp len then hv - l else bif Nat.beq hv len then hv - l+2 else hv - l+3+(len - hv))→(bif Nat.beq hv len && Nat.beq cp len then hv - l else bif Nat.beq hv len then hv - l+2 else hv - l+3+(len - hv))≤c' - l+3) ∧
          (hv=len→(bif Nat.beq hv len && Nat.beq cp len then hv - l else bif Nat.beq hv len then hv - l+2 else hv - l+3+(len - hv))≤hv - l+2):=by
         intro c' hc' ht
         cases hb:(Nat.beq hv len && Nat.beq cp len) with
         | true =>
          simp only [Bool.and_eq_true] at hb
          have b1:=Nat.eq_of_beq_eq_true hb.1
          have b2:=Nat.eq_of_beq_eq_true hb.2
          have:=ht b2
          simp only [cond_true]
          exact ⟨fun _=>by omega,by omega,fun _=>by omega,fun _=>by omega⟩
         | false =>
          simp only [cond_false]
          cases hb2:Nat.beq hv len with
          | true =>
           have b1:=Nat.eq_of_beq_eq_true hb2
           simp only [cond_true]
           exact ⟨fun e=>by omega,by omega,fun e=>by omega,fun _=>by omega⟩
          | false =>
           have b1:hv ≠ len:=fun e=>by subst e;rw [Nat.beq_refl] at hb2;cases hb2
           simp only [cond_false]
           exact ⟨fun e=>by omega,by omega,fun e=>by omega,fun e=>absurd e b1⟩
        cases hx with
        | flat hf=>simp [aN] at hf
        | cE hne ht0 h20 =>
         rename_i c' a'
         have e1:hv=0:=by omega
         have e2:l=0:=by omega
         subst e1
         subst e2
         have tl:=told c' (Nat.zero_le _) (fun e=>ht0 e)
         refine .pure h (aI (run (some a') c' (Nat.zero_le _))) ?_
         have hsome:∃ a'',(if c'=0 then some a' else (some a').map (·.add (0 * inf.size)))=some a'':=by split <;> exact ⟨_,rfl⟩
         obtain ⟨a'',ha''⟩:=hsome
         rw [ha'']
         exact VR.cE (fun e=>tl.2.1 (by simpa using e)) (fun e=>by have:=tl.1 (by simpa using e);simpa using this) (by have:=tl.2.2.2 rfl;simpa using this)
        | slice hl' hn ht hlo' hk' =>
         rename_i b d c'
         have tl:=told c' hn ht
         refine .pure h (aI (run _ c' hn)) ?_
         by_cases hcl:c'=l
         ·rw [if_pos hcl]
          have e1:hv - l=0:=by omega
          rw [e1] at tl ⊢
          exact VR.cE (fun e=>tl.2.1 (by simpa using e)) (fun e=>by have:=tl.1 e;simpa using this) (by have:=tl.2.2.2 (by omega);simpa using this)
         ·rw [if_neg hcl,Option.map_some,Addr.add_lit,Nat.add_assoc d o]
          exact VR.slice hl' (by omega) tl.1 (fun e=>absurd e tl.2.1) tl.2.2.1
  | _=>cases ho
theorem td {P:Program} {lo hi lo' hi':Option Value} {l hv len:Nat} (hl:cT 0 lo=some l) (hh:cT len hi=some hv) (c1:l≤hv) (c2:hv≤len)
  (rlo:mZ γ lo lo') (rhi:mZ γ hi hi'):(Instr.sliceBounds false len len lo' hi' none).run P w=.ok (l,hv,len) w:=by
 have q1:((0:Int)≤(hv:Int)∧(hv:Int)≤(len:Int))=True:=eq_true (by omega)
 have q2:((0:Int)≤(l:Int)∧(l:Int)≤(hv:Int))=True:=eq_true (by omega)
 cases lo with
 | none =>
  cases lo' with
  | some _=>exact rlo.elim
  | none =>
   simp only [cT,Option.some.injEq] at hl
   subst hl
   cases hi with
   | none =>
    cases hi' with
    | some _=>exact rhi.elim
    | none =>
     simp only [cT,Option.some.injEq] at hh
     subst hh
     simp [Instr.sliceBounds]
   | some a =>
    cases hi' with
    | none=>exact rhi.elim
    | some a' =>
     obtain ⟨kk,rfl⟩:=dn hh
     obtain rfl:=VR.bh rhi rfl
     simp only [Instr.sliceBounds,Instr.sliceBound,asIntOf,Sem.run_bind,Sem.run_pure,Result.andThen_ok,Bool.false_eq_true,if_false,if_true,Int.toNat_natCast,q1]
 | some b =>
  cases lo' with
  | none=>exact rlo.elim
  | some b' =>
   obtain ⟨kk,rfl⟩:=dn hl
   obtain rfl:=VR.bh rlo rfl
   cases hi with
   | none =>
    cases hi' with
    | some _=>exact rhi.elim
    | none =>
     simp only [cT,Option.some.injEq] at hh
     subst hh
     simp only [Instr.sliceBounds,Instr.sliceBound,asIntOf,Sem.run_bind,Sem.run_pure,Result.andThen_ok,Option.isSome_none,Bool.false_eq_true,if_false,if_true,Int.toNat_natCast,q2]
   | some a =>
    cases hi' with
    | none=>exact rhi.elim
    | some a' =>
     obtain ⟨kk,rfl⟩:=dn hh
     obtain rfl:=VR.bh rhi rfl
     simp only [Instr.sliceBounds,Instr.sliceBound,asIntOf,Sem.run_bind,Sem.run_pure,Result.andThen_ok,Option.isSome_none,Bool.false_eq_true,if_false,if_true,Int.toNat_natCast,q1,q2]
theorem ua (hT:bR T) (h:HR γ g w) {t:TypeId} {x x':Value} {lo hi lo' hi':Option Value} {v:Value}
  (ho:nR T t x lo hi=some v) (hx:VR γ x x') (rlo:mZ γ lo lo') (rhi:mZ γ hi hi') :
  aK T.P γ g w n (do Pure.pure (Next.value (←Instr.sliceAt t x' lo' hi' none))) v .none:=by
 unfold nR at ho
 split at ho
 ·rename_i len e _ _ _ _ _ cw hty
  obtain ⟨i,hi0,_,_,_,hu,hes⟩:=hT.ty t _ hty
  cases hk:addr? x with
  | none=>rw [hk] at ho;cases ho
  | some ko =>
   obtain ⟨k,o⟩:=ko
   cases hl:cT 0 lo with
   | none=>rw [hk,hl] at ho;cases ho
   | some l =>
    cases hh:cT len hi with
    | none=>rw [hk,hl,hh] at ho;cases ho
    | some hv =>
     rw [hk,hl,hh] at ho
     simp only at ho
     cases hcd:(Nat.ble l hv && Nat.ble hv len && Nat.ble 1 cw) with
     | false=>rw [hcd] at ho;cases ho
     | true =>
      rw [hcd] at ho
      simp only [cond_true,Option.some.injEq] at ho
      subst ho
      simp only [Bool.and_eq_true] at hcd
      have c1:=Nat.le_of_ble_eq_true hcd.1.1
      have c2:=Nat.le_of_ble_eq_true hcd.1.2
      obtain ⟨b,d,hl2,rfl⟩:=hx.addr hk
      obtain ⟨_,j,hj,he'⟩:=hes
      have he':j.size=cw:=he'.symm
      have run:(Instr.sliceAt t (.pointer (some ⟨b,d+o,none⟩)) lo' hi' none).run T.P w=.ok (.slice (some (if len=l then ⟨b,d+o,none⟩ else Addr.add ⟨b,d+o,none⟩ (l * cw))) (hv - l) (len - l)) w:=by
       simp only [Instr.sliceAt,Instr.sureAddr,Sem.run_bind,bF hu,Result.andThen_ok,td hl hh c1 c2 rlo rhi,cS hj,he',Sem.run_pure]
      refine .pure h (aI run) ?_
      by_cases hcl:len=l
      ·have e1:hv=len:=by omega
       subst hcl
       subst e1
       rw [if_pos rfl,Nat.sub_self]
       exact VR.cE (by rw [Nat.beq_refl];simp) (fun _=>rfl) (by rw [Nat.beq_refl];simp)
      ·rw [if_neg hcl,Addr.add_lit,Nat.add_assoc d o]
       cases hb:Nat.beq hv len with
       | true =>
        have:=Nat.eq_of_beq_eq_true hb
        simp only [cond_true]
        exact VR.slice hl2 (by omega) (fun _=>by omega) (fun e=>by omega) (fun e=>by omega)
       | false =>
        simp only [cond_false]
        exact VR.slice hl2 (by omega) (fun e=>by omega) (fun e=>by omega) (fun e=>by omega)
 ·cases ho
theorem wE {P:Program} {lo lo':Option Value} {hi mx hi' mx':Value} {l hv mv len c':Nat} (hl:cT 0 lo=some l) (hh:iZ hi=some hv) (hm:iZ mx=some mv) (c1:l≤hv) (c2:hv≤mv) (hc':mv≤c')
  (rlo:mZ γ lo lo') (rhi:VR γ hi hi') (rmx:VR γ mx mx'):(Instr.sliceBounds true len c' lo' (some hi') (some mx')).run P w=.ok (l,hv,mv) w:=by
 have q1:((0:Int)≤(mv:Int)∧(mv:Int)≤(c':Int))=True:=eq_true (by omega)
 have q3:((0:Int)≤(hv:Int)∧(hv:Int)≤(mv:Int))=True:=eq_true (by omega)
 have q2:((0:Int)≤(l:Int)∧(l:Int)≤(hv:Int))=True:=eq_true (by omega)
 obtain ⟨k1,rfl⟩:=dn hh
 obtain rfl:=VR.bh rhi rfl
 obtain ⟨k2,rfl⟩:=dn hm
 obtain rfl:=VR.bh rmx rfl
 cases lo with
 | none =>
  cases lo' with
  | some _=>exact rlo.elim
  | none =>
   simp only [cT,Option.some.injEq] at hl
   subst hl
   simp only [Instr.sliceBounds,Instr.sliceBound,asIntOf,Sem.run_bind,Sem.run_pure,Result.andThen_ok,if_true,Int.toNat_natCast,q1,q3]
 | some b =>
  cases lo' with
  | none=>exact rlo.elim
  | some b' =>
   obtain ⟨kk,rfl⟩:=dn hl
   obtain rfl:=VR.bh rlo rfl
   simp only [Instr.sliceBounds,Instr.sliceBound,asIntOf,Sem.run_bind,Sem.run_pure,Result.andThen_ok,Option.isSome_some,if_true,Int.toNat_natCast,q1,q2,q3]
theorem yF (hT:bR T) (h:HR γ g w) {t:TypeId} {x x':Value} {lo lo':Option Value} {hi mx hi' mx' v:Value}
  (ho:jd T t x lo hi mx=some v) (hx:VR γ x x') (rlo:mZ γ lo lo') (rhi:VR γ hi hi') (rmx:VR γ mx mx') :
  aK T.P γ g w n (do Pure.pure (Next.value (←Instr.sliceAt t x' lo' (some hi') (some mx')))) v .none:=by
 unfold jd at ho
 cases he:elem? T t with
 | none=>rw [he] at ho;cases ho
 | some inf =>
  rw [he] at ho
  simp only at ho
  obtain ⟨el,i,hut,hii,hsz,_,_⟩:=jq hT he
  cases x with
  | slice base len cp =>
   simp only at ho
   cases hl:cT 0 lo with
   | none=>rw [hl] at ho;cases ho
   | some l =>
    cases hh:iZ hi with
    | none=>rw [hl,hh] at ho;cases ho
    | some hv =>
     cases hm:iZ mx with
     | none=>rw [hl,hh,hm] at ho;cases ho
     | some m =>
      rw [hl,hh,hm] at ho
      simp only at ho
      cases hcd:(Nat.ble l hv && Nat.ble hv m && Nat.ble m len && Nat.ble 1 inf.size) with
      | false=>rw [hcd] at ho;cases ho
      | true =>
       rw [hcd] at ho
       simp only [cond_true] at ho
       simp only [Bool.and_eq_true] at hcd
       have c1:=Nat.le_of_ble_eq_true hcd.1.1.1
       have c2:=Nat.le_of_ble_eq_true hcd.1.1.2
       have c3:=Nat.le_of_ble_eq_true hcd.1.2
       have run:∀ (a':Option Addr) (c':Nat),len≤c'→(Instr.sliceAt t (.slice a' len c') lo' (some hi') (some mx')).run T.P w=.ok (.slice (if m=l then a' else a'.map (·.add (l * inf.size))) (hv - l) (m - l)) w:=by
        intro a' c' hc'
        simp only [Instr.sliceAt,Instr.slice,Sem.run_bind,bF hut,Result.andThen_ok,wE hl hh hm c1 c2 (Nat.le_trans c3 hc') rlo rhi rmx,cS hii,hsz,Sem.run_pure]
       cases base with
       | none =>
        simp only at ho
        cases hz:(Nat.beq len 0 && Nat.beq cp 0) with
        | false=>rw [hz] at ho;cases ho
        | true =>
         rw [hz] at ho
         simp only [cond_true,Option.some.injEq] at ho
         subst ho
         simp only [Bool.and_eq_true] at hz
         have z1:=Nat.eq_of_beq_eq_true hz.1
         have z2:=Nat.eq_of_beq_eq_true hz.2
         subst z1
         subst z2
         obtain rfl:=hx.bh rfl
         have e0:m=0:=by omega
         have e1:hv=0:=by omega
         have e2:l=0:=by omega
         subst e0
         subst e1
         subst e2
         exact .pure h (aI (by rw [run none 0 (Nat.le_refl _)];simp)) (.flat rfl)
       | some ad =>
        obtain ⟨k,o,sp⟩:=ad
        cases sp with
        | some s=>cases ho
        | none =>
         simp only [Option.some.injEq] at ho
         subst ho
         cases hx with
         | flat hf=>simp [aN] at hf
         | cE hne ht0 h20 =>
          rename_i c' a'
          have e0:m=0:=by omega
          have e1:hv=0:=by omega
          have e2:l=0:=by omega
          subst e0
          subst e1
          subst e2
          refine .pure h (aI (run (some a') c' (Nat.zero_le _))) ?_
          rw [if_pos rfl]
          exact VR.cE (by simp) (fun _=>rfl) (by simp)
         | slice hl' hn ht hlo' hk' =>
          rename_i b d c'
          refine .pure h (aI (run _ c' hn)) ?_
          by_cases hcl:m=l
          ·obtain rfl:hv=m:=by omega
           subst hcl
           rw [if_pos rfl,Nat.sub_self]
           exact VR.cE (by simp) (fun _=>rfl) (by simp)
          ·rw [if_neg hcl,Option.map_some,Addr.add_lit,Nat.add_assoc d o]
           cases hb:Nat.beq hv m with
           | true =>
            have:=Nat.eq_of_beq_eq_true hb
            simp only [cond_true]
            exact VR.slice hl' (by omega) (fun _=>by omega) (fun e=>by omega) (fun e=>by omega)
           | false =>
            simp only [cond_false]
            exact VR.slice hl' (by omega) (fun e=>by omega) (fun e=>by omega) (fun e=>by omega)
  | _=>cases ho
theorem wF (hT:bR T) (h:HR γ g w) {t:TypeId} {x x' v:Value} {e:bP} (hn:e.news=true→γ.loc n=none) (ho:qW T n t x g=some (v,e)) (hx:VR γ x x') :
  aK T.P γ g w n (do Pure.pure (Next.value (←Instr.range t x'))) v e:=by
 unfold qW at ho
 split at ho
 ·rename_i kt et _ _ _ _ _ _ m hty
  cases hm:map? (g m) with
  | none=>rw [hm] at ho;cases ho
  | some p =>
   obtain ⟨es,clock⟩:=p
   rw [hm] at ho
   simp only [Option.some.injEq,Prod.mk.injEq] at ho
   obtain ⟨rfl,rfl⟩:=ho
   obtain ⟨i,_,_,_,_,hu,_⟩:=hT.ty t _ hty
   have hgr:g m=some (.map es clock):=by
    unfold map? at hm
    split at hm
    ·simp at hm;obtain ⟨rfl,rfl⟩:=hm;assumption
    ·cases hm
   cases hx with
   | flat hf=>simp [aN] at hf
   | map hl =>
    rename_i b
    obtain ⟨_,_,es',hw,_⟩:=h.fM m b 0 _ hgr hl
    have hle:=Gm.lT (b:=w.heap.size) (c:=0) (hn rfl)
    have hrun:(Instr.range t (.map (some b))).run T.P w=.ok (.pointer (some ⟨w.heap.size,0,none⟩)) (w.alloc (.mapIter (some b) clock #[] clock)):=by
     have hgo:(getObj b).run T.P w=.ok (.map es' clock) w:=by simp [getObj,Sem.run,hw]
     simp [Instr.range,bF hu,hgo]
    refine ⟨_,_,γ.add n w.heap.size 0,.inl (aI hrun),hle,fun k hk=>Gm.bk _ _ _ (fun e=>Bool.noConfusion (hk e:true=false)),?_,VR.ptr (o:=0) (Gm.bQ _ _ _ _),jo.new (obj:=_) rfl rfl rfl rfl⟩
    refine HR.new (w:=w) h (hn rfl) (obj:=_) rfl ⟨rfl,h.base,b,hle.loc _ _ hl,?_⟩
    show (w.heap.push _)[w.heap.size]?=_
    simp
 ·rename_i s hty
  simp only [Option.some.injEq,Prod.mk.injEq] at ho
  obtain ⟨rfl,rfl⟩:=ho
  obtain ⟨i,_,_,_,_,hu,_⟩:=hT.ty t _ hty
  obtain rfl:=hx.bh rfl
  have hle:=Gm.lT (b:=w.heap.size) (c:=0) (hn rfl)
  have hrun:(Instr.range t (.string s)).run T.P w=.ok (.pointer (some ⟨w.heap.size,0,none⟩)) (w.alloc (.stringIter s 0)):=by
   simp [Instr.range,bF hu]
  refine ⟨_,_,γ.add n w.heap.size 0,.inl (aI hrun),hle,fun k hk=>Gm.bk _ _ _ (fun e=>Bool.noConfusion (hk e:true=false)),?_,VR.ptr (o:=0) (Gm.bQ _ _ _ _),jo.new (obj:=_) rfl rfl rfl rfl⟩
  refine HR.new (w:=w) h (hn rfl) (obj:=_) rfl ⟨rfl,h.base,?_⟩
  show (w.heap.push _)[w.heap.size]?=_
  simp
 ·cases ho
theorem yG {k b:Nat} {a0 a:aR} {obj0 obj:Obj} (h:HR γ g w) (h0:g k=some a0) (ho:a0.own=true) (hl:γ.loc k=some (b,0)) (hw:w.heap[b]?=some obj0)
  (hown:a.own=true) (ha:Af γ (w.heap.setIfInBounds b obj) k b 0 a) :
  HR γ (gO g k a) {w with heap:=w.heap.setIfInBounds b obj}∧jo γ g w γ (gO g k a) {w with heap:=w.heap.setIfInBounds b obj}∧(w.heap.setIfInBounds b obj)[b]?=some obj:=by
 have hlt:b < w.heap.size:=(Array.getElem?_eq_some_iff.1 hw).1
 have hsz:(w.heap.setIfInBounds b obj).size=w.heap.size:=by simp
 have hne:∀ i,i ≠ b→(w.heap.setIfInBounds b obj)[i]?=w.heap[i]?:=fun i hi=>Array.getElem?_setIfInBounds_ne (Ne.symm hi)
 exact ⟨h.put h0 ho hl hsz hne (.inl hown) ha,jo.put h0 ho hl rfl rfl rfl hsz hne,by simp [hlt]⟩
theorem wG (h:HR γ g w) {x x' v:Value} {e:bP} {ty:TypeId} (ho:jz x g=some (v,e)) (hx:VR γ x x') :
  aK T.P γ g w n (do Pure.pure (Next.value (←Instr.next x' true ty))) v e:=by
 unfold jz at ho
 split at ho
 ·rename_i r hk
  cases hg:g r with
  | none=>rw [hg] at ho;cases ho
  | some fM =>
   rw [hg] at ho
   cases fM with
   | dh s pos =>
    simp only at ho
    obtain ⟨b,d,hl,rfl⟩:=hx.addr hk
    obtain ⟨rfl,hB,hw⟩:=h.fM r b d _ hg hl
    have hgo:(getObj b).run T.P w=.ok (.stringIter s pos) w:=by simp [getObj,Sem.run,hw]
    cases hc:Nat.blt pos s.data.toList.length with
    | true =>
     rw [hc] at ho
     simp only [cond_true,Option.some.injEq,Prod.mk.injEq] at ho
     obtain ⟨rfl,rfl⟩:=ho
     have hlt:pos < s.size:=Nat.le_of_ble_eq_true hc
     have hset:(setObj b (.stringIter s (pos+(Utf8.decode s pos).2))).run T.P w=.ok () {w with heap:=w.heap.setIfInBounds b (.stringIter s (pos+(Utf8.decode s pos).2))}:=by simp [setObj,Sem.run,hw]
     obtain ⟨q1,q2,q3⟩:=yG (a:=.dh s (pos+(Utf8.decode s pos).2)) (obj:=.stringIter s (pos+(Utf8.decode s pos).2)) h hg rfl hl hw rfl ⟨rfl,hB,by simp [(Array.getElem?_eq_some_iff.1 hw).1]⟩
     refine ⟨.tuple #[.bool true,.int .i64 pos,.int .i32 (Utf8.decode s pos).1],_,γ,.inl (aI ?_),Gm.Le.refl γ,fun _ _=>rfl,q1,?_,q2⟩
     ·simp [Instr.next,hgo,hlt,hset,goInt]
     ·exact VR.cg (l:=[.bool true,.int .i64 pos,.int .i32 (Utf8.decode s pos).1]) (bM.of_flat rfl)
    | false =>
     rw [hc] at ho
     simp only [cond_false,Option.some.injEq,Prod.mk.injEq] at ho
     obtain ⟨rfl,rfl⟩:=ho
     have hlt:¬ (pos < s.size):=fun e=>by
      have:Nat.blt pos s.data.toList.length=true:=Nat.ble_eq_true_of_le e
      rw [this] at hc;cases hc
     refine .pure h (aI (v:=.tuple #[.bool false]) ?_) (VR.cg (l:=[.bool false]) (bM.of_flat rfl))
     simp [Instr.next,hgo,hlt]
   | _=>cases ho
 ·cases ho
end
section
variable {T : bz} {γ : Gm} {g : aD} {w : World} {n : Nat}
theorem bL (P:Program) {α β:Type} (x:Sem α) (f:α→Sem β):aE P (x >>= f)=(aE P x).bind fun a=>aE P (f a):=by
 show aE P (x.bind f)=_
 induction x with
 | pure a=>rfl
 | program k ih=>simp only [Sem.bind,aE];exact ih P
 | mark m k ih=>simp only [Sem.bind,aE];exact ih
 | _=>rfl
theorem ji (P:Program) {α:Type} (a:α):aE P (Pure.pure a)=some a:=rfl
def SameKeys (l l':List MapEntry):Prop:=l.map (·.key)=l'.map (·.key)
theorem SameKeys.An {e e':MapEntry} {l l':List MapEntry} (h:SameKeys (e :: l) (e' :: l')):e.key=e'.key∧SameKeys l l':=by
 simpa [SameKeys] using h
theorem qe (kind:TypeDesc) (k:Value):∀ (l l':List MapEntry) (i:Nat),SameKeys l l' →
  match Instr.findNow kind k l i with
  | none=>Instr.findNow kind k l' i=none
  | some none=>Instr.findNow kind k l' i=some none
  | some (some (j,_))=>∃ e,i≤j∧l'[j - i]?=some e∧Instr.findNow kind k l' i=some (some (j,e.val))
 | [],[],_,_=>rfl
 | [],_ :: _,_,h=>by simp [SameKeys] at h
 | _ :: _,[],_,h=>by simp [SameKeys] at h
 | e :: l,e' :: l',i,h=>by
  obtain ⟨h1,h2⟩:=h.An
  simp only [Instr.findNow,←h1]
  cases hs:Instr.sameNow kind k e.key with
  | none=>rfl
  | some b =>
   cases b with
   | true=>exact ⟨e',Nat.le_refl _,by simp,rfl⟩
   | false =>
    have ih:=qe kind k l l' (i+1) h2
    simp only
    cases hf:Instr.findNow kind k l (i+1) with
    | none=>rw [hf] at ih;exact ih
    | some r =>
     rw [hf] at ih
     cases r with
     | none=>exact ih
     | some p =>
      obtain ⟨j,v⟩:=p
      obtain ⟨x,a,b,c⟩:=ih
      refine ⟨x,by omega,?_,c⟩
      rw [show j - i=(j - (i+1))+1 from by omega]
      simpa using b
theorem mK (P:Program) (kt:TypeId) (k:Value):∀ (l l':List MapEntry) (i:Nat) (r:Option (Nat × Value)),SameKeys l l'→aE P (Instr.findAsking kt k l i)=some r →
  match r with
  | none=>aE P (Instr.findAsking kt k l' i)=some none
  | some (j,_)=>∃ e,i≤j∧l'[j - i]?=some e∧aE P (Instr.findAsking kt k l' i)=some (some (j,e.val))
 | [],[],_,r,_,h=>by
  simp only [Instr.findAsking,ji,Option.some.injEq] at h
  subst h
  rfl
 | [],_ :: _,_,_,h,_=>by simp [SameKeys] at h
 | _ :: _,[],_,_,h,_=>by simp [SameKeys] at h
 | e :: l,e' :: l',i,r,hk,h=>by
  obtain ⟨h1,h2⟩:=hk.An
  simp only [Instr.findAsking,bL,h1] at h ⊢
  cases hq:aE P (Op.equal kt k e'.key) with
  | none=>rw [hq] at h;cases h
  | some b =>
   rw [hq] at h
   simp only [Option.bind_some] at h ⊢
   cases b with
   | true =>
    simp only [if_true,ji,Option.some.injEq] at h ⊢
    subst h
    exact ⟨e',Nat.le_refl _,by simp,rfl⟩
   | false =>
    simp only [Bool.false_eq_true,if_false] at h ⊢
    have ih:=mK P kt k l l' (i+1) r h2 h
    cases r with
    | none=>exact ih
    | some p =>
     obtain ⟨j,v⟩:=p
     obtain ⟨x,a,b,c⟩:=ih
     refine ⟨x,by omega,?_,c⟩
     rw [show j - i=(j - (i+1))+1 from by omega]
     simpa using b
theorem yH {P:Program} {kt:TypeId} {k:Value} {l l':List MapEntry} {r:Option (Nat × Value)} (hk:SameKeys l l') (h:aE P (Instr.findKey kt k l)=some r) :
  match r with
  | none=>aE P (Instr.findKey kt k l')=some none
  | some (j,_)=>∃ e,l'[j]?=some e∧aE P (Instr.findKey kt k l')=some (some (j,e.val)):=by
 unfold Instr.findKey at h ⊢
 simp only [bL] at h ⊢
 cases hu:aE P (underlying kt) with
 | none=>rw [hu] at h;cases h
 | some d =>
  rw [hu] at h
  simp only [Option.bind_some] at h ⊢
  have hs:=qe d k l l' 0 hk
  cases hf:Instr.findNow d k l 0 with
  | none =>
   rw [hf] at h hs
   simp only at h hs
   simp only [hs]
   have:=mK P kt k l l' 0 r hk h
   cases r with
   | none=>exact this
   | some p=>obtain ⟨j,v⟩:=p;obtain ⟨e,_,b,c⟩:=this;exact ⟨e,by simpa using b,c⟩
  | some q =>
   rw [hf] at h hs
   simp only [ji,Option.some.injEq] at h
   subst h
   cases q with
   | none=>simp only at hs ⊢;rw [hs];rfl
   | some p =>
    obtain ⟨j,v⟩:=p
    obtain ⟨e,_,b,c⟩:=hs
    exact ⟨e,by simpa using b,by rw [c];rfl⟩
theorem iT.keys {es:List MapEntry} {es':Array MapEntry} (h:iT γ es es') (hf:es.all (fun e=>flat e.key)=true):SameKeys (es.map fun e=>{e with val:=.nilIface}) es'.toList:=by
 unfold SameKeys
 rw [List.map_map]
 apply List.ext_getElem?
 intro i
 rw [List.getElem?_map,List.getElem?_map]
 cases he:es[i]? with
 | none =>
  have:es'.toList[i]?=none:=by
   rw [List.getElem?_eq_none_iff] at he ⊢
   have:=h.1
   simp;omega
  rw [this];rfl
 | some e =>
  have hi:i < es.length:=(List.getElem?_eq_some_iff.1 he).1
  have hi':i < es'.size:=by have:=h.1;omega
  have he':es'.toList[i]?=some es'[i]:=by simp [hi']
  rw [he']
  obtain ⟨h1,_,_⟩:=h.2 i e es'[i] he (by simp)
  have:=h1.cA (List.all_eq_true.1 hf e (List.mem_of_getElem? he))
  simp [this]
theorem rm {P:Program} {emp:Bool} {kt:TypeId} {k k':Value} {es:List MapEntry} {es':Array MapEntry} {r:Option Nat} (h:mT P emp kt k es=some r) (he:iT γ es es') (hk:VR γ k k') :
  k'=k∧(∀ w:World,(Instr.checkKey emp 10000 kt k).run P w=.ok () w) ∧
  match r with
  | none=>∀ w:World,(Instr.findKey kt k es'.toList).run P w=.ok none w
  | some i=>∃ e e',es[i]?=some e∧es'[i]?=some e'∧VR γ e.val e'.val∧e'.key=e.key∧flat e.key=true∧e.born=e'.born∧∀ w:World,(Instr.findKey kt k es'.toList).run P w=.ok (some (i,e'.val)) w:=by
 unfold mT at h
 cases hc:(flat k && es.all fun e=>flat e.key) with
 | false=>rw [hc] at h;cases h
 | true =>
  rw [hc] at h
  simp only [cond_true] at h
  simp only [Bool.and_eq_true] at hc
  have hke:=hk.cA hc.1
  cases hck:aE P (Instr.checkKey emp 10000 kt k) with
  | none=>rw [hck] at h;cases h
  | some u =>
   rw [hck] at h
   simp only [Option.map_eq_some_iff] at h
   obtain ⟨q,hq,rfl⟩:=h
   refine ⟨hke,fun w=>fc P hck w,?_⟩
   have hs:=yH (he.keys hc.2) hq
   cases q with
   | none=>exact fun w=>fc P hs w
   | some p =>
    obtain ⟨j,v⟩:=p
    obtain ⟨e',a,b⟩:=hs
    have hj':es'[j]?=some e':=by simpa using a
    have hjl:j < es.length:=by have:=(Array.getElem?_eq_some_iff.1 hj').1;have:=he.1;omega
    have hj:es[j]?=some es[j]:=List.getElem?_eq_getElem hjl
    obtain ⟨x,y,z⟩:=he.2 j _ _ hj hj'
    have hfk:=List.all_eq_true.1 hc.2 _ (List.getElem_mem hjl)
    exact ⟨es[j],e',hj,hj',y,x.cA hfk,hfk,z,fun w=>fc P b w⟩
theorem iT.empty {es:List MapEntry} {es':Array MapEntry} (h:iT γ es es'):es'.isEmpty=es.isEmpty:=by
 have:=h.1
 cases hx:es'.isEmpty with
 | true =>
  have hz:es'=#[]:=by simpa using hx
  subst hz
  cases es with
  | nil=>rfl
  | cons a l=>simp at this
 | false =>
  cases es with
  | nil =>
   have hz:es'=#[]:=Array.eq_empty_of_size_eq_zero this.symm
   subst hz
   simp at hx
  | cons a l=>rfl
theorem map_some {a:Option aR} {es:List MapEntry} {c:Nat} (h:map? a=some (es,c)):a=some (.map es c):=by
 unfold map? at h
 split at h
 ·simp at h;obtain ⟨rfl,rfl⟩:=h;rfl
 ·cases h
theorem pg (hT:bR T) {t kt:TypeId} {z:Option Value} (h:jw T t=some (kt,z)) :
  ∃ et,T.P.underlying t=some (.map kt et)∧∀ v,z=some v→∃ i,T.P.info? et=some i∧i.zero=some v:=by
 unfold jw at h
 split at h
 ·rename_i k e _ _ _ _ _ _ hty
  simp only [Option.some.injEq,Prod.mk.injEq] at h
  obtain ⟨rfl,rfl⟩:=h
  obtain ⟨i,_,_,_,_,hu,_⟩:=hT.ty t _ hty
  refine ⟨e,hu,fun v hv=>?_⟩
  cases he:T.ty.get e with
  | none=>rw [he] at hv;cases hv
  | some r =>
   rw [he] at hv
   obtain ⟨i',h1,_,_,h4,_⟩:=hT.ty e r he
   exact ⟨i',h1,h4.trans hv⟩
 ·cases h
theorem ud {v:Value} {r:Nat} (h:gm v=some r):v=.map (some r):=by
 unfold gm at h
 split at h
 ·simp at h;subst h;rfl
 ·cases h
theorem bl (h:HR γ g w) {m m':Value} {r:Nat} {es:List MapEntry} {c:Nat} (hb:gm m=some r) (hm:map? (g r)=some (es,c)) (hv:VR γ m m') :
  ∃ b es',m'=.map (some b)∧γ.loc r=some (b,0)∧γ.B≤b∧w.heap[b]?=some (.map es' c)∧iT γ es es'∧(∀ P:Program,(getObj b).run P w=.ok (.map es' c) w):=by
 obtain rfl:=ud hb
 cases hv with
 | flat hf=>simp [aN] at hf
 | map hl =>
  rename_i b
  obtain ⟨_,hB,es',hw,he⟩:=h.fM r b 0 _ (map_some hm) hl
  exact ⟨b,es',rfl,hl,hB,hw,he,fun P=>by simp [getObj,Sem.run,hw]⟩
theorem yI (hT:bR T) (h:HR γ g w) {t:TypeId} {m m' k k' v:Value} {ok:Bool} (ho:j5 T t m k ok g=some v) (hm:VR γ m m') (hk:VR γ k k') :
  aK T.P γ g w n (do Pure.pure (Next.value (←Instr.lookup t m' k' ok))) v .none:=by
 unfold j5 at ho
 cases hmt:jw T t with
 | none=>rw [hmt] at ho;cases ho
 | some p =>
  obtain ⟨kt,z⟩:=p
  cases hb:gm m with
  | none=>rw [hmt,hb] at ho;cases ho
  | some r =>
   cases hmp:map? (g r) with
   | none=>rw [hmt,hb] at ho;simp only [Option.bind_some,hmp] at ho;cases ho
   | some q =>
    obtain ⟨es,c⟩:=q
    rw [hmt,hb] at ho
    simp only [Option.bind_some,hmp] at ho
    obtain ⟨b,es',rfl,hl,hB,hw,he,hgo⟩:=bl h hb hmp hm
    obtain ⟨et,hu,hz⟩:=pg hT hmt
    unfold yu at ho
    cases hf:mT T.P es.isEmpty kt k es with
    | none=>rw [hf] at ho;simp at ho
    | some r' =>
     obtain ⟨rfl,hck,hfk⟩:=rm hf he hk
     rw [←he.empty] at hck
     cases r' with
     | some i =>
      obtain ⟨e,e',he1,he2,hvv,_,_,_,hrun⟩:=hfk
      cases z with
      | none=>rw [hf] at ho;simp at ho
      | some zv =>
       rw [hf] at ho
       simp only [he1,Option.map_some,Option.some.injEq] at ho
       subst ho
       refine .pure h (aI (v:=bif ok then .tuple #[e'.val,.bool true] else e'.val) ?_) ?_
       ·cases ok <;> simp [Instr.lookup,bF hu,hgo,hck,hrun]
       ·cases ok with
        | false=>exact hvv
        | true=>exact VR.cg (.cons hvv (.cons (.flat rfl) (.nil γ)))
     | none =>
      cases z with
      | none=>rw [hf] at ho;simp at ho
      | some zv =>
       rw [hf] at ho
       simp only at ho
       obtain ⟨ie,hi1,hi2⟩:=hz zv rfl
       cases hfl:flat zv with
       | false=>rw [hfl] at ho;cases ho
       | true =>
        rw [hfl] at ho
        simp only [cond_true,Option.some.injEq] at ho
        subst ho
        refine .pure h (aI (v:=bif ok then .tuple #[zv,.bool false] else zv) ?_) ?_
        ·cases ok <;> simp [Instr.lookup,bF hu,hgo,hck,hfk,iD hi1 hi2]
        ·cases ok with
         | false=>exact VR.of_flat hfl
         | true=>exact VR.cg (.cons (VR.of_flat hfl) (.cons (.flat rfl) (.nil γ)))
theorem iT.modify {es:List MapEntry} {es':Array MapEntry} (h:iT γ es es') (i:Nat) (f f':MapEntry→MapEntry)
  (hf:∀ e e',es[i]?=some e→es'[i]?=some e'→VR γ (f e).key (f' e').key∧VR γ (f e).val (f' e').val∧(f e).born=(f' e').born):iT γ (es.modify i f) (es'.modify i f'):=by
 refine ⟨by simp [h.1],fun j a b ha hb=>?_⟩
 rw [List.getElem?_modify] at ha
 rw [Array.getElem?_modify] at hb
 by_cases hij:i=j
 ·subst hij
  simp only [if_true] at ha hb
  obtain ⟨e,h1,rfl⟩:=Option.map_eq_some_iff.1 ha
  obtain ⟨e',h2,rfl⟩:=Option.map_eq_some_iff.1 hb
  exact hf e e' h1 h2
 ·simp only [hij,if_false] at ha hb
  have ha':es[j]?=some a:=by cases hx:es[j]? <;> simp_all
  exact h.2 j a b ha' hb
theorem iT.push {es:List MapEntry} {es':Array MapEntry} (h:iT γ es es') {e e':MapEntry} (he:VR γ e.key e'.key∧VR γ e.val e'.val∧e.born=e'.born):iT γ (es++[e]) (es'.push e'):=by
 refine ⟨by simp [h.1],fun j a b ha hb=>?_⟩
 by_cases hj:j < es.length
 ·rw [List.getElem?_append_left hj] at ha
  rw [Array.getElem?_push,if_neg (by have:=h.1;omega)] at hb
  exact h.2 j a b ha hb
 ·rw [List.getElem?_append_right (by omega)] at ha
  have hj2:j - es.length=0:=by
   have:=(List.getElem?_eq_some_iff.1 ha).1
   simp at this;omega
  rw [hj2] at ha
  simp at ha
  subst ha
  rw [Array.getElem?_push,if_pos (by have:=h.1;omega)] at hb
  cases hb
  exact he
theorem nV (h:HR γ g w) {r b:Nat} {es es2:List MapEntry} {c c2:Nat} {es' es2':Array MapEntry} (hm:map? (g r)=some (es,c)) (hl:γ.loc r=some (b,0)) (hB:γ.B≤b)
  (hw:w.heap[b]?=some (.map es' c)) (he:iT γ es2 es2') :
  HR γ (gO g r (.map es2 c2)) {w with heap:=w.heap.setIfInBounds b (.map es2' c2)}∧jo γ g w γ (gO g r (.map es2 c2)) {w with heap:=w.heap.setIfInBounds b (.map es2' c2)} ∧
   (∀ P:Program,(setObj b (.map es2' c2)).run P w=.ok () {w with heap:=w.heap.setIfInBounds b (.map es2' c2)}):=by
 have hlt:b < w.heap.size:=(Array.getElem?_eq_some_iff.1 hw).1
 obtain ⟨q1,q2,_⟩:=yG (a:=.map es2 c2) (obj:=.map es2' c2) h (map_some hm) rfl hl hw rfl ⟨rfl,hB,es2',by simp [hlt],he⟩
 exact ⟨q1,q2,fun P=>by simp [setObj,Sem.run,hw]⟩
theorem ue (hT:bR T) (h:HR γ g w) {t:TypeId} {m m' k k' v:Value} {e:bP} (ho:dS T t m k g=some (v,e)) (hm:VR γ m m') (hk:VR γ k k') :
  aK T.P γ g w n (do Pure.pure (Next.value (←Instr.mapEntry t m' k'))) v e:=by
 unfold dS at ho
 cases hmt:jw T t with
 | none=>rw [hmt] at ho;cases ho
 | some p =>
  obtain ⟨kt,z⟩:=p
  cases hb:gm m with
  | none=>rw [hmt,hb] at ho;cases ho
  | some r =>
   cases hmp:map? (g r) with
   | none=>rw [hmt,hb] at ho;simp only [hmp] at ho;cases ho
   | some q =>
    obtain ⟨es,c⟩:=q
    rw [hmt,hb] at ho
    simp only [hmp] at ho
    obtain ⟨b,es',rfl,hl,hB,hw,he,hgo⟩:=bl h hb hmp hm
    obtain ⟨et,hu,hz⟩:=pg hT hmt
    unfold kZ at ho
    cases hf:mT T.P false kt k es with
    | none=>rw [hf] at ho;simp at ho
    | some r' =>
     obtain ⟨rfl,hck,hfk⟩:=rm hf he hk
     have hflk:flat k'=true:=by
      unfold mT at hf
      cases hc:(flat k' && es.all fun e=>flat e.key) with
      | false=>rw [hc] at hf;cases hf
      | true=>simp only [Bool.and_eq_true] at hc;exact hc.1
     cases r' with
     | some i =>
      obtain ⟨x,x',he1,he2,hvv,hkk,hkf,hborn,hrun⟩:=hfk
      rw [hf] at ho
      simp only [he1] at ho
      cases hsb:Instr.sameBits 10000 x.key k' with
      | false=>rw [hsb] at ho;cases ho
      | true =>
       rw [hsb] at ho
       simp only [cond_true,Option.some.injEq,Prod.mk.injEq] at ho
       obtain ⟨rfl,rfl⟩:=ho
       have hmod:iT γ (es.modify i fun e=>{e with key:=k'}) (es'.modify i fun e=>{e with key:=k'}) :=
        he.modify i _ _ fun a a' h1 h2=>by obtain ⟨_,y,zz⟩:=he.2 i a a' h1 h2;exact ⟨VR.of_flat hflk,y,zz⟩
       obtain ⟨q1,q2,q3⟩:=nV (c2:=c) h hmp hl hB hw hmod
       refine ⟨.tuple #[x'.val,.int .i64 x'.born],_,γ,.inl (aI ?_),Gm.Le.refl γ,fun _ _=>rfl,q1,?_,q2⟩
       ·have hstay:(Instr.keyThatStays x'.key k').run T.P w=.ok k' w:=by simp [Instr.keyThatStays,hkk,hsb]
        simp [Instr.mapEntry,bF hu,hgo,hck,hrun,he2,hstay,q3,goInt]
       ·rw [←hborn]
        exact VR.cg (.cons hvv (.cons (.flat rfl) (.nil γ)))
     | none =>
      cases z with
      | none=>rw [hf] at ho;simp at ho
      | some zv =>
       rw [hf] at ho
       simp only at ho
       obtain ⟨ie,hi1,hi2⟩:=hz zv rfl
       cases hfl:flat zv with
       | false=>rw [hfl] at ho;cases ho
       | true =>
        rw [hfl] at ho
        simp only [cond_true,Option.some.injEq,Prod.mk.injEq] at ho
        obtain ⟨rfl,rfl⟩:=ho
        have hpush:iT γ (es++[{key:=k',val:=zv,born:=c}]) (es'.push {key:=k',val:=zv,born:=c}):=he.push ⟨VR.of_flat hflk,VR.of_flat hfl,rfl⟩
        obtain ⟨q1,q2,q3⟩:=nV (c2:=c+1) h hmp hl hB hw hpush
        refine ⟨.tuple #[zv,.int .i64 c],_,γ,.inl (aI ?_),Gm.Le.refl γ,fun _ _=>rfl,q1,VR.cg (.cons (VR.of_flat hfl) (.cons (.flat rfl) (.nil γ))),q2⟩
        simp [Instr.mapEntry,bF hu,hgo,hck,hfk,iD hi1 hi2,q3,goInt]
end
section
variable {T : bz} {γ : Gm} {g : aD} {w : World} {n : Nat}
def eU (γ:Gm):List MapEntry→List MapEntry→Prop
 | [],[]=>True
 | e :: l,e' :: l'=>(VR γ e.key e'.key∧VR γ e.val e'.val∧e.born=e'.born)∧eU γ l l'
 | _,_=>False
theorem eU.FL {γ:Gm}:∀ {l l':List MapEntry},l.length=l'.length →
  (∀ (i:Nat) (e e':MapEntry),l[i]?=some e→l'[i]?=some e'→VR γ e.key e'.key∧VR γ e.val e'.val∧e.born=e'.born)→eU γ l l'
 | [],[],_,_=>trivial
 | [],_ :: _,h,_=>by simp at h
 | _ :: _,[],h,_=>by simp at h
 | e :: l,e' :: l',h,hp=>⟨hp 0 e e' rfl rfl,eU.FL (by simpa using h) fun i a a' x y=>hp (i+1) a a' (by simpa using x) (by simpa using y)⟩
theorem iT.list {es:List MapEntry} {es':Array MapEntry} (h:iT γ es es'):eU γ es es'.toList :=
 eU.FL (by simpa using h.1) fun i e e' a b=>h.2 i e e' a (by simpa using b)
theorem eU.len {γ:Gm}:∀ {l l':List MapEntry},eU γ l l'→l.length=l'.length
 | [],[],_=>rfl
 | [],_ :: _,h=>h.elim
 | _ :: _,[],h=>h.elim
 | _ :: _,_ :: _,h=>by simp [eU.len h.2]
theorem eU.get {γ:Gm}:∀ {l l':List MapEntry} {i:Nat} {e':MapEntry},eU γ l l'→l'[i]?=some e'→∃ e,l[i]?=some e∧VR γ e.key e'.key∧VR γ e.val e'.val∧e.born=e'.born
 | [],[],i,e',_,h=>by simp at h
 | [],_ :: _,_,_,h,_=>h.elim
 | _ :: _,[],_,_,h,_=>h.elim
 | e :: l,x :: l',0,e',h,hx=>by simp at hx;subst hx;exact ⟨e,rfl,h.1⟩
 | e :: l,x :: l',i+1,e',h,hx=>by
  obtain ⟨y,a,b⟩:=eU.get (i:=i) h.2 (by simpa using hx)
  exact ⟨y,by simpa using a,b⟩
theorem eU.filter {γ:Gm} (p:Nat→Bool):∀ {l l':List MapEntry},eU γ l l'→eU γ (l.filter fun e=>p e.born) (l'.filter fun e=>p e.born)
 | [],[],_=>trivial
 | [],_ :: _,h=>h.elim
 | _ :: _,[],h=>h.elim
 | e :: l,e' :: l',h=>by
  have ih:=eU.filter p h.2
  have hb:=h.1.2.2
  by_cases hp:p e.born=true
  ·have hp':p e'.born=true:=by rw [←hb];exact hp
   rw [List.filter_cons_of_pos (by simpa using hp),List.filter_cons_of_pos (by simpa using hp')]
   exact ⟨h.1,ih⟩
  ·have hp':¬ p e'.born=true:=by rw [←hb];exact hp
   rw [List.filter_cons_of_neg (by simpa using hp),List.filter_cons_of_neg (by simpa using hp')]
   exact ih
theorem eU.append {γ:Gm}:∀ {a a' b b':List MapEntry},eU γ a a'→eU γ b b'→eU γ (a++b) (a'++b')
 | [],[],_,_,_,h=>h
 | [],_ :: _,_,_,h,_=>h.elim
 | _ :: _,[],_,_,h,_=>h.elim
 | _ :: _,_ :: _,_,_,h,k=>⟨h.1,eU.append h.2 k⟩
theorem eU.findIdx {γ:Gm} (p:Nat→Bool):∀ {l l':List MapEntry},eU γ l l'→(l.findIdx? fun e=>p e.born)=l'.findIdx? fun e=>p e.born
 | [],[],_=>rfl
 | [],_ :: _,h=>h.elim
 | _ :: _,[],h=>h.elim
 | e :: l,e' :: l',h=>by
  rw [List.findIdx?_cons,List.findIdx?_cons,h.1.2.2,eU.findIdx p h.2]
theorem eU.find {γ:Gm} (p:Nat→Bool):∀ {l l':List MapEntry},eU γ l l' →
  match l.find? (fun e=>p e.born) with
  | none=>l'.find? (fun e=>p e.born)=none
  | some e=>∃ e',l'.find? (fun e=>p e.born)=some e'∧VR γ e.key e'.key∧VR γ e.val e'.val∧e.born=e'.born
 | [],[],_=>rfl
 | [],_ :: _,h=>h.elim
 | _ :: _,[],h=>h.elim
 | e :: l,e' :: l',h=>by
  have hb:=h.1.2.2
  cases hp:p e.born with
  | true =>
   rw [List.find?_cons_of_pos (by simpa using hp),List.find?_cons_of_pos (by rw [←hb];simpa using hp)]
   exact ⟨e',rfl,h.1⟩
  | false =>
   rw [List.find?_cons_of_neg (by simp [hp]),List.find?_cons_of_neg (by rw [←hb];simp [hp])]
   exact eU.find p h.2
theorem rq (h:HR γ g w) {t:TypeId} {m m' s s' x x':Value} {e:bP} (ho:cN m s x g=some e) (hm:VR γ m m') (hs:VR γ s s') (hx:VR γ x x') :
  aK T.P γ g w n (do Instr.entryStore t m' s' x';Pure.pure Next.skip) undef e:=by
 unfold cN at ho
 cases hb:gm m with
 | none=>rw [hb] at ho;simp at ho
 | some r =>
  cases hi:intOf? s with
  | none=>rw [hb,hi] at ho;simp at ho
  | some born =>
   cases hmp:map? (g r) with
   | none=>rw [hb,hi] at ho;simp only [hmp] at ho;cases ho
   | some q =>
    obtain ⟨es,c⟩:=q
    rw [hb,hi] at ho
    simp only [hmp] at ho
    obtain ⟨b,es',rfl,hl,hB,hw,he,hgo⟩:=bl h hb hmp hm
    obtain ⟨kk,rfl⟩:=tW hi
    obtain rfl:=hs.bh rfl
    cases hf:es.findIdx? (fun e=>(e.born:Int) == born) with
    | none=>rw [hf] at ho;cases ho
    | some i =>
     rw [hf] at ho
     simp only [Option.some.injEq] at ho
     subst ho
     have hf':es'.findIdx? (fun e=>(e.born:Int) == born)=some i:=by
      have:=eU.findIdx (fun k=>(k:Int) == born) he.list
      rw [hf] at this
      obtain ⟨l⟩:=es'
      rw [List.findIdx?_toArray]
      exact this.symm
     have hmod:iT γ (es.modify i fun e=>{e with val:=x}) (es'.modify i fun e=>{e with val:=x'}) :=
      he.modify i _ _ fun a a' h1 h2=>by obtain ⟨y,_,zz⟩:=he.2 i a a' h1 h2;exact ⟨y,hx,zz⟩
     obtain ⟨q1,q2,q3⟩:=nV (c2:=c) h hmp hl hB hw hmod
     refine ⟨undef,_,γ,.inr ⟨pY ?_,rfl⟩,Gm.Le.refl γ,fun _ _=>rfl,q1,VR.undef γ,q2⟩
     simp [Instr.entryStore,hgo,asInt,asIntOf,hf',q3]
theorem tf (hT:bR T) (h:HR γ g w) {t:TypeId} {m m' k k' x x':Value} {e:bP} (ho:dM T t m k x g=some e) (hm:VR γ m m') (hk:VR γ k k') (hx:VR γ x x') :
  aK T.P γ g w n (do Instr.mapUpdate t m' k' x';Pure.pure Next.skip) undef e:=by
 unfold dM at ho
 cases hmt:jw T t with
 | none=>rw [hmt] at ho;simp at ho
 | some p =>
  obtain ⟨kt,z⟩:=p
  cases hb:gm m with
  | none=>rw [hmt,hb] at ho;simp at ho
  | some r =>
   cases hmp:map? (g r) with
   | none=>rw [hmt,hb] at ho;simp only [hmp] at ho;cases ho
   | some q =>
    obtain ⟨es,c⟩:=q
    rw [hmt,hb] at ho
    simp only [hmp] at ho
    obtain ⟨b,es',rfl,hl,hB,hw,he,hgo⟩:=bl h hb hmp hm
    obtain ⟨et,hu,hz⟩:=pg hT hmt
    unfold lQ at ho
    cases hf:mT T.P false kt k es with
    | none=>rw [hf] at ho;simp at ho
    | some r' =>
     obtain ⟨rfl,hck,hfk⟩:=rm hf he hk
     have hflk:flat k'=true:=by
      unfold mT at hf
      cases hc:(flat k' && es.all fun e=>flat e.key) with
      | false=>rw [hc] at hf;cases hf
      | true=>simp only [Bool.and_eq_true] at hc;exact hc.1
     cases r' with
     | some i =>
      obtain ⟨y,y',he1,he2,hvv,hkk,hkf,hborn,hrun⟩:=hfk
      rw [hf] at ho
      simp only [he1] at ho
      cases hsb:Instr.sameBits 10000 y.key k' with
      | false=>rw [hsb] at ho;cases ho
      | true =>
       rw [hsb] at ho
       simp only [cond_true,Option.some.injEq] at ho
       subst ho
       have hmod:iT γ (es.modify i fun e=>{e with key:=k',val:=x}) (es'.modify i fun e=>{e with key:=k',val:=x'}) :=
        he.modify i _ _ fun a a' h1 h2=>by obtain ⟨_,_,zz⟩:=he.2 i a a' h1 h2;exact ⟨VR.of_flat hflk,hx,zz⟩
       obtain ⟨q1,q2,q3⟩:=nV (c2:=c) h hmp hl hB hw hmod
       refine ⟨undef,_,γ,.inr ⟨pY ?_,rfl⟩,Gm.Le.refl γ,fun _ _=>rfl,q1,VR.undef γ,q2⟩
       have hstay:(Instr.keyThatStays y'.key k').run T.P w=.ok k' w:=by simp [Instr.keyThatStays,hkk,hsb]
       simp [Instr.mapUpdate,bF hu,hgo,hck,hrun,he2,hstay,q3]
     | none =>
      rw [hf] at ho
      simp only [Option.some.injEq] at ho
      subst ho
      have hpush:iT γ (es++[{key:=k',val:=x,born:=c}]) (es'.push {key:=k',val:=x',born:=c}):=he.push ⟨VR.of_flat hflk,hx,rfl⟩
      obtain ⟨q1,q2,q3⟩:=nV (c2:=c+1) h hmp hl hB hw hpush
      refine ⟨undef,_,γ,.inr ⟨pY ?_,rfl⟩,Gm.Le.refl γ,fun _ _=>rfl,q1,VR.undef γ,q2⟩
      simp [Instr.mapUpdate,bF hu,hgo,hck,hfk,q3]
theorem yJ (h:HR γ g w) (hn:γ.loc n=none) {t:TypeId} :
  aK T.P γ g w n (do Pure.pure (Next.value (←Instr.makeMap t none))) (.map (some n)) (.new (.map [] 0)):=by
 have hle:=Gm.lT (b:=w.heap.size) (c:=0) hn
 refine ⟨.map (some w.heap.size),w.alloc (.map #[] 0),γ.add n w.heap.size 0,.inl (aI (by simp [Instr.makeMap])),hle,fun k hk=>Gm.bk _ _ _ (fun e=>Bool.noConfusion (hk e:true=false)),?_,VR.map (Gm.bQ _ _ _ _),jo.new (obj:=_) rfl rfl rfl rfl⟩
 refine HR.new (w:=w) h hn (obj:=_) rfl ⟨rfl,h.base,#[],?_,rfl,by simp⟩
 show (w.heap.push _)[w.heap.size]?=_
 simp
theorem DA (h:HR γ g w) {it it':Value} {r m since last c:Nat} {seen:List Nat} {es:List MapEntry} (ha:addr? it=some (r,0)) (hg:g r=some (.iter m since seen last))
  (hm:map? (g m)=some (es,c)) (hv:VR γ it it') :
  ∃ b bm es',it'=.pointer (some ⟨b,0,none⟩)∧γ.loc r=some (b,0)∧γ.B≤b∧γ.loc m=some (bm,0)∧w.heap[b]?=some (.mapIter (some bm) since seen.toArray last) ∧
   w.heap[bm]?=some (.map es' c)∧iT γ es es':=by
 obtain ⟨b,d,hl,rfl⟩:=hv.addr ha
 obtain ⟨rfl,hB,bm,hlm,hw⟩:=h.fM r b d _ hg hl
 obtain ⟨_,_,es',hw',he⟩:=h.fM m bm 0 _ (map_some hm) hlm
 exact ⟨b,bm,es',rfl,hl,hB,hlm,hw,hw',he⟩
theorem Ao (h:HR γ g w) {it it' v:Value} {e:bP} (ho:qX it g=some (v,e)) (hv:VR γ it it') :
  aK T.P γ g w n (do Pure.pure (Next.value (←Instr.entry it'))) v e:=by
 unfold qX at ho
 split at ho
 ·rename_i r ha
  cases hg:g r with
  | none=>rw [hg] at ho;cases ho
  | some fM =>
   rw [hg] at ho
   cases fM with
   | iter m since seen stepped =>
    simp only at ho
    cases hs:seen.getLast? with
    | none=>rw [hs] at ho;simp at ho
    | some stamp =>
     cases hm:map? (g m) with
     | none=>rw [hs,hm] at ho;simp at ho
     | some q =>
      obtain ⟨es,clock⟩:=q
      rw [hs,hm] at ho
      simp only at ho
      cases hc:Nat.beq clock stepped with
      | false=>rw [hc] at ho;cases ho
      | true =>
       rw [hc] at ho
       simp only [cond_true,Option.map_eq_some_iff,Prod.mk.injEq] at ho
       obtain ⟨x,hx,rfl,rfl⟩:=ho
       have hcc:=Nat.eq_of_beq_eq_true hc
       subst hcc
       obtain ⟨b,bm,es',rfl,hl,hB,hlm,hw,hw',he⟩:=DA h ha hg hm hv
       have hf:=eU.find (fun k=>k == stamp) he.list
       rw [hx] at hf
       obtain ⟨x',h1,h2,h3,_⟩:=hf
       have h1':es'.find? (fun e=>e.born == stamp)=some x':=by rw [←Array.find?_toList];exact h1
       have hg1:(getObj b).run T.P w=.ok (.mapIter (some bm) since seen.toArray clock) w:=by simp [getObj,Sem.run,hw]
       have hg2:(getObj bm).run T.P w=.ok (.map es' clock) w:=by simp [getObj,Sem.run,hw']
       have hback:seen.toArray.back?=some stamp:=by simpa using hs
       refine .pure h (aI (v:=.tuple #[x'.key,x'.val]) ?_) (VR.cg (.cons h2 (.cons h3 (.nil γ))))
       simp [Instr.entry,hg1,hg2,hback,h1']
   | _=>cases ho
 ·cases ho
theorem Cm (h:HR γ g w) {it it':Value} {ty:TypeId} {L:List (Value × bP)} (ho:pU it g=some L) (hv:VR γ it it') :
  ∃ v e,(v,e) ∈ L∧aK T.P γ g w n (do Pure.pure (Next.value (←Instr.next it' false ty))) v e:=by
 unfold pU at ho
 split at ho
 ·rename_i r
  cases hg:g r with
  | none=>rw [hg] at ho;cases ho
  | some fM =>
   rw [hg] at ho
   cases fM with
   | iter m since seen last =>
    simp only at ho
    cases hm:map? (g m) with
    | none=>rw [hm] at ho;cases ho
    | some q =>
     obtain ⟨es,clock⟩:=q
     rw [hm] at ho
     simp only at ho
     obtain ⟨b,bm,es',rfl,hl,hB,hlm,hw,hw',he⟩:=DA h rfl hg hm hv
     have hg1:(getObj b).run T.P w=.ok (.mapIter (some bm) since seen.toArray last) w:=by simp [getObj,Sem.run,hw]
     have hg2:(getObj bm).run T.P w=.ok (.map es' clock) w:=by simp [getObj,Sem.run,hw']
     unfold tN at ho
     cases hgone:(!seen.isEmpty && !es.isEmpty && es.all (fun e=>Nat.ble last e.born)) with
     | true=>rw [hgone] at ho;cases ho
     | false =>
      rw [hgone] at ho
      simp only [cond_false,Option.some.injEq] at ho
      subst ho
      have hleft:eU γ (es.filter fun e=>!seen.contains e.born) (es'.filter fun e=>!seen.toArray.contains e.born).toList:=by
       rw [Array.toList_filter]
       have:=eU.filter (fun k=>!seen.contains k) he.list
       simpa using this
      have hold:eU γ ((es.filter fun e=>!seen.contains e.born).filter fun e=>decide (e.born < since)) ((es'.filter fun e=>!seen.toArray.contains e.born).filter (·.born < since)).toList:=by
       rw [Array.toList_filter]
       exact eU.filter (fun k=>decide (k < since)) hleft
      have hnew:eU γ ((es.filter fun e=>!seen.contains e.born).filter fun e=>decide (e.born ≥ since)) ((es'.filter fun e=>!seen.toArray.contains e.born).filter (·.born ≥ since)).toList:=by
       rw [Array.toList_filter]
       exact eU.filter (fun k=>decide (k ≥ since)) hleft
      have hgone':(!seen.toArray.isEmpty && !es'.isEmpty && es'.all (·.born ≥ last))=false:=by
       have h1:es'.all (·.born ≥ last)=es.all (fun e=>Nat.ble last e.born):=by
        rw [←Array.all_toList]
        have:∀ {l l':List MapEntry},eU γ l l'→l'.all (fun e=>decide (e.born ≥ last))=l.all (fun e=>Nat.ble last e.born):=by
         intro l
         induction l with
         | nil=>intro l' hh;cases l' with
          | nil=>rfl
          | cons=>exact hh.elim
         | cons a l ih=>intro l' hh;cases l' with
          | nil=>exact hh.elim
          | cons a' l' =>
           simp only [List.all_cons,ih hh.2,ble_eq,←hh.1.2.2]
        exact this he.list
       rw [h1,he.empty]
       have h2:seen.toArray.isEmpty=seen.isEmpty:=by cases seen <;> rfl
       rw [h2];exact hgone
      generalize hO:(es.filter fun e=>!seen.contains e.born).filter (fun e=>decide (e.born < since))=old at hold ⊢
      generalize hN:(es.filter fun e=>!seen.contains e.born).filter (fun e=>decide (e.born ≥ since))=new at hnew ⊢
      generalize hO':(es'.filter fun e=>!seen.toArray.contains e.born).filter (·.born < since)=old' at hold
      generalize hN':(es'.filter fun e=>!seen.toArray.contains e.born).filter (·.born ≥ since)=new' at hnew
      have hboth:=hold.append hnew
      have hempty:old'.isEmpty=old.isEmpty:=by
       have:=hold.len
       cases old with
       | nil =>
        have hz:old'=#[]:=Array.eq_empty_of_size_eq_zero (by simpa using this.symm)
        subst hz;rfl
       | cons a l =>
        cases hx:old'.isEmpty with
        | false=>rfl
        | true =>
         have hz:old'=#[]:=by simpa using hx
         subst hz
         simp at this
      let cand:Array (Option MapEntry):=(if old'.isEmpty then #[none] else #[])++(old'++new').map some
      have hpos:0 < cand.size:=by
       show 0 < ((if old'.isEmpty then #[none] else #[])++(old'++new').map some).size
       cases hx:old'.isEmpty with
       | true=>simp;omega
       | false =>
        have:0 < old'.size:=by
         rcases Nat.eq_zero_or_pos old'.size with h0|h0
         ·have:old'=#[]:=Array.eq_empty_of_size_eq_zero h0
          subst this;simp at hx
         ·exact h0
        simp;omega
      obtain ⟨i,w1,hi,hw1,hch⟩:∃ i w1,i < cand.size∧(w1=w∨w1=w.drew)∧(choose (.mapNext cand.size)).run T.P w=.ok i w1:=by
       by_cases hf:cand.size≤1
       ·refine ⟨0,w,hpos,.inl rfl,?_⟩
        simp [choose,Sem.run,Question.forced,hf]
       ·refine ⟨_,w.drew,Nat.mod_lt (w.tape w.drawn (.mapNext cand.size)) hpos,.inr rfl,?_⟩
        have hf':decide (cand.size≤1)=false:=decide_eq_false hf
        simp only [choose,Sem.run,Question.forced,hf',Bool.false_eq_true,if_false,Question.cut]
        rfl
      have hw1h:w1.heap=w.heap:=by rcases hw1 with rfl|rfl <;> rfl
      have hw1o:w1.os=w.os∧w1.tape=w.tape∧w1.output=w.output:=by rcases hw1 with rfl|rfl <;> exact ⟨rfl,rfl,rfl⟩
      have hH1:HR γ g w1:=h.same hw1h
      have hU1:jo γ g w γ g w1:=jo.heap hw1h hw1o.1 hw1o.2.1 hw1o.2.2
      obtain ⟨x,hx⟩:∃ x,cand[i]?=some x:=⟨_,Array.getElem?_eq_getElem hi⟩
      have hmain:∀ u wu,(match x with
        | some e=>(do setObj b (.mapIter (some bm) since (seen.toArray.push e.born) clock);Pure.pure (.tuple #[.bool true,e.key,e.val]):Sem Value)
        | none=>Pure.pure (.tuple #[.bool false])).run T.P w1=.ok u wu→(Instr.next (.pointer (some ⟨b,0,none⟩)) false ty).run T.P w=.ok u wu:=by
       intro u wu hu
       have hx':((if old'.isEmpty=true then #[none] else #[])++Array.map some (old'++new'))[i]?=some x:=hx
       simp only [Instr.next,Sem.run_bind,hg1,Result.andThen_ok,hg2,hgone',Bool.false_eq_true,if_false,hO',hN']
       have hch':(choose (.mapNext ((if old'.isEmpty=true then #[none] else #[])++Array.map some (old'++new')).size)).run T.P w=.ok i w1:=hch
       rw [hch']
       simp only [Result.andThen_ok,hx']
       cases x with
       | none=>exact hu
       | some e=>simpa using hu
      by_cases hover:old'.isEmpty=true∧i=0
      ·
       obtain ⟨ho1,rfl⟩:=hover
       have hxn:x=none:=by
        have hx':((if old'.isEmpty=true then #[none] else #[])++Array.map some (old'++new'))[0]?=some x:=hx
        rw [if_pos ho1] at hx'
        rw [Array.getElem?_append_left (by simp)] at hx'
        simpa using hx'.symm
       subst hxn
       refine ⟨.tuple #[.bool false],.none,?_,?_⟩
       ·rw [←hempty,ho1];simp
       ·refine ⟨.tuple #[.bool false],w1,γ,.inl (aI (hmain _ _ rfl)),Gm.Le.refl γ,fun _ _=>rfl,hH1,VR.cg (l:=[.bool false]) (bM.of_flat rfl),hU1⟩
      ·
       obtain ⟨j,e',hj,rfl⟩:∃ (j:Nat) (e':MapEntry),(old'.toList++new'.toList)[j]?=some e'∧x=some e':=by
        have hx':((if old'.isEmpty=true then #[none] else #[])++Array.map some (old'++new'))[i]?=some x:=hx
        cases hox:old'.isEmpty with
        | true =>
         rw [hox] at hx' hover
         simp only [if_true] at hx'
         have hi0:i ≠ 0:=fun e=>hover ⟨rfl,e⟩
         rw [Array.getElem?_append_right (by simp;omega)] at hx'
         simp only [List.size_toArray,List.length_cons,List.length_nil,Array.getElem?_map] at hx'
         obtain ⟨e',h1,h2⟩:=Option.map_eq_some_iff.1 hx'
         exact ⟨i - 1,e',by rw [←Array.toList_append,Array.getElem?_toList];simpa using h1,h2.symm⟩
        | false =>
         rw [hox] at hx'
         simp only [Bool.false_eq_true,if_false,Array.empty_append,Array.getElem?_map] at hx'
         obtain ⟨e',h1,h2⟩:=Option.map_eq_some_iff.1 hx'
         exact ⟨i,e',by rw [←Array.toList_append,Array.getElem?_toList];exact h1,h2.symm⟩
       obtain ⟨e,he1,hk,hvv,hborn⟩:=hboth.get hj
       have hset:(setObj b (.mapIter (some bm) since (seen.toArray.push e'.born) clock)).run T.P w1=.ok () {w1 with heap:=w1.heap.setIfInBounds b (.mapIter (some bm) since (seen.toArray.push e'.born) clock)}:=by
        simp [setObj,Sem.run,hw1h,hw]
       have hwb:w1.heap[b]?=some (.mapIter (some bm) since seen.toArray last):=by rw [hw1h];exact hw
       have hltb:b < w1.heap.size:=(Array.getElem?_eq_some_iff.1 hwb).1
       obtain ⟨q1,q2,_⟩:=yG (a:=.iter m since (seen++[e.born]) clock) (obj:=.mapIter (some bm) since (seen.toArray.push e'.born) clock) hH1 hg rfl hl hwb rfl
        ⟨rfl,hB,bm,hlm,by rw [hborn];simp [hltb]⟩
       refine ⟨.tuple #[.bool true,e.key,e.val],.put r (.iter m since (seen++[e.born]) clock),?_,?_⟩
       ·refine List.mem_append.2 (.inr ?_)
        exact List.mem_map.2 ⟨e,List.mem_of_getElem? he1,rfl⟩
       ·refine ⟨.tuple #[.bool true,e'.key,e'.val],_,γ,.inl (aI (hmain _ _ (by simp only [Sem.run_bind,hset,Result.andThen_ok,Sem.run_pure]))),Gm.Le.refl γ,fun _ _=>rfl,q1,
         VR.cg (.cons (.flat rfl) (.cons hk (.cons hvv (.nil γ)))),?_⟩
        exact hU1.trans q2
   | _=>cases ho
 ·cases ho
end
section
variable {T : bz} {γ : Gm} {g : aD} {w : World} {n : Nat}
theorem bM.map {ρ ρ':Operand→Value} {l:List Operand} (h:∀ x ∈ l,VR γ (ρ x) (ρ' x)):bM γ (l.map ρ) (l.map ρ'):=by
 refine ⟨by simp,fun i v v' a b=>?_⟩
 rw [List.getElem?_map] at a b
 obtain ⟨x,hx,rfl⟩:=Option.map_eq_some_iff.1 a
 rw [hx] at b
 simp at b
 subst b
 exact h x (List.mem_of_getElem? hx)
theorem iU.map {ρ ρ':Operand→Value} {l:List (Nat × Operand)} (h:∀ x ∈ l,VR γ (ρ x.2) (ρ' x.2)):iU γ (l.map fun (i,x)=>(i,ρ x)) (l.map fun (i,x)=>(i,ρ' x)):=by
 refine ⟨by simp,fun i p p' a b=>?_⟩
 rw [List.getElem?_map] at a b
 obtain ⟨x,hx,rfl⟩:=Option.map_eq_some_iff.1 a
 rw [hx] at b
 simp at b
 subst b
 exact ⟨rfl,h x (List.mem_of_getElem? hx)⟩
theorem mZ.map {ρ ρ':Operand→Value} {x:Option Operand} (h:∀ y,x=some y→VR γ (ρ y) (ρ' y)):mZ γ (x.map ρ) (x.map ρ'):=by
 cases x with
 | none=>trivial
 | some y=>exact h y rfl
theorem mZ.cA {a b:Option Value} (h:mZ γ a b) (hf:a.toList.all flat=true):b=a:=by
 cases a with
 | none=>cases b with
  | none=>rfl
  | some _=>exact h.elim
 | some x=>cases b with
  | none=>exact h.elim
  | some y=>simp at hf;rw [VR.cA h hf]
theorem Ap (hT:bR T) (h:HR γ g w) {t ty:TypeId} {x x' v:Value} {e:bP} (ho:mV T t x g=some (v,e)) (hx:VR γ x x') :
  aK T.P γ g w n (do Pure.pure (Next.value (←Builtin.clear_ #[t] ty #[x']))) v e:=by
 unfold mV at ho
 split at ho
 ·rename_i r hty
  obtain ⟨i,_,_,_,_,hu,_⟩:=hT.ty t _ hty
  cases hm:map? (g r) with
  | none=>rw [hm] at ho;cases ho
  | some p =>
   obtain ⟨es,clock⟩:=p
   rw [hm] at ho
   simp only [Option.some.injEq,Prod.mk.injEq] at ho
   obtain ⟨rfl,rfl⟩:=ho
   obtain ⟨b,es',rfl,hl,hB,hw,he,hget⟩:=bl h (m:=.map (some r)) rfl hm hx
   obtain ⟨q1,q2,q3⟩:=nV (es2:=[]) (es2':=#[]) (c2:=clock) h hm hl hB hw ⟨rfl,fun i a b ha=>by cases ha⟩
   refine ⟨.tuple #[],_,γ,.inl (aI ?_),Gm.Le.refl γ,fun _ _=>rfl,q1,VR.cg (l:=[]) (l':=[]) (bM.nil γ),q2⟩
   simp [Builtin.clear_,bF hu,hget T.P,q3 T.P]
 ·rename_i k o nn _ hty
  obtain ⟨i,_,_,_,_,hu,_⟩:=hT.ty t _ hty
  cases he:elem? T t with
  | none=>rw [he] at ho;cases ho
  | some inf =>
   cases hc:cells? (g k) with
   | none=>rw [he,hc] at ho;cases ho
   | some p =>
    obtain ⟨cs,own,es⟩:=p
    rw [he,hc] at ho
    simp only at ho
    cases hcd:(Nat.ble 1 nn && own && bx inf && Nat.ble (o+nn * inf.size) cs.length) with
    | false=>rw [hcd] at ho;cases ho
    | true =>
     rw [hcd] at ho
     simp only [cond_true,Option.some.injEq,Prod.mk.injEq] at ho
     obtain ⟨rfl,rfl⟩:=ho
     obtain ⟨c1,c2,c3,c4⟩:=Ag hcd
     subst c2
     have c1:=Nat.le_of_ble_eq_true c1
     have c4:=Nat.le_of_ble_eq_true c4
     obtain ⟨z,hzz,hzs,h1,hfl⟩:=iq c3
     obtain ⟨el,j,hut,hj,hsz,_,hz⟩:=jq hT he
     cases hx with
     | flat hf=>simp [aN] at hf
     | cE=>omega
     | slice hl hle0 ht hlo hk =>
      rename_i b d c'
      obtain ⟨cs',el',fz,hw,hcr,hown⟩:=h.cells hc hl
      obtain ⟨rfl,rfl,hB,hcapsz⟩:=hown rfl
      have hpos:0 < z.cells.size:=by omega
      have harr:=lV z.cells (nn * inf.size) (.inr hpos)
      have hflz:=kN hfl (nn * inf.size) (.inr (by simpa using hpos))
      have hlen:=mI z.cells.toList (nn * inf.size)
      have hcs:cs.length≤cs'.size:=by
       by_cases hn:cs=[]
       ·subst hn;simp
       ·have:=hcr.size_le hn;omega
      have hzc:(Builtin.zeroCells z.cells nn).toList=bG z.cells.toList (nn * inf.size):=by
       unfold Builtin.zeroCells
       rw [hzs]
       rw [hzs] at harr
       exact harr
      have hst:=run_storeCells_at T.P b (0+o) el' (bG z.cells.toList (nn * inf.size)) 0 cs' w hw (by rw [hlen];omega) ((bM.of_flat (γ:=γ) hflz).aZ (List.all_eq_true.2 fun v hv=>by have h2:=List.all_eq_true.1 hflz v hv;cases v <;> first|rfl|(simp [aN] at h2)))
      obtain ⟨o1,o2,o3,o4⟩:=setRow_os w b (splice cs'.toList (bG z.cells.toList (nn * inf.size)) o).toArray
      rw [hzz]
      simp only [Option.map_some,Option.getD_some]
      refine ⟨.tuple #[],w.setRow b (splice cs'.toList (bG z.cells.toList (nn * inf.size)) o).toArray,γ,.inl (aI ?_),Gm.Le.refl γ,fun _ _=>rfl,?_,VR.cg (l:=[]) (l':=[]) (bM.nil γ),?_⟩
      ·obtain ⟨q,rfl⟩:∃ q,nn=q+1:=⟨nn - 1,by omega⟩
       simp only [Nat.add_zero,Nat.zero_add] at hst
       simp [Builtin.clear_,bF hut,iD hj (hz.trans hzz),hzc,hst,splice]
      ·refine h.put (dO hc) rfl hl o4 (fun j hj=>setRow_other w b j _ hj) (.inl rfl) ?_
       refine ⟨_,el',(0,0),setRow_heap w b cs' _ el' _ hw,hcr.splice (bM.of_flat hflz) (by rw [hlen];exact c4) (by rw [hlen];omega),fun _=>⟨rfl,rfl,hB,?_⟩⟩
       rw [List.size_toArray,fN _ _ _ (by rw [hlen,Array.length_toList];omega)]
       simpa using hcapsz
      ·exact jo.put (dO hc) rfl hl o1 o2 o3 o4 (fun j hj=>setRow_other w b j _ hj)
 ·cases ho
theorem wH (hT:bR T) (h:HR γ g w) {b:Builtin} {l l':List Value} {tys:List TypeId} {ty:TypeId} {cs:Array Bool} {v:Value} {e:bP}
  (hn:e.news=true→γ.loc n=none) (ho:gE T n b l tys g=some (v,e)) (hl:bM γ l l'):aK T.P γ g w n (builtin b tys.toArray ty cs l'.toArray) v e:=by
 unfold gE at ho
 have two:∀ {x y:Value},bM γ [x,y] l'→∃ x' y',l'=[x',y']∧VR γ x x'∧VR γ y y':=fun {x y} hh=>by
  match l',hh with
  | [x',y'],hh=>exact ⟨x',y',rfl,hh.2 0 _ _ rfl rfl,hh.2 1 _ _ rfl rfl⟩
  | [],hh=>exact absurd hh.1 (by simp)
  | [_],hh=>exact absurd hh.1 (by simp)
  | _ :: _ :: _ :: _,hh=>exact absurd hh.1 (by simp)
 have one:∀ {x:Value},bM γ [x] l'→∃ x',l'=[x']∧VR γ x x':=fun {x} hh=>by
  match l',hh with
  | [x'],hh=>exact ⟨x',rfl,hh.2 0 _ _ rfl rfl⟩
  | [],hh=>exact absurd hh.1 (by simp)
  | _ :: _ :: _,hh=>exact absurd hh.1 (by simp)
 split at ho
 ·split at ho
  ·obtain ⟨x',rfl,hx⟩:=one hl
   exact Al hT h ho hx
  ·cases ho
 ·exact EA h ho hl
 ·exact EB h ho hl
 ·split at ho
  ·obtain ⟨x',rfl,hx⟩:=one hl
   exact Ap hT h ho hx
  ·cases ho
 ·split at ho
  ·rename_i s x t u
   obtain ⟨s',x',rfl,hs,hx⟩:=two hl
   split at ho
   ·rename_i hty
    obtain ⟨i,_,_,_,_,hu,_⟩:=hT.ty u _ hty
    exact yE hT h hu hn ho hs hx
   ·cases ho
  ·cases ho
 ·cases ho
theorem Aq (hT:bR T) (h:HR γ g w) {ρ ρ':Operand→Value} {o:Oper} {v:Value} {e:bP}
  (hn:e.news=true→γ.loc n=none) (ho:i6 T n o.op ρ g=some (v,e)) (hρ:∀ x ∈ o.op.operands,VR γ (ρ x) (ρ' x)):aK T.P γ g w n (execOp ρ' o) v e:=by
 obtain ⟨dst,op,ty,pos,after,guard⟩:=o
 simp only at ho hρ
 cases op <;> simp only [i6] at ho
 case move x =>
  simp only [Option.some.injEq,Prod.mk.injEq] at ho
  obtain ⟨rfl,rfl⟩:=ho
  exact .pure h rfl (hρ x (by simp [Op.operands]))
 case assign x =>
  simp only [Option.some.injEq,Prod.mk.injEq] at ho
  obtain ⟨rfl,rfl⟩:=ho
  exact .pure h rfl (hρ x (by simp [Op.operands]))
 case pick c a b=>exact Cj h ho (hρ c (by simp [Op.operands])) (hρ a (by simp [Op.operands])) (hρ b (by simp [Op.operands]))
 case alloc t=>exact Ai hT h hn ho
 case box t x=>exact Ex h hn ho (hρ x (by simp [Op.operands]))
 case build t parts =>
  have:=Ak (n:=n) hT h ho (iU.map (ρ:=ρ) (ρ':=ρ') (l:=parts.toList) fun x hx=>hρ x.2 (by simp [Op.operands];exact ⟨x.1,by simpa using hx⟩))
  have e1:(parts.toList.map fun (i,x)=>(i,ρ' x)).toArray=parts.map fun (i,x)=>(i,ρ' x):=by apply Array.ext';simp
  rw [e1] at this
  exact this
 case buildSlice t len parts =>
  have:=rj hT h hn ho (iU.map (ρ:=ρ) (ρ':=ρ') (l:=parts.toList) fun x hx=>hρ x.2 (by simp [Op.operands];exact ⟨x.1,by simpa using hx⟩))
  have e1:(parts.toList.map fun (i,x)=>(i,ρ' x)).toArray=parts.map fun (i,x)=>(i,ρ' x):=by apply Array.ext';simp
  rw [e1] at this
  exact this
 case load t a=>exact Ci hT h ho (hρ a (by simp [Op.operands]))
 case store t a x=>exact Ah hT h ho (hρ a (by simp [Op.operands])) (hρ x (by simp [Op.operands]))
 case fieldAddr t a i=>exact s7 hT h ho (hρ a (by simp [Op.operands]))
 case indexAddr t a ix=>exact s8 hT h ho (hρ a (by simp [Op.operands])) (hρ ix (by simp [Op.operands]))
 case index t a ix =>
  cases hf:(flat (ρ a) && flat (ρ ix)) with
  | false=>rw [hf] at ho;cases ho
  | true =>
   rw [hf] at ho
   simp only [Bool.and_eq_true] at hf
   have:=aK.reckon (n:=n) h ho
   rw [←(hρ a (by simp [Op.operands])).cA hf.1,←(hρ ix (by simp [Op.operands])).cA hf.2] at this
   exact this
 case field t a i =>
  cases hf:flat (ρ a) with
  | false=>rw [hf] at ho;cases ho
  | true =>
   rw [hf] at ho
   have:=aK.reckon (n:=n) h ho
   rw [←(hρ a (by simp [Op.operands])).cA hf] at this
   exact this
 case binOp o t x y yt=>exact Ez h ho (hρ x (by simp [Op.operands])) (hρ y (by simp [Op.operands]))
 case unOp o t x =>
  cases hf:flat (ρ x) with
  | false=>rw [hf] at ho;cases ho
  | true =>
   rw [hf] at ho
   have:=aK.reckon (n:=n) h ho
   rw [←(hρ x (by simp [Op.operands])).cA hf] at this
   exact this
 case convert s d x =>
  cases hf:flat (ρ x) with
  | false=>rw [hf] at ho;cases ho
  | true =>
   rw [hf] at ho
   have:=aK.reckon (n:=n) h ho
   rw [←(hρ x (by simp [Op.operands])).cA hf] at this
   exact this
 case makeInterface t x =>
  cases hf:flat (ρ x) with
  | false=>rw [hf] at ho;cases ho
  | true =>
   rw [hf] at ho
   have:=aK.reckon (n:=n) h ho
   rw [←(hρ x (by simp [Op.operands])).cA hf] at this
   exact this
 case extract x i=>exact wA h ho (hρ x (by simp [Op.operands]))
 case makeFunc fn first captured =>
  have:=tX (T:=T) (n:=n) h ho (bM.map (ρ:=ρ) (ρ':=ρ') (l:=first.toList) fun x hx=>hρ x (by simp [Op.operands];exact .inl (by simpa using hx)))
   (bM.map (ρ:=ρ) (ρ':=ρ') (l:=captured.toList) fun x hx=>hρ x (by simp [Op.operands];exact .inr (by simpa using hx)))
  have e1:(first.toList.map ρ').toArray=first.map ρ':=by apply Array.ext';simp
  have e2:(captured.toList.map ρ').toArray=captured.map ρ':=by apply Array.ext';simp
  rw [e1,e2] at this
  exact this
 case nilCheck x =>
  obtain ⟨a,hx,rfl,rfl⟩:=tY ho
  have hv:=hρ x (by simp [Op.operands])
  rw [hx] at hv
  have hp:∃ a',ρ' x=.pointer (some a'):=by
   generalize ρ' x=y at hv
   cases hv with
   | flat hf=>exact ⟨a,rfl⟩
   | ptr=>exact ⟨_,rfl⟩
  obtain ⟨a',ha'⟩:=hp
  refine .pure h (v':=.pointer (some a')) ?_ (by rw [←ha'];exact hv)
  simp [execOp,ha']
 case slice t x lo hi mx =>
  cases mx with
  | some m =>
   cases hi with
   | none=>cases ho
   | some hi =>
    simp only [Option.map_eq_some_iff,Prod.mk.injEq] at ho
    obtain ⟨u,hu,rfl,rfl⟩:=ho
    have rlo:=mZ.map (γ:=γ) (ρ:=ρ) (ρ':=ρ') (x:=lo) fun y hy=>hρ y (by subst hy;simp [Op.operands])
    exact yF hT h hu (hρ x (by simp [Op.operands])) rlo (hρ hi (by simp [Op.operands])) (hρ m (by simp [Op.operands]))
  | none =>
   simp only at ho
   have hvx:=hρ x (by simp [Op.operands])
   have rlo:=mZ.map (γ:=γ) (ρ:=ρ) (ρ':=ρ') (x:=lo) fun y hy=>hρ y (by subst hy;simp [Op.operands])
   have rhi:=mZ.map (γ:=γ) (ρ:=ρ) (ρ':=ρ') (x:=hi) fun y hy=>hρ y (by subst hy;simp [Op.operands])
   show aK T.P γ g w n (do Pure.pure (Next.value (←Instr.sliceAt t (ρ' x) (lo.map ρ') (hi.map ρ') none))) v e
   unfold eZ at ho
   split at ho
   ·rename_i s hs
    cases hf:((lo.map ρ).toList.all flat && (hi.map ρ).toList.all flat) with
    | false=>rw [hf] at ho;cases ho
    | true =>
     rw [hf] at ho
     simp only [Bool.and_eq_true] at hf
     rw [rlo.cA hf.1,rhi.cA hf.2,hvx.cA (by rw [hs];rfl)]
     exact aK.reckon h ho
   ·simp only [Option.map_eq_some_iff,Prod.mk.injEq] at ho
    obtain ⟨u,hu,rfl,rfl⟩:=ho
    exact ua hT h hu hvx rlo rhi
   ·simp only [Option.map_eq_some_iff,Prod.mk.injEq] at ho
    obtain ⟨u,hu,rfl,rfl⟩:=ho
    exact Am hT h hu hvx rlo rhi
 case makeSlice t l c=>exact tc hT h hn ho (hρ l (by simp [Op.operands])) (hρ c (by simp [Op.operands]))
 case makeMap t r =>
  cases r with
  | some _=>cases ho
  | none =>
   simp only [Option.some.injEq,Prod.mk.injEq] at ho
   obtain ⟨rfl,rfl⟩:=ho
   exact yJ h (hn rfl)
 case lookup t m k ok =>
  simp only [Option.map_eq_some_iff,Prod.mk.injEq] at ho
  obtain ⟨u,hu,rfl,rfl⟩:=ho
  exact yI hT h hu (hρ m (by simp [Op.operands])) (hρ k (by simp [Op.operands]))
 case mapEntry t m k=>exact ue hT h ho (hρ m (by simp [Op.operands])) (hρ k (by simp [Op.operands]))
 case entryStore t m s x =>
  simp only [Option.map_eq_some_iff,Prod.mk.injEq] at ho
  obtain ⟨u,hu,rfl,rfl⟩:=ho
  exact rq h hu (hρ m (by simp [Op.operands])) (hρ s (by simp [Op.operands])) (hρ x (by simp [Op.operands]))
 case mapUpdate t m k x =>
  simp only [Option.map_eq_some_iff,Prod.mk.injEq] at ho
  obtain ⟨u,hu,rfl,rfl⟩:=ho
  exact tf hT h hu (hρ m (by simp [Op.operands])) (hρ k (by simp [Op.operands])) (hρ x (by simp [Op.operands]))
 case range t x=>exact wF hT h hn ho (hρ x (by simp [Op.operands]))
 case next it s =>
  cases s with
  | false=>cases ho
  | true=>exact wG h ho (hρ it (by simp [Op.operands]))
 case entry it=>exact Ao h ho (hρ it (by simp [Op.operands]))
 case call c =>
  obtain ⟨callee,args,tys⟩:=c
  unfold Ac at ho
  cases callee with
  | value f=>cases ho
  | invoke r m=>cases ho
  | builtin b =>
   simp only at ho
   have:=wH (ty:=ty) (cs:=args.map fun|.const _=>true|_=>false) hT h hn ho (bM.map (ρ:=ρ) (ρ':=ρ') (l:=args.toList) fun x hx=>hρ x (by simp [Op.operands,Call.operands];simpa using hx))
   have e1:(args.toList.map ρ').toArray=args.map ρ':=by apply Array.ext';simp
   rw [e1] at this
   have e2:execOp ρ' ⟨dst,.call ⟨.builtin b,args,tys⟩,ty,pos,after,guard⟩=builtin b tys ty (args.map fun|.const _=>true|_=>false) (args.map ρ'):=rfl
   rw [e2]
   simpa using this
 all_goals cases ho
end
end Go.RM
namespace Go.RM
def nc:Option aR→Bool
 | some (.loop ..)=>true
 | _=>false
def xw (g:aD):bP→Prop
 | .put k _|.app k _=>g k ≠ none∧nc (g k)=false
 | _=>True
def uf (l:List Nat):bP→Prop
 | .put k _|.app k _=>k ∈ l
 | _=>True
section
variable {T : bz} {n : Nat} {g g' : aD}
theorem qf {k:Nat} {x:List Value × Bool × Nat} (h:cells? (g k)=some x):g k ≠ none∧nc (g k)=false:=by
 generalize g k=b at h
 cases b with
 | none=>cases h
 | some b=>cases b <;> first|exact ⟨by simp,rfl⟩|cases h
theorem ru {k:Nat} {x:List MapEntry × Nat} (h:map? (g k)=some x):g k ≠ none∧nc (g k)=false:=by
 generalize g k=b at h
 cases b with
 | none=>cases h
 | some b=>cases b <;> first|exact ⟨by simp,rfl⟩|cases h
theorem ry {v:Value} {k o:Nat} (h:addr? v=some (k,o)):k ∈ bZ v:=by rw [xq h];simp [bZ]
theorem gG {v:Value} {k:Nat} (h:gm v=some k):k ∈ bZ v:=by rw [ud h];simp [bZ]
def pq (g:aD) (l:List Nat) (e:bP):Prop:=xw g e∧uf l e
theorem fG {o:Option Value} {v:Value} {e:bP} {l:List Nat} (h:di o=some (v,e)):pq g l e:=by
 obtain ⟨_,_,rfl⟩:=pe h
 exact ⟨trivial,trivial⟩
theorem Cn {t:TypeId} {a x v:Value} {e:bP} (h:jx T t a x g=some (v,e)):pq g (bZ a) e:=by
 unfold jx at h
 split at h
 ·rename_i k o ha
  cases hc:cells? (g k) with
  | none=>rw [hc] at h;cases h
  | some c =>
   obtain ⟨cs,own,es⟩:=c
   cases ht:T.ty.get t with
   | none=>rw [hc,ht] at h;cases h
   | some r =>
    obtain ⟨und,s,bytes,zero,agg,bV,cw⟩:=r
    rw [hc,ht] at h
    simp only at h
    cases hb:(own && Nat.beq x.cells.toList.length s && Nat.ble (o+s) cs.length && x.cells.toList.all aZ) <;> rw [hb] at h
    ·cases h
    ·simp at h;obtain ⟨_,rfl⟩:=h;exact ⟨qf hc,ry ha⟩
 ·cases h
theorem wJ {t:TypeId} {m k v:Value} {e:bP} (h:dS T t m k g=some (v,e)):pq g (bZ m) e:=by
 unfold dS at h
 split at h
 ·rename_i kt z r _ hr
  split at h
  ·rename_i es clock hm
   unfold kZ at h
   split at h
   ·split at h
    ·rename_i x _
     cases hb:Instr.sameBits 10000 x.key k <;> rw [hb] at h
     ·cases h
     ·simp at h;obtain ⟨_,rfl⟩:=h;exact ⟨ru hm,gG hr⟩
    ·cases h
   ·rename_i z _ _
    cases hb:flat z <;> rw [hb] at h
    ·cases h
    ·simp at h;obtain ⟨_,rfl⟩:=h;exact ⟨ru hm,gG hr⟩
   ·cases h
  ·cases h
 ·cases h
theorem th {m s v:Value} {e:bP} (h:cN m s v g=some e):pq g (bZ m) e:=by
 unfold cN at h
 split at h
 ·rename_i r _ hr _
  split at h
  ·rename_i es clock hm
   split at h
   ·simp at h;subst h;exact ⟨ru hm,gG hr⟩
   ·cases h
  ·cases h
 ·cases h
theorem ug {t:TypeId} {m k v:Value} {e:bP} (h:dM T t m k v g=some e):pq g (bZ m) e:=by
 unfold dM at h
 split at h
 ·rename_i kt _ r _ hr
  split at h
  ·rename_i es clock hm
   unfold lQ at h
   split at h
   ·split at h
    ·rename_i x _
     cases hb:Instr.sameBits 10000 x.key k <;> rw [hb] at h
     ·cases h
     ·simp at h;subst h;exact ⟨ru hm,gG hr⟩
    ·cases h
   ·simp at h;subst h;exact ⟨ru hm,gG hr⟩
   ·cases h
  ·cases h
 ·cases h
theorem Ar {t:TypeId} {s x v:Value} {e:bP} (h:fC T n t s x g=some (v,e)):pq g (bZ s) e:=by
 unfold fC at h
 split at h
 ·rename_i inf _
  split at h
  ·rename_i base ln cp
   split at h
   ·rename_i m old new _ _ _
    cases hb:(Nat.ble ((ln+m) * inf.bytes) 140737488355328 && Nat.ble (ln+m) 9223372036854775807 && new.all aZ && bx inf) <;> rw [hb] at h
    ·cases h
    ·simp only [cond_true] at h
     cases hm:Nat.beq m 0 <;> rw [hm] at h
     ·simp only [cond_false] at h
      unfold gB at h
      cases hc:Nat.beq cp ln <;> rw [hc] at h
      ·simp only [cond_false] at h
       cases hin:Nat.ble (ln+m+3) cp <;> rw [hin] at h
       rotate_left
       ·simp only [cond_true] at h
        unfold kY at h
        split at h
        ·split at h
         ·rename_i k o _ _ cs own es hcs
          cases hd:(own && Nat.ble (o+(ln+m) * inf.size) cs.length) <;> rw [hd] at h
          ·cases h
          ·simp at h;obtain ⟨_,rfl⟩:=h;exact ⟨qf hcs,by simp [bZ,uf]⟩
         ·cases h
        ·cases h
       simp only [cond_false] at h
       split at h
       ·rename_i k
        split at h
        ·rename_i cs own es hcs
         cases hd:(own && Nat.beq cp (ln+1) && Nat.beq cs.length (ln * inf.size) && Nat.beq es inf.size) <;> rw [hd] at h
         ·cases h
         ·simp at h;obtain ⟨_,rfl⟩:=h;exact ⟨qf hcs,by simp [bZ,uf]⟩
        ·cases h
       ·cases h
      ·simp at h;obtain ⟨_,rfl⟩:=h;exact ⟨trivial,trivial⟩
     ·simp at h;obtain ⟨_,rfl⟩:=h;exact ⟨trivial,trivial⟩
   ·cases h
  ·cases h
 ·cases h
theorem uh {it v:Value} {e:bP} (h:jz it g=some (v,e)):xw g e:=by
 unfold jz at h
 split at h
 ·rename_i r _
  split at h
  ·rename_i s pos hr
   cases hb:Nat.blt pos s.data.toList.length <;> rw [hb] at h
   ·simp at h;obtain ⟨_,rfl⟩:=h;trivial
   ·simp at h;obtain ⟨_,rfl⟩:=h;exact ⟨by rw [hr];simp,by rw [hr];rfl⟩
  ·cases h
 ·cases h
theorem FM {P:Program} {l:List Value} {v:Value} {e:bP} {ks:List Nat} (h:yw P l=some (v,e)):pq g ks e:=by
 unfold yw at h
 split at h
 ·simp at h;obtain ⟨_,rfl⟩:=h;exact ⟨trivial,trivial⟩
 ·cases hb:l.all flat <;> rw [hb] at h
  ·cases h
  ·exact fG h
theorem FN {P:Program} {l:List Value} {v:Value} {e:bP} {ks:List Nat} (h:yx P l=some (v,e)):pq g ks e:=by
 unfold yx at h
 split at h
 ·simp at h;obtain ⟨_,rfl⟩:=h;exact ⟨trivial,trivial⟩
 ·cases hb:l.all flat <;> rw [hb] at h
  ·cases h
  ·exact fG h
theorem Co {t:TypeId} {x v:Value} {e:bP} {ks:List Nat} (h:jA T t x g=some (v,e)):pq g ks e:=by
 unfold jA at h
 split at h
 ·simp at h;obtain ⟨_,rfl⟩:=h;exact ⟨trivial,trivial⟩
 ·split at h
  ·simp at h;obtain ⟨_,rfl⟩:=h;exact ⟨trivial,trivial⟩
  ·cases h
 ·simp at h;obtain ⟨_,rfl⟩:=h;exact ⟨trivial,trivial⟩
 ·simp at h;obtain ⟨_,rfl⟩:=h;exact ⟨trivial,trivial⟩
 ·cases h
def Cp (o:Op) (ρ:Operand→Value):List Nat :=
 match o with
 | .store _ a _=>bZ (ρ a)
 | .mapEntry _ m _=>bZ (ρ m)
 | .entryStore _ m _ _=>bZ (ρ m)
 | .mapUpdate _ m _ _=>bZ (ρ m)
 | .call ⟨.builtin .append,args,_⟩=>match args.toList.map ρ with
  | [s,_]=>bZ s
  | _=>[]
 | .call ⟨.builtin .clear,args,_⟩=>match args.toList.map ρ with
  | [x]=>bZ x
  | _=>[]
 | _=>[]
theorem Cq {t:TypeId} {x v:Value} {e:bP} (h:mV T t x g=some (v,e)):pq g (bZ x) e:=by
 unfold mV at h
 split at h
 ·split at h
  ·rename_i hm
   simp at h;obtain ⟨_,rfl⟩:=h;exact ⟨ru hm,by simp [bZ,uf]⟩
  ·cases h
 ·split at h
  ·rename_i _ k o nn _ _ _ _ inf cs own es _ hcs
   cases hb:(Nat.ble 1 nn && own && bx inf && Nat.ble (o+nn * inf.size) cs.length) <;> rw [hb] at h
   ·cases h
   ·simp at h;obtain ⟨_,rfl⟩:=h;exact ⟨qf hcs,by simp [bZ,uf]⟩
  ·cases h
 ·cases h
theorem bX {ks:List Nat}:pq g ks .none:=⟨trivial,trivial⟩
theorem lW {ks:List Nat} {b:aR}:pq g ks (.new b):=⟨trivial,trivial⟩
theorem qg {o:Op} {ρ:Operand→Value} {v:Value} {e:bP} (h:i6 T n o ρ g=some (v,e)):xw g e∧((∀ it,o ≠ .next it true)→uf (Cp o ρ) e):=by
 have key:∀ {ks:List Nat},pq g ks e→Cp o ρ=ks→xw g e∧((∀ it,o ≠ .next it true)→uf (Cp o ρ) e):=fun hk he=>⟨hk.1,fun _=>by rw [he];exact hk.2⟩
 cases o <;> simp only [i6] at h
 case move x=>simp at h;obtain ⟨_,rfl⟩:=h;exact key bX rfl
 case assign x=>simp at h;obtain ⟨_,rfl⟩:=h;exact key bX rfl
 case pick c a b =>
  unfold sD at h
  split at h
  ·simp at h;obtain ⟨_,rfl⟩:=h;exact key bX rfl
  ·cases h
 case alloc t =>
  unfold qV at h
  split at h
  ·rename_i z _ _ _ _
   cases hb:z.cells.toList.all aN <;> rw [hb] at h
   ·cases h
   ·simp at h;obtain ⟨_,rfl⟩:=h;exact key lW rfl
  ·cases h
 case box t x =>
  unfold Er at h
  cases hb:(ρ x).cells.toList.all aZ <;> rw [hb] at h
  ·cases h
  ·simp at h;obtain ⟨_,rfl⟩:=h;exact key lW rfl
 case build t parts =>
  unfold oY at h
  split at h
  ·rename_i z _ _ _
   cases hb:z.cells.toList.all aN <;> rw [hb] at h
   ·cases h
   ·simp only [cond_true,Option.map_eq_some_iff,Prod.mk.injEq] at h
    obtain ⟨_,_,_,rfl⟩:=h
    exact key bX rfl
  ·cases h
 case buildSlice t len parts =>
  unfold gn at h
  split at h
  ·rename_i inf _
   cases hb:(Nat.ble (len * inf.size) 65536 && bx inf) <;> rw [hb] at h
   ·cases h
   ·simp only [cond_true] at h
    split at h
    ·simp at h;obtain ⟨_,rfl⟩:=h;exact key lW rfl
    ·cases h
  ·cases h
 case load t a =>
  unfold gC at h
  split at h
  ·split at h
   ·rename_i s _ _ agg _ _ _ _
    cases agg
    ·simp only [cond_false,Option.map_eq_some_iff,Prod.mk.injEq] at h
     obtain ⟨_,_,_,rfl⟩:=h
     exact key bX rfl
    ·simp only [cond_true,Option.map_eq_some_iff,Prod.mk.injEq] at h
     obtain ⟨_,_,_,rfl⟩:=h
     exact key bX rfl
   ·cases h
  ·cases h
 case store t a x=>exact key (Cn h) rfl
 case fieldAddr t a i =>
  unfold dj at h
  split at h
  ·split at h
   ·rename_i s _
    cases hb:Nat.ble 1 s <;> rw [hb] at h
    ·cases h
    ·simp at h;obtain ⟨_,rfl⟩:=h;exact key bX rfl
   ·cases h
  ·cases h
 case indexAddr t a ix =>
  have hi:∀ {cw k o len:Nat} {j:Int},oG cw k o len j=some (v,e)→pq g [] e:=by
   intro cw k o len j h
   unfold oG at h
   cases hb:(FC 0 j && Es j (.ofNat len)) <;> rw [hb] at h
   ·cases h
   ·simp at h;obtain ⟨_,rfl⟩:=h;exact bX
  unfold dm at h
  split at h
  ·split at h
   ·exact key (hi h) rfl
   ·cases h
  ·split at h
   ·exact key (hi h) rfl
   ·cases h
  ·cases h
 case index t a ix =>
  cases hb:(flat (ρ a) && flat (ρ ix)) <;> rw [hb] at h
  ·cases h
  ·exact key (fG h) rfl
 case field t a i =>
  cases hb:flat (ρ a) <;> rw [hb] at h
  ·cases h
  ·exact key (fG h) rfl
 case binOp o t x y yt =>
  have hs:∀ {a b:Value},fQ T.P o t x y a b=some (v,e)→pq g [] e:=by
   intro a b h
   unfold fQ at h
   cases hb:(flat a && flat b) <;> rw [hb] at h
   ·cases h
   ·exact fG h
  unfold eG at h
  split at h
  ·split at h
   ·simp at h;obtain ⟨_,rfl⟩:=h;exact key bX rfl
   ·exact key (hs h) rfl
  ·rw [cond_eq_ite] at h
   split at h
   ·unfold gS at h
    split at h
    ·simp at h;obtain ⟨_,rfl⟩:=h;exact key bX rfl
    ·simp at h;obtain ⟨_,rfl⟩:=h;exact key bX rfl
    ·cases h
   ·cases h
  ·rw [cond_eq_ite] at h
   split at h
   ·unfold gS at h
    split at h
    ·simp at h;obtain ⟨_,rfl⟩:=h;exact key bX rfl
    ·simp at h;obtain ⟨_,rfl⟩:=h;exact key bX rfl
    ·cases h
   ·cases h
  ·exact key (hs h) rfl
 case unOp o t x =>
  cases hb:flat (ρ x) <;> rw [hb] at h
  ·cases h
  ·exact key (fG h) rfl
 case convert s d x =>
  cases hb:flat (ρ x) <;> rw [hb] at h
  ·cases h
  ·exact key (fG h) rfl
 case makeInterface t x =>
  cases hb:flat (ρ x) <;> rw [hb] at h
  ·cases h
  ·exact key (fG h) rfl
 case extract x i =>
  unfold eY at h
  split at h
  ·simp only [Option.map_eq_some_iff,Prod.mk.injEq] at h
   obtain ⟨_,_,_,rfl⟩:=h
   exact key bX rfl
  ·cases h
 case makeFunc fn first captured =>
  unfold k7 at h
  split at h
  ·simp at h;obtain ⟨_,rfl⟩:=h;exact key bX rfl
  ·cases h
 case nilCheck x =>
  unfold gW at h
  split at h
  ·simp at h;obtain ⟨_,rfl⟩:=h;exact key bX rfl
  ·cases h
 case slice t x lo hi mx =>
  cases mx with
  | some _ =>
   cases hi with
   | none=>cases h
   | some hi =>
    simp only [Option.map_eq_some_iff,Prod.mk.injEq] at h
    obtain ⟨_,_,_,rfl⟩:=h
    exact key bX rfl
  | none =>
   simp only at h
   unfold eZ at h
   split at h
   ·cases hb:((lo.map ρ).toList.all flat && (hi.map ρ).toList.all flat) <;> rw [hb] at h
    ·cases h
    ·exact key (fG h) rfl
   ·simp only [Option.map_eq_some_iff,Prod.mk.injEq] at h
    obtain ⟨_,_,_,rfl⟩:=h
    exact key bX rfl
   ·simp only [Option.map_eq_some_iff,Prod.mk.injEq] at h
    obtain ⟨_,_,_,rfl⟩:=h
    exact key bX rfl
 case makeSlice t l c =>
  unfold gV at h
  split at h
  ·rename_i inf _
   split at h
   ·rename_i l c _ _
    cases hb:(Nat.ble l c && Nat.ble (inf.bytes * c) 140737488355328 && Nat.ble c 9223372036854775807 && bx inf) <;> rw [hb] at h
    ·cases h
    ·simp at h;obtain ⟨_,rfl⟩:=h;exact key lW rfl
   ·cases h
  ·cases h
 case makeMap t r =>
  cases r with
  | some _=>cases h
  | none=>simp at h;obtain ⟨_,rfl⟩:=h;exact key lW rfl
 case lookup t m k ok =>
  simp only [Option.map_eq_some_iff,Prod.mk.injEq] at h
  obtain ⟨_,_,_,rfl⟩:=h
  exact key bX rfl
 case mapEntry t m k=>exact key (wJ h) rfl
 case entryStore t m s x =>
  simp only [Option.map_eq_some_iff,Prod.mk.injEq] at h
  obtain ⟨_,hu,_,rfl⟩:=h
  exact key (th hu) rfl
 case mapUpdate t m k x =>
  simp only [Option.map_eq_some_iff,Prod.mk.injEq] at h
  obtain ⟨_,hu,_,rfl⟩:=h
  exact key (ug hu) rfl
 case range t x =>
  unfold qW at h
  split at h
  ·split at h
   ·simp at h;obtain ⟨_,rfl⟩:=h;exact key lW rfl
   ·cases h
  ·simp at h;obtain ⟨_,rfl⟩:=h;exact key lW rfl
  ·cases h
 case next it s =>
  cases s with
  | false=>cases h
  | true=>exact ⟨uh h,fun hn=>absurd rfl (hn it)⟩
 case entry it =>
  unfold qX at h
  split at h
  ·split at h
   ·split at h
    ·rw [cond_eq_ite] at h
     split at h <;> rename_i hb
     ·simp only [Option.map_eq_some_iff,Prod.mk.injEq] at h
      obtain ⟨_,_,_,rfl⟩:=h
      exact key bX rfl
     ·cases h
    ·cases h
   ·cases h
  ·cases h
 case call c =>
  obtain ⟨callee,args,tys⟩:=c
  unfold Ac at h
  cases callee with
  | value f=>cases h
  | invoke r m=>cases h
  | builtin b =>
   simp only at h
   unfold gE at h
   split at h
   ·split at h
    ·exact key (Co (ks:=[]) h) rfl
    ·cases h
   ·exact key (FM (ks:=[]) h) rfl
   ·exact key (FN (ks:=[]) h) rfl
   ·split at h
    ·rename_i x t ha _
     refine key (Cq h) ?_
     simp only [Cp]
     rw [ha]
    ·cases h
   ·split at h
    ·rename_i s x t u ha _
     split at h
     ·refine key (Ar h) ?_
      unfold Cp
      simp only [ha]
     ·cases h
    ·cases h
   ·cases h
 all_goals cases h
theorem Au {it:Value} {L:List (Value × bP)} (h:pU it g=some L):∀ p ∈ L,xw g p.2:=by
 unfold pU at h
 split at h
 ·rename_i r
  split at h
  ·rename_i m since seen last hr
   split at h
   ·rename_i es clock hm
    unfold tN at h
    intro p hp
    cases hb:(!seen.isEmpty && !es.isEmpty && es.all (fun e=>Nat.ble last e.born)) with
    | true=>rw [hb] at h;cases h
    | false =>
     rw [hb] at h
     simp only [cond_false,Option.some.injEq] at h
     subst h
     rcases List.mem_append.1 hp with hp|hp
     ·revert hp
      generalize (List.filter (fun e=>decide (e.born < since)) (List.filter (fun e=>!seen.contains e.born) es))=old
      cases old with
      | nil=>simp only [List.isEmpty_nil,cond_true,List.mem_singleton];intro e;subst e;trivial
      | cons=>simp
     ·obtain ⟨x,_,rfl⟩:=List.mem_map.1 hp
      exact ⟨by rw [hr];simp,by rw [hr];rfl⟩
   ·cases h
  ·cases h
 ·cases h
theorem ng {size:Nat} {v:Value} (h:∀ k ∈ bZ v,g' k=g k):bw g' size v=bw g size v:=by
 unfold bw
 split
 ·rfl
 ·rw [h _ (by simp [bZ])]
 ·rfl
theorem wK {t:TypeId} {s x:Value} (hs:∀ k ∈ bZ s,g' k=g k) (hx:∀ k ∈ bZ x,g' k=g k):fC T n t s x g'=fC T n t s x g:=by
 unfold fC
 have e1:∀ size,bw g' size x=bw g size x:=fun _=>ng hx
 have e2:∀ size,bw g' size s=bw g size s:=fun _=>ng hs
 simp only [e1,e2]
 split
 ·split
  ·rename_i base ln cp
   have hb:∀ inf m old new,gB n inf base ln cp m old new g'=gB n inf base ln cp m old new g:=by
    intro inf m old new
    have hi:kY inf base ln cp m new g'=kY inf base ln cp m new g:=by
     unfold kY
     split
     ·rename_i k o
      rw [hs k (by simp [bZ])]
     ·rfl
    unfold gB
    rw [hi]
    split
    ·rename_i k
     rw [hs k (by simp [bZ])]
    ·rfl
   simp only [hb]
  ·rfl
 ·rfl
theorem Av {t:TypeId} {a:Value} (h:∀ k ∈ bZ a,g' k=g k):gC T t a g'=gC T t a g:=by
 unfold gC
 cases ha:addr? a with
 | none=>rfl
 | some p=>simp only;rw [h p.1 (ry (o:=p.2) ha)]
theorem yK {t:TypeId} {a v:Value} (h:∀ k ∈ bZ a,g' k=g k):jx T t a v g'=jx T t a v g:=by
 unfold jx
 cases ha:addr? a with
 | none=>rfl
 | some p=>simp only;rw [h p.1 (ry (o:=p.2) ha)]
theorem wM {t:TypeId} {m k:Value} {ok:Bool} (h:∀ k ∈ bZ m,g' k=g k):j5 T t m k ok g'=j5 T t m k ok g:=by
 unfold j5
 cases hm:gm m with
 | none=>rfl
 | some r=>simp only [Option.bind_some];rw [h r (gG hm)]
theorem tj {t:TypeId} {m k:Value} (h:∀ k ∈ bZ m,g' k=g k):dS T t m k g'=dS T t m k g:=by
 unfold dS
 cases hm:gm m with
 | none=>cases jw T t <;> rfl
 | some r=>cases jw T t with
  | none=>rfl
  | some p=>simp only [h r (gG hm)]
theorem qh {m s v:Value} (h:∀ k ∈ bZ m,g' k=g k):cN m s v g'=cN m s v g:=by
 unfold cN
 cases hm:gm m with
 | none=>rfl
 | some r=>cases intOf? s with
  | none=>rfl
  | some p=>simp only [h r (gG hm)]
theorem rz {t:TypeId} {m k v:Value} (h:∀ k ∈ bZ m,g' k=g k):dM T t m k v g'=dM T t m k v g:=by
 unfold dM
 cases hm:gm m with
 | none=>cases jw T t <;> rfl
 | some r=>cases jw T t with
  | none=>rfl
  | some p=>simp only [h r (gG hm)]
theorem yL {t:TypeId} {x:Value} (h:∀ k ∈ bZ x,g' k=g k):jA T t x g'=jA T t x g:=by
 unfold jA
 split
 ·rfl
 ·rw [h _ (by simp [bZ])]
 ·rfl
 ·rfl
 ·rfl
theorem xx {o:Op} {ρ:Operand→Value} {r wr:List Nat} (ht:k9 o ρ=some (r,wr)) (hr:∀ k ∈ r,g' k=g k) (hw:∀ k ∈ wr,g' k=g k):i6 T n o ρ g'=i6 T n o ρ g:=by
 cases o <;> simp only [i6] <;> simp only [k9,Option.some.injEq,Prod.mk.injEq,reduceCtorEq] at ht
 case load t a=>obtain ⟨rfl,rfl⟩:=ht;exact Av hr
 case store t a x=>obtain ⟨rfl,rfl⟩:=ht;exact yK hw
 case lookup t m k ok=>obtain ⟨rfl,rfl⟩:=ht;rw [wM hr]
 case mapEntry t m k=>obtain ⟨rfl,rfl⟩:=ht;exact tj hw
 case entryStore t m s x=>obtain ⟨rfl,rfl⟩:=ht;rw [qh hw]
 case mapUpdate t m k x=>obtain ⟨rfl,rfl⟩:=ht;rw [rz hw]
 case makeMap t r=>cases r <;> rfl
 case slice t x lo hi mx=>cases mx <;> cases hi <;> rfl
 case call c =>
  obtain ⟨callee,args,tys⟩:=c
  cases callee with
  | value f=>rfl
  | invoke r m=>rfl
  | builtin b =>
   unfold Ac gE
   simp only
   cases b <;> try rfl
   case clear=>cases ht
   case len =>
    simp only at ht
    split at ht
    ·rename_i x hx
     simp only [Option.some.injEq,Prod.mk.injEq] at ht
     obtain ⟨rfl,rfl⟩:=ht
     rw [hx]
     cases tys.toList with
     | nil=>rfl
     | cons t l=>cases l with
      | nil=>exact yL hr
      | cons=>rfl
    ·cases ht
   case append =>
    simp only at ht
    split at ht
    ·rename_i s x hx
     simp only [Option.some.injEq,Prod.mk.injEq] at ht
     obtain ⟨rfl,rfl⟩:=ht
     rw [hx]
     have e1:∀ t,fC T n t s x g'=fC T n t s x g:=fun _=>wK hw hr
     cases tys.toList with
     | nil=>rfl
     | cons t l=>cases l with
      | nil=>rfl
      | cons u l2=>cases l2 with
       | nil=>simp only [e1]
       | cons=>rfl
    ·cases ht
theorem uj {o:Op} {ρ:Operand→Value} {r wr:List Nat} (ht:k9 o ρ=some (r,wr)):(∀ it,o ≠ .next it true)∧Cp o ρ=wr:=by
 refine ⟨fun it e=>(by subst e;cases ht),?_⟩
 cases o <;> simp only [k9,Option.some.injEq,Prod.mk.injEq,reduceCtorEq] at ht <;> try (exact ht.2)
 case call c =>
  obtain ⟨callee,args,tys⟩:=c
  cases callee with
  | value f=>simp only [Option.some.injEq,Prod.mk.injEq] at ht;exact ht.2
  | invoke r m=>simp only [Option.some.injEq,Prod.mk.injEq] at ht;exact ht.2
  | builtin b =>
   cases b <;> try (simp only [Option.some.injEq,Prod.mk.injEq] at ht;exact ht.2)
   case clear=>cases ht
   case len =>
    simp only at ht
    split at ht
    ·simp only [Option.some.injEq,Prod.mk.injEq] at ht;exact ht.2
    ·cases ht
   case append =>
    simp only at ht
    split at ht
    ·rename_i s x hx
     simp only [Option.some.injEq,Prod.mk.injEq] at ht
     simp only [Cp,hx];exact ht.2
    ·cases ht
end
def Wf (h:Hp):Prop:=∀ k,h.n≤k→h.get k=none
structure dw (a b:Hp):Prop where
 n:a.n≤b.n
 lo:b.lo≤a.lo
 same:∀ k,k < a.n→k < b.lo→b.get k=a.get k
 wf:Wf a→Wf b
 loop:Wf a→∀ k,nc (a.get k)=true→nc (b.get k)=true
theorem dw.refl (a:Hp):dw a a:=⟨Nat.le_refl _,Nat.le_refl _,fun _ _ _=>rfl,id,fun _ _ h=>h⟩
theorem dw.trans {a b c:Hp} (h:dw a b) (k:dw b c):dw a c :=
 ⟨Nat.le_trans h.n k.n,Nat.le_trans k.lo h.lo,fun i hi hl=>(k.same i (Nat.lt_of_lt_of_le hi h.n) hl).trans (h.same i hi (Nat.lt_of_lt_of_le hl k.lo)),fun hw=>k.wf (h.wf hw),fun hw i hi=>k.loop (h.wf hw) i (h.loop hw i hi)⟩
theorem dw.push (a:Hp) (b:aR):dw a (a.push b) :=
 ⟨Nat.le_succ _,Nat.le_refl _,fun k hk _=>by rw [Hp.dX,if_neg (by omega)],fun hw k hk=>by
  have hk':a.n+1≤k:=hk
  rw [Hp.dX,if_neg (by omega)];exact hw k (by omega),fun hw k hk=>by
  have hne:k ≠ a.n:=fun e=>by rw [hw k (by omega)] at hk;cases hk
  rw [Hp.dX,if_neg hne];exact hk⟩
theorem dw.put (a:Hp) (i:Nat) (b:aR) (hi:a.get i ≠ none) (hl:nc (a.get i)=true→nc (some b)=true):dw a (a.put i b) :=
 ⟨Nat.le_refl _,Nat.min_le_left _ _,fun k _ hl=>by
  have:k < i:=Nat.lt_of_lt_of_le hl (Nat.min_le_right _ _)
  rw [Hp.jg,if_neg (by omega)],fun hw k hk=>by
  have hk':a.n≤k:=hk
  rw [Hp.jg,if_neg (fun e=>hi (by rw [←e];exact hw k hk'))];exact hw k hk',fun _ k hk=>by
  rw [Hp.jg]
  split
  ·rename_i e
   rw [e] at hk
   exact hl hk
  ·exact hk⟩
theorem dw.app (a:Hp) (e:bP) (he:xw a.get e):dw a (a.app e):=by
 cases e with
 | none=>exact .refl a
 | new b=>exact .push a b
 | put k b=>exact .put a k b he.1 (fun h=>by rw [he.2] at h;cases h)
 | app k b=>exact (dw.put a k .dead he.1 (fun h=>by rw [he.2] at h;cases h)).trans (dw.push _ _)
section bind
variable {α β : Type}
theorem lf (f:α→Option (List β)):bu [] f=some []:=rfl
theorem dY (a:α) (f:α→Option (List β)):bu [a] f=f a:=rfl
theorem fY (a b:α) (l:List α) (f:α→Option (List β)):bu (a :: b :: l) f=match f a with
 | some x=>(bu (b :: l) f).map (x++·)
 | none=>none:=rfl
theorem cm {f:α→Option (List β)}:∀ {L:List α} {M:List β},bu L f=some M→∀ a ∈ L,∃ Ma,f a=some Ma∧∀ b ∈ Ma,b ∈ M
 | [],_,_,a,ha=>by cases ha
 | [x],M,h,a,ha=>by
  rw [dY] at h
  obtain rfl:=List.mem_singleton.1 ha
  exact ⟨M,h,fun _ hb=>hb⟩
 | x :: y :: l,M,h,a,ha=>by
  rw [fY] at h
  cases hx:f x with
  | none=>rw [hx] at h;cases h
  | some X =>
   rw [hx] at h
   simp only [Option.map_eq_some_iff] at h
   obtain ⟨Y,hY,rfl⟩:=h
   rcases List.mem_cons.1 ha with rfl|ha
   ·exact ⟨X,hx,fun b hb=>List.mem_append.2 (.inl hb)⟩
   ·obtain ⟨Ma,h1,h2⟩:=cm hY a ha
    exact ⟨Ma,h1,fun b hb=>List.mem_append.2 (.inr (h2 b hb))⟩
theorem fZ {f:α→Option (List β)}:∀ {L:List α} {M:List β},bu L f=some M→∀ b ∈ M,∃ a ∈ L,∃ Ma,f a=some Ma∧b ∈ Ma
 | [],M,h,b,hb=>by rw [lf] at h;cases h;cases hb
 | [x],M,h,b,hb=>by
  rw [dY] at h
  exact ⟨x,by simp,M,h,hb⟩
 | x :: y :: l,M,h,b,hb=>by
  rw [fY] at h
  cases hx:f x with
  | none=>rw [hx] at h;cases h
  | some X =>
   rw [hx] at h
   simp only [Option.map_eq_some_iff] at h
   obtain ⟨Y,hY,rfl⟩:=h
   rcases List.mem_append.1 hb with hb|hb
   ·exact ⟨x,by simp,X,hx,hb⟩
   ·obtain ⟨a,ha,Ma,h1,h2⟩:=fZ hY b hb
    exact ⟨a,List.mem_cons_of_mem _ ha,Ma,h1,h2⟩
theorem Aw {f:α→Option (List β)} {L:List α} {M:List β} (h:bu L f=some M) (hL:L ≠ []) (hf:∀ a ∈ L,∀ Ma,f a=some Ma→Ma ≠ []):M ≠ []:=by
 cases L with
 | nil=>exact absurd rfl hL
 | cons a l =>
  obtain ⟨Ma,h1,h2⟩:=cm h a (by simp)
  have:=hf a (by simp) Ma h1
  cases Ma with
  | nil=>exact absurd rfl this
  | cons x _=>intro e;subst e;exact absurd (h2 x (by simp)) (by simp)
end bind
def pR.hp:pR→Hp
 | .call _ _ h=>h
 | .round _ _ h=>h
 | .loop _ st=>st.hp
def fJ.hp:fJ→Hp
 | .ret _ h=>h
 | .out _ st=>st.hp
def Good (a:Hp) {β:Type} (f:β→Hp) (M:List β):Prop:=M ≠ []∧∀ b ∈ M,dw a (f b)
def aW (rec:pR→Option (List fJ)):Prop:=∀ j L,rec j=some L→Good j.hp fJ.hp L
theorem Good.one {a:Hp} {β:Type} {f:β→Hp} {b:β} (h:dw a (f b)):Good a f [b]:=⟨by simp,fun x hx=>by obtain rfl:=List.mem_singleton.1 hx;exact h⟩
theorem Good.bind {a:Hp} {α β:Type} {f:α→Hp} {f':β→Hp} {L:List α} {M:List β} {k:α→Option (List β)} (h:bu L k=some M) (hL:Good a f L) (hk:∀ x,∀ Mx,k x=some Mx→Good (f x) f' Mx):Good a f' M :=
 ⟨Aw h hL.1 fun x _ Mx hx=>(hk x Mx hx).1,fun b hb=>by
  obtain ⟨x,hx,Mx,h1,h2⟩:=fZ h b hb
  exact (hL.2 x hx).trans ((hk x Mx h1).2 b h2)⟩
theorem Good.map {a:Hp} {α β:Type} {f:α→Hp} {f':β→Hp} {L:List α} {k:α→β} (hL:Good a f L) (hk:∀ x,f' (k x)=f x):Good a f' (L.map k) :=
 ⟨by intro e;exact hL.1 (List.map_eq_nil_iff.1 e),fun b hb=>by
  obtain ⟨x,hx,rfl⟩:=List.mem_map.1 hb
  rw [hk];exact hL.2 x hx⟩
section
variable {T : bz} {rec : pR → Option (List fJ)}
theorem qi (H:Hp) (g:Goal):(gT H g).hp=H:=by cases g <;> rfl
theorem FO {it:Value} {g:aD} {L:List (Value × bP)} (h:pU it g=some L):L ≠ []:=by
 have key:∀ {r m since last clock:Nat} {seen:List Nat} {es:List MapEntry},tN r m since seen last es clock=some L→L ≠ []:=by
  intro r m since last clock seen es h
  unfold tN at h
  cases hb:(!seen.isEmpty && !es.isEmpty && es.all (fun e=>Nat.ble last e.born)) with
  | true=>rw [hb] at h;cases h
  | false =>
   rw [hb] at h
   simp only [cond_false,Option.some.injEq] at h
   rw [←h]
   generalize (es.filter fun e=>!seen.contains e.born).filter (fun e=>decide (e.born < since))=old
   cases old with
   | nil=>simp
   | cons x l=>simp
 unfold pU at h
 split at h
 ·split at h
  ·split at h
   ·exact key h
   ·cases h
  ·cases h
 ·cases h
theorem pz (hr:aW rec) {o:Op} {st:St} {L:List (Value × Hp)} (h:eO T rec o st=some L):Good st.hp (fun p=>p.2) L:=by
 unfold eO at h
 split at h
 ·rename_i f args _
  split at h
  ·rename_i g _
   cases hj:rec (gT st.hp g) with
   | none=>rw [hj] at h;cases h
   | some R =>
    rw [hj] at h
    have:=hr _ _ hj
    rw [qi] at this
    refine Good.bind h this fun x Mx hx=>?_
    cases x with
    | ret v hp=>simp only [valOf,Option.some.injEq] at hx;subst hx;exact .one (.refl _)
    | out e s=>cases hx
  ·cases h
 ·rename_i it _
  simp only [Option.map_eq_some_iff] at h
  obtain ⟨N,hN,rfl⟩:=h
  refine ⟨by intro e;exact FO hN (List.map_eq_nil_iff.1 e),fun p hp=>?_⟩
  obtain ⟨⟨v,e⟩,hm,rfl⟩:=List.mem_map.1 hp
  exact dw.app _ _ (Au hN _ hm)
 ·split at h
  ·rename_i hop
   simp only [Option.some.injEq] at h
   subst h
   exact .one (dw.app _ _ (qg hop).1)
  ·cases h
theorem iE (ops:List Oper) (st:St):aM T rec ops [] st=some [st]:=rfl
theorem bY (ops:List Oper) (o:Oper) (l:List Oper) (st:St):aM T rec ops (o :: l) st =
 cond (bA ops st.fr o.guard)
  (match eO T rec o.op st with
   | some L=>bu L fun p=>aM T rec ops l ⟨dQ st.fr o.dst p.1,p.2,st.rd⟩
   | none=>none)
  (aM T rec ops l ⟨dQ st.fr o.dst undef,st.hp,st.rd⟩):=rfl
theorem eC (hr:aW rec) (ops:List Oper):∀ (l:List Oper) (st:St) (L:List St),aM T rec ops l st=some L→Good st.hp St.hp L∧∀ s ∈ L,s.rd=st.rd:=by
 intro l
 induction l with
 | nil=>intro st L h;rw [iE] at h;cases h;exact ⟨.one (.refl _),by simp⟩
 | cons o l ih =>
  intro st L h
  rw [bY] at h
  cases hg:bA ops st.fr o.guard with
  | false=>rw [hg] at h;simp only [cond_false] at h;exact ih ⟨dQ st.fr o.dst undef,st.hp,st.rd⟩ _ h
  | true =>
   rw [hg] at h
   simp only [cond_true] at h
   cases ha:eO T rec o.op st with
   | none=>rw [ha] at h;cases h
   | some A =>
    rw [ha] at h
    refine ⟨Good.bind h (pz hr ha) fun p Mx hx=>(ih _ _ hx).1,fun s hs=>?_⟩
    obtain ⟨p,_,Mx,h1,h2⟩:=fZ h s hs
    exact (ih _ _ h1).2 s h2
theorem eD (ops:Array Oper) (i:Nat) (st:St) (acc:List Ev):bW T rec ops [] i st acc=cond (cV T ops acc) (some [st]) none:=rfl
theorem bH (ops:Array Oper) (o:Oper) (l:List Oper) (i:Nat) (st:St) (acc:List Ev):bW T rec ops (o :: l) i st acc =
 cond (bA ops.toList st.fr o.guard)
  (match bf T rec o.op i st with
   | some (v,hp,t)=>bW T rec ops l (i+1) ⟨dQ st.fr o.dst v,hp,st.rd⟩ (⟨o,st,v,hp,t⟩ :: acc)
   | none=>none)
  (bW T rec ops l (i+1) ⟨dQ st.fr o.dst undef,st.hp,st.rd⟩ (⟨o,st,undef,st.hp,⟨i,[],[],false,st.hp.n,st.hp.n⟩⟩ :: acc)):=rfl
theorem Cr {n lo k:Nat} (h:k ∈ Om n lo):lo≤k∧k < n:=by
 unfold Om at h
 cases hc:Nat.ble n lo with
 | true=>rw [hc] at h;cases h
 | false =>
  rw [hc] at h
  simp only [cond_false,List.mem_range'_1] at h
  omega
theorem JU {n lo k:Nat} (h:k ∉ Om n lo) (hk:k < n):k < lo:=by
 unfold Om at h
 cases hc:Nat.ble n lo with
 | true=>have:=Nat.le_of_ble_eq_true hc;omega
 | false =>
  rw [hc] at h
  simp only [cond_false,List.mem_range'_1,not_and,Nat.not_lt] at h
  apply Nat.lt_of_not_le
  intro hle
  have:=h hle
  omega
theorem nW {i:Nat} {st:St} {v:Value} {hp:Hp} (h:Nat.ble st.hp.n hp.lo=true):i7 i st v hp=(v,{hp with lo:=st.hp.lo},⟨i,[],[],true,st.hp.n,hp.n⟩):=by
 unfold i7 Om
 rw [h]
 rfl
theorem uo {i:Nat} {st:St} {v:Value} {hp:Hp} (hk:dw {st.hp with lo:=st.hp.n} hp):dw st.hp (i7 i st v hp).2.1:=by
 have hn:st.hp.n≤hp.n:=hk.n
 refine ⟨hn,?_,fun k hk1 hk2=>?_,hk.wf,hk.loop⟩
 ·show (bif Nat.ble st.hp.n hp.lo then st.hp.lo else min st.hp.lo hp.lo)≤st.hp.lo
  cases Nat.ble st.hp.n hp.lo with
  | true=>exact Nat.le_refl _
  | false=>exact Nat.min_le_left _ _
 ·refine hk.same k hk1 ?_
  have hk2:k < (bif Nat.ble st.hp.n hp.lo then st.hp.lo else min st.hp.lo hp.lo):=hk2
  cases hc:Nat.ble st.hp.n hp.lo with
  | true=>have:=Nat.le_of_ble_eq_true hc;omega
  | false=>rw [hc] at hk2;simp only [cond_false] at hk2;omega
theorem j9 (hr:aW rec) {o:Op} {i:Nat} {st:St} {v:Value} {hp:Hp} {t:Tc} (h:bf T rec o i st=some (v,hp,t)):dw st.hp hp:=by
 unfold bf at h
 split at h
 ·split at h
  ·rename_i g _
   split at h
   ·rename_i v' hp' hj
    have e:=Option.some.inj h
    have:=hr _ _ hj
    rw [qi] at this
    have hk:dw st.hp (i7 i st v' hp').2.1:=uo (this.2 _ (List.mem_singleton.2 rfl))
    rw [e] at hk
    exact hk
   ·cases h
  ·cases h
 ·cases h
 ·split at h
  ·rename_i hop
   simp only [Option.some.injEq,Prod.mk.injEq] at h
   obtain ⟨_,rfl,_⟩:=h
   exact dw.app _ _ (qg hop).1
  ·cases h
theorem oK (hr:aW rec) (ops:Array Oper):∀ (l:List Oper) (i:Nat) (st:St) (acc:List Ev) (L:List St),bW T rec ops l i st acc=some L→Good st.hp St.hp L∧∀ s ∈ L,s.rd=st.rd:=by
 intro l
 induction l with
 | nil =>
  intro i st acc L h
  rw [eD] at h
  cases hc:cV T ops acc with
  | false=>rw [hc] at h;cases h
  | true=>rw [hc] at h;simp at h;subst h;exact ⟨.one (.refl _),by simp⟩
 | cons o l ih =>
  intro i st acc L h
  rw [bH] at h
  cases hg:bA ops.toList st.fr o.guard with
  | false=>rw [hg] at h;simp only [cond_false] at h;exact ih _ ⟨dQ st.fr o.dst undef,st.hp,st.rd⟩ _ _ h
  | true =>
   rw [hg] at h
   simp only [cond_true] at h
   cases ha:bf T rec o.op i st with
   | none=>rw [ha] at h;cases h
   | some p =>
    obtain ⟨v,hp,t⟩:=p
    rw [ha] at h
    have:=ih _ _ _ _ h
    have hk:=j9 hr ha
    exact ⟨⟨this.1.1,fun s hs=>hk.trans (this.1.2 s hs)⟩,this.2⟩
theorem uq (st:St):bg T rec .skip st=some [(.normal,st)]:=rfl
theorem sG (l:Nat) (st:St):bg T rec (.label l) st=some [(.normal,st)]:=rfl
theorem kO {ops:Array Oper} {st:St} {L:List St} (h:ck T rec ops st=some L):(∃ c,tS ops=some c∧Dz T rec ops c st=some L)∨(tS ops=none∧∃ M,bW T rec ops (ops.toList.take (fK ops)) 0 st []=some M∧bu M (aM T rec ops.toList (ops.toList.drop (fK ops)))=some L):=by
 unfold ck at h
 split at h
 ·exact .inl ⟨_,by assumption,h⟩
 ·refine .inr ⟨by assumption,?_⟩
  split at h
  ·exact ⟨_,by assumption,h⟩
  ·cases h
theorem wN (ops:Array Oper) (K:St→List Ev→Option (List St)) (i:Nat) (st:St) (acc:List Ev):dU T rec ops [] K i st acc=K st acc:=rfl
theorem dZ (ops:Array Oper) (K:St→List Ev→Option (List St)) (o:Oper) (l:List Oper) (i:Nat) (st:St) (acc:List Ev):dU T rec ops (o :: l) K i st acc =
 cond (bA ops.toList st.fr o.guard)
  (match bf T rec o.op i st with
   | some (v,hp,t)=>dU T rec ops l K (i+1) ⟨dQ st.fr o.dst v,hp,st.rd⟩ (⟨o,st,v,hp,t⟩ :: acc)
   | none=>none)
  (dU T rec ops l K (i+1) ⟨dQ st.fr o.dst undef,st.hp,st.rd⟩ (⟨o,st,undef,st.hp,⟨i,[],[],false,st.hp.n,st.hp.n⟩⟩ :: acc)):=rfl
theorem ur (hr:aW rec) (ops:Array Oper) (K:St→List Ev→Option (List St)):∀ (l:List Oper) (i:Nat) (st:St) (acc:List Ev) (L:List St),dU T rec ops l K i st acc=some L→∃ st' acc',dw st.hp st'.hp∧st'.rd=st.rd∧K st' acc'=some L:=by
 intro l
 induction l with
 | nil=>intro i st acc L h;exact ⟨st,acc,.refl _,rfl,h⟩
 | cons o l ih =>
  intro i st acc L h
  rw [dZ] at h
  cases hg:bA ops.toList st.fr o.guard with
  | false=>rw [hg] at h;simp only [cond_false] at h;exact ih _ ⟨dQ st.fr o.dst undef,st.hp,st.rd⟩ _ _ h
  | true =>
   rw [hg] at h
   simp only [cond_true] at h
   cases ha:bf T rec o.op i st with
   | none=>rw [ha] at h;cases h
   | some p =>
    obtain ⟨v,hp,t⟩:=p
    rw [ha] at h
    obtain ⟨st',acc',h1,h2,h3⟩:=ih _ _ _ _ h
    exact ⟨st',acc',(j9 hr ha).trans h1,h2,h3⟩
theorem gq {i:Nat} {st:St} {r:fJ} {P:List (Value × Hp × Tc)} (h:tR i st r=some P):∃ v hp,r=.ret v hp∧P=[i7 i st v hp]:=by
 cases r with
 | ret v hp=>exact ⟨v,hp,rfl,(Option.some.inj h).symm⟩
 | out e s=>cases h
theorem wO (hr:aW rec) {o:Op} {i:Nat} {st:St} {P:List (Value × Hp × Tc)} (h:dG T rec o i st=some P):Good st.hp (fun p=>p.2.1) P:=by
 unfold dG at h
 split at h
 ·split at h
  ·rename_i g _
   split at h
   ·rename_i R hj
    have:=hr _ _ hj
    rw [qi] at this
    refine ⟨Aw h this.1 fun r _ Pr hp=>?_,fun p hp=>?_⟩
    ·obtain ⟨v,hp,_,rfl⟩:=gq hp
     simp
    ·obtain ⟨r,hrm,Pr,h1,h2⟩:=fZ h p hp
     obtain ⟨v,hp',rfl,rfl⟩:=gq h1
     obtain rfl:=List.mem_singleton.1 h2
     exact uo (this.2 _ hrm)
   ·cases h
  ·cases h
 ·cases h
theorem uu (hr:aW rec) {ops:Array Oper} {o:Oper} {i:Nat} {st:St} {P:List (Value × Hp × Tc)} (h:iA T rec ops o i st=some P):Good st.hp (fun p=>p.2.1) P:=by
 unfold iA at h
 cases hg:bA ops.toList st.fr o.guard with
 | true =>
  rw [hg] at h
  exact wO hr h
 | false =>
  rw [hg] at h
  simp only [cond_false,Option.some.injEq] at h
  subst h
  exact ⟨by simp,fun p hp=>by rw [List.mem_singleton.1 hp];exact .refl _⟩
theorem pE {ops:Array Oper} {c:Nat} {st:St} {acc:List Ev} {L:List St} (h:pX T rec ops c st acc=some L):∃ o P,ops.toList[c]?=some o∧iA T rec ops o c st=some P∧(∀ p ∈ P,cV T ops (⟨o,st,p.1,p.2.1,p.2.2⟩ :: acc)=true)∧(bu P fun p=>aM T rec ops.toList (ops.toList.drop (c+1)) ⟨dQ st.fr o.dst p.1,p.2.1,st.rd⟩)=some L:=by
 unfold pX at h
 split at h
 ·rename_i o ho
  split at h
  ·rename_i P hP
   cases hq:P.all fun p=>cV T ops (⟨o,st,p.1,p.2.1,p.2.2⟩ :: acc) with
   | false=>rw [hq] at h;cases h
   | true =>
    rw [hq] at h
    exact ⟨o,P,ho,hP,List.all_eq_true.1 hq,h⟩
  ·cases h
 ·cases h
theorem Cs (hr:aW rec) (ops:Array Oper) (c:Nat) (st:St) (L:List St) (h:Dz T rec ops c st=some L):Good st.hp St.hp L:=by
 obtain ⟨st',acc',h1,h2,h3⟩:=ur hr _ _ _ _ _ _ _ h
 obtain ⟨o,P,_,hP,_,hL⟩:=pE h3
 have hg:=uu hr hP
 have hg':Good st.hp (fun p:Value × Hp × Tc=>p.2.1) P:=⟨hg.1,fun p hp=>h1.trans (hg.2 p hp)⟩
 exact Good.bind hL hg' fun p Mx hx=>(eC hr _ _ _ _ hx).1
theorem wP (hr:aW rec) (ops:Array Oper) (st:St) (L:List St) (h:ck T rec ops st=some L):Good st.hp St.hp L:=by
 rcases kO h with ⟨c,_,h⟩|⟨_,M,h1,h2⟩
 ·exact Cs hr _ _ _ _ h
 ·exact Good.bind h2 (oK hr _ _ _ _ _ _ h1).1 fun x Mx hx=>(eC hr _ _ _ _ hx).1
theorem cX (id:Nat) (ops:Array Oper) (draw:Bool) (st:St):bg T rec (.region id ops draw) st =
 match cond draw (ck T rec ops st) (aM T rec ops.toList ops.toList st) with
  | some L=>some (L.map fun s=>(.normal,s))
  | none=>none:=rfl
theorem lg (a b:Code) (st:St):bg T rec (.seq a b) st=match bg T rec a st with
 | some L=>bu L (tT (bg T rec b))
 | none=>none:=rfl
theorem jC (c:Operand) (a b:Code) (st:St):bg T rec (.cond c a b) st=match aU st.fr c with
 | .bool t=>cond t (bg T rec a st) (bg T rec b st)
 | _=>none:=rfl
theorem kg (id:Nat) (c:Code) (st:St):bg T rec (.block id c) st=match bg T rec c st with
 | some L=>some (L.map (fE id))
 | none=>none:=rfl
theorem lX (c:Code) (st:St):bg T rec (.loop c) st=match rec (.loop c st) with
 | some L=>bu L Ae
 | none=>none:=rfl
theorem uw (id:Nat) (st:St):bg T rec (.exit id) st=some [(.exit id,st)]:=rfl
theorem xy (st:St):bg T rec .ret st=some [(.ret,st)]:=rfl
theorem ki (f:Operand) (ps:Array Tmp) (a b:Code) (st:St):bg T rec (.rangeFunc f ps a b) st=lR rec f ps a b st:=rfl
theorem kj (c:Code) (st:St):bg T rec (.scope c) st=tU (bg T rec c st):=rfl
theorem nh {o:Option (List (Exit × St))} {L:List (Exit × St)} (h:tU o=some L):o=some L∧∀ p ∈ L,∀ l,p.1 ≠ .goto l:=by
 unfold tU at h
 split at h
 ·rename_i M
  cases hb:M.all noGoto with
  | false=>rw [hb] at h;cases h
  | true =>
   rw [hb] at h
   simp only [cond_true,Option.some.injEq] at h
   subst h
   refine ⟨rfl,fun p hp l e=>?_⟩
   have:=List.all_eq_true.1 hb p hp
   unfold noGoto at this
   rw [e] at this
   cases this
 ·cases h
theorem ux (l:Nat) (st:St):bg T rec (.goto l) st=none:=rfl
theorem qj (y:String) (st:St):bg T rec (.refuse y) st=none:=rfl
theorem kP {l : Nat} {fr : Tr Value} {rd : Bool} {r : fJ} {M : List (Exit × St)} (h : iB l fr rd r = some M) :
    ∃ v hp s pend fr0 ps as bd, r = .ret v hp ∧ hp.get l = some (.loop s pend fr0 ps as bd) ∧ s ≠ .busy ∧
      ((pend = none ∧ M = [(.normal, ⟨fr, hp.put l (.loop .exhausted pend fr0 ps as bd), rd⟩)]) ∨ (pend = some .ret ∧ M = [(.ret, ⟨fr, hp.put l (.loop .exhausted pend fr0 ps as bd), rd⟩)]) ∨
        ∃ id, pend = some (.exit id) ∧ M = [(.exit id, ⟨fr, hp.put l (.loop .exhausted pend fr0 ps as bd), rd⟩)]) := by
  cases r with
  | out e s => cases h
  | ret v hp =>
    unfold iB at h
    simp only at h
    split at h
    · rename_i s pend fr0 ps as bd hl
      refine ⟨v, hp, s, pend, fr0, ps, as, bd, rfl, hl, ?_⟩
      have hs : s ≠ .busy := fun e => by subst e; simp at h
      refine ⟨hs, ?_⟩
      cases pend with
      | none => cases s <;> simp at h hs ⊢ <;> exact h.symm
      | some c =>
        cases c with
        | ret => refine .inr (.inl ⟨rfl, ?_⟩); cases s <;> simp at h hs ⊢ <;> exact h.symm
        | exit id => refine .inr (.inr ⟨id, rfl, ?_⟩); cases s <;> simp at h hs ⊢ <;> exact h.symm
        | _ => cases s <;> simp at h
    · cases h
theorem gX (hr:aW rec):∀ (c:Code) (st:St) (L:List (Exit × St)),bg T rec c st=some L→Good st.hp (fun p=>p.2.hp) L:=by
 intro c
 induction c with
 | skip=>intro st L h;rw [uq] at h;cases h;exact .one (.refl _)
 | label l=>intro st L h;rw [sG] at h;cases h;exact .one (.refl _)
 | exit id=>intro st L h;rw [uw] at h;cases h;exact .one (.refl _)
 | ret=>intro st L h;rw [xy] at h;cases h;exact .one (.refl _)
 | scope c ih=>intro st L h;rw [kj] at h;exact ih st L (nh h).1
 | goto l=>intro st L h;rw [ux] at h;cases h
 | refuse y=>intro st L h;rw [qj] at h;cases h
 | region id ops draw =>
  intro st L h
  rw [cX] at h
  cases draw with
  | true =>
   simp only [cond_true] at h
   cases hx:ck T rec ops st with
   | none=>rw [hx] at h;cases h
   | some R=>rw [hx] at h;simp only [Option.some.injEq] at h;subst h;exact (wP hr _ _ _ hx).map fun _=>rfl
  | false =>
   simp only [cond_false] at h
   cases hx:aM T rec ops.toList ops.toList st with
   | none=>rw [hx] at h;cases h
   | some R=>rw [hx] at h;simp only [Option.some.injEq] at h;subst h;exact (eC hr _ _ _ _ hx).1.map fun _=>rfl
 | seq a b iha ihb =>
  intro st L h
  rw [lg] at h
  cases hx:bg T rec a st with
  | none=>rw [hx] at h;cases h
  | some R =>
   rw [hx] at h
   refine Good.bind h (iha _ _ hx) fun p Mx hp=>?_
   unfold tT at hp
   split at hp
   ·exact ihb _ _ hp
   ·simp only [Option.some.injEq] at hp;subst hp;exact .one (.refl _)
 | cond c a b iha ihb =>
  intro st L h
  rw [jC] at h
  split at h
  ·rename_i t _
   cases t with
   | true=>exact iha _ _ h
   | false=>exact ihb _ _ h
  ·cases h
 | block id c ih =>
  intro st L h
  rw [kg] at h
  cases hx:bg T rec c st with
  | none=>rw [hx] at h;cases h
  | some R =>
   rw [hx] at h
   simp only [Option.some.injEq] at h
   subst h
   refine (ih _ _ hx).map fun p=>?_
   unfold fE
   split <;> rfl
 | loop c _ =>
  intro st L h
  rw [lX] at h
  cases hx:rec (.loop c st) with
  | none=>rw [hx] at h;cases h
  | some R =>
   rw [hx] at h
   refine Good.bind h (hr _ _ hx) fun p Mx hp=>?_
   cases p with
   | ret=>cases hp
   | out e s=>simp only [Ae,Option.some.injEq] at hp;subst hp;exact .one (.refl _)
 | rangeFunc f ps a b _ _ =>
  intro st L h
  rw [ki] at h
  unfold lR at h
  split at h
  ·rename_i g args _
   cases hx:rec (.call g args (st.hp.push (.loop .ready none st.fr ps a b))) with
   | none=>rw [hx] at h;cases h
   | some R =>
    rw [hx] at h
    have hk:=hr _ _ hx
    have hk':Good st.hp fJ.hp R:=⟨hk.1,fun r hr'=>(dw.push _ _).trans (hk.2 r hr')⟩
    refine Good.bind h hk' fun p Mx hp=>?_
    obtain ⟨v,hp2,s,pend,fr0,ps',as',bd',rfl,hgt,_,h1|h1|⟨_,h1⟩⟩:=kP hp <;> (obtain ⟨_,rfl⟩:=h1;exact .one (dw.put hp2 _ _ (by rw [hgt];simp) (fun _=>rfl)))
  ·cases h
theorem jD (f:FuncId) (args:List Value) (hp:Hp):gF T rec (.call f args hp)=match T.fn.get f with
 | some fn=>match fn.body with
  | some c=>match bg T rec c ⟨setArgs .leaf 0 args,hp,false⟩ with
   | some L=>bu L (eA T fn.results.toList)
   | none=>none
  | none=>none
 | none=>none:=rfl
theorem ni (l:Nat) (args:List Value) (hp:Hp):gF T rec (.round l args hp)=match hp.get l with
 | some (.loop .ready _ fr ps as bd)=>cond (Nat.beq args.length ps.toList.length)
  (match bg T rec as ⟨dV fr (ps.toList.zip args),hp,true⟩ with
  | some L=>bu L (cC T rec l bd)
  | none=>none) none
 | _=>none:=rfl
theorem pF (c:Code) (st:St):gF T rec (.loop c st)=match bg T rec c st with
 | some L=>bu L (dW rec c)
 | none=>none:=rfl
theorem lY {rs:List ResultVar} {p:Exit × St} {M:List fJ} (h:eA T rs p=some M):(p.1=.normal∨p.1=.ret)∧∃ vs,j7 T p.2.fr p.2.hp rs=some vs∧M=[.ret (cH vs) p.2.hp]:=by
 obtain ⟨e,s⟩:=p
 unfold eA at h
 cases e with
 | normal=>simp only [Option.map_eq_some_iff] at h;obtain ⟨vs,a,b⟩:=h;exact ⟨.inl rfl,vs,a,b.symm⟩
 | ret=>simp only [Option.map_eq_some_iff] at h;obtain ⟨vs,a,b⟩:=h;exact ⟨.inr rfl,vs,a,b.symm⟩
 | _=>simp at h
theorem jE {l : Nat} {p : Exit × St} {M : List fJ} (h : fF l p = some M) : ∃ st pend fr ps as bd, p.2.hp.get l = some (.loop st pend fr ps as bd) ∧
    ((p.1 = .normal ∧ M = [.ret (.bool true) (p.2.hp.put l (.loop .ready none fr ps as bd))]) ∨
     (p.1 = .ret ∧ M = [.ret (.bool false) (p.2.hp.put l (.loop .done (some .ret) fr ps as bd))]) ∨
     ∃ id, p.1 = .exit id ∧ M = [.ret (.bool false) (p.2.hp.put l (.loop .done (some (.exit id)) fr ps as bd))]) := by
  obtain ⟨e, s⟩ := p
  unfold fF at h
  simp only at h
  split at h
  · rename_i st pend fr ps as bd hl
    refine ⟨st, pend, fr, ps, as, bd, hl, ?_⟩
    cases e with
    | normal => simp only [Option.some.injEq] at h; exact .inl ⟨rfl, h.symm⟩
    | ret => simp only [Option.some.injEq] at h; exact .inr (.inl ⟨rfl, h.symm⟩)
    | exit id => simp only [Option.some.injEq] at h; exact .inr (.inr ⟨id, rfl, h.symm⟩)
    | _ => simp at h
  · cases h
theorem gY {l:Nat} {body:Code} {p:Exit × St} {M:List fJ} (h:cC T rec l body p=some M):p.1=.normal∧∃ pend fr ps as bd R,p.2.hp.get l=some (.loop .ready pend fr ps as bd) ∧
  bg T rec body ⟨p.2.fr,p.2.hp.put l (.loop .busy pend fr ps as bd),true⟩=some R∧bu R (fF l)=some M:=by
 obtain ⟨e,s⟩:=p
 unfold cC at h
 have he:e=.normal:=by cases e <;> first|rfl|simp at h
 subst he
 simp only at h
 split at h
 ·rename_i pend fr ps as bd hl
  cases hy:bg T rec body ⟨s.fr,s.hp.put l (.loop .busy pend fr ps as bd),true⟩ with
  | none=>rw [hy] at h;cases h
  | some R=>rw [hy] at h;exact ⟨rfl,pend,fr,ps,as,bd,R,hl,hy,h⟩
 ·cases h
theorem mL {f:FuncId} {args:List Value} {hp:Hp} {L:List fJ} (h:gF T rec (.call f args hp)=some L) :
  ∃ fn c R,T.fn.get f=some fn∧fn.body=some c∧bg T rec c ⟨setArgs .leaf 0 args,hp,false⟩=some R∧bu R (eA T fn.results.toList)=some L:=by
 rw [jD] at h
 cases hf:T.fn.get f with
 | none=>rw [hf] at h;cases h
 | some fn =>
  rw [hf] at h
  simp only at h
  cases hb:fn.body with
  | none=>rw [hb] at h;cases h
  | some c =>
   rw [hb] at h
   simp only at h
   cases hx:bg T rec c ⟨setArgs .leaf 0 args,hp,false⟩ with
   | none=>rw [hx] at h;cases h
   | some R=>rw [hx] at h;exact ⟨fn,c,R,rfl,hb,hx,h⟩
theorem lu {l:Nat} {args:List Value} {hp:Hp} {L:List fJ} (h:gF T rec (.round l args hp)=some L) :
  ∃ pend fr ps as bd R,hp.get l=some (.loop .ready pend fr ps as bd)∧args.length=ps.size∧bg T rec as ⟨dV fr (ps.toList.zip args),hp,true⟩=some R∧bu R (cC T rec l bd)=some L:=by
 rw [ni] at h
 split at h
 ·rename_i pend fr ps as bd hl
  cases hlen:Nat.beq args.length ps.toList.length with
  | false=>rw [hlen] at h;cases h
  | true =>
   rw [hlen] at h
   simp only [cond_true] at h
   cases hx:bg T rec as ⟨dV fr (ps.toList.zip args),hp,true⟩ with
   | none=>rw [hx] at h;cases h
   | some R=>rw [hx] at h;exact ⟨pend,fr,ps,as,bd,R,hl,by simpa using Nat.eq_of_beq_eq_true hlen,hx,h⟩
 ·cases h
theorem mM {c:Code} {st:St} {L:List fJ} (h:gF T rec (.loop c st)=some L):∃ R,bg T rec c st=some R∧bu R (dW rec c)=some L:=by
 rw [pF] at h
 cases hx:bg T rec c st with
 | none=>rw [hx] at h;cases h
 | some R=>rw [hx] at h;exact ⟨R,rfl,h⟩
theorem jF {c:Code} {p:Exit × St} {M:List fJ} (h:dW rec c p=some M):(p.1=.normal∧rec (.loop c p.2)=some M)∨(p.1 ≠ .normal∧M=[.out p.1 p.2]):=by
 obtain ⟨e,s⟩:=p
 unfold dW at h
 cases e <;> simp only [Option.some.injEq] at h <;> first
  | exact .inl ⟨rfl,h⟩
  | exact .inr ⟨by simp,h.symm⟩
theorem Ct (hr:aW rec):aW (gF T rec):=by
 intro j L h
 cases j with
 | call f args hp =>
  obtain ⟨fn,c,R,_,_,hx,h⟩:=mL h
  refine Good.bind h (gX hr _ _ _ hx) fun p Mx hq=>?_
  obtain ⟨_,vs,_,rfl⟩:=lY hq
  exact .one (.refl _)
 | round l args hp =>
  obtain ⟨pend,fr,ps,as,bd,R,_,_,hx,h⟩:=lu h
  refine Good.bind h (gX hr _ _ _ hx) fun p Mx hq=>?_
  obtain ⟨_,pend',fr',ps',as',bd',R2,hgt,hy,hz⟩:=gY hq
  have hk:=gX hr _ _ _ hy
  have hk':Good p.2.hp (fun q=>q.2.hp) R2:=⟨hk.1,fun r hr'=>(dw.put p.2.hp _ _ (by rw [hgt];simp) (fun _=>rfl)).trans (hk.2 r hr')⟩
  refine Good.bind hz hk' fun q My hw=>?_
  obtain ⟨_,_,_,_,_,_,hgt2,h1|h1|⟨_,h1⟩⟩:=jE hw <;> (obtain ⟨_,rfl⟩:=h1;exact .one (dw.put q.2.hp _ _ (by rw [hgt2];simp) (fun _=>rfl)))
 | loop c st =>
  obtain ⟨R,hx,h⟩:=mM h
  refine Good.bind h (gX hr _ _ _ hx) fun p Mx hq=>?_
  rcases jF hq with ⟨_,h1⟩|⟨_,rfl⟩
  ·exact hr _ _ h1
  ·exact .one (.refl _)
end
open Go
theorem sH:∀ {l m:List UInt8},pV l m=true→l=m
 | [],[],_=>rfl
 | a :: l,b :: m,h=>by
  simp only [pV,Bool.and_eq_true] at h
  rw [sH h.2,UInt8.toNat_inj.1 (Nat.eq_of_beq_eq_true h.1)]
 | [],_ :: _,h=>by cases h
 | _ :: _,[],h=>by cases h
theorem FP {a b:Int} (h:Dx a b=true):a=b:=by
 cases a <;> cases b <;> simp only [Dx,Bool.false_eq_true] at h
 ·rw [Nat.eq_of_beq_eq_true h]
 ·rw [Nat.eq_of_beq_eq_true h]
theorem yM {p v:Value} (h:Eu p v=true):p=v∧aN v=true:=by
 unfold Eu at h
 split at h
 ·simp at h;subst h;exact ⟨rfl,rfl⟩
 ·simp only [Bool.and_eq_true,beq_iff_eq] at h;obtain ⟨rfl,h⟩:=h;rw [FP h];exact ⟨rfl,rfl⟩
 ·rename_i s t
  have:=sH h
  have e:s=t:=by
   cases s;cases t
   simp only at this
   rw [Array.toList_inj.1 this]
  rw [e];exact ⟨rfl,rfl⟩
 ·exact ⟨rfl,rfl⟩
 ·exact ⟨rfl,rfl⟩
 ·exact ⟨rfl,rfl⟩
 ·exact ⟨rfl,rfl⟩
 ·exact ⟨rfl,rfl⟩
 ·cases h
abbrev FW (r:Option Nat):Fence:={fn:=fun _=>True,depth:=none,alive:=false,round:=r}
def ew (γ:Gm) (a N:Nat):Prop:=∀ k,a≤k→k < N→γ.loc k=none
structure Step (γ:Gm) (H:Hp) (w:World) (γ':Gm) (H':Hp) (w':World):Prop where
 n:H.n≤H'.n
 le:γ.Le γ'
 out:∀ k,(k < H.n∨H'.n≤k)→γ'.loc k=γ.loc k
 hr:HR γ' H'.get w'
 gO:jo γ H.get w γ' H'.get w'
section
variable {T : bz} {γ γ' γ1 γ2 : Gm} {H H' H1 H2 : Hp} {w w' w1 w2 : World} {N : Nat}
theorem Step.refl (h:HR γ H.get w):Step γ H w γ H w:=⟨Nat.le_refl _,Gm.Le.refl γ,fun _ _=>rfl,h,jo.refl _ _ _⟩
theorem Step.trans (a:Step γ H w γ1 H1 w1) (b:Step γ1 H1 w1 γ2 H2 w2):Step γ H w γ2 H2 w2 :=
 ⟨Nat.le_trans a.n b.n,a.le.trans b.le,fun k hk=>by
  have h1:=a.n
  have h2:=b.n
  rw [b.out k (by omega),a.out k (by omega)],b.hr,a.gO.trans b.gO⟩
theorem Step.fresh (a:Step γ H w γ1 H1 w1) (h:ew γ H.n N):ew γ1 H1.n N:=fun k h1 h2=>by
 rw [a.out k (.inr h1)]
 exact h k (Nat.le_trans a.n h1) h2
theorem HR.off {g:aD} (h:HR γ g w) (hs:w.heap.size≤w'.heap.size) (hh:∀ k b o,γ.loc k=some (b,o)→w'.heap[b]?=w.heap[b]?) (hg:∀ b,b < γ.B→w'.heap[b]?=w.heap[b]?):HR γ g w' :=
 ⟨fun k b o a ha hl=>(h.fM k b o a ha hl).mono (Gm.Le.refl γ) hl (hh k b o hl),h.inj,fun k b o hl=>Nat.lt_of_lt_of_le (h.lt k b o hl) hs,Nat.le_trans h.base hs,fun x hx=>⟨(h.gl x hx).1,by rw [hg _ (h.gl x hx).1];exact (h.gl x hx).2⟩⟩
theorem jo.off {g g':aD} (u:jo γ g w γ' g' w1) (h1:w2.os=w1.os) (h2:w2.tape=w1.tape) (h3:w2.output=w1.output) (hs:w1.heap.size≤w2.heap.size)
  (hh:∀ b,b < w.heap.size→w2.heap[b]?=w1.heap[b]?):jo γ g w γ' g' w2 :=
 ⟨h1.trans u.os,h2.trans u.tape,h3.trans u.output,Nat.le_trans u.size hs,fun b hb hn=>(hh b hb).trans (u.same b hb hn),u.sF,u.live,u.qZ⟩
theorem oL (e:bP):(H.app e).n=if e.news=true then H.n+1 else H.n:=by cases e <;> rfl
theorem aK.step {s:Sem Next} {v:Value} {e:bP} (h:aK T.P γ H.get w H.n s v e) :
  ∃ v' w' γ',(s.run T.P w=.ok (.value v') w'∨(s.run T.P w=.ok .skip w'∧v'=undef))∧VR γ' v v'∧Step γ H w γ' (H.app e) w':=by
 obtain ⟨v',w',γ',h1,h2,h3,h4,h5,h6⟩:=h
 refine ⟨v',w',γ',h1,h5,?_,h2,fun k hk=>h3 k fun e'=>?_,by rw [Hp.yA];exact h4,by rw [Hp.yA];exact h6⟩
 ·rw [oL];split <;> omega
 ·rw [oL] at hk
  subst e'
  cases hn:e.news with
  | false=>rfl
  | true=>rw [hn] at hk;simp at hk;omega
def yN (γ:Gm) (w:World) (N0:Nat) (ds:List Deferred):Prop :=
 ∃ rs:List Nat,ds=rs.map (fun r=>{target:=.collected r,args:=#[]})∧rs.Nodup∧∀ r ∈ rs,N0≤r∧w.heap[r]?=some (.deferred (some []))∧∀ k o,γ.loc k ≠ some (r,o)
theorem yN.nil (γ:Gm) (w:World) (N0:Nat):yN γ w N0 []:=⟨[],rfl,List.nodup_nil,fun r hr=>by cases hr⟩
theorem yN.step {N0:Nat} {ds:List Deferred} (h:yN γ w N0 ds) (s:Step γ H w γ' H' w'):yN γ' w' N0 ds:=by
 obtain ⟨rs,h1,h2,h3⟩:=h
 refine ⟨rs,h1,h2,fun r hr=>?_⟩
 obtain ⟨a,b,c⟩:=h3 r hr
 have hlt:r < w.heap.size:=(Array.getElem?_eq_some_iff.1 b).1
 refine ⟨a,(s.gO.same r hlt fun k o _ _ _ hl=>c k o hl).trans b,fun k o hl=>?_⟩
 obtain ⟨k0,o0,hl0⟩:=s.gO.qZ k r o hl hlt
 exact c k0 o0 hl0
theorem FQ {fr:Tr Value} {a:Act} (h:wo γ fr a.tmps) {x:Operand} (hx:sE x=true):VR γ (aU fr x) (a.eval x):=by
 cases x with
 | tmp t=>exact h t
 | const v=>exact VR.of_flat hx
 | global g=>cases hx
 | func f=>exact .func rfl rfl (fun i a _=>absurd a (by simp)) (fun i a _=>absurd a (by simp))
theorem Ay {tm:Array Value} {d i:Nat} {v:Value} (hd:d < tm.size):(tm.setIfInBounds d v).getD i undef=if i=d then v else tm.getD i undef:=by
 simp only [Array.getD_eq_getD_getElem?,Array.getElem?_setIfInBounds]
 by_cases h:i=d
 ·subst h;simp [hd]
 ·simp [h,Ne.symm h]
theorem wo.set {fr:Tr Value} {tm:Array Value} (h:wo γ fr tm) {v v':Value} (hv:VR γ v v') {d:Nat} (hd:d < tm.size):wo γ (fr.set d v) (tm.setIfInBounds d v'):=by
 intro i
 rw [Tr.ij,Ay hd]
 by_cases hi:i=d
 ·rw [if_pos hi,if_pos hi];exact hv
 ·rw [if_neg hi,if_neg hi];exact h i
theorem wo.put {fr:Tr Value} {a:Act} (h:wo γ fr a.tmps) {v v':Value} (hv:VR γ v v') {dst:Option Tmp} (hd:∀ d,dst=some d→d < a.tmps.size):wo γ (dQ fr dst v) (a.put dst v').tmps:=by
 cases dst with
 | none=>exact h
 | some d=>exact h.set hv (hd d rfl)
theorem iF (a:Act) (dst:Option Tmp) (v:Value):(a.put dst v).tmps.size=a.tmps.size:=by cases dst <;> simp [Act.put]
theorem put_defers (a:Act) (dst:Option Tmp) (v:Value):(a.put dst v).defers=a.defers:=by cases dst <;> rfl
theorem VR.Az {v:Value} {b:Bool} (h:VR γ v (.bool b)):v=.bool b:=by cases h with|flat=>rfl
theorem yO {fr:Tr Value} {tm:Array Value} (ops:Array Oper) (o:Oper) (h:∀ g want q d,o.guard=some (g,want)→ops[g]?=some q→q.dst=some d→VR γ ((fr.get d).getD undef) (tm.getD d undef)):Region.wanted o (yielded ops tm)=bA ops.toList fr o.guard:=by
 unfold Region.wanted bA
 cases hgu:o.guard with
 | none=>rfl
 | some p =>
  obtain ⟨j,want⟩:=p
  simp only [yielded,Array.getElem?_toList]
  cases hoq:ops[j]? with
  | none=>rfl
  | some q =>
   obtain ⟨dst,op,ty,pos,after,guard⟩:=q
   cases dst with
   | none=>rfl
   | some d =>
    simp only [Option.bind_some]
    have hd:=h j want _ d hgu hoq rfl
    rw [Array.getD_eq_getD_getElem?] at hd
    cases hf:fr.get d with
    | none =>
     rw [hf] at hd
     simp only
     cases ht:tm[d]? with
     | none=>rfl
     | some u =>
      rw [ht] at hd
      simp at hd
      cases u <;> first|rfl|skip
      have:=hd.Az
      cases this
    | some x =>
     rw [hf] at hd
     simp at hd
     cases x with
     | bool b =>
      have:=hd.cA rfl
      cases ht:tm[d]? with
      | none=>rw [ht] at this;cases this
      | some u =>
       rw [ht] at this
       simp at this
       subst this
       cases b <;> cases want <;> rfl
     | _ =>
      cases ht:tm[d]? with
      | none=>rfl
      | some u =>
       rw [ht] at hd
       simp at hd
       cases u <;> first|rfl|(have:=hd.Az;cases this)
theorem FR {fr:Tr Value} {tm:Array Value} (h:wo γ fr tm) (ops:Array Oper) (o:Oper):Region.wanted o (yielded ops tm)=bA ops.toList fr o.guard :=
 yO ops o fun _ _ _ d _ _ _=>h d
theorem sI:∀ (l:List Value) (t:Tr Value) (i j:Nat),(setArgs t i l).get j=if i≤j∧j < i+l.length then l[j - i]? else t.get j:=by
 intro l
 induction l with
 | nil=>intro t i j;simp [setArgs];intro h1 h2;omega
 | cons v vs ih =>
  intro t i j
  rw [setArgs,ih,Tr.ij]
  simp only [List.length_cons]
  by_cases hj:j=i
  ·subst hj;simp;omega
  ·by_cases h:i≤j∧j < i+(vs.length+1)
   ·rw [if_pos h,if_pos (by omega)]
    obtain ⟨q,rfl⟩:∃ q,j=i+1+q:=⟨j - (i+1),by omega⟩
    rw [show i+1+q - (i+1)=q by omega,show i+1+q - i=q+1 by omega]
    rfl
   ·rw [if_neg h,if_neg (by omega),if_neg hj]
theorem wo.args {args args':List Value} (h:bM γ args args') (n:Nat):wo γ (setArgs .leaf 0 args) (args'.toArray++Array.replicate n undef):=by
 intro i
 rw [sI,Array.getD_eq_getD_getElem?,Array.getElem?_append]
 have hl:=h.1
 by_cases hi:i < args.length
 ·rw [if_pos ⟨Nat.zero_le _,by omega⟩,if_pos (by simp;omega)]
  have h1:args[i]?=some (args[i]'hi):=List.getElem?_eq_getElem hi
  obtain ⟨v',e1,e2⟩:=h.get h1
  simp only [Nat.sub_zero,h1,Option.getD_some,List.getElem?_toArray,e1]
  exact e2
 ·rw [if_neg (by omega),if_neg (by simp;omega)]
  have:(Array.replicate n undef)[i - args'.toArray.size]?.getD undef=undef:=by
   rw [Array.getElem?_replicate];split <;> rfl
  rw [this]
  exact VR.undef γ
theorem AA:∀ (l:List (Tmp × Value)) (l':List (Tmp × Value)) (fr:Tr Value) (tm:Array Value),wo γ fr tm→l.length=l'.length →
  (∀ (i:Nat) (p p':Tmp × Value),l[i]?=some p→l'[i]?=some p'→p.1=p'.1∧VR γ p.2 p'.2∧p'.1 < tm.size) →
  wo γ (dV fr l) (l'.foldl (fun tmps (t,a)=>tmps.setIfInBounds t a) tm)∧(l'.foldl (fun tmps (t,a)=>tmps.setIfInBounds t a) tm).size=tm.size:=by
 intro l
 induction l with
 | nil=>intro l' fr tm h hl _;cases l' with
  | nil=>exact ⟨h,rfl⟩
  | cons=>cases hl
 | cons p l ih =>
  intro l' fr tm h hl hh
  cases l' with
  | nil=>cases hl
  | cons p' l' =>
   obtain ⟨e1,e2,e3⟩:=hh 0 p p' rfl rfl
   obtain ⟨d,v⟩:=p
   obtain ⟨d',v'⟩:=p'
   simp only at e1 e2 e3
   subst e1
   have hsz:(tm.setIfInBounds d v').size=tm.size:=by simp
   obtain ⟨r1,r2⟩:=ih l' (fr.set d v) (tm.setIfInBounds d v') (h.set e2 e3) (by simpa using hl) fun i p p' a b=>by
    rw [hsz];exact hh (i+1) p p' a b
   exact ⟨r1,r2.trans hsz⟩
theorem EC (hT:bR T) {g:aD} (h:HR γ g w) {t:TypeId} {a a' v:Value} {e:bP} (ho:gC T t a g=some (v,e)) (ha:VR γ a a') :
  ∃ ad v',a'=.pointer (some ad)∧(loadVar t ad).run T.P w=.ok v' w∧VR γ v v':=by
 unfold gC at ho
 cases hk:addr? a with
 | none=>rw [hk] at ho;cases ho
 | some ko =>
  obtain ⟨k,o⟩:=ko
  rw [hk] at ho
  simp only at ho
  cases hc:cells? (g k) with
  | none=>rw [hc] at ho;cases ho
  | some c0 =>
   obtain ⟨cs,own,es⟩:=c0
   cases hty:T.ty.get t with
   | none=>rw [hc,hty] at ho;cases ho
   | some r =>
    obtain ⟨i,hi,hsz,_,_,hu,_⟩:=hT.ty t r hty
    have hag:=hT.agg hty
    obtain ⟨und,s,bytes,zero,agg,bV,cw⟩:=r
    rw [hc,hty] at ho
    simp only at ho hsz hu hag
    obtain ⟨b,d,hl,rfl⟩:=ha.addr hk
    obtain ⟨cs',el,fz,hw,hcr,_⟩:=h.cells hc hl
    cases agg with
    | true =>
     simp only [cond_true,Option.map_eq_some_iff,Prod.mk.injEq] at ho
     obtain ⟨c,hcut,rfl,rfl⟩:=ho
     obtain ⟨c',hv,hlen,hat,_,_⟩:=hcr.FJ hcut
     refine ⟨_,.agg c'.toArray,rfl,?_,VR.jB hv⟩
     have hload:=run_loadCells_list (P:=T.P) w ⟨b,d+o,none⟩ c' (fun j v hj=>by rw [Addr.add_lit,qa hw];exact hat j v hj)
     rw [hlen,←hsz] at hload
     simp [loadVar,nT hu,←hag,cS hi,hload]
    | false =>
     simp only [cond_false,Option.map_eq_some_iff,Prod.mk.injEq] at ho
     obtain ⟨x,hx,rfl,rfl⟩:=ho
     obtain ⟨x',h1,h2⟩:=hcr o x hx
     refine ⟨_,x',rfl,?_,h2⟩
     simp [loadVar,nT hu,←hag,load,Sem.run,qa hw,h1]
theorem dH {α β:Type} {P:Program} {s:Sem α} {k:α→Sem β} {a:α} {w w1:World} (h:s.run P w=.ok a w1):(s >>= k).run P w=(k a).run P w1:=by
 simp [h]
def Mr (tm:Array Value):ResultVar→Sem Value
 | .tmp t=>pure (tm.getD t undef)
 | .cell a t=>do loadVar t (←asAddr (tm.getD a undef))
theorem Cu (fn:Func) (tm:Array Value):results fn tm=(do
  let vs ←fn.results.mapM (Mr tm)
  pure (if h:vs.size=1 then vs[0] else .tuple vs)):=by
 unfold results
 congr 2
theorem AD (hT:bR T) {fr:Tr Value} {tm:Array Value} (h:HR γ H.get w) (hf:wo γ fr tm):∀ (rs:List ResultVar) (vs:List Value),j7 T fr H rs=some vs →
  ∃ vs',(List.mapM (m:=Sem) (Mr tm) rs).run T.P w=.ok vs' w∧bM γ vs vs':=by
 intro rs
 induction rs with
 | nil=>intro vs hv;cases hv;exact ⟨[],rfl,bM.nil γ⟩
 | cons r rs ih =>
  intro vs hv
  rw [j7] at hv
  cases hr:xp T fr H r with
  | none=>rw [hr] at hv;cases hv
  | some v =>
   rw [hr] at hv
   simp only [Option.map_eq_some_iff] at hv
   obtain ⟨us,hus,rfl⟩:=hv
   obtain ⟨us',h1,h2⟩:=ih us hus
   cases r with
   | tmp t =>
    simp only [xp,Option.some.injEq] at hr
    subst hr
    refine ⟨tm.getD t undef :: us',?_,.cons (hf t) h2⟩
    rw [List.mapM_cons,dH rfl,dH h1]
    rfl
   | cell a t =>
    simp only [xp,Option.map_eq_some_iff] at hr
    obtain ⟨⟨x,e⟩,hx,rfl⟩:=hr
    obtain ⟨ad,v',e1,e2,e3⟩:=EC hT h hx (hf a)
    refine ⟨v' :: us',?_,.cons e3 h2⟩
    rw [List.mapM_cons,dH (a:=v') (w1:=w) (by simp only [Mr];rw [e1];simp [asAddr,e2]),dH h1]
    rfl
theorem yP {vs vs':List Value} (h:bM γ vs vs'):VR γ (cH vs) (cH vs'):=by
 match vs,vs',h with
 | [],[],h=>exact VR.cg h
 | [v],[v'],h=>exact h.2 0 v v' rfl rfl
 | a :: b :: l,a' :: b' :: l',h=>exact VR.cg h
 | [],_ :: _,h=>exact absurd h.1 (by simp)
 | [_],[],h=>exact absurd h.1 (by simp)
 | [_],_ :: _ :: _,h=>exact absurd h.1 (by simp)
 | _ :: _ :: _,[],h=>exact absurd h.1 (by simp)
 | _ :: _ :: _,[_],h=>exact absurd h.1 (by simp)
theorem ED (hT:bR T) {fr:Tr Value} {tm:Array Value} (h:HR γ H.get w) (hf:wo γ fr tm) {fn:Func} {vs:List Value} (hv:j7 T fr H fn.results.toList=some vs) :
  ∃ v',(results fn tm).run T.P w=.ok v' w∧VR γ (cH vs) v':=by
 obtain ⟨vs',h1,h2⟩:=AD hT h hf fn.results.toList vs hv
 refine ⟨cH vs',?_,yP h2⟩
 rw [Cu,Array.mapM_eq_mapM_toList]
 rw [dH (a:=vs'.toArray) (w1:=w) (by rw [map_eq_pure_bind,dH h1];rfl)]
 match vs' with
 | []=>rfl
 | [v]=>rfl
 | a :: b :: l=>simp [cH]
end
end Go.RM
