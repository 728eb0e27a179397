/-
  An abstract machine, and that its runs are the model's. Lemmas alone; no condition.
-/
import Derived.Test.YtgdbfbalchdmcaaGreatR1
namespace Go.RM
open Go.RowKit
section
variable {T : bM} {γ : Gm} {g : aE} {w : World} {n : Nat}
def pY (γ:Gm):Option Value→Option Value→Prop
 | none,none=>True
 | some a,some b=>VR γ a b
 | _,_=>False
theorem pI {P:Program} {lo hi lo' hi':Option Value} {l hv len c':Nat} (hl:eu 0 lo=some l) (hh:eu len hi=some hv) (c1:l≤hv) (c2:hv≤c')
  (rlo:pY γ lo lo') (rhi:pY γ hi hi'):(Instr.sliceBounds true len c' lo' hi' none).run P w=.ok (l,hv,c') w:=by
 have q1:((0:Int)≤(hv:Int)∧(hv:Int)≤(c':Int))=True:=eq_true (by omega)
 have q2:((0:Int)≤(l:Int)∧(l:Int)≤(hv:Int))=True:=eq_true (by omega)
 cases lo with
 | none =>
  cases lo' with
  | some _=>exact rlo.elim
  | none =>
   simp only [eu,Option.some.injEq] at hl
   subst hl
   cases hi with
   | none =>
    cases hi' with
    | some _=>exact rhi.elim
    | none =>
     simp only [eu,Option.some.injEq] at hh
     subst hh
     simp [Instr.sliceBounds]
   | some a =>
    cases hi' with
    | none=>exact rhi.elim
    | some a' =>
     obtain ⟨kk,rfl⟩:=eO hh
     obtain rfl:=VR.bS rhi rfl
     simp only [Instr.sliceBounds,Instr.sliceBound,asIntOf,Sem.run_bind,Sem.run_pure,Result.andThen_ok,if_true,Int.toNat_natCast,q1]
 | some b =>
  cases lo' with
  | none=>exact rlo.elim
  | some b' =>
   obtain ⟨kk,rfl⟩:=eO hl
   obtain rfl:=VR.bS rlo rfl
   cases hi with
   | none =>
    cases hi' with
    | some _=>exact rhi.elim
    | none =>
     simp only [eu,Option.some.injEq] at hh
     subst hh
     simp only [Instr.sliceBounds,Instr.sliceBound,asIntOf,Sem.run_bind,Sem.run_pure,Result.andThen_ok,Option.isSome_none,Bool.false_eq_true,if_false,if_true,Int.toNat_natCast,q2]
   | some a =>
    cases hi' with
    | none=>exact rhi.elim
    | some a' =>
     obtain ⟨kk,rfl⟩:=eO hh
     obtain rfl:=VR.bS rhi rfl
     simp only [Instr.sliceBounds,Instr.sliceBound,asIntOf,Sem.run_bind,Sem.run_pure,Result.andThen_ok,Option.isSome_none,Bool.false_eq_true,if_false,if_true,Int.toNat_natCast,q1,q2]
theorem Cp (hT:bO T) (h:HR γ g w) {t:TypeId} {x x':Value} {lo hi lo' hi':Option Value} {v:Value}
  (ho:sg T t x lo hi=some v) (hx:VR γ x x') (rlo:pY γ lo lo') (rhi:pY γ hi hi') :
  aT T.P γ g w n (do Pure.pure (Next.value (←Instr.sliceAt t x' lo' hi' none))) v .none:=by
 unfold sg at ho
 cases he:elem? T t with
 | none=>rw [he] at ho;cases ho
 | some inf =>
  rw [he] at ho
  simp only at ho
  obtain ⟨el,i,hut,hii,hsz,_,_⟩:=jO hT he
  cases x with
  | slice base len cp =>
   simp only at ho
   cases hl:eu 0 lo with
   | none=>rw [hl] at ho;cases ho
   | some l =>
    cases hh:eu len hi with
    | none=>rw [hl,hh] at ho;cases ho
    | some hv =>
     rw [hl,hh] at ho
     simp only at ho
     cases hcd:(Nat.ble l hv && Nat.ble hv len && Nat.ble 1 inf.size) with
     | false =>
      rw [hcd] at ho
      simp only [cond_false] at ho
      unfold FG at ho
      split at ho
      ·rename_i k o
       cases hce:(Nat.ble (l+1) hv && Nat.ble (len+3) cp && Nat.ble (hv+3) cp) with
       | false=>rw [hce] at ho;cases ho
       | true =>
        rw [hce] at ho
        simp only [cond_true,Option.some.injEq] at ho
        subst ho
        simp only [Bool.and_eq_true] at hce
        have c1:=Nat.le_of_ble_eq_true hce.1.1
        have c2:=Nat.le_of_ble_eq_true hce.1.2
        have c3:=Nat.le_of_ble_eq_true hce.2
        cases hx with
        | flat hf=>simp [bk] at hf
        | dD hne ht0 h20=>omega
        | slice hl' hn ht hlo' hk' =>
         rename_i b d c'
         have hk2:=hk' c2
         have run:(Instr.sliceAt t (.slice (some ⟨b,d+o,none⟩) len c') lo' hi' none).run T.P w=.ok (.slice (if c'=l then some ⟨b,d+o,none⟩ else (some ⟨b,d+o,none⟩:Option Addr).map (·.add (l * inf.size))) (hv - l) (c' - l)) w:=by
          simp only [Instr.sliceAt,Instr.slice,Sem.run_bind,ct hut,Result.andThen_ok,pI hl hh (c':=c') (by omega) (by omega) rlo rhi,ei hii,hsz,Sem.run_pure]
         refine .pure h (aQ run) ?_
         rw [if_neg (by omega),Option.map_some,Addr.add_lit,Nat.add_assoc d o]
         exact VR.slice hl' (by omega) (fun e=>by omega) (fun e=>by omega) (fun e=>by omega)
      ·cases ho
     | true =>
      rw [hcd] at ho
      simp only [cond_true] at ho
      simp only [Bool.and_eq_true] at hcd
      have c1:=Nat.le_of_ble_eq_true hcd.1.1
      have c2:=Nat.le_of_ble_eq_true hcd.1.2
      have bounds:∀ c',len≤c'→(Instr.sliceBounds true len c' lo' hi' none).run T.P w=.ok (l,hv,c') w:=fun c' hc'=>pI hl hh c1 (by omega) rlo rhi
      have run:∀ (a':Option Addr) (c':Nat),len≤c'→(Instr.sliceAt t (.slice a' len c') lo' hi' none).run T.P w=.ok (.slice (if c'=l then a' else a'.map (·.add (l * inf.size))) (hv - l) (c' - l)) w:=by
       intro a' c' hc'
       simp only [Instr.sliceAt,Instr.slice,Sem.run_bind,ct hut,Result.andThen_ok,bounds c' hc',ei hii,hsz,Sem.run_pure]
      cases base with
      | none =>
       simp only at ho
       cases hz:(Nat.beq len 0 && Nat.beq cp 0) with
       | false=>rw [hz] at ho;cases ho
       | true =>
        rw [hz] at ho
        simp only [cond_true,Option.some.injEq] at ho
        subst ho
        simp only [Bool.and_eq_true] at hz
        have z1:=Nat.eq_of_beq_eq_true hz.1
        have z2:=Nat.eq_of_beq_eq_true hz.2
        subst z1
        subst z2
        obtain rfl:=hx.bS rfl
        have e1:hv=0:=by omega
        have e2:l=0:=by omega
        subst e1
        subst e2
        exact .pure h (aQ (by rw [run none 0 (Nat.le_refl _)];simp)) (.flat rfl)
      | some ad =>
       obtain ⟨k,o,sp⟩:=ad
       cases sp with
       | some s=>cases ho
       | none =>
        simp only [Option.some.injEq] at ho
        subst ho
        have told:∀ c',len≤c'→(cp=len→c'=len)→(len+3≤cp→cp≤c'+3) →
          ((bif Nat.beq hv len && Nat.beq cp len then hv - l else bif Nat.beq hv len then hv - l+2 else (bif Nat.ble (len+3) cp then cp - l else hv - l+3+(len - hv)))=hv - l→c' - l=hv - l)∧(bif Nat.beq hv len && Nat.beq cp len then hv - l else bif Nat.beq hv len then hv - l+2 else (bif Nat.ble (len+3) cp then cp - l else hv - l+3+(len - hv))) ≠ hv - l+1 ∧
          (hv - l+3≤(bif Nat.beq hv len && Nat.beq cp len then hv - l else bif Nat.beq hv len then hv - l+2 else (bif Nat.ble (len+3) cp then cp - l else hv - l+3+(len - hv)))→(bif Nat.beq hv len && Nat.beq cp len then hv - l else bif Nat.beq hv len then hv - l+2 else (bif Nat.ble (len+3) cp then cp - l else hv - l+3+(len - hv)))≤c' - l+3) ∧
          (hv=len→(bif Nat.beq hv len && Nat.beq cp len then hv - l else bif Nat.beq hv len then hv - l+2 else (bif Nat.ble (len+3) cp then cp - l else hv - l+3+(len - hv)))≤hv - l+2):=by
         intro c' hc' ht hkk
         cases hb:(Nat.beq hv len && Nat.beq cp len) with
         | true =>
          simp only [Bool.and_eq_true] at hb
          have b1:=Nat.eq_of_beq_eq_true hb.1
          have b2:=Nat.eq_of_beq_eq_true hb.2
          have:=ht b2
          simp only [cond_true]
          exact ⟨fun _=>by omega,by omega,fun _=>by omega,fun _=>by omega⟩
         | false =>
          simp only [cond_false]
          cases hb2:Nat.beq hv len with
          | true =>
           have b1:=Nat.eq_of_beq_eq_true hb2
           simp only [cond_true]
           exact ⟨fun e=>by omega,by omega,fun e=>by omega,fun _=>by omega⟩
          | false =>
           have b1:hv ≠ len:=fun e=>by subst e;rw [Nat.beq_refl] at hb2;cases hb2
           simp only [cond_false]
           cases hb3:Nat.ble (len+3) cp with
           | true =>
            have b3:=Nat.le_of_ble_eq_true hb3
            have b4:=hkk b3
            simp only [cond_true]
            exact ⟨fun e=>by omega,by omega,fun e=>by omega,fun e=>absurd e b1⟩
           | false =>
            simp only [cond_false]
            exact ⟨fun e=>by omega,by omega,fun e=>by omega,fun e=>absurd e b1⟩
        cases hx with
        | flat hf=>simp [bk] at hf
        | dD hne ht0 h20 =>
         rename_i c' a'
         have e1:hv=0:=by omega
         have e2:l=0:=by omega
         subst e1
         subst e2
         have tl:=told c' (Nat.zero_le _) (fun e=>ht0 e) (fun e=>by omega)
         refine .pure h (aQ (run (some a') c' (Nat.zero_le _))) ?_
         have hsome:∃ a'',(if c'=0 then some a' else (some a').map (·.add (0 * inf.size)))=some a'':=by split <;> exact ⟨_,rfl⟩
         obtain ⟨a'',ha''⟩:=hsome
         rw [ha'']
         exact VR.dD (fun e=>tl.2.1 (by simpa using e)) (fun e=>by have:=tl.1 (by simpa using e);simpa using this) (by have:=tl.2.2.2 rfl;simpa using this)
        | slice hl' hn ht hlo' hk' =>
         rename_i b d c'
         have tl:=told c' hn ht hk'
         refine .pure h (aQ (run _ c' hn)) ?_
         by_cases hcl:c'=l
         ·rw [if_pos hcl]
          have e1:hv - l=0:=by omega
          rw [e1] at tl ⊢
          exact VR.dD (fun e=>tl.2.1 (by simpa using e)) (fun e=>by have:=tl.1 e;simpa using this) (by have:=tl.2.2.2 (by omega);simpa using this)
         ·rw [if_neg hcl,Option.map_some,Addr.add_lit,Nat.add_assoc d o]
          exact VR.slice hl' (by omega) tl.1 (fun e=>absurd e tl.2.1) tl.2.2.1
  | _=>cases ho
theorem wg {P:Program} {lo hi lo' hi':Option Value} {l hv len:Nat} (hl:eu 0 lo=some l) (hh:eu len hi=some hv) (c1:l≤hv) (c2:hv≤len)
  (rlo:pY γ lo lo') (rhi:pY γ hi hi'):(Instr.sliceBounds false len len lo' hi' none).run P w=.ok (l,hv,len) w:=by
 have q1:((0:Int)≤(hv:Int)∧(hv:Int)≤(len:Int))=True:=eq_true (by omega)
 have q2:((0:Int)≤(l:Int)∧(l:Int)≤(hv:Int))=True:=eq_true (by omega)
 cases lo with
 | none =>
  cases lo' with
  | some _=>exact rlo.elim
  | none =>
   simp only [eu,Option.some.injEq] at hl
   subst hl
   cases hi with
   | none =>
    cases hi' with
    | some _=>exact rhi.elim
    | none =>
     simp only [eu,Option.some.injEq] at hh
     subst hh
     simp [Instr.sliceBounds]
   | some a =>
    cases hi' with
    | none=>exact rhi.elim
    | some a' =>
     obtain ⟨kk,rfl⟩:=eO hh
     obtain rfl:=VR.bS rhi rfl
     simp only [Instr.sliceBounds,Instr.sliceBound,asIntOf,Sem.run_bind,Sem.run_pure,Result.andThen_ok,Bool.false_eq_true,if_false,if_true,Int.toNat_natCast,q1]
 | some b =>
  cases lo' with
  | none=>exact rlo.elim
  | some b' =>
   obtain ⟨kk,rfl⟩:=eO hl
   obtain rfl:=VR.bS rlo rfl
   cases hi with
   | none =>
    cases hi' with
    | some _=>exact rhi.elim
    | none =>
     simp only [eu,Option.some.injEq] at hh
     subst hh
     simp only [Instr.sliceBounds,Instr.sliceBound,asIntOf,Sem.run_bind,Sem.run_pure,Result.andThen_ok,Option.isSome_none,Bool.false_eq_true,if_false,if_true,Int.toNat_natCast,q2]
   | some a =>
    cases hi' with
    | none=>exact rhi.elim
    | some a' =>
     obtain ⟨kk,rfl⟩:=eO hh
     obtain rfl:=VR.bS rhi rfl
     simp only [Instr.sliceBounds,Instr.sliceBound,asIntOf,Sem.run_bind,Sem.run_pure,Result.andThen_ok,Option.isSome_none,Bool.false_eq_true,if_false,if_true,Int.toNat_natCast,q1,q2]
theorem wZ (hT:bO T) (h:HR γ g w) {t:TypeId} {x x':Value} {lo hi lo' hi':Option Value} {v:Value}
  (ho:qN T t x lo hi=some v) (hx:VR γ x x') (rlo:pY γ lo lo') (rhi:pY γ hi hi') :
  aT T.P γ g w n (do Pure.pure (Next.value (←Instr.sliceAt t x' lo' hi' none))) v .none:=by
 unfold qN at ho
 split at ho
 ·rename_i len e _ _ _ _ _ dh hty
  obtain ⟨i,hi0,_,_,_,hu,hes⟩:=hT.ty t _ hty
  cases hk:addr? x with
  | none=>rw [hk] at ho;cases ho
  | some ko =>
   obtain ⟨k,o⟩:=ko
   cases hl:eu 0 lo with
   | none=>rw [hk,hl] at ho;cases ho
   | some l =>
    cases hh:eu len hi with
    | none=>rw [hk,hl,hh] at ho;cases ho
    | some hv =>
     rw [hk,hl,hh] at ho
     simp only at ho
     cases hcd:(Nat.ble l hv && Nat.ble hv len && Nat.ble 1 dh) with
     | false=>rw [hcd] at ho;cases ho
     | true =>
      rw [hcd] at ho
      simp only [cond_true,Option.some.injEq] at ho
      subst ho
      simp only [Bool.and_eq_true] at hcd
      have c1:=Nat.le_of_ble_eq_true hcd.1.1
      have c2:=Nat.le_of_ble_eq_true hcd.1.2
      obtain ⟨b,d,hl2,rfl⟩:=hx.addr hk
      obtain ⟨_,j,hj,he'⟩:=hes
      have he':j.size=dh:=he'.symm
      have run:(Instr.sliceAt t (.pointer (some ⟨b,d+o,none⟩)) lo' hi' none).run T.P w=.ok (.slice (some (if len=l then ⟨b,d+o,none⟩ else Addr.add ⟨b,d+o,none⟩ (l * dh))) (hv - l) (len - l)) w:=by
       simp only [Instr.sliceAt,Instr.sureAddr,Sem.run_bind,ct hu,Result.andThen_ok,wg hl hh c1 c2 rlo rhi,ei hj,he',Sem.run_pure]
      refine .pure h (aQ run) ?_
      by_cases hcl:len=l
      ·have e1:hv=len:=by omega
       subst hcl
       subst e1
       rw [if_pos rfl,Nat.sub_self]
       exact VR.dD (by rw [Nat.beq_refl];simp) (fun _=>rfl) (by rw [Nat.beq_refl];simp)
      ·rw [if_neg hcl,Addr.add_lit,Nat.add_assoc d o]
       cases hb:Nat.beq hv len with
       | true =>
        have:=Nat.eq_of_beq_eq_true hb
        simp only [cond_true]
        exact VR.slice hl2 (by omega) (fun _=>by omega) (fun e=>by omega) (fun e=>by omega)
       | false =>
        simp only [cond_false]
        exact VR.slice hl2 (by omega) (fun e=>by omega) (fun e=>by omega) (fun e=>by omega)
 ·cases ho
theorem za {P:Program} {lo lo':Option Value} {hi mx hi' mx':Value} {l hv mv len c':Nat} (hl:eu 0 lo=some l) (hh:lf hi=some hv) (hm:lf mx=some mv) (c1:l≤hv) (c2:hv≤mv) (hc':mv≤c')
  (rlo:pY γ lo lo') (rhi:VR γ hi hi') (rmx:VR γ mx mx'):(Instr.sliceBounds true len c' lo' (some hi') (some mx')).run P w=.ok (l,hv,mv) w:=by
 have q1:((0:Int)≤(mv:Int)∧(mv:Int)≤(c':Int))=True:=eq_true (by omega)
 have q3:((0:Int)≤(hv:Int)∧(hv:Int)≤(mv:Int))=True:=eq_true (by omega)
 have q2:((0:Int)≤(l:Int)∧(l:Int)≤(hv:Int))=True:=eq_true (by omega)
 obtain ⟨k1,rfl⟩:=eO hh
 obtain rfl:=VR.bS rhi rfl
 obtain ⟨k2,rfl⟩:=eO hm
 obtain rfl:=VR.bS rmx rfl
 cases lo with
 | none =>
  cases lo' with
  | some _=>exact rlo.elim
  | none =>
   simp only [eu,Option.some.injEq] at hl
   subst hl
   simp only [Instr.sliceBounds,Instr.sliceBound,asIntOf,Sem.run_bind,Sem.run_pure,Result.andThen_ok,if_true,Int.toNat_natCast,q1,q3]
 | some b =>
  cases lo' with
  | none=>exact rlo.elim
  | some b' =>
   obtain ⟨kk,rfl⟩:=eO hl
   obtain rfl:=VR.bS rlo rfl
   simp only [Instr.sliceBounds,Instr.sliceBound,asIntOf,Sem.run_bind,Sem.run_pure,Result.andThen_ok,Option.isSome_some,if_true,Int.toNat_natCast,q1,q2,q3]
theorem A6 (hT:bO T) (h:HR γ g w) {t:TypeId} {x x':Value} {lo lo':Option Value} {hi mx hi' mx' v:Value}
  (ho:lF T t x lo hi mx=some v) (hx:VR γ x x') (rlo:pY γ lo lo') (rhi:VR γ hi hi') (rmx:VR γ mx mx') :
  aT T.P γ g w n (do Pure.pure (Next.value (←Instr.sliceAt t x' lo' (some hi') (some mx')))) v .none:=by
 unfold lF at ho
 cases he:elem? T t with
 | none=>rw [he] at ho;cases ho
 | some inf =>
  rw [he] at ho
  simp only at ho
  obtain ⟨el,i,hut,hii,hsz,_,_⟩:=jO hT he
  cases x with
  | slice base len cp =>
   simp only at ho
   cases hl:eu 0 lo with
   | none=>rw [hl] at ho;cases ho
   | some l =>
    cases hh:lf hi with
    | none=>rw [hl,hh] at ho;cases ho
    | some hv =>
     cases hm:lf mx with
     | none=>rw [hl,hh,hm] at ho;cases ho
     | some m =>
      rw [hl,hh,hm] at ho
      simp only at ho
      cases hcd:(Nat.ble l hv && Nat.ble hv m && Nat.ble m len && Nat.ble 1 inf.size) with
      | false=>rw [hcd] at ho;cases ho
      | true =>
       rw [hcd] at ho
       simp only [cond_true] at ho
       simp only [Bool.and_eq_true] at hcd
       have c1:=Nat.le_of_ble_eq_true hcd.1.1.1
       have c2:=Nat.le_of_ble_eq_true hcd.1.1.2
       have c3:=Nat.le_of_ble_eq_true hcd.1.2
       have run:∀ (a':Option Addr) (c':Nat),len≤c'→(Instr.sliceAt t (.slice a' len c') lo' (some hi') (some mx')).run T.P w=.ok (.slice (if m=l then a' else a'.map (·.add (l * inf.size))) (hv - l) (m - l)) w:=by
        intro a' c' hc'
        simp only [Instr.sliceAt,Instr.slice,Sem.run_bind,ct hut,Result.andThen_ok,za hl hh hm c1 c2 (Nat.le_trans c3 hc') rlo rhi rmx,ei hii,hsz,Sem.run_pure]
       cases base with
       | none =>
        simp only at ho
        cases hz:(Nat.beq len 0 && Nat.beq cp 0) with
        | false=>rw [hz] at ho;cases ho
        | true =>
         rw [hz] at ho
         simp only [cond_true,Option.some.injEq] at ho
         subst ho
         simp only [Bool.and_eq_true] at hz
         have z1:=Nat.eq_of_beq_eq_true hz.1
         have z2:=Nat.eq_of_beq_eq_true hz.2
         subst z1
         subst z2
         obtain rfl:=hx.bS rfl
         have e0:m=0:=by omega
         have e1:hv=0:=by omega
         have e2:l=0:=by omega
         subst e0
         subst e1
         subst e2
         exact .pure h (aQ (by rw [run none 0 (Nat.le_refl _)];simp)) (.flat rfl)
       | some ad =>
        obtain ⟨k,o,sp⟩:=ad
        cases sp with
        | some s=>cases ho
        | none =>
         simp only [Option.some.injEq] at ho
         subst ho
         cases hx with
         | flat hf=>simp [bk] at hf
         | dD hne ht0 h20 =>
          rename_i c' a'
          have e0:m=0:=by omega
          have e1:hv=0:=by omega
          have e2:l=0:=by omega
          subst e0
          subst e1
          subst e2
          refine .pure h (aQ (run (some a') c' (Nat.zero_le _))) ?_
          rw [if_pos rfl]
          exact VR.dD (by simp) (fun _=>rfl) (by simp)
         | slice hl' hn ht hlo' hk' =>
          rename_i b d c'
          refine .pure h (aQ (run _ c' hn)) ?_
          by_cases hcl:m=l
          ·obtain rfl:hv=m:=by omega
           subst hcl
           rw [if_pos rfl,Nat.sub_self]
           exact VR.dD (by simp) (fun _=>rfl) (by simp)
          ·rw [if_neg hcl,Option.map_some,Addr.add_lit,Nat.add_assoc d o]
           cases hb:Nat.beq hv m with
           | true =>
            have:=Nat.eq_of_beq_eq_true hb
            simp only [cond_true]
            exact VR.slice hl' (by omega) (fun _=>by omega) (fun e=>by omega) (fun e=>by omega)
           | false =>
            simp only [cond_false]
            exact VR.slice hl' (by omega) (fun e=>by omega) (fun e=>by omega) (fun e=>by omega)
  | _=>cases ho
theorem zb (hT:bO T) (h:HR γ g w) {t:TypeId} {x x' v:Value} {e:cG} (hn:e.news=true→γ.loc n=none) (ho:uo T n t x g=some (v,e)) (hx:VR γ x x') :
  aT T.P γ g w n (do Pure.pure (Next.value (←Instr.range t x'))) v e:=by
 unfold uo at ho
 split at ho
 ·rename_i kt et _ _ _ _ _ _ m hty
  cases hm:map? (g m) with
  | none=>rw [hm] at ho;cases ho
  | some p =>
   obtain ⟨es,clock⟩:=p
   rw [hm] at ho
   simp only [Option.some.injEq,Prod.mk.injEq] at ho
   obtain ⟨rfl,rfl⟩:=ho
   obtain ⟨i,_,_,_,_,hu,_⟩:=hT.ty t _ hty
   have hgr:g m=some (.map es clock):=by
    unfold map? at hm
    split at hm
    ·simp at hm;obtain ⟨rfl,rfl⟩:=hm;assumption
    ·cases hm
   cases hx with
   | flat hf=>simp [bk] at hf
   | map hl =>
    rename_i b
    obtain ⟨_,_,es',hw,_⟩:=h.iQ m b 0 _ hgr hl
    have hle:=Gm.oh (b:=w.heap.size) (c:=0) (hn rfl)
    have hrun:(Instr.range t (.map (some b))).run T.P w=.ok (.pointer (some ⟨w.heap.size,0,none⟩)) (w.alloc (.mapIter (some b) clock #[] clock)):=by
     have hgo:(getObj b).run T.P w=.ok (.map es' clock) w:=by simp [getObj,Sem.run,hw]
     simp [Instr.range,ct hu,hgo]
    refine ⟨_,_,γ.add n w.heap.size 0,.inl (aQ hrun),hle,fun k hk=>Gm.bV _ _ _ (fun e=>Bool.noConfusion (hk e:true=false)),?_,VR.ptr (o:=0) (Gm.cO _ _ _ _),lB.new (obj:=_) rfl rfl rfl rfl⟩
    refine HR.new (w:=w) h (hn rfl) (obj:=_) rfl ⟨rfl,h.base,b,hle.loc _ _ hl,?_⟩
    show (w.heap.push _)[w.heap.size]?=_
    simp
 ·rename_i s hty
  simp only [Option.some.injEq,Prod.mk.injEq] at ho
  obtain ⟨rfl,rfl⟩:=ho
  obtain ⟨i,_,_,_,_,hu,_⟩:=hT.ty t _ hty
  obtain rfl:=hx.bS rfl
  have hle:=Gm.oh (b:=w.heap.size) (c:=0) (hn rfl)
  have hrun:(Instr.range t (.string s)).run T.P w=.ok (.pointer (some ⟨w.heap.size,0,none⟩)) (w.alloc (.stringIter s 0)):=by
   simp [Instr.range,ct hu]
  refine ⟨_,_,γ.add n w.heap.size 0,.inl (aQ hrun),hle,fun k hk=>Gm.bV _ _ _ (fun e=>Bool.noConfusion (hk e:true=false)),?_,VR.ptr (o:=0) (Gm.cO _ _ _ _),lB.new (obj:=_) rfl rfl rfl rfl⟩
  refine HR.new (w:=w) h (hn rfl) (obj:=_) rfl ⟨rfl,h.base,?_⟩
  show (w.heap.push _)[w.heap.size]?=_
  simp
 ·cases ho
theorem A7 {k b:Nat} {a0 a:bG} {obj0 obj:Obj} (h:HR γ g w) (h0:g k=some a0) (ho:a0.own=true) (hl:γ.loc k=some (b,0)) (hw:w.heap[b]?=some obj0)
  (hown:a.own=true) (ha:Ci γ (w.heap.setIfInBounds b obj) k b 0 a) :
  HR γ (iJ g k a) {w with heap:=w.heap.setIfInBounds b obj}∧lB γ g w γ (iJ g k a) {w with heap:=w.heap.setIfInBounds b obj}∧(w.heap.setIfInBounds b obj)[b]?=some obj:=by
 have hlt:b < w.heap.size:=(Array.getElem?_eq_some_iff.1 hw).1
 have hsz:(w.heap.setIfInBounds b obj).size=w.heap.size:=by simp
 have hne:∀ i,i ≠ b→(w.heap.setIfInBounds b obj)[i]?=w.heap[i]?:=fun i hi=>Array.getElem?_setIfInBounds_ne (Ne.symm hi)
 exact ⟨h.put h0 ho hl hsz hne (.inl hown) ha,lB.put h0 ho hl rfl rfl rfl hsz hne,by simp [hlt]⟩
theorem zc (h:HR γ g w) {x x' v:Value} {e:cG} {ty:TypeId} (ho:mc x g=some (v,e)) (hx:VR γ x x') :
  aT T.P γ g w n (do Pure.pure (Next.value (←Instr.next x' true ty))) v e:=by
 unfold mc at ho
 split at ho
 ·rename_i r hk
  cases hg:g r with
  | none=>rw [hg] at ho;cases ho
  | some iQ =>
   rw [hg] at ho
   cases iQ with
   | eF s pos =>
    simp only at ho
    obtain ⟨b,d,hl,rfl⟩:=hx.addr hk
    obtain ⟨rfl,hB,hw⟩:=h.iQ r b d _ hg hl
    have hgo:(getObj b).run T.P w=.ok (.stringIter s pos) w:=by simp [getObj,Sem.run,hw]
    cases hc:Nat.blt pos s.data.toList.length with
    | true =>
     rw [hc] at ho
     simp only [cond_true,Option.some.injEq,Prod.mk.injEq] at ho
     obtain ⟨rfl,rfl⟩:=ho
     have hlt:pos < s.size:=Nat.le_of_ble_eq_true hc
     have hset:(setObj b (.stringIter s (pos+(Utf8.decode s pos).2))).run T.P w=.ok () {w with heap:=w.heap.setIfInBounds b (.stringIter s (pos+(Utf8.decode s pos).2))}:=by simp [setObj,Sem.run,hw]
     obtain ⟨q1,q2,q3⟩:=A7 (a:=.eF s (pos+(Utf8.decode s pos).2)) (obj:=.stringIter s (pos+(Utf8.decode s pos).2)) h hg rfl hl hw rfl ⟨rfl,hB,by simp [(Array.getElem?_eq_some_iff.1 hw).1]⟩
     refine ⟨.tuple #[.bool true,.int .i64 pos,.int .i32 (Utf8.decode s pos).1],_,γ,.inl (aQ ?_),Gm.Le.refl γ,fun _ _=>rfl,q1,?_,q2⟩
     ·simp [Instr.next,hgo,hlt,hset,goInt]
     ·exact VR.de (l:=[.bool true,.int .i64 pos,.int .i32 (Utf8.decode s pos).1]) (cB.of_flat rfl)
    | false =>
     rw [hc] at ho
     simp only [cond_false,Option.some.injEq,Prod.mk.injEq] at ho
     obtain ⟨rfl,rfl⟩:=ho
     have hlt:¬ (pos < s.size):=fun e=>by
      have:Nat.blt pos s.data.toList.length=true:=Nat.ble_eq_true_of_le e
      rw [this] at hc;cases hc
     refine .pure h (aQ (v:=.tuple #[.bool false]) ?_) (VR.de (l:=[.bool false]) (cB.of_flat rfl))
     simp [Instr.next,hgo,hlt]
   | _=>cases ho
 ·cases ho
end
end Go.RM
namespace Go.RM
open Go.RowKit
section
variable {T : bM} {γ : Gm} {g : aE} {w : World} {n : Nat}
theorem sW (P:Program) {α β:Type} (x:Sem α) (f:α→Sem β):aD P (x >>= f)=(aD P x).bind fun a=>aD P (f a):=by
 show aD P (x.bind f)=_
 induction x with
 | pure a=>rfl
 | program k ih=>simp only [Sem.bind,aD];exact ih P
 | mark m k ih=>simp only [Sem.bind,aD];exact ih
 | _=>rfl
theorem oy (P:Program) {α:Type} (a:α):aD P (Pure.pure a)=some a:=rfl
def SameKeys (l l':List MapEntry):Prop:=l.map (·.key)=l'.map (·.key)
theorem SameKeys.Cq {e e':MapEntry} {l l':List MapEntry} (h:SameKeys (e :: l) (e' :: l')):e.key=e'.key∧SameKeys l l':=by
 simpa [SameKeys] using h
theorem sX (kind:TypeDesc) (k:Value):∀ (l l':List MapEntry) (i:Nat),SameKeys l l' →
  match Instr.findNow kind k l i with
  | none=>Instr.findNow kind k l' i=none
  | some none=>Instr.findNow kind k l' i=some none
  | some (some (j,_))=>∃ e,i≤j∧l'[j - i]?=some e∧Instr.findNow kind k l' i=some (some (j,e.val))
 | [],[],_,_=>rfl
 | [],_ :: _,_,h=>by simp [SameKeys] at h
 | _ :: _,[],_,h=>by simp [SameKeys] at h
 | e :: l,e' :: l',i,h=>by
  obtain ⟨h1,h2⟩:=h.Cq
  simp only [Instr.findNow,←h1]
  cases hs:Instr.sameNow kind k e.key with
  | none=>rfl
  | some b =>
   cases b with
   | true=>exact ⟨e',Nat.le_refl _,by simp,rfl⟩
   | false =>
    have ih:=sX kind k l l' (i+1) h2
    simp only
    cases hf:Instr.findNow kind k l (i+1) with
    | none=>rw [hf] at ih;exact ih
    | some r =>
     rw [hf] at ih
     cases r with
     | none=>exact ih
     | some p =>
      obtain ⟨j,v⟩:=p
      obtain ⟨x,a,b,c⟩:=ih
      refine ⟨x,by omega,?_,c⟩
      rw [show j - i=(j - (i+1))+1 from by omega]
      simpa using b
theorem pJ (P:Program) (kt:TypeId) (k:Value):∀ (l l':List MapEntry) (i:Nat) (r:Option (Nat × Value)),SameKeys l l'→aD P (Instr.findAsking kt k l i)=some r →
  match r with
  | none=>aD P (Instr.findAsking kt k l' i)=some none
  | some (j,_)=>∃ e,i≤j∧l'[j - i]?=some e∧aD P (Instr.findAsking kt k l' i)=some (some (j,e.val))
 | [],[],_,r,_,h=>by
  simp only [Instr.findAsking,oy,Option.some.injEq] at h
  subst h
  rfl
 | [],_ :: _,_,_,h,_=>by simp [SameKeys] at h
 | _ :: _,[],_,_,h,_=>by simp [SameKeys] at h
 | e :: l,e' :: l',i,r,hk,h=>by
  obtain ⟨h1,h2⟩:=hk.Cq
  simp only [Instr.findAsking,sW,h1] at h ⊢
  cases hq:aD P (Op.equal kt k e'.key) with
  | none=>rw [hq] at h;cases h
  | some b =>
   rw [hq] at h
   simp only [Option.bind_some] at h ⊢
   cases b with
   | true =>
    simp only [if_true,oy,Option.some.injEq] at h ⊢
    subst h
    exact ⟨e',Nat.le_refl _,by simp,rfl⟩
   | false =>
    simp only [Bool.false_eq_true,if_false] at h ⊢
    have ih:=pJ P kt k l l' (i+1) r h2 h
    cases r with
    | none=>exact ih
    | some p =>
     obtain ⟨j,v⟩:=p
     obtain ⟨x,a,b,c⟩:=ih
     refine ⟨x,by omega,?_,c⟩
     rw [show j - i=(j - (i+1))+1 from by omega]
     simpa using b
theorem A8 {P:Program} {kt:TypeId} {k:Value} {l l':List MapEntry} {r:Option (Nat × Value)} (hk:SameKeys l l') (h:aD P (Instr.findKey kt k l)=some r) :
  match r with
  | none=>aD P (Instr.findKey kt k l')=some none
  | some (j,_)=>∃ e,l'[j]?=some e∧aD P (Instr.findKey kt k l')=some (some (j,e.val)):=by
 unfold Instr.findKey at h ⊢
 simp only [sW] at h ⊢
 cases hu:aD P (underlying kt) with
 | none=>rw [hu] at h;cases h
 | some d =>
  rw [hu] at h
  simp only [Option.bind_some] at h ⊢
  have hs:=sX d k l l' 0 hk
  cases hf:Instr.findNow d k l 0 with
  | none =>
   rw [hf] at h hs
   simp only at h hs
   simp only [hs]
   have:=pJ P kt k l l' 0 r hk h
   cases r with
   | none=>exact this
   | some p=>obtain ⟨j,v⟩:=p;obtain ⟨e,_,b,c⟩:=this;exact ⟨e,by simpa using b,c⟩
  | some q =>
   rw [hf] at h hs
   simp only [oy,Option.some.injEq] at h
   subst h
   cases q with
   | none=>simp only at hs ⊢;rw [hs];rfl
   | some p =>
    obtain ⟨j,v⟩:=p
    obtain ⟨e,_,b,c⟩:=hs
    exact ⟨e,by simpa using b,by rw [c];rfl⟩
theorem kU.keys {es:List MapEntry} {es':Array MapEntry} (h:kU γ es es') (hf:es.all (fun e=>flat e.key)=true):SameKeys (es.map fun e=>{e with val:=.nilIface}) es'.toList:=by
 unfold SameKeys
 rw [List.map_map]
 apply List.ext_getElem?
 intro i
 rw [List.getElem?_map,List.getElem?_map]
 cases he:es[i]? with
 | none =>
  have:es'.toList[i]?=none:=by
   rw [List.getElem?_eq_none_iff] at he ⊢
   have:=h.1
   simp;omega
  rw [this];rfl
 | some e =>
  have hi:i < es.length:=(List.getElem?_eq_some_iff.1 he).1
  have hi':i < es'.size:=by have:=h.1;omega
  have he':es'.toList[i]?=some es'[i]:=by simp [hi']
  rw [he']
  obtain ⟨h1,_,_⟩:=h.2 i e es'[i] he (by simp)
  have:=h1.cW (List.all_eq_true.1 hf e (List.mem_of_getElem? he))
  simp [this]
theorem uy {P:Program} {emp:Bool} {kt:TypeId} {k k':Value} {es:List MapEntry} {es':Array MapEntry} {r:Option Nat} (h:pT P emp kt k es=some r) (he:kU γ es es') (hk:VR γ k k') :
  k'=k∧(∀ w:World,(Instr.checkKey emp 10000 kt k).run P w=.ok () w) ∧
  match r with
  | none=>∀ w:World,(Instr.findKey kt k es'.toList).run P w=.ok none w
  | some i=>∃ e e',es[i]?=some e∧es'[i]?=some e'∧VR γ e.val e'.val∧e'.key=e.key∧flat e.key=true∧e.born=e'.born∧∀ w:World,(Instr.findKey kt k es'.toList).run P w=.ok (some (i,e'.val)) w:=by
 unfold pT at h
 cases hc:(flat k && es.all fun e=>flat e.key) with
 | false=>rw [hc] at h;cases h
 | true =>
  rw [hc] at h
  simp only [cond_true] at h
  simp only [Bool.and_eq_true] at hc
  have hke:=hk.cW hc.1
  cases hck:aD P (Instr.checkKey emp 10000 kt k) with
  | none=>rw [hck] at h;cases h
  | some u =>
   rw [hck] at h
   simp only [Option.map_eq_some_iff] at h
   obtain ⟨q,hq,rfl⟩:=h
   refine ⟨hke,fun w=>gT P hck w,?_⟩
   have hs:=A8 (he.keys hc.2) hq
   cases q with
   | none=>exact fun w=>gT P hs w
   | some p =>
    obtain ⟨j,v⟩:=p
    obtain ⟨e',a,b⟩:=hs
    have hj':es'[j]?=some e':=by simpa using a
    have hjl:j < es.length:=by have:=(Array.getElem?_eq_some_iff.1 hj').1;have:=he.1;omega
    have hj:es[j]?=some es[j]:=List.getElem?_eq_getElem hjl
    obtain ⟨x,y,z⟩:=he.2 j _ _ hj hj'
    have hfk:=List.all_eq_true.1 hc.2 _ (List.getElem_mem hjl)
    exact ⟨es[j],e',hj,hj',y,x.cW hfk,hfk,z,fun w=>gT P b w⟩
theorem kU.empty {es:List MapEntry} {es':Array MapEntry} (h:kU γ es es'):es'.isEmpty=es.isEmpty:=by
 have:=h.1
 cases hx:es'.isEmpty with
 | true =>
  have hz:es'=#[]:=by simpa using hx
  subst hz
  cases es with
  | nil=>rfl
  | cons a l=>simp at this
 | false =>
  cases es with
  | nil =>
   have hz:es'=#[]:=Array.eq_empty_of_size_eq_zero this.symm
   subst hz
   simp at hx
  | cons a l=>rfl
theorem map_some {a:Option bG} {es:List MapEntry} {c:Nat} (h:map? a=some (es,c)):a=some (.map es c):=by
 unfold map? at h
 split at h
 ·simp at h;obtain ⟨rfl,rfl⟩:=h;rfl
 ·cases h
theorem sk (hT:bO T) {t kt:TypeId} {z:Option Value} (h:l9 T t=some (kt,z)) :
  ∃ et,T.P.underlying t=some (.map kt et)∧∀ v,z=some v→∃ i,T.P.info? et=some i∧i.zero=some v:=by
 unfold l9 at h
 split at h
 ·rename_i k e _ _ _ _ _ _ hty
  simp only [Option.some.injEq,Prod.mk.injEq] at h
  obtain ⟨rfl,rfl⟩:=h
  obtain ⟨i,_,_,_,_,hu,_⟩:=hT.ty t _ hty
  refine ⟨e,hu,fun v hv=>?_⟩
  cases he:T.ty.get e with
  | none=>rw [he] at hv;cases hv
  | some r =>
   rw [he] at hv
   obtain ⟨i',h1,_,_,h4,_⟩:=hT.ty e r he
   exact ⟨i',h1,h4.trans hv⟩
 ·cases h
theorem w5 {v:Value} {r:Nat} (h:i6 v=some r):v=.map (some r):=by
 unfold i6 at h
 split at h
 ·simp at h;subst h;rfl
 ·cases h
theorem bP (h:HR γ g w) {m m':Value} {r:Nat} {es:List MapEntry} {c:Nat} (hb:i6 m=some r) (hm:map? (g r)=some (es,c)) (hv:VR γ m m') :
  ∃ b es',m'=.map (some b)∧γ.loc r=some (b,0)∧γ.B≤b∧w.heap[b]?=some (.map es' c)∧kU γ es es'∧(∀ P:Program,(getObj b).run P w=.ok (.map es' c) w):=by
 obtain rfl:=w5 hb
 cases hv with
 | flat hf=>simp [bk] at hf
 | map hl =>
  rename_i b
  obtain ⟨_,hB,es',hw,he⟩:=h.iQ r b 0 _ (map_some hm) hl
  exact ⟨b,es',rfl,hl,hB,hw,he,fun P=>by simp [getObj,Sem.run,hw]⟩
theorem A9 (hT:bO T) (h:HR γ g w) {t:TypeId} {m m' k k' v:Value} {ok:Bool} (ho:mN T t m k ok g=some v) (hm:VR γ m m') (hk:VR γ k k') :
  aT T.P γ g w n (do Pure.pure (Next.value (←Instr.lookup t m' k' ok))) v .none:=by
 unfold mN at ho
 cases hmt:l9 T t with
 | none=>rw [hmt] at ho;cases ho
 | some p =>
  obtain ⟨kt,z⟩:=p
  cases hb:i6 m with
  | none=>rw [hmt,hb] at ho;cases ho
  | some r =>
   cases hmp:map? (g r) with
   | none=>rw [hmt,hb] at ho;simp only [Option.bind_some,hmp] at ho;cases ho
   | some q =>
    obtain ⟨es,c⟩:=q
    rw [hmt,hb] at ho
    simp only [Option.bind_some,hmp] at ho
    obtain ⟨b,es',rfl,hl,hB,hw,he,hgo⟩:=bP h hb hmp hm
    obtain ⟨et,hu,hz⟩:=sk hT hmt
    unfold AU at ho
    cases hf:pT T.P es.isEmpty kt k es with
    | none=>rw [hf] at ho;simp at ho
    | some r' =>
     obtain ⟨rfl,hck,hfk⟩:=uy hf he hk
     rw [←he.empty] at hck
     cases r' with
     | some i =>
      obtain ⟨e,e',he1,he2,hvv,_,_,_,hrun⟩:=hfk
      cases z with
      | none=>rw [hf] at ho;simp at ho
      | some zv =>
       rw [hf] at ho
       simp only [he1,Option.map_some,Option.some.injEq] at ho
       subst ho
       refine .pure h (aQ (v:=bif ok then .tuple #[e'.val,.bool true] else e'.val) ?_) ?_
       ·cases ok <;> simp [Instr.lookup,ct hu,hgo,hck,hrun]
       ·cases ok with
        | false=>exact hvv
        | true=>exact VR.de (.cons hvv (.cons (.flat rfl) (.nil γ)))
     | none =>
      cases z with
      | none=>rw [hf] at ho;simp at ho
      | some zv =>
       rw [hf] at ho
       simp only at ho
       obtain ⟨ie,hi1,hi2⟩:=hz zv rfl
       cases hfl:flat zv with
       | false=>rw [hfl] at ho;cases ho
       | true =>
        rw [hfl] at ho
        simp only [cond_true,Option.some.injEq] at ho
        subst ho
        refine .pure h (aQ (v:=bif ok then .tuple #[zv,.bool false] else zv) ?_) ?_
        ·cases ok <;> simp [Instr.lookup,ct hu,hgo,hck,hfk,kI hi1 hi2]
        ·cases ok with
         | false=>exact VR.of_flat hfl
         | true=>exact VR.de (.cons (VR.of_flat hfl) (.cons (.flat rfl) (.nil γ)))
theorem kU.modify {es:List MapEntry} {es':Array MapEntry} (h:kU γ es es') (i:Nat) (f f':MapEntry→MapEntry)
  (hf:∀ e e',es[i]?=some e→es'[i]?=some e'→VR γ (f e).key (f' e').key∧VR γ (f e).val (f' e').val∧(f e).born=(f' e').born):kU γ (es.modify i f) (es'.modify i f'):=by
 refine ⟨by simp [h.1],fun j a b ha hb=>?_⟩
 rw [List.getElem?_modify] at ha
 rw [Array.getElem?_modify] at hb
 by_cases hij:i=j
 ·subst hij
  simp only [if_true] at ha hb
  obtain ⟨e,h1,rfl⟩:=Option.map_eq_some_iff.1 ha
  obtain ⟨e',h2,rfl⟩:=Option.map_eq_some_iff.1 hb
  exact hf e e' h1 h2
 ·simp only [hij,if_false] at ha hb
  have ha':es[j]?=some a:=by cases hx:es[j]? <;> simp_all
  exact h.2 j a b ha' hb
theorem kU.push {es:List MapEntry} {es':Array MapEntry} (h:kU γ es es') {e e':MapEntry} (he:VR γ e.key e'.key∧VR γ e.val e'.val∧e.born=e'.born):kU γ (es++[e]) (es'.push e'):=by
 refine ⟨by simp [h.1],fun j a b ha hb=>?_⟩
 by_cases hj:j < es.length
 ·rw [List.getElem?_append_left hj] at ha
  rw [Array.getElem?_push,if_neg (by have:=h.1;omega)] at hb
  exact h.2 j a b ha hb
 ·rw [List.getElem?_append_right (by omega)] at ha
  have hj2:j - es.length=0:=by
   have:=(List.getElem?_eq_some_iff.1 ha).1
   simp at this;omega
  rw [hj2] at ha
  simp at ha
  subst ha
  rw [Array.getElem?_push,if_pos (by have:=h.1;omega)] at hb
  cases hb
  exact he
theorem qR (h:HR γ g w) {r b:Nat} {es es2:List MapEntry} {c c2:Nat} {es' es2':Array MapEntry} (hm:map? (g r)=some (es,c)) (hl:γ.loc r=some (b,0)) (hB:γ.B≤b)
  (hw:w.heap[b]?=some (.map es' c)) (he:kU γ es2 es2') :
  HR γ (iJ g r (.map es2 c2)) {w with heap:=w.heap.setIfInBounds b (.map es2' c2)}∧lB γ g w γ (iJ g r (.map es2 c2)) {w with heap:=w.heap.setIfInBounds b (.map es2' c2)} ∧
   (∀ P:Program,(setObj b (.map es2' c2)).run P w=.ok () {w with heap:=w.heap.setIfInBounds b (.map es2' c2)}):=by
 have hlt:b < w.heap.size:=(Array.getElem?_eq_some_iff.1 hw).1
 obtain ⟨q1,q2,_⟩:=A7 (a:=.map es2 c2) (obj:=.map es2' c2) h (map_some hm) rfl hl hw rfl ⟨rfl,hB,es2',by simp [hlt],he⟩
 exact ⟨q1,q2,fun P=>by simp [setObj,Sem.run,hw]⟩
theorem w6 (hT:bO T) (h:HR γ g w) {t:TypeId} {m m' k k' v:Value} {e:cG} (ho:fB T t m k g=some (v,e)) (hm:VR γ m m') (hk:VR γ k k') :
  aT T.P γ g w n (do Pure.pure (Next.value (←Instr.mapEntry t m' k'))) v e:=by
 unfold fB at ho
 cases hmt:l9 T t with
 | none=>rw [hmt] at ho;cases ho
 | some p =>
  obtain ⟨kt,z⟩:=p
  cases hb:i6 m with
  | none=>rw [hmt,hb] at ho;cases ho
  | some r =>
   cases hmp:map? (g r) with
   | none=>rw [hmt,hb] at ho;simp only [hmp] at ho;cases ho
   | some q =>
    obtain ⟨es,c⟩:=q
    rw [hmt,hb] at ho
    simp only [hmp] at ho
    obtain ⟨b,es',rfl,hl,hB,hw,he,hgo⟩:=bP h hb hmp hm
    obtain ⟨et,hu,hz⟩:=sk hT hmt
    unfold nD at ho
    cases hf:pT T.P false kt k es with
    | none=>rw [hf] at ho;simp at ho
    | some r' =>
     obtain ⟨rfl,hck,hfk⟩:=uy hf he hk
     have hflk:flat k'=true:=by
      unfold pT at hf
      cases hc:(flat k' && es.all fun e=>flat e.key) with
      | false=>rw [hc] at hf;cases hf
      | true=>simp only [Bool.and_eq_true] at hc;exact hc.1
     cases r' with
     | some i =>
      obtain ⟨x,x',he1,he2,hvv,hkk,hkf,hborn,hrun⟩:=hfk
      rw [hf] at ho
      simp only [he1] at ho
      cases hsb:Instr.sameBits 10000 x.key k' with
      | false=>rw [hsb] at ho;cases ho
      | true =>
       rw [hsb] at ho
       simp only [cond_true,Option.some.injEq,Prod.mk.injEq] at ho
       obtain ⟨rfl,rfl⟩:=ho
       have hmod:kU γ (es.modify i fun e=>{e with key:=k'}) (es'.modify i fun e=>{e with key:=k'}) :=
        he.modify i _ _ fun a a' h1 h2=>by obtain ⟨_,y,zz⟩:=he.2 i a a' h1 h2;exact ⟨VR.of_flat hflk,y,zz⟩
       obtain ⟨q1,q2,q3⟩:=qR (c2:=c) h hmp hl hB hw hmod
       refine ⟨.tuple #[x'.val,.int .i64 x'.born],_,γ,.inl (aQ ?_),Gm.Le.refl γ,fun _ _=>rfl,q1,?_,q2⟩
       ·have hstay:(Instr.keyThatStays x'.key k').run T.P w=.ok k' w:=by simp [Instr.keyThatStays,hkk,hsb]
        simp [Instr.mapEntry,ct hu,hgo,hck,hrun,he2,hstay,q3,goInt]
       ·rw [←hborn]
        exact VR.de (.cons hvv (.cons (.flat rfl) (.nil γ)))
     | none =>
      cases z with
      | none=>rw [hf] at ho;simp at ho
      | some zv =>
       rw [hf] at ho
       simp only at ho
       obtain ⟨ie,hi1,hi2⟩:=hz zv rfl
       cases hfl:flat zv with
       | false=>rw [hfl] at ho;cases ho
       | true =>
        rw [hfl] at ho
        simp only [cond_true,Option.some.injEq,Prod.mk.injEq] at ho
        obtain ⟨rfl,rfl⟩:=ho
        have hpush:kU γ (es++[{key:=k',val:=zv,born:=c}]) (es'.push {key:=k',val:=zv,born:=c}):=he.push ⟨VR.of_flat hflk,VR.of_flat hfl,rfl⟩
        obtain ⟨q1,q2,q3⟩:=qR (c2:=c+1) h hmp hl hB hw hpush
        refine ⟨.tuple #[zv,.int .i64 c],_,γ,.inl (aQ ?_),Gm.Le.refl γ,fun _ _=>rfl,q1,VR.de (.cons (VR.of_flat hfl) (.cons (.flat rfl) (.nil γ))),q2⟩
        simp [Instr.mapEntry,ct hu,hgo,hck,hfk,kI hi1 hi2,q3,goInt]
end
end Go.RM
namespace Go.RM
open Go.RowKit
section
variable {T : bM} {γ : Gm} {g : aE} {w : World} {n : Nat}
def gK (γ:Gm):List MapEntry→List MapEntry→Prop
 | [],[]=>True
 | e :: l,e' :: l'=>(VR γ e.key e'.key∧VR γ e.val e'.val∧e.born=e'.born)∧gK γ l l'
 | _,_=>False
theorem gK.HZ {γ:Gm}:∀ {l l':List MapEntry},l.length=l'.length →
  (∀ (i:Nat) (e e':MapEntry),l[i]?=some e→l'[i]?=some e'→VR γ e.key e'.key∧VR γ e.val e'.val∧e.born=e'.born)→gK γ l l'
 | [],[],_,_=>trivial
 | [],_ :: _,h,_=>by simp at h
 | _ :: _,[],h,_=>by simp at h
 | e :: l,e' :: l',h,hp=>⟨hp 0 e e' rfl rfl,gK.HZ (by simpa using h) fun i a a' x y=>hp (i+1) a a' (by simpa using x) (by simpa using y)⟩
theorem kU.list {es:List MapEntry} {es':Array MapEntry} (h:kU γ es es'):gK γ es es'.toList :=
 gK.HZ (by simpa using h.1) fun i e e' a b=>h.2 i e e' a (by simpa using b)
theorem gK.len {γ:Gm}:∀ {l l':List MapEntry},gK γ l l'→l.length=l'.length
 | [],[],_=>rfl
 | [],_ :: _,h=>h.elim
 | _ :: _,[],h=>h.elim
 | _ :: _,_ :: _,h=>by simp [gK.len h.2]
theorem gK.get {γ:Gm}:∀ {l l':List MapEntry} {i:Nat} {e':MapEntry},gK γ l l'→l'[i]?=some e'→∃ e,l[i]?=some e∧VR γ e.key e'.key∧VR γ e.val e'.val∧e.born=e'.born
 | [],[],i,e',_,h=>by simp at h
 | [],_ :: _,_,_,h,_=>h.elim
 | _ :: _,[],_,_,h,_=>h.elim
 | e :: l,x :: l',0,e',h,hx=>by simp at hx;subst hx;exact ⟨e,rfl,h.1⟩
 | e :: l,x :: l',i+1,e',h,hx=>by
  obtain ⟨y,a,b⟩:=gK.get (i:=i) h.2 (by simpa using hx)
  exact ⟨y,by simpa using a,b⟩
theorem gK.filter {γ:Gm} (p:Nat→Bool):∀ {l l':List MapEntry},gK γ l l'→gK γ (l.filter fun e=>p e.born) (l'.filter fun e=>p e.born)
 | [],[],_=>trivial
 | [],_ :: _,h=>h.elim
 | _ :: _,[],h=>h.elim
 | e :: l,e' :: l',h=>by
  have ih:=gK.filter p h.2
  have hb:=h.1.2.2
  by_cases hp:p e.born=true
  ·have hp':p e'.born=true:=by rw [←hb];exact hp
   rw [List.filter_cons_of_pos (by simpa using hp),List.filter_cons_of_pos (by simpa using hp')]
   exact ⟨h.1,ih⟩
  ·have hp':¬ p e'.born=true:=by rw [←hb];exact hp
   rw [List.filter_cons_of_neg (by simpa using hp),List.filter_cons_of_neg (by simpa using hp')]
   exact ih
theorem gK.append {γ:Gm}:∀ {a a' b b':List MapEntry},gK γ a a'→gK γ b b'→gK γ (a++b) (a'++b')
 | [],[],_,_,_,h=>h
 | [],_ :: _,_,_,h,_=>h.elim
 | _ :: _,[],_,_,h,_=>h.elim
 | _ :: _,_ :: _,_,_,h,k=>⟨h.1,gK.append h.2 k⟩
theorem gK.findIdx {γ:Gm} (p:Nat→Bool):∀ {l l':List MapEntry},gK γ l l'→(l.findIdx? fun e=>p e.born)=l'.findIdx? fun e=>p e.born
 | [],[],_=>rfl
 | [],_ :: _,h=>h.elim
 | _ :: _,[],h=>h.elim
 | e :: l,e' :: l',h=>by
  rw [List.findIdx?_cons,List.findIdx?_cons,h.1.2.2,gK.findIdx p h.2]
theorem gK.find {γ:Gm} (p:Nat→Bool):∀ {l l':List MapEntry},gK γ l l' →
  match l.find? (fun e=>p e.born) with
  | none=>l'.find? (fun e=>p e.born)=none
  | some e=>∃ e',l'.find? (fun e=>p e.born)=some e'∧VR γ e.key e'.key∧VR γ e.val e'.val∧e.born=e'.born
 | [],[],_=>rfl
 | [],_ :: _,h=>h.elim
 | _ :: _,[],h=>h.elim
 | e :: l,e' :: l',h=>by
  have hb:=h.1.2.2
  cases hp:p e.born with
  | true =>
   rw [List.find?_cons_of_pos (by simpa using hp),List.find?_cons_of_pos (by rw [←hb];simpa using hp)]
   exact ⟨e',rfl,h.1⟩
  | false =>
   rw [List.find?_cons_of_neg (by simp [hp]),List.find?_cons_of_neg (by rw [←hb];simp [hp])]
   exact gK.find p h.2
theorem uz (h:HR γ g w) {t:TypeId} {m m' s s' x x':Value} {e:cG} (ho:dQ m s x g=some e) (hm:VR γ m m') (hs:VR γ s s') (hx:VR γ x x') :
  aT T.P γ g w n (do Instr.entryStore t m' s' x';Pure.pure Next.skip) undef e:=by
 unfold dQ at ho
 cases hb:i6 m with
 | none=>rw [hb] at ho;simp at ho
 | some r =>
  cases hi:intOf? s with
  | none=>rw [hb,hi] at ho;simp at ho
  | some born =>
   cases hmp:map? (g r) with
   | none=>rw [hb,hi] at ho;simp only [hmp] at ho;cases ho
   | some q =>
    obtain ⟨es,c⟩:=q
    rw [hb,hi] at ho
    simp only [hmp] at ho
    obtain ⟨b,es',rfl,hl,hB,hw,he,hgo⟩:=bP h hb hmp hm
    obtain ⟨kk,rfl⟩:=wV hi
    obtain rfl:=hs.bS rfl
    cases hf:es.findIdx? (fun e=>(e.born:Int) == born) with
    | none=>rw [hf] at ho;cases ho
    | some i =>
     rw [hf] at ho
     simp only [Option.some.injEq] at ho
     subst ho
     have hf':es'.findIdx? (fun e=>(e.born:Int) == born)=some i:=by
      have:=gK.findIdx (fun k=>(k:Int) == born) he.list
      rw [hf] at this
      obtain ⟨l⟩:=es'
      rw [List.findIdx?_toArray]
      exact this.symm
     have hmod:kU γ (es.modify i fun e=>{e with val:=x}) (es'.modify i fun e=>{e with val:=x'}) :=
      he.modify i _ _ fun a a' h1 h2=>by obtain ⟨y,_,zz⟩:=he.2 i a a' h1 h2;exact ⟨y,hx,zz⟩
     obtain ⟨q1,q2,q3⟩:=qR (c2:=c) h hmp hl hB hw hmod
     refine ⟨undef,_,γ,.inr ⟨sQ ?_,rfl⟩,Gm.Le.refl γ,fun _ _=>rfl,q1,VR.undef γ,q2⟩
     simp [Instr.entryStore,hgo,asInt,asIntOf,hf',q3]
theorem wh (hT:bO T) (h:HR γ g w) {t:TypeId} {m m' k k' x x':Value} {e:cG} (ho:fm T t m k x g=some e) (hm:VR γ m m') (hk:VR γ k k') (hx:VR γ x x') :
  aT T.P γ g w n (do Instr.mapUpdate t m' k' x';Pure.pure Next.skip) undef e:=by
 unfold fm at ho
 cases hmt:l9 T t with
 | none=>rw [hmt] at ho;simp at ho
 | some p =>
  obtain ⟨kt,z⟩:=p
  cases hb:i6 m with
  | none=>rw [hmt,hb] at ho;simp at ho
  | some r =>
   cases hmp:map? (g r) with
   | none=>rw [hmt,hb] at ho;simp only [hmp] at ho;cases ho
   | some q =>
    obtain ⟨es,c⟩:=q
    rw [hmt,hb] at ho
    simp only [hmp] at ho
    obtain ⟨b,es',rfl,hl,hB,hw,he,hgo⟩:=bP h hb hmp hm
    obtain ⟨et,hu,hz⟩:=sk hT hmt
    unfold oa at ho
    cases hf:pT T.P false kt k es with
    | none=>rw [hf] at ho;simp at ho
    | some r' =>
     obtain ⟨rfl,hck,hfk⟩:=uy hf he hk
     have hflk:flat k'=true:=by
      unfold pT at hf
      cases hc:(flat k' && es.all fun e=>flat e.key) with
      | false=>rw [hc] at hf;cases hf
      | true=>simp only [Bool.and_eq_true] at hc;exact hc.1
     cases r' with
     | some i =>
      obtain ⟨y,y',he1,he2,hvv,hkk,hkf,hborn,hrun⟩:=hfk
      rw [hf] at ho
      simp only [he1] at ho
      cases hsb:Instr.sameBits 10000 y.key k' with
      | false=>rw [hsb] at ho;cases ho
      | true =>
       rw [hsb] at ho
       simp only [cond_true,Option.some.injEq] at ho
       subst ho
       have hmod:kU γ (es.modify i fun e=>{e with key:=k',val:=x}) (es'.modify i fun e=>{e with key:=k',val:=x'}) :=
        he.modify i _ _ fun a a' h1 h2=>by obtain ⟨_,_,zz⟩:=he.2 i a a' h1 h2;exact ⟨VR.of_flat hflk,hx,zz⟩
       obtain ⟨q1,q2,q3⟩:=qR (c2:=c) h hmp hl hB hw hmod
       refine ⟨undef,_,γ,.inr ⟨sQ ?_,rfl⟩,Gm.Le.refl γ,fun _ _=>rfl,q1,VR.undef γ,q2⟩
       have hstay:(Instr.keyThatStays y'.key k').run T.P w=.ok k' w:=by simp [Instr.keyThatStays,hkk,hsb]
       simp [Instr.mapUpdate,ct hu,hgo,hck,hrun,he2,hstay,q3]
     | none =>
      rw [hf] at ho
      simp only [Option.some.injEq] at ho
      subst ho
      have hpush:kU γ (es++[{key:=k',val:=x,born:=c}]) (es'.push {key:=k',val:=x',born:=c}):=he.push ⟨VR.of_flat hflk,hx,rfl⟩
      obtain ⟨q1,q2,q3⟩:=qR (c2:=c+1) h hmp hl hB hw hpush
      refine ⟨undef,_,γ,.inr ⟨sQ ?_,rfl⟩,Gm.Le.refl γ,fun _ _=>rfl,q1,VR.undef γ,q2⟩
      simp [Instr.mapUpdate,ct hu,hgo,hck,hfk,q3]
theorem Ba (h:HR γ g w) (hn:γ.loc n=none) {t:TypeId} :
  aT T.P γ g w n (do Pure.pure (Next.value (←Instr.makeMap t none))) (.map (some n)) (.new (.map [] 0)):=by
 have hle:=Gm.oh (b:=w.heap.size) (c:=0) hn
 refine ⟨.map (some w.heap.size),w.alloc (.map #[] 0),γ.add n w.heap.size 0,.inl (aQ (by simp [Instr.makeMap])),hle,fun k hk=>Gm.bV _ _ _ (fun e=>Bool.noConfusion (hk e:true=false)),?_,VR.map (Gm.cO _ _ _ _),lB.new (obj:=_) rfl rfl rfl rfl⟩
 refine HR.new (w:=w) h hn (obj:=_) rfl ⟨rfl,h.base,#[],?_,rfl,by simp⟩
 show (w.heap.push _)[w.heap.size]?=_
 simp
theorem FJ (h:HR γ g w) {it it':Value} {r m since last c:Nat} {seen:List Nat} {es:List MapEntry} (ha:addr? it=some (r,0)) (hg:g r=some (.iter m since seen last))
  (hm:map? (g m)=some (es,c)) (hv:VR γ it it') :
  ∃ b bm es',it'=.pointer (some ⟨b,0,none⟩)∧γ.loc r=some (b,0)∧γ.B≤b∧γ.loc m=some (bm,0)∧w.heap[b]?=some (.mapIter (some bm) since seen.toArray last) ∧
   w.heap[bm]?=some (.map es' c)∧kU γ es es':=by
 obtain ⟨b,d,hl,rfl⟩:=hv.addr ha
 obtain ⟨rfl,hB,bm,hlm,hw⟩:=h.iQ r b d _ hg hl
 obtain ⟨_,_,es',hw',he⟩:=h.iQ m bm 0 _ (map_some hm) hlm
 exact ⟨b,bm,es',rfl,hl,hB,hlm,hw,hw',he⟩
theorem Cr (h:HR γ g w) {it it' v:Value} {e:cG} (ho:uq it g=some (v,e)) (hv:VR γ it it') :
  aT T.P γ g w n (do Pure.pure (Next.value (←Instr.entry it'))) v e:=by
 unfold uq at ho
 split at ho
 ·rename_i r ha
  cases hg:g r with
  | none=>rw [hg] at ho;cases ho
  | some iQ =>
   rw [hg] at ho
   cases iQ with
   | iter m since seen stepped =>
    simp only at ho
    cases hs:seen.getLast? with
    | none=>rw [hs] at ho;simp at ho
    | some stamp =>
     cases hm:map? (g m) with
     | none=>rw [hs,hm] at ho;simp at ho
     | some q =>
      obtain ⟨es,clock⟩:=q
      rw [hs,hm] at ho
      simp only at ho
      cases hc:Nat.beq clock stepped with
      | false=>rw [hc] at ho;cases ho
      | true =>
       rw [hc] at ho
       simp only [cond_true,Option.map_eq_some_iff,Prod.mk.injEq] at ho
       obtain ⟨x,hx,rfl,rfl⟩:=ho
       have hcc:=Nat.eq_of_beq_eq_true hc
       subst hcc
       obtain ⟨b,bm,es',rfl,hl,hB,hlm,hw,hw',he⟩:=FJ h ha hg hm hv
       have hf:=gK.find (fun k=>k == stamp) he.list
       rw [hx] at hf
       obtain ⟨x',h1,h2,h3,_⟩:=hf
       have h1':es'.find? (fun e=>e.born == stamp)=some x':=by rw [←Array.find?_toList];exact h1
       have hg1:(getObj b).run T.P w=.ok (.mapIter (some bm) since seen.toArray clock) w:=by simp [getObj,Sem.run,hw]
       have hg2:(getObj bm).run T.P w=.ok (.map es' clock) w:=by simp [getObj,Sem.run,hw']
       have hback:seen.toArray.back?=some stamp:=by simpa using hs
       refine .pure h (aQ (v:=.tuple #[x'.key,x'.val]) ?_) (VR.de (.cons h2 (.cons h3 (.nil γ))))
       simp [Instr.entry,hg1,hg2,hback,h1']
   | _=>cases ho
 ·cases ho
theorem El (h:HR γ g w) {it it':Value} {ty:TypeId} {L:List (Value × cG)} (ho:sL it g=some L) (hv:VR γ it it') :
  ∃ v e,(v,e) ∈ L∧aT T.P γ g w n (do Pure.pure (Next.value (←Instr.next it' false ty))) v e:=by
 unfold sL at ho
 split at ho
 ·rename_i r
  cases hg:g r with
  | none=>rw [hg] at ho;cases ho
  | some iQ =>
   rw [hg] at ho
   cases iQ with
   | iter m since seen last =>
    simp only at ho
    cases hm:map? (g m) with
    | none=>rw [hm] at ho;cases ho
    | some q =>
     obtain ⟨es,clock⟩:=q
     rw [hm] at ho
     simp only at ho
     obtain ⟨b,bm,es',rfl,hl,hB,hlm,hw,hw',he⟩:=FJ h rfl hg hm hv
     have hg1:(getObj b).run T.P w=.ok (.mapIter (some bm) since seen.toArray last) w:=by simp [getObj,Sem.run,hw]
     have hg2:(getObj bm).run T.P w=.ok (.map es' clock) w:=by simp [getObj,Sem.run,hw']
     unfold wO at ho
     cases hgone:(!seen.isEmpty && !es.isEmpty && es.all (fun e=>Nat.ble last e.born)) with
     | true=>rw [hgone] at ho;cases ho
     | false =>
      rw [hgone] at ho
      simp only [cond_false,Option.some.injEq] at ho
      subst ho
      have hleft:gK γ (es.filter fun e=>!seen.contains e.born) (es'.filter fun e=>!seen.toArray.contains e.born).toList:=by
       rw [Array.toList_filter]
       have:=gK.filter (fun k=>!seen.contains k) he.list
       simpa using this
      have hold:gK γ ((es.filter fun e=>!seen.contains e.born).filter fun e=>decide (e.born < since)) ((es'.filter fun e=>!seen.toArray.contains e.born).filter (·.born < since)).toList:=by
       rw [Array.toList_filter]
       exact gK.filter (fun k=>decide (k < since)) hleft
      have hnew:gK γ ((es.filter fun e=>!seen.contains e.born).filter fun e=>decide (e.born ≥ since)) ((es'.filter fun e=>!seen.toArray.contains e.born).filter (·.born ≥ since)).toList:=by
       rw [Array.toList_filter]
       exact gK.filter (fun k=>decide (k ≥ since)) hleft
      have hgone':(!seen.toArray.isEmpty && !es'.isEmpty && es'.all (·.born ≥ last))=false:=by
       have h1:es'.all (·.born ≥ last)=es.all (fun e=>Nat.ble last e.born):=by
        rw [←Array.all_toList]
        have:∀ {l l':List MapEntry},gK γ l l'→l'.all (fun e=>decide (e.born ≥ last))=l.all (fun e=>Nat.ble last e.born):=by
         intro l
         induction l with
         | nil=>intro l' hh;cases l' with
          | nil=>rfl
          | cons=>exact hh.elim
         | cons a l ih=>intro l' hh;cases l' with
          | nil=>exact hh.elim
          | cons a' l' =>
           simp only [List.all_cons,ih hh.2,ble_eq,←hh.1.2.2]
        exact this he.list
       rw [h1,he.empty]
       have h2:seen.toArray.isEmpty=seen.isEmpty:=by cases seen <;> rfl
       rw [h2];exact hgone
      generalize hO:(es.filter fun e=>!seen.contains e.born).filter (fun e=>decide (e.born < since))=old at hold ⊢
      generalize hN:(es.filter fun e=>!seen.contains e.born).filter (fun e=>decide (e.born ≥ since))=new at hnew ⊢
      generalize hO':(es'.filter fun e=>!seen.toArray.contains e.born).filter (·.born < since)=old' at hold
      generalize hN':(es'.filter fun e=>!seen.toArray.contains e.born).filter (·.born ≥ since)=new' at hnew
      have hboth:=hold.append hnew
      have hempty:old'.isEmpty=old.isEmpty:=by
       have:=hold.len
       cases old with
       | nil =>
        have hz:old'=#[]:=Array.eq_empty_of_size_eq_zero (by simpa using this.symm)
        subst hz;rfl
       | cons a l =>
        cases hx:old'.isEmpty with
        | false=>rfl
        | true =>
         have hz:old'=#[]:=by simpa using hx
         subst hz
         simp at this
      let cand:Array (Option MapEntry):=(if old'.isEmpty then #[none] else #[])++(old'++new').map some
      have hpos:0 < cand.size:=by
       show 0 < ((if old'.isEmpty then #[none] else #[])++(old'++new').map some).size
       cases hx:old'.isEmpty with
       | true=>simp;omega
       | false =>
        have:0 < old'.size:=by
         rcases Nat.eq_zero_or_pos old'.size with h0|h0
         ·have:old'=#[]:=Array.eq_empty_of_size_eq_zero h0
          subst this;simp at hx
         ·exact h0
        simp;omega
      obtain ⟨i,w1,hi,hw1,hch⟩:∃ i w1,i < cand.size∧(w1=w∨w1=w.drew)∧(choose (.mapNext cand.size)).run T.P w=.ok i w1:=by
       by_cases hf:cand.size≤1
       ·refine ⟨0,w,hpos,.inl rfl,?_⟩
        simp [choose,Sem.run,Question.forced,hf]
       ·refine ⟨_,w.drew,Nat.mod_lt (w.tape w.drawn (.mapNext cand.size)) hpos,.inr rfl,?_⟩
        have hf':decide (cand.size≤1)=false:=decide_eq_false hf
        simp only [choose,Sem.run,Question.forced,hf',Bool.false_eq_true,if_false,Question.cut]
        rfl
      have hw1h:w1.heap=w.heap:=by rcases hw1 with rfl|rfl <;> rfl
      have hw1o:w1.os=w.os∧w1.tape=w.tape∧w1.output=w.output:=by rcases hw1 with rfl|rfl <;> exact ⟨rfl,rfl,rfl⟩
      have hH1:HR γ g w1:=h.same hw1h
      have hU1:lB γ g w γ g w1:=lB.heap hw1h hw1o.1 hw1o.2.1 hw1o.2.2
      obtain ⟨x,hx⟩:∃ x,cand[i]?=some x:=⟨_,Array.getElem?_eq_getElem hi⟩
      have hmain:∀ u wu,(match x with
        | some e=>(do setObj b (.mapIter (some bm) since (seen.toArray.push e.born) clock);Pure.pure (.tuple #[.bool true,e.key,e.val]):Sem Value)
        | none=>Pure.pure (.tuple #[.bool false])).run T.P w1=.ok u wu→(Instr.next (.pointer (some ⟨b,0,none⟩)) false ty).run T.P w=.ok u wu:=by
       intro u wu hu
       have hx':((if old'.isEmpty=true then #[none] else #[])++Array.map some (old'++new'))[i]?=some x:=hx
       simp only [Instr.next,Sem.run_bind,hg1,Result.andThen_ok,hg2,hgone',Bool.false_eq_true,if_false,hO',hN']
       have hch':(choose (.mapNext ((if old'.isEmpty=true then #[none] else #[])++Array.map some (old'++new')).size)).run T.P w=.ok i w1:=hch
       rw [hch']
       simp only [Result.andThen_ok,hx']
       cases x with
       | none=>exact hu
       | some e=>simpa using hu
      by_cases hover:old'.isEmpty=true∧i=0
      ·
       obtain ⟨ho1,rfl⟩:=hover
       have hxn:x=none:=by
        have hx':((if old'.isEmpty=true then #[none] else #[])++Array.map some (old'++new'))[0]?=some x:=hx
        rw [if_pos ho1] at hx'
        rw [Array.getElem?_append_left (by simp)] at hx'
        simpa using hx'.symm
       subst hxn
       refine ⟨.tuple #[.bool false],.none,?_,?_⟩
       ·rw [←hempty,ho1];simp
       ·refine ⟨.tuple #[.bool false],w1,γ,.inl (aQ (hmain _ _ rfl)),Gm.Le.refl γ,fun _ _=>rfl,hH1,VR.de (l:=[.bool false]) (cB.of_flat rfl),hU1⟩
      ·
       obtain ⟨j,e',hj,rfl⟩:∃ (j:Nat) (e':MapEntry),(old'.toList++new'.toList)[j]?=some e'∧x=some e':=by
        have hx':((if old'.isEmpty=true then #[none] else #[])++Array.map some (old'++new'))[i]?=some x:=hx
        cases hox:old'.isEmpty with
        | true =>
         rw [hox] at hx' hover
         simp only [if_true] at hx'
         have hi0:i ≠ 0:=fun e=>hover ⟨rfl,e⟩
         rw [Array.getElem?_append_right (by simp;omega)] at hx'
         simp only [List.size_toArray,List.length_cons,List.length_nil,Array.getElem?_map] at hx'
         obtain ⟨e',h1,h2⟩:=Option.map_eq_some_iff.1 hx'
         exact ⟨i - 1,e',by rw [←Array.toList_append,Array.getElem?_toList];simpa using h1,h2.symm⟩
        | false =>
         rw [hox] at hx'
         simp only [Bool.false_eq_true,if_false,Array.empty_append,Array.getElem?_map] at hx'
         obtain ⟨e',h1,h2⟩:=Option.map_eq_some_iff.1 hx'
         exact ⟨i,e',by rw [←Array.toList_append,Array.getElem?_toList];exact h1,h2.symm⟩
       obtain ⟨e,he1,hk,hvv,hborn⟩:=hboth.get hj
       have hset:(setObj b (.mapIter (some bm) since (seen.toArray.push e'.born) clock)).run T.P w1=.ok () {w1 with heap:=w1.heap.setIfInBounds b (.mapIter (some bm) since (seen.toArray.push e'.born) clock)}:=by
        simp [setObj,Sem.run,hw1h,hw]
       have hwb:w1.heap[b]?=some (.mapIter (some bm) since seen.toArray last):=by rw [hw1h];exact hw
       have hltb:b < w1.heap.size:=(Array.getElem?_eq_some_iff.1 hwb).1
       obtain ⟨q1,q2,_⟩:=A7 (a:=.iter m since (seen++[e.born]) clock) (obj:=.mapIter (some bm) since (seen.toArray.push e'.born) clock) hH1 hg rfl hl hwb rfl
        ⟨rfl,hB,bm,hlm,by rw [hborn];simp [hltb]⟩
       refine ⟨.tuple #[.bool true,e.key,e.val],.put r (.iter m since (seen++[e.born]) clock),?_,?_⟩
       ·refine List.mem_append.2 (.inr ?_)
        exact List.mem_map.2 ⟨e,List.mem_of_getElem? he1,rfl⟩
       ·refine ⟨.tuple #[.bool true,e'.key,e'.val],_,γ,.inl (aQ (hmain _ _ (by simp only [Sem.run_bind,hset,Result.andThen_ok,Sem.run_pure]))),Gm.Le.refl γ,fun _ _=>rfl,q1,
         VR.de (.cons (.flat rfl) (.cons hk (.cons hvv (.nil γ)))),?_⟩
        exact hU1.trans q2
   | _=>cases ho
 ·cases ho
end
end Go.RM
namespace Go.RM
open Go.RowKit
section
variable {T : bM} {γ : Gm} {g : aE} {w : World} {n : Nat}
theorem cB.map {ρ ρ':Operand→Value} {l:List Operand} (h:∀ x ∈ l,VR γ (ρ x) (ρ' x)):cB γ (l.map ρ) (l.map ρ'):=by
 refine ⟨by simp,fun i v v' a b=>?_⟩
 rw [List.getElem?_map] at a b
 obtain ⟨x,hx,rfl⟩:=Option.map_eq_some_iff.1 a
 rw [hx] at b
 simp at b
 subst b
 exact h x (List.mem_of_getElem? hx)
theorem kV.map {ρ ρ':Operand→Value} {l:List (Nat × Operand)} (h:∀ x ∈ l,VR γ (ρ x.2) (ρ' x.2)):kV γ (l.map fun (i,x)=>(i,ρ x)) (l.map fun (i,x)=>(i,ρ' x)):=by
 refine ⟨by simp,fun i p p' a b=>?_⟩
 rw [List.getElem?_map] at a b
 obtain ⟨x,hx,rfl⟩:=Option.map_eq_some_iff.1 a
 rw [hx] at b
 simp at b
 subst b
 exact ⟨rfl,h x (List.mem_of_getElem? hx)⟩
theorem pY.map {ρ ρ':Operand→Value} {x:Option Operand} (h:∀ y,x=some y→VR γ (ρ y) (ρ' y)):pY γ (x.map ρ) (x.map ρ'):=by
 cases x with
 | none=>trivial
 | some y=>exact h y rfl
theorem pY.cW {a b:Option Value} (h:pY γ a b) (hf:a.toList.all flat=true):b=a:=by
 cases a with
 | none=>cases b with
  | none=>rfl
  | some _=>exact h.elim
 | some x=>cases b with
  | none=>exact h.elim
  | some y=>simp at hf;rw [VR.cW h hf]
theorem Cs (hT:bO T) (h:HR γ g w) {t ty:TypeId} {x x' v:Value} {e:cG} (ho:pV T t x g=some (v,e)) (hx:VR γ x x') :
  aT T.P γ g w n (do Pure.pure (Next.value (←Builtin.clear_ #[t] ty #[x']))) v e:=by
 unfold pV at ho
 split at ho
 ·rename_i r hty
  obtain ⟨i,_,_,_,_,hu,_⟩:=hT.ty t _ hty
  cases hm:map? (g r) with
  | none=>rw [hm] at ho;cases ho
  | some p =>
   obtain ⟨es,clock⟩:=p
   rw [hm] at ho
   simp only [Option.some.injEq,Prod.mk.injEq] at ho
   obtain ⟨rfl,rfl⟩:=ho
   obtain ⟨b,es',rfl,hl,hB,hw,he,hget⟩:=bP h (m:=.map (some r)) rfl hm hx
   obtain ⟨q1,q2,q3⟩:=qR (es2:=[]) (es2':=#[]) (c2:=clock) h hm hl hB hw ⟨rfl,fun i a b ha=>by cases ha⟩
   refine ⟨.tuple #[],_,γ,.inl (aQ ?_),Gm.Le.refl γ,fun _ _=>rfl,q1,VR.de (l:=[]) (l':=[]) (cB.nil γ),q2⟩
   simp [Builtin.clear_,ct hu,hget T.P,q3 T.P]
 ·rename_i k o nn _ hty
  obtain ⟨i,_,_,_,_,hu,_⟩:=hT.ty t _ hty
  cases he:elem? T t with
  | none=>rw [he] at ho;cases ho
  | some inf =>
   cases hc:cells? (g k) with
   | none=>rw [he,hc] at ho;cases ho
   | some p =>
    obtain ⟨cs,own,es⟩:=p
    rw [he,hc] at ho
    simp only at ho
    cases hcd:(Nat.ble 1 nn && own && cx inf && Nat.ble (o+nn * inf.size) cs.length) with
    | false=>rw [hcd] at ho;cases ho
    | true =>
     rw [hcd] at ho
     simp only [cond_true,Option.some.injEq,Prod.mk.injEq] at ho
     obtain ⟨rfl,rfl⟩:=ho
     obtain ⟨c1,c2,c3,c4⟩:=zR hcd
     subst c2
     have c1:=Nat.le_of_ble_eq_true c1
     have c4:=Nat.le_of_ble_eq_true c4
     obtain ⟨z,hzz,hzs,h1,hfl⟩:=kq c3
     obtain ⟨el,j,hut,hj,hsz,_,hz⟩:=jO hT he
     cases hx with
     | flat hf=>simp [bk] at hf
     | dD=>omega
     | slice hl hle0 ht hlo hk =>
      rename_i b d c'
      obtain ⟨cs',el',fz,hw,hcr,hown⟩:=h.cells hc hl
      obtain ⟨rfl,rfl,hB,hcapsz⟩:=hown rfl
      have hpos:0 < z.cells.size:=by omega
      have harr:=ou z.cells (nn * inf.size) (.inr hpos)
      have hflz:=nk hfl (nn * inf.size) (.inr (by simpa using hpos))
      have hlen:=pH z.cells.toList (nn * inf.size)
      have hcs:cs.length≤cs'.size:=by
       by_cases hn:cs=[]
       ·subst hn;simp
       ·have:=hcr.size_le hn;omega
      have hzc:(Builtin.zeroCells z.cells nn).toList=cH z.cells.toList (nn * inf.size):=by
       unfold Builtin.zeroCells
       rw [hzs]
       rw [hzs] at harr
       exact harr
      have hst:=run_storeCells_at T.P b (0+o) el' (cH z.cells.toList (nn * inf.size)) 0 cs' w hw (by rw [hlen];omega) ((cB.of_flat (γ:=γ) hflz).bC (List.all_eq_true.2 fun v hv=>by have h2:=List.all_eq_true.1 hflz v hv;cases v <;> first|rfl|(simp [bk] at h2)))
      obtain ⟨o1,o2,o3,o4⟩:=setRow_os w b (splice cs'.toList (cH z.cells.toList (nn * inf.size)) o).toArray
      rw [hzz]
      simp only [Option.map_some,Option.getD_some]
      refine ⟨.tuple #[],w.setRow b (splice cs'.toList (cH z.cells.toList (nn * inf.size)) o).toArray,γ,.inl (aQ ?_),Gm.Le.refl γ,fun _ _=>rfl,?_,VR.de (l:=[]) (l':=[]) (cB.nil γ),?_⟩
      ·obtain ⟨q,rfl⟩:∃ q,nn=q+1:=⟨nn - 1,by omega⟩
       simp only [Nat.add_zero,Nat.zero_add] at hst
       simp [Builtin.clear_,ct hut,kI hj (hz.trans hzz),hzc,hst,splice]
      ·refine h.put (dY hc) rfl hl o4 (fun j hj=>setRow_other w b j _ hj) (.inl rfl) ?_
       refine ⟨_,el',(0,0),setRow_heap w b cs' _ el' _ hw,hcr.splice (cB.of_flat hflz) (by rw [hlen];exact c4) (by rw [hlen];omega),fun _=>⟨rfl,rfl,hB,?_⟩⟩
       rw [List.size_toArray,gz _ _ _ (by rw [hlen,Array.length_toList];omega)]
       simpa using hcapsz
      ·exact lB.put (dY hc) rfl hl o1 o2 o3 o4 (fun j hj=>setRow_other w b j _ hj)
 ·cases ho
theorem Em (hT:bO T) (h:HR γ g w) {t u ty:TypeId} {d d' x x' v:Value} {e:cG} (ho:vk T t d x g=some (v,e)) (hd:VR γ d d') (hx:VR γ x x') :
  aT T.P γ g w n (do Pure.pure (Next.value (←Builtin.copy_ #[t,u] ty #[d',x']))) v e:=by
 unfold vk at ho
 split at ho
 ·rename_i k o nn _
  split at ho
  ·rename_i inf cs own es m he hc hm
   split at ho
   ·rename_i new hro
    cases hcd:(own && (Nat.ble 1 nn && Nat.ble m nn) && new.all bC && Nat.ble (o+nn * inf.size) cs.length) with
    | false=>rw [hcd] at ho;cases ho
    | true =>
     rw [hcd] at ho
     simp only [cond_true,Option.some.injEq,Prod.mk.injEq] at ho
     obtain ⟨rfl,rfl⟩:=ho
     obtain ⟨c1,c2,c3,c4⟩:=zR hcd
     subst c1
     rw [Bool.and_eq_true] at c2
     have c1:=Nat.le_of_ble_eq_true c2.1
     have c2:=Nat.le_of_ble_eq_true c2.2
     have c4:=Nat.le_of_ble_eq_true c4
     obtain ⟨el,j,hut,hj,hsz,_,_⟩:=jO hT he
     obtain ⟨l',hl',hln,hfc,a',c',hxs⟩:=ox h hro hx hm
     have hmn:m * inf.size≤nn * inf.size:=Nat.mul_le_mul_right _ c2
     cases hd with
     | flat hf=>simp [bk] at hf
     | dD=>omega
     | slice hl hle0 ht hlo hk =>
      rename_i b dd c2'
      obtain ⟨cs',el',fz,hw,hcr,hown⟩:=h.cells hc hl
      obtain ⟨rfl,rfl,hB,hcapsz⟩:=hown rfl
      have hlen':l'.length=m * inf.size:=by rw [←hl'.1];exact hln
      have hst:=run_storeCells_at T.P b (0+o) el' l' 0 cs' w hw (by
       rw [hlen']
       by_cases hn:cs=[]
       ·subst hn;simp at c4;omega
       ·have:=hcr.size_le hn;omega) (hl'.bC c3)
      obtain ⟨o1,o2,o3,o4⟩:=setRow_os w b (splice cs'.toList l' o).toArray
      refine ⟨_,w.setRow b (splice cs'.toList l' o).toArray,γ,.inl (aQ ?_),Gm.Le.refl γ,fun _ _=>rfl,?_,.flat rfl,?_⟩
      ·simp only [Nat.add_zero,Nat.zero_add] at hst
       have hf:=hfc T.P w rfl
       rw [←hsz] at hf
       subst hxs
       simp [Builtin.copy_,Builtin.lenOf,sizeOf,typeInfo,hj,ct hut,Nat.min_eq_left c2,hf,hst,splice,goInt]
      ·refine h.put (dY hc) rfl hl o4 (fun j hj=>setRow_other w b j _ hj) (.inl rfl) ?_
       have hsz':o+l'.length≤cs'.size:=by
        rw [hlen']
        by_cases hn:cs=[]
        ·subst hn;simp at c4;omega
        ·have:=hcr.size_le hn;omega
       refine ⟨_,el',(0,0),setRow_heap w b cs' _ el' _ hw,hcr.splice hl' (by rw [hln];omega) hsz',fun _=>⟨rfl,rfl,hB,?_⟩⟩
       rw [List.size_toArray,gz _ _ _ (by rw [Array.length_toList];exact hsz')]
       simpa using hcapsz
      ·exact lB.put (dY hc) rfl hl o1 o2 o3 o4 (fun j hj=>setRow_other w b j _ hj)
   ·cases ho
  ·cases ho
 ·cases ho
theorem Bb (hT:bO T) (h:HR γ g w) {t:TypeId} {a a' ix ix' v:Value} {e:cG} (ho:ob T t a ix=some (v,e)) (ha:VR γ a a') (hx:VR γ ix ix') :
  aT T.P γ g w n (do Pure.pure (Next.value (←Instr.index t a' ix'))) v e:=by
 unfold ob at ho
 split at ho
 ·rename_i m el _ _ _ _ _ _ cs k j hty
  split at ho
  ·rename_i jI _ _ _ _ hel
   cases hb:Nat.blt j m with
   | false=>rw [hb] at ho;cases ho
   | true =>
    rw [hb] at ho
    simp only [cond_true] at ho
    split at ho
    ·rename_i f x y hcs
     cases ho
     obtain rfl:=hx.bS rfl
     obtain ⟨i,_,_,_,_,hu,_⟩:=hT.ty t _ hty
     obtain ⟨i',h1,h2,_,_,hu',_⟩:=hT.ty el _ hel
     have hag:=hT.agg hel
     have hjm:j < m:=Nat.le_of_ble_eq_true hb
     have hag':∀ w',(isAgg el).run T.P w'=.ok false w':=fun w'=>by
      have:=nJ hu' w'
      rw [←hag] at this
      exact this
     have two:∃ cs',a'=.agg cs'∧∃ v',cs'[j]?=some v'∧VR γ (.func f x y) v':=by
      have hjs:j < cs.size:=by
       have:=(List.getElem?_eq_some_iff.1 hcs).1
       simpa using this
      have hcj:cs[j]=.func f x y:=by
       have:=(List.getElem?_eq_some_iff.1 hcs).2
       simpa using this
      cases ha with
      | flat hf=>simp [bk] at hf
      | agg hs hc =>
       rename_i cs'
       exact ⟨cs',rfl,cs'[j]'(by omega),by simp [show j < cs'.size by omega],by rw [←hcj];exact hc j hjs (by omega)⟩
     obtain ⟨cs',rfl,v',hv',hvr⟩:=two
     refine .pure h (aQ (v:=v') ?_) hvr
     have hsz:(sizeOf el).run T.P w=.ok 1 w:=by simp [sizeOf,typeInfo,h1,h2]
     simp [Instr.index,asIntOf,ct hu,hjm,hsz,part,hag',hv']
    ·cases ho
  ·cases ho
 ·cases ho
theorem ze (hT:bO T) (h:HR γ g w) {b:Builtin} {l l':List Value} {tys:List TypeId} {ty:TypeId} {cs:Array Bool} {v:Value} {e:cG}
  (hn:e.news=true→γ.loc n=none) (ho:ju T n b l tys g=some (v,e)) (hl:cB γ l l'):aT T.P γ g w n (builtin b tys.toArray ty cs l'.toArray) v e:=by
 unfold ju at ho
 have two:∀ {x y:Value},cB γ [x,y] l'→∃ x' y',l'=[x',y']∧VR γ x x'∧VR γ y y':=fun {x y} hh=>by
  match l',hh with
  | [x',y'],hh=>exact ⟨x',y',rfl,hh.2 0 _ _ rfl rfl,hh.2 1 _ _ rfl rfl⟩
  | [],hh=>exact absurd hh.1 (by simp)
  | [_],hh=>exact absurd hh.1 (by simp)
  | _ :: _ :: _ :: _,hh=>exact absurd hh.1 (by simp)
 have one:∀ {x:Value},cB γ [x] l'→∃ x',l'=[x']∧VR γ x x':=fun {x} hh=>by
  match l',hh with
  | [x'],hh=>exact ⟨x',rfl,hh.2 0 _ _ rfl rfl⟩
  | [],hh=>exact absurd hh.1 (by simp)
  | _ :: _ :: _,hh=>exact absurd hh.1 (by simp)
 split at ho
 ·split at ho
  ·obtain ⟨x',rfl,hx⟩:=one hl
   exact Co hT h ho hx
  ·cases ho
 ·exact GH h ho hl
 ·exact GI h ho hl
 ·split at ho
  ·obtain ⟨x',rfl,hx⟩:=one hl
   exact Cs hT h ho hx
  ·cases ho
 ·split at ho
  ·obtain ⟨d',x',rfl,hd,hx⟩:=two hl
   exact Em hT h ho hd hx
  ·cases ho
 ·split at ho
  ·rename_i s x t u
   obtain ⟨s',x',rfl,hs,hx⟩:=two hl
   split at ho
   ·rename_i hty
    obtain ⟨i,_,_,_,_,hu,_⟩:=hT.ty u _ hty
    exact A5 hT h hu hn ho hs hx
   ·cases ho
  ·cases ho
 ·cases ho
theorem w7 (hT:bO T) (h:HR γ g w) {ρ ρ':Operand→Value} {o:Oper} {v:Value} {e:cG}
  (hn:e.news=true→γ.loc n=none) (ho:lu T n o.op ρ g=some (v,e)) (hρ:∀ x ∈ o.op.operands,VR γ (ρ x) (ρ' x)):aT T.P γ g w n (execOp ρ' o) v e:=by
 obtain ⟨dst,op,ty,pos,after,guard⟩:=o
 simp only at ho hρ
 cases op <;> simp only [lu] at ho
 case move x =>
  simp only [Option.some.injEq,Prod.mk.injEq] at ho
  obtain ⟨rfl,rfl⟩:=ho
  exact .pure h rfl (hρ x (by simp [Op.operands]))
 case assign x =>
  simp only [Option.some.injEq,Prod.mk.injEq] at ho
  obtain ⟨rfl,rfl⟩:=ho
  exact .pure h rfl (hρ x (by simp [Op.operands]))
 case pick c a b=>exact Ej h ho (hρ c (by simp [Op.operands])) (hρ a (by simp [Op.operands])) (hρ b (by simp [Op.operands]))
 case alloc t=>exact Ck hT h hn ho
 case box t x=>exact GD h hn ho (hρ x (by simp [Op.operands]))
 case build t parts =>
  have:=Cn (n:=n) hT h ho (kV.map (ρ:=ρ) (ρ':=ρ') (l:=parts.toList) fun x hx=>hρ x.2 (by simp [Op.operands];exact ⟨x.1,by simpa using hx⟩))
  have e1:(parts.toList.map fun (i,x)=>(i,ρ' x)).toArray=parts.map fun (i,x)=>(i,ρ' x):=by apply Array.ext';simp
  rw [e1] at this
  exact this
 case buildSlice t len parts =>
  have:=ux hT h hn ho (kV.map (ρ:=ρ) (ρ':=ρ') (l:=parts.toList) fun x hx=>hρ x.2 (by simp [Op.operands];exact ⟨x.1,by simpa using hx⟩))
  have e1:(parts.toList.map fun (i,x)=>(i,ρ' x)).toArray=parts.map fun (i,x)=>(i,ρ' x):=by apply Array.ext';simp
  rw [e1] at this
  exact this
 case load t a=>exact Ei hT h ho (hρ a (by simp [Op.operands]))
 case store t a x=>exact Cj hT h ho (hρ a (by simp [Op.operands])) (hρ x (by simp [Op.operands]))
 case fieldAddr t a i=>exact v7 hT h ho (hρ a (by simp [Op.operands]))
 case indexAddr t a ix=>exact v8 hT h ho (hρ a (by simp [Op.operands])) (hρ ix (by simp [Op.operands]))
 case index t a ix =>
  cases hf:(flat (ρ a) && flat (ρ ix)) with
  | false=>rw [hf] at ho;exact Bb hT h ho (hρ a (by simp [Op.operands])) (hρ ix (by simp [Op.operands]))
  | true =>
   rw [hf] at ho
   simp only [Bool.and_eq_true] at hf
   have:=aT.reckon (n:=n) h ho
   rw [←(hρ a (by simp [Op.operands])).cW hf.1,←(hρ ix (by simp [Op.operands])).cW hf.2] at this
   exact this
 case field t a i =>
  cases hf:flat (ρ a) with
  | false=>rw [hf] at ho;cases ho
  | true =>
   rw [hf] at ho
   have:=aT.reckon (n:=n) h ho
   rw [←(hρ a (by simp [Op.operands])).cW hf] at this
   exact this
 case binOp o t x y yt=>exact GG h ho (hρ x (by simp [Op.operands])) (hρ y (by simp [Op.operands]))
 case unOp o t x =>
  cases hf:flat (ρ x) with
  | false=>rw [hf] at ho;cases ho
  | true =>
   rw [hf] at ho
   have:=aT.reckon (n:=n) h ho
   rw [←(hρ x (by simp [Op.operands])).cW hf] at this
   exact this
 case convert s d x =>
  cases hf:flat (ρ x) with
  | false=>rw [hf] at ho;cases ho
  | true =>
   rw [hf] at ho
   have:=aT.reckon (n:=n) h ho
   rw [←(hρ x (by simp [Op.operands])).cW hf] at this
   exact this
 case makeInterface t x =>
  cases hf:flat (ρ x) with
  | false=>rw [hf] at ho;cases ho
  | true =>
   rw [hf] at ho
   have:=aT.reckon (n:=n) h ho
   rw [←(hρ x (by simp [Op.operands])).cW hf] at this
   exact this
 case typeAssert x t d ok =>
  cases hf:flat (ρ x) with
  | false=>rw [hf] at ho;cases ho
  | true =>
   rw [hf] at ho
   have:=aT.reckon (n:=n) h ho
   rw [←(hρ x (by simp [Op.operands])).cW hf] at this
   exact this
 case extract x i=>exact y7 h ho (hρ x (by simp [Op.operands]))
 case makeFunc fn first captured =>
  have:=wW (T:=T) (n:=n) h ho (cB.map (ρ:=ρ) (ρ':=ρ') (l:=first.toList) fun x hx=>hρ x (by simp [Op.operands];exact .inl (by simpa using hx)))
   (cB.map (ρ:=ρ) (ρ':=ρ') (l:=captured.toList) fun x hx=>hρ x (by simp [Op.operands];exact .inr (by simpa using hx)))
  have e1:(first.toList.map ρ').toArray=first.map ρ':=by apply Array.ext';simp
  have e2:(captured.toList.map ρ').toArray=captured.map ρ':=by apply Array.ext';simp
  rw [e1,e2] at this
  exact this
 case nilCheck x =>
  obtain ⟨a,hx,rfl,rfl⟩:=wX ho
  have hv:=hρ x (by simp [Op.operands])
  rw [hx] at hv
  have hp:∃ a',ρ' x=.pointer (some a'):=by
   generalize ρ' x=y at hv
   cases hv with
   | flat hf=>exact ⟨a,rfl⟩
   | ptr=>exact ⟨_,rfl⟩
  obtain ⟨a',ha'⟩:=hp
  refine .pure h (v':=.pointer (some a')) ?_ (by rw [←ha'];exact hv)
  simp [execOp,ha']
 case slice t x lo hi mx =>
  cases mx with
  | some m =>
   cases hi with
   | none=>cases ho
   | some hi =>
    simp only [Option.map_eq_some_iff,Prod.mk.injEq] at ho
    obtain ⟨u,hu,rfl,rfl⟩:=ho
    have rlo:=pY.map (γ:=γ) (ρ:=ρ) (ρ':=ρ') (x:=lo) fun y hy=>hρ y (by subst hy;simp [Op.operands])
    exact A6 hT h hu (hρ x (by simp [Op.operands])) rlo (hρ hi (by simp [Op.operands])) (hρ m (by simp [Op.operands]))
  | none =>
   simp only at ho
   have hvx:=hρ x (by simp [Op.operands])
   have rlo:=pY.map (γ:=γ) (ρ:=ρ) (ρ':=ρ') (x:=lo) fun y hy=>hρ y (by subst hy;simp [Op.operands])
   have rhi:=pY.map (γ:=γ) (ρ:=ρ) (ρ':=ρ') (x:=hi) fun y hy=>hρ y (by subst hy;simp [Op.operands])
   show aT T.P γ g w n (do Pure.pure (Next.value (←Instr.sliceAt t (ρ' x) (lo.map ρ') (hi.map ρ') none))) v e
   unfold gP at ho
   split at ho
   ·rename_i s hs
    cases hf:((lo.map ρ).toList.all flat && (hi.map ρ).toList.all flat) with
    | false=>rw [hf] at ho;cases ho
    | true =>
     rw [hf] at ho
     simp only [Bool.and_eq_true] at hf
     rw [rlo.cW hf.1,rhi.cW hf.2,hvx.cW (by rw [hs];rfl)]
     exact aT.reckon h ho
   ·simp only [Option.map_eq_some_iff,Prod.mk.injEq] at ho
    obtain ⟨u,hu,rfl,rfl⟩:=ho
    exact wZ hT h hu hvx rlo rhi
   ·simp only [Option.map_eq_some_iff,Prod.mk.injEq] at ho
    obtain ⟨u,hu,rfl,rfl⟩:=ho
    exact Cp hT h hu hvx rlo rhi
 case makeSlice t l c=>exact we hT h hn ho (hρ l (by simp [Op.operands])) (hρ c (by simp [Op.operands]))
 case makeMap t r =>
  cases r with
  | some _=>cases ho
  | none =>
   simp only [Option.some.injEq,Prod.mk.injEq] at ho
   obtain ⟨rfl,rfl⟩:=ho
   exact Ba h (hn rfl)
 case lookup t m k ok =>
  simp only [Option.map_eq_some_iff,Prod.mk.injEq] at ho
  obtain ⟨u,hu,rfl,rfl⟩:=ho
  exact A9 hT h hu (hρ m (by simp [Op.operands])) (hρ k (by simp [Op.operands]))
 case mapEntry t m k=>exact w6 hT h ho (hρ m (by simp [Op.operands])) (hρ k (by simp [Op.operands]))
 case entryStore t m s x =>
  simp only [Option.map_eq_some_iff,Prod.mk.injEq] at ho
  obtain ⟨u,hu,rfl,rfl⟩:=ho
  exact uz h hu (hρ m (by simp [Op.operands])) (hρ s (by simp [Op.operands])) (hρ x (by simp [Op.operands]))
 case mapUpdate t m k x =>
  simp only [Option.map_eq_some_iff,Prod.mk.injEq] at ho
  obtain ⟨u,hu,rfl,rfl⟩:=ho
  exact wh hT h hu (hρ m (by simp [Op.operands])) (hρ k (by simp [Op.operands])) (hρ x (by simp [Op.operands]))
 case range t x=>exact zb hT h hn ho (hρ x (by simp [Op.operands]))
 case next it s =>
  cases s with
  | false=>cases ho
  | true=>exact zc h ho (hρ it (by simp [Op.operands]))
 case entry it=>exact Cr h ho (hρ it (by simp [Op.operands]))
 case call c =>
  obtain ⟨callee,args,tys⟩:=c
  unfold Cg at ho
  cases callee with
  | value f=>cases ho
  | invoke r m=>cases ho
  | builtin b =>
   simp only at ho
   have:=ze (ty:=ty) (cs:=args.map fun|.const _=>true|_=>false) hT h hn ho (cB.map (ρ:=ρ) (ρ':=ρ') (l:=args.toList) fun x hx=>hρ x (by simp [Op.operands,Call.operands];simpa using hx))
   have e1:(args.toList.map ρ').toArray=args.map ρ':=by apply Array.ext';simp
   rw [e1] at this
   have e2:execOp ρ' ⟨dst,.call ⟨.builtin b,args,tys⟩,ty,pos,after,guard⟩=builtin b tys ty (args.map fun|.const _=>true|_=>false) (args.map ρ'):=rfl
   rw [e2]
   simpa using this
 all_goals cases ho
end
end Go.RM
namespace Go.RM
def pZ:Option bG→Bool
 | some (.loop ..)=>true
 | _=>false
def zT (g:aE):cG→Prop
 | .put k _|.app k _=>g k ≠ none∧pZ (g k)=false
 | _=>True
def vn (l:List Nat):cG→Prop
 | .put k _|.app k _=>k ∈ l
 | _=>True
section
variable {T : bM} {n : Nat} {g g' : aE}
theorem qa {k:Nat} {x:List Value × Bool × Nat} (h:cells? (g k)=some x):g k ≠ none∧pZ (g k)=false:=by
 generalize g k=b at h
 cases b with
 | none=>cases h
 | some b=>cases b <;> first|exact ⟨by simp,rfl⟩|cases h
theorem uA {k:Nat} {x:List MapEntry × Nat} (h:map? (g k)=some x):g k ≠ none∧pZ (g k)=false:=by
 generalize g k=b at h
 cases b with
 | none=>cases h
 | some b=>cases b <;> first|exact ⟨by simp,rfl⟩|cases h
theorem uB {v:Value} {k o:Nat} (h:addr? v=some (k,o)):k ∈ cV v:=by rw [zQ h];simp [cV]
theorem jw {v:Value} {k:Nat} (h:i6 v=some k):k ∈ cV v:=by rw [w5 h];simp [cV]
def rF (g:aE) (l:List Nat) (e:cG):Prop:=zT g e∧vn l e
theorem gA {o:Option Value} {v:Value} {e:cG} {l:List Nat} (h:cZ o=some (v,e)):rF g l e:=by
 obtain ⟨_,_,rfl⟩:=sj h
 exact ⟨trivial,trivial⟩
theorem En {t:TypeId} {a x v:Value} {e:cG} (h:mb T t a x g=some (v,e)):rF g (cV a) e:=by
 unfold mb at h
 split at h
 ·rename_i k o ha
  cases hc:cells? (g k) with
  | none=>rw [hc] at h;cases h
  | some c =>
   obtain ⟨cs,own,es⟩:=c
   cases ht:T.ty.get t with
   | none=>rw [hc,ht] at h;cases h
   | some r =>
    obtain ⟨jI,s,bytes,zero,agg,cy,dh⟩:=r
    rw [hc,ht] at h
    simp only at h
    cases hb:(own && Nat.beq x.cells.toList.length s && Nat.ble (o+s) cs.length && x.cells.toList.all bC) <;> rw [hb] at h
    ·cases h
    ·simp at h;obtain ⟨_,rfl⟩:=h;exact ⟨qa hc,uB ha⟩
 ·cases h
theorem zf {t:TypeId} {m k v:Value} {e:cG} (h:fB T t m k g=some (v,e)):rF g (cV m) e:=by
 unfold fB at h
 split at h
 ·rename_i kt z r _ hr
  split at h
  ·rename_i es clock hm
   unfold nD at h
   split at h
   ·split at h
    ·rename_i x _
     cases hb:Instr.sameBits 10000 x.key k <;> rw [hb] at h
     ·cases h
     ·simp at h;obtain ⟨_,rfl⟩:=h;exact ⟨uA hm,jw hr⟩
    ·cases h
   ·rename_i z _ _
    cases hb:flat z <;> rw [hb] at h
    ·cases h
    ·simp at h;obtain ⟨_,rfl⟩:=h;exact ⟨uA hm,jw hr⟩
   ·cases h
  ·cases h
 ·cases h
theorem wj {m s v:Value} {e:cG} (h:dQ m s v g=some e):rF g (cV m) e:=by
 unfold dQ at h
 split at h
 ·rename_i r _ hr _
  split at h
  ·rename_i es clock hm
   split at h
   ·simp at h;subst h;exact ⟨uA hm,jw hr⟩
   ·cases h
  ·cases h
 ·cases h
theorem w8 {t:TypeId} {m k v:Value} {e:cG} (h:fm T t m k v g=some e):rF g (cV m) e:=by
 unfold fm at h
 split at h
 ·rename_i kt _ r _ hr
  split at h
  ·rename_i es clock hm
   unfold oa at h
   split at h
   ·split at h
    ·rename_i x _
     cases hb:Instr.sameBits 10000 x.key k <;> rw [hb] at h
     ·cases h
     ·simp at h;subst h;exact ⟨uA hm,jw hr⟩
    ·cases h
   ·simp at h;subst h;exact ⟨uA hm,jw hr⟩
   ·cases h
  ·cases h
 ·cases h
theorem Ct {t:TypeId} {s x v:Value} {e:cG} (h:ig T n t s x g=some (v,e)):rF g (cV s) e:=by
 unfold ig at h
 split at h
 ·rename_i inf _
  split at h
  ·rename_i base ln cp
   split at h
   ·rename_i m old new _ _ _
    cases hb:(Nat.ble ((ln+m) * inf.bytes) 140737488355328 && Nat.ble (ln+m) 9223372036854775807 && new.all bC && cx inf) <;> rw [hb] at h
    ·cases h
    ·simp only [cond_true] at h
     cases hm:Nat.beq m 0 <;> rw [hm] at h
     ·simp only [cond_false] at h
      unfold iM at h
      cases hc:Nat.beq cp ln <;> rw [hc] at h
      ·simp only [cond_false] at h
       cases hin:Nat.ble (ln+m+3) cp <;> rw [hin] at h
       rotate_left
       ·simp only [cond_true] at h
        unfold l8 at h
        split at h
        ·split at h
         ·rename_i k o _ _ cs own es hcs
          cases hd:(own && Nat.ble (o+(ln+m) * inf.size) cs.length) <;> rw [hd] at h
          ·cases h
          ·simp at h;obtain ⟨_,rfl⟩:=h;exact ⟨qa hcs,by simp [cV,vn]⟩
         ·cases h
        ·cases h
       simp only [cond_false] at h
       split at h
       ·rename_i k
        split at h
        ·rename_i cs own es hcs
         cases hd:(own && Nat.beq cp (ln+1) && Nat.beq cs.length (ln * inf.size) && Nat.beq es inf.size) <;> rw [hd] at h
         ·cases h
         ·simp at h;obtain ⟨_,rfl⟩:=h;exact ⟨qa hcs,by simp [cV,vn]⟩
        ·cases h
       ·cases h
      ·simp at h;obtain ⟨_,rfl⟩:=h;exact ⟨trivial,trivial⟩
     ·simp at h;obtain ⟨_,rfl⟩:=h;exact ⟨trivial,trivial⟩
   ·cases h
  ·cases h
 ·cases h
theorem w9 {it v:Value} {e:cG} (h:mc it g=some (v,e)):zT g e:=by
 unfold mc at h
 split at h
 ·rename_i r _
  split at h
  ·rename_i s pos hr
   cases hb:Nat.blt pos s.data.toList.length <;> rw [hb] at h
   ·simp at h;obtain ⟨_,rfl⟩:=h;trivial
   ·simp at h;obtain ⟨_,rfl⟩:=h;exact ⟨by rw [hr];simp,by rw [hr];rfl⟩
  ·cases h
 ·cases h
theorem H6 {P:Program} {l:List Value} {v:Value} {e:cG} {ks:List Nat} (h:AW P l=some (v,e)):rF g ks e:=by
 unfold AW at h
 split at h
 ·simp at h;obtain ⟨_,rfl⟩:=h;exact ⟨trivial,trivial⟩
 ·cases hb:l.all flat <;> rw [hb] at h
  ·cases h
  ·exact gA h
theorem H7 {P:Program} {l:List Value} {v:Value} {e:cG} {ks:List Nat} (h:AX P l=some (v,e)):rF g ks e:=by
 unfold AX at h
 split at h
 ·simp at h;obtain ⟨_,rfl⟩:=h;exact ⟨trivial,trivial⟩
 ·cases hb:l.all flat <;> rw [hb] at h
  ·cases h
  ·exact gA h
theorem Eo {t:TypeId} {x v:Value} {e:cG} {ks:List Nat} (h:me T t x g=some (v,e)):rF g ks e:=by
 unfold me at h
 split at h
 ·simp at h;obtain ⟨_,rfl⟩:=h;exact ⟨trivial,trivial⟩
 ·split at h
  ·simp at h;obtain ⟨_,rfl⟩:=h;exact ⟨trivial,trivial⟩
  ·cases h
 ·simp at h;obtain ⟨_,rfl⟩:=h;exact ⟨trivial,trivial⟩
 ·simp at h;obtain ⟨_,rfl⟩:=h;exact ⟨trivial,trivial⟩
 ·cases h
def Cu (o:Op) (ρ:Operand→Value):List Nat :=
 match o with
 | .store _ a _=>cV (ρ a)
 | .mapEntry _ m _=>cV (ρ m)
 | .entryStore _ m _ _=>cV (ρ m)
 | .mapUpdate _ m _ _=>cV (ρ m)
 | .call ⟨.builtin .append,args,_⟩=>match args.toList.map ρ with
  | [s,_]=>cV s
  | _=>[]
 | .call ⟨.builtin .clear,args,_⟩=>match args.toList.map ρ with
  | [x]=>cV x
  | _=>[]
 | .call ⟨.builtin .copy,args,_⟩=>match args.toList.map ρ with
  | [x,_]=>cV x
  | _=>[]
 | _=>[]
theorem Ep {t:TypeId} {x v:Value} {e:cG} (h:pV T t x g=some (v,e)):rF g (cV x) e:=by
 unfold pV at h
 split at h
 ·split at h
  ·rename_i hm
   simp at h;obtain ⟨_,rfl⟩:=h;exact ⟨uA hm,by simp [cV,vn]⟩
  ·cases h
 ·split at h
  ·rename_i _ k o nn _ _ _ _ inf cs own es _ hcs
   cases hb:(Nat.ble 1 nn && own && cx inf && Nat.ble (o+nn * inf.size) cs.length) <;> rw [hb] at h
   ·cases h
   ·simp at h;obtain ⟨_,rfl⟩:=h;exact ⟨qa hcs,by simp [cV,vn]⟩
  ·cases h
 ·cases h
theorem GJ {t:TypeId} {d x v:Value} {e:cG} (h:vk T t d x g=some (v,e)):rF g (cV d) e:=by
 unfold vk at h
 split at h
 ·rename_i k o nn _
  split at h
  ·rename_i inf cs own es m he hc hm
   split at h
   ·rename_i new hro
    cases hb:(own && (Nat.ble 1 nn && Nat.ble m nn) && new.all bC && Nat.ble (o+nn * inf.size) cs.length) <;> rw [hb] at h
    ·cases h
    ·simp at h;obtain ⟨_,rfl⟩:=h;exact ⟨qa hc,by simp [cV,vn]⟩
   ·cases h
  ·cases h
 ·cases h
theorem cI {ks:List Nat}:rF g ks .none:=⟨trivial,trivial⟩
theorem oz {ks:List Nat} {b:bG}:rF g ks (.new b):=⟨trivial,trivial⟩
theorem qS {o:Op} {ρ:Operand→Value} {v:Value} {e:cG} (h:lu T n o ρ g=some (v,e)):zT g e∧((∀ it,o ≠ .next it true)→vn (Cu o ρ) e):=by
 have key:∀ {ks:List Nat},rF g ks e→Cu o ρ=ks→zT g e∧((∀ it,o ≠ .next it true)→vn (Cu o ρ) e):=fun hk he=>⟨hk.1,fun _=>by rw [he];exact hk.2⟩
 cases o <;> simp only [lu] at h
 case move x=>simp at h;obtain ⟨_,rfl⟩:=h;exact key cI rfl
 case assign x=>simp at h;obtain ⟨_,rfl⟩:=h;exact key cI rfl
 case pick c a b =>
  unfold vl at h
  split at h
  ·simp at h;obtain ⟨_,rfl⟩:=h;exact key cI rfl
  ·cases h
 case alloc t =>
  unfold ug at h
  split at h
  ·rename_i z _ _ _ _
   cases hb:z.cells.toList.all bk <;> rw [hb] at h
   ·cases h
   ·simp at h;obtain ⟨_,rfl⟩:=h;exact key oz rfl
  ·cases h
 case box t x =>
  unfold Gx at h
  cases hb:(ρ x).cells.toList.all bC <;> rw [hb] at h
  ·cases h
  ·simp at h;obtain ⟨_,rfl⟩:=h;exact key oz rfl
 case build t parts =>
  unfold si at h
  split at h
  ·rename_i z _ _ _
   cases hb:z.cells.toList.all bk <;> rw [hb] at h
   ·cases h
   ·simp only [cond_true,Option.map_eq_some_iff,Prod.mk.injEq] at h
    obtain ⟨_,_,_,rfl⟩:=h
    exact key cI rfl
  ·cases h
 case buildSlice t len parts =>
  unfold i7 at h
  split at h
  ·rename_i inf _
   cases hb:(Nat.ble (len * inf.size) 65536 && cx inf) <;> rw [hb] at h
   ·cases h
   ·simp only [cond_true] at h
    split at h
    ·simp at h;obtain ⟨_,rfl⟩:=h;exact key oz rfl
    ·cases h
  ·cases h
 case load t a =>
  unfold jt at h
  split at h
  ·split at h
   ·rename_i s _ _ agg _ _ _ _
    cases agg
    ·simp only [cond_false,Option.map_eq_some_iff,Prod.mk.injEq] at h
     obtain ⟨_,_,_,rfl⟩:=h
     exact key cI rfl
    ·simp only [cond_true,Option.map_eq_some_iff,Prod.mk.injEq] at h
     obtain ⟨_,_,_,rfl⟩:=h
     exact key cI rfl
   ·cases h
  ·cases h
 case store t a x=>exact key (En h) rfl
 case fieldAddr t a i =>
  unfold eM at h
  split at h
  ·split at h
   ·rename_i s _
    cases hb:Nat.ble 1 s <;> rw [hb] at h
    ·cases h
    ·simp at h;obtain ⟨_,rfl⟩:=h;exact key cI rfl
   ·cases h
  ·cases h
 case indexAddr t a ix =>
  have hi:∀ {dh k o len:Nat} {j:Int},rE dh k o len j=some (v,e)→rF g [] e:=by
   intro dh k o len j h
   unfold rE at h
   cases hb:(HP 0 j && Gy j (.ofNat len)) <;> rw [hb] at h
   ·cases h
   ·simp at h;obtain ⟨_,rfl⟩:=h;exact cI
  unfold eN at h
  split at h
  ·split at h
   ·exact key (hi h) rfl
   ·cases h
  ·split at h
   ·exact key (hi h) rfl
   ·cases h
  ·cases h
 case index t a ix =>
  cases hb:(flat (ρ a) && flat (ρ ix)) <;> rw [hb] at h
  ·unfold ob at h
   simp only [cond_false] at h
   split at h
   ·split at h
    ·rw [cond_eq_ite] at h
     split at h
     ·split at h
      ·cases h;exact key cI rfl
      ·cases h
     ·cases h
    ·cases h
   ·cases h
  ·exact key (gA h) rfl
 case field t a i =>
  cases hb:flat (ρ a) <;> rw [hb] at h
  ·cases h
  ·exact key (gA h) rfl
 case binOp o t x y yt =>
  have hs:∀ {a b:Value},iN T.P o t x y a b=some (v,e)→rF g [] e:=by
   intro a b h
   unfold iN at h
   cases hb:(flat a && flat b) <;> rw [hb] at h
   ·cases h
   ·exact gA h
  unfold mJ at h
  split at h
  ·split at h
   ·simp at h;obtain ⟨_,rfl⟩:=h;exact key cI rfl
   ·exact key (hs h) rfl
  ·rw [cond_eq_ite] at h
   split at h
   ·unfold lg at h
    split at h
    ·simp at h;obtain ⟨_,rfl⟩:=h;exact key cI rfl
    ·simp at h;obtain ⟨_,rfl⟩:=h;exact key cI rfl
    ·cases h
   ·cases h
  ·rw [cond_eq_ite] at h
   split at h
   ·unfold lg at h
    split at h
    ·simp at h;obtain ⟨_,rfl⟩:=h;exact key cI rfl
    ·simp at h;obtain ⟨_,rfl⟩:=h;exact key cI rfl
    ·cases h
   ·cases h
  ·exact key (hs h) rfl
 case unOp o t x =>
  cases hb:flat (ρ x) <;> rw [hb] at h
  ·cases h
  ·exact key (gA h) rfl
 case convert s d x =>
  cases hb:flat (ρ x) <;> rw [hb] at h
  ·cases h
  ·exact key (gA h) rfl
 case makeInterface t x =>
  cases hb:flat (ρ x) <;> rw [hb] at h
  ·cases h
  ·exact key (gA h) rfl
 case typeAssert x t d ok =>
  cases hb:flat (ρ x) <;> rw [hb] at h
  ·cases h
  ·exact key (gA h) rfl
 case extract x i =>
  unfold gO at h
  split at h
  ·simp only [Option.map_eq_some_iff,Prod.mk.injEq] at h
   obtain ⟨_,_,_,rfl⟩:=h
   exact key cI rfl
  ·cases h
 case makeFunc fn first captured =>
  unfold nF at h
  split at h
  ·simp at h;obtain ⟨_,rfl⟩:=h;exact key cI rfl
  ·cases h
 case nilCheck x =>
  unfold jN at h
  split at h
  ·simp at h;obtain ⟨_,rfl⟩:=h;exact key cI rfl
  ·cases h
 case slice t x lo hi mx =>
  cases mx with
  | some _ =>
   cases hi with
   | none=>cases h
   | some hi =>
    simp only [Option.map_eq_some_iff,Prod.mk.injEq] at h
    obtain ⟨_,_,_,rfl⟩:=h
    exact key cI rfl
  | none =>
   simp only at h
   unfold gP at h
   split at h
   ·cases hb:((lo.map ρ).toList.all flat && (hi.map ρ).toList.all flat) <;> rw [hb] at h
    ·cases h
    ·exact key (gA h) rfl
   ·simp only [Option.map_eq_some_iff,Prod.mk.injEq] at h
    obtain ⟨_,_,_,rfl⟩:=h
    exact key cI rfl
   ·simp only [Option.map_eq_some_iff,Prod.mk.injEq] at h
    obtain ⟨_,_,_,rfl⟩:=h
    exact key cI rfl
 case makeSlice t l c =>
  unfold jM at h
  split at h
  ·rename_i inf _
   split at h
   ·rename_i l c _ _
    cases hb:(Nat.ble l c && Nat.ble (inf.bytes * c) 140737488355328 && Nat.ble c 9223372036854775807 && cx inf) <;> rw [hb] at h
    ·cases h
    ·simp at h;obtain ⟨_,rfl⟩:=h;exact key oz rfl
   ·cases h
  ·cases h
 case makeMap t r =>
  cases r with
  | some _=>cases h
  | none=>simp at h;obtain ⟨_,rfl⟩:=h;exact key oz rfl
 case lookup t m k ok =>
  simp only [Option.map_eq_some_iff,Prod.mk.injEq] at h
  obtain ⟨_,_,_,rfl⟩:=h
  exact key cI rfl
 case mapEntry t m k=>exact key (zf h) rfl
 case entryStore t m s x =>
  simp only [Option.map_eq_some_iff,Prod.mk.injEq] at h
  obtain ⟨_,hu,_,rfl⟩:=h
  exact key (wj hu) rfl
 case mapUpdate t m k x =>
  simp only [Option.map_eq_some_iff,Prod.mk.injEq] at h
  obtain ⟨_,hu,_,rfl⟩:=h
  exact key (w8 hu) rfl
 case range t x =>
  unfold uo at h
  split at h
  ·split at h
   ·simp at h;obtain ⟨_,rfl⟩:=h;exact key oz rfl
   ·cases h
  ·simp at h;obtain ⟨_,rfl⟩:=h;exact key oz rfl
  ·cases h
 case next it s =>
  cases s with
  | false=>cases h
  | true=>exact ⟨w9 h,fun hn=>absurd rfl (hn it)⟩
 case entry it =>
  unfold uq at h
  split at h
  ·split at h
   ·split at h
    ·rw [cond_eq_ite] at h
     split at h <;> rename_i hb
     ·simp only [Option.map_eq_some_iff,Prod.mk.injEq] at h
      obtain ⟨_,_,_,rfl⟩:=h
      exact key cI rfl
     ·cases h
    ·cases h
   ·cases h
  ·cases h
 case call c =>
  obtain ⟨callee,args,tys⟩:=c
  unfold Cg at h
  cases callee with
  | value f=>cases h
  | invoke r m=>cases h
  | builtin b =>
   simp only at h
   unfold ju at h
   split at h
   ·split at h
    ·exact key (Eo (ks:=[]) h) rfl
    ·cases h
   ·exact key (H6 (ks:=[]) h) rfl
   ·exact key (H7 (ks:=[]) h) rfl
   ·split at h
    ·rename_i x t ha _
     refine key (Ep h) ?_
     simp only [Cu]
     rw [ha]
    ·cases h
   ·split at h
    ·rename_i d x t u ha _
     refine key (GJ h) ?_
     simp only [Cu]
     rw [ha]
    ·cases h
   ·split at h
    ·rename_i s x t u ha _
     split at h
     ·refine key (Ct h) ?_
      unfold Cu
      simp only [ha]
     ·cases h
    ·cases h
   ·cases h
 all_goals cases h
theorem Cv {it:Value} {L:List (Value × cG)} (h:sL it g=some L):∀ p ∈ L,zT g p.2:=by
 unfold sL at h
 split at h
 ·rename_i r
  split at h
  ·rename_i m since seen last hr
   split at h
   ·rename_i es clock hm
    unfold wO at h
    intro p hp
    cases hb:(!seen.isEmpty && !es.isEmpty && es.all (fun e=>Nat.ble last e.born)) with
    | true=>rw [hb] at h;cases h
    | false =>
     rw [hb] at h
     simp only [cond_false,Option.some.injEq] at h
     subst h
     rcases List.mem_append.1 hp with hp|hp
     ·revert hp
      generalize (List.filter (fun e=>decide (e.born < since)) (List.filter (fun e=>!seen.contains e.born) es))=old
      cases old with
      | nil=>simp only [List.isEmpty_nil,cond_true,List.mem_singleton];intro e;subst e;trivial
      | cons=>simp
     ·obtain ⟨x,_,rfl⟩:=List.mem_map.1 hp
      exact ⟨by rw [hr];simp,by rw [hr];rfl⟩
   ·cases h
  ·cases h
 ·cases h
theorem qb {size:Nat} {v:Value} (h:∀ k ∈ cV v,g' k=g k):bR g' size v=bR g size v:=by
 unfold bR
 split
 ·rfl
 ·rw [h _ (by simp [cV])]
 ·rfl
theorem zg {t:TypeId} {s x:Value} (hs:∀ k ∈ cV s,g' k=g k) (hx:∀ k ∈ cV x,g' k=g k):ig T n t s x g'=ig T n t s x g:=by
 unfold ig
 have e1:∀ size,bR g' size x=bR g size x:=fun _=>qb hx
 have e2:∀ size,bR g' size s=bR g size s:=fun _=>qb hs
 simp only [e1,e2]
 split
 ·split
  ·rename_i base ln cp
   have hb:∀ inf m old new,iM n inf base ln cp m old new g'=iM n inf base ln cp m old new g:=by
    intro inf m old new
    have hi:l8 inf base ln cp m new g'=l8 inf base ln cp m new g:=by
     unfold l8
     split
     ·rename_i k o
      rw [hs k (by simp [cV])]
     ·rfl
    unfold iM
    rw [hi]
    split
    ·rename_i k
     rw [hs k (by simp [cV])]
    ·rfl
   simp only [hb]
  ·rfl
 ·rfl
theorem Cw {t:TypeId} {a:Value} (h:∀ k ∈ cV a,g' k=g k):jt T t a g'=jt T t a g:=by
 unfold jt
 cases ha:addr? a with
 | none=>rfl
 | some p=>simp only;rw [h p.1 (uB (o:=p.2) ha)]
theorem Bc {t:TypeId} {a v:Value} (h:∀ k ∈ cV a,g' k=g k):mb T t a v g'=mb T t a v g:=by
 unfold mb
 cases ha:addr? a with
 | none=>rfl
 | some p=>simp only;rw [h p.1 (uB (o:=p.2) ha)]
theorem zh {t:TypeId} {m k:Value} {ok:Bool} (h:∀ k ∈ cV m,g' k=g k):mN T t m k ok g'=mN T t m k ok g:=by
 unfold mN
 cases hm:i6 m with
 | none=>rfl
 | some r=>simp only [Option.bind_some];rw [h r (jw hm)]
theorem wk {t:TypeId} {m k:Value} (h:∀ k ∈ cV m,g' k=g k):fB T t m k g'=fB T t m k g:=by
 unfold fB
 cases hm:i6 m with
 | none=>cases l9 T t <;> rfl
 | some r=>cases l9 T t with
  | none=>rfl
  | some p=>simp only [h r (jw hm)]
theorem sY {m s v:Value} (h:∀ k ∈ cV m,g' k=g k):dQ m s v g'=dQ m s v g:=by
 unfold dQ
 cases hm:i6 m with
 | none=>rfl
 | some r=>cases intOf? s with
  | none=>rfl
  | some p=>simp only [h r (jw hm)]
theorem uC {t:TypeId} {m k v:Value} (h:∀ k ∈ cV m,g' k=g k):fm T t m k v g'=fm T t m k v g:=by
 unfold fm
 cases hm:i6 m with
 | none=>cases l9 T t <;> rfl
 | some r=>cases l9 T t with
  | none=>rfl
  | some p=>simp only [h r (jw hm)]
theorem Bd {t:TypeId} {x:Value} (h:∀ k ∈ cV x,g' k=g k):me T t x g'=me T t x g:=by
 unfold me
 split
 ·rfl
 ·rw [h _ (by simp [cV])]
 ·rfl
 ·rfl
 ·rfl
theorem zU {o:Op} {ρ:Operand→Value} {r wr:List Nat} (ht:rJ o ρ=some (r,wr)) (hr:∀ k ∈ r,g' k=g k) (hw:∀ k ∈ wr,g' k=g k):lu T n o ρ g'=lu T n o ρ g:=by
 cases o <;> simp only [lu] <;> simp only [rJ,Option.some.injEq,Prod.mk.injEq,reduceCtorEq] at ht
 case load t a=>obtain ⟨rfl,rfl⟩:=ht;exact Cw hr
 case store t a x=>obtain ⟨rfl,rfl⟩:=ht;exact Bc hw
 case lookup t m k ok=>obtain ⟨rfl,rfl⟩:=ht;rw [zh hr]
 case mapEntry t m k=>obtain ⟨rfl,rfl⟩:=ht;exact wk hw
 case entryStore t m s x=>obtain ⟨rfl,rfl⟩:=ht;rw [sY hw]
 case mapUpdate t m k x=>obtain ⟨rfl,rfl⟩:=ht;rw [uC hw]
 case makeMap t r=>cases r <;> rfl
 case slice t x lo hi mx=>cases mx <;> cases hi <;> rfl
 case call c =>
  obtain ⟨callee,args,tys⟩:=c
  cases callee with
  | value f=>rfl
  | invoke r m=>rfl
  | builtin b =>
   unfold Cg ju
   simp only
   cases b <;> try rfl
   case clear=>cases ht
   case copy=>cases ht
   case len =>
    simp only at ht
    split at ht
    ·rename_i x hx
     simp only [Option.some.injEq,Prod.mk.injEq] at ht
     obtain ⟨rfl,rfl⟩:=ht
     rw [hx]
     cases tys.toList with
     | nil=>rfl
     | cons t l=>cases l with
      | nil=>exact Bd hr
      | cons=>rfl
    ·cases ht
   case append =>
    simp only at ht
    split at ht
    ·rename_i s x hx
     simp only [Option.some.injEq,Prod.mk.injEq] at ht
     obtain ⟨rfl,rfl⟩:=ht
     rw [hx]
     have e1:∀ t,ig T n t s x g'=ig T n t s x g:=fun _=>zg hw hr
     cases tys.toList with
     | nil=>rfl
     | cons t l=>cases l with
      | nil=>rfl
      | cons u l2=>cases l2 with
       | nil=>simp only [e1]
       | cons=>rfl
    ·cases ht
theorem xe {o:Op} {ρ:Operand→Value} {r wr:List Nat} (ht:rJ o ρ=some (r,wr)):(∀ it,o ≠ .next it true)∧Cu o ρ=wr:=by
 refine ⟨fun it e=>(by subst e;cases ht),?_⟩
 cases o <;> simp only [rJ,Option.some.injEq,Prod.mk.injEq,reduceCtorEq] at ht <;> try (exact ht.2)
 case call c =>
  obtain ⟨callee,args,tys⟩:=c
  cases callee with
  | value f=>simp only [Option.some.injEq,Prod.mk.injEq] at ht;exact ht.2
  | invoke r m=>simp only [Option.some.injEq,Prod.mk.injEq] at ht;exact ht.2
  | builtin b =>
   cases b <;> try (simp only [Option.some.injEq,Prod.mk.injEq] at ht;exact ht.2)
   case clear=>cases ht
   case copy=>cases ht
   case len =>
    simp only at ht
    split at ht
    ·simp only [Option.some.injEq,Prod.mk.injEq] at ht;exact ht.2
    ·cases ht
   case append =>
    simp only at ht
    split at ht
    ·rename_i s x hx
     simp only [Option.some.injEq,Prod.mk.injEq] at ht
     simp only [Cu,hx];exact ht.2
    ·cases ht
end
end Go.RM
namespace Go.RM
def Wf (h:Hp):Prop:=∀ k,h.n≤k→h.get k=none
structure dL (a b:Hp):Prop where
 n:a.n≤b.n
 lo:b.lo≤a.lo
 same:∀ k,k < a.n→k < b.lo→b.get k=a.get k
 wf:Wf a→Wf b
 loop:Wf a→∀ k,pZ (a.get k)=true→pZ (b.get k)=true
theorem dL.refl (a:Hp):dL a a:=⟨Nat.le_refl _,Nat.le_refl _,fun _ _ _=>rfl,id,fun _ _ h=>h⟩
theorem dL.trans {a b c:Hp} (h:dL a b) (k:dL b c):dL a c :=
 ⟨Nat.le_trans h.n k.n,Nat.le_trans k.lo h.lo,fun i hi hl=>(k.same i (Nat.lt_of_lt_of_le hi h.n) hl).trans (h.same i hi (Nat.lt_of_lt_of_le hl k.lo)),fun hw=>k.wf (h.wf hw),fun hw i hi=>k.loop (h.wf hw) i (h.loop hw i hi)⟩
theorem dL.push (a:Hp) (b:bG):dL a (a.push b) :=
 ⟨Nat.le_succ _,Nat.le_refl _,fun k hk _=>by rw [Hp.fI,if_neg (by omega)],fun hw k hk=>by
  have hk':a.n+1≤k:=hk
  rw [Hp.fI,if_neg (by omega)];exact hw k (by omega),fun hw k hk=>by
  have hne:k ≠ a.n:=fun e=>by rw [hw k (by omega)] at hk;cases hk
  rw [Hp.fI,if_neg hne];exact hk⟩
theorem dL.put (a:Hp) (i:Nat) (b:bG) (hi:a.get i ≠ none) (hl:pZ (a.get i)=true→pZ (some b)=true):dL a (a.put i b) :=
 ⟨Nat.le_refl _,Nat.min_le_left _ _,fun k _ hl=>by
  have:k < i:=Nat.lt_of_lt_of_le hl (Nat.min_le_right _ _)
  rw [Hp.lH,if_neg (by omega)],fun hw k hk=>by
  have hk':a.n≤k:=hk
  rw [Hp.lH,if_neg (fun e=>hi (by rw [←e];exact hw k hk'))];exact hw k hk',fun _ k hk=>by
  rw [Hp.lH]
  split
  ·rename_i e
   rw [e] at hk
   exact hl hk
  ·exact hk⟩
theorem dL.app (a:Hp) (e:cG) (he:zT a.get e):dL a (a.app e):=by
 cases e with
 | none=>exact .refl a
 | new b=>exact .push a b
 | put k b=>exact .put a k b he.1 (fun h=>by rw [he.2] at h;cases h)
 | app k b=>exact (dL.put a k .dead he.1 (fun h=>by rw [he.2] at h;cases h)).trans (dL.push _ _)
section bind
variable {α β : Type}
theorem lX (f:α→Option (List β)):aZ [] f=some []:=rfl
theorem dN (a:α) (f:α→Option (List β)):aZ [a] f=f a:=rfl
theorem fo (a b:α) (l:List α) (f:α→Option (List β)):aZ (a :: b :: l) f=match f a with
 | some x=>(aZ (b :: l) f).map (x++·)
 | none=>none:=rfl
theorem bA {f:α→Option (List β)}:∀ {L:List α} {M:List β},aZ L f=some M→∀ a ∈ L,∃ Ma,f a=some Ma∧∀ b ∈ Ma,b ∈ M
 | [],_,_,a,ha=>by cases ha
 | [x],M,h,a,ha=>by
  rw [dN] at h
  obtain rfl:=List.mem_singleton.1 ha
  exact ⟨M,h,fun _ hb=>hb⟩
 | x :: y :: l,M,h,a,ha=>by
  rw [fo] at h
  cases hx:f x with
  | none=>rw [hx] at h;cases h
  | some X =>
   rw [hx] at h
   simp only [Option.map_eq_some_iff] at h
   obtain ⟨Y,hY,rfl⟩:=h
   rcases List.mem_cons.1 ha with rfl|ha
   ·exact ⟨X,hx,fun b hb=>List.mem_append.2 (.inl hb)⟩
   ·obtain ⟨Ma,h1,h2⟩:=bA hY a ha
    exact ⟨Ma,h1,fun b hb=>List.mem_append.2 (.inr (h2 b hb))⟩
theorem iU {f:α→Option (List β)}:∀ {L:List α} {M:List β},aZ L f=some M→∀ b ∈ M,∃ a ∈ L,∃ Ma,f a=some Ma∧b ∈ Ma
 | [],M,h,b,hb=>by rw [lX] at h;cases h;cases hb
 | [x],M,h,b,hb=>by
  rw [dN] at h
  exact ⟨x,by simp,M,h,hb⟩
 | x :: y :: l,M,h,b,hb=>by
  rw [fo] at h
  cases hx:f x with
  | none=>rw [hx] at h;cases h
  | some X =>
   rw [hx] at h
   simp only [Option.map_eq_some_iff] at h
   obtain ⟨Y,hY,rfl⟩:=h
   rcases List.mem_append.1 hb with hb|hb
   ·exact ⟨x,by simp,X,hx,hb⟩
   ·obtain ⟨a,ha,Ma,h1,h2⟩:=iU hY b hb
    exact ⟨a,List.mem_cons_of_mem _ ha,Ma,h1,h2⟩
theorem Cx {f:α→Option (List β)} {L:List α} {M:List β} (h:aZ L f=some M) (hL:L ≠ []) (hf:∀ a ∈ L,∀ Ma,f a=some Ma→Ma ≠ []):M ≠ []:=by
 cases L with
 | nil=>exact absurd rfl hL
 | cons a l =>
  obtain ⟨Ma,h1,h2⟩:=bA h a (by simp)
  have:=hf a (by simp) Ma h1
  cases Ma with
  | nil=>exact absurd rfl this
  | cons x _=>intro e;subst e;exact absurd (h2 x (by simp)) (by simp)
end bind
def pR.hp:pR→Hp
 | .call _ _ h=>h
 | .round _ _ h=>h
 | .loop _ st=>st.hp
def fQ.hp:fQ→Hp
 | .ret _ h=>h
 | .out _ st=>st.hp
def Good (a:Hp) {β:Type} (f:β→Hp) (M:List β):Prop:=M ≠ []∧∀ b ∈ M,dL a (f b)
def aO (rec:pR→Option (List fQ)):Prop:=∀ j L,rec j=some L→Good j.hp fQ.hp L
theorem Good.one {a:Hp} {β:Type} {f:β→Hp} {b:β} (h:dL a (f b)):Good a f [b]:=⟨by simp,fun x hx=>by obtain rfl:=List.mem_singleton.1 hx;exact h⟩
theorem Good.bind {a:Hp} {α β:Type} {f:α→Hp} {f':β→Hp} {L:List α} {M:List β} {k:α→Option (List β)} (h:aZ L k=some M) (hL:Good a f L) (hk:∀ x,∀ Mx,k x=some Mx→Good (f x) f' Mx):Good a f' M :=
 ⟨Cx h hL.1 fun x _ Mx hx=>(hk x Mx hx).1,fun b hb=>by
  obtain ⟨x,hx,Mx,h1,h2⟩:=iU h b hb
  exact (hL.2 x hx).trans ((hk x Mx h1).2 b h2)⟩
theorem Good.map {a:Hp} {α β:Type} {f:α→Hp} {f':β→Hp} {L:List α} {k:α→β} (hL:Good a f L) (hk:∀ x,f' (k x)=f x):Good a f' (L.map k) :=
 ⟨by intro e;exact hL.1 (List.map_eq_nil_iff.1 e),fun b hb=>by
  obtain ⟨x,hx,rfl⟩:=List.mem_map.1 hb
  rw [hk];exact hL.2 x hx⟩
section
variable {T : bM} {rec : pR → Option (List fQ)}
theorem sZ (H:Hp) (g:Goal):(lz H g).hp=H:=by cases g <;> rfl
theorem H8 {it:Value} {g:aE} {L:List (Value × cG)} (h:sL it g=some L):L ≠ []:=by
 have key:∀ {r m since last clock:Nat} {seen:List Nat} {es:List MapEntry},wO r m since seen last es clock=some L→L ≠ []:=by
  intro r m since last clock seen es h
  unfold wO at h
  cases hb:(!seen.isEmpty && !es.isEmpty && es.all (fun e=>Nat.ble last e.born)) with
  | true=>rw [hb] at h;cases h
  | false =>
   rw [hb] at h
   simp only [cond_false,Option.some.injEq] at h
   rw [←h]
   generalize (es.filter fun e=>!seen.contains e.born).filter (fun e=>decide (e.born < since))=old
   cases old with
   | nil=>simp
   | cons x l=>simp
 unfold sL at h
 split at h
 ·split at h
  ·split at h
   ·exact key h
   ·cases h
  ·cases h
 ·cases h
theorem mo (hr:aO rec) {o:Op} {st:St} {L:List (Value × Hp)} (h:fh T rec o st=some L):Good st.hp (fun p=>p.2) L:=by
 unfold fh at h
 split at h
 ·rename_i f args _
  split at h
  ·rename_i g _
   cases hj:rec (lz st.hp g) with
   | none=>rw [hj] at h;cases h
   | some R =>
    rw [hj] at h
    have:=hr _ _ hj
    rw [sZ] at this
    refine Good.bind h this fun x Mx hx=>?_
    cases x with
    | ret v hp=>simp only [valOf,Option.some.injEq] at hx;subst hx;exact .one (.refl _)
    | out e s=>cases hx
  ·cases h
 ·rename_i it _
  simp only [Option.map_eq_some_iff] at h
  obtain ⟨N,hN,rfl⟩:=h
  refine ⟨by intro e;exact H8 hN (List.map_eq_nil_iff.1 e),fun p hp=>?_⟩
  obtain ⟨⟨v,e⟩,hm,rfl⟩:=List.mem_map.1 hp
  exact dL.app _ _ (Cv hN _ hm)
 ·split at h
  ·rename_i hop
   simp only [Option.some.injEq] at h
   subst h
   exact .one (dL.app _ _ (qS hop).1)
  ·cases h
theorem i9 (ops:List Oper) (st:St):bL T rec ops [] st=some [st]:=rfl
theorem dP (ops:List Oper) (o:Oper) (l:List Oper) (st:St):bL T rec ops (o :: l) st =
 cond (bx ops st.fr o.guard)
  (match fh T rec o.op st with
   | some L=>aZ L fun p=>bL T rec ops l ⟨dR st.fr o.dst p.1,p.2,st.rd⟩
   | none=>none)
  (bL T rec ops l ⟨dR st.fr o.dst undef,st.hp,st.rd⟩):=rfl
theorem eA (hr:aO rec) (ops:List Oper):∀ (l:List Oper) (st:St) (L:List St),bL T rec ops l st=some L→Good st.hp St.hp L∧∀ s ∈ L,s.rd=st.rd:=by
 intro l
 induction l with
 | nil=>intro st L h;rw [i9] at h;cases h;exact ⟨.one (.refl _),by simp⟩
 | cons o l ih =>
  intro st L h
  rw [dP] at h
  cases hg:bx ops st.fr o.guard with
  | false=>rw [hg] at h;simp only [cond_false] at h;exact ih ⟨dR st.fr o.dst undef,st.hp,st.rd⟩ _ h
  | true =>
   rw [hg] at h
   simp only [cond_true] at h
   cases ha:fh T rec o.op st with
   | none=>rw [ha] at h;cases h
   | some A =>
    rw [ha] at h
    refine ⟨Good.bind h (mo hr ha) fun p Mx hx=>(ih _ _ hx).1,fun s hs=>?_⟩
    obtain ⟨p,_,Mx,h1,h2⟩:=iU h s hs
    exact (ih _ _ h1).2 s h2
theorem iu (ops:Array Oper) (i:Nat) (st:St) (acc:List Ev):cR T rec ops [] i st acc=cond (fX T ops acc) (some [st]) none:=rfl
theorem dB (ops:Array Oper) (o:Oper) (l:List Oper) (i:Nat) (st:St) (acc:List Ev):cR T rec ops (o :: l) i st acc =
 cond (bx ops.toList st.fr o.guard)
  (match cM T rec o.op i st with
   | some (v,hp,t)=>cR T rec ops l (i+1) ⟨dR st.fr o.dst v,hp,st.rd⟩ (⟨o,st,v,hp,t⟩ :: acc)
   | none=>none)
  (cR T rec ops l (i+1) ⟨dR st.fr o.dst undef,st.hp,st.rd⟩ (⟨o,st,undef,st.hp,⟨i,[],[],false,st.hp.n,st.hp.n⟩⟩ :: acc)):=rfl
theorem Er {n lo k:Nat} (h:k ∈ Nj n lo):lo≤k∧k < n:=by
 unfold Nj at h
 cases hc:Nat.ble n lo with
 | true=>rw [hc] at h;cases h
 | false =>
  rw [hc] at h
  simp only [cond_false,List.mem_range'_1] at h
  omega
theorem Kn {n lo k:Nat} (h:k ∉ Nj n lo) (hk:k < n):k < lo:=by
 unfold Nj at h
 cases hc:Nat.ble n lo with
 | true=>have:=Nat.le_of_ble_eq_true hc;omega
 | false =>
  rw [hc] at h
  simp only [cond_false,List.mem_range'_1,not_and,Nat.not_lt] at h
  apply Nat.lt_of_not_le
  intro hle
  have:=h hle
  omega
theorem GK {i:Nat} {st:St} {v:Value} {hp:Hp} (h:Nat.ble st.hp.n hp.lo=true):mg i st v hp=(v,{hp with lo:=st.hp.lo},⟨i,[],[],true,st.hp.n,hp.n⟩):=by
 unfold mg Nj
 rw [h]
 rfl
theorem xg {i:Nat} {st:St} {v:Value} {hp:Hp} (hk:dL {st.hp with lo:=st.hp.n} hp):dL st.hp (mg i st v hp).2.1:=by
 have hn:st.hp.n≤hp.n:=hk.n
 refine ⟨hn,?_,fun k hk1 hk2=>?_,hk.wf,hk.loop⟩
 ·show (bif Nat.ble st.hp.n hp.lo then st.hp.lo else min st.hp.lo hp.lo)≤st.hp.lo
  cases Nat.ble st.hp.n hp.lo with
  | true=>exact Nat.le_refl _
  | false=>exact Nat.min_le_left _ _
 ·refine hk.same k hk1 ?_
  have hk2:k < (bif Nat.ble st.hp.n hp.lo then st.hp.lo else min st.hp.lo hp.lo):=hk2
  cases hc:Nat.ble st.hp.n hp.lo with
  | true=>have:=Nat.le_of_ble_eq_true hc;omega
  | false=>rw [hc] at hk2;simp only [cond_false] at hk2;omega
theorem mR (hr:aO rec) {o:Op} {i:Nat} {st:St} {v:Value} {hp:Hp} {t:Tc} (h:cM T rec o i st=some (v,hp,t)):dL st.hp hp:=by
 unfold cM at h
 split at h
 ·split at h
  ·rename_i g _
   split at h
   ·rename_i v' hp' hj
    have e:=Option.some.inj h
    have:=hr _ _ hj
    rw [sZ] at this
    have hk:dL st.hp (mg i st v' hp').2.1:=xg (this.2 _ (List.mem_singleton.2 rfl))
    rw [e] at hk
    exact hk
   ·cases h
  ·cases h
 ·cases h
 ·split at h
  ·rename_i hop
   simp only [Option.some.injEq,Prod.mk.injEq] at h
   obtain ⟨_,rfl,_⟩:=h
   exact dL.app _ _ (qS hop).1
  ·cases h
theorem kr (hr:aO rec) (ops:Array Oper):∀ (l:List Oper) (i:Nat) (st:St) (acc:List Ev) (L:List St),cR T rec ops l i st acc=some L→Good st.hp St.hp L∧∀ s ∈ L,s.rd=st.rd:=by
 intro l
 induction l with
 | nil =>
  intro i st acc L h
  rw [iu] at h
  cases hc:fX T ops acc with
  | false=>rw [hc] at h;cases h
  | true=>rw [hc] at h;simp at h;subst h;exact ⟨.one (.refl _),by simp⟩
 | cons o l ih =>
  intro i st acc L h
  rw [dB] at h
  cases hg:bx ops.toList st.fr o.guard with
  | false=>rw [hg] at h;simp only [cond_false] at h;exact ih _ ⟨dR st.fr o.dst undef,st.hp,st.rd⟩ _ _ h
  | true =>
   rw [hg] at h
   simp only [cond_true] at h
   cases ha:cM T rec o.op i st with
   | none=>rw [ha] at h;cases h
   | some p =>
    obtain ⟨v,hp,t⟩:=p
    rw [ha] at h
    have:=ih _ _ _ _ h
    have hk:=mR hr ha
    exact ⟨⟨this.1.1,fun s hs=>hk.trans (this.1.2 s hs)⟩,this.2⟩
theorem xh (st:St):bN T rec .skip st=some [(.normal,st)]:=rfl
theorem vo (l:Nat) (st:St):bN T rec (.label l) st=some [(.normal,st)]:=rfl
theorem nq {ops:Array Oper} {st:St} {L:List St} (h:cS T rec ops st=some L):(∃ c,y6 ops=some c∧FI T rec ops c st=some L)∨(y6 ops=none∧∃ M,cR T rec ops (ops.toList.take (gQ ops)) 0 st []=some M∧aZ M (bL T rec ops.toList (ops.toList.drop (gQ ops)))=some L):=by
 unfold cS at h
 split at h
 ·exact .inl ⟨_,by assumption,h⟩
 ·refine .inr ⟨by assumption,?_⟩
  split at h
  ·exact ⟨_,by assumption,h⟩
  ·cases h
theorem jx (ops:Array Oper) (K:St→List Ev→Option (List St)) (o:Oper) (l:List Oper) (i:Nat) (st:St) (acc:List Ev):ij T rec ops (o :: l) K i st acc =
 cond (bx ops.toList st.fr o.guard)
  (match cM T rec o.op i st with
   | some (v,hp,t)=>ij T rec ops l K (i+1) ⟨dR st.fr o.dst v,hp,st.rd⟩ (⟨o,st,v,hp,t⟩ :: acc)
   | none=>none)
  (ij T rec ops l K (i+1) ⟨dR st.fr o.dst undef,st.hp,st.rd⟩ (⟨o,st,undef,st.hp,⟨i,[],[],false,st.hp.n,st.hp.n⟩⟩ :: acc)):=rfl
theorem xj (hr:aO rec) (ops:Array Oper) (K:St→List Ev→Option (List St)):∀ (l:List Oper) (i:Nat) (st:St) (acc:List Ev) (L:List St),ij T rec ops l K i st acc=some L→∃ st' acc',dL st.hp st'.hp∧st'.rd=st.rd∧K st' acc'=some L:=by
 intro l
 induction l with
 | nil=>intro i st acc L h;exact ⟨st,acc,.refl _,rfl,h⟩
 | cons o l ih =>
  intro i st acc L h
  rw [jx] at h
  cases hg:bx ops.toList st.fr o.guard with
  | false=>rw [hg] at h;simp only [cond_false] at h;exact ih _ ⟨dR st.fr o.dst undef,st.hp,st.rd⟩ _ _ h
  | true =>
   rw [hg] at h
   simp only [cond_true] at h
   cases ha:cM T rec o.op i st with
   | none=>rw [ha] at h;cases h
   | some p =>
    obtain ⟨v,hp,t⟩:=p
    rw [ha] at h
    obtain ⟨st',acc',h1,h2,h3⟩:=ih _ _ _ _ h
    exact ⟨st',acc',(mR hr ha).trans h1,h2,h3⟩
theorem ja {i:Nat} {st:St} {r:fQ} {P:List (Value × Hp × Tc)} (h:HQ i st r=some P):∃ v hp,r=.ret v hp∧P=[mg i st v hp]:=by
 cases r with
 | ret v hp=>exact ⟨v,hp,rfl,(Option.some.inj h).symm⟩
 | out e s=>cases h
theorem zj (hr:aO rec) {o:Op} {i:Nat} {st:St} {P:List (Value × Hp × Tc)} (h:fC T rec o i st=some P):Good st.hp (fun p=>p.2.1) P:=by
 unfold fC at h
 split at h
 ·split at h
  ·rename_i g _
   split at h
   ·rename_i R hj
    have:=hr _ _ hj
    rw [sZ] at this
    refine ⟨Cx h this.1 fun r _ Pr hp=>?_,fun p hp=>?_⟩
    ·obtain ⟨v,hp,_,rfl⟩:=ja hp
     simp
    ·obtain ⟨r,hrm,Pr,h1,h2⟩:=iU h p hp
     obtain ⟨v,hp',rfl,rfl⟩:=ja h1
     obtain rfl:=List.mem_singleton.1 h2
     exact xg (this.2 _ hrm)
   ·cases h
  ·cases h
 ·cases h
theorem xl (hr:aO rec) {ops:Array Oper} {o:Oper} {i:Nat} {st:St} {P:List (Value × Hp × Tc)} (h:mh T rec ops o i st=some P):Good st.hp (fun p=>p.2.1) P:=by
 unfold mh at h
 cases hg:bx ops.toList st.fr o.guard with
 | true =>
  rw [hg] at h
  exact zj hr h
 | false =>
  rw [hg] at h
  simp only [cond_false,Option.some.injEq] at h
  subst h
  exact ⟨by simp,fun p hp=>by rw [List.mem_singleton.1 hp];exact .refl _⟩
theorem so {ops:Array Oper} {c:Nat} {st:St} {acc:List Ev} {L:List St} (h:wS T rec ops c st acc=some L):∃ o P,ops.toList[c]?=some o∧mh T rec ops o c st=some P∧(∀ p ∈ P,fX T ops (⟨o,st,p.1,p.2.1,p.2.2⟩ :: acc)=true)∧(aZ P fun p=>bL T rec ops.toList (ops.toList.drop (c+1)) ⟨dR st.fr o.dst p.1,p.2.1,st.rd⟩)=some L:=by
 unfold wS at h
 split at h
 ·rename_i o ho
  split at h
  ·rename_i P hP
   cases hq:P.all fun p=>fX T ops (⟨o,st,p.1,p.2.1,p.2.2⟩ :: acc) with
   | false=>rw [hq] at h;cases h
   | true =>
    rw [hq] at h
    exact ⟨o,P,ho,hP,List.all_eq_true.1 hq,h⟩
  ·cases h
 ·cases h
theorem Es (hr:aO rec) (ops:Array Oper) (c:Nat) (st:St) (L:List St) (h:FI T rec ops c st=some L):Good st.hp St.hp L:=by
 obtain ⟨st',acc',h1,h2,h3⟩:=xj hr _ _ _ _ _ _ _ h
 obtain ⟨o,P,_,hP,_,hL⟩:=so h3
 have hg:=xl hr hP
 have hg':Good st.hp (fun p:Value × Hp × Tc=>p.2.1) P:=⟨hg.1,fun p hp=>h1.trans (hg.2 p hp)⟩
 exact Good.bind hL hg' fun p Mx hx=>(eA hr _ _ _ _ hx).1
theorem rK (hr:aO rec) (ops:Array Oper) (st:St) (L:List St) (h:cS T rec ops st=some L):Good st.hp St.hp L:=by
 rcases nq h with ⟨c,_,h⟩|⟨_,M,h1,h2⟩
 ·exact Es hr _ _ _ _ h
 ·exact Good.bind h2 (kr hr _ _ _ _ _ _ h1).1 fun x Mx hx=>(eA hr _ _ _ _ hx).1
theorem gh (id:Nat) (ops:Array Oper) (draw:Bool) (st:St):bN T rec (.region id ops draw) st =
 match cond draw (cS T rec ops st) (bL T rec ops.toList ops.toList st) with
  | some L=>some (L.map fun s=>(.normal,s))
  | none=>none:=rfl
theorem nK (a b:Code) (st:St):bN T rec (.seq a b) st=match bN T rec a st with
 | some L=>aZ L (v5 (bN T rec b))
 | none=>none:=rfl
theorem jP (c:Operand) (a b:Code) (st:St):bN T rec (.cond c a b) st=match aX st.fr c with
 | .bool t=>cond t (bN T rec a st) (bN T rec b st)
 | _=>none:=rfl
theorem kJ (id:Nat) (c:Code) (st:St):bN T rec (.block id c) st=match bN T rec c st with
 | some L=>some (L.map (iq id))
 | none=>none:=rfl
theorem oA (c:Code) (st:St):bN T rec (.loop c) st=match rec (.loop c st) with
 | some L=>aZ L Ch
 | none=>none:=rfl
theorem xp (id:Nat) (st:St):bN T rec (.exit id) st=some [(.exit id,st)]:=rfl
theorem zV (st:St):bN T rec .ret st=some [(.ret,st)]:=rfl
theorem mS (f:Operand) (ps:Array Tmp) (a b:Code) (st:St):bN T rec (.rangeFunc f ps a b) st=oc rec f ps a b st:=rfl
theorem mT (c:Code) (st:St):bN T rec (.scope c) st=wT (bN T rec c st):=rfl
theorem qc {o:Option (List (Exit × St))} {L:List (Exit × St)} (h:wT o=some L):o=some L∧∀ p ∈ L,∀ l,p.1 ≠ .goto l:=by
 unfold wT at h
 split at h
 ·rename_i M
  cases hb:M.all noGoto with
  | false=>rw [hb] at h;cases h
  | true =>
   rw [hb] at h
   simp only [cond_true,Option.some.injEq] at h
   subst h
   refine ⟨rfl,fun p hp l e=>?_⟩
   have:=List.all_eq_true.1 hb p hp
   unfold noGoto at this
   rw [e] at this
   cases this
 ·cases h
theorem xq (l:Nat) (st:St):bN T rec (.goto l) st=none:=rfl
theorem s0 (y:String) (st:St):bN T rec (.refuse y) st=none:=rfl
theorem nr {l : Nat} {fr : Tr Value} {rd : Bool} {r : fQ} {M : List (Exit × St)} (h : kE l fr rd r = some M) :
    ∃ v hp s pend fr0 ps as bd, r = .ret v hp ∧ hp.get l = some (.loop s pend fr0 ps as bd) ∧ s ≠ .busy ∧
      ((pend = none ∧ M = [(.normal, ⟨fr, hp.put l (.loop .exhausted pend fr0 ps as bd), rd⟩)]) ∨ (pend = some .ret ∧ M = [(.ret, ⟨fr, hp.put l (.loop .exhausted pend fr0 ps as bd), rd⟩)]) ∨
        ∃ id, pend = some (.exit id) ∧ M = [(.exit id, ⟨fr, hp.put l (.loop .exhausted pend fr0 ps as bd), rd⟩)]) := by
  cases r with
  | out e s => cases h
  | ret v hp =>
    unfold kE at h
    simp only at h
    split at h
    · rename_i s pend fr0 ps as bd hl
      refine ⟨v, hp, s, pend, fr0, ps, as, bd, rfl, hl, ?_⟩
      have hs : s ≠ .busy := fun e => by subst e; simp at h
      refine ⟨hs, ?_⟩
      cases pend with
      | none => cases s <;> simp at h hs ⊢ <;> exact h.symm
      | some c =>
        cases c with
        | ret => refine .inr (.inl ⟨rfl, ?_⟩); cases s <;> simp at h hs ⊢ <;> exact h.symm
        | exit id => refine .inr (.inr ⟨id, rfl, ?_⟩); cases s <;> simp at h hs ⊢ <;> exact h.symm
        | _ => cases s <;> simp at h
    · cases h
theorem iV (hr:aO rec):∀ (c:Code) (st:St) (L:List (Exit × St)),bN T rec c st=some L→Good st.hp (fun p=>p.2.hp) L:=by
 intro c
 induction c with
 | skip=>intro st L h;rw [xh] at h;cases h;exact .one (.refl _)
 | label l=>intro st L h;rw [vo] at h;cases h;exact .one (.refl _)
 | exit id=>intro st L h;rw [xp] at h;cases h;exact .one (.refl _)
 | ret=>intro st L h;rw [zV] at h;cases h;exact .one (.refl _)
 | scope c ih=>intro st L h;rw [mT] at h;exact ih st L (qc h).1
 | goto l=>intro st L h;rw [xq] at h;cases h
 | refuse y=>intro st L h;rw [s0] at h;cases h
 | region id ops draw =>
  intro st L h
  rw [gh] at h
  cases draw with
  | true =>
   simp only [cond_true] at h
   cases hx:cS T rec ops st with
   | none=>rw [hx] at h;cases h
   | some R=>rw [hx] at h;simp only [Option.some.injEq] at h;subst h;exact (rK hr _ _ _ hx).map fun _=>rfl
  | false =>
   simp only [cond_false] at h
   cases hx:bL T rec ops.toList ops.toList st with
   | none=>rw [hx] at h;cases h
   | some R=>rw [hx] at h;simp only [Option.some.injEq] at h;subst h;exact (eA hr _ _ _ _ hx).1.map fun _=>rfl
 | seq a b iha ihb =>
  intro st L h
  rw [nK] at h
  cases hx:bN T rec a st with
  | none=>rw [hx] at h;cases h
  | some R =>
   rw [hx] at h
   refine Good.bind h (iha _ _ hx) fun p Mx hp=>?_
   unfold v5 at hp
   split at hp
   ·exact ihb _ _ hp
   ·simp only [Option.some.injEq] at hp;subst hp;exact .one (.refl _)
 | cond c a b iha ihb =>
  intro st L h
  rw [jP] at h
  split at h
  ·rename_i t _
   cases t with
   | true=>exact iha _ _ h
   | false=>exact ihb _ _ h
  ·cases h
 | block id c ih =>
  intro st L h
  rw [kJ] at h
  cases hx:bN T rec c st with
  | none=>rw [hx] at h;cases h
  | some R =>
   rw [hx] at h
   simp only [Option.some.injEq] at h
   subst h
   refine (ih _ _ hx).map fun p=>?_
   unfold iq
   split <;> rfl
 | loop c _ =>
  intro st L h
  rw [oA] at h
  cases hx:rec (.loop c st) with
  | none=>rw [hx] at h;cases h
  | some R =>
   rw [hx] at h
   refine Good.bind h (hr _ _ hx) fun p Mx hp=>?_
   cases p with
   | ret=>cases hp
   | out e s=>simp only [Ch,Option.some.injEq] at hp;subst hp;exact .one (.refl _)
 | rangeFunc f ps a b _ _ =>
  intro st L h
  rw [mS] at h
  unfold oc at h
  split at h
  ·rename_i g args _
   cases hx:rec (.call g args (st.hp.push (.loop .ready none st.fr ps a b))) with
   | none=>rw [hx] at h;cases h
   | some R =>
    rw [hx] at h
    have hk:=hr _ _ hx
    have hk':Good st.hp fQ.hp R:=⟨hk.1,fun r hr'=>(dL.push _ _).trans (hk.2 r hr')⟩
    refine Good.bind h hk' fun p Mx hp=>?_
    obtain ⟨v,hp2,s,pend,fr0,ps',as',bd',rfl,hgt,_,h1|h1|⟨_,h1⟩⟩:=nr hp <;> (obtain ⟨_,rfl⟩:=h1;exact .one (dL.put hp2 _ _ (by rw [hgt];simp) (fun _=>rfl)))
  ·cases h
theorem iW (f:FuncId) (args:List Value) (hp:Hp):jv T rec (.call f args hp)=match T.fn.get f with
 | some fn=>match fn.body with
  | some c=>match bN T rec c ⟨setArgs .leaf 0 args,hp,false⟩ with
   | some L=>aZ L (fZ T fn.results.toList)
   | none=>none
  | none=>none
 | none=>pG T rec f args hp:=rfl
theorem qd (l:Nat) (args:List Value) (hp:Hp):jv T rec (.round l args hp)=match hp.get l with
 | some (.loop .ready _ fr ps as bd)=>cond (Nat.beq args.length ps.toList.length)
  (match bN T rec as ⟨fE fr (ps.toList.zip args),hp,true⟩ with
  | some L=>aZ L (dH T rec l bd)
  | none=>none) none
 | _=>none:=rfl
theorem sq (c:Code) (st:St):jv T rec (.loop c st)=match bN T rec c st with
 | some L=>aZ L (fF rec c)
 | none=>none:=rfl
theorem oB {rs:List ResultVar} {p:Exit × St} {M:List fQ} (h:fZ T rs p=some M):(p.1=.normal∨p.1=.ret)∧∃ vs,fY T p.2.fr p.2.hp rs=some vs∧M=[.ret (bE vs) p.2.hp]:=by
 obtain ⟨e,s⟩:=p
 unfold fZ at h
 cases e with
 | normal=>simp only [Option.map_eq_some_iff] at h;obtain ⟨vs,a,b⟩:=h;exact ⟨.inl rfl,vs,a,b.symm⟩
 | ret=>simp only [Option.map_eq_some_iff] at h;obtain ⟨vs,a,b⟩:=h;exact ⟨.inr rfl,vs,a,b.symm⟩
 | _=>simp at h
theorem mq {l : Nat} {p : Exit × St} {M : List fQ} (h : ir l p = some M) : ∃ st pend fr ps as bd, p.2.hp.get l = some (.loop st pend fr ps as bd) ∧
    ((p.1 = .normal ∧ M = [.ret (.bool true) (p.2.hp.put l (.loop .ready none fr ps as bd))]) ∨
     (p.1 = .ret ∧ M = [.ret (.bool false) (p.2.hp.put l (.loop .done (some .ret) fr ps as bd))]) ∨
     ∃ id, p.1 = .exit id ∧ M = [.ret (.bool false) (p.2.hp.put l (.loop .done (some (.exit id)) fr ps as bd))]) := by
  obtain ⟨e, s⟩ := p
  unfold ir at h
  simp only at h
  split at h
  · rename_i st pend fr ps as bd hl
    refine ⟨st, pend, fr, ps, as, bd, hl, ?_⟩
    cases e with
    | normal => simp only [Option.some.injEq] at h; exact .inl ⟨rfl, h.symm⟩
    | ret => simp only [Option.some.injEq] at h; exact .inr (.inl ⟨rfl, h.symm⟩)
    | exit id => simp only [Option.some.injEq] at h; exact .inr (.inr ⟨id, rfl, h.symm⟩)
    | _ => simp at h
  · cases h
theorem jQ {l:Nat} {body:Code} {p:Exit × St} {M:List fQ} (h:dH T rec l body p=some M):p.1=.normal∧∃ pend fr ps as bd R,p.2.hp.get l=some (.loop .ready pend fr ps as bd) ∧
  bN T rec body ⟨p.2.fr,p.2.hp.put l (.loop .busy pend fr ps as bd),true⟩=some R∧aZ R (ir l)=some M:=by
 obtain ⟨e,s⟩:=p
 unfold dH at h
 have he:e=.normal:=by cases e <;> first|rfl|simp at h
 subst he
 simp only at h
 split at h
 ·rename_i pend fr ps as bd hl
  cases hy:bN T rec body ⟨s.fr,s.hp.put l (.loop .busy pend fr ps as bd),true⟩ with
  | none=>rw [hy] at h;cases h
  | some R=>rw [hy] at h;exact ⟨rfl,pend,fr,ps,as,bd,R,hl,hy,h⟩
 ·cases h
theorem pK {f:FuncId} {args:List Value} {hp:Hp} {L:List fQ} (h:jv T rec (.call f args hp)=some L) :
  (∃ fn c R,T.fn.get f=some fn∧fn.body=some c∧bN T rec c ⟨setArgs .leaf 0 args,hp,false⟩=some R∧aZ R (fZ T fn.results.toList)=some L)∨pG T rec f args hp=some L:=by
 rw [iW] at h
 cases hf:T.fn.get f with
 | none=>rw [hf] at h;exact .inr h
 | some fn =>
  rw [hf] at h
  simp only at h
  cases hb:fn.body with
  | none=>rw [hb] at h;cases h
  | some c =>
   rw [hb] at h
   simp only at h
   cases hx:bN T rec c ⟨setArgs .leaf 0 args,hp,false⟩ with
   | none=>rw [hx] at h;cases h
   | some R=>rw [hx] at h;exact .inl ⟨fn,c,R,rfl,hb,hx,h⟩
theorem nL {l:Nat} {args:List Value} {hp:Hp} {L:List fQ} (h:jv T rec (.round l args hp)=some L) :
  ∃ pend fr ps as bd R,hp.get l=some (.loop .ready pend fr ps as bd)∧args.length=ps.size∧bN T rec as ⟨fE fr (ps.toList.zip args),hp,true⟩=some R∧aZ R (dH T rec l bd)=some L:=by
 rw [qd] at h
 split at h
 ·rename_i pend fr ps as bd hl
  cases hlen:Nat.beq args.length ps.toList.length with
  | false=>rw [hlen] at h;cases h
  | true =>
   rw [hlen] at h
   simp only [cond_true] at h
   cases hx:bN T rec as ⟨fE fr (ps.toList.zip args),hp,true⟩ with
   | none=>rw [hx] at h;cases h
   | some R=>rw [hx] at h;exact ⟨pend,fr,ps,as,bd,R,hl,by simpa using Nat.eq_of_beq_eq_true hlen,hx,h⟩
 ·cases h
theorem pL {c:Code} {st:St} {L:List fQ} (h:jv T rec (.loop c st)=some L):∃ R,bN T rec c st=some R∧aZ R (fF rec c)=some L:=by
 rw [sq] at h
 cases hx:bN T rec c st with
 | none=>rw [hx] at h;cases h
 | some R=>rw [hx] at h;exact ⟨R,rfl,h⟩
theorem mw {c:Code} {p:Exit × St} {M:List fQ} (h:fF rec c p=some M):(p.1=.normal∧rec (.loop c p.2)=some M)∨(p.1 ≠ .normal∧M=[.out p.1 p.2]):=by
 obtain ⟨e,s⟩:=p
 unfold fF at h
 cases e <;> simp only [Option.some.injEq] at h <;> first
  | exact .inl ⟨rfl,h⟩
  | exact .inr ⟨by simp,h.symm⟩
def od.hp:od→Hp
 | .call _ _ h=>h
 | .loop _ st=>st.hp
def ey.hp:ey→Hp
 | .ret _ h=>h
 | .fG _ h=>h
 | .out _ st=>st.hp
def fJ (recP:od→Option (List ey)):Prop:=∀ j L,recP j=some L→Good j.hp ey.hp L
section
variable {recP : od → Option (List ey)}
theorem vp {H:Hp} {v:Value} {L:List ey} (h:AY H v=some L):∃ t x,v=.iface t x∧L=[.fG v H]:=by
 unfold AY at h
 split at h
 ·rename_i t x
  exact ⟨t,x,rfl,(Option.some.inj h).symm⟩
 ·cases h
theorem vq {o:Op} {st:St} {L:List ey} (h:fH T rec recP o st=some L) :
  (∃ x,mP o=some x∧AY st.hp (aX st.fr x)=some L)∨(mP o=none∧∃ g as,oe T o st=some (g,as)∧recP (.call g as st.hp)=some L) ∨
   (mP o=none∧∃ M,fh T rec o st=some M∧L=M.map fun p=>.ret p.1 p.2):=by
 unfold fH at h
 split at h
 ·rename_i x hx
  exact .inl ⟨x,hx,h⟩
 ·rename_i hx
  split at h
  ·rename_i g as hg
   exact .inr (.inl ⟨hx,g,as,hg,h⟩)
  ·simp only [Option.map_eq_some_iff] at h
   obtain ⟨M,h1,h2⟩:=h
   exact .inr (.inr ⟨hx,M,h1,h2.symm⟩)
theorem qe (hr:aO rec) (hp:fJ recP) {o:Op} {st:St} {L:List ey} (h:fH T rec recP o st=some L):Good st.hp ey.hp L:=by
 rcases vq h with ⟨x,_,h⟩|⟨_,g,as,_,h⟩|⟨_,M,h2,rfl⟩
 ·obtain ⟨_,_,_,rfl⟩:=vp h
  exact .one (.refl _)
 ·exact hp _ _ h
 ·exact (mo hr h2).map fun _=>rfl
theorem lJ (ops:List Oper) (st:St):aS T rec recP ops [] st=some [(none,st)]:=rfl
theorem cT (ops:List Oper) (o:Oper) (l:List Oper) (st:St):aS T rec recP ops (o :: l) st=cond (bx ops st.fr o.guard)
 (match fH T rec recP o.op st with
  | some L=>aZ L (Nk o.dst st (aS T rec recP ops l))
  | none=>none)
 (aS T rec recP ops l ⟨dR st.fr o.dst undef,st.hp,st.rd⟩):=rfl
theorem qf {dst:Option Tmp} {st:St} {k:St→Option (List (Option Value × St))} {r:ey} {M:List (Option Value × St)} (h:Nk dst st k r=some M) :
  (∃ v hp,r=.ret v hp∧k ⟨dR st.fr dst v,hp,st.rd⟩=some M)∨∃ v hp,r=.fG v hp∧M=[(some v,⟨st.fr,hp,st.rd⟩)]:=by
 cases r with
 | ret v hp=>exact .inl ⟨v,hp,rfl,h⟩
 | fG v hp=>exact .inr ⟨v,hp,rfl,(Option.some.inj h).symm⟩
 | out x s=>cases h
theorem iK (hr:aO rec) (hp:fJ recP) (ops:List Oper):∀ (l:List Oper) (st:St) (L:List (Option Value × St)),aS T rec recP ops l st=some L→Good st.hp (fun p=>p.2.hp) L:=by
 intro l
 induction l with
 | nil=>intro st L h;rw [lJ] at h;cases h;exact .one (.refl _)
 | cons o l ih =>
  intro st L h
  rw [cT] at h
  cases hg:bx ops st.fr o.guard with
  | false=>rw [hg] at h;exact ih ⟨dR st.fr o.dst undef,st.hp,st.rd⟩ L h
  | true =>
   rw [hg] at h
   simp only [cond_true] at h
   cases ha:fH T rec recP o.op st with
   | none=>rw [ha] at h;cases h
   | some A =>
    rw [ha] at h
    refine Good.bind h (qe hr hp ha) fun r Mx hx=>?_
    rcases qf hx with ⟨v,h2,rfl,h3⟩|⟨v,h2,rfl,rfl⟩
    ·exact ih _ _ h3
    ·exact .one (.refl _)
theorem cU (id:Nat) (ops:Array Oper) (draw:Bool) (st:St):cq T rec recP (.region id ops draw) st=cond draw
 (match di T rec recP ops st with
  | some L=>some (L.map fR)
  | none=>none)
 (match aS T rec recP ops.toList ops.toList st with
  | some L=>some (L.map fR)
  | none=>none):=rfl
theorem jR (a b:Code) (st:St):cq T rec recP (.seq a b) st=match cq T rec recP a st with
 | some L=>aZ L (sO (cq T rec recP b))
 | none=>none:=rfl
theorem jb (c:Operand) (a b:Code) (st:St):cq T rec recP (.cond c a b) st=match aX st.fr c with
 | .bool t=>cond t (cq T rec recP a st) (cq T rec recP b st)
 | _=>none:=rfl
theorem jy (id:Nat) (c:Code) (st:St):cq T rec recP (.block id c) st=match cq T rec recP c st with
 | some L=>some (L.map (gw id))
 | none=>none:=rfl
theorem mU (c:Code) (st:St):cq T rec recP (.loop c) st=match recP (.loop c st) with
 | some L=>aZ L AZ
 | none=>none:=rfl
theorem oC {k:St→Option (List (kF × St))} {p:kF × St} {M:List (kF × St)} (h:sO k p=some M):(p.1=.e .normal∧k p.2=some M)∨(p.1 ≠ .e .normal∧M=[p]):=by
 obtain ⟨x,s⟩:=p
 unfold sO at h
 simp only at h
 split at h
 ·exact .inl ⟨rfl,h⟩
 ·rename_i hx
  exact .inr ⟨hx,(Option.some.inj h).symm⟩
theorem s5 (p:Option Value × St):(fR p).2=p.2:=by
 unfold fR
 split <;> rfl
theorem vr (id:Nat) (p:kF × St):(gw id p).2=p.2:=by
 unfold gw
 split <;> rfl
theorem vt {r:ey} {M:List (kF × St)} (h:AZ r=some M):∃ x s,r=.out x s∧M=[(x,s)]:=by
 cases r with
 | out x s=>exact ⟨x,s,rfl,(Option.some.inj h).symm⟩
 | ret=>cases h
 | fG=>cases h
theorem mA {ops:Array Oper} {st:St} {L:List (Option Value × St)} (h:di T rec recP ops st=some L):(∃ c,sP T ops=some c∧∃ M,cR T rec ops (ops.toList.take c) 0 st []=some M∧aZ M (aS T rec recP ops.toList (ops.toList.drop c))=some L)∨(sP T ops=none∧∃ M,cS T rec ops st=some M∧L=M.map fun s=>(none,s)):=by
 unfold di at h
 split at h
 ·refine .inl ⟨_,by assumption,?_⟩
  split at h
  ·exact ⟨_,by assumption,h⟩
  ·cases h
 ·refine .inr ⟨by assumption,?_⟩
  split at h
  ·exact ⟨_,by assumption,(Option.some.inj h).symm⟩
  ·cases h
theorem xu (hr:aO rec) (hp:fJ recP) (ops:Array Oper) (st:St) (L:List (Option Value × St)) (h:di T rec recP ops st=some L):Good st.hp (fun p=>p.2.hp) L:=by
 rcases mA h with ⟨c,_,M,h1,h2⟩|⟨_,M,h1,rfl⟩
 ·exact Good.bind h2 (kr hr _ _ _ _ _ _ h1).1 fun x Mx hx=>iK hr hp _ _ _ _ hx
 ·exact (rK hr _ _ _ h1).map fun _=>rfl
theorem jc (hr:aO rec) (hp:fJ recP):∀ (c:Code) (st:St) (L:List (kF × St)),cq T rec recP c st=some L→Good st.hp (fun p=>p.2.hp) L:=by
 intro c
 induction c with
 | skip=>intro st L h;cases h;exact .one (.refl _)
 | label l=>intro st L h;cases h;exact .one (.refl _)
 | exit id=>intro st L h;cases h;exact .one (.refl _)
 | ret=>intro st L h;cases h;exact .one (.refl _)
 | scope c ih=>intro st L h;cases h
 | goto l=>intro st L h;cases h
 | refuse y=>intro st L h;cases h
 | rangeFunc f ps a b _ _=>intro st L h;cases h
 | region id ops draw =>
  intro st L h
  rw [cU] at h
  cases draw with
  | true =>
   simp only [cond_true] at h
   cases hx:di T rec recP ops st with
   | none=>rw [hx] at h;cases h
   | some R=>rw [hx] at h;simp only [Option.some.injEq] at h;subst h;exact (xu hr hp _ _ _ hx).map fun p=>by rw [s5]
  | false =>
   simp only [cond_false] at h
   cases hx:aS T rec recP ops.toList ops.toList st with
   | none=>rw [hx] at h;cases h
   | some R=>rw [hx] at h;simp only [Option.some.injEq] at h;subst h;exact (iK hr hp _ _ _ _ hx).map fun p=>by rw [s5]
 | seq a b iha ihb =>
  intro st L h
  rw [jR] at h
  cases hx:cq T rec recP a st with
  | none=>rw [hx] at h;cases h
  | some R =>
   rw [hx] at h
   refine Good.bind h (iha _ _ hx) fun p Mx hq=>?_
   rcases oC hq with ⟨_,h1⟩|⟨_,rfl⟩
   ·exact ihb _ _ h1
   ·exact .one (.refl _)
 | cond c a b iha ihb =>
  intro st L h
  rw [jb] at h
  split at h
  ·rename_i t _
   cases t with
   | true=>exact iha _ _ h
   | false=>exact ihb _ _ h
  ·cases h
 | block id c ih =>
  intro st L h
  rw [jy] at h
  cases hx:cq T rec recP c st with
  | none=>rw [hx] at h;cases h
  | some R =>
   rw [hx] at h
   simp only [Option.some.injEq] at h
   subst h
   exact (ih _ _ hx).map fun p=>by rw [vr]
 | loop c _ =>
  intro st L h
  rw [mU] at h
  cases hx:recP (.loop c st) with
  | none=>rw [hx] at h;cases h
  | some R =>
   rw [hx] at h
   refine Good.bind h (hp _ _ hx) fun p Mx hq=>?_
   obtain ⟨x,s,rfl,rfl⟩:=vt hq
   exact .one (.refl _)
theorem ku {rs:List ResultVar} {p:kF × St} {M:List ey} (h:kG T rs p=some M):((p.1=.e .normal∨p.1=.e .ret)∧∃ vs,fY T p.2.fr p.2.hp rs=some vs∧M=[.ret (bE vs) p.2.hp])∨∃ v,p.1=.fG v∧M=[.fG v p.2.hp]:=by
 obtain ⟨e,s⟩:=p
 unfold kG at h
 cases e with
 | fG v=>exact .inr ⟨v,rfl,(Option.some.inj h).symm⟩
 | e x =>
  cases x with
  | normal=>simp only [Option.map_eq_some_iff] at h;obtain ⟨vs,a,b⟩:=h;exact .inl ⟨.inl rfl,vs,a,b.symm⟩
  | ret=>simp only [Option.map_eq_some_iff] at h;obtain ⟨vs,a,b⟩:=h;exact .inl ⟨.inr rfl,vs,a,b.symm⟩
  | _=>simp at h
theorem kW {c:Code} {p:kF × St} {M:List ey} (h:gR recP c p=some M):(p.1=.e .normal∧recP (.loop c p.2)=some M)∨(p.1 ≠ .e .normal∧M=[.out p.1 p.2]):=by
 obtain ⟨x,s⟩:=p
 unfold gR at h
 simp only at h
 split at h
 ·exact .inl ⟨rfl,h⟩
 ·rename_i hx
  exact .inr ⟨hx,(Option.some.inj h).symm⟩
theorem kX {f:FuncId} {args:List Value} {hp:Hp} {L:List ey} (h:lA T rec recP (.call f args hp)=some L) :
  ∃ fn c R,T.Ec.get f=some fn∧fn.body=some c∧cq T rec recP c ⟨setArgs .leaf 0 args,hp,false⟩=some R∧aZ R (kG T fn.results.toList)=some L:=by
 unfold lA at h
 simp only at h
 cases hf:T.Ec.get f with
 | none=>rw [hf] at h;cases h
 | some fn =>
  rw [hf] at h
  simp only at h
  cases hb:fn.body with
  | none=>rw [hb] at h;cases h
  | some c =>
   rw [hb] at h
   simp only at h
   cases hx:cq T rec recP c ⟨setArgs .leaf 0 args,hp,false⟩ with
   | none=>rw [hx] at h;cases h
   | some R=>rw [hx] at h;exact ⟨fn,c,R,rfl,hb,hx,h⟩
theorem kY {c:Code} {st:St} {L:List ey} (h:lA T rec recP (.loop c st)=some L):∃ R,cq T rec recP c st=some R∧aZ R (gR recP c)=some L:=by
 unfold lA at h
 simp only at h
 cases hx:cq T rec recP c st with
 | none=>rw [hx] at h;cases h
 | some R=>rw [hx] at h;exact ⟨R,rfl,h⟩
theorem Et (hr:aO rec) (hp:fJ recP):fJ (lA T rec recP):=by
 intro j L h
 cases j with
 | call f args H =>
  obtain ⟨fn,c,R,_,_,hx,h⟩:=kX h
  refine Good.bind h (jc hr hp _ _ _ hx) fun p Mx hq=>?_
  rcases ku hq with ⟨_,vs,_,rfl⟩|⟨v,_,rfl⟩ <;> exact .one (.refl _)
 | loop c st =>
  obtain ⟨R,hx,h⟩:=kY h
  refine Good.bind h (jc hr hp _ _ _ hx) fun p Mx hq=>?_
  rcases kW hq with ⟨_,h1⟩|⟨_,rfl⟩
  ·exact hp _ _ h1
  ·exact .one (.refl _)
end
theorem jS (hr:aO rec):∀ n,fJ (gJ T rec n)
 | 0=>fun j L h=>by cases h
 | n+1=>fun j L h=>Et hr (jS hr n) j L h
theorem Cy {o:Op} {st:St} {pv:Option Value} {v:Value} {hp:Hp} {pv':Option Value} (h:Kk T o st pv=some (v,hp,pv')) :
  (∃ args tys,o=.call ⟨.builtin .recover,args,tys⟩∧hp=st.hp∧pv'=none∧v=pv.getD .nilIface)∨(dc o=.plain∧pv'=pv∧∃ e,lu T st.hp.n o (aX st.fr) st.hp.get=some (v,e)∧hp=st.hp.app e):=by
 unfold Kk at h
 split at h
 ·rename_i args tys
  split at h
  ·simp only [Option.some.injEq,Prod.mk.injEq] at h
   obtain ⟨rfl,rfl,rfl⟩:=h
   exact .inl ⟨args,tys,rfl,rfl,rfl,rfl⟩
  ·simp only [Option.some.injEq,Prod.mk.injEq] at h
   obtain ⟨rfl,rfl,rfl⟩:=h
   exact .inl ⟨args,tys,rfl,rfl,rfl,rfl⟩
 ·split at h
  ·rename_i hk
   split at h
   ·rename_i u e hop
    simp only [Option.some.injEq,Prod.mk.injEq] at h
    obtain ⟨rfl,rfl,rfl⟩:=h
    exact .inr ⟨hk,rfl,e,hop,rfl⟩
   ·cases h
  ·cases h
theorem Cz {o:Op} {st:St} {pv:Option Value} {v:Value} {hp:Hp} {pv':Option Value} (h:Kk T o st pv=some (v,hp,pv')):dL st.hp hp:=by
 rcases Cy h with ⟨_,_,_,rfl,_⟩|⟨_,_,e,hop,rfl⟩
 ·exact .refl _
 ·exact dL.app _ _ (qS hop).1
theorem s7 (ops:List Oper) (st:St) (pv:Option Value):gS T ops [] st pv=some (st,pv):=rfl
theorem nt (ops:List Oper) (o:Oper) (l:List Oper) (st:St) (pv:Option Value):gS T ops (o :: l) st pv=cond (bx ops st.fr o.guard)
 (match Kk T o.op st pv with
  | some (v,hp,pv')=>gS T ops l ⟨dR st.fr o.dst v,hp,st.rd⟩ pv'
  | none=>none)
 (gS T ops l ⟨dR st.fr o.dst undef,st.hp,st.rd⟩ pv):=rfl
theorem rL (ops:List Oper):∀ (l:List Oper) (st:St) (pv:Option Value) (p:St × Option Value),gS T ops l st pv=some p→dL st.hp p.1.hp:=by
 intro l
 induction l with
 | nil=>intro st pv p h;rw [s7] at h;cases h;exact .refl _
 | cons o l ih =>
  intro st pv p h
  rw [nt] at h
  cases hg:bx ops st.fr o.guard with
  | false=>rw [hg] at h;exact ih ⟨dR st.fr o.dst undef,st.hp,st.rd⟩ pv p h
  | true =>
   rw [hg] at h
   simp only [cond_true] at h
   split at h
   ·rename_i v hp pv' hop
    exact (Cz hop).trans (ih _ _ _ h)
   ·cases h
theorem nu (id:Nat) (ops:Array Oper) (draw:Bool) (st:St) (pv:Option Value):kS T (.region id ops draw) st pv=cond draw none (match gS T ops.toList ops.toList st pv with
 | some p=>some (.normal,p.1,p.2)
 | none=>none):=rfl
theorem sv (a b:Code) (st:St) (pv:Option Value):kS T (.seq a b) st pv=match kS T a st pv with
 | some (.normal,st',pv')=>kS T b st' pv'
 | some p=>some p
 | none=>none:=rfl
theorem qg (c:Operand) (a b:Code) (st:St) (pv:Option Value):kS T (.cond c a b) st pv=match aX st.fr c with
 | .bool t=>cond t (kS T a st pv) (kS T b st pv)
 | _=>none:=rfl
theorem vu:∀ (c:Code) (st:St) (pv:Option Value) (p:Exit × St × Option Value),kS T c st pv=some p→dL st.hp p.2.1.hp:=by
 intro c
 induction c with
 | skip=>intro st pv p h;cases h;exact .refl _
 | ret=>intro st pv p h;cases h;exact .refl _
 | region id ops draw =>
  intro st pv p h
  rw [nu] at h
  cases draw with
  | true=>cases h
  | false =>
   simp only [cond_false] at h
   split at h
   ·rename_i q hq
    cases h
    exact rL _ _ _ _ _ hq
   ·cases h
 | seq a b iha ihb =>
  intro st pv p h
  rw [sv] at h
  split at h
  ·rename_i st' pv' hx
   exact (iha _ _ _ hx).trans (ihb _ _ _ h)
  ·rename_i hx
   cases h
   exact iha _ _ _ hx
  ·cases h
 | cond c a b iha ihb =>
  intro st pv p h
  rw [qg] at h
  split at h
  ·rename_i t _
   cases t with
   | true=>exact iha _ _ _ h
   | false=>exact ihb _ _ _ h
  ·cases h
 | _=>intro st pv p h;cases h
theorem qh {clo:Value} {hp:Hp} {pv:Option Value} {hp':Hp} {pv':Option Value} (h:kT T clo hp pv=some (hp',pv')) :
  ∃ g as fn c x st,cC clo []=some (.fn g as)∧T.Ee.get g=some fn∧fn.body=some c∧fn.results.toList=[]∧kS T c ⟨setArgs .leaf 0 as,hp,false⟩ pv=some (x,st,pv')∧(x=.normal∨x=.ret)∧hp'=st.hp:=by
 unfold kT at h
 split at h
 ·rename_i g as hg
  cases hf:T.Ee.get g with
  | none=>rw [hf] at h;cases h
  | some fn =>
   rw [hf] at h
   simp only at h
   split at h
   ·rename_i c hb hr
    split at h
    ·rename_i st pv2 hx
     cases h
     exact ⟨g,as,fn,c,_,st,hg,hf,hb,hr,hx,.inl rfl,rfl⟩
    ·rename_i st pv2 hx
     cases h
     exact ⟨g,as,fn,c,_,st,hg,hf,hb,hr,hx,.inr rfl,rfl⟩
    ·cases h
   ·cases h
 ·cases h
theorem vv {clo:Value} {hp:Hp} {pv:Option Value} {hp':Hp} {pv':Option Value} (h:kT T clo hp pv=some (hp',pv')):dL hp hp':=by
 obtain ⟨g,as,fn,c,x,st,_,_,_,_,hx,_,rfl⟩:=qh h
 exact vu _ _ _ _ hx
theorem mV {rs:List ResultVar} {p:kF × St × Value} {M:List fQ} (h:mj T rs p=some M) :
  ∃ pv hp vs,((pv=none∧(p.1=.e .normal∨p.1=.e .ret))∨∃ v,pv=some v∧p.1=.fG v)∧kT T p.2.2 p.2.1.hp pv=some (hp,none)∧fY T p.2.1.fr hp rs=some vs∧M=[.ret (bE vs) hp]:=by
 obtain ⟨x,s,clo⟩:=p
 unfold mj at h
 simp only at h
 split at h
 ·rename_i hp hx
  simp only [Option.map_eq_some_iff] at h
  obtain ⟨vs,h1,h2⟩:=h
  split at hx
  ·exact ⟨none,hp,vs,.inl ⟨rfl,.inl rfl⟩,hx,h1,h2.symm⟩
  ·exact ⟨none,hp,vs,.inl ⟨rfl,.inr rfl⟩,hx,h1,h2.symm⟩
  ·rename_i v
   exact ⟨some v,hp,vs,.inr ⟨v,rfl,rfl⟩,hx,h1,h2.symm⟩
  ·cases hx
 ·cases h
theorem nM (a b:Code) (st:St):pF T rec (.seq a b) st=match qO a with
 | some (l,x)=>match bL T rec (Eh a) l st with
  | some L=>aZ L fun s=>(cq T rec (gJ T rec 1000) b s).map fun M=>M.map fun p=>(p.1,p.2,aX s.fr x)
  | none=>none
 | none=>match bN T rec a st with
  | some L=>aZ L fun p=>match p.1 with
   | .normal=>pF T rec b p.2
   | _=>none
  | none=>none:=rfl
theorem xw (hr:aO rec):∀ (c:Code) (st:St) (L:List (kF × St × Value)),pF T rec c st=some L→Good st.hp (fun p=>p.2.1.hp) L:=by
 intro c
 induction c with
 | seq a b iha ihb =>
  intro st L h
  rw [nM] at h
  split at h
  ·rename_i l x hd
   split at h
   ·rename_i R hx
    refine Good.bind h (eA hr _ _ _ _ hx).1 fun s Mx hq=>?_
    simp only [Option.map_eq_some_iff] at hq
    obtain ⟨M,h1,rfl⟩:=hq
    exact (jc hr (jS hr 1000) _ _ _ h1).map fun _=>rfl
   ·cases h
  ·split at h
   ·rename_i R hx
    refine Good.bind h (iV hr _ _ _ hx) fun p Mx hq=>?_
    split at hq
    ·exact ihb _ _ hq
    ·cases hq
   ·cases h
 | _=>intro st L h;cases h
theorem sw {f:FuncId} {args:List Value} {hp:Hp} {L:List fQ} (h:pG T rec f args hp=some L) :
  ∃ fn c R,T.Ee.get f=some fn∧fn.body=some c∧pF T rec c ⟨setArgs .leaf 0 args,hp,false⟩=some R∧aZ R (mj T fn.results.toList)=some L:=by
 unfold pG at h
 cases hf:T.Ee.get f with
 | none=>rw [hf] at h;cases h
 | some fn =>
  rw [hf] at h
  simp only at h
  cases hb:fn.body with
  | none=>rw [hb] at h;cases h
  | some c =>
   rw [hb] at h
   simp only at h
   cases hx:pF T rec c ⟨setArgs .leaf 0 args,hp,false⟩ with
   | none=>rw [hx] at h;cases h
   | some R=>rw [hx] at h;exact ⟨fn,c,R,rfl,hb,hx,h⟩
theorem Eu (hr:aO rec) {f:FuncId} {args:List Value} {hp:Hp} {L:List fQ} (h:pG T rec f args hp=some L):Good hp fQ.hp L:=by
 obtain ⟨fn,c,R,_,_,hx,h⟩:=sw h
 refine Good.bind h (xw hr _ _ _ hx) fun p Mx hq=>?_
 obtain ⟨pv,hp',vs,_,hd,_,rfl⟩:=mV hq
 exact .one (vv hd)
theorem Ew (hr:aO rec):aO (jv T rec):=by
 intro j L h
 cases j with
 | call f args hp =>
  rcases pK h with ⟨fn,c,R,_,_,hx,h⟩|h
  ·refine Good.bind h (iV hr _ _ _ hx) fun p Mx hq=>?_
   obtain ⟨_,vs,_,rfl⟩:=oB hq
   exact .one (.refl _)
  ·exact Eu hr h
 | round l args hp =>
  obtain ⟨pend,fr,ps,as,bd,R,_,_,hx,h⟩:=nL h
  refine Good.bind h (iV hr _ _ _ hx) fun p Mx hq=>?_
  obtain ⟨_,pend',fr',ps',as',bd',R2,hgt,hy,hz⟩:=jQ hq
  have hk:=iV hr _ _ _ hy
  have hk':Good p.2.hp (fun q=>q.2.hp) R2:=⟨hk.1,fun r hr'=>(dL.put p.2.hp _ _ (by rw [hgt];simp) (fun _=>rfl)).trans (hk.2 r hr')⟩
  refine Good.bind hz hk' fun q My hw=>?_
  obtain ⟨_,_,_,_,_,_,hgt2,h1|h1|⟨_,h1⟩⟩:=mq hw <;> (obtain ⟨_,rfl⟩:=h1;exact .one (dL.put q.2.hp _ _ (by rw [hgt2];simp) (fun _=>rfl)))
 | loop c st =>
  obtain ⟨R,hx,h⟩:=pL h
  refine Good.bind h (iV hr _ _ _ hx) fun p Mx hq=>?_
  rcases mw hq with ⟨_,h1⟩|⟨_,rfl⟩
  ·exact hr _ _ h1
  ·exact .one (.refl _)
end
end Go.RM
