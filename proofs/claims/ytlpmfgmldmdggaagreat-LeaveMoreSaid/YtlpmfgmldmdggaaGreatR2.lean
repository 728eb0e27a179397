/-
  An abstract machine, and that its runs are the model's. Lemmas alone; no condition.
-/
import Derived.Test.YtlpmfgmldmdggaaGreatR1
namespace Go.RM
open Go.RowKit
section
variable {T : bG} {γ : Gm} {g : aN} {w : World} {n : Nat}
def nG (γ:Gm):Option Value→Option Value→Prop
 | none,none=>True
 | some a,some b=>VR γ a b
 | _,_=>False
theorem ni {P:Program} {lo hi lo' hi':Option Value} {l hv len c':Nat} (hl:dh 0 lo=some l) (hh:dh len hi=some hv) (c1:l≤hv) (c2:hv≤c')
  (rlo:nG γ lo lo') (rhi:nG γ hi hi'):(Instr.sliceBounds true len c' lo' hi' none).run P w=.ok (l,hv,c') w:=by
 have q1:((0:Int)≤(hv:Int)∧(hv:Int)≤(c':Int))=True:=eq_true (by omega);have q2:((0:Int)≤(l:Int)∧(l:Int)≤(hv:Int))=True:=eq_true (by omega)
 cases lo with
 | none =>
  cases lo' with
  | some _=>exact rlo.elim
  | none =>
   simp only [dh,qq9] at hl;subst hl
   cases hi with
   | none =>
    cases hi' with
    | some _=>exact rhi.elim
    | none =>simp only [dh,qq9] at hh;subst hh;simp [Instr.sliceBounds]
   | some a =>
    cases hi' with
    | none=>exact rhi.elim
    | some a' =>obtain ⟨kk,rfl⟩:=dM hh;obtain rfl:=VR.bK rhi rfl;simp only [Instr.sliceBounds,Instr.sliceBound,asIntOf,Sem.run_bind,Sem.run_pure,Result.andThen_ok,if_true,Int.toNat_natCast,q1]
 | some b =>
  cases lo' with
  | none=>exact rlo.elim
  | some b' =>
   obtain ⟨kk,rfl⟩:=dM hl;obtain rfl:=VR.bK rlo rfl
   cases hi with
   | none =>
    cases hi' with
    | some _=>exact rhi.elim
    | none =>simp only [dh,qq9] at hh;subst hh;simp only [Instr.sliceBounds,Instr.sliceBound,asIntOf,Sem.run_bind,Sem.run_pure,Result.andThen_ok,Option.isSome_none,Bool.false_eq_true,if_false,if_true,Int.toNat_natCast,q2]
   | some a =>
    cases hi' with
    | none=>exact rhi.elim
    | some a' =>obtain ⟨kk,rfl⟩:=dM hh;obtain rfl:=VR.bK rhi rfl;simp only [Instr.sliceBounds,Instr.sliceBound,asIntOf,Sem.run_bind,Sem.run_pure,Result.andThen_ok,Option.isSome_none,Bool.false_eq_true,if_false,if_true,Int.toNat_natCast,q1,q2]
theorem Ar (hT:bF T) (h:HR γ g w) {t:TypeId} {x x':Value} {lo hi lo' hi':Option Value} {v:Value}
  (ho:pW T t x lo hi=some v) (hx:VR γ x x') (rlo:nG γ lo lo') (rhi:nG γ hi hi') :
  aW T.P γ g w n (do Pure.pure (Next.value (←Instr.sliceAt t x' lo' hi' none))) v .none:=by
 unfold pW at ho
 cases he:elem? T t with
 | none=>rw [he] at ho;cases ho
 | some inf =>
  rw [he] at ho;simp only at ho;obtain ⟨el,i,hut,hii,hsz,_,_⟩:=iF hT he
  cases x with
  | slice base len cp =>
   simp only at ho
   cases hl:dh 0 lo with
   | none=>rw [hl] at ho;cases ho
   | some l =>
    cases hh:dh len hi with
    | none=>rw [hl,hh] at ho;cases ho
    | some hv =>
     rw [hl,hh] at ho;simp only at ho
     cases hcd:(Nat.ble l hv && Nat.ble hv len && Nat.ble 1 inf.size) with
     | false =>
      rw [hcd] at ho;simp only [cond_false] at ho;unfold Dn at ho;split at ho
      ·rename_i k o
       cases hce:(Nat.ble (l+1) hv && Nat.ble (len+3) cp && Nat.ble (hv+3) cp) with
       | false=>rw [hce] at ho;cases ho
       | true =>
        rw [hce] at ho;simp only [cond_true,qq9] at ho;subst ho;simp only [qq7] at hce;have c1:=Nat.le_of_ble_eq_true hce.1.1;have c2:=Nat.le_of_ble_eq_true hce.1.2;have c3:=Nat.le_of_ble_eq_true hce.2
        cases hx with
        | flat hf=>simp [bf] at hf
        | cL hne ht0 h20=>omega
        | slice hl' hn ht hlo' hk' =>
         rename_i b d c';have hk2:=hk' c2;have run:(Instr.sliceAt t (.slice (some ⟨b,d+o,none⟩) len c') lo' hi' none).run T.P w=.ok (.slice (if c'=l then some ⟨b,d+o,none⟩ else (some ⟨b,d+o,none⟩:Option Addr).map (·.add (l * inf.size))) (hv - l) (c' - l)) w:=by simp only [Instr.sliceAt,Instr.slice,Sem.run_bind,bT hut,Result.andThen_ok,ni hl hh (c':=c') (by omega) (by omega) rlo rhi,de hii,hsz,Sem.run_pure]
         refine .pure h (aV run) ?_;rw [if_neg (by omega),Option.map_some,Addr.add_lit,Nat.add_assoc d o];exact VR.slice hl' (by omega) (fun e=>by omega) (fun e=>by omega) (fun e=>by omega)
      ·cases ho
     | true =>
      rw [hcd] at ho;simp only [cond_true] at ho;simp only [qq7] at hcd;have c1:=Nat.le_of_ble_eq_true hcd.1.1;have c2:=Nat.le_of_ble_eq_true hcd.1.2;have bounds:∀ c',len≤c'→(Instr.sliceBounds true len c' lo' hi' none).run T.P w=.ok (l,hv,c') w:=fun c' hc'=>ni hl hh c1 (by omega) rlo rhi;have run:∀ (a':Option Addr) (c':Nat),len≤c'→(Instr.sliceAt t (.slice a' len c') lo' hi' none).run T.P w=.ok (.slice (if c'=l then a' else a'.map (·.add (l * inf.size))) (hv - l) (c' - l)) w:=by intro a' c' hc';simp only [Instr.sliceAt,Instr.slice,Sem.run_bind,bT hut,Result.andThen_ok,bounds c' hc',de hii,hsz,Sem.run_pure]
      cases base with
      | none =>
       simp only at ho
       cases hz:(Nat.beq len 0 && Nat.beq cp 0) with
       | false=>rw [hz] at ho;cases ho
       | true =>
        rw [hz] at ho;simp only [cond_true,qq9] at ho;subst ho;simp only [qq7] at hz;have z1:=Nat.eq_of_beq_eq_true hz.1;have z2:=Nat.eq_of_beq_eq_true hz.2;subst z1;subst z2;obtain rfl:=hx.bK rfl;have e1:hv=0:=by omega
        have e2:l=0:=by omega
        subst e1;subst e2;exact .pure h (aV (by rw [run none 0 (qq6 _)];simp)) (.flat rfl)
      | some ad =>
       obtain ⟨k,o,sp⟩:=ad
       cases sp with
       | some s=>cases ho
       | none =>
        simp only [qq9] at ho;subst ho
        have told:∀ c',len≤c'→(cp=len→c'=len)→(len+3≤cp→cp≤c'+3) →
          ((bif Nat.beq hv len && Nat.beq cp len then hv - l else bif Nat.beq hv len then hv - l+2 else (bif Nat.ble (len+3) cp then cp - l else hv - l+3+(len - hv)))=hv - l→c' - l=hv - l)∧(bif Nat.beq hv len && Nat.beq cp len then hv - l else bif Nat.beq hv len then hv - l+2 else (bif Nat.ble (len+3) cp then cp - l else hv - l+3+(len - hv))) ≠ hv - l+1 ∧
          (hv - l+3≤(bif Nat.beq hv len && Nat.beq cp len then hv - l else bif Nat.beq hv len then hv - l+2 else (bif Nat.ble (len+3) cp then cp - l else hv - l+3+(len - hv)))→(bif Nat.beq hv len && Nat.beq cp len then hv - l else bif Nat.beq hv len then hv - l+2 else (bif Nat.ble (len+3) cp then cp - l else hv - l+3+(len - hv)))≤c' - l+3) ∧
          (hv=len→(bif Nat.beq hv len && Nat.beq cp len then hv - l else bif Nat.beq hv len then hv - l+2 else (bif Nat.ble (len+3) cp then cp - l else hv - l+3+(len - hv)))≤hv - l+2):=by
         intro c' hc' ht hkk
         cases hb:(Nat.beq hv len && Nat.beq cp len) with
         | true =>simp only [qq7] at hb;have b1:=Nat.eq_of_beq_eq_true hb.1;have b2:=Nat.eq_of_beq_eq_true hb.2;have:=ht b2;simp only [cond_true];exact ⟨fun _=>by omega,by omega,fun _=>by omega,fun _=>by omega⟩
         | false =>
          simp only [cond_false]
          cases hb2:Nat.beq hv len with
          | true =>have b1:=Nat.eq_of_beq_eq_true hb2;simp only [cond_true];exact ⟨fun e=>by omega,by omega,fun e=>by omega,fun _=>by omega⟩
          | false =>
           have b1:hv ≠ len:=fun e=>by subst e;rw [Nat.beq_refl] at hb2;cases hb2
           simp only [cond_false]
           cases hb3:Nat.ble (len+3) cp with
           | true =>have b3:=Nat.le_of_ble_eq_true hb3;have b4:=hkk b3;simp only [cond_true];exact ⟨fun e=>by omega,by omega,fun e=>by omega,fun e=>absurd e b1⟩
           | false =>simp only [cond_false];exact ⟨fun e=>by omega,by omega,fun e=>by omega,fun e=>absurd e b1⟩
        cases hx with
        | flat hf=>simp [bf] at hf
        | cL hne ht0 h20 =>
         rename_i c' a';have e1:hv=0:=by omega
         have e2:l=0:=by omega
         subst e1;subst e2;have tl:=told c' (qq5 _) (fun e=>ht0 e) (fun e=>by omega);refine .pure h (aV (run (some a') c' (qq5 _))) ?_;have hsome:∃ a'',(if c'=0 then some a' else (some a').map (·.add (0 * inf.size)))=some a'':=by split <;> exact ⟨_,rfl⟩
         obtain ⟨a'',ha''⟩:=hsome;rw [ha''];exact VR.cL (fun e=>tl.2.1 (by simpa using e)) (fun e=>by have:=tl.1 (by simpa using e);simpa using this) (by have:=tl.2.2.2 rfl;simpa using this)
        | slice hl' hn ht hlo' hk' =>
         rename_i b d c';have tl:=told c' hn ht hk';refine .pure h (aV (run _ c' hn)) ?_;by_cases hcl:c'=l
         ·rw [if_pos hcl];have e1:hv - l=0:=by omega
          rw [e1] at tl ⊢;exact VR.cL (fun e=>tl.2.1 (by simpa using e)) (fun e=>by have:=tl.1 e;simpa using this) (by have:=tl.2.2.2 (by omega);simpa using this)
         ·rw [if_neg hcl,Option.map_some,Addr.add_lit,Nat.add_assoc d o];exact VR.slice hl' (by omega) tl.1 (fun e=>absurd e tl.2.1) tl.2.2.1
  | _=>cases ho
theorem uu {P:Program} {lo hi lo' hi':Option Value} {l hv len:Nat} (hl:dh 0 lo=some l) (hh:dh len hi=some hv) (c1:l≤hv) (c2:hv≤len)
  (rlo:nG γ lo lo') (rhi:nG γ hi hi'):(Instr.sliceBounds false len len lo' hi' none).run P w=.ok (l,hv,len) w:=by
 have q1:((0:Int)≤(hv:Int)∧(hv:Int)≤(len:Int))=True:=eq_true (by omega);have q2:((0:Int)≤(l:Int)∧(l:Int)≤(hv:Int))=True:=eq_true (by omega)
 cases lo with
 | none =>
  cases lo' with
  | some _=>exact rlo.elim
  | none =>
   simp only [dh,qq9] at hl;subst hl
   cases hi with
   | none =>
    cases hi' with
    | some _=>exact rhi.elim
    | none =>simp only [dh,qq9] at hh;subst hh;simp [Instr.sliceBounds]
   | some a =>
    cases hi' with
    | none=>exact rhi.elim
    | some a' =>obtain ⟨kk,rfl⟩:=dM hh;obtain rfl:=VR.bK rhi rfl;simp only [Instr.sliceBounds,Instr.sliceBound,asIntOf,Sem.run_bind,Sem.run_pure,Result.andThen_ok,Bool.false_eq_true,if_false,if_true,Int.toNat_natCast,q1]
 | some b =>
  cases lo' with
  | none=>exact rlo.elim
  | some b' =>
   obtain ⟨kk,rfl⟩:=dM hl;obtain rfl:=VR.bK rlo rfl
   cases hi with
   | none =>
    cases hi' with
    | some _=>exact rhi.elim
    | none =>simp only [dh,qq9] at hh;subst hh;simp only [Instr.sliceBounds,Instr.sliceBound,asIntOf,Sem.run_bind,Sem.run_pure,Result.andThen_ok,Option.isSome_none,Bool.false_eq_true,if_false,if_true,Int.toNat_natCast,q2]
   | some a =>
    cases hi' with
    | none=>exact rhi.elim
    | some a' =>obtain ⟨kk,rfl⟩:=dM hh;obtain rfl:=VR.bK rhi rfl;simp only [Instr.sliceBounds,Instr.sliceBound,asIntOf,Sem.run_bind,Sem.run_pure,Result.andThen_ok,Option.isSome_none,Bool.false_eq_true,if_false,if_true,Int.toNat_natCast,q1,q2]
theorem vg (hT:bF T) (h:HR γ g w) {t:TypeId} {x x':Value} {lo hi lo' hi':Option Value} {v:Value}
  (ho:ow T t x lo hi=some v) (hx:VR γ x x') (rlo:nG γ lo lo') (rhi:nG γ hi hi') :
  aW T.P γ g w n (do Pure.pure (Next.value (←Instr.sliceAt t x' lo' hi' none))) v .none:=by
 unfold ow at ho;split at ho
 ·rename_i len e _ _ _ _ _ cE hty;obtain ⟨i,hi0,_,_,_,hu,hes⟩:=hT.ty t _ hty
  cases hk:addr? x with
  | none=>rw [hk] at ho;cases ho
  | some ko =>
   obtain ⟨k,o⟩:=ko
   cases hl:dh 0 lo with
   | none=>rw [hk,hl] at ho;cases ho
   | some l =>
    cases hh:dh len hi with
    | none=>rw [hk,hl,hh] at ho;cases ho
    | some hv =>
     rw [hk,hl,hh] at ho;simp only at ho
     cases hcd:(Nat.ble l hv && Nat.ble hv len && Nat.ble 1 cE) with
     | false=>rw [hcd] at ho;cases ho
     | true =>
      rw [hcd] at ho;simp only [cond_true,qq9] at ho;subst ho;simp only [qq7] at hcd;have c1:=Nat.le_of_ble_eq_true hcd.1.1;have c2:=Nat.le_of_ble_eq_true hcd.1.2;obtain ⟨b,d,hl2,rfl⟩:=hx.addr hk;obtain ⟨_,j,hj,he'⟩:=hes;have he':j.size=cE:=he'.symm;have run:(Instr.sliceAt t (.pointer (some ⟨b,d+o,none⟩)) lo' hi' none).run T.P w=.ok (.slice (some (if len=l then ⟨b,d+o,none⟩ else Addr.add ⟨b,d+o,none⟩ (l * cE))) (hv - l) (len - l)) w:=by simp only [Instr.sliceAt,Instr.sureAddr,Sem.run_bind,bT hu,Result.andThen_ok,uu hl hh c1 c2 rlo rhi,de hj,he',Sem.run_pure]
      refine .pure h (aV run) ?_;by_cases hcl:len=l
      ·have e1:hv=len:=by omega
       subst hcl;subst e1;rw [if_pos rfl,Nat.sub_self];exact VR.cL (by rw [Nat.beq_refl];simp) (fun _=>rfl) (by rw [Nat.beq_refl];simp)
      ·rw [if_neg hcl,Addr.add_lit,Nat.add_assoc d o]
       cases hb:Nat.beq hv len with
       | true =>have:=Nat.eq_of_beq_eq_true hb;simp only [cond_true];exact VR.slice hl2 (by omega) (fun _=>by omega) (fun e=>by omega) (fun e=>by omega)
       | false =>simp only [cond_false];exact VR.slice hl2 (by omega) (fun e=>by omega) (fun e=>by omega) (fun e=>by omega)
 ·cases ho
theorem xd {P:Program} {lo lo':Option Value} {hi mx hi' mx':Value} {l hv mv len c':Nat} (hl:dh 0 lo=some l) (hh:jC hi=some hv) (hm:jC mx=some mv) (c1:l≤hv) (c2:hv≤mv) (hc':mv≤c')
  (rlo:nG γ lo lo') (rhi:VR γ hi hi') (rmx:VR γ mx mx'):(Instr.sliceBounds true len c' lo' (some hi') (some mx')).run P w=.ok (l,hv,mv) w:=by
 have q1:((0:Int)≤(mv:Int)∧(mv:Int)≤(c':Int))=True:=eq_true (by omega);have q3:((0:Int)≤(hv:Int)∧(hv:Int)≤(mv:Int))=True:=eq_true (by omega);have q2:((0:Int)≤(l:Int)∧(l:Int)≤(hv:Int))=True:=eq_true (by omega);obtain ⟨k1,rfl⟩:=dM hh;obtain rfl:=VR.bK rhi rfl;obtain ⟨k2,rfl⟩:=dM hm;obtain rfl:=VR.bK rmx rfl
 cases lo with
 | none =>
  cases lo' with
  | some _=>exact rlo.elim
  | none =>simp only [dh,qq9] at hl;subst hl;simp only [Instr.sliceBounds,Instr.sliceBound,asIntOf,Sem.run_bind,Sem.run_pure,Result.andThen_ok,if_true,Int.toNat_natCast,q1,q3]
 | some b =>
  cases lo' with
  | none=>exact rlo.elim
  | some b' =>obtain ⟨kk,rfl⟩:=dM hl;obtain rfl:=VR.bK rlo rfl;simp only [Instr.sliceBounds,Instr.sliceBound,asIntOf,Sem.run_bind,Sem.run_pure,Result.andThen_ok,Option.isSome_some,if_true,Int.toNat_natCast,q1,q2,q3]
theorem yU (hT:bF T) (h:HR γ g w) {t:TypeId} {x x':Value} {lo lo':Option Value} {hi mx hi' mx' v:Value}
  (ho:jF T t x lo hi mx=some v) (hx:VR γ x x') (rlo:nG γ lo lo') (rhi:VR γ hi hi') (rmx:VR γ mx mx') :
  aW T.P γ g w n (do Pure.pure (Next.value (←Instr.sliceAt t x' lo' (some hi') (some mx')))) v .none:=by
 unfold jF at ho
 cases he:elem? T t with
 | none=>rw [he] at ho;cases ho
 | some inf =>
  rw [he] at ho;simp only at ho;obtain ⟨el,i,hut,hii,hsz,_,_⟩:=iF hT he
  cases x with
  | slice base len cp =>
   simp only at ho
   cases hl:dh 0 lo with
   | none=>rw [hl] at ho;cases ho
   | some l =>
    cases hh:jC hi with
    | none=>rw [hl,hh] at ho;cases ho
    | some hv =>
     cases hm:jC mx with
     | none=>rw [hl,hh,hm] at ho;cases ho
     | some m =>
      rw [hl,hh,hm] at ho;simp only at ho
      cases hcd:(Nat.ble l hv && Nat.ble hv m && Nat.ble m len && Nat.ble 1 inf.size) with
      | false=>rw [hcd] at ho;cases ho
      | true =>
       rw [hcd] at ho;simp only [cond_true] at ho;simp only [qq7] at hcd;have c1:=Nat.le_of_ble_eq_true hcd.1.1.1;have c2:=Nat.le_of_ble_eq_true hcd.1.1.2;have c3:=Nat.le_of_ble_eq_true hcd.1.2;have run:∀ (a':Option Addr) (c':Nat),len≤c'→(Instr.sliceAt t (.slice a' len c') lo' (some hi') (some mx')).run T.P w=.ok (.slice (if m=l then a' else a'.map (·.add (l * inf.size))) (hv - l) (m - l)) w:=by intro a' c' hc';simp only [Instr.sliceAt,Instr.slice,Sem.run_bind,bT hut,Result.andThen_ok,xd hl hh hm c1 c2 (Nat.le_trans c3 hc') rlo rhi rmx,de hii,hsz,Sem.run_pure]
       cases base with
       | none =>
        simp only at ho
        cases hz:(Nat.beq len 0 && Nat.beq cp 0) with
        | false=>rw [hz] at ho;cases ho
        | true =>
         rw [hz] at ho;simp only [cond_true,qq9] at ho;subst ho;simp only [qq7] at hz;have z1:=Nat.eq_of_beq_eq_true hz.1;have z2:=Nat.eq_of_beq_eq_true hz.2;subst z1;subst z2;obtain rfl:=hx.bK rfl;have e0:m=0:=by omega
         have e1:hv=0:=by omega
         have e2:l=0:=by omega
         subst e0;subst e1;subst e2;exact .pure h (aV (by rw [run none 0 (qq6 _)];simp)) (.flat rfl)
       | some ad =>
        obtain ⟨k,o,sp⟩:=ad
        cases sp with
        | some s=>cases ho
        | none =>
         simp only [qq9] at ho;subst ho
         cases hx with
         | flat hf=>simp [bf] at hf
         | cL hne ht0 h20 =>
          rename_i c' a';have e0:m=0:=by omega
          have e1:hv=0:=by omega
          have e2:l=0:=by omega
          subst e0;subst e1;subst e2;refine .pure h (aV (run (some a') c' (qq5 _))) ?_;rw [if_pos rfl];exact VR.cL (by simp) (fun _=>rfl) (by simp)
         | slice hl' hn ht hlo' hk' =>
          rename_i b d c';refine .pure h (aV (run _ c' hn)) ?_;by_cases hcl:m=l
          ·obtain rfl:hv=m:=by omega
           subst hcl;rw [if_pos rfl,Nat.sub_self];exact VR.cL (by simp) (fun _=>rfl) (by simp)
          ·rw [if_neg hcl,Option.map_some,Addr.add_lit,Nat.add_assoc d o]
           cases hb:Nat.beq hv m with
           | true =>have:=Nat.eq_of_beq_eq_true hb;simp only [cond_true];exact VR.slice hl' (by omega) (fun _=>by omega) (fun e=>by omega) (fun e=>by omega)
           | false =>simp only [cond_false];exact VR.slice hl' (by omega) (fun e=>by omega) (fun e=>by omega) (fun e=>by omega)
  | _=>cases ho
theorem xe (hT:bF T) (h:HR γ g w) {t:TypeId} {x x' v:Value} {e:bX} (hn:e.news=true→γ.loc n=none) (ho:rY T n t x g=some (v,e)) (hx:VR γ x x') :
  aW T.P γ g w n (do Pure.pure (Next.value (←Instr.range t x'))) v e:=by
 unfold rY at ho;split at ho
 ·rename_i kt et _ _ _ _ _ _ m hty
  cases hm:map? (g m) with
  | none=>rw [hm] at ho;cases ho
  | some p =>
   obtain ⟨es,clock⟩:=p;rw [hm] at ho;simp only [qq9,Prod.mk.injEq] at ho;obtain ⟨rfl,rfl⟩:=ho;obtain ⟨i,_,_,_,_,hu,_⟩:=hT.ty t _ hty
   have hgr:g m=some (.map es clock):=by
    unfold map? at hm;split at hm
    ·simp at hm;obtain ⟨rfl,rfl⟩:=hm;assumption
    ·cases hm
   cases hx with
   | flat hf=>simp [bf] at hf
   | map hl =>
    rename_i b;obtain ⟨_,_,es',hw,_⟩:=h.gu m b 0 _ hgr hl;have hle:=Gm.mj (b:=w.heap.size) (c:=0) (hn rfl)
    have hrun:(Instr.range t (.map (some b))).run T.P w=.ok (.pointer (some ⟨w.heap.size,0,none⟩)) (w.alloc (.mapIter (some b) clock #[] clock)):=by
     have hgo:(getObj b).run T.P w=.ok (.map es' clock) w:=by simp [getObj,Sem.run,hw]
     simp [Instr.range,bT hu,hgo]
    refine ⟨_,_,γ.add n w.heap.size 0,.inl (aV hrun),hle,fun k hk=>Gm.bO _ _ _ (fun e=>Bool.noConfusion (hk e:true=false)),?_,VR.ptr (o:=0) (Gm.cq _ _ _ _),jE.new (obj:=_) rfl rfl rfl rfl⟩;refine HR.new (w:=w) h (hn rfl) (obj:=_) rfl ⟨rfl,h.base,b,hle.loc _ _ hl,?_⟩;show (w.heap.push _)[w.heap.size]?=_;simp
 ·rename_i s hty;simp only [qq9,Prod.mk.injEq] at ho;obtain ⟨rfl,rfl⟩:=ho;obtain ⟨i,_,_,_,_,hu,_⟩:=hT.ty t _ hty;obtain rfl:=hx.bK rfl;have hle:=Gm.mj (b:=w.heap.size) (c:=0) (hn rfl);have hrun:(Instr.range t (.string s)).run T.P w=.ok (.pointer (some ⟨w.heap.size,0,none⟩)) (w.alloc (.stringIter s 0)):=by simp [Instr.range,bT hu]
  refine ⟨_,_,γ.add n w.heap.size 0,.inl (aV hrun),hle,fun k hk=>Gm.bO _ _ _ (fun e=>Bool.noConfusion (hk e:true=false)),?_,VR.ptr (o:=0) (Gm.cq _ _ _ _),jE.new (obj:=_) rfl rfl rfl rfl⟩;refine HR.new (w:=w) h (hn rfl) (obj:=_) rfl ⟨rfl,h.base,?_⟩;show (w.heap.push _)[w.heap.size]?=_;simp
 ·cases ho
theorem yV {k b:Nat} {a0 a:bx} {obj0 obj:Obj} (h:HR γ g w) (h0:g k=some a0) (ho:a0.own=true) (hl:γ.loc k=some (b,0)) (hw:w.heap[b]?=some obj0)
  (hown:a.own=true) (ha:Al γ (w.heap.setIfInBounds b obj) k b 0 a) :
  HR γ (fZ g k a) {w with heap:=w.heap.setIfInBounds b obj}∧jE γ g w γ (fZ g k a) {w with heap:=w.heap.setIfInBounds b obj}∧(w.heap.setIfInBounds b obj)[b]?=some obj:=by
 have hlt:b < w.heap.size:=(Array.getElem?_eq_some_iff.1 hw).1;have hsz:(w.heap.setIfInBounds b obj).size=w.heap.size:=by simp
 have hne:∀ i,i ≠ b→(w.heap.setIfInBounds b obj)[i]?=w.heap[i]?:=fun i hi=>Array.getElem?_setIfInBounds_ne (Ne.symm hi);exact ⟨h.put h0 ho hl hsz hne (.inl hown) ha,jE.put h0 ho hl rfl rfl rfl hsz hne,by simp [hlt]⟩
theorem xg (h:HR γ g w) {x x' v:Value} {e:bX} {ty:TypeId} (ho:jW x g=some (v,e)) (hx:VR γ x x') :
  aW T.P γ g w n (do Pure.pure (Next.value (←Instr.next x' true ty))) v e:=by
 unfold jW at ho;split at ho
 ·rename_i r hk
  cases hg:g r with
  | none=>rw [hg] at ho;cases ho
  | some gu =>
   rw [hg] at ho
   cases gu with
   | dI s pos =>
    simp only at ho;obtain ⟨b,d,hl,rfl⟩:=hx.addr hk;obtain ⟨rfl,hB,hw⟩:=h.gu r b d _ hg hl;have hgo:(getObj b).run T.P w=.ok (.stringIter s pos) w:=by simp [getObj,Sem.run,hw]
    cases hc:Nat.blt pos s.data.toList.length with
    | true =>
     rw [hc] at ho;simp only [cond_true,qq9,Prod.mk.injEq] at ho;obtain ⟨rfl,rfl⟩:=ho;have hlt:pos < s.size:=Nat.le_of_ble_eq_true hc;have hset:(setObj b (.stringIter s (pos+(Utf8.decode s pos).2))).run T.P w=.ok () {w with heap:=w.heap.setIfInBounds b (.stringIter s (pos+(Utf8.decode s pos).2))}:=by simp [setObj,Sem.run,hw]
     obtain ⟨q1,q2,q3⟩:=yV (a:=.dI s (pos+(Utf8.decode s pos).2)) (obj:=.stringIter s (pos+(Utf8.decode s pos).2)) h hg rfl hl hw rfl ⟨rfl,hB,by simp [(Array.getElem?_eq_some_iff.1 hw).1]⟩;refine ⟨.tuple #[.bool true,.int .i64 pos,.int .i32 (Utf8.decode s pos).1],_,γ,.inl (aV ?_),Gm.Le.refl γ,fun _ _=>rfl,q1,?_,q2⟩
     ·simp [Instr.next,hgo,hlt,hset,goInt]
     ·exact VR.cA (l:=[.bool true,.int .i64 pos,.int .i32 (Utf8.decode s pos).1]) (bW.of_flat rfl)
    | false =>
     rw [hc] at ho;simp only [cond_false,qq9,Prod.mk.injEq] at ho;obtain ⟨rfl,rfl⟩:=ho;have hlt:¬ (pos < s.size):=fun e=>by have:Nat.blt pos s.data.toList.length=true:=Nat.ble_eq_true_of_le e;rw [this] at hc;cases hc
     refine .pure h (aV (v:=.tuple #[.bool false]) ?_) (VR.cA (l:=[.bool false]) (bW.of_flat rfl));simp [Instr.next,hgo,hlt]
   | _=>cases ho
 ·cases ho
end
end Go.RM
namespace Go.RM
open Go.RowKit
section
variable {T : bG} {γ : Gm} {g : aN} {w : World} {n : Nat}
theorem qD (P:Program) {α β:Type} (x:Sem α) (f:α→Sem β):aP P (x >>= f)=(aP P x).bind fun a=>aP P (f a):=by
 show aP P (x.bind f)=_
 induction x with
 | pure a=>rfl
 | program k ih=>simp only [Sem.bind,aP];exact ih P
 | mark m k ih=>simp only [Sem.bind,aP];exact ih
 | _=>rfl
theorem mz (P:Program) {α:Type} (a:α):aP P (Pure.pure a)=some a:=rfl
def SameKeys (l l':List MapEntry):Prop:=l.map (·.key)=l'.map (·.key)
theorem SameKeys.At {e e':MapEntry} {l l':List MapEntry} (h:SameKeys (e :: l) (e' :: l')):e.key=e'.key∧SameKeys l l':=by simpa [SameKeys] using h
theorem qE (kind:TypeDesc) (k:Value):∀ (l l':List MapEntry) (i:Nat),SameKeys l l' →
  match Instr.findNow kind k l i with
  | none=>Instr.findNow kind k l' i=none
  | some none=>Instr.findNow kind k l' i=some none
  | some (some (j,_))=>∃ e,i≤j∧l'[j - i]?=some e∧Instr.findNow kind k l' i=some (some (j,e.val))
 | [],[],_,_=>rfl
 | [],_ :: _,_,h=>by simp [SameKeys] at h
 | _ :: _,[],_,h=>by simp [SameKeys] at h
 | e :: l,e' :: l',i,h=>by
  obtain ⟨h1,h2⟩:=h.At;simp only [Instr.findNow,←h1]
  cases hs:Instr.sameNow kind k e.key with
  | none=>rfl
  | some b =>
   cases b with
   | true=>exact ⟨e',qq6 _,by simp,rfl⟩
   | false =>
    have ih:=qE kind k l l' (i+1) h2;simp only
    cases hf:Instr.findNow kind k l (i+1) with
    | none=>rw [hf] at ih;exact ih
    | some r =>
     rw [hf] at ih
     cases r with
     | none=>exact ih
     | some p =>obtain ⟨j,v⟩:=p;obtain ⟨x,a,b,c⟩:=ih;refine ⟨x,by omega,?_,c⟩;rw [show j - i=(j - (i+1))+1 from by omega];simpa using b
theorem nj (P:Program) (kt:TypeId) (k:Value):∀ (l l':List MapEntry) (i:Nat) (r:Option (Nat × Value)),SameKeys l l'→aP P (Instr.findAsking kt k l i)=some r →
  match r with
  | none=>aP P (Instr.findAsking kt k l' i)=some none
  | some (j,_)=>∃ e,i≤j∧l'[j - i]?=some e∧aP P (Instr.findAsking kt k l' i)=some (some (j,e.val))
 | [],[],_,r,_,h=>by simp only [Instr.findAsking,mz,qq9] at h;subst h;rfl
 | [],_ :: _,_,_,h,_=>by simp [SameKeys] at h
 | _ :: _,[],_,_,h,_=>by simp [SameKeys] at h
 | e :: l,e' :: l',i,r,hk,h=>by
  obtain ⟨h1,h2⟩:=hk.At;simp only [Instr.findAsking,qD,h1] at h ⊢
  cases hq:aP P (Op.equal kt k e'.key) with
  | none=>rw [hq] at h;cases h
  | some b =>
   rw [hq] at h;simp only [Option.bind_some] at h ⊢
   cases b with
   | true =>simp only [if_true,mz,qq9] at h ⊢;subst h;exact ⟨e',qq6 _,by simp,rfl⟩
   | false =>
    simp only [Bool.false_eq_true,if_false] at h ⊢;have ih:=nj P kt k l l' (i+1) r h2 h
    cases r with
    | none=>exact ih
    | some p =>obtain ⟨j,v⟩:=p;obtain ⟨x,a,b,c⟩:=ih;refine ⟨x,by omega,?_,c⟩;rw [show j - i=(j - (i+1))+1 from by omega];simpa using b
theorem yW {P:Program} {kt:TypeId} {k:Value} {l l':List MapEntry} {r:Option (Nat × Value)} (hk:SameKeys l l') (h:aP P (Instr.findKey kt k l)=some r) :
  match r with
  | none=>aP P (Instr.findKey kt k l')=some none
  | some (j,_)=>∃ e,l'[j]?=some e∧aP P (Instr.findKey kt k l')=some (some (j,e.val)):=by
 unfold Instr.findKey at h ⊢;simp only [qD] at h ⊢
 cases hu:aP P (underlying kt) with
 | none=>rw [hu] at h;cases h
 | some d =>
  rw [hu] at h;simp only [Option.bind_some] at h ⊢;have hs:=qE d k l l' 0 hk
  cases hf:Instr.findNow d k l 0 with
  | none =>
   rw [hf] at h hs;simp only at h hs;simp only [hs];have:=nj P kt k l l' 0 r hk h
   cases r with
   | none=>exact this
   | some p=>obtain ⟨j,v⟩:=p;obtain ⟨e,_,b,c⟩:=this;exact ⟨e,by simpa using b,c⟩
  | some q =>
   rw [hf] at h hs;simp only [mz,qq9] at h;subst h
   cases q with
   | none=>simp only at hs ⊢;rw [hs];rfl
   | some p =>obtain ⟨j,v⟩:=p;obtain ⟨e,_,b,c⟩:=hs;exact ⟨e,by simpa using b,by rw [c];rfl⟩
theorem jo.keys {es:List MapEntry} {es':Array MapEntry} (h:jo γ es es') (hf:es.all (fun e=>flat e.key)=true):SameKeys (es.map fun e=>{e with val:=.nilIface}) es'.toList:=by
 unfold SameKeys;rw [List.map_map];apply List.ext_getElem?;intro i;rw [List.getElem?_map,List.getElem?_map]
 cases he:es[i]? with
 | none =>
  have:es'.toList[i]?=none:=by rw [List.getElem?_eq_none_iff] at he ⊢;have:=h.1;simp;omega
  rw [this];rfl
 | some e =>
  have hi:i < es.length:=(List.getElem?_eq_some_iff.1 he).1;have hi':i < es'.size:=by have:=h.1;omega
  have he':es'.toList[i]?=some es'[i]:=by simp [hi']
  rw [he'];obtain ⟨h1,_,_⟩:=h.2 i e es'[i] he (by simp);have:=h1.cy (List.all_eq_true.1 hf e (List.mem_of_getElem? he));simp [this]
theorem sk {P:Program} {emp:Bool} {kt:TypeId} {k k':Value} {es:List MapEntry} {es':Array MapEntry} {r:Option Nat} (h:ny P emp kt k es=some r) (he:jo γ es es') (hk:VR γ k k') :
  k'=k∧(∀ w:World,(Instr.checkKey emp 10000 kt k).run P w=.ok () w) ∧
  match r with
  | none=>∀ w:World,(Instr.findKey kt k es'.toList).run P w=.ok none w
  | some i=>∃ e e',es[i]?=some e∧es'[i]?=some e'∧VR γ e.val e'.val∧e'.key=e.key∧flat e.key=true∧e.born=e'.born∧∀ w:World,(Instr.findKey kt k es'.toList).run P w=.ok (some (i,e'.val)) w:=by
 unfold ny at h
 cases hc:(flat k && es.all fun e=>flat e.key) with
 | false=>rw [hc] at h;cases h
 | true =>
  rw [hc] at h;simp only [cond_true] at h;simp only [qq7] at hc;have hke:=hk.cy hc.1
  cases hck:aP P (Instr.checkKey emp 10000 kt k) with
  | none=>rw [hck] at h;cases h
  | some u =>
   rw [hck] at h;simp only [Option.map_eq_some_iff] at h;obtain ⟨q,hq,rfl⟩:=h;refine ⟨hke,fun w=>fy P hck w,?_⟩;have hs:=yW (he.keys hc.2) hq
   cases q with
   | none=>exact fun w=>fy P hs w
   | some p =>
    obtain ⟨j,v⟩:=p;obtain ⟨e',a,b⟩:=hs;have hj':es'[j]?=some e':=by simpa using a
    have hjl:j < es.length:=by have:=(Array.getElem?_eq_some_iff.1 hj').1;have:=he.1;omega
    have hj:es[j]?=some es[j]:=List.getElem?_eq_getElem hjl;obtain ⟨x,y,z⟩:=he.2 j _ _ hj hj';have hfk:=List.all_eq_true.1 hc.2 _ (List.getElem_mem hjl);exact ⟨es[j],e',hj,hj',y,x.cy hfk,hfk,z,fun w=>fy P b w⟩
theorem jo.empty {es:List MapEntry} {es':Array MapEntry} (h:jo γ es es'):es'.isEmpty=es.isEmpty:=by
 have:=h.1
 cases hx:es'.isEmpty with
 | true =>
  have hz:es'=#[]:=by simpa using hx
  subst hz
  cases es with
  | nil=>rfl
  | cons a l=>simp at this
 | false =>
  cases es with
  | nil =>have hz:es'=#[]:=Array.eq_empty_of_size_eq_zero this.symm;subst hz;simp at hx
  | cons a l=>rfl
theorem map_some {a:Option bx} {es:List MapEntry} {c:Nat} (h:map? a=some (es,c)):a=some (.map es c):=by
 unfold map? at h;split at h
 ·simp at h;obtain ⟨rfl,rfl⟩:=h;rfl
 ·cases h
theorem pZ (hT:bF T) {t kt:TypeId} {z:Option Value} (h:jU T t=some (kt,z)) :
  ∃ et,T.P.underlying t=some (.map kt et)∧∀ v,z=some v→∃ i,T.P.info? et=some i∧i.zero=some v:=by
 unfold jU at h;split at h
 ·rename_i k e _ _ _ _ _ _ hty;simp only [qq9,Prod.mk.injEq] at h;obtain ⟨rfl,rfl⟩:=h;obtain ⟨i,_,_,_,_,hu,_⟩:=hT.ty t _ hty;refine ⟨e,hu,fun v hv=>?_⟩
  cases he:T.ty.get e with
  | none=>rw [he] at hv;cases hv
  | some r =>rw [he] at hv;obtain ⟨i',h1,_,_,h4,_⟩:=hT.ty e r he;exact ⟨i',h1,h4.trans hv⟩
 ·cases h
theorem vh {v:Value} {r:Nat} (h:gE v=some r):v=.map (some r):=by
 unfold gE at h;split at h
 ·simp at h;subst h;rfl
 ·cases h
theorem dN (h:HR γ g w) {m m':Value} {r:Nat} {es:List MapEntry} {c:Nat} (hb:gE m=some r) (hm:map? (g r)=some (es,c)) (hv:VR γ m m') :
  ∃ b es',m'=.map (some b)∧γ.loc r=some (b,0)∧γ.B≤b∧w.heap[b]?=some (.map es' c)∧jo γ es es'∧(∀ P:Program,(getObj b).run P w=.ok (.map es' c) w):=by
 obtain rfl:=vh hb
 cases hv with
 | flat hf=>simp [bf] at hf
 | map hl =>rename_i b;obtain ⟨_,hB,es',hw,he⟩:=h.gu r b 0 _ (map_some hm) hl;exact ⟨b,es',rfl,hl,hB,hw,he,fun P=>by simp [getObj,Sem.run,hw]⟩
theorem yX (hT:bF T) (h:HR γ g w) {t:TypeId} {m m' k k' v:Value} {ok:Bool} (ho:kK T t m k ok g=some v) (hm:VR γ m m') (hk:VR γ k k') :
  aW T.P γ g w n (do Pure.pure (Next.value (←Instr.lookup t m' k' ok))) v .none:=by
 unfold kK at ho
 cases hmt:jU T t with
 | none=>rw [hmt] at ho;cases ho
 | some p =>
  obtain ⟨kt,z⟩:=p
  cases hb:gE m with
  | none=>rw [hmt,hb] at ho;cases ho
  | some r =>
   cases hmp:map? (g r) with
   | none=>rw [hmt,hb] at ho;simp only [Option.bind_some,hmp] at ho;cases ho
   | some q =>
    obtain ⟨es,c⟩:=q;rw [hmt,hb] at ho;simp only [Option.bind_some,hmp] at ho;obtain ⟨b,es',rfl,hl,hB,hw,he,hgo⟩:=dN h hb hmp hm;obtain ⟨et,hu,hz⟩:=pZ hT hmt;unfold yK at ho
    cases hf:ny T.P es.isEmpty kt k es with
    | none=>rw [hf] at ho;simp at ho
    | some r' =>
     obtain ⟨rfl,hck,hfk⟩:=sk hf he hk;rw [←he.empty] at hck
     cases r' with
     | some i =>
      obtain ⟨e,e',he1,he2,hvv,_,_,_,hrun⟩:=hfk
      cases z with
      | none=>rw [hf] at ho;simp at ho
      | some zv =>
       rw [hf] at ho;simp only [he1,Option.map_some,qq9] at ho;subst ho;refine .pure h (aV (v:=bif ok then .tuple #[e'.val,.bool true] else e'.val) ?_) ?_
       ·cases ok <;> simp [Instr.lookup,bT hu,hgo,hck,hrun]
       ·cases ok with
        | false=>exact hvv
        | true=>exact VR.cA (.cons hvv (.cons (.flat rfl) (.nil γ)))
     | none =>
      cases z with
      | none=>rw [hf] at ho;simp at ho
      | some zv =>
       rw [hf] at ho;simp only at ho;obtain ⟨ie,hi1,hi2⟩:=hz zv rfl
       cases hfl:flat zv with
       | false=>rw [hfl] at ho;cases ho
       | true =>
        rw [hfl] at ho;simp only [cond_true,qq9] at ho;subst ho;refine .pure h (aV (v:=bif ok then .tuple #[zv,.bool false] else zv) ?_) ?_
        ·cases ok <;> simp [Instr.lookup,bT hu,hgo,hck,hfk,i7 hi1 hi2]
        ·cases ok with
         | false=>exact VR.of_flat hfl
         | true=>exact VR.cA (.cons (VR.of_flat hfl) (.cons (.flat rfl) (.nil γ)))
theorem jo.modify {es:List MapEntry} {es':Array MapEntry} (h:jo γ es es') (i:Nat) (f f':MapEntry→MapEntry)
  (hf:∀ e e',es[i]?=some e→es'[i]?=some e'→VR γ (f e).key (f' e').key∧VR γ (f e).val (f' e').val∧(f e).born=(f' e').born):jo γ (es.modify i f) (es'.modify i f'):=by
 refine ⟨by simp [h.1],fun j a b ha hb=>?_⟩;rw [List.getElem?_modify] at ha;rw [Array.getElem?_modify] at hb;by_cases hij:i=j
 ·subst hij;simp only [if_true] at ha hb;obtain ⟨e,h1,rfl⟩:=Option.map_eq_some_iff.1 ha;obtain ⟨e',h2,rfl⟩:=Option.map_eq_some_iff.1 hb;exact hf e e' h1 h2
 ·simp only [hij,if_false] at ha hb;have ha':es[j]?=some a:=by cases hx:es[j]? <;> simp_all
  exact h.2 j a b ha' hb
theorem jo.push {es:List MapEntry} {es':Array MapEntry} (h:jo γ es es') {e e':MapEntry} (he:VR γ e.key e'.key∧VR γ e.val e'.val∧e.born=e'.born):jo γ (es++[e]) (es'.push e'):=by
 refine ⟨by simp [h.1],fun j a b ha hb=>?_⟩;by_cases hj:j < es.length
 ·rw [List.getElem?_append_left hj] at ha;rw [Array.getElem?_push,if_neg (by have:=h.1;omega)] at hb;exact h.2 j a b ha hb
 ·rw [List.getElem?_append_right (by omega)] at ha;have hj2:j - es.length=0:=by have:=(List.getElem?_eq_some_iff.1 ha).1;simp at this;omega
  rw [hj2] at ha;simp at ha;subst ha;rw [Array.getElem?_push,if_pos (by have:=h.1;omega)] at hb;cases hb;exact he
theorem oz (h:HR γ g w) {r b:Nat} {es es2:List MapEntry} {c c2:Nat} {es' es2':Array MapEntry} (hm:map? (g r)=some (es,c)) (hl:γ.loc r=some (b,0)) (hB:γ.B≤b)
  (hw:w.heap[b]?=some (.map es' c)) (he:jo γ es2 es2') :
  HR γ (fZ g r (.map es2 c2)) {w with heap:=w.heap.setIfInBounds b (.map es2' c2)}∧jE γ g w γ (fZ g r (.map es2 c2)) {w with heap:=w.heap.setIfInBounds b (.map es2' c2)} ∧
   (∀ P:Program,(setObj b (.map es2' c2)).run P w=.ok () {w with heap:=w.heap.setIfInBounds b (.map es2' c2)}):=by
 have hlt:b < w.heap.size:=(Array.getElem?_eq_some_iff.1 hw).1;obtain ⟨q1,q2,_⟩:=yV (a:=.map es2 c2) (obj:=.map es2' c2) h (map_some hm) rfl hl hw rfl ⟨rfl,hB,es2',by simp [hlt],he⟩;exact ⟨q1,q2,fun P=>by simp [setObj,Sem.run,hw]⟩
theorem vi (hT:bF T) (h:HR γ g w) {t:TypeId} {m m' k k' v:Value} {e:bX} (ho:eo T t m k g=some (v,e)) (hm:VR γ m m') (hk:VR γ k k') :
  aW T.P γ g w n (do Pure.pure (Next.value (←Instr.mapEntry t m' k'))) v e:=by
 unfold eo at ho
 cases hmt:jU T t with
 | none=>rw [hmt] at ho;cases ho
 | some p =>
  obtain ⟨kt,z⟩:=p
  cases hb:gE m with
  | none=>rw [hmt,hb] at ho;cases ho
  | some r =>
   cases hmp:map? (g r) with
   | none=>rw [hmt,hb] at ho;simp only [hmp] at ho;cases ho
   | some q =>
    obtain ⟨es,c⟩:=q;rw [hmt,hb] at ho;simp only [hmp] at ho;obtain ⟨b,es',rfl,hl,hB,hw,he,hgo⟩:=dN h hb hmp hm;obtain ⟨et,hu,hz⟩:=pZ hT hmt;unfold lI at ho
    cases hf:ny T.P false kt k es with
    | none=>rw [hf] at ho;simp at ho
    | some r' =>
     obtain ⟨rfl,hck,hfk⟩:=sk hf he hk
     have hflk:flat k'=true:=by
      unfold ny at hf
      cases hc:(flat k' && es.all fun e=>flat e.key) with
      | false=>rw [hc] at hf;cases hf
      | true=>simp only [qq7] at hc;exact hc.1
     cases r' with
     | some i =>
      obtain ⟨x,x',he1,he2,hvv,hkk,hkf,hborn,hrun⟩:=hfk;rw [hf] at ho;simp only [he1] at ho
      cases hsb:Instr.sameBits 10000 x.key k' with
      | false=>rw [hsb] at ho;cases ho
      | true =>
       rw [hsb] at ho;simp only [cond_true,qq9,Prod.mk.injEq] at ho;obtain ⟨rfl,rfl⟩:=ho
       have hmod:jo γ (es.modify i fun e=>{e with key:=k'}) (es'.modify i fun e=>{e with key:=k'}) :=
        he.modify i _ _ fun a a' h1 h2=>by obtain ⟨_,y,zz⟩:=he.2 i a a' h1 h2;exact ⟨VR.of_flat hflk,y,zz⟩
       obtain ⟨q1,q2,q3⟩:=oz (c2:=c) h hmp hl hB hw hmod;refine ⟨.tuple #[x'.val,.int .i64 x'.born],_,γ,.inl (aV ?_),Gm.Le.refl γ,fun _ _=>rfl,q1,?_,q2⟩
       ·have hstay:(Instr.keyThatStays x'.key k').run T.P w=.ok k' w:=by simp [Instr.keyThatStays,hkk,hsb]
        simp [Instr.mapEntry,bT hu,hgo,hck,hrun,he2,hstay,q3,goInt]
       ·rw [←hborn];exact VR.cA (.cons hvv (.cons (.flat rfl) (.nil γ)))
     | none =>
      cases z with
      | none=>rw [hf] at ho;simp at ho
      | some zv =>
       rw [hf] at ho;simp only at ho;obtain ⟨ie,hi1,hi2⟩:=hz zv rfl
       cases hfl:flat zv with
       | false=>rw [hfl] at ho;cases ho
       | true =>rw [hfl] at ho;simp only [cond_true,qq9,Prod.mk.injEq] at ho;obtain ⟨rfl,rfl⟩:=ho;have hpush:jo γ (es++[{key:=k',val:=zv,born:=c}]) (es'.push {key:=k',val:=zv,born:=c}):=he.push ⟨VR.of_flat hflk,VR.of_flat hfl,rfl⟩;obtain ⟨q1,q2,q3⟩:=oz (c2:=c+1) h hmp hl hB hw hpush;refine ⟨.tuple #[zv,.int .i64 c],_,γ,.inl (aV ?_),Gm.Le.refl γ,fun _ _=>rfl,q1,VR.cA (.cons (VR.of_flat hfl) (.cons (.flat rfl) (.nil γ))),q2⟩;simp [Instr.mapEntry,bT hu,hgo,hck,hfk,i7 hi1 hi2,q3,goInt]
end
end Go.RM
namespace Go.RM
open Go.RowKit
section
variable {T : bG} {γ : Gm} {g : aN} {w : World} {n : Nat}
def fj (γ:Gm):List MapEntry→List MapEntry→Prop
 | [],[]=>True
 | e :: l,e' :: l'=>(VR γ e.key e'.key∧VR γ e.val e'.val∧e.born=e'.born)∧fj γ l l'
 | _,_=>False
theorem fj.FP {γ:Gm}:∀ {l l':List MapEntry},l.length=l'.length →
  (∀ (i:Nat) (e e':MapEntry),l[i]?=some e→l'[i]?=some e'→VR γ e.key e'.key∧VR γ e.val e'.val∧e.born=e'.born)→fj γ l l'
 | [],[],_,_=>trivial
 | [],_ :: _,h,_=>by simp at h
 | _ :: _,[],h,_=>by simp at h
 | e :: l,e' :: l',h,hp=>⟨hp 0 e e' rfl rfl,fj.FP (by simpa using h) fun i a a' x y=>hp (i+1) a a' (by simpa using x) (by simpa using y)⟩
theorem jo.list {es:List MapEntry} {es':Array MapEntry} (h:jo γ es es'):fj γ es es'.toList :=
 fj.FP (by simpa using h.1) fun i e e' a b=>h.2 i e e' a (by simpa using b)
theorem fj.len {γ:Gm}:∀ {l l':List MapEntry},fj γ l l'→l.length=l'.length
 | [],[],_=>rfl
 | [],_ :: _,h=>h.elim
 | _ :: _,[],h=>h.elim
 | _ :: _,_ :: _,h=>by simp [fj.len h.2]
theorem fj.get {γ:Gm}:∀ {l l':List MapEntry} {i:Nat} {e':MapEntry},fj γ l l'→l'[i]?=some e'→∃ e,l[i]?=some e∧VR γ e.key e'.key∧VR γ e.val e'.val∧e.born=e'.born
 | [],[],i,e',_,h=>by simp at h
 | [],_ :: _,_,_,h,_=>h.elim
 | _ :: _,[],_,_,h,_=>h.elim
 | e :: l,x :: l',0,e',h,hx=>by simp at hx;subst hx;exact ⟨e,rfl,h.1⟩
 | e :: l,x :: l',i+1,e',h,hx=>by obtain ⟨y,a,b⟩:=fj.get (i:=i) h.2 (by simpa using hx);exact ⟨y,by simpa using a,b⟩
theorem fj.filter {γ:Gm} (p:Nat→Bool):∀ {l l':List MapEntry},fj γ l l'→fj γ (l.filter fun e=>p e.born) (l'.filter fun e=>p e.born)
 | [],[],_=>trivial
 | [],_ :: _,h=>h.elim
 | _ :: _,[],h=>h.elim
 | e :: l,e' :: l',h=>by
  have ih:=fj.filter p h.2;have hb:=h.1.2.2;by_cases hp:p e.born=true
  ·have hp':p e'.born=true:=by rw [←hb];exact hp
   rw [List.filter_cons_of_pos (by simpa using hp),List.filter_cons_of_pos (by simpa using hp')];exact ⟨h.1,ih⟩
  ·have hp':¬ p e'.born=true:=by rw [←hb];exact hp
   rw [List.filter_cons_of_neg (by simpa using hp),List.filter_cons_of_neg (by simpa using hp')];exact ih
theorem fj.append {γ:Gm}:∀ {a a' b b':List MapEntry},fj γ a a'→fj γ b b'→fj γ (a++b) (a'++b')
 | [],[],_,_,_,h=>h
 | [],_ :: _,_,_,h,_=>h.elim
 | _ :: _,[],_,_,h,_=>h.elim
 | _ :: _,_ :: _,_,_,h,k=>⟨h.1,fj.append h.2 k⟩
theorem fj.findIdx {γ:Gm} (p:Nat→Bool):∀ {l l':List MapEntry},fj γ l l'→(l.findIdx? fun e=>p e.born)=l'.findIdx? fun e=>p e.born
 | [],[],_=>rfl
 | [],_ :: _,h=>h.elim
 | _ :: _,[],h=>h.elim
 | e :: l,e' :: l',h=>by rw [List.findIdx?_cons,List.findIdx?_cons,h.1.2.2,fj.findIdx p h.2]
theorem fj.find {γ:Gm} (p:Nat→Bool):∀ {l l':List MapEntry},fj γ l l' →
  match l.find? (fun e=>p e.born) with
  | none=>l'.find? (fun e=>p e.born)=none
  | some e=>∃ e',l'.find? (fun e=>p e.born)=some e'∧VR γ e.key e'.key∧VR γ e.val e'.val∧e.born=e'.born
 | [],[],_=>rfl
 | [],_ :: _,h=>h.elim
 | _ :: _,[],h=>h.elim
 | e :: l,e' :: l',h=>by
  have hb:=h.1.2.2
  cases hp:p e.born with
  | true =>rw [List.find?_cons_of_pos (by simpa using hp),List.find?_cons_of_pos (by rw [←hb];simpa using hp)];exact ⟨e',rfl,h.1⟩
  | false =>rw [List.find?_cons_of_neg (by simp [hp]),List.find?_cons_of_neg (by rw [←hb];simp [hp])];exact fj.find p h.2
theorem so (h:HR γ g w) {t:TypeId} {m m' s s' x x':Value} {e:bX} (ho:cW m s x g=some e) (hm:VR γ m m') (hs:VR γ s s') (hx:VR γ x x') :
  aW T.P γ g w n (do Instr.entryStore t m' s' x';Pure.pure Next.skip) undef e:=by
 unfold cW at ho
 cases hb:gE m with
 | none=>rw [hb] at ho;simp at ho
 | some r =>
  cases hi:intOf? s with
  | none=>rw [hb,hi] at ho;simp at ho
  | some born =>
   cases hmp:map? (g r) with
   | none=>rw [hb,hi] at ho;simp only [hmp] at ho;cases ho
   | some q =>
    obtain ⟨es,c⟩:=q;rw [hb,hi] at ho;simp only [hmp] at ho;obtain ⟨b,es',rfl,hl,hB,hw,he,hgo⟩:=dN h hb hmp hm;obtain ⟨kk,rfl⟩:=va hi;obtain rfl:=hs.bK rfl
    cases hf:es.findIdx? (fun e=>(e.born:Int) == born) with
    | none=>rw [hf] at ho;cases ho
    | some i =>
     rw [hf] at ho;simp only [qq9] at ho;subst ho;have hf':es'.findIdx? (fun e=>(e.born:Int) == born)=some i:=by have:=fj.findIdx (fun k=>(k:Int) == born) he.list;rw [hf] at this;obtain ⟨l⟩:=es';rw [List.findIdx?_toArray];exact this.symm
     have hmod:jo γ (es.modify i fun e=>{e with val:=x}) (es'.modify i fun e=>{e with val:=x'}) :=
      he.modify i _ _ fun a a' h1 h2=>by obtain ⟨y,_,zz⟩:=he.2 i a a' h1 h2;exact ⟨y,hx,zz⟩
     obtain ⟨q1,q2,q3⟩:=oz (c2:=c) h hmp hl hB hw hmod;refine ⟨undef,_,γ,.inr ⟨qy ?_,rfl⟩,Gm.Le.refl γ,fun _ _=>rfl,q1,VR.undef γ,q2⟩;simp [Instr.entryStore,hgo,asInt,asIntOf,hf',q3]
theorem uw (hT:bF T) (h:HR γ g w) {t:TypeId} {m m' k k' x x':Value} {e:bX} (ho:dZ T t m k x g=some e) (hm:VR γ m m') (hk:VR γ k k') (hx:VR γ x x') :
  aW T.P γ g w n (do Instr.mapUpdate t m' k' x';Pure.pure Next.skip) undef e:=by
 unfold dZ at ho
 cases hmt:jU T t with
 | none=>rw [hmt] at ho;simp at ho
 | some p =>
  obtain ⟨kt,z⟩:=p
  cases hb:gE m with
  | none=>rw [hmt,hb] at ho;simp at ho
  | some r =>
   cases hmp:map? (g r) with
   | none=>rw [hmt,hb] at ho;simp only [hmp] at ho;cases ho
   | some q =>
    obtain ⟨es,c⟩:=q;rw [hmt,hb] at ho;simp only [hmp] at ho;obtain ⟨b,es',rfl,hl,hB,hw,he,hgo⟩:=dN h hb hmp hm;obtain ⟨et,hu,hz⟩:=pZ hT hmt;unfold mc at ho
    cases hf:ny T.P false kt k es with
    | none=>rw [hf] at ho;simp at ho
    | some r' =>
     obtain ⟨rfl,hck,hfk⟩:=sk hf he hk
     have hflk:flat k'=true:=by
      unfold ny at hf
      cases hc:(flat k' && es.all fun e=>flat e.key) with
      | false=>rw [hc] at hf;cases hf
      | true=>simp only [qq7] at hc;exact hc.1
     cases r' with
     | some i =>
      obtain ⟨y,y',he1,he2,hvv,hkk,hkf,hborn,hrun⟩:=hfk;rw [hf] at ho;simp only [he1] at ho
      cases hsb:Instr.sameBits 10000 y.key k' with
      | false=>rw [hsb] at ho;cases ho
      | true =>
       rw [hsb] at ho;simp only [cond_true,qq9] at ho;subst ho
       have hmod:jo γ (es.modify i fun e=>{e with key:=k',val:=x}) (es'.modify i fun e=>{e with key:=k',val:=x'}) :=
        he.modify i _ _ fun a a' h1 h2=>by obtain ⟨_,_,zz⟩:=he.2 i a a' h1 h2;exact ⟨VR.of_flat hflk,hx,zz⟩
       obtain ⟨q1,q2,q3⟩:=oz (c2:=c) h hmp hl hB hw hmod;refine ⟨undef,_,γ,.inr ⟨qy ?_,rfl⟩,Gm.Le.refl γ,fun _ _=>rfl,q1,VR.undef γ,q2⟩;have hstay:(Instr.keyThatStays y'.key k').run T.P w=.ok k' w:=by simp [Instr.keyThatStays,hkk,hsb]
       simp [Instr.mapUpdate,bT hu,hgo,hck,hrun,he2,hstay,q3]
     | none =>rw [hf] at ho;simp only [qq9] at ho;subst ho;have hpush:jo γ (es++[{key:=k',val:=x,born:=c}]) (es'.push {key:=k',val:=x',born:=c}):=he.push ⟨VR.of_flat hflk,hx,rfl⟩;obtain ⟨q1,q2,q3⟩:=oz (c2:=c+1) h hmp hl hB hw hpush;refine ⟨undef,_,γ,.inr ⟨qy ?_,rfl⟩,Gm.Le.refl γ,fun _ _=>rfl,q1,VR.undef γ,q2⟩;simp [Instr.mapUpdate,bT hu,hgo,hck,hfk,q3]
theorem yY (h:HR γ g w) (hn:γ.loc n=none) {t:TypeId} :
  aW T.P γ g w n (do Pure.pure (Next.value (←Instr.makeMap t none))) (.map (some n)) (.new (.map [] 0)):=by
 have hle:=Gm.mj (b:=w.heap.size) (c:=0) hn;refine ⟨.map (some w.heap.size),w.alloc (.map #[] 0),γ.add n w.heap.size 0,.inl (aV (by simp [Instr.makeMap])),hle,fun k hk=>Gm.bO _ _ _ (fun e=>Bool.noConfusion (hk e:true=false)),?_,VR.map (Gm.cq _ _ _ _),jE.new (obj:=_) rfl rfl rfl rfl⟩;refine HR.new (w:=w) h hn (obj:=_) rfl ⟨rfl,h.base,#[],?_,rfl,by simp⟩;show (w.heap.push _)[w.heap.size]?=_;simp
theorem Dr (h:HR γ g w) {it it':Value} {r m since last c:Nat} {seen:List Nat} {es:List MapEntry} (ha:addr? it=some (r,0)) (hg:g r=some (.iter m since seen last))
  (hm:map? (g m)=some (es,c)) (hv:VR γ it it') :
  ∃ b bm es',it'=.pointer (some ⟨b,0,none⟩)∧γ.loc r=some (b,0)∧γ.B≤b∧γ.loc m=some (bm,0)∧w.heap[b]?=some (.mapIter (some bm) since seen.toArray last) ∧
   w.heap[bm]?=some (.map es' c)∧jo γ es es':=by
 obtain ⟨b,d,hl,rfl⟩:=hv.addr ha;obtain ⟨rfl,hB,bm,hlm,hw⟩:=h.gu r b d _ hg hl;obtain ⟨_,_,es',hw',he⟩:=h.gu m bm 0 _ (map_some hm) hlm;exact ⟨b,bm,es',rfl,hl,hB,hlm,hw,hw',he⟩
theorem Au (h:HR γ g w) {it it' v:Value} {e:bX} (ho:rZ it g=some (v,e)) (hv:VR γ it it') :
  aW T.P γ g w n (do Pure.pure (Next.value (←Instr.entry it'))) v e:=by
 unfold rZ at ho;split at ho
 ·rename_i r ha
  cases hg:g r with
  | none=>rw [hg] at ho;cases ho
  | some gu =>
   rw [hg] at ho
   cases gu with
   | iter m since seen stepped =>
    simp only at ho
    cases hs:seen.getLast? with
    | none=>rw [hs] at ho;simp at ho
    | some stamp =>
     cases hm:map? (g m) with
     | none=>rw [hs,hm] at ho;simp at ho
     | some q =>
      obtain ⟨es,clock⟩:=q;rw [hs,hm] at ho;simp only at ho
      cases hc:Nat.beq clock stepped with
      | false=>rw [hc] at ho;cases ho
      | true =>
       rw [hc] at ho;simp only [cond_true,Option.map_eq_some_iff,Prod.mk.injEq] at ho;obtain ⟨x,hx,rfl,rfl⟩:=ho;have hcc:=Nat.eq_of_beq_eq_true hc;subst hcc;obtain ⟨b,bm,es',rfl,hl,hB,hlm,hw,hw',he⟩:=Dr h ha hg hm hv;have hf:=fj.find (fun k=>k == stamp) he.list;rw [hx] at hf;obtain ⟨x',h1,h2,h3,_⟩:=hf;have h1':es'.find? (fun e=>e.born == stamp)=some x':=by rw [←Array.find?_toList];exact h1
       have hg1:(getObj b).run T.P w=.ok (.mapIter (some bm) since seen.toArray clock) w:=by simp [getObj,Sem.run,hw]
       have hg2:(getObj bm).run T.P w=.ok (.map es' clock) w:=by simp [getObj,Sem.run,hw']
       have hback:seen.toArray.back?=some stamp:=by simpa using hs
       refine .pure h (aV (v:=.tuple #[x'.key,x'.val]) ?_) (VR.cA (.cons h2 (.cons h3 (.nil γ))));simp [Instr.entry,hg1,hg2,hback,h1']
   | _=>cases ho
 ·cases ho
theorem Cm (h:HR γ g w) {it it':Value} {ty:TypeId} {L:List (Value × bX)} (ho:qq it g=some L) (hv:VR γ it it') :
  ∃ v e,(v,e) ∈ L∧aW T.P γ g w n (do Pure.pure (Next.value (←Instr.next it' false ty))) v e:=by
 unfold qq at ho;split at ho
 ·rename_i r
  cases hg:g r with
  | none=>rw [hg] at ho;cases ho
  | some gu =>
   rw [hg] at ho
   cases gu with
   | iter m since seen last =>
    simp only at ho
    cases hm:map? (g m) with
    | none=>rw [hm] at ho;cases ho
    | some q =>
     obtain ⟨es,clock⟩:=q;rw [hm] at ho;simp only at ho;obtain ⟨b,bm,es',rfl,hl,hB,hlm,hw,hw',he⟩:=Dr h rfl hg hm hv;have hg1:(getObj b).run T.P w=.ok (.mapIter (some bm) since seen.toArray last) w:=by simp [getObj,Sem.run,hw]
     have hg2:(getObj bm).run T.P w=.ok (.map es' clock) w:=by simp [getObj,Sem.run,hw']
     unfold uV at ho
     cases hgone:(!seen.isEmpty && !es.isEmpty && es.all (fun e=>Nat.ble last e.born)) with
     | true=>rw [hgone] at ho;cases ho
     | false =>
      rw [hgone] at ho;simp only [cond_false,qq9] at ho;subst ho;have hleft:fj γ (es.filter fun e=>!seen.contains e.born) (es'.filter fun e=>!seen.toArray.contains e.born).toList:=by rw [Array.toList_filter];have:=fj.filter (fun k=>!seen.contains k) he.list;simpa using this
      have hold:fj γ ((es.filter fun e=>!seen.contains e.born).filter fun e=>decide (e.born < since)) ((es'.filter fun e=>!seen.toArray.contains e.born).filter (·.born < since)).toList:=by rw [Array.toList_filter];exact fj.filter (fun k=>decide (k < since)) hleft
      have hnew:fj γ ((es.filter fun e=>!seen.contains e.born).filter fun e=>decide (e.born ≥ since)) ((es'.filter fun e=>!seen.toArray.contains e.born).filter (·.born ≥ since)).toList:=by rw [Array.toList_filter];exact fj.filter (fun k=>decide (k ≥ since)) hleft
      have hgone':(!seen.toArray.isEmpty && !es'.isEmpty && es'.all (·.born ≥ last))=false:=by
       have h1:es'.all (·.born ≥ last)=es.all (fun e=>Nat.ble last e.born):=by
        rw [←Array.all_toList]
        have:∀ {l l':List MapEntry},fj γ l l'→l'.all (fun e=>decide (e.born ≥ last))=l.all (fun e=>Nat.ble last e.born):=by
         intro l
         induction l with
         | nil=>intro l' hh;cases l' with
          | nil=>rfl
          | cons=>exact hh.elim
         | cons a l ih=>intro l' hh;cases l' with
          | nil=>exact hh.elim
          | cons a' l' =>simp only [List.all_cons,ih hh.2,ble_eq,←hh.1.2.2]
        exact this he.list
       rw [h1,he.empty];have h2:seen.toArray.isEmpty=seen.isEmpty:=by cases seen <;> rfl
       rw [h2];exact hgone
      generalize hO:(es.filter fun e=>!seen.contains e.born).filter (fun e=>decide (e.born < since))=old at hold ⊢;generalize hN:(es.filter fun e=>!seen.contains e.born).filter (fun e=>decide (e.born ≥ since))=new at hnew ⊢;generalize hO':(es'.filter fun e=>!seen.toArray.contains e.born).filter (·.born < since)=old' at hold;generalize hN':(es'.filter fun e=>!seen.toArray.contains e.born).filter (·.born ≥ since)=new' at hnew;have hboth:=hold.append hnew
      have hempty:old'.isEmpty=old.isEmpty:=by
       have:=hold.len
       cases old with
       | nil =>have hz:old'=#[]:=Array.eq_empty_of_size_eq_zero (by simpa using this.symm);subst hz;rfl
       | cons a l =>
        cases hx:old'.isEmpty with
        | false=>rfl
        | true =>
         have hz:old'=#[]:=by simpa using hx
         subst hz;simp at this
      let cand:Array (Option MapEntry):=(if old'.isEmpty then #[none] else #[])++(old'++new').map some
      have hpos:0 < cand.size:=by
       show 0 < ((if old'.isEmpty then #[none] else #[])++(old'++new').map some).size
       cases hx:old'.isEmpty with
       | true=>simp;omega
       | false =>
        have:0 < old'.size:=by
         rcases Nat.eq_zero_or_pos old'.size with h0|h0
         ·have:old'=#[]:=Array.eq_empty_of_size_eq_zero h0;subst this;simp at hx
         ·exact h0
        simp;omega
      obtain ⟨i,w1,hi,hw1,hch⟩:∃ i w1,i < cand.size∧(w1=w∨w1=w.drew)∧(choose (.mapNext cand.size)).run T.P w=.ok i w1:=by
       by_cases hf:cand.size≤1
       ·refine ⟨0,w,hpos,.inl rfl,?_⟩;simp [choose,Sem.run,Question.forced,hf]
       ·refine ⟨_,w.drew,Nat.mod_lt (w.tape w.drawn (.mapNext cand.size)) hpos,.inr rfl,?_⟩;have hf':decide (cand.size≤1)=false:=decide_eq_false hf;simp only [choose,Sem.run,Question.forced,hf',Bool.false_eq_true,if_false,Question.cut];rfl
      have hw1h:w1.heap=w.heap:=by rcases hw1 with rfl|rfl <;> rfl
      have hw1o:w1.os=w.os∧w1.tape=w.tape∧w1.output=w.output:=by rcases hw1 with rfl|rfl <;> exact ⟨rfl,rfl,rfl⟩
      have hH1:HR γ g w1:=h.same hw1h;have hU1:jE γ g w γ g w1:=jE.heap hw1h hw1o.1 hw1o.2.1 hw1o.2.2;obtain ⟨x,hx⟩:∃ x,cand[i]?=some x:=⟨_,Array.getElem?_eq_getElem hi⟩
      have hmain:∀ u wu,(match x with
        | some e=>(do setObj b (.mapIter (some bm) since (seen.toArray.push e.born) clock);Pure.pure (.tuple #[.bool true,e.key,e.val]):Sem Value)
        | none=>Pure.pure (.tuple #[.bool false])).run T.P w1=.ok u wu→(Instr.next (.pointer (some ⟨b,0,none⟩)) false ty).run T.P w=.ok u wu:=by
       intro u wu hu;have hx':((if old'.isEmpty=true then #[none] else #[])++Array.map some (old'++new'))[i]?=some x:=hx;simp only [Instr.next,Sem.run_bind,hg1,Result.andThen_ok,hg2,hgone',Bool.false_eq_true,if_false,hO',hN'];have hch':(choose (.mapNext ((if old'.isEmpty=true then #[none] else #[])++Array.map some (old'++new')).size)).run T.P w=.ok i w1:=hch;rw [hch'];simp only [Result.andThen_ok,hx']
       cases x with
       | none=>exact hu
       | some e=>simpa using hu
      by_cases hover:old'.isEmpty=true∧i=0
      ·
       obtain ⟨ho1,rfl⟩:=hover;have hxn:x=none:=by have hx':((if old'.isEmpty=true then #[none] else #[])++Array.map some (old'++new'))[0]?=some x:=hx;rw [if_pos ho1] at hx';rw [Array.getElem?_append_left (by simp)] at hx';simpa using hx'.symm
       subst hxn;refine ⟨.tuple #[.bool false],.none,?_,?_⟩
       ·rw [←hempty,ho1];simp
       ·refine ⟨.tuple #[.bool false],w1,γ,.inl (aV (hmain _ _ rfl)),Gm.Le.refl γ,fun _ _=>rfl,hH1,VR.cA (l:=[.bool false]) (bW.of_flat rfl),hU1⟩
      ·
       obtain ⟨j,e',hj,rfl⟩:∃ (j:Nat) (e':MapEntry),(old'.toList++new'.toList)[j]?=some e'∧x=some e':=by
        have hx':((if old'.isEmpty=true then #[none] else #[])++Array.map some (old'++new'))[i]?=some x:=hx
        cases hox:old'.isEmpty with
        | true =>rw [hox] at hx' hover;simp only [if_true] at hx';have hi0:i ≠ 0:=fun e=>hover ⟨rfl,e⟩;rw [Array.getElem?_append_right (by simp;omega)] at hx';simp only [List.size_toArray,List.length_cons,List.length_nil,Array.getElem?_map] at hx';obtain ⟨e',h1,h2⟩:=Option.map_eq_some_iff.1 hx';exact ⟨i - 1,e',by rw [←Array.toList_append,Array.getElem?_toList];simpa using h1,h2.symm⟩
        | false =>rw [hox] at hx';simp only [Bool.false_eq_true,if_false,Array.empty_append,Array.getElem?_map] at hx';obtain ⟨e',h1,h2⟩:=Option.map_eq_some_iff.1 hx';exact ⟨i,e',by rw [←Array.toList_append,Array.getElem?_toList];exact h1,h2.symm⟩
       obtain ⟨e,he1,hk,hvv,hborn⟩:=hboth.get hj;have hset:(setObj b (.mapIter (some bm) since (seen.toArray.push e'.born) clock)).run T.P w1=.ok () {w1 with heap:=w1.heap.setIfInBounds b (.mapIter (some bm) since (seen.toArray.push e'.born) clock)}:=by simp [setObj,Sem.run,hw1h,hw]
       have hwb:w1.heap[b]?=some (.mapIter (some bm) since seen.toArray last):=by rw [hw1h];exact hw
       have hltb:b < w1.heap.size:=(Array.getElem?_eq_some_iff.1 hwb).1
       obtain ⟨q1,q2,_⟩:=yV (a:=.iter m since (seen++[e.born]) clock) (obj:=.mapIter (some bm) since (seen.toArray.push e'.born) clock) hH1 hg rfl hl hwb rfl
        ⟨rfl,hB,bm,hlm,by rw [hborn];simp [hltb]⟩
       refine ⟨.tuple #[.bool true,e.key,e.val],.put r (.iter m since (seen++[e.born]) clock),?_,?_⟩
       ·refine List.mem_append.2 (.inr ?_);exact List.mem_map.2 ⟨e,List.mem_of_getElem? he1,rfl⟩
       ·refine ⟨.tuple #[.bool true,e'.key,e'.val],_,γ,.inl (aV (hmain _ _ (by simp only [Sem.run_bind,hset,Result.andThen_ok,Sem.run_pure]))),Gm.Le.refl γ,fun _ _=>rfl,q1,
         VR.cA (.cons (.flat rfl) (.cons hk (.cons hvv (.nil γ)))),?_⟩
        exact hU1.trans q2
   | _=>cases ho
 ·cases ho
end
end Go.RM
namespace Go.RM
open Go.RowKit
section
variable {T : bG} {γ : Gm} {g : aN} {w : World} {n : Nat}
theorem bW.map {ρ ρ':Operand→Value} {l:List Operand} (h:∀ x ∈ l,VR γ (ρ x) (ρ' x)):bW γ (l.map ρ) (l.map ρ'):=by refine ⟨by simp,fun i v v' a b=>?_⟩;rw [List.getElem?_map] at a b;obtain ⟨x,hx,rfl⟩:=Option.map_eq_some_iff.1 a;rw [hx] at b;simp at b;subst b;exact h x (List.mem_of_getElem? hx)
theorem jq.map {ρ ρ':Operand→Value} {l:List (Nat × Operand)} (h:∀ x ∈ l,VR γ (ρ x.2) (ρ' x.2)):jq γ (l.map fun (i,x)=>(i,ρ x)) (l.map fun (i,x)=>(i,ρ' x)):=by refine ⟨by simp,fun i p p' a b=>?_⟩;rw [List.getElem?_map] at a b;obtain ⟨x,hx,rfl⟩:=Option.map_eq_some_iff.1 a;rw [hx] at b;simp at b;subst b;exact ⟨rfl,h x (List.mem_of_getElem? hx)⟩
theorem nG.map {ρ ρ':Operand→Value} {x:Option Operand} (h:∀ y,x=some y→VR γ (ρ y) (ρ' y)):nG γ (x.map ρ) (x.map ρ'):=by
 cases x with
 | none=>trivial
 | some y=>exact h y rfl
theorem nG.cy {a b:Option Value} (h:nG γ a b) (hf:a.toList.all flat=true):b=a:=by
 cases a with
 | none=>cases b with
  | none=>rfl
  | some _=>exact h.elim
 | some x=>cases b with
  | none=>exact h.elim
  | some y=>simp at hf;rw [VR.cy h hf]
theorem Av (hT:bF T) (h:HR γ g w) {t ty:TypeId} {x x' v:Value} {e:bX} (ho:nB T t x g=some (v,e)) (hx:VR γ x x') :
  aW T.P γ g w n (do Pure.pure (Next.value (←Builtin.clear_ #[t] ty #[x']))) v e:=by
 unfold nB at ho;split at ho
 ·rename_i r hty;obtain ⟨i,_,_,_,_,hu,_⟩:=hT.ty t _ hty
  cases hm:map? (g r) with
  | none=>rw [hm] at ho;cases ho
  | some p =>obtain ⟨es,clock⟩:=p;rw [hm] at ho;simp only [qq9,Prod.mk.injEq] at ho;obtain ⟨rfl,rfl⟩:=ho;obtain ⟨b,es',rfl,hl,hB,hw,he,hget⟩:=dN h (m:=.map (some r)) rfl hm hx;obtain ⟨q1,q2,q3⟩:=oz (es2:=[]) (es2':=#[]) (c2:=clock) h hm hl hB hw ⟨rfl,fun i a b ha=>by cases ha⟩;refine ⟨.tuple #[],_,γ,.inl (aV ?_),Gm.Le.refl γ,fun _ _=>rfl,q1,VR.cA (l:=[]) (l':=[]) (bW.nil γ),q2⟩;simp [Builtin.clear_,bT hu,hget T.P,q3 T.P]
 ·rename_i k o nn _ hty;obtain ⟨i,_,_,_,_,hu,_⟩:=hT.ty t _ hty
  cases he:elem? T t with
  | none=>rw [he] at ho;cases ho
  | some inf =>
   cases hc:cells? (g k) with
   | none=>rw [he,hc] at ho;cases ho
   | some p =>
    obtain ⟨cs,own,es⟩:=p;rw [he,hc] at ho;simp only at ho
    cases hcd:(Nat.ble 1 nn && own && bL inf && Nat.ble (o+nn * inf.size) cs.length) with
    | false=>rw [hcd] at ho;cases ho
    | true =>
     rw [hcd] at ho;simp only [cond_true,qq9,Prod.mk.injEq] at ho;obtain ⟨rfl,rfl⟩:=ho;obtain ⟨c1,c2,c3,c4⟩:=xT hcd;subst c2;have c1:=Nat.le_of_ble_eq_true c1;have c4:=Nat.le_of_ble_eq_true c4;obtain ⟨z,hzz,hzs,h1,hfl⟩:=iU c3;obtain ⟨el,j,hut,hj,hsz,_,hz⟩:=iF hT he
     cases hx with
     | flat hf=>simp [bf] at hf
     | cL=>omega
     | slice hl hle0 ht hlo hk =>
      rename_i b d c';obtain ⟨cs',el',fz,hw,hcr,hown⟩:=h.cells hc hl;obtain ⟨rfl,rfl,hB,hcapsz⟩:=hown rfl;have hpos:0 < z.cells.size:=by omega
      have harr:=mq z.cells (nn * inf.size) (.inr hpos);have hflz:=lu hfl (nn * inf.size) (.inr (by simpa using hpos));have hlen:=nh z.cells.toList (nn * inf.size)
      have hcs:cs.length≤cs'.size:=by
       by_cases hn:cs=[]
       ·subst hn;simp
       ·have:=hcr.size_le hn;omega
      have hzc:(Builtin.zeroCells z.cells nn).toList=bV z.cells.toList (nn * inf.size):=by unfold Builtin.zeroCells;rw [hzs];rw [hzs] at harr;exact harr
      have hst:=run_storeCells_at T.P b (0+o) el' (bV z.cells.toList (nn * inf.size)) 0 cs' w hw (by rw [hlen];omega) ((bW.of_flat (γ:=γ) hflz).bw (List.all_eq_true.2 fun v hv=>by have h2:=List.all_eq_true.1 hflz v hv;cases v <;> first|rfl|(simp [bf] at h2)));obtain ⟨o1,o2,o3,o4⟩:=setRow_os w b (splice cs'.toList (bV z.cells.toList (nn * inf.size)) o).toArray;rw [hzz];simp only [Option.map_some,Option.getD_some];refine ⟨.tuple #[],w.setRow b (splice cs'.toList (bV z.cells.toList (nn * inf.size)) o).toArray,γ,.inl (aV ?_),Gm.Le.refl γ,fun _ _=>rfl,?_,VR.cA (l:=[]) (l':=[]) (bW.nil γ),?_⟩
      ·obtain ⟨q,rfl⟩:∃ q,nn=q+1:=⟨nn - 1,by omega⟩;simp only [Nat.add_zero,Nat.zero_add] at hst;simp [Builtin.clear_,bT hut,i7 hj (hz.trans hzz),hzc,hst,splice]
      ·refine h.put (dc hc) rfl hl o4 (fun j hj=>setRow_other w b j _ hj) (.inl rfl) ?_;refine ⟨_,el',(0,0),setRow_heap w b cs' _ el' _ hw,hcr.splice (bW.of_flat hflz) (by rw [hlen];exact c4) (by rw [hlen];omega),fun _=>⟨rfl,rfl,hB,?_⟩⟩;rw [List.size_toArray,eY _ _ _ (by rw [hlen,Array.length_toList];omega)];simpa using hcapsz
      ·exact jE.put (dc hc) rfl hl o1 o2 o3 o4 (fun j hj=>setRow_other w b j _ hj)
 ·cases ho
theorem Cn (hT:bF T) (h:HR γ g w) {t u ty:TypeId} {d d' x x' v:Value} {e:bX} (ho:tj T t d x g=some (v,e)) (hd:VR γ d d') (hx:VR γ x x') :
  aW T.P γ g w n (do Pure.pure (Next.value (←Builtin.copy_ #[t,u] ty #[d',x']))) v e:=by
 unfold tj at ho;split at ho
 ·rename_i k o nn _;split at ho
  ·rename_i inf cs own es m he hc hm;split at ho
   ·rename_i new hro
    cases hcd:(own && (Nat.ble 1 nn && Nat.ble m nn) && new.all bw && Nat.ble (o+nn * inf.size) cs.length) with
    | false=>rw [hcd] at ho;cases ho
    | true =>
     rw [hcd] at ho;simp only [cond_true,qq9,Prod.mk.injEq] at ho;obtain ⟨rfl,rfl⟩:=ho;obtain ⟨c1,c2,c3,c4⟩:=xT hcd;subst c1;rw [qq7] at c2;have c1:=Nat.le_of_ble_eq_true c2.1;have c2:=Nat.le_of_ble_eq_true c2.2;have c4:=Nat.le_of_ble_eq_true c4;obtain ⟨el,j,hut,hj,hsz,_,_⟩:=iF hT he;obtain ⟨l',hl',hln,hfc,a',c',hxs⟩:=mw h hro hx hm;have hmn:m * inf.size≤nn * inf.size:=Nat.mul_le_mul_right _ c2
     cases hd with
     | flat hf=>simp [bf] at hf
     | cL=>omega
     | slice hl hle0 ht hlo hk =>
      rename_i b dd c2';obtain ⟨cs',el',fz,hw,hcr,hown⟩:=h.cells hc hl;obtain ⟨rfl,rfl,hB,hcapsz⟩:=hown rfl;have hlen':l'.length=m * inf.size:=by rw [←hl'.1];exact hln
      have hst:=run_storeCells_at T.P b (0+o) el' l' 0 cs' w hw (by
       rw [hlen'];by_cases hn:cs=[]
       ·subst hn;simp at c4;omega
       ·have:=hcr.size_le hn;omega) (hl'.bw c3)
      obtain ⟨o1,o2,o3,o4⟩:=setRow_os w b (splice cs'.toList l' o).toArray;refine ⟨_,w.setRow b (splice cs'.toList l' o).toArray,γ,.inl (aV ?_),Gm.Le.refl γ,fun _ _=>rfl,?_,.flat rfl,?_⟩
      ·simp only [Nat.add_zero,Nat.zero_add] at hst;have hf:=hfc T.P w rfl;rw [←hsz] at hf;subst hxs;simp [Builtin.copy_,Builtin.lenOf,sizeOf,typeInfo,hj,bT hut,Nat.min_eq_left c2,hf,hst,splice,goInt]
      ·refine h.put (dc hc) rfl hl o4 (fun j hj=>setRow_other w b j _ hj) (.inl rfl) ?_
       have hsz':o+l'.length≤cs'.size:=by
        rw [hlen'];by_cases hn:cs=[]
        ·subst hn;simp at c4;omega
        ·have:=hcr.size_le hn;omega
       refine ⟨_,el',(0,0),setRow_heap w b cs' _ el' _ hw,hcr.splice hl' (by rw [hln];omega) hsz',fun _=>⟨rfl,rfl,hB,?_⟩⟩;rw [List.size_toArray,eY _ _ _ (by rw [Array.length_toList];exact hsz')];simpa using hcapsz
      ·exact jE.put (dc hc) rfl hl o1 o2 o3 o4 (fun j hj=>setRow_other w b j _ hj)
   ·cases ho
  ·cases ho
 ·cases ho
theorem yZ (hT:bF T) (h:HR γ g w) {t:TypeId} {a a' ix ix' v:Value} {e:bX} (ho:me T t a ix=some (v,e)) (ha:VR γ a a') (hx:VR γ ix ix') :
  aW T.P γ g w n (do Pure.pure (Next.value (←Instr.index t a' ix'))) v e:=by
 unfold me at ho;split at ho
 ·rename_i m el _ _ _ _ _ _ cs k j hty;split at ho
  ·rename_i jP _ _ _ _ hel
   cases hb:Nat.blt j m with
   | false=>rw [hb] at ho;cases ho
   | true =>
    rw [hb] at ho;simp only [cond_true] at ho;split at ho
    ·rename_i f x y hcs;cases ho;obtain rfl:=hx.bK rfl;obtain ⟨i,_,_,_,_,hu,_⟩:=hT.ty t _ hty;obtain ⟨i',h1,h2,_,_,hu',_⟩:=hT.ty el _ hel;have hag:=hT.agg hel;have hjm:j < m:=Nat.le_of_ble_eq_true hb;have hag':∀ w',(isAgg el).run T.P w'=.ok false w':=fun w'=>by have:=lQ hu' w';rw [←hag] at this;exact this
     have two:∃ cs',a'=.agg cs'∧∃ v',cs'[j]?=some v'∧VR γ (.func f x y) v':=by
      have hjs:j < cs.size:=by have:=(List.getElem?_eq_some_iff.1 hcs).1;simpa using this
      have hcj:cs[j]=.func f x y:=by have:=(List.getElem?_eq_some_iff.1 hcs).2;simpa using this
      cases ha with
      | flat hf=>simp [bf] at hf
      | agg hs hc =>rename_i cs';exact ⟨cs',rfl,cs'[j]'(by omega),by simp [show j < cs'.size by omega],by rw [←hcj];exact hc j hjs (by omega)⟩
     obtain ⟨cs',rfl,v',hv',hvr⟩:=two;refine .pure h (aV (v:=v') ?_) hvr;have hsz:(sizeOf el).run T.P w=.ok 1 w:=by simp [sizeOf,typeInfo,h1,h2]
     simp [Instr.index,asIntOf,bT hu,hjm,hsz,part,hag',hv']
    ·cases ho
  ·cases ho
 ·cases ho
theorem xh (hT:bF T) (h:HR γ g w) {b:Builtin} {l l':List Value} {tys:List TypeId} {ty:TypeId} {cs:Array Bool} {v:Value} {e:bX}
  (hn:e.news=true→γ.loc n=none) (ho:gU T n b l tys g=some (v,e)) (hl:bW γ l l'):aW T.P γ g w n (builtin b tys.toArray ty cs l'.toArray) v e:=by
 unfold gU at ho
 have two:∀ {x y:Value},bW γ [x,y] l'→∃ x' y',l'=[x',y']∧VR γ x x'∧VR γ y y':=fun {x y} hh=>by
  match l',hh with
  | [x',y'],hh=>exact ⟨x',y',rfl,hh.2 0 _ _ rfl rfl,hh.2 1 _ _ rfl rfl⟩
  | [],hh=>exact absurd hh.1 (by simp)
  | [_],hh=>exact absurd hh.1 (by simp)
  | _ :: _ :: _ :: _,hh=>exact absurd hh.1 (by simp)
 have one:∀ {x:Value},bW γ [x] l'→∃ x',l'=[x']∧VR γ x x':=fun {x} hh=>by
  match l',hh with
  | [x'],hh=>exact ⟨x',rfl,hh.2 0 _ _ rfl rfl⟩
  | [],hh=>exact absurd hh.1 (by simp)
  | _ :: _ :: _,hh=>exact absurd hh.1 (by simp)
 split at ho
 ·split at ho
  ·obtain ⟨x',rfl,hx⟩:=one hl;exact Aq hT h ho hx
  ·cases ho
 ·exact Et h ho hl
 ·exact Eu h ho hl
 ·split at ho
  ·obtain ⟨x',rfl,hx⟩:=one hl;exact Av hT h ho hx
  ·cases ho
 ·split at ho
  ·obtain ⟨d',x',rfl,hd,hx⟩:=two hl;exact Cn hT h ho hd hx
  ·cases ho
 ·split at ho
  ·rename_i s x t u;obtain ⟨s',x',rfl,hs,hx⟩:=two hl;split at ho
   ·rename_i hty;obtain ⟨i,_,_,_,_,hu,_⟩:=hT.ty u _ hty;exact yT hT h hu hn ho hs hx
   ·cases ho
  ·cases ho
 ·cases ho
theorem vj (hT:bF T) (h:HR γ g w) {ρ ρ':Operand→Value} {o:Oper} {v:Value} {e:bX}
  (hn:e.news=true→γ.loc n=none) (ho:jH T n o.op ρ g=some (v,e)) (hρ:∀ x ∈ o.op.operands,VR γ (ρ x) (ρ' x)):aW T.P γ g w n (execOp ρ' o) v e:=by
 obtain ⟨dst,op,ty,pos,after,guard⟩:=o;simp only at ho hρ;cases op <;> simp only [jH] at ho
 case move x =>simp only [qq9,Prod.mk.injEq] at ho;obtain ⟨rfl,rfl⟩:=ho;exact .pure h rfl (hρ x (by simp [Op.operands]))
 case assign x =>simp only [qq9,Prod.mk.injEq] at ho;obtain ⟨rfl,rfl⟩:=ho;exact .pure h rfl (hρ x (by simp [Op.operands]))
 case pick c a b=>exact Cj h ho (hρ c (by simp [Op.operands])) (hρ a (by simp [Op.operands])) (hρ b (by simp [Op.operands]))
 case alloc t=>exact An hT h hn ho
 case box t x=>exact Ep h hn ho (hρ x (by simp [Op.operands]))
 case build t parts =>
  have:=Ap (n:=n) hT h ho (jq.map (ρ:=ρ) (ρ':=ρ') (l:=parts.toList) fun x hx=>hρ x.2 (by simp [Op.operands];exact ⟨x.1,by simpa using hx⟩));have e1:(parts.toList.map fun (i,x)=>(i,ρ' x)).toArray=parts.map fun (i,x)=>(i,ρ' x):=by apply Array.ext';simp
  rw [e1] at this;exact this
 case buildSlice t len parts =>
  have:=sj hT h hn ho (jq.map (ρ:=ρ) (ρ':=ρ') (l:=parts.toList) fun x hx=>hρ x.2 (by simp [Op.operands];exact ⟨x.1,by simpa using hx⟩));have e1:(parts.toList.map fun (i,x)=>(i,ρ' x)).toArray=parts.map fun (i,x)=>(i,ρ' x):=by apply Array.ext';simp
  rw [e1] at this;exact this
 case load t a=>exact Ci hT h ho (hρ a (by simp [Op.operands]))
 case store t a x=>exact Am hT h ho (hρ a (by simp [Op.operands])) (hρ x (by simp [Op.operands]))
 case fieldAddr t a i=>exact uh hT h ho (hρ a (by simp [Op.operands]))
 case indexAddr t a ix=>exact uo hT h ho (hρ a (by simp [Op.operands])) (hρ ix (by simp [Op.operands]))
 case index t a ix =>
  cases hf:(flat (ρ a) && flat (ρ ix)) with
  | false=>rw [hf] at ho;exact yZ hT h ho (hρ a (by simp [Op.operands])) (hρ ix (by simp [Op.operands]))
  | true =>rw [hf] at ho;simp only [qq7] at hf;have:=aW.reckon (n:=n) h ho;rw [←(hρ a (by simp [Op.operands])).cy hf.1,←(hρ ix (by simp [Op.operands])).cy hf.2] at this;exact this
 case field t a i =>
  cases hf:flat (ρ a) with
  | false=>rw [hf] at ho;cases ho
  | true =>rw [hf] at ho;have:=aW.reckon (n:=n) h ho;rw [←(hρ a (by simp [Op.operands])).cy hf] at this;exact this
 case binOp o t x y yt=>exact Es h ho (hρ x (by simp [Op.operands])) (hρ y (by simp [Op.operands]))
 case unOp o t x =>
  cases hf:flat (ρ x) with
  | false=>rw [hf] at ho;cases ho
  | true =>rw [hf] at ho;have:=aW.reckon (n:=n) h ho;rw [←(hρ x (by simp [Op.operands])).cy hf] at this;exact this
 case convert s d x =>
  cases hf:flat (ρ x) with
  | false=>rw [hf] at ho;cases ho
  | true =>rw [hf] at ho;have:=aW.reckon (n:=n) h ho;rw [←(hρ x (by simp [Op.operands])).cy hf] at this;exact this
 case makeInterface t x =>
  cases hf:flat (ρ x) with
  | false=>rw [hf] at ho;cases ho
  | true =>rw [hf] at ho;have:=aW.reckon (n:=n) h ho;rw [←(hρ x (by simp [Op.operands])).cy hf] at this;exact this
 case typeAssert x t d ok =>
  cases hf:flat (ρ x) with
  | false=>rw [hf] at ho;cases ho
  | true =>rw [hf] at ho;have:=aW.reckon (n:=n) h ho;rw [←(hρ x (by simp [Op.operands])).cy hf] at this;exact this
 case extract x i=>exact w8 h ho (hρ x (by simp [Op.operands]))
 case makeFunc fn first captured =>
  have:=vb (T:=T) (n:=n) h ho (bW.map (ρ:=ρ) (ρ':=ρ') (l:=first.toList) fun x hx=>hρ x (by simp [Op.operands];exact .inl (by simpa using hx)))
   (bW.map (ρ:=ρ) (ρ':=ρ') (l:=captured.toList) fun x hx=>hρ x (by simp [Op.operands];exact .inr (by simpa using hx)))
  have e1:(first.toList.map ρ').toArray=first.map ρ':=by apply Array.ext';simp
  have e2:(captured.toList.map ρ').toArray=captured.map ρ':=by apply Array.ext';simp
  rw [e1,e2] at this;exact this
 case nilCheck x =>
  obtain ⟨a,hx,rfl,rfl⟩:=vc ho;have hv:=hρ x (by simp [Op.operands]);rw [hx] at hv
  have hp:∃ a',ρ' x=.pointer (some a'):=by
   generalize ρ' x=y at hv
   cases hv with
   | flat hf=>exact ⟨a,rfl⟩
   | ptr=>exact ⟨_,rfl⟩
  obtain ⟨a',ha'⟩:=hp;refine .pure h (v':=.pointer (some a')) ?_ (by rw [←ha'];exact hv);simp [execOp,ha']
 case slice t x lo hi mx =>
  cases mx with
  | some m =>
   cases hi with
   | none=>cases ho
   | some hi =>simp only [Option.map_eq_some_iff,Prod.mk.injEq] at ho;obtain ⟨u,hu,rfl,rfl⟩:=ho;have rlo:=nG.map (γ:=γ) (ρ:=ρ) (ρ':=ρ') (x:=lo) fun y hy=>hρ y (by subst hy;simp [Op.operands]);exact yU hT h hu (hρ x (by simp [Op.operands])) rlo (hρ hi (by simp [Op.operands])) (hρ m (by simp [Op.operands]))
  | none =>
   simp only at ho;have hvx:=hρ x (by simp [Op.operands]);have rlo:=nG.map (γ:=γ) (ρ:=ρ) (ρ':=ρ') (x:=lo) fun y hy=>hρ y (by subst hy;simp [Op.operands]);have rhi:=nG.map (γ:=γ) (ρ:=ρ) (ρ':=ρ') (x:=hi) fun y hy=>hρ y (by subst hy;simp [Op.operands]);show aW T.P γ g w n (do Pure.pure (Next.value (←Instr.sliceAt t (ρ' x) (lo.map ρ') (hi.map ρ') none))) v e;unfold fu at ho;split at ho
   ·rename_i s hs
    cases hf:((lo.map ρ).toList.all flat && (hi.map ρ).toList.all flat) with
    | false=>rw [hf] at ho;cases ho
    | true =>rw [hf] at ho;simp only [qq7] at hf;rw [rlo.cy hf.1,rhi.cy hf.2,hvx.cy (by rw [hs];rfl)];exact aW.reckon h ho
   ·simp only [Option.map_eq_some_iff,Prod.mk.injEq] at ho;obtain ⟨u,hu,rfl,rfl⟩:=ho;exact vg hT h hu hvx rlo rhi
   ·simp only [Option.map_eq_some_iff,Prod.mk.injEq] at ho;obtain ⟨u,hu,rfl,rfl⟩:=ho;exact Ar hT h hu hvx rlo rhi
 case makeSlice t l c=>exact ur hT h hn ho (hρ l (by simp [Op.operands])) (hρ c (by simp [Op.operands]))
 case makeMap t r =>
  cases r with
  | some _=>cases ho
  | none =>simp only [qq9,Prod.mk.injEq] at ho;obtain ⟨rfl,rfl⟩:=ho;exact yY h (hn rfl)
 case lookup t m k ok =>simp only [Option.map_eq_some_iff,Prod.mk.injEq] at ho;obtain ⟨u,hu,rfl,rfl⟩:=ho;exact yX hT h hu (hρ m (by simp [Op.operands])) (hρ k (by simp [Op.operands]))
 case mapEntry t m k=>exact vi hT h ho (hρ m (by simp [Op.operands])) (hρ k (by simp [Op.operands]))
 case entryStore t m s x =>simp only [Option.map_eq_some_iff,Prod.mk.injEq] at ho;obtain ⟨u,hu,rfl,rfl⟩:=ho;exact so h hu (hρ m (by simp [Op.operands])) (hρ s (by simp [Op.operands])) (hρ x (by simp [Op.operands]))
 case mapUpdate t m k x =>simp only [Option.map_eq_some_iff,Prod.mk.injEq] at ho;obtain ⟨u,hu,rfl,rfl⟩:=ho;exact uw hT h hu (hρ m (by simp [Op.operands])) (hρ k (by simp [Op.operands])) (hρ x (by simp [Op.operands]))
 case range t x=>exact xe hT h hn ho (hρ x (by simp [Op.operands]))
 case next it s =>
  cases s with
  | false=>cases ho
  | true=>exact xg h ho (hρ it (by simp [Op.operands]))
 case entry it=>exact Au h ho (hρ it (by simp [Op.operands]))
 case call c =>
  obtain ⟨callee,args,tys⟩:=c;unfold Ai at ho
  cases callee with
  | value f=>cases ho
  | invoke r m=>cases ho
  | builtin b =>
   simp only at ho;have:=xh (ty:=ty) (cs:=args.map fun|.const _=>true|_=>false) hT h hn ho (bW.map (ρ:=ρ) (ρ':=ρ') (l:=args.toList) fun x hx=>hρ x (by simp [Op.operands,Call.operands];simpa using hx));have e1:(args.toList.map ρ').toArray=args.map ρ':=by apply Array.ext';simp
   rw [e1] at this;have e2:execOp ρ' ⟨dst,.call ⟨.builtin b,args,tys⟩,ty,pos,after,guard⟩=builtin b tys ty (args.map fun|.const _=>true|_=>false) (args.map ρ'):=rfl;rw [e2];simpa using this
 all_goals cases ho
end
end Go.RM
namespace Go.RM
def nH:Option bx→Bool
 | some (.loop ..)=>true
 | _=>false
def xV (g:aN):bX→Prop
 | .put k _|.app k _=>g k ≠ none∧nH (g k)=false
 | _=>True
def tw (l:List Nat):bX→Prop
 | .put k _|.app k _=>k ∈ l
 | _=>True
section
variable {T : bG} {n : Nat} {g g' : aN}
theorem nJ {k:Nat} {x:List Value × Bool × Nat} (h:cells? (g k)=some x):g k ≠ none∧nH (g k)=false:=by
 generalize g k=b at h
 cases b with
 | none=>cases h
 | some b=>cases b <;> first|exact ⟨by simp,rfl⟩|cases h
theorem sq {k:Nat} {x:List MapEntry × Nat} (h:map? (g k)=some x):g k ≠ none∧nH (g k)=false:=by
 generalize g k=b at h
 cases b with
 | none=>cases h
 | some b=>cases b <;> first|exact ⟨by simp,rfl⟩|cases h
theorem sv {v:Value} {k o:Nat} (h:addr? v=some (k,o)):k ∈ cx v:=by rw [xS h];simp [cx]
theorem gW {v:Value} {k:Nat} (h:gE v=some k):k ∈ cx v:=by rw [vh h];simp [cx]
def oW (g:aN) (l:List Nat) (e:bX):Prop:=xV g e∧tw l e
theorem eZ {o:Option Value} {v:Value} {e:bX} {l:List Nat} (h:cS o=some (v,e)):oW g l e:=by obtain ⟨_,_,rfl⟩:=pY h;exact ⟨trivial,trivial⟩
theorem Co {t:TypeId} {a x v:Value} {e:bX} (h:jV T t a x g=some (v,e)):oW g (cx a) e:=by
 unfold jV at h;split at h
 ·rename_i k o ha
  cases hc:cells? (g k) with
  | none=>rw [hc] at h;cases h
  | some c =>
   obtain ⟨cs,own,es⟩:=c
   cases ht:T.ty.get t with
   | none=>rw [hc,ht] at h;cases h
   | some r =>
    obtain ⟨jP,s,bytes,zero,agg,cu,cE⟩:=r;rw [hc,ht] at h;simp only at h;cases hb:(own && Nat.beq x.cells.toList.length s && Nat.ble (o+s) cs.length && x.cells.toList.all bw) <;> rw [hb] at h
    ·cases h
    ·simp at h;obtain ⟨_,rfl⟩:=h;exact ⟨nJ hc,sv ha⟩
 ·cases h
theorem xj {t:TypeId} {m k v:Value} {e:bX} (h:eo T t m k g=some (v,e)):oW g (cx m) e:=by
 unfold eo at h;split at h
 ·rename_i kt z r _ hr;split at h
  ·rename_i es clock hm;unfold lI at h;split at h
   ·split at h
    ·rename_i x _;cases hb:Instr.sameBits 10000 x.key k <;> rw [hb] at h
     ·cases h
     ·simp at h;obtain ⟨_,rfl⟩:=h;exact ⟨sq hm,gW hr⟩
    ·cases h
   ·rename_i z _ _;cases hb:flat z <;> rw [hb] at h
    ·cases h
    ·simp at h;obtain ⟨_,rfl⟩:=h;exact ⟨sq hm,gW hr⟩
   ·cases h
  ·cases h
 ·cases h
theorem ux {m s v:Value} {e:bX} (h:cW m s v g=some e):oW g (cx m) e:=by
 unfold cW at h;split at h
 ·rename_i r _ hr _;split at h
  ·rename_i es clock hm;split at h
   ·simp at h;subst h;exact ⟨sq hm,gW hr⟩
   ·cases h
  ·cases h
 ·cases h
theorem vk {t:TypeId} {m k v:Value} {e:bX} (h:dZ T t m k v g=some e):oW g (cx m) e:=by
 unfold dZ at h;split at h
 ·rename_i kt _ r _ hr;split at h
  ·rename_i es clock hm;unfold mc at h;split at h
   ·split at h
    ·rename_i x _;cases hb:Instr.sameBits 10000 x.key k <;> rw [hb] at h
     ·cases h
     ·simp at h;subst h;exact ⟨sq hm,gW hr⟩
    ·cases h
   ·simp at h;subst h;exact ⟨sq hm,gW hr⟩
   ·cases h
  ·cases h
 ·cases h
theorem Aw {t:TypeId} {s x v:Value} {e:bX} (h:fJ T n t s x g=some (v,e)):oW g (cx s) e:=by
 unfold fJ at h;split at h
 ·rename_i inf _;split at h
  ·rename_i base ln cp;split at h
   ·rename_i m old new _ _ _;cases hb:(Nat.ble ((ln+m) * inf.bytes) 140737488355328 && Nat.ble (ln+m) 9223372036854775807 && new.all bw && bL inf) <;> rw [hb] at h
    ·cases h
    ·simp only [cond_true] at h;cases hm:Nat.beq m 0 <;> rw [hm] at h
     ·simp only [cond_false] at h;unfold gn at h;cases hc:Nat.beq cp ln <;> rw [hc] at h
      ·simp only [cond_false] at h;cases hin:Nat.ble (ln+m+3) cp <;> rw [hin] at h
       rotate_left
       ·simp only [cond_true] at h;unfold jT at h;split at h
        ·split at h
         ·rename_i k o _ _ cs own es hcs;cases hd:(own && Nat.ble (o+(ln+m) * inf.size) cs.length) <;> rw [hd] at h
          ·cases h
          ·simp at h;obtain ⟨_,rfl⟩:=h;exact ⟨nJ hcs,by simp [cx,tw]⟩
         ·cases h
        ·cases h
       simp only [cond_false] at h;split at h
       ·rename_i k;split at h
        ·rename_i cs own es hcs;cases hd:(own && Nat.beq cp (ln+1) && Nat.beq cs.length (ln * inf.size) && Nat.beq es inf.size) <;> rw [hd] at h
         ·cases h
         ·simp at h;obtain ⟨_,rfl⟩:=h;exact ⟨nJ hcs,by simp [cx,tw]⟩
        ·cases h
       ·cases h
      ·simp at h;obtain ⟨_,rfl⟩:=h;exact ⟨trivial,trivial⟩
     ·simp at h;obtain ⟨_,rfl⟩:=h;exact ⟨trivial,trivial⟩
   ·cases h
  ·cases h
 ·cases h
theorem vl {it v:Value} {e:bX} (h:jW it g=some (v,e)):xV g e:=by
 unfold jW at h;split at h
 ·rename_i r _;split at h
  ·rename_i s pos hr;cases hb:Nat.blt pos s.data.toList.length <;> rw [hb] at h
   ·simp at h;obtain ⟨_,rfl⟩:=h;trivial
   ·simp at h;obtain ⟨_,rfl⟩:=h;exact ⟨by rw [hr];simp,by rw [hr];rfl⟩
  ·cases h
 ·cases h
theorem FQ {P:Program} {l:List Value} {v:Value} {e:bX} {ks:List Nat} (h:yL P l=some (v,e)):oW g ks e:=by
 unfold yL at h;split at h
 ·simp at h;obtain ⟨_,rfl⟩:=h;exact ⟨trivial,trivial⟩
 ·cases hb:l.all flat <;> rw [hb] at h
  ·cases h
  ·exact eZ h
theorem FR {P:Program} {l:List Value} {v:Value} {e:bX} {ks:List Nat} (h:yM P l=some (v,e)):oW g ks e:=by
 unfold yM at h;split at h
 ·simp at h;obtain ⟨_,rfl⟩:=h;exact ⟨trivial,trivial⟩
 ·cases hb:l.all flat <;> rw [hb] at h
  ·cases h
  ·exact eZ h
theorem Cp {t:TypeId} {x v:Value} {e:bX} {ks:List Nat} (h:jX T t x g=some (v,e)):oW g ks e:=by
 unfold jX at h;split at h
 ·simp at h;obtain ⟨_,rfl⟩:=h;exact ⟨trivial,trivial⟩
 ·split at h
  ·simp at h;obtain ⟨_,rfl⟩:=h;exact ⟨trivial,trivial⟩
  ·cases h
 ·simp at h;obtain ⟨_,rfl⟩:=h;exact ⟨trivial,trivial⟩
 ·simp at h;obtain ⟨_,rfl⟩:=h;exact ⟨trivial,trivial⟩
 ·cases h
def Ay (o:Op) (ρ:Operand→Value):List Nat :=
 match o with
 | .store _ a _=>cx (ρ a)
 | .mapEntry _ m _=>cx (ρ m)
 | .entryStore _ m _ _=>cx (ρ m)
 | .mapUpdate _ m _ _=>cx (ρ m)
 | .call ⟨.builtin .append,args,_⟩=>match args.toList.map ρ with
  | [s,_]=>cx s
  | _=>[]
 | .call ⟨.builtin .clear,args,_⟩=>match args.toList.map ρ with
  | [x]=>cx x
  | _=>[]
 | .call ⟨.builtin .copy,args,_⟩=>match args.toList.map ρ with
  | [x,_]=>cx x
  | _=>[]
 | _=>[]
theorem Cq {t:TypeId} {x v:Value} {e:bX} (h:nB T t x g=some (v,e)):oW g (cx x) e:=by
 unfold nB at h;split at h
 ·split at h
  ·rename_i hm;simp at h;obtain ⟨_,rfl⟩:=h;exact ⟨sq hm,by simp [cx,tw]⟩
  ·cases h
 ·split at h
  ·rename_i _ k o nn _ _ _ _ inf cs own es _ hcs;cases hb:(Nat.ble 1 nn && own && bL inf && Nat.ble (o+nn * inf.size) cs.length) <;> rw [hb] at h
   ·cases h
   ·simp at h;obtain ⟨_,rfl⟩:=h;exact ⟨nJ hcs,by simp [cx,tw]⟩
  ·cases h
 ·cases h
theorem Ew {t:TypeId} {d x v:Value} {e:bX} (h:tj T t d x g=some (v,e)):oW g (cx d) e:=by
 unfold tj at h;split at h
 ·rename_i k o nn _;split at h
  ·rename_i inf cs own es m he hc hm;split at h
   ·rename_i new hro;cases hb:(own && (Nat.ble 1 nn && Nat.ble m nn) && new.all bw && Nat.ble (o+nn * inf.size) cs.length) <;> rw [hb] at h
    ·cases h
    ·simp at h;obtain ⟨_,rfl⟩:=h;exact ⟨nJ hc,by simp [cx,tw]⟩
   ·cases h
  ·cases h
 ·cases h
theorem bY {ks:List Nat}:oW g ks .none:=⟨trivial,trivial⟩
theorem mA {ks:List Nat} {b:bx}:oW g ks (.new b):=⟨trivial,trivial⟩
theorem oA {o:Op} {ρ:Operand→Value} {v:Value} {e:bX} (h:jH T n o ρ g=some (v,e)):xV g e∧((∀ it,o ≠ .next it true)→tw (Ay o ρ) e):=by
 have key:∀ {ks:List Nat},oW g ks e→Ay o ρ=ks→xV g e∧((∀ it,o ≠ .next it true)→tw (Ay o ρ) e):=fun hk he=>⟨hk.1,fun _=>by rw [he];exact hk.2⟩;cases o <;> simp only [jH] at h
 case move x=>simp at h;obtain ⟨_,rfl⟩:=h;exact key bY rfl
 case assign x=>simp at h;obtain ⟨_,rfl⟩:=h;exact key bY rfl
 case pick c a b =>
  unfold tq at h;split at h
  ·simp at h;obtain ⟨_,rfl⟩:=h;exact key bY rfl
  ·cases h
 case alloc t =>
  unfold rW at h;split at h
  ·rename_i z _ _ _ _;cases hb:z.cells.toList.all bf <;> rw [hb] at h
   ·cases h
   ·simp at h;obtain ⟨_,rfl⟩:=h;exact key mA rfl
  ·cases h
 case box t x =>
  unfold Ek at h;cases hb:(ρ x).cells.toList.all bw <;> rw [hb] at h
  ·cases h
  ·simp at h;obtain ⟨_,rfl⟩:=h;exact key mA rfl
 case build t parts =>
  unfold pX at h;split at h
  ·rename_i z _ _ _;cases hb:z.cells.toList.all bf <;> rw [hb] at h
   ·cases h
   ·simp only [cond_true,Option.map_eq_some_iff,Prod.mk.injEq] at h;obtain ⟨_,_,_,rfl⟩:=h;exact key bY rfl
  ·cases h
 case buildSlice t len parts =>
  unfold gF at h;split at h
  ·rename_i inf _;cases hb:(Nat.ble (len * inf.size) 65536 && bL inf) <;> rw [hb] at h
   ·cases h
   ·simp only [cond_true] at h;split at h
    ·simp at h;obtain ⟨_,rfl⟩:=h;exact key mA rfl
    ·cases h
  ·cases h
 case load t a =>
  unfold gT at h;split at h
  ·split at h
   ·rename_i s _ _ agg _ _ _ _;cases agg
    ·simp only [cond_false,Option.map_eq_some_iff,Prod.mk.injEq] at h;obtain ⟨_,_,_,rfl⟩:=h;exact key bY rfl
    ·simp only [cond_true,Option.map_eq_some_iff,Prod.mk.injEq] at h;obtain ⟨_,_,_,rfl⟩:=h;exact key bY rfl
   ·cases h
  ·cases h
 case store t a x=>exact key (Co h) rfl
 case fieldAddr t a i =>
  unfold dJ at h;split at h
  ·split at h
   ·rename_i s _;cases hb:Nat.ble 1 s <;> rw [hb] at h
    ·cases h
    ·simp at h;obtain ⟨_,rfl⟩:=h;exact key bY rfl
   ·cases h
  ·cases h
 case indexAddr t a ix =>
  have hi:∀ {cE k o len:Nat} {j:Int},oV cE k o len j=some (v,e)→oW g [] e:=by
   intro cE k o len j h;unfold oV at h;cases hb:(FF 0 j && El j (.ofNat len)) <;> rw [hb] at h
   ·cases h
   ·simp at h;obtain ⟨_,rfl⟩:=h;exact bY
  unfold dK at h;split at h
  ·split at h
   ·exact key (hi h) rfl
   ·cases h
  ·split at h
   ·exact key (hi h) rfl
   ·cases h
  ·cases h
 case index t a ix =>
  cases hb:(flat (ρ a) && flat (ρ ix)) <;> rw [hb] at h
  ·unfold me at h;simp only [cond_false] at h;split at h
   ·split at h
    ·rw [cond_eq_ite] at h;split at h
     ·split at h
      ·cases h;exact key bY rfl
      ·cases h
     ·cases h
    ·cases h
   ·cases h
  ·exact key (eZ h) rfl
 case field t a i =>
  cases hb:flat (ρ a) <;> rw [hb] at h
  ·cases h
  ·exact key (eZ h) rfl
 case binOp o t x y yt =>
  have hs:∀ {a b:Value},gp T.P o t x y a b=some (v,e)→oW g [] e:=by
   intro a b h;unfold gp at h;cases hb:(flat a && flat b) <;> rw [hb] at h
   ·cases h
   ·exact eZ h
  unfold dQ at h;split at h
  ·split at h
   ·simp at h;obtain ⟨_,rfl⟩:=h;exact key bY rfl
   ·exact key (hs h) rfl
  ·rw [cond_eq_ite] at h;split at h
   ·unfold jD at h;split at h
    ·simp at h;obtain ⟨_,rfl⟩:=h;exact key bY rfl
    ·simp at h;obtain ⟨_,rfl⟩:=h;exact key bY rfl
    ·cases h
   ·cases h
  ·rw [cond_eq_ite] at h;split at h
   ·unfold jD at h;split at h
    ·simp at h;obtain ⟨_,rfl⟩:=h;exact key bY rfl
    ·simp at h;obtain ⟨_,rfl⟩:=h;exact key bY rfl
    ·cases h
   ·cases h
  ·exact key (hs h) rfl
 case unOp o t x =>
  cases hb:flat (ρ x) <;> rw [hb] at h
  ·cases h
  ·exact key (eZ h) rfl
 case convert s d x =>
  cases hb:flat (ρ x) <;> rw [hb] at h
  ·cases h
  ·exact key (eZ h) rfl
 case makeInterface t x =>
  cases hb:flat (ρ x) <;> rw [hb] at h
  ·cases h
  ·exact key (eZ h) rfl
 case typeAssert x t d ok =>
  cases hb:flat (ρ x) <;> rw [hb] at h
  ·cases h
  ·exact key (eZ h) rfl
 case extract x i =>
  unfold fq at h;split at h
  ·simp only [Option.map_eq_some_iff,Prod.mk.injEq] at h;obtain ⟨_,_,_,rfl⟩:=h;exact key bY rfl
  ·cases h
 case makeFunc fn first captured =>
  unfold lK at h;split at h
  ·simp at h;obtain ⟨_,rfl⟩:=h;exact key bY rfl
  ·cases h
 case nilCheck x =>
  unfold iB at h;split at h
  ·simp at h;obtain ⟨_,rfl⟩:=h;exact key bY rfl
  ·cases h
 case slice t x lo hi mx =>
  cases mx with
  | some _ =>
   cases hi with
   | none=>cases h
   | some hi =>simp only [Option.map_eq_some_iff,Prod.mk.injEq] at h;obtain ⟨_,_,_,rfl⟩:=h;exact key bY rfl
  | none =>
   simp only at h;unfold fu at h;split at h
   ·cases hb:((lo.map ρ).toList.all flat && (hi.map ρ).toList.all flat) <;> rw [hb] at h
    ·cases h
    ·exact key (eZ h) rfl
   ·simp only [Option.map_eq_some_iff,Prod.mk.injEq] at h;obtain ⟨_,_,_,rfl⟩:=h;exact key bY rfl
   ·simp only [Option.map_eq_some_iff,Prod.mk.injEq] at h;obtain ⟨_,_,_,rfl⟩:=h;exact key bY rfl
 case makeSlice t l c =>
  unfold iA at h;split at h
  ·rename_i inf _;split at h
   ·rename_i l c _ _;cases hb:(Nat.ble l c && Nat.ble (inf.bytes * c) 140737488355328 && Nat.ble c 9223372036854775807 && bL inf) <;> rw [hb] at h
    ·cases h
    ·simp at h;obtain ⟨_,rfl⟩:=h;exact key mA rfl
   ·cases h
  ·cases h
 case makeMap t r =>
  cases r with
  | some _=>cases h
  | none=>simp at h;obtain ⟨_,rfl⟩:=h;exact key mA rfl
 case lookup t m k ok =>simp only [Option.map_eq_some_iff,Prod.mk.injEq] at h;obtain ⟨_,_,_,rfl⟩:=h;exact key bY rfl
 case mapEntry t m k=>exact key (xj h) rfl
 case entryStore t m s x =>simp only [Option.map_eq_some_iff,Prod.mk.injEq] at h;obtain ⟨_,hu,_,rfl⟩:=h;exact key (ux hu) rfl
 case mapUpdate t m k x =>simp only [Option.map_eq_some_iff,Prod.mk.injEq] at h;obtain ⟨_,hu,_,rfl⟩:=h;exact key (vk hu) rfl
 case range t x =>
  unfold rY at h;split at h
  ·split at h
   ·simp at h;obtain ⟨_,rfl⟩:=h;exact key mA rfl
   ·cases h
  ·simp at h;obtain ⟨_,rfl⟩:=h;exact key mA rfl
  ·cases h
 case next it s =>
  cases s with
  | false=>cases h
  | true=>exact ⟨vl h,fun hn=>absurd rfl (hn it)⟩
 case entry it =>
  unfold rZ at h;split at h
  ·split at h
   ·split at h
    ·rw [cond_eq_ite] at h;split at h <;> rename_i hb
     ·simp only [Option.map_eq_some_iff,Prod.mk.injEq] at h;obtain ⟨_,_,_,rfl⟩:=h;exact key bY rfl
     ·cases h
    ·cases h
   ·cases h
  ·cases h
 case call c =>
  obtain ⟨callee,args,tys⟩:=c;unfold Ai at h
  cases callee with
  | value f=>cases h
  | invoke r m=>cases h
  | builtin b =>
   simp only at h;unfold gU at h;split at h
   ·split at h
    ·exact key (Cp (ks:=[]) h) rfl
    ·cases h
   ·exact key (FQ (ks:=[]) h) rfl
   ·exact key (FR (ks:=[]) h) rfl
   ·split at h
    ·rename_i x t ha _;refine key (Cq h) ?_;simp only [Ay];rw [ha]
    ·cases h
   ·split at h
    ·rename_i d x t u ha _;refine key (Ew h) ?_;simp only [Ay];rw [ha]
    ·cases h
   ·split at h
    ·rename_i s x t u ha _;split at h
     ·refine key (Aw h) ?_;unfold Ay;simp only [ha]
     ·cases h
    ·cases h
   ·cases h
 all_goals cases h
theorem Az {it:Value} {L:List (Value × bX)} (h:qq it g=some L):∀ p ∈ L,xV g p.2:=by
 unfold qq at h;split at h
 ·rename_i r;split at h
  ·rename_i m since seen last hr;split at h
   ·rename_i es clock hm;unfold uV at h;intro p hp
    cases hb:(!seen.isEmpty && !es.isEmpty && es.all (fun e=>Nat.ble last e.born)) with
    | true=>rw [hb] at h;cases h
    | false =>
     rw [hb] at h;simp only [cond_false,qq9] at h;subst h
     rcases List.mem_append.1 hp with hp|hp
     ·revert hp;generalize (List.filter (fun e=>decide (e.born < since)) (List.filter (fun e=>!seen.contains e.born) es))=old
      cases old with
      | nil=>simp only [List.isEmpty_nil,cond_true,List.mem_singleton];intro e;subst e;trivial
      | cons=>simp
     ·obtain ⟨x,_,rfl⟩:=List.mem_map.1 hp;exact ⟨by rw [hr];simp,by rw [hr];rfl⟩
   ·cases h
  ·cases h
 ·cases h
theorem nK {size:Nat} {v:Value} (h:∀ k ∈ cx v,g' k=g k):bI g' size v=bI g size v:=by
 unfold bI;split
 ·rfl
 ·rw [h _ (by simp [cx])]
 ·rfl
theorem xm {t:TypeId} {s x:Value} (hs:∀ k ∈ cx s,g' k=g k) (hx:∀ k ∈ cx x,g' k=g k):fJ T n t s x g'=fJ T n t s x g:=by
 unfold fJ;have e1:∀ size,bI g' size x=bI g size x:=fun _=>nK hx;have e2:∀ size,bI g' size s=bI g size s:=fun _=>nK hs;simp only [e1,e2];split
 ·split
  ·rename_i base ln cp
   have hb:∀ inf m old new,gn n inf base ln cp m old new g'=gn n inf base ln cp m old new g:=by
    intro inf m old new
    have hi:jT inf base ln cp m new g'=jT inf base ln cp m new g:=by
     unfold jT;split
     ·rename_i k o;rw [hs k (by simp [cx])]
     ·rfl
    unfold gn;rw [hi];split
    ·rename_i k;rw [hs k (by simp [cx])]
    ·rfl
   simp only [hb]
  ·rfl
 ·rfl
theorem AA {t:TypeId} {a:Value} (h:∀ k ∈ cx a,g' k=g k):gT T t a g'=gT T t a g:=by
 unfold gT
 cases ha:addr? a with
 | none=>rfl
 | some p=>simp only;rw [h p.1 (sv (o:=p.2) ha)]
theorem y6 {t:TypeId} {a v:Value} (h:∀ k ∈ cx a,g' k=g k):jV T t a v g'=jV T t a v g:=by
 unfold jV
 cases ha:addr? a with
 | none=>rfl
 | some p=>simp only;rw [h p.1 (sv (o:=p.2) ha)]
theorem xo {t:TypeId} {m k:Value} {ok:Bool} (h:∀ k ∈ cx m,g' k=g k):kK T t m k ok g'=kK T t m k ok g:=by
 unfold kK
 cases hm:gE m with
 | none=>rfl
 | some r=>simp only [Option.bind_some];rw [h r (gW hm)]
theorem uy {t:TypeId} {m k:Value} (h:∀ k ∈ cx m,g' k=g k):eo T t m k g'=eo T t m k g:=by
 unfold eo
 cases hm:gE m with
 | none=>cases jU T t <;> rfl
 | some r=>cases jU T t with
  | none=>rfl
  | some p=>simp only [h r (gW hm)]
theorem qF {m s v:Value} (h:∀ k ∈ cx m,g' k=g k):cW m s v g'=cW m s v g:=by
 unfold cW
 cases hm:gE m with
 | none=>rfl
 | some r=>cases intOf? s with
  | none=>rfl
  | some p=>simp only [h r (gW hm)]
theorem sx {t:TypeId} {m k v:Value} (h:∀ k ∈ cx m,g' k=g k):dZ T t m k v g'=dZ T t m k v g:=by
 unfold dZ
 cases hm:gE m with
 | none=>cases jU T t <;> rfl
 | some r=>cases jU T t with
  | none=>rfl
  | some p=>simp only [h r (gW hm)]
theorem y7 {t:TypeId} {x:Value} (h:∀ k ∈ cx x,g' k=g k):jX T t x g'=jX T t x g:=by
 unfold jX;split
 ·rfl
 ·rw [h _ (by simp [cx])]
 ·rfl
 ·rfl
 ·rfl
theorem xW {o:Op} {ρ:Operand→Value} {r wr:List Nat} (ht:pg o ρ=some (r,wr)) (hr:∀ k ∈ r,g' k=g k) (hw:∀ k ∈ wr,g' k=g k):jH T n o ρ g'=jH T n o ρ g:=by
 cases o <;> simp only [jH] <;> simp only [pg,qq9,Prod.mk.injEq,reduceCtorEq] at ht
 case load t a=>obtain ⟨rfl,rfl⟩:=ht;exact AA hr
 case store t a x=>obtain ⟨rfl,rfl⟩:=ht;exact y6 hw
 case lookup t m k ok=>obtain ⟨rfl,rfl⟩:=ht;rw [xo hr]
 case mapEntry t m k=>obtain ⟨rfl,rfl⟩:=ht;exact uy hw
 case entryStore t m s x=>obtain ⟨rfl,rfl⟩:=ht;rw [qF hw]
 case mapUpdate t m k x=>obtain ⟨rfl,rfl⟩:=ht;rw [sx hw]
 case makeMap t r=>cases r <;> rfl
 case slice t x lo hi mx=>cases mx <;> cases hi <;> rfl
 case call c =>
  obtain ⟨callee,args,tys⟩:=c
  cases callee with
  | value f=>rfl
  | invoke r m=>rfl
  | builtin b =>
   unfold Ai gU;simp only;cases b <;> try rfl
   case clear=>cases ht
   case copy=>cases ht
   case len =>
    simp only at ht;split at ht
    ·rename_i x hx;simp only [qq9,Prod.mk.injEq] at ht;obtain ⟨rfl,rfl⟩:=ht;rw [hx]
     cases tys.toList with
     | nil=>rfl
     | cons t l=>cases l with
      | nil=>exact y7 hr
      | cons=>rfl
    ·cases ht
   case append =>
    simp only at ht;split at ht
    ·rename_i s x hx;simp only [qq9,Prod.mk.injEq] at ht;obtain ⟨rfl,rfl⟩:=ht;rw [hx];have e1:∀ t,fJ T n t s x g'=fJ T n t s x g:=fun _=>xm hw hr
     cases tys.toList with
     | nil=>rfl
     | cons t l=>cases l with
      | nil=>rfl
      | cons u l2=>cases l2 with
       | nil=>simp only [e1]
       | cons=>rfl
    ·cases ht
theorem vm {o:Op} {ρ:Operand→Value} {r wr:List Nat} (ht:pg o ρ=some (r,wr)):(∀ it,o ≠ .next it true)∧Ay o ρ=wr:=by
 refine ⟨fun it e=>(by subst e;cases ht),?_⟩;cases o <;> simp only [pg,qq9,Prod.mk.injEq,reduceCtorEq] at ht <;> try (exact ht.2)
 case call c =>
  obtain ⟨callee,args,tys⟩:=c
  cases callee with
  | value f=>simp only [qq9,Prod.mk.injEq] at ht;exact ht.2
  | invoke r m=>simp only [qq9,Prod.mk.injEq] at ht;exact ht.2
  | builtin b =>
   cases b <;> try (simp only [qq9,Prod.mk.injEq] at ht;exact ht.2)
   case clear=>cases ht
   case copy=>cases ht
   case len =>
    simp only at ht;split at ht
    ·simp only [qq9,Prod.mk.injEq] at ht;exact ht.2
    ·cases ht
   case append =>
    simp only at ht;split at ht
    ·rename_i s x hx;simp only [qq9,Prod.mk.injEq] at ht;simp only [Ay,hx];exact ht.2
    ·cases ht
end
end Go.RM
namespace Go.RM
def Wf (h:Hp):Prop:=∀ k,h.n≤k→h.get k=none
structure cR (a b:Hp):Prop where
 n:a.n≤b.n
 lo:b.lo≤a.lo
 same:∀ k,k < a.n→k < b.lo→b.get k=a.get k
 wf:Wf a→Wf b
 loop:Wf a→∀ k,nH (a.get k)=true→nH (b.get k)=true
theorem cR.refl (a:Hp):cR a a:=⟨qq6 _,qq6 _,fun _ _ _=>rfl,id,fun _ _ h=>h⟩
theorem cR.trans {a b c:Hp} (h:cR a b) (k:cR b c):cR a c :=
 ⟨Nat.le_trans h.n k.n,Nat.le_trans k.lo h.lo,fun i hi hl=>(k.same i (Nat.lt_of_lt_of_le hi h.n) hl).trans (h.same i hi (Nat.lt_of_lt_of_le hl k.lo)),fun hw=>k.wf (h.wf hw),fun hw i hi=>k.loop (h.wf hw) i (h.loop hw i hi)⟩
theorem cR.push (a:Hp) (b:bx):cR a (a.push b) :=
 ⟨Nat.le_succ _,qq6 _,fun k hk _=>by rw [Hp.ey,if_neg (by omega)],fun hw k hk=>by
  have hk':a.n+1≤k:=hk
  rw [Hp.ey,if_neg (by omega)];exact hw k (by omega),fun hw k hk=>by
  have hne:k ≠ a.n:=fun e=>by rw [hw k (by omega)] at hk;cases hk
  rw [Hp.ey,if_neg hne];exact hk⟩
theorem cR.put (a:Hp) (i:Nat) (b:bx) (hi:a.get i ≠ none) (hl:nH (a.get i)=true→nH (some b)=true):cR a (a.put i b) :=
 ⟨qq6 _,Nat.min_le_left _ _,fun k _ hl=>by
  have:k < i:=Nat.lt_of_lt_of_le hl (Nat.min_le_right _ _)
  rw [Hp.jI,if_neg (by omega)],fun hw k hk=>by
  have hk':a.n≤k:=hk
  rw [Hp.jI,if_neg (fun e=>hi (by rw [←e];exact hw k hk'))];exact hw k hk',fun _ k hk=>by
  rw [Hp.jI];split
  ·rename_i e;rw [e] at hk;exact hl hk
  ·exact hk⟩
theorem cR.app (a:Hp) (e:bX) (he:xV a.get e):cR a (a.app e):=by
 cases e with
 | none=>exact .refl a
 | new b=>exact .push a b
 | put k b=>exact .put a k b he.1 (fun h=>by rw [he.2] at h;cases h)
 | app k b=>exact (cR.put a k .dead he.1 (fun h=>by rw [he.2] at h;cases h)).trans (cR.push _ _)
section bind
variable {α β : Type}
theorem xX (f:α→Option (List β)):bM [] f=some []:=rfl
theorem eA (a:α) (f:α→Option (List β)):bM [a] f=f a:=rfl
theorem j8 (a b:α) (l:List α) (f:α→Option (List β)):bM (a :: b :: l) f=match f a with
 | some x=>(bM (b :: l) f).map (x++·)
 | none=>none:=rfl
theorem bu {f:α→Option (List β)}:∀ {L:List α} {M:List β},bM L f=some M→∀ a ∈ L,∃ Ma,f a=some Ma∧∀ b ∈ Ma,b ∈ M
 | [],_,_,a,ha=>by cases ha
 | [x],M,h,a,ha=>by rw [eA] at h;obtain rfl:=List.mem_singleton.1 ha;exact ⟨M,h,fun _ hb=>hb⟩
 | x :: y :: l,M,h,a,ha=>by
  rw [j8] at h
  cases hx:f x with
  | none=>rw [hx] at h;cases h
  | some X =>
   rw [hx] at h;simp only [Option.map_eq_some_iff] at h;obtain ⟨Y,hY,rfl⟩:=h
   rcases List.mem_cons.1 ha with rfl|ha
   ·exact ⟨X,hx,fun b hb=>List.mem_append.2 (.inl hb)⟩
   ·obtain ⟨Ma,h1,h2⟩:=bu hY a ha;exact ⟨Ma,h1,fun b hb=>List.mem_append.2 (.inr (h2 b hb))⟩
theorem gy {f:α→Option (List β)}:∀ {L:List α} {M:List β},bM L f=some M→∀ b ∈ M,∃ a ∈ L,∃ Ma,f a=some Ma∧b ∈ Ma
 | [],M,h,b,hb=>by rw [xX] at h;cases h;cases hb
 | [x],M,h,b,hb=>by rw [eA] at h;exact ⟨x,by simp,M,h,hb⟩
 | x :: y :: l,M,h,b,hb=>by
  rw [j8] at h
  cases hx:f x with
  | none=>rw [hx] at h;cases h
  | some X =>
   rw [hx] at h;simp only [Option.map_eq_some_iff] at h;obtain ⟨Y,hY,rfl⟩:=h
   rcases List.mem_append.1 hb with hb|hb
   ·exact ⟨x,by simp,X,hx,hb⟩
   ·obtain ⟨a,ha,Ma,h1,h2⟩:=gy hY b hb;exact ⟨a,List.mem_cons_of_mem _ ha,Ma,h1,h2⟩
theorem AD {f:α→Option (List β)} {L:List α} {M:List β} (h:bM L f=some M) (hL:L ≠ []) (hf:∀ a ∈ L,∀ Ma,f a=some Ma→Ma ≠ []):M ≠ []:=by
 cases L with
 | nil=>exact absurd rfl hL
 | cons a l =>
  obtain ⟨Ma,h1,h2⟩:=bu h a (by simp);have:=hf a (by simp) Ma h1
  cases Ma with
  | nil=>exact absurd rfl this
  | cons x _=>intro e;subst e;exact absurd (h2 x (by simp)) (by simp)
end bind
def nw.hp:nw→Hp
 | .call _ _ h=>h
 | .round _ _ h=>h
 | .loop _ st=>st.hp
def eH.hp:eH→Hp
 | .ret _ h=>h
 | .out _ st=>st.hp
def Good (a:Hp) {β:Type} (f:β→Hp) (M:List β):Prop:=M ≠ []∧∀ b ∈ M,cR a (f b)
def aS (rec:nw→Option (List eH)):Prop:=∀ j L,rec j=some L→Good j.hp eH.hp L
theorem Good.one {a:Hp} {β:Type} {f:β→Hp} {b:β} (h:cR a (f b)):Good a f [b]:=⟨by simp,fun x hx=>by obtain rfl:=List.mem_singleton.1 hx;exact h⟩
theorem Good.bind {a:Hp} {α β:Type} {f:α→Hp} {f':β→Hp} {L:List α} {M:List β} {k:α→Option (List β)} (h:bM L k=some M) (hL:Good a f L) (hk:∀ x,∀ Mx,k x=some Mx→Good (f x) f' Mx):Good a f' M :=
 ⟨AD h hL.1 fun x _ Mx hx=>(hk x Mx hx).1,fun b hb=>by
  obtain ⟨x,hx,Mx,h1,h2⟩:=gy h b hb
  exact (hL.2 x hx).trans ((hk x Mx h1).2 b h2)⟩
theorem Good.map {a:Hp} {α β:Type} {f:α→Hp} {f':β→Hp} {L:List α} {k:α→β} (hL:Good a f L) (hk:∀ x,f' (k x)=f x):Good a f' (L.map k) :=
 ⟨by intro e;exact hL.1 (List.map_eq_nil_iff.1 e),fun b hb=>by
  obtain ⟨x,hx,rfl⟩:=List.mem_map.1 hb
  rw [hk];exact hL.2 x hx⟩
section
variable {T : bG} {rec : nw → Option (List eH)}
theorem qG (H:Hp) (g:Goal):(jY H g).hp=H:=by cases g <;> rfl
theorem FT {it:Value} {g:aN} {L:List (Value × bX)} (h:qq it g=some L):L ≠ []:=by
 have key:∀ {r m since last clock:Nat} {seen:List Nat} {es:List MapEntry},uV r m since seen last es clock=some L→L ≠ []:=by
  intro r m since last clock seen es h;unfold uV at h
  cases hb:(!seen.isEmpty && !es.isEmpty && es.all (fun e=>Nat.ble last e.born)) with
  | true=>rw [hb] at h;cases h
  | false =>
   rw [hb] at h;simp only [cond_false,qq9] at h;rw [←h];generalize (es.filter fun e=>!seen.contains e.born).filter (fun e=>decide (e.born < since))=old
   cases old with
   | nil=>simp
   | cons x l=>simp
 unfold qq at h;split at h
 ·split at h
  ·split at h
   ·exact key h
   ·cases h
  ·cases h
 ·cases h
theorem j9 (hr:aS rec) {o:Op} {st:St} {L:List (Value × Hp)} (h:eJ T rec o st=some L):Good st.hp (fun p=>p.2) L:=by
 unfold eJ at h;split at h
 ·rename_i f args _;split at h
  ·rename_i g _
   cases hj:rec (jY st.hp g) with
   | none=>rw [hj] at h;cases h
   | some R =>
    rw [hj] at h;have:=hr _ _ hj;rw [qG] at this;refine Good.bind h this fun x Mx hx=>?_
    cases x with
    | ret v hp=>simp only [valOf,qq9] at hx;subst hx;exact .one (.refl _)
    | out e s=>cases hx
  ·cases h
 ·rename_i it _;simp only [Option.map_eq_some_iff] at h;obtain ⟨N,hN,rfl⟩:=h;refine ⟨by intro e;exact FT hN (List.map_eq_nil_iff.1 e),fun p hp=>?_⟩;obtain ⟨⟨v,e⟩,hm,rfl⟩:=List.mem_map.1 hp;exact cR.app _ _ (Az hN _ hm)
 ·split at h
  ·rename_i hop;simp only [qq9] at h;subst h;exact .one (cR.app _ _ (oA hop).1)
  ·cases h
theorem i9 (ops:List Oper) (st:St):bH T rec ops [] st=some [st]:=rfl
theorem dj (ops:List Oper) (o:Oper) (l:List Oper) (st:St):bH T rec ops (o :: l) st =
 cond (bz ops st.fr o.guard)
  (match eJ T rec o.op st with
   | some L=>bM L fun p=>bH T rec ops l ⟨dL st.fr o.dst p.1,p.2,st.rd⟩
   | none=>none)
  (bH T rec ops l ⟨dL st.fr o.dst undef,st.hp,st.rd⟩):=rfl
theorem dw (hr:aS rec) (ops:List Oper):∀ (l:List Oper) (st:St) (L:List St),bH T rec ops l st=some L→Good st.hp St.hp L∧∀ s ∈ L,s.rd=st.rd:=by
 intro l
 induction l with
 | nil=>intro st L h;rw [i9] at h;cases h;exact ⟨.one (.refl _),by simp⟩
 | cons o l ih =>
  intro st L h;rw [dj] at h
  cases hg:bz ops st.fr o.guard with
  | false=>rw [hg] at h;simp only [cond_false] at h;exact ih ⟨dL st.fr o.dst undef,st.hp,st.rd⟩ _ h
  | true =>
   rw [hg] at h;simp only [cond_true] at h
   cases ha:eJ T rec o.op st with
   | none=>rw [ha] at h;cases h
   | some A =>rw [ha] at h;refine ⟨Good.bind h (j9 hr ha) fun p Mx hx=>(ih _ _ hx).1,fun s hs=>?_⟩;obtain ⟨p,_,Mx,h1,h2⟩:=gy h s hs;exact (ih _ _ h1).2 s h2
theorem fN (ops:Array Oper) (i:Nat) (st:St) (acc:List Ev):cv T rec ops [] i st acc=cond (eP T ops acc) (some [st]) none:=rfl
theorem cJ (ops:Array Oper) (o:Oper) (l:List Oper) (i:Nat) (st:St) (acc:List Ev):cv T rec ops (o :: l) i st acc =
 cond (bz ops.toList st.fr o.guard)
  (match cg T rec o.op i st with
   | some (v,hp,t)=>cv T rec ops l (i+1) ⟨dL st.fr o.dst v,hp,st.rd⟩ (⟨o,st,v,hp,t⟩ :: acc)
   | none=>none)
  (cv T rec ops l (i+1) ⟨dL st.fr o.dst undef,st.hp,st.rd⟩ (⟨o,st,undef,st.hp,⟨i,[],[],false,st.hp.n,st.hp.n⟩⟩ :: acc)):=rfl
theorem Cr {n lo k:Nat} (h:k ∈ L4 n lo):lo≤k∧k < n:=by
 unfold L4 at h
 cases hc:Nat.ble n lo with
 | true=>rw [hc] at h;cases h
 | false =>rw [hc] at h;simp only [cond_false,List.mem_range'_1] at h;omega
theorem Iu {n lo k:Nat} (h:k ∉ L4 n lo) (hk:k < n):k < lo:=by
 unfold L4 at h
 cases hc:Nat.ble n lo with
 | true=>have:=Nat.le_of_ble_eq_true hc;omega
 | false =>rw [hc] at h;simp only [cond_false,List.mem_range'_1,not_and,Nat.not_lt] at h;apply Nat.lt_of_not_le;intro hle;have:=h hle;omega
theorem Ex {i:Nat} {st:St} {v:Value} {hp:Hp} (h:Nat.ble st.hp.n hp.lo=true):jZ i st v hp=(v,{hp with lo:=st.hp.lo},⟨i,[],[],true,st.hp.n,hp.n⟩):=by unfold jZ L4;rw [h];rfl
theorem vn {i:Nat} {st:St} {v:Value} {hp:Hp} (hk:cR {st.hp with lo:=st.hp.n} hp):cR st.hp (jZ i st v hp).2.1:=by
 have hn:st.hp.n≤hp.n:=hk.n;refine ⟨hn,?_,fun k hk1 hk2=>?_,hk.wf,hk.loop⟩
 ·show (bif Nat.ble st.hp.n hp.lo then st.hp.lo else min st.hp.lo hp.lo)≤st.hp.lo
  cases Nat.ble st.hp.n hp.lo with
  | true=>exact qq6 _
  | false=>exact Nat.min_le_left _ _
 ·refine hk.same k hk1 ?_;have hk2:k < (bif Nat.ble st.hp.n hp.lo then st.hp.lo else min st.hp.lo hp.lo):=hk2
  cases hc:Nat.ble st.hp.n hp.lo with
  | true=>have:=Nat.le_of_ble_eq_true hc;omega
  | false=>rw [hc] at hk2;simp only [cond_false] at hk2;omega
theorem kN (hr:aS rec) {o:Op} {i:Nat} {st:St} {v:Value} {hp:Hp} {t:Tc} (h:cg T rec o i st=some (v,hp,t)):cR st.hp hp:=by
 unfold cg at h;split at h
 ·split at h
  ·rename_i g _;split at h
   ·rename_i v' hp' hj;have e:=Option.some.inj h;have:=hr _ _ hj;rw [qG] at this;have hk:cR st.hp (jZ i st v' hp').2.1:=vn (this.2 _ (List.mem_singleton.2 rfl));rw [e] at hk;exact hk
   ·cases h
  ·cases h
 ·cases h
 ·split at h
  ·rename_i hop;simp only [qq9,Prod.mk.injEq] at h;obtain ⟨_,rfl,_⟩:=h;exact cR.app _ _ (oA hop).1
  ·cases h
theorem iV (hr:aS rec) (ops:Array Oper):∀ (l:List Oper) (i:Nat) (st:St) (acc:List Ev) (L:List St),cv T rec ops l i st acc=some L→Good st.hp St.hp L∧∀ s ∈ L,s.rd=st.rd:=by
 intro l
 induction l with
 | nil =>
  intro i st acc L h;rw [fN] at h
  cases hc:eP T ops acc with
  | false=>rw [hc] at h;cases h
  | true=>rw [hc] at h;simp at h;subst h;exact ⟨.one (.refl _),by simp⟩
 | cons o l ih =>
  intro i st acc L h;rw [cJ] at h
  cases hg:bz ops.toList st.fr o.guard with
  | false=>rw [hg] at h;simp only [cond_false] at h;exact ih _ ⟨dL st.fr o.dst undef,st.hp,st.rd⟩ _ _ h
  | true =>
   rw [hg] at h;simp only [cond_true] at h
   cases ha:cg T rec o.op i st with
   | none=>rw [ha] at h;cases h
   | some p =>obtain ⟨v,hp,t⟩:=p;rw [ha] at h;have:=ih _ _ _ _ h;have hk:=kN hr ha;exact ⟨⟨this.1.1,fun s hs=>hk.trans (this.1.2 s hs)⟩,this.2⟩
theorem vo (st:St):bJ T rec .skip st=some [(.normal,st)]:=rfl
theorem tA (l:Nat) (st:St):bJ T rec (.label l) st=some [(.normal,st)]:=rfl
theorem lz {ops:Array Oper} {st:St} {L:List St} (h:cK T rec ops st=some L):(∃ c,w7 ops=some c∧Dq T rec ops c st=some L)∨(w7 ops=none∧∃ M,cv T rec ops (ops.toList.take (fS ops)) 0 st []=some M∧bM M (bH T rec ops.toList (ops.toList.drop (fS ops)))=some L):=by
 unfold cK at h;split at h
 ·exact .inl ⟨_,by assumption,h⟩
 ·refine .inr ⟨by assumption,?_⟩;split at h
  ·exact ⟨_,by assumption,h⟩
  ·cases h
theorem gX (ops:Array Oper) (K:St→List Ev→Option (List St)) (o:Oper) (l:List Oper) (i:Nat) (st:St) (acc:List Ev):fK T rec ops (o :: l) K i st acc =
 cond (bz ops.toList st.fr o.guard)
  (match cg T rec o.op i st with
   | some (v,hp,t)=>fK T rec ops l K (i+1) ⟨dL st.fr o.dst v,hp,st.rd⟩ (⟨o,st,v,hp,t⟩ :: acc)
   | none=>none)
  (fK T rec ops l K (i+1) ⟨dL st.fr o.dst undef,st.hp,st.rd⟩ (⟨o,st,undef,st.hp,⟨i,[],[],false,st.hp.n,st.hp.n⟩⟩ :: acc)):=rfl
theorem vp (hr:aS rec) (ops:Array Oper) (K:St→List Ev→Option (List St)):∀ (l:List Oper) (i:Nat) (st:St) (acc:List Ev) (L:List St),fK T rec ops l K i st acc=some L→∃ st' acc',cR st.hp st'.hp∧st'.rd=st.rd∧K st' acc'=some L:=by
 intro l
 induction l with
 | nil=>intro i st acc L h;exact ⟨st,acc,.refl _,rfl,h⟩
 | cons o l ih =>
  intro i st acc L h;rw [gX] at h
  cases hg:bz ops.toList st.fr o.guard with
  | false=>rw [hg] at h;simp only [cond_false] at h;exact ih _ ⟨dL st.fr o.dst undef,st.hp,st.rd⟩ _ _ h
  | true =>
   rw [hg] at h;simp only [cond_true] at h
   cases ha:cg T rec o.op i st with
   | none=>rw [ha] at h;cases h
   | some p =>obtain ⟨v,hp,t⟩:=p;rw [ha] at h;obtain ⟨st',acc',h1,h2,h3⟩:=ih _ _ _ _ h;exact ⟨st',acc',(kN hr ha).trans h1,h2,h3⟩
theorem gG {i:Nat} {st:St} {r:eH} {P:List (Value × Hp × Tc)} (h:FG i st r=some P):∃ v hp,r=.ret v hp∧P=[jZ i st v hp]:=by
 cases r with
 | ret v hp=>exact ⟨v,hp,rfl,(Option.some.inj h).symm⟩
 | out e s=>cases h
theorem xp (hr:aS rec) {o:Op} {i:Nat} {st:St} {P:List (Value × Hp × Tc)} (h:ep T rec o i st=some P):Good st.hp (fun p=>p.2.1) P:=by
 unfold ep at h;split at h
 ·split at h
  ·rename_i g _;split at h
   ·rename_i R hj;have:=hr _ _ hj;rw [qG] at this;refine ⟨AD h this.1 fun r _ Pr hp=>?_,fun p hp=>?_⟩
    ·obtain ⟨v,hp,_,rfl⟩:=gG hp;simp
    ·obtain ⟨r,hrm,Pr,h1,h2⟩:=gy h p hp;obtain ⟨v,hp',rfl,rfl⟩:=gG h1;obtain rfl:=List.mem_singleton.1 h2;exact vn (this.2 _ hrm)
   ·cases h
  ·cases h
 ·cases h
theorem vq (hr:aS rec) {ops:Array Oper} {o:Oper} {i:Nat} {st:St} {P:List (Value × Hp × Tc)} (h:j5 T rec ops o i st=some P):Good st.hp (fun p=>p.2.1) P:=by
 unfold j5 at h
 cases hg:bz ops.toList st.fr o.guard with
 | true =>rw [hg] at h;exact xp hr h
 | false =>rw [hg] at h;simp only [cond_false,qq9] at h;subst h;exact ⟨by simp,fun p hp=>by rw [List.mem_singleton.1 hp];exact .refl _⟩
theorem qa {ops:Array Oper} {c:Nat} {st:St} {acc:List Ev} {L:List St} (h:uZ T rec ops c st acc=some L):∃ o P,ops.toList[c]?=some o∧j5 T rec ops o c st=some P∧(∀ p ∈ P,eP T ops (⟨o,st,p.1,p.2.1,p.2.2⟩ :: acc)=true)∧(bM P fun p=>bH T rec ops.toList (ops.toList.drop (c+1)) ⟨dL st.fr o.dst p.1,p.2.1,st.rd⟩)=some L:=by
 unfold uZ at h;split at h
 ·rename_i o ho;split at h
  ·rename_i P hP
   cases hq:P.all fun p=>eP T ops (⟨o,st,p.1,p.2.1,p.2.2⟩ :: acc) with
   | false=>rw [hq] at h;cases h
   | true =>rw [hq] at h;exact ⟨o,P,ho,hP,List.all_eq_true.1 hq,h⟩
  ·cases h
 ·cases h
theorem Cs (hr:aS rec) (ops:Array Oper) (c:Nat) (st:St) (L:List St) (h:Dq T rec ops c st=some L):Good st.hp St.hp L:=by obtain ⟨st',acc',h1,h2,h3⟩:=vp hr _ _ _ _ _ _ _ h;obtain ⟨o,P,_,hP,_,hL⟩:=qa h3;have hg:=vq hr hP;have hg':Good st.hp (fun p:Value × Hp × Tc=>p.2.1) P:=⟨hg.1,fun p hp=>h1.trans (hg.2 p hp)⟩;exact Good.bind hL hg' fun p Mx hx=>(dw hr _ _ _ _ hx).1
theorem pE (hr:aS rec) (ops:Array Oper) (st:St) (L:List St) (h:cK T rec ops st=some L):Good st.hp St.hp L:=by
 rcases lz h with ⟨c,_,h⟩|⟨_,M,h1,h2⟩
 ·exact Cs hr _ _ _ _ h
 ·exact Good.bind h2 (iV hr _ _ _ _ _ _ h1).1 fun x Mx hx=>(dw hr _ _ _ _ hx).1
theorem gY (id:Nat) (ops:Array Oper) (draw:Bool) (st:St):bJ T rec (.region id ops draw) st =
 match cond draw (cK T rec ops st) (bH T rec ops.toList ops.toList st) with
  | some L=>some (L.map fun s=>(.normal,s))
  | none=>none:=rfl
theorem oB (a b:Code) (st:St):bJ T rec (.seq a b) st=match bJ T rec a st with
 | some L=>bM L (u0 (bJ T rec b))
 | none=>none:=rfl
theorem kg (c:Operand) (a b:Code) (st:St):bJ T rec (.cond c a b) st=match bh st.fr c with
 | .bool t=>cond t (bJ T rec a st) (bJ T rec b st)
 | _=>none:=rfl
theorem kO (id:Nat) (c:Code) (st:St):bJ T rec (.block id c) st=match bJ T rec c st with
 | some L=>some (L.map (fL id))
 | none=>none:=rfl
theorem mB (c:Code) (st:St):bJ T rec (.loop c) st=match rec (.loop c st) with
 | some L=>bM L Aj
 | none=>none:=rfl
theorem vr (id:Nat) (st:St):bJ T rec (.exit id) st=some [(.exit id,st)]:=rfl
theorem xY (st:St):bJ T rec .ret st=some [(.ret,st)]:=rfl
theorem kP (f:Operand) (ps:Array Tmp) (a b:Code) (st:St):bJ T rec (.rangeFunc f ps a b) st=mg rec f ps a b st:=rfl
theorem kQ (c:Code) (st:St):bJ T rec (.scope c) st=u6 (bJ T rec c st):=rfl
theorem nL {o:Option (List (Exit × St))} {L:List (Exit × St)} (h:u6 o=some L):o=some L∧∀ p ∈ L,∀ l,p.1 ≠ .goto l:=by
 unfold u6 at h;split at h
 ·rename_i M
  cases hb:M.all noGoto with
  | false=>rw [hb] at h;cases h
  | true =>rw [hb] at h;simp only [cond_true,qq9] at h;subst h;refine ⟨rfl,fun p hp l e=>?_⟩;have:=List.all_eq_true.1 hb p hp;unfold noGoto at this;rw [e] at this;cases this
 ·cases h
theorem vt (l:Nat) (st:St):bJ T rec (.goto l) st=none:=rfl
theorem qH (y:String) (st:St):bJ T rec (.refuse y) st=none:=rfl
theorem lA {l : Nat} {fr : Tr Value} {rd : Bool} {r : eH} {M : List (Exit × St)} (h : lO l fr rd r = some M) :
    ∃ v hp s pend fr0 ps as bd, r = .ret v hp ∧ hp.get l = some (.loop s pend fr0 ps as bd) ∧ s ≠ .busy ∧
      ((pend = none ∧ M = [(.normal, ⟨fr, hp.put l (.loop .exhausted pend fr0 ps as bd), rd⟩)]) ∨ (pend = some .ret ∧ M = [(.ret, ⟨fr, hp.put l (.loop .exhausted pend fr0 ps as bd), rd⟩)]) ∨
        ∃ id, pend = some (.exit id) ∧ M = [(.exit id, ⟨fr, hp.put l (.loop .exhausted pend fr0 ps as bd), rd⟩)]) := by
  cases r with
  | out e s => cases h
  | ret v hp =>
    unfold lO at h;simp only at h;split at h
    · rename_i s pend fr0 ps as bd hl;refine ⟨v, hp, s, pend, fr0, ps, as, bd, rfl, hl, ?_⟩;have hs : s ≠ .busy := fun e => by subst e; simp at h
      refine ⟨hs, ?_⟩
      cases pend with
      | none => cases s <;> simp at h hs ⊢ <;> exact h.symm
      | some c =>
        cases c with
        | ret => refine .inr (.inl ⟨rfl, ?_⟩); cases s <;> simp at h hs ⊢ <;> exact h.symm
        | exit id => refine .inr (.inr ⟨id, rfl, ?_⟩); cases s <;> simp at h hs ⊢ <;> exact h.symm
        | _ => cases s <;> simp at h
    · cases h
theorem gz (hr:aS rec):∀ (c:Code) (st:St) (L:List (Exit × St)),bJ T rec c st=some L→Good st.hp (fun p=>p.2.hp) L:=by
 intro c
 induction c with
 | skip=>intro st L h;rw [vo] at h;cases h;exact .one (.refl _)
 | label l=>intro st L h;rw [tA] at h;cases h;exact .one (.refl _)
 | exit id=>intro st L h;rw [vr] at h;cases h;exact .one (.refl _)
 | ret=>intro st L h;rw [xY] at h;cases h;exact .one (.refl _)
 | scope c ih=>intro st L h;rw [kQ] at h;exact ih st L (nL h).1
 | goto l=>intro st L h;rw [vt] at h;cases h
 | refuse y=>intro st L h;rw [qH] at h;cases h
 | region id ops draw =>
  intro st L h;rw [gY] at h
  cases draw with
  | true =>
   simp only [cond_true] at h
   cases hx:cK T rec ops st with
   | none=>rw [hx] at h;cases h
   | some R=>rw [hx] at h;simp only [qq9] at h;subst h;exact (pE hr _ _ _ hx).map fun _=>rfl
  | false =>
   simp only [cond_false] at h
   cases hx:bH T rec ops.toList ops.toList st with
   | none=>rw [hx] at h;cases h
   | some R=>rw [hx] at h;simp only [qq9] at h;subst h;exact (dw hr _ _ _ _ hx).1.map fun _=>rfl
 | seq a b iha ihb =>
  intro st L h;rw [oB] at h
  cases hx:bJ T rec a st with
  | none=>rw [hx] at h;cases h
  | some R =>
   rw [hx] at h;refine Good.bind h (iha _ _ hx) fun p Mx hp=>?_;unfold u0 at hp;split at hp
   ·exact ihb _ _ hp
   ·simp only [qq9] at hp;subst hp;exact .one (.refl _)
 | cond c a b iha ihb =>
  intro st L h;rw [kg] at h;split at h
  ·rename_i t _
   cases t with
   | true=>exact iha _ _ h
   | false=>exact ihb _ _ h
  ·cases h
 | block id c ih =>
  intro st L h;rw [kO] at h
  cases hx:bJ T rec c st with
  | none=>rw [hx] at h;cases h
  | some R =>rw [hx] at h;simp only [qq9] at h;subst h;refine (ih _ _ hx).map fun p=>?_;unfold fL;split <;> rfl
 | loop c _ =>
  intro st L h;rw [mB] at h
  cases hx:rec (.loop c st) with
  | none=>rw [hx] at h;cases h
  | some R =>
   rw [hx] at h;refine Good.bind h (hr _ _ hx) fun p Mx hp=>?_
   cases p with
   | ret=>cases hp
   | out e s=>simp only [Aj,qq9] at hp;subst hp;exact .one (.refl _)
 | rangeFunc f ps a b _ _ =>
  intro st L h;rw [kP] at h;unfold mg at h;split at h
  ·rename_i g args _
   cases hx:rec (.call g args (st.hp.push (.loop .ready none st.fr ps a b))) with
   | none=>rw [hx] at h;cases h
   | some R =>rw [hx] at h;have hk:=hr _ _ hx;have hk':Good st.hp eH.hp R:=⟨hk.1,fun r hr'=>(cR.push _ _).trans (hk.2 r hr')⟩;refine Good.bind h hk' fun p Mx hp=>?_;obtain ⟨v,hp2,s,pend,fr0,ps',as',bd',rfl,hgt,_,h1|h1|⟨_,h1⟩⟩:=lA hp <;> (obtain ⟨_,rfl⟩:=h1;exact .one (cR.put hp2 _ _ (by rw [hgt];simp) (fun _=>rfl)))
  ·cases h
theorem ki (f:FuncId) (args:List Value) (hp:Hp):gV T rec (.call f args hp)=match T.fn.get f with
 | some fn=>match fn.body with
  | some c=>match bJ T rec c ⟨setArgs .leaf 0 args,hp,false⟩ with
   | some L=>bM L (eR T fn.results.toList)
   | none=>none
  | none=>none
 | none=>pz T rec f args hp:=rfl
theorem nM (l:Nat) (args:List Value) (hp:Hp):gV T rec (.round l args hp)=match hp.get l with
 | some (.loop .ready _ fr ps as bd)=>cond (Nat.beq args.length ps.toList.length)
  (match bJ T rec as ⟨eu fr (ps.toList.zip args),hp,true⟩ with
  | some L=>bM L (cP T rec l bd)
  | none=>none) none
 | _=>none:=rfl
theorem qb (c:Code) (st:St):gV T rec (.loop c st)=match bJ T rec c st with
 | some L=>bM L (ew rec c)
 | none=>none:=rfl
theorem mC {rs:List ResultVar} {p:Exit × St} {M:List eH} (h:eR T rs p=some M):(p.1=.normal∨p.1=.ret)∧∃ vs,fM T p.2.fr p.2.hp rs=some vs∧M=[.ret (bQ vs) p.2.hp]:=by
 obtain ⟨e,s⟩:=p;unfold eR at h
 cases e with
 | normal=>simp only [Option.map_eq_some_iff] at h;obtain ⟨vs,a,b⟩:=h;exact ⟨.inl rfl,vs,a,b.symm⟩
 | ret=>simp only [Option.map_eq_some_iff] at h;obtain ⟨vs,a,b⟩:=h;exact ⟨.inr rfl,vs,a,b.symm⟩
 | _=>simp at h
theorem kj {l : Nat} {p : Exit × St} {M : List eH} (h : iC l p = some M) : ∃ st pend fr ps as bd, p.2.hp.get l = some (.loop st pend fr ps as bd) ∧
    ((p.1 = .normal ∧ M = [.ret (.bool true) (p.2.hp.put l (.loop .ready none fr ps as bd))]) ∨
     (p.1 = .ret ∧ M = [.ret (.bool false) (p.2.hp.put l (.loop .done (some .ret) fr ps as bd))]) ∨
     ∃ id, p.1 = .exit id ∧ M = [.ret (.bool false) (p.2.hp.put l (.loop .done (some (.exit id)) fr ps as bd))]) := by
  obtain ⟨e, s⟩ := p;unfold iC at h;simp only at h;split at h
  · rename_i st pend fr ps as bd hl;refine ⟨st, pend, fr, ps, as, bd, hl, ?_⟩
    cases e with
    | normal => simp only [qq9] at h; exact .inl ⟨rfl, h.symm⟩
    | ret => simp only [qq9] at h; exact .inr (.inl ⟨rfl, h.symm⟩)
    | exit id => simp only [qq9] at h; exact .inr (.inr ⟨id, rfl, h.symm⟩)
    | _ => simp at h
  · cases h
theorem iG {l:Nat} {body:Code} {p:Exit × St} {M:List eH} (h:cP T rec l body p=some M):p.1=.normal∧∃ pend fr ps as bd R,p.2.hp.get l=some (.loop .ready pend fr ps as bd) ∧
  bJ T rec body ⟨p.2.fr,p.2.hp.put l (.loop .busy pend fr ps as bd),true⟩=some R∧bM R (iC l)=some M:=by
 obtain ⟨e,s⟩:=p;unfold cP at h;have he:e=.normal:=by cases e <;> first|rfl|simp at h
 subst he;simp only at h;split at h
 ·rename_i pend fr ps as bd hl
  cases hy:bJ T rec body ⟨s.fr,s.hp.put l (.loop .busy pend fr ps as bd),true⟩ with
  | none=>rw [hy] at h;cases h
  | some R=>rw [hy] at h;exact ⟨rfl,pend,fr,ps,as,bd,R,hl,hy,h⟩
 ·cases h
theorem nk {f:FuncId} {args:List Value} {hp:Hp} {L:List eH} (h:gV T rec (.call f args hp)=some L) :
  (∃ fn c R,T.fn.get f=some fn∧fn.body=some c∧bJ T rec c ⟨setArgs .leaf 0 args,hp,false⟩=some R∧bM R (eR T fn.results.toList)=some L)∨pz T rec f args hp=some L:=by
 rw [ki] at h
 cases hf:T.fn.get f with
 | none=>rw [hf] at h;exact .inr h
 | some fn =>
  rw [hf] at h;simp only at h
  cases hb:fn.body with
  | none=>rw [hb] at h;cases h
  | some c =>
   rw [hb] at h;simp only at h
   cases hx:bJ T rec c ⟨setArgs .leaf 0 args,hp,false⟩ with
   | none=>rw [hx] at h;cases h
   | some R=>rw [hx] at h;exact .inl ⟨fn,c,R,rfl,hb,hx,h⟩
theorem lR {l:Nat} {args:List Value} {hp:Hp} {L:List eH} (h:gV T rec (.round l args hp)=some L) :
  ∃ pend fr ps as bd R,hp.get l=some (.loop .ready pend fr ps as bd)∧args.length=ps.size∧bJ T rec as ⟨eu fr (ps.toList.zip args),hp,true⟩=some R∧bM R (cP T rec l bd)=some L:=by
 rw [nM] at h;split at h
 ·rename_i pend fr ps as bd hl
  cases hlen:Nat.beq args.length ps.toList.length with
  | false=>rw [hlen] at h;cases h
  | true =>
   rw [hlen] at h;simp only [cond_true] at h
   cases hx:bJ T rec as ⟨eu fr (ps.toList.zip args),hp,true⟩ with
   | none=>rw [hx] at h;cases h
   | some R=>rw [hx] at h;exact ⟨pend,fr,ps,as,bd,R,hl,by simpa using Nat.eq_of_beq_eq_true hlen,hx,h⟩
 ·cases h
theorem nq {c:Code} {st:St} {L:List eH} (h:gV T rec (.loop c st)=some L):∃ R,bJ T rec c st=some R∧bM R (ew rec c)=some L:=by
 rw [qb] at h
 cases hx:bJ T rec c st with
 | none=>rw [hx] at h;cases h
 | some R=>rw [hx] at h;exact ⟨R,rfl,h⟩
theorem kn {c:Code} {p:Exit × St} {M:List eH} (h:ew rec c p=some M):(p.1=.normal∧rec (.loop c p.2)=some M)∨(p.1 ≠ .normal∧M=[.out p.1 p.2]):=by
 obtain ⟨e,s⟩:=p;unfold ew at h
 cases e <;> simp only [qq9] at h <;> first
  | exact .inl ⟨rfl,h⟩
  | exact .inr ⟨by simp,h.symm⟩
def qw.hp:qw→Hp
 | .call _ _ h=>h
 | .loop _ st=>st.hp
def eG.hp:eG→Hp
 | .ret _ h=>h
 | .qn _ h=>h
 | .out _ st=>st.hp
def eB (recP:qw→Option (List eG)):Prop:=∀ j L,recP j=some L→Good j.hp eG.hp L
section
variable {recP : qw → Option (List eG)}
theorem tB {H:Hp} {v:Value} {L:List eG} (h:yN H v=some L):∃ t x,v=.iface t x∧L=[.qn v H]:=by
 unfold yN at h;split at h
 ·rename_i t x;exact ⟨t,x,rfl,(Option.some.inj h).symm⟩
 ·cases h
theorem tC {o:Op} {st:St} {L:List eG} (h:iD T rec recP o st=some L) :
  (∃ x,qx o=some x∧yN st.hp (bh st.fr x)=some L)∨(qx o=none∧∃ g as,uF T o st=some (g,as)∧recP (.call g as st.hp)=some L) ∨
   (qx o=none∧∃ M,eJ T rec o st=some M∧L=M.map fun p=>.ret p.1 p.2):=by
 unfold iD at h;split at h
 ·rename_i x hx;exact .inl ⟨x,hx,h⟩
 ·rename_i hx;split at h
  ·rename_i g as hg;exact .inr (.inl ⟨hx,g,as,hg,h⟩)
  ·simp only [Option.map_eq_some_iff] at h;obtain ⟨M,h1,h2⟩:=h;exact .inr (.inr ⟨hx,M,h1,h2.symm⟩)
theorem nN (hr:aS rec) (hp:eB recP) {o:Op} {st:St} {L:List eG} (h:iD T rec recP o st=some L):Good st.hp eG.hp L:=by
 rcases tC h with ⟨x,_,h⟩|⟨_,g,as,_,h⟩|⟨_,M,h2,rfl⟩
 ·obtain ⟨_,_,_,rfl⟩:=tB h;exact .one (.refl _)
 ·exact hp _ _ h
 ·exact (j9 hr h2).map fun _=>rfl
theorem mD (ops:List Oper) (st:St):cC T rec recP ops [] st=some [(none,st)]:=rfl
theorem iW (ops:List Oper) (o:Oper) (l:List Oper) (st:St):cC T rec recP ops (o :: l) st=cond (bz ops st.fr o.guard)
 (match iD T rec recP o.op st with
  | some L=>bM L (Mb o.dst st (cC T rec recP ops l))
  | none=>none)
 (cC T rec recP ops l ⟨dL st.fr o.dst undef,st.hp,st.rd⟩):=rfl
theorem qI {dst:Option Tmp} {st:St} {k:St→Option (List (Option Value × St))} {r:eG} {M:List (Option Value × St)} (h:Mb dst st k r=some M) :
  (∃ v hp,r=.ret v hp∧k ⟨dL st.fr dst v,hp,st.rd⟩=some M)∨∃ v hp,r=.qn v hp∧M=[(some v,⟨st.fr,hp,st.rd⟩)]:=by
 cases r with
 | ret v hp=>exact .inl ⟨v,hp,rfl,h⟩
 | qn v hp=>exact .inr ⟨v,hp,rfl,(Option.some.inj h).symm⟩
 | out x s=>cases h
theorem gh (hr:aS rec) (hp:eB recP) (ops:List Oper):∀ (l:List Oper) (st:St) (L:List (Option Value × St)),cC T rec recP ops l st=some L→Good st.hp (fun p=>p.2.hp) L:=by
 intro l
 induction l with
 | nil=>intro st L h;rw [mD] at h;cases h;exact .one (.refl _)
 | cons o l ih =>
  intro st L h;rw [iW] at h
  cases hg:bz ops st.fr o.guard with
  | false=>rw [hg] at h;exact ih ⟨dL st.fr o.dst undef,st.hp,st.rd⟩ L h
  | true =>
   rw [hg] at h;simp only [cond_true] at h
   cases ha:iD T rec recP o.op st with
   | none=>rw [ha] at h;cases h
   | some A =>
    rw [ha] at h;refine Good.bind h (nN hr hp ha) fun r Mx hx=>?_
    rcases qI hx with ⟨v,h2,rfl,h3⟩|⟨v,h2,rfl,rfl⟩
    ·exact ih _ _ h3
    ·exact .one (.refl _)
theorem lB (id:Nat) (ops:Array Oper) (draw:Bool) (st:St):cF T rec recP (.region id ops draw) st=cond draw
 (match dF T rec recP ops st with
  | some L=>some (L.map nc)
  | none=>none)
 (match cC T rec recP ops.toList ops.toList st with
  | some L=>some (L.map nc)
  | none=>none):=rfl
theorem qc (a b:Code) (st:St):cF T rec recP (.seq a b) st=match cF T rec recP a st with
 | some L=>bM L (xR (cF T rec recP b))
 | none=>none:=rfl
theorem nO (c:Operand) (a b:Code) (st:St):cF T rec recP (.cond c a b) st=match bh st.fr c with
 | .bool t=>cond t (cF T rec recP a st) (cF T rec recP b st)
 | _=>none:=rfl
theorem mE (id:Nat) (c:Code) (st:St):cF T rec recP (.block id c) st=match cF T rec recP c st with
 | some L=>some (L.map (fY id))
 | none=>none:=rfl
theorem nP (c:Code) (st:St):cF T rec recP (.loop c) st=match recP (.loop c st) with
 | some L=>bM L Cg
 | none=>none:=rfl
theorem qd {k:St→Option (List (nx × St))} {p:nx × St} {M:List (nx × St)} (h:xR k p=some M):(p.1=.e .normal∧k p.2=some M)∨(p.1 ≠ .e .normal∧M=[p]):=by
 obtain ⟨x,s⟩:=p;unfold xR at h;simp only at h;split at h
 ·exact .inl ⟨rfl,h⟩
 ·rename_i hx;exact .inr ⟨hx,(Option.some.inj h).symm⟩
theorem qJ (p:Option Value × St):(nc p).2=p.2:=by unfold nc;split <;> rfl
theorem tD (id:Nat) (p:nx × St):(fY id p).2=p.2:=by unfold fY;split <;> rfl
theorem tE {r:eG} {M:List (nx × St)} (h:Cg r=some M):∃ x s,r=.out x s∧M=[(x,s)]:=by
 cases r with
 | out x s=>exact ⟨x,s,rfl,(Option.some.inj h).symm⟩
 | ret=>cases h
 | qn=>cases h
theorem kq {ops:Array Oper} {st:St} {L:List (Option Value × St)} (h:dF T rec recP ops st=some L):(∃ c,Ak T ops=some c∧∃ M,cv T rec ops (ops.toList.take c) 0 st []=some M∧bM M (cC T rec recP ops.toList (ops.toList.drop c))=some L)∨(Ak T ops=none∧∃ M,cK T rec ops st=some M∧L=M.map fun s=>(none,s)):=by
 unfold dF at h;split at h
 ·refine .inl ⟨_,by assumption,?_⟩;split at h
  ·exact ⟨_,by assumption,h⟩
  ·cases h
 ·refine .inr ⟨by assumption,?_⟩;split at h
  ·exact ⟨_,by assumption,(Option.some.inj h).symm⟩
  ·cases h
theorem vu (hr:aS rec) (hp:eB recP) (ops:Array Oper) (st:St) (L:List (Option Value × St)) (h:dF T rec recP ops st=some L):Good st.hp (fun p=>p.2.hp) L:=by
 rcases kq h with ⟨c,_,M,h1,h2⟩|⟨_,M,h1,rfl⟩
 ·exact Good.bind h2 (iV hr _ _ _ _ _ _ h1).1 fun x Mx hx=>gh hr hp _ _ _ _ hx
 ·exact (pE hr _ _ _ h1).map fun _=>rfl
theorem gH (hr:aS rec) (hp:eB recP):∀ (c:Code) (st:St) (L:List (nx × St)),cF T rec recP c st=some L→Good st.hp (fun p=>p.2.hp) L:=by
 intro c
 induction c with
 | skip=>intro st L h;cases h;exact .one (.refl _)
 | label l=>intro st L h;cases h;exact .one (.refl _)
 | exit id=>intro st L h;cases h;exact .one (.refl _)
 | ret=>intro st L h;cases h;exact .one (.refl _)
 | scope c ih=>intro st L h;cases h
 | goto l=>intro st L h;cases h
 | refuse y=>intro st L h;cases h
 | rangeFunc f ps a b _ _=>intro st L h;cases h
 | region id ops draw =>
  intro st L h;rw [lB] at h
  cases draw with
  | true =>
   simp only [cond_true] at h
   cases hx:dF T rec recP ops st with
   | none=>rw [hx] at h;cases h
   | some R=>rw [hx] at h;simp only [qq9] at h;subst h;exact (vu hr hp _ _ _ hx).map fun p=>by rw [qJ]
  | false =>
   simp only [cond_false] at h
   cases hx:cC T rec recP ops.toList ops.toList st with
   | none=>rw [hx] at h;cases h
   | some R=>rw [hx] at h;simp only [qq9] at h;subst h;exact (gh hr hp _ _ _ _ hx).map fun p=>by rw [qJ]
 | seq a b iha ihb =>
  intro st L h;rw [qc] at h
  cases hx:cF T rec recP a st with
  | none=>rw [hx] at h;cases h
  | some R =>
   rw [hx] at h;refine Good.bind h (iha _ _ hx) fun p Mx hq=>?_
   rcases qd hq with ⟨_,h1⟩|⟨_,rfl⟩
   ·exact ihb _ _ h1
   ·exact .one (.refl _)
 | cond c a b iha ihb =>
  intro st L h;rw [nO] at h;split at h
  ·rename_i t _
   cases t with
   | true=>exact iha _ _ h
   | false=>exact ihb _ _ h
  ·cases h
 | block id c ih =>
  intro st L h;rw [mE] at h
  cases hx:cF T rec recP c st with
  | none=>rw [hx] at h;cases h
  | some R =>rw [hx] at h;simp only [qq9] at h;subst h;exact (ih _ _ hx).map fun p=>by rw [tD]
 | loop c _ =>
  intro st L h;rw [nP] at h
  cases hx:recP (.loop c st) with
  | none=>rw [hx] at h;cases h
  | some R =>rw [hx] at h;refine Good.bind h (hp _ _ hx) fun p Mx hq=>?_;obtain ⟨x,s,rfl,rfl⟩:=tE hq;exact .one (.refl _)
theorem iX {rs:List ResultVar} {p:nx × St} {M:List eG} (h:nC T rs p=some M):((p.1=.e .normal∨p.1=.e .ret)∧∃ vs,fM T p.2.fr p.2.hp rs=some vs∧M=[.ret (bQ vs) p.2.hp])∨∃ v,p.1=.qn v∧M=[.qn v p.2.hp]:=by
 obtain ⟨e,s⟩:=p;unfold nC at h
 cases e with
 | qn v=>exact .inr ⟨v,rfl,(Option.some.inj h).symm⟩
 | e x =>
  cases x with
  | normal=>simp only [Option.map_eq_some_iff] at h;obtain ⟨vs,a,b⟩:=h;exact .inl ⟨.inl rfl,vs,a,b.symm⟩
  | ret=>simp only [Option.map_eq_some_iff] at h;obtain ⟨vs,a,b⟩:=h;exact .inl ⟨.inr rfl,vs,a,b.symm⟩
  | _=>simp at h
theorem jr {c:Code} {p:nx × St} {M:List eG} (h:iE recP c p=some M):(p.1=.e .normal∧recP (.loop c p.2)=some M)∨(p.1 ≠ .e .normal∧M=[.out p.1 p.2]):=by
 obtain ⟨x,s⟩:=p;unfold iE at h;simp only at h;split at h
 ·exact .inl ⟨rfl,h⟩
 ·rename_i hx;exact .inr ⟨hx,(Option.some.inj h).symm⟩
theorem js {f:FuncId} {args:List Value} {hp:Hp} {L:List eG} (h:ng T rec recP (.call f args hp)=some L) :
  ∃ fn c R,T.It.get f=some fn∧fn.body=some c∧cF T rec recP c ⟨setArgs .leaf 0 args,hp,false⟩=some R∧bM R (nC T fn.results.toList)=some L:=by
 unfold ng at h;simp only at h
 cases hf:T.It.get f with
 | none=>rw [hf] at h;cases h
 | some fn =>
  rw [hf] at h;simp only at h
  cases hb:fn.body with
  | none=>rw [hb] at h;cases h
  | some c =>
   rw [hb] at h;simp only at h
   cases hx:cF T rec recP c ⟨setArgs .leaf 0 args,hp,false⟩ with
   | none=>rw [hx] at h;cases h
   | some R=>rw [hx] at h;exact ⟨fn,c,R,rfl,hb,hx,h⟩
theorem jt {c:Code} {st:St} {L:List eG} (h:ng T rec recP (.loop c st)=some L):∃ R,cF T rec recP c st=some R∧bM R (iE recP c)=some L:=by
 unfold ng at h;simp only at h
 cases hx:cF T rec recP c st with
 | none=>rw [hx] at h;cases h
 | some R=>rw [hx] at h;exact ⟨R,rfl,h⟩
theorem Ct (hr:aS rec) (hp:eB recP):eB (ng T rec recP):=by
 intro j L h
 cases j with
 | call f args H =>
  obtain ⟨fn,c,R,_,_,hx,h⟩:=js h;refine Good.bind h (gH hr hp _ _ _ hx) fun p Mx hq=>?_
  rcases iX hq with ⟨_,vs,_,rfl⟩|⟨v,_,rfl⟩ <;> exact .one (.refl _)
 | loop c st =>
  obtain ⟨R,hx,h⟩:=jt h;refine Good.bind h (gH hr hp _ _ _ hx) fun p Mx hq=>?_
  rcases jr hq with ⟨_,h1⟩|⟨_,rfl⟩
  ·exact hp _ _ h1
  ·exact .one (.refl _)
end
theorem iH (hr:aS rec):∀ n,eB (Ch T rec n)
 | 0=>fun j L h=>by cases h
 | n+1=>fun j L h=>Ct hr (iH hr n) j L h
theorem AE {o:Op} {st:St} {pv:Option Value} {v:Value} {hp:Hp} {pv':Option Value} (h:L5 T o st pv=some (v,hp,pv')) :
  (∃ args tys,o=.call ⟨.builtin .recover,args,tys⟩∧hp=st.hp∧pv'=none∧v=pv.getD .nilIface)∨(cZ o=.plain∧pv'=pv∧∃ e,jH T st.hp.n o (bh st.fr) st.hp.get=some (v,e)∧hp=st.hp.app e):=by
 unfold L5 at h;split at h
 ·rename_i args tys;split at h
  ·simp only [qq9,Prod.mk.injEq] at h;obtain ⟨rfl,rfl,rfl⟩:=h;exact .inl ⟨args,tys,rfl,rfl,rfl,rfl⟩
  ·simp only [qq9,Prod.mk.injEq] at h;obtain ⟨rfl,rfl,rfl⟩:=h;exact .inl ⟨args,tys,rfl,rfl,rfl,rfl⟩
 ·split at h
  ·rename_i hk;split at h
   ·rename_i u e hop;simp only [qq9,Prod.mk.injEq] at h;obtain ⟨rfl,rfl,rfl⟩:=h;exact .inr ⟨hk,rfl,e,hop,rfl⟩
   ·cases h
  ·cases h
theorem AF {o:Op} {st:St} {pv:Option Value} {v:Value} {hp:Hp} {pv':Option Value} (h:L5 T o st pv=some (v,hp,pv')):cR st.hp hp:=by
 rcases AE h with ⟨_,_,_,rfl,_⟩|⟨_,_,e,hop,rfl⟩
 ·exact .refl _
 ·exact cR.app _ _ (oA hop).1
theorem qK (ops:List Oper) (st:St) (pv:Option Value):i5 T ops [] st pv=some (st,pv):=rfl
theorem pF (ops:List Oper) (o:Oper) (l:List Oper) (st:St) (pv:Option Value):i5 T ops (o :: l) st pv=cond (bz ops st.fr o.guard)
 (match L5 T o.op st pv with
  | some (v,hp,pv')=>i5 T ops l ⟨dL st.fr o.dst v,hp,st.rd⟩ pv'
  | none=>none)
 (i5 T ops l ⟨dL st.fr o.dst undef,st.hp,st.rd⟩ pv):=rfl
theorem pG (ops:List Oper):∀ (l:List Oper) (st:St) (pv:Option Value) (p:St × Option Value),i5 T ops l st pv=some p→cR st.hp p.1.hp:=by
 intro l
 induction l with
 | nil=>intro st pv p h;rw [qK] at h;cases h;exact .refl _
 | cons o l ih =>
  intro st pv p h;rw [pF] at h
  cases hg:bz ops st.fr o.guard with
  | false=>rw [hg] at h;exact ih ⟨dL st.fr o.dst undef,st.hp,st.rd⟩ pv p h
  | true =>
   rw [hg] at h;simp only [cond_true] at h;split at h
   ·rename_i v hp pv' hop;exact (AF hop).trans (ih _ _ _ h)
   ·cases h
theorem pH (id:Nat) (ops:Array Oper) (draw:Bool) (st:St) (pv:Option Value):j6 T (.region id ops draw) st pv=cond draw none (match i5 T ops.toList ops.toList st pv with
 | some p=>some (.normal,p.1,p.2)
 | none=>none):=rfl
theorem vv (a b:Code) (st:St) (pv:Option Value):j6 T (.seq a b) st pv=match j6 T a st pv with
 | some (.normal,st',pv')=>j6 T b st' pv'
 | some p=>some p
 | none=>none:=rfl
theorem tF (c:Operand) (a b:Code) (st:St) (pv:Option Value):j6 T (.cond c a b) st pv=match bh st.fr c with
 | .bool t=>cond t (j6 T a st pv) (j6 T b st pv)
 | _=>none:=rfl
theorem tG:∀ (c:Code) (st:St) (pv:Option Value) (p:Exit × St × Option Value),j6 T c st pv=some p→cR st.hp p.2.1.hp:=by
 intro c
 induction c with
 | skip=>intro st pv p h;cases h;exact .refl _
 | ret=>intro st pv p h;cases h;exact .refl _
 | region id ops draw =>
  intro st pv p h;rw [pH] at h
  cases draw with
  | true=>cases h
  | false =>
   simp only [cond_false] at h;split at h
   ·rename_i q hq;cases h;exact pG _ _ _ _ _ hq
   ·cases h
 | seq a b iha ihb =>
  intro st pv p h;rw [vv] at h;split at h
  ·rename_i st' pv' hx;exact (iha _ _ _ hx).trans (ihb _ _ _ h)
  ·rename_i hx;cases h;exact iha _ _ _ hx
  ·cases h
 | cond c a b iha ihb =>
  intro st pv p h;rw [tF] at h;split at h
  ·rename_i t _
   cases t with
   | true=>exact iha _ _ _ h
   | false=>exact ihb _ _ _ h
  ·cases h
 | _=>intro st pv p h;cases h
theorem nQ {clo:Value} {hp:Hp} {pv:Option Value} {hp':Hp} {pv':Option Value} (h:nD T clo hp pv=some (hp',pv')) :
  ∃ g as fn c x st,cz clo []=some (.fn g as)∧T.FE.get g=some fn∧fn.body=some c∧fn.results.toList=[]∧j6 T c ⟨setArgs .leaf 0 as,hp,false⟩ pv=some (x,st,pv')∧(x=.normal∨x=.ret)∧hp'=st.hp:=by
 unfold nD at h;split at h
 ·rename_i g as hg
  cases hf:T.FE.get g with
  | none=>rw [hf] at h;cases h
  | some fn =>
   rw [hf] at h;simp only at h;split at h
   ·rename_i c hb hr;split at h
    ·rename_i st pv2 hx;cases h;exact ⟨g,as,fn,c,_,st,hg,hf,hb,hr,hx,.inl rfl,rfl⟩
    ·rename_i st pv2 hx;cases h;exact ⟨g,as,fn,c,_,st,hg,hf,hb,hr,hx,.inr rfl,rfl⟩
    ·cases h
   ·cases h
 ·cases h
theorem tH {clo:Value} {hp:Hp} {pv:Option Value} {hp':Hp} {pv':Option Value} (h:nD T clo hp pv=some (hp',pv')):cR hp hp':=by obtain ⟨g,as,fn,c,x,st,_,_,_,_,hx,_,rfl⟩:=nQ h;exact tG _ _ _ _ hx
theorem kR {rs:List ResultVar} {p:nx × St × Value} {M:List eH} (h:u7 T rs p=some M) :
  ∃ pv hp vs,((pv=none∧(p.1=.e .normal∨p.1=.e .ret))∨∃ v,pv=some v∧p.1=.qn v)∧nD T p.2.2 p.2.1.hp pv=some (hp,none)∧fM T p.2.1.fr hp rs=some vs∧M=[.ret (bQ vs) hp]:=by
 obtain ⟨x,s,clo⟩:=p;unfold u7 at h;simp only at h;split at h
 ·rename_i hp hx;simp only [Option.map_eq_some_iff] at h;obtain ⟨vs,h1,h2⟩:=h;split at hx
  ·exact ⟨none,hp,vs,.inl ⟨rfl,.inl rfl⟩,hx,h1,h2.symm⟩
  ·exact ⟨none,hp,vs,.inl ⟨rfl,.inr rfl⟩,hx,h1,h2.symm⟩
  ·rename_i v;exact ⟨some v,hp,vs,.inr ⟨v,rfl,rfl⟩,hx,h1,h2.symm⟩
  ·cases hx
 ·cases h
theorem sy (a b:Code) (st:St):pq T rec (.seq a b) st=match uG a with
 | some (l,x)=>match bH T rec (FI a) l st with
  | some L=>bM L fun s=>(cF T rec (Ch T rec 1000) b s).map fun M=>M.map fun p=>(p.1,p.2,bh s.fr x)
  | none=>none
 | none=>match bJ T rec a st with
  | some L=>bM L fun p=>match p.1 with
   | .normal=>pq T rec b p.2
   | _=>none
  | none=>none:=rfl
theorem vw (hr:aS rec):∀ (c:Code) (st:St) (L:List (nx × St × Value)),pq T rec c st=some L→Good st.hp (fun p=>p.2.1.hp) L:=by
 intro c
 induction c with
 | seq a b iha ihb =>
  intro st L h;rw [sy] at h;split at h
  ·rename_i l x hd;split at h
   ·rename_i R hx;refine Good.bind h (dw hr _ _ _ _ hx).1 fun s Mx hq=>?_;simp only [Option.map_eq_some_iff] at hq;obtain ⟨M,h1,rfl⟩:=hq;exact (gH hr (iH hr 1000) _ _ _ h1).map fun _=>rfl
   ·cases h
  ·split at h
   ·rename_i R hx;refine Good.bind h (gz hr _ _ _ hx) fun p Mx hq=>?_;split at hq
    ·exact ihb _ _ hq
    ·cases hq
   ·cases h
 | _=>intro st L h;cases h
theorem qe {f:FuncId} {args:List Value} {hp:Hp} {L:List eH} (h:pz T rec f args hp=some L) :
  ∃ fn c R,T.FE.get f=some fn∧fn.body=some c∧pq T rec c ⟨setArgs .leaf 0 args,hp,false⟩=some R∧bM R (u7 T fn.results.toList)=some L:=by
 unfold pz at h
 cases hf:T.FE.get f with
 | none=>rw [hf] at h;cases h
 | some fn =>
  rw [hf] at h;simp only at h
  cases hb:fn.body with
  | none=>rw [hb] at h;cases h
  | some c =>
   rw [hb] at h;simp only at h
   cases hx:pq T rec c ⟨setArgs .leaf 0 args,hp,false⟩ with
   | none=>rw [hx] at h;cases h
   | some R=>rw [hx] at h;exact ⟨fn,c,R,rfl,hb,hx,h⟩
theorem Cu (hr:aS rec) {f:FuncId} {args:List Value} {hp:Hp} {L:List eH} (h:pz T rec f args hp=some L):Good hp eH.hp L:=by obtain ⟨fn,c,R,_,_,hx,h⟩:=qe h;refine Good.bind h (vw hr _ _ _ hx) fun p Mx hq=>?_;obtain ⟨pv,hp',vs,_,hd,_,rfl⟩:=kR hq;exact .one (tH hd)
theorem Cv (hr:aS rec):aS (gV T rec):=by
 intro j L h
 cases j with
 | call f args hp =>
  rcases nk h with ⟨fn,c,R,_,_,hx,h⟩|h
  ·refine Good.bind h (gz hr _ _ _ hx) fun p Mx hq=>?_;obtain ⟨_,vs,_,rfl⟩:=mC hq;exact .one (.refl _)
  ·exact Cu hr h
 | round l args hp =>obtain ⟨pend,fr,ps,as,bd,R,_,_,hx,h⟩:=lR h;refine Good.bind h (gz hr _ _ _ hx) fun p Mx hq=>?_;obtain ⟨_,pend',fr',ps',as',bd',R2,hgt,hy,hz⟩:=iG hq;have hk:=gz hr _ _ _ hy;have hk':Good p.2.hp (fun q=>q.2.hp) R2:=⟨hk.1,fun r hr'=>(cR.put p.2.hp _ _ (by rw [hgt];simp) (fun _=>rfl)).trans (hk.2 r hr')⟩;refine Good.bind hz hk' fun q My hw=>?_;obtain ⟨_,_,_,_,_,_,hgt2,h1|h1|⟨_,h1⟩⟩:=kj hw <;> (obtain ⟨_,rfl⟩:=h1;exact .one (cR.put q.2.hp _ _ (by rw [hgt2];simp) (fun _=>rfl)))
 | loop c st =>
  obtain ⟨R,hx,h⟩:=nq h;refine Good.bind h (gz hr _ _ _ hx) fun p Mx hq=>?_
  rcases kn hq with ⟨_,h1⟩|⟨_,rfl⟩
  ·exact hr _ _ h1
  ·exact .one (.refl _)
end
end Go.RM
