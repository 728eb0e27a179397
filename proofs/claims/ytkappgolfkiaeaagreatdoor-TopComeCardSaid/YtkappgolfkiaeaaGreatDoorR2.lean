/-
  An abstract machine, and that its runs are the model's. Lemmas alone; no condition.
-/
import Derived.Test.YtkappgolfkiaeaaGreatDoorR1
import Derived.OwnWalkIn
namespace Go.RM
open Go.RowKit
section
variable {T : bL} {γ : Gm} {g : aG} {w : World} {n : Nat}
def oz (γ:Gm):Option Value→Option Value→Prop
 | none,none=>True
 | some a,some b=>VR γ a b
 | _,_=>False
theorem nQ {P:Program} {lo hi lo' hi':Option Value} {l hv len c':Nat} (hl:dL 0 lo=some l) (hh:dL len hi=some hv) (c1:l≤hv) (c2:hv≤c')
  (rlo:oz γ lo lo') (rhi:oz γ hi hi'):(Instr.sliceBounds true len c' lo' hi' none).run P w=.ok (l,hv,c') w:=by
 have q1:((0:Int)≤(hv:Int)∧(hv:Int)≤(c':Int))=True:=eq_true (by omega);have q2:((0:Int)≤(l:Int)∧(l:Int)≤(hv:Int))=True:=eq_true (by omega)
 cases lo with
 | none =>
  cases lo' with
  | some _=>exact rlo.elim
  | none =>
   simp only [dL,qq9] at hl;subst hl
   cases hi with
   | none =>
    cases hi' with
    | some _=>exact rhi.elim
    | none =>simp only [dL,qq9] at hh;subst hh;simp [Instr.sliceBounds]
   | some a =>
    cases hi' with
    | none=>exact rhi.elim
    | some a' =>obtain ⟨kk,rfl⟩:=dY hh;obtain rfl:=VR.bN rhi rfl;simp only [Instr.sliceBounds,Instr.sliceBound,asIntOf,Sem.run_bind,Sem.run_pure,Result.andThen_ok,if_true,Int.toNat_natCast,q1]
 | some b =>
  cases lo' with
  | none=>exact rlo.elim
  | some b' =>
   obtain ⟨kk,rfl⟩:=dY hl;obtain rfl:=VR.bN rlo rfl
   cases hi with
   | none =>
    cases hi' with
    | some _=>exact rhi.elim
    | none =>simp only [dL,qq9] at hh;subst hh;simp only [Instr.sliceBounds,Instr.sliceBound,asIntOf,Sem.run_bind,Sem.run_pure,Result.andThen_ok,Option.isSome_none,Bool.false_eq_true,if_false,if_true,Int.toNat_natCast,q2]
   | some a =>
    cases hi' with
    | none=>exact rhi.elim
    | some a' =>obtain ⟨kk,rfl⟩:=dY hh;obtain rfl:=VR.bN rhi rfl;simp only [Instr.sliceBounds,Instr.sliceBound,asIntOf,Sem.run_bind,Sem.run_pure,Result.andThen_ok,Option.isSome_none,Bool.false_eq_true,if_false,if_true,Int.toNat_natCast,q1,q2]
theorem BZ (hT:cE T) (h:HR γ g w) {t:TypeId} {x x':Value} {lo hi lo' hi':Option Value} {v:Value}
  (ho:qy T t x lo hi=some v) (hx:VR γ x x') (rlo:oz γ lo lo') (rhi:oz γ hi hi') :
  aV T.P γ g w n (do Pure.pure (Next.value (←Instr.sliceAt t x' lo' hi' none))) v .none:=by
 unfold qy at ho
 cases he:elem? T t with
 | none=>rw [he] at ho;cases ho
 | some inf =>
  rw [he] at ho;simp only at ho;obtain ⟨el,i,hut,hii,hsz,_,_⟩:=j8 hT he
  cases x with
  | slice base len cp =>
   simp only at ho
   cases hl:dL 0 lo with
   | none=>rw [hl] at ho;cases ho
   | some l =>
    cases hh:dL len hi with
    | none=>rw [hl,hh] at ho;cases ho
    | some hv =>
     rw [hl,hh] at ho;simp only at ho
     cases hcd:(Nat.ble l hv && Nat.ble hv len && Nat.ble 1 inf.size) with
     | false =>
      rw [hcd] at ho;simp only [cond_false] at ho;unfold Ft at ho;split at ho
      ·rename_i k o
       cases hce:(Nat.ble (l+1) hv && Nat.ble (len+3) cp && Nat.ble (hv+3) cp) with
       | false=>rw [hce] at ho;cases ho
       | true =>
        rw [hce] at ho;simp only [cond_true,qq9] at ho;subst ho;simp only [qq7] at hce;have c1:=Nat.le_of_ble_eq_true hce.1.1;have c2:=Nat.le_of_ble_eq_true hce.1.2;have c3:=Nat.le_of_ble_eq_true hce.2
        cases hx with
        | flat hf=>simp [bh] at hf
        | dc hne ht0 h20=>omega
        | slice hl' hn ht hlo' hk' =>
         rename_i b d c';have hk2:=hk' c2;have run:(Instr.sliceAt t (.slice (some ⟨b,d+o,none⟩) len c') lo' hi' none).run T.P w=.ok (.slice (if c'=l then some ⟨b,d+o,none⟩ else (some ⟨b,d+o,none⟩:Option Addr).map (·.add (l * inf.size))) (hv - l) (c' - l)) w:=by simp only [Instr.sliceAt,Instr.slice,Sem.run_bind,cq hut,Result.andThen_ok,nQ hl hh (c':=c') (by omega) (by omega) rlo rhi,dK hii,hsz,Sem.run_pure]
         refine .pure h (aT run) ?_;rw [if_neg (by omega),Option.map_some,Addr.add_lit,Nat.add_assoc d o];exact VR.slice hl' (by omega) (fun e=>by omega) (fun e=>by omega) (fun e=>by omega)
      ·cases ho
     | true =>
      rw [hcd] at ho;simp only [cond_true] at ho;simp only [qq7] at hcd;have c1:=Nat.le_of_ble_eq_true hcd.1.1;have c2:=Nat.le_of_ble_eq_true hcd.1.2;have bounds:∀ c',len≤c'→(Instr.sliceBounds true len c' lo' hi' none).run T.P w=.ok (l,hv,c') w:=fun c' hc'=>nQ hl hh c1 (by omega) rlo rhi;have run:∀ (a':Option Addr) (c':Nat),len≤c'→(Instr.sliceAt t (.slice a' len c') lo' hi' none).run T.P w=.ok (.slice (if c'=l then a' else a'.map (·.add (l * inf.size))) (hv - l) (c' - l)) w:=by intro a' c' hc';simp only [Instr.sliceAt,Instr.slice,Sem.run_bind,cq hut,Result.andThen_ok,bounds c' hc',dK hii,hsz,Sem.run_pure]
      cases base with
      | none =>
       simp only at ho
       cases hz:(Nat.beq len 0 && Nat.beq cp 0) with
       | false=>rw [hz] at ho;cases ho
       | true =>
        rw [hz] at ho;simp only [cond_true,qq9] at ho;subst ho;simp only [qq7] at hz;have z1:=Nat.eq_of_beq_eq_true hz.1;have z2:=Nat.eq_of_beq_eq_true hz.2;subst z1;subst z2;obtain rfl:=hx.bN rfl;have e1:hv=0:=by omega
        have e2:l=0:=by omega
        subst e1;subst e2;exact .pure h (aT (by rw [run none 0 (qq6 _)];simp)) (.flat rfl)
      | some ad =>
       obtain ⟨k,o,sp⟩:=ad
       cases sp with
       | some s=>cases ho
       | none =>
        simp only [qq9] at ho;subst ho
        have told:∀ c',len≤c'→(cp=len→c'=len) →
          ((bif Nat.beq hv len && Nat.beq cp len then hv - l else bif Nat.beq hv len then hv - l+2 else hv - l+3+(len - hv))=hv - l→c' - l=hv - l)∧(bif Nat.beq hv len && Nat.beq cp len then hv - l else bif Nat.beq hv len then hv - l+2 else hv - l+3+(len - hv)) ≠ hv - l+1 ∧
          (hv - l+3≤(bif Nat.beq hv len && Nat.beq cp len then hv - l else bif Nat.beq hv len then hv - l+2 else hv - l+3+(len - hv))→(bif Nat.beq hv len && Nat.beq cp len then hv - l else bif Nat.beq hv len then hv - l+2 else hv - l+3+(len - hv))≤c' - l+3) ∧
          (hv=len→(bif Nat.beq hv len && Nat.beq cp len then hv - l else bif Nat.beq hv len then hv - l+2 else hv - l+3+(len - hv))≤hv - l+2):=by
         intro c' hc' ht
         cases hb:(Nat.beq hv len && Nat.beq cp len) with
         | true =>simp only [qq7] at hb;have b1:=Nat.eq_of_beq_eq_true hb.1;have b2:=Nat.eq_of_beq_eq_true hb.2;have:=ht b2;simp only [cond_true];exact ⟨fun _=>by omega,by omega,fun _=>by omega,fun _=>by omega⟩
         | false =>
          simp only [cond_false]
          cases hb2:Nat.beq hv len with
          | true =>have b1:=Nat.eq_of_beq_eq_true hb2;simp only [cond_true];exact ⟨fun e=>by omega,by omega,fun e=>by omega,fun _=>by omega⟩
          | false =>
           have b1:hv ≠ len:=fun e=>by subst e;rw [Nat.beq_refl] at hb2;cases hb2
           simp only [cond_false];exact ⟨fun e=>by omega,by omega,fun e=>by omega,fun e=>absurd e b1⟩
        cases hx with
        | flat hf=>simp [bh] at hf
        | dc hne ht0 h20 =>
         rename_i c' a';have e1:hv=0:=by omega
         have e2:l=0:=by omega
         subst e1;subst e2;have tl:=told c' (qq5 _) (fun e=>ht0 e);refine .pure h (aT (run (some a') c' (qq5 _))) ?_;have hsome:∃ a'',(if c'=0 then some a' else (some a').map (·.add (0 * inf.size)))=some a'':=by split <;> exact ⟨_,rfl⟩
         obtain ⟨a'',ha''⟩:=hsome;rw [ha''];exact VR.dc (fun e=>tl.2.1 (by simpa using e)) (fun e=>by have:=tl.1 (by simpa using e);simpa using this) (by have:=tl.2.2.2 rfl;simpa using this)
        | slice hl' hn ht hlo' hk' =>
         rename_i b d c';have tl:=told c' hn ht;refine .pure h (aT (run _ c' hn)) ?_;by_cases hcl:c'=l
         ·rw [if_pos hcl];have e1:hv - l=0:=by omega
          rw [e1] at tl ⊢;exact VR.dc (fun e=>tl.2.1 (by simpa using e)) (fun e=>by have:=tl.1 e;simpa using this) (by have:=tl.2.2.2 (by omega);simpa using this)
         ·rw [if_neg hcl,Option.map_some,Addr.add_lit,Nat.add_assoc d o];exact VR.slice hl' (by omega) tl.1 (fun e=>absurd e tl.2.1) tl.2.2.1
  | _=>cases ho
theorem uY {P:Program} {lo hi lo' hi':Option Value} {l hv len:Nat} (hl:dL 0 lo=some l) (hh:dL len hi=some hv) (c1:l≤hv) (c2:hv≤len)
  (rlo:oz γ lo lo') (rhi:oz γ hi hi'):(Instr.sliceBounds false len len lo' hi' none).run P w=.ok (l,hv,len) w:=by
 have q1:((0:Int)≤(hv:Int)∧(hv:Int)≤(len:Int))=True:=eq_true (by omega);have q2:((0:Int)≤(l:Int)∧(l:Int)≤(hv:Int))=True:=eq_true (by omega)
 cases lo with
 | none =>
  cases lo' with
  | some _=>exact rlo.elim
  | none =>
   simp only [dL,qq9] at hl;subst hl
   cases hi with
   | none =>
    cases hi' with
    | some _=>exact rhi.elim
    | none =>simp only [dL,qq9] at hh;subst hh;simp [Instr.sliceBounds]
   | some a =>
    cases hi' with
    | none=>exact rhi.elim
    | some a' =>obtain ⟨kk,rfl⟩:=dY hh;obtain rfl:=VR.bN rhi rfl;simp only [Instr.sliceBounds,Instr.sliceBound,asIntOf,Sem.run_bind,Sem.run_pure,Result.andThen_ok,Bool.false_eq_true,if_false,if_true,Int.toNat_natCast,q1]
 | some b =>
  cases lo' with
  | none=>exact rlo.elim
  | some b' =>
   obtain ⟨kk,rfl⟩:=dY hl;obtain rfl:=VR.bN rlo rfl
   cases hi with
   | none =>
    cases hi' with
    | some _=>exact rhi.elim
    | none =>simp only [dL,qq9] at hh;subst hh;simp only [Instr.sliceBounds,Instr.sliceBound,asIntOf,Sem.run_bind,Sem.run_pure,Result.andThen_ok,Option.isSome_none,Bool.false_eq_true,if_false,if_true,Int.toNat_natCast,q2]
   | some a =>
    cases hi' with
    | none=>exact rhi.elim
    | some a' =>obtain ⟨kk,rfl⟩:=dY hh;obtain rfl:=VR.bN rhi rfl;simp only [Instr.sliceBounds,Instr.sliceBound,asIntOf,Sem.run_bind,Sem.run_pure,Result.andThen_ok,Option.isSome_none,Bool.false_eq_true,if_false,if_true,Int.toNat_natCast,q1,q2]
theorem vK (hT:cE T) (h:HR γ g w) {t:TypeId} {x x':Value} {lo hi lo' hi':Option Value} {v:Value}
  (ho:pe T t x lo hi=some v) (hx:VR γ x x') (rlo:oz γ lo lo') (rhi:oz γ hi hi') :
  aV T.P γ g w n (do Pure.pure (Next.value (←Instr.sliceAt t x' lo' hi' none))) v .none:=by
 unfold pe at ho;split at ho
 ·rename_i len e _ _ _ _ _ cS hty;obtain ⟨i,hi0,_,_,_,hu,hes⟩:=hT.ty t _ hty
  cases hk:addr? x with
  | none=>rw [hk] at ho;cases ho
  | some ko =>
   obtain ⟨k,o⟩:=ko
   cases hl:dL 0 lo with
   | none=>rw [hk,hl] at ho;cases ho
   | some l =>
    cases hh:dL len hi with
    | none=>rw [hk,hl,hh] at ho;cases ho
    | some hv =>
     rw [hk,hl,hh] at ho;simp only at ho
     cases hcd:(Nat.ble l hv && Nat.ble hv len && Nat.ble 1 cS) with
     | false=>rw [hcd] at ho;cases ho
     | true =>
      rw [hcd] at ho;simp only [cond_true,qq9] at ho;subst ho;simp only [qq7] at hcd;have c1:=Nat.le_of_ble_eq_true hcd.1.1;have c2:=Nat.le_of_ble_eq_true hcd.1.2;obtain ⟨b,d,hl2,rfl⟩:=hx.addr hk;obtain ⟨_,j,hj,he'⟩:=hes;have he':j.size=cS:=he'.symm;have run:(Instr.sliceAt t (.pointer (some ⟨b,d+o,none⟩)) lo' hi' none).run T.P w=.ok (.slice (some (if len=l then ⟨b,d+o,none⟩ else Addr.add ⟨b,d+o,none⟩ (l * cS))) (hv - l) (len - l)) w:=by simp only [Instr.sliceAt,Instr.sureAddr,Sem.run_bind,cq hu,Result.andThen_ok,uY hl hh c1 c2 rlo rhi,dK hj,he',Sem.run_pure]
      refine .pure h (aT run) ?_;by_cases hcl:len=l
      ·have e1:hv=len:=by omega
       subst hcl;subst e1;rw [if_pos rfl,Nat.sub_self];exact VR.dc (by rw [Nat.beq_refl];simp) (fun _=>rfl) (by rw [Nat.beq_refl];simp)
      ·rw [if_neg hcl,Addr.add_lit,Nat.add_assoc d o]
       cases hb:Nat.beq hv len with
       | true =>have:=Nat.eq_of_beq_eq_true hb;simp only [cond_true];exact VR.slice hl2 (by omega) (fun _=>by omega) (fun e=>by omega) (fun e=>by omega)
       | false =>simp only [cond_false];exact VR.slice hl2 (by omega) (fun e=>by omega) (fun e=>by omega) (fun e=>by omega)
 ·cases ho
theorem yb {P:Program} {lo lo':Option Value} {hi mx hi' mx':Value} {l hv mv len c':Nat} (hl:dL 0 lo=some l) (hh:jR hi=some hv) (hm:jR mx=some mv) (c1:l≤hv) (c2:hv≤mv) (hc':mv≤c')
  (rlo:oz γ lo lo') (rhi:VR γ hi hi') (rmx:VR γ mx mx'):(Instr.sliceBounds true len c' lo' (some hi') (some mx')).run P w=.ok (l,hv,mv) w:=by
 have q1:((0:Int)≤(mv:Int)∧(mv:Int)≤(c':Int))=True:=eq_true (by omega);have q3:((0:Int)≤(hv:Int)∧(hv:Int)≤(mv:Int))=True:=eq_true (by omega);have q2:((0:Int)≤(l:Int)∧(l:Int)≤(hv:Int))=True:=eq_true (by omega);obtain ⟨k1,rfl⟩:=dY hh;obtain rfl:=VR.bN rhi rfl;obtain ⟨k2,rfl⟩:=dY hm;obtain rfl:=VR.bN rmx rfl
 cases lo with
 | none =>
  cases lo' with
  | some _=>exact rlo.elim
  | none =>simp only [dL,qq9] at hl;subst hl;simp only [Instr.sliceBounds,Instr.sliceBound,asIntOf,Sem.run_bind,Sem.run_pure,Result.andThen_ok,if_true,Int.toNat_natCast,q1,q3]
 | some b =>
  cases lo' with
  | none=>exact rlo.elim
  | some b' =>obtain ⟨kk,rfl⟩:=dY hl;obtain rfl:=VR.bN rlo rfl;simp only [Instr.sliceBounds,Instr.sliceBound,asIntOf,Sem.run_bind,Sem.run_pure,Result.andThen_ok,Option.isSome_some,if_true,Int.toNat_natCast,q1,q2,q3]
theorem Ae (hT:cE T) (h:HR γ g w) {t:TypeId} {x x':Value} {lo lo':Option Value} {hi mx hi' mx' v:Value}
  (ho:jT T t x lo hi mx=some v) (hx:VR γ x x') (rlo:oz γ lo lo') (rhi:VR γ hi hi') (rmx:VR γ mx mx') :
  aV T.P γ g w n (do Pure.pure (Next.value (←Instr.sliceAt t x' lo' (some hi') (some mx')))) v .none:=by
 unfold jT at ho
 cases he:elem? T t with
 | none=>rw [he] at ho;cases ho
 | some inf =>
  rw [he] at ho;simp only at ho;obtain ⟨el,i,hut,hii,hsz,_,_⟩:=j8 hT he
  cases x with
  | slice base len cp =>
   simp only at ho
   cases hl:dL 0 lo with
   | none=>rw [hl] at ho;cases ho
   | some l =>
    cases hh:jR hi with
    | none=>rw [hl,hh] at ho;cases ho
    | some hv =>
     cases hm:jR mx with
     | none=>rw [hl,hh,hm] at ho;cases ho
     | some m =>
      rw [hl,hh,hm] at ho;simp only at ho
      cases hcd:(Nat.ble l hv && Nat.ble hv m && Nat.ble m len && Nat.ble 1 inf.size) with
      | false=>rw [hcd] at ho;cases ho
      | true =>
       rw [hcd] at ho;simp only [cond_true] at ho;simp only [qq7] at hcd;have c1:=Nat.le_of_ble_eq_true hcd.1.1.1;have c2:=Nat.le_of_ble_eq_true hcd.1.1.2;have c3:=Nat.le_of_ble_eq_true hcd.1.2;have run:∀ (a':Option Addr) (c':Nat),len≤c'→(Instr.sliceAt t (.slice a' len c') lo' (some hi') (some mx')).run T.P w=.ok (.slice (if m=l then a' else a'.map (·.add (l * inf.size))) (hv - l) (m - l)) w:=by intro a' c' hc';simp only [Instr.sliceAt,Instr.slice,Sem.run_bind,cq hut,Result.andThen_ok,yb hl hh hm c1 c2 (Nat.le_trans c3 hc') rlo rhi rmx,dK hii,hsz,Sem.run_pure]
       cases base with
       | none =>
        simp only at ho
        cases hz:(Nat.beq len 0 && Nat.beq cp 0) with
        | false=>rw [hz] at ho;cases ho
        | true =>
         rw [hz] at ho;simp only [cond_true,qq9] at ho;subst ho;simp only [qq7] at hz;have z1:=Nat.eq_of_beq_eq_true hz.1;have z2:=Nat.eq_of_beq_eq_true hz.2;subst z1;subst z2;obtain rfl:=hx.bN rfl;have e0:m=0:=by omega
         have e1:hv=0:=by omega
         have e2:l=0:=by omega
         subst e0;subst e1;subst e2;exact .pure h (aT (by rw [run none 0 (qq6 _)];simp)) (.flat rfl)
       | some ad =>
        obtain ⟨k,o,sp⟩:=ad
        cases sp with
        | some s=>cases ho
        | none =>
         simp only [qq9] at ho;subst ho
         cases hx with
         | flat hf=>simp [bh] at hf
         | dc hne ht0 h20 =>
          rename_i c' a';have e0:m=0:=by omega
          have e1:hv=0:=by omega
          have e2:l=0:=by omega
          subst e0;subst e1;subst e2;refine .pure h (aT (run (some a') c' (qq5 _))) ?_;rw [if_pos rfl];exact VR.dc (by simp) (fun _=>rfl) (by simp)
         | slice hl' hn ht hlo' hk' =>
          rename_i b d c';refine .pure h (aT (run _ c' hn)) ?_;by_cases hcl:m=l
          ·obtain rfl:hv=m:=by omega
           subst hcl;rw [if_pos rfl,Nat.sub_self];exact VR.dc (by simp) (fun _=>rfl) (by simp)
          ·rw [if_neg hcl,Option.map_some,Addr.add_lit,Nat.add_assoc d o]
           cases hb:Nat.beq hv m with
           | true =>have:=Nat.eq_of_beq_eq_true hb;simp only [cond_true];exact VR.slice hl' (by omega) (fun _=>by omega) (fun e=>by omega) (fun e=>by omega)
           | false =>simp only [cond_false];exact VR.slice hl' (by omega) (fun e=>by omega) (fun e=>by omega) (fun e=>by omega)
  | _=>cases ho
theorem yc (hT:cE T) (h:HR γ g w) {t:TypeId} {x x' v:Value} {e:cv} (hn:e.news=true→γ.loc n=none) (ho:sX T n t x g=some (v,e)) (hx:VR γ x x') :
  aV T.P γ g w n (do Pure.pure (Next.value (←Instr.range t x'))) v e:=by
 unfold sX at ho;split at ho
 ·rename_i kt et _ _ _ _ _ _ m hty
  cases hm:map? (g m) with
  | none=>rw [hm] at ho;cases ho
  | some p =>
   obtain ⟨es,clock⟩:=p;rw [hm] at ho;simp only [qq9,Prod.mk.injEq] at ho;obtain ⟨rfl,rfl⟩:=ho;obtain ⟨i,_,_,_,_,hu,_⟩:=hT.ty t _ hty
   have hgr:g m=some (.map es clock):=by
    unfold map? at hm;split at hm
    ·simp at hm;obtain ⟨rfl,rfl⟩:=hm;assumption
    ·cases hm
   cases hx with
   | flat hf=>simp [bh] at hf
   | map hl =>
    rename_i b;obtain ⟨_,_,es',hw,_⟩:=h.gT m b 0 _ hgr hl;have hle:=Gm.mW (b:=w.heap.size) (c:=0) (hn rfl)
    have hrun:(Instr.range t (.map (some b))).run T.P w=.ok (.pointer (some ⟨w.heap.size,0,none⟩)) (w.alloc (.mapIter (some b) clock #[] clock)):=by
     have hgo:(getObj b).run T.P w=.ok (.map es' clock) w:=by simp [getObj,Sem.run,hw]
     simp [Instr.range,cq hu,hgo]
    refine ⟨_,_,γ.add n w.heap.size 0,.inl (aT hrun),hle,fun k hk=>Gm.bO _ _ _ (fun e=>Bool.noConfusion (hk e:true=false)),?_,VR.ptr (o:=0) (Gm.cD _ _ _ _),j7.new (obj:=_) rfl rfl rfl rfl⟩;refine HR.new (w:=w) h (hn rfl) (obj:=_) rfl ⟨rfl,h.base,b,hle.loc _ _ hl,?_⟩;show (w.heap.push _)[w.heap.size]?=_;simp
 ·rename_i s hty;simp only [qq9,Prod.mk.injEq] at ho;obtain ⟨rfl,rfl⟩:=ho;obtain ⟨i,_,_,_,_,hu,_⟩:=hT.ty t _ hty;obtain rfl:=hx.bN rfl;have hle:=Gm.mW (b:=w.heap.size) (c:=0) (hn rfl);have hrun:(Instr.range t (.string s)).run T.P w=.ok (.pointer (some ⟨w.heap.size,0,none⟩)) (w.alloc (.stringIter s 0)):=by simp [Instr.range,cq hu]
  refine ⟨_,_,γ.add n w.heap.size 0,.inl (aT hrun),hle,fun k hk=>Gm.bO _ _ _ (fun e=>Bool.noConfusion (hk e:true=false)),?_,VR.ptr (o:=0) (Gm.cD _ _ _ _),j7.new (obj:=_) rfl rfl rfl rfl⟩;refine HR.new (w:=w) h (hn rfl) (obj:=_) rfl ⟨rfl,h.base,?_⟩;show (w.heap.push _)[w.heap.size]?=_;simp
 ·cases ho
theorem Af {k b:Nat} {a0 a:bf} {obj0 obj:Obj} (h:HR γ g w) (h0:g k=some a0) (ho:a0.own=true) (hl:γ.loc k=some (b,0)) (hw:w.heap[b]?=some obj0)
  (hown:a.own=true) (ha:BQ γ (w.heap.setIfInBounds b obj) k b 0 a) :
  HR γ (iB g k a) {w with heap:=w.heap.setIfInBounds b obj}∧j7 γ g w γ (iB g k a) {w with heap:=w.heap.setIfInBounds b obj}∧(w.heap.setIfInBounds b obj)[b]?=some obj:=by
 have hlt:b < w.heap.size:=(Array.getElem?_eq_some_iff.1 hw).1;have hsz:(w.heap.setIfInBounds b obj).size=w.heap.size:=by simp
 have hne:∀ i,i ≠ b→(w.heap.setIfInBounds b obj)[i]?=w.heap[i]?:=fun i hi=>Array.getElem?_setIfInBounds_ne (Ne.symm hi);exact ⟨h.put h0 ho hl hsz hne (.inl hown) ha,j7.put h0 ho hl rfl rfl rfl hsz hne,by simp [hlt]⟩
theorem yd (h:HR γ g w) {x x' v:Value} {e:cv} {ty:TypeId} (ho:kz x g=some (v,e)) (hx:VR γ x x') :
  aV T.P γ g w n (do Pure.pure (Next.value (←Instr.next x' true ty))) v e:=by
 unfold kz at ho;split at ho
 ·rename_i r hk
  cases hg:g r with
  | none=>rw [hg] at ho;cases ho
  | some gT =>
   rw [hg] at ho
   cases gT with
   | dQ s pos =>
    simp only at ho;obtain ⟨b,d,hl,rfl⟩:=hx.addr hk;obtain ⟨rfl,hB,hw⟩:=h.gT r b d _ hg hl;have hgo:(getObj b).run T.P w=.ok (.stringIter s pos) w:=by simp [getObj,Sem.run,hw]
    cases hc:Nat.blt pos s.data.toList.length with
    | true =>
     rw [hc] at ho;simp only [cond_true,qq9,Prod.mk.injEq] at ho;obtain ⟨rfl,rfl⟩:=ho;have hlt:pos < s.size:=Nat.le_of_ble_eq_true hc;have hset:(setObj b (.stringIter s (pos+(Utf8.decode s pos).2))).run T.P w=.ok () {w with heap:=w.heap.setIfInBounds b (.stringIter s (pos+(Utf8.decode s pos).2))}:=by simp [setObj,Sem.run,hw]
     obtain ⟨q1,q2,q3⟩:=Af (a:=.dQ s (pos+(Utf8.decode s pos).2)) (obj:=.stringIter s (pos+(Utf8.decode s pos).2)) h hg rfl hl hw rfl ⟨rfl,hB,by simp [(Array.getElem?_eq_some_iff.1 hw).1]⟩;refine ⟨.tuple #[.bool true,.int .i64 pos,.int .i32 (Utf8.decode s pos).1],_,γ,.inl (aT ?_),Gm.Le.refl γ,fun _ _=>rfl,q1,?_,q2⟩
     ·simp [Instr.next,hgo,hlt,hset,goInt]
     ·exact VR.cL (l:=[.bool true,.int .i64 pos,.int .i32 (Utf8.decode s pos).1]) (cy.of_flat rfl)
    | false =>
     rw [hc] at ho;simp only [cond_false,qq9,Prod.mk.injEq] at ho;obtain ⟨rfl,rfl⟩:=ho;have hlt:¬ (pos < s.size):=fun e=>by have:Nat.blt pos s.data.toList.length=true:=Nat.ble_eq_true_of_le e;rw [this] at hc;cases hc
     refine .pure h (aT (v:=.tuple #[.bool false]) ?_) (VR.cL (l:=[.bool false]) (cy.of_flat rfl));simp [Instr.next,hgo,hlt]
   | _=>cases ho
 ·cases ho
end
section
variable {T : bL} {γ : Gm} {g : aG} {w : World} {n : Nat}
theorem rD (P:Program) {α β:Type} (x:Sem α) (f:α→Sem β):aK P (x >>= f)=(aK P x).bind fun a=>aK P (f a):=by
 show aK P (x.bind f)=_
 induction x with
 | pure a=>rfl
 | program k ih=>simp only [Sem.bind,aK];exact ih P
 | mark m k ih=>simp only [Sem.bind,aK];exact ih
 | _=>rfl
theorem mZ (P:Program) {α:Type} (a:α):aK P (Pure.pure a)=some a:=rfl
def SameKeys (l l':List MapEntry):Prop:=l.map (·.key)=l'.map (·.key)
theorem SameKeys.B0 {e e':MapEntry} {l l':List MapEntry} (h:SameKeys (e :: l) (e' :: l')):e.key=e'.key∧SameKeys l l':=by simpa [SameKeys] using h
theorem rE (kind:TypeDesc) (k:Value):∀ (l l':List MapEntry) (i:Nat),SameKeys l l' →
  match Instr.findNow kind k l i with
  | none=>Instr.findNow kind k l' i=none
  | some none=>Instr.findNow kind k l' i=some none
  | some (some (j,_))=>∃ e,i≤j∧l'[j - i]?=some e∧Instr.findNow kind k l' i=some (some (j,e.val))
 | [],[],_,_=>rfl
 | [],_ :: _,_,h=>by simp [SameKeys] at h
 | _ :: _,[],_,h=>by simp [SameKeys] at h
 | e :: l,e' :: l',i,h=>by
  obtain ⟨h1,h2⟩:=h.B0;simp only [Instr.findNow,←h1]
  cases hs:Instr.sameNow kind k e.key with
  | none=>rfl
  | some b =>
   cases b with
   | true=>exact ⟨e',qq6 _,by simp,rfl⟩
   | false =>
    have ih:=rE kind k l l' (i+1) h2;simp only
    cases hf:Instr.findNow kind k l (i+1) with
    | none=>rw [hf] at ih;exact ih
    | some r =>
     rw [hf] at ih
     cases r with
     | none=>exact ih
     | some p =>obtain ⟨j,v⟩:=p;obtain ⟨x,a,b,c⟩:=ih;refine ⟨x,by omega,?_,c⟩;rw [show j - i=(j - (i+1))+1 from by omega];simpa using b
theorem nR (P:Program) (kt:TypeId) (k:Value):∀ (l l':List MapEntry) (i:Nat) (r:Option (Nat × Value)),SameKeys l l'→aK P (Instr.findAsking kt k l i)=some r →
  match r with
  | none=>aK P (Instr.findAsking kt k l' i)=some none
  | some (j,_)=>∃ e,i≤j∧l'[j - i]?=some e∧aK P (Instr.findAsking kt k l' i)=some (some (j,e.val))
 | [],[],_,r,_,h=>by simp only [Instr.findAsking,mZ,qq9] at h;subst h;rfl
 | [],_ :: _,_,_,h,_=>by simp [SameKeys] at h
 | _ :: _,[],_,_,h,_=>by simp [SameKeys] at h
 | e :: l,e' :: l',i,r,hk,h=>by
  obtain ⟨h1,h2⟩:=hk.B0;simp only [Instr.findAsking,rD,h1] at h ⊢
  cases hq:aK P (Op.equal kt k e'.key) with
  | none=>rw [hq] at h;cases h
  | some b =>
   rw [hq] at h;simp only [Option.bind_some] at h ⊢
   cases b with
   | true =>simp only [if_true,mZ,qq9] at h ⊢;subst h;exact ⟨e',qq6 _,by simp,rfl⟩
   | false =>
    simp only [Bool.false_eq_true,if_false] at h ⊢;have ih:=nR P kt k l l' (i+1) r h2 h
    cases r with
    | none=>exact ih
    | some p =>obtain ⟨j,v⟩:=p;obtain ⟨x,a,b,c⟩:=ih;refine ⟨x,by omega,?_,c⟩;rw [show j - i=(j - (i+1))+1 from by omega];simpa using b
theorem Ag {P:Program} {kt:TypeId} {k:Value} {l l':List MapEntry} {r:Option (Nat × Value)} (hk:SameKeys l l') (h:aK P (Instr.findKey kt k l)=some r) :
  match r with
  | none=>aK P (Instr.findKey kt k l')=some none
  | some (j,_)=>∃ e,l'[j]?=some e∧aK P (Instr.findKey kt k l')=some (some (j,e.val)):=by
 unfold Instr.findKey at h ⊢;simp only [rD] at h ⊢
 cases hu:aK P (underlying kt) with
 | none=>rw [hu] at h;cases h
 | some d =>
  rw [hu] at h;simp only [Option.bind_some] at h ⊢;have hs:=rE d k l l' 0 hk
  cases hf:Instr.findNow d k l 0 with
  | none =>
   rw [hf] at h hs;simp only at h hs;simp only [hs];have:=nR P kt k l l' 0 r hk h
   cases r with
   | none=>exact this
   | some p=>obtain ⟨j,v⟩:=p;obtain ⟨e,_,b,c⟩:=this;exact ⟨e,by simpa using b,c⟩
  | some q =>
   rw [hf] at h hs;simp only [mZ,qq9] at h;subst h
   cases q with
   | none=>simp only at hs ⊢;rw [hs];rfl
   | some p =>obtain ⟨j,v⟩:=p;obtain ⟨e,_,b,c⟩:=hs;exact ⟨e,by simpa using b,by rw [c];rfl⟩
theorem jJ.keys {es:List MapEntry} {es':Array MapEntry} (h:jJ γ es es') (hf:es.all (fun e=>flat e.key)=true):SameKeys (es.map fun e=>{e with val:=.nilIface}) es'.toList:=by
 unfold SameKeys;rw [List.map_map];apply List.ext_getElem?;intro i;rw [List.getElem?_map,List.getElem?_map]
 cases he:es[i]? with
 | none =>
  have:es'.toList[i]?=none:=by rw [List.getElem?_eq_none_iff] at he ⊢;have:=h.1;simp;omega
  rw [this];rfl
 | some e =>
  have hi:i < es.length:=(List.getElem?_eq_some_iff.1 he).1;have hi':i < es'.size:=by have:=h.1;omega
  have he':es'.toList[i]?=some es'[i]:=by simp [hi']
  rw [he'];obtain ⟨h1,_,_⟩:=h.2 i e es'[i] he (by simp);have:=h1.cU (List.all_eq_true.1 hf e (List.mem_of_getElem? he));simp [this]
theorem s9 {P:Program} {emp:Bool} {kt:TypeId} {k k':Value} {es:List MapEntry} {es':Array MapEntry} {r:Option Nat} (h:od P emp kt k es=some r) (he:jJ γ es es') (hk:VR γ k k') :
  k'=k∧(∀ w:World,(Instr.checkKey emp 10000 kt k).run P w=.ok () w) ∧
  match r with
  | none=>∀ w:World,(Instr.findKey kt k es'.toList).run P w=.ok none w
  | some i=>∃ e e',es[i]?=some e∧es'[i]?=some e'∧VR γ e.val e'.val∧e'.key=e.key∧flat e.key=true∧e.born=e'.born∧∀ w:World,(Instr.findKey kt k es'.toList).run P w=.ok (some (i,e'.val)) w:=by
 unfold od at h
 cases hc:(flat k && es.all fun e=>flat e.key) with
 | false=>rw [hc] at h;cases h
 | true =>
  rw [hc] at h;simp only [cond_true] at h;simp only [qq7] at hc;have hke:=hk.cU hc.1
  cases hck:aK P (Instr.checkKey emp 10000 kt k) with
  | none=>rw [hck] at h;cases h
  | some u =>
   rw [hck] at h;simp only [Option.map_eq_some_iff] at h;obtain ⟨q,hq,rfl⟩:=h;refine ⟨hke,fun w=>gm P hck w,?_⟩;have hs:=Ag (he.keys hc.2) hq
   cases q with
   | none=>exact fun w=>gm P hs w
   | some p =>
    obtain ⟨j,v⟩:=p;obtain ⟨e',a,b⟩:=hs;have hj':es'[j]?=some e':=by simpa using a
    have hjl:j < es.length:=by have:=(Array.getElem?_eq_some_iff.1 hj').1;have:=he.1;omega
    have hj:es[j]?=some es[j]:=List.getElem?_eq_getElem hjl;obtain ⟨x,y,z⟩:=he.2 j _ _ hj hj';have hfk:=List.all_eq_true.1 hc.2 _ (List.getElem_mem hjl);exact ⟨es[j],e',hj,hj',y,x.cU hfk,hfk,z,fun w=>gm P b w⟩
theorem jJ.empty {es:List MapEntry} {es':Array MapEntry} (h:jJ γ es es'):es'.isEmpty=es.isEmpty:=by
 have:=h.1
 cases hx:es'.isEmpty with
 | true =>
  have hz:es'=#[]:=by simpa using hx
  subst hz
  cases es with
  | nil=>rfl
  | cons a l=>simp at this
 | false =>
  cases es with
  | nil =>have hz:es'=#[]:=Array.eq_empty_of_size_eq_zero this.symm;subst hz;simp at hx
  | cons a l=>rfl
theorem map_some {a:Option bf} {es:List MapEntry} {c:Nat} (h:map? a=some (es,c)):a=some (.map es c):=by
 unfold map? at h;split at h
 ·simp at h;obtain ⟨rfl,rfl⟩:=h;rfl
 ·cases h
theorem qC (hT:cE T) {t kt:TypeId} {z:Option Value} (h:ku T t=some (kt,z)) :
  ∃ et,T.P.underlying t=some (.map kt et)∧∀ v,z=some v→∃ i,T.P.info? et=some i∧i.zero=some v:=by
 unfold ku at h;split at h
 ·rename_i k e _ _ _ _ _ _ hty;simp only [qq9,Prod.mk.injEq] at h;obtain ⟨rfl,rfl⟩:=h;obtain ⟨i,_,_,_,_,hu,_⟩:=hT.ty t _ hty;refine ⟨e,hu,fun v hv=>?_⟩
  cases he:T.ty.get e with
  | none=>rw [he] at hv;cases hv
  | some r =>rw [he] at hv;obtain ⟨i',h1,_,_,h4,_⟩:=hT.ty e r he;exact ⟨i',h1,h4.trans hv⟩
 ·cases h
theorem vL {v:Value} {r:Nat} (h:ia v=some r):v=.map (some r):=by
 unfold ia at h;split at h
 ·simp at h;subst h;rfl
 ·cases h
theorem bI (h:HR γ g w) {m m':Value} {r:Nat} {es:List MapEntry} {c:Nat} (hb:ia m=some r) (hm:map? (g r)=some (es,c)) (hv:VR γ m m') :
  ∃ b es',m'=.map (some b)∧γ.loc r=some (b,0)∧γ.B≤b∧w.heap[b]?=some (.map es' c)∧jJ γ es es'∧(∀ P:Program,(getObj b).run P w=.ok (.map es' c) w):=by
 obtain rfl:=vL hb
 cases hv with
 | flat hf=>simp [bh] at hf
 | map hl =>rename_i b;obtain ⟨_,hB,es',hw,he⟩:=h.gT r b 0 _ (map_some hm) hl;exact ⟨b,es',rfl,hl,hB,hw,he,fun P=>by simp [getObj,Sem.run,hw]⟩
theorem Ah (hT:cE T) (h:HR γ g w) {t:TypeId} {m m' k k' v:Value} {ok:Bool} (ho:kZ T t m k ok g=some v) (hm:VR γ m m') (hk:VR γ k k') :
  aV T.P γ g w n (do Pure.pure (Next.value (←Instr.lookup t m' k' ok))) v .none:=by
 unfold kZ at ho
 cases hmt:ku T t with
 | none=>rw [hmt] at ho;cases ho
 | some p =>
  obtain ⟨kt,z⟩:=p
  cases hb:ia m with
  | none=>rw [hmt,hb] at ho;cases ho
  | some r =>
   cases hmp:map? (g r) with
   | none=>rw [hmt,hb] at ho;simp only [Option.bind_some,hmp] at ho;cases ho
   | some q =>
    obtain ⟨es,c⟩:=q;rw [hmt,hb] at ho;simp only [Option.bind_some,hmp] at ho;obtain ⟨b,es',rfl,hl,hB,hw,he,hgo⟩:=bI h hb hmp hm;obtain ⟨et,hu,hz⟩:=qC hT hmt;unfold zX at ho
    cases hf:od T.P es.isEmpty kt k es with
    | none=>rw [hf] at ho;simp at ho
    | some r' =>
     obtain ⟨rfl,hck,hfk⟩:=s9 hf he hk;rw [←he.empty] at hck
     cases r' with
     | some i =>
      obtain ⟨e,e',he1,he2,hvv,_,_,_,hrun⟩:=hfk
      cases z with
      | none=>rw [hf] at ho;simp at ho
      | some zv =>
       rw [hf] at ho;simp only [he1,Option.map_some,qq9] at ho;subst ho;refine .pure h (aT (v:=bif ok then .tuple #[e'.val,.bool true] else e'.val) ?_) ?_
       ·cases ok <;> simp [Instr.lookup,cq hu,hgo,hck,hrun]
       ·cases ok with
        | false=>exact hvv
        | true=>exact VR.cL (.cons hvv (.cons (.flat rfl) (.nil γ)))
     | none =>
      cases z with
      | none=>rw [hf] at ho;simp at ho
      | some zv =>
       rw [hf] at ho;simp only at ho;obtain ⟨ie,hi1,hi2⟩:=hz zv rfl
       cases hfl:flat zv with
       | false=>rw [hfl] at ho;cases ho
       | true =>
        rw [hfl] at ho;simp only [cond_true,qq9] at ho;subst ho;refine .pure h (aT (v:=bif ok then .tuple #[zv,.bool false] else zv) ?_) ?_
        ·cases ok <;> simp [Instr.lookup,cq hu,hgo,hck,hfk,jE hi1 hi2]
        ·cases ok with
         | false=>exact VR.of_flat hfl
         | true=>exact VR.cL (.cons (VR.of_flat hfl) (.cons (.flat rfl) (.nil γ)))
theorem jJ.modify {es:List MapEntry} {es':Array MapEntry} (h:jJ γ es es') (i:Nat) (f f':MapEntry→MapEntry)
  (hf:∀ e e',es[i]?=some e→es'[i]?=some e'→VR γ (f e).key (f' e').key∧VR γ (f e).val (f' e').val∧(f e).born=(f' e').born):jJ γ (es.modify i f) (es'.modify i f'):=by
 refine ⟨by simp [h.1],fun j a b ha hb=>?_⟩;rw [List.getElem?_modify] at ha;rw [Array.getElem?_modify] at hb;by_cases hij:i=j
 ·subst hij;simp only [if_true] at ha hb;obtain ⟨e,h1,rfl⟩:=Option.map_eq_some_iff.1 ha;obtain ⟨e',h2,rfl⟩:=Option.map_eq_some_iff.1 hb;exact hf e e' h1 h2
 ·simp only [hij,if_false] at ha hb;have ha':es[j]?=some a:=by cases hx:es[j]? <;> simp_all
  exact h.2 j a b ha' hb
theorem jJ.push {es:List MapEntry} {es':Array MapEntry} (h:jJ γ es es') {e e':MapEntry} (he:VR γ e.key e'.key∧VR γ e.val e'.val∧e.born=e'.born):jJ γ (es++[e]) (es'.push e'):=by
 refine ⟨by simp [h.1],fun j a b ha hb=>?_⟩;by_cases hj:j < es.length
 ·rw [List.getElem?_append_left hj] at ha;rw [Array.getElem?_push,if_neg (by have:=h.1;omega)] at hb;exact h.2 j a b ha hb
 ·rw [List.getElem?_append_right (by omega)] at ha;have hj2:j - es.length=0:=by have:=(List.getElem?_eq_some_iff.1 ha).1;simp at this;omega
  rw [hj2] at ha;simp at ha;subst ha;rw [Array.getElem?_push,if_pos (by have:=h.1;omega)] at hb;cases hb;exact he
theorem pE (h:HR γ g w) {r b:Nat} {es es2:List MapEntry} {c c2:Nat} {es' es2':Array MapEntry} (hm:map? (g r)=some (es,c)) (hl:γ.loc r=some (b,0)) (hB:γ.B≤b)
  (hw:w.heap[b]?=some (.map es' c)) (he:jJ γ es2 es2') :
  HR γ (iB g r (.map es2 c2)) {w with heap:=w.heap.setIfInBounds b (.map es2' c2)}∧j7 γ g w γ (iB g r (.map es2 c2)) {w with heap:=w.heap.setIfInBounds b (.map es2' c2)} ∧
   (∀ P:Program,(setObj b (.map es2' c2)).run P w=.ok () {w with heap:=w.heap.setIfInBounds b (.map es2' c2)}):=by
 have hlt:b < w.heap.size:=(Array.getElem?_eq_some_iff.1 hw).1;obtain ⟨q1,q2,_⟩:=Af (a:=.map es2 c2) (obj:=.map es2' c2) h (map_some hm) rfl hl hw rfl ⟨rfl,hB,es2',by simp [hlt],he⟩;exact ⟨q1,q2,fun P=>by simp [setObj,Sem.run,hw]⟩
theorem vM (hT:cE T) (h:HR γ g w) {t:TypeId} {m m' k k' v:Value} {e:cv} (ho:eY T t m k g=some (v,e)) (hm:VR γ m m') (hk:VR γ k k') :
  aV T.P γ g w n (do Pure.pure (Next.value (←Instr.mapEntry t m' k'))) v e:=by
 unfold eY at ho
 cases hmt:ku T t with
 | none=>rw [hmt] at ho;cases ho
 | some p =>
  obtain ⟨kt,z⟩:=p
  cases hb:ia m with
  | none=>rw [hmt,hb] at ho;cases ho
  | some r =>
   cases hmp:map? (g r) with
   | none=>rw [hmt,hb] at ho;simp only [hmp] at ho;cases ho
   | some q =>
    obtain ⟨es,c⟩:=q;rw [hmt,hb] at ho;simp only [hmp] at ho;obtain ⟨b,es',rfl,hl,hB,hw,he,hgo⟩:=bI h hb hmp hm;obtain ⟨et,hu,hz⟩:=qC hT hmt;unfold mh at ho
    cases hf:od T.P false kt k es with
    | none=>rw [hf] at ho;simp at ho
    | some r' =>
     obtain ⟨rfl,hck,hfk⟩:=s9 hf he hk
     have hflk:flat k'=true:=by
      unfold od at hf
      cases hc:(flat k' && es.all fun e=>flat e.key) with
      | false=>rw [hc] at hf;cases hf
      | true=>simp only [qq7] at hc;exact hc.1
     cases r' with
     | some i =>
      obtain ⟨x,x',he1,he2,hvv,hkk,hkf,hborn,hrun⟩:=hfk;rw [hf] at ho;simp only [he1] at ho
      cases hsb:Instr.sameBits 10000 x.key k' with
      | false=>rw [hsb] at ho;cases ho
      | true =>
       rw [hsb] at ho;simp only [cond_true,qq9,Prod.mk.injEq] at ho;obtain ⟨rfl,rfl⟩:=ho
       have hmod:jJ γ (es.modify i fun e=>{e with key:=k'}) (es'.modify i fun e=>{e with key:=k'}) :=
        he.modify i _ _ fun a a' h1 h2=>by obtain ⟨_,y,zz⟩:=he.2 i a a' h1 h2;exact ⟨VR.of_flat hflk,y,zz⟩
       obtain ⟨q1,q2,q3⟩:=pE (c2:=c) h hmp hl hB hw hmod;refine ⟨.tuple #[x'.val,.int .i64 x'.born],_,γ,.inl (aT ?_),Gm.Le.refl γ,fun _ _=>rfl,q1,?_,q2⟩
       ·have hstay:(Instr.keyThatStays x'.key k').run T.P w=.ok k' w:=by simp [Instr.keyThatStays,hkk,hsb]
        simp [Instr.mapEntry,cq hu,hgo,hck,hrun,he2,hstay,q3,goInt]
       ·rw [←hborn];exact VR.cL (.cons hvv (.cons (.flat rfl) (.nil γ)))
     | none =>
      cases z with
      | none=>rw [hf] at ho;simp at ho
      | some zv =>
       rw [hf] at ho;simp only at ho;obtain ⟨ie,hi1,hi2⟩:=hz zv rfl
       cases hfl:flat zv with
       | false=>rw [hfl] at ho;cases ho
       | true =>rw [hfl] at ho;simp only [cond_true,qq9,Prod.mk.injEq] at ho;obtain ⟨rfl,rfl⟩:=ho;have hpush:jJ γ (es++[{key:=k',val:=zv,born:=c}]) (es'.push {key:=k',val:=zv,born:=c}):=he.push ⟨VR.of_flat hflk,VR.of_flat hfl,rfl⟩;obtain ⟨q1,q2,q3⟩:=pE (c2:=c+1) h hmp hl hB hw hpush;refine ⟨.tuple #[zv,.int .i64 c],_,γ,.inl (aT ?_),Gm.Le.refl γ,fun _ _=>rfl,q1,VR.cL (.cons (VR.of_flat hfl) (.cons (.flat rfl) (.nil γ))),q2⟩;simp [Instr.mapEntry,cq hu,hgo,hck,hfk,jE hi1 hi2,q3,goInt]
end
section
variable {T : bL} {γ : Gm} {g : aG} {w : World} {n : Nat}
def fZ (γ:Gm):List MapEntry→List MapEntry→Prop
 | [],[]=>True
 | e :: l,e' :: l'=>(VR γ e.key e'.key∧VR γ e.val e'.val∧e.born=e'.born)∧fZ γ l l'
 | _,_=>False
theorem fZ.H7 {γ:Gm}:∀ {l l':List MapEntry},l.length=l'.length →
  (∀ (i:Nat) (e e':MapEntry),l[i]?=some e→l'[i]?=some e'→VR γ e.key e'.key∧VR γ e.val e'.val∧e.born=e'.born)→fZ γ l l'
 | [],[],_,_=>trivial
 | [],_ :: _,h,_=>by simp at h
 | _ :: _,[],h,_=>by simp at h
 | e :: l,e' :: l',h,hp=>⟨hp 0 e e' rfl rfl,fZ.H7 (by simpa using h) fun i a a' x y=>hp (i+1) a a' (by simpa using x) (by simpa using y)⟩
theorem jJ.list {es:List MapEntry} {es':Array MapEntry} (h:jJ γ es es'):fZ γ es es'.toList :=
 fZ.H7 (by simpa using h.1) fun i e e' a b=>h.2 i e e' a (by simpa using b)
theorem fZ.len {γ:Gm}:∀ {l l':List MapEntry},fZ γ l l'→l.length=l'.length
 | [],[],_=>rfl
 | [],_ :: _,h=>h.elim
 | _ :: _,[],h=>h.elim
 | _ :: _,_ :: _,h=>by simp [fZ.len h.2]
theorem fZ.get {γ:Gm}:∀ {l l':List MapEntry} {i:Nat} {e':MapEntry},fZ γ l l'→l'[i]?=some e'→∃ e,l[i]?=some e∧VR γ e.key e'.key∧VR γ e.val e'.val∧e.born=e'.born
 | [],[],i,e',_,h=>by simp at h
 | [],_ :: _,_,_,h,_=>h.elim
 | _ :: _,[],_,_,h,_=>h.elim
 | e :: l,x :: l',0,e',h,hx=>by simp at hx;subst hx;exact ⟨e,rfl,h.1⟩
 | e :: l,x :: l',i+1,e',h,hx=>by obtain ⟨y,a,b⟩:=fZ.get (i:=i) h.2 (by simpa using hx);exact ⟨y,by simpa using a,b⟩
theorem fZ.filter {γ:Gm} (p:Nat→Bool):∀ {l l':List MapEntry},fZ γ l l'→fZ γ (l.filter fun e=>p e.born) (l'.filter fun e=>p e.born)
 | [],[],_=>trivial
 | [],_ :: _,h=>h.elim
 | _ :: _,[],h=>h.elim
 | e :: l,e' :: l',h=>by
  have ih:=fZ.filter p h.2;have hb:=h.1.2.2;by_cases hp:p e.born=true
  ·have hp':p e'.born=true:=by rw [←hb];exact hp
   rw [List.filter_cons_of_pos (by simpa using hp),List.filter_cons_of_pos (by simpa using hp')];exact ⟨h.1,ih⟩
  ·have hp':¬ p e'.born=true:=by rw [←hb];exact hp
   rw [List.filter_cons_of_neg (by simpa using hp),List.filter_cons_of_neg (by simpa using hp')];exact ih
theorem fZ.append {γ:Gm}:∀ {a a' b b':List MapEntry},fZ γ a a'→fZ γ b b'→fZ γ (a++b) (a'++b')
 | [],[],_,_,_,h=>h
 | [],_ :: _,_,_,h,_=>h.elim
 | _ :: _,[],_,_,h,_=>h.elim
 | _ :: _,_ :: _,_,_,h,k=>⟨h.1,fZ.append h.2 k⟩
theorem fZ.findIdx {γ:Gm} (p:Nat→Bool):∀ {l l':List MapEntry},fZ γ l l'→(l.findIdx? fun e=>p e.born)=l'.findIdx? fun e=>p e.born
 | [],[],_=>rfl
 | [],_ :: _,h=>h.elim
 | _ :: _,[],h=>h.elim
 | e :: l,e' :: l',h=>by rw [List.findIdx?_cons,List.findIdx?_cons,h.1.2.2,fZ.findIdx p h.2]
theorem fZ.find {γ:Gm} (p:Nat→Bool):∀ {l l':List MapEntry},fZ γ l l' →
  match l.find? (fun e=>p e.born) with
  | none=>l'.find? (fun e=>p e.born)=none
  | some e=>∃ e',l'.find? (fun e=>p e.born)=some e'∧VR γ e.key e'.key∧VR γ e.val e'.val∧e.born=e'.born
 | [],[],_=>rfl
 | [],_ :: _,h=>h.elim
 | _ :: _,[],h=>h.elim
 | e :: l,e' :: l',h=>by
  have hb:=h.1.2.2
  cases hp:p e.born with
  | true =>rw [List.find?_cons_of_pos (by simpa using hp),List.find?_cons_of_pos (by rw [←hb];simpa using hp)];exact ⟨e',rfl,h.1⟩
  | false =>rw [List.find?_cons_of_neg (by simp [hp]),List.find?_cons_of_neg (by rw [←hb];simp [hp])];exact fZ.find p h.2
theorem tc (h:HR γ g w) {t:TypeId} {m m' s s' x x':Value} {e:cv} (ho:dB m s x g=some e) (hm:VR γ m m') (hs:VR γ s s') (hx:VR γ x x') :
  aV T.P γ g w n (do Instr.entryStore t m' s' x';Pure.pure Next.skip) undef e:=by
 unfold dB at ho
 cases hb:ia m with
 | none=>rw [hb] at ho;simp at ho
 | some r =>
  cases hi:intOf? s with
  | none=>rw [hb,hi] at ho;simp at ho
  | some born =>
   cases hmp:map? (g r) with
   | none=>rw [hb,hi] at ho;simp only [hmp] at ho;cases ho
   | some q =>
    obtain ⟨es,c⟩:=q;rw [hb,hi] at ho;simp only [hmp] at ho;obtain ⟨b,es',rfl,hl,hB,hw,he,hgo⟩:=bI h hb hmp hm;obtain ⟨kk,rfl⟩:=vG hi;obtain rfl:=hs.bN rfl
    cases hf:es.findIdx? (fun e=>(e.born:Int) == born) with
    | none=>rw [hf] at ho;cases ho
    | some i =>
     rw [hf] at ho;simp only [qq9] at ho;subst ho;have hf':es'.findIdx? (fun e=>(e.born:Int) == born)=some i:=by have:=fZ.findIdx (fun k=>(k:Int) == born) he.list;rw [hf] at this;obtain ⟨l⟩:=es';rw [List.findIdx?_toArray];exact this.symm
     have hmod:jJ γ (es.modify i fun e=>{e with val:=x}) (es'.modify i fun e=>{e with val:=x'}) :=
      he.modify i _ _ fun a a' h1 h2=>by obtain ⟨y,_,zz⟩:=he.2 i a a' h1 h2;exact ⟨y,hx,zz⟩
     obtain ⟨q1,q2,q3⟩:=pE (c2:=c) h hmp hl hB hw hmod;refine ⟨undef,_,γ,.inr ⟨rq ?_,rfl⟩,Gm.Le.refl γ,fun _ _=>rfl,q1,VR.undef γ,q2⟩;simp [Instr.entryStore,hgo,asInt,asIntOf,hf',q3]
theorem uZ (hT:cE T) (h:HR γ g w) {t:TypeId} {m m' k k' x x':Value} {e:cv} (ho:eR T t m k x g=some e) (hm:VR γ m m') (hk:VR γ k k') (hx:VR γ x x') :
  aV T.P γ g w n (do Instr.mapUpdate t m' k' x';Pure.pure Next.skip) undef e:=by
 unfold eR at ho
 cases hmt:ku T t with
 | none=>rw [hmt] at ho;simp at ho
 | some p =>
  obtain ⟨kt,z⟩:=p
  cases hb:ia m with
  | none=>rw [hmt,hb] at ho;simp at ho
  | some r =>
   cases hmp:map? (g r) with
   | none=>rw [hmt,hb] at ho;simp only [hmp] at ho;cases ho
   | some q =>
    obtain ⟨es,c⟩:=q;rw [hmt,hb] at ho;simp only [hmp] at ho;obtain ⟨b,es',rfl,hl,hB,hw,he,hgo⟩:=bI h hb hmp hm;obtain ⟨et,hu,hz⟩:=qC hT hmt;unfold mT at ho
    cases hf:od T.P false kt k es with
    | none=>rw [hf] at ho;simp at ho
    | some r' =>
     obtain ⟨rfl,hck,hfk⟩:=s9 hf he hk
     have hflk:flat k'=true:=by
      unfold od at hf
      cases hc:(flat k' && es.all fun e=>flat e.key) with
      | false=>rw [hc] at hf;cases hf
      | true=>simp only [qq7] at hc;exact hc.1
     cases r' with
     | some i =>
      obtain ⟨y,y',he1,he2,hvv,hkk,hkf,hborn,hrun⟩:=hfk;rw [hf] at ho;simp only [he1] at ho
      cases hsb:Instr.sameBits 10000 y.key k' with
      | false=>rw [hsb] at ho;cases ho
      | true =>
       rw [hsb] at ho;simp only [cond_true,qq9] at ho;subst ho
       have hmod:jJ γ (es.modify i fun e=>{e with key:=k',val:=x}) (es'.modify i fun e=>{e with key:=k',val:=x'}) :=
        he.modify i _ _ fun a a' h1 h2=>by obtain ⟨_,_,zz⟩:=he.2 i a a' h1 h2;exact ⟨VR.of_flat hflk,hx,zz⟩
       obtain ⟨q1,q2,q3⟩:=pE (c2:=c) h hmp hl hB hw hmod;refine ⟨undef,_,γ,.inr ⟨rq ?_,rfl⟩,Gm.Le.refl γ,fun _ _=>rfl,q1,VR.undef γ,q2⟩;have hstay:(Instr.keyThatStays y'.key k').run T.P w=.ok k' w:=by simp [Instr.keyThatStays,hkk,hsb]
       simp [Instr.mapUpdate,cq hu,hgo,hck,hrun,he2,hstay,q3]
     | none =>rw [hf] at ho;simp only [qq9] at ho;subst ho;have hpush:jJ γ (es++[{key:=k',val:=x,born:=c}]) (es'.push {key:=k',val:=x',born:=c}):=he.push ⟨VR.of_flat hflk,hx,rfl⟩;obtain ⟨q1,q2,q3⟩:=pE (c2:=c+1) h hmp hl hB hw hpush;refine ⟨undef,_,γ,.inr ⟨rq ?_,rfl⟩,Gm.Le.refl γ,fun _ _=>rfl,q1,VR.undef γ,q2⟩;simp [Instr.mapUpdate,cq hu,hgo,hck,hfk,q3]
theorem Ai (h:HR γ g w) (hn:γ.loc n=none) {t:TypeId} :
  aV T.P γ g w n (do Pure.pure (Next.value (←Instr.makeMap t none))) (.map (some n)) (.new (.map [] 0)):=by
 have hle:=Gm.mW (b:=w.heap.size) (c:=0) hn;refine ⟨.map (some w.heap.size),w.alloc (.map #[] 0),γ.add n w.heap.size 0,.inl (aT (by simp [Instr.makeMap])),hle,fun k hk=>Gm.bO _ _ _ (fun e=>Bool.noConfusion (hk e:true=false)),?_,VR.map (Gm.cD _ _ _ _),j7.new (obj:=_) rfl rfl rfl rfl⟩;refine HR.new (w:=w) h hn (obj:=_) rfl ⟨rfl,h.base,#[],?_,rfl,by simp⟩;show (w.heap.push _)[w.heap.size]?=_;simp
theorem Fx (h:HR γ g w) {it it':Value} {r m since last c:Nat} {seen:List Nat} {es:List MapEntry} (ha:addr? it=some (r,0)) (hg:g r=some (.iter m since seen last))
  (hm:map? (g m)=some (es,c)) (hv:VR γ it it') :
  ∃ b bm es',it'=.pointer (some ⟨b,0,none⟩)∧γ.loc r=some (b,0)∧γ.B≤b∧γ.loc m=some (bm,0)∧w.heap[b]?=some (.mapIter (some bm) since seen.toArray last) ∧
   w.heap[bm]?=some (.map es' c)∧jJ γ es es':=by
 obtain ⟨b,d,hl,rfl⟩:=hv.addr ha;obtain ⟨rfl,hB,bm,hlm,hw⟩:=h.gT r b d _ hg hl;obtain ⟨_,_,es',hw',he⟩:=h.gT m bm 0 _ (map_some hm) hlm;exact ⟨b,bm,es',rfl,hl,hB,hlm,hw,hw',he⟩
theorem B1 (h:HR γ g w) {it it' v:Value} {e:cv} (ho:sY it g=some (v,e)) (hv:VR γ it it') :
  aV T.P γ g w n (do Pure.pure (Next.value (←Instr.entry it'))) v e:=by
 unfold sY at ho;split at ho
 ·rename_i r ha
  cases hg:g r with
  | none=>rw [hg] at ho;cases ho
  | some gT =>
   rw [hg] at ho
   cases gT with
   | iter m since seen stepped =>
    simp only at ho
    cases hs:seen.getLast? with
    | none=>rw [hs] at ho;simp at ho
    | some stamp =>
     cases hm:map? (g m) with
     | none=>rw [hs,hm] at ho;simp at ho
     | some q =>
      obtain ⟨es,clock⟩:=q;rw [hs,hm] at ho;simp only at ho
      cases hc:Nat.beq clock stepped with
      | false=>rw [hc] at ho;cases ho
      | true =>
       rw [hc] at ho;simp only [cond_true,Option.map_eq_some_iff,Prod.mk.injEq] at ho;obtain ⟨x,hx,rfl,rfl⟩:=ho;have hcc:=Nat.eq_of_beq_eq_true hc;subst hcc;obtain ⟨b,bm,es',rfl,hl,hB,hlm,hw,hw',he⟩:=Fx h ha hg hm hv;have hf:=fZ.find (fun k=>k == stamp) he.list;rw [hx] at hf;obtain ⟨x',h1,h2,h3,_⟩:=hf;have h1':es'.find? (fun e=>e.born == stamp)=some x':=by rw [←Array.find?_toList];exact h1
       have hg1:(getObj b).run T.P w=.ok (.mapIter (some bm) since seen.toArray clock) w:=by simp [getObj,Sem.run,hw]
       have hg2:(getObj bm).run T.P w=.ok (.map es' clock) w:=by simp [getObj,Sem.run,hw']
       have hback:seen.toArray.back?=some stamp:=by simpa using hs
       refine .pure h (aT (v:=.tuple #[x'.key,x'.val]) ?_) (VR.cL (.cons h2 (.cons h3 (.nil γ))));simp [Instr.entry,hg1,hg2,hback,h1']
   | _=>cases ho
 ·cases ho
theorem DQ (h:HR γ g w) {it it':Value} {ty:TypeId} {L:List (Value × cv)} (ho:ri it g=some L) (hv:VR γ it it') :
  ∃ v e,(v,e) ∈ L∧aV T.P γ g w n (do Pure.pure (Next.value (←Instr.next it' false ty))) v e:=by
 unfold ri at ho;split at ho
 ·rename_i r
  cases hg:g r with
  | none=>rw [hg] at ho;cases ho
  | some gT =>
   rw [hg] at ho
   cases gT with
   | iter m since seen last =>
    simp only at ho
    cases hm:map? (g m) with
    | none=>rw [hm] at ho;cases ho
    | some q =>
     obtain ⟨es,clock⟩:=q;rw [hm] at ho;simp only at ho;obtain ⟨b,bm,es',rfl,hl,hB,hlm,hw,hw',he⟩:=Fx h rfl hg hm hv;have hg1:(getObj b).run T.P w=.ok (.mapIter (some bm) since seen.toArray last) w:=by simp [getObj,Sem.run,hw]
     have hg2:(getObj bm).run T.P w=.ok (.map es' clock) w:=by simp [getObj,Sem.run,hw']
     unfold vv at ho
     cases hgone:(!seen.isEmpty && !es.isEmpty && es.all (fun e=>Nat.ble last e.born)) with
     | true=>rw [hgone] at ho;cases ho
     | false =>
      rw [hgone] at ho;simp only [cond_false,qq9] at ho;subst ho;have hleft:fZ γ (es.filter fun e=>!seen.contains e.born) (es'.filter fun e=>!seen.toArray.contains e.born).toList:=by rw [Array.toList_filter];have:=fZ.filter (fun k=>!seen.contains k) he.list;simpa using this
      have hold:fZ γ ((es.filter fun e=>!seen.contains e.born).filter fun e=>decide (e.born < since)) ((es'.filter fun e=>!seen.toArray.contains e.born).filter (·.born < since)).toList:=by rw [Array.toList_filter];exact fZ.filter (fun k=>decide (k < since)) hleft
      have hnew:fZ γ ((es.filter fun e=>!seen.contains e.born).filter fun e=>decide (e.born ≥ since)) ((es'.filter fun e=>!seen.toArray.contains e.born).filter (·.born ≥ since)).toList:=by rw [Array.toList_filter];exact fZ.filter (fun k=>decide (k ≥ since)) hleft
      have hgone':(!seen.toArray.isEmpty && !es'.isEmpty && es'.all (·.born ≥ last))=false:=by
       have h1:es'.all (·.born ≥ last)=es.all (fun e=>Nat.ble last e.born):=by
        rw [←Array.all_toList]
        have:∀ {l l':List MapEntry},fZ γ l l'→l'.all (fun e=>decide (e.born ≥ last))=l.all (fun e=>Nat.ble last e.born):=by
         intro l
         induction l with
         | nil=>intro l' hh;cases l' with
          | nil=>rfl
          | cons=>exact hh.elim
         | cons a l ih=>intro l' hh;cases l' with
          | nil=>exact hh.elim
          | cons a' l' =>simp only [List.all_cons,ih hh.2,ble_eq,←hh.1.2.2]
        exact this he.list
       rw [h1,he.empty];have h2:seen.toArray.isEmpty=seen.isEmpty:=by cases seen <;> rfl
       rw [h2];exact hgone
      generalize hO:(es.filter fun e=>!seen.contains e.born).filter (fun e=>decide (e.born < since))=old at hold ⊢;generalize hN:(es.filter fun e=>!seen.contains e.born).filter (fun e=>decide (e.born ≥ since))=new at hnew ⊢;generalize hO':(es'.filter fun e=>!seen.toArray.contains e.born).filter (·.born < since)=old' at hold;generalize hN':(es'.filter fun e=>!seen.toArray.contains e.born).filter (·.born ≥ since)=new' at hnew;have hboth:=hold.append hnew
      have hempty:old'.isEmpty=old.isEmpty:=by
       have:=hold.len
       cases old with
       | nil =>have hz:old'=#[]:=Array.eq_empty_of_size_eq_zero (by simpa using this.symm);subst hz;rfl
       | cons a l =>
        cases hx:old'.isEmpty with
        | false=>rfl
        | true =>
         have hz:old'=#[]:=by simpa using hx
         subst hz;simp at this
      let cand:Array (Option MapEntry):=(if old'.isEmpty then #[none] else #[])++(old'++new').map some
      have hpos:0 < cand.size:=by
       show 0 < ((if old'.isEmpty then #[none] else #[])++(old'++new').map some).size
       cases hx:old'.isEmpty with
       | true=>simp;omega
       | false =>
        have:0 < old'.size:=by
         rcases Nat.eq_zero_or_pos old'.size with h0|h0
         ·have:old'=#[]:=Array.eq_empty_of_size_eq_zero h0;subst this;simp at hx
         ·exact h0
        simp;omega
      obtain ⟨i,w1,hi,hw1,hch⟩:∃ i w1,i < cand.size∧(w1=w∨w1=w.drew)∧(choose (.mapNext cand.size)).run T.P w=.ok i w1:=by
       by_cases hf:cand.size≤1
       ·refine ⟨0,w,hpos,.inl rfl,?_⟩;simp [choose,Sem.run,Question.forced,hf]
       ·refine ⟨_,w.drew,Nat.mod_lt (w.tape w.drawn (.mapNext cand.size)) hpos,.inr rfl,?_⟩;have hf':decide (cand.size≤1)=false:=decide_eq_false hf;simp only [choose,Sem.run,Question.forced,hf',Bool.false_eq_true,if_false,Question.cut];rfl
      have hw1h:w1.heap=w.heap:=by rcases hw1 with rfl|rfl <;> rfl
      have hw1o:w1.os=w.os∧w1.tape=w.tape∧w1.output=w.output:=by rcases hw1 with rfl|rfl <;> exact ⟨rfl,rfl,rfl⟩
      have hH1:HR γ g w1:=h.same hw1h;have hU1:j7 γ g w γ g w1:=j7.heap hw1h hw1o.1 hw1o.2.1 hw1o.2.2;obtain ⟨x,hx⟩:∃ x,cand[i]?=some x:=⟨_,Array.getElem?_eq_getElem hi⟩
      have hmain:∀ u wu,(match x with
        | some e=>(do setObj b (.mapIter (some bm) since (seen.toArray.push e.born) clock);Pure.pure (.tuple #[.bool true,e.key,e.val]):Sem Value)
        | none=>Pure.pure (.tuple #[.bool false])).run T.P w1=.ok u wu→(Instr.next (.pointer (some ⟨b,0,none⟩)) false ty).run T.P w=.ok u wu:=by
       intro u wu hu;have hx':((if old'.isEmpty=true then #[none] else #[])++Array.map some (old'++new'))[i]?=some x:=hx;simp only [Instr.next,Sem.run_bind,hg1,Result.andThen_ok,hg2,hgone',Bool.false_eq_true,if_false,hO',hN'];have hch':(choose (.mapNext ((if old'.isEmpty=true then #[none] else #[])++Array.map some (old'++new')).size)).run T.P w=.ok i w1:=hch;rw [hch'];simp only [Result.andThen_ok,hx']
       cases x with
       | none=>exact hu
       | some e=>simpa using hu
      by_cases hover:old'.isEmpty=true∧i=0
      ·
       obtain ⟨ho1,rfl⟩:=hover;have hxn:x=none:=by have hx':((if old'.isEmpty=true then #[none] else #[])++Array.map some (old'++new'))[0]?=some x:=hx;rw [if_pos ho1] at hx';rw [Array.getElem?_append_left (by simp)] at hx';simpa using hx'.symm
       subst hxn;refine ⟨.tuple #[.bool false],.none,?_,?_⟩
       ·rw [←hempty,ho1];simp
       ·refine ⟨.tuple #[.bool false],w1,γ,.inl (aT (hmain _ _ rfl)),Gm.Le.refl γ,fun _ _=>rfl,hH1,VR.cL (l:=[.bool false]) (cy.of_flat rfl),hU1⟩
      ·
       obtain ⟨j,e',hj,rfl⟩:∃ (j:Nat) (e':MapEntry),(old'.toList++new'.toList)[j]?=some e'∧x=some e':=by
        have hx':((if old'.isEmpty=true then #[none] else #[])++Array.map some (old'++new'))[i]?=some x:=hx
        cases hox:old'.isEmpty with
        | true =>rw [hox] at hx' hover;simp only [if_true] at hx';have hi0:i ≠ 0:=fun e=>hover ⟨rfl,e⟩;rw [Array.getElem?_append_right (by simp;omega)] at hx';simp only [List.size_toArray,List.length_cons,List.length_nil,Array.getElem?_map] at hx';obtain ⟨e',h1,h2⟩:=Option.map_eq_some_iff.1 hx';exact ⟨i - 1,e',by rw [←Array.toList_append,Array.getElem?_toList];simpa using h1,h2.symm⟩
        | false =>rw [hox] at hx';simp only [Bool.false_eq_true,if_false,Array.empty_append,Array.getElem?_map] at hx';obtain ⟨e',h1,h2⟩:=Option.map_eq_some_iff.1 hx';exact ⟨i,e',by rw [←Array.toList_append,Array.getElem?_toList];exact h1,h2.symm⟩
       obtain ⟨e,he1,hk,hvv,hborn⟩:=hboth.get hj;have hset:(setObj b (.mapIter (some bm) since (seen.toArray.push e'.born) clock)).run T.P w1=.ok () {w1 with heap:=w1.heap.setIfInBounds b (.mapIter (some bm) since (seen.toArray.push e'.born) clock)}:=by simp [setObj,Sem.run,hw1h,hw]
       have hwb:w1.heap[b]?=some (.mapIter (some bm) since seen.toArray last):=by rw [hw1h];exact hw
       have hltb:b < w1.heap.size:=(Array.getElem?_eq_some_iff.1 hwb).1
       obtain ⟨q1,q2,_⟩:=Af (a:=.iter m since (seen++[e.born]) clock) (obj:=.mapIter (some bm) since (seen.toArray.push e'.born) clock) hH1 hg rfl hl hwb rfl
        ⟨rfl,hB,bm,hlm,by rw [hborn];simp [hltb]⟩
       refine ⟨.tuple #[.bool true,e.key,e.val],.put r (.iter m since (seen++[e.born]) clock),?_,?_⟩
       ·refine List.mem_append.2 (.inr ?_);exact List.mem_map.2 ⟨e,List.mem_of_getElem? he1,rfl⟩
       ·refine ⟨.tuple #[.bool true,e'.key,e'.val],_,γ,.inl (aT (hmain _ _ (by simp only [Sem.run_bind,hset,Result.andThen_ok,Sem.run_pure]))),Gm.Le.refl γ,fun _ _=>rfl,q1,
         VR.cL (.cons (.flat rfl) (.cons hk (.cons hvv (.nil γ)))),?_⟩
        exact hU1.trans q2
   | _=>cases ho
 ·cases ho
end
section
variable {T : bL} {γ : Gm} {g : aG} {w : World} {n : Nat}
theorem cy.map {ρ ρ':Operand→Value} {l:List Operand} (h:∀ x ∈ l,VR γ (ρ x) (ρ' x)):cy γ (l.map ρ) (l.map ρ'):=by refine ⟨by simp,fun i v v' a b=>?_⟩;rw [List.getElem?_map] at a b;obtain ⟨x,hx,rfl⟩:=Option.map_eq_some_iff.1 a;rw [hx] at b;simp at b;subst b;exact h x (List.mem_of_getElem? hx)
theorem jK.map {ρ ρ':Operand→Value} {l:List (Nat × Operand)} (h:∀ x ∈ l,VR γ (ρ x.2) (ρ' x.2)):jK γ (l.map fun (i,x)=>(i,ρ x)) (l.map fun (i,x)=>(i,ρ' x)):=by refine ⟨by simp,fun i p p' a b=>?_⟩;rw [List.getElem?_map] at a b;obtain ⟨x,hx,rfl⟩:=Option.map_eq_some_iff.1 a;rw [hx] at b;simp at b;subst b;exact ⟨rfl,h x (List.mem_of_getElem? hx)⟩
theorem oz.map {ρ ρ':Operand→Value} {x:Option Operand} (h:∀ y,x=some y→VR γ (ρ y) (ρ' y)):oz γ (x.map ρ) (x.map ρ'):=by
 cases x with
 | none=>trivial
 | some y=>exact h y rfl
theorem oz.cU {a b:Option Value} (h:oz γ a b) (hf:a.toList.all flat=true):b=a:=by
 cases a with
 | none=>cases b with
  | none=>rfl
  | some _=>exact h.elim
 | some x=>cases b with
  | none=>exact h.elim
  | some y=>simp at hf;rw [VR.cU h hf]
theorem B2 (hT:cE T) (h:HR γ g w) {t ty:TypeId} {x x' v:Value} {e:cv} (ho:og T t x g=some (v,e)) (hx:VR γ x x') :
  aV T.P γ g w n (do Pure.pure (Next.value (←Builtin.clear_ #[t] ty #[x']))) v e:=by
 unfold og at ho;split at ho
 ·rename_i r hty;obtain ⟨i,_,_,_,_,hu,_⟩:=hT.ty t _ hty
  cases hm:map? (g r) with
  | none=>rw [hm] at ho;cases ho
  | some p =>obtain ⟨es,clock⟩:=p;rw [hm] at ho;simp only [qq9,Prod.mk.injEq] at ho;obtain ⟨rfl,rfl⟩:=ho;obtain ⟨b,es',rfl,hl,hB,hw,he,hget⟩:=bI h (m:=.map (some r)) rfl hm hx;obtain ⟨q1,q2,q3⟩:=pE (es2:=[]) (es2':=#[]) (c2:=clock) h hm hl hB hw ⟨rfl,fun i a b ha=>by cases ha⟩;refine ⟨.tuple #[],_,γ,.inl (aT ?_),Gm.Le.refl γ,fun _ _=>rfl,q1,VR.cL (l:=[]) (l':=[]) (cy.nil γ),q2⟩;simp [Builtin.clear_,cq hu,hget T.P,q3 T.P]
 ·rename_i k o nn _ hty;obtain ⟨i,_,_,_,_,hu,_⟩:=hT.ty t _ hty
  cases he:elem? T t with
  | none=>rw [he] at ho;cases ho
  | some inf =>
   cases hc:cells? (g k) with
   | none=>rw [he,hc] at ho;cases ho
   | some p =>
    obtain ⟨cs,own,es⟩:=p;rw [he,hc] at ho;simp only at ho
    cases hcd:(Nat.ble 1 nn && own && bZ inf && Nat.ble (o+nn * inf.size) cs.length) with
    | false=>rw [hcd] at ho;cases ho
    | true =>
     rw [hcd] at ho;simp only [cond_true,qq9,Prod.mk.injEq] at ho;obtain ⟨rfl,rfl⟩:=ho;obtain ⟨c1,c2,c3,c4⟩:=BS hcd;subst c2;have c1:=Nat.le_of_ble_eq_true c1;have c4:=Nat.le_of_ble_eq_true c4;obtain ⟨z,hzz,hzs,h1,hfl⟩:=jv c3;obtain ⟨el,j,hut,hj,hsz,_,hz⟩:=j8 hT he
     cases hx with
     | flat hf=>simp [bh] at hf
     | dc=>omega
     | slice hl hle0 ht hlo hk =>
      rename_i b d c';obtain ⟨cs',el',fz,hw,hcr,hown⟩:=h.cells hc hl;obtain ⟨rfl,rfl,hB,hcapsz⟩:=hown rfl;have hpos:0 < z.cells.size:=by omega
      have harr:=mY z.cells (nn * inf.size) (.inr hpos);have hflz:=lU hfl (nn * inf.size) (.inr (by simpa using hpos));have hlen:=nP z.cells.toList (nn * inf.size)
      have hcs:cs.length≤cs'.size:=by
       by_cases hn:cs=[]
       ·subst hn;simp
       ·have:=hcr.size_le hn;omega
      have hzc:(Builtin.zeroCells z.cells nn).toList=cr z.cells.toList (nn * inf.size):=by unfold Builtin.zeroCells;rw [hzs];rw [hzs] at harr;exact harr
      have hst:=run_storeCells_at T.P b (0+o) el' (cr z.cells.toList (nn * inf.size)) 0 cs' w hw (by rw [hlen];omega) ((cy.of_flat (γ:=γ) hflz).bH (List.all_eq_true.2 fun v hv=>by have h2:=List.all_eq_true.1 hflz v hv;cases v <;> first|rfl|(simp [bh] at h2)));obtain ⟨o1,o2,o3,o4⟩:=setRow_os w b (splice cs'.toList (cr z.cells.toList (nn * inf.size)) o).toArray;rw [hzz];simp only [Option.map_some,Option.getD_some];refine ⟨.tuple #[],w.setRow b (splice cs'.toList (cr z.cells.toList (nn * inf.size)) o).toArray,γ,.inl (aT ?_),Gm.Le.refl γ,fun _ _=>rfl,?_,VR.cL (l:=[]) (l':=[]) (cy.nil γ),?_⟩
      ·obtain ⟨q,rfl⟩:∃ q,nn=q+1:=⟨nn - 1,by omega⟩;simp only [Nat.add_zero,Nat.zero_add] at hst;simp [Builtin.clear_,cq hut,jE hj (hz.trans hzz),hzc,hst,splice]
      ·refine h.put (eT hc) rfl hl o4 (fun j hj=>setRow_other w b j _ hj) (.inl rfl) ?_;refine ⟨_,el',(0,0),setRow_heap w b cs' _ el' _ hw,hcr.splice (cy.of_flat hflz) (by rw [hlen];exact c4) (by rw [hlen];omega),fun _=>⟨rfl,rfl,hB,?_⟩⟩;rw [List.size_toArray,gN _ _ _ (by rw [hlen,Array.length_toList];omega)];simpa using hcapsz
      ·exact j7.put (eT hc) rfl hl o1 o2 o3 o4 (fun j hj=>setRow_other w b j _ hj)
 ·cases ho
theorem ye (hT:cE T) (h:HR γ g w) {b:Builtin} {l l':List Value} {tys:List TypeId} {ty:TypeId} {cs:Array Bool} {v:Value} {e:cv}
  (hn:e.news=true→γ.loc n=none) (ho:iE T n b l tys g=some (v,e)) (hl:cy γ l l'):aV T.P γ g w n (builtin b tys.toArray ty cs l'.toArray) v e:=by
 unfold iE at ho
 have two:∀ {x y:Value},cy γ [x,y] l'→∃ x' y',l'=[x',y']∧VR γ x x'∧VR γ y y':=fun {x y} hh=>by
  match l',hh with
  | [x',y'],hh=>exact ⟨x',y',rfl,hh.2 0 _ _ rfl rfl,hh.2 1 _ _ rfl rfl⟩
  | [],hh=>exact absurd hh.1 (by simp)
  | [_],hh=>exact absurd hh.1 (by simp)
  | _ :: _ :: _ :: _,hh=>exact absurd hh.1 (by simp)
 have one:∀ {x:Value},cy γ [x] l'→∃ x',l'=[x']∧VR γ x x':=fun {x} hh=>by
  match l',hh with
  | [x'],hh=>exact ⟨x',rfl,hh.2 0 _ _ rfl rfl⟩
  | [],hh=>exact absurd hh.1 (by simp)
  | _ :: _ :: _,hh=>exact absurd hh.1 (by simp)
 split at ho
 ·split at ho
  ·obtain ⟨x',rfl,hx⟩:=one hl;exact BX hT h ho hx
  ·cases ho
 ·exact GG h ho hl
 ·exact GH h ho hl
 ·split at ho
  ·obtain ⟨x',rfl,hx⟩:=one hl;exact B2 hT h ho hx
  ·cases ho
 ·split at ho
  ·rename_i s x t u;obtain ⟨s',x',rfl,hs,hx⟩:=two hl;split at ho
   ·rename_i hty;obtain ⟨i,_,_,_,_,hu,_⟩:=hT.ty u _ hty;exact Ad hT h hu hn ho hs hx
   ·cases ho
  ·cases ho
 ·cases ho
theorem rF (hT:cE T) (h:HR γ g w) {ρ ρ':Operand→Value} {o:Oper} {v:Value} {e:cv}
  (hn:e.news=true→γ.loc n=none) (ho:iU T n o.op ρ g=some (v,e)) (hρ:∀ x ∈ o.op.operands,VR γ (ρ x) (ρ' x)):aV T.P γ g w n (execOp ρ' o) v e:=by
 obtain ⟨dst,op,ty,pos,after,guard⟩:=o;simp only at ho hρ;cases op <;> simp only [iU] at ho
 case move x =>simp only [qq9,Prod.mk.injEq] at ho;obtain ⟨rfl,rfl⟩:=ho;exact .pure h rfl (hρ x (by simp [Op.operands]))
 case assign x =>simp only [qq9,Prod.mk.injEq] at ho;obtain ⟨rfl,rfl⟩:=ho;exact .pure h rfl (hρ x (by simp [Op.operands]))
 case pick c a b=>exact DO h ho (hρ c (by simp [Op.operands])) (hρ a (by simp [Op.operands])) (hρ b (by simp [Op.operands]))
 case alloc t=>exact BU hT h hn ho
 case box t x=>exact GC h hn ho (hρ x (by simp [Op.operands]))
 case build t parts =>
  have:=BW (n:=n) hT h ho (jK.map (ρ:=ρ) (ρ':=ρ') (l:=parts.toList) fun x hx=>hρ x.2 (by simp [Op.operands];exact ⟨x.1,by simpa using hx⟩));have e1:(parts.toList.map fun (i,x)=>(i,ρ' x)).toArray=parts.map fun (i,x)=>(i,ρ' x):=by apply Array.ext';simp
  rw [e1] at this;exact this
 case buildSlice t len parts =>
  have:=s8 hT h hn ho (jK.map (ρ:=ρ) (ρ':=ρ') (l:=parts.toList) fun x hx=>hρ x.2 (by simp [Op.operands];exact ⟨x.1,by simpa using hx⟩));have e1:(parts.toList.map fun (i,x)=>(i,ρ' x)).toArray=parts.map fun (i,x)=>(i,ρ' x):=by apply Array.ext';simp
  rw [e1] at this;exact this
 case load t a=>exact DN hT h ho (hρ a (by simp [Op.operands]))
 case store t a x=>exact BT hT h ho (hρ a (by simp [Op.operands])) (hρ x (by simp [Op.operands]))
 case fieldAddr t a i=>exact uU hT h ho (hρ a (by simp [Op.operands]))
 case indexAddr t a ix=>exact uV hT h ho (hρ a (by simp [Op.operands])) (hρ ix (by simp [Op.operands]))
 case index t a ix =>
  cases hf:(flat (ρ a) && flat (ρ ix)) with
  | false=>rw [hf] at ho;cases ho
  | true =>rw [hf] at ho;simp only [qq7] at hf;have:=aV.reckon (n:=n) h ho;rw [←(hρ a (by simp [Op.operands])).cU hf.1,←(hρ ix (by simp [Op.operands])).cU hf.2] at this;exact this
 case field t a i =>
  cases hf:flat (ρ a) with
  | false=>rw [hf] at ho;cases ho
  | true =>rw [hf] at ho;have:=aV.reckon (n:=n) h ho;rw [←(hρ a (by simp [Op.operands])).cU hf] at this;exact this
 case binOp o t x y yt=>exact GF h ho (hρ x (by simp [Op.operands])) (hρ y (by simp [Op.operands]))
 case unOp o t x =>
  cases hf:flat (ρ x) with
  | false=>rw [hf] at ho;cases ho
  | true =>rw [hf] at ho;have:=aV.reckon (n:=n) h ho;rw [←(hρ x (by simp [Op.operands])).cU hf] at this;exact this
 case convert s d x =>
  cases hf:flat (ρ x) with
  | false=>rw [hf] at ho;cases ho
  | true =>rw [hf] at ho;have:=aV.reckon (n:=n) h ho;rw [←(hρ x (by simp [Op.operands])).cU hf] at this;exact this
 case makeInterface t x =>
  cases hf:flat (ρ x) with
  | false=>rw [hf] at ho;cases ho
  | true =>rw [hf] at ho;have:=aV.reckon (n:=n) h ho;rw [←(hρ x (by simp [Op.operands])).cU hf] at this;exact this
 case extract x i=>exact x8 h ho (hρ x (by simp [Op.operands]))
 case makeFunc fn first captured =>
  have:=vH (T:=T) (n:=n) h ho (cy.map (ρ:=ρ) (ρ':=ρ') (l:=first.toList) fun x hx=>hρ x (by simp [Op.operands];exact .inl (by simpa using hx)))
   (cy.map (ρ:=ρ) (ρ':=ρ') (l:=captured.toList) fun x hx=>hρ x (by simp [Op.operands];exact .inr (by simpa using hx)))
  have e1:(first.toList.map ρ').toArray=first.map ρ':=by apply Array.ext';simp
  have e2:(captured.toList.map ρ').toArray=captured.map ρ':=by apply Array.ext';simp
  rw [e1,e2] at this;exact this
 case nilCheck x =>
  obtain ⟨a,hx,rfl,rfl⟩:=vI ho;have hv:=hρ x (by simp [Op.operands]);rw [hx] at hv
  have hp:∃ a',ρ' x=.pointer (some a'):=by
   generalize ρ' x=y at hv
   cases hv with
   | flat hf=>exact ⟨a,rfl⟩
   | ptr=>exact ⟨_,rfl⟩
  obtain ⟨a',ha'⟩:=hp;refine .pure h (v':=.pointer (some a')) ?_ (by rw [←ha'];exact hv);simp [execOp,ha']
 case slice t x lo hi mx =>
  cases mx with
  | some m =>
   cases hi with
   | none=>cases ho
   | some hi =>simp only [Option.map_eq_some_iff,Prod.mk.injEq] at ho;obtain ⟨u,hu,rfl,rfl⟩:=ho;have rlo:=oz.map (γ:=γ) (ρ:=ρ) (ρ':=ρ') (x:=lo) fun y hy=>hρ y (by subst hy;simp [Op.operands]);exact Ae hT h hu (hρ x (by simp [Op.operands])) rlo (hρ hi (by simp [Op.operands])) (hρ m (by simp [Op.operands]))
  | none =>
   simp only at ho;have hvx:=hρ x (by simp [Op.operands]);have rlo:=oz.map (γ:=γ) (ρ:=ρ) (ρ':=ρ') (x:=lo) fun y hy=>hρ y (by subst hy;simp [Op.operands]);have rhi:=oz.map (γ:=γ) (ρ:=ρ) (ρ':=ρ') (x:=hi) fun y hy=>hρ y (by subst hy;simp [Op.operands]);show aV T.P γ g w n (do Pure.pure (Next.value (←Instr.sliceAt t (ρ' x) (lo.map ρ') (hi.map ρ') none))) v e;unfold gj at ho;split at ho
   ·rename_i s hs
    cases hf:((lo.map ρ).toList.all flat && (hi.map ρ).toList.all flat) with
    | false=>rw [hf] at ho;cases ho
    | true =>rw [hf] at ho;simp only [qq7] at hf;rw [rlo.cU hf.1,rhi.cU hf.2,hvx.cU (by rw [hs];rfl)];exact aV.reckon h ho
   ·simp only [Option.map_eq_some_iff,Prod.mk.injEq] at ho;obtain ⟨u,hu,rfl,rfl⟩:=ho;exact vK hT h hu hvx rlo rhi
   ·simp only [Option.map_eq_some_iff,Prod.mk.injEq] at ho;obtain ⟨u,hu,rfl,rfl⟩:=ho;exact BZ hT h hu hvx rlo rhi
 case makeSlice t l c=>exact uX hT h hn ho (hρ l (by simp [Op.operands])) (hρ c (by simp [Op.operands]))
 case makeMap t r =>
  cases r with
  | some _=>cases ho
  | none =>simp only [qq9,Prod.mk.injEq] at ho;obtain ⟨rfl,rfl⟩:=ho;exact Ai h (hn rfl)
 case lookup t m k ok =>simp only [Option.map_eq_some_iff,Prod.mk.injEq] at ho;obtain ⟨u,hu,rfl,rfl⟩:=ho;exact Ah hT h hu (hρ m (by simp [Op.operands])) (hρ k (by simp [Op.operands]))
 case mapEntry t m k=>exact vM hT h ho (hρ m (by simp [Op.operands])) (hρ k (by simp [Op.operands]))
 case entryStore t m s x =>simp only [Option.map_eq_some_iff,Prod.mk.injEq] at ho;obtain ⟨u,hu,rfl,rfl⟩:=ho;exact tc h hu (hρ m (by simp [Op.operands])) (hρ s (by simp [Op.operands])) (hρ x (by simp [Op.operands]))
 case mapUpdate t m k x =>simp only [Option.map_eq_some_iff,Prod.mk.injEq] at ho;obtain ⟨u,hu,rfl,rfl⟩:=ho;exact uZ hT h hu (hρ m (by simp [Op.operands])) (hρ k (by simp [Op.operands])) (hρ x (by simp [Op.operands]))
 case range t x=>exact yc hT h hn ho (hρ x (by simp [Op.operands]))
 case next it s =>
  cases s with
  | false=>cases ho
  | true=>exact yd h ho (hρ it (by simp [Op.operands]))
 case entry it=>exact B1 h ho (hρ it (by simp [Op.operands]))
 case call c =>
  obtain ⟨callee,args,tys⟩:=c;unfold BN at ho
  cases callee with
  | value f=>cases ho
  | invoke r m=>cases ho
  | builtin b =>
   simp only at ho;have:=ye (ty:=ty) (cs:=args.map fun|.const _=>true|_=>false) hT h hn ho (cy.map (ρ:=ρ) (ρ':=ρ') (l:=args.toList) fun x hx=>hρ x (by simp [Op.operands,Call.operands];simpa using hx));have e1:(args.toList.map ρ').toArray=args.map ρ':=by apply Array.ext';simp
   rw [e1] at this;have e2:execOp ρ' ⟨dst,.call ⟨.builtin b,args,tys⟩,ty,pos,after,guard⟩=builtin b tys ty (args.map fun|.const _=>true|_=>false) (args.map ρ'):=rfl;rw [e2];simpa using this
 all_goals cases ho
end
end Go.RM
namespace Go.RM
def oA:Option bf→Bool
 | some (.loop ..)=>true
 | _=>false
def yW (g:aG):cv→Prop
 | .put k _|.app k _=>g k ≠ none∧oA (g k)=false
 | _=>True
def vN (l:List Nat):cv→Prop
 | .put k _|.app k _=>k ∈ l
 | _=>True
section
variable {T : bL} {n : Nat} {g g' : aG}
theorem rG {k:Nat} {x:List Value × Bool × Nat} (h:cells? (g k)=some x):g k ≠ none∧oA (g k)=false:=by
 generalize g k=b at h
 cases b with
 | none=>cases h
 | some b=>cases b <;> first|exact ⟨by simp,rfl⟩|cases h
theorem td {k:Nat} {x:List MapEntry × Nat} (h:map? (g k)=some x):g k ≠ none∧oA (g k)=false:=by
 generalize g k=b at h
 cases b with
 | none=>cases h
 | some b=>cases b <;> first|exact ⟨by simp,rfl⟩|cases h
theorem tf {v:Value} {k o:Nat} (h:addr? v=some (k,o)):k ∈ cB v:=by rw [yU h];simp [cB]
theorem iH {v:Value} {k:Nat} (h:ia v=some k):k ∈ cB v:=by rw [vL h];simp [cB]
def qD (g:aG) (l:List Nat) (e:cv):Prop:=yW g e∧vN l e
theorem gC {o:Option Value} {v:Value} {e:cv} {l:List Nat} (h:cW o=some (v,e)):qD g l e:=by obtain ⟨_,_,rfl⟩:=qB h;exact ⟨trivial,trivial⟩
theorem DS {t:TypeId} {a x v:Value} {e:cv} (h:eB T t a x g=some (v,e)):qD g (cB a) e:=by
 unfold eB at h;split at h
 ·rename_i k o ha
  cases hc:cells? (g k) with
  | none=>rw [hc] at h;cases h
  | some c =>
   obtain ⟨cs,own,es⟩:=c
   cases ht:T.ty.get t with
   | none=>rw [hc,ht] at h;cases h
   | some r =>
    obtain ⟨und,s,bytes,zero,agg,cJ,cS⟩:=r;rw [hc,ht] at h;simp only at h;cases hb:(own && Nat.beq x.cells.toList.length s && Nat.ble (o+s) cs.length && x.cells.toList.all bH) <;> rw [hb] at h
    ·cases h
    ·simp at h;obtain ⟨_,rfl⟩:=h;exact ⟨rG hc,tf ha⟩
 ·cases h
theorem yf {t:TypeId} {m k v:Value} {e:cv} (h:eY T t m k g=some (v,e)):qD g (cB m) e:=by
 unfold eY at h;split at h
 ·rename_i kt z r _ hr;split at h
  ·rename_i es clock hm;unfold mh at h;split at h
   ·split at h
    ·rename_i x _;cases hb:Instr.sameBits 10000 x.key k <;> rw [hb] at h
     ·cases h
     ·simp at h;obtain ⟨_,rfl⟩:=h;exact ⟨td hm,iH hr⟩
    ·cases h
   ·rename_i z _ _;cases hb:flat z <;> rw [hb] at h
    ·cases h
    ·simp at h;obtain ⟨_,rfl⟩:=h;exact ⟨td hm,iH hr⟩
   ·cases h
  ·cases h
 ·cases h
theorem u0 {m s v:Value} {e:cv} (h:dB m s v g=some e):qD g (cB m) e:=by
 unfold dB at h;split at h
 ·rename_i r _ hr _;split at h
  ·rename_i es clock hm;split at h
   ·simp at h;subst h;exact ⟨td hm,iH hr⟩
   ·cases h
  ·cases h
 ·cases h
theorem vO {t:TypeId} {m k v:Value} {e:cv} (h:eR T t m k v g=some e):qD g (cB m) e:=by
 unfold eR at h;split at h
 ·rename_i kt _ r _ hr;split at h
  ·rename_i es clock hm;unfold mT at h;split at h
   ·split at h
    ·rename_i x _;cases hb:Instr.sameBits 10000 x.key k <;> rw [hb] at h
     ·cases h
     ·simp at h;subst h;exact ⟨td hm,iH hr⟩
    ·cases h
   ·simp at h;subst h;exact ⟨td hm,iH hr⟩
   ·cases h
  ·cases h
 ·cases h
theorem B3 {t:TypeId} {s x v:Value} {e:cv} (h:gy T n t s x g=some (v,e)):qD g (cB s) e:=by
 unfold gy at h;split at h
 ·rename_i inf _;split at h
  ·rename_i base ln cp;split at h
   ·rename_i m old new _ _ _;cases hb:(Nat.ble ((ln+m) * inf.bytes) 140737488355328 && Nat.ble (ln+m) 9223372036854775807 && new.all bH && bZ inf) <;> rw [hb] at h
    ·cases h
    ·simp only [cond_true] at h;cases hm:Nat.beq m 0 <;> rw [hm] at h
     ·simp only [cond_false] at h;unfold iD at h;cases hc:Nat.beq cp ln <;> rw [hc] at h
      ·simp only [cond_false] at h;cases hin:Nat.ble (ln+m+3) cp <;> rw [hin] at h
       rotate_left
       ·simp only [cond_true] at h;unfold mg at h;split at h
        ·split at h
         ·rename_i k o _ _ cs own es hcs;cases hd:(own && Nat.ble (o+(ln+m) * inf.size) cs.length) <;> rw [hd] at h
          ·cases h
          ·simp at h;obtain ⟨_,rfl⟩:=h;exact ⟨rG hcs,by simp [cB,vN]⟩
         ·cases h
        ·cases h
       simp only [cond_false] at h;split at h
       ·rename_i k;split at h
        ·rename_i cs own es hcs;cases hd:(own && Nat.beq cp (ln+1) && Nat.beq cs.length (ln * inf.size) && Nat.beq es inf.size) <;> rw [hd] at h
         ·cases h
         ·simp at h;obtain ⟨_,rfl⟩:=h;exact ⟨rG hcs,by simp [cB,vN]⟩
        ·cases h
       ·cases h
      ·simp at h;obtain ⟨_,rfl⟩:=h;exact ⟨trivial,trivial⟩
     ·simp at h;obtain ⟨_,rfl⟩:=h;exact ⟨trivial,trivial⟩
   ·cases h
  ·cases h
 ·cases h
theorem vP {it v:Value} {e:cv} (h:kz it g=some (v,e)):yW g e:=by
 unfold kz at h;split at h
 ·rename_i r _;split at h
  ·rename_i s pos hr;cases hb:Nat.blt pos s.data.toList.length <;> rw [hb] at h
   ·simp at h;obtain ⟨_,rfl⟩:=h;trivial
   ·simp at h;obtain ⟨_,rfl⟩:=h;exact ⟨by rw [hr];simp,by rw [hr];rfl⟩
  ·cases h
 ·cases h
theorem H8 {P:Program} {l:List Value} {v:Value} {e:cv} {ks:List Nat} (h:zY P l=some (v,e)):qD g ks e:=by
 unfold zY at h;split at h
 ·simp at h;obtain ⟨_,rfl⟩:=h;exact ⟨trivial,trivial⟩
 ·cases hb:l.all flat <;> rw [hb] at h
  ·cases h
  ·exact gC h
theorem H9 {P:Program} {l:List Value} {v:Value} {e:cv} {ks:List Nat} (h:zZ P l=some (v,e)):qD g ks e:=by
 unfold zZ at h;split at h
 ·simp at h;obtain ⟨_,rfl⟩:=h;exact ⟨trivial,trivial⟩
 ·cases hb:l.all flat <;> rw [hb] at h
  ·cases h
  ·exact gC h
theorem DT {t:TypeId} {x v:Value} {e:cv} {ks:List Nat} (h:kA T t x g=some (v,e)):qD g ks e:=by
 unfold kA at h;split at h
 ·simp at h;obtain ⟨_,rfl⟩:=h;exact ⟨trivial,trivial⟩
 ·split at h
  ·simp at h;obtain ⟨_,rfl⟩:=h;exact ⟨trivial,trivial⟩
  ·cases h
 ·simp at h;obtain ⟨_,rfl⟩:=h;exact ⟨trivial,trivial⟩
 ·simp at h;obtain ⟨_,rfl⟩:=h;exact ⟨trivial,trivial⟩
 ·cases h
def DU (o:Op) (ρ:Operand→Value):List Nat :=
 match o with
 | .store _ a _=>cB (ρ a)
 | .mapEntry _ m _=>cB (ρ m)
 | .entryStore _ m _ _=>cB (ρ m)
 | .mapUpdate _ m _ _=>cB (ρ m)
 | .call ⟨.builtin .append,args,_⟩=>match args.toList.map ρ with
  | [s,_]=>cB s
  | _=>[]
 | .call ⟨.builtin .clear,args,_⟩=>match args.toList.map ρ with
  | [x]=>cB x
  | _=>[]
 | _=>[]
theorem DV {t:TypeId} {x v:Value} {e:cv} (h:og T t x g=some (v,e)):qD g (cB x) e:=by
 unfold og at h;split at h
 ·split at h
  ·rename_i hm;simp at h;obtain ⟨_,rfl⟩:=h;exact ⟨td hm,by simp [cB,vN]⟩
  ·cases h
 ·split at h
  ·rename_i _ k o nn _ _ _ _ inf cs own es _ hcs;cases hb:(Nat.ble 1 nn && own && bZ inf && Nat.ble (o+nn * inf.size) cs.length) <;> rw [hb] at h
   ·cases h
   ·simp at h;obtain ⟨_,rfl⟩:=h;exact ⟨rG hcs,by simp [cB,vN]⟩
  ·cases h
 ·cases h
theorem cK {ks:List Nat}:qD g ks .none:=⟨trivial,trivial⟩
theorem nc {ks:List Nat} {b:bf}:qD g ks (.new b):=⟨trivial,trivial⟩
theorem rH {o:Op} {ρ:Operand→Value} {v:Value} {e:cv} (h:iU T n o ρ g=some (v,e)):yW g e∧((∀ it,o ≠ .next it true)→vN (DU o ρ) e):=by
 have key:∀ {ks:List Nat},qD g ks e→DU o ρ=ks→yW g e∧((∀ it,o ≠ .next it true)→vN (DU o ρ) e):=fun hk he=>⟨hk.1,fun _=>by rw [he];exact hk.2⟩;cases o <;> simp only [iU] at h
 case move x=>simp at h;obtain ⟨_,rfl⟩:=h;exact key cK rfl
 case assign x=>simp at h;obtain ⟨_,rfl⟩:=h;exact key cK rfl
 case pick c a b =>
  unfold uw at h;split at h
  ·simp at h;obtain ⟨_,rfl⟩:=h;exact key cK rfl
  ·cases h
 case alloc t =>
  unfold sW at h;split at h
  ·rename_i z _ _ _ _;cases hb:z.cells.toList.all bh <;> rw [hb] at h
   ·cases h
   ·simp at h;obtain ⟨_,rfl⟩:=h;exact key nc rfl
  ·cases h
 case box t x =>
  unfold Gw at h;cases hb:(ρ x).cells.toList.all bH <;> rw [hb] at h
  ·cases h
  ·simp at h;obtain ⟨_,rfl⟩:=h;exact key nc rfl
 case build t parts =>
  unfold qz at h;split at h
  ·rename_i z _ _ _;cases hb:z.cells.toList.all bh <;> rw [hb] at h
   ·cases h
   ·simp only [cond_true,Option.map_eq_some_iff,Prod.mk.injEq] at h;obtain ⟨_,_,_,rfl⟩:=h;exact key cK rfl
  ·cases h
 case buildSlice t len parts =>
  unfold ic at h;split at h
  ·rename_i inf _;cases hb:(Nat.ble (len * inf.size) 65536 && bZ inf) <;> rw [hb] at h
   ·cases h
   ·simp only [cond_true] at h;split at h
    ·simp at h;obtain ⟨_,rfl⟩:=h;exact key nc rfl
    ·cases h
  ·cases h
 case load t a =>
  unfold eV at h;split at h
  ·split at h
   ·rename_i s _ _ agg _ _ _ _;cases agg
    ·simp only [cond_false,Option.map_eq_some_iff,Prod.mk.injEq] at h;obtain ⟨_,_,_,rfl⟩:=h;exact key cK rfl
    ·simp only [cond_true,Option.map_eq_some_iff,Prod.mk.injEq] at h;obtain ⟨_,_,_,rfl⟩:=h;exact key cK rfl
   ·cases h
  ·cases h
 case store t a x=>exact key (DS h) rfl
 case fieldAddr t a i =>
  unfold dV at h;split at h
  ·split at h
   ·rename_i s _;cases hb:Nat.ble 1 s <;> rw [hb] at h
    ·cases h
    ·simp at h;obtain ⟨_,rfl⟩:=h;exact key cK rfl
   ·cases h
  ·cases h
 case indexAddr t a ix =>
  have hi:∀ {cS k o len:Nat} {j:Int},qa cS k o len j=some (v,e)→qD g [] e:=by
   intro cS k o len j h;unfold qa at h;cases hb:(HQ 0 j && Gx j (.ofNat len)) <;> rw [hb] at h
   ·cases h
   ·simp at h;obtain ⟨_,rfl⟩:=h;exact cK
  unfold dW at h;split at h
  ·split at h
   ·exact key (hi h) rfl
   ·cases h
  ·split at h
   ·exact key (hi h) rfl
   ·cases h
  ·cases h
 case index t a ix =>
  cases hb:(flat (ρ a) && flat (ρ ix)) <;> rw [hb] at h
  ·cases h
  ·exact key (gC h) rfl
 case field t a i =>
  cases hb:flat (ρ a) <;> rw [hb] at h
  ·cases h
  ·exact key (gC h) rfl
 case binOp o t x y yt =>
  have hs:∀ {a b:Value},fS T.P o t x y a b=some (v,e)→qD g [] e:=by
   intro a b h;unfold fS at h;cases hb:(flat a && flat b) <;> rw [hb] at h
   ·cases h
   ·exact gC h
  unfold eA at h;split at h
  ·split at h
   ·simp at h;obtain ⟨_,rfl⟩:=h;exact key cK rfl
   ·exact key (hs h) rfl
  ·rw [cond_eq_ite] at h;split at h
   ·unfold jA at h;split at h
    ·simp at h;obtain ⟨_,rfl⟩:=h;exact key cK rfl
    ·simp at h;obtain ⟨_,rfl⟩:=h;exact key cK rfl
    ·cases h
   ·cases h
  ·rw [cond_eq_ite] at h;split at h
   ·unfold jA at h;split at h
    ·simp at h;obtain ⟨_,rfl⟩:=h;exact key cK rfl
    ·simp at h;obtain ⟨_,rfl⟩:=h;exact key cK rfl
    ·cases h
   ·cases h
  ·exact key (hs h) rfl
 case unOp o t x =>
  cases hb:flat (ρ x) <;> rw [hb] at h
  ·cases h
  ·exact key (gC h) rfl
 case convert s d x =>
  cases hb:flat (ρ x) <;> rw [hb] at h
  ·cases h
  ·exact key (gC h) rfl
 case makeInterface t x =>
  cases hb:flat (ρ x) <;> rw [hb] at h
  ·cases h
  ·exact key (gC h) rfl
 case extract x i =>
  unfold gi at h;split at h
  ·simp only [Option.map_eq_some_iff,Prod.mk.injEq] at h;obtain ⟨_,_,_,rfl⟩:=h;exact key cK rfl
  ·cases h
 case makeFunc fn first captured =>
  unfold mo at h;split at h
  ·simp at h;obtain ⟨_,rfl⟩:=h;exact key cK rfl
  ·cases h
 case nilCheck x =>
  unfold jc at h;split at h
  ·simp at h;obtain ⟨_,rfl⟩:=h;exact key cK rfl
  ·cases h
 case slice t x lo hi mx =>
  cases mx with
  | some _ =>
   cases hi with
   | none=>cases h
   | some hi =>simp only [Option.map_eq_some_iff,Prod.mk.injEq] at h;obtain ⟨_,_,_,rfl⟩:=h;exact key cK rfl
  | none =>
   simp only at h;unfold gj at h;split at h
   ·cases hb:((lo.map ρ).toList.all flat && (hi.map ρ).toList.all flat) <;> rw [hb] at h
    ·cases h
    ·exact key (gC h) rfl
   ·simp only [Option.map_eq_some_iff,Prod.mk.injEq] at h;obtain ⟨_,_,_,rfl⟩:=h;exact key cK rfl
   ·simp only [Option.map_eq_some_iff,Prod.mk.injEq] at h;obtain ⟨_,_,_,rfl⟩:=h;exact key cK rfl
 case makeSlice t l c =>
  unfold jb at h;split at h
  ·rename_i inf _;split at h
   ·rename_i l c _ _;cases hb:(Nat.ble l c && Nat.ble (inf.bytes * c) 140737488355328 && Nat.ble c 9223372036854775807 && bZ inf) <;> rw [hb] at h
    ·cases h
    ·simp at h;obtain ⟨_,rfl⟩:=h;exact key nc rfl
   ·cases h
  ·cases h
 case makeMap t r =>
  cases r with
  | some _=>cases h
  | none=>simp at h;obtain ⟨_,rfl⟩:=h;exact key nc rfl
 case lookup t m k ok =>simp only [Option.map_eq_some_iff,Prod.mk.injEq] at h;obtain ⟨_,_,_,rfl⟩:=h;exact key cK rfl
 case mapEntry t m k=>exact key (yf h) rfl
 case entryStore t m s x =>simp only [Option.map_eq_some_iff,Prod.mk.injEq] at h;obtain ⟨_,hu,_,rfl⟩:=h;exact key (u0 hu) rfl
 case mapUpdate t m k x =>simp only [Option.map_eq_some_iff,Prod.mk.injEq] at h;obtain ⟨_,hu,_,rfl⟩:=h;exact key (vO hu) rfl
 case range t x =>
  unfold sX at h;split at h
  ·split at h
   ·simp at h;obtain ⟨_,rfl⟩:=h;exact key nc rfl
   ·cases h
  ·simp at h;obtain ⟨_,rfl⟩:=h;exact key nc rfl
  ·cases h
 case next it s =>
  cases s with
  | false=>cases h
  | true=>exact ⟨vP h,fun hn=>absurd rfl (hn it)⟩
 case entry it =>
  unfold sY at h;split at h
  ·split at h
   ·split at h
    ·rw [cond_eq_ite] at h;split at h <;> rename_i hb
     ·simp only [Option.map_eq_some_iff,Prod.mk.injEq] at h;obtain ⟨_,_,_,rfl⟩:=h;exact key cK rfl
     ·cases h
    ·cases h
   ·cases h
  ·cases h
 case call c =>
  obtain ⟨callee,args,tys⟩:=c;unfold BN at h
  cases callee with
  | value f=>cases h
  | invoke r m=>cases h
  | builtin b =>
   simp only at h;unfold iE at h;split at h
   ·split at h
    ·exact key (DT (ks:=[]) h) rfl
    ·cases h
   ·exact key (H8 (ks:=[]) h) rfl
   ·exact key (H9 (ks:=[]) h) rfl
   ·split at h
    ·rename_i x t ha _;refine key (DV h) ?_;simp only [DU];rw [ha]
    ·cases h
   ·split at h
    ·rename_i s x t u ha _;split at h
     ·refine key (B3 h) ?_;unfold DU;simp only [ha]
     ·cases h
    ·cases h
   ·cases h
 all_goals cases h
theorem B4 {it:Value} {L:List (Value × cv)} (h:ri it g=some L):∀ p ∈ L,yW g p.2:=by
 unfold ri at h;split at h
 ·rename_i r;split at h
  ·rename_i m since seen last hr;split at h
   ·rename_i es clock hm;unfold vv at h;intro p hp
    cases hb:(!seen.isEmpty && !es.isEmpty && es.all (fun e=>Nat.ble last e.born)) with
    | true=>rw [hb] at h;cases h
    | false =>
     rw [hb] at h;simp only [cond_false,qq9] at h;subst h
     rcases List.mem_append.1 hp with hp|hp
     ·revert hp;generalize (List.filter (fun e=>decide (e.born < since)) (List.filter (fun e=>!seen.contains e.born) es))=old
      cases old with
      | nil=>simp only [List.isEmpty_nil,cond_true,List.mem_singleton];intro e;subst e;trivial
      | cons=>simp
     ·obtain ⟨x,_,rfl⟩:=List.mem_map.1 hp;exact ⟨by rw [hr];simp,by rw [hr];rfl⟩
   ·cases h
  ·cases h
 ·cases h
theorem oB {size:Nat} {v:Value} (h:∀ k ∈ cB v,g' k=g k):bT g' size v=bT g size v:=by
 unfold bT;split
 ·rfl
 ·rw [h _ (by simp [cB])]
 ·rfl
theorem yg {t:TypeId} {s x:Value} (hs:∀ k ∈ cB s,g' k=g k) (hx:∀ k ∈ cB x,g' k=g k):gy T n t s x g'=gy T n t s x g:=by
 unfold gy;have e1:∀ size,bT g' size x=bT g size x:=fun _=>oB hx;have e2:∀ size,bT g' size s=bT g size s:=fun _=>oB hs;simp only [e1,e2];split
 ·split
  ·rename_i base ln cp
   have hb:∀ inf m old new,iD n inf base ln cp m old new g'=iD n inf base ln cp m old new g:=by
    intro inf m old new
    have hi:mg inf base ln cp m new g'=mg inf base ln cp m new g:=by
     unfold mg;split
     ·rename_i k o;rw [hs k (by simp [cB])]
     ·rfl
    unfold iD;rw [hi];split
    ·rename_i k;rw [hs k (by simp [cB])]
    ·rfl
   simp only [hb]
  ·rfl
 ·rfl
theorem B5 {t:TypeId} {a:Value} (h:∀ k ∈ cB a,g' k=g k):eV T t a g'=eV T t a g:=by
 unfold eV
 cases ha:addr? a with
 | none=>rfl
 | some p=>simp only;rw [h p.1 (tf (o:=p.2) ha)]
theorem Aj {t:TypeId} {a v:Value} (h:∀ k ∈ cB a,g' k=g k):eB T t a v g'=eB T t a v g:=by
 unfold eB
 cases ha:addr? a with
 | none=>rfl
 | some p=>simp only;rw [h p.1 (tf (o:=p.2) ha)]
theorem yh {t:TypeId} {m k:Value} {ok:Bool} (h:∀ k ∈ cB m,g' k=g k):kZ T t m k ok g'=kZ T t m k ok g:=by
 unfold kZ
 cases hm:ia m with
 | none=>rfl
 | some r=>simp only [Option.bind_some];rw [h r (iH hm)]
theorem u6 {t:TypeId} {m k:Value} (h:∀ k ∈ cB m,g' k=g k):eY T t m k g'=eY T t m k g:=by
 unfold eY
 cases hm:ia m with
 | none=>cases ku T t <;> rfl
 | some r=>cases ku T t with
  | none=>rfl
  | some p=>simp only [h r (iH hm)]
theorem rI {m s v:Value} (h:∀ k ∈ cB m,g' k=g k):dB m s v g'=dB m s v g:=by
 unfold dB
 cases hm:ia m with
 | none=>rfl
 | some r=>cases intOf? s with
  | none=>rfl
  | some p=>simp only [h r (iH hm)]
theorem th {t:TypeId} {m k v:Value} (h:∀ k ∈ cB m,g' k=g k):eR T t m k v g'=eR T t m k v g:=by
 unfold eR
 cases hm:ia m with
 | none=>cases ku T t <;> rfl
 | some r=>cases ku T t with
  | none=>rfl
  | some p=>simp only [h r (iH hm)]
theorem Ak {t:TypeId} {x:Value} (h:∀ k ∈ cB x,g' k=g k):kA T t x g'=kA T t x g:=by
 unfold kA;split
 ·rfl
 ·rw [h _ (by simp [cB])]
 ·rfl
 ·rfl
 ·rfl
theorem yX {o:Op} {ρ:Operand→Value} {r wr:List Nat} (ht:iX o ρ=some (r,wr)) (hr:∀ k ∈ r,g' k=g k) (hw:∀ k ∈ wr,g' k=g k):iU T n o ρ g'=iU T n o ρ g:=by
 cases o <;> simp only [iU] <;> simp only [iX,qq9,Prod.mk.injEq,reduceCtorEq] at ht
 case load t a=>obtain ⟨rfl,rfl⟩:=ht;exact B5 hr
 case store t a x=>obtain ⟨rfl,rfl⟩:=ht;exact Aj hw
 case lookup t m k ok=>obtain ⟨rfl,rfl⟩:=ht;rw [yh hr]
 case mapEntry t m k=>obtain ⟨rfl,rfl⟩:=ht;exact u6 hw
 case entryStore t m s x=>obtain ⟨rfl,rfl⟩:=ht;rw [rI hw]
 case mapUpdate t m k x=>obtain ⟨rfl,rfl⟩:=ht;rw [th hw]
 case makeMap t r=>cases r <;> rfl
 case slice t x lo hi mx=>cases mx <;> cases hi <;> rfl
 case call c =>
  obtain ⟨callee,args,tys⟩:=c
  cases callee with
  | value f=>rfl
  | invoke r m=>rfl
  | builtin b =>
   unfold BN iE;simp only;cases b <;> try rfl
   case clear=>cases ht
   case len =>
    simp only at ht;split at ht
    ·rename_i x hx;simp only [qq9,Prod.mk.injEq] at ht;obtain ⟨rfl,rfl⟩:=ht;rw [hx]
     cases tys.toList with
     | nil=>rfl
     | cons t l=>cases l with
      | nil=>exact Ak hr
      | cons=>rfl
    ·cases ht
   case append =>
    simp only at ht;split at ht
    ·rename_i s x hx;simp only [qq9,Prod.mk.injEq] at ht;obtain ⟨rfl,rfl⟩:=ht;rw [hx];have e1:∀ t,gy T n t s x g'=gy T n t s x g:=fun _=>yg hw hr
     cases tys.toList with
     | nil=>rfl
     | cons t l=>cases l with
      | nil=>rfl
      | cons u l2=>cases l2 with
       | nil=>simp only [e1]
       | cons=>rfl
    ·cases ht
theorem vQ {o:Op} {ρ:Operand→Value} {r wr:List Nat} (ht:iX o ρ=some (r,wr)):(∀ it,o ≠ .next it true)∧DU o ρ=wr:=by
 refine ⟨fun it e=>(by subst e;cases ht),?_⟩;cases o <;> simp only [iX,qq9,Prod.mk.injEq,reduceCtorEq] at ht <;> try (exact ht.2)
 case call c =>
  obtain ⟨callee,args,tys⟩:=c
  cases callee with
  | value f=>simp only [qq9,Prod.mk.injEq] at ht;exact ht.2
  | invoke r m=>simp only [qq9,Prod.mk.injEq] at ht;exact ht.2
  | builtin b =>
   cases b <;> try (simp only [qq9,Prod.mk.injEq] at ht;exact ht.2)
   case clear=>cases ht
   case len =>
    simp only at ht;split at ht
    ·simp only [qq9,Prod.mk.injEq] at ht;exact ht.2
    ·cases ht
   case append =>
    simp only at ht;split at ht
    ·rename_i s x hx;simp only [qq9,Prod.mk.injEq] at ht;simp only [DU,hx];exact ht.2
    ·cases ht
end
def Wf (h:Hp):Prop:=∀ k,h.n≤k→h.get k=none
structure dZ (a b:Hp):Prop where
 n:a.n≤b.n
 lo:b.lo≤a.lo
 same:∀ k,k < a.n→k < b.lo→b.get k=a.get k
 wf:Wf a→Wf b
 loop:Wf a→∀ k,oA (a.get k)=true→oA (b.get k)=true
theorem dZ.refl (a:Hp):dZ a a:=⟨qq6 _,qq6 _,fun _ _ _=>rfl,id,fun _ _ h=>h⟩
theorem dZ.trans {a b c:Hp} (h:dZ a b) (k:dZ b c):dZ a c :=
 ⟨Nat.le_trans h.n k.n,Nat.le_trans k.lo h.lo,fun i hi hl=>(k.same i (Nat.lt_of_lt_of_le hi h.n) hl).trans (h.same i hi (Nat.lt_of_lt_of_le hl k.lo)),fun hw=>k.wf (h.wf hw),fun hw i hi=>k.loop (h.wf hw) i (h.loop hw i hi)⟩
theorem dZ.push (a:Hp) (b:bf):dZ a (a.push b) :=
 ⟨Nat.le_succ _,qq6 _,fun k hk _=>by rw [Hp.fh,if_neg (by omega)],fun hw k hk=>by
  have hk':a.n+1≤k:=hk
  rw [Hp.fh,if_neg (by omega)];exact hw k (by omega),fun hw k hk=>by
  have hne:k ≠ a.n:=fun e=>by rw [hw k (by omega)] at hk;cases hk
  rw [Hp.fh,if_neg hne];exact hk⟩
theorem dZ.put (a:Hp) (i:Nat) (b:bf) (hi:a.get i ≠ none) (hl:oA (a.get i)=true→oA (some b)=true):dZ a (a.put i b) :=
 ⟨qq6 _,Nat.min_le_left _ _,fun k _ hl=>by
  have:k < i:=Nat.lt_of_lt_of_le hl (Nat.min_le_right _ _)
  rw [Hp.ju,if_neg (by omega)],fun hw k hk=>by
  have hk':a.n≤k:=hk
  rw [Hp.ju,if_neg (fun e=>hi (by rw [←e];exact hw k hk'))];exact hw k hk',fun _ k hk=>by
  rw [Hp.ju];split
  ·rename_i e;rw [e] at hk;exact hl hk
  ·exact hk⟩
theorem dZ.app (a:Hp) (e:cv) (he:yW a.get e):dZ a (a.app e):=by
 cases e with
 | none=>exact .refl a
 | new b=>exact .push a b
 | put k b=>exact .put a k b he.1 (fun h=>by rw [he.2] at h;cases h)
 | app k b=>exact (dZ.put a k .dead he.1 (fun h=>by rw [he.2] at h;cases h)).trans (dZ.push _ _)
section bind
variable {α β : Type}
theorem yY (f:α→Option (List β)):dj [] f=some []:=rfl
theorem fP (a:α) (f:α→Option (List β)):dj [a] f=f a:=rfl
theorem kE (a b:α) (l:List α) (f:α→Option (List β)):dj (a :: b :: l) f=match f a with
 | some x=>(dj (b :: l) f).map (x++·)
 | none=>none:=rfl
theorem cN {f:α→Option (List β)}:∀ {L:List α} {M:List β},dj L f=some M→∀ a ∈ L,∃ Ma,f a=some Ma∧∀ b ∈ Ma,b ∈ M
 | [],_,_,a,ha=>by cases ha
 | [x],M,h,a,ha=>by rw [fP] at h;obtain rfl:=List.mem_singleton.1 ha;exact ⟨M,h,fun _ hb=>hb⟩
 | x :: y :: l,M,h,a,ha=>by
  rw [kE] at h
  cases hx:f x with
  | none=>rw [hx] at h;cases h
  | some X =>
   rw [hx] at h;simp only [Option.map_eq_some_iff] at h;obtain ⟨Y,hY,rfl⟩:=h
   rcases List.mem_cons.1 ha with rfl|ha
   ·exact ⟨X,hx,fun b hb=>List.mem_append.2 (.inl hb)⟩
   ·obtain ⟨Ma,h1,h2⟩:=cN hY a ha;exact ⟨Ma,h1,fun b hb=>List.mem_append.2 (.inr (h2 b hb))⟩
theorem jd {f:α→Option (List β)}:∀ {L:List α} {M:List β},dj L f=some M→∀ b ∈ M,∃ a ∈ L,∃ Ma,f a=some Ma∧b ∈ Ma
 | [],M,h,b,hb=>by rw [yY] at h;cases h;cases hb
 | [x],M,h,b,hb=>by rw [fP] at h;exact ⟨x,by simp,M,h,hb⟩
 | x :: y :: l,M,h,b,hb=>by
  rw [kE] at h
  cases hx:f x with
  | none=>rw [hx] at h;cases h
  | some X =>
   rw [hx] at h;simp only [Option.map_eq_some_iff] at h;obtain ⟨Y,hY,rfl⟩:=h
   rcases List.mem_append.1 hb with hb|hb
   ·exact ⟨x,by simp,X,hx,hb⟩
   ·obtain ⟨a,ha,Ma,h1,h2⟩:=jd hY b hb;exact ⟨a,List.mem_cons_of_mem _ ha,Ma,h1,h2⟩
theorem B6 {f:α→Option (List β)} {L:List α} {M:List β} (h:dj L f=some M) (hL:L ≠ []) (hf:∀ a ∈ L,∀ Ma,f a=some Ma→Ma ≠ []):M ≠ []:=by
 cases L with
 | nil=>exact absurd rfl hL
 | cons a l =>
  obtain ⟨Ma,h1,h2⟩:=cN h a (by simp);have:=hf a (by simp) Ma h1
  cases Ma with
  | nil=>exact absurd rfl this
  | cons x _=>intro e;subst e;exact absurd (h2 x (by simp)) (by simp)
end bind
def qW.hp:qW→Hp
 | .call _ _ h=>h
 | .round _ _ h=>h
 | .loop _ st=>st.hp
def gL.hp:gL→Hp
 | .ret _ h=>h
 | .out _ st=>st.hp
def Good (a:Hp) {β:Type} (f:β→Hp) (M:List β):Prop:=M ≠ []∧∀ b ∈ M,dZ a (f b)
def bE (rec:qW→Option (List gL)):Prop:=∀ j L,rec j=some L→Good j.hp gL.hp L
theorem Good.one {a:Hp} {β:Type} {f:β→Hp} {b:β} (h:dZ a (f b)):Good a f [b]:=⟨by simp,fun x hx=>by obtain rfl:=List.mem_singleton.1 hx;exact h⟩
theorem Good.bind {a:Hp} {α β:Type} {f:α→Hp} {f':β→Hp} {L:List α} {M:List β} {k:α→Option (List β)} (h:dj L k=some M) (hL:Good a f L) (hk:∀ x,∀ Mx,k x=some Mx→Good (f x) f' Mx):Good a f' M :=
 ⟨B6 h hL.1 fun x _ Mx hx=>(hk x Mx hx).1,fun b hb=>by
  obtain ⟨x,hx,Mx,h1,h2⟩:=jd h b hb
  exact (hL.2 x hx).trans ((hk x Mx h1).2 b h2)⟩
theorem Good.map {a:Hp} {α β:Type} {f:α→Hp} {f':β→Hp} {L:List α} {k:α→β} (hL:Good a f L) (hk:∀ x,f' (k x)=f x):Good a f' (L.map k) :=
 ⟨by intro e;exact hL.1 (List.map_eq_nil_iff.1 e),fun b hb=>by
  obtain ⟨x,hx,rfl⟩:=List.mem_map.1 hb
  rw [hk];exact hL.2 x hx⟩
section
variable {T : bL} {rec : qW → Option (List gL)}
theorem rJ (H:Hp) (g:Goal):(jB H g).hp=H:=by cases g <;> rfl
theorem Ia {it:Value} {g:aG} {L:List (Value × cv)} (h:ri it g=some L):L ≠ []:=by
 have key:∀ {r m since last clock:Nat} {seen:List Nat} {es:List MapEntry},vv r m since seen last es clock=some L→L ≠ []:=by
  intro r m since last clock seen es h;unfold vv at h
  cases hb:(!seen.isEmpty && !es.isEmpty && es.all (fun e=>Nat.ble last e.born)) with
  | true=>rw [hb] at h;cases h
  | false =>
   rw [hb] at h;simp only [cond_false,qq9] at h;rw [←h];generalize (es.filter fun e=>!seen.contains e.born).filter (fun e=>decide (e.born < since))=old
   cases old with
   | nil=>simp
   | cons x l=>simp
 unfold ri at h;split at h
 ·split at h
  ·split at h
   ·exact key h
   ·cases h
  ·cases h
 ·cases h
theorem qE (hr:bE rec) {o:Op} {st:St} {L:List (Value × Hp)} (h:gk T rec o st=some L):Good st.hp (fun p=>p.2) L:=by
 unfold gk at h;split at h
 ·rename_i f args _;split at h
  ·rename_i g _
   cases hj:rec (jB st.hp g) with
   | none=>rw [hj] at h;cases h
   | some R =>
    rw [hj] at h;have:=hr _ _ hj;rw [rJ] at this;refine Good.bind h this fun x Mx hx=>?_
    cases x with
    | ret v hp=>simp only [valOf,qq9] at hx;subst hx;exact .one (.refl _)
    | out e s=>cases hx
  ·cases h
 ·rename_i it _;simp only [Option.map_eq_some_iff] at h;obtain ⟨N,hN,rfl⟩:=h;refine ⟨by intro e;exact Ia hN (List.map_eq_nil_iff.1 e),fun p hp=>?_⟩;obtain ⟨⟨v,e⟩,hm,rfl⟩:=List.mem_map.1 hp;exact dZ.app _ _ (B4 hN _ hm)
 ·split at h
  ·rename_i hop;simp only [qq9] at h;subst h;exact .one (dZ.app _ _ (rH hop).1)
  ·cases h
theorem k9 (ops:List Oper) (st:St):bU T rec ops [] st=some [st]:=rfl
theorem eJ (ops:List Oper) (o:Oper) (l:List Oper) (st:St):bU T rec ops (o :: l) st =
 cond (bX ops st.fr o.guard)
  (match gk T rec o.op st with
   | some L=>dj L fun p=>bU T rec ops l ⟨fC st.fr o.dst p.1,p.2,st.rd⟩
   | none=>none)
  (bU T rec ops l ⟨fC st.fr o.dst undef,st.hp,st.rd⟩):=rfl
theorem fF (hr:bE rec) (ops:List Oper):∀ (l:List Oper) (st:St) (L:List St),bU T rec ops l st=some L→Good st.hp St.hp L∧∀ s ∈ L,s.rd=st.rd:=by
 intro l
 induction l with
 | nil=>intro st L h;rw [k9] at h;cases h;exact ⟨.one (.refl _),by simp⟩
 | cons o l ih =>
  intro st L h;rw [eJ] at h
  cases hg:bX ops st.fr o.guard with
  | false=>rw [hg] at h;simp only [cond_false] at h;exact ih ⟨fC st.fr o.dst undef,st.hp,st.rd⟩ _ h
  | true =>
   rw [hg] at h;simp only [cond_true] at h
   cases ha:gk T rec o.op st with
   | none=>rw [ha] at h;cases h
   | some A =>rw [ha] at h;refine ⟨Good.bind h (qE hr ha) fun p Mx hx=>(ih _ _ hx).1,fun s hs=>?_⟩;obtain ⟨p,_,Mx,h1,h2⟩:=jd h s hs;exact (ih _ _ h1).2 s h2
theorem eK (ops:Array Oper) (i:Nat) (st:St) (acc:List Ev):cg T rec ops [] i st acc=cond (dX T ops acc) (some [st]) none:=rfl
theorem bW (ops:Array Oper) (o:Oper) (l:List Oper) (i:Nat) (st:St) (acc:List Ev):cg T rec ops (o :: l) i st acc =
 cond (bX ops.toList st.fr o.guard)
  (match bu T rec o.op i st with
   | some (v,hp,t)=>cg T rec ops l (i+1) ⟨fC st.fr o.dst v,hp,st.rd⟩ (⟨o,st,v,hp,t⟩ :: acc)
   | none=>none)
  (cg T rec ops l (i+1) ⟨fC st.fr o.dst undef,st.hp,st.rd⟩ (⟨o,st,undef,st.hp,⟨i,[],[],false,st.hp.n,st.hp.n⟩⟩ :: acc)):=rfl
theorem DW {n lo k:Nat} (h:k ∈ RD n lo):lo≤k∧k < n:=by
 unfold RD at h
 cases hc:Nat.ble n lo with
 | true=>rw [hc] at h;cases h
 | false =>rw [hc] at h;simp only [cond_false,List.mem_range'_1] at h;omega
theorem MG {n lo k:Nat} (h:k ∉ RD n lo) (hk:k < n):k < lo:=by
 unfold RD at h
 cases hc:Nat.ble n lo with
 | true=>have:=Nat.le_of_ble_eq_true hc;omega
 | false =>rw [hc] at h;simp only [cond_false,List.mem_range'_1,not_and,Nat.not_lt] at h;apply Nat.lt_of_not_le;intro hle;have:=h hle;omega
theorem tj {i:Nat} {st:St} {v:Value} {hp:Hp} (h:Nat.ble st.hp.n hp.lo=true):kB i st v hp=(v,{hp with lo:=st.hp.lo},⟨i,[],[],true,st.hp.n,hp.n⟩):=by unfold kB RD;rw [h];rfl
theorem vR {i:Nat} {st:St} {v:Value} {hp:Hp} (hk:dZ {st.hp with lo:=st.hp.n} hp):dZ st.hp (kB i st v hp).2.1:=by
 have hn:st.hp.n≤hp.n:=hk.n;refine ⟨hn,?_,fun k hk1 hk2=>?_,hk.wf,hk.loop⟩
 ·show (bif Nat.ble st.hp.n hp.lo then st.hp.lo else min st.hp.lo hp.lo)≤st.hp.lo
  cases Nat.ble st.hp.n hp.lo with
  | true=>exact qq6 _
  | false=>exact Nat.min_le_left _ _
 ·refine hk.same k hk1 ?_;have hk2:k < (bif Nat.ble st.hp.n hp.lo then st.hp.lo else min st.hp.lo hp.lo):=hk2
  cases hc:Nat.ble st.hp.n hp.lo with
  | true=>have:=Nat.le_of_ble_eq_true hc;omega
  | false=>rw [hc] at hk2;simp only [cond_false] at hk2;omega
theorem lf (hr:bE rec) {o:Op} {i:Nat} {st:St} {v:Value} {hp:Hp} {t:Tc} (h:bu T rec o i st=some (v,hp,t)):dZ st.hp hp:=by
 unfold bu at h;split at h
 ·split at h
  ·rename_i g _;split at h
   ·rename_i v' hp' hj;have e:=Option.some.inj h;have:=hr _ _ hj;rw [rJ] at this;have hk:dZ st.hp (kB i st v' hp').2.1:=vR (this.2 _ (List.mem_singleton.2 rfl));rw [e] at hk;exact hk
   ·cases h
  ·cases h
 ·cases h
 ·split at h
  ·rename_i hop;simp only [qq9,Prod.mk.injEq] at h;obtain ⟨_,rfl,_⟩:=h;exact dZ.app _ _ (rH hop).1
  ·cases h
theorem qf (hr:bE rec) (ops:Array Oper):∀ (l:List Oper) (i:Nat) (st:St) (acc:List Ev) (L:List St),cg T rec ops l i st acc=some L→Good st.hp St.hp L∧∀ s ∈ L,s.rd=st.rd:=by
 intro l
 induction l with
 | nil =>
  intro i st acc L h;rw [eK] at h
  cases hc:dX T ops acc with
  | false=>rw [hc] at h;cases h
  | true=>rw [hc] at h;simp at h;subst h;exact ⟨.one (.refl _),by simp⟩
 | cons o l ih =>
  intro i st acc L h;rw [bW] at h
  cases hg:bX ops.toList st.fr o.guard with
  | false=>rw [hg] at h;simp only [cond_false] at h;exact ih _ ⟨fC st.fr o.dst undef,st.hp,st.rd⟩ _ _ h
  | true =>
   rw [hg] at h;simp only [cond_true] at h
   cases ha:bu T rec o.op i st with
   | none=>rw [ha] at h;cases h
   | some p =>obtain ⟨v,hp,t⟩:=p;rw [ha] at h;have:=ih _ _ _ _ h;have hk:=lf hr ha;exact ⟨⟨this.1.1,fun s hs=>hk.trans (this.1.2 s hs)⟩,this.2⟩
theorem vS (st:St):bM T rec .skip st=some [(.normal,st)]:=rfl
theorem uz (l:Nat) (st:St):bM T rec (.label l) st=some [(.normal,st)]:=rfl
theorem lV {ops:Array Oper} {st:St} {L:List St} (h:cM T rec ops st=some L):(∃ c,vB ops=some c∧Fw T rec ops c st=some L)∨(vB ops=none∧∃ M,cg T rec ops (ops.toList.take (fR ops)) 0 st []=some M∧dj M (bU T rec ops.toList (ops.toList.drop (fR ops)))=some L):=by
 unfold cM at h;split at h
 ·exact .inl ⟨_,by assumption,h⟩
 ·refine .inr ⟨by assumption,?_⟩;split at h
  ·exact ⟨_,by assumption,h⟩
  ·cases h
theorem iI (ops:Array Oper) (K:St→List Ev→Option (List St)) (o:Oper) (l:List Oper) (i:Nat) (st:St) (acc:List Ev):gz T rec ops (o :: l) K i st acc =
 cond (bX ops.toList st.fr o.guard)
  (match bu T rec o.op i st with
   | some (v,hp,t)=>gz T rec ops l K (i+1) ⟨fC st.fr o.dst v,hp,st.rd⟩ (⟨o,st,v,hp,t⟩ :: acc)
   | none=>none)
  (gz T rec ops l K (i+1) ⟨fC st.fr o.dst undef,st.hp,st.rd⟩ (⟨o,st,undef,st.hp,⟨i,[],[],false,st.hp.n,st.hp.n⟩⟩ :: acc)):=rfl
theorem vT (hr:bE rec) (ops:Array Oper) (K:St→List Ev→Option (List St)):∀ (l:List Oper) (i:Nat) (st:St) (acc:List Ev) (L:List St),gz T rec ops l K i st acc=some L→∃ st' acc',dZ st.hp st'.hp∧st'.rd=st.rd∧K st' acc'=some L:=by
 intro l
 induction l with
 | nil=>intro i st acc L h;exact ⟨st,acc,.refl _,rfl,h⟩
 | cons o l ih =>
  intro i st acc L h;rw [iI] at h
  cases hg:bX ops.toList st.fr o.guard with
  | false=>rw [hg] at h;simp only [cond_false] at h;exact ih _ ⟨fC st.fr o.dst undef,st.hp,st.rd⟩ _ _ h
  | true =>
   rw [hg] at h;simp only [cond_true] at h
   cases ha:bu T rec o.op i st with
   | none=>rw [ha] at h;cases h
   | some p =>obtain ⟨v,hp,t⟩:=p;rw [ha] at h;obtain ⟨st',acc',h1,h2,h3⟩:=ih _ _ _ _ h;exact ⟨st',acc',(lf hr ha).trans h1,h2,h3⟩
theorem ij {i:Nat} {st:St} {r:gL} {P:List (Value × Hp × Tc)} (h:HS i st r=some P):∃ v hp,r=.ret v hp∧P=[kB i st v hp]:=by
 cases r with
 | ret v hp=>exact ⟨v,hp,rfl,(Option.some.inj h).symm⟩
 | out e s=>cases h
theorem yl (hr:bE rec) {o:Op} {i:Nat} {st:St} {P:List (Value × Hp × Tc)} (h:eZ T rec o i st=some P):Good st.hp (fun p=>p.2.1) P:=by
 unfold eZ at h;split at h
 ·split at h
  ·rename_i g _;split at h
   ·rename_i R hj;have:=hr _ _ hj;rw [rJ] at this;refine ⟨B6 h this.1 fun r _ Pr hp=>?_,fun p hp=>?_⟩
    ·obtain ⟨v,hp,_,rfl⟩:=ij hp;simp
    ·obtain ⟨r,hrm,Pr,h1,h2⟩:=jd h p hp;obtain ⟨v,hp',rfl,rfl⟩:=ij h1;obtain rfl:=List.mem_singleton.1 h2;exact vR (this.2 _ hrm)
   ·cases h
  ·cases h
 ·cases h
theorem vU (hr:bE rec) {ops:Array Oper} {o:Oper} {i:Nat} {st:St} {P:List (Value × Hp × Tc)} (h:kC T rec ops o i st=some P):Good st.hp (fun p=>p.2.1) P:=by
 unfold kC at h
 cases hg:bX ops.toList st.fr o.guard with
 | true =>rw [hg] at h;exact yl hr h
 | false =>rw [hg] at h;simp only [cond_false,qq9] at h;subst h;exact ⟨by simp,fun p hp=>by rw [List.mem_singleton.1 hp];exact .refl _⟩
theorem qF {ops:Array Oper} {c:Nat} {st:St} {acc:List Ev} {L:List St} (h:vC T rec ops c st acc=some L):∃ o P,ops.toList[c]?=some o∧kC T rec ops o c st=some P∧(∀ p ∈ P,dX T ops (⟨o,st,p.1,p.2.1,p.2.2⟩ :: acc)=true)∧(dj P fun p=>bU T rec ops.toList (ops.toList.drop (c+1)) ⟨fC st.fr o.dst p.1,p.2.1,st.rd⟩)=some L:=by
 unfold vC at h;split at h
 ·rename_i o ho;split at h
  ·rename_i P hP
   cases hq:P.all fun p=>dX T ops (⟨o,st,p.1,p.2.1,p.2.2⟩ :: acc) with
   | false=>rw [hq] at h;cases h
   | true =>rw [hq] at h;exact ⟨o,P,ho,hP,List.all_eq_true.1 hq,h⟩
  ·cases h
 ·cases h
theorem DX (hr:bE rec) (ops:Array Oper) (c:Nat) (st:St) (L:List St) (h:Fw T rec ops c st=some L):Good st.hp St.hp L:=by obtain ⟨st',acc',h1,h2,h3⟩:=vT hr _ _ _ _ _ _ _ h;obtain ⟨o,P,_,hP,_,hL⟩:=qF h3;have hg:=vU hr hP;have hg':Good st.hp (fun p:Value × Hp × Tc=>p.2.1) P:=⟨hg.1,fun p hp=>h1.trans (hg.2 p hp)⟩;exact Good.bind hL hg' fun p Mx hx=>(fF hr _ _ _ _ hx).1
theorem ym (hr:bE rec) (ops:Array Oper) (st:St) (L:List St) (h:cM T rec ops st=some L):Good st.hp St.hp L:=by
 rcases lV h with ⟨c,_,h⟩|⟨_,M,h1,h2⟩
 ·exact DX hr _ _ _ _ h
 ·exact Good.bind h2 (qf hr _ _ _ _ _ _ h1).1 fun x Mx hx=>(fF hr _ _ _ _ hx).1
theorem fG (id:Nat) (ops:Array Oper) (draw:Bool) (st:St):bM T rec (.region id ops draw) st =
 match cond draw (cM T rec ops st) (bU T rec ops.toList ops.toList st) with
  | some L=>some (L.map fun s=>(.normal,s))
  | none=>none:=rfl
theorem pF (a b:Code) (st:St):bM T rec (.seq a b) st=match bM T rec a st with
 | some L=>dj L (vD (bM T rec b))
 | none=>none:=rfl
theorem kF (c:Operand) (a b:Code) (st:St):bM T rec (.cond c a b) st=match aQ st.fr c with
 | .bool t=>cond t (bM T rec a st) (bM T rec b st)
 | _=>none:=rfl
theorem lg (id:Nat) (c:Code) (st:St):bM T rec (.block id c) st=match bM T rec c st with
 | some L=>some (L.map (gA id))
 | none=>none:=rfl
theorem ng (c:Code) (st:St):bM T rec (.loop c) st=match rec (.loop c st) with
 | some L=>dj L BP
 | none=>none:=rfl
theorem vV (id:Nat) (st:St):bM T rec (.exit id) st=some [(.exit id,st)]:=rfl
theorem yZ (st:St):bM T rec .ret st=some [(.ret,st)]:=rfl
theorem lu (f:Operand) (ps:Array Tmp) (a b:Code) (st:St):bM T rec (.rangeFunc f ps a b) st=mU rec f ps a b st:=rfl
theorem lz (c:Code) (st:St):bM T rec (.scope c) st=vE (bM T rec c st):=rfl
theorem oC {o:Option (List (Exit × St))} {L:List (Exit × St)} (h:vE o=some L):o=some L∧∀ p ∈ L,∀ l,p.1 ≠ .goto l:=by
 unfold vE at h;split at h
 ·rename_i M
  cases hb:M.all noGoto with
  | false=>rw [hb] at h;cases h
  | true =>rw [hb] at h;simp only [cond_true,qq9] at h;subst h;refine ⟨rfl,fun p hp l e=>?_⟩;have:=List.all_eq_true.1 hb p hp;unfold noGoto at this;rw [e] at this;cases this
 ·cases h
theorem vW (l:Nat) (st:St):bM T rec (.goto l) st=none:=rfl
theorem rK (y:String) (st:St):bM T rec (.refuse y) st=none:=rfl
theorem lW {l : Nat} {fr : Tr Value} {rd : Bool} {r : gL} {M : List (Exit × St)} (h : jC l fr rd r = some M) :
    ∃ v hp s pend fr0 ps as bd, r = .ret v hp ∧ hp.get l = some (.loop s pend fr0 ps as bd) ∧ s ≠ .busy ∧
      ((pend = none ∧ M = [(.normal, ⟨fr, hp.put l (.loop .exhausted pend fr0 ps as bd), rd⟩)]) ∨ (pend = some .ret ∧ M = [(.ret, ⟨fr, hp.put l (.loop .exhausted pend fr0 ps as bd), rd⟩)]) ∨
        ∃ id, pend = some (.exit id) ∧ M = [(.exit id, ⟨fr, hp.put l (.loop .exhausted pend fr0 ps as bd), rd⟩)]) := by
  cases r with
  | out e s => cases h
  | ret v hp =>
    unfold jC at h;simp only at h;split at h
    · rename_i s pend fr0 ps as bd hl;refine ⟨v, hp, s, pend, fr0, ps, as, bd, rfl, hl, ?_⟩;have hs : s ≠ .busy := fun e => by subst e; simp at h
      refine ⟨hs, ?_⟩
      cases pend with
      | none => cases s <;> simp at h hs ⊢ <;> exact h.symm
      | some c =>
        cases c with
        | ret => refine .inr (.inl ⟨rfl, ?_⟩); cases s <;> simp at h hs ⊢ <;> exact h.symm
        | exit id => refine .inr (.inr ⟨id, rfl, ?_⟩); cases s <;> simp at h hs ⊢ <;> exact h.symm
        | _ => cases s <;> simp at h
    · cases h
theorem je (hr:bE rec):∀ (c:Code) (st:St) (L:List (Exit × St)),bM T rec c st=some L→Good st.hp (fun p=>p.2.hp) L:=by
 intro c
 induction c with
 | skip=>intro st L h;rw [vS] at h;cases h;exact .one (.refl _)
 | label l=>intro st L h;rw [uz] at h;cases h;exact .one (.refl _)
 | exit id=>intro st L h;rw [vV] at h;cases h;exact .one (.refl _)
 | ret=>intro st L h;rw [yZ] at h;cases h;exact .one (.refl _)
 | scope c ih=>intro st L h;rw [lz] at h;exact ih st L (oC h).1
 | goto l=>intro st L h;rw [vW] at h;cases h
 | refuse y=>intro st L h;rw [rK] at h;cases h
 | region id ops draw =>
  intro st L h;rw [fG] at h
  cases draw with
  | true =>
   simp only [cond_true] at h
   cases hx:cM T rec ops st with
   | none=>rw [hx] at h;cases h
   | some R=>rw [hx] at h;simp only [qq9] at h;subst h;exact (ym hr _ _ _ hx).map fun _=>rfl
  | false =>
   simp only [cond_false] at h
   cases hx:bU T rec ops.toList ops.toList st with
   | none=>rw [hx] at h;cases h
   | some R=>rw [hx] at h;simp only [qq9] at h;subst h;exact (fF hr _ _ _ _ hx).1.map fun _=>rfl
 | seq a b iha ihb =>
  intro st L h;rw [pF] at h
  cases hx:bM T rec a st with
  | none=>rw [hx] at h;cases h
  | some R =>
   rw [hx] at h;refine Good.bind h (iha _ _ hx) fun p Mx hp=>?_;unfold vD at hp;split at hp
   ·exact ihb _ _ hp
   ·simp only [qq9] at hp;subst hp;exact .one (.refl _)
 | cond c a b iha ihb =>
  intro st L h;rw [kF] at h;split at h
  ·rename_i t _
   cases t with
   | true=>exact iha _ _ h
   | false=>exact ihb _ _ h
  ·cases h
 | block id c ih =>
  intro st L h;rw [lg] at h
  cases hx:bM T rec c st with
  | none=>rw [hx] at h;cases h
  | some R =>rw [hx] at h;simp only [qq9] at h;subst h;refine (ih _ _ hx).map fun p=>?_;unfold gA;split <;> rfl
 | loop c _ =>
  intro st L h;rw [ng] at h
  cases hx:rec (.loop c st) with
  | none=>rw [hx] at h;cases h
  | some R =>
   rw [hx] at h;refine Good.bind h (hr _ _ hx) fun p Mx hp=>?_
   cases p with
   | ret=>cases hp
   | out e s=>simp only [BP,qq9] at hp;subst hp;exact .one (.refl _)
 | rangeFunc f ps a b _ _ =>
  intro st L h;rw [lu] at h;unfold mU at h;split at h
  ·rename_i g args _
   cases hx:rec (.call g args (st.hp.push (.loop .ready none st.fr ps a b))) with
   | none=>rw [hx] at h;cases h
   | some R =>rw [hx] at h;have hk:=hr _ _ hx;have hk':Good st.hp gL.hp R:=⟨hk.1,fun r hr'=>(dZ.push _ _).trans (hk.2 r hr')⟩;refine Good.bind h hk' fun p Mx hp=>?_;obtain ⟨v,hp2,s,pend,fr0,ps',as',bd',rfl,hgt,_,h1|h1|⟨_,h1⟩⟩:=lW hp <;> (obtain ⟨_,rfl⟩:=h1;exact .one (dZ.put hp2 _ _ (by rw [hgt];simp) (fun _=>rfl)))
  ·cases h
theorem kG (f:FuncId) (args:List Value) (hp:Hp):iF T rec (.call f args hp)=match T.fn.get f with
 | some fn=>match fn.body with
  | some c=>match bM T rec c ⟨setArgs .leaf 0 args,hp,false⟩ with
   | some L=>dj L (fE T fn.results.toList)
   | none=>none
  | none=>none
 | none=>none:=rfl
theorem oD (l:Nat) (args:List Value) (hp:Hp):iF T rec (.round l args hp)=match hp.get l with
 | some (.loop .ready _ fr ps as bd)=>cond (Nat.beq args.length ps.toList.length)
  (match bM T rec as ⟨fc fr (ps.toList.zip args),hp,true⟩ with
  | some L=>dj L (cX T rec l bd)
  | none=>none) none
 | _=>none:=rfl
theorem qG (c:Code) (st:St):iF T rec (.loop c st)=match bM T rec c st with
 | some L=>dj L (fe rec c)
 | none=>none:=rfl
theorem nh {rs:List ResultVar} {p:Exit × St} {M:List gL} (h:fE T rs p=some M):(p.1=.normal∨p.1=.ret)∧∃ vs,k7 T p.2.fr p.2.hp rs=some vs∧M=[.ret (dm vs) p.2.hp]:=by
 obtain ⟨e,s⟩:=p;unfold fE at h
 cases e with
 | normal=>simp only [Option.map_eq_some_iff] at h;obtain ⟨vs,a,b⟩:=h;exact ⟨.inl rfl,vs,a,b.symm⟩
 | ret=>simp only [Option.map_eq_some_iff] at h;obtain ⟨vs,a,b⟩:=h;exact ⟨.inr rfl,vs,a,b.symm⟩
 | _=>simp at h
theorem kH {l : Nat} {p : Exit × St} {M : List gL} (h : gB l p = some M) : ∃ st pend fr ps as bd, p.2.hp.get l = some (.loop st pend fr ps as bd) ∧
    ((p.1 = .normal ∧ M = [.ret (.bool true) (p.2.hp.put l (.loop .ready none fr ps as bd))]) ∨
     (p.1 = .ret ∧ M = [.ret (.bool false) (p.2.hp.put l (.loop .done (some .ret) fr ps as bd))]) ∨
     ∃ id, p.1 = .exit id ∧ M = [.ret (.bool false) (p.2.hp.put l (.loop .done (some (.exit id)) fr ps as bd))]) := by
  obtain ⟨e, s⟩ := p;unfold gB at h;simp only at h;split at h
  · rename_i st pend fr ps as bd hl;refine ⟨st, pend, fr, ps, as, bd, hl, ?_⟩
    cases e with
    | normal => simp only [qq9] at h; exact .inl ⟨rfl, h.symm⟩
    | ret => simp only [qq9] at h; exact .inr (.inl ⟨rfl, h.symm⟩)
    | exit id => simp only [qq9] at h; exact .inr (.inr ⟨id, rfl, h.symm⟩)
    | _ => simp at h
  · cases h
theorem jg {l:Nat} {body:Code} {p:Exit × St} {M:List gL} (h:cX T rec l body p=some M):p.1=.normal∧∃ pend fr ps as bd R,p.2.hp.get l=some (.loop .ready pend fr ps as bd) ∧
  bM T rec body ⟨p.2.fr,p.2.hp.put l (.loop .busy pend fr ps as bd),true⟩=some R∧dj R (gB l)=some M:=by
 obtain ⟨e,s⟩:=p;unfold cX at h;have he:e=.normal:=by cases e <;> first|rfl|simp at h
 subst he;simp only at h;split at h
 ·rename_i pend fr ps as bd hl
  cases hy:bM T rec body ⟨s.fr,s.hp.put l (.loop .busy pend fr ps as bd),true⟩ with
  | none=>rw [hy] at h;cases h
  | some R=>rw [hy] at h;exact ⟨rfl,pend,fr,ps,as,bd,R,hl,hy,h⟩
 ·cases h
theorem nS {f:FuncId} {args:List Value} {hp:Hp} {L:List gL} (h:iF T rec (.call f args hp)=some L) :
  ∃ fn c R,T.fn.get f=some fn∧fn.body=some c∧bM T rec c ⟨setArgs .leaf 0 args,hp,false⟩=some R∧dj R (fE T fn.results.toList)=some L:=by
 rw [kG] at h
 cases hf:T.fn.get f with
 | none=>rw [hf] at h;cases h
 | some fn =>
  rw [hf] at h;simp only at h
  cases hb:fn.body with
  | none=>rw [hb] at h;cases h
  | some c =>
   rw [hb] at h;simp only at h
   cases hx:bM T rec c ⟨setArgs .leaf 0 args,hp,false⟩ with
   | none=>rw [hx] at h;cases h
   | some R=>rw [hx] at h;exact ⟨fn,c,R,rfl,hb,hx,h⟩
theorem mA {l:Nat} {args:List Value} {hp:Hp} {L:List gL} (h:iF T rec (.round l args hp)=some L) :
  ∃ pend fr ps as bd R,hp.get l=some (.loop .ready pend fr ps as bd)∧args.length=ps.size∧bM T rec as ⟨fc fr (ps.toList.zip args),hp,true⟩=some R∧dj R (cX T rec l bd)=some L:=by
 rw [oD] at h;split at h
 ·rename_i pend fr ps as bd hl
  cases hlen:Nat.beq args.length ps.toList.length with
  | false=>rw [hlen] at h;cases h
  | true =>
   rw [hlen] at h;simp only [cond_true] at h
   cases hx:bM T rec as ⟨fc fr (ps.toList.zip args),hp,true⟩ with
   | none=>rw [hx] at h;cases h
   | some R=>rw [hx] at h;exact ⟨pend,fr,ps,as,bd,R,hl,by simpa using Nat.eq_of_beq_eq_true hlen,hx,h⟩
 ·cases h
theorem nT {c:Code} {st:St} {L:List gL} (h:iF T rec (.loop c st)=some L):∃ R,bM T rec c st=some R∧dj R (fe rec c)=some L:=by
 rw [qG] at h
 cases hx:bM T rec c st with
 | none=>rw [hx] at h;cases h
 | some R=>rw [hx] at h;exact ⟨R,rfl,h⟩
theorem kI {c:Code} {p:Exit × St} {M:List gL} (h:fe rec c p=some M):(p.1=.normal∧rec (.loop c p.2)=some M)∨(p.1 ≠ .normal∧M=[.out p.1 p.2]):=by
 obtain ⟨e,s⟩:=p;unfold fe at h
 cases e <;> simp only [qq9] at h <;> first
  | exact .inl ⟨rfl,h⟩
  | exact .inr ⟨by simp,h.symm⟩
theorem DY (hr:bE rec):bE (iF T rec):=by
 intro j L h
 cases j with
 | call f args hp =>obtain ⟨fn,c,R,_,_,hx,h⟩:=nS h;refine Good.bind h (je hr _ _ _ hx) fun p Mx hq=>?_;obtain ⟨_,vs,_,rfl⟩:=nh hq;exact .one (.refl _)
 | round l args hp =>obtain ⟨pend,fr,ps,as,bd,R,_,_,hx,h⟩:=mA h;refine Good.bind h (je hr _ _ _ hx) fun p Mx hq=>?_;obtain ⟨_,pend',fr',ps',as',bd',R2,hgt,hy,hz⟩:=jg hq;have hk:=je hr _ _ _ hy;have hk':Good p.2.hp (fun q=>q.2.hp) R2:=⟨hk.1,fun r hr'=>(dZ.put p.2.hp _ _ (by rw [hgt];simp) (fun _=>rfl)).trans (hk.2 r hr')⟩;refine Good.bind hz hk' fun q My hw=>?_;obtain ⟨_,_,_,_,_,_,hgt2,h1|h1|⟨_,h1⟩⟩:=kH hw <;> (obtain ⟨_,rfl⟩:=h1;exact .one (dZ.put q.2.hp _ _ (by rw [hgt2];simp) (fun _=>rfl)))
 | loop c st =>
  obtain ⟨R,hx,h⟩:=nT h;refine Good.bind h (je hr _ _ _ hx) fun p Mx hq=>?_
  rcases kI hq with ⟨_,h1⟩|⟨_,rfl⟩
  ·exact hr _ _ h1
  ·exact .one (.refl _)
end
open Go
theorem uA:∀ {l m:List UInt8},rj l m=true→l=m
 | [],[],_=>rfl
 | a :: l,b :: m,h=>by simp only [rj,qq7] at h;rw [uA h.2,UInt8.toNat_inj.1 (Nat.eq_of_beq_eq_true h.1)]
 | [],_ :: _,h=>by cases h
 | _ :: _,[],h=>by cases h
theorem Ib {a b:Int} (h:Fu a b=true):a=b:=by
 cases a <;> cases b <;> simp only [Fu,Bool.false_eq_true] at h
 ·rw [Nat.eq_of_beq_eq_true h]
 ·rw [Nat.eq_of_beq_eq_true h]
theorem Al {p v:Value} (h:Gz p v=true):p=v∧bh v=true:=by
 unfold Gz at h;split at h
 ·simp at h;subst h;exact ⟨rfl,rfl⟩
 ·simp only [qq7,beq_iff_eq] at h;obtain ⟨rfl,h⟩:=h;rw [Ib h];exact ⟨rfl,rfl⟩
 ·rename_i s t;have:=uA h;have e:s=t:=by cases s;cases t;simp only at this;rw [Array.toList_inj.1 this]
  rw [e];exact ⟨rfl,rfl⟩
 ·exact ⟨rfl,rfl⟩
 ·exact ⟨rfl,rfl⟩
 ·exact ⟨rfl,rfl⟩
 ·exact ⟨rfl,rfl⟩
 ·exact ⟨rfl,rfl⟩
 ·cases h
abbrev FW (r:Option Nat):Fence:={fn:=fun _=>True,depth:=none,alive:=false,round:=r}
def fy (γ:Gm) (a N:Nat):Prop:=∀ k,a≤k→k < N→γ.loc k=none
structure Step (γ:Gm) (H:Hp) (w:World) (γ':Gm) (H':Hp) (w':World):Prop where
 n:H.n≤H'.n
 le:γ.Le γ'
 out:∀ k,(k < H.n∨H'.n≤k)→γ'.loc k=γ.loc k
 hr:HR γ' H'.get w'
 iB:j7 γ H.get w γ' H'.get w'
section
variable {T : bL} {γ γ' γ1 γ2 : Gm} {H H' H1 H2 : Hp} {w w' w1 w2 : World} {N : Nat}
theorem Step.refl (h:HR γ H.get w):Step γ H w γ H w:=⟨qq6 _,Gm.Le.refl γ,fun _ _=>rfl,h,j7.refl _ _ _⟩
theorem Step.trans (a:Step γ H w γ1 H1 w1) (b:Step γ1 H1 w1 γ2 H2 w2):Step γ H w γ2 H2 w2 :=
 ⟨Nat.le_trans a.n b.n,a.le.trans b.le,fun k hk=>by
  have h1:=a.n;have h2:=b.n
  rw [b.out k (by omega),a.out k (by omega)],b.hr,a.iB.trans b.iB⟩
theorem Step.fresh (a:Step γ H w γ1 H1 w1) (h:fy γ H.n N):fy γ1 H1.n N:=fun k h1 h2=>by rw [a.out k (.inr h1)];exact h k (Nat.le_trans a.n h1) h2
theorem HR.off {g:aG} (h:HR γ g w) (hs:w.heap.size≤w'.heap.size) (hh:∀ k b o,γ.loc k=some (b,o)→w'.heap[b]?=w.heap[b]?) (hg:∀ b,b < γ.B→w'.heap[b]?=w.heap[b]?):HR γ g w' :=
 ⟨fun k b o a ha hl=>(h.gT k b o a ha hl).mono (Gm.Le.refl γ) hl (hh k b o hl),h.inj,fun k b o hl=>Nat.lt_of_lt_of_le (h.lt k b o hl) hs,Nat.le_trans h.base hs,fun x hx=>⟨(h.gl x hx).1,by rw [hg _ (h.gl x hx).1];exact (h.gl x hx).2⟩⟩
theorem j7.off {g g':aG} (u:j7 γ g w γ' g' w1) (h1:w2.os=w1.os) (h2:w2.tape=w1.tape) (h3:w2.output=w1.output) (hs:w1.heap.size≤w2.heap.size)
  (hh:∀ b,b < w.heap.size→w2.heap[b]?=w1.heap[b]?):j7 γ g w γ' g' w2 :=
 ⟨h1.trans u.os,h2.trans u.tape,h3.trans u.output,Nat.le_trans u.size hs,fun b hb hn=>(hh b hb).trans (u.same b hb hn),u.uy,u.live,u.s7⟩
theorem qg (e:cv):(H.app e).n=if e.news=true then H.n+1 else H.n:=by cases e <;> rfl
theorem aV.step {s:Sem Next} {v:Value} {e:cv} (h:aV T.P γ H.get w H.n s v e) :
  ∃ v' w' γ',(s.run T.P w=.ok (.value v') w'∨(s.run T.P w=.ok .skip w'∧v'=undef))∧VR γ' v v'∧Step γ H w γ' (H.app e) w':=by
 obtain ⟨v',w',γ',h1,h2,h3,h4,h5,h6⟩:=h;refine ⟨v',w',γ',h1,h5,?_,h2,fun k hk=>h3 k fun e'=>?_,by rw [Hp.z8];exact h4,by rw [Hp.z8];exact h6⟩
 ·rw [qg];split <;> omega
 ·rw [qg] at hk;subst e'
  cases hn:e.news with
  | false=>rfl
  | true=>rw [hn] at hk;simp at hk;omega
def Am (γ:Gm) (w:World) (N0:Nat) (ds:List Deferred):Prop :=
 ∃ rs:List Nat,ds=rs.map (fun r=>{target:=.collected r,args:=#[]})∧rs.Nodup∧∀ r ∈ rs,N0≤r∧w.heap[r]?=some (.deferred (some []))∧∀ k o,γ.loc k ≠ some (r,o)
theorem Am.nil (γ:Gm) (w:World) (N0:Nat):Am γ w N0 []:=⟨[],rfl,List.nodup_nil,fun r hr=>by cases hr⟩
theorem Am.step {N0:Nat} {ds:List Deferred} (h:Am γ w N0 ds) (s:Step γ H w γ' H' w'):Am γ' w' N0 ds:=by obtain ⟨rs,h1,h2,h3⟩:=h;refine ⟨rs,h1,h2,fun r hr=>?_⟩;obtain ⟨a,b,c⟩:=h3 r hr;have hlt:r < w.heap.size:=(Array.getElem?_eq_some_iff.1 b).1;refine ⟨a,(s.iB.same r hlt fun k o _ _ _ hl=>c k o hl).trans b,fun k o hl=>?_⟩;obtain ⟨k0,o0,hl0⟩:=s.iB.s7 k r o hl hlt;exact c k0 o0 hl0
theorem Ic {fr:Tr Value} {a:Act} (h:x6 γ fr a.tmps) {x:Operand} (hx:ux x=true):VR γ (aQ fr x) (a.eval x):=by
 cases x with
 | tmp t=>exact h t
 | const v=>exact VR.of_flat hx
 | global g=>cases hx
 | func f=>exact .func rfl rfl (fun i a _=>absurd a (by simp)) (fun i a _=>absurd a (by simp))
theorem B7 {tm:Array Value} {d i:Nat} {v:Value} (hd:d < tm.size):(tm.setIfInBounds d v).getD i undef=if i=d then v else tm.getD i undef:=by
 simp only [Array.getD_eq_getD_getElem?,Array.getElem?_setIfInBounds];by_cases h:i=d
 ·subst h;simp [hd]
 ·simp [h,Ne.symm h]
theorem x6.set {fr:Tr Value} {tm:Array Value} (h:x6 γ fr tm) {v v':Value} (hv:VR γ v v') {d:Nat} (hd:d < tm.size):x6 γ (fr.set d v) (tm.setIfInBounds d v'):=by
 intro i;rw [Tr.iG,B7 hd];by_cases hi:i=d
 ·rw [if_pos hi,if_pos hi];exact hv
 ·rw [if_neg hi,if_neg hi];exact h i
theorem x6.put {fr:Tr Value} {a:Act} (h:x6 γ fr a.tmps) {v v':Value} (hv:VR γ v v') {dst:Option Tmp} (hd:∀ d,dst=some d→d < a.tmps.size):x6 γ (fC fr dst v) (a.put dst v').tmps:=by
 cases dst with
 | none=>exact h
 | some d=>exact h.set hv (hd d rfl)
theorem gO (a:Act) (dst:Option Tmp) (v:Value):(a.put dst v).tmps.size=a.tmps.size:=by cases dst <;> simp [Act.put]
theorem put_defers (a:Act) (dst:Option Tmp) (v:Value):(a.put dst v).defers=a.defers:=by cases dst <;> rfl
theorem VR.B8 {v:Value} {b:Bool} (h:VR γ v (.bool b)):v=.bool b:=by cases h with|flat=>rfl
theorem An {fr:Tr Value} {tm:Array Value} (ops:Array Oper) (o:Oper) (h:∀ g want q d,o.guard=some (g,want)→ops[g]?=some q→q.dst=some d→VR γ ((fr.get d).getD undef) (tm.getD d undef)):Region.wanted o (yielded ops tm)=bX ops.toList fr o.guard:=by
 unfold Region.wanted bX
 cases hgu:o.guard with
 | none=>rfl
 | some p =>
  obtain ⟨j,want⟩:=p;simp only [yielded,Array.getElem?_toList]
  cases hoq:ops[j]? with
  | none=>rfl
  | some q =>
   obtain ⟨dst,op,ty,pos,after,guard⟩:=q
   cases dst with
   | none=>rfl
   | some d =>
    simp only [Option.bind_some];have hd:=h j want _ d hgu hoq rfl;rw [Array.getD_eq_getD_getElem?] at hd
    cases hf:fr.get d with
    | none =>
     rw [hf] at hd;simp only
     cases ht:tm[d]? with
     | none=>rfl
     | some u =>
      rw [ht] at hd;simp at hd;cases u <;> first|rfl|skip
      have:=hd.B8;cases this
    | some x =>
     rw [hf] at hd;simp at hd
     cases x with
     | bool b =>
      have:=hd.cU rfl
      cases ht:tm[d]? with
      | none=>rw [ht] at this;cases this
      | some u =>rw [ht] at this;simp at this;subst this;cases b <;> cases want <;> rfl
     | _ =>
      cases ht:tm[d]? with
      | none=>rfl
      | some u =>rw [ht] at hd;simp at hd;cases u <;> first|rfl|(have:=hd.B8;cases this)
theorem Ie {fr:Tr Value} {tm:Array Value} (h:x6 γ fr tm) (ops:Array Oper) (o:Oper):Region.wanted o (yielded ops tm)=bX ops.toList fr o.guard :=
 An ops o fun _ _ _ d _ _ _=>h d
theorem uB:∀ (l:List Value) (t:Tr Value) (i j:Nat),(setArgs t i l).get j=if i≤j∧j < i+l.length then l[j - i]? else t.get j:=by
 intro l
 induction l with
 | nil=>intro t i j;simp [setArgs];intro h1 h2;omega
 | cons v vs ih =>
  intro t i j;rw [setArgs,ih,Tr.iG];simp only [List.length_cons];by_cases hj:j=i
  ·subst hj;simp;omega
  ·by_cases h:i≤j∧j < i+(vs.length+1)
   ·rw [if_pos h,if_pos (by omega)];obtain ⟨q,rfl⟩:∃ q,j=i+1+q:=⟨j - (i+1),by omega⟩;rw [show i+1+q - (i+1)=q by omega,show i+1+q - i=q+1 by omega];rfl
   ·rw [if_neg h,if_neg (by omega),if_neg hj]
theorem x6.args {args args':List Value} (h:cy γ args args') (n:Nat):x6 γ (setArgs .leaf 0 args) (args'.toArray++Array.replicate n undef):=by
 intro i;rw [uB,Array.getD_eq_getD_getElem?,Array.getElem?_append];have hl:=h.1;by_cases hi:i < args.length
 ·rw [if_pos ⟨qq5 _,by omega⟩,if_pos (by simp;omega)];have h1:args[i]?=some (args[i]'hi):=List.getElem?_eq_getElem hi;obtain ⟨v',e1,e2⟩:=h.get h1;simp only [Nat.sub_zero,h1,Option.getD_some,List.getElem?_toArray,e1];exact e2
 ·rw [if_neg (by omega),if_neg (by simp;omega)];have:(Array.replicate n undef)[i - args'.toArray.size]?.getD undef=undef:=by rw [Array.getElem?_replicate];split <;> rfl
  rw [this];exact VR.undef γ
theorem B9:∀ (l:List (Tmp × Value)) (l':List (Tmp × Value)) (fr:Tr Value) (tm:Array Value),x6 γ fr tm→l.length=l'.length →
  (∀ (i:Nat) (p p':Tmp × Value),l[i]?=some p→l'[i]?=some p'→p.1=p'.1∧VR γ p.2 p'.2∧p'.1 < tm.size) →
  x6 γ (fc fr l) (l'.foldl (fun tmps (t,a)=>tmps.setIfInBounds t a) tm)∧(l'.foldl (fun tmps (t,a)=>tmps.setIfInBounds t a) tm).size=tm.size:=by
 intro l
 induction l with
 | nil=>intro l' fr tm h hl _;cases l' with
  | nil=>exact ⟨h,rfl⟩
  | cons=>cases hl
 | cons p l ih =>
  intro l' fr tm h hl hh
  cases l' with
  | nil=>cases hl
  | cons p' l' =>
   obtain ⟨e1,e2,e3⟩:=hh 0 p p' rfl rfl;obtain ⟨d,v⟩:=p;obtain ⟨d',v'⟩:=p';simp only at e1 e2 e3;subst e1;have hsz:(tm.setIfInBounds d v').size=tm.size:=by simp
   obtain ⟨r1,r2⟩:=ih l' (fr.set d v) (tm.setIfInBounds d v') (h.set e2 e3) (by simpa using hl) fun i p p' a b=>by rw [hsz];exact hh (i+1) p p' a b
   exact ⟨r1,r2.trans hsz⟩
theorem GI (hT:cE T) {g:aG} (h:HR γ g w) {t:TypeId} {a a' v:Value} {e:cv} (ho:eV T t a g=some (v,e)) (ha:VR γ a a') :
  ∃ ad v',a'=.pointer (some ad)∧(loadVar t ad).run T.P w=.ok v' w∧VR γ v v':=by
 unfold eV at ho
 cases hk:addr? a with
 | none=>rw [hk] at ho;cases ho
 | some ko =>
  obtain ⟨k,o⟩:=ko;rw [hk] at ho;simp only at ho
  cases hc:cells? (g k) with
  | none=>rw [hc] at ho;cases ho
  | some c0 =>
   obtain ⟨cs,own,es⟩:=c0
   cases hty:T.ty.get t with
   | none=>rw [hc,hty] at ho;cases ho
   | some r =>
    obtain ⟨i,hi,hsz,_,_,hu,_⟩:=hT.ty t r hty;have hag:=hT.agg hty;obtain ⟨und,s,bytes,zero,agg,cJ,cS⟩:=r;rw [hc,hty] at ho;simp only at ho hsz hu hag;obtain ⟨b,d,hl,rfl⟩:=ha.addr hk;obtain ⟨cs',el,fz,hw,hcr,_⟩:=h.cells hc hl
    cases agg with
    | true =>simp only [cond_true,Option.map_eq_some_iff,Prod.mk.injEq] at ho;obtain ⟨c,hcut,rfl,rfl⟩:=ho;obtain ⟨c',hv,hlen,hat,_,_⟩:=hcr.HZ hcut;refine ⟨_,.agg c'.toArray,rfl,?_,VR.kD hv⟩;have hload:=run_loadCells_list (P:=T.P) w ⟨b,d+o,none⟩ c' (fun j v hj=>by rw [Addr.add_lit,rz hw];exact hat j v hj);rw [hlen,←hsz] at hload;simp [loadVar,pq hu,←hag,dK hi,hload]
    | false =>simp only [cond_false,Option.map_eq_some_iff,Prod.mk.injEq] at ho;obtain ⟨x,hx,rfl,rfl⟩:=ho;obtain ⟨x',h1,h2⟩:=hcr o x hx;refine ⟨_,x',rfl,?_,h2⟩;simp [loadVar,pq hu,←hag,load,Sem.run,rz hw,h1]
theorem eL {α β:Type} {P:Program} {s:Sem α} {k:α→Sem β} {a:α} {w w1:World} (h:s.run P w=.ok a w1):(s >>= k).run P w=(k a).run P w1:=by simp [h]
def PG (tm:Array Value):ResultVar→Sem Value
 | .tmp t=>pure (tm.getD t undef)
 | .cell a t=>do loadVar t (←asAddr (tm.getD a undef))
theorem DZ (fn:Func) (tm:Array Value):results fn tm=(do
  let vs ←fn.results.mapM (PG tm)
  pure (if h:vs.size=1 then vs[0] else .tuple vs)):=by
 unfold results
 congr 2
theorem Ca (hT:cE T) {fr:Tr Value} {tm:Array Value} (h:HR γ H.get w) (hf:x6 γ fr tm):∀ (rs:List ResultVar) (vs:List Value),k7 T fr H rs=some vs →
  ∃ vs',(List.mapM (m:=Sem) (PG tm) rs).run T.P w=.ok vs' w∧cy γ vs vs':=by
 intro rs
 induction rs with
 | nil=>intro vs hv;cases hv;exact ⟨[],rfl,cy.nil γ⟩
 | cons r rs ih =>
  intro vs hv;rw [k7] at hv
  cases hr:yT T fr H r with
  | none=>rw [hr] at hv;cases hv
  | some v =>
   rw [hr] at hv;simp only [Option.map_eq_some_iff] at hv;obtain ⟨us,hus,rfl⟩:=hv;obtain ⟨us',h1,h2⟩:=ih us hus
   cases r with
   | tmp t =>simp only [yT,qq9] at hr;subst hr;refine ⟨tm.getD t undef :: us',?_,.cons (hf t) h2⟩;rw [List.mapM_cons,eL rfl,eL h1];rfl
   | cell a t =>simp only [yT,Option.map_eq_some_iff] at hr;obtain ⟨⟨x,e⟩,hx,rfl⟩:=hr;obtain ⟨ad,v',e1,e2,e3⟩:=GI hT h hx (hf a);refine ⟨v' :: us',?_,.cons e3 h2⟩;rw [List.mapM_cons,eL (a:=v') (w1:=w) (by simp only [PG];rw [e1];simp [asAddr,e2]),eL h1];rfl
theorem Ao {vs vs':List Value} (h:cy γ vs vs'):VR γ (dm vs) (dm vs'):=by
 match vs,vs',h with
 | [],[],h=>exact VR.cL h
 | [v],[v'],h=>exact h.2 0 v v' rfl rfl
 | a :: b :: l,a' :: b' :: l',h=>exact VR.cL h
 | [],_ :: _,h=>exact absurd h.1 (by simp)
 | [_],[],h=>exact absurd h.1 (by simp)
 | [_],_ :: _ :: _,h=>exact absurd h.1 (by simp)
 | _ :: _ :: _,[],h=>exact absurd h.1 (by simp)
 | _ :: _ :: _,[_],h=>exact absurd h.1 (by simp)
theorem GJ (hT:cE T) {fr:Tr Value} {tm:Array Value} (h:HR γ H.get w) (hf:x6 γ fr tm) {fn:Func} {vs:List Value} (hv:k7 T fr H fn.results.toList=some vs) :
  ∃ v',(results fn tm).run T.P w=.ok v' w∧VR γ (dm vs) v':=by
 obtain ⟨vs',h1,h2⟩:=Ca hT h hf fn.results.toList vs hv;refine ⟨dm vs',?_,Ao h2⟩;rw [DZ,Array.mapM_eq_mapM_toList];rw [eL (a:=vs'.toArray) (w1:=w) (by rw [map_eq_pure_bind,eL h1];rfl)]
 match vs' with
 | []=>rfl
 | [v]=>rfl
 | a :: b :: l=>simp [dm]
end
end Go.RM
