/-
  An abstract machine, and that its runs are the model's. Lemmas alone; no condition.
-/
import Derived.Test.YtpeogffeoehboaaGreatDoorR1
import Derived.OwnWalkIn
namespace Go.RM
open Go.RowKit
section
variable {T : bJ} {γ : Gm} {g : aH} {w : World} {n : Nat}
def oH (γ:Gm):Option Value→Option Value→Prop
 | none,none=>True
 | some a,some b=>VR γ a b
 | _,_=>False
theorem nW {P:Program} {lo hi lo' hi':Option Value} {l hv len c':Nat} (hl:cN 0 lo=some l) (hh:cN len hi=some hv) (c1:l≤hv) (c2:hv≤c')
  (rlo:oH γ lo lo') (rhi:oH γ hi hi'):(Instr.sliceBounds true len c' lo' hi' none).run P w=.ok (l,hv,c') w:=by
 have q1:((0:Int)≤(hv:Int)∧(hv:Int)≤(c':Int))=True:=eq_true (by omega);have q2:((0:Int)≤(l:Int)∧(l:Int)≤(hv:Int))=True:=eq_true (by omega)
 cases lo with
 | none =>
  cases lo' with
  | some _=>exact rlo.elim
  | none =>
   simp only [cN,qq9] at hl;subst hl
   cases hi with
   | none =>
    cases hi' with
    | some _=>exact rhi.elim
    | none =>simp only [cN,qq9] at hh;subst hh;simp [Instr.sliceBounds]
   | some a =>
    cases hi' with
    | none=>exact rhi.elim
    | some a' =>obtain ⟨kk,rfl⟩:=ei hh;obtain rfl:=VR.bM rhi rfl;simp only [Instr.sliceBounds,Instr.sliceBound,asIntOf,Sem.run_bind,Sem.run_pure,Result.andThen_ok,if_true,Int.toNat_natCast,q1]
 | some b =>
  cases lo' with
  | none=>exact rlo.elim
  | some b' =>
   obtain ⟨kk,rfl⟩:=ei hl;obtain rfl:=VR.bM rlo rfl
   cases hi with
   | none =>
    cases hi' with
    | some _=>exact rhi.elim
    | none =>simp only [cN,qq9] at hh;subst hh;simp only [Instr.sliceBounds,Instr.sliceBound,asIntOf,Sem.run_bind,Sem.run_pure,Result.andThen_ok,Option.isSome_none,Bool.false_eq_true,if_false,if_true,Int.toNat_natCast,q2]
   | some a =>
    cases hi' with
    | none=>exact rhi.elim
    | some a' =>obtain ⟨kk,rfl⟩:=ei hh;obtain rfl:=VR.bM rhi rfl;simp only [Instr.sliceBounds,Instr.sliceBound,asIntOf,Sem.run_bind,Sem.run_pure,Result.andThen_ok,Option.isSome_none,Bool.false_eq_true,if_false,if_true,Int.toNat_natCast,q1,q2]
theorem BW (hT:cx T) (h:HR γ g w) {t:TypeId} {x x':Value} {lo hi lo' hi':Option Value} {v:Value}
  (ho:iW T t x lo hi=some v) (hx:VR γ x x') (rlo:oH γ lo lo') (rhi:oH γ hi hi') :
  aX T.P γ g w n (do Pure.pure (Next.value (←Instr.sliceAt t x' lo' hi' none))) v .none:=by
 unfold iW at ho
 cases he:elem? T t with
 | none=>rw [he] at ho;cases ho
 | some inf =>
  rw [he] at ho;simp only at ho;obtain ⟨el,i,hut,hii,hsz,_,_⟩:=j5 hT he
  cases x with
  | slice base len cp =>
   simp only at ho
   cases hl:cN 0 lo with
   | none=>rw [hl] at ho;cases ho
   | some l =>
    cases hh:cN len hi with
    | none=>rw [hl,hh] at ho;cases ho
    | some hv =>
     rw [hl,hh] at ho;simp only at ho
     cases hcd:(Nat.ble l hv && Nat.ble hv len && Nat.ble 1 inf.size) with
     | false =>
      rw [hcd] at ho;simp only [cond_false] at ho;unfold z8 at ho;split at ho
      ·rename_i k o
       cases hce:(Nat.ble (l+1) hv && Nat.ble (len+3) cp && Nat.ble (hv+3) cp) with
       | false=>rw [hce] at ho;cases ho
       | true =>
        rw [hce] at ho;simp only [cond_true,qq9] at ho;subst ho;simp only [qq7] at hce;have c1:=Nat.le_of_ble_eq_true hce.1.1;have c2:=Nat.le_of_ble_eq_true hce.1.2;have c3:=Nat.le_of_ble_eq_true hce.2
        cases hx with
        | flat hf=>simp [aV] at hf
        | dh hne ht0 h20=>omega
        | slice hl' hn ht hlo' hk' =>
         rename_i b d c';have hk2:=hk' c2;have run:(Instr.sliceAt t (.slice (some ⟨b,d+o,none⟩) len c') lo' hi' none).run T.P w=.ok (.slice (if c'=l then some ⟨b,d+o,none⟩ else (some ⟨b,d+o,none⟩:Option Addr).map (·.add (l * inf.size))) (hv - l) (c' - l)) w:=by simp only [Instr.sliceAt,Instr.slice,Sem.run_bind,cq hut,Result.andThen_ok,nW hl hh (c':=c') (by omega) (by omega) rlo rhi,dN hii,hsz,Sem.run_pure]
         refine .pure h (aT run) ?_;rw [if_neg (by omega),Option.map_some,Addr.add_lit,Nat.add_assoc d o];exact VR.slice hl' (by omega) (fun e=>by omega) (fun e=>by omega) (fun e=>by omega)
      ·cases ho
     | true =>
      rw [hcd] at ho;simp only [cond_true] at ho;simp only [qq7] at hcd;have c1:=Nat.le_of_ble_eq_true hcd.1.1;have c2:=Nat.le_of_ble_eq_true hcd.1.2;have bounds:∀ c',len≤c'→(Instr.sliceBounds true len c' lo' hi' none).run T.P w=.ok (l,hv,c') w:=fun c' hc'=>nW hl hh c1 (by omega) rlo rhi;have run:∀ (a':Option Addr) (c':Nat),len≤c'→(Instr.sliceAt t (.slice a' len c') lo' hi' none).run T.P w=.ok (.slice (if c'=l then a' else a'.map (·.add (l * inf.size))) (hv - l) (c' - l)) w:=by intro a' c' hc';simp only [Instr.sliceAt,Instr.slice,Sem.run_bind,cq hut,Result.andThen_ok,bounds c' hc',dN hii,hsz,Sem.run_pure]
      cases base with
      | none =>
       simp only at ho
       cases hz:(Nat.beq len 0 && Nat.beq cp 0) with
       | false=>rw [hz] at ho;cases ho
       | true =>
        rw [hz] at ho;simp only [cond_true,qq9] at ho;subst ho;simp only [qq7] at hz;have z1:=Nat.eq_of_beq_eq_true hz.1;have z2:=Nat.eq_of_beq_eq_true hz.2;subst z1;subst z2;obtain rfl:=hx.bM rfl;have e1:hv=0:=by omega
        have e2:l=0:=by omega
        subst e1;subst e2;exact .pure h (aT (by rw [run none 0 (qq6 _)];simp)) (.flat rfl)
      | some ad =>
       obtain ⟨k,o,sp⟩:=ad
       cases sp with
       | some s=>cases ho
       | none =>
        simp only [qq9] at ho;subst ho
        have told:∀ c',len≤c'→(cp=len→c'=len) →
          ((bif Nat.beq hv len && Nat.beq cp len then hv - l else bif Nat.beq hv len then hv - l+2 else hv - l+3+(len - hv))=hv - l→c' - l=hv - l)∧(bif Nat.beq hv len && Nat.beq cp len then hv - l else bif Nat.beq hv len then hv - l+2 else hv - l+3+(len - hv)) ≠ hv - l+1 ∧
          (hv - l+3≤(bif Nat.beq hv len && Nat.beq cp len then hv - l else bif Nat.beq hv len then hv - l+2 else hv - l+3+(len - hv))→(bif Nat.beq hv len && Nat.beq cp len then hv - l else bif Nat.beq hv len then hv - l+2 else hv - l+3+(len - hv))≤c' - l+3) ∧
          (hv=len→(bif Nat.beq hv len && Nat.beq cp len then hv - l else bif Nat.beq hv len then hv - l+2 else hv - l+3+(len - hv))≤hv - l+2):=by
         intro c' hc' ht
         cases hb:(Nat.beq hv len && Nat.beq cp len) with
         | true =>simp only [qq7] at hb;have b1:=Nat.eq_of_beq_eq_true hb.1;have b2:=Nat.eq_of_beq_eq_true hb.2;have:=ht b2;simp only [cond_true];exact ⟨fun _=>by omega,by omega,fun _=>by omega,fun _=>by omega⟩
         | false =>
          simp only [cond_false]
          cases hb2:Nat.beq hv len with
          | true =>have b1:=Nat.eq_of_beq_eq_true hb2;simp only [cond_true];exact ⟨fun e=>by omega,by omega,fun e=>by omega,fun _=>by omega⟩
          | false =>
           have b1:hv ≠ len:=fun e=>by subst e;rw [Nat.beq_refl] at hb2;cases hb2
           simp only [cond_false];exact ⟨fun e=>by omega,by omega,fun e=>by omega,fun e=>absurd e b1⟩
        cases hx with
        | flat hf=>simp [aV] at hf
        | dh hne ht0 h20 =>
         rename_i c' a';have e1:hv=0:=by omega
         have e2:l=0:=by omega
         subst e1;subst e2;have tl:=told c' (qq5 _) (fun e=>ht0 e);refine .pure h (aT (run (some a') c' (qq5 _))) ?_;have hsome:∃ a'',(if c'=0 then some a' else (some a').map (·.add (0 * inf.size)))=some a'':=by split <;> exact ⟨_,rfl⟩
         obtain ⟨a'',ha''⟩:=hsome;rw [ha''];exact VR.dh (fun e=>tl.2.1 (by simpa using e)) (fun e=>by have:=tl.1 (by simpa using e);simpa using this) (by have:=tl.2.2.2 rfl;simpa using this)
        | slice hl' hn ht hlo' hk' =>
         rename_i b d c';have tl:=told c' hn ht;refine .pure h (aT (run _ c' hn)) ?_;by_cases hcl:c'=l
         ·rw [if_pos hcl];have e1:hv - l=0:=by omega
          rw [e1] at tl ⊢;exact VR.dh (fun e=>tl.2.1 (by simpa using e)) (fun e=>by have:=tl.1 e;simpa using this) (by have:=tl.2.2.2 (by omega);simpa using this)
         ·rw [if_neg hcl,Option.map_some,Addr.add_lit,Nat.add_assoc d o];exact VR.slice hl' (by omega) tl.1 (fun e=>absurd e tl.2.1) tl.2.2.1
  | _=>cases ho
theorem uX {P:Program} {lo hi lo' hi':Option Value} {l hv len:Nat} (hl:cN 0 lo=some l) (hh:cN len hi=some hv) (c1:l≤hv) (c2:hv≤len)
  (rlo:oH γ lo lo') (rhi:oH γ hi hi'):(Instr.sliceBounds false len len lo' hi' none).run P w=.ok (l,hv,len) w:=by
 have q1:((0:Int)≤(hv:Int)∧(hv:Int)≤(len:Int))=True:=eq_true (by omega);have q2:((0:Int)≤(l:Int)∧(l:Int)≤(hv:Int))=True:=eq_true (by omega)
 cases lo with
 | none =>
  cases lo' with
  | some _=>exact rlo.elim
  | none =>
   simp only [cN,qq9] at hl;subst hl
   cases hi with
   | none =>
    cases hi' with
    | some _=>exact rhi.elim
    | none =>simp only [cN,qq9] at hh;subst hh;simp [Instr.sliceBounds]
   | some a =>
    cases hi' with
    | none=>exact rhi.elim
    | some a' =>obtain ⟨kk,rfl⟩:=ei hh;obtain rfl:=VR.bM rhi rfl;simp only [Instr.sliceBounds,Instr.sliceBound,asIntOf,Sem.run_bind,Sem.run_pure,Result.andThen_ok,Bool.false_eq_true,if_false,if_true,Int.toNat_natCast,q1]
 | some b =>
  cases lo' with
  | none=>exact rlo.elim
  | some b' =>
   obtain ⟨kk,rfl⟩:=ei hl;obtain rfl:=VR.bM rlo rfl
   cases hi with
   | none =>
    cases hi' with
    | some _=>exact rhi.elim
    | none =>simp only [cN,qq9] at hh;subst hh;simp only [Instr.sliceBounds,Instr.sliceBound,asIntOf,Sem.run_bind,Sem.run_pure,Result.andThen_ok,Option.isSome_none,Bool.false_eq_true,if_false,if_true,Int.toNat_natCast,q2]
   | some a =>
    cases hi' with
    | none=>exact rhi.elim
    | some a' =>obtain ⟨kk,rfl⟩:=ei hh;obtain rfl:=VR.bM rhi rfl;simp only [Instr.sliceBounds,Instr.sliceBound,asIntOf,Sem.run_bind,Sem.run_pure,Result.andThen_ok,Option.isSome_none,Bool.false_eq_true,if_false,if_true,Int.toNat_natCast,q1,q2]
theorem vF (hT:cx T) (h:HR γ g w) {t:TypeId} {x x':Value} {lo hi lo' hi':Option Value} {v:Value}
  (ho:pL T t x lo hi=some v) (hx:VR γ x x') (rlo:oH γ lo lo') (rhi:oH γ hi hi') :
  aX T.P γ g w n (do Pure.pure (Next.value (←Instr.sliceAt t x' lo' hi' none))) v .none:=by
 unfold pL at ho;split at ho
 ·rename_i len e _ _ _ _ _ cM hty;obtain ⟨i,hi0,_,_,_,hu,hes⟩:=hT.ty t _ hty
  cases hk:addr? x with
  | none=>rw [hk] at ho;cases ho
  | some ko =>
   obtain ⟨k,o⟩:=ko
   cases hl:cN 0 lo with
   | none=>rw [hk,hl] at ho;cases ho
   | some l =>
    cases hh:cN len hi with
    | none=>rw [hk,hl,hh] at ho;cases ho
    | some hv =>
     rw [hk,hl,hh] at ho;simp only at ho
     cases hcd:(Nat.ble l hv && Nat.ble hv len && Nat.ble 1 cM) with
     | false=>rw [hcd] at ho;cases ho
     | true =>
      rw [hcd] at ho;simp only [cond_true,qq9] at ho;subst ho;simp only [qq7] at hcd;have c1:=Nat.le_of_ble_eq_true hcd.1.1;have c2:=Nat.le_of_ble_eq_true hcd.1.2;obtain ⟨b,d,hl2,rfl⟩:=hx.addr hk;obtain ⟨_,j,hj,he'⟩:=hes;have he':j.size=cM:=he'.symm;have run:(Instr.sliceAt t (.pointer (some ⟨b,d+o,none⟩)) lo' hi' none).run T.P w=.ok (.slice (some (if len=l then ⟨b,d+o,none⟩ else Addr.add ⟨b,d+o,none⟩ (l * cM))) (hv - l) (len - l)) w:=by simp only [Instr.sliceAt,Instr.sureAddr,Sem.run_bind,cq hu,Result.andThen_ok,uX hl hh c1 c2 rlo rhi,dN hj,he',Sem.run_pure]
      refine .pure h (aT run) ?_;by_cases hcl:len=l
      ·have e1:hv=len:=by omega
       subst hcl;subst e1;rw [if_pos rfl,Nat.sub_self];exact VR.dh (by rw [Nat.beq_refl];simp) (fun _=>rfl) (by rw [Nat.beq_refl];simp)
      ·rw [if_neg hcl,Addr.add_lit,Nat.add_assoc d o]
       cases hb:Nat.beq hv len with
       | true =>have:=Nat.eq_of_beq_eq_true hb;simp only [cond_true];exact VR.slice hl2 (by omega) (fun _=>by omega) (fun e=>by omega) (fun e=>by omega)
       | false =>simp only [cond_false];exact VR.slice hl2 (by omega) (fun e=>by omega) (fun e=>by omega) (fun e=>by omega)
 ·cases ho
theorem xT {P:Program} {lo lo':Option Value} {hi mx hi' mx':Value} {l hv mv len c':Nat} (hl:cN 0 lo=some l) (hh:iN hi=some hv) (hm:iN mx=some mv) (c1:l≤hv) (c2:hv≤mv) (hc':mv≤c')
  (rlo:oH γ lo lo') (rhi:VR γ hi hi') (rmx:VR γ mx mx'):(Instr.sliceBounds true len c' lo' (some hi') (some mx')).run P w=.ok (l,hv,mv) w:=by
 have q1:((0:Int)≤(mv:Int)∧(mv:Int)≤(c':Int))=True:=eq_true (by omega);have q3:((0:Int)≤(hv:Int)∧(hv:Int)≤(mv:Int))=True:=eq_true (by omega);have q2:((0:Int)≤(l:Int)∧(l:Int)≤(hv:Int))=True:=eq_true (by omega);obtain ⟨k1,rfl⟩:=ei hh;obtain rfl:=VR.bM rhi rfl;obtain ⟨k2,rfl⟩:=ei hm;obtain rfl:=VR.bM rmx rfl
 cases lo with
 | none =>
  cases lo' with
  | some _=>exact rlo.elim
  | none =>simp only [cN,qq9] at hl;subst hl;simp only [Instr.sliceBounds,Instr.sliceBound,asIntOf,Sem.run_bind,Sem.run_pure,Result.andThen_ok,if_true,Int.toNat_natCast,q1,q3]
 | some b =>
  cases lo' with
  | none=>exact rlo.elim
  | some b' =>obtain ⟨kk,rfl⟩:=ei hl;obtain rfl:=VR.bM rlo rfl;simp only [Instr.sliceBounds,Instr.sliceBound,asIntOf,Sem.run_bind,Sem.run_pure,Result.andThen_ok,Option.isSome_some,if_true,Int.toNat_natCast,q1,q2,q3]
theorem Aj (hT:cx T) (h:HR γ g w) {t:TypeId} {x x':Value} {lo lo':Option Value} {hi mx hi' mx' v:Value}
  (ho:fF T t x lo hi mx=some v) (hx:VR γ x x') (rlo:oH γ lo lo') (rhi:VR γ hi hi') (rmx:VR γ mx mx') :
  aX T.P γ g w n (do Pure.pure (Next.value (←Instr.sliceAt t x' lo' (some hi') (some mx')))) v .none:=by
 unfold fF at ho
 cases he:elem? T t with
 | none=>rw [he] at ho;cases ho
 | some inf =>
  rw [he] at ho;simp only at ho;obtain ⟨el,i,hut,hii,hsz,_,_⟩:=j5 hT he
  cases x with
  | slice base len cp =>
   simp only at ho
   cases hl:cN 0 lo with
   | none=>rw [hl] at ho;cases ho
   | some l =>
    cases hh:iN hi with
    | none=>rw [hl,hh] at ho;cases ho
    | some hv =>
     cases hm:iN mx with
     | none=>rw [hl,hh,hm] at ho;cases ho
     | some m =>
      rw [hl,hh,hm] at ho;simp only at ho
      cases hcd:(Nat.ble l hv && Nat.ble hv m && Nat.ble m len && Nat.ble 1 inf.size) with
      | false=>rw [hcd] at ho;cases ho
      | true =>
       rw [hcd] at ho;simp only [cond_true] at ho;simp only [qq7] at hcd;have c1:=Nat.le_of_ble_eq_true hcd.1.1.1;have c2:=Nat.le_of_ble_eq_true hcd.1.1.2;have c3:=Nat.le_of_ble_eq_true hcd.1.2;have run:∀ (a':Option Addr) (c':Nat),len≤c'→(Instr.sliceAt t (.slice a' len c') lo' (some hi') (some mx')).run T.P w=.ok (.slice (if m=l then a' else a'.map (·.add (l * inf.size))) (hv - l) (m - l)) w:=by intro a' c' hc';simp only [Instr.sliceAt,Instr.slice,Sem.run_bind,cq hut,Result.andThen_ok,xT hl hh hm c1 c2 (Nat.le_trans c3 hc') rlo rhi rmx,dN hii,hsz,Sem.run_pure]
       cases base with
       | none =>
        simp only at ho
        cases hz:(Nat.beq len 0 && Nat.beq cp 0) with
        | false=>rw [hz] at ho;cases ho
        | true =>
         rw [hz] at ho;simp only [cond_true,qq9] at ho;subst ho;simp only [qq7] at hz;have z1:=Nat.eq_of_beq_eq_true hz.1;have z2:=Nat.eq_of_beq_eq_true hz.2;subst z1;subst z2;obtain rfl:=hx.bM rfl;have e0:m=0:=by omega
         have e1:hv=0:=by omega
         have e2:l=0:=by omega
         subst e0;subst e1;subst e2;exact .pure h (aT (by rw [run none 0 (qq6 _)];simp)) (.flat rfl)
       | some ad =>
        obtain ⟨k,o,sp⟩:=ad
        cases sp with
        | some s=>cases ho
        | none =>
         simp only [qq9] at ho;subst ho
         cases hx with
         | flat hf=>simp [aV] at hf
         | dh hne ht0 h20 =>
          rename_i c' a';have e0:m=0:=by omega
          have e1:hv=0:=by omega
          have e2:l=0:=by omega
          subst e0;subst e1;subst e2;refine .pure h (aT (run (some a') c' (qq5 _))) ?_;rw [if_pos rfl];exact VR.dh (by simp) (fun _=>rfl) (by simp)
         | slice hl' hn ht hlo' hk' =>
          rename_i b d c';refine .pure h (aT (run _ c' hn)) ?_;by_cases hcl:m=l
          ·obtain rfl:hv=m:=by omega
           subst hcl;rw [if_pos rfl,Nat.sub_self];exact VR.dh (by simp) (fun _=>rfl) (by simp)
          ·rw [if_neg hcl,Option.map_some,Addr.add_lit,Nat.add_assoc d o]
           cases hb:Nat.beq hv m with
           | true =>have:=Nat.eq_of_beq_eq_true hb;simp only [cond_true];exact VR.slice hl' (by omega) (fun _=>by omega) (fun e=>by omega) (fun e=>by omega)
           | false =>simp only [cond_false];exact VR.slice hl' (by omega) (fun e=>by omega) (fun e=>by omega) (fun e=>by omega)
  | _=>cases ho
theorem xU (hT:cx T) (h:HR γ g w) {t:TypeId} {x x' v:Value} {e:bS} (hn:e.news=true→γ.loc n=none) (ho:sW T n t x g=some (v,e)) (hx:VR γ x x') :
  aX T.P γ g w n (do Pure.pure (Next.value (←Instr.range t x'))) v e:=by
 unfold sW at ho;split at ho
 ·rename_i kt et _ _ _ _ _ _ m hty
  cases hm:map? (g m) with
  | none=>rw [hm] at ho;cases ho
  | some p =>
   obtain ⟨es,clock⟩:=p;rw [hm] at ho;simp only [qq9,Prod.mk.injEq] at ho;obtain ⟨rfl,rfl⟩:=ho;obtain ⟨i,_,_,_,_,hu,_⟩:=hT.ty t _ hty
   have hgr:g m=some (.map es clock):=by
    unfold map? at hm;split at hm
    ·simp at hm;obtain ⟨rfl,rfl⟩:=hm;assumption
    ·cases hm
   cases hx with
   | flat hf=>simp [aV] at hf
   | map hl =>
    rename_i b;obtain ⟨_,_,es',hw,_⟩:=h.gE m b 0 _ hgr hl;have hle:=Gm.mR (b:=w.heap.size) (c:=0) (hn rfl)
    have hrun:(Instr.range t (.map (some b))).run T.P w=.ok (.pointer (some ⟨w.heap.size,0,none⟩)) (w.alloc (.mapIter (some b) clock #[] clock)):=by
     have hgo:(getObj b).run T.P w=.ok (.map es' clock) w:=by simp [getObj,Sem.run,hw]
     simp [Instr.range,cq hu,hgo]
    refine ⟨_,_,γ.add n w.heap.size 0,.inl (aT hrun),hle,fun k hk=>Gm.bN _ _ _ (fun e=>Bool.noConfusion (hk e:true=false)),?_,VR.ptr (o:=0) (Gm.cw _ _ _ _),jZ.new (obj:=_) rfl rfl rfl rfl⟩;refine HR.new (w:=w) h (hn rfl) (obj:=_) rfl ⟨rfl,h.base,b,hle.loc _ _ hl,?_⟩;show (w.heap.push _)[w.heap.size]?=_;simp
 ·rename_i s hty;simp only [qq9,Prod.mk.injEq] at ho;obtain ⟨rfl,rfl⟩:=ho;obtain ⟨i,_,_,_,_,hu,_⟩:=hT.ty t _ hty;obtain rfl:=hx.bM rfl;have hle:=Gm.mR (b:=w.heap.size) (c:=0) (hn rfl);have hrun:(Instr.range t (.string s)).run T.P w=.ok (.pointer (some ⟨w.heap.size,0,none⟩)) (w.alloc (.stringIter s 0)):=by simp [Instr.range,cq hu]
  refine ⟨_,_,γ.add n w.heap.size 0,.inl (aT hrun),hle,fun k hk=>Gm.bN _ _ _ (fun e=>Bool.noConfusion (hk e:true=false)),?_,VR.ptr (o:=0) (Gm.cw _ _ _ _),jZ.new (obj:=_) rfl rfl rfl rfl⟩;refine HR.new (w:=w) h (hn rfl) (obj:=_) rfl ⟨rfl,h.base,?_⟩;show (w.heap.push _)[w.heap.size]?=_;simp
 ·cases ho
theorem Ak {k b:Nat} {a0 a:bu} {obj0 obj:Obj} (h:HR γ g w) (h0:g k=some a0) (ho:a0.own=true) (hl:γ.loc k=some (b,0)) (hw:w.heap[b]?=some obj0)
  (hown:a.own=true) (ha:BO γ (w.heap.setIfInBounds b obj) k b 0 a) :
  HR γ (iK g k a) {w with heap:=w.heap.setIfInBounds b obj}∧jZ γ g w γ (iK g k a) {w with heap:=w.heap.setIfInBounds b obj}∧(w.heap.setIfInBounds b obj)[b]?=some obj:=by
 have hlt:b < w.heap.size:=(Array.getElem?_eq_some_iff.1 hw).1;have hsz:(w.heap.setIfInBounds b obj).size=w.heap.size:=by simp
 have hne:∀ i,i ≠ b→(w.heap.setIfInBounds b obj)[i]?=w.heap[i]?:=fun i hi=>Array.getElem?_setIfInBounds_ne (Ne.symm hi);exact ⟨h.put h0 ho hl hsz hne (.inl hown) ha,jZ.put h0 ho hl rfl rfl rfl hsz hne,by simp [hlt]⟩
theorem xV (h:HR γ g w) {x x' v:Value} {e:bS} {ty:TypeId} (ho:kz x g=some (v,e)) (hx:VR γ x x') :
  aX T.P γ g w n (do Pure.pure (Next.value (←Instr.next x' true ty))) v e:=by
 unfold kz at ho;split at ho
 ·rename_i r hk
  cases hg:g r with
  | none=>rw [hg] at ho;cases ho
  | some gE =>
   rw [hg] at ho
   cases gE with
   | dU s pos =>
    simp only at ho;obtain ⟨b,d,hl,rfl⟩:=hx.addr hk;obtain ⟨rfl,hB,hw⟩:=h.gE r b d _ hg hl;have hgo:(getObj b).run T.P w=.ok (.stringIter s pos) w:=by simp [getObj,Sem.run,hw]
    cases hc:Nat.blt pos s.data.toList.length with
    | true =>
     rw [hc] at ho;simp only [cond_true,qq9,Prod.mk.injEq] at ho;obtain ⟨rfl,rfl⟩:=ho;have hlt:pos < s.size:=Nat.le_of_ble_eq_true hc;have hset:(setObj b (.stringIter s (pos+(Utf8.decode s pos).2))).run T.P w=.ok () {w with heap:=w.heap.setIfInBounds b (.stringIter s (pos+(Utf8.decode s pos).2))}:=by simp [setObj,Sem.run,hw]
     obtain ⟨q1,q2,q3⟩:=Ak (a:=.dU s (pos+(Utf8.decode s pos).2)) (obj:=.stringIter s (pos+(Utf8.decode s pos).2)) h hg rfl hl hw rfl ⟨rfl,hB,by simp [(Array.getElem?_eq_some_iff.1 hw).1]⟩;refine ⟨.tuple #[.bool true,.int .i64 pos,.int .i32 (Utf8.decode s pos).1],_,γ,.inl (aT ?_),Gm.Le.refl γ,fun _ _=>rfl,q1,?_,q2⟩
     ·simp [Instr.next,hgo,hlt,hset,goInt]
     ·exact VR.cF (l:=[.bool true,.int .i64 pos,.int .i32 (Utf8.decode s pos).1]) (cv.of_flat rfl)
    | false =>
     rw [hc] at ho;simp only [cond_false,qq9,Prod.mk.injEq] at ho;obtain ⟨rfl,rfl⟩:=ho;have hlt:¬ (pos < s.size):=fun e=>by have:Nat.blt pos s.data.toList.length=true:=Nat.ble_eq_true_of_le e;rw [this] at hc;cases hc
     refine .pure h (aT (v:=.tuple #[.bool false]) ?_) (VR.cF (l:=[.bool false]) (cv.of_flat rfl));simp [Instr.next,hgo,hlt]
   | _=>cases ho
 ·cases ho
end
section
variable {T : bJ} {γ : Gm} {g : aH} {w : World} {n : Nat}
theorem bW (P:Program) {α β:Type} (x:Sem α) (f:α→Sem β):aG P (x >>= f)=(aG P x).bind fun a=>aG P (f a):=by
 show aG P (x.bind f)=_
 induction x with
 | pure a=>rfl
 | program k ih=>simp only [Sem.bind,aG];exact ih P
 | mark m k ih=>simp only [Sem.bind,aG];exact ih
 | _=>rfl
theorem eO (P:Program) {α:Type} (a:α):aG P (Pure.pure a)=some a:=rfl
def SameKeys (l l':List MapEntry):Prop:=l.map (·.key)=l'.map (·.key)
theorem SameKeys.BX {e e':MapEntry} {l l':List MapEntry} (h:SameKeys (e :: l) (e' :: l')):e.key=e'.key∧SameKeys l l':=by simpa [SameKeys] using h
theorem rN (kind:TypeDesc) (k:Value):∀ (l l':List MapEntry) (i:Nat),SameKeys l l' →
  match Instr.findNow kind k l i with
  | none=>Instr.findNow kind k l' i=none
  | some none=>Instr.findNow kind k l' i=some none
  | some (some (j,_))=>∃ e,i≤j∧l'[j - i]?=some e∧Instr.findNow kind k l' i=some (some (j,e.val))
 | [],[],_,_=>rfl
 | [],_ :: _,_,h=>by simp [SameKeys] at h
 | _ :: _,[],_,h=>by simp [SameKeys] at h
 | e :: l,e' :: l',i,h=>by
  obtain ⟨h1,h2⟩:=h.BX;simp only [Instr.findNow,←h1]
  cases hs:Instr.sameNow kind k e.key with
  | none=>rfl
  | some b =>
   cases b with
   | true=>exact ⟨e',qq6 _,by simp,rfl⟩
   | false =>
    have ih:=rN kind k l l' (i+1) h2;simp only
    cases hf:Instr.findNow kind k l (i+1) with
    | none=>rw [hf] at ih;exact ih
    | some r =>
     rw [hf] at ih
     cases r with
     | none=>exact ih
     | some p =>obtain ⟨j,v⟩:=p;obtain ⟨x,a,b,c⟩:=ih;refine ⟨x,by omega,?_,c⟩;rw [show j - i=(j - (i+1))+1 from by omega];simpa using b
theorem nX (P:Program) (kt:TypeId) (k:Value):∀ (l l':List MapEntry) (i:Nat) (r:Option (Nat × Value)),SameKeys l l'→aG P (Instr.findAsking kt k l i)=some r →
  match r with
  | none=>aG P (Instr.findAsking kt k l' i)=some none
  | some (j,_)=>∃ e,i≤j∧l'[j - i]?=some e∧aG P (Instr.findAsking kt k l' i)=some (some (j,e.val))
 | [],[],_,r,_,h=>by simp only [Instr.findAsking,eO,qq9] at h;subst h;rfl
 | [],_ :: _,_,_,h,_=>by simp [SameKeys] at h
 | _ :: _,[],_,_,h,_=>by simp [SameKeys] at h
 | e :: l,e' :: l',i,r,hk,h=>by
  obtain ⟨h1,h2⟩:=hk.BX;simp only [Instr.findAsking,bW,h1] at h ⊢
  cases hq:aG P (Op.equal kt k e'.key) with
  | none=>rw [hq] at h;cases h
  | some b =>
   rw [hq] at h;simp only [Option.bind_some] at h ⊢
   cases b with
   | true =>simp only [if_true,eO,qq9] at h ⊢;subst h;exact ⟨e',qq6 _,by simp,rfl⟩
   | false =>
    simp only [Bool.false_eq_true,if_false] at h ⊢;have ih:=nX P kt k l l' (i+1) r h2 h
    cases r with
    | none=>exact ih
    | some p =>obtain ⟨j,v⟩:=p;obtain ⟨x,a,b,c⟩:=ih;refine ⟨x,by omega,?_,c⟩;rw [show j - i=(j - (i+1))+1 from by omega];simpa using b
theorem Al {P:Program} {kt:TypeId} {k:Value} {l l':List MapEntry} {r:Option (Nat × Value)} (hk:SameKeys l l') (h:aG P (Instr.findKey kt k l)=some r) :
  match r with
  | none=>aG P (Instr.findKey kt k l')=some none
  | some (j,_)=>∃ e,l'[j]?=some e∧aG P (Instr.findKey kt k l')=some (some (j,e.val)):=by
 unfold Instr.findKey at h ⊢;simp only [bW] at h ⊢
 cases hu:aG P (underlying kt) with
 | none=>rw [hu] at h;cases h
 | some d =>
  rw [hu] at h;simp only [Option.bind_some] at h ⊢;have hs:=rN d k l l' 0 hk
  cases hf:Instr.findNow d k l 0 with
  | none =>
   rw [hf] at h hs;simp only at h hs;simp only [hs];have:=nX P kt k l l' 0 r hk h
   cases r with
   | none=>exact this
   | some p=>obtain ⟨j,v⟩:=p;obtain ⟨e,_,b,c⟩:=this;exact ⟨e,by simpa using b,c⟩
  | some q =>
   rw [hf] at h hs;simp only [eO,qq9] at h;subst h
   cases q with
   | none=>simp only at hs ⊢;rw [hs];rfl
   | some p =>obtain ⟨j,v⟩:=p;obtain ⟨e,_,b,c⟩:=hs;exact ⟨e,by simpa using b,by rw [c];rfl⟩
theorem jI.keys {es:List MapEntry} {es':Array MapEntry} (h:jI γ es es') (hf:es.all (fun e=>flat e.key)=true):SameKeys (es.map fun e=>{e with val:=.nilIface}) es'.toList:=by
 unfold SameKeys;rw [List.map_map];apply List.ext_getElem?;intro i;rw [List.getElem?_map,List.getElem?_map]
 cases he:es[i]? with
 | none =>
  have:es'.toList[i]?=none:=by rw [List.getElem?_eq_none_iff] at he ⊢;have:=h.1;simp;omega
  rw [this];rfl
 | some e =>
  have hi:i < es.length:=(List.getElem?_eq_some_iff.1 he).1;have hi':i < es'.size:=by have:=h.1;omega
  have he':es'.toList[i]?=some es'[i]:=by simp [hi']
  rw [he'];obtain ⟨h1,_,_⟩:=h.2 i e es'[i] he (by simp);have:=h1.cT (List.all_eq_true.1 hf e (List.mem_of_getElem? he));simp [this]
theorem s8 {P:Program} {emp:Bool} {kt:TypeId} {k k':Value} {es:List MapEntry} {es':Array MapEntry} {r:Option Nat} (h:nT P emp kt k es=some r) (he:jI γ es es') (hk:VR γ k k') :
  k'=k∧(∀ w:World,(Instr.checkKey emp 10000 kt k).run P w=.ok () w) ∧
  match r with
  | none=>∀ w:World,(Instr.findKey kt k es'.toList).run P w=.ok none w
  | some i=>∃ e e',es[i]?=some e∧es'[i]?=some e'∧VR γ e.val e'.val∧e'.key=e.key∧flat e.key=true∧e.born=e'.born∧∀ w:World,(Instr.findKey kt k es'.toList).run P w=.ok (some (i,e'.val)) w:=by
 unfold nT at h
 cases hc:(flat k && es.all fun e=>flat e.key) with
 | false=>rw [hc] at h;cases h
 | true =>
  rw [hc] at h;simp only [cond_true] at h;simp only [qq7] at hc;have hke:=hk.cT hc.1
  cases hck:aG P (Instr.checkKey emp 10000 kt k) with
  | none=>rw [hck] at h;cases h
  | some u =>
   rw [hck] at h;simp only [Option.map_eq_some_iff] at h;obtain ⟨q,hq,rfl⟩:=h;refine ⟨hke,fun w=>fY P hck w,?_⟩;have hs:=Al (he.keys hc.2) hq
   cases q with
   | none=>exact fun w=>fY P hs w
   | some p =>
    obtain ⟨j,v⟩:=p;obtain ⟨e',a,b⟩:=hs;have hj':es'[j]?=some e':=by simpa using a
    have hjl:j < es.length:=by have:=(Array.getElem?_eq_some_iff.1 hj').1;have:=he.1;omega
    have hj:es[j]?=some es[j]:=List.getElem?_eq_getElem hjl;obtain ⟨x,y,z⟩:=he.2 j _ _ hj hj';have hfk:=List.all_eq_true.1 hc.2 _ (List.getElem_mem hjl);exact ⟨es[j],e',hj,hj',y,x.cT hfk,hfk,z,fun w=>fY P b w⟩
theorem jI.empty {es:List MapEntry} {es':Array MapEntry} (h:jI γ es es'):es'.isEmpty=es.isEmpty:=by
 have:=h.1
 cases hx:es'.isEmpty with
 | true =>
  have hz:es'=#[]:=by simpa using hx
  subst hz
  cases es with
  | nil=>rfl
  | cons a l=>simp at this
 | false =>
  cases es with
  | nil =>have hz:es'=#[]:=Array.eq_empty_of_size_eq_zero this.symm;subst hz;simp at hx
  | cons a l=>rfl
theorem map_some {a:Option bu} {es:List MapEntry} {c:Nat} (h:map? a=some (es,c)):a=some (.map es c):=by
 unfold map? at h;split at h
 ·simp at h;obtain ⟨rfl,rfl⟩:=h;rfl
 ·cases h
theorem qL (hT:cx T) {t kt:TypeId} {z:Option Value} (h:kr T t=some (kt,z)) :
  ∃ et,T.P.underlying t=some (.map kt et)∧∀ v,z=some v→∃ i,T.P.info? et=some i∧i.zero=some v:=by
 unfold kr at h;split at h
 ·rename_i k e _ _ _ _ _ _ hty;simp only [qq9,Prod.mk.injEq] at h;obtain ⟨rfl,rfl⟩:=h;obtain ⟨i,_,_,_,_,hu,_⟩:=hT.ty t _ hty;refine ⟨e,hu,fun v hv=>?_⟩
  cases he:T.ty.get e with
  | none=>rw [he] at hv;cases hv
  | some r =>rw [he] at hv;obtain ⟨i',h1,_,_,h4,_⟩:=hT.ty e r he;exact ⟨i',h1,h4.trans hv⟩
 ·cases h
theorem vG {v:Value} {r:Nat} (h:h9 v=some r):v=.map (some r):=by
 unfold h9 at h;split at h
 ·simp at h;subst h;rfl
 ·cases h
theorem bp (h:HR γ g w) {m m':Value} {r:Nat} {es:List MapEntry} {c:Nat} (hb:h9 m=some r) (hm:map? (g r)=some (es,c)) (hv:VR γ m m') :
  ∃ b es',m'=.map (some b)∧γ.loc r=some (b,0)∧γ.B≤b∧w.heap[b]?=some (.map es' c)∧jI γ es es'∧(∀ P:Program,(getObj b).run P w=.ok (.map es' c) w):=by
 obtain rfl:=vG hb
 cases hv with
 | flat hf=>simp [aV] at hf
 | map hl =>rename_i b;obtain ⟨_,hB,es',hw,he⟩:=h.gE r b 0 _ (map_some hm) hl;exact ⟨b,es',rfl,hl,hB,hw,he,fun P=>by simp [getObj,Sem.run,hw]⟩
theorem Am (hT:cx T) (h:HR γ g w) {t:TypeId} {m m' k k' v:Value} {ok:Bool} (ho:jN T t m k ok g=some v) (hm:VR γ m m') (hk:VR γ k k') :
  aX T.P γ g w n (do Pure.pure (Next.value (←Instr.lookup t m' k' ok))) v .none:=by
 unfold jN at ho
 cases hmt:kr T t with
 | none=>rw [hmt] at ho;cases ho
 | some p =>
  obtain ⟨kt,z⟩:=p
  cases hb:h9 m with
  | none=>rw [hmt,hb] at ho;cases ho
  | some r =>
   cases hmp:map? (g r) with
   | none=>rw [hmt,hb] at ho;simp only [Option.bind_some,hmp] at ho;cases ho
   | some q =>
    obtain ⟨es,c⟩:=q;rw [hmt,hb] at ho;simp only [Option.bind_some,hmp] at ho;obtain ⟨b,es',rfl,hl,hB,hw,he,hgo⟩:=bp h hb hmp hm;obtain ⟨et,hu,hz⟩:=qL hT hmt;unfold Aa at ho
    cases hf:nT T.P es.isEmpty kt k es with
    | none=>rw [hf] at ho;simp at ho
    | some r' =>
     obtain ⟨rfl,hck,hfk⟩:=s8 hf he hk;rw [←he.empty] at hck
     cases r' with
     | some i =>
      obtain ⟨e,e',he1,he2,hvv,_,_,_,hrun⟩:=hfk
      cases z with
      | none=>rw [hf] at ho;simp at ho
      | some zv =>
       rw [hf] at ho;simp only [he1,Option.map_some,qq9] at ho;subst ho;refine .pure h (aT (v:=bif ok then .tuple #[e'.val,.bool true] else e'.val) ?_) ?_
       ·cases ok <;> simp [Instr.lookup,cq hu,hgo,hck,hrun]
       ·cases ok with
        | false=>exact hvv
        | true=>exact VR.cF (.cons hvv (.cons (.flat rfl) (.nil γ)))
     | none =>
      cases z with
      | none=>rw [hf] at ho;simp at ho
      | some zv =>
       rw [hf] at ho;simp only at ho;obtain ⟨ie,hi1,hi2⟩:=hz zv rfl
       cases hfl:flat zv with
       | false=>rw [hfl] at ho;cases ho
       | true =>
        rw [hfl] at ho;simp only [cond_true,qq9] at ho;subst ho;refine .pure h (aT (v:=bif ok then .tuple #[zv,.bool false] else zv) ?_) ?_
        ·cases ok <;> simp [Instr.lookup,cq hu,hgo,hck,hfk,jx hi1 hi2]
        ·cases ok with
         | false=>exact VR.of_flat hfl
         | true=>exact VR.cF (.cons (VR.of_flat hfl) (.cons (.flat rfl) (.nil γ)))
theorem jI.modify {es:List MapEntry} {es':Array MapEntry} (h:jI γ es es') (i:Nat) (f f':MapEntry→MapEntry)
  (hf:∀ e e',es[i]?=some e→es'[i]?=some e'→VR γ (f e).key (f' e').key∧VR γ (f e).val (f' e').val∧(f e).born=(f' e').born):jI γ (es.modify i f) (es'.modify i f'):=by
 refine ⟨by simp [h.1],fun j a b ha hb=>?_⟩;rw [List.getElem?_modify] at ha;rw [Array.getElem?_modify] at hb;by_cases hij:i=j
 ·subst hij;simp only [if_true] at ha hb;obtain ⟨e,h1,rfl⟩:=Option.map_eq_some_iff.1 ha;obtain ⟨e',h2,rfl⟩:=Option.map_eq_some_iff.1 hb;exact hf e e' h1 h2
 ·simp only [hij,if_false] at ha hb;have ha':es[j]?=some a:=by cases hx:es[j]? <;> simp_all
  exact h.2 j a b ha' hb
theorem jI.push {es:List MapEntry} {es':Array MapEntry} (h:jI γ es es') {e e':MapEntry} (he:VR γ e.key e'.key∧VR γ e.val e'.val∧e.born=e'.born):jI γ (es++[e]) (es'.push e'):=by
 refine ⟨by simp [h.1],fun j a b ha hb=>?_⟩;by_cases hj:j < es.length
 ·rw [List.getElem?_append_left hj] at ha;rw [Array.getElem?_push,if_neg (by have:=h.1;omega)] at hb;exact h.2 j a b ha hb
 ·rw [List.getElem?_append_right (by omega)] at ha;have hj2:j - es.length=0:=by have:=(List.getElem?_eq_some_iff.1 ha).1;simp at this;omega
  rw [hj2] at ha;simp at ha;subst ha;rw [Array.getElem?_push,if_pos (by have:=h.1;omega)] at hb;cases hb;exact he
theorem pQ (h:HR γ g w) {r b:Nat} {es es2:List MapEntry} {c c2:Nat} {es' es2':Array MapEntry} (hm:map? (g r)=some (es,c)) (hl:γ.loc r=some (b,0)) (hB:γ.B≤b)
  (hw:w.heap[b]?=some (.map es' c)) (he:jI γ es2 es2') :
  HR γ (iK g r (.map es2 c2)) {w with heap:=w.heap.setIfInBounds b (.map es2' c2)}∧jZ γ g w γ (iK g r (.map es2 c2)) {w with heap:=w.heap.setIfInBounds b (.map es2' c2)} ∧
   (∀ P:Program,(setObj b (.map es2' c2)).run P w=.ok () {w with heap:=w.heap.setIfInBounds b (.map es2' c2)}):=by
 have hlt:b < w.heap.size:=(Array.getElem?_eq_some_iff.1 hw).1;obtain ⟨q1,q2,_⟩:=Ak (a:=.map es2 c2) (obj:=.map es2' c2) h (map_some hm) rfl hl hw rfl ⟨rfl,hB,es2',by simp [hlt],he⟩;exact ⟨q1,q2,fun P=>by simp [setObj,Sem.run,hw]⟩
theorem vH (hT:cx T) (h:HR γ g w) {t:TypeId} {m m' k k' v:Value} {e:bS} (ho:fc T t m k g=some (v,e)) (hm:VR γ m m') (hk:VR γ k k') :
  aX T.P γ g w n (do Pure.pure (Next.value (←Instr.mapEntry t m' k'))) v e:=by
 unfold fc at ho
 cases hmt:kr T t with
 | none=>rw [hmt] at ho;cases ho
 | some p =>
  obtain ⟨kt,z⟩:=p
  cases hb:h9 m with
  | none=>rw [hmt,hb] at ho;cases ho
  | some r =>
   cases hmp:map? (g r) with
   | none=>rw [hmt,hb] at ho;simp only [hmp] at ho;cases ho
   | some q =>
    obtain ⟨es,c⟩:=q;rw [hmt,hb] at ho;simp only [hmp] at ho;obtain ⟨b,es',rfl,hl,hB,hw,he,hgo⟩:=bp h hb hmp hm;obtain ⟨et,hu,hz⟩:=qL hT hmt;unfold l9 at ho
    cases hf:nT T.P false kt k es with
    | none=>rw [hf] at ho;simp at ho
    | some r' =>
     obtain ⟨rfl,hck,hfk⟩:=s8 hf he hk
     have hflk:flat k'=true:=by
      unfold nT at hf
      cases hc:(flat k' && es.all fun e=>flat e.key) with
      | false=>rw [hc] at hf;cases hf
      | true=>simp only [qq7] at hc;exact hc.1
     cases r' with
     | some i =>
      obtain ⟨x,x',he1,he2,hvv,hkk,hkf,hborn,hrun⟩:=hfk;rw [hf] at ho;simp only [he1] at ho
      cases hsb:Instr.sameBits 10000 x.key k' with
      | false=>rw [hsb] at ho;cases ho
      | true =>
       rw [hsb] at ho;simp only [cond_true,qq9,Prod.mk.injEq] at ho;obtain ⟨rfl,rfl⟩:=ho
       have hmod:jI γ (es.modify i fun e=>{e with key:=k'}) (es'.modify i fun e=>{e with key:=k'}) :=
        he.modify i _ _ fun a a' h1 h2=>by obtain ⟨_,y,zz⟩:=he.2 i a a' h1 h2;exact ⟨VR.of_flat hflk,y,zz⟩
       obtain ⟨q1,q2,q3⟩:=pQ (c2:=c) h hmp hl hB hw hmod;refine ⟨.tuple #[x'.val,.int .i64 x'.born],_,γ,.inl (aT ?_),Gm.Le.refl γ,fun _ _=>rfl,q1,?_,q2⟩
       ·have hstay:(Instr.keyThatStays x'.key k').run T.P w=.ok k' w:=by simp [Instr.keyThatStays,hkk,hsb]
        simp [Instr.mapEntry,cq hu,hgo,hck,hrun,he2,hstay,q3,goInt]
       ·rw [←hborn];exact VR.cF (.cons hvv (.cons (.flat rfl) (.nil γ)))
     | none =>
      cases z with
      | none=>rw [hf] at ho;simp at ho
      | some zv =>
       rw [hf] at ho;simp only at ho;obtain ⟨ie,hi1,hi2⟩:=hz zv rfl
       cases hfl:flat zv with
       | false=>rw [hfl] at ho;cases ho
       | true =>rw [hfl] at ho;simp only [cond_true,qq9,Prod.mk.injEq] at ho;obtain ⟨rfl,rfl⟩:=ho;have hpush:jI γ (es++[{key:=k',val:=zv,born:=c}]) (es'.push {key:=k',val:=zv,born:=c}):=he.push ⟨VR.of_flat hflk,VR.of_flat hfl,rfl⟩;obtain ⟨q1,q2,q3⟩:=pQ (c2:=c+1) h hmp hl hB hw hpush;refine ⟨.tuple #[zv,.int .i64 c],_,γ,.inl (aT ?_),Gm.Le.refl γ,fun _ _=>rfl,q1,VR.cF (.cons (VR.of_flat hfl) (.cons (.flat rfl) (.nil γ))),q2⟩;simp [Instr.mapEntry,cq hu,hgo,hck,hfk,jx hi1 hi2,q3,goInt]
end
section
variable {T : bJ} {γ : Gm} {g : aH} {w : World} {n : Nat}
def fW (γ:Gm):List MapEntry→List MapEntry→Prop
 | [],[]=>True
 | e :: l,e' :: l'=>(VR γ e.key e'.key∧VR γ e.val e'.val∧e.born=e'.born)∧fW γ l l'
 | _,_=>False
theorem fW.Iu {γ:Gm}:∀ {l l':List MapEntry},l.length=l'.length →
  (∀ (i:Nat) (e e':MapEntry),l[i]?=some e→l'[i]?=some e'→VR γ e.key e'.key∧VR γ e.val e'.val∧e.born=e'.born)→fW γ l l'
 | [],[],_,_=>trivial
 | [],_ :: _,h,_=>by simp at h
 | _ :: _,[],h,_=>by simp at h
 | e :: l,e' :: l',h,hp=>⟨hp 0 e e' rfl rfl,fW.Iu (by simpa using h) fun i a a' x y=>hp (i+1) a a' (by simpa using x) (by simpa using y)⟩
theorem jI.list {es:List MapEntry} {es':Array MapEntry} (h:jI γ es es'):fW γ es es'.toList :=
 fW.Iu (by simpa using h.1) fun i e e' a b=>h.2 i e e' a (by simpa using b)
theorem fW.len {γ:Gm}:∀ {l l':List MapEntry},fW γ l l'→l.length=l'.length
 | [],[],_=>rfl
 | [],_ :: _,h=>h.elim
 | _ :: _,[],h=>h.elim
 | _ :: _,_ :: _,h=>by simp [fW.len h.2]
theorem fW.get {γ:Gm}:∀ {l l':List MapEntry} {i:Nat} {e':MapEntry},fW γ l l'→l'[i]?=some e'→∃ e,l[i]?=some e∧VR γ e.key e'.key∧VR γ e.val e'.val∧e.born=e'.born
 | [],[],i,e',_,h=>by simp at h
 | [],_ :: _,_,_,h,_=>h.elim
 | _ :: _,[],_,_,h,_=>h.elim
 | e :: l,x :: l',0,e',h,hx=>by simp at hx;subst hx;exact ⟨e,rfl,h.1⟩
 | e :: l,x :: l',i+1,e',h,hx=>by obtain ⟨y,a,b⟩:=fW.get (i:=i) h.2 (by simpa using hx);exact ⟨y,by simpa using a,b⟩
theorem fW.filter {γ:Gm} (p:Nat→Bool):∀ {l l':List MapEntry},fW γ l l'→fW γ (l.filter fun e=>p e.born) (l'.filter fun e=>p e.born)
 | [],[],_=>trivial
 | [],_ :: _,h=>h.elim
 | _ :: _,[],h=>h.elim
 | e :: l,e' :: l',h=>by
  have ih:=fW.filter p h.2;have hb:=h.1.2.2;by_cases hp:p e.born=true
  ·have hp':p e'.born=true:=by rw [←hb];exact hp
   rw [List.filter_cons_of_pos (by simpa using hp),List.filter_cons_of_pos (by simpa using hp')];exact ⟨h.1,ih⟩
  ·have hp':¬ p e'.born=true:=by rw [←hb];exact hp
   rw [List.filter_cons_of_neg (by simpa using hp),List.filter_cons_of_neg (by simpa using hp')];exact ih
theorem fW.append {γ:Gm}:∀ {a a' b b':List MapEntry},fW γ a a'→fW γ b b'→fW γ (a++b) (a'++b')
 | [],[],_,_,_,h=>h
 | [],_ :: _,_,_,h,_=>h.elim
 | _ :: _,[],_,_,h,_=>h.elim
 | _ :: _,_ :: _,_,_,h,k=>⟨h.1,fW.append h.2 k⟩
theorem fW.findIdx {γ:Gm} (p:Nat→Bool):∀ {l l':List MapEntry},fW γ l l'→(l.findIdx? fun e=>p e.born)=l'.findIdx? fun e=>p e.born
 | [],[],_=>rfl
 | [],_ :: _,h=>h.elim
 | _ :: _,[],h=>h.elim
 | e :: l,e' :: l',h=>by rw [List.findIdx?_cons,List.findIdx?_cons,h.1.2.2,fW.findIdx p h.2]
theorem fW.find {γ:Gm} (p:Nat→Bool):∀ {l l':List MapEntry},fW γ l l' →
  match l.find? (fun e=>p e.born) with
  | none=>l'.find? (fun e=>p e.born)=none
  | some e=>∃ e',l'.find? (fun e=>p e.born)=some e'∧VR γ e.key e'.key∧VR γ e.val e'.val∧e.born=e'.born
 | [],[],_=>rfl
 | [],_ :: _,h=>h.elim
 | _ :: _,[],h=>h.elim
 | e :: l,e' :: l',h=>by
  have hb:=h.1.2.2
  cases hp:p e.born with
  | true =>rw [List.find?_cons_of_pos (by simpa using hp),List.find?_cons_of_pos (by rw [←hb];simpa using hp)];exact ⟨e',rfl,h.1⟩
  | false =>rw [List.find?_cons_of_neg (by simp [hp]),List.find?_cons_of_neg (by rw [←hb];simp [hp])];exact fW.find p h.2
theorem s9 (h:HR γ g w) {t:TypeId} {m m' s s' x x':Value} {e:bS} (ho:dB m s x g=some e) (hm:VR γ m m') (hs:VR γ s s') (hx:VR γ x x') :
  aX T.P γ g w n (do Instr.entryStore t m' s' x';Pure.pure Next.skip) undef e:=by
 unfold dB at ho
 cases hb:h9 m with
 | none=>rw [hb] at ho;simp at ho
 | some r =>
  cases hi:intOf? s with
  | none=>rw [hb,hi] at ho;simp at ho
  | some born =>
   cases hmp:map? (g r) with
   | none=>rw [hb,hi] at ho;simp only [hmp] at ho;cases ho
   | some q =>
    obtain ⟨es,c⟩:=q;rw [hb,hi] at ho;simp only [hmp] at ho;obtain ⟨b,es',rfl,hl,hB,hw,he,hgo⟩:=bp h hb hmp hm;obtain ⟨kk,rfl⟩:=vB hi;obtain rfl:=hs.bM rfl
    cases hf:es.findIdx? (fun e=>(e.born:Int) == born) with
    | none=>rw [hf] at ho;cases ho
    | some i =>
     rw [hf] at ho;simp only [qq9] at ho;subst ho;have hf':es'.findIdx? (fun e=>(e.born:Int) == born)=some i:=by have:=fW.findIdx (fun k=>(k:Int) == born) he.list;rw [hf] at this;obtain ⟨l⟩:=es';rw [List.findIdx?_toArray];exact this.symm
     have hmod:jI γ (es.modify i fun e=>{e with val:=x}) (es'.modify i fun e=>{e with val:=x'}) :=
      he.modify i _ _ fun a a' h1 h2=>by obtain ⟨y,_,zz⟩:=he.2 i a a' h1 h2;exact ⟨y,hx,zz⟩
     obtain ⟨q1,q2,q3⟩:=pQ (c2:=c) h hmp hl hB hw hmod;refine ⟨undef,_,γ,.inr ⟨rH ?_,rfl⟩,Gm.Le.refl γ,fun _ _=>rfl,q1,VR.undef γ,q2⟩;simp [Instr.entryStore,hgo,asInt,asIntOf,hf',q3]
theorem uY (hT:cx T) (h:HR γ g w) {t:TypeId} {m m' k k' x x':Value} {e:bS} (ho:eV T t m k x g=some e) (hm:VR γ m m') (hk:VR γ k k') (hx:VR γ x x') :
  aX T.P γ g w n (do Instr.mapUpdate t m' k' x';Pure.pure Next.skip) undef e:=by
 unfold eV at ho
 cases hmt:kr T t with
 | none=>rw [hmt] at ho;simp at ho
 | some p =>
  obtain ⟨kt,z⟩:=p
  cases hb:h9 m with
  | none=>rw [hmt,hb] at ho;simp at ho
  | some r =>
   cases hmp:map? (g r) with
   | none=>rw [hmt,hb] at ho;simp only [hmp] at ho;cases ho
   | some q =>
    obtain ⟨es,c⟩:=q;rw [hmt,hb] at ho;simp only [hmp] at ho;obtain ⟨b,es',rfl,hl,hB,hw,he,hgo⟩:=bp h hb hmp hm;obtain ⟨et,hu,hz⟩:=qL hT hmt;unfold mN at ho
    cases hf:nT T.P false kt k es with
    | none=>rw [hf] at ho;simp at ho
    | some r' =>
     obtain ⟨rfl,hck,hfk⟩:=s8 hf he hk
     have hflk:flat k'=true:=by
      unfold nT at hf
      cases hc:(flat k' && es.all fun e=>flat e.key) with
      | false=>rw [hc] at hf;cases hf
      | true=>simp only [qq7] at hc;exact hc.1
     cases r' with
     | some i =>
      obtain ⟨y,y',he1,he2,hvv,hkk,hkf,hborn,hrun⟩:=hfk;rw [hf] at ho;simp only [he1] at ho
      cases hsb:Instr.sameBits 10000 y.key k' with
      | false=>rw [hsb] at ho;cases ho
      | true =>
       rw [hsb] at ho;simp only [cond_true,qq9] at ho;subst ho
       have hmod:jI γ (es.modify i fun e=>{e with key:=k',val:=x}) (es'.modify i fun e=>{e with key:=k',val:=x'}) :=
        he.modify i _ _ fun a a' h1 h2=>by obtain ⟨_,_,zz⟩:=he.2 i a a' h1 h2;exact ⟨VR.of_flat hflk,hx,zz⟩
       obtain ⟨q1,q2,q3⟩:=pQ (c2:=c) h hmp hl hB hw hmod;refine ⟨undef,_,γ,.inr ⟨rH ?_,rfl⟩,Gm.Le.refl γ,fun _ _=>rfl,q1,VR.undef γ,q2⟩;have hstay:(Instr.keyThatStays y'.key k').run T.P w=.ok k' w:=by simp [Instr.keyThatStays,hkk,hsb]
       simp [Instr.mapUpdate,cq hu,hgo,hck,hrun,he2,hstay,q3]
     | none =>rw [hf] at ho;simp only [qq9] at ho;subst ho;have hpush:jI γ (es++[{key:=k',val:=x,born:=c}]) (es'.push {key:=k',val:=x',born:=c}):=he.push ⟨VR.of_flat hflk,hx,rfl⟩;obtain ⟨q1,q2,q3⟩:=pQ (c2:=c+1) h hmp hl hB hw hpush;refine ⟨undef,_,γ,.inr ⟨rH ?_,rfl⟩,Gm.Le.refl γ,fun _ _=>rfl,q1,VR.undef γ,q2⟩;simp [Instr.mapUpdate,cq hu,hgo,hck,hfk,q3]
theorem An (h:HR γ g w) (hn:γ.loc n=none) {t:TypeId} :
  aX T.P γ g w n (do Pure.pure (Next.value (←Instr.makeMap t none))) (.map (some n)) (.new (.map [] 0)):=by
 have hle:=Gm.mR (b:=w.heap.size) (c:=0) hn;refine ⟨.map (some w.heap.size),w.alloc (.map #[] 0),γ.add n w.heap.size 0,.inl (aT (by simp [Instr.makeMap])),hle,fun k hk=>Gm.bN _ _ _ (fun e=>Bool.noConfusion (hk e:true=false)),?_,VR.map (Gm.cw _ _ _ _),jZ.new (obj:=_) rfl rfl rfl rfl⟩;refine HR.new (w:=w) h hn (obj:=_) rfl ⟨rfl,h.base,#[],?_,rfl,by simp⟩;show (w.heap.push _)[w.heap.size]?=_;simp
theorem FJ (h:HR γ g w) {it it':Value} {r m since last c:Nat} {seen:List Nat} {es:List MapEntry} (ha:addr? it=some (r,0)) (hg:g r=some (.iter m since seen last))
  (hm:map? (g m)=some (es,c)) (hv:VR γ it it') :
  ∃ b bm es',it'=.pointer (some ⟨b,0,none⟩)∧γ.loc r=some (b,0)∧γ.B≤b∧γ.loc m=some (bm,0)∧w.heap[b]?=some (.mapIter (some bm) since seen.toArray last) ∧
   w.heap[bm]?=some (.map es' c)∧jI γ es es':=by
 obtain ⟨b,d,hl,rfl⟩:=hv.addr ha;obtain ⟨rfl,hB,bm,hlm,hw⟩:=h.gE r b d _ hg hl;obtain ⟨_,_,es',hw',he⟩:=h.gE m bm 0 _ (map_some hm) hlm;exact ⟨b,bm,es',rfl,hl,hB,hlm,hw,hw',he⟩
theorem BZ (h:HR γ g w) {it it' v:Value} {e:bS} (ho:sX it g=some (v,e)) (hv:VR γ it it') :
  aX T.P γ g w n (do Pure.pure (Next.value (←Instr.entry it'))) v e:=by
 unfold sX at ho;split at ho
 ·rename_i r ha
  cases hg:g r with
  | none=>rw [hg] at ho;cases ho
  | some gE =>
   rw [hg] at ho
   cases gE with
   | iter m since seen stepped =>
    simp only at ho
    cases hs:seen.getLast? with
    | none=>rw [hs] at ho;simp at ho
    | some stamp =>
     cases hm:map? (g m) with
     | none=>rw [hs,hm] at ho;simp at ho
     | some q =>
      obtain ⟨es,clock⟩:=q;rw [hs,hm] at ho;simp only at ho
      cases hc:Nat.beq clock stepped with
      | false=>rw [hc] at ho;cases ho
      | true =>
       rw [hc] at ho;simp only [cond_true,Option.map_eq_some_iff,Prod.mk.injEq] at ho;obtain ⟨x,hx,rfl,rfl⟩:=ho;have hcc:=Nat.eq_of_beq_eq_true hc;subst hcc;obtain ⟨b,bm,es',rfl,hl,hB,hlm,hw,hw',he⟩:=FJ h ha hg hm hv;have hf:=fW.find (fun k=>k == stamp) he.list;rw [hx] at hf;obtain ⟨x',h1,h2,h3,_⟩:=hf;have h1':es'.find? (fun e=>e.born == stamp)=some x':=by rw [←Array.find?_toList];exact h1
       have hg1:(getObj b).run T.P w=.ok (.mapIter (some bm) since seen.toArray clock) w:=by simp [getObj,Sem.run,hw]
       have hg2:(getObj bm).run T.P w=.ok (.map es' clock) w:=by simp [getObj,Sem.run,hw']
       have hback:seen.toArray.back?=some stamp:=by simpa using hs
       refine .pure h (aT (v:=.tuple #[x'.key,x'.val]) ?_) (VR.cF (.cons h2 (.cons h3 (.nil γ))));simp [Instr.entry,hg1,hg2,hback,h1']
   | _=>cases ho
 ·cases ho
theorem D6 (h:HR γ g w) {it it':Value} {ty:TypeId} {L:List (Value × bS)} (ho:rD it g=some L) (hv:VR γ it it') :
  ∃ v e,(v,e) ∈ L∧aX T.P γ g w n (do Pure.pure (Next.value (←Instr.next it' false ty))) v e:=by
 unfold rD at ho;split at ho
 ·rename_i r
  cases hg:g r with
  | none=>rw [hg] at ho;cases ho
  | some gE =>
   rw [hg] at ho
   cases gE with
   | iter m since seen last =>
    simp only at ho
    cases hm:map? (g m) with
    | none=>rw [hm] at ho;cases ho
    | some q =>
     obtain ⟨es,clock⟩:=q;rw [hm] at ho;simp only at ho;obtain ⟨b,bm,es',rfl,hl,hB,hlm,hw,hw',he⟩:=FJ h rfl hg hm hv;have hg1:(getObj b).run T.P w=.ok (.mapIter (some bm) since seen.toArray last) w:=by simp [getObj,Sem.run,hw]
     have hg2:(getObj bm).run T.P w=.ok (.map es' clock) w:=by simp [getObj,Sem.run,hw']
     unfold vr at ho
     cases hgone:(!seen.isEmpty && !es.isEmpty && es.all (fun e=>Nat.ble last e.born)) with
     | true=>rw [hgone] at ho;cases ho
     | false =>
      rw [hgone] at ho;simp only [cond_false,qq9] at ho;subst ho;have hleft:fW γ (es.filter fun e=>!seen.contains e.born) (es'.filter fun e=>!seen.toArray.contains e.born).toList:=by rw [Array.toList_filter];have:=fW.filter (fun k=>!seen.contains k) he.list;simpa using this
      have hold:fW γ ((es.filter fun e=>!seen.contains e.born).filter fun e=>decide (e.born < since)) ((es'.filter fun e=>!seen.toArray.contains e.born).filter (·.born < since)).toList:=by rw [Array.toList_filter];exact fW.filter (fun k=>decide (k < since)) hleft
      have hnew:fW γ ((es.filter fun e=>!seen.contains e.born).filter fun e=>decide (e.born ≥ since)) ((es'.filter fun e=>!seen.toArray.contains e.born).filter (·.born ≥ since)).toList:=by rw [Array.toList_filter];exact fW.filter (fun k=>decide (k ≥ since)) hleft
      have hgone':(!seen.toArray.isEmpty && !es'.isEmpty && es'.all (·.born ≥ last))=false:=by
       have h1:es'.all (·.born ≥ last)=es.all (fun e=>Nat.ble last e.born):=by
        rw [←Array.all_toList]
        have:∀ {l l':List MapEntry},fW γ l l'→l'.all (fun e=>decide (e.born ≥ last))=l.all (fun e=>Nat.ble last e.born):=by
         intro l
         induction l with
         | nil=>intro l' hh;cases l' with
          | nil=>rfl
          | cons=>exact hh.elim
         | cons a l ih=>intro l' hh;cases l' with
          | nil=>exact hh.elim
          | cons a' l' =>simp only [List.all_cons,ih hh.2,ble_eq,←hh.1.2.2]
        exact this he.list
       rw [h1,he.empty];have h2:seen.toArray.isEmpty=seen.isEmpty:=by cases seen <;> rfl
       rw [h2];exact hgone
      generalize hO:(es.filter fun e=>!seen.contains e.born).filter (fun e=>decide (e.born < since))=old at hold ⊢;generalize hN:(es.filter fun e=>!seen.contains e.born).filter (fun e=>decide (e.born ≥ since))=new at hnew ⊢;generalize hO':(es'.filter fun e=>!seen.toArray.contains e.born).filter (·.born < since)=old' at hold;generalize hN':(es'.filter fun e=>!seen.toArray.contains e.born).filter (·.born ≥ since)=new' at hnew;have hboth:=hold.append hnew
      have hempty:old'.isEmpty=old.isEmpty:=by
       have:=hold.len
       cases old with
       | nil =>have hz:old'=#[]:=Array.eq_empty_of_size_eq_zero (by simpa using this.symm);subst hz;rfl
       | cons a l =>
        cases hx:old'.isEmpty with
        | false=>rfl
        | true =>
         have hz:old'=#[]:=by simpa using hx
         subst hz;simp at this
      let cand:Array (Option MapEntry):=(if old'.isEmpty then #[none] else #[])++(old'++new').map some
      have hpos:0 < cand.size:=by
       show 0 < ((if old'.isEmpty then #[none] else #[])++(old'++new').map some).size
       cases hx:old'.isEmpty with
       | true=>simp;omega
       | false =>
        have:0 < old'.size:=by
         rcases Nat.eq_zero_or_pos old'.size with h0|h0
         ·have:old'=#[]:=Array.eq_empty_of_size_eq_zero h0;subst this;simp at hx
         ·exact h0
        simp;omega
      obtain ⟨i,w1,hi,hw1,hch⟩:∃ i w1,i < cand.size∧(w1=w∨w1=w.drew)∧(choose (.mapNext cand.size)).run T.P w=.ok i w1:=by
       by_cases hf:cand.size≤1
       ·refine ⟨0,w,hpos,.inl rfl,?_⟩;simp [choose,Sem.run,Question.forced,hf]
       ·refine ⟨_,w.drew,Nat.mod_lt (w.tape w.drawn (.mapNext cand.size)) hpos,.inr rfl,?_⟩;have hf':decide (cand.size≤1)=false:=decide_eq_false hf;simp only [choose,Sem.run,Question.forced,hf',Bool.false_eq_true,if_false,Question.cut];rfl
      have hw1h:w1.heap=w.heap:=by rcases hw1 with rfl|rfl <;> rfl
      have hw1o:w1.os=w.os∧w1.tape=w.tape∧w1.output=w.output:=by rcases hw1 with rfl|rfl <;> exact ⟨rfl,rfl,rfl⟩
      have hH1:HR γ g w1:=h.same hw1h;have hU1:jZ γ g w γ g w1:=jZ.heap hw1h hw1o.1 hw1o.2.1 hw1o.2.2;obtain ⟨x,hx⟩:∃ x,cand[i]?=some x:=⟨_,Array.getElem?_eq_getElem hi⟩
      have hmain:∀ u wu,(match x with
        | some e=>(do setObj b (.mapIter (some bm) since (seen.toArray.push e.born) clock);Pure.pure (.tuple #[.bool true,e.key,e.val]):Sem Value)
        | none=>Pure.pure (.tuple #[.bool false])).run T.P w1=.ok u wu→(Instr.next (.pointer (some ⟨b,0,none⟩)) false ty).run T.P w=.ok u wu:=by
       intro u wu hu;have hx':((if old'.isEmpty=true then #[none] else #[])++Array.map some (old'++new'))[i]?=some x:=hx;simp only [Instr.next,Sem.run_bind,hg1,Result.andThen_ok,hg2,hgone',Bool.false_eq_true,if_false,hO',hN'];have hch':(choose (.mapNext ((if old'.isEmpty=true then #[none] else #[])++Array.map some (old'++new')).size)).run T.P w=.ok i w1:=hch;rw [hch'];simp only [Result.andThen_ok,hx']
       cases x with
       | none=>exact hu
       | some e=>simpa using hu
      by_cases hover:old'.isEmpty=true∧i=0
      ·
       obtain ⟨ho1,rfl⟩:=hover;have hxn:x=none:=by have hx':((if old'.isEmpty=true then #[none] else #[])++Array.map some (old'++new'))[0]?=some x:=hx;rw [if_pos ho1] at hx';rw [Array.getElem?_append_left (by simp)] at hx';simpa using hx'.symm
       subst hxn;refine ⟨.tuple #[.bool false],.none,?_,?_⟩
       ·rw [←hempty,ho1];simp
       ·refine ⟨.tuple #[.bool false],w1,γ,.inl (aT (hmain _ _ rfl)),Gm.Le.refl γ,fun _ _=>rfl,hH1,VR.cF (l:=[.bool false]) (cv.of_flat rfl),hU1⟩
      ·
       obtain ⟨j,e',hj,rfl⟩:∃ (j:Nat) (e':MapEntry),(old'.toList++new'.toList)[j]?=some e'∧x=some e':=by
        have hx':((if old'.isEmpty=true then #[none] else #[])++Array.map some (old'++new'))[i]?=some x:=hx
        cases hox:old'.isEmpty with
        | true =>rw [hox] at hx' hover;simp only [if_true] at hx';have hi0:i ≠ 0:=fun e=>hover ⟨rfl,e⟩;rw [Array.getElem?_append_right (by simp;omega)] at hx';simp only [List.size_toArray,List.length_cons,List.length_nil,Array.getElem?_map] at hx';obtain ⟨e',h1,h2⟩:=Option.map_eq_some_iff.1 hx';exact ⟨i - 1,e',by rw [←Array.toList_append,Array.getElem?_toList];simpa using h1,h2.symm⟩
        | false =>rw [hox] at hx';simp only [Bool.false_eq_true,if_false,Array.empty_append,Array.getElem?_map] at hx';obtain ⟨e',h1,h2⟩:=Option.map_eq_some_iff.1 hx';exact ⟨i,e',by rw [←Array.toList_append,Array.getElem?_toList];exact h1,h2.symm⟩
       obtain ⟨e,he1,hk,hvv,hborn⟩:=hboth.get hj;have hset:(setObj b (.mapIter (some bm) since (seen.toArray.push e'.born) clock)).run T.P w1=.ok () {w1 with heap:=w1.heap.setIfInBounds b (.mapIter (some bm) since (seen.toArray.push e'.born) clock)}:=by simp [setObj,Sem.run,hw1h,hw]
       have hwb:w1.heap[b]?=some (.mapIter (some bm) since seen.toArray last):=by rw [hw1h];exact hw
       have hltb:b < w1.heap.size:=(Array.getElem?_eq_some_iff.1 hwb).1
       obtain ⟨q1,q2,_⟩:=Ak (a:=.iter m since (seen++[e.born]) clock) (obj:=.mapIter (some bm) since (seen.toArray.push e'.born) clock) hH1 hg rfl hl hwb rfl
        ⟨rfl,hB,bm,hlm,by rw [hborn];simp [hltb]⟩
       refine ⟨.tuple #[.bool true,e.key,e.val],.put r (.iter m since (seen++[e.born]) clock),?_,?_⟩
       ·refine List.mem_append.2 (.inr ?_);exact List.mem_map.2 ⟨e,List.mem_of_getElem? he1,rfl⟩
       ·refine ⟨.tuple #[.bool true,e'.key,e'.val],_,γ,.inl (aT (hmain _ _ (by simp only [Sem.run_bind,hset,Result.andThen_ok,Sem.run_pure]))),Gm.Le.refl γ,fun _ _=>rfl,q1,
         VR.cF (.cons (.flat rfl) (.cons hk (.cons hvv (.nil γ)))),?_⟩
        exact hU1.trans q2
   | _=>cases ho
 ·cases ho
end
section
variable {T : bJ} {γ : Gm} {g : aH} {w : World} {n : Nat}
theorem cv.map {ρ ρ':Operand→Value} {l:List Operand} (h:∀ x ∈ l,VR γ (ρ x) (ρ' x)):cv γ (l.map ρ) (l.map ρ'):=by refine ⟨by simp,fun i v v' a b=>?_⟩;rw [List.getElem?_map] at a b;obtain ⟨x,hx,rfl⟩:=Option.map_eq_some_iff.1 a;rw [hx] at b;simp at b;subst b;exact h x (List.mem_of_getElem? hx)
theorem jJ.map {ρ ρ':Operand→Value} {l:List (Nat × Operand)} (h:∀ x ∈ l,VR γ (ρ x.2) (ρ' x.2)):jJ γ (l.map fun (i,x)=>(i,ρ x)) (l.map fun (i,x)=>(i,ρ' x)):=by refine ⟨by simp,fun i p p' a b=>?_⟩;rw [List.getElem?_map] at a b;obtain ⟨x,hx,rfl⟩:=Option.map_eq_some_iff.1 a;rw [hx] at b;simp at b;subst b;exact ⟨rfl,h x (List.mem_of_getElem? hx)⟩
theorem oH.map {ρ ρ':Operand→Value} {x:Option Operand} (h:∀ y,x=some y→VR γ (ρ y) (ρ' y)):oH γ (x.map ρ) (x.map ρ'):=by
 cases x with
 | none=>trivial
 | some y=>exact h y rfl
theorem oH.cT {a b:Option Value} (h:oH γ a b) (hf:a.toList.all flat=true):b=a:=by
 cases a with
 | none=>cases b with
  | none=>rfl
  | some _=>exact h.elim
 | some x=>cases b with
  | none=>exact h.elim
  | some y=>simp at hf;rw [VR.cT h hf]
theorem B0 (hT:cx T) (h:HR γ g w) {t ty:TypeId} {x x' v:Value} {e:bS} (ho:lU T t x g=some (v,e)) (hx:VR γ x x') :
  aX T.P γ g w n (do Pure.pure (Next.value (←Builtin.clear_ #[t] ty #[x']))) v e:=by
 unfold lU at ho;split at ho
 ·rename_i r hty;obtain ⟨i,_,_,_,_,hu,_⟩:=hT.ty t _ hty
  cases hm:map? (g r) with
  | none=>rw [hm] at ho;cases ho
  | some p =>obtain ⟨es,clock⟩:=p;rw [hm] at ho;simp only [qq9,Prod.mk.injEq] at ho;obtain ⟨rfl,rfl⟩:=ho;obtain ⟨b,es',rfl,hl,hB,hw,he,hget⟩:=bp h (m:=.map (some r)) rfl hm hx;obtain ⟨q1,q2,q3⟩:=pQ (es2:=[]) (es2':=#[]) (c2:=clock) h hm hl hB hw ⟨rfl,fun i a b ha=>by cases ha⟩;refine ⟨.tuple #[],_,γ,.inl (aT ?_),Gm.Le.refl γ,fun _ _=>rfl,q1,VR.cF (l:=[]) (l':=[]) (cv.nil γ),q2⟩;simp [Builtin.clear_,cq hu,hget T.P,q3 T.P]
 ·rename_i k o nn _ hty;obtain ⟨i,_,_,_,_,hu,_⟩:=hT.ty t _ hty
  cases he:elem? T t with
  | none=>rw [he] at ho;cases ho
  | some inf =>
   cases hc:cells? (g k) with
   | none=>rw [he,hc] at ho;cases ho
   | some p =>
    obtain ⟨cs,own,es⟩:=p;rw [he,hc] at ho;simp only at ho
    cases hcd:(Nat.ble 1 nn && own && bD inf && Nat.ble (o+nn * inf.size) cs.length) with
    | false=>rw [hcd] at ho;cases ho
    | true =>
     rw [hcd] at ho;simp only [cond_true,qq9,Prod.mk.injEq] at ho;obtain ⟨rfl,rfl⟩:=ho;obtain ⟨c1,c2,c3,c4⟩:=BP hcd;subst c2;have c1:=Nat.le_of_ble_eq_true c1;have c4:=Nat.le_of_ble_eq_true c4;obtain ⟨z,hzz,hzs,h1,hfl⟩:=jn c3;obtain ⟨el,j,hut,hj,hsz,_,hz⟩:=j5 hT he
     cases hx with
     | flat hf=>simp [aV] at hf
     | dh=>omega
     | slice hl hle0 ht hlo hk =>
      rename_i b d c';obtain ⟨cs',el',fz,hw,hcr,hown⟩:=h.cells hc hl;obtain ⟨rfl,rfl,hB,hcapsz⟩:=hown rfl;have hpos:0 < z.cells.size:=by omega
      have harr:=mT z.cells (nn * inf.size) (.inr hpos);have hflz:=lV hfl (nn * inf.size) (.inr (by simpa using hpos));have hlen:=nV z.cells.toList (nn * inf.size)
      have hcs:cs.length≤cs'.size:=by
       by_cases hn:cs=[]
       ·subst hn;simp
       ·have:=hcr.size_le hn;omega
      have hzc:(Builtin.zeroCells z.cells nn).toList=cr z.cells.toList (nn * inf.size):=by unfold Builtin.zeroCells;rw [hzs];rw [hzs] at harr;exact harr
      have hst:=run_storeCells_at T.P b (0+o) el' (cr z.cells.toList (nn * inf.size)) 0 cs' w hw (by rw [hlen];omega) ((cv.of_flat (γ:=γ) hflz).bz (List.all_eq_true.2 fun v hv=>by have h2:=List.all_eq_true.1 hflz v hv;cases v <;> first|rfl|(simp [aV] at h2)));obtain ⟨o1,o2,o3,o4⟩:=setRow_os w b (splice cs'.toList (cr z.cells.toList (nn * inf.size)) o).toArray;rw [hzz];simp only [Option.map_some,Option.getD_some];refine ⟨.tuple #[],w.setRow b (splice cs'.toList (cr z.cells.toList (nn * inf.size)) o).toArray,γ,.inl (aT ?_),Gm.Le.refl γ,fun _ _=>rfl,?_,VR.cF (l:=[]) (l':=[]) (cv.nil γ),?_⟩
      ·obtain ⟨q,rfl⟩:∃ q,nn=q+1:=⟨nn - 1,by omega⟩;simp only [Nat.add_zero,Nat.zero_add] at hst;simp [Builtin.clear_,cq hut,jx hj (hz.trans hzz),hzc,hst,splice]
      ·refine h.put (eW hc) rfl hl o4 (fun j hj=>setRow_other w b j _ hj) (.inl rfl) ?_;refine ⟨_,el',(0,0),setRow_heap w b cs' _ el' _ hw,hcr.splice (cv.of_flat hflz) (by rw [hlen];exact c4) (by rw [hlen];omega),fun _=>⟨rfl,rfl,hB,?_⟩⟩;rw [List.size_toArray,gK _ _ _ (by rw [hlen,Array.length_toList];omega)];simpa using hcapsz
      ·exact jZ.put (eW hc) rfl hl o1 o2 o3 o4 (fun j hj=>setRow_other w b j _ hj)
 ·cases ho
theorem xW (hT:cx T) (h:HR γ g w) {b:Builtin} {l l':List Value} {tys:List TypeId} {ty:TypeId} {cs:Array Bool} {v:Value} {e:bS}
  (hn:e.news=true→γ.loc n=none) (ho:dM T n b l tys g=some (v,e)) (hl:cv γ l l'):aX T.P γ g w n (builtin b tys.toArray ty cs l'.toArray) v e:=by
 unfold dM at ho
 have two:∀ {x y:Value},cv γ [x,y] l'→∃ x' y',l'=[x',y']∧VR γ x x'∧VR γ y y':=fun {x y} hh=>by
  match l',hh with
  | [x',y'],hh=>exact ⟨x',y',rfl,hh.2 0 _ _ rfl rfl,hh.2 1 _ _ rfl rfl⟩
  | [],hh=>exact absurd hh.1 (by simp)
  | [_],hh=>exact absurd hh.1 (by simp)
  | _ :: _ :: _ :: _,hh=>exact absurd hh.1 (by simp)
 have one:∀ {x:Value},cv γ [x] l'→∃ x',l'=[x']∧VR γ x x':=fun {x} hh=>by
  match l',hh with
  | [x'],hh=>exact ⟨x',rfl,hh.2 0 _ _ rfl rfl⟩
  | [],hh=>exact absurd hh.1 (by simp)
  | _ :: _ :: _,hh=>exact absurd hh.1 (by simp)
 split at ho
 ·split at ho
  ·obtain ⟨x',rfl,hx⟩:=one hl;exact BV hT h ho hx
  ·cases ho
 ·exact GY h ho hl
 ·exact GZ h ho hl
 ·split at ho
  ·obtain ⟨x',rfl,hx⟩:=one hl;exact B0 hT h ho hx
  ·cases ho
 ·split at ho
  ·rename_i s x t u;obtain ⟨s',x',rfl,hs,hx⟩:=two hl;split at ho
   ·rename_i hty;obtain ⟨i,_,_,_,_,hu,_⟩:=hT.ty u _ hty;exact Ai hT h hu hn ho hs hx
   ·cases ho
  ·cases ho
 ·cases ho
theorem B1 (hT:cx T) (h:HR γ g w) {ρ ρ':Operand→Value} {o:Oper} {v:Value} {e:bS}
  (hn:e.news=true→γ.loc n=none) (ho:gX T n o.op ρ g=some (v,e)) (hρ:∀ x ∈ o.op.operands,VR γ (ρ x) (ρ' x)):aX T.P γ g w n (execOp ρ' o) v e:=by
 obtain ⟨dst,op,ty,pos,after,guard⟩:=o;simp only at ho hρ;cases op <;> simp only [gX] at ho
 case move x =>simp only [qq9,Prod.mk.injEq] at ho;obtain ⟨rfl,rfl⟩:=ho;exact .pure h rfl (hρ x (by simp [Op.operands]))
 case assign x =>simp only [qq9,Prod.mk.injEq] at ho;obtain ⟨rfl,rfl⟩:=ho;exact .pure h rfl (hρ x (by simp [Op.operands]))
 case pick c a b=>exact D4 h ho (hρ c (by simp [Op.operands])) (hρ a (by simp [Op.operands])) (hρ b (by simp [Op.operands]))
 case alloc t=>exact BS hT h hn ho
 case box t x=>exact GV h hn ho (hρ x (by simp [Op.operands]))
 case build t parts =>
  have:=BU (n:=n) hT h ho (jJ.map (ρ:=ρ) (ρ':=ρ') (l:=parts.toList) fun x hx=>hρ x.2 (by simp [Op.operands];exact ⟨x.1,by simpa using hx⟩));have e1:(parts.toList.map fun (i,x)=>(i,ρ' x)).toArray=parts.map fun (i,x)=>(i,ρ' x):=by apply Array.ext';simp
  rw [e1] at this;exact this
 case buildSlice t len parts =>
  have:=s7 hT h hn ho (jJ.map (ρ:=ρ) (ρ':=ρ') (l:=parts.toList) fun x hx=>hρ x.2 (by simp [Op.operands];exact ⟨x.1,by simpa using hx⟩));have e1:(parts.toList.map fun (i,x)=>(i,ρ' x)).toArray=parts.map fun (i,x)=>(i,ρ' x):=by apply Array.ext';simp
  rw [e1] at this;exact this
 case load t a=>exact D2 hT h ho (hρ a (by simp [Op.operands]))
 case store t a x=>exact BQ hT h ho (hρ a (by simp [Op.operands])) (hρ x (by simp [Op.operands]))
 case fieldAddr t a i=>exact uT hT h ho (hρ a (by simp [Op.operands]))
 case indexAddr t a ix=>exact uU hT h ho (hρ a (by simp [Op.operands])) (hρ ix (by simp [Op.operands]))
 case index t a ix =>
  cases hf:(flat (ρ a) && flat (ρ ix)) with
  | false=>rw [hf] at ho;cases ho
  | true =>rw [hf] at ho;simp only [qq7] at hf;have:=aX.reckon (n:=n) h ho;rw [←(hρ a (by simp [Op.operands])).cT hf.1,←(hρ ix (by simp [Op.operands])).cT hf.2] at this;exact this
 case field t a i =>
  cases hf:flat (ρ a) with
  | false=>rw [hf] at ho;cases ho
  | true =>rw [hf] at ho;have:=aX.reckon (n:=n) h ho;rw [←(hρ a (by simp [Op.operands])).cT hf] at this;exact this
 case binOp o t x y yt=>exact GX h ho (hρ x (by simp [Op.operands])) (hρ y (by simp [Op.operands]))
 case unOp o t x =>
  cases hf:flat (ρ x) with
  | false=>rw [hf] at ho;cases ho
  | true =>rw [hf] at ho;have:=aX.reckon (n:=n) h ho;rw [←(hρ x (by simp [Op.operands])).cT hf] at this;exact this
 case convert s d x =>
  cases hf:flat (ρ x) with
  | false=>rw [hf] at ho;cases ho
  | true =>rw [hf] at ho;have:=aX.reckon (n:=n) h ho;rw [←(hρ x (by simp [Op.operands])).cT hf] at this;exact this
 case makeInterface t x =>
  cases hf:flat (ρ x) with
  | false=>rw [hf] at ho;cases ho
  | true =>rw [hf] at ho;have:=aX.reckon (n:=n) h ho;rw [←(hρ x (by simp [Op.operands])).cT hf] at this;exact this
 case extract x i=>exact xQ h ho (hρ x (by simp [Op.operands]))
 case makeFunc fn first captured =>
  have:=vC (T:=T) (n:=n) h ho (cv.map (ρ:=ρ) (ρ':=ρ') (l:=first.toList) fun x hx=>hρ x (by simp [Op.operands];exact .inl (by simpa using hx)))
   (cv.map (ρ:=ρ) (ρ':=ρ') (l:=captured.toList) fun x hx=>hρ x (by simp [Op.operands];exact .inr (by simpa using hx)))
  have e1:(first.toList.map ρ').toArray=first.map ρ':=by apply Array.ext';simp
  have e2:(captured.toList.map ρ').toArray=captured.map ρ':=by apply Array.ext';simp
  rw [e1,e2] at this;exact this
 case nilCheck x =>
  obtain ⟨a,hx,rfl,rfl⟩:=vD ho;have hv:=hρ x (by simp [Op.operands]);rw [hx] at hv
  have hp:∃ a',ρ' x=.pointer (some a'):=by
   generalize ρ' x=y at hv
   cases hv with
   | flat hf=>exact ⟨a,rfl⟩
   | ptr=>exact ⟨_,rfl⟩
  obtain ⟨a',ha'⟩:=hp;refine .pure h (v':=.pointer (some a')) ?_ (by rw [←ha'];exact hv);simp [execOp,ha']
 case slice t x lo hi mx =>
  cases mx with
  | some m =>
   cases hi with
   | none=>cases ho
   | some hi =>simp only [Option.map_eq_some_iff,Prod.mk.injEq] at ho;obtain ⟨u,hu,rfl,rfl⟩:=ho;have rlo:=oH.map (γ:=γ) (ρ:=ρ) (ρ':=ρ') (x:=lo) fun y hy=>hρ y (by subst hy;simp [Op.operands]);exact Aj hT h hu (hρ x (by simp [Op.operands])) rlo (hρ hi (by simp [Op.operands])) (hρ m (by simp [Op.operands]))
  | none =>
   simp only at ho;have hvx:=hρ x (by simp [Op.operands]);have rlo:=oH.map (γ:=γ) (ρ:=ρ) (ρ':=ρ') (x:=lo) fun y hy=>hρ y (by subst hy;simp [Op.operands]);have rhi:=oH.map (γ:=γ) (ρ:=ρ) (ρ':=ρ') (x:=hi) fun y hy=>hρ y (by subst hy;simp [Op.operands]);show aX T.P γ g w n (do Pure.pure (Next.value (←Instr.sliceAt t (ρ' x) (lo.map ρ') (hi.map ρ') none))) v e;unfold dD at ho;split at ho
   ·rename_i s hs
    cases hf:((lo.map ρ).toList.all flat && (hi.map ρ).toList.all flat) with
    | false=>rw [hf] at ho;cases ho
    | true =>rw [hf] at ho;simp only [qq7] at hf;rw [rlo.cT hf.1,rhi.cT hf.2,hvx.cT (by rw [hs];rfl)];exact aX.reckon h ho
   ·simp only [Option.map_eq_some_iff,Prod.mk.injEq] at ho;obtain ⟨u,hu,rfl,rfl⟩:=ho;exact vF hT h hu hvx rlo rhi
   ·simp only [Option.map_eq_some_iff,Prod.mk.injEq] at ho;obtain ⟨u,hu,rfl,rfl⟩:=ho;exact BW hT h hu hvx rlo rhi
 case makeSlice t l c=>exact uW hT h hn ho (hρ l (by simp [Op.operands])) (hρ c (by simp [Op.operands]))
 case makeMap t r =>
  cases r with
  | some _=>cases ho
  | none =>simp only [qq9,Prod.mk.injEq] at ho;obtain ⟨rfl,rfl⟩:=ho;exact An h (hn rfl)
 case lookup t m k ok =>simp only [Option.map_eq_some_iff,Prod.mk.injEq] at ho;obtain ⟨u,hu,rfl,rfl⟩:=ho;exact Am hT h hu (hρ m (by simp [Op.operands])) (hρ k (by simp [Op.operands]))
 case mapEntry t m k=>exact vH hT h ho (hρ m (by simp [Op.operands])) (hρ k (by simp [Op.operands]))
 case entryStore t m s x =>simp only [Option.map_eq_some_iff,Prod.mk.injEq] at ho;obtain ⟨u,hu,rfl,rfl⟩:=ho;exact s9 h hu (hρ m (by simp [Op.operands])) (hρ s (by simp [Op.operands])) (hρ x (by simp [Op.operands]))
 case mapUpdate t m k x =>simp only [Option.map_eq_some_iff,Prod.mk.injEq] at ho;obtain ⟨u,hu,rfl,rfl⟩:=ho;exact uY hT h hu (hρ m (by simp [Op.operands])) (hρ k (by simp [Op.operands])) (hρ x (by simp [Op.operands]))
 case range t x=>exact xU hT h hn ho (hρ x (by simp [Op.operands]))
 case next it s =>
  cases s with
  | false=>cases ho
  | true=>exact xV h ho (hρ it (by simp [Op.operands]))
 case entry it=>exact BZ h ho (hρ it (by simp [Op.operands]))
 case call c =>
  obtain ⟨callee,args,tys⟩:=c;unfold BL at ho
  cases callee with
  | value f=>cases ho
  | invoke r m=>cases ho
  | builtin b =>
   simp only at ho;have:=xW (ty:=ty) (cs:=args.map fun|.const _=>true|_=>false) hT h hn ho (cv.map (ρ:=ρ) (ρ':=ρ') (l:=args.toList) fun x hx=>hρ x (by simp [Op.operands,Call.operands];simpa using hx));have e1:(args.toList.map ρ').toArray=args.map ρ':=by apply Array.ext';simp
   rw [e1] at this;have e2:execOp ρ' ⟨dst,.call ⟨.builtin b,args,tys⟩,ty,pos,after,guard⟩=builtin b tys ty (args.map fun|.const _=>true|_=>false) (args.map ρ'):=rfl;rw [e2];simpa using this
 all_goals cases ho
end
end Go.RM
namespace Go.RM
def oI:Option bu→Bool
 | some (.loop ..)=>true
 | _=>false
def yN (g:aH):bS→Prop
 | .put k _|.app k _=>g k ≠ none∧oI (g k)=false
 | _=>True
def vI (l:List Nat):bS→Prop
 | .put k _|.app k _=>k ∈ l
 | _=>True
section
variable {T : bJ} {n : Nat} {g g' : aH}
theorem rO {k:Nat} {x:List Value × Bool × Nat} (h:cells? (g k)=some x):g k ≠ none∧oI (g k)=false:=by
 generalize g k=b at h
 cases b with
 | none=>cases h
 | some b=>cases b <;> first|exact ⟨by simp,rfl⟩|cases h
theorem tc {k:Nat} {x:List MapEntry × Nat} (h:map? (g k)=some x):g k ≠ none∧oI (g k)=false:=by
 generalize g k=b at h
 cases b with
 | none=>cases h
 | some b=>cases b <;> first|exact ⟨by simp,rfl⟩|cases h
theorem td {v:Value} {k o:Nat} (h:addr? v=some (k,o)):k ∈ cE v:=by rw [yL h];simp [cE]
theorem iC {v:Value} {k:Nat} (h:h9 v=some k):k ∈ cE v:=by rw [vG h];simp [cE]
def qM (g:aH) (l:List Nat) (e:bS):Prop:=yN g e∧vI l e
theorem gy {o:Option Value} {v:Value} {e:bS} {l:List Nat} (h:eK o=some (v,e)):qM g l e:=by obtain ⟨_,_,rfl⟩:=qK h;exact ⟨trivial,trivial⟩
theorem D7 {t:TypeId} {a x v:Value} {e:bS} (h:ku T t a x g=some (v,e)):qM g (cE a) e:=by
 unfold ku at h;split at h
 ·rename_i k o ha
  cases hc:cells? (g k) with
  | none=>rw [hc] at h;cases h
  | some c =>
   obtain ⟨cs,own,es⟩:=c
   cases ht:T.ty.get t with
   | none=>rw [hc,ht] at h;cases h
   | some r =>
    obtain ⟨und,s,bytes,zero,agg,cz,cM⟩:=r;rw [hc,ht] at h;simp only at h;cases hb:(own && Nat.beq x.cells.toList.length s && Nat.ble (o+s) cs.length && x.cells.toList.all bz) <;> rw [hb] at h
    ·cases h
    ·simp at h;obtain ⟨_,rfl⟩:=h;exact ⟨rO hc,td ha⟩
 ·cases h
theorem xX {t:TypeId} {m k v:Value} {e:bS} (h:fc T t m k g=some (v,e)):qM g (cE m) e:=by
 unfold fc at h;split at h
 ·rename_i kt z r _ hr;split at h
  ·rename_i es clock hm;unfold l9 at h;split at h
   ·split at h
    ·rename_i x _;cases hb:Instr.sameBits 10000 x.key k <;> rw [hb] at h
     ·cases h
     ·simp at h;obtain ⟨_,rfl⟩:=h;exact ⟨tc hm,iC hr⟩
    ·cases h
   ·rename_i z _ _;cases hb:flat z <;> rw [hb] at h
    ·cases h
    ·simp at h;obtain ⟨_,rfl⟩:=h;exact ⟨tc hm,iC hr⟩
   ·cases h
  ·cases h
 ·cases h
theorem uZ {m s v:Value} {e:bS} (h:dB m s v g=some e):qM g (cE m) e:=by
 unfold dB at h;split at h
 ·rename_i r _ hr _;split at h
  ·rename_i es clock hm;split at h
   ·simp at h;subst h;exact ⟨tc hm,iC hr⟩
   ·cases h
  ·cases h
 ·cases h
theorem vJ {t:TypeId} {m k v:Value} {e:bS} (h:eV T t m k v g=some e):qM g (cE m) e:=by
 unfold eV at h;split at h
 ·rename_i kt _ r _ hr;split at h
  ·rename_i es clock hm;unfold mN at h;split at h
   ·split at h
    ·rename_i x _;cases hb:Instr.sameBits 10000 x.key k <;> rw [hb] at h
     ·cases h
     ·simp at h;subst h;exact ⟨tc hm,iC hr⟩
    ·cases h
   ·simp at h;subst h;exact ⟨tc hm,iC hr⟩
   ·cases h
  ·cases h
 ·cases h
theorem B2 {t:TypeId} {s x v:Value} {e:bS} (h:eX T n t s x g=some (v,e)):qM g (cE s) e:=by
 unfold eX at h;split at h
 ·rename_i inf _;split at h
  ·rename_i base ln cp;split at h
   ·rename_i m old new _ _ _;cases hb:(Nat.ble ((ln+m) * inf.bytes) 140737488355328 && Nat.ble (ln+m) 9223372036854775807 && new.all bz && bD inf) <;> rw [hb] at h
    ·cases h
    ·simp only [cond_true] at h;cases hm:Nat.beq m 0 <;> rw [hm] at h
     ·simp only [cond_false] at h;unfold gv at h;cases hc:Nat.beq cp ln <;> rw [hc] at h
      ·simp only [cond_false] at h;cases hin:Nat.ble (ln+m+3) cp <;> rw [hin] at h
       rotate_left
       ·simp only [cond_true] at h;unfold kq at h;split at h
        ·split at h
         ·rename_i k o _ _ cs own es hcs;cases hd:(own && Nat.ble (o+(ln+m) * inf.size) cs.length) <;> rw [hd] at h
          ·cases h
          ·simp at h;obtain ⟨_,rfl⟩:=h;exact ⟨rO hcs,by simp [cE,vI]⟩
         ·cases h
        ·cases h
       simp only [cond_false] at h;split at h
       ·rename_i k;split at h
        ·rename_i cs own es hcs;cases hd:(own && Nat.beq cp (ln+1) && Nat.beq cs.length (ln * inf.size) && Nat.beq es inf.size) <;> rw [hd] at h
         ·cases h
         ·simp at h;obtain ⟨_,rfl⟩:=h;exact ⟨rO hcs,by simp [cE,vI]⟩
        ·cases h
       ·cases h
      ·simp at h;obtain ⟨_,rfl⟩:=h;exact ⟨trivial,trivial⟩
     ·simp at h;obtain ⟨_,rfl⟩:=h;exact ⟨trivial,trivial⟩
   ·cases h
  ·cases h
 ·cases h
theorem vK {it v:Value} {e:bS} (h:kz it g=some (v,e)):yN g e:=by
 unfold kz at h;split at h
 ·rename_i r _;split at h
  ·rename_i s pos hr;cases hb:Nat.blt pos s.data.toList.length <;> rw [hb] at h
   ·simp at h;obtain ⟨_,rfl⟩:=h;trivial
   ·simp at h;obtain ⟨_,rfl⟩:=h;exact ⟨by rw [hr];simp,by rw [hr];rfl⟩
  ·cases h
 ·cases h
theorem Iw {P:Program} {l:List Value} {v:Value} {e:bS} {ks:List Nat} (h:Ab P l=some (v,e)):qM g ks e:=by
 unfold Ab at h;split at h
 ·simp at h;obtain ⟨_,rfl⟩:=h;exact ⟨trivial,trivial⟩
 ·cases hb:l.all flat <;> rw [hb] at h
  ·cases h
  ·exact gy h
theorem Iy {P:Program} {l:List Value} {v:Value} {e:bS} {ks:List Nat} (h:Ac P l=some (v,e)):qM g ks e:=by
 unfold Ac at h;split at h
 ·simp at h;obtain ⟨_,rfl⟩:=h;exact ⟨trivial,trivial⟩
 ·cases hb:l.all flat <;> rw [hb] at h
  ·cases h
  ·exact gy h
theorem D8 {t:TypeId} {x v:Value} {e:bS} {ks:List Nat} (h:iY T t x g=some (v,e)):qM g ks e:=by
 unfold iY at h;split at h
 ·simp at h;obtain ⟨_,rfl⟩:=h;exact ⟨trivial,trivial⟩
 ·split at h
  ·simp at h;obtain ⟨_,rfl⟩:=h;exact ⟨trivial,trivial⟩
  ·cases h
 ·simp at h;obtain ⟨_,rfl⟩:=h;exact ⟨trivial,trivial⟩
 ·simp at h;obtain ⟨_,rfl⟩:=h;exact ⟨trivial,trivial⟩
 ·cases h
def D9 (o:Op) (ρ:Operand→Value):List Nat :=
 match o with
 | .store _ a _=>cE (ρ a)
 | .mapEntry _ m _=>cE (ρ m)
 | .entryStore _ m _ _=>cE (ρ m)
 | .mapUpdate _ m _ _=>cE (ρ m)
 | .call ⟨.builtin .append,args,_⟩=>match args.toList.map ρ with
  | [s,_]=>cE s
  | _=>[]
 | .call ⟨.builtin .clear,args,_⟩=>match args.toList.map ρ with
  | [x]=>cE x
  | _=>[]
 | _=>[]
theorem Ea {t:TypeId} {x v:Value} {e:bS} (h:lU T t x g=some (v,e)):qM g (cE x) e:=by
 unfold lU at h;split at h
 ·split at h
  ·rename_i hm;simp at h;obtain ⟨_,rfl⟩:=h;exact ⟨tc hm,by simp [cE,vI]⟩
  ·cases h
 ·split at h
  ·rename_i _ k o nn _ _ _ _ inf cs own es _ hcs;cases hb:(Nat.ble 1 nn && own && bD inf && Nat.ble (o+nn * inf.size) cs.length) <;> rw [hb] at h
   ·cases h
   ·simp at h;obtain ⟨_,rfl⟩:=h;exact ⟨rO hcs,by simp [cE,vI]⟩
  ·cases h
 ·cases h
theorem cB {ks:List Nat}:qM g ks .none:=⟨trivial,trivial⟩
theorem mU {ks:List Nat} {b:bu}:qM g ks (.new b):=⟨trivial,trivial⟩
theorem pR {o:Op} {ρ:Operand→Value} {v:Value} {e:bS} (h:gX T n o ρ g=some (v,e)):yN g e∧((∀ it,o ≠ .next it true)→vI (D9 o ρ) e):=by
 have key:∀ {ks:List Nat},qM g ks e→D9 o ρ=ks→yN g e∧((∀ it,o ≠ .next it true)→vI (D9 o ρ) e):=fun hk he=>⟨hk.1,fun _=>by rw [he];exact hk.2⟩;cases o <;> simp only [gX] at h
 case move x=>simp at h;obtain ⟨_,rfl⟩:=h;exact key cB rfl
 case assign x=>simp at h;obtain ⟨_,rfl⟩:=h;exact key cB rfl
 case pick c a b =>
  unfold uq at h;split at h
  ·simp at h;obtain ⟨_,rfl⟩:=h;exact key cB rfl
  ·cases h
 case alloc t =>
  unfold sV at h;split at h
  ·rename_i z _ _ _ _;cases hb:z.cells.toList.all aV <;> rw [hb] at h
   ·cases h
   ·simp at h;obtain ⟨_,rfl⟩:=h;exact key mU rfl
  ·cases h
 case box t x =>
  unfold GQ at h;cases hb:(ρ x).cells.toList.all bz <;> rw [hb] at h
  ·cases h
  ·simp at h;obtain ⟨_,rfl⟩:=h;exact key mU rfl
 case build t parts =>
  unfold qG at h;split at h
  ·rename_i z _ _ _;cases hb:z.cells.toList.all aV <;> rw [hb] at h
   ·cases h
   ·simp only [cond_true,Option.map_eq_some_iff,Prod.mk.injEq] at h;obtain ⟨_,_,_,rfl⟩:=h;exact key cB rfl
  ·cases h
 case buildSlice t len parts =>
  unfold ia at h;split at h
  ·rename_i inf _;cases hb:(Nat.ble (len * inf.size) 65536 && bD inf) <;> rw [hb] at h
   ·cases h
   ·simp only [cond_true] at h;split at h
    ·simp at h;obtain ⟨_,rfl⟩:=h;exact key mU rfl
    ·cases h
  ·cases h
 case load t a =>
  unfold iw at h;split at h
  ·split at h
   ·rename_i s _ _ agg _ _ _ _;cases agg
    ·simp only [cond_false,Option.map_eq_some_iff,Prod.mk.injEq] at h;obtain ⟨_,_,_,rfl⟩:=h;exact key cB rfl
    ·simp only [cond_true,Option.map_eq_some_iff,Prod.mk.injEq] at h;obtain ⟨_,_,_,rfl⟩:=h;exact key cB rfl
   ·cases h
  ·cases h
 case store t a x=>exact key (D7 h) rfl
 case fieldAddr t a i =>
  unfold dY at h;split at h
  ·split at h
   ·rename_i s _;cases hb:Nat.ble 1 s <;> rw [hb] at h
    ·cases h
    ·simp at h;obtain ⟨_,rfl⟩:=h;exact key cB rfl
   ·cases h
  ·cases h
 case indexAddr t a ix =>
  have hi:∀ {cM k o len:Nat} {j:Int},qn cM k o len j=some (v,e)→qM g [] e:=by
   intro cM k o len j h;unfold qn at h;cases hb:(Ij 0 j && GR j (.ofNat len)) <;> rw [hb] at h
   ·cases h
   ·simp at h;obtain ⟨_,rfl⟩:=h;exact cB
  unfold dZ at h;split at h
  ·split at h
   ·exact key (hi h) rfl
   ·cases h
  ·split at h
   ·exact key (hi h) rfl
   ·cases h
  ·cases h
 case index t a ix =>
  cases hb:(flat (ρ a) && flat (ρ ix)) <;> rw [hb] at h
  ·cases h
  ·exact key (gy h) rfl
 case field t a i =>
  cases hb:flat (ρ a) <;> rw [hb] at h
  ·cases h
  ·exact key (gy h) rfl
 case binOp o t x y yt =>
  have hs:∀ {a b:Value},gP T.P o t x y a b=some (v,e)→qM g [] e:=by
   intro a b h;unfold gP at h;cases hb:(flat a && flat b) <;> rw [hb] at h
   ·cases h
   ·exact gy h
  unfold fV at h;split at h
  ·split at h
   ·simp at h;obtain ⟨_,rfl⟩:=h;exact key cB rfl
   ·exact key (hs h) rfl
  ·rw [cond_eq_ite] at h;split at h
   ·unfold iz at h;split at h
    ·simp at h;obtain ⟨_,rfl⟩:=h;exact key cB rfl
    ·simp at h;obtain ⟨_,rfl⟩:=h;exact key cB rfl
    ·cases h
   ·cases h
  ·rw [cond_eq_ite] at h;split at h
   ·unfold iz at h;split at h
    ·simp at h;obtain ⟨_,rfl⟩:=h;exact key cB rfl
    ·simp at h;obtain ⟨_,rfl⟩:=h;exact key cB rfl
    ·cases h
   ·cases h
  ·exact key (hs h) rfl
 case unOp o t x =>
  cases hb:flat (ρ x) <;> rw [hb] at h
  ·cases h
  ·exact key (gy h) rfl
 case convert s d x =>
  cases hb:flat (ρ x) <;> rw [hb] at h
  ·cases h
  ·exact key (gy h) rfl
 case makeInterface t x =>
  cases hb:flat (ρ x) <;> rw [hb] at h
  ·cases h
  ·exact key (gy h) rfl
 case extract x i =>
  unfold fX at h;split at h
  ·simp only [Option.map_eq_some_iff,Prod.mk.injEq] at h;obtain ⟨_,_,_,rfl⟩:=h;exact key cB rfl
  ·cases h
 case makeFunc fn first captured =>
  unfold mc at h;split at h
  ·simp at h;obtain ⟨_,rfl⟩:=h;exact key cB rfl
  ·cases h
 case nilCheck x =>
  unfold iZ at h;split at h
  ·simp at h;obtain ⟨_,rfl⟩:=h;exact key cB rfl
  ·cases h
 case slice t x lo hi mx =>
  cases mx with
  | some _ =>
   cases hi with
   | none=>cases h
   | some hi =>simp only [Option.map_eq_some_iff,Prod.mk.injEq] at h;obtain ⟨_,_,_,rfl⟩:=h;exact key cB rfl
  | none =>
   simp only at h;unfold dD at h;split at h
   ·cases hb:((lo.map ρ).toList.all flat && (hi.map ρ).toList.all flat) <;> rw [hb] at h
    ·cases h
    ·exact key (gy h) rfl
   ·simp only [Option.map_eq_some_iff,Prod.mk.injEq] at h;obtain ⟨_,_,_,rfl⟩:=h;exact key cB rfl
   ·simp only [Option.map_eq_some_iff,Prod.mk.injEq] at h;obtain ⟨_,_,_,rfl⟩:=h;exact key cB rfl
 case makeSlice t l c =>
  unfold iX at h;split at h
  ·rename_i inf _;split at h
   ·rename_i l c _ _;cases hb:(Nat.ble l c && Nat.ble (inf.bytes * c) 140737488355328 && Nat.ble c 9223372036854775807 && bD inf) <;> rw [hb] at h
    ·cases h
    ·simp at h;obtain ⟨_,rfl⟩:=h;exact key mU rfl
   ·cases h
  ·cases h
 case makeMap t r =>
  cases r with
  | some _=>cases h
  | none=>simp at h;obtain ⟨_,rfl⟩:=h;exact key mU rfl
 case lookup t m k ok =>simp only [Option.map_eq_some_iff,Prod.mk.injEq] at h;obtain ⟨_,_,_,rfl⟩:=h;exact key cB rfl
 case mapEntry t m k=>exact key (xX h) rfl
 case entryStore t m s x =>simp only [Option.map_eq_some_iff,Prod.mk.injEq] at h;obtain ⟨_,hu,_,rfl⟩:=h;exact key (uZ hu) rfl
 case mapUpdate t m k x =>simp only [Option.map_eq_some_iff,Prod.mk.injEq] at h;obtain ⟨_,hu,_,rfl⟩:=h;exact key (vJ hu) rfl
 case range t x =>
  unfold sW at h;split at h
  ·split at h
   ·simp at h;obtain ⟨_,rfl⟩:=h;exact key mU rfl
   ·cases h
  ·simp at h;obtain ⟨_,rfl⟩:=h;exact key mU rfl
  ·cases h
 case next it s =>
  cases s with
  | false=>cases h
  | true=>exact ⟨vK h,fun hn=>absurd rfl (hn it)⟩
 case entry it =>
  unfold sX at h;split at h
  ·split at h
   ·split at h
    ·rw [cond_eq_ite] at h;split at h <;> rename_i hb
     ·simp only [Option.map_eq_some_iff,Prod.mk.injEq] at h;obtain ⟨_,_,_,rfl⟩:=h;exact key cB rfl
     ·cases h
    ·cases h
   ·cases h
  ·cases h
 case call c =>
  obtain ⟨callee,args,tys⟩:=c;unfold BL at h
  cases callee with
  | value f=>cases h
  | invoke r m=>cases h
  | builtin b =>
   simp only at h;unfold dM at h;split at h
   ·split at h
    ·exact key (D8 (ks:=[]) h) rfl
    ·cases h
   ·exact key (Iw (ks:=[]) h) rfl
   ·exact key (Iy (ks:=[]) h) rfl
   ·split at h
    ·rename_i x t ha _;refine key (Ea h) ?_;simp only [D9];rw [ha]
    ·cases h
   ·split at h
    ·rename_i s x t u ha _;split at h
     ·refine key (B2 h) ?_;unfold D9;simp only [ha]
     ·cases h
    ·cases h
   ·cases h
 all_goals cases h
theorem B3 {it:Value} {L:List (Value × bS)} (h:rD it g=some L):∀ p ∈ L,yN g p.2:=by
 unfold rD at h;split at h
 ·rename_i r;split at h
  ·rename_i m since seen last hr;split at h
   ·rename_i es clock hm;unfold vr at h;intro p hp
    cases hb:(!seen.isEmpty && !es.isEmpty && es.all (fun e=>Nat.ble last e.born)) with
    | true=>rw [hb] at h;cases h
    | false =>
     rw [hb] at h;simp only [cond_false,qq9] at h;subst h
     rcases List.mem_append.1 hp with hp|hp
     ·revert hp;generalize (List.filter (fun e=>decide (e.born < since)) (List.filter (fun e=>!seen.contains e.born) es))=old
      cases old with
      | nil=>simp only [List.isEmpty_nil,cond_true,List.mem_singleton];intro e;subst e;trivial
      | cons=>simp
     ·obtain ⟨x,_,rfl⟩:=List.mem_map.1 hp;exact ⟨by rw [hr];simp,by rw [hr];rfl⟩
   ·cases h
  ·cases h
 ·cases h
theorem oJ {size:Nat} {v:Value} (h:∀ k ∈ cE v,g' k=g k):bL g' size v=bL g size v:=by
 unfold bL;split
 ·rfl
 ·rw [h _ (by simp [cE])]
 ·rfl
theorem xY {t:TypeId} {s x:Value} (hs:∀ k ∈ cE s,g' k=g k) (hx:∀ k ∈ cE x,g' k=g k):eX T n t s x g'=eX T n t s x g:=by
 unfold eX;have e1:∀ size,bL g' size x=bL g size x:=fun _=>oJ hx;have e2:∀ size,bL g' size s=bL g size s:=fun _=>oJ hs;simp only [e1,e2];split
 ·split
  ·rename_i base ln cp
   have hb:∀ inf m old new,gv n inf base ln cp m old new g'=gv n inf base ln cp m old new g:=by
    intro inf m old new
    have hi:kq inf base ln cp m new g'=kq inf base ln cp m new g:=by
     unfold kq;split
     ·rename_i k o;rw [hs k (by simp [cE])]
     ·rfl
    unfold gv;rw [hi];split
    ·rename_i k;rw [hs k (by simp [cE])]
    ·rfl
   simp only [hb]
  ·rfl
 ·rfl
theorem B4 {t:TypeId} {a:Value} (h:∀ k ∈ cE a,g' k=g k):iw T t a g'=iw T t a g:=by
 unfold iw
 cases ha:addr? a with
 | none=>rfl
 | some p=>simp only;rw [h p.1 (td (o:=p.2) ha)]
theorem Ao {t:TypeId} {a v:Value} (h:∀ k ∈ cE a,g' k=g k):ku T t a v g'=ku T t a v g:=by
 unfold ku
 cases ha:addr? a with
 | none=>rfl
 | some p=>simp only;rw [h p.1 (td (o:=p.2) ha)]
theorem xZ {t:TypeId} {m k:Value} {ok:Bool} (h:∀ k ∈ cE m,g' k=g k):jN T t m k ok g'=jN T t m k ok g:=by
 unfold jN
 cases hm:h9 m with
 | none=>rfl
 | some r=>simp only [Option.bind_some];rw [h r (iC hm)]
theorem u7 {t:TypeId} {m k:Value} (h:∀ k ∈ cE m,g' k=g k):fc T t m k g'=fc T t m k g:=by
 unfold fc
 cases hm:h9 m with
 | none=>cases kr T t <;> rfl
 | some r=>cases kr T t with
  | none=>rfl
  | some p=>simp only [h r (iC hm)]
theorem rP {m s v:Value} (h:∀ k ∈ cE m,g' k=g k):dB m s v g'=dB m s v g:=by
 unfold dB
 cases hm:h9 m with
 | none=>rfl
 | some r=>cases intOf? s with
  | none=>rfl
  | some p=>simp only [h r (iC hm)]
theorem tf {t:TypeId} {m k v:Value} (h:∀ k ∈ cE m,g' k=g k):eV T t m k v g'=eV T t m k v g:=by
 unfold eV
 cases hm:h9 m with
 | none=>cases kr T t <;> rfl
 | some r=>cases kr T t with
  | none=>rfl
  | some p=>simp only [h r (iC hm)]
theorem Ap {t:TypeId} {x:Value} (h:∀ k ∈ cE x,g' k=g k):iY T t x g'=iY T t x g:=by
 unfold iY;split
 ·rfl
 ·rw [h _ (by simp [cE])]
 ·rfl
 ·rfl
 ·rfl
theorem yO {o:Op} {ρ:Operand→Value} {r wr:List Nat} (ht:iA o ρ=some (r,wr)) (hr:∀ k ∈ r,g' k=g k) (hw:∀ k ∈ wr,g' k=g k):gX T n o ρ g'=gX T n o ρ g:=by
 cases o <;> simp only [gX] <;> simp only [iA,qq9,Prod.mk.injEq,reduceCtorEq] at ht
 case load t a=>obtain ⟨rfl,rfl⟩:=ht;exact B4 hr
 case store t a x=>obtain ⟨rfl,rfl⟩:=ht;exact Ao hw
 case lookup t m k ok=>obtain ⟨rfl,rfl⟩:=ht;rw [xZ hr]
 case mapEntry t m k=>obtain ⟨rfl,rfl⟩:=ht;exact u7 hw
 case entryStore t m s x=>obtain ⟨rfl,rfl⟩:=ht;rw [rP hw]
 case mapUpdate t m k x=>obtain ⟨rfl,rfl⟩:=ht;rw [tf hw]
 case makeMap t r=>cases r <;> rfl
 case slice t x lo hi mx=>cases mx <;> cases hi <;> rfl
 case call c =>
  obtain ⟨callee,args,tys⟩:=c
  cases callee with
  | value f=>rfl
  | invoke r m=>rfl
  | builtin b =>
   unfold BL dM;simp only;cases b <;> try rfl
   case clear=>cases ht
   case len =>
    simp only at ht;split at ht
    ·rename_i x hx;simp only [qq9,Prod.mk.injEq] at ht;obtain ⟨rfl,rfl⟩:=ht;rw [hx]
     cases tys.toList with
     | nil=>rfl
     | cons t l=>cases l with
      | nil=>exact Ap hr
      | cons=>rfl
    ·cases ht
   case append =>
    simp only at ht;split at ht
    ·rename_i s x hx;simp only [qq9,Prod.mk.injEq] at ht;obtain ⟨rfl,rfl⟩:=ht;rw [hx];have e1:∀ t,eX T n t s x g'=eX T n t s x g:=fun _=>xY hw hr
     cases tys.toList with
     | nil=>rfl
     | cons t l=>cases l with
      | nil=>rfl
      | cons u l2=>cases l2 with
       | nil=>simp only [e1]
       | cons=>rfl
    ·cases ht
theorem oK {o:Op} {ρ:Operand→Value} {r wr:List Nat} (ht:iA o ρ=some (r,wr)):(∀ it,o ≠ .next it true)∧D9 o ρ=wr:=by
 refine ⟨fun it e=>(by subst e;cases ht),?_⟩;cases o <;> simp only [iA,qq9,Prod.mk.injEq,reduceCtorEq] at ht <;> try (exact ht.2)
 case call c =>
  obtain ⟨callee,args,tys⟩:=c
  cases callee with
  | value f=>simp only [qq9,Prod.mk.injEq] at ht;exact ht.2
  | invoke r m=>simp only [qq9,Prod.mk.injEq] at ht;exact ht.2
  | builtin b =>
   cases b <;> try (simp only [qq9,Prod.mk.injEq] at ht;exact ht.2)
   case clear=>cases ht
   case len =>
    simp only at ht;split at ht
    ·simp only [qq9,Prod.mk.injEq] at ht;exact ht.2
    ·cases ht
   case append =>
    simp only at ht;split at ht
    ·rename_i s x hx;simp only [qq9,Prod.mk.injEq] at ht;simp only [D9,hx];exact ht.2
    ·cases ht
end
def Wf (h:Hp):Prop:=∀ k,h.n≤k→h.get k=none
structure ej (a b:Hp):Prop where
 n:a.n≤b.n
 lo:b.lo≤a.lo
 same:∀ k,k < a.n→k < b.lo→b.get k=a.get k
 wf:Wf a→Wf b
 loop:Wf a→∀ k,oI (a.get k)=true→oI (b.get k)=true
theorem ej.refl (a:Hp):ej a a:=⟨qq6 _,qq6 _,fun _ _ _=>rfl,id,fun _ _ h=>h⟩
theorem ej.trans {a b c:Hp} (h:ej a b) (k:ej b c):ej a c :=
 ⟨Nat.le_trans h.n k.n,Nat.le_trans k.lo h.lo,fun i hi hl=>(k.same i (Nat.lt_of_lt_of_le hi h.n) hl).trans (h.same i hi (Nat.lt_of_lt_of_le hl k.lo)),fun hw=>k.wf (h.wf hw),fun hw i hi=>k.loop (h.wf hw) i (h.loop hw i hi)⟩
theorem ej.push (a:Hp) (b:bu):ej a (a.push b) :=
 ⟨Nat.le_succ _,qq6 _,fun k hk _=>by rw [Hp.fk,if_neg (by omega)],fun hw k hk=>by
  have hk':a.n+1≤k:=hk
  rw [Hp.fk,if_neg (by omega)];exact hw k (by omega),fun hw k hk=>by
  have hne:k ≠ a.n:=fun e=>by rw [hw k (by omega)] at hk;cases hk
  rw [Hp.fk,if_neg hne];exact hk⟩
theorem ej.put (a:Hp) (i:Nat) (b:bu) (hi:a.get i ≠ none) (hl:oI (a.get i)=true→oI (some b)=true):ej a (a.put i b) :=
 ⟨qq6 _,Nat.min_le_left _ _,fun k _ hl=>by
  have:k < i:=Nat.lt_of_lt_of_le hl (Nat.min_le_right _ _)
  rw [Hp.jO,if_neg (by omega)],fun hw k hk=>by
  have hk':a.n≤k:=hk
  rw [Hp.jO,if_neg (fun e=>hi (by rw [←e];exact hw k hk'))];exact hw k hk',fun _ k hk=>by
  rw [Hp.jO];split
  ·rename_i e;rw [e] at hk;exact hl hk
  ·exact hk⟩
theorem ej.app (a:Hp) (e:bS) (he:yN a.get e):ej a (a.app e):=by
 cases e with
 | none=>exact .refl a
 | new b=>exact .push a b
 | put k b=>exact .put a k b he.1 (fun h=>by rw [he.2] at h;cases h)
 | app k b=>exact (ej.put a k .dead he.1 (fun h=>by rw [he.2] at h;cases h)).trans (ej.push _ _)
section bind
variable {α β : Type}
theorem mg (f:α→Option (List β)):bR [] f=some []:=rfl
theorem cG (a:α) (f:α→Option (List β)):bR [a] f=f a:=rfl
theorem gY (a b:α) (l:List α) (f:α→Option (List β)):bR (a :: b :: l) f=match f a with
 | some x=>(bR (b :: l) f).map (x++·)
 | none=>none:=rfl
theorem cH {f:α→Option (List β)}:∀ {L:List α} {M:List β},bR L f=some M→∀ a ∈ L,∃ Ma,f a=some Ma∧∀ b ∈ Ma,b ∈ M
 | [],_,_,a,ha=>by cases ha
 | [x],M,h,a,ha=>by rw [cG] at h;obtain rfl:=List.mem_singleton.1 ha;exact ⟨M,h,fun _ hb=>hb⟩
 | x :: y :: l,M,h,a,ha=>by
  rw [gY] at h
  cases hx:f x with
  | none=>rw [hx] at h;cases h
  | some X =>
   rw [hx] at h;simp only [Option.map_eq_some_iff] at h;obtain ⟨Y,hY,rfl⟩:=h
   rcases List.mem_cons.1 ha with rfl|ha
   ·exact ⟨X,hx,fun b hb=>List.mem_append.2 (.inl hb)⟩
   ·obtain ⟨Ma,h1,h2⟩:=cH hY a ha;exact ⟨Ma,h1,fun b hb=>List.mem_append.2 (.inr (h2 b hb))⟩
theorem gZ {f:α→Option (List β)}:∀ {L:List α} {M:List β},bR L f=some M→∀ b ∈ M,∃ a ∈ L,∃ Ma,f a=some Ma∧b ∈ Ma
 | [],M,h,b,hb=>by rw [mg] at h;cases h;cases hb
 | [x],M,h,b,hb=>by rw [cG] at h;exact ⟨x,by simp,M,h,hb⟩
 | x :: y :: l,M,h,b,hb=>by
  rw [gY] at h
  cases hx:f x with
  | none=>rw [hx] at h;cases h
  | some X =>
   rw [hx] at h;simp only [Option.map_eq_some_iff] at h;obtain ⟨Y,hY,rfl⟩:=h
   rcases List.mem_append.1 hb with hb|hb
   ·exact ⟨x,by simp,X,hx,hb⟩
   ·obtain ⟨a,ha,Ma,h1,h2⟩:=gZ hY b hb;exact ⟨a,List.mem_cons_of_mem _ ha,Ma,h1,h2⟩
theorem B5 {f:α→Option (List β)} {L:List α} {M:List β} (h:bR L f=some M) (hL:L ≠ []) (hf:∀ a ∈ L,∀ Ma,f a=some Ma→Ma ≠ []):M ≠ []:=by
 cases L with
 | nil=>exact absurd rfl hL
 | cons a l =>
  obtain ⟨Ma,h1,h2⟩:=cH h a (by simp);have:=hf a (by simp) Ma h1
  cases Ma with
  | nil=>exact absurd rfl this
  | cons x _=>intro e;subst e;exact absurd (h2 x (by simp)) (by simp)
end bind
def qI.hp:qI→Hp
 | .call _ _ h=>h
 | .round _ _ h=>h
 | .loop _ st=>st.hp
def gC.hp:gC→Hp
 | .ret _ h=>h
 | .out _ st=>st.hp
def Good (a:Hp) {β:Type} (f:β→Hp) (M:List β):Prop:=M ≠ []∧∀ b ∈ M,ej a (f b)
def bF (rec:qI→Option (List gC)):Prop:=∀ j L,rec j=some L→Good j.hp gC.hp L
theorem Good.one {a:Hp} {β:Type} {f:β→Hp} {b:β} (h:ej a (f b)):Good a f [b]:=⟨by simp,fun x hx=>by obtain rfl:=List.mem_singleton.1 hx;exact h⟩
theorem Good.bind {a:Hp} {α β:Type} {f:α→Hp} {f':β→Hp} {L:List α} {M:List β} {k:α→Option (List β)} (h:bR L k=some M) (hL:Good a f L) (hk:∀ x,∀ Mx,k x=some Mx→Good (f x) f' Mx):Good a f' M :=
 ⟨B5 h hL.1 fun x _ Mx hx=>(hk x Mx hx).1,fun b hb=>by
  obtain ⟨x,hx,Mx,h1,h2⟩:=gZ h b hb
  exact (hL.2 x hx).trans ((hk x Mx h1).2 b h2)⟩
theorem Good.map {a:Hp} {α β:Type} {f:α→Hp} {f':β→Hp} {L:List α} {k:α→β} (hL:Good a f L) (hk:∀ x,f' (k x)=f x):Good a f' (L.map k) :=
 ⟨by intro e;exact hL.1 (List.map_eq_nil_iff.1 e),fun b hb=>by
  obtain ⟨x,hx,rfl⟩:=List.mem_map.1 hb
  rw [hk];exact hL.2 x hx⟩
section
variable {T : bJ} {rec : qI → Option (List gC)}
theorem rQ (H:Hp) (g:Goal):(gJ H g).hp=H:=by cases g <;> rfl
theorem Iz {it:Value} {g:aH} {L:List (Value × bS)} (h:rD it g=some L):L ≠ []:=by
 have key:∀ {r m since last clock:Nat} {seen:List Nat} {es:List MapEntry},vr r m since seen last es clock=some L→L ≠ []:=by
  intro r m since last clock seen es h;unfold vr at h
  cases hb:(!seen.isEmpty && !es.isEmpty && es.all (fun e=>Nat.ble last e.born)) with
  | true=>rw [hb] at h;cases h
  | false =>
   rw [hb] at h;simp only [cond_false,qq9] at h;rw [←h];generalize (es.filter fun e=>!seen.contains e.born).filter (fun e=>decide (e.born < since))=old
   cases old with
   | nil=>simp
   | cons x l=>simp
 unfold rD at h;split at h
 ·split at h
  ·split at h
   ·exact key h
   ·cases h
  ·cases h
 ·cases h
theorem qN (hr:bF rec) {o:Op} {st:St} {L:List (Value × Hp)} (h:dw T rec o st=some L):Good st.hp (fun p=>p.2) L:=by
 unfold dw at h;split at h
 ·rename_i f args _;split at h
  ·rename_i g _
   cases hj:rec (gJ st.hp g) with
   | none=>rw [hj] at h;cases h
   | some R =>
    rw [hj] at h;have:=hr _ _ hj;rw [rQ] at this;refine Good.bind h this fun x Mx hx=>?_
    cases x with
    | ret v hp=>simp only [valOf,qq9] at hx;subst hx;exact .one (.refl _)
    | out e s=>cases hx
  ·cases h
 ·rename_i it _;simp only [Option.map_eq_some_iff] at h;obtain ⟨N,hN,rfl⟩:=h;refine ⟨by intro e;exact Iz hN (List.map_eq_nil_iff.1 e),fun p hp=>?_⟩;obtain ⟨⟨v,e⟩,hm,rfl⟩:=List.mem_map.1 hp;exact ej.app _ _ (B3 hN _ hm)
 ·split at h
  ·rename_i hop;simp only [qq9] at h;subst h;exact .one (ej.app _ _ (pR hop).1)
  ·cases h
theorem dF (ops:List Oper) (st:St):aO T rec ops [] st=some [st]:=rfl
theorem bK (ops:List Oper) (o:Oper) (l:List Oper) (st:St):aO T rec ops (o :: l) st =
 cond (aY ops st.fr o.guard)
  (match dw T rec o.op st with
   | some L=>bR L fun p=>aO T rec ops l ⟨cD st.fr o.dst p.1,p.2,st.rd⟩
   | none=>none)
  (aO T rec ops l ⟨cD st.fr o.dst undef,st.hp,st.rd⟩):=rfl
theorem fH (hr:bF rec) (ops:List Oper):∀ (l:List Oper) (st:St) (L:List St),aO T rec ops l st=some L→Good st.hp St.hp L∧∀ s ∈ L,s.rd=st.rd:=by
 intro l
 induction l with
 | nil=>intro st L h;rw [dF] at h;cases h;exact ⟨.one (.refl _),by simp⟩
 | cons o l ih =>
  intro st L h;rw [bK] at h
  cases hg:aY ops st.fr o.guard with
  | false=>rw [hg] at h;simp only [cond_false] at h;exact ih ⟨cD st.fr o.dst undef,st.hp,st.rd⟩ _ h
  | true =>
   rw [hg] at h;simp only [cond_true] at h
   cases ha:dw T rec o.op st with
   | none=>rw [ha] at h;cases h
   | some A =>rw [ha] at h;refine ⟨Good.bind h (qN hr ha) fun p Mx hx=>(ih _ _ hx).1,fun s hs=>?_⟩;obtain ⟨p,_,Mx,h1,h2⟩:=gZ h s hs;exact (ih _ _ h1).2 s h2
theorem cU (ops:Array Oper) (i:Nat) (st:St) (acc:List Ev):bh T rec ops [] i st acc=cond (cA T ops acc) (some [st]) none:=rfl
theorem aM (ops:Array Oper) (o:Oper) (l:List Oper) (i:Nat) (st:St) (acc:List Ev):bh T rec ops (o :: l) i st acc =
 cond (aY ops.toList st.fr o.guard)
  (match aP T rec o.op i st with
   | some (v,hp,t)=>bh T rec ops l (i+1) ⟨cD st.fr o.dst v,hp,st.rd⟩ (⟨o,st,v,hp,t⟩ :: acc)
   | none=>none)
  (bh T rec ops l (i+1) ⟨cD st.fr o.dst undef,st.hp,st.rd⟩ (⟨o,st,undef,st.hp,⟨i,[],[],false,st.hp.n,st.hp.n⟩⟩ :: acc)):=rfl
theorem Eb {n lo k:Nat} (h:k ∈ Mw n lo):lo≤k∧k < n:=by
 unfold Mw at h
 cases hc:Nat.ble n lo with
 | true=>rw [hc] at h;cases h
 | false =>rw [hc] at h;simp only [cond_false,List.mem_range'_1] at h;omega
theorem ME {n lo k:Nat} (h:k ∉ Mw n lo) (hk:k < n):k < lo:=by
 unfold Mw at h
 cases hc:Nat.ble n lo with
 | true=>have:=Nat.le_of_ble_eq_true hc;omega
 | false =>rw [hc] at h;simp only [cond_false,List.mem_range'_1,not_and,Nat.not_lt] at h;apply Nat.lt_of_not_le;intro hle;have:=h hle;omega
theorem i6 {i:Nat} {st:St} {v:Value} {hp:Hp} (h:Nat.ble st.hp.n hp.lo=true):iQ i st v hp=(v,{hp with lo:=st.hp.lo},⟨i,[],[],true,st.hp.n,hp.n⟩):=by unfold iQ Mw;rw [h];rfl
theorem vL {i:Nat} {st:St} {v:Value} {hp:Hp} (hk:ej {st.hp with lo:=st.hp.n} hp):ej st.hp (iQ i st v hp).2.1:=by
 have hn:st.hp.n≤hp.n:=hk.n;refine ⟨hn,?_,fun k hk1 hk2=>?_,hk.wf,hk.loop⟩
 ·show (bif Nat.ble st.hp.n hp.lo then st.hp.lo else min st.hp.lo hp.lo)≤st.hp.lo
  cases Nat.ble st.hp.n hp.lo with
  | true=>exact qq6 _
  | false=>exact Nat.min_le_left _ _
 ·refine hk.same k hk1 ?_;have hk2:k < (bif Nat.ble st.hp.n hp.lo then st.hp.lo else min st.hp.lo hp.lo):=hk2
  cases hc:Nat.ble st.hp.n hp.lo with
  | true=>have:=Nat.le_of_ble_eq_true hc;omega
  | false=>rw [hc] at hk2;simp only [cond_false] at hk2;omega
theorem lg (hr:bF rec) {o:Op} {i:Nat} {st:St} {v:Value} {hp:Hp} {t:Tc} (h:aP T rec o i st=some (v,hp,t)):ej st.hp hp:=by
 unfold aP at h;split at h
 ·split at h
  ·rename_i g _;split at h
   ·rename_i v' hp' hj;have e:=Option.some.inj h;have:=hr _ _ hj;rw [rQ] at this;have hk:ej st.hp (iQ i st v' hp').2.1:=vL (this.2 _ (List.mem_singleton.2 rfl));rw [e] at hk;exact hk
   ·cases h
  ·cases h
 ·cases h
 ·split at h
  ·rename_i hop;simp only [qq9,Prod.mk.injEq] at h;obtain ⟨_,rfl,_⟩:=h;exact ej.app _ _ (pR hop).1
  ·cases h
theorem qq (hr:bF rec) (ops:Array Oper):∀ (l:List Oper) (i:Nat) (st:St) (acc:List Ev) (L:List St),bh T rec ops l i st acc=some L→Good st.hp St.hp L∧∀ s ∈ L,s.rd=st.rd:=by
 intro l
 induction l with
 | nil =>
  intro i st acc L h;rw [cU] at h
  cases hc:cA T ops acc with
  | false=>rw [hc] at h;cases h
  | true=>rw [hc] at h;simp at h;subst h;exact ⟨.one (.refl _),by simp⟩
 | cons o l ih =>
  intro i st acc L h;rw [aM] at h
  cases hg:aY ops.toList st.fr o.guard with
  | false=>rw [hg] at h;simp only [cond_false] at h;exact ih _ ⟨cD st.fr o.dst undef,st.hp,st.rd⟩ _ _ h
  | true =>
   rw [hg] at h;simp only [cond_true] at h
   cases ha:aP T rec o.op i st with
   | none=>rw [ha] at h;cases h
   | some p =>obtain ⟨v,hp,t⟩:=p;rw [ha] at h;have:=ih _ _ _ _ h;have hk:=lg hr ha;exact ⟨⟨this.1.1,fun s hs=>hk.trans (this.1.2 s hs)⟩,this.2⟩
theorem vM (st:St):bE T rec .skip st=some [(.normal,st)]:=rfl
theorem uw (l:Nat) (st:St):bE T rec (.label l) st=some [(.normal,st)]:=rfl
theorem lW {ops:Array Oper} {st:St} {L:List St} (h:bH T rec ops st=some L):(∃ c,qJ ops=some c∧FI T rec ops c st=some L)∨(qJ ops=none∧∃ M,bh T rec ops (ops.toList.take (ez ops)) 0 st []=some M∧bR M (aO T rec ops.toList (ops.toList.drop (ez ops)))=some L):=by
 unfold bH at h;split at h
 ·exact .inl ⟨_,by assumption,h⟩
 ·refine .inr ⟨by assumption,?_⟩;split at h
  ·exact ⟨_,by assumption,h⟩
  ·cases h
theorem x6 (ops:Array Oper) (K:St→List Ev→Option (List St)) (i:Nat) (st:St) (acc:List Ev):fe T rec ops [] K i st acc=K st acc:=rfl
theorem fm (ops:Array Oper) (K:St→List Ev→Option (List St)) (o:Oper) (l:List Oper) (i:Nat) (st:St) (acc:List Ev):fe T rec ops (o :: l) K i st acc =
 cond (aY ops.toList st.fr o.guard)
  (match aP T rec o.op i st with
   | some (v,hp,t)=>fe T rec ops l K (i+1) ⟨cD st.fr o.dst v,hp,st.rd⟩ (⟨o,st,v,hp,t⟩ :: acc)
   | none=>none)
  (fe T rec ops l K (i+1) ⟨cD st.fr o.dst undef,st.hp,st.rd⟩ (⟨o,st,undef,st.hp,⟨i,[],[],false,st.hp.n,st.hp.n⟩⟩ :: acc)):=rfl
theorem vN (hr:bF rec) (ops:Array Oper) (K:St→List Ev→Option (List St)):∀ (l:List Oper) (i:Nat) (st:St) (acc:List Ev) (L:List St),fe T rec ops l K i st acc=some L→∃ st' acc',ej st.hp st'.hp∧st'.rd=st.rd∧K st' acc'=some L:=by
 intro l
 induction l with
 | nil=>intro i st acc L h;exact ⟨st,acc,.refl _,rfl,h⟩
 | cons o l ih =>
  intro i st acc L h;rw [fm] at h
  cases hg:aY ops.toList st.fr o.guard with
  | false=>rw [hg] at h;simp only [cond_false] at h;exact ih _ ⟨cD st.fr o.dst undef,st.hp,st.rd⟩ _ _ h
  | true =>
   rw [hg] at h;simp only [cond_true] at h
   cases ha:aP T rec o.op i st with
   | none=>rw [ha] at h;cases h
   | some p =>obtain ⟨v,hp,t⟩:=p;rw [ha] at h;obtain ⟨st',acc',h1,h2,h3⟩:=ih _ _ _ _ h;exact ⟨st',acc',(lg hr ha).trans h1,h2,h3⟩
theorem ic {i:Nat} {st:St} {r:gC} {P:List (Value × Hp × Tc)} (h:vw i st r=some P):∃ v hp,r=.ret v hp∧P=[iQ i st v hp]:=by
 cases r with
 | ret v hp=>exact ⟨v,hp,rfl,(Option.some.inj h).symm⟩
 | out e s=>cases h
theorem x7 (hr:bF rec) {o:Op} {i:Nat} {st:St} {P:List (Value × Hp × Tc)} (h:eM T rec o i st=some P):Good st.hp (fun p=>p.2.1) P:=by
 unfold eM at h;split at h
 ·split at h
  ·rename_i g _;split at h
   ·rename_i R hj;have:=hr _ _ hj;rw [rQ] at this;refine ⟨B5 h this.1 fun r _ Pr hp=>?_,fun p hp=>?_⟩
    ·obtain ⟨v,hp,_,rfl⟩:=ic hp;simp
    ·obtain ⟨r,hrm,Pr,h1,h2⟩:=gZ h p hp;obtain ⟨v,hp',rfl,rfl⟩:=ic h1;obtain rfl:=List.mem_singleton.1 h2;exact vL (this.2 _ hrm)
   ·cases h
  ·cases h
 ·cases h
theorem vO (hr:bF rec) {ops:Array Oper} {o:Oper} {i:Nat} {st:St} {P:List (Value × Hp × Tc)} (h:ju T rec ops o i st=some P):Good st.hp (fun p=>p.2.1) P:=by
 unfold ju at h
 cases hg:aY ops.toList st.fr o.guard with
 | true =>rw [hg] at h;exact x7 hr h
 | false =>rw [hg] at h;simp only [cond_false,qq9] at h;subst h;exact ⟨by simp,fun p hp=>by rw [List.mem_singleton.1 hp];exact .refl _⟩
theorem qO {ops:Array Oper} {c:Nat} {st:St} {acc:List Ev} {L:List St} (h:rG T rec ops c st acc=some L):∃ o P,ops.toList[c]?=some o∧ju T rec ops o c st=some P∧(∀ p ∈ P,cA T ops (⟨o,st,p.1,p.2.1,p.2.2⟩ :: acc)=true)∧(bR P fun p=>aO T rec ops.toList (ops.toList.drop (c+1)) ⟨cD st.fr o.dst p.1,p.2.1,st.rd⟩)=some L:=by
 unfold rG at h;split at h
 ·rename_i o ho;split at h
  ·rename_i P hP
   cases hq:P.all fun p=>cA T ops (⟨o,st,p.1,p.2.1,p.2.2⟩ :: acc) with
   | false=>rw [hq] at h;cases h
   | true =>rw [hq] at h;exact ⟨o,P,ho,hP,List.all_eq_true.1 hq,h⟩
  ·cases h
 ·cases h
theorem Ec (hr:bF rec) (ops:Array Oper) (c:Nat) (st:St) (L:List St) (h:FI T rec ops c st=some L):Good st.hp St.hp L:=by obtain ⟨st',acc',h1,h2,h3⟩:=vN hr _ _ _ _ _ _ _ h;obtain ⟨o,P,_,hP,_,hL⟩:=qO h3;have hg:=vO hr hP;have hg':Good st.hp (fun p:Value × Hp × Tc=>p.2.1) P:=⟨hg.1,fun p hp=>h1.trans (hg.2 p hp)⟩;exact Good.bind hL hg' fun p Mx hx=>(fH hr _ _ _ _ hx).1
theorem x8 (hr:bF rec) (ops:Array Oper) (st:St) (L:List St) (h:bH T rec ops st=some L):Good st.hp St.hp L:=by
 rcases lW h with ⟨c,_,h⟩|⟨_,M,h1,h2⟩
 ·exact Ec hr _ _ _ _ h
 ·exact Good.bind h2 (qq hr _ _ _ _ _ _ h1).1 fun x Mx hx=>(fH hr _ _ _ _ hx).1
theorem bP (id:Nat) (ops:Array Oper) (draw:Bool) (st:St):bE T rec (.region id ops draw) st =
 match cond draw (bH T rec ops st) (aO T rec ops.toList ops.toList st) with
  | some L=>some (L.map fun s=>(.normal,s))
  | none=>none:=rfl
theorem i7 (a b:Code) (st:St):bE T rec (.seq a b) st=match bE T rec a st with
 | some L=>bR L (sZ (bE T rec b))
 | none=>none:=rfl
theorem kB (c:Operand) (a b:Code) (st:St):bE T rec (.cond c a b) st=match aF st.fr c with
 | .bool t=>cond t (bE T rec a st) (bE T rec b st)
 | _=>none:=rfl
theorem lu (id:Nat) (c:Code) (st:St):bE T rec (.block id c) st=match bE T rec c st with
 | some L=>some (L.map (gw id))
 | none=>none:=rfl
theorem mV (c:Code) (st:St):bE T rec (.loop c) st=match rec (.loop c st) with
 | some L=>bR L BN
 | none=>none:=rfl
theorem vP (id:Nat) (st:St):bE T rec (.exit id) st=some [(.exit id,st)]:=rfl
theorem yP (st:St):bE T rec .ret st=some [(.ret,st)]:=rfl
theorem lz (f:Operand) (ps:Array Tmp) (a b:Code) (st:St):bE T rec (.rangeFunc f ps a b) st=mP rec f ps a b st:=rfl
theorem lA (c:Code) (st:St):bE T rec (.scope c) st=vz (bE T rec c st):=rfl
theorem oL {o:Option (List (Exit × St))} {L:List (Exit × St)} (h:vz o=some L):o=some L∧∀ p ∈ L,∀ l,p.1 ≠ .goto l:=by
 unfold vz at h;split at h
 ·rename_i M
  cases hb:M.all noGoto with
  | false=>rw [hb] at h;cases h
  | true =>rw [hb] at h;simp only [cond_true,qq9] at h;subst h;refine ⟨rfl,fun p hp l e=>?_⟩;have:=List.all_eq_true.1 hb p hp;unfold noGoto at this;rw [e] at this;cases this
 ·cases h
theorem vQ (l:Nat) (st:St):bE T rec (.goto l) st=none:=rfl
theorem rR (y:String) (st:St):bE T rec (.refuse y) st=none:=rfl
theorem lX {l : Nat} {fr : Tr Value} {rd : Bool} {r : gC} {M : List (Exit × St)} (h : jv l fr rd r = some M) :
    ∃ v hp s pend fr0 ps as bd, r = .ret v hp ∧ hp.get l = some (.loop s pend fr0 ps as bd) ∧ s ≠ .busy ∧
      ((pend = none ∧ M = [(.normal, ⟨fr, hp.put l (.loop .exhausted pend fr0 ps as bd), rd⟩)]) ∨ (pend = some .ret ∧ M = [(.ret, ⟨fr, hp.put l (.loop .exhausted pend fr0 ps as bd), rd⟩)]) ∨
        ∃ id, pend = some (.exit id) ∧ M = [(.exit id, ⟨fr, hp.put l (.loop .exhausted pend fr0 ps as bd), rd⟩)]) := by
  cases r with
  | out e s => cases h
  | ret v hp =>
    unfold jv at h;simp only at h;split at h
    · rename_i s pend fr0 ps as bd hl;refine ⟨v, hp, s, pend, fr0, ps, as, bd, rfl, hl, ?_⟩;have hs : s ≠ .busy := fun e => by subst e; simp at h
      refine ⟨hs, ?_⟩
      cases pend with
      | none => cases s <;> simp at h hs ⊢ <;> exact h.symm
      | some c =>
        cases c with
        | ret => refine .inr (.inl ⟨rfl, ?_⟩); cases s <;> simp at h hs ⊢ <;> exact h.symm
        | exit id => refine .inr (.inr ⟨id, rfl, ?_⟩); cases s <;> simp at h hs ⊢ <;> exact h.symm
        | _ => cases s <;> simp at h
    · cases h
theorem ja (hr:bF rec):∀ (c:Code) (st:St) (L:List (Exit × St)),bE T rec c st=some L→Good st.hp (fun p=>p.2.hp) L:=by
 intro c
 induction c with
 | skip=>intro st L h;rw [vM] at h;cases h;exact .one (.refl _)
 | label l=>intro st L h;rw [uw] at h;cases h;exact .one (.refl _)
 | exit id=>intro st L h;rw [vP] at h;cases h;exact .one (.refl _)
 | ret=>intro st L h;rw [yP] at h;cases h;exact .one (.refl _)
 | scope c ih=>intro st L h;rw [lA] at h;exact ih st L (oL h).1
 | goto l=>intro st L h;rw [vQ] at h;cases h
 | refuse y=>intro st L h;rw [rR] at h;cases h
 | region id ops draw =>
  intro st L h;rw [bP] at h
  cases draw with
  | true =>
   simp only [cond_true] at h
   cases hx:bH T rec ops st with
   | none=>rw [hx] at h;cases h
   | some R=>rw [hx] at h;simp only [qq9] at h;subst h;exact (x8 hr _ _ _ hx).map fun _=>rfl
  | false =>
   simp only [cond_false] at h
   cases hx:aO T rec ops.toList ops.toList st with
   | none=>rw [hx] at h;cases h
   | some R=>rw [hx] at h;simp only [qq9] at h;subst h;exact (fH hr _ _ _ _ hx).1.map fun _=>rfl
 | seq a b iha ihb =>
  intro st L h;rw [i7] at h
  cases hx:bE T rec a st with
  | none=>rw [hx] at h;cases h
  | some R =>
   rw [hx] at h;refine Good.bind h (iha _ _ hx) fun p Mx hp=>?_;unfold sZ at hp;split at hp
   ·exact ihb _ _ hp
   ·simp only [qq9] at hp;subst hp;exact .one (.refl _)
 | cond c a b iha ihb =>
  intro st L h;rw [kB] at h;split at h
  ·rename_i t _
   cases t with
   | true=>exact iha _ _ h
   | false=>exact ihb _ _ h
  ·cases h
 | block id c ih =>
  intro st L h;rw [lu] at h
  cases hx:bE T rec c st with
  | none=>rw [hx] at h;cases h
  | some R =>rw [hx] at h;simp only [qq9] at h;subst h;refine (ih _ _ hx).map fun p=>?_;unfold gw;split <;> rfl
 | loop c _ =>
  intro st L h;rw [mV] at h
  cases hx:rec (.loop c st) with
  | none=>rw [hx] at h;cases h
  | some R =>
   rw [hx] at h;refine Good.bind h (hr _ _ hx) fun p Mx hp=>?_
   cases p with
   | ret=>cases hp
   | out e s=>simp only [BN,qq9] at hp;subst hp;exact .one (.refl _)
 | rangeFunc f ps a b _ _ =>
  intro st L h;rw [lz] at h;unfold mP at h;split at h
  ·rename_i g args _
   cases hx:rec (.call g args (st.hp.push (.loop .ready none st.fr ps a b))) with
   | none=>rw [hx] at h;cases h
   | some R =>rw [hx] at h;have hk:=hr _ _ hx;have hk':Good st.hp gC.hp R:=⟨hk.1,fun r hr'=>(ej.push _ _).trans (hk.2 r hr')⟩;refine Good.bind h hk' fun p Mx hp=>?_;obtain ⟨v,hp2,s,pend,fr0,ps',as',bd',rfl,hgt,_,h1|h1|⟨_,h1⟩⟩:=lX hp <;> (obtain ⟨_,rfl⟩:=h1;exact .one (ej.put hp2 _ _ (by rw [hgt];simp) (fun _=>rfl)))
  ·cases h
theorem kC (f:FuncId) (args:List Value) (hp:Hp):iB T rec (.call f args hp)=match T.fn.get f with
 | some fn=>match fn.body with
  | some c=>match bE T rec c ⟨setArgs .leaf 0 args,hp,false⟩ with
   | some L=>bR L (fG T fn.results.toList)
   | none=>none
  | none=>none
 | none=>none:=rfl
theorem oM (l:Nat) (args:List Value) (hp:Hp):iB T rec (.round l args hp)=match hp.get l with
 | some (.loop .ready _ fr ps as bd)=>cond (Nat.beq args.length ps.toList.length)
  (match bE T rec as ⟨fh fr (ps.toList.zip args),hp,true⟩ with
  | some L=>bR L (cY T rec l bd)
  | none=>none) none
 | _=>none:=rfl
theorem qP (c:Code) (st:St):iB T rec (.loop c st)=match bE T rec c st with
 | some L=>bR L (fj rec c)
 | none=>none:=rfl
theorem mW {rs:List ResultVar} {p:Exit × St} {M:List gC} (h:fG T rs p=some M):(p.1=.normal∨p.1=.ret)∧∃ vs,ld T p.2.fr p.2.hp rs=some vs∧M=[.ret (dn vs) p.2.hp]:=by
 obtain ⟨e,s⟩:=p;unfold fG at h
 cases e with
 | normal=>simp only [Option.map_eq_some_iff] at h;obtain ⟨vs,a,b⟩:=h;exact ⟨.inl rfl,vs,a,b.symm⟩
 | ret=>simp only [Option.map_eq_some_iff] at h;obtain ⟨vs,a,b⟩:=h;exact ⟨.inr rfl,vs,a,b.symm⟩
 | _=>simp at h
theorem kD {l : Nat} {p : Exit × St} {M : List gC} (h : gx l p = some M) : ∃ st pend fr ps as bd, p.2.hp.get l = some (.loop st pend fr ps as bd) ∧
    ((p.1 = .normal ∧ M = [.ret (.bool true) (p.2.hp.put l (.loop .ready none fr ps as bd))]) ∨
     (p.1 = .ret ∧ M = [.ret (.bool false) (p.2.hp.put l (.loop .done (some .ret) fr ps as bd))]) ∨
     ∃ id, p.1 = .exit id ∧ M = [.ret (.bool false) (p.2.hp.put l (.loop .done (some (.exit id)) fr ps as bd))]) := by
  obtain ⟨e, s⟩ := p;unfold gx at h;simp only at h;split at h
  · rename_i st pend fr ps as bd hl;refine ⟨st, pend, fr, ps, as, bd, hl, ?_⟩
    cases e with
    | normal => simp only [qq9] at h; exact .inl ⟨rfl, h.symm⟩
    | ret => simp only [qq9] at h; exact .inr (.inl ⟨rfl, h.symm⟩)
    | exit id => simp only [qq9] at h; exact .inr (.inr ⟨id, rfl, h.symm⟩)
    | _ => simp at h
  · cases h
theorem jb {l:Nat} {body:Code} {p:Exit × St} {M:List gC} (h:cY T rec l body p=some M):p.1=.normal∧∃ pend fr ps as bd R,p.2.hp.get l=some (.loop .ready pend fr ps as bd) ∧
  bE T rec body ⟨p.2.fr,p.2.hp.put l (.loop .busy pend fr ps as bd),true⟩=some R∧bR R (gx l)=some M:=by
 obtain ⟨e,s⟩:=p;unfold cY at h;have he:e=.normal:=by cases e <;> first|rfl|simp at h
 subst he;simp only at h;split at h
 ·rename_i pend fr ps as bd hl
  cases hy:bE T rec body ⟨s.fr,s.hp.put l (.loop .busy pend fr ps as bd),true⟩ with
  | none=>rw [hy] at h;cases h
  | some R=>rw [hy] at h;exact ⟨rfl,pend,fr,ps,as,bd,R,hl,hy,h⟩
 ·cases h
theorem nY {f:FuncId} {args:List Value} {hp:Hp} {L:List gC} (h:iB T rec (.call f args hp)=some L) :
  ∃ fn c R,T.fn.get f=some fn∧fn.body=some c∧bE T rec c ⟨setArgs .leaf 0 args,hp,false⟩=some R∧bR R (fG T fn.results.toList)=some L:=by
 rw [kC] at h
 cases hf:T.fn.get f with
 | none=>rw [hf] at h;cases h
 | some fn =>
  rw [hf] at h;simp only at h
  cases hb:fn.body with
  | none=>rw [hb] at h;cases h
  | some c =>
   rw [hb] at h;simp only at h
   cases hx:bE T rec c ⟨setArgs .leaf 0 args,hp,false⟩ with
   | none=>rw [hx] at h;cases h
   | some R=>rw [hx] at h;exact ⟨fn,c,R,rfl,hb,hx,h⟩
theorem mh {l:Nat} {args:List Value} {hp:Hp} {L:List gC} (h:iB T rec (.round l args hp)=some L) :
  ∃ pend fr ps as bd R,hp.get l=some (.loop .ready pend fr ps as bd)∧args.length=ps.size∧bE T rec as ⟨fh fr (ps.toList.zip args),hp,true⟩=some R∧bR R (cY T rec l bd)=some L:=by
 rw [oM] at h;split at h
 ·rename_i pend fr ps as bd hl
  cases hlen:Nat.beq args.length ps.toList.length with
  | false=>rw [hlen] at h;cases h
  | true =>
   rw [hlen] at h;simp only [cond_true] at h
   cases hx:bE T rec as ⟨fh fr (ps.toList.zip args),hp,true⟩ with
   | none=>rw [hx] at h;cases h
   | some R=>rw [hx] at h;exact ⟨pend,fr,ps,as,bd,R,hl,by simpa using Nat.eq_of_beq_eq_true hlen,hx,h⟩
 ·cases h
theorem nZ {c:Code} {st:St} {L:List gC} (h:iB T rec (.loop c st)=some L):∃ R,bE T rec c st=some R∧bR R (fj rec c)=some L:=by
 rw [qP] at h
 cases hx:bE T rec c st with
 | none=>rw [hx] at h;cases h
 | some R=>rw [hx] at h;exact ⟨R,rfl,h⟩
theorem kE {c:Code} {p:Exit × St} {M:List gC} (h:fj rec c p=some M):(p.1=.normal∧rec (.loop c p.2)=some M)∨(p.1 ≠ .normal∧M=[.out p.1 p.2]):=by
 obtain ⟨e,s⟩:=p;unfold fj at h
 cases e <;> simp only [qq9] at h <;> first
  | exact .inl ⟨rfl,h⟩
  | exact .inr ⟨by simp,h.symm⟩
theorem Ed (hr:bF rec):bF (iB T rec):=by
 intro j L h
 cases j with
 | call f args hp =>obtain ⟨fn,c,R,_,_,hx,h⟩:=nY h;refine Good.bind h (ja hr _ _ _ hx) fun p Mx hq=>?_;obtain ⟨_,vs,_,rfl⟩:=mW hq;exact .one (.refl _)
 | round l args hp =>obtain ⟨pend,fr,ps,as,bd,R,_,_,hx,h⟩:=mh h;refine Good.bind h (ja hr _ _ _ hx) fun p Mx hq=>?_;obtain ⟨_,pend',fr',ps',as',bd',R2,hgt,hy,hz⟩:=jb hq;have hk:=ja hr _ _ _ hy;have hk':Good p.2.hp (fun q=>q.2.hp) R2:=⟨hk.1,fun r hr'=>(ej.put p.2.hp _ _ (by rw [hgt];simp) (fun _=>rfl)).trans (hk.2 r hr')⟩;refine Good.bind hz hk' fun q My hw=>?_;obtain ⟨_,_,_,_,_,_,hgt2,h1|h1|⟨_,h1⟩⟩:=kD hw <;> (obtain ⟨_,rfl⟩:=h1;exact .one (ej.put q.2.hp _ _ (by rw [hgt2];simp) (fun _=>rfl)))
 | loop c st =>
  obtain ⟨R,hx,h⟩:=nZ h;refine Good.bind h (ja hr _ _ _ hx) fun p Mx hq=>?_
  rcases kE hq with ⟨_,h1⟩|⟨_,rfl⟩
  ·exact hr _ _ h1
  ·exact .one (.refl _)
end
open Go
theorem ux:∀ {l m:List UInt8},rE l m=true→l=m
 | [],[],_=>rfl
 | a :: l,b :: m,h=>by simp only [rE,qq7] at h;rw [ux h.2,UInt8.toNat_inj.1 (Nat.eq_of_beq_eq_true h.1)]
 | [],_ :: _,h=>by cases h
 | _ :: _,[],h=>by cases h
theorem IA {a b:Int} (h:DY a b=true):a=b:=by
 cases a <;> cases b <;> simp only [DY,Bool.false_eq_true] at h
 ·rw [Nat.eq_of_beq_eq_true h]
 ·rw [Nat.eq_of_beq_eq_true h]
theorem Aq {p v:Value} (h:DZ p v=true):p=v∧aV v=true:=by
 unfold DZ at h;split at h
 ·simp at h;subst h;exact ⟨rfl,rfl⟩
 ·simp only [qq7,beq_iff_eq] at h;obtain ⟨rfl,h⟩:=h;rw [IA h];exact ⟨rfl,rfl⟩
 ·rename_i s t;have:=ux h;have e:s=t:=by cases s;cases t;simp only at this;rw [Array.toList_inj.1 this]
  rw [e];exact ⟨rfl,rfl⟩
 ·exact ⟨rfl,rfl⟩
 ·exact ⟨rfl,rfl⟩
 ·exact ⟨rfl,rfl⟩
 ·exact ⟨rfl,rfl⟩
 ·exact ⟨rfl,rfl⟩
 ·cases h
abbrev FW (r:Option Nat):Fence:={fn:=fun _=>True,depth:=none,alive:=false,round:=r}
def fB (γ:Gm) (a N:Nat):Prop:=∀ k,a≤k→k < N→γ.loc k=none
structure Step (γ:Gm) (H:Hp) (w:World) (γ':Gm) (H':Hp) (w':World):Prop where
 n:H.n≤H'.n
 le:γ.Le γ'
 out:∀ k,(k < H.n∨H'.n≤k)→γ'.loc k=γ.loc k
 hr:HR γ' H'.get w'
 iK:jZ γ H.get w γ' H'.get w'
section
variable {T : bJ} {γ γ' γ1 γ2 : Gm} {H H' H1 H2 : Hp} {w w' w1 w2 : World} {N : Nat}
theorem Step.refl (h:HR γ H.get w):Step γ H w γ H w:=⟨qq6 _,Gm.Le.refl γ,fun _ _=>rfl,h,jZ.refl _ _ _⟩
theorem Step.trans (a:Step γ H w γ1 H1 w1) (b:Step γ1 H1 w1 γ2 H2 w2):Step γ H w γ2 H2 w2 :=
 ⟨Nat.le_trans a.n b.n,a.le.trans b.le,fun k hk=>by
  have h1:=a.n;have h2:=b.n
  rw [b.out k (by omega),a.out k (by omega)],b.hr,a.iK.trans b.iK⟩
theorem Step.fresh (a:Step γ H w γ1 H1 w1) (h:fB γ H.n N):fB γ1 H1.n N:=fun k h1 h2=>by rw [a.out k (.inr h1)];exact h k (Nat.le_trans a.n h1) h2
theorem HR.off {g:aH} (h:HR γ g w) (hs:w.heap.size≤w'.heap.size) (hh:∀ k b o,γ.loc k=some (b,o)→w'.heap[b]?=w.heap[b]?) (hg:∀ b,b < γ.B→w'.heap[b]?=w.heap[b]?):HR γ g w' :=
 ⟨fun k b o a ha hl=>(h.gE k b o a ha hl).mono (Gm.Le.refl γ) hl (hh k b o hl),h.inj,fun k b o hl=>Nat.lt_of_lt_of_le (h.lt k b o hl) hs,Nat.le_trans h.base hs,fun x hx=>⟨(h.gl x hx).1,by rw [hg _ (h.gl x hx).1];exact (h.gl x hx).2⟩⟩
theorem jZ.off {g g':aH} (u:jZ γ g w γ' g' w1) (h1:w2.os=w1.os) (h2:w2.tape=w1.tape) (h3:w2.output=w1.output) (hs:w1.heap.size≤w2.heap.size)
  (hh:∀ b,b < w.heap.size→w2.heap[b]?=w1.heap[b]?):jZ γ g w γ' g' w2 :=
 ⟨h1.trans u.os,h2.trans u.tape,h3.trans u.output,Nat.le_trans u.size hs,fun b hb hn=>(hh b hb).trans (u.same b hb hn),u.uu,u.live,u.s5⟩
theorem qt (e:bS):(H.app e).n=if e.news=true then H.n+1 else H.n:=by cases e <;> rfl
theorem aX.step {s:Sem Next} {v:Value} {e:bS} (h:aX T.P γ H.get w H.n s v e) :
  ∃ v' w' γ',(s.run T.P w=.ok (.value v') w'∨(s.run T.P w=.ok .skip w'∧v'=undef))∧VR γ' v v'∧Step γ H w γ' (H.app e) w':=by
 obtain ⟨v',w',γ',h1,h2,h3,h4,h5,h6⟩:=h;refine ⟨v',w',γ',h1,h5,?_,h2,fun k hk=>h3 k fun e'=>?_,by rw [Hp.Ae];exact h4,by rw [Hp.Ae];exact h6⟩
 ·rw [qt];split <;> omega
 ·rw [qt] at hk;subst e'
  cases hn:e.news with
  | false=>rfl
  | true=>rw [hn] at hk;simp at hk;omega
def Ar (γ:Gm) (w:World) (N0:Nat) (ds:List Deferred):Prop :=
 ∃ rs:List Nat,ds=rs.map (fun r=>{target:=.collected r,args:=#[]})∧rs.Nodup∧∀ r ∈ rs,N0≤r∧w.heap[r]?=some (.deferred (some []))∧∀ k o,γ.loc k ≠ some (r,o)
theorem Ar.nil (γ:Gm) (w:World) (N0:Nat):Ar γ w N0 []:=⟨[],rfl,List.nodup_nil,fun r hr=>by cases hr⟩
theorem Ar.step {N0:Nat} {ds:List Deferred} (h:Ar γ w N0 ds) (s:Step γ H w γ' H' w'):Ar γ' w' N0 ds:=by obtain ⟨rs,h1,h2,h3⟩:=h;refine ⟨rs,h1,h2,fun r hr=>?_⟩;obtain ⟨a,b,c⟩:=h3 r hr;have hlt:r < w.heap.size:=(Array.getElem?_eq_some_iff.1 b).1;refine ⟨a,(s.iK.same r hlt fun k o _ _ _ hl=>c k o hl).trans b,fun k o hl=>?_⟩;obtain ⟨k0,o0,hl0⟩:=s.iK.s5 k r o hl hlt;exact c k0 o0 hl0
theorem IB {fr:Tr Value} {a:Act} (h:xP γ fr a.tmps) {x:Operand} (hx:ur x=true):VR γ (aF fr x) (a.eval x):=by
 cases x with
 | tmp t=>exact h t
 | const v=>exact VR.of_flat hx
 | global g=>cases hx
 | func f=>exact .func rfl rfl (fun i a _=>absurd a (by simp)) (fun i a _=>absurd a (by simp))
theorem B6 {tm:Array Value} {d i:Nat} {v:Value} (hd:d < tm.size):(tm.setIfInBounds d v).getD i undef=if i=d then v else tm.getD i undef:=by
 simp only [Array.getD_eq_getD_getElem?,Array.getElem?_setIfInBounds];by_cases h:i=d
 ·subst h;simp [hd]
 ·simp [h,Ne.symm h]
theorem xP.set {fr:Tr Value} {tm:Array Value} (h:xP γ fr tm) {v v':Value} (hv:VR γ v v') {d:Nat} (hd:d < tm.size):xP γ (fr.set d v) (tm.setIfInBounds d v'):=by
 intro i;rw [Tr.eY,B6 hd];by_cases hi:i=d
 ·rw [if_pos hi,if_pos hi];exact hv
 ·rw [if_neg hi,if_neg hi];exact h i
theorem xP.put {fr:Tr Value} {a:Act} (h:xP γ fr a.tmps) {v v':Value} (hv:VR γ v v') {dst:Option Tmp} (hd:∀ d,dst=some d→d < a.tmps.size):xP γ (cD fr dst v) (a.put dst v').tmps:=by
 cases dst with
 | none=>exact h
 | some d=>exact h.set hv (hd d rfl)
theorem jy (a:Act) (dst:Option Tmp) (v:Value):(a.put dst v).tmps.size=a.tmps.size:=by cases dst <;> simp [Act.put]
theorem put_defers (a:Act) (dst:Option Tmp) (v:Value):(a.put dst v).defers=a.defers:=by cases dst <;> rfl
theorem VR.B7 {v:Value} {b:Bool} (h:VR γ v (.bool b)):v=.bool b:=by cases h with|flat=>rfl
theorem Au {fr:Tr Value} {tm:Array Value} (ops:Array Oper) (o:Oper) (h:∀ g want q d,o.guard=some (g,want)→ops[g]?=some q→q.dst=some d→VR γ ((fr.get d).getD undef) (tm.getD d undef)):Region.wanted o (yielded ops tm)=aY ops.toList fr o.guard:=by
 unfold Region.wanted aY
 cases hgu:o.guard with
 | none=>rfl
 | some p =>
  obtain ⟨j,want⟩:=p;simp only [yielded,Array.getElem?_toList]
  cases hoq:ops[j]? with
  | none=>rfl
  | some q =>
   obtain ⟨dst,op,ty,pos,after,guard⟩:=q
   cases dst with
   | none=>rfl
   | some d =>
    simp only [Option.bind_some];have hd:=h j want _ d hgu hoq rfl;rw [Array.getD_eq_getD_getElem?] at hd
    cases hf:fr.get d with
    | none =>
     rw [hf] at hd;simp only
     cases ht:tm[d]? with
     | none=>rfl
     | some u =>
      rw [ht] at hd;simp at hd;cases u <;> first|rfl|skip
      have:=hd.B7;cases this
    | some x =>
     rw [hf] at hd;simp at hd
     cases x with
     | bool b =>
      have:=hd.cT rfl
      cases ht:tm[d]? with
      | none=>rw [ht] at this;cases this
      | some u =>rw [ht] at this;simp at this;subst this;cases b <;> cases want <;> rfl
     | _ =>
      cases ht:tm[d]? with
      | none=>rfl
      | some u =>rw [ht] at hd;simp at hd;cases u <;> first|rfl|(have:=hd.B7;cases this)
theorem IC {fr:Tr Value} {tm:Array Value} (h:xP γ fr tm) (ops:Array Oper) (o:Oper):Region.wanted o (yielded ops tm)=aY ops.toList fr o.guard :=
 Au ops o fun _ _ _ d _ _ _=>h d
theorem uy:∀ (l:List Value) (t:Tr Value) (i j:Nat),(setArgs t i l).get j=if i≤j∧j < i+l.length then l[j - i]? else t.get j:=by
 intro l
 induction l with
 | nil=>intro t i j;simp [setArgs];intro h1 h2;omega
 | cons v vs ih =>
  intro t i j;rw [setArgs,ih,Tr.eY];simp only [List.length_cons];by_cases hj:j=i
  ·subst hj;simp;omega
  ·by_cases h:i≤j∧j < i+(vs.length+1)
   ·rw [if_pos h,if_pos (by omega)];obtain ⟨q,rfl⟩:∃ q,j=i+1+q:=⟨j - (i+1),by omega⟩;rw [show i+1+q - (i+1)=q by omega,show i+1+q - i=q+1 by omega];rfl
   ·rw [if_neg h,if_neg (by omega),if_neg hj]
theorem xP.args {args args':List Value} (h:cv γ args args') (n:Nat):xP γ (setArgs .leaf 0 args) (args'.toArray++Array.replicate n undef):=by
 intro i;rw [uy,Array.getD_eq_getD_getElem?,Array.getElem?_append];have hl:=h.1;by_cases hi:i < args.length
 ·rw [if_pos ⟨qq5 _,by omega⟩,if_pos (by simp;omega)];have h1:args[i]?=some (args[i]'hi):=List.getElem?_eq_getElem hi;obtain ⟨v',e1,e2⟩:=h.get h1;simp only [Nat.sub_zero,h1,Option.getD_some,List.getElem?_toArray,e1];exact e2
 ·rw [if_neg (by omega),if_neg (by simp;omega)];have:(Array.replicate n undef)[i - args'.toArray.size]?.getD undef=undef:=by rw [Array.getElem?_replicate];split <;> rfl
  rw [this];exact VR.undef γ
theorem B8:∀ (l:List (Tmp × Value)) (l':List (Tmp × Value)) (fr:Tr Value) (tm:Array Value),xP γ fr tm→l.length=l'.length →
  (∀ (i:Nat) (p p':Tmp × Value),l[i]?=some p→l'[i]?=some p'→p.1=p'.1∧VR γ p.2 p'.2∧p'.1 < tm.size) →
  xP γ (fh fr l) (l'.foldl (fun tmps (t,a)=>tmps.setIfInBounds t a) tm)∧(l'.foldl (fun tmps (t,a)=>tmps.setIfInBounds t a) tm).size=tm.size:=by
 intro l
 induction l with
 | nil=>intro l' fr tm h hl _;cases l' with
  | nil=>exact ⟨h,rfl⟩
  | cons=>cases hl
 | cons p l ih =>
  intro l' fr tm h hl hh
  cases l' with
  | nil=>cases hl
  | cons p' l' =>
   obtain ⟨e1,e2,e3⟩:=hh 0 p p' rfl rfl;obtain ⟨d,v⟩:=p;obtain ⟨d',v'⟩:=p';simp only at e1 e2 e3;subst e1;have hsz:(tm.setIfInBounds d v').size=tm.size:=by simp
   obtain ⟨r1,r2⟩:=ih l' (fr.set d v) (tm.setIfInBounds d v') (h.set e2 e3) (by simpa using hl) fun i p p' a b=>by rw [hsz];exact hh (i+1) p p' a b
   exact ⟨r1,r2.trans hsz⟩
theorem G2 (hT:cx T) {g:aH} (h:HR γ g w) {t:TypeId} {a a' v:Value} {e:bS} (ho:iw T t a g=some (v,e)) (ha:VR γ a a') :
  ∃ ad v',a'=.pointer (some ad)∧(loadVar t ad).run T.P w=.ok v' w∧VR γ v v':=by
 unfold iw at ho
 cases hk:addr? a with
 | none=>rw [hk] at ho;cases ho
 | some ko =>
  obtain ⟨k,o⟩:=ko;rw [hk] at ho;simp only at ho
  cases hc:cells? (g k) with
  | none=>rw [hc] at ho;cases ho
  | some c0 =>
   obtain ⟨cs,own,es⟩:=c0
   cases hty:T.ty.get t with
   | none=>rw [hc,hty] at ho;cases ho
   | some r =>
    obtain ⟨i,hi,hsz,_,_,hu,_⟩:=hT.ty t r hty;have hag:=hT.agg hty;obtain ⟨und,s,bytes,zero,agg,cz,cM⟩:=r;rw [hc,hty] at ho;simp only at ho hsz hu hag;obtain ⟨b,d,hl,rfl⟩:=ha.addr hk;obtain ⟨cs',el,fz,hw,hcr,_⟩:=h.cells hc hl
    cases agg with
    | true =>simp only [cond_true,Option.map_eq_some_iff,Prod.mk.injEq] at ho;obtain ⟨c,hcut,rfl,rfl⟩:=ho;obtain ⟨c',hv,hlen,hat,_,_⟩:=hcr.Is hcut;refine ⟨_,.agg c'.toArray,rfl,?_,VR.kA hv⟩;have hload:=run_loadCells_list (P:=T.P) w ⟨b,d+o,none⟩ c' (fun j v hj=>by rw [Addr.add_lit,rJ hw];exact hat j v hj);rw [hlen,←hsz] at hload;simp [loadVar,pO hu,←hag,dN hi,hload]
    | false =>simp only [cond_false,Option.map_eq_some_iff,Prod.mk.injEq] at ho;obtain ⟨x,hx,rfl,rfl⟩:=ho;obtain ⟨x',h1,h2⟩:=hcr o x hx;refine ⟨_,x',rfl,?_,h2⟩;simp [loadVar,pO hu,←hag,load,Sem.run,rJ hw,h1]
theorem eR {α β:Type} {P:Program} {s:Sem α} {k:α→Sem β} {a:α} {w w1:World} (h:s.run P w=.ok a w1):(s >>= k).run P w=(k a).run P w1:=by simp [h]
def Ph (tm:Array Value):ResultVar→Sem Value
 | .tmp t=>pure (tm.getD t undef)
 | .cell a t=>do loadVar t (←asAddr (tm.getD a undef))
theorem Ee (fn:Func) (tm:Array Value):results fn tm=(do
  let vs ←fn.results.mapM (Ph tm)
  pure (if h:vs.size=1 then vs[0] else .tuple vs)):=by
 unfold results
 congr 2
theorem B9 (hT:cx T) {fr:Tr Value} {tm:Array Value} (h:HR γ H.get w) (hf:xP γ fr tm):∀ (rs:List ResultVar) (vs:List Value),ld T fr H rs=some vs →
  ∃ vs',(List.mapM (m:=Sem) (Ph tm) rs).run T.P w=.ok vs' w∧cv γ vs vs':=by
 intro rs
 induction rs with
 | nil=>intro vs hv;cases hv;exact ⟨[],rfl,cv.nil γ⟩
 | cons r rs ih =>
  intro vs hv;rw [ld] at hv
  cases hr:yK T fr H r with
  | none=>rw [hr] at hv;cases hv
  | some v =>
   rw [hr] at hv;simp only [Option.map_eq_some_iff] at hv;obtain ⟨us,hus,rfl⟩:=hv;obtain ⟨us',h1,h2⟩:=ih us hus
   cases r with
   | tmp t =>simp only [yK,qq9] at hr;subst hr;refine ⟨tm.getD t undef :: us',?_,.cons (hf t) h2⟩;rw [List.mapM_cons,eR rfl,eR h1];rfl
   | cell a t =>simp only [yK,Option.map_eq_some_iff] at hr;obtain ⟨⟨x,e⟩,hx,rfl⟩:=hr;obtain ⟨ad,v',e1,e2,e3⟩:=G2 hT h hx (hf a);refine ⟨v' :: us',?_,.cons e3 h2⟩;rw [List.mapM_cons,eR (a:=v') (w1:=w) (by simp only [Ph];rw [e1];simp [asAddr,e2]),eR h1];rfl
theorem Av {vs vs':List Value} (h:cv γ vs vs'):VR γ (dn vs) (dn vs'):=by
 match vs,vs',h with
 | [],[],h=>exact VR.cF h
 | [v],[v'],h=>exact h.2 0 v v' rfl rfl
 | a :: b :: l,a' :: b' :: l',h=>exact VR.cF h
 | [],_ :: _,h=>exact absurd h.1 (by simp)
 | [_],[],h=>exact absurd h.1 (by simp)
 | [_],_ :: _ :: _,h=>exact absurd h.1 (by simp)
 | _ :: _ :: _,[],h=>exact absurd h.1 (by simp)
 | _ :: _ :: _,[_],h=>exact absurd h.1 (by simp)
theorem G3 (hT:cx T) {fr:Tr Value} {tm:Array Value} (h:HR γ H.get w) (hf:xP γ fr tm) {fn:Func} {vs:List Value} (hv:ld T fr H fn.results.toList=some vs) :
  ∃ v',(results fn tm).run T.P w=.ok v' w∧VR γ (dn vs) v':=by
 obtain ⟨vs',h1,h2⟩:=B9 hT h hf fn.results.toList vs hv;refine ⟨dn vs',?_,Av h2⟩;rw [Ee,Array.mapM_eq_mapM_toList];rw [eR (a:=vs'.toArray) (w1:=w) (by rw [map_eq_pure_bind,eR h1];rfl)]
 match vs' with
 | []=>rfl
 | [v]=>rfl
 | a :: b :: l=>simp [dn]
end
end Go.RM
