/-
  An abstract machine, and that its runs are the model's. Lemmas alone; no condition.
-/
import Derived.Test.YtlpmfgmldmdggaaGreatR1
namespace Go.RM
open Go.RowKit
section
variable {T : bC} {γ : Gm} {g : aG} {w : World} {n : Nat}
def nr (γ:Gm):Option Value→Option Value→Prop
 | none,none=>True
 | some a,some b=>VR γ a b
 | _,_=>False
theorem mY {P:Program} {lo hi lo' hi':Option Value} {l hv len c':Nat} (hl:di 0 lo=some l) (hh:di len hi=some hv) (c1:l≤hv) (c2:hv≤c')
  (rlo:nr γ lo lo') (rhi:nr γ hi hi'):(Instr.sliceBounds true len c' lo' hi' none).run P w=.ok (l,hv,c') w:=by
 have q1:((0:Int)≤(hv:Int)∧(hv:Int)≤(c':Int))=True:=eq_true (by omega);have q2:((0:Int)≤(l:Int)∧(l:Int)≤(hv:Int))=True:=eq_true (by omega)
 cases lo with
 | none =>
  cases lo' with
  | some _=>exact rlo.elim
  | none =>
   simp only [di,qq9] at hl;subst hl
   cases hi with
   | none =>
    cases hi' with
    | some _=>exact rhi.elim
    | none =>simp only [di,qq9] at hh;subst hh;simp [Instr.sliceBounds]
   | some a =>
    cases hi' with
    | none=>exact rhi.elim
    | some a' =>obtain ⟨kk,rfl⟩:=dO hh;obtain rfl:=VR.bI rhi rfl;simp only [Instr.sliceBounds,Instr.sliceBound,asIntOf,Sem.run_bind,Sem.run_pure,Result.andThen_ok,if_true,Int.toNat_natCast,q1]
 | some b =>
  cases lo' with
  | none=>exact rlo.elim
  | some b' =>
   obtain ⟨kk,rfl⟩:=dO hl;obtain rfl:=VR.bI rlo rfl
   cases hi with
   | none =>
    cases hi' with
    | some _=>exact rhi.elim
    | none =>simp only [di,qq9] at hh;subst hh;simp only [Instr.sliceBounds,Instr.sliceBound,asIntOf,Sem.run_bind,Sem.run_pure,Result.andThen_ok,Option.isSome_none,Bool.false_eq_true,if_false,if_true,Int.toNat_natCast,q2]
   | some a =>
    cases hi' with
    | none=>exact rhi.elim
    | some a' =>obtain ⟨kk,rfl⟩:=dO hh;obtain rfl:=VR.bI rhi rfl;simp only [Instr.sliceBounds,Instr.sliceBound,asIntOf,Sem.run_bind,Sem.run_pure,Result.andThen_ok,Option.isSome_none,Bool.false_eq_true,if_false,if_true,Int.toNat_natCast,q1,q2]
theorem zZ (hT:bD T) (h:HR γ g w) {t:TypeId} {x x':Value} {lo hi lo' hi':Option Value} {v:Value}
  (ho:pg T t x lo hi=some v) (hx:VR γ x x') (rlo:nr γ lo lo') (rhi:nr γ hi hi') :
  aW T.P γ g w n (do Pure.pure (Next.value (←Instr.sliceAt t x' lo' hi' none))) v .none:=by
 unfold pg at ho
 cases he:elem? T t with
 | none=>rw [he] at ho;cases ho
 | some inf =>
  rw [he] at ho;simp only at ho;obtain ⟨el,i,hut,hii,hsz,_,_⟩:=iz hT he
  cases x with
  | slice base len cp =>
   simp only at ho
   cases hl:di 0 lo with
   | none=>rw [hl] at ho;cases ho
   | some l =>
    cases hh:di len hi with
    | none=>rw [hl,hh] at ho;cases ho
    | some hv =>
     rw [hl,hh] at ho;simp only at ho
     cases hcd:(Nat.ble l hv && Nat.ble hv len && Nat.ble 1 inf.size) with
     | false =>
      rw [hcd] at ho;simp only [cond_false] at ho;unfold CR at ho;split at ho
      ·rename_i k o
       cases hce:(Nat.ble (l+1) hv && Nat.ble (len+3) cp && Nat.ble (hv+3) cp) with
       | false=>rw [hce] at ho;cases ho
       | true =>
        rw [hce] at ho;simp only [cond_true,qq9] at ho;subst ho;simp only [qq7] at hce;have c1:=Nat.le_of_ble_eq_true hce.1.1;have c2:=Nat.le_of_ble_eq_true hce.1.2;have c3:=Nat.le_of_ble_eq_true hce.2
        cases hx with
        | flat hf=>simp [bf] at hf
        | cI hne ht0 h20=>omega
        | slice hl' hn ht hlo' hk' =>
         rename_i b d c';have hk2:=hk' c2;have run:(Instr.sliceAt t (.slice (some ⟨b,d+o,none⟩) len c') lo' hi' none).run T.P w=.ok (.slice (if c'=l then some ⟨b,d+o,none⟩ else (some ⟨b,d+o,none⟩:Option Addr).map (·.add (l * inf.size))) (hv - l) (c' - l)) w:=by simp only [Instr.sliceAt,Instr.slice,Sem.run_bind,bQ hut,Result.andThen_ok,mY hl hh (c':=c') (by omega) (by omega) rlo rhi,de hii,hsz,Sem.run_pure]
         refine .pure h (aU run) ?_;rw [if_neg (by omega),Option.map_some,Addr.add_lit,Nat.add_assoc d o];exact VR.slice hl' (by omega) (fun e=>by omega) (fun e=>by omega) (fun e=>by omega)
      ·cases ho
     | true =>
      rw [hcd] at ho;simp only [cond_true] at ho;simp only [qq7] at hcd;have c1:=Nat.le_of_ble_eq_true hcd.1.1;have c2:=Nat.le_of_ble_eq_true hcd.1.2;have bounds:∀ c',len≤c'→(Instr.sliceBounds true len c' lo' hi' none).run T.P w=.ok (l,hv,c') w:=fun c' hc'=>mY hl hh c1 (by omega) rlo rhi;have run:∀ (a':Option Addr) (c':Nat),len≤c'→(Instr.sliceAt t (.slice a' len c') lo' hi' none).run T.P w=.ok (.slice (if c'=l then a' else a'.map (·.add (l * inf.size))) (hv - l) (c' - l)) w:=by intro a' c' hc';simp only [Instr.sliceAt,Instr.slice,Sem.run_bind,bQ hut,Result.andThen_ok,bounds c' hc',de hii,hsz,Sem.run_pure]
      cases base with
      | none =>
       simp only at ho
       cases hz:(Nat.beq len 0 && Nat.beq cp 0) with
       | false=>rw [hz] at ho;cases ho
       | true =>
        rw [hz] at ho;simp only [cond_true,qq9] at ho;subst ho;simp only [qq7] at hz;have z1:=Nat.eq_of_beq_eq_true hz.1;have z2:=Nat.eq_of_beq_eq_true hz.2;subst z1;subst z2;obtain rfl:=hx.bI rfl;have e1:hv=0:=by omega
        have e2:l=0:=by omega
        subst e1;subst e2;exact .pure h (aU (by rw [run none 0 (qq6 _)];simp)) (.flat rfl)
      | some ad =>
       obtain ⟨k,o,sp⟩:=ad
       cases sp with
       | some s=>cases ho
       | none =>
        simp only [qq9] at ho;subst ho
        have told:∀ c',len≤c'→(cp=len→c'=len)→(len+3≤cp→cp≤c'+3) →
          ((bif Nat.beq hv len && Nat.beq cp len then hv - l else bif Nat.beq hv len then hv - l+2 else (bif Nat.ble (len+3) cp then cp - l else hv - l+3+(len - hv)))=hv - l→c' - l=hv - l)∧(bif Nat.beq hv len && Nat.beq cp len then hv - l else bif Nat.beq hv len then hv - l+2 else (bif Nat.ble (len+3) cp then cp - l else hv - l+3+(len - hv))) ≠ hv - l+1 ∧
          (hv - l+3≤(bif Nat.beq hv len && Nat.beq cp len then hv - l else bif Nat.beq hv len then hv - l+2 else (bif Nat.ble (len+3) cp then cp - l else hv - l+3+(len - hv)))→(bif Nat.beq hv len && Nat.beq cp len then hv - l else bif Nat.beq hv len then hv - l+2 else (bif Nat.ble (len+3) cp then cp - l else hv - l+3+(len - hv)))≤c' - l+3) ∧
          (hv=len→(bif Nat.beq hv len && Nat.beq cp len then hv - l else bif Nat.beq hv len then hv - l+2 else (bif Nat.ble (len+3) cp then cp - l else hv - l+3+(len - hv)))≤hv - l+2):=by
         intro c' hc' ht hkk
         cases hb:(Nat.beq hv len && Nat.beq cp len) with
         | true =>simp only [qq7] at hb;have b1:=Nat.eq_of_beq_eq_true hb.1;have b2:=Nat.eq_of_beq_eq_true hb.2;have:=ht b2;simp only [cond_true];exact ⟨fun _=>by omega,by omega,fun _=>by omega,fun _=>by omega⟩
         | false =>
          simp only [cond_false]
          cases hb2:Nat.beq hv len with
          | true =>have b1:=Nat.eq_of_beq_eq_true hb2;simp only [cond_true];exact ⟨fun e=>by omega,by omega,fun e=>by omega,fun _=>by omega⟩
          | false =>
           have b1:hv ≠ len:=fun e=>by subst e;rw [Nat.beq_refl] at hb2;cases hb2
           simp only [cond_false]
           cases hb3:Nat.ble (len+3) cp with
           | true =>have b3:=Nat.le_of_ble_eq_true hb3;have b4:=hkk b3;simp only [cond_true];exact ⟨fun e=>by omega,by omega,fun e=>by omega,fun e=>absurd e b1⟩
           | false =>simp only [cond_false];exact ⟨fun e=>by omega,by omega,fun e=>by omega,fun e=>absurd e b1⟩
        cases hx with
        | flat hf=>simp [bf] at hf
        | cI hne ht0 h20 =>
         rename_i c' a';have e1:hv=0:=by omega
         have e2:l=0:=by omega
         subst e1;subst e2;have tl:=told c' (qq5 _) (fun e=>ht0 e) (fun e=>by omega);refine .pure h (aU (run (some a') c' (qq5 _))) ?_;have hsome:∃ a'',(if c'=0 then some a' else (some a').map (·.add (0 * inf.size)))=some a'':=by split <;> exact ⟨_,rfl⟩
         obtain ⟨a'',ha''⟩:=hsome;rw [ha''];exact VR.cI (fun e=>tl.2.1 (by simpa using e)) (fun e=>by have:=tl.1 (by simpa using e);simpa using this) (by have:=tl.2.2.2 rfl;simpa using this)
        | slice hl' hn ht hlo' hk' =>
         rename_i b d c';have tl:=told c' hn ht hk';refine .pure h (aU (run _ c' hn)) ?_;by_cases hcl:c'=l
         ·rw [if_pos hcl];have e1:hv - l=0:=by omega
          rw [e1] at tl ⊢;exact VR.cI (fun e=>tl.2.1 (by simpa using e)) (fun e=>by have:=tl.1 e;simpa using this) (by have:=tl.2.2.2 (by omega);simpa using this)
         ·rw [if_neg hcl,Option.map_some,Addr.add_lit,Nat.add_assoc d o];exact VR.slice hl' (by omega) tl.1 (fun e=>absurd e tl.2.1) tl.2.2.1
  | _=>cases ho
theorem tU {P:Program} {lo hi lo' hi':Option Value} {l hv len:Nat} (hl:di 0 lo=some l) (hh:di len hi=some hv) (c1:l≤hv) (c2:hv≤len)
  (rlo:nr γ lo lo') (rhi:nr γ hi hi'):(Instr.sliceBounds false len len lo' hi' none).run P w=.ok (l,hv,len) w:=by
 have q1:((0:Int)≤(hv:Int)∧(hv:Int)≤(len:Int))=True:=eq_true (by omega);have q2:((0:Int)≤(l:Int)∧(l:Int)≤(hv:Int))=True:=eq_true (by omega)
 cases lo with
 | none =>
  cases lo' with
  | some _=>exact rlo.elim
  | none =>
   simp only [di,qq9] at hl;subst hl
   cases hi with
   | none =>
    cases hi' with
    | some _=>exact rhi.elim
    | none =>simp only [di,qq9] at hh;subst hh;simp [Instr.sliceBounds]
   | some a =>
    cases hi' with
    | none=>exact rhi.elim
    | some a' =>obtain ⟨kk,rfl⟩:=dO hh;obtain rfl:=VR.bI rhi rfl;simp only [Instr.sliceBounds,Instr.sliceBound,asIntOf,Sem.run_bind,Sem.run_pure,Result.andThen_ok,Bool.false_eq_true,if_false,if_true,Int.toNat_natCast,q1]
 | some b =>
  cases lo' with
  | none=>exact rlo.elim
  | some b' =>
   obtain ⟨kk,rfl⟩:=dO hl;obtain rfl:=VR.bI rlo rfl
   cases hi with
   | none =>
    cases hi' with
    | some _=>exact rhi.elim
    | none =>simp only [di,qq9] at hh;subst hh;simp only [Instr.sliceBounds,Instr.sliceBound,asIntOf,Sem.run_bind,Sem.run_pure,Result.andThen_ok,Option.isSome_none,Bool.false_eq_true,if_false,if_true,Int.toNat_natCast,q2]
   | some a =>
    cases hi' with
    | none=>exact rhi.elim
    | some a' =>obtain ⟨kk,rfl⟩:=dO hh;obtain rfl:=VR.bI rhi rfl;simp only [Instr.sliceBounds,Instr.sliceBound,asIntOf,Sem.run_bind,Sem.run_pure,Result.andThen_ok,Option.isSome_none,Bool.false_eq_true,if_false,if_true,Int.toNat_natCast,q1,q2]
theorem uS (hT:bD T) (h:HR γ g w) {t:TypeId} {x x':Value} {lo hi lo' hi':Option Value} {v:Value}
  (ho:nT T t x lo hi=some v) (hx:VR γ x x') (rlo:nr γ lo lo') (rhi:nr γ hi hi') :
  aW T.P γ g w n (do Pure.pure (Next.value (←Instr.sliceAt t x' lo' hi' none))) v .none:=by
 unfold nT at ho;split at ho
 ·rename_i len e _ _ _ _ _ cD hty;obtain ⟨i,hi0,_,_,_,hu,hes⟩:=hT.ty t _ hty
  cases hk:addr? x with
  | none=>rw [hk] at ho;cases ho
  | some ko =>
   obtain ⟨k,o⟩:=ko
   cases hl:di 0 lo with
   | none=>rw [hk,hl] at ho;cases ho
   | some l =>
    cases hh:di len hi with
    | none=>rw [hk,hl,hh] at ho;cases ho
    | some hv =>
     rw [hk,hl,hh] at ho;simp only at ho
     cases hcd:(Nat.ble l hv && Nat.ble hv len && Nat.ble 1 cD) with
     | false=>rw [hcd] at ho;cases ho
     | true =>
      rw [hcd] at ho;simp only [cond_true,qq9] at ho;subst ho;simp only [qq7] at hcd;have c1:=Nat.le_of_ble_eq_true hcd.1.1;have c2:=Nat.le_of_ble_eq_true hcd.1.2;obtain ⟨b,d,hl2,rfl⟩:=hx.addr hk;obtain ⟨_,j,hj,he'⟩:=hes;have he':j.size=cD:=he'.symm;have run:(Instr.sliceAt t (.pointer (some ⟨b,d+o,none⟩)) lo' hi' none).run T.P w=.ok (.slice (some (if len=l then ⟨b,d+o,none⟩ else Addr.add ⟨b,d+o,none⟩ (l * cD))) (hv - l) (len - l)) w:=by simp only [Instr.sliceAt,Instr.sureAddr,Sem.run_bind,bQ hu,Result.andThen_ok,tU hl hh c1 c2 rlo rhi,de hj,he',Sem.run_pure]
      refine .pure h (aU run) ?_;by_cases hcl:len=l
      ·have e1:hv=len:=by omega
       subst hcl;subst e1;rw [if_pos rfl,Nat.sub_self];exact VR.cI (by rw [Nat.beq_refl];simp) (fun _=>rfl) (by rw [Nat.beq_refl];simp)
      ·rw [if_neg hcl,Addr.add_lit,Nat.add_assoc d o]
       cases hb:Nat.beq hv len with
       | true =>have:=Nat.eq_of_beq_eq_true hb;simp only [cond_true];exact VR.slice hl2 (by omega) (fun _=>by omega) (fun e=>by omega) (fun e=>by omega)
       | false =>simp only [cond_false];exact VR.slice hl2 (by omega) (fun e=>by omega) (fun e=>by omega) (fun e=>by omega)
 ·cases ho
theorem wO {P:Program} {lo lo':Option Value} {hi mx hi' mx':Value} {l hv mv len c':Nat} (hl:di 0 lo=some l) (hh:jr hi=some hv) (hm:jr mx=some mv) (c1:l≤hv) (c2:hv≤mv) (hc':mv≤c')
  (rlo:nr γ lo lo') (rhi:VR γ hi hi') (rmx:VR γ mx mx'):(Instr.sliceBounds true len c' lo' (some hi') (some mx')).run P w=.ok (l,hv,mv) w:=by
 have q1:((0:Int)≤(mv:Int)∧(mv:Int)≤(c':Int))=True:=eq_true (by omega);have q3:((0:Int)≤(hv:Int)∧(hv:Int)≤(mv:Int))=True:=eq_true (by omega);have q2:((0:Int)≤(l:Int)∧(l:Int)≤(hv:Int))=True:=eq_true (by omega);obtain ⟨k1,rfl⟩:=dO hh;obtain rfl:=VR.bI rhi rfl;obtain ⟨k2,rfl⟩:=dO hm;obtain rfl:=VR.bI rmx rfl
 cases lo with
 | none =>
  cases lo' with
  | some _=>exact rlo.elim
  | none =>simp only [di,qq9] at hl;subst hl;simp only [Instr.sliceBounds,Instr.sliceBound,asIntOf,Sem.run_bind,Sem.run_pure,Result.andThen_ok,if_true,Int.toNat_natCast,q1,q3]
 | some b =>
  cases lo' with
  | none=>exact rlo.elim
  | some b' =>obtain ⟨kk,rfl⟩:=dO hl;obtain rfl:=VR.bI rlo rfl;simp only [Instr.sliceBounds,Instr.sliceBound,asIntOf,Sem.run_bind,Sem.run_pure,Result.andThen_ok,Option.isSome_some,if_true,Int.toNat_natCast,q1,q2,q3]
theorem yA (hT:bD T) (h:HR γ g w) {t:TypeId} {x x':Value} {lo lo':Option Value} {hi mx hi' mx' v:Value}
  (ho:jw T t x lo hi mx=some v) (hx:VR γ x x') (rlo:nr γ lo lo') (rhi:VR γ hi hi') (rmx:VR γ mx mx') :
  aW T.P γ g w n (do Pure.pure (Next.value (←Instr.sliceAt t x' lo' (some hi') (some mx')))) v .none:=by
 unfold jw at ho
 cases he:elem? T t with
 | none=>rw [he] at ho;cases ho
 | some inf =>
  rw [he] at ho;simp only at ho;obtain ⟨el,i,hut,hii,hsz,_,_⟩:=iz hT he
  cases x with
  | slice base len cp =>
   simp only at ho
   cases hl:di 0 lo with
   | none=>rw [hl] at ho;cases ho
   | some l =>
    cases hh:jr hi with
    | none=>rw [hl,hh] at ho;cases ho
    | some hv =>
     cases hm:jr mx with
     | none=>rw [hl,hh,hm] at ho;cases ho
     | some m =>
      rw [hl,hh,hm] at ho;simp only at ho
      cases hcd:(Nat.ble l hv && Nat.ble hv m && Nat.ble m len && Nat.ble 1 inf.size) with
      | false=>rw [hcd] at ho;cases ho
      | true =>
       rw [hcd] at ho;simp only [cond_true] at ho;simp only [qq7] at hcd;have c1:=Nat.le_of_ble_eq_true hcd.1.1.1;have c2:=Nat.le_of_ble_eq_true hcd.1.1.2;have c3:=Nat.le_of_ble_eq_true hcd.1.2;have run:∀ (a':Option Addr) (c':Nat),len≤c'→(Instr.sliceAt t (.slice a' len c') lo' (some hi') (some mx')).run T.P w=.ok (.slice (if m=l then a' else a'.map (·.add (l * inf.size))) (hv - l) (m - l)) w:=by intro a' c' hc';simp only [Instr.sliceAt,Instr.slice,Sem.run_bind,bQ hut,Result.andThen_ok,wO hl hh hm c1 c2 (Nat.le_trans c3 hc') rlo rhi rmx,de hii,hsz,Sem.run_pure]
       cases base with
       | none =>
        simp only at ho
        cases hz:(Nat.beq len 0 && Nat.beq cp 0) with
        | false=>rw [hz] at ho;cases ho
        | true =>
         rw [hz] at ho;simp only [cond_true,qq9] at ho;subst ho;simp only [qq7] at hz;have z1:=Nat.eq_of_beq_eq_true hz.1;have z2:=Nat.eq_of_beq_eq_true hz.2;subst z1;subst z2;obtain rfl:=hx.bI rfl;have e0:m=0:=by omega
         have e1:hv=0:=by omega
         have e2:l=0:=by omega
         subst e0;subst e1;subst e2;exact .pure h (aU (by rw [run none 0 (qq6 _)];simp)) (.flat rfl)
       | some ad =>
        obtain ⟨k,o,sp⟩:=ad
        cases sp with
        | some s=>cases ho
        | none =>
         simp only [qq9] at ho;subst ho
         cases hx with
         | flat hf=>simp [bf] at hf
         | cI hne ht0 h20 =>
          rename_i c' a';have e0:m=0:=by omega
          have e1:hv=0:=by omega
          have e2:l=0:=by omega
          subst e0;subst e1;subst e2;refine .pure h (aU (run (some a') c' (qq5 _))) ?_;rw [if_pos rfl];exact VR.cI (by simp) (fun _=>rfl) (by simp)
         | slice hl' hn ht hlo' hk' =>
          rename_i b d c';refine .pure h (aU (run _ c' hn)) ?_;by_cases hcl:m=l
          ·obtain rfl:hv=m:=by omega
           subst hcl;rw [if_pos rfl,Nat.sub_self];exact VR.cI (by simp) (fun _=>rfl) (by simp)
          ·rw [if_neg hcl,Option.map_some,Addr.add_lit,Nat.add_assoc d o]
           cases hb:Nat.beq hv m with
           | true =>have:=Nat.eq_of_beq_eq_true hb;simp only [cond_true];exact VR.slice hl' (by omega) (fun _=>by omega) (fun e=>by omega) (fun e=>by omega)
           | false =>simp only [cond_false];exact VR.slice hl' (by omega) (fun e=>by omega) (fun e=>by omega) (fun e=>by omega)
  | _=>cases ho
theorem wP (hT:bD T) (h:HR γ g w) {t:TypeId} {x x' v:Value} {e:bY} (hn:e.news=true→γ.loc n=none) (ho:rK T n t x g=some (v,e)) (hx:VR γ x x') :
  aW T.P γ g w n (do Pure.pure (Next.value (←Instr.range t x'))) v e:=by
 unfold rK at ho;split at ho
 ·rename_i kt et _ _ _ _ _ _ m hty
  cases hm:map? (g m) with
  | none=>rw [hm] at ho;cases ho
  | some p =>
   obtain ⟨es,clock⟩:=p;rw [hm] at ho;simp only [qq9,Prod.mk.injEq] at ho;obtain ⟨rfl,rfl⟩:=ho;obtain ⟨i,_,_,_,_,hu,_⟩:=hT.ty t _ hty
   have hgr:g m=some (.map es clock):=by
    unfold map? at hm;split at hm
    ·simp at hm;obtain ⟨rfl,rfl⟩:=hm;assumption
    ·cases hm
   cases hx with
   | flat hf=>simp [bf] at hf
   | map hl =>
    rename_i b;obtain ⟨_,_,es',hw,_⟩:=h.gm m b 0 _ hgr hl;have hle:=Gm.l8 (b:=w.heap.size) (c:=0) (hn rfl)
    have hrun:(Instr.range t (.map (some b))).run T.P w=.ok (.pointer (some ⟨w.heap.size,0,none⟩)) (w.alloc (.mapIter (some b) clock #[] clock)):=by
     have hgo:(getObj b).run T.P w=.ok (.map es' clock) w:=by simp [getObj,Sem.run,hw]
     simp [Instr.range,bQ hu,hgo]
    refine ⟨_,_,γ.add n w.heap.size 0,.inl (aU hrun),hle,fun k hk=>Gm.bK _ _ _ (fun e=>Bool.noConfusion (hk e:true=false)),?_,VR.ptr (o:=0) (Gm.cq _ _ _ _),ju.new (obj:=_) rfl rfl rfl rfl⟩;refine HR.new (w:=w) h (hn rfl) (obj:=_) rfl ⟨rfl,h.base,b,hle.loc _ _ hl,?_⟩;show (w.heap.push _)[w.heap.size]?=_;simp
 ·rename_i s hty;simp only [qq9,Prod.mk.injEq] at ho;obtain ⟨rfl,rfl⟩:=ho;obtain ⟨i,_,_,_,_,hu,_⟩:=hT.ty t _ hty;obtain rfl:=hx.bI rfl;have hle:=Gm.l8 (b:=w.heap.size) (c:=0) (hn rfl);have hrun:(Instr.range t (.string s)).run T.P w=.ok (.pointer (some ⟨w.heap.size,0,none⟩)) (w.alloc (.stringIter s 0)):=by simp [Instr.range,bQ hu]
  refine ⟨_,_,γ.add n w.heap.size 0,.inl (aU hrun),hle,fun k hk=>Gm.bK _ _ _ (fun e=>Bool.noConfusion (hk e:true=false)),?_,VR.ptr (o:=0) (Gm.cq _ _ _ _),ju.new (obj:=_) rfl rfl rfl rfl⟩;refine HR.new (w:=w) h (hn rfl) (obj:=_) rfl ⟨rfl,h.base,?_⟩;show (w.heap.push _)[w.heap.size]?=_;simp
 ·cases ho
theorem yB {k b:Nat} {a0 a:bz} {obj0 obj:Obj} (h:HR γ g w) (h0:g k=some a0) (ho:a0.own=true) (hl:γ.loc k=some (b,0)) (hw:w.heap[b]?=some obj0)
  (hown:a.own=true) (ha:zT γ (w.heap.setIfInBounds b obj) k b 0 a) :
  HR γ (fX g k a) {w with heap:=w.heap.setIfInBounds b obj}∧ju γ g w γ (fX g k a) {w with heap:=w.heap.setIfInBounds b obj}∧(w.heap.setIfInBounds b obj)[b]?=some obj:=by
 have hlt:b < w.heap.size:=(Array.getElem?_eq_some_iff.1 hw).1;have hsz:(w.heap.setIfInBounds b obj).size=w.heap.size:=by simp
 have hne:∀ i,i ≠ b→(w.heap.setIfInBounds b obj)[i]?=w.heap[i]?:=fun i hi=>Array.getElem?_setIfInBounds_ne (Ne.symm hi);exact ⟨h.put h0 ho hl hsz hne (.inl hown) ha,ju.put h0 ho hl rfl rfl rfl hsz hne,by simp [hlt]⟩
theorem wQ (h:HR γ g w) {x x' v:Value} {e:bY} {ty:TypeId} (ho:jQ x g=some (v,e)) (hx:VR γ x x') :
  aW T.P γ g w n (do Pure.pure (Next.value (←Instr.next x' true ty))) v e:=by
 unfold jQ at ho;split at ho
 ·rename_i r hk
  cases hg:g r with
  | none=>rw [hg] at ho;cases ho
  | some gm =>
   rw [hg] at ho
   cases gm with
   | dL s pos =>
    simp only at ho;obtain ⟨b,d,hl,rfl⟩:=hx.addr hk;obtain ⟨rfl,hB,hw⟩:=h.gm r b d _ hg hl;have hgo:(getObj b).run T.P w=.ok (.stringIter s pos) w:=by simp [getObj,Sem.run,hw]
    cases hc:Nat.blt pos s.data.toList.length with
    | true =>
     rw [hc] at ho;simp only [cond_true,qq9,Prod.mk.injEq] at ho;obtain ⟨rfl,rfl⟩:=ho;have hlt:pos < s.size:=Nat.le_of_ble_eq_true hc;have hset:(setObj b (.stringIter s (pos+(Utf8.decode s pos).2))).run T.P w=.ok () {w with heap:=w.heap.setIfInBounds b (.stringIter s (pos+(Utf8.decode s pos).2))}:=by simp [setObj,Sem.run,hw]
     obtain ⟨q1,q2,q3⟩:=yB (a:=.dL s (pos+(Utf8.decode s pos).2)) (obj:=.stringIter s (pos+(Utf8.decode s pos).2)) h hg rfl hl hw rfl ⟨rfl,hB,by simp [(Array.getElem?_eq_some_iff.1 hw).1]⟩;refine ⟨.tuple #[.bool true,.int .i64 pos,.int .i32 (Utf8.decode s pos).1],_,γ,.inl (aU ?_),Gm.Le.refl γ,fun _ _=>rfl,q1,?_,q2⟩
     ·simp [Instr.next,hgo,hlt,hset,goInt]
     ·exact VR.cz (l:=[.bool true,.int .i64 pos,.int .i32 (Utf8.decode s pos).1]) (bV.of_flat rfl)
    | false =>
     rw [hc] at ho;simp only [cond_false,qq9,Prod.mk.injEq] at ho;obtain ⟨rfl,rfl⟩:=ho;have hlt:¬ (pos < s.size):=fun e=>by have:Nat.blt pos s.data.toList.length=true:=Nat.ble_eq_true_of_le e;rw [this] at hc;cases hc
     refine .pure h (aU (v:=.tuple #[.bool false]) ?_) (VR.cz (l:=[.bool false]) (bV.of_flat rfl));simp [Instr.next,hgo,hlt]
   | _=>cases ho
 ·cases ho
end
end Go.RM
namespace Go.RM
open Go.RowKit
section
variable {T : bC} {γ : Gm} {g : aG} {w : World} {n : Nat}
theorem qj (P:Program) {α β:Type} (x:Sem α) (f:α→Sem β):aK P (x >>= f)=(aK P x).bind fun a=>aK P (f a):=by
 show aK P (x.bind f)=_
 induction x with
 | pure a=>rfl
 | program k ih=>simp only [Sem.bind,aK];exact ih P
 | mark m k ih=>simp only [Sem.bind,aK];exact ih
 | _=>rfl
theorem mg (P:Program) {α:Type} (a:α):aK P (Pure.pure a)=some a:=rfl
def SameKeys (l l':List MapEntry):Prop:=l.map (·.key)=l'.map (·.key)
theorem SameKeys.z4 {e e':MapEntry} {l l':List MapEntry} (h:SameKeys (e :: l) (e' :: l')):e.key=e'.key∧SameKeys l l':=by simpa [SameKeys] using h
theorem qk (kind:TypeDesc) (k:Value):∀ (l l':List MapEntry) (i:Nat),SameKeys l l' →
  match Instr.findNow kind k l i with
  | none=>Instr.findNow kind k l' i=none
  | some none=>Instr.findNow kind k l' i=some none
  | some (some (j,_))=>∃ e,i≤j∧l'[j - i]?=some e∧Instr.findNow kind k l' i=some (some (j,e.val))
 | [],[],_,_=>rfl
 | [],_ :: _,_,h=>by simp [SameKeys] at h
 | _ :: _,[],_,h=>by simp [SameKeys] at h
 | e :: l,e' :: l',i,h=>by
  obtain ⟨h1,h2⟩:=h.z4;simp only [Instr.findNow,←h1]
  cases hs:Instr.sameNow kind k e.key with
  | none=>rfl
  | some b =>
   cases b with
   | true=>exact ⟨e',qq6 _,by simp,rfl⟩
   | false =>
    have ih:=qk kind k l l' (i+1) h2;simp only
    cases hf:Instr.findNow kind k l (i+1) with
    | none=>rw [hf] at ih;exact ih
    | some r =>
     rw [hf] at ih
     cases r with
     | none=>exact ih
     | some p =>obtain ⟨j,v⟩:=p;obtain ⟨x,a,b,c⟩:=ih;refine ⟨x,by omega,?_,c⟩;rw [show j - i=(j - (i+1))+1 from by omega];simpa using b
theorem mZ (P:Program) (kt:TypeId) (k:Value):∀ (l l':List MapEntry) (i:Nat) (r:Option (Nat × Value)),SameKeys l l'→aK P (Instr.findAsking kt k l i)=some r →
  match r with
  | none=>aK P (Instr.findAsking kt k l' i)=some none
  | some (j,_)=>∃ e,i≤j∧l'[j - i]?=some e∧aK P (Instr.findAsking kt k l' i)=some (some (j,e.val))
 | [],[],_,r,_,h=>by simp only [Instr.findAsking,mg,qq9] at h;subst h;rfl
 | [],_ :: _,_,_,h,_=>by simp [SameKeys] at h
 | _ :: _,[],_,_,h,_=>by simp [SameKeys] at h
 | e :: l,e' :: l',i,r,hk,h=>by
  obtain ⟨h1,h2⟩:=hk.z4;simp only [Instr.findAsking,qj,h1] at h ⊢
  cases hq:aK P (Op.equal kt k e'.key) with
  | none=>rw [hq] at h;cases h
  | some b =>
   rw [hq] at h;simp only [Option.bind_some] at h ⊢
   cases b with
   | true =>simp only [if_true,mg,qq9] at h ⊢;subst h;exact ⟨e',qq6 _,by simp,rfl⟩
   | false =>
    simp only [Bool.false_eq_true,if_false] at h ⊢;have ih:=mZ P kt k l l' (i+1) r h2 h
    cases r with
    | none=>exact ih
    | some p =>obtain ⟨j,v⟩:=p;obtain ⟨x,a,b,c⟩:=ih;refine ⟨x,by omega,?_,c⟩;rw [show j - i=(j - (i+1))+1 from by omega];simpa using b
theorem yC {P:Program} {kt:TypeId} {k:Value} {l l':List MapEntry} {r:Option (Nat × Value)} (hk:SameKeys l l') (h:aK P (Instr.findKey kt k l)=some r) :
  match r with
  | none=>aK P (Instr.findKey kt k l')=some none
  | some (j,_)=>∃ e,l'[j]?=some e∧aK P (Instr.findKey kt k l')=some (some (j,e.val)):=by
 unfold Instr.findKey at h ⊢;simp only [qj] at h ⊢
 cases hu:aK P (underlying kt) with
 | none=>rw [hu] at h;cases h
 | some d =>
  rw [hu] at h;simp only [Option.bind_some] at h ⊢;have hs:=qk d k l l' 0 hk
  cases hf:Instr.findNow d k l 0 with
  | none =>
   rw [hf] at h hs;simp only at h hs;simp only [hs];have:=mZ P kt k l l' 0 r hk h
   cases r with
   | none=>exact this
   | some p=>obtain ⟨j,v⟩:=p;obtain ⟨e,_,b,c⟩:=this;exact ⟨e,by simpa using b,c⟩
  | some q =>
   rw [hf] at h hs;simp only [mg,qq9] at h;subst h
   cases q with
   | none=>simp only at hs ⊢;rw [hs];rfl
   | some p =>obtain ⟨j,v⟩:=p;obtain ⟨e,_,b,c⟩:=hs;exact ⟨e,by simpa using b,by rw [c];rfl⟩
theorem jc.keys {es:List MapEntry} {es':Array MapEntry} (h:jc γ es es') (hf:es.all (fun e=>flat e.key)=true):SameKeys (es.map fun e=>{e with val:=.nilIface}) es'.toList:=by
 unfold SameKeys;rw [List.map_map];apply List.ext_getElem?;intro i;rw [List.getElem?_map,List.getElem?_map]
 cases he:es[i]? with
 | none =>
  have:es'.toList[i]?=none:=by rw [List.getElem?_eq_none_iff] at he ⊢;have:=h.1;simp;omega
  rw [this];rfl
 | some e =>
  have hi:i < es.length:=(List.getElem?_eq_some_iff.1 he).1;have hi':i < es'.size:=by have:=h.1;omega
  have he':es'.toList[i]?=some es'[i]:=by simp [hi']
  rw [he'];obtain ⟨h1,_,_⟩:=h.2 i e es'[i] he (by simp);have:=h1.cx (List.all_eq_true.1 hf e (List.mem_of_getElem? he));simp [this]
theorem rQ {P:Program} {emp:Bool} {kt:TypeId} {k k':Value} {es:List MapEntry} {es':Array MapEntry} {r:Option Nat} (h:ng P emp kt k es=some r) (he:jc γ es es') (hk:VR γ k k') :
  k'=k∧(∀ w:World,(Instr.checkKey emp 10000 kt k).run P w=.ok () w) ∧
  match r with
  | none=>∀ w:World,(Instr.findKey kt k es'.toList).run P w=.ok none w
  | some i=>∃ e e',es[i]?=some e∧es'[i]?=some e'∧VR γ e.val e'.val∧e'.key=e.key∧flat e.key=true∧e.born=e'.born∧∀ w:World,(Instr.findKey kt k es'.toList).run P w=.ok (some (i,e'.val)) w:=by
 unfold ng at h
 cases hc:(flat k && es.all fun e=>flat e.key) with
 | false=>rw [hc] at h;cases h
 | true =>
  rw [hc] at h;simp only [cond_true] at h;simp only [qq7] at hc;have hke:=hk.cx hc.1
  cases hck:aK P (Instr.checkKey emp 10000 kt k) with
  | none=>rw [hck] at h;cases h
  | some u =>
   rw [hck] at h;simp only [Option.map_eq_some_iff] at h;obtain ⟨q,hq,rfl⟩:=h;refine ⟨hke,fun w=>fq P hck w,?_⟩;have hs:=yC (he.keys hc.2) hq
   cases q with
   | none=>exact fun w=>fq P hs w
   | some p =>
    obtain ⟨j,v⟩:=p;obtain ⟨e',a,b⟩:=hs;have hj':es'[j]?=some e':=by simpa using a
    have hjl:j < es.length:=by have:=(Array.getElem?_eq_some_iff.1 hj').1;have:=he.1;omega
    have hj:es[j]?=some es[j]:=List.getElem?_eq_getElem hjl;obtain ⟨x,y,z⟩:=he.2 j _ _ hj hj';have hfk:=List.all_eq_true.1 hc.2 _ (List.getElem_mem hjl);exact ⟨es[j],e',hj,hj',y,x.cx hfk,hfk,z,fun w=>fq P b w⟩
theorem jc.empty {es:List MapEntry} {es':Array MapEntry} (h:jc γ es es'):es'.isEmpty=es.isEmpty:=by
 have:=h.1
 cases hx:es'.isEmpty with
 | true =>
  have hz:es'=#[]:=by simpa using hx
  subst hz
  cases es with
  | nil=>rfl
  | cons a l=>simp at this
 | false =>
  cases es with
  | nil =>have hz:es'=#[]:=Array.eq_empty_of_size_eq_zero this.symm;subst hz;simp at hx
  | cons a l=>rfl
theorem map_some {a:Option bz} {es:List MapEntry} {c:Nat} (h:map? a=some (es,c)):a=some (.map es c):=by
 unfold map? at h;split at h
 ·simp at h;obtain ⟨rfl,rfl⟩:=h;rfl
 ·cases h
theorem pE (hT:bD T) {t kt:TypeId} {z:Option Value} (h:jN T t=some (kt,z)) :
  ∃ et,T.P.underlying t=some (.map kt et)∧∀ v,z=some v→∃ i,T.P.info? et=some i∧i.zero=some v:=by
 unfold jN at h;split at h
 ·rename_i k e _ _ _ _ _ _ hty;simp only [qq9,Prod.mk.injEq] at h;obtain ⟨rfl,rfl⟩:=h;obtain ⟨i,_,_,_,_,hu,_⟩:=hT.ty t _ hty;refine ⟨e,hu,fun v hv=>?_⟩
  cases he:T.ty.get e with
  | none=>rw [he] at hv;cases hv
  | some r =>rw [he] at hv;obtain ⟨i',h1,_,_,h4,_⟩:=hT.ty e r he;exact ⟨i',h1,h4.trans hv⟩
 ·cases h
theorem uT {v:Value} {r:Nat} (h:gA v=some r):v=.map (some r):=by
 unfold gA at h;split at h
 ·simp at h;subst h;rfl
 ·cases h
theorem dm (h:HR γ g w) {m m':Value} {r:Nat} {es:List MapEntry} {c:Nat} (hb:gA m=some r) (hm:map? (g r)=some (es,c)) (hv:VR γ m m') :
  ∃ b es',m'=.map (some b)∧γ.loc r=some (b,0)∧γ.B≤b∧w.heap[b]?=some (.map es' c)∧jc γ es es'∧(∀ P:Program,(getObj b).run P w=.ok (.map es' c) w):=by
 obtain rfl:=uT hb
 cases hv with
 | flat hf=>simp [bf] at hf
 | map hl =>rename_i b;obtain ⟨_,hB,es',hw,he⟩:=h.gm r b 0 _ (map_some hm) hl;exact ⟨b,es',rfl,hl,hB,hw,he,fun P=>by simp [getObj,Sem.run,hw]⟩
theorem yD (hT:bD T) (h:HR γ g w) {t:TypeId} {m m' k k' v:Value} {ok:Bool} (ho:kE T t m k ok g=some v) (hm:VR γ m m') (hk:VR γ k k') :
  aW T.P γ g w n (do Pure.pure (Next.value (←Instr.lookup t m' k' ok))) v .none:=by
 unfold kE at ho
 cases hmt:jN T t with
 | none=>rw [hmt] at ho;cases ho
 | some p =>
  obtain ⟨kt,z⟩:=p
  cases hb:gA m with
  | none=>rw [hmt,hb] at ho;cases ho
  | some r =>
   cases hmp:map? (g r) with
   | none=>rw [hmt,hb] at ho;simp only [Option.bind_some,hmp] at ho;cases ho
   | some q =>
    obtain ⟨es,c⟩:=q;rw [hmt,hb] at ho;simp only [Option.bind_some,hmp] at ho;obtain ⟨b,es',rfl,hl,hB,hw,he,hgo⟩:=dm h hb hmp hm;obtain ⟨et,hu,hz⟩:=pE hT hmt;unfold yh at ho
    cases hf:ng T.P es.isEmpty kt k es with
    | none=>rw [hf] at ho;simp at ho
    | some r' =>
     obtain ⟨rfl,hck,hfk⟩:=rQ hf he hk;rw [←he.empty] at hck
     cases r' with
     | some i =>
      obtain ⟨e,e',he1,he2,hvv,_,_,_,hrun⟩:=hfk
      cases z with
      | none=>rw [hf] at ho;simp at ho
      | some zv =>
       rw [hf] at ho;simp only [he1,Option.map_some,qq9] at ho;subst ho;refine .pure h (aU (v:=bif ok then .tuple #[e'.val,.bool true] else e'.val) ?_) ?_
       ·cases ok <;> simp [Instr.lookup,bQ hu,hgo,hck,hrun]
       ·cases ok with
        | false=>exact hvv
        | true=>exact VR.cz (.cons hvv (.cons (.flat rfl) (.nil γ)))
     | none =>
      cases z with
      | none=>rw [hf] at ho;simp at ho
      | some zv =>
       rw [hf] at ho;simp only at ho;obtain ⟨ie,hi1,hi2⟩:=hz zv rfl
       cases hfl:flat zv with
       | false=>rw [hfl] at ho;cases ho
       | true =>
        rw [hfl] at ho;simp only [cond_true,qq9] at ho;subst ho;refine .pure h (aU (v:=bif ok then .tuple #[zv,.bool false] else zv) ?_) ?_
        ·cases ok <;> simp [Instr.lookup,bQ hu,hgo,hck,hfk,iX hi1 hi2]
        ·cases ok with
         | false=>exact VR.of_flat hfl
         | true=>exact VR.cz (.cons (VR.of_flat hfl) (.cons (.flat rfl) (.nil γ)))
theorem jc.modify {es:List MapEntry} {es':Array MapEntry} (h:jc γ es es') (i:Nat) (f f':MapEntry→MapEntry)
  (hf:∀ e e',es[i]?=some e→es'[i]?=some e'→VR γ (f e).key (f' e').key∧VR γ (f e).val (f' e').val∧(f e).born=(f' e').born):jc γ (es.modify i f) (es'.modify i f'):=by
 refine ⟨by simp [h.1],fun j a b ha hb=>?_⟩;rw [List.getElem?_modify] at ha;rw [Array.getElem?_modify] at hb;by_cases hij:i=j
 ·subst hij;simp only [if_true] at ha hb;obtain ⟨e,h1,rfl⟩:=Option.map_eq_some_iff.1 ha;obtain ⟨e',h2,rfl⟩:=Option.map_eq_some_iff.1 hb;exact hf e e' h1 h2
 ·simp only [hij,if_false] at ha hb;have ha':es[j]?=some a:=by cases hx:es[j]? <;> simp_all
  exact h.2 j a b ha' hb
theorem jc.push {es:List MapEntry} {es':Array MapEntry} (h:jc γ es es') {e e':MapEntry} (he:VR γ e.key e'.key∧VR γ e.val e'.val∧e.born=e'.born):jc γ (es++[e]) (es'.push e'):=by
 refine ⟨by simp [h.1],fun j a b ha hb=>?_⟩;by_cases hj:j < es.length
 ·rw [List.getElem?_append_left hj] at ha;rw [Array.getElem?_push,if_neg (by have:=h.1;omega)] at hb;exact h.2 j a b ha hb
 ·rw [List.getElem?_append_right (by omega)] at ha;have hj2:j - es.length=0:=by have:=(List.getElem?_eq_some_iff.1 ha).1;simp at this;omega
  rw [hj2] at ha;simp at ha;subst ha;rw [Array.getElem?_push,if_pos (by have:=h.1;omega)] at hb;cases hb;exact he
theorem nW (h:HR γ g w) {r b:Nat} {es es2:List MapEntry} {c c2:Nat} {es' es2':Array MapEntry} (hm:map? (g r)=some (es,c)) (hl:γ.loc r=some (b,0)) (hB:γ.B≤b)
  (hw:w.heap[b]?=some (.map es' c)) (he:jc γ es2 es2') :
  HR γ (fX g r (.map es2 c2)) {w with heap:=w.heap.setIfInBounds b (.map es2' c2)}∧ju γ g w γ (fX g r (.map es2 c2)) {w with heap:=w.heap.setIfInBounds b (.map es2' c2)} ∧
   (∀ P:Program,(setObj b (.map es2' c2)).run P w=.ok () {w with heap:=w.heap.setIfInBounds b (.map es2' c2)}):=by
 have hlt:b < w.heap.size:=(Array.getElem?_eq_some_iff.1 hw).1;obtain ⟨q1,q2,_⟩:=yB (a:=.map es2 c2) (obj:=.map es2' c2) h (map_some hm) rfl hl hw rfl ⟨rfl,hB,es2',by simp [hlt],he⟩;exact ⟨q1,q2,fun P=>by simp [setObj,Sem.run,hw]⟩
theorem uU (hT:bD T) (h:HR γ g w) {t:TypeId} {m m' k k' v:Value} {e:bY} (ho:ek T t m k g=some (v,e)) (hm:VR γ m m') (hk:VR γ k k') :
  aW T.P γ g w n (do Pure.pure (Next.value (←Instr.mapEntry t m' k'))) v e:=by
 unfold ek at ho
 cases hmt:jN T t with
 | none=>rw [hmt] at ho;cases ho
 | some p =>
  obtain ⟨kt,z⟩:=p
  cases hb:gA m with
  | none=>rw [hmt,hb] at ho;cases ho
  | some r =>
   cases hmp:map? (g r) with
   | none=>rw [hmt,hb] at ho;simp only [hmp] at ho;cases ho
   | some q =>
    obtain ⟨es,c⟩:=q;rw [hmt,hb] at ho;simp only [hmp] at ho;obtain ⟨b,es',rfl,hl,hB,hw,he,hgo⟩:=dm h hb hmp hm;obtain ⟨et,hu,hz⟩:=pE hT hmt;unfold lB at ho
    cases hf:ng T.P false kt k es with
    | none=>rw [hf] at ho;simp at ho
    | some r' =>
     obtain ⟨rfl,hck,hfk⟩:=rQ hf he hk
     have hflk:flat k'=true:=by
      unfold ng at hf
      cases hc:(flat k' && es.all fun e=>flat e.key) with
      | false=>rw [hc] at hf;cases hf
      | true=>simp only [qq7] at hc;exact hc.1
     cases r' with
     | some i =>
      obtain ⟨x,x',he1,he2,hvv,hkk,hkf,hborn,hrun⟩:=hfk;rw [hf] at ho;simp only [he1] at ho
      cases hsb:Instr.sameBits 10000 x.key k' with
      | false=>rw [hsb] at ho;cases ho
      | true =>
       rw [hsb] at ho;simp only [cond_true,qq9,Prod.mk.injEq] at ho;obtain ⟨rfl,rfl⟩:=ho
       have hmod:jc γ (es.modify i fun e=>{e with key:=k'}) (es'.modify i fun e=>{e with key:=k'}) :=
        he.modify i _ _ fun a a' h1 h2=>by obtain ⟨_,y,zz⟩:=he.2 i a a' h1 h2;exact ⟨VR.of_flat hflk,y,zz⟩
       obtain ⟨q1,q2,q3⟩:=nW (c2:=c) h hmp hl hB hw hmod;refine ⟨.tuple #[x'.val,.int .i64 x'.born],_,γ,.inl (aU ?_),Gm.Le.refl γ,fun _ _=>rfl,q1,?_,q2⟩
       ·have hstay:(Instr.keyThatStays x'.key k').run T.P w=.ok k' w:=by simp [Instr.keyThatStays,hkk,hsb]
        simp [Instr.mapEntry,bQ hu,hgo,hck,hrun,he2,hstay,q3,goInt]
       ·rw [←hborn];exact VR.cz (.cons hvv (.cons (.flat rfl) (.nil γ)))
     | none =>
      cases z with
      | none=>rw [hf] at ho;simp at ho
      | some zv =>
       rw [hf] at ho;simp only at ho;obtain ⟨ie,hi1,hi2⟩:=hz zv rfl
       cases hfl:flat zv with
       | false=>rw [hfl] at ho;cases ho
       | true =>rw [hfl] at ho;simp only [cond_true,qq9,Prod.mk.injEq] at ho;obtain ⟨rfl,rfl⟩:=ho;have hpush:jc γ (es++[{key:=k',val:=zv,born:=c}]) (es'.push {key:=k',val:=zv,born:=c}):=he.push ⟨VR.of_flat hflk,VR.of_flat hfl,rfl⟩;obtain ⟨q1,q2,q3⟩:=nW (c2:=c+1) h hmp hl hB hw hpush;refine ⟨.tuple #[zv,.int .i64 c],_,γ,.inl (aU ?_),Gm.Le.refl γ,fun _ _=>rfl,q1,VR.cz (.cons (VR.of_flat hfl) (.cons (.flat rfl) (.nil γ))),q2⟩;simp [Instr.mapEntry,bQ hu,hgo,hck,hfk,iX hi1 hi2,q3,goInt]
end
end Go.RM
namespace Go.RM
open Go.RowKit
section
variable {T : bC} {γ : Gm} {g : aG} {w : World} {n : Nat}
def fh (γ:Gm):List MapEntry→List MapEntry→Prop
 | [],[]=>True
 | e :: l,e' :: l'=>(VR γ e.key e'.key∧VR γ e.val e'.val∧e.born=e'.born)∧fh γ l l'
 | _,_=>False
theorem fh.EV {γ:Gm}:∀ {l l':List MapEntry},l.length=l'.length →
  (∀ (i:Nat) (e e':MapEntry),l[i]?=some e→l'[i]?=some e'→VR γ e.key e'.key∧VR γ e.val e'.val∧e.born=e'.born)→fh γ l l'
 | [],[],_,_=>trivial
 | [],_ :: _,h,_=>by simp at h
 | _ :: _,[],h,_=>by simp at h
 | e :: l,e' :: l',h,hp=>⟨hp 0 e e' rfl rfl,fh.EV (by simpa using h) fun i a a' x y=>hp (i+1) a a' (by simpa using x) (by simpa using y)⟩
theorem jc.list {es:List MapEntry} {es':Array MapEntry} (h:jc γ es es'):fh γ es es'.toList :=
 fh.EV (by simpa using h.1) fun i e e' a b=>h.2 i e e' a (by simpa using b)
theorem fh.len {γ:Gm}:∀ {l l':List MapEntry},fh γ l l'→l.length=l'.length
 | [],[],_=>rfl
 | [],_ :: _,h=>h.elim
 | _ :: _,[],h=>h.elim
 | _ :: _,_ :: _,h=>by simp [fh.len h.2]
theorem fh.get {γ:Gm}:∀ {l l':List MapEntry} {i:Nat} {e':MapEntry},fh γ l l'→l'[i]?=some e'→∃ e,l[i]?=some e∧VR γ e.key e'.key∧VR γ e.val e'.val∧e.born=e'.born
 | [],[],i,e',_,h=>by simp at h
 | [],_ :: _,_,_,h,_=>h.elim
 | _ :: _,[],_,_,h,_=>h.elim
 | e :: l,x :: l',0,e',h,hx=>by simp at hx;subst hx;exact ⟨e,rfl,h.1⟩
 | e :: l,x :: l',i+1,e',h,hx=>by obtain ⟨y,a,b⟩:=fh.get (i:=i) h.2 (by simpa using hx);exact ⟨y,by simpa using a,b⟩
theorem fh.filter {γ:Gm} (p:Nat→Bool):∀ {l l':List MapEntry},fh γ l l'→fh γ (l.filter fun e=>p e.born) (l'.filter fun e=>p e.born)
 | [],[],_=>trivial
 | [],_ :: _,h=>h.elim
 | _ :: _,[],h=>h.elim
 | e :: l,e' :: l',h=>by
  have ih:=fh.filter p h.2;have hb:=h.1.2.2;by_cases hp:p e.born=true
  ·have hp':p e'.born=true:=by rw [←hb];exact hp
   rw [List.filter_cons_of_pos (by simpa using hp),List.filter_cons_of_pos (by simpa using hp')];exact ⟨h.1,ih⟩
  ·have hp':¬ p e'.born=true:=by rw [←hb];exact hp
   rw [List.filter_cons_of_neg (by simpa using hp),List.filter_cons_of_neg (by simpa using hp')];exact ih
theorem fh.append {γ:Gm}:∀ {a a' b b':List MapEntry},fh γ a a'→fh γ b b'→fh γ (a++b) (a'++b')
 | [],[],_,_,_,h=>h
 | [],_ :: _,_,_,h,_=>h.elim
 | _ :: _,[],_,_,h,_=>h.elim
 | _ :: _,_ :: _,_,_,h,k=>⟨h.1,fh.append h.2 k⟩
theorem fh.findIdx {γ:Gm} (p:Nat→Bool):∀ {l l':List MapEntry},fh γ l l'→(l.findIdx? fun e=>p e.born)=l'.findIdx? fun e=>p e.born
 | [],[],_=>rfl
 | [],_ :: _,h=>h.elim
 | _ :: _,[],h=>h.elim
 | e :: l,e' :: l',h=>by rw [List.findIdx?_cons,List.findIdx?_cons,h.1.2.2,fh.findIdx p h.2]
theorem fh.find {γ:Gm} (p:Nat→Bool):∀ {l l':List MapEntry},fh γ l l' →
  match l.find? (fun e=>p e.born) with
  | none=>l'.find? (fun e=>p e.born)=none
  | some e=>∃ e',l'.find? (fun e=>p e.born)=some e'∧VR γ e.key e'.key∧VR γ e.val e'.val∧e.born=e'.born
 | [],[],_=>rfl
 | [],_ :: _,h=>h.elim
 | _ :: _,[],h=>h.elim
 | e :: l,e' :: l',h=>by
  have hb:=h.1.2.2
  cases hp:p e.born with
  | true =>rw [List.find?_cons_of_pos (by simpa using hp),List.find?_cons_of_pos (by rw [←hb];simpa using hp)];exact ⟨e',rfl,h.1⟩
  | false =>rw [List.find?_cons_of_neg (by simp [hp]),List.find?_cons_of_neg (by rw [←hb];simp [hp])];exact fh.find p h.2
theorem rR (h:HR γ g w) {t:TypeId} {m m' s s' x x':Value} {e:bY} (ho:cQ m s x g=some e) (hm:VR γ m m') (hs:VR γ s s') (hx:VR γ x x') :
  aW T.P γ g w n (do Instr.entryStore t m' s' x';Pure.pure Next.skip) undef e:=by
 unfold cQ at ho
 cases hb:gA m with
 | none=>rw [hb] at ho;simp at ho
 | some r =>
  cases hi:intOf? s with
  | none=>rw [hb,hi] at ho;simp at ho
  | some born =>
   cases hmp:map? (g r) with
   | none=>rw [hb,hi] at ho;simp only [hmp] at ho;cases ho
   | some q =>
    obtain ⟨es,c⟩:=q;rw [hb,hi] at ho;simp only [hmp] at ho;obtain ⟨b,es',rfl,hl,hB,hw,he,hgo⟩:=dm h hb hmp hm;obtain ⟨kk,rfl⟩:=uO hi;obtain rfl:=hs.bI rfl
    cases hf:es.findIdx? (fun e=>(e.born:Int) == born) with
    | none=>rw [hf] at ho;cases ho
    | some i =>
     rw [hf] at ho;simp only [qq9] at ho;subst ho;have hf':es'.findIdx? (fun e=>(e.born:Int) == born)=some i:=by have:=fh.findIdx (fun k=>(k:Int) == born) he.list;rw [hf] at this;obtain ⟨l⟩:=es';rw [List.findIdx?_toArray];exact this.symm
     have hmod:jc γ (es.modify i fun e=>{e with val:=x}) (es'.modify i fun e=>{e with val:=x'}) :=
      he.modify i _ _ fun a a' h1 h2=>by obtain ⟨y,_,zz⟩:=he.2 i a a' h1 h2;exact ⟨y,hx,zz⟩
     obtain ⟨q1,q2,q3⟩:=nW (c2:=c) h hmp hl hB hw hmod;refine ⟨undef,_,γ,.inr ⟨qe ?_,rfl⟩,Gm.Le.refl γ,fun _ _=>rfl,q1,VR.undef γ,q2⟩;simp [Instr.entryStore,hgo,asInt,asIntOf,hf',q3]
theorem tV (hT:bD T) (h:HR γ g w) {t:TypeId} {m m' k k' x x':Value} {e:bY} (ho:dZ T t m k x g=some e) (hm:VR γ m m') (hk:VR γ k k') (hx:VR γ x x') :
  aW T.P γ g w n (do Instr.mapUpdate t m' k' x';Pure.pure Next.skip) undef e:=by
 unfold dZ at ho
 cases hmt:jN T t with
 | none=>rw [hmt] at ho;simp at ho
 | some p =>
  obtain ⟨kt,z⟩:=p
  cases hb:gA m with
  | none=>rw [hmt,hb] at ho;simp at ho
  | some r =>
   cases hmp:map? (g r) with
   | none=>rw [hmt,hb] at ho;simp only [hmp] at ho;cases ho
   | some q =>
    obtain ⟨es,c⟩:=q;rw [hmt,hb] at ho;simp only [hmp] at ho;obtain ⟨b,es',rfl,hl,hB,hw,he,hgo⟩:=dm h hb hmp hm;obtain ⟨et,hu,hz⟩:=pE hT hmt;unfold lZ at ho
    cases hf:ng T.P false kt k es with
    | none=>rw [hf] at ho;simp at ho
    | some r' =>
     obtain ⟨rfl,hck,hfk⟩:=rQ hf he hk
     have hflk:flat k'=true:=by
      unfold ng at hf
      cases hc:(flat k' && es.all fun e=>flat e.key) with
      | false=>rw [hc] at hf;cases hf
      | true=>simp only [qq7] at hc;exact hc.1
     cases r' with
     | some i =>
      obtain ⟨y,y',he1,he2,hvv,hkk,hkf,hborn,hrun⟩:=hfk;rw [hf] at ho;simp only [he1] at ho
      cases hsb:Instr.sameBits 10000 y.key k' with
      | false=>rw [hsb] at ho;cases ho
      | true =>
       rw [hsb] at ho;simp only [cond_true,qq9] at ho;subst ho
       have hmod:jc γ (es.modify i fun e=>{e with key:=k',val:=x}) (es'.modify i fun e=>{e with key:=k',val:=x'}) :=
        he.modify i _ _ fun a a' h1 h2=>by obtain ⟨_,_,zz⟩:=he.2 i a a' h1 h2;exact ⟨VR.of_flat hflk,hx,zz⟩
       obtain ⟨q1,q2,q3⟩:=nW (c2:=c) h hmp hl hB hw hmod;refine ⟨undef,_,γ,.inr ⟨qe ?_,rfl⟩,Gm.Le.refl γ,fun _ _=>rfl,q1,VR.undef γ,q2⟩;have hstay:(Instr.keyThatStays y'.key k').run T.P w=.ok k' w:=by simp [Instr.keyThatStays,hkk,hsb]
       simp [Instr.mapUpdate,bQ hu,hgo,hck,hrun,he2,hstay,q3]
     | none =>rw [hf] at ho;simp only [qq9] at ho;subst ho;have hpush:jc γ (es++[{key:=k',val:=x,born:=c}]) (es'.push {key:=k',val:=x',born:=c}):=he.push ⟨VR.of_flat hflk,hx,rfl⟩;obtain ⟨q1,q2,q3⟩:=nW (c2:=c+1) h hmp hl hB hw hpush;refine ⟨undef,_,γ,.inr ⟨qe ?_,rfl⟩,Gm.Le.refl γ,fun _ _=>rfl,q1,VR.undef γ,q2⟩;simp [Instr.mapUpdate,bQ hu,hgo,hck,hfk,q3]
theorem yE (h:HR γ g w) (hn:γ.loc n=none) {t:TypeId} :
  aW T.P γ g w n (do Pure.pure (Next.value (←Instr.makeMap t none))) (.map (some n)) (.new (.map [] 0)):=by
 have hle:=Gm.l8 (b:=w.heap.size) (c:=0) hn;refine ⟨.map (some w.heap.size),w.alloc (.map #[] 0),γ.add n w.heap.size 0,.inl (aU (by simp [Instr.makeMap])),hle,fun k hk=>Gm.bK _ _ _ (fun e=>Bool.noConfusion (hk e:true=false)),?_,VR.map (Gm.cq _ _ _ _),ju.new (obj:=_) rfl rfl rfl rfl⟩;refine HR.new (w:=w) h hn (obj:=_) rfl ⟨rfl,h.base,#[],?_,rfl,by simp⟩;show (w.heap.push _)[w.heap.size]?=_;simp
theorem CU (h:HR γ g w) {it it':Value} {r m since last c:Nat} {seen:List Nat} {es:List MapEntry} (ha:addr? it=some (r,0)) (hg:g r=some (.iter m since seen last))
  (hm:map? (g m)=some (es,c)) (hv:VR γ it it') :
  ∃ b bm es',it'=.pointer (some ⟨b,0,none⟩)∧γ.loc r=some (b,0)∧γ.B≤b∧γ.loc m=some (bm,0)∧w.heap[b]?=some (.mapIter (some bm) since seen.toArray last) ∧
   w.heap[bm]?=some (.map es' c)∧jc γ es es':=by
 obtain ⟨b,d,hl,rfl⟩:=hv.addr ha;obtain ⟨rfl,hB,bm,hlm,hw⟩:=h.gm r b d _ hg hl;obtain ⟨_,_,es',hw',he⟩:=h.gm m bm 0 _ (map_some hm) hlm;exact ⟨b,bm,es',rfl,hl,hB,hlm,hw,hw',he⟩
theorem z5 (h:HR γ g w) {it it' v:Value} {e:bY} (ho:rL it g=some (v,e)) (hv:VR γ it it') :
  aW T.P γ g w n (do Pure.pure (Next.value (←Instr.entry it'))) v e:=by
 unfold rL at ho;split at ho
 ·rename_i r ha
  cases hg:g r with
  | none=>rw [hg] at ho;cases ho
  | some gm =>
   rw [hg] at ho
   cases gm with
   | iter m since seen stepped =>
    simp only at ho
    cases hs:seen.getLast? with
    | none=>rw [hs] at ho;simp at ho
    | some stamp =>
     cases hm:map? (g m) with
     | none=>rw [hs,hm] at ho;simp at ho
     | some q =>
      obtain ⟨es,clock⟩:=q;rw [hs,hm] at ho;simp only at ho
      cases hc:Nat.beq clock stepped with
      | false=>rw [hc] at ho;cases ho
      | true =>
       rw [hc] at ho;simp only [cond_true,Option.map_eq_some_iff,Prod.mk.injEq] at ho;obtain ⟨x,hx,rfl,rfl⟩:=ho;have hcc:=Nat.eq_of_beq_eq_true hc;subst hcc;obtain ⟨b,bm,es',rfl,hl,hB,hlm,hw,hw',he⟩:=CU h ha hg hm hv;have hf:=fh.find (fun k=>k == stamp) he.list;rw [hx] at hf;obtain ⟨x',h1,h2,h3,_⟩:=hf;have h1':es'.find? (fun e=>e.born == stamp)=some x':=by rw [←Array.find?_toList];exact h1
       have hg1:(getObj b).run T.P w=.ok (.mapIter (some bm) since seen.toArray clock) w:=by simp [getObj,Sem.run,hw]
       have hg2:(getObj bm).run T.P w=.ok (.map es' clock) w:=by simp [getObj,Sem.run,hw']
       have hback:seen.toArray.back?=some stamp:=by simpa using hs
       refine .pure h (aU (v:=.tuple #[x'.key,x'.val]) ?_) (VR.cz (.cons h2 (.cons h3 (.nil γ))));simp [Instr.entry,hg1,hg2,hback,h1']
   | _=>cases ho
 ·cases ho
theorem BW (h:HR γ g w) {it it':Value} {ty:TypeId} {L:List (Value × bY)} (ho:pY it g=some L) (hv:VR γ it it') :
  ∃ v e,(v,e) ∈ L∧aW T.P γ g w n (do Pure.pure (Next.value (←Instr.next it' false ty))) v e:=by
 unfold pY at ho;split at ho
 ·rename_i r
  cases hg:g r with
  | none=>rw [hg] at ho;cases ho
  | some gm =>
   rw [hg] at ho
   cases gm with
   | iter m since seen last =>
    simp only at ho
    cases hm:map? (g m) with
    | none=>rw [hm] at ho;cases ho
    | some q =>
     obtain ⟨es,clock⟩:=q;rw [hm] at ho;simp only at ho;obtain ⟨b,bm,es',rfl,hl,hB,hlm,hw,hw',he⟩:=CU h rfl hg hm hv;have hg1:(getObj b).run T.P w=.ok (.mapIter (some bm) since seen.toArray last) w:=by simp [getObj,Sem.run,hw]
     have hg2:(getObj bm).run T.P w=.ok (.map es' clock) w:=by simp [getObj,Sem.run,hw']
     unfold uF at ho
     cases hgone:(!seen.isEmpty && !es.isEmpty && es.all (fun e=>Nat.ble last e.born)) with
     | true=>rw [hgone] at ho;cases ho
     | false =>
      rw [hgone] at ho;simp only [cond_false,qq9] at ho;subst ho;have hleft:fh γ (es.filter fun e=>!seen.contains e.born) (es'.filter fun e=>!seen.toArray.contains e.born).toList:=by rw [Array.toList_filter];have:=fh.filter (fun k=>!seen.contains k) he.list;simpa using this
      have hold:fh γ ((es.filter fun e=>!seen.contains e.born).filter fun e=>decide (e.born < since)) ((es'.filter fun e=>!seen.toArray.contains e.born).filter (·.born < since)).toList:=by rw [Array.toList_filter];exact fh.filter (fun k=>decide (k < since)) hleft
      have hnew:fh γ ((es.filter fun e=>!seen.contains e.born).filter fun e=>decide (e.born ≥ since)) ((es'.filter fun e=>!seen.toArray.contains e.born).filter (·.born ≥ since)).toList:=by rw [Array.toList_filter];exact fh.filter (fun k=>decide (k ≥ since)) hleft
      have hgone':(!seen.toArray.isEmpty && !es'.isEmpty && es'.all (·.born ≥ last))=false:=by
       have h1:es'.all (·.born ≥ last)=es.all (fun e=>Nat.ble last e.born):=by
        rw [←Array.all_toList]
        have:∀ {l l':List MapEntry},fh γ l l'→l'.all (fun e=>decide (e.born ≥ last))=l.all (fun e=>Nat.ble last e.born):=by
         intro l
         induction l with
         | nil=>intro l' hh;cases l' with
          | nil=>rfl
          | cons=>exact hh.elim
         | cons a l ih=>intro l' hh;cases l' with
          | nil=>exact hh.elim
          | cons a' l' =>simp only [List.all_cons,ih hh.2,ble_eq,←hh.1.2.2]
        exact this he.list
       rw [h1,he.empty];have h2:seen.toArray.isEmpty=seen.isEmpty:=by cases seen <;> rfl
       rw [h2];exact hgone
      generalize hO:(es.filter fun e=>!seen.contains e.born).filter (fun e=>decide (e.born < since))=old at hold ⊢;generalize hN:(es.filter fun e=>!seen.contains e.born).filter (fun e=>decide (e.born ≥ since))=new at hnew ⊢;generalize hO':(es'.filter fun e=>!seen.toArray.contains e.born).filter (·.born < since)=old' at hold;generalize hN':(es'.filter fun e=>!seen.toArray.contains e.born).filter (·.born ≥ since)=new' at hnew;have hboth:=hold.append hnew
      have hempty:old'.isEmpty=old.isEmpty:=by
       have:=hold.len
       cases old with
       | nil =>have hz:old'=#[]:=Array.eq_empty_of_size_eq_zero (by simpa using this.symm);subst hz;rfl
       | cons a l =>
        cases hx:old'.isEmpty with
        | false=>rfl
        | true =>
         have hz:old'=#[]:=by simpa using hx
         subst hz;simp at this
      let cand:Array (Option MapEntry):=(if old'.isEmpty then #[none] else #[])++(old'++new').map some
      have hpos:0 < cand.size:=by
       show 0 < ((if old'.isEmpty then #[none] else #[])++(old'++new').map some).size
       cases hx:old'.isEmpty with
       | true=>simp;omega
       | false =>
        have:0 < old'.size:=by
         rcases Nat.eq_zero_or_pos old'.size with h0|h0
         ·have:old'=#[]:=Array.eq_empty_of_size_eq_zero h0;subst this;simp at hx
         ·exact h0
        simp;omega
      obtain ⟨i,w1,hi,hw1,hch⟩:∃ i w1,i < cand.size∧(w1=w∨w1=w.drew)∧(choose (.mapNext cand.size)).run T.P w=.ok i w1:=by
       by_cases hf:cand.size≤1
       ·refine ⟨0,w,hpos,.inl rfl,?_⟩;simp [choose,Sem.run,Question.forced,hf]
       ·refine ⟨_,w.drew,Nat.mod_lt (w.tape w.drawn (.mapNext cand.size)) hpos,.inr rfl,?_⟩;have hf':decide (cand.size≤1)=false:=decide_eq_false hf;simp only [choose,Sem.run,Question.forced,hf',Bool.false_eq_true,if_false,Question.cut];rfl
      have hw1h:w1.heap=w.heap:=by rcases hw1 with rfl|rfl <;> rfl
      have hw1o:w1.os=w.os∧w1.tape=w.tape∧w1.output=w.output:=by rcases hw1 with rfl|rfl <;> exact ⟨rfl,rfl,rfl⟩
      have hH1:HR γ g w1:=h.same hw1h;have hU1:ju γ g w γ g w1:=ju.heap hw1h hw1o.1 hw1o.2.1 hw1o.2.2;obtain ⟨x,hx⟩:∃ x,cand[i]?=some x:=⟨_,Array.getElem?_eq_getElem hi⟩
      have hmain:∀ u wu,(match x with
        | some e=>(do setObj b (.mapIter (some bm) since (seen.toArray.push e.born) clock);Pure.pure (.tuple #[.bool true,e.key,e.val]):Sem Value)
        | none=>Pure.pure (.tuple #[.bool false])).run T.P w1=.ok u wu→(Instr.next (.pointer (some ⟨b,0,none⟩)) false ty).run T.P w=.ok u wu:=by
       intro u wu hu;have hx':((if old'.isEmpty=true then #[none] else #[])++Array.map some (old'++new'))[i]?=some x:=hx;simp only [Instr.next,Sem.run_bind,hg1,Result.andThen_ok,hg2,hgone',Bool.false_eq_true,if_false,hO',hN'];have hch':(choose (.mapNext ((if old'.isEmpty=true then #[none] else #[])++Array.map some (old'++new')).size)).run T.P w=.ok i w1:=hch;rw [hch'];simp only [Result.andThen_ok,hx']
       cases x with
       | none=>exact hu
       | some e=>simpa using hu
      by_cases hover:old'.isEmpty=true∧i=0
      ·
       obtain ⟨ho1,rfl⟩:=hover;have hxn:x=none:=by have hx':((if old'.isEmpty=true then #[none] else #[])++Array.map some (old'++new'))[0]?=some x:=hx;rw [if_pos ho1] at hx';rw [Array.getElem?_append_left (by simp)] at hx';simpa using hx'.symm
       subst hxn;refine ⟨.tuple #[.bool false],.none,?_,?_⟩
       ·rw [←hempty,ho1];simp
       ·refine ⟨.tuple #[.bool false],w1,γ,.inl (aU (hmain _ _ rfl)),Gm.Le.refl γ,fun _ _=>rfl,hH1,VR.cz (l:=[.bool false]) (bV.of_flat rfl),hU1⟩
      ·
       obtain ⟨j,e',hj,rfl⟩:∃ (j:Nat) (e':MapEntry),(old'.toList++new'.toList)[j]?=some e'∧x=some e':=by
        have hx':((if old'.isEmpty=true then #[none] else #[])++Array.map some (old'++new'))[i]?=some x:=hx
        cases hox:old'.isEmpty with
        | true =>rw [hox] at hx' hover;simp only [if_true] at hx';have hi0:i ≠ 0:=fun e=>hover ⟨rfl,e⟩;rw [Array.getElem?_append_right (by simp;omega)] at hx';simp only [List.size_toArray,List.length_cons,List.length_nil,Array.getElem?_map] at hx';obtain ⟨e',h1,h2⟩:=Option.map_eq_some_iff.1 hx';exact ⟨i - 1,e',by rw [←Array.toList_append,Array.getElem?_toList];simpa using h1,h2.symm⟩
        | false =>rw [hox] at hx';simp only [Bool.false_eq_true,if_false,Array.empty_append,Array.getElem?_map] at hx';obtain ⟨e',h1,h2⟩:=Option.map_eq_some_iff.1 hx';exact ⟨i,e',by rw [←Array.toList_append,Array.getElem?_toList];exact h1,h2.symm⟩
       obtain ⟨e,he1,hk,hvv,hborn⟩:=hboth.get hj;have hset:(setObj b (.mapIter (some bm) since (seen.toArray.push e'.born) clock)).run T.P w1=.ok () {w1 with heap:=w1.heap.setIfInBounds b (.mapIter (some bm) since (seen.toArray.push e'.born) clock)}:=by simp [setObj,Sem.run,hw1h,hw]
       have hwb:w1.heap[b]?=some (.mapIter (some bm) since seen.toArray last):=by rw [hw1h];exact hw
       have hltb:b < w1.heap.size:=(Array.getElem?_eq_some_iff.1 hwb).1
       obtain ⟨q1,q2,_⟩:=yB (a:=.iter m since (seen++[e.born]) clock) (obj:=.mapIter (some bm) since (seen.toArray.push e'.born) clock) hH1 hg rfl hl hwb rfl
        ⟨rfl,hB,bm,hlm,by rw [hborn];simp [hltb]⟩
       refine ⟨.tuple #[.bool true,e.key,e.val],.put r (.iter m since (seen++[e.born]) clock),?_,?_⟩
       ·refine List.mem_append.2 (.inr ?_);exact List.mem_map.2 ⟨e,List.mem_of_getElem? he1,rfl⟩
       ·refine ⟨.tuple #[.bool true,e'.key,e'.val],_,γ,.inl (aU (hmain _ _ (by simp only [Sem.run_bind,hset,Result.andThen_ok,Sem.run_pure]))),Gm.Le.refl γ,fun _ _=>rfl,q1,
         VR.cz (.cons (.flat rfl) (.cons hk (.cons hvv (.nil γ)))),?_⟩
        exact hU1.trans q2
   | _=>cases ho
 ·cases ho
end
end Go.RM
namespace Go.RM
open Go.RowKit
section
variable {T : bC} {γ : Gm} {g : aG} {w : World} {n : Nat}
theorem bV.map {ρ ρ':Operand→Value} {l:List Operand} (h:∀ x ∈ l,VR γ (ρ x) (ρ' x)):bV γ (l.map ρ) (l.map ρ'):=by refine ⟨by simp,fun i v v' a b=>?_⟩;rw [List.getElem?_map] at a b;obtain ⟨x,hx,rfl⟩:=Option.map_eq_some_iff.1 a;rw [hx] at b;simp at b;subst b;exact h x (List.mem_of_getElem? hx)
theorem jd.map {ρ ρ':Operand→Value} {l:List (Nat × Operand)} (h:∀ x ∈ l,VR γ (ρ x.2) (ρ' x.2)):jd γ (l.map fun (i,x)=>(i,ρ x)) (l.map fun (i,x)=>(i,ρ' x)):=by refine ⟨by simp,fun i p p' a b=>?_⟩;rw [List.getElem?_map] at a b;obtain ⟨x,hx,rfl⟩:=Option.map_eq_some_iff.1 a;rw [hx] at b;simp at b;subst b;exact ⟨rfl,h x (List.mem_of_getElem? hx)⟩
theorem nr.map {ρ ρ':Operand→Value} {x:Option Operand} (h:∀ y,x=some y→VR γ (ρ y) (ρ' y)):nr γ (x.map ρ) (x.map ρ'):=by
 cases x with
 | none=>trivial
 | some y=>exact h y rfl
theorem nr.cx {a b:Option Value} (h:nr γ a b) (hf:a.toList.all flat=true):b=a:=by
 cases a with
 | none=>cases b with
  | none=>rfl
  | some _=>exact h.elim
 | some x=>cases b with
  | none=>exact h.elim
  | some y=>simp at hf;rw [VR.cx h hf]
theorem z6 (hT:bD T) (h:HR γ g w) {t ty:TypeId} {x x' v:Value} {e:bY} (ho:k6 T t x g=some (v,e)) (hx:VR γ x x') :
  aW T.P γ g w n (do Pure.pure (Next.value (←Builtin.clear_ #[t] ty #[x']))) v e:=by
 unfold k6 at ho;split at ho
 ·rename_i r hty;obtain ⟨i,_,_,_,_,hu,_⟩:=hT.ty t _ hty
  cases hm:map? (g r) with
  | none=>rw [hm] at ho;cases ho
  | some p =>obtain ⟨es,clock⟩:=p;rw [hm] at ho;simp only [qq9,Prod.mk.injEq] at ho;obtain ⟨rfl,rfl⟩:=ho;obtain ⟨b,es',rfl,hl,hB,hw,he,hget⟩:=dm h (m:=.map (some r)) rfl hm hx;obtain ⟨q1,q2,q3⟩:=nW (es2:=[]) (es2':=#[]) (c2:=clock) h hm hl hB hw ⟨rfl,fun i a b ha=>by cases ha⟩;refine ⟨.tuple #[],_,γ,.inl (aU ?_),Gm.Le.refl γ,fun _ _=>rfl,q1,VR.cz (l:=[]) (l':=[]) (bV.nil γ),q2⟩;simp [Builtin.clear_,bQ hu,hget T.P,q3 T.P]
 ·rename_i k o nn _ hty;obtain ⟨i,_,_,_,_,hu,_⟩:=hT.ty t _ hty
  cases he:elem? T t with
  | none=>rw [he] at ho;cases ho
  | some inf =>
   cases hc:cells? (g k) with
   | none=>rw [he,hc] at ho;cases ho
   | some p =>
    obtain ⟨cs,own,es⟩:=p;rw [he,hc] at ho;simp only at ho
    cases hcd:(Nat.ble 1 nn && own && bG inf && Nat.ble (o+nn * inf.size) cs.length) with
    | false=>rw [hcd] at ho;cases ho
    | true =>
     rw [hcd] at ho;simp only [cond_true,qq9,Prod.mk.injEq] at ho;obtain ⟨rfl,rfl⟩:=ho;obtain ⟨c1,c2,c3,c4⟩:=xA hcd;subst c2;have c1:=Nat.le_of_ble_eq_true c1;have c4:=Nat.le_of_ble_eq_true c4;obtain ⟨z,hzz,hzs,h1,hfl⟩:=iN c3;obtain ⟨el,j,hut,hj,hsz,_,hz⟩:=iz hT he
     cases hx with
     | flat hf=>simp [bf] at hf
     | cI=>omega
     | slice hl hle0 ht hlo hk =>
      rename_i b d c';obtain ⟨cs',el',fz,hw,hcr,hown⟩:=h.cells hc hl;obtain ⟨rfl,rfl,hB,hcapsz⟩:=hown rfl;have hpos:0 < z.cells.size:=by omega
      have harr:=mc z.cells (nn * inf.size) (.inr hpos);have hflz:=k7 hfl (nn * inf.size) (.inr (by simpa using hpos));have hlen:=mX z.cells.toList (nn * inf.size)
      have hcs:cs.length≤cs'.size:=by
       by_cases hn:cs=[]
       ·subst hn;simp
       ·have:=hcr.size_le hn;omega
      have hzc:(Builtin.zeroCells z.cells nn).toList=bP z.cells.toList (nn * inf.size):=by unfold Builtin.zeroCells;rw [hzs];rw [hzs] at harr;exact harr
      have hst:=run_storeCells_at T.P b (0+o) el' (bP z.cells.toList (nn * inf.size)) 0 cs' w hw (by rw [hlen];omega) ((bV.of_flat (γ:=γ) hflz).bx (List.all_eq_true.2 fun v hv=>by have h2:=List.all_eq_true.1 hflz v hv;cases v <;> first|rfl|(simp [bf] at h2)));obtain ⟨o1,o2,o3,o4⟩:=setRow_os w b (splice cs'.toList (bP z.cells.toList (nn * inf.size)) o).toArray;rw [hzz];simp only [Option.map_some,Option.getD_some];refine ⟨.tuple #[],w.setRow b (splice cs'.toList (bP z.cells.toList (nn * inf.size)) o).toArray,γ,.inl (aU ?_),Gm.Le.refl γ,fun _ _=>rfl,?_,VR.cz (l:=[]) (l':=[]) (bV.nil γ),?_⟩
      ·obtain ⟨q,rfl⟩:∃ q,nn=q+1:=⟨nn - 1,by omega⟩;simp only [Nat.add_zero,Nat.zero_add] at hst;simp [Builtin.clear_,bQ hut,iX hj (hz.trans hzz),hzc,hst,splice]
      ·refine h.put (cZ hc) rfl hl o4 (fun j hj=>setRow_other w b j _ hj) (.inl rfl) ?_;refine ⟨_,el',(0,0),setRow_heap w b cs' _ el' _ hw,hcr.splice (bV.of_flat hflz) (by rw [hlen];exact c4) (by rw [hlen];omega),fun _=>⟨rfl,rfl,hB,?_⟩⟩;rw [List.size_toArray,eX _ _ _ (by rw [hlen,Array.length_toList];omega)];simpa using hcapsz
      ·exact ju.put (cZ hc) rfl hl o1 o2 o3 o4 (fun j hj=>setRow_other w b j _ hj)
 ·cases ho
theorem BX (hT:bD T) (h:HR γ g w) {t u ty:TypeId} {d d' x x' v:Value} {e:bY} (ho:sS T t d x g=some (v,e)) (hd:VR γ d d') (hx:VR γ x x') :
  aW T.P γ g w n (do Pure.pure (Next.value (←Builtin.copy_ #[t,u] ty #[d',x']))) v e:=by
 unfold sS at ho;split at ho
 ·rename_i k o nn _;split at ho
  ·rename_i inf cs own es m he hc hm;split at ho
   ·rename_i new hro
    cases hcd:(own && (Nat.ble 1 nn && Nat.ble m nn) && new.all bx && Nat.ble (o+nn * inf.size) cs.length) with
    | false=>rw [hcd] at ho;cases ho
    | true =>
     rw [hcd] at ho;simp only [cond_true,qq9,Prod.mk.injEq] at ho;obtain ⟨rfl,rfl⟩:=ho;obtain ⟨c1,c2,c3,c4⟩:=xA hcd;subst c1;rw [qq7] at c2;have c1:=Nat.le_of_ble_eq_true c2.1;have c2:=Nat.le_of_ble_eq_true c2.2;have c4:=Nat.le_of_ble_eq_true c4;obtain ⟨el,j,hut,hj,hsz,_,_⟩:=iz hT he;obtain ⟨l',hl',hln,hfc,a',c',hxs⟩:=me h hro hx hm;have hmn:m * inf.size≤nn * inf.size:=Nat.mul_le_mul_right _ c2
     cases hd with
     | flat hf=>simp [bf] at hf
     | cI=>omega
     | slice hl hle0 ht hlo hk =>
      rename_i b dd c2';obtain ⟨cs',el',fz,hw,hcr,hown⟩:=h.cells hc hl;obtain ⟨rfl,rfl,hB,hcapsz⟩:=hown rfl;have hlen':l'.length=m * inf.size:=by rw [←hl'.1];exact hln
      have hst:=run_storeCells_at T.P b (0+o) el' l' 0 cs' w hw (by
       rw [hlen'];by_cases hn:cs=[]
       ·subst hn;simp at c4;omega
       ·have:=hcr.size_le hn;omega) (hl'.bx c3)
      obtain ⟨o1,o2,o3,o4⟩:=setRow_os w b (splice cs'.toList l' o).toArray;refine ⟨_,w.setRow b (splice cs'.toList l' o).toArray,γ,.inl (aU ?_),Gm.Le.refl γ,fun _ _=>rfl,?_,.flat rfl,?_⟩
      ·simp only [Nat.add_zero,Nat.zero_add] at hst;have hf:=hfc T.P w rfl;rw [←hsz] at hf;subst hxs;simp [Builtin.copy_,Builtin.lenOf,sizeOf,typeInfo,hj,bQ hut,Nat.min_eq_left c2,hf,hst,splice,goInt]
      ·refine h.put (cZ hc) rfl hl o4 (fun j hj=>setRow_other w b j _ hj) (.inl rfl) ?_
       have hsz':o+l'.length≤cs'.size:=by
        rw [hlen'];by_cases hn:cs=[]
        ·subst hn;simp at c4;omega
        ·have:=hcr.size_le hn;omega
       refine ⟨_,el',(0,0),setRow_heap w b cs' _ el' _ hw,hcr.splice hl' (by rw [hln];omega) hsz',fun _=>⟨rfl,rfl,hB,?_⟩⟩;rw [List.size_toArray,eX _ _ _ (by rw [Array.length_toList];exact hsz')];simpa using hcapsz
      ·exact ju.put (cZ hc) rfl hl o1 o2 o3 o4 (fun j hj=>setRow_other w b j _ hj)
   ·cases ho
  ·cases ho
 ·cases ho
theorem yF (hT:bD T) (h:HR γ g w) {t:TypeId} {a a' ix ix' v:Value} {e:bY} (ho:l5 T t a ix=some (v,e)) (ha:VR γ a a') (hx:VR γ ix ix') :
  aW T.P γ g w n (do Pure.pure (Next.value (←Instr.index t a' ix'))) v e:=by
 unfold l5 at ho;split at ho
 ·rename_i m el _ _ _ _ _ _ cs k j hty;split at ho
  ·rename_i jH _ _ _ _ hel
   cases hb:Nat.blt j m with
   | false=>rw [hb] at ho;cases ho
   | true =>
    rw [hb] at ho;simp only [cond_true] at ho;split at ho
    ·rename_i f x y hcs;cases ho;obtain rfl:=hx.bI rfl;obtain ⟨i,_,_,_,_,hu,_⟩:=hT.ty t _ hty;obtain ⟨i',h1,h2,_,_,hu',_⟩:=hT.ty el _ hel;have hag:=hT.agg hel;have hjm:j < m:=Nat.le_of_ble_eq_true hb;have hag':∀ w',(isAgg el).run T.P w'=.ok false w':=fun w'=>by have:=lH hu' w';rw [←hag] at this;exact this
     have two:∃ cs',a'=.agg cs'∧∃ v',cs'[j]?=some v'∧VR γ (.func f x y) v':=by
      have hjs:j < cs.size:=by have:=(List.getElem?_eq_some_iff.1 hcs).1;simpa using this
      have hcj:cs[j]=.func f x y:=by have:=(List.getElem?_eq_some_iff.1 hcs).2;simpa using this
      cases ha with
      | flat hf=>simp [bf] at hf
      | agg hs hc =>rename_i cs';exact ⟨cs',rfl,cs'[j]'(by omega),by simp [show j < cs'.size by omega],by rw [←hcj];exact hc j hjs (by omega)⟩
     obtain ⟨cs',rfl,v',hv',hvr⟩:=two;refine .pure h (aU (v:=v') ?_) hvr;have hsz:(sizeOf el).run T.P w=.ok 1 w:=by simp [sizeOf,typeInfo,h1,h2]
     simp [Instr.index,asIntOf,bQ hu,hjm,hsz,part,hag',hv']
    ·cases ho
  ·cases ho
 ·cases ho
theorem wR (hT:bD T) (h:HR γ g w) {b:Builtin} {l l':List Value} {tys:List TypeId} {ty:TypeId} {cs:Array Bool} {v:Value} {e:bY}
  (hn:e.news=true→γ.loc n=none) (ho:gP T n b l tys g=some (v,e)) (hl:bV γ l l'):aW T.P γ g w n (builtin b tys.toArray ty cs l'.toArray) v e:=by
 unfold gP at ho
 have two:∀ {x y:Value},bV γ [x,y] l'→∃ x' y',l'=[x',y']∧VR γ x x'∧VR γ y y':=fun {x y} hh=>by
  match l',hh with
  | [x',y'],hh=>exact ⟨x',y',rfl,hh.2 0 _ _ rfl rfl,hh.2 1 _ _ rfl rfl⟩
  | [],hh=>exact absurd hh.1 (by simp)
  | [_],hh=>exact absurd hh.1 (by simp)
  | _ :: _ :: _ :: _,hh=>exact absurd hh.1 (by simp)
 have one:∀ {x:Value},bV γ [x] l'→∃ x',l'=[x']∧VR γ x x':=fun {x} hh=>by
  match l',hh with
  | [x'],hh=>exact ⟨x',rfl,hh.2 0 _ _ rfl rfl⟩
  | [],hh=>exact absurd hh.1 (by simp)
  | _ :: _ :: _,hh=>exact absurd hh.1 (by simp)
 split at ho
 ·split at ho
  ·obtain ⟨x',rfl,hx⟩:=one hl;exact zY hT h ho hx
  ·cases ho
 ·exact DO h ho hl
 ·exact DP h ho hl
 ·split at ho
  ·obtain ⟨x',rfl,hx⟩:=one hl;exact z6 hT h ho hx
  ·cases ho
 ·split at ho
  ·obtain ⟨d',x',rfl,hd,hx⟩:=two hl;exact BX hT h ho hd hx
  ·cases ho
 ·split at ho
  ·rename_i s x t u;obtain ⟨s',x',rfl,hs,hx⟩:=two hl;split at ho
   ·rename_i hty;obtain ⟨i,_,_,_,_,hu,_⟩:=hT.ty u _ hty;exact yz hT h hu hn ho hs hx
   ·cases ho
  ·cases ho
 ·cases ho
theorem uV (hT:bD T) (h:HR γ g w) {ρ ρ':Operand→Value} {o:Oper} {v:Value} {e:bY}
  (hn:e.news=true→γ.loc n=none) (ho:jt T n o.op ρ g=some (v,e)) (hρ:∀ x ∈ o.op.operands,VR γ (ρ x) (ρ' x)):aW T.P γ g w n (execOp ρ' o) v e:=by
 obtain ⟨dst,op,ty,pos,after,guard⟩:=o;simp only at ho hρ;cases op <;> simp only [jt] at ho
 case move x =>simp only [qq9,Prod.mk.injEq] at ho;obtain ⟨rfl,rfl⟩:=ho;exact .pure h rfl (hρ x (by simp [Op.operands]))
 case assign x =>simp only [qq9,Prod.mk.injEq] at ho;obtain ⟨rfl,rfl⟩:=ho;exact .pure h rfl (hρ x (by simp [Op.operands]))
 case pick c a b=>exact BU h ho (hρ c (by simp [Op.operands])) (hρ a (by simp [Op.operands])) (hρ b (by simp [Op.operands]))
 case alloc t=>exact zV hT h hn ho
 case box t x=>exact DL h hn ho (hρ x (by simp [Op.operands]))
 case build t parts =>
  have:=zX (n:=n) hT h ho (jd.map (ρ:=ρ) (ρ':=ρ') (l:=parts.toList) fun x hx=>hρ x.2 (by simp [Op.operands];exact ⟨x.1,by simpa using hx⟩));have e1:(parts.toList.map fun (i,x)=>(i,ρ' x)).toArray=parts.map fun (i,x)=>(i,ρ' x):=by apply Array.ext';simp
  rw [e1] at this;exact this
 case buildSlice t len parts =>
  have:=rP hT h hn ho (jd.map (ρ:=ρ) (ρ':=ρ') (l:=parts.toList) fun x hx=>hρ x.2 (by simp [Op.operands];exact ⟨x.1,by simpa using hx⟩));have e1:(parts.toList.map fun (i,x)=>(i,ρ' x)).toArray=parts.map fun (i,x)=>(i,ρ' x):=by apply Array.ext';simp
  rw [e1] at this;exact this
 case load t a=>exact BT hT h ho (hρ a (by simp [Op.operands]))
 case store t a x=>exact zU hT h ho (hρ a (by simp [Op.operands])) (hρ x (by simp [Op.operands]))
 case fieldAddr t a i=>exact tQ hT h ho (hρ a (by simp [Op.operands]))
 case indexAddr t a ix=>exact tR hT h ho (hρ a (by simp [Op.operands])) (hρ ix (by simp [Op.operands]))
 case index t a ix =>
  cases hf:(flat (ρ a) && flat (ρ ix)) with
  | false=>rw [hf] at ho;exact yF hT h ho (hρ a (by simp [Op.operands])) (hρ ix (by simp [Op.operands]))
  | true =>rw [hf] at ho;simp only [qq7] at hf;have:=aW.reckon (n:=n) h ho;rw [←(hρ a (by simp [Op.operands])).cx hf.1,←(hρ ix (by simp [Op.operands])).cx hf.2] at this;exact this
 case field t a i =>
  cases hf:flat (ρ a) with
  | false=>rw [hf] at ho;cases ho
  | true =>rw [hf] at ho;have:=aW.reckon (n:=n) h ho;rw [←(hρ a (by simp [Op.operands])).cx hf] at this;exact this
 case binOp o t x y yt=>exact DN h ho (hρ x (by simp [Op.operands])) (hρ y (by simp [Op.operands]))
 case unOp o t x =>
  cases hf:flat (ρ x) with
  | false=>rw [hf] at ho;cases ho
  | true =>rw [hf] at ho;have:=aW.reckon (n:=n) h ho;rw [←(hρ x (by simp [Op.operands])).cx hf] at this;exact this
 case convert s d x =>
  cases hf:flat (ρ x) with
  | false=>rw [hf] at ho;cases ho
  | true =>rw [hf] at ho;have:=aW.reckon (n:=n) h ho;rw [←(hρ x (by simp [Op.operands])).cx hf] at this;exact this
 case makeInterface t x =>
  cases hf:flat (ρ x) with
  | false=>rw [hf] at ho;cases ho
  | true =>rw [hf] at ho;have:=aW.reckon (n:=n) h ho;rw [←(hρ x (by simp [Op.operands])).cx hf] at this;exact this
 case typeAssert x t d ok =>
  cases hf:flat (ρ x) with
  | false=>rw [hf] at ho;cases ho
  | true =>rw [hf] at ho;have:=aW.reckon (n:=n) h ho;rw [←(hρ x (by simp [Op.operands])).cx hf] at this;exact this
 case extract x i=>exact wL h ho (hρ x (by simp [Op.operands]))
 case makeFunc fn first captured =>
  have:=uP (T:=T) (n:=n) h ho (bV.map (ρ:=ρ) (ρ':=ρ') (l:=first.toList) fun x hx=>hρ x (by simp [Op.operands];exact .inl (by simpa using hx)))
   (bV.map (ρ:=ρ) (ρ':=ρ') (l:=captured.toList) fun x hx=>hρ x (by simp [Op.operands];exact .inr (by simpa using hx)))
  have e1:(first.toList.map ρ').toArray=first.map ρ':=by apply Array.ext';simp
  have e2:(captured.toList.map ρ').toArray=captured.map ρ':=by apply Array.ext';simp
  rw [e1,e2] at this;exact this
 case nilCheck x =>
  obtain ⟨a,hx,rfl,rfl⟩:=uQ ho;have hv:=hρ x (by simp [Op.operands]);rw [hx] at hv
  have hp:∃ a',ρ' x=.pointer (some a'):=by
   generalize ρ' x=y at hv
   cases hv with
   | flat hf=>exact ⟨a,rfl⟩
   | ptr=>exact ⟨_,rfl⟩
  obtain ⟨a',ha'⟩:=hp;refine .pure h (v':=.pointer (some a')) ?_ (by rw [←ha'];exact hv);simp [execOp,ha']
 case slice t x lo hi mx =>
  cases mx with
  | some m =>
   cases hi with
   | none=>cases ho
   | some hi =>simp only [Option.map_eq_some_iff,Prod.mk.injEq] at ho;obtain ⟨u,hu,rfl,rfl⟩:=ho;have rlo:=nr.map (γ:=γ) (ρ:=ρ) (ρ':=ρ') (x:=lo) fun y hy=>hρ y (by subst hy;simp [Op.operands]);exact yA hT h hu (hρ x (by simp [Op.operands])) rlo (hρ hi (by simp [Op.operands])) (hρ m (by simp [Op.operands]))
  | none =>
   simp only at ho;have hvx:=hρ x (by simp [Op.operands]);have rlo:=nr.map (γ:=γ) (ρ:=ρ) (ρ':=ρ') (x:=lo) fun y hy=>hρ y (by subst hy;simp [Op.operands]);have rhi:=nr.map (γ:=γ) (ρ:=ρ) (ρ':=ρ') (x:=hi) fun y hy=>hρ y (by subst hy;simp [Op.operands]);show aW T.P γ g w n (do Pure.pure (Next.value (←Instr.sliceAt t (ρ' x) (lo.map ρ') (hi.map ρ') none))) v e;unfold fo at ho;split at ho
   ·rename_i s hs
    cases hf:((lo.map ρ).toList.all flat && (hi.map ρ).toList.all flat) with
    | false=>rw [hf] at ho;cases ho
    | true =>rw [hf] at ho;simp only [qq7] at hf;rw [rlo.cx hf.1,rhi.cx hf.2,hvx.cx (by rw [hs];rfl)];exact aW.reckon h ho
   ·simp only [Option.map_eq_some_iff,Prod.mk.injEq] at ho;obtain ⟨u,hu,rfl,rfl⟩:=ho;exact uS hT h hu hvx rlo rhi
   ·simp only [Option.map_eq_some_iff,Prod.mk.injEq] at ho;obtain ⟨u,hu,rfl,rfl⟩:=ho;exact zZ hT h hu hvx rlo rhi
 case makeSlice t l c=>exact tT hT h hn ho (hρ l (by simp [Op.operands])) (hρ c (by simp [Op.operands]))
 case makeMap t r =>
  cases r with
  | some _=>cases ho
  | none =>simp only [qq9,Prod.mk.injEq] at ho;obtain ⟨rfl,rfl⟩:=ho;exact yE h (hn rfl)
 case lookup t m k ok =>simp only [Option.map_eq_some_iff,Prod.mk.injEq] at ho;obtain ⟨u,hu,rfl,rfl⟩:=ho;exact yD hT h hu (hρ m (by simp [Op.operands])) (hρ k (by simp [Op.operands]))
 case mapEntry t m k=>exact uU hT h ho (hρ m (by simp [Op.operands])) (hρ k (by simp [Op.operands]))
 case entryStore t m s x =>simp only [Option.map_eq_some_iff,Prod.mk.injEq] at ho;obtain ⟨u,hu,rfl,rfl⟩:=ho;exact rR h hu (hρ m (by simp [Op.operands])) (hρ s (by simp [Op.operands])) (hρ x (by simp [Op.operands]))
 case mapUpdate t m k x =>simp only [Option.map_eq_some_iff,Prod.mk.injEq] at ho;obtain ⟨u,hu,rfl,rfl⟩:=ho;exact tV hT h hu (hρ m (by simp [Op.operands])) (hρ k (by simp [Op.operands])) (hρ x (by simp [Op.operands]))
 case range t x=>exact wP hT h hn ho (hρ x (by simp [Op.operands]))
 case next it s =>
  cases s with
  | false=>cases ho
  | true=>exact wQ h ho (hρ it (by simp [Op.operands]))
 case entry it=>exact z5 h ho (hρ it (by simp [Op.operands]))
 case call c =>
  obtain ⟨callee,args,tys⟩:=c;unfold zQ at ho
  cases callee with
  | value f=>cases ho
  | invoke r m=>cases ho
  | builtin b =>
   simp only at ho;have:=wR (ty:=ty) (cs:=args.map fun|.const _=>true|_=>false) hT h hn ho (bV.map (ρ:=ρ) (ρ':=ρ') (l:=args.toList) fun x hx=>hρ x (by simp [Op.operands,Call.operands];simpa using hx));have e1:(args.toList.map ρ').toArray=args.map ρ':=by apply Array.ext';simp
   rw [e1] at this;have e2:execOp ρ' ⟨dst,.call ⟨.builtin b,args,tys⟩,ty,pos,after,guard⟩=builtin b tys ty (args.map fun|.const _=>true|_=>false) (args.map ρ'):=rfl;rw [e2];simpa using this
 all_goals cases ho
end
end Go.RM
namespace Go.RM
def nt:Option bz→Bool
 | some (.loop ..)=>true
 | _=>false
def xC (g:aG):bY→Prop
 | .put k _|.app k _=>g k ≠ none∧nt (g k)=false
 | _=>True
def sW (l:List Nat):bY→Prop
 | .put k _|.app k _=>k ∈ l
 | _=>True
section
variable {T : bC} {n : Nat} {g g' : aG}
theorem nu {k:Nat} {x:List Value × Bool × Nat} (h:cells? (g k)=some x):g k ≠ none∧nt (g k)=false:=by
 generalize g k=b at h
 cases b with
 | none=>cases h
 | some b=>cases b <;> first|exact ⟨by simp,rfl⟩|cases h
theorem rS {k:Nat} {x:List MapEntry × Nat} (h:map? (g k)=some x):g k ≠ none∧nt (g k)=false:=by
 generalize g k=b at h
 cases b with
 | none=>cases h
 | some b=>cases b <;> first|exact ⟨by simp,rfl⟩|cases h
theorem rT {v:Value} {k o:Nat} (h:addr? v=some (k,o)):k ∈ cw v:=by rw [xz h];simp [cw]
theorem gS {v:Value} {k:Nat} (h:gA v=some k):k ∈ cw v:=by rw [uT h];simp [cw]
def oE (g:aG) (l:List Nat) (e:bY):Prop:=xC g e∧sW l e
theorem eY {o:Option Value} {v:Value} {e:bY} {l:List Nat} (h:cR o=some (v,e)):oE g l e:=by obtain ⟨_,_,rfl⟩:=pz h;exact ⟨trivial,trivial⟩
theorem BZ {t:TypeId} {a x v:Value} {e:bY} (h:jO T t a x g=some (v,e)):oE g (cw a) e:=by
 unfold jO at h;split at h
 ·rename_i k o ha
  cases hc:cells? (g k) with
  | none=>rw [hc] at h;cases h
  | some c =>
   obtain ⟨cs,own,es⟩:=c
   cases ht:T.ty.get t with
   | none=>rw [hc,ht] at h;cases h
   | some r =>
    obtain ⟨jH,s,bytes,zero,agg,cu,cD⟩:=r;rw [hc,ht] at h;simp only at h;cases hb:(own && Nat.beq x.cells.toList.length s && Nat.ble (o+s) cs.length && x.cells.toList.all bx) <;> rw [hb] at h
    ·cases h
    ·simp at h;obtain ⟨_,rfl⟩:=h;exact ⟨nu hc,rT ha⟩
 ·cases h
theorem wS {t:TypeId} {m k v:Value} {e:bY} (h:ek T t m k g=some (v,e)):oE g (cw m) e:=by
 unfold ek at h;split at h
 ·rename_i kt z r _ hr;split at h
  ·rename_i es clock hm;unfold lB at h;split at h
   ·split at h
    ·rename_i x _;cases hb:Instr.sameBits 10000 x.key k <;> rw [hb] at h
     ·cases h
     ·simp at h;obtain ⟨_,rfl⟩:=h;exact ⟨rS hm,gS hr⟩
    ·cases h
   ·rename_i z _ _;cases hb:flat z <;> rw [hb] at h
    ·cases h
    ·simp at h;obtain ⟨_,rfl⟩:=h;exact ⟨rS hm,gS hr⟩
   ·cases h
  ·cases h
 ·cases h
theorem tW {m s v:Value} {e:bY} (h:cQ m s v g=some e):oE g (cw m) e:=by
 unfold cQ at h;split at h
 ·rename_i r _ hr _;split at h
  ·rename_i es clock hm;split at h
   ·simp at h;subst h;exact ⟨rS hm,gS hr⟩
   ·cases h
  ·cases h
 ·cases h
theorem uW {t:TypeId} {m k v:Value} {e:bY} (h:dZ T t m k v g=some e):oE g (cw m) e:=by
 unfold dZ at h;split at h
 ·rename_i kt _ r _ hr;split at h
  ·rename_i es clock hm;unfold lZ at h;split at h
   ·split at h
    ·rename_i x _;cases hb:Instr.sameBits 10000 x.key k <;> rw [hb] at h
     ·cases h
     ·simp at h;subst h;exact ⟨rS hm,gS hr⟩
    ·cases h
   ·simp at h;subst h;exact ⟨rS hm,gS hr⟩
   ·cases h
  ·cases h
 ·cases h
theorem z7 {t:TypeId} {s x v:Value} {e:bY} (h:fH T n t s x g=some (v,e)):oE g (cw s) e:=by
 unfold fH at h;split at h
 ·rename_i inf _;split at h
  ·rename_i base ln cp;split at h
   ·rename_i m old new _ _ _;cases hb:(Nat.ble ((ln+m) * inf.bytes) 140737488355328 && Nat.ble (ln+m) 9223372036854775807 && new.all bx && bG inf) <;> rw [hb] at h
    ·cases h
    ·simp only [cond_true] at h;cases hm:Nat.beq m 0 <;> rw [hm] at h
     ·simp only [cond_false] at h;unfold gh at h;cases hc:Nat.beq cp ln <;> rw [hc] at h
      ·simp only [cond_false] at h;cases hin:Nat.ble (ln+m+3) cp <;> rw [hin] at h
       rotate_left
       ·simp only [cond_true] at h;unfold jM at h;split at h
        ·split at h
         ·rename_i k o _ _ cs own es hcs;cases hd:(own && Nat.ble (o+(ln+m) * inf.size) cs.length) <;> rw [hd] at h
          ·cases h
          ·simp at h;obtain ⟨_,rfl⟩:=h;exact ⟨nu hcs,by simp [cw,sW]⟩
         ·cases h
        ·cases h
       simp only [cond_false] at h;split at h
       ·rename_i k;split at h
        ·rename_i cs own es hcs;cases hd:(own && Nat.beq cp (ln+1) && Nat.beq cs.length (ln * inf.size) && Nat.beq es inf.size) <;> rw [hd] at h
         ·cases h
         ·simp at h;obtain ⟨_,rfl⟩:=h;exact ⟨nu hcs,by simp [cw,sW]⟩
        ·cases h
       ·cases h
      ·simp at h;obtain ⟨_,rfl⟩:=h;exact ⟨trivial,trivial⟩
     ·simp at h;obtain ⟨_,rfl⟩:=h;exact ⟨trivial,trivial⟩
   ·cases h
  ·cases h
 ·cases h
theorem uX {it v:Value} {e:bY} (h:jQ it g=some (v,e)):xC g e:=by
 unfold jQ at h;split at h
 ·rename_i r _;split at h
  ·rename_i s pos hr;cases hb:Nat.blt pos s.data.toList.length <;> rw [hb] at h
   ·simp at h;obtain ⟨_,rfl⟩:=h;trivial
   ·simp at h;obtain ⟨_,rfl⟩:=h;exact ⟨by rw [hr];simp,by rw [hr];rfl⟩
  ·cases h
 ·cases h
theorem EW {P:Program} {l:List Value} {v:Value} {e:bY} {ks:List Nat} (h:yl P l=some (v,e)):oE g ks e:=by
 unfold yl at h;split at h
 ·simp at h;obtain ⟨_,rfl⟩:=h;exact ⟨trivial,trivial⟩
 ·cases hb:l.all flat <;> rw [hb] at h
  ·cases h
  ·exact eY h
theorem EX {P:Program} {l:List Value} {v:Value} {e:bY} {ks:List Nat} (h:ym P l=some (v,e)):oE g ks e:=by
 unfold ym at h;split at h
 ·simp at h;obtain ⟨_,rfl⟩:=h;exact ⟨trivial,trivial⟩
 ·cases hb:l.all flat <;> rw [hb] at h
  ·cases h
  ·exact eY h
theorem B0 {t:TypeId} {x v:Value} {e:bY} {ks:List Nat} (h:jR T t x g=some (v,e)):oE g ks e:=by
 unfold jR at h;split at h
 ·simp at h;obtain ⟨_,rfl⟩:=h;exact ⟨trivial,trivial⟩
 ·split at h
  ·simp at h;obtain ⟨_,rfl⟩:=h;exact ⟨trivial,trivial⟩
  ·cases h
 ·simp at h;obtain ⟨_,rfl⟩:=h;exact ⟨trivial,trivial⟩
 ·simp at h;obtain ⟨_,rfl⟩:=h;exact ⟨trivial,trivial⟩
 ·cases h
def z8 (o:Op) (ρ:Operand→Value):List Nat :=
 match o with
 | .store _ a _=>cw (ρ a)
 | .mapEntry _ m _=>cw (ρ m)
 | .entryStore _ m _ _=>cw (ρ m)
 | .mapUpdate _ m _ _=>cw (ρ m)
 | .call ⟨.builtin .append,args,_⟩=>match args.toList.map ρ with
  | [s,_]=>cw s
  | _=>[]
 | .call ⟨.builtin .clear,args,_⟩=>match args.toList.map ρ with
  | [x]=>cw x
  | _=>[]
 | .call ⟨.builtin .copy,args,_⟩=>match args.toList.map ρ with
  | [x,_]=>cw x
  | _=>[]
 | _=>[]
theorem B1 {t:TypeId} {x v:Value} {e:bY} (h:k6 T t x g=some (v,e)):oE g (cw x) e:=by
 unfold k6 at h;split at h
 ·split at h
  ·rename_i hm;simp at h;obtain ⟨_,rfl⟩:=h;exact ⟨rS hm,by simp [cw,sW]⟩
  ·cases h
 ·split at h
  ·rename_i _ k o nn _ _ _ _ inf cs own es _ hcs;cases hb:(Nat.ble 1 nn && own && bG inf && Nat.ble (o+nn * inf.size) cs.length) <;> rw [hb] at h
   ·cases h
   ·simp at h;obtain ⟨_,rfl⟩:=h;exact ⟨nu hcs,by simp [cw,sW]⟩
  ·cases h
 ·cases h
theorem DQ {t:TypeId} {d x v:Value} {e:bY} (h:sS T t d x g=some (v,e)):oE g (cw d) e:=by
 unfold sS at h;split at h
 ·rename_i k o nn _;split at h
  ·rename_i inf cs own es m he hc hm;split at h
   ·rename_i new hro;cases hb:(own && (Nat.ble 1 nn && Nat.ble m nn) && new.all bx && Nat.ble (o+nn * inf.size) cs.length) <;> rw [hb] at h
    ·cases h
    ·simp at h;obtain ⟨_,rfl⟩:=h;exact ⟨nu hc,by simp [cw,sW]⟩
   ·cases h
  ·cases h
 ·cases h
theorem bZ {ks:List Nat}:oE g ks .none:=⟨trivial,trivial⟩
theorem mh {ks:List Nat} {b:bz}:oE g ks (.new b):=⟨trivial,trivial⟩
theorem nX {o:Op} {ρ:Operand→Value} {v:Value} {e:bY} (h:jt T n o ρ g=some (v,e)):xC g e∧((∀ it,o ≠ .next it true)→sW (z8 o ρ) e):=by
 have key:∀ {ks:List Nat},oE g ks e→z8 o ρ=ks→xC g e∧((∀ it,o ≠ .next it true)→sW (z8 o ρ) e):=fun hk he=>⟨hk.1,fun _=>by rw [he];exact hk.2⟩;cases o <;> simp only [jt] at h
 case move x=>simp at h;obtain ⟨_,rfl⟩:=h;exact key bZ rfl
 case assign x=>simp at h;obtain ⟨_,rfl⟩:=h;exact key bZ rfl
 case pick c a b =>
  unfold sU at h;split at h
  ·simp at h;obtain ⟨_,rfl⟩:=h;exact key bZ rfl
  ·cases h
 case alloc t =>
  unfold rI at h;split at h
  ·rename_i z _ _ _ _;cases hb:z.cells.toList.all bf <;> rw [hb] at h
   ·cases h
   ·simp at h;obtain ⟨_,rfl⟩:=h;exact key mh rfl
  ·cases h
 case box t x =>
  unfold DG at h;cases hb:(ρ x).cells.toList.all bx <;> rw [hb] at h
  ·cases h
  ·simp at h;obtain ⟨_,rfl⟩:=h;exact key mh rfl
 case build t parts =>
  unfold pq at h;split at h
  ·rename_i z _ _ _;cases hb:z.cells.toList.all bf <;> rw [hb] at h
   ·cases h
   ·simp only [cond_true,Option.map_eq_some_iff,Prod.mk.injEq] at h;obtain ⟨_,_,_,rfl⟩:=h;exact key bZ rfl
  ·cases h
 case buildSlice t len parts =>
  unfold gB at h;split at h
  ·rename_i inf _;cases hb:(Nat.ble (len * inf.size) 65536 && bG inf) <;> rw [hb] at h
   ·cases h
   ·simp only [cond_true] at h;split at h
    ·simp at h;obtain ⟨_,rfl⟩:=h;exact key mh rfl
    ·cases h
  ·cases h
 case load t a =>
  unfold gO at h;split at h
  ·split at h
   ·rename_i s _ _ agg _ _ _ _;cases agg
    ·simp only [cond_false,Option.map_eq_some_iff,Prod.mk.injEq] at h;obtain ⟨_,_,_,rfl⟩:=h;exact key bZ rfl
    ·simp only [cond_true,Option.map_eq_some_iff,Prod.mk.injEq] at h;obtain ⟨_,_,_,rfl⟩:=h;exact key bZ rfl
   ·cases h
  ·cases h
 case store t a x=>exact key (BZ h) rfl
 case fieldAddr t a i =>
  unfold dM at h;split at h
  ·split at h
   ·rename_i s _;cases hb:Nat.ble 1 s <;> rw [hb] at h
    ·cases h
    ·simp at h;obtain ⟨_,rfl⟩:=h;exact key bZ rfl
   ·cases h
  ·cases h
 case indexAddr t a ix =>
  have hi:∀ {cD k o len:Nat} {j:Int},oD cD k o len j=some (v,e)→oE g [] e:=by
   intro cD k o len j h;unfold oD at h;cases hb:(EK 0 j && DH j (.ofNat len)) <;> rw [hb] at h
   ·cases h
   ·simp at h;obtain ⟨_,rfl⟩:=h;exact bZ
  unfold dN at h;split at h
  ·split at h
   ·exact key (hi h) rfl
   ·cases h
  ·split at h
   ·exact key (hi h) rfl
   ·cases h
  ·cases h
 case index t a ix =>
  cases hb:(flat (ρ a) && flat (ρ ix)) <;> rw [hb] at h
  ·unfold l5 at h;simp only [cond_false] at h;split at h
   ·split at h
    ·rw [cond_eq_ite] at h;split at h
     ·split at h
      ·cases h;exact key bZ rfl
      ·cases h
     ·cases h
    ·cases h
   ·cases h
  ·exact key (eY h) rfl
 case field t a i =>
  cases hb:flat (ρ a) <;> rw [hb] at h
  ·cases h
  ·exact key (eY h) rfl
 case binOp o t x y yt =>
  have hs:∀ {a b:Value},gi T.P o t x y a b=some (v,e)→oE g [] e:=by
   intro a b h;unfold gi at h;cases hb:(flat a && flat b) <;> rw [hb] at h
   ·cases h
   ·exact eY h
  unfold dF at h;split at h
  ·split at h
   ·simp at h;obtain ⟨_,rfl⟩:=h;exact key bZ rfl
   ·exact key (hs h) rfl
  ·rw [cond_eq_ite] at h;split at h
   ·unfold js at h;split at h
    ·simp at h;obtain ⟨_,rfl⟩:=h;exact key bZ rfl
    ·simp at h;obtain ⟨_,rfl⟩:=h;exact key bZ rfl
    ·cases h
   ·cases h
  ·rw [cond_eq_ite] at h;split at h
   ·unfold js at h;split at h
    ·simp at h;obtain ⟨_,rfl⟩:=h;exact key bZ rfl
    ·simp at h;obtain ⟨_,rfl⟩:=h;exact key bZ rfl
    ·cases h
   ·cases h
  ·exact key (hs h) rfl
 case unOp o t x =>
  cases hb:flat (ρ x) <;> rw [hb] at h
  ·cases h
  ·exact key (eY h) rfl
 case convert s d x =>
  cases hb:flat (ρ x) <;> rw [hb] at h
  ·cases h
  ·exact key (eY h) rfl
 case makeInterface t x =>
  cases hb:flat (ρ x) <;> rw [hb] at h
  ·cases h
  ·exact key (eY h) rfl
 case typeAssert x t d ok =>
  cases hb:flat (ρ x) <;> rw [hb] at h
  ·cases h
  ·exact key (eY h) rfl
 case extract x i =>
  unfold fk at h;split at h
  ·simp only [Option.map_eq_some_iff,Prod.mk.injEq] at h;obtain ⟨_,_,_,rfl⟩:=h;exact key bZ rfl
  ·cases h
 case makeFunc fn first captured =>
  unfold lC at h;split at h
  ·simp at h;obtain ⟨_,rfl⟩:=h;exact key bZ rfl
  ·cases h
 case nilCheck x =>
  unfold ir at h;split at h
  ·simp at h;obtain ⟨_,rfl⟩:=h;exact key bZ rfl
  ·cases h
 case slice t x lo hi mx =>
  cases mx with
  | some _ =>
   cases hi with
   | none=>cases h
   | some hi =>simp only [Option.map_eq_some_iff,Prod.mk.injEq] at h;obtain ⟨_,_,_,rfl⟩:=h;exact key bZ rfl
  | none =>
   simp only at h;unfold fo at h;split at h
   ·cases hb:((lo.map ρ).toList.all flat && (hi.map ρ).toList.all flat) <;> rw [hb] at h
    ·cases h
    ·exact key (eY h) rfl
   ·simp only [Option.map_eq_some_iff,Prod.mk.injEq] at h;obtain ⟨_,_,_,rfl⟩:=h;exact key bZ rfl
   ·simp only [Option.map_eq_some_iff,Prod.mk.injEq] at h;obtain ⟨_,_,_,rfl⟩:=h;exact key bZ rfl
 case makeSlice t l c =>
  unfold iq at h;split at h
  ·rename_i inf _;split at h
   ·rename_i l c _ _;cases hb:(Nat.ble l c && Nat.ble (inf.bytes * c) 140737488355328 && Nat.ble c 9223372036854775807 && bG inf) <;> rw [hb] at h
    ·cases h
    ·simp at h;obtain ⟨_,rfl⟩:=h;exact key mh rfl
   ·cases h
  ·cases h
 case makeMap t r =>
  cases r with
  | some _=>cases h
  | none=>simp at h;obtain ⟨_,rfl⟩:=h;exact key mh rfl
 case lookup t m k ok =>simp only [Option.map_eq_some_iff,Prod.mk.injEq] at h;obtain ⟨_,_,_,rfl⟩:=h;exact key bZ rfl
 case mapEntry t m k=>exact key (wS h) rfl
 case entryStore t m s x =>simp only [Option.map_eq_some_iff,Prod.mk.injEq] at h;obtain ⟨_,hu,_,rfl⟩:=h;exact key (tW hu) rfl
 case mapUpdate t m k x =>simp only [Option.map_eq_some_iff,Prod.mk.injEq] at h;obtain ⟨_,hu,_,rfl⟩:=h;exact key (uW hu) rfl
 case range t x =>
  unfold rK at h;split at h
  ·split at h
   ·simp at h;obtain ⟨_,rfl⟩:=h;exact key mh rfl
   ·cases h
  ·simp at h;obtain ⟨_,rfl⟩:=h;exact key mh rfl
  ·cases h
 case next it s =>
  cases s with
  | false=>cases h
  | true=>exact ⟨uX h,fun hn=>absurd rfl (hn it)⟩
 case entry it =>
  unfold rL at h;split at h
  ·split at h
   ·split at h
    ·rw [cond_eq_ite] at h;split at h <;> rename_i hb
     ·simp only [Option.map_eq_some_iff,Prod.mk.injEq] at h;obtain ⟨_,_,_,rfl⟩:=h;exact key bZ rfl
     ·cases h
    ·cases h
   ·cases h
  ·cases h
 case call c =>
  obtain ⟨callee,args,tys⟩:=c;unfold zQ at h
  cases callee with
  | value f=>cases h
  | invoke r m=>cases h
  | builtin b =>
   simp only at h;unfold gP at h;split at h
   ·split at h
    ·exact key (B0 (ks:=[]) h) rfl
    ·cases h
   ·exact key (EW (ks:=[]) h) rfl
   ·exact key (EX (ks:=[]) h) rfl
   ·split at h
    ·rename_i x t ha _;refine key (B1 h) ?_;simp only [z8];rw [ha]
    ·cases h
   ·split at h
    ·rename_i d x t u ha _;refine key (DQ h) ?_;simp only [z8];rw [ha]
    ·cases h
   ·split at h
    ·rename_i s x t u ha _;split at h
     ·refine key (z7 h) ?_;unfold z8;simp only [ha]
     ·cases h
    ·cases h
   ·cases h
 all_goals cases h
theorem z9 {it:Value} {L:List (Value × bY)} (h:pY it g=some L):∀ p ∈ L,xC g p.2:=by
 unfold pY at h;split at h
 ·rename_i r;split at h
  ·rename_i m since seen last hr;split at h
   ·rename_i es clock hm;unfold uF at h;intro p hp
    cases hb:(!seen.isEmpty && !es.isEmpty && es.all (fun e=>Nat.ble last e.born)) with
    | true=>rw [hb] at h;cases h
    | false =>
     rw [hb] at h;simp only [cond_false,qq9] at h;subst h
     rcases List.mem_append.1 hp with hp|hp
     ·revert hp;generalize (List.filter (fun e=>decide (e.born < since)) (List.filter (fun e=>!seen.contains e.born) es))=old
      cases old with
      | nil=>simp only [List.isEmpty_nil,cond_true,List.mem_singleton];intro e;subst e;trivial
      | cons=>simp
     ·obtain ⟨x,_,rfl⟩:=List.mem_map.1 hp;exact ⟨by rw [hr];simp,by rw [hr];rfl⟩
   ·cases h
  ·cases h
 ·cases h
theorem nw {size:Nat} {v:Value} (h:∀ k ∈ cw v,g' k=g k):bF g' size v=bF g size v:=by
 unfold bF;split
 ·rfl
 ·rw [h _ (by simp [cw])]
 ·rfl
theorem wT {t:TypeId} {s x:Value} (hs:∀ k ∈ cw s,g' k=g k) (hx:∀ k ∈ cw x,g' k=g k):fH T n t s x g'=fH T n t s x g:=by
 unfold fH;have e1:∀ size,bF g' size x=bF g size x:=fun _=>nw hx;have e2:∀ size,bF g' size s=bF g size s:=fun _=>nw hs;simp only [e1,e2];split
 ·split
  ·rename_i base ln cp
   have hb:∀ inf m old new,gh n inf base ln cp m old new g'=gh n inf base ln cp m old new g:=by
    intro inf m old new
    have hi:jM inf base ln cp m new g'=jM inf base ln cp m new g:=by
     unfold jM;split
     ·rename_i k o;rw [hs k (by simp [cw])]
     ·rfl
    unfold gh;rw [hi];split
    ·rename_i k;rw [hs k (by simp [cw])]
    ·rfl
   simp only [hb]
  ·rfl
 ·rfl
theorem Aa {t:TypeId} {a:Value} (h:∀ k ∈ cw a,g' k=g k):gO T t a g'=gO T t a g:=by
 unfold gO
 cases ha:addr? a with
 | none=>rfl
 | some p=>simp only;rw [h p.1 (rT (o:=p.2) ha)]
theorem yG {t:TypeId} {a v:Value} (h:∀ k ∈ cw a,g' k=g k):jO T t a v g'=jO T t a v g:=by
 unfold jO
 cases ha:addr? a with
 | none=>rfl
 | some p=>simp only;rw [h p.1 (rT (o:=p.2) ha)]
theorem wU {t:TypeId} {m k:Value} {ok:Bool} (h:∀ k ∈ cw m,g' k=g k):kE T t m k ok g'=kE T t m k ok g:=by
 unfold kE
 cases hm:gA m with
 | none=>rfl
 | some r=>simp only [Option.bind_some];rw [h r (gS hm)]
theorem tX {t:TypeId} {m k:Value} (h:∀ k ∈ cw m,g' k=g k):ek T t m k g'=ek T t m k g:=by
 unfold ek
 cases hm:gA m with
 | none=>cases jN T t <;> rfl
 | some r=>cases jN T t with
  | none=>rfl
  | some p=>simp only [h r (gS hm)]
theorem ql {m s v:Value} (h:∀ k ∈ cw m,g' k=g k):cQ m s v g'=cQ m s v g:=by
 unfold cQ
 cases hm:gA m with
 | none=>rfl
 | some r=>cases intOf? s with
  | none=>rfl
  | some p=>simp only [h r (gS hm)]
theorem rU {t:TypeId} {m k v:Value} (h:∀ k ∈ cw m,g' k=g k):dZ T t m k v g'=dZ T t m k v g:=by
 unfold dZ
 cases hm:gA m with
 | none=>cases jN T t <;> rfl
 | some r=>cases jN T t with
  | none=>rfl
  | some p=>simp only [h r (gS hm)]
theorem yH {t:TypeId} {x:Value} (h:∀ k ∈ cw x,g' k=g k):jR T t x g'=jR T t x g:=by
 unfold jR;split
 ·rfl
 ·rw [h _ (by simp [cw])]
 ·rfl
 ·rfl
 ·rfl
theorem xD {o:Op} {ρ:Operand→Value} {r wr:List Nat} (ht:oJ o ρ=some (r,wr)) (hr:∀ k ∈ r,g' k=g k) (hw:∀ k ∈ wr,g' k=g k):jt T n o ρ g'=jt T n o ρ g:=by
 cases o <;> simp only [jt] <;> simp only [oJ,qq9,Prod.mk.injEq,reduceCtorEq] at ht
 case load t a=>obtain ⟨rfl,rfl⟩:=ht;exact Aa hr
 case store t a x=>obtain ⟨rfl,rfl⟩:=ht;exact yG hw
 case lookup t m k ok=>obtain ⟨rfl,rfl⟩:=ht;rw [wU hr]
 case mapEntry t m k=>obtain ⟨rfl,rfl⟩:=ht;exact tX hw
 case entryStore t m s x=>obtain ⟨rfl,rfl⟩:=ht;rw [ql hw]
 case mapUpdate t m k x=>obtain ⟨rfl,rfl⟩:=ht;rw [rU hw]
 case makeMap t r=>cases r <;> rfl
 case slice t x lo hi mx=>cases mx <;> cases hi <;> rfl
 case call c =>
  obtain ⟨callee,args,tys⟩:=c
  cases callee with
  | value f=>rfl
  | invoke r m=>rfl
  | builtin b =>
   unfold zQ gP;simp only;cases b <;> try rfl
   case clear=>cases ht
   case copy=>cases ht
   case len =>
    simp only at ht;split at ht
    ·rename_i x hx;simp only [qq9,Prod.mk.injEq] at ht;obtain ⟨rfl,rfl⟩:=ht;rw [hx]
     cases tys.toList with
     | nil=>rfl
     | cons t l=>cases l with
      | nil=>exact yH hr
      | cons=>rfl
    ·cases ht
   case append =>
    simp only at ht;split at ht
    ·rename_i s x hx;simp only [qq9,Prod.mk.injEq] at ht;obtain ⟨rfl,rfl⟩:=ht;rw [hx];have e1:∀ t,fH T n t s x g'=fH T n t s x g:=fun _=>wT hw hr
     cases tys.toList with
     | nil=>rfl
     | cons t l=>cases l with
      | nil=>rfl
      | cons u l2=>cases l2 with
       | nil=>simp only [e1]
       | cons=>rfl
    ·cases ht
theorem uY {o:Op} {ρ:Operand→Value} {r wr:List Nat} (ht:oJ o ρ=some (r,wr)):(∀ it,o ≠ .next it true)∧z8 o ρ=wr:=by
 refine ⟨fun it e=>(by subst e;cases ht),?_⟩;cases o <;> simp only [oJ,qq9,Prod.mk.injEq,reduceCtorEq] at ht <;> try (exact ht.2)
 case call c =>
  obtain ⟨callee,args,tys⟩:=c
  cases callee with
  | value f=>simp only [qq9,Prod.mk.injEq] at ht;exact ht.2
  | invoke r m=>simp only [qq9,Prod.mk.injEq] at ht;exact ht.2
  | builtin b =>
   cases b <;> try (simp only [qq9,Prod.mk.injEq] at ht;exact ht.2)
   case clear=>cases ht
   case copy=>cases ht
   case len =>
    simp only at ht;split at ht
    ·simp only [qq9,Prod.mk.injEq] at ht;exact ht.2
    ·cases ht
   case append =>
    simp only at ht;split at ht
    ·rename_i s x hx;simp only [qq9,Prod.mk.injEq] at ht;simp only [z8,hx];exact ht.2
    ·cases ht
end
end Go.RM
namespace Go.RM
def Wf (h:Hp):Prop:=∀ k,h.n≤k→h.get k=none
structure cO (a b:Hp):Prop where
 n:a.n≤b.n
 lo:b.lo≤a.lo
 same:∀ k,k < a.n→k < b.lo→b.get k=a.get k
 wf:Wf a→Wf b
 loop:Wf a→∀ k,nt (a.get k)=true→nt (b.get k)=true
theorem cO.refl (a:Hp):cO a a:=⟨qq6 _,qq6 _,fun _ _ _=>rfl,id,fun _ _ h=>h⟩
theorem cO.trans {a b c:Hp} (h:cO a b) (k:cO b c):cO a c :=
 ⟨Nat.le_trans h.n k.n,Nat.le_trans k.lo h.lo,fun i hi hl=>(k.same i (Nat.lt_of_lt_of_le hi h.n) hl).trans (h.same i hi (Nat.lt_of_lt_of_le hl k.lo)),fun hw=>k.wf (h.wf hw),fun hw i hi=>k.loop (h.wf hw) i (h.loop hw i hi)⟩
theorem cO.push (a:Hp) (b:bz):cO a (a.push b) :=
 ⟨Nat.le_succ _,qq6 _,fun k hk _=>by rw [Hp.ew,if_neg (by omega)],fun hw k hk=>by
  have hk':a.n+1≤k:=hk
  rw [Hp.ew,if_neg (by omega)];exact hw k (by omega),fun hw k hk=>by
  have hne:k ≠ a.n:=fun e=>by rw [hw k (by omega)] at hk;cases hk
  rw [Hp.ew,if_neg hne];exact hk⟩
theorem cO.put (a:Hp) (i:Nat) (b:bz) (hi:a.get i ≠ none) (hl:nt (a.get i)=true→nt (some b)=true):cO a (a.put i b) :=
 ⟨qq6 _,Nat.min_le_left _ _,fun k _ hl=>by
  have:k < i:=Nat.lt_of_lt_of_le hl (Nat.min_le_right _ _)
  rw [Hp.jy,if_neg (by omega)],fun hw k hk=>by
  have hk':a.n≤k:=hk
  rw [Hp.jy,if_neg (fun e=>hi (by rw [←e];exact hw k hk'))];exact hw k hk',fun _ k hk=>by
  rw [Hp.jy];split
  ·rename_i e;rw [e] at hk;exact hl hk
  ·exact hk⟩
theorem cO.app (a:Hp) (e:bY) (he:xC a.get e):cO a (a.app e):=by
 cases e with
 | none=>exact .refl a
 | new b=>exact .push a b
 | put k b=>exact .put a k b he.1 (fun h=>by rw [he.2] at h;cases h)
 | app k b=>exact (cO.put a k .dead he.1 (fun h=>by rw [he.2] at h;cases h)).trans (cO.push _ _)
section bind
variable {α β : Type}
theorem lI (f:α→Option (List β)):bp [] f=some []:=rfl
theorem dH (a:α) (f:α→Option (List β)):bp [a] f=f a:=rfl
theorem gu (a b:α) (l:List α) (f:α→Option (List β)):bp (a :: b :: l) f=match f a with
 | some x=>(bp (b :: l) f).map (x++·)
 | none=>none:=rfl
theorem bw {f:α→Option (List β)}:∀ {L:List α} {M:List β},bp L f=some M→∀ a ∈ L,∃ Ma,f a=some Ma∧∀ b ∈ Ma,b ∈ M
 | [],_,_,a,ha=>by cases ha
 | [x],M,h,a,ha=>by rw [dH] at h;obtain rfl:=List.mem_singleton.1 ha;exact ⟨M,h,fun _ hb=>hb⟩
 | x :: y :: l,M,h,a,ha=>by
  rw [gu] at h
  cases hx:f x with
  | none=>rw [hx] at h;cases h
  | some X =>
   rw [hx] at h;simp only [Option.map_eq_some_iff] at h;obtain ⟨Y,hY,rfl⟩:=h
   rcases List.mem_cons.1 ha with rfl|ha
   ·exact ⟨X,hx,fun b hb=>List.mem_append.2 (.inl hb)⟩
   ·obtain ⟨Ma,h1,h2⟩:=bw hY a ha;exact ⟨Ma,h1,fun b hb=>List.mem_append.2 (.inr (h2 b hb))⟩
theorem gv {f:α→Option (List β)}:∀ {L:List α} {M:List β},bp L f=some M→∀ b ∈ M,∃ a ∈ L,∃ Ma,f a=some Ma∧b ∈ Ma
 | [],M,h,b,hb=>by rw [lI] at h;cases h;cases hb
 | [x],M,h,b,hb=>by rw [dH] at h;exact ⟨x,by simp,M,h,hb⟩
 | x :: y :: l,M,h,b,hb=>by
  rw [gu] at h
  cases hx:f x with
  | none=>rw [hx] at h;cases h
  | some X =>
   rw [hx] at h;simp only [Option.map_eq_some_iff] at h;obtain ⟨Y,hY,rfl⟩:=h
   rcases List.mem_append.1 hb with hb|hb
   ·exact ⟨x,by simp,X,hx,hb⟩
   ·obtain ⟨a,ha,Ma,h1,h2⟩:=gv hY b hb;exact ⟨a,List.mem_cons_of_mem _ ha,Ma,h1,h2⟩
theorem Ab {f:α→Option (List β)} {L:List α} {M:List β} (h:bp L f=some M) (hL:L ≠ []) (hf:∀ a ∈ L,∀ Ma,f a=some Ma→Ma ≠ []):M ≠ []:=by
 cases L with
 | nil=>exact absurd rfl hL
 | cons a l =>
  obtain ⟨Ma,h1,h2⟩:=bw h a (by simp);have:=hf a (by simp) Ma h1
  cases Ma with
  | nil=>exact absurd rfl this
  | cons x _=>intro e;subst e;exact absurd (h2 x (by simp)) (by simp)
end bind
def m9.hp:m9→Hp
 | .call _ _ h=>h
 | .round _ _ h=>h
 | .loop _ st=>st.hp
def eF.hp:eF→Hp
 | .ret _ h=>h
 | .out _ st=>st.hp
def Good (a:Hp) {β:Type} (f:β→Hp) (M:List β):Prop:=M ≠ []∧∀ b ∈ M,cO a (f b)
def aS (rec:m9→Option (List eF)):Prop:=∀ j L,rec j=some L→Good j.hp eF.hp L
theorem Good.one {a:Hp} {β:Type} {f:β→Hp} {b:β} (h:cO a (f b)):Good a f [b]:=⟨by simp,fun x hx=>by obtain rfl:=List.mem_singleton.1 hx;exact h⟩
theorem Good.bind {a:Hp} {α β:Type} {f:α→Hp} {f':β→Hp} {L:List α} {M:List β} {k:α→Option (List β)} (h:bp L k=some M) (hL:Good a f L) (hk:∀ x,∀ Mx,k x=some Mx→Good (f x) f' Mx):Good a f' M :=
 ⟨Ab h hL.1 fun x _ Mx hx=>(hk x Mx hx).1,fun b hb=>by
  obtain ⟨x,hx,Mx,h1,h2⟩:=gv h b hb
  exact (hL.2 x hx).trans ((hk x Mx h1).2 b h2)⟩
theorem Good.map {a:Hp} {α β:Type} {f:α→Hp} {f':β→Hp} {L:List α} {k:α→β} (hL:Good a f L) (hk:∀ x,f' (k x)=f x):Good a f' (L.map k) :=
 ⟨by intro e;exact hL.1 (List.map_eq_nil_iff.1 e),fun b hb=>by
  obtain ⟨x,hx,rfl⟩:=List.mem_map.1 hb
  rw [hk];exact hL.2 x hx⟩
section
variable {T : bC} {rec : m9 → Option (List eF)}
theorem qm (H:Hp) (g:Goal):(jS H g).hp=H:=by cases g <;> rfl
theorem EY {it:Value} {g:aG} {L:List (Value × bY)} (h:pY it g=some L):L ≠ []:=by
 have key:∀ {r m since last clock:Nat} {seen:List Nat} {es:List MapEntry},uF r m since seen last es clock=some L→L ≠ []:=by
  intro r m since last clock seen es h;unfold uF at h
  cases hb:(!seen.isEmpty && !es.isEmpty && es.all (fun e=>Nat.ble last e.born)) with
  | true=>rw [hb] at h;cases h
  | false =>
   rw [hb] at h;simp only [cond_false,qq9] at h;rw [←h];generalize (es.filter fun e=>!seen.contains e.born).filter (fun e=>decide (e.born < since))=old
   cases old with
   | nil=>simp
   | cons x l=>simp
 unfold pY at h;split at h
 ·split at h
  ·split at h
   ·exact key h
   ·cases h
  ·cases h
 ·cases h
theorem jX (hr:aS rec) {o:Op} {st:St} {L:List (Value × Hp)} (h:dS T rec o st=some L):Good st.hp (fun p=>p.2) L:=by
 unfold dS at h;split at h
 ·rename_i f args _;split at h
  ·rename_i g _
   cases hj:rec (jS st.hp g) with
   | none=>rw [hj] at h;cases h
   | some R =>
    rw [hj] at h;have:=hr _ _ hj;rw [qm] at this;refine Good.bind h this fun x Mx hx=>?_
    cases x with
    | ret v hp=>simp only [valOf,qq9] at hx;subst hx;exact .one (.refl _)
    | out e s=>cases hx
  ·cases h
 ·rename_i it _;simp only [Option.map_eq_some_iff] at h;obtain ⟨N,hN,rfl⟩:=h;refine ⟨by intro e;exact EY hN (List.map_eq_nil_iff.1 e),fun p hp=>?_⟩;obtain ⟨⟨v,e⟩,hm,rfl⟩:=List.mem_map.1 hp;exact cO.app _ _ (z9 hN _ hm)
 ·split at h
  ·rename_i hop;simp only [qq9] at h;subst h;exact .one (cO.app _ _ (nX hop).1)
  ·cases h
theorem fu (ops:List Oper) (st:St):aV T rec ops [] st=some [st]:=rfl
theorem bU (ops:List Oper) (o:Oper) (l:List Oper) (st:St):aV T rec ops (o :: l) st =
 cond (bu ops st.fr o.guard)
  (match dS T rec o.op st with
   | some L=>bp L fun p=>aV T rec ops l ⟨cY st.fr o.dst p.1,p.2,st.rd⟩
   | none=>none)
  (aV T rec ops l ⟨cY st.fr o.dst undef,st.hp,st.rd⟩):=rfl
theorem dw (hr:aS rec) (ops:List Oper):∀ (l:List Oper) (st:St) (L:List St),aV T rec ops l st=some L→Good st.hp St.hp L∧∀ s ∈ L,s.rd=st.rd:=by
 intro l
 induction l with
 | nil=>intro st L h;rw [fu] at h;cases h;exact ⟨.one (.refl _),by simp⟩
 | cons o l ih =>
  intro st L h;rw [bU] at h
  cases hg:bu ops st.fr o.guard with
  | false=>rw [hg] at h;simp only [cond_false] at h;exact ih ⟨cY st.fr o.dst undef,st.hp,st.rd⟩ _ h
  | true =>
   rw [hg] at h;simp only [cond_true] at h
   cases ha:dS T rec o.op st with
   | none=>rw [ha] at h;cases h
   | some A =>rw [ha] at h;refine ⟨Good.bind h (jX hr ha) fun p Mx hx=>(ih _ _ hx).1,fun s hs=>?_⟩;obtain ⟨p,_,Mx,h1,h2⟩:=gv h s hs;exact (ih _ _ h1).2 s h2
theorem fL (ops:Array Oper) (i:Nat) (st:St) (acc:List Ev):cv T rec ops [] i st acc=cond (eM T ops acc) (some [st]) none:=rfl
theorem cG (ops:Array Oper) (o:Oper) (l:List Oper) (i:Nat) (st:St) (acc:List Ev):cv T rec ops (o :: l) i st acc =
 cond (bu ops.toList st.fr o.guard)
  (match ck T rec o.op i st with
   | some (v,hp,t)=>cv T rec ops l (i+1) ⟨cY st.fr o.dst v,hp,st.rd⟩ (⟨o,st,v,hp,t⟩ :: acc)
   | none=>none)
  (cv T rec ops l (i+1) ⟨cY st.fr o.dst undef,st.hp,st.rd⟩ (⟨o,st,undef,st.hp,⟨i,[],[],false,st.hp.n,st.hp.n⟩⟩ :: acc)):=rfl
theorem B2 {n lo k:Nat} (h:k ∈ KB n lo):lo≤k∧k < n:=by
 unfold KB at h
 cases hc:Nat.ble n lo with
 | true=>rw [hc] at h;cases h
 | false =>rw [hc] at h;simp only [cond_false,List.mem_range'_1] at h;omega
theorem Hw {n lo k:Nat} (h:k ∉ KB n lo) (hk:k < n):k < lo:=by
 unfold KB at h
 cases hc:Nat.ble n lo with
 | true=>have:=Nat.le_of_ble_eq_true hc;omega
 | false =>rw [hc] at h;simp only [cond_false,List.mem_range'_1,not_and,Nat.not_lt] at h;apply Nat.lt_of_not_le;intro hle;have:=h hle;omega
theorem DS {i:Nat} {st:St} {v:Value} {hp:Hp} (h:Nat.ble st.hp.n hp.lo=true):jT i st v hp=(v,{hp with lo:=st.hp.lo},⟨i,[],[],true,st.hp.n,hp.n⟩):=by unfold jT KB;rw [h];rfl
theorem uZ {i:Nat} {st:St} {v:Value} {hp:Hp} (hk:cO {st.hp with lo:=st.hp.n} hp):cO st.hp (jT i st v hp).2.1:=by
 have hn:st.hp.n≤hp.n:=hk.n;refine ⟨hn,?_,fun k hk1 hk2=>?_,hk.wf,hk.loop⟩
 ·show (bif Nat.ble st.hp.n hp.lo then st.hp.lo else min st.hp.lo hp.lo)≤st.hp.lo
  cases Nat.ble st.hp.n hp.lo with
  | true=>exact qq6 _
  | false=>exact Nat.min_le_left _ _
 ·refine hk.same k hk1 ?_;have hk2:k < (bif Nat.ble st.hp.n hp.lo then st.hp.lo else min st.hp.lo hp.lo):=hk2
  cases hc:Nat.ble st.hp.n hp.lo with
  | true=>have:=Nat.le_of_ble_eq_true hc;omega
  | false=>rw [hc] at hk2;simp only [cond_false] at hk2;omega
theorem kH (hr:aS rec) {o:Op} {i:Nat} {st:St} {v:Value} {hp:Hp} {t:Tc} (h:ck T rec o i st=some (v,hp,t)):cO st.hp hp:=by
 unfold ck at h;split at h
 ·split at h
  ·rename_i g _;split at h
   ·rename_i v' hp' hj;have e:=Option.some.inj h;have:=hr _ _ hj;rw [qm] at this;have hk:cO st.hp (jT i st v' hp').2.1:=uZ (this.2 _ (List.mem_singleton.2 rfl));rw [e] at hk;exact hk
   ·cases h
  ·cases h
 ·cases h
 ·split at h
  ·rename_i hop;simp only [qq9,Prod.mk.injEq] at h;obtain ⟨_,rfl,_⟩:=h;exact cO.app _ _ (nX hop).1
  ·cases h
theorem iP (hr:aS rec) (ops:Array Oper):∀ (l:List Oper) (i:Nat) (st:St) (acc:List Ev) (L:List St),cv T rec ops l i st acc=some L→Good st.hp St.hp L∧∀ s ∈ L,s.rd=st.rd:=by
 intro l
 induction l with
 | nil =>
  intro i st acc L h;rw [fL] at h
  cases hc:eM T ops acc with
  | false=>rw [hc] at h;cases h
  | true=>rw [hc] at h;simp at h;subst h;exact ⟨.one (.refl _),by simp⟩
 | cons o l ih =>
  intro i st acc L h;rw [cG] at h
  cases hg:bu ops.toList st.fr o.guard with
  | false=>rw [hg] at h;simp only [cond_false] at h;exact ih _ ⟨cY st.fr o.dst undef,st.hp,st.rd⟩ _ _ h
  | true =>
   rw [hg] at h;simp only [cond_true] at h
   cases ha:ck T rec o.op i st with
   | none=>rw [ha] at h;cases h
   | some p =>obtain ⟨v,hp,t⟩:=p;rw [ha] at h;have:=ih _ _ _ _ h;have hk:=kH hr ha;exact ⟨⟨this.1.1,fun s hs=>hk.trans (this.1.2 s hs)⟩,this.2⟩
theorem u0 (st:St):bH T rec .skip st=some [(.normal,st)]:=rfl
theorem sX (l:Nat) (st:St):bH T rec (.label l) st=some [(.normal,st)]:=rfl
theorem k8 {ops:Array Oper} {st:St} {L:List St} (h:cH T rec ops st=some L):(∃ c,wK ops=some c∧CT T rec ops c st=some L)∨(wK ops=none∧∃ M,cv T rec ops (ops.toList.take (fP ops)) 0 st []=some M∧bp M (aV T rec ops.toList (ops.toList.drop (fP ops)))=some L):=by
 unfold cH at h;split at h
 ·exact .inl ⟨_,by assumption,h⟩
 ·refine .inr ⟨by assumption,?_⟩;split at h
  ·exact ⟨_,by assumption,h⟩
  ·cases h
theorem gT (ops:Array Oper) (K:St→List Ev→Option (List St)) (o:Oper) (l:List Oper) (i:Nat) (st:St) (acc:List Ev):fI T rec ops (o :: l) K i st acc =
 cond (bu ops.toList st.fr o.guard)
  (match ck T rec o.op i st with
   | some (v,hp,t)=>fI T rec ops l K (i+1) ⟨cY st.fr o.dst v,hp,st.rd⟩ (⟨o,st,v,hp,t⟩ :: acc)
   | none=>none)
  (fI T rec ops l K (i+1) ⟨cY st.fr o.dst undef,st.hp,st.rd⟩ (⟨o,st,undef,st.hp,⟨i,[],[],false,st.hp.n,st.hp.n⟩⟩ :: acc)):=rfl
theorem u6 (hr:aS rec) (ops:Array Oper) (K:St→List Ev→Option (List St)):∀ (l:List Oper) (i:Nat) (st:St) (acc:List Ev) (L:List St),fI T rec ops l K i st acc=some L→∃ st' acc',cO st.hp st'.hp∧st'.rd=st.rd∧K st' acc'=some L:=by
 intro l
 induction l with
 | nil=>intro i st acc L h;exact ⟨st,acc,.refl _,rfl,h⟩
 | cons o l ih =>
  intro i st acc L h;rw [gT] at h
  cases hg:bu ops.toList st.fr o.guard with
  | false=>rw [hg] at h;simp only [cond_false] at h;exact ih _ ⟨cY st.fr o.dst undef,st.hp,st.rd⟩ _ _ h
  | true =>
   rw [hg] at h;simp only [cond_true] at h
   cases ha:ck T rec o.op i st with
   | none=>rw [ha] at h;cases h
   | some p =>obtain ⟨v,hp,t⟩:=p;rw [ha] at h;obtain ⟨st',acc',h1,h2,h3⟩:=ih _ _ _ _ h;exact ⟨st',acc',(kH hr ha).trans h1,h2,h3⟩
theorem gE {i:Nat} {st:St} {r:eF} {P:List (Value × Hp × Tc)} (h:EL i st r=some P):∃ v hp,r=.ret v hp∧P=[jT i st v hp]:=by
 cases r with
 | ret v hp=>exact ⟨v,hp,rfl,(Option.some.inj h).symm⟩
 | out e s=>cases h
theorem wV (hr:aS rec) {o:Op} {i:Nat} {st:St} {P:List (Value × Hp × Tc)} (h:eo T rec o i st=some P):Good st.hp (fun p=>p.2.1) P:=by
 unfold eo at h;split at h
 ·split at h
  ·rename_i g _;split at h
   ·rename_i R hj;have:=hr _ _ hj;rw [qm] at this;refine ⟨Ab h this.1 fun r _ Pr hp=>?_,fun p hp=>?_⟩
    ·obtain ⟨v,hp,_,rfl⟩:=gE hp;simp
    ·obtain ⟨r,hrm,Pr,h1,h2⟩:=gv h p hp;obtain ⟨v,hp',rfl,rfl⟩:=gE h1;obtain rfl:=List.mem_singleton.1 h2;exact uZ (this.2 _ hrm)
   ·cases h
  ·cases h
 ·cases h
theorem u7 (hr:aS rec) {ops:Array Oper} {o:Oper} {i:Nat} {st:St} {P:List (Value × Hp × Tc)} (h:jU T rec ops o i st=some P):Good st.hp (fun p=>p.2.1) P:=by
 unfold jU at h
 cases hg:bu ops.toList st.fr o.guard with
 | true =>rw [hg] at h;exact wV hr h
 | false =>rw [hg] at h;simp only [cond_false,qq9] at h;subst h;exact ⟨by simp,fun p hp=>by rw [List.mem_singleton.1 hp];exact .refl _⟩
theorem pF {ops:Array Oper} {c:Nat} {st:St} {acc:List Ev} {L:List St} (h:uJ T rec ops c st acc=some L):∃ o P,ops.toList[c]?=some o∧jU T rec ops o c st=some P∧(∀ p ∈ P,eM T ops (⟨o,st,p.1,p.2.1,p.2.2⟩ :: acc)=true)∧(bp P fun p=>aV T rec ops.toList (ops.toList.drop (c+1)) ⟨cY st.fr o.dst p.1,p.2.1,st.rd⟩)=some L:=by
 unfold uJ at h;split at h
 ·rename_i o ho;split at h
  ·rename_i P hP
   cases hq:P.all fun p=>eM T ops (⟨o,st,p.1,p.2.1,p.2.2⟩ :: acc) with
   | false=>rw [hq] at h;cases h
   | true =>rw [hq] at h;exact ⟨o,P,ho,hP,List.all_eq_true.1 hq,h⟩
  ·cases h
 ·cases h
theorem B3 (hr:aS rec) (ops:Array Oper) (c:Nat) (st:St) (L:List St) (h:CT T rec ops c st=some L):Good st.hp St.hp L:=by obtain ⟨st',acc',h1,h2,h3⟩:=u6 hr _ _ _ _ _ _ _ h;obtain ⟨o,P,_,hP,_,hL⟩:=pF h3;have hg:=u7 hr hP;have hg':Good st.hp (fun p:Value × Hp × Tc=>p.2.1) P:=⟨hg.1,fun p hp=>h1.trans (hg.2 p hp)⟩;exact Good.bind hL hg' fun p Mx hx=>(dw hr _ _ _ _ hx).1
theorem oM (hr:aS rec) (ops:Array Oper) (st:St) (L:List St) (h:cH T rec ops st=some L):Good st.hp St.hp L:=by
 rcases k8 h with ⟨c,_,h⟩|⟨_,M,h1,h2⟩
 ·exact B3 hr _ _ _ _ h
 ·exact Good.bind h2 (iP hr _ _ _ _ _ _ h1).1 fun x Mx hx=>(dw hr _ _ _ _ hx).1
theorem dU (id:Nat) (ops:Array Oper) (draw:Bool) (st:St):bH T rec (.region id ops draw) st =
 match cond draw (cH T rec ops st) (aV T rec ops.toList ops.toList st) with
  | some L=>some (L.map fun s=>(.normal,s))
  | none=>none:=rfl
theorem lJ (a b:Code) (st:St):bH T rec (.seq a b) st=match bH T rec a st with
 | some L=>bp L (uK (bH T rec b))
 | none=>none:=rfl
theorem jY (c:Operand) (a b:Code) (st:St):bH T rec (.cond c a b) st=match aY st.fr c with
 | .bool t=>cond t (bH T rec a st) (bH T rec b st)
 | _=>none:=rfl
theorem kI (id:Nat) (c:Code) (st:St):bH T rec (.block id c) st=match bH T rec c st with
 | some L=>some (L.map (fJ id))
 | none=>none:=rfl
theorem mj (c:Code) (st:St):bH T rec (.loop c) st=match rec (.loop c st) with
 | some L=>bp L zR
 | none=>none:=rfl
theorem u9 (id:Nat) (st:St):bH T rec (.exit id) st=some [(.exit id,st)]:=rfl
theorem xE (st:St):bH T rec .ret st=some [(.ret,st)]:=rfl
theorem kJ (f:Operand) (ps:Array Tmp) (a b:Code) (st:St):bH T rec (.rangeFunc f ps a b) st=l6 rec f ps a b st:=rfl
theorem kK (c:Code) (st:St):bH T rec (.scope c) st=uL (bH T rec c st):=rfl
theorem nx {o:Option (List (Exit × St))} {L:List (Exit × St)} (h:uL o=some L):o=some L∧∀ p ∈ L,∀ l,p.1 ≠ .goto l:=by
 unfold uL at h;split at h
 ·rename_i M
  cases hb:M.all noGoto with
  | false=>rw [hb] at h;cases h
  | true =>rw [hb] at h;simp only [cond_true,qq9] at h;subst h;refine ⟨rfl,fun p hp l e=>?_⟩;have:=List.all_eq_true.1 hb p hp;unfold noGoto at this;rw [e] at this;cases this
 ·cases h
theorem va (l:Nat) (st:St):bH T rec (.goto l) st=none:=rfl
theorem qn (y:String) (st:St):bH T rec (.refuse y) st=none:=rfl
theorem k9 {l : Nat} {fr : Tr Value} {rd : Bool} {r : eF} {M : List (Exit × St)} (h : lF l fr rd r = some M) :
    ∃ v hp s pend fr0 ps as bd, r = .ret v hp ∧ hp.get l = some (.loop s pend fr0 ps as bd) ∧ s ≠ .busy ∧
      ((pend = none ∧ M = [(.normal, ⟨fr, hp.put l (.loop .exhausted pend fr0 ps as bd), rd⟩)]) ∨ (pend = some .ret ∧ M = [(.ret, ⟨fr, hp.put l (.loop .exhausted pend fr0 ps as bd), rd⟩)]) ∨
        ∃ id, pend = some (.exit id) ∧ M = [(.exit id, ⟨fr, hp.put l (.loop .exhausted pend fr0 ps as bd), rd⟩)]) := by
  cases r with
  | out e s => cases h
  | ret v hp =>
    unfold lF at h;simp only at h;split at h
    · rename_i s pend fr0 ps as bd hl;refine ⟨v, hp, s, pend, fr0, ps, as, bd, rfl, hl, ?_⟩;have hs : s ≠ .busy := fun e => by subst e; simp at h
      refine ⟨hs, ?_⟩
      cases pend with
      | none => cases s <;> simp at h hs ⊢ <;> exact h.symm
      | some c =>
        cases c with
        | ret => refine .inr (.inl ⟨rfl, ?_⟩); cases s <;> simp at h hs ⊢ <;> exact h.symm
        | exit id => refine .inr (.inr ⟨id, rfl, ?_⟩); cases s <;> simp at h hs ⊢ <;> exact h.symm
        | _ => cases s <;> simp at h
    · cases h
theorem gw (hr:aS rec):∀ (c:Code) (st:St) (L:List (Exit × St)),bH T rec c st=some L→Good st.hp (fun p=>p.2.hp) L:=by
 intro c
 induction c with
 | skip=>intro st L h;rw [u0] at h;cases h;exact .one (.refl _)
 | label l=>intro st L h;rw [sX] at h;cases h;exact .one (.refl _)
 | exit id=>intro st L h;rw [u9] at h;cases h;exact .one (.refl _)
 | ret=>intro st L h;rw [xE] at h;cases h;exact .one (.refl _)
 | scope c ih=>intro st L h;rw [kK] at h;exact ih st L (nx h).1
 | goto l=>intro st L h;rw [va] at h;cases h
 | refuse y=>intro st L h;rw [qn] at h;cases h
 | region id ops draw =>
  intro st L h;rw [dU] at h
  cases draw with
  | true =>
   simp only [cond_true] at h
   cases hx:cH T rec ops st with
   | none=>rw [hx] at h;cases h
   | some R=>rw [hx] at h;simp only [qq9] at h;subst h;exact (oM hr _ _ _ hx).map fun _=>rfl
  | false =>
   simp only [cond_false] at h
   cases hx:aV T rec ops.toList ops.toList st with
   | none=>rw [hx] at h;cases h
   | some R=>rw [hx] at h;simp only [qq9] at h;subst h;exact (dw hr _ _ _ _ hx).1.map fun _=>rfl
 | seq a b iha ihb =>
  intro st L h;rw [lJ] at h
  cases hx:bH T rec a st with
  | none=>rw [hx] at h;cases h
  | some R =>
   rw [hx] at h;refine Good.bind h (iha _ _ hx) fun p Mx hp=>?_;unfold uK at hp;split at hp
   ·exact ihb _ _ hp
   ·simp only [qq9] at hp;subst hp;exact .one (.refl _)
 | cond c a b iha ihb =>
  intro st L h;rw [jY] at h;split at h
  ·rename_i t _
   cases t with
   | true=>exact iha _ _ h
   | false=>exact ihb _ _ h
  ·cases h
 | block id c ih =>
  intro st L h;rw [kI] at h
  cases hx:bH T rec c st with
  | none=>rw [hx] at h;cases h
  | some R =>rw [hx] at h;simp only [qq9] at h;subst h;refine (ih _ _ hx).map fun p=>?_;unfold fJ;split <;> rfl
 | loop c _ =>
  intro st L h;rw [mj] at h
  cases hx:rec (.loop c st) with
  | none=>rw [hx] at h;cases h
  | some R =>
   rw [hx] at h;refine Good.bind h (hr _ _ hx) fun p Mx hp=>?_
   cases p with
   | ret=>cases hp
   | out e s=>simp only [zR,qq9] at hp;subst hp;exact .one (.refl _)
 | rangeFunc f ps a b _ _ =>
  intro st L h;rw [kJ] at h;unfold l6 at h;split at h
  ·rename_i g args _
   cases hx:rec (.call g args (st.hp.push (.loop .ready none st.fr ps a b))) with
   | none=>rw [hx] at h;cases h
   | some R =>rw [hx] at h;have hk:=hr _ _ hx;have hk':Good st.hp eF.hp R:=⟨hk.1,fun r hr'=>(cO.push _ _).trans (hk.2 r hr')⟩;refine Good.bind h hk' fun p Mx hp=>?_;obtain ⟨v,hp2,s,pend,fr0,ps',as',bd',rfl,hgt,_,h1|h1|⟨_,h1⟩⟩:=k9 hp <;> (obtain ⟨_,rfl⟩:=h1;exact .one (cO.put hp2 _ _ (by rw [hgt];simp) (fun _=>rfl)))
  ·cases h
theorem jZ (f:FuncId) (args:List Value) (hp:Hp):gQ T rec (.call f args hp)=match T.fn.get f with
 | some fn=>match fn.body with
  | some c=>match bH T rec c ⟨setArgs .leaf 0 args,hp,false⟩ with
   | some L=>bp L (eN T fn.results.toList)
   | none=>none
  | none=>none
 | none=>oL T rec f args hp:=rfl
theorem ny (l:Nat) (args:List Value) (hp:Hp):gQ T rec (.round l args hp)=match hp.get l with
 | some (.loop .ready _ fr ps as bd)=>cond (Nat.beq args.length ps.toList.length)
  (match bH T rec as ⟨ep fr (ps.toList.zip args),hp,true⟩ with
  | some L=>bp L (cN T rec l bd)
  | none=>none) none
 | _=>none:=rfl
theorem pG (c:Code) (st:St):gQ T rec (.loop c st)=match bH T rec c st with
 | some L=>bp L (eu rec c)
 | none=>none:=rfl
theorem mm {rs:List ResultVar} {p:Exit × St} {M:List eF} (h:eN T rs p=some M):(p.1=.normal∨p.1=.ret)∧∃ vs,fK T p.2.fr p.2.hp rs=some vs∧M=[.ret (bM vs) p.2.hp]:=by
 obtain ⟨e,s⟩:=p;unfold eN at h
 cases e with
 | normal=>simp only [Option.map_eq_some_iff] at h;obtain ⟨vs,a,b⟩:=h;exact ⟨.inl rfl,vs,a,b.symm⟩
 | ret=>simp only [Option.map_eq_some_iff] at h;obtain ⟨vs,a,b⟩:=h;exact ⟨.inr rfl,vs,a,b.symm⟩
 | _=>simp at h
theorem j5 {l : Nat} {p : Exit × St} {M : List eF} (h : iu l p = some M) : ∃ st pend fr ps as bd, p.2.hp.get l = some (.loop st pend fr ps as bd) ∧
    ((p.1 = .normal ∧ M = [.ret (.bool true) (p.2.hp.put l (.loop .ready none fr ps as bd))]) ∨
     (p.1 = .ret ∧ M = [.ret (.bool false) (p.2.hp.put l (.loop .done (some .ret) fr ps as bd))]) ∨
     ∃ id, p.1 = .exit id ∧ M = [.ret (.bool false) (p.2.hp.put l (.loop .done (some (.exit id)) fr ps as bd))]) := by
  obtain ⟨e, s⟩ := p;unfold iu at h;simp only at h;split at h
  · rename_i st pend fr ps as bd hl;refine ⟨st, pend, fr, ps, as, bd, hl, ?_⟩
    cases e with
    | normal => simp only [qq9] at h; exact .inl ⟨rfl, h.symm⟩
    | ret => simp only [qq9] at h; exact .inr (.inl ⟨rfl, h.symm⟩)
    | exit id => simp only [qq9] at h; exact .inr (.inr ⟨id, rfl, h.symm⟩)
    | _ => simp at h
  · cases h
theorem iA {l:Nat} {body:Code} {p:Exit × St} {M:List eF} (h:cN T rec l body p=some M):p.1=.normal∧∃ pend fr ps as bd R,p.2.hp.get l=some (.loop .ready pend fr ps as bd) ∧
  bH T rec body ⟨p.2.fr,p.2.hp.put l (.loop .busy pend fr ps as bd),true⟩=some R∧bp R (iu l)=some M:=by
 obtain ⟨e,s⟩:=p;unfold cN at h;have he:e=.normal:=by cases e <;> first|rfl|simp at h
 subst he;simp only at h;split at h
 ·rename_i pend fr ps as bd hl
  cases hy:bH T rec body ⟨s.fr,s.hp.put l (.loop .busy pend fr ps as bd),true⟩ with
  | none=>rw [hy] at h;cases h
  | some R=>rw [hy] at h;exact ⟨rfl,pend,fr,ps,as,bd,R,hl,hy,h⟩
 ·cases h
theorem m4 {f:FuncId} {args:List Value} {hp:Hp} {L:List eF} (h:gQ T rec (.call f args hp)=some L) :
  (∃ fn c R,T.fn.get f=some fn∧fn.body=some c∧bH T rec c ⟨setArgs .leaf 0 args,hp,false⟩=some R∧bp R (eN T fn.results.toList)=some L)∨oL T rec f args hp=some L:=by
 rw [jZ] at h
 cases hf:T.fn.get f with
 | none=>rw [hf] at h;exact .inr h
 | some fn =>
  rw [hf] at h;simp only at h
  cases hb:fn.body with
  | none=>rw [hb] at h;cases h
  | some c =>
   rw [hb] at h;simp only at h
   cases hx:bH T rec c ⟨setArgs .leaf 0 args,hp,false⟩ with
   | none=>rw [hx] at h;cases h
   | some R=>rw [hx] at h;exact .inl ⟨fn,c,R,rfl,hb,hx,h⟩
theorem lK {l:Nat} {args:List Value} {hp:Hp} {L:List eF} (h:gQ T rec (.round l args hp)=some L) :
  ∃ pend fr ps as bd R,hp.get l=some (.loop .ready pend fr ps as bd)∧args.length=ps.size∧bH T rec as ⟨ep fr (ps.toList.zip args),hp,true⟩=some R∧bp R (cN T rec l bd)=some L:=by
 rw [ny] at h;split at h
 ·rename_i pend fr ps as bd hl
  cases hlen:Nat.beq args.length ps.toList.length with
  | false=>rw [hlen] at h;cases h
  | true =>
   rw [hlen] at h;simp only [cond_true] at h
   cases hx:bH T rec as ⟨ep fr (ps.toList.zip args),hp,true⟩ with
   | none=>rw [hx] at h;cases h
   | some R=>rw [hx] at h;exact ⟨pend,fr,ps,as,bd,R,hl,by simpa using Nat.eq_of_beq_eq_true hlen,hx,h⟩
 ·cases h
theorem m5 {c:Code} {st:St} {L:List eF} (h:gQ T rec (.loop c st)=some L):∃ R,bH T rec c st=some R∧bp R (eu rec c)=some L:=by
 rw [pG] at h
 cases hx:bH T rec c st with
 | none=>rw [hx] at h;cases h
 | some R=>rw [hx] at h;exact ⟨R,rfl,h⟩
theorem j6 {c:Code} {p:Exit × St} {M:List eF} (h:eu rec c p=some M):(p.1=.normal∧rec (.loop c p.2)=some M)∨(p.1 ≠ .normal∧M=[.out p.1 p.2]):=by
 obtain ⟨e,s⟩:=p;unfold eu at h
 cases e <;> simp only [qq9] at h <;> first
  | exact .inl ⟨rfl,h⟩
  | exact .inr ⟨by simp,h.symm⟩
def qc.hp:qc→Hp
 | .call _ _ h=>h
 | .loop _ st=>st.hp
def eE.hp:eE→Hp
 | .ret _ h=>h
 | .pV _ h=>h
 | .out _ st=>st.hp
def ey (recP:qc→Option (List eE)):Prop:=∀ j L,recP j=some L→Good j.hp eE.hp L
section
variable {recP : qc → Option (List eE)}
theorem sY {H:Hp} {v:Value} {L:List eE} (h:yp H v=some L):∃ t x,v=.iface t x∧L=[.pV v H]:=by
 unfold yp at h;split at h
 ·rename_i t x;exact ⟨t,x,rfl,(Option.some.inj h).symm⟩
 ·cases h
theorem sZ {o:Op} {st:St} {L:List eE} (h:iw T rec recP o st=some L) :
  (∃ x,qd o=some x∧yp st.hp (aY st.fr x)=some L)∨(qd o=none∧∃ g as,ue T o st=some (g,as)∧recP (.call g as st.hp)=some L) ∨
   (qd o=none∧∃ M,dS T rec o st=some M∧L=M.map fun p=>.ret p.1 p.2):=by
 unfold iw at h;split at h
 ·rename_i x hx;exact .inl ⟨x,hx,h⟩
 ·rename_i hx;split at h
  ·rename_i g as hg;exact .inr (.inl ⟨hx,g,as,hg,h⟩)
  ·simp only [Option.map_eq_some_iff] at h;obtain ⟨M,h1,h2⟩:=h;exact .inr (.inr ⟨hx,M,h1,h2.symm⟩)
theorem nA (hr:aS rec) (hp:ey recP) {o:Op} {st:St} {L:List eE} (h:iw T rec recP o st=some L):Good st.hp eE.hp L:=by
 rcases sZ h with ⟨x,_,h⟩|⟨_,g,as,_,h⟩|⟨_,M,h2,rfl⟩
 ·obtain ⟨_,_,_,rfl⟩:=sY h;exact .one (.refl _)
 ·exact hp _ _ h
 ·exact (jX hr h2).map fun _=>rfl
theorem mq (ops:List Oper) (st:St):cB T rec recP ops [] st=some [(none,st)]:=rfl
theorem iQ (ops:List Oper) (o:Oper) (l:List Oper) (st:St):cB T rec recP ops (o :: l) st=cond (bu ops st.fr o.guard)
 (match iw T rec recP o.op st with
  | some L=>bp L (KH o.dst st (cB T rec recP ops l))
  | none=>none)
 (cB T rec recP ops l ⟨cY st.fr o.dst undef,st.hp,st.rd⟩):=rfl
theorem qo {dst:Option Tmp} {st:St} {k:St→Option (List (Option Value × St))} {r:eE} {M:List (Option Value × St)} (h:KH dst st k r=some M) :
  (∃ v hp,r=.ret v hp∧k ⟨cY st.fr dst v,hp,st.rd⟩=some M)∨∃ v hp,r=.pV v hp∧M=[(some v,⟨st.fr,hp,st.rd⟩)]:=by
 cases r with
 | ret v hp=>exact .inl ⟨v,hp,rfl,h⟩
 | pV v hp=>exact .inr ⟨v,hp,rfl,(Option.some.inj h).symm⟩
 | out x s=>cases h
theorem fY (hr:aS rec) (hp:ey recP) (ops:List Oper):∀ (l:List Oper) (st:St) (L:List (Option Value × St)),cB T rec recP ops l st=some L→Good st.hp (fun p=>p.2.hp) L:=by
 intro l
 induction l with
 | nil=>intro st L h;rw [mq] at h;cases h;exact .one (.refl _)
 | cons o l ih =>
  intro st L h;rw [iQ] at h
  cases hg:bu ops st.fr o.guard with
  | false=>rw [hg] at h;exact ih ⟨cY st.fr o.dst undef,st.hp,st.rd⟩ L h
  | true =>
   rw [hg] at h;simp only [cond_true] at h
   cases ha:iw T rec recP o.op st with
   | none=>rw [ha] at h;cases h
   | some A =>
    rw [ha] at h;refine Good.bind h (nA hr hp ha) fun r Mx hx=>?_
    rcases qo hx with ⟨v,h2,rfl,h3⟩|⟨v,h2,rfl,rfl⟩
    ·exact ih _ _ h3
    ·exact .one (.refl _)
theorem ld (id:Nat) (ops:Array Oper) (draw:Bool) (st:St):cE T rec recP (.region id ops draw) st=cond draw
 (match dG T rec recP ops st with
  | some L=>some (L.map mV)
  | none=>none)
 (match cB T rec recP ops.toList ops.toList st with
  | some L=>some (L.map mV)
  | none=>none):=rfl
theorem pH (a b:Code) (st:St):cE T rec recP (.seq a b) st=match cE T rec recP a st with
 | some L=>bp L (xy (cE T rec recP b))
 | none=>none:=rfl
theorem nB (c:Operand) (a b:Code) (st:St):cE T rec recP (.cond c a b) st=match aY st.fr c with
 | .bool t=>cond t (cE T rec recP a st) (cE T rec recP b st)
 | _=>none:=rfl
theorem mw (id:Nat) (c:Code) (st:St):cE T rec recP (.block id c) st=match cE T rec recP c st with
 | some L=>some (L.map (fW id))
 | none=>none:=rfl
theorem nC (c:Code) (st:St):cE T rec recP (.loop c) st=match recP (.loop c st) with
 | some L=>bp L BQ
 | none=>none:=rfl
theorem pI {k:St→Option (List (nc × St))} {p:nc × St} {M:List (nc × St)} (h:xy k p=some M):(p.1=.e .normal∧k p.2=some M)∨(p.1 ≠ .e .normal∧M=[p]):=by
 obtain ⟨x,s⟩:=p;unfold xy at h;simp only at h;split at h
 ·exact .inl ⟨rfl,h⟩
 ·rename_i hx;exact .inr ⟨hx,(Option.some.inj h).symm⟩
theorem qp (p:Option Value × St):(mV p).2=p.2:=by unfold mV;split <;> rfl
theorem s5 (id:Nat) (p:nc × St):(fW id p).2=p.2:=by unfold fW;split <;> rfl
theorem s7 {r:eE} {M:List (nc × St)} (h:BQ r=some M):∃ x s,r=.out x s∧M=[(x,s)]:=by
 cases r with
 | out x s=>exact ⟨x,s,rfl,(Option.some.inj h).symm⟩
 | ret=>cases h
 | pV=>cases h
theorem j7 {ops:Array Oper} {st:St} {L:List (Option Value × St)} (h:dG T rec recP ops st=some L):(∃ c,zS T ops=some c∧∃ M,cv T rec ops (ops.toList.take c) 0 st []=some M∧bp M (cB T rec recP ops.toList (ops.toList.drop c))=some L)∨(zS T ops=none∧∃ M,cH T rec ops st=some M∧L=M.map fun s=>(none,s)):=by
 unfold dG at h;split at h
 ·refine .inl ⟨_,by assumption,?_⟩;split at h
  ·exact ⟨_,by assumption,h⟩
  ·cases h
 ·refine .inr ⟨by assumption,?_⟩;split at h
  ·exact ⟨_,by assumption,(Option.some.inj h).symm⟩
  ·cases h
theorem vb (hr:aS rec) (hp:ey recP) (ops:Array Oper) (st:St) (L:List (Option Value × St)) (h:dG T rec recP ops st=some L):Good st.hp (fun p=>p.2.hp) L:=by
 rcases j7 h with ⟨c,_,M,h1,h2⟩|⟨_,M,h1,rfl⟩
 ·exact Good.bind h2 (iP hr _ _ _ _ _ _ h1).1 fun x Mx hx=>fY hr hp _ _ _ _ hx
 ·exact (oM hr _ _ _ h1).map fun _=>rfl
theorem gF (hr:aS rec) (hp:ey recP):∀ (c:Code) (st:St) (L:List (nc × St)),cE T rec recP c st=some L→Good st.hp (fun p=>p.2.hp) L:=by
 intro c
 induction c with
 | skip=>intro st L h;cases h;exact .one (.refl _)
 | label l=>intro st L h;cases h;exact .one (.refl _)
 | exit id=>intro st L h;cases h;exact .one (.refl _)
 | ret=>intro st L h;cases h;exact .one (.refl _)
 | scope c ih=>intro st L h;cases h
 | goto l=>intro st L h;cases h
 | refuse y=>intro st L h;cases h
 | rangeFunc f ps a b _ _=>intro st L h;cases h
 | region id ops draw =>
  intro st L h;rw [ld] at h
  cases draw with
  | true =>
   simp only [cond_true] at h
   cases hx:dG T rec recP ops st with
   | none=>rw [hx] at h;cases h
   | some R=>rw [hx] at h;simp only [qq9] at h;subst h;exact (vb hr hp _ _ _ hx).map fun p=>by rw [qp]
  | false =>
   simp only [cond_false] at h
   cases hx:cB T rec recP ops.toList ops.toList st with
   | none=>rw [hx] at h;cases h
   | some R=>rw [hx] at h;simp only [qq9] at h;subst h;exact (fY hr hp _ _ _ _ hx).map fun p=>by rw [qp]
 | seq a b iha ihb =>
  intro st L h;rw [pH] at h
  cases hx:cE T rec recP a st with
  | none=>rw [hx] at h;cases h
  | some R =>
   rw [hx] at h;refine Good.bind h (iha _ _ hx) fun p Mx hq=>?_
   rcases pI hq with ⟨_,h1⟩|⟨_,rfl⟩
   ·exact ihb _ _ h1
   ·exact .one (.refl _)
 | cond c a b iha ihb =>
  intro st L h;rw [nB] at h;split at h
  ·rename_i t _
   cases t with
   | true=>exact iha _ _ h
   | false=>exact ihb _ _ h
  ·cases h
 | block id c ih =>
  intro st L h;rw [mw] at h
  cases hx:cE T rec recP c st with
  | none=>rw [hx] at h;cases h
  | some R =>rw [hx] at h;simp only [qq9] at h;subst h;exact (ih _ _ hx).map fun p=>by rw [s5]
 | loop c _ =>
  intro st L h;rw [nC] at h
  cases hx:recP (.loop c st) with
  | none=>rw [hx] at h;cases h
  | some R =>rw [hx] at h;refine Good.bind h (hp _ _ hx) fun p Mx hq=>?_;obtain ⟨x,s,rfl,rfl⟩:=s7 hq;exact .one (.refl _)
theorem iR {rs:List ResultVar} {p:nc × St} {M:List eE} (h:ni T rs p=some M):((p.1=.e .normal∨p.1=.e .ret)∧∃ vs,fK T p.2.fr p.2.hp rs=some vs∧M=[.ret (bM vs) p.2.hp])∨∃ v,p.1=.pV v∧M=[.pV v p.2.hp]:=by
 obtain ⟨e,s⟩:=p;unfold ni at h
 cases e with
 | pV v=>exact .inr ⟨v,rfl,(Option.some.inj h).symm⟩
 | e x =>
  cases x with
  | normal=>simp only [Option.map_eq_some_iff] at h;obtain ⟨vs,a,b⟩:=h;exact .inl ⟨.inl rfl,vs,a,b.symm⟩
  | ret=>simp only [Option.map_eq_some_iff] at h;obtain ⟨vs,a,b⟩:=h;exact .inl ⟨.inr rfl,vs,a,b.symm⟩
  | _=>simp at h
theorem je {c:Code} {p:nc × St} {M:List eE} (h:iy recP c p=some M):(p.1=.e .normal∧recP (.loop c p.2)=some M)∨(p.1 ≠ .e .normal∧M=[.out p.1 p.2]):=by
 obtain ⟨x,s⟩:=p;unfold iy at h;simp only at h;split at h
 ·exact .inl ⟨rfl,h⟩
 ·rename_i hx;exact .inr ⟨hx,(Option.some.inj h).symm⟩
theorem jg {f:FuncId} {args:List Value} {hp:Hp} {L:List eE} (h:mW T rec recP (.call f args hp)=some L) :
  ∃ fn c R,T.Hv.get f=some fn∧fn.body=some c∧cE T rec recP c ⟨setArgs .leaf 0 args,hp,false⟩=some R∧bp R (ni T fn.results.toList)=some L:=by
 unfold mW at h;simp only at h
 cases hf:T.Hv.get f with
 | none=>rw [hf] at h;cases h
 | some fn =>
  rw [hf] at h;simp only at h
  cases hb:fn.body with
  | none=>rw [hb] at h;cases h
  | some c =>
   rw [hb] at h;simp only at h
   cases hx:cE T rec recP c ⟨setArgs .leaf 0 args,hp,false⟩ with
   | none=>rw [hx] at h;cases h
   | some R=>rw [hx] at h;exact ⟨fn,c,R,rfl,hb,hx,h⟩
theorem jh {c:Code} {st:St} {L:List eE} (h:mW T rec recP (.loop c st)=some L):∃ R,cE T rec recP c st=some R∧bp R (iy recP c)=some L:=by
 unfold mW at h;simp only at h
 cases hx:cE T rec recP c st with
 | none=>rw [hx] at h;cases h
 | some R=>rw [hx] at h;exact ⟨R,rfl,h⟩
theorem B4 (hr:aS rec) (hp:ey recP):ey (mW T rec recP):=by
 intro j L h
 cases j with
 | call f args H =>
  obtain ⟨fn,c,R,_,_,hx,h⟩:=jg h;refine Good.bind h (gF hr hp _ _ _ hx) fun p Mx hq=>?_
  rcases iR hq with ⟨_,vs,_,rfl⟩|⟨v,_,rfl⟩ <;> exact .one (.refl _)
 | loop c st =>
  obtain ⟨R,hx,h⟩:=jh h;refine Good.bind h (gF hr hp _ _ _ hx) fun p Mx hq=>?_
  rcases je hq with ⟨_,h1⟩|⟨_,rfl⟩
  ·exact hp _ _ h1
  ·exact .one (.refl _)
end
theorem iB (hr:aS rec):∀ n,ey (BS T rec n)
 | 0=>fun j L h=>by cases h
 | n+1=>fun j L h=>B4 hr (iB hr n) j L h
theorem Ac {o:Op} {st:St} {pv:Option Value} {v:Value} {hp:Hp} {pv':Option Value} (h:KC T o st pv=some (v,hp,pv')) :
  (∃ args tys,o=.call ⟨.builtin .recover,args,tys⟩∧hp=st.hp∧pv'=none∧v=pv.getD .nilIface)∨(cS o=.plain∧pv'=pv∧∃ e,jt T st.hp.n o (aY st.fr) st.hp.get=some (v,e)∧hp=st.hp.app e):=by
 unfold KC at h;split at h
 ·rename_i args tys;split at h
  ·simp only [qq9,Prod.mk.injEq] at h;obtain ⟨rfl,rfl,rfl⟩:=h;exact .inl ⟨args,tys,rfl,rfl,rfl,rfl⟩
  ·simp only [qq9,Prod.mk.injEq] at h;obtain ⟨rfl,rfl,rfl⟩:=h;exact .inl ⟨args,tys,rfl,rfl,rfl,rfl⟩
 ·split at h
  ·rename_i hk;split at h
   ·rename_i u e hop;simp only [qq9,Prod.mk.injEq] at h;obtain ⟨rfl,rfl,rfl⟩:=h;exact .inr ⟨hk,rfl,e,hop,rfl⟩
   ·cases h
  ·cases h
theorem Ad {o:Op} {st:St} {pv:Option Value} {v:Value} {hp:Hp} {pv':Option Value} (h:KC T o st pv=some (v,hp,pv')):cO st.hp hp:=by
 rcases Ac h with ⟨_,_,_,rfl,_⟩|⟨_,_,e,hop,rfl⟩
 ·exact .refl _
 ·exact cO.app _ _ (nX hop).1
theorem qq (ops:List Oper) (st:St) (pv:Option Value):iV T ops [] st pv=some (st,pv):=rfl
theorem oN (ops:List Oper) (o:Oper) (l:List Oper) (st:St) (pv:Option Value):iV T ops (o :: l) st pv=cond (bu ops st.fr o.guard)
 (match KC T o.op st pv with
  | some (v,hp,pv')=>iV T ops l ⟨cY st.fr o.dst v,hp,st.rd⟩ pv'
  | none=>none)
 (iV T ops l ⟨cY st.fr o.dst undef,st.hp,st.rd⟩ pv):=rfl
theorem oO (ops:List Oper):∀ (l:List Oper) (st:St) (pv:Option Value) (p:St × Option Value),iV T ops l st pv=some p→cO st.hp p.1.hp:=by
 intro l
 induction l with
 | nil=>intro st pv p h;rw [qq] at h;cases h;exact .refl _
 | cons o l ih =>
  intro st pv p h;rw [oN] at h
  cases hg:bu ops st.fr o.guard with
  | false=>rw [hg] at h;exact ih ⟨cY st.fr o.dst undef,st.hp,st.rd⟩ pv p h
  | true =>
   rw [hg] at h;simp only [cond_true] at h;split at h
   ·rename_i v hp pv' hop;exact (Ad hop).trans (ih _ _ _ h)
   ·cases h
theorem oP (id:Nat) (ops:Array Oper) (draw:Bool) (st:St) (pv:Option Value):jV T (.region id ops draw) st pv=cond draw none (match iV T ops.toList ops.toList st pv with
 | some p=>some (.normal,p.1,p.2)
 | none=>none):=rfl
theorem vc (a b:Code) (st:St) (pv:Option Value):jV T (.seq a b) st pv=match jV T a st pv with
 | some (.normal,st',pv')=>jV T b st' pv'
 | some p=>some p
 | none=>none:=rfl
theorem s8 (c:Operand) (a b:Code) (st:St) (pv:Option Value):jV T (.cond c a b) st pv=match aY st.fr c with
 | .bool t=>cond t (jV T a st pv) (jV T b st pv)
 | _=>none:=rfl
theorem s9:∀ (c:Code) (st:St) (pv:Option Value) (p:Exit × St × Option Value),jV T c st pv=some p→cO st.hp p.2.1.hp:=by
 intro c
 induction c with
 | skip=>intro st pv p h;cases h;exact .refl _
 | ret=>intro st pv p h;cases h;exact .refl _
 | region id ops draw =>
  intro st pv p h;rw [oP] at h
  cases draw with
  | true=>cases h
  | false =>
   simp only [cond_false] at h;split at h
   ·rename_i q hq;cases h;exact oO _ _ _ _ _ hq
   ·cases h
 | seq a b iha ihb =>
  intro st pv p h;rw [vc] at h;split at h
  ·rename_i st' pv' hx;exact (iha _ _ _ hx).trans (ihb _ _ _ h)
  ·rename_i hx;cases h;exact iha _ _ _ hx
  ·cases h
 | cond c a b iha ihb =>
  intro st pv p h;rw [s8] at h;split at h
  ·rename_i t _
   cases t with
   | true=>exact iha _ _ _ h
   | false=>exact ihb _ _ _ h
  ·cases h
 | _=>intro st pv p h;cases h
theorem nD {clo:Value} {hp:Hp} {pv:Option Value} {hp':Hp} {pv':Option Value} (h:nj T clo hp pv=some (hp',pv')) :
  ∃ g as fn c x st,cy clo []=some (.fn g as)∧T.EJ.get g=some fn∧fn.body=some c∧fn.results.toList=[]∧jV T c ⟨setArgs .leaf 0 as,hp,false⟩ pv=some (x,st,pv')∧(x=.normal∨x=.ret)∧hp'=st.hp:=by
 unfold nj at h;split at h
 ·rename_i g as hg
  cases hf:T.EJ.get g with
  | none=>rw [hf] at h;cases h
  | some fn =>
   rw [hf] at h;simp only at h;split at h
   ·rename_i c hb hr;split at h
    ·rename_i st pv2 hx;cases h;exact ⟨g,as,fn,c,_,st,hg,hf,hb,hr,hx,.inl rfl,rfl⟩
    ·rename_i st pv2 hx;cases h;exact ⟨g,as,fn,c,_,st,hg,hf,hb,hr,hx,.inr rfl,rfl⟩
    ·cases h
   ·cases h
 ·cases h
theorem ta {clo:Value} {hp:Hp} {pv:Option Value} {hp':Hp} {pv':Option Value} (h:nj T clo hp pv=some (hp',pv')):cO hp hp':=by obtain ⟨g,as,fn,c,x,st,_,_,_,_,hx,_,rfl⟩:=nD h;exact s9 _ _ _ _ hx
theorem kL {rs:List ResultVar} {p:nc × St × Value} {M:List eF} (h:uM T rs p=some M) :
  ∃ pv hp vs,((pv=none∧(p.1=.e .normal∨p.1=.e .ret))∨∃ v,pv=some v∧p.1=.pV v)∧nj T p.2.2 p.2.1.hp pv=some (hp,none)∧fK T p.2.1.fr hp rs=some vs∧M=[.ret (bM vs) hp]:=by
 obtain ⟨x,s,clo⟩:=p;unfold uM at h;simp only at h;split at h
 ·rename_i hp hx;simp only [Option.map_eq_some_iff] at h;obtain ⟨vs,h1,h2⟩:=h;split at hx
  ·exact ⟨none,hp,vs,.inl ⟨rfl,.inl rfl⟩,hx,h1,h2.symm⟩
  ·exact ⟨none,hp,vs,.inl ⟨rfl,.inr rfl⟩,hx,h1,h2.symm⟩
  ·rename_i v;exact ⟨some v,hp,vs,.inr ⟨v,rfl,rfl⟩,hx,h1,h2.symm⟩
  ·cases hx
 ·cases h
theorem rV (a b:Code) (st:St):oK T rec (.seq a b) st=match uf a with
 | some (l,x)=>match aV T rec (EN a) l st with
  | some L=>bp L fun s=>(cE T rec (BS T rec 1000) b s).map fun M=>M.map fun p=>(p.1,p.2,aY s.fr x)
  | none=>none
 | none=>match bH T rec a st with
  | some L=>bp L fun p=>match p.1 with
   | .normal=>oK T rec b p.2
   | _=>none
  | none=>none:=rfl
theorem ve (hr:aS rec):∀ (c:Code) (st:St) (L:List (nc × St × Value)),oK T rec c st=some L→Good st.hp (fun p=>p.2.1.hp) L:=by
 intro c
 induction c with
 | seq a b iha ihb =>
  intro st L h;rw [rV] at h;split at h
  ·rename_i l x hd;split at h
   ·rename_i R hx;refine Good.bind h (dw hr _ _ _ _ hx).1 fun s Mx hq=>?_;simp only [Option.map_eq_some_iff] at hq;obtain ⟨M,h1,rfl⟩:=hq;exact (gF hr (iB hr 1000) _ _ _ h1).map fun _=>rfl
   ·cases h
  ·split at h
   ·rename_i R hx;refine Good.bind h (gw hr _ _ _ hx) fun p Mx hq=>?_;split at hq
    ·exact ihb _ _ hq
    ·cases hq
   ·cases h
 | _=>intro st L h;cases h
theorem pJ {f:FuncId} {args:List Value} {hp:Hp} {L:List eF} (h:oL T rec f args hp=some L) :
  ∃ fn c R,T.EJ.get f=some fn∧fn.body=some c∧oK T rec c ⟨setArgs .leaf 0 args,hp,false⟩=some R∧bp R (uM T fn.results.toList)=some L:=by
 unfold oL at h
 cases hf:T.EJ.get f with
 | none=>rw [hf] at h;cases h
 | some fn =>
  rw [hf] at h;simp only at h
  cases hb:fn.body with
  | none=>rw [hb] at h;cases h
  | some c =>
   rw [hb] at h;simp only at h
   cases hx:oK T rec c ⟨setArgs .leaf 0 args,hp,false⟩ with
   | none=>rw [hx] at h;cases h
   | some R=>rw [hx] at h;exact ⟨fn,c,R,rfl,hb,hx,h⟩
theorem B5 (hr:aS rec) {f:FuncId} {args:List Value} {hp:Hp} {L:List eF} (h:oL T rec f args hp=some L):Good hp eF.hp L:=by obtain ⟨fn,c,R,_,_,hx,h⟩:=pJ h;refine Good.bind h (ve hr _ _ _ hx) fun p Mx hq=>?_;obtain ⟨pv,hp',vs,_,hd,_,rfl⟩:=kL hq;exact .one (ta hd)
theorem B6 (hr:aS rec):aS (gQ T rec):=by
 intro j L h
 cases j with
 | call f args hp =>
  rcases m4 h with ⟨fn,c,R,_,_,hx,h⟩|h
  ·refine Good.bind h (gw hr _ _ _ hx) fun p Mx hq=>?_;obtain ⟨_,vs,_,rfl⟩:=mm hq;exact .one (.refl _)
  ·exact B5 hr h
 | round l args hp =>obtain ⟨pend,fr,ps,as,bd,R,_,_,hx,h⟩:=lK h;refine Good.bind h (gw hr _ _ _ hx) fun p Mx hq=>?_;obtain ⟨_,pend',fr',ps',as',bd',R2,hgt,hy,hz⟩:=iA hq;have hk:=gw hr _ _ _ hy;have hk':Good p.2.hp (fun q=>q.2.hp) R2:=⟨hk.1,fun r hr'=>(cO.put p.2.hp _ _ (by rw [hgt];simp) (fun _=>rfl)).trans (hk.2 r hr')⟩;refine Good.bind hz hk' fun q My hw=>?_;obtain ⟨_,_,_,_,_,_,hgt2,h1|h1|⟨_,h1⟩⟩:=j5 hw <;> (obtain ⟨_,rfl⟩:=h1;exact .one (cO.put q.2.hp _ _ (by rw [hgt2];simp) (fun _=>rfl)))
 | loop c st =>
  obtain ⟨R,hx,h⟩:=m5 h;refine Good.bind h (gw hr _ _ _ hx) fun p Mx hq=>?_
  rcases j6 hq with ⟨_,h1⟩|⟨_,rfl⟩
  ·exact hr _ _ h1
  ·exact .one (.refl _)
end
end Go.RM
