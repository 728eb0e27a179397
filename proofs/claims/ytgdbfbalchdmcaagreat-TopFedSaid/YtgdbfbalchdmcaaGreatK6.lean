/-
  Contracts of the program's functions and of the document's. Lemmas alone; their conditions stand in them.
-/
import Derived.Test.YtgdbfbalchdmcaaGreatA3
import Derived.Test.YtgdbfbalchdmcaaGreatK5
open Go Go.RM
namespace Go.Proofs.YtgdbfbalchdmcaaGreat
set_option maxRecDepth 100000
set_option maxHeartbeats 4000000
theorem K4 (one:Bool) (lo hi a b:Int):Pu one 75 [ak lo,ak hi,.sl [eI a,eI b] true] (BB (bH lo hi [a,b])):=E7 one lo hi [a,b] (by simp [maxLen])
theorem Ge (lo hi a b:Int):bH lo hi [a,b]=(!gY a lo hi || !gY b lo hi):=by
 have h1:=bp a lo hi
 have h2:=bp b lo hi
 rw [←h1,←h2]
 unfold bH
 simp
def kindOk (x:Ev):Bool:=!bH 1 5 [x.kind] && (decide (x.kind=5) && !decide (x.other=x.aR) || !decide (x.kind=5) && decide (x.other=0))
def K5 (c:aH) (x:Ev) (ls:List Acc):List Acc ⊕ Int :=
 if x.kind=1 then yH c x.aR.toNat ls else if x.kind=2 then iL x.aR.toNat 1 0 ls else if x.kind=3 then At x.aR.toNat ls else if x.kind=4 then iL x.aR.toNat 2 0 ls else Au x.aR.toNat x.other.toNat ls
def gF (c:aH) (day:Int) (ls:List Acc) (x:Ev):List Acc ⊕ Int :=
 if kindOk x=false then .inr 2
 else if bH 0 ((c.ah.length:Int) - 1) [x.aR,x.other]=true then .inr 4
 else if bH day 40000 [x.day]=true then .inr 7
 else K5 c x (jK c (x.day - day) ls)
theorem K6 (one:Bool) (n0:Nat) {c:aH} (hg:Good c) {day:Int} {ls:List Acc} (hi:Inv c day ls) {v n cc:Nat} (hn:ls.length=n) {xa xb:AB} (hxa:AB.gM 4 xa=true) (hxb:AB.gM 4 xb=true) {aA:bW} (x:Ev) :
  eT TT TB one (n0+13) (.fn 126 [] []) [.ptr 0 0 0,.ag (dZ x)] (fk c day v n cc :: iC ls v :: [xa,xb]) aA (Jg c x.day v n cc [xa,xb] aA (gF c day ls x)):=by
 have em:((c.ah.map cL).length:Int)=c.ah.length:=by simp
 have hnm:n=c.ah.length:=by rw [←hn];exact hi.len
 have hm5:=hg.ah
 have hdy:=hi.day
 have o1:=kD one 1 5 x.kind
 have o2:=K4 true 0 (((c.ah.map cL).length:Int) - 1) x.aR x.other
 rw [em] at o2
 have o3:=kD true day 40000 x.day
 obtain ⟨d,k,m,o⟩:=x
 dsimp only at o1 o2 o3
 unfold gF kindOk
 dsimp only
 show eT TT TB one (n0+13) (.fn 126 [] []) [.ptr 0 0 0,.ag [ak d,ak k,ak m,ak o]] _ _ _
 refine eT.body (fn:=Tryz.f126) rfl rfl ?_
 refine az.seq ?_
 refine az.ops cw (mu:=fun _=>false) ?_
 repeat' (first |refine u1 ?_ |refine u2 ?_ |fail)
 refine cg ?_
 refine az.seq ?_
 refine az.lS cw (A:=[_,_,_,_,_,_,_,_,_,_,_,_,_,_,_,_,_,_,_,_,_,_,_,_,_,_,_]) (mu:=fun _=>false) rfl ?_
 cases e1:bH 1 5 [k] with
 | true =>
  rw [e1] at o1
  rw [if_pos (by simp)]
  repeat' (first |refine u1 ?_ |((with_reducible show au _ _ _ _ _ _ _ _);refine af.call o1 rfl rfl ?_) |refine u2 ?_ |fail)
  refine ⟨_,hJ one (n0+11) false 2,?_,?_⟩
  rotate_left
  ·rintro r hp' amb' ⟨rfl,rfl,hz⟩
   obtain ⟨hb,hr⟩:=eV hz
   subst hr
   exact ⟨rfl,rfl,_,_,⟨ee _ _ _ _ _ _ (by decide),cY _ _ _⟩,rfl⟩
  rintro r hp' amb' ⟨rfl,rfl,hz⟩
  obtain ⟨hb,hr⟩:=eU hz
  first|cases hb|(rw [e0] at hb;cases hb)|(rw [e0n] at hb;cases hb)
 | false =>
  rw [e1] at o1
  have b1:=dI e1
  by_cases hk:k=5
  ·subst hk
   cases e0:decide (o=m) with
   | true =>
    have e0n:(!decide (o=m))=false:=by rw [e0];rfl
    rw [if_pos (by simp)]
    repeat' (first |refine u1 ?_ |((with_reducible show au _ _ _ _ _ _ _ _);refine af.call o1 rfl rfl ?_) |refine u2 ?_ |fail)
    refine ⟨_,hJ one (n0+11) _ 2,?_,?_⟩
    rotate_left
    ·rintro r hp' amb' ⟨rfl,rfl,hz⟩
     obtain ⟨hb,hr⟩:=eV hz
     subst hr
     exact ⟨rfl,rfl,_,_,⟨ee _ _ _ _ _ _ (by decide),cY _ _ _⟩,rfl⟩
    rintro r hp' amb' ⟨rfl,rfl,hz⟩
    obtain ⟨hb,hr⟩:=eU hz
    first|cases hb|(rw [e0] at hb;cases hb)|(rw [e0n] at hb;cases hb)
   | false =>
    have e0n:(!decide (o=m))=true:=by rw [e0];rfl
    rw [if_neg (by simp)]
    repeat' (first |refine u1 ?_ |((with_reducible show au _ _ _ _ _ _ _ _);refine af.call o1 rfl rfl ?_) |refine u2 ?_ |fail)
    refine ⟨_,hJ one (n0+11) _ 2,?_,?_⟩
    rotate_left
    ·rintro r hp' amb' ⟨rfl,rfl,hz⟩
     obtain ⟨hb,hr⟩:=eV hz
     first|cases hb|(rw [e0] at hb;cases hb)|(rw [e0n] at hb;cases hb)
    rintro r hp' amb' ⟨rfl,rfl,hz⟩
    obtain ⟨hb,hr⟩:=eU hz
    subst hr
    clear hz hb
    refine cg ?_
    refine az.seq ?_
    refine az.hH (A:=[_,_,_,_,_,_,_,_,_,_,_,_,_,_]) (c:=14) (mu:=fun _=>false) rfl rfl (by kernel_rfl) ?_
    cases e2:bH 0 ((c.ah.length:Int) - 1) [m,o] with
    | true =>
     rw [e2,←em] at o2
     rw [if_pos rfl]
     repeat' (first |refine u1 ?_ |(refine ⟨_,_,.inl ⟨rfl,rfl⟩,o2,?_⟩) |refine u2 ?_ |fail)
     refine ⟨_,hJ one (n0+11) false 4,?_,?_⟩
     rotate_left
     ·rintro r hp' amb' ⟨rfl,rfl,hz⟩
      obtain ⟨hb,hr⟩:=eV hz
      subst hr
      exact ⟨rfl,rfl,_,_,⟨ee _ _ _ _ _ _ (by decide),cY _ _ _⟩,rfl⟩
     rintro r hp' amb' ⟨rfl,rfl,hz⟩
     obtain ⟨hb,hr⟩:=eU hz
     first|cases hb|(rw [e0] at hb;cases hb)|(rw [e0n] at hb;cases hb)
    | false =>
     rw [e2,←em] at o2
     rw [if_neg (by simp)]
     have b2:(0≤m∧m≤(c.ah.length:Int) - 1)∧(0≤o∧o≤(c.ah.length:Int) - 1):=by
      rw [Ge,Bool.or_eq_false_iff,Bool.not_eq_false',Bool.not_eq_false'] at e2
      exact ⟨bQ.1 e2.1,bQ.1 e2.2⟩
     repeat' (first |refine u1 ?_ |(refine ⟨_,_,.inl ⟨rfl,rfl⟩,o2,?_⟩) |refine u2 ?_ |fail)
     refine ⟨_,hJ one (n0+11) true 4,?_,?_⟩
     rotate_left
     ·rintro r hp' amb' ⟨rfl,rfl,hz⟩
      obtain ⟨hb,hr⟩:=eV hz
      first|cases hb|(rw [e0] at hb;cases hb)|(rw [e0n] at hb;cases hb)
     rintro r hp' amb' ⟨rfl,rfl,hz⟩
     obtain ⟨hb,hr⟩:=eU hz
     subst hr
     clear hz hb
     refine cg ?_
     refine az.seq ?_
     refine az.hH (A:=[_,_,_,_,_,_,_,_,_]) (c:=9) (mu:=fun _=>false) rfl rfl (by kernel_rfl) ?_
     cases e3:bH day 40000 [d] with
     | true =>
      rw [e3] at o3
      rw [if_pos rfl]
      repeat' (first |refine u1 ?_ |(refine ⟨_,_,.inl ⟨rfl,rfl⟩,o3,?_⟩) |refine u2 ?_ |fail)
      refine ⟨_,hJ one (n0+11) false 7,?_,?_⟩
      rotate_left
      ·rintro r hp' amb' ⟨rfl,rfl,hz⟩
       obtain ⟨hb,hr⟩:=eV hz
       subst hr
       exact ⟨rfl,rfl,_,_,⟨ee _ _ _ _ _ _ (by decide),cY _ _ _⟩,rfl⟩
      rintro r hp' amb' ⟨rfl,rfl,hz⟩
      obtain ⟨hb,hr⟩:=eU hz
      first|cases hb|(rw [e0] at hb;cases hb)|(rw [e0n] at hb;cases hb)
     | false =>
      rw [e3] at o3
      rw [if_neg (by simp)]
      have b3:=dI e3
      repeat' (first |refine u1 ?_ |(refine ⟨_,_,.inl ⟨rfl,rfl⟩,o3,?_⟩) |refine u2 ?_ |fail)
      refine ⟨_,hJ one (n0+11) true 7,?_,?_⟩
      rotate_left
      ·rintro r hp' amb' ⟨rfl,rfl,hz⟩
       obtain ⟨hb,hr⟩:=eV hz
       first|cases hb|(rw [e0] at hb;cases hb)|(rw [e0n] at hb;cases hb)
      rintro r hp' amb' ⟨rfl,rfl,hz⟩
      obtain ⟨hb,hr⟩:=eU hz
      subst hr
      clear hz hb
      refine cg ?_
      refine az.seq ?_
      refine az.ops cw (mu:=fun _=>false) ?_
      repeat' (first |refine u1 ?_ |refine u2 ?_ |fail)
      refine (Gd one hg hi b3.1 b3.2 v n cc hn xa xb hxa hxb).mono ?_
      rintro a hp' amb' ⟨rfl,rfl,rfl⟩
      show az _ _ _ _ _ _ _
      have hl2:(jK c (d - day) ls).length=n:=by unfold jK;simpa using hn
      generalize jK c (d - day) ls=lt at *
      obtain ⟨i,rfl⟩:∃ i:Nat,m=(i:Int):=⟨m.toNat,by omega⟩
      obtain ⟨j,rfl⟩:∃ j:Nat,o=(j:Int):=⟨o.toNat,by omega⟩
      have hin:i < n:=by omega
      have hjn:j < n:=by omega
      unfold K5
      dsimp only
      rw [if_neg (by decide),if_neg (by decide),if_neg (by decide),if_neg (by decide)]
      rw [Int.toNat_natCast,Int.toNat_natCast]
      refine az.hH (A:=[_,_,_,_,_,_,_,_,_,_,_,_,_,_,_]) (c:=15) (mu:=fun _=>false) rfl rfl (by kernel_rfl) ?_
      repeat' (first |refine u1 ?_ |(refine ⟨⟨rfl,rfl⟩,?_⟩) |refine u2 ?_ |fail)
      refine ⟨_,K1 one (n0+9) hl2 d 5 i j hin hjn,?_,?_⟩
      ·intro a hp' amb' h
       obtain ⟨ls',h1,rfl,rfl,rfl⟩:=h.ret
       rw [h1]
       exact ⟨rfl,rfl,rfl⟩
      ·intro a hp' amb' h
       obtain ⟨e,b0,b1,hbb,h1,rfl,rfl,rfl⟩:=h.fG
       rw [h1]
       exact ⟨rfl,rfl,_,_,hbb,rfl⟩
  ·have dk:decide (k=5)=false:=decide_eq_false hk
   have dk2:(!decide (k=5))=true:=by rw [dk];rfl
   cases e0:decide (o=0) with
   | false =>
    have e0n:=e0
    rw [if_pos (by rw [dk];simp)]
    repeat' (first |refine u1 ?_ |((with_reducible show au _ _ _ _ _ _ _ _);refine af.call o1 rfl rfl ?_) |refine u2 ?_ |fail)
    refine ⟨_,hJ one (n0+11) _ 2,?_,?_⟩
    rotate_left
    ·rintro r hp' amb' ⟨rfl,rfl,hz⟩
     obtain ⟨hb,hr⟩:=eV hz
     subst hr
     exact ⟨rfl,rfl,_,_,⟨ee _ _ _ _ _ _ (by decide),cY _ _ _⟩,rfl⟩
    rintro r hp' amb' ⟨rfl,rfl,hz⟩
    obtain ⟨hb,hr⟩:=eU hz
    first|cases hb|(rw [e0] at hb;cases hb)|(rw [e0n] at hb;cases hb)
   | true =>
    have e0n:=e0
    rw [if_neg (by rw [dk];simp)]
    repeat' (first |refine u1 ?_ |((with_reducible show au _ _ _ _ _ _ _ _);refine af.call o1 rfl rfl ?_) |refine u2 ?_ |fail)
    refine ⟨_,hJ one (n0+11) _ 2,?_,?_⟩
    rotate_left
    ·rintro r hp' amb' ⟨rfl,rfl,hz⟩
     obtain ⟨hb,hr⟩:=eV hz
     first|cases hb|(rw [e0] at hb;cases hb)|(rw [e0n] at hb;cases hb)
    rintro r hp' amb' ⟨rfl,rfl,hz⟩
    obtain ⟨hb,hr⟩:=eU hz
    subst hr
    clear hz hb
    refine cg ?_
    refine az.seq ?_
    refine az.hH (A:=[_,_,_,_,_,_,_,_,_,_,_,_,_,_]) (c:=14) (mu:=fun _=>false) rfl rfl (by kernel_rfl) ?_
    cases e2:bH 0 ((c.ah.length:Int) - 1) [m,o] with
    | true =>
     rw [e2,←em] at o2
     rw [if_pos rfl]
     repeat' (first |refine u1 ?_ |(refine ⟨_,_,.inl ⟨rfl,rfl⟩,o2,?_⟩) |refine u2 ?_ |fail)
     refine ⟨_,hJ one (n0+11) false 4,?_,?_⟩
     rotate_left
     ·rintro r hp' amb' ⟨rfl,rfl,hz⟩
      obtain ⟨hb,hr⟩:=eV hz
      subst hr
      exact ⟨rfl,rfl,_,_,⟨ee _ _ _ _ _ _ (by decide),cY _ _ _⟩,rfl⟩
     rintro r hp' amb' ⟨rfl,rfl,hz⟩
     obtain ⟨hb,hr⟩:=eU hz
     first|cases hb|(rw [e0] at hb;cases hb)|(rw [e0n] at hb;cases hb)
    | false =>
     rw [e2,←em] at o2
     rw [if_neg (by simp)]
     have b2:(0≤m∧m≤(c.ah.length:Int) - 1)∧(0≤o∧o≤(c.ah.length:Int) - 1):=by
      rw [Ge,Bool.or_eq_false_iff,Bool.not_eq_false',Bool.not_eq_false'] at e2
      exact ⟨bQ.1 e2.1,bQ.1 e2.2⟩
     repeat' (first |refine u1 ?_ |(refine ⟨_,_,.inl ⟨rfl,rfl⟩,o2,?_⟩) |refine u2 ?_ |fail)
     refine ⟨_,hJ one (n0+11) true 4,?_,?_⟩
     rotate_left
     ·rintro r hp' amb' ⟨rfl,rfl,hz⟩
      obtain ⟨hb,hr⟩:=eV hz
      first|cases hb|(rw [e0] at hb;cases hb)|(rw [e0n] at hb;cases hb)
     rintro r hp' amb' ⟨rfl,rfl,hz⟩
     obtain ⟨hb,hr⟩:=eU hz
     subst hr
     clear hz hb
     refine cg ?_
     refine az.seq ?_
     refine az.hH (A:=[_,_,_,_,_,_,_,_,_]) (c:=9) (mu:=fun _=>false) rfl rfl (by kernel_rfl) ?_
     cases e3:bH day 40000 [d] with
     | true =>
      rw [e3] at o3
      rw [if_pos rfl]
      repeat' (first |refine u1 ?_ |(refine ⟨_,_,.inl ⟨rfl,rfl⟩,o3,?_⟩) |refine u2 ?_ |fail)
      refine ⟨_,hJ one (n0+11) false 7,?_,?_⟩
      rotate_left
      ·rintro r hp' amb' ⟨rfl,rfl,hz⟩
       obtain ⟨hb,hr⟩:=eV hz
       subst hr
       exact ⟨rfl,rfl,_,_,⟨ee _ _ _ _ _ _ (by decide),cY _ _ _⟩,rfl⟩
      rintro r hp' amb' ⟨rfl,rfl,hz⟩
      obtain ⟨hb,hr⟩:=eU hz
      first|cases hb|(rw [e0] at hb;cases hb)|(rw [e0n] at hb;cases hb)
     | false =>
      rw [e3] at o3
      rw [if_neg (by simp)]
      have b3:=dI e3
      repeat' (first |refine u1 ?_ |(refine ⟨_,_,.inl ⟨rfl,rfl⟩,o3,?_⟩) |refine u2 ?_ |fail)
      refine ⟨_,hJ one (n0+11) true 7,?_,?_⟩
      rotate_left
      ·rintro r hp' amb' ⟨rfl,rfl,hz⟩
       obtain ⟨hb,hr⟩:=eV hz
       first|cases hb|(rw [e0] at hb;cases hb)|(rw [e0n] at hb;cases hb)
      rintro r hp' amb' ⟨rfl,rfl,hz⟩
      obtain ⟨hb,hr⟩:=eU hz
      subst hr
      clear hz hb
      refine cg ?_
      refine az.seq ?_
      refine az.ops cw (mu:=fun _=>false) ?_
      repeat' (first |refine u1 ?_ |refine u2 ?_ |fail)
      refine (Gd one hg hi b3.1 b3.2 v n cc hn xa xb hxa hxb).mono ?_
      rintro a hp' amb' ⟨rfl,rfl,rfl⟩
      show az _ _ _ _ _ _ _
      have hl2:(jK c (d - day) ls).length=n:=by unfold jK;simpa using hn
      generalize jK c (d - day) ls=lt at *
      obtain ⟨i,rfl⟩:∃ i:Nat,m=(i:Int):=⟨m.toNat,by omega⟩
      obtain ⟨j,rfl⟩:∃ j:Nat,o=(j:Int):=⟨o.toNat,by omega⟩
      have hin:i < n:=by omega
      have hjn:j < n:=by omega
      unfold K5
      dsimp only
      have hk4:k=1∨k=2∨k=3∨k=4:=by omega
      rcases hk4 with rfl|rfl|rfl|rfl
      ·rw [if_pos rfl,Int.toNat_natCast]
       refine az.hH (A:=[_,_,_,_,_,_,_,_,_,_,_,_,_,_,_]) (c:=15) (mu:=fun _=>false) rfl rfl (by kernel_rfl) ?_
       repeat' (first |refine u1 ?_ |(refine ⟨⟨rfl,rfl⟩,?_⟩) |refine u2 ?_ |fail)
       refine ⟨_,K3 one n0 hl2 (by omega) hxa hxb d 1 j i hin,?_,?_⟩
       ·intro a hp' amb' h
        obtain ⟨ls',h1,rfl,rfl,rfl⟩:=h.ret
        rw [h1]
        exact ⟨rfl,rfl,rfl⟩
       ·intro a hp' amb' h
        obtain ⟨e,b0,b1,hbb,h1,rfl,rfl,rfl⟩:=h.fG
        rw [h1]
        exact ⟨rfl,rfl,_,_,hbb,rfl⟩
      ·rw [if_neg (by decide),if_pos rfl,Int.toNat_natCast]
       refine az.hH (A:=[_,_,_,_,_,_,_,_,_,_,_,_,_,_,_]) (c:=15) (mu:=fun _=>false) rfl rfl (by kernel_rfl) ?_
       repeat' (first |refine u1 ?_ |(refine ⟨⟨rfl,rfl⟩,?_⟩) |refine u2 ?_ |fail)
       refine ⟨_,KY one (n0+9) hl2 d 2 j i hin,?_,?_⟩
       ·intro a hp' amb' h
        obtain ⟨ls',h1,rfl,rfl,rfl⟩:=h.ret
        rw [h1]
        exact ⟨rfl,rfl,rfl⟩
       ·intro a hp' amb' h
        obtain ⟨e,b0,b1,hbb,h1,rfl,rfl,rfl⟩:=h.fG
        rw [h1]
        exact ⟨rfl,rfl,_,_,hbb,rfl⟩
      ·rw [if_neg (by decide),if_neg (by decide),if_pos rfl,Int.toNat_natCast]
       refine az.hH (A:=[_,_,_,_,_,_,_,_,_,_,_,_,_,_,_]) (c:=15) (mu:=fun _=>false) rfl rfl (by kernel_rfl) ?_
       repeat' (first |refine u1 ?_ |(refine ⟨⟨rfl,rfl⟩,?_⟩) |refine u2 ?_ |fail)
       refine ⟨_,K0 one (n0+9) hl2 d 3 j i hin,?_,?_⟩
       ·intro a hp' amb' h
        obtain ⟨ls',h1,rfl,rfl,rfl⟩:=h.ret
        rw [h1]
        exact ⟨rfl,rfl,rfl⟩
       ·intro a hp' amb' h
        obtain ⟨e,b0,b1,hbb,h1,rfl,rfl,rfl⟩:=h.fG
        rw [h1]
        exact ⟨rfl,rfl,_,_,hbb,rfl⟩
      ·rw [if_neg (by decide),if_neg (by decide),if_neg (by decide),if_pos rfl,Int.toNat_natCast]
       refine az.hH (A:=[_,_,_,_,_,_,_,_,_,_,_,_,_,_,_]) (c:=15) (mu:=fun _=>false) rfl rfl (by kernel_rfl) ?_
       repeat' (first |refine u1 ?_ |(refine ⟨⟨rfl,rfl⟩,?_⟩) |refine u2 ?_ |fail)
       refine ⟨_,KZ one (n0+9) hl2 d 4 j i hin,?_,?_⟩
       ·intro a hp' amb' h
        obtain ⟨ls',h1,rfl,rfl,rfl⟩:=h.ret
        rw [h1]
        exact ⟨rfl,rfl,rfl⟩
       ·intro a hp' amb' h
        obtain ⟨e,b0,b1,hbb,h1,rfl,rfl,rfl⟩:=h.fG
        rw [h1]
        exact ⟨rfl,rfl,_,_,hbb,rfl⟩
end Go.Proofs.YtgdbfbalchdmcaaGreat
open Go Go.RM
namespace Go.Proofs.YtgdbfbalchdmcaaGreat
set_option maxRecDepth 100000
theorem Jh {day:Int} {ls:List Acc} (h:∀ a ∈ ls,fM day a) {i:Nat} {a:Acc} {p:Int} (ha:ls[i]?=some a) (hp:p=0∨p=1∨p=2):∀ b ∈ ls.set i {a with place:=p},fM day b:=by
 intro b hb
 rcases List.mem_or_eq_of_mem_set hb with h1|rfl
 ·exact h b h1
 ·have:=h a (List.mem_of_getElem? ha)
  exact ⟨hp,this.i4,this.d0,this.d1,this.d2⟩
theorem qy {day:Int} {ls ls':List Acc} (h:∀ a ∈ ls,fM day a) {i:Nat} {p q:Int} (hq:q=0∨q=1∨q=2) (he:iL i p q ls=.inl ls'):∀ b ∈ ls',fM day b:=by
 unfold iL at he
 split at he
 ·rename_i a ha
  split at he
  ·cases he;exact Jh h ha hq
  ·cases he
 ·cases he
theorem ML {c:aH} {x:Ev} {day:Int} {ls ls':List Acc} (h:∀ a ∈ ls,fM day a) (he:K5 c x ls=.inl ls'):(∀ b ∈ ls',fM day b)∧ls'.length=ls.length:=by
 unfold K5 at he
 split at he
 ·unfold yH at he
  cases hm:iL x.aR.toNat 0 1 ls with
  | inr e=>rw [hm] at he;cases he
  | inl l2 =>
   rw [hm] at he
   simp only at he
   split at he
   ·split at he
    ·split at he
     ·cases he;exact ⟨qy h (.inr (.inl rfl)) hm,kg hm⟩
     ·cases he
    ·cases he
   ·cases he
 ·split at he
  ·exact ⟨qy h (.inl rfl) he,kg he⟩
  ·split at he
   ·unfold At at he
    split at he
    ·rename_i a ha
     split at he
     ·cases he
     ·cases he;exact ⟨Jh h ha (.inr (.inr rfl)),by simp⟩
    ·cases he
   ·split at he
    ·exact ⟨qy h (.inl rfl) he,kg he⟩
    ·unfold Au at he
     cases hm:iL x.aR.toNat 0 1 ls with
     | inr e=>rw [hm] at he;cases he
     | inl l2 =>
      rw [hm] at he
      simp only at he
      exact ⟨qy (qy h (.inr (.inl rfl)) hm) (.inl rfl) he,(kg he).trans (kg hm)⟩
theorem Av {c:aH} (hg:Good c) {day:Int} {ls ls':List Acc} (h:Inv c day ls) {x:Ev} (he:gF c day ls x=.inl ls'):Inv c x.day ls'∧day≤x.day:=by
 unfold gF at he
 split at he
 ·cases he
 ·split at he
  ·cases he
  ·split at he
   ·cases he
   ·rename_i h3
    have b3:=dI (Bool.not_eq_true _ ▸ h3)
    have ht:=Dy hg h b3.1 b3.2
    obtain ⟨q1,q2⟩:=ML ht.ok he
    exact ⟨⟨q2.trans ht.len,q1,ht.day⟩,b3.1⟩
def cz (c:aH) (D:Int):Nat→Int→List Acc→List Ev→(Nat × Int) ⊕ (Int × List Acc)
 | _,d,ls,[]=>.inr (d,ls)
 | i,d,ls,x :: l=>if x.day≤D then match gF c d ls x with
   | .inl ls'=>cz c D (i+1) x.day ls' l
   | .inr e=>.inl (i,e)
  else cz c D (i+1) d ls l
theorem DB (c:aH) (D:Int) (i:Nat) (d:Int) (ls:List Acc):cz c D i d ls []=.inr (d,ls):=rfl
theorem cD (c:aH) (D:Int) (i:Nat) (d:Int) (ls:List Acc) (x:Ev) (l:List Ev):cz c D i d ls (x :: l)=if x.day≤D then match gF c d ls x with
  | .inl ls'=>cz c D (i+1) x.day ls' l
  | .inr e=>.inl (i,e)
 else cz c D (i+1) d ls l:=rfl
theorem qz {c:aH} (hg:Good c) {D:Int}:∀ {l:List Ev} {i:Nat} {d:Int} {ls:List Acc} {d':Int} {ls':List Acc},Inv c d ls→cz c D i d ls l=.inr (d',ls')→Inv c d' ls'∧d≤d'
 | [],i,d,ls,d',ls',h,e=>by cases e;exact ⟨h,Int.le_refl _⟩
 | x :: l,i,d,ls,d',ls',h,e=>by
  rw [cD] at e
  split at e
  ·cases he:gF c d ls x with
   | inr q=>rw [he] at e;cases e
   | inl l2 =>
    rw [he] at e
    simp only at e
    obtain ⟨h1,h2⟩:=Av hg h he
    obtain ⟨h3,h4⟩:=qz hg h1 e
    exact ⟨h3,by omega⟩
  ·exact qz hg h e
end Go.Proofs.YtgdbfbalchdmcaaGreat
open Go Go.RM
namespace Go.Proofs.YtgdbfbalchdmcaaGreat
set_option maxRecDepth 100000
set_option maxHeartbeats 4000000
abbrev I0:AB:=.cells [ak 0] 0 0
theorem Ji {b0 b1:AB} {R:List AB} {aA:bW} {Q:List AB→bW→Prop} {z:AV} (h:Q (b0 :: b1 :: .cells [z] 0 0 :: R) aA):BU TT (.fn 125 [] [.ptr 2 0 0]) none (b0 :: b1 :: .cells [z] 0 0 :: R) aA Q:=by
 refine ⟨125,Tryz.f125,_,[],[.ptr 2 0 0],rfl,rfl,rfl,rfl,?_⟩
 refine jC.seq ?_
 refine jC.ops (mu:=fun _=>false) ?_
 refine ⟨rfl,?_⟩
 show jC _ _ _ _ _
 refine jC.seq ?_
 refine jC.ops (mu:=fun _=>false) ?_
 refine ⟨rfl,?_⟩
 show dc _=_∧_
 refine ⟨rfl,?_⟩
 refine ⟨.nilIface,.nilIface,rfl,rfl,.bool false,rfl,rfl,?_⟩
 show jC _ _ _ _ _
 refine jC.cond (t:=false) rfl (fun h=>Bool.noConfusion h) (fun _=>?_)
 exact jC.skip ⟨.inl rfl,rfl,h⟩
theorem K7 (e:Int) (x y:Operand):mJ TT.P .neq 20 x y (.iface 39 (.int .i64 e)) .nilIface=some (.bool true,.none):=by
 rfl
theorem MM (e:Int):cZ (aD TT.P (Instr.typeAssert (.iface 39 (.int .i64 e)) 20 39 false))=some (.int .i64 e,.none):=by
 rfl
theorem Jj {b0 b1:AB} {R:List AB} {aA:bW} {Q:List AB→bW→Prop} {z:AV} {e:Int} (h:Q (b0 :: b1 :: .cells [ak e] 0 0 :: R) aA):BU TT (.fn 125 [] [.ptr 2 0 0]) (some (ER e)) (b0 :: b1 :: .cells [z] 0 0 :: R) aA Q:=by
 refine ⟨125,Tryz.f125,_,[],[.ptr 2 0 0],rfl,rfl,rfl,rfl,?_⟩
 refine jC.seq ?_
 refine jC.ops (mu:=fun _=>false) ?_
 refine ⟨rfl,?_⟩
 show jC _ _ _ _ _
 refine jC.seq ?_
 refine jC.ops (mu:=fun _=>false) ?_
 refine ⟨rfl,?_⟩
 show dc _=_∧_
 refine ⟨rfl,?_⟩
 refine ⟨.iface 39 (.int .i64 e),.nilIface,rfl,rfl,.bool true,K7 e _ _,rfl,?_⟩
 show jC _ _ _ _ _
 refine jC.cond (t:=true) rfl (fun _=>?_) (fun h=>Bool.noConfusion h)
 refine jC.ops (mu:=fun _=>false) ?_
 refine ⟨rfl,?_⟩
 show dc _=_∧_
 refine ⟨rfl,?_⟩
 refine ⟨.iface 39 (.int .i64 e),rfl,.int .i64 e,MM e,rfl,?_⟩
 show dc _=_∧_
 refine ⟨rfl,?_⟩
 repeat' (first |refine u1 ?_ |refine u2 ?_ |fail)
 exact ⟨.inl rfl,rfl,h⟩
theorem Jk {rs:List ResultVar} {Q:AV→List AB→bW→Prop} {st:bz} {F:AV} (h:BU TT F none st.hp st.aA fun hp' amb'=>jk TT ⟨st.fr,hp',amb',st.rd,st.fl⟩ rs fun vs=>Q (mL vs) hp' amb'):KW TT rs Q (.e .ret) st F:=h
theorem Jl {rs:List ResultVar} {Q:AV→List AB→bW→Prop} {st:bz} {F a:AV} (h:BU TT F (some a) st.hp st.aA fun hp' amb'=>jk TT ⟨st.fr,hp',amb',st.rd,st.fl⟩ rs fun vs=>Q (mL vs) hp' amb'):KW TT rs Q (.fG a) st F:=h
def Pd (c:aH) (v n cc:Nat) (aA:bW) (r:(Nat × Int) ⊕ (Int × List Acc)) (a:AV) (hp':List AB) (amb':bW):Prop :=
 amb'=aA∧match r with
  | .inl p=>a=.tp [ak (p.1:Int),ak p.2]∧∃ b0 b1,(AB.gM 2 b0=true∧AB.gM 2 b1=true)∧∃ R,hp'=b0 :: b1 :: R
  | .inr q=>a=.tp [ak 0,ak 0]∧∃ R,hp'=fk c q.1 v n cc :: iC q.2 v :: R
def OX (c:aH) (v n cc:Nat) (aA:bW) (r:(Nat × Int) ⊕ (Int × List Acc)) (a:AV) (hp':List AB) (amb':bW):Prop :=
 amb'=aA∧match r with
  | .inl p=>a=.tp [ak (p.1:Int),ak p.2]∧∃ b0 b1,(AB.gM 2 b0=true∧AB.gM 2 b1=true)∧hp'=[b0,b1]
  | .inr q=>a=.tp [ak 0,ak 0]∧hp'=[fk c q.1 v n cc,iC q.2 v]
theorem MN (c:aH) (d:Int) (v n cc:Nat) (ls:List Acc):([fk c d v n cc,iC ls v,I0]:List AB).all (AB.gM 3)=true:=by
 simp only [List.all_cons,List.all_nil,Bool.and_true,Bool.and_eq_true]
 exact ⟨ee _ _ _ _ _ _ (by decide),cY _ _ _,rfl⟩
theorem Hq (one:Bool) {c:aH} (hg:Good c) {d:Int} {ls:List Acc} (hi:Inv c d ls) {v n cc:Nat} (hn:ls.length=n) (l:List Ev) (f:Bool) (hl:l.length≤20) (D:Int) {aA:bW} :
  au TT TB one (.fn 73 [] []) [.ptr 0 0 0,.sl (l.map dZ) f,ak D] [fk c d v n cc,iC ls v] aA (Pd c v n cc aA (cz c D 0 d ls l)):=by
 have el:((l.map dZ).length:Int)=l.length:=by simp
 obtain ⟨ln,hln⟩:∃ ln:Int,ln=l.length:=⟨_,rfl⟩
 refine au.Nz (fn:=Tryz.f73) rfl rfl rfl rfl ?_
 refine Dz.OW (by rfl) ?_
 refine aa (mu:=fun _=>false) ?_
 repeat' (first |refine u1 ?_ |refine u2 ?_ |fail)
 refine Dz.defer (mu:=fun _=>false) (by rfl) ?_
 repeat' (first |refine u1 ?_ |refine u2 ?_ |fail)
 refine az.seq ?_
 refine az.seq ?_
 refine az.ops cw (mu:=fun _=>false) ?_
 repeat' (first |refine u1 ?_ |refine u2 ?_ |fail)
 refine cg ?_
 refine az.aU (aj.to (l:=[(0,.ptr 0 0 0),(2,ak D),(7,.ptr 2 0 0),(11,.sl (l.map dZ) f),(12,ak ln),(13,ak (0:Nat))]) (hp:=[fk c d v n cc,iC ls v,I0]) 3 rfl ⟨rfl,rfl,rfl,rfl,aJ (by rw [hln];exact el),rfl,trivial⟩ (Nat.le_refl _) rfl (MN _ _ _ _ _ _)) ?_
 refine az.block ?_
 refine az.fuel (n:=20+l.length+1) (by omega) ?_
 refine az.loop (n:=20) (fun x:Nat × Int × List Acc=>x.1≤l.length∧Inv c x.2.1 x.2.2∧cz c D 0 d ls l=cz c D x.1 x.2.1 x.2.2 (l.drop x.1)) (fun x=>⟨bT [(0,.ptr 0 0 0),(2,ak D),(7,.ptr 2 0 0),(11,.sl (l.map dZ) f),(12,ak ln),(13,ak (x.1:Nat))],[fk c x.2.1 v n cc,iC x.2.2 v,I0],aA,false,3⟩) (fun x=>l.length - x.1) ?_ (0,d,ls) ⟨Nat.zero_le _,hi,by rw [List.drop_zero]⟩
 rintro ⟨k,dk,lk⟩ ⟨hk,hik,hrk⟩
 dsimp only at hk hik hrk
 dsimp only
 have hnk:lk.length=n:=hik.len.trans (hi.len.symm.trans hn)
 refine az.seq ?_
 by_cases hlt:k < l.length
 ·have d1:decide ((k:Int) < ln)=true:=decide_eq_true (by omega)
  have hat:(l.map dZ)[((k:Nat):Int).toNat]?=some (dZ l[k]):=bP hlt
  rw [List.drop_eq_getElem_cons hlt,cD] at hrk
  have hev:=K6 one 6 hg hik (v:=v) (cc:=cc) hnk (xa:=I0) (xb:=.cells (dZ l[k]) 0 0) rfl rfl (aA:=aA) l[k]
  generalize l[k]=x at *
  obtain ⟨xd,xk,xm,xo⟩:=x
  dsimp only at hrk hev
  refine az.ops cw (mu:=fun _=>false) ?_
  repeat' (first |refine u1 ?_ |refine u2 ?_ |fail)
  refine cg ?_
  refine az.seq ?_
  refine az.flat cw (by kernel_rfl) ?_
  refine aa (mu:=fun _=>false) ?_
  repeat' (first |refine u1 ?_ |refine u2 ?_ |fail)
  refine az.seq ?_
  refine az.block ?_
  cases hd:decide (xd≤D) with
  | true =>
   rw [if_pos (of_decide_eq_true hd)] at hrk
   refine az.seq ?_
   refine az.ops cw (mu:=fun _=>false) ?_
   repeat' (first |refine u1 ?_ |(refine ⟨[ak xd,ak xk,ak xm,ak xo],⟨by omega,hat⟩,rfl,?_⟩) |refine u2 ?_ |fail)
   refine cg ?_
   refine az.seq ?_
   refine az.ops cw (mu:=fun _=>false) ?_
   repeat' (first |refine u1 ?_ |refine u2 ?_ |fail)
   refine cg ?_
   refine az.seq ?_
   refine az.ops cw (mu:=fun _=>false) ?_
   repeat' (first |refine u1 ?_ |refine u2 ?_ |fail)
   refine cg ?_
   refine az.cond (t:=true) (by rw [←hd];rfl) (fun _=>?_) (fun h=>Bool.noConfusion h)
   refine az.lS cw (A:=[_,_]) (mu:=fun _=>false) rfl ?_
   repeat' (first |refine u1 ?_ |refine u2 ?_ |fail)
   refine ⟨_,hev.fuel (by decide),?_,?_⟩
   ·intro a hp' amb' h
    obtain ⟨ls',h1,rfl,rfl,rfl⟩:=h.ret
    rw [h1] at hrk
    simp only at hrk
    have hi2:=(Av hg hik h1).1
    show az _ _ _ _ _ _ _
    refine az.ops cw (mu:=fun _=>false) ?_
    repeat' (first |refine u1 ?_ |refine u2 ?_ |fail)
    exact ⟨(k+1,xd,ls'),⟨hlt,hi2,hrk⟩,(by dsimp only;omega),aj.to 3 rfl ⟨rfl,rfl,rfl,rfl,rfl,aJ (by simp),trivial⟩ (Nat.le_refl _) rfl (MN _ _ _ _ _ _)⟩
   ·intro a hp' amb' h
    obtain ⟨e,b0,b1,hbb,h1,rfl,rfl,rfl⟩:=h.fG
    rw [h1] at hrk
    simp only at hrk
    rw [hrk]
    show KW TT Tryz.f73.results.toList (Pd c v n cc _ (.inl (k,e))) (.fG (ER e)) _ (.fn 125 [] [.ptr 2 0 0])
    refine Jl ?_
    refine Jj ?_
    exact ⟨_,_,rfl,_,rfl,rfl,rfl,_,_,hbb,_,rfl⟩
  | false =>
   rw [if_neg (of_decide_eq_false hd)] at hrk
   refine az.seq ?_
   refine az.ops cw (mu:=fun _=>false) ?_
   repeat' (first |refine u1 ?_ |(refine ⟨[ak xd,ak xk,ak xm,ak xo],⟨by omega,hat⟩,rfl,?_⟩) |refine u2 ?_ |fail)
   refine cg ?_
   refine az.seq ?_
   refine az.ops cw (mu:=fun _=>false) ?_
   repeat' (first |refine u1 ?_ |refine u2 ?_ |fail)
   refine cg ?_
   refine az.seq ?_
   refine az.ops cw (mu:=fun _=>false) ?_
   repeat' (first |refine u1 ?_ |refine u2 ?_ |fail)
   refine cg ?_
   refine az.cond (t:=false) (by rw [←hd];rfl) (fun h=>Bool.noConfusion h) (fun _=>?_)
   refine az.here (fun _ _ _=>rfl) ?_
   show az _ _ _ _ _ _ _
   refine az.ops cw (mu:=fun _=>false) ?_
   repeat' (first |refine u1 ?_ |refine u2 ?_ |fail)
   exact ⟨(k+1,dk,lk),⟨hlt,hik,hrk⟩,(by dsimp only;omega),aj.to 3 rfl ⟨rfl,rfl,rfl,rfl,rfl,aJ (by simp),trivial⟩ (Nat.le_refl _) rfl (MN _ _ _ _ _ _)⟩
 ·have d1:decide ((k:Int) < ln)=false:=decide_eq_false (by omega)
  rw [List.drop_eq_nil_of_le (by omega),DB] at hrk
  rw [hrk]
  refine az.ops cw (mu:=fun _=>false) ?_
  repeat' (first |refine u1 ?_ |refine u2 ?_ |fail)
  refine cg ?_
  refine az.seq ?_
  refine az.flat cw (by kernel_rfl) ?_
  refine aa (mu:=fun _=>false) ?_
  repeat' (first |refine u1 ?_ |refine u2 ?_ |fail)
  show az _ _ _ _ _ _ _
  refine az.seq ?_
  refine az.ops cw (mu:=fun _=>false) ?_
  repeat' (first |refine u1 ?_ |refine u2 ?_ |fail)
  refine cg ?_
  refine az.here (fun _ _ _=>rfl) ?_
  refine Jk ?_
  refine Ji ?_
  exact ⟨_,_,rfl,_,rfl,rfl,rfl,_,rfl⟩
theorem DC (one:Bool) {c:aH} (hg:Good c) {d:Int} {ls:List Acc} (hi:Inv c d ls) {v n cc:Nat} (hn:ls.length=n) (l:List Ev) (f:Bool) (hl:l.length≤20) (D:Int) {aA:bW} :
  au TT TB one (.fn 73 [] []) [.ptr 0 0 0,.sl (l.map dZ) f,ak D] [fk c d v n cc,iC ls v] aA (OX c v n cc aA (cz c D 0 d ls l)):=by
 refine ((Hq one hg hi hn l f hl D (v:=v) (cc:=cc) (aA:=aA)).cut ?_).mono ?_
 ·intro a hp' amb' h
  obtain ⟨rfl,h⟩:=h
  cases hr:cz c D 0 d ls l with
  | inl p =>
   rw [hr] at h
   obtain ⟨rfl,b0,b1,hbb,R,rfl⟩:=h
   refine ⟨rfl,?_⟩
   show (AB.gM 2 b0 && (AB.gM 2 b1 && true))=true
   rw [hbb.1,hbb.2]
   rfl
  | inr q =>
   rw [hr] at h
   obtain ⟨rfl,R,rfl⟩:=h
   refine ⟨rfl,?_⟩
   show (AB.gM 2 (fk c q.1 v n cc) && (AB.gM 2 (iC q.2 v) && true))=true
   rw [ee _ _ _ _ _ _ (by decide),cY]
   rfl
 ·rintro a hp2 amb' ⟨hp',rfl,rfl,h⟩
  refine ⟨rfl,?_⟩
  cases hr:cz c D 0 d ls l with
  | inl p =>
   rw [hr] at h
   obtain ⟨rfl,b0,b1,hbb,R,rfl⟩:=h
   exact ⟨rfl,b0,b1,hbb,rfl⟩
  | inr q =>
   rw [hr] at h
   obtain ⟨rfl,R,rfl⟩:=h
   exact ⟨rfl,rfl⟩
end Go.Proofs.YtgdbfbalchdmcaaGreat
