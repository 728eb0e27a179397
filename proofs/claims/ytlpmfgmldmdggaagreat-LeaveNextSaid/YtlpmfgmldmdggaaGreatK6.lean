/-
  Contracts of the program's functions and of the document's. Lemmas alone; their conditions stand in them.
-/
import Derived.Test.YtlpmfgmldmdggaaGreatA4
import Derived.Test.YtlpmfgmldmdggaaGreatK5
open Go Go.RM
namespace Go.Proofs.YtlpmfgmldmdggaaGreat
set_option maxRecDepth 100000
set_option maxHeartbeats 4000000
theorem GX (one:Bool) (lo hi a b:Int):Pu one 51 [aj lo,aj hi,.sl [eI a,eI b] true] (BB (dR lo hi [a,b])):=Cj one lo hi [a,b] (by simp [maxLen])
theorem Bd (lo hi a b:Int):dR lo hi [a,b]=(!kS a lo hi || !kS b lo hi):=by
 have h1:=bp a lo hi
 have h2:=bp b lo hi
 rw [←h1,←h2]
 unfold dR
 simp
def kindOk (x:Ev):Bool:=!dR 1 5 [x.kind] && (decide (x.kind=5) && !decide (x.other=x.qp) || !decide (x.kind=5) && decide (x.other=0))
def GY (c:ay) (x:Ev) (ls:List Acc):List Acc ⊕ Int :=
 if x.kind=1 then wj c x.qp.toNat ls else if x.kind=2 then gv x.qp.toNat 1 0 ls else if x.kind=3 then ya x.qp.toNat ls else if x.kind=4 then gv x.qp.toNat 2 0 ls else yb x.qp.toNat x.other.toNat ls
def fj (c:ay) (day:Int) (ls:List Acc) (x:Ev):List Acc ⊕ Int :=
 if kindOk x=false then .inr 2
 else if dR 0 ((c.aO.length:Int) - 1) [x.qp,x.other]=true then .inr 4
 else if dR day 40000 [x.day]=true then .inr 7
 else GY c x (iI c (x.day - day) ls)
theorem GZ (one:Bool) (n0:Nat) {c:ay} (hg:Good c) {day:Int} {ls:List Acc} (hi:Inv c day ls) {v n cc:Nat} (hn:ls.length=n) {xa xb:AB} (hxa:AB.iE 4 xa=true) (hxb:AB.iE 4 xb=true) {au:bF} (x:Ev) :
  cX TT TB one (n0+13) (.fn 105 [] []) [.ptr 0 0 0,.ag (cO x)] (ee c day v n cc :: gh ls v :: [xa,xb]) au (Fy c x.day v n cc [xa,xb] au (fj c day ls x)):=by
 have em:((c.aO.map bG).length:Int)=c.aO.length:=by simp
 have hnm:n=c.aO.length:=by rw [←hn];exact hi.len
 have hm5:=hg.aO
 have hdy:=hi.day
 have o1:=jn one 1 5 x.kind
 have o2:=GX true 0 (((c.aO.map bG).length:Int) - 1) x.qp x.other
 rw [em] at o2
 have o3:=jn true day 40000 x.day
 obtain ⟨d,k,m,o⟩:=x
 dsimp only at o1 o2 o3
 unfold fj kindOk
 dsimp only
 show cX TT TB one (n0+13) (.fn 105 [] []) [.ptr 0 0 0,.ag [aj d,aj k,aj m,aj o]] _ _ _
 refine cX.body (fn:=Tryz.f105) rfl rfl ?_
 refine ak.seq ?_
 refine ak.ops bA (mu:=fun _=>false) ?_
 repeat' (first |refine u1 ?_ |refine u2 ?_ |fail)
 refine bq ?_
 refine ak.seq ?_
 refine ak.j9 bA (A:=[_,_,_,_,_,_,_,_,_,_,_,_,_,_,_,_,_,_,_,_,_,_,_,_,_,_,_]) (mu:=fun _=>false) rfl ?_
 cases e1:dR 1 5 [k] with
 | true =>
  rw [e1] at o1
  rw [if_pos (by simp)]
  repeat' (first |refine u1 ?_ |((with_reducible show ah _ _ _ _ _ _ _ _);refine af.call o1 rfl rfl ?_) |refine u2 ?_ |fail)
  refine ⟨_,fP one (n0+11) false 2,?_,?_⟩
  rotate_left
  ·rintro r hp' amb' ⟨rfl,rfl,hz⟩
   obtain ⟨hb,hr⟩:=dQ hz
   subst hr
   exact ⟨rfl,rfl,_,_,⟨di _ _ _ _ _ _ (by decide),ck _ _ _⟩,rfl⟩
  rintro r hp' amb' ⟨rfl,rfl,hz⟩
  obtain ⟨hb,hr⟩:=dP hz
  first|cases hb|(rw [e0] at hb;cases hb)|(rw [e0n] at hb;cases hb)
 | false =>
  rw [e1] at o1
  have b1:=cI e1
  by_cases hk:k=5
  ·subst hk
   cases e0:decide (o=m) with
   | true =>
    have e0n:(!decide (o=m))=false:=by rw [e0];rfl
    rw [if_pos (by simp)]
    repeat' (first |refine u1 ?_ |((with_reducible show ah _ _ _ _ _ _ _ _);refine af.call o1 rfl rfl ?_) |refine u2 ?_ |fail)
    refine ⟨_,fP one (n0+11) _ 2,?_,?_⟩
    rotate_left
    ·rintro r hp' amb' ⟨rfl,rfl,hz⟩
     obtain ⟨hb,hr⟩:=dQ hz
     subst hr
     exact ⟨rfl,rfl,_,_,⟨di _ _ _ _ _ _ (by decide),ck _ _ _⟩,rfl⟩
    rintro r hp' amb' ⟨rfl,rfl,hz⟩
    obtain ⟨hb,hr⟩:=dP hz
    first|cases hb|(rw [e0] at hb;cases hb)|(rw [e0n] at hb;cases hb)
   | false =>
    have e0n:(!decide (o=m))=true:=by rw [e0];rfl
    rw [if_neg (by simp)]
    repeat' (first |refine u1 ?_ |((with_reducible show ah _ _ _ _ _ _ _ _);refine af.call o1 rfl rfl ?_) |refine u2 ?_ |fail)
    refine ⟨_,fP one (n0+11) _ 2,?_,?_⟩
    rotate_left
    ·rintro r hp' amb' ⟨rfl,rfl,hz⟩
     obtain ⟨hb,hr⟩:=dQ hz
     first|cases hb|(rw [e0] at hb;cases hb)|(rw [e0n] at hb;cases hb)
    rintro r hp' amb' ⟨rfl,rfl,hz⟩
    obtain ⟨hb,hr⟩:=dP hz
    subst hr
    clear hz hb
    refine bq ?_
    refine ak.seq ?_
    refine ak.fO (A:=[_,_,_,_,_,_,_,_,_,_,_,_,_,_]) (c:=14) (mu:=fun _=>false) rfl rfl (by kernel_rfl) ?_
    cases e2:dR 0 ((c.aO.length:Int) - 1) [m,o] with
    | true =>
     rw [e2,←em] at o2
     rw [if_pos rfl]
     repeat' (first |refine u1 ?_ |(refine ⟨_,_,.inl ⟨rfl,rfl⟩,o2,?_⟩) |refine u2 ?_ |fail)
     refine ⟨_,fP one (n0+11) false 4,?_,?_⟩
     rotate_left
     ·rintro r hp' amb' ⟨rfl,rfl,hz⟩
      obtain ⟨hb,hr⟩:=dQ hz
      subst hr
      exact ⟨rfl,rfl,_,_,⟨di _ _ _ _ _ _ (by decide),ck _ _ _⟩,rfl⟩
     rintro r hp' amb' ⟨rfl,rfl,hz⟩
     obtain ⟨hb,hr⟩:=dP hz
     first|cases hb|(rw [e0] at hb;cases hb)|(rw [e0n] at hb;cases hb)
    | false =>
     rw [e2,←em] at o2
     rw [if_neg (by simp)]
     have b2:(0≤m∧m≤(c.aO.length:Int) - 1)∧(0≤o∧o≤(c.aO.length:Int) - 1):=by
      rw [Bd,Bool.or_eq_false_iff,Bool.not_eq_false',Bool.not_eq_false'] at e2
      exact ⟨bL.1 e2.1,bL.1 e2.2⟩
     repeat' (first |refine u1 ?_ |(refine ⟨_,_,.inl ⟨rfl,rfl⟩,o2,?_⟩) |refine u2 ?_ |fail)
     refine ⟨_,fP one (n0+11) true 4,?_,?_⟩
     rotate_left
     ·rintro r hp' amb' ⟨rfl,rfl,hz⟩
      obtain ⟨hb,hr⟩:=dQ hz
      first|cases hb|(rw [e0] at hb;cases hb)|(rw [e0n] at hb;cases hb)
     rintro r hp' amb' ⟨rfl,rfl,hz⟩
     obtain ⟨hb,hr⟩:=dP hz
     subst hr
     clear hz hb
     refine bq ?_
     refine ak.seq ?_
     refine ak.fO (A:=[_,_,_,_,_,_,_,_,_]) (c:=9) (mu:=fun _=>false) rfl rfl (by kernel_rfl) ?_
     cases e3:dR day 40000 [d] with
     | true =>
      rw [e3] at o3
      rw [if_pos rfl]
      repeat' (first |refine u1 ?_ |(refine ⟨_,_,.inl ⟨rfl,rfl⟩,o3,?_⟩) |refine u2 ?_ |fail)
      refine ⟨_,fP one (n0+11) false 7,?_,?_⟩
      rotate_left
      ·rintro r hp' amb' ⟨rfl,rfl,hz⟩
       obtain ⟨hb,hr⟩:=dQ hz
       subst hr
       exact ⟨rfl,rfl,_,_,⟨di _ _ _ _ _ _ (by decide),ck _ _ _⟩,rfl⟩
      rintro r hp' amb' ⟨rfl,rfl,hz⟩
      obtain ⟨hb,hr⟩:=dP hz
      first|cases hb|(rw [e0] at hb;cases hb)|(rw [e0n] at hb;cases hb)
     | false =>
      rw [e3] at o3
      rw [if_neg (by simp)]
      have b3:=cI e3
      repeat' (first |refine u1 ?_ |(refine ⟨_,_,.inl ⟨rfl,rfl⟩,o3,?_⟩) |refine u2 ?_ |fail)
      refine ⟨_,fP one (n0+11) true 7,?_,?_⟩
      rotate_left
      ·rintro r hp' amb' ⟨rfl,rfl,hz⟩
       obtain ⟨hb,hr⟩:=dQ hz
       first|cases hb|(rw [e0] at hb;cases hb)|(rw [e0n] at hb;cases hb)
      rintro r hp' amb' ⟨rfl,rfl,hz⟩
      obtain ⟨hb,hr⟩:=dP hz
      subst hr
      clear hz hb
      refine bq ?_
      refine ak.seq ?_
      refine ak.ops bA (mu:=fun _=>false) ?_
      repeat' (first |refine u1 ?_ |refine u2 ?_ |fail)
      refine (C6 one hg hi b3.1 b3.2 v n cc hn xa xb hxa hxb).mono ?_
      rintro a hp' amb' ⟨rfl,rfl,rfl⟩
      show ak _ _ _ _ _ _ _
      have hl2:(iI c (d - day) ls).length=n:=by unfold iI;simpa using hn
      generalize iI c (d - day) ls=lt at *
      obtain ⟨i,rfl⟩:∃ i:Nat,m=(i:Int):=⟨m.toNat,by omega⟩
      obtain ⟨j,rfl⟩:∃ j:Nat,o=(j:Int):=⟨o.toNat,by omega⟩
      have hin:i < n:=by omega
      have hjn:j < n:=by omega
      unfold GY
      dsimp only
      rw [if_neg (by decide),if_neg (by decide),if_neg (by decide),if_neg (by decide)]
      rw [Int.toNat_natCast,Int.toNat_natCast]
      refine ak.fO (A:=[_,_,_,_,_,_,_,_,_,_,_,_,_,_,_]) (c:=15) (mu:=fun _=>false) rfl rfl (by kernel_rfl) ?_
      repeat' (first |refine u1 ?_ |(refine ⟨⟨rfl,rfl⟩,?_⟩) |refine u2 ?_ |fail)
      refine ⟨_,GU one (n0+9) hl2 d 5 i j hin hjn,?_,?_⟩
      ·intro a hp' amb' h
       obtain ⟨ls',h1,rfl,rfl,rfl⟩:=h.ret
       rw [h1]
       exact ⟨rfl,rfl,rfl⟩
      ·intro a hp' amb' h
       obtain ⟨e,b0,b1,hbb,h1,rfl,rfl,rfl⟩:=h.eD
       rw [h1]
       exact ⟨rfl,rfl,_,_,hbb,rfl⟩
  ·have dk:decide (k=5)=false:=decide_eq_false hk
   have dk2:(!decide (k=5))=true:=by rw [dk];rfl
   cases e0:decide (o=0) with
   | false =>
    have e0n:=e0
    rw [if_pos (by rw [dk];simp)]
    repeat' (first |refine u1 ?_ |((with_reducible show ah _ _ _ _ _ _ _ _);refine af.call o1 rfl rfl ?_) |refine u2 ?_ |fail)
    refine ⟨_,fP one (n0+11) _ 2,?_,?_⟩
    rotate_left
    ·rintro r hp' amb' ⟨rfl,rfl,hz⟩
     obtain ⟨hb,hr⟩:=dQ hz
     subst hr
     exact ⟨rfl,rfl,_,_,⟨di _ _ _ _ _ _ (by decide),ck _ _ _⟩,rfl⟩
    rintro r hp' amb' ⟨rfl,rfl,hz⟩
    obtain ⟨hb,hr⟩:=dP hz
    first|cases hb|(rw [e0] at hb;cases hb)|(rw [e0n] at hb;cases hb)
   | true =>
    have e0n:=e0
    rw [if_neg (by rw [dk];simp)]
    repeat' (first |refine u1 ?_ |((with_reducible show ah _ _ _ _ _ _ _ _);refine af.call o1 rfl rfl ?_) |refine u2 ?_ |fail)
    refine ⟨_,fP one (n0+11) _ 2,?_,?_⟩
    rotate_left
    ·rintro r hp' amb' ⟨rfl,rfl,hz⟩
     obtain ⟨hb,hr⟩:=dQ hz
     first|cases hb|(rw [e0] at hb;cases hb)|(rw [e0n] at hb;cases hb)
    rintro r hp' amb' ⟨rfl,rfl,hz⟩
    obtain ⟨hb,hr⟩:=dP hz
    subst hr
    clear hz hb
    refine bq ?_
    refine ak.seq ?_
    refine ak.fO (A:=[_,_,_,_,_,_,_,_,_,_,_,_,_,_]) (c:=14) (mu:=fun _=>false) rfl rfl (by kernel_rfl) ?_
    cases e2:dR 0 ((c.aO.length:Int) - 1) [m,o] with
    | true =>
     rw [e2,←em] at o2
     rw [if_pos rfl]
     repeat' (first |refine u1 ?_ |(refine ⟨_,_,.inl ⟨rfl,rfl⟩,o2,?_⟩) |refine u2 ?_ |fail)
     refine ⟨_,fP one (n0+11) false 4,?_,?_⟩
     rotate_left
     ·rintro r hp' amb' ⟨rfl,rfl,hz⟩
      obtain ⟨hb,hr⟩:=dQ hz
      subst hr
      exact ⟨rfl,rfl,_,_,⟨di _ _ _ _ _ _ (by decide),ck _ _ _⟩,rfl⟩
     rintro r hp' amb' ⟨rfl,rfl,hz⟩
     obtain ⟨hb,hr⟩:=dP hz
     first|cases hb|(rw [e0] at hb;cases hb)|(rw [e0n] at hb;cases hb)
    | false =>
     rw [e2,←em] at o2
     rw [if_neg (by simp)]
     have b2:(0≤m∧m≤(c.aO.length:Int) - 1)∧(0≤o∧o≤(c.aO.length:Int) - 1):=by
      rw [Bd,Bool.or_eq_false_iff,Bool.not_eq_false',Bool.not_eq_false'] at e2
      exact ⟨bL.1 e2.1,bL.1 e2.2⟩
     repeat' (first |refine u1 ?_ |(refine ⟨_,_,.inl ⟨rfl,rfl⟩,o2,?_⟩) |refine u2 ?_ |fail)
     refine ⟨_,fP one (n0+11) true 4,?_,?_⟩
     rotate_left
     ·rintro r hp' amb' ⟨rfl,rfl,hz⟩
      obtain ⟨hb,hr⟩:=dQ hz
      first|cases hb|(rw [e0] at hb;cases hb)|(rw [e0n] at hb;cases hb)
     rintro r hp' amb' ⟨rfl,rfl,hz⟩
     obtain ⟨hb,hr⟩:=dP hz
     subst hr
     clear hz hb
     refine bq ?_
     refine ak.seq ?_
     refine ak.fO (A:=[_,_,_,_,_,_,_,_,_]) (c:=9) (mu:=fun _=>false) rfl rfl (by kernel_rfl) ?_
     cases e3:dR day 40000 [d] with
     | true =>
      rw [e3] at o3
      rw [if_pos rfl]
      repeat' (first |refine u1 ?_ |(refine ⟨_,_,.inl ⟨rfl,rfl⟩,o3,?_⟩) |refine u2 ?_ |fail)
      refine ⟨_,fP one (n0+11) false 7,?_,?_⟩
      rotate_left
      ·rintro r hp' amb' ⟨rfl,rfl,hz⟩
       obtain ⟨hb,hr⟩:=dQ hz
       subst hr
       exact ⟨rfl,rfl,_,_,⟨di _ _ _ _ _ _ (by decide),ck _ _ _⟩,rfl⟩
      rintro r hp' amb' ⟨rfl,rfl,hz⟩
      obtain ⟨hb,hr⟩:=dP hz
      first|cases hb|(rw [e0] at hb;cases hb)|(rw [e0n] at hb;cases hb)
     | false =>
      rw [e3] at o3
      rw [if_neg (by simp)]
      have b3:=cI e3
      repeat' (first |refine u1 ?_ |(refine ⟨_,_,.inl ⟨rfl,rfl⟩,o3,?_⟩) |refine u2 ?_ |fail)
      refine ⟨_,fP one (n0+11) true 7,?_,?_⟩
      rotate_left
      ·rintro r hp' amb' ⟨rfl,rfl,hz⟩
       obtain ⟨hb,hr⟩:=dQ hz
       first|cases hb|(rw [e0] at hb;cases hb)|(rw [e0n] at hb;cases hb)
      rintro r hp' amb' ⟨rfl,rfl,hz⟩
      obtain ⟨hb,hr⟩:=dP hz
      subst hr
      clear hz hb
      refine bq ?_
      refine ak.seq ?_
      refine ak.ops bA (mu:=fun _=>false) ?_
      repeat' (first |refine u1 ?_ |refine u2 ?_ |fail)
      refine (C6 one hg hi b3.1 b3.2 v n cc hn xa xb hxa hxb).mono ?_
      rintro a hp' amb' ⟨rfl,rfl,rfl⟩
      show ak _ _ _ _ _ _ _
      have hl2:(iI c (d - day) ls).length=n:=by unfold iI;simpa using hn
      generalize iI c (d - day) ls=lt at *
      obtain ⟨i,rfl⟩:∃ i:Nat,m=(i:Int):=⟨m.toNat,by omega⟩
      obtain ⟨j,rfl⟩:∃ j:Nat,o=(j:Int):=⟨o.toNat,by omega⟩
      have hin:i < n:=by omega
      have hjn:j < n:=by omega
      unfold GY
      dsimp only
      have hk4:k=1∨k=2∨k=3∨k=4:=by omega
      rcases hk4 with rfl|rfl|rfl|rfl
      ·rw [if_pos rfl,Int.toNat_natCast]
       refine ak.fO (A:=[_,_,_,_,_,_,_,_,_,_,_,_,_,_,_]) (c:=15) (mu:=fun _=>false) rfl rfl (by kernel_rfl) ?_
       repeat' (first |refine u1 ?_ |(refine ⟨⟨rfl,rfl⟩,?_⟩) |refine u2 ?_ |fail)
       refine ⟨_,GW one n0 hl2 (by omega) hxa hxb d 1 j i hin,?_,?_⟩
       ·intro a hp' amb' h
        obtain ⟨ls',h1,rfl,rfl,rfl⟩:=h.ret
        rw [h1]
        exact ⟨rfl,rfl,rfl⟩
       ·intro a hp' amb' h
        obtain ⟨e,b0,b1,hbb,h1,rfl,rfl,rfl⟩:=h.eD
        rw [h1]
        exact ⟨rfl,rfl,_,_,hbb,rfl⟩
      ·rw [if_neg (by decide),if_pos rfl,Int.toNat_natCast]
       refine ak.fO (A:=[_,_,_,_,_,_,_,_,_,_,_,_,_,_,_]) (c:=15) (mu:=fun _=>false) rfl rfl (by kernel_rfl) ?_
       repeat' (first |refine u1 ?_ |(refine ⟨⟨rfl,rfl⟩,?_⟩) |refine u2 ?_ |fail)
       refine ⟨_,GQ one (n0+9) hl2 d 2 j i hin,?_,?_⟩
       ·intro a hp' amb' h
        obtain ⟨ls',h1,rfl,rfl,rfl⟩:=h.ret
        rw [h1]
        exact ⟨rfl,rfl,rfl⟩
       ·intro a hp' amb' h
        obtain ⟨e,b0,b1,hbb,h1,rfl,rfl,rfl⟩:=h.eD
        rw [h1]
        exact ⟨rfl,rfl,_,_,hbb,rfl⟩
      ·rw [if_neg (by decide),if_neg (by decide),if_pos rfl,Int.toNat_natCast]
       refine ak.fO (A:=[_,_,_,_,_,_,_,_,_,_,_,_,_,_,_]) (c:=15) (mu:=fun _=>false) rfl rfl (by kernel_rfl) ?_
       repeat' (first |refine u1 ?_ |(refine ⟨⟨rfl,rfl⟩,?_⟩) |refine u2 ?_ |fail)
       refine ⟨_,GS one (n0+9) hl2 d 3 j i hin,?_,?_⟩
       ·intro a hp' amb' h
        obtain ⟨ls',h1,rfl,rfl,rfl⟩:=h.ret
        rw [h1]
        exact ⟨rfl,rfl,rfl⟩
       ·intro a hp' amb' h
        obtain ⟨e,b0,b1,hbb,h1,rfl,rfl,rfl⟩:=h.eD
        rw [h1]
        exact ⟨rfl,rfl,_,_,hbb,rfl⟩
      ·rw [if_neg (by decide),if_neg (by decide),if_neg (by decide),if_pos rfl,Int.toNat_natCast]
       refine ak.fO (A:=[_,_,_,_,_,_,_,_,_,_,_,_,_,_,_]) (c:=15) (mu:=fun _=>false) rfl rfl (by kernel_rfl) ?_
       repeat' (first |refine u1 ?_ |(refine ⟨⟨rfl,rfl⟩,?_⟩) |refine u2 ?_ |fail)
       refine ⟨_,GR one (n0+9) hl2 d 4 j i hin,?_,?_⟩
       ·intro a hp' amb' h
        obtain ⟨ls',h1,rfl,rfl,rfl⟩:=h.ret
        rw [h1]
        exact ⟨rfl,rfl,rfl⟩
       ·intro a hp' amb' h
        obtain ⟨e,b0,b1,hbb,h1,rfl,rfl,rfl⟩:=h.eD
        rw [h1]
        exact ⟨rfl,rfl,_,_,hbb,rfl⟩
end Go.Proofs.YtlpmfgmldmdggaaGreat
open Go Go.RM
namespace Go.Proofs.YtlpmfgmldmdggaaGreat
set_option maxRecDepth 100000
theorem FA {day:Int} {ls:List Acc} (h:∀ a ∈ ls,cB day a) {i:Nat} {a:Acc} {p:Int} (ha:ls[i]?=some a) (hp:p=0∨p=1∨p=2):∀ b ∈ ls.set i {a with place:=p},cB day b:=by
 intro b hb
 rcases List.mem_or_eq_of_mem_set hb with h1|rfl
 ·exact h b h1
 ·have:=h a (List.mem_of_getElem? ha)
  exact ⟨hp,this.gI,this.d0,this.d1,this.d2⟩
theorem oC {day:Int} {ls ls':List Acc} (h:∀ a ∈ ls,cB day a) {i:Nat} {p q:Int} (hq:q=0∨q=1∨q=2) (he:gv i p q ls=.inl ls'):∀ b ∈ ls',cB day b:=by
 unfold gv at he
 split at he
 ·rename_i a ha
  split at he
  ·cases he;exact FA h ha hq
  ·cases he
 ·cases he
theorem Ig {c:ay} {x:Ev} {day:Int} {ls ls':List Acc} (h:∀ a ∈ ls,cB day a) (he:GY c x ls=.inl ls'):(∀ b ∈ ls',cB day b)∧ls'.length=ls.length:=by
 unfold GY at he
 split at he
 ·unfold wj at he
  cases hm:gv x.qp.toNat 0 1 ls with
  | inr e=>rw [hm] at he;cases he
  | inl l2 =>
   rw [hm] at he
   simp only at he
   split at he
   ·split at he
    ·split at he
     ·cases he;exact ⟨oC h (.inr (.inl rfl)) hm,i9 hm⟩
     ·cases he
    ·cases he
   ·cases he
 ·split at he
  ·exact ⟨oC h (.inl rfl) he,i9 he⟩
  ·split at he
   ·unfold ya at he
    split at he
    ·rename_i a ha
     split at he
     ·cases he
     ·cases he;exact ⟨FA h ha (.inr (.inr rfl)),by simp⟩
    ·cases he
   ·split at he
    ·exact ⟨oC h (.inl rfl) he,i9 he⟩
    ·unfold yb at he
     cases hm:gv x.qp.toNat 0 1 ls with
     | inr e=>rw [hm] at he;cases he
     | inl l2 =>
      rw [hm] at he
      simp only at he
      exact ⟨oC (oC h (.inr (.inl rfl)) hm) (.inl rfl) he,(i9 he).trans (i9 hm)⟩
theorem yc {c:ay} (hg:Good c) {day:Int} {ls ls':List Acc} (h:Inv c day ls) {x:Ev} (he:fj c day ls x=.inl ls'):Inv c x.day ls'∧day≤x.day:=by
 unfold fj at he
 split at he
 ·cases he
 ·split at he
  ·cases he
  ·split at he
   ·cases he
   ·rename_i h3
    have b3:=cI (Bool.not_eq_true _ ▸ h3)
    have ht:=Ba hg h b3.1 b3.2
    obtain ⟨q1,q2⟩:=Ig ht.ok he
    exact ⟨⟨q2.trans ht.len,q1,ht.day⟩,b3.1⟩
def bH (c:ay) (D:Int):Nat→Int→List Acc→List Ev→(Nat × Int) ⊕ (Int × List Acc)
 | _,d,ls,[]=>.inr (d,ls)
 | i,d,ls,x :: l=>if x.day≤D then match fj c d ls x with
   | .inl ls'=>bH c D (i+1) x.day ls' l
   | .inr e=>.inl (i,e)
  else bH c D (i+1) d ls l
theorem Be (c:ay) (D:Int) (i:Nat) (d:Int) (ls:List Acc):bH c D i d ls []=.inr (d,ls):=rfl
theorem bM (c:ay) (D:Int) (i:Nat) (d:Int) (ls:List Acc) (x:Ev) (l:List Ev):bH c D i d ls (x :: l)=if x.day≤D then match fj c d ls x with
  | .inl ls'=>bH c D (i+1) x.day ls' l
  | .inr e=>.inl (i,e)
 else bH c D (i+1) d ls l:=rfl
theorem oD {c:ay} (hg:Good c) {D:Int}:∀ {l:List Ev} {i:Nat} {d:Int} {ls:List Acc} {d':Int} {ls':List Acc},Inv c d ls→bH c D i d ls l=.inr (d',ls')→Inv c d' ls'∧d≤d'
 | [],i,d,ls,d',ls',h,e=>by cases e;exact ⟨h,Int.le_refl _⟩
 | x :: l,i,d,ls,d',ls',h,e=>by
  rw [bM] at e
  split at e
  ·cases he:fj c d ls x with
   | inr q=>rw [he] at e;cases e
   | inl l2 =>
    rw [he] at e
    simp only at e
    obtain ⟨h1,h2⟩:=yc hg h he
    obtain ⟨h3,h4⟩:=oD hg h1 e
    exact ⟨h3,by omega⟩
  ·exact oD hg h e
end Go.Proofs.YtlpmfgmldmdggaaGreat
open Go Go.RM
namespace Go.Proofs.YtlpmfgmldmdggaaGreat
set_option maxRecDepth 100000
set_option maxHeartbeats 4000000
abbrev I0:AB:=.cells [aj 0] 0 0
theorem FB {b0 b1:AB} {R:List AB} {au:bF} {Q:List AB→bF→Prop} {z:AV} (h:Q (b0 :: b1 :: .cells [z] 0 0 :: R) au):zx TT (.fn 104 [] [.ptr 2 0 0]) none (b0 :: b1 :: .cells [z] 0 0 :: R) au Q:=by
 refine ⟨104,Tryz.f104,_,[],[.ptr 2 0 0],rfl,rfl,rfl,rfl,?_⟩
 refine gJ.seq ?_
 refine gJ.ops (mu:=fun _=>false) ?_
 refine ⟨rfl,?_⟩
 show gJ _ _ _ _ _
 refine gJ.seq ?_
 refine gJ.ops (mu:=fun _=>false) ?_
 refine ⟨rfl,?_⟩
 show cm _=_∧_
 refine ⟨rfl,?_⟩
 refine ⟨.nilIface,.nilIface,rfl,rfl,.bool false,rfl,rfl,?_⟩
 show gJ _ _ _ _ _
 refine gJ.cond (t:=false) rfl (fun h=>Bool.noConfusion h) (fun _=>?_)
 exact gJ.skip ⟨.inl rfl,rfl,h⟩
theorem G0 (e:Int) (x y:Operand):lU TT.P .neq 20 x y (.iface 27 (.int .i64 e)) .nilIface=some (.bool true,.none):=by
 rfl
theorem Ih (e:Int):cU (aA TT.P (Instr.typeAssert (.iface 27 (.int .i64 e)) 20 27 false))=some (.int .i64 e,.none):=by
 rfl
theorem FC {b0 b1:AB} {R:List AB} {au:bF} {Q:List AB→bF→Prop} {z:AV} {e:Int} (h:Q (b0 :: b1 :: .cells [aj e] 0 0 :: R) au):zx TT (.fn 104 [] [.ptr 2 0 0]) (some (ER e)) (b0 :: b1 :: .cells [z] 0 0 :: R) au Q:=by
 refine ⟨104,Tryz.f104,_,[],[.ptr 2 0 0],rfl,rfl,rfl,rfl,?_⟩
 refine gJ.seq ?_
 refine gJ.ops (mu:=fun _=>false) ?_
 refine ⟨rfl,?_⟩
 show gJ _ _ _ _ _
 refine gJ.seq ?_
 refine gJ.ops (mu:=fun _=>false) ?_
 refine ⟨rfl,?_⟩
 show cm _=_∧_
 refine ⟨rfl,?_⟩
 refine ⟨.iface 27 (.int .i64 e),.nilIface,rfl,rfl,.bool true,G0 e _ _,rfl,?_⟩
 show gJ _ _ _ _ _
 refine gJ.cond (t:=true) rfl (fun _=>?_) (fun h=>Bool.noConfusion h)
 refine gJ.ops (mu:=fun _=>false) ?_
 refine ⟨rfl,?_⟩
 show cm _=_∧_
 refine ⟨rfl,?_⟩
 refine ⟨.iface 27 (.int .i64 e),rfl,.int .i64 e,Ih e,rfl,?_⟩
 show cm _=_∧_
 refine ⟨rfl,?_⟩
 repeat' (first |refine u1 ?_ |refine u2 ?_ |fail)
 exact ⟨.inl rfl,rfl,h⟩
theorem FD {rs:List ResultVar} {Q:AV→List AB→bF→Prop} {st:aR} {F:AV} (h:zx TT F none st.hp st.au fun hp' amb'=>gW TT ⟨st.fr,hp',amb',st.rd,st.fl⟩ rs fun vs=>Q (lQ vs) hp' amb'):GO TT rs Q (.e .ret) st F:=h
theorem FE {rs:List ResultVar} {Q:AV→List AB→bF→Prop} {st:aR} {F a:AV} (h:zx TT F (some a) st.hp st.au fun hp' amb'=>gW TT ⟨st.fr,hp',amb',st.rd,st.fl⟩ rs fun vs=>Q (lQ vs) hp' amb'):GO TT rs Q (.eD a) st F:=h
def JV (c:ay) (v n cc:Nat) (au:bF) (r:(Nat × Int) ⊕ (Int × List Acc)) (a:AV) (hp':List AB) (amb':bF):Prop :=
 amb'=au∧match r with
  | .inl p=>a=.tp [aj (p.1:Int),aj p.2]∧∃ b0 b1,(AB.iE 2 b0=true∧AB.iE 2 b1=true)∧∃ R,hp'=b0 :: b1 :: R
  | .inr q=>a=.tp [aj 0,aj 0]∧∃ R,hp'=ee c q.1 v n cc :: gh q.2 v :: R
def JL (c:ay) (v n cc:Nat) (au:bF) (r:(Nat × Int) ⊕ (Int × List Acc)) (a:AV) (hp':List AB) (amb':bF):Prop :=
 amb'=au∧match r with
  | .inl p=>a=.tp [aj (p.1:Int),aj p.2]∧∃ b0 b1,(AB.iE 2 b0=true∧AB.iE 2 b1=true)∧hp'=[b0,b1]
  | .inr q=>a=.tp [aj 0,aj 0]∧hp'=[ee c q.1 v n cc,gh q.2 v]
theorem Ii (c:ay) (d:Int) (v n cc:Nat) (ls:List Acc):([ee c d v n cc,gh ls v,I0]:List AB).all (AB.iE 3)=true:=by
 simp only [List.all_cons,List.all_nil,Bool.and_true,Bool.and_eq_true]
 exact ⟨di _ _ _ _ _ _ (by decide),ck _ _ _,rfl⟩
theorem DX (one:Bool) {c:ay} (hg:Good c) {d:Int} {ls:List Acc} (hi:Inv c d ls) {v n cc:Nat} (hn:ls.length=n) (l:List Ev) (f:Bool) (hl:l.length≤20) (D:Int) {au:bF} :
  ah TT TB one (.fn 61 [] []) [.ptr 0 0 0,.sl (l.map cO) f,aj D] [ee c d v n cc,gh ls v] au (JV c v n cc au (bH c D 0 d ls l)):=by
 have el:((l.map cO).length:Int)=l.length:=by simp
 obtain ⟨ln,hln⟩:∃ ln:Int,ln=l.length:=⟨_,rfl⟩
 refine ah.Jf (fn:=Tryz.f61) rfl rfl rfl rfl ?_
 refine Bb.JK (by rfl) ?_
 refine aa (mu:=fun _=>false) ?_
 repeat' (first |refine u1 ?_ |refine u2 ?_ |fail)
 refine Bb.defer (mu:=fun _=>false) (by rfl) ?_
 repeat' (first |refine u1 ?_ |refine u2 ?_ |fail)
 refine ak.seq ?_
 refine ak.seq ?_
 refine ak.ops bA (mu:=fun _=>false) ?_
 repeat' (first |refine u1 ?_ |refine u2 ?_ |fail)
 refine bq ?_
 refine ak.cr (ai.to (l:=[(0,.ptr 0 0 0),(2,aj D),(7,.ptr 2 0 0),(11,.sl (l.map cO) f),(12,aj ln),(13,aj (0:Nat))]) (hp:=[ee c d v n cc,gh ls v,I0]) 3 rfl ⟨rfl,rfl,rfl,rfl,cZ (by rw [hln];exact el),rfl,trivial⟩ (Nat.le_refl _) rfl (Ii _ _ _ _ _ _)) ?_
 refine ak.block ?_
 refine ak.fuel (n:=20+l.length+1) (by omega) ?_
 refine ak.loop (n:=20) (fun x:Nat × Int × List Acc=>x.1≤l.length∧Inv c x.2.1 x.2.2∧bH c D 0 d ls l=bH c D x.1 x.2.1 x.2.2 (l.drop x.1)) (fun x=>⟨cz [(0,.ptr 0 0 0),(2,aj D),(7,.ptr 2 0 0),(11,.sl (l.map cO) f),(12,aj ln),(13,aj (x.1:Nat))],[ee c x.2.1 v n cc,gh x.2.2 v,I0],au,false,3⟩) (fun x=>l.length - x.1) ?_ (0,d,ls) ⟨Nat.zero_le _,hi,by rw [List.drop_zero]⟩
 rintro ⟨k,dk,lk⟩ ⟨hk,hik,hrk⟩
 dsimp only at hk hik hrk
 dsimp only
 have hnk:lk.length=n:=hik.len.trans (hi.len.symm.trans hn)
 refine ak.seq ?_
 by_cases hlt:k < l.length
 ·have d1:decide ((k:Int) < ln)=true:=decide_eq_true (by omega)
  have hat:(l.map cO)[((k:Nat):Int).toNat]?=some (cO l[k]):=cM hlt
  rw [List.drop_eq_getElem_cons hlt,bM] at hrk
  have hev:=GZ one 6 hg hik (v:=v) (cc:=cc) hnk (xa:=I0) (xb:=.cells (cO l[k]) 0 0) rfl rfl (au:=au) l[k]
  generalize l[k]=x at *
  obtain ⟨xd,xk,xm,xo⟩:=x
  dsimp only at hrk hev
  refine ak.ops bA (mu:=fun _=>false) ?_
  repeat' (first |refine u1 ?_ |refine u2 ?_ |fail)
  refine bq ?_
  refine ak.seq ?_
  refine ak.flat bA (by kernel_rfl) ?_
  refine aa (mu:=fun _=>false) ?_
  repeat' (first |refine u1 ?_ |refine u2 ?_ |fail)
  refine ak.seq ?_
  refine ak.block ?_
  cases hd:decide (xd≤D) with
  | true =>
   rw [if_pos (of_decide_eq_true hd)] at hrk
   refine ak.seq ?_
   refine ak.ops bA (mu:=fun _=>false) ?_
   repeat' (first |refine u1 ?_ |(refine ⟨[aj xd,aj xk,aj xm,aj xo],⟨by omega,hat⟩,rfl,?_⟩) |refine u2 ?_ |fail)
   refine bq ?_
   refine ak.seq ?_
   refine ak.ops bA (mu:=fun _=>false) ?_
   repeat' (first |refine u1 ?_ |refine u2 ?_ |fail)
   refine bq ?_
   refine ak.seq ?_
   refine ak.ops bA (mu:=fun _=>false) ?_
   repeat' (first |refine u1 ?_ |refine u2 ?_ |fail)
   refine bq ?_
   refine ak.cond (t:=true) (by rw [←hd];rfl) (fun _=>?_) (fun h=>Bool.noConfusion h)
   refine ak.j9 bA (A:=[_,_]) (mu:=fun _=>false) rfl ?_
   repeat' (first |refine u1 ?_ |refine u2 ?_ |fail)
   refine ⟨_,hev.fuel (by decide),?_,?_⟩
   ·intro a hp' amb' h
    obtain ⟨ls',h1,rfl,rfl,rfl⟩:=h.ret
    rw [h1] at hrk
    simp only at hrk
    have hi2:=(yc hg hik h1).1
    show ak _ _ _ _ _ _ _
    refine ak.ops bA (mu:=fun _=>false) ?_
    repeat' (first |refine u1 ?_ |refine u2 ?_ |fail)
    exact ⟨(k+1,xd,ls'),⟨hlt,hi2,hrk⟩,(by dsimp only;omega),ai.to 3 rfl ⟨rfl,rfl,rfl,rfl,rfl,cZ (by simp),trivial⟩ (Nat.le_refl _) rfl (Ii _ _ _ _ _ _)⟩
   ·intro a hp' amb' h
    obtain ⟨e,b0,b1,hbb,h1,rfl,rfl,rfl⟩:=h.eD
    rw [h1] at hrk
    simp only at hrk
    rw [hrk]
    show GO TT Tryz.f61.results.toList (JV c v n cc _ (.inl (k,e))) (.eD (ER e)) _ (.fn 104 [] [.ptr 2 0 0])
    refine FE ?_
    refine FC ?_
    exact ⟨_,_,rfl,_,rfl,rfl,rfl,_,_,hbb,_,rfl⟩
  | false =>
   rw [if_neg (of_decide_eq_false hd)] at hrk
   refine ak.seq ?_
   refine ak.ops bA (mu:=fun _=>false) ?_
   repeat' (first |refine u1 ?_ |(refine ⟨[aj xd,aj xk,aj xm,aj xo],⟨by omega,hat⟩,rfl,?_⟩) |refine u2 ?_ |fail)
   refine bq ?_
   refine ak.seq ?_
   refine ak.ops bA (mu:=fun _=>false) ?_
   repeat' (first |refine u1 ?_ |refine u2 ?_ |fail)
   refine bq ?_
   refine ak.seq ?_
   refine ak.ops bA (mu:=fun _=>false) ?_
   repeat' (first |refine u1 ?_ |refine u2 ?_ |fail)
   refine bq ?_
   refine ak.cond (t:=false) (by rw [←hd];rfl) (fun h=>Bool.noConfusion h) (fun _=>?_)
   refine ak.here (fun _ _ _=>rfl) ?_
   show ak _ _ _ _ _ _ _
   refine ak.ops bA (mu:=fun _=>false) ?_
   repeat' (first |refine u1 ?_ |refine u2 ?_ |fail)
   exact ⟨(k+1,dk,lk),⟨hlt,hik,hrk⟩,(by dsimp only;omega),ai.to 3 rfl ⟨rfl,rfl,rfl,rfl,rfl,cZ (by simp),trivial⟩ (Nat.le_refl _) rfl (Ii _ _ _ _ _ _)⟩
 ·have d1:decide ((k:Int) < ln)=false:=decide_eq_false (by omega)
  rw [List.drop_eq_nil_of_le (by omega),Be] at hrk
  rw [hrk]
  refine ak.ops bA (mu:=fun _=>false) ?_
  repeat' (first |refine u1 ?_ |refine u2 ?_ |fail)
  refine bq ?_
  refine ak.seq ?_
  refine ak.flat bA (by kernel_rfl) ?_
  refine aa (mu:=fun _=>false) ?_
  repeat' (first |refine u1 ?_ |refine u2 ?_ |fail)
  show ak _ _ _ _ _ _ _
  refine ak.seq ?_
  refine ak.ops bA (mu:=fun _=>false) ?_
  repeat' (first |refine u1 ?_ |refine u2 ?_ |fail)
  refine bq ?_
  refine ak.here (fun _ _ _=>rfl) ?_
  refine FD ?_
  refine FB ?_
  exact ⟨_,_,rfl,_,rfl,rfl,rfl,_,rfl⟩
theorem Bf (one:Bool) {c:ay} (hg:Good c) {d:Int} {ls:List Acc} (hi:Inv c d ls) {v n cc:Nat} (hn:ls.length=n) (l:List Ev) (f:Bool) (hl:l.length≤20) (D:Int) {au:bF} :
  ah TT TB one (.fn 61 [] []) [.ptr 0 0 0,.sl (l.map cO) f,aj D] [ee c d v n cc,gh ls v] au (JL c v n cc au (bH c D 0 d ls l)):=by
 refine ((DX one hg hi hn l f hl D (v:=v) (cc:=cc) (au:=au)).cut ?_).mono ?_
 ·intro a hp' amb' h
  obtain ⟨rfl,h⟩:=h
  cases hr:bH c D 0 d ls l with
  | inl p =>
   rw [hr] at h
   obtain ⟨rfl,b0,b1,hbb,R,rfl⟩:=h
   refine ⟨rfl,?_⟩
   show (AB.iE 2 b0 && (AB.iE 2 b1 && true))=true
   rw [hbb.1,hbb.2]
   rfl
  | inr q =>
   rw [hr] at h
   obtain ⟨rfl,R,rfl⟩:=h
   refine ⟨rfl,?_⟩
   show (AB.iE 2 (ee c q.1 v n cc) && (AB.iE 2 (gh q.2 v) && true))=true
   rw [di _ _ _ _ _ _ (by decide),ck]
   rfl
 ·rintro a hp2 amb' ⟨hp',rfl,rfl,h⟩
  refine ⟨rfl,?_⟩
  cases hr:bH c D 0 d ls l with
  | inl p =>
   rw [hr] at h
   obtain ⟨rfl,b0,b1,hbb,R,rfl⟩:=h
   exact ⟨rfl,b0,b1,hbb,rfl⟩
  | inr q =>
   rw [hr] at h
   obtain ⟨rfl,R,rfl⟩:=h
   exact ⟨rfl,rfl⟩
end Go.Proofs.YtlpmfgmldmdggaaGreat
