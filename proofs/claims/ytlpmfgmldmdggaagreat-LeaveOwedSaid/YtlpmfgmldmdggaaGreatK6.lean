/-
  Contracts of the program's functions and of the document's. Lemmas alone; their conditions stand in them.
-/
import Derived.Test.YtlpmfgmldmdggaaGreatA4
import Derived.Test.YtlpmfgmldmdggaaGreatK5
open Go Go.RM
namespace Go.Proofs.YtlpmfgmldmdggaaGreat
set_option maxRecDepth 100000
set_option maxHeartbeats 4000000
theorem Iw (one:Bool) (lo hi a b:Int):Pu one 51 [ah lo,ah hi,.sl [eI a,eI b] true] (BB (ec lo hi [a,b])):=Df one lo hi [a,b] (by simp [maxLen])
theorem Ec (lo hi a b:Int):ec lo hi [a,b]=(!lP a lo hi || !lP b lo hi):=by
 have h1:=bD a lo hi
 have h2:=bD b lo hi
 rw [←h1,←h2]
 unfold ec
 simp
def kindOk (x:Ev):Bool:=!ec 1 5 [x.kind] && (decide (x.kind=5) && !decide (x.other=x.qT) || !decide (x.kind=5) && decide (x.other=0))
def Iy (c:ay) (x:Ev) (ls:List Acc):List Acc ⊕ Int :=
 if x.kind=1 then xp c x.qT.toNat ls else if x.kind=2 then gH x.qT.toNat 1 0 ls else if x.kind=3 then y9 x.qT.toNat ls else if x.kind=4 then gH x.qT.toNat 2 0 ls else za x.qT.toNat x.other.toNat ls
def fF (c:ay) (day:Int) (ls:List Acc) (x:Ev):List Acc ⊕ Int :=
 if kindOk x=false then .inr 2
 else if ec 0 ((c.aG.length:Int) - 1) [x.qT,x.other]=true then .inr 4
 else if ec day 40000 [x.day]=true then .inr 7
 else Iy c x (iS c (x.day - day) ls)
theorem Iz (one:Bool) (n0:Nat) {c:ay} (hg:Good c) {day:Int} {ls:List Acc} (hi:Inv c day ls) {v n cc:Nat} (hn:ls.length=n) {xa xb:AB} (hxa:AB.ig 4 xa=true) (hxb:AB.ig 4 xb=true) {av:bw} (x:Ev) :
  di TT TB one (n0+13) (.fn 105 [] []) [.ptr 0 0 0,.ag (cZ x)] (eA c day v n cc :: fo ls v :: [xa,xb]) av (GO c x.day v n cc [xa,xb] av (fF c day ls x)):=by
 have em:((c.aG.map bp).length:Int)=c.aG.length:=by simp
 have hnm:n=c.aG.length:=by rw [←hn];exact hi.len
 have hm5:=hg.aG
 have hdy:=hi.day
 have o1:=jt one 1 5 x.kind
 have o2:=Iw true 0 (((c.aG.map bp).length:Int) - 1) x.qT x.other
 rw [em] at o2
 have o3:=jt true day 40000 x.day
 obtain ⟨d,k,m,o⟩:=x
 dsimp only at o1 o2 o3
 unfold fF kindOk
 dsimp only
 show di TT TB one (n0+13) (.fn 105 [] []) [.ptr 0 0 0,.ag [ah d,ah k,ah m,ah o]] _ _ _
 refine di.body (fn:=Tryz.f105) rfl rfl ?_
 refine ak.seq ?_
 refine ak.ops bI (mu:=fun _=>false) ?_
 repeat' (first |refine u1 ?_ |refine u2 ?_ |fail)
 refine bz ?_
 refine ak.seq ?_
 refine ak.ku bI (A:=[_,_,_,_,_,_,_,_,_,_,_,_,_,_,_,_,_,_,_,_,_,_,_,_,_,_,_]) (mu:=fun _=>false) rfl ?_
 cases e1:ec 1 5 [k] with
 | true =>
  rw [e1] at o1
  rw [if_pos (by simp)]
  repeat' (first |refine u1 ?_ |((with_reducible show ai _ _ _ _ _ _ _ _);refine af.call o1 rfl rfl ?_) |refine u2 ?_ |fail)
  refine ⟨_,fZ one (n0+11) false 2,?_,?_⟩
  rotate_left
  ·rintro r hp' amb' ⟨rfl,rfl,hz⟩
   obtain ⟨hb,hr⟩:=dZ hz
   subst hr
   exact ⟨rfl,rfl,_,_,⟨dB _ _ _ _ _ _ (by decide),cg _ _ _⟩,rfl⟩
  rintro r hp' amb' ⟨rfl,rfl,hz⟩
  obtain ⟨hb,hr⟩:=dY hz
  first|cases hb|(rw [e0] at hb;cases hb)|(rw [e0n] at hb;cases hb)
 | false =>
  rw [e1] at o1
  have b1:=cC e1
  by_cases hk:k=5
  ·subst hk
   cases e0:decide (o=m) with
   | true =>
    have e0n:(!decide (o=m))=false:=by rw [e0];rfl
    rw [if_pos (by simp)]
    repeat' (first |refine u1 ?_ |((with_reducible show ai _ _ _ _ _ _ _ _);refine af.call o1 rfl rfl ?_) |refine u2 ?_ |fail)
    refine ⟨_,fZ one (n0+11) _ 2,?_,?_⟩
    rotate_left
    ·rintro r hp' amb' ⟨rfl,rfl,hz⟩
     obtain ⟨hb,hr⟩:=dZ hz
     subst hr
     exact ⟨rfl,rfl,_,_,⟨dB _ _ _ _ _ _ (by decide),cg _ _ _⟩,rfl⟩
    rintro r hp' amb' ⟨rfl,rfl,hz⟩
    obtain ⟨hb,hr⟩:=dY hz
    first|cases hb|(rw [e0] at hb;cases hb)|(rw [e0n] at hb;cases hb)
   | false =>
    have e0n:(!decide (o=m))=true:=by rw [e0];rfl
    rw [if_neg (by simp)]
    repeat' (first |refine u1 ?_ |((with_reducible show ai _ _ _ _ _ _ _ _);refine af.call o1 rfl rfl ?_) |refine u2 ?_ |fail)
    refine ⟨_,fZ one (n0+11) _ 2,?_,?_⟩
    rotate_left
    ·rintro r hp' amb' ⟨rfl,rfl,hz⟩
     obtain ⟨hb,hr⟩:=dZ hz
     first|cases hb|(rw [e0] at hb;cases hb)|(rw [e0n] at hb;cases hb)
    rintro r hp' amb' ⟨rfl,rfl,hz⟩
    obtain ⟨hb,hr⟩:=dY hz
    subst hr
    clear hz hb
    refine bz ?_
    refine ak.seq ?_
    refine ak.fY (A:=[_,_,_,_,_,_,_,_,_,_,_,_,_,_]) (c:=14) (mu:=fun _=>false) rfl rfl (by kernel_rfl) ?_
    cases e2:ec 0 ((c.aG.length:Int) - 1) [m,o] with
    | true =>
     rw [e2,←em] at o2
     rw [if_pos rfl]
     repeat' (first |refine u1 ?_ |(refine ⟨_,_,.inl ⟨rfl,rfl⟩,o2,?_⟩) |refine u2 ?_ |fail)
     refine ⟨_,fZ one (n0+11) false 4,?_,?_⟩
     rotate_left
     ·rintro r hp' amb' ⟨rfl,rfl,hz⟩
      obtain ⟨hb,hr⟩:=dZ hz
      subst hr
      exact ⟨rfl,rfl,_,_,⟨dB _ _ _ _ _ _ (by decide),cg _ _ _⟩,rfl⟩
     rintro r hp' amb' ⟨rfl,rfl,hz⟩
     obtain ⟨hb,hr⟩:=dY hz
     first|cases hb|(rw [e0] at hb;cases hb)|(rw [e0n] at hb;cases hb)
    | false =>
     rw [e2,←em] at o2
     rw [if_neg (by simp)]
     have b2:(0≤m∧m≤(c.aG.length:Int) - 1)∧(0≤o∧o≤(c.aG.length:Int) - 1):=by
      rw [Ec,Bool.or_eq_false_iff,Bool.not_eq_false',Bool.not_eq_false'] at e2
      exact ⟨cM.1 e2.1,cM.1 e2.2⟩
     repeat' (first |refine u1 ?_ |(refine ⟨_,_,.inl ⟨rfl,rfl⟩,o2,?_⟩) |refine u2 ?_ |fail)
     refine ⟨_,fZ one (n0+11) true 4,?_,?_⟩
     rotate_left
     ·rintro r hp' amb' ⟨rfl,rfl,hz⟩
      obtain ⟨hb,hr⟩:=dZ hz
      first|cases hb|(rw [e0] at hb;cases hb)|(rw [e0n] at hb;cases hb)
     rintro r hp' amb' ⟨rfl,rfl,hz⟩
     obtain ⟨hb,hr⟩:=dY hz
     subst hr
     clear hz hb
     refine bz ?_
     refine ak.seq ?_
     refine ak.fY (A:=[_,_,_,_,_,_,_,_,_]) (c:=9) (mu:=fun _=>false) rfl rfl (by kernel_rfl) ?_
     cases e3:ec day 40000 [d] with
     | true =>
      rw [e3] at o3
      rw [if_pos rfl]
      repeat' (first |refine u1 ?_ |(refine ⟨_,_,.inl ⟨rfl,rfl⟩,o3,?_⟩) |refine u2 ?_ |fail)
      refine ⟨_,fZ one (n0+11) false 7,?_,?_⟩
      rotate_left
      ·rintro r hp' amb' ⟨rfl,rfl,hz⟩
       obtain ⟨hb,hr⟩:=dZ hz
       subst hr
       exact ⟨rfl,rfl,_,_,⟨dB _ _ _ _ _ _ (by decide),cg _ _ _⟩,rfl⟩
      rintro r hp' amb' ⟨rfl,rfl,hz⟩
      obtain ⟨hb,hr⟩:=dY hz
      first|cases hb|(rw [e0] at hb;cases hb)|(rw [e0n] at hb;cases hb)
     | false =>
      rw [e3] at o3
      rw [if_neg (by simp)]
      have b3:=cC e3
      repeat' (first |refine u1 ?_ |(refine ⟨_,_,.inl ⟨rfl,rfl⟩,o3,?_⟩) |refine u2 ?_ |fail)
      refine ⟨_,fZ one (n0+11) true 7,?_,?_⟩
      rotate_left
      ·rintro r hp' amb' ⟨rfl,rfl,hz⟩
       obtain ⟨hb,hr⟩:=dZ hz
       first|cases hb|(rw [e0] at hb;cases hb)|(rw [e0n] at hb;cases hb)
      rintro r hp' amb' ⟨rfl,rfl,hz⟩
      obtain ⟨hb,hr⟩:=dY hz
      subst hr
      clear hz hb
      refine bz ?_
      refine ak.seq ?_
      refine ak.ops bI (mu:=fun _=>false) ?_
      repeat' (first |refine u1 ?_ |refine u2 ?_ |fail)
      refine (Eb one hg hi b3.1 b3.2 v n cc hn xa xb hxa hxb).mono ?_
      rintro a hp' amb' ⟨rfl,rfl,rfl⟩
      show ak _ _ _ _ _ _ _
      have hl2:(iS c (d - day) ls).length=n:=by unfold iS;simpa using hn
      generalize iS c (d - day) ls=lt at *
      obtain ⟨i,rfl⟩:∃ i:Nat,m=(i:Int):=⟨m.toNat,by omega⟩
      obtain ⟨j,rfl⟩:∃ j:Nat,o=(j:Int):=⟨o.toNat,by omega⟩
      have hin:i < n:=by omega
      have hjn:j < n:=by omega
      unfold Iy
      dsimp only
      rw [if_neg (by decide),if_neg (by decide),if_neg (by decide),if_neg (by decide)]
      rw [Int.toNat_natCast,Int.toNat_natCast]
      refine ak.fY (A:=[_,_,_,_,_,_,_,_,_,_,_,_,_,_,_]) (c:=15) (mu:=fun _=>false) rfl rfl (by kernel_rfl) ?_
      repeat' (first |refine u1 ?_ |(refine ⟨⟨rfl,rfl⟩,?_⟩) |refine u2 ?_ |fail)
      refine ⟨_,It one (n0+9) hl2 d 5 i j hin hjn,?_,?_⟩
      ·intro a hp' amb' h
       obtain ⟨ls',h1,rfl,rfl,rfl⟩:=h.ret
       rw [h1]
       exact ⟨rfl,rfl,rfl⟩
      ·intro a hp' amb' h
       obtain ⟨e,b0,b1,hbb,h1,rfl,rfl,rfl⟩:=h.eK
       rw [h1]
       exact ⟨rfl,rfl,_,_,hbb,rfl⟩
  ·have dk:decide (k=5)=false:=decide_eq_false hk
   have dk2:(!decide (k=5))=true:=by rw [dk];rfl
   cases e0:decide (o=0) with
   | false =>
    have e0n:=e0
    rw [if_pos (by rw [dk];simp)]
    repeat' (first |refine u1 ?_ |((with_reducible show ai _ _ _ _ _ _ _ _);refine af.call o1 rfl rfl ?_) |refine u2 ?_ |fail)
    refine ⟨_,fZ one (n0+11) _ 2,?_,?_⟩
    rotate_left
    ·rintro r hp' amb' ⟨rfl,rfl,hz⟩
     obtain ⟨hb,hr⟩:=dZ hz
     subst hr
     exact ⟨rfl,rfl,_,_,⟨dB _ _ _ _ _ _ (by decide),cg _ _ _⟩,rfl⟩
    rintro r hp' amb' ⟨rfl,rfl,hz⟩
    obtain ⟨hb,hr⟩:=dY hz
    first|cases hb|(rw [e0] at hb;cases hb)|(rw [e0n] at hb;cases hb)
   | true =>
    have e0n:=e0
    rw [if_neg (by rw [dk];simp)]
    repeat' (first |refine u1 ?_ |((with_reducible show ai _ _ _ _ _ _ _ _);refine af.call o1 rfl rfl ?_) |refine u2 ?_ |fail)
    refine ⟨_,fZ one (n0+11) _ 2,?_,?_⟩
    rotate_left
    ·rintro r hp' amb' ⟨rfl,rfl,hz⟩
     obtain ⟨hb,hr⟩:=dZ hz
     first|cases hb|(rw [e0] at hb;cases hb)|(rw [e0n] at hb;cases hb)
    rintro r hp' amb' ⟨rfl,rfl,hz⟩
    obtain ⟨hb,hr⟩:=dY hz
    subst hr
    clear hz hb
    refine bz ?_
    refine ak.seq ?_
    refine ak.fY (A:=[_,_,_,_,_,_,_,_,_,_,_,_,_,_]) (c:=14) (mu:=fun _=>false) rfl rfl (by kernel_rfl) ?_
    cases e2:ec 0 ((c.aG.length:Int) - 1) [m,o] with
    | true =>
     rw [e2,←em] at o2
     rw [if_pos rfl]
     repeat' (first |refine u1 ?_ |(refine ⟨_,_,.inl ⟨rfl,rfl⟩,o2,?_⟩) |refine u2 ?_ |fail)
     refine ⟨_,fZ one (n0+11) false 4,?_,?_⟩
     rotate_left
     ·rintro r hp' amb' ⟨rfl,rfl,hz⟩
      obtain ⟨hb,hr⟩:=dZ hz
      subst hr
      exact ⟨rfl,rfl,_,_,⟨dB _ _ _ _ _ _ (by decide),cg _ _ _⟩,rfl⟩
     rintro r hp' amb' ⟨rfl,rfl,hz⟩
     obtain ⟨hb,hr⟩:=dY hz
     first|cases hb|(rw [e0] at hb;cases hb)|(rw [e0n] at hb;cases hb)
    | false =>
     rw [e2,←em] at o2
     rw [if_neg (by simp)]
     have b2:(0≤m∧m≤(c.aG.length:Int) - 1)∧(0≤o∧o≤(c.aG.length:Int) - 1):=by
      rw [Ec,Bool.or_eq_false_iff,Bool.not_eq_false',Bool.not_eq_false'] at e2
      exact ⟨cM.1 e2.1,cM.1 e2.2⟩
     repeat' (first |refine u1 ?_ |(refine ⟨_,_,.inl ⟨rfl,rfl⟩,o2,?_⟩) |refine u2 ?_ |fail)
     refine ⟨_,fZ one (n0+11) true 4,?_,?_⟩
     rotate_left
     ·rintro r hp' amb' ⟨rfl,rfl,hz⟩
      obtain ⟨hb,hr⟩:=dZ hz
      first|cases hb|(rw [e0] at hb;cases hb)|(rw [e0n] at hb;cases hb)
     rintro r hp' amb' ⟨rfl,rfl,hz⟩
     obtain ⟨hb,hr⟩:=dY hz
     subst hr
     clear hz hb
     refine bz ?_
     refine ak.seq ?_
     refine ak.fY (A:=[_,_,_,_,_,_,_,_,_]) (c:=9) (mu:=fun _=>false) rfl rfl (by kernel_rfl) ?_
     cases e3:ec day 40000 [d] with
     | true =>
      rw [e3] at o3
      rw [if_pos rfl]
      repeat' (first |refine u1 ?_ |(refine ⟨_,_,.inl ⟨rfl,rfl⟩,o3,?_⟩) |refine u2 ?_ |fail)
      refine ⟨_,fZ one (n0+11) false 7,?_,?_⟩
      rotate_left
      ·rintro r hp' amb' ⟨rfl,rfl,hz⟩
       obtain ⟨hb,hr⟩:=dZ hz
       subst hr
       exact ⟨rfl,rfl,_,_,⟨dB _ _ _ _ _ _ (by decide),cg _ _ _⟩,rfl⟩
      rintro r hp' amb' ⟨rfl,rfl,hz⟩
      obtain ⟨hb,hr⟩:=dY hz
      first|cases hb|(rw [e0] at hb;cases hb)|(rw [e0n] at hb;cases hb)
     | false =>
      rw [e3] at o3
      rw [if_neg (by simp)]
      have b3:=cC e3
      repeat' (first |refine u1 ?_ |(refine ⟨_,_,.inl ⟨rfl,rfl⟩,o3,?_⟩) |refine u2 ?_ |fail)
      refine ⟨_,fZ one (n0+11) true 7,?_,?_⟩
      rotate_left
      ·rintro r hp' amb' ⟨rfl,rfl,hz⟩
       obtain ⟨hb,hr⟩:=dZ hz
       first|cases hb|(rw [e0] at hb;cases hb)|(rw [e0n] at hb;cases hb)
      rintro r hp' amb' ⟨rfl,rfl,hz⟩
      obtain ⟨hb,hr⟩:=dY hz
      subst hr
      clear hz hb
      refine bz ?_
      refine ak.seq ?_
      refine ak.ops bI (mu:=fun _=>false) ?_
      repeat' (first |refine u1 ?_ |refine u2 ?_ |fail)
      refine (Eb one hg hi b3.1 b3.2 v n cc hn xa xb hxa hxb).mono ?_
      rintro a hp' amb' ⟨rfl,rfl,rfl⟩
      show ak _ _ _ _ _ _ _
      have hl2:(iS c (d - day) ls).length=n:=by unfold iS;simpa using hn
      generalize iS c (d - day) ls=lt at *
      obtain ⟨i,rfl⟩:∃ i:Nat,m=(i:Int):=⟨m.toNat,by omega⟩
      obtain ⟨j,rfl⟩:∃ j:Nat,o=(j:Int):=⟨o.toNat,by omega⟩
      have hin:i < n:=by omega
      have hjn:j < n:=by omega
      unfold Iy
      dsimp only
      have hk4:k=1∨k=2∨k=3∨k=4:=by omega
      rcases hk4 with rfl|rfl|rfl|rfl
      ·rw [if_pos rfl,Int.toNat_natCast]
       refine ak.fY (A:=[_,_,_,_,_,_,_,_,_,_,_,_,_,_,_]) (c:=15) (mu:=fun _=>false) rfl rfl (by kernel_rfl) ?_
       repeat' (first |refine u1 ?_ |(refine ⟨⟨rfl,rfl⟩,?_⟩) |refine u2 ?_ |fail)
       refine ⟨_,Iv one n0 hl2 (by omega) hxa hxb d 1 j i hin,?_,?_⟩
       ·intro a hp' amb' h
        obtain ⟨ls',h1,rfl,rfl,rfl⟩:=h.ret
        rw [h1]
        exact ⟨rfl,rfl,rfl⟩
       ·intro a hp' amb' h
        obtain ⟨e,b0,b1,hbb,h1,rfl,rfl,rfl⟩:=h.eK
        rw [h1]
        exact ⟨rfl,rfl,_,_,hbb,rfl⟩
      ·rw [if_neg (by decide),if_pos rfl,Int.toNat_natCast]
       refine ak.fY (A:=[_,_,_,_,_,_,_,_,_,_,_,_,_,_,_]) (c:=15) (mu:=fun _=>false) rfl rfl (by kernel_rfl) ?_
       repeat' (first |refine u1 ?_ |(refine ⟨⟨rfl,rfl⟩,?_⟩) |refine u2 ?_ |fail)
       refine ⟨_,Iq one (n0+9) hl2 d 2 j i hin,?_,?_⟩
       ·intro a hp' amb' h
        obtain ⟨ls',h1,rfl,rfl,rfl⟩:=h.ret
        rw [h1]
        exact ⟨rfl,rfl,rfl⟩
       ·intro a hp' amb' h
        obtain ⟨e,b0,b1,hbb,h1,rfl,rfl,rfl⟩:=h.eK
        rw [h1]
        exact ⟨rfl,rfl,_,_,hbb,rfl⟩
      ·rw [if_neg (by decide),if_neg (by decide),if_pos rfl,Int.toNat_natCast]
       refine ak.fY (A:=[_,_,_,_,_,_,_,_,_,_,_,_,_,_,_]) (c:=15) (mu:=fun _=>false) rfl rfl (by kernel_rfl) ?_
       repeat' (first |refine u1 ?_ |(refine ⟨⟨rfl,rfl⟩,?_⟩) |refine u2 ?_ |fail)
       refine ⟨_,Is one (n0+9) hl2 d 3 j i hin,?_,?_⟩
       ·intro a hp' amb' h
        obtain ⟨ls',h1,rfl,rfl,rfl⟩:=h.ret
        rw [h1]
        exact ⟨rfl,rfl,rfl⟩
       ·intro a hp' amb' h
        obtain ⟨e,b0,b1,hbb,h1,rfl,rfl,rfl⟩:=h.eK
        rw [h1]
        exact ⟨rfl,rfl,_,_,hbb,rfl⟩
      ·rw [if_neg (by decide),if_neg (by decide),if_neg (by decide),if_pos rfl,Int.toNat_natCast]
       refine ak.fY (A:=[_,_,_,_,_,_,_,_,_,_,_,_,_,_,_]) (c:=15) (mu:=fun _=>false) rfl rfl (by kernel_rfl) ?_
       repeat' (first |refine u1 ?_ |(refine ⟨⟨rfl,rfl⟩,?_⟩) |refine u2 ?_ |fail)
       refine ⟨_,Ir one (n0+9) hl2 d 4 j i hin,?_,?_⟩
       ·intro a hp' amb' h
        obtain ⟨ls',h1,rfl,rfl,rfl⟩:=h.ret
        rw [h1]
        exact ⟨rfl,rfl,rfl⟩
       ·intro a hp' amb' h
        obtain ⟨e,b0,b1,hbb,h1,rfl,rfl,rfl⟩:=h.eK
        rw [h1]
        exact ⟨rfl,rfl,_,_,hbb,rfl⟩
end Go.Proofs.YtlpmfgmldmdggaaGreat
open Go Go.RM
namespace Go.Proofs.YtlpmfgmldmdggaaGreat
set_option maxRecDepth 100000
theorem GP {day:Int} {ls:List Acc} (h:∀ a ∈ ls,cF day a) {i:Nat} {a:Acc} {p:Int} (ha:ls[i]?=some a) (hp:p=0∨p=1∨p=2):∀ b ∈ ls.set i {a with place:=p},cF day b:=by
 intro b hb
 rcases List.mem_or_eq_of_mem_set hb with h1|rfl
 ·exact h b h1
 ·have:=h a (List.mem_of_getElem? ha)
  exact ⟨hp,this.fm,this.d0,this.d1,this.d2⟩
theorem oU {day:Int} {ls ls':List Acc} (h:∀ a ∈ ls,cF day a) {i:Nat} {p q:Int} (hq:q=0∨q=1∨q=2) (he:gH i p q ls=.inl ls'):∀ b ∈ ls',cF day b:=by
 unfold gH at he
 split at he
 ·rename_i a ha
  split at he
  ·cases he;exact GP h ha hq
  ·cases he
 ·cases he
theorem JP {c:ay} {x:Ev} {day:Int} {ls ls':List Acc} (h:∀ a ∈ ls,cF day a) (he:Iy c x ls=.inl ls'):(∀ b ∈ ls',cF day b)∧ls'.length=ls.length:=by
 unfold Iy at he
 split at he
 ·unfold xp at he
  cases hm:gH x.qT.toNat 0 1 ls with
  | inr e=>rw [hm] at he;cases he
  | inl l2 =>
   rw [hm] at he
   simp only at he
   split at he
   ·split at he
    ·split at he
     ·cases he;exact ⟨oU h (.inr (.inl rfl)) hm,ji hm⟩
     ·cases he
    ·cases he
   ·cases he
 ·split at he
  ·exact ⟨oU h (.inl rfl) he,ji he⟩
  ·split at he
   ·unfold y9 at he
    split at he
    ·rename_i a ha
     split at he
     ·cases he
     ·cases he;exact ⟨GP h ha (.inr (.inr rfl)),by simp⟩
    ·cases he
   ·split at he
    ·exact ⟨oU h (.inl rfl) he,ji he⟩
    ·unfold za at he
     cases hm:gH x.qT.toNat 0 1 ls with
     | inr e=>rw [hm] at he;cases he
     | inl l2 =>
      rw [hm] at he
      simp only at he
      exact ⟨oU (oU h (.inr (.inl rfl)) hm) (.inl rfl) he,(ji he).trans (ji hm)⟩
theorem zb {c:ay} (hg:Good c) {day:Int} {ls ls':List Acc} (h:Inv c day ls) {x:Ev} (he:fF c day ls x=.inl ls'):Inv c x.day ls'∧day≤x.day:=by
 unfold fF at he
 split at he
 ·cases he
 ·split at he
  ·cases he
  ·split at he
   ·cases he
   ·rename_i h3
    have b3:=cC (Bool.not_eq_true _ ▸ h3)
    have ht:=B4 hg h b3.1 b3.2
    obtain ⟨q1,q2⟩:=JP ht.ok he
    exact ⟨⟨q2.trans ht.len,q1,ht.day⟩,b3.1⟩
def bN (c:ay) (D:Int):Nat→Int→List Acc→List Ev→(Nat × Int) ⊕ (Int × List Acc)
 | _,d,ls,[]=>.inr (d,ls)
 | i,d,ls,x :: l=>if x.day≤D then match fF c d ls x with
   | .inl ls'=>bN c D (i+1) x.day ls' l
   | .inr e=>.inl (i,e)
  else bN c D (i+1) d ls l
theorem B7 (c:ay) (D:Int) (i:Nat) (d:Int) (ls:List Acc):bN c D i d ls []=.inr (d,ls):=rfl
theorem bR (c:ay) (D:Int) (i:Nat) (d:Int) (ls:List Acc) (x:Ev) (l:List Ev):bN c D i d ls (x :: l)=if x.day≤D then match fF c d ls x with
  | .inl ls'=>bN c D (i+1) x.day ls' l
  | .inr e=>.inl (i,e)
 else bN c D (i+1) d ls l:=rfl
theorem oV {c:ay} (hg:Good c) {D:Int}:∀ {l:List Ev} {i:Nat} {d:Int} {ls:List Acc} {d':Int} {ls':List Acc},Inv c d ls→bN c D i d ls l=.inr (d',ls')→Inv c d' ls'∧d≤d'
 | [],i,d,ls,d',ls',h,e=>by cases e;exact ⟨h,Int.le_refl _⟩
 | x :: l,i,d,ls,d',ls',h,e=>by
  rw [bR] at e
  split at e
  ·cases he:fF c d ls x with
   | inr q=>rw [he] at e;cases e
   | inl l2 =>
    rw [he] at e
    simp only at e
    obtain ⟨h1,h2⟩:=zb hg h he
    obtain ⟨h3,h4⟩:=oV hg h1 e
    exact ⟨h3,by omega⟩
  ·exact oV hg h e
end Go.Proofs.YtlpmfgmldmdggaaGreat
open Go Go.RM
namespace Go.Proofs.YtlpmfgmldmdggaaGreat
set_option maxRecDepth 100000
set_option maxHeartbeats 4000000
abbrev I0:AB:=.cells [ah 0] 0 0
theorem GQ {b0 b1:AB} {R:List AB} {av:bw} {Q:List AB→bw→Prop} {z:AV} (h:Q (b0 :: b1 :: .cells [z] 0 0 :: R) av):Aq TT (.fn 104 [] [.ptr 2 0 0]) none (b0 :: b1 :: .cells [z] 0 0 :: R) av Q:=by
 refine ⟨104,Tryz.f104,_,[],[.ptr 2 0 0],rfl,rfl,rfl,rfl,?_⟩
 refine gT.seq ?_
 refine gT.ops (mu:=fun _=>false) ?_
 refine ⟨rfl,?_⟩
 show gT _ _ _ _ _
 refine gT.seq ?_
 refine gT.ops (mu:=fun _=>false) ?_
 refine ⟨rfl,?_⟩
 show cv _=_∧_
 refine ⟨rfl,?_⟩
 refine ⟨.nilIface,.nilIface,rfl,rfl,.bool false,rfl,rfl,?_⟩
 show gT _ _ _ _ _
 refine gT.cond (t:=false) rfl (fun h=>Bool.noConfusion h) (fun _=>?_)
 exact gT.skip ⟨.inl rfl,rfl,h⟩
theorem IA (e:Int) (x y:Operand):lT TT.P .neq 20 x y (.iface 27 (.int .i64 e)) .nilIface=some (.bool true,.none):=by
 rfl
theorem JQ (e:Int):cU (au TT.P (Instr.typeAssert (.iface 27 (.int .i64 e)) 20 27 false))=some (.int .i64 e,.none):=by
 rfl
theorem GR {b0 b1:AB} {R:List AB} {av:bw} {Q:List AB→bw→Prop} {z:AV} {e:Int} (h:Q (b0 :: b1 :: .cells [ah e] 0 0 :: R) av):Aq TT (.fn 104 [] [.ptr 2 0 0]) (some (ER e)) (b0 :: b1 :: .cells [z] 0 0 :: R) av Q:=by
 refine ⟨104,Tryz.f104,_,[],[.ptr 2 0 0],rfl,rfl,rfl,rfl,?_⟩
 refine gT.seq ?_
 refine gT.ops (mu:=fun _=>false) ?_
 refine ⟨rfl,?_⟩
 show gT _ _ _ _ _
 refine gT.seq ?_
 refine gT.ops (mu:=fun _=>false) ?_
 refine ⟨rfl,?_⟩
 show cv _=_∧_
 refine ⟨rfl,?_⟩
 refine ⟨.iface 27 (.int .i64 e),.nilIface,rfl,rfl,.bool true,IA e _ _,rfl,?_⟩
 show gT _ _ _ _ _
 refine gT.cond (t:=true) rfl (fun _=>?_) (fun h=>Bool.noConfusion h)
 refine gT.ops (mu:=fun _=>false) ?_
 refine ⟨rfl,?_⟩
 show cv _=_∧_
 refine ⟨rfl,?_⟩
 refine ⟨.iface 27 (.int .i64 e),rfl,.int .i64 e,JQ e,rfl,?_⟩
 show cv _=_∧_
 refine ⟨rfl,?_⟩
 repeat' (first |refine u1 ?_ |refine u2 ?_ |fail)
 exact ⟨.inl rfl,rfl,h⟩
theorem GS {rs:List ResultVar} {Q:AV→List AB→bw→Prop} {st:aR} {F:AV} (h:Aq TT F none st.hp st.av fun hp' amb'=>ij TT ⟨st.fr,hp',amb',st.rd,st.fl⟩ rs fun vs=>Q (l6 vs) hp' amb'):Im TT rs Q (.e .ret) st F:=h
theorem GU {rs:List ResultVar} {Q:AV→List AB→bw→Prop} {st:aR} {F a:AV} (h:Aq TT F (some a) st.hp st.av fun hp' amb'=>ij TT ⟨st.fr,hp',amb',st.rd,st.fl⟩ rs fun vs=>Q (l6 vs) hp' amb'):Im TT rs Q (.eK a) st F:=h
def LD (c:ay) (v n cc:Nat) (av:bw) (r:(Nat × Int) ⊕ (Int × List Acc)) (a:AV) (hp':List AB) (amb':bw):Prop :=
 amb'=av∧match r with
  | .inl p=>a=.tp [ah (p.1:Int),ah p.2]∧∃ b0 b1,(AB.ig 2 b0=true∧AB.ig 2 b1=true)∧∃ R,hp'=b0 :: b1 :: R
  | .inr q=>a=.tp [ah 0,ah 0]∧∃ R,hp'=eA c q.1 v n cc :: fo q.2 v :: R
def Lo (c:ay) (v n cc:Nat) (av:bw) (r:(Nat × Int) ⊕ (Int × List Acc)) (a:AV) (hp':List AB) (amb':bw):Prop :=
 amb'=av∧match r with
  | .inl p=>a=.tp [ah (p.1:Int),ah p.2]∧∃ b0 b1,(AB.ig 2 b0=true∧AB.ig 2 b1=true)∧hp'=[b0,b1]
  | .inr q=>a=.tp [ah 0,ah 0]∧hp'=[eA c q.1 v n cc,fo q.2 v]
theorem JR (c:ay) (d:Int) (v n cc:Nat) (ls:List Acc):([eA c d v n cc,fo ls v,I0]:List AB).all (AB.ig 3)=true:=by
 simp only [List.all_cons,List.all_nil,Bool.and_true,Bool.and_eq_true]
 exact ⟨dB _ _ _ _ _ _ (by decide),cg _ _ _,rfl⟩
theorem Fe (one:Bool) {c:ay} (hg:Good c) {d:Int} {ls:List Acc} (hi:Inv c d ls) {v n cc:Nat} (hn:ls.length=n) (l:List Ev) (f:Bool) (hl:l.length≤20) (D:Int) {av:bw} :
  ai TT TB one (.fn 61 [] []) [.ptr 0 0 0,.sl (l.map cZ) f,ah D] [eA c d v n cc,fo ls v] av (LD c v n cc av (bN c D 0 d ls l)):=by
 have el:((l.map cZ).length:Int)=l.length:=by simp
 obtain ⟨ln,hln⟩:∃ ln:Int,ln=l.length:=⟨_,rfl⟩
 refine ai.KQ (fn:=Tryz.f61) rfl rfl rfl rfl ?_
 refine B5.Ln (by rfl) ?_
 refine aa (mu:=fun _=>false) ?_
 repeat' (first |refine u1 ?_ |refine u2 ?_ |fail)
 refine B5.defer (mu:=fun _=>false) (by rfl) ?_
 repeat' (first |refine u1 ?_ |refine u2 ?_ |fail)
 refine ak.seq ?_
 refine ak.seq ?_
 refine ak.ops bI (mu:=fun _=>false) ?_
 repeat' (first |refine u1 ?_ |refine u2 ?_ |fail)
 refine bz ?_
 refine ak.bx (aj.to (l:=[(0,.ptr 0 0 0),(2,ah D),(7,.ptr 2 0 0),(11,.sl (l.map cZ) f),(12,ah ln),(13,ah (0:Nat))]) (hp:=[eA c d v n cc,fo ls v,I0]) 3 rfl ⟨rfl,rfl,rfl,rfl,cK (by rw [hln];exact el),rfl,trivial⟩ (Nat.le_refl _) rfl (JR _ _ _ _ _ _)) ?_
 refine ak.block ?_
 refine ak.fuel (n:=20+l.length+1) (by omega) ?_
 refine ak.loop (n:=20) (fun x:Nat × Int × List Acc=>x.1≤l.length∧Inv c x.2.1 x.2.2∧bN c D 0 d ls l=bN c D x.1 x.2.1 x.2.2 (l.drop x.1)) (fun x=>⟨bM [(0,.ptr 0 0 0),(2,ah D),(7,.ptr 2 0 0),(11,.sl (l.map cZ) f),(12,ah ln),(13,ah (x.1:Nat))],[eA c x.2.1 v n cc,fo x.2.2 v,I0],av,false,3⟩) (fun x=>l.length - x.1) ?_ (0,d,ls) ⟨Nat.zero_le _,hi,by rw [List.drop_zero]⟩
 rintro ⟨k,dk,lk⟩ ⟨hk,hik,hrk⟩
 dsimp only at hk hik hrk
 dsimp only
 have hnk:lk.length=n:=hik.len.trans (hi.len.symm.trans hn)
 refine ak.seq ?_
 by_cases hlt:k < l.length
 ·have d1:decide ((k:Int) < ln)=true:=decide_eq_true (by omega)
  have hat:(l.map cZ)[((k:Nat):Int).toNat]?=some (cZ l[k]):=bG hlt
  rw [List.drop_eq_getElem_cons hlt,bR] at hrk
  have hev:=Iz one 6 hg hik (v:=v) (cc:=cc) hnk (xa:=I0) (xb:=.cells (cZ l[k]) 0 0) rfl rfl (av:=av) l[k]
  generalize l[k]=x at *
  obtain ⟨xd,xk,xm,xo⟩:=x
  dsimp only at hrk hev
  refine ak.ops bI (mu:=fun _=>false) ?_
  repeat' (first |refine u1 ?_ |refine u2 ?_ |fail)
  refine bz ?_
  refine ak.seq ?_
  refine ak.flat bI (by kernel_rfl) ?_
  refine aa (mu:=fun _=>false) ?_
  repeat' (first |refine u1 ?_ |refine u2 ?_ |fail)
  refine ak.seq ?_
  refine ak.block ?_
  cases hd:decide (xd≤D) with
  | true =>
   rw [if_pos (of_decide_eq_true hd)] at hrk
   refine ak.seq ?_
   refine ak.ops bI (mu:=fun _=>false) ?_
   repeat' (first |refine u1 ?_ |(refine ⟨[ah xd,ah xk,ah xm,ah xo],⟨by omega,hat⟩,rfl,?_⟩) |refine u2 ?_ |fail)
   refine bz ?_
   refine ak.seq ?_
   refine ak.ops bI (mu:=fun _=>false) ?_
   repeat' (first |refine u1 ?_ |refine u2 ?_ |fail)
   refine bz ?_
   refine ak.seq ?_
   refine ak.ops bI (mu:=fun _=>false) ?_
   repeat' (first |refine u1 ?_ |refine u2 ?_ |fail)
   refine bz ?_
   refine ak.cond (t:=true) (by rw [←hd];rfl) (fun _=>?_) (fun h=>Bool.noConfusion h)
   refine ak.ku bI (A:=[_,_]) (mu:=fun _=>false) rfl ?_
   repeat' (first |refine u1 ?_ |refine u2 ?_ |fail)
   refine ⟨_,hev.fuel (by decide),?_,?_⟩
   ·intro a hp' amb' h
    obtain ⟨ls',h1,rfl,rfl,rfl⟩:=h.ret
    rw [h1] at hrk
    simp only at hrk
    have hi2:=(zb hg hik h1).1
    show ak _ _ _ _ _ _ _
    refine ak.ops bI (mu:=fun _=>false) ?_
    repeat' (first |refine u1 ?_ |refine u2 ?_ |fail)
    exact ⟨(k+1,xd,ls'),⟨hlt,hi2,hrk⟩,(by dsimp only;omega),aj.to 3 rfl ⟨rfl,rfl,rfl,rfl,rfl,cK (by simp),trivial⟩ (Nat.le_refl _) rfl (JR _ _ _ _ _ _)⟩
   ·intro a hp' amb' h
    obtain ⟨e,b0,b1,hbb,h1,rfl,rfl,rfl⟩:=h.eK
    rw [h1] at hrk
    simp only at hrk
    rw [hrk]
    show Im TT Tryz.f61.results.toList (LD c v n cc _ (.inl (k,e))) (.eK (ER e)) _ (.fn 104 [] [.ptr 2 0 0])
    refine GU ?_
    refine GR ?_
    exact ⟨_,_,rfl,_,rfl,rfl,rfl,_,_,hbb,_,rfl⟩
  | false =>
   rw [if_neg (of_decide_eq_false hd)] at hrk
   refine ak.seq ?_
   refine ak.ops bI (mu:=fun _=>false) ?_
   repeat' (first |refine u1 ?_ |(refine ⟨[ah xd,ah xk,ah xm,ah xo],⟨by omega,hat⟩,rfl,?_⟩) |refine u2 ?_ |fail)
   refine bz ?_
   refine ak.seq ?_
   refine ak.ops bI (mu:=fun _=>false) ?_
   repeat' (first |refine u1 ?_ |refine u2 ?_ |fail)
   refine bz ?_
   refine ak.seq ?_
   refine ak.ops bI (mu:=fun _=>false) ?_
   repeat' (first |refine u1 ?_ |refine u2 ?_ |fail)
   refine bz ?_
   refine ak.cond (t:=false) (by rw [←hd];rfl) (fun h=>Bool.noConfusion h) (fun _=>?_)
   refine ak.here (fun _ _ _=>rfl) ?_
   show ak _ _ _ _ _ _ _
   refine ak.ops bI (mu:=fun _=>false) ?_
   repeat' (first |refine u1 ?_ |refine u2 ?_ |fail)
   exact ⟨(k+1,dk,lk),⟨hlt,hik,hrk⟩,(by dsimp only;omega),aj.to 3 rfl ⟨rfl,rfl,rfl,rfl,rfl,cK (by simp),trivial⟩ (Nat.le_refl _) rfl (JR _ _ _ _ _ _)⟩
 ·have d1:decide ((k:Int) < ln)=false:=decide_eq_false (by omega)
  rw [List.drop_eq_nil_of_le (by omega),B7] at hrk
  rw [hrk]
  refine ak.ops bI (mu:=fun _=>false) ?_
  repeat' (first |refine u1 ?_ |refine u2 ?_ |fail)
  refine bz ?_
  refine ak.seq ?_
  refine ak.flat bI (by kernel_rfl) ?_
  refine aa (mu:=fun _=>false) ?_
  repeat' (first |refine u1 ?_ |refine u2 ?_ |fail)
  show ak _ _ _ _ _ _ _
  refine ak.seq ?_
  refine ak.ops bI (mu:=fun _=>false) ?_
  repeat' (first |refine u1 ?_ |refine u2 ?_ |fail)
  refine bz ?_
  refine ak.here (fun _ _ _=>rfl) ?_
  refine GS ?_
  refine GQ ?_
  exact ⟨_,_,rfl,_,rfl,rfl,rfl,_,rfl⟩
theorem B8 (one:Bool) {c:ay} (hg:Good c) {d:Int} {ls:List Acc} (hi:Inv c d ls) {v n cc:Nat} (hn:ls.length=n) (l:List Ev) (f:Bool) (hl:l.length≤20) (D:Int) {av:bw} :
  ai TT TB one (.fn 61 [] []) [.ptr 0 0 0,.sl (l.map cZ) f,ah D] [eA c d v n cc,fo ls v] av (Lo c v n cc av (bN c D 0 d ls l)):=by
 refine ((Fe one hg hi hn l f hl D (v:=v) (cc:=cc) (av:=av)).cut ?_).mono ?_
 ·intro a hp' amb' h
  obtain ⟨rfl,h⟩:=h
  cases hr:bN c D 0 d ls l with
  | inl p =>
   rw [hr] at h
   obtain ⟨rfl,b0,b1,hbb,R,rfl⟩:=h
   refine ⟨rfl,?_⟩
   show (AB.ig 2 b0 && (AB.ig 2 b1 && true))=true
   rw [hbb.1,hbb.2]
   rfl
  | inr q =>
   rw [hr] at h
   obtain ⟨rfl,R,rfl⟩:=h
   refine ⟨rfl,?_⟩
   show (AB.ig 2 (eA c q.1 v n cc) && (AB.ig 2 (fo q.2 v) && true))=true
   rw [dB _ _ _ _ _ _ (by decide),cg]
   rfl
 ·rintro a hp2 amb' ⟨hp',rfl,rfl,h⟩
  refine ⟨rfl,?_⟩
  cases hr:bN c D 0 d ls l with
  | inl p =>
   rw [hr] at h
   obtain ⟨rfl,b0,b1,hbb,R,rfl⟩:=h
   exact ⟨rfl,b0,b1,hbb,rfl⟩
  | inr q =>
   rw [hr] at h
   obtain ⟨rfl,R,rfl⟩:=h
   exact ⟨rfl,rfl⟩
end Go.Proofs.YtlpmfgmldmdggaaGreat
