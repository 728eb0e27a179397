/-
  Contracts of the program's functions and of the document's. Lemmas alone; their conditions stand in them.
-/
import Derived.Test.YtkappgolfkiaeaaGreatDoorK9
import Derived.Test.YtkappgolfkiaeaaGreatDoorTie
import Derived.Test.YtkappgolfkiaeaaGreatDoorCards
import Derived.LaidMore
import Derived.Lay
import Derived.Lib.LaidTab
import Derived.SevenTiedAt
import Derived.Stop.Joined
open Go Go.RM
namespace Go.Proofs.YtkappgolfkiaeaaGreatDoor
set_option maxRecDepth 100000
set_option maxHeartbeats 4000000
theorem Nv (one:Bool) (s:aC) (orders:Nat) (ho:orders≤8) (raw:Nat) :
  Pu one 12 [.ag (aH s),av (orders:Nat),U8 raw] (.sl (ints (kT s.row s.fail raw orders)) false):=by
 refine af.body (fn:=Tryz.f12) rfl rfl rfl rfl ?_;refine aa (mu:=fun t=>Nat.beq t 36) ?_;repeat' first|refine u1 ?_|refine u2 ?_|fail
 refine aE.aS (ai.trans (ai.tO 1) (ai.RF (l:=[(1,av (orders:Nat)),(2,U8 raw),(3,.pt (aH s) 0),(7,.dw 0 0 0 ([]:List Int).length 0),(8,av 0),(9,av (0:Nat))]) (hp:=[.cells (iW ([]:List Int)) 1 0]) 1 rfl ⟨fJ.refl _,fJ.refl _,fJ.refl _,fJ.tN,fJ.refl _,fJ.refl _,trivial⟩ (qq5 _) rfl (js _ _))) ?_;refine aE.loop (fun x:Nat × Nat × Nat=>x.1≤orders∧(x.2.2=(kT s.row s.fail raw x.1).length∨x.2.2=(kT s.row s.fail raw x.1).length+1)) (fun x=>⟨bA [(1,av (orders:Nat)),(2,U8 raw),(3,.pt (aH s) 0),(7,.dw 0 x.2.1 0 (kT s.row s.fail raw x.1).length x.2.2),(8,av (cV s.row s.fail raw x.1).2),(9,av (x.1:Nat))],[.cells (iW (kT s.row s.fail raw x.1)) 1 x.2.1],cz.none,false,0⟩) (fun x=>orders - x.1) ?_ (0,0,0) ⟨qq5 _,.inl rfl⟩;rintro ⟨k,aF,c⟩ ⟨hk,hcap⟩;dsimp only at hk hcap;have hb:=Bh (R:=s.row) (most:=s.fail) (raw:=raw) k;have hs1:cV s.row s.fail raw (k+1)=if raw.testBit k=true∧((cV s.row s.fail raw k).1.length:Int) < s.fail∧(cV s.row s.fail raw k).2 < s.row then ((cV s.row s.fail raw k).1++[((k:Nat):Int)],(cV s.row s.fail raw k).2+1) else ((cV s.row s.fail raw k).1,0):=rfl;unfold kT at hcap ⊢;have hlst:k=orders→(cV s.row s.fail raw k).1=(cV s.row s.fail raw orders).1:=fun e=>by rw [e]
 generalize (cV s.row s.fail raw orders).1=gM at *
 generalize hl:cV s.row s.fail raw k=st at *
 obtain ⟨l,n⟩:=st;dsimp only at hb hcap hs1 hlst;have hgl:(iW l).length=l.length:=by rw [List.length_map]
 show aE _ _ _ _ ⟨bA [(1,av (orders:Nat)),(2,U8 raw),(3,.pt (aH s) 0),(7,.dw 0 aF 0 l.length c),(8,av n),(9,av (k:Nat))],[.cells (iW l) 1 aF],cz.none,false,0⟩ _;refine aa (mu:=fun t=>Nat.beq t 36) ?_;by_cases hlt:k < orders
 ·have d1:decide ((k:Int) < (orders:Nat))=true:=decide_eq_true (by omega);have hk8:k < 8:=by omega
  have hbit:raw / 2 ^ k % 2=if raw.testBit k=true then 1 else 0:=by
   rw [Nat.testBit_eq_decide_div_mod_eq];have:=Nat.mod_two_eq_zero_or_one (raw / 2 ^ k)
   rcases this with e|e <;> rw [e] <;> simp
  cases hbt:raw.testBit k with
  | false =>
   rw [hbt,if_neg (by simp)] at hbit;rw [hbt,if_neg (by simp)] at hs1;have d2:decide (((raw / 2 ^ k % 2:Nat):Int)=1)=false:=decide_eq_false (by rw [hbit];decide);repeat' first|(refine uL rfl rfl hk8 ?_)|(refine uM rfl rfl ?_)|(refine EJ rfl rfl ?_)|refine u1 ?_|refine u2 ?_|fail
   exact ⟨(k+1,aF,c),⟨hlt,by dsimp only;rw [hs1];exact hcap⟩,(by dsimp only;omega),ai.to 1 (by dsimp only;rw [hs1];rfl) ⟨rfl,rfl,rfl,(by rw [hs1];rfl),(by rw [hs1];rfl),aJ (by simp),trivial⟩ (qq5 _) rfl (js _ _)⟩
  | true =>
   rw [hbt,if_pos rfl] at hbit;rw [hbt] at hs1;have d2:decide (((raw / 2 ^ k % 2:Nat):Int)=1)=true:=decide_eq_true (by rw [hbit];decide);by_cases hm:(l.length:Int) < s.fail
   ·have d3:=decide_eq_true hm;by_cases hr:n < s.row
    ·have d4:=decide_eq_true hr;rw [if_pos ⟨rfl,hm,hr⟩] at hs1;repeat' first|(refine uL rfl rfl hk8 ?_)|(refine uM rfl rfl ?_)|(refine EJ rfl rfl ?_)|((with_reducible show RM.wpOp _ _ (.call _) _ _ _);refine RM.G2 (cs:=iW l) (n:=l.length) (els:=[eI (k:Nat)]) rfl rfl rfl rfl rfl (fun el hel=>by rw [List.mem_singleton.1 hel];rfl) rfl rfl (by rw [hgl];exact (Nat.mul_one _).symm) hcap (by simp only [List.length_singleton];omega) (fun v' c' hc'=>?_))|refine u1 ?_|refine u2 ?_|fail
     exact ⟨(k+1,v',c'),⟨hlt,by dsimp only;rw [hs1];dsimp only;rw [List.length_append];exact hc'⟩,(by dsimp only;omega),ai.to 1 (by dsimp only;rw [hs1];unfold iW;rw [List.map_append];rfl) ⟨rfl,rfl,rfl,(by rw [hs1];dsimp only;rw [List.length_append];rfl),(by rw [hs1];rfl),aJ (by simp),trivial⟩ (qq5 _) rfl (js _ _)⟩
    ·have d4:=decide_eq_false hr;rw [if_neg (fun h=>hr h.2.2)] at hs1;repeat' first|(refine uL rfl rfl hk8 ?_)|(refine uM rfl rfl ?_)|(refine EJ rfl rfl ?_)|refine u1 ?_|refine u2 ?_|fail
     exact ⟨(k+1,aF,c),⟨hlt,by dsimp only;rw [hs1];exact hcap⟩,(by dsimp only;omega),ai.to 1 (by dsimp only;rw [hs1];rfl) ⟨rfl,rfl,rfl,(by rw [hs1];rfl),(by rw [hs1];rfl),aJ (by simp),trivial⟩ (qq5 _) rfl (js _ _)⟩
   ·have d3:=decide_eq_false hm;rw [if_neg (fun h=>hm h.2.1)] at hs1;repeat' first|(refine uL rfl rfl hk8 ?_)|(refine uM rfl rfl ?_)|(refine EJ rfl rfl ?_)|refine u1 ?_|refine u2 ?_|fail
    exact ⟨(k+1,aF,c),⟨hlt,by dsimp only;rw [hs1];exact hcap⟩,(by dsimp only;omega),ai.to 1 (by dsimp only;rw [hs1];rfl) ⟨rfl,rfl,rfl,(by rw [hs1];rfl),(by rw [hs1];rfl),aJ (by simp),trivial⟩ (qq5 _) rfl (js _ _)⟩
 ·have d1:decide ((k:Int) < (orders:Nat))=false:=decide_eq_false (by omega);have he:=hlst (by omega);subst he;repeat' first|refine u1 ?_|refine u2 ?_|fail
  exact ⟨[_],⟨Fz.row (es:=1) rfl (by rw [List.length_map];omega) (by rw [List.length_map]) (fun el hel=>by obtain ⟨x,_,rfl⟩:=List.mem_map.1 hel;rfl) (by rw [kq,List.drop_zero,List.take_of_length_le (by rw [List.length_map];omega)]) (by rw [kq];exact tU _) (fun h=>Bool.noConfusion h),trivial⟩,rfl⟩
theorem Nw (L:List Order) (C:List Int) (v w:Nat):w4 1 0 ([.cells (vg L) 2 v,.cells (iW C) 1 w]:List AB)=true:=by show ((false || wY 1 (vg L)) && ((true || wY 1 (iW C)) && true))=true;rw [F5];rfl
theorem sM (C:List Int):(0:Nat)+C.length * 1≤(iW C).length∧(ints C).length=C.length∧(∀ el ∈ ints C,el.length=1)∧(ints C).flatten=((iW C).drop 0).take (C.length * 1) :=
 ⟨by rw [List.length_map];omega,by simp,fun el hel=>by obtain ⟨o,_,rfl⟩:=List.mem_map.1 hel;rfl,by rw [List.drop_zero,List.take_of_length_le (by rw [List.length_map];omega),kq]⟩
theorem vq (L:List Order):(0:Nat)+L.length * 2≤(vg L).length∧(L.map aL).length=L.length∧(∀ el ∈ L.map aL,el.length=2)∧(L.map aL).flatten=((vg L).drop 0).take (L.length * 2) :=
 ⟨by rw [vp];omega,by simp,fun el hel=>by obtain ⟨o,_,rfl⟩:=List.mem_map.1 hel;rfl,by rw [List.drop_zero,List.take_of_length_le (by rw [vp];exact qq6 _)];rfl⟩
abbrev EO (xs:List Nat):List AV:=xs.map U8
theorem Qg {xs:List Nat} {i:Nat} (h:i < xs.length):(EO xs)[0+((i:Nat):Int).toNat * 1]?=some (U8 xs[i]):=by rw [Int.toNat_natCast,Nat.zero_add,Nat.mul_one,List.getElem?_map,List.getElem?_eq_getElem h];rfl
theorem Sd {s:aC} {n:Nat} (h:n < s.needs.length):s.needs[n].weight=Eu s (n:Nat):=by unfold Eu;rw [Int.toNat_natCast,List.getElem?_eq_getElem h]
theorem JL (one:Bool) {s:aC} (hg:Good s) (xs:List Nat) (hx6:xs.length=6):Pu one 11 [.ag (aH s),.ag (EO xs)] (.sl ((fX s xs).map aL) false):=by
 have hm6:=hg.many;have hn3:=hg.len;have hld:=hg.load;have eg:((s.needs.map aU).length:Int)=s.needs.length:=by simp
 have es:((ints s.possible).length:Int)=s.possible.length:=by simp
 have hx1:(AV.ag (EO xs)).cells.all AV.one=true:=by show (xs.map U8).all AV.one=true;rw [List.all_map,List.all_eq_true];intro x _;rfl
 have hdx:bG (AV.ag (EO xs)).cells=true:=kn (fun _=>rfl) xs;refine af.body (fn:=Tryz.f11) rfl rfl rfl rfl ?_;refine qq2 ?_;repeat' first|(refine RM.Uu rfl rfl hx1 hdx ?_)|refine u1 ?_|refine u2 ?_|fail
 refine qq2 ?_;repeat' first|refine u1 ?_|refine u2 ?_|fail
 refine aE.seq ?_;refine qq2 ?_;repeat' first|refine u1 ?_|refine u2 ?_|fail
 refine aE.block ?_;refine aE.aS (ai.trans (ai.tO 2) (ai.RF (l:=[(2,.pt (aH s) 0),(3,.pt (EO xs) 0),(5,.dw 0 0 0 (([]:List Order)).length 0),(6,av (0:Nat))]) (hp:=[.cells (vg ([]:List Order)) 2 0]) 1 rfl ⟨fJ.refl _,fJ.refl _,fJ.tN,fJ.refl _,trivial⟩ (qq5 _) rfl rfl)) ?_;refine aE.loop (fun x:Nat × Nat × Nat=>x.1≤s.possible.length∧(x.2.2=(fW s xs x.1).length∨x.2.2=(fW s xs x.1).length+1)) (fun x=>⟨bA [(2,.pt (aH s) 0),(3,.pt (EO xs) 0),(5,.dw 0 x.2.1 0 ((fW s xs x.1)).length x.2.2),(6,av (x.1:Nat))],[.cells (vg (fW s xs x.1)) 2 x.2.1],cz.none,false,0⟩) (fun x=>s.possible.length - x.1) ?_ (0,0,0) ⟨qq5 _,.inl rfl⟩;rintro ⟨i,aF,c⟩ ⟨hi,hc⟩;dsimp only at hi hc;have hln:=tY (s:=s) (xs:=xs) i;have hend:i=s.possible.length→fX s xs=fW s xs i:=fun e=>by rw [e];rfl
 have hsc:=fun h1 h2=>xw (s:=s) (xs:=xs) (i:=i) h1 h2;show aE _ _ _ _ ⟨bA [(2,.pt (aH s) 0),(3,.pt (EO xs) 0),(5,.dw 0 aF 0 ((fW s xs i)).length c),(6,av (i:Nat))],[.cells (vg (fW s xs i)) 2 aF],cz.none,false,0⟩ _
 generalize fW s xs i=L at *
 by_cases hlt:i < s.possible.length
 ·have d1:decide ((i:Int) < ((ints s.possible).length:Int))=true:=decide_eq_true (by omega);have hix:i < xs.length:=by omega
  have hs1:=hsc hlt hix;refine qq2 ?_;repeat' first|refine u1 ?_|refine u2 ?_|fail
  refine aE.seq ?_;refine aE.block ?_;refine qq2 ?_;repeat' first|refine u1 ?_|refine u2 ?_|fail
  refine qq2 ?_;repeat' first|refine u1 ?_|refine u2 ?_|fail
  refine RM.cutAt (st':=⟨bA [(2,.pt (aH s) 0),(3,.pt (EO xs) 0),(5,.dw 0 aF 0 (L).length c),(6,av (i:Nat)),(7,.sl (ints (cZ s xs[i] s.needs.length).1) false)],[.cells (vg L) 2 aF],cz.none,false,0⟩) ?_ ?_
  ·refine qq2 ?_;repeat' first|refine u1 ?_|refine u2 ?_|fail
   refine aE.block ?_;refine aE.aS (ai.trans (ai.tO 1) (ai.RF (l:=[(2,.pt (aH s) 0),(3,.pt (EO xs) 0),(5,.dw 0 aF 0 (L).length c),(6,av (i:Nat)),(7,.dw 1 0 0 ((cZ s xs[i] 0).1).length 0),(8,av (cZ s xs[i] 0).2),(9,av (0:Nat))]) (hp:=[.cells (vg L) 2 aF,.cells (iW (cZ s xs[i] 0).1) 1 0]) 2 rfl ⟨fJ.refl _,fJ.refl _,fJ.refl _,fJ.refl _,fJ.tN,fJ.refl _,fJ.refl _,trivial⟩ (qq5 _) rfl (sJ _ _ _ _))) ?_;refine aE.loop (fun x:Nat × Nat × Nat=>x.1≤s.needs.length∧(x.2.2=((cZ s xs[i] x.1).1).length∨x.2.2=((cZ s xs[i] x.1).1).length+1)) (fun x=>⟨bA [(2,.pt (aH s) 0),(3,.pt (EO xs) 0),(5,.dw 0 aF 0 (L).length c),(6,av (i:Nat)),(7,.dw 1 x.2.1 0 ((cZ s xs[i] x.1).1).length x.2.2),(8,av (cZ s xs[i] x.1).2),(9,av (x.1:Nat))],[.cells (vg L) 2 aF,.cells (iW (cZ s xs[i] x.1).1) 1 x.2.1],cz.none,false,0⟩) (fun x=>s.needs.length - x.1) ?_ (0,0,0) ⟨qq5 _,.inl rfl⟩;rintro ⟨m,v2,c2⟩ ⟨hm,hc2⟩;dsimp only at hm hc2;obtain ⟨k1,k2,k3,k4,_⟩:=sL hg xs[i] m;have hs1:=xu (s:=s) (raw:=xs[i]) (k:=m);have hC:m=s.needs.length→(cZ s xs[i] m).1=(cZ s xs[i] s.needs.length).1:=fun e=>by rw [e]
   show aE _ _ _ _ ⟨bA [(2,.pt (aH s) 0),(3,.pt (EO xs) 0),(5,.dw 0 aF 0 (L).length c),(6,av (i:Nat)),(7,.dw 1 v2 0 ((cZ s xs[i] m).1).length c2),(8,av (cZ s xs[i] m).2),(9,av (m:Nat))],[.cells (vg L) 2 aF,.cells (iW (cZ s xs[i] m).1) 1 v2],cz.none,false,0⟩ _
   generalize hp:cZ s xs[i] m=st at *
   obtain ⟨C,w⟩:=st;dsimp only at hc2 k1 k2 k3 k4 hs1 hC ⊢;have hgl:(iW C).length=C.length:=by rw [List.length_map]
   by_cases hlm:m < s.needs.length
   ·have d3:decide ((m:Int) < ((s.needs.map aU).length:Int))=true:=decide_eq_true (by omega);have hm8:m < 8:=by omega
    have hax:=Qg hix;have hat:(s.needs.map aU)[((m:Nat):Int).toNat]?=some (aU s.needs[m]):=bI hlm;have hwb:=I9 hg (m:Nat);have hww:=Sd hlm
    have hbit:xs[i] / 2 ^ m % 2=if xs[i].testBit m=true then 1 else 0:=by
     rw [Nat.testBit_eq_decide_div_mod_eq];have:=Nat.mod_two_eq_zero_or_one (xs[i] / 2 ^ m)
     rcases this with e|e <;> rw [e] <;> simp
    have hi6:(i:Int) < 6:=by omega
    clear hp hC hend hsc
    cases hbt:xs[i].testBit m with
    | false =>
     rw [hbt,if_neg (by simp)] at hbit;rw [hbt,if_neg (by simp)] at hs1;have d4:decide (((xs[i] / 2 ^ m % 2:Nat):Int)=1)=false:=decide_eq_false (by rw [hbit];decide)
     generalize xs[i]=raw at *
     refine qq1 ?_;repeat' first|((with_reducible show RM.wpOp _ _ (.load _ _) _ _ _);refine RM.TX rfl rfl hax ?_)|(refine uL rfl rfl hm8 ?_)|(refine uM rfl rfl ?_)|(refine EJ rfl rfl ?_)|refine u1 ?_|refine u2 ?_|fail
     exact ⟨(m+1,v2,c2),⟨hlm,(by dsimp only;rw [hs1];exact hc2)⟩,(by dsimp only;omega),ai.to 2 (by dsimp only;rw [hs1];rfl) ⟨rfl,rfl,rfl,rfl,(by rw [hs1];rfl),(by rw [hs1];rfl),aJ (by simp),trivial⟩ (qq5 _) rfl (sJ _ _ _ _)⟩
    | true =>
     rw [hbt,if_pos rfl] at hbit;rw [hbt] at hs1;have d4:decide (((xs[i] / 2 ^ m % 2:Nat):Int)=1)=true:=decide_eq_true (by rw [hbit];decide)
     generalize xs[i]=raw at *
     generalize s.needs[m]=g at *
     by_cases hle:w+Eu s (m:Nat)≤s.load
     ·rw [if_pos ⟨rfl,hle⟩] at hs1;rw [←hww] at hs1 hle hwb;have d5:=decide_eq_true hle;refine qq1 ?_;repeat' first|((with_reducible show RM.wpOp _ _ (.load _ _) _ _ _);refine RM.TX rfl rfl hax ?_)|(refine uL rfl rfl hm8 ?_)|(refine uM rfl rfl ?_)|(refine EJ rfl rfl ?_)|((with_reducible show RM.wpOp _ _ (.call _) _ _ _);refine RM.G2 (cs:=iW C) (n:=C.length) (els:=[eI (m:Nat)]) rfl rfl rfl rfl rfl (fun el hel=>by rw [List.mem_singleton.1 hel];rfl) rfl rfl (by rw [hgl];exact (Nat.mul_one _).symm) hc2 (by simp only [List.length_singleton];omega) (fun v' c' hc'=>?_))|refine u1 ?_|((with_reducible refine qq4 ?_);refine ⟨aU g,⟨by omega,hat⟩,rfl,?_⟩)|refine u2 ?_|fail
      exact ⟨(m+1,v',c'),⟨hlm,(by dsimp only;rw [hs1];dsimp only;rw [List.length_append];exact hc')⟩,(by dsimp only;omega),ai.to 2 (by dsimp only;rw [hs1];unfold iW;rw [List.map_append];rfl) ⟨rfl,rfl,rfl,rfl,(by rw [hs1];dsimp only;rw [List.length_append];rfl),(by rw [hs1];rfl),aJ (by simp),trivial⟩ (qq5 _) rfl (sJ _ _ _ _)⟩
     ·rw [if_neg (fun h=>hle h.2)] at hs1;rw [←hww] at hle hwb;have d5:=decide_eq_false hle;refine qq1 ?_;repeat' first|((with_reducible show RM.wpOp _ _ (.load _ _) _ _ _);refine RM.TX rfl rfl hax ?_)|(refine uL rfl rfl hm8 ?_)|(refine uM rfl rfl ?_)|(refine EJ rfl rfl ?_)|refine u1 ?_|((with_reducible refine qq4 ?_);refine ⟨aU g,⟨by omega,hat⟩,rfl,?_⟩)|refine u2 ?_|fail
      exact ⟨(m+1,v2,c2),⟨hlm,(by dsimp only;rw [hs1];exact hc2)⟩,(by dsimp only;omega),ai.to 2 (by dsimp only;rw [hs1];rfl) ⟨rfl,rfl,rfl,rfl,(by rw [hs1];rfl),(by rw [hs1];rfl),aJ (by simp),trivial⟩ (qq5 _) rfl (sJ _ _ _ _)⟩
   ·have d3:decide ((m:Int) < ((s.needs.map aU).length:Int))=false:=decide_eq_false (by omega);have hCe:=hC (by omega);rw [←hCe];refine qq1 ?_;repeat' first|refine u1 ?_|refine u2 ?_|fail
    exact .is (ai.trans (ai.giveUp 1 (l:=[(2,.pt (aH s) 0),(3,.pt (EO xs) 0),(5,.dw 0 aF 0 (L).length c),(6,av (i:Nat)),(7,.sl (ints C) false)]) (hp:=[.cells (vg L) 2 aF,.gone]) rfl (qq5 _) (tU _) ⟨.same rfl,.same rfl,.same rfl,.same rfl,.row 1 (sM _).1 (sM _).2.1 (sM _).2.2.1 (sM _).2.2.2 (fun h=>Bool.noConfusion h),trivial⟩ (Nw _ _ _ _) rfl) (ai.to 1 rfl ⟨rfl,rfl,rfl,rfl,rfl,trivial⟩ (qq5 _) rfl (xo _ _)))
  ·have hat:(ints s.possible)[((i:Nat):Int).toNat]?=some (eI s.possible[i]):=bI hlt;have k1:=(sL hg xs[i] s.needs.length).1
   generalize s.possible[i]=d at *
   generalize (cZ s xs[i] s.needs.length).1=C at *
   have ec:((ints C).length:Int)=C.length:=by simp
   by_cases he:C=[]
   ·rw [if_pos he] at hs1;have d3:decide (0 < ((ints C).length:Int))=false:=by rw [he];rfl
    refine qq1 ?_;repeat' first|refine u1 ?_|refine u2 ?_|fail
    refine qq1 ?_;repeat' first|refine u1 ?_|refine u2 ?_|fail
    exact ⟨(i+1,aF,c),⟨hlt,by dsimp only;rw [hs1];exact hc⟩,(by dsimp only;omega),ai.to 1 (by dsimp only;rw [hs1];rfl) ⟨rfl,rfl,(by rw [hs1];rfl),aJ (by simp),trivial⟩ (qq5 _) rfl (xo _ _)⟩
   ·rw [if_neg he] at hs1
    have hl:1≤C.length:=by
     cases C with
     | nil=>exact absurd rfl he
     | cons a l=>simp
    have d3:decide (0 < ((ints C).length:Int))=true:=decide_eq_true (by omega);refine qq1 ?_;repeat' first|((with_reducible show RM.wpOp _ _ (.call _) _ _ _);refine RM.G2 (cs:=vg L) (n:=L.length) (els:=[aL ⟨d,C⟩]) rfl rfl rfl rfl rfl (fun el hel=>by rw [List.mem_singleton.1 hel];rfl) rfl rfl (vp L) hc (by simp only [List.length_singleton];omega) (fun v' c' hc'=>?_))|refine u1 ?_|((with_reducible refine qq4 ?_);refine ⟨eI d,⟨by omega,hat⟩,rfl,?_⟩)|refine u2 ?_|fail
    refine qq1 ?_;repeat' first|refine u1 ?_|refine u2 ?_|fail
    exact ⟨(i+1,v',c'),⟨hlt,by dsimp only;rw [hs1,List.length_append];exact hc'⟩,(by dsimp only;omega),ai.to 1 (by dsimp only;rw [hs1,←JA];rfl) ⟨rfl,rfl,(by rw [hs1,List.length_append];rfl),aJ (by simp),trivial⟩ (qq5 _) rfl (xo _ _)⟩
 ·have d1:decide ((i:Int) < ((ints s.possible).length:Int))=false:=decide_eq_false (by omega);have he:=hend (by omega);rw [he];refine qq1 ?_;repeat' first|refine u1 ?_|refine u2 ?_|fail
  refine qq1 ?_;repeat' first|refine u1 ?_|refine u2 ?_|fail
  exact ⟨[_],⟨Fz.row (es:=2) rfl (vq _).1 (vq _).2.1 (vq _).2.2.1 (vq _).2.2.2 (C9 _) (fun h=>Bool.noConfusion h),trivial⟩,rfl⟩
theorem JM (s:aC) (hs:s.Ok):∃ p i e:Int,(∀ one,Pu one 5 [.ag (aH s)] (.tp [av p,av i,av e]))∧(e=0→(1≤s.needs.length∧s.needs.length≤3) ∧
  ∀ n:Nat,n≤60→∀ (o:List Nat) (raw:Nat),o.length=6→∃ (P:List Order) (F:List Int) (A:AV) (b c g d x h:Int),(P.length≤6∧F.length≤6)∧A.deep=true ∧
   (∀ y ∈ P,y.bl.length≤3) ∧
   Pu false 11 [.ag (aH (bK s n)),.ag (EO o)] (.sl (P.map aL) false) ∧
   Pu false 12 [.ag (aH (bK s n)),av (P.length:Nat),U8 raw] (.sl (ints F) false) ∧
   Pu false 13 [.ag (aH (bK s n)),.sl (P.map aL) false] (.tp [A,av b,av c,av g]) ∧
   Pu false 14 [.ag (aH (bK s n)),.sl (P.map aL) false,.sl (ints F) false] (.tp [av d,av x,av h]) ∧
   (g=0∨g=4)∧(h=0∨h=4)∧(g=4→h=4)∧((n:Int) < oQ F s.days 0 P→h=0∧d≤n∧0≤x)):=by
 refine ⟨(gv s).1,(gv s).2.1,(gv s).2.2,fun one=>xb one s hs,fun he=>?_⟩;have hg0:=tS he;refine ⟨hg0.len,fun n hn o raw ho=>?_⟩;have hc:=Hw (n:=(n:Int)) he ⟨by omega,by omega⟩;have hg:=tS hc;have hok:=JH hs (n:Int);have hf:=Hx hg0 (n:Int);obtain ⟨hpv,hp6,_⟩:=Dd hc o;have hpg:=mK hpv
 have hpo:RS (fX (bK s n) o):=⟨by simp only [maxLen];omega,fun y hy=>by
  have h1:=(hpg.order y hy).len;have h2:=hg.len;simp only [maxLen]
  omega⟩
 obtain ⟨A,b,c,g,d,x,h,h1,h2,h3,h4,h5,h6,h7⟩:=JK hc hf o raw;have hfl:=(Bh (R:=s.row) (most:=s.fail) (raw:=raw) (fX (bK s n) o).length).1;refine ⟨fX (bK s n) o,kT s.row s.fail raw (fX (bK s n) o).length,A,b,c,g,d,x,h,⟨hp6,Nat.le_trans hfl hp6⟩,h2,fun y hy=>?_,JL false hg o ho,Nv false (bK s n) _ (by omega) raw,?_,?_,h3,h5,h6,h7⟩
 ·have h8:=(hpg.order y hy).len;have h9:=hg.len;omega
 ·have:=EI false (bK s n) hok (fX (bK s n) o) false hpo;rw [h1] at this;exact this
 ·have:=RY false (bK s n) hok (fX (bK s n) o) false hpo (kT s.row s.fail raw (fX (bK s n) o).length) false (by simp only [maxLen];exact Nat.le_trans hfl (by omega));rw [h4] at this;exact this
open Go.ChangeShapes Go.WideShapes Go.ChangeAt Go.RowKit
abbrev Dg : List (String × DataW Unit) := [("math/bits.deBruijn32tab", Rows.laid_math_bits_deBruijn32tab), ("math/bits.deBruijn64tab", Rows.laid_math_bits_deBruijn64tab)]
def Sg:List Int:=Lib.deBruijn64tab.map fun n=>((n:Nat):Int)
theorem Hy:(Rows.laid_math_bits_deBruijn64tab:DataW Unit)=Lib.tabData .u8 Sg:=by kernel_rfl
theorem UY : Tryz.prog.globalNamed "math/bits.deBruijn64tab" = some 1 := by kernel_rfl
theorem EP {W:World} (h:laidMetH Tryz.prog Dg W):∀ x ∈ GL,x.1 < W.heap.size∧HP (W.heap[x.1]?) x.2:=by
 rw [MakeChecks.laidMetH_plain _ _ _ (by kernel_rfl)] at h;obtain ⟨ps,⟨g0,t0,cs0,f0,p0,q0,_,_,_,_,⟨g1,t1,cs1,f1,p1,q1,hg1,ht1,hv1,hd1,_,_⟩,_⟩,_,_⟩:=h;obtain rfl:=Option.some.inj (UY.symm.trans hg1);obtain rfl:=Option.some.inj ((show (Tryz.prog.globals[1]?).map (·.type)=some 220 by kernel_rfl).symm.trans ht1);rw [Hy] at hd1;have hcs:=Lib.cells_of_tab (e:=5) (n:=64) Tryz.underlying220 Tryz.underlying5 (by kernel_rfl) (by kernel_rfl) hd1;simp only [World.var?,hg1,Option.bind_some] at hv1;intro x hx;obtain rfl:=List.mem_singleton.1 hx
 cases ho:W.heap[1]? with
 | none=>rw [ho] at hv1;cases hv1
 | some o =>
  rw [ho] at hv1;have hlt:1 < W.heap.size:=(Array.getElem?_eq_some_iff.1 ho).1
  cases o with
  | cells cs e fz =>simp only [qq9] at hv1;subst hv1;refine ⟨hlt,cs,e,fz,rfl,fun i v hv=>?_⟩;rw [←Array.getElem?_toList,hcs];unfold Sg;rw [List.map_map];exact hv
  | _=>cases hv1
end Go.Proofs.YtkappgolfkiaeaaGreatDoor
open Go Go.RM
namespace Go.Proofs.YtkappgolfkiaeaaGreatDoor
set_option maxRecDepth 100000
abbrev BM:Sh:=.int .i64
abbrev Qh:Sh:=.int .u16
abbrev JO:Sh:=.cons .str (.cons BM (.cons BM (.cons BM .nil)))
abbrev Dh:Sh:=.cons BM (.cons (.slice JO) (.cons BM (.cons BM (.cons BM (.cons (.slice BM) .nil)))))
theorem DL {l:List AV} (h:TV BM l):∃ n,(Lit.int .i64 n).wf=true∧l=eI n:=by
 cases h with
 | int h=>exact ⟨_,h,rfl⟩
theorem Ug {k:IntKind} {l:List AV} (h:TV (.int k) l):∃ n,(Lit.int k n).wf=true∧l=[.fl (.int k n)]:=by
 cases h with
 | int h=>exact ⟨_,h,rfl⟩
theorem Ux {l:List AV} (h:TV .str l):∃ s:ByteArray,s.size≤maxLen∧l=[ST s]:=by
 cases h with
 | str h=>exact ⟨_,h,rfl⟩
theorem qY {a b:Sh} {l:List AV} (h:TV (.cons a b) l):∃ x y,TV a x∧TV b y∧l=x++y:=by
 cases h with
 | cons h k=>exact ⟨_,_,h,k,rfl⟩
theorem Oi {l:List AV} (h:TV .nil l):l=[]:=by cases h;rfl
theorem RH {s:Sh} {l:List AV} (h:TV (.slice s) l):∃ els,els.length≤maxLen∧(∀ el ∈ els,TV s el)∧l=[.sl els false]:=by
 cases h with
 | slice h k=>exact ⟨_,h,k,rfl⟩
theorem Uy {n:Nat} {s:Sh} {l:List AV} (h:TV (.arr n s) l):∃ els:List (List AV),els.length=n∧(∀ el ∈ els,TV s el)∧l=els.flatten:=by
 cases h with
 | arr h k=>exact ⟨_,h,k,rfl⟩
theorem xy {α:Type} {e:α→List AV} {P:α→Prop}:∀ {els:List (List AV)},(∀ el ∈ els,∃ x,P x∧el=e x)→∃ l:List α,(∀ x ∈ l,P x)∧els=l.map e
 | [],_=>⟨[],⟨List.forall_mem_nil _,rfl⟩⟩
 | el :: els,h=>by obtain ⟨x,hx,rfl⟩:=h el (by simp);obtain ⟨l,hl,rfl⟩:=xy fun el hel=>h el (List.mem_cons_of_mem _ hel);exact ⟨x :: l,⟨qq8 ⟨hx,hl⟩,rfl⟩⟩
theorem Qi {l:List AV} (h:TV (.slice BM) l):∃ c:List Int,c.length≤maxLen∧l=[.sl (ints c) false]:=by
 obtain ⟨a,ha,ha',rfl⟩:=RH h;obtain ⟨a,_,rfl⟩:=xy (e:=eI) (P:=fun _=>True) fun el hel=>by obtain ⟨n,_,h⟩:=DL (ha' el hel);exact ⟨n,trivial,h⟩
 exact ⟨a,by simpa using ha,rfl⟩
theorem Qj {l:List AV} (h:TV JO l):∃ x:hH,x.name.data.toList.length≤maxLen∧l=aU x:=by obtain ⟨_,_,h1,k1,rfl⟩:=qY h;obtain ⟨_,_,h2,k2,rfl⟩:=qY k1;obtain ⟨_,_,h3,k3,rfl⟩:=qY k2;obtain ⟨_,_,h4,k4,rfl⟩:=qY k3;obtain rfl:=Oi k4;obtain ⟨a,ha,rfl⟩:=Ux h1;obtain ⟨b,_,rfl⟩:=DL h2;obtain ⟨c,_,rfl⟩:=DL h3;obtain ⟨d,_,rfl⟩:=DL h4;exact ⟨⟨a,b,c,d⟩,by simpa using ha,rfl⟩
theorem JP {l:List AV} (h:TV Dh l):∃ s:aC,s.Ok∧l=aH s:=by obtain ⟨_,_,h1,k1,rfl⟩:=qY h;obtain ⟨_,_,h2,k2,rfl⟩:=qY k1;obtain ⟨_,_,h3,k3,rfl⟩:=qY k2;obtain ⟨_,_,h4,k4,rfl⟩:=qY k3;obtain ⟨_,_,h5,k5,rfl⟩:=qY k4;obtain ⟨_,_,h6,k6,rfl⟩:=qY k5;obtain rfl:=Oi k6;obtain ⟨a,_,rfl⟩:=DL h1;obtain ⟨b,hb,hb',rfl⟩:=RH h2;obtain ⟨b,hn,rfl⟩:=xy (e:=aU) fun el hel=>Qj (hb' el hel);obtain ⟨c,_,rfl⟩:=DL h3;obtain ⟨d,_,rfl⟩:=DL h4;obtain ⟨e,_,rfl⟩:=DL h5;obtain ⟨f,hf,rfl⟩:=Qi h6;exact ⟨⟨a,b,c,d,e,f⟩,⟨by simpa using hb,hn,hf⟩,rfl⟩
