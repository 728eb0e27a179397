/-
  Contracts of the program's functions and of the document's. Lemmas alone; their conditions stand in them.
-/
import Derived.Test.YtpeogffeoehboaaDoorK2
import Derived.Test.YtpeogffeoehboaaDoorK4
import Derived.Test.YtpeogffeoehboaaDoorK6
import Derived.Test.YtpeogffeoehboaaDoorK7
import Derived.Test.YtpeogffeoehboaaDoorK8
import Derived.Test.YtpeogffeoehboaaDoorK13
import Derived.Test.YtpeogffeoehboaaDoorK14
open Go Go.RM
namespace Go.Proofs.YtpeogffeoehboaaDoor
set_option maxRecDepth 100000
set_option maxHeartbeats 4000000
theorem Lc (L:List Order) (C:List Int) (v w:Nat):vg 1 0 ([.cells (gk L) 2 v,.cells (jU C) 1 w]:List AB)=true:=by
 show ((false || ve 1 (gk L)) && ((true || ve 1 (jU C)) && true))=true
 rw [kE]
 rfl
theorem qM (C:List Int):(0:Nat)+C.length * 1≤(jU C).length∧(ints C).length=C.length∧(∀ el ∈ ints C,el.length=1)∧(ints C).flatten=((jU C).drop 0).take (C.length * 1) :=
 ⟨by rw [List.length_map];omega,by simp,fun el hel=>by obtain ⟨o,_,rfl⟩:=List.mem_map.1 hel;rfl,by rw [List.drop_zero,List.take_of_length_le (by rw [List.length_map];omega),oe]⟩
theorem kJ (L:List Order):(0:Nat)+L.length * 2≤(gk L).length∧(L.map az).length=L.length∧(∀ el ∈ L.map az,el.length=2)∧(L.map az).flatten=((gk L).drop 0).take (L.length * 2) :=
 ⟨by rw [kD];omega,by simp,fun el hel=>by obtain ⟨o,_,rfl⟩:=List.mem_map.1 hel;rfl,by rw [List.drop_zero,List.take_of_length_le (by rw [kD];exact Nat.le_refl _)];rfl⟩
abbrev FZ (xs:List Nat):List AV:=xs.map U8
theorem OQ {xs:List Nat} {i:Nat} (h:i < xs.length):(FZ xs)[0+((i:Nat):Int).toNat * 1]?=some (U8 xs[i]):=by
 rw [Int.toNat_natCast,Nat.zero_add,Nat.mul_one,List.getElem?_map,List.getElem?_eq_getElem h]
 rfl
theorem QH {s:ai} {n:Nat} (h:n < s.needs.length):s.needs[n].weight=wP s (n:Nat):=by
 unfold wP
 rw [Int.toNat_natCast,List.getElem?_eq_getElem h]
theorem J1 (one:Bool) {s:ai} (hg:Good s) (xs:List Nat) (hx6:xs.length=6):Pu one 36 [.ag (ay s),.ag (FZ xs)] (.sl ((qH s xs).map az) false):=by
 have hm6:=hg.many
 have hn3:=hg.len
 have hld:=hg.load
 have eg:((s.needs.map aR).length:Int)=s.needs.length:=by simp
 have es:((ints s.possible).length:Int)=s.possible.length:=by simp
 have hx1:(AV.ag (FZ xs)).cells.all AV.one=true:=by
  show (xs.map U8).all AV.one=true
  rw [List.all_map,List.all_eq_true]
  intro x _
  rfl
 have hdx:cK (AV.ag (FZ xs)).cells=true:=rP (fun _=>rfl) xs
 refine ah.body (fn:=Tryd.f36) rfl rfl rfl rfl ?_
 refine RM.dH (mu:=fun _=>false) ?_
 repeat' (first |(refine RM.Qh rfl rfl hx1 hdx ?_) |refine u1 ?_ |refine u2 ?_ |fail)
 refine RM.dH (mu:=fun _=>false) ?_
 repeat' (first |refine u1 ?_ |refine u2 ?_ |fail)
 refine aA.seq ?_
 refine RM.dH (mu:=fun _=>false) ?_
 repeat' (first |refine u1 ?_ |refine u2 ?_ |fail)
 refine aA.block ?_
 refine aA.aU (ak.trans (ak.vj 2) (ak.OY (l:=[(2,.pt (ay s) 0),(3,.pt (FZ xs) 0),(5,.bO 0 0 0 (([]:List Order)).length 0),(6,aC (0:Nat))]) (hp:=[.cells (gk ([]:List Order)) 2 0]) 1 rfl ⟨cw.refl _,cw.refl _,cw.vi,cw.refl _,trivial⟩ (Nat.zero_le _) rfl rfl)) ?_
 refine aA.loop (fun x:Nat × Nat × Nat=>x.1≤s.possible.length∧(x.2.2=(fh s xs x.1).length∨x.2.2=(fh s xs x.1).length+1)) (fun x=>⟨bu [(2,.pt (ay s) 0),(3,.pt (FZ xs) 0),(5,.bO 0 x.2.1 0 ((fh s xs x.1)).length x.2.2),(6,aC (x.1:Nat))],[.cells (gk (fh s xs x.1)) 2 x.2.1],bR.none,false,0⟩) (fun x=>s.possible.length - x.1) ?_ (0,0,0) ⟨Nat.zero_le _,.inl rfl⟩
 rintro ⟨i,aB,c⟩ ⟨hi,hc⟩
 dsimp only at hi hc
 have hln:=rS (s:=s) (xs:=xs) i
 have hend:i=s.possible.length→qH s xs=fh s xs i:=fun e=>by rw [e];rfl
 have hsc:=fun h1 h2=>vF (s:=s) (xs:=xs) (i:=i) h1 h2
 show aA _ _ _ _ ⟨bu [(2,.pt (ay s) 0),(3,.pt (FZ xs) 0),(5,.bO 0 aB 0 ((fh s xs i)).length c),(6,aC (i:Nat))],[.cells (gk (fh s xs i)) 2 aB],bR.none,false,0⟩ _
 generalize fh s xs i=L at *
 by_cases hlt:i < s.possible.length
 ·have d1:decide ((i:Int) < ((ints s.possible).length:Int))=true:=decide_eq_true (by omega)
  have hix:i < xs.length:=by omega
  have hs1:=hsc hlt hix
  refine RM.dH (mu:=fun _=>false) ?_
  repeat' (first |refine u1 ?_ |refine u2 ?_ |fail)
  refine aA.seq ?_
  refine aA.block ?_
  refine RM.dH (mu:=fun _=>false) ?_
  repeat' (first |refine u1 ?_ |refine u2 ?_ |fail)
  refine RM.dH (mu:=fun _=>false) ?_
  repeat' (first |refine u1 ?_ |refine u2 ?_ |fail)
  refine RM.cutAt (st':=⟨bu [(2,.pt (ay s) 0),(3,.pt (FZ xs) 0),(5,.bO 0 aB 0 (L).length c),(6,aC (i:Nat)),(7,.sl (ints (cC s xs[i] s.needs.length).1) false)],[.cells (gk L) 2 aB],bR.none,false,0⟩) ?_ ?_
  ·refine RM.dH (mu:=fun _=>false) ?_
   repeat' (first |refine u1 ?_ |refine u2 ?_ |fail)
   refine aA.block ?_
   refine aA.aU (ak.trans (ak.vj 1) (ak.OY (l:=[(2,.pt (ay s) 0),(3,.pt (FZ xs) 0),(5,.bO 0 aB 0 (L).length c),(6,aC (i:Nat)),(7,.bO 1 0 0 ((cC s xs[i] 0).1).length 0),(8,aC (cC s xs[i] 0).2),(9,aC (0:Nat))]) (hp:=[.cells (gk L) 2 aB,.cells (jU (cC s xs[i] 0).1) 1 0]) 2 rfl ⟨cw.refl _,cw.refl _,cw.refl _,cw.refl _,cw.vi,cw.refl _,cw.refl _,trivial⟩ (Nat.zero_le _) rfl (qF _ _ _ _))) ?_
   refine aA.loop (fun x:Nat × Nat × Nat=>x.1≤s.needs.length∧(x.2.2=((cC s xs[i] x.1).1).length∨x.2.2=((cC s xs[i] x.1).1).length+1)) (fun x=>⟨bu [(2,.pt (ay s) 0),(3,.pt (FZ xs) 0),(5,.bO 0 aB 0 (L).length c),(6,aC (i:Nat)),(7,.bO 1 x.2.1 0 ((cC s xs[i] x.1).1).length x.2.2),(8,aC (cC s xs[i] x.1).2),(9,aC (x.1:Nat))],[.cells (gk L) 2 aB,.cells (jU (cC s xs[i] x.1).1) 1 x.2.1],bR.none,false,0⟩) (fun x=>s.needs.length - x.1) ?_ (0,0,0) ⟨Nat.zero_le _,.inl rfl⟩
   rintro ⟨m,v2,c2⟩ ⟨hm,hc2⟩
   dsimp only at hm hc2
   obtain ⟨k1,k2,k3,k4,_⟩:=qG hg xs[i] m
   have hs1:=vE (s:=s) (raw:=xs[i]) (k:=m)
   have hC:m=s.needs.length→(cC s xs[i] m).1=(cC s xs[i] s.needs.length).1:=fun e=>by rw [e]
   show aA _ _ _ _ ⟨bu [(2,.pt (ay s) 0),(3,.pt (FZ xs) 0),(5,.bO 0 aB 0 (L).length c),(6,aC (i:Nat)),(7,.bO 1 v2 0 ((cC s xs[i] m).1).length c2),(8,aC (cC s xs[i] m).2),(9,aC (m:Nat))],[.cells (gk L) 2 aB,.cells (jU (cC s xs[i] m).1) 1 v2],bR.none,false,0⟩ _
   generalize hp:cC s xs[i] m=st at *
   obtain ⟨C,w⟩:=st
   dsimp only at hc2 k1 k2 k3 k4 hs1 hC ⊢
   have hgl:(jU C).length=C.length:=by rw [List.length_map]
   by_cases hlm:m < s.needs.length
   ·have d3:decide ((m:Int) < ((s.needs.map aR).length:Int))=true:=decide_eq_true (by omega)
    have hm8:m < 8:=by omega
    have hax:=OQ hix
    have hat:(s.needs.map aR)[((m:Nat):Int).toNat]?=some (aR s.needs[m]):=bY hlm
    have hwb:=Eu hg (m:Nat)
    have hww:=QH hlm
    have hbit:xs[i] / 2 ^ m % 2=if xs[i].testBit m=true then 1 else 0:=by
     rw [Nat.testBit_eq_decide_div_mod_eq]
     have:=Nat.mod_two_eq_zero_or_one (xs[i] / 2 ^ m)
     rcases this with e|e <;> rw [e] <;> simp
    have hi6:(i:Int) < 6:=by omega
    clear hp hC hend hsc
    cases hbt:xs[i].testBit m with
    | false =>
     rw [hbt,if_neg (by simp)] at hbit
     rw [hbt,if_neg (by simp)] at hs1
     have d4:decide (((xs[i] / 2 ^ m % 2:Nat):Int)=1)=false:=decide_eq_false (by rw [hbit];decide)
     generalize xs[i]=raw at *
     refine aa (mu:=fun _=>false) ?_
     repeat' (first |((with_reducible show RM.wpOp _ _ (.load _ _) _ _ _);refine RM.QK rfl rfl hax ?_) |(refine Ep rfl rfl hm8 ?_) |(refine Er rfl rfl ?_) |(refine Ot rfl rfl ?_) |refine u1 ?_ |refine u2 ?_ |fail)
     exact ⟨(m+1,v2,c2),⟨hlm,(by dsimp only;rw [hs1];exact hc2)⟩,(by dsimp only;omega),ak.to 2 (by dsimp only;rw [hs1];rfl) ⟨rfl,rfl,rfl,rfl,(by rw [hs1];rfl),(by rw [hs1];rfl),bM (by simp),trivial⟩ (Nat.zero_le _) rfl (qF _ _ _ _)⟩
    | true =>
     rw [hbt,if_pos rfl] at hbit
     rw [hbt] at hs1
     have d4:decide (((xs[i] / 2 ^ m % 2:Nat):Int)=1)=true:=decide_eq_true (by rw [hbit];decide)
     generalize xs[i]=raw at *
     generalize s.needs[m]=g at *
     by_cases hle:w+wP s (m:Nat)≤s.load
     ·rw [if_pos ⟨rfl,hle⟩] at hs1
      rw [←hww] at hs1 hle hwb
      have d5:=decide_eq_true hle
      refine aa (mu:=fun _=>false) ?_
      repeat' (first |((with_reducible show RM.wpOp _ _ (.load _ _) _ _ _);refine RM.QK rfl rfl hax ?_) |(refine Ep rfl rfl hm8 ?_) |(refine Er rfl rfl ?_) |(refine Ot rfl rfl ?_) |((with_reducible show RM.wpOp _ _ (.call _) _ _ _);refine RM.Jc (cs:=jU C) (n:=C.length) (els:=[eI (m:Nat)]) rfl rfl rfl rfl rfl (fun el hel=>by rw [List.mem_singleton.1 hel];rfl) rfl rfl (by rw [hgl];exact (Nat.mul_one _).symm) hc2 (by simp only [List.length_singleton];omega) (fun v' c' hc'=>?_)) |refine u1 ?_ |((with_reducible show RM.wpOp _ _ (.indexAddr _ _ _) _ _ _);refine ⟨aR g,⟨by omega,hat⟩,rfl,?_⟩) |refine u2 ?_ |fail)
      exact ⟨(m+1,v',c'),⟨hlm,(by dsimp only;rw [hs1];dsimp only;rw [List.length_append];exact hc')⟩,(by dsimp only;omega),ak.to 2 (by dsimp only;rw [hs1];unfold jU;rw [List.map_append];rfl) ⟨rfl,rfl,rfl,rfl,(by rw [hs1];dsimp only;rw [List.length_append];rfl),(by rw [hs1];rfl),bM (by simp),trivial⟩ (Nat.zero_le _) rfl (qF _ _ _ _)⟩
     ·rw [if_neg (fun h=>hle h.2)] at hs1
      rw [←hww] at hle hwb
      have d5:=decide_eq_false hle
      refine aa (mu:=fun _=>false) ?_
      repeat' (first |((with_reducible show RM.wpOp _ _ (.load _ _) _ _ _);refine RM.QK rfl rfl hax ?_) |(refine Ep rfl rfl hm8 ?_) |(refine Er rfl rfl ?_) |(refine Ot rfl rfl ?_) |refine u1 ?_ |((with_reducible show RM.wpOp _ _ (.indexAddr _ _ _) _ _ _);refine ⟨aR g,⟨by omega,hat⟩,rfl,?_⟩) |refine u2 ?_ |fail)
      exact ⟨(m+1,v2,c2),⟨hlm,(by dsimp only;rw [hs1];exact hc2)⟩,(by dsimp only;omega),ak.to 2 (by dsimp only;rw [hs1];rfl) ⟨rfl,rfl,rfl,rfl,(by rw [hs1];rfl),(by rw [hs1];rfl),bM (by simp),trivial⟩ (Nat.zero_le _) rfl (qF _ _ _ _)⟩
   ·have d3:decide ((m:Int) < ((s.needs.map aR).length:Int))=false:=decide_eq_false (by omega)
    have hCe:=hC (by omega)
    rw [←hCe]
    refine aa (mu:=fun _=>false) ?_
    repeat' (first |refine u1 ?_ |refine u2 ?_ |fail)
    exact .is (ak.trans (ak.giveUp 1 (l:=[(2,.pt (ay s) 0),(3,.pt (FZ xs) 0),(5,.bO 0 aB 0 (L).length c),(6,aC (i:Nat)),(7,.sl (ints C) false)]) (hp:=[.cells (gk L) 2 aB,.gone]) rfl (Nat.zero_le _) (xS _) ⟨.same rfl,.same rfl,.same rfl,.same rfl,.row 1 (qM _).1 (qM _).2.1 (qM _).2.2.1 (qM _).2.2.2 (fun h=>Bool.noConfusion h),trivial⟩ (Lc _ _ _ _) rfl) (ak.to 1 rfl ⟨rfl,rfl,rfl,rfl,rfl,trivial⟩ (Nat.zero_le _) rfl (lB _ _)))
  ·have hat:(ints s.possible)[((i:Nat):Int).toNat]?=some (eI s.possible[i]):=bY hlt
   have k1:=(qG hg xs[i] s.needs.length).1
   generalize s.possible[i]=d at *
   generalize (cC s xs[i] s.needs.length).1=C at *
   have ec:((ints C).length:Int)=C.length:=by simp
   by_cases he:C=[]
   ·rw [if_pos he] at hs1
    have d3:decide (0 < ((ints C).length:Int))=false:=by rw [he];rfl
    refine aa (mu:=fun _=>false) ?_
    repeat' (first |refine u1 ?_ |refine u2 ?_ |fail)
    refine aa (mu:=fun _=>false) ?_
    repeat' (first |refine u1 ?_ |refine u2 ?_ |fail)
    exact ⟨(i+1,aB,c),⟨hlt,by dsimp only;rw [hs1];exact hc⟩,(by dsimp only;omega),ak.to 1 (by dsimp only;rw [hs1];rfl) ⟨rfl,rfl,(by rw [hs1];rfl),bM (by simp),trivial⟩ (Nat.zero_le _) rfl (lB _ _)⟩
   ·rw [if_neg he] at hs1
    have hl:1≤C.length:=by
     cases C with
     | nil=>exact absurd rfl he
     | cons a l=>simp
    have d3:decide (0 < ((ints C).length:Int))=true:=decide_eq_true (by omega)
    refine aa (mu:=fun _=>false) ?_
    repeat' (first |((with_reducible show RM.wpOp _ _ (.call _) _ _ _);refine RM.Jc (cs:=gk L) (n:=L.length) (els:=[az ⟨d,C⟩]) rfl rfl rfl rfl rfl (fun el hel=>by rw [List.mem_singleton.1 hel];rfl) rfl rfl (kD L) hc (by simp only [List.length_singleton];omega) (fun v' c' hc'=>?_)) |refine u1 ?_ |((with_reducible show RM.wpOp _ _ (.indexAddr _ _ _) _ _ _);refine ⟨eI d,⟨by omega,hat⟩,rfl,?_⟩) |refine u2 ?_ |fail)
    refine aa (mu:=fun _=>false) ?_
    repeat' (first |refine u1 ?_ |refine u2 ?_ |fail)
    exact ⟨(i+1,v',c'),⟨hlt,by dsimp only;rw [hs1,List.length_append];exact hc'⟩,(by dsimp only;omega),ak.to 1 (by dsimp only;rw [hs1,←JJ];rfl) ⟨rfl,rfl,(by rw [hs1,List.length_append];rfl),bM (by simp),trivial⟩ (Nat.zero_le _) rfl (lB _ _)⟩
 ·have d1:decide ((i:Int) < ((ints s.possible).length:Int))=false:=decide_eq_false (by omega)
  have he:=hend (by omega)
  rw [he]
  refine aa (mu:=fun _=>false) ?_
  repeat' (first |refine u1 ?_ |refine u2 ?_ |fail)
  refine aa (mu:=fun _=>false) ?_
  repeat' (first |refine u1 ?_ |refine u2 ?_ |fail)
  exact ⟨[_],⟨Fz.row (es:=2) rfl (kJ _).1 (kJ _).2.1 (kJ _).2.2.1 (kJ _).2.2.2 (nC _) (fun h=>Bool.noConfusion h),trivial⟩,rfl⟩
end Go.Proofs.YtpeogffeoehboaaDoor
open Go Go.RM
namespace Go.Proofs.YtpeogffeoehboaaDoor
set_option maxRecDepth 100000
set_option maxHeartbeats 4000000
def OS (s:ai):Int:=if (iM s).2.2=0 then (match qK s s.possible with|none=>9|some _=>0) else (iM s).2.2
def OT (s:ai):List Order:=if (iM s).2.2=0 then (qK s s.possible).getD [] else []
theorem yc:∀ {P:List Order} {n:Nat},(h:n < P.length)→(gk P)[n * 2+1]?=some (.sl (ints P[n].aG) false)
 | o :: P,0,_=>rfl
 | o :: P,n+1,h=>by
  rw [show (n+1) * 2+1=n * 2+1+1+1 by omega]
  show (aC o.day :: AV.sl (ints o.aG) false :: gk P)[n * 2+1+1+1]?=_
  rw [List.getElem?_cons_succ,List.getElem?_cons_succ,yc (by simpa using h)]
  rfl
theorem J2:∀ {P:List Order} {n:Nat},(h:n < P.length)→cN (gk P) [.sl (ints P[n].aG) false] (n * 2+1)=gk P:=by
 intro P n h
 rw [zK h]
 congr 1
 unfold Dx
 rw [List.modify_eq_take_cons_drop h]
 conv=>rhs;rw [←List.take_append_drop n P,List.drop_eq_getElem_cons h]
theorem J3 (one:Bool) (s:ai) (hs:s.Ok):Pu one 31 [.ag (ay s)] (.tp [.sl ((OT s).map az) false,aC (OS s)]):=by
 have o1:=Et one s hs
 unfold OT OS
 by_cases c1:(iM s).2.2=0
 ·rw [qz c1] at o1
  rw [if_pos c1,if_pos c1]
  have hg:=mg c1
  have hm:=hg.many
  obtain ⟨p1,p2⟩:=tf hg
  have hdp:s.possible.Pairwise (· < ·):=List.pairwise_iff_getElem.2 fun i j hi hj hij=>p2 i j hi hj hij
  have hdr:∀ x ∈ s.possible,0≤x∧x < s.days:=fun x hx=>by obtain ⟨i,hi,rfl⟩:=List.mem_iff_getElem.1 hx;exact p1 i hi
  have hfc:=fun (aE:bR) (Q:AV→List AB→bR→Prop) (hQ:Q (Rl (qK s s.possible)) (Rm (qK s s.possible)) aE)=>QB one hg (days:=s.possible) false hm hdp hdr (aE:=aE) (Q:=Q) hQ
  have hsm:=fun p (h:qK s s.possible=some p)=>Cd c1 h
  clear hdp hdr p1 p2
  cases hf:qK s s.possible with
  | none =>
   rw [hf] at hfc
   clear hsm
   refine ah.body (fn:=Tryd.f31) rfl rfl rfl rfl ?_
   refine aa (mu:=fun _=>false) ?_
   repeat' (first |((with_reducible show av _ _ _ _ _ _ _ _);refine ah.call o1 rfl rfl ?_) |(refine hfc _ _ ?_) |refine u1 ?_ |refine u2 ?_ |fail)
   exact ⟨[_,_],⟨Fz.nil,Fz.deep rfl,trivial⟩,rfl⟩
  | some p =>
   obtain ⟨hz,_,_,_⟩:=hsm p hf
   have hpg:=jJ hz
   clear hsm hz
   rw [hf] at hfc
   cases p with
   | nil =>
    have hfc:∀ (aE:bR) (Q:AV→List AB→bR→Prop),Q (.tp [.fl (.slice none 0 0),BB true]) [] aE→av TT TB one (.fn 65 [] []) [.ag (ay s),.sl (ints s.possible) false] [] aE Q:=hfc
    refine ah.body (fn:=Tryd.f31) rfl rfl rfl rfl ?_
    refine RM.dH (mu:=fun _=>false) ?_
    repeat' (first |refine u1 ?_ |refine u2 ?_ |fail)
    refine RM.dH (mu:=fun _=>false) ?_
    repeat' (first |((with_reducible show av _ _ _ _ _ _ _ _);refine ah.call o1 rfl rfl ?_) |(refine hfc _ _ ?_) |refine u1 ?_ |refine u2 ?_ |fail)
    refine RM.dH (mu:=fun _=>false) ?_
    repeat' (first |(refine hfc _ _ ?_) |refine u1 ?_ |refine u2 ?_ |fail)
    refine RM.dH (mu:=fun _=>false) ?_
    repeat' (first |refine u1 ?_ |refine u2 ?_ |fail)
    refine aA.aU (ak.OY (l:=[(7,.sl [] false)]) (hp:=[]) 0 rfl ⟨cw.nil false,trivial⟩ (Nat.zero_le _) rfl rfl) ?_
    refine aA.seq ?_
    refine RM.dH (mu:=fun _=>false) ?_
    repeat' (first |refine u1 ?_ |refine u2 ?_ |fail)
    refine aA.block ?_
    refine aA.aU (ak.to (l:=[(7,.sl [] false),(30,aC 0),(31,aC 0)]) (hp:=[]) 0 rfl ⟨rfl,rfl,rfl,trivial⟩ (Nat.zero_le _) rfl rfl) ?_
    refine aA.loop (fun _:Unit=>True) (fun _=>⟨bu [(7,.sl [] false),(30,aC 0),(31,aC 0)],[],bR.none,false,0⟩) (fun _=>0) ?_ () trivial
    intro _ _
    refine aa (mu:=fun _=>false) ?_
    repeat' (first |refine u1 ?_ |refine u2 ?_ |fail)
    refine aa (mu:=fun _=>false) ?_
    repeat' (first |refine u1 ?_ |refine u2 ?_ |fail)
    exact ⟨[_,_],⟨Fz.deep rfl,Fz.deep rfl,trivial⟩,rfl⟩
   | cons a l =>
    have hfc:∀ (aE:bR) (Q:AV→List AB→bR→Prop),Q (.tp [.bO 0 0 0 (a :: l).length ((a :: l).length+1),BB true]) [eT (a :: l) 0] aE→av TT TB one (.fn 65 [] []) [.ag (ay s),.sl (ints s.possible) false] [] aE Q:=hfc
    refine ah.body (fn:=Tryd.f31) rfl rfl rfl rfl ?_
    refine RM.dH (mu:=fun _=>false) ?_
    repeat' (first |refine u1 ?_ |refine u2 ?_ |fail)
    refine RM.dH (mu:=fun _=>false) ?_
    repeat' (first |((with_reducible show av _ _ _ _ _ _ _ _);refine ah.call o1 rfl rfl ?_) |(refine hfc _ _ ?_) |refine u1 ?_ |refine u2 ?_ |fail)
    refine RM.dH (mu:=fun _=>false) ?_
    repeat' (first |(refine hfc _ _ ?_) |refine u1 ?_ |refine u2 ?_ |fail)
    refine RM.dH (mu:=fun _=>false) ?_
    repeat' (first |refine u1 ?_ |refine u2 ?_ |fail)
    refine aA.seq ?_
    refine RM.dH (mu:=fun _=>false) ?_
    repeat' (first |refine u1 ?_ |refine u2 ?_ |fail)
    refine aA.block ?_
    refine aA.aU (ak.to (l:=[(7,.bO 0 0 0 (a :: l).length ((a :: l).length+1)),(30,aC ((a :: l).length:Nat)),(31,aC (0:Nat))]) (hp:=[eT (a :: l) 0]) 1 rfl ⟨rfl,rfl,rfl,trivial⟩ (Nat.zero_le _) rfl (lB _ _)) ?_
    revert hpg
    generalize a :: l=P
    intro hpg
    have hlen:=hpg.len
    have hgl:=hpg.good.len
    refine aA.loop (fun k:Nat=>k≤P.length) (fun k=>⟨bu [(7,.bO 0 0 0 P.length (P.length+1)),(30,aC (P.length:Nat)),(31,aC (k:Nat))],[eT P 0],bR.none,false,0⟩) (fun k=>P.length - k) ?_ 0 (Nat.zero_le _)
    intro k hk
    by_cases hlt:k < P.length
    ·have d1:decide ((k:Int) < (P.length:Int))=true:=decide_eq_true (by omega)
     have hat:=yc hlt
     have hsame:=J2 hlt
     have hok:=hpg.order _ (List.getElem_mem hlt)
     have hc1:=hok.some
     have hc3:=hok.len
     clear hok
     generalize P[k].aG=c at *
     have hat':(gk P)[0+((k:Nat):Int).toNat * 2+1]?=some (.sl (ints c) false):=by rw [Int.toNat_natCast,Nat.zero_add];exact hat
     have hset':cN (gk P) [.sl (ints c) false] (0+((k:Nat):Int).toNat * 2+1)=gk P:=by rw [Int.toNat_natCast,Nat.zero_add];exact hsame
     have hsb:Nat.ble (0+((k:Nat):Int).toNat * 2+1+1) (gk P).length=true:=Nat.ble_eq_true_of_le (by rw [kD,Int.toNat_natCast];omega)
     have oc:=KT one c false (fun h=>by rw [h] at hc1;simp at hc1) (by omega)
     refine aa (mu:=fun _=>false) ?_
     repeat' (first |((with_reducible show RM.wpOp _ _ (.load _ _) _ _ _);refine RM.KB rfl rfl rfl hat' ?_) |((with_reducible show av _ _ _ _ _ _ _ _);refine ah.call oc rfl rfl ?_) |((with_reducible show cG _ _ _ _ _ _);refine RM.Mw rfl rfl rfl rfl rfl rfl hsb ?_) |refine u1 ?_ |refine u2 ?_ |fail)
     refine ⟨k+1,hlt,(by dsimp only;omega),ak.to 1 (by show [AB.cells (cN (gk P) [.sl (ints c) false] (0+((k:Nat):Int).toNat * 2+1)) 2 0]=[AB.cells (gk P) 2 0];rw [hset']) ⟨rfl,rfl,bM (by simp),trivial⟩ (Nat.zero_le _) rfl (lB _ _)⟩
    ·have d1:decide ((k:Int) < (P.length:Int))=false:=decide_eq_false (by omega)
     refine aa (mu:=fun _=>false) ?_
     repeat' (first |refine u1 ?_ |refine u2 ?_ |fail)
     refine aa (mu:=fun _=>false) ?_
     repeat' (first |refine u1 ?_ |refine u2 ?_ |fail)
     exact ⟨[_,_],⟨Fz.row (es:=2) rfl (kJ _).1 (kJ _).2.1 (kJ _).2.2.1 (kJ _).2.2.2 (nC _) (fun h=>Bool.noConfusion h),Fz.deep rfl,trivial⟩,rfl⟩
 ·rw [if_neg c1,if_neg c1]
  refine ah.body (fn:=Tryd.f31) rfl rfl rfl rfl ?_
  have d1:(!decide ((iM s).2.2=0))=true:=by rw [decide_eq_false c1];rfl
  refine aa (mu:=fun _=>false) ?_
  repeat' (first |refine u1 ?_ |((with_reducible show av _ _ _ _ _ _ _ _);refine ah.call o1 rfl rfl ?_) |refine u2 ?_ |fail)
  exact ⟨[_,_],⟨Fz.nil,Fz.deep rfl,trivial⟩,rfl⟩
end Go.Proofs.YtpeogffeoehboaaDoor
open Go Go.RM
namespace Go.Proofs.YtpeogffeoehboaaDoor
set_option maxRecDepth 100000
set_option maxHeartbeats 4000000
theorem Ld (one:Bool) (s:ai) (hs:s.Ok) (p:List Order) (full:Bool) (hp:Ob p):Pu one 34 [.ag (ay s),.sl (p.map az) full] (BB (decide ((cU s p).2=0))):=by
 have o1:=KV one s hs p full hp
 generalize (cU s p).1=a at *
 generalize (cU s p).2=b at *
 refine ah.body (fn:=Tryd.f34) rfl rfl rfl rfl ?_
 refine aa (mu:=fun _=>false) ?_
 repeat' (first |refine u1 ?_ |((with_reducible show av _ _ _ _ _ _ _ _);refine ah.call o1 rfl rfl ?_) |refine u2 ?_ |fail)
 exact ⟨[_],⟨Fz.deep rfl,trivial⟩,rfl⟩
end Go.Proofs.YtpeogffeoehboaaDoor
open Go Go.RM
namespace Go.Proofs.YtpeogffeoehboaaDoor
set_option maxRecDepth 100000
set_option maxHeartbeats 4000000
theorem DM {s:ai} {p:List Order} (h:kB s p):Ob p:=by
 have h1:=h.len
 have h2:=h.good.len
 refine ⟨Nat.le_trans h1 (by decide),fun o ho=>?_⟩
 have:=(h.order o ho).len
 exact Nat.le_trans (show o.aG.length≤8 by omega) (by decide)
theorem Lf (s:ai) (hs:s.Ok) (a b c d e f:Nat):Pu false 6 [.ag (ay s),.ag [U8 a,U8 b,U8 c,U8 d,U8 e,U8 f]] (BB true):=by
 have o1:=J3 false s hs
 have o2:=BG false s hs
 have aw:=Q6 false
 unfold OT OS at o1
 have z0:decide ((([]:List (List AV)).length:Int)=0)=true:=rfl
 by_cases c1:(iM s).2.2=0
 ·rw [qz c1] at o2
  rw [if_pos c1,if_pos c1] at o1
  have hg:=mg c1
  have hm:=hg.many
  have o3:=J1 false hg [a,b,c,d,e,f] rfl
  obtain ⟨h1,h2,h3⟩:=JL c1 [a,b,c,d,e,f]
  have hl:=FX c1 (q:=qH s [a,b,c,d,e,f]) h1 h3
  have o4:=x8 false s hs (qH s [a,b,c,d,e,f]) false (DM (jJ h1))
  have o3:Pu false 36 [.ag (ay s),.ag [U8 a,U8 b,U8 c,U8 d,U8 e,U8 f]] (.sl ((qH s [a,b,c,d,e,f]).map az) false):=o3
  generalize qH s [a,b,c,d,e,f]=C at *
  have eC:((C.map az).length:Int)=C.length:=by simp
  have z1:(!decide ((0:Int)=0))=false:=by decide
  cases hf:qK s s.possible with
  | none =>
   rw [hf] at o1 hl
   have hC:iR s C=false:=by
    cases hh:iR s C with
    | false=>rfl
    | true =>
     obtain ⟨p,h,_⟩:=hl hh
     cases h
   rw [hC] at o4
   have o1:Pu false 31 [.ag (ay s)] (.tp [.sl [] false,aC 9]):=o1
   clear hl
   refine ah.body (fn:=Tryd.f6) rfl rfl rfl rfl ?_
   refine aa (mu:=fun _=>false) ?_
   repeat' (first |(refine RM.Qh rfl rfl rfl rfl ?_) |((with_reducible show av _ _ _ _ _ _ _ _);refine ah.call o1 rfl rfl ?_) |((with_reducible show av _ _ _ _ _ _ _ _);refine ah.call o2 rfl rfl ?_) |((with_reducible show av _ _ _ _ _ _ _ _);refine ah.call o3 rfl rfl ?_) |((with_reducible show av _ _ _ _ _ _ _ _);refine ah.call o4 rfl rfl ?_) |((with_reducible show av _ _ _ _ _ _ _ _);refine ah.call aw rfl rfl ?_) |refine u1 ?_ |refine u2 ?_ |fail)
   exact ⟨[_],⟨Fz.deep rfl,trivial⟩,rfl⟩
  | some p =>
   obtain ⟨k1,k2,k3,k4⟩:=Cd c1 hf
   have hpg:=jJ k1
   have o5:=Ld false s hs p false (DM hpg)
   have o6:=x8 false s hs p false (DM hpg)
   rw [decide_eq_true k1] at o5
   rw [k4] at o6
   rw [hf] at o1 hl
   have hC:p.length≤C.length∨iR s C=false:=by
    cases hh:iR s C with
    | false=>exact .inr rfl
    | true =>
     obtain ⟨q,h,h4⟩:=hl hh
     cases h
     exact .inl h4
   have o1:Pu false 31 [.ag (ay s)] (.tp [.sl (p.map az) false,aC 0]):=o1
   have ep:((p.map az).length:Int)=p.length:=by simp
   clear hl k1 k4 h1 h2 h3 hf
   refine ah.body (fn:=Tryd.f6) rfl rfl rfl rfl ?_
   refine RM.dH (mu:=fun _=>false) ?_
   repeat' (first |(refine RM.Qh rfl rfl rfl rfl ?_) |((with_reducible show av _ _ _ _ _ _ _ _);refine ah.call o1 rfl rfl ?_) |((with_reducible show av _ _ _ _ _ _ _ _);refine ah.call o2 rfl rfl ?_) |((with_reducible show av _ _ _ _ _ _ _ _);refine ah.call o3 rfl rfl ?_) |((with_reducible show av _ _ _ _ _ _ _ _);refine ah.call o5 rfl rfl ?_) |refine u1 ?_ |refine u2 ?_ |fail)
   refine RM.dH (mu:=fun _=>false) ?_
   repeat' (first |((with_reducible show av _ _ _ _ _ _ _ _);refine ah.call o1 rfl rfl ?_) |((with_reducible show av _ _ _ _ _ _ _ _);refine ah.call o2 rfl rfl ?_) |((with_reducible show av _ _ _ _ _ _ _ _);refine ah.call o3 rfl rfl ?_) |((with_reducible show av _ _ _ _ _ _ _ _);refine ah.call o5 rfl rfl ?_) |refine u1 ?_ |refine u2 ?_ |fail)
   refine RM.dH (mu:=fun _=>false) ?_
   repeat' (first |((with_reducible show av _ _ _ _ _ _ _ _);refine ah.call o1 rfl rfl ?_) |((with_reducible show av _ _ _ _ _ _ _ _);refine ah.call o2 rfl rfl ?_) |((with_reducible show av _ _ _ _ _ _ _ _);refine ah.call o3 rfl rfl ?_) |((with_reducible show av _ _ _ _ _ _ _ _);refine ah.call o5 rfl rfl ?_) |refine u1 ?_ |refine u2 ?_ |fail)
   refine RM.dH (mu:=fun _=>false) ?_
   repeat' (first |((with_reducible show av _ _ _ _ _ _ _ _);refine ah.call o1 rfl rfl ?_) |((with_reducible show av _ _ _ _ _ _ _ _);refine ah.call o2 rfl rfl ?_) |((with_reducible show av _ _ _ _ _ _ _ _);refine ah.call o3 rfl rfl ?_) |((with_reducible show av _ _ _ _ _ _ _ _);refine ah.call o5 rfl rfl ?_) |refine u1 ?_ |refine u2 ?_ |fail)
   refine RM.dH (mu:=fun _=>false) ?_
   repeat' (first |refine u1 ?_ |refine u2 ?_ |fail)
   refine RM.dH (mu:=fun _=>false) ?_
   repeat' (first |((with_reducible show av _ _ _ _ _ _ _ _);refine ah.call o5 rfl rfl ?_) |refine u1 ?_ |refine u2 ?_ |fail)
   refine aA.seq ?_
   refine RM.dH (mu:=fun _=>false) ?_
   repeat' (first |refine u1 ?_ |refine u2 ?_ |fail)
   refine aA.block ?_
   have hp8:=hpg.len
   refine aA.aU (ak.to (l:=[(2,.pt (ay s) 0),(5,.sl (p.map az) false),(10,.sl (C.map az) false),(11,aC (0:Nat))]) (hp:=[]) 0 rfl ⟨rfl,rfl,rfl,rfl,trivial⟩ (Nat.zero_le _) rfl rfl) ?_
   refine aA.loop (fun k:Nat=>k≤p.length) (fun k=>⟨bu [(2,.pt (ay s) 0),(5,.sl (p.map az) false),(10,.sl (C.map az) false),(11,aC (k:Nat))],[],bR.none,false,0⟩) (fun k=>p.length - k) ?_ 0 (Nat.zero_le _)
   intro k hk
   by_cases hlt:k < p.length
   ·have d1:decide ((k:Int) < ((p.map az).length:Int))=true:=decide_eq_true (by omega)
    have hat:(p.map az)[((k:Nat):Int).toNat]?=some (az p[k]):=bY hlt
    have hin:=jK.2 (k3 _ (List.getElem_mem hlt))
    have oh:=Qk true s.possible false p[k].day (Nat.le_trans (show s.possible.length≤8 by omega) (by decide))
    rw [hin] at oh
    clear hin k3
    generalize p[k]=o at *
    refine aa (mu:=fun _=>false) ?_
    repeat' (first |(refine ⟨_,oh,?_⟩) |refine u1 ?_ |((with_reducible show RM.wpOp _ _ (.indexAddr _ _ _) _ _ _);refine ⟨az o,⟨by omega,hat⟩,rfl,?_⟩) |refine u2 ?_ |fail)
    exact ⟨k+1,hlt,(by dsimp only;omega),ak.to 0 rfl ⟨rfl,rfl,rfl,bM (by simp),trivial⟩ (Nat.zero_le _) rfl rfl⟩
   ·have d1:decide ((k:Int) < ((p.map az).length:Int))=false:=decide_eq_false (by omega)
    by_cases hge:p.length≤C.length
    ·have d2:decide (((p.map az).length:Int)≤((C.map az).length:Int))=true:=decide_eq_true (by omega)
     refine aa (mu:=fun _=>false) ?_
     repeat' (first |refine u1 ?_ |refine u2 ?_ |fail)
     refine aa (mu:=fun _=>false) ?_
     repeat' (first |((with_reducible show av _ _ _ _ _ _ _ _);refine ah.call o6 rfl rfl ?_) |((with_reducible show av _ _ _ _ _ _ _ _);refine ah.call aw rfl rfl ?_) |refine u1 ?_ |refine u2 ?_ |fail)
     exact ⟨[_],⟨Fz.deep rfl,trivial⟩,rfl⟩
    ·have d2:decide (((p.map az).length:Int)≤((C.map az).length:Int))=false:=decide_eq_false (by omega)
     rcases hC with hC|hC
     ·exact absurd hC hge
     ·rw [hC] at o4
      refine aa (mu:=fun _=>false) ?_
      repeat' (first |refine u1 ?_ |refine u2 ?_ |fail)
      refine aa (mu:=fun _=>false) ?_
      repeat' (first |((with_reducible show av _ _ _ _ _ _ _ _);refine ah.call o6 rfl rfl ?_) |((with_reducible show av _ _ _ _ _ _ _ _);refine ah.call o4 rfl rfl ?_) |((with_reducible show av _ _ _ _ _ _ _ _);refine ah.call aw rfl rfl ?_) |refine u1 ?_ |refine u2 ?_ |fail)
      exact ⟨[_],⟨Fz.deep rfl,trivial⟩,rfl⟩
 ·rw [if_neg c1,if_neg c1] at o1
  have d1:(!decide ((iM s).2.2=0))=true:=by rw [decide_eq_false c1];rfl
  have d2:decide ((iM s).2.2=(iM s).2.2)=true:=decide_eq_true rfl
  generalize (iM s).2.2=r at *
  generalize (iM s).1=r1 at *
  generalize (iM s).2.1=r2 at *
  have o1:Pu false 31 [.ag (ay s)] (.tp [.sl [] false,aC r]):=o1
  refine ah.body (fn:=Tryd.f6) rfl rfl rfl rfl ?_
  refine aa (mu:=fun _=>false) ?_
  repeat' (first |(refine RM.Qh rfl rfl rfl rfl ?_) |((with_reducible show av _ _ _ _ _ _ _ _);refine ah.call o1 rfl rfl ?_) |((with_reducible show av _ _ _ _ _ _ _ _);refine ah.call o2 rfl rfl ?_) |((with_reducible show av _ _ _ _ _ _ _ _);refine ah.call aw rfl rfl ?_) |refine u1 ?_ |refine u2 ?_ |fail)
  exact ⟨[_],⟨Fz.deep rfl,trivial⟩,rfl⟩
end Go.Proofs.YtpeogffeoehboaaDoor
