/-
  Contracts of the program's functions and of the document's. Lemmas alone; their conditions stand in them.
-/
import Derived.Test.YtpeogffeoehboaaDoorK2
import Derived.Test.YtpeogffeoehboaaDoorK5
import Derived.Test.YtpeogffeoehboaaDoorK7
import Derived.Test.YtpeogffeoehboaaDoorK13
open Go Go.RM
namespace Go.Proofs.YtpeogffeoehboaaDoor
set_option maxRecDepth 100000
set_option maxHeartbeats 4000000
theorem Mj (L:List Order) (C:List Int) (v w:Nat):vQ 1 0 ([.cells (gF L) 2 v,.cells (dw C) 1 w]:List AB)=true:=by
 show ((false || vP 1 (gF L)) && ((true || vP 1 (dw C)) && true))=true
 rw [kK]
 rfl
theorem rK (C:List Int):(0:Nat)+C.length * 1≤(dw C).length∧(ints C).length=C.length∧(∀ el ∈ ints C,el.length=1)∧(ints C).flatten=((dw C).drop 0).take (C.length * 1) :=
 ⟨by rw [List.length_map];omega,by simp,fun el hel=>by obtain ⟨o,_,rfl⟩:=List.mem_map.1 hel;rfl,by rw [List.drop_zero,List.take_of_length_le (by rw [List.length_map];omega),eV]⟩
theorem gx (L:List Order):(0:Nat)+L.length * 2≤(gF L).length∧(L.map aD).length=L.length∧(∀ el ∈ L.map aD,el.length=2)∧(L.map aD).flatten=((gF L).drop 0).take (L.length * 2) :=
 ⟨by rw [kJ];omega,by simp,fun el hel=>by obtain ⟨o,_,rfl⟩:=List.mem_map.1 hel;rfl,by rw [List.drop_zero,List.take_of_length_le (by rw [kJ];exact Nat.le_refl _)];rfl⟩
abbrev GO (xs:List Nat):List AV:=xs.map U8
theorem P0 {xs:List Nat} {i:Nat} (h:i < xs.length):(GO xs)[0+((i:Nat):Int).toNat * 1]?=some (U8 xs[i]):=by
 rw [Int.toNat_natCast,Nat.zero_add,Nat.mul_one,List.getElem?_map,List.getElem?_eq_getElem h]
 rfl
theorem RN {s:ai} {n:Nat} (h:n < s.needs.length):s.needs[n].weight=xE s (n:Nat):=by
 unfold xE
 rw [Int.toNat_natCast,List.getElem?_eq_getElem h]
theorem KT (one:Bool) {s:ai} (hg:Good s) (xs:List Nat) (hx6:xs.length=6):Pu one 36 [.ag (az s),.ag (GO xs)] (.sl ((wo s xs).map aD) false):=by
 have hm6:=hg.many
 have hn3:=hg.len
 have hld:=hg.load
 have eg:((s.needs.map aV).length:Int)=s.needs.length:=by simp
 have es:((ints s.possible).length:Int)=s.possible.length:=by simp
 have hx1:(AV.ag (GO xs)).cells.all AV.one=true:=by
  show (xs.map U8).all AV.one=true
  rw [List.all_map,List.all_eq_true]
  intro x _
  rfl
 have hdx:cJ (AV.ag (GO xs)).cells=true:=sM (fun _=>rfl) xs
 refine ah.body (fn:=Tryd.f36) rfl rfl rfl rfl ?_
 refine RM.cS (mu:=fun _=>false) ?_
 repeat' (first |(refine RM.Ro rfl rfl hx1 hdx ?_) |refine u1 ?_ |refine u2 ?_ |fail)
 refine RM.cS (mu:=fun _=>false) ?_
 repeat' (first |refine u1 ?_ |refine u2 ?_ |fail)
 refine aA.seq ?_
 refine RM.cS (mu:=fun _=>false) ?_
 repeat' (first |refine u1 ?_ |refine u2 ?_ |fail)
 refine aA.block ?_
 refine aA.aX (aj.trans (aj.qc 2) (aj.NC (l:=[(2,.pt (az s) 0),(3,.pt (GO xs) 0),(5,.bI 0 0 0 (([]:List Order)).length 0),(6,aC (0:Nat))]) (hp:=[.cells (gF ([]:List Order)) 2 0]) 1 rfl ⟨bO.refl _,bO.refl _,bO.qb,bO.refl _,trivial⟩ (Nat.zero_le _) rfl rfl)) ?_
 refine aA.loop (fun x:Nat × Nat × Nat=>x.1≤s.possible.length∧(x.2.2=(fG s xs x.1).length∨x.2.2=(fG s xs x.1).length+1)) (fun x=>⟨bx [(2,.pt (az s) 0),(3,.pt (GO xs) 0),(5,.bI 0 x.2.1 0 ((fG s xs x.1)).length x.2.2),(6,aC (x.1:Nat))],[.cells (gF (fG s xs x.1)) 2 x.2.1],bG.none,false,0⟩) (fun x=>s.possible.length - x.1) ?_ (0,0,0) ⟨Nat.zero_le _,.inl rfl⟩
 rintro ⟨i,aB,c⟩ ⟨hi,hc⟩
 dsimp only at hi hc
 have hln:=sP (s:=s) (xs:=xs) i
 have hend:i=s.possible.length→wo s xs=fG s xs i:=fun e=>by rw [e];rfl
 have hsc:=fun h1 h2=>wq (s:=s) (xs:=xs) (i:=i) h1 h2
 show aA _ _ _ _ ⟨bx [(2,.pt (az s) 0),(3,.pt (GO xs) 0),(5,.bI 0 aB 0 ((fG s xs i)).length c),(6,aC (i:Nat))],[.cells (gF (fG s xs i)) 2 aB],bG.none,false,0⟩ _
 generalize fG s xs i=L at *
 by_cases hlt:i < s.possible.length
 ·have d1:decide ((i:Int) < ((ints s.possible).length:Int))=true:=decide_eq_true (by omega)
  have hix:i < xs.length:=by omega
  have hs1:=hsc hlt hix
  refine RM.cS (mu:=fun _=>false) ?_
  repeat' (first |refine u1 ?_ |refine u2 ?_ |fail)
  refine aA.seq ?_
  refine aA.block ?_
  refine RM.cS (mu:=fun _=>false) ?_
  repeat' (first |refine u1 ?_ |refine u2 ?_ |fail)
  refine RM.cS (mu:=fun _=>false) ?_
  repeat' (first |refine u1 ?_ |refine u2 ?_ |fail)
  refine RM.cutAt (st':=⟨bx [(2,.pt (az s) 0),(3,.pt (GO xs) 0),(5,.bI 0 aB 0 (L).length c),(6,aC (i:Nat)),(7,.sl (ints (cP s xs[i] s.needs.length).1) false)],[.cells (gF L) 2 aB],bG.none,false,0⟩) ?_ ?_
  ·refine RM.cS (mu:=fun _=>false) ?_
   repeat' (first |refine u1 ?_ |refine u2 ?_ |fail)
   refine aA.block ?_
   refine aA.aX (aj.trans (aj.qc 1) (aj.NC (l:=[(2,.pt (az s) 0),(3,.pt (GO xs) 0),(5,.bI 0 aB 0 (L).length c),(6,aC (i:Nat)),(7,.bI 1 0 0 ((cP s xs[i] 0).1).length 0),(8,aC (cP s xs[i] 0).2),(9,aC (0:Nat))]) (hp:=[.cells (gF L) 2 aB,.cells (dw (cP s xs[i] 0).1) 1 0]) 2 rfl ⟨bO.refl _,bO.refl _,bO.refl _,bO.refl _,bO.qb,bO.refl _,bO.refl _,trivial⟩ (Nat.zero_le _) rfl (rD _ _ _ _))) ?_
   refine aA.loop (fun x:Nat × Nat × Nat=>x.1≤s.needs.length∧(x.2.2=((cP s xs[i] x.1).1).length∨x.2.2=((cP s xs[i] x.1).1).length+1)) (fun x=>⟨bx [(2,.pt (az s) 0),(3,.pt (GO xs) 0),(5,.bI 0 aB 0 (L).length c),(6,aC (i:Nat)),(7,.bI 1 x.2.1 0 ((cP s xs[i] x.1).1).length x.2.2),(8,aC (cP s xs[i] x.1).2),(9,aC (x.1:Nat))],[.cells (gF L) 2 aB,.cells (dw (cP s xs[i] x.1).1) 1 x.2.1],bG.none,false,0⟩) (fun x=>s.needs.length - x.1) ?_ (0,0,0) ⟨Nat.zero_le _,.inl rfl⟩
   rintro ⟨m,v2,c2⟩ ⟨hm,hc2⟩
   dsimp only at hm hc2
   obtain ⟨k1,k2,k3,k4,_⟩:=rE hg xs[i] m
   have hs1:=wm (s:=s) (raw:=xs[i]) (k:=m)
   have hC:m=s.needs.length→(cP s xs[i] m).1=(cP s xs[i] s.needs.length).1:=fun e=>by rw [e]
   show aA _ _ _ _ ⟨bx [(2,.pt (az s) 0),(3,.pt (GO xs) 0),(5,.bI 0 aB 0 (L).length c),(6,aC (i:Nat)),(7,.bI 1 v2 0 ((cP s xs[i] m).1).length c2),(8,aC (cP s xs[i] m).2),(9,aC (m:Nat))],[.cells (gF L) 2 aB,.cells (dw (cP s xs[i] m).1) 1 v2],bG.none,false,0⟩ _
   generalize hp:cP s xs[i] m=st at *
   obtain ⟨C,w⟩:=st
   dsimp only at hc2 k1 k2 k3 k4 hs1 hC ⊢
   have hgl:(dw C).length=C.length:=by rw [List.length_map]
   by_cases hlm:m < s.needs.length
   ·have d3:decide ((m:Int) < ((s.needs.map aV).length:Int))=true:=decide_eq_true (by omega)
    have hm8:m < 8:=by omega
    have hax:=P0 hix
    have hat:(s.needs.map aV)[((m:Nat):Int).toNat]?=some (aV s.needs[m]):=cI hlm
    have hwb:=Fm hg (m:Nat)
    have hww:=RN hlm
    have hbit:xs[i] / 2 ^ m % 2=if xs[i].testBit m=true then 1 else 0:=by
     rw [Nat.testBit_eq_decide_div_mod_eq]
     have:=Nat.mod_two_eq_zero_or_one (xs[i] / 2 ^ m)
     rcases this with e|e <;> rw [e] <;> simp
    have hi6:(i:Int) < 6:=by omega
    clear hp hC hend hsc
    cases hbt:xs[i].testBit m with
    | false =>
     rw [hbt,if_neg (by simp)] at hbit
     rw [hbt,if_neg (by simp)] at hs1
     have d4:decide (((xs[i] / 2 ^ m % 2:Nat):Int)=1)=false:=decide_eq_false (by rw [hbit];decide)
     generalize xs[i]=raw at *
     refine aa (mu:=fun _=>false) ?_
     repeat' (first |(refine RM.Qf rfl rfl hax ?_) |(refine Fi rfl rfl hm8 ?_) |(refine Fj rfl rfl ?_) |(refine PB rfl rfl ?_) |refine u1 ?_ |refine u2 ?_ |fail)
     exact ⟨(m+1,v2,c2),⟨hlm,(by dsimp only;rw [hs1];exact hc2)⟩,(by dsimp only;omega),aj.to 2 (by dsimp only;rw [hs1];rfl) ⟨rfl,rfl,rfl,rfl,(by rw [hs1];rfl),(by rw [hs1];rfl),bW (by simp),trivial⟩ (Nat.zero_le _) rfl (rD _ _ _ _)⟩
    | true =>
     rw [hbt,if_pos rfl] at hbit
     rw [hbt] at hs1
     have d4:decide (((xs[i] / 2 ^ m % 2:Nat):Int)=1)=true:=decide_eq_true (by rw [hbit];decide)
     generalize xs[i]=raw at *
     generalize s.needs[m]=g at *
     by_cases hle:w+xE s (m:Nat)≤s.load
     ·rw [if_pos ⟨rfl,hle⟩] at hs1
      rw [←hww] at hs1 hle hwb
      have d5:=decide_eq_true hle
      refine aa (mu:=fun _=>false) ?_
      repeat' (first |(refine RM.Qf rfl rfl hax ?_) |(refine Fi rfl rfl hm8 ?_) |(refine Fj rfl rfl ?_) |(refine PB rfl rfl ?_) |(refine RM.DP (cs:=dw C) (n:=C.length) (els:=[eI (m:Nat)]) rfl rfl rfl rfl rfl (fun el hel=>by rw [List.mem_singleton.1 hel];rfl) rfl rfl (by rw [hgl];exact (Nat.mul_one _).symm) hc2 (by simp only [List.length_singleton];omega) (fun v' c' hc'=>?_)) |refine u1 ?_ |(refine ⟨aV g,⟨by omega,hat⟩,rfl,?_⟩) |refine u2 ?_ |fail)
      exact ⟨(m+1,v',c'),⟨hlm,(by dsimp only;rw [hs1];dsimp only;rw [List.length_append];exact hc')⟩,(by dsimp only;omega),aj.to 2 (by dsimp only;rw [hs1];unfold dw;rw [List.map_append];rfl) ⟨rfl,rfl,rfl,rfl,(by rw [hs1];dsimp only;rw [List.length_append];rfl),(by rw [hs1];rfl),bW (by simp),trivial⟩ (Nat.zero_le _) rfl (rD _ _ _ _)⟩
     ·rw [if_neg (fun h=>hle h.2)] at hs1
      rw [←hww] at hle hwb
      have d5:=decide_eq_false hle
      refine aa (mu:=fun _=>false) ?_
      repeat' (first |(refine RM.Qf rfl rfl hax ?_) |(refine Fi rfl rfl hm8 ?_) |(refine Fj rfl rfl ?_) |(refine PB rfl rfl ?_) |refine u1 ?_ |(refine ⟨aV g,⟨by omega,hat⟩,rfl,?_⟩) |refine u2 ?_ |fail)
      exact ⟨(m+1,v2,c2),⟨hlm,(by dsimp only;rw [hs1];exact hc2)⟩,(by dsimp only;omega),aj.to 2 (by dsimp only;rw [hs1];rfl) ⟨rfl,rfl,rfl,rfl,(by rw [hs1];rfl),(by rw [hs1];rfl),bW (by simp),trivial⟩ (Nat.zero_le _) rfl (rD _ _ _ _)⟩
   ·have d3:decide ((m:Int) < ((s.needs.map aV).length:Int))=false:=decide_eq_false (by omega)
    have hCe:=hC (by omega)
    rw [←hCe]
    refine aa (mu:=fun _=>false) ?_
    repeat' (first |refine u1 ?_ |refine u2 ?_ |fail)
    exact .is (aj.trans (aj.giveUp 1 (l:=[(2,.pt (az s) 0),(3,.pt (GO xs) 0),(5,.bI 0 aB 0 (L).length c),(6,aC (i:Nat)),(7,.sl (ints C) false)]) (hp:=[.cells (gF L) 2 aB,.gone]) rfl (Nat.zero_le _) (lG _) ⟨.same rfl,.same rfl,.same rfl,.same rfl,.row 1 (rK _).1 (rK _).2.1 (rK _).2.2.1 (rK _).2.2.2 (fun h=>Bool.noConfusion h),trivial⟩ (Mj _ _ _ _) rfl) (aj.to 1 rfl ⟨rfl,rfl,rfl,rfl,rfl,trivial⟩ (Nat.zero_le _) rfl (lJ _ _)))
  ·have hat:(ints s.possible)[((i:Nat):Int).toNat]?=some (eI s.possible[i]):=cI hlt
   have k1:=(rE hg xs[i] s.needs.length).1
   generalize s.possible[i]=d at *
   generalize (cP s xs[i] s.needs.length).1=C at *
   have ec:((ints C).length:Int)=C.length:=by simp
   by_cases he:C=[]
   ·rw [if_pos he] at hs1
    have d3:decide (0 < ((ints C).length:Int))=false:=by rw [he];rfl
    refine aa (mu:=fun _=>false) ?_
    repeat' (first |refine u1 ?_ |refine u2 ?_ |fail)
    refine aa (mu:=fun _=>false) ?_
    repeat' (first |refine u1 ?_ |refine u2 ?_ |fail)
    exact ⟨(i+1,aB,c),⟨hlt,by dsimp only;rw [hs1];exact hc⟩,(by dsimp only;omega),aj.to 1 (by dsimp only;rw [hs1];rfl) ⟨rfl,rfl,(by rw [hs1];rfl),bW (by simp),trivial⟩ (Nat.zero_le _) rfl (lJ _ _)⟩
   ·rw [if_neg he] at hs1
    have hl:1≤C.length:=by
     cases C with
     | nil=>exact absurd rfl he
     | cons a l=>simp
    have d3:decide (0 < ((ints C).length:Int))=true:=decide_eq_true (by omega)
    refine aa (mu:=fun _=>false) ?_
    repeat' (first |(refine RM.DP (cs:=gF L) (n:=L.length) (els:=[aD ⟨d,C⟩]) rfl rfl rfl rfl rfl (fun el hel=>by rw [List.mem_singleton.1 hel];rfl) rfl rfl (kJ L) hc (by simp only [List.length_singleton];omega) (fun v' c' hc'=>?_)) |refine u1 ?_ |(refine ⟨eI d,⟨by omega,hat⟩,rfl,?_⟩) |refine u2 ?_ |fail)
    refine aa (mu:=fun _=>false) ?_
    repeat' (first |refine u1 ?_ |refine u2 ?_ |fail)
    exact ⟨(i+1,v',c'),⟨hlt,by dsimp only;rw [hs1,List.length_append];exact hc'⟩,(by dsimp only;omega),aj.to 1 (by dsimp only;rw [hs1,←Ky];rfl) ⟨rfl,rfl,(by rw [hs1,List.length_append];rfl),bW (by simp),trivial⟩ (Nat.zero_le _) rfl (lJ _ _)⟩
 ·have d1:decide ((i:Int) < ((ints s.possible).length:Int))=false:=decide_eq_false (by omega)
  have he:=hend (by omega)
  rw [he]
  refine aa (mu:=fun _=>false) ?_
  repeat' (first |refine u1 ?_ |refine u2 ?_ |fail)
  refine aa (mu:=fun _=>false) ?_
  repeat' (first |refine u1 ?_ |refine u2 ?_ |fail)
  exact ⟨[_],⟨Fz.row (es:=2) rfl (gx _).1 (gx _).2.1 (gx _).2.2.1 (gx _).2.2.2 (lI _) (fun h=>Bool.noConfusion h),trivial⟩,rfl⟩
def rL (s:ai):Int:=if (i7 s).2.2=0 then (match iZ s s.possible with|none=>9|some _=>0) else (i7 s).2.2
def CN (s:ai):List Order:=if (i7 s).2.2=0 then (iZ s s.possible).getD [] else []
theorem yP:∀ {P:List Order} {n:Nat},(h:n < P.length)→(gF P)[n * 2+1]?=some (.sl (ints P[n].aO) false)
 | o :: P,0,_=>rfl
 | o :: P,n+1,h=>by
  rw [show (n+1) * 2+1=n * 2+1+1+1 by omega]
  show (aC o.day :: AV.sl (ints o.aO) false :: gF P)[n * 2+1+1+1]?=_
  rw [List.getElem?_cons_succ,List.getElem?_cons_succ,yP (by simpa using h)]
  rfl
theorem KU:∀ {P:List Order} {n:Nat},(h:n < P.length)→cX (gF P) [.sl (ints P[n].aO) false] (n * 2+1)=gF P:=by
 intro P n h
 rw [Ap h]
 congr 1
 unfold Ef
 rw [List.modify_eq_take_cons_drop h]
 conv=>rhs;rw [←List.take_append_drop n P,List.drop_eq_getElem_cons h]
theorem CO (one:Bool) (s:ai) (hs:s.Ok):Pu one 31 [.ag (az s)] (.tp [.sl ((CN s).map aD) false,aC (rL s)]):=by
 have o1:=Fl one s hs
 unfold CN rL
 by_cases c1:(i7 s).2.2=0
 ·rw [ru c1] at o1
  rw [if_pos c1,if_pos c1]
  have hg:=kW c1
  have hm:=hg.many
  obtain ⟨p1,p2⟩:=rF hg
  have hdp:s.possible.Pairwise (· < ·):=List.pairwise_iff_getElem.2 fun i j hi hj hij=>p2 i j hi hj hij
  have hdr:∀ x ∈ s.possible,0≤x∧x < s.days:=fun x hx=>by obtain ⟨i,hi,rfl⟩:=List.mem_iff_getElem.1 hx;exact p1 i hi
  have hfc:=fun (aE:bG) (Q:AV→List AB→bG→Prop) (hQ:Q (So (iZ s s.possible)) (Sq (iZ s s.possible)) aE)=>NM one hg (days:=s.possible) false hm hdp hdr (aE:=aE) (Q:=Q) hQ
  have hsm:=fun p (h:iZ s s.possible=some p)=>CM c1 h
  clear hdp hdr p1 p2
  cases hf:iZ s s.possible with
  | none =>
   rw [hf] at hfc
   clear hsm
   refine ah.body (fn:=Tryd.f31) rfl rfl rfl rfl ?_
   refine aa (mu:=fun _=>false) ?_
   repeat' (first |(refine ah.call o1 rfl rfl ?_) |(refine hfc _ _ ?_) |refine u1 ?_ |refine u2 ?_ |fail)
   exact ⟨[_,_],⟨Fz.nil,Fz.deep rfl,trivial⟩,rfl⟩
  | some p =>
   obtain ⟨hz,_,_,_⟩:=hsm p hf
   have hpg:=jQ hz
   clear hsm hz
   rw [hf] at hfc
   cases p with
   | nil =>
    have hfc:∀ (aE:bG) (Q:AV→List AB→bG→Prop),Q (.tp [.fl (.slice none 0 0),BB true]) [] aE→av TT TB one (.fn 65 [] []) [.ag (az s),.sl (ints s.possible) false] [] aE Q:=hfc
    refine ah.body (fn:=Tryd.f31) rfl rfl rfl rfl ?_
    refine RM.cS (mu:=fun _=>false) ?_
    repeat' (first |refine u1 ?_ |refine u2 ?_ |fail)
    refine RM.cS (mu:=fun _=>false) ?_
    repeat' (first |(refine ah.call o1 rfl rfl ?_) |(refine hfc _ _ ?_) |refine u1 ?_ |refine u2 ?_ |fail)
    refine RM.cS (mu:=fun _=>false) ?_
    repeat' (first |(refine hfc _ _ ?_) |refine u1 ?_ |refine u2 ?_ |fail)
    refine RM.cS (mu:=fun _=>false) ?_
    repeat' (first |refine u1 ?_ |refine u2 ?_ |fail)
    refine aA.aX (aj.NC (l:=[(7,.sl [] false)]) (hp:=[]) 0 rfl ⟨bO.nil false,trivial⟩ (Nat.zero_le _) rfl rfl) ?_
    refine aA.seq ?_
    refine RM.cS (mu:=fun _=>false) ?_
    repeat' (first |refine u1 ?_ |refine u2 ?_ |fail)
    refine aA.block ?_
    refine aA.aX (aj.to (l:=[(7,.sl [] false),(30,aC 0),(31,aC 0)]) (hp:=[]) 0 rfl ⟨rfl,rfl,rfl,trivial⟩ (Nat.zero_le _) rfl rfl) ?_
    refine aA.loop (fun _:Unit=>True) (fun _=>⟨bx [(7,.sl [] false),(30,aC 0),(31,aC 0)],[],bG.none,false,0⟩) (fun _=>0) ?_ () trivial
    intro _ _
    refine aa (mu:=fun _=>false) ?_
    repeat' (first |refine u1 ?_ |refine u2 ?_ |fail)
    refine aa (mu:=fun _=>false) ?_
    repeat' (first |refine u1 ?_ |refine u2 ?_ |fail)
    exact ⟨[_,_],⟨Fz.deep rfl,Fz.deep rfl,trivial⟩,rfl⟩
   | cons a l =>
    have hfc:∀ (aE:bG) (Q:AV→List AB→bG→Prop),Q (.tp [.bI 0 0 0 (a :: l).length ((a :: l).length+1),BB true]) [fo (a :: l) 0] aE→av TT TB one (.fn 65 [] []) [.ag (az s),.sl (ints s.possible) false] [] aE Q:=hfc
    refine ah.body (fn:=Tryd.f31) rfl rfl rfl rfl ?_
    refine RM.cS (mu:=fun _=>false) ?_
    repeat' (first |refine u1 ?_ |refine u2 ?_ |fail)
    refine RM.cS (mu:=fun _=>false) ?_
    repeat' (first |(refine ah.call o1 rfl rfl ?_) |(refine hfc _ _ ?_) |refine u1 ?_ |refine u2 ?_ |fail)
    refine RM.cS (mu:=fun _=>false) ?_
    repeat' (first |(refine hfc _ _ ?_) |refine u1 ?_ |refine u2 ?_ |fail)
    refine RM.cS (mu:=fun _=>false) ?_
    repeat' (first |refine u1 ?_ |refine u2 ?_ |fail)
    refine aA.seq ?_
    refine RM.cS (mu:=fun _=>false) ?_
    repeat' (first |refine u1 ?_ |refine u2 ?_ |fail)
    refine aA.block ?_
    refine aA.aX (aj.to (l:=[(7,.bI 0 0 0 (a :: l).length ((a :: l).length+1)),(30,aC ((a :: l).length:Nat)),(31,aC (0:Nat))]) (hp:=[fo (a :: l) 0]) 1 rfl ⟨rfl,rfl,rfl,trivial⟩ (Nat.zero_le _) rfl (lJ _ _)) ?_
    revert hpg
    generalize a :: l=P
    intro hpg
    have hlen:=hpg.len
    have hgl:=hpg.good.len
    refine aA.loop (fun k:Nat=>k≤P.length) (fun k=>⟨bx [(7,.bI 0 0 0 P.length (P.length+1)),(30,aC (P.length:Nat)),(31,aC (k:Nat))],[fo P 0],bG.none,false,0⟩) (fun k=>P.length - k) ?_ 0 (Nat.zero_le _)
    intro k hk
    by_cases hlt:k < P.length
    ·have d1:decide ((k:Int) < (P.length:Int))=true:=decide_eq_true (by omega)
     have hat:=yP hlt
     have hsame:=KU hlt
     have hok:=hpg.order _ (List.getElem_mem hlt)
     have hc1:=hok.some
     have hc3:=hok.len
     clear hok
     generalize P[k].aO=c at *
     have hat':(gF P)[0+((k:Nat):Int).toNat * 2+1]?=some (.sl (ints c) false):=by rw [Int.toNat_natCast,Nat.zero_add];exact hat
     have hset':cX (gF P) [.sl (ints c) false] (0+((k:Nat):Int).toNat * 2+1)=gF P:=by rw [Int.toNat_natCast,Nat.zero_add];exact hsame
     have hsb:Nat.ble (0+((k:Nat):Int).toNat * 2+1+1) (gF P).length=true:=Nat.ble_eq_true_of_le (by rw [kJ,Int.toNat_natCast];omega)
     have oc:=LX one c false (fun h=>by rw [h] at hc1;simp at hc1) (by omega)
     refine aa (mu:=fun _=>false) ?_
     repeat' (first |(refine RM.LF rfl rfl rfl hat' ?_) |(refine ah.call oc rfl rfl ?_) |(refine RM.ND rfl rfl rfl rfl rfl rfl hsb ?_) |refine u1 ?_ |refine u2 ?_ |fail)
     refine ⟨k+1,hlt,(by dsimp only;omega),aj.to 1 (by show [AB.cells (cX (gF P) [.sl (ints c) false] (0+((k:Nat):Int).toNat * 2+1)) 2 0]=[AB.cells (gF P) 2 0];rw [hset']) ⟨rfl,rfl,bW (by simp),trivial⟩ (Nat.zero_le _) rfl (lJ _ _)⟩
    ·have d1:decide ((k:Int) < (P.length:Int))=false:=decide_eq_false (by omega)
     refine aa (mu:=fun _=>false) ?_
     repeat' (first |refine u1 ?_ |refine u2 ?_ |fail)
     refine aa (mu:=fun _=>false) ?_
     repeat' (first |refine u1 ?_ |refine u2 ?_ |fail)
     exact ⟨[_,_],⟨Fz.row (es:=2) rfl (gx _).1 (gx _).2.1 (gx _).2.2.1 (gx _).2.2.2 (lI _) (fun h=>Bool.noConfusion h),Fz.deep rfl,trivial⟩,rfl⟩
 ·rw [if_neg c1,if_neg c1]
  refine ah.body (fn:=Tryd.f31) rfl rfl rfl rfl ?_
  have d1:(!decide ((i7 s).2.2=0))=true:=by rw [decide_eq_false c1];rfl
  refine aa (mu:=fun _=>false) ?_
  repeat' (first |refine u1 ?_ |(refine ah.call o1 rfl rfl ?_) |refine u2 ?_ |fail)
  exact ⟨[_,_],⟨Fz.nil,Fz.deep rfl,trivial⟩,rfl⟩
end Go.Proofs.YtpeogffeoehboaaDoor
