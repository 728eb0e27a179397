/-
  Contracts of the program's functions and of the document's. Lemmas alone; their conditions stand in them.
-/
import Derived.Test.YtlpmfgmldmdggaaGreatK2
open Go Go.RM
namespace Go.Proofs.YtlpmfgmldmdggaaGreat
set_option maxRecDepth 100000
set_option maxHeartbeats 4000000
theorem tZ {α:Type} {nm:α→ByteArray} {err:α→Int} {l:List α} {k:Nat} (h:k < l.length):cQ nm err l k=if kE (nm l[k]) ((l.take k).map nm) ≠ 0 then kE (nm l[k]) ((l.take k).map nm) else err l[k]:=by
 unfold cQ kE;rw [List.getElem?_eq_getElem h,List.any_map];simp only;have e1:(List.any (l.take k) ((fun x=>tY x (nm l[k])) ∘ nm))=(l.take k).any fun y=>tY (nm y) (nm l[k]):=rfl;rw [e1]
 cases gO (nm l[k]) with
 | false=>simp
 | true=>cases ((l.take k).any fun y=>tY (nm y) (nm l[k])) <;> simp
theorem Kg (lo hi a b c:Int):fk lo hi [a,b,c]=(!jy a lo hi || (!jy b lo hi || !jy c lo hi)):=by have h1:=cO a lo hi;have h2:=cO b lo hi;have h3:=cO c lo hi;rw [←h1,←h2,←h3];unfold fk;simp
def gN (l:List ByteArray):List AV:=l.map fun x=>ST x
theorem DO {l:List ByteArray} {k:Nat} (h:k < l.length):gN (l.take (k+1))=gN (l.take k)++[ST l[k]]:=by unfold gN;rw [List.take_add_one,List.getElem?_eq_getElem h,List.map_append];rfl
theorem DP (l:List ByteArray):(l.map eS).flatten=gN l:=by
 induction l with
 | nil=>rfl
 | cons a l ih =>simp only [List.map_cons,List.flatten_cons,ih];rfl
theorem GR (l:List ByteArray):cI (gN l)=true:=by
 induction l with
 | nil=>rfl
 | cons a l ih=>exact ih
theorem I9 (n:Nat) (l:List ByteArray):mU n (gN l)=true:=by
 induction l with
 | nil=>rfl
 | cons a l ih=>exact ih
theorem zO (l:List ByteArray):(gN l).length=l.length:=by unfold gN;simp
theorem GS {B:List AB} (l:List ByteArray) {n v c:Nat} (h:l.length=n):Fz (.cells (gN l) 1 v :: B) (.aJ 0 v 0 n c) (.sl (l.map eS) false) :=
 Fz.row (es:=1) rfl (by rw [zO];omega) (by simp;omega) (fun el hel=>by obtain ⟨x,_,rfl⟩:=List.mem_map.1 hel;rfl) (by rw [DP,List.drop_zero,List.take_of_length_le (by rw [zO];omega)]) (by rw [DP];exact GR _) (fun h=>Bool.noConfusion h)
theorem zP (l:List ByteArray) (v:Nat):([.cells (gN l) 1 v]:List AB).all (AB.ig 1)=true:=by have h:AB.ig 1 (.cells (gN l) 1 v)=true:=I9 1 l;simp only [List.all_cons,List.all_nil,h,Bool.and_true]
theorem GU (one:Bool) (c:aL) (h:c.Ok):Pu one 17 [.ag (aI c)] (.tp [af (nr c).1,af (nr c).2.1,af (nr c).2.2]):=by
 have eg:((c.aC.map aT).length:Int)=c.aC.length:=by simp
 have em:((c.aD.map aZ).length:Int)=c.aD.length:=by simp
 have o1:=iS one ((c.aC.map aT).length:Int) 1 3;have o2:=iS one ((c.aD.map aZ).length:Int) 1 5;have o3:=iS one c.least 0 5;rw [eg] at o1;rw [em] at o2
 cases e1:jy (c.aC.length:Int) 1 3 with
 | false =>
  rw [e1,←eg] at o1;have hc:nr c=(1,0,3):=by unfold nr;rw [cO,e1,if_pos (by rfl)]
  rw [hc];refine ak.body (fn:=Tryz.f17) rfl rfl rfl rfl ?_;refine aa (mu:=fun t=>Nat.beq t 48 || Nat.beq t 99) ?_;repeat' first|refine u1 ?_|((with_reducible refine qq3 ?_);refine ak.call o1 rfl rfl ?_)|((with_reducible refine qq3 ?_);refine ak.call o2 rfl rfl ?_)|((with_reducible refine qq3 ?_);refine ak.call o3 rfl rfl ?_)|refine u2 ?_|fail
  exact ⟨[_,_,_],⟨Fz.deep rfl,Fz.deep rfl,Fz.deep rfl,trivial⟩,rfl⟩
 | true =>
  rw [e1,←eg] at o1
  cases e2:jy (c.aD.length:Int) 1 5 with
  | false =>
   rw [e2,←em] at o2;have hc:nr c=(1,0,3):=by unfold nr;rw [cO,cO,e1,e2,if_pos (by rfl)]
   rw [hc];refine ak.body (fn:=Tryz.f17) rfl rfl rfl rfl ?_;refine aa (mu:=fun t=>Nat.beq t 48 || Nat.beq t 99) ?_;repeat' first|refine u1 ?_|((with_reducible refine qq3 ?_);refine ak.call o1 rfl rfl ?_)|((with_reducible refine qq3 ?_);refine ak.call o2 rfl rfl ?_)|((with_reducible refine qq3 ?_);refine ak.call o3 rfl rfl ?_)|refine u2 ?_|fail
   exact ⟨[_,_,_],⟨Fz.deep rfl,Fz.deep rfl,Fz.deep rfl,trivial⟩,rfl⟩
  | true =>
   rw [e2,←em] at o2
   cases e3:jy c.least 0 5 with
   | false =>
    rw [e3] at o3;have hc:nr c=(1,0,7):=by unfold nr;rw [cO,cO,cO,e1,e2,e3,if_neg (by simp),if_pos (by rfl)]
    rw [hc];refine ak.body (fn:=Tryz.f17) rfl rfl rfl rfl ?_;refine aa (mu:=fun t=>Nat.beq t 48 || Nat.beq t 99) ?_;repeat' first|refine u1 ?_|((with_reducible refine qq3 ?_);refine ak.call o1 rfl rfl ?_)|((with_reducible refine qq3 ?_);refine ak.call o2 rfl rfl ?_)|((with_reducible refine qq3 ?_);refine ak.call o3 rfl rfl ?_)|refine u2 ?_|fail
    exact ⟨[_,_,_],⟨Fz.deep rfl,Fz.deep rfl,Fz.deep rfl,trivial⟩,rfl⟩
   | true =>
    rw [e3] at o3;have hcc:nr c=if (cm c.aC.length (FB c)).2 ≠ 0 then (2,(cm c.aC.length (FB c)).1,(cm c.aC.length (FB c)).2) else if (cm c.aD.length (Ag c)).2 ≠ 0 then (3,(cm c.aD.length (Ag c)).1,(cm c.aD.length (Ag c)).2) else (0,0,0):=by unfold nr;rw [cO,cO,cO,e1,e2,e3,if_neg (by simp),if_neg (by simp)]
    have b1:=fQ.1 e1;have b2:=fQ.1 e2;have z00:decide ((0:Int)=0)=true:=by decide
    have z70:decide ((7:Int)=0)=false:=by decide
    have z40:decide ((4:Int)=0)=false:=by decide
    have n00:(!decide ((0:Int)=0))=false:=by decide
    have n70:(!decide ((7:Int)=0))=true:=by decide
    have n40:(!decide ((4:Int)=0))=true:=by decide
    refine ak.body (fn:=Tryz.f17) rfl rfl rfl rfl ?_;refine aa (mu:=fun t=>Nat.beq t 48 || Nat.beq t 99) ?_;repeat' first|refine u1 ?_|((with_reducible refine qq3 ?_);refine ak.call o1 rfl rfl ?_)|((with_reducible refine qq3 ?_);refine ak.call o2 rfl rfl ?_)|((with_reducible refine qq3 ?_);refine ak.call o3 rfl rfl ?_)|refine u2 ?_|fail
    refine aB.aO (ah.trans (ah.to (l:=[(1,.pt (aI c) 0),(5,.fl (.slice none 0 0)),(6,af ((0:Nat):Int))]) (hp:=[]) 0 rfl ⟨rfl,rfl,rfl,trivial⟩ (qq5 _) rfl rfl) (ah.trans (ah.mZ 1) (ah.IL (l:=[(1,.pt (aI c) 0),(5,.aJ 0 (0,0,0).2.1 0 (0,0,0).1 (0,0,0).2.2),(6,af ((0,0,0).1:Nat))]) (hp:=[.cells (gN ((c.aC.map fc.name).take (0,0,0).1)) 1 (0,0,0).2.1]) 1 rfl ⟨dP.refl _,dP.mY,dP.refl _,trivial⟩ (qq5 _) rfl (zP _ _)))) ?_;refine aB.loop (fun x:Nat × Nat × Nat=>x.1≤c.aC.length∧(∀ i,i < x.1→FB c i=0)∧(x.2.2=x.1∨x.2.2=x.1+1)) (fun x=>⟨aM [(1,.pt (aI c) 0),(5,.aJ 0 x.2.1 0 x.1 x.2.2),(6,af (x.1:Nat))],[.cells (gN ((c.aC.map fc.name).take x.1)) 1 x.2.1],bq.none,false,0⟩) (fun x=>c.aC.length - x.1) ?_ (0,0,0) ⟨qq5 _,(fun i hi=>absurd hi (Nat.not_lt_zero _)),.inl rfl⟩;rintro ⟨k,aK,cc⟩ ⟨hk,hprev,hcap⟩;dsimp only at hk hprev hcap;show aB _ _ _ _ ⟨aM [(1,.pt (aI c) 0),(5,.aJ 0 (k,aK,cc).2.1 0 (k,aK,cc).1 (k,aK,cc).2.2),(6,af ((k,aK,cc).1:Nat))],[.cells (gN ((c.aC.map fc.name).take (k,aK,cc).1)) 1 (k,aK,cc).2.1],bq.none,false,0⟩ _;dsimp only;refine aa (mu:=fun t=>Nat.beq t 48 || Nat.beq t 99) ?_;by_cases hlt:k < c.aC.length
    ·have d1:decide ((k:Int) < ((c.aC.map aT).length:Int))=true:=decide_eq_true (by omega);have hat:(c.aC.map aT)[((k:Nat):Int).toNat]?=some (aT c.aC[k]):=dN hlt;have hga:FB c k=_:=tZ (nm:=fc.name) (err:=dB) hlt;have hln:(c.aC.map fc.name).length=c.aC.length:=by simp
     have htl:((c.aC.map fc.name).take k).length=k:=by rw [List.length_take,hln];omega
     have hgl:(gN ((c.aC.map fc.name).take k)).length=k:=by rw [zO,htl]
     have hst:gN ((c.aC.map fc.name).take (k+1))=gN ((c.aC.map fc.name).take k)++[ST c.aC[k].name]:=by rw [DO (by omega),List.getElem_map]
     have hfr:=DN one ((c.aC.map fc.name).take k) false c.aC[k].name (h.CW _ (List.getElem_mem hlt)) (by rw [htl];simp [maxLen];omega);rw [List.map_take] at hga;have hre:dB c.aC[k]=if jy c.aC[k].Fy 0 1000=false∨jy c.aC[k].leave 0 1000=false∨jy c.aC[k].FA 0 1000=false∨jy c.aC[k].rJ 0 1000=false then 7 else 0:=by unfold dB;rw [cO,Kg];cases jy c.aC[k].Fy 0 1000 <;> cases jy c.aC[k].leave 0 1000 <;> cases jy c.aC[k].FA 0 1000 <;> cases jy c.aC[k].rJ 0 1000 <;> rfl
     have o6:=iS one c.aC[k].Fy 0 1000;have o7:=iS one c.aC[k].leave 0 1000;have o8:=iS one c.aC[k].FA 0 1000;have o9:=iS one c.aC[k].rJ 0 1000;have fin:∀ v,FB c k=v→v ≠ 0→nr c=(2,(k:Int),v):=fun v e hv=>by rw [hcc,k8 hlt hprev (by rw [e];exact hv),e,if_pos hv]
     generalize c.aC[k]=g at *
     generalize kE g.name ((c.aC.map fc.name).take k)=f at *
     rw [hre] at hga;repeat' first|((with_reducible show RM.wpOp _ _ (.call _) _ _ _);refine RM.sR (cs:=gN ((c.aC.map fc.name).take k)) (n:=k) (els:=[eS g.name]) rfl rfl rfl rfl rfl (fun el hel=>by rw [List.mem_singleton.1 hel];rfl) rfl rfl (by rw [hgl];exact (Nat.mul_one _).symm) hcap (by simp only [List.length_singleton];omega) (fun v' c' hc'=>?_))|refine u1 ?_|((with_reducible refine qq4 ?_);refine ⟨aT g,⟨by omega,hat⟩,rfl,?_⟩)|((with_reducible refine qq3 ?_);refine ak.KN hfr rfl (zG.two (Fz.deep rfl) (GS _ htl)) (mV.fl _) ?_)|refine u2 ?_|fail
     by_cases g1:f=0
     ·rw [if_neg (by omega)] at hga;have d7:decide (f=0)=true:=decide_eq_true g1;have d7':(!decide (f=0))=false:=by rw [d7];rfl
      have bad:(jy g.Fy 0 1000=false∨jy g.leave 0 1000=false∨jy g.FA 0 1000=false∨jy g.rJ 0 1000=false)→nr c=(2,(k:Int),7):=fun hb2=>by rw [if_pos hb2] at hga;exact fin 7 hga (by decide)
      cases g2:jy g.Fy 0 1000 with
      | false =>
       rw [g2] at o6;rw [bad (.inl g2)];repeat' first|((with_reducible refine qq3 ?_);refine ak.call o6 rfl rfl ?_)|((with_reducible refine qq3 ?_);refine ak.call o7 rfl rfl ?_)|((with_reducible refine qq3 ?_);refine ak.call o8 rfl rfl ?_)|((with_reducible refine qq3 ?_);refine ak.call o9 rfl rfl ?_)|refine u1 ?_|refine u2 ?_|fail
       exact ⟨[_,_,_],⟨Fz.deep rfl,Fz.deep rfl,Fz.deep rfl,trivial⟩,rfl⟩
      | true =>
       rw [g2] at o6
       cases g3:jy g.leave 0 1000 with
       | false =>
        rw [g3] at o7;rw [bad (.inr (.inl g3))];repeat' first|((with_reducible refine qq3 ?_);refine ak.call o6 rfl rfl ?_)|((with_reducible refine qq3 ?_);refine ak.call o7 rfl rfl ?_)|((with_reducible refine qq3 ?_);refine ak.call o8 rfl rfl ?_)|((with_reducible refine qq3 ?_);refine ak.call o9 rfl rfl ?_)|refine u1 ?_|refine u2 ?_|fail
        exact ⟨[_,_,_],⟨Fz.deep rfl,Fz.deep rfl,Fz.deep rfl,trivial⟩,rfl⟩
       | true =>
        rw [g3] at o7
        cases g4:jy g.FA 0 1000 with
        | false =>
         rw [g4] at o8;rw [bad (.inr (.inr (.inl g4)))];repeat' first|((with_reducible refine qq3 ?_);refine ak.call o6 rfl rfl ?_)|((with_reducible refine qq3 ?_);refine ak.call o7 rfl rfl ?_)|((with_reducible refine qq3 ?_);refine ak.call o8 rfl rfl ?_)|((with_reducible refine qq3 ?_);refine ak.call o9 rfl rfl ?_)|refine u1 ?_|refine u2 ?_|fail
         exact ⟨[_,_,_],⟨Fz.deep rfl,Fz.deep rfl,Fz.deep rfl,trivial⟩,rfl⟩
        | true =>
         rw [g4] at o8
         cases g5:jy g.rJ 0 1000 with
         | false =>
          rw [g5] at o9;rw [bad (.inr (.inr (.inr g5)))];repeat' first|((with_reducible refine qq3 ?_);refine ak.call o6 rfl rfl ?_)|((with_reducible refine qq3 ?_);refine ak.call o7 rfl rfl ?_)|((with_reducible refine qq3 ?_);refine ak.call o8 rfl rfl ?_)|((with_reducible refine qq3 ?_);refine ak.call o9 rfl rfl ?_)|refine u1 ?_|refine u2 ?_|fail
          exact ⟨[_,_,_],⟨Fz.deep rfl,Fz.deep rfl,Fz.deep rfl,trivial⟩,rfl⟩
         | true =>
          rw [g5] at o9;rw [if_neg (by rw [g2,g3,g4,g5];simp)] at hga;repeat' first|((with_reducible refine qq3 ?_);refine ak.call o6 rfl rfl ?_)|((with_reducible refine qq3 ?_);refine ak.call o7 rfl rfl ?_)|((with_reducible refine qq3 ?_);refine ak.call o8 rfl rfl ?_)|((with_reducible refine qq3 ?_);refine ak.call o9 rfl rfl ?_)|refine u1 ?_|refine u2 ?_|fail
          refine ⟨(k+1,v',c'),⟨hlt,(fun i hi=>?_),hc'⟩,(by dsimp only;omega),?_⟩
          ·by_cases hik:i=k
           ·subst hik;exact hga
           ·exact hprev i (by dsimp only at hi;omega)
          ·exact ah.to 1 (by dsimp only;rw [hst];rfl) ⟨rfl,rfl,aE (by simp),trivial⟩ (qq5 _) rfl (zP _ _)
     ·rw [if_pos g1] at hga;rw [fin f hga g1];have d7:decide (f=0)=false:=decide_eq_false g1;have d7':(!decide (f=0))=true:=by rw [d7];rfl
      repeat' first|((with_reducible refine qq3 ?_);refine ak.call o6 rfl rfl ?_)|((with_reducible refine qq3 ?_);refine ak.call o7 rfl rfl ?_)|((with_reducible refine qq3 ?_);refine ak.call o8 rfl rfl ?_)|((with_reducible refine qq3 ?_);refine ak.call o9 rfl rfl ?_)|refine u1 ?_|refine u2 ?_|fail
      exact ⟨[_,_,_],⟨Fz.deep rfl,Fz.deep rfl,Fz.deep rfl,trivial⟩,rfl⟩
    ·have hkn:k=c.aC.length:=by omega
     have d1:decide ((k:Int) < ((c.aC.map aT).length:Int))=false:=decide_eq_false (by omega);subst hkn;have hcc:nr c=if (cm c.aD.length (Ag c)).2 ≠ 0 then (3,(cm c.aD.length (Ag c)).1,(cm c.aD.length (Ag c)).2) else (0,0,0):=by rw [hcc,k9 (fun i hi=>hprev i hi),if_neg (by simp)]
     clear hprev;repeat' first|refine u1 ?_|refine u2 ?_|fail
     refine aB.aO (ah.trans (ah.to (l:=[(1,.pt (aI c) 0),(5,.fl (.slice none 0 0)),(9,af ((0:Nat):Int))]) (hp:=[]) 0 rfl ⟨rfl,rfl,rfl,trivial⟩ (qq5 _) rfl rfl) (ah.trans (ah.mZ 1) (ah.IL (l:=[(1,.pt (aI c) 0),(5,.aJ 0 (0,0,0).2.1 0 (0,0,0).1 (0,0,0).2.2),(9,af ((0,0,0).1:Nat))]) (hp:=[.cells (gN ((c.aD.map ji.name).take (0,0,0).1)) 1 (0,0,0).2.1]) 1 rfl ⟨dP.refl _,dP.mY,dP.refl _,trivial⟩ (qq5 _) rfl (zP _ _)))) ?_;refine aB.loop (fun x:Nat × Nat × Nat=>x.1≤c.aD.length∧(∀ i,i < x.1→Ag c i=0)∧(x.2.2=x.1∨x.2.2=x.1+1)) (fun x=>⟨aM [(1,.pt (aI c) 0),(5,.aJ 0 x.2.1 0 x.1 x.2.2),(9,af (x.1:Nat))],[.cells (gN ((c.aD.map ji.name).take x.1)) 1 x.2.1],bq.none,false,0⟩) (fun x=>c.aD.length - x.1) ?_ (0,0,0) ⟨qq5 _,(fun i hi=>absurd hi (Nat.not_lt_zero _)),.inl rfl⟩;rintro ⟨k,aK,cc⟩ ⟨hk,hprev,hcap⟩;dsimp only at hk hprev hcap;show aB _ _ _ _ ⟨aM [(1,.pt (aI c) 0),(5,.aJ 0 (k,aK,cc).2.1 0 (k,aK,cc).1 (k,aK,cc).2.2),(9,af ((k,aK,cc).1:Nat))],[.cells (gN ((c.aD.map ji.name).take (k,aK,cc).1)) 1 (k,aK,cc).2.1],bq.none,false,0⟩ _;dsimp only;refine aa (mu:=fun t=>Nat.beq t 48 || Nat.beq t 99) ?_;by_cases hlt:k < c.aD.length
     ·have d1:decide ((k:Int) < ((c.aD.map aZ).length:Int))=true:=decide_eq_true (by omega);have hat:(c.aD.map aZ)[((k:Nat):Int).toNat]?=some (aZ c.aD[k]):=dN hlt;have hga:Ag c k=_:=tZ (nm:=ji.name) (err:=(ee c.aC.length)) hlt;have hln:(c.aD.map ji.name).length=c.aD.length:=by simp
      have htl:((c.aD.map ji.name).take k).length=k:=by rw [List.length_take,hln];omega
      have hgl:(gN ((c.aD.map ji.name).take k)).length=k:=by rw [zO,htl]
      have hst:gN ((c.aD.map ji.name).take (k+1))=gN ((c.aD.map ji.name).take k)++[ST c.aD[k].name]:=by rw [DO (by omega),List.getElem_map]
      have hfr:=DN one ((c.aD.map ji.name).take k) false c.aD[k].name (h.CX _ (List.getElem_mem hlt)) (by rw [htl];simp [maxLen];omega);rw [List.map_take] at hga;have o6:=iS one c.aD[k].jx 0 (((c.aC.map aT).length:Int) - 1);rw [eg] at o6;have o7:=iS one c.aD[k].nu (-100000) 100000;have fin:∀ v,Ag c k=v→v ≠ 0→nr c=(3,(k:Int),v):=fun v e hv=>by rw [hcc,k8 hlt hprev (by rw [e];exact hv),e,if_pos hv]
      generalize c.aD[k]=g at *
      generalize kE g.name ((c.aD.map ji.name).take k)=f at *
      unfold ee at hga;rw [cO,cO] at hga;repeat' first|((with_reducible show RM.wpOp _ _ (.call _) _ _ _);refine RM.sR (cs:=gN ((c.aD.map ji.name).take k)) (n:=k) (els:=[eS g.name]) rfl rfl rfl rfl rfl (fun el hel=>by rw [List.mem_singleton.1 hel];rfl) rfl rfl (by rw [hgl];exact (Nat.mul_one _).symm) hcap (by simp only [List.length_singleton];omega) (fun v' c' hc'=>?_))|refine u1 ?_|((with_reducible refine qq4 ?_);refine ⟨aZ g,⟨by omega,hat⟩,rfl,?_⟩)|((with_reducible refine qq3 ?_);refine ak.KN hfr rfl (zG.two (Fz.deep rfl) (GS _ htl)) (mV.fl _) ?_)|refine u2 ?_|fail
      by_cases g1:f=0
      ·rw [if_neg (by omega)] at hga;have d7:decide (f=0)=true:=decide_eq_true g1;have d7':(!decide (f=0))=false:=by rw [d7];rfl
       cases g2:jy g.jx 0 ((c.aC.length:Int) - 1) with
       | false =>
        rw [g2,←eg] at o6;rw [fin 4 (by rw [hga,g2,if_pos (by rfl)]) (by decide)];repeat' first|((with_reducible refine qq3 ?_);refine ak.call o6 rfl rfl ?_)|((with_reducible refine qq3 ?_);refine ak.call o7 rfl rfl ?_)|((with_reducible refine qq3 ?_);refine ak.call o8 rfl rfl ?_)|((with_reducible refine qq3 ?_);refine ak.call o9 rfl rfl ?_)|refine u1 ?_|refine u2 ?_|fail
        exact ⟨[_,_,_],⟨Fz.deep rfl,Fz.deep rfl,Fz.deep rfl,trivial⟩,rfl⟩
       | true =>
        rw [g2,←eg] at o6
        cases g3:jy g.nu (-100000) 100000 with
        | false =>
         rw [g3] at o7;rw [fin 7 (by rw [hga,g2,g3,if_neg (by simp),if_pos (by rfl)]) (by decide)];repeat' first|((with_reducible refine qq3 ?_);refine ak.call o6 rfl rfl ?_)|((with_reducible refine qq3 ?_);refine ak.call o7 rfl rfl ?_)|((with_reducible refine qq3 ?_);refine ak.call o8 rfl rfl ?_)|((with_reducible refine qq3 ?_);refine ak.call o9 rfl rfl ?_)|refine u1 ?_|refine u2 ?_|fail
         exact ⟨[_,_,_],⟨Fz.deep rfl,Fz.deep rfl,Fz.deep rfl,trivial⟩,rfl⟩
        | true =>
         rw [g3] at o7;rw [g2,g3,if_neg (by simp),if_neg (by simp)] at hga;repeat' first|((with_reducible refine qq3 ?_);refine ak.call o6 rfl rfl ?_)|((with_reducible refine qq3 ?_);refine ak.call o7 rfl rfl ?_)|((with_reducible refine qq3 ?_);refine ak.call o8 rfl rfl ?_)|((with_reducible refine qq3 ?_);refine ak.call o9 rfl rfl ?_)|refine u1 ?_|refine u2 ?_|fail
         refine ⟨(k+1,v',c'),⟨hlt,(fun i hi=>?_),hc'⟩,(by dsimp only;omega),?_⟩
         ·by_cases hik:i=k
          ·subst hik;exact hga
          ·exact hprev i (by dsimp only at hi;omega)
         ·exact ah.to 1 (by dsimp only;rw [hst];rfl) ⟨rfl,rfl,aE (by simp),trivial⟩ (qq5 _) rfl (zP _ _)
      ·rw [if_pos g1] at hga;rw [fin f hga g1];have d7:decide (f=0)=false:=decide_eq_false g1;have d7':(!decide (f=0))=true:=by rw [d7];rfl
       repeat' first|((with_reducible refine qq3 ?_);refine ak.call o6 rfl rfl ?_)|((with_reducible refine qq3 ?_);refine ak.call o7 rfl rfl ?_)|((with_reducible refine qq3 ?_);refine ak.call o8 rfl rfl ?_)|((with_reducible refine qq3 ?_);refine ak.call o9 rfl rfl ?_)|refine u1 ?_|refine u2 ?_|fail
       exact ⟨[_,_,_],⟨Fz.deep rfl,Fz.deep rfl,Fz.deep rfl,trivial⟩,rfl⟩
     ·have hkn:k=c.aD.length:=by omega
      have d1:decide ((k:Int) < ((c.aD.map aZ).length:Int))=false:=decide_eq_false (by omega);subst hkn;rw [hcc,k9 (fun i hi=>hprev i hi),if_neg (by simp)];repeat' first|refine u1 ?_|refine u2 ?_|fail
      exact ⟨[_,_,_],⟨Fz.deep rfl,Fz.deep rfl,Fz.deep rfl,trivial⟩,rfl⟩
end Go.Proofs.YtlpmfgmldmdggaaGreat
open Go Go.RM
namespace Go.Proofs.YtlpmfgmldmdggaaGreat
set_option maxRecDepth 100000
structure Ev where
 day:Int
 kind:Int
 M6:Int
 other:Int
structure Acc where
 place:Int
 nu:Int
 d0:Int
 d1:Int
 d2:Int
structure Good (c:aL):Prop where
 aC:1≤c.aC.length∧c.aC.length≤3
 aD:1≤c.aD.length∧c.aD.length≤5
 least:0≤c.least∧c.least≤5
 jx:∀ r ∈ c.aC,(0≤r.Fy∧r.Fy≤1000)∧(0≤r.leave∧r.leave≤1000)∧(0≤r.FA∧r.FA≤1000)∧(0≤r.rJ∧r.rJ≤1000)
 M6:∀ m ∈ c.aD,(0≤m.jx∧m.jx < c.aC.length)∧(-100000≤m.nu∧m.nu≤100000)
theorem oa {n:Nat} {e:Nat→Int} (h:(cm n e).2=0):∀ i,i < n→e i=0:=by
 intro i hi;unfold cm at h
 cases hf:(List.range n).find? (fun i=>e i != 0) with
 | none =>rw [List.find?_eq_none] at hf;have:=hf i (by simpa using hi);simpa using this
 | some k =>
  rw [hf] at h;have h1:(e k != 0)=true:=by have:=List.find?_some hf;exact this
  have h2:e k=0:=h;rw [h2] at h1;cases h1
theorem KR {c:aL} (h:(nr c).2.2=0):Good c:=by
 unfold nr at h;split at h
 ·cases h
 ·rename_i h1;split at h
  ·cases h
  ·rename_i h2;simp only [Bool.or_eq_true,not_or,Bool.not_eq_true] at h1 h2;have a1:=jk h1.1;have a2:=jk h1.2;have a3:=jk h2;split at h
   ·rename_i h3;exact absurd h h3
   ·rename_i h3;split at h
    ·rename_i h4;exact absurd h h4
    ·rename_i h4;have z1:=oa (Decidable.not_not.1 h3);have z2:=oa (Decidable.not_not.1 h4);refine ⟨by omega,by omega,a3,fun r hr=>?_,fun m hm=>?_⟩
     ·obtain ⟨i,hi,rfl⟩:=List.getElem_of_mem hr;have:=z1 i hi;unfold FB cQ at this;rw [List.getElem?_eq_getElem hi] at this;simp only at this;split at this
      ·cases this
      ·split at this
       ·cases this
       ·unfold dB at this;split at this
        ·cases this
        ·rename_i hh;rw [cO,Kg] at hh;simp only [Bool.or_eq_true,not_or,Bool.not_eq_true,Bool.not_eq_false'] at hh;exact ⟨fQ.1 hh.1,fQ.1 hh.2.1,fQ.1 hh.2.2.1,fQ.1 hh.2.2.2⟩
     ·obtain ⟨i,hi,rfl⟩:=List.getElem_of_mem hm;have:=z2 i hi;unfold Ag cQ at this;rw [List.getElem?_eq_getElem hi] at this;simp only at this;split at this
      ·cases this
      ·split at this
       ·cases this
       ·unfold ee at this;split at this
        ·cases this
        ·rename_i hh;split at this
         ·cases this
         ·rename_i hh2;have q1:=jk (Bool.not_eq_true _ ▸ hh);have q2:=jk (Bool.not_eq_true _ ▸ hh2);omega
def CY (c:aL) (i:Nat):Option fc:=(c.aD[i]?).bind fun m=>c.aC[m.jx.toNat]?
def sX (c:aL) (i:Nat):Int:=((CY c i).map fc.rJ).getD 0
structure ir (day:Int) (a:Acc):Prop where
 place:a.place=0∨a.place=1∨a.place=2
 nu:-(100000+1000 * day)≤a.nu∧a.nu≤100000+1000 * day
 d0:0≤a.d0∧a.d0≤day
 d1:0≤a.d1∧a.d1≤day
 d2:0≤a.d2∧a.d2≤day
structure Inv (c:aL) (day:Int) (ls:List Acc):Prop where
 len:ls.length=c.aD.length
 ok:∀ a ∈ ls,ir day a
 day:0≤day∧day≤40000
theorem DQ {dd e:Int} (h0:0≤dd) (he:0≤e∧e≤1000):0≤dd * e∧dd * e≤1000 * dd:=by
 constructor
 ·exact Int.mul_nonneg h0 he.1
 ·calc dd * e≤dd * 1000:=Int.mul_le_mul_of_nonneg_left he.2 h0
  _=1000 * dd:=Int.mul_comm _ _
end Go.Proofs.YtlpmfgmldmdggaaGreat
open Go Go.RM
namespace Go.Proofs.YtlpmfgmldmdggaaGreat
set_option maxRecDepth 100000
set_option maxHeartbeats 4000000
end Go.Proofs.YtlpmfgmldmdggaaGreat
open Go Go.RM
namespace Go.Proofs.YtlpmfgmldmdggaaGreat
set_option maxRecDepth 100000
set_option maxHeartbeats 4000000
end Go.Proofs.YtlpmfgmldmdggaaGreat
open Go Go.RM
namespace Go.Proofs.YtlpmfgmldmdggaaGreat
set_option maxRecDepth 100000
set_option maxHeartbeats 4000000
end Go.Proofs.YtlpmfgmldmdggaaGreat
open Go Go.RM
namespace Go.Proofs.YtlpmfgmldmdggaaGreat
set_option maxRecDepth 100000
set_option maxHeartbeats 4000000
end Go.Proofs.YtlpmfgmldmdggaaGreat
open Go Go.RM
namespace Go.Proofs.YtlpmfgmldmdggaaGreat
set_option maxRecDepth 100000
set_option maxHeartbeats 4000000
end Go.Proofs.YtlpmfgmldmdggaaGreat
open Go Go.RM
namespace Go.Proofs.YtlpmfgmldmdggaaGreat
set_option maxRecDepth 100000
end Go.Proofs.YtlpmfgmldmdggaaGreat
open Go Go.RM
namespace Go.Proofs.YtlpmfgmldmdggaaGreat
set_option maxRecDepth 100000
set_option maxHeartbeats 4000000
abbrev I0:AB:=.cells [af 0] 0 0
end Go.Proofs.YtlpmfgmldmdggaaGreat
open Go Go.RM
namespace Go.Proofs.YtlpmfgmldmdggaaGreat
set_option maxRecDepth 100000
set_option maxHeartbeats 4000000
end Go.Proofs.YtlpmfgmldmdggaaGreat
open Go Go.RM
namespace Go.Proofs.YtlpmfgmldmdggaaGreat
set_option maxRecDepth 100000
abbrev later:Int:=9223372036854775807
structure A1 (x:Ev):Prop where
 day:x.day≤later
end Go.Proofs.YtlpmfgmldmdggaaGreat
open Go Go.RM
namespace Go.Proofs.YtlpmfgmldmdggaaGreat
set_option maxRecDepth 100000
set_option maxHeartbeats 4000000
end Go.Proofs.YtlpmfgmldmdggaaGreat
open Go Go.RM
namespace Go.Proofs.YtlpmfgmldmdggaaGreat
set_option maxRecDepth 100000
set_option maxHeartbeats 4000000
end Go.Proofs.YtlpmfgmldmdggaaGreat
open Go Go.RM
namespace Go.Proofs.YtlpmfgmldmdggaaGreat
set_option maxRecDepth 100000
set_option maxHeartbeats 4000000
end Go.Proofs.YtlpmfgmldmdggaaGreat
open Go Go.RM
namespace Go.Proofs.YtlpmfgmldmdggaaGreat
set_option maxRecDepth 100000
def yz (c:aL) (i:Nat):Int:=((c.aD[i]?).map ji.nu).getD 0
end Go.Proofs.YtlpmfgmldmdggaaGreat
open Go Go.RM
namespace Go.Proofs.YtlpmfgmldmdggaaGreat
set_option maxRecDepth 100000
set_option maxHeartbeats 4000000
end Go.Proofs.YtlpmfgmldmdggaaGreat
open Go Go.RM
namespace Go.Proofs.YtlpmfgmldmdggaaGreat
set_option maxRecDepth 100000
set_option maxHeartbeats 4000000
def BK:Code→Code
 | .seq _ b=>b
 | x=>x
end Go.Proofs.YtlpmfgmldmdggaaGreat
open Go Go.RM
namespace Go.Proofs.YtlpmfgmldmdggaaGreat
set_option maxRecDepth 100000
set_option maxHeartbeats 4000000
end Go.Proofs.YtlpmfgmldmdggaaGreat
open Go Go.RM
namespace Go.Proofs.YtlpmfgmldmdggaaGreat
set_option maxRecDepth 100000
end Go.Proofs.YtlpmfgmldmdggaaGreat
open Go Go.RM
namespace Go.Proofs.YtlpmfgmldmdggaaGreat
set_option maxRecDepth 100000
end Go.Proofs.YtlpmfgmldmdggaaGreat
open Go Go.RM
namespace Go.Proofs.YtlpmfgmldmdggaaGreat
set_option maxRecDepth 100000
set_option maxHeartbeats 4000000
end Go.Proofs.YtlpmfgmldmdggaaGreat
open Go Go.RM
namespace Go.Proofs.YtlpmfgmldmdggaaGreat
set_option maxRecDepth 100000
end Go.Proofs.YtlpmfgmldmdggaaGreat
open Go Go.RM
namespace Go.Proofs.YtlpmfgmldmdggaaGreat
set_option maxRecDepth 100000
set_option maxHeartbeats 4000000
section
variable {own : Bool} {fr : Nat → AV} {hp : List AB} {K : AV → List AB → Prop} {x : Operand} {n : Nat}
theorem MB (hx:bg fr x=.fl (.int .u16 ((n:Nat):Int))) (h:n≤65535) (k:K (af (n:Nat)) hp):RM.wpOp TT own (.convert 63 3 x) fr hp K:=by show vW TT 63 3 (bg fr x) hp K;rw [hx];have:cS (aP TT.P (convert 63 3 (.int .u16 ((n:Nat):Int))))=some (.int .i64 (IntKind.i64.wrap ((n:Nat):Int)),.none):=rfl;rw [IntWalk.i64_in ((n:Nat):Int) (by omega)] at this;exact ⟨_,rfl,_,this,rfl,k⟩
end
theorem KT (one:Bool):Pu one 26 [] (BB true):=ak.closed (fun _=>rfl) rfl
