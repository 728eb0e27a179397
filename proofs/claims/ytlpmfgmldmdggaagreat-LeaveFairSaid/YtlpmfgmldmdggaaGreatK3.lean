/-
  Contracts of the program's functions and of the document's. Lemmas alone; their conditions stand in them.
-/
import Derived.Test.YtlpmfgmldmdggaaGreatK2
open Go Go.RM
namespace Go.Proofs.YtlpmfgmldmdggaaGreat
set_option maxRecDepth 100000
set_option maxHeartbeats 4000000
theorem tJ {α:Type} {nm:α→ByteArray} {err:α→Int} {l:List α} {k:Nat} (h:k < l.length):cT nm err l k=if kq (nm l[k]) ((l.take k).map nm) ≠ 0 then kq (nm l[k]) ((l.take k).map nm) else err l[k]:=by
 unfold cT kq;rw [List.getElem?_eq_getElem h,List.any_map];simp only;have e1:(List.any (l.take k) ((fun x=>wJ x (nm l[k])) ∘ nm))=(l.take k).any fun y=>wJ (nm y) (nm l[k]):=rfl;rw [e1]
 cases ig (nm l[k]) with
 | false=>simp
 | true=>cases ((l.take k).any fun y=>wJ (nm y) (nm l[k])) <;> simp
theorem Jl (lo hi a b c:Int):fU lo hi [a,b,c]=(!jK a lo hi || (!jK b lo hi || !jK c lo hi)):=by have h1:=cM a lo hi;have h2:=cM b lo hi;have h3:=cM c lo hi;rw [←h1,←h2,←h3];unfold fU;simp
def gN (l:List ByteArray):List AV:=l.map fun x=>ST x
theorem Di {l:List ByteArray} {k:Nat} (h:k < l.length):gN (l.take (k+1))=gN (l.take k)++[ST l[k]]:=by unfold gN;rw [List.take_add_one,List.getElem?_eq_getElem h,List.map_append];rfl
theorem Dj (l:List ByteArray):(l.map eS).flatten=gN l:=by
 induction l with
 | nil=>rfl
 | cons a l ih =>simp only [List.map_cons,List.flatten_cons,ih];rfl
theorem F9 (l:List ByteArray):cV (gN l)=true:=by
 induction l with
 | nil=>rfl
 | cons a l ih=>exact ih
theorem Ia (n:Nat) (l:List ByteArray):sy n (gN l)=true:=by
 induction l with
 | nil=>rfl
 | cons a l ih=>exact ih
theorem zq (l:List ByteArray):(gN l).length=l.length:=by unfold gN;simp
theorem Ga {B:List AB} (l:List ByteArray) {n v c:Nat} (h:l.length=n):Fz (.cells (gN l) 1 v :: B) (.aL 0 v 0 n c) (.sl (l.map eS) false) :=
 Fz.row (es:=1) rfl (by rw [zq];omega) (by simp;omega) (fun el hel=>by obtain ⟨x,_,rfl⟩:=List.mem_map.1 hel;rfl) (by rw [Dj,List.drop_zero,List.take_of_length_le (by rw [zq];omega)]) (by rw [Dj];exact F9 _) (fun h=>Bool.noConfusion h)
theorem zu (l:List ByteArray) (v:Nat):([.cells (gN l) 1 v]:List AB).all (AB.gZ 1)=true:=by have h:AB.gZ 1 (.cells (gN l) 1 v)=true:=Ia 1 l;simp only [List.all_cons,List.all_nil,h,Bool.and_true]
theorem Gb (one:Bool) (c:aP) (h:c.Ok):Pu one 17 [.ag (aD c)] (.tp [af (oG c).1,af (oG c).2.1,af (oG c).2.2]):=by
 have eg:((c.aB.map bE).length:Int)=c.aB.length:=by simp
 have em:((c.aA.map bS).length:Int)=c.aA.length:=by simp
 have o1:=iM one ((c.aB.map bE).length:Int) 1 3;have o2:=iM one ((c.aA.map bS).length:Int) 1 5;have o3:=iM one c.least 0 5;rw [eg] at o1;rw [em] at o2
 cases e1:jK (c.aB.length:Int) 1 3 with
 | false =>
  rw [e1,←eg] at o1;have hc:oG c=(1,0,3):=by unfold oG;rw [cM,e1,if_pos (by rfl)]
  rw [hc];refine ah.body (fn:=Tryz.f17) rfl rfl rfl rfl ?_;refine aa (mu:=fun t=>Nat.beq t 48 || Nat.beq t 99) ?_;repeat' first|refine u1 ?_|((with_reducible refine qq3 ?_);refine ah.call o1 rfl rfl ?_)|((with_reducible refine qq3 ?_);refine ah.call o2 rfl rfl ?_)|((with_reducible refine qq3 ?_);refine ah.call o3 rfl rfl ?_)|refine u2 ?_|fail
  exact ⟨[_,_,_],⟨Fz.deep rfl,Fz.deep rfl,Fz.deep rfl,trivial⟩,rfl⟩
 | true =>
  rw [e1,←eg] at o1
  cases e2:jK (c.aA.length:Int) 1 5 with
  | false =>
   rw [e2,←em] at o2;have hc:oG c=(1,0,3):=by unfold oG;rw [cM,cM,e1,e2,if_pos (by rfl)]
   rw [hc];refine ah.body (fn:=Tryz.f17) rfl rfl rfl rfl ?_;refine aa (mu:=fun t=>Nat.beq t 48 || Nat.beq t 99) ?_;repeat' first|refine u1 ?_|((with_reducible refine qq3 ?_);refine ah.call o1 rfl rfl ?_)|((with_reducible refine qq3 ?_);refine ah.call o2 rfl rfl ?_)|((with_reducible refine qq3 ?_);refine ah.call o3 rfl rfl ?_)|refine u2 ?_|fail
   exact ⟨[_,_,_],⟨Fz.deep rfl,Fz.deep rfl,Fz.deep rfl,trivial⟩,rfl⟩
  | true =>
   rw [e2,←em] at o2
   cases e3:jK c.least 0 5 with
   | false =>
    rw [e3] at o3;have hc:oG c=(1,0,7):=by unfold oG;rw [cM,cM,cM,e1,e2,e3,if_neg (by simp),if_pos (by rfl)]
    rw [hc];refine ah.body (fn:=Tryz.f17) rfl rfl rfl rfl ?_;refine aa (mu:=fun t=>Nat.beq t 48 || Nat.beq t 99) ?_;repeat' first|refine u1 ?_|((with_reducible refine qq3 ?_);refine ah.call o1 rfl rfl ?_)|((with_reducible refine qq3 ?_);refine ah.call o2 rfl rfl ?_)|((with_reducible refine qq3 ?_);refine ah.call o3 rfl rfl ?_)|refine u2 ?_|fail
    exact ⟨[_,_,_],⟨Fz.deep rfl,Fz.deep rfl,Fz.deep rfl,trivial⟩,rfl⟩
   | true =>
    rw [e3] at o3;have hcc:oG c=if (cL c.aB.length (F8 c)).2 ≠ 0 then (2,(cL c.aB.length (F8 c)).1,(cL c.aB.length (F8 c)).2) else if (cL c.aA.length (Dh c)).2 ≠ 0 then (3,(cL c.aA.length (Dh c)).1,(cL c.aA.length (Dh c)).2) else (0,0,0):=by unfold oG;rw [cM,cM,cM,e1,e2,e3,if_neg (by simp),if_neg (by simp)]
    have b1:=fO.1 e1;have b2:=fO.1 e2;have z00:decide ((0:Int)=0)=true:=by decide
    have z70:decide ((7:Int)=0)=false:=by decide
    have z40:decide ((4:Int)=0)=false:=by decide
    have n00:(!decide ((0:Int)=0))=false:=by decide
    have n70:(!decide ((7:Int)=0))=true:=by decide
    have n40:(!decide ((4:Int)=0))=true:=by decide
    refine ah.body (fn:=Tryz.f17) rfl rfl rfl rfl ?_;refine aa (mu:=fun t=>Nat.beq t 48 || Nat.beq t 99) ?_;repeat' first|refine u1 ?_|((with_reducible refine qq3 ?_);refine ah.call o1 rfl rfl ?_)|((with_reducible refine qq3 ?_);refine ah.call o2 rfl rfl ?_)|((with_reducible refine qq3 ?_);refine ah.call o3 rfl rfl ?_)|refine u2 ?_|fail
    refine ay.aN (ak.trans (ak.to (l:=[(1,.pt (aD c) 0),(5,.fl (.slice none 0 0)),(6,af ((0:Nat):Int))]) (hp:=[]) 0 rfl ⟨rfl,rfl,rfl,trivial⟩ (qq5 _) rfl rfl) (ak.trans (ak.mP 1) (ak.HM (l:=[(1,.pt (aD c) 0),(5,.aL 0 (0,0,0).2.1 0 (0,0,0).1 (0,0,0).2.2),(6,af ((0,0,0).1:Nat))]) (hp:=[.cells (gN ((c.aB.map eZ.name).take (0,0,0).1)) 1 (0,0,0).2.1]) 1 rfl ⟨dI.refl _,dI.mO,dI.refl _,trivial⟩ (qq5 _) rfl (zu _ _)))) ?_;refine ay.loop (fun x:Nat × Nat × Nat=>x.1≤c.aB.length∧(∀ i,i < x.1→F8 c i=0)∧(x.2.2=x.1∨x.2.2=x.1+1)) (fun x=>⟨aT [(1,.pt (aD c) 0),(5,.aL 0 x.2.1 0 x.1 x.2.2),(6,af (x.1:Nat))],[.cells (gN ((c.aB.map eZ.name).take x.1)) 1 x.2.1],bJ.none,false,0⟩) (fun x=>c.aB.length - x.1) ?_ (0,0,0) ⟨qq5 _,(fun i hi=>absurd hi (Nat.not_lt_zero _)),.inl rfl⟩;rintro ⟨k,aE,cc⟩ ⟨hk,hprev,hcap⟩;dsimp only at hk hprev hcap;show ay _ _ _ _ ⟨aT [(1,.pt (aD c) 0),(5,.aL 0 (k,aE,cc).2.1 0 (k,aE,cc).1 (k,aE,cc).2.2),(6,af ((k,aE,cc).1:Nat))],[.cells (gN ((c.aB.map eZ.name).take (k,aE,cc).1)) 1 (k,aE,cc).2.1],bJ.none,false,0⟩ _;dsimp only;refine aa (mu:=fun t=>Nat.beq t 48 || Nat.beq t 99) ?_;by_cases hlt:k < c.aB.length
    ·have d1:decide ((k:Int) < ((c.aB.map bE).length:Int))=true:=decide_eq_true (by omega);have hat:(c.aB.map bE)[((k:Nat):Int).toNat]?=some (bE c.aB[k]):=dm hlt;have hga:F8 c k=_:=tJ (nm:=eZ.name) (err:=dB) hlt;have hln:(c.aB.map eZ.name).length=c.aB.length:=by simp
     have htl:((c.aB.map eZ.name).take k).length=k:=by rw [List.length_take,hln];omega
     have hgl:(gN ((c.aB.map eZ.name).take k)).length=k:=by rw [zq,htl]
     have hst:gN ((c.aB.map eZ.name).take (k+1))=gN ((c.aB.map eZ.name).take k)++[ST c.aB[k].name]:=by rw [Di (by omega),List.getElem_map]
     have hfr:=Dg one ((c.aB.map eZ.name).take k) false c.aB[k].name (h.F6 _ (List.getElem_mem hlt)) (by rw [htl];simp [maxLen];omega);rw [List.map_take] at hga;have hre:dB c.aB[k]=if jK c.aB[k].EH 0 1000=false∨jK c.aB[k].leave 0 1000=false∨jK c.aB[k].EI 0 1000=false∨jK c.aB[k].qY 0 1000=false then 7 else 0:=by unfold dB;rw [cM,Jl];cases jK c.aB[k].EH 0 1000 <;> cases jK c.aB[k].leave 0 1000 <;> cases jK c.aB[k].EI 0 1000 <;> cases jK c.aB[k].qY 0 1000 <;> rfl
     have o6:=iM one c.aB[k].EH 0 1000;have o7:=iM one c.aB[k].leave 0 1000;have o8:=iM one c.aB[k].EI 0 1000;have o9:=iM one c.aB[k].qY 0 1000;have fin:∀ v,F8 c k=v→v ≠ 0→oG c=(2,(k:Int),v):=fun v e hv=>by rw [hcc,kW hlt hprev (by rw [e];exact hv),e,if_pos hv]
     generalize c.aB[k]=g at *
     generalize kq g.name ((c.aB.map eZ.name).take k)=f at *
     rw [hre] at hga;repeat' first|((with_reducible show RM.wpOp _ _ (.call _) _ _ _);refine RM.sD (cs:=gN ((c.aB.map eZ.name).take k)) (n:=k) (els:=[eS g.name]) rfl rfl rfl rfl rfl (fun el hel=>by rw [List.mem_singleton.1 hel];rfl) rfl rfl (by rw [hgl];exact (Nat.mul_one _).symm) hcap (by simp only [List.length_singleton];omega) (fun v' c' hc'=>?_))|refine u1 ?_|((with_reducible refine qq4 ?_);refine ⟨bE g,⟨by omega,hat⟩,rfl,?_⟩)|((with_reducible refine qq3 ?_);refine ah.K6 hfr rfl (zf.two (Fz.deep rfl) (Ga _ htl)) (m7.fl _) ?_)|refine u2 ?_|fail
     by_cases g1:f=0
     ·rw [if_neg (by omega)] at hga;have d7:decide (f=0)=true:=decide_eq_true g1;have d7':(!decide (f=0))=false:=by rw [d7];rfl
      have bad:(jK g.EH 0 1000=false∨jK g.leave 0 1000=false∨jK g.EI 0 1000=false∨jK g.qY 0 1000=false)→oG c=(2,(k:Int),7):=fun hb2=>by rw [if_pos hb2] at hga;exact fin 7 hga (by decide)
      cases g2:jK g.EH 0 1000 with
      | false =>
       rw [g2] at o6;rw [bad (.inl g2)];repeat' first|((with_reducible refine qq3 ?_);refine ah.call o6 rfl rfl ?_)|((with_reducible refine qq3 ?_);refine ah.call o7 rfl rfl ?_)|((with_reducible refine qq3 ?_);refine ah.call o8 rfl rfl ?_)|((with_reducible refine qq3 ?_);refine ah.call o9 rfl rfl ?_)|refine u1 ?_|refine u2 ?_|fail
       exact ⟨[_,_,_],⟨Fz.deep rfl,Fz.deep rfl,Fz.deep rfl,trivial⟩,rfl⟩
      | true =>
       rw [g2] at o6
       cases g3:jK g.leave 0 1000 with
       | false =>
        rw [g3] at o7;rw [bad (.inr (.inl g3))];repeat' first|((with_reducible refine qq3 ?_);refine ah.call o6 rfl rfl ?_)|((with_reducible refine qq3 ?_);refine ah.call o7 rfl rfl ?_)|((with_reducible refine qq3 ?_);refine ah.call o8 rfl rfl ?_)|((with_reducible refine qq3 ?_);refine ah.call o9 rfl rfl ?_)|refine u1 ?_|refine u2 ?_|fail
        exact ⟨[_,_,_],⟨Fz.deep rfl,Fz.deep rfl,Fz.deep rfl,trivial⟩,rfl⟩
       | true =>
        rw [g3] at o7
        cases g4:jK g.EI 0 1000 with
        | false =>
         rw [g4] at o8;rw [bad (.inr (.inr (.inl g4)))];repeat' first|((with_reducible refine qq3 ?_);refine ah.call o6 rfl rfl ?_)|((with_reducible refine qq3 ?_);refine ah.call o7 rfl rfl ?_)|((with_reducible refine qq3 ?_);refine ah.call o8 rfl rfl ?_)|((with_reducible refine qq3 ?_);refine ah.call o9 rfl rfl ?_)|refine u1 ?_|refine u2 ?_|fail
         exact ⟨[_,_,_],⟨Fz.deep rfl,Fz.deep rfl,Fz.deep rfl,trivial⟩,rfl⟩
        | true =>
         rw [g4] at o8
         cases g5:jK g.qY 0 1000 with
         | false =>
          rw [g5] at o9;rw [bad (.inr (.inr (.inr g5)))];repeat' first|((with_reducible refine qq3 ?_);refine ah.call o6 rfl rfl ?_)|((with_reducible refine qq3 ?_);refine ah.call o7 rfl rfl ?_)|((with_reducible refine qq3 ?_);refine ah.call o8 rfl rfl ?_)|((with_reducible refine qq3 ?_);refine ah.call o9 rfl rfl ?_)|refine u1 ?_|refine u2 ?_|fail
          exact ⟨[_,_,_],⟨Fz.deep rfl,Fz.deep rfl,Fz.deep rfl,trivial⟩,rfl⟩
         | true =>
          rw [g5] at o9;rw [if_neg (by rw [g2,g3,g4,g5];simp)] at hga;repeat' first|((with_reducible refine qq3 ?_);refine ah.call o6 rfl rfl ?_)|((with_reducible refine qq3 ?_);refine ah.call o7 rfl rfl ?_)|((with_reducible refine qq3 ?_);refine ah.call o8 rfl rfl ?_)|((with_reducible refine qq3 ?_);refine ah.call o9 rfl rfl ?_)|refine u1 ?_|refine u2 ?_|fail
          refine ⟨(k+1,v',c'),⟨hlt,(fun i hi=>?_),hc'⟩,(by dsimp only;omega),?_⟩
          ·by_cases hik:i=k
           ·subst hik;exact hga
           ·exact hprev i (by dsimp only at hi;omega)
          ·exact ak.to 1 (by dsimp only;rw [hst];rfl) ⟨rfl,rfl,aH (by simp),trivial⟩ (qq5 _) rfl (zu _ _)
     ·rw [if_pos g1] at hga;rw [fin f hga g1];have d7:decide (f=0)=false:=decide_eq_false g1;have d7':(!decide (f=0))=true:=by rw [d7];rfl
      repeat' first|((with_reducible refine qq3 ?_);refine ah.call o6 rfl rfl ?_)|((with_reducible refine qq3 ?_);refine ah.call o7 rfl rfl ?_)|((with_reducible refine qq3 ?_);refine ah.call o8 rfl rfl ?_)|((with_reducible refine qq3 ?_);refine ah.call o9 rfl rfl ?_)|refine u1 ?_|refine u2 ?_|fail
      exact ⟨[_,_,_],⟨Fz.deep rfl,Fz.deep rfl,Fz.deep rfl,trivial⟩,rfl⟩
    ·have hkn:k=c.aB.length:=by omega
     have d1:decide ((k:Int) < ((c.aB.map bE).length:Int))=false:=decide_eq_false (by omega);subst hkn;have hcc:oG c=if (cL c.aA.length (Dh c)).2 ≠ 0 then (3,(cL c.aA.length (Dh c)).1,(cL c.aA.length (Dh c)).2) else (0,0,0):=by rw [hcc,kX (fun i hi=>hprev i hi),if_neg (by simp)]
     clear hprev;repeat' first|refine u1 ?_|refine u2 ?_|fail
     refine ay.aN (ak.trans (ak.to (l:=[(1,.pt (aD c) 0),(5,.fl (.slice none 0 0)),(9,af ((0:Nat):Int))]) (hp:=[]) 0 rfl ⟨rfl,rfl,rfl,trivial⟩ (qq5 _) rfl rfl) (ak.trans (ak.mP 1) (ak.HM (l:=[(1,.pt (aD c) 0),(5,.aL 0 (0,0,0).2.1 0 (0,0,0).1 (0,0,0).2.2),(9,af ((0,0,0).1:Nat))]) (hp:=[.cells (gN ((c.aA.map m8.name).take (0,0,0).1)) 1 (0,0,0).2.1]) 1 rfl ⟨dI.refl _,dI.mO,dI.refl _,trivial⟩ (qq5 _) rfl (zu _ _)))) ?_;refine ay.loop (fun x:Nat × Nat × Nat=>x.1≤c.aA.length∧(∀ i,i < x.1→Dh c i=0)∧(x.2.2=x.1∨x.2.2=x.1+1)) (fun x=>⟨aT [(1,.pt (aD c) 0),(5,.aL 0 x.2.1 0 x.1 x.2.2),(9,af (x.1:Nat))],[.cells (gN ((c.aA.map m8.name).take x.1)) 1 x.2.1],bJ.none,false,0⟩) (fun x=>c.aA.length - x.1) ?_ (0,0,0) ⟨qq5 _,(fun i hi=>absurd hi (Nat.not_lt_zero _)),.inl rfl⟩;rintro ⟨k,aE,cc⟩ ⟨hk,hprev,hcap⟩;dsimp only at hk hprev hcap;show ay _ _ _ _ ⟨aT [(1,.pt (aD c) 0),(5,.aL 0 (k,aE,cc).2.1 0 (k,aE,cc).1 (k,aE,cc).2.2),(9,af ((k,aE,cc).1:Nat))],[.cells (gN ((c.aA.map m8.name).take (k,aE,cc).1)) 1 (k,aE,cc).2.1],bJ.none,false,0⟩ _;dsimp only;refine aa (mu:=fun t=>Nat.beq t 48 || Nat.beq t 99) ?_;by_cases hlt:k < c.aA.length
     ·have d1:decide ((k:Int) < ((c.aA.map bS).length:Int))=true:=decide_eq_true (by omega);have hat:(c.aA.map bS)[((k:Nat):Int).toNat]?=some (bS c.aA[k]):=dm hlt;have hga:Dh c k=_:=tJ (nm:=m8.name) (err:=(e9 c.aB.length)) hlt;have hln:(c.aA.map m8.name).length=c.aA.length:=by simp
      have htl:((c.aA.map m8.name).take k).length=k:=by rw [List.length_take,hln];omega
      have hgl:(gN ((c.aA.map m8.name).take k)).length=k:=by rw [zq,htl]
      have hst:gN ((c.aA.map m8.name).take (k+1))=gN ((c.aA.map m8.name).take k)++[ST c.aA[k].name]:=by rw [Di (by omega),List.getElem_map]
      have hfr:=Dg one ((c.aA.map m8.name).take k) false c.aA[k].name (h.F7 _ (List.getElem_mem hlt)) (by rw [htl];simp [maxLen];omega);rw [List.map_take] at hga;have o6:=iM one c.aA[k].kC 0 (((c.aB.map bE).length:Int) - 1);rw [eg] at o6;have o7:=iM one c.aA[k].qZ (-100000) 100000;have fin:∀ v,Dh c k=v→v ≠ 0→oG c=(3,(k:Int),v):=fun v e hv=>by rw [hcc,kW hlt hprev (by rw [e];exact hv),e,if_pos hv]
      generalize c.aA[k]=g at *
      generalize kq g.name ((c.aA.map m8.name).take k)=f at *
      unfold e9 at hga;rw [cM,cM] at hga;repeat' first|((with_reducible show RM.wpOp _ _ (.call _) _ _ _);refine RM.sD (cs:=gN ((c.aA.map m8.name).take k)) (n:=k) (els:=[eS g.name]) rfl rfl rfl rfl rfl (fun el hel=>by rw [List.mem_singleton.1 hel];rfl) rfl rfl (by rw [hgl];exact (Nat.mul_one _).symm) hcap (by simp only [List.length_singleton];omega) (fun v' c' hc'=>?_))|refine u1 ?_|((with_reducible refine qq4 ?_);refine ⟨bS g,⟨by omega,hat⟩,rfl,?_⟩)|((with_reducible refine qq3 ?_);refine ah.K6 hfr rfl (zf.two (Fz.deep rfl) (Ga _ htl)) (m7.fl _) ?_)|refine u2 ?_|fail
      by_cases g1:f=0
      ·rw [if_neg (by omega)] at hga;have d7:decide (f=0)=true:=decide_eq_true g1;have d7':(!decide (f=0))=false:=by rw [d7];rfl
       cases g2:jK g.kC 0 ((c.aB.length:Int) - 1) with
       | false =>
        rw [g2,←eg] at o6;rw [fin 4 (by rw [hga,g2,if_pos (by rfl)]) (by decide)];repeat' first|((with_reducible refine qq3 ?_);refine ah.call o6 rfl rfl ?_)|((with_reducible refine qq3 ?_);refine ah.call o7 rfl rfl ?_)|((with_reducible refine qq3 ?_);refine ah.call o8 rfl rfl ?_)|((with_reducible refine qq3 ?_);refine ah.call o9 rfl rfl ?_)|refine u1 ?_|refine u2 ?_|fail
        exact ⟨[_,_,_],⟨Fz.deep rfl,Fz.deep rfl,Fz.deep rfl,trivial⟩,rfl⟩
       | true =>
        rw [g2,←eg] at o6
        cases g3:jK g.qZ (-100000) 100000 with
        | false =>
         rw [g3] at o7;rw [fin 7 (by rw [hga,g2,g3,if_neg (by simp),if_pos (by rfl)]) (by decide)];repeat' first|((with_reducible refine qq3 ?_);refine ah.call o6 rfl rfl ?_)|((with_reducible refine qq3 ?_);refine ah.call o7 rfl rfl ?_)|((with_reducible refine qq3 ?_);refine ah.call o8 rfl rfl ?_)|((with_reducible refine qq3 ?_);refine ah.call o9 rfl rfl ?_)|refine u1 ?_|refine u2 ?_|fail
         exact ⟨[_,_,_],⟨Fz.deep rfl,Fz.deep rfl,Fz.deep rfl,trivial⟩,rfl⟩
        | true =>
         rw [g3] at o7;rw [g2,g3,if_neg (by simp),if_neg (by simp)] at hga;repeat' first|((with_reducible refine qq3 ?_);refine ah.call o6 rfl rfl ?_)|((with_reducible refine qq3 ?_);refine ah.call o7 rfl rfl ?_)|((with_reducible refine qq3 ?_);refine ah.call o8 rfl rfl ?_)|((with_reducible refine qq3 ?_);refine ah.call o9 rfl rfl ?_)|refine u1 ?_|refine u2 ?_|fail
         refine ⟨(k+1,v',c'),⟨hlt,(fun i hi=>?_),hc'⟩,(by dsimp only;omega),?_⟩
         ·by_cases hik:i=k
          ·subst hik;exact hga
          ·exact hprev i (by dsimp only at hi;omega)
         ·exact ak.to 1 (by dsimp only;rw [hst];rfl) ⟨rfl,rfl,aH (by simp),trivial⟩ (qq5 _) rfl (zu _ _)
      ·rw [if_pos g1] at hga;rw [fin f hga g1];have d7:decide (f=0)=false:=decide_eq_false g1;have d7':(!decide (f=0))=true:=by rw [d7];rfl
       repeat' first|((with_reducible refine qq3 ?_);refine ah.call o6 rfl rfl ?_)|((with_reducible refine qq3 ?_);refine ah.call o7 rfl rfl ?_)|((with_reducible refine qq3 ?_);refine ah.call o8 rfl rfl ?_)|((with_reducible refine qq3 ?_);refine ah.call o9 rfl rfl ?_)|refine u1 ?_|refine u2 ?_|fail
       exact ⟨[_,_,_],⟨Fz.deep rfl,Fz.deep rfl,Fz.deep rfl,trivial⟩,rfl⟩
     ·have hkn:k=c.aA.length:=by omega
      have d1:decide ((k:Int) < ((c.aA.map bS).length:Int))=false:=decide_eq_false (by omega);subst hkn;rw [hcc,kX (fun i hi=>hprev i hi),if_neg (by simp)];repeat' first|refine u1 ?_|refine u2 ?_|fail
      exact ⟨[_,_,_],⟨Fz.deep rfl,Fz.deep rfl,Fz.deep rfl,trivial⟩,rfl⟩
end Go.Proofs.YtlpmfgmldmdggaaGreat
open Go Go.RM
namespace Go.Proofs.YtlpmfgmldmdggaaGreat
set_option maxRecDepth 100000
structure Ev where
 day:Int
 kind:Int
 L4:Int
 other:Int
structure Acc where
 place:Int
 qZ:Int
 d0:Int
 d1:Int
 d2:Int
structure Good (c:aP):Prop where
 aB:1≤c.aB.length∧c.aB.length≤3
 aA:1≤c.aA.length∧c.aA.length≤5
 least:0≤c.least∧c.least≤5
 kC:∀ r ∈ c.aB,(0≤r.EH∧r.EH≤1000)∧(0≤r.leave∧r.leave≤1000)∧(0≤r.EI∧r.EI≤1000)∧(0≤r.qY∧r.qY≤1000)
 L4:∀ m ∈ c.aA,(0≤m.kC∧m.kC < c.aB.length)∧(-100000≤m.qZ∧m.qZ≤100000)
theorem tK {n:Nat} {e:Nat→Int} (h:(cL n e).2=0):∀ i,i < n→e i=0:=by
 intro i hi;unfold cL at h
 cases hf:(List.range n).find? (fun i=>e i != 0) with
 | none =>rw [List.find?_eq_none] at hf;have:=hf i (by simpa using hi);simpa using this
 | some k =>
  rw [hf] at h;have h1:(e k != 0)=true:=by have:=List.find?_some hf;exact this
  have h2:e k=0:=h;rw [h2] at h1;cases h1
theorem JO {c:aP} (h:(oG c).2.2=0):Good c:=by
 unfold oG at h;split at h
 ·cases h
 ·rename_i h1;split at h
  ·cases h
  ·rename_i h2;simp only [Bool.or_eq_true,not_or,Bool.not_eq_true] at h1 h2;have a1:=i9 h1.1;have a2:=i9 h1.2;have a3:=i9 h2;split at h
   ·rename_i h3;exact absurd h h3
   ·rename_i h3;split at h
    ·rename_i h4;exact absurd h h4
    ·rename_i h4;have z1:=tK (Decidable.not_not.1 h3);have z2:=tK (Decidable.not_not.1 h4);refine ⟨by omega,by omega,a3,fun r hr=>?_,fun m hm=>?_⟩
     ·obtain ⟨i,hi,rfl⟩:=List.getElem_of_mem hr;have:=z1 i hi;unfold F8 cT at this;rw [List.getElem?_eq_getElem hi] at this;simp only at this;split at this
      ·cases this
      ·split at this
       ·cases this
       ·unfold dB at this;split at this
        ·cases this
        ·rename_i hh;rw [cM,Jl] at hh;simp only [Bool.or_eq_true,not_or,Bool.not_eq_true,Bool.not_eq_false'] at hh;exact ⟨fO.1 hh.1,fO.1 hh.2.1,fO.1 hh.2.2.1,fO.1 hh.2.2.2⟩
     ·obtain ⟨i,hi,rfl⟩:=List.getElem_of_mem hm;have:=z2 i hi;unfold Dh cT at this;rw [List.getElem?_eq_getElem hi] at this;simp only at this;split at this
      ·cases this
      ·split at this
       ·cases this
       ·unfold e9 at this;split at this
        ·cases this
        ·rename_i hh;split at this
         ·cases this
         ·rename_i hh2;have q1:=i9 (Bool.not_eq_true _ ▸ hh);have q2:=i9 (Bool.not_eq_true _ ▸ hh2);omega
def Gc (c:aP) (i:Nat):Option eZ:=(c.aA[i]?).bind fun m=>c.aB[m.kC.toNat]?
def Cw (c:aP) (i:Nat):Int:=((Gc c i).map eZ.qY).getD 0
structure hU (day:Int) (a:Acc):Prop where
 place:a.place=0∨a.place=1∨a.place=2
 qZ:-(100000+1000 * day)≤a.qZ∧a.qZ≤100000+1000 * day
 d0:0≤a.d0∧a.d0≤day
 d1:0≤a.d1∧a.d1≤day
 d2:0≤a.d2∧a.d2≤day
structure Inv (c:aP) (day:Int) (ls:List Acc):Prop where
 len:ls.length=c.aA.length
 ok:∀ a ∈ ls,hU day a
 day:0≤day∧day≤40000
theorem Dk {dd e:Int} (h0:0≤dd) (he:0≤e∧e≤1000):0≤dd * e∧dd * e≤1000 * dd:=by
 constructor
 ·exact Int.mul_nonneg h0 he.1
 ·calc dd * e≤dd * 1000:=Int.mul_le_mul_of_nonneg_left he.2 h0
  _=1000 * dd:=Int.mul_comm _ _
end Go.Proofs.YtlpmfgmldmdggaaGreat
open Go Go.RM
namespace Go.Proofs.YtlpmfgmldmdggaaGreat
set_option maxRecDepth 100000
set_option maxHeartbeats 4000000
end Go.Proofs.YtlpmfgmldmdggaaGreat
open Go Go.RM
namespace Go.Proofs.YtlpmfgmldmdggaaGreat
set_option maxRecDepth 100000
set_option maxHeartbeats 4000000
end Go.Proofs.YtlpmfgmldmdggaaGreat
open Go Go.RM
namespace Go.Proofs.YtlpmfgmldmdggaaGreat
set_option maxRecDepth 100000
set_option maxHeartbeats 4000000
end Go.Proofs.YtlpmfgmldmdggaaGreat
open Go Go.RM
namespace Go.Proofs.YtlpmfgmldmdggaaGreat
set_option maxRecDepth 100000
set_option maxHeartbeats 4000000
end Go.Proofs.YtlpmfgmldmdggaaGreat
open Go Go.RM
namespace Go.Proofs.YtlpmfgmldmdggaaGreat
set_option maxRecDepth 100000
set_option maxHeartbeats 4000000
end Go.Proofs.YtlpmfgmldmdggaaGreat
open Go Go.RM
namespace Go.Proofs.YtlpmfgmldmdggaaGreat
set_option maxRecDepth 100000
end Go.Proofs.YtlpmfgmldmdggaaGreat
open Go Go.RM
namespace Go.Proofs.YtlpmfgmldmdggaaGreat
set_option maxRecDepth 100000
set_option maxHeartbeats 4000000
abbrev I0:AB:=.cells [af 0] 0 0
end Go.Proofs.YtlpmfgmldmdggaaGreat
open Go Go.RM
namespace Go.Proofs.YtlpmfgmldmdggaaGreat
set_option maxRecDepth 100000
set_option maxHeartbeats 4000000
end Go.Proofs.YtlpmfgmldmdggaaGreat
open Go Go.RM
namespace Go.Proofs.YtlpmfgmldmdggaaGreat
set_option maxRecDepth 100000
abbrev later:Int:=9223372036854775807
structure Aw (x:Ev):Prop where
 day:x.day≤later
end Go.Proofs.YtlpmfgmldmdggaaGreat
open Go Go.RM
namespace Go.Proofs.YtlpmfgmldmdggaaGreat
set_option maxRecDepth 100000
set_option maxHeartbeats 4000000
end Go.Proofs.YtlpmfgmldmdggaaGreat
open Go Go.RM
namespace Go.Proofs.YtlpmfgmldmdggaaGreat
set_option maxRecDepth 100000
set_option maxHeartbeats 4000000
end Go.Proofs.YtlpmfgmldmdggaaGreat
open Go Go.RM
namespace Go.Proofs.YtlpmfgmldmdggaaGreat
set_option maxRecDepth 100000
set_option maxHeartbeats 4000000
end Go.Proofs.YtlpmfgmldmdggaaGreat
open Go Go.RM
namespace Go.Proofs.YtlpmfgmldmdggaaGreat
set_option maxRecDepth 100000
def Gd (c:aP) (i:Nat):Int:=((c.aA[i]?).map m8.qZ).getD 0
end Go.Proofs.YtlpmfgmldmdggaaGreat
open Go Go.RM
namespace Go.Proofs.YtlpmfgmldmdggaaGreat
set_option maxRecDepth 100000
set_option maxHeartbeats 4000000
end Go.Proofs.YtlpmfgmldmdggaaGreat
open Go Go.RM
namespace Go.Proofs.YtlpmfgmldmdggaaGreat
set_option maxRecDepth 100000
set_option maxHeartbeats 4000000
def rm:Code→Code
 | .seq _ b=>b
 | x=>x
end Go.Proofs.YtlpmfgmldmdggaaGreat
open Go Go.RM
namespace Go.Proofs.YtlpmfgmldmdggaaGreat
set_option maxRecDepth 100000
set_option maxHeartbeats 4000000
end Go.Proofs.YtlpmfgmldmdggaaGreat
open Go Go.RM
namespace Go.Proofs.YtlpmfgmldmdggaaGreat
set_option maxRecDepth 100000
end Go.Proofs.YtlpmfgmldmdggaaGreat
open Go Go.RM
namespace Go.Proofs.YtlpmfgmldmdggaaGreat
set_option maxRecDepth 100000
end Go.Proofs.YtlpmfgmldmdggaaGreat
open Go Go.RM
namespace Go.Proofs.YtlpmfgmldmdggaaGreat
set_option maxRecDepth 100000
set_option maxHeartbeats 4000000
end Go.Proofs.YtlpmfgmldmdggaaGreat
open Go Go.RM
namespace Go.Proofs.YtlpmfgmldmdggaaGreat
set_option maxRecDepth 100000
end Go.Proofs.YtlpmfgmldmdggaaGreat
open Go Go.RM
namespace Go.Proofs.YtlpmfgmldmdggaaGreat
set_option maxRecDepth 100000
set_option maxHeartbeats 4000000
theorem K9 (one:Bool):Pu one 26 [] (BB true):=ah.closed (fun _=>rfl) rfl
