/-
  Contracts of the program's functions and of the document's. Lemmas alone; their conditions stand in them.
-/
import Derived.Test.YtlpmfgmldmdggaaGreatK2
open Go Go.RM
namespace Go.Proofs.YtlpmfgmldmdggaaGreat
set_option maxRecDepth 100000
set_option maxHeartbeats 4000000
theorem tZ {α:Type} {nm:α→ByteArray} {err:α→Int} {l:List α} {k:Nat} (h:k < l.length):dj nm err l k=if kD (nm l[k]) ((l.take k).map nm) ≠ 0 then kD (nm l[k]) ((l.take k).map nm) else err l[k]:=by
 unfold dj kD;rw [List.getElem?_eq_getElem h,List.any_map];simp only;have e1:(List.any (l.take k) ((fun x=>w5 x (nm l[k])) ∘ nm))=(l.take k).any fun y=>w5 (nm y) (nm l[k]):=rfl;rw [e1]
 cases iA (nm l[k]) with
 | false=>simp
 | true=>cases ((l.take k).any fun y=>w5 (nm y) (nm l[k])) <;> simp
theorem JM (lo hi a b c:Int):iy lo hi [a,b,c]=(!jP a lo hi || (!jP b lo hi || !jP c lo hi)):=by have h1:=cT a lo hi;have h2:=cT b lo hi;have h3:=cT c lo hi;rw [←h1,←h2,←h3];unfold iy;simp
def gN (l:List ByteArray):List AV:=l.map fun x=>ST x
theorem Dw {l:List ByteArray} {k:Nat} (h:k < l.length):gN (l.take (k+1))=gN (l.take k)++[ST l[k]]:=by unfold gN;rw [List.take_add_one,List.getElem?_eq_getElem h,List.map_append];rfl
theorem Dx (l:List ByteArray):(l.map eS).flatten=gN l:=by
 induction l with
 | nil=>rfl
 | cons a l ih =>simp only [List.map_cons,List.flatten_cons,ih];rfl
theorem Gi (l:List ByteArray):cZ (gN l)=true:=by
 induction l with
 | nil=>rfl
 | cons a l ih=>exact ih
theorem IC (n:Nat) (l:List ByteArray):sW n (gN l)=true:=by
 induction l with
 | nil=>rfl
 | cons a l ih=>exact ih
theorem zK (l:List ByteArray):(gN l).length=l.length:=by unfold gN;simp
theorem Gj {B:List AB} (l:List ByteArray) {n v c:Nat} (h:l.length=n):Fz (.cells (gN l) 1 v :: B) (.aI 0 v 0 n c) (.sl (l.map eS) false) :=
 Fz.row (es:=1) rfl (by rw [zK];omega) (by simp;omega) (fun el hel=>by obtain ⟨x,_,rfl⟩:=List.mem_map.1 hel;rfl) (by rw [Dx,List.drop_zero,List.take_of_length_le (by rw [zK];omega)]) (by rw [Dx];exact Gi _) (fun h=>Bool.noConfusion h)
theorem zL (l:List ByteArray) (v:Nat):([.cells (gN l) 1 v]:List AB).all (AB.i5 1)=true:=by have h:AB.i5 1 (.cells (gN l) 1 v)=true:=IC 1 l;simp only [List.all_cons,List.all_nil,h,Bool.and_true]
theorem Gk (one:Bool) (c:aS) (h:c.Ok):Pu one 17 [.ag (aM c)] (.tp [af (oY c).1,af (oY c).2.1,af (oY c).2.2]):=by
 have eg:((c.aE.map aX).length:Int)=c.aE.length:=by simp
 have em:((c.aH.map bq).length:Int)=c.aH.length:=by simp
 have o1:=iT one ((c.aE.map aX).length:Int) 1 3;have o2:=iT one ((c.aH.map bq).length:Int) 1 5;have o3:=iT one c.least 0 5;rw [eg] at o1;rw [em] at o2
 cases e1:jP (c.aE.length:Int) 1 3 with
 | false =>
  rw [e1,←eg] at o1;have hc:oY c=(1,0,3):=by unfold oY;rw [cT,e1,if_pos (by rfl)]
  rw [hc];refine ak.body (fn:=Tryz.f17) rfl rfl rfl rfl ?_;refine aa (mu:=fun t=>Nat.beq t 48 || Nat.beq t 99) ?_;repeat' first|refine u1 ?_|((with_reducible refine qq3 ?_);refine ak.call o1 rfl rfl ?_)|((with_reducible refine qq3 ?_);refine ak.call o2 rfl rfl ?_)|((with_reducible refine qq3 ?_);refine ak.call o3 rfl rfl ?_)|refine u2 ?_|fail
  exact ⟨[_,_,_],⟨Fz.deep rfl,Fz.deep rfl,Fz.deep rfl,trivial⟩,rfl⟩
 | true =>
  rw [e1,←eg] at o1
  cases e2:jP (c.aH.length:Int) 1 5 with
  | false =>
   rw [e2,←em] at o2;have hc:oY c=(1,0,3):=by unfold oY;rw [cT,cT,e1,e2,if_pos (by rfl)]
   rw [hc];refine ak.body (fn:=Tryz.f17) rfl rfl rfl rfl ?_;refine aa (mu:=fun t=>Nat.beq t 48 || Nat.beq t 99) ?_;repeat' first|refine u1 ?_|((with_reducible refine qq3 ?_);refine ak.call o1 rfl rfl ?_)|((with_reducible refine qq3 ?_);refine ak.call o2 rfl rfl ?_)|((with_reducible refine qq3 ?_);refine ak.call o3 rfl rfl ?_)|refine u2 ?_|fail
   exact ⟨[_,_,_],⟨Fz.deep rfl,Fz.deep rfl,Fz.deep rfl,trivial⟩,rfl⟩
  | true =>
   rw [e2,←em] at o2
   cases e3:jP c.least 0 5 with
   | false =>
    rw [e3] at o3;have hc:oY c=(1,0,7):=by unfold oY;rw [cT,cT,cT,e1,e2,e3,if_neg (by simp),if_pos (by rfl)]
    rw [hc];refine ak.body (fn:=Tryz.f17) rfl rfl rfl rfl ?_;refine aa (mu:=fun t=>Nat.beq t 48 || Nat.beq t 99) ?_;repeat' first|refine u1 ?_|((with_reducible refine qq3 ?_);refine ak.call o1 rfl rfl ?_)|((with_reducible refine qq3 ?_);refine ak.call o2 rfl rfl ?_)|((with_reducible refine qq3 ?_);refine ak.call o3 rfl rfl ?_)|refine u2 ?_|fail
    exact ⟨[_,_,_],⟨Fz.deep rfl,Fz.deep rfl,Fz.deep rfl,trivial⟩,rfl⟩
   | true =>
    rw [e3] at o3;have hcc:oY c=if (cS c.aE.length (Gh c)).2 ≠ 0 then (2,(cS c.aE.length (Gh c)).1,(cS c.aE.length (Gh c)).2) else if (cS c.aH.length (Dv c)).2 ≠ 0 then (3,(cS c.aH.length (Dv c)).1,(cS c.aH.length (Dv c)).2) else (0,0,0):=by unfold oY;rw [cT,cT,cT,e1,e2,e3,if_neg (by simp),if_neg (by simp)]
    have b1:=gh.1 e1;have b2:=gh.1 e2;have z00:decide ((0:Int)=0)=true:=by decide
    have z70:decide ((7:Int)=0)=false:=by decide
    have z40:decide ((4:Int)=0)=false:=by decide
    have n00:(!decide ((0:Int)=0))=false:=by decide
    have n70:(!decide ((7:Int)=0))=true:=by decide
    have n40:(!decide ((4:Int)=0))=true:=by decide
    refine ak.body (fn:=Tryz.f17) rfl rfl rfl rfl ?_;refine aa (mu:=fun t=>Nat.beq t 48 || Nat.beq t 99) ?_;repeat' first|refine u1 ?_|((with_reducible refine qq3 ?_);refine ak.call o1 rfl rfl ?_)|((with_reducible refine qq3 ?_);refine ak.call o2 rfl rfl ?_)|((with_reducible refine qq3 ?_);refine ak.call o3 rfl rfl ?_)|refine u2 ?_|fail
    refine aB.aP (ah.trans (ah.to (l:=[(1,.pt (aM c) 0),(5,.fl (.slice none 0 0)),(6,af ((0:Nat):Int))]) (hp:=[]) 0 rfl ⟨rfl,rfl,rfl,trivial⟩ (qq5 _) rfl rfl) (ah.trans (ah.nW 1) (ah.JJ (l:=[(1,.pt (aM c) 0),(5,.aI 0 (0,0,0).2.1 0 (0,0,0).1 (0,0,0).2.2),(6,af ((0,0,0).1:Nat))]) (hp:=[.cells (gN ((c.aE.map fk.name).take (0,0,0).1)) 1 (0,0,0).2.1]) 1 rfl ⟨eP.refl _,eP.nV,eP.refl _,trivial⟩ (qq5 _) rfl (zL _ _)))) ?_;refine aB.loop (fun x:Nat × Nat × Nat=>x.1≤c.aE.length∧(∀ i,i < x.1→Gh c i=0)∧(x.2.2=x.1∨x.2.2=x.1+1)) (fun x=>⟨aL [(1,.pt (aM c) 0),(5,.aI 0 x.2.1 0 x.1 x.2.2),(6,af (x.1:Nat))],[.cells (gN ((c.aE.map fk.name).take x.1)) 1 x.2.1],bp.none,false,0⟩) (fun x=>c.aE.length - x.1) ?_ (0,0,0) ⟨qq5 _,(fun i hi=>absurd hi (Nat.not_lt_zero _)),.inl rfl⟩;rintro ⟨k,aJ,cc⟩ ⟨hk,hprev,hcap⟩;dsimp only at hk hprev hcap;show aB _ _ _ _ ⟨aL [(1,.pt (aM c) 0),(5,.aI 0 (k,aJ,cc).2.1 0 (k,aJ,cc).1 (k,aJ,cc).2.2),(6,af ((k,aJ,cc).1:Nat))],[.cells (gN ((c.aE.map fk.name).take (k,aJ,cc).1)) 1 (k,aJ,cc).2.1],bp.none,false,0⟩ _;dsimp only;refine aa (mu:=fun t=>Nat.beq t 48 || Nat.beq t 99) ?_;by_cases hlt:k < c.aE.length
    ·have d1:decide ((k:Int) < ((c.aE.map aX).length:Int))=true:=decide_eq_true (by omega);have hat:(c.aE.map aX)[((k:Nat):Int).toNat]?=some (aX c.aE[k]):=dB hlt;have hga:Gh c k=_:=tZ (nm:=fk.name) (err:=dO) hlt;have hln:(c.aE.map fk.name).length=c.aE.length:=by simp
     have htl:((c.aE.map fk.name).take k).length=k:=by rw [List.length_take,hln];omega
     have hgl:(gN ((c.aE.map fk.name).take k)).length=k:=by rw [zK,htl]
     have hst:gN ((c.aE.map fk.name).take (k+1))=gN ((c.aE.map fk.name).take k)++[ST c.aE[k].name]:=by rw [Dw (by omega),List.getElem_map]
     have hfr:=Du one ((c.aE.map fk.name).take k) false c.aE[k].name (h.Gf _ (List.getElem_mem hlt)) (by rw [htl];simp [maxLen];omega);rw [List.map_take] at hga;have hre:dO c.aE[k]=if jP c.aE[k].EV 0 1000=false∨jP c.aE[k].leave 0 1000=false∨jP c.aE[k].EW 0 1000=false∨jP c.aE[k].rL 0 1000=false then 7 else 0:=by unfold dO;rw [cT,JM];cases jP c.aE[k].EV 0 1000 <;> cases jP c.aE[k].leave 0 1000 <;> cases jP c.aE[k].EW 0 1000 <;> cases jP c.aE[k].rL 0 1000 <;> rfl
     have o6:=iT one c.aE[k].EV 0 1000;have o7:=iT one c.aE[k].leave 0 1000;have o8:=iT one c.aE[k].EW 0 1000;have o9:=iT one c.aE[k].rL 0 1000;have fin:∀ v,Gh c k=v→v ≠ 0→oY c=(2,(k:Int),v):=fun v e hv=>by rw [hcc,lu hlt hprev (by rw [e];exact hv),e,if_pos hv]
     generalize c.aE[k]=g at *
     generalize kD g.name ((c.aE.map fk.name).take k)=f at *
     rw [hre] at hga;repeat' first|((with_reducible show RM.wpOp _ _ (.call _) _ _ _);refine RM.wD (cs:=gN ((c.aE.map fk.name).take k)) (n:=k) (els:=[eS g.name]) rfl rfl rfl rfl rfl (fun el hel=>by rw [List.mem_singleton.1 hel];rfl) rfl rfl (by rw [hgl];exact (Nat.mul_one _).symm) hcap (by simp only [List.length_singleton];omega) (fun v' c' hc'=>?_))|refine u1 ?_|((with_reducible refine qq4 ?_);refine ⟨aX g,⟨by omega,hat⟩,rfl,?_⟩)|((with_reducible refine qq3 ?_);refine ak.Ke hfr rfl (Cx.two (Fz.deep rfl) (Gj _ htl)) (nU.fl _) ?_)|refine u2 ?_|fail
     by_cases g1:f=0
     ·rw [if_neg (by omega)] at hga;have d7:decide (f=0)=true:=decide_eq_true g1;have d7':(!decide (f=0))=false:=by rw [d7];rfl
      have bad:(jP g.EV 0 1000=false∨jP g.leave 0 1000=false∨jP g.EW 0 1000=false∨jP g.rL 0 1000=false)→oY c=(2,(k:Int),7):=fun hb2=>by rw [if_pos hb2] at hga;exact fin 7 hga (by decide)
      cases g2:jP g.EV 0 1000 with
      | false =>
       rw [g2] at o6;rw [bad (.inl g2)];repeat' first|((with_reducible refine qq3 ?_);refine ak.call o6 rfl rfl ?_)|((with_reducible refine qq3 ?_);refine ak.call o7 rfl rfl ?_)|((with_reducible refine qq3 ?_);refine ak.call o8 rfl rfl ?_)|((with_reducible refine qq3 ?_);refine ak.call o9 rfl rfl ?_)|refine u1 ?_|refine u2 ?_|fail
       exact ⟨[_,_,_],⟨Fz.deep rfl,Fz.deep rfl,Fz.deep rfl,trivial⟩,rfl⟩
      | true =>
       rw [g2] at o6
       cases g3:jP g.leave 0 1000 with
       | false =>
        rw [g3] at o7;rw [bad (.inr (.inl g3))];repeat' first|((with_reducible refine qq3 ?_);refine ak.call o6 rfl rfl ?_)|((with_reducible refine qq3 ?_);refine ak.call o7 rfl rfl ?_)|((with_reducible refine qq3 ?_);refine ak.call o8 rfl rfl ?_)|((with_reducible refine qq3 ?_);refine ak.call o9 rfl rfl ?_)|refine u1 ?_|refine u2 ?_|fail
        exact ⟨[_,_,_],⟨Fz.deep rfl,Fz.deep rfl,Fz.deep rfl,trivial⟩,rfl⟩
       | true =>
        rw [g3] at o7
        cases g4:jP g.EW 0 1000 with
        | false =>
         rw [g4] at o8;rw [bad (.inr (.inr (.inl g4)))];repeat' first|((with_reducible refine qq3 ?_);refine ak.call o6 rfl rfl ?_)|((with_reducible refine qq3 ?_);refine ak.call o7 rfl rfl ?_)|((with_reducible refine qq3 ?_);refine ak.call o8 rfl rfl ?_)|((with_reducible refine qq3 ?_);refine ak.call o9 rfl rfl ?_)|refine u1 ?_|refine u2 ?_|fail
         exact ⟨[_,_,_],⟨Fz.deep rfl,Fz.deep rfl,Fz.deep rfl,trivial⟩,rfl⟩
        | true =>
         rw [g4] at o8
         cases g5:jP g.rL 0 1000 with
         | false =>
          rw [g5] at o9;rw [bad (.inr (.inr (.inr g5)))];repeat' first|((with_reducible refine qq3 ?_);refine ak.call o6 rfl rfl ?_)|((with_reducible refine qq3 ?_);refine ak.call o7 rfl rfl ?_)|((with_reducible refine qq3 ?_);refine ak.call o8 rfl rfl ?_)|((with_reducible refine qq3 ?_);refine ak.call o9 rfl rfl ?_)|refine u1 ?_|refine u2 ?_|fail
          exact ⟨[_,_,_],⟨Fz.deep rfl,Fz.deep rfl,Fz.deep rfl,trivial⟩,rfl⟩
         | true =>
          rw [g5] at o9;rw [if_neg (by rw [g2,g3,g4,g5];simp)] at hga;repeat' first|((with_reducible refine qq3 ?_);refine ak.call o6 rfl rfl ?_)|((with_reducible refine qq3 ?_);refine ak.call o7 rfl rfl ?_)|((with_reducible refine qq3 ?_);refine ak.call o8 rfl rfl ?_)|((with_reducible refine qq3 ?_);refine ak.call o9 rfl rfl ?_)|refine u1 ?_|refine u2 ?_|fail
          refine ⟨(k+1,v',c'),⟨hlt,(fun i hi=>?_),hc'⟩,(by dsimp only;omega),?_⟩
          ·by_cases hik:i=k
           ·subst hik;exact hga
           ·exact hprev i (by dsimp only at hi;omega)
          ·exact ah.to 1 (by dsimp only;rw [hst];rfl) ⟨rfl,rfl,aD (by simp),trivial⟩ (qq5 _) rfl (zL _ _)
     ·rw [if_pos g1] at hga;rw [fin f hga g1];have d7:decide (f=0)=false:=decide_eq_false g1;have d7':(!decide (f=0))=true:=by rw [d7];rfl
      repeat' first|((with_reducible refine qq3 ?_);refine ak.call o6 rfl rfl ?_)|((with_reducible refine qq3 ?_);refine ak.call o7 rfl rfl ?_)|((with_reducible refine qq3 ?_);refine ak.call o8 rfl rfl ?_)|((with_reducible refine qq3 ?_);refine ak.call o9 rfl rfl ?_)|refine u1 ?_|refine u2 ?_|fail
      exact ⟨[_,_,_],⟨Fz.deep rfl,Fz.deep rfl,Fz.deep rfl,trivial⟩,rfl⟩
    ·have hkn:k=c.aE.length:=by omega
     have d1:decide ((k:Int) < ((c.aE.map aX).length:Int))=false:=decide_eq_false (by omega);subst hkn;have hcc:oY c=if (cS c.aH.length (Dv c)).2 ≠ 0 then (3,(cS c.aH.length (Dv c)).1,(cS c.aH.length (Dv c)).2) else (0,0,0):=by rw [hcc,lz (fun i hi=>hprev i hi),if_neg (by simp)]
     clear hprev;repeat' first|refine u1 ?_|refine u2 ?_|fail
     refine aB.aP (ah.trans (ah.to (l:=[(1,.pt (aM c) 0),(5,.fl (.slice none 0 0)),(9,af ((0:Nat):Int))]) (hp:=[]) 0 rfl ⟨rfl,rfl,rfl,trivial⟩ (qq5 _) rfl rfl) (ah.trans (ah.nW 1) (ah.JJ (l:=[(1,.pt (aM c) 0),(5,.aI 0 (0,0,0).2.1 0 (0,0,0).1 (0,0,0).2.2),(9,af ((0,0,0).1:Nat))]) (hp:=[.cells (gN ((c.aH.map nh.name).take (0,0,0).1)) 1 (0,0,0).2.1]) 1 rfl ⟨eP.refl _,eP.nV,eP.refl _,trivial⟩ (qq5 _) rfl (zL _ _)))) ?_;refine aB.loop (fun x:Nat × Nat × Nat=>x.1≤c.aH.length∧(∀ i,i < x.1→Dv c i=0)∧(x.2.2=x.1∨x.2.2=x.1+1)) (fun x=>⟨aL [(1,.pt (aM c) 0),(5,.aI 0 x.2.1 0 x.1 x.2.2),(9,af (x.1:Nat))],[.cells (gN ((c.aH.map nh.name).take x.1)) 1 x.2.1],bp.none,false,0⟩) (fun x=>c.aH.length - x.1) ?_ (0,0,0) ⟨qq5 _,(fun i hi=>absurd hi (Nat.not_lt_zero _)),.inl rfl⟩;rintro ⟨k,aJ,cc⟩ ⟨hk,hprev,hcap⟩;dsimp only at hk hprev hcap;show aB _ _ _ _ ⟨aL [(1,.pt (aM c) 0),(5,.aI 0 (k,aJ,cc).2.1 0 (k,aJ,cc).1 (k,aJ,cc).2.2),(9,af ((k,aJ,cc).1:Nat))],[.cells (gN ((c.aH.map nh.name).take (k,aJ,cc).1)) 1 (k,aJ,cc).2.1],bp.none,false,0⟩ _;dsimp only;refine aa (mu:=fun t=>Nat.beq t 48 || Nat.beq t 99) ?_;by_cases hlt:k < c.aH.length
     ·have d1:decide ((k:Int) < ((c.aH.map bq).length:Int))=true:=decide_eq_true (by omega);have hat:(c.aH.map bq)[((k:Nat):Int).toNat]?=some (bq c.aH[k]):=dB hlt;have hga:Dv c k=_:=tZ (nm:=nh.name) (err:=(fo c.aE.length)) hlt;have hln:(c.aH.map nh.name).length=c.aH.length:=by simp
      have htl:((c.aH.map nh.name).take k).length=k:=by rw [List.length_take,hln];omega
      have hgl:(gN ((c.aH.map nh.name).take k)).length=k:=by rw [zK,htl]
      have hst:gN ((c.aH.map nh.name).take (k+1))=gN ((c.aH.map nh.name).take k)++[ST c.aH[k].name]:=by rw [Dw (by omega),List.getElem_map]
      have hfr:=Du one ((c.aH.map nh.name).take k) false c.aH[k].name (h.Gg _ (List.getElem_mem hlt)) (by rw [htl];simp [maxLen];omega);rw [List.map_take] at hga;have o6:=iT one c.aH[k].kL 0 (((c.aE.map aX).length:Int) - 1);rw [eg] at o6;have o7:=iT one c.aH[k].rM (-100000) 100000;have fin:∀ v,Dv c k=v→v ≠ 0→oY c=(3,(k:Int),v):=fun v e hv=>by rw [hcc,lu hlt hprev (by rw [e];exact hv),e,if_pos hv]
      generalize c.aH[k]=g at *
      generalize kD g.name ((c.aH.map nh.name).take k)=f at *
      unfold fo at hga;rw [cT,cT] at hga;repeat' first|((with_reducible show RM.wpOp _ _ (.call _) _ _ _);refine RM.wD (cs:=gN ((c.aH.map nh.name).take k)) (n:=k) (els:=[eS g.name]) rfl rfl rfl rfl rfl (fun el hel=>by rw [List.mem_singleton.1 hel];rfl) rfl rfl (by rw [hgl];exact (Nat.mul_one _).symm) hcap (by simp only [List.length_singleton];omega) (fun v' c' hc'=>?_))|refine u1 ?_|((with_reducible refine qq4 ?_);refine ⟨bq g,⟨by omega,hat⟩,rfl,?_⟩)|((with_reducible refine qq3 ?_);refine ak.Ke hfr rfl (Cx.two (Fz.deep rfl) (Gj _ htl)) (nU.fl _) ?_)|refine u2 ?_|fail
      by_cases g1:f=0
      ·rw [if_neg (by omega)] at hga;have d7:decide (f=0)=true:=decide_eq_true g1;have d7':(!decide (f=0))=false:=by rw [d7];rfl
       cases g2:jP g.kL 0 ((c.aE.length:Int) - 1) with
       | false =>
        rw [g2,←eg] at o6;rw [fin 4 (by rw [hga,g2,if_pos (by rfl)]) (by decide)];repeat' first|((with_reducible refine qq3 ?_);refine ak.call o6 rfl rfl ?_)|((with_reducible refine qq3 ?_);refine ak.call o7 rfl rfl ?_)|((with_reducible refine qq3 ?_);refine ak.call o8 rfl rfl ?_)|((with_reducible refine qq3 ?_);refine ak.call o9 rfl rfl ?_)|refine u1 ?_|refine u2 ?_|fail
        exact ⟨[_,_,_],⟨Fz.deep rfl,Fz.deep rfl,Fz.deep rfl,trivial⟩,rfl⟩
       | true =>
        rw [g2,←eg] at o6
        cases g3:jP g.rM (-100000) 100000 with
        | false =>
         rw [g3] at o7;rw [fin 7 (by rw [hga,g2,g3,if_neg (by simp),if_pos (by rfl)]) (by decide)];repeat' first|((with_reducible refine qq3 ?_);refine ak.call o6 rfl rfl ?_)|((with_reducible refine qq3 ?_);refine ak.call o7 rfl rfl ?_)|((with_reducible refine qq3 ?_);refine ak.call o8 rfl rfl ?_)|((with_reducible refine qq3 ?_);refine ak.call o9 rfl rfl ?_)|refine u1 ?_|refine u2 ?_|fail
         exact ⟨[_,_,_],⟨Fz.deep rfl,Fz.deep rfl,Fz.deep rfl,trivial⟩,rfl⟩
        | true =>
         rw [g3] at o7;rw [g2,g3,if_neg (by simp),if_neg (by simp)] at hga;repeat' first|((with_reducible refine qq3 ?_);refine ak.call o6 rfl rfl ?_)|((with_reducible refine qq3 ?_);refine ak.call o7 rfl rfl ?_)|((with_reducible refine qq3 ?_);refine ak.call o8 rfl rfl ?_)|((with_reducible refine qq3 ?_);refine ak.call o9 rfl rfl ?_)|refine u1 ?_|refine u2 ?_|fail
         refine ⟨(k+1,v',c'),⟨hlt,(fun i hi=>?_),hc'⟩,(by dsimp only;omega),?_⟩
         ·by_cases hik:i=k
          ·subst hik;exact hga
          ·exact hprev i (by dsimp only at hi;omega)
         ·exact ah.to 1 (by dsimp only;rw [hst];rfl) ⟨rfl,rfl,aD (by simp),trivial⟩ (qq5 _) rfl (zL _ _)
      ·rw [if_pos g1] at hga;rw [fin f hga g1];have d7:decide (f=0)=false:=decide_eq_false g1;have d7':(!decide (f=0))=true:=by rw [d7];rfl
       repeat' first|((with_reducible refine qq3 ?_);refine ak.call o6 rfl rfl ?_)|((with_reducible refine qq3 ?_);refine ak.call o7 rfl rfl ?_)|((with_reducible refine qq3 ?_);refine ak.call o8 rfl rfl ?_)|((with_reducible refine qq3 ?_);refine ak.call o9 rfl rfl ?_)|refine u1 ?_|refine u2 ?_|fail
       exact ⟨[_,_,_],⟨Fz.deep rfl,Fz.deep rfl,Fz.deep rfl,trivial⟩,rfl⟩
     ·have hkn:k=c.aH.length:=by omega
      have d1:decide ((k:Int) < ((c.aH.map bq).length:Int))=false:=decide_eq_false (by omega);subst hkn;rw [hcc,lz (fun i hi=>hprev i hi),if_neg (by simp)];repeat' first|refine u1 ?_|refine u2 ?_|fail
      exact ⟨[_,_,_],⟨Fz.deep rfl,Fz.deep rfl,Fz.deep rfl,trivial⟩,rfl⟩
end Go.Proofs.YtlpmfgmldmdggaaGreat
open Go Go.RM
namespace Go.Proofs.YtlpmfgmldmdggaaGreat
set_option maxRecDepth 100000
structure Ev where
 day:Int
 kind:Int
 ME:Int
 other:Int
structure Acc where
 place:Int
 rM:Int
 d0:Int
 d1:Int
 d2:Int
structure Good (c:aS):Prop where
 aE:1≤c.aE.length∧c.aE.length≤3
 aH:1≤c.aH.length∧c.aH.length≤5
 least:0≤c.least∧c.least≤5
 kL:∀ r ∈ c.aE,(0≤r.EV∧r.EV≤1000)∧(0≤r.leave∧r.leave≤1000)∧(0≤r.EW∧r.EW≤1000)∧(0≤r.rL∧r.rL≤1000)
 ME:∀ m ∈ c.aH,(0≤m.kL∧m.kL < c.aE.length)∧(-100000≤m.rM∧m.rM≤100000)
theorem ua {n:Nat} {e:Nat→Int} (h:(cS n e).2=0):∀ i,i < n→e i=0:=by
 intro i hi;unfold cS at h
 cases hf:(List.range n).find? (fun i=>e i != 0) with
 | none =>rw [List.find?_eq_none] at hf;have:=hf i (by simpa using hi);simpa using this
 | some k =>
  rw [hf] at h;have h1:(e k != 0)=true:=by have:=List.find?_some hf;exact this
  have h2:e k=0:=h;rw [h2] at h1;cases h1
theorem Ki {c:aS} (h:(oY c).2.2=0):Good c:=by
 unfold oY at h;split at h
 ·cases h
 ·rename_i h1;split at h
  ·cases h
  ·rename_i h2;simp only [Bool.or_eq_true,not_or,Bool.not_eq_true] at h1 h2;have a1:=jk h1.1;have a2:=jk h1.2;have a3:=jk h2;split at h
   ·rename_i h3;exact absurd h h3
   ·rename_i h3;split at h
    ·rename_i h4;exact absurd h h4
    ·rename_i h4;have z1:=ua (Decidable.not_not.1 h3);have z2:=ua (Decidable.not_not.1 h4);refine ⟨by omega,by omega,a3,fun r hr=>?_,fun m hm=>?_⟩
     ·obtain ⟨i,hi,rfl⟩:=List.getElem_of_mem hr;have:=z1 i hi;unfold Gh dj at this;rw [List.getElem?_eq_getElem hi] at this;simp only at this;split at this
      ·cases this
      ·split at this
       ·cases this
       ·unfold dO at this;split at this
        ·cases this
        ·rename_i hh;rw [cT,JM] at hh;simp only [Bool.or_eq_true,not_or,Bool.not_eq_true,Bool.not_eq_false'] at hh;exact ⟨gh.1 hh.1,gh.1 hh.2.1,gh.1 hh.2.2.1,gh.1 hh.2.2.2⟩
     ·obtain ⟨i,hi,rfl⟩:=List.getElem_of_mem hm;have:=z2 i hi;unfold Dv dj at this;rw [List.getElem?_eq_getElem hi] at this;simp only at this;split at this
      ·cases this
      ·split at this
       ·cases this
       ·unfold fo at this;split at this
        ·cases this
        ·rename_i hh;split at this
         ·cases this
         ·rename_i hh2;have q1:=jk (Bool.not_eq_true _ ▸ hh);have q2:=jk (Bool.not_eq_true _ ▸ hh2);omega
def Gl (c:aS) (i:Nat):Option fk:=(c.aH[i]?).bind fun m=>c.aE[m.kL.toNat]?
def CL (c:aS) (i:Nat):Int:=((Gl c i).map fk.rL).getD 0
structure dZ (day:Int) (a:Acc):Prop where
 place:a.place=0∨a.place=1∨a.place=2
 rM:-(100000+1000 * day)≤a.rM∧a.rM≤100000+1000 * day
 d0:0≤a.d0∧a.d0≤day
 d1:0≤a.d1∧a.d1≤day
 d2:0≤a.d2∧a.d2≤day
structure Inv (c:aS) (day:Int) (ls:List Acc):Prop where
 len:ls.length=c.aH.length
 ok:∀ a ∈ ls,dZ day a
 day:0≤day∧day≤40000
theorem Gn {dd e:Int} (h0:0≤dd) (he:0≤e∧e≤1000):0≤dd * e∧dd * e≤1000 * dd:=by
 constructor
 ·exact Int.mul_nonneg h0 he.1
 ·calc dd * e≤dd * 1000:=Int.mul_le_mul_of_nonneg_left he.2 h0
  _=1000 * dd:=Int.mul_comm _ _
end Go.Proofs.YtlpmfgmldmdggaaGreat
open Go Go.RM
namespace Go.Proofs.YtlpmfgmldmdggaaGreat
set_option maxRecDepth 100000
set_option maxHeartbeats 4000000
end Go.Proofs.YtlpmfgmldmdggaaGreat
open Go Go.RM
namespace Go.Proofs.YtlpmfgmldmdggaaGreat
set_option maxRecDepth 100000
set_option maxHeartbeats 4000000
end Go.Proofs.YtlpmfgmldmdggaaGreat
open Go Go.RM
namespace Go.Proofs.YtlpmfgmldmdggaaGreat
set_option maxRecDepth 100000
set_option maxHeartbeats 4000000
end Go.Proofs.YtlpmfgmldmdggaaGreat
open Go Go.RM
namespace Go.Proofs.YtlpmfgmldmdggaaGreat
set_option maxRecDepth 100000
set_option maxHeartbeats 4000000
end Go.Proofs.YtlpmfgmldmdggaaGreat
open Go Go.RM
namespace Go.Proofs.YtlpmfgmldmdggaaGreat
set_option maxRecDepth 100000
set_option maxHeartbeats 4000000
end Go.Proofs.YtlpmfgmldmdggaaGreat
open Go Go.RM
namespace Go.Proofs.YtlpmfgmldmdggaaGreat
set_option maxRecDepth 100000
end Go.Proofs.YtlpmfgmldmdggaaGreat
open Go Go.RM
namespace Go.Proofs.YtlpmfgmldmdggaaGreat
set_option maxRecDepth 100000
set_option maxHeartbeats 4000000
abbrev I0:AB:=.cells [af 0] 0 0
end Go.Proofs.YtlpmfgmldmdggaaGreat
open Go Go.RM
namespace Go.Proofs.YtlpmfgmldmdggaaGreat
set_option maxRecDepth 100000
set_option maxHeartbeats 4000000
end Go.Proofs.YtlpmfgmldmdggaaGreat
open Go Go.RM
namespace Go.Proofs.YtlpmfgmldmdggaaGreat
set_option maxRecDepth 100000
abbrev later:Int:=9223372036854775807
structure AN (x:Ev):Prop where
 day:x.day≤later
end Go.Proofs.YtlpmfgmldmdggaaGreat
open Go Go.RM
namespace Go.Proofs.YtlpmfgmldmdggaaGreat
set_option maxRecDepth 100000
set_option maxHeartbeats 4000000
end Go.Proofs.YtlpmfgmldmdggaaGreat
open Go Go.RM
namespace Go.Proofs.YtlpmfgmldmdggaaGreat
set_option maxRecDepth 100000
set_option maxHeartbeats 4000000
end Go.Proofs.YtlpmfgmldmdggaaGreat
open Go Go.RM
namespace Go.Proofs.YtlpmfgmldmdggaaGreat
set_option maxRecDepth 100000
set_option maxHeartbeats 4000000
end Go.Proofs.YtlpmfgmldmdggaaGreat
open Go Go.RM
namespace Go.Proofs.YtlpmfgmldmdggaaGreat
set_option maxRecDepth 100000
def Gp (c:aS) (i:Nat):Int:=((c.aH[i]?).map nh.rM).getD 0
end Go.Proofs.YtlpmfgmldmdggaaGreat
open Go Go.RM
namespace Go.Proofs.YtlpmfgmldmdggaaGreat
set_option maxRecDepth 100000
set_option maxHeartbeats 4000000
end Go.Proofs.YtlpmfgmldmdggaaGreat
open Go Go.RM
namespace Go.Proofs.YtlpmfgmldmdggaaGreat
set_option maxRecDepth 100000
set_option maxHeartbeats 4000000
def Gq:Code→Code
 | .seq _ b=>b
 | x=>x
end Go.Proofs.YtlpmfgmldmdggaaGreat
open Go Go.RM
namespace Go.Proofs.YtlpmfgmldmdggaaGreat
set_option maxRecDepth 100000
set_option maxHeartbeats 4000000
end Go.Proofs.YtlpmfgmldmdggaaGreat
open Go Go.RM
namespace Go.Proofs.YtlpmfgmldmdggaaGreat
set_option maxRecDepth 100000
end Go.Proofs.YtlpmfgmldmdggaaGreat
open Go Go.RM
namespace Go.Proofs.YtlpmfgmldmdggaaGreat
set_option maxRecDepth 100000
end Go.Proofs.YtlpmfgmldmdggaaGreat
open Go Go.RM
namespace Go.Proofs.YtlpmfgmldmdggaaGreat
set_option maxRecDepth 100000
set_option maxHeartbeats 4000000
end Go.Proofs.YtlpmfgmldmdggaaGreat
open Go Go.RM
namespace Go.Proofs.YtlpmfgmldmdggaaGreat
set_option maxRecDepth 100000
end Go.Proofs.YtlpmfgmldmdggaaGreat
open Go Go.RM
namespace Go.Proofs.YtlpmfgmldmdggaaGreat
set_option maxRecDepth 100000
set_option maxHeartbeats 4000000
theorem MF (one:Bool):Pu one 26 [] (BB true):=ak.closed (fun _=>rfl) rfl
