/-
  Contracts of the program's functions and of the document's. Lemmas alone; their conditions stand in them.
-/
import Derived.Test.YtgdbfbalchdmcaaGreatK2
open Go Go.RM
namespace Go.Proofs.YtgdbfbalchdmcaaGreat
set_option maxRecDepth 100000
set_option maxHeartbeats 4000000
theorem vN {α:Type} {nm:α→ByteArray} {err:α→Int} {l:List α} {k:Nat} (h:k < l.length):dU nm err l k=if gZ (nm l[k]) ((l.take k).map nm) ≠ 0 then gZ (nm l[k]) ((l.take k).map nm) else err l[k]:=by
 unfold dU gZ
 rw [List.getElem?_eq_getElem h,List.any_map]
 simp only
 have e1:(List.any (l.take k) ((fun x=>tR x (nm l[k])) ∘ nm))=(l.take k).any fun y=>tR (nm y) (nm l[k]):=rfl
 rw [e1]
 cases jq (nm l[k]) with
 | false=>simp
 | true=>cases ((l.take k).any fun y=>tR (nm y) (nm l[k])) <;> simp
theorem L5 (lo hi a b c:Int):bH lo hi [a,b,c]=(!gY a lo hi || (!gY b lo hi || !gY c lo hi)):=by
 have h1:=bp a lo hi
 have h2:=bp b lo hi
 have h3:=bp c lo hi
 rw [←h1,←h2,←h3]
 unfold bH
 simp
def gN (l:List ByteArray):List AV:=l.map fun x=>ST x
theorem F8 {l:List ByteArray} {k:Nat} (h:k < l.length):gN (l.take (k+1))=gN (l.take k)++[ST l[k]]:=by
 unfold gN
 rw [List.take_add_one,List.getElem?_eq_getElem h,List.map_append]
 rfl
theorem F9 (l:List ByteArray):(l.map eS).flatten=gN l:=by
 induction l with
 | nil=>rfl
 | cons a l ih =>
  simp only [List.map_cons,List.flatten_cons,ih]
  rfl
theorem I9 (l:List ByteArray):bU (gN l)=true:=by
 induction l with
 | nil=>rfl
 | cons a l ih=>exact ih
theorem KT (n:Nat) (l:List ByteArray):lP n (gN l)=true:=by
 induction l with
 | nil=>rfl
 | cons a l ih=>exact ih
theorem BQ (l:List ByteArray):(gN l).length=l.length:=by unfold gN;simp
theorem Ja {B:List AB} (l:List ByteArray) {n v c:Nat} (h:l.length=n):Fz (.cells (gN l) 1 v :: B) (.dM 0 v 0 n c) (.sl (l.map eS) false) :=
 Fz.row (es:=1) rfl (by rw [BQ];omega) (by simp;omega) (fun el hel=>by obtain ⟨x,_,rfl⟩:=List.mem_map.1 hel;rfl) (by rw [F9,List.drop_zero,List.take_of_length_le (by rw [BQ];omega)]) (by rw [F9];exact I9 _) (fun h=>Bool.noConfusion h)
theorem BS (l:List ByteArray) (v:Nat):([.cells (gN l) 1 v]:List AB).all (AB.gM 1)=true:=by
 have h:AB.gM 1 (.cells (gN l) 1 v)=true:=KT 1 l
 simp only [List.all_cons,List.all_nil,h,Bool.and_true]
theorem yz (one:Bool) (c:aH) (h:c.Ok):Pu one 14 [.ag (bh c)] (.tp [ak (iD c).1,ak (iD c).2.1,ak (iD c).2.2]):=by
 have eg:((c.aI.map cm).length:Int)=c.aI.length:=by simp
 have em:((c.ah.map cL).length:Int)=c.ah.length:=by simp
 have o1:=gC one ((c.aI.map cm).length:Int) 1 3
 have o2:=gC one ((c.ah.map cL).length:Int) 1 5
 have o3:=gC one c.least 0 5
 rw [eg] at o1
 rw [em] at o2
 cases e1:gY (c.aI.length:Int) 1 3 with
 | false =>
  rw [e1,←eg] at o1
  have hc:iD c=(1,0,3):=by unfold iD;rw [bp,e1,if_pos (by rfl)]
  rw [hc]
  refine af.body (fn:=Tryz.f14) rfl rfl rfl rfl ?_;refine aa (mu:=fun t=>Nat.beq t 48 || Nat.beq t 99) ?_
  repeat' (first |refine u1 ?_ |((with_reducible show au _ _ _ _ _ _ _ _);refine af.call o1 rfl rfl ?_) |((with_reducible show au _ _ _ _ _ _ _ _);refine af.call o2 rfl rfl ?_) |((with_reducible show au _ _ _ _ _ _ _ _);refine af.call o3 rfl rfl ?_) |refine u2 ?_ |fail)
  exact ⟨[_,_,_],⟨Fz.deep rfl,Fz.deep rfl,Fz.deep rfl,trivial⟩,rfl⟩
 | true =>
  rw [e1,←eg] at o1
  cases e2:gY (c.ah.length:Int) 1 5 with
  | false =>
   rw [e2,←em] at o2
   have hc:iD c=(1,0,3):=by unfold iD;rw [bp,bp,e1,e2,if_pos (by rfl)]
   rw [hc]
   refine af.body (fn:=Tryz.f14) rfl rfl rfl rfl ?_;refine aa (mu:=fun t=>Nat.beq t 48 || Nat.beq t 99) ?_
   repeat' (first |refine u1 ?_ |((with_reducible show au _ _ _ _ _ _ _ _);refine af.call o1 rfl rfl ?_) |((with_reducible show au _ _ _ _ _ _ _ _);refine af.call o2 rfl rfl ?_) |((with_reducible show au _ _ _ _ _ _ _ _);refine af.call o3 rfl rfl ?_) |refine u2 ?_ |fail)
   exact ⟨[_,_,_],⟨Fz.deep rfl,Fz.deep rfl,Fz.deep rfl,trivial⟩,rfl⟩
  | true =>
   rw [e2,←em] at o2
   cases e3:gY c.least 0 5 with
   | false =>
    rw [e3] at o3
    have hc:iD c=(1,0,7):=by unfold iD;rw [bp,bp,bp,e1,e2,e3,if_neg (by simp),if_pos (by rfl)]
    rw [hc]
    refine af.body (fn:=Tryz.f14) rfl rfl rfl rfl ?_;refine aa (mu:=fun t=>Nat.beq t 48 || Nat.beq t 99) ?_
    repeat' (first |refine u1 ?_ |((with_reducible show au _ _ _ _ _ _ _ _);refine af.call o1 rfl rfl ?_) |((with_reducible show au _ _ _ _ _ _ _ _);refine af.call o2 rfl rfl ?_) |((with_reducible show au _ _ _ _ _ _ _ _);refine af.call o3 rfl rfl ?_) |refine u2 ?_ |fail)
    exact ⟨[_,_,_],⟨Fz.deep rfl,Fz.deep rfl,Fz.deep rfl,trivial⟩,rfl⟩
   | true =>
    rw [e3] at o3
    have hcc:iD c=if (bq c.aI.length (I8 c)).2 ≠ 0 then (2,(bq c.aI.length (I8 c)).1,(bq c.aI.length (I8 c)).2) else if (bq c.ah.length (F7 c)).2 ≠ 0 then (3,(bq c.ah.length (F7 c)).1,(bq c.ah.length (F7 c)).2) else (0,0,0):=by
     unfold iD;rw [bp,bp,bp,e1,e2,e3,if_neg (by simp),if_neg (by simp)]
    have b1:=bQ.1 e1
    have b2:=bQ.1 e2
    have z00:decide ((0:Int)=0)=true:=by decide
    have z70:decide ((7:Int)=0)=false:=by decide
    have z40:decide ((4:Int)=0)=false:=by decide
    have n00:(!decide ((0:Int)=0))=false:=by decide
    have n70:(!decide ((7:Int)=0))=true:=by decide
    have n40:(!decide ((4:Int)=0))=true:=by decide
    refine af.body (fn:=Tryz.f14) rfl rfl rfl rfl ?_;refine aa (mu:=fun t=>Nat.beq t 48 || Nat.beq t 99) ?_
    repeat' (first |refine u1 ?_ |((with_reducible show au _ _ _ _ _ _ _ _);refine af.call o1 rfl rfl ?_) |((with_reducible show au _ _ _ _ _ _ _ _);refine af.call o2 rfl rfl ?_) |((with_reducible show au _ _ _ _ _ _ _ _);refine af.call o3 rfl rfl ?_) |refine u2 ?_ |fail)
    refine aG.aU (aj.trans (aj.to (l:=[(1,.pt (bh c) 0),(5,.fl (.slice none 0 0)),(6,ak ((0:Nat):Int))]) (hp:=[]) 0 rfl ⟨rfl,rfl,rfl,trivial⟩ (Nat.zero_le _) rfl rfl) (aj.trans (aj.uS 1) (aj.OP (l:=[(1,.pt (bh c) 0),(5,.dM 0 (0,0,0).2.1 0 (0,0,0).1 (0,0,0).2.2),(6,ak ((0,0,0).1:Nat))]) (hp:=[.cells (gN ((c.aI.map gL.name).take (0,0,0).1)) 1 (0,0,0).2.1]) 1 rfl ⟨iZ.refl _,iZ.uR,iZ.refl _,trivial⟩ (Nat.zero_le _) rfl (BS _ _)))) ?_
    refine aG.loop (fun x:Nat × Nat × Nat=>x.1≤c.aI.length∧(∀ i,i < x.1→I8 c i=0)∧(x.2.2=x.1∨x.2.2=x.1+1)) (fun x=>⟨bT [(1,.pt (bh c) 0),(5,.dM 0 x.2.1 0 x.1 x.2.2),(6,ak (x.1:Nat))],[.cells (gN ((c.aI.map gL.name).take x.1)) 1 x.2.1],bW.none,false,0⟩) (fun x=>c.aI.length - x.1) ?_ (0,0,0) ⟨Nat.zero_le _,(fun i hi=>absurd hi (Nat.not_lt_zero _)),.inl rfl⟩
    rintro ⟨k,aB,cc⟩ ⟨hk,hprev,hcap⟩
    dsimp only at hk hprev hcap
    show aG _ _ _ _ ⟨bT [(1,.pt (bh c) 0),(5,.dM 0 (k,aB,cc).2.1 0 (k,aB,cc).1 (k,aB,cc).2.2),(6,ak ((k,aB,cc).1:Nat))],[.cells (gN ((c.aI.map gL.name).take (k,aB,cc).1)) 1 (k,aB,cc).2.1],bW.none,false,0⟩ _
    dsimp only
    refine aa (mu:=fun t=>Nat.beq t 48 || Nat.beq t 99) ?_
    by_cases hlt:k < c.aI.length
    ·have d1:decide ((k:Int) < ((c.aI.map cm).length:Int))=true:=decide_eq_true (by omega)
     have hat:(c.aI.map cm)[((k:Nat):Int).toNat]?=some (cm c.aI[k]):=bP hlt
     have hga:I8 c k=_:=vN (nm:=gL.name) (err:=eE) hlt
     have hln:(c.aI.map gL.name).length=c.aI.length:=by simp
     have htl:((c.aI.map gL.name).take k).length=k:=by rw [List.length_take,hln];omega
     have hgl:(gN ((c.aI.map gL.name).take k)).length=k:=by rw [BQ,htl]
     have hst:gN ((c.aI.map gL.name).take (k+1))=gN ((c.aI.map gL.name).take k)++[ST c.aI[k].name]:=by
      rw [F8 (by omega),List.getElem_map]
     have hfr:=BO one ((c.aI.map gL.name).take k) false c.aI[k].name (h.I6 _ (List.getElem_mem hlt)) (by rw [htl];simp [maxLen];omega)
     rw [List.map_take] at hga
     have hre:eE c.aI[k]=if gY c.aI[k].IZ 0 1000=false∨gY c.aI[k].leave 0 1000=false∨gY c.aI[k].I2 0 1000=false∨gY c.aI[k].oS 0 1000=false then 7 else 0:=by
      unfold eE
      rw [bp,L5]
      cases gY c.aI[k].IZ 0 1000 <;> cases gY c.aI[k].leave 0 1000 <;> cases gY c.aI[k].I2 0 1000 <;> cases gY c.aI[k].oS 0 1000 <;> rfl
     have o6:=gC one c.aI[k].IZ 0 1000
     have o7:=gC one c.aI[k].leave 0 1000
     have o8:=gC one c.aI[k].I2 0 1000
     have o9:=gC one c.aI[k].oS 0 1000
     have fin:∀ v,I8 c k=v→v ≠ 0→iD c=(2,(k:Int),v):=fun v e hv=>by rw [hcc,fj hlt hprev (by rw [e];exact hv),e,if_pos hv]
     generalize c.aI[k]=g at *
     generalize gZ g.name ((c.aI.map gL.name).take k)=f at *
     rw [hre] at hga
     repeat' (first |((with_reducible show RM.wpOp _ _ (.call _) _ _ _);refine RM.G9 (cs:=gN ((c.aI.map gL.name).take k)) (n:=k) (els:=[eS g.name]) rfl rfl rfl rfl rfl (fun el hel=>by rw [List.mem_singleton.1 hel];rfl) rfl rfl (by rw [hgl];exact (Nat.mul_one _).symm) hcap (by simp only [List.length_singleton];omega) (fun v' c' hc'=>?_)) |refine u1 ?_ |((with_reducible show RM.wpOp _ _ (.indexAddr _ _ _) _ _ _);refine ⟨cm g,⟨by omega,hat⟩,rfl,?_⟩) |((with_reducible show au _ _ _ _ _ _ _ _);refine af.KF hfr rfl (Dl.two (Fz.deep rfl) (Ja _ htl)) (js.fl _) ?_) |refine u2 ?_ |fail)
     by_cases g1:f=0
     ·rw [if_neg (by omega)] at hga
      have d7:decide (f=0)=true:=decide_eq_true g1
      have d7':(!decide (f=0))=false:=by rw [d7];rfl
      have bad:(gY g.IZ 0 1000=false∨gY g.leave 0 1000=false∨gY g.I2 0 1000=false∨gY g.oS 0 1000=false)→iD c=(2,(k:Int),7):=fun hb2=>by
       rw [if_pos hb2] at hga
       exact fin 7 hga (by decide)
      cases g2:gY g.IZ 0 1000 with
      | false =>
       rw [g2] at o6
       rw [bad (.inl g2)]
       repeat' (first |((with_reducible show au _ _ _ _ _ _ _ _);refine af.call o6 rfl rfl ?_) |((with_reducible show au _ _ _ _ _ _ _ _);refine af.call o7 rfl rfl ?_) |((with_reducible show au _ _ _ _ _ _ _ _);refine af.call o8 rfl rfl ?_) |((with_reducible show au _ _ _ _ _ _ _ _);refine af.call o9 rfl rfl ?_) |refine u1 ?_ |refine u2 ?_ |fail)
       exact ⟨[_,_,_],⟨Fz.deep rfl,Fz.deep rfl,Fz.deep rfl,trivial⟩,rfl⟩
      | true =>
       rw [g2] at o6
       cases g3:gY g.leave 0 1000 with
       | false =>
        rw [g3] at o7
        rw [bad (.inr (.inl g3))]
        repeat' (first |((with_reducible show au _ _ _ _ _ _ _ _);refine af.call o6 rfl rfl ?_) |((with_reducible show au _ _ _ _ _ _ _ _);refine af.call o7 rfl rfl ?_) |((with_reducible show au _ _ _ _ _ _ _ _);refine af.call o8 rfl rfl ?_) |((with_reducible show au _ _ _ _ _ _ _ _);refine af.call o9 rfl rfl ?_) |refine u1 ?_ |refine u2 ?_ |fail)
        exact ⟨[_,_,_],⟨Fz.deep rfl,Fz.deep rfl,Fz.deep rfl,trivial⟩,rfl⟩
       | true =>
        rw [g3] at o7
        cases g4:gY g.I2 0 1000 with
        | false =>
         rw [g4] at o8
         rw [bad (.inr (.inr (.inl g4)))]
         repeat' (first |((with_reducible show au _ _ _ _ _ _ _ _);refine af.call o6 rfl rfl ?_) |((with_reducible show au _ _ _ _ _ _ _ _);refine af.call o7 rfl rfl ?_) |((with_reducible show au _ _ _ _ _ _ _ _);refine af.call o8 rfl rfl ?_) |((with_reducible show au _ _ _ _ _ _ _ _);refine af.call o9 rfl rfl ?_) |refine u1 ?_ |refine u2 ?_ |fail)
         exact ⟨[_,_,_],⟨Fz.deep rfl,Fz.deep rfl,Fz.deep rfl,trivial⟩,rfl⟩
        | true =>
         rw [g4] at o8
         cases g5:gY g.oS 0 1000 with
         | false =>
          rw [g5] at o9
          rw [bad (.inr (.inr (.inr g5)))]
          repeat' (first |((with_reducible show au _ _ _ _ _ _ _ _);refine af.call o6 rfl rfl ?_) |((with_reducible show au _ _ _ _ _ _ _ _);refine af.call o7 rfl rfl ?_) |((with_reducible show au _ _ _ _ _ _ _ _);refine af.call o8 rfl rfl ?_) |((with_reducible show au _ _ _ _ _ _ _ _);refine af.call o9 rfl rfl ?_) |refine u1 ?_ |refine u2 ?_ |fail)
          exact ⟨[_,_,_],⟨Fz.deep rfl,Fz.deep rfl,Fz.deep rfl,trivial⟩,rfl⟩
         | true =>
          rw [g5] at o9
          rw [if_neg (by rw [g2,g3,g4,g5];simp)] at hga
          repeat' (first |((with_reducible show au _ _ _ _ _ _ _ _);refine af.call o6 rfl rfl ?_) |((with_reducible show au _ _ _ _ _ _ _ _);refine af.call o7 rfl rfl ?_) |((with_reducible show au _ _ _ _ _ _ _ _);refine af.call o8 rfl rfl ?_) |((with_reducible show au _ _ _ _ _ _ _ _);refine af.call o9 rfl rfl ?_) |refine u1 ?_ |refine u2 ?_ |fail)
          refine ⟨(k+1,v',c'),⟨hlt,(fun i hi=>?_),hc'⟩,(by dsimp only;omega),?_⟩
          ·by_cases hik:i=k
           ·subst hik;exact hga
           ·exact hprev i (by dsimp only at hi;omega)
          ·exact aj.to 1 (by dsimp only;rw [hst];rfl) ⟨rfl,rfl,aJ (by simp),trivial⟩ (Nat.zero_le _) rfl (BS _ _)
     ·rw [if_pos g1] at hga
      rw [fin f hga g1]
      have d7:decide (f=0)=false:=decide_eq_false g1
      have d7':(!decide (f=0))=true:=by rw [d7];rfl
      repeat' (first |((with_reducible show au _ _ _ _ _ _ _ _);refine af.call o6 rfl rfl ?_) |((with_reducible show au _ _ _ _ _ _ _ _);refine af.call o7 rfl rfl ?_) |((with_reducible show au _ _ _ _ _ _ _ _);refine af.call o8 rfl rfl ?_) |((with_reducible show au _ _ _ _ _ _ _ _);refine af.call o9 rfl rfl ?_) |refine u1 ?_ |refine u2 ?_ |fail)
      exact ⟨[_,_,_],⟨Fz.deep rfl,Fz.deep rfl,Fz.deep rfl,trivial⟩,rfl⟩
    ·have hkn:k=c.aI.length:=by omega
     have d1:decide ((k:Int) < ((c.aI.map cm).length:Int))=false:=decide_eq_false (by omega)
     subst hkn
     have hcc:iD c=if (bq c.ah.length (F7 c)).2 ≠ 0 then (3,(bq c.ah.length (F7 c)).1,(bq c.ah.length (F7 c)).2) else (0,0,0):=by
      rw [hcc,dS (fun i hi=>hprev i hi),if_neg (by simp)]
     clear hprev
     repeat' (first |refine u1 ?_ |refine u2 ?_ |fail)
     refine aG.aU (aj.trans (aj.to (l:=[(1,.pt (bh c) 0),(5,.fl (.slice none 0 0)),(9,ak ((0:Nat):Int))]) (hp:=[]) 0 rfl ⟨rfl,rfl,rfl,trivial⟩ (Nat.zero_le _) rfl rfl) (aj.trans (aj.uS 1) (aj.OP (l:=[(1,.pt (bh c) 0),(5,.dM 0 (0,0,0).2.1 0 (0,0,0).1 (0,0,0).2.2),(9,ak ((0,0,0).1:Nat))]) (hp:=[.cells (gN ((c.ah.map pO.name).take (0,0,0).1)) 1 (0,0,0).2.1]) 1 rfl ⟨iZ.refl _,iZ.uR,iZ.refl _,trivial⟩ (Nat.zero_le _) rfl (BS _ _)))) ?_
     refine aG.loop (fun x:Nat × Nat × Nat=>x.1≤c.ah.length∧(∀ i,i < x.1→F7 c i=0)∧(x.2.2=x.1∨x.2.2=x.1+1)) (fun x=>⟨bT [(1,.pt (bh c) 0),(5,.dM 0 x.2.1 0 x.1 x.2.2),(9,ak (x.1:Nat))],[.cells (gN ((c.ah.map pO.name).take x.1)) 1 x.2.1],bW.none,false,0⟩) (fun x=>c.ah.length - x.1) ?_ (0,0,0) ⟨Nat.zero_le _,(fun i hi=>absurd hi (Nat.not_lt_zero _)),.inl rfl⟩
     rintro ⟨k,aB,cc⟩ ⟨hk,hprev,hcap⟩
     dsimp only at hk hprev hcap
     show aG _ _ _ _ ⟨bT [(1,.pt (bh c) 0),(5,.dM 0 (k,aB,cc).2.1 0 (k,aB,cc).1 (k,aB,cc).2.2),(9,ak ((k,aB,cc).1:Nat))],[.cells (gN ((c.ah.map pO.name).take (k,aB,cc).1)) 1 (k,aB,cc).2.1],bW.none,false,0⟩ _
     dsimp only
     refine aa (mu:=fun t=>Nat.beq t 48 || Nat.beq t 99) ?_
     by_cases hlt:k < c.ah.length
     ·have d1:decide ((k:Int) < ((c.ah.map cL).length:Int))=true:=decide_eq_true (by omega)
      have hat:(c.ah.map cL)[((k:Nat):Int).toNat]?=some (cL c.ah[k]):=bP hlt
      have hga:F7 c k=_:=vN (nm:=pO.name) (err:=(gE c.aI.length)) hlt
      have hln:(c.ah.map pO.name).length=c.ah.length:=by simp
      have htl:((c.ah.map pO.name).take k).length=k:=by rw [List.length_take,hln];omega
      have hgl:(gN ((c.ah.map pO.name).take k)).length=k:=by rw [BQ,htl]
      have hst:gN ((c.ah.map pO.name).take (k+1))=gN ((c.ah.map pO.name).take k)++[ST c.ah[k].name]:=by
       rw [F8 (by omega),List.getElem_map]
      have hfr:=BO one ((c.ah.map pO.name).take k) false c.ah[k].name (h.I7 _ (List.getElem_mem hlt)) (by rw [htl];simp [maxLen];omega)
      rw [List.map_take] at hga
      have o6:=gC one c.ah[k].ny 0 (((c.aI.map cm).length:Int) - 1)
      rw [eg] at o6
      have o7:=gC one c.ah[k].i4 (-100000) 100000
      have fin:∀ v,F7 c k=v→v ≠ 0→iD c=(3,(k:Int),v):=fun v e hv=>by rw [hcc,fj hlt hprev (by rw [e];exact hv),e,if_pos hv]
      generalize c.ah[k]=g at *
      generalize gZ g.name ((c.ah.map pO.name).take k)=f at *
      unfold gE at hga
      rw [bp,bp] at hga
      repeat' (first |((with_reducible show RM.wpOp _ _ (.call _) _ _ _);refine RM.G9 (cs:=gN ((c.ah.map pO.name).take k)) (n:=k) (els:=[eS g.name]) rfl rfl rfl rfl rfl (fun el hel=>by rw [List.mem_singleton.1 hel];rfl) rfl rfl (by rw [hgl];exact (Nat.mul_one _).symm) hcap (by simp only [List.length_singleton];omega) (fun v' c' hc'=>?_)) |refine u1 ?_ |((with_reducible show RM.wpOp _ _ (.indexAddr _ _ _) _ _ _);refine ⟨cL g,⟨by omega,hat⟩,rfl,?_⟩) |((with_reducible show au _ _ _ _ _ _ _ _);refine af.KF hfr rfl (Dl.two (Fz.deep rfl) (Ja _ htl)) (js.fl _) ?_) |refine u2 ?_ |fail)
      by_cases g1:f=0
      ·rw [if_neg (by omega)] at hga
       have d7:decide (f=0)=true:=decide_eq_true g1
       have d7':(!decide (f=0))=false:=by rw [d7];rfl
       cases g2:gY g.ny 0 ((c.aI.length:Int) - 1) with
       | false =>
        rw [g2,←eg] at o6
        rw [fin 4 (by rw [hga,g2,if_pos (by rfl)]) (by decide)]
        repeat' (first |((with_reducible show au _ _ _ _ _ _ _ _);refine af.call o6 rfl rfl ?_) |((with_reducible show au _ _ _ _ _ _ _ _);refine af.call o7 rfl rfl ?_) |((with_reducible show au _ _ _ _ _ _ _ _);refine af.call o8 rfl rfl ?_) |((with_reducible show au _ _ _ _ _ _ _ _);refine af.call o9 rfl rfl ?_) |refine u1 ?_ |refine u2 ?_ |fail)
        exact ⟨[_,_,_],⟨Fz.deep rfl,Fz.deep rfl,Fz.deep rfl,trivial⟩,rfl⟩
       | true =>
        rw [g2,←eg] at o6
        cases g3:gY g.i4 (-100000) 100000 with
        | false =>
         rw [g3] at o7
         rw [fin 7 (by rw [hga,g2,g3,if_neg (by simp),if_pos (by rfl)]) (by decide)]
         repeat' (first |((with_reducible show au _ _ _ _ _ _ _ _);refine af.call o6 rfl rfl ?_) |((with_reducible show au _ _ _ _ _ _ _ _);refine af.call o7 rfl rfl ?_) |((with_reducible show au _ _ _ _ _ _ _ _);refine af.call o8 rfl rfl ?_) |((with_reducible show au _ _ _ _ _ _ _ _);refine af.call o9 rfl rfl ?_) |refine u1 ?_ |refine u2 ?_ |fail)
         exact ⟨[_,_,_],⟨Fz.deep rfl,Fz.deep rfl,Fz.deep rfl,trivial⟩,rfl⟩
        | true =>
         rw [g3] at o7
         rw [g2,g3,if_neg (by simp),if_neg (by simp)] at hga
         repeat' (first |((with_reducible show au _ _ _ _ _ _ _ _);refine af.call o6 rfl rfl ?_) |((with_reducible show au _ _ _ _ _ _ _ _);refine af.call o7 rfl rfl ?_) |((with_reducible show au _ _ _ _ _ _ _ _);refine af.call o8 rfl rfl ?_) |((with_reducible show au _ _ _ _ _ _ _ _);refine af.call o9 rfl rfl ?_) |refine u1 ?_ |refine u2 ?_ |fail)
         refine ⟨(k+1,v',c'),⟨hlt,(fun i hi=>?_),hc'⟩,(by dsimp only;omega),?_⟩
         ·by_cases hik:i=k
          ·subst hik;exact hga
          ·exact hprev i (by dsimp only at hi;omega)
         ·exact aj.to 1 (by dsimp only;rw [hst];rfl) ⟨rfl,rfl,aJ (by simp),trivial⟩ (Nat.zero_le _) rfl (BS _ _)
      ·rw [if_pos g1] at hga
       rw [fin f hga g1]
       have d7:decide (f=0)=false:=decide_eq_false g1
       have d7':(!decide (f=0))=true:=by rw [d7];rfl
       repeat' (first |((with_reducible show au _ _ _ _ _ _ _ _);refine af.call o6 rfl rfl ?_) |((with_reducible show au _ _ _ _ _ _ _ _);refine af.call o7 rfl rfl ?_) |((with_reducible show au _ _ _ _ _ _ _ _);refine af.call o8 rfl rfl ?_) |((with_reducible show au _ _ _ _ _ _ _ _);refine af.call o9 rfl rfl ?_) |refine u1 ?_ |refine u2 ?_ |fail)
       exact ⟨[_,_,_],⟨Fz.deep rfl,Fz.deep rfl,Fz.deep rfl,trivial⟩,rfl⟩
     ·have hkn:k=c.ah.length:=by omega
      have d1:decide ((k:Int) < ((c.ah.map cL).length:Int))=false:=decide_eq_false (by omega)
      subst hkn
      rw [hcc,dS (fun i hi=>hprev i hi),if_neg (by simp)]
      repeat' (first |refine u1 ?_ |refine u2 ?_ |fail)
      exact ⟨[_,_,_],⟨Fz.deep rfl,Fz.deep rfl,Fz.deep rfl,trivial⟩,rfl⟩
end Go.Proofs.YtgdbfbalchdmcaaGreat
