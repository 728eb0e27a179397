/-
  Contracts of the program's functions and of the document's. Lemmas alone; their conditions stand in them.
-/
import Derived.Test.YtlpmfgmldmdggaaGreatK2
open Go Go.RM
namespace Go.Proofs.YtlpmfgmldmdggaaGreat
set_option maxRecDepth 100000
set_option maxHeartbeats 4000000
theorem tC {α:Type} {nm:α→ByteArray} {err:α→Int} {l:List α} {k:Nat} (h:k < l.length):cW nm err l k=if kR (nm l[k]) ((l.take k).map nm) ≠ 0 then kR (nm l[k]) ((l.take k).map nm) else err l[k]:=by
 unfold cW kR
 rw [List.getElem?_eq_getElem h,List.any_map]
 simp only
 have e1:(List.any (l.take k) ((fun x=>wB x (nm l[k])) ∘ nm))=(l.take k).any fun y=>wB (nm y) (nm l[k]):=rfl
 rw [e1]
 cases iH (nm l[k]) with
 | false=>simp
 | true=>cases ((l.take k).any fun y=>wB (nm y) (nm l[k])) <;> simp
theorem Hv (lo hi a b c:Int):dR lo hi [a,b,c]=(!kS a lo hi || (!kS b lo hi || !kS c lo hi)):=by
 have h1:=bp a lo hi
 have h2:=bp b lo hi
 have h3:=bp c lo hi
 rw [←h1,←h2,←h3]
 unfold dR
 simp
def gN (l:List ByteArray):List AV:=l.map fun x=>ST x
theorem C1 {l:List ByteArray} {k:Nat} (h:k < l.length):gN (l.take (k+1))=gN (l.take k)++[ST l[k]]:=by
 unfold gN
 rw [List.take_add_one,List.getElem?_eq_getElem h,List.map_append]
 rfl
theorem C2 (l:List ByteArray):(l.map eS).flatten=gN l:=by
 induction l with
 | nil=>rfl
 | cons a l ih =>
  simp only [List.map_cons,List.flatten_cons,ih]
  rfl
theorem Fo (l:List ByteArray):dJ (gN l)=true:=by
 induction l with
 | nil=>rfl
 | cons a l ih=>exact ih
theorem GK (n:Nat) (l:List ByteArray):tX n (gN l)=true:=by
 induction l with
 | nil=>rfl
 | cons a l ih=>exact ih
theorem zq (l:List ByteArray):(gN l).length=l.length:=by unfold gN;simp
theorem Fp {B:List AB} (l:List ByteArray) {n v c:Nat} (h:l.length=n):Fz (.cells (gN l) 1 v :: B) (.dY 0 v 0 n c) (.sl (l.map eS) false) :=
 Fz.row (es:=1) rfl (by rw [zq];omega) (by simp;omega) (fun el hel=>by obtain ⟨x,_,rfl⟩:=List.mem_map.1 hel;rfl) (by rw [C2,List.drop_zero,List.take_of_length_le (by rw [zq];omega)]) (by rw [C2];exact Fo _) (fun h=>Bool.noConfusion h)
theorem zu (l:List ByteArray) (v:Nat):([.cells (gN l) 1 v]:List AB).all (AB.iE 1)=true:=by
 have h:AB.iE 1 (.cells (gN l) 1 v)=true:=GK 1 l
 simp only [List.all_cons,List.all_nil,h,Bool.and_true]
theorem Fs (one:Bool) (c:ay) (h:c.Ok):Pu one 17 [.ag (aX c)] (.tp [aj (oA c).1,aj (oA c).2.1,aj (oA c).2.2]):=by
 have eg:((c.az.map bu).length:Int)=c.az.length:=by simp
 have em:((c.aO.map bG).length:Int)=c.aO.length:=by simp
 have o1:=i6 one ((c.az.map bu).length:Int) 1 3
 have o2:=i6 one ((c.aO.map bG).length:Int) 1 5
 have o3:=i6 one c.least 0 5
 rw [eg] at o1
 rw [em] at o2
 cases e1:kS (c.az.length:Int) 1 3 with
 | false =>
  rw [e1,←eg] at o1
  have hc:oA c=(1,0,3):=by unfold oA;rw [bp,e1,if_pos (by rfl)]
  rw [hc]
  refine af.body (fn:=Tryz.f17) rfl rfl rfl rfl ?_;refine aa (mu:=fun t=>Nat.beq t 48 || Nat.beq t 99) ?_
  repeat' (first |refine u1 ?_ |((with_reducible show ah _ _ _ _ _ _ _ _);refine af.call o1 rfl rfl ?_) |((with_reducible show ah _ _ _ _ _ _ _ _);refine af.call o2 rfl rfl ?_) |((with_reducible show ah _ _ _ _ _ _ _ _);refine af.call o3 rfl rfl ?_) |refine u2 ?_ |fail)
  exact ⟨[_,_,_],⟨Fz.deep rfl,Fz.deep rfl,Fz.deep rfl,trivial⟩,rfl⟩
 | true =>
  rw [e1,←eg] at o1
  cases e2:kS (c.aO.length:Int) 1 5 with
  | false =>
   rw [e2,←em] at o2
   have hc:oA c=(1,0,3):=by unfold oA;rw [bp,bp,e1,e2,if_pos (by rfl)]
   rw [hc]
   refine af.body (fn:=Tryz.f17) rfl rfl rfl rfl ?_;refine aa (mu:=fun t=>Nat.beq t 48 || Nat.beq t 99) ?_
   repeat' (first |refine u1 ?_ |((with_reducible show ah _ _ _ _ _ _ _ _);refine af.call o1 rfl rfl ?_) |((with_reducible show ah _ _ _ _ _ _ _ _);refine af.call o2 rfl rfl ?_) |((with_reducible show ah _ _ _ _ _ _ _ _);refine af.call o3 rfl rfl ?_) |refine u2 ?_ |fail)
   exact ⟨[_,_,_],⟨Fz.deep rfl,Fz.deep rfl,Fz.deep rfl,trivial⟩,rfl⟩
  | true =>
   rw [e2,←em] at o2
   cases e3:kS c.least 0 5 with
   | false =>
    rw [e3] at o3
    have hc:oA c=(1,0,7):=by unfold oA;rw [bp,bp,bp,e1,e2,e3,if_neg (by simp),if_pos (by rfl)]
    rw [hc]
    refine af.body (fn:=Tryz.f17) rfl rfl rfl rfl ?_;refine aa (mu:=fun t=>Nat.beq t 48 || Nat.beq t 99) ?_
    repeat' (first |refine u1 ?_ |((with_reducible show ah _ _ _ _ _ _ _ _);refine af.call o1 rfl rfl ?_) |((with_reducible show ah _ _ _ _ _ _ _ _);refine af.call o2 rfl rfl ?_) |((with_reducible show ah _ _ _ _ _ _ _ _);refine af.call o3 rfl rfl ?_) |refine u2 ?_ |fail)
    exact ⟨[_,_,_],⟨Fz.deep rfl,Fz.deep rfl,Fz.deep rfl,trivial⟩,rfl⟩
   | true =>
    rw [e3] at o3
    have hcc:oA c=if (cG c.az.length (Fm c)).2 ≠ 0 then (2,(cG c.az.length (Fm c)).1,(cG c.az.length (Fm c)).2) else if (cG c.aO.length (CZ c)).2 ≠ 0 then (3,(cG c.aO.length (CZ c)).1,(cG c.aO.length (CZ c)).2) else (0,0,0):=by
     unfold oA;rw [bp,bp,bp,e1,e2,e3,if_neg (by simp),if_neg (by simp)]
    have b1:=bL.1 e1
    have b2:=bL.1 e2
    have z00:decide ((0:Int)=0)=true:=by decide
    have z70:decide ((7:Int)=0)=false:=by decide
    have z40:decide ((4:Int)=0)=false:=by decide
    have n00:(!decide ((0:Int)=0))=false:=by decide
    have n70:(!decide ((7:Int)=0))=true:=by decide
    have n40:(!decide ((4:Int)=0))=true:=by decide
    refine af.body (fn:=Tryz.f17) rfl rfl rfl rfl ?_;refine aa (mu:=fun t=>Nat.beq t 48 || Nat.beq t 99) ?_
    repeat' (first |refine u1 ?_ |((with_reducible show ah _ _ _ _ _ _ _ _);refine af.call o1 rfl rfl ?_) |((with_reducible show ah _ _ _ _ _ _ _ _);refine af.call o2 rfl rfl ?_) |((with_reducible show ah _ _ _ _ _ _ _ _);refine af.call o3 rfl rfl ?_) |refine u2 ?_ |fail)
    refine aL.cr (ai.trans (ai.to (l:=[(1,.pt (aX c) 0),(5,.fl (.slice none 0 0)),(6,aj ((0:Nat):Int))]) (hp:=[]) 0 rfl ⟨rfl,rfl,rfl,trivial⟩ (Nat.zero_le _) rfl rfl) (ai.trans (ai.Ce 1) (ai.JR (l:=[(1,.pt (aX c) 0),(5,.dY 0 (0,0,0).2.1 0 (0,0,0).1 (0,0,0).2.2),(6,aj ((0,0,0).1:Nat))]) (hp:=[.cells (gN ((c.az.map fA.name).take (0,0,0).1)) 1 (0,0,0).2.1]) 1 rfl ⟨jJ.refl _,jJ.Cd,jJ.refl _,trivial⟩ (Nat.zero_le _) rfl (zu _ _)))) ?_
    refine aL.loop (fun x:Nat × Nat × Nat=>x.1≤c.az.length∧(∀ i,i < x.1→Fm c i=0)∧(x.2.2=x.1∨x.2.2=x.1+1)) (fun x=>⟨cz [(1,.pt (aX c) 0),(5,.dY 0 x.2.1 0 x.1 x.2.2),(6,aj (x.1:Nat))],[.cells (gN ((c.az.map fA.name).take x.1)) 1 x.2.1],bF.none,false,0⟩) (fun x=>c.az.length - x.1) ?_ (0,0,0) ⟨Nat.zero_le _,(fun i hi=>absurd hi (Nat.not_lt_zero _)),.inl rfl⟩
    rintro ⟨k,av,cc⟩ ⟨hk,hprev,hcap⟩
    dsimp only at hk hprev hcap
    show aL _ _ _ _ ⟨cz [(1,.pt (aX c) 0),(5,.dY 0 (k,av,cc).2.1 0 (k,av,cc).1 (k,av,cc).2.2),(6,aj ((k,av,cc).1:Nat))],[.cells (gN ((c.az.map fA.name).take (k,av,cc).1)) 1 (k,av,cc).2.1],bF.none,false,0⟩ _
    dsimp only
    refine aa (mu:=fun t=>Nat.beq t 48 || Nat.beq t 99) ?_
    by_cases hlt:k < c.az.length
    ·have d1:decide ((k:Int) < ((c.az.map bu).length:Int))=true:=decide_eq_true (by omega)
     have hat:(c.az.map bu)[((k:Nat):Int).toNat]?=some (bu c.az[k]):=cM hlt
     have hga:Fm c k=_:=tC (nm:=fA.name) (err:=dG) hlt
     have hln:(c.az.map fA.name).length=c.az.length:=by simp
     have htl:((c.az.map fA.name).take k).length=k:=by rw [List.length_take,hln];omega
     have hgl:(gN ((c.az.map fA.name).take k)).length=k:=by rw [zq,htl]
     have hst:gN ((c.az.map fA.name).take (k+1))=gN ((c.az.map fA.name).take k)++[ST c.az[k].name]:=by
      rw [C1 (by omega),List.getElem_map]
     have hfr:=CW one ((c.az.map fA.name).take k) false c.az[k].name (h.Fk _ (List.getElem_mem hlt)) (by rw [htl];simp [maxLen];omega)
     rw [List.map_take] at hga
     have hre:dG c.az[k]=if kS c.az[k].Fc 0 1000=false∨kS c.az[k].leave 0 1000=false∨kS c.az[k].Fe 0 1000=false∨kS c.az[k].m9 0 1000=false then 7 else 0:=by
      unfold dG
      rw [bp,Hv]
      cases kS c.az[k].Fc 0 1000 <;> cases kS c.az[k].leave 0 1000 <;> cases kS c.az[k].Fe 0 1000 <;> cases kS c.az[k].m9 0 1000 <;> rfl
     have o6:=i6 one c.az[k].Fc 0 1000
     have o7:=i6 one c.az[k].leave 0 1000
     have o8:=i6 one c.az[k].Fe 0 1000
     have o9:=i6 one c.az[k].m9 0 1000
     have fin:∀ v,Fm c k=v→v ≠ 0→oA c=(2,(k:Int),v):=fun v e hv=>by rw [hcc,lE hlt hprev (by rw [e];exact hv),e,if_pos hv]
     generalize c.az[k]=g at *
     generalize kR g.name ((c.az.map fA.name).take k)=f at *
     rw [hre] at hga
     repeat' (first |((with_reducible show RM.wpOp _ _ (.call _) _ _ _);refine RM.Gx (cs:=gN ((c.az.map fA.name).take k)) (n:=k) (els:=[eS g.name]) rfl rfl rfl rfl rfl (fun el hel=>by rw [List.mem_singleton.1 hel];rfl) rfl rfl (by rw [hgl];exact (Nat.mul_one _).symm) hcap (by simp only [List.length_singleton];omega) (fun v' c' hc'=>?_)) |refine u1 ?_ |((with_reducible show RM.wpOp _ _ (.indexAddr _ _ _) _ _ _);refine ⟨bu g,⟨by omega,hat⟩,rfl,?_⟩) |((with_reducible show ah _ _ _ _ _ _ _ _);refine af.Ja hfr rfl (ze.two (Fz.deep rfl) (Fp _ htl)) (iF.fl _) ?_) |refine u2 ?_ |fail)
     by_cases g1:f=0
     ·rw [if_neg (by omega)] at hga
      have d7:decide (f=0)=true:=decide_eq_true g1
      have d7':(!decide (f=0))=false:=by rw [d7];rfl
      have bad:(kS g.Fc 0 1000=false∨kS g.leave 0 1000=false∨kS g.Fe 0 1000=false∨kS g.m9 0 1000=false)→oA c=(2,(k:Int),7):=fun hb2=>by
       rw [if_pos hb2] at hga
       exact fin 7 hga (by decide)
      cases g2:kS g.Fc 0 1000 with
      | false =>
       rw [g2] at o6
       rw [bad (.inl g2)]
       repeat' (first |((with_reducible show ah _ _ _ _ _ _ _ _);refine af.call o6 rfl rfl ?_) |((with_reducible show ah _ _ _ _ _ _ _ _);refine af.call o7 rfl rfl ?_) |((with_reducible show ah _ _ _ _ _ _ _ _);refine af.call o8 rfl rfl ?_) |((with_reducible show ah _ _ _ _ _ _ _ _);refine af.call o9 rfl rfl ?_) |refine u1 ?_ |refine u2 ?_ |fail)
       exact ⟨[_,_,_],⟨Fz.deep rfl,Fz.deep rfl,Fz.deep rfl,trivial⟩,rfl⟩
      | true =>
       rw [g2] at o6
       cases g3:kS g.leave 0 1000 with
       | false =>
        rw [g3] at o7
        rw [bad (.inr (.inl g3))]
        repeat' (first |((with_reducible show ah _ _ _ _ _ _ _ _);refine af.call o6 rfl rfl ?_) |((with_reducible show ah _ _ _ _ _ _ _ _);refine af.call o7 rfl rfl ?_) |((with_reducible show ah _ _ _ _ _ _ _ _);refine af.call o8 rfl rfl ?_) |((with_reducible show ah _ _ _ _ _ _ _ _);refine af.call o9 rfl rfl ?_) |refine u1 ?_ |refine u2 ?_ |fail)
        exact ⟨[_,_,_],⟨Fz.deep rfl,Fz.deep rfl,Fz.deep rfl,trivial⟩,rfl⟩
       | true =>
        rw [g3] at o7
        cases g4:kS g.Fe 0 1000 with
        | false =>
         rw [g4] at o8
         rw [bad (.inr (.inr (.inl g4)))]
         repeat' (first |((with_reducible show ah _ _ _ _ _ _ _ _);refine af.call o6 rfl rfl ?_) |((with_reducible show ah _ _ _ _ _ _ _ _);refine af.call o7 rfl rfl ?_) |((with_reducible show ah _ _ _ _ _ _ _ _);refine af.call o8 rfl rfl ?_) |((with_reducible show ah _ _ _ _ _ _ _ _);refine af.call o9 rfl rfl ?_) |refine u1 ?_ |refine u2 ?_ |fail)
         exact ⟨[_,_,_],⟨Fz.deep rfl,Fz.deep rfl,Fz.deep rfl,trivial⟩,rfl⟩
        | true =>
         rw [g4] at o8
         cases g5:kS g.m9 0 1000 with
         | false =>
          rw [g5] at o9
          rw [bad (.inr (.inr (.inr g5)))]
          repeat' (first |((with_reducible show ah _ _ _ _ _ _ _ _);refine af.call o6 rfl rfl ?_) |((with_reducible show ah _ _ _ _ _ _ _ _);refine af.call o7 rfl rfl ?_) |((with_reducible show ah _ _ _ _ _ _ _ _);refine af.call o8 rfl rfl ?_) |((with_reducible show ah _ _ _ _ _ _ _ _);refine af.call o9 rfl rfl ?_) |refine u1 ?_ |refine u2 ?_ |fail)
          exact ⟨[_,_,_],⟨Fz.deep rfl,Fz.deep rfl,Fz.deep rfl,trivial⟩,rfl⟩
         | true =>
          rw [g5] at o9
          rw [if_neg (by rw [g2,g3,g4,g5];simp)] at hga
          repeat' (first |((with_reducible show ah _ _ _ _ _ _ _ _);refine af.call o6 rfl rfl ?_) |((with_reducible show ah _ _ _ _ _ _ _ _);refine af.call o7 rfl rfl ?_) |((with_reducible show ah _ _ _ _ _ _ _ _);refine af.call o8 rfl rfl ?_) |((with_reducible show ah _ _ _ _ _ _ _ _);refine af.call o9 rfl rfl ?_) |refine u1 ?_ |refine u2 ?_ |fail)
          refine ⟨(k+1,v',c'),⟨hlt,(fun i hi=>?_),hc'⟩,(by dsimp only;omega),?_⟩
          ·by_cases hik:i=k
           ·subst hik;exact hga
           ·exact hprev i (by dsimp only at hi;omega)
          ·exact ai.to 1 (by dsimp only;rw [hst];rfl) ⟨rfl,rfl,cZ (by simp),trivial⟩ (Nat.zero_le _) rfl (zu _ _)
     ·rw [if_pos g1] at hga
      rw [fin f hga g1]
      have d7:decide (f=0)=false:=decide_eq_false g1
      have d7':(!decide (f=0))=true:=by rw [d7];rfl
      repeat' (first |((with_reducible show ah _ _ _ _ _ _ _ _);refine af.call o6 rfl rfl ?_) |((with_reducible show ah _ _ _ _ _ _ _ _);refine af.call o7 rfl rfl ?_) |((with_reducible show ah _ _ _ _ _ _ _ _);refine af.call o8 rfl rfl ?_) |((with_reducible show ah _ _ _ _ _ _ _ _);refine af.call o9 rfl rfl ?_) |refine u1 ?_ |refine u2 ?_ |fail)
      exact ⟨[_,_,_],⟨Fz.deep rfl,Fz.deep rfl,Fz.deep rfl,trivial⟩,rfl⟩
    ·have hkn:k=c.az.length:=by omega
     have d1:decide ((k:Int) < ((c.az.map bu).length:Int))=false:=decide_eq_false (by omega)
     subst hkn
     have hcc:oA c=if (cG c.aO.length (CZ c)).2 ≠ 0 then (3,(cG c.aO.length (CZ c)).1,(cG c.aO.length (CZ c)).2) else (0,0,0):=by
      rw [hcc,lF (fun i hi=>hprev i hi),if_neg (by simp)]
     clear hprev
     repeat' (first |refine u1 ?_ |refine u2 ?_ |fail)
     refine aL.cr (ai.trans (ai.to (l:=[(1,.pt (aX c) 0),(5,.fl (.slice none 0 0)),(9,aj ((0:Nat):Int))]) (hp:=[]) 0 rfl ⟨rfl,rfl,rfl,trivial⟩ (Nat.zero_le _) rfl rfl) (ai.trans (ai.Ce 1) (ai.JR (l:=[(1,.pt (aX c) 0),(5,.dY 0 (0,0,0).2.1 0 (0,0,0).1 (0,0,0).2.2),(9,aj ((0,0,0).1:Nat))]) (hp:=[.cells (gN ((c.aO.map nE.name).take (0,0,0).1)) 1 (0,0,0).2.1]) 1 rfl ⟨jJ.refl _,jJ.Cd,jJ.refl _,trivial⟩ (Nat.zero_le _) rfl (zu _ _)))) ?_
     refine aL.loop (fun x:Nat × Nat × Nat=>x.1≤c.aO.length∧(∀ i,i < x.1→CZ c i=0)∧(x.2.2=x.1∨x.2.2=x.1+1)) (fun x=>⟨cz [(1,.pt (aX c) 0),(5,.dY 0 x.2.1 0 x.1 x.2.2),(9,aj (x.1:Nat))],[.cells (gN ((c.aO.map nE.name).take x.1)) 1 x.2.1],bF.none,false,0⟩) (fun x=>c.aO.length - x.1) ?_ (0,0,0) ⟨Nat.zero_le _,(fun i hi=>absurd hi (Nat.not_lt_zero _)),.inl rfl⟩
     rintro ⟨k,av,cc⟩ ⟨hk,hprev,hcap⟩
     dsimp only at hk hprev hcap
     show aL _ _ _ _ ⟨cz [(1,.pt (aX c) 0),(5,.dY 0 (k,av,cc).2.1 0 (k,av,cc).1 (k,av,cc).2.2),(9,aj ((k,av,cc).1:Nat))],[.cells (gN ((c.aO.map nE.name).take (k,av,cc).1)) 1 (k,av,cc).2.1],bF.none,false,0⟩ _
     dsimp only
     refine aa (mu:=fun t=>Nat.beq t 48 || Nat.beq t 99) ?_
     by_cases hlt:k < c.aO.length
     ·have d1:decide ((k:Int) < ((c.aO.map bG).length:Int))=true:=decide_eq_true (by omega)
      have hat:(c.aO.map bG)[((k:Nat):Int).toNat]?=some (bG c.aO[k]):=cM hlt
      have hga:CZ c k=_:=tC (nm:=nE.name) (err:=(fh c.az.length)) hlt
      have hln:(c.aO.map nE.name).length=c.aO.length:=by simp
      have htl:((c.aO.map nE.name).take k).length=k:=by rw [List.length_take,hln];omega
      have hgl:(gN ((c.aO.map nE.name).take k)).length=k:=by rw [zq,htl]
      have hst:gN ((c.aO.map nE.name).take (k+1))=gN ((c.aO.map nE.name).take k)++[ST c.aO[k].name]:=by
       rw [C1 (by omega),List.getElem_map]
      have hfr:=CW one ((c.aO.map nE.name).take k) false c.aO[k].name (h.Fl _ (List.getElem_mem hlt)) (by rw [htl];simp [maxLen];omega)
      rw [List.map_take] at hga
      have o6:=i6 one c.aO[k].lR 0 (((c.az.map bu).length:Int) - 1)
      rw [eg] at o6
      have o7:=i6 one c.aO[k].gI (-100000) 100000
      have fin:∀ v,CZ c k=v→v ≠ 0→oA c=(3,(k:Int),v):=fun v e hv=>by rw [hcc,lE hlt hprev (by rw [e];exact hv),e,if_pos hv]
      generalize c.aO[k]=g at *
      generalize kR g.name ((c.aO.map nE.name).take k)=f at *
      unfold fh at hga
      rw [bp,bp] at hga
      repeat' (first |((with_reducible show RM.wpOp _ _ (.call _) _ _ _);refine RM.Gx (cs:=gN ((c.aO.map nE.name).take k)) (n:=k) (els:=[eS g.name]) rfl rfl rfl rfl rfl (fun el hel=>by rw [List.mem_singleton.1 hel];rfl) rfl rfl (by rw [hgl];exact (Nat.mul_one _).symm) hcap (by simp only [List.length_singleton];omega) (fun v' c' hc'=>?_)) |refine u1 ?_ |((with_reducible show RM.wpOp _ _ (.indexAddr _ _ _) _ _ _);refine ⟨bG g,⟨by omega,hat⟩,rfl,?_⟩) |((with_reducible show ah _ _ _ _ _ _ _ _);refine af.Ja hfr rfl (ze.two (Fz.deep rfl) (Fp _ htl)) (iF.fl _) ?_) |refine u2 ?_ |fail)
      by_cases g1:f=0
      ·rw [if_neg (by omega)] at hga
       have d7:decide (f=0)=true:=decide_eq_true g1
       have d7':(!decide (f=0))=false:=by rw [d7];rfl
       cases g2:kS g.lR 0 ((c.az.length:Int) - 1) with
       | false =>
        rw [g2,←eg] at o6
        rw [fin 4 (by rw [hga,g2,if_pos (by rfl)]) (by decide)]
        repeat' (first |((with_reducible show ah _ _ _ _ _ _ _ _);refine af.call o6 rfl rfl ?_) |((with_reducible show ah _ _ _ _ _ _ _ _);refine af.call o7 rfl rfl ?_) |((with_reducible show ah _ _ _ _ _ _ _ _);refine af.call o8 rfl rfl ?_) |((with_reducible show ah _ _ _ _ _ _ _ _);refine af.call o9 rfl rfl ?_) |refine u1 ?_ |refine u2 ?_ |fail)
        exact ⟨[_,_,_],⟨Fz.deep rfl,Fz.deep rfl,Fz.deep rfl,trivial⟩,rfl⟩
       | true =>
        rw [g2,←eg] at o6
        cases g3:kS g.gI (-100000) 100000 with
        | false =>
         rw [g3] at o7
         rw [fin 7 (by rw [hga,g2,g3,if_neg (by simp),if_pos (by rfl)]) (by decide)]
         repeat' (first |((with_reducible show ah _ _ _ _ _ _ _ _);refine af.call o6 rfl rfl ?_) |((with_reducible show ah _ _ _ _ _ _ _ _);refine af.call o7 rfl rfl ?_) |((with_reducible show ah _ _ _ _ _ _ _ _);refine af.call o8 rfl rfl ?_) |((with_reducible show ah _ _ _ _ _ _ _ _);refine af.call o9 rfl rfl ?_) |refine u1 ?_ |refine u2 ?_ |fail)
         exact ⟨[_,_,_],⟨Fz.deep rfl,Fz.deep rfl,Fz.deep rfl,trivial⟩,rfl⟩
        | true =>
         rw [g3] at o7
         rw [g2,g3,if_neg (by simp),if_neg (by simp)] at hga
         repeat' (first |((with_reducible show ah _ _ _ _ _ _ _ _);refine af.call o6 rfl rfl ?_) |((with_reducible show ah _ _ _ _ _ _ _ _);refine af.call o7 rfl rfl ?_) |((with_reducible show ah _ _ _ _ _ _ _ _);refine af.call o8 rfl rfl ?_) |((with_reducible show ah _ _ _ _ _ _ _ _);refine af.call o9 rfl rfl ?_) |refine u1 ?_ |refine u2 ?_ |fail)
         refine ⟨(k+1,v',c'),⟨hlt,(fun i hi=>?_),hc'⟩,(by dsimp only;omega),?_⟩
         ·by_cases hik:i=k
          ·subst hik;exact hga
          ·exact hprev i (by dsimp only at hi;omega)
         ·exact ai.to 1 (by dsimp only;rw [hst];rfl) ⟨rfl,rfl,cZ (by simp),trivial⟩ (Nat.zero_le _) rfl (zu _ _)
      ·rw [if_pos g1] at hga
       rw [fin f hga g1]
       have d7:decide (f=0)=false:=decide_eq_false g1
       have d7':(!decide (f=0))=true:=by rw [d7];rfl
       repeat' (first |((with_reducible show ah _ _ _ _ _ _ _ _);refine af.call o6 rfl rfl ?_) |((with_reducible show ah _ _ _ _ _ _ _ _);refine af.call o7 rfl rfl ?_) |((with_reducible show ah _ _ _ _ _ _ _ _);refine af.call o8 rfl rfl ?_) |((with_reducible show ah _ _ _ _ _ _ _ _);refine af.call o9 rfl rfl ?_) |refine u1 ?_ |refine u2 ?_ |fail)
       exact ⟨[_,_,_],⟨Fz.deep rfl,Fz.deep rfl,Fz.deep rfl,trivial⟩,rfl⟩
     ·have hkn:k=c.aO.length:=by omega
      have d1:decide ((k:Int) < ((c.aO.map bG).length:Int))=false:=decide_eq_false (by omega)
      subst hkn
      rw [hcc,lF (fun i hi=>hprev i hi),if_neg (by simp)]
      repeat' (first |refine u1 ?_ |refine u2 ?_ |fail)
      exact ⟨[_,_,_],⟨Fz.deep rfl,Fz.deep rfl,Fz.deep rfl,trivial⟩,rfl⟩
end Go.Proofs.YtlpmfgmldmdggaaGreat
