/-
  Contracts of the program's functions and of the document's. Lemmas alone; their conditions stand in them.
-/
import Derived.Test.YtlpmfgmldmdggaaGreatK2
open Go Go.RM
namespace Go.Proofs.YtlpmfgmldmdggaaGreat
set_option maxRecDepth 100000
set_option maxHeartbeats 4000000
theorem uu {α:Type} {nm:α→ByteArray} {err:α→Int} {l:List α} {k:Nat} (h:k < l.length):dh nm err l k=if kY (nm l[k]) ((l.take k).map nm) ≠ 0 then kY (nm l[k]) ((l.take k).map nm) else err l[k]:=by
 unfold dh kY
 rw [List.getElem?_eq_getElem h,List.any_map]
 simp only
 have e1:(List.any (l.take k) ((fun x=>xE x (nm l[k])) ∘ nm))=(l.take k).any fun y=>xE (nm y) (nm l[k]):=rfl
 rw [e1]
 cases iR (nm l[k]) with
 | false=>simp
 | true=>cases ((l.take k).any fun y=>xE (nm y) (nm l[k])) <;> simp
theorem Jb (lo hi a b c:Int):ec lo hi [a,b,c]=(!lP a lo hi || (!lP b lo hi || !lP c lo hi)):=by
 have h1:=bD a lo hi
 have h2:=bD b lo hi
 have h3:=bD c lo hi
 rw [←h1,←h2,←h3]
 unfold ec
 simp
def gN (l:List ByteArray):List AV:=l.map fun x=>ST x
theorem D6 {l:List ByteArray} {k:Nat} (h:k < l.length):gN (l.take (k+1))=gN (l.take k)++[ST l[k]]:=by
 unfold gN
 rw [List.take_add_one,List.getElem?_eq_getElem h,List.map_append]
 rfl
theorem D7 (l:List ByteArray):(l.map eS).flatten=gN l:=by
 induction l with
 | nil=>rfl
 | cons a l ih =>
  simp only [List.map_cons,List.flatten_cons,ih]
  rfl
theorem GG (l:List ByteArray):de (gN l)=true:=by
 induction l with
 | nil=>rfl
 | cons a l ih=>exact ih
theorem Ij (n:Nat) (l:List ByteArray):sq n (gN l)=true:=by
 induction l with
 | nil=>rfl
 | cons a l ih=>exact ih
theorem An (l:List ByteArray):(gN l).length=l.length:=by unfold gN;simp
theorem GH {B:List AB} (l:List ByteArray) {n v c:Nat} (h:l.length=n):Fz (.cells (gN l) 1 v :: B) (.cS 0 v 0 n c) (.sl (l.map eS) false) :=
 Fz.row (es:=1) rfl (by rw [An];omega) (by simp;omega) (fun el hel=>by obtain ⟨x,_,rfl⟩:=List.mem_map.1 hel;rfl) (by rw [D7,List.drop_zero,List.take_of_length_le (by rw [An];omega)]) (by rw [D7];exact GG _) (fun h=>Bool.noConfusion h)
theorem Ao (l:List ByteArray) (v:Nat):([.cells (gN l) 1 v]:List AB).all (AB.ig 1)=true:=by
 have h:AB.ig 1 (.cells (gN l) 1 v)=true:=Ij 1 l
 simp only [List.all_cons,List.all_nil,h,Bool.and_true]
theorem B0 (one:Bool) (c:ay) (h:c.Ok):Pu one 17 [.ag (aF c)] (.tp [ah (nS c).1,ah (nS c).2.1,ah (nS c).2.2]):=by
 have eg:((c.aA.map bA).length:Int)=c.aA.length:=by simp
 have em:((c.aG.map bp).length:Int)=c.aG.length:=by simp
 have o1:=iH one ((c.aA.map bA).length:Int) 1 3
 have o2:=iH one ((c.aG.map bp).length:Int) 1 5
 have o3:=iH one c.least 0 5
 rw [eg] at o1
 rw [em] at o2
 cases e1:lP (c.aA.length:Int) 1 3 with
 | false =>
  rw [e1,←eg] at o1
  have hc:nS c=(1,0,3):=by unfold nS;rw [bD,e1,if_pos (by rfl)]
  rw [hc]
  refine af.body (fn:=Tryz.f17) rfl rfl rfl rfl ?_;refine aa (mu:=fun t=>Nat.beq t 48 || Nat.beq t 99) ?_
  repeat' (first |refine u1 ?_ |((with_reducible show ai _ _ _ _ _ _ _ _);refine af.call o1 rfl rfl ?_) |((with_reducible show ai _ _ _ _ _ _ _ _);refine af.call o2 rfl rfl ?_) |((with_reducible show ai _ _ _ _ _ _ _ _);refine af.call o3 rfl rfl ?_) |refine u2 ?_ |fail)
  exact ⟨[_,_,_],⟨Fz.deep rfl,Fz.deep rfl,Fz.deep rfl,trivial⟩,rfl⟩
 | true =>
  rw [e1,←eg] at o1
  cases e2:lP (c.aG.length:Int) 1 5 with
  | false =>
   rw [e2,←em] at o2
   have hc:nS c=(1,0,3):=by unfold nS;rw [bD,bD,e1,e2,if_pos (by rfl)]
   rw [hc]
   refine af.body (fn:=Tryz.f17) rfl rfl rfl rfl ?_;refine aa (mu:=fun t=>Nat.beq t 48 || Nat.beq t 99) ?_
   repeat' (first |refine u1 ?_ |((with_reducible show ai _ _ _ _ _ _ _ _);refine af.call o1 rfl rfl ?_) |((with_reducible show ai _ _ _ _ _ _ _ _);refine af.call o2 rfl rfl ?_) |((with_reducible show ai _ _ _ _ _ _ _ _);refine af.call o3 rfl rfl ?_) |refine u2 ?_ |fail)
   exact ⟨[_,_,_],⟨Fz.deep rfl,Fz.deep rfl,Fz.deep rfl,trivial⟩,rfl⟩
  | true =>
   rw [e2,←em] at o2
   cases e3:lP c.least 0 5 with
   | false =>
    rw [e3] at o3
    have hc:nS c=(1,0,7):=by unfold nS;rw [bD,bD,bD,e1,e2,e3,if_neg (by simp),if_pos (by rfl)]
    rw [hc]
    refine af.body (fn:=Tryz.f17) rfl rfl rfl rfl ?_;refine aa (mu:=fun t=>Nat.beq t 48 || Nat.beq t 99) ?_
    repeat' (first |refine u1 ?_ |((with_reducible show ai _ _ _ _ _ _ _ _);refine af.call o1 rfl rfl ?_) |((with_reducible show ai _ _ _ _ _ _ _ _);refine af.call o2 rfl rfl ?_) |((with_reducible show ai _ _ _ _ _ _ _ _);refine af.call o3 rfl rfl ?_) |refine u2 ?_ |fail)
    exact ⟨[_,_,_],⟨Fz.deep rfl,Fz.deep rfl,Fz.deep rfl,trivial⟩,rfl⟩
   | true =>
    rw [e3] at o3
    have hcc:nS c=if (cL c.aA.length (GF c)).2 ≠ 0 then (2,(cL c.aA.length (GF c)).1,(cL c.aA.length (GF c)).2) else if (cL c.aG.length (D4 c)).2 ≠ 0 then (3,(cL c.aG.length (D4 c)).1,(cL c.aG.length (D4 c)).2) else (0,0,0):=by
     unfold nS;rw [bD,bD,bD,e1,e2,e3,if_neg (by simp),if_neg (by simp)]
    have b1:=cM.1 e1
    have b2:=cM.1 e2
    have z00:decide ((0:Int)=0)=true:=by decide
    have z70:decide ((7:Int)=0)=false:=by decide
    have z40:decide ((4:Int)=0)=false:=by decide
    have n00:(!decide ((0:Int)=0))=false:=by decide
    have n70:(!decide ((7:Int)=0))=true:=by decide
    have n40:(!decide ((4:Int)=0))=true:=by decide
    refine af.body (fn:=Tryz.f17) rfl rfl rfl rfl ?_;refine aa (mu:=fun t=>Nat.beq t 48 || Nat.beq t 99) ?_
    repeat' (first |refine u1 ?_ |((with_reducible show ai _ _ _ _ _ _ _ _);refine af.call o1 rfl rfl ?_) |((with_reducible show ai _ _ _ _ _ _ _ _);refine af.call o2 rfl rfl ?_) |((with_reducible show ai _ _ _ _ _ _ _ _);refine af.call o3 rfl rfl ?_) |refine u2 ?_ |fail)
    refine aC.bx (aj.trans (aj.to (l:=[(1,.pt (aF c) 0),(5,.fl (.slice none 0 0)),(6,ah ((0:Nat):Int))]) (hp:=[]) 0 rfl ⟨rfl,rfl,rfl,trivial⟩ (Nat.zero_le _) rfl rfl) (aj.trans (aj.tu 1) (aj.KK (l:=[(1,.pt (aF c) 0),(5,.cS 0 (0,0,0).2.1 0 (0,0,0).1 (0,0,0).2.2),(6,ah ((0,0,0).1:Nat))]) (hp:=[.cells (gN ((c.aA.map fL.name).take (0,0,0).1)) 1 (0,0,0).2.1]) 1 rfl ⟨eW.refl _,eW.tq,eW.refl _,trivial⟩ (Nat.zero_le _) rfl (Ao _ _)))) ?_
    refine aC.loop (fun x:Nat × Nat × Nat=>x.1≤c.aA.length∧(∀ i,i < x.1→GF c i=0)∧(x.2.2=x.1∨x.2.2=x.1+1)) (fun x=>⟨bM [(1,.pt (aF c) 0),(5,.cS 0 x.2.1 0 x.1 x.2.2),(6,ah (x.1:Nat))],[.cells (gN ((c.aA.map fL.name).take x.1)) 1 x.2.1],bw.none,false,0⟩) (fun x=>c.aA.length - x.1) ?_ (0,0,0) ⟨Nat.zero_le _,(fun i hi=>absurd hi (Nat.not_lt_zero _)),.inl rfl⟩
    rintro ⟨k,ax,cc⟩ ⟨hk,hprev,hcap⟩
    dsimp only at hk hprev hcap
    show aC _ _ _ _ ⟨bM [(1,.pt (aF c) 0),(5,.cS 0 (k,ax,cc).2.1 0 (k,ax,cc).1 (k,ax,cc).2.2),(6,ah ((k,ax,cc).1:Nat))],[.cells (gN ((c.aA.map fL.name).take (k,ax,cc).1)) 1 (k,ax,cc).2.1],bw.none,false,0⟩ _
    dsimp only
    refine aa (mu:=fun t=>Nat.beq t 48 || Nat.beq t 99) ?_
    by_cases hlt:k < c.aA.length
    ·have d1:decide ((k:Int) < ((c.aA.map bA).length:Int))=true:=decide_eq_true (by omega)
     have hat:(c.aA.map bA)[((k:Nat):Int).toNat]?=some (bA c.aA[k]):=bG hlt
     have hga:GF c k=_:=uu (nm:=fL.name) (err:=dP) hlt
     have hln:(c.aA.map fL.name).length=c.aA.length:=by simp
     have htl:((c.aA.map fL.name).take k).length=k:=by rw [List.length_take,hln];omega
     have hgl:(gN ((c.aA.map fL.name).take k)).length=k:=by rw [An,htl]
     have hst:gN ((c.aA.map fL.name).take (k+1))=gN ((c.aA.map fL.name).take k)++[ST c.aA[k].name]:=by
      rw [D6 (by omega),List.getElem_map]
     have hfr:=DX one ((c.aA.map fL.name).take k) false c.aA[k].name (h.GC _ (List.getElem_mem hlt)) (by rw [htl];simp [maxLen];omega)
     rw [List.map_take] at hga
     have hre:dP c.aA[k]=if lP c.aA[k].Gt 0 1000=false∨lP c.aA[k].leave 0 1000=false∨lP c.aA[k].Gu 0 1000=false∨lP c.aA[k].nx 0 1000=false then 7 else 0:=by
      unfold dP
      rw [bD,Jb]
      cases lP c.aA[k].Gt 0 1000 <;> cases lP c.aA[k].leave 0 1000 <;> cases lP c.aA[k].Gu 0 1000 <;> cases lP c.aA[k].nx 0 1000 <;> rfl
     have o6:=iH one c.aA[k].Gt 0 1000
     have o7:=iH one c.aA[k].leave 0 1000
     have o8:=iH one c.aA[k].Gu 0 1000
     have o9:=iH one c.aA[k].nx 0 1000
     have fin:∀ v,GF c k=v→v ≠ 0→nS c=(2,(k:Int),v):=fun v e hv=>by rw [hcc,lN hlt hprev (by rw [e];exact hv),e,if_pos hv]
     generalize c.aA[k]=g at *
     generalize kY g.name ((c.aA.map fL.name).take k)=f at *
     rw [hre] at hga
     repeat' (first |((with_reducible show RM.wpOp _ _ (.call _) _ _ _);refine RM.uS (cs:=gN ((c.aA.map fL.name).take k)) (n:=k) (els:=[eS g.name]) rfl rfl rfl rfl rfl (fun el hel=>by rw [List.mem_singleton.1 hel];rfl) rfl rfl (by rw [hgl];exact (Nat.mul_one _).symm) hcap (by simp only [List.length_singleton];omega) (fun v' c' hc'=>?_)) |refine u1 ?_ |((with_reducible show RM.wpOp _ _ (.indexAddr _ _ _) _ _ _);refine ⟨bA g,⟨by omega,hat⟩,rfl,?_⟩) |((with_reducible show ai _ _ _ _ _ _ _ _);refine af.KL hfr rfl (Af.two (Fz.deep rfl) (GH _ htl)) (iM.fl _) ?_) |refine u2 ?_ |fail)
     by_cases g1:f=0
     ·rw [if_neg (by omega)] at hga
      have d7:decide (f=0)=true:=decide_eq_true g1
      have d7':(!decide (f=0))=false:=by rw [d7];rfl
      have bad:(lP g.Gt 0 1000=false∨lP g.leave 0 1000=false∨lP g.Gu 0 1000=false∨lP g.nx 0 1000=false)→nS c=(2,(k:Int),7):=fun hb2=>by
       rw [if_pos hb2] at hga
       exact fin 7 hga (by decide)
      cases g2:lP g.Gt 0 1000 with
      | false =>
       rw [g2] at o6
       rw [bad (.inl g2)]
       repeat' (first |((with_reducible show ai _ _ _ _ _ _ _ _);refine af.call o6 rfl rfl ?_) |((with_reducible show ai _ _ _ _ _ _ _ _);refine af.call o7 rfl rfl ?_) |((with_reducible show ai _ _ _ _ _ _ _ _);refine af.call o8 rfl rfl ?_) |((with_reducible show ai _ _ _ _ _ _ _ _);refine af.call o9 rfl rfl ?_) |refine u1 ?_ |refine u2 ?_ |fail)
       exact ⟨[_,_,_],⟨Fz.deep rfl,Fz.deep rfl,Fz.deep rfl,trivial⟩,rfl⟩
      | true =>
       rw [g2] at o6
       cases g3:lP g.leave 0 1000 with
       | false =>
        rw [g3] at o7
        rw [bad (.inr (.inl g3))]
        repeat' (first |((with_reducible show ai _ _ _ _ _ _ _ _);refine af.call o6 rfl rfl ?_) |((with_reducible show ai _ _ _ _ _ _ _ _);refine af.call o7 rfl rfl ?_) |((with_reducible show ai _ _ _ _ _ _ _ _);refine af.call o8 rfl rfl ?_) |((with_reducible show ai _ _ _ _ _ _ _ _);refine af.call o9 rfl rfl ?_) |refine u1 ?_ |refine u2 ?_ |fail)
        exact ⟨[_,_,_],⟨Fz.deep rfl,Fz.deep rfl,Fz.deep rfl,trivial⟩,rfl⟩
       | true =>
        rw [g3] at o7
        cases g4:lP g.Gu 0 1000 with
        | false =>
         rw [g4] at o8
         rw [bad (.inr (.inr (.inl g4)))]
         repeat' (first |((with_reducible show ai _ _ _ _ _ _ _ _);refine af.call o6 rfl rfl ?_) |((with_reducible show ai _ _ _ _ _ _ _ _);refine af.call o7 rfl rfl ?_) |((with_reducible show ai _ _ _ _ _ _ _ _);refine af.call o8 rfl rfl ?_) |((with_reducible show ai _ _ _ _ _ _ _ _);refine af.call o9 rfl rfl ?_) |refine u1 ?_ |refine u2 ?_ |fail)
         exact ⟨[_,_,_],⟨Fz.deep rfl,Fz.deep rfl,Fz.deep rfl,trivial⟩,rfl⟩
        | true =>
         rw [g4] at o8
         cases g5:lP g.nx 0 1000 with
         | false =>
          rw [g5] at o9
          rw [bad (.inr (.inr (.inr g5)))]
          repeat' (first |((with_reducible show ai _ _ _ _ _ _ _ _);refine af.call o6 rfl rfl ?_) |((with_reducible show ai _ _ _ _ _ _ _ _);refine af.call o7 rfl rfl ?_) |((with_reducible show ai _ _ _ _ _ _ _ _);refine af.call o8 rfl rfl ?_) |((with_reducible show ai _ _ _ _ _ _ _ _);refine af.call o9 rfl rfl ?_) |refine u1 ?_ |refine u2 ?_ |fail)
          exact ⟨[_,_,_],⟨Fz.deep rfl,Fz.deep rfl,Fz.deep rfl,trivial⟩,rfl⟩
         | true =>
          rw [g5] at o9
          rw [if_neg (by rw [g2,g3,g4,g5];simp)] at hga
          repeat' (first |((with_reducible show ai _ _ _ _ _ _ _ _);refine af.call o6 rfl rfl ?_) |((with_reducible show ai _ _ _ _ _ _ _ _);refine af.call o7 rfl rfl ?_) |((with_reducible show ai _ _ _ _ _ _ _ _);refine af.call o8 rfl rfl ?_) |((with_reducible show ai _ _ _ _ _ _ _ _);refine af.call o9 rfl rfl ?_) |refine u1 ?_ |refine u2 ?_ |fail)
          refine ⟨(k+1,v',c'),⟨hlt,(fun i hi=>?_),hc'⟩,(by dsimp only;omega),?_⟩
          ·by_cases hik:i=k
           ·subst hik;exact hga
           ·exact hprev i (by dsimp only at hi;omega)
          ·exact aj.to 1 (by dsimp only;rw [hst];rfl) ⟨rfl,rfl,cK (by simp),trivial⟩ (Nat.zero_le _) rfl (Ao _ _)
     ·rw [if_pos g1] at hga
      rw [fin f hga g1]
      have d7:decide (f=0)=false:=decide_eq_false g1
      have d7':(!decide (f=0))=true:=by rw [d7];rfl
      repeat' (first |((with_reducible show ai _ _ _ _ _ _ _ _);refine af.call o6 rfl rfl ?_) |((with_reducible show ai _ _ _ _ _ _ _ _);refine af.call o7 rfl rfl ?_) |((with_reducible show ai _ _ _ _ _ _ _ _);refine af.call o8 rfl rfl ?_) |((with_reducible show ai _ _ _ _ _ _ _ _);refine af.call o9 rfl rfl ?_) |refine u1 ?_ |refine u2 ?_ |fail)
      exact ⟨[_,_,_],⟨Fz.deep rfl,Fz.deep rfl,Fz.deep rfl,trivial⟩,rfl⟩
    ·have hkn:k=c.aA.length:=by omega
     have d1:decide ((k:Int) < ((c.aA.map bA).length:Int))=false:=decide_eq_false (by omega)
     subst hkn
     have hcc:nS c=if (cL c.aG.length (D4 c)).2 ≠ 0 then (3,(cL c.aG.length (D4 c)).1,(cL c.aG.length (D4 c)).2) else (0,0,0):=by
      rw [hcc,lO (fun i hi=>hprev i hi),if_neg (by simp)]
     clear hprev
     repeat' (first |refine u1 ?_ |refine u2 ?_ |fail)
     refine aC.bx (aj.trans (aj.to (l:=[(1,.pt (aF c) 0),(5,.fl (.slice none 0 0)),(9,ah ((0:Nat):Int))]) (hp:=[]) 0 rfl ⟨rfl,rfl,rfl,trivial⟩ (Nat.zero_le _) rfl rfl) (aj.trans (aj.tu 1) (aj.KK (l:=[(1,.pt (aF c) 0),(5,.cS 0 (0,0,0).2.1 0 (0,0,0).1 (0,0,0).2.2),(9,ah ((0,0,0).1:Nat))]) (hp:=[.cells (gN ((c.aG.map nQ.name).take (0,0,0).1)) 1 (0,0,0).2.1]) 1 rfl ⟨eW.refl _,eW.tq,eW.refl _,trivial⟩ (Nat.zero_le _) rfl (Ao _ _)))) ?_
     refine aC.loop (fun x:Nat × Nat × Nat=>x.1≤c.aG.length∧(∀ i,i < x.1→D4 c i=0)∧(x.2.2=x.1∨x.2.2=x.1+1)) (fun x=>⟨bM [(1,.pt (aF c) 0),(5,.cS 0 x.2.1 0 x.1 x.2.2),(9,ah (x.1:Nat))],[.cells (gN ((c.aG.map nQ.name).take x.1)) 1 x.2.1],bw.none,false,0⟩) (fun x=>c.aG.length - x.1) ?_ (0,0,0) ⟨Nat.zero_le _,(fun i hi=>absurd hi (Nat.not_lt_zero _)),.inl rfl⟩
     rintro ⟨k,ax,cc⟩ ⟨hk,hprev,hcap⟩
     dsimp only at hk hprev hcap
     show aC _ _ _ _ ⟨bM [(1,.pt (aF c) 0),(5,.cS 0 (k,ax,cc).2.1 0 (k,ax,cc).1 (k,ax,cc).2.2),(9,ah ((k,ax,cc).1:Nat))],[.cells (gN ((c.aG.map nQ.name).take (k,ax,cc).1)) 1 (k,ax,cc).2.1],bw.none,false,0⟩ _
     dsimp only
     refine aa (mu:=fun t=>Nat.beq t 48 || Nat.beq t 99) ?_
     by_cases hlt:k < c.aG.length
     ·have d1:decide ((k:Int) < ((c.aG.map bp).length:Int))=true:=decide_eq_true (by omega)
      have hat:(c.aG.map bp)[((k:Nat):Int).toNat]?=some (bp c.aG[k]):=bG hlt
      have hga:D4 c k=_:=uu (nm:=nQ.name) (err:=(fE c.aA.length)) hlt
      have hln:(c.aG.map nQ.name).length=c.aG.length:=by simp
      have htl:((c.aG.map nQ.name).take k).length=k:=by rw [List.length_take,hln];omega
      have hgl:(gN ((c.aG.map nQ.name).take k)).length=k:=by rw [An,htl]
      have hst:gN ((c.aG.map nQ.name).take (k+1))=gN ((c.aG.map nQ.name).take k)++[ST c.aG[k].name]:=by
       rw [D6 (by omega),List.getElem_map]
      have hfr:=DX one ((c.aG.map nQ.name).take k) false c.aG[k].name (h.GD _ (List.getElem_mem hlt)) (by rw [htl];simp [maxLen];omega)
      rw [List.map_take] at hga
      have o6:=iH one c.aG[k].iN 0 (((c.aA.map bA).length:Int) - 1)
      rw [eg] at o6
      have o7:=iH one c.aG[k].fm (-100000) 100000
      have fin:∀ v,D4 c k=v→v ≠ 0→nS c=(3,(k:Int),v):=fun v e hv=>by rw [hcc,lN hlt hprev (by rw [e];exact hv),e,if_pos hv]
      generalize c.aG[k]=g at *
      generalize kY g.name ((c.aG.map nQ.name).take k)=f at *
      unfold fE at hga
      rw [bD,bD] at hga
      repeat' (first |((with_reducible show RM.wpOp _ _ (.call _) _ _ _);refine RM.uS (cs:=gN ((c.aG.map nQ.name).take k)) (n:=k) (els:=[eS g.name]) rfl rfl rfl rfl rfl (fun el hel=>by rw [List.mem_singleton.1 hel];rfl) rfl rfl (by rw [hgl];exact (Nat.mul_one _).symm) hcap (by simp only [List.length_singleton];omega) (fun v' c' hc'=>?_)) |refine u1 ?_ |((with_reducible show RM.wpOp _ _ (.indexAddr _ _ _) _ _ _);refine ⟨bp g,⟨by omega,hat⟩,rfl,?_⟩) |((with_reducible show ai _ _ _ _ _ _ _ _);refine af.KL hfr rfl (Af.two (Fz.deep rfl) (GH _ htl)) (iM.fl _) ?_) |refine u2 ?_ |fail)
      by_cases g1:f=0
      ·rw [if_neg (by omega)] at hga
       have d7:decide (f=0)=true:=decide_eq_true g1
       have d7':(!decide (f=0))=false:=by rw [d7];rfl
       cases g2:lP g.iN 0 ((c.aA.length:Int) - 1) with
       | false =>
        rw [g2,←eg] at o6
        rw [fin 4 (by rw [hga,g2,if_pos (by rfl)]) (by decide)]
        repeat' (first |((with_reducible show ai _ _ _ _ _ _ _ _);refine af.call o6 rfl rfl ?_) |((with_reducible show ai _ _ _ _ _ _ _ _);refine af.call o7 rfl rfl ?_) |((with_reducible show ai _ _ _ _ _ _ _ _);refine af.call o8 rfl rfl ?_) |((with_reducible show ai _ _ _ _ _ _ _ _);refine af.call o9 rfl rfl ?_) |refine u1 ?_ |refine u2 ?_ |fail)
        exact ⟨[_,_,_],⟨Fz.deep rfl,Fz.deep rfl,Fz.deep rfl,trivial⟩,rfl⟩
       | true =>
        rw [g2,←eg] at o6
        cases g3:lP g.fm (-100000) 100000 with
        | false =>
         rw [g3] at o7
         rw [fin 7 (by rw [hga,g2,g3,if_neg (by simp),if_pos (by rfl)]) (by decide)]
         repeat' (first |((with_reducible show ai _ _ _ _ _ _ _ _);refine af.call o6 rfl rfl ?_) |((with_reducible show ai _ _ _ _ _ _ _ _);refine af.call o7 rfl rfl ?_) |((with_reducible show ai _ _ _ _ _ _ _ _);refine af.call o8 rfl rfl ?_) |((with_reducible show ai _ _ _ _ _ _ _ _);refine af.call o9 rfl rfl ?_) |refine u1 ?_ |refine u2 ?_ |fail)
         exact ⟨[_,_,_],⟨Fz.deep rfl,Fz.deep rfl,Fz.deep rfl,trivial⟩,rfl⟩
        | true =>
         rw [g3] at o7
         rw [g2,g3,if_neg (by simp),if_neg (by simp)] at hga
         repeat' (first |((with_reducible show ai _ _ _ _ _ _ _ _);refine af.call o6 rfl rfl ?_) |((with_reducible show ai _ _ _ _ _ _ _ _);refine af.call o7 rfl rfl ?_) |((with_reducible show ai _ _ _ _ _ _ _ _);refine af.call o8 rfl rfl ?_) |((with_reducible show ai _ _ _ _ _ _ _ _);refine af.call o9 rfl rfl ?_) |refine u1 ?_ |refine u2 ?_ |fail)
         refine ⟨(k+1,v',c'),⟨hlt,(fun i hi=>?_),hc'⟩,(by dsimp only;omega),?_⟩
         ·by_cases hik:i=k
          ·subst hik;exact hga
          ·exact hprev i (by dsimp only at hi;omega)
         ·exact aj.to 1 (by dsimp only;rw [hst];rfl) ⟨rfl,rfl,cK (by simp),trivial⟩ (Nat.zero_le _) rfl (Ao _ _)
      ·rw [if_pos g1] at hga
       rw [fin f hga g1]
       have d7:decide (f=0)=false:=decide_eq_false g1
       have d7':(!decide (f=0))=true:=by rw [d7];rfl
       repeat' (first |((with_reducible show ai _ _ _ _ _ _ _ _);refine af.call o6 rfl rfl ?_) |((with_reducible show ai _ _ _ _ _ _ _ _);refine af.call o7 rfl rfl ?_) |((with_reducible show ai _ _ _ _ _ _ _ _);refine af.call o8 rfl rfl ?_) |((with_reducible show ai _ _ _ _ _ _ _ _);refine af.call o9 rfl rfl ?_) |refine u1 ?_ |refine u2 ?_ |fail)
       exact ⟨[_,_,_],⟨Fz.deep rfl,Fz.deep rfl,Fz.deep rfl,trivial⟩,rfl⟩
     ·have hkn:k=c.aG.length:=by omega
      have d1:decide ((k:Int) < ((c.aG.map bp).length:Int))=false:=decide_eq_false (by omega)
      subst hkn
      rw [hcc,lO (fun i hi=>hprev i hi),if_neg (by simp)]
      repeat' (first |refine u1 ?_ |refine u2 ?_ |fail)
      exact ⟨[_,_,_],⟨Fz.deep rfl,Fz.deep rfl,Fz.deep rfl,trivial⟩,rfl⟩
end Go.Proofs.YtlpmfgmldmdggaaGreat
