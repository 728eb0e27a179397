/-
  Contracts of the program's functions and of the document's. Lemmas alone; their conditions stand in them.
-/
import Derived.Test.YtpeogffeoehboaaGreatDoorK18
open Go Go.RM
namespace Go.Proofs.YtpeogffeoehboaaGreatDoor
set_option maxRecDepth 100000
set_option maxHeartbeats 4000000
theorem DQ (L:List (List Int)):∀ k,(jL L k).length=k
 | 0=>rfl
 | k+1=>by rw [jL,List.length_append,DQ L k];rfl
theorem GO {L out:List (List Int)}:∀ {i b:Nat},oA L out i=some b→b < i
 | i+1,b,h=>by
  obtain ⟨P,hP⟩:∃ P:Bool,oA L out (i+1)=if P=true then some i else oA L out i:=⟨_,rfl⟩;rw [hP] at h
  cases P with
  | true =>have h:some i=some b:=h;cases h;exact Nat.lt_succ_self _
  | false=>exact Nat.lt_succ_of_lt (GO h)
theorem DS {L:List (List Int)} {n:Nat} (h:∀ l ∈ L,l.length≤n):∀ k,∀ l ∈ jL L k,l.length≤n
 | k+1,l,hm=>by
  rw [jL,List.mem_append,List.mem_singleton] at hm
  rcases hm with h1|rfl
  ·exact DS h k l h1
  ·rw [List.getD_eq_getElem?_getD]
   cases hj:L[(oA L (jL L k) L.length).getD 0]? with
   | none=>exact qq5 _
   | some x=>exact h x (List.mem_of_getElem? hj)
theorem FF {hp:List AB} {j v c:Nat} {L:List (List Int)} (h:hp[j]?=some (.cells (dm L) 1 v)):Fz hp (.bg j v 0 L.length c) (.sl (L.map eL) false) :=
 Fz.row (es:=1) h (gV L).1 (gV L).2.1 (sR L) (gV L).2.2 (by rw [kV];exact sQ L) (fun h=>Bool.noConfusion h)
def bI:Option Nat→Int
 | none=>-1
 | some b=>(b:Nat)
theorem FG (one:Bool) {s:ai} (hg:Good s):Pu one 72 [.ag (ay s)] (.sl ((iu s).map eL) false):=by
 have h3:=hg.len;have eN:((s.needs.map aQ).length:Int)=s.needs.length:=by simp
 have hload:=hg.load;obtain ⟨hgs,hout⟩:=Re s;rw [←BH hg] at hgs hout;have hRl:(gH s s.needs.length).length≤7:=by rw [BH hg,List.length_map];exact List.length_filter_le _ _
 refine aj.body (fn:=Tryz.f72) rfl rfl rfl rfl ?_;refine qq2 ?_;repeat' first|refine RM.Hv rfl rfl rfl rfl ?_|refine u1 ?_|refine u2 ?_|fail
 refine qq2 ?_;repeat' first|refine u1 ?_|refine u2 ?_|fail
 refine av.seq ?_;refine qq2 ?_;repeat' first|refine u1 ?_|refine u2 ?_|fail
 refine av.block ?_;refine av.aJ (ah.trans (ah.jl 1) (ah.Gi (l:=[(1,.pt (ay s) 0),(3,.bg 0 0 0 (gH s 0).length 0),(4,aC (((0:Nat):Int)+1))]) (hp:=[.cells (dm (gH s 0)) 1 0]) 1 rfl ⟨aW.refl _,aW.jk,aW.refl _,trivial⟩ (qq5 _) rfl (cL _ _))) ?_;refine av.loop (fun x:Nat × Nat × Nat=>x.1≤s.needs.length∧(x.2.2=(gH s x.1).length∨x.2.2=(gH s x.1).length+1)) (fun x=>⟨aZ [(1,.pt (ay s) 0),(3,.bg 0 x.2.1 0 (gH s x.1).length x.2.2),(4,aC (((x.1:Nat):Int)+1))],[.cells (dm (gH s x.1)) 1 x.2.1],bA.none,false,0⟩) (fun x=>s.needs.length - x.1) ?_ (0,0,0) ⟨qq5 _,.inl rfl⟩;rintro ⟨n,aA,c⟩ ⟨hn,hcap⟩;dsimp only at hn hcap;show av _ _ _ _ ⟨aZ [(1,.pt (ay s) 0),(3,.bg 0 aA 0 (gH s n).length c),(4,aC (((n:Nat):Int)+1))],[.cells (dm (gH s n)) 1 aA],bA.none,false,0⟩ _;by_cases hlt:n < s.needs.length
 ·have d1:decide (((n:Nat):Int)+1≤((s.needs.map aQ).length:Int))=true:=decide_eq_true (by omega);have oc:=Bu one (below:=s.needs.length) (by omega) (n+1) [] (by omega) (by simp;omega) (fun x hx=>by cases hx);rw [←eN,show ((n+1:Nat):Int)=((n:Nat):Int)+1 by omega] at oc;have hLl:=jG (below:=s.needs.length) (by omega) (n+1) [] (Int.le_refl _);have hLm:=fun l (h:l ∈ dQ (s.needs.length:Nat) (n+1) [])=>kR.1 h;have hp8:=zN (m:=n+1) (by omega);have hs1:=Ia s n
  have hrl:(gH s n).length≤3 * 16777216:=by
   have:=pF (f:=fun i=>(dQ s.needs.length (i+1) []).filter fun l=>dG s l s.needs.length) (c:=16777216) (l:=List.range n) fun i hi=>by have hi:=List.mem_range.1 hi;have h2:=jG (below:=s.needs.length) (by omega) (i+1) [] (Int.le_refl _);exact Nat.le_trans (List.length_filter_le _ _) (Nat.le_trans h2 (zN (by omega)))
   rw [List.length_range] at this;exact Nat.le_trans this (Nat.mul_le_mul_right _ (by omega))
  rw [eN] at oc
  generalize hLL:dQ (s.needs.length:Nat) (n+1) []=L at *
  rw [←eN] at oc;refine qq2 ?_;repeat' first|refine u1 ?_|refine u2 ?_|fail
  refine av.seq ?_;refine av.block ?_;refine qq2 ?_;repeat' first|(refine az.soft (cm.cons (aW.nil false) (cm.cons (aW.refl _) (cm.tO (aW.refl _)))) (aj.call oc rfl rfl ?_))|refine u1 ?_|refine u2 ?_|fail
  refine qq2 ?_;repeat' first|refine u1 ?_|refine u2 ?_|fail
  refine av.block ?_;have ol0:(gH s n++(L.take 0).filter fun l=>dG s l s.needs.length)=gH s n:=by rw [List.take_zero];exact List.append_nil _
  have hol:∀ i,(gH s n++(L.take i).filter fun l=>dG s l s.needs.length).length≤4 * 16777216:=fun i=>by have h1:((L.take i).filter fun l=>dG s l s.needs.length).length≤L.length:=Nat.le_trans (List.length_filter_le _ _) (by rw [List.length_take];omega);rw [List.length_append];omega
  refine av.aJ (ah.to (l:=[(1,.pt (ay s) 0),(3,.bg 0 aA 0 (gH s n++(L.take 0).filter fun l=>dG s l s.needs.length).length c),(4,aC (((n:Nat):Int)+1)),(5,.sl (L.map eL) false),(6,aC (0:Nat))]) (hp:=[.cells (dm (gH s n++(L.take 0).filter fun l=>dG s l s.needs.length)) 1 aA]) 1 (by rw [ol0];rfl) ⟨rfl,(by rw [ol0];rfl),rfl,rfl,rfl,trivial⟩ (qq5 _) rfl (cL _ _)) ?_;refine av.loop (fun x:Nat × Nat × Nat=>x.1≤L.length∧(x.2.2=(gH s n++(L.take x.1).filter fun l=>dG s l s.needs.length).length∨x.2.2=(gH s n++(L.take x.1).filter fun l=>dG s l s.needs.length).length+1)) (fun x=>⟨aZ [(1,.pt (ay s) 0),(3,.bg 0 x.2.1 0 (gH s n++(L.take x.1).filter fun l=>dG s l s.needs.length).length x.2.2),(4,aC (((n:Nat):Int)+1)),(5,.sl (L.map eL) false),(6,aC (x.1:Nat))],[.cells (dm (gH s n++(L.take x.1).filter fun l=>dG s l s.needs.length)) 1 x.2.1],bA.none,false,0⟩) (fun x=>L.length - x.1) ?_ (0,aA,c) ⟨qq5 _,by dsimp only;rw [ol0];exact hcap⟩;clear hcap;rintro ⟨i,aA,c⟩ ⟨hi,hcap⟩;dsimp only at hi hcap;show av _ _ _ _ ⟨aZ [(1,.pt (ay s) 0),(3,.bg 0 aA 0 (gH s n++(L.take i).filter fun l=>dG s l s.needs.length).length c),(4,aC (((n:Nat):Int)+1)),(5,.sl (L.map eL) false),(6,aC (i:Nat))],[.cells (dm (gH s n++(L.take i).filter fun l=>dG s l s.needs.length)) 1 aA],bA.none,false,0⟩ _;have eLn:((L.map eL).length:Int)=L.length:=by simp
  by_cases hli:i < L.length
  ·have d2:decide ((i:Int) < ((L.map eL).length:Int))=true:=decide_eq_true (by omega);have hbi:(i:Int) < ((L.map eL).length:Int):=by omega
   have hat:(L.map eL)[((i:Nat):Int).toNat]?=some (eL L[i]):=bp hli;have hO:=hol i
   have hol1:(gH s n++(L.take (i+1)).filter fun l=>dG s l s.needs.length)=(gH s n++(L.take i).filter fun l=>dG s l s.needs.length)++if dG s L[i] s.needs.length=true then [L[i]] else []:=by
    rw [List.take_add_one,List.getElem?_eq_getElem hli,List.filter_append,←List.append_assoc]
    congr 1
    show ([L[i]]:List (List Int)).filter (fun l=>dG s l s.needs.length)=_;cases hf:dG s L[i] s.needs.length <;> simp [hf]
   obtain ⟨cc,hcc,hln,_,hlb⟩:=hLm L[i] (List.getElem_mem hli);rw [List.nil_append] at hcc;rw [←hcc] at hln hlb;have hlb:∀ x ∈ L[i],0≤x∧x < ((s.needs.length:Nat):Int):=hlb;have ow:=HC true hg L[i] false (by omega) hlb;have ohs:=fun k:Nat=>Gq true L[i] false (k:Nat) (Nat.le_trans (show L[i].length≤8 by omega) (by decide))
   generalize L[i]=l at *
   generalize hOO:(gH s n++(L.take i).filter fun l=>dG s l s.needs.length)=O at *
   have hgl:(dm O).length=O.length:=List.length_map _;refine qq2 ?_;repeat' first|refine u1 ?_|refine u2 ?_|fail
   refine av.seq ?_;refine av.block ?_;refine qq2 ?_;repeat' first|(refine ⟨_,ow,?_⟩)|refine u1 ?_|((with_reducible refine qq4 ?_);refine ⟨eL l,⟨by omega,hat⟩,rfl,?_⟩)|refine u2 ?_|fail
   refine av.seq ?_;refine qq2 ?_;repeat' first|refine u1 ?_|refine u2 ?_|fail
   refine av.block ?_;have hf0:dG s l 0=decide (tR s l≤s.load):=by unfold dG;simp
   refine av.aJ (ah.to (l:=[(1,.pt (ay s) 0),(3,.bg 0 aA 0 O.length c),(4,aC (((n:Nat):Int)+1)),(5,.sl (L.map eL) false),(6,aC (i:Nat)),(7,BB (dG s l 0)),(8,aC (0:Nat))]) (hp:=[.cells (dm O) 1 aA]) 1 rfl ⟨rfl,rfl,rfl,rfl,rfl,(by rw [hf0];rfl),rfl,trivial⟩ (qq5 _) rfl (cL _ _)) ?_;refine av.loop (fun k:Nat=>k≤s.needs.length) (fun k=>⟨aZ [(1,.pt (ay s) 0),(3,.bg 0 aA 0 O.length c),(4,aC (((n:Nat):Int)+1)),(5,.sl (L.map eL) false),(6,aC (i:Nat)),(7,BB (dG s l k)),(8,aC (k:Nat))],[.cells (dm O) 1 aA],bA.none,false,0⟩) (fun k=>s.needs.length - k) ?_ 0 (qq5 _);intro k hk;by_cases hlk:k < s.needs.length
   ·have d3:decide ((k:Int) < ((s.needs.map aQ).length:Int))=true:=decide_eq_true (by omega);have hbk:(k:Int) < ((s.needs.map aQ).length:Int):=by omega
    have hatk:(s.needs.map aQ)[((k:Nat):Int).toNat]?=some (aQ s.needs[k]):=bp hlk;have hwa:DW s ((k:Nat):Int)=s.needs[k].weight:=by unfold DW;rw [Int.toNat_natCast,List.getElem?_eq_getElem hlk]
    have hwb:=Ll hg ((k:Nat):Int);have hfs:=FD (s:=s) (l:=l) (k:=k);have oh:=ohs k;have hwl:0≤tR s l∧tR s l≤1000:=by have:=Da hg l;omega
    rw [hwa] at hfs hwb
    generalize s.needs[k]=g at *
    generalize hG1:dG s l (k+1)=G1 at *
    generalize hG0:dG s l k=G0 at *
    generalize hHB:hasB l ((k:Nat):Int)=HB at *
    generalize tR s l=W at *
    generalize hD:decide (s.load < W+g.weight)=D at *
    subst hfs
    cases G0 <;> cases HB <;> cases D <;> (
     refine qq2 ?_;repeat' first|refine u1 ?_|refine u2 ?_|fail
     refine qq2 ?_;repeat' first|(refine ⟨_,oh,?_⟩)|(refine ⟨_,ow,?_⟩)|refine u1 ?_|((with_reducible refine qq4 ?_);refine ⟨eL l,⟨by omega,hat⟩,rfl,?_⟩)|((with_reducible refine qq4 ?_);refine ⟨aQ g,⟨by omega,hatk⟩,rfl,?_⟩)|refine u2 ?_|fail
     refine qq1 ?_;repeat' first|refine u1 ?_|refine u2 ?_|fail
     exact ⟨k+1,hlk,(by dsimp only;omega),ah.to 1 rfl ⟨rfl,rfl,rfl,rfl,rfl,(by dsimp only;rw [hG1];first|rfl|(show AV.fl (Value.bool (decide (s.load < W+g.weight)))=_;rw [hD];rfl)),bq (by simp),trivial⟩ (qq5 _) rfl (cL _ _)⟩)
   ·obtain rfl:k=s.needs.length:=by omega
    have d3:decide ((s.needs.length:Int) < ((s.needs.map aQ).length:Int))=false:=decide_eq_false (by omega)
    cases hG:dG s l s.needs.length with
    | true =>
     rw [hG,if_pos rfl] at hol1;refine qq1 ?_;repeat' first|refine u1 ?_|refine u2 ?_|fail
     refine qq1 ?_;repeat' first|((with_reducible show RM.wpOp _ _ (.call _) _ _ _);refine RM.l5 (cs:=dm O) (n:=O.length) (els:=[eL l]) rfl rfl rfl rfl rfl (fun el hel=>by rw [List.mem_singleton.1 hel];rfl) rfl rfl (by rw [hgl];exact (Nat.mul_one _).symm) hcap (by simp only [List.length_singleton];omega) (fun v' c' hc'=>?_))|refine u1 ?_|((with_reducible refine qq4 ?_);refine ⟨eL l,⟨by omega,hat⟩,rfl,?_⟩)|refine u2 ?_|fail
     refine qq1 ?_;repeat' first|refine u1 ?_|refine u2 ?_|fail
     exact ⟨(i+1,v',c'),⟨hli,by dsimp only;rw [hol1,List.length_append];exact hc'⟩,(by dsimp only;omega),ah.to 1 (by dsimp only;rw [hol1];unfold dm;rw [List.map_append];rfl) ⟨rfl,(by dsimp only;rw [hol1,List.length_append];rfl),rfl,rfl,bq (by simp),trivial⟩ (qq5 _) rfl (cL _ _)⟩
    | false =>
     rw [hG,if_neg (by simp),List.append_nil] at hol1;refine qq1 ?_;repeat' first|refine u1 ?_|refine u2 ?_|fail
     refine qq1 ?_;repeat' first|refine u1 ?_|refine u2 ?_|fail
     refine qq1 ?_;repeat' first|refine u1 ?_|refine u2 ?_|fail
     exact ⟨(i+1,aA,c),⟨hli,by dsimp only;rw [hol1];exact hcap⟩,(by dsimp only;omega),ah.to 1 (by dsimp only;rw [hol1];rfl) ⟨rfl,(by dsimp only;rw [hol1];rfl),rfl,rfl,bq (by simp),trivial⟩ (qq5 _) rfl (cL _ _)⟩
  ·obtain rfl:i=L.length:=by omega
   have d2:decide ((L.length:Int) < ((L.map eL).length:Int))=false:=decide_eq_false (by omega);have olE:(gH s n++(L.take L.length).filter fun l=>dG s l s.needs.length)=gH s (n+1):=by rw [hs1,List.take_length]
   refine qq1 ?_;repeat' first|refine u1 ?_|refine u2 ?_|fail
   refine qq1 ?_;repeat' first|refine u1 ?_|refine u2 ?_|fail
   exact ⟨(n+1,aA,c),⟨hlt,by dsimp only;rw [←olE];exact hcap⟩,(by dsimp only;omega),ah.to 1 (by dsimp only;rw [←olE];rfl) ⟨rfl,(by dsimp only;rw [←olE];rfl),bq (by dsimp only;omega),trivial⟩ (qq5 _) rfl (cL _ _)⟩
 ·obtain rfl:n=s.needs.length:=by omega
  have d1:decide (((s.needs.length:Nat):Int)+1≤((s.needs.map aQ).length:Int))=false:=decide_eq_false (by omega);refine qq1 ?_;repeat' first|refine u1 ?_|refine u2 ?_|fail
  rw [←hout];clear hout hcap hn hlt d1;have hRm:∀ l ∈ gH s s.needs.length,l.length≤8:=by rw [BH hg];intro l hl;obtain ⟨f,_,rfl⟩:=List.mem_map.1 hl;exact qi f
  generalize gH s s.needs.length=R at *
  refine av.aJ (ah.trans (ah.giveUp 0 (l:=[(3,.sl (R.map eL) false)]) (hp:=[.gone]) rfl (qq5 _) (sQ _) ⟨.row 1 (gV R).1 (gV R).2.1 (sR R) (gV R).2.2 (fun h=>Bool.noConfusion h),trivial⟩ rfl rfl) (ah.to (l:=[(3,.sl (R.map eL) false)]) (hp:=[]) 0 rfl ⟨rfl,trivial⟩ (qq5 _) rfl rfl)) ?_;have eRn:((R.map eL).length:Int)=R.length:=by simp
  refine qq2 ?_;repeat' first|refine u1 ?_|refine u2 ?_|fail
  refine av.seq ?_;refine av.block ?_;refine av.aJ (ah.trans (ah.jl 1) (ah.Gi (l:=[(3,.sl (R.map eL) false),(9,.bg 0 0 0 (jL R 0).length 0)]) (hp:=[.cells (dm (jL R 0)) 1 0]) 1 rfl ⟨aW.refl _,aW.jk,trivial⟩ (qq5 _) rfl (cL _ _))) ?_;refine av.loop (fun x:Nat × Nat × Nat=>x.1≤R.length∧(x.2.2=(jL R x.1).length∨x.2.2=(jL R x.1).length+1)) (fun x=>⟨aZ [(3,.sl (R.map eL) false),(9,.bg 0 x.2.1 0 (jL R x.1).length x.2.2)],[.cells (dm (jL R x.1)) 1 x.2.1],bA.none,false,0⟩) (fun x=>R.length - x.1) ?_ (0,0,0) ⟨qq5 _,.inl rfl⟩;rintro ⟨k,aA,c⟩ ⟨hk,hcap⟩;dsimp only at hk hcap;show av _ _ _ _ ⟨aZ [(3,.sl (R.map eL) false),(9,.bg 0 aA 0 (jL R k).length c)],[.cells (dm (jL R k)) 1 aA],bA.none,false,0⟩ _;have hOl:=DQ R k;by_cases hlk:k < R.length
  ·have hO1:jL R (k+1)=jL R k++[R.getD ((oA R (jL R k) R.length).getD 0) []]:=rfl;have hOm:=DS hRm k
   have hgk:∃ b,oA R (jL R k) R.length=some b∧b < R.length:=by
    have h:=List.all_eq_true.1 hgs k (List.mem_range.2 hlk)
    cases hb:oA R (jL R k) R.length with
    | none =>rw [hb] at h;have h:false=true:=h;cases h
    | some b=>rw [hb] at h;exact ⟨b,rfl,of_decide_eq_true h⟩
   generalize hOO:jL R k=O at *
   have hgl:(dm O).length=O.length:=List.length_map _;have d1:decide ((O.length:Int) < ((R.map eL).length:Int))=true:=decide_eq_true (by omega);refine qq2 ?_;repeat' first|refine u1 ?_|refine u2 ?_|fail
   refine av.block ?_;refine qq2 ?_;repeat' first|refine u1 ?_|refine u2 ?_|fail
   refine av.seq ?_;refine qq2 ?_;repeat' first|refine u1 ?_|refine u2 ?_|fail
   refine av.block ?_;refine av.aJ (ah.to (l:=[(3,.sl (R.map eL) false),(9,.bg 0 aA 0 O.length c),(10,aC (bI (oA R O 0))),(11,aC (0:Nat))]) (hp:=[.cells (dm O) 1 aA]) 1 rfl ⟨rfl,rfl,rfl,rfl,trivial⟩ (qq5 _) rfl (cL _ _)) ?_;refine av.loop (fun i:Nat=>i≤R.length) (fun i=>⟨aZ [(3,.sl (R.map eL) false),(9,.bg 0 aA 0 O.length c),(10,aC (bI (oA R O i))),(11,aC (i:Nat))],[.cells (dm O) 1 aA],bA.none,false,0⟩) (fun i=>R.length - i) ?_ 0 (qq5 _);intro i hi;by_cases hli:i < R.length
   ·have d2:decide ((i:Int) < ((R.map eL).length:Int))=true:=decide_eq_true (by omega);have hbi:(i:Int) < ((R.map eL).length:Int):=by omega
    have hati:(R.map eL)[((i:Nat):Int).toNat]?=some (eL R[i]):=bp hli;have hml:∀ l:List Int,l.length≤8→l.length≤maxLen:=fun l h=>Nat.le_trans h (by decide);have hRi:=hRm _ (List.getElem_mem hli);have hgd:∀ {j:Nat} (h:j < R.length),R.getD j []=R[j]:=fun {j} h=>by rw [List.getD_eq_getElem?_getD,List.getElem?_eq_getElem h];rfl
    have hsS:oA R O (i+1)=if (!(O.any fun l=>decide (l=R.getD i [])) && (match oA R O i with
     | none=>true
     | some b=>decide (nJ (R.getD i []) (R.getD b []) < 0)))=true then some i else oA R O i:=rfl
    have ou:=Rd true O false R[i] (by omega) (fun l h=>hml l (hOm l h)) (hml _ hRi);rw [hgd hli] at hsS
    cases hS:oA R O i with
    | none =>
     rw [hS] at hsS;rw [show bI none=-1 from rfl]
     generalize R[i]=x at *
     have d5:decide ((-1:Int) < 0)=true:=rfl
     generalize (O.any fun l=>decide (l=x))=U at *
     cases U <;> (
      dsimp only at hsS;refine qq2 ?_;repeat' first|refine u1 ?_|refine u2 ?_|fail
      refine qq2 ?_;repeat' first|(refine RM.n2 ou rfl rfl rfl (l7.cons (FF rfl) (l7.tO (Fz.deep rfl))) (fA.fl _) ?_)|refine u1 ?_|((with_reducible refine qq4 ?_);refine ⟨eL x,⟨by omega,hati⟩,rfl,?_⟩)|refine u2 ?_|fail
      refine qq1 ?_;repeat' first|refine u1 ?_|refine u2 ?_|fail
      exact ⟨i+1,hli,(by dsimp only;omega),ah.to 1 rfl ⟨rfl,rfl,(by dsimp only;rw [hsS];rfl),bq (by simp),trivial⟩ (qq5 _) rfl (cL _ _)⟩)
    | some b =>
     have hbl:=Nat.lt_trans (GO hS) hli;rw [hS] at hsS;rw [show bI (some b)=((b:Nat):Int) from rfl];have hsS:oA R O (i+1)=if ((!O.any fun l=>decide (l=R[i])) && decide (nJ R[i] (R.getD b []) < 0))=true then some i else some b:=hsS;rw [hgd hbl] at hsS;have obf:=Mr true R[i] R[b] false false (by omega);have hbb:(b:Int) < ((R.map eL).length:Int):=by omega
     have hatb:(R.map eL)[((b:Nat):Int).toNat]?=some (eL R[b]):=bp hbl;have d5:decide (((b:Nat):Int) < 0)=false:=decide_eq_false (by omega)
     generalize R[i]=x at *
     generalize R[b]=y at *
     generalize (O.any fun l=>decide (l=x))=U at *
     generalize decide (nJ x y < 0)=V at *
     cases U <;> cases V <;> (
      refine qq2 ?_;repeat' first|refine u1 ?_|refine u2 ?_|fail
      refine qq2 ?_;repeat' first|(refine RM.n2 ou rfl rfl rfl (l7.cons (FF rfl) (l7.tO (Fz.deep rfl))) (fA.fl _) ?_)|(refine ⟨_,obf,?_⟩)|refine u1 ?_|((with_reducible refine qq4 ?_);refine ⟨eL x,⟨by omega,hati⟩,rfl,?_⟩)|((with_reducible refine qq4 ?_);refine ⟨eL y,⟨by omega,hatb⟩,rfl,?_⟩)|refine u2 ?_|fail
      refine qq1 ?_;repeat' first|refine u1 ?_|refine u2 ?_|fail
      exact ⟨i+1,hli,(by dsimp only;omega),ah.to 1 rfl ⟨rfl,rfl,(by dsimp only;rw [hsS];rfl),bq (by simp),trivial⟩ (qq5 _) rfl (cL _ _)⟩)
   ·obtain rfl:i=R.length:=by omega
    have d2:decide ((R.length:Int) < ((R.map eL).length:Int))=false:=decide_eq_false (by omega);obtain ⟨b,hb,hbl⟩:=hgk;rw [hb] at hO1 ⊢;rw [show bI (some b)=((b:Nat):Int) from rfl];rw [show (some b).getD 0=b from rfl,show R.getD b []=R[b] by rw [List.getD_eq_getElem?_getD,List.getElem?_eq_getElem hbl];rfl] at hO1;have hbb:(b:Int) < ((R.map eL).length:Int):=by omega
    have hatb:(R.map eL)[((b:Nat):Int).toNat]?=some (eL R[b]):=bp hbl
    generalize R[b]=y at *
    refine qq1 ?_;repeat' first|refine u1 ?_|refine u2 ?_|fail
    refine qq1 ?_;repeat' first|((with_reducible show RM.wpOp _ _ (.call _) _ _ _);refine RM.l5 (cs:=dm O) (n:=O.length) (els:=[eL y]) rfl rfl rfl rfl rfl (fun el hel=>by rw [List.mem_singleton.1 hel];rfl) rfl rfl (by rw [hgl];exact (Nat.mul_one _).symm) hcap (by simp only [List.length_singleton];omega) (fun v' c' hc'=>?_))|refine u1 ?_|((with_reducible refine qq4 ?_);refine ⟨eL y,⟨by omega,hatb⟩,rfl,?_⟩)|refine u2 ?_|fail
    exact ⟨(k+1,v',c'),⟨hlk,by dsimp only;rw [hO1,List.length_append];exact hc'⟩,(by dsimp only;omega),ah.to 1 (by dsimp only;rw [hO1];unfold dm;rw [List.map_append];rfl) ⟨rfl,(by dsimp only;rw [hO1,List.length_append];rfl),trivial⟩ (qq5 _) rfl (cL _ _)⟩
  ·obtain rfl:k=R.length:=by omega
   have d1:decide (((jL R R.length).length:Int) < ((R.map eL).length:Int))=false:=decide_eq_false (by omega);refine qq1 ?_;repeat' first|refine u1 ?_|refine u2 ?_|fail
   refine qq1 ?_;repeat' first|refine u1 ?_|refine u2 ?_|fail
   exact ⟨[_],⟨FF rfl,trivial⟩,rfl⟩
