/-
  Contracts of the program's functions and of the document's. Lemmas alone; their conditions stand in them.
-/
import Derived.Test.YtlpmfgmldmdggaaGreatK19
open Go Go.RM
namespace Go.Proofs.YtlpmfgmldmdggaaGreat
set_option maxRecDepth 100000
set_option maxHeartbeats 4000000
def fX (c:aS) (p:dm) (k:Nat) (pre:List Nat):List Nat × Int:=(rW c p k pre).getD ([],0)
def bA:wS→AV
 | none=>.fl (.slice none 0 0)
 | some y=>.sl ((y.1.map cV).map eL) false
def bM:wS→Int
 | none=>0
 | some y=>y.2
theorem ML (B:List (List Int)) (l:List Int):cZ (([]:List AV)++(B.map eL).flatten++[eL l].flatten)=true∧0+(0+(B.map eL).length+[eL l].length) * 1≤(([]:List AV)++(B.map eL).flatten++[eL l].flatten).length∧((B++[l]).map eL).length=0+(B.map eL).length+[eL l].length ∧
  (∀ el ∈ (B++[l]).map eL,el.length=1)∧((B++[l]).map eL).flatten=((([]:List AV)++(B.map eL).flatten++[eL l].flatten).drop 0).take ((0+(B.map eL).length+[eL l].length) * 1):=by
 have e:(([]:List AV)++(B.map eL).flatten++[eL l].flatten)=oZ (B++[l]):=by rw [List.nil_append,l7];unfold oZ;rw [List.map_append];rfl
 have en:0+(B.map eL).length+[eL l].length=(B++[l]).length:=by simp
 rw [e,en];have h:=DC (B++[l]);exact ⟨BH _,h.1,h.2.1,DB _,h.2.2⟩
def dI (c:aS) (p:dm) (k:Nat) (pre:List Nat) (i:Nat):wS:=((dw c.aH.length p.aN).take i).foldl (fun o a=>if BZ c p.aN (cV (fA pre)) (cV a)=0 then HO o (rW c p k (pre++[a])) else o) none
theorem DP {c:aS} {p:dm} {k:Nat} {pre:List Nat} {i:Nat} (h:i < (dw c.aH.length p.aN).length):dI c p k pre (i+1)=if BZ c p.aN (cV (fA pre)) (cV (dw c.aH.length p.aN)[i])=0 then HO (dI c p k pre i) (rW c p k (pre++[(dw c.aH.length p.aN)[i]])) else dI c p k pre i:=by unfold dI;rw [List.take_add_one,List.getElem?_eq_getElem h,List.foldl_append];rfl
def Mi (o:wS):Prop:=∀ y,o=some y→y.1 ≠ []
theorem JW {c:aS} (hg:Good c) {p:dm} (hp:wM p) (k:Nat) (pre:List Nat) (h32:l8 pre):∀ i,i≤(dw c.aH.length p.aN).length→Mi (dI c p k pre i)
 | 0,_=>fun y hy=>by cases hy
 | i+1,hi=>by
  have ih:=JW hg hp k pre h32 i (by omega);rw [DP (by omega)];have ha32:=zR _ (List.mem_filter.1 (List.getElem_mem (show i < (dw c.aH.length p.aN).length by omega))).1
  generalize (dw c.aH.length p.aN)[i]=a at *
  split
  ·obtain ⟨t,n,hf⟩:=kI hg hp k (h32.snoc ha32);have hlen:=(zW (S:=kM c p.aN) (fun b hb=>wR hg hb) k (pre++[a]) (h32.snoc ha32) t hf.mem).2;have hne:t ≠ []:=fun h=>by rw [h,List.length_append,List.length_singleton,List.length_nil] at hlen;omega
   rw [hf.eq];intro y hy
   generalize dI c p k pre i=o at *
   cases o with
   | none=>cases hy;exact hne
   | some wo =>
    have hy:(if n < wo.2 then some (t,n) else some wo)=some y:=hy;split at hy
    ·cases hy;exact hne
    ·cases hy;exact ih _ rfl
  ·exact ih
theorem K5 (c:aS) (hg:Good c) (p:dm) (hp:wM p):∀ (k:Nat) (one:Bool) (pre:List Nat),(pre.length:Int)+k=p.turns→l8 pre →
  Pu one 85 [.ag (aM c),.ag (cw p),.sl (((dw c.aH.length p.aN).map cV).map eL) false,.sl ((pre.map cV).map eL) false] (.tp [.sl (((fX c p k pre).1.map cV).map eL) false,af (fX c p k pre).2]):=by
 intro k;have hm5:=hg.aH;have ht4:=hp.turns
 induction k with
 | zero =>
  intro one pre hk h32;have hB:((pre.map cV).length:Int)=p.turns:=by rw [List.length_map];omega
  have hTL:L5 (pre.map cV):=⟨by simp only [maxLen];omega,fun l hl=>by
   obtain ⟨a,_,rfl⟩:=List.mem_map.1 hl;have:=jK a 5;unfold cV;simp only [maxLen]
   omega⟩
  have o1:=KA one c hg p hp (pre.map cV) false hTL hB;have o2:=CR one (w6 c p (pre.map cV) c.aH.length) false (by rw [rV];simp only [maxLen];omega) (by rw [rV];omega);rw [I6 hg p h32] at o2;show Pu one 85 _ (.tp [.sl ((pre.map cV).map eL) false,af (kH c p pre)]);have d1:decide ((((pre.map cV).map eL).length:Int)=p.turns)=true:=decide_eq_true (by rw [List.length_map];exact hB)
  generalize pre.map cV=B at *
  generalize kH c p pre=z at *
  refine ak.body (fn:=Tryz.f85) rfl rfl rfl rfl ?_;refine qq1 ?_;repeat' first|refine u1 ?_|((with_reducible refine qq3 ?_);refine ak.call o1 rfl rfl ?_)|((with_reducible refine qq3 ?_);refine ak.call o2 rfl rfl ?_)|refine u2 ?_|fail
  exact ⟨[_,_],⟨Fz.deep rfl,Fz.deep rfl,trivial⟩,rfl⟩
 | succ k ih =>
  intro one pre hk h32;have hla:=zU h32;have hBl:(pre.map cV).length=pre.length:=List.length_map _;have hlb:(pre.length:Int)≤3:=by omega
  have ebl:(((pre.map cV).map eL).length:Int)=pre.length:=by simp
  have d1:decide ((((pre.map cV).map eL).length:Int)=p.turns)=false:=decide_eq_false (by omega);have hall:(rW c p (k+1) pre)=dI c p k pre (dw c.aH.length p.aN).length:=by unfold dI;rw [List.take_length];rfl
  have hfx:fX c p (k+1) pre=(dI c p k pre (dw c.aH.length p.aN).length).getD ([],0):=by unfold fX;rw [hall]
  obtain ⟨tz,nz,hzz⟩:=kI hg hp (k+1) h32;have hzz:=hzz.eq;rw [hall] at hzz;rw [hfx,hzz];show Pu one 85 _ (.tp [.sl ((tz.map cV).map eL) false,af nz]);have hbd:∀ i,i≤(dw c.aH.length p.aN).length→Mi (dI c p k pre i):=fun i hi=>JW hg hp k pre h32 i hi
  generalize hb:cV (fA pre)=b at *
  have hb5:b.length≤5:=by rw [←hb];exact jK _ 5
  have hbe:pre=[]→b=[]:=fun h=>by rw [←hb,h];rfl
  have hat0:pre ≠ []→((pre.map cV).map eL)[((((pre.map cV).map eL).length:Int) - 1).toNat]?=some (eL b):=fun h=>by rw [ebl];have hl:=List.length_pos_iff.2 h;rw [show ((pre.length:Int) - 1).toNat=pre.length - 1 by omega,List.getElem?_map,List.getElem?_map,←hb];unfold fA;rw [List.getLastD_eq_getLast?,List.getLast?_eq_getElem?];rw [List.getElem?_eq_getElem (by omega)];rfl
  have hfs:=fun a (ha:a < 32)=>kI hg hp k (h32.snoc ha);have hFl:(dw c.aH.length p.aN).length≤32:=List.length_filter_le _ _;have eF:(((dw c.aH.length p.aN).map cV).map eL).length=(dw c.aH.length p.aN).length:=by simp
  have ih':=fun (on:Bool) (a:Nat) (ha:a < 32)=>ih on (pre++[a]) (by rw [List.length_append];simp only [List.length_singleton];omega) (h32.snoc ha);have hto:=fun (l:List Int) (hl:l.length≤5)=>Kr true c hg p b l false false (by simp only [maxLen];omega) (by simp only [maxLen];omega);have hmp:∀ a,(pre++[a]).map cV=pre.map cV++[cV a]:=fun a=>by rw [List.map_append];rfl
  generalize hB:pre.map cV=B at *
  refine ak.body (fn:=Tryz.f85) rfl rfl rfl rfl ?_;refine qq2 ?_;repeat' first|refine u1 ?_|refine u2 ?_|fail
  refine RM.cutAt (st':=⟨aL [(2,.sl (((dw c.aH.length p.aN).map cV).map eL) false),(3,.sl (B.map eL) false),(4,.pt (aM c) 0),(5,.pt (cw p) 0)],[],bp.none,false,0⟩) ?_ ?_
  ·refine qq1 ?_;repeat' first|refine u1 ?_|refine u2 ?_|fail
   exact .is (ah.to 0 rfl ⟨rfl,rfl,rfl,rfl,trivial⟩ (qq5 _) rfl rfl)
  refine qq2 ?_;repeat' first|refine u1 ?_|refine u2 ?_|fail
  refine RM.cutAt (st':=⟨aL [(2,.sl (((dw c.aH.length p.aN).map cV).map eL) false),(3,.sl (B.map eL) false),(4,.pt (aM c) 0),(5,.pt (cw p) 0),(10,.sl (ints b) false)],[],bp.none,false,0⟩) ?_ ?_
  ·by_cases hpe:pre=[]
   ·have d2:decide ((0:Int) < ((B.map eL).length:Int))=false:=decide_eq_false (by rw [ebl,hpe];simp);rw [hbe hpe];refine qq1 ?_;repeat' first|refine u1 ?_|refine u2 ?_|fail
    exact .is (ah.trans (ah.nW 1) (ah.trans (ah.JJ (l:=[(2,.sl (((dw c.aH.length p.aN).map cV).map eL) false),(3,.sl (B.map eL) false),(4,.pt (aM c) 0),(5,.pt (cw p) 0),(10,.aI 0 0 0 0 0)]) (hp:=[.cells (ay []) 1 0]) 1 rfl ⟨eP.refl _,eP.refl _,eP.refl _,eP.refl _,eP.nV,trivial⟩ (qq5 _) rfl (av _ _)) (ah.trans (ah.JP 0 (l:=[(2,.sl (((dw c.aH.length p.aN).map cV).map eL) false),(3,.sl (B.map eL) false),(4,.pt (aM c) 0),(5,.pt (cw p) 0),(10,.sl (ints []) false)]) (hp':=[.gone]) rfl (qq5 _) rfl ⟨.same rfl,.same rfl,.same rfl,.same rfl,ID rfl,trivial⟩ ⟨rfl,trivial⟩) (ah.to (l:=[(2,.sl (((dw c.aH.length p.aN).map cV).map eL) false),(3,.sl (B.map eL) false),(4,.pt (aM c) 0),(5,.pt (cw p) 0),(10,.sl (ints []) false)]) (hp:=[]) 0 rfl ⟨rfl,rfl,rfl,rfl,rfl,trivial⟩ (qq5 _) rfl rfl))))
   ·have hl:=List.length_pos_iff.2 hpe;have d2:decide ((0:Int) < ((B.map eL).length:Int))=true:=decide_eq_true (by omega);have hat0:=hat0 hpe;refine qq1 ?_;repeat' first|refine u1 ?_|((with_reducible refine qq4 ?_);refine ⟨eL b,⟨by omega,hat0⟩,rfl,?_⟩)|refine u2 ?_|fail
    exact .is (ah.to 0 rfl ⟨rfl,rfl,rfl,rfl,rfl,trivial⟩ (qq5 _) rfl rfl)
  refine qq1 ?_;repeat' first|refine u1 ?_|refine u2 ?_|fail
  refine aB.aP (ah.to (l:=[(2,.sl (((dw c.aH.length p.aN).map cV).map eL) false),(3,.sl (B.map eL) false),(4,.pt (aM c) 0),(5,.pt (cw p) 0),(10,.sl (ints b) false),(11,bA none),(12,af (bM none)),(13,af (0:Nat))]) (hp:=[]) 0 rfl ⟨rfl,rfl,rfl,rfl,rfl,rfl,rfl,rfl,trivial⟩ (qq5 _) rfl rfl) ?_;refine aB.loop (fun x:Nat × wS=>x.1≤(dw c.aH.length p.aN).length∧x.2=dI c p k pre x.1) (fun x=>⟨aL [(2,.sl (((dw c.aH.length p.aN).map cV).map eL) false),(3,.sl (B.map eL) false),(4,.pt (aM c) 0),(5,.pt (cw p) 0),(10,.sl (ints b) false),(11,bA x.2),(12,af (bM x.2)),(13,af (x.1:Nat))],[],bp.none,false,0⟩) (fun x=>(dw c.aH.length p.aN).length - x.1) ?_ (0,none) ⟨qq5 _,rfl⟩;rintro ⟨i,o⟩ ⟨hi,ho⟩;dsimp only at hi ho;show aB _ _ _ _ ⟨aL [(2,.sl (((dw c.aH.length p.aN).map cV).map eL) false),(3,.sl (B.map eL) false),(4,.pt (aM c) 0),(5,.pt (cw p) 0),(10,.sl (ints b) false),(11,bA o),(12,af (bM o)),(13,af (i:Nat))],[],bp.none,false,0⟩ _;by_cases hil:i < (dw c.aH.length p.aN).length
  ·have d2:decide ((i:Int) < ((((dw c.aH.length p.aN).map cV).map eL).length:Int))=true:=decide_eq_true (by omega);have hnx:=DP (c:=c) (p:=p) (k:=k) (pre:=pre) hil;have hat:(((dw c.aH.length p.aN).map cV).map eL)[((i:Nat):Int).toNat]?=some (eL (cV (dw c.aH.length p.aN)[i])):=by rw [dB (by rw [List.length_map];exact hil),List.getElem_map]
   have ha32:=zR _ (List.mem_filter.1 (List.getElem_mem hil)).1;have hoo:=hbd i hi;rw [←ho] at hnx hoo;rw [hb] at hnx
   generalize (dw c.aH.length p.aN)[i]=a at *
   have hto:=hto (cV a) (jK a 5);obtain ⟨ta,na,hfa⟩:=hfs a ha32;have hfe:=hfa.eq;have oc:=ih' true a ha32;rw [hmp] at oc;unfold fX at oc;rw [hfe] at oc hnx;change Pu true 85 _ (.tp [.sl ((ta.map cV).map eL) false,af na]) at oc
   generalize cV a=l at *
   by_cases ht:BZ c p.aN b l=0
   ·rw [ht] at hto;rw [if_pos ht] at hnx;have d3:(!decide ((0:Int)=0))=false:=by decide
    have ri:=ML B l;have hnj:(bA o).rI 0=true:=by cases o <;> rfl
    have hq1:(([]:List AV)++(B.map eL).flatten).length=(0+(B.map eL).length) * 1:=by rw [List.nil_append,l7,List.length_map,List.length_map];omega
    have hq2:(0+(B.map eL).length+([eL l]:List (List AV)).length) * 24≤140737488355328∧0+(B.map eL).length+([eL l]:List (List AV)).length≤9223372036854775807:=by simp only [List.length_singleton];omega
    have hone:(B.map eL).flatten.all AV.one=true:=by rw [l7];exact IM B
    refine qq2 ?_;repeat' first|refine u1 ?_|refine u2 ?_|fail
    refine aB.seq ?_;refine aB.block ?_;refine qq2 ?_;repeat' first|refine u1 ?_|(refine ⟨_,_,.inl ⟨rfl,rfl⟩,hto,?_⟩)|((with_reducible refine qq4 ?_);refine ⟨eL l,⟨by omega,hat⟩,rfl,?_⟩)|refine u2 ?_|fail
    refine aB.seq ?_;refine aB.LN (mu:=fun t=>Nat.beq t 55) (n:=18) (A:=[_,_,_,_,_,_,_,_,_,_,_,_]) (B:=[_,_,_,_,_]) (by kernel_rfl) rfl rfl rfl rfl ?_;repeat' first|refine RM.Nn ?_|refine RM.Nm ?_|((with_reducible show RM.wpOp _ _ (.call _) _ _ _);refine RM.wD (cs:=[]) (n:=0) (c:=0) (els:=B.map eL) rfl rfl rfl rfl rfl (fun el hel=>by obtain ⟨x,_,rfl⟩:=List.mem_map.1 hel;rfl) hone rfl rfl (.inl rfl) (by exact ⟨by show (0+(B.map eL).length) * 24≤_;omega,by omega⟩) (fun v1 c1 hc1=>?_))|((with_reducible show RM.wpOp _ _ (.call _) _ _ _);refine RM.wD (cs:=[]++(B.map eL).flatten) (n:=0+(B.map eL).length) (els:=[eL l]) rfl rfl rfl rfl rfl (fun el hel=>by rw [List.mem_singleton.1 hel];rfl) rfl rfl hq1 hc1 hq2 (fun v9 c9 hc9=>?_))|refine u1 ?_|((with_reducible refine qq4 ?_);refine ⟨eL l,⟨by omega,hat⟩,rfl,?_⟩)|refine u2 ?_|fail
    refine ⟨_,ah.giveUp 0 (l:=[(2,.sl (((dw c.aH.length p.aN).map cV).map eL) false),(3,.sl (B.map eL) false),(4,.pt (aM c) 0),(5,.pt (cw p) 0),(10,.sl (ints b) false),(11,bA o),(12,af (bM o)),(13,af (i:Nat)),(52,.ag (aM c)),(53,.ag (cw p)),(54,.sl (((dw c.aH.length p.aN).map cV).map eL) false),(63,.sl ((B++[l]).map eL) false)]) (hp:=[.gone]) rfl (qq5 _) ri.1 ⟨.same rfl,.same rfl,.same rfl,.same rfl,.same rfl,.same hnj,.same rfl,.same rfl,.same rfl,.same rfl,.same rfl,.row 1 ri.2.1 ri.2.2.1 ri.2.2.2.1 ri.2.2.2.2 (fun h=>Bool.noConfusion h),trivial⟩ rfl rfl,_,_,_,rfl,rfl,rfl,oc,?_⟩;repeat' first|refine u1 ?_|refine u2 ?_|fail
    cases o with
    | none =>
     have hnx2:dI c p k pre (i+1)=some (ta,na):=hnx;dsimp only [bA,bM];refine qq1 ?_;repeat' first|refine u1 ?_|refine u2 ?_|fail
     refine qq1 ?_;repeat' first|refine u1 ?_|refine u2 ?_|fail
     exact ⟨(i+1,some (ta,na)),⟨hil,hnx2.symm⟩,(by dsimp only;omega),ah.to (l:=[(2,.sl (((dw c.aH.length p.aN).map cV).map eL) false),(3,.sl (B.map eL) false),(4,.pt (aM c) 0),(5,.pt (cw p) 0),(10,.sl (ints b) false),(11,bA (some (ta,na))),(12,af (bM (some (ta,na)))),(13,af (i+1:Nat))]) (hp:=[]) 0 rfl ⟨rfl,rfl,rfl,rfl,rfl,rfl,rfl,aD (by simp),trivial⟩ (qq5 _) rfl rfl⟩
    | some w =>
     obtain ⟨tb,nb⟩:=w;have hne:(tb.map cV).map eL ≠ []:=fun h=>hoo _ rfl (List.map_eq_nil_iff.1 (List.map_eq_nil_iff.1 h));dsimp only [bA,bM];by_cases hlt:na < nb
     ·have d4:decide (na < nb)=true:=decide_eq_true hlt;have hnx2:dI c p k pre (i+1)=some (ta,na):=by rw [hnx];exact if_pos hlt
      refine qq1 ?_;repeat' first|refine u1 ?_|(refine RM.MS (els:=(tb.map cV).map eL) rfl hne rfl rfl ?_)|refine u2 ?_|fail
      refine qq1 ?_;repeat' first|refine u1 ?_|refine u2 ?_|fail
      exact ⟨(i+1,some (ta,na)),⟨hil,hnx2.symm⟩,(by dsimp only;omega),ah.to (l:=[(2,.sl (((dw c.aH.length p.aN).map cV).map eL) false),(3,.sl (B.map eL) false),(4,.pt (aM c) 0),(5,.pt (cw p) 0),(10,.sl (ints b) false),(11,bA (some (ta,na))),(12,af (bM (some (ta,na)))),(13,af (i+1:Nat))]) (hp:=[]) 0 rfl ⟨rfl,rfl,rfl,rfl,rfl,rfl,rfl,aD (by simp),trivial⟩ (qq5 _) rfl rfl⟩
     ·have d4:decide (na < nb)=false:=decide_eq_false hlt;have hnx2:dI c p k pre (i+1)=some (tb,nb):=by rw [hnx];exact if_neg hlt
      refine qq1 ?_;repeat' first|refine u1 ?_|(refine RM.MS (els:=(tb.map cV).map eL) rfl hne rfl rfl ?_)|refine u2 ?_|fail
      refine qq1 ?_;repeat' first|refine u1 ?_|refine u2 ?_|fail
      exact ⟨(i+1,some (tb,nb)),⟨hil,hnx2.symm⟩,(by dsimp only;omega),ah.to (l:=[(2,.sl (((dw c.aH.length p.aN).map cV).map eL) false),(3,.sl (B.map eL) false),(4,.pt (aM c) 0),(5,.pt (cw p) 0),(10,.sl (ints b) false),(11,bA (some (tb,nb))),(12,af (bM (some (tb,nb)))),(13,af (i+1:Nat))]) (hp:=[]) 0 rfl ⟨rfl,rfl,rfl,rfl,rfl,rfl,rfl,aD (by simp),trivial⟩ (qq5 _) rfl rfl⟩
   ·rw [if_neg ht] at hnx;have d3:(!decide (BZ c p.aN b l=0))=true:=by rw [decide_eq_false ht];rfl
    generalize BZ c p.aN b l=e at *
    refine qq1 ?_;repeat' first|refine u1 ?_|(refine ⟨_,_,.inl ⟨rfl,rfl⟩,hto,?_⟩)|((with_reducible refine qq4 ?_);refine ⟨eL l,⟨by omega,hat⟩,rfl,?_⟩)|refine u2 ?_|fail
    exact ⟨(i+1,o),⟨hil,hnx.symm⟩,(by dsimp only;omega),ah.to (l:=[(2,.sl (((dw c.aH.length p.aN).map cV).map eL) false),(3,.sl (B.map eL) false),(4,.pt (aM c) 0),(5,.pt (cw p) 0),(10,.sl (ints b) false),(11,bA o),(12,af (bM o)),(13,af (i+1:Nat))]) (hp:=[]) 0 rfl ⟨rfl,rfl,rfl,rfl,rfl,rfl,rfl,aD (by simp),trivial⟩ (qq5 _) (by cases o <;> rfl) rfl⟩
  ·have d2:decide ((i:Int) < ((((dw c.aH.length p.aN).map cV).map eL).length:Int))=false:=decide_eq_false (by omega);have hin:i=(dw c.aH.length p.aN).length:=by omega
   subst hin;rw [hzz] at ho;subst ho;refine qq1 ?_;repeat' first|refine u1 ?_|refine u2 ?_|fail
   exact ⟨[_,_],⟨Fz.deep rfl,Fz.deep rfl,trivial⟩,rfl⟩
end Go.Proofs.YtlpmfgmldmdggaaGreat
open Go Go.RM
namespace Go.Proofs.YtlpmfgmldmdggaaGreat
set_option maxRecDepth 100000
set_option maxHeartbeats 4000000
theorem C4 (one:Bool) (c:aS) (h:c.Ok) (p:dm):Pu one 34 [.ag (aM c),.ag (cw p)] (EM c p):=by
 have o0:=rQ one c h p;unfold EM;by_cases he:sg c p=0
 ·obtain ⟨hg,hp⟩:=yz he;rw [he] at o0;rw [if_pos he];have em:((c.aH.map bq).length:Int)=c.aH.length:=by simp
  have o1:=Jz true (n:=c.aH.length) hg.aH.2 p.aN.toNat 0 (by have:=hp.aN;omega) (qq5 _);rw [←I3 hg hp,show ((p.aN.toNat:Nat):Int)=p.aN by have:=hp.aN;omega,←em] at o1;have o2:=K5 c hg p hp p.turns.toNat true [] (by have:=hp.turns;simp only [List.length_nil];omega) (fun x hx=>by cases hx);have o2:=EI (a:=[.ag (aM c),.ag (cw p),.sl (((dw c.aH.length p.aN).map cV).map eL) false]) (c:=[]) o2;change Pu true 85 [.ag (aM c),.ag (cw p),.sl (((dw c.aH.length p.aN).map cV).map eL) false,.fl (.slice none 0 0)] (.tp [.sl ((C2 c p).map eL) false,af (uE c p).2]) at o2
  generalize ((dw c.aH.length p.aN).map cV).map eL=L at *
  generalize C2 c p=T at *
  generalize (uE c p).2=z at *
  have d0:(!decide ((0:Int)=0))=false:=by decide
  refine ak.body (fn:=Tryz.f34) rfl rfl rfl rfl ?_;refine qq1 ?_;repeat' first|refine u1 ?_|((with_reducible refine qq3 ?_);refine ak.call o0 rfl rfl ?_)|(refine ⟨_,_,.inl ⟨rfl,rfl⟩,o1,?_⟩)|(refine ⟨_,_,.inl ⟨rfl,rfl⟩,o2,?_⟩)|refine u2 ?_|fail
  exact ⟨[_,_,_],⟨Fz.deep rfl,Fz.deep rfl,Fz.deep rfl,trivial⟩,rfl⟩
 ·have d0:(!decide (sg c p=0))=true:=by rw [decide_eq_false he];rfl
  rw [if_neg he]
  generalize sg c p=e at *
  refine ak.body (fn:=Tryz.f34) rfl rfl rfl rfl ?_;refine qq1 ?_;repeat' first|refine u1 ?_|((with_reducible refine qq3 ?_);refine ak.call o0 rfl rfl ?_)|refine u2 ?_|fail
  exact ⟨[_,_,_],⟨Fz.nil,Fz.deep rfl,Fz.deep rfl,trivial⟩,rfl⟩
theorem ER (one:Bool) (T:List (List Int)) (fa fb:Bool) (hT:T.length≤1000) (hl:∀ l ∈ T,l.length≤maxLen):Pu one 35 [.sl (T.map eL) fa,.sl (T.map eL) fb] (BB true):=by
 have el:((T.map eL).length:Int)=T.length:=by simp
 have d0:(!decide (((T.map eL).length:Int)=((T.map eL).length:Int)))=false:=by rw [decide_eq_true rfl];rfl
 refine ak.body (fn:=Tryz.f35) rfl rfl rfl rfl ?_;refine qq1 ?_;repeat' first|refine u1 ?_|refine u2 ?_|fail
 refine aB.aP (ah.to (l:=[(0,.sl (T.map eL) fa),(1,.sl (T.map eL) fb),(5,af (0:Nat))]) (hp:=[]) 0 rfl ⟨rfl,rfl,rfl,trivial⟩ (qq5 _) rfl rfl) ?_;refine aB.loop (fun k:Nat=>k≤T.length) (fun k=>⟨aL [(0,.sl (T.map eL) fa),(1,.sl (T.map eL) fb),(5,af (k:Nat))],[],bp.none,false,0⟩) (fun k=>T.length - k) ?_ 0 (qq5 _);intro k hk;by_cases hlt:k < T.length
 ·have dl:decide ((k:Int) < ((T.map eL).length:Int))=true:=decide_eq_true (by omega);have hat:(T.map eL)[((k:Nat):Int).toNat]?=some (eL T[k]):=dB hlt;have o1:=EA true T[k] false false (hl _ (List.getElem_mem hlt))
  generalize T[k]=l at *
  refine qq1 ?_;repeat' first|refine u1 ?_|((with_reducible refine qq4 ?_);refine ⟨eL l,⟨by omega,hat⟩,rfl,?_⟩)|(refine ⟨_,_,.inl ⟨rfl,rfl⟩,o1,?_⟩)|refine u2 ?_|fail
  exact ⟨k+1,hlt,(by dsimp only;omega),ah.to (l:=[(0,.sl (T.map eL) fa),(1,.sl (T.map eL) fb),(5,af (k+1:Nat))]) 0 rfl ⟨rfl,rfl,aD (by simp),trivial⟩ (qq5 _) rfl rfl⟩
 ·have dl:decide ((k:Int) < ((T.map eL).length:Int))=false:=decide_eq_false (by omega);refine qq1 ?_;repeat' first|refine u1 ?_|refine u2 ?_|fail
  exact ⟨[_],⟨Fz.deep rfl,trivial⟩,rfl⟩
