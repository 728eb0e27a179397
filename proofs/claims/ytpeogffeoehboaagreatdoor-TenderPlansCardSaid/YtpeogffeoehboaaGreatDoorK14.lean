/-
  Contracts of the program's functions and of the document's. Lemmas alone; their conditions stand in them.
-/
import Derived.Test.YtpeogffeoehboaaGreatDoorK13
open Go Go.RM
namespace Go.Proofs.YtpeogffeoehboaaGreatDoor
set_option maxRecDepth 100000
set_option maxHeartbeats 4000000
def TX:Option (List Order)→AV
 | none=>.fl (.slice none 0 0)
 | some p=>.bg 4 0 0 p.length (p.length+1)
def TY (l:List AB):Option (List Order)→List AB
 | none=>l
 | some p=>l++[fL p 0]
abbrev DX (s:ai) (days:List Int) (df:Bool) (E:List oy) (ck:Nat):List AB:=[.map (aK E) ck,.gone,yI,BD s days df]
theorem sU (s:ai) (days:List Int) (df:Bool) (E:List oy) (ck:Nat):(DX s days df E ck).all (AB.gF 4)=true:=by simp only [List.all_cons,List.all_nil,pH,Bool.and_true];rfl
theorem NF (one:Bool) {s:ai} (hg:Good s) {days:List Int} {df:Bool} {D:List Int} {N:Nat} (hN:D.length=N) (h1D:1≤D.length) (h6D:D.length≤6) (hDp:D.Pairwise (· < ·)) (hDr:∀ x ∈ D,0≤x∧x < s.days) {E:List oy} {ck:Nat} {cs:List AV} (hcs:cs=Rr D) {aA c:Nat} {fr mz:Int} (hz:mz=0) {aE:bA} {Q:AV→List AB→bA→Prop}
  (hQ:∀ (E':List oy) (ck':Nat) (P':List Order),Q (Ta N (bl s D [])) (Tb (GK E' ck' .gone yI (BD s days df) P' aA) (bl s D [])) aE) :
  az TT TB one (.fn 68 [] (Te s days df)) [.bg 4 aA 0 N c,aC fr,aC mz] [.map (aK E) ck,.gone,yI,BD s days df,.cells cs 2 aA] aE Q:=by
 subst hN hz;exact ND one hg h1D h6D hDp hDr hcs hQ
theorem jH {ds:List Int}:∀ el ∈ ds.map bZ,el.length=2:=fun el hel=>by obtain ⟨d,_,rfl⟩:=List.mem_map.1 hel;rfl
theorem pI (j:Nat):∀ (E:List oy) (ck:Nat),AB.gS j (.map (aK E) ck)=true
 | [],_=>rfl
 | _ :: E,ck=>pI j E ck
theorem Q8 (s:ai) (days:List Int) (df:Bool) (E:List oy) (ck:Nat) (P:List Order) (aA:Nat) (p:List Order):nB 4 5 0 (GK E ck .gone yI (BD s days df) P aA++[fL p 0])=true:=by have h1:AB.gS 4 (fL p 0)=true:=nK 4 p;have h2:AB.gS 5 (fL p 0)=true:=nK 5 p;show ((false || (AB.gS 4 (.map (aK E) ck) && AB.gS 5 (.map (aK E) ck))) && (true && (true && (true && ((true || (AB.gS 4 (fL P aA) && AB.gS 5 (fL P aA))) && ((false || (AB.gS 4 (fL p 0) && AB.gS 5 (fL p 0))) && true))))))=true;rw [pI,pI,h1,h2];rfl
theorem Q9 (s:ai) (days:List Int) (df:Bool) (E:List oy) (ck:Nat) (p:List Order):(DX s days df E ck++[fL p 0]).all (AB.gF 5)=true:=by have h:AB.gF 5 (fL p 0)=true:=sM 5 p;show (AB.gF 5 (.map (aK E) ck) && (true && (true && (true && (AB.gF 5 (fL p 0) && true)))))=true;rw [pH,h];rfl
theorem ql {s:ai} {days:List Int}:∀ {m fr:Nat} {ds:List Int} {p:List Order},cS s days m fr ds=some p→p.length=ds.length+m
 | 0,fr,ds,p,h=>by obtain ⟨q,rfl,h2,_⟩:=kX h;rw [←h2];simp
 | m+1,fr,ds,p,h=>by
  rw [cS,List.findSome?_eq_some_iff] at h;obtain ⟨l1,i,l2,_,h,_⟩:=h;split at h
  ·cases h
  ·cases hd:days[i]? with
   | none=>rw [hd] at h;cases h
   | some d =>rw [hd] at h;have:=ql h;rw [List.length_append,List.length_singleton] at this;omega
theorem NG (one:Bool) {s:ai} (hg:Good s) {days:List Int} {df:Bool} (h6:days.length≤6) (hdp:days.Pairwise (· < ·)) (hdr:∀ x ∈ days,0≤x∧x < s.days) :
  ∀ (m k:Nat) (fi mm:Int) (_:fi=(k:Nat)) (_:mm=((m+1:Nat):Int)) (ds:List Int) (full:Bool) (_:Me s days ds k) (_:k≤6) (_:m≤6) (E:List oy) (ck:Nat) (aE:bA) (Q:AV→List AB→bA→Prop)
   (_:∀ (E':List oy) (ck':Nat),Q (TX (cS s days (m+1) k ds)) (TY (DX s days df E' ck') (cS s days (m+1) k ds)) aE),
   az TT TB one (.fn 68 [] (Te s days df)) [.sl (ds.map bZ) full,aC fi,aC mm] (DX s days df E ck) aE Q:=by
 intro m
 induction m with
 | zero =>
  intro k fi mm hfi hmm ds full hds hk6 hm6 E ck aE Q hQ;subst hfi hmm;have hdl:=hds.len;have em:((ints days).length:Int)=days.length:=by simp
  have d0:decide (((0+1:Nat):Int)=0)=false:=by decide
  have hfv:cS s days (0+1) k ds=(List.range (days.length - 0)).findSome? fun i=>if i < k then none else match days[i]? with
   | some d=>bl s (ds++[d]) []
   | none=>none:=rfl
  have hat0:∀ (j:Nat) (h:j < days.length),k≤j→(if j < k then none else match days[j]? with
   | some d=>bl s (ds++[d]) []
   | none=>none)=bl s (ds++[days[j]]) []:=fun j h hj=>by rw [if_neg (by omega),List.getElem?_eq_getElem h]
  refine az.body (fn:=Tryz.f68) rfl rfl rfl ?_;refine RM.bx (mu:=fun t=>Nat.beq t 44) ?_;repeat' first|refine u1 ?_|refine u2 ?_|fail
  refine RM.bx (mu:=fun t=>Nat.beq t 44) ?_;repeat' first|refine u1 ?_|refine u2 ?_|fail
  refine av.seq ?_;refine RM.bx (mu:=fun t=>Nat.beq t 44) ?_;repeat' first|refine u1 ?_|refine u2 ?_|fail
  refine av.block ?_;refine av.aJ (ah.to (l:=[(0,.sl (ds.map bZ) full),(2,aC ((0+1:Nat):Int)),(3,.ptr 2 0 0),(4,.pt (ay s) 0),(5,.pt [.sl (ud (aI s)) false] 0),(6,.pt [.sl (ints days) df] 0),(7,.ptr 3 0 0),(12,aC (k:Nat))]) (hp:=DX s days df E ck) 4 rfl ⟨rfl,rfl,rfl,rfl,rfl,rfl,rfl,rfl,trivial⟩ (qq6 _) rfl (sU _ _ _ _ _)) ?_;refine av.loop (fun x:Nat × List oy × Nat=>(k≤x.1∧x.1≤6)∧∀ (j:Nat) (h:j < days.length),k≤j→j < x.1→bl s (ds++[days[j]]) []=none) (fun x=>⟨aZ [(0,.sl (ds.map bZ) full),(2,aC ((0+1:Nat):Int)),(3,.ptr 2 0 0),(4,.pt (ay s) 0),(5,.pt [.sl (ud (aI s)) false] 0),(6,.pt [.sl (ints days) df] 0),(7,.ptr 3 0 0),(12,aC (x.1:Nat))],DX s days df x.2.1 x.2.2,aE,false,4⟩) (fun x=>6 - x.1) ?_ (k,E,ck) ⟨⟨qq6 _,hk6⟩,fun j h h1 h2=>by dsimp only at h2;omega⟩;rintro ⟨i,E1,ck1⟩ ⟨⟨hki,hi6⟩,hprev⟩;dsimp only at hki hi6 hprev;show av _ _ _ _ ⟨aZ [(0,.sl (ds.map bZ) full),(2,aC ((0+1:Nat):Int)),(3,.ptr 2 0 0),(4,.pt (ay s) 0),(5,.pt [.sl (ud (aI s)) false] 0),(6,.pt [.sl (ints days) df] 0),(7,.ptr 3 0 0),(12,aC (i:Nat))],DX s days df E1 ck1,aE,false,4⟩ _;by_cases hlt:i < days.length
  ·have d1:decide ((i:Int)≤((ints days).length:Int) - ((0+1:Nat):Int))=true:=decide_eq_true (by omega);have hat:(ints days)[((i:Nat):Int).toNat]?=some (eI days[i]):=bp hlt;have hsn:=hds.snoc hdp hdr hki hlt;have hDl:(ds++[days[i]]).length=(ds.map bZ).length+([bZ days[i]]:List (List AV)).length:=by simp
   have hD6:(ds++[days[i]]).length≤6:=by have:=hsn.len;omega
   have hcs:=Md ds days[i]
   have hnx:bl s (ds++[days[i]]) []=none→∀ (j:Nat) (h:j < days.length),k≤j→j < i+1→bl s (ds++[days[j]]) []=none:=fun h j hj h1 h2=>by
    by_cases e:j=i
    ·subst e;exact h
    ·exact hprev j hj h1 (by omega)
   have hfs:∀ p,bl s (ds++[days[i]]) []=some p→cS s days (0+1) k ds=some p:=fun p h=>by
    rw [hfv];refine nR (i:=i) (by omega) (by rw [hat0 i hlt hki];exact h) fun j hj=>?_;by_cases hkj:k≤j
    ·rw [hat0 j (by omega) hkj];exact hprev j (by omega) hkj hj
    ·rw [if_pos (by omega)]
   have hbd:((ds.map bZ).length+([bZ days[i]]:List (List AV)).length)≤7:=by rw [←hDl];omega
   have hplen:∀ p,bl s (ds++[days[i]]) []=some p→p.length=(ds.map bZ).length+([bZ days[i]]:List (List AV)).length:=fun p h=>by obtain ⟨q,rfl,h2,_⟩:=kX h;rw [←hDl,←h2];simp
   have hf0:=fun (c:Nat) (fr:Int) (Q:AV→List AB→bA→Prop) (hQ:∀ (E':List oy) (ck':Nat) (P':List Order),Q (Ta ((ds.map bZ).length+([bZ days[i]]:List (List AV)).length) (bl s (ds++[days[i]]) [])) (Tb (GK E' ck' .gone yI (BD s days df) P' 0) (bl s (ds++[days[i]]) [])) aE)=>NF one hg (days:=days) (df:=df) (D:=ds++[days[i]]) (N:=(ds.map bZ).length+([bZ days[i]]:List (List AV)).length) hDl (by rw [List.length_append,List.length_singleton];omega) hD6 hsn.HA hsn.day (E:=E1) (ck:=ck1) (cs:=(ds.map bZ).flatten++[bZ days[i]].flatten) hcs (aA:=0) (c:=c) (fr:=fr) (mz:=((0+1:Nat):Int) - 1) (by decide) (aE:=aE) (Q:=Q) hQ
   generalize days[i]=d at *
   cases hl:bl s (ds++[d]) [] with
   | none =>
    rw [hl] at hf0;have hno:=hnx hl;refine RM.bx (mu:=fun t=>Nat.beq t 44) ?_;repeat' first|refine u1 ?_|refine u2 ?_|fail
    refine av.seq ?_;refine av.block ?_;refine av.seq ?_;refine av.GF (c:=18) (l1:=[_,_,_,_,_,_,_,_,_,_,_,_,_,_,_,_,_,_]) (l2:=[_,_]) (mu:=fun t=>Nat.beq t 44) (by kernel_rfl) rfl rfl ?_;repeat' first|(refine RM.S8 rfl rfl rfl rfl (by decide) jH ?_)|refine RM.S7 ?_|((with_reducible show RM.wpOp _ _ (.call _) _ _ _);refine SW (els0:=ds.map bZ) (els:=[bZ d]) rfl rfl rfl rfl rfl jH (fun el hel=>by rw [List.mem_singleton.1 hel];rfl) rfl (by simp) ⟨by show ((ds.map bZ).length+1) * 32≤_;omega,by omega⟩ ?_)|(refine hf0 _ _ _ (fun E2 ck2 P3=>?_))|refine u1 ?_|((with_reducible refine qq4 ?_);refine ⟨eI d,⟨by omega,hat⟩,rfl,?_⟩)|refine u2 ?_|fail
    refine qq1 ?_;repeat' first|refine u1 ?_|refine u2 ?_|fail
    refine qq1 ?_;repeat' first|refine u1 ?_|refine u2 ?_|fail
    exact ⟨(i+1,E2,ck2),⟨⟨by dsimp only;omega,by dsimp only;omega⟩,hno⟩,(by dsimp only;omega),ah.to 4 rfl ⟨rfl,rfl,rfl,rfl,rfl,rfl,rfl,bq (by simp),trivial⟩ (qq6 _) rfl (sU _ _ _ _ _)⟩
   | some p =>
    rw [hl] at hf0;have hsome:=hfs p hl;rw [hsome] at hQ;have hpl:=hplen p hl;have hN0:(ds.map bZ).length+([bZ d]:List (List AV)).length ≠ 0:=by simp
    refine RM.bx (mu:=fun t=>Nat.beq t 44) ?_;repeat' first|refine u1 ?_|refine u2 ?_|fail
    refine av.seq ?_;refine av.block ?_;refine av.seq ?_;refine av.GF (c:=18) (l1:=[_,_,_,_,_,_,_,_,_,_,_,_,_,_,_,_,_,_]) (l2:=[_,_]) (mu:=fun t=>Nat.beq t 44) (by kernel_rfl) rfl rfl ?_;repeat' first|(refine RM.S8 rfl rfl rfl rfl (by decide) jH ?_)|refine RM.S7 ?_|((with_reducible show RM.wpOp _ _ (.call _) _ _ _);refine SW (els0:=ds.map bZ) (els:=[bZ d]) rfl rfl rfl rfl rfl jH (fun el hel=>by rw [List.mem_singleton.1 hel];rfl) rfl (by simp) ⟨by show ((ds.map bZ).length+1) * 32≤_;omega,by omega⟩ ?_)|(refine hf0 _ _ _ (fun E2 ck2 P3=>?_))|refine u1 ?_|((with_reducible refine qq4 ?_);refine ⟨eI d,⟨by omega,hat⟩,rfl,?_⟩)|refine u2 ?_|fail
    refine av.seq ?_;refine qq1 ?_;repeat' first|(refine RM.SL rfl hN0 (by kernel_rfl) rfl ?_)|refine u1 ?_|refine u2 ?_|fail
    have hQ:=hQ E2 ck2;unfold TX TY at hQ;dsimp only at hQ;rw [hpl] at hQ;refine av.cond rfl (fun _=>?_) (fun h=>by cases h);refine RM.bx (mu:=fun t=>Nat.beq t 44) ?_;repeat' first|refine u1 ?_|refine u2 ?_|fail
    refine av.aJ (ah.trans (ah.ES 4 5 (l:=[(11,.bg 4 0 0 ((ds.map bZ).length+([bZ d]:List (List AV)).length) ((ds.map bZ).length+([bZ d]:List (List AV)).length+1))]) (hp:=DX s days df E2 ck2++[fL p 0,.gone]) (by decide) rfl rfl (qq6 _) (Nat.le_of_ble_eq_true rfl) ⟨.bg,trivial⟩ (Q8 _ _ _ _ _ _ _ _) rfl)
     (ah.to (l:=[(11,.bg 4 0 0 ((ds.map bZ).length+([bZ d]:List (List AV)).length) ((ds.map bZ).length+([bZ d]:List (List AV)).length+1))]) (hp:=DX s days df E2 ck2++[fL p 0]) 5 rfl ⟨rfl,trivial⟩ (Nat.le_of_ble_eq_true rfl) rfl (Q9 _ _ _ _ _ _))) ?_
    refine qq1 ?_;repeat' first|refine u1 ?_|refine u2 ?_|fail
    exact hQ
  ·have d1:decide ((i:Int)≤((ints days).length:Int) - ((0+1:Nat):Int))=false:=decide_eq_false (by omega)
   have hnone:cS s days (0+1) k ds=none:=by
    rw [hfv];refine rz fun j hj=>?_;by_cases hkj:k≤j
    ·rw [hat0 j (by omega) hkj];exact hprev j (by omega) hkj (by omega)
    ·rw [if_pos (by omega)]
   have hQ:=hQ E1 ck1;rw [hnone] at hQ;refine qq1 ?_;repeat' first|refine u1 ?_|refine u2 ?_|fail
   refine qq1 ?_;repeat' first|refine u1 ?_|refine u2 ?_|fail
   exact hQ
 | succ m ih =>
  intro k fi mm hfi hmm ds full hds hk6 hm6 E ck aE Q hQ;subst hfi hmm;have hdl:=hds.len;have em:((ints days).length:Int)=days.length:=by simp
  have d0:decide (((m+1+1:Nat):Int)=0)=false:=decide_eq_false (by omega)
  have hfv:cS s days (m+1+1) k ds=(List.range (days.length - (m+1))).findSome? fun i=>if i < k then none else match days[i]? with
   | some d=>cS s days (m+1) (i+1) (ds++[d])
   | none=>none:=rfl
  have hat0:∀ (j:Nat) (h:j < days.length),k≤j→(if j < k then none else match days[j]? with
   | some d=>cS s days (m+1) (j+1) (ds++[d])
   | none=>none)=cS s days (m+1) (j+1) (ds++[days[j]]):=fun j h hj=>by rw [if_neg (by omega),List.getElem?_eq_getElem h]
  refine az.body (fn:=Tryz.f68) rfl rfl rfl ?_;refine qq2 ?_;repeat' first|refine u1 ?_|refine u2 ?_|fail
  refine qq2 ?_;repeat' first|refine u1 ?_|refine u2 ?_|fail
  refine av.seq ?_;refine qq2 ?_;repeat' first|refine u1 ?_|refine u2 ?_|fail
  refine av.block ?_;refine av.aJ (ah.to (l:=[(0,.sl (ds.map bZ) full),(2,aC ((m+1+1:Nat):Int)),(3,.ptr 2 0 0),(4,.pt (ay s) 0),(5,.pt [.sl (ud (aI s)) false] 0),(6,.pt [.sl (ints days) df] 0),(7,.ptr 3 0 0),(12,aC (k:Nat))]) (hp:=DX s days df E ck) 4 rfl ⟨rfl,rfl,rfl,rfl,rfl,rfl,rfl,rfl,trivial⟩ (qq6 _) rfl (sU _ _ _ _ _)) ?_;refine av.loop (fun x:Nat × List oy × Nat=>(k≤x.1∧x.1≤6)∧∀ (j:Nat) (h:j < days.length),k≤j→j < x.1→cS s days (m+1) (j+1) (ds++[days[j]])=none) (fun x=>⟨aZ [(0,.sl (ds.map bZ) full),(2,aC ((m+1+1:Nat):Int)),(3,.ptr 2 0 0),(4,.pt (ay s) 0),(5,.pt [.sl (ud (aI s)) false] 0),(6,.pt [.sl (ints days) df] 0),(7,.ptr 3 0 0),(12,aC (x.1:Nat))],DX s days df x.2.1 x.2.2,aE,false,4⟩) (fun x=>6 - x.1) ?_ (k,E,ck) ⟨⟨qq6 _,hk6⟩,fun j h h1 h2=>by dsimp only at h2;omega⟩;rintro ⟨i,E1,ck1⟩ ⟨⟨hki,hi6⟩,hprev⟩;dsimp only at hki hi6 hprev;show av _ _ _ _ ⟨aZ [(0,.sl (ds.map bZ) full),(2,aC ((m+1+1:Nat):Int)),(3,.ptr 2 0 0),(4,.pt (ay s) 0),(5,.pt [.sl (ud (aI s)) false] 0),(6,.pt [.sl (ints days) df] 0),(7,.ptr 3 0 0),(12,aC (i:Nat))],DX s days df E1 ck1,aE,false,4⟩ _;by_cases hlt2:i+(m+2)≤days.length
  ·have hlt:i < days.length:=by omega
   have d1:decide ((i:Int)≤((ints days).length:Int) - ((m+1+1:Nat):Int))=true:=decide_eq_true (by omega);have hat:(ints days)[((i:Nat):Int).toNat]?=some (eI days[i]):=bp hlt;have hsn:=hds.snoc hdp hdr hki hlt
   have hnx:cS s days (m+1) (i+1) (ds++[days[i]])=none→∀ (j:Nat) (h:j < days.length),k≤j→j < i+1→cS s days (m+1) (j+1) (ds++[days[j]])=none:=fun h j hj h1 h2=>by
    by_cases e:j=i
    ·subst e;exact h
    ·exact hprev j hj h1 (by omega)
   have hfs:∀ p,cS s days (m+1) (i+1) (ds++[days[i]])=some p→cS s days (m+1+1) k ds=some p:=fun p h=>by
    rw [hfv];refine nR (i:=i) (by omega) (by rw [hat0 i hlt hki];exact h) fun j hj=>?_;by_cases hkj:k≤j
    ·rw [hat0 j (by omega) hkj];exact hprev j (by omega) hkj hj
    ·rw [if_pos (by omega)]
   have hbd:(ds.map bZ).length+([bZ days[i]]:List (List AV)).length≤7:=by rw [List.length_map];show ds.length+1≤7;omega
   have ih':=ih (i+1) ((i:Int)+1) (((m+1+1:Nat):Int) - 1) (by omega) (by omega) (ds++[days[i]]) false hsn (by omega) (by omega) E1 ck1 aE;have eds:(ds++[days[i]]).map bZ=ds.map bZ++[bZ days[i]]:=by rw [List.map_append];rfl
   rw [eds] at ih';have hmi:-9223372036854775808≤((m+1+1:Nat):Int) - 1∧((m+1+1:Nat):Int) - 1≤9223372036854775807:=by omega
   generalize days[i]=d at *
   cases hl:cS s days (m+1) (i+1) (ds++[d]) with
   | none =>
    rw [hl] at ih';have hno:=hnx hl;refine qq2 ?_;repeat' first|refine u1 ?_|refine u2 ?_|fail
    refine av.seq ?_;refine av.block ?_;refine av.seq ?_;refine av.GF (c:=18) (l1:=[_,_,_,_,_,_,_,_,_,_,_,_,_,_,_,_,_,_]) (l2:=[_,_]) (mu:=fun _=>false) (by kernel_rfl) rfl rfl ?_;repeat' first|(refine RM.S8 rfl rfl rfl rfl (by decide) jH ?_)|refine RM.S7 ?_|(refine RM.QH (els0:=ds.map bZ) (els:=[bZ d]) rfl rfl rfl rfl rfl jH (fun el hel=>by rw [List.mem_singleton.1 hel];rfl) rfl (by simp) ⟨by show ((ds.map bZ).length+1) * 32≤_;omega,by omega⟩ rfl ?_)|(refine ih' _ (fun E2 ck2=>?_))|refine u1 ?_|((with_reducible refine qq4 ?_);refine ⟨eI d,⟨by omega,hat⟩,rfl,?_⟩)|refine u2 ?_|fail
    refine qq1 ?_;repeat' first|refine u1 ?_|refine u2 ?_|fail
    refine qq1 ?_;repeat' first|refine u1 ?_|refine u2 ?_|fail
    exact ⟨(i+1,E2,ck2),⟨⟨by dsimp only;omega,by dsimp only;omega⟩,hno⟩,(by dsimp only;omega),ah.to 4 rfl ⟨rfl,rfl,rfl,rfl,rfl,rfl,rfl,bq (by simp),trivial⟩ (qq6 _) rfl (sU _ _ _ _ _)⟩
   | some p =>
    rw [hl] at ih';have hsome:=hfs p hl;rw [hsome] at hQ;have hpl:=ql hl;have hN0:p.length ≠ 0:=by omega
    refine qq2 ?_;repeat' first|refine u1 ?_|refine u2 ?_|fail
    refine av.seq ?_;refine av.block ?_;refine av.seq ?_;refine av.GF (c:=18) (l1:=[_,_,_,_,_,_,_,_,_,_,_,_,_,_,_,_,_,_]) (l2:=[_,_]) (mu:=fun _=>false) (by kernel_rfl) rfl rfl ?_;repeat' first|(refine RM.S8 rfl rfl rfl rfl (by decide) jH ?_)|refine RM.S7 ?_|(refine RM.QH (els0:=ds.map bZ) (els:=[bZ d]) rfl rfl rfl rfl rfl jH (fun el hel=>by rw [List.mem_singleton.1 hel];rfl) rfl (by simp) ⟨by show ((ds.map bZ).length+1) * 32≤_;omega,by omega⟩ rfl ?_)|(refine ih' _ (fun E2 ck2=>?_))|refine u1 ?_|((with_reducible refine qq4 ?_);refine ⟨eI d,⟨by omega,hat⟩,rfl,?_⟩)|refine u2 ?_|fail
    refine qq1 ?_;repeat' first|(refine RM.SL rfl hN0 (by kernel_rfl) rfl ?_)|refine u1 ?_|refine u2 ?_|fail
    exact hQ E2 ck2
  ·have d1:decide ((i:Int)≤((ints days).length:Int) - ((m+1+1:Nat):Int))=false:=decide_eq_false (by omega)
   have hnone:cS s days (m+1+1) k ds=none:=by
    rw [hfv];refine rz fun j hj=>?_;by_cases hkj:k≤j
    ·rw [hat0 j (by omega) hkj];exact hprev j (by omega) hkj (by omega)
    ·rw [if_pos (by omega)]
   have hQ:=hQ E1 ck1;rw [hnone] at hQ;refine qq1 ?_;repeat' first|refine u1 ?_|refine u2 ?_|fail
   refine qq1 ?_;repeat' first|refine u1 ?_|refine u2 ?_|fail
   exact hQ
def gO (s:ai) (days:List Int):Option (List Order):=if cu s [] 0 0 0=true then some [] else (List.range days.length).findSome? fun m=>cS s days (m+1) 0 []
def TA:Option (List Order)→AV
 | none=>.tp [.fl (.slice none 0 0),BB false]
 | some []=>.tp [.fl (.slice none 0 0),BB true]
 | some (a :: l)=>.tp [.bg 0 0 0 (a :: l).length ((a :: l).length+1),BB true]
def TC:Option (List Order)→List AB
 | none=>[]
 | some []=>[]
 | some (a :: l)=>[fL (a :: l) 0]
theorem Ra (s:ai) (days:List Int) (df:Bool) (E:List oy) (ck:Nat) (p:List Order):nB 1 4 0 (DX s days df E ck++[fL p 0])=true:=by have h1:AB.gS 1 (fL p 0)=true:=nK 1 p;have h2:AB.gS 4 (fL p 0)=true:=nK 4 p;show ((false || (AB.gS 1 (.map (aK E) ck) && AB.gS 4 (.map (aK E) ck))) && (true && (true && (true && ((false || (AB.gS 1 (fL p 0) && AB.gS 4 (fL p 0))) && true)))))=true;rw [pI,pI,h1,h2];rfl
theorem NH (E:List oy) (ck:Nat) (p:List Order):nB 0 1 0 ([.map (aK E) ck,fL p 0]:List AB)=true:=by have h1:AB.gS 0 (fL p 0)=true:=nK 0 p;have h2:AB.gS 1 (fL p 0)=true:=nK 1 p;show (true && ((false || (AB.gS 0 (fL p 0) && AB.gS 1 (fL p 0))) && true))=true;rw [h1,h2];rfl
theorem Rb (E:List oy) (ck:Nat) (p:List Order):([.map (aK E) ck,fL p 0]:List AB).all (AB.gF 2)=true:=by have h:AB.gF 2 (fL p 0)=true:=sM 2 p;simp only [List.all_cons,List.all_nil,h,pH,Bool.and_true]
theorem Pe (one:Bool) {s:ai} (hg:Good s) {days:List Int} (df:Bool) (h6:days.length≤6) (hdp:days.Pairwise (· < ·)) (hdr:∀ x ∈ days,0≤x∧x < s.days) {aE:bA} {Q:AV→List AB→bA→Prop} (hQ:Q (TA (gO s days)) (TC (gO s days)) aE) :
  az TT TB one (.fn 44 [] []) [.ag (ay s),.sl (ints days) df] [] aE Q:=by
 have oc:=Mc one hg;have oh:Pu one 36 [.ag (ay s),.sl [] false,aC 0,kO 0,aC 0] (BB (cu s [] 0 0 0)):=Gy one (ue hg) false 0 0 0 (qq5 _) (by decide) (by decide);have em:((ints days).length:Int)=days.length:=by simp
 unfold gO at hQ;refine az.body (fn:=Tryz.f44) rfl rfl rfl ?_;refine qq2 ?_;repeat' first|refine u1 ?_|refine u2 ?_|fail
 refine qq2 ?_;repeat' first|refine u1 ?_|((with_reducible refine qq3 ?_);refine aj.call oc rfl rfl ?_)|refine u2 ?_|fail
 refine qq2 ?_;repeat' first|refine u1 ?_|refine u2 ?_|fail
 refine av.aJ (ah.trans (ah.giveUp 1 (l:=[(2,.pt (ay s) 0),(3,.pt [.sl (ints days) df] 0),(6,.pt [.sl (ud (aI s)) false] 0),(7,.ptr 2 0 0),(8,.ptr 3 0 0)]) (hp:=[.map (aK []) 0,.gone,yI,.cells [.fl .nilFunc] 0 0]) rfl (qq5 _) rfl ⟨.same rfl,.same rfl,.ptr,.same rfl,.same rfl,trivial⟩ rfl rfl) (ah.refl _)) ?_;refine qq2 ?_;repeat' first|refine u1 ?_|refine u2 ?_|fail
 cases hh:cu s [] 0 0 0 with
 | true =>
  rw [hh] at oh;rw [hh,if_pos rfl] at hQ;refine av.seq ?_;refine qq2 ?_;repeat' first|(refine az.soft (cm.cons (aW.refl _) (cm.cons (aW.nil false) (cm.cons (aW.refl _) (cm.cons (aW.refl _) (cm.tO (aW.refl _)))))) (aj.call oh rfl rfl ?_))|refine u1 ?_|refine u2 ?_|fail
  refine av.cond rfl (fun _=>?_) (fun h=>by cases h);refine qq2 ?_;repeat' first|refine u1 ?_|refine u2 ?_|fail
  refine av.aJ (ah.to (l:=[(4,.fl (.slice none 0 0)),(5,BB true)]) (hp:=[]) 0 rfl ⟨rfl,rfl,trivial⟩ (qq5 _) rfl rfl) ?_;refine qq1 ?_;repeat' first|refine u1 ?_|refine u2 ?_|fail
  exact hQ
 | false =>
  rw [hh] at oh;rw [hh,if_neg (by simp)] at hQ;refine qq2 ?_;repeat' first|(refine az.soft (cm.cons (aW.refl _) (cm.cons (aW.nil false) (cm.cons (aW.refl _) (cm.cons (aW.refl _) (cm.tO (aW.refl _)))))) (aj.call oh rfl rfl ?_))|refine u1 ?_|refine u2 ?_|fail
  refine av.seq ?_;refine qq2 ?_;repeat' first|refine u1 ?_|refine u2 ?_|fail
  refine av.block ?_;refine av.aJ (ah.to (l:=[(3,.pt [.sl (ints days) df] 0),(8,.ptr 3 0 0),(9,aC (((0:Nat):Int)+1))]) (hp:=DX s days df [] 0) 4 rfl ⟨rfl,rfl,rfl,trivial⟩ (qq5 _) rfl rfl) ?_;refine av.loop (fun x:Nat × List oy × Nat=>x.1≤6∧∀ j,j < days.length→j < x.1→cS s days (j+1) 0 []=none) (fun x=>⟨aZ [(3,.pt [.sl (ints days) df] 0),(8,.ptr 3 0 0),(9,aC (((x.1:Nat):Int)+1))],DX s days df x.2.1 x.2.2,aE,false,0⟩) (fun x=>6 - x.1) ?_ (0,[],0) ⟨qq5 _,fun j _ h=>absurd h (Nat.not_lt_zero _)⟩;rintro ⟨m,E1,ck1⟩ ⟨hm6,hprev⟩;dsimp only at hm6 hprev;show av _ _ _ _ ⟨aZ [(3,.pt [.sl (ints days) df] 0),(8,.ptr 3 0 0),(9,aC (((m:Nat):Int)+1))],DX s days df E1 ck1,aE,false,0⟩ _;by_cases hlt:m < days.length
  ·have d1:decide ((m:Int)+1≤((ints days).length:Int))=true:=decide_eq_true (by omega);have hfill:=NG one hg (df:=df) h6 hdp hdr m 0 0 ((m:Int)+1) rfl (by omega) [] true ⟨qq6 _,.nil,(fun x hx=>by cases hx),fun x hx=>by cases hx⟩ (by omega) hm6 E1 ck1 aE
   cases hl:cS s days (m+1) 0 [] with
   | none =>
    rw [hl] at hfill
    have hno:∀ j,j < days.length→j < m+1→cS s days (j+1) 0 []=none:=fun j h1 h2=>by
     by_cases e:j=m
     ·subst e;exact hl
     ·exact hprev j h1 (by omega)
    refine qq2 ?_;repeat' first|refine u1 ?_|refine u2 ?_|fail
    refine qq1 ?_;repeat' first|(refine az.soft (cm.three (aW.nil true) (aW.refl _) (aW.refl _)) (hfill _ (fun E2 ck2=>?_)))|refine u1 ?_|refine u2 ?_|fail
    exact ⟨(m+1,E2,ck2),⟨by dsimp only;omega,hno⟩,(by dsimp only;omega),ah.to 4 rfl ⟨rfl,rfl,bq (by simp),trivial⟩ (qq5 _) rfl (sU _ _ _ _ _)⟩
   | some p =>
    rw [hl] at hfill;have hpl:=ql hl;have hfw:((List.range days.length).findSome? fun m=>cS s days (m+1) 0 [])=some p:=nR hlt hl fun j hj=>hprev j (by omega) hj;rw [hfw] at hQ
    cases p with
    | nil=>simp at hpl
    | cons a l =>
     have hN0:(a :: l).length ≠ 0:=by simp
     refine qq2 ?_;repeat' first|refine u1 ?_|refine u2 ?_|fail
     refine av.seq ?_;refine av.block ?_;refine qq2 ?_;repeat' first|(refine az.soft (cm.three (aW.nil true) (aW.refl _) (aW.refl _)) (hfill _ (fun E2 ck2=>?_)))|refine u1 ?_|refine u2 ?_|fail
     refine qq2 ?_;repeat' first|(refine RM.SL rfl hN0 (by kernel_rfl) rfl ?_)|refine u1 ?_|refine u2 ?_|fail
     refine av.cond rfl (fun _=>?_) (fun h=>by cases h);refine qq2 ?_;repeat' first|refine u1 ?_|refine u2 ?_|fail
     refine av.aJ (ah.trans (ah.ES 1 4 (l:=[(4,.bg 1 0 0 (a :: l).length ((a :: l).length+1)),(5,BB true)]) (hp:=[.map (aK E2) ck2,fL (a :: l) 0,yI,BD s days df,.gone]) (by decide) rfl rfl (qq5 _) (qq5 _) ⟨.bg,.same rfl rfl,trivial⟩ (Ra _ _ _ _ _ _) rfl)
      (ah.trans (ah.to (l:=[(4,.bg 1 0 0 (a :: l).length ((a :: l).length+1)),(5,BB true)]) (hp:=[.map (aK E2) ck2,fL (a :: l) 0]) 2 rfl ⟨rfl,rfl,trivial⟩ (qq5 _) rfl (Rb _ _ _))
       (ah.trans (ah.ES 0 1 (l:=[(4,.bg 0 0 0 (a :: l).length ((a :: l).length+1)),(5,BB true)]) (hp:=[fL (a :: l) 0,.gone]) (by decide) rfl rfl (qq5 _) (qq5 _) ⟨.bg,.same rfl rfl,trivial⟩ (NH _ _ _) rfl)
        (ah.to (l:=[(4,.bg 0 0 0 (a :: l).length ((a :: l).length+1)),(5,BB true)]) (hp:=[fL (a :: l) 0]) 1 rfl ⟨rfl,rfl,trivial⟩ (qq5 _) rfl (xj _ _))))) ?_
     refine qq1 ?_;repeat' first|refine u1 ?_|refine u2 ?_|fail
     exact hQ
  ·have d1:decide ((m:Int)+1≤((ints days).length:Int))=false:=decide_eq_false (by omega);have hfw:((List.range days.length).findSome? fun m=>cS s days (m+1) 0 [])=none:=rz fun j hj=>hprev j hj (by omega);rw [hfw] at hQ;refine qq1 ?_;repeat' first|refine u1 ?_|refine u2 ?_|fail
   refine qq2 ?_;repeat' first|refine u1 ?_|refine u2 ?_|fail
   refine av.aJ (ah.to (l:=[(4,.fl (.slice none 0 0)),(5,BB false)]) (hp:=[]) 0 rfl ⟨rfl,rfl,trivial⟩ (qq5 _) rfl rfl) ?_;refine qq1 ?_;repeat' first|refine u1 ?_|refine u2 ?_|fail
   exact hQ
theorem zR {s:ai} {p:List Order} (h:(oX s p).2=0):Ff s p=cu s p 0 0 s.fail:=by
 rw [Bool.eq_iff_iff,Dp];unfold Ff GD SN;rw [if_neg (by omega),decide_eq_true_eq];constructor
 ·intro h;apply Classical.byContradiction;intro hn;rw [if_neg hn] at h;cases h
 ·intro h;rw [if_pos h]
