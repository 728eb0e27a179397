/-
  Contracts of the program's functions and of the document's. Lemmas alone; their conditions stand in them.
-/
import Derived.Test.YtpeogffeoehboaaDoorA3
import Derived.Test.YtpeogffeoehboaaDoorA4
import Derived.Test.YtpeogffeoehboaaDoorK10
open Go Go.RM
namespace Go.Proofs.YtpeogffeoehboaaDoor
set_option maxRecDepth 100000
set_option maxHeartbeats 4000000
def SK:Option (List Order)→AV
 | none=>.fl (.slice none 0 0)
 | some p=>.bI 4 0 0 p.length (p.length+1)
def SL (l:List AB):Option (List Order)→List AB
 | none=>l
 | some p=>l++[fo p 0]
abbrev CV (s:ai) (days:List Int) (df:Bool) (E:List nr) (ck:Nat):List AB:=[.map (aI E) ck,.gone,xH,Av s days df]
theorem rI (s:ai) (days:List Int) (df:Bool) (E:List nr) (ck:Nat):(CV s days df E ck).all (AB.ic 4)=true:=by
 simp only [List.all_cons,List.all_nil,nV,Bool.and_true]
 rfl
theorem Mc (one:Bool) {s:ai} (hg:Good s) {days:List Int} {df:Bool} {D:List Int} {N:Nat} (hN:D.length=N) (h1D:1≤D.length) (h6D:D.length≤6) (hDp:D.Pairwise (· < ·)) (hDr:∀ x ∈ D,0≤x∧x < s.days) {E:List nr} {ck:Nat} {cs:List AV} (hcs:cs=Qh D) {aB c:Nat} {fr mz:Int} (hz:mz=0) {aE:bG} {Q:AV→List AB→bG→Prop}
  (hQ:∀ (E':List nr) (ck':Nat) (P':List Order),Q (RY N (cz s D [])) (RZ (FG E' ck' .gone xH (Av s days df) P' aB) (cz s D [])) aE) :
  av TT TB one (.fn 83 [] (R3 s days df)) [.bI 4 aB 0 N c,aC fr,aC mz] [.map (aI E) ck,.gone,xH,Av s days df,.cells cs 2 aB] aE Q:=by
 subst hN hz
 exact L7 one hg h1D h6D hDp hDr hcs hQ
theorem iY {ds:List Int}:∀ el ∈ ds.map bS,el.length=2:=fun el hel=>by obtain ⟨d,_,rfl⟩:=List.mem_map.1 hel;rfl
theorem nX (j:Nat):∀ (E:List nr) (ck:Nat),AB.gO j (.map (aI E) ck)=true
 | [],_=>rfl
 | _ :: E,ck=>nX j E ck
theorem PS (s:ai) (days:List Int) (df:Bool) (E:List nr) (ck:Nat) (P:List Order) (aB:Nat) (p:List Order):mE 4 5 0 (FG E ck .gone xH (Av s days df) P aB++[fo p 0])=true:=by
 have h1:AB.gO 4 (fo p 0)=true:=kK 4 p
 have h2:AB.gO 5 (fo p 0)=true:=kK 5 p
 show ((false || (AB.gO 4 (.map (aI E) ck) && AB.gO 5 (.map (aI E) ck))) && (true && (true && (true && ((true || (AB.gO 4 (fo P aB) && AB.gO 5 (fo P aB))) && ((false || (AB.gO 4 (fo p 0) && AB.gO 5 (fo p 0))) && true))))))=true
 rw [nX,nX,h1,h2]
 rfl
theorem PT (s:ai) (days:List Int) (df:Bool) (E:List nr) (ck:Nat) (p:List Order):(CV s days df E ck++[fo p 0]).all (AB.ic 5)=true:=by
 have h:AB.ic 5 (fo p 0)=true:=oO 5 p
 show (AB.ic 5 (.map (aI E) ck) && (true && (true && (true && (AB.ic 5 (fo p 0) && true)))))=true
 rw [nV,h]
 rfl
theorem oQ {s:ai} {days:List Int}:∀ {m fr:Nat} {ds:List Int} {p:List Order},di s days m fr ds=some p→p.length=ds.length+m
 | 0,fr,ds,p,h=>by
  obtain ⟨q,rfl,h2,_⟩:=jU h
  rw [←h2]
  simp
 | m+1,fr,ds,p,h=>by
  rw [di,List.findSome?_eq_some_iff] at h
  obtain ⟨l1,i,l2,_,h,_⟩:=h
  split at h
  ·cases h
  ·cases hd:days[i]? with
   | none=>rw [hd] at h;cases h
   | some d =>
    rw [hd] at h
    have:=oQ h
    rw [List.length_append,List.length_singleton] at this
    omega
theorem Md (one:Bool) {s:ai} (hg:Good s) {days:List Int} {df:Bool} (h6:days.length≤6) (hdp:days.Pairwise (· < ·)) (hdr:∀ x ∈ days,0≤x∧x < s.days) :
  ∀ (m k:Nat) (fi mm:Int) (_:fi=(k:Nat)) (_:mm=((m+1:Nat):Int)) (ds:List Int) (full:Bool) (_:KH s days ds k) (_:k≤6) (_:m≤6) (E:List nr) (ck:Nat) (aE:bG) (Q:AV→List AB→bG→Prop)
   (_:∀ (E':List nr) (ck':Nat),Q (SK (di s days (m+1) k ds)) (SL (CV s days df E' ck') (di s days (m+1) k ds)) aE),
   av TT TB one (.fn 83 [] (R3 s days df)) [.sl (ds.map bS) full,aC fi,aC mm] (CV s days df E ck) aE Q:=by
 intro m
 induction m with
 | zero =>
  intro k fi mm hfi hmm ds full hds hk6 hm6 E ck aE Q hQ
  subst hfi hmm
  have hdl:=hds.len
  have em:((ints days).length:Int)=days.length:=by simp
  have d0:decide (((0+1:Nat):Int)=0)=false:=by decide
  have hfv:di s days (0+1) k ds=(List.range (days.length - 0)).findSome? fun i=>if i < k then none else match days[i]? with
   | some d=>cz s (ds++[d]) []
   | none=>none:=rfl
  have hat0:∀ (j:Nat) (h:j < days.length),k≤j→(if j < k then none else match days[j]? with
   | some d=>cz s (ds++[d]) []
   | none=>none)=cz s (ds++[days[j]]) []:=fun j h hj=>by rw [if_neg (by omega),List.getElem?_eq_getElem h]
  refine av.body (fn:=Tryd.f83) rfl rfl rfl ?_
  refine RM.cS (mu:=fun t=>Nat.beq t 44) ?_
  repeat' (first |refine u1 ?_ |refine u2 ?_ |fail)
  refine RM.cS (mu:=fun t=>Nat.beq t 44) ?_
  repeat' (first |refine u1 ?_ |refine u2 ?_ |fail)
  refine aA.seq ?_
  refine RM.cS (mu:=fun t=>Nat.beq t 44) ?_
  repeat' (first |refine u1 ?_ |refine u2 ?_ |fail)
  refine aA.block ?_
  refine aA.aX (aj.to (l:=[(0,.sl (ds.map bS) full),(2,aC ((0+1:Nat):Int)),(3,.ptr 2 0 0),(4,.pt (az s) 0),(5,.pt [.sl (sS (aK s)) false] 0),(6,.pt [.sl (ints days) df] 0),(7,.ptr 3 0 0),(12,aC (k:Nat))]) (hp:=CV s days df E ck) 4 rfl ⟨rfl,rfl,rfl,rfl,rfl,rfl,rfl,rfl,trivial⟩ (Nat.le_refl _) rfl (rI _ _ _ _ _)) ?_
  refine aA.loop (fun x:Nat × List nr × Nat=>(k≤x.1∧x.1≤6)∧∀ (j:Nat) (h:j < days.length),k≤j→j < x.1→cz s (ds++[days[j]]) []=none) (fun x=>⟨bx [(0,.sl (ds.map bS) full),(2,aC ((0+1:Nat):Int)),(3,.ptr 2 0 0),(4,.pt (az s) 0),(5,.pt [.sl (sS (aK s)) false] 0),(6,.pt [.sl (ints days) df] 0),(7,.ptr 3 0 0),(12,aC (x.1:Nat))],CV s days df x.2.1 x.2.2,aE,false,4⟩) (fun x=>6 - x.1) ?_ (k,E,ck) ⟨⟨Nat.le_refl _,hk6⟩,fun j h h1 h2=>by dsimp only at h2;omega⟩
  rintro ⟨i,E1,ck1⟩ ⟨⟨hki,hi6⟩,hprev⟩
  dsimp only at hki hi6 hprev
  show aA _ _ _ _ ⟨bx [(0,.sl (ds.map bS) full),(2,aC ((0+1:Nat):Int)),(3,.ptr 2 0 0),(4,.pt (az s) 0),(5,.pt [.sl (sS (aK s)) false] 0),(6,.pt [.sl (ints days) df] 0),(7,.ptr 3 0 0),(12,aC (i:Nat))],CV s days df E1 ck1,aE,false,4⟩ _
  by_cases hlt:i < days.length
  ·have d1:decide ((i:Int)≤((ints days).length:Int) - ((0+1:Nat):Int))=true:=decide_eq_true (by omega)
   have hat:(ints days)[((i:Nat):Int).toNat]?=some (eI days[i]):=cI hlt
   have hsn:=hds.snoc hdp hdr hki hlt
   have hDl:(ds++[days[i]]).length=(ds.map bS).length+([bS days[i]]:List (List AV)).length:=by simp
   have hD6:(ds++[days[i]]).length≤6:=by have:=hsn.len;omega
   have hcs:=KG ds days[i]
   have hnx:cz s (ds++[days[i]]) []=none→∀ (j:Nat) (h:j < days.length),k≤j→j < i+1→cz s (ds++[days[j]]) []=none:=fun h j hj h1 h2=>by
    by_cases e:j=i
    ·subst e;exact h
    ·exact hprev j hj h1 (by omega)
   have hfs:∀ p,cz s (ds++[days[i]]) []=some p→di s days (0+1) k ds=some p:=fun p h=>by
    rw [hfv]
    refine mM (i:=i) (by omega) (by rw [hat0 i hlt hki];exact h) fun j hj=>?_
    by_cases hkj:k≤j
    ·rw [hat0 j (by omega) hkj]
     exact hprev j (by omega) hkj hj
    ·rw [if_pos (by omega)]
   have hbd:((ds.map bS).length+([bS days[i]]:List (List AV)).length)≤7:=by rw [←hDl];omega
   have hplen:∀ p,cz s (ds++[days[i]]) []=some p→p.length=(ds.map bS).length+([bS days[i]]:List (List AV)).length:=fun p h=>by
    obtain ⟨q,rfl,h2,_⟩:=jU h
    rw [←hDl,←h2]
    simp
   have hf0:=fun (c:Nat) (fr:Int) (Q:AV→List AB→bG→Prop) (hQ:∀ (E':List nr) (ck':Nat) (P':List Order),Q (RY ((ds.map bS).length+([bS days[i]]:List (List AV)).length) (cz s (ds++[days[i]]) [])) (RZ (FG E' ck' .gone xH (Av s days df) P' 0) (cz s (ds++[days[i]]) [])) aE)=>Mc one hg (days:=days) (df:=df) (D:=ds++[days[i]]) (N:=(ds.map bS).length+([bS days[i]]:List (List AV)).length) hDl (by rw [List.length_append,List.length_singleton];omega) hD6 hsn.DX hsn.day (E:=E1) (ck:=ck1) (cs:=(ds.map bS).flatten++[bS days[i]].flatten) hcs (aB:=0) (c:=c) (fr:=fr) (mz:=((0+1:Nat):Int) - 1) (by decide) (aE:=aE) (Q:=Q) hQ
   generalize days[i]=d at *
   cases hl:cz s (ds++[d]) [] with
   | none =>
    rw [hl] at hf0
    have hno:=hnx hl
    refine RM.cS (mu:=fun t=>Nat.beq t 44) ?_
    repeat' (first |refine u1 ?_ |refine u2 ?_ |fail)
    refine aA.seq ?_
    refine aA.block ?_
    refine aA.seq ?_
    refine aA.CI (c:=18) (l1:=[_,_,_,_,_,_,_,_,_,_,_,_,_,_,_,_,_,_]) (l2:=[_,_]) (mu:=fun t=>Nat.beq t 44) (by kernel_rfl) rfl rfl ?_
    repeat' (first |(refine RM.R5 rfl rfl rfl rfl (by decide) iY ?_) |(refine RM.RG ?_) |((with_reducible show RM.wpOp _ _ (.call _) _ _ _);refine RF (els0:=ds.map bS) (els:=[bS d]) rfl rfl rfl rfl rfl iY (fun el hel=>by rw [List.mem_singleton.1 hel];rfl) rfl (by simp) ⟨by show ((ds.map bS).length+1) * 32≤_;omega,by omega⟩ ?_) |(refine hf0 _ _ _ (fun E2 ck2 P3=>?_)) |refine u1 ?_ |((with_reducible show RM.wpOp _ _ (.indexAddr _ _ _) _ _ _);refine ⟨eI d,⟨by omega,hat⟩,rfl,?_⟩) |refine u2 ?_ |fail)
    refine aa (mu:=fun _=>false) ?_
    repeat' (first |refine u1 ?_ |refine u2 ?_ |fail)
    refine aa (mu:=fun _=>false) ?_
    repeat' (first |refine u1 ?_ |refine u2 ?_ |fail)
    exact ⟨(i+1,E2,ck2),⟨⟨by dsimp only;omega,by dsimp only;omega⟩,hno⟩,(by dsimp only;omega),aj.to 4 rfl ⟨rfl,rfl,rfl,rfl,rfl,rfl,rfl,bW (by simp),trivial⟩ (Nat.le_refl _) rfl (rI _ _ _ _ _)⟩
   | some p =>
    rw [hl] at hf0
    have hsome:=hfs p hl
    rw [hsome] at hQ
    have hpl:=hplen p hl
    have hN0:(ds.map bS).length+([bS d]:List (List AV)).length ≠ 0:=by simp
    refine RM.cS (mu:=fun t=>Nat.beq t 44) ?_
    repeat' (first |refine u1 ?_ |refine u2 ?_ |fail)
    refine aA.seq ?_
    refine aA.block ?_
    refine aA.seq ?_
    refine aA.CI (c:=18) (l1:=[_,_,_,_,_,_,_,_,_,_,_,_,_,_,_,_,_,_]) (l2:=[_,_]) (mu:=fun t=>Nat.beq t 44) (by kernel_rfl) rfl rfl ?_
    repeat' (first |(refine RM.R5 rfl rfl rfl rfl (by decide) iY ?_) |(refine RM.RG ?_) |((with_reducible show RM.wpOp _ _ (.call _) _ _ _);refine RF (els0:=ds.map bS) (els:=[bS d]) rfl rfl rfl rfl rfl iY (fun el hel=>by rw [List.mem_singleton.1 hel];rfl) rfl (by simp) ⟨by show ((ds.map bS).length+1) * 32≤_;omega,by omega⟩ ?_) |(refine hf0 _ _ _ (fun E2 ck2 P3=>?_)) |refine u1 ?_ |((with_reducible show RM.wpOp _ _ (.indexAddr _ _ _) _ _ _);refine ⟨eI d,⟨by omega,hat⟩,rfl,?_⟩) |refine u2 ?_ |fail)
    refine aA.seq ?_
    refine aa (mu:=fun _=>false) ?_
    repeat' (first |(refine RM.Rv rfl hN0 (by kernel_rfl) rfl ?_) |refine u1 ?_ |refine u2 ?_ |fail)
    have hQ:=hQ E2 ck2
    unfold SK SL at hQ
    dsimp only at hQ
    rw [hpl] at hQ
    refine aA.cond rfl (fun _=>?_) (fun h=>by cases h)
    refine RM.cS (mu:=fun t=>Nat.beq t 44) ?_
    repeat' (first |refine u1 ?_ |refine u2 ?_ |fail)
    refine aA.aX (aj.trans (aj.DQ 4 5 (l:=[(11,.bI 4 0 0 ((ds.map bS).length+([bS d]:List (List AV)).length) ((ds.map bS).length+([bS d]:List (List AV)).length+1))]) (hp:=CV s days df E2 ck2++[fo p 0,.gone]) (by decide) rfl rfl (Nat.le_refl _) (Nat.le_of_ble_eq_true rfl) ⟨.bI,trivial⟩ (PS _ _ _ _ _ _ _ _) rfl)
     (aj.to (l:=[(11,.bI 4 0 0 ((ds.map bS).length+([bS d]:List (List AV)).length) ((ds.map bS).length+([bS d]:List (List AV)).length+1))]) (hp:=CV s days df E2 ck2++[fo p 0]) 5 rfl ⟨rfl,trivial⟩ (Nat.le_of_ble_eq_true rfl) rfl (PT _ _ _ _ _ _))) ?_
    refine aa (mu:=fun _=>false) ?_
    repeat' (first |refine u1 ?_ |refine u2 ?_ |fail)
    exact hQ
  ·have d1:decide ((i:Int)≤((ints days).length:Int) - ((0+1:Nat):Int))=false:=decide_eq_false (by omega)
   have hnone:di s days (0+1) k ds=none:=by
    rw [hfv]
    refine qe fun j hj=>?_
    by_cases hkj:k≤j
    ·rw [hat0 j (by omega) hkj]
     exact hprev j (by omega) hkj (by omega)
    ·rw [if_pos (by omega)]
   have hQ:=hQ E1 ck1
   rw [hnone] at hQ
   refine aa (mu:=fun _=>false) ?_
   repeat' (first |refine u1 ?_ |refine u2 ?_ |fail)
   refine aa (mu:=fun _=>false) ?_
   repeat' (first |refine u1 ?_ |refine u2 ?_ |fail)
   exact hQ
 | succ m ih =>
  intro k fi mm hfi hmm ds full hds hk6 hm6 E ck aE Q hQ
  subst hfi hmm
  have hdl:=hds.len
  have em:((ints days).length:Int)=days.length:=by simp
  have d0:decide (((m+1+1:Nat):Int)=0)=false:=decide_eq_false (by omega)
  have hfv:di s days (m+1+1) k ds=(List.range (days.length - (m+1))).findSome? fun i=>if i < k then none else match days[i]? with
   | some d=>di s days (m+1) (i+1) (ds++[d])
   | none=>none:=rfl
  have hat0:∀ (j:Nat) (h:j < days.length),k≤j→(if j < k then none else match days[j]? with
   | some d=>di s days (m+1) (j+1) (ds++[d])
   | none=>none)=di s days (m+1) (j+1) (ds++[days[j]]):=fun j h hj=>by rw [if_neg (by omega),List.getElem?_eq_getElem h]
  refine av.body (fn:=Tryd.f83) rfl rfl rfl ?_
  refine RM.cS (mu:=fun _=>false) ?_
  repeat' (first |refine u1 ?_ |refine u2 ?_ |fail)
  refine RM.cS (mu:=fun _=>false) ?_
  repeat' (first |refine u1 ?_ |refine u2 ?_ |fail)
  refine aA.seq ?_
  refine RM.cS (mu:=fun _=>false) ?_
  repeat' (first |refine u1 ?_ |refine u2 ?_ |fail)
  refine aA.block ?_
  refine aA.aX (aj.to (l:=[(0,.sl (ds.map bS) full),(2,aC ((m+1+1:Nat):Int)),(3,.ptr 2 0 0),(4,.pt (az s) 0),(5,.pt [.sl (sS (aK s)) false] 0),(6,.pt [.sl (ints days) df] 0),(7,.ptr 3 0 0),(12,aC (k:Nat))]) (hp:=CV s days df E ck) 4 rfl ⟨rfl,rfl,rfl,rfl,rfl,rfl,rfl,rfl,trivial⟩ (Nat.le_refl _) rfl (rI _ _ _ _ _)) ?_
  refine aA.loop (fun x:Nat × List nr × Nat=>(k≤x.1∧x.1≤6)∧∀ (j:Nat) (h:j < days.length),k≤j→j < x.1→di s days (m+1) (j+1) (ds++[days[j]])=none) (fun x=>⟨bx [(0,.sl (ds.map bS) full),(2,aC ((m+1+1:Nat):Int)),(3,.ptr 2 0 0),(4,.pt (az s) 0),(5,.pt [.sl (sS (aK s)) false] 0),(6,.pt [.sl (ints days) df] 0),(7,.ptr 3 0 0),(12,aC (x.1:Nat))],CV s days df x.2.1 x.2.2,aE,false,4⟩) (fun x=>6 - x.1) ?_ (k,E,ck) ⟨⟨Nat.le_refl _,hk6⟩,fun j h h1 h2=>by dsimp only at h2;omega⟩
  rintro ⟨i,E1,ck1⟩ ⟨⟨hki,hi6⟩,hprev⟩
  dsimp only at hki hi6 hprev
  show aA _ _ _ _ ⟨bx [(0,.sl (ds.map bS) full),(2,aC ((m+1+1:Nat):Int)),(3,.ptr 2 0 0),(4,.pt (az s) 0),(5,.pt [.sl (sS (aK s)) false] 0),(6,.pt [.sl (ints days) df] 0),(7,.ptr 3 0 0),(12,aC (i:Nat))],CV s days df E1 ck1,aE,false,4⟩ _
  by_cases hlt2:i+(m+2)≤days.length
  ·have hlt:i < days.length:=by omega
   have d1:decide ((i:Int)≤((ints days).length:Int) - ((m+1+1:Nat):Int))=true:=decide_eq_true (by omega)
   have hat:(ints days)[((i:Nat):Int).toNat]?=some (eI days[i]):=cI hlt
   have hsn:=hds.snoc hdp hdr hki hlt
   have hnx:di s days (m+1) (i+1) (ds++[days[i]])=none→∀ (j:Nat) (h:j < days.length),k≤j→j < i+1→di s days (m+1) (j+1) (ds++[days[j]])=none:=fun h j hj h1 h2=>by
    by_cases e:j=i
    ·subst e;exact h
    ·exact hprev j hj h1 (by omega)
   have hfs:∀ p,di s days (m+1) (i+1) (ds++[days[i]])=some p→di s days (m+1+1) k ds=some p:=fun p h=>by
    rw [hfv]
    refine mM (i:=i) (by omega) (by rw [hat0 i hlt hki];exact h) fun j hj=>?_
    by_cases hkj:k≤j
    ·rw [hat0 j (by omega) hkj]
     exact hprev j (by omega) hkj hj
    ·rw [if_pos (by omega)]
   have hbd:(ds.map bS).length+([bS days[i]]:List (List AV)).length≤7:=by
    rw [List.length_map]
    show ds.length+1≤7
    omega
   have ih':=ih (i+1) ((i:Int)+1) (((m+1+1:Nat):Int) - 1) (by omega) (by omega) (ds++[days[i]]) false hsn (by omega) (by omega) E1 ck1 aE
   have eds:(ds++[days[i]]).map bS=ds.map bS++[bS days[i]]:=by rw [List.map_append];rfl
   rw [eds] at ih'
   have hmi:-9223372036854775808≤((m+1+1:Nat):Int) - 1∧((m+1+1:Nat):Int) - 1≤9223372036854775807:=by omega
   generalize days[i]=d at *
   cases hl:di s days (m+1) (i+1) (ds++[d]) with
   | none =>
    rw [hl] at ih'
    have hno:=hnx hl
    refine RM.cS (mu:=fun _=>false) ?_
    repeat' (first |refine u1 ?_ |refine u2 ?_ |fail)
    refine aA.seq ?_
    refine aA.block ?_
    refine aA.seq ?_
    refine aA.CI (c:=18) (l1:=[_,_,_,_,_,_,_,_,_,_,_,_,_,_,_,_,_,_]) (l2:=[_,_]) (mu:=fun _=>false) (by kernel_rfl) rfl rfl ?_
    repeat' (first |(refine RM.R5 rfl rfl rfl rfl (by decide) iY ?_) |(refine RM.RG ?_) |(refine RM.Po (els0:=ds.map bS) (els:=[bS d]) rfl rfl rfl rfl rfl iY (fun el hel=>by rw [List.mem_singleton.1 hel];rfl) rfl (by simp) ⟨by show ((ds.map bS).length+1) * 32≤_;omega,by omega⟩ rfl ?_) |(refine ih' _ (fun E2 ck2=>?_)) |refine u1 ?_ |((with_reducible show RM.wpOp _ _ (.indexAddr _ _ _) _ _ _);refine ⟨eI d,⟨by omega,hat⟩,rfl,?_⟩) |refine u2 ?_ |fail)
    refine aa (mu:=fun _=>false) ?_
    repeat' (first |refine u1 ?_ |refine u2 ?_ |fail)
    refine aa (mu:=fun _=>false) ?_
    repeat' (first |refine u1 ?_ |refine u2 ?_ |fail)
    exact ⟨(i+1,E2,ck2),⟨⟨by dsimp only;omega,by dsimp only;omega⟩,hno⟩,(by dsimp only;omega),aj.to 4 rfl ⟨rfl,rfl,rfl,rfl,rfl,rfl,rfl,bW (by simp),trivial⟩ (Nat.le_refl _) rfl (rI _ _ _ _ _)⟩
   | some p =>
    rw [hl] at ih'
    have hsome:=hfs p hl
    rw [hsome] at hQ
    have hpl:=oQ hl
    have hN0:p.length ≠ 0:=by omega
    refine RM.cS (mu:=fun _=>false) ?_
    repeat' (first |refine u1 ?_ |refine u2 ?_ |fail)
    refine aA.seq ?_
    refine aA.block ?_
    refine aA.seq ?_
    refine aA.CI (c:=18) (l1:=[_,_,_,_,_,_,_,_,_,_,_,_,_,_,_,_,_,_]) (l2:=[_,_]) (mu:=fun _=>false) (by kernel_rfl) rfl rfl ?_
    repeat' (first |(refine RM.R5 rfl rfl rfl rfl (by decide) iY ?_) |(refine RM.RG ?_) |(refine RM.Po (els0:=ds.map bS) (els:=[bS d]) rfl rfl rfl rfl rfl iY (fun el hel=>by rw [List.mem_singleton.1 hel];rfl) rfl (by simp) ⟨by show ((ds.map bS).length+1) * 32≤_;omega,by omega⟩ rfl ?_) |(refine ih' _ (fun E2 ck2=>?_)) |refine u1 ?_ |((with_reducible show RM.wpOp _ _ (.indexAddr _ _ _) _ _ _);refine ⟨eI d,⟨by omega,hat⟩,rfl,?_⟩) |refine u2 ?_ |fail)
    refine aa (mu:=fun _=>false) ?_
    repeat' (first |(refine RM.Rv rfl hN0 (by kernel_rfl) rfl ?_) |refine u1 ?_ |refine u2 ?_ |fail)
    exact hQ E2 ck2
  ·have d1:decide ((i:Int)≤((ints days).length:Int) - ((m+1+1:Nat):Int))=false:=decide_eq_false (by omega)
   have hnone:di s days (m+1+1) k ds=none:=by
    rw [hfv]
    refine qe fun j hj=>?_
    by_cases hkj:k≤j
    ·rw [hat0 j (by omega) hkj]
     exact hprev j (by omega) hkj (by omega)
    ·rw [if_pos (by omega)]
   have hQ:=hQ E1 ck1
   rw [hnone] at hQ
   refine aa (mu:=fun _=>false) ?_
   repeat' (first |refine u1 ?_ |refine u2 ?_ |fail)
   refine aa (mu:=fun _=>false) ?_
   repeat' (first |refine u1 ?_ |refine u2 ?_ |fail)
   exact hQ
def iZ (s:ai) (days:List Int):Option (List Order):=if fm s [] 0 0 0=true then some [] else (List.range days.length).findSome? fun m=>di s days (m+1) 0 []
def So:Option (List Order)→AV
 | none=>.tp [.fl (.slice none 0 0),BB false]
 | some []=>.tp [.fl (.slice none 0 0),BB true]
 | some (a :: l)=>.tp [.bI 0 0 0 (a :: l).length ((a :: l).length+1),BB true]
def Sq:Option (List Order)→List AB
 | none=>[]
 | some []=>[]
 | some (a :: l)=>[fo (a :: l) 0]
theorem PU (s:ai) (days:List Int) (df:Bool) (E:List nr) (ck:Nat) (p:List Order):mE 1 4 0 (CV s days df E ck++[fo p 0])=true:=by
 have h1:AB.gO 1 (fo p 0)=true:=kK 1 p
 have h2:AB.gO 4 (fo p 0)=true:=kK 4 p
 show ((false || (AB.gO 1 (.map (aI E) ck) && AB.gO 4 (.map (aI E) ck))) && (true && (true && (true && ((false || (AB.gO 1 (fo p 0) && AB.gO 4 (fo p 0))) && true)))))=true
 rw [nX,nX,h1,h2]
 rfl
theorem Me (E:List nr) (ck:Nat) (p:List Order):mE 0 1 0 ([.map (aI E) ck,fo p 0]:List AB)=true:=by
 have h1:AB.gO 0 (fo p 0)=true:=kK 0 p
 have h2:AB.gO 1 (fo p 0)=true:=kK 1 p
 show (true && ((false || (AB.gO 0 (fo p 0) && AB.gO 1 (fo p 0))) && true))=true
 rw [h1,h2]
 rfl
theorem PV (E:List nr) (ck:Nat) (p:List Order):([.map (aI E) ck,fo p 0]:List AB).all (AB.ic 2)=true:=by
 have h:AB.ic 2 (fo p 0)=true:=oO 2 p
 simp only [List.all_cons,List.all_nil,h,nV,Bool.and_true]
theorem NM (one:Bool) {s:ai} (hg:Good s) {days:List Int} (df:Bool) (h6:days.length≤6) (hdp:days.Pairwise (· < ·)) (hdr:∀ x ∈ days,0≤x∧x < s.days) {aE:bG} {Q:AV→List AB→bG→Prop} (hQ:Q (So (iZ s days)) (Sq (iZ s days)) aE) :
  av TT TB one (.fn 65 [] []) [.ag (az s),.sl (ints days) df] [] aE Q:=by
 have oc:=KF one hg
 have oh:Pu one 64 [.ag (az s),.sl [] false,aC 0,gq 0,aC 0] (BB (fm s [] 0 0 0)):=Fx one (yK hg) false 0 0 0 (Nat.zero_le _) (by decide) (by decide)
 have em:((ints days).length:Int)=days.length:=by simp
 unfold iZ at hQ
 refine av.body (fn:=Tryd.f65) rfl rfl rfl ?_
 refine RM.cS (mu:=fun _=>false) ?_
 repeat' (first |refine u1 ?_ |refine u2 ?_ |fail)
 refine RM.cS (mu:=fun _=>false) ?_
 repeat' (first |refine u1 ?_ |((with_reducible show av _ _ _ _ _ _ _ _);refine ah.call oc rfl rfl ?_) |refine u2 ?_ |fail)
 refine RM.cS (mu:=fun _=>false) ?_
 repeat' (first |refine u1 ?_ |refine u2 ?_ |fail)
 refine aA.aX (aj.trans (aj.giveUp 1 (l:=[(2,.pt (az s) 0),(3,.pt [.sl (ints days) df] 0),(6,.pt [.sl (sS (aK s)) false] 0),(7,.ptr 2 0 0),(8,.ptr 3 0 0)]) (hp:=[.map (aI []) 0,.gone,xH,.cells [.fl .nilFunc] 0 0]) rfl (Nat.zero_le _) rfl ⟨.same rfl,.same rfl,.ptr,.same rfl,.same rfl,trivial⟩ rfl rfl) (aj.refl _)) ?_
 refine RM.cS (mu:=fun _=>false) ?_
 repeat' (first |refine u1 ?_ |refine u2 ?_ |fail)
 cases hh:fm s [] 0 0 0 with
 | true =>
  rw [hh] at oh
  rw [hh,if_pos rfl] at hQ
  refine aA.seq ?_
  refine RM.cS (mu:=fun _=>false) ?_
  repeat' (first |(refine av.soft (dS.cons (bO.refl _) (dS.cons (bO.nil false) (dS.cons (bO.refl _) (dS.cons (bO.refl _) (dS.Gd (bO.refl _)))))) (ah.call oh rfl rfl ?_)) |refine u1 ?_ |refine u2 ?_ |fail)
  refine aA.cond rfl (fun _=>?_) (fun h=>by cases h)
  refine RM.cS (mu:=fun _=>false) ?_
  repeat' (first |refine u1 ?_ |refine u2 ?_ |fail)
  refine aA.aX (aj.to (l:=[(4,.fl (.slice none 0 0)),(5,BB true)]) (hp:=[]) 0 rfl ⟨rfl,rfl,trivial⟩ (Nat.zero_le _) rfl rfl) ?_
  refine aa (mu:=fun _=>false) ?_
  repeat' (first |refine u1 ?_ |refine u2 ?_ |fail)
  exact hQ
 | false =>
  rw [hh] at oh
  rw [hh,if_neg (by simp)] at hQ
  refine RM.cS (mu:=fun _=>false) ?_
  repeat' (first |(refine av.soft (dS.cons (bO.refl _) (dS.cons (bO.nil false) (dS.cons (bO.refl _) (dS.cons (bO.refl _) (dS.Gd (bO.refl _)))))) (ah.call oh rfl rfl ?_)) |refine u1 ?_ |refine u2 ?_ |fail)
  refine aA.seq ?_
  refine RM.cS (mu:=fun _=>false) ?_
  repeat' (first |refine u1 ?_ |refine u2 ?_ |fail)
  refine aA.block ?_
  refine aA.aX (aj.to (l:=[(3,.pt [.sl (ints days) df] 0),(8,.ptr 3 0 0),(9,aC (((0:Nat):Int)+1))]) (hp:=CV s days df [] 0) 4 rfl ⟨rfl,rfl,rfl,trivial⟩ (Nat.zero_le _) rfl rfl) ?_
  refine aA.loop (fun x:Nat × List nr × Nat=>x.1≤6∧∀ j,j < days.length→j < x.1→di s days (j+1) 0 []=none) (fun x=>⟨bx [(3,.pt [.sl (ints days) df] 0),(8,.ptr 3 0 0),(9,aC (((x.1:Nat):Int)+1))],CV s days df x.2.1 x.2.2,aE,false,0⟩) (fun x=>6 - x.1) ?_ (0,[],0) ⟨Nat.zero_le _,fun j _ h=>absurd h (Nat.not_lt_zero _)⟩
  rintro ⟨m,E1,ck1⟩ ⟨hm6,hprev⟩
  dsimp only at hm6 hprev
  show aA _ _ _ _ ⟨bx [(3,.pt [.sl (ints days) df] 0),(8,.ptr 3 0 0),(9,aC (((m:Nat):Int)+1))],CV s days df E1 ck1,aE,false,0⟩ _
  by_cases hlt:m < days.length
  ·have d1:decide ((m:Int)+1≤((ints days).length:Int))=true:=decide_eq_true (by omega)
   have hfill:=Md one hg (df:=df) h6 hdp hdr m 0 0 ((m:Int)+1) rfl (by omega) [] true ⟨Nat.le_refl _,.nil,(fun x hx=>by cases hx),fun x hx=>by cases hx⟩ (by omega) hm6 E1 ck1 aE
   cases hl:di s days (m+1) 0 [] with
   | none =>
    rw [hl] at hfill
    have hno:∀ j,j < days.length→j < m+1→di s days (j+1) 0 []=none:=fun j h1 h2=>by
     by_cases e:j=m
     ·subst e;exact hl
     ·exact hprev j h1 (by omega)
    refine RM.cS (mu:=fun _=>false) ?_
    repeat' (first |refine u1 ?_ |refine u2 ?_ |fail)
    refine aa (mu:=fun _=>false) ?_
    repeat' (first |(refine av.soft (dS.three (bO.nil true) (bO.refl _) (bO.refl _)) (hfill _ (fun E2 ck2=>?_))) |refine u1 ?_ |refine u2 ?_ |fail)
    exact ⟨(m+1,E2,ck2),⟨by dsimp only;omega,hno⟩,(by dsimp only;omega),aj.to 4 rfl ⟨rfl,rfl,bW (by simp),trivial⟩ (Nat.zero_le _) rfl (rI _ _ _ _ _)⟩
   | some p =>
    rw [hl] at hfill
    have hpl:=oQ hl
    have hfw:((List.range days.length).findSome? fun m=>di s days (m+1) 0 [])=some p:=mM hlt hl fun j hj=>hprev j (by omega) hj
    rw [hfw] at hQ
    cases p with
    | nil=>simp at hpl
    | cons a l =>
     have hN0:(a :: l).length ≠ 0:=by simp
     refine RM.cS (mu:=fun _=>false) ?_
     repeat' (first |refine u1 ?_ |refine u2 ?_ |fail)
     refine aA.seq ?_
     refine aA.block ?_
     refine RM.cS (mu:=fun _=>false) ?_
     repeat' (first |(refine av.soft (dS.three (bO.nil true) (bO.refl _) (bO.refl _)) (hfill _ (fun E2 ck2=>?_))) |refine u1 ?_ |refine u2 ?_ |fail)
     refine RM.cS (mu:=fun _=>false) ?_
     repeat' (first |(refine RM.Rv rfl hN0 (by kernel_rfl) rfl ?_) |refine u1 ?_ |refine u2 ?_ |fail)
     refine aA.cond rfl (fun _=>?_) (fun h=>by cases h)
     refine RM.cS (mu:=fun _=>false) ?_
     repeat' (first |refine u1 ?_ |refine u2 ?_ |fail)
     refine aA.aX (aj.trans (aj.DQ 1 4 (l:=[(4,.bI 1 0 0 (a :: l).length ((a :: l).length+1)),(5,BB true)]) (hp:=[.map (aI E2) ck2,fo (a :: l) 0,xH,Av s days df,.gone]) (by decide) rfl rfl (Nat.zero_le _) (Nat.zero_le _) ⟨.bI,.same rfl rfl,trivial⟩ (PU _ _ _ _ _ _) rfl)
      (aj.trans (aj.to (l:=[(4,.bI 1 0 0 (a :: l).length ((a :: l).length+1)),(5,BB true)]) (hp:=[.map (aI E2) ck2,fo (a :: l) 0]) 2 rfl ⟨rfl,rfl,trivial⟩ (Nat.zero_le _) rfl (PV _ _ _))
       (aj.trans (aj.DQ 0 1 (l:=[(4,.bI 0 0 0 (a :: l).length ((a :: l).length+1)),(5,BB true)]) (hp:=[fo (a :: l) 0,.gone]) (by decide) rfl rfl (Nat.zero_le _) (Nat.zero_le _) ⟨.bI,.same rfl rfl,trivial⟩ (Me _ _ _) rfl)
        (aj.to (l:=[(4,.bI 0 0 0 (a :: l).length ((a :: l).length+1)),(5,BB true)]) (hp:=[fo (a :: l) 0]) 1 rfl ⟨rfl,rfl,trivial⟩ (Nat.zero_le _) rfl (lJ _ _))))) ?_
     refine aa (mu:=fun _=>false) ?_
     repeat' (first |refine u1 ?_ |refine u2 ?_ |fail)
     exact hQ
  ·have d1:decide ((m:Int)+1≤((ints days).length:Int))=false:=decide_eq_false (by omega)
   have hfw:((List.range days.length).findSome? fun m=>di s days (m+1) 0 [])=none:=qe fun j hj=>hprev j hj (by omega)
   rw [hfw] at hQ
   refine aa (mu:=fun _=>false) ?_
   repeat' (first |refine u1 ?_ |refine u2 ?_ |fail)
   refine RM.cS (mu:=fun _=>false) ?_
   repeat' (first |refine u1 ?_ |refine u2 ?_ |fail)
   refine aA.aX (aj.to (l:=[(4,.fl (.slice none 0 0)),(5,BB false)]) (hp:=[]) 0 rfl ⟨rfl,rfl,trivial⟩ (Nat.zero_le _) rfl rfl) ?_
   refine aa (mu:=fun _=>false) ?_
   repeat' (first |refine u1 ?_ |refine u2 ?_ |fail)
   exact hQ
end Go.Proofs.YtpeogffeoehboaaDoor
