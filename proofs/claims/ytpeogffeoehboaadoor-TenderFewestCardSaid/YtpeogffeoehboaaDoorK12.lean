/-
  Contracts of the program's functions and of the document's. Lemmas alone; their conditions stand in them.
-/
import Derived.Test.YtpeogffeoehboaaDoorA3
import Derived.Test.YtpeogffeoehboaaDoorK11
open Go Go.RM
namespace Go.Proofs.YtpeogffeoehboaaDoor
set_option maxRecDepth 100000
set_option maxHeartbeats 4000000
def Rj:Option (List Order)→AV
 | none=>.fl (.slice none 0 0)
 | some p=>.bO 4 0 0 p.length (p.length+1)
def Rk (l:List AB):Option (List Order)→List AB
 | none=>l
 | some p=>l++[eT p 0]
abbrev Cf (s:ai) (days:List Int) (df:Bool) (E:List mM) (ck:Nat):List AB:=[.map (aH E) ck,.gone,wS,zO s days df]
theorem qJ (s:ai) (days:List Int) (df:Bool) (E:List mM) (ck:Nat):(Cf s days df E ck).all (AB.gS 4)=true:=by
 simp only [List.all_cons,List.all_nil,nF,Bool.and_true]
 rfl
theorem K4 (one:Bool) {s:ai} (hg:Good s) {days:List Int} {df:Bool} {D:List Int} {N:Nat} (hN:D.length=N) (h1D:1≤D.length) (h6D:D.length≤6) (hDp:D.Pairwise (· < ·)) (hDr:∀ x ∈ D,0≤x∧x < s.days) {E:List mM} {ck:Nat} {cs:List AV} (hcs:cs=O1 D) {aB c:Nat} {fr mz:Int} (hz:mz=0) {aE:bR} {Q:AV→List AB→bR→Prop}
  (hQ:∀ (E':List mM) (ck':Nat) (P':List Order),Q (QL N (ct s D [])) (QM (EL E' ck' .gone wS (zO s days df) P' aB) (ct s D [])) aE) :
  av TT TB one (.fn 83 [] (QO s days df)) [.bO 4 aB 0 N c,aC fr,aC mz] [.map (aH E) ck,.gone,wS,zO s days df,.cells cs 2 aB] aE Q:=by
 subst hN hz
 exact K1 one hg h1D h6D hDp hDr hcs hQ
theorem iL {ds:List Int}:∀ el ∈ ds.map bI,el.length=2:=fun el hel=>by obtain ⟨d,_,rfl⟩:=List.mem_map.1 hel;rfl
theorem nG (j:Nat):∀ (E:List mM) (ck:Nat),AB.gy j (.map (aH E) ck)=true
 | [],_=>rfl
 | _ :: E,ck=>nG j E ck
theorem OH (s:ai) (days:List Int) (df:Bool) (E:List mM) (ck:Nat) (P:List Order) (aB:Nat) (p:List Order):l8 4 5 0 (EL E ck .gone wS (zO s days df) P aB++[eT p 0])=true:=by
 have h1:AB.gy 4 (eT p 0)=true:=kE 4 p
 have h2:AB.gy 5 (eT p 0)=true:=kE 5 p
 show ((false || (AB.gy 4 (.map (aH E) ck) && AB.gy 5 (.map (aH E) ck))) && (true && (true && (true && ((true || (AB.gy 4 (eT P aB) && AB.gy 5 (eT P aB))) && ((false || (AB.gy 4 (eT p 0) && AB.gy 5 (eT p 0))) && true))))))=true
 rw [nG,nG,h1,h2]
 rfl
theorem OI (s:ai) (days:List Int) (df:Bool) (E:List mM) (ck:Nat) (p:List Order):(Cf s days df E ck++[eT p 0]).all (AB.gS 5)=true:=by
 have h:AB.gS 5 (eT p 0)=true:=ou 5 p
 show (AB.gS 5 (.map (aH E) ck) && (true && (true && (true && (AB.gS 5 (eT p 0) && true)))))=true
 rw [nF,h]
 rfl
theorem lE {s:ai} {days:List Int}:∀ {m fr:Nat} {ds:List Int} {p:List Order},cH s days m fr ds=some p→p.length=ds.length+m
 | 0,fr,ds,p,h=>by
  obtain ⟨q,rfl,h2,_⟩:=jN h
  rw [←h2]
  simp
 | m+1,fr,ds,p,h=>by
  rw [cH,List.findSome?_eq_some_iff] at h
  obtain ⟨l1,i,l2,_,h,_⟩:=h
  split at h
  ·cases h
  ·cases hd:days[i]? with
   | none=>rw [hd] at h;cases h
   | some d =>
    rw [hd] at h
    have:=lE h
    rw [List.length_append,List.length_singleton] at this
    omega
theorem K5 (one:Bool) {s:ai} (hg:Good s) {days:List Int} {df:Bool} (h6:days.length≤6) (hdp:days.Pairwise (· < ·)) (hdr:∀ x ∈ days,0≤x∧x < s.days) :
  ∀ (m k:Nat) (fi mm:Int) (_:fi=(k:Nat)) (_:mm=((m+1:Nat):Int)) (ds:List Int) (full:Bool) (_:JQ s days ds k) (_:k≤6) (_:m≤6) (E:List mM) (ck:Nat) (aE:bR) (Q:AV→List AB→bR→Prop)
   (_:∀ (E':List mM) (ck':Nat),Q (Rj (cH s days (m+1) k ds)) (Rk (Cf s days df E' ck') (cH s days (m+1) k ds)) aE),
   av TT TB one (.fn 83 [] (QO s days df)) [.sl (ds.map bI) full,aC fi,aC mm] (Cf s days df E ck) aE Q:=by
 intro m
 induction m with
 | zero =>
  intro k fi mm hfi hmm ds full hds hk6 hm6 E ck aE Q hQ
  subst hfi hmm
  have hdl:=hds.len
  have em:((ints days).length:Int)=days.length:=by simp
  have d0:decide (((0+1:Nat):Int)=0)=false:=by decide
  have hfv:cH s days (0+1) k ds=(List.range (days.length - 0)).findSome? fun i=>if i < k then none else match days[i]? with
   | some d=>ct s (ds++[d]) []
   | none=>none:=rfl
  have hat0:∀ (j:Nat) (h:j < days.length),k≤j→(if j < k then none else match days[j]? with
   | some d=>ct s (ds++[d]) []
   | none=>none)=ct s (ds++[days[j]]) []:=fun j h hj=>by rw [if_neg (by omega),List.getElem?_eq_getElem h]
  refine av.body (fn:=Tryd.f83) rfl rfl rfl ?_
  refine RM.dH (mu:=fun t=>Nat.beq t 44) ?_
  repeat' (first |refine u1 ?_ |refine u2 ?_ |fail)
  refine RM.dH (mu:=fun t=>Nat.beq t 44) ?_
  repeat' (first |refine u1 ?_ |refine u2 ?_ |fail)
  refine aA.seq ?_
  refine RM.dH (mu:=fun t=>Nat.beq t 44) ?_
  repeat' (first |refine u1 ?_ |refine u2 ?_ |fail)
  refine aA.block ?_
  refine aA.aU (ak.to (l:=[(0,.sl (ds.map bI) full),(2,aC ((0+1:Nat):Int)),(3,.ptr 2 0 0),(4,.pt (ay s) 0),(5,.pt [.sl (rV (aI s)) false] 0),(6,.pt [.sl (ints days) df] 0),(7,.ptr 3 0 0),(12,aC (k:Nat))]) (hp:=Cf s days df E ck) 4 rfl ⟨rfl,rfl,rfl,rfl,rfl,rfl,rfl,rfl,trivial⟩ (Nat.le_refl _) rfl (qJ _ _ _ _ _)) ?_
  refine aA.loop (fun x:Nat × List mM × Nat=>(k≤x.1∧x.1≤6)∧∀ (j:Nat) (h:j < days.length),k≤j→j < x.1→ct s (ds++[days[j]]) []=none) (fun x=>⟨bu [(0,.sl (ds.map bI) full),(2,aC ((0+1:Nat):Int)),(3,.ptr 2 0 0),(4,.pt (ay s) 0),(5,.pt [.sl (rV (aI s)) false] 0),(6,.pt [.sl (ints days) df] 0),(7,.ptr 3 0 0),(12,aC (x.1:Nat))],Cf s days df x.2.1 x.2.2,aE,false,4⟩) (fun x=>6 - x.1) ?_ (k,E,ck) ⟨⟨Nat.le_refl _,hk6⟩,fun j h h1 h2=>by dsimp only at h2;omega⟩
  rintro ⟨i,E1,ck1⟩ ⟨⟨hki,hi6⟩,hprev⟩
  dsimp only at hki hi6 hprev
  show aA _ _ _ _ ⟨bu [(0,.sl (ds.map bI) full),(2,aC ((0+1:Nat):Int)),(3,.ptr 2 0 0),(4,.pt (ay s) 0),(5,.pt [.sl (rV (aI s)) false] 0),(6,.pt [.sl (ints days) df] 0),(7,.ptr 3 0 0),(12,aC (i:Nat))],Cf s days df E1 ck1,aE,false,4⟩ _
  by_cases hlt:i < days.length
  ·have d1:decide ((i:Int)≤((ints days).length:Int) - ((0+1:Nat):Int))=true:=decide_eq_true (by omega)
   have hat:(ints days)[((i:Nat):Int).toNat]?=some (eI days[i]):=bY hlt
   have hsn:=hds.snoc hdp hdr hki hlt
   have hDl:(ds++[days[i]]).length=(ds.map bI).length+([bI days[i]]:List (List AV)).length:=by simp
   have hD6:(ds++[days[i]]).length≤6:=by have:=hsn.len;omega
   have hcs:=JP ds days[i]
   have hnx:ct s (ds++[days[i]]) []=none→∀ (j:Nat) (h:j < days.length),k≤j→j < i+1→ct s (ds++[days[j]]) []=none:=fun h j hj h1 h2=>by
    by_cases e:j=i
    ·subst e;exact h
    ·exact hprev j hj h1 (by omega)
   have hfs:∀ p,ct s (ds++[days[i]]) []=some p→cH s days (0+1) k ds=some p:=fun p h=>by
    rw [hfv]
    refine mq (i:=i) (by omega) (by rw [hat0 i hlt hki];exact h) fun j hj=>?_
    by_cases hkj:k≤j
    ·rw [hat0 j (by omega) hkj]
     exact hprev j (by omega) hkj hj
    ·rw [if_pos (by omega)]
   have hbd:((ds.map bI).length+([bI days[i]]:List (List AV)).length)≤7:=by rw [←hDl];omega
   have hplen:∀ p,ct s (ds++[days[i]]) []=some p→p.length=(ds.map bI).length+([bI days[i]]:List (List AV)).length:=fun p h=>by
    obtain ⟨q,rfl,h2,_⟩:=jN h
    rw [←hDl,←h2]
    simp
   have hf0:=fun (c:Nat) (fr:Int) (Q:AV→List AB→bR→Prop) (hQ:∀ (E':List mM) (ck':Nat) (P':List Order),Q (QL ((ds.map bI).length+([bI days[i]]:List (List AV)).length) (ct s (ds++[days[i]]) [])) (QM (EL E' ck' .gone wS (zO s days df) P' 0) (ct s (ds++[days[i]]) [])) aE)=>K4 one hg (days:=days) (df:=df) (D:=ds++[days[i]]) (N:=(ds.map bI).length+([bI days[i]]:List (List AV)).length) hDl (by rw [List.length_append,List.length_singleton];omega) hD6 hsn.Df hsn.day (E:=E1) (ck:=ck1) (cs:=(ds.map bI).flatten++[bI days[i]].flatten) hcs (aB:=0) (c:=c) (fr:=fr) (mz:=((0+1:Nat):Int) - 1) (by decide) (aE:=aE) (Q:=Q) hQ
   generalize days[i]=d at *
   cases hl:ct s (ds++[d]) [] with
   | none =>
    rw [hl] at hf0
    have hno:=hnx hl
    refine RM.dH (mu:=fun t=>Nat.beq t 44) ?_
    repeat' (first |refine u1 ?_ |refine u2 ?_ |fail)
    refine aA.seq ?_
    refine aA.block ?_
    refine aA.seq ?_
    refine aA.EO (c:=18) (l1:=[_,_,_,_,_,_,_,_,_,_,_,_,_,_,_,_,_,_]) (l2:=[_,_]) (mu:=fun t=>Nat.beq t 44) (by kernel_rfl) rfl rfl ?_
    repeat' (first |(refine RM.QU rfl rfl rfl rfl (by decide) iL ?_) |(refine RM.QT ?_) |((with_reducible show RM.wpOp _ _ (.call _) _ _ _);refine Qz (els0:=ds.map bI) (els:=[bI d]) rfl rfl rfl rfl rfl iL (fun el hel=>by rw [List.mem_singleton.1 hel];rfl) rfl (by simp) ⟨by show ((ds.map bI).length+1) * 32≤_;omega,by omega⟩ ?_) |(refine hf0 _ _ _ (fun E2 ck2 P3=>?_)) |refine u1 ?_ |((with_reducible show RM.wpOp _ _ (.indexAddr _ _ _) _ _ _);refine ⟨eI d,⟨by omega,hat⟩,rfl,?_⟩) |refine u2 ?_ |fail)
    refine aa (mu:=fun _=>false) ?_
    repeat' (first |refine u1 ?_ |refine u2 ?_ |fail)
    refine aa (mu:=fun _=>false) ?_
    repeat' (first |refine u1 ?_ |refine u2 ?_ |fail)
    exact ⟨(i+1,E2,ck2),⟨⟨by dsimp only;omega,by dsimp only;omega⟩,hno⟩,(by dsimp only;omega),ak.to 4 rfl ⟨rfl,rfl,rfl,rfl,rfl,rfl,rfl,bM (by simp),trivial⟩ (Nat.le_refl _) rfl (qJ _ _ _ _ _)⟩
   | some p =>
    rw [hl] at hf0
    have hsome:=hfs p hl
    rw [hsome] at hQ
    have hpl:=hplen p hl
    have hN0:(ds.map bI).length+([bI d]:List (List AV)).length ≠ 0:=by simp
    refine RM.dH (mu:=fun t=>Nat.beq t 44) ?_
    repeat' (first |refine u1 ?_ |refine u2 ?_ |fail)
    refine aA.seq ?_
    refine aA.block ?_
    refine aA.seq ?_
    refine aA.EO (c:=18) (l1:=[_,_,_,_,_,_,_,_,_,_,_,_,_,_,_,_,_,_]) (l2:=[_,_]) (mu:=fun t=>Nat.beq t 44) (by kernel_rfl) rfl rfl ?_
    repeat' (first |(refine RM.QU rfl rfl rfl rfl (by decide) iL ?_) |(refine RM.QT ?_) |((with_reducible show RM.wpOp _ _ (.call _) _ _ _);refine Qz (els0:=ds.map bI) (els:=[bI d]) rfl rfl rfl rfl rfl iL (fun el hel=>by rw [List.mem_singleton.1 hel];rfl) rfl (by simp) ⟨by show ((ds.map bI).length+1) * 32≤_;omega,by omega⟩ ?_) |(refine hf0 _ _ _ (fun E2 ck2 P3=>?_)) |refine u1 ?_ |((with_reducible show RM.wpOp _ _ (.indexAddr _ _ _) _ _ _);refine ⟨eI d,⟨by omega,hat⟩,rfl,?_⟩) |refine u2 ?_ |fail)
    refine aA.seq ?_
    refine aa (mu:=fun _=>false) ?_
    repeat' (first |(refine RM.Qo rfl hN0 (by kernel_rfl) rfl ?_) |refine u1 ?_ |refine u2 ?_ |fail)
    have hQ:=hQ E2 ck2
    unfold Rj Rk at hQ
    dsimp only at hQ
    rw [hpl] at hQ
    refine aA.cond rfl (fun _=>?_) (fun h=>by cases h)
    refine RM.dH (mu:=fun t=>Nat.beq t 44) ?_
    repeat' (first |refine u1 ?_ |refine u2 ?_ |fail)
    refine aA.aU (ak.trans (ak.C8 4 5 (l:=[(11,.bO 4 0 0 ((ds.map bI).length+([bI d]:List (List AV)).length) ((ds.map bI).length+([bI d]:List (List AV)).length+1))]) (hp:=Cf s days df E2 ck2++[eT p 0,.gone]) (by decide) rfl rfl (Nat.le_refl _) (Nat.le_of_ble_eq_true rfl) ⟨.bO,trivial⟩ (OH _ _ _ _ _ _ _ _) rfl)
     (ak.to (l:=[(11,.bO 4 0 0 ((ds.map bI).length+([bI d]:List (List AV)).length) ((ds.map bI).length+([bI d]:List (List AV)).length+1))]) (hp:=Cf s days df E2 ck2++[eT p 0]) 5 rfl ⟨rfl,trivial⟩ (Nat.le_of_ble_eq_true rfl) rfl (OI _ _ _ _ _ _))) ?_
    refine aa (mu:=fun _=>false) ?_
    repeat' (first |refine u1 ?_ |refine u2 ?_ |fail)
    exact hQ
  ·have d1:decide ((i:Int)≤((ints days).length:Int) - ((0+1:Nat):Int))=false:=decide_eq_false (by omega)
   have hnone:cH s days (0+1) k ds=none:=by
    rw [hfv]
    refine pG fun j hj=>?_
    by_cases hkj:k≤j
    ·rw [hat0 j (by omega) hkj]
     exact hprev j (by omega) hkj (by omega)
    ·rw [if_pos (by omega)]
   have hQ:=hQ E1 ck1
   rw [hnone] at hQ
   refine aa (mu:=fun _=>false) ?_
   repeat' (first |refine u1 ?_ |refine u2 ?_ |fail)
   refine aa (mu:=fun _=>false) ?_
   repeat' (first |refine u1 ?_ |refine u2 ?_ |fail)
   exact hQ
 | succ m ih =>
  intro k fi mm hfi hmm ds full hds hk6 hm6 E ck aE Q hQ
  subst hfi hmm
  have hdl:=hds.len
  have em:((ints days).length:Int)=days.length:=by simp
  have d0:decide (((m+1+1:Nat):Int)=0)=false:=decide_eq_false (by omega)
  have hfv:cH s days (m+1+1) k ds=(List.range (days.length - (m+1))).findSome? fun i=>if i < k then none else match days[i]? with
   | some d=>cH s days (m+1) (i+1) (ds++[d])
   | none=>none:=rfl
  have hat0:∀ (j:Nat) (h:j < days.length),k≤j→(if j < k then none else match days[j]? with
   | some d=>cH s days (m+1) (j+1) (ds++[d])
   | none=>none)=cH s days (m+1) (j+1) (ds++[days[j]]):=fun j h hj=>by rw [if_neg (by omega),List.getElem?_eq_getElem h]
  refine av.body (fn:=Tryd.f83) rfl rfl rfl ?_
  refine RM.dH (mu:=fun _=>false) ?_
  repeat' (first |refine u1 ?_ |refine u2 ?_ |fail)
  refine RM.dH (mu:=fun _=>false) ?_
  repeat' (first |refine u1 ?_ |refine u2 ?_ |fail)
  refine aA.seq ?_
  refine RM.dH (mu:=fun _=>false) ?_
  repeat' (first |refine u1 ?_ |refine u2 ?_ |fail)
  refine aA.block ?_
  refine aA.aU (ak.to (l:=[(0,.sl (ds.map bI) full),(2,aC ((m+1+1:Nat):Int)),(3,.ptr 2 0 0),(4,.pt (ay s) 0),(5,.pt [.sl (rV (aI s)) false] 0),(6,.pt [.sl (ints days) df] 0),(7,.ptr 3 0 0),(12,aC (k:Nat))]) (hp:=Cf s days df E ck) 4 rfl ⟨rfl,rfl,rfl,rfl,rfl,rfl,rfl,rfl,trivial⟩ (Nat.le_refl _) rfl (qJ _ _ _ _ _)) ?_
  refine aA.loop (fun x:Nat × List mM × Nat=>(k≤x.1∧x.1≤6)∧∀ (j:Nat) (h:j < days.length),k≤j→j < x.1→cH s days (m+1) (j+1) (ds++[days[j]])=none) (fun x=>⟨bu [(0,.sl (ds.map bI) full),(2,aC ((m+1+1:Nat):Int)),(3,.ptr 2 0 0),(4,.pt (ay s) 0),(5,.pt [.sl (rV (aI s)) false] 0),(6,.pt [.sl (ints days) df] 0),(7,.ptr 3 0 0),(12,aC (x.1:Nat))],Cf s days df x.2.1 x.2.2,aE,false,4⟩) (fun x=>6 - x.1) ?_ (k,E,ck) ⟨⟨Nat.le_refl _,hk6⟩,fun j h h1 h2=>by dsimp only at h2;omega⟩
  rintro ⟨i,E1,ck1⟩ ⟨⟨hki,hi6⟩,hprev⟩
  dsimp only at hki hi6 hprev
  show aA _ _ _ _ ⟨bu [(0,.sl (ds.map bI) full),(2,aC ((m+1+1:Nat):Int)),(3,.ptr 2 0 0),(4,.pt (ay s) 0),(5,.pt [.sl (rV (aI s)) false] 0),(6,.pt [.sl (ints days) df] 0),(7,.ptr 3 0 0),(12,aC (i:Nat))],Cf s days df E1 ck1,aE,false,4⟩ _
  by_cases hlt2:i+(m+2)≤days.length
  ·have hlt:i < days.length:=by omega
   have d1:decide ((i:Int)≤((ints days).length:Int) - ((m+1+1:Nat):Int))=true:=decide_eq_true (by omega)
   have hat:(ints days)[((i:Nat):Int).toNat]?=some (eI days[i]):=bY hlt
   have hsn:=hds.snoc hdp hdr hki hlt
   have hnx:cH s days (m+1) (i+1) (ds++[days[i]])=none→∀ (j:Nat) (h:j < days.length),k≤j→j < i+1→cH s days (m+1) (j+1) (ds++[days[j]])=none:=fun h j hj h1 h2=>by
    by_cases e:j=i
    ·subst e;exact h
    ·exact hprev j hj h1 (by omega)
   have hfs:∀ p,cH s days (m+1) (i+1) (ds++[days[i]])=some p→cH s days (m+1+1) k ds=some p:=fun p h=>by
    rw [hfv]
    refine mq (i:=i) (by omega) (by rw [hat0 i hlt hki];exact h) fun j hj=>?_
    by_cases hkj:k≤j
    ·rw [hat0 j (by omega) hkj]
     exact hprev j (by omega) hkj hj
    ·rw [if_pos (by omega)]
   have hbd:(ds.map bI).length+([bI days[i]]:List (List AV)).length≤7:=by
    rw [List.length_map]
    show ds.length+1≤7
    omega
   have ih':=ih (i+1) ((i:Int)+1) (((m+1+1:Nat):Int) - 1) (by omega) (by omega) (ds++[days[i]]) false hsn (by omega) (by omega) E1 ck1 aE
   have eds:(ds++[days[i]]).map bI=ds.map bI++[bI days[i]]:=by rw [List.map_append];rfl
   rw [eds] at ih'
   have hmi:-9223372036854775808≤((m+1+1:Nat):Int) - 1∧((m+1+1:Nat):Int) - 1≤9223372036854775807:=by omega
   generalize days[i]=d at *
   cases hl:cH s days (m+1) (i+1) (ds++[d]) with
   | none =>
    rw [hl] at ih'
    have hno:=hnx hl
    refine RM.dH (mu:=fun _=>false) ?_
    repeat' (first |refine u1 ?_ |refine u2 ?_ |fail)
    refine aA.seq ?_
    refine aA.block ?_
    refine aA.seq ?_
    refine aA.EO (c:=18) (l1:=[_,_,_,_,_,_,_,_,_,_,_,_,_,_,_,_,_,_]) (l2:=[_,_]) (mu:=fun _=>false) (by kernel_rfl) rfl rfl ?_
    repeat' (first |(refine RM.QU rfl rfl rfl rfl (by decide) iL ?_) |(refine RM.QT ?_) |(refine RM.Of (els0:=ds.map bI) (els:=[bI d]) rfl rfl rfl rfl rfl iL (fun el hel=>by rw [List.mem_singleton.1 hel];rfl) rfl (by simp) ⟨by show ((ds.map bI).length+1) * 32≤_;omega,by omega⟩ rfl ?_) |(refine ih' _ (fun E2 ck2=>?_)) |refine u1 ?_ |((with_reducible show RM.wpOp _ _ (.indexAddr _ _ _) _ _ _);refine ⟨eI d,⟨by omega,hat⟩,rfl,?_⟩) |refine u2 ?_ |fail)
    refine aa (mu:=fun _=>false) ?_
    repeat' (first |refine u1 ?_ |refine u2 ?_ |fail)
    refine aa (mu:=fun _=>false) ?_
    repeat' (first |refine u1 ?_ |refine u2 ?_ |fail)
    exact ⟨(i+1,E2,ck2),⟨⟨by dsimp only;omega,by dsimp only;omega⟩,hno⟩,(by dsimp only;omega),ak.to 4 rfl ⟨rfl,rfl,rfl,rfl,rfl,rfl,rfl,bM (by simp),trivial⟩ (Nat.le_refl _) rfl (qJ _ _ _ _ _)⟩
   | some p =>
    rw [hl] at ih'
    have hsome:=hfs p hl
    rw [hsome] at hQ
    have hpl:=lE hl
    have hN0:p.length ≠ 0:=by omega
    refine RM.dH (mu:=fun _=>false) ?_
    repeat' (first |refine u1 ?_ |refine u2 ?_ |fail)
    refine aA.seq ?_
    refine aA.block ?_
    refine aA.seq ?_
    refine aA.EO (c:=18) (l1:=[_,_,_,_,_,_,_,_,_,_,_,_,_,_,_,_,_,_]) (l2:=[_,_]) (mu:=fun _=>false) (by kernel_rfl) rfl rfl ?_
    repeat' (first |(refine RM.QU rfl rfl rfl rfl (by decide) iL ?_) |(refine RM.QT ?_) |(refine RM.Of (els0:=ds.map bI) (els:=[bI d]) rfl rfl rfl rfl rfl iL (fun el hel=>by rw [List.mem_singleton.1 hel];rfl) rfl (by simp) ⟨by show ((ds.map bI).length+1) * 32≤_;omega,by omega⟩ rfl ?_) |(refine ih' _ (fun E2 ck2=>?_)) |refine u1 ?_ |((with_reducible show RM.wpOp _ _ (.indexAddr _ _ _) _ _ _);refine ⟨eI d,⟨by omega,hat⟩,rfl,?_⟩) |refine u2 ?_ |fail)
    refine aa (mu:=fun _=>false) ?_
    repeat' (first |(refine RM.Qo rfl hN0 (by kernel_rfl) rfl ?_) |refine u1 ?_ |refine u2 ?_ |fail)
    exact hQ E2 ck2
  ·have d1:decide ((i:Int)≤((ints days).length:Int) - ((m+1+1:Nat):Int))=false:=decide_eq_false (by omega)
   have hnone:cH s days (m+1+1) k ds=none:=by
    rw [hfv]
    refine pG fun j hj=>?_
    by_cases hkj:k≤j
    ·rw [hat0 j (by omega) hkj]
     exact hprev j (by omega) hkj (by omega)
    ·rw [if_pos (by omega)]
   have hQ:=hQ E1 ck1
   rw [hnone] at hQ
   refine aa (mu:=fun _=>false) ?_
   repeat' (first |refine u1 ?_ |refine u2 ?_ |fail)
   refine aa (mu:=fun _=>false) ?_
   repeat' (first |refine u1 ?_ |refine u2 ?_ |fail)
   exact hQ
end Go.Proofs.YtpeogffeoehboaaDoor
open Go Go.RM
namespace Go.Proofs.YtpeogffeoehboaaDoor
set_option maxRecDepth 100000
set_option maxHeartbeats 4000000
def qK (s:ai) (days:List Int):Option (List Order):=if eR s [] 0 0 0=true then some [] else (List.range days.length).findSome? fun m=>cH s days (m+1) 0 []
def Rl:Option (List Order)→AV
 | none=>.tp [.fl (.slice none 0 0),BB false]
 | some []=>.tp [.fl (.slice none 0 0),BB true]
 | some (a :: l)=>.tp [.bO 0 0 0 (a :: l).length ((a :: l).length+1),BB true]
def Rm:Option (List Order)→List AB
 | none=>[]
 | some []=>[]
 | some (a :: l)=>[eT (a :: l) 0]
theorem OJ (s:ai) (days:List Int) (df:Bool) (E:List mM) (ck:Nat) (p:List Order):l8 1 4 0 (Cf s days df E ck++[eT p 0])=true:=by
 have h1:AB.gy 1 (eT p 0)=true:=kE 1 p
 have h2:AB.gy 4 (eT p 0)=true:=kE 4 p
 show ((false || (AB.gy 1 (.map (aH E) ck) && AB.gy 4 (.map (aH E) ck))) && (true && (true && (true && ((false || (AB.gy 1 (eT p 0) && AB.gy 4 (eT p 0))) && true)))))=true
 rw [nG,nG,h1,h2]
 rfl
theorem K6 (E:List mM) (ck:Nat) (p:List Order):l8 0 1 0 ([.map (aH E) ck,eT p 0]:List AB)=true:=by
 have h1:AB.gy 0 (eT p 0)=true:=kE 0 p
 have h2:AB.gy 1 (eT p 0)=true:=kE 1 p
 show (true && ((false || (AB.gy 0 (eT p 0) && AB.gy 1 (eT p 0))) && true))=true
 rw [h1,h2]
 rfl
theorem OK (E:List mM) (ck:Nat) (p:List Order):([.map (aH E) ck,eT p 0]:List AB).all (AB.gS 2)=true:=by
 have h:AB.gS 2 (eT p 0)=true:=ou 2 p
 simp only [List.all_cons,List.all_nil,h,nF,Bool.and_true]
theorem QB (one:Bool) {s:ai} (hg:Good s) {days:List Int} (df:Bool) (h6:days.length≤6) (hdp:days.Pairwise (· < ·)) (hdr:∀ x ∈ days,0≤x∧x < s.days) {aE:bR} {Q:AV→List AB→bR→Prop} (hQ:Q (Rl (qK s days)) (Rm (qK s days)) aE) :
  av TT TB one (.fn 65 [] []) [.ag (ay s),.sl (ints days) df] [] aE Q:=by
 have oc:=JO one hg
 have oh:Pu one 64 [.ag (ay s),.sl [] false,aC 0,fU 0,aC 0] (BB (eR s [] 0 0 0)):=ED one (x7 hg) false 0 0 0 (Nat.zero_le _) (by decide) (by decide)
 have em:((ints days).length:Int)=days.length:=by simp
 unfold qK at hQ
 refine av.body (fn:=Tryd.f65) rfl rfl rfl ?_
 refine RM.dH (mu:=fun _=>false) ?_
 repeat' (first |refine u1 ?_ |refine u2 ?_ |fail)
 refine RM.dH (mu:=fun _=>false) ?_
 repeat' (first |refine u1 ?_ |((with_reducible show av _ _ _ _ _ _ _ _);refine ah.call oc rfl rfl ?_) |refine u2 ?_ |fail)
 refine RM.dH (mu:=fun _=>false) ?_
 repeat' (first |refine u1 ?_ |refine u2 ?_ |fail)
 refine aA.aU (ak.trans (ak.giveUp 1 (l:=[(2,.pt (ay s) 0),(3,.pt [.sl (ints days) df] 0),(6,.pt [.sl (rV (aI s)) false] 0),(7,.ptr 2 0 0),(8,.ptr 3 0 0)]) (hp:=[.map (aH []) 0,.gone,wS,.cells [.fl .nilFunc] 0 0]) rfl (Nat.zero_le _) rfl ⟨.same rfl,.same rfl,.ptr,.same rfl,.same rfl,trivial⟩ rfl rfl) (ak.refl _)) ?_
 refine RM.dH (mu:=fun _=>false) ?_
 repeat' (first |refine u1 ?_ |refine u2 ?_ |fail)
 cases hh:eR s [] 0 0 0 with
 | true =>
  rw [hh] at oh
  rw [hh,if_pos rfl] at hQ
  refine aA.seq ?_
  refine RM.dH (mu:=fun _=>false) ?_
  repeat' (first |(refine av.soft (dG.cons (cw.refl _) (dG.cons (cw.nil false) (dG.cons (cw.refl _) (dG.cons (cw.refl _) (dG.Fo (cw.refl _)))))) (ah.call oh rfl rfl ?_)) |refine u1 ?_ |refine u2 ?_ |fail)
  refine aA.cond rfl (fun _=>?_) (fun h=>by cases h)
  refine RM.dH (mu:=fun _=>false) ?_
  repeat' (first |refine u1 ?_ |refine u2 ?_ |fail)
  refine aA.aU (ak.to (l:=[(4,.fl (.slice none 0 0)),(5,BB true)]) (hp:=[]) 0 rfl ⟨rfl,rfl,trivial⟩ (Nat.zero_le _) rfl rfl) ?_
  refine aa (mu:=fun _=>false) ?_
  repeat' (first |refine u1 ?_ |refine u2 ?_ |fail)
  exact hQ
 | false =>
  rw [hh] at oh
  rw [hh,if_neg (by simp)] at hQ
  refine RM.dH (mu:=fun _=>false) ?_
  repeat' (first |(refine av.soft (dG.cons (cw.refl _) (dG.cons (cw.nil false) (dG.cons (cw.refl _) (dG.cons (cw.refl _) (dG.Fo (cw.refl _)))))) (ah.call oh rfl rfl ?_)) |refine u1 ?_ |refine u2 ?_ |fail)
  refine aA.seq ?_
  refine RM.dH (mu:=fun _=>false) ?_
  repeat' (first |refine u1 ?_ |refine u2 ?_ |fail)
  refine aA.block ?_
  refine aA.aU (ak.to (l:=[(3,.pt [.sl (ints days) df] 0),(8,.ptr 3 0 0),(9,aC (((0:Nat):Int)+1))]) (hp:=Cf s days df [] 0) 4 rfl ⟨rfl,rfl,rfl,trivial⟩ (Nat.zero_le _) rfl rfl) ?_
  refine aA.loop (fun x:Nat × List mM × Nat=>x.1≤6∧∀ j,j < days.length→j < x.1→cH s days (j+1) 0 []=none) (fun x=>⟨bu [(3,.pt [.sl (ints days) df] 0),(8,.ptr 3 0 0),(9,aC (((x.1:Nat):Int)+1))],Cf s days df x.2.1 x.2.2,aE,false,0⟩) (fun x=>6 - x.1) ?_ (0,[],0) ⟨Nat.zero_le _,fun j _ h=>absurd h (Nat.not_lt_zero _)⟩
  rintro ⟨m,E1,ck1⟩ ⟨hm6,hprev⟩
  dsimp only at hm6 hprev
  show aA _ _ _ _ ⟨bu [(3,.pt [.sl (ints days) df] 0),(8,.ptr 3 0 0),(9,aC (((m:Nat):Int)+1))],Cf s days df E1 ck1,aE,false,0⟩ _
  by_cases hlt:m < days.length
  ·have d1:decide ((m:Int)+1≤((ints days).length:Int))=true:=decide_eq_true (by omega)
   have hfill:=K5 one hg (df:=df) h6 hdp hdr m 0 0 ((m:Int)+1) rfl (by omega) [] true ⟨Nat.le_refl _,.nil,(fun x hx=>by cases hx),fun x hx=>by cases hx⟩ (by omega) hm6 E1 ck1 aE
   cases hl:cH s days (m+1) 0 [] with
   | none =>
    rw [hl] at hfill
    have hno:∀ j,j < days.length→j < m+1→cH s days (j+1) 0 []=none:=fun j h1 h2=>by
     by_cases e:j=m
     ·subst e;exact hl
     ·exact hprev j h1 (by omega)
    refine RM.dH (mu:=fun _=>false) ?_
    repeat' (first |refine u1 ?_ |refine u2 ?_ |fail)
    refine aa (mu:=fun _=>false) ?_
    repeat' (first |(refine av.soft (dG.three (cw.nil true) (cw.refl _) (cw.refl _)) (hfill _ (fun E2 ck2=>?_))) |refine u1 ?_ |refine u2 ?_ |fail)
    exact ⟨(m+1,E2,ck2),⟨by dsimp only;omega,hno⟩,(by dsimp only;omega),ak.to 4 rfl ⟨rfl,rfl,bM (by simp),trivial⟩ (Nat.zero_le _) rfl (qJ _ _ _ _ _)⟩
   | some p =>
    rw [hl] at hfill
    have hpl:=lE hl
    have hfw:((List.range days.length).findSome? fun m=>cH s days (m+1) 0 [])=some p:=mq hlt hl fun j hj=>hprev j (by omega) hj
    rw [hfw] at hQ
    cases p with
    | nil=>simp at hpl
    | cons a l =>
     have hN0:(a :: l).length ≠ 0:=by simp
     refine RM.dH (mu:=fun _=>false) ?_
     repeat' (first |refine u1 ?_ |refine u2 ?_ |fail)
     refine aA.seq ?_
     refine aA.block ?_
     refine RM.dH (mu:=fun _=>false) ?_
     repeat' (first |(refine av.soft (dG.three (cw.nil true) (cw.refl _) (cw.refl _)) (hfill _ (fun E2 ck2=>?_))) |refine u1 ?_ |refine u2 ?_ |fail)
     refine RM.dH (mu:=fun _=>false) ?_
     repeat' (first |(refine RM.Qo rfl hN0 (by kernel_rfl) rfl ?_) |refine u1 ?_ |refine u2 ?_ |fail)
     refine aA.cond rfl (fun _=>?_) (fun h=>by cases h)
     refine RM.dH (mu:=fun _=>false) ?_
     repeat' (first |refine u1 ?_ |refine u2 ?_ |fail)
     refine aA.aU (ak.trans (ak.C8 1 4 (l:=[(4,.bO 1 0 0 (a :: l).length ((a :: l).length+1)),(5,BB true)]) (hp:=[.map (aH E2) ck2,eT (a :: l) 0,wS,zO s days df,.gone]) (by decide) rfl rfl (Nat.zero_le _) (Nat.zero_le _) ⟨.bO,.same rfl rfl,trivial⟩ (OJ _ _ _ _ _ _) rfl)
      (ak.trans (ak.to (l:=[(4,.bO 1 0 0 (a :: l).length ((a :: l).length+1)),(5,BB true)]) (hp:=[.map (aH E2) ck2,eT (a :: l) 0]) 2 rfl ⟨rfl,rfl,trivial⟩ (Nat.zero_le _) rfl (OK _ _ _))
       (ak.trans (ak.C8 0 1 (l:=[(4,.bO 0 0 0 (a :: l).length ((a :: l).length+1)),(5,BB true)]) (hp:=[eT (a :: l) 0,.gone]) (by decide) rfl rfl (Nat.zero_le _) (Nat.zero_le _) ⟨.bO,.same rfl rfl,trivial⟩ (K6 _ _ _) rfl)
        (ak.to (l:=[(4,.bO 0 0 0 (a :: l).length ((a :: l).length+1)),(5,BB true)]) (hp:=[eT (a :: l) 0]) 1 rfl ⟨rfl,rfl,trivial⟩ (Nat.zero_le _) rfl (lB _ _))))) ?_
     refine aa (mu:=fun _=>false) ?_
     repeat' (first |refine u1 ?_ |refine u2 ?_ |fail)
     exact hQ
  ·have d1:decide ((m:Int)+1≤((ints days).length:Int))=false:=decide_eq_false (by omega)
   have hfw:((List.range days.length).findSome? fun m=>cH s days (m+1) 0 [])=none:=pG fun j hj=>hprev j hj (by omega)
   rw [hfw] at hQ
   refine aa (mu:=fun _=>false) ?_
   repeat' (first |refine u1 ?_ |refine u2 ?_ |fail)
   refine RM.dH (mu:=fun _=>false) ?_
   repeat' (first |refine u1 ?_ |refine u2 ?_ |fail)
   refine aA.aU (ak.to (l:=[(4,.fl (.slice none 0 0)),(5,BB false)]) (hp:=[]) 0 rfl ⟨rfl,rfl,trivial⟩ (Nat.zero_le _) rfl rfl) ?_
   refine aa (mu:=fun _=>false) ?_
   repeat' (first |refine u1 ?_ |refine u2 ?_ |fail)
   exact hQ
end Go.Proofs.YtpeogffeoehboaaDoor
