/-
  Contracts of the program's functions and of the document's. Lemmas alone; their conditions stand in them.
-/
import Derived.Test.YtlpmfgmldmdggaaGreatO2
open Go Go.RM
namespace Go.Proofs.YtlpmfgmldmdggaaGreat
set_option maxRecDepth 100000
set_option maxHeartbeats 4000000
abbrev eT (l:List Int):List AV:=[.sl (ints l) false]
def tuE (c:ay) (w:Int):List Int→List (List Int)→Int
 | _,[]=>0
 | b,l :: T=>if trE c w b l ≠ 0 then trE c w b l else tuE c w l T
def tuB (T:List (List Int)):Nat→List Int
 | 0=>[]
 | k+1=>(T[k]?).getD []
theorem tuE_at {c:ay} {w:Int} {T:List (List Int)} {k:Nat} (h:k < T.length) (b:List Int):tuE c w b (T.drop k)=if trE c w b T[k] ≠ 0 then trE c w b T[k] else tuE c w T[k] (T.drop (k+1)):=by
 rw [List.drop_eq_getElem_cons h]
 rfl
def tsE (c:ay) (p:Pln) (T:List (List Int)):Int:=if cpE c p ≠ 0 then cpE c p else if (T.length:Int) ≠ p.turns then 3 else tuE c p.away [] T
structure TLen (T:List (List Int)):Prop where
 len:T.length≤maxLen
 each:∀ l ∈ T,l.length≤maxLen
theorem tuB_len {T:List (List Int)} (h:TLen T):∀ k,(tuB T k).length≤maxLen
 | 0=>Nat.zero_le _
 | k+1=>by
  show ((T[k]?).getD []).length≤maxLen
  cases hk:T[k]? with
  | none=>exact Nat.zero_le _
  | some l=>exact h.each l (List.mem_of_getElem? hk)
noncomputable def t46:Code:=Ar (Ar (Ar (Tryz.f46.body.getD .skip)))
theorem turns_loop (one:Bool) (c:ay) (p:Pln) (T:List (List Int)) (fT:Bool) (hT:TLen T) (e0:Int) (h0:e0=0→Good c):aC TT TB one t46 ⟨bM [(2,.sl (T.map eT) fT),(3,.pt (aF c) 0),(4,.pt (ePln p) 0),(7,ah e0)],[],bw.none,false,0⟩ (wK TT Tryz.f46.results.toList (ah (if e0=0 then tuE c p.away [] T else e0))):=by
 have el:((T.map eT).length:Int)=T.length:=by simp
 have hl':=hT.len
 simp only [maxLen] at hl'
 have d00:decide ((0:Int)=0)=true:=rfl
 refine aa (mu:=fun _=>false) ?_
 show kE _ _ _ _ (.seq (.region _ _ _) (.seq (.seq (.region _ _ _) _) _)) _ _
 repeat' (first |refine u1 ?_ |refine u2 ?_ |fail)
 refine aC.bx (aj.trans (aj.tu 1) (aj.trans (aj.KK (l:=[(2,.sl (T.map eT) fT),(3,.pt (aF c) 0),(4,.pt (ePln p) 0),(7,ah e0),(8,.cS 0 0 0 0 0),(9,ah ((0:Nat):Int))]) (hp:=[.cells (gh []) 1 0]) 1 rfl ⟨eW.refl _,eW.refl _,eW.refl _,eW.refl _,eW.tq,eW.refl _,trivial⟩ (Nat.zero_le _) rfl (ey _ _)) (aj.trans (aj.Ed 0 (l:=[(2,.sl (T.map eT) fT),(3,.pt (aF c) 0),(4,.pt (ePln p) 0),(7,ah (e0)),(8,.sl (ints ([])) false),(9,ah (0:Nat))]) (hp':=[.gone]) rfl (Nat.zero_le _) rfl ⟨.same rfl,.same rfl,.same rfl,.same rfl,Au rfl,.same rfl,trivial⟩ ⟨rfl,trivial⟩) (aj.to (l:=[(2,.sl (T.map eT) fT),(3,.pt (aF c) 0),(4,.pt (ePln p) 0),(7,ah (e0)),(8,.sl (ints ([])) false),(9,ah (0:Nat))]) (hp:=[]) 0 rfl ⟨rfl,rfl,rfl,rfl,rfl,rfl,trivial⟩ (Nat.zero_le _) rfl rfl)))) ?_
 refine aC.loop (fun x:Int × Nat=>x.2≤T.length∧((x.1=0∧e0=0∧tuE c p.away (tuB T x.2) (T.drop x.2)=tuE c p.away [] T)∨(x.1 ≠ 0∧x.1=if e0=0 then tuE c p.away [] T else e0))) (fun x=>⟨bM [(2,.sl (T.map eT) fT),(3,.pt (aF c) 0),(4,.pt (ePln p) 0),(7,ah (x.1)),(8,.sl (ints (tuB T x.2)) false),(9,ah (x.2:Nat))],[],bw.none,false,0⟩) (fun x=>T.length - x.2) ?_ (e0,0) ⟨Nat.zero_le _,by
  by_cases h:e0=0
  ·exact .inl ⟨h,h,rfl⟩
  ·exact .inr ⟨h,by rw [if_neg h]⟩⟩
 rintro ⟨e,k⟩ ⟨hk,hc⟩
 dsimp only at hk hc
 show aC _ _ _ _ ⟨bM [(2,.sl (T.map eT) fT),(3,.pt (aF c) 0),(4,.pt (ePln p) 0),(7,ah (e)),(8,.sl (ints (tuB T k)) false),(9,ah (k:Nat))],[],bw.none,false,0⟩ _
 rcases hc with ⟨rfl,h00,hrest⟩|⟨hne,hv⟩
 ·rw [if_pos h00]
  by_cases hlt:k < T.length
  ·have dl:decide ((k:Int) < ((T.map eT).length:Int))=true:=decide_eq_true (by omega)
   have hat:(T.map eT)[((k:Nat):Int).toNat]?=some (eT T[k]):=bG hlt
   have hst:=tuE_at (c:=c) (w:=p.away) hlt (tuB T k)
   have hnb:tuB T (k+1)=T[k]:=by show (T[k]?).getD []=_;rw [List.getElem?_eq_getElem hlt];rfl
   have o1:=turn_c true c (h0 h00) p (tuB T k) T[k] false false (tuB_len hT k) (hT.each _ (List.getElem_mem hlt))
   rw [hrest] at hst
   generalize hB:tuB T k=B at *
   generalize T[k]=l at *
   generalize hE:trE c p.away B l=E at *
   have hrow:.sl (ints (tuB T (k+1))) false=AV.sl (ints l) false:=by rw [hnb]
   refine aa (mu:=fun _=>false) ?_
   repeat' (first |(refine ⟨_,_,.inl ⟨rfl,rfl⟩,o1,?_⟩) |refine u1 ?_ |(refine ⟨[.sl (ints l) false],⟨by omega,hat⟩,rfl,?_⟩) |refine u2 ?_ |fail)
   refine ⟨(E,k+1),⟨hlt,?_⟩,(by dsimp only;omega),aj.to (l:=[(2,.sl (T.map eT) fT),(3,.pt (aF c) 0),(4,.pt (ePln p) 0),(7,ah (E)),(8,.sl (ints (tuB T (k+1))) false),(9,ah (k+1:Nat))]) 0 rfl ⟨rfl,rfl,rfl,rfl,hrow.symm,cK (by simp),trivial⟩ (Nat.zero_le _) rfl rfl⟩
   by_cases hE0:E=0
   ·refine .inl ⟨hE0,h00,?_⟩
    rw [hnb,hst,if_neg (fun h=>h hE0)]
   ·refine .inr ⟨hE0,?_⟩
    rw [hst,if_pos hE0]
  ·have dl:decide ((k:Int) < ((T.map eT).length:Int))=false:=decide_eq_false (by omega)
   have hz:tuE c p.away [] T=0:=by rw [←hrest,List.drop_of_length_le (by omega)];rfl
   rw [hz]
   refine aa (mu:=fun _=>false) ?_
   repeat' (first |refine u1 ?_ |refine u2 ?_ |fail)
   exact ⟨[_],⟨Fz.deep rfl,trivial⟩,rfl⟩
 ·rw [←hv]
  have dz:decide (e=0)=false:=decide_eq_false hne
  by_cases hlt:k < T.length
  ·have dl:decide ((k:Int) < ((T.map eT).length:Int))=true:=decide_eq_true (by omega)
   refine aa (mu:=fun _=>false) ?_
   repeat' (first |refine u1 ?_ |refine u2 ?_ |fail)
   exact ⟨[_],⟨Fz.deep rfl,trivial⟩,rfl⟩
  ·have dl:decide ((k:Int) < ((T.map eT).length:Int))=false:=decide_eq_false (by omega)
   refine aa (mu:=fun _=>false) ?_
   repeat' (first |refine u1 ?_ |refine u2 ?_ |fail)
   exact ⟨[_],⟨Fz.deep rfl,trivial⟩,rfl⟩
theorem turns_c (one:Bool) (c:ay) (h:c.Ok) (p:Pln) (T:List (List Int)) (fT:Bool) (hT:TLen T):Pu one 46 [.ag (aF c),.ag (ePln p),.sl (T.map eT) fT] (ah (tsE c p T)):=by
 have o1:=rcheckplan_c one c h p
 have el:((T.map eT).length:Int)=T.length:=by simp
 have d00:decide ((0:Int)=0)=true:=rfl
 by_cases h0:cpE c p=0
 ·obtain ⟨hg,hp⟩:=cp_ok h0
  rw [h0] at o1
  by_cases h1:(T.length:Int)=p.turns
  ·have d1:(!decide (((T.map eT).length:Int)=p.turns))=false:=by rw [decide_eq_true (by omega)];rfl
   have hv:tsE c p T=if (0:Int)=0 then tuE c p.away [] T else 0:=by unfold tsE;rw [if_neg (fun h=>h h0),if_neg (fun h=>h h1),if_pos rfl]
   rw [hv]
   refine af.body (fn:=Tryz.f46) rfl rfl rfl rfl ?_
   show aC TT TB one (.seq (.region _ _ _) (.seq (.region _ _ _) (.seq (.seq (.region _ _ _) _) t46))) _ _
   refine RM.qK (mu:=fun _=>false) ?_
   repeat' (first |refine u1 ?_ |refine u2 ?_ |fail)
   refine RM.qK (mu:=fun _=>false) ?_
   repeat' (first |refine u1 ?_ |((with_reducible show ai _ _ _ _ _ _ _ _);refine af.call o1 rfl rfl ?_) |refine u2 ?_ |fail)
   refine RM.qK (mu:=fun _=>false) ?_
   repeat' (first |refine u1 ?_ |refine u2 ?_ |fail)
   refine aC.bx (aj.to (l:=[(2,.sl (T.map eT) fT),(3,.pt (aF c) 0),(4,.pt (ePln p) 0),(7,ah 0)]) (hp:=[]) 0 rfl ⟨rfl,rfl,rfl,rfl,trivial⟩ (Nat.zero_le _) rfl rfl) ?_
   exact turns_loop one c p T fT hT 0 (fun _=>hg)
  ·have d1:(!decide (((T.map eT).length:Int)=p.turns))=true:=by rw [decide_eq_false (by omega)];rfl
   have hv:tsE c p T=if (3:Int)=0 then tuE c p.away [] T else 3:=by unfold tsE;rw [if_neg (fun h=>h h0),if_pos h1,if_neg (by decide)]
   rw [hv]
   refine af.body (fn:=Tryz.f46) rfl rfl rfl rfl ?_
   show aC TT TB one (.seq (.region _ _ _) (.seq (.region _ _ _) (.seq (.seq (.region _ _ _) _) t46))) _ _
   refine RM.qK (mu:=fun _=>false) ?_
   repeat' (first |refine u1 ?_ |refine u2 ?_ |fail)
   refine RM.qK (mu:=fun _=>false) ?_
   repeat' (first |refine u1 ?_ |((with_reducible show ai _ _ _ _ _ _ _ _);refine af.call o1 rfl rfl ?_) |refine u2 ?_ |fail)
   refine RM.qK (mu:=fun _=>false) ?_
   repeat' (first |refine u1 ?_ |refine u2 ?_ |fail)
   refine aC.bx (aj.to (l:=[(2,.sl (T.map eT) fT),(3,.pt (aF c) 0),(4,.pt (ePln p) 0),(7,ah 3)]) (hp:=[]) 0 rfl ⟨rfl,rfl,rfl,rfl,trivial⟩ (Nat.zero_le _) rfl rfl) ?_
   exact turns_loop one c p T fT hT 3 (fun h=>absurd h (by decide))
 ·have dz:decide (cpE c p=0)=false:=decide_eq_false h0
  have hv:tsE c p T=if cpE c p=0 then tuE c p.away [] T else cpE c p:=by unfold tsE;rw [if_pos h0,if_neg h0]
  rw [hv]
  refine af.body (fn:=Tryz.f46) rfl rfl rfl rfl ?_
  show aC TT TB one (.seq (.region _ _ _) (.seq (.region _ _ _) (.seq (.seq (.region _ _ _) _) t46))) _ _
  refine RM.qK (mu:=fun _=>false) ?_
  repeat' (first |refine u1 ?_ |refine u2 ?_ |fail)
  refine RM.qK (mu:=fun _=>false) ?_
  repeat' (first |refine u1 ?_ |((with_reducible show ai _ _ _ _ _ _ _ _);refine af.call o1 rfl rfl ?_) |refine u2 ?_ |fail)
  refine RM.qK (mu:=fun _=>false) ?_
  repeat' (first |refine u1 ?_ |refine u2 ?_ |fail)
  refine aC.bx (aj.to (l:=[(2,.sl (T.map eT) fT),(3,.pt (aF c) 0),(4,.pt (ePln p) 0),(7,ah (cpE c p))]) (hp:=[]) 0 rfl ⟨rfl,rfl,rfl,rfl,trivial⟩ (Nat.zero_le _) rfl rfl) ?_
  exact turns_loop one c p T fT hT (cpE c p) (fun h=>absurd h h0)
def cnT (T:List (List Int)) (m k:Nat):Nat:=(T.take k).countP fun l=>hsV l (m:Nat)
theorem cnT_succ {T:List (List Int)} {m k:Nat} (h:k < T.length):cnT T m (k+1)=cnT T m k+if hsV T[k] (m:Nat)=true then 1 else 0:=by
 unfold cnT
 rw [List.take_add_one,List.getElem?_eq_getElem h,List.countP_append]
 by_cases hh:hsV T[k] (m:Nat)=true
 ·rw [if_pos hh];simp [hh]
 ·rw [if_neg hh];simp [hh]
theorem cnT_le (T:List (List Int)) (m k:Nat):cnT T m k≤k:=by
 unfold cnT
 have:=List.countP_le_length (p:=fun l=>hsV l (m:Nat)) (l:=T.take k)
 rw [List.length_take] at this
 omega
def owK (c:ay) (p:Pln) (T:List (List Int)) (k:Nat):List Int:=(List.range k).map fun m=>bhV c p m (cnT T m T.length:Nat)
theorem owK_succ (c:ay) (p:Pln) (T:List (List Int)) (k:Nat):owK c p T (k+1)=owK c p T k++[bhV c p k (cnT T k T.length:Nat)]:=by
 unfold owK
 rw [List.range_succ,List.map_append]
 rfl
theorem owK_len (c:ay) (p:Pln) (T:List (List Int)) (k:Nat):(owK c p T k).length=k:=by unfold owK;simp
theorem owed_c (one:Bool) (c:ay) (hg:Good c) (p:Pln) (hp:POk p) (T:List (List Int)) (fT:Bool) (hT:TLen T) (hTp:(T.length:Int)=p.turns):Pu one 81 [.ag (aF c),.ag (ePln p),.sl (T.map eT) fT] (.sl (ints (owK c p T c.aG.length)) false):=by
 have em:((c.aG.map bp).length:Int)=c.aG.length:=by simp
 have el:((T.map eT).length:Int)=T.length:=by simp
 have hm5:=hg.aG
 have ht4:=hp.turns
 refine af.body (fn:=Tryz.f81) rfl rfl rfl rfl ?_
 refine aa (mu:=fun t=>Nat.beq t 39) ?_
 repeat' (first |refine u1 ?_ |refine u2 ?_ |fail)
 refine aC.bx (aj.trans (aj.tu 1) (aj.KK (l:=[(2,.sl (T.map eT) fT),(3,.pt (aF c) 0),(4,.pt (ePln p) 0),(7,.cS 0 ((0,0,0):Nat × Nat × Nat).2.1 0 ((0,0,0):Nat × Nat × Nat).1 ((0,0,0):Nat × Nat × Nat).2.2),(8,ah (((0,0,0):Nat × Nat × Nat).1:Nat))]) (hp:=[.cells (gh (owK c p T ((0,0,0):Nat × Nat × Nat).1)) 1 ((0,0,0):Nat × Nat × Nat).2.1]) 1 rfl ⟨eW.refl _,eW.refl _,eW.refl _,eW.tq,eW.refl _,trivial⟩ (Nat.zero_le _) rfl (ey _ _))) ?_
 refine aC.loop (fun x:Nat × Nat × Nat=>x.1≤c.aG.length∧(x.2.2=x.1∨x.2.2=x.1+1)) (fun x=>⟨bM [(2,.sl (T.map eT) fT),(3,.pt (aF c) 0),(4,.pt (ePln p) 0),(7,.cS 0 x.2.1 0 x.1 x.2.2),(8,ah (x.1:Nat))],[.cells (gh (owK c p T x.1)) 1 x.2.1],bw.none,false,0⟩) (fun x=>c.aG.length - x.1) ?_ (0,0,0) ⟨Nat.zero_le _,.inl rfl⟩
 rintro ⟨k,v,cc⟩ ⟨hk,hcap⟩
 dsimp only at hk hcap
 show aC _ _ _ _ ⟨bM [(2,.sl (T.map eT) fT),(3,.pt (aF c) 0),(4,.pt (ePln p) 0),(7,.cS 0 ((k,v,cc):Nat × Nat × Nat).2.1 0 ((k,v,cc):Nat × Nat × Nat).1 ((k,v,cc):Nat × Nat × Nat).2.2),(8,ah (((k,v,cc):Nat × Nat × Nat).1:Nat))],[.cells (gh (owK c p T ((k,v,cc):Nat × Nat × Nat).1)) 1 ((k,v,cc):Nat × Nat × Nat).2.1],bw.none,false,0⟩ _
 dsimp only
 by_cases hlt:k < c.aG.length
 ·have dl:decide ((k:Int) < ((c.aG.map bp).length:Int))=true:=decide_eq_true (by omega)
  refine aa (mu:=fun t=>Nat.beq t 39) ?_
  repeat' (first |refine u1 ?_ |refine u2 ?_ |fail)
  refine aC.bx (aj.to (l:=[(2,.sl (T.map eT) fT),(3,.pt (aF c) 0),(4,.pt (ePln p) 0),(7,.cS 0 ((k,v,cc):Nat × Nat × Nat).2.1 0 ((k,v,cc):Nat × Nat × Nat).1 ((k,v,cc):Nat × Nat × Nat).2.2),(8,ah (((k,v,cc):Nat × Nat × Nat).1:Nat)),(9,ah (cnT T ((k,v,cc):Nat × Nat × Nat).1 (0):Nat)),(10,ah (0:Nat))]) (hp:=[.cells (gh (owK c p T ((k,v,cc):Nat × Nat × Nat).1)) 1 ((k,v,cc):Nat × Nat × Nat).2.1]) 1 rfl ⟨rfl,rfl,rfl,rfl,rfl,rfl,rfl,trivial⟩ (Nat.zero_le _) rfl (ey _ _)) ?_
  refine aC.loop (fun i:Nat=>i≤T.length) (fun i=>⟨bM [(2,.sl (T.map eT) fT),(3,.pt (aF c) 0),(4,.pt (ePln p) 0),(7,.cS 0 ((k,v,cc):Nat × Nat × Nat).2.1 0 ((k,v,cc):Nat × Nat × Nat).1 ((k,v,cc):Nat × Nat × Nat).2.2),(8,ah (((k,v,cc):Nat × Nat × Nat).1:Nat)),(9,ah (cnT T ((k,v,cc):Nat × Nat × Nat).1 (i):Nat)),(10,ah (i:Nat))],[.cells (gh (owK c p T ((k,v,cc):Nat × Nat × Nat).1)) 1 ((k,v,cc):Nat × Nat × Nat).2.1],bw.none,false,0⟩) (fun i=>T.length - i) ?_ 0 (Nat.zero_le _)
  intro i hi
  dsimp only
  have b1:=cnT_le T k i
  by_cases hit:i < T.length
  ·have d2:decide ((i:Int) < ((T.map eT).length:Int))=true:=decide_eq_true (by omega)
   have hat:(T.map eT)[((i:Nat):Int).toNat]?=some (eT T[i]):=bG hit
   have hst:=cnT_succ (m:=k) hit
   have o1:=has_c one T[i] false (hT.each _ (List.getElem_mem hit)) (k:Nat)
   generalize T[i]=l at *
   generalize cnT T k i=y at *
   cases e:hsV l (k:Nat) with
   | true =>
    rw [e] at o1 hst
    rw [if_pos rfl] at hst
    refine aa (mu:=fun t=>Nat.beq t 39) ?_
    repeat' (first |((with_reducible show ai _ _ _ _ _ _ _ _);refine af.call o1 rfl rfl ?_) |refine u1 ?_ |(refine ⟨[.sl (ints l) false],⟨by omega,hat⟩,rfl,?_⟩) |refine u2 ?_ |fail)
    exact ⟨i+1,hit,(by dsimp only;omega),aj.to (l:=[(2,.sl (T.map eT) fT),(3,.pt (aF c) 0),(4,.pt (ePln p) 0),(7,.cS 0 ((k,v,cc):Nat × Nat × Nat).2.1 0 ((k,v,cc):Nat × Nat × Nat).1 ((k,v,cc):Nat × Nat × Nat).2.2),(8,ah (((k,v,cc):Nat × Nat × Nat).1:Nat)),(9,ah (cnT T ((k,v,cc):Nat × Nat × Nat).1 (i+1):Nat)),(10,ah (i+1:Nat))]) (hp:=[.cells (gh (owK c p T ((k,v,cc):Nat × Nat × Nat).1)) 1 ((k,v,cc):Nat × Nat × Nat).2.1]) 1 rfl ⟨rfl,rfl,rfl,rfl,rfl,cK (by rw [hst];simp),cK (by simp),trivial⟩ (Nat.zero_le _) rfl (ey _ _)⟩
   | false =>
    rw [e] at o1 hst
    rw [if_neg (by simp)] at hst
    refine aa (mu:=fun t=>Nat.beq t 39) ?_
    repeat' (first |((with_reducible show ai _ _ _ _ _ _ _ _);refine af.call o1 rfl rfl ?_) |refine u1 ?_ |(refine ⟨[.sl (ints l) false],⟨by omega,hat⟩,rfl,?_⟩) |refine u2 ?_ |fail)
    exact ⟨i+1,hit,(by dsimp only;omega),aj.to (l:=[(2,.sl (T.map eT) fT),(3,.pt (aF c) 0),(4,.pt (ePln p) 0),(7,.cS 0 ((k,v,cc):Nat × Nat × Nat).2.1 0 ((k,v,cc):Nat × Nat × Nat).1 ((k,v,cc):Nat × Nat × Nat).2.2),(8,ah (((k,v,cc):Nat × Nat × Nat).1:Nat)),(9,ah (cnT T ((k,v,cc):Nat × Nat × Nat).1 (i+1):Nat)),(10,ah (i+1:Nat))]) (hp:=[.cells (gh (owK c p T ((k,v,cc):Nat × Nat × Nat).1)) 1 ((k,v,cc):Nat × Nat × Nat).2.1]) 1 rfl ⟨rfl,rfl,rfl,rfl,rfl,cK (by rw [hst];simp),cK (by simp),trivial⟩ (Nat.zero_le _) rfl (ey _ _)⟩
  ·have d2:decide ((i:Int) < ((T.map eT).length:Int))=false:=decide_eq_false (by omega)
   have hin:i=T.length:=by omega
   subst hin
   have p1:=rbehind_c one c hg p hp k hlt (cnT T k T.length:Nat) ⟨by omega,by omega⟩
   have hst:=owK_succ c p T k
   have hgl:(gh (owK c p T k)).length=k * 1:=by rw [List.length_map,owK_len];omega
   generalize bhV c p k (cnT T k T.length:Nat)=z at *
   refine aa (mu:=fun t=>Nat.beq t 39) ?_
   repeat' (first |((with_reducible show ai _ _ _ _ _ _ _ _);refine af.call p1 rfl rfl ?_) |((with_reducible show RM.wpOp _ _ (.call _) _ _ _);refine RM.uS (cs:=gh (owK c p T k)) (n:=k) (els:=[eI z]) rfl rfl rfl rfl rfl (fun el hel=>by rw [List.mem_singleton.1 hel];rfl) rfl rfl hgl hcap (by simp only [List.length_singleton];omega) (fun v' c' hc'=>?_)) |refine u1 ?_ |refine u2 ?_ |fail)
   exact ⟨(k+1,v',c'),⟨hlt,hc'⟩,(by dsimp only;omega),aj.to (l:=[(2,.sl (T.map eT) fT),(3,.pt (aF c) 0),(4,.pt (ePln p) 0),(7,.cS 0 ((k+1,v',c'):Nat × Nat × Nat).2.1 0 ((k+1,v',c'):Nat × Nat × Nat).1 ((k+1,v',c'):Nat × Nat × Nat).2.2),(8,ah (((k+1,v',c'):Nat × Nat × Nat).1:Nat))]) (hp:=[.cells (gh (owK c p T ((k+1,v',c'):Nat × Nat × Nat).1)) 1 ((k+1,v',c'):Nat × Nat × Nat).2.1]) 1 (by show _=[AB.cells (gh (owK c p T (k+1))) 1 v'];rw [hst];unfold gh;rw [List.map_append];rfl) ⟨rfl,rfl,rfl,rfl,cK (by simp),trivial⟩ (Nat.zero_le _) rfl (ey _ _)⟩
 ·have dl:decide ((k:Int) < ((c.aG.map bp).length:Int))=false:=decide_eq_false (by omega)
  have hkn:k=c.aG.length:=by omega
  subst hkn
  refine aa (mu:=fun _=>false) ?_
  repeat' (first |refine u1 ?_ |refine u2 ?_ |fail)
  exact ⟨[_],⟨Hj rfl (owK_len c p T _),trivial⟩,rfl⟩
def owE (c:ay) (p:Pln) (T:List (List Int)):List Int:=if tsE c p T=0 then owK c p T c.aG.length else []
theorem ts_ok {c:ay} {p:Pln} {T:List (List Int)} (h:tsE c p T=0):cpE c p=0∧(T.length:Int)=p.turns∧tuE c p.away [] T=0:=by
 unfold tsE at h
 split at h
 ·rename_i h1;exact absurd h h1
 rename_i h1
 split at h
 ·cases h
 rename_i h2
 exact ⟨Decidable.not_not.1 h1,Decidable.not_not.1 h2,h⟩
theorem rowed_c (one:Bool) (c:ay) (h:c.Ok) (p:Pln) (T:List (List Int)) (fT:Bool) (hT:TLen T):Pu one 32 [.ag (aF c),.ag (ePln p),.sl (T.map eT) fT] (.tp [.sl (ints (owE c p T)) false,ah (tsE c p T)]):=by
 have o1:=turns_c one c h p T fT hT
 unfold owE
 by_cases he:tsE c p T=0
 ·obtain ⟨h1,h2,_⟩:=ts_ok he
  obtain ⟨hg,hp⟩:=cp_ok h1
  have o2:=owed_c one c hg p hp T fT hT h2
  rw [if_pos he,he]
  rw [he] at o1
  have d0:(!decide ((0:Int)=0))=false:=rfl
  refine af.body (fn:=Tryz.f32) rfl rfl rfl rfl ?_
  refine aa (mu:=fun _=>false) ?_
  repeat' (first |refine u1 ?_ |((with_reducible show ai _ _ _ _ _ _ _ _);refine af.call o1 rfl rfl ?_) |((with_reducible show ai _ _ _ _ _ _ _ _);refine af.call o2 rfl rfl ?_) |refine u2 ?_ |fail)
  exact ⟨[_,_],⟨Fz.deep rfl,Fz.deep rfl,trivial⟩,rfl⟩
 ·rw [if_neg he]
  have d0:(!decide (tsE c p T=0))=true:=by rw [decide_eq_false he];rfl
  generalize tsE c p T=e at *
  refine af.body (fn:=Tryz.f32) rfl rfl rfl rfl ?_
  refine aa (mu:=fun _=>false) ?_
  repeat' (first |refine u1 ?_ |((with_reducible show ai _ _ _ _ _ _ _ _);refine af.call o1 rfl rfl ?_) |refine u2 ?_ |fail)
  exact ⟨[_,_],⟨Fz.nil,Fz.deep rfl,trivial⟩,rfl⟩
end Go.Proofs.YtlpmfgmldmdggaaGreat
