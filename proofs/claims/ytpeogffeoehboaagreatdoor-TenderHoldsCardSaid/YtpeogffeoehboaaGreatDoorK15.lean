/-
  Contracts of the program's functions and of the document's. Lemmas alone; their conditions stand in them.
-/
import Derived.Test.YtpeogffeoehboaaGreatDoorK9
import Derived.Test.YtpeogffeoehboaaGreatDoorK14
open Go Go.RM
namespace Go.Proofs.YtpeogffeoehboaaGreatDoor
set_option maxRecDepth 100000
set_option maxHeartbeats 4000000
theorem sA (f k:Nat):(bK f k).length≤k:=by
 unfold bK
 rw [List.length_map]
 exact Nat.le_trans (List.length_filter_le _ _) (by simp)
def fA (s:au) (K N f:Nat) (L:List (List Int)):List (List Int):=(L.map (lO N f)).filter fun F=>iN s.row N (aO F) K
theorem ym (s:au) (K N f:Nat) (L:List (List Int)):(fA s K N f L).length≤L.length:=by
 unfold fA
 exact Nat.le_trans (List.length_filter_le _ _) (by rw [List.length_map];exact Nat.le_refl _)
theorem Dt (s:au) (K N f:Nat) (L:List (List Int)) (l:List Int):fA s K N f (L++[l])=fA s K N f L++if iN s.row N (aO (lO N f l)) K=true then [lO N f l] else []:=by
 unfold fA
 rw [List.map_append,List.filter_append]
 cases h:iN s.row N (aO (lO N f l)) K <;> simp [h]
def oJ (s:au) (K N f n:Nat):List (List Int):=(List.range n).flatMap (B6 s K N f)
theorem JF (s:au) (K N f n:Nat):oJ s K N f (n+1)=oJ s K N f n++B6 s K N f n:=by
 unfold oJ
 rw [List.range_succ,List.flatMap_append,List.flatMap_cons,List.flatMap_nil,List.append_nil]
theorem Eo {s:au} {K N f n:Nat} (h8:K≤8) (hk:N≤K) (hn:n≤9):(oJ s K N f n).length≤9 * 16777216:=by
 have h1:=qS (f:=B6 s K N f) (c:=16777216) (l:=List.range n) fun i hi=>by
  have hi:=List.mem_range.1 hi
  have h2:=ym s K N f (kW ((K:Int) - N) i [])
  have h3:=nM (below:=K - N) (by omega) i [] (Int.le_refl _)
  rw [show (((K - N:Nat)):Int)=(K:Int) - N by omega] at h3
  exact Nat.le_trans h2 (Nat.le_trans h3 (JE (by omega)))
 rw [List.length_range] at h1
 exact Nat.le_trans h1 (Nat.mul_le_mul_right _ hn)
theorem KX {came:List Bool} {k:Nat} (h:k < came.length):(came.map eB)[((k:Nat):Int).toNat]?=some (eB came[k]):=bl h
theorem nN (L:List (List Int)) (v:Nat) (B:List Int) (w:Nat):([.cells (eW L) 1 v,.cells (dc B) 1 w]:List AB).all (AB.jb 2)=true:=by
 have h:AB.jb 2 (.cells (eW L) 1 v)=true:=gL 2 (fun _=>rfl) _
 have h':AB.jb 2 (.cells (dc B) 1 w)=true:=gL 2 (fun _=>rfl) _
 simp only [List.all_cons,List.all_nil,h,h',Bool.and_true]
theorem KY {hp:List AB} {j v c:Nat} {B:List Int} (h:hp[j]?=some (.cells (dc B) 1 v)):Fz hp (.bU j v 0 B.length c) (.sl (ints B) false) :=
 Fz.row (es:=1) h (eH B).1 (eH B).2.1 (eH B).2.2.1 (eH B).2.2.2 (by rw [cR];exact ic B) (fun h=>Bool.noConfusion h)
def kX (B:List Int) (N:Nat) (l:List Int) (j:Nat):List Int:=B++(l.take j).map (·+(N:Int))
theorem Fl {B:List Int} {N:Nat} {l:List Int} {j:Nat} (h:j < l.length):kX B N l (j+1)=kX B N l j++[l[j]+(N:Int)]:=by
 unfold kX
 rw [List.take_add_one,List.getElem?_eq_getElem h,List.map_append,List.append_assoc]
 rfl
theorem sB (B:List Int) (N:Nat) (l:List Int):kX B N l 0=B:=by
 unfold kX
 rw [List.take_zero,List.map_nil,List.append_nil]
theorem JG (N f:Nat) (l:List Int):kX (bK f N) N l l.length=lO N f l:=by
 unfold kX lO
 rw [List.take_length]
theorem Du {R:Int} {N y k:Nat}:iN R N y (k+1)=(iN R N y k && (decide (k < N) || decide (rowAt y (k+1)≤R) || !y.testBit k)):=rfl
theorem sZ (one:Bool) {s:au} (hg:Good s) {K most:Nat} (h8:K≤8) (hm:most≤8) (came:List Bool) (cf:Bool) (hN:came.length≤K):Pu one 57 [.ag (ak s),aA (K:Nat),.sl (came.map eB) cf,aA (most:Nat)] (.sl ((pP s K came.length (bE came) most).map eL) false):=by
 have ec:((came.map eB).length:Int)=came.length:=by simp
 refine ah.body (fn:=Tryz.f57) rfl rfl rfl rfl ?_
 refine RM.cv (mu:=fun _=>false) ?_
 repeat' (first |(refine RM.Cf rfl rfl rfl rfl ?_) |refine u1 ?_ |refine u2 ?_ |fail)
 refine RM.cv (mu:=fun _=>false) ?_
 repeat' (first |refine u1 ?_ |refine u2 ?_ |fail)
 refine aB.seq ?_
 refine RM.cv (mu:=fun _=>false) ?_
 repeat' (first |refine u1 ?_ |refine u2 ?_ |fail)
 refine aB.block ?_
 refine aB.aJ (ai.trans (ai.nB 1) (ai.Mi (l:=[(1,aA (K:Nat)),(2,.sl (came.map eB) cf),(3,aA (most:Nat)),(4,.pt (ak s) 0),(9,.bU 0 0 0 (bK (bE came) 0).length 0),(10,aA (0:Nat))]) (hp:=[.cells (dc (bK (bE came) 0)) 1 0]) 1 rfl ⟨bT.refl _,bT.refl _,bT.refl _,bT.refl _,bT.nA,bT.refl _,trivial⟩ (Nat.zero_le _) rfl (lK _ _))) ?_
 refine aB.loop (fun x:Nat × Nat × Nat=>x.1≤came.length∧(x.2.2=(bK (bE came) x.1).length∨x.2.2=(bK (bE came) x.1).length+1)) (fun x=>⟨aS [(1,aA (K:Nat)),(2,.sl (came.map eB) cf),(3,aA (most:Nat)),(4,.pt (ak s) 0),(9,.bU 0 x.2.1 0 (bK (bE came) x.1).length x.2.2),(10,aA (x.1:Nat))],[.cells (dc (bK (bE came) x.1)) 1 x.2.1],bJ.none,false,0⟩) (fun x=>came.length - x.1) ?_ (0,0,0) ⟨Nat.zero_le _,.inl rfl⟩
 rintro ⟨k,aC,c⟩ ⟨hk,hcap⟩
 dsimp only at hk hcap
 show aB _ _ _ _ ⟨aS [(1,aA (K:Nat)),(2,.sl (came.map eB) cf),(3,aA (most:Nat)),(4,.pt (ak s) 0),(9,.bU 0 aC 0 (bK (bE came) k).length c),(10,aA (k:Nat))],[.cells (dc (bK (bE came) k)) 1 aC],bJ.none,false,0⟩ _
 by_cases hlt:k < came.length
 ·have d1:decide ((k:Int) < ((came.map eB).length:Int))=true:=decide_eq_true (by omega)
  have hbit:=Fi hlt
  have hs1:=mF (bE came) k
  rw [hbit] at hs1
  have hat:=KX hlt
  have hbd:(k:Int) < ((came.map eB).length:Int):=by omega
  have hll:=sA (bE came) k
  have hgl:(dc (bK (bE came) k)).length=(bK (bE came) k).length:=List.length_map _
  generalize hX:bK (bE came) (k+1)=X at *
  generalize hY:bK (bE came) k=Y at *
  cases hb:came[k] with
  | true =>
   rw [hb] at hat hs1
   rw [Bool.not_true,if_neg (by simp),List.append_nil] at hs1
   refine RM.cv (mu:=fun _=>false) ?_
   repeat' (first |refine u1 ?_ |refine u2 ?_ |fail)
   refine RM.cv (mu:=fun _=>false) ?_
   repeat' (first |refine u1 ?_ |((with_reducible show RM.wpOp _ _ (.indexAddr _ _ _) _ _ _);refine ⟨eB true,⟨by omega,hat⟩,rfl,?_⟩) |refine u2 ?_ |fail)
   refine aa (mu:=fun _=>false) ?_
   repeat' (first |refine u1 ?_ |refine u2 ?_ |fail)
   exact ⟨(k+1,aC,c),⟨hlt,by dsimp only;rw [hX,hs1];exact hcap⟩,(by dsimp only;omega),ai.to 1 (by dsimp only;rw [hX,hs1];rfl) ⟨rfl,rfl,rfl,rfl,(by dsimp only;rw [hX,hs1];rfl),aV (by simp),trivial⟩ (Nat.zero_le _) rfl (lK _ _)⟩
  | false =>
   rw [hb] at hat hs1
   rw [Bool.not_false,if_pos rfl] at hs1
   refine RM.cv (mu:=fun _=>false) ?_
   repeat' (first |refine u1 ?_ |refine u2 ?_ |fail)
   refine RM.cv (mu:=fun _=>false) ?_
   repeat' (first |((with_reducible show RM.wpOp _ _ (.call _) _ _ _);refine RM.tB (cs:=dc Y) (n:=Y.length) (els:=[eI (k:Nat)]) rfl rfl rfl rfl rfl (fun el hel=>by rw [List.mem_singleton.1 hel];rfl) rfl rfl (by rw [hgl];exact (Nat.mul_one _).symm) hcap (by simp only [List.length_singleton];omega) (fun v' c' hc'=>?_)) |refine u1 ?_ |((with_reducible show RM.wpOp _ _ (.indexAddr _ _ _) _ _ _);refine ⟨eB false,⟨by omega,hat⟩,rfl,?_⟩) |refine u2 ?_ |fail)
   refine aa (mu:=fun _=>false) ?_
   repeat' (first |refine u1 ?_ |refine u2 ?_ |fail)
   exact ⟨(k+1,v',c'),⟨hlt,by dsimp only;rw [hX,hs1,List.length_append];exact hc'⟩,(by dsimp only;omega),ai.to 1 (by dsimp only;rw [hX,hs1];unfold dc;rw [List.map_append];rfl) ⟨rfl,rfl,rfl,rfl,(by dsimp only;rw [hX,hs1,List.length_append];rfl),aV (by simp),trivial⟩ (Nat.zero_le _) rfl (lK _ _)⟩
 ·obtain rfl:k=came.length:=by omega
  have d1:decide ((came.length:Int) < ((came.map eB).length:Int))=false:=decide_eq_false (by omega)
  refine aa (mu:=fun _=>false) ?_
  repeat' (first |refine u1 ?_ |refine u2 ?_ |fail)
  have hfb:lO came.length (bE came)=fun l=>bK (bE came) came.length++l.map (·+(came.length:Int)):=rfl
  have hBl:=sA (bE came) came.length
  have hall:=fun l=>JG came.length (bE came) l
  have hfl:=fun n=>Eo (s:=s) (f:=bE came) (n:=n) h8 hN
  have hfs:=JF s K came.length (bE came)
  have hfd:pP s K came.length (bE came) most=oJ s K came.length (bE came) (most+1):=rfl
  rw [hfd]
  generalize bE came=f at *
  generalize hBB:bK f came.length=B at *
  refine aB.aJ (ai.trans (ai.giveUp 0 (l:=[(1,aA (K:Nat)),(2,.sl (came.map eB) cf),(3,aA (most:Nat)),(4,.pt (ak s) 0),(9,.sl (ints B) false)]) (hp:=[.gone]) rfl (Nat.zero_le _) (ic _) ⟨.same rfl,.same rfl,.same rfl,.same rfl,.row 1 (eH B).1 (eH B).2.1 (eH B).2.2.1 (eH B).2.2.2 (fun h=>Bool.noConfusion h),trivial⟩ rfl rfl) (ai.to (l:=[(1,aA (K:Nat)),(2,.sl (came.map eB) cf),(3,aA (most:Nat)),(4,.pt (ak s) 0),(9,.sl (ints B) false)]) (hp:=[]) 0 rfl ⟨rfl,rfl,rfl,rfl,rfl,trivial⟩ (Nat.zero_le _) rfl rfl)) ?_
  refine RM.cv (mu:=fun _=>false) ?_
  repeat' (first |refine u1 ?_ |refine u2 ?_ |fail)
  refine aB.seq ?_
  refine RM.cv (mu:=fun _=>false) ?_
  repeat' (first |refine u1 ?_ |refine u2 ?_ |fail)
  refine aB.block ?_
  refine aB.aJ (ai.trans (ai.nB 1) (ai.Mi (l:=[(1,aA (K:Nat)),(2,.sl (came.map eB) cf),(3,aA (most:Nat)),(4,.pt (ak s) 0),(9,.sl (ints B) false),(11,.bU 0 0 0 (oJ s K came.length f 0).length 0),(12,aA (0:Nat))]) (hp:=[.cells (eW (oJ s K came.length f 0)) 1 0]) 1 rfl ⟨bT.refl _,bT.refl _,bT.refl _,bT.refl _,bT.refl _,bT.nA,bT.refl _,trivial⟩ (Nat.zero_le _) rfl (iP _ _))) ?_
  refine aB.loop (fun x:Nat × Nat × Nat=>x.1≤most+1∧(x.2.2=(oJ s K came.length f x.1).length∨x.2.2=(oJ s K came.length f x.1).length+1)) (fun x=>⟨aS [(1,aA (K:Nat)),(2,.sl (came.map eB) cf),(3,aA (most:Nat)),(4,.pt (ak s) 0),(9,.sl (ints B) false),(11,.bU 0 x.2.1 0 (oJ s K came.length f x.1).length x.2.2),(12,aA (x.1:Nat))],[.cells (eW (oJ s K came.length f x.1)) 1 x.2.1],bJ.none,false,0⟩) (fun x=>most+1 - x.1) ?_ (0,0,0) ⟨Nat.zero_le _,.inl rfl⟩
  rintro ⟨n,aC,c⟩ ⟨hn,hcap⟩
  dsimp only at hn hcap
  show aB _ _ _ _ ⟨aS [(1,aA (K:Nat)),(2,.sl (came.map eB) cf),(3,aA (most:Nat)),(4,.pt (ak s) 0),(9,.sl (ints B) false),(11,.bU 0 aC 0 (oJ s K came.length f n).length c),(12,aA (n:Nat))],[.cells (eW (oJ s K came.length f n)) 1 aC],bJ.none,false,0⟩ _
  by_cases hlt:n≤most
  ·have d1:decide ((n:Int)≤(most:Int))=true:=decide_eq_true (by omega)
   have oc:=KW one (below:=K - came.length) (by omega) n [] (by omega) (by simp;omega) (fun x hx=>by cases hx)
   have eKN:(((K - came.length:Nat)):Int)=(K:Int) - (came.length:Int):=by omega
   have hLl:=nM (below:=K - came.length) (by omega) n [] (Int.le_refl _)
   have hLm:=fun l (h:l ∈ kW (((K - came.length:Nat)):Int) n [])=>jS.1 h
   have hp8:=JE (m:=n) (by omega)
   have hfn:=hfl n (by omega)
   have hs1:=hfs n
   have hfM:B6 s K came.length f n=fA s K came.length f (kW ((K:Int) - came.length) n []):=rfl
   rw [hfM,←eKN] at hs1
   generalize hLL:kW (((K - came.length:Nat)):Int) n []=L at *
   rw [eKN,←ec] at oc
   refine RM.cv (mu:=fun _=>false) ?_
   repeat' (first |refine u1 ?_ |refine u2 ?_ |fail)
   refine aB.seq ?_
   refine aB.block ?_
   refine RM.cv (mu:=fun _=>false) ?_
   repeat' (first |(refine ax.soft (fO.cons (bT.nil false) (fO.cons (bT.refl _) (fO.NF (bT.refl _)))) (ah.call oc rfl rfl ?_)) |refine u1 ?_ |refine u2 ?_ |fail)
   refine RM.cv (mu:=fun _=>false) ?_
   repeat' (first |refine u1 ?_ |refine u2 ?_ |fail)
   refine aB.block ?_
   have ol0:(oJ s K came.length f n++fA s K came.length f (L.take 0))=oJ s K came.length f n:=by
    show oJ s K came.length f n++fA s K came.length f (L.take 0)=_
    rw [List.take_zero]
    show oJ s K came.length f n++[]=_
    rw [List.append_nil]
   have hol:∀ i,(oJ s K came.length f n++fA s K came.length f (L.take i)).length≤10 * 16777216:=fun i=>by
    have h1:=ym s K came.length f (L.take i)
    have h2:(L.take i).length≤L.length:=by rw [List.length_take];omega
    rw [List.length_append]
    omega
   refine aB.aJ (ai.to (l:=[(1,aA (K:Nat)),(2,.sl (came.map eB) cf),(3,aA (most:Nat)),(4,.pt (ak s) 0),(9,.sl (ints B) false),(11,.bU 0 aC 0 (oJ s K came.length f n++fA s K came.length f (L.take 0)).length c),(12,aA (n:Nat)),(13,.sl (L.map eL) false),(14,aA (0:Nat))]) (hp:=[.cells (eW (oJ s K came.length f n++fA s K came.length f (L.take 0))) 1 aC]) 1 (by rw [ol0];rfl) ⟨rfl,rfl,rfl,rfl,rfl,(by rw [ol0];rfl),rfl,rfl,rfl,trivial⟩ (Nat.zero_le _) rfl (iP _ _)) ?_
   refine aB.loop (fun x:Nat × Nat × Nat=>x.1≤L.length∧(x.2.2=(oJ s K came.length f n++fA s K came.length f (L.take x.1)).length∨x.2.2=(oJ s K came.length f n++fA s K came.length f (L.take x.1)).length+1)) (fun x=>⟨aS [(1,aA (K:Nat)),(2,.sl (came.map eB) cf),(3,aA (most:Nat)),(4,.pt (ak s) 0),(9,.sl (ints B) false),(11,.bU 0 x.2.1 0 (oJ s K came.length f n++fA s K came.length f (L.take x.1)).length x.2.2),(12,aA (n:Nat)),(13,.sl (L.map eL) false),(14,aA (x.1:Nat))],[.cells (eW (oJ s K came.length f n++fA s K came.length f (L.take x.1))) 1 x.2.1],bJ.none,false,0⟩) (fun x=>L.length - x.1) ?_ (0,aC,c) ⟨Nat.zero_le _,by dsimp only;rw [ol0];exact hcap⟩
   clear hcap
   rintro ⟨i,aC,c⟩ ⟨hi,hcap⟩
   dsimp only at hi hcap
   show aB _ _ _ _ ⟨aS [(1,aA (K:Nat)),(2,.sl (came.map eB) cf),(3,aA (most:Nat)),(4,.pt (ak s) 0),(9,.sl (ints B) false),(11,.bU 0 aC 0 (oJ s K came.length f n++fA s K came.length f (L.take i)).length c),(12,aA (n:Nat)),(13,.sl (L.map eL) false),(14,aA (i:Nat))],[.cells (eW (oJ s K came.length f n++fA s K came.length f (L.take i))) 1 aC],bJ.none,false,0⟩ _
   have eLn:((L.map eL).length:Int)=L.length:=by simp
   by_cases hli:i < L.length
   ·have d2:decide ((i:Int) < ((L.map eL).length:Int))=true:=decide_eq_true (by omega)
    have hbi:(i:Int) < ((L.map eL).length:Int):=by omega
    have hat:(L.map eL)[((i:Nat):Int).toNat]?=some (eL L[i]):=bl hli
    have hO:=hol i
    have hol1:(oJ s K came.length f n++fA s K came.length f (L.take (i+1)))=(oJ s K came.length f n++fA s K came.length f (L.take i))++if iN s.row came.length (aO (lO came.length f L[i])) K=true then [lO came.length f L[i]] else []:=by
     show oJ s K came.length f n++fA s K came.length f (L.take (i+1))=_
     rw [List.take_add_one,List.getElem?_eq_getElem hli]
     show oJ s K came.length f n++fA s K came.length f (L.take i++[L[i]])=_
     rw [Dt,List.append_assoc]
    obtain ⟨cc,hcc,hln,_,hlb⟩:=hLm L[i] (List.getElem_mem hli)
    rw [List.nil_append] at hcc
    rw [←hcc] at hln hlb
    have hFl:=gk (f:=f) hN (many:=n) (k:=K) (l:=L[i]) (by rw [←eKN,hLL];exact List.getElem_mem hli)
    have hba:=hall L[i]
    generalize L[i]=l at *
    generalize hOO:(oJ s K came.length f n++fA s K came.length f (L.take i))=O at *
    refine RM.cv (mu:=fun _=>false) ?_
    repeat' (first |refine u1 ?_ |refine u2 ?_ |fail)
    refine aB.seq ?_
    refine aB.block ?_
    have hib:(ints B).length=B.length:=List.length_map _
    refine RM.cv (mu:=fun t=>Nat.beq t 52) ?_
    repeat' (first |((with_reducible show RM.wpOp _ _ (.call _) _ _ _);refine RM.tB (cs:=[]) (n:=0) (c:=0) (els:=ints B) rfl rfl rfl rfl rfl (qT B) (by rw [cR];rw [List.all_map,List.all_eq_true];intro x _;rfl) rfl rfl (.inl rfl) (by exact ⟨by show (0+(ints B).length) * 8≤_;omega,by omega⟩) (fun v1 c1 hc1=>?_)) |refine u1 ?_ |refine u2 ?_ |fail)
    refine aB.seq ?_
    refine RM.cv (mu:=fun _=>false) ?_
    repeat' (first |refine u1 ?_ |refine u2 ?_ |fail)
    refine aB.block ?_
    rw [hib,Nat.zero_add] at hc1
    refine aB.aJ (ai.to (l:=[(1,aA (K:Nat)),(2,.sl (came.map eB) cf),(3,aA (most:Nat)),(4,.pt (ak s) 0),(9,.sl (ints B) false),(11,.bU 0 aC 0 O.length c),(12,aA (n:Nat)),(13,.sl (L.map eL) false),(14,aA (i:Nat)),(15,.bU 1 v1 0 (kX B came.length l 0).length c1),(16,aA (0:Nat))]) (hp:=[.cells (eW O) 1 aC,.cells (dc (kX B came.length l 0)) 1 v1]) 2 (by rw [sB,←cR];rfl) ⟨rfl,rfl,rfl,rfl,rfl,rfl,rfl,rfl,rfl,(by rw [sB];show AV.bU 1 v1 0 (0+(ints B).length) c1=_;rw [hib,Nat.zero_add]),rfl,trivial⟩ (Nat.zero_le _) rfl (nN _ _ _ _)) ?_
    refine aB.loop (fun x:Nat × Nat × Nat=>x.1≤l.length∧(x.2.2=(kX B came.length l x.1).length∨x.2.2=(kX B came.length l x.1).length+1)) (fun x=>⟨aS [(1,aA (K:Nat)),(2,.sl (came.map eB) cf),(3,aA (most:Nat)),(4,.pt (ak s) 0),(9,.sl (ints B) false),(11,.bU 0 aC 0 O.length c),(12,aA (n:Nat)),(13,.sl (L.map eL) false),(14,aA (i:Nat)),(15,.bU 1 x.2.1 0 (kX B came.length l x.1).length x.2.2),(16,aA (x.1:Nat))],[.cells (eW O) 1 aC,.cells (dc (kX B came.length l x.1)) 1 x.2.1],bJ.none,false,0⟩) (fun x=>l.length - x.1) ?_ (0,v1,c1) ⟨Nat.zero_le _,by dsimp only;rw [sB];exact hc1⟩
    rintro ⟨j,v9,c9⟩ ⟨hj,hcap2⟩
    dsimp only at hj hcap2
    show aB _ _ _ _ ⟨aS [(1,aA (K:Nat)),(2,.sl (came.map eB) cf),(3,aA (most:Nat)),(4,.pt (ak s) 0),(9,.sl (ints B) false),(11,.bU 0 aC 0 O.length c),(12,aA (n:Nat)),(13,.sl (L.map eL) false),(14,aA (i:Nat)),(15,.bU 1 v9 0 (kX B came.length l j).length c9),(16,aA (j:Nat))],[.cells (eW O) 1 aC,.cells (dc (kX B came.length l j)) 1 v9],bJ.none,false,0⟩ _
    have eln:((ints l).length:Int)=l.length:=by simp
    by_cases hjl:j < l.length
    ·have d3:decide ((j:Int) < ((ints l).length:Int))=true:=decide_eq_true (by omega)
     have hbj:(j:Int) < ((ints l).length:Int):=by omega
     have hatj:(ints l)[((j:Nat):Int).toNat]?=some (eI l[j]):=bl hjl
     have hlj:0≤l[j]∧l[j] < ((K - came.length:Nat):Int):=hlb _ (List.getElem_mem hjl)
     have hs2:=Fl (B:=B) (N:=came.length) hjl
     have hbl:(kX B came.length l j).length≤24:=by
      unfold kX
      rw [List.length_append,List.length_map,List.length_take]
      omega
     have hgl:(dc (kX B came.length l j)).length=(kX B came.length l j).length:=List.length_map _
     rw [←ec] at hs2
     generalize hY1:kX B came.length l (j+1)=Y1 at *
     generalize hY:kX B came.length l j=Y at *
     generalize l[j]=z at *
     refine RM.cv (mu:=fun _=>false) ?_
     repeat' (first |refine u1 ?_ |((with_reducible show RM.wpOp _ _ (.indexAddr _ _ _) _ _ _);refine ⟨eL l,⟨by omega,hat⟩,rfl,?_⟩) |refine u2 ?_ |fail)
     refine RM.cv (mu:=fun _=>false) ?_
     repeat' (first |((with_reducible show RM.wpOp _ _ (.call _) _ _ _);refine RM.tB (cs:=dc Y) (n:=Y.length) (els:=[eI (z+((came.map eB).length:Int))]) rfl rfl rfl rfl rfl (fun el hel=>by rw [List.mem_singleton.1 hel];rfl) rfl rfl (by rw [hgl];exact (Nat.mul_one _).symm) hcap2 (by simp only [List.length_singleton];omega) (fun v' c' hc'=>?_)) |refine u1 ?_ |((with_reducible show RM.wpOp _ _ (.indexAddr _ _ _) _ _ _);refine ⟨eL l,⟨by omega,hat⟩,rfl,?_⟩) |((with_reducible show RM.wpOp _ _ (.indexAddr _ _ _) _ _ _);refine ⟨eI z,⟨by omega,hatj⟩,rfl,?_⟩) |refine u2 ?_ |fail)
     refine aa (mu:=fun _=>false) ?_
     repeat' (first |refine u1 ?_ |refine u2 ?_ |fail)
     exact ⟨(j+1,v',c'),⟨hjl,by dsimp only;rw [hY1,hs2,List.length_append];exact hc'⟩,(by dsimp only;omega),ai.to 2 (by dsimp only;rw [hY1,hs2];unfold dc;rw [List.map_append];rfl) ⟨rfl,rfl,rfl,rfl,rfl,rfl,rfl,rfl,rfl,(by dsimp only;rw [hY1,hs2,List.length_append];rfl),aV (by simp),trivial⟩ (Nat.zero_le _) rfl (nN _ _ _ _)⟩
    ·obtain rfl:j=l.length:=by omega
     have d3:decide ((l.length:Int) < ((ints l).length:Int))=false:=decide_eq_false (by omega)
     rw [hba] at hcap2 ⊢
     obtain ⟨_,hFb,hFn,_⟩:=hFl
     rw [hBB] at hFn
     have hFlen:(lO came.length f l).length≤24:=by omega
     generalize lO came.length f l=F at *
     refine aa (mu:=fun _=>false) ?_
     repeat' (first |refine u1 ?_ |((with_reducible show RM.wpOp _ _ (.indexAddr _ _ _) _ _ _);refine ⟨eL l,⟨by omega,hat⟩,rfl,?_⟩) |refine u2 ?_ |fail)
     refine RM.cv (mu:=fun _=>false) ?_
     repeat' (first |refine u1 ?_ |refine u2 ?_ |fail)
     refine aB.seq ?_
     refine RM.cv (mu:=fun _=>false) ?_
     repeat' (first |refine u1 ?_ |refine u2 ?_ |fail)
     refine aB.block ?_
     refine aB.aJ (ai.to (l:=[(1,aA (K:Nat)),(2,.sl (came.map eB) cf),(3,aA (most:Nat)),(4,.pt (ak s) 0),(9,.sl (ints B) false),(11,.bU 0 aC 0 O.length c),(12,aA (n:Nat)),(13,.sl (L.map eL) false),(14,aA (i:Nat)),(15,.bU 1 v9 0 F.length c9),(17,aA (rowAt (aO F) 0)),(18,BB (iN s.row came.length (aO F) 0)),(19,aA (0:Nat))]) (hp:=[.cells (eW O) 1 aC,.cells (dc F) 1 v9]) 2 rfl ⟨rfl,rfl,rfl,rfl,rfl,rfl,rfl,rfl,rfl,rfl,rfl,rfl,rfl,trivial⟩ (Nat.zero_le _) rfl (nN _ _ _ _)) ?_
     refine aB.loop (fun k:Nat=>k≤K) (fun k=>⟨aS [(1,aA (K:Nat)),(2,.sl (came.map eB) cf),(3,aA (most:Nat)),(4,.pt (ak s) 0),(9,.sl (ints B) false),(11,.bU 0 aC 0 O.length c),(12,aA (n:Nat)),(13,.sl (L.map eL) false),(14,aA (i:Nat)),(15,.bU 1 v9 0 F.length c9),(17,aA (rowAt (aO F) k)),(18,BB (iN s.row came.length (aO F) k)),(19,aA (k:Nat))],[.cells (eW O) 1 aC,.cells (dc F) 1 v9],bJ.none,false,0⟩) (fun k=>K - k) ?_ 0 (Nat.zero_le _)
     intro k hk
     have hrow:=KY (hp:=[.cells (eW O) 1 aC,.cells (dc F) 1 v9]) (j:=1) (v:=v9) (c:=c9) (B:=F) rfl
     by_cases hlk:k < K
     ·have d4:decide ((k:Int) < (K:Int))=true:=decide_eq_true (by omega)
      have oh:=IX one F false (k:Nat) (Nat.le_trans hFlen (by decide))
      have hbit:=jv hFb k
      have hrs:=mE (aO F) k
      have hrb:=qO (aO F) k
      have hgs:=Du (R:=s.row) (N:=came.length) (y:=aO F) (k:=k)
      have hrw:=hg.row
      rw [←hbit] at oh
      have e5:decide ((k:Int) < ((came.map eB).length:Int))=decide (k < came.length):=by
       by_cases h:k < came.length
       ·rw [decide_eq_true h,decide_eq_true (by omega)]
       ·rw [decide_eq_false h,decide_eq_false (by omega)]
      clear hcap hcap2 hba hall hfl hfs hfd hol hol1 hLm hlb hs1
      generalize hG1:iN s.row came.length (aO F) (k+1)=G1 at *
      generalize hG0:iN s.row came.length (aO F) k=G0 at *
      generalize hR1:rowAt (aO F) (k+1)=R1 at *
      generalize hR0:rowAt (aO F) k=R0 at *
      generalize decide (k < came.length)=κ at *
      cases hb:(aO F).testBit k with
      | false =>
       rw [hb] at oh hrs hgs
       rw [if_neg (by simp)] at hrs
       have hG:G1=G0:=by rw [hgs];simp
       subst hrs
       subst hG
       have d6:decide ((0:Int)≤s.row)=true:=decide_eq_true (by omega)
       cases G1 <;> cases κ <;> (
        refine RM.cv (mu:=fun _=>false) ?_
        repeat' (first |refine u1 ?_ |refine u2 ?_ |fail)
        refine RM.cv (mu:=fun _=>false) ?_
        repeat' (first |((with_reducible show ax _ _ _ _ _ _ _ _);refine ah.NG oh rfl (wq.two hrow (Fz.deep rfl)) (gi.fl _) ?_) |refine u1 ?_ |refine u2 ?_ |fail)
        refine aa (mu:=fun _=>false) ?_
        repeat' (first |refine u1 ?_ |refine u2 ?_ |fail)
        exact ⟨k+1,hlk,(by dsimp only;omega),ai.to 2 rfl ⟨rfl,rfl,rfl,rfl,rfl,rfl,rfl,rfl,rfl,rfl,(by dsimp only;rw [hR1];rfl),(by dsimp only;rw [hG1];rfl),aV (by simp),trivial⟩ (Nat.zero_le _) rfl (nN _ _ _ _)⟩)
      | true =>
       rw [hb] at oh hrs hgs
       rw [if_pos rfl] at hrs
       rw [Bool.not_true,Bool.or_false] at hgs
       subst hrs
       have e7:decide (R0+1≤s.row)=decide (R0+1≤s.row):=rfl
       generalize hρ:decide (R0+1≤s.row)=ρ at *
       subst hgs
       cases G0 <;> cases κ <;> cases ρ <;> (
        refine RM.cv (mu:=fun _=>false) ?_
        repeat' (first |refine u1 ?_ |refine u2 ?_ |fail)
        refine RM.cv (mu:=fun _=>false) ?_
        repeat' (first |((with_reducible show ax _ _ _ _ _ _ _ _);refine ah.NG oh rfl (wq.two hrow (Fz.deep rfl)) (gi.fl _) ?_) |refine u1 ?_ |refine u2 ?_ |fail)
        refine aa (mu:=fun _=>false) ?_
        repeat' (first |refine u1 ?_ |refine u2 ?_ |fail)
        exact ⟨k+1,hlk,(by dsimp only;omega),ai.to 2 rfl ⟨rfl,rfl,rfl,rfl,rfl,rfl,rfl,rfl,rfl,rfl,(by dsimp only;rw [hR1];rfl),(by dsimp only;rw [hG1];rfl),aV (by simp),trivial⟩ (Nat.zero_le _) rfl (nN _ _ _ _)⟩)
     ·obtain rfl:K=k:=by omega
      have d4:decide ((K:Int) < (K:Int))=false:=decide_eq_false (by omega)
      refine aa (mu:=fun _=>false) ?_
      repeat' (first |refine u1 ?_ |refine u2 ?_ |fail)
      refine aB.aJ (ai.trans (ai.giveUp 1 (l:=[(1,aA (K:Nat)),(2,.sl (came.map eB) cf),(3,aA (most:Nat)),(4,.pt (ak s) 0),(9,.sl (ints B) false),(11,.bU 0 aC 0 O.length c),(12,aA (n:Nat)),(13,.sl (L.map eL) false),(14,aA (i:Nat)),(15,.sl (ints F) false),(18,BB (iN s.row came.length (aO F) K))]) (hp:=[.cells (eW O) 1 aC,.gone]) rfl (Nat.zero_le _) (ic _) ⟨.same rfl,.same rfl,.same rfl,.same rfl,.same rfl,.same rfl,.same rfl,.same rfl,.same rfl,.row 1 (eH F).1 (eH F).2.1 (eH F).2.2.1 (eH F).2.2.2 (fun h=>Bool.noConfusion h),.same rfl,trivial⟩ En rfl) (ai.to (l:=[(1,aA (K:Nat)),(2,.sl (came.map eB) cf),(3,aA (most:Nat)),(4,.pt (ak s) 0),(9,.sl (ints B) false),(11,.bU 0 aC 0 O.length c),(12,aA (n:Nat)),(13,.sl (L.map eL) false),(14,aA (i:Nat)),(15,.sl (ints F) false),(18,BB (iN s.row came.length (aO F) K))]) (hp:=[.cells (eW O) 1 aC]) 1 rfl ⟨rfl,rfl,rfl,rfl,rfl,rfl,rfl,rfl,rfl,rfl,rfl,trivial⟩ (Nat.zero_le _) rfl (iP _ _))) ?_
      have hgl:(eW O).length=O.length:=List.length_map _
      cases hG:iN s.row came.length (aO F) K with
      | true =>
       rw [hG,if_pos rfl] at hol1
       refine aa (mu:=fun _=>false) ?_
       repeat' (first |((with_reducible show RM.wpOp _ _ (.call _) _ _ _);refine RM.tB (cs:=eW O) (n:=O.length) (els:=[eL F]) rfl rfl rfl rfl rfl (fun el hel=>by rw [List.mem_singleton.1 hel];rfl) rfl rfl (by rw [hgl];exact (Nat.mul_one _).symm) hcap (by simp only [List.length_singleton];omega) (fun v' c' hc'=>?_)) |refine u1 ?_ |refine u2 ?_ |fail)
       refine aa (mu:=fun _=>false) ?_
       repeat' (first |refine u1 ?_ |refine u2 ?_ |fail)
       exact ⟨(i+1,v',c'),⟨hli,by dsimp only;rw [hol1,List.length_append];exact hc'⟩,(by dsimp only;omega),ai.to 1 (by dsimp only;rw [hol1];unfold eW;rw [List.map_append];rfl) ⟨rfl,rfl,rfl,rfl,rfl,(by dsimp only;rw [hol1,List.length_append];rfl),rfl,rfl,aV (by simp),trivial⟩ (Nat.zero_le _) rfl (iP _ _)⟩
      | false =>
       rw [hG,if_neg (by simp),List.append_nil] at hol1
       refine aa (mu:=fun _=>false) ?_
       repeat' (first |refine u1 ?_ |refine u2 ?_ |fail)
       refine aa (mu:=fun _=>false) ?_
       repeat' (first |refine u1 ?_ |refine u2 ?_ |fail)
       exact ⟨(i+1,aC,c),⟨hli,by dsimp only;rw [hol1];exact hcap⟩,(by dsimp only;omega),ai.to 1 (by dsimp only;rw [hol1];rfl) ⟨rfl,rfl,rfl,rfl,rfl,(by dsimp only;rw [hol1];rfl),rfl,rfl,aV (by simp),trivial⟩ (Nat.zero_le _) rfl (iP _ _)⟩
   ·obtain rfl:i=L.length:=by omega
    have d2:decide ((L.length:Int) < ((L.map eL).length:Int))=false:=decide_eq_false (by omega)
    have olE:(oJ s K came.length f n++fA s K came.length f (L.take L.length))=oJ s K came.length f (n+1):=by
     rw [hs1,List.take_length]
    refine aa (mu:=fun _=>false) ?_
    repeat' (first |refine u1 ?_ |refine u2 ?_ |fail)
    refine aa (mu:=fun _=>false) ?_
    repeat' (first |refine u1 ?_ |refine u2 ?_ |fail)
    exact ⟨(n+1,aC,c),⟨by dsimp only;omega,by dsimp only;rw [←olE];exact hcap⟩,(by dsimp only;omega),ai.to 1 (by dsimp only;rw [←olE];rfl) ⟨rfl,rfl,rfl,rfl,rfl,(by dsimp only;rw [←olE];rfl),aV (by simp),trivial⟩ (Nat.zero_le _) rfl (iP _ _)⟩
  ·obtain rfl:n=most+1:=by omega
   have d1:decide (((most+1:Nat):Int)≤(most:Int))=false:=decide_eq_false (by omega)
   refine aa (mu:=fun _=>false) ?_
   repeat' (first |refine u1 ?_ |refine u2 ?_ |fail)
   refine aa (mu:=fun _=>false) ?_
   repeat' (first |refine u1 ?_ |refine u2 ?_ |fail)
   exact ⟨[_],⟨Fz.row (es:=1) rfl (oD _).1 (oD _).2.1 (zZ _) (oD _).2.2 (by rw [lP];exact B9 _) (fun h=>Bool.noConfusion h),trivial⟩,rfl⟩
end Go.Proofs.YtpeogffeoehboaaGreatDoor
