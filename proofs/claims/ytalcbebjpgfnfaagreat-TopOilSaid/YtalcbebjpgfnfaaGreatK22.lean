/-
  Contracts of the program's functions and of the document's. Lemmas alone; their conditions stand in them.
-/
import Derived.Test.YtalcbebjpgfnfaaGreatA3
import Derived.Test.YtalcbebjpgfnfaaGreatK18
import Derived.Test.YtalcbebjpgfnfaaGreatK20
import Derived.Test.YtalcbebjpgfnfaaGreatK21
open Go Go.RM Go.AirLaw
namespace Go.Proofs.YtalcbebjpgfnfaaGreat
set_option maxRecDepth 100000
set_option maxHeartbeats 4000000
theorem Mm (one:Bool) (a b:Int):Pu one 156 [ah a,ah b] (BB (decide (a < b))):=by
 have ha:=vK one a
 have hb:=vK one b
 refine af.body (fn:=Tryz.f156) rfl rfl rfl rfl ?_
 refine aa (mu:=fun _=>false) ?_
 repeat' (first |refine u1 ?_ |fail)
 exact ⟨[_],⟨Fz.deep rfl,trivial⟩,rfl⟩
def Mn (n:Nat):Int:=([0,1,2,2,3,3,3,3,4,4,4,4,4]:List Int).getD n 0
theorem KL (one:Bool) (n:Nat) (hn:n≤12):Pu one 160 [.fl (.int .u64 n)] (ah (Mn n)):=by
 match n,hn with
 | 0,_|1,_|2,_|3,_|4,_|5,_|6,_|7,_|8,_|9,_|10,_|11,_|12,_ =>
  refine af.body (fn:=Tryz.f160) rfl rfl rfl rfl ?_
  refine aa (mu:=fun _=>false) ?_
  repeat' (first |refine RM.b1 rfl rfl (of_decide_eq_true (by kernel_rfl)) ?_ |refine u1 ?_ |refine u2 ?_ |fail)
  exact ⟨[_],⟨Fz.deep rfl,trivial⟩,by kernel_rfl⟩
theorem M9 (one:Bool) (n:Nat) (hn:n≤12):Pu one 124 [.fl (.int .u64 n)] (ah (Mn n)):=by
 have hv:=KL one n hn
 refine af.body (fn:=Tryz.f124) rfl rfl rfl rfl ?_
 refine aa (mu:=fun _=>false) ?_
 repeat' (first |refine u1 ?_ |fail)
 exact ⟨[_],⟨Fz.deep rfl,trivial⟩,rfl⟩
structure kH (S:List Int) (i j:Nat):Prop where
 others:∀ p q:Nat,p < q→q≤i→p ≠ j→q ≠ j→S.getD p 0≤S.getD q 0
 above:∀ q:Nat,j < q→q≤i→S.getD j 0≤S.getD q 0
theorem kH.start {S:List Int} {i:Nat} (h:lN S i):kH S i i:=⟨fun p q h1 h2 h3 h4=>h p q h1 (by omega),fun q h1 h2=>by omega⟩
theorem kH.swap {S:List Int} {i j:Nat} (h:kH S i j) (hi:i < S.length) (hj:j≤i) (h0:0 < j) (hl:S.getD j 0 < S.getD (j - 1) 0):kH (swapAt S j) i (j - 1):=by
 have hg:=fun q=>De S (j:=j) (by omega) h0 q
 constructor
 ·intro p q h1 h2 h3 h4
  rw [hg p,hg q,if_neg h3,if_neg h4]
  by_cases hp:p=j
  ·rw [if_pos hp,if_neg (by omega)]
   exact h.others (j - 1) q (by omega) h2 (by omega) (by omega)
  ·rw [if_neg hp]
   by_cases hq:q=j
   ·rw [if_pos hq]
    by_cases hpj:p=j - 1
    ·exact absurd hpj h3
    ·exact h.others p (j - 1) (by omega) (by omega) hp (by omega)
   ·rw [if_neg hq]
    exact h.others p q h1 h2 hp hq
 ·intro q h1 h2
  rw [hg (j - 1),hg q,if_pos rfl,if_neg (by omega)]
  by_cases hq:q=j
  ·rw [if_pos hq];omega
  ·rw [if_neg hq]
   exact h.above q (by omega) h2
theorem kH.done {S:List Int} {i j:Nat} (h:kH S i j) (hd:j=0∨S.getD (j - 1) 0≤S.getD j 0):lN S (i+1):=by
 intro p q h1 h2
 by_cases hp:p=j
 ·rw [hp];exact h.above q (by omega) (by omega)
 ·by_cases hq:q=j
  ·rcases hd with hd|hd
   ·omega
   ·rw [hq]
    by_cases hpj:p=j - 1
    ·rw [hpj];exact hd
    ·exact Int.le_trans (h.others p (j - 1) (by omega) (by omega) hp (by omega)) hd
  ·exact h.others p q h1 (by omega) hp hq
theorem uE {A:AB} (hA:AB.di 2 A=true) (L:List Int) (v:Nat):([A,.cells (L.map ah) 1 v]:List AB).all (AB.di 2)=true:=by
 have h:AB.di 2 (.cells (L.map ah) 1 v)=true:=by
  show ig 2 (L.map ah)=true
  induction L with
  | nil=>rfl
  | cons a l ih=>exact ih
 simp only [List.all_cons,List.all_nil,hA,h,Bool.and_true]
theorem yO (one:Bool) (L:List Int) (N:Nat) (hN:L.length=N) (h12:N≤12) {A:AB} (hA:AB.di 2 A=true) {aD c:Nat} {aJ:bN} {Q:AV→List AB→bN→Prop} (hQ:∀ S:List Int,lN S N→S.Perm L→Q (.tp []) [A,iD S aD] aJ) :
  bl TT TB one (.fn 150 [] []) [.bX 1 aD 0 N c,ah 0,ah (N:Nat)] [A,iD L aD] aJ Q:=by
 refine bl.body (fn:=Tryz.f150) rfl rfl rfl ?_
 refine aa (mu:=fun _=>false) ?_
 repeat' (first |refine u1 ?_ |fail)
 refine az.aK (ai.to (l:=[(0,.bX 1 aD 0 N c),(1,ah 0),(2,ah (N:Nat)),(6,ah (1:Nat))]) (hp:=[A,iD L aD]) 2 rfl ⟨rfl,rfl,rfl,rfl,trivial⟩ (Nat.le_refl _) rfl (uE hA _ _)) ?_
 refine az.loop (fun x:Nat × List Int=>(1≤x.1∧(x.1≤N∨x.1=1))∧lN x.2 x.1∧x.2.Perm L) (fun x=>⟨aX [(0,.bX 1 aD 0 N c),(1,ah 0),(2,ah (N:Nat)),(6,ah (x.1:Nat))],[A,iD x.2 aD],aJ,false,2⟩) (fun x=>N - x.1) ?_ (1,L) ⟨⟨Nat.le_refl _,.inr rfl⟩,(fun p q h1 h2=>by dsimp only at h2;omega),List.Perm.refl _⟩
 rintro ⟨i,S⟩ ⟨⟨hi1,hi⟩,hso,hpe⟩
 dsimp only at hi1 hi hso hpe
 have hSl:S.length=N:=by rw [hpe.length_eq,hN]
 refine aa (mu:=fun _=>false) ?_
 repeat' (first |refine u1 ?_ |fail)
 refine RM.e1 rfl ⟨fun hc=>?_,fun hc=>?_⟩
 ·rw [decide_eq_true_eq] at hc
  repeat' (first |refine u1 ?_ |fail)
  refine az.aK (ai.to (l:=[(0,.bX 1 aD 0 N c),(1,ah 0),(2,ah (N:Nat)),(6,ah (i:Nat)),(7,ah (i:Nat))]) (hp:=[A,iD S aD]) 2 rfl ⟨rfl,rfl,rfl,rfl,rfl,trivial⟩ (Nat.le_refl _) rfl (uE hA _ _)) ?_
  refine az.loop (fun x:Nat × List Int=>(x.1≤i)∧kH x.2 i x.1∧x.2.Perm L) (fun x=>⟨aX [(0,.bX 1 aD 0 N c),(1,ah 0),(2,ah (N:Nat)),(6,ah (i:Nat)),(7,ah (x.1:Nat))],[A,iD x.2 aD],aJ,false,2⟩) (fun x=>x.1) ?_ (i,S) ⟨Nat.le_refl _,kH.start hso,hpe⟩
  rintro ⟨j,R⟩ ⟨hj,hsi,hpr⟩
  dsimp only at hj hsi hpr
  have hRl:R.length=N:=by rw [hpr.length_eq,hN]
  refine aa (mu:=fun _=>false) ?_
  by_cases h0:j=0
  ·subst h0
   repeat' (first |refine u1 ?_ |refine u2 ?_ |fail)
   refine ⟨(i+1,R),⟨⟨by omega,.inl (by dsimp only;omega)⟩,hsi.done (.inl rfl),hpr⟩,(by dsimp only;omega),?_⟩
   exact ai.to 2 rfl ⟨rfl,rfl,rfl,aH (by simp),trivial⟩ (Nat.le_refl _) rfl (uE hA _ _)
  ·have d1:decide ((0:Int) < (j:Int))=true:=decide_eq_true (by omega)
   have hgj:=tw (S:=R) (q:=j) (by omega)
   have hgk:=tw (S:=R) (q:=j - 1) (by omega)
   rw [show (((j - 1:Nat):Int))=(j:Int) - 1 by omega] at hgk
   have hle:=Mm true (R.getD j 0) (R.getD (j - 1) 0)
   by_cases hl:R.getD j 0 < R.getD (j - 1) 0
   ·rw [decide_eq_true hl] at hle
    have hb1:Nat.ble (0+((j:Nat):Int).toNat * 1+1) (R.map ah).length=true:=Nat.ble_eq_true_of_le (by rw [List.length_map];omega)
    have he1:=vM (S:=R) (k:=j) (by omega) (R.getD (j - 1) 0)
    have hb2:Nat.ble (0+(((j:Nat):Int) - 1).toNat * 1+1) (cw (R.map ah) [ah (R.getD (j - 1) 0)] (0+((j:Nat):Int).toNat * 1)).length=true:=Nat.ble_eq_true_of_le (by rw [he1,List.length_map,List.length_set];omega)
    have he2:=vM (S:=R.set j (R.getD (j - 1) 0)) (k:=j - 1) (by rw [List.length_set];omega) (R.getD j 0)
    rw [show (((j - 1:Nat):Int))=(j:Int) - 1 by omega,←he1] at he2
    repeat' (first |((with_reducible show RM.wpOp _ _ (.load _ _) _ _ _);first|refine RM.F7 rfl rfl rfl hgj ?_|refine RM.F7 rfl rfl rfl hgk ?_) |((with_reducible show dW _ _ _ _ _ _);first|refine RM.MC rfl rfl rfl rfl rfl rfl hb1 ?_|refine RM.MC rfl rfl rfl rfl rfl rfl hb2 ?_) |refine u1 ?_ |refine u2 ?_ |fail)
    refine ⟨(j - 1,swapAt R j),⟨by dsimp only;omega,hsi.swap (by omega) hj (by omega) hl,(swap_perm R (by omega)).trans hpr⟩,(by dsimp only;omega),?_⟩
    refine ai.to 2 ?_ ⟨rfl,rfl,rfl,rfl,aH (by dsimp only;omega),trivial⟩ (Nat.le_refl _) rfl (uE hA _ _)
    show [A,AB.cells (cw (cw (R.map ah) [ah (R.getD (j - 1) 0)] (0+((j:Nat):Int).toNat * 1)) [ah (R.getD j 0)] (0+(((j:Nat):Int) - 1).toNat * 1)) 1 aD]=[A,iD (swapAt R j) aD]
    rw [he2]
    rfl
   ·rw [decide_eq_false hl] at hle
    repeat' (first |((with_reducible show RM.wpOp _ _ (.load _ _) _ _ _);first|refine RM.F7 rfl rfl rfl hgj ?_|refine RM.F7 rfl rfl rfl hgk ?_) |refine u1 ?_ |refine u2 ?_ |fail)
    refine ⟨(i+1,R),⟨⟨by omega,.inl (by dsimp only;omega)⟩,hsi.done (.inr (by omega)),hpr⟩,(by dsimp only;omega),?_⟩
    exact ai.to 2 rfl ⟨rfl,rfl,rfl,aH (by simp),trivial⟩ (Nat.le_refl _) rfl (uE hA _ _)
 ·rw [decide_eq_false_iff_not] at hc
  repeat' (first |refine u1 ?_ |fail)
  refine hQ S (fun p q h1 h2=>hso p q h1 (by omega)) hpe
theorem Na (one:Bool) (L:List Int) (N:Nat) (hN:L.length=N) (h12:N≤12) (lim:Int) {A:AB} (hA:AB.di 2 A=true) {aD c:Nat} {aJ:bN} {Q:AV→List AB→bN→Prop} (hQ:∀ S:List Int,lN S N→S.Perm L→Q (.tp []) [A,iD S aD] aJ) :
  bl TT TB one (.fn 123 [] []) [.bX 1 aD 0 N c,ah 0,ah (N:Nat),ah lim] [A,iD L aD] aJ Q:=by
 refine bl.body (fn:=Tryz.f123) rfl rfl rfl ?_
 refine aa (mu:=fun _=>false) ?_
 repeat' (first |refine u1 ?_ |fail)
 refine az.aK (ai.to (l:=[(0,.bX 1 aD 0 N c),(1,ah 0),(2,ah (N:Nat)),(3,ah lim),(8,.fl (.bool true)),(9,.fl (.bool true))]) (hp:=[A,iD L aD]) 2 rfl ⟨rfl,rfl,rfl,rfl,rfl,rfl,trivial⟩ (Nat.le_refl _) rfl (uE hA _ _)) ?_
 refine az.loop (fun _:Unit=>True) (fun _=>⟨aX [(0,.bX 1 aD 0 N c),(1,ah 0),(2,ah (N:Nat)),(3,ah lim),(8,.fl (.bool true)),(9,.fl (.bool true))],[A,iD L aD],aJ,false,2⟩) (fun _=>0) ?_ () trivial
 intro _ _
 refine aa (mu:=fun _=>false) ?_
 have d1:decide ((N:Int) - 0≤12)=true:=decide_eq_true (by omega)
 repeat' (first |refine yO _ L N hN h12 hA (fun S hso hpe=>?_) |refine u1 ?_ |fail)
 exact hQ S hso hpe
theorem Eh:∀ {N:Nat},N≤12→IntKind.u64.wrap (N:Int)=(N:Int)
 | 0,_|1,_|2,_|3,_|4,_|5,_|6,_|7,_|8,_|9,_|10,_|11,_|12,_=>rfl
theorem Mo (one:Bool) (L:List Int) (N:Nat) (hN:L.length=N) (h12:N≤12) {A:AB} (hA:AB.di 2 A=true) {aD c:Nat} {aJ:bN} {Q:AV→List AB→bN→Prop} (hQ:∀ S:List Int,lN S N→S.Perm L→Q (.tp []) [A,iD S aD] aJ) :
  bl TT TB one (.fn 87 [] []) [.bX 1 aD 0 N c] [A,iD L aD] aJ Q:=by
 refine bl.body (fn:=Tryz.f87) rfl rfl rfl ?_
 refine aa (mu:=fun _=>false) ?_
 have hw:IntKind.u64.wrap (N:Int)=(N:Int):=Eh h12
 have hv:Pu one 124 [.fl (.int .u64 (IntKind.u64.wrap (N:Int)))] (ah (Mn N)):=by rw [hw];exact M9 one N h12
 repeat' (first |refine Na _ L N hN h12 _ hA (fun S hso hpe=>?_) |refine u1 ?_ |refine u2 ?_ |fail)
 exact hQ S hso hpe
end Go.Proofs.YtalcbebjpgfnfaaGreat
open Go Go.RM Go.AirLaw
namespace Go.Proofs.YtalcbebjpgfnfaaGreat
set_option maxRecDepth 100000
set_option maxHeartbeats 4000000
def Ei (n:bk) (rs:List aP) (tl th:Int × Int):List Int:=bZ (fun i=>dD false n rs tl i || dD true n rs th i) 0 rs.length
structure Lq (s:aC) (n:bk) (rs:List aP) (tl th:Int × Int):Prop where
 l:tl ∈ kG s n
 h:th ∈ ou s n
 Nb:∀ u ∈ kG s n,¬ iq (bZ (dD false n rs u) 0 rs.length) (bZ (dD false n rs tl) 0 rs.length)
 hmin:∀ u ∈ ou s n,¬ iq (bZ (dD true n rs u) 0 rs.length) (bZ (dD true n rs th) 0 rs.length)
theorem GY {n:bk} {rs:List aP} {t u:Int × Int} (i:Nat) (h:dD false n rs t i=true) (k:dD true n rs u i=true):False:=by
 unfold dD at h k
 cases hr:rs[i]? with
 | none=>rw [hr] at h;cases h
 | some r =>
  rw [hr] at h k
  dsimp only at h k
  unfold Mi at h k
  cases hh:r.eu <;> rw [hh] at h k <;> simp at h k
theorem KM {hp:List AB} {j v c n:Nat} {L:List Int} (h:hp[j]?=some (.cells (L.map ah) 1 v)) (hn:L.length=n):Fz hp (.bX j v 0 n c) (.sl (L.map eI) false) :=
 Fz.row (es:=1) h (by simp;omega) (by simp;omega) (fun el hel=>by obtain ⟨x,_,rfl⟩:=List.mem_map.1 hel;rfl) (by rw [qP,List.drop_zero,List.take_of_length_le (by simp;omega)]) (by rw [qP];exact C6 _) (fun h=>Bool.noConfusion h)
theorem Ls (L:List Int):(L.map eI).flatten.all AV.one=true:=by
 rw [qP]
 induction L with
 | nil=>rfl
 | cons a l ih=>exact ih
theorem Lt {own:Bool} {fr:Nat→AV} {hp:List AB} {K:AV→List AB→Prop} {s x:Operand} {t u e:TypeId} {a1 a2 a3 a4 a5 a6} {j aD n c:Nat} {els:List (List AV)} {f:Bool} {cs:List AV} {inf:yP} {cs':List AV} {n':Nat} (he:cs++els.flatten=cs') (hn:n+els.length=n') (hs:aQ fr s=.bX j aD 0 n c) (hx:aQ fr x=.sl els f)
  (hu:TT.ty.get u=some ⟨.slice e,a1,a2,a3,a4,a5,a6⟩) (hi:elem? TT t=some inf) (hz:ct inf=true) (hel:∀ el ∈ els,el.length=inf.size) (h1:els.flatten.all AV.one=true) (hj:hp[j]?=some (.cells cs inf.size aD)) (hl:cs.length=n * inf.size) (hc:c=n∨c=n+1)
  (hb:n' * inf.bytes≤140737488355328∧n'≤9223372036854775807) (hk:∀ v c',(c'=n'∨c'=n'+1)→K (.bX j v 0 n' c') (hp.set j (.cells cs' inf.size v))) :
  RM.wpOp TT own (.call ⟨.builtin .append,[s,x].toArray,[t,u].toArray⟩) fr hp K:=by
 subst he;subst hn
 exact RM.F5 hs hx hu hi hz hel h1 hj hl hc hb hk
theorem KN (s:aC) (h:s.Ok) (n:bk) (rs:List aP) (f:Bool) (h0:(cV s n rs).2=0) (tl th:Int × Int) (hb:Lq s n rs tl th):Pu false 34 [.ag (bf s),.ag (jW n),.sl (rs.map aL) f] (.tp [.sl ((Ei n rs tl th).map eI) false,ah 0]):=by
 have ho:=kO h0
 have h8:=ho.MV
 have hen:=qf false s h n rs f (by unfold maxLen;omega)
 rw [h0] at hen
 have c1:=nE true f ho
 have c2:=Bh true f ho
 have g1:=ho.qv.cand _ ho.mem
 have g2:=ho.qv.clear
 have g3:=ho.qv.bW
 have g4:=ho.g8
 have g5:=ho.gK
 have m1:=GU s n rs f ho _ _ _ _ (CQ false (gr s n.ei).cand s.clear (by omega) (by omega)) (fun x hx=>ho.Ka (eu:=false) hx) (Fu ho false) tl hb.l hb.Nb
 have m2:=GV s n rs f ho _ _ _ _ (C5 false s.bW ⟨n.g8,n.g8+n.gK - 1⟩ (by omega) (by dsimp only;omega) (by dsimp only;omega)) (fun x hx=>ho.Ka (eu:=true) hx) (Fu ho true) th hb.h hb.hmin
 have l1:=iK (dD false n rs tl) 0 rs.length
 have l2:=iK (dD true n rs th) 0 rs.length
 have hper:=LY (p:=dD false n rs tl) (q:=dD true n rs th) (fun i=>GY i) 0 rs.length
 unfold Ei
 generalize bZ (dD false n rs tl) 0 rs.length=P1 at *
 generalize bZ (dD true n rs th) 0 rs.length=P2 at *
 have d0:(!decide ((0:Int)=0))=false:=by decide
 refine af.body (fn:=Tryz.f34) rfl rfl rfl rfl ?_
 refine RM.de (mu:=fun t=>Nat.beq t 21 || Nat.beq t 26 || Nat.beq t 32) ?_
 repeat' (first |refine u1 ?_ |fail)
 refine RM.de (mu:=fun t=>Nat.beq t 21 || Nat.beq t 26 || Nat.beq t 32) ?_
 repeat' (first |refine u1 ?_ |fail)
 refine RM.de (mu:=fun t=>Nat.beq t 21 || Nat.beq t 26 || Nat.beq t 32) ?_
 repeat' (first |refine u1 ?_ |fail)
 have hc1:P1.length * 8≤140737488355328∧P1.length≤9223372036854775807:=by omega
 have e1:0+(P1.map eI).length=P1.length:=by rw [List.length_map];omega
 have e2:P1.length+(P2.map eI).length=(P1++P2).length:=by rw [List.length_map,List.length_append]
 have f1:[]++(P1.map eI).flatten=P1.map ah:=qP P1
 have f2:P1.map ah++(P2.map eI).flatten=(P1++P2).map ah:=by rw [qP,List.map_append]
 have f3:(P1.map ah).length=P1.length * 1:=by rw [List.length_map];omega
 have hpl:=hper.length_eq
 have l3:=iK (fun i=>dD false n rs tl i || dD true n rs th i) 0 rs.length
 have hc2:(P1++P2).length * 8≤140737488355328∧(P1++P2).length≤9223372036854775807:=by omega
 have h12:(P1++P2).length≤12:=by omega
 refine az.seq ?_
 refine az.NY 4 (l1:=[_,_,_,_]) (mu:=fun t=>Nat.beq t 21 || Nat.beq t 26 || Nat.beq t 32) (by kernel_rfl) rfl ?_
 repeat' (first |refine RM.NZ (l2:=[_,_]) (k:=5) rfl rfl rfl rfl m1 rfl rfl rfl (.inl (And.intro rfl rfl)) (by kernel_rfl) ?_ |((with_reducible show RM.wpOp _ _ (.call _) _ _ _);refine Lt (cs:=[]) (n:=0) (els:=P1.map eI) f1 e1 rfl rfl rfl rfl rfl (fun el hel=>by obtain ⟨x,_,rfl⟩:=List.mem_map.1 hel;rfl) (Ls P1) rfl rfl (.inl rfl) hc1 (fun v1 c1' hc1'=>?_)) |refine u1 ?_ |fail)
 refine az.seq ?_
 refine az.NY 4 (l1:=[_,_,_,_]) (mu:=fun t=>Nat.beq t 21 || Nat.beq t 26 || Nat.beq t 32) (by kernel_rfl) rfl ?_
 repeat' (first |refine RM.NZ (l2:=[_,_]) (k:=5) rfl rfl rfl rfl m2 rfl rfl rfl (.inl (And.intro rfl rfl)) (by kernel_rfl) ?_ |((with_reducible show RM.wpOp _ _ (.call _) _ _ _);refine Lt (cs:=P1.map ah) (n:=P1.length) (els:=P2.map eI) f2 e2 rfl rfl rfl rfl rfl (fun el hel=>by obtain ⟨x,_,rfl⟩:=List.mem_map.1 hel;rfl) (Ls P2) rfl f3 hc1' hc2 (fun v2 c2' hc2'=>?_)) |refine u1 ?_ |fail)
 refine RM.de (mu:=fun t=>Nat.beq t 21 || Nat.beq t 26 || Nat.beq t 32) ?_
 repeat' (first |refine Mo _ (P1++P2) (P1++P2).length rfl h12 rfl (fun S hso hpe=>?_) |refine u1 ?_ |fail)
 have hS:=Gt hpe.length_eq hso (hpe.trans hper.symm)
 have hSl:=hpe.length_eq
 rw [←hS]
 refine aa (mu:=fun _=>false) ?_
 repeat' (first |refine u1 ?_ |fail)
 exact ⟨[_,_],⟨KM rfl hSl,Fz.deep rfl,trivial⟩,rfl⟩
end Go.Proofs.YtalcbebjpgfnfaaGreat
open Go Go.RM Go.AirLaw
namespace Go.Proofs.YtalcbebjpgfnfaaGreat
set_option maxRecDepth 100000
set_option maxHeartbeats 4000000
structure Fw (c:Int→Int→Int):Prop where
 flip:∀ a b,¬ c a b < 0→c b a < 0∨c b a=0
 trans:∀ a b d,Rb c a b→Rb c b d→Rb c a d
theorem Df (one:Bool) (c:Int→Int→Int) (hco:Fw c) (g:FuncId) (fs cs:List AV) (hF:(AV.fn g fs cs).deep=true) {A B C D:AB} (hA:AB.di 5 A=true) (hB:AB.di 5 B=true) (hC:AB.di 5 C=true) (hD:AB.di 5 D=true) (hFi:(AV.fn g fs cs).di 5=true)
  (N:Nat) (h4:N≤4) (hcm:∀ (o:Bool) (a b:Nat),a < N→b < N→af TT TB o (.fn g fs cs) [ah a,ah b] (ah (c a b))) (L:List Int) (hN:L.length=N) (hL:∀ q,q < N→L.getD q 0=q) {aD cp:Nat} {aJ:bN} {Q:AV→List AB→bN→Prop} (hQ:∀ S:List Int,pQ c S N→S.Perm L→Q (.tp []) [A,B,C,D,iD S aD] aJ) :
  bl TT TB one (.fn 148 [] []) [.bX 4 aD 0 N cp,ah 0,ah (N:Nat),.fn g fs cs] [A,B,C,D,iD L aD] aJ Q:=by
 refine bl.body (fn:=Tryz.f148) rfl rfl rfl ?_
 refine aa (mu:=fun _=>false) ?_
 repeat' (first |refine u1 ?_ |fail)
 refine az.aK (ai.to (l:=[(0,.bX 4 aD 0 N cp),(1,ah 0),(2,ah (N:Nat)),(3,.fn g fs cs),(8,ah (1:Nat))]) (hp:=[A,B,C,D,iD L aD]) 5 rfl ⟨rfl,rfl,rfl,rfl,rfl,trivial⟩ (Nat.le_refl _) (by simp [dg,hFi];rfl) (mX hA hB hC hD _ _)) ?_
 refine az.loop (fun x:Nat × List Int=>(1≤x.1∧(x.1≤N∨x.1=1))∧xX c x.2 x.1∧x.2.Perm L) (fun x=>⟨aX [(0,.bX 4 aD 0 N cp),(1,ah 0),(2,ah (N:Nat)),(3,.fn g fs cs),(8,ah (x.1:Nat))],[A,B,C,D,iD x.2 aD],aJ,false,5⟩) (fun x=>N - x.1) ?_ (1,L) ⟨⟨Nat.le_refl _,.inr rfl⟩,⟨(fun p q h1 h2=>by dsimp only at h2;omega),(fun q hq=>by dsimp only at hq ⊢;rw [show q=0 by omega];by_cases hz:0 < N;rw [hL 0 hz];decide;rw [List.getD_eq_getElem?_getD,List.getElem?_eq_none (by omega)];decide),fun q _ h2=>hL q (by dsimp only at h2;omega)⟩,List.Perm.refl _⟩
 have hmem:∀ {R:List Int},R.Perm L→∀ q,q < N→∃ a:Nat,a < N∧R.getD q 0=a:=by
  intro R hR q hq
  have hRl:R.length=N:=by rw [hR.length_eq,hN]
  have h1:R.getD q 0 ∈ L:=by
   rw [List.getD_eq_getElem?_getD,List.getElem?_eq_getElem (by omega)]
   exact hR.mem_iff.1 (List.getElem_mem _)
  obtain ⟨a,ha,e⟩:=List.getElem_of_mem h1
  refine ⟨a,by omega,?_⟩
  rw [←e,←hL a (by omega),List.getD_eq_getElem?_getD,List.getElem?_eq_getElem ha]
  rfl
 rintro ⟨i,S⟩ ⟨⟨hi1,hi⟩,hso,hpe⟩
 dsimp only at hi1 hi hso hpe
 have hSl:S.length=N:=by rw [hpe.length_eq,hN]
 show az _ _ _ _ ⟨aX [(0,.bX 4 aD 0 N cp),(1,ah 0),(2,ah (N:Nat)),(3,.fn g fs cs),(8,ah (i:Nat))],[A,B,C,D,iD S aD],aJ,false,5⟩ _
 refine aa (mu:=fun _=>false) ?_
 by_cases hc:i < N
 ·have d0:decide ((i:Int) < (N:Int))=true:=decide_eq_true (by omega)
  repeat' (first |refine u1 ?_ |fail)
  refine az.aK (ai.to (l:=[(0,.bX 4 aD 0 N cp),(1,ah 0),(2,ah (N:Nat)),(3,.fn g fs cs),(8,ah (i:Nat)),(9,ah (i:Nat))]) (hp:=[A,B,C,D,iD S aD]) 5 rfl ⟨rfl,rfl,rfl,rfl,rfl,rfl,trivial⟩ (Nat.le_refl _) (by simp [dg,hFi];rfl) (mX hA hB hC hD _ _)) ?_
  refine az.loop (fun x:Nat × List Int=>(x.1≤i)∧u9 c x.2 i x.1∧x.2.Perm L) (fun x=>⟨aX [(0,.bX 4 aD 0 N cp),(1,ah 0),(2,ah (N:Nat)),(3,.fn g fs cs),(8,ah (i:Nat)),(9,ah (x.1:Nat))],[A,B,C,D,iD x.2 aD],aJ,false,5⟩) (fun x=>x.1) ?_ (i,S) ⟨Nat.le_refl _,xX.start hso (by dsimp only;omega),hpe⟩
  rintro ⟨j,R⟩ ⟨hj,hsi,hpr⟩
  dsimp only at hj hsi hpr
  have hRl:R.length=N:=by rw [hpr.length_eq,hN]
  show az _ _ _ _ ⟨aX [(0,.bX 4 aD 0 N cp),(1,ah 0),(2,ah (N:Nat)),(3,.fn g fs cs),(8,ah (i:Nat)),(9,ah (j:Nat))],[A,B,C,D,iD R aD],aJ,false,5⟩ _
  refine aa (mu:=fun _=>false) ?_
  by_cases h0:j=0
  ·subst h0
   repeat' (first |refine RM.c5 (c:=14) (l1:=[_,_,_,_,_,_,_,_,_,_,_,_,_,_]) (l2:=[_,_,_]) (by kernel_rfl) rfl rfl ?_ |refine u1 ?_ |refine u2 ?_ |fail)
   refine ⟨(i+1,R),⟨⟨by omega,.inl (by dsimp only;omega)⟩,hsi.done hco.flip hco.trans (.inl rfl),hpr⟩,(by dsimp only;omega),?_⟩
   exact ai.to 5 rfl ⟨rfl,rfl,rfl,rfl,aH (by simp),trivial⟩ (Nat.le_refl _) (by simp [dg,hFi];rfl) (mX hA hB hC hD _ _)
  ·have d1:decide ((0:Int) < (j:Int))=true:=decide_eq_true (by omega)
   have hgj:=tw (S:=R) (q:=j) (by omega)
   have hgk:=tw (S:=R) (q:=j - 1) (by omega)
   rw [show (((j - 1:Nat):Int))=(j:Int) - 1 by omega] at hgk
   obtain ⟨a,ha,ea⟩:=hmem hpr j (by omega)
   obtain ⟨b,hb,eb⟩:=hmem hpr (j - 1) (by omega)
   have hle:=fun o=>hcm o a b ha hb
   rw [←ea,←eb] at hle
   have hle1:=hle one
   have hle2:=hle true
   by_cases hl:c (R.getD j 0) (R.getD (j - 1) 0) < 0
   ·have dl:=decide_eq_true hl
    have hb1:Nat.ble (0+((j:Nat):Int).toNat * 1+1) (R.map ah).length=true:=Nat.ble_eq_true_of_le (by rw [List.length_map];omega)
    have he1:=vM (S:=R) (k:=j) (by omega) (R.getD (j - 1) 0)
    have hb2:Nat.ble (0+(((j:Nat):Int) - 1).toNat * 1+1) (cw (R.map ah) [ah (R.getD (j - 1) 0)] (0+((j:Nat):Int).toNat * 1)).length=true:=Nat.ble_eq_true_of_le (by rw [he1,List.length_map,List.length_set];omega)
    have he2:=vM (S:=R.set j (R.getD (j - 1) 0)) (k:=j - 1) (by rw [List.length_set];omega) (R.getD j 0)
    rw [show (((j - 1:Nat):Int))=(j:Int) - 1 by omega,←he1] at he2
    repeat' (first |refine RM.c5 (c:=14) (l1:=[_,_,_,_,_,_,_,_,_,_,_,_,_,_]) (l2:=[_,_,_]) (by kernel_rfl) rfl rfl ?_ |((with_reducible show RM.wpOp _ _ (.load _ _) _ _ _);first|refine RM.F7 rfl rfl rfl hgj ?_|refine RM.F7 rfl rfl rfl hgk ?_) |((with_reducible show bl _ _ _ _ _ _ _ _);refine af.call hle1 hF rfl ?_) |((with_reducible show dW _ _ _ _ _ _);first|refine RM.MC rfl rfl rfl rfl rfl rfl hb1 ?_|refine RM.MC rfl rfl rfl rfl rfl rfl hb2 ?_) |refine u1 ?_ |refine u2 ?_ |fail)
    refine ⟨(j - 1,swapAt R j),⟨by dsimp only;omega,hsi.swap (by omega) hj (by omega) hl,(swap_perm R (by omega)).trans hpr⟩,(by dsimp only;omega),?_⟩
    refine ai.to 5 ?_ ⟨rfl,rfl,rfl,rfl,rfl,aH (by dsimp only;omega),trivial⟩ (Nat.le_refl _) (by simp [dg,hFi];rfl) (mX hA hB hC hD _ _)
    show [A,B,C,D,AB.cells (cw (cw (R.map ah) [ah (R.getD (j - 1) 0)] (0+((j:Nat):Int).toNat * 1)) [ah (R.getD j 0)] (0+(((j:Nat):Int) - 1).toNat * 1)) 1 aD]=[A,B,C,D,iD (swapAt R j) aD]
    rw [he2]
    rfl
   ·have dl:=decide_eq_false hl
    repeat' (first |refine RM.c5 (c:=14) (l1:=[_,_,_,_,_,_,_,_,_,_,_,_,_,_]) (l2:=[_,_,_]) (by kernel_rfl) rfl rfl ?_ |((with_reducible show RM.wpOp _ _ (.load _ _) _ _ _);first|refine RM.F7 rfl rfl rfl hgj ?_|refine RM.F7 rfl rfl rfl hgk ?_) |((with_reducible show bl _ _ _ _ _ _ _ _);refine af.call hle1 hF rfl ?_) |refine u1 ?_ |refine u2 ?_ |fail)
    refine ⟨(i+1,R),⟨⟨by omega,.inl (by dsimp only;omega)⟩,hsi.done hco.flip hco.trans (.inr hl),hpr⟩,(by dsimp only;omega),?_⟩
    exact ai.to 5 rfl ⟨rfl,rfl,rfl,rfl,aH (by simp),trivial⟩ (Nat.le_refl _) (by simp [dg,hFi];rfl) (mX hA hB hC hD _ _)
 ·have d0:decide ((i:Int) < (N:Int))=false:=decide_eq_false (by omega)
  repeat' (first |refine u1 ?_ |fail)
  refine hQ S (fun p q h1 h2=>hso.sorted p q h1 (by omega)) hpe
theorem Js (one:Bool) (c:Int→Int→Int) (hco:Fw c) (g:FuncId) (fs cs:List AV) (hF:(AV.fn g fs cs).deep=true) {A B C D:AB} (hA:AB.di 5 A=true) (hB:AB.di 5 B=true) (hC:AB.di 5 C=true) (hD:AB.di 5 D=true) (hFi:(AV.fn g fs cs).di 5=true)
  (N:Nat) (h4:N≤4) (hcm:∀ (o:Bool) (a b:Nat),a < N→b < N→af TT TB o (.fn g fs cs) [ah a,ah b] (ah (c a b))) (L:List Int) (hN:L.length=N) (hL:∀ q,q < N→L.getD q 0=q) {aD cp:Nat} {aJ:bN} {Q:AV→List AB→bN→Prop} (hQ:∀ S:List Int,pQ c S N→S.Perm L→Q (.tp []) [A,B,C,D,iD S aD] aJ) :
  bl TT TB one (.fn 119 [] []) [.bX 4 aD 0 N cp,ah (N:Nat),.fn g fs cs] [A,B,C,D,iD L aD] aJ Q:=by
 refine bl.body (fn:=Tryz.f119) rfl rfl rfl ?_
 refine aa (mu:=fun _=>false) ?_
 have d0:decide ((20:Int)≤(N:Int))=false:=decide_eq_false (by omega)
 have d1:decide ((20:Int) < (N:Int))=false:=decide_eq_false (by omega)
 repeat' (first |refine u1 ?_ |fail)
 refine az.aK (ai.to (l:=[(0,.bX 4 aD 0 N cp),(1,ah (N:Nat)),(2,.fn g fs cs),(6,ah 20),(7,ah 0),(8,ah 20)]) (hp:=[A,B,C,D,iD L aD]) 5 rfl ⟨rfl,rfl,rfl,rfl,rfl,rfl,trivial⟩ (Nat.le_refl _) (by simp [dg,hFi];rfl) (mX hA hB hC hD _ _)) ?_
 refine az.loop (fun _:Unit=>True) (fun _=>⟨aX [(0,.bX 4 aD 0 N cp),(1,ah (N:Nat)),(2,.fn g fs cs),(6,ah 20),(7,ah 0),(8,ah 20)],[A,B,C,D,iD L aD],aJ,false,5⟩) (fun _=>0) ?_ () trivial
 intro _ _
 refine aa (mu:=fun _=>false) ?_
 repeat' (first |refine Df _ c hco g fs cs hF hA hB hC hD hFi N h4 hcm L hN hL (fun S hso hpe=>?_) |refine u1 ?_ |fail)
 refine az.aK (ai.to (l:=[(0,.bX 4 aD 0 N cp),(1,ah (N:Nat)),(2,.fn g fs cs),(6,ah 20)]) (hp:=[A,B,C,D,iD S aD]) 5 rfl ⟨rfl,rfl,rfl,rfl,trivial⟩ (Nat.le_refl _) (by simp [dg,hFi];rfl) (mX hA hB hC hD _ _)) ?_
 refine az.loop (fun _:Unit=>True) (fun _=>⟨aX [(0,.bX 4 aD 0 N cp),(1,ah (N:Nat)),(2,.fn g fs cs),(6,ah 20)],[A,B,C,D,iD S aD],aJ,false,5⟩) (fun _=>0) ?_ () trivial
 intro _ _
 refine aa (mu:=fun _=>false) ?_
 repeat' (first |refine u1 ?_ |fail)
 exact hQ S hso hpe
theorem Bq (one:Bool) (c:Int→Int→Int) (hco:Fw c) (g:FuncId) (fs cs:List AV) (hF:(AV.fn g fs cs).deep=true) {A B C D:AB} (hA:AB.di 5 A=true) (hB:AB.di 5 B=true) (hC:AB.di 5 C=true) (hD:AB.di 5 D=true) (hFi:(AV.fn g fs cs).di 5=true)
  (N:Nat) (h4:N≤4) (hcm:∀ (o:Bool) (a b:Nat),a < N→b < N→af TT TB o (.fn g fs cs) [ah a,ah b] (ah (c a b))) (L:List Int) (hN:L.length=N) (hL:∀ q,q < N→L.getD q 0=q) {aD cp:Nat} {aJ:bN} {Q:AV→List AB→bN→Prop} (hQ:∀ S:List Int,pQ c S N→S.Perm L→Q (.tp []) [A,B,C,D,iD S aD] aJ) :
  bl TT TB one (.fn 82 [] []) [.bX 4 aD 0 N cp,.fn g fs cs] [A,B,C,D,iD L aD] aJ Q:=by
 refine bl.body (fn:=Tryz.f82) rfl rfl rfl ?_
 refine aa (mu:=fun _=>false) ?_
 repeat' (first |refine Js _ c hco g fs cs hF hA hB hC hD hFi N h4 hcm L hN hL (fun S hso hpe=>?_) |refine u1 ?_ |fail)
 exact hQ S hso hpe
end Go.Proofs.YtalcbebjpgfnfaaGreat
