/-
  Contracts of the program's functions and of the document's. Lemmas alone; their conditions stand in them.
-/
import Derived.Test.YtichbhmnhkegiaaGreatVA3
import Derived.Test.YtichbhmnhkegiaaGreatVK7
import Derived.Test.YtichbhmnhkegiaaGreatVK9
import Derived.Test.YtichbhmnhkegiaaGreatVK10
open Go Go.RM Go.AirLaw
namespace Go.Proofs.YtichbhmnhkegiaaGreat
set_option maxRecDepth 100000
set_option maxHeartbeats 4000000
theorem EO (one:Bool) (a b:Int):Pu one 153 [ah a,ah b] (BB (decide (a < b))):=by
 have ha:=ri one a
 have hb:=ri one b
 refine af.body (fn:=Tryz.f153) rfl rfl rfl rfl ?_
 refine aa (mu:=fun _=>false) ?_
 repeat' (first |refine u1 ?_ |fail)
 exact ⟨[_],⟨Fz.deep rfl,trivial⟩,rfl⟩
def EP (n:Nat):Int:=([0,1,2,2,3,3,3,3,4,4,4,4,4]:List Int).getD n 0
theorem DM (one:Bool) (n:Nat) (hn:n≤12):Pu one 157 [.fl (.int .u64 n)] (ah (EP n)):=by
 match n,hn with
 | 0,_|1,_|2,_|3,_|4,_|5,_|6,_|7,_|8,_|9,_|10,_|11,_|12,_ =>
  refine af.body (fn:=Tryz.f157) rfl rfl rfl rfl ?_
  refine aa (mu:=fun _=>false) ?_
  repeat' (first |refine RM.b1 rfl rfl (of_decide_eq_true (by kernel_rfl)) ?_ |refine u1 ?_ |refine u2 ?_ |fail)
  exact ⟨[_],⟨Fz.deep rfl,trivial⟩,by kernel_rfl⟩
theorem Fu (one:Bool) (n:Nat) (hn:n≤12):Pu one 137 [.fl (.int .u64 n)] (ah (EP n)):=by
 have hv:=DM one n hn
 refine af.body (fn:=Tryz.f137) rfl rfl rfl rfl ?_
 refine aa (mu:=fun _=>false) ?_
 repeat' (first |refine u1 ?_ |fail)
 exact ⟨[_],⟨Fz.deep rfl,trivial⟩,rfl⟩
structure iy (S:List Int) (i j:Nat):Prop where
 others:∀ p q:Nat,p < q→q≤i→p ≠ j→q ≠ j→S.getD p 0≤S.getD q 0
 above:∀ q:Nat,j < q→q≤i→S.getD j 0≤S.getD q 0
theorem iy.start {S:List Int} {i:Nat} (h:i7 S i):iy S i i:=⟨fun p q h1 h2 h3 h4=>h p q h1 (by omega),fun q h1 h2=>by omega⟩
theorem iy.swap {S:List Int} {i j:Nat} (h:iy S i j) (hi:i < S.length) (hj:j≤i) (h0:0 < j) (hl:S.getD j 0 < S.getD (j - 1) 0):iy (swapAt S j) i (j - 1):=by
 have hg:=fun q=>yB S (j:=j) (by omega) h0 q
 constructor
 ·intro p q h1 h2 h3 h4
  rw [hg p,hg q,if_neg h3,if_neg h4]
  by_cases hp:p=j
  ·rw [if_pos hp,if_neg (by omega)]
   exact h.others (j - 1) q (by omega) h2 (by omega) (by omega)
  ·rw [if_neg hp]
   by_cases hq:q=j
   ·rw [if_pos hq]
    by_cases hpj:p=j - 1
    ·exact absurd hpj h3
    ·exact h.others p (j - 1) (by omega) (by omega) hp (by omega)
   ·rw [if_neg hq]
    exact h.others p q h1 h2 hp hq
 ·intro q h1 h2
  rw [hg (j - 1),hg q,if_pos rfl,if_neg (by omega)]
  by_cases hq:q=j
  ·rw [if_pos hq];omega
  ·rw [if_neg hq]
   exact h.above q (by omega) h2
theorem iy.done {S:List Int} {i j:Nat} (h:iy S i j) (hd:j=0∨S.getD (j - 1) 0≤S.getD j 0):i7 S (i+1):=by
 intro p q h1 h2
 by_cases hp:p=j
 ·rw [hp];exact h.above q (by omega) (by omega)
 ·by_cases hq:q=j
  ·rcases hd with hd|hd
   ·omega
   ·rw [hq]
    by_cases hpj:p=j - 1
    ·rw [hpj];exact hd
    ·exact Int.le_trans (h.others p (j - 1) (by omega) (by omega) hp (by omega)) hd
  ·exact h.others p q h1 (by omega) hp hq
theorem qn {A:AB} (hA:AB.cO 2 A=true) (L:List Int) (v:Nat):([A,.cells (L.map ah) 1 v]:List AB).all (AB.cO 2)=true:=by
 have h:AB.cO 2 (.cells (L.map ah) 1 v)=true:=by
  show mJ 2 (L.map ah)=true
  induction L with
  | nil=>rfl
  | cons a l ih=>exact ih
 simp only [List.all_cons,List.all_nil,hA,h,Bool.and_true]
theorem uw (one:Bool) (L:List Int) (N:Nat) (hN:L.length=N) (h12:N≤12) {A:AB} (hA:AB.cO 2 A=true) {ver c:Nat} {ay:bq} {Q:AV→List AB→bq→Prop} (hQ:∀ S:List Int,i7 S N→S.Perm L→Q (.tp []) [A,e9 S ver] ay) :
  aK TT TB one (.fn 147 [] []) [.bF 1 ver 0 N c,ah 0,ah (N:Nat)] [A,e9 L ver] ay Q:=by
 refine aK.body (fn:=Tryz.f147) rfl rfl rfl ?_
 refine aa (mu:=fun _=>false) ?_
 repeat' (first |refine u1 ?_ |fail)
 refine av.aY (ai.to (l:=[(0,.bF 1 ver 0 N c),(1,ah 0),(2,ah (N:Nat)),(6,ah (1:Nat))]) (hp:=[A,e9 L ver]) 2 rfl ⟨rfl,rfl,rfl,rfl,trivial⟩ (Nat.le_refl _) rfl (qn hA _ _)) ?_
 refine av.loop (fun x:Nat × List Int=>(1≤x.1∧(x.1≤N∨x.1=1))∧i7 x.2 x.1∧x.2.Perm L) (fun x=>⟨aP [(0,.bF 1 ver 0 N c),(1,ah 0),(2,ah (N:Nat)),(6,ah (x.1:Nat))],[A,e9 x.2 ver],ay,false,2⟩) (fun x=>N - x.1) ?_ (1,L) ⟨⟨Nat.le_refl _,.inr rfl⟩,(fun p q h1 h2=>by dsimp only at h2;omega),List.Perm.refl _⟩
 rintro ⟨i,S⟩ ⟨⟨hi1,hi⟩,hso,hpe⟩
 dsimp only at hi1 hi hso hpe
 have hSl:S.length=N:=by rw [hpe.length_eq,hN]
 refine aa (mu:=fun _=>false) ?_
 repeat' (first |refine u1 ?_ |fail)
 refine RM.e1 rfl ⟨fun hc=>?_,fun hc=>?_⟩
 ·rw [decide_eq_true_eq] at hc
  repeat' (first |refine u1 ?_ |fail)
  refine av.aY (ai.to (l:=[(0,.bF 1 ver 0 N c),(1,ah 0),(2,ah (N:Nat)),(6,ah (i:Nat)),(7,ah (i:Nat))]) (hp:=[A,e9 S ver]) 2 rfl ⟨rfl,rfl,rfl,rfl,rfl,trivial⟩ (Nat.le_refl _) rfl (qn hA _ _)) ?_
  refine av.loop (fun x:Nat × List Int=>(x.1≤i)∧iy x.2 i x.1∧x.2.Perm L) (fun x=>⟨aP [(0,.bF 1 ver 0 N c),(1,ah 0),(2,ah (N:Nat)),(6,ah (i:Nat)),(7,ah (x.1:Nat))],[A,e9 x.2 ver],ay,false,2⟩) (fun x=>x.1) ?_ (i,S) ⟨Nat.le_refl _,iy.start hso,hpe⟩
  rintro ⟨j,R⟩ ⟨hj,hsi,hpr⟩
  dsimp only at hj hsi hpr
  have hRl:R.length=N:=by rw [hpr.length_eq,hN]
  refine aa (mu:=fun _=>false) ?_
  by_cases h0:j=0
  ·subst h0
   repeat' (first |refine u1 ?_ |refine u2 ?_ |fail)
   refine ⟨(i+1,R),⟨⟨by omega,.inl (by dsimp only;omega)⟩,hsi.done (.inl rfl),hpr⟩,(by dsimp only;omega),?_⟩
   exact ai.to 2 rfl ⟨rfl,rfl,rfl,cG (by simp),trivial⟩ (Nat.le_refl _) rfl (qn hA _ _)
  ·have d1:decide ((0:Int) < (j:Int))=true:=decide_eq_true (by omega)
   have hgj:=oY (S:=R) (q:=j) (by omega)
   have hgk:=oY (S:=R) (q:=j - 1) (by omega)
   rw [show (((j - 1:Nat):Int))=(j:Int) - 1 by omega] at hgk
   have hle:=EO true (R.getD j 0) (R.getD (j - 1) 0)
   by_cases hl:R.getD j 0 < R.getD (j - 1) 0
   ·rw [decide_eq_true hl] at hle
    have hb1:Nat.ble (0+((j:Nat):Int).toNat * 1+1) (R.map ah).length=true:=Nat.ble_eq_true_of_le (by rw [List.length_map];omega)
    have he1:=rm (S:=R) (k:=j) (by omega) (R.getD (j - 1) 0)
    have hb2:Nat.ble (0+(((j:Nat):Int) - 1).toNat * 1+1) (dh (R.map ah) [ah (R.getD (j - 1) 0)] (0+((j:Nat):Int).toNat * 1)).length=true:=Nat.ble_eq_true_of_le (by rw [he1,List.length_map,List.length_set];omega)
    have he2:=rm (S:=R.set j (R.getD (j - 1) 0)) (k:=j - 1) (by rw [List.length_set];omega) (R.getD j 0)
    rw [show (((j - 1:Nat):Int))=(j:Int) - 1 by omega,←he1] at he2
    repeat' (first |((with_reducible show RM.wpOp _ _ (.load _ _) _ _ _);first|refine RM.A7 rfl rfl rfl hgj ?_|refine RM.A7 rfl rfl rfl hgk ?_) |((with_reducible show di _ _ _ _ _ _);first|refine RM.Fe rfl rfl rfl rfl rfl rfl hb1 ?_|refine RM.Fe rfl rfl rfl rfl rfl rfl hb2 ?_) |refine u1 ?_ |refine u2 ?_ |fail)
    refine ⟨(j - 1,swapAt R j),⟨by dsimp only;omega,hsi.swap (by omega) hj (by omega) hl,(swap_perm R (by omega)).trans hpr⟩,(by dsimp only;omega),?_⟩
    refine ai.to 2 ?_ ⟨rfl,rfl,rfl,rfl,cG (by dsimp only;omega),trivial⟩ (Nat.le_refl _) rfl (qn hA _ _)
    show [A,AB.cells (dh (dh (R.map ah) [ah (R.getD (j - 1) 0)] (0+((j:Nat):Int).toNat * 1)) [ah (R.getD j 0)] (0+(((j:Nat):Int) - 1).toNat * 1)) 1 ver]=[A,e9 (swapAt R j) ver]
    rw [he2]
    rfl
   ·rw [decide_eq_false hl] at hle
    repeat' (first |((with_reducible show RM.wpOp _ _ (.load _ _) _ _ _);first|refine RM.A7 rfl rfl rfl hgj ?_|refine RM.A7 rfl rfl rfl hgk ?_) |refine u1 ?_ |refine u2 ?_ |fail)
    refine ⟨(i+1,R),⟨⟨by omega,.inl (by dsimp only;omega)⟩,hsi.done (.inr (by omega)),hpr⟩,(by dsimp only;omega),?_⟩
    exact ai.to 2 rfl ⟨rfl,rfl,rfl,cG (by simp),trivial⟩ (Nat.le_refl _) rfl (qn hA _ _)
 ·rw [decide_eq_false_iff_not] at hc
  repeat' (first |refine u1 ?_ |fail)
  refine hQ S (fun p q h1 h2=>hso p q h1 (by omega)) hpe
theorem Fv (one:Bool) (L:List Int) (N:Nat) (hN:L.length=N) (h12:N≤12) (lim:Int) {A:AB} (hA:AB.cO 2 A=true) {ver c:Nat} {ay:bq} {Q:AV→List AB→bq→Prop} (hQ:∀ S:List Int,i7 S N→S.Perm L→Q (.tp []) [A,e9 S ver] ay) :
  aK TT TB one (.fn 136 [] []) [.bF 1 ver 0 N c,ah 0,ah (N:Nat),ah lim] [A,e9 L ver] ay Q:=by
 refine aK.body (fn:=Tryz.f136) rfl rfl rfl ?_
 refine aa (mu:=fun _=>false) ?_
 repeat' (first |refine u1 ?_ |fail)
 refine av.aY (ai.to (l:=[(0,.bF 1 ver 0 N c),(1,ah 0),(2,ah (N:Nat)),(3,ah lim),(8,.fl (.bool true)),(9,.fl (.bool true))]) (hp:=[A,e9 L ver]) 2 rfl ⟨rfl,rfl,rfl,rfl,rfl,rfl,trivial⟩ (Nat.le_refl _) rfl (qn hA _ _)) ?_
 refine av.loop (fun _:Unit=>True) (fun _=>⟨aP [(0,.bF 1 ver 0 N c),(1,ah 0),(2,ah (N:Nat)),(3,ah lim),(8,.fl (.bool true)),(9,.fl (.bool true))],[A,e9 L ver],ay,false,2⟩) (fun _=>0) ?_ () trivial
 intro _ _
 refine aa (mu:=fun _=>false) ?_
 have d1:decide ((N:Int) - 0≤12)=true:=decide_eq_true (by omega)
 repeat' (first |refine uw _ L N hN h12 hA (fun S hso hpe=>?_) |refine u1 ?_ |fail)
 exact hQ S hso hpe
theorem zD:∀ {N:Nat},N≤12→IntKind.u64.wrap (N:Int)=(N:Int)
 | 0,_|1,_|2,_|3,_|4,_|5,_|6,_|7,_|8,_|9,_|10,_|11,_|12,_=>rfl
theorem ER (one:Bool) (L:List Int) (N:Nat) (hN:L.length=N) (h12:N≤12) {A:AB} (hA:AB.cO 2 A=true) {ver c:Nat} {ay:bq} {Q:AV→List AB→bq→Prop} (hQ:∀ S:List Int,i7 S N→S.Perm L→Q (.tp []) [A,e9 S ver] ay) :
  aK TT TB one (.fn 103 [] []) [.bF 1 ver 0 N c] [A,e9 L ver] ay Q:=by
 refine aK.body (fn:=Tryz.f103) rfl rfl rfl ?_
 refine aa (mu:=fun _=>false) ?_
 have hw:IntKind.u64.wrap (N:Int)=(N:Int):=zD h12
 have hv:Pu one 137 [.fl (.int .u64 (IntKind.u64.wrap (N:Int)))] (ah (EP N)):=by rw [hw];exact Fu one N h12
 repeat' (first |refine Fv _ L N hN h12 _ hA (fun S hso hpe=>?_) |refine u1 ?_ |refine u2 ?_ |fail)
 exact hQ S hso hpe
end Go.Proofs.YtichbhmnhkegiaaGreat
open Go Go.RM Go.AirLaw
namespace Go.Proofs.YtichbhmnhkegiaaGreat
set_option maxRecDepth 100000
set_option maxHeartbeats 4000000
def zE (n:aE) (rs:List aA) (tl th:Int × Int):List Int:=aW (fun i=>cu false n rs tl i || cu true n rs th i) 0 rs.length
structure Ec (s:au) (n:aE) (rs:List aA) (tl th:Int × Int):Prop where
 l:tl ∈ iw s n
 h:th ∈ kX s n
 Fw:∀ u ∈ iw s n,¬ fW (aW (cu false n rs u) 0 rs.length) (aW (cu false n rs tl) 0 rs.length)
 hmin:∀ u ∈ kX s n,¬ fW (aW (cu true n rs u) 0 rs.length) (aW (cu true n rs th) 0 rs.length)
theorem Bv {n:aE} {rs:List aA} {t u:Int × Int} (i:Nat) (h:cu false n rs t i=true) (k:cu true n rs u i=true):False:=by
 unfold cu at h k
 cases hr:rs[i]? with
 | none=>rw [hr] at h;cases h
 | some r =>
  rw [hr] at h k
  dsimp only at h k
  unfold EK at h k
  cases hh:r.cN <;> rw [hh] at h k <;> simp at h k
theorem DN {hp:List AB} {j v c n:Nat} {L:List Int} (h:hp[j]?=some (.cells (L.map ah) 1 v)) (hn:L.length=n):Fz hp (.bF j v 0 n c) (.sl (L.map eI) false) :=
 Fz.row (es:=1) h (by simp;omega) (by simp;omega) (fun el hel=>by obtain ⟨x,_,rfl⟩:=List.mem_map.1 hel;rfl) (by rw [m9,List.drop_zero,List.take_of_length_le (by simp;omega)]) (by rw [m9];exact yp _) (fun h=>Bool.noConfusion h)
theorem Ed (L:List Int):(L.map eI).flatten.all AV.one=true:=by
 rw [m9]
 induction L with
 | nil=>rfl
 | cons a l ih=>exact ih
theorem Ee {own:Bool} {fr:Nat→AV} {hp:List AB} {K:AV→List AB→Prop} {s x:Operand} {t u e:TypeId} {a1 a2 a3 a4 a5 a6} {j ver n c:Nat} {els:List (List AV)} {f:Bool} {cs:List AV} {inf:ux} {cs':List AV} {n':Nat} (he:cs++els.flatten=cs') (hn:n+els.length=n') (hs:aB fr s=.bF j ver 0 n c) (hx:aB fr x=.sl els f)
  (hu:TT.ty.get u=some ⟨.slice e,a1,a2,a3,a4,a5,a6⟩) (hi:elem? TT t=some inf) (hz:aZ inf=true) (hel:∀ el ∈ els,el.length=inf.size) (h1:els.flatten.all AV.one=true) (hj:hp[j]?=some (.cells cs inf.size ver)) (hl:cs.length=n * inf.size) (hc:c=n∨c=n+1)
  (hb:n' * inf.bytes≤140737488355328∧n'≤9223372036854775807) (hk:∀ v c',(c'=n'∨c'=n'+1)→K (.bF j v 0 n' c') (hp.set j (.cells cs' inf.size v))) :
  RM.wpOp TT own (.call ⟨.builtin .append,[s,x].toArray,[t,u].toArray⟩) fr hp K:=by
 subst he;subst hn
 exact RM.Dv hs hx hu hi hz hel h1 hj hl hc hb hk
theorem DO (s:au) (h:s.Ok) (n:aE) (rs:List aA) (f:Bool) (h0:(bT s n rs).2=0) (tl th:Int × Int) (hb:Ec s n rs tl th):Pu false 39 [.ag (bz s),.ag (gu n),.sl (rs.map az) f] (.tp [.sl ((zE n rs tl th).map eI) false,ah 0]):=by
 have ho:=iD h0
 have h8:=ho.Fm
 have hen:=mz false s h n rs f (by unfold maxLen;omega)
 rw [h0] at hen
 have c1:=kC true f ho
 have c2:=wv true f ho
 have g1:=ho.mM.cand _ ho.mem
 have g2:=ho.mM.clear
 have g3:=ho.mM.bW
 have g4:=ho.eT
 have g5:=ho.eK
 have m1:=Br s n rs f ho _ _ _ _ (yl false (gr s n.cM).cand s.clear (by omega) (by omega)) (fun x hx=>ho.F8 (cN:=false) hx) (At ho false) tl hb.l hb.Fw
 have m2:=Bs s n rs f ho _ _ _ _ (ym false s.bW ⟨n.eT,n.eT+n.eK - 1⟩ (by omega) (by dsimp only;omega) (by dsimp only;omega)) (fun x hx=>ho.F8 (cN:=true) hx) (At ho true) th hb.h hb.hmin
 have l1:=fA (cu false n rs tl) 0 rs.length
 have l2:=fA (cu true n rs th) 0 rs.length
 have hper:=Ex (p:=cu false n rs tl) (q:=cu true n rs th) (fun i=>Bv i) 0 rs.length
 unfold zE
 generalize aW (cu false n rs tl) 0 rs.length=P1 at *
 generalize aW (cu true n rs th) 0 rs.length=P2 at *
 have d0:(!decide ((0:Int)=0))=false:=by decide
 refine af.body (fn:=Tryz.f39) rfl rfl rfl rfl ?_
 refine RM.dA (mu:=fun t=>Nat.beq t 21 || Nat.beq t 26 || Nat.beq t 32) ?_
 repeat' (first |refine u1 ?_ |fail)
 refine RM.dA (mu:=fun t=>Nat.beq t 21 || Nat.beq t 26 || Nat.beq t 32) ?_
 repeat' (first |refine u1 ?_ |fail)
 refine RM.dA (mu:=fun t=>Nat.beq t 21 || Nat.beq t 26 || Nat.beq t 32) ?_
 repeat' (first |refine u1 ?_ |fail)
 have hc1:P1.length * 8≤140737488355328∧P1.length≤9223372036854775807:=by omega
 have e1:0+(P1.map eI).length=P1.length:=by rw [List.length_map];omega
 have e2:P1.length+(P2.map eI).length=(P1++P2).length:=by rw [List.length_map,List.length_append]
 have f1:[]++(P1.map eI).flatten=P1.map ah:=m9 P1
 have f2:P1.map ah++(P2.map eI).flatten=(P1++P2).map ah:=by rw [m9,List.map_append]
 have f3:(P1.map ah).length=P1.length * 1:=by rw [List.length_map];omega
 have hpl:=hper.length_eq
 have l3:=fA (fun i=>cu false n rs tl i || cu true n rs th i) 0 rs.length
 have hc2:(P1++P2).length * 8≤140737488355328∧(P1++P2).length≤9223372036854775807:=by omega
 have h12:(P1++P2).length≤12:=by omega
 refine av.seq ?_
 refine av.FF 4 (l1:=[_,_,_,_]) (mu:=fun t=>Nat.beq t 21 || Nat.beq t 26 || Nat.beq t 32) (by kernel_rfl) rfl ?_
 repeat' (first |refine RM.FT (l2:=[_,_]) (k:=5) rfl rfl rfl rfl m1 rfl rfl rfl (.inl (And.intro rfl rfl)) (by kernel_rfl) ?_ |((with_reducible show RM.wpOp _ _ (.call _) _ _ _);refine Ee (cs:=[]) (n:=0) (els:=P1.map eI) f1 e1 rfl rfl rfl rfl rfl (fun el hel=>by obtain ⟨x,_,rfl⟩:=List.mem_map.1 hel;rfl) (Ed P1) rfl rfl (.inl rfl) hc1 (fun v1 c1' hc1'=>?_)) |refine u1 ?_ |fail)
 refine av.seq ?_
 refine av.FF 4 (l1:=[_,_,_,_]) (mu:=fun t=>Nat.beq t 21 || Nat.beq t 26 || Nat.beq t 32) (by kernel_rfl) rfl ?_
 repeat' (first |refine RM.FT (l2:=[_,_]) (k:=5) rfl rfl rfl rfl m2 rfl rfl rfl (.inl (And.intro rfl rfl)) (by kernel_rfl) ?_ |((with_reducible show RM.wpOp _ _ (.call _) _ _ _);refine Ee (cs:=P1.map ah) (n:=P1.length) (els:=P2.map eI) f2 e2 rfl rfl rfl rfl rfl (fun el hel=>by obtain ⟨x,_,rfl⟩:=List.mem_map.1 hel;rfl) (Ed P2) rfl f3 hc1' hc2 (fun v2 c2' hc2'=>?_)) |refine u1 ?_ |fail)
 refine RM.dA (mu:=fun t=>Nat.beq t 21 || Nat.beq t 26 || Nat.beq t 32) ?_
 repeat' (first |refine ER _ (P1++P2) (P1++P2).length rfl h12 rfl (fun S hso hpe=>?_) |refine u1 ?_ |fail)
 have hS:=Bc hpe.length_eq hso (hpe.trans hper.symm)
 have hSl:=hpe.length_eq
 rw [←hS]
 refine aa (mu:=fun _=>false) ?_
 repeat' (first |refine u1 ?_ |fail)
 exact ⟨[_,_],⟨DN rfl hSl,Fz.deep rfl,trivial⟩,rfl⟩
end Go.Proofs.YtichbhmnhkegiaaGreat
open Go Go.RM Go.AirLaw
namespace Go.Proofs.YtichbhmnhkegiaaGreat
set_option maxRecDepth 100000
set_option maxHeartbeats 4000000
structure Aw (c:Int→Int→Int):Prop where
 flip:∀ a b,¬ c a b < 0→c b a < 0∨c b a=0
 trans:∀ a b d,Rb c a b→Rb c b d→Rb c a d
theorem yC (one:Bool) (c:Int→Int→Int) (hco:Aw c) (g:FuncId) (fs cs:List AV) (hF:(AV.fn g fs cs).deep=true) {A B C D:AB} (hA:AB.cO 5 A=true) (hB:AB.cO 5 B=true) (hC:AB.cO 5 C=true) (hD:AB.cO 5 D=true) (hFi:(AV.fn g fs cs).cO 5=true)
  (N:Nat) (h4:N≤4) (hcm:∀ (o:Bool) (a b:Nat),a < N→b < N→af TT TB o (.fn g fs cs) [ah a,ah b] (ah (c a b))) (L:List Int) (hN:L.length=N) (hL:∀ q,q < N→L.getD q 0=q) {ver cp:Nat} {ay:bq} {Q:AV→List AB→bq→Prop} (hQ:∀ S:List Int,lZ c S N→S.Perm L→Q (.tp []) [A,B,C,D,e9 S ver] ay) :
  aK TT TB one (.fn 145 [] []) [.bF 4 ver 0 N cp,ah 0,ah (N:Nat),.fn g fs cs] [A,B,C,D,e9 L ver] ay Q:=by
 refine aK.body (fn:=Tryz.f145) rfl rfl rfl ?_
 refine aa (mu:=fun _=>false) ?_
 repeat' (first |refine u1 ?_ |fail)
 refine av.aY (ai.to (l:=[(0,.bF 4 ver 0 N cp),(1,ah 0),(2,ah (N:Nat)),(3,.fn g fs cs),(8,ah (1:Nat))]) (hp:=[A,B,C,D,e9 L ver]) 5 rfl ⟨rfl,rfl,rfl,rfl,rfl,trivial⟩ (Nat.le_refl _) (by simp [eX,hFi];rfl) (jS hA hB hC hD _ _)) ?_
 refine av.loop (fun x:Nat × List Int=>(1≤x.1∧(x.1≤N∨x.1=1))∧tB c x.2 x.1∧x.2.Perm L) (fun x=>⟨aP [(0,.bF 4 ver 0 N cp),(1,ah 0),(2,ah (N:Nat)),(3,.fn g fs cs),(8,ah (x.1:Nat))],[A,B,C,D,e9 x.2 ver],ay,false,5⟩) (fun x=>N - x.1) ?_ (1,L) ⟨⟨Nat.le_refl _,.inr rfl⟩,⟨(fun p q h1 h2=>by dsimp only at h2;omega),(fun q hq=>by dsimp only at hq ⊢;rw [show q=0 by omega];by_cases hz:0 < N;rw [hL 0 hz];decide;rw [List.getD_eq_getElem?_getD,List.getElem?_eq_none (by omega)];decide),fun q _ h2=>hL q (by dsimp only at h2;omega)⟩,List.Perm.refl _⟩
 have hmem:∀ {R:List Int},R.Perm L→∀ q,q < N→∃ a:Nat,a < N∧R.getD q 0=a:=by
  intro R hR q hq
  have hRl:R.length=N:=by rw [hR.length_eq,hN]
  have h1:R.getD q 0 ∈ L:=by
   rw [List.getD_eq_getElem?_getD,List.getElem?_eq_getElem (by omega)]
   exact hR.mem_iff.1 (List.getElem_mem _)
  obtain ⟨a,ha,e⟩:=List.getElem_of_mem h1
  refine ⟨a,by omega,?_⟩
  rw [←e,←hL a (by omega),List.getD_eq_getElem?_getD,List.getElem?_eq_getElem ha]
  rfl
 rintro ⟨i,S⟩ ⟨⟨hi1,hi⟩,hso,hpe⟩
 dsimp only at hi1 hi hso hpe
 have hSl:S.length=N:=by rw [hpe.length_eq,hN]
 show av _ _ _ _ ⟨aP [(0,.bF 4 ver 0 N cp),(1,ah 0),(2,ah (N:Nat)),(3,.fn g fs cs),(8,ah (i:Nat))],[A,B,C,D,e9 S ver],ay,false,5⟩ _
 refine aa (mu:=fun _=>false) ?_
 by_cases hc:i < N
 ·have d0:decide ((i:Int) < (N:Int))=true:=decide_eq_true (by omega)
  repeat' (first |refine u1 ?_ |fail)
  refine av.aY (ai.to (l:=[(0,.bF 4 ver 0 N cp),(1,ah 0),(2,ah (N:Nat)),(3,.fn g fs cs),(8,ah (i:Nat)),(9,ah (i:Nat))]) (hp:=[A,B,C,D,e9 S ver]) 5 rfl ⟨rfl,rfl,rfl,rfl,rfl,rfl,trivial⟩ (Nat.le_refl _) (by simp [eX,hFi];rfl) (jS hA hB hC hD _ _)) ?_
  refine av.loop (fun x:Nat × List Int=>(x.1≤i)∧tA c x.2 i x.1∧x.2.Perm L) (fun x=>⟨aP [(0,.bF 4 ver 0 N cp),(1,ah 0),(2,ah (N:Nat)),(3,.fn g fs cs),(8,ah (i:Nat)),(9,ah (x.1:Nat))],[A,B,C,D,e9 x.2 ver],ay,false,5⟩) (fun x=>x.1) ?_ (i,S) ⟨Nat.le_refl _,tB.start hso (by dsimp only;omega),hpe⟩
  rintro ⟨j,R⟩ ⟨hj,hsi,hpr⟩
  dsimp only at hj hsi hpr
  have hRl:R.length=N:=by rw [hpr.length_eq,hN]
  show av _ _ _ _ ⟨aP [(0,.bF 4 ver 0 N cp),(1,ah 0),(2,ah (N:Nat)),(3,.fn g fs cs),(8,ah (i:Nat)),(9,ah (j:Nat))],[A,B,C,D,e9 R ver],ay,false,5⟩ _
  refine aa (mu:=fun _=>false) ?_
  by_cases h0:j=0
  ·subst h0
   repeat' (first |refine RM.c5 (c:=14) (l1:=[_,_,_,_,_,_,_,_,_,_,_,_,_,_]) (l2:=[_,_,_]) (by kernel_rfl) rfl rfl ?_ |refine u1 ?_ |refine u2 ?_ |fail)
   refine ⟨(i+1,R),⟨⟨by omega,.inl (by dsimp only;omega)⟩,hsi.done hco.flip hco.trans (.inl rfl),hpr⟩,(by dsimp only;omega),?_⟩
   exact ai.to 5 rfl ⟨rfl,rfl,rfl,rfl,cG (by simp),trivial⟩ (Nat.le_refl _) (by simp [eX,hFi];rfl) (jS hA hB hC hD _ _)
  ·have d1:decide ((0:Int) < (j:Int))=true:=decide_eq_true (by omega)
   have hgj:=oY (S:=R) (q:=j) (by omega)
   have hgk:=oY (S:=R) (q:=j - 1) (by omega)
   rw [show (((j - 1:Nat):Int))=(j:Int) - 1 by omega] at hgk
   obtain ⟨a,ha,ea⟩:=hmem hpr j (by omega)
   obtain ⟨b,hb,eb⟩:=hmem hpr (j - 1) (by omega)
   have hle:=fun o=>hcm o a b ha hb
   rw [←ea,←eb] at hle
   have hle1:=hle one
   have hle2:=hle true
   by_cases hl:c (R.getD j 0) (R.getD (j - 1) 0) < 0
   ·have dl:=decide_eq_true hl
    have hb1:Nat.ble (0+((j:Nat):Int).toNat * 1+1) (R.map ah).length=true:=Nat.ble_eq_true_of_le (by rw [List.length_map];omega)
    have he1:=rm (S:=R) (k:=j) (by omega) (R.getD (j - 1) 0)
    have hb2:Nat.ble (0+(((j:Nat):Int) - 1).toNat * 1+1) (dh (R.map ah) [ah (R.getD (j - 1) 0)] (0+((j:Nat):Int).toNat * 1)).length=true:=Nat.ble_eq_true_of_le (by rw [he1,List.length_map,List.length_set];omega)
    have he2:=rm (S:=R.set j (R.getD (j - 1) 0)) (k:=j - 1) (by rw [List.length_set];omega) (R.getD j 0)
    rw [show (((j - 1:Nat):Int))=(j:Int) - 1 by omega,←he1] at he2
    repeat' (first |refine RM.c5 (c:=14) (l1:=[_,_,_,_,_,_,_,_,_,_,_,_,_,_]) (l2:=[_,_,_]) (by kernel_rfl) rfl rfl ?_ |((with_reducible show RM.wpOp _ _ (.load _ _) _ _ _);first|refine RM.A7 rfl rfl rfl hgj ?_|refine RM.A7 rfl rfl rfl hgk ?_) |((with_reducible show aK _ _ _ _ _ _ _ _);refine af.call hle1 hF rfl ?_) |((with_reducible show di _ _ _ _ _ _);first|refine RM.Fe rfl rfl rfl rfl rfl rfl hb1 ?_|refine RM.Fe rfl rfl rfl rfl rfl rfl hb2 ?_) |refine u1 ?_ |refine u2 ?_ |fail)
    refine ⟨(j - 1,swapAt R j),⟨by dsimp only;omega,hsi.swap (by omega) hj (by omega) hl,(swap_perm R (by omega)).trans hpr⟩,(by dsimp only;omega),?_⟩
    refine ai.to 5 ?_ ⟨rfl,rfl,rfl,rfl,rfl,cG (by dsimp only;omega),trivial⟩ (Nat.le_refl _) (by simp [eX,hFi];rfl) (jS hA hB hC hD _ _)
    show [A,B,C,D,AB.cells (dh (dh (R.map ah) [ah (R.getD (j - 1) 0)] (0+((j:Nat):Int).toNat * 1)) [ah (R.getD j 0)] (0+(((j:Nat):Int) - 1).toNat * 1)) 1 ver]=[A,B,C,D,e9 (swapAt R j) ver]
    rw [he2]
    rfl
   ·have dl:=decide_eq_false hl
    repeat' (first |refine RM.c5 (c:=14) (l1:=[_,_,_,_,_,_,_,_,_,_,_,_,_,_]) (l2:=[_,_,_]) (by kernel_rfl) rfl rfl ?_ |((with_reducible show RM.wpOp _ _ (.load _ _) _ _ _);first|refine RM.A7 rfl rfl rfl hgj ?_|refine RM.A7 rfl rfl rfl hgk ?_) |((with_reducible show aK _ _ _ _ _ _ _ _);refine af.call hle1 hF rfl ?_) |refine u1 ?_ |refine u2 ?_ |fail)
    refine ⟨(i+1,R),⟨⟨by omega,.inl (by dsimp only;omega)⟩,hsi.done hco.flip hco.trans (.inr hl),hpr⟩,(by dsimp only;omega),?_⟩
    exact ai.to 5 rfl ⟨rfl,rfl,rfl,rfl,cG (by simp),trivial⟩ (Nat.le_refl _) (by simp [eX,hFi];rfl) (jS hA hB hC hD _ _)
 ·have d0:decide ((i:Int) < (N:Int))=false:=decide_eq_false (by omega)
  repeat' (first |refine u1 ?_ |fail)
  refine hQ S (fun p q h1 h2=>hso.sorted p q h1 (by omega)) hpe
theorem CX (one:Bool) (c:Int→Int→Int) (hco:Aw c) (g:FuncId) (fs cs:List AV) (hF:(AV.fn g fs cs).deep=true) {A B C D:AB} (hA:AB.cO 5 A=true) (hB:AB.cO 5 B=true) (hC:AB.cO 5 C=true) (hD:AB.cO 5 D=true) (hFi:(AV.fn g fs cs).cO 5=true)
  (N:Nat) (h4:N≤4) (hcm:∀ (o:Bool) (a b:Nat),a < N→b < N→af TT TB o (.fn g fs cs) [ah a,ah b] (ah (c a b))) (L:List Int) (hN:L.length=N) (hL:∀ q,q < N→L.getD q 0=q) {ver cp:Nat} {ay:bq} {Q:AV→List AB→bq→Prop} (hQ:∀ S:List Int,lZ c S N→S.Perm L→Q (.tp []) [A,B,C,D,e9 S ver] ay) :
  aK TT TB one (.fn 132 [] []) [.bF 4 ver 0 N cp,ah (N:Nat),.fn g fs cs] [A,B,C,D,e9 L ver] ay Q:=by
 refine aK.body (fn:=Tryz.f132) rfl rfl rfl ?_
 refine aa (mu:=fun _=>false) ?_
 have d0:decide ((20:Int)≤(N:Int))=false:=decide_eq_false (by omega)
 have d1:decide ((20:Int) < (N:Int))=false:=decide_eq_false (by omega)
 repeat' (first |refine u1 ?_ |fail)
 refine av.aY (ai.to (l:=[(0,.bF 4 ver 0 N cp),(1,ah (N:Nat)),(2,.fn g fs cs),(6,ah 20),(7,ah 0),(8,ah 20)]) (hp:=[A,B,C,D,e9 L ver]) 5 rfl ⟨rfl,rfl,rfl,rfl,rfl,rfl,trivial⟩ (Nat.le_refl _) (by simp [eX,hFi];rfl) (jS hA hB hC hD _ _)) ?_
 refine av.loop (fun _:Unit=>True) (fun _=>⟨aP [(0,.bF 4 ver 0 N cp),(1,ah (N:Nat)),(2,.fn g fs cs),(6,ah 20),(7,ah 0),(8,ah 20)],[A,B,C,D,e9 L ver],ay,false,5⟩) (fun _=>0) ?_ () trivial
 intro _ _
 refine aa (mu:=fun _=>false) ?_
 repeat' (first |refine yC _ c hco g fs cs hF hA hB hC hD hFi N h4 hcm L hN hL (fun S hso hpe=>?_) |refine u1 ?_ |fail)
 refine av.aY (ai.to (l:=[(0,.bF 4 ver 0 N cp),(1,ah (N:Nat)),(2,.fn g fs cs),(6,ah 20)]) (hp:=[A,B,C,D,e9 S ver]) 5 rfl ⟨rfl,rfl,rfl,rfl,trivial⟩ (Nat.le_refl _) (by simp [eX,hFi];rfl) (jS hA hB hC hD _ _)) ?_
 refine av.loop (fun _:Unit=>True) (fun _=>⟨aP [(0,.bF 4 ver 0 N cp),(1,ah (N:Nat)),(2,.fn g fs cs),(6,ah 20)],[A,B,C,D,e9 S ver],ay,false,5⟩) (fun _=>0) ?_ () trivial
 intro _ _
 refine aa (mu:=fun _=>false) ?_
 repeat' (first |refine u1 ?_ |fail)
 exact hQ S hso hpe
theorem wH (one:Bool) (c:Int→Int→Int) (hco:Aw c) (g:FuncId) (fs cs:List AV) (hF:(AV.fn g fs cs).deep=true) {A B C D:AB} (hA:AB.cO 5 A=true) (hB:AB.cO 5 B=true) (hC:AB.cO 5 C=true) (hD:AB.cO 5 D=true) (hFi:(AV.fn g fs cs).cO 5=true)
  (N:Nat) (h4:N≤4) (hcm:∀ (o:Bool) (a b:Nat),a < N→b < N→af TT TB o (.fn g fs cs) [ah a,ah b] (ah (c a b))) (L:List Int) (hN:L.length=N) (hL:∀ q,q < N→L.getD q 0=q) {ver cp:Nat} {ay:bq} {Q:AV→List AB→bq→Prop} (hQ:∀ S:List Int,lZ c S N→S.Perm L→Q (.tp []) [A,B,C,D,e9 S ver] ay) :
  aK TT TB one (.fn 98 [] []) [.bF 4 ver 0 N cp,.fn g fs cs] [A,B,C,D,e9 L ver] ay Q:=by
 refine aK.body (fn:=Tryz.f98) rfl rfl rfl ?_
 refine aa (mu:=fun _=>false) ?_
 repeat' (first |refine CX _ c hco g fs cs hF hA hB hC hD hFi N h4 hcm L hN hL (fun S hso hpe=>?_) |refine u1 ?_ |fail)
 exact hQ S hso hpe
end Go.Proofs.YtichbhmnhkegiaaGreat
