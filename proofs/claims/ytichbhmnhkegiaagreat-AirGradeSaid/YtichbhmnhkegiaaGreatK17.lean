/-
  Contracts of the program's functions and of the document's. Lemmas alone; their conditions stand in them.
-/
import Derived.Test.YtichbhmnhkegiaaGreatK16
open Go Go.RM Go.AirLaw
namespace Go.Proofs.YtichbhmnhkegiaaGreat
set_option maxRecDepth 100000
set_option maxHeartbeats 4000000
structure Fl (c:Int→Int→Int):Prop where
 flip:∀ a b,¬ c a b < 0→c b a < 0∨c b a=0
 trans:∀ a b d,Rb c a b→Rb c b d→Rb c a d
theorem CP (one:Bool) (c:Int→Int→Int) (hco:Fl c) (g:FuncId) (fs cs:List AV) (hF:(AV.fn g fs cs).deep=true) {A B C D:AB} (hA:AB.cJ 5 A=true) (hB:AB.cJ 5 B=true) (hC:AB.cJ 5 C=true) (hD:AB.cJ 5 D=true) (hFi:(AV.fn g fs cs).cJ 5=true)
  (N:Nat) (h4:N≤4) (hcm:∀ (o:Bool) (a b:Nat),a < N→b < N→af TT TB o (.fn g fs cs) [ai a,ai b] (ai (c a b))) (L:List Int) (hN:L.length=N) (hL:∀ q,q < N→L.getD q 0=q) {ver cp:Nat} {aI:aV} {Q:AV→List AB→aV→Prop} (hQ:∀ S:List Int,oT c S N→S.Perm L→Q (.tp []) [A,B,C,D,gw S ver] aI) :
  aP TT TB one (.fn 145 [] []) [.bg 4 ver 0 N cp,ai 0,ai (N:Nat),.fn g fs cs] [A,B,C,D,gw L ver] aI Q:=by
 refine aP.body (fn:=Tryz.f145) rfl rfl rfl ?_
 refine aa (mu:=fun _=>false) ?_
 repeat' (first |refine u1 ?_ |fail)
 refine ax.aK (ah.to (l:=[(0,.bg 4 ver 0 N cp),(1,ai 0),(2,ai (N:Nat)),(3,.fn g fs cs),(8,ai (1:Nat))]) (hp:=[A,B,C,D,gw L ver]) 5 rfl ⟨rfl,rfl,rfl,rfl,rfl,trivial⟩ (Nat.le_refl _) (by simp [gm,hFi];rfl) (l6 hA hB hC hD _ _)) ?_
 refine ax.loop (fun x:Nat × List Int=>(1≤x.1∧(x.1≤N∨x.1=1))∧wY c x.2 x.1∧x.2.Perm L) (fun x=>⟨aF [(0,.bg 4 ver 0 N cp),(1,ai 0),(2,ai (N:Nat)),(3,.fn g fs cs),(8,ai (x.1:Nat))],[A,B,C,D,gw x.2 ver],aI,false,5⟩) (fun x=>N - x.1) ?_ (1,L) ⟨⟨Nat.le_refl _,.inr rfl⟩,⟨(fun p q h1 h2=>by dsimp only at h2;omega),(fun q hq=>by dsimp only at hq ⊢;rw [show q=0 by omega];by_cases hz:0 < N;rw [hL 0 hz];decide;rw [List.getD_eq_getElem?_getD,List.getElem?_eq_none (by omega)];decide),fun q _ h2=>hL q (by dsimp only at h2;omega)⟩,List.Perm.refl _⟩
 have hmem:∀ {R:List Int},R.Perm L→∀ q,q < N→∃ a:Nat,a < N∧R.getD q 0=a:=by
  intro R hR q hq
  have hRl:R.length=N:=by rw [hR.length_eq,hN]
  have h1:R.getD q 0 ∈ L:=by
   rw [List.getD_eq_getElem?_getD,List.getElem?_eq_getElem (by omega)]
   exact hR.mem_iff.1 (List.getElem_mem _)
  obtain ⟨a,ha,e⟩:=List.getElem_of_mem h1
  refine ⟨a,by omega,?_⟩
  rw [←e,←hL a (by omega),List.getD_eq_getElem?_getD,List.getElem?_eq_getElem ha]
  rfl
 rintro ⟨i,S⟩ ⟨⟨hi1,hi⟩,hso,hpe⟩
 dsimp only at hi1 hi hso hpe
 have hSl:S.length=N:=by rw [hpe.length_eq,hN]
 show ax _ _ _ _ ⟨aF [(0,.bg 4 ver 0 N cp),(1,ai 0),(2,ai (N:Nat)),(3,.fn g fs cs),(8,ai (i:Nat))],[A,B,C,D,gw S ver],aI,false,5⟩ _
 refine aa (mu:=fun _=>false) ?_
 by_cases hc:i < N
 ·have d0:decide ((i:Int) < (N:Int))=true:=decide_eq_true (by omega)
  repeat' (first |refine u1 ?_ |fail)
  refine ax.aK (ah.to (l:=[(0,.bg 4 ver 0 N cp),(1,ai 0),(2,ai (N:Nat)),(3,.fn g fs cs),(8,ai (i:Nat)),(9,ai (i:Nat))]) (hp:=[A,B,C,D,gw S ver]) 5 rfl ⟨rfl,rfl,rfl,rfl,rfl,rfl,trivial⟩ (Nat.le_refl _) (by simp [gm,hFi];rfl) (l6 hA hB hC hD _ _)) ?_
  refine ax.loop (fun x:Nat × List Int=>(x.1≤i)∧wX c x.2 i x.1∧x.2.Perm L) (fun x=>⟨aF [(0,.bg 4 ver 0 N cp),(1,ai 0),(2,ai (N:Nat)),(3,.fn g fs cs),(8,ai (i:Nat)),(9,ai (x.1:Nat))],[A,B,C,D,gw x.2 ver],aI,false,5⟩) (fun x=>x.1) ?_ (i,S) ⟨Nat.le_refl _,wY.start hso (by dsimp only;omega),hpe⟩
  rintro ⟨j,R⟩ ⟨hj,hsi,hpr⟩
  dsimp only at hj hsi hpr
  have hRl:R.length=N:=by rw [hpr.length_eq,hN]
  show ax _ _ _ _ ⟨aF [(0,.bg 4 ver 0 N cp),(1,ai 0),(2,ai (N:Nat)),(3,.fn g fs cs),(8,ai (i:Nat)),(9,ai (j:Nat))],[A,B,C,D,gw R ver],aI,false,5⟩ _
  refine aa (mu:=fun _=>false) ?_
  by_cases h0:j=0
  ·subst h0
   repeat' (first |refine RM.c5 (c:=14) (l1:=[_,_,_,_,_,_,_,_,_,_,_,_,_,_]) (l2:=[_,_,_]) (by kernel_rfl) rfl rfl ?_ |refine u1 ?_ |refine u2 ?_ |fail)
   refine ⟨(i+1,R),⟨⟨by omega,.inl (by dsimp only;omega)⟩,hsi.done hco.flip hco.trans (.inl rfl),hpr⟩,(by dsimp only;omega),?_⟩
   exact ah.to 5 rfl ⟨rfl,rfl,rfl,rfl,aR (by simp),trivial⟩ (Nat.le_refl _) (by simp [gm,hFi];rfl) (l6 hA hB hC hD _ _)
  ·have d1:decide ((0:Int) < (j:Int))=true:=decide_eq_true (by omega)
   have hgj:=sR (S:=R) (q:=j) (by omega)
   have hgk:=sR (S:=R) (q:=j - 1) (by omega)
   rw [show (((j - 1:Nat):Int))=(j:Int) - 1 by omega] at hgk
   obtain ⟨a,ha,ea⟩:=hmem hpr j (by omega)
   obtain ⟨b,hb,eb⟩:=hmem hpr (j - 1) (by omega)
   have hle:=fun o=>hcm o a b ha hb
   rw [←ea,←eb] at hle
   have hle1:=hle one
   have hle2:=hle true
   by_cases hl:c (R.getD j 0) (R.getD (j - 1) 0) < 0
   ·have dl:=decide_eq_true hl
    have hb1:Nat.ble (0+((j:Nat):Int).toNat * 1+1) (R.map ai).length=true:=Nat.ble_eq_true_of_le (by rw [List.length_map];omega)
    have he1:=vk (S:=R) (k:=j) (by omega) (R.getD (j - 1) 0)
    have hb2:Nat.ble (0+(((j:Nat):Int) - 1).toNat * 1+1) (dG (R.map ai) [ai (R.getD (j - 1) 0)] (0+((j:Nat):Int).toNat * 1)).length=true:=Nat.ble_eq_true_of_le (by rw [he1,List.length_map,List.length_set];omega)
    have he2:=vk (S:=R.set j (R.getD (j - 1) 0)) (k:=j - 1) (by rw [List.length_set];omega) (R.getD j 0)
    rw [show (((j - 1:Nat):Int))=(j:Int) - 1 by omega,←he1] at he2
    repeat' (first |refine RM.c5 (c:=14) (l1:=[_,_,_,_,_,_,_,_,_,_,_,_,_,_]) (l2:=[_,_,_]) (by kernel_rfl) rfl rfl ?_ |((with_reducible show RM.wpOp _ _ (.load _ _) _ _ _);first|refine RM.DQ rfl rfl rfl hgj ?_|refine RM.DQ rfl rfl rfl hgk ?_) |((with_reducible show aP _ _ _ _ _ _ _ _);refine af.call hle1 hF rfl ?_) |((with_reducible show dP _ _ _ _ _ _);first|refine RM.LK rfl rfl rfl rfl rfl rfl hb1 ?_|refine RM.LK rfl rfl rfl rfl rfl rfl hb2 ?_) |refine u1 ?_ |refine u2 ?_ |fail)
    refine ⟨(j - 1,swapAt R j),⟨by dsimp only;omega,hsi.swap (by omega) hj (by omega) hl,(swap_perm R (by omega)).trans hpr⟩,(by dsimp only;omega),?_⟩
    refine ah.to 5 ?_ ⟨rfl,rfl,rfl,rfl,rfl,aR (by dsimp only;omega),trivial⟩ (Nat.le_refl _) (by simp [gm,hFi];rfl) (l6 hA hB hC hD _ _)
    show [A,B,C,D,AB.cells (dG (dG (R.map ai) [ai (R.getD (j - 1) 0)] (0+((j:Nat):Int).toNat * 1)) [ai (R.getD j 0)] (0+(((j:Nat):Int) - 1).toNat * 1)) 1 ver]=[A,B,C,D,gw (swapAt R j) ver]
    rw [he2]
    rfl
   ·have dl:=decide_eq_false hl
    repeat' (first |refine RM.c5 (c:=14) (l1:=[_,_,_,_,_,_,_,_,_,_,_,_,_,_]) (l2:=[_,_,_]) (by kernel_rfl) rfl rfl ?_ |((with_reducible show RM.wpOp _ _ (.load _ _) _ _ _);first|refine RM.DQ rfl rfl rfl hgj ?_|refine RM.DQ rfl rfl rfl hgk ?_) |((with_reducible show aP _ _ _ _ _ _ _ _);refine af.call hle1 hF rfl ?_) |refine u1 ?_ |refine u2 ?_ |fail)
    refine ⟨(i+1,R),⟨⟨by omega,.inl (by dsimp only;omega)⟩,hsi.done hco.flip hco.trans (.inr hl),hpr⟩,(by dsimp only;omega),?_⟩
    exact ah.to 5 rfl ⟨rfl,rfl,rfl,rfl,aR (by simp),trivial⟩ (Nat.le_refl _) (by simp [gm,hFi];rfl) (l6 hA hB hC hD _ _)
 ·have d0:decide ((i:Int) < (N:Int))=false:=decide_eq_false (by omega)
  repeat' (first |refine u1 ?_ |fail)
  refine hQ S (fun p q h1 h2=>hso.sorted p q h1 (by omega)) hpe
theorem Iz (one:Bool) (c:Int→Int→Int) (hco:Fl c) (g:FuncId) (fs cs:List AV) (hF:(AV.fn g fs cs).deep=true) {A B C D:AB} (hA:AB.cJ 5 A=true) (hB:AB.cJ 5 B=true) (hC:AB.cJ 5 C=true) (hD:AB.cJ 5 D=true) (hFi:(AV.fn g fs cs).cJ 5=true)
  (N:Nat) (h4:N≤4) (hcm:∀ (o:Bool) (a b:Nat),a < N→b < N→af TT TB o (.fn g fs cs) [ai a,ai b] (ai (c a b))) (L:List Int) (hN:L.length=N) (hL:∀ q,q < N→L.getD q 0=q) {ver cp:Nat} {aI:aV} {Q:AV→List AB→aV→Prop} (hQ:∀ S:List Int,oT c S N→S.Perm L→Q (.tp []) [A,B,C,D,gw S ver] aI) :
  aP TT TB one (.fn 132 [] []) [.bg 4 ver 0 N cp,ai (N:Nat),.fn g fs cs] [A,B,C,D,gw L ver] aI Q:=by
 refine aP.body (fn:=Tryz.f132) rfl rfl rfl ?_
 refine aa (mu:=fun _=>false) ?_
 have d0:decide ((20:Int)≤(N:Int))=false:=decide_eq_false (by omega)
 have d1:decide ((20:Int) < (N:Int))=false:=decide_eq_false (by omega)
 repeat' (first |refine u1 ?_ |fail)
 refine ax.aK (ah.to (l:=[(0,.bg 4 ver 0 N cp),(1,ai (N:Nat)),(2,.fn g fs cs),(6,ai 20),(7,ai 0),(8,ai 20)]) (hp:=[A,B,C,D,gw L ver]) 5 rfl ⟨rfl,rfl,rfl,rfl,rfl,rfl,trivial⟩ (Nat.le_refl _) (by simp [gm,hFi];rfl) (l6 hA hB hC hD _ _)) ?_
 refine ax.loop (fun _:Unit=>True) (fun _=>⟨aF [(0,.bg 4 ver 0 N cp),(1,ai (N:Nat)),(2,.fn g fs cs),(6,ai 20),(7,ai 0),(8,ai 20)],[A,B,C,D,gw L ver],aI,false,5⟩) (fun _=>0) ?_ () trivial
 intro _ _
 refine aa (mu:=fun _=>false) ?_
 repeat' (first |refine CP _ c hco g fs cs hF hA hB hC hD hFi N h4 hcm L hN hL (fun S hso hpe=>?_) |refine u1 ?_ |fail)
 refine ax.aK (ah.to (l:=[(0,.bg 4 ver 0 N cp),(1,ai (N:Nat)),(2,.fn g fs cs),(6,ai 20)]) (hp:=[A,B,C,D,gw S ver]) 5 rfl ⟨rfl,rfl,rfl,rfl,trivial⟩ (Nat.le_refl _) (by simp [gm,hFi];rfl) (l6 hA hB hC hD _ _)) ?_
 refine ax.loop (fun _:Unit=>True) (fun _=>⟨aF [(0,.bg 4 ver 0 N cp),(1,ai (N:Nat)),(2,.fn g fs cs),(6,ai 20)],[A,B,C,D,gw S ver],aI,false,5⟩) (fun _=>0) ?_ () trivial
 intro _ _
 refine aa (mu:=fun _=>false) ?_
 repeat' (first |refine u1 ?_ |fail)
 exact hQ S hso hpe
theorem A0 (one:Bool) (c:Int→Int→Int) (hco:Fl c) (g:FuncId) (fs cs:List AV) (hF:(AV.fn g fs cs).deep=true) {A B C D:AB} (hA:AB.cJ 5 A=true) (hB:AB.cJ 5 B=true) (hC:AB.cJ 5 C=true) (hD:AB.cJ 5 D=true) (hFi:(AV.fn g fs cs).cJ 5=true)
  (N:Nat) (h4:N≤4) (hcm:∀ (o:Bool) (a b:Nat),a < N→b < N→af TT TB o (.fn g fs cs) [ai a,ai b] (ai (c a b))) (L:List Int) (hN:L.length=N) (hL:∀ q,q < N→L.getD q 0=q) {ver cp:Nat} {aI:aV} {Q:AV→List AB→aV→Prop} (hQ:∀ S:List Int,oT c S N→S.Perm L→Q (.tp []) [A,B,C,D,gw S ver] aI) :
  aP TT TB one (.fn 98 [] []) [.bg 4 ver 0 N cp,.fn g fs cs] [A,B,C,D,gw L ver] aI Q:=by
 refine aP.body (fn:=Tryz.f98) rfl rfl rfl ?_
 refine aa (mu:=fun _=>false) ?_
 repeat' (first |refine Iz _ c hco g fs cs hF hA hB hC hD hFi N h4 hcm L hN hL (fun S hso hpe=>?_) |refine u1 ?_ |fail)
 exact hQ S hso hpe
end Go.Proofs.YtichbhmnhkegiaaGreat
open Go Go.RM Go.AirLaw
namespace Go.Proofs.YtichbhmnhkegiaaGreat
set_option maxRecDepth 100000
set_option maxHeartbeats 4000000
theorem gS (v:Int × Int→Int):∀ {L:List (Int × Int)},L ≠ []→(∃ x ∈ L,v x=(aH v L).1.lo)∧(∃ x ∈ L,v x=(aH v L).1.hi)∧∀ x ∈ L,(aH v L).1.lo≤v x∧v x≤(aH v L).1.hi:=by
 intro L
 induction hn:L.length generalizing L with
 | zero=>intro h;exact absurd (List.length_eq_zero_iff.1 hn) h
 | succ n ih =>
  intro hL
  obtain ⟨l,x,rfl⟩:∃ l x,L=l++[x]:=⟨L.dropLast,L.getLast hL,(List.dropLast_concat_getLast hL).symm⟩
  cases l with
  | nil =>
   rw [List.nil_append,mT]
   exact ⟨⟨x,by simp,rfl⟩,⟨x,by simp,rfl⟩,fun y hy=>by rw [List.mem_singleton.1 hy];exact ⟨Int.le_refl _,Int.le_refl _⟩⟩
  | cons a l =>
   have hne:a :: l ≠ []:=by simp
   obtain ⟨⟨y,hy,ey⟩,⟨z,hz,ez⟩,hall⟩:=ih (L:=a :: l) (by simp at hn;simp;omega) hne
   rw [mS]
   unfold e9
   rw [dI v hne]
   simp only [if_true]
   refine ⟨?_,?_,fun w hw=>?_⟩
   ·by_cases h:(aH v (a :: l)).1.lo≤v x
    ·exact ⟨y,List.mem_append_left _ hy,by rw [ey];omega⟩
    ·exact ⟨x,List.mem_append_right _ (by simp),by omega⟩
   ·by_cases h:v x≤(aH v (a :: l)).1.hi
    ·exact ⟨z,List.mem_append_left _ hz,by rw [ez];omega⟩
    ·exact ⟨x,List.mem_append_right _ (by simp),by omega⟩
   ·rcases List.mem_append.1 hw with hw|hw
    ·have:=hall w hw;omega
    ·rw [List.mem_singleton.1 hw];omega
theorem nK {c r:Int} {far:Int} (hc:0≤c) (hr:0≤r) (hf:0≤far∧far≤60000):bz far 0 c r=true ↔ far≤gn c r:=by
 obtain ⟨d,rfl⟩:∃ d:Nat,far=d:=⟨far.toNat,by omega⟩
 show bU c r d=true ↔ _
 unfold gn
 constructor
 ·intro h
  have:=oH (p:=bU c r) (n:=60000) (d:=d) (by omega) h
  omega
 ·intro h
  exact iQ hc (Int.le_refl _) hr (Int.le_refl _) (show d≤most (bU c r) 60000 by omega) (mK (iP hc) 60000)
def A1 (s:au) (n:aA) (clo olo:Int) (g:Nat):Int:=if (g:Int)=n.bK then olo else gn (gr s g).cand.lo clo
theorem IA {s:au} (n:aA) (hf:s.JK) {L:List (Int × Int)} (hne:L ≠ []) (hL:∀ x ∈ L,(0≤x.1∧x.1≤5000)∧0≤x.2∧x.2≤300) {g:Nat} (hg:g < s.ak.length) {far:Int} (hfar:0≤far∧far≤60000) :
  uE s n L far g=true ↔ far≤A1 s n (aH Prod.snd L).1.lo (aH bE L).1.lo g:=by
 unfold uE nI A1
 rw [List.all_eq_true]
 by_cases hgn:(g:Int)=n.bK
 ·simp only [if_pos hgn]
  obtain ⟨⟨y,hy,ey⟩,_,hall⟩:=gS bE hne
  constructor
  ·intro h
   have h1:=h y hy
   have hb:=hL y hy
   rw [nK hb.1.1 hb.2.1 hfar] at h1
   rw [←ey]
   exact h1
  ·intro h x hx
   have hb:=hL x hx
   rw [nK hb.1.1 hb.2.1 hfar]
   have h2:(aH bE L).1.lo≤gn x.1 x.2:=(hall x hx).1
   omega
 ·simp only [if_neg hgn]
  have hc:=hf.cand _ (D9 hg)
  obtain ⟨⟨y,hy,ey⟩,_,hall⟩:=gS Prod.snd hne
  constructor
  ·intro h
   have h1:=h y hy
   have hb:=hL y hy
   rw [nK (by omega) hb.2.1 hfar,ey] at h1
   exact h1
  ·intro h x hx
   have hb:=hL x hx
   have hby:=hL y hy
   rw [←ey] at h
   rw [←nK (by omega) hby.2.1 hfar] at h
   have:=(hall x hx).1
   unfold bz at h ⊢
   exact i6 (by omega) (Int.le_refl _) hby.2.1 (by rw [ey];exact this) (Int.le_refl _) h
theorem qS (fE:Nat→Int) (D:Nat→Bool):∀ N,(eu fE D N=-1∧∀ k,k < N→D k=false)∨∃ b:Nat,b < N∧eu fE D N=b∧D b=true∧∀ k,k < N→D k=true→k=b∨fE b < fE k∨fE b=fE k∧b < k
 | 0=>.inl ⟨rfl,fun k hk=>absurd hk (Nat.not_lt_zero _)⟩
 | N+1=>by
  have e:eu fE D (N+1)=if D N=true∧(eu fE D N < 0∨fE N < fE (eu fE D N).toNat) then ((N:Nat):Int) else eu fE D N:=rfl
  rw [e]
  rcases qS fE D N with ⟨h1,h2⟩|⟨b,h0,h1,h2,h3⟩
  ·rw [h1]
   by_cases hD:D N=true
   ·rw [if_pos ⟨hD,.inl (by decide)⟩]
    refine .inr ⟨N,by omega,rfl,hD,fun k hk hk2=>?_⟩
    by_cases hkN:k=N
    ·exact .inl hkN
    ·rw [h2 k (by omega)] at hk2;cases hk2
   ·rw [if_neg (fun h=>hD h.1)]
    refine .inl ⟨rfl,fun k hk=>?_⟩
    by_cases hkN:k=N
    ·rw [hkN];simpa using hD
    ·exact h2 k (by omega)
  ·rw [h1,Int.toNat_natCast]
   by_cases hc:D N=true∧(((b:Nat):Int) < 0∨fE N < fE b)
   ·rw [if_pos hc]
    have ho:fE N < fE b:=by rcases hc.2 with h|h;omega;exact h
    refine .inr ⟨N,by omega,rfl,hc.1,fun k hk hk2=>?_⟩
    by_cases hkN:k=N
    ·exact .inl hkN
    ·rcases h3 k (by omega) hk2 with h|h|h
     ·rw [h];exact .inr (.inl ho)
     ·exact .inr (.inl (by omega))
     ·exact .inr (.inl (by omega))
   ·rw [if_neg hc]
    refine .inr ⟨b,by omega,rfl,h2,fun k hk hk2=>?_⟩
    by_cases hkN:k=N
    ·rw [hkN] at hk2 ⊢
     have:¬ fE N < fE b:=fun h=>hc ⟨hk2,.inr h⟩
     omega
    ·exact h3 k (by omega) hk2
def CQ (s:au) (a b:Int):Int:=ek (dD s a.toNat) (dD s b.toNat)
theorem JZ (s:au):Fl (CQ s):=by
 constructor
 ·intro a b h
  unfold CQ ek at *
  generalize dD s a.toNat=x at *
  generalize dD s b.toNat=y at *
  repeat' split at h
  all_goals repeat' split
  all_goals omega
 ·intro a b d h k
  unfold Rb CQ ek at *
  generalize dD s a.toNat=x at *
  generalize dD s b.toNat=y at *
  generalize dD s d.toNat=z at *
  repeat' split at h
  all_goals repeat' split at k
  all_goals repeat' split
  all_goals omega
theorem wZ {fE:Nat→Int} {s:au} (ho:fE=dD s) {D:Nat→Bool} {N:Nat} {S:List Int} (hs:oT (CQ s) S N) (hSl:S.length=N) (hmem:∀ b:Nat,b < N→(b:Int) ∈ S) {k a:Nat} (ha:a < N) (ea:S.getD k 0=a) (hD:D a=true) (hprev:∀ p,p < k→∀ b:Nat,S.getD p 0=b→D b=false):eu fE D N=(a:Int):=by
 rcases qS fE D N with ⟨h1,h2⟩|⟨b,h0,h1,h2,h3⟩
 ·rw [h2 a ha] at hD;cases hD
 ·rw [h1]
  obtain ⟨q,hq,eq⟩:=List.getElem_of_mem (hmem b h0)
  have eq':S.getD q 0=b:=by rw [List.getD_eq_getElem?_getD,List.getElem?_eq_getElem hq,←eq];rfl
  rcases Nat.lt_trichotomy q k with hqk|hqk|hqk
  ·rw [hprev q hqk b eq'] at h2;cases h2
  ·rw [hqk,ea] at eq';exact eq'.symm
  ·have hr:=hs k q hqk (by omega)
   rw [ea,eq'] at hr
   unfold Rb CQ ek at hr
   rw [Int.toNat_natCast,Int.toNat_natCast,←ho] at hr
   rcases h3 a ha hD with h|h|h
   ·rw [h]
   ·repeat' split at hr
    all_goals omega
   ·repeat' split at hr
    all_goals omega
end Go.Proofs.YtichbhmnhkegiaaGreat
open Go Go.RM Go.AirLaw
namespace Go.Proofs.YtichbhmnhkegiaaGreat
set_option maxRecDepth 100000
set_option maxHeartbeats 4000000
theorem A2 (one:Bool) (s:au) (h:s.Ok) (n:aA) (rs:List av) (f:Bool) (hr:rs.length≤maxLen) (far:Int) :
  Pu one 37 [.ag (ay s),.ag (aC n),.sl (rs.map aj) f,ai far] (.tp [ai (nJ s n rs far).1,ai (nJ s n rs far).2]):=by
 have hen:=nF one s h n rs f hr
 have o1:=jO one 0 60000 far
 unfold nJ
 by_cases e0:(aD s n rs).2=0
 ·rw [if_neg (by omega)]
  have ho:=cc e0
  rw [e0] at hen
  have d0:(!decide ((0:Int)=0))=false:=by decide
  cases e1:aX 0 60000 [far] with
  | true =>
   rw [e1] at o1
   rw [if_pos rfl]
   refine af.body (fn:=Tryz.f37) rfl rfl rfl rfl ?_
   refine aa (mu:=fun _=>false) ?_
   repeat' (first |refine u1 ?_ |fail)
   exact ⟨[_,_],⟨Fz.deep rfl,Fz.deep rfl,trivial⟩,rfl⟩
  | false =>
   rw [e1] at o1
   rw [if_neg (by simp)]
   have hfar:=(aZ.1 e1) far (by simp)
   have c1:=mP true f ho
   have c2:=ho.cl true f
   have hgen:=ho.gl one f
   have e2:=pS one 95 [] [] rfl _ _ _ Prod.snd _ hgen (fun x hx=>Lc one x.1 x.2)
   have e3:=pS one 94 [] [] rfl _ _ _ bE _ hgen (fun x hx=>AD one x.1 x.2 (gR ho hx).1 (gR ho hx).2)
   have hmem:∀ x ∈ cZ s n rs,(0≤x.1∧x.1≤5000)∧0≤x.2∧x.2≤300:=fun x hx=>gR ho hx
   have hdi:=fun hne {g:Nat} (hg:g < s.ak.length)=>IA (L:=cZ s n rs) n ho.gU hne hmem hg hfar
   have hcl:cZ s n rs ≠ []→0≤(aH Prod.snd (cZ s n rs)).1.lo∧(aH Prod.snd (cZ s n rs)).1.lo≤300:=fun hne=>by
    obtain ⟨⟨y,hy,ey⟩,_⟩:=gS Prod.snd hne
    have:=hmem y hy
    omega
   have htr:(aH Prod.snd (cZ s n rs)).2=true ↔ cZ s n rs ≠ []:=⟨fun h hn=>(by rw [hn] at h;cases h),fun h=>dI _ h⟩
   rw [mQ]
   unfold Fk
   by_cases hL:cZ s n rs=[]
   ·rw [if_pos hL]
    rw [hL] at e2
    refine af.body (fn:=Tryz.f37) rfl rfl rfl rfl ?_
    refine aa (mu:=fun _=>false) ?_
    repeat' (first |refine u1 ?_ |refine u2 ?_ |fail)
    exact ⟨[_,_],⟨Fz.deep rfl,Fz.deep rfl,trivial⟩,rfl⟩
   ·rw [if_neg hL]
    have hdi2:=fun {g:Nat} (hg:g < s.ak.length)=>hdi hL hg
    have hcl2:=hcl hL
    have htt:=htr.2 hL
    clear hdi hcl
    generalize uE s n (cZ s n rs) far=D at *
    generalize aH Prod.snd (cZ s n rs)=ZZ at *
    generalize aH bE (cZ s n rs)=OO at *
    obtain ⟨Z,zt⟩:=ZZ
    obtain ⟨O,ot⟩:=OO
    dsimp only at htt hdi2 hcl2 e2 e3
    subst htt
    have h4:=ho.gU.len
    obtain ⟨N,hN⟩:∃ N,s.ak.length=N:=⟨_,rfl⟩
    have eg:((s.ak.map aL).length:Int)=N:=by simp [hN]
    rw [hN] at h4 ⊢
    clear hgen c1 htr hmem
    have c1:=mP true f ho
    have hcm:∀ (o:Bool) (a b:Nat),a < N→b < N→af TT TB o (.fn 99 [] [.pt (ay s) 0]) [ai a,ai b] (ai (CQ s a b)):=fun o a b ha hb=>by
     have:=Ln o s a b (by omega) (by omega)
     unfold CQ
     rw [Int.toNat_natCast,Int.toNat_natCast]
     exact this
    have hnum:Pu one 97 [.ag (aG ⟨0,((s.ak.map aL).length:Int) - 1⟩)] (DZ ⟨0,(N:Int) - 1⟩):=by rw [eg];exact mN one _
    have hLl:(dB ⟨0,(N:Int) - 1⟩).length=N:=by rw [bp];unfold bh;dsimp only;omega
    have hLq:∀ q,q < N→(dB ⟨0,(N:Int) - 1⟩).getD q 0=q:=fun q hq=>by
     rw [List.getD_eq_getElem?_getD,pQ (by unfold bh;dsimp only;omega)]
     show (0:Int)+q=q
     omega
    refine af.body (fn:=Tryz.f37) rfl rfl rfl rfl ?_
    refine aa (mu:=fun _=>false) ?_
    repeat' (first |refine Gs one _ _ _ rfl rfl rfl N h4 ?_ |refine A0 one (CQ s) (JZ s) 99 [] [.pt (ay s) 0] rfl rfl rfl rfl rfl rfl N h4.2 hcm _ hLl hLq (fun S hso hpe=>?_) |refine u1 ?_ |refine u2 ?_ |fail)
    have hSl:S.length=N:=by rw [hpe.length_eq,hLl]
    have hin:∀ b:Nat,b < N→(b:Int) ∈ S:=fun b hb=>hpe.mem_iff.2 (jm.2 (by dsimp only;omega))
    have hof:∀ q,q < N→∃ a:Nat,a < N∧S.getD q 0=a:=fun q hq=>by
     have h1:S.getD q 0 ∈ S:=by
      rw [List.getD_eq_getElem?_getD,List.getElem?_eq_getElem (by omega)]
      exact List.getElem_mem _
     have h2:=jm.1 (hpe.mem_iff.1 h1)
     dsimp only at h2
     exact ⟨(S.getD q 0).toNat,by omega,by omega⟩
    obtain ⟨v,hv⟩:∃ v,v=N - 1:=⟨_,rfl⟩
    obtain ⟨c,hc⟩:∃ c,c=N+1:=⟨_,rfl⟩
    rw [←hv,←hc]
    refine ax.aK (ah.to (l:=[(3,ai far),(4,.pt (ay s) 0),(5,.pt (aC n) 0),(13,.ptr 1 0 0),(15,.ptr 2 0 0),(62,.bg 4 v 0 N c),(63,ai (N:Nat)),(64,ai (0:Nat))]) (hp:=[.cells (bS s n rs f) 0 0,.cells (aG Z) 0 0,.cells (aG O) 0 0,.cells [.bg 4 v 0 N c] 0 0,gw S v]) 5 rfl ⟨rfl,rfl,rfl,rfl,rfl,rfl,rfl,rfl,trivial⟩ (Nat.zero_le _) rfl (l6 rfl rfl rfl rfl _ _)) ?_
    refine ax.loop (fun k:Nat=>k≤N∧∀ p,p < k→∀ b:Nat,S.getD p 0=b→D b=false) (fun k=>⟨aF [(3,ai far),(4,.pt (ay s) 0),(5,.pt (aC n) 0),(13,.ptr 1 0 0),(15,.ptr 2 0 0),(62,.bg 4 v 0 N c),(63,ai (N:Nat)),(64,ai (k:Nat))],[.cells (bS s n rs f) 0 0,.cells (aG Z) 0 0,.cells (aG O) 0 0,.cells [.bg 4 v 0 N c] 0 0,gw S v],aV.none,false,0⟩) (fun k=>N - k) ?_ 0 ⟨Nat.zero_le _,fun p hp=>absurd hp (Nat.not_lt_zero _)⟩
    rintro k ⟨hk,hprev⟩
    refine aa (mu:=fun _=>false) ?_
    by_cases hlt:k < N
    ·have d1:decide ((k:Int) < (N:Int))=true:=decide_eq_true (by omega)
     obtain ⟨a,ha,ea⟩:=hof k hlt
     have hgk:=sR (S:=S) (q:=k) (by omega)
     rw [ea] at hgk
     have hat:=zb (s:=s) (g:=a) (by omega)
     have hda:=hdi2 (g:=a) (by omega)
     have hcd:=ho.gU.cand _ (D9 (s:=s) (g:=a) (by omega))
     have hrc:=AD true (gr s (a:Nat)).cand.lo Z.lo (by omega) hcl2
     unfold A1 at hda
     by_cases hga:(a:Int)=n.bK
     ·have d2:(!decide ((a:Int)=n.bK))=false:=by rw [decide_eq_true hga];rfl
      rw [if_pos hga] at hda
      by_cases hfo:far≤O.lo
      ·have d3:=decide_eq_true hfo
       have hb:=wZ (N:=N) (D:=D) rfl hso hSl hin ha ea (hda.2 hfo) hprev
       rw [hb,if_neg (by omega)]
       repeat' (first |((with_reducible show RM.wpOp _ _ (.load _ _) _ _ _);refine RM.DQ rfl rfl rfl hgk ?_) |refine u1 ?_ |fail)
       exact ⟨[_,_],⟨Fz.deep rfl,Fz.deep rfl,trivial⟩,rfl⟩
      ·have d3:=decide_eq_false hfo
       repeat' (first |((with_reducible show RM.wpOp _ _ (.load _ _) _ _ _);refine RM.DQ rfl rfl rfl hgk ?_) |refine u1 ?_ |fail)
       refine ⟨k+1,⟨hlt,fun p hp b hb=>?_⟩,(by dsimp only;omega),ah.to 5 rfl ⟨rfl,rfl,rfl,rfl,rfl,rfl,rfl,aR (by simp),trivial⟩ (Nat.zero_le _) rfl (l6 rfl rfl rfl rfl _ _)⟩
       by_cases hpk:p=k
       ·rw [hpk,ea] at hb
        rw [←Int.ofNat.inj hb]
        cases hD:D a with
        | false=>rfl
        | true=>exact absurd (hda.1 hD) hfo
       ·exact hprev p (by omega) b hb
     ·have d2:(!decide ((a:Int)=n.bK))=true:=by rw [decide_eq_false hga];rfl
      rw [if_neg hga] at hda
      generalize gn (gr s (a:Nat)).cand.lo Z.lo=R at *
      by_cases hfo:far≤R
      ·have d3:=decide_eq_true hfo
       have hb:=wZ (N:=N) (D:=D) rfl hso hSl hin ha ea (hda.2 hfo) hprev
       rw [hb,if_neg (by omega)]
       repeat' (first |((with_reducible show RM.wpOp _ _ (.load _ _) _ _ _);refine RM.DQ rfl rfl rfl hgk ?_) |refine u1 ?_ |refine u2 ?_ |fail)
       exact ⟨[_,_],⟨Fz.deep rfl,Fz.deep rfl,trivial⟩,rfl⟩
      ·have d3:=decide_eq_false hfo
       repeat' (first |((with_reducible show RM.wpOp _ _ (.load _ _) _ _ _);refine RM.DQ rfl rfl rfl hgk ?_) |refine u1 ?_ |refine u2 ?_ |fail)
       refine ⟨k+1,⟨hlt,fun p hp b hb=>?_⟩,(by dsimp only;omega),ah.to 5 rfl ⟨rfl,rfl,rfl,rfl,rfl,rfl,rfl,aR (by simp),trivial⟩ (Nat.zero_le _) rfl (l6 rfl rfl rfl rfl _ _)⟩
       by_cases hpk:p=k
       ·rw [hpk,ea] at hb
        rw [←Int.ofNat.inj hb]
        cases hD:D a with
        | false=>rfl
        | true=>exact absurd (hda.1 hD) hfo
       ·exact hprev p (by omega) b hb
    ·have d1:decide ((k:Int) < (N:Int))=false:=decide_eq_false (by omega)
     have hb:eu (dD s) D N < 0:=by
      rcases qS (dD s) D N with ⟨h1,_⟩|⟨b,h0,_,h2,_⟩
      ·rw [h1];decide
      ·obtain ⟨q,hq,eq⟩:=List.getElem_of_mem (hin b h0)
       have eq':S.getD q 0=b:=by rw [List.getD_eq_getElem?_getD,List.getElem?_eq_getElem hq,←eq];rfl
       rw [hprev q (by omega) b eq'] at h2
       cases h2
     rw [if_pos hb]
     repeat' (first |refine u1 ?_ |fail)
     exact ⟨[_,_],⟨Fz.deep rfl,Fz.deep rfl,trivial⟩,rfl⟩
 ·rw [if_pos (by omega)]
  generalize aD s n rs=z at *
  have d0:(!decide (z.2=0))=true:=by rw [decide_eq_false e0];rfl
  refine af.body (fn:=Tryz.f37) rfl rfl rfl rfl ?_
  refine aa (mu:=fun _=>false) ?_
  repeat' (first |refine u1 ?_ |fail)
  exact ⟨[_,_],⟨Fz.deep rfl,Fz.deep rfl,trivial⟩,rfl⟩
end Go.Proofs.YtichbhmnhkegiaaGreat
