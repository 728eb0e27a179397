/-
  Contracts of the program's functions and of the document's. Lemmas alone; their conditions stand in them.
-/
import Derived.Test.YtlpmfgmldmdggaaGreatK11
open Go Go.RM
namespace Go.Proofs.YtlpmfgmldmdggaaGreat
set_option maxRecDepth 100000
set_option maxHeartbeats 4000000
def yg (a b:Int):Int:=if a < b then -1 else if b < a then 1 else 0
theorem Jk (one:Bool) (a:Int):Pu one 109 [ah a] (BB false):=by
 refine af.body (fn:=Tryz.f109) rfl rfl rfl rfl ?_
 refine aa (mu:=fun _=>false) ?_
 repeat' (first |refine u1 ?_ |refine u2 ?_ |fail)
 exact ⟨[_],⟨Fz.deep rfl,trivial⟩,by show AV.fl (.bool (!decide (a=a)))=_;rw [decide_eq_true rfl];rfl⟩
theorem zm (one:Bool) (a b:Int):Pu one 69 [ah a,ah b] (ah (yg a b)):=by
 have o1:=Jk one a
 have o2:=Jk one b
 unfold yg
 cases e1:decide (a < b) with
 | true =>
  rw [if_pos (of_decide_eq_true e1)]
  refine af.body (fn:=Tryz.f69) rfl rfl rfl rfl ?_
  refine aa (mu:=fun _=>false) ?_
  repeat' (first |refine u1 ?_ |((with_reducible show ai _ _ _ _ _ _ _ _);refine af.call o1 rfl rfl ?_) |((with_reducible show ai _ _ _ _ _ _ _ _);refine af.call o2 rfl rfl ?_) |refine u2 ?_ |fail)
  exact ⟨[_],⟨Fz.deep rfl,trivial⟩,rfl⟩
 | false =>
  rw [if_neg (of_decide_eq_false e1)]
  cases e2:decide (b < a) with
  | true =>
   rw [if_pos (of_decide_eq_true e2)]
   refine af.body (fn:=Tryz.f69) rfl rfl rfl rfl ?_
   refine aa (mu:=fun _=>false) ?_
   repeat' (first |refine u1 ?_ |((with_reducible show ai _ _ _ _ _ _ _ _);refine af.call o1 rfl rfl ?_) |((with_reducible show ai _ _ _ _ _ _ _ _);refine af.call o2 rfl rfl ?_) |refine u2 ?_ |fail)
   exact ⟨[_],⟨Fz.deep rfl,trivial⟩,rfl⟩
  | false =>
   rw [if_neg (of_decide_eq_false e2)]
   refine af.body (fn:=Tryz.f69) rfl rfl rfl rfl ?_
   refine aa (mu:=fun _=>false) ?_
   repeat' (first |refine u1 ?_ |((with_reducible show ai _ _ _ _ _ _ _ _);refine af.call o1 rfl rfl ?_) |((with_reducible show ai _ _ _ _ _ _ _ _);refine af.call o2 rfl rfl ?_) |refine u2 ?_ |fail)
   exact ⟨[_],⟨Fz.deep rfl,trivial⟩,rfl⟩
theorem Ly (one:Bool) (a b:Int):Pu one 68 [.sl [eI a,eI b] true] (ah (if a=0 then b else a)):=by
 refine af.body (fn:=Tryz.f68) rfl rfl rfl rfl ?_
 refine aa (mu:=fun _=>false) ?_
 repeat' (first |refine u1 ?_ |refine u2 ?_ |fail)
 refine aC.bx (aj.to (l:=[(3,ah 0),(6,.sl [eI a,eI b] true),(7,ah 2),(8,ah (0:Nat))]) (hp:=[]) 0 rfl ⟨rfl,rfl,rfl,rfl,trivial⟩ (Nat.zero_le _) rfl rfl) ?_
 refine aC.loop (fun k:Nat=>k≤2∧(1≤k→a=0)∧(2≤k→b=0)) (fun k=>⟨bM [(3,ah 0),(6,.sl [eI a,eI b] true),(7,ah 2),(8,ah (k:Nat))],[],bw.none,false,0⟩) (fun k=>2 - k) ?_ 0 ⟨by omega,fun h=>by omega,fun h=>by omega⟩
 rintro k ⟨hk,h1,h2⟩
 obtain rfl|rfl|rfl:k=0∨k=1∨k=2:=by omega
 ·have d1:decide (((0:Nat):Int) < 2)=true:=rfl
  by_cases ha:a=0
  ·have d2:(!decide (a=0))=false:=by rw [decide_eq_true ha];rfl
   refine aa (mu:=fun _=>false) ?_
   repeat' (first |refine u1 ?_ |(refine ⟨[ah a],⟨by omega,rfl⟩,rfl,?_⟩) |refine u2 ?_ |fail)
   exact ⟨1,⟨by omega,fun _=>ha,fun h=>by omega⟩,(by dsimp only;omega),aj.to 0 rfl ⟨rfl,rfl,rfl,rfl,trivial⟩ (Nat.zero_le _) rfl rfl⟩
  ·have d2:(!decide (a=0))=true:=by rw [decide_eq_false ha];rfl
   rw [if_neg ha]
   refine aa (mu:=fun _=>false) ?_
   repeat' (first |refine u1 ?_ |(refine ⟨[ah a],⟨by omega,rfl⟩,rfl,?_⟩) |refine u2 ?_ |fail)
   exact ⟨[_],⟨Fz.deep rfl,trivial⟩,rfl⟩
 ·have d1:decide (((1:Nat):Int) < 2)=true:=rfl
  have ha:=h1 (Nat.le_refl _)
  rw [if_pos ha]
  by_cases hb:b=0
  ·have d2:(!decide (b=0))=false:=by rw [decide_eq_true hb];rfl
   refine aa (mu:=fun _=>false) ?_
   repeat' (first |refine u1 ?_ |(refine ⟨[ah b],⟨by omega,rfl⟩,rfl,?_⟩) |refine u2 ?_ |fail)
   exact ⟨2,⟨by omega,fun _=>ha,fun _=>hb⟩,(by dsimp only;omega),aj.to 0 rfl ⟨rfl,rfl,rfl,rfl,trivial⟩ (Nat.zero_le _) rfl rfl⟩
  ·have d2:(!decide (b=0))=true:=by rw [decide_eq_false hb];rfl
   refine aa (mu:=fun _=>false) ?_
   repeat' (first |refine u1 ?_ |(refine ⟨[ah b],⟨by omega,rfl⟩,rfl,?_⟩) |refine u2 ?_ |fail)
   exact ⟨[_],⟨Fz.deep rfl,trivial⟩,rfl⟩
 ·have d1:decide (((2:Nat):Int) < 2)=false:=rfl
  rw [if_pos (h1 (by omega)),h2 (Nat.le_refl _)]
  refine aa (mu:=fun _=>false) ?_
  repeat' (first |refine u1 ?_ |refine u2 ?_ |fail)
  exact ⟨[_],⟨Fz.deep rfl,trivial⟩,rfl⟩
def k8 (A:List Acc) (m:Int):Int:=((A[m.toNat]?).map Acc.fm).getD 0
def jY (c:ay) (m:Int):Int:=((c.aG[m.toNat]?).map nQ.iN).getD 0
def Hr (c:ay) (A:List Acc) (i k:Int):Int:=if yg (k8 A k) (k8 A i)=0 then yg (jY c i) (jY c k) else yg (k8 A k) (k8 A i)
def fy (c:ay) (A:List Acc) (m:Int):Int:=jY c m * 10+m - k8 A m * 100
theorem pZ {c:ay} (hg:Good c) {m:Int} (h:0≤m∧m < c.aG.length):0≤jY c m∧jY c m≤2:=by
 unfold jY
 have hl:m.toNat < c.aG.length:=by omega
 rw [List.getElem?_eq_getElem hl]
 have:=(hg.qT _ (List.getElem_mem hl)).1
 have:=hg.aA
 show 0≤c.aG[m.toNat].iN∧c.aG[m.toNat].iN≤2
 omega
theorem IV {c:ay} (hg:Good c) {A:List Acc} {x y:Int} (hx:0≤x) (hxy:x < y) (hy:y < c.aG.length):decide (Hr c A y x < 0)=decide (fy c A y < fy c A x):=by
 have h5:=hg.aG
 have b1:=pZ hg (m:=x) ⟨hx,by omega⟩
 have b2:=pZ hg (m:=y) ⟨by omega,hy⟩
 unfold Hr fy yg
 generalize jY c x=rx at *
 generalize jY c y=ry at *
 generalize k8 A x=ox at *
 generalize k8 A y=oy at *
 rw [decide_eq_decide]
 by_cases h1:ox < oy
 ·rw [if_pos h1,if_neg (by decide)]
  omega
 ·rw [if_neg h1]
  by_cases h2:oy < ox
  ·rw [if_pos h2,if_neg (by decide)]
   omega
  ·rw [if_neg h2,if_pos rfl]
   by_cases h3:ry < rx
   ·rw [if_pos h3];omega
   ·rw [if_neg h3]
    by_cases h4:rx < ry
    ·rw [if_pos h4];omega
    ·rw [if_neg h4];omega
theorem key_inj {c:ay} (hg:Good c) {A:List Acc} {x y:Int} (hx:0≤x∧x < c.aG.length) (hy:0≤y∧y < c.aG.length) (h:fy c A x=fy c A y):x=y:=by
 have h5:=hg.aG
 have b1:=pZ hg hx
 have b2:=pZ hg hy
 unfold fy at h
 omega
abbrev Dx (c:ay) (D:Int) (A:List Acc):AV:=.fn 67 [] [.pt [.pt (Je c D A) 0] 0,.pt (aF c) 0]
theorem IW (one:Bool) {c:ay} (D:Int) {A:List Acc} (hA:A.length=c.aG.length) {x y:Nat} (hx:x < c.aG.length) (hy:y < c.aG.length):af TT TB one (Dx c D A) [ah (x:Int),ah (y:Int)] (ah (Hr c A x y)):=by
 have ea:((A.map bu).length:Int)=c.aG.length:=by simp [hA]
 have em:((c.aG.map bp).length:Int)=c.aG.length:=by simp
 have h1:(A.map bu)[((x:Nat):Int).toNat]?=some (bu A[x]):=bG (by omega)
 have h2:(A.map bu)[((y:Nat):Int).toNat]?=some (bu A[y]):=bG (by omega)
 have h3:(c.aG.map bp)[((x:Nat):Int).toNat]?=some (bp c.aG[x]):=bG hx
 have h4:(c.aG.map bp)[((y:Nat):Int).toNat]?=some (bp c.aG[y]):=bG hy
 have e1:k8 A x=A[x].fm:=by unfold k8;rw [Int.toNat_natCast,List.getElem?_eq_getElem (by omega)];rfl
 have e2:k8 A y=A[y].fm:=by unfold k8;rw [Int.toNat_natCast,List.getElem?_eq_getElem (by omega)];rfl
 have e3:jY c x=c.aG[x].iN:=by unfold jY;rw [Int.toNat_natCast,List.getElem?_eq_getElem hx];rfl
 have e4:jY c y=c.aG[y].iN:=by unfold jY;rw [Int.toNat_natCast,List.getElem?_eq_getElem hy];rfl
 unfold Hr
 rw [e1,e2,e3,e4]
 generalize A[x]=u1 at *
 generalize A[y]=u2 at *
 generalize c.aG[x]=u3 at *
 generalize c.aG[y]=u4 at *
 obtain ⟨p1,o1,a1,b1,d1⟩:=u1
 obtain ⟨p2,o2,a2,b2,d2⟩:=u2
 obtain ⟨n1,r1,w1,s1⟩:=u3
 obtain ⟨n2,r2,w2,s2⟩:=u4
 dsimp only
 have h1:(A.map bu)[((x:Nat):Int).toNat]?=some [ah p1,ah o1,ah a1,ah b1,ah d1]:=h1
 have h2:(A.map bu)[((y:Nat):Int).toNat]?=some [ah p2,ah o2,ah a2,ah b2,ah d2]:=h2
 have h3:(c.aG.map bp)[((x:Nat):Int).toNat]?=some [ST n1,ah r1,ah w1,BB s1]:=h3
 have h4:(c.aG.map bp)[((y:Nat):Int).toNat]?=some [ST n2,ah r2,ah w2,BB s2]:=h4
 have c1:=zm true o2 o1
 have c2:=zm true r1 r2
 have c3:=Ly true (yg o2 o1) (yg r1 r2)
 generalize yg o2 o1=v1 at *
 generalize yg r1 r2=v2 at *
 generalize (if v1=0 then v2 else v1)=v3 at *
 refine af.body (fn:=Tryz.f67) rfl rfl rfl rfl ?_
 refine aa (mu:=fun _=>false) ?_
 repeat' (first |(refine ⟨_,_,.inl ⟨rfl,rfl⟩,c1,?_⟩) |(refine ⟨_,_,.inl ⟨rfl,rfl⟩,c2,?_⟩) |(refine ⟨_,_,.inl ⟨rfl,rfl⟩,c3,?_⟩) |refine u1 ?_ |(refine ⟨[ah p1,ah o1,ah a1,ah b1,ah d1],⟨by omega,h1⟩,rfl,?_⟩) |(refine ⟨[ah p2,ah o2,ah a2,ah b2,ah d2],⟨by omega,h2⟩,rfl,?_⟩) |(refine ⟨[ST n1,ah r1,ah w1,BB s1],⟨by omega,h3⟩,rfl,?_⟩) |(refine ⟨[ST n2,ah r2,ah w2,BB s2],⟨by omega,h4⟩,rfl,?_⟩) |refine u2 ?_ |fail)
 exact ⟨[_],⟨Fz.deep rfl,trivial⟩,rfl⟩
end Go.Proofs.YtlpmfgmldmdggaaGreat
open Go Go.RM
namespace Go.Proofs.YtlpmfgmldmdggaaGreat
set_option maxRecDepth 100000
set_option maxHeartbeats 4000000
abbrev oY (S:List Int) (ax:Nat):AB:=.cells (gh S) 1 ax
theorem Cp {S:List Int} {q:Nat} (h:q < S.length):(gh S)[0+((q:Nat):Int).toNat * 1]?=some (ah (jP S q)):=Hl (Kc h)
theorem Cq (one:Bool) {c:ay} (hg:Good c) (D:Int) {A:List Acc} (hA:A.length=c.aG.length) (L:List Int) (N:Nat) (hN:L.length=N) (h5:N≤5) (hL:∀ f ∈ L,0≤f∧f < c.aG.length) (hS0:uV (fy c A) L N 1) {ax cc:Nat} {av:bw} {Q:AV→List AB→bw→Prop} (hQ:∀ S:List Int,uV (fy c A) S N N→S.Perm L→Q (.tp []) [oY S ax] av) :
  ai TT TB one (.fn 127 [] []) [.cS 0 ax 0 N cc,ah 0,ah (N:Nat),Dx c D A] [oY L ax] av Q:=by
 refine ai.body (fn:=Tryz.f127) rfl rfl rfl ?_
 refine aa (mu:=fun _=>false) ?_
 repeat' (first |refine u1 ?_ |refine u2 ?_ |fail)
 refine aC.bx (aj.to (l:=[(0,.cS 0 ax 0 N cc),(1,ah 0),(2,ah (N:Nat)),(3,Dx c D A),(8,ah (1:Nat))]) (hp:=[oY L ax]) 1 rfl ⟨rfl,rfl,rfl,rfl,rfl,trivial⟩ (Nat.le_refl _) rfl (ey _ _)) ?_
 refine aC.loop (fun x:Nat × List Int=>(1≤x.1∧(x.1≤N∨x.1=1))∧uV (fy c A) x.2 N x.1∧x.2.Perm L) (fun x=>⟨bM [(0,.cS 0 ax 0 N cc),(1,ah 0),(2,ah (N:Nat)),(3,Dx c D A),(8,ah (x.1:Nat))],[oY x.2 ax],av,false,1⟩) (fun x=>N - x.1) ?_ (1,L) ⟨⟨Nat.le_refl _,.inr rfl⟩,hS0,List.Perm.refl _⟩
 have hmem:∀ {R:List Int},R.Perm L→∀ q,q < N→0≤jP R q∧jP R q < c.aG.length:=by
  intro R hR q hq
  have hRl:R.length=N:=by rw [hR.length_eq,hN]
  exact hL _ (hR.mem_iff.1 (IU (by omega)))
 rintro ⟨i,S⟩ ⟨⟨hi1,hi⟩,hso,hpe⟩
 dsimp only at hi1 hi hso hpe
 have hSl:S.length=N:=by rw [hpe.length_eq,hN]
 show aC _ _ _ _ ⟨bM [(0,.cS 0 ax 0 N cc),(1,ah 0),(2,ah (N:Nat)),(3,Dx c D A),(8,ah (i:Nat))],[oY S ax],av,false,1⟩ _
 by_cases hc:i < N
 ·have d0:decide ((i:Int) < (N:Int))=true:=decide_eq_true (by omega)
  refine aa (mu:=fun _=>false) ?_
  repeat' (first |refine u1 ?_ |refine u2 ?_ |fail)
  refine aC.bx (aj.to (l:=[(0,.cS 0 ax 0 N cc),(1,ah 0),(2,ah (N:Nat)),(3,Dx c D A),(8,ah (i:Nat)),(9,ah (i:Nat))]) (hp:=[oY S ax]) 1 rfl ⟨rfl,rfl,rfl,rfl,rfl,rfl,trivial⟩ (Nat.le_refl _) rfl (ey _ _)) ?_
  refine aC.loop (fun x:Nat × List Int=>(x.1≤i)∧sH (fy c A) x.2 N i x.1∧x.2.Perm L) (fun x=>⟨bM [(0,.cS 0 ax 0 N cc),(1,ah 0),(2,ah (N:Nat)),(3,Dx c D A),(8,ah (i:Nat)),(9,ah (x.1:Nat))],[oY x.2 ax],av,false,1⟩) (fun x=>x.1) ?_ (i,S) ⟨Nat.le_refl _,sH.start hc hso,hpe⟩
  rintro ⟨j,R⟩ ⟨hj,hsi,hpr⟩
  dsimp only at hj hsi hpr
  have hRl:R.length=N:=by rw [hpr.length_eq,hN]
  show aC _ _ _ _ ⟨bM [(0,.cS 0 ax 0 N cc),(1,ah 0),(2,ah (N:Nat)),(3,Dx c D A),(8,ah (i:Nat)),(9,ah (j:Nat))],[oY R ax],av,false,1⟩ _
  by_cases h0:j=0
  ·subst h0
   refine aa (mu:=fun _=>false) ?_
   repeat' (first |(refine RM.c5 (c:=14) (l1:=[_,_,_,_,_,_,_,_,_,_,_,_,_,_]) (l2:=[_,_,_]) (by kernel_rfl) rfl rfl ?_) |refine u1 ?_ |refine u2 ?_ |fail)
   refine ⟨(i+1,R),⟨⟨by omega,.inl (by dsimp only;omega)⟩,hsi.done (.inl rfl),hpr⟩,(by dsimp only;omega),?_⟩
   exact aj.to 1 rfl ⟨rfl,rfl,rfl,rfl,cK (by simp),trivial⟩ (Nat.le_refl _) rfl (ey _ _)
  ·have d1:decide ((0:Int) < (j:Int))=true:=decide_eq_true (by omega)
   have hgj:=Cp (S:=R) (q:=j) (by omega)
   have hgk:=Cp (S:=R) (q:=j - 1) (by omega)
   rw [show (((j - 1:Nat):Int))=(j:Int) - 1 by omega] at hgk
   have hlj:=hmem hpr j (by omega)
   have hlk:=hmem hpr (j - 1) (by omega)
   have hbig:=hsi.Lx (j - 1) (by omega) (by omega)
   have hdl:=IV hg (A:=A) hlk.1 hbig hlj.2
   have hle:∀ one,af TT TB one (Dx c D A) [ah (jP R j),ah (jP R (j - 1))] (ah (Hr c A (jP R j) (jP R (j - 1)))):=by
    intro one
    have:=IW one D hA (x:=(jP R j).toNat) (y:=(jP R (j - 1)).toNat) (by omega) (by omega)
    rw [show (((jP R j).toNat:Nat):Int)=jP R j by omega,show (((jP R (j - 1)).toNat:Nat):Int)=jP R (j - 1) by omega] at this
    exact this
   have hle1:=hle one
   have hle2:=hle true
   by_cases hl:fy c A (jP R j) < fy c A (jP R (j - 1))
   ·have dl:=hdl.trans (decide_eq_true hl)
    have hb1:Nat.ble (0+((j:Nat):Int).toNat * 1+1) (gh R).length=true:=Nat.ble_eq_true_of_le (by rw [List.length_map];omega)
    have he1:=Cn (S:=R) (k:=j) (by omega) (jP R (j - 1))
    have hb2:Nat.ble (0+(((j:Nat):Int) - 1).toNat * 1+1) (cX (gh R) [ah (jP R (j - 1))] (0+((j:Nat):Int).toNat * 1)).length=true:=Nat.ble_eq_true_of_le (by rw [he1,List.length_map,List.length_set];omega)
    have he2:=Cn (S:=R.set j (jP R (j - 1))) (k:=j - 1) (by rw [List.length_set];omega) (jP R j)
    rw [show (((j - 1:Nat):Int))=(j:Int) - 1 by omega,←he1] at he2
    refine aa (mu:=fun _=>false) ?_
    repeat' (first |(refine RM.c5 (c:=14) (l1:=[_,_,_,_,_,_,_,_,_,_,_,_,_,_]) (l2:=[_,_,_]) (by kernel_rfl) rfl rfl ?_) |((with_reducible show RM.wpOp _ _ (.load _ _) _ _ _);refine RM.Km rfl rfl rfl hgj ?_) |((with_reducible show RM.wpOp _ _ (.load _ _) _ _ _);refine RM.Km rfl rfl rfl hgk ?_) |((with_reducible show ai _ _ _ _ _ _ _ _);refine af.call hle1 rfl rfl ?_) |((with_reducible show dN _ _ _ _ _ _);refine RM.uT rfl rfl rfl rfl rfl rfl hb1 ?_) |((with_reducible show dN _ _ _ _ _ _);refine RM.uT rfl rfl rfl rfl rfl rfl hb2 ?_) |refine u1 ?_ |refine u2 ?_ |fail)
    refine ⟨(j - 1,xA R j),⟨by dsimp only;omega,hsi.swap (by omega) hj (by omega) hl,(Dv R (by omega)).trans hpr⟩,(by dsimp only;omega),?_⟩
    refine aj.to 1 ?_ ⟨rfl,rfl,rfl,rfl,rfl,cK (by dsimp only;omega),trivial⟩ (Nat.le_refl _) rfl (ey _ _)
    show [AB.cells (cX (cX (gh R) [ah (jP R (j - 1))] (0+((j:Nat):Int).toNat * 1)) [ah (jP R j)] (0+(((j:Nat):Int) - 1).toNat * 1)) 1 ax]=[oY (xA R j) ax]
    rw [he2]
    rfl
   ·have dl:=hdl.trans (decide_eq_false hl)
    refine aa (mu:=fun _=>false) ?_
    repeat' (first |(refine RM.c5 (c:=14) (l1:=[_,_,_,_,_,_,_,_,_,_,_,_,_,_]) (l2:=[_,_,_]) (by kernel_rfl) rfl rfl ?_) |((with_reducible show RM.wpOp _ _ (.load _ _) _ _ _);refine RM.Km rfl rfl rfl hgj ?_) |((with_reducible show RM.wpOp _ _ (.load _ _) _ _ _);refine RM.Km rfl rfl rfl hgk ?_) |((with_reducible show ai _ _ _ _ _ _ _ _);refine af.call hle1 rfl rfl ?_) |refine u1 ?_ |refine u2 ?_ |fail)
    refine ⟨(i+1,R),⟨⟨by omega,.inl (by dsimp only;omega)⟩,hsi.done (.inr (by omega)),hpr⟩,(by dsimp only;omega),?_⟩
    exact aj.to 1 rfl ⟨rfl,rfl,rfl,rfl,cK (by simp),trivial⟩ (Nat.le_refl _) rfl (ey _ _)
 ·have d0:decide ((i:Int) < (N:Int))=false:=decide_eq_false (by omega)
  refine aa (mu:=fun _=>false) ?_
  repeat' (first |refine u1 ?_ |refine u2 ?_ |fail)
  refine hQ S ⟨fun p q h1 h2=>hso.Lw p q h1 (by omega),fun p q h1 h2 h3=>by omega⟩ hpe
end Go.Proofs.YtlpmfgmldmdggaaGreat
open Go Go.RM
namespace Go.Proofs.YtlpmfgmldmdggaaGreat
set_option maxRecDepth 100000
set_option maxHeartbeats 4000000
theorem Ht (one:Bool) {c:ay} (hg:Good c) (D:Int) {A:List Acc} (hA:A.length=c.aG.length) (L:List Int) (N:Nat) (hN:L.length=N) (h5:N≤5) (hL:∀ f ∈ L,0≤f∧f < c.aG.length) (hS0:uV (fy c A) L N 1) {ax cc:Nat} {av:bw} {Q:AV→List AB→bw→Prop} (hQ:∀ S:List Int,uV (fy c A) S N N→S.Perm L→Q (.tp []) [oY S ax] av) :
  ai TT TB one (.fn 108 [] []) [.cS 0 ax 0 N cc,ah (N:Nat),Dx c D A] [oY L ax] av Q:=by
 have d1:decide ((20:Int)≤(N:Int))=false:=decide_eq_false (by omega)
 have d2:decide ((20:Int) < (N:Int))=false:=decide_eq_false (by omega)
 refine ai.body (fn:=Tryz.f108) rfl rfl rfl ?_
 refine aa (mu:=fun _=>false) ?_
 repeat' (first |refine u1 ?_ |refine u2 ?_ |fail)
 refine aC.bx (aj.to (l:=[(0,.cS 0 ax 0 N cc),(1,ah (N:Nat)),(2,Dx c D A),(6,ah 20),(7,ah 0),(8,ah 20)]) (hp:=[oY L ax]) 1 rfl ⟨rfl,rfl,rfl,rfl,rfl,rfl,trivial⟩ (Nat.le_refl _) rfl (ey _ _)) ?_
 refine aC.loop (fun _:Unit=>True) (fun _=>⟨bM [(0,.cS 0 ax 0 N cc),(1,ah (N:Nat)),(2,Dx c D A),(6,ah 20),(7,ah 0),(8,ah 20)],[oY L ax],av,false,1⟩) (fun _=>0) ?_ () trivial
 intro _ _
 refine aa (mu:=fun _=>false) ?_
 repeat' (first |(refine Cq _ hg D hA L N hN h5 hL hS0 (fun S hso hpe=>?_)) |refine u1 ?_ |refine u2 ?_ |fail)
 refine aC.bx (aj.to (l:=[(0,.cS 0 ax 0 N cc),(1,ah (N:Nat)),(2,Dx c D A),(6,ah 20),(7,ah 0),(8,ah 20)]) (hp:=[oY S ax]) 1 rfl ⟨rfl,rfl,rfl,rfl,rfl,rfl,trivial⟩ (Nat.le_refl _) rfl (ey _ _)) ?_
 refine aC.loop (fun _:Unit=>True) (fun _=>⟨bM [(0,.cS 0 ax 0 N cc),(1,ah (N:Nat)),(2,Dx c D A),(6,ah 20),(7,ah 0),(8,ah 20)],[oY S ax],av,false,1⟩) (fun _=>0) ?_ () trivial
 intro _ _
 refine aa (mu:=fun _=>false) ?_
 repeat' (first |refine u1 ?_ |refine u2 ?_ |fail)
 exact hQ S hso hpe
theorem Ke (one:Bool) {c:ay} (hg:Good c) (D:Int) {A:List Acc} (hA:A.length=c.aG.length) (L:List Int) (N:Nat) (hN:L.length=N) (h5:N≤5) (hL:∀ f ∈ L,0≤f∧f < c.aG.length) (hS0:uV (fy c A) L N 1) {ax cc:Nat} {av:bw} {Q:AV→List AB→bw→Prop} (hQ:∀ S:List Int,uV (fy c A) S N N→S.Perm L→Q (.tp []) [oY S ax] av) :
  ai TT TB one (.fn 66 [] []) [.cS 0 ax 0 N cc,Dx c D A] [oY L ax] av Q:=by
 refine ai.body (fn:=Tryz.f66) rfl rfl rfl ?_
 refine aa (mu:=fun _=>false) ?_
 repeat' (first |(refine Ht _ hg D hA L N hN h5 hL hS0 (fun S hso hpe=>?_)) |refine u1 ?_ |refine u2 ?_ |fail)
 exact hQ S hso hpe
def Jl (A:List Acc) (m:Nat):Bool:=match A[m]? with
 | some a=>decide (a.place=0) && decide (1000≤a.fm)
 | none=>false
def bE (A:List Acc) (k:Nat):List Int:=((List.range k).filter (Jl A)).map fun m:Nat=>(m:Int)
theorem qQ (A:List Acc) (k:Nat):bE A (k+1)=if Jl A k=true then bE A k++[(k:Int)] else bE A k:=by
 unfold bE
 rw [List.range_succ,List.filter_append,List.map_append]
 cases h:Jl A k <;> simp [h]
theorem mM {A:List Acc} {k:Nat}:∀ x ∈ bE A k,0≤x∧x < k:=by
 intro x hx
 unfold bE at hx
 obtain ⟨m,hm,rfl⟩:=List.mem_map.1 hx
 have:=List.mem_range.1 (List.mem_filter.1 hm).1
 omega
theorem tJ (A:List Acc) (k:Nat):(bE A k).length≤k:=by
 unfold bE
 rw [List.length_map]
 exact Nat.le_trans (List.length_filter_le _ _) (by simp)
theorem xC (A:List Acc):∀ k,(bE A k).Pairwise (· < ·)
 | 0=>List.Pairwise.nil
 | k+1=>by
  rw [qQ]
  split
  ·rw [List.pairwise_append]
   refine ⟨xC A k,List.pairwise_singleton _ _,fun a ha b hb=>?_⟩
   rw [List.mem_singleton.1 hb]
   exact (mM a ha).2
  ·exact xC A k
theorem Fo (rk:Int→Int) (A:List Acc) (k:Nat):uV rk (bE A k) (bE A k).length 1:=by
 refine ⟨fun p q h1 h2=>by omega,fun p q h1 h2 h3=>?_⟩
 have:=List.pairwise_iff_getElem.1 (xC A k) p q (by omega) h3 h1
 unfold jP
 rw [List.getD_eq_getElem?_getD,List.getElem?_eq_getElem (by omega),List.getD_eq_getElem?_getD,List.getElem?_eq_getElem h3]
 exact this
def Cr (c:ay) (A:List Acc):List Int:=lS (fy c A) (bE A A.length)
def sJ (c:ay) (l:List Ev) (D:Int):List Int:=if qO c l D=0 then Cr c (Dk c l D) else []
theorem Fp {c:ay} (hg:Good c) {A:List Acc} (hA:A.length=c.aG.length) {S:List Int} (h1:uV (fy c A) S (bE A A.length).length (bE A A.length).length) (h2:S.Perm (bE A A.length)):S=Cr c A:=by
 obtain ⟨h3,h4⟩:=nH (fy c A) (bE A A.length)
 refine Hq (fun a ha b hb h=>?_) (Ho h2.length_eq h1) h4 (h2.trans h3.symm)
 have ba:=mM a (h2.mem_iff.1 ha)
 have bb:=mM b (h2.mem_iff.1 hb)
 rw [hA] at ba bb
 exact key_inj hg ba bb h
theorem Kf (one:Bool) (c:ay) (h:c.Ok) (l:List Ev) (f:Bool) (hl:l.length≤maxLen) (hm:∀ x ∈ l,x.day≤later) (D:Int):Pu one 23 [.ag (aF c),.sl (l.map cZ) f,ah D] (.tp [.sl (ints (sJ c l D)) false,ah (qO c l D)]):=by
 unfold sJ
 by_cases he:qO c l D=0
 ·have o1:=Jf one c h l f hl hm D he
  rw [if_pos he,he]
  obtain ⟨_,hv,hD⟩:=xz hm he
  obtain ⟨hla,_⟩:=vg hv hD
  have hg:=hv.good
  have hm5:=hg.aG
  have d0:(!decide ((0:Int)=0))=false:=by decide
  unfold Lq at o1
  generalize Dk c l D=A at *
  have ea:((A.map bu).length:Int)=A.length:=by simp
  refine af.body (fn:=Tryz.f23) rfl rfl rfl rfl ?_
  refine aa (mu:=fun t=>Nat.beq t 42) ?_
  repeat' (first |refine u1 ?_ |((with_reducible show ai _ _ _ _ _ _ _ _);refine af.call o1 rfl rfl ?_) |refine u2 ?_ |fail)
  refine aC.bx (aj.trans (aj.giveUp 0 (l:=[(3,.pt (aF c) 0),(6,.fl (.slice none 0 0)),(8,.pt [.pt (Je c D A) 0] 0),(24,.sl (A.map bu) false),(25,ah ((A.map bu).length:Int)),(26,ah ((0:Nat):Int))]) (hp:=[.gone]) rfl (Nat.zero_le _) rfl ⟨.same rfl,.same rfl,.ptr,.same rfl,.same rfl,.same rfl,trivial⟩ rfl rfl) (aj.trans (aj.to (l:=[(3,.pt (aF c) 0),(6,.fl (.slice none 0 0)),(8,.pt [.pt (Je c D A) 0] 0),(24,.sl (A.map bu) false),(25,ah ((A.map bu).length:Int)),(26,ah ((0:Nat):Int))]) (hp:=[]) 0 rfl ⟨rfl,rfl,rfl,rfl,rfl,rfl,trivial⟩ (Nat.zero_le _) rfl rfl) (aj.trans (aj.tu 1) (aj.KK (l:=[(3,.pt (aF c) 0),(6,.cS 0 ((0,0,0):Nat × Nat × Nat).2.1 0 (bE A ((0,0,0):Nat × Nat × Nat).1).length ((0,0,0):Nat × Nat × Nat).2.2),(8,.pt [.pt (Je c D A) 0] 0),(24,.sl (A.map bu) false),(25,ah ((A.map bu).length:Int)),(26,ah (((0,0,0):Nat × Nat × Nat).1:Nat))]) (hp:=[.cells (gh (bE A ((0,0,0):Nat × Nat × Nat).1)) 1 ((0,0,0):Nat × Nat × Nat).2.1]) 1 rfl ⟨eW.refl _,eW.tq,eW.refl _,eW.refl _,eW.refl _,eW.refl _,trivial⟩ (Nat.zero_le _) rfl (ey _ _))))) ?_
  refine aC.loop (fun x:Nat × Nat × Nat=>x.1≤A.length∧(x.2.2=(bE A x.1).length∨x.2.2=(bE A x.1).length+1)) (fun x=>⟨bM [(3,.pt (aF c) 0),(6,.cS 0 x.2.1 0 (bE A x.1).length x.2.2),(8,.pt [.pt (Je c D A) 0] 0),(24,.sl (A.map bu) false),(25,ah ((A.map bu).length:Int)),(26,ah (x.1:Nat))],[.cells (gh (bE A x.1)) 1 x.2.1],bw.none,false,0⟩) (fun x=>A.length - x.1) ?_ (0,0,0) ⟨Nat.zero_le _,.inl rfl⟩
  rintro ⟨k,v,cc⟩ ⟨hk,hcap⟩
  dsimp only at hk hcap
  show aC _ _ _ _ ⟨bM [(3,.pt (aF c) 0),(6,.cS 0 ((k,v,cc):Nat × Nat × Nat).2.1 0 (bE A ((k,v,cc):Nat × Nat × Nat).1).length ((k,v,cc):Nat × Nat × Nat).2.2),(8,.pt [.pt (Je c D A) 0] 0),(24,.sl (A.map bu) false),(25,ah ((A.map bu).length:Int)),(26,ah (((k,v,cc):Nat × Nat × Nat).1:Nat))],[.cells (gh (bE A ((k,v,cc):Nat × Nat × Nat).1)) 1 ((k,v,cc):Nat × Nat × Nat).2.1],bw.none,false,0⟩ _
  dsimp only
  have hpl:=tJ A k
  by_cases hlt:k < A.length
  ·have dl:decide ((k:Int) < ((A.map bu).length:Int))=true:=decide_eq_true (by omega)
   have hat:(A.map bu)[((k:Nat):Int).toNat]?=some (bu A[k]):=bG hlt
   have hs:=qQ A k
   have hok:Jl A k=(decide (A[k].place=0) && decide (1000≤A[k].fm)):=by
    unfold Jl
    rw [List.getElem?_eq_getElem hlt]
   have hgl:(gh (bE A k)).length=(bE A k).length * 1:=by rw [List.length_map];omega
   generalize A[k]=a at *
   obtain ⟨p,o,d0',d1,d2⟩:=a
   dsimp only at hok
   have hat:(A.map bu)[((k:Nat):Int).toNat]?=some [ah p,ah o,ah d0',ah d1,ah d2]:=hat
   cases e1:decide (p=0) with
   | false =>
    rw [e1] at hok
    rw [hok,if_neg (by simp)] at hs
    refine aa (mu:=fun t=>Nat.beq t 42) ?_
    repeat' (first |refine u1 ?_ |(refine ⟨[ah p,ah o,ah d0',ah d1,ah d2],⟨by omega,hat⟩,rfl,?_⟩) |refine u2 ?_ |fail)
    exact ⟨(k+1,v,cc),⟨hlt,by dsimp only;rw [hs];exact hcap⟩,(by dsimp only;omega),aj.to (hp:=[.cells (gh (bE A ((k+1,v,cc):Nat × Nat × Nat).1)) 1 ((k+1,v,cc):Nat × Nat × Nat).2.1]) 1 (by show _=[AB.cells (gh (bE A (k+1))) 1 v];rw [hs];rfl) ⟨rfl,by dsimp only;rw [hs];rfl,rfl,rfl,rfl,cK (by simp),trivial⟩ (Nat.zero_le _) rfl (ey _ _)⟩
   | true =>
    cases e2:decide (1000≤o) with
    | false =>
     rw [e1,e2] at hok
     rw [hok,if_neg (by simp)] at hs
     refine aa (mu:=fun t=>Nat.beq t 42) ?_
     repeat' (first |refine u1 ?_ |(refine ⟨[ah p,ah o,ah d0',ah d1,ah d2],⟨by omega,hat⟩,rfl,?_⟩) |refine u2 ?_ |fail)
     exact ⟨(k+1,v,cc),⟨hlt,by dsimp only;rw [hs];exact hcap⟩,(by dsimp only;omega),aj.to (hp:=[.cells (gh (bE A ((k+1,v,cc):Nat × Nat × Nat).1)) 1 ((k+1,v,cc):Nat × Nat × Nat).2.1]) 1 (by show _=[AB.cells (gh (bE A (k+1))) 1 v];rw [hs];rfl) ⟨rfl,by dsimp only;rw [hs];rfl,rfl,rfl,rfl,cK (by simp),trivial⟩ (Nat.zero_le _) rfl (ey _ _)⟩
    | true =>
     rw [e1,e2] at hok
     rw [hok] at hs
     have hs:bE A (k+1)=bE A k++[(k:Int)]:=hs
     have hsl:(bE A (k+1)).length=(bE A k).length+1:=by rw [hs,List.length_append];rfl
     refine aa (mu:=fun t=>Nat.beq t 42) ?_
     repeat' (first |((with_reducible show RM.wpOp _ _ (.call _) _ _ _);refine RM.uS (cs:=gh (bE A k)) (n:=(bE A k).length) (els:=[[ah (k:Int)]]) rfl rfl rfl rfl rfl (fun el hel=>by rw [List.mem_singleton.1 hel];rfl) rfl rfl hgl hcap (by simp only [List.length_singleton];omega) (fun v' c' hc'=>?_)) |refine u1 ?_ |(refine ⟨[ah p,ah o,ah d0',ah d1,ah d2],⟨by omega,hat⟩,rfl,?_⟩) |refine u2 ?_ |fail)
     exact ⟨(k+1,v',c'),⟨hlt,by dsimp only;rw [hsl];exact hc'⟩,(by dsimp only;omega),aj.to (hp:=[.cells (gh (bE A ((k+1,v',c'):Nat × Nat × Nat).1)) 1 ((k+1,v',c'):Nat × Nat × Nat).2.1]) 1 (by show _=[AB.cells (gh (bE A (k+1))) 1 v'];rw [hs];unfold gh;rw [List.map_append];rfl) ⟨rfl,by dsimp only;rw [hsl];rfl,rfl,rfl,rfl,cK (by simp),trivial⟩ (Nat.zero_le _) rfl (ey _ _)⟩
  ·have dl:decide ((k:Int) < ((A.map bu).length:Int))=false:=decide_eq_false (by omega)
   have hkn:k=A.length:=by omega
   subst hkn
   refine aa (mu:=fun t=>Nat.beq t 42) ?_
   repeat' (first |(refine Ke _ hg D hla (bE A A.length) (bE A A.length).length rfl (by omega) (fun x hx=>by have:=mM x hx;omega) (Fo _ A A.length) (fun S hso hpe=>?_)) |refine u1 ?_ |refine u2 ?_ |fail)
   rw [←Fp hg hla hso hpe]
   exact ⟨[_,_],⟨Hj rfl hpe.length_eq,Fz.deep rfl,trivial⟩,rfl⟩
 ·rw [if_neg he]
  have o1:=GY one c h l f hl D he
  have d1:(!decide (qO c l D=0))=true:=by rw [decide_eq_false he];rfl
  generalize qO c l D=e at *
  refine af.body (fn:=Tryz.f23) rfl rfl rfl rfl ?_
  refine aa (mu:=fun _=>false) ?_
  repeat' (first |refine u1 ?_ |((with_reducible show ai _ _ _ _ _ _ _ _);refine af.call o1 rfl rfl ?_) |refine u2 ?_ |fail)
  exact ⟨[_,_],⟨Fz.nil,Fz.deep rfl,trivial⟩,rfl⟩
end Go.Proofs.YtlpmfgmldmdggaaGreat
