/-
  Contracts of the program's functions and of the document's. Lemmas alone; their conditions stand in them.
-/
import Derived.Test.YtgdbfbalchdmcaaGreatK8
open Go Go.RM
namespace Go.Proofs.YtgdbfbalchdmcaaGreat
set_option maxRecDepth 100000
set_option maxHeartbeats 4000000
def aW (l:List Ev):Int:=match l.getLast? with
 | some x=>x.day
 | none=>0
def Fh (c:aH) (l:List Ev) (i k:Nat):Nat:=(List.range k).countP fun j=>!decide (j=i) && decide (aP c l j=0)
theorem Jx (c:aH) (l:List Ev) (i k:Nat):Fh c l i (k+1)=Fh c l i k+if (!decide (k=i) && decide (aP c l k=0))=true then 1 else 0:=by
 unfold Fh
 rw [List.range_succ,List.countP_append,List.countP_cons,List.countP_nil,Nat.zero_add]
theorem MR (c:aH) (l:List Ev) (i k:Nat):Fh c l i k≤k:=by
 unfold Fh
 have:=List.countP_le_length (p:=fun j=>!decide (j=i) && decide (aP c l j=0)) (l:=List.range k)
 rwa [List.length_range] at this
def wK (c:aH) (l:List Ev) (x:Ev):Int :=
 if x.kind=3 then (if aP c l x.aR.toNat=2 then 9 else 0)
 else if aP c l x.aR.toNat ≠ oY x.kind then 9
 else if x.kind=5 then (if aP c l x.other.toNat=1 then 0 else 9)
 else if x.kind=1 then (if (u7 c l x.aR.toNat x.day).i4 < 1000 then 9 else if (Fh c l x.aR.toNat c.ah.length:Int) < c.least then 8 else 0)
 else 0
def iH (c:aH) (l:List Ev) (x:Ev):Int :=
 if kindOk x=false then 2
 else if bH 0 ((c.ah.length:Int) - 1) [x.aR,x.other]=true then 4
 else if bH (aW l) 40000 [x.day]=true then 7
 else wK c l x
def BW:Code→Code
 | .seq _ b=>b
 | x=>x
noncomputable def DG:Code:=BW (BW (BW (BW (BW (BW (Tryz.f15.body.getD .skip))))))
theorem Lc (one:Bool) (c:aH) (l:List Ev) (f:Bool) (hmx:l.length≤maxLen) (i j:Nat) (hin:i < c.ah.length) (hjn:j < c.ah.length) (d:Int):aG TT TB one DG ⟨bT [(1,.sl (l.map dZ) f),(3,.pt (bh c) 0),(5,.pt [ak d,ak 2,ak (i:Int),ak (j:Int)] 0)],[],bW.none,false,0⟩ (ye TT Tryz.f15.results.toList (ak (wK c l ⟨d,2,(i:Int),(j:Int)⟩))):=by
 have hp1:=uZ true c l f hmx i hin
 have hp2:=uZ one c l f hmx j hjn
 have hw:Pu true 50 [ak 2] (ak (1)):=qA true 2
 have f1:decide ((1:Int) < 0)=false:=rfl
 have f2:decide ((0:Int)≤(1:Int))=true:=rfl
 have f3:decide ((2:Int)=5)=false:=rfl
 have f4:(!decide ((2:Int)=1))=true:=rfl
 unfold wK
 dsimp only
 rw [Int.toNat_natCast]
 rw [if_neg (by decide),show oY 2=1 from rfl]
 generalize aP c l i=p at *
 cases ep:decide (p=1) with
 | false =>
  have ep':(!decide (p=1))=true:=by rw [ep];rfl
  rw [if_pos (of_decide_eq_false ep)]
  refine aa (mu:=fun _=>false) ?_
  show kC _ _ _ _ (.seq (.region _ _ true) _) _ _
  repeat' (first |refine u1 ?_ |(refine ⟨_,_,.inl ⟨rfl,rfl⟩,hp1,?_⟩) |(refine ⟨_,_,.inl ⟨rfl,rfl⟩,hw,?_⟩) |((with_reducible show au _ _ _ _ _ _ _ _);refine af.call hp2 rfl rfl ?_) |refine u2 ?_ |fail)
  exact ⟨[_],⟨Fz.deep rfl,trivial⟩,rfl⟩
 | true =>
  have ep':(!decide (p=1))=false:=by rw [ep];rfl
  have ep2:=of_decide_eq_true ep
  rw [if_neg (fun h=>h ep2)]
  rw [if_neg (by decide),if_neg (by decide)]
  refine aa (mu:=fun _=>false) ?_
  show kC _ _ _ _ (.seq (.region _ _ true) _) _ _
  repeat' (first |refine u1 ?_ |(refine ⟨_,_,.inl ⟨rfl,rfl⟩,hp1,?_⟩) |(refine ⟨_,_,.inl ⟨rfl,rfl⟩,hw,?_⟩) |((with_reducible show au _ _ _ _ _ _ _ _);refine af.call hp2 rfl rfl ?_) |refine u2 ?_ |fail)
  exact ⟨[_],⟨Fz.deep rfl,trivial⟩,rfl⟩
theorem Ld (one:Bool) (c:aH) (l:List Ev) (f:Bool) (hmx:l.length≤maxLen) (i j:Nat) (hin:i < c.ah.length) (hjn:j < c.ah.length) (d:Int):aG TT TB one DG ⟨bT [(1,.sl (l.map dZ) f),(3,.pt (bh c) 0),(5,.pt [ak d,ak 3,ak (i:Int),ak (j:Int)] 0)],[],bW.none,false,0⟩ (ye TT Tryz.f15.results.toList (ak (wK c l ⟨d,3,(i:Int),(j:Int)⟩))):=by
 have hp1:=uZ true c l f hmx i hin
 have hp2:=uZ one c l f hmx j hjn
 have hw:Pu true 50 [ak 3] (ak (-1)):=qA true 3
 have f1:decide ((-1:Int) < 0)=true:=rfl
 have f2:decide ((0:Int)≤(-1:Int))=false:=rfl
 have f3:decide ((3:Int)=5)=false:=rfl
 have f4:(!decide ((3:Int)=1))=true:=rfl
 unfold wK
 dsimp only
 rw [Int.toNat_natCast]
 rw [if_pos rfl]
 generalize aP c l i=p at *
 cases ep:decide (p=2) with
 | true =>
  rw [if_pos (of_decide_eq_true ep)]
  refine aa (mu:=fun _=>false) ?_
  show kC _ _ _ _ (.seq (.region _ _ true) _) _ _
  repeat' (first |refine u1 ?_ |(refine ⟨_,_,.inl ⟨rfl,rfl⟩,hp1,?_⟩) |(refine ⟨_,_,.inl ⟨rfl,rfl⟩,hw,?_⟩) |((with_reducible show au _ _ _ _ _ _ _ _);refine af.call hp2 rfl rfl ?_) |refine u2 ?_ |fail)
  exact ⟨[_],⟨Fz.deep rfl,trivial⟩,rfl⟩
 | false =>
  rw [if_neg (of_decide_eq_false ep)]
  refine aa (mu:=fun _=>false) ?_
  show kC _ _ _ _ (.seq (.region _ _ true) _) _ _
  repeat' (first |refine u1 ?_ |(refine ⟨_,_,.inl ⟨rfl,rfl⟩,hp1,?_⟩) |(refine ⟨_,_,.inl ⟨rfl,rfl⟩,hw,?_⟩) |((with_reducible show au _ _ _ _ _ _ _ _);refine af.call hp2 rfl rfl ?_) |refine u2 ?_ |fail)
  exact ⟨[_],⟨Fz.deep rfl,trivial⟩,rfl⟩
theorem Lf (one:Bool) (c:aH) (l:List Ev) (f:Bool) (hmx:l.length≤maxLen) (i j:Nat) (hin:i < c.ah.length) (hjn:j < c.ah.length) (d:Int):aG TT TB one DG ⟨bT [(1,.sl (l.map dZ) f),(3,.pt (bh c) 0),(5,.pt [ak d,ak 4,ak (i:Int),ak (j:Int)] 0)],[],bW.none,false,0⟩ (ye TT Tryz.f15.results.toList (ak (wK c l ⟨d,4,(i:Int),(j:Int)⟩))):=by
 have hp1:=uZ true c l f hmx i hin
 have hp2:=uZ one c l f hmx j hjn
 have hw:Pu true 50 [ak 4] (ak (2)):=qA true 4
 have f1:decide ((2:Int) < 0)=false:=rfl
 have f2:decide ((0:Int)≤(2:Int))=true:=rfl
 have f3:decide ((4:Int)=5)=false:=rfl
 have f4:(!decide ((4:Int)=1))=true:=rfl
 unfold wK
 dsimp only
 rw [Int.toNat_natCast]
 rw [if_neg (by decide),show oY 4=2 from rfl]
 generalize aP c l i=p at *
 cases ep:decide (p=2) with
 | false =>
  have ep':(!decide (p=2))=true:=by rw [ep];rfl
  rw [if_pos (of_decide_eq_false ep)]
  refine aa (mu:=fun _=>false) ?_
  show kC _ _ _ _ (.seq (.region _ _ true) _) _ _
  repeat' (first |refine u1 ?_ |(refine ⟨_,_,.inl ⟨rfl,rfl⟩,hp1,?_⟩) |(refine ⟨_,_,.inl ⟨rfl,rfl⟩,hw,?_⟩) |((with_reducible show au _ _ _ _ _ _ _ _);refine af.call hp2 rfl rfl ?_) |refine u2 ?_ |fail)
  exact ⟨[_],⟨Fz.deep rfl,trivial⟩,rfl⟩
 | true =>
  have ep':(!decide (p=2))=false:=by rw [ep];rfl
  have ep2:=of_decide_eq_true ep
  rw [if_neg (fun h=>h ep2)]
  rw [if_neg (by decide),if_neg (by decide)]
  refine aa (mu:=fun _=>false) ?_
  show kC _ _ _ _ (.seq (.region _ _ true) _) _ _
  repeat' (first |refine u1 ?_ |(refine ⟨_,_,.inl ⟨rfl,rfl⟩,hp1,?_⟩) |(refine ⟨_,_,.inl ⟨rfl,rfl⟩,hw,?_⟩) |((with_reducible show au _ _ _ _ _ _ _ _);refine af.call hp2 rfl rfl ?_) |refine u2 ?_ |fail)
  exact ⟨[_],⟨Fz.deep rfl,trivial⟩,rfl⟩
theorem Lg (one:Bool) (c:aH) (l:List Ev) (f:Bool) (hmx:l.length≤maxLen) (i j:Nat) (hin:i < c.ah.length) (hjn:j < c.ah.length) (d:Int):aG TT TB one DG ⟨bT [(1,.sl (l.map dZ) f),(3,.pt (bh c) 0),(5,.pt [ak d,ak 5,ak (i:Int),ak (j:Int)] 0)],[],bW.none,false,0⟩ (ye TT Tryz.f15.results.toList (ak (wK c l ⟨d,5,(i:Int),(j:Int)⟩))):=by
 have hp1:=uZ true c l f hmx i hin
 have hp2:=uZ one c l f hmx j hjn
 have hw:Pu true 50 [ak 5] (ak (0)):=qA true 5
 have f1:decide ((0:Int) < 0)=false:=rfl
 have f2:decide ((0:Int)≤(0:Int))=true:=rfl
 have f3:decide ((5:Int)=5)=true:=rfl
 have f4:(!decide ((5:Int)=1))=true:=rfl
 unfold wK
 dsimp only
 rw [Int.toNat_natCast]
 rw [if_neg (by decide),show oY 5=0 from rfl]
 rw [Int.toNat_natCast]
 generalize aP c l j=q at *
 generalize aP c l i=p at *
 cases ep:decide (p=0) with
 | false =>
  have ep':(!decide (p=0))=true:=by rw [ep];rfl
  rw [if_pos (of_decide_eq_false ep)]
  refine aa (mu:=fun _=>false) ?_
  show kC _ _ _ _ (.seq (.region _ _ true) _) _ _
  repeat' (first |refine u1 ?_ |(refine ⟨_,_,.inl ⟨rfl,rfl⟩,hp1,?_⟩) |(refine ⟨_,_,.inl ⟨rfl,rfl⟩,hw,?_⟩) |((with_reducible show au _ _ _ _ _ _ _ _);refine af.call hp2 rfl rfl ?_) |refine u2 ?_ |fail)
  exact ⟨[_],⟨Fz.deep rfl,trivial⟩,rfl⟩
 | true =>
  have ep':(!decide (p=0))=false:=by rw [ep];rfl
  have ep2:=of_decide_eq_true ep
  rw [if_neg (fun h=>h ep2)]
  rw [if_pos rfl]
  cases eq:decide (q=1) with
  | true =>
   have eq':(!decide (q=1))=false:=by rw [eq];rfl
   rw [if_pos (of_decide_eq_true eq)]
   refine aa (mu:=fun _=>false) ?_
   show kC _ _ _ _ (.seq (.region _ _ true) _) _ _
   repeat' (first |refine u1 ?_ |(refine ⟨_,_,.inl ⟨rfl,rfl⟩,hp1,?_⟩) |(refine ⟨_,_,.inl ⟨rfl,rfl⟩,hw,?_⟩) |((with_reducible show au _ _ _ _ _ _ _ _);refine af.call hp2 rfl rfl ?_) |refine u2 ?_ |fail)
   exact ⟨[_],⟨Fz.deep rfl,trivial⟩,rfl⟩
  | false =>
   have eq':(!decide (q=1))=true:=by rw [eq];rfl
   rw [if_neg (of_decide_eq_false eq)]
   refine aa (mu:=fun _=>false) ?_
   show kC _ _ _ _ (.seq (.region _ _ true) _) _ _
   repeat' (first |refine u1 ?_ |(refine ⟨_,_,.inl ⟨rfl,rfl⟩,hp1,?_⟩) |(refine ⟨_,_,.inl ⟨rfl,rfl⟩,hw,?_⟩) |((with_reducible show au _ _ _ _ _ _ _ _);refine af.call hp2 rfl rfl ?_) |refine u2 ?_ |fail)
   exact ⟨[_],⟨Fz.deep rfl,trivial⟩,rfl⟩
theorem Lh (one:Bool) (c:aH) (hg:Good c) (l:List Ev) (f:Bool) (hl:l.length≤20) (hm:kj l) (hmx:l.length≤maxLen) (i j:Nat) (hin:i < c.ah.length) (hjn:j < c.ah.length) (d:Int) (h0:0≤d) (h4:d≤40000):aG TT TB one DG ⟨bT [(1,.sl (l.map dZ) f),(3,.pt (bh c) 0),(5,.pt [ak d,ak 1,ak (i:Int),ak (j:Int)] 0)],[],bW.none,false,0⟩ (ye TT Tryz.f15.results.toList (ak (wK c l ⟨d,1,(i:Int),(j:Int)⟩))):=by
 have em:((c.ah.map cL).length:Int)=c.ah.length:=by simp
 have hm5:=hg.ah
 have hp1:=uZ true c l f hmx i hin
 have hp2:=uZ one c l f hmx j hjn
 have hw:Pu true 50 [ak 1] (ak 0):=qA true 1
 have f1:decide ((0:Int) < 0)=false:=rfl
 have f2:decide ((0:Int)≤(0:Int))=true:=rfl
 have f3:decide ((1:Int)=5)=false:=rfl
 have f4:(!decide ((1:Int)=1))=false:=rfl
 have hac:=Hu one c hg l f hl hm i hin d h0 h4
 have hpl:∀ j,j < c.ah.length→Pu one 49 [.ag (bh c),.sl (l.map dZ) f,ak (j:Int)] (ak (aP c l j)):=fun j hj=>uZ one c l f hmx j hj
 unfold wK
 dsimp only
 rw [Int.toNat_natCast]
 rw [if_neg (by decide),show oY 1=0 from rfl]
 obtain ⟨p,hpp⟩:∃ p,p=aP c l i:=⟨_,rfl⟩
 rw [←hpp] at hp1 ⊢
 clear hpp
 cases ep:decide (p=0) with
 | false =>
  have ep':(!decide (p=0))=true:=by rw [ep];rfl
  rw [if_pos (of_decide_eq_false ep)]
  refine aa (mu:=fun _=>false) ?_
  show kC _ _ _ _ (.seq (.region _ _ true) _) _ _
  repeat' (first |refine u1 ?_ |(refine ⟨_,_,.inl ⟨rfl,rfl⟩,hp1,?_⟩) |(refine ⟨_,_,.inl ⟨rfl,rfl⟩,hw,?_⟩) |((with_reducible show au _ _ _ _ _ _ _ _);refine af.call hp2 rfl rfl ?_) |refine u2 ?_ |fail)
  exact ⟨[_],⟨Fz.deep rfl,trivial⟩,rfl⟩
 | true =>
  have ep':(!decide (p=0))=false:=by rw [ep];rfl
  have ep2:=of_decide_eq_true ep
  rw [if_neg (fun h=>h ep2)]
  rw [if_neg (by decide),if_pos rfl]
  obtain ⟨A,hA⟩:∃ A,A=u7 c l i d:=⟨_,rfl⟩
  rw [←hA] at hac ⊢
  clear hA
  obtain ⟨ap,ao,a0,a1,a2⟩:=A
  dsimp only
  have hac:Pu one 51 [.ag (bh c),.sl (l.map dZ) f,ak (i:Int),ak d] (.ag [ak ap,ak ao,ak a0,ak a1,ak a2]):=hac
  cases ea:decide (ao < 1000) with
  | true =>
   rw [if_pos (of_decide_eq_true ea)]
   refine aa (mu:=fun _=>false) ?_
   show kC _ _ _ _ (.seq (.region _ _ true) _) _ _
   repeat' (first |refine u1 ?_ |(refine ⟨_,_,.inl ⟨rfl,rfl⟩,hp1,?_⟩) |(refine ⟨_,_,.inl ⟨rfl,rfl⟩,hw,?_⟩) |((with_reducible show au _ _ _ _ _ _ _ _);refine af.call hp2 rfl rfl ?_) |((with_reducible show au _ _ _ _ _ _ _ _);refine af.call hac rfl rfl ?_) |refine u2 ?_ |fail)
   exact ⟨[_],⟨Fz.deep rfl,trivial⟩,rfl⟩
  | false =>
   rw [if_neg (of_decide_eq_false ea)]
   refine aa (mu:=fun _=>false) ?_
   show kC _ _ _ _ (.seq (.region _ _ true) _) _ _
   repeat' (first |refine u1 ?_ |(refine ⟨_,_,.inl ⟨rfl,rfl⟩,hp1,?_⟩) |(refine ⟨_,_,.inl ⟨rfl,rfl⟩,hw,?_⟩) |((with_reducible show au _ _ _ _ _ _ _ _);refine af.call hp2 rfl rfl ?_) |((with_reducible show au _ _ _ _ _ _ _ _);refine af.call hac rfl rfl ?_) |refine u2 ?_ |fail)
   obtain ⟨o,ho⟩:∃ o:Int,o=(j:Int):=⟨_,rfl⟩
   rw [←ho]
   clear hac hp1 hp2 hw
   refine aG.aU (aj.to (l:=[(1,.sl (l.map dZ) f),(3,.pt (bh c) 0),(5,.pt [ak d,ak 1,ak (i:Int),ak o] 0),(10,ak (Fh c l i 0:Int)),(11,ak (0:Nat))]) (hp:=[]) 0 rfl ⟨rfl,rfl,(by rw [ho];rfl),rfl,rfl,trivial⟩ (Nat.zero_le _) rfl rfl) ?_
   refine aG.loop (fun k:Nat=>k≤c.ah.length) (fun k=>⟨bT [(1,.sl (l.map dZ) f),(3,.pt (bh c) 0),(5,.pt [ak d,ak 1,ak (i:Int),ak o] 0),(10,ak (Fh c l i k:Int)),(11,ak (k:Nat))],[],bW.none,false,0⟩) (fun k=>c.ah.length - k) ?_ 0 (Nat.zero_le _)
   intro k hk
   have hbk:=MR c l i k
   by_cases hlt:k < c.ah.length
   ·have d1:decide ((k:Int) < ((c.ah.map cL).length:Int))=true:=decide_eq_true (by omega)
    have hpk:=hpl k hlt
    have hs:=Jx c l i k
    generalize aP c l k=w at *
    cases ek:decide (k=i) with
    | true =>
     have ek':(!decide ((k:Int)=(i:Int)))=false:=by rw [decide_eq_true (by have:=of_decide_eq_true ek;omega)];rfl
     rw [ek] at hs
     rw [if_neg (by simp)] at hs
     refine aa (mu:=fun _=>false) ?_
     repeat' (first |refine u1 ?_ |((with_reducible show au _ _ _ _ _ _ _ _);refine af.call hpk rfl rfl ?_) |refine u2 ?_ |fail)
     exact ⟨k+1,hlt,(by dsimp only;omega),aj.to 0 rfl ⟨rfl,rfl,rfl,by dsimp only;rw [hs];rfl,aJ (by simp),trivial⟩ (Nat.zero_le _) rfl rfl⟩
    | false =>
     have ek':(!decide ((k:Int)=(i:Int)))=true:=by rw [decide_eq_false (by have:=of_decide_eq_false ek;omega)];rfl
     rw [ek] at hs
     cases ew:decide (w=0) with
     | true =>
      rw [ew,if_pos (by rfl)] at hs
      refine aa (mu:=fun _=>false) ?_
      repeat' (first |refine u1 ?_ |((with_reducible show au _ _ _ _ _ _ _ _);refine af.call hpk rfl rfl ?_) |refine u2 ?_ |fail)
      exact ⟨k+1,hlt,(by dsimp only;omega),aj.to 0 rfl ⟨rfl,rfl,rfl,aJ (by rw [hs];simp),aJ (by simp),trivial⟩ (Nat.zero_le _) rfl rfl⟩
     | false =>
      rw [ew,if_neg (by simp)] at hs
      refine aa (mu:=fun _=>false) ?_
      repeat' (first |refine u1 ?_ |((with_reducible show au _ _ _ _ _ _ _ _);refine af.call hpk rfl rfl ?_) |refine u2 ?_ |fail)
      exact ⟨k+1,hlt,(by dsimp only;omega),aj.to 0 rfl ⟨rfl,rfl,rfl,by dsimp only;rw [hs];rfl,aJ (by simp),trivial⟩ (Nat.zero_le _) rfl rfl⟩
   ·have d1:decide ((k:Int) < ((c.ah.map cL).length:Int))=false:=decide_eq_false (by omega)
    have hkn:k=c.ah.length:=by omega
    subst hkn
    generalize Fh c l i c.ah.length=b at *
    cases eb:decide ((b:Int) < c.least) with
    | true =>
     rw [if_pos (of_decide_eq_true eb)]
     refine aa (mu:=fun _=>false) ?_
     repeat' (first |refine u1 ?_ |refine u2 ?_ |fail)
     exact ⟨[_],⟨Fz.deep rfl,trivial⟩,rfl⟩
    | false =>
     rw [if_neg (of_decide_eq_false eb)]
     refine aa (mu:=fun _=>false) ?_
     repeat' (first |refine u1 ?_ |refine u2 ?_ |fail)
     exact ⟨[_],⟨Fz.deep rfl,trivial⟩,rfl⟩
end Go.Proofs.YtgdbfbalchdmcaaGreat
open Go Go.RM
namespace Go.Proofs.YtgdbfbalchdmcaaGreat
set_option maxRecDepth 100000
set_option maxHeartbeats 4000000
noncomputable def OI:Code:=BW (BW (Tryz.f15.body.getD .skip))
noncomputable def Pg:Code:=BW OI
theorem MS (l:List Ev):(l=[]∧aW l=0)∨(1≤l.length∧decide (0 < ((l.map dZ).length:Int))=true∧∃ y1 y2 y3,(l.map dZ)[(((l.map dZ).length:Int) - 1).toNat]?=some [ak (aW l),ak y1,ak y2,ak y3]):=by
 have el:((l.map dZ).length:Int)=l.length:=by simp
 by_cases hz:l.length=0
 ·have:l=[]:=List.length_eq_zero_iff.1 hz
  subst this
  exact .inl ⟨rfl,rfl⟩
 ·right
  refine ⟨by omega,decide_eq_true (by omega),?_⟩
  have hlt:l.length - 1 < l.length:=by omega
  have e1:(((l.map dZ).length:Int) - 1).toNat=l.length - 1:=by omega
  have e2:l.getLast?=some l[l.length - 1]:=by rw [List.getLast?_eq_getElem?,List.getElem?_eq_getElem hlt]
  refine ⟨l[l.length - 1].kind,l[l.length - 1].aR,l[l.length - 1].other,?_⟩
  rw [e1,List.getElem?_map,List.getElem?_eq_getElem hlt]
  unfold aW
  rw [e2]
  rfl
theorem MT (one:Bool) (c:aH) (l:List Ev) (f:Bool) (hl:l.length≤20) (d k m o R:Int)
  (ht:aW l≤d→d≤40000→aG TT TB one DG ⟨bT [(1,.sl (l.map dZ) f),(3,.pt (bh c) 0),(5,.pt [ak d,ak k,ak m,ak o] 0)],[],bW.none,false,0⟩ (ye TT Tryz.f15.results.toList (ak R))) :
  aG TT TB one Pg ⟨bT [(1,.sl (l.map dZ) f),(3,.pt (bh c) 0),(5,.pt [ak d,ak k,ak m,ak o] 0)],[],bW.none,false,0⟩ (ye TT Tryz.f15.results.toList (ak (if bH (aW l) 40000 [d]=true then 7 else R))):=by
 have hmx:l.length≤maxLen:=by simp [maxLen];omega
 have el:((l.map dZ).length:Int)=l.length:=by simp
 have o4:=gC one d (aW l) 40000
 rw [bp]
 show aG TT TB one (.seq (.region _ _ _) (.seq (.seq (.region _ _ _) _) (.seq (.seq (.region _ _ _) _) DG))) _ _
 rcases MS l with ⟨hz,h9⟩|⟨h1l,d9,y1,y2,y3,h9⟩
 ·have d9:decide (0 < ((l.map dZ).length:Int))=false:=by rw [hz];rfl
  rw [h9] at o4 ht ⊢
  cases e4:gY d 0 40000 with
  | false =>
   rw [e4] at o4
   rw [if_pos (by rfl)]
   refine RM.l5 (mu:=fun _=>false) ?_
   repeat' (first |refine u1 ?_ |refine u2 ?_ |fail)
   refine RM.l5 (mu:=fun _=>false) ?_
   repeat' (first |refine u1 ?_ |refine u2 ?_ |fail)
   refine RM.l5 (mu:=fun _=>false) ?_
   repeat' (first |refine u1 ?_ |((with_reducible show au _ _ _ _ _ _ _ _);refine af.call o4 rfl rfl ?_) |refine u2 ?_ |fail)
   exact ⟨[_],⟨Fz.deep rfl,trivial⟩,rfl⟩
  | true =>
   rw [e4] at o4
   have b4:=bQ.1 e4
   rw [if_neg (by simp)]
   refine RM.l5 (mu:=fun _=>false) ?_
   repeat' (first |refine u1 ?_ |refine u2 ?_ |fail)
   refine RM.l5 (mu:=fun _=>false) ?_
   repeat' (first |refine u1 ?_ |refine u2 ?_ |fail)
   refine RM.l5 (mu:=fun _=>false) ?_
   repeat' (first |refine u1 ?_ |((with_reducible show au _ _ _ _ _ _ _ _);refine af.call o4 rfl rfl ?_) |refine u2 ?_ |fail)
   refine aG.aU (aj.to (l:=[(1,.sl (l.map dZ) f),(3,.pt (bh c) 0),(5,.pt [ak d,ak k,ak m,ak o] 0)]) (hp:=[]) 0 rfl ⟨rfl,rfl,rfl,trivial⟩ (Nat.zero_le _) rfl rfl) ?_
   exact ht b4.1 b4.2
 ·generalize aW l=e9 at *
  cases e4:gY d e9 40000 with
  | false =>
   rw [e4] at o4
   rw [if_pos (by rfl)]
   refine RM.l5 (mu:=fun _=>false) ?_
   repeat' (first |refine u1 ?_ |refine u2 ?_ |fail)
   refine RM.l5 (mu:=fun _=>false) ?_
   repeat' (first |refine u1 ?_ |(refine ⟨[ak e9,ak y1,ak y2,ak y3],⟨by omega,h9⟩,rfl,?_⟩) |refine u2 ?_ |fail)
   refine RM.l5 (mu:=fun _=>false) ?_
   repeat' (first |refine u1 ?_ |((with_reducible show au _ _ _ _ _ _ _ _);refine af.call o4 rfl rfl ?_) |refine u2 ?_ |fail)
   exact ⟨[_],⟨Fz.deep rfl,trivial⟩,rfl⟩
  | true =>
   rw [e4] at o4
   have b4:=bQ.1 e4
   rw [if_neg (by simp)]
   refine RM.l5 (mu:=fun _=>false) ?_
   repeat' (first |refine u1 ?_ |refine u2 ?_ |fail)
   refine RM.l5 (mu:=fun _=>false) ?_
   repeat' (first |refine u1 ?_ |(refine ⟨[ak e9,ak y1,ak y2,ak y3],⟨by omega,h9⟩,rfl,?_⟩) |refine u2 ?_ |fail)
   refine RM.l5 (mu:=fun _=>false) ?_
   repeat' (first |refine u1 ?_ |((with_reducible show au _ _ _ _ _ _ _ _);refine af.call o4 rfl rfl ?_) |refine u2 ?_ |fail)
   refine aG.aU (aj.to (l:=[(1,.sl (l.map dZ) f),(3,.pt (bh c) 0),(5,.pt [ak d,ak k,ak m,ak o] 0)]) (hp:=[]) 0 rfl ⟨rfl,rfl,rfl,trivial⟩ (Nat.zero_le _) rfl rfl) ?_
   exact ht b4.1 b4.2
theorem MU (one:Bool) (c:aH) (l:List Ev) (f:Bool) (hl:l.length≤20) (_hc5:c.ah.length≤6) (d k m o R:Int)
  (ht:0≤m→m < c.ah.length→0≤o→o < c.ah.length→aW l≤d→d≤40000→aG TT TB one DG ⟨bT [(1,.sl (l.map dZ) f),(3,.pt (bh c) 0),(5,.pt [ak d,ak k,ak m,ak o] 0)],[],bW.none,false,0⟩ (ye TT Tryz.f15.results.toList (ak R))) :
  aG TT TB one OI ⟨bT [(1,.sl (l.map dZ) f),(3,.pt (bh c) 0),(5,.pt [ak d,ak k,ak m,ak o] 0)],[],bW.none,false,0⟩ (ye TT Tryz.f15.results.toList (ak (if bH 0 ((c.ah.length:Int) - 1) [m,o]=true then 4 else if bH (aW l) 40000 [d]=true then 7 else R))):=by
 have em:((c.ah.map cL).length:Int)=c.ah.length:=by simp
 have o2:=gC one m 0 (((c.ah.map cL).length:Int) - 1)
 have o3:=gC one o 0 (((c.ah.map cL).length:Int) - 1)
 rw [Ge,←em]
 show aG TT TB one (.seq (.seq (.region _ _ _) _) Pg) _ _
 cases e2:gY m 0 (((c.ah.map cL).length:Int) - 1) with
 | false =>
  rw [e2] at o2
  rw [if_pos (by simp)]
  refine RM.l5 (mu:=fun _=>false) ?_
  repeat' (first |refine u1 ?_ |((with_reducible show au _ _ _ _ _ _ _ _);refine af.call o2 rfl rfl ?_) |refine u2 ?_ |fail)
  exact ⟨[_],⟨Fz.deep rfl,trivial⟩,rfl⟩
 | true =>
  rw [e2] at o2
  have b2:=bQ.1 e2
  cases e3:gY o 0 (((c.ah.map cL).length:Int) - 1) with
  | false =>
   rw [e3] at o3
   rw [if_pos (by simp)]
   refine RM.l5 (mu:=fun _=>false) ?_
   repeat' (first |refine u1 ?_ |((with_reducible show au _ _ _ _ _ _ _ _);refine af.call o2 rfl rfl ?_) |((with_reducible show au _ _ _ _ _ _ _ _);refine af.call o3 rfl rfl ?_) |refine u2 ?_ |fail)
   exact ⟨[_],⟨Fz.deep rfl,trivial⟩,rfl⟩
  | true =>
   rw [e3] at o3
   have b3:=bQ.1 e3
   rw [if_neg (by simp)]
   refine RM.l5 (mu:=fun _=>false) ?_
   repeat' (first |refine u1 ?_ |((with_reducible show au _ _ _ _ _ _ _ _);refine af.call o2 rfl rfl ?_) |((with_reducible show au _ _ _ _ _ _ _ _);refine af.call o3 rfl rfl ?_) |refine u2 ?_ |fail)
   refine aG.aU (aj.to (l:=[(1,.sl (l.map dZ) f),(3,.pt (bh c) 0),(5,.pt [ak d,ak k,ak m,ak o] 0)]) (hp:=[]) 0 rfl ⟨rfl,rfl,rfl,trivial⟩ (Nat.zero_le _) rfl rfl) ?_
   exact MT one c l f hl d k m o R (fun h1 h2=>ht b2.1 (by omega) b3.1 (by omega) h1 h2)
theorem Jy (one:Bool) (c:aH) (hg:Good c) (l:List Ev) (f:Bool) (hl:l.length≤20) (hm:kj l) (x:Ev):Pu one 15 [.ag (bh c),.sl (l.map dZ) f,.ag (dZ x)] (ak (iH c l x)):=by
 have hmx:l.length≤maxLen:=by simp [maxLen];omega
 have hm5:=hg.ah
 have o1:=gC one x.kind 1 5
 obtain ⟨d,k,m,o⟩:=x
 dsimp only at o1
 show Pu one 15 [.ag (bh c),.sl (l.map dZ) f,.ag [ak d,ak k,ak m,ak o]] _
 unfold iH kindOk
 dsimp only
 rw [bp]
 refine af.body (fn:=Tryz.f15) rfl rfl rfl rfl ?_
 show aG TT TB one (.seq (.region _ _ _) (.seq (.seq (.region _ _ _) _) OI)) _ _
 cases e1:gY k 1 5 with
 | false =>
  rw [e1] at o1
  rw [if_pos (by simp)]
  refine RM.l5 (mu:=fun _=>false) ?_
  repeat' (first |refine u1 ?_ |refine u2 ?_ |fail)
  refine RM.l5 (mu:=fun _=>false) ?_
  repeat' (first |refine u1 ?_ |((with_reducible show au _ _ _ _ _ _ _ _);refine af.call o1 rfl rfl ?_) |refine u2 ?_ |fail)
  exact ⟨[_],⟨Fz.deep rfl,trivial⟩,rfl⟩
 | true =>
  rw [e1] at o1
  have b1:=bQ.1 e1
  have good:∀ K:Int,K=k→(!(!true) && (decide (k=5) && !decide (o=m) || !decide (k=5) && decide (o=0)))=true→aG TT TB one OI ⟨bT [(1,.sl (l.map dZ) f),(3,.pt (bh c) 0),(5,.pt [ak d,ak k,ak m,ak o] 0)],[],bW.none,false,0⟩ (ye TT Tryz.f15.results.toList (ak (if (!(!true) && (decide (k=5) && !decide (o=m) || !decide (k=5) && decide (o=0)))=false then 2 else if bH 0 ((c.ah.length:Int) - 1) [m,o]=true then 4 else if bH (aW l) 40000 [d]=true then 7 else wK c l ⟨d,k,m,o⟩))):=by
   intro K hK hok
   rw [if_neg (by rw [hok];simp)]
   refine MU one c l f hl (by omega) d k m o _ ?_
   intro h1 h2 h3 h4 h5 h6
   obtain ⟨i,rfl⟩:∃ i:Nat,m=(i:Int):=⟨m.toNat,by omega⟩
   obtain ⟨j,rfl⟩:∃ j:Nat,o=(j:Int):=⟨o.toNat,by omega⟩
   have hin:i < c.ah.length:=by omega
   have hjn:j < c.ah.length:=by omega
   have h7:0≤d:=by
    have:0≤aW l:=by
     unfold aW
     cases hq:l.getLast? with
     | none=>simp
     | some y=>exact (hm.day y (List.mem_of_getLast? hq)).1
    omega
   obtain h|h|h|h|h:k=1∨k=2∨k=3∨k=4∨k=5:=by omega
   ·subst h;exact Lh one c hg l f hl hm hmx i j hin hjn d h7 h6
   ·subst h;exact Lc one c l f hmx i j hin hjn d
   ·subst h;exact Ld one c l f hmx i j hin hjn d
   ·subst h;exact Lf one c l f hmx i j hin hjn d
   ·subst h;exact Lg one c l f hmx i j hin hjn d
  by_cases h5:k=5
  ·subst h5
   have g1:(!decide ((5:Int)=5))=false:=rfl
   have g1':decide ((5:Int)=5)=true:=rfl
   cases e2:decide (o=m) with
   | true =>
    rw [if_pos (by rfl)]
    refine RM.l5 (mu:=fun _=>false) ?_
    repeat' (first |refine u1 ?_ |refine u2 ?_ |fail)
    refine RM.l5 (mu:=fun _=>false) ?_
    repeat' (first |refine u1 ?_ |((with_reducible show au _ _ _ _ _ _ _ _);refine af.call o1 rfl rfl ?_) |refine u2 ?_ |fail)
    exact ⟨[_],⟨Fz.deep rfl,trivial⟩,rfl⟩
   | false =>
    have g:=good 5 rfl (by rw [e2];rfl)
    rw [e2] at g
    refine RM.l5 (mu:=fun _=>false) ?_
    repeat' (first |refine u1 ?_ |refine u2 ?_ |fail)
    refine RM.l5 (mu:=fun _=>false) ?_
    repeat' (first |refine u1 ?_ |((with_reducible show au _ _ _ _ _ _ _ _);refine af.call o1 rfl rfl ?_) |refine u2 ?_ |fail)
    refine aG.aU (aj.to (l:=[(1,.sl (l.map dZ) f),(3,.pt (bh c) 0),(5,.pt [ak d,ak 5,ak m,ak o] 0)]) (hp:=[]) 0 rfl ⟨rfl,rfl,rfl,trivial⟩ (Nat.zero_le _) rfl rfl) ?_
    exact g
  ·have d5:=decide_eq_false h5
   have g1:(!decide (k=5))=true:=by rw [d5];rfl
   rw [d5] at good ⊢
   cases e2:decide (o=0) with
   | false =>
    have g2:(!decide (o=0))=true:=by rw [e2];rfl
    rw [if_pos (by simp)]
    refine RM.l5 (mu:=fun _=>false) ?_
    repeat' (first |refine u1 ?_ |refine u2 ?_ |fail)
    refine RM.l5 (mu:=fun _=>false) ?_
    repeat' (first |refine u1 ?_ |((with_reducible show au _ _ _ _ _ _ _ _);refine af.call o1 rfl rfl ?_) |refine u2 ?_ |fail)
    exact ⟨[_],⟨Fz.deep rfl,trivial⟩,rfl⟩
   | true =>
    have g2:(!decide (o=0))=false:=by rw [e2];rfl
    have g:=good k rfl (by rw [e2];simp)
    rw [e2] at g
    refine RM.l5 (mu:=fun _=>false) ?_
    repeat' (first |refine u1 ?_ |refine u2 ?_ |fail)
    refine RM.l5 (mu:=fun _=>false) ?_
    repeat' (first |refine u1 ?_ |((with_reducible show au _ _ _ _ _ _ _ _);refine af.call o1 rfl rfl ?_) |refine u2 ?_ |fail)
    refine aG.aU (aj.to (l:=[(1,.sl (l.map dZ) f),(3,.pt (bh c) 0),(5,.pt [ak d,ak k,ak m,ak o] 0)]) (hp:=[]) 0 rfl ⟨rfl,rfl,rfl,trivial⟩ (Nat.zero_le _) rfl rfl) ?_
    exact g
end Go.Proofs.YtgdbfbalchdmcaaGreat
