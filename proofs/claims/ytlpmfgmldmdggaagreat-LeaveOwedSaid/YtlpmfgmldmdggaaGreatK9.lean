/-
  Contracts of the program's functions and of the document's. Lemmas alone; their conditions stand in them.
-/
import Derived.Test.YtlpmfgmldmdggaaGreatK8
open Go Go.RM
namespace Go.Proofs.YtlpmfgmldmdggaaGreat
set_option maxRecDepth 100000
set_option maxHeartbeats 4000000
def aM (l:List Ev):Int:=match l.getLast? with
 | some x=>x.day
 | none=>0
def Dp (c:ay) (l:List Ev) (i k:Nat):Nat:=(List.range k).countP fun j=>!decide (j=i) && decide (aD c l j=0)
theorem G4 (c:ay) (l:List Ev) (i k:Nat):Dp c l i (k+1)=Dp c l i k+if (!decide (k=i) && decide (aD c l k=0))=true then 1 else 0:=by
 unfold Dp
 rw [List.range_succ,List.countP_append,List.countP_cons,List.countP_nil,Nat.zero_add]
theorem JV (c:ay) (l:List Ev) (i k:Nat):Dp c l i k≤k:=by
 unfold Dp
 have:=List.countP_le_length (p:=fun j=>!decide (j=i) && decide (aD c l j=0)) (l:=List.range k)
 rwa [List.length_range] at this
def vb (c:ay) (l:List Ev) (x:Ev):Int :=
 if x.kind=3 then (if aD c l x.qT.toNat=2 then 9 else 0)
 else if aD c l x.qT.toNat ≠ nF x.kind then 9
 else if x.kind=5 then (if aD c l x.other.toNat=1 then 0 else 9)
 else if x.kind=1 then (if (qd c l x.qT.toNat x.day).fm < 1000 then 9 else if (Dp c l x.qT.toNat c.aG.length:Int) < c.least then 8 else 0)
 else 0
def gB (c:ay) (l:List Ev) (x:Ev):Int :=
 if kindOk x=false then 2
 else if ec 0 ((c.aG.length:Int) - 1) [x.qT,x.other]=true then 4
 else if ec (aM l) 40000 [x.day]=true then 7
 else vb c l x
def Ar:Code→Code
 | .seq _ b=>b
 | x=>x
noncomputable def Cd:Code:=Ar (Ar (Ar (Ar (Ar (Ar (Tryz.f62.body.getD .skip))))))
theorem IE (one:Bool) (c:ay) (l:List Ev) (f:Bool) (hmx:l.length≤maxLen) (i j:Nat) (hin:i < c.aG.length) (hjn:j < c.aG.length) (d:Int):aC TT TB one Cd ⟨bM [(1,.sl (l.map cZ) f),(3,.pt (aF c) 0),(5,.pt [ah d,ah 2,ah (i:Int),ah (j:Int)] 0)],[],bw.none,false,0⟩ (wK TT Tryz.f62.results.toList (ah (vb c l ⟨d,2,(i:Int),(j:Int)⟩))):=by
 have hp1:=tG true c l f hmx i hin
 have hp2:=tG one c l f hmx j hjn
 have hw:Pu true 106 [ah 2] (ah (1)):=oW true 2
 have f1:decide ((1:Int) < 0)=false:=rfl
 have f2:decide ((0:Int)≤(1:Int))=true:=rfl
 have f3:decide ((2:Int)=5)=false:=rfl
 have f4:(!decide ((2:Int)=1))=true:=rfl
 unfold vb
 dsimp only
 rw [Int.toNat_natCast]
 rw [if_neg (by decide),show nF 2=1 from rfl]
 generalize aD c l i=p at *
 cases ep:decide (p=1) with
 | false =>
  have ep':(!decide (p=1))=true:=by rw [ep];rfl
  rw [if_pos (of_decide_eq_false ep)]
  refine aa (mu:=fun _=>false) ?_
  show kE _ _ _ _ (.seq (.region _ _ true) _) _ _
  repeat' (first |refine u1 ?_ |(refine ⟨_,_,.inl ⟨rfl,rfl⟩,hp1,?_⟩) |(refine ⟨_,_,.inl ⟨rfl,rfl⟩,hw,?_⟩) |((with_reducible show ai _ _ _ _ _ _ _ _);refine af.call hp2 rfl rfl ?_) |refine u2 ?_ |fail)
  exact ⟨[_],⟨Fz.deep rfl,trivial⟩,rfl⟩
 | true =>
  have ep':(!decide (p=1))=false:=by rw [ep];rfl
  have ep2:=of_decide_eq_true ep
  rw [if_neg (fun h=>h ep2)]
  rw [if_neg (by decide),if_neg (by decide)]
  refine aa (mu:=fun _=>false) ?_
  show kE _ _ _ _ (.seq (.region _ _ true) _) _ _
  repeat' (first |refine u1 ?_ |(refine ⟨_,_,.inl ⟨rfl,rfl⟩,hp1,?_⟩) |(refine ⟨_,_,.inl ⟨rfl,rfl⟩,hw,?_⟩) |((with_reducible show ai _ _ _ _ _ _ _ _);refine af.call hp2 rfl rfl ?_) |refine u2 ?_ |fail)
  exact ⟨[_],⟨Fz.deep rfl,trivial⟩,rfl⟩
theorem IF (one:Bool) (c:ay) (l:List Ev) (f:Bool) (hmx:l.length≤maxLen) (i j:Nat) (hin:i < c.aG.length) (hjn:j < c.aG.length) (d:Int):aC TT TB one Cd ⟨bM [(1,.sl (l.map cZ) f),(3,.pt (aF c) 0),(5,.pt [ah d,ah 3,ah (i:Int),ah (j:Int)] 0)],[],bw.none,false,0⟩ (wK TT Tryz.f62.results.toList (ah (vb c l ⟨d,3,(i:Int),(j:Int)⟩))):=by
 have hp1:=tG true c l f hmx i hin
 have hp2:=tG one c l f hmx j hjn
 have hw:Pu true 106 [ah 3] (ah (-1)):=oW true 3
 have f1:decide ((-1:Int) < 0)=true:=rfl
 have f2:decide ((0:Int)≤(-1:Int))=false:=rfl
 have f3:decide ((3:Int)=5)=false:=rfl
 have f4:(!decide ((3:Int)=1))=true:=rfl
 unfold vb
 dsimp only
 rw [Int.toNat_natCast]
 rw [if_pos rfl]
 generalize aD c l i=p at *
 cases ep:decide (p=2) with
 | true =>
  rw [if_pos (of_decide_eq_true ep)]
  refine aa (mu:=fun _=>false) ?_
  show kE _ _ _ _ (.seq (.region _ _ true) _) _ _
  repeat' (first |refine u1 ?_ |(refine ⟨_,_,.inl ⟨rfl,rfl⟩,hp1,?_⟩) |(refine ⟨_,_,.inl ⟨rfl,rfl⟩,hw,?_⟩) |((with_reducible show ai _ _ _ _ _ _ _ _);refine af.call hp2 rfl rfl ?_) |refine u2 ?_ |fail)
  exact ⟨[_],⟨Fz.deep rfl,trivial⟩,rfl⟩
 | false =>
  rw [if_neg (of_decide_eq_false ep)]
  refine aa (mu:=fun _=>false) ?_
  show kE _ _ _ _ (.seq (.region _ _ true) _) _ _
  repeat' (first |refine u1 ?_ |(refine ⟨_,_,.inl ⟨rfl,rfl⟩,hp1,?_⟩) |(refine ⟨_,_,.inl ⟨rfl,rfl⟩,hw,?_⟩) |((with_reducible show ai _ _ _ _ _ _ _ _);refine af.call hp2 rfl rfl ?_) |refine u2 ?_ |fail)
  exact ⟨[_],⟨Fz.deep rfl,trivial⟩,rfl⟩
theorem IG (one:Bool) (c:ay) (l:List Ev) (f:Bool) (hmx:l.length≤maxLen) (i j:Nat) (hin:i < c.aG.length) (hjn:j < c.aG.length) (d:Int):aC TT TB one Cd ⟨bM [(1,.sl (l.map cZ) f),(3,.pt (aF c) 0),(5,.pt [ah d,ah 4,ah (i:Int),ah (j:Int)] 0)],[],bw.none,false,0⟩ (wK TT Tryz.f62.results.toList (ah (vb c l ⟨d,4,(i:Int),(j:Int)⟩))):=by
 have hp1:=tG true c l f hmx i hin
 have hp2:=tG one c l f hmx j hjn
 have hw:Pu true 106 [ah 4] (ah (2)):=oW true 4
 have f1:decide ((2:Int) < 0)=false:=rfl
 have f2:decide ((0:Int)≤(2:Int))=true:=rfl
 have f3:decide ((4:Int)=5)=false:=rfl
 have f4:(!decide ((4:Int)=1))=true:=rfl
 unfold vb
 dsimp only
 rw [Int.toNat_natCast]
 rw [if_neg (by decide),show nF 4=2 from rfl]
 generalize aD c l i=p at *
 cases ep:decide (p=2) with
 | false =>
  have ep':(!decide (p=2))=true:=by rw [ep];rfl
  rw [if_pos (of_decide_eq_false ep)]
  refine aa (mu:=fun _=>false) ?_
  show kE _ _ _ _ (.seq (.region _ _ true) _) _ _
  repeat' (first |refine u1 ?_ |(refine ⟨_,_,.inl ⟨rfl,rfl⟩,hp1,?_⟩) |(refine ⟨_,_,.inl ⟨rfl,rfl⟩,hw,?_⟩) |((with_reducible show ai _ _ _ _ _ _ _ _);refine af.call hp2 rfl rfl ?_) |refine u2 ?_ |fail)
  exact ⟨[_],⟨Fz.deep rfl,trivial⟩,rfl⟩
 | true =>
  have ep':(!decide (p=2))=false:=by rw [ep];rfl
  have ep2:=of_decide_eq_true ep
  rw [if_neg (fun h=>h ep2)]
  rw [if_neg (by decide),if_neg (by decide)]
  refine aa (mu:=fun _=>false) ?_
  show kE _ _ _ _ (.seq (.region _ _ true) _) _ _
  repeat' (first |refine u1 ?_ |(refine ⟨_,_,.inl ⟨rfl,rfl⟩,hp1,?_⟩) |(refine ⟨_,_,.inl ⟨rfl,rfl⟩,hw,?_⟩) |((with_reducible show ai _ _ _ _ _ _ _ _);refine af.call hp2 rfl rfl ?_) |refine u2 ?_ |fail)
  exact ⟨[_],⟨Fz.deep rfl,trivial⟩,rfl⟩
theorem II (one:Bool) (c:ay) (l:List Ev) (f:Bool) (hmx:l.length≤maxLen) (i j:Nat) (hin:i < c.aG.length) (hjn:j < c.aG.length) (d:Int):aC TT TB one Cd ⟨bM [(1,.sl (l.map cZ) f),(3,.pt (aF c) 0),(5,.pt [ah d,ah 5,ah (i:Int),ah (j:Int)] 0)],[],bw.none,false,0⟩ (wK TT Tryz.f62.results.toList (ah (vb c l ⟨d,5,(i:Int),(j:Int)⟩))):=by
 have hp1:=tG true c l f hmx i hin
 have hp2:=tG one c l f hmx j hjn
 have hw:Pu true 106 [ah 5] (ah (0)):=oW true 5
 have f1:decide ((0:Int) < 0)=false:=rfl
 have f2:decide ((0:Int)≤(0:Int))=true:=rfl
 have f3:decide ((5:Int)=5)=true:=rfl
 have f4:(!decide ((5:Int)=1))=true:=rfl
 unfold vb
 dsimp only
 rw [Int.toNat_natCast]
 rw [if_neg (by decide),show nF 5=0 from rfl]
 rw [Int.toNat_natCast]
 generalize aD c l j=q at *
 generalize aD c l i=p at *
 cases ep:decide (p=0) with
 | false =>
  have ep':(!decide (p=0))=true:=by rw [ep];rfl
  rw [if_pos (of_decide_eq_false ep)]
  refine aa (mu:=fun _=>false) ?_
  show kE _ _ _ _ (.seq (.region _ _ true) _) _ _
  repeat' (first |refine u1 ?_ |(refine ⟨_,_,.inl ⟨rfl,rfl⟩,hp1,?_⟩) |(refine ⟨_,_,.inl ⟨rfl,rfl⟩,hw,?_⟩) |((with_reducible show ai _ _ _ _ _ _ _ _);refine af.call hp2 rfl rfl ?_) |refine u2 ?_ |fail)
  exact ⟨[_],⟨Fz.deep rfl,trivial⟩,rfl⟩
 | true =>
  have ep':(!decide (p=0))=false:=by rw [ep];rfl
  have ep2:=of_decide_eq_true ep
  rw [if_neg (fun h=>h ep2)]
  rw [if_pos rfl]
  cases eq:decide (q=1) with
  | true =>
   have eq':(!decide (q=1))=false:=by rw [eq];rfl
   rw [if_pos (of_decide_eq_true eq)]
   refine aa (mu:=fun _=>false) ?_
   show kE _ _ _ _ (.seq (.region _ _ true) _) _ _
   repeat' (first |refine u1 ?_ |(refine ⟨_,_,.inl ⟨rfl,rfl⟩,hp1,?_⟩) |(refine ⟨_,_,.inl ⟨rfl,rfl⟩,hw,?_⟩) |((with_reducible show ai _ _ _ _ _ _ _ _);refine af.call hp2 rfl rfl ?_) |refine u2 ?_ |fail)
   exact ⟨[_],⟨Fz.deep rfl,trivial⟩,rfl⟩
  | false =>
   have eq':(!decide (q=1))=true:=by rw [eq];rfl
   rw [if_neg (of_decide_eq_false eq)]
   refine aa (mu:=fun _=>false) ?_
   show kE _ _ _ _ (.seq (.region _ _ true) _) _ _
   repeat' (first |refine u1 ?_ |(refine ⟨_,_,.inl ⟨rfl,rfl⟩,hp1,?_⟩) |(refine ⟨_,_,.inl ⟨rfl,rfl⟩,hw,?_⟩) |((with_reducible show ai _ _ _ _ _ _ _ _);refine af.call hp2 rfl rfl ?_) |refine u2 ?_ |fail)
   exact ⟨[_],⟨Fz.deep rfl,trivial⟩,rfl⟩
theorem IJ (one:Bool) (c:ay) (hg:Good c) (l:List Ev) (f:Bool) (hl:l.length≤20) (hm:iJ l) (hmx:l.length≤maxLen) (i j:Nat) (hin:i < c.aG.length) (hjn:j < c.aG.length) (d:Int) (h0:0≤d) (h4:d≤40000):aC TT TB one Cd ⟨bM [(1,.sl (l.map cZ) f),(3,.pt (aF c) 0),(5,.pt [ah d,ah 1,ah (i:Int),ah (j:Int)] 0)],[],bw.none,false,0⟩ (wK TT Tryz.f62.results.toList (ah (vb c l ⟨d,1,(i:Int),(j:Int)⟩))):=by
 have em:((c.aG.map bp).length:Int)=c.aG.length:=by simp
 have hm5:=hg.aG
 have hp1:=tG true c l f hmx i hin
 have hp2:=tG one c l f hmx j hjn
 have hw:Pu true 106 [ah 1] (ah 0):=oW true 1
 have f1:decide ((0:Int) < 0)=false:=rfl
 have f2:decide ((0:Int)≤(0:Int))=true:=rfl
 have f3:decide ((1:Int)=5)=false:=rfl
 have f4:(!decide ((1:Int)=1))=false:=rfl
 have hac:=ze one c hg l f hl hm i hin d h0 h4
 have hpl:∀ j,j < c.aG.length→Pu one 44 [.ag (aF c),.sl (l.map cZ) f,ah (j:Int)] (ah (aD c l j)):=fun j hj=>tG one c l f hmx j hj
 unfold vb
 dsimp only
 rw [Int.toNat_natCast]
 rw [if_neg (by decide),show nF 1=0 from rfl]
 obtain ⟨p,hpp⟩:∃ p,p=aD c l i:=⟨_,rfl⟩
 rw [←hpp] at hp1 ⊢
 clear hpp
 cases ep:decide (p=0) with
 | false =>
  have ep':(!decide (p=0))=true:=by rw [ep];rfl
  rw [if_pos (of_decide_eq_false ep)]
  refine aa (mu:=fun _=>false) ?_
  show kE _ _ _ _ (.seq (.region _ _ true) _) _ _
  repeat' (first |refine u1 ?_ |(refine ⟨_,_,.inl ⟨rfl,rfl⟩,hp1,?_⟩) |(refine ⟨_,_,.inl ⟨rfl,rfl⟩,hw,?_⟩) |((with_reducible show ai _ _ _ _ _ _ _ _);refine af.call hp2 rfl rfl ?_) |refine u2 ?_ |fail)
  exact ⟨[_],⟨Fz.deep rfl,trivial⟩,rfl⟩
 | true =>
  have ep':(!decide (p=0))=false:=by rw [ep];rfl
  have ep2:=of_decide_eq_true ep
  rw [if_neg (fun h=>h ep2)]
  rw [if_neg (by decide),if_pos rfl]
  obtain ⟨A,hA⟩:∃ A,A=qd c l i d:=⟨_,rfl⟩
  rw [←hA] at hac ⊢
  clear hA
  obtain ⟨ap,ao,a0,a1,a2⟩:=A
  dsimp only
  have hac:Pu one 65 [.ag (aF c),.sl (l.map cZ) f,ah (i:Int),ah d] (.ag [ah ap,ah ao,ah a0,ah a1,ah a2]):=hac
  cases ea:decide (ao < 1000) with
  | true =>
   rw [if_pos (of_decide_eq_true ea)]
   refine aa (mu:=fun _=>false) ?_
   show kE _ _ _ _ (.seq (.region _ _ true) _) _ _
   repeat' (first |refine u1 ?_ |(refine ⟨_,_,.inl ⟨rfl,rfl⟩,hp1,?_⟩) |(refine ⟨_,_,.inl ⟨rfl,rfl⟩,hw,?_⟩) |((with_reducible show ai _ _ _ _ _ _ _ _);refine af.call hp2 rfl rfl ?_) |((with_reducible show ai _ _ _ _ _ _ _ _);refine af.call hac rfl rfl ?_) |refine u2 ?_ |fail)
   exact ⟨[_],⟨Fz.deep rfl,trivial⟩,rfl⟩
  | false =>
   rw [if_neg (of_decide_eq_false ea)]
   refine aa (mu:=fun _=>false) ?_
   show kE _ _ _ _ (.seq (.region _ _ true) _) _ _
   repeat' (first |refine u1 ?_ |(refine ⟨_,_,.inl ⟨rfl,rfl⟩,hp1,?_⟩) |(refine ⟨_,_,.inl ⟨rfl,rfl⟩,hw,?_⟩) |((with_reducible show ai _ _ _ _ _ _ _ _);refine af.call hp2 rfl rfl ?_) |((with_reducible show ai _ _ _ _ _ _ _ _);refine af.call hac rfl rfl ?_) |refine u2 ?_ |fail)
   obtain ⟨o,ho⟩:∃ o:Int,o=(j:Int):=⟨_,rfl⟩
   rw [←ho]
   clear hac hp1 hp2 hw
   refine aC.bx (aj.to (l:=[(1,.sl (l.map cZ) f),(3,.pt (aF c) 0),(5,.pt [ah d,ah 1,ah (i:Int),ah o] 0),(10,ah (Dp c l i 0:Int)),(11,ah (0:Nat))]) (hp:=[]) 0 rfl ⟨rfl,rfl,(by rw [ho];rfl),rfl,rfl,trivial⟩ (Nat.zero_le _) rfl rfl) ?_
   refine aC.loop (fun k:Nat=>k≤c.aG.length) (fun k=>⟨bM [(1,.sl (l.map cZ) f),(3,.pt (aF c) 0),(5,.pt [ah d,ah 1,ah (i:Int),ah o] 0),(10,ah (Dp c l i k:Int)),(11,ah (k:Nat))],[],bw.none,false,0⟩) (fun k=>c.aG.length - k) ?_ 0 (Nat.zero_le _)
   intro k hk
   have hbk:=JV c l i k
   by_cases hlt:k < c.aG.length
   ·have d1:decide ((k:Int) < ((c.aG.map bp).length:Int))=true:=decide_eq_true (by omega)
    have hpk:=hpl k hlt
    have hs:=G4 c l i k
    generalize aD c l k=w at *
    cases ek:decide (k=i) with
    | true =>
     have ek':(!decide ((k:Int)=(i:Int)))=false:=by rw [decide_eq_true (by have:=of_decide_eq_true ek;omega)];rfl
     rw [ek] at hs
     rw [if_neg (by simp)] at hs
     refine aa (mu:=fun _=>false) ?_
     repeat' (first |refine u1 ?_ |((with_reducible show ai _ _ _ _ _ _ _ _);refine af.call hpk rfl rfl ?_) |refine u2 ?_ |fail)
     exact ⟨k+1,hlt,(by dsimp only;omega),aj.to 0 rfl ⟨rfl,rfl,rfl,by dsimp only;rw [hs];rfl,cK (by simp),trivial⟩ (Nat.zero_le _) rfl rfl⟩
    | false =>
     have ek':(!decide ((k:Int)=(i:Int)))=true:=by rw [decide_eq_false (by have:=of_decide_eq_false ek;omega)];rfl
     rw [ek] at hs
     cases ew:decide (w=0) with
     | true =>
      rw [ew,if_pos (by rfl)] at hs
      refine aa (mu:=fun _=>false) ?_
      repeat' (first |refine u1 ?_ |((with_reducible show ai _ _ _ _ _ _ _ _);refine af.call hpk rfl rfl ?_) |refine u2 ?_ |fail)
      exact ⟨k+1,hlt,(by dsimp only;omega),aj.to 0 rfl ⟨rfl,rfl,rfl,cK (by rw [hs];simp),cK (by simp),trivial⟩ (Nat.zero_le _) rfl rfl⟩
     | false =>
      rw [ew,if_neg (by simp)] at hs
      refine aa (mu:=fun _=>false) ?_
      repeat' (first |refine u1 ?_ |((with_reducible show ai _ _ _ _ _ _ _ _);refine af.call hpk rfl rfl ?_) |refine u2 ?_ |fail)
      exact ⟨k+1,hlt,(by dsimp only;omega),aj.to 0 rfl ⟨rfl,rfl,rfl,by dsimp only;rw [hs];rfl,cK (by simp),trivial⟩ (Nat.zero_le _) rfl rfl⟩
   ·have d1:decide ((k:Int) < ((c.aG.map bp).length:Int))=false:=decide_eq_false (by omega)
    have hkn:k=c.aG.length:=by omega
    subst hkn
    generalize Dp c l i c.aG.length=b at *
    cases eb:decide ((b:Int) < c.least) with
    | true =>
     rw [if_pos (of_decide_eq_true eb)]
     refine aa (mu:=fun _=>false) ?_
     repeat' (first |refine u1 ?_ |refine u2 ?_ |fail)
     exact ⟨[_],⟨Fz.deep rfl,trivial⟩,rfl⟩
    | false =>
     rw [if_neg (of_decide_eq_false eb)]
     refine aa (mu:=fun _=>false) ?_
     repeat' (first |refine u1 ?_ |refine u2 ?_ |fail)
     exact ⟨[_],⟨Fz.deep rfl,trivial⟩,rfl⟩
end Go.Proofs.YtlpmfgmldmdggaaGreat
open Go Go.RM
namespace Go.Proofs.YtlpmfgmldmdggaaGreat
set_option maxRecDepth 100000
set_option maxHeartbeats 4000000
noncomputable def K7:Code:=Ar (Ar (Tryz.f62.body.getD .skip))
noncomputable def LF:Code:=Ar K7
theorem JW (l:List Ev):(l=[]∧aM l=0)∨(1≤l.length∧decide (0 < ((l.map cZ).length:Int))=true∧∃ y1 y2 y3,(l.map cZ)[(((l.map cZ).length:Int) - 1).toNat]?=some [ah (aM l),ah y1,ah y2,ah y3]):=by
 have el:((l.map cZ).length:Int)=l.length:=by simp
 by_cases hz:l.length=0
 ·have:l=[]:=List.length_eq_zero_iff.1 hz
  subst this
  exact .inl ⟨rfl,rfl⟩
 ·right
  refine ⟨by omega,decide_eq_true (by omega),?_⟩
  have hlt:l.length - 1 < l.length:=by omega
  have e1:(((l.map cZ).length:Int) - 1).toNat=l.length - 1:=by omega
  have e2:l.getLast?=some l[l.length - 1]:=by rw [List.getLast?_eq_getElem?,List.getElem?_eq_getElem hlt]
  refine ⟨l[l.length - 1].kind,l[l.length - 1].qT,l[l.length - 1].other,?_⟩
  rw [e1,List.getElem?_map,List.getElem?_eq_getElem hlt]
  unfold aM
  rw [e2]
  rfl
theorem JX (one:Bool) (c:ay) (l:List Ev) (f:Bool) (hl:l.length≤20) (d k m o R:Int)
  (ht:aM l≤d→d≤40000→aC TT TB one Cd ⟨bM [(1,.sl (l.map cZ) f),(3,.pt (aF c) 0),(5,.pt [ah d,ah k,ah m,ah o] 0)],[],bw.none,false,0⟩ (wK TT Tryz.f62.results.toList (ah R))) :
  aC TT TB one LF ⟨bM [(1,.sl (l.map cZ) f),(3,.pt (aF c) 0),(5,.pt [ah d,ah k,ah m,ah o] 0)],[],bw.none,false,0⟩ (wK TT Tryz.f62.results.toList (ah (if ec (aM l) 40000 [d]=true then 7 else R))):=by
 have hmx:l.length≤maxLen:=by simp [maxLen];omega
 have el:((l.map cZ).length:Int)=l.length:=by simp
 have o4:=iH one d (aM l) 40000
 rw [bD]
 show aC TT TB one (.seq (.region _ _ _) (.seq (.seq (.region _ _ _) _) (.seq (.seq (.region _ _ _) _) Cd))) _ _
 rcases JW l with ⟨hz,h9⟩|⟨h1l,d9,y1,y2,y3,h9⟩
 ·have d9:decide (0 < ((l.map cZ).length:Int))=false:=by rw [hz];rfl
  rw [h9] at o4 ht ⊢
  cases e4:lP d 0 40000 with
  | false =>
   rw [e4] at o4
   rw [if_pos (by rfl)]
   refine RM.qK (mu:=fun _=>false) ?_
   repeat' (first |refine u1 ?_ |refine u2 ?_ |fail)
   refine RM.qK (mu:=fun _=>false) ?_
   repeat' (first |refine u1 ?_ |refine u2 ?_ |fail)
   refine RM.qK (mu:=fun _=>false) ?_
   repeat' (first |refine u1 ?_ |((with_reducible show ai _ _ _ _ _ _ _ _);refine af.call o4 rfl rfl ?_) |refine u2 ?_ |fail)
   exact ⟨[_],⟨Fz.deep rfl,trivial⟩,rfl⟩
  | true =>
   rw [e4] at o4
   have b4:=cM.1 e4
   rw [if_neg (by simp)]
   refine RM.qK (mu:=fun _=>false) ?_
   repeat' (first |refine u1 ?_ |refine u2 ?_ |fail)
   refine RM.qK (mu:=fun _=>false) ?_
   repeat' (first |refine u1 ?_ |refine u2 ?_ |fail)
   refine RM.qK (mu:=fun _=>false) ?_
   repeat' (first |refine u1 ?_ |((with_reducible show ai _ _ _ _ _ _ _ _);refine af.call o4 rfl rfl ?_) |refine u2 ?_ |fail)
   refine aC.bx (aj.to (l:=[(1,.sl (l.map cZ) f),(3,.pt (aF c) 0),(5,.pt [ah d,ah k,ah m,ah o] 0)]) (hp:=[]) 0 rfl ⟨rfl,rfl,rfl,trivial⟩ (Nat.zero_le _) rfl rfl) ?_
   exact ht b4.1 b4.2
 ·generalize aM l=eo at *
  cases e4:lP d eo 40000 with
  | false =>
   rw [e4] at o4
   rw [if_pos (by rfl)]
   refine RM.qK (mu:=fun _=>false) ?_
   repeat' (first |refine u1 ?_ |refine u2 ?_ |fail)
   refine RM.qK (mu:=fun _=>false) ?_
   repeat' (first |refine u1 ?_ |(refine ⟨[ah eo,ah y1,ah y2,ah y3],⟨by omega,h9⟩,rfl,?_⟩) |refine u2 ?_ |fail)
   refine RM.qK (mu:=fun _=>false) ?_
   repeat' (first |refine u1 ?_ |((with_reducible show ai _ _ _ _ _ _ _ _);refine af.call o4 rfl rfl ?_) |refine u2 ?_ |fail)
   exact ⟨[_],⟨Fz.deep rfl,trivial⟩,rfl⟩
  | true =>
   rw [e4] at o4
   have b4:=cM.1 e4
   rw [if_neg (by simp)]
   refine RM.qK (mu:=fun _=>false) ?_
   repeat' (first |refine u1 ?_ |refine u2 ?_ |fail)
   refine RM.qK (mu:=fun _=>false) ?_
   repeat' (first |refine u1 ?_ |(refine ⟨[ah eo,ah y1,ah y2,ah y3],⟨by omega,h9⟩,rfl,?_⟩) |refine u2 ?_ |fail)
   refine RM.qK (mu:=fun _=>false) ?_
   repeat' (first |refine u1 ?_ |((with_reducible show ai _ _ _ _ _ _ _ _);refine af.call o4 rfl rfl ?_) |refine u2 ?_ |fail)
   refine aC.bx (aj.to (l:=[(1,.sl (l.map cZ) f),(3,.pt (aF c) 0),(5,.pt [ah d,ah k,ah m,ah o] 0)]) (hp:=[]) 0 rfl ⟨rfl,rfl,rfl,trivial⟩ (Nat.zero_le _) rfl rfl) ?_
   exact ht b4.1 b4.2
theorem JY (one:Bool) (c:ay) (l:List Ev) (f:Bool) (hl:l.length≤20) (_hc5:c.aG.length≤6) (d k m o R:Int)
  (ht:0≤m→m < c.aG.length→0≤o→o < c.aG.length→aM l≤d→d≤40000→aC TT TB one Cd ⟨bM [(1,.sl (l.map cZ) f),(3,.pt (aF c) 0),(5,.pt [ah d,ah k,ah m,ah o] 0)],[],bw.none,false,0⟩ (wK TT Tryz.f62.results.toList (ah R))) :
  aC TT TB one K7 ⟨bM [(1,.sl (l.map cZ) f),(3,.pt (aF c) 0),(5,.pt [ah d,ah k,ah m,ah o] 0)],[],bw.none,false,0⟩ (wK TT Tryz.f62.results.toList (ah (if ec 0 ((c.aG.length:Int) - 1) [m,o]=true then 4 else if ec (aM l) 40000 [d]=true then 7 else R))):=by
 have em:((c.aG.map bp).length:Int)=c.aG.length:=by simp
 have o2:=iH one m 0 (((c.aG.map bp).length:Int) - 1)
 have o3:=iH one o 0 (((c.aG.map bp).length:Int) - 1)
 rw [Ec,←em]
 show aC TT TB one (.seq (.seq (.region _ _ _) _) LF) _ _
 cases e2:lP m 0 (((c.aG.map bp).length:Int) - 1) with
 | false =>
  rw [e2] at o2
  rw [if_pos (by simp)]
  refine RM.qK (mu:=fun _=>false) ?_
  repeat' (first |refine u1 ?_ |((with_reducible show ai _ _ _ _ _ _ _ _);refine af.call o2 rfl rfl ?_) |refine u2 ?_ |fail)
  exact ⟨[_],⟨Fz.deep rfl,trivial⟩,rfl⟩
 | true =>
  rw [e2] at o2
  have b2:=cM.1 e2
  cases e3:lP o 0 (((c.aG.map bp).length:Int) - 1) with
  | false =>
   rw [e3] at o3
   rw [if_pos (by simp)]
   refine RM.qK (mu:=fun _=>false) ?_
   repeat' (first |refine u1 ?_ |((with_reducible show ai _ _ _ _ _ _ _ _);refine af.call o2 rfl rfl ?_) |((with_reducible show ai _ _ _ _ _ _ _ _);refine af.call o3 rfl rfl ?_) |refine u2 ?_ |fail)
   exact ⟨[_],⟨Fz.deep rfl,trivial⟩,rfl⟩
  | true =>
   rw [e3] at o3
   have b3:=cM.1 e3
   rw [if_neg (by simp)]
   refine RM.qK (mu:=fun _=>false) ?_
   repeat' (first |refine u1 ?_ |((with_reducible show ai _ _ _ _ _ _ _ _);refine af.call o2 rfl rfl ?_) |((with_reducible show ai _ _ _ _ _ _ _ _);refine af.call o3 rfl rfl ?_) |refine u2 ?_ |fail)
   refine aC.bx (aj.to (l:=[(1,.sl (l.map cZ) f),(3,.pt (aF c) 0),(5,.pt [ah d,ah k,ah m,ah o] 0)]) (hp:=[]) 0 rfl ⟨rfl,rfl,rfl,trivial⟩ (Nat.zero_le _) rfl rfl) ?_
   exact JX one c l f hl d k m o R (fun h1 h2=>ht b2.1 (by omega) b3.1 (by omega) h1 h2)
theorem G5 (one:Bool) (c:ay) (hg:Good c) (l:List Ev) (f:Bool) (hl:l.length≤20) (hm:iJ l) (x:Ev):Pu one 62 [.ag (aF c),.sl (l.map cZ) f,.ag (cZ x)] (ah (gB c l x)):=by
 have hmx:l.length≤maxLen:=by simp [maxLen];omega
 have hm5:=hg.aG
 have o1:=iH one x.kind 1 5
 obtain ⟨d,k,m,o⟩:=x
 dsimp only at o1
 show Pu one 62 [.ag (aF c),.sl (l.map cZ) f,.ag [ah d,ah k,ah m,ah o]] _
 unfold gB kindOk
 dsimp only
 rw [bD]
 refine af.body (fn:=Tryz.f62) rfl rfl rfl rfl ?_
 show aC TT TB one (.seq (.region _ _ _) (.seq (.seq (.region _ _ _) _) K7)) _ _
 cases e1:lP k 1 5 with
 | false =>
  rw [e1] at o1
  rw [if_pos (by simp)]
  refine RM.qK (mu:=fun _=>false) ?_
  repeat' (first |refine u1 ?_ |refine u2 ?_ |fail)
  refine RM.qK (mu:=fun _=>false) ?_
  repeat' (first |refine u1 ?_ |((with_reducible show ai _ _ _ _ _ _ _ _);refine af.call o1 rfl rfl ?_) |refine u2 ?_ |fail)
  exact ⟨[_],⟨Fz.deep rfl,trivial⟩,rfl⟩
 | true =>
  rw [e1] at o1
  have b1:=cM.1 e1
  have good:∀ K:Int,K=k→(!(!true) && (decide (k=5) && !decide (o=m) || !decide (k=5) && decide (o=0)))=true→aC TT TB one K7 ⟨bM [(1,.sl (l.map cZ) f),(3,.pt (aF c) 0),(5,.pt [ah d,ah k,ah m,ah o] 0)],[],bw.none,false,0⟩ (wK TT Tryz.f62.results.toList (ah (if (!(!true) && (decide (k=5) && !decide (o=m) || !decide (k=5) && decide (o=0)))=false then 2 else if ec 0 ((c.aG.length:Int) - 1) [m,o]=true then 4 else if ec (aM l) 40000 [d]=true then 7 else vb c l ⟨d,k,m,o⟩))):=by
   intro K hK hok
   rw [if_neg (by rw [hok];simp)]
   refine JY one c l f hl (by omega) d k m o _ ?_
   intro h1 h2 h3 h4 h5 h6
   obtain ⟨i,rfl⟩:∃ i:Nat,m=(i:Int):=⟨m.toNat,by omega⟩
   obtain ⟨j,rfl⟩:∃ j:Nat,o=(j:Int):=⟨o.toNat,by omega⟩
   have hin:i < c.aG.length:=by omega
   have hjn:j < c.aG.length:=by omega
   have h7:0≤d:=by
    have:0≤aM l:=by
     unfold aM
     cases hq:l.getLast? with
     | none=>simp
     | some y=>exact (hm.day y (List.mem_of_getLast? hq)).1
    omega
   obtain h|h|h|h|h:k=1∨k=2∨k=3∨k=4∨k=5:=by omega
   ·subst h;exact IJ one c hg l f hl hm hmx i j hin hjn d h7 h6
   ·subst h;exact IE one c l f hmx i j hin hjn d
   ·subst h;exact IF one c l f hmx i j hin hjn d
   ·subst h;exact IG one c l f hmx i j hin hjn d
   ·subst h;exact II one c l f hmx i j hin hjn d
  by_cases h5:k=5
  ·subst h5
   have g1:(!decide ((5:Int)=5))=false:=rfl
   have g1':decide ((5:Int)=5)=true:=rfl
   cases e2:decide (o=m) with
   | true =>
    rw [if_pos (by rfl)]
    refine RM.qK (mu:=fun _=>false) ?_
    repeat' (first |refine u1 ?_ |refine u2 ?_ |fail)
    refine RM.qK (mu:=fun _=>false) ?_
    repeat' (first |refine u1 ?_ |((with_reducible show ai _ _ _ _ _ _ _ _);refine af.call o1 rfl rfl ?_) |refine u2 ?_ |fail)
    exact ⟨[_],⟨Fz.deep rfl,trivial⟩,rfl⟩
   | false =>
    have g:=good 5 rfl (by rw [e2];rfl)
    rw [e2] at g
    refine RM.qK (mu:=fun _=>false) ?_
    repeat' (first |refine u1 ?_ |refine u2 ?_ |fail)
    refine RM.qK (mu:=fun _=>false) ?_
    repeat' (first |refine u1 ?_ |((with_reducible show ai _ _ _ _ _ _ _ _);refine af.call o1 rfl rfl ?_) |refine u2 ?_ |fail)
    refine aC.bx (aj.to (l:=[(1,.sl (l.map cZ) f),(3,.pt (aF c) 0),(5,.pt [ah d,ah 5,ah m,ah o] 0)]) (hp:=[]) 0 rfl ⟨rfl,rfl,rfl,trivial⟩ (Nat.zero_le _) rfl rfl) ?_
    exact g
  ·have d5:=decide_eq_false h5
   have g1:(!decide (k=5))=true:=by rw [d5];rfl
   rw [d5] at good ⊢
   cases e2:decide (o=0) with
   | false =>
    have g2:(!decide (o=0))=true:=by rw [e2];rfl
    rw [if_pos (by simp)]
    refine RM.qK (mu:=fun _=>false) ?_
    repeat' (first |refine u1 ?_ |refine u2 ?_ |fail)
    refine RM.qK (mu:=fun _=>false) ?_
    repeat' (first |refine u1 ?_ |((with_reducible show ai _ _ _ _ _ _ _ _);refine af.call o1 rfl rfl ?_) |refine u2 ?_ |fail)
    exact ⟨[_],⟨Fz.deep rfl,trivial⟩,rfl⟩
   | true =>
    have g2:(!decide (o=0))=false:=by rw [e2];rfl
    have g:=good k rfl (by rw [e2];simp)
    rw [e2] at g
    refine RM.qK (mu:=fun _=>false) ?_
    repeat' (first |refine u1 ?_ |refine u2 ?_ |fail)
    refine RM.qK (mu:=fun _=>false) ?_
    repeat' (first |refine u1 ?_ |((with_reducible show ai _ _ _ _ _ _ _ _);refine af.call o1 rfl rfl ?_) |refine u2 ?_ |fail)
    refine aC.bx (aj.to (l:=[(1,.sl (l.map cZ) f),(3,.pt (aF c) 0),(5,.pt [ah d,ah k,ah m,ah o] 0)]) (hp:=[]) 0 rfl ⟨rfl,rfl,rfl,trivial⟩ (Nat.zero_le _) rfl rfl) ?_
    exact g
end Go.Proofs.YtlpmfgmldmdggaaGreat
