/-
  Contracts of the program's functions and of the document's. Lemmas alone; their conditions stand in them.
-/
import Derived.Test.YtlpmfgmldmdggaaGreatK8
open Go Go.RM
namespace Go.Proofs.YtlpmfgmldmdggaaGreat
set_option maxRecDepth 100000
set_option maxHeartbeats 4000000
def aJ (l:List Ev):Int:=match l.getLast? with
 | some x=>x.day
 | none=>0
def Bj (c:ay) (l:List Ev) (i k:Nat):Nat:=(List.range k).countP fun j=>!decide (j=i) && decide (aB c l j=0)
theorem FP (c:ay) (l:List Ev) (i k:Nat):Bj c l i (k+1)=Bj c l i k+if (!decide (k=i) && decide (aB c l k=0))=true then 1 else 0:=by
 unfold Bj
 rw [List.range_succ,List.countP_append,List.countP_cons,List.countP_nil,Nat.zero_add]
theorem Ip (c:ay) (l:List Ev) (i k:Nat):Bj c l i k≤k:=by
 unfold Bj
 have:=List.countP_le_length (p:=fun j=>!decide (j=i) && decide (aB c l j=0)) (l:=List.range k)
 rwa [List.length_range] at this
def uo (c:ay) (l:List Ev) (x:Ev):Int :=
 if x.kind=3 then (if aB c l x.qp.toNat=2 then 9 else 0)
 else if aB c l x.qp.toNat ≠ nq x.kind then 9
 else if x.kind=5 then (if aB c l x.other.toNat=1 then 0 else 9)
 else if x.kind=1 then (if (sP c l x.qp.toNat x.day).gI < 1000 then 9 else if (Bj c l x.qp.toNat c.aO.length:Int) < c.least then 8 else 0)
 else 0
def fk (c:ay) (l:List Ev) (x:Ev):Int :=
 if kindOk x=false then 2
 else if dR 0 ((c.aO.length:Int) - 1) [x.qp,x.other]=true then 4
 else if dR (aJ l) 40000 [x.day]=true then 7
 else uo c l x
def zy:Code→Code
 | .seq _ b=>b
 | x=>x
noncomputable def Bk:Code:=zy (zy (zy (zy (zy (zy (Tryz.f62.body.getD .skip))))))
theorem G4 (one:Bool) (c:ay) (l:List Ev) (f:Bool) (hmx:l.length≤maxLen) (i j:Nat) (hin:i < c.aO.length) (hjn:j < c.aO.length) (d:Int):aL TT TB one Bk ⟨cz [(1,.sl (l.map cO) f),(3,.pt (aX c) 0),(5,.pt [aj d,aj 2,aj (i:Int),aj (j:Int)] 0)],[],bF.none,false,0⟩ (vF TT Tryz.f62.results.toList (aj (uo c l ⟨d,2,(i:Int),(j:Int)⟩))):=by
 have hp1:=sN true c l f hmx i hin
 have hp2:=sN one c l f hmx j hjn
 have hw:Pu true 106 [aj 2] (aj (1)):=oE true 2
 have f1:decide ((1:Int) < 0)=false:=rfl
 have f2:decide ((0:Int)≤(1:Int))=true:=rfl
 have f3:decide ((2:Int)=5)=false:=rfl
 have f4:(!decide ((2:Int)=1))=true:=rfl
 unfold uo
 dsimp only
 rw [Int.toNat_natCast]
 rw [if_neg (by decide),show nq 2=1 from rfl]
 generalize aB c l i=p at *
 cases ep:decide (p=1) with
 | false =>
  have ep':(!decide (p=1))=true:=by rw [ep];rfl
  rw [if_pos (of_decide_eq_false ep)]
  refine aa (mu:=fun _=>false) ?_
  show kr _ _ _ _ (.seq (.region _ _ true) _) _ _
  repeat' (first |refine u1 ?_ |(refine ⟨_,_,.inl ⟨rfl,rfl⟩,hp1,?_⟩) |(refine ⟨_,_,.inl ⟨rfl,rfl⟩,hw,?_⟩) |((with_reducible show ah _ _ _ _ _ _ _ _);refine af.call hp2 rfl rfl ?_) |refine u2 ?_ |fail)
  exact ⟨[_],⟨Fz.deep rfl,trivial⟩,rfl⟩
 | true =>
  have ep':(!decide (p=1))=false:=by rw [ep];rfl
  have ep2:=of_decide_eq_true ep
  rw [if_neg (fun h=>h ep2)]
  rw [if_neg (by decide),if_neg (by decide)]
  refine aa (mu:=fun _=>false) ?_
  show kr _ _ _ _ (.seq (.region _ _ true) _) _ _
  repeat' (first |refine u1 ?_ |(refine ⟨_,_,.inl ⟨rfl,rfl⟩,hp1,?_⟩) |(refine ⟨_,_,.inl ⟨rfl,rfl⟩,hw,?_⟩) |((with_reducible show ah _ _ _ _ _ _ _ _);refine af.call hp2 rfl rfl ?_) |refine u2 ?_ |fail)
  exact ⟨[_],⟨Fz.deep rfl,trivial⟩,rfl⟩
theorem G5 (one:Bool) (c:ay) (l:List Ev) (f:Bool) (hmx:l.length≤maxLen) (i j:Nat) (hin:i < c.aO.length) (hjn:j < c.aO.length) (d:Int):aL TT TB one Bk ⟨cz [(1,.sl (l.map cO) f),(3,.pt (aX c) 0),(5,.pt [aj d,aj 3,aj (i:Int),aj (j:Int)] 0)],[],bF.none,false,0⟩ (vF TT Tryz.f62.results.toList (aj (uo c l ⟨d,3,(i:Int),(j:Int)⟩))):=by
 have hp1:=sN true c l f hmx i hin
 have hp2:=sN one c l f hmx j hjn
 have hw:Pu true 106 [aj 3] (aj (-1)):=oE true 3
 have f1:decide ((-1:Int) < 0)=true:=rfl
 have f2:decide ((0:Int)≤(-1:Int))=false:=rfl
 have f3:decide ((3:Int)=5)=false:=rfl
 have f4:(!decide ((3:Int)=1))=true:=rfl
 unfold uo
 dsimp only
 rw [Int.toNat_natCast]
 rw [if_pos rfl]
 generalize aB c l i=p at *
 cases ep:decide (p=2) with
 | true =>
  rw [if_pos (of_decide_eq_true ep)]
  refine aa (mu:=fun _=>false) ?_
  show kr _ _ _ _ (.seq (.region _ _ true) _) _ _
  repeat' (first |refine u1 ?_ |(refine ⟨_,_,.inl ⟨rfl,rfl⟩,hp1,?_⟩) |(refine ⟨_,_,.inl ⟨rfl,rfl⟩,hw,?_⟩) |((with_reducible show ah _ _ _ _ _ _ _ _);refine af.call hp2 rfl rfl ?_) |refine u2 ?_ |fail)
  exact ⟨[_],⟨Fz.deep rfl,trivial⟩,rfl⟩
 | false =>
  rw [if_neg (of_decide_eq_false ep)]
  refine aa (mu:=fun _=>false) ?_
  show kr _ _ _ _ (.seq (.region _ _ true) _) _ _
  repeat' (first |refine u1 ?_ |(refine ⟨_,_,.inl ⟨rfl,rfl⟩,hp1,?_⟩) |(refine ⟨_,_,.inl ⟨rfl,rfl⟩,hw,?_⟩) |((with_reducible show ah _ _ _ _ _ _ _ _);refine af.call hp2 rfl rfl ?_) |refine u2 ?_ |fail)
  exact ⟨[_],⟨Fz.deep rfl,trivial⟩,rfl⟩
theorem G6 (one:Bool) (c:ay) (l:List Ev) (f:Bool) (hmx:l.length≤maxLen) (i j:Nat) (hin:i < c.aO.length) (hjn:j < c.aO.length) (d:Int):aL TT TB one Bk ⟨cz [(1,.sl (l.map cO) f),(3,.pt (aX c) 0),(5,.pt [aj d,aj 4,aj (i:Int),aj (j:Int)] 0)],[],bF.none,false,0⟩ (vF TT Tryz.f62.results.toList (aj (uo c l ⟨d,4,(i:Int),(j:Int)⟩))):=by
 have hp1:=sN true c l f hmx i hin
 have hp2:=sN one c l f hmx j hjn
 have hw:Pu true 106 [aj 4] (aj (2)):=oE true 4
 have f1:decide ((2:Int) < 0)=false:=rfl
 have f2:decide ((0:Int)≤(2:Int))=true:=rfl
 have f3:decide ((4:Int)=5)=false:=rfl
 have f4:(!decide ((4:Int)=1))=true:=rfl
 unfold uo
 dsimp only
 rw [Int.toNat_natCast]
 rw [if_neg (by decide),show nq 4=2 from rfl]
 generalize aB c l i=p at *
 cases ep:decide (p=2) with
 | false =>
  have ep':(!decide (p=2))=true:=by rw [ep];rfl
  rw [if_pos (of_decide_eq_false ep)]
  refine aa (mu:=fun _=>false) ?_
  show kr _ _ _ _ (.seq (.region _ _ true) _) _ _
  repeat' (first |refine u1 ?_ |(refine ⟨_,_,.inl ⟨rfl,rfl⟩,hp1,?_⟩) |(refine ⟨_,_,.inl ⟨rfl,rfl⟩,hw,?_⟩) |((with_reducible show ah _ _ _ _ _ _ _ _);refine af.call hp2 rfl rfl ?_) |refine u2 ?_ |fail)
  exact ⟨[_],⟨Fz.deep rfl,trivial⟩,rfl⟩
 | true =>
  have ep':(!decide (p=2))=false:=by rw [ep];rfl
  have ep2:=of_decide_eq_true ep
  rw [if_neg (fun h=>h ep2)]
  rw [if_neg (by decide),if_neg (by decide)]
  refine aa (mu:=fun _=>false) ?_
  show kr _ _ _ _ (.seq (.region _ _ true) _) _ _
  repeat' (first |refine u1 ?_ |(refine ⟨_,_,.inl ⟨rfl,rfl⟩,hp1,?_⟩) |(refine ⟨_,_,.inl ⟨rfl,rfl⟩,hw,?_⟩) |((with_reducible show ah _ _ _ _ _ _ _ _);refine af.call hp2 rfl rfl ?_) |refine u2 ?_ |fail)
  exact ⟨[_],⟨Fz.deep rfl,trivial⟩,rfl⟩
theorem G7 (one:Bool) (c:ay) (l:List Ev) (f:Bool) (hmx:l.length≤maxLen) (i j:Nat) (hin:i < c.aO.length) (hjn:j < c.aO.length) (d:Int):aL TT TB one Bk ⟨cz [(1,.sl (l.map cO) f),(3,.pt (aX c) 0),(5,.pt [aj d,aj 5,aj (i:Int),aj (j:Int)] 0)],[],bF.none,false,0⟩ (vF TT Tryz.f62.results.toList (aj (uo c l ⟨d,5,(i:Int),(j:Int)⟩))):=by
 have hp1:=sN true c l f hmx i hin
 have hp2:=sN one c l f hmx j hjn
 have hw:Pu true 106 [aj 5] (aj (0)):=oE true 5
 have f1:decide ((0:Int) < 0)=false:=rfl
 have f2:decide ((0:Int)≤(0:Int))=true:=rfl
 have f3:decide ((5:Int)=5)=true:=rfl
 have f4:(!decide ((5:Int)=1))=true:=rfl
 unfold uo
 dsimp only
 rw [Int.toNat_natCast]
 rw [if_neg (by decide),show nq 5=0 from rfl]
 rw [Int.toNat_natCast]
 generalize aB c l j=q at *
 generalize aB c l i=p at *
 cases ep:decide (p=0) with
 | false =>
  have ep':(!decide (p=0))=true:=by rw [ep];rfl
  rw [if_pos (of_decide_eq_false ep)]
  refine aa (mu:=fun _=>false) ?_
  show kr _ _ _ _ (.seq (.region _ _ true) _) _ _
  repeat' (first |refine u1 ?_ |(refine ⟨_,_,.inl ⟨rfl,rfl⟩,hp1,?_⟩) |(refine ⟨_,_,.inl ⟨rfl,rfl⟩,hw,?_⟩) |((with_reducible show ah _ _ _ _ _ _ _ _);refine af.call hp2 rfl rfl ?_) |refine u2 ?_ |fail)
  exact ⟨[_],⟨Fz.deep rfl,trivial⟩,rfl⟩
 | true =>
  have ep':(!decide (p=0))=false:=by rw [ep];rfl
  have ep2:=of_decide_eq_true ep
  rw [if_neg (fun h=>h ep2)]
  rw [if_pos rfl]
  cases eq:decide (q=1) with
  | true =>
   have eq':(!decide (q=1))=false:=by rw [eq];rfl
   rw [if_pos (of_decide_eq_true eq)]
   refine aa (mu:=fun _=>false) ?_
   show kr _ _ _ _ (.seq (.region _ _ true) _) _ _
   repeat' (first |refine u1 ?_ |(refine ⟨_,_,.inl ⟨rfl,rfl⟩,hp1,?_⟩) |(refine ⟨_,_,.inl ⟨rfl,rfl⟩,hw,?_⟩) |((with_reducible show ah _ _ _ _ _ _ _ _);refine af.call hp2 rfl rfl ?_) |refine u2 ?_ |fail)
   exact ⟨[_],⟨Fz.deep rfl,trivial⟩,rfl⟩
  | false =>
   have eq':(!decide (q=1))=true:=by rw [eq];rfl
   rw [if_neg (of_decide_eq_false eq)]
   refine aa (mu:=fun _=>false) ?_
   show kr _ _ _ _ (.seq (.region _ _ true) _) _ _
   repeat' (first |refine u1 ?_ |(refine ⟨_,_,.inl ⟨rfl,rfl⟩,hp1,?_⟩) |(refine ⟨_,_,.inl ⟨rfl,rfl⟩,hw,?_⟩) |((with_reducible show ah _ _ _ _ _ _ _ _);refine af.call hp2 rfl rfl ?_) |refine u2 ?_ |fail)
   exact ⟨[_],⟨Fz.deep rfl,trivial⟩,rfl⟩
theorem G8 (one:Bool) (c:ay) (hg:Good c) (l:List Ev) (f:Bool) (hl:l.length≤20) (hm:jc l) (hmx:l.length≤maxLen) (i j:Nat) (hin:i < c.aO.length) (hjn:j < c.aO.length) (d:Int) (h0:0≤d) (h4:d≤40000):aL TT TB one Bk ⟨cz [(1,.sl (l.map cO) f),(3,.pt (aX c) 0),(5,.pt [aj d,aj 1,aj (i:Int),aj (j:Int)] 0)],[],bF.none,false,0⟩ (vF TT Tryz.f62.results.toList (aj (uo c l ⟨d,1,(i:Int),(j:Int)⟩))):=by
 have em:((c.aO.map bG).length:Int)=c.aO.length:=by simp
 have hm5:=hg.aO
 have hp1:=sN true c l f hmx i hin
 have hp2:=sN one c l f hmx j hjn
 have hw:Pu true 106 [aj 1] (aj 0):=oE true 1
 have f1:decide ((0:Int) < 0)=false:=rfl
 have f2:decide ((0:Int)≤(0:Int))=true:=rfl
 have f3:decide ((1:Int)=5)=false:=rfl
 have f4:(!decide ((1:Int)=1))=false:=rfl
 have hac:=D4 one c hg l f hl hm i hin d h0 h4
 have hpl:∀ j,j < c.aO.length→Pu one 44 [.ag (aX c),.sl (l.map cO) f,aj (j:Int)] (aj (aB c l j)):=fun j hj=>sN one c l f hmx j hj
 unfold uo
 dsimp only
 rw [Int.toNat_natCast]
 rw [if_neg (by decide),show nq 1=0 from rfl]
 obtain ⟨p,hpp⟩:∃ p,p=aB c l i:=⟨_,rfl⟩
 rw [←hpp] at hp1 ⊢
 clear hpp
 cases ep:decide (p=0) with
 | false =>
  have ep':(!decide (p=0))=true:=by rw [ep];rfl
  rw [if_pos (of_decide_eq_false ep)]
  refine aa (mu:=fun _=>false) ?_
  show kr _ _ _ _ (.seq (.region _ _ true) _) _ _
  repeat' (first |refine u1 ?_ |(refine ⟨_,_,.inl ⟨rfl,rfl⟩,hp1,?_⟩) |(refine ⟨_,_,.inl ⟨rfl,rfl⟩,hw,?_⟩) |((with_reducible show ah _ _ _ _ _ _ _ _);refine af.call hp2 rfl rfl ?_) |refine u2 ?_ |fail)
  exact ⟨[_],⟨Fz.deep rfl,trivial⟩,rfl⟩
 | true =>
  have ep':(!decide (p=0))=false:=by rw [ep];rfl
  have ep2:=of_decide_eq_true ep
  rw [if_neg (fun h=>h ep2)]
  rw [if_neg (by decide),if_pos rfl]
  obtain ⟨A,hA⟩:∃ A,A=sP c l i d:=⟨_,rfl⟩
  rw [←hA] at hac ⊢
  clear hA
  obtain ⟨ap,ao,a0,a1,a2⟩:=A
  dsimp only
  have hac:Pu one 65 [.ag (aX c),.sl (l.map cO) f,aj (i:Int),aj d] (.ag [aj ap,aj ao,aj a0,aj a1,aj a2]):=hac
  cases ea:decide (ao < 1000) with
  | true =>
   rw [if_pos (of_decide_eq_true ea)]
   refine aa (mu:=fun _=>false) ?_
   show kr _ _ _ _ (.seq (.region _ _ true) _) _ _
   repeat' (first |refine u1 ?_ |(refine ⟨_,_,.inl ⟨rfl,rfl⟩,hp1,?_⟩) |(refine ⟨_,_,.inl ⟨rfl,rfl⟩,hw,?_⟩) |((with_reducible show ah _ _ _ _ _ _ _ _);refine af.call hp2 rfl rfl ?_) |((with_reducible show ah _ _ _ _ _ _ _ _);refine af.call hac rfl rfl ?_) |refine u2 ?_ |fail)
   exact ⟨[_],⟨Fz.deep rfl,trivial⟩,rfl⟩
  | false =>
   rw [if_neg (of_decide_eq_false ea)]
   refine aa (mu:=fun _=>false) ?_
   show kr _ _ _ _ (.seq (.region _ _ true) _) _ _
   repeat' (first |refine u1 ?_ |(refine ⟨_,_,.inl ⟨rfl,rfl⟩,hp1,?_⟩) |(refine ⟨_,_,.inl ⟨rfl,rfl⟩,hw,?_⟩) |((with_reducible show ah _ _ _ _ _ _ _ _);refine af.call hp2 rfl rfl ?_) |((with_reducible show ah _ _ _ _ _ _ _ _);refine af.call hac rfl rfl ?_) |refine u2 ?_ |fail)
   obtain ⟨o,ho⟩:∃ o:Int,o=(j:Int):=⟨_,rfl⟩
   rw [←ho]
   clear hac hp1 hp2 hw
   refine aL.cr (ai.to (l:=[(1,.sl (l.map cO) f),(3,.pt (aX c) 0),(5,.pt [aj d,aj 1,aj (i:Int),aj o] 0),(10,aj (Bj c l i 0:Int)),(11,aj (0:Nat))]) (hp:=[]) 0 rfl ⟨rfl,rfl,(by rw [ho];rfl),rfl,rfl,trivial⟩ (Nat.zero_le _) rfl rfl) ?_
   refine aL.loop (fun k:Nat=>k≤c.aO.length) (fun k=>⟨cz [(1,.sl (l.map cO) f),(3,.pt (aX c) 0),(5,.pt [aj d,aj 1,aj (i:Int),aj o] 0),(10,aj (Bj c l i k:Int)),(11,aj (k:Nat))],[],bF.none,false,0⟩) (fun k=>c.aO.length - k) ?_ 0 (Nat.zero_le _)
   intro k hk
   have hbk:=Ip c l i k
   by_cases hlt:k < c.aO.length
   ·have d1:decide ((k:Int) < ((c.aO.map bG).length:Int))=true:=decide_eq_true (by omega)
    have hpk:=hpl k hlt
    have hs:=FP c l i k
    generalize aB c l k=w at *
    cases ek:decide (k=i) with
    | true =>
     have ek':(!decide ((k:Int)=(i:Int)))=false:=by rw [decide_eq_true (by have:=of_decide_eq_true ek;omega)];rfl
     rw [ek] at hs
     rw [if_neg (by simp)] at hs
     refine aa (mu:=fun _=>false) ?_
     repeat' (first |refine u1 ?_ |((with_reducible show ah _ _ _ _ _ _ _ _);refine af.call hpk rfl rfl ?_) |refine u2 ?_ |fail)
     exact ⟨k+1,hlt,(by dsimp only;omega),ai.to 0 rfl ⟨rfl,rfl,rfl,by dsimp only;rw [hs];rfl,cZ (by simp),trivial⟩ (Nat.zero_le _) rfl rfl⟩
    | false =>
     have ek':(!decide ((k:Int)=(i:Int)))=true:=by rw [decide_eq_false (by have:=of_decide_eq_false ek;omega)];rfl
     rw [ek] at hs
     cases ew:decide (w=0) with
     | true =>
      rw [ew,if_pos (by rfl)] at hs
      refine aa (mu:=fun _=>false) ?_
      repeat' (first |refine u1 ?_ |((with_reducible show ah _ _ _ _ _ _ _ _);refine af.call hpk rfl rfl ?_) |refine u2 ?_ |fail)
      exact ⟨k+1,hlt,(by dsimp only;omega),ai.to 0 rfl ⟨rfl,rfl,rfl,cZ (by rw [hs];simp),cZ (by simp),trivial⟩ (Nat.zero_le _) rfl rfl⟩
     | false =>
      rw [ew,if_neg (by simp)] at hs
      refine aa (mu:=fun _=>false) ?_
      repeat' (first |refine u1 ?_ |((with_reducible show ah _ _ _ _ _ _ _ _);refine af.call hpk rfl rfl ?_) |refine u2 ?_ |fail)
      exact ⟨k+1,hlt,(by dsimp only;omega),ai.to 0 rfl ⟨rfl,rfl,rfl,by dsimp only;rw [hs];rfl,cZ (by simp),trivial⟩ (Nat.zero_le _) rfl rfl⟩
   ·have d1:decide ((k:Int) < ((c.aO.map bG).length:Int))=false:=decide_eq_false (by omega)
    have hkn:k=c.aO.length:=by omega
    subst hkn
    generalize Bj c l i c.aO.length=b at *
    cases eb:decide ((b:Int) < c.least) with
    | true =>
     rw [if_pos (of_decide_eq_true eb)]
     refine aa (mu:=fun _=>false) ?_
     repeat' (first |refine u1 ?_ |refine u2 ?_ |fail)
     exact ⟨[_],⟨Fz.deep rfl,trivial⟩,rfl⟩
    | false =>
     rw [if_neg (of_decide_eq_false eb)]
     refine aa (mu:=fun _=>false) ?_
     repeat' (first |refine u1 ?_ |refine u2 ?_ |fail)
     exact ⟨[_],⟨Fz.deep rfl,trivial⟩,rfl⟩
end Go.Proofs.YtlpmfgmldmdggaaGreat
open Go Go.RM
namespace Go.Proofs.YtlpmfgmldmdggaaGreat
set_option maxRecDepth 100000
set_option maxHeartbeats 4000000
noncomputable def Jx:Code:=zy (zy (Tryz.f62.body.getD .skip))
noncomputable def JY:Code:=zy Jx
theorem Iq (l:List Ev):(l=[]∧aJ l=0)∨(1≤l.length∧decide (0 < ((l.map cO).length:Int))=true∧∃ y1 y2 y3,(l.map cO)[(((l.map cO).length:Int) - 1).toNat]?=some [aj (aJ l),aj y1,aj y2,aj y3]):=by
 have el:((l.map cO).length:Int)=l.length:=by simp
 by_cases hz:l.length=0
 ·have:l=[]:=List.length_eq_zero_iff.1 hz
  subst this
  exact .inl ⟨rfl,rfl⟩
 ·right
  refine ⟨by omega,decide_eq_true (by omega),?_⟩
  have hlt:l.length - 1 < l.length:=by omega
  have e1:(((l.map cO).length:Int) - 1).toNat=l.length - 1:=by omega
  have e2:l.getLast?=some l[l.length - 1]:=by rw [List.getLast?_eq_getElem?,List.getElem?_eq_getElem hlt]
  refine ⟨l[l.length - 1].kind,l[l.length - 1].qp,l[l.length - 1].other,?_⟩
  rw [e1,List.getElem?_map,List.getElem?_eq_getElem hlt]
  unfold aJ
  rw [e2]
  rfl
theorem Ir (one:Bool) (c:ay) (l:List Ev) (f:Bool) (hl:l.length≤20) (d k m o R:Int)
  (ht:aJ l≤d→d≤40000→aL TT TB one Bk ⟨cz [(1,.sl (l.map cO) f),(3,.pt (aX c) 0),(5,.pt [aj d,aj k,aj m,aj o] 0)],[],bF.none,false,0⟩ (vF TT Tryz.f62.results.toList (aj R))) :
  aL TT TB one JY ⟨cz [(1,.sl (l.map cO) f),(3,.pt (aX c) 0),(5,.pt [aj d,aj k,aj m,aj o] 0)],[],bF.none,false,0⟩ (vF TT Tryz.f62.results.toList (aj (if dR (aJ l) 40000 [d]=true then 7 else R))):=by
 have hmx:l.length≤maxLen:=by simp [maxLen];omega
 have el:((l.map cO).length:Int)=l.length:=by simp
 have o4:=i6 one d (aJ l) 40000
 rw [bp]
 show aL TT TB one (.seq (.region _ _ _) (.seq (.seq (.region _ _ _) _) (.seq (.seq (.region _ _ _) _) Bk))) _ _
 rcases Iq l with ⟨hz,h9⟩|⟨h1l,d9,y1,y2,y3,h9⟩
 ·have d9:decide (0 < ((l.map cO).length:Int))=false:=by rw [hz];rfl
  rw [h9] at o4 ht ⊢
  cases e4:kS d 0 40000 with
  | false =>
   rw [e4] at o4
   rw [if_pos (by rfl)]
   refine RM.qk (mu:=fun _=>false) ?_
   repeat' (first |refine u1 ?_ |refine u2 ?_ |fail)
   refine RM.qk (mu:=fun _=>false) ?_
   repeat' (first |refine u1 ?_ |refine u2 ?_ |fail)
   refine RM.qk (mu:=fun _=>false) ?_
   repeat' (first |refine u1 ?_ |((with_reducible show ah _ _ _ _ _ _ _ _);refine af.call o4 rfl rfl ?_) |refine u2 ?_ |fail)
   exact ⟨[_],⟨Fz.deep rfl,trivial⟩,rfl⟩
  | true =>
   rw [e4] at o4
   have b4:=bL.1 e4
   rw [if_neg (by simp)]
   refine RM.qk (mu:=fun _=>false) ?_
   repeat' (first |refine u1 ?_ |refine u2 ?_ |fail)
   refine RM.qk (mu:=fun _=>false) ?_
   repeat' (first |refine u1 ?_ |refine u2 ?_ |fail)
   refine RM.qk (mu:=fun _=>false) ?_
   repeat' (first |refine u1 ?_ |((with_reducible show ah _ _ _ _ _ _ _ _);refine af.call o4 rfl rfl ?_) |refine u2 ?_ |fail)
   refine aL.cr (ai.to (l:=[(1,.sl (l.map cO) f),(3,.pt (aX c) 0),(5,.pt [aj d,aj k,aj m,aj o] 0)]) (hp:=[]) 0 rfl ⟨rfl,rfl,rfl,trivial⟩ (Nat.zero_le _) rfl rfl) ?_
   exact ht b4.1 b4.2
 ·generalize aJ l=dW at *
  cases e4:kS d dW 40000 with
  | false =>
   rw [e4] at o4
   rw [if_pos (by rfl)]
   refine RM.qk (mu:=fun _=>false) ?_
   repeat' (first |refine u1 ?_ |refine u2 ?_ |fail)
   refine RM.qk (mu:=fun _=>false) ?_
   repeat' (first |refine u1 ?_ |(refine ⟨[aj dW,aj y1,aj y2,aj y3],⟨by omega,h9⟩,rfl,?_⟩) |refine u2 ?_ |fail)
   refine RM.qk (mu:=fun _=>false) ?_
   repeat' (first |refine u1 ?_ |((with_reducible show ah _ _ _ _ _ _ _ _);refine af.call o4 rfl rfl ?_) |refine u2 ?_ |fail)
   exact ⟨[_],⟨Fz.deep rfl,trivial⟩,rfl⟩
  | true =>
   rw [e4] at o4
   have b4:=bL.1 e4
   rw [if_neg (by simp)]
   refine RM.qk (mu:=fun _=>false) ?_
   repeat' (first |refine u1 ?_ |refine u2 ?_ |fail)
   refine RM.qk (mu:=fun _=>false) ?_
   repeat' (first |refine u1 ?_ |(refine ⟨[aj dW,aj y1,aj y2,aj y3],⟨by omega,h9⟩,rfl,?_⟩) |refine u2 ?_ |fail)
   refine RM.qk (mu:=fun _=>false) ?_
   repeat' (first |refine u1 ?_ |((with_reducible show ah _ _ _ _ _ _ _ _);refine af.call o4 rfl rfl ?_) |refine u2 ?_ |fail)
   refine aL.cr (ai.to (l:=[(1,.sl (l.map cO) f),(3,.pt (aX c) 0),(5,.pt [aj d,aj k,aj m,aj o] 0)]) (hp:=[]) 0 rfl ⟨rfl,rfl,rfl,trivial⟩ (Nat.zero_le _) rfl rfl) ?_
   exact ht b4.1 b4.2
theorem Is (one:Bool) (c:ay) (l:List Ev) (f:Bool) (hl:l.length≤20) (_hc5:c.aO.length≤6) (d k m o R:Int)
  (ht:0≤m→m < c.aO.length→0≤o→o < c.aO.length→aJ l≤d→d≤40000→aL TT TB one Bk ⟨cz [(1,.sl (l.map cO) f),(3,.pt (aX c) 0),(5,.pt [aj d,aj k,aj m,aj o] 0)],[],bF.none,false,0⟩ (vF TT Tryz.f62.results.toList (aj R))) :
  aL TT TB one Jx ⟨cz [(1,.sl (l.map cO) f),(3,.pt (aX c) 0),(5,.pt [aj d,aj k,aj m,aj o] 0)],[],bF.none,false,0⟩ (vF TT Tryz.f62.results.toList (aj (if dR 0 ((c.aO.length:Int) - 1) [m,o]=true then 4 else if dR (aJ l) 40000 [d]=true then 7 else R))):=by
 have em:((c.aO.map bG).length:Int)=c.aO.length:=by simp
 have o2:=i6 one m 0 (((c.aO.map bG).length:Int) - 1)
 have o3:=i6 one o 0 (((c.aO.map bG).length:Int) - 1)
 rw [Bd,←em]
 show aL TT TB one (.seq (.seq (.region _ _ _) _) JY) _ _
 cases e2:kS m 0 (((c.aO.map bG).length:Int) - 1) with
 | false =>
  rw [e2] at o2
  rw [if_pos (by simp)]
  refine RM.qk (mu:=fun _=>false) ?_
  repeat' (first |refine u1 ?_ |((with_reducible show ah _ _ _ _ _ _ _ _);refine af.call o2 rfl rfl ?_) |refine u2 ?_ |fail)
  exact ⟨[_],⟨Fz.deep rfl,trivial⟩,rfl⟩
 | true =>
  rw [e2] at o2
  have b2:=bL.1 e2
  cases e3:kS o 0 (((c.aO.map bG).length:Int) - 1) with
  | false =>
   rw [e3] at o3
   rw [if_pos (by simp)]
   refine RM.qk (mu:=fun _=>false) ?_
   repeat' (first |refine u1 ?_ |((with_reducible show ah _ _ _ _ _ _ _ _);refine af.call o2 rfl rfl ?_) |((with_reducible show ah _ _ _ _ _ _ _ _);refine af.call o3 rfl rfl ?_) |refine u2 ?_ |fail)
   exact ⟨[_],⟨Fz.deep rfl,trivial⟩,rfl⟩
  | true =>
   rw [e3] at o3
   have b3:=bL.1 e3
   rw [if_neg (by simp)]
   refine RM.qk (mu:=fun _=>false) ?_
   repeat' (first |refine u1 ?_ |((with_reducible show ah _ _ _ _ _ _ _ _);refine af.call o2 rfl rfl ?_) |((with_reducible show ah _ _ _ _ _ _ _ _);refine af.call o3 rfl rfl ?_) |refine u2 ?_ |fail)
   refine aL.cr (ai.to (l:=[(1,.sl (l.map cO) f),(3,.pt (aX c) 0),(5,.pt [aj d,aj k,aj m,aj o] 0)]) (hp:=[]) 0 rfl ⟨rfl,rfl,rfl,trivial⟩ (Nat.zero_le _) rfl rfl) ?_
   exact Ir one c l f hl d k m o R (fun h1 h2=>ht b2.1 (by omega) b3.1 (by omega) h1 h2)
theorem FQ (one:Bool) (c:ay) (hg:Good c) (l:List Ev) (f:Bool) (hl:l.length≤20) (hm:jc l) (x:Ev):Pu one 62 [.ag (aX c),.sl (l.map cO) f,.ag (cO x)] (aj (fk c l x)):=by
 have hmx:l.length≤maxLen:=by simp [maxLen];omega
 have hm5:=hg.aO
 have o1:=i6 one x.kind 1 5
 obtain ⟨d,k,m,o⟩:=x
 dsimp only at o1
 show Pu one 62 [.ag (aX c),.sl (l.map cO) f,.ag [aj d,aj k,aj m,aj o]] _
 unfold fk kindOk
 dsimp only
 rw [bp]
 refine af.body (fn:=Tryz.f62) rfl rfl rfl rfl ?_
 show aL TT TB one (.seq (.region _ _ _) (.seq (.seq (.region _ _ _) _) Jx)) _ _
 cases e1:kS k 1 5 with
 | false =>
  rw [e1] at o1
  rw [if_pos (by simp)]
  refine RM.qk (mu:=fun _=>false) ?_
  repeat' (first |refine u1 ?_ |refine u2 ?_ |fail)
  refine RM.qk (mu:=fun _=>false) ?_
  repeat' (first |refine u1 ?_ |((with_reducible show ah _ _ _ _ _ _ _ _);refine af.call o1 rfl rfl ?_) |refine u2 ?_ |fail)
  exact ⟨[_],⟨Fz.deep rfl,trivial⟩,rfl⟩
 | true =>
  rw [e1] at o1
  have b1:=bL.1 e1
  have good:∀ K:Int,K=k→(!(!true) && (decide (k=5) && !decide (o=m) || !decide (k=5) && decide (o=0)))=true→aL TT TB one Jx ⟨cz [(1,.sl (l.map cO) f),(3,.pt (aX c) 0),(5,.pt [aj d,aj k,aj m,aj o] 0)],[],bF.none,false,0⟩ (vF TT Tryz.f62.results.toList (aj (if (!(!true) && (decide (k=5) && !decide (o=m) || !decide (k=5) && decide (o=0)))=false then 2 else if dR 0 ((c.aO.length:Int) - 1) [m,o]=true then 4 else if dR (aJ l) 40000 [d]=true then 7 else uo c l ⟨d,k,m,o⟩))):=by
   intro K hK hok
   rw [if_neg (by rw [hok];simp)]
   refine Is one c l f hl (by omega) d k m o _ ?_
   intro h1 h2 h3 h4 h5 h6
   obtain ⟨i,rfl⟩:∃ i:Nat,m=(i:Int):=⟨m.toNat,by omega⟩
   obtain ⟨j,rfl⟩:∃ j:Nat,o=(j:Int):=⟨o.toNat,by omega⟩
   have hin:i < c.aO.length:=by omega
   have hjn:j < c.aO.length:=by omega
   have h7:0≤d:=by
    have:0≤aJ l:=by
     unfold aJ
     cases hq:l.getLast? with
     | none=>simp
     | some y=>exact (hm.day y (List.mem_of_getLast? hq)).1
    omega
   obtain h|h|h|h|h:k=1∨k=2∨k=3∨k=4∨k=5:=by omega
   ·subst h;exact G8 one c hg l f hl hm hmx i j hin hjn d h7 h6
   ·subst h;exact G4 one c l f hmx i j hin hjn d
   ·subst h;exact G5 one c l f hmx i j hin hjn d
   ·subst h;exact G6 one c l f hmx i j hin hjn d
   ·subst h;exact G7 one c l f hmx i j hin hjn d
  by_cases h5:k=5
  ·subst h5
   have g1:(!decide ((5:Int)=5))=false:=rfl
   have g1':decide ((5:Int)=5)=true:=rfl
   cases e2:decide (o=m) with
   | true =>
    rw [if_pos (by rfl)]
    refine RM.qk (mu:=fun _=>false) ?_
    repeat' (first |refine u1 ?_ |refine u2 ?_ |fail)
    refine RM.qk (mu:=fun _=>false) ?_
    repeat' (first |refine u1 ?_ |((with_reducible show ah _ _ _ _ _ _ _ _);refine af.call o1 rfl rfl ?_) |refine u2 ?_ |fail)
    exact ⟨[_],⟨Fz.deep rfl,trivial⟩,rfl⟩
   | false =>
    have g:=good 5 rfl (by rw [e2];rfl)
    rw [e2] at g
    refine RM.qk (mu:=fun _=>false) ?_
    repeat' (first |refine u1 ?_ |refine u2 ?_ |fail)
    refine RM.qk (mu:=fun _=>false) ?_
    repeat' (first |refine u1 ?_ |((with_reducible show ah _ _ _ _ _ _ _ _);refine af.call o1 rfl rfl ?_) |refine u2 ?_ |fail)
    refine aL.cr (ai.to (l:=[(1,.sl (l.map cO) f),(3,.pt (aX c) 0),(5,.pt [aj d,aj 5,aj m,aj o] 0)]) (hp:=[]) 0 rfl ⟨rfl,rfl,rfl,trivial⟩ (Nat.zero_le _) rfl rfl) ?_
    exact g
  ·have d5:=decide_eq_false h5
   have g1:(!decide (k=5))=true:=by rw [d5];rfl
   rw [d5] at good ⊢
   cases e2:decide (o=0) with
   | false =>
    have g2:(!decide (o=0))=true:=by rw [e2];rfl
    rw [if_pos (by simp)]
    refine RM.qk (mu:=fun _=>false) ?_
    repeat' (first |refine u1 ?_ |refine u2 ?_ |fail)
    refine RM.qk (mu:=fun _=>false) ?_
    repeat' (first |refine u1 ?_ |((with_reducible show ah _ _ _ _ _ _ _ _);refine af.call o1 rfl rfl ?_) |refine u2 ?_ |fail)
    exact ⟨[_],⟨Fz.deep rfl,trivial⟩,rfl⟩
   | true =>
    have g2:(!decide (o=0))=false:=by rw [e2];rfl
    have g:=good k rfl (by rw [e2];simp)
    rw [e2] at g
    refine RM.qk (mu:=fun _=>false) ?_
    repeat' (first |refine u1 ?_ |refine u2 ?_ |fail)
    refine RM.qk (mu:=fun _=>false) ?_
    repeat' (first |refine u1 ?_ |((with_reducible show ah _ _ _ _ _ _ _ _);refine af.call o1 rfl rfl ?_) |refine u2 ?_ |fail)
    refine aL.cr (ai.to (l:=[(1,.sl (l.map cO) f),(3,.pt (aX c) 0),(5,.pt [aj d,aj k,aj m,aj o] 0)]) (hp:=[]) 0 rfl ⟨rfl,rfl,rfl,trivial⟩ (Nat.zero_le _) rfl rfl) ?_
    exact g
end Go.Proofs.YtlpmfgmldmdggaaGreat
