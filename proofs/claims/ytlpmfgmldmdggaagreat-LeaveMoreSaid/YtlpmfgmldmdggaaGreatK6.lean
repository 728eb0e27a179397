/-
  Contracts of the program's functions and of the document's. Lemmas alone; their conditions stand in them.
-/
import Derived.Test.YtlpmfgmldmdggaaGreatK5
open Go Go.RM
namespace Go.Proofs.YtlpmfgmldmdggaaGreat
set_option maxRecDepth 100000
set_option maxHeartbeats 4000000
def pV (l:List Int) (p:Nat):Int:=l.getD p 0
theorem wM {l:List Int} {q:Nat} (h:q < l.length):l[q]?=some (pV l q):=by unfold pV;rw [List.getD_eq_getElem?_getD,List.getElem?_eq_getElem h];rfl
theorem zQ {l:List Int} {k:Nat} (h:k < l.length):(ints l)[((k:Nat):Int).toNat]?=some (eI (pV l k)):=by rw [dN h];have:=wM h;rw [List.getElem?_eq_getElem h] at this;rw [Option.some.inj this]
def BQ (l:List Int):Bool:=(List.range (l.length - 1)).any fun j=>decide (pV l (j+1)≤pV l j)
def lG (c:aL) (r k:Nat):Nat:=(List.range k).countP fun m=>decide (fR c m=r)
def oY (c:aL) (l:List Int) (r k:Nat):Nat:=(List.range k).countP fun m=>decide (fR c m=r) && e7 l (m:Nat)
theorem Fg (c:aL) (r k:Nat):lG c r (k+1)=lG c r k+if fR c k=r then 1 else 0:=by
 unfold lG;rw [List.range_succ,List.countP_append];by_cases h:fR c k=r
 ·rw [if_pos h];simp [h]
 ·rw [if_neg h];simp [h]
theorem Fh (c:aL) (l:List Int) (r k:Nat):oY c l r (k+1)=oY c l r k+if fR c k=r∧e7 l (k:Nat)=true then 1 else 0:=by
 unfold oY;rw [List.range_succ,List.countP_append];by_cases h:fR c k=r
 ·by_cases h2:e7 l (k:Nat)=true
  ·rw [if_pos ⟨h,h2⟩];simp [h,h2]
  ·rw [if_neg (fun hh=>h2 hh.2)];simp [h,h2]
 ·rw [if_neg (fun hh=>h hh.1)];simp [h]
theorem Je (c:aL) (r k:Nat):lG c r k≤k:=by
 unfold lG;have:=List.countP_le_length (p:=fun m=>decide (fR c m=r)) (l:=List.range k)
 rwa [List.length_range] at this
theorem Jf (c:aL) (l:List Int) (r k:Nat):oY c l r k≤k:=by
 unfold oY;have:=List.countP_le_length (p:=fun m=>decide (fR c m=r) && e7 l (m:Nat)) (l:=List.range k)
 rwa [List.length_range] at this
def kG (c:aL) (l:List Int) (r:Nat):Bool:=decide (0 < lG c r c.aD.length) && decide (oY c l r c.aD.length=lG c r c.aD.length)
def lf (c:aL) (l:List Int):Bool:=(List.range c.aC.length).any fun r=>kG c l r
def Iq (c:aL) (l:List Int):Int:=if lf c l=true then 8 else 0
def FC (c:aL) (b l:List Int):Int:=if (l.any fun x=>e7 b x)=true then 5 else Iq c l
def Fi (c:aL) (w:Int) (b l:List Int):Int:=if w < l.length then 3 else FC c b l
def C7 (c:aL) (w:Int) (b l:List Int):Int:=if BQ l=true then 2 else Fi c w b l
def jl (c:aL) (w:Int) (b l:List Int):Int:=if fk 0 ((c.aD.length:Int) - 1) l=true then 4 else C7 c w b l
noncomputable def N9:Code:=Tryz.f93.body.getD .skip
noncomputable def KZ:Code:=BK (BK N9)
noncomputable def K0:Code:=BK KZ
noncomputable def Jg:Code:=BK K0
noncomputable def MH:Code:=BK Jg
theorem MI (one:Bool) (c:aL) (hg:Good c) (p:bE) (b l:List Int) (fb fl:Bool) (_hb:b.length≤maxLen) (hl:l.length≤maxLen):aB TT TB one MH ⟨aM [(2,.sl (ints b) fb),(3,.sl (ints l) fl),(4,.pt (aI c) 0),(5,.pt (cV p) 0)],[],bq.none,false,0⟩ (EO TT Tryz.f93.results.toList (af (Iq c l))):=by
 have em:((c.aD.map aZ).length:Int)=c.aD.length:=by simp
 have eg:((c.aC.map aT).length:Int)=c.aC.length:=by simp
 have hm5:=hg.aD;have hr3:=hg.aC;refine qq1 ?_;show kC _ _ _ _ (.seq (.seq (.region _ _ false) _) _) _ _;repeat' first|refine u1 ?_|refine u2 ?_|fail
 refine aB.aO (ah.to (l:=[(2,.sl (ints b) fb),(3,.sl (ints l) fl),(4,.pt (aI c) 0),(5,.pt (cV p) 0),(12,af (0:Nat))]) (hp:=[]) 0 rfl ⟨rfl,rfl,rfl,rfl,rfl,trivial⟩ (qq5 _) rfl rfl) ?_;refine aB.loop (fun k:Nat=>k≤c.aC.length∧∀ r,r < k→kG c l r=false) (fun k=>⟨aM [(2,.sl (ints b) fb),(3,.sl (ints l) fl),(4,.pt (aI c) 0),(5,.pt (cV p) 0),(12,af (k:Nat))],[],bq.none,false,0⟩) (fun k=>c.aC.length - k) ?_ 0 ⟨qq5 _,fun r hr=>absurd hr (Nat.not_lt_zero r)⟩;rintro k ⟨hk,hno⟩;by_cases hlt:k < c.aC.length
 ·have dl:decide ((k:Int) < ((c.aC.map aT).length:Int))=true:=decide_eq_true (by omega);refine qq1 ?_;repeat' first|refine u1 ?_|refine u2 ?_|fail
  refine aB.aO (ah.to (l:=[(2,.sl (ints b) fb),(3,.sl (ints l) fl),(4,.pt (aI c) 0),(5,.pt (cV p) 0),(12,af (k:Nat)),(13,af (lG c k 0:Nat)),(14,af (oY c l k 0:Nat)),(15,af (0:Nat))]) (hp:=[]) 0 rfl ⟨rfl,rfl,rfl,rfl,rfl,rfl,rfl,rfl,trivial⟩ (qq5 _) rfl rfl) ?_;refine aB.loop (fun m:Nat=>m≤c.aD.length) (fun m=>⟨aM [(2,.sl (ints b) fb),(3,.sl (ints l) fl),(4,.pt (aI c) 0),(5,.pt (cV p) 0),(12,af (k:Nat)),(13,af (lG c k m:Nat)),(14,af (oY c l k m:Nat)),(15,af (m:Nat))],[],bq.none,false,0⟩) (fun m=>c.aD.length - m) ?_ 0 (qq5 _);intro m hm;have b1:=Je c k m;have b2:=Jf c l k m;by_cases hmt:m < c.aD.length
  ·have d2:decide ((m:Int) < ((c.aD.map aZ).length:Int))=true:=decide_eq_true (by omega);obtain ⟨mn,rk,w,ms,ra,rb,rc,rd,e,hmt2,hrt,hrk,hb1,hb2,h01,h02,hrk2⟩:=lZ hg (k:=m) hmt;have hra:fR c m=rk.toNat:=by unfold fR;rw [hrk2];rfl
   have s1:=Fg c k m;have s2:=Fh c l k m;rw [hra] at s1 s2;have o1:=Km one l fl hl (m:Nat)
   generalize lG c k m=x at *
   generalize oY c l k m=y at *
   cases e1:decide (rk=(k:Int)) with
   | false =>
    have hne:¬ rk.toNat=k:=by have:=of_decide_eq_false e1;omega
    rw [if_neg hne] at s1;rw [if_neg (fun hh=>hne hh.1)] at s2;refine qq1 ?_;repeat' first|refine u1 ?_|(refine ⟨[ST mn,af rk,af w,BB ms],⟨by omega,hmt2⟩,rfl,?_⟩)|refine u2 ?_|fail
    exact ⟨m+1,hmt,(by dsimp only;omega),ah.to 0 rfl ⟨rfl,rfl,rfl,rfl,rfl,aE (by rw [s1];rfl),aE (by rw [s2];rfl),aE (by simp),trivial⟩ (qq5 _) rfl rfl⟩
   | true =>
    have he:rk.toNat=k:=by have:=of_decide_eq_true e1;omega
    rw [if_pos he] at s1
    cases e2:e7 l (m:Nat) with
    | false =>
     rw [e2] at o1 s2;rw [if_neg (fun hh=>Bool.noConfusion hh.2)] at s2;refine qq1 ?_;repeat' first|((with_reducible refine qq3 ?_);refine ak.call o1 rfl rfl ?_)|refine u1 ?_|(refine ⟨[ST mn,af rk,af w,BB ms],⟨by omega,hmt2⟩,rfl,?_⟩)|refine u2 ?_|fail
     exact ⟨m+1,hmt,(by dsimp only;omega),ah.to 0 rfl ⟨rfl,rfl,rfl,rfl,rfl,aE (by rw [s1];rfl),aE (by rw [s2];rfl),aE (by simp),trivial⟩ (qq5 _) rfl rfl⟩
    | true =>
     rw [e2] at o1 s2;rw [if_pos ⟨he,rfl⟩] at s2;refine qq1 ?_;repeat' first|((with_reducible refine qq3 ?_);refine ak.call o1 rfl rfl ?_)|refine u1 ?_|(refine ⟨[ST mn,af rk,af w,BB ms],⟨by omega,hmt2⟩,rfl,?_⟩)|refine u2 ?_|fail
     exact ⟨m+1,hmt,(by dsimp only;omega),ah.to 0 rfl ⟨rfl,rfl,rfl,rfl,rfl,aE (by rw [s1];rfl),aE (by rw [s2];rfl),aE (by simp),trivial⟩ (qq5 _) rfl rfl⟩
  ·have d2:decide ((m:Int) < ((c.aD.map aZ).length:Int))=false:=decide_eq_false (by omega);have hmn:m=c.aD.length:=by omega
   subst hmn;have hrg:kG c l k=(decide (0 < lG c k c.aD.length) && decide (oY c l k c.aD.length=lG c k c.aD.length)):=rfl;have hall:kG c l k=true→lf c l=true:=fun h=>List.any_eq_true.2 ⟨k,List.mem_range.2 hlt,h⟩
   generalize lG c k c.aD.length=x at *
   generalize oY c l k c.aD.length=y at *
   cases e1:decide ((0:Int) < (x:Int)) with
   | false =>
    have f1:decide (0 < x)=false:=decide_eq_false (by have:=of_decide_eq_false e1;omega);rw [f1] at hrg;refine qq1 ?_;repeat' first|refine u1 ?_|refine u2 ?_|fail
    exact ⟨k+1,⟨hlt,fun r hr=>by
     by_cases h:r=k
     ·rw [h];exact hrg
     ·exact hno r (by omega)⟩,(by dsimp only;omega),ah.to 0 rfl ⟨rfl,rfl,rfl,rfl,aE (by simp),trivial⟩ (qq5 _) rfl rfl⟩
   | true =>
    have f1:decide (0 < x)=true:=decide_eq_true (by have:=of_decide_eq_true e1;omega);rw [f1] at hrg
    cases e2:decide ((y:Int)=(x:Int)) with
    | false =>
     have f2:decide (y=x)=false:=decide_eq_false (by have:=of_decide_eq_false e2;omega);rw [f2] at hrg;refine qq1 ?_;repeat' first|refine u1 ?_|refine u2 ?_|fail
     exact ⟨k+1,⟨hlt,fun r hr=>by
      by_cases h:r=k
      ·rw [h];exact hrg
      ·exact hno r (by omega)⟩,(by dsimp only;omega),ah.to 0 rfl ⟨rfl,rfl,rfl,rfl,aE (by simp),trivial⟩ (qq5 _) rfl rfl⟩
    | true =>
     have f2:decide (y=x)=true:=decide_eq_true (by have:=of_decide_eq_true e2;omega);rw [f2] at hrg;have hz:=hall hrg;have hv:Iq c l=8:=by unfold Iq;rw [if_pos hz]
     rw [hv];refine qq1 ?_;repeat' first|refine u1 ?_|refine u2 ?_|fail
     exact ⟨[_],⟨Fz.deep rfl,trivial⟩,rfl⟩
 ·have dl:decide ((k:Int) < ((c.aC.map aT).length:Int))=false:=decide_eq_false (by omega);have hv:Iq c l=0:=by unfold Iq;rw [if_neg];intro h;obtain ⟨r,h1,h2⟩:=List.any_eq_true.1 h;have:=List.mem_range.1 h1;rw [hno r (by omega)] at h2;cases h2
  rw [hv];refine qq1 ?_;repeat' first|refine u1 ?_|refine u2 ?_|fail
  exact ⟨[_],⟨Fz.deep rfl,trivial⟩,rfl⟩
theorem MJ (one:Bool) (c:aL) (hg:Good c) (p:bE) (b l:List Int) (fb fl:Bool) (_hb:b.length≤maxLen) (hl:l.length≤maxLen):aB TT TB one Jg ⟨aM [(2,.sl (ints b) fb),(3,.sl (ints l) fl),(4,.pt (aI c) 0),(5,.pt (cV p) 0)],[],bq.none,false,0⟩ (EO TT Tryz.f93.results.toList (af (FC c b l))):=by
 have el:((ints l).length:Int)=l.length:=by simp
 have hl':l.length≤maxLen:=hl;simp only [maxLen] at hl';show aB TT TB one (.seq (.seq (.region _ _ false) _) MH) _ _;refine RM.C2 ⟨aM [(2,.sl (ints b) fb),(3,.sl (ints l) fl),(4,.pt (aI c) 0),(5,.pt (cV p) 0)],[],bq.none,false,0⟩ (FC c b l=Iq c l) ?_ (fun hv=>by rw [hv];exact MI one c hg p b l fb fl _hb hl);refine qq1 ?_;repeat' first|refine u1 ?_|refine u2 ?_|fail
 refine aB.aO (ah.to (l:=[(2,.sl (ints b) fb),(3,.sl (ints l) fl),(4,.pt (aI c) 0),(5,.pt (cV p) 0),(11,af (0:Nat))]) (hp:=[]) 0 rfl ⟨rfl,rfl,rfl,rfl,rfl,trivial⟩ (qq5 _) rfl rfl) ?_;refine aB.loop (fun k:Nat=>k≤l.length∧∀ j,j < k→e7 b (pV l j)=false) (fun k=>⟨aM [(2,.sl (ints b) fb),(3,.sl (ints l) fl),(4,.pt (aI c) 0),(5,.pt (cV p) 0),(11,af (k:Nat))],[],bq.none,false,0⟩) (fun k=>l.length - k) ?_ 0 ⟨qq5 _,fun r hr=>absurd hr (Nat.not_lt_zero r)⟩;rintro k ⟨hk,hno⟩;by_cases hlt:k < l.length
 ·have dl:decide ((k:Int) < ((ints l).length:Int))=true:=decide_eq_true (by omega);have hat:=zQ hlt;have hmem:=List.mem_of_getElem? (wM hlt);have hall:e7 b (pV l k)=true→(l.any fun x=>e7 b x)=true:=fun h=>List.any_eq_true.2 ⟨_,hmem,h⟩
  have hnx:e7 b (pV l k)=false→∀ j,j < k+1→e7 b (pV l j)=false:=fun h j hj=>by
   by_cases e:j=k
   ·rw [e];exact h
   ·exact hno j (by omega)
  generalize pV l k=z at *
  have o1:=Km one b fb _hb z
  cases e:e7 b z with
  | true =>
   rw [e] at o1;have hv:FC c b l=5:=by unfold FC;rw [if_pos (hall e)]
   rw [hv];refine qq1 ?_;repeat' first|((with_reducible refine qq3 ?_);refine ak.call o1 rfl rfl ?_)|refine u1 ?_|(refine ⟨[af z],⟨by omega,hat⟩,rfl,?_⟩)|refine u2 ?_|fail
   exact ⟨[_],⟨Fz.deep rfl,trivial⟩,rfl⟩
  | false =>
   rw [e] at o1;refine qq1 ?_;repeat' first|((with_reducible refine qq3 ?_);refine ak.call o1 rfl rfl ?_)|refine u1 ?_|(refine ⟨[af z],⟨by omega,hat⟩,rfl,?_⟩)|refine u2 ?_|fail
   exact ⟨k+1,⟨hlt,hnx e⟩,(by dsimp only;omega),ah.to 0 rfl ⟨rfl,rfl,rfl,rfl,aE (by simp),trivial⟩ (qq5 _) rfl rfl⟩
 ·have dl:decide ((k:Int) < ((ints l).length:Int))=false:=decide_eq_false (by omega);have hv:FC c b l=Iq c l:=by unfold FC;rw [if_neg];intro h;obtain ⟨x,h1,h2⟩:=List.any_eq_true.1 h;obtain ⟨j,hj,hjx⟩:=List.getElem_of_mem h1;have h3:=wM hj;rw [List.getElem?_eq_getElem hj] at h3;have h4:=hno j (by omega);rw [←Option.some.inj h3,hjx,h2] at h4;cases h4
  refine qq1 ?_;repeat' first|refine u1 ?_|refine u2 ?_|fail
  exact .is (ah.to (l:=[(2,.sl (ints b) fb),(3,.sl (ints l) fl),(4,.pt (aI c) 0),(5,.pt (cV p) 0)]) (hp:=[]) 0 rfl ⟨rfl,rfl,rfl,rfl,trivial⟩ (qq5 _) rfl rfl) hv
theorem MK (one:Bool) (c:aL) (hg:Good c) (p:bE) (b l:List Int) (fb fl:Bool) (_hb:b.length≤maxLen) (hl:l.length≤maxLen):aB TT TB one K0 ⟨aM [(2,.sl (ints b) fb),(3,.sl (ints l) fl),(4,.pt (aI c) 0),(5,.pt (cV p) 0)],[],bq.none,false,0⟩ (EO TT Tryz.f93.results.toList (af (Fi c p.aR b l))):=by
 have el:((ints l).length:Int)=l.length:=by simp
 by_cases h:p.aR < l.length
 ·have d1:decide (p.aR < ((ints l).length:Int))=true:=decide_eq_true (by omega);have hv:Fi c p.aR b l=3:=by unfold Fi;rw [if_pos h]
  rw [hv];refine qq1 ?_;show kC _ _ _ _ (.seq (.seq (.region _ _ false) _) Jg) _ _;repeat' first|refine u1 ?_|refine u2 ?_|fail
  exact ⟨[_],⟨Fz.deep rfl,trivial⟩,rfl⟩
 ·have d1:decide (p.aR < ((ints l).length:Int))=false:=decide_eq_false (by omega);have hv:Fi c p.aR b l=FC c b l:=by unfold Fi;rw [if_neg h]
  rw [hv];show aB TT TB one (.seq (.seq (.region _ _ false) _) Jg) _ _;refine RM.cutAt (st':=⟨aM [(2,.sl (ints b) fb),(3,.sl (ints l) fl),(4,.pt (aI c) 0),(5,.pt (cV p) 0)],[],bq.none,false,0⟩) ?_ (MJ one c hg p b l fb fl _hb hl);refine qq1 ?_;repeat' first|refine u1 ?_|refine u2 ?_|fail
  exact .is (ah.to (l:=[(2,.sl (ints b) fb),(3,.sl (ints l) fl),(4,.pt (aI c) 0),(5,.pt (cV p) 0)]) (hp:=[]) 0 rfl ⟨rfl,rfl,rfl,rfl,trivial⟩ (qq5 _) rfl rfl)
theorem ML (one:Bool) (c:aL) (hg:Good c) (p:bE) (b l:List Int) (fb fl:Bool) (_hb:b.length≤maxLen) (hl:l.length≤maxLen):aB TT TB one KZ ⟨aM [(2,.sl (ints b) fb),(3,.sl (ints l) fl),(4,.pt (aI c) 0),(5,.pt (cV p) 0)],[],bq.none,false,0⟩ (EO TT Tryz.f93.results.toList (af (C7 c p.aR b l))):=by
 have el:((ints l).length:Int)=l.length:=by simp
 have hl':l.length≤maxLen:=hl;simp only [maxLen] at hl';show aB TT TB one (.seq (.seq (.region _ _ false) _) K0) _ _;refine RM.C2 ⟨aM [(2,.sl (ints b) fb),(3,.sl (ints l) fl),(4,.pt (aI c) 0),(5,.pt (cV p) 0)],[],bq.none,false,0⟩ (C7 c p.aR b l=Fi c p.aR b l) ?_ (fun hv=>by rw [hv];exact MK one c hg p b l fb fl _hb hl);refine qq1 ?_;repeat' first|refine u1 ?_|refine u2 ?_|fail
 refine aB.aO (ah.to (l:=[(2,.sl (ints b) fb),(3,.sl (ints l) fl),(4,.pt (aI c) 0),(5,.pt (cV p) 0),(10,af ((0:Nat)+1))]) (hp:=[]) 0 rfl ⟨rfl,rfl,rfl,rfl,rfl,trivial⟩ (qq5 _) rfl rfl) ?_;refine aB.loop (fun k:Nat=>k≤l.length - 1∧∀ j,j < k→¬ pV l (j+1)≤pV l j) (fun k=>⟨aM [(2,.sl (ints b) fb),(3,.sl (ints l) fl),(4,.pt (aI c) 0),(5,.pt (cV p) 0),(10,af ((k:Nat)+1))],[],bq.none,false,0⟩) (fun k=>l.length - k) ?_ 0 ⟨qq5 _,fun r hr=>absurd hr (Nat.not_lt_zero r)⟩;rintro k ⟨hk,hno⟩;by_cases hlt:k+1 < l.length
 ·have dl:decide ((k:Int)+1 < ((ints l).length:Int))=true:=decide_eq_true (by omega);have hat:=zQ (show k < l.length by omega);have hat2:=zQ hlt;have hall:pV l (k+1)≤pV l k→BQ l=true:=fun h=>List.any_eq_true.2 ⟨k,List.mem_range.2 (by omega),decide_eq_true h⟩
  have hnx:¬ pV l (k+1)≤pV l k→∀ j,j < k+1→¬ pV l (j+1)≤pV l j:=fun h j hj=>by
   by_cases e:j=k
   ·rw [e];exact h
   ·exact hno j (by omega)
  generalize pV l k=z at *
  generalize pV l (k+1)=y at *
  have e1:((k:Int)+1).toNat=(((k+1:Nat)):Int).toNat:=by omega
  have e2:((k:Int)+1 - 1).toNat=((k:Nat):Int).toNat:=by omega
  rw [←e1] at hat2;rw [←e2] at hat
  cases e:decide (y≤z) with
  | true =>
   have hv:C7 c p.aR b l=2:=by unfold C7;rw [if_pos (hall (of_decide_eq_true e))]
   rw [hv];refine qq1 ?_;repeat' first|refine u1 ?_|(refine ⟨[af y],⟨by omega,hat2⟩,rfl,?_⟩)|(refine ⟨[af z],⟨by omega,hat⟩,rfl,?_⟩)|refine u2 ?_|fail
   exact ⟨[_],⟨Fz.deep rfl,trivial⟩,rfl⟩
  | false =>
   refine qq1 ?_;repeat' first|refine u1 ?_|(refine ⟨[af y],⟨by omega,hat2⟩,rfl,?_⟩)|(refine ⟨[af z],⟨by omega,hat⟩,rfl,?_⟩)|refine u2 ?_|fail
   exact ⟨k+1,⟨by omega,hnx (of_decide_eq_false e)⟩,(by dsimp only;omega),ah.to 0 rfl ⟨rfl,rfl,rfl,rfl,aE (by simp),trivial⟩ (qq5 _) rfl rfl⟩
 ·have dl:decide ((k:Int)+1 < ((ints l).length:Int))=false:=decide_eq_false (by omega);have hv:C7 c p.aR b l=Fi c p.aR b l:=by unfold C7;rw [if_neg];intro h;obtain ⟨j,h1,h2⟩:=List.any_eq_true.1 h;have:=List.mem_range.1 h1;exact hno j (by omega) (of_decide_eq_true h2)
  refine qq1 ?_;repeat' first|refine u1 ?_|refine u2 ?_|fail
  exact .is (ah.to (l:=[(2,.sl (ints b) fb),(3,.sl (ints l) fl),(4,.pt (aI c) 0),(5,.pt (cV p) 0)]) (hp:=[]) 0 rfl ⟨rfl,rfl,rfl,rfl,trivial⟩ (qq5 _) rfl rfl) hv
theorem K1 (one:Bool) (c:aL) (hg:Good c) (p:bE) (b l:List Int) (fb fl:Bool) (_hb:b.length≤maxLen) (hl:l.length≤maxLen):Pu one 93 [.ag (aI c),.ag (cV p),.sl (ints b) fb,.sl (ints l) fl] (af (jl c p.aR b l)):=by
 have em:((c.aD.map aZ).length:Int)=c.aD.length:=by simp
 have el:((ints l).length:Int)=l.length:=by simp
 have hm5:=hg.aD;have hl':l.length≤maxLen:=hl;simp only [maxLen] at hl';refine ak.body (fn:=Tryz.f93) rfl rfl rfl rfl ?_;show aB TT TB one (.seq (.region _ _ _) (.seq (.seq (.region _ _ _) _) KZ)) _ _;refine qq2 ?_;repeat' first|refine u1 ?_|refine u2 ?_|fail
 refine RM.C2 ⟨aM [(2,.sl (ints b) fb),(3,.sl (ints l) fl),(4,.pt (aI c) 0),(5,.pt (cV p) 0)],[],bq.none,false,0⟩ (jl c p.aR b l=C7 c p.aR b l) ?_ (fun hv=>by rw [hv];exact ML one c hg p b l fb fl _hb hl);refine qq1 ?_;repeat' first|refine u1 ?_|refine u2 ?_|fail
 refine aB.aO (ah.to (l:=[(2,.sl (ints b) fb),(3,.sl (ints l) fl),(4,.pt (aI c) 0),(5,.pt (cV p) 0),(9,af (0:Nat))]) (hp:=[]) 0 rfl ⟨rfl,rfl,rfl,rfl,rfl,trivial⟩ (qq5 _) rfl rfl) ?_;refine aB.loop (fun k:Nat=>k≤l.length∧∀ j,j < k→jy (pV l j) 0 ((c.aD.length:Int) - 1)=true) (fun k=>⟨aM [(2,.sl (ints b) fb),(3,.sl (ints l) fl),(4,.pt (aI c) 0),(5,.pt (cV p) 0),(9,af (k:Nat))],[],bq.none,false,0⟩) (fun k=>l.length - k) ?_ 0 ⟨qq5 _,fun r hr=>absurd hr (Nat.not_lt_zero r)⟩;rintro k ⟨hk,hno⟩;by_cases hlt:k < l.length
 ·have dl:decide ((k:Int) < ((ints l).length:Int))=true:=decide_eq_true (by omega);have hat:=zQ hlt;have hmem:=List.mem_of_getElem? (wM hlt)
  have hall:jy (pV l k) 0 ((c.aD.length:Int) - 1)=false→fk 0 ((c.aD.length:Int) - 1) l=true:=fun h=>List.any_eq_true.2 ⟨_,hmem,by
   have h2:=cO (pV l k) 0 ((c.aD.length:Int) - 1);rw [h] at h2;unfold fk at h2
   simpa using h2⟩
  have hnx:jy (pV l k) 0 ((c.aD.length:Int) - 1)=true→∀ j,j < k+1→jy (pV l j) 0 ((c.aD.length:Int) - 1)=true:=fun h j hj=>by
   by_cases e:j=k
   ·rw [e];exact h
   ·exact hno j (by omega)
  generalize pV l k=z at *
  have o1:=iS true z 0 ((c.aD.length:Int) - 1);rw [←em] at o1
  cases e:jy z 0 ((c.aD.length:Int) - 1) with
  | false =>
   rw [em,e,←em] at o1;have hv:jl c p.aR b l=4:=by unfold jl;rw [if_pos (hall e)]
   rw [hv];refine qq1 ?_;repeat' first|(refine ⟨_,_,.inl ⟨rfl,rfl⟩,o1,?_⟩)|refine u1 ?_|(refine ⟨[af z],⟨by omega,hat⟩,rfl,?_⟩)|refine u2 ?_|fail
   exact ⟨[_],⟨Fz.deep rfl,trivial⟩,rfl⟩
  | true =>
   rw [em,e,←em] at o1;refine qq1 ?_;repeat' first|(refine ⟨_,_,.inl ⟨rfl,rfl⟩,o1,?_⟩)|refine u1 ?_|(refine ⟨[af z],⟨by omega,hat⟩,rfl,?_⟩)|refine u2 ?_|fail
   exact ⟨k+1,⟨hlt,hnx e⟩,(by dsimp only;omega),ah.to 0 rfl ⟨rfl,rfl,rfl,rfl,aE (by simp),trivial⟩ (qq5 _) rfl rfl⟩
 ·have dl:decide ((k:Int) < ((ints l).length:Int))=false:=decide_eq_false (by omega);have hv:jl c p.aR b l=C7 c p.aR b l:=by unfold jl;rw [if_neg];intro h;obtain ⟨x,h1,h2⟩:=List.any_eq_true.1 h;obtain ⟨j,hj,hjx⟩:=List.getElem_of_mem h1;have h3:=wM hj;rw [List.getElem?_eq_getElem hj] at h3;have h4:=fQ.1 (hno j (by omega));rw [←Option.some.inj h3,hjx] at h4;simp only [Bool.or_eq_true,decide_eq_true_eq] at h2;omega
  refine qq1 ?_;repeat' first|refine u1 ?_|refine u2 ?_|fail
  exact .is (ah.to (l:=[(2,.sl (ints b) fb),(3,.sl (ints l) fl),(4,.pt (aI c) 0),(5,.pt (cV p) 0)]) (hp:=[]) 0 rfl ⟨rfl,rfl,rfl,rfl,trivial⟩ (qq5 _) rfl rfl) hv
end Go.Proofs.YtlpmfgmldmdggaaGreat
open Go Go.RM
namespace Go.Proofs.YtlpmfgmldmdggaaGreat
set_option maxRecDepth 100000
set_option maxHeartbeats 4000000
abbrev eL (l:List Int):List AV:=[.sl (ints l) false]
abbrev dH (L:List (List Int)):List AV:=L.map fun l=>.sl (ints l) false
theorem gk:∀ L:List (List Int),(L.map eL).flatten=dH L
 | []=>rfl
 | l :: L=>by rw [List.map_cons,List.flatten_cons,gk L];rfl
theorem oc (L:List (List Int)):cI (dH L)=true:=sY (fun _=>rfl) L
theorem Jh (L:List (List Int)):(dH L).all AV.one=true:=by rw [List.all_map,List.all_eq_true];intro x _;rfl
theorem iu (L:List (List Int)) (v:Nat):([.cells (dH L) 1 v]:List AB).all (AB.ig 1)=true:=by have h:AB.ig 1 (.cells (dH L) 1 v)=true:=fG 1 (fun _=>rfl) _;simp only [List.all_cons,List.all_nil,h,Bool.and_true]
theorem uQ (L:List (List Int)):∀ el ∈ L.map eL,el.length=1:=fun el hel=>by obtain ⟨x,_,rfl⟩:=List.mem_map.1 hel;rfl
theorem zS (L:List (List Int)):(0:Nat)+L.length * 1≤(dH L).length∧(L.map eL).length=L.length∧(L.map eL).flatten=((dH L).drop 0).take (L.length * 1):=by refine ⟨by rw [List.length_map];omega,List.length_map _,?_⟩;rw [gk,List.drop_zero,List.take_of_length_le (by rw [List.length_map];omega)]
end Go.Proofs.YtlpmfgmldmdggaaGreat
open Go Go.RM
namespace Go.Proofs.YtlpmfgmldmdggaaGreat
set_option maxRecDepth 100000
set_option maxHeartbeats 4000000
def rP (a b:Int):Int:=if a < b then -1 else if b < a then 1 else 0
theorem He (one:Bool) (a:Int):Pu one 109 [af a] (BB false):=by
 refine ak.body (fn:=Tryz.f109) rfl rfl rfl rfl ?_;refine qq1 ?_;repeat' first|refine u1 ?_|refine u2 ?_|fail
 exact ⟨[_],⟨Fz.deep rfl,trivial⟩,by show AV.fl (.bool (!decide (a=a)))=_;rw [decide_eq_true rfl];rfl⟩
theorem Fk (one:Bool) (a b:Int):Pu one 69 [af a,af b] (af (rP a b)):=by
 have o1:=He one a;have o2:=He one b;unfold rP
 cases e1:decide (a < b) with
 | true =>
  rw [if_pos (of_decide_eq_true e1)];refine ak.body (fn:=Tryz.f69) rfl rfl rfl rfl ?_;refine qq1 ?_;repeat' first|refine u1 ?_|((with_reducible refine qq3 ?_);refine ak.call o1 rfl rfl ?_)|((with_reducible refine qq3 ?_);refine ak.call o2 rfl rfl ?_)|refine u2 ?_|fail
  exact ⟨[_],⟨Fz.deep rfl,trivial⟩,rfl⟩
 | false =>
  rw [if_neg (of_decide_eq_false e1)]
  cases e2:decide (b < a) with
  | true =>
   rw [if_pos (of_decide_eq_true e2)];refine ak.body (fn:=Tryz.f69) rfl rfl rfl rfl ?_;refine qq1 ?_;repeat' first|refine u1 ?_|((with_reducible refine qq3 ?_);refine ak.call o1 rfl rfl ?_)|((with_reducible refine qq3 ?_);refine ak.call o2 rfl rfl ?_)|refine u2 ?_|fail
   exact ⟨[_],⟨Fz.deep rfl,trivial⟩,rfl⟩
  | false =>
   rw [if_neg (of_decide_eq_false e2)];refine ak.body (fn:=Tryz.f69) rfl rfl rfl rfl ?_;refine qq1 ?_;repeat' first|refine u1 ?_|((with_reducible refine qq3 ?_);refine ak.call o1 rfl rfl ?_)|((with_reducible refine qq3 ?_);refine ak.call o2 rfl rfl ?_)|refine u2 ?_|fail
   exact ⟨[_],⟨Fz.deep rfl,trivial⟩,rfl⟩
end Go.Proofs.YtlpmfgmldmdggaaGreat
open Go Go.RM
namespace Go.Proofs.YtlpmfgmldmdggaaGreat
set_option maxRecDepth 100000
set_option maxHeartbeats 4000000
def uc (a:Nat):Nat→List Int
 | 0=>[]
 | k+1=>if ((a / 2 ^ k % 2:Nat):Int)=1 then uc a k++[(k:Int)] else uc a k
theorem oR (a:Nat):∀ k,(uc a k).length≤k
 | 0=>qq6 _
 | k+1=>by
  have:=oR a k;unfold uc;split
  ·rw [List.length_append];simp only [List.length_singleton];omega
  ·omega
def fo (a:Nat):List Int:=uc a 5
theorem Ji (one:Bool) (a:Nat) (ha:a < 32):Pu one 84 [af (a:Nat)] (.sl (ints (fo a)) false):=by
 refine ak.body (fn:=Tryz.f84) rfl rfl rfl rfl ?_;refine aa (mu:=fun t=>Nat.beq t 15) ?_;repeat' first|refine u1 ?_|refine u2 ?_|fail
 refine aB.aO (ah.trans (ah.mZ 1) (ah.IL (l:=[(0,af (a:Nat)),(2,.aJ 0 ((0,0,0):Nat × Nat × Nat).2.1 0 (uc a ((0,0,0):Nat × Nat × Nat).1).length ((0,0,0):Nat × Nat × Nat).2.2),(4,af (((0,0,0):Nat × Nat × Nat).1:Nat))]) (hp:=[.cells (ay (uc a ((0,0,0):Nat × Nat × Nat).1)) 1 ((0,0,0):Nat × Nat × Nat).2.1]) 1 rfl ⟨dP.refl _,dP.mY,dP.refl _,trivial⟩ (qq5 _) rfl (av _ _))) ?_;refine aB.loop (fun x:Nat × Nat × Nat=>x.1≤5∧(x.2.2=(uc a x.1).length∨x.2.2=(uc a x.1).length+1)) (fun x=>⟨aM [(0,af (a:Nat)),(2,.aJ 0 x.2.1 0 (uc a x.1).length x.2.2),(4,af (x.1:Nat))],[.cells (ay (uc a x.1)) 1 x.2.1],bq.none,false,0⟩) (fun x=>5 - x.1) ?_ (0,0,0) ⟨qq5 _,.inl rfl⟩;rintro ⟨k,v,cc⟩ ⟨hk,hcap⟩;dsimp only at hk hcap;show aB _ _ _ _ ⟨aM [(0,af (a:Nat)),(2,.aJ 0 ((k,v,cc):Nat × Nat × Nat).2.1 0 (uc a ((k,v,cc):Nat × Nat × Nat).1).length ((k,v,cc):Nat × Nat × Nat).2.2),(4,af (((k,v,cc):Nat × Nat × Nat).1:Nat))],[.cells (ay (uc a ((k,v,cc):Nat × Nat × Nat).1)) 1 ((k,v,cc):Nat × Nat × Nat).2.1],bq.none,false,0⟩ _;dsimp only;have hlk:=oR a k;by_cases hlt:k < 5
 ·have dl:decide ((k:Int) < 5)=true:=decide_eq_true (by omega);have hs:uc a (k+1)=if ((a / 2 ^ k % 2:Nat):Int)=1 then uc a k++[(k:Int)] else uc a k:=rfl;have hgl:(ay (uc a k)).length=(uc a k).length * 1:=by rw [List.length_map];omega
  have hq:a / 2 ^ k < 4611686018427387904:=Nat.lt_of_le_of_lt (Nat.div_le_self _ _) (by omega);by_cases hb:((a / 2 ^ k % 2:Nat):Int)=1
  ·rw [if_pos hb] at hs;have hd:decide (((a / 2 ^ k % 2:Nat):Int)=1)=true:=decide_eq_true hb;have hsl:(uc a (k+1)).length=(uc a k).length+1:=by rw [hs,List.length_append];rfl
   refine aa (mu:=fun t=>Nat.beq t 15) ?_;repeat' first|refine u1 ?_|((with_reducible show aU _ _ _ _ _ _ _ _ _);refine RM.CT (m:=a) (j:=k) rfl rfl (by omega) ?_)|((with_reducible show aU _ _ _ _ _ _ _ _ _);refine RM.GM (m:=a / 2 ^ k) rfl rfl hq ?_)|((with_reducible show RM.wpOp _ _ (.call _) _ _ _);refine RM.sR (cs:=ay (uc a k)) (n:=(uc a k).length) (els:=[[af (k:Int)]]) rfl rfl rfl rfl rfl (fun el hel=>by rw [List.mem_singleton.1 hel];rfl) rfl rfl hgl hcap (by simp only [List.length_singleton];omega) (fun v' c' hc'=>?_))|refine u2 ?_|fail
   exact ⟨(k+1,v',c'),⟨hlt,by dsimp only;rw [hsl];exact hc'⟩,(by dsimp only;omega),ah.to (hp:=[.cells (ay (uc a ((k+1,v',c'):Nat × Nat × Nat).1)) 1 ((k+1,v',c'):Nat × Nat × Nat).2.1]) 1 (by show _=[AB.cells (ay (uc a (k+1))) 1 v'];rw [hs];unfold ay;rw [List.map_append];rfl) ⟨rfl,by dsimp only;rw [hsl];rfl,aE (by simp),trivial⟩ (qq5 _) rfl (av _ _)⟩
  ·rw [if_neg hb] at hs;have hd:decide (((a / 2 ^ k % 2:Nat):Int)=1)=false:=decide_eq_false hb;refine aa (mu:=fun t=>Nat.beq t 15) ?_;repeat' first|refine u1 ?_|((with_reducible show aU _ _ _ _ _ _ _ _ _);refine RM.CT (m:=a) (j:=k) rfl rfl (by omega) ?_)|((with_reducible show aU _ _ _ _ _ _ _ _ _);refine RM.GM (m:=a / 2 ^ k) rfl rfl hq ?_)|refine u2 ?_|fail
   exact ⟨(k+1,v,cc),⟨hlt,by dsimp only;rw [hs];exact hcap⟩,(by dsimp only;omega),ah.to (hp:=[.cells (ay (uc a ((k+1,v,cc):Nat × Nat × Nat).1)) 1 ((k+1,v,cc):Nat × Nat × Nat).2.1]) 1 (by show _=[AB.cells (ay (uc a (k+1))) 1 v];rw [hs];rfl) ⟨rfl,by dsimp only;rw [hs];rfl,aE (by simp),trivial⟩ (qq5 _) rfl (av _ _)⟩
 ·have dl:decide ((k:Int) < 5)=false:=decide_eq_false (by omega);have hk5:k=5:=by omega
  subst hk5;refine aa (mu:=fun t=>Nat.beq t 15) ?_;repeat' first|refine u1 ?_|refine u2 ?_|fail
  exact ⟨[_],⟨wJ rfl rfl,trivial⟩,rfl⟩
