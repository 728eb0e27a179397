/-
  Contracts of the program's functions and of the document's. Lemmas alone; their conditions stand in them.
-/
import Derived.Test.YtlpmfgmldmdggaaGreatK4
open Go Go.RM
namespace Go.Proofs.YtlpmfgmldmdggaaGreat
set_option maxRecDepth 100000
set_option maxHeartbeats 4000000
def gT (c:aS) (i:Nat):Nat:=(((c.aH[i]?).map nh.kL).getD 9).toNat
def bI (c:aS) (r:Nat):Nat→Nat
 | 0=>0
 | k+1=>if gT c k=r then bI c r k ||| 2 ^ k else bI c r k
theorem Dz (c:aS) (r:Nat):∀ k,bI c r k < 2 ^ k
 | 0=>Nat.one_pos
 | k+1=>by
  have h:=Dz c r k;have h2:2 ^ (k+1)=2 * 2 ^ k:=by rw [Nat.pow_succ,Nat.mul_comm]
  unfold bI;split
  ·exact Nat.or_lt_two_pow (by omega) (by omega)
  ·omega
theorem oP {c:aS} (r:Nat) {k:Nat} (hk:k≤5):bI c r k < 32:=Nat.lt_of_lt_of_le (Dz c r k) (Nat.pow_le_pow_right (by decide) hk)
theorem BF (c:aS) (r:Nat):∀ k i,(bI c r k).testBit i=(decide (i < k) && decide (gT c i=r))
 | 0,i=>by simp [bI]
 | k+1,i=>by
  have h:=BF c r k i;unfold bI;by_cases hik:i=k
  ·subst hik;by_cases hr:gT c i=r
   ·rw [if_pos hr,Nat.testBit_or,h,Nat.testBit_two_pow_self];simp [hr]
   ·rw [if_neg hr,h];simp [hr]
  ·have e:decide (i < k+1)=decide (i < k):=by
    by_cases h1:i < k
    ·rw [decide_eq_true h1,decide_eq_true (by omega)]
    ·rw [decide_eq_false h1,decide_eq_false (by omega)]
   rw [e];by_cases hr:gT c k=r
   ·rw [if_pos hr,Nat.testBit_or,h,Nat.testBit_two_pow_of_ne (Ne.symm hik),Bool.or_false]
   ·rw [if_neg hr,h]
abbrev Kn (c:aS) (p:dm):AV:=.ag (tc c p (bI c 0 c.aH.length) (bI c 1 c.aH.length) (bI c 2 c.aH.length))
abbrev MH:AV:=.ag [.fl (.slice none 0 0),.fl (.slice none 0 0),af 0,af 0,af 0,af 0,af 0,af 0,af 0]
theorem yA (one:Bool) (c:aS) (h:c.Ok) (p:dm) (he:sg c p ≠ 0):Pu one 75 [.ag (aM c),.ag (cw p)] (.tp [MH,af (sg c p)]):=by
 have o1:=uc one c h p;have d1:(!decide (sg c p=0))=true:=by rw [decide_eq_false he];rfl
 generalize sg c p=e at *
 refine ak.body (fn:=Tryz.f75) rfl rfl rfl rfl ?_;refine aa (mu:=fun t=>Nat.beq t 4) ?_;repeat' first|refine u1 ?_|((with_reducible refine qq3 ?_);refine ak.call o1 rfl rfl ?_)|refine u2 ?_|fail
 exact ⟨[_,_],⟨Fz.deep rfl,Fz.deep rfl,trivial⟩,rfl⟩
theorem BG (one:Bool) (c:aS) (h:c.Ok) (p:dm) (he:sg c p=0):Pu one 75 [.ag (aM c),.ag (cw p)] (.tp [Kn c p,af 0]):=by
 have o1:=uc one c h p;obtain ⟨hg,hp⟩:=yz he;have hm5:=hg.aH;have hr3:=hg.aE;have em:((c.aH.map bq).length:Int)=c.aH.length:=by simp
 have d1:(!decide ((0:Int)=0))=false:=rfl;rw [he] at o1;refine ak.body (fn:=Tryz.f75) rfl rfl rfl rfl ?_;refine aa (mu:=fun t=>Nat.beq t 4) ?_;repeat' first|refine u1 ?_|((with_reducible refine qq3 ?_);refine ak.call o1 rfl rfl ?_)|refine u2 ?_|fail
 refine aB.aP (ah.to (l:=[(2,.pt (aM c) 0),(3,.pt (cw p) 0),(4,.ptr 0 0 0),(5,af 0),(19,.sl (c.aH.map bq) false),(20,af (c.aH.length:Int)),(21,af (0:Nat))]) (hp:=[.cells (tc c p (bI c 0 0) (bI c 1 0) (bI c 2 0)) 0 0]) 1 rfl ⟨rfl,rfl,rfl,rfl,rfl,aD em,rfl,trivial⟩ (qq5 _) rfl rfl) ?_;refine aB.loop (fun k:Nat=>k≤c.aH.length) (fun k=>⟨aL [(2,.pt (aM c) 0),(3,.pt (cw p) 0),(4,.ptr 0 0 0),(5,af 0),(19,.sl (c.aH.map bq) false),(20,af (c.aH.length:Int)),(21,af (k:Nat))],[.cells (tc c p (bI c 0 k) (bI c 1 k) (bI c 2 k)) 0 0],bp.none,false,0⟩) (fun k=>c.aH.length - k) ?_ 0 (qq5 _);intro k hk;by_cases hlt:k < c.aH.length
 ·have dl:decide ((k:Int) < (c.aH.length:Int))=true:=decide_eq_true (by omega);obtain ⟨mn,rk,w,ms,ra,rb,rc,rd,e,hmt,hrt,hrk,hb1,hb2,h01,h02,hrk2⟩:=rR hg (k:=k) hlt;have hra:gT c k=rk.toNat:=by unfold gT;rw [hrk2];rfl
  have s0:bI c 0 (k+1)=if gT c k=0 then bI c 0 k ||| 2 ^ k else bI c 0 k:=rfl;have s1:bI c 1 (k+1)=if gT c k=1 then bI c 1 k ||| 2 ^ k else bI c 1 k:=rfl;have s2:bI c 2 (k+1)=if gT c k=2 then bI c 2 k ||| 2 ^ k else bI c 2 k:=rfl;have b0:=oP (c:=c) 0 (k:=k) (by omega);have b1:=oP (c:=c) 1 (k:=k) (by omega);have b2:=oP (c:=c) 2 (k:=k) (by omega);have bk:2 ^ k < 32:=by have:(2:Nat) ^ k≤2 ^ 4:=Nat.pow_le_pow_right (by decide) (by omega);omega
  rw [hra] at s0 s1 s2;have hk8:k < 8:=by omega
  generalize bI c 0 k=x0 at *
  generalize bI c 1 k=x1 at *
  generalize bI c 2 k=x2 at *
  obtain hz|hz|hz:rk=0∨rk=1∨rk=2:=by omega
  ·subst hz;rw [if_pos (by rfl)] at s0;rw [if_neg (by decide)] at s1 s2;refine aa (mu:=fun t=>Nat.beq t 4) ?_;repeat' first|((with_reducible show aV _ _ _ _ _ _ _ _ _);refine RM.zH (j:=k) rfl rfl hk8 ?_)|((with_reducible show aV _ _ _ _ _ _ _ _ _);refine RM.Kl (m:=x0) (n:=2 ^ k) rfl rfl (by omega) (by omega) ?_)|refine u1 ?_|(refine ⟨[ST mn,af 0,af w,BB ms],⟨by omega,hmt⟩,rfl,?_⟩)|refine u2 ?_|fail
   exact ⟨k+1,hlt,(by dsimp only;omega),ah.to (l:=[(2,.pt (aM c) 0),(3,.pt (cw p) 0),(4,.ptr 0 0 0),(5,af 0),(19,.sl (c.aH.map bq) false),(20,af (c.aH.length:Int)),(21,af ((k+1):Nat))]) (hp:=[.cells (tc c p (bI c 0 (k+1)) (bI c 1 (k+1)) (bI c 2 (k+1))) 0 0]) 1 (by show _=[AB.cells (tc c p (bI c 0 (k+1)) (bI c 1 (k+1)) (bI c 2 (k+1))) 0 0];rw [s0,s1,s2];rfl) ⟨rfl,rfl,rfl,rfl,rfl,rfl,aD (by simp),trivial⟩ (qq5 _) rfl rfl⟩
  ·subst hz;rw [if_pos (by rfl)] at s1;rw [if_neg (by decide)] at s0 s2;refine aa (mu:=fun t=>Nat.beq t 4) ?_;repeat' first|((with_reducible show aV _ _ _ _ _ _ _ _ _);refine RM.zH (j:=k) rfl rfl hk8 ?_)|((with_reducible show aV _ _ _ _ _ _ _ _ _);refine RM.Kl (m:=x1) (n:=2 ^ k) rfl rfl (by omega) (by omega) ?_)|refine u1 ?_|(refine ⟨[ST mn,af 1,af w,BB ms],⟨by omega,hmt⟩,rfl,?_⟩)|refine u2 ?_|fail
   exact ⟨k+1,hlt,(by dsimp only;omega),ah.to (l:=[(2,.pt (aM c) 0),(3,.pt (cw p) 0),(4,.ptr 0 0 0),(5,af 0),(19,.sl (c.aH.map bq) false),(20,af (c.aH.length:Int)),(21,af ((k+1):Nat))]) (hp:=[.cells (tc c p (bI c 0 (k+1)) (bI c 1 (k+1)) (bI c 2 (k+1))) 0 0]) 1 (by show _=[AB.cells (tc c p (bI c 0 (k+1)) (bI c 1 (k+1)) (bI c 2 (k+1))) 0 0];rw [s0,s1,s2];rfl) ⟨rfl,rfl,rfl,rfl,rfl,rfl,aD (by simp),trivial⟩ (qq5 _) rfl rfl⟩
  ·subst hz;rw [if_pos (by rfl)] at s2;rw [if_neg (by decide)] at s0 s1;refine aa (mu:=fun t=>Nat.beq t 4) ?_;repeat' first|((with_reducible show aV _ _ _ _ _ _ _ _ _);refine RM.zH (j:=k) rfl rfl hk8 ?_)|((with_reducible show aV _ _ _ _ _ _ _ _ _);refine RM.Kl (m:=x2) (n:=2 ^ k) rfl rfl (by omega) (by omega) ?_)|refine u1 ?_|(refine ⟨[ST mn,af 2,af w,BB ms],⟨by omega,hmt⟩,rfl,?_⟩)|refine u2 ?_|fail
   exact ⟨k+1,hlt,(by dsimp only;omega),ah.to (l:=[(2,.pt (aM c) 0),(3,.pt (cw p) 0),(4,.ptr 0 0 0),(5,af 0),(19,.sl (c.aH.map bq) false),(20,af (c.aH.length:Int)),(21,af ((k+1):Nat))]) (hp:=[.cells (tc c p (bI c 0 (k+1)) (bI c 1 (k+1)) (bI c 2 (k+1))) 0 0]) 1 (by show _=[AB.cells (tc c p (bI c 0 (k+1)) (bI c 1 (k+1)) (bI c 2 (k+1))) 0 0];rw [s0,s1,s2];rfl) ⟨rfl,rfl,rfl,rfl,rfl,rfl,aD (by simp),trivial⟩ (qq5 _) rfl rfl⟩
 ·have dl:decide ((k:Int) < (c.aH.length:Int))=false:=decide_eq_false (by omega);have hkn:k=c.aH.length:=by omega
  subst hkn;refine aa (mu:=fun t=>Nat.beq t 4) ?_;repeat' first|refine u1 ?_|refine u2 ?_|fail
  exact ⟨[_,_],⟨Fz.deep rfl,Fz.deep rfl,trivial⟩,rfl⟩
end Go.Proofs.YtlpmfgmldmdggaaGreat
open Go Go.RM
namespace Go.Proofs.YtlpmfgmldmdggaaGreat
set_option maxRecDepth 100000
set_option maxHeartbeats 4000000
def ud (l:List Int) (p:Nat):Int:=l.getD p 0
theorem wO {l:List Int} {q:Nat} (h:q < l.length):l[q]?=some (ud l q):=by unfold ud;rw [List.getD_eq_getElem?_getD,List.getElem?_eq_getElem h];rfl
theorem zN {l:List Int} {k:Nat} (h:k < l.length):(ints l)[((k:Nat):Int).toNat]?=some (eI (ud l k)):=by rw [dB h];have:=wO h;rw [List.getElem?_eq_getElem h] at this;rw [Option.some.inj this]
def IF (l:List Int):Bool:=(List.range (l.length - 1)).any fun j=>decide (ud l (j+1)≤ud l j)
def lK (c:aS) (r k:Nat):Nat:=(List.range k).countP fun m=>decide (gT c m=r)
def qm (c:aS) (l:List Int) (r k:Nat):Nat:=(List.range k).countP fun m=>decide (gT c m=r) && kE l (m:Nat)
theorem EB (c:aS) (r k:Nat):lK c r (k+1)=lK c r k+if gT c k=r then 1 else 0:=by
 unfold lK;rw [List.range_succ,List.countP_append];by_cases h:gT c k=r
 ·rw [if_pos h];simp [h]
 ·rw [if_neg h];simp [h]
theorem EC (c:aS) (l:List Int) (r k:Nat):qm c l r (k+1)=qm c l r k+if gT c k=r∧kE l (k:Nat)=true then 1 else 0:=by
 unfold qm;rw [List.range_succ,List.countP_append];by_cases h:gT c k=r
 ·by_cases h2:kE l (k:Nat)=true
  ·rw [if_pos ⟨h,h2⟩];simp [h,h2]
  ·rw [if_neg (fun hh=>h2 hh.2)];simp [h,h2]
 ·rw [if_neg (fun hh=>h hh.1)];simp [h]
theorem IG (c:aS) (r k:Nat):lK c r k≤k:=by
 unfold lK;have:=List.countP_le_length (p:=fun m=>decide (gT c m=r)) (l:=List.range k)
 rwa [List.length_range] at this
theorem II (c:aS) (l:List Int) (r k:Nat):qm c l r k≤k:=by
 unfold qm;have:=List.countP_le_length (p:=fun m=>decide (gT c m=r) && kE l (m:Nat)) (l:=List.range k)
 rwa [List.length_range] at this
def lM (c:aS) (l:List Int) (r:Nat):Bool:=decide (0 < lK c r c.aH.length) && decide (qm c l r c.aH.length=lK c r c.aH.length)
def oQ (c:aS) (l:List Int):Bool:=(List.range c.aE.length).any fun r=>lM c l r
def IJ (c:aS) (l:List Int):Int:=if oQ c l=true then 8 else 0
def HM (c:aS) (b l:List Int):Int:=if (l.any fun x=>kE b x)=true then 5 else IJ c l
def IK (c:aS) (w:Int) (b l:List Int):Int:=if w < l.length then 3 else HM c b l
def HN (c:aS) (w:Int) (b l:List Int):Int:=if IF l=true then 2 else IK c w b l
def BZ (c:aS) (w:Int) (b l:List Int):Int:=if iy 0 ((c.aH.length:Int) - 1) l=true then 4 else HN c w b l
noncomputable def Ns:Code:=Tryz.f93.body.getD .skip
noncomputable def Ko:Code:=Gq (Gq Ns)
noncomputable def Kq:Code:=Gq Ko
noncomputable def IL:Code:=Gq Kq
noncomputable def LX:Code:=Gq IL
theorem LY (one:Bool) (c:aS) (hg:Good c) (p:dm) (b l:List Int) (fb fl:Bool) (_hb:b.length≤maxLen) (hl:l.length≤maxLen):aB TT TB one LX ⟨aL [(2,.sl (ints b) fb),(3,.sl (ints l) fl),(4,.pt (aM c) 0),(5,.pt (cw p) 0)],[],bp.none,false,0⟩ (FR TT Tryz.f93.results.toList (af (IJ c l))):=by
 have em:((c.aH.map bq).length:Int)=c.aH.length:=by simp
 have eg:((c.aE.map aX).length:Int)=c.aE.length:=by simp
 have hm5:=hg.aH;have hr3:=hg.aE;refine qq1 ?_;show kJ _ _ _ _ (.seq (.seq (.region _ _ false) _) _) _ _;repeat' first|refine u1 ?_|refine u2 ?_|fail
 refine aB.aP (ah.to (l:=[(2,.sl (ints b) fb),(3,.sl (ints l) fl),(4,.pt (aM c) 0),(5,.pt (cw p) 0),(12,af (0:Nat))]) (hp:=[]) 0 rfl ⟨rfl,rfl,rfl,rfl,rfl,trivial⟩ (qq5 _) rfl rfl) ?_;refine aB.loop (fun k:Nat=>k≤c.aE.length∧∀ r,r < k→lM c l r=false) (fun k=>⟨aL [(2,.sl (ints b) fb),(3,.sl (ints l) fl),(4,.pt (aM c) 0),(5,.pt (cw p) 0),(12,af (k:Nat))],[],bp.none,false,0⟩) (fun k=>c.aE.length - k) ?_ 0 ⟨qq5 _,fun r hr=>absurd hr (Nat.not_lt_zero r)⟩;rintro k ⟨hk,hno⟩;by_cases hlt:k < c.aE.length
 ·have dl:decide ((k:Int) < ((c.aE.map aX).length:Int))=true:=decide_eq_true (by omega);refine qq1 ?_;repeat' first|refine u1 ?_|refine u2 ?_|fail
  refine aB.aP (ah.to (l:=[(2,.sl (ints b) fb),(3,.sl (ints l) fl),(4,.pt (aM c) 0),(5,.pt (cw p) 0),(12,af (k:Nat)),(13,af (lK c k 0:Nat)),(14,af (qm c l k 0:Nat)),(15,af (0:Nat))]) (hp:=[]) 0 rfl ⟨rfl,rfl,rfl,rfl,rfl,rfl,rfl,rfl,trivial⟩ (qq5 _) rfl rfl) ?_;refine aB.loop (fun m:Nat=>m≤c.aH.length) (fun m=>⟨aL [(2,.sl (ints b) fb),(3,.sl (ints l) fl),(4,.pt (aM c) 0),(5,.pt (cw p) 0),(12,af (k:Nat)),(13,af (lK c k m:Nat)),(14,af (qm c l k m:Nat)),(15,af (m:Nat))],[],bp.none,false,0⟩) (fun m=>c.aH.length - m) ?_ 0 (qq5 _);intro m hm;have b1:=IG c k m;have b2:=II c l k m;by_cases hmt:m < c.aH.length
  ·have d2:decide ((m:Int) < ((c.aH.map bq).length:Int))=true:=decide_eq_true (by omega);obtain ⟨mn,rk,w,ms,ra,rb,rc,rd,e,hmt2,hrt,hrk,hb1,hb2,h01,h02,hrk2⟩:=rR hg (k:=m) hmt;have hra:gT c m=rk.toNat:=by unfold gT;rw [hrk2];rfl
   have s1:=EB c k m;have s2:=EC c l k m;rw [hra] at s1 s2;have o1:=GD one l fl hl (m:Nat)
   generalize lK c k m=x at *
   generalize qm c l k m=y at *
   cases e1:decide (rk=(k:Int)) with
   | false =>
    have hne:¬ rk.toNat=k:=by have:=of_decide_eq_false e1;omega
    rw [if_neg hne] at s1;rw [if_neg (fun hh=>hne hh.1)] at s2;refine qq1 ?_;repeat' first|refine u1 ?_|(refine ⟨[ST mn,af rk,af w,BB ms],⟨by omega,hmt2⟩,rfl,?_⟩)|refine u2 ?_|fail
    exact ⟨m+1,hmt,(by dsimp only;omega),ah.to 0 rfl ⟨rfl,rfl,rfl,rfl,rfl,aD (by rw [s1];rfl),aD (by rw [s2];rfl),aD (by simp),trivial⟩ (qq5 _) rfl rfl⟩
   | true =>
    have he:rk.toNat=k:=by have:=of_decide_eq_true e1;omega
    rw [if_pos he] at s1
    cases e2:kE l (m:Nat) with
    | false =>
     rw [e2] at o1 s2;rw [if_neg (fun hh=>Bool.noConfusion hh.2)] at s2;refine qq1 ?_;repeat' first|((with_reducible refine qq3 ?_);refine ak.call o1 rfl rfl ?_)|refine u1 ?_|(refine ⟨[ST mn,af rk,af w,BB ms],⟨by omega,hmt2⟩,rfl,?_⟩)|refine u2 ?_|fail
     exact ⟨m+1,hmt,(by dsimp only;omega),ah.to 0 rfl ⟨rfl,rfl,rfl,rfl,rfl,aD (by rw [s1];rfl),aD (by rw [s2];rfl),aD (by simp),trivial⟩ (qq5 _) rfl rfl⟩
    | true =>
     rw [e2] at o1 s2;rw [if_pos ⟨he,rfl⟩] at s2;refine qq1 ?_;repeat' first|((with_reducible refine qq3 ?_);refine ak.call o1 rfl rfl ?_)|refine u1 ?_|(refine ⟨[ST mn,af rk,af w,BB ms],⟨by omega,hmt2⟩,rfl,?_⟩)|refine u2 ?_|fail
     exact ⟨m+1,hmt,(by dsimp only;omega),ah.to 0 rfl ⟨rfl,rfl,rfl,rfl,rfl,aD (by rw [s1];rfl),aD (by rw [s2];rfl),aD (by simp),trivial⟩ (qq5 _) rfl rfl⟩
  ·have d2:decide ((m:Int) < ((c.aH.map bq).length:Int))=false:=decide_eq_false (by omega);have hmn:m=c.aH.length:=by omega
   subst hmn;have hrg:lM c l k=(decide (0 < lK c k c.aH.length) && decide (qm c l k c.aH.length=lK c k c.aH.length)):=rfl;have hall:lM c l k=true→oQ c l=true:=fun h=>List.any_eq_true.2 ⟨k,List.mem_range.2 hlt,h⟩
   generalize lK c k c.aH.length=x at *
   generalize qm c l k c.aH.length=y at *
   cases e1:decide ((0:Int) < (x:Int)) with
   | false =>
    have f1:decide (0 < x)=false:=decide_eq_false (by have:=of_decide_eq_false e1;omega);rw [f1] at hrg;refine qq1 ?_;repeat' first|refine u1 ?_|refine u2 ?_|fail
    exact ⟨k+1,⟨hlt,fun r hr=>by
     by_cases h:r=k
     ·rw [h];exact hrg
     ·exact hno r (by omega)⟩,(by dsimp only;omega),ah.to 0 rfl ⟨rfl,rfl,rfl,rfl,aD (by simp),trivial⟩ (qq5 _) rfl rfl⟩
   | true =>
    have f1:decide (0 < x)=true:=decide_eq_true (by have:=of_decide_eq_true e1;omega);rw [f1] at hrg
    cases e2:decide ((y:Int)=(x:Int)) with
    | false =>
     have f2:decide (y=x)=false:=decide_eq_false (by have:=of_decide_eq_false e2;omega);rw [f2] at hrg;refine qq1 ?_;repeat' first|refine u1 ?_|refine u2 ?_|fail
     exact ⟨k+1,⟨hlt,fun r hr=>by
      by_cases h:r=k
      ·rw [h];exact hrg
      ·exact hno r (by omega)⟩,(by dsimp only;omega),ah.to 0 rfl ⟨rfl,rfl,rfl,rfl,aD (by simp),trivial⟩ (qq5 _) rfl rfl⟩
    | true =>
     have f2:decide (y=x)=true:=decide_eq_true (by have:=of_decide_eq_true e2;omega);rw [f2] at hrg;have hz:=hall hrg;have hv:IJ c l=8:=by unfold IJ;rw [if_pos hz]
     rw [hv];refine qq1 ?_;repeat' first|refine u1 ?_|refine u2 ?_|fail
     exact ⟨[_],⟨Fz.deep rfl,trivial⟩,rfl⟩
 ·have dl:decide ((k:Int) < ((c.aE.map aX).length:Int))=false:=decide_eq_false (by omega);have hv:IJ c l=0:=by unfold IJ;rw [if_neg];intro h;obtain ⟨r,h1,h2⟩:=List.any_eq_true.1 h;have:=List.mem_range.1 h1;rw [hno r (by omega)] at h2;cases h2
  rw [hv];refine qq1 ?_;repeat' first|refine u1 ?_|refine u2 ?_|fail
  exact ⟨[_],⟨Fz.deep rfl,trivial⟩,rfl⟩
theorem LZ (one:Bool) (c:aS) (hg:Good c) (p:dm) (b l:List Int) (fb fl:Bool) (_hb:b.length≤maxLen) (hl:l.length≤maxLen):aB TT TB one IL ⟨aL [(2,.sl (ints b) fb),(3,.sl (ints l) fl),(4,.pt (aM c) 0),(5,.pt (cw p) 0)],[],bp.none,false,0⟩ (FR TT Tryz.f93.results.toList (af (HM c b l))):=by
 have el:((ints l).length:Int)=l.length:=by simp
 have hl':l.length≤maxLen:=hl;simp only [maxLen] at hl';show aB TT TB one (.seq (.seq (.region _ _ false) _) LX) _ _;refine RM.CN ⟨aL [(2,.sl (ints b) fb),(3,.sl (ints l) fl),(4,.pt (aM c) 0),(5,.pt (cw p) 0)],[],bp.none,false,0⟩ (HM c b l=IJ c l) ?_ (fun hv=>by rw [hv];exact LY one c hg p b l fb fl _hb hl);refine qq1 ?_;repeat' first|refine u1 ?_|refine u2 ?_|fail
 refine aB.aP (ah.to (l:=[(2,.sl (ints b) fb),(3,.sl (ints l) fl),(4,.pt (aM c) 0),(5,.pt (cw p) 0),(11,af (0:Nat))]) (hp:=[]) 0 rfl ⟨rfl,rfl,rfl,rfl,rfl,trivial⟩ (qq5 _) rfl rfl) ?_;refine aB.loop (fun k:Nat=>k≤l.length∧∀ j,j < k→kE b (ud l j)=false) (fun k=>⟨aL [(2,.sl (ints b) fb),(3,.sl (ints l) fl),(4,.pt (aM c) 0),(5,.pt (cw p) 0),(11,af (k:Nat))],[],bp.none,false,0⟩) (fun k=>l.length - k) ?_ 0 ⟨qq5 _,fun r hr=>absurd hr (Nat.not_lt_zero r)⟩;rintro k ⟨hk,hno⟩;by_cases hlt:k < l.length
 ·have dl:decide ((k:Int) < ((ints l).length:Int))=true:=decide_eq_true (by omega);have hat:=zN hlt;have hmem:=List.mem_of_getElem? (wO hlt);have hall:kE b (ud l k)=true→(l.any fun x=>kE b x)=true:=fun h=>List.any_eq_true.2 ⟨_,hmem,h⟩
  have hnx:kE b (ud l k)=false→∀ j,j < k+1→kE b (ud l j)=false:=fun h j hj=>by
   by_cases e:j=k
   ·rw [e];exact h
   ·exact hno j (by omega)
  generalize ud l k=z at *
  have o1:=GD one b fb _hb z
  cases e:kE b z with
  | true =>
   rw [e] at o1;have hv:HM c b l=5:=by unfold HM;rw [if_pos (hall e)]
   rw [hv];refine qq1 ?_;repeat' first|((with_reducible refine qq3 ?_);refine ak.call o1 rfl rfl ?_)|refine u1 ?_|(refine ⟨[af z],⟨by omega,hat⟩,rfl,?_⟩)|refine u2 ?_|fail
   exact ⟨[_],⟨Fz.deep rfl,trivial⟩,rfl⟩
  | false =>
   rw [e] at o1;refine qq1 ?_;repeat' first|((with_reducible refine qq3 ?_);refine ak.call o1 rfl rfl ?_)|refine u1 ?_|(refine ⟨[af z],⟨by omega,hat⟩,rfl,?_⟩)|refine u2 ?_|fail
   exact ⟨k+1,⟨hlt,hnx e⟩,(by dsimp only;omega),ah.to 0 rfl ⟨rfl,rfl,rfl,rfl,aD (by simp),trivial⟩ (qq5 _) rfl rfl⟩
 ·have dl:decide ((k:Int) < ((ints l).length:Int))=false:=decide_eq_false (by omega);have hv:HM c b l=IJ c l:=by unfold HM;rw [if_neg];intro h;obtain ⟨x,h1,h2⟩:=List.any_eq_true.1 h;obtain ⟨j,hj,hjx⟩:=List.getElem_of_mem h1;have h3:=wO hj;rw [List.getElem?_eq_getElem hj] at h3;have h4:=hno j (by omega);rw [←Option.some.inj h3,hjx,h2] at h4;cases h4
  refine qq1 ?_;repeat' first|refine u1 ?_|refine u2 ?_|fail
  exact .is (ah.to (l:=[(2,.sl (ints b) fb),(3,.sl (ints l) fl),(4,.pt (aM c) 0),(5,.pt (cw p) 0)]) (hp:=[]) 0 rfl ⟨rfl,rfl,rfl,rfl,trivial⟩ (qq5 _) rfl rfl) hv
theorem L3 (one:Bool) (c:aS) (hg:Good c) (p:dm) (b l:List Int) (fb fl:Bool) (_hb:b.length≤maxLen) (hl:l.length≤maxLen):aB TT TB one Kq ⟨aL [(2,.sl (ints b) fb),(3,.sl (ints l) fl),(4,.pt (aM c) 0),(5,.pt (cw p) 0)],[],bp.none,false,0⟩ (FR TT Tryz.f93.results.toList (af (IK c p.aN b l))):=by
 have el:((ints l).length:Int)=l.length:=by simp
 by_cases h:p.aN < l.length
 ·have d1:decide (p.aN < ((ints l).length:Int))=true:=decide_eq_true (by omega);have hv:IK c p.aN b l=3:=by unfold IK;rw [if_pos h]
  rw [hv];refine qq1 ?_;show kJ _ _ _ _ (.seq (.seq (.region _ _ false) _) IL) _ _;repeat' first|refine u1 ?_|refine u2 ?_|fail
  exact ⟨[_],⟨Fz.deep rfl,trivial⟩,rfl⟩
 ·have d1:decide (p.aN < ((ints l).length:Int))=false:=decide_eq_false (by omega);have hv:IK c p.aN b l=HM c b l:=by unfold IK;rw [if_neg h]
  rw [hv];show aB TT TB one (.seq (.seq (.region _ _ false) _) IL) _ _;refine RM.cutAt (st':=⟨aL [(2,.sl (ints b) fb),(3,.sl (ints l) fl),(4,.pt (aM c) 0),(5,.pt (cw p) 0)],[],bp.none,false,0⟩) ?_ (LZ one c hg p b l fb fl _hb hl);refine qq1 ?_;repeat' first|refine u1 ?_|refine u2 ?_|fail
  exact .is (ah.to (l:=[(2,.sl (ints b) fb),(3,.sl (ints l) fl),(4,.pt (aM c) 0),(5,.pt (cw p) 0)]) (hp:=[]) 0 rfl ⟨rfl,rfl,rfl,rfl,trivial⟩ (qq5 _) rfl rfl)
theorem L4 (one:Bool) (c:aS) (hg:Good c) (p:dm) (b l:List Int) (fb fl:Bool) (_hb:b.length≤maxLen) (hl:l.length≤maxLen):aB TT TB one Ko ⟨aL [(2,.sl (ints b) fb),(3,.sl (ints l) fl),(4,.pt (aM c) 0),(5,.pt (cw p) 0)],[],bp.none,false,0⟩ (FR TT Tryz.f93.results.toList (af (HN c p.aN b l))):=by
 have el:((ints l).length:Int)=l.length:=by simp
 have hl':l.length≤maxLen:=hl;simp only [maxLen] at hl';show aB TT TB one (.seq (.seq (.region _ _ false) _) Kq) _ _;refine RM.CN ⟨aL [(2,.sl (ints b) fb),(3,.sl (ints l) fl),(4,.pt (aM c) 0),(5,.pt (cw p) 0)],[],bp.none,false,0⟩ (HN c p.aN b l=IK c p.aN b l) ?_ (fun hv=>by rw [hv];exact L3 one c hg p b l fb fl _hb hl);refine qq1 ?_;repeat' first|refine u1 ?_|refine u2 ?_|fail
 refine aB.aP (ah.to (l:=[(2,.sl (ints b) fb),(3,.sl (ints l) fl),(4,.pt (aM c) 0),(5,.pt (cw p) 0),(10,af ((0:Nat)+1))]) (hp:=[]) 0 rfl ⟨rfl,rfl,rfl,rfl,rfl,trivial⟩ (qq5 _) rfl rfl) ?_;refine aB.loop (fun k:Nat=>k≤l.length - 1∧∀ j,j < k→¬ ud l (j+1)≤ud l j) (fun k=>⟨aL [(2,.sl (ints b) fb),(3,.sl (ints l) fl),(4,.pt (aM c) 0),(5,.pt (cw p) 0),(10,af ((k:Nat)+1))],[],bp.none,false,0⟩) (fun k=>l.length - k) ?_ 0 ⟨qq5 _,fun r hr=>absurd hr (Nat.not_lt_zero r)⟩;rintro k ⟨hk,hno⟩;by_cases hlt:k+1 < l.length
 ·have dl:decide ((k:Int)+1 < ((ints l).length:Int))=true:=decide_eq_true (by omega);have hat:=zN (show k < l.length by omega);have hat2:=zN hlt;have hall:ud l (k+1)≤ud l k→IF l=true:=fun h=>List.any_eq_true.2 ⟨k,List.mem_range.2 (by omega),decide_eq_true h⟩
  have hnx:¬ ud l (k+1)≤ud l k→∀ j,j < k+1→¬ ud l (j+1)≤ud l j:=fun h j hj=>by
   by_cases e:j=k
   ·rw [e];exact h
   ·exact hno j (by omega)
  generalize ud l k=z at *
  generalize ud l (k+1)=y at *
  have e1:((k:Int)+1).toNat=(((k+1:Nat)):Int).toNat:=by omega
  have e2:((k:Int)+1 - 1).toNat=((k:Nat):Int).toNat:=by omega
  rw [←e1] at hat2;rw [←e2] at hat
  cases e:decide (y≤z) with
  | true =>
   have hv:HN c p.aN b l=2:=by unfold HN;rw [if_pos (hall (of_decide_eq_true e))]
   rw [hv];refine qq1 ?_;repeat' first|refine u1 ?_|(refine ⟨[af y],⟨by omega,hat2⟩,rfl,?_⟩)|(refine ⟨[af z],⟨by omega,hat⟩,rfl,?_⟩)|refine u2 ?_|fail
   exact ⟨[_],⟨Fz.deep rfl,trivial⟩,rfl⟩
  | false =>
   refine qq1 ?_;repeat' first|refine u1 ?_|(refine ⟨[af y],⟨by omega,hat2⟩,rfl,?_⟩)|(refine ⟨[af z],⟨by omega,hat⟩,rfl,?_⟩)|refine u2 ?_|fail
   exact ⟨k+1,⟨by omega,hnx (of_decide_eq_false e)⟩,(by dsimp only;omega),ah.to 0 rfl ⟨rfl,rfl,rfl,rfl,aD (by simp),trivial⟩ (qq5 _) rfl rfl⟩
 ·have dl:decide ((k:Int)+1 < ((ints l).length:Int))=false:=decide_eq_false (by omega);have hv:HN c p.aN b l=IK c p.aN b l:=by unfold HN;rw [if_neg];intro h;obtain ⟨j,h1,h2⟩:=List.any_eq_true.1 h;have:=List.mem_range.1 h1;exact hno j (by omega) (of_decide_eq_true h2)
  refine qq1 ?_;repeat' first|refine u1 ?_|refine u2 ?_|fail
  exact .is (ah.to (l:=[(2,.sl (ints b) fb),(3,.sl (ints l) fl),(4,.pt (aM c) 0),(5,.pt (cw p) 0)]) (hp:=[]) 0 rfl ⟨rfl,rfl,rfl,rfl,trivial⟩ (qq5 _) rfl rfl) hv
theorem Kr (one:Bool) (c:aS) (hg:Good c) (p:dm) (b l:List Int) (fb fl:Bool) (_hb:b.length≤maxLen) (hl:l.length≤maxLen):Pu one 93 [.ag (aM c),.ag (cw p),.sl (ints b) fb,.sl (ints l) fl] (af (BZ c p.aN b l)):=by
 have em:((c.aH.map bq).length:Int)=c.aH.length:=by simp
 have el:((ints l).length:Int)=l.length:=by simp
 have hm5:=hg.aH;have hl':l.length≤maxLen:=hl;simp only [maxLen] at hl';refine ak.body (fn:=Tryz.f93) rfl rfl rfl rfl ?_;show aB TT TB one (.seq (.region _ _ _) (.seq (.seq (.region _ _ _) _) Ko)) _ _;refine qq2 ?_;repeat' first|refine u1 ?_|refine u2 ?_|fail
 refine RM.CN ⟨aL [(2,.sl (ints b) fb),(3,.sl (ints l) fl),(4,.pt (aM c) 0),(5,.pt (cw p) 0)],[],bp.none,false,0⟩ (BZ c p.aN b l=HN c p.aN b l) ?_ (fun hv=>by rw [hv];exact L4 one c hg p b l fb fl _hb hl);refine qq1 ?_;repeat' first|refine u1 ?_|refine u2 ?_|fail
 refine aB.aP (ah.to (l:=[(2,.sl (ints b) fb),(3,.sl (ints l) fl),(4,.pt (aM c) 0),(5,.pt (cw p) 0),(9,af (0:Nat))]) (hp:=[]) 0 rfl ⟨rfl,rfl,rfl,rfl,rfl,trivial⟩ (qq5 _) rfl rfl) ?_;refine aB.loop (fun k:Nat=>k≤l.length∧∀ j,j < k→jP (ud l j) 0 ((c.aH.length:Int) - 1)=true) (fun k=>⟨aL [(2,.sl (ints b) fb),(3,.sl (ints l) fl),(4,.pt (aM c) 0),(5,.pt (cw p) 0),(9,af (k:Nat))],[],bp.none,false,0⟩) (fun k=>l.length - k) ?_ 0 ⟨qq5 _,fun r hr=>absurd hr (Nat.not_lt_zero r)⟩;rintro k ⟨hk,hno⟩;by_cases hlt:k < l.length
 ·have dl:decide ((k:Int) < ((ints l).length:Int))=true:=decide_eq_true (by omega);have hat:=zN hlt;have hmem:=List.mem_of_getElem? (wO hlt)
  have hall:jP (ud l k) 0 ((c.aH.length:Int) - 1)=false→iy 0 ((c.aH.length:Int) - 1) l=true:=fun h=>List.any_eq_true.2 ⟨_,hmem,by
   have h2:=cT (ud l k) 0 ((c.aH.length:Int) - 1);rw [h] at h2;unfold iy at h2
   simpa using h2⟩
  have hnx:jP (ud l k) 0 ((c.aH.length:Int) - 1)=true→∀ j,j < k+1→jP (ud l j) 0 ((c.aH.length:Int) - 1)=true:=fun h j hj=>by
   by_cases e:j=k
   ·rw [e];exact h
   ·exact hno j (by omega)
  generalize ud l k=z at *
  have o1:=iT true z 0 ((c.aH.length:Int) - 1);rw [←em] at o1
  cases e:jP z 0 ((c.aH.length:Int) - 1) with
  | false =>
   rw [em,e,←em] at o1;have hv:BZ c p.aN b l=4:=by unfold BZ;rw [if_pos (hall e)]
   rw [hv];refine qq1 ?_;repeat' first|(refine ⟨_,_,.inl ⟨rfl,rfl⟩,o1,?_⟩)|refine u1 ?_|(refine ⟨[af z],⟨by omega,hat⟩,rfl,?_⟩)|refine u2 ?_|fail
   exact ⟨[_],⟨Fz.deep rfl,trivial⟩,rfl⟩
  | true =>
   rw [em,e,←em] at o1;refine qq1 ?_;repeat' first|(refine ⟨_,_,.inl ⟨rfl,rfl⟩,o1,?_⟩)|refine u1 ?_|(refine ⟨[af z],⟨by omega,hat⟩,rfl,?_⟩)|refine u2 ?_|fail
   exact ⟨k+1,⟨hlt,hnx e⟩,(by dsimp only;omega),ah.to 0 rfl ⟨rfl,rfl,rfl,rfl,aD (by simp),trivial⟩ (qq5 _) rfl rfl⟩
 ·have dl:decide ((k:Int) < ((ints l).length:Int))=false:=decide_eq_false (by omega);have hv:BZ c p.aN b l=HN c p.aN b l:=by unfold BZ;rw [if_neg];intro h;obtain ⟨x,h1,h2⟩:=List.any_eq_true.1 h;obtain ⟨j,hj,hjx⟩:=List.getElem_of_mem h1;have h3:=wO hj;rw [List.getElem?_eq_getElem hj] at h3;have h4:=gh.1 (hno j (by omega));rw [←Option.some.inj h3,hjx] at h4;simp only [Bool.or_eq_true,decide_eq_true_eq] at h2;omega
  refine qq1 ?_;repeat' first|refine u1 ?_|refine u2 ?_|fail
  exact .is (ah.to (l:=[(2,.sl (ints b) fb),(3,.sl (ints l) fl),(4,.pt (aM c) 0),(5,.pt (cw p) 0)]) (hp:=[]) 0 rfl ⟨rfl,rfl,rfl,rfl,trivial⟩ (qq5 _) rfl rfl) hv
