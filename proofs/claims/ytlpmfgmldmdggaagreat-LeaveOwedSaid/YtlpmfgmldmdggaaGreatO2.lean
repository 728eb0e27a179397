/-
  Contracts of the program's functions and of the document's. Lemmas alone; their conditions stand in them.
-/
import Derived.Test.YtlpmfgmldmdggaaGreatO1
open Go Go.RM
namespace Go.Proofs.YtlpmfgmldmdggaaGreat
set_option maxRecDepth 100000
set_option maxHeartbeats 4000000
def rkAt (c:ay) (i:Nat):Nat:=(((c.aG[i]?).map nQ.iN).getD 9).toNat
def menM (c:ay) (r:Nat):Nat→Nat
 | 0=>0
 | k+1=>if rkAt c k=r then menM c r k ||| 2 ^ k else menM c r k
theorem menM_lt (c:ay) (r:Nat):∀ k,menM c r k < 2 ^ k
 | 0=>Nat.one_pos
 | k+1=>by
  have h:=menM_lt c r k
  have h2:2 ^ (k+1)=2 * 2 ^ k:=by rw [Nat.pow_succ,Nat.mul_comm]
  unfold menM
  split
  ·exact Nat.or_lt_two_pow (by omega) (by omega)
  ·omega
theorem menM_32 {c:ay} (r:Nat) {k:Nat} (hk:k≤5):menM c r k < 32:=Nat.lt_of_lt_of_le (menM_lt c r k) (Nat.pow_le_pow_right (by decide) hk)
theorem menM_bit (c:ay) (r:Nat):∀ k i,(menM c r k).testBit i=(decide (i < k) && decide (rkAt c i=r))
 | 0,i=>by simp [menM]
 | k+1,i=>by
  have h:=menM_bit c r k i
  unfold menM
  by_cases hik:i=k
  ·subst hik
   by_cases hr:rkAt c i=r
   ·rw [if_pos hr,Nat.testBit_or,h,Nat.testBit_two_pow_self]
    simp [hr]
   ·rw [if_neg hr,h]
    simp [hr]
  ·have e:decide (i < k+1)=decide (i < k):=by
    by_cases h1:i < k
    ·rw [decide_eq_true h1,decide_eq_true (by omega)]
    ·rw [decide_eq_false h1,decide_eq_false (by omega)]
   rw [e]
   by_cases hr:rkAt c k=r
   ·rw [if_pos hr,Nat.testBit_or,h,Nat.testBit_two_pow_of_ne (Ne.symm hik),Bool.or_false]
   ·rw [if_neg hr,h]
abbrev rotV (c:ay) (p:Pln):AV:=.ag (eRot c p (menM c 0 c.aG.length) (menM c 1 c.aG.length) (menM c 2 c.aG.length))
abbrev rotZ:AV:=.ag [.fl (.slice none 0 0),.fl (.slice none 0 0),ah 0,ah 0,ah 0,ah 0,ah 0,ah 0,ah 0]
theorem enter_err (one:Bool) (c:ay) (h:c.Ok) (p:Pln) (he:cpE c p ≠ 0):Pu one 75 [.ag (aF c),.ag (ePln p)] (.tp [rotZ,ah (cpE c p)]):=by
 have o1:=checkplan_c one c h p
 have d1:(!decide (cpE c p=0))=true:=by rw [decide_eq_false he];rfl
 generalize cpE c p=e at *
 refine af.body (fn:=Tryz.f75) rfl rfl rfl rfl ?_
 refine aa (mu:=fun t=>Nat.beq t 4) ?_
 repeat' (first |refine u1 ?_ |((with_reducible show ai _ _ _ _ _ _ _ _);refine af.call o1 rfl rfl ?_) |refine u2 ?_ |fail)
 exact ⟨[_,_],⟨Fz.deep rfl,Fz.deep rfl,trivial⟩,rfl⟩
theorem enter_ok (one:Bool) (c:ay) (h:c.Ok) (p:Pln) (he:cpE c p=0):Pu one 75 [.ag (aF c),.ag (ePln p)] (.tp [rotV c p,ah 0]):=by
 have o1:=checkplan_c one c h p
 obtain ⟨hg,hp⟩:=cp_ok he
 have hm5:=hg.aG
 have hr3:=hg.aA
 have em:((c.aG.map bp).length:Int)=c.aG.length:=by simp
 have d1:(!decide ((0:Int)=0))=false:=rfl
 rw [he] at o1
 refine af.body (fn:=Tryz.f75) rfl rfl rfl rfl ?_
 refine aa (mu:=fun t=>Nat.beq t 4) ?_
 repeat' (first |refine u1 ?_ |((with_reducible show ai _ _ _ _ _ _ _ _);refine af.call o1 rfl rfl ?_) |refine u2 ?_ |fail)
 refine aC.bx (aj.to (l:=[(2,.pt (aF c) 0),(3,.pt (ePln p) 0),(4,.ptr 0 0 0),(5,ah 0),(19,.sl (c.aG.map bp) false),(20,ah (c.aG.length:Int)),(21,ah (0:Nat))]) (hp:=[.cells (eRot c p (menM c 0 0) (menM c 1 0) (menM c 2 0)) 0 0]) 1 rfl ⟨rfl,rfl,rfl,rfl,rfl,cK em,rfl,trivial⟩ (Nat.zero_le _) rfl rfl) ?_
 refine aC.loop (fun k:Nat=>k≤c.aG.length) (fun k=>⟨bM [(2,.pt (aF c) 0),(3,.pt (ePln p) 0),(4,.ptr 0 0 0),(5,ah 0),(19,.sl (c.aG.map bp) false),(20,ah (c.aG.length:Int)),(21,ah (k:Nat))],[.cells (eRot c p (menM c 0 k) (menM c 1 k) (menM c 2 k)) 0 0],bw.none,false,0⟩) (fun k=>c.aG.length - k) ?_ 0 (Nat.zero_le _)
 intro k hk
 by_cases hlt:k < c.aG.length
 ·have dl:decide ((k:Int) < (c.aG.length:Int))=true:=decide_eq_true (by omega)
  obtain ⟨mn,rk,w,ms,ra,rb,rc,rd,e,hmt,hrt,hrk,hb1,hb2,h01,h02,hrk2⟩:=rank_of2 hg (k:=k) hlt
  have hra:rkAt c k=rk.toNat:=by unfold rkAt;rw [hrk2];rfl
  have s0:menM c 0 (k+1)=if rkAt c k=0 then menM c 0 k ||| 2 ^ k else menM c 0 k:=rfl
  have s1:menM c 1 (k+1)=if rkAt c k=1 then menM c 1 k ||| 2 ^ k else menM c 1 k:=rfl
  have s2:menM c 2 (k+1)=if rkAt c k=2 then menM c 2 k ||| 2 ^ k else menM c 2 k:=rfl
  have b0:=menM_32 (c:=c) 0 (k:=k) (by omega)
  have b1:=menM_32 (c:=c) 1 (k:=k) (by omega)
  have b2:=menM_32 (c:=c) 2 (k:=k) (by omega)
  have bk:2 ^ k < 32:=by
   have:(2:Nat) ^ k≤2 ^ 4:=Nat.pow_le_pow_right (by decide) (by omega)
   omega
  rw [hra] at s0 s1 s2
  have hk8:k < 8:=by omega
  generalize menM c 0 k=x0 at *
  generalize menM c 1 k=x1 at *
  generalize menM c 2 k=x2 at *
  obtain hz|hz|hz:rk=0∨rk=1∨rk=2:=by omega
  ·subst hz
   rw [if_pos (by rfl)] at s0
   rw [if_neg (by decide)] at s1 s2
   refine aa (mu:=fun t=>Nat.beq t 4) ?_
   repeat' (first |((with_reducible show iQ _ _ _ _ _ _ _ _ _);refine RM.bshl64 (j:=k) rfl rfl hk8 ?_) |((with_reducible show iQ _ _ _ _ _ _ _ _ _);refine RM.bori (m:=x0) (n:=2 ^ k) rfl rfl (by omega) (by omega) ?_) |refine u1 ?_ |(refine ⟨[ST mn,ah 0,ah w,BB ms],⟨by omega,hmt⟩,rfl,?_⟩) |refine u2 ?_ |fail)
   exact ⟨k+1,hlt,(by dsimp only;omega),aj.to (l:=[(2,.pt (aF c) 0),(3,.pt (ePln p) 0),(4,.ptr 0 0 0),(5,ah 0),(19,.sl (c.aG.map bp) false),(20,ah (c.aG.length:Int)),(21,ah ((k+1):Nat))]) (hp:=[.cells (eRot c p (menM c 0 (k+1)) (menM c 1 (k+1)) (menM c 2 (k+1))) 0 0]) 1 (by show _=[AB.cells (eRot c p (menM c 0 (k+1)) (menM c 1 (k+1)) (menM c 2 (k+1))) 0 0];rw [s0,s1,s2];rfl) ⟨rfl,rfl,rfl,rfl,rfl,rfl,cK (by simp),trivial⟩ (Nat.zero_le _) rfl rfl⟩
  ·subst hz
   rw [if_pos (by rfl)] at s1
   rw [if_neg (by decide)] at s0 s2
   refine aa (mu:=fun t=>Nat.beq t 4) ?_
   repeat' (first |((with_reducible show iQ _ _ _ _ _ _ _ _ _);refine RM.bshl64 (j:=k) rfl rfl hk8 ?_) |((with_reducible show iQ _ _ _ _ _ _ _ _ _);refine RM.bori (m:=x1) (n:=2 ^ k) rfl rfl (by omega) (by omega) ?_) |refine u1 ?_ |(refine ⟨[ST mn,ah 1,ah w,BB ms],⟨by omega,hmt⟩,rfl,?_⟩) |refine u2 ?_ |fail)
   exact ⟨k+1,hlt,(by dsimp only;omega),aj.to (l:=[(2,.pt (aF c) 0),(3,.pt (ePln p) 0),(4,.ptr 0 0 0),(5,ah 0),(19,.sl (c.aG.map bp) false),(20,ah (c.aG.length:Int)),(21,ah ((k+1):Nat))]) (hp:=[.cells (eRot c p (menM c 0 (k+1)) (menM c 1 (k+1)) (menM c 2 (k+1))) 0 0]) 1 (by show _=[AB.cells (eRot c p (menM c 0 (k+1)) (menM c 1 (k+1)) (menM c 2 (k+1))) 0 0];rw [s0,s1,s2];rfl) ⟨rfl,rfl,rfl,rfl,rfl,rfl,cK (by simp),trivial⟩ (Nat.zero_le _) rfl rfl⟩
  ·subst hz
   rw [if_pos (by rfl)] at s2
   rw [if_neg (by decide)] at s0 s1
   refine aa (mu:=fun t=>Nat.beq t 4) ?_
   repeat' (first |((with_reducible show iQ _ _ _ _ _ _ _ _ _);refine RM.bshl64 (j:=k) rfl rfl hk8 ?_) |((with_reducible show iQ _ _ _ _ _ _ _ _ _);refine RM.bori (m:=x2) (n:=2 ^ k) rfl rfl (by omega) (by omega) ?_) |refine u1 ?_ |(refine ⟨[ST mn,ah 2,ah w,BB ms],⟨by omega,hmt⟩,rfl,?_⟩) |refine u2 ?_ |fail)
   exact ⟨k+1,hlt,(by dsimp only;omega),aj.to (l:=[(2,.pt (aF c) 0),(3,.pt (ePln p) 0),(4,.ptr 0 0 0),(5,ah 0),(19,.sl (c.aG.map bp) false),(20,ah (c.aG.length:Int)),(21,ah ((k+1):Nat))]) (hp:=[.cells (eRot c p (menM c 0 (k+1)) (menM c 1 (k+1)) (menM c 2 (k+1))) 0 0]) 1 (by show _=[AB.cells (eRot c p (menM c 0 (k+1)) (menM c 1 (k+1)) (menM c 2 (k+1))) 0 0];rw [s0,s1,s2];rfl) ⟨rfl,rfl,rfl,rfl,rfl,rfl,cK (by simp),trivial⟩ (Nat.zero_le _) rfl rfl⟩
 ·have dl:decide ((k:Int) < (c.aG.length:Int))=false:=decide_eq_false (by omega)
  have hkn:k=c.aG.length:=by omega
  subst hkn
  refine aa (mu:=fun t=>Nat.beq t 4) ?_
  repeat' (first |refine u1 ?_ |refine u2 ?_ |fail)
  exact ⟨[_,_],⟨Fz.deep rfl,Fz.deep rfl,trivial⟩,rfl⟩
end Go.Proofs.YtlpmfgmldmdggaaGreat
open Go Go.RM
namespace Go.Proofs.YtlpmfgmldmdggaaGreat
set_option maxRecDepth 100000
set_option maxHeartbeats 4000000
def inA (l:List Int) (p:Nat):Int:=l.getD p 0
theorem inA_el {l:List Int} {q:Nat} (h:q < l.length):l[q]?=some (inA l q):=by
 unfold inA
 rw [List.getD_eq_getElem?_getD,List.getElem?_eq_getElem h]
 rfl
theorem inA_at {l:List Int} {k:Nat} (h:k < l.length):(ints l)[((k:Nat):Int).toNat]?=some (eI (inA l k)):=by
 rw [bG h]
 have:=inA_el h
 rw [List.getElem?_eq_getElem h] at this
 rw [Option.some.inj this]
def dscB (l:List Int):Bool:=(List.range (l.length - 1)).any fun j=>decide (inA l (j+1)≤inA l j)
def cntR (c:ay) (r k:Nat):Nat:=(List.range k).countP fun m=>decide (rkAt c m=r)
def gonR (c:ay) (l:List Int) (r k:Nat):Nat:=(List.range k).countP fun m=>decide (rkAt c m=r) && hsV l (m:Nat)
theorem cntR_succ (c:ay) (r k:Nat):cntR c r (k+1)=cntR c r k+if rkAt c k=r then 1 else 0:=by
 unfold cntR
 rw [List.range_succ,List.countP_append]
 by_cases h:rkAt c k=r
 ·rw [if_pos h];simp [h]
 ·rw [if_neg h];simp [h]
theorem gonR_succ (c:ay) (l:List Int) (r k:Nat):gonR c l r (k+1)=gonR c l r k+if rkAt c k=r∧hsV l (k:Nat)=true then 1 else 0:=by
 unfold gonR
 rw [List.range_succ,List.countP_append]
 by_cases h:rkAt c k=r
 ·by_cases h2:hsV l (k:Nat)=true
  ·rw [if_pos ⟨h,h2⟩];simp [h,h2]
  ·rw [if_neg (fun hh=>h2 hh.2)];simp [h,h2]
 ·rw [if_neg (fun hh=>h hh.1)];simp [h]
theorem cntR_le (c:ay) (r k:Nat):cntR c r k≤k:=by
 unfold cntR
 have:=List.countP_le_length (p:=fun m=>decide (rkAt c m=r)) (l:=List.range k)
 rwa [List.length_range] at this
theorem gonR_le (c:ay) (l:List Int) (r k:Nat):gonR c l r k≤k:=by
 unfold gonR
 have:=List.countP_le_length (p:=fun m=>decide (rkAt c m=r) && hsV l (m:Nat)) (l:=List.range k)
 rwa [List.length_range] at this
def rkGone (c:ay) (l:List Int) (r:Nat):Bool:=decide (0 < cntR c r c.aG.length) && decide (gonR c l r c.aG.length=cntR c r c.aG.length)
def anyGone (c:ay) (l:List Int):Bool:=(List.range c.aA.length).any fun r=>rkGone c l r
def tr5 (c:ay) (l:List Int):Int:=if anyGone c l=true then 8 else 0
def tr4 (c:ay) (b l:List Int):Int:=if (l.any fun x=>hsV b x)=true then 5 else tr5 c l
def tr3 (c:ay) (w:Int) (b l:List Int):Int:=if w < l.length then 3 else tr4 c b l
def tr2 (c:ay) (w:Int) (b l:List Int):Int:=if dscB l=true then 2 else tr3 c w b l
def trE (c:ay) (w:Int) (b l:List Int):Int:=if ec 0 ((c.aG.length:Int) - 1) l=true then 4 else tr2 c w b l
noncomputable def b93:Code:=Tryz.f93.body.getD .skip
noncomputable def t93a:Code:=Ar (Ar b93)
noncomputable def t93b:Code:=Ar t93a
noncomputable def t93c:Code:=Ar t93b
noncomputable def t93d:Code:=Ar t93c
theorem turn5 (one:Bool) (c:ay) (hg:Good c) (p:Pln) (b l:List Int) (fb fl:Bool) (_hb:b.length≤maxLen) (hl:l.length≤maxLen):aC TT TB one t93d ⟨bM [(2,.sl (ints b) fb),(3,.sl (ints l) fl),(4,.pt (aF c) 0),(5,.pt (ePln p) 0)],[],bw.none,false,0⟩ (wK TT Tryz.f93.results.toList (ah (tr5 c l))):=by
 have em:((c.aG.map bp).length:Int)=c.aG.length:=by simp
 have eg:((c.aA.map bA).length:Int)=c.aA.length:=by simp
 have hm5:=hg.aG
 have hr3:=hg.aA
 refine aa (mu:=fun _=>false) ?_
 show kE _ _ _ _ (.seq (.seq (.region _ _ false) _) _) _ _
 repeat' (first |refine u1 ?_ |refine u2 ?_ |fail)
 refine aC.bx (aj.to (l:=[(2,.sl (ints b) fb),(3,.sl (ints l) fl),(4,.pt (aF c) 0),(5,.pt (ePln p) 0),(12,ah (0:Nat))]) (hp:=[]) 0 rfl ⟨rfl,rfl,rfl,rfl,rfl,trivial⟩ (Nat.zero_le _) rfl rfl) ?_
 refine aC.loop (fun k:Nat=>k≤c.aA.length∧∀ r,r < k→rkGone c l r=false) (fun k=>⟨bM [(2,.sl (ints b) fb),(3,.sl (ints l) fl),(4,.pt (aF c) 0),(5,.pt (ePln p) 0),(12,ah (k:Nat))],[],bw.none,false,0⟩) (fun k=>c.aA.length - k) ?_ 0 ⟨Nat.zero_le _,fun r hr=>absurd hr (Nat.not_lt_zero r)⟩
 rintro k ⟨hk,hno⟩
 by_cases hlt:k < c.aA.length
 ·have dl:decide ((k:Int) < ((c.aA.map bA).length:Int))=true:=decide_eq_true (by omega)
  refine aa (mu:=fun _=>false) ?_
  repeat' (first |refine u1 ?_ |refine u2 ?_ |fail)
  refine aC.bx (aj.to (l:=[(2,.sl (ints b) fb),(3,.sl (ints l) fl),(4,.pt (aF c) 0),(5,.pt (ePln p) 0),(12,ah (k:Nat)),(13,ah (cntR c k 0:Nat)),(14,ah (gonR c l k 0:Nat)),(15,ah (0:Nat))]) (hp:=[]) 0 rfl ⟨rfl,rfl,rfl,rfl,rfl,rfl,rfl,rfl,trivial⟩ (Nat.zero_le _) rfl rfl) ?_
  refine aC.loop (fun m:Nat=>m≤c.aG.length) (fun m=>⟨bM [(2,.sl (ints b) fb),(3,.sl (ints l) fl),(4,.pt (aF c) 0),(5,.pt (ePln p) 0),(12,ah (k:Nat)),(13,ah (cntR c k m:Nat)),(14,ah (gonR c l k m:Nat)),(15,ah (m:Nat))],[],bw.none,false,0⟩) (fun m=>c.aG.length - m) ?_ 0 (Nat.zero_le _)
  intro m hm
  have b1:=cntR_le c k m
  have b2:=gonR_le c l k m
  by_cases hmt:m < c.aG.length
  ·have d2:decide ((m:Int) < ((c.aG.map bp).length:Int))=true:=decide_eq_true (by omega)
   obtain ⟨mn,rk,w,ms,ra,rb,rc,rd,e,hmt2,hrt,hrk,hb1,hb2,h01,h02,hrk2⟩:=rank_of2 hg (k:=m) hmt
   have hra:rkAt c m=rk.toNat:=by unfold rkAt;rw [hrk2];rfl
   have s1:=cntR_succ c k m
   have s2:=gonR_succ c l k m
   rw [hra] at s1 s2
   have o1:=has_c one l fl hl (m:Nat)
   generalize cntR c k m=x at *
   generalize gonR c l k m=y at *
   cases e1:decide (rk=(k:Int)) with
   | false =>
    have hne:¬ rk.toNat=k:=by have:=of_decide_eq_false e1;omega
    rw [if_neg hne] at s1
    rw [if_neg (fun hh=>hne hh.1)] at s2
    refine aa (mu:=fun _=>false) ?_
    repeat' (first |refine u1 ?_ |(refine ⟨[ST mn,ah rk,ah w,BB ms],⟨by omega,hmt2⟩,rfl,?_⟩) |refine u2 ?_ |fail)
    exact ⟨m+1,hmt,(by dsimp only;omega),aj.to 0 rfl ⟨rfl,rfl,rfl,rfl,rfl,cK (by rw [s1];rfl),cK (by rw [s2];rfl),cK (by simp),trivial⟩ (Nat.zero_le _) rfl rfl⟩
   | true =>
    have he:rk.toNat=k:=by have:=of_decide_eq_true e1;omega
    rw [if_pos he] at s1
    cases e2:hsV l (m:Nat) with
    | false =>
     rw [e2] at o1 s2
     rw [if_neg (fun hh=>Bool.noConfusion hh.2)] at s2
     refine aa (mu:=fun _=>false) ?_
     repeat' (first |((with_reducible show ai _ _ _ _ _ _ _ _);refine af.call o1 rfl rfl ?_) |refine u1 ?_ |(refine ⟨[ST mn,ah rk,ah w,BB ms],⟨by omega,hmt2⟩,rfl,?_⟩) |refine u2 ?_ |fail)
     exact ⟨m+1,hmt,(by dsimp only;omega),aj.to 0 rfl ⟨rfl,rfl,rfl,rfl,rfl,cK (by rw [s1];rfl),cK (by rw [s2];rfl),cK (by simp),trivial⟩ (Nat.zero_le _) rfl rfl⟩
    | true =>
     rw [e2] at o1 s2
     rw [if_pos ⟨he,rfl⟩] at s2
     refine aa (mu:=fun _=>false) ?_
     repeat' (first |((with_reducible show ai _ _ _ _ _ _ _ _);refine af.call o1 rfl rfl ?_) |refine u1 ?_ |(refine ⟨[ST mn,ah rk,ah w,BB ms],⟨by omega,hmt2⟩,rfl,?_⟩) |refine u2 ?_ |fail)
     exact ⟨m+1,hmt,(by dsimp only;omega),aj.to 0 rfl ⟨rfl,rfl,rfl,rfl,rfl,cK (by rw [s1];rfl),cK (by rw [s2];rfl),cK (by simp),trivial⟩ (Nat.zero_le _) rfl rfl⟩
  ·have d2:decide ((m:Int) < ((c.aG.map bp).length:Int))=false:=decide_eq_false (by omega)
   have hmn:m=c.aG.length:=by omega
   subst hmn
   have hrg:rkGone c l k=(decide (0 < cntR c k c.aG.length) && decide (gonR c l k c.aG.length=cntR c k c.aG.length)):=rfl
   have hall:rkGone c l k=true→anyGone c l=true:=fun h=>List.any_eq_true.2 ⟨k,List.mem_range.2 hlt,h⟩
   generalize cntR c k c.aG.length=x at *
   generalize gonR c l k c.aG.length=y at *
   cases e1:decide ((0:Int) < (x:Int)) with
   | false =>
    have f1:decide (0 < x)=false:=decide_eq_false (by have:=of_decide_eq_false e1;omega)
    rw [f1] at hrg
    refine aa (mu:=fun _=>false) ?_
    repeat' (first |refine u1 ?_ |refine u2 ?_ |fail)
    exact ⟨k+1,⟨hlt,fun r hr=>by
     by_cases h:r=k
     ·rw [h];exact hrg
     ·exact hno r (by omega)⟩,(by dsimp only;omega),aj.to 0 rfl ⟨rfl,rfl,rfl,rfl,cK (by simp),trivial⟩ (Nat.zero_le _) rfl rfl⟩
   | true =>
    have f1:decide (0 < x)=true:=decide_eq_true (by have:=of_decide_eq_true e1;omega)
    rw [f1] at hrg
    cases e2:decide ((y:Int)=(x:Int)) with
    | false =>
     have f2:decide (y=x)=false:=decide_eq_false (by have:=of_decide_eq_false e2;omega)
     rw [f2] at hrg
     refine aa (mu:=fun _=>false) ?_
     repeat' (first |refine u1 ?_ |refine u2 ?_ |fail)
     exact ⟨k+1,⟨hlt,fun r hr=>by
      by_cases h:r=k
      ·rw [h];exact hrg
      ·exact hno r (by omega)⟩,(by dsimp only;omega),aj.to 0 rfl ⟨rfl,rfl,rfl,rfl,cK (by simp),trivial⟩ (Nat.zero_le _) rfl rfl⟩
    | true =>
     have f2:decide (y=x)=true:=decide_eq_true (by have:=of_decide_eq_true e2;omega)
     rw [f2] at hrg
     have hz:=hall hrg
     have hv:tr5 c l=8:=by unfold tr5;rw [if_pos hz]
     rw [hv]
     refine aa (mu:=fun _=>false) ?_
     repeat' (first |refine u1 ?_ |refine u2 ?_ |fail)
     exact ⟨[_],⟨Fz.deep rfl,trivial⟩,rfl⟩
 ·have dl:decide ((k:Int) < ((c.aA.map bA).length:Int))=false:=decide_eq_false (by omega)
  have hv:tr5 c l=0:=by
   unfold tr5
   rw [if_neg]
   intro h
   obtain ⟨r,h1,h2⟩:=List.any_eq_true.1 h
   have:=List.mem_range.1 h1
   rw [hno r (by omega)] at h2
   cases h2
  rw [hv]
  refine aa (mu:=fun _=>false) ?_
  repeat' (first |refine u1 ?_ |refine u2 ?_ |fail)
  exact ⟨[_],⟨Fz.deep rfl,trivial⟩,rfl⟩
theorem turn4 (one:Bool) (c:ay) (hg:Good c) (p:Pln) (b l:List Int) (fb fl:Bool) (_hb:b.length≤maxLen) (hl:l.length≤maxLen):aC TT TB one t93c ⟨bM [(2,.sl (ints b) fb),(3,.sl (ints l) fl),(4,.pt (aF c) 0),(5,.pt (ePln p) 0)],[],bw.none,false,0⟩ (wK TT Tryz.f93.results.toList (ah (tr4 c b l))):=by
 have el:((ints l).length:Int)=l.length:=by simp
 have hl':l.length≤maxLen:=hl
 simp only [maxLen] at hl'
 show aC TT TB one (.seq (.seq (.region _ _ false) _) t93d) _ _
 refine RM.cutAtP ⟨bM [(2,.sl (ints b) fb),(3,.sl (ints l) fl),(4,.pt (aF c) 0),(5,.pt (ePln p) 0)],[],bw.none,false,0⟩ (tr4 c b l=tr5 c l) ?_ (fun hv=>by rw [hv];exact turn5 one c hg p b l fb fl _hb hl)
 refine aa (mu:=fun _=>false) ?_
 repeat' (first |refine u1 ?_ |refine u2 ?_ |fail)
 refine aC.bx (aj.to (l:=[(2,.sl (ints b) fb),(3,.sl (ints l) fl),(4,.pt (aF c) 0),(5,.pt (ePln p) 0),(11,ah (0:Nat))]) (hp:=[]) 0 rfl ⟨rfl,rfl,rfl,rfl,rfl,trivial⟩ (Nat.zero_le _) rfl rfl) ?_
 refine aC.loop (fun k:Nat=>k≤l.length∧∀ j,j < k→hsV b (inA l j)=false) (fun k=>⟨bM [(2,.sl (ints b) fb),(3,.sl (ints l) fl),(4,.pt (aF c) 0),(5,.pt (ePln p) 0),(11,ah (k:Nat))],[],bw.none,false,0⟩) (fun k=>l.length - k) ?_ 0 ⟨Nat.zero_le _,fun r hr=>absurd hr (Nat.not_lt_zero r)⟩
 rintro k ⟨hk,hno⟩
 by_cases hlt:k < l.length
 ·have dl:decide ((k:Int) < ((ints l).length:Int))=true:=decide_eq_true (by omega)
  have hat:=inA_at hlt
  have hmem:=List.mem_of_getElem? (inA_el hlt)
  have hall:hsV b (inA l k)=true→(l.any fun x=>hsV b x)=true:=fun h=>List.any_eq_true.2 ⟨_,hmem,h⟩
  have hnx:hsV b (inA l k)=false→∀ j,j < k+1→hsV b (inA l j)=false:=fun h j hj=>by
   by_cases e:j=k
   ·rw [e];exact h
   ·exact hno j (by omega)
  generalize inA l k=z at *
  have o1:=has_c one b fb _hb z
  cases e:hsV b z with
  | true =>
   rw [e] at o1
   have hv:tr4 c b l=5:=by unfold tr4;rw [if_pos (hall e)]
   rw [hv]
   refine aa (mu:=fun _=>false) ?_
   repeat' (first |((with_reducible show ai _ _ _ _ _ _ _ _);refine af.call o1 rfl rfl ?_) |refine u1 ?_ |(refine ⟨[ah z],⟨by omega,hat⟩,rfl,?_⟩) |refine u2 ?_ |fail)
   exact ⟨[_],⟨Fz.deep rfl,trivial⟩,rfl⟩
  | false =>
   rw [e] at o1
   refine aa (mu:=fun _=>false) ?_
   repeat' (first |((with_reducible show ai _ _ _ _ _ _ _ _);refine af.call o1 rfl rfl ?_) |refine u1 ?_ |(refine ⟨[ah z],⟨by omega,hat⟩,rfl,?_⟩) |refine u2 ?_ |fail)
   exact ⟨k+1,⟨hlt,hnx e⟩,(by dsimp only;omega),aj.to 0 rfl ⟨rfl,rfl,rfl,rfl,cK (by simp),trivial⟩ (Nat.zero_le _) rfl rfl⟩
 ·have dl:decide ((k:Int) < ((ints l).length:Int))=false:=decide_eq_false (by omega)
  have hv:tr4 c b l=tr5 c l:=by
   unfold tr4
   rw [if_neg]
   intro h
   obtain ⟨x,h1,h2⟩:=List.any_eq_true.1 h
   obtain ⟨j,hj,hjx⟩:=List.getElem_of_mem h1
   have h3:=inA_el hj
   rw [List.getElem?_eq_getElem hj] at h3
   have h4:=hno j (by omega)
   rw [←Option.some.inj h3,hjx,h2] at h4
   cases h4
  refine aa (mu:=fun _=>false) ?_
  repeat' (first |refine u1 ?_ |refine u2 ?_ |fail)
  exact .is (aj.to (l:=[(2,.sl (ints b) fb),(3,.sl (ints l) fl),(4,.pt (aF c) 0),(5,.pt (ePln p) 0)]) (hp:=[]) 0 rfl ⟨rfl,rfl,rfl,rfl,trivial⟩ (Nat.zero_le _) rfl rfl) hv
theorem turn3 (one:Bool) (c:ay) (hg:Good c) (p:Pln) (b l:List Int) (fb fl:Bool) (_hb:b.length≤maxLen) (hl:l.length≤maxLen):aC TT TB one t93b ⟨bM [(2,.sl (ints b) fb),(3,.sl (ints l) fl),(4,.pt (aF c) 0),(5,.pt (ePln p) 0)],[],bw.none,false,0⟩ (wK TT Tryz.f93.results.toList (ah (tr3 c p.away b l))):=by
 have el:((ints l).length:Int)=l.length:=by simp
 by_cases h:p.away < l.length
 ·have d1:decide (p.away < ((ints l).length:Int))=true:=decide_eq_true (by omega)
  have hv:tr3 c p.away b l=3:=by unfold tr3;rw [if_pos h]
  rw [hv]
  refine aa (mu:=fun _=>false) ?_
  show kE _ _ _ _ (.seq (.seq (.region _ _ false) _) t93c) _ _
  repeat' (first |refine u1 ?_ |refine u2 ?_ |fail)
  exact ⟨[_],⟨Fz.deep rfl,trivial⟩,rfl⟩
 ·have d1:decide (p.away < ((ints l).length:Int))=false:=decide_eq_false (by omega)
  have hv:tr3 c p.away b l=tr4 c b l:=by unfold tr3;rw [if_neg h]
  rw [hv]
  show aC TT TB one (.seq (.seq (.region _ _ false) _) t93c) _ _
  refine RM.cutAt (st':=⟨bM [(2,.sl (ints b) fb),(3,.sl (ints l) fl),(4,.pt (aF c) 0),(5,.pt (ePln p) 0)],[],bw.none,false,0⟩) ?_ (turn4 one c hg p b l fb fl _hb hl)
  refine aa (mu:=fun _=>false) ?_
  repeat' (first |refine u1 ?_ |refine u2 ?_ |fail)
  exact .is (aj.to (l:=[(2,.sl (ints b) fb),(3,.sl (ints l) fl),(4,.pt (aF c) 0),(5,.pt (ePln p) 0)]) (hp:=[]) 0 rfl ⟨rfl,rfl,rfl,rfl,trivial⟩ (Nat.zero_le _) rfl rfl)
theorem turn2 (one:Bool) (c:ay) (hg:Good c) (p:Pln) (b l:List Int) (fb fl:Bool) (_hb:b.length≤maxLen) (hl:l.length≤maxLen):aC TT TB one t93a ⟨bM [(2,.sl (ints b) fb),(3,.sl (ints l) fl),(4,.pt (aF c) 0),(5,.pt (ePln p) 0)],[],bw.none,false,0⟩ (wK TT Tryz.f93.results.toList (ah (tr2 c p.away b l))):=by
 have el:((ints l).length:Int)=l.length:=by simp
 have hl':l.length≤maxLen:=hl
 simp only [maxLen] at hl'
 show aC TT TB one (.seq (.seq (.region _ _ false) _) t93b) _ _
 refine RM.cutAtP ⟨bM [(2,.sl (ints b) fb),(3,.sl (ints l) fl),(4,.pt (aF c) 0),(5,.pt (ePln p) 0)],[],bw.none,false,0⟩ (tr2 c p.away b l=tr3 c p.away b l) ?_ (fun hv=>by rw [hv];exact turn3 one c hg p b l fb fl _hb hl)
 refine aa (mu:=fun _=>false) ?_
 repeat' (first |refine u1 ?_ |refine u2 ?_ |fail)
 refine aC.bx (aj.to (l:=[(2,.sl (ints b) fb),(3,.sl (ints l) fl),(4,.pt (aF c) 0),(5,.pt (ePln p) 0),(10,ah ((0:Nat)+1))]) (hp:=[]) 0 rfl ⟨rfl,rfl,rfl,rfl,rfl,trivial⟩ (Nat.zero_le _) rfl rfl) ?_
 refine aC.loop (fun k:Nat=>k≤l.length - 1∧∀ j,j < k→¬ inA l (j+1)≤inA l j) (fun k=>⟨bM [(2,.sl (ints b) fb),(3,.sl (ints l) fl),(4,.pt (aF c) 0),(5,.pt (ePln p) 0),(10,ah ((k:Nat)+1))],[],bw.none,false,0⟩) (fun k=>l.length - k) ?_ 0 ⟨Nat.zero_le _,fun r hr=>absurd hr (Nat.not_lt_zero r)⟩
 rintro k ⟨hk,hno⟩
 by_cases hlt:k+1 < l.length
 ·have dl:decide ((k:Int)+1 < ((ints l).length:Int))=true:=decide_eq_true (by omega)
  have hat:=inA_at (show k < l.length by omega)
  have hat2:=inA_at hlt
  have hall:inA l (k+1)≤inA l k→dscB l=true:=fun h=>List.any_eq_true.2 ⟨k,List.mem_range.2 (by omega),decide_eq_true h⟩
  have hnx:¬ inA l (k+1)≤inA l k→∀ j,j < k+1→¬ inA l (j+1)≤inA l j:=fun h j hj=>by
   by_cases e:j=k
   ·rw [e];exact h
   ·exact hno j (by omega)
  generalize inA l k=z at *
  generalize inA l (k+1)=y at *
  have e1:((k:Int)+1).toNat=(((k+1:Nat)):Int).toNat:=by omega
  have e2:((k:Int)+1 - 1).toNat=((k:Nat):Int).toNat:=by omega
  rw [←e1] at hat2
  rw [←e2] at hat
  cases e:decide (y≤z) with
  | true =>
   have hv:tr2 c p.away b l=2:=by unfold tr2;rw [if_pos (hall (of_decide_eq_true e))]
   rw [hv]
   refine aa (mu:=fun _=>false) ?_
   repeat' (first |refine u1 ?_ |(refine ⟨[ah y],⟨by omega,hat2⟩,rfl,?_⟩) |(refine ⟨[ah z],⟨by omega,hat⟩,rfl,?_⟩) |refine u2 ?_ |fail)
   exact ⟨[_],⟨Fz.deep rfl,trivial⟩,rfl⟩
  | false =>
   refine aa (mu:=fun _=>false) ?_
   repeat' (first |refine u1 ?_ |(refine ⟨[ah y],⟨by omega,hat2⟩,rfl,?_⟩) |(refine ⟨[ah z],⟨by omega,hat⟩,rfl,?_⟩) |refine u2 ?_ |fail)
   exact ⟨k+1,⟨by omega,hnx (of_decide_eq_false e)⟩,(by dsimp only;omega),aj.to 0 rfl ⟨rfl,rfl,rfl,rfl,cK (by simp),trivial⟩ (Nat.zero_le _) rfl rfl⟩
 ·have dl:decide ((k:Int)+1 < ((ints l).length:Int))=false:=decide_eq_false (by omega)
  have hv:tr2 c p.away b l=tr3 c p.away b l:=by
   unfold tr2
   rw [if_neg]
   intro h
   obtain ⟨j,h1,h2⟩:=List.any_eq_true.1 h
   have:=List.mem_range.1 h1
   exact hno j (by omega) (of_decide_eq_true h2)
  refine aa (mu:=fun _=>false) ?_
  repeat' (first |refine u1 ?_ |refine u2 ?_ |fail)
  exact .is (aj.to (l:=[(2,.sl (ints b) fb),(3,.sl (ints l) fl),(4,.pt (aF c) 0),(5,.pt (ePln p) 0)]) (hp:=[]) 0 rfl ⟨rfl,rfl,rfl,rfl,trivial⟩ (Nat.zero_le _) rfl rfl) hv
theorem turn_c (one:Bool) (c:ay) (hg:Good c) (p:Pln) (b l:List Int) (fb fl:Bool) (_hb:b.length≤maxLen) (hl:l.length≤maxLen):Pu one 93 [.ag (aF c),.ag (ePln p),.sl (ints b) fb,.sl (ints l) fl] (ah (trE c p.away b l)):=by
 have em:((c.aG.map bp).length:Int)=c.aG.length:=by simp
 have el:((ints l).length:Int)=l.length:=by simp
 have hm5:=hg.aG
 have hl':l.length≤maxLen:=hl
 simp only [maxLen] at hl'
 refine af.body (fn:=Tryz.f93) rfl rfl rfl rfl ?_
 show aC TT TB one (.seq (.region _ _ _) (.seq (.seq (.region _ _ _) _) t93a)) _ _
 refine RM.qK (mu:=fun _=>false) ?_
 repeat' (first |refine u1 ?_ |refine u2 ?_ |fail)
 refine RM.cutAtP ⟨bM [(2,.sl (ints b) fb),(3,.sl (ints l) fl),(4,.pt (aF c) 0),(5,.pt (ePln p) 0)],[],bw.none,false,0⟩ (trE c p.away b l=tr2 c p.away b l) ?_ (fun hv=>by rw [hv];exact turn2 one c hg p b l fb fl _hb hl)
 refine aa (mu:=fun _=>false) ?_
 repeat' (first |refine u1 ?_ |refine u2 ?_ |fail)
 refine aC.bx (aj.to (l:=[(2,.sl (ints b) fb),(3,.sl (ints l) fl),(4,.pt (aF c) 0),(5,.pt (ePln p) 0),(9,ah (0:Nat))]) (hp:=[]) 0 rfl ⟨rfl,rfl,rfl,rfl,rfl,trivial⟩ (Nat.zero_le _) rfl rfl) ?_
 refine aC.loop (fun k:Nat=>k≤l.length∧∀ j,j < k→lP (inA l j) 0 ((c.aG.length:Int) - 1)=true) (fun k=>⟨bM [(2,.sl (ints b) fb),(3,.sl (ints l) fl),(4,.pt (aF c) 0),(5,.pt (ePln p) 0),(9,ah (k:Nat))],[],bw.none,false,0⟩) (fun k=>l.length - k) ?_ 0 ⟨Nat.zero_le _,fun r hr=>absurd hr (Nat.not_lt_zero r)⟩
 rintro k ⟨hk,hno⟩
 by_cases hlt:k < l.length
 ·have dl:decide ((k:Int) < ((ints l).length:Int))=true:=decide_eq_true (by omega)
  have hat:=inA_at hlt
  have hmem:=List.mem_of_getElem? (inA_el hlt)
  have hall:lP (inA l k) 0 ((c.aG.length:Int) - 1)=false→ec 0 ((c.aG.length:Int) - 1) l=true:=fun h=>List.any_eq_true.2 ⟨_,hmem,by
   have h2:=bD (inA l k) 0 ((c.aG.length:Int) - 1)
   rw [h] at h2
   unfold ec at h2
   simpa using h2⟩
  have hnx:lP (inA l k) 0 ((c.aG.length:Int) - 1)=true→∀ j,j < k+1→lP (inA l j) 0 ((c.aG.length:Int) - 1)=true:=fun h j hj=>by
   by_cases e:j=k
   ·rw [e];exact h
   ·exact hno j (by omega)
  generalize inA l k=z at *
  have o1:=iH true z 0 ((c.aG.length:Int) - 1)
  rw [←em] at o1
  cases e:lP z 0 ((c.aG.length:Int) - 1) with
  | false =>
   rw [em,e,←em] at o1
   have hv:trE c p.away b l=4:=by unfold trE;rw [if_pos (hall e)]
   rw [hv]
   refine aa (mu:=fun _=>false) ?_
   repeat' (first |(refine ⟨_,_,.inl ⟨rfl,rfl⟩,o1,?_⟩) |refine u1 ?_ |(refine ⟨[ah z],⟨by omega,hat⟩,rfl,?_⟩) |refine u2 ?_ |fail)
   exact ⟨[_],⟨Fz.deep rfl,trivial⟩,rfl⟩
  | true =>
   rw [em,e,←em] at o1
   refine aa (mu:=fun _=>false) ?_
   repeat' (first |(refine ⟨_,_,.inl ⟨rfl,rfl⟩,o1,?_⟩) |refine u1 ?_ |(refine ⟨[ah z],⟨by omega,hat⟩,rfl,?_⟩) |refine u2 ?_ |fail)
   exact ⟨k+1,⟨hlt,hnx e⟩,(by dsimp only;omega),aj.to 0 rfl ⟨rfl,rfl,rfl,rfl,cK (by simp),trivial⟩ (Nat.zero_le _) rfl rfl⟩
 ·have dl:decide ((k:Int) < ((ints l).length:Int))=false:=decide_eq_false (by omega)
  have hv:trE c p.away b l=tr2 c p.away b l:=by
   unfold trE
   rw [if_neg]
   intro h
   obtain ⟨x,h1,h2⟩:=List.any_eq_true.1 h
   obtain ⟨j,hj,hjx⟩:=List.getElem_of_mem h1
   have h3:=inA_el hj
   rw [List.getElem?_eq_getElem hj] at h3
   have h4:=cM.1 (hno j (by omega))
   rw [←Option.some.inj h3,hjx] at h4
   simp only [Bool.or_eq_true,decide_eq_true_eq] at h2
   omega
  refine aa (mu:=fun _=>false) ?_
  repeat' (first |refine u1 ?_ |refine u2 ?_ |fail)
  exact .is (aj.to (l:=[(2,.sl (ints b) fb),(3,.sl (ints l) fl),(4,.pt (aF c) 0),(5,.pt (ePln p) 0)]) (hp:=[]) 0 rfl ⟨rfl,rfl,rfl,rfl,trivial⟩ (Nat.zero_le _) rfl rfl) hv
end Go.Proofs.YtlpmfgmldmdggaaGreat
