/-
  Contracts of the program's functions and of the document's. Lemmas alone; their conditions stand in them.
-/
import Derived.Test.YtpeogffeoehboaaDoorK4
import Derived.Test.YtpeogffeoehboaaDoorK5
import Derived.Test.YtpeogffeoehboaaDoorK7
open Go Go.RM
namespace Go.Proofs.YtpeogffeoehboaaDoor
set_option maxRecDepth 100000
set_option maxHeartbeats 4000000
theorem KA (one:Bool) (s:ay) (o:Order) (hl:s.needs.length≤9223372036854775807) (hc:o.aB.length≤maxLen):Pu one 73 [.sl (ints o.aB) false,aD ((s.needs.map aG).length:Int)] (aD (fS o.aB s.needs.length)):=by
 rw [show ((s.needs.map aG).length:Int)=s.needs.length by simp]
 exact uO one o.aB false s.needs.length hc hl
theorem B5 (one:Bool) {s:ay} (hg:Good s) (p:List Order) (full:Bool) (hp:B1 p):Pu one 48 [.ag (az s),.sl (p.map av) full] (.tp [aD (jr s p).1,aD (jr s p).2]):=by
 have ep:((p.map av).length:Int)=p.length:=by simp
 have mp:p.length≤9223372036854775807:=Nat.le_trans hp.len (by simp [maxLen])
 have hd:=hg.days
 have hl:=hg.len
 unfold jr
 by_cases c2:8 < p.length
 ·have d2:decide (8 < ((p.map av).length:Int))=true:=decide_eq_true (by rw [ep];omega)
  rw [if_pos c2]
  refine af.body (fn:=Tryd.f48) rfl rfl rfl rfl ?_
  refine ah (mu:=fun _=>false) ?_
  repeat' (first |refine u1 ?_ |refine u2 ?_ |fail)
  exact ⟨[_,_],⟨Fz.deep rfl,Fz.deep rfl,trivial⟩,rfl⟩
 have d2:decide (8 < ((p.map av).length:Int))=false:=decide_eq_false (by rw [ep];omega)
 rw [if_neg c2]
 refine af.body (fn:=Tryd.f48) rfl rfl rfl rfl ?_
 refine ah (mu:=fun _=>false) ?_
 repeat' (first |refine u1 ?_ |refine u2 ?_ |fail)
 refine aF.bf (ax.to (l:=[(1,.sl (p.map av) full),(2,.pt (az s) 0),(6,aD (0:Nat))]) (hp:=[]) 0 rfl ⟨rfl,rfl,rfl,trivial⟩ (Nat.zero_le _) rfl rfl) ?_
 refine aF.loop (fun k:Nat=>k≤p.length∧∀ i,i < k→fc s p i=0) (fun k=>⟨bZ [(1,.sl (p.map av) full),(2,.pt (az s) 0),(6,aD (k:Nat))],[],cF.none,false,0⟩) (fun k=>p.length - k) ?_ 0 ⟨Nat.zero_le _,fun i hi=>absurd hi (Nat.not_lt_zero _)⟩
 rintro k ⟨hk,hprev⟩
 refine ah (mu:=fun _=>false) ?_
 by_cases hlt:k < p.length
 ·have d1:decide ((k:Int) < ((p.map av).length:Int))=true:=decide_eq_true (by omega)
  have hat:(p.map av)[((k:Nat):Int).toNat]?=some (av p[k]):=bq hlt
  have hA:fc s p k=gI s p[k] (jq p k):=by unfold fc;rw [List.getElem?_eq_getElem hlt]
  have bad:∀ v,fc s p k=v→v ≠ 0→cy p.length (fc s p)=((k:Int),v):=fun v e hv=>by rw [fB hlt hprev (by rw [e];exact hv),e]
  have o1:=gP true p[k].day 0 (s.days - 1)
  have o2:=KA true s p[k] (by omega) (hp.aB _ (List.getElem_mem hlt))
  have mc:p[k].aB.length≤9223372036854775807:=Nat.le_trans (hp.aB _ (List.getElem_mem hlt)) (by simp [maxLen])
  have ec:((ints p[k].aB).length:Int)=p[k].aB.length:=by simp
  unfold gI at hA
  rw [aT] at hA
  cases k with
  | zero =>
   have hpd:jq p 0=-1:=rfl
   rw [hpd] at hA
   generalize p[0]=o at *
   cases c1:kQ o.day 0 (s.days - 1) with
   | false =>
    rw [c1] at o1 hA
    rw [bad 7 (by rw [hA];rfl) (by decide)]
    repeat' (first |refine u1 ?_ |((with_reducible show RM.wpOp _ _ (.indexAddr _ _ _) _ _ _);refine ⟨av o,⟨by omega,hat⟩,rfl,?_⟩) |refine u2 ?_ |fail)
    exact ⟨[_,_],⟨Fz.deep rfl,Fz.deep rfl,trivial⟩,rfl⟩
   | true =>
    have hin:=hJ.1 c1
    rw [c1] at o1 hA
    rw [if_neg (by simp),if_neg (by omega)] at hA
    repeat' (first |refine u1 ?_ |((with_reducible show RM.wpOp _ _ (.indexAddr _ _ _) _ _ _);refine ⟨av o,⟨by omega,hat⟩,rfl,?_⟩) |refine u2 ?_ |fail)
    by_cases c3:o.aB.length=0
    ·have d3:decide (((ints o.aB).length:Int)=0)=true:=decide_eq_true (by rw [ec];omega)
     rw [bad 3 (by rw [hA,if_pos c3]) (by decide)]
     repeat' (first |refine u1 ?_ |((with_reducible show RM.wpOp _ _ (.indexAddr _ _ _) _ _ _);refine ⟨av o,⟨by omega,hat⟩,rfl,?_⟩) |((with_reducible show RM.wpOp _ _ (.indexAddr _ _ _) _ _ _);refine ⟨av o',⟨by omega,hbt⟩,rfl,?_⟩) |refine u2 ?_ |fail)
     exact ⟨[_,_],⟨Fz.deep rfl,Fz.deep rfl,trivial⟩,rfl⟩
    have d3:decide (((ints o.aB).length:Int)=0)=false:=decide_eq_false (by rw [ec];omega)
    rw [if_neg c3] at hA
    by_cases c4:fS o.aB s.needs.length=0
    ·rw [if_neg (by omega)] at hA
     rw [c4] at o2
     obtain ⟨q1,q2,_⟩:=lQ c4
     have hw:=uM true hg o.aB false q2 q1
     have d4:decide ((0:Int)=0)=true:=by decide
     have d4':(!decide ((0:Int)=0))=false:=by decide
     have d4'':(!decide ((9:Int)=0))=true:=by decide
     by_cases c5:s.load < wE s o.aB
     ·have d5:=decide_eq_true c5
      rw [bad 9 (by rw [hA,if_pos c5]) (by decide)]
      repeat' (first |refine u1 ?_ |((with_reducible show RM.wpOp _ _ (.indexAddr _ _ _) _ _ _);refine ⟨av o,⟨by omega,hat⟩,rfl,?_⟩) |((with_reducible show RM.wpOp _ _ (.indexAddr _ _ _) _ _ _);refine ⟨av o',⟨by omega,hbt⟩,rfl,?_⟩) |(refine ⟨_,_,.inl ⟨rfl,rfl⟩,hw,?_⟩) |refine u2 ?_ |fail)
      exact ⟨[_,_],⟨Fz.deep rfl,Fz.deep rfl,trivial⟩,rfl⟩
     ·have d5:=decide_eq_false c5
      rw [if_neg c5] at hA
      repeat' (first |refine u1 ?_ |((with_reducible show RM.wpOp _ _ (.indexAddr _ _ _) _ _ _);refine ⟨av o,⟨by omega,hat⟩,rfl,?_⟩) |((with_reducible show RM.wpOp _ _ (.indexAddr _ _ _) _ _ _);refine ⟨av o',⟨by omega,hbt⟩,rfl,?_⟩) |(refine ⟨_,_,.inl ⟨rfl,rfl⟩,hw,?_⟩) |refine u2 ?_ |fail)
      refine ⟨0+1,⟨hlt,fun i hi=>?_⟩,(by dsimp only;omega),ax.to 0 rfl ⟨rfl,rfl,bg (by simp),trivial⟩ (Nat.zero_le _) rfl rfl⟩
      by_cases hik:i=0
      ·rw [hik];exact hA
      ·exact hprev i (by omega)
    ·rw [if_pos c4] at hA
     rw [bad _ hA c4]
     have d4:decide (fS o.aB s.needs.length=0)=false:=decide_eq_false c4
     have d4':(!decide (fS o.aB s.needs.length=0))=true:=by rw [d4];rfl
     generalize fS o.aB s.needs.length=e at *
     repeat' (first |refine u1 ?_ |((with_reducible show RM.wpOp _ _ (.indexAddr _ _ _) _ _ _);refine ⟨av o,⟨by omega,hat⟩,rfl,?_⟩) |((with_reducible show RM.wpOp _ _ (.indexAddr _ _ _) _ _ _);refine ⟨av o',⟨by omega,hbt⟩,rfl,?_⟩) |refine u2 ?_ |fail)
     exact ⟨[_,_],⟨Fz.deep rfl,Fz.deep rfl,trivial⟩,rfl⟩
  | succ m =>
   have hpd:jq p (m+1)=p[m].day:=sE (by omega)
   have d0:decide ((0:Int) < ((m+1:Nat):Int))=true:=decide_eq_true (by omega)
   have hbt:(p.map av)[(((m+1:Nat):Int) - 1).toNat]?=some (av p[m]):=by
    rw [show (((m+1:Nat):Int) - 1)=((m:Nat):Int) by omega]
    exact bq (by omega)
   rw [hpd] at hA
   generalize p[m+1]=o at *
   generalize p[m]=o' at *
   cases c1:kQ o.day 0 (s.days - 1) with
   | false =>
    rw [c1] at o1 hA
    rw [bad 7 (by rw [hA];rfl) (by decide)]
    repeat' (first |refine u1 ?_ |((with_reducible show RM.wpOp _ _ (.indexAddr _ _ _) _ _ _);refine ⟨av o,⟨by omega,hat⟩,rfl,?_⟩) |((with_reducible show RM.wpOp _ _ (.indexAddr _ _ _) _ _ _);refine ⟨av o',⟨by omega,hbt⟩,rfl,?_⟩) |refine u2 ?_ |fail)
    exact ⟨[_,_],⟨Fz.deep rfl,Fz.deep rfl,trivial⟩,rfl⟩
   | true =>
    rw [c1] at o1 hA
    rw [if_neg (by simp)] at hA
    by_cases c6:o.day≤o'.day
    ·have d6:=decide_eq_true c6
     rw [bad 2 (by rw [hA,if_pos c6]) (by decide)]
     repeat' (first |refine u1 ?_ |((with_reducible show RM.wpOp _ _ (.indexAddr _ _ _) _ _ _);refine ⟨av o,⟨by omega,hat⟩,rfl,?_⟩) |((with_reducible show RM.wpOp _ _ (.indexAddr _ _ _) _ _ _);refine ⟨av o',⟨by omega,hbt⟩,rfl,?_⟩) |refine u2 ?_ |fail)
     exact ⟨[_,_],⟨Fz.deep rfl,Fz.deep rfl,trivial⟩,rfl⟩
    ·have d6:=decide_eq_false c6
     rw [if_neg c6] at hA
     repeat' (first |refine u1 ?_ |((with_reducible show RM.wpOp _ _ (.indexAddr _ _ _) _ _ _);refine ⟨av o,⟨by omega,hat⟩,rfl,?_⟩) |((with_reducible show RM.wpOp _ _ (.indexAddr _ _ _) _ _ _);refine ⟨av o',⟨by omega,hbt⟩,rfl,?_⟩) |refine u2 ?_ |fail)
     by_cases c3:o.aB.length=0
     ·have d3:decide (((ints o.aB).length:Int)=0)=true:=decide_eq_true (by rw [ec];omega)
      rw [bad 3 (by rw [hA,if_pos c3]) (by decide)]
      repeat' (first |refine u1 ?_ |((with_reducible show RM.wpOp _ _ (.indexAddr _ _ _) _ _ _);refine ⟨av o,⟨by omega,hat⟩,rfl,?_⟩) |((with_reducible show RM.wpOp _ _ (.indexAddr _ _ _) _ _ _);refine ⟨av o',⟨by omega,hbt⟩,rfl,?_⟩) |refine u2 ?_ |fail)
      exact ⟨[_,_],⟨Fz.deep rfl,Fz.deep rfl,trivial⟩,rfl⟩
     have d3:decide (((ints o.aB).length:Int)=0)=false:=decide_eq_false (by rw [ec];omega)
     rw [if_neg c3] at hA
     by_cases c4:fS o.aB s.needs.length=0
     ·rw [if_neg (by omega)] at hA
      rw [c4] at o2
      obtain ⟨q1,q2,_⟩:=lQ c4
      have hw:=uM true hg o.aB false q2 q1
      have d4:decide ((0:Int)=0)=true:=by decide
      have d4':(!decide ((0:Int)=0))=false:=by decide
      have d4'':(!decide ((9:Int)=0))=true:=by decide
      by_cases c5:s.load < wE s o.aB
      ·have d5:=decide_eq_true c5
       rw [bad 9 (by rw [hA,if_pos c5]) (by decide)]
       repeat' (first |refine u1 ?_ |((with_reducible show RM.wpOp _ _ (.indexAddr _ _ _) _ _ _);refine ⟨av o,⟨by omega,hat⟩,rfl,?_⟩) |((with_reducible show RM.wpOp _ _ (.indexAddr _ _ _) _ _ _);refine ⟨av o',⟨by omega,hbt⟩,rfl,?_⟩) |(refine ⟨_,_,.inl ⟨rfl,rfl⟩,hw,?_⟩) |refine u2 ?_ |fail)
       exact ⟨[_,_],⟨Fz.deep rfl,Fz.deep rfl,trivial⟩,rfl⟩
      ·have d5:=decide_eq_false c5
       rw [if_neg c5] at hA
       repeat' (first |refine u1 ?_ |((with_reducible show RM.wpOp _ _ (.indexAddr _ _ _) _ _ _);refine ⟨av o,⟨by omega,hat⟩,rfl,?_⟩) |((with_reducible show RM.wpOp _ _ (.indexAddr _ _ _) _ _ _);refine ⟨av o',⟨by omega,hbt⟩,rfl,?_⟩) |(refine ⟨_,_,.inl ⟨rfl,rfl⟩,hw,?_⟩) |refine u2 ?_ |fail)
       refine ⟨m+1+1,⟨hlt,fun i hi=>?_⟩,(by dsimp only;omega),ax.to 0 rfl ⟨rfl,rfl,bg (by simp),trivial⟩ (Nat.zero_le _) rfl rfl⟩
       by_cases hik:i=m+1
       ·rw [hik];exact hA
       ·exact hprev i (by omega)
     ·rw [if_pos c4] at hA
      rw [bad _ hA c4]
      have d4:decide (fS o.aB s.needs.length=0)=false:=decide_eq_false c4
      have d4':(!decide (fS o.aB s.needs.length=0))=true:=by rw [d4];rfl
      generalize fS o.aB s.needs.length=e at *
      repeat' (first |refine u1 ?_ |((with_reducible show RM.wpOp _ _ (.indexAddr _ _ _) _ _ _);refine ⟨av o,⟨by omega,hat⟩,rfl,?_⟩) |((with_reducible show RM.wpOp _ _ (.indexAddr _ _ _) _ _ _);refine ⟨av o',⟨by omega,hbt⟩,rfl,?_⟩) |refine u2 ?_ |fail)
      exact ⟨[_,_],⟨Fz.deep rfl,Fz.deep rfl,trivial⟩,rfl⟩
 ·have d1:decide ((k:Int) < ((p.map av).length:Int))=false:=decide_eq_false (by omega)
  rw [eD (fun i hi=>hprev i (by omega))]
  repeat' (first |refine u1 ?_ |refine u2 ?_ |fail)
  exact ⟨[_,_],⟨Fz.deep rfl,Fz.deep rfl,trivial⟩,rfl⟩
end Go.Proofs.YtpeogffeoehboaaDoor
open Go Go.RM
namespace Go.Proofs.YtpeogffeoehboaaDoor
set_option maxRecDepth 100000
set_option maxHeartbeats 4000000
theorem wB (one:Bool) (s:ay) (hs:s.Ok) (p:List Order) (full:Bool) (hp:B1 p):Pu one 16 [.ag (az s),.sl (p.map av) full] (.tp [aD (dD s p).1,aD (dD s p).2]):=by
 have o1:=yD one s hs
 unfold dD
 by_cases c1:(kN s).2.2=0
 ·rw [if_neg (by omega)]
  have o2:=B5 one (zZ c1) p full hp
  rw [yA c1] at o1
  generalize (jr s p).1=a at *
  generalize (jr s p).2=b at *
  refine af.body (fn:=Tryd.f16) rfl rfl rfl rfl ?_
  refine ah (mu:=fun _=>false) ?_
  repeat' (first |refine u1 ?_ |((with_reducible show ak _ _ _ _ _ _ _ _);refine af.call o1 rfl rfl ?_) |((with_reducible show ak _ _ _ _ _ _ _ _);refine af.call o2 rfl rfl ?_) |refine u2 ?_ |fail)
  exact ⟨[_,_],⟨Fz.deep rfl,Fz.deep rfl,trivial⟩,rfl⟩
 ·rw [if_pos c1]
  generalize (kN s).1=a at *
  generalize (kN s).2.1=b at *
  generalize (kN s).2.2=e at *
  have d1:(!decide (e=0))=true:=by rw [decide_eq_false c1];rfl
  refine af.body (fn:=Tryd.f16) rfl rfl rfl rfl ?_
  refine ah (mu:=fun _=>false) ?_
  repeat' (first |refine u1 ?_ |((with_reducible show ak _ _ _ _ _ _ _ _);refine af.call o1 rfl rfl ?_) |refine u2 ?_ |fail)
  exact ⟨[_,_],⟨Fz.deep rfl,Fz.deep rfl,trivial⟩,rfl⟩
theorem Bo (one:Bool) (s:ay) (hs:s.Ok) (p:List Order) (full:Bool) (hp:B1 p) (f:List Int) (ff:Bool) (hf:f.length≤maxLen):Pu one 52 [.ag (az s),.sl (p.map av) full,.sl (ints f) ff] (aD (gQ s p f)):=by
 have o1:=wB one s hs p full hp
 have mp:p.length≤9223372036854775807:=Nat.le_trans hp.len (by simp [maxLen])
 have o2:Pu one 73 [.sl (ints f) ff,aD ((p.map av).length:Int)] (aD (fS f p.length)):=by
  rw [show ((p.map av).length:Int)=p.length by simp]
  exact uO one f ff p.length hf mp
 unfold gQ
 by_cases c1:(dD s p).2=0
 ·have d0:decide ((0:Int)=0)=true:=by decide
  rw [if_pos c1]
  rw [c1] at o1
  generalize (dD s p).1=a at *
  generalize fS f p.length=e at *
  refine af.body (fn:=Tryd.f52) rfl rfl rfl rfl ?_
  refine ah (mu:=fun _=>false) ?_
  repeat' (first |refine u1 ?_ |((with_reducible show ak _ _ _ _ _ _ _ _);refine af.call o1 rfl rfl ?_) |((with_reducible show ak _ _ _ _ _ _ _ _);refine af.call o2 rfl rfl ?_) |refine u2 ?_ |fail)
  exact ⟨[_],⟨Fz.deep rfl,trivial⟩,rfl⟩
 ·rw [if_neg c1]
  generalize (dD s p).1=a at *
  generalize (dD s p).2=b at *
  have d1:decide (b=0)=false:=decide_eq_false c1
  refine af.body (fn:=Tryd.f52) rfl rfl rfl rfl ?_
  refine ah (mu:=fun _=>false) ?_
  repeat' (first |refine u1 ?_ |((with_reducible show ak _ _ _ _ _ _ _ _);refine af.call o1 rfl rfl ?_) |((with_reducible show ak _ _ _ _ _ _ _ _);refine af.call o2 rfl rfl ?_) |refine u2 ?_ |fail)
  exact ⟨[_],⟨Fz.deep rfl,trivial⟩,rfl⟩
end Go.Proofs.YtpeogffeoehboaaDoor
open Go Go.RM
namespace Go.Proofs.YtpeogffeoehboaaDoor
set_option maxRecDepth 100000
set_option maxHeartbeats 4000000
def kD (s:ay) (p:List Order) (f:Nat):Int × Int:=match wv s p f with
 | some (d,n)=>((d:Nat),n)
 | none=>(-1,0)
theorem yO {s:ay} {p:List Order} {f d:Nat} (hd:d < s.days.toNat) (hprev:∀ i,i < d→zeroAt s p f i < 0) {n:Nat} (h:zeroAt s p f d=(n:Int)):kD s p f=((d:Int),(n:Int)):=by
 unfold kD
 rw [yK hd hprev (by omega),h]
theorem yP {s:ay} {p:List Order} {f:Nat} (hprev:∀ i,i < s.days.toNat→zeroAt s p f i < 0):kD s p f=(-1,0):=by
 unfold kD
 rw [yL hprev]
theorem Ff (one:Bool) {s:ay} {p:List Order} (hp:mo s p) (full:Bool) (f:List Int) (ff:Bool) (hf:f.length≤maxLen) (hin:∀ x ∈ f,0≤x∧x < p.length) :
  Pu one 55 [.ag (az s),.sl (p.map av) full,.sl (ints f) ff] (.tp [aD (kD s p (cc f)).1,aD (kD s p (cc f)).2]):=by
 have hg:=hp.good
 have hlen:=hg.len
 have hdays:=hg.days
 have o1:=Bn one hp full f ff hf hin
 generalize cc f=b at *
 have er:((yT s p b s.days.toNat).length:Int)=s.days:=by rw [Bk];omega
 refine af.body (fn:=Tryd.f55) rfl rfl rfl rfl ?_
 refine ah (mu:=fun _=>false) ?_
 repeat' (first |refine u1 ?_ |((with_reducible show ak _ _ _ _ _ _ _ _);refine af.call o1 rfl rfl ?_) |refine u2 ?_ |fail)
 refine aF.bf (ax.to (l:=[(8,.sl (yT s p b s.days.toNat) false),(9,aD (0:Nat))]) (hp:=[]) 0 rfl ⟨rfl,rfl,trivial⟩ (Nat.zero_le _) rfl rfl) ?_
 refine aF.loop (fun d:Nat=>d≤s.days.toNat∧∀ i,i < d→zeroAt s p b i < 0) (fun d=>⟨bZ [(8,.sl (yT s p b s.days.toNat) false),(9,aD (d:Nat))],[],cF.none,false,0⟩) (fun d=>s.days.toNat - d) ?_ 0 ⟨Nat.zero_le _,fun i hi=>absurd hi (Nat.not_lt_zero _)⟩
 rintro d ⟨hd,hprev⟩
 refine ah (mu:=fun _=>false) ?_
 by_cases hdl:d < s.days.toNat
 ·have d1:decide ((d:Int) < ((yT s p b s.days.toNat).length:Int))=true:=decide_eq_true (by omega)
  have hat:(yT s p b s.days.toNat)[((d:Nat):Int).toNat]?=some [AV.sl (ints (dI s p b d)) false]:=by rw [Int.toNat_natCast];exact Fb hdl
  have hll:=eO (s:=s) (p:=p) (f:=b) (d:=d)
  have el:((ints (dI s p b d)).length:Int)=s.needs.length:=by rw [List.length_map,hll]
  repeat' (first |refine u1 ?_ |refine u2 ?_ |fail)
  refine aF.bf (ax.to (l:=[(8,.sl (yT s p b s.days.toNat) false),(9,aD (d:Nat)),(10,aD (0:Nat))]) (hp:=[]) 0 rfl ⟨rfl,rfl,rfl,trivial⟩ (Nat.zero_le _) rfl rfl) ?_
  refine aF.loop (fun n:Nat=>n≤s.needs.length∧∀ i (h:i < (dI s p b d).length),i < n→decide (0=(dI s p b d)[i])=false) (fun n=>⟨bZ [(8,.sl (yT s p b s.days.toNat) false),(9,aD (d:Nat)),(10,aD (n:Nat))],[],cF.none,false,0⟩) (fun n=>s.needs.length - n) ?_ 0 ⟨Nat.zero_le _,fun i _ hi=>absurd hi (Nat.not_lt_zero _)⟩
  rintro n ⟨hn,hpn⟩
  refine ah (mu:=fun _=>false) ?_
  by_cases hnl:n < s.needs.length
  ·have d2:decide ((n:Int) < ((ints (dI s p b d)).length:Int))=true:=decide_eq_true (by omega)
   have hnl2:n < (dI s p b d).length:=by omega
   have hnt:(ints (dI s p b d))[((n:Nat):Int).toNat]?=some (eI (dI s p b d)[n]):=bq hnl2
   by_cases hz:(dI s p b d)[n]=0
   ·have d3:=decide_eq_true hz
    have e:=yO hdl hprev (n:=n) (jN hnl2 hpn (decide_eq_true hz.symm))
    rw [e]
    generalize (dI s p b d)[n]=v at *
    repeat' (first |refine u1 ?_ |(refine ⟨[AV.sl (ints (dI s p b d)) false],⟨by omega,hat⟩,rfl,?_⟩) |((with_reducible show RM.wpOp _ _ (.indexAddr _ _ _) _ _ _);refine ⟨eI v,⟨by omega,hnt⟩,rfl,?_⟩) |refine u2 ?_ |fail)
    exact ⟨[_,_],⟨Fz.deep rfl,Fz.deep rfl,trivial⟩,rfl⟩
   ·have d3:=decide_eq_false hz
    have hpn':∀ i (h:i < (dI s p b d).length),i < n+1→decide (0=(dI s p b d)[i])=false:=fun i hi hik=>by
     by_cases e:i=n
     ·subst e;exact decide_eq_false (fun h=>hz h.symm)
     ·exact hpn i hi (by omega)
    generalize hv:(dI s p b d)[n]=v at hnt d3
    repeat' (first |refine u1 ?_ |(refine ⟨[AV.sl (ints (dI s p b d)) false],⟨by omega,hat⟩,rfl,?_⟩) |((with_reducible show RM.wpOp _ _ (.indexAddr _ _ _) _ _ _);refine ⟨eI v,⟨by omega,hnt⟩,rfl,?_⟩) |refine u2 ?_ |fail)
    exact ⟨n+1,⟨hnl,hpn'⟩,(by dsimp only;omega),ax.to 0 rfl ⟨rfl,rfl,bg (by simp),trivial⟩ (Nat.zero_le _) rfl rfl⟩
  ·have d2:decide ((n:Int) < ((ints (dI s p b d)).length:Int))=false:=decide_eq_false (by omega)
   have hz:zeroAt s p b d=-1:=jO (fun i hi=>hpn i hi (by omega))
   repeat' (first |refine u1 ?_ |(refine ⟨[AV.sl (ints (dI s p b d)) false],⟨by omega,hat⟩,rfl,?_⟩) |refine u2 ?_ |fail)
   refine ⟨d+1,⟨hdl,fun i hi=>?_⟩,(by dsimp only;omega),ax.to 0 rfl ⟨rfl,bg (by simp),trivial⟩ (Nat.zero_le _) rfl rfl⟩
   by_cases e:i=d
   ·subst e;omega
   ·exact hprev i (by omega)
 ·have d1:decide ((d:Int) < ((yT s p b s.days.toNat).length:Int))=false:=decide_eq_false (by omega)
  rw [yP (fun i hi=>hprev i (by omega))]
  repeat' (first |refine u1 ?_ |refine u2 ?_ |fail)
  exact ⟨[_,_],⟨Fz.deep rfl,Fz.deep rfl,trivial⟩,rfl⟩
theorem Jg (one:Bool) (s:ay) (hs:s.Ok) (p:List Order) (full:Bool) (hp:B1 p) (f:List Int) (ff:Bool) (hf:f.length≤maxLen):Pu one 21 [.ag (az s),.sl (p.map av) full,.sl (ints f) ff] (.tp [aD (sM s p f).1,aD (sM s p f).2.1,aD (sM s p f).2.2]):=by
 have o1:=Bo one s hs p full hp f ff hf
 unfold sM
 by_cases c1:gQ s p f=0
 ·rw [if_neg (by omega)]
  obtain ⟨hpg,hin,_⟩:=kC c1
  rw [c1] at o1
  have o2:=Ff one hpg full f ff hf hin
  have d0:(!decide ((0:Int)=0))=false:=by decide
  unfold kD at o2
  cases hb:wv s p (cc f) with
  | some x =>
   obtain ⟨d,n⟩:=x
   rw [hb] at o2
   have d1:decide (((d:Nat):Int) < 0)=false:=decide_eq_false (by omega)
   refine af.body (fn:=Tryd.f21) rfl rfl rfl rfl ?_
   refine ah (mu:=fun _=>false) ?_
   repeat' (first |refine u1 ?_ |((with_reducible show ak _ _ _ _ _ _ _ _);refine af.call o1 rfl rfl ?_) |((with_reducible show ak _ _ _ _ _ _ _ _);refine af.call o2 rfl rfl ?_) |refine u2 ?_ |fail)
   exact ⟨[_,_,_],⟨Fz.deep rfl,Fz.deep rfl,Fz.deep rfl,trivial⟩,rfl⟩
  | none =>
   rw [hb] at o2
   refine af.body (fn:=Tryd.f21) rfl rfl rfl rfl ?_
   refine ah (mu:=fun _=>false) ?_
   repeat' (first |refine u1 ?_ |((with_reducible show ak _ _ _ _ _ _ _ _);refine af.call o1 rfl rfl ?_) |((with_reducible show ak _ _ _ _ _ _ _ _);refine af.call o2 rfl rfl ?_) |refine u2 ?_ |fail)
   exact ⟨[_,_,_],⟨Fz.deep rfl,Fz.deep rfl,Fz.deep rfl,trivial⟩,rfl⟩
 ·rw [if_pos c1]
  generalize gQ s p f=e at *
  have d1:(!decide (e=0))=true:=by rw [decide_eq_false c1];rfl
  refine af.body (fn:=Tryd.f21) rfl rfl rfl rfl ?_
  refine ah (mu:=fun _=>false) ?_
  repeat' (first |refine u1 ?_ |((with_reducible show ak _ _ _ _ _ _ _ _);refine af.call o1 rfl rfl ?_) |refine u2 ?_ |fail)
  exact ⟨[_,_,_],⟨Fz.deep rfl,Fz.deep rfl,Fz.deep rfl,trivial⟩,rfl⟩
theorem F7 (one:Bool) (s:ay) (hs:s.Ok) (p:List Order) (full:Bool) (hp:B1 p) (f:List Int) (ff:Bool) (hf:f.length≤maxLen) (day:Int):Pu one 18 [.ag (az s),.sl (p.map av) full,.sl (ints f) ff,aD day] (.tp [dR s p f day,aD (dF s p f day)]):=by
 have o1:=Bo one s hs p full hp f ff hf
 by_cases c1:gQ s p f=0
 ·obtain ⟨hpg,hin,_⟩:=kC c1
  have hdays:=hpg.good.days
  rw [c1] at o1
  have o2:=Bn one hpg full f ff hf hin
  have o3:=gP one day 0 (s.days - 1)
  have d0:decide ((0:Int)=0)=true:=by decide
  have d0':(!decide ((0:Int)=0))=false:=by decide
  have d7:(!decide ((7:Int)=0))=true:=by decide
  cases c2:kQ day 0 (s.days - 1) with
  | false =>
   rw [c2] at o3
   have e1:dF s p f day=7:=by unfold dF;rw [if_neg (by omega),aT,c2];rfl
   have e2:dR s p f day=.fl (.slice none 0 0):=by unfold dR;rw [e1];rfl
   rw [e1,e2]
   refine af.body (fn:=Tryd.f18) rfl rfl rfl rfl ?_
   refine ah (mu:=fun _=>false) ?_
   repeat' (first |refine u1 ?_ |((with_reducible show ak _ _ _ _ _ _ _ _);refine af.call o1 rfl rfl ?_) |((with_reducible show ak _ _ _ _ _ _ _ _);refine af.call o3 rfl rfl ?_) |refine u2 ?_ |fail)
   exact ⟨[_,_],⟨Fz.deep rfl,Fz.deep rfl,trivial⟩,rfl⟩
  | true =>
   have hday:=hJ.1 c2
   rw [c2] at o3
   have e1:dF s p f day=0:=by unfold dF;rw [if_neg (by omega),aT,c2];rfl
   have e2:dR s p f day=.sl (ints (dI s p (cc f) day.toNat)) false:=by unfold dR;rw [if_pos e1]
   have hat:(yT s p (cc f) s.days.toNat)[day.toNat]?=some [AV.sl (ints (dI s p (cc f) day.toNat)) false]:=Fb (by omega)
   rw [e1,e2]
   generalize cc f=b at *
   refine af.body (fn:=Tryd.f18) rfl rfl rfl rfl ?_
   refine ah (mu:=fun _=>false) ?_
   repeat' (first |refine u1 ?_ |((with_reducible show ak _ _ _ _ _ _ _ _);refine af.call o1 rfl rfl ?_) |((with_reducible show ak _ _ _ _ _ _ _ _);refine af.call o3 rfl rfl ?_) |((with_reducible show ak _ _ _ _ _ _ _ _);refine af.call o2 rfl rfl ?_) |(refine ⟨[AV.sl (ints (dI s p b day.toNat)) false],⟨by omega,hat⟩,rfl,?_⟩) |refine u2 ?_ |fail)
   exact ⟨[_,_],⟨Fz.deep rfl,Fz.deep rfl,trivial⟩,rfl⟩
 ·have e1:dF s p f day=gQ s p f:=by unfold dF;rw [if_pos c1]
  have e2:dR s p f day=.fl (.slice none 0 0):=by unfold dR;rw [e1,if_neg c1]
  rw [e1,e2]
  generalize gQ s p f=e at *
  have d1:(!decide (e=0))=true:=by rw [decide_eq_false c1];rfl
  have d2:decide (e=0)=false:=decide_eq_false c1
  refine af.body (fn:=Tryd.f18) rfl rfl rfl rfl ?_
  refine ah (mu:=fun _=>false) ?_
  repeat' (first |refine u1 ?_ |((with_reducible show ak _ _ _ _ _ _ _ _);refine af.call o1 rfl rfl ?_) |refine u2 ?_ |fail)
  exact ⟨[_,_],⟨Fz.deep rfl,Fz.deep rfl,trivial⟩,rfl⟩
end Go.Proofs.YtpeogffeoehboaaDoor
open Go Go.RM
namespace Go.Proofs.YtpeogffeoehboaaDoor
set_option maxRecDepth 100000
set_option maxHeartbeats 4000000
theorem KB (one:Bool):Pu one 22 [] (BB true):=af.closed (fun _=>rfl) rfl
theorem uR {one:Bool} {F v:AV} {a c:List AV} {b:Bool} (h:af TT TB one F (a++.sl [] b :: c) v):af TT TB one F (a++.fl (.slice none 0 0) :: c) v:=by
 refine ⟨h.1,fun X H u us hw hx hF hA=>h.2 X H u us hw hx hF ⟨?_,fun i x w hi hu=>?_⟩⟩
 ·have:=hA.1
  simp only [List.length_append,List.length_cons] at this ⊢
  exact this
 ·by_cases hlt:i < a.length
  ·rw [List.getElem?_append_left hlt] at hi
   exact hA.2 i x w (by rw [List.getElem?_append_left hlt];exact hi) hu
  ·have ha:=fun y=>hA.2 i y w
   rw [List.getElem?_append_right (by omega)] at hi ha
   cases hj:i - a.length with
   | zero =>
    rw [hj] at hi ha
    obtain rfl:=Option.some.inj hi
    have:=ha _ rfl hu
    cases this
    exact .nil
   | succ j =>
    rw [hj] at hi ha
    exact ha x hi hu
theorem Af (one:Bool) (s:ay) (p:List Order) (f:List Int) (day:Int):Pu one 19 [dR s p f day,dR s p f day] (BB true):=by
 unfold dR
 by_cases h:dF s p f day=0
 ·rw [if_pos h]
  have hl:(dI s p (cc f) day.toNat).length≤maxLen:=by
   have hok:gQ s p f=0:=by
    unfold dF at h
    split at h
    ·rename_i h1;exact absurd h h1
    ·rename_i h1;exact Classical.not_not.1 h1
   rw [eO]
   exact Nat.le_trans (kC hok).1.good.len.2 (by simp [maxLen])
  have:=E7 one _ _ false false hl hl
  rw [decide_eq_true rfl] at this
  exact this
 ·rw [if_neg h]
  have h1:=E7 one [] [] false false (Nat.zero_le _) (Nat.zero_le _)
  rw [decide_eq_true rfl] at h1
  exact uR (a:=[.fl (.slice none 0 0)]) (b:=false) (uR (a:=[]) (b:=false) h1)
abbrev gv (f:List Int) (day:Int):List AV:=[.sl (ints f) false,aD day]
theorem F8 (s:ay) (hs:s.Ok) (p:List Order) (full:Bool) (hp:B1 p) (f:List Int) (hf:f.length≤maxLen) (day:Int):Pu false 3 [.ag (az s),.sl (p.map av) full,.ag (gv f day)] (BB true):=by
 have o1:=A7 false s hs
 have o2:=yD false s hs
 have o3:=EV false s hs p full hp
 have o4:=wB false s hs p full hp
 have o5:=Ae false s hs p full hp f false hf day
 have o6:=F7 false s hs p full hp f false hf day
 have o7:=Af false s p f day
 have o8:=Kz false s hs p full hp f false hf
 have o9:=Jg false s hs p full hp f false hf
 have aw:=KB false
 generalize (kN s).1=a1 at *
 generalize (kN s).2.1=a2 at *
 generalize (kN s).2.2=a3 at *
 generalize (dD s p).1=b1 at *
 generalize (dD s p).2=b2 at *
 generalize dF s p f day=c1 at *
 generalize (sM s p f).1=e1 at *
 generalize (sM s p f).2.1=e2 at *
 generalize (sM s p f).2.2=e3 at *
 have n1:∀ x:Int,(!decide (x=x))=false:=fun x=>by rw [decide_eq_true rfl];rfl
 have n2:∀ x:Int,decide (x=x)=true:=fun x=>decide_eq_true rfl
 have m1:=n1 a1
 have m2:=n1 a2
 have m3:=n1 a3
 have m4:=n1 b1
 have m5:=n1 b2
 have m6:=n1 c1
 have m7:=n2 e1
 have m8:=n2 e2
 have m9:=n2 e3
 clear n1 n2
 have hc:(∃ l,dR s p f day=.sl (ints l) false)∨dR s p f day=.fl (.slice none 0 0):=by
  unfold dR
  split
  ·exact .inl ⟨_,rfl⟩
  ·exact .inr rfl
 generalize dR s p f day=c0 at *
 rcases hc with ⟨l,rfl⟩|rfl
 ·refine af.body (fn:=Tryd.f3) rfl rfl rfl rfl ?_
  refine ah (mu:=fun _=>false) ?_
  repeat' (first |refine u1 ?_ |((with_reducible show ak _ _ _ _ _ _ _ _);refine af.call o1 rfl rfl ?_) |((with_reducible show ak _ _ _ _ _ _ _ _);refine af.call o2 rfl rfl ?_) |((with_reducible show ak _ _ _ _ _ _ _ _);refine af.call o3 rfl rfl ?_) |((with_reducible show ak _ _ _ _ _ _ _ _);refine af.call o4 rfl rfl ?_) |((with_reducible show ak _ _ _ _ _ _ _ _);refine af.call o5 rfl rfl ?_) |((with_reducible show ak _ _ _ _ _ _ _ _);refine af.call o6 rfl rfl ?_) |((with_reducible show ak _ _ _ _ _ _ _ _);refine af.call o7 rfl rfl ?_) |((with_reducible show ak _ _ _ _ _ _ _ _);refine af.call o8 rfl rfl ?_) |((with_reducible show ak _ _ _ _ _ _ _ _);refine af.call o9 rfl rfl ?_) |((with_reducible show ak _ _ _ _ _ _ _ _);refine af.call aw rfl rfl ?_) |refine u2 ?_ |fail)
  exact ⟨[_],⟨Fz.deep rfl,trivial⟩,rfl⟩
 ·refine af.body (fn:=Tryd.f3) rfl rfl rfl rfl ?_
  refine ah (mu:=fun _=>false) ?_
  repeat' (first |refine u1 ?_ |((with_reducible show ak _ _ _ _ _ _ _ _);refine af.call o1 rfl rfl ?_) |((with_reducible show ak _ _ _ _ _ _ _ _);refine af.call o2 rfl rfl ?_) |((with_reducible show ak _ _ _ _ _ _ _ _);refine af.call o3 rfl rfl ?_) |((with_reducible show ak _ _ _ _ _ _ _ _);refine af.call o4 rfl rfl ?_) |((with_reducible show ak _ _ _ _ _ _ _ _);refine af.call o5 rfl rfl ?_) |((with_reducible show ak _ _ _ _ _ _ _ _);refine af.call o6 rfl rfl ?_) |((with_reducible show ak _ _ _ _ _ _ _ _);refine af.call o7 rfl rfl ?_) |((with_reducible show ak _ _ _ _ _ _ _ _);refine af.call o8 rfl rfl ?_) |((with_reducible show ak _ _ _ _ _ _ _ _);refine af.call o9 rfl rfl ?_) |((with_reducible show ak _ _ _ _ _ _ _ _);refine af.call aw rfl rfl ?_) |refine u2 ?_ |fail)
  exact ⟨[_],⟨Fz.deep rfl,trivial⟩,rfl⟩
end Go.Proofs.YtpeogffeoehboaaDoor
