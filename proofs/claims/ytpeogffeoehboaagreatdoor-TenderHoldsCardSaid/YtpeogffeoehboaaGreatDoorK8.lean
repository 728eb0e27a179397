/-
  Contracts of the program's functions and of the document's. Lemmas alone; their conditions stand in them.
-/
import Derived.Test.YtpeogffeoehboaaGreatDoorK4
import Derived.Test.YtpeogffeoehboaaGreatDoorK5
import Derived.Test.YtpeogffeoehboaaGreatDoorK7
open Go Go.RM
namespace Go.Proofs.YtpeogffeoehboaaGreatDoor
set_option maxRecDepth 100000
set_option maxHeartbeats 4000000
theorem PS (one:Bool) (s:au) (o:Order) (hl:s.needs.length≤9223372036854775807) (hc:o.aG.length≤maxLen):Pu one 81 [.sl (ints o.aG) false,aA ((s.needs.map aH).length:Int)] (aA (kU o.aG s.needs.length)):=by
 rw [show ((s.needs.map aH).length:Int)=s.needs.length by simp]
 exact E6 one o.aG false s.needs.length hc hl
theorem Fa (one:Bool) {s:au} (hg:Good s) (p:List Order) (full:Bool) (hp:E7 p):Pu one 56 [.ag (ak s),.sl (p.map ay) full] (.tp [aA (kJ s p).1,aA (kJ s p).2]):=by
 have ep:((p.map ay).length:Int)=p.length:=by simp
 have mp:p.length≤9223372036854775807:=Nat.le_trans hp.len (by simp [maxLen])
 have hd:=hg.days
 have hl:=hg.len
 unfold kJ
 by_cases c2:8 < p.length
 ·have d2:decide (8 < ((p.map ay).length:Int))=true:=decide_eq_true (by rw [ep];omega)
  rw [if_pos c2]
  refine ah.body (fn:=Tryz.f56) rfl rfl rfl rfl ?_
  refine aa (mu:=fun _=>false) ?_
  repeat' (first |refine u1 ?_ |refine u2 ?_ |fail)
  exact ⟨[_,_],⟨Fz.deep rfl,Fz.deep rfl,trivial⟩,rfl⟩
 have d2:decide (8 < ((p.map ay).length:Int))=false:=decide_eq_false (by rw [ep];omega)
 rw [if_neg c2]
 refine ah.body (fn:=Tryz.f56) rfl rfl rfl rfl ?_
 refine aa (mu:=fun _=>false) ?_
 repeat' (first |refine u1 ?_ |refine u2 ?_ |fail)
 refine aB.aJ (ai.to (l:=[(1,.sl (p.map ay) full),(2,.pt (ak s) 0),(6,aA (0:Nat))]) (hp:=[]) 0 rfl ⟨rfl,rfl,rfl,trivial⟩ (Nat.zero_le _) rfl rfl) ?_
 refine aB.loop (fun k:Nat=>k≤p.length∧∀ i,i < k→fW s p i=0) (fun k=>⟨aS [(1,.sl (p.map ay) full),(2,.pt (ak s) 0),(6,aA (k:Nat))],[],bJ.none,false,0⟩) (fun k=>p.length - k) ?_ 0 ⟨Nat.zero_le _,fun i hi=>absurd hi (Nat.not_lt_zero _)⟩
 rintro k ⟨hk,hprev⟩
 refine aa (mu:=fun _=>false) ?_
 by_cases hlt:k < p.length
 ·have d1:decide ((k:Int) < ((p.map ay).length:Int))=true:=decide_eq_true (by omega)
  have hat:(p.map ay)[((k:Nat):Int).toNat]?=some (ay p[k]):=bl hlt
  have hA:fW s p k=iK s p[k] (kI p k):=by unfold fW;rw [List.getElem?_eq_getElem hlt]
  have bad:∀ v,fW s p k=v→v ≠ 0→cZ p.length (fW s p)=((k:Int),v):=fun v e hv=>by rw [gw hlt hprev (by rw [e];exact hv),e]
  have o1:=jO true p[k].day 0 (s.days - 1)
  have o2:=PS true s p[k] (by omega) (hp.aG _ (List.getElem_mem hlt))
  have mc:p[k].aG.length≤9223372036854775807:=Nat.le_trans (hp.aG _ (List.getElem_mem hlt)) (by simp [maxLen])
  have ec:((ints p[k].aG).length:Int)=p[k].aG.length:=by simp
  unfold iK at hA
  rw [bD] at hA
  cases k with
  | zero =>
   have hpd:kI p 0=-1:=rfl
   rw [hpd] at hA
   generalize p[0]=o at *
   cases c1:nD o.day 0 (s.days - 1) with
   | false =>
    rw [c1] at o1 hA
    rw [bad 7 (by rw [hA];rfl) (by decide)]
    repeat' (first |refine u1 ?_ |((with_reducible show RM.wpOp _ _ (.indexAddr _ _ _) _ _ _);refine ⟨ay o,⟨by omega,hat⟩,rfl,?_⟩) |refine u2 ?_ |fail)
    exact ⟨[_,_],⟨Fz.deep rfl,Fz.deep rfl,trivial⟩,rfl⟩
   | true =>
    have hin:=mz.1 c1
    rw [c1] at o1 hA
    rw [if_neg (by simp),if_neg (by omega)] at hA
    repeat' (first |refine u1 ?_ |((with_reducible show RM.wpOp _ _ (.indexAddr _ _ _) _ _ _);refine ⟨ay o,⟨by omega,hat⟩,rfl,?_⟩) |refine u2 ?_ |fail)
    by_cases c3:o.aG.length=0
    ·have d3:decide (((ints o.aG).length:Int)=0)=true:=decide_eq_true (by rw [ec];omega)
     rw [bad 3 (by rw [hA,if_pos c3]) (by decide)]
     repeat' (first |refine u1 ?_ |((with_reducible show RM.wpOp _ _ (.indexAddr _ _ _) _ _ _);refine ⟨ay o,⟨by omega,hat⟩,rfl,?_⟩) |((with_reducible show RM.wpOp _ _ (.indexAddr _ _ _) _ _ _);refine ⟨ay o',⟨by omega,hbt⟩,rfl,?_⟩) |refine u2 ?_ |fail)
     exact ⟨[_,_],⟨Fz.deep rfl,Fz.deep rfl,trivial⟩,rfl⟩
    have d3:decide (((ints o.aG).length:Int)=0)=false:=decide_eq_false (by rw [ec];omega)
    rw [if_neg c3] at hA
    by_cases c4:kU o.aG s.needs.length=0
    ·rw [if_neg (by omega)] at hA
     rw [c4] at o2
     obtain ⟨q1,q2,_⟩:=tG c4
     have hw:=yc true hg o.aG false q2 q1
     have d4:decide ((0:Int)=0)=true:=by decide
     have d4':(!decide ((0:Int)=0))=false:=by decide
     have d4'':(!decide ((9:Int)=0))=true:=by decide
     by_cases c5:s.load < Ab s o.aG
     ·have d5:=decide_eq_true c5
      rw [bad 9 (by rw [hA,if_pos c5]) (by decide)]
      repeat' (first |refine u1 ?_ |((with_reducible show RM.wpOp _ _ (.indexAddr _ _ _) _ _ _);refine ⟨ay o,⟨by omega,hat⟩,rfl,?_⟩) |((with_reducible show RM.wpOp _ _ (.indexAddr _ _ _) _ _ _);refine ⟨ay o',⟨by omega,hbt⟩,rfl,?_⟩) |(refine ⟨_,_,.inl ⟨rfl,rfl⟩,hw,?_⟩) |refine u2 ?_ |fail)
      exact ⟨[_,_],⟨Fz.deep rfl,Fz.deep rfl,trivial⟩,rfl⟩
     ·have d5:=decide_eq_false c5
      rw [if_neg c5] at hA
      repeat' (first |refine u1 ?_ |((with_reducible show RM.wpOp _ _ (.indexAddr _ _ _) _ _ _);refine ⟨ay o,⟨by omega,hat⟩,rfl,?_⟩) |((with_reducible show RM.wpOp _ _ (.indexAddr _ _ _) _ _ _);refine ⟨ay o',⟨by omega,hbt⟩,rfl,?_⟩) |(refine ⟨_,_,.inl ⟨rfl,rfl⟩,hw,?_⟩) |refine u2 ?_ |fail)
      refine ⟨0+1,⟨hlt,fun i hi=>?_⟩,(by dsimp only;omega),ai.to 0 rfl ⟨rfl,rfl,aV (by simp),trivial⟩ (Nat.zero_le _) rfl rfl⟩
      by_cases hik:i=0
      ·rw [hik];exact hA
      ·exact hprev i (by omega)
    ·rw [if_pos c4] at hA
     rw [bad _ hA c4]
     have d4:decide (kU o.aG s.needs.length=0)=false:=decide_eq_false c4
     have d4':(!decide (kU o.aG s.needs.length=0))=true:=by rw [d4];rfl
     generalize kU o.aG s.needs.length=e at *
     repeat' (first |refine u1 ?_ |((with_reducible show RM.wpOp _ _ (.indexAddr _ _ _) _ _ _);refine ⟨ay o,⟨by omega,hat⟩,rfl,?_⟩) |((with_reducible show RM.wpOp _ _ (.indexAddr _ _ _) _ _ _);refine ⟨ay o',⟨by omega,hbt⟩,rfl,?_⟩) |refine u2 ?_ |fail)
     exact ⟨[_,_],⟨Fz.deep rfl,Fz.deep rfl,trivial⟩,rfl⟩
  | succ m =>
   have hpd:kI p (m+1)=p[m].day:=vH (by omega)
   have d0:decide ((0:Int) < ((m+1:Nat):Int))=true:=decide_eq_true (by omega)
   have hbt:(p.map ay)[(((m+1:Nat):Int) - 1).toNat]?=some (ay p[m]):=by
    rw [show (((m+1:Nat):Int) - 1)=((m:Nat):Int) by omega]
    exact bl (by omega)
   rw [hpd] at hA
   generalize p[m+1]=o at *
   generalize p[m]=o' at *
   cases c1:nD o.day 0 (s.days - 1) with
   | false =>
    rw [c1] at o1 hA
    rw [bad 7 (by rw [hA];rfl) (by decide)]
    repeat' (first |refine u1 ?_ |((with_reducible show RM.wpOp _ _ (.indexAddr _ _ _) _ _ _);refine ⟨ay o,⟨by omega,hat⟩,rfl,?_⟩) |((with_reducible show RM.wpOp _ _ (.indexAddr _ _ _) _ _ _);refine ⟨ay o',⟨by omega,hbt⟩,rfl,?_⟩) |refine u2 ?_ |fail)
    exact ⟨[_,_],⟨Fz.deep rfl,Fz.deep rfl,trivial⟩,rfl⟩
   | true =>
    rw [c1] at o1 hA
    rw [if_neg (by simp)] at hA
    by_cases c6:o.day≤o'.day
    ·have d6:=decide_eq_true c6
     rw [bad 2 (by rw [hA,if_pos c6]) (by decide)]
     repeat' (first |refine u1 ?_ |((with_reducible show RM.wpOp _ _ (.indexAddr _ _ _) _ _ _);refine ⟨ay o,⟨by omega,hat⟩,rfl,?_⟩) |((with_reducible show RM.wpOp _ _ (.indexAddr _ _ _) _ _ _);refine ⟨ay o',⟨by omega,hbt⟩,rfl,?_⟩) |refine u2 ?_ |fail)
     exact ⟨[_,_],⟨Fz.deep rfl,Fz.deep rfl,trivial⟩,rfl⟩
    ·have d6:=decide_eq_false c6
     rw [if_neg c6] at hA
     repeat' (first |refine u1 ?_ |((with_reducible show RM.wpOp _ _ (.indexAddr _ _ _) _ _ _);refine ⟨ay o,⟨by omega,hat⟩,rfl,?_⟩) |((with_reducible show RM.wpOp _ _ (.indexAddr _ _ _) _ _ _);refine ⟨ay o',⟨by omega,hbt⟩,rfl,?_⟩) |refine u2 ?_ |fail)
     by_cases c3:o.aG.length=0
     ·have d3:decide (((ints o.aG).length:Int)=0)=true:=decide_eq_true (by rw [ec];omega)
      rw [bad 3 (by rw [hA,if_pos c3]) (by decide)]
      repeat' (first |refine u1 ?_ |((with_reducible show RM.wpOp _ _ (.indexAddr _ _ _) _ _ _);refine ⟨ay o,⟨by omega,hat⟩,rfl,?_⟩) |((with_reducible show RM.wpOp _ _ (.indexAddr _ _ _) _ _ _);refine ⟨ay o',⟨by omega,hbt⟩,rfl,?_⟩) |refine u2 ?_ |fail)
      exact ⟨[_,_],⟨Fz.deep rfl,Fz.deep rfl,trivial⟩,rfl⟩
     have d3:decide (((ints o.aG).length:Int)=0)=false:=decide_eq_false (by rw [ec];omega)
     rw [if_neg c3] at hA
     by_cases c4:kU o.aG s.needs.length=0
     ·rw [if_neg (by omega)] at hA
      rw [c4] at o2
      obtain ⟨q1,q2,_⟩:=tG c4
      have hw:=yc true hg o.aG false q2 q1
      have d4:decide ((0:Int)=0)=true:=by decide
      have d4':(!decide ((0:Int)=0))=false:=by decide
      have d4'':(!decide ((9:Int)=0))=true:=by decide
      by_cases c5:s.load < Ab s o.aG
      ·have d5:=decide_eq_true c5
       rw [bad 9 (by rw [hA,if_pos c5]) (by decide)]
       repeat' (first |refine u1 ?_ |((with_reducible show RM.wpOp _ _ (.indexAddr _ _ _) _ _ _);refine ⟨ay o,⟨by omega,hat⟩,rfl,?_⟩) |((with_reducible show RM.wpOp _ _ (.indexAddr _ _ _) _ _ _);refine ⟨ay o',⟨by omega,hbt⟩,rfl,?_⟩) |(refine ⟨_,_,.inl ⟨rfl,rfl⟩,hw,?_⟩) |refine u2 ?_ |fail)
       exact ⟨[_,_],⟨Fz.deep rfl,Fz.deep rfl,trivial⟩,rfl⟩
      ·have d5:=decide_eq_false c5
       rw [if_neg c5] at hA
       repeat' (first |refine u1 ?_ |((with_reducible show RM.wpOp _ _ (.indexAddr _ _ _) _ _ _);refine ⟨ay o,⟨by omega,hat⟩,rfl,?_⟩) |((with_reducible show RM.wpOp _ _ (.indexAddr _ _ _) _ _ _);refine ⟨ay o',⟨by omega,hbt⟩,rfl,?_⟩) |(refine ⟨_,_,.inl ⟨rfl,rfl⟩,hw,?_⟩) |refine u2 ?_ |fail)
       refine ⟨m+1+1,⟨hlt,fun i hi=>?_⟩,(by dsimp only;omega),ai.to 0 rfl ⟨rfl,rfl,aV (by simp),trivial⟩ (Nat.zero_le _) rfl rfl⟩
       by_cases hik:i=m+1
       ·rw [hik];exact hA
       ·exact hprev i (by omega)
     ·rw [if_pos c4] at hA
      rw [bad _ hA c4]
      have d4:decide (kU o.aG s.needs.length=0)=false:=decide_eq_false c4
      have d4':(!decide (kU o.aG s.needs.length=0))=true:=by rw [d4];rfl
      generalize kU o.aG s.needs.length=e at *
      repeat' (first |refine u1 ?_ |((with_reducible show RM.wpOp _ _ (.indexAddr _ _ _) _ _ _);refine ⟨ay o,⟨by omega,hat⟩,rfl,?_⟩) |((with_reducible show RM.wpOp _ _ (.indexAddr _ _ _) _ _ _);refine ⟨ay o',⟨by omega,hbt⟩,rfl,?_⟩) |refine u2 ?_ |fail)
      exact ⟨[_,_],⟨Fz.deep rfl,Fz.deep rfl,trivial⟩,rfl⟩
 ·have d1:decide ((k:Int) < ((p.map ay).length:Int))=false:=decide_eq_false (by omega)
  rw [fm (fun i hi=>hprev i (by omega))]
  repeat' (first |refine u1 ?_ |refine u2 ?_ |fail)
  exact ⟨[_,_],⟨Fz.deep rfl,Fz.deep rfl,trivial⟩,rfl⟩
theorem zT (one:Bool) (s:au) (hs:s.Ok) (p:List Order) (full:Bool) (hp:E7 p):Pu one 28 [.ag (ak s),.sl (p.map ay) full] (.tp [aA (cz s p).1,aA (cz s p).2]):=by
 have o1:=IY one s hs
 unfold cz
 by_cases c1:(nE s).2.2=0
 ·rw [if_neg (by omega)]
  have o2:=Fa one (Db c1) p full hp
  rw [BM c1] at o1
  generalize (kJ s p).1=a at *
  generalize (kJ s p).2=b at *
  refine ah.body (fn:=Tryz.f28) rfl rfl rfl rfl ?_
  refine aa (mu:=fun _=>false) ?_
  repeat' (first |refine u1 ?_ |((with_reducible show ax _ _ _ _ _ _ _ _);refine ah.call o1 rfl rfl ?_) |((with_reducible show ax _ _ _ _ _ _ _ _);refine ah.call o2 rfl rfl ?_) |refine u2 ?_ |fail)
  exact ⟨[_,_],⟨Fz.deep rfl,Fz.deep rfl,trivial⟩,rfl⟩
 ·rw [if_pos c1]
  generalize (nE s).1=a at *
  generalize (nE s).2.1=b at *
  generalize (nE s).2.2=e at *
  have d1:(!decide (e=0))=true:=by rw [decide_eq_false c1];rfl
  refine ah.body (fn:=Tryz.f28) rfl rfl rfl rfl ?_
  refine aa (mu:=fun _=>false) ?_
  repeat' (first |refine u1 ?_ |((with_reducible show ax _ _ _ _ _ _ _ _);refine ah.call o1 rfl rfl ?_) |refine u2 ?_ |fail)
  exact ⟨[_,_],⟨Fz.deep rfl,Fz.deep rfl,trivial⟩,rfl⟩
def kK (s:au) (p:List Order) (f:Nat):Int × Int:=match gj s p f with
 | some (d,n)=>((d:Nat),n)
 | none=>(-1,0)
theorem BX {s:au} {p:List Order} {f d:Nat} (hd:d < s.days.toNat) (hprev:∀ i,i < d→zeroAt s p f i < 0) {n:Nat} (h:zeroAt s p f d=(n:Int)):kK s p f=((d:Int),(n:Int)):=by
 unfold kK
 rw [BU hd hprev (by omega),h]
theorem BZ {s:au} {p:List Order} {f:Nat} (hprev:∀ i,i < s.days.toNat→zeroAt s p f i < 0):kK s p f=(-1,0):=by
 unfold kK
 rw [BV hprev]
theorem B0 (one:Bool) {s:au} {p:List Order} (hp:mO s p) (full:Bool) (f:List Int) (ff:Bool) (hf:f.length≤maxLen) (hin:∀ x ∈ f,0≤x∧x < p.length) :
  Pu one 30 [.ag (ak s),.sl (p.map ay) full,.sl (ints f) ff] (.tp [aA (kK s p (aO f)).1,aA (kK s p (aO f)).2]):=by
 have hg:=hp.good
 have hlen:=hg.len
 have hdays:=hg.days
 have o1:=Eg one hp full f ff hf hin
 generalize aO f=b at *
 have er:((tH s p b s.days.toNat).length:Int)=s.days:=by rw [zR];omega
 refine ah.body (fn:=Tryz.f30) rfl rfl rfl rfl ?_
 refine aa (mu:=fun _=>false) ?_
 repeat' (first |refine u1 ?_ |((with_reducible show ax _ _ _ _ _ _ _ _);refine ah.call o1 rfl rfl ?_) |refine u2 ?_ |fail)
 refine aB.aJ (ai.to (l:=[(8,.sl (tH s p b s.days.toNat) false),(9,aA (0:Nat))]) (hp:=[]) 0 rfl ⟨rfl,rfl,trivial⟩ (Nat.zero_le _) rfl rfl) ?_
 refine aB.loop (fun d:Nat=>d≤s.days.toNat∧∀ i,i < d→zeroAt s p b i < 0) (fun d=>⟨aS [(8,.sl (tH s p b s.days.toNat) false),(9,aA (d:Nat))],[],bJ.none,false,0⟩) (fun d=>s.days.toNat - d) ?_ 0 ⟨Nat.zero_le _,fun i hi=>absurd hi (Nat.not_lt_zero _)⟩
 rintro d ⟨hd,hprev⟩
 refine aa (mu:=fun _=>false) ?_
 by_cases hdl:d < s.days.toNat
 ·have d1:decide ((d:Int) < ((tH s p b s.days.toNat).length:Int))=true:=decide_eq_true (by omega)
  have hat:(tH s p b s.days.toNat)[((d:Nat):Int).toNat]?=some [AV.sl (ints (gQ s p b d)) false]:=by rw [Int.toNat_natCast];exact Jk hdl
  have hll:=jn (s:=s) (p:=p) (f:=b) (d:=d)
  have el:((ints (gQ s p b d)).length:Int)=s.needs.length:=by rw [List.length_map,hll]
  repeat' (first |refine u1 ?_ |refine u2 ?_ |fail)
  refine aB.aJ (ai.to (l:=[(8,.sl (tH s p b s.days.toNat) false),(9,aA (d:Nat)),(10,aA (0:Nat))]) (hp:=[]) 0 rfl ⟨rfl,rfl,rfl,trivial⟩ (Nat.zero_le _) rfl rfl) ?_
  refine aB.loop (fun n:Nat=>n≤s.needs.length∧∀ i (h:i < (gQ s p b d).length),i < n→decide (0=(gQ s p b d)[i])=false) (fun n=>⟨aS [(8,.sl (tH s p b s.days.toNat) false),(9,aA (d:Nat)),(10,aA (n:Nat))],[],bJ.none,false,0⟩) (fun n=>s.needs.length - n) ?_ 0 ⟨Nat.zero_le _,fun i _ hi=>absurd hi (Nat.not_lt_zero _)⟩
  rintro n ⟨hn,hpn⟩
  refine aa (mu:=fun _=>false) ?_
  by_cases hnl:n < s.needs.length
  ·have d2:decide ((n:Int) < ((ints (gQ s p b d)).length:Int))=true:=decide_eq_true (by omega)
   have hnl2:n < (gQ s p b d).length:=by omega
   have hnt:(ints (gQ s p b d))[((n:Nat):Int).toNat]?=some (eI (gQ s p b d)[n]):=bl hnl2
   by_cases hz:(gQ s p b d)[n]=0
   ·have d3:=decide_eq_true hz
    have e:=BX hdl hprev (n:=n) (lH hnl2 hpn (decide_eq_true hz.symm))
    rw [e]
    generalize (gQ s p b d)[n]=v at *
    repeat' (first |refine u1 ?_ |(refine ⟨[AV.sl (ints (gQ s p b d)) false],⟨by omega,hat⟩,rfl,?_⟩) |((with_reducible show RM.wpOp _ _ (.indexAddr _ _ _) _ _ _);refine ⟨eI v,⟨by omega,hnt⟩,rfl,?_⟩) |refine u2 ?_ |fail)
    exact ⟨[_,_],⟨Fz.deep rfl,Fz.deep rfl,trivial⟩,rfl⟩
   ·have d3:=decide_eq_false hz
    have hpn':∀ i (h:i < (gQ s p b d).length),i < n+1→decide (0=(gQ s p b d)[i])=false:=fun i hi hik=>by
     by_cases e:i=n
     ·subst e;exact decide_eq_false (fun h=>hz h.symm)
     ·exact hpn i hi (by omega)
    generalize hv:(gQ s p b d)[n]=v at hnt d3
    repeat' (first |refine u1 ?_ |(refine ⟨[AV.sl (ints (gQ s p b d)) false],⟨by omega,hat⟩,rfl,?_⟩) |((with_reducible show RM.wpOp _ _ (.indexAddr _ _ _) _ _ _);refine ⟨eI v,⟨by omega,hnt⟩,rfl,?_⟩) |refine u2 ?_ |fail)
    exact ⟨n+1,⟨hnl,hpn'⟩,(by dsimp only;omega),ai.to 0 rfl ⟨rfl,rfl,aV (by simp),trivial⟩ (Nat.zero_le _) rfl rfl⟩
  ·have d2:decide ((n:Int) < ((ints (gQ s p b d)).length:Int))=false:=decide_eq_false (by omega)
   have hz:zeroAt s p b d=-1:=lI (fun i hi=>hpn i hi (by omega))
   repeat' (first |refine u1 ?_ |(refine ⟨[AV.sl (ints (gQ s p b d)) false],⟨by omega,hat⟩,rfl,?_⟩) |refine u2 ?_ |fail)
   refine ⟨d+1,⟨hdl,fun i hi=>?_⟩,(by dsimp only;omega),ai.to 0 rfl ⟨rfl,aV (by simp),trivial⟩ (Nat.zero_le _) rfl rfl⟩
   by_cases e:i=d
   ·subst e;omega
   ·exact hprev i (by omega)
 ·have d1:decide ((d:Int) < ((tH s p b s.days.toNat).length:Int))=false:=decide_eq_false (by omega)
  rw [BZ (fun i hi=>hprev i (by omega))]
  repeat' (first |refine u1 ?_ |refine u2 ?_ |fail)
  exact ⟨[_,_],⟨Fz.deep rfl,Fz.deep rfl,trivial⟩,rfl⟩
abbrev Dg (s:au) (orders known most:Int) (f:Nat):AV:=.fn 50 [] [.pt [aA orders] 0,.pt (ak s) 0,.pt [aA known] 0,.pt [fP f] 0,.pt [aA most] 0]
theorem r0 (one:Bool) (s:au) (orders known most:Int) (f:Nat):Pu one 21 [.ag (ak s),aA orders,aA known,fP f,aA most] (Dg s orders known most f):=by
 refine ah.body (fn:=Tryz.f21) rfl rfl rfl rfl ?_
 refine aa (mu:=fun _=>false) ?_
 repeat' (first |refine u1 ?_ |refine u2 ?_ |fail)
 exact ⟨[_],⟨Fz.deep rfl,trivial⟩,rfl⟩
def gM (R:Int):Nat→Nat→Nat→Int→Int→List Nat
 | 0,_,f,_,_=>[f]
 | n+1,i,f,row,left=>gM R n (i+1) f 0 left++(if left=0∨R≤row then [] else gM R n (i+1) (f ||| 2 ^ i) (row+1) (left - 1))
def rowAt (f:Nat):Nat→Int
 | 0=>0
 | k+1=>if f.testBit k=true then rowAt f k+1 else 0
def pN (s:au) (orders known:Nat) (f:Nat) (most:Int):List Nat:=gM s.row (orders - known) known f (rowAt f known) most
abbrev PT (s:au) (orders:Nat) (u:Value):List AV:=[.pt [aA (orders:Nat)] 0,.pt [.oq u] 0,.ptr 0 0 0,.pt (ak s) 0]
abbrev Jn (s:au) (orders:Nat) (u:Value):AB:=.cells [.fn 51 [] (PT s orders u)] 0 0
theorem Dh (one:Bool) {s:au} (hg:Good s) (orders:Nat) (ho:orders≤8) (u:Value) (J:Nat→bJ) (Stop:bJ→Prop) (xs:List Nat)
  (hy:∀ (i:Nat) (x:List AV),(xs.map fun x=>[fP x])[i]?=some x→zy TT TB one u x (J i) (C4 (J (i+1)) Stop)) :
  ∀ (n i f:Nat) (row left:Int) (k:Nat),i+n=orders→f < 2 ^ i→(0≤row∧row≤i)→(0≤left∧left≤1000)→(∀ j x,(gM s.row n i f row left)[j]?=some x→xs[k+j]?=some x) →
   ax TT TB one (.fn 51 [] (PT s orders u)) [aA (i:Nat),fP f,aA row,aA left] [Jn s orders u] (J k)
    fun v hp' a'=>hp'=[Jn s orders u]∧∃ b,v=BB b∧C4 (J (k+(gM s.row n i f row left).length)) Stop b a'
 | 0,i,f,row,left,k,hi,hf,hr,hl,hat=>by
  have d1:decide ((i:Int)=(orders:Int))=true:=decide_eq_true (by omega)
  have hx:(xs.map fun x=>[fP x])[k]?=some [fP f]:=by
   have:=hat 0 f rfl
   rw [Nat.add_zero] at this
   rw [List.getElem?_map,this]
   rfl
  have hyx:=hy k _ hx
  refine ax.body (fn:=Tryz.f51) rfl rfl rfl ?_
  refine aa (mu:=fun _=>false) ?_
  repeat' (first |refine u1 ?_ |refine u2 ?_ |fail)
  refine ax.mono (hyx _) (fun a hp' amb' hq=>?_)
  obtain ⟨rfl,b,rfl,hb⟩:=hq
  repeat' (first |refine u1 ?_ |refine u2 ?_ |fail)
  exact hb
 | n+1,i,f,row,left,k,hi,hf,hr,hl,hat=>by
  have d1:decide ((i:Int)=(orders:Int))=false:=decide_eq_false (by omega)
  have hrow:=hg.row
  have e1:((i:Nat):Int)+1=((i+1:Nat):Int):=by omega
  have i8:i < 8:=by omega
  have h2i:2 ^ i < 18446744073709551616:=Nat.lt_of_lt_of_le (Nat.pow_lt_pow_right (by decide) i8) (by decide)
  have hff:f < 18446744073709551616:=by omega
  have hfi:f < 2 ^ (i+1):=Nat.lt_of_lt_of_le hf (Nat.pow_le_pow_right (by decide) (by omega))
  have hlen:(gM s.row (n+1) i f row left).length=(gM s.row n (i+1) f 0 left).length+(if left=0∨s.row≤row then [] else gM s.row n (i+1) (f ||| 2 ^ i) (row+1) (left - 1)).length:=by
   rw [gM,List.length_append]
  have hat1:∀ j x,(gM s.row n (i+1) f 0 left)[j]?=some x→xs[k+j]?=some x:=fun j x hj=>hat j x (by
   rw [gM,List.getElem?_append_left (List.getElem?_eq_some_iff.1 hj).1]
   exact hj)
  have c1:=Dh one hg orders ho u J Stop xs hy n (i+1) f 0 left k (by omega) hfi (by omega) hl hat1
  have hb1:-9223372036854775808≤left - 1∧left - 1≤9223372036854775807:=by omega
  refine ax.body (fn:=Tryz.f51) rfl rfl rfl ?_
  refine RM.cv (mu:=fun _=>false) ?_
  repeat' (first |refine u1 ?_ |refine u2 ?_ |fail)
  refine RM.cv (mu:=fun _=>false) ?_
  repeat' (first |refine u1 ?_ |refine u2 ?_ |fail)
  refine RM.cv (mu:=fun _=>false) ?_
  repeat' (first |refine u1 ?_ |refine u2 ?_ |fail)
  rw [e1]
  refine ax.mono c1 (fun a hp' amb' hq=>?_)
  obtain ⟨rfl,b,rfl,hb⟩:=hq
  rcases hb with ⟨rfl,rfl⟩|⟨rfl,hstop⟩
  ·repeat' (first |refine u1 ?_ |refine u2 ?_ |fail)
   by_cases hs:left=0∨s.row≤row
   ·rw [if_pos hs] at hlen
    have hj:J (k+(gM s.row (n+1) i f row left).length)=J (k+(gM s.row n (i+1) f 0 left).length):=by rw [hlen];rfl
    rw [hj]
    by_cases q1:left=0
    ·have e2:=decide_eq_true q1
     refine aa (mu:=fun _=>false) ?_
     repeat' (first |(refine RM.c5 (c:=21) (l1:=[_,_,_,_,_,_,_,_,_,_,_,_,_,_,_,_,_,_,_,_,_]) (l2:=[_,_,_]) (by kernel_rfl) rfl rfl ?_) |refine u1 ?_ |refine u2 ?_ |fail)
     exact .inl ⟨rfl,rfl⟩
    ·have e2:=decide_eq_false q1
     have e3:decide (s.row≤row)=true:=decide_eq_true (by omega)
     refine aa (mu:=fun _=>false) ?_
     repeat' (first |(refine RM.c5 (c:=21) (l1:=[_,_,_,_,_,_,_,_,_,_,_,_,_,_,_,_,_,_,_,_,_]) (l2:=[_,_,_]) (by kernel_rfl) rfl rfl ?_) |refine u1 ?_ |refine u2 ?_ |fail)
     exact .inl ⟨rfl,rfl⟩
   ·have e2:decide (left=0)=false:=decide_eq_false (by omega)
    have e3:decide (s.row≤row)=false:=decide_eq_false (by omega)
    rw [if_neg hs] at hlen
    have hat2:∀ j x,(gM s.row n (i+1) (f ||| 2 ^ i) (row+1) (left - 1))[j]?=some x→xs[k+(gM s.row n (i+1) f 0 left).length+j]?=some x:=fun j x hj=>by
     rw [Nat.add_assoc]
     refine hat _ x ?_
     rw [gM,if_neg hs,List.getElem?_append_right (Nat.le_add_right _ _),Nat.add_sub_cancel_left]
     exact hj
    have hf2:f ||| 2 ^ i < 2 ^ (i+1):=Nat.or_lt_two_pow hfi (Nat.pow_lt_pow_right (by decide) (by omega))
    have c2:=Dh one hg orders ho u J Stop xs hy n (i+1) (f ||| 2 ^ i) (row+1) (left - 1) (k+(gM s.row n (i+1) f 0 left).length) (by omega) hf2 (by omega) (by omega) hat2
    rw [Nat.add_assoc,←hlen] at c2
    refine aa (mu:=fun _=>false) ?_
    repeat' (first |(refine RM.c5 (c:=21) (l1:=[_,_,_,_,_,_,_,_,_,_,_,_,_,_,_,_,_,_,_,_,_]) (l2:=[_,_,_]) (by kernel_rfl) rfl rfl ?_) |((with_reducible show aT _ _ _ _ _ _ _ _ _);refine RM.Mk rfl rfl i8 ?_) |((with_reducible show aT _ _ _ _ _ _ _ _ _);refine RM.PM rfl rfl hff h2i ?_) |refine u1 ?_ |refine u2 ?_ |fail)
    rw [e1]
    refine ax.mono c2 (fun a hp' amb' hq=>?_)
    obtain ⟨rfl,b,rfl,hb⟩:=hq
    repeat' (first |refine u1 ?_ |refine u2 ?_ |fail)
    exact hb
  ·repeat' (first |refine u1 ?_ |refine u2 ?_ |fail)
   exact .inr ⟨rfl,hstop⟩
theorem qO (f:Nat):∀ k:Nat,0≤rowAt f k∧rowAt f k≤k
 | 0=>⟨Int.le_refl _,Int.le_refl _⟩
 | k+1=>by
  have:=qO f k
  unfold rowAt
  split <;> omega
theorem sg (one:Bool) {s:au} (hg:Good s) (orders known:Nat) (f:Nat) (most:Int) (ho:orders≤8) (hk:known≤orders) (hf:f < 2 ^ known) (hm:0≤most∧most≤1000):zA TT TB one (Dg s (orders:Nat) (known:Nat) most f) ((pN s orders known f most).map fun x=>[fP x]):=by
 have hf256:f < 2 ^ 8:=Nat.lt_of_lt_of_le hf (Nat.pow_le_pow_right (by decide) (by omega))
 refine zA.body (fn:=Tryz.f50) rfl rfl rfl rfl (fun x hx a ha=>?_) fun u J Stop hy=>?_
 ·obtain ⟨i,_,rfl⟩:=List.mem_map.1 hx
  simp only [List.mem_cons,List.not_mem_nil,or_false] at ha
  rcases ha with rfl
  exact gi.fl _
 rw [List.length_map]
 refine RM.cv (mu:=fun _=>false) ?_
 repeat' (first |refine u1 ?_ |refine u2 ?_ |fail)
 refine RM.cv (mu:=fun _=>false) ?_
 repeat' (first |refine u1 ?_ |refine u2 ?_ |fail)
 refine RM.cv (mu:=fun _=>false) ?_
 repeat' (first |refine u1 ?_ |refine u2 ?_ |fail)
 refine RM.cv (mu:=fun _=>false) ?_
 repeat' (first |refine u1 ?_ |refine u2 ?_ |fail)
 refine RM.cutAt (st':=⟨aS [(3,.pt [aA (known:Nat)] 0),(4,.pt [fP f] 0),(5,.pt [aA most] 0),(7,.ptr 0 0 0),(8,aA (rowAt f known))],[Jn s orders u],J 0,false,0⟩) ?_ ?_
 ·refine RM.cv (mu:=fun _=>false) ?_
  repeat' (first |refine u1 ?_ |refine u2 ?_ |fail)
  refine aB.block ?_
  refine aB.aJ (ai.to (l:=[(3,.pt [aA (known:Nat)] 0),(4,.pt [fP f] 0),(5,.pt [aA most] 0),(7,.ptr 0 0 0),(8,aA ((known:Int) - (known:Nat))),(9,aA (((known:Nat):Int) - 1))]) (hp:=[Jn s orders u]) 1 rfl ⟨rfl,rfl,rfl,rfl,aV (by omega),rfl,trivial⟩ (Nat.zero_le _) rfl rfl) ?_
  refine aB.loop (fun m:Nat=>m≤known∧rowAt f known=rowAt f m+((known:Int) - (m:Int))) (fun m=>⟨aS [(3,.pt [aA (known:Nat)] 0),(4,.pt [fP f] 0),(5,.pt [aA most] 0),(7,.ptr 0 0 0),(8,aA ((known:Int) - (m:Nat))),(9,aA (((m:Nat):Int) - 1))],[Jn s orders u],J 0,false,0⟩) (fun m=>m) ?_ known ⟨Nat.le_refl _,by omega⟩
  rintro m ⟨hmk,hrow⟩
  have fin:rowAt f m=0→(known:Int) - (m:Int)=rowAt f known:=fun h=>by omega
  cases m with
  | zero =>
   have d1:decide ((0:Int)≤((0:Nat):Int) - 1)=false:=by decide
   rw [fin rfl]
   refine aa (mu:=fun _=>false) ?_
   repeat' (first |refine u1 ?_ |refine u2 ?_ |fail)
   exact .is (ai.to 1 rfl ⟨rfl,rfl,rfl,rfl,rfl,trivial⟩ (Nat.zero_le _) rfl rfl)
  | succ m =>
   have e1:((m+1:Nat):Int) - 1=(m:Int):=by omega
   rw [e1]
   have d1:decide ((0:Int)≤(m:Int))=true:=decide_eq_true (by omega)
   have m8:m < 8:=by omega
   have hfm:f / 2 ^ m < 18446744073709551616:=Nat.lt_of_le_of_lt (Nat.div_le_self _ _) (by omega)
   have hbit:f / 2 ^ m % 2=if f.testBit m=true then 1 else 0:=by
    rw [Nat.testBit_eq_decide_div_mod_eq]
    have:=Nat.mod_two_eq_zero_or_one (f / 2 ^ m)
    rcases this with e|e <;> rw [e] <;> simp
   cases hb:f.testBit m with
   | true =>
    rw [hb,if_pos rfl] at hbit
    have d2:decide (((f / 2 ^ m % 2:Nat):Int)=1)=true:=decide_eq_true (by rw [hbit];decide)
    have hrs:rowAt f (m+1)=rowAt f m+1:=by
     show (if f.testBit m=true then rowAt f m+1 else 0)=_
     rw [if_pos hb]
    refine aa (mu:=fun _=>false) ?_
    repeat' (first |((with_reducible show aT _ _ _ _ _ _ _ _ _);refine RM.D9 rfl rfl m8 ?_) |((with_reducible show aT _ _ _ _ _ _ _ _ _);refine RM.zM rfl rfl hfm ?_) |((with_reducible show aT _ _ _ _ _ _ _ _ _);refine RM.KF rfl rfl ?_) |refine u1 ?_ |refine u2 ?_ |fail)
    exact ⟨m,⟨by omega,by omega⟩,Nat.lt_succ_self _,ai.to 1 rfl ⟨rfl,rfl,rfl,rfl,aV (by omega),rfl,trivial⟩ (Nat.zero_le _) rfl rfl⟩
   | false =>
    rw [hb,if_neg (by simp)] at hbit
    have d2:decide (((f / 2 ^ m % 2:Nat):Int)=1)=false:=decide_eq_false (by rw [hbit];decide)
    rw [fin (by show (if f.testBit m=true then rowAt f m+1 else 0)=0;rw [hb];rfl)]
    refine aa (mu:=fun _=>false) ?_
    repeat' (first |((with_reducible show aT _ _ _ _ _ _ _ _ _);refine RM.D9 rfl rfl m8 ?_) |((with_reducible show aT _ _ _ _ _ _ _ _ _);refine RM.zM rfl rfl hfm ?_) |((with_reducible show aT _ _ _ _ _ _ _ _ _);refine RM.KF rfl rfl ?_) |refine u1 ?_ |refine u2 ?_ |fail)
    exact .is (ai.to 1 rfl ⟨rfl,rfl,rfl,rfl,rfl,trivial⟩ (Nat.zero_le _) rfl rfl)
 ·have hb:=qO f known
  have c1:=Dh one hg orders ho u J Stop (pN s orders known f most) hy (orders - known) known f (rowAt f known) most 0 (by omega) hf hb hm (fun j x hj=>by rw [Nat.zero_add];exact hj)
  refine aa (mu:=fun _=>false) ?_
  repeat' (first |refine u1 ?_ |refine u2 ?_ |fail)
  refine ax.mono c1 (fun a hp' amb' hq=>?_)
  obtain ⟨rfl,b,rfl,hb⟩:=hq
  repeat' (first |refine u1 ?_ |refine u2 ?_ |fail)
  rcases hb with ⟨_,h⟩|⟨_,h⟩
  ·rw [Nat.zero_add] at h
   exact Or.inl h
  ·exact Or.inr h
end Go.Proofs.YtpeogffeoehboaaGreatDoor
