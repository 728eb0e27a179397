/-
  Contracts of the program's functions and of the document's. Lemmas alone; their conditions stand in them.
-/
import Derived.Test.YtpeogffeoehboaaDoorA2
import Derived.Test.YtpeogffeoehboaaDoorA3
import Derived.Test.YtpeogffeoehboaaDoorX4
import Derived.Test.YtpeogffeoehboaaDoorK1
import Derived.Test.YtpeogffeoehboaaDoorK2
import Derived.Test.YtpeogffeoehboaaDoorK3
open Go Go.RM
namespace Go.Proofs.YtpeogffeoehboaaDoor
set_option maxRecDepth 100000
set_option maxHeartbeats 4000000
theorem qA {s:ai} (h:cP s=false) (h1:fH 1 3 [(s.needs.length:Int)]=false) (hprev:∀ i,i < s.needs.length→eW s i=0) (h2:¬ 6 < s.possible.length) {k:Nat} {v:Int} (hk:k < s.possible.length) (hp:∀ i,i < k→fo s.possible s.days 7 i=0) (hv:fo s.possible s.days 7 k=v) (h0:v ≠ 0):iM s=(3,(k:Int),v):=by
 rw [vp h h1 hprev h2,gz hk hp (by rw [hv];exact h0),hv,if_pos h0]
theorem KM {s:ai} (h:cP s=false) (h1:fH 1 3 [(s.needs.length:Int)]=false) (hprev:∀ i,i < s.needs.length→eW s i=0) (h2:¬ 6 < s.possible.length) (hp:∀ i,i < s.possible.length→fo s.possible s.days 7 i=0):iM s=(0,0,0):=by
 rw [vp h h1 hprev h2,dX hp];rfl
theorem BG (one:Bool) (s:ai) (h:s.Ok):Pu one 14 [.ag (ay s)] (.tp [aC (iM s).1,aC (iM s).2.1,aC (iM s).2.2]):=by
 have eg:((s.needs.map aR).length:Int)=s.needs.length:=by simp
 have o1:=jH one s.days 1 60
 have o2:=jH one s.load 1 30
 have o3:=jH one s.fail 0 8
 have o4:=jH one s.row 1 8
 have o5:=jH one ((s.needs.map aR).length:Int) 1 3
 rw [eg] at o5
 cases e1:nA s.days 1 60 with
 | false =>
  rw [e1] at o1
  rw [iK (by unfold cP;rw [bD,e1];simp)]
  refine ah.body (fn:=Tryd.f14) rfl rfl rfl rfl ?_
  refine aa (mu:=fun t=>Nat.beq t 57) ?_
  repeat' (first |refine u1 ?_ |((with_reducible show av _ _ _ _ _ _ _ _);refine ah.call o1 rfl rfl ?_) |refine u2 ?_ |fail)
  exact ⟨[_,_,_],⟨Fz.deep rfl,Fz.deep rfl,Fz.deep rfl,trivial⟩,rfl⟩
 | true =>
  rw [e1] at o1
  cases e2:nA s.load 1 30 with
  | false =>
   rw [e2] at o2
   rw [iK (by unfold cP;rw [bD,e1,bD,e2];simp)]
   refine ah.body (fn:=Tryd.f14) rfl rfl rfl rfl ?_
   refine aa (mu:=fun t=>Nat.beq t 57) ?_
   repeat' (first |refine u1 ?_ |((with_reducible show av _ _ _ _ _ _ _ _);refine ah.call o1 rfl rfl ?_) |((with_reducible show av _ _ _ _ _ _ _ _);refine ah.call o2 rfl rfl ?_) |refine u2 ?_ |fail)
   exact ⟨[_,_,_],⟨Fz.deep rfl,Fz.deep rfl,Fz.deep rfl,trivial⟩,rfl⟩
  | true =>
   rw [e2] at o2
   cases e3:nA s.fail 0 8 with
   | false =>
    rw [e3] at o3
    rw [iK (by unfold cP;rw [bD,e1,bD,e2,bD,e3];simp)]
    refine ah.body (fn:=Tryd.f14) rfl rfl rfl rfl ?_
    refine aa (mu:=fun t=>Nat.beq t 57) ?_
    repeat' (first |refine u1 ?_ |((with_reducible show av _ _ _ _ _ _ _ _);refine ah.call o1 rfl rfl ?_) |((with_reducible show av _ _ _ _ _ _ _ _);refine ah.call o2 rfl rfl ?_) |((with_reducible show av _ _ _ _ _ _ _ _);refine ah.call o3 rfl rfl ?_) |refine u2 ?_ |fail)
    exact ⟨[_,_,_],⟨Fz.deep rfl,Fz.deep rfl,Fz.deep rfl,trivial⟩,rfl⟩
   | true =>
    rw [e3] at o3
    cases e4:nA s.row 1 8 with
    | false =>
     rw [e4] at o4
     rw [iK (by unfold cP;rw [bD,e1,bD,e2,bD,e3,bD,e4];simp)]
     refine ah.body (fn:=Tryd.f14) rfl rfl rfl rfl ?_
     refine aa (mu:=fun t=>Nat.beq t 57) ?_
     repeat' (first |refine u1 ?_ |((with_reducible show av _ _ _ _ _ _ _ _);refine ah.call o1 rfl rfl ?_) |((with_reducible show av _ _ _ _ _ _ _ _);refine ah.call o2 rfl rfl ?_) |((with_reducible show av _ _ _ _ _ _ _ _);refine ah.call o3 rfl rfl ?_) |((with_reducible show av _ _ _ _ _ _ _ _);refine ah.call o4 rfl rfl ?_) |refine u2 ?_ |fail)
     exact ⟨[_,_,_],⟨Fz.deep rfl,Fz.deep rfl,Fz.deep rfl,trivial⟩,rfl⟩
    | true =>
     rw [e4] at o4
     have hb:cP s=false:=by unfold cP;rw [bD,bD,bD,bD,e1,e2,e3,e4];rfl
     cases e5:nA (s.needs.length:Int) 1 3 with
     | false =>
      rw [Bz hb (by rw [bD,e5];rfl)]
      rw [e5,←eg] at o5
      refine ah.body (fn:=Tryd.f14) rfl rfl rfl rfl ?_
      refine aa (mu:=fun t=>Nat.beq t 57) ?_
      repeat' (first |refine u1 ?_ |((with_reducible show av _ _ _ _ _ _ _ _);refine ah.call o1 rfl rfl ?_) |((with_reducible show av _ _ _ _ _ _ _ _);refine ah.call o2 rfl rfl ?_) |((with_reducible show av _ _ _ _ _ _ _ _);refine ah.call o3 rfl rfl ?_) |((with_reducible show av _ _ _ _ _ _ _ _);refine ah.call o4 rfl rfl ?_) |((with_reducible show av _ _ _ _ _ _ _ _);refine ah.call o5 rfl rfl ?_) |refine u2 ?_ |fail)
      exact ⟨[_,_,_],⟨Fz.deep rfl,Fz.deep rfl,Fz.deep rfl,trivial⟩,rfl⟩
     | true =>
      rw [e5,←eg] at o5
      have hl:fH 1 3 [(s.needs.length:Int)]=false:=by rw [bD,e5];rfl
      have hn3:s.needs.length≤3:=by
       have:=cB hl
       omega
      refine ah.body (fn:=Tryd.f14) rfl rfl rfl rfl ?_
      refine aa (mu:=fun t=>Nat.beq t 57) ?_
      repeat' (first |refine u1 ?_ |((with_reducible show av _ _ _ _ _ _ _ _);refine ah.call o1 rfl rfl ?_) |((with_reducible show av _ _ _ _ _ _ _ _);refine ah.call o2 rfl rfl ?_) |((with_reducible show av _ _ _ _ _ _ _ _);refine ah.call o3 rfl rfl ?_) |((with_reducible show av _ _ _ _ _ _ _ _);refine ah.call o4 rfl rfl ?_) |((with_reducible show av _ _ _ _ _ _ _ _);refine ah.call o5 rfl rfl ?_) |refine u2 ?_ |fail)
      refine aA.aU (ak.trans (ak.vj 1) (ak.OY (l:=[(1,.pt (ay s) 0),(5,.bO 0 (0,0,0).2.1 0 (0,0,0).1 (0,0,0).2.2),(6,aC ((0,0,0).1:Nat))]) (hp:=[.cells (fI (s.needs.take (0,0,0).1)) 1 (0,0,0).2.1]) 1 rfl ⟨cw.refl _,cw.vi,cw.refl _,trivial⟩ (Nat.zero_le _) rfl (xO _ _))) ?_
      refine aA.loop (fun x:Nat × Nat × Nat=>x.1≤s.needs.length∧(∀ i,i < x.1→eW s i=0)∧(x.2.2=x.1∨x.2.2=x.1+1)) (fun x=>⟨bu [(1,.pt (ay s) 0),(5,.bO 0 x.2.1 0 x.1 x.2.2),(6,aC (x.1:Nat))],[.cells (fI (s.needs.take x.1)) 1 x.2.1],bR.none,false,0⟩) (fun x=>s.needs.length - x.1) ?_ (0,0,0) ⟨Nat.zero_le _,(fun i hi=>absurd hi (Nat.not_lt_zero _)),.inl rfl⟩
      rintro ⟨k,aB,c⟩ ⟨hk,hprev,hcap⟩
      dsimp only at hk hprev hcap
      show aA _ _ _ _ ⟨bu [(1,.pt (ay s) 0),(5,.bO 0 (k,aB,c).2.1 0 (k,aB,c).1 (k,aB,c).2.2),(6,aC ((k,aB,c).1:Nat))],[.cells (fI (s.needs.take (k,aB,c).1)) 1 (k,aB,c).2.1],bR.none,false,0⟩ _
      dsimp only
      refine aa (mu:=fun t=>Nat.beq t 57) ?_
      by_cases hlt:k < s.needs.length
      ·have d5:decide ((k:Int) < ((s.needs.map aR).length:Int))=true:=decide_eq_true (by omega)
       have hat:(s.needs.map aR)[((k:Nat):Int).toNat]?=some (aR s.needs[k]):=bY hlt
       have hga:eW s k=zA s.needs[k] (s.needs.take k):=by unfold eW;rw [List.getElem?_eq_getElem hlt];exact KK _ _
       have hfr:=KJ one ((s.needs.take k).map (·.name)) false s.needs[k].name (h.names _ (List.getElem_mem hlt)) (by simp [maxLen];omega)
       have o6:=jH one s.needs[k].full 1 60
       have o7:=jH one s.needs[k].first 0 s.needs[k].full
       have o8:=jH one s.needs[k].weight 1 30
       have htl:(s.needs.take k).length=k:=by rw [List.length_take];omega
       have hnt:=BC hlt
       have hgl:(fI (s.needs.take k)).length=k:=by unfold fI;rw [List.length_map,htl]
       generalize s.needs[k]=g at *
       generalize hE:lz g.name ((s.needs.take k).map (·.name))=E at *
       have z00:decide ((0:Int)=0)=true:=by decide
       have z70:decide ((7:Int)=0)=false:=by decide
       have n00:(!decide ((0:Int)=0))=false:=by decide
       have n70:(!decide ((7:Int)=0))=true:=by decide
       unfold zA at hga
       rw [hE] at hga
       repeat' (first |((with_reducible show RM.wpOp _ _ (.call _) _ _ _);refine RM.Jc (cs:=fI (s.needs.take k)) (n:=k) (els:=[eS g.name]) rfl rfl rfl rfl rfl (fun el hel=>by rw [List.mem_singleton.1 hel];rfl) rfl rfl (by rw [hgl];exact (Nat.mul_one _).symm) hcap (by simp only [List.length_singleton];omega) (fun v' c' hc'=>?_)) |refine u1 ?_ |((with_reducible show RM.wpOp _ _ (.indexAddr _ _ _) _ _ _);refine ⟨aR g,⟨by omega,hat⟩,rfl,?_⟩) |((with_reducible show av _ _ _ _ _ _ _ _);refine ah.N1 hfr rfl (nw.two (Fz.deep rfl) (Fw _ htl)) (fm.fl _) ?_) |refine u2 ?_ |fail)
       by_cases g1:E=0
       ·rw [if_neg (by omega)] at hga
        have d7:decide (E=0)=true:=decide_eq_true g1
        have d7':(!decide (E=0))=false:=by rw [d7];rfl
        have bad:(nA g.full 1 60=false∨nA g.first 0 g.full=false∨nA g.weight 1 30=false)→iM s=(2,(k:Int),7):=fun hb2=>by
         rw [if_pos hb2] at hga
         exact Dc hb hl hlt hprev hga (by decide)
        cases g2:nA g.full 1 60 with
        | false =>
         rw [g2] at o6
         rw [bad (.inl g2)]
         repeat' (first |((with_reducible show av _ _ _ _ _ _ _ _);refine ah.call o6 rfl rfl ?_) |((with_reducible show av _ _ _ _ _ _ _ _);refine ah.call o7 rfl rfl ?_) |((with_reducible show av _ _ _ _ _ _ _ _);refine ah.call o8 rfl rfl ?_) |refine u1 ?_ |refine u2 ?_ |fail)
         exact ⟨[_,_,_],⟨Fz.deep rfl,Fz.deep rfl,Fz.deep rfl,trivial⟩,rfl⟩
        | true =>
         rw [g2] at o6
         cases g3:nA g.first 0 g.full with
         | false =>
          rw [g3] at o7
          rw [bad (.inr (.inl g3))]
          repeat' (first |((with_reducible show av _ _ _ _ _ _ _ _);refine ah.call o6 rfl rfl ?_) |((with_reducible show av _ _ _ _ _ _ _ _);refine ah.call o7 rfl rfl ?_) |((with_reducible show av _ _ _ _ _ _ _ _);refine ah.call o8 rfl rfl ?_) |refine u1 ?_ |refine u2 ?_ |fail)
          exact ⟨[_,_,_],⟨Fz.deep rfl,Fz.deep rfl,Fz.deep rfl,trivial⟩,rfl⟩
         | true =>
          rw [g3] at o7
          cases g4:nA g.weight 1 30 with
          | false =>
           rw [g4] at o8
           rw [bad (.inr (.inr g4))]
           repeat' (first |((with_reducible show av _ _ _ _ _ _ _ _);refine ah.call o6 rfl rfl ?_) |((with_reducible show av _ _ _ _ _ _ _ _);refine ah.call o7 rfl rfl ?_) |((with_reducible show av _ _ _ _ _ _ _ _);refine ah.call o8 rfl rfl ?_) |refine u1 ?_ |refine u2 ?_ |fail)
           exact ⟨[_,_,_],⟨Fz.deep rfl,Fz.deep rfl,Fz.deep rfl,trivial⟩,rfl⟩
          | true =>
           rw [g4] at o8
           rw [if_neg (by rw [g2,g3,g4];simp)] at hga
           repeat' (first |((with_reducible show av _ _ _ _ _ _ _ _);refine ah.call o6 rfl rfl ?_) |((with_reducible show av _ _ _ _ _ _ _ _);refine ah.call o7 rfl rfl ?_) |((with_reducible show av _ _ _ _ _ _ _ _);refine ah.call o8 rfl rfl ?_) |refine u1 ?_ |refine u2 ?_ |fail)
           refine ⟨(k+1,v',c'),⟨hlt,(fun i hi=>?_),hc'⟩,(by dsimp only;omega),?_⟩
           ·by_cases hik:i=k
            ·subst hik;exact hga
            ·exact hprev i (by dsimp only at hi;omega)
           ·exact ak.to 1 (by dsimp only;rw [hnt];rfl) ⟨rfl,rfl,bM (by simp),trivial⟩ (Nat.zero_le _) rfl (xO _ _)
       ·rw [if_pos g1] at hga
        rw [Dc hb hl hlt hprev hga g1]
        have d7:decide (E=0)=false:=decide_eq_false g1
        have d7':(!decide (E=0))=true:=by rw [d7];rfl
        repeat' (first |((with_reducible show av _ _ _ _ _ _ _ _);refine ah.call o6 rfl rfl ?_) |((with_reducible show av _ _ _ _ _ _ _ _);refine ah.call o7 rfl rfl ?_) |((with_reducible show av _ _ _ _ _ _ _ _);refine ah.call o8 rfl rfl ?_) |refine u1 ?_ |refine u2 ?_ |fail)
        exact ⟨[_,_,_],⟨Fz.deep rfl,Fz.deep rfl,Fz.deep rfl,trivial⟩,rfl⟩
      ·have hkn:k=s.needs.length:=by omega
       have d5:decide ((k:Int) < ((s.needs.map aR).length:Int))=false:=decide_eq_false (by omega)
       subst hkn
       have ep:((ints s.possible).length:Int)=s.possible.length:=by simp
       have mp:s.possible.length≤9223372036854775807:=Nat.le_trans h.possible (by simp [maxLen])
       have hd:=ku.1 e1
       by_cases h6:6 < s.possible.length
       ·have d2:decide (6 < ((ints s.possible).length:Int))=true:=decide_eq_true (by rw [ep];omega)
        rw [BA hb hl hprev h6]
        repeat' (first |refine u1 ?_ |refine u2 ?_ |fail)
        exact ⟨[_,_,_],⟨Fz.deep rfl,Fz.deep rfl,Fz.deep rfl,trivial⟩,rfl⟩
       ·have d2:decide (6 < ((ints s.possible).length:Int))=false:=decide_eq_false (by rw [ep];omega)
        repeat' (first |refine u1 ?_ |refine u2 ?_ |fail)
        refine aA.aU (ak.to (l:=[(1,.pt (ay s) 0),(9,aC (0:Nat))]) (hp:=[]) 0 rfl ⟨rfl,rfl,trivial⟩ (Nat.zero_le _) rfl rfl) ?_
        refine aA.loop (fun q:Nat=>q≤s.possible.length∧∀ i,i < q→fo s.possible s.days 7 i=0) (fun q=>⟨bu [(1,.pt (ay s) 0),(9,aC (q:Nat))],[],bR.none,false,0⟩) (fun q=>s.possible.length - q) ?_ 0 ⟨Nat.zero_le _,fun i hi=>absurd hi (Nat.not_lt_zero _)⟩
        rintro q ⟨hq,hpp⟩
        refine aa (mu:=fun _=>false) ?_
        by_cases hqt:q < s.possible.length
        ·have d6:decide ((q:Int) < ((ints s.possible).length:Int))=true:=decide_eq_true (by omega)
         have hqa:(ints s.possible)[((q:Nat):Int).toNat]?=some (eI s.possible[q]):=bY hqt
         have o9:=jH true s.possible[q] 0 (s.days - 1)
         cases e9:nA s.possible[q] 0 (s.days - 1) with
         | false =>
          rw [e9] at o9
          rw [qA hb hl hprev h6 hqt hpp (vq hqt e9) (by decide)]
          generalize s.possible[q]=g at *
          repeat' (first |(refine ⟨_,o9,?_⟩) |refine u1 ?_ |((with_reducible show RM.wpOp _ _ (.indexAddr _ _ _) _ _ _);refine ⟨eI g,⟨by omega,hqa⟩,rfl,?_⟩) |refine u2 ?_ |fail)
          exact ⟨[_,_,_],⟨Fz.deep rfl,Fz.deep rfl,Fz.deep rfl,trivial⟩,rfl⟩
         | true =>
          rw [e9] at o9
          cases q with
          | zero =>
           have hz:=Jg (below:=7) hqt e9
           generalize s.possible[0]=g at *
           repeat' (first |(refine ⟨_,o9,?_⟩) |refine u1 ?_ |((with_reducible show RM.wpOp _ _ (.indexAddr _ _ _) _ _ _);refine ⟨eI g,⟨by omega,hqa⟩,rfl,?_⟩) |refine u2 ?_ |fail)
           refine ⟨1,⟨hqt,fun i hi=>?_⟩,(by dsimp only;omega),ak.to 0 rfl ⟨rfl,bM (by simp),trivial⟩ (Nat.zero_le _) rfl rfl⟩
           obtain rfl:i=0:=by omega
           exact hz
          | succ m =>
           have hs:=Dd (below:=7) hqt e9
           have d0:decide ((0:Int) < ((m+1:Nat):Int))=true:=decide_eq_true (by omega)
           have hqb:(ints s.possible)[(((m+1:Nat):Int) - 1).toNat]?=some (eI s.possible[m]):=by
            rw [show (((m+1:Nat):Int) - 1)=((m:Nat):Int) by omega]
            exact bY (by omega)
           generalize s.possible[m+1]=g at *
           generalize s.possible[m]=g' at *
           by_cases hgg:g≤g'
           ·rw [if_pos hgg] at hs
            have dg:=decide_eq_true hgg
            rw [qA hb hl hprev h6 hqt hpp hs (by decide)]
            repeat' (first |(refine ⟨_,o9,?_⟩) |refine u1 ?_ |((with_reducible show RM.wpOp _ _ (.indexAddr _ _ _) _ _ _);refine ⟨eI g,⟨by omega,hqa⟩,rfl,?_⟩) |((with_reducible show RM.wpOp _ _ (.indexAddr _ _ _) _ _ _);refine ⟨eI g',⟨by omega,hqb⟩,rfl,?_⟩) |refine u2 ?_ |fail)
            exact ⟨[_,_,_],⟨Fz.deep rfl,Fz.deep rfl,Fz.deep rfl,trivial⟩,rfl⟩
           ·rw [if_neg hgg] at hs
            have dg:=decide_eq_false hgg
            repeat' (first |(refine ⟨_,o9,?_⟩) |refine u1 ?_ |((with_reducible show RM.wpOp _ _ (.indexAddr _ _ _) _ _ _);refine ⟨eI g,⟨by omega,hqa⟩,rfl,?_⟩) |((with_reducible show RM.wpOp _ _ (.indexAddr _ _ _) _ _ _);refine ⟨eI g',⟨by omega,hqb⟩,rfl,?_⟩) |refine u2 ?_ |fail)
            refine ⟨m+1+1,⟨hqt,fun i hi=>?_⟩,(by dsimp only;omega),ak.to 0 rfl ⟨rfl,bM (by simp),trivial⟩ (Nat.zero_le _) rfl rfl⟩
            by_cases hik:i=m+1
            ·subst hik;exact hs
            ·exact hpp i (by omega)
        ·have d6:decide ((q:Int) < ((ints s.possible).length:Int))=false:=decide_eq_false (by omega)
         rw [KM hb hl hprev h6 (fun i hi=>hpp i (by omega))]
         repeat' (first |refine u1 ?_ |refine u2 ?_ |fail)
         exact ⟨[_,_,_],⟨Fz.deep rfl,Fz.deep rfl,Fz.deep rfl,trivial⟩,rfl⟩
end Go.Proofs.YtpeogffeoehboaaDoor
open Go Go.RM
namespace Go.Proofs.YtpeogffeoehboaaDoor
set_option maxRecDepth 100000
set_option maxHeartbeats 4000000
theorem KN (one:Bool) {s:ai} (hg:Good s) (o:Order) (last:Int) (hc:o.aG.length≤maxLen):Pu one 47 [.ag (ay s),.ag (az o),aC last] (aC (gO s o last)):=by
 have eg:((s.needs.map aR).length:Int)=s.needs.length:=by simp
 have ec:((ints o.aG).length:Int)=o.aG.length:=by simp
 have mc:o.aG.length≤9223372036854775807:=Nat.le_trans hc (by simp [maxLen])
 have hd:=hg.days
 have hl:=hg.len
 have o1:=iq one 0 (s.days - 1) o.day
 obtain ⟨A,hA⟩:∃ A,A=(di o.aG.length (fo o.aG (s.needs.length:Int) 4)).1:=⟨_,rfl⟩
 have o2:Pu one 44 [.sl (ints o.aG) false,aC ((s.needs.map aR).length:Int),aC 4] (.tp [aC A,aC (jI o.aG s.needs.length)]):=by
  rw [eg,hA]
  exact Mz one o.aG false (s.needs.length:Int) 4 hc (by omega) (by decide)
 unfold gO
 cases c1:fH 0 (s.days - 1) [o.day] with
 | true =>
  rw [c1] at o1
  rw [if_pos rfl]
  refine ah.body (fn:=Tryd.f47) rfl rfl rfl rfl ?_
  refine aa (mu:=fun _=>false) ?_
  repeat' (first |refine u1 ?_ |((with_reducible show av _ _ _ _ _ _ _ _);refine ah.call o1 rfl rfl ?_) |refine u2 ?_ |fail)
  exact ⟨[_],⟨Fz.deep rfl,trivial⟩,rfl⟩
 | false =>
  rw [c1] at o1
  rw [if_neg (by simp)]
  by_cases c2:o.day≤last
  ·have d2:=decide_eq_true c2
   rw [if_pos c2]
   refine ah.body (fn:=Tryd.f47) rfl rfl rfl rfl ?_
   refine aa (mu:=fun _=>false) ?_
   repeat' (first |refine u1 ?_ |((with_reducible show av _ _ _ _ _ _ _ _);refine ah.call o1 rfl rfl ?_) |refine u2 ?_ |fail)
   exact ⟨[_],⟨Fz.deep rfl,trivial⟩,rfl⟩
  ·have d2:=decide_eq_false c2
   rw [if_neg c2]
   by_cases c3:o.aG.length=0
   ·have d3:decide (((ints o.aG).length:Int)=0)=true:=decide_eq_true (by rw [ec];omega)
    rw [if_pos c3]
    refine ah.body (fn:=Tryd.f47) rfl rfl rfl rfl ?_
    refine aa (mu:=fun _=>false) ?_
    repeat' (first |refine u1 ?_ |((with_reducible show av _ _ _ _ _ _ _ _);refine ah.call o1 rfl rfl ?_) |refine u2 ?_ |fail)
    exact ⟨[_],⟨Fz.deep rfl,trivial⟩,rfl⟩
   ·have d3:decide (((ints o.aG).length:Int)=0)=false:=decide_eq_false (by rw [ec];omega)
    rw [if_neg c3]
    by_cases c4:jI o.aG s.needs.length=0
    ·rw [if_neg (by omega)]
     rw [c4] at o2
     obtain ⟨q1,q2,_⟩:=tc c4
     have hw:=vt true hg o.aG false q2 q1
     have d4:decide ((0:Int)=0)=true:=by decide
     by_cases c5:s.load < oO s o.aG
     ·have d5:=decide_eq_true c5
      rw [if_pos c5]
      refine ah.body (fn:=Tryd.f47) rfl rfl rfl rfl ?_
      refine aa (mu:=fun _=>false) ?_
      repeat' (first |((with_reducible show av _ _ _ _ _ _ _ _);refine ah.call o1 rfl rfl ?_) |((with_reducible show av _ _ _ _ _ _ _ _);refine ah.call o2 rfl rfl ?_) |refine u1 ?_ |(refine ⟨_,_,.inl ⟨rfl,rfl⟩,hw,?_⟩) |refine u2 ?_ |fail)
      exact ⟨[_],⟨Fz.deep rfl,trivial⟩,rfl⟩
     ·have d5:=decide_eq_false c5
      rw [if_neg c5]
      refine ah.body (fn:=Tryd.f47) rfl rfl rfl rfl ?_
      refine aa (mu:=fun _=>false) ?_
      repeat' (first |((with_reducible show av _ _ _ _ _ _ _ _);refine ah.call o1 rfl rfl ?_) |((with_reducible show av _ _ _ _ _ _ _ _);refine ah.call o2 rfl rfl ?_) |refine u1 ?_ |(refine ⟨_,_,.inl ⟨rfl,rfl⟩,hw,?_⟩) |refine u2 ?_ |fail)
      exact ⟨[_],⟨Fz.deep rfl,trivial⟩,rfl⟩
    ·rw [if_pos c4]
     have d4:decide (jI o.aG s.needs.length=0)=false:=decide_eq_false c4
     generalize jI o.aG s.needs.length=e at *
     refine ah.body (fn:=Tryd.f47) rfl rfl rfl rfl ?_
     refine aa (mu:=fun _=>false) ?_
     repeat' (first |refine u1 ?_ |((with_reducible show av _ _ _ _ _ _ _ _);refine ah.call o1 rfl rfl ?_) |((with_reducible show av _ _ _ _ _ _ _ _);refine ah.call o2 rfl rfl ?_) |refine u2 ?_ |fail)
     exact ⟨[_],⟨Fz.deep rfl,trivial⟩,rfl⟩
structure Ob (p:List Order):Prop where
 len:p.length≤maxLen
 aG:∀ o ∈ p,o.aG.length≤maxLen
theorem vu {p:List Order} {k:Nat} (h:k < p.length):iW p (k+1)=p[k].day:=by
 unfold iW
 rw [if_neg (by omega),Nat.add_sub_cancel,List.getElem?_eq_getElem h]
theorem Oc (one:Bool) (s:ai) (hs:s.Ok) (p:List Order) (full:Bool) (hp:Ob p):Pu one 15 [.ag (ay s),.sl (p.map az) full] (.tp [aC (cU s p).1,aC (cU s p).2]):=by
 have ep:((p.map az).length:Int)=p.length:=by simp
 have mp:p.length≤9223372036854775807:=Nat.le_trans hp.len (by simp [maxLen])
 have o1:=Et one s hs
 obtain ⟨n,hn⟩:∃ n:Int,n=p.length:=⟨_,rfl⟩
 unfold cU
 by_cases c1:(iM s).2.2=0
 ·rw [if_neg (by omega)]
  have hg:=mg c1
  rw [qz c1] at o1
  unfold jc
  by_cases c2:8 < p.length
  ·have d2:decide (8 < ((p.map az).length:Int))=true:=decide_eq_true (by rw [ep];omega)
   rw [if_pos c2]
   refine ah.body (fn:=Tryd.f15) rfl rfl rfl rfl ?_
   refine aa (mu:=fun _=>false) ?_
   repeat' (first |refine u1 ?_ |((with_reducible show av _ _ _ _ _ _ _ _);refine ah.call o1 rfl rfl ?_) |refine u2 ?_ |fail)
   exact ⟨[_,_],⟨Fz.deep rfl,Fz.deep rfl,trivial⟩,rfl⟩
  ·have d2:decide (8 < ((p.map az).length:Int))=false:=decide_eq_false (by rw [ep];omega)
   rw [if_neg c2]
   refine ah.body (fn:=Tryd.f15) rfl rfl rfl rfl ?_
   refine aa (mu:=fun _=>false) ?_
   repeat' (first |refine u1 ?_ |((with_reducible show av _ _ _ _ _ _ _ _);refine ah.call o1 rfl rfl ?_) |refine u2 ?_ |fail)
   refine aA.aU (ak.to (l:=[(2,.pt (ay s) 0),(6,aC (iW p 0)),(21,.sl (p.map az) full),(22,aC n),(23,aC (0:Nat))]) (hp:=[]) 0 rfl ⟨rfl,rfl,rfl,bM (by rw [hn];exact ep),rfl,trivial⟩ (Nat.zero_le _) rfl rfl) ?_
   refine aA.loop (fun k:Nat=>k≤p.length∧∀ i,i < k→fO s p i=0) (fun k=>⟨bu [(2,.pt (ay s) 0),(6,aC (iW p k)),(21,.sl (p.map az) full),(22,aC n),(23,aC (k:Nat))],[],bR.none,false,0⟩) (fun k=>p.length - k) ?_ 0 ⟨Nat.zero_le _,fun i hi=>absurd hi (Nat.not_lt_zero _)⟩
   rintro k ⟨hk,hprev⟩
   refine aa (mu:=fun _=>false) ?_
   by_cases hlt:k < p.length
   ·have d1:decide ((k:Int) < n)=true:=decide_eq_true (by omega)
    have hat:(p.map az)[((k:Nat):Int).toNat]?=some (az p[k]):=bY hlt
    have hA:fO s p k=gO s p[k] (iW p k):=by unfold fO;rw [List.getElem?_eq_getElem hlt]
    have ho:=KN one hg p[k] (iW p k) (hp.aG _ (List.getElem_mem hlt))
    have hs1:=vu hlt
    rw [←hA] at ho
    clear hA
    generalize p[k]=o at *
    generalize iW p k=last at *
    by_cases c3:fO s p k=0
    ·rw [c3] at ho
     repeat' (first |((with_reducible show av _ _ _ _ _ _ _ _);refine ah.call ho rfl rfl ?_) |refine u1 ?_ |((with_reducible show RM.wpOp _ _ (.indexAddr _ _ _) _ _ _);refine ⟨az o,⟨by omega,hat⟩,rfl,?_⟩) |refine u2 ?_ |fail)
     refine ⟨k+1,⟨hlt,fun i hi=>?_⟩,(by dsimp only;omega),ak.to 0 rfl ⟨rfl,bM hs1.symm,rfl,rfl,bM (by simp),trivial⟩ (Nat.zero_le _) rfl rfl⟩
     by_cases hik:i=k
     ·rw [hik];exact c3
     ·exact hprev i (by omega)
    ·rw [gz hlt hprev c3]
     generalize fO s p k=e at *
     have d3:(!decide (e=0))=true:=by rw [decide_eq_false c3];rfl
     repeat' (first |((with_reducible show av _ _ _ _ _ _ _ _);refine ah.call ho rfl rfl ?_) |refine u1 ?_ |((with_reducible show RM.wpOp _ _ (.indexAddr _ _ _) _ _ _);refine ⟨az o,⟨by omega,hat⟩,rfl,?_⟩) |refine u2 ?_ |fail)
     exact ⟨[_,_],⟨Fz.deep rfl,Fz.deep rfl,trivial⟩,rfl⟩
   ·have d1:decide ((k:Int) < n)=false:=decide_eq_false (by omega)
    rw [dX (fun i hi=>hprev i (by omega))]
    repeat' (first |refine u1 ?_ |refine u2 ?_ |fail)
    exact ⟨[_,_],⟨Fz.deep rfl,Fz.deep rfl,trivial⟩,rfl⟩
 ·rw [if_pos c1]
  generalize (iM s).1=a at *
  generalize (iM s).2.1=b at *
  generalize (iM s).2.2=e at *
  have d1:(!decide (e=0))=true:=by rw [decide_eq_false c1];rfl
  refine ah.body (fn:=Tryd.f15) rfl rfl rfl rfl ?_
  refine aa (mu:=fun _=>false) ?_
  repeat' (first |refine u1 ?_ |((with_reducible show av _ _ _ _ _ _ _ _);refine ah.call o1 rfl rfl ?_) |refine u2 ?_ |fail)
  exact ⟨[_,_],⟨Fz.deep rfl,Fz.deep rfl,trivial⟩,rfl⟩
end Go.Proofs.YtpeogffeoehboaaDoor
open Go Go.RM
namespace Go.Proofs.YtpeogffeoehboaaDoor
set_option maxRecDepth 100000
abbrev J4:Sh:=.int .i64
abbrev Ji:Sh:=.cons .str (.cons J4 (.cons J4 (.cons J4 .nil)))
abbrev BH:Sh:=.cons J4 (.cons (.slice Ji) (.cons J4 (.cons J4 (.cons J4 (.cons (.slice J4) .nil)))))
theorem MA {l:List AV} (h:TV J4 l):∃ n,(Lit.int .i64 n).wf=true∧l=eI n:=by
 cases h with
 | int h=>exact ⟨_,h,rfl⟩
theorem RJ {k:IntKind} {l:List AV} (h:TV (.int k) l):∃ n,(Lit.int k n).wf=true∧l=[.fl (.int k n)]:=by
 cases h with
 | int h=>exact ⟨_,h,rfl⟩
theorem RK {l:List AV} (h:TV .str l):∃ s:ByteArray,s.size≤maxLen∧l=[ST s]:=by
 cases h with
 | str h=>exact ⟨_,h,rfl⟩
theorem J5 {a b:Sh} {l:List AV} (h:TV (.cons a b) l):∃ x y,TV a x∧TV b y∧l=x++y:=by
 cases h with
 | cons h k=>exact ⟨_,_,h,k,rfl⟩
theorem Rf {l:List AV} (h:TV .nil l):l=[]:=by cases h;rfl
theorem Rg {s:Sh} {l:List AV} (h:TV (.slice s) l):∃ els,els.length≤maxLen∧(∀ el ∈ els,TV s el)∧l=[.sl els false]:=by
 cases h with
 | slice h k=>exact ⟨_,h,k,rfl⟩
theorem RL {n:Nat} {s:Sh} {l:List AV} (h:TV (.arr n s) l):∃ els:List (List AV),els.length=n∧(∀ el ∈ els,TV s el)∧l=els.flatten:=by
 cases h with
 | arr h k=>exact ⟨_,h,k,rfl⟩
theorem Jj {α:Type} {e:α→List AV} {P:α→Prop}:∀ {els:List (List AV)},(∀ el ∈ els,∃ x,P x∧el=e x)→∃ l:List α,(∀ x ∈ l,P x)∧els=l.map e
 | [],_=>⟨[],⟨List.forall_mem_nil _,rfl⟩⟩
 | el :: els,h=>by
  obtain ⟨x,hx,rfl⟩:=h el (by simp)
  obtain ⟨l,hl,rfl⟩:=Jj fun el hel=>h el (List.mem_cons_of_mem _ hel)
  exact ⟨x :: l,⟨List.forall_mem_cons.2 ⟨hx,hl⟩,rfl⟩⟩
theorem Od {l:List AV} (h:TV (.slice J4) l):∃ c:List Int,c.length≤maxLen∧l=[.sl (ints c) false]:=by
 obtain ⟨a,ha,ha',rfl⟩:=Rg h
 obtain ⟨a,_,rfl⟩:=Jj (e:=eI) (P:=fun _=>True) fun el hel=>by obtain ⟨n,_,h⟩:=MA (ha' el hel);exact ⟨n,trivial,h⟩
 exact ⟨a,by simpa using ha,rfl⟩
theorem Oe {l:List AV} (h:TV Ji l):∃ x:jR,x.name.data.toList.length≤maxLen∧l=aR x:=by
 obtain ⟨_,_,h1,k1,rfl⟩:=J5 h
 obtain ⟨_,_,h2,k2,rfl⟩:=J5 k1
 obtain ⟨_,_,h3,k3,rfl⟩:=J5 k2
 obtain ⟨_,_,h4,k4,rfl⟩:=J5 k3
 obtain rfl:=Rf k4
 obtain ⟨a,ha,rfl⟩:=RK h1
 obtain ⟨b,_,rfl⟩:=MA h2
 obtain ⟨c,_,rfl⟩:=MA h3
 obtain ⟨d,_,rfl⟩:=MA h4
 exact ⟨⟨a,b,c,d⟩,by simpa using ha,rfl⟩
theorem Jk {l:List AV} (h:TV BH l):∃ s:ai,s.Ok∧l=ay s:=by
 obtain ⟨_,_,h1,k1,rfl⟩:=J5 h
 obtain ⟨_,_,h2,k2,rfl⟩:=J5 k1
 obtain ⟨_,_,h3,k3,rfl⟩:=J5 k2
 obtain ⟨_,_,h4,k4,rfl⟩:=J5 k3
 obtain ⟨_,_,h5,k5,rfl⟩:=J5 k4
 obtain ⟨_,_,h6,k6,rfl⟩:=J5 k5
 obtain rfl:=Rf k6
 obtain ⟨a,_,rfl⟩:=MA h1
 obtain ⟨b,hb,hb',rfl⟩:=Rg h2
 obtain ⟨b,hn,rfl⟩:=Jj (e:=aR) fun el hel=>Oe (hb' el hel)
 obtain ⟨c,_,rfl⟩:=MA h3
 obtain ⟨d,_,rfl⟩:=MA h4
 obtain ⟨e,_,rfl⟩:=MA h5
 obtain ⟨f,hf,rfl⟩:=Od h6
 exact ⟨⟨a,b,c,d,e,f⟩,⟨by simpa using hb,hn,hf⟩,rfl⟩
theorem Ql:∀ e ∈ TB,aj TT e:=by
 intro e he
 unfold TB at he
 rcases List.mem_cons.1 he with rfl|he
 ·exact Qd
 ·obtain ⟨k,hk,rfl⟩:=List.mem_map.1 he
  have:=List.mem_range.1 hk
  exact bx (by omega)
end Go.Proofs.YtpeogffeoehboaaDoor
open Go Go.RM
namespace Go.Proofs.YtpeogffeoehboaaDoor
set_option maxRecDepth 100000
set_option maxHeartbeats 4000000
abbrev fU (n:Nat):AV:=.fl (.int .u64 ((n:Nat):Int))
end Go.Proofs.YtpeogffeoehboaaDoor
