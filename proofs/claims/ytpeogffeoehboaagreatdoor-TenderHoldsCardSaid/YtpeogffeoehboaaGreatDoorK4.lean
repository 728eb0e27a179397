/-
  Contracts of the program's functions and of the document's. Lemmas alone; their conditions stand in them.
-/
import Derived.Test.YtpeogffeoehboaaGreatDoorA2
import Derived.Test.YtpeogffeoehboaaGreatDoorX4
import Derived.Test.YtpeogffeoehboaaGreatDoorK1
import Derived.Test.YtpeogffeoehboaaGreatDoorK2
import Derived.Test.YtpeogffeoehboaaGreatDoorK3
open Go Go.RM
namespace Go.Proofs.YtpeogffeoehboaaGreatDoor
set_option maxRecDepth 100000
set_option maxHeartbeats 4000000
theorem qK {s:au} (h:cM s=false) (h1:fH 1 3 [(s.needs.length:Int)]=false) (hprev:∀ i,i < s.needs.length→eM s i=0) (h2:¬ 6 < s.possible.length) {k:Nat} {v:Int} (hk:k < s.possible.length) (hp:∀ i,i < k→fo s.possible s.days 7 i=0) (hv:fo s.possible s.days 7 k=v) (h0:v ≠ 0):nE s=(3,(k:Int),v):=by
 rw [vE h h1 hprev h2,gw hk hp (by rw [hv];exact h0),hv,if_pos h0]
theorem Kx {s:au} (h:cM s=false) (h1:fH 1 3 [(s.needs.length:Int)]=false) (hprev:∀ i,i < s.needs.length→eM s i=0) (h2:¬ 6 < s.possible.length) (hp:∀ i,i < s.possible.length→fo s.possible s.days 7 i=0):nE s=(0,0,0):=by
 rw [vE h h1 hprev h2,fm hp];rfl
theorem IY (one:Bool) (s:au) (h:s.Ok):Pu one 45 [.ag (ak s)] (.tp [aA (nE s).1,aA (nE s).2.1,aA (nE s).2.2]):=by
 have eg:((s.needs.map aH).length:Int)=s.needs.length:=by simp
 have o1:=jO one s.days 1 60
 have o2:=jO one s.load 1 30
 have o3:=jO one s.fail 0 8
 have o4:=jO one s.row 1 8
 have o5:=jO one ((s.needs.map aH).length:Int) 1 3
 rw [eg] at o5
 cases e1:nD s.days 1 60 with
 | false =>
  rw [e1] at o1
  rw [iJ (by unfold cM;rw [bD,e1];simp)]
  refine ah.body (fn:=Tryz.f45) rfl rfl rfl rfl ?_
  refine aa (mu:=fun t=>Nat.beq t 57) ?_
  repeat' (first |refine u1 ?_ |((with_reducible show ax _ _ _ _ _ _ _ _);refine ah.call o1 rfl rfl ?_) |refine u2 ?_ |fail)
  exact ⟨[_,_,_],⟨Fz.deep rfl,Fz.deep rfl,Fz.deep rfl,trivial⟩,rfl⟩
 | true =>
  rw [e1] at o1
  cases e2:nD s.load 1 30 with
  | false =>
   rw [e2] at o2
   rw [iJ (by unfold cM;rw [bD,e1,bD,e2];simp)]
   refine ah.body (fn:=Tryz.f45) rfl rfl rfl rfl ?_
   refine aa (mu:=fun t=>Nat.beq t 57) ?_
   repeat' (first |refine u1 ?_ |((with_reducible show ax _ _ _ _ _ _ _ _);refine ah.call o1 rfl rfl ?_) |((with_reducible show ax _ _ _ _ _ _ _ _);refine ah.call o2 rfl rfl ?_) |refine u2 ?_ |fail)
   exact ⟨[_,_,_],⟨Fz.deep rfl,Fz.deep rfl,Fz.deep rfl,trivial⟩,rfl⟩
  | true =>
   rw [e2] at o2
   cases e3:nD s.fail 0 8 with
   | false =>
    rw [e3] at o3
    rw [iJ (by unfold cM;rw [bD,e1,bD,e2,bD,e3];simp)]
    refine ah.body (fn:=Tryz.f45) rfl rfl rfl rfl ?_
    refine aa (mu:=fun t=>Nat.beq t 57) ?_
    repeat' (first |refine u1 ?_ |((with_reducible show ax _ _ _ _ _ _ _ _);refine ah.call o1 rfl rfl ?_) |((with_reducible show ax _ _ _ _ _ _ _ _);refine ah.call o2 rfl rfl ?_) |((with_reducible show ax _ _ _ _ _ _ _ _);refine ah.call o3 rfl rfl ?_) |refine u2 ?_ |fail)
    exact ⟨[_,_,_],⟨Fz.deep rfl,Fz.deep rfl,Fz.deep rfl,trivial⟩,rfl⟩
   | true =>
    rw [e3] at o3
    cases e4:nD s.row 1 8 with
    | false =>
     rw [e4] at o4
     rw [iJ (by unfold cM;rw [bD,e1,bD,e2,bD,e3,bD,e4];simp)]
     refine ah.body (fn:=Tryz.f45) rfl rfl rfl rfl ?_
     refine aa (mu:=fun t=>Nat.beq t 57) ?_
     repeat' (first |refine u1 ?_ |((with_reducible show ax _ _ _ _ _ _ _ _);refine ah.call o1 rfl rfl ?_) |((with_reducible show ax _ _ _ _ _ _ _ _);refine ah.call o2 rfl rfl ?_) |((with_reducible show ax _ _ _ _ _ _ _ _);refine ah.call o3 rfl rfl ?_) |((with_reducible show ax _ _ _ _ _ _ _ _);refine ah.call o4 rfl rfl ?_) |refine u2 ?_ |fail)
     exact ⟨[_,_,_],⟨Fz.deep rfl,Fz.deep rfl,Fz.deep rfl,trivial⟩,rfl⟩
    | true =>
     rw [e4] at o4
     have hb:cM s=false:=by unfold cM;rw [bD,bD,bD,bD,e1,e2,e3,e4];rfl
     cases e5:nD (s.needs.length:Int) 1 3 with
     | false =>
      rw [BI hb (by rw [bD,e5];rfl)]
      rw [e5,←eg] at o5
      refine ah.body (fn:=Tryz.f45) rfl rfl rfl rfl ?_
      refine aa (mu:=fun t=>Nat.beq t 57) ?_
      repeat' (first |refine u1 ?_ |((with_reducible show ax _ _ _ _ _ _ _ _);refine ah.call o1 rfl rfl ?_) |((with_reducible show ax _ _ _ _ _ _ _ _);refine ah.call o2 rfl rfl ?_) |((with_reducible show ax _ _ _ _ _ _ _ _);refine ah.call o3 rfl rfl ?_) |((with_reducible show ax _ _ _ _ _ _ _ _);refine ah.call o4 rfl rfl ?_) |((with_reducible show ax _ _ _ _ _ _ _ _);refine ah.call o5 rfl rfl ?_) |refine u2 ?_ |fail)
      exact ⟨[_,_,_],⟨Fz.deep rfl,Fz.deep rfl,Fz.deep rfl,trivial⟩,rfl⟩
     | true =>
      rw [e5,←eg] at o5
      have hl:fH 1 3 [(s.needs.length:Int)]=false:=by rw [bD,e5];rfl
      have hn3:s.needs.length≤3:=by
       have:=cD hl
       omega
      refine ah.body (fn:=Tryz.f45) rfl rfl rfl rfl ?_
      refine aa (mu:=fun t=>Nat.beq t 57) ?_
      repeat' (first |refine u1 ?_ |((with_reducible show ax _ _ _ _ _ _ _ _);refine ah.call o1 rfl rfl ?_) |((with_reducible show ax _ _ _ _ _ _ _ _);refine ah.call o2 rfl rfl ?_) |((with_reducible show ax _ _ _ _ _ _ _ _);refine ah.call o3 rfl rfl ?_) |((with_reducible show ax _ _ _ _ _ _ _ _);refine ah.call o4 rfl rfl ?_) |((with_reducible show ax _ _ _ _ _ _ _ _);refine ah.call o5 rfl rfl ?_) |refine u2 ?_ |fail)
      refine aB.aJ (ai.trans (ai.nB 1) (ai.Mi (l:=[(1,.pt (ak s) 0),(5,.bU 0 (0,0,0).2.1 0 (0,0,0).1 (0,0,0).2.2),(6,aA ((0,0,0).1:Nat))]) (hp:=[.cells (fq (s.needs.take (0,0,0).1)) 1 (0,0,0).2.1]) 1 rfl ⟨bT.refl _,bT.nA,bT.refl _,trivial⟩ (Nat.zero_le _) rfl (yb _ _))) ?_
      refine aB.loop (fun x:Nat × Nat × Nat=>x.1≤s.needs.length∧(∀ i,i < x.1→eM s i=0)∧(x.2.2=x.1∨x.2.2=x.1+1)) (fun x=>⟨aS [(1,.pt (ak s) 0),(5,.bU 0 x.2.1 0 x.1 x.2.2),(6,aA (x.1:Nat))],[.cells (fq (s.needs.take x.1)) 1 x.2.1],bJ.none,false,0⟩) (fun x=>s.needs.length - x.1) ?_ (0,0,0) ⟨Nat.zero_le _,(fun i hi=>absurd hi (Nat.not_lt_zero _)),.inl rfl⟩
      rintro ⟨k,aC,c⟩ ⟨hk,hprev,hcap⟩
      dsimp only at hk hprev hcap
      show aB _ _ _ _ ⟨aS [(1,.pt (ak s) 0),(5,.bU 0 (k,aC,c).2.1 0 (k,aC,c).1 (k,aC,c).2.2),(6,aA ((k,aC,c).1:Nat))],[.cells (fq (s.needs.take (k,aC,c).1)) 1 (k,aC,c).2.1],bJ.none,false,0⟩ _
      dsimp only
      refine aa (mu:=fun t=>Nat.beq t 57) ?_
      by_cases hlt:k < s.needs.length
      ·have d5:decide ((k:Int) < ((s.needs.map aH).length:Int))=true:=decide_eq_true (by omega)
       have hat:(s.needs.map aH)[((k:Nat):Int).toNat]?=some (aH s.needs[k]):=bl hlt
       have hga:eM s k=zH s.needs[k] (s.needs.take k):=by unfold eM;rw [List.getElem?_eq_getElem hlt];exact Kv _ _
       have hfr:=Kt one ((s.needs.take k).map (·.name)) false s.needs[k].name (h.names _ (List.getElem_mem hlt)) (by simp [maxLen];omega)
       have o6:=jO one s.needs[k].full 1 60
       have o7:=jO one s.needs[k].first 0 s.needs[k].full
       have o8:=jO one s.needs[k].weight 1 30
       have htl:(s.needs.take k).length=k:=by rw [List.length_take];omega
       have hnt:=BK hlt
       have hgl:(fq (s.needs.take k)).length=k:=by unfold fq;rw [List.length_map,htl]
       generalize s.needs[k]=g at *
       generalize hE:lJ g.name ((s.needs.take k).map (·.name))=E at *
       have z00:decide ((0:Int)=0)=true:=by decide
       have z70:decide ((7:Int)=0)=false:=by decide
       have n00:(!decide ((0:Int)=0))=false:=by decide
       have n70:(!decide ((7:Int)=0))=true:=by decide
       unfold zH at hga
       rw [hE] at hga
       repeat' (first |((with_reducible show RM.wpOp _ _ (.call _) _ _ _);refine RM.tB (cs:=fq (s.needs.take k)) (n:=k) (els:=[eS g.name]) rfl rfl rfl rfl rfl (fun el hel=>by rw [List.mem_singleton.1 hel];rfl) rfl rfl (by rw [hgl];exact (Nat.mul_one _).symm) hcap (by simp only [List.length_singleton];omega) (fun v' c' hc'=>?_)) |refine u1 ?_ |((with_reducible show RM.wpOp _ _ (.indexAddr _ _ _) _ _ _);refine ⟨aH g,⟨by omega,hat⟩,rfl,?_⟩) |((with_reducible show ax _ _ _ _ _ _ _ _);refine ah.NG hfr rfl (wq.two (Fz.deep rfl) (EZ _ htl)) (gi.fl _) ?_) |refine u2 ?_ |fail)
       by_cases g1:E=0
       ·rw [if_neg (by omega)] at hga
        have d7:decide (E=0)=true:=decide_eq_true g1
        have d7':(!decide (E=0))=false:=by rw [d7];rfl
        have bad:(nD g.full 1 60=false∨nD g.first 0 g.full=false∨nD g.weight 1 30=false)→nE s=(2,(k:Int),7):=fun hb2=>by
         rw [if_pos hb2] at hga
         exact C8 hb hl hlt hprev hga (by decide)
        cases g2:nD g.full 1 60 with
        | false =>
         rw [g2] at o6
         rw [bad (.inl g2)]
         repeat' (first |((with_reducible show ax _ _ _ _ _ _ _ _);refine ah.call o6 rfl rfl ?_) |((with_reducible show ax _ _ _ _ _ _ _ _);refine ah.call o7 rfl rfl ?_) |((with_reducible show ax _ _ _ _ _ _ _ _);refine ah.call o8 rfl rfl ?_) |refine u1 ?_ |refine u2 ?_ |fail)
         exact ⟨[_,_,_],⟨Fz.deep rfl,Fz.deep rfl,Fz.deep rfl,trivial⟩,rfl⟩
        | true =>
         rw [g2] at o6
         cases g3:nD g.first 0 g.full with
         | false =>
          rw [g3] at o7
          rw [bad (.inr (.inl g3))]
          repeat' (first |((with_reducible show ax _ _ _ _ _ _ _ _);refine ah.call o6 rfl rfl ?_) |((with_reducible show ax _ _ _ _ _ _ _ _);refine ah.call o7 rfl rfl ?_) |((with_reducible show ax _ _ _ _ _ _ _ _);refine ah.call o8 rfl rfl ?_) |refine u1 ?_ |refine u2 ?_ |fail)
          exact ⟨[_,_,_],⟨Fz.deep rfl,Fz.deep rfl,Fz.deep rfl,trivial⟩,rfl⟩
         | true =>
          rw [g3] at o7
          cases g4:nD g.weight 1 30 with
          | false =>
           rw [g4] at o8
           rw [bad (.inr (.inr g4))]
           repeat' (first |((with_reducible show ax _ _ _ _ _ _ _ _);refine ah.call o6 rfl rfl ?_) |((with_reducible show ax _ _ _ _ _ _ _ _);refine ah.call o7 rfl rfl ?_) |((with_reducible show ax _ _ _ _ _ _ _ _);refine ah.call o8 rfl rfl ?_) |refine u1 ?_ |refine u2 ?_ |fail)
           exact ⟨[_,_,_],⟨Fz.deep rfl,Fz.deep rfl,Fz.deep rfl,trivial⟩,rfl⟩
          | true =>
           rw [g4] at o8
           rw [if_neg (by rw [g2,g3,g4];simp)] at hga
           repeat' (first |((with_reducible show ax _ _ _ _ _ _ _ _);refine ah.call o6 rfl rfl ?_) |((with_reducible show ax _ _ _ _ _ _ _ _);refine ah.call o7 rfl rfl ?_) |((with_reducible show ax _ _ _ _ _ _ _ _);refine ah.call o8 rfl rfl ?_) |refine u1 ?_ |refine u2 ?_ |fail)
           refine ⟨(k+1,v',c'),⟨hlt,(fun i hi=>?_),hc'⟩,(by dsimp only;omega),?_⟩
           ·by_cases hik:i=k
            ·subst hik;exact hga
            ·exact hprev i (by dsimp only at hi;omega)
           ·exact ai.to 1 (by dsimp only;rw [hnt];rfl) ⟨rfl,rfl,aV (by simp),trivial⟩ (Nat.zero_le _) rfl (yb _ _)
       ·rw [if_pos g1] at hga
        rw [C8 hb hl hlt hprev hga g1]
        have d7:decide (E=0)=false:=decide_eq_false g1
        have d7':(!decide (E=0))=true:=by rw [d7];rfl
        repeat' (first |((with_reducible show ax _ _ _ _ _ _ _ _);refine ah.call o6 rfl rfl ?_) |((with_reducible show ax _ _ _ _ _ _ _ _);refine ah.call o7 rfl rfl ?_) |((with_reducible show ax _ _ _ _ _ _ _ _);refine ah.call o8 rfl rfl ?_) |refine u1 ?_ |refine u2 ?_ |fail)
        exact ⟨[_,_,_],⟨Fz.deep rfl,Fz.deep rfl,Fz.deep rfl,trivial⟩,rfl⟩
      ·have hkn:k=s.needs.length:=by omega
       have d5:decide ((k:Int) < ((s.needs.map aH).length:Int))=false:=decide_eq_false (by omega)
       subst hkn
       have ep:((ints s.possible).length:Int)=s.possible.length:=by simp
       have mp:s.possible.length≤9223372036854775807:=Nat.le_trans h.possible (by simp [maxLen])
       have hd:=mz.1 e1
       by_cases h6:6 < s.possible.length
       ·have d2:decide (6 < ((ints s.possible).length:Int))=true:=decide_eq_true (by rw [ep];omega)
        rw [BJ hb hl hprev h6]
        repeat' (first |refine u1 ?_ |refine u2 ?_ |fail)
        exact ⟨[_,_,_],⟨Fz.deep rfl,Fz.deep rfl,Fz.deep rfl,trivial⟩,rfl⟩
       ·have d2:decide (6 < ((ints s.possible).length:Int))=false:=decide_eq_false (by rw [ep];omega)
        repeat' (first |refine u1 ?_ |refine u2 ?_ |fail)
        refine aB.aJ (ai.to (l:=[(1,.pt (ak s) 0),(9,aA (0:Nat))]) (hp:=[]) 0 rfl ⟨rfl,rfl,trivial⟩ (Nat.zero_le _) rfl rfl) ?_
        refine aB.loop (fun q:Nat=>q≤s.possible.length∧∀ i,i < q→fo s.possible s.days 7 i=0) (fun q=>⟨aS [(1,.pt (ak s) 0),(9,aA (q:Nat))],[],bJ.none,false,0⟩) (fun q=>s.possible.length - q) ?_ 0 ⟨Nat.zero_le _,fun i hi=>absurd hi (Nat.not_lt_zero _)⟩
        rintro q ⟨hq,hpp⟩
        refine aa (mu:=fun _=>false) ?_
        by_cases hqt:q < s.possible.length
        ·have d6:decide ((q:Int) < ((ints s.possible).length:Int))=true:=decide_eq_true (by omega)
         have hqa:(ints s.possible)[((q:Nat):Int).toNat]?=some (eI s.possible[q]):=bl hqt
         have o9:=jO true s.possible[q] 0 (s.days - 1)
         cases e9:nD s.possible[q] 0 (s.days - 1) with
         | false =>
          rw [e9] at o9
          rw [qK hb hl hprev h6 hqt hpp (vF hqt e9) (by decide)]
          generalize s.possible[q]=g at *
          repeat' (first |(refine ⟨_,o9,?_⟩) |refine u1 ?_ |((with_reducible show RM.wpOp _ _ (.indexAddr _ _ _) _ _ _);refine ⟨eI g,⟨by omega,hqa⟩,rfl,?_⟩) |refine u2 ?_ |fail)
          exact ⟨[_,_,_],⟨Fz.deep rfl,Fz.deep rfl,Fz.deep rfl,trivial⟩,rfl⟩
         | true =>
          rw [e9] at o9
          cases q with
          | zero =>
           have hz:=IU (below:=7) hqt e9
           generalize s.possible[0]=g at *
           repeat' (first |(refine ⟨_,o9,?_⟩) |refine u1 ?_ |((with_reducible show RM.wpOp _ _ (.indexAddr _ _ _) _ _ _);refine ⟨eI g,⟨by omega,hqa⟩,rfl,?_⟩) |refine u2 ?_ |fail)
           refine ⟨1,⟨hqt,fun i hi=>?_⟩,(by dsimp only;omega),ai.to 0 rfl ⟨rfl,aV (by simp),trivial⟩ (Nat.zero_le _) rfl rfl⟩
           obtain rfl:i=0:=by omega
           exact hz
          | succ m =>
           have hs:=C9 (below:=7) hqt e9
           have d0:decide ((0:Int) < ((m+1:Nat):Int))=true:=decide_eq_true (by omega)
           have hqb:(ints s.possible)[(((m+1:Nat):Int) - 1).toNat]?=some (eI s.possible[m]):=by
            rw [show (((m+1:Nat):Int) - 1)=((m:Nat):Int) by omega]
            exact bl (by omega)
           generalize s.possible[m+1]=g at *
           generalize s.possible[m]=g' at *
           by_cases hgg:g≤g'
           ·rw [if_pos hgg] at hs
            have dg:=decide_eq_true hgg
            rw [qK hb hl hprev h6 hqt hpp hs (by decide)]
            repeat' (first |(refine ⟨_,o9,?_⟩) |refine u1 ?_ |((with_reducible show RM.wpOp _ _ (.indexAddr _ _ _) _ _ _);refine ⟨eI g,⟨by omega,hqa⟩,rfl,?_⟩) |((with_reducible show RM.wpOp _ _ (.indexAddr _ _ _) _ _ _);refine ⟨eI g',⟨by omega,hqb⟩,rfl,?_⟩) |refine u2 ?_ |fail)
            exact ⟨[_,_,_],⟨Fz.deep rfl,Fz.deep rfl,Fz.deep rfl,trivial⟩,rfl⟩
           ·rw [if_neg hgg] at hs
            have dg:=decide_eq_false hgg
            repeat' (first |(refine ⟨_,o9,?_⟩) |refine u1 ?_ |((with_reducible show RM.wpOp _ _ (.indexAddr _ _ _) _ _ _);refine ⟨eI g,⟨by omega,hqa⟩,rfl,?_⟩) |((with_reducible show RM.wpOp _ _ (.indexAddr _ _ _) _ _ _);refine ⟨eI g',⟨by omega,hqb⟩,rfl,?_⟩) |refine u2 ?_ |fail)
            refine ⟨m+1+1,⟨hqt,fun i hi=>?_⟩,(by dsimp only;omega),ai.to 0 rfl ⟨rfl,aV (by simp),trivial⟩ (Nat.zero_le _) rfl rfl⟩
            by_cases hik:i=m+1
            ·subst hik;exact hs
            ·exact hpp i (by omega)
        ·have d6:decide ((q:Int) < ((ints s.possible).length:Int))=false:=decide_eq_false (by omega)
         rw [Kx hb hl hprev h6 (fun i hi=>hpp i (by omega))]
         repeat' (first |refine u1 ?_ |refine u2 ?_ |fail)
         exact ⟨[_,_,_],⟨Fz.deep rfl,Fz.deep rfl,Fz.deep rfl,trivial⟩,rfl⟩
theorem Ky (one:Bool) {s:au} (hg:Good s) (o:Order) (last:Int) (hc:o.aG.length≤maxLen):Pu one 49 [.ag (ak s),.ag (ay o),aA last] (aA (iK s o last)):=by
 have eg:((s.needs.map aH).length:Int)=s.needs.length:=by simp
 have ec:((ints o.aG).length:Int)=o.aG.length:=by simp
 have mc:o.aG.length≤9223372036854775807:=Nat.le_trans hc (by simp [maxLen])
 have hd:=hg.days
 have hl:=hg.len
 have o1:=iu one 0 (s.days - 1) o.day
 obtain ⟨A,hA⟩:∃ A,A=(cZ o.aG.length (fo o.aG (s.needs.length:Int) 4)).1:=⟨_,rfl⟩
 have o2:Pu one 66 [.sl (ints o.aG) false,aA ((s.needs.map aH).length:Int),aA 4] (.tp [aA A,aA (kU o.aG s.needs.length)]):=by
  rw [eg,hA]
  exact Mj one o.aG false (s.needs.length:Int) 4 hc (by omega) (by decide)
 unfold iK
 cases c1:fH 0 (s.days - 1) [o.day] with
 | true =>
  rw [c1] at o1
  rw [if_pos rfl]
  refine ah.body (fn:=Tryz.f49) rfl rfl rfl rfl ?_
  refine aa (mu:=fun _=>false) ?_
  repeat' (first |refine u1 ?_ |((with_reducible show ax _ _ _ _ _ _ _ _);refine ah.call o1 rfl rfl ?_) |refine u2 ?_ |fail)
  exact ⟨[_],⟨Fz.deep rfl,trivial⟩,rfl⟩
 | false =>
  rw [c1] at o1
  rw [if_neg (by simp)]
  by_cases c2:o.day≤last
  ·have d2:=decide_eq_true c2
   rw [if_pos c2]
   refine ah.body (fn:=Tryz.f49) rfl rfl rfl rfl ?_
   refine aa (mu:=fun _=>false) ?_
   repeat' (first |refine u1 ?_ |((with_reducible show ax _ _ _ _ _ _ _ _);refine ah.call o1 rfl rfl ?_) |refine u2 ?_ |fail)
   exact ⟨[_],⟨Fz.deep rfl,trivial⟩,rfl⟩
  ·have d2:=decide_eq_false c2
   rw [if_neg c2]
   by_cases c3:o.aG.length=0
   ·have d3:decide (((ints o.aG).length:Int)=0)=true:=decide_eq_true (by rw [ec];omega)
    rw [if_pos c3]
    refine ah.body (fn:=Tryz.f49) rfl rfl rfl rfl ?_
    refine aa (mu:=fun _=>false) ?_
    repeat' (first |refine u1 ?_ |((with_reducible show ax _ _ _ _ _ _ _ _);refine ah.call o1 rfl rfl ?_) |refine u2 ?_ |fail)
    exact ⟨[_],⟨Fz.deep rfl,trivial⟩,rfl⟩
   ·have d3:decide (((ints o.aG).length:Int)=0)=false:=decide_eq_false (by rw [ec];omega)
    rw [if_neg c3]
    by_cases c4:kU o.aG s.needs.length=0
    ·rw [if_neg (by omega)]
     rw [c4] at o2
     obtain ⟨q1,q2,_⟩:=tG c4
     have hw:=IW true hg o.aG false q2 q1
     have d4:decide ((0:Int)=0)=true:=by decide
     by_cases c5:s.load < Ab s o.aG
     ·have d5:=decide_eq_true c5
      rw [if_pos c5]
      refine ah.body (fn:=Tryz.f49) rfl rfl rfl rfl ?_
      refine aa (mu:=fun _=>false) ?_
      repeat' (first |((with_reducible show ax _ _ _ _ _ _ _ _);refine ah.call o1 rfl rfl ?_) |((with_reducible show ax _ _ _ _ _ _ _ _);refine ah.call o2 rfl rfl ?_) |refine u1 ?_ |(refine ⟨_,_,.inl ⟨rfl,rfl⟩,hw,?_⟩) |refine u2 ?_ |fail)
      exact ⟨[_],⟨Fz.deep rfl,trivial⟩,rfl⟩
     ·have d5:=decide_eq_false c5
      rw [if_neg c5]
      refine ah.body (fn:=Tryz.f49) rfl rfl rfl rfl ?_
      refine aa (mu:=fun _=>false) ?_
      repeat' (first |((with_reducible show ax _ _ _ _ _ _ _ _);refine ah.call o1 rfl rfl ?_) |((with_reducible show ax _ _ _ _ _ _ _ _);refine ah.call o2 rfl rfl ?_) |refine u1 ?_ |(refine ⟨_,_,.inl ⟨rfl,rfl⟩,hw,?_⟩) |refine u2 ?_ |fail)
      exact ⟨[_],⟨Fz.deep rfl,trivial⟩,rfl⟩
    ·rw [if_pos c4]
     have d4:decide (kU o.aG s.needs.length=0)=false:=decide_eq_false c4
     generalize kU o.aG s.needs.length=e at *
     refine ah.body (fn:=Tryz.f49) rfl rfl rfl rfl ?_
     refine aa (mu:=fun _=>false) ?_
     repeat' (first |refine u1 ?_ |((with_reducible show ax _ _ _ _ _ _ _ _);refine ah.call o1 rfl rfl ?_) |((with_reducible show ax _ _ _ _ _ _ _ _);refine ah.call o2 rfl rfl ?_) |refine u2 ?_ |fail)
     exact ⟨[_],⟨Fz.deep rfl,trivial⟩,rfl⟩
structure E7 (p:List Order):Prop where
 len:p.length≤maxLen
 aG:∀ o ∈ p,o.aG.length≤maxLen
theorem vH {p:List Order} {k:Nat} (h:k < p.length):kI p (k+1)=p[k].day:=by
 unfold kI
 rw [if_neg (by omega),Nat.add_sub_cancel,List.getElem?_eq_getElem h]
theorem Dc (one:Bool) (s:au) (hs:s.Ok) (p:List Order) (full:Bool) (hp:E7 p):Pu one 20 [.ag (ak s),.sl (p.map ay) full] (.tp [aA (cz s p).1,aA (cz s p).2]):=by
 have ep:((p.map ay).length:Int)=p.length:=by simp
 have mp:p.length≤9223372036854775807:=Nat.le_trans hp.len (by simp [maxLen])
 have o1:=Ku one s hs
 obtain ⟨n,hn⟩:∃ n:Int,n=p.length:=⟨_,rfl⟩
 unfold cz
 by_cases c1:(nE s).2.2=0
 ·rw [if_neg (by omega)]
  have hg:=Db c1
  rw [BM c1] at o1
  unfold kJ
  by_cases c2:8 < p.length
  ·have d2:decide (8 < ((p.map ay).length:Int))=true:=decide_eq_true (by rw [ep];omega)
   rw [if_pos c2]
   refine ah.body (fn:=Tryz.f20) rfl rfl rfl rfl ?_
   refine aa (mu:=fun _=>false) ?_
   repeat' (first |refine u1 ?_ |((with_reducible show ax _ _ _ _ _ _ _ _);refine ah.call o1 rfl rfl ?_) |refine u2 ?_ |fail)
   exact ⟨[_,_],⟨Fz.deep rfl,Fz.deep rfl,trivial⟩,rfl⟩
  ·have d2:decide (8 < ((p.map ay).length:Int))=false:=decide_eq_false (by rw [ep];omega)
   rw [if_neg c2]
   refine ah.body (fn:=Tryz.f20) rfl rfl rfl rfl ?_
   refine aa (mu:=fun _=>false) ?_
   repeat' (first |refine u1 ?_ |((with_reducible show ax _ _ _ _ _ _ _ _);refine ah.call o1 rfl rfl ?_) |refine u2 ?_ |fail)
   refine aB.aJ (ai.to (l:=[(2,.pt (ak s) 0),(6,aA (kI p 0)),(21,.sl (p.map ay) full),(22,aA n),(23,aA (0:Nat))]) (hp:=[]) 0 rfl ⟨rfl,rfl,rfl,aV (by rw [hn];exact ep),rfl,trivial⟩ (Nat.zero_le _) rfl rfl) ?_
   refine aB.loop (fun k:Nat=>k≤p.length∧∀ i,i < k→fW s p i=0) (fun k=>⟨aS [(2,.pt (ak s) 0),(6,aA (kI p k)),(21,.sl (p.map ay) full),(22,aA n),(23,aA (k:Nat))],[],bJ.none,false,0⟩) (fun k=>p.length - k) ?_ 0 ⟨Nat.zero_le _,fun i hi=>absurd hi (Nat.not_lt_zero _)⟩
   rintro k ⟨hk,hprev⟩
   refine aa (mu:=fun _=>false) ?_
   by_cases hlt:k < p.length
   ·have d1:decide ((k:Int) < n)=true:=decide_eq_true (by omega)
    have hat:(p.map ay)[((k:Nat):Int).toNat]?=some (ay p[k]):=bl hlt
    have hA:fW s p k=iK s p[k] (kI p k):=by unfold fW;rw [List.getElem?_eq_getElem hlt]
    have ho:=Ky one hg p[k] (kI p k) (hp.aG _ (List.getElem_mem hlt))
    have hs1:=vH hlt
    rw [←hA] at ho
    clear hA
    generalize p[k]=o at *
    generalize kI p k=last at *
    by_cases c3:fW s p k=0
    ·rw [c3] at ho
     repeat' (first |((with_reducible show ax _ _ _ _ _ _ _ _);refine ah.call ho rfl rfl ?_) |refine u1 ?_ |((with_reducible show RM.wpOp _ _ (.indexAddr _ _ _) _ _ _);refine ⟨ay o,⟨by omega,hat⟩,rfl,?_⟩) |refine u2 ?_ |fail)
     refine ⟨k+1,⟨hlt,fun i hi=>?_⟩,(by dsimp only;omega),ai.to 0 rfl ⟨rfl,aV hs1.symm,rfl,rfl,aV (by simp),trivial⟩ (Nat.zero_le _) rfl rfl⟩
     by_cases hik:i=k
     ·rw [hik];exact c3
     ·exact hprev i (by omega)
    ·rw [gw hlt hprev c3]
     generalize fW s p k=e at *
     have d3:(!decide (e=0))=true:=by rw [decide_eq_false c3];rfl
     repeat' (first |((with_reducible show ax _ _ _ _ _ _ _ _);refine ah.call ho rfl rfl ?_) |refine u1 ?_ |((with_reducible show RM.wpOp _ _ (.indexAddr _ _ _) _ _ _);refine ⟨ay o,⟨by omega,hat⟩,rfl,?_⟩) |refine u2 ?_ |fail)
     exact ⟨[_,_],⟨Fz.deep rfl,Fz.deep rfl,trivial⟩,rfl⟩
   ·have d1:decide ((k:Int) < n)=false:=decide_eq_false (by omega)
    rw [fm (fun i hi=>hprev i (by omega))]
    repeat' (first |refine u1 ?_ |refine u2 ?_ |fail)
    exact ⟨[_,_],⟨Fz.deep rfl,Fz.deep rfl,trivial⟩,rfl⟩
 ·rw [if_pos c1]
  generalize (nE s).1=a at *
  generalize (nE s).2.1=b at *
  generalize (nE s).2.2=e at *
  have d1:(!decide (e=0))=true:=by rw [decide_eq_false c1];rfl
  refine ah.body (fn:=Tryz.f20) rfl rfl rfl rfl ?_
  refine aa (mu:=fun _=>false) ?_
  repeat' (first |refine u1 ?_ |((with_reducible show ax _ _ _ _ _ _ _ _);refine ah.call o1 rfl rfl ?_) |refine u2 ?_ |fail)
  exact ⟨[_,_],⟨Fz.deep rfl,Fz.deep rfl,trivial⟩,rfl⟩
abbrev Fx:Sh:=.int .i64
abbrev IZ:Sh:=.cons .str (.cons Fx (.cons Fx (.cons Fx .nil)))
abbrev zL:Sh:=.cons Fx (.cons (.slice Fx) .nil)
abbrev BO:Sh:=.cons Fx (.cons (.slice IZ) (.cons Fx (.cons Fx (.cons Fx (.cons (.slice Fx) .nil)))))
theorem Kz {l:List AV} (h:TV Fx l):∃ n,(Lit.int .i64 n).wf=true∧l=eI n:=by
 cases h with
 | int h=>exact ⟨_,h,rfl⟩
theorem QW {l:List AV} (h:TV .bool l):∃ b,l=[BB b]:=by
 cases h with
 | bool=>exact ⟨_,rfl⟩
theorem QX {l:List AV} (h:TV .str l):∃ s:ByteArray,s.size≤maxLen∧l=[ST s]:=by
 cases h with
 | str h=>exact ⟨_,h,rfl⟩
theorem Fy {a b:Sh} {l:List AV} (h:TV (.cons a b) l):∃ x y,TV a x∧TV b y∧l=x++y:=by
 cases h with
 | cons h k=>exact ⟨_,_,h,k,rfl⟩
theorem Qj {l:List AV} (h:TV .nil l):l=[]:=by cases h;rfl
theorem P9 {s:Sh} {l:List AV} (h:TV (.slice s) l):∃ els,els.length≤maxLen∧(∀ el ∈ els,TV s el)∧l=[.sl els false]:=by
 cases h with
 | slice h k=>exact ⟨_,h,k,rfl⟩
theorem BP {α:Type} {e:α→List AV} {P:α→Prop}:∀ {els:List (List AV)},(∀ el ∈ els,∃ x,P x∧el=e x)→∃ l:List α,(∀ x ∈ l,P x)∧els=l.map e
 | [],_=>⟨[],⟨List.forall_mem_nil _,rfl⟩⟩
 | el :: els,h=>by
  obtain ⟨x,hx,rfl⟩:=h el (by simp)
  obtain ⟨l,hl,rfl⟩:=BP fun el hel=>h el (List.mem_cons_of_mem _ hel)
  exact ⟨x :: l,⟨List.forall_mem_cons.2 ⟨hx,hl⟩,rfl⟩⟩
theorem I2 {l:List AV} (h:TV (.slice Fx) l):∃ c:List Int,c.length≤maxLen∧l=[.sl (ints c) false]:=by
 obtain ⟨a,ha,ha',rfl⟩:=P9 h
 obtain ⟨a,_,rfl⟩:=BP (e:=eI) (P:=fun _=>True) fun el hel=>by obtain ⟨n,_,h⟩:=Kz (ha' el hel);exact ⟨n,trivial,h⟩
 exact ⟨a,by simpa using ha,rfl⟩
theorem NT {l:List AV} (h:TV IZ l):∃ x:jX,x.name.data.toList.length≤maxLen∧l=aH x:=by
 obtain ⟨_,_,h1,k1,rfl⟩:=Fy h
 obtain ⟨_,_,h2,k2,rfl⟩:=Fy k1
 obtain ⟨_,_,h3,k3,rfl⟩:=Fy k2
 obtain ⟨_,_,h4,k4,rfl⟩:=Fy k3
 obtain rfl:=Qj k4
 obtain ⟨a,ha,rfl⟩:=QX h1
 obtain ⟨b,_,rfl⟩:=Kz h2
 obtain ⟨c,_,rfl⟩:=Kz h3
 obtain ⟨d,_,rfl⟩:=Kz h4
 exact ⟨⟨a,b,c,d⟩,by simpa using ha,rfl⟩
theorem KA {l:List AV} (h:TV zL l):∃ o:Order,o.aG.length≤maxLen∧l=ay o:=by
 obtain ⟨_,_,h1,k1,rfl⟩:=Fy h
 obtain ⟨_,_,h2,k2,rfl⟩:=Fy k1
 obtain rfl:=Qj k2
 obtain ⟨a,_,rfl⟩:=Kz h1
 obtain ⟨c,hc,rfl⟩:=I2 h2
 exact ⟨⟨a,c⟩,hc,rfl⟩
theorem I3 {l:List AV} (h:TV (.slice zL) l):∃ p:List Order,E7 p∧l=[.sl (p.map ay) false]:=by
 obtain ⟨a,ha,ha',rfl⟩:=P9 h
 obtain ⟨a,hc,rfl⟩:=BP (e:=ay) fun el hel=>KA (ha' el hel)
 exact ⟨a,⟨by simpa using ha,hc⟩,rfl⟩
theorem I4 {l:List AV} (h:TV BO l):∃ s:au,s.Ok∧l=ak s:=by
 obtain ⟨_,_,h1,k1,rfl⟩:=Fy h
 obtain ⟨_,_,h2,k2,rfl⟩:=Fy k1
 obtain ⟨_,_,h3,k3,rfl⟩:=Fy k2
 obtain ⟨_,_,h4,k4,rfl⟩:=Fy k3
 obtain ⟨_,_,h5,k5,rfl⟩:=Fy k4
 obtain ⟨_,_,h6,k6,rfl⟩:=Fy k5
 obtain rfl:=Qj k6
 obtain ⟨a,_,rfl⟩:=Kz h1
 obtain ⟨b,hb,hb',rfl⟩:=P9 h2
 obtain ⟨b,hn,rfl⟩:=BP (e:=aH) fun el hel=>NT (hb' el hel)
 obtain ⟨c,_,rfl⟩:=Kz h3
 obtain ⟨d,_,rfl⟩:=Kz h4
 obtain ⟨e,_,rfl⟩:=Kz h5
 obtain ⟨f,hf,rfl⟩:=I2 h6
 exact ⟨⟨a,b,c,d,e,f⟩,⟨by simpa using hb,hn,hf⟩,rfl⟩
theorem PL:∀ e ∈ TB,aj TT e:=by
 intro e he
 unfold TB at he
 rcases List.mem_cons.1 he with rfl|he
 ·exact PC
 ·obtain ⟨k,hk,rfl⟩:=List.mem_map.1 he
  have:=List.mem_range.1 hk
  exact bq (by omega)
end Go.Proofs.YtpeogffeoehboaaGreatDoor
