/-
  Contracts of the program's functions and of the document's. Lemmas alone; their conditions stand in them.
-/
import Derived.Test.YtpeogffeoehboaaDoorA2
import Derived.Test.YtpeogffeoehboaaDoorX4
import Derived.Test.YtpeogffeoehboaaDoorK1
import Derived.Test.YtpeogffeoehboaaDoorK2
import Derived.Test.YtpeogffeoehboaaDoorK3
open Go Go.RM
namespace Go.Proofs.YtpeogffeoehboaaDoor
set_option maxRecDepth 100000
set_option maxHeartbeats 4000000
theorem qi {s:ak} (h:bT s=false) (h1:eM 1 3 [(s.needs.length:Int)]=false) (hprev:∀ i,i < s.needs.length→eO s i=0) (h2:¬ 6 < s.possible.length) {k:Nat} {v:Int} (hk:k < s.possible.length) (hp:∀ i,i < k→eN s.possible s.days 7 i=0) (hv:eN s.possible s.days 7 k=v) (h0:v ≠ 0):lZ s=(3,(k:Int),v):=by
 rw [vj h h1 hprev h2,gi hk hp (by rw [hv];exact h0),hv,if_pos h0]
theorem JZ {s:ak} (h:bT s=false) (h1:eM 1 3 [(s.needs.length:Int)]=false) (hprev:∀ i,i < s.needs.length→eO s i=0) (h2:¬ 6 < s.possible.length) (hp:∀ i,i < s.possible.length→eN s.possible s.days 7 i=0):lZ s=(0,0,0):=by
 rw [vj h h1 hprev h2,ey hp];rfl
theorem Is (one:Bool) (s:ak) (h:s.Ok):Pu one 14 [.ag (ay s)] (.tp [aA (lZ s).1,aA (lZ s).2.1,aA (lZ s).2.2]):=by
 have eg:((s.needs.map aH).length:Int)=s.needs.length:=by simp
 have o1:=jD one s.days 1 60
 have o2:=jD one s.load 1 30
 have o3:=jD one s.fail 0 8
 have o4:=jD one s.row 1 8
 have o5:=jD one ((s.needs.map aH).length:Int) 1 3
 rw [eg] at o5
 cases e1:ng s.days 1 60 with
 | false =>
  rw [e1] at o1
  rw [gB (by unfold bT;rw [bh,e1];simp)]
  refine af.body (fn:=Tryd.f14) rfl rfl rfl rfl ?_
  refine aa (mu:=fun t=>Nat.beq t 57) ?_
  repeat' (first |refine u1 ?_ |((with_reducible show aj _ _ _ _ _ _ _ _);refine af.call o1 rfl rfl ?_) |refine u2 ?_ |fail)
  exact ⟨[_,_,_],⟨Fz.deep rfl,Fz.deep rfl,Fz.deep rfl,trivial⟩,rfl⟩
 | true =>
  rw [e1] at o1
  cases e2:ng s.load 1 30 with
  | false =>
   rw [e2] at o2
   rw [gB (by unfold bT;rw [bh,e1,bh,e2];simp)]
   refine af.body (fn:=Tryd.f14) rfl rfl rfl rfl ?_
   refine aa (mu:=fun t=>Nat.beq t 57) ?_
   repeat' (first |refine u1 ?_ |((with_reducible show aj _ _ _ _ _ _ _ _);refine af.call o1 rfl rfl ?_) |((with_reducible show aj _ _ _ _ _ _ _ _);refine af.call o2 rfl rfl ?_) |refine u2 ?_ |fail)
   exact ⟨[_,_,_],⟨Fz.deep rfl,Fz.deep rfl,Fz.deep rfl,trivial⟩,rfl⟩
  | true =>
   rw [e2] at o2
   cases e3:ng s.fail 0 8 with
   | false =>
    rw [e3] at o3
    rw [gB (by unfold bT;rw [bh,e1,bh,e2,bh,e3];simp)]
    refine af.body (fn:=Tryd.f14) rfl rfl rfl rfl ?_
    refine aa (mu:=fun t=>Nat.beq t 57) ?_
    repeat' (first |refine u1 ?_ |((with_reducible show aj _ _ _ _ _ _ _ _);refine af.call o1 rfl rfl ?_) |((with_reducible show aj _ _ _ _ _ _ _ _);refine af.call o2 rfl rfl ?_) |((with_reducible show aj _ _ _ _ _ _ _ _);refine af.call o3 rfl rfl ?_) |refine u2 ?_ |fail)
    exact ⟨[_,_,_],⟨Fz.deep rfl,Fz.deep rfl,Fz.deep rfl,trivial⟩,rfl⟩
   | true =>
    rw [e3] at o3
    cases e4:ng s.row 1 8 with
    | false =>
     rw [e4] at o4
     rw [gB (by unfold bT;rw [bh,e1,bh,e2,bh,e3,bh,e4];simp)]
     refine af.body (fn:=Tryd.f14) rfl rfl rfl rfl ?_
     refine aa (mu:=fun t=>Nat.beq t 57) ?_
     repeat' (first |refine u1 ?_ |((with_reducible show aj _ _ _ _ _ _ _ _);refine af.call o1 rfl rfl ?_) |((with_reducible show aj _ _ _ _ _ _ _ _);refine af.call o2 rfl rfl ?_) |((with_reducible show aj _ _ _ _ _ _ _ _);refine af.call o3 rfl rfl ?_) |((with_reducible show aj _ _ _ _ _ _ _ _);refine af.call o4 rfl rfl ?_) |refine u2 ?_ |fail)
     exact ⟨[_,_,_],⟨Fz.deep rfl,Fz.deep rfl,Fz.deep rfl,trivial⟩,rfl⟩
    | true =>
     rw [e4] at o4
     have hb:bT s=false:=by unfold bT;rw [bh,bh,bh,bh,e1,e2,e3,e4];rfl
     cases e5:ng (s.needs.length:Int) 1 3 with
     | false =>
      rw [Bo hb (by rw [bh,e5];rfl)]
      rw [e5,←eg] at o5
      refine af.body (fn:=Tryd.f14) rfl rfl rfl rfl ?_
      refine aa (mu:=fun t=>Nat.beq t 57) ?_
      repeat' (first |refine u1 ?_ |((with_reducible show aj _ _ _ _ _ _ _ _);refine af.call o1 rfl rfl ?_) |((with_reducible show aj _ _ _ _ _ _ _ _);refine af.call o2 rfl rfl ?_) |((with_reducible show aj _ _ _ _ _ _ _ _);refine af.call o3 rfl rfl ?_) |((with_reducible show aj _ _ _ _ _ _ _ _);refine af.call o4 rfl rfl ?_) |((with_reducible show aj _ _ _ _ _ _ _ _);refine af.call o5 rfl rfl ?_) |refine u2 ?_ |fail)
      exact ⟨[_,_,_],⟨Fz.deep rfl,Fz.deep rfl,Fz.deep rfl,trivial⟩,rfl⟩
     | true =>
      rw [e5,←eg] at o5
      have hl:eM 1 3 [(s.needs.length:Int)]=false:=by rw [bh,e5];rfl
      have hn3:s.needs.length≤3:=by
       have:=cc hl
       omega
      refine af.body (fn:=Tryd.f14) rfl rfl rfl rfl ?_
      refine aa (mu:=fun t=>Nat.beq t 57) ?_
      repeat' (first |refine u1 ?_ |((with_reducible show aj _ _ _ _ _ _ _ _);refine af.call o1 rfl rfl ?_) |((with_reducible show aj _ _ _ _ _ _ _ _);refine af.call o2 rfl rfl ?_) |((with_reducible show aj _ _ _ _ _ _ _ _);refine af.call o3 rfl rfl ?_) |((with_reducible show aj _ _ _ _ _ _ _ _);refine af.call o4 rfl rfl ?_) |((with_reducible show aj _ _ _ _ _ _ _ _);refine af.call o5 rfl rfl ?_) |refine u2 ?_ |fail)
      refine aB.aL (au.trans (au.u7 1) (au.OT (l:=[(1,.pt (ay s) 0),(5,.dc 0 (0,0,0).2.1 0 (0,0,0).1 (0,0,0).2.2),(6,aA ((0,0,0).1:Nat))]) (hp:=[.cells (fm (s.needs.take (0,0,0).1)) 1 (0,0,0).2.1]) 1 rfl ⟨cH.refl _,cH.u6,cH.refl _,trivial⟩ (Nat.zero_le _) rfl (xQ _ _))) ?_
      refine aB.loop (fun x:Nat × Nat × Nat=>x.1≤s.needs.length∧(∀ i,i < x.1→eO s i=0)∧(x.2.2=x.1∨x.2.2=x.1+1)) (fun x=>⟨aU [(1,.pt (ay s) 0),(5,.dc 0 x.2.1 0 x.1 x.2.2),(6,aA (x.1:Nat))],[.cells (fm (s.needs.take x.1)) 1 x.2.1],bP.none,false,0⟩) (fun x=>s.needs.length - x.1) ?_ (0,0,0) ⟨Nat.zero_le _,(fun i hi=>absurd hi (Nat.not_lt_zero _)),.inl rfl⟩
      rintro ⟨k,aC,c⟩ ⟨hk,hprev,hcap⟩
      dsimp only at hk hprev hcap
      show aB _ _ _ _ ⟨aU [(1,.pt (ay s) 0),(5,.dc 0 (k,aC,c).2.1 0 (k,aC,c).1 (k,aC,c).2.2),(6,aA ((k,aC,c).1:Nat))],[.cells (fm (s.needs.take (k,aC,c).1)) 1 (k,aC,c).2.1],bP.none,false,0⟩ _
      dsimp only
      refine aa (mu:=fun t=>Nat.beq t 57) ?_
      by_cases hlt:k < s.needs.length
      ·have d5:decide ((k:Int) < ((s.needs.map aH).length:Int))=true:=decide_eq_true (by omega)
       have hat:(s.needs.map aH)[((k:Nat):Int).toNat]?=some (aH s.needs[k]):=bC hlt
       have hga:eO s k=zq s.needs[k] (s.needs.take k):=by unfold eO;rw [List.getElem?_eq_getElem hlt];exact JX _ _
       have hfr:=JV one ((s.needs.take k).map (·.name)) false s.needs[k].name (h.names _ (List.getElem_mem hlt)) (by simp [maxLen];omega)
       have o6:=jD one s.needs[k].full 1 60
       have o7:=jD one s.needs[k].first 0 s.needs[k].full
       have o8:=jD one s.needs[k].weight 1 30
       have htl:(s.needs.take k).length=k:=by rw [List.length_take];omega
       have hnt:=Bq hlt
       have hgl:(fm (s.needs.take k)).length=k:=by unfold fm;rw [List.length_map,htl]
       generalize s.needs[k]=g at *
       generalize hE:kY g.name ((s.needs.take k).map (·.name))=E at *
       have z00:decide ((0:Int)=0)=true:=by decide
       have z70:decide ((7:Int)=0)=false:=by decide
       have n00:(!decide ((0:Int)=0))=false:=by decide
       have n70:(!decide ((7:Int)=0))=true:=by decide
       unfold zq at hga
       rw [hE] at hga
       repeat' (first |((with_reducible show RM.wpOp _ _ (.call _) _ _ _);refine RM.u9 (cs:=fm (s.needs.take k)) (n:=k) (els:=[eS g.name]) rfl rfl rfl rfl rfl (fun el hel=>by rw [List.mem_singleton.1 hel];rfl) rfl rfl (by rw [hgl];exact (Nat.mul_one _).symm) hcap (by simp only [List.length_singleton];omega) (fun v' c' hc'=>?_)) |refine u1 ?_ |((with_reducible show RM.wpOp _ _ (.indexAddr _ _ _) _ _ _);refine ⟨aH g,⟨by omega,hat⟩,rfl,?_⟩) |((with_reducible show aj _ _ _ _ _ _ _ _);refine af.Py hfr rfl (zM.two (Fz.deep rfl) (EK _ htl)) (gz.fl _) ?_) |refine u2 ?_ |fail)
       by_cases g1:E=0
       ·rw [if_neg (by omega)] at hga
        have d7:decide (E=0)=true:=decide_eq_true g1
        have d7':(!decide (E=0))=false:=by rw [d7];rfl
        have bad:(ng g.full 1 60=false∨ng g.first 0 g.full=false∨ng g.weight 1 30=false)→lZ s=(2,(k:Int),7):=fun hb2=>by
         rw [if_pos hb2] at hga
         exact CK hb hl hlt hprev hga (by decide)
        cases g2:ng g.full 1 60 with
        | false =>
         rw [g2] at o6
         rw [bad (.inl g2)]
         repeat' (first |((with_reducible show aj _ _ _ _ _ _ _ _);refine af.call o6 rfl rfl ?_) |((with_reducible show aj _ _ _ _ _ _ _ _);refine af.call o7 rfl rfl ?_) |((with_reducible show aj _ _ _ _ _ _ _ _);refine af.call o8 rfl rfl ?_) |refine u1 ?_ |refine u2 ?_ |fail)
         exact ⟨[_,_,_],⟨Fz.deep rfl,Fz.deep rfl,Fz.deep rfl,trivial⟩,rfl⟩
        | true =>
         rw [g2] at o6
         cases g3:ng g.first 0 g.full with
         | false =>
          rw [g3] at o7
          rw [bad (.inr (.inl g3))]
          repeat' (first |((with_reducible show aj _ _ _ _ _ _ _ _);refine af.call o6 rfl rfl ?_) |((with_reducible show aj _ _ _ _ _ _ _ _);refine af.call o7 rfl rfl ?_) |((with_reducible show aj _ _ _ _ _ _ _ _);refine af.call o8 rfl rfl ?_) |refine u1 ?_ |refine u2 ?_ |fail)
          exact ⟨[_,_,_],⟨Fz.deep rfl,Fz.deep rfl,Fz.deep rfl,trivial⟩,rfl⟩
         | true =>
          rw [g3] at o7
          cases g4:ng g.weight 1 30 with
          | false =>
           rw [g4] at o8
           rw [bad (.inr (.inr g4))]
           repeat' (first |((with_reducible show aj _ _ _ _ _ _ _ _);refine af.call o6 rfl rfl ?_) |((with_reducible show aj _ _ _ _ _ _ _ _);refine af.call o7 rfl rfl ?_) |((with_reducible show aj _ _ _ _ _ _ _ _);refine af.call o8 rfl rfl ?_) |refine u1 ?_ |refine u2 ?_ |fail)
           exact ⟨[_,_,_],⟨Fz.deep rfl,Fz.deep rfl,Fz.deep rfl,trivial⟩,rfl⟩
          | true =>
           rw [g4] at o8
           rw [if_neg (by rw [g2,g3,g4];simp)] at hga
           repeat' (first |((with_reducible show aj _ _ _ _ _ _ _ _);refine af.call o6 rfl rfl ?_) |((with_reducible show aj _ _ _ _ _ _ _ _);refine af.call o7 rfl rfl ?_) |((with_reducible show aj _ _ _ _ _ _ _ _);refine af.call o8 rfl rfl ?_) |refine u1 ?_ |refine u2 ?_ |fail)
           refine ⟨(k+1,v',c'),⟨hlt,(fun i hi=>?_),hc'⟩,(by dsimp only;omega),?_⟩
           ·by_cases hik:i=k
            ·subst hik;exact hga
            ·exact hprev i (by dsimp only at hi;omega)
           ·exact au.to 1 (by dsimp only;rw [hnt];rfl) ⟨rfl,rfl,bu (by simp),trivial⟩ (Nat.zero_le _) rfl (xQ _ _)
       ·rw [if_pos g1] at hga
        rw [CK hb hl hlt hprev hga g1]
        have d7:decide (E=0)=false:=decide_eq_false g1
        have d7':(!decide (E=0))=true:=by rw [d7];rfl
        repeat' (first |((with_reducible show aj _ _ _ _ _ _ _ _);refine af.call o6 rfl rfl ?_) |((with_reducible show aj _ _ _ _ _ _ _ _);refine af.call o7 rfl rfl ?_) |((with_reducible show aj _ _ _ _ _ _ _ _);refine af.call o8 rfl rfl ?_) |refine u1 ?_ |refine u2 ?_ |fail)
        exact ⟨[_,_,_],⟨Fz.deep rfl,Fz.deep rfl,Fz.deep rfl,trivial⟩,rfl⟩
      ·have hkn:k=s.needs.length:=by omega
       have d5:decide ((k:Int) < ((s.needs.map aH).length:Int))=false:=decide_eq_false (by omega)
       subst hkn
       have ep:((ints s.possible).length:Int)=s.possible.length:=by simp
       have mp:s.possible.length≤9223372036854775807:=Nat.le_trans h.possible (by simp [maxLen])
       have hd:=hG.1 e1
       by_cases h6:6 < s.possible.length
       ·have d2:decide (6 < ((ints s.possible).length:Int))=true:=decide_eq_true (by rw [ep];omega)
        rw [Bp hb hl hprev h6]
        repeat' (first |refine u1 ?_ |refine u2 ?_ |fail)
        exact ⟨[_,_,_],⟨Fz.deep rfl,Fz.deep rfl,Fz.deep rfl,trivial⟩,rfl⟩
       ·have d2:decide (6 < ((ints s.possible).length:Int))=false:=decide_eq_false (by rw [ep];omega)
        repeat' (first |refine u1 ?_ |refine u2 ?_ |fail)
        refine aB.aL (au.to (l:=[(1,.pt (ay s) 0),(9,aA (0:Nat))]) (hp:=[]) 0 rfl ⟨rfl,rfl,trivial⟩ (Nat.zero_le _) rfl rfl) ?_
        refine aB.loop (fun q:Nat=>q≤s.possible.length∧∀ i,i < q→eN s.possible s.days 7 i=0) (fun q=>⟨aU [(1,.pt (ay s) 0),(9,aA (q:Nat))],[],bP.none,false,0⟩) (fun q=>s.possible.length - q) ?_ 0 ⟨Nat.zero_le _,fun i hi=>absurd hi (Nat.not_lt_zero _)⟩
        rintro q ⟨hq,hpp⟩
        refine aa (mu:=fun _=>false) ?_
        by_cases hqt:q < s.possible.length
        ·have d6:decide ((q:Int) < ((ints s.possible).length:Int))=true:=decide_eq_true (by omega)
         have hqa:(ints s.possible)[((q:Nat):Int).toNat]?=some (eI s.possible[q]):=bC hqt
         have o9:=jD true s.possible[q] 0 (s.days - 1)
         cases e9:ng s.possible[q] 0 (s.days - 1) with
         | false =>
          rw [e9] at o9
          rw [qi hb hl hprev h6 hqt hpp (vk hqt e9) (by decide)]
          generalize s.possible[q]=g at *
          repeat' (first |(refine ⟨_,o9,?_⟩) |refine u1 ?_ |((with_reducible show RM.wpOp _ _ (.indexAddr _ _ _) _ _ _);refine ⟨eI g,⟨by omega,hqa⟩,rfl,?_⟩) |refine u2 ?_ |fail)
          exact ⟨[_,_,_],⟨Fz.deep rfl,Fz.deep rfl,Fz.deep rfl,trivial⟩,rfl⟩
         | true =>
          rw [e9] at o9
          cases q with
          | zero =>
           have hz:=Ip (below:=7) hqt e9
           generalize s.possible[0]=g at *
           repeat' (first |(refine ⟨_,o9,?_⟩) |refine u1 ?_ |((with_reducible show RM.wpOp _ _ (.indexAddr _ _ _) _ _ _);refine ⟨eI g,⟨by omega,hqa⟩,rfl,?_⟩) |refine u2 ?_ |fail)
           refine ⟨1,⟨hqt,fun i hi=>?_⟩,(by dsimp only;omega),au.to 0 rfl ⟨rfl,bu (by simp),trivial⟩ (Nat.zero_le _) rfl rfl⟩
           obtain rfl:i=0:=by omega
           exact hz
          | succ m =>
           have hs:=CL (below:=7) hqt e9
           have d0:decide ((0:Int) < ((m+1:Nat):Int))=true:=decide_eq_true (by omega)
           have hqb:(ints s.possible)[(((m+1:Nat):Int) - 1).toNat]?=some (eI s.possible[m]):=by
            rw [show (((m+1:Nat):Int) - 1)=((m:Nat):Int) by omega]
            exact bC (by omega)
           generalize s.possible[m+1]=g at *
           generalize s.possible[m]=g' at *
           by_cases hgg:g≤g'
           ·rw [if_pos hgg] at hs
            have dg:=decide_eq_true hgg
            rw [qi hb hl hprev h6 hqt hpp hs (by decide)]
            repeat' (first |(refine ⟨_,o9,?_⟩) |refine u1 ?_ |((with_reducible show RM.wpOp _ _ (.indexAddr _ _ _) _ _ _);refine ⟨eI g,⟨by omega,hqa⟩,rfl,?_⟩) |((with_reducible show RM.wpOp _ _ (.indexAddr _ _ _) _ _ _);refine ⟨eI g',⟨by omega,hqb⟩,rfl,?_⟩) |refine u2 ?_ |fail)
            exact ⟨[_,_,_],⟨Fz.deep rfl,Fz.deep rfl,Fz.deep rfl,trivial⟩,rfl⟩
           ·rw [if_neg hgg] at hs
            have dg:=decide_eq_false hgg
            repeat' (first |(refine ⟨_,o9,?_⟩) |refine u1 ?_ |((with_reducible show RM.wpOp _ _ (.indexAddr _ _ _) _ _ _);refine ⟨eI g,⟨by omega,hqa⟩,rfl,?_⟩) |((with_reducible show RM.wpOp _ _ (.indexAddr _ _ _) _ _ _);refine ⟨eI g',⟨by omega,hqb⟩,rfl,?_⟩) |refine u2 ?_ |fail)
            refine ⟨m+1+1,⟨hqt,fun i hi=>?_⟩,(by dsimp only;omega),au.to 0 rfl ⟨rfl,bu (by simp),trivial⟩ (Nat.zero_le _) rfl rfl⟩
            by_cases hik:i=m+1
            ·subst hik;exact hs
            ·exact hpp i (by omega)
        ·have d6:decide ((q:Int) < ((ints s.possible).length:Int))=false:=decide_eq_false (by omega)
         rw [JZ hb hl hprev h6 (fun i hi=>hpp i (by omega))]
         repeat' (first |refine u1 ?_ |refine u2 ?_ |fail)
         exact ⟨[_,_,_],⟨Fz.deep rfl,Fz.deep rfl,Fz.deep rfl,trivial⟩,rfl⟩
end Go.Proofs.YtpeogffeoehboaaDoor
open Go Go.RM
namespace Go.Proofs.YtpeogffeoehboaaDoor
set_option maxRecDepth 100000
set_option maxHeartbeats 4000000
theorem J0 (one:Bool) {s:ak} (hg:Good s) (o:Order) (last:Int) (hc:o.aF.length≤maxLen):Pu one 47 [.ag (ay s),.ag (ai o),aA last] (aA (iy s o last)):=by
 have eg:((s.needs.map aH).length:Int)=s.needs.length:=by simp
 have ec:((ints o.aF).length:Int)=o.aF.length:=by simp
 have mc:o.aF.length≤9223372036854775807:=Nat.le_trans hc (by simp [maxLen])
 have hd:=hg.days
 have hl:=hg.len
 have o1:=gA one 0 (s.days - 1) o.day
 obtain ⟨A,hA⟩:∃ A,A=(cN o.aF.length (eN o.aF (s.needs.length:Int) 4)).1:=⟨_,rfl⟩
 have o2:Pu one 44 [.sl (ints o.aF) false,aA ((s.needs.map aH).length:Int),aA 4] (.tp [aA A,aA (gC o.aF s.needs.length)]):=by
  rw [eg,hA]
  exact Il one o.aF false (s.needs.length:Int) 4 hc (by omega) (by decide)
 unfold iy
 cases c1:eM 0 (s.days - 1) [o.day] with
 | true =>
  rw [c1] at o1
  rw [if_pos rfl]
  refine af.body (fn:=Tryd.f47) rfl rfl rfl rfl ?_
  refine aa (mu:=fun _=>false) ?_
  repeat' (first |refine u1 ?_ |((with_reducible show aj _ _ _ _ _ _ _ _);refine af.call o1 rfl rfl ?_) |refine u2 ?_ |fail)
  exact ⟨[_],⟨Fz.deep rfl,trivial⟩,rfl⟩
 | false =>
  rw [c1] at o1
  rw [if_neg (by simp)]
  by_cases c2:o.day≤last
  ·have d2:=decide_eq_true c2
   rw [if_pos c2]
   refine af.body (fn:=Tryd.f47) rfl rfl rfl rfl ?_
   refine aa (mu:=fun _=>false) ?_
   repeat' (first |refine u1 ?_ |((with_reducible show aj _ _ _ _ _ _ _ _);refine af.call o1 rfl rfl ?_) |refine u2 ?_ |fail)
   exact ⟨[_],⟨Fz.deep rfl,trivial⟩,rfl⟩
  ·have d2:=decide_eq_false c2
   rw [if_neg c2]
   by_cases c3:o.aF.length=0
   ·have d3:decide (((ints o.aF).length:Int)=0)=true:=decide_eq_true (by rw [ec];omega)
    rw [if_pos c3]
    refine af.body (fn:=Tryd.f47) rfl rfl rfl rfl ?_
    refine aa (mu:=fun _=>false) ?_
    repeat' (first |refine u1 ?_ |((with_reducible show aj _ _ _ _ _ _ _ _);refine af.call o1 rfl rfl ?_) |refine u2 ?_ |fail)
    exact ⟨[_],⟨Fz.deep rfl,trivial⟩,rfl⟩
   ·have d3:decide (((ints o.aF).length:Int)=0)=false:=decide_eq_false (by rw [ec];omega)
    rw [if_neg c3]
    by_cases c4:gC o.aF s.needs.length=0
    ·rw [if_neg (by omega)]
     rw [c4] at o2
     obtain ⟨q1,q2,_⟩:=nN c4
     have hw:=Ir true hg o.aF false q2 q1
     have d4:decide ((0:Int)=0)=true:=by decide
     by_cases c5:s.load < zN s o.aF
     ·have d5:=decide_eq_true c5
      rw [if_pos c5]
      refine af.body (fn:=Tryd.f47) rfl rfl rfl rfl ?_
      refine aa (mu:=fun _=>false) ?_
      repeat' (first |((with_reducible show aj _ _ _ _ _ _ _ _);refine af.call o1 rfl rfl ?_) |((with_reducible show aj _ _ _ _ _ _ _ _);refine af.call o2 rfl rfl ?_) |refine u1 ?_ |(refine ⟨_,_,.inl ⟨rfl,rfl⟩,hw,?_⟩) |refine u2 ?_ |fail)
      exact ⟨[_],⟨Fz.deep rfl,trivial⟩,rfl⟩
     ·have d5:=decide_eq_false c5
      rw [if_neg c5]
      refine af.body (fn:=Tryd.f47) rfl rfl rfl rfl ?_
      refine aa (mu:=fun _=>false) ?_
      repeat' (first |((with_reducible show aj _ _ _ _ _ _ _ _);refine af.call o1 rfl rfl ?_) |((with_reducible show aj _ _ _ _ _ _ _ _);refine af.call o2 rfl rfl ?_) |refine u1 ?_ |(refine ⟨_,_,.inl ⟨rfl,rfl⟩,hw,?_⟩) |refine u2 ?_ |fail)
      exact ⟨[_],⟨Fz.deep rfl,trivial⟩,rfl⟩
    ·rw [if_pos c4]
     have d4:decide (gC o.aF s.needs.length=0)=false:=decide_eq_false c4
     generalize gC o.aF s.needs.length=e at *
     refine af.body (fn:=Tryd.f47) rfl rfl rfl rfl ?_
     refine aa (mu:=fun _=>false) ?_
     repeat' (first |refine u1 ?_ |((with_reducible show aj _ _ _ _ _ _ _ _);refine af.call o1 rfl rfl ?_) |((with_reducible show aj _ _ _ _ _ _ _ _);refine af.call o2 rfl rfl ?_) |refine u2 ?_ |fail)
     exact ⟨[_],⟨Fz.deep rfl,trivial⟩,rfl⟩
structure vQ (p:List Order):Prop where
 len:p.length≤maxLen
 aF:∀ o ∈ p,o.aF.length≤maxLen
theorem vm {p:List Order} {k:Nat} (h:k < p.length):ku p (k+1)=p[k].day:=by
 unfold ku
 rw [if_neg (by omega),Nat.add_sub_cancel,List.getElem?_eq_getElem h]
theorem zy (one:Bool) (s:ak) (hs:s.Ok) (p:List Order) (full:Bool) (hp:vQ p):Pu one 15 [.ag (ay s),.sl (p.map ai) full] (.tp [aA (aO s p).1,aA (aO s p).2]):=by
 have ep:((p.map ai).length:Int)=p.length:=by simp
 have mp:p.length≤9223372036854775807:=Nat.le_trans hp.len (by simp [maxLen])
 have o1:=JW one s hs
 obtain ⟨n,hn⟩:∃ n:Int,n=p.length:=⟨_,rfl⟩
 unfold aO
 by_cases c1:(lZ s).2.2=0
 ·rw [if_neg (by omega)]
  have hg:=CN c1
  rw [Bs c1] at o1
  unfold kz
  by_cases c2:8 < p.length
  ·have d2:decide (8 < ((p.map ai).length:Int))=true:=decide_eq_true (by rw [ep];omega)
   rw [if_pos c2]
   refine af.body (fn:=Tryd.f15) rfl rfl rfl rfl ?_
   refine aa (mu:=fun _=>false) ?_
   repeat' (first |refine u1 ?_ |((with_reducible show aj _ _ _ _ _ _ _ _);refine af.call o1 rfl rfl ?_) |refine u2 ?_ |fail)
   exact ⟨[_,_],⟨Fz.deep rfl,Fz.deep rfl,trivial⟩,rfl⟩
  ·have d2:decide (8 < ((p.map ai).length:Int))=false:=decide_eq_false (by rw [ep];omega)
   rw [if_neg c2]
   refine af.body (fn:=Tryd.f15) rfl rfl rfl rfl ?_
   refine aa (mu:=fun _=>false) ?_
   repeat' (first |refine u1 ?_ |((with_reducible show aj _ _ _ _ _ _ _ _);refine af.call o1 rfl rfl ?_) |refine u2 ?_ |fail)
   refine aB.aL (au.to (l:=[(2,.pt (ay s) 0),(6,aA (ku p 0)),(21,.sl (p.map ai) full),(22,aA n),(23,aA (0:Nat))]) (hp:=[]) 0 rfl ⟨rfl,rfl,rfl,bu (by rw [hn];exact ep),rfl,trivial⟩ (Nat.zero_le _) rfl rfl) ?_
   refine aB.loop (fun k:Nat=>k≤p.length∧∀ i,i < k→fO s p i=0) (fun k=>⟨aU [(2,.pt (ay s) 0),(6,aA (ku p k)),(21,.sl (p.map ai) full),(22,aA n),(23,aA (k:Nat))],[],bP.none,false,0⟩) (fun k=>p.length - k) ?_ 0 ⟨Nat.zero_le _,fun i hi=>absurd hi (Nat.not_lt_zero _)⟩
   rintro k ⟨hk,hprev⟩
   refine aa (mu:=fun _=>false) ?_
   by_cases hlt:k < p.length
   ·have d1:decide ((k:Int) < n)=true:=decide_eq_true (by omega)
    have hat:(p.map ai)[((k:Nat):Int).toNat]?=some (ai p[k]):=bC hlt
    have hA:fO s p k=iy s p[k] (ku p k):=by unfold fO;rw [List.getElem?_eq_getElem hlt]
    have ho:=J0 one hg p[k] (ku p k) (hp.aF _ (List.getElem_mem hlt))
    have hs1:=vm hlt
    rw [←hA] at ho
    clear hA
    generalize p[k]=o at *
    generalize ku p k=last at *
    by_cases c3:fO s p k=0
    ·rw [c3] at ho
     repeat' (first |((with_reducible show aj _ _ _ _ _ _ _ _);refine af.call ho rfl rfl ?_) |refine u1 ?_ |((with_reducible show RM.wpOp _ _ (.indexAddr _ _ _) _ _ _);refine ⟨ai o,⟨by omega,hat⟩,rfl,?_⟩) |refine u2 ?_ |fail)
     refine ⟨k+1,⟨hlt,fun i hi=>?_⟩,(by dsimp only;omega),au.to 0 rfl ⟨rfl,bu hs1.symm,rfl,rfl,bu (by simp),trivial⟩ (Nat.zero_le _) rfl rfl⟩
     by_cases hik:i=k
     ·rw [hik];exact c3
     ·exact hprev i (by omega)
    ·rw [gi hlt hprev c3]
     generalize fO s p k=e at *
     have d3:(!decide (e=0))=true:=by rw [decide_eq_false c3];rfl
     repeat' (first |((with_reducible show aj _ _ _ _ _ _ _ _);refine af.call ho rfl rfl ?_) |refine u1 ?_ |((with_reducible show RM.wpOp _ _ (.indexAddr _ _ _) _ _ _);refine ⟨ai o,⟨by omega,hat⟩,rfl,?_⟩) |refine u2 ?_ |fail)
     exact ⟨[_,_],⟨Fz.deep rfl,Fz.deep rfl,trivial⟩,rfl⟩
   ·have d1:decide ((k:Int) < n)=false:=decide_eq_false (by omega)
    rw [ey (fun i hi=>hprev i (by omega))]
    repeat' (first |refine u1 ?_ |refine u2 ?_ |fail)
    exact ⟨[_,_],⟨Fz.deep rfl,Fz.deep rfl,trivial⟩,rfl⟩
 ·rw [if_pos c1]
  generalize (lZ s).1=a at *
  generalize (lZ s).2.1=b at *
  generalize (lZ s).2.2=e at *
  have d1:(!decide (e=0))=true:=by rw [decide_eq_false c1];rfl
  refine af.body (fn:=Tryd.f15) rfl rfl rfl rfl ?_
  refine aa (mu:=fun _=>false) ?_
  repeat' (first |refine u1 ?_ |((with_reducible show aj _ _ _ _ _ _ _ _);refine af.call o1 rfl rfl ?_) |refine u2 ?_ |fail)
  exact ⟨[_,_],⟨Fz.deep rfl,Fz.deep rfl,trivial⟩,rfl⟩
end Go.Proofs.YtpeogffeoehboaaDoor
open Go Go.RM
namespace Go.Proofs.YtpeogffeoehboaaDoor
set_option maxRecDepth 100000
abbrev Fe:Sh:=.int .i64
abbrev Iu:Sh:=.cons .str (.cons Fe (.cons Fe (.cons Fe .nil)))
abbrev nO:Sh:=.cons Fe (.cons (.slice Fe) .nil)
abbrev nh:Sh:=.cons Fe (.cons (.slice Iu) (.cons Fe (.cons Fe (.cons Fe (.cons (.slice Fe) .nil)))))
theorem J1 {l:List AV} (h:TV Fe l):∃ n,(Lit.int .i64 n).wf=true∧l=eI n:=by
 cases h with
 | int h=>exact ⟨_,h,rfl⟩
theorem Qk {k:IntKind} {l:List AV} (h:TV (.int k) l):∃ n,(Lit.int k n).wf=true∧l=[.fl (.int k n)]:=by
 cases h with
 | int h=>exact ⟨_,h,rfl⟩
theorem Ql {l:List AV} (h:TV .str l):∃ s:ByteArray,s.size≤maxLen∧l=[ST s]:=by
 cases h with
 | str h=>exact ⟨_,h,rfl⟩
theorem Ff {a b:Sh} {l:List AV} (h:TV (.cons a b) l):∃ x y,TV a x∧TV b y∧l=x++y:=by
 cases h with
 | cons h k=>exact ⟨_,_,h,k,rfl⟩
theorem PE {l:List AV} (h:TV .nil l):l=[]:=by cases h;rfl
theorem PF {s:Sh} {l:List AV} (h:TV (.slice s) l):∃ els,els.length≤maxLen∧(∀ el ∈ els,TV s el)∧l=[.sl els false]:=by
 cases h with
 | slice h k=>exact ⟨_,h,k,rfl⟩
theorem Qm {n:Nat} {s:Sh} {l:List AV} (h:TV (.arr n s) l):∃ els:List (List AV),els.length=n∧(∀ el ∈ els,TV s el)∧l=els.flatten:=by
 cases h with
 | arr h k=>exact ⟨_,h,k,rfl⟩
theorem DX {α:Type} {e:α→List AV} {P:α→Prop}:∀ {els:List (List AV)},(∀ el ∈ els,∃ x,P x∧el=e x)→∃ l:List α,(∀ x ∈ l,P x)∧els=l.map e
 | [],_=>⟨[],⟨List.forall_mem_nil _,rfl⟩⟩
 | el :: els,h=>by
  obtain ⟨x,hx,rfl⟩:=h el (by simp)
  obtain ⟨l,hl,rfl⟩:=DX fun el hel=>h el (List.mem_cons_of_mem _ hel)
  exact ⟨x :: l,⟨List.forall_mem_cons.2 ⟨hx,hl⟩,rfl⟩⟩
theorem Iw {l:List AV} (h:TV (.slice Fe) l):∃ c:List Int,c.length≤maxLen∧l=[.sl (ints c) false]:=by
 obtain ⟨a,ha,ha',rfl⟩:=PF h
 obtain ⟨a,_,rfl⟩:=DX (e:=eI) (P:=fun _=>True) fun el hel=>by obtain ⟨n,_,h⟩:=J1 (ha' el hel);exact ⟨n,trivial,h⟩
 exact ⟨a,by simpa using ha,rfl⟩
theorem Nh {l:List AV} (h:TV Iu l):∃ x:jO,x.name.data.toList.length≤maxLen∧l=aH x:=by
 obtain ⟨_,_,h1,k1,rfl⟩:=Ff h
 obtain ⟨_,_,h2,k2,rfl⟩:=Ff k1
 obtain ⟨_,_,h3,k3,rfl⟩:=Ff k2
 obtain ⟨_,_,h4,k4,rfl⟩:=Ff k3
 obtain rfl:=PE k4
 obtain ⟨a,ha,rfl⟩:=Ql h1
 obtain ⟨b,_,rfl⟩:=J1 h2
 obtain ⟨c,_,rfl⟩:=J1 h3
 obtain ⟨d,_,rfl⟩:=J1 h4
 exact ⟨⟨a,b,c,d⟩,by simpa using ha,rfl⟩
theorem J2 {l:List AV} (h:TV nO l):∃ o:Order,o.aF.length≤maxLen∧l=ai o:=by
 obtain ⟨_,_,h1,k1,rfl⟩:=Ff h
 obtain ⟨_,_,h2,k2,rfl⟩:=Ff k1
 obtain rfl:=PE k2
 obtain ⟨a,_,rfl⟩:=J1 h1
 obtain ⟨c,hc,rfl⟩:=Iw h2
 exact ⟨⟨a,c⟩,hc,rfl⟩
theorem qj {l:List AV} (h:TV (.slice nO) l):∃ p:List Order,vQ p∧l=[.sl (p.map ai) false]:=by
 obtain ⟨a,ha,ha',rfl⟩:=PF h
 obtain ⟨a,hc,rfl⟩:=DX (e:=ai) fun el hel=>J2 (ha' el hel)
 exact ⟨a,⟨by simpa using ha,hc⟩,rfl⟩
theorem qk {l:List AV} (h:TV nh l):∃ s:ak,s.Ok∧l=ay s:=by
 obtain ⟨_,_,h1,k1,rfl⟩:=Ff h
 obtain ⟨_,_,h2,k2,rfl⟩:=Ff k1
 obtain ⟨_,_,h3,k3,rfl⟩:=Ff k2
 obtain ⟨_,_,h4,k4,rfl⟩:=Ff k3
 obtain ⟨_,_,h5,k5,rfl⟩:=Ff k4
 obtain ⟨_,_,h6,k6,rfl⟩:=Ff k5
 obtain rfl:=PE k6
 obtain ⟨a,_,rfl⟩:=J1 h1
 obtain ⟨b,hb,hb',rfl⟩:=PF h2
 obtain ⟨b,hn,rfl⟩:=DX (e:=aH) fun el hel=>Nh (hb' el hel)
 obtain ⟨c,_,rfl⟩:=J1 h3
 obtain ⟨d,_,rfl⟩:=J1 h4
 obtain ⟨e,_,rfl⟩:=J1 h5
 obtain ⟨f,hf,rfl⟩:=Iw h6
 exact ⟨⟨a,b,c,d,e,f⟩,⟨by simpa using hb,hn,hf⟩,rfl⟩
theorem DY:∀ e ∈ TB,av TT e:=by
 intro e he
 unfold TB at he
 rcases List.mem_cons.1 he with rfl|he
 ·exact OQ
 ·obtain ⟨k,hk,rfl⟩:=List.mem_map.1 he
  have:=List.mem_range.1 hk
  exact bk (by omega)
end Go.Proofs.YtpeogffeoehboaaDoor
