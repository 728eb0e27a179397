/-
  Contracts of the program's functions and of the document's. Lemmas alone; their conditions stand in them.
-/
import Derived.Test.YtpeogffeoehboaaDoorA2
import Derived.Test.YtpeogffeoehboaaDoorX4
import Derived.Test.YtpeogffeoehboaaDoorK1
import Derived.Test.YtpeogffeoehboaaDoorK2
import Derived.Test.YtpeogffeoehboaaDoorK3
open Go Go.RM
namespace Go.Proofs.YtpeogffeoehboaaDoor
set_option maxRecDepth 100000
set_option maxHeartbeats 4000000
theorem nU {s:ay} (h:cm s=false) (h1:ei 1 3 [(s.needs.length:Int)]=false) (hprev:∀ i,i < s.needs.length→dW s i=0) (h2:¬ 6 < s.possible.length) {k:Nat} {v:Int} (hk:k < s.possible.length) (hp:∀ i,i < k→ej s.possible s.days 7 i=0) (hv:ej s.possible s.days 7 k=v) (h0:v ≠ 0):kN s=(3,(k:Int),v):=by
 rw [sB h h1 hprev h2,fB hk hp (by rw [hv];exact h0),hv,if_pos h0]
theorem FX {s:ay} (h:cm s=false) (h1:ei 1 3 [(s.needs.length:Int)]=false) (hprev:∀ i,i < s.needs.length→dW s i=0) (h2:¬ 6 < s.possible.length) (hp:∀ i,i < s.possible.length→ej s.possible s.days 7 i=0):kN s=(0,0,0):=by
 rw [sB h h1 hprev h2,eD hp];rfl
theorem yD (one:Bool) (s:ay) (h:s.Ok):Pu one 14 [.ag (az s)] (.tp [aD (kN s).1,aD (kN s).2.1,aD (kN s).2.2]):=by
 have eg:((s.needs.map aG).length:Int)=s.needs.length:=by simp
 have o1:=gP one s.days 1 60
 have o2:=gP one s.load 1 30
 have o3:=gP one s.fail 0 8
 have o4:=gP one s.row 1 8
 have o5:=gP one ((s.needs.map aG).length:Int) 1 3
 rw [eg] at o5
 cases e1:kQ s.days 1 60 with
 | false =>
  rw [e1] at o1
  rw [gH (by unfold cm;rw [aT,e1];simp)]
  refine af.body (fn:=Tryd.f14) rfl rfl rfl rfl ?_
  refine ah (mu:=fun t=>Nat.beq t 57) ?_
  repeat' (first |refine u1 ?_ |((with_reducible show ak _ _ _ _ _ _ _ _);refine af.call o1 rfl rfl ?_) |refine u2 ?_ |fail)
  exact ⟨[_,_,_],⟨Fz.deep rfl,Fz.deep rfl,Fz.deep rfl,trivial⟩,rfl⟩
 | true =>
  rw [e1] at o1
  cases e2:kQ s.load 1 30 with
  | false =>
   rw [e2] at o2
   rw [gH (by unfold cm;rw [aT,e1,aT,e2];simp)]
   refine af.body (fn:=Tryd.f14) rfl rfl rfl rfl ?_
   refine ah (mu:=fun t=>Nat.beq t 57) ?_
   repeat' (first |refine u1 ?_ |((with_reducible show ak _ _ _ _ _ _ _ _);refine af.call o1 rfl rfl ?_) |((with_reducible show ak _ _ _ _ _ _ _ _);refine af.call o2 rfl rfl ?_) |refine u2 ?_ |fail)
   exact ⟨[_,_,_],⟨Fz.deep rfl,Fz.deep rfl,Fz.deep rfl,trivial⟩,rfl⟩
  | true =>
   rw [e2] at o2
   cases e3:kQ s.fail 0 8 with
   | false =>
    rw [e3] at o3
    rw [gH (by unfold cm;rw [aT,e1,aT,e2,aT,e3];simp)]
    refine af.body (fn:=Tryd.f14) rfl rfl rfl rfl ?_
    refine ah (mu:=fun t=>Nat.beq t 57) ?_
    repeat' (first |refine u1 ?_ |((with_reducible show ak _ _ _ _ _ _ _ _);refine af.call o1 rfl rfl ?_) |((with_reducible show ak _ _ _ _ _ _ _ _);refine af.call o2 rfl rfl ?_) |((with_reducible show ak _ _ _ _ _ _ _ _);refine af.call o3 rfl rfl ?_) |refine u2 ?_ |fail)
    exact ⟨[_,_,_],⟨Fz.deep rfl,Fz.deep rfl,Fz.deep rfl,trivial⟩,rfl⟩
   | true =>
    rw [e3] at o3
    cases e4:kQ s.row 1 8 with
    | false =>
     rw [e4] at o4
     rw [gH (by unfold cm;rw [aT,e1,aT,e2,aT,e3,aT,e4];simp)]
     refine af.body (fn:=Tryd.f14) rfl rfl rfl rfl ?_
     refine ah (mu:=fun t=>Nat.beq t 57) ?_
     repeat' (first |refine u1 ?_ |((with_reducible show ak _ _ _ _ _ _ _ _);refine af.call o1 rfl rfl ?_) |((with_reducible show ak _ _ _ _ _ _ _ _);refine af.call o2 rfl rfl ?_) |((with_reducible show ak _ _ _ _ _ _ _ _);refine af.call o3 rfl rfl ?_) |((with_reducible show ak _ _ _ _ _ _ _ _);refine af.call o4 rfl rfl ?_) |refine u2 ?_ |fail)
     exact ⟨[_,_,_],⟨Fz.deep rfl,Fz.deep rfl,Fz.deep rfl,trivial⟩,rfl⟩
    | true =>
     rw [e4] at o4
     have hb:cm s=false:=by unfold cm;rw [aT,aT,aT,aT,e1,e2,e3,e4];rfl
     cases e5:kQ (s.needs.length:Int) 1 3 with
     | false =>
      rw [yu hb (by rw [aT,e5];rfl)]
      rw [e5,←eg] at o5
      refine af.body (fn:=Tryd.f14) rfl rfl rfl rfl ?_
      refine ah (mu:=fun t=>Nat.beq t 57) ?_
      repeat' (first |refine u1 ?_ |((with_reducible show ak _ _ _ _ _ _ _ _);refine af.call o1 rfl rfl ?_) |((with_reducible show ak _ _ _ _ _ _ _ _);refine af.call o2 rfl rfl ?_) |((with_reducible show ak _ _ _ _ _ _ _ _);refine af.call o3 rfl rfl ?_) |((with_reducible show ak _ _ _ _ _ _ _ _);refine af.call o4 rfl rfl ?_) |((with_reducible show ak _ _ _ _ _ _ _ _);refine af.call o5 rfl rfl ?_) |refine u2 ?_ |fail)
      exact ⟨[_,_,_],⟨Fz.deep rfl,Fz.deep rfl,Fz.deep rfl,trivial⟩,rfl⟩
     | true =>
      rw [e5,←eg] at o5
      have hl:ei 1 3 [(s.needs.length:Int)]=false:=by rw [aT,e5];rfl
      have hn3:s.needs.length≤3:=by
       have:=bA hl
       omega
      refine af.body (fn:=Tryd.f14) rfl rfl rfl rfl ?_
      refine ah (mu:=fun t=>Nat.beq t 57) ?_
      repeat' (first |refine u1 ?_ |((with_reducible show ak _ _ _ _ _ _ _ _);refine af.call o1 rfl rfl ?_) |((with_reducible show ak _ _ _ _ _ _ _ _);refine af.call o2 rfl rfl ?_) |((with_reducible show ak _ _ _ _ _ _ _ _);refine af.call o3 rfl rfl ?_) |((with_reducible show ak _ _ _ _ _ _ _ _);refine af.call o4 rfl rfl ?_) |((with_reducible show ak _ _ _ _ _ _ _ _);refine af.call o5 rfl rfl ?_) |refine u2 ?_ |fail)
      refine aF.bf (ax.trans (ax.zR 1) (ax.KM (l:=[(1,.pt (az s) 0),(5,.cQ 0 (0,0,0).2.1 0 (0,0,0).1 (0,0,0).2.2),(6,aD ((0,0,0).1:Nat))]) (hp:=[.cells (eE (s.needs.take (0,0,0).1)) 1 (0,0,0).2.1]) 1 rfl ⟨fN.refl _,fN.zQ,fN.refl _,trivial⟩ (Nat.zero_le _) rfl (uL _ _))) ?_
      refine aF.loop (fun x:Nat × Nat × Nat=>x.1≤s.needs.length∧(∀ i,i < x.1→dW s i=0)∧(x.2.2=x.1∨x.2.2=x.1+1)) (fun x=>⟨bZ [(1,.pt (az s) 0),(5,.cQ 0 x.2.1 0 x.1 x.2.2),(6,aD (x.1:Nat))],[.cells (eE (s.needs.take x.1)) 1 x.2.1],cF.none,false,0⟩) (fun x=>s.needs.length - x.1) ?_ (0,0,0) ⟨Nat.zero_le _,(fun i hi=>absurd hi (Nat.not_lt_zero _)),.inl rfl⟩
      rintro ⟨k,ver,c⟩ ⟨hk,hprev,hcap⟩
      dsimp only at hk hprev hcap
      show aF _ _ _ _ ⟨bZ [(1,.pt (az s) 0),(5,.cQ 0 (k,ver,c).2.1 0 (k,ver,c).1 (k,ver,c).2.2),(6,aD ((k,ver,c).1:Nat))],[.cells (eE (s.needs.take (k,ver,c).1)) 1 (k,ver,c).2.1],cF.none,false,0⟩ _
      dsimp only
      refine ah (mu:=fun t=>Nat.beq t 57) ?_
      by_cases hlt:k < s.needs.length
      ·have d5:decide ((k:Int) < ((s.needs.map aG).length:Int))=true:=decide_eq_true (by omega)
       have hat:(s.needs.map aG)[((k:Nat):Int).toNat]?=some (aG s.needs[k]):=bq hlt
       have hga:dW s k=wj s.needs[k] (s.needs.take k):=by unfold dW;rw [List.getElem?_eq_getElem hlt];exact FU _ _
       have hfr:=FT one ((s.needs.take k).map (·.name)) false s.needs[k].name (h.names _ (List.getElem_mem hlt)) (by simp [maxLen];omega)
       have o6:=gP one s.needs[k].full 1 60
       have o7:=gP one s.needs[k].first 0 s.needs[k].full
       have o8:=gP one s.needs[k].weight 1 30
       have htl:(s.needs.take k).length=k:=by rw [List.length_take];omega
       have hnt:=yx hlt
       have hgl:(eE (s.needs.take k)).length=k:=by unfold eE;rw [List.length_map,htl]
       generalize s.needs[k]=g at *
       generalize hE:jP g.name ((s.needs.take k).map (·.name))=E at *
       have z00:decide ((0:Int)=0)=true:=by decide
       have z70:decide ((7:Int)=0)=false:=by decide
       have n00:(!decide ((0:Int)=0))=false:=by decide
       have n70:(!decide ((7:Int)=0))=true:=by decide
       unfold wj at hga
       rw [hE] at hga
       repeat' (first |((with_reducible show RM.wpOp _ _ (.call _) _ _ _);refine RM.IZ (cs:=eE (s.needs.take k)) (n:=k) (els:=[eS g.name]) rfl rfl rfl rfl rfl (fun el hel=>by rw [List.mem_singleton.1 hel];rfl) rfl rfl (by rw [hgl];exact (Nat.mul_one _).symm) hcap (by simp only [List.length_singleton];omega) (fun v' c' hc'=>?_)) |refine u1 ?_ |((with_reducible show RM.wpOp _ _ (.indexAddr _ _ _) _ _ _);refine ⟨aG g,⟨by omega,hat⟩,rfl,?_⟩) |((with_reducible show ak _ _ _ _ _ _ _ _);refine af.KN hfr rfl (wC.two (Fz.deep rfl) (B0 _ htl)) (fR.fl _) ?_) |refine u2 ?_ |fail)
       by_cases g1:E=0
       ·rw [if_neg (by omega)] at hga
        have d7:decide (E=0)=true:=decide_eq_true g1
        have d7':(!decide (E=0))=false:=by rw [d7];rfl
        have bad:(kQ g.full 1 60=false∨kQ g.first 0 g.full=false∨kQ g.weight 1 30=false)→kN s=(2,(k:Int),7):=fun hb2=>by
         rw [if_pos hb2] at hga
         exact zW hb hl hlt hprev hga (by decide)
        cases g2:kQ g.full 1 60 with
        | false =>
         rw [g2] at o6
         rw [bad (.inl g2)]
         repeat' (first |((with_reducible show ak _ _ _ _ _ _ _ _);refine af.call o6 rfl rfl ?_) |((with_reducible show ak _ _ _ _ _ _ _ _);refine af.call o7 rfl rfl ?_) |((with_reducible show ak _ _ _ _ _ _ _ _);refine af.call o8 rfl rfl ?_) |refine u1 ?_ |refine u2 ?_ |fail)
         exact ⟨[_,_,_],⟨Fz.deep rfl,Fz.deep rfl,Fz.deep rfl,trivial⟩,rfl⟩
        | true =>
         rw [g2] at o6
         cases g3:kQ g.first 0 g.full with
         | false =>
          rw [g3] at o7
          rw [bad (.inr (.inl g3))]
          repeat' (first |((with_reducible show ak _ _ _ _ _ _ _ _);refine af.call o6 rfl rfl ?_) |((with_reducible show ak _ _ _ _ _ _ _ _);refine af.call o7 rfl rfl ?_) |((with_reducible show ak _ _ _ _ _ _ _ _);refine af.call o8 rfl rfl ?_) |refine u1 ?_ |refine u2 ?_ |fail)
          exact ⟨[_,_,_],⟨Fz.deep rfl,Fz.deep rfl,Fz.deep rfl,trivial⟩,rfl⟩
         | true =>
          rw [g3] at o7
          cases g4:kQ g.weight 1 30 with
          | false =>
           rw [g4] at o8
           rw [bad (.inr (.inr g4))]
           repeat' (first |((with_reducible show ak _ _ _ _ _ _ _ _);refine af.call o6 rfl rfl ?_) |((with_reducible show ak _ _ _ _ _ _ _ _);refine af.call o7 rfl rfl ?_) |((with_reducible show ak _ _ _ _ _ _ _ _);refine af.call o8 rfl rfl ?_) |refine u1 ?_ |refine u2 ?_ |fail)
           exact ⟨[_,_,_],⟨Fz.deep rfl,Fz.deep rfl,Fz.deep rfl,trivial⟩,rfl⟩
          | true =>
           rw [g4] at o8
           rw [if_neg (by rw [g2,g3,g4];simp)] at hga
           repeat' (first |((with_reducible show ak _ _ _ _ _ _ _ _);refine af.call o6 rfl rfl ?_) |((with_reducible show ak _ _ _ _ _ _ _ _);refine af.call o7 rfl rfl ?_) |((with_reducible show ak _ _ _ _ _ _ _ _);refine af.call o8 rfl rfl ?_) |refine u1 ?_ |refine u2 ?_ |fail)
           refine ⟨(k+1,v',c'),⟨hlt,(fun i hi=>?_),hc'⟩,(by dsimp only;omega),?_⟩
           ·by_cases hik:i=k
            ·subst hik;exact hga
            ·exact hprev i (by dsimp only at hi;omega)
           ·exact ax.to 1 (by dsimp only;rw [hnt];rfl) ⟨rfl,rfl,bg (by simp),trivial⟩ (Nat.zero_le _) rfl (uL _ _)
       ·rw [if_pos g1] at hga
        rw [zW hb hl hlt hprev hga g1]
        have d7:decide (E=0)=false:=decide_eq_false g1
        have d7':(!decide (E=0))=true:=by rw [d7];rfl
        repeat' (first |((with_reducible show ak _ _ _ _ _ _ _ _);refine af.call o6 rfl rfl ?_) |((with_reducible show ak _ _ _ _ _ _ _ _);refine af.call o7 rfl rfl ?_) |((with_reducible show ak _ _ _ _ _ _ _ _);refine af.call o8 rfl rfl ?_) |refine u1 ?_ |refine u2 ?_ |fail)
        exact ⟨[_,_,_],⟨Fz.deep rfl,Fz.deep rfl,Fz.deep rfl,trivial⟩,rfl⟩
      ·have hkn:k=s.needs.length:=by omega
       have d5:decide ((k:Int) < ((s.needs.map aG).length:Int))=false:=decide_eq_false (by omega)
       subst hkn
       have ep:((ints s.possible).length:Int)=s.possible.length:=by simp
       have mp:s.possible.length≤9223372036854775807:=Nat.le_trans h.possible (by simp [maxLen])
       have hd:=hJ.1 e1
       by_cases h6:6 < s.possible.length
       ·have d2:decide (6 < ((ints s.possible).length:Int))=true:=decide_eq_true (by rw [ep];omega)
        rw [yw hb hl hprev h6]
        repeat' (first |refine u1 ?_ |refine u2 ?_ |fail)
        exact ⟨[_,_,_],⟨Fz.deep rfl,Fz.deep rfl,Fz.deep rfl,trivial⟩,rfl⟩
       ·have d2:decide (6 < ((ints s.possible).length:Int))=false:=decide_eq_false (by rw [ep];omega)
        repeat' (first |refine u1 ?_ |refine u2 ?_ |fail)
        refine aF.bf (ax.to (l:=[(1,.pt (az s) 0),(9,aD (0:Nat))]) (hp:=[]) 0 rfl ⟨rfl,rfl,trivial⟩ (Nat.zero_le _) rfl rfl) ?_
        refine aF.loop (fun q:Nat=>q≤s.possible.length∧∀ i,i < q→ej s.possible s.days 7 i=0) (fun q=>⟨bZ [(1,.pt (az s) 0),(9,aD (q:Nat))],[],cF.none,false,0⟩) (fun q=>s.possible.length - q) ?_ 0 ⟨Nat.zero_le _,fun i hi=>absurd hi (Nat.not_lt_zero _)⟩
        rintro q ⟨hq,hpp⟩
        refine ah (mu:=fun _=>false) ?_
        by_cases hqt:q < s.possible.length
        ·have d6:decide ((q:Int) < ((ints s.possible).length:Int))=true:=decide_eq_true (by omega)
         have hqa:(ints s.possible)[((q:Nat):Int).toNat]?=some (eI s.possible[q]):=bq hqt
         have o9:=gP true s.possible[q] 0 (s.days - 1)
         cases e9:kQ s.possible[q] 0 (s.days - 1) with
         | false =>
          rw [e9] at o9
          rw [nU hb hl hprev h6 hqt hpp (sC hqt e9) (by decide)]
          generalize s.possible[q]=g at *
          repeat' (first |(refine ⟨_,o9,?_⟩) |refine u1 ?_ |((with_reducible show RM.wpOp _ _ (.indexAddr _ _ _) _ _ _);refine ⟨eI g,⟨by omega,hqa⟩,rfl,?_⟩) |refine u2 ?_ |fail)
          exact ⟨[_,_,_],⟨Fz.deep rfl,Fz.deep rfl,Fz.deep rfl,trivial⟩,rfl⟩
         | true =>
          rw [e9] at o9
          cases q with
          | zero =>
           have hz:=ES (below:=7) hqt e9
           generalize s.possible[0]=g at *
           repeat' (first |(refine ⟨_,o9,?_⟩) |refine u1 ?_ |((with_reducible show RM.wpOp _ _ (.indexAddr _ _ _) _ _ _);refine ⟨eI g,⟨by omega,hqa⟩,rfl,?_⟩) |refine u2 ?_ |fail)
           refine ⟨1,⟨hqt,fun i hi=>?_⟩,(by dsimp only;omega),ax.to 0 rfl ⟨rfl,bg (by simp),trivial⟩ (Nat.zero_le _) rfl rfl⟩
           obtain rfl:i=0:=by omega
           exact hz
          | succ m =>
           have hs:=zX (below:=7) hqt e9
           have d0:decide ((0:Int) < ((m+1:Nat):Int))=true:=decide_eq_true (by omega)
           have hqb:(ints s.possible)[(((m+1:Nat):Int) - 1).toNat]?=some (eI s.possible[m]):=by
            rw [show (((m+1:Nat):Int) - 1)=((m:Nat):Int) by omega]
            exact bq (by omega)
           generalize s.possible[m+1]=g at *
           generalize s.possible[m]=g' at *
           by_cases hgg:g≤g'
           ·rw [if_pos hgg] at hs
            have dg:=decide_eq_true hgg
            rw [nU hb hl hprev h6 hqt hpp hs (by decide)]
            repeat' (first |(refine ⟨_,o9,?_⟩) |refine u1 ?_ |((with_reducible show RM.wpOp _ _ (.indexAddr _ _ _) _ _ _);refine ⟨eI g,⟨by omega,hqa⟩,rfl,?_⟩) |((with_reducible show RM.wpOp _ _ (.indexAddr _ _ _) _ _ _);refine ⟨eI g',⟨by omega,hqb⟩,rfl,?_⟩) |refine u2 ?_ |fail)
            exact ⟨[_,_,_],⟨Fz.deep rfl,Fz.deep rfl,Fz.deep rfl,trivial⟩,rfl⟩
           ·rw [if_neg hgg] at hs
            have dg:=decide_eq_false hgg
            repeat' (first |(refine ⟨_,o9,?_⟩) |refine u1 ?_ |((with_reducible show RM.wpOp _ _ (.indexAddr _ _ _) _ _ _);refine ⟨eI g,⟨by omega,hqa⟩,rfl,?_⟩) |((with_reducible show RM.wpOp _ _ (.indexAddr _ _ _) _ _ _);refine ⟨eI g',⟨by omega,hqb⟩,rfl,?_⟩) |refine u2 ?_ |fail)
            refine ⟨m+1+1,⟨hqt,fun i hi=>?_⟩,(by dsimp only;omega),ax.to 0 rfl ⟨rfl,bg (by simp),trivial⟩ (Nat.zero_le _) rfl rfl⟩
            by_cases hik:i=m+1
            ·subst hik;exact hs
            ·exact hpp i (by omega)
        ·have d6:decide ((q:Int) < ((ints s.possible).length:Int))=false:=decide_eq_false (by omega)
         rw [FX hb hl hprev h6 (fun i hi=>hpp i (by omega))]
         repeat' (first |refine u1 ?_ |refine u2 ?_ |fail)
         exact ⟨[_,_,_],⟨Fz.deep rfl,Fz.deep rfl,Fz.deep rfl,trivial⟩,rfl⟩
end Go.Proofs.YtpeogffeoehboaaDoor
open Go Go.RM
namespace Go.Proofs.YtpeogffeoehboaaDoor
set_option maxRecDepth 100000
set_option maxHeartbeats 4000000
theorem FY (one:Bool) {s:ay} (hg:Good s) (o:Order) (last:Int) (hc:o.aB.length≤maxLen):Pu one 47 [.ag (az s),.ag (av o),aD last] (aD (gI s o last)):=by
 have eg:((s.needs.map aG).length:Int)=s.needs.length:=by simp
 have ec:((ints o.aB).length:Int)=o.aB.length:=by simp
 have mc:o.aB.length≤9223372036854775807:=Nat.le_trans hc (by simp [maxLen])
 have hd:=hg.days
 have hl:=hg.len
 have o1:=fO one 0 (s.days - 1) o.day
 obtain ⟨A,hA⟩:∃ A,A=(cy o.aB.length (ej o.aB (s.needs.length:Int) 4)).1:=⟨_,rfl⟩
 have o2:Pu one 44 [.sl (ints o.aB) false,aD ((s.needs.map aG).length:Int),aD 4] (.tp [aD A,aD (fS o.aB s.needs.length)]):=by
  rw [eg,hA]
  exact EP one o.aB false (s.needs.length:Int) 4 hc (by omega) (by decide)
 unfold gI
 cases c1:ei 0 (s.days - 1) [o.day] with
 | true =>
  rw [c1] at o1
  rw [if_pos rfl]
  refine af.body (fn:=Tryd.f47) rfl rfl rfl rfl ?_
  refine ah (mu:=fun _=>false) ?_
  repeat' (first |refine u1 ?_ |((with_reducible show ak _ _ _ _ _ _ _ _);refine af.call o1 rfl rfl ?_) |refine u2 ?_ |fail)
  exact ⟨[_],⟨Fz.deep rfl,trivial⟩,rfl⟩
 | false =>
  rw [c1] at o1
  rw [if_neg (by simp)]
  by_cases c2:o.day≤last
  ·have d2:=decide_eq_true c2
   rw [if_pos c2]
   refine af.body (fn:=Tryd.f47) rfl rfl rfl rfl ?_
   refine ah (mu:=fun _=>false) ?_
   repeat' (first |refine u1 ?_ |((with_reducible show ak _ _ _ _ _ _ _ _);refine af.call o1 rfl rfl ?_) |refine u2 ?_ |fail)
   exact ⟨[_],⟨Fz.deep rfl,trivial⟩,rfl⟩
  ·have d2:=decide_eq_false c2
   rw [if_neg c2]
   by_cases c3:o.aB.length=0
   ·have d3:decide (((ints o.aB).length:Int)=0)=true:=decide_eq_true (by rw [ec];omega)
    rw [if_pos c3]
    refine af.body (fn:=Tryd.f47) rfl rfl rfl rfl ?_
    refine ah (mu:=fun _=>false) ?_
    repeat' (first |refine u1 ?_ |((with_reducible show ak _ _ _ _ _ _ _ _);refine af.call o1 rfl rfl ?_) |refine u2 ?_ |fail)
    exact ⟨[_],⟨Fz.deep rfl,trivial⟩,rfl⟩
   ·have d3:decide (((ints o.aB).length:Int)=0)=false:=decide_eq_false (by rw [ec];omega)
    rw [if_neg c3]
    by_cases c4:fS o.aB s.needs.length=0
    ·rw [if_neg (by omega)]
     rw [c4] at o2
     obtain ⟨q1,q2,_⟩:=lQ c4
     have hw:=EU true hg o.aB false q2 q1
     have d4:decide ((0:Int)=0)=true:=by decide
     by_cases c5:s.load < wE s o.aB
     ·have d5:=decide_eq_true c5
      rw [if_pos c5]
      refine af.body (fn:=Tryd.f47) rfl rfl rfl rfl ?_
      refine ah (mu:=fun _=>false) ?_
      repeat' (first |((with_reducible show ak _ _ _ _ _ _ _ _);refine af.call o1 rfl rfl ?_) |((with_reducible show ak _ _ _ _ _ _ _ _);refine af.call o2 rfl rfl ?_) |refine u1 ?_ |(refine ⟨_,_,.inl ⟨rfl,rfl⟩,hw,?_⟩) |refine u2 ?_ |fail)
      exact ⟨[_],⟨Fz.deep rfl,trivial⟩,rfl⟩
     ·have d5:=decide_eq_false c5
      rw [if_neg c5]
      refine af.body (fn:=Tryd.f47) rfl rfl rfl rfl ?_
      refine ah (mu:=fun _=>false) ?_
      repeat' (first |((with_reducible show ak _ _ _ _ _ _ _ _);refine af.call o1 rfl rfl ?_) |((with_reducible show ak _ _ _ _ _ _ _ _);refine af.call o2 rfl rfl ?_) |refine u1 ?_ |(refine ⟨_,_,.inl ⟨rfl,rfl⟩,hw,?_⟩) |refine u2 ?_ |fail)
      exact ⟨[_],⟨Fz.deep rfl,trivial⟩,rfl⟩
    ·rw [if_pos c4]
     have d4:decide (fS o.aB s.needs.length=0)=false:=decide_eq_false c4
     generalize fS o.aB s.needs.length=e at *
     refine af.body (fn:=Tryd.f47) rfl rfl rfl rfl ?_
     refine ah (mu:=fun _=>false) ?_
     repeat' (first |refine u1 ?_ |((with_reducible show ak _ _ _ _ _ _ _ _);refine af.call o1 rfl rfl ?_) |((with_reducible show ak _ _ _ _ _ _ _ _);refine af.call o2 rfl rfl ?_) |refine u2 ?_ |fail)
     exact ⟨[_],⟨Fz.deep rfl,trivial⟩,rfl⟩
structure B1 (p:List Order):Prop where
 len:p.length≤maxLen
 aB:∀ o ∈ p,o.aB.length≤maxLen
theorem sE {p:List Order} {k:Nat} (h:k < p.length):jq p (k+1)=p[k].day:=by
 unfold jq
 rw [if_neg (by omega),Nat.add_sub_cancel,List.getElem?_eq_getElem h]
theorem EV (one:Bool) (s:ay) (hs:s.Ok) (p:List Order) (full:Bool) (hp:B1 p):Pu one 15 [.ag (az s),.sl (p.map av) full] (.tp [aD (dD s p).1,aD (dD s p).2]):=by
 have ep:((p.map av).length:Int)=p.length:=by simp
 have mp:p.length≤9223372036854775807:=Nat.le_trans hp.len (by simp [maxLen])
 have o1:=A7 one s hs
 obtain ⟨n,hn⟩:∃ n:Int,n=p.length:=⟨_,rfl⟩
 unfold dD
 by_cases c1:(kN s).2.2=0
 ·rw [if_neg (by omega)]
  have hg:=zZ c1
  rw [yA c1] at o1
  unfold jr
  by_cases c2:8 < p.length
  ·have d2:decide (8 < ((p.map av).length:Int))=true:=decide_eq_true (by rw [ep];omega)
   rw [if_pos c2]
   refine af.body (fn:=Tryd.f15) rfl rfl rfl rfl ?_
   refine ah (mu:=fun _=>false) ?_
   repeat' (first |refine u1 ?_ |((with_reducible show ak _ _ _ _ _ _ _ _);refine af.call o1 rfl rfl ?_) |refine u2 ?_ |fail)
   exact ⟨[_,_],⟨Fz.deep rfl,Fz.deep rfl,trivial⟩,rfl⟩
  ·have d2:decide (8 < ((p.map av).length:Int))=false:=decide_eq_false (by rw [ep];omega)
   rw [if_neg c2]
   refine af.body (fn:=Tryd.f15) rfl rfl rfl rfl ?_
   refine ah (mu:=fun _=>false) ?_
   repeat' (first |refine u1 ?_ |((with_reducible show ak _ _ _ _ _ _ _ _);refine af.call o1 rfl rfl ?_) |refine u2 ?_ |fail)
   refine aF.bf (ax.to (l:=[(2,.pt (az s) 0),(6,aD (jq p 0)),(21,.sl (p.map av) full),(22,aD n),(23,aD (0:Nat))]) (hp:=[]) 0 rfl ⟨rfl,rfl,rfl,bg (by rw [hn];exact ep),rfl,trivial⟩ (Nat.zero_le _) rfl rfl) ?_
   refine aF.loop (fun k:Nat=>k≤p.length∧∀ i,i < k→fc s p i=0) (fun k=>⟨bZ [(2,.pt (az s) 0),(6,aD (jq p k)),(21,.sl (p.map av) full),(22,aD n),(23,aD (k:Nat))],[],cF.none,false,0⟩) (fun k=>p.length - k) ?_ 0 ⟨Nat.zero_le _,fun i hi=>absurd hi (Nat.not_lt_zero _)⟩
   rintro k ⟨hk,hprev⟩
   refine ah (mu:=fun _=>false) ?_
   by_cases hlt:k < p.length
   ·have d1:decide ((k:Int) < n)=true:=decide_eq_true (by omega)
    have hat:(p.map av)[((k:Nat):Int).toNat]?=some (av p[k]):=bq hlt
    have hA:fc s p k=gI s p[k] (jq p k):=by unfold fc;rw [List.getElem?_eq_getElem hlt]
    have ho:=FY one hg p[k] (jq p k) (hp.aB _ (List.getElem_mem hlt))
    have hs1:=sE hlt
    rw [←hA] at ho
    clear hA
    generalize p[k]=o at *
    generalize jq p k=last at *
    by_cases c3:fc s p k=0
    ·rw [c3] at ho
     repeat' (first |((with_reducible show ak _ _ _ _ _ _ _ _);refine af.call ho rfl rfl ?_) |refine u1 ?_ |((with_reducible show RM.wpOp _ _ (.indexAddr _ _ _) _ _ _);refine ⟨av o,⟨by omega,hat⟩,rfl,?_⟩) |refine u2 ?_ |fail)
     refine ⟨k+1,⟨hlt,fun i hi=>?_⟩,(by dsimp only;omega),ax.to 0 rfl ⟨rfl,bg hs1.symm,rfl,rfl,bg (by simp),trivial⟩ (Nat.zero_le _) rfl rfl⟩
     by_cases hik:i=k
     ·rw [hik];exact c3
     ·exact hprev i (by omega)
    ·rw [fB hlt hprev c3]
     generalize fc s p k=e at *
     have d3:(!decide (e=0))=true:=by rw [decide_eq_false c3];rfl
     repeat' (first |((with_reducible show ak _ _ _ _ _ _ _ _);refine af.call ho rfl rfl ?_) |refine u1 ?_ |((with_reducible show RM.wpOp _ _ (.indexAddr _ _ _) _ _ _);refine ⟨av o,⟨by omega,hat⟩,rfl,?_⟩) |refine u2 ?_ |fail)
     exact ⟨[_,_],⟨Fz.deep rfl,Fz.deep rfl,trivial⟩,rfl⟩
   ·have d1:decide ((k:Int) < n)=false:=decide_eq_false (by omega)
    rw [eD (fun i hi=>hprev i (by omega))]
    repeat' (first |refine u1 ?_ |refine u2 ?_ |fail)
    exact ⟨[_,_],⟨Fz.deep rfl,Fz.deep rfl,trivial⟩,rfl⟩
 ·rw [if_pos c1]
  generalize (kN s).1=a at *
  generalize (kN s).2.1=b at *
  generalize (kN s).2.2=e at *
  have d1:(!decide (e=0))=true:=by rw [decide_eq_false c1];rfl
  refine af.body (fn:=Tryd.f15) rfl rfl rfl rfl ?_
  refine ah (mu:=fun _=>false) ?_
  repeat' (first |refine u1 ?_ |((with_reducible show ak _ _ _ _ _ _ _ _);refine af.call o1 rfl rfl ?_) |refine u2 ?_ |fail)
  exact ⟨[_,_],⟨Fz.deep rfl,Fz.deep rfl,trivial⟩,rfl⟩
end Go.Proofs.YtpeogffeoehboaaDoor
open Go Go.RM
namespace Go.Proofs.YtpeogffeoehboaaDoor
set_option maxRecDepth 100000
abbrev A8:Sh:=.int .i64
abbrev EW:Sh:=.cons .str (.cons A8 (.cons A8 (.cons A8 .nil)))
abbrev ql:Sh:=.cons A8 (.cons (.slice A8) .nil)
abbrev sF:Sh:=.cons A8 (.cons (.slice EW) (.cons A8 (.cons A8 (.cons A8 (.cons (.slice A8) .nil)))))
abbrev sG:Sh:=.cons (.slice A8) (.cons A8 .nil)
theorem Fk {l:List AV} (h:TV A8 l):∃ n,(Lit.int .i64 n).wf=true∧l=eI n:=by
 cases h with
 | int h=>exact ⟨_,h,rfl⟩
theorem Lz {l:List AV} (h:TV .str l):∃ s:ByteArray,s.size≤maxLen∧l=[ST s]:=by
 cases h with
 | str h=>exact ⟨_,h,rfl⟩
theorem A9 {a b:Sh} {l:List AV} (h:TV (.cons a b) l):∃ x y,TV a x∧TV b y∧l=x++y:=by
 cases h with
 | cons h k=>exact ⟨_,_,h,k,rfl⟩
theorem KH {l:List AV} (h:TV .nil l):l=[]:=by cases h;rfl
theorem KW {s:Sh} {l:List AV} (h:TV (.slice s) l):∃ els,els.length≤maxLen∧(∀ el ∈ els,TV s el)∧l=[.sl els false]:=by
 cases h with
 | slice h k=>exact ⟨_,h,k,rfl⟩
theorem Ba {α:Type} {e:α→List AV} {P:α→Prop}:∀ {els:List (List AV)},(∀ el ∈ els,∃ x,P x∧el=e x)→∃ l:List α,(∀ x ∈ l,P x)∧els=l.map e
 | [],_=>⟨[],⟨List.forall_mem_nil _,rfl⟩⟩
 | el :: els,h=>by
  obtain ⟨x,hx,rfl⟩:=h el (by simp)
  obtain ⟨l,hl,rfl⟩:=Ba fun el hel=>h el (List.mem_cons_of_mem _ hel)
  exact ⟨x :: l,⟨List.forall_mem_cons.2 ⟨hx,hl⟩,rfl⟩⟩
theorem z6 {l:List AV} (h:TV (.slice A8) l):∃ c:List Int,c.length≤maxLen∧l=[.sl (ints c) false]:=by
 obtain ⟨a,ha,ha',rfl⟩:=KW h
 obtain ⟨a,_,rfl⟩:=Ba (e:=eI) (P:=fun _=>True) fun el hel=>by obtain ⟨n,_,h⟩:=Fk (ha' el hel);exact ⟨n,trivial,h⟩
 exact ⟨a,by simpa using ha,rfl⟩
theorem Jb {l:List AV} (h:TV EW l):∃ x:iT,x.name.data.toList.length≤maxLen∧l=aG x:=by
 obtain ⟨_,_,h1,k1,rfl⟩:=A9 h
 obtain ⟨_,_,h2,k2,rfl⟩:=A9 k1
 obtain ⟨_,_,h3,k3,rfl⟩:=A9 k2
 obtain ⟨_,_,h4,k4,rfl⟩:=A9 k3
 obtain rfl:=KH k4
 obtain ⟨a,ha,rfl⟩:=Lz h1
 obtain ⟨b,_,rfl⟩:=Fk h2
 obtain ⟨c,_,rfl⟩:=Fk h3
 obtain ⟨d,_,rfl⟩:=Fk h4
 exact ⟨⟨a,b,c,d⟩,by simpa using ha,rfl⟩
theorem FZ {l:List AV} (h:TV ql l):∃ o:Order,o.aB.length≤maxLen∧l=av o:=by
 obtain ⟨_,_,h1,k1,rfl⟩:=A9 h
 obtain ⟨_,_,h2,k2,rfl⟩:=A9 k1
 obtain rfl:=KH k2
 obtain ⟨a,_,rfl⟩:=Fk h1
 obtain ⟨c,hc,rfl⟩:=z6 h2
 exact ⟨⟨a,c⟩,hc,rfl⟩
theorem yE {l:List AV} (h:TV (.slice ql) l):∃ p:List Order,B1 p∧l=[.sl (p.map av) false]:=by
 obtain ⟨a,ha,ha',rfl⟩:=KW h
 obtain ⟨a,hc,rfl⟩:=Ba (e:=av) fun el hel=>FZ (ha' el hel)
 exact ⟨a,⟨by simpa using ha,hc⟩,rfl⟩
theorem yF {l:List AV} (h:TV sF l):∃ s:ay,s.Ok∧l=az s:=by
 obtain ⟨_,_,h1,k1,rfl⟩:=A9 h
 obtain ⟨_,_,h2,k2,rfl⟩:=A9 k1
 obtain ⟨_,_,h3,k3,rfl⟩:=A9 k2
 obtain ⟨_,_,h4,k4,rfl⟩:=A9 k3
 obtain ⟨_,_,h5,k5,rfl⟩:=A9 k4
 obtain ⟨_,_,h6,k6,rfl⟩:=A9 k5
 obtain rfl:=KH k6
 obtain ⟨a,_,rfl⟩:=Fk h1
 obtain ⟨b,hb,hb',rfl⟩:=KW h2
 obtain ⟨b,hn,rfl⟩:=Ba (e:=aG) fun el hel=>Jb (hb' el hel)
 obtain ⟨c,_,rfl⟩:=Fk h3
 obtain ⟨d,_,rfl⟩:=Fk h4
 obtain ⟨e,_,rfl⟩:=Fk h5
 obtain ⟨f,hf,rfl⟩:=z6 h6
 exact ⟨⟨a,b,c,d,e,f⟩,⟨by simpa using hb,hn,hf⟩,rfl⟩
theorem yG {l:List AV} (h:TV sG l):∃ (f:List Int) (day:Int),f.length≤maxLen∧l=[.sl (ints f) false,aD day]:=by
 obtain ⟨_,_,h1,k1,rfl⟩:=A9 h
 obtain ⟨_,_,h2,k2,rfl⟩:=A9 k1
 obtain rfl:=KH k2
 obtain ⟨f,hf,rfl⟩:=z6 h1
 obtain ⟨a,_,rfl⟩:=Fk h2
 exact ⟨f,a,hf,rfl⟩
theorem Ht:∀ e ∈ TB,ai TT e:=by
 intro e he
 unfold TB at he
 rcases List.mem_cons.1 he with rfl|he
 ·exact Km
 ·obtain ⟨k,hk,rfl⟩:=List.mem_map.1 he
  have:=List.mem_range.1 hk
  exact aU (by omega)
end Go.Proofs.YtpeogffeoehboaaDoor
