/-
  Contracts of the program's functions and of the document's. Lemmas alone; their conditions stand in them.
-/
import Derived.Test.YtichbhmnhkegiaaGreatA3
import Derived.Test.YtichbhmnhkegiaaGreatK4
import Derived.Test.YtichbhmnhkegiaaGreatK10
open Go Go.RM Go.AirLaw
namespace Go.Proofs.YtichbhmnhkegiaaGreat
set_option maxRecDepth 100000
set_option maxHeartbeats 4000000
theorem lM {lo hi:Int} {s:Span}:aU lo hi s=7 ↔ aX lo hi [s.lo,s.hi]=true:=by
 unfold aU aX kN
 by_cases h1:lo≤s.lo <;> by_cases h2:s.lo≤hi <;> by_cases h3:lo≤s.hi <;> by_cases h4:s.hi≤hi <;> by_cases h5:s.hi < s.lo <;> simp [h1,h2,h3,h4,h5] <;> omega
theorem sO {lo hi:Int} {s:Span} (h:aX lo hi [s.lo,s.hi]=false):aU lo hi s=if s.hi < s.lo then 2 else 0:=by
 have h7:¬ aU lo hi s=7:=fun e=>by rw [lM,h] at e;cases e
 unfold aU at h7 ⊢
 split
 ·rename_i hc;rw [if_pos hc] at h7;exact absurd rfl h7
 ·rfl
theorem Ih {s:au} (h:kN (s.ak.length:Int) 1 4=false):jV s=(1,0,3):=by
 unfold jV
 rw [cQ,h];rfl
theorem yY {s:au} (h:kN (s.ak.length:Int) 1 4=true) (h7:aU 1 200 s.aN=7∨aU 1 300 s.clear=7):jV s=(1,0,7):=by
 unfold jV
 rw [cQ,h,if_neg (by simp),if_pos]
 rw [Bool.or_eq_true]
 rcases h7 with h7|h7
 ·exact .inl (lM.1 h7)
 ·exact .inr (lM.1 h7)
theorem Fe {s:au} (h:kN (s.ak.length:Int) 1 4=true) (h1:¬ aU 1 200 s.aN=7) (h2:¬ aU 1 300 s.clear=7) (h0:aU 1 200 s.aN ≠ 0∨aU 1 300 s.clear ≠ 0):jV s=(1,0,2):=by
 have o1:aX 1 200 [s.aN.lo,s.aN.hi]=false:=by cases e:aX 1 200 [s.aN.lo,s.aN.hi] with|false=>rfl|true=>exact absurd (lM.2 e) h1
 have o2:aX 1 300 [s.clear.lo,s.clear.hi]=false:=by cases e:aX 1 300 [s.clear.lo,s.clear.hi] with|false=>rfl|true=>exact absurd (lM.2 e) h2
 rw [sO o1,sO o2] at h0
 unfold jV
 rw [cQ,h,if_neg (by simp),o1,o2,if_neg (by simp),if_pos]
 rw [Bool.or_eq_true,decide_eq_true_eq,decide_eq_true_eq]
 rcases h0 with h0|h0
 ·left;apply Classical.byContradiction;intro hn;rw [if_neg hn] at h0;exact h0 rfl
 ·right;apply Classical.byContradiction;intro hn;rw [if_neg hn] at h0;exact h0 rfl
theorem yZ {s:au} (h:kN (s.ak.length:Int) 1 4=true) (h1:aU 1 200 s.aN=0) (h2:aU 1 300 s.clear=0):jV s=if (gI s.ak.length (cW s)).2=0 then (0,0,0) else (2,(gI s.ak.length (cW s)).1,(gI s.ak.length (cW s)).2):=by
 have o1:aX 1 200 [s.aN.lo,s.aN.hi]=false:=by cases e:aX 1 200 [s.aN.lo,s.aN.hi] with|false=>rfl|true=>rw [lM.2 e] at h1;cases h1
 have o2:aX 1 300 [s.clear.lo,s.clear.hi]=false:=by cases e:aX 1 300 [s.clear.lo,s.clear.hi] with|false=>rfl|true=>rw [lM.2 e] at h2;cases h2
 rw [sO o1] at h1
 rw [sO o2] at h2
 unfold jV
 rw [cQ,h,if_neg (by simp),o1,o2,if_neg (by simp),if_neg]
 rw [Bool.or_eq_true,decide_eq_true_eq,decide_eq_true_eq]
 rintro (h|h)
 ·rw [if_pos h] at h1;cases h1
 ·rw [if_pos h] at h2;cases h2
theorem AL {s:au} (h:kN (s.ak.length:Int) 1 4=true) (h1:aU 1 200 s.aN=0) (h2:aU 1 300 s.clear=0) {k:Nat} {v:Int} (hk:k < s.ak.length) (hprev:∀ i,i < k→cW s i=0) (hv:cW s k=v) (h0:v ≠ 0):jV s=(2,(k:Int),v):=by
 rw [yZ h h1 h2,uA hk hprev (by rw [hv];exact h0),hv,if_neg h0]
theorem JS {s:au} (h:kN (s.ak.length:Int) 1 4=true) (h1:aU 1 200 s.aN=0) (h2:aU 1 300 s.clear=0) (hprev:∀ i,i < s.ak.length→cW s i=0):jV s=(0,0,0):=by
 rw [yZ h h1 h2,uB hprev];rfl
def AM (g:eT) (before:List eT):Int :=
 if mI g.name (before.map (·.name)) ≠ 0 then mI g.name (before.map (·.name))
 else if kN g.fE 0 1000=false then 7
 else if aU 1 5000 g.cand ≠ 0 then aU 1 5000 g.cand
 else if g.cand.lo+40 < g.cand.hi then 2 else 0
theorem JT (g:eT) (before:List eT):fo g before=AM g before:=by
 unfold fo AM mI
 rw [List.any_map]
 have e1:(List.any before ((fun x=>Ba x g.name) ∘ fun x=>x.name))=before.any fun x=>Ba x.name g.name:=rfl
 rw [e1]
 cases jl g.name with
 | false=>simp
 | true =>
  cases (before.any fun x=>Ba x.name g.name) with
  | true=>simp
  | false =>
   simp only [Bool.true_eq_false,if_false,Bool.false_eq_true,ne_eq,not_true_eq_false]
   rw [cQ,cQ]
   cases e2:aX 1 5000 [g.cand.lo,g.cand.hi] with
   | true =>
    have h7:=lM.2 e2
    rw [h7]
    cases kN g.fE 0 1000 <;> simp
   | false =>
    rw [sO e2]
    cases kN g.fE 0 1000 with
    | false=>simp
    | true =>
     unfold kN
     by_cases h1:g.cand.hi < g.cand.lo
     ·simp [h1];try omega
     ·by_cases h2:g.cand.lo+40 < g.cand.hi
      ·simp [h1,h2]
      ·simp [h1,h2];try omega
def fO (l:List eT):List AV:=l.map fun x=>ST x.name
theorem CG {s:au} {k:Nat} (h:k < s.ak.length):fO (s.ak.take (k+1))=fO (s.ak.take k)++[ST s.ak[k].name]:=by
 unfold fO
 rw [List.take_add_one,List.getElem?_eq_getElem h,List.map_append]
 rfl
theorem wU (l:List eT):((l.map (·.name)).map eS).flatten=fO l:=by
 induction l with
 | nil=>rfl
 | cons a l ih =>
  simp only [List.map_cons,List.flatten_cons,ih]
  rfl
theorem CH (l:List eT):bP (fO l)=true:=by
 induction l with
 | nil=>rfl
 | cons a l ih=>exact ih
theorem D1 (n:Nat) (l:List eT):iM n (fO l)=true:=by
 induction l with
 | nil=>rfl
 | cons a l ih=>exact ih
theorem Gl {B:List AB} (l:List eT) {n v c:Nat} (h:l.length=n):Fz (.cells (fO l) 1 v :: B) (.bg 0 v 0 n c) (.sl ((l.map (·.name)).map eS) false) :=
 Fz.row (es:=1) rfl (by unfold fO;simp;omega) (by simp;omega) (fun el hel=>by obtain ⟨x,_,rfl⟩:=List.mem_map.1 hel;rfl) (by rw [wU,List.drop_zero,List.take_of_length_le (by unfold fO;simp;omega)]) (by rw [wU];exact CH _) (fun h=>Bool.noConfusion h)
theorem y3 (l:List eT) (v:Nat):([.cells (fO l) 1 v]:List AB).all (AB.cJ 1)=true:=by
 have h:AB.cJ 1 (.cells (fO l) 1 v)=true:=D1 1 l
 simp only [List.all_cons,List.all_nil,h,Bool.and_true]
theorem sP (one:Bool) (s:au) (h:s.Ok):Pu one 25 [.ag (ay s)] (.tp [ai (jV s).1,ai (jV s).2.1,ai (jV s).2.2]):=by
 have eg:((s.ak.map aL).length:Int)=s.ak.length:=by simp
 have ml:s.ak.length≤9223372036854775807:=Nat.le_trans h.len (by simp [maxLen])
 have o1:=jy one ((s.ak.map aL).length:Int) 1 4
 have o2:=At true s.aN 1 200
 have o3:=At true s.clear 1 300
 rw [eg] at o1
 cases e1:kN (s.ak.length:Int) 1 4 with
 | false =>
  rw [Ih e1]
  rw [e1,←eg] at o1
  refine af.body (fn:=Tryz.f25) rfl rfl rfl rfl ?_
  refine aa (mu:=fun t=>Nat.beq t 53) ?_
  repeat' (first |refine u1 ?_ |fail)
  exact ⟨[_,_,_],⟨Fz.deep rfl,Fz.deep rfl,Fz.deep rfl,trivial⟩,rfl⟩
 | true =>
  have l4:s.ak.length≤4:=by rw [fF] at e1;omega
  rw [e1,←eg] at o1
  by_cases q1:aU 1 200 s.aN=7
  ·rw [yY e1 (.inl q1)]
   rw [q1] at o2
   have d0:decide ((7:Int)=7)=true:=by decide
   refine af.body (fn:=Tryz.f25) rfl rfl rfl rfl ?_
   refine aa (mu:=fun t=>Nat.beq t 53) ?_
   repeat' (first |((with_reducible show aP _ _ _ _ _ _ _ _);refine af.call o1 rfl rfl ?_) |refine ⟨_,o2,?_⟩ |refine ⟨_,o3,?_⟩ |refine u1 ?_ |refine u2 ?_ |fail)
   exact ⟨[_,_,_],⟨Fz.deep rfl,Fz.deep rfl,Fz.deep rfl,trivial⟩,rfl⟩
  have d1:decide (aU 1 200 s.aN=7)=false:=decide_eq_false q1
  by_cases q2:aU 1 300 s.clear=7
  ·rw [yY e1 (.inr q2)]
   rw [q2] at o3
   have d0:decide ((7:Int)=7)=true:=by decide
   refine af.body (fn:=Tryz.f25) rfl rfl rfl rfl ?_
   refine aa (mu:=fun t=>Nat.beq t 53) ?_
   repeat' (first |((with_reducible show aP _ _ _ _ _ _ _ _);refine af.call o1 rfl rfl ?_) |refine ⟨_,o2,?_⟩ |refine ⟨_,o3,?_⟩ |refine u1 ?_ |refine u2 ?_ |fail)
   exact ⟨[_,_,_],⟨Fz.deep rfl,Fz.deep rfl,Fz.deep rfl,trivial⟩,rfl⟩
  have d2:decide (aU 1 300 s.clear=7)=false:=decide_eq_false q2
  by_cases q3:aU 1 200 s.aN=0
  ·rw [q3] at o2 d1
   by_cases q4:aU 1 300 s.clear=0
   ·rw [q4] at o3 d2
    refine af.body (fn:=Tryz.f25) rfl rfl rfl rfl ?_
    refine aa (mu:=fun t=>Nat.beq t 53) ?_
    repeat' (first |((with_reducible show aP _ _ _ _ _ _ _ _);refine af.call o1 rfl rfl ?_) |refine ⟨_,o2,?_⟩ |refine ⟨_,o3,?_⟩ |refine u1 ?_ |refine u2 ?_ |fail)
    refine ax.aK (ah.trans (ah.jw 1) (ah.GI (l:=[(1,.pt (ay s) 0),(7,.bg 0 (0,0,0).2.1 0 (0,0,0).1 (0,0,0).2.2),(8,ai ((0,0,0).1:Nat))]) (hp:=[.cells (fO (s.ak.take (0,0,0).1)) 1 (0,0,0).2.1]) 1 rfl ⟨bG.refl _,bG.jv,bG.refl _,trivial⟩ (Nat.zero_le _) rfl (y3 _ _))) ?_
    refine ax.loop (fun x:Nat × Nat × Nat=>x.1≤s.ak.length∧(∀ i,i < x.1→cW s i=0)∧(x.2.2=x.1∨x.2.2=x.1+1)) (fun x=>⟨aF [(1,.pt (ay s) 0),(7,.bg 0 x.2.1 0 x.1 x.2.2),(8,ai (x.1:Nat))],[.cells (fO (s.ak.take x.1)) 1 x.2.1],aV.none,false,0⟩) (fun x=>s.ak.length - x.1) ?_ (0,0,0) ⟨Nat.zero_le _,(fun i hi=>absurd hi (Nat.not_lt_zero _)),.inl rfl⟩
    rintro ⟨k,ver,c⟩ ⟨hk,hprev,hcap⟩
    dsimp only at hk hprev hcap
    show ax _ _ _ _ ⟨aF [(1,.pt (ay s) 0),(7,.bg 0 (k,ver,c).2.1 0 (k,ver,c).1 (k,ver,c).2.2),(8,ai ((k,ver,c).1:Nat))],[.cells (fO (s.ak.take (k,ver,c).1)) 1 (k,ver,c).2.1],aV.none,false,0⟩ _
    dsimp only
    refine aa (mu:=fun t=>Nat.beq t 53) ?_
    by_cases hlt:k < s.ak.length
    ·have d5:decide ((k:Int) < ((s.ak.map aL).length:Int))=true:=decide_eq_true (by omega)
     have hat:(s.ak.map aL)[((k:Nat):Int).toNat]?=some (aL s.ak[k]):=bO hlt
     have hga:cW s k=AM s.ak[k] (s.ak.take k):=by unfold cW;rw [List.getElem?_eq_getElem hlt];exact JT _ _
     have hfr:=JH one ((s.ak.take k).map (·.name)) false s.ak[k].name (h.names _ (List.getElem_mem hlt)) (by simp [maxLen];omega)
     have o5:=jy one s.ak[k].fE 0 1000
     have o6:=At one s.ak[k].cand 1 5000
     have htl:(s.ak.take k).length=k:=by rw [List.length_take];omega
     have hnt:=CG hlt
     have hgl:(fO (s.ak.take k)).length=k:=by unfold fO;rw [List.length_map,htl]
     generalize s.ak[k]=g at *
     generalize hE:mI g.name ((s.ak.take k).map (·.name))=E at *
     have z00:decide ((0:Int)=0)=true:=by decide
     have z70:decide ((7:Int)=0)=false:=by decide
     have z20:decide ((2:Int)=0)=false:=by decide
     have n00:(!decide ((0:Int)=0))=false:=by decide
     have n70:(!decide ((7:Int)=0))=true:=by decide
     have n20:(!decide ((2:Int)=0))=true:=by decide
     unfold AM at hga
     rw [hE] at hga
     repeat' (first |((with_reducible show RM.wpOp _ _ (.call _) _ _ _);refine RM.qJ (cs:=fO (s.ak.take k)) (n:=k) (els:=[eS g.name]) rfl rfl rfl rfl rfl (fun el hel=>by rw [List.mem_singleton.1 hel];rfl) rfl rfl (by rw [hgl];exact (Nat.mul_one _).symm) hcap (by simp only [List.length_singleton];omega) (fun v' c' hc'=>?_)) |refine u1 ?_ |((with_reducible show aP _ _ _ _ _ _ _ _);refine af.DM hfr rfl (s7.two (Fz.deep rfl) (Gl _ htl)) (dY.fl _) ?_) |fail)
     by_cases g1:E=0
     ·rw [if_neg (by omega)] at hga
      have d7:decide (E=0)=true:=decide_eq_true g1
      cases g2:kN g.fE 0 1000 with
      | false =>
       rw [g2] at o5 hga
       rw [if_pos rfl] at hga
       rw [AL e1 q3 q4 hlt hprev hga (by decide)]
       repeat' (first |((with_reducible show aP _ _ _ _ _ _ _ _);refine af.call o5 rfl rfl ?_) |refine u1 ?_ |fail)
       exact ⟨[_,_,_],⟨Fz.deep rfl,Fz.deep rfl,Fz.deep rfl,trivial⟩,rfl⟩
      | true =>
       rw [g2] at o5 hga
       rw [if_neg (by simp)] at hga
       by_cases g3:aU 1 5000 g.cand=0
       ·rw [if_neg (by omega)] at hga
        rw [g3] at o6
        have bc:1≤g.cand.lo∧g.cand.lo≤5000:=by
         unfold aU at g3
         cases b1:kN g.cand.lo 1 5000 with
         | true=>exact fF.1 b1
         | false=>rw [b1] at g3;simp at g3
        by_cases g4:g.cand.lo+40 < g.cand.hi
        ·have d8:decide (g.cand.lo+40 < g.cand.hi)=true:=decide_eq_true g4
         rw [if_pos g4] at hga
         rw [AL e1 q3 q4 hlt hprev hga (by decide)]
         repeat' (first |((with_reducible show aP _ _ _ _ _ _ _ _);first|refine af.call o5 rfl rfl ?_|refine af.call o6 rfl rfl ?_) |refine u1 ?_ |fail)
         exact ⟨[_,_,_],⟨Fz.deep rfl,Fz.deep rfl,Fz.deep rfl,trivial⟩,rfl⟩
        ·have d8:decide (g.cand.lo+40 < g.cand.hi)=false:=decide_eq_false g4
         rw [if_neg g4] at hga
         repeat' (first |((with_reducible show aP _ _ _ _ _ _ _ _);first|refine af.call o5 rfl rfl ?_|refine af.call o6 rfl rfl ?_) |refine u1 ?_ |fail)
         refine ⟨(k+1,v',c'),⟨hlt,(fun i hi=>?_),hc'⟩,(by dsimp only;omega),?_⟩
         ·by_cases hik:i=k
          ·subst hik;exact hga
          ·exact hprev i (by dsimp only at hi;omega)
         ·exact ah.to 1 (by dsimp only;rw [hnt];rfl) ⟨rfl,rfl,aR (by simp),trivial⟩ (Nat.zero_le _) rfl (y3 _ _)
       ·rw [if_pos g3] at hga
        rw [AL e1 q3 q4 hlt hprev hga g3]
        have d7:decide (aU 1 5000 g.cand=0)=false:=decide_eq_false g3
        have d7':(!decide (aU 1 5000 g.cand=0))=true:=by rw [d7];rfl
        repeat' (first |((with_reducible show aP _ _ _ _ _ _ _ _);first|refine af.call o5 rfl rfl ?_|refine af.call o6 rfl rfl ?_) |refine u1 ?_ |fail)
        exact ⟨[_,_,_],⟨Fz.deep rfl,Fz.deep rfl,Fz.deep rfl,trivial⟩,rfl⟩
     ·rw [if_pos g1] at hga
      rw [AL e1 q3 q4 hlt hprev hga g1]
      have d7:decide (E=0)=false:=decide_eq_false g1
      have d7':(!decide (E=0))=true:=by rw [d7];rfl
      repeat' (first |refine u1 ?_ |fail)
      exact ⟨[_,_,_],⟨Fz.deep rfl,Fz.deep rfl,Fz.deep rfl,trivial⟩,rfl⟩
    ·have hkn:k=s.ak.length:=by omega
     have d5:decide ((k:Int) < ((s.ak.map aL).length:Int))=false:=decide_eq_false (by omega)
     subst hkn
     rw [JS e1 q3 q4 hprev]
     repeat' (first |refine u1 ?_ |fail)
     exact ⟨[_,_,_],⟨Fz.deep rfl,Fz.deep rfl,Fz.deep rfl,trivial⟩,rfl⟩
   ·rw [Fe e1 q1 q2 (.inr q4)]
    have d4:(!decide (aU 1 300 s.clear=0))=true:=by rw [decide_eq_false q4];rfl
    refine af.body (fn:=Tryz.f25) rfl rfl rfl rfl ?_
    refine aa (mu:=fun t=>Nat.beq t 53) ?_
    repeat' (first |((with_reducible show aP _ _ _ _ _ _ _ _);refine af.call o1 rfl rfl ?_) |refine ⟨_,o2,?_⟩ |refine ⟨_,o3,?_⟩ |refine u1 ?_ |refine u2 ?_ |fail)
    exact ⟨[_,_,_],⟨Fz.deep rfl,Fz.deep rfl,Fz.deep rfl,trivial⟩,rfl⟩
  ·rw [Fe e1 q1 q2 (.inl q3)]
   have d3:(!decide (aU 1 200 s.aN=0))=true:=by rw [decide_eq_false q3];rfl
   refine af.body (fn:=Tryz.f25) rfl rfl rfl rfl ?_
   refine aa (mu:=fun t=>Nat.beq t 53) ?_
   repeat' (first |((with_reducible show aP _ _ _ _ _ _ _ _);refine af.call o1 rfl rfl ?_) |refine ⟨_,o2,?_⟩ |refine ⟨_,o3,?_⟩ |refine u1 ?_ |refine u2 ?_ |fail)
   exact ⟨[_,_,_],⟨Fz.deep rfl,Fz.deep rfl,Fz.deep rfl,trivial⟩,rfl⟩
end Go.Proofs.YtichbhmnhkegiaaGreat
open Go Go.RM Go.AirLaw
namespace Go.Proofs.YtichbhmnhkegiaaGreat
set_option maxRecDepth 100000
set_option maxHeartbeats 4000000
theorem Lg (one:Bool) (s:au) (h:s.Ok) (g m:Int):Pu one 22 [.ag (ay s),ai g,ai m] (.tp [ai (uW s g m).1,ai (uW s g m).2]):=by
 have hc:=sP one s h
 have eg:((s.ak.map aL).length:Int)=s.ak.length:=by simp
 have o1:=jy one g 0 ((s.ak.length:Int) - 1)
 have o2:=jy one m 0 1440
 have ml:s.ak.length≤9223372036854775807:=Nat.le_trans h.len (by simp [maxLen])
 rw [←eg] at o1
 unfold uW
 rw [←eg,cQ,cQ]
 by_cases e0:(jV s).2.2=0
 ·rw [if_neg (by omega)]
  have hf:=sI e0
  rw [e0] at hc
  cases e1:kN g 0 (((s.ak.map aL).length:Int) - 1) with
  | false =>
   rw [e1] at o1
   refine af.body (fn:=Tryz.f22) rfl rfl rfl rfl ?_
   refine aa (mu:=fun _=>false) ?_
   repeat' (first |refine u1 ?_ |fail)
   exact ⟨[_,_],⟨Fz.deep rfl,Fz.deep rfl,trivial⟩,rfl⟩
  | true =>
   rw [e1] at o1
   cases e2:kN m 0 1440 with
   | false =>
    rw [e2] at o2
    refine af.body (fn:=Tryz.f22) rfl rfl rfl rfl ?_
    refine aa (mu:=fun _=>false) ?_
    repeat' (first |refine u1 ?_ |fail)
    exact ⟨[_,_],⟨Fz.deep rfl,Fz.deep rfl,trivial⟩,rfl⟩
   | true =>
    rw [e2] at o2
    rw [fF] at e1 e2
    rw [eg] at e1
    obtain ⟨i,rfl⟩:∃ i:Nat,g=i:=⟨g.toNat,by omega⟩
    have hi:i < s.ak.length:=by omega
    have hat:(s.ak.map aL)[((i:Nat):Int).toNat]?=some (aL s.ak[i]):=bO hi
    have ho:=hf.fE _ (List.getElem_mem hi)
    have eo:(s.ak.map eT.fE).getD ((i:Int).toNat) 0=s.ak[i].fE:=by simp [List.getD,hi]
    simp only [Bool.not_true,Bool.false_eq_true,if_false]
    rw [eo]
    generalize s.ak[i]=gr at *
    have hb:=fZ (x:=gr.fE) (y:=m) (a:=1000) (b:=1440) (by omega) (by omega)
    have h0:0≤gr.fE * m:=Int.mul_nonneg ho.1 e2.1
    refine af.body (fn:=Tryz.f22) rfl rfl rfl rfl ?_
    refine aa (mu:=fun _=>false) ?_
    repeat' (first |refine u1 ?_ |fail)
    exact ⟨[_,_],⟨Fz.deep rfl,Fz.deep rfl,trivial⟩,rfl⟩
 ·rw [if_pos (by omega)]
  have d0:decide ((jV s).2.2=0)=false:=decide_eq_false e0
  have d1:(!decide ((jV s).2.2=0))=true:=by rw [decide_eq_false e0];rfl
  refine af.body (fn:=Tryz.f22) rfl rfl rfl rfl ?_
  refine aa (mu:=fun _=>false) ?_
  repeat' (first |refine u1 ?_ |fail)
  exact ⟨[_,_],⟨Fz.deep rfl,Fz.deep rfl,trivial⟩,rfl⟩
theorem AN (r:av):mL r=!fN r.pos 30000:=by
 unfold mL aX fN kN
 rw [Bool.eq_iff_iff]
 simp
theorem D2 (p:Pt):aX (-30000) 30000 [p.x,p.y]=!fN p 30000:=by
 unfold aX fN kN
 rw [Bool.eq_iff_iff]
 simp
theorem iu (one:Bool) (s:au) (h:s.Ok) (n:aA) (rs:List av) (f:Bool) (hr:rs.length≤maxLen) :
  Pu one 27 [.ag (ay s),.ag (aC n),.sl (rs.map aj) f] (.tp [ai (aD s n rs).1,ai (aD s n rs).2]):=by
 have hc:=sP one s h
 have eg:((s.ak.map aL).length:Int)=s.ak.length:=by simp
 have er:((rs.map aj).length:Int)=rs.length:=by simp
 have o1:=jy one n.bK 0 ((s.ak.length:Int) - 1)
 have o2:=sN one n.pos 30000 (by decide)
 have o3:=jy one n.dc 0 31
 have o4:=jy one n.bX 1 32
 have ml:s.ak.length≤9223372036854775807:=Nat.le_trans h.len (by simp [maxLen])
 have ml':rs.length≤9223372036854775807:=Nat.le_trans hr (by simp [maxLen])
 rw [←eg] at o1
 unfold aD
 rw [←eg,cQ,cQ,cQ,D2]
 by_cases e0:(jV s).2.2=0
 ·rw [if_neg (by omega)]
  rw [e0] at hc
  cases e1:kN n.bK 0 (((s.ak.map aL).length:Int) - 1) with
  | false =>
   rw [e1] at o1
   refine af.body (fn:=Tryz.f27) rfl rfl rfl rfl ?_
   refine aa (mu:=fun _=>false) ?_
   repeat' (first |refine u1 ?_ |fail)
   refine ax.aK (ah.to (l:=[(2,.sl (rs.map aj) f),(10,ai 4),(11,ai (0:Nat))]) (hp:=[]) 0 rfl ⟨rfl,rfl,rfl,trivial⟩ (Nat.zero_le _) rfl rfl) ?_
   refine ax.loop (fun _:Unit=>True) (fun _=>⟨aF [(2,.sl (rs.map aj) f),(10,ai 4),(11,ai (0:Nat))],[],aV.none,false,0⟩) (fun _=>0) ?_ () trivial
   intro _ _
   refine aa (mu:=fun _=>false) ?_
   by_cases hnil:((0:Nat):Int) < ((rs.map aj).length:Int)
   ·have dn:=decide_eq_true hnil
    repeat' (first |refine u1 ?_ |fail)
    exact ⟨[_,_],⟨Fz.deep rfl,Fz.deep rfl,trivial⟩,rfl⟩
   ·have dn:=decide_eq_false hnil
    repeat' (first |refine u1 ?_ |fail)
    exact ⟨[_,_],⟨Fz.deep rfl,Fz.deep rfl,trivial⟩,rfl⟩
  | true =>
   rw [e1] at o1
   cases e2:fN n.pos 30000 with
   | false =>
    rw [e2] at o2
    refine af.body (fn:=Tryz.f27) rfl rfl rfl rfl ?_
    refine aa (mu:=fun _=>false) ?_
    repeat' (first |refine u1 ?_ |fail)
    refine ax.aK (ah.to (l:=[(2,.sl (rs.map aj) f),(10,ai 7),(11,ai (0:Nat))]) (hp:=[]) 0 rfl ⟨rfl,rfl,rfl,trivial⟩ (Nat.zero_le _) rfl rfl) ?_
    refine ax.loop (fun _:Unit=>True) (fun _=>⟨aF [(2,.sl (rs.map aj) f),(10,ai 7),(11,ai (0:Nat))],[],aV.none,false,0⟩) (fun _=>0) ?_ () trivial
    intro _ _
    refine aa (mu:=fun _=>false) ?_
    by_cases hnil:((0:Nat):Int) < ((rs.map aj).length:Int)
    ·have dn:=decide_eq_true hnil
     repeat' (first |refine u1 ?_ |fail)
     exact ⟨[_,_],⟨Fz.deep rfl,Fz.deep rfl,trivial⟩,rfl⟩
    ·have dn:=decide_eq_false hnil
     repeat' (first |refine u1 ?_ |fail)
     exact ⟨[_,_],⟨Fz.deep rfl,Fz.deep rfl,trivial⟩,rfl⟩
   | true =>
    rw [e2] at o2
    cases e3:kN n.dc 0 31 with
    | false =>
     rw [e3] at o3
     refine af.body (fn:=Tryz.f27) rfl rfl rfl rfl ?_
     refine aa (mu:=fun _=>false) ?_
     repeat' (first |refine u1 ?_ |fail)
     refine ax.aK (ah.to (l:=[(2,.sl (rs.map aj) f),(10,ai 7),(11,ai (0:Nat))]) (hp:=[]) 0 rfl ⟨rfl,rfl,rfl,trivial⟩ (Nat.zero_le _) rfl rfl) ?_
     refine ax.loop (fun _:Unit=>True) (fun _=>⟨aF [(2,.sl (rs.map aj) f),(10,ai 7),(11,ai (0:Nat))],[],aV.none,false,0⟩) (fun _=>0) ?_ () trivial
     intro _ _
     refine aa (mu:=fun _=>false) ?_
     by_cases hnil:((0:Nat):Int) < ((rs.map aj).length:Int)
     ·have dn:=decide_eq_true hnil
      repeat' (first |refine u1 ?_ |fail)
      exact ⟨[_,_],⟨Fz.deep rfl,Fz.deep rfl,trivial⟩,rfl⟩
     ·have dn:=decide_eq_false hnil
      repeat' (first |refine u1 ?_ |fail)
      exact ⟨[_,_],⟨Fz.deep rfl,Fz.deep rfl,trivial⟩,rfl⟩
    | true =>
     rw [e3] at o3
     cases e4:kN n.bX 1 32 with
     | false =>
      rw [e4] at o4
      refine af.body (fn:=Tryz.f27) rfl rfl rfl rfl ?_
      refine aa (mu:=fun _=>false) ?_
      repeat' (first |refine u1 ?_ |fail)
      refine ax.aK (ah.to (l:=[(2,.sl (rs.map aj) f),(10,ai 7),(11,ai (0:Nat))]) (hp:=[]) 0 rfl ⟨rfl,rfl,rfl,trivial⟩ (Nat.zero_le _) rfl rfl) ?_
      refine ax.loop (fun _:Unit=>True) (fun _=>⟨aF [(2,.sl (rs.map aj) f),(10,ai 7),(11,ai (0:Nat))],[],aV.none,false,0⟩) (fun _=>0) ?_ () trivial
      intro _ _
      refine aa (mu:=fun _=>false) ?_
      by_cases hnil:((0:Nat):Int) < ((rs.map aj).length:Int)
      ·have dn:=decide_eq_true hnil
       repeat' (first |refine u1 ?_ |fail)
       exact ⟨[_,_],⟨Fz.deep rfl,Fz.deep rfl,trivial⟩,rfl⟩
      ·have dn:=decide_eq_false hnil
       repeat' (first |refine u1 ?_ |fail)
       exact ⟨[_,_],⟨Fz.deep rfl,Fz.deep rfl,trivial⟩,rfl⟩
     | true =>
      rw [e4] at o4
      by_cases e5:8 < rs.length
      ·have d5:decide ((8:Int) < ((rs.map aj).length:Int))=true:=decide_eq_true (by omega)
       rw [if_pos e5]
       refine af.body (fn:=Tryz.f27) rfl rfl rfl rfl ?_
       refine aa (mu:=fun _=>false) ?_
       repeat' (first |refine u1 ?_ |fail)
       refine ax.aK (ah.to (l:=[(2,.sl (rs.map aj) f),(10,ai 3),(11,ai (0:Nat))]) (hp:=[]) 0 rfl ⟨rfl,rfl,rfl,trivial⟩ (Nat.zero_le _) rfl rfl) ?_
       refine ax.loop (fun _:Unit=>True) (fun _=>⟨aF [(2,.sl (rs.map aj) f),(10,ai 3),(11,ai (0:Nat))],[],aV.none,false,0⟩) (fun _=>0) ?_ () trivial
       intro _ _
       refine aa (mu:=fun _=>false) ?_
       by_cases hnil:((0:Nat):Int) < ((rs.map aj).length:Int)
       ·have dn:=decide_eq_true hnil
        repeat' (first |refine u1 ?_ |fail)
        exact ⟨[_,_],⟨Fz.deep rfl,Fz.deep rfl,trivial⟩,rfl⟩
       ·have dn:=decide_eq_false hnil
        repeat' (first |refine u1 ?_ |fail)
        exact ⟨[_,_],⟨Fz.deep rfl,Fz.deep rfl,trivial⟩,rfl⟩
      ·have d5:decide ((8:Int) < ((rs.map aj).length:Int))=false:=decide_eq_false (by omega)
       rw [if_neg e5]
       simp only [Bool.not_true,Bool.or_false,Bool.false_eq_true,if_false]
       refine af.body (fn:=Tryz.f27) rfl rfl rfl rfl ?_
       refine aa (mu:=fun _=>false) ?_
       repeat' (first |refine u1 ?_ |fail)
       refine ax.aK (ah.to (l:=[(2,.sl (rs.map aj) f),(10,ai 0),(11,ai (0:Nat))]) (hp:=[]) 0 rfl ⟨rfl,rfl,rfl,trivial⟩ (Nat.zero_le _) rfl rfl) ?_
       refine ax.loop (fun k:Nat=>k≤rs.length∧∀ i (h:i < rs.length),i < k→mL rs[i]=false) (fun k=>⟨aF [(2,.sl (rs.map aj) f),(10,ai 0),(11,ai (k:Nat))],[],aV.none,false,0⟩) (fun k=>rs.length - k) ?_ 0 ⟨Nat.zero_le _,fun i _ hi=>absurd hi (by omega)⟩
       rintro k ⟨hk,hprev⟩
       refine aa (mu:=fun _=>false) ?_
       by_cases hlt:k < rs.length
       ·have d6:decide ((k:Int) < ((rs.map aj).length:Int))=true:=decide_eq_true (by omega)
        have hat:(rs.map aj)[((k:Nat):Int).toNat]?=some (aj rs[k]):=bO hlt
        have hfn:=AN rs[k]
        have hwi:=sN one rs[k].pos 30000 (by decide)
        cases e7:fN rs[k].pos 30000 with
        | false =>
         rw [e7] at hwi hfn
         have hid:=mE hlt hprev hfn
         rw [hid,if_pos (by omega)]
         repeat' (first |refine u1 ?_ |fail)
         exact ⟨[_,_],⟨Fz.deep rfl,Fz.deep rfl,trivial⟩,rfl⟩
        | true =>
         rw [e7] at hwi hfn
         repeat' (first |refine u1 ?_ |fail)
         refine ⟨k+1,⟨hlt,fun i hi hik=>?_⟩,(by dsimp only;omega),ah.to 0 rfl ⟨rfl,rfl,aR (by simp),trivial⟩ (Nat.zero_le _) rfl rfl⟩
         by_cases hik':i=k
         ·subst hik';exact hfn
         ·exact hprev i hi (by omega)
       ·have d6:decide ((k:Int) < ((rs.map aj).length:Int))=false:=decide_eq_false (by omega)
        have hid:=mF (p:=mL) (l:=rs) fun i hi=>hprev i hi (by omega)
        rw [hid,if_neg (by omega)]
        repeat' (first |refine u1 ?_ |fail)
        exact ⟨[_,_],⟨Fz.deep rfl,Fz.deep rfl,trivial⟩,rfl⟩
 ·rw [if_pos (by omega)]
  generalize (jV s).2.2=E at *
  have d0:decide (E=0)=false:=decide_eq_false e0
  refine af.body (fn:=Tryz.f27) rfl rfl rfl rfl ?_
  refine aa (mu:=fun _=>false) ?_
  repeat' (first |refine u1 ?_ |fail)
  refine ax.aK (ah.to (l:=[(2,.sl (rs.map aj) f),(10,ai E),(11,ai (0:Nat))]) (hp:=[]) 0 rfl ⟨rfl,rfl,rfl,trivial⟩ (Nat.zero_le _) rfl rfl) ?_
  refine ax.loop (fun _:Unit=>True) (fun _=>⟨aF [(2,.sl (rs.map aj) f),(10,ai E),(11,ai (0:Nat))],[],aV.none,false,0⟩) (fun _=>0) ?_ () trivial
  intro _ _
  refine aa (mu:=fun _=>false) ?_
  by_cases hnil:((0:Nat):Int) < ((rs.map aj).length:Int)
  ·have dn:=decide_eq_true hnil
   repeat' (first |refine u1 ?_ |fail)
   exact ⟨[_,_],⟨Fz.deep rfl,Fz.deep rfl,trivial⟩,rfl⟩
  ·have dn:=decide_eq_false hnil
   repeat' (first |refine u1 ?_ |fail)
   exact ⟨[_,_],⟨Fz.deep rfl,Fz.deep rfl,trivial⟩,rfl⟩
end Go.Proofs.YtichbhmnhkegiaaGreat
