/-
  Contracts of the program's functions and of the document's. Lemmas alone; their conditions stand in them.
-/
import Derived.Test.YtpeogffeoehboaaGreatDoorX4
import Derived.Test.YtpeogffeoehboaaGreatDoorK3
open Go Go.RM
namespace Go.Proofs.YtpeogffeoehboaaGreatDoor
set_option maxRecDepth 100000
set_option maxHeartbeats 4000000
theorem sI {s:ai} (h:dA s=false) (h1:gB 1 3 [(s.needs.length:Int)]=false) (hprev:∀ i,i < s.needs.length→fQ s i=0) (h2:¬ 6 < s.possible.length) {k:Nat} {v:Int} (hk:k < s.possible.length) (hp:∀ i,i < k→gp s.possible s.days 7 i=0) (hv:gp s.possible s.days 7 k=v) (h0:v ≠ 0):l8 s=(3,(k:Int),v):=by rw [w7 h h1 hprev h2,oW hk hp (by rw [hv];exact h0),hv,if_pos h0]
theorem Nj {s:ai} (h:dA s=false) (h1:gB 1 3 [(s.needs.length:Int)]=false) (hprev:∀ i,i < s.needs.length→fQ s i=0) (h2:¬ 6 < s.possible.length) (hp:∀ i,i < s.possible.length→gp s.possible s.days 7 i=0):l8 s=(0,0,0):=by rw [w7 h h1 hprev h2,iq hp];rfl
theorem Lq (one:Bool) (s:ai) (h:s.Ok):Pu one 45 [.ag (ay s)] (.tp [aC (l8 s).1,aC (l8 s).2.1,aC (l8 s).2.2]):=by
 have eg:((s.needs.map aQ).length:Int)=s.needs.length:=by simp
 have o1:=nE one s.days 1 60;have o2:=nE one s.load 1 30;have o3:=nE one s.fail 0 8;have o4:=nE one s.row 1 8;have o5:=nE one ((s.needs.map aQ).length:Int) 1 3;rw [eg] at o5
 cases e1:qE s.days 1 60 with
 | false =>
  rw [e1] at o1;rw [jB (by unfold dA;rw [bY,e1];simp)];refine aj.body (fn:=Tryz.f45) rfl rfl rfl rfl ?_;refine aa (mu:=fun t=>Nat.beq t 57) ?_;repeat' first|refine u1 ?_|((with_reducible refine qq3 ?_);refine aj.call o1 rfl rfl ?_)|refine u2 ?_|fail
  exact ⟨[_,_,_],⟨Fz.deep rfl,Fz.deep rfl,Fz.deep rfl,trivial⟩,rfl⟩
 | true =>
  rw [e1] at o1
  cases e2:qE s.load 1 30 with
  | false =>
   rw [e2] at o2;rw [jB (by unfold dA;rw [bY,e1,bY,e2];simp)];refine aj.body (fn:=Tryz.f45) rfl rfl rfl rfl ?_;refine aa (mu:=fun t=>Nat.beq t 57) ?_;repeat' first|refine u1 ?_|((with_reducible refine qq3 ?_);refine aj.call o1 rfl rfl ?_)|((with_reducible refine qq3 ?_);refine aj.call o2 rfl rfl ?_)|refine u2 ?_|fail
   exact ⟨[_,_,_],⟨Fz.deep rfl,Fz.deep rfl,Fz.deep rfl,trivial⟩,rfl⟩
  | true =>
   rw [e2] at o2
   cases e3:qE s.fail 0 8 with
   | false =>
    rw [e3] at o3;rw [jB (by unfold dA;rw [bY,e1,bY,e2,bY,e3];simp)];refine aj.body (fn:=Tryz.f45) rfl rfl rfl rfl ?_;refine aa (mu:=fun t=>Nat.beq t 57) ?_;repeat' first|refine u1 ?_|((with_reducible refine qq3 ?_);refine aj.call o1 rfl rfl ?_)|((with_reducible refine qq3 ?_);refine aj.call o2 rfl rfl ?_)|((with_reducible refine qq3 ?_);refine aj.call o3 rfl rfl ?_)|refine u2 ?_|fail
    exact ⟨[_,_,_],⟨Fz.deep rfl,Fz.deep rfl,Fz.deep rfl,trivial⟩,rfl⟩
   | true =>
    rw [e3] at o3
    cases e4:qE s.row 1 8 with
    | false =>
     rw [e4] at o4;rw [jB (by unfold dA;rw [bY,e1,bY,e2,bY,e3,bY,e4];simp)];refine aj.body (fn:=Tryz.f45) rfl rfl rfl rfl ?_;refine aa (mu:=fun t=>Nat.beq t 57) ?_;repeat' first|refine u1 ?_|((with_reducible refine qq3 ?_);refine aj.call o1 rfl rfl ?_)|((with_reducible refine qq3 ?_);refine aj.call o2 rfl rfl ?_)|((with_reducible refine qq3 ?_);refine aj.call o3 rfl rfl ?_)|((with_reducible refine qq3 ?_);refine aj.call o4 rfl rfl ?_)|refine u2 ?_|fail
     exact ⟨[_,_,_],⟨Fz.deep rfl,Fz.deep rfl,Fz.deep rfl,trivial⟩,rfl⟩
    | true =>
     rw [e4] at o4;have hb:dA s=false:=by unfold dA;rw [bY,bY,bY,bY,e1,e2,e3,e4];rfl
     cases e5:qE (s.needs.length:Int) 1 3 with
     | false =>
      rw [C4 hb (by rw [bY,e5];rfl)];rw [e5,←eg] at o5;refine aj.body (fn:=Tryz.f45) rfl rfl rfl rfl ?_;refine aa (mu:=fun t=>Nat.beq t 57) ?_;repeat' first|refine u1 ?_|((with_reducible refine qq3 ?_);refine aj.call o1 rfl rfl ?_)|((with_reducible refine qq3 ?_);refine aj.call o2 rfl rfl ?_)|((with_reducible refine qq3 ?_);refine aj.call o3 rfl rfl ?_)|((with_reducible refine qq3 ?_);refine aj.call o4 rfl rfl ?_)|((with_reducible refine qq3 ?_);refine aj.call o5 rfl rfl ?_)|refine u2 ?_|fail
      exact ⟨[_,_,_],⟨Fz.deep rfl,Fz.deep rfl,Fz.deep rfl,trivial⟩,rfl⟩
     | true =>
      rw [e5,←eg] at o5;have hl:gB 1 3 [(s.needs.length:Int)]=false:=by rw [bY,e5];rfl
      have hn3:s.needs.length≤3:=by have:=cZ hl;omega
      refine aj.body (fn:=Tryz.f45) rfl rfl rfl rfl ?_;refine aa (mu:=fun t=>Nat.beq t 57) ?_;repeat' first|refine u1 ?_|((with_reducible refine qq3 ?_);refine aj.call o1 rfl rfl ?_)|((with_reducible refine qq3 ?_);refine aj.call o2 rfl rfl ?_)|((with_reducible refine qq3 ?_);refine aj.call o3 rfl rfl ?_)|((with_reducible refine qq3 ?_);refine aj.call o4 rfl rfl ?_)|((with_reducible refine qq3 ?_);refine aj.call o5 rfl rfl ?_)|refine u2 ?_|fail
      refine av.aJ (ah.trans (ah.jl 1) (ah.Gi (l:=[(1,.pt (ay s) 0),(5,.bg 0 (0,0,0).2.1 0 (0,0,0).1 (0,0,0).2.2),(6,aC ((0,0,0).1:Nat))]) (hp:=[.cells (gq (s.needs.take (0,0,0).1)) 1 (0,0,0).2.1]) 1 rfl ⟨aW.refl _,aW.jk,aW.refl _,trivial⟩ (qq5 _) rfl (zB _ _))) ?_;refine av.loop (fun x:Nat × Nat × Nat=>x.1≤s.needs.length∧(∀ i,i < x.1→fQ s i=0)∧(x.2.2=x.1∨x.2.2=x.1+1)) (fun x=>⟨aZ [(1,.pt (ay s) 0),(5,.bg 0 x.2.1 0 x.1 x.2.2),(6,aC (x.1:Nat))],[.cells (gq (s.needs.take x.1)) 1 x.2.1],bA.none,false,0⟩) (fun x=>s.needs.length - x.1) ?_ (0,0,0) ⟨qq5 _,(fun i hi=>absurd hi (Nat.not_lt_zero _)),.inl rfl⟩;rintro ⟨k,aA,c⟩ ⟨hk,hprev,hcap⟩;dsimp only at hk hprev hcap;show av _ _ _ _ ⟨aZ [(1,.pt (ay s) 0),(5,.bg 0 (k,aA,c).2.1 0 (k,aA,c).1 (k,aA,c).2.2),(6,aC ((k,aA,c).1:Nat))],[.cells (gq (s.needs.take (k,aA,c).1)) 1 (k,aA,c).2.1],bA.none,false,0⟩ _;dsimp only;refine aa (mu:=fun t=>Nat.beq t 57) ?_;by_cases hlt:k < s.needs.length
      ·have d5:decide ((k:Int) < ((s.needs.map aQ).length:Int))=true:=decide_eq_true (by omega);have hat:(s.needs.map aQ)[((k:Nat):Int).toNat]?=some (aQ s.needs[k]):=bp hlt;have hga:fQ s k=Bl s.needs[k] (s.needs.take k):=by unfold fQ;rw [List.getElem?_eq_getElem hlt];exact Ng _ _
       have hfr:=Nd one ((s.needs.take k).map (·.name)) false s.needs[k].name (h.names _ (List.getElem_mem hlt)) (by simp [maxLen];omega);have o6:=nE one s.needs[k].full 1 60;have o7:=nE one s.needs[k].first 0 s.needs[k].full
       have o8:=nE one s.needs[k].weight 1 30;have htl:(s.needs.take k).length=k:=by rw [List.length_take];omega
       have hnt:=C7 hlt;have hgl:(gq (s.needs.take k)).length=k:=by unfold gq;rw [List.length_map,htl]
       generalize s.needs[k]=g at *
       generalize hE:mI g.name ((s.needs.take k).map (·.name))=E at *
       have z00:decide ((0:Int)=0)=true:=by decide
       have z70:decide ((7:Int)=0)=false:=by decide
       have n00:(!decide ((0:Int)=0))=false:=by decide
       have n70:(!decide ((7:Int)=0))=true:=by decide
       unfold Bl at hga;rw [hE] at hga;repeat' first|((with_reducible show RM.wpOp _ _ (.call _) _ _ _);refine RM.l5 (cs:=gq (s.needs.take k)) (n:=k) (els:=[eS g.name]) rfl rfl rfl rfl rfl (fun el hel=>by rw [List.mem_singleton.1 hel];rfl) rfl rfl (by rw [hgl];exact (Nat.mul_one _).symm) hcap (by simp only [List.length_singleton];omega) (fun v' c' hc'=>?_))|refine u1 ?_|((with_reducible refine qq4 ?_);refine ⟨aQ g,⟨by omega,hat⟩,rfl,?_⟩)|((with_reducible refine qq3 ?_);refine aj.K9 hfr rfl (l7.two (Fz.deep rfl) (Hz _ htl)) (fA.fl _) ?_)|refine u2 ?_|fail
       by_cases g1:E=0
       ·rw [if_neg (by omega)] at hga;have d7:decide (E=0)=true:=decide_eq_true g1;have d7':(!decide (E=0))=false:=by rw [d7];rfl
        have bad:(qE g.full 1 60=false∨qE g.first 0 g.full=false∨qE g.weight 1 30=false)→l8 s=(2,(k:Int),7):=fun hb2=>by rw [if_pos hb2] at hga;exact EW hb hl hlt hprev hga (by decide)
        cases g2:qE g.full 1 60 with
        | false =>
         rw [g2] at o6;rw [bad (.inl g2)];repeat' first|((with_reducible refine qq3 ?_);refine aj.call o6 rfl rfl ?_)|((with_reducible refine qq3 ?_);refine aj.call o7 rfl rfl ?_)|((with_reducible refine qq3 ?_);refine aj.call o8 rfl rfl ?_)|refine u1 ?_|refine u2 ?_|fail
         exact ⟨[_,_,_],⟨Fz.deep rfl,Fz.deep rfl,Fz.deep rfl,trivial⟩,rfl⟩
        | true =>
         rw [g2] at o6
         cases g3:qE g.first 0 g.full with
         | false =>
          rw [g3] at o7;rw [bad (.inr (.inl g3))];repeat' first|((with_reducible refine qq3 ?_);refine aj.call o6 rfl rfl ?_)|((with_reducible refine qq3 ?_);refine aj.call o7 rfl rfl ?_)|((with_reducible refine qq3 ?_);refine aj.call o8 rfl rfl ?_)|refine u1 ?_|refine u2 ?_|fail
          exact ⟨[_,_,_],⟨Fz.deep rfl,Fz.deep rfl,Fz.deep rfl,trivial⟩,rfl⟩
         | true =>
          rw [g3] at o7
          cases g4:qE g.weight 1 30 with
          | false =>
           rw [g4] at o8;rw [bad (.inr (.inr g4))];repeat' first|((with_reducible refine qq3 ?_);refine aj.call o6 rfl rfl ?_)|((with_reducible refine qq3 ?_);refine aj.call o7 rfl rfl ?_)|((with_reducible refine qq3 ?_);refine aj.call o8 rfl rfl ?_)|refine u1 ?_|refine u2 ?_|fail
           exact ⟨[_,_,_],⟨Fz.deep rfl,Fz.deep rfl,Fz.deep rfl,trivial⟩,rfl⟩
          | true =>
           rw [g4] at o8;rw [if_neg (by rw [g2,g3,g4];simp)] at hga;repeat' first|((with_reducible refine qq3 ?_);refine aj.call o6 rfl rfl ?_)|((with_reducible refine qq3 ?_);refine aj.call o7 rfl rfl ?_)|((with_reducible refine qq3 ?_);refine aj.call o8 rfl rfl ?_)|refine u1 ?_|refine u2 ?_|fail
           refine ⟨(k+1,v',c'),⟨hlt,(fun i hi=>?_),hc'⟩,(by dsimp only;omega),?_⟩
           ·by_cases hik:i=k
            ·subst hik;exact hga
            ·exact hprev i (by dsimp only at hi;omega)
           ·exact ah.to 1 (by dsimp only;rw [hnt];rfl) ⟨rfl,rfl,bq (by simp),trivial⟩ (qq5 _) rfl (zB _ _)
       ·rw [if_pos g1] at hga;rw [EW hb hl hlt hprev hga g1];have d7:decide (E=0)=false:=decide_eq_false g1;have d7':(!decide (E=0))=true:=by rw [d7];rfl
        repeat' first|((with_reducible refine qq3 ?_);refine aj.call o6 rfl rfl ?_)|((with_reducible refine qq3 ?_);refine aj.call o7 rfl rfl ?_)|((with_reducible refine qq3 ?_);refine aj.call o8 rfl rfl ?_)|refine u1 ?_|refine u2 ?_|fail
        exact ⟨[_,_,_],⟨Fz.deep rfl,Fz.deep rfl,Fz.deep rfl,trivial⟩,rfl⟩
      ·have hkn:k=s.needs.length:=by omega
       have d5:decide ((k:Int) < ((s.needs.map aQ).length:Int))=false:=decide_eq_false (by omega);subst hkn;have ep:((ints s.possible).length:Int)=s.possible.length:=by simp
       have mp:s.possible.length≤9223372036854775807:=Nat.le_trans h.possible (by simp [maxLen]);have hd:=nD.1 e1;by_cases h6:6 < s.possible.length
       ·have d2:decide (6 < ((ints s.possible).length:Int))=true:=decide_eq_true (by rw [ep];omega);rw [C5 hb hl hprev h6];repeat' first|refine u1 ?_|refine u2 ?_|fail
        exact ⟨[_,_,_],⟨Fz.deep rfl,Fz.deep rfl,Fz.deep rfl,trivial⟩,rfl⟩
       ·have d2:decide (6 < ((ints s.possible).length:Int))=false:=decide_eq_false (by rw [ep];omega);repeat' first|refine u1 ?_|refine u2 ?_|fail
        refine av.aJ (ah.to (l:=[(1,.pt (ay s) 0),(9,aC (0:Nat))]) (hp:=[]) 0 rfl ⟨rfl,rfl,trivial⟩ (qq5 _) rfl rfl) ?_;refine av.loop (fun q:Nat=>q≤s.possible.length∧∀ i,i < q→gp s.possible s.days 7 i=0) (fun q=>⟨aZ [(1,.pt (ay s) 0),(9,aC (q:Nat))],[],bA.none,false,0⟩) (fun q=>s.possible.length - q) ?_ 0 ⟨qq5 _,fun i hi=>absurd hi (Nat.not_lt_zero _)⟩;rintro q ⟨hq,hpp⟩;refine qq1 ?_;by_cases hqt:q < s.possible.length
        ·have d6:decide ((q:Int) < ((ints s.possible).length:Int))=true:=decide_eq_true (by omega);have hqa:(ints s.possible)[((q:Nat):Int).toNat]?=some (eI s.possible[q]):=bp hqt;have o9:=nE true s.possible[q] 0 (s.days - 1)
         cases e9:qE s.possible[q] 0 (s.days - 1) with
         | false =>
          rw [e9] at o9;rw [sI hb hl hprev h6 hqt hpp (C6 hqt e9) (by decide)]
          generalize s.possible[q]=g at *
          repeat' first|(refine ⟨_,o9,?_⟩)|refine u1 ?_|((with_reducible refine qq4 ?_);refine ⟨eI g,⟨by omega,hqa⟩,rfl,?_⟩)|refine u2 ?_|fail
          exact ⟨[_,_,_],⟨Fz.deep rfl,Fz.deep rfl,Fz.deep rfl,trivial⟩,rfl⟩
         | true =>
          rw [e9] at o9
          cases q with
          | zero =>
           have hz:=QD (below:=7) hqt e9
           generalize s.possible[0]=g at *
           repeat' first|(refine ⟨_,o9,?_⟩)|refine u1 ?_|((with_reducible refine qq4 ?_);refine ⟨eI g,⟨by omega,hqa⟩,rfl,?_⟩)|refine u2 ?_|fail
           refine ⟨1,⟨hqt,fun i hi=>?_⟩,(by dsimp only;omega),ah.to 0 rfl ⟨rfl,bq (by simp),trivial⟩ (qq5 _) rfl rfl⟩;obtain rfl:i=0:=by omega
           exact hz
          | succ m =>
           have hs:=Lj (below:=7) hqt e9;have d0:decide ((0:Int) < ((m+1:Nat):Int))=true:=decide_eq_true (by omega);have hqb:(ints s.possible)[(((m+1:Nat):Int) - 1).toNat]?=some (eI s.possible[m]):=by rw [show (((m+1:Nat):Int) - 1)=((m:Nat):Int) by omega];exact bp (by omega)
           generalize s.possible[m+1]=g at *
           generalize s.possible[m]=g' at *
           by_cases hgg:g≤g'
           ·rw [if_pos hgg] at hs;have dg:=decide_eq_true hgg;rw [sI hb hl hprev h6 hqt hpp hs (by decide)];repeat' first|(refine ⟨_,o9,?_⟩)|refine u1 ?_|((with_reducible refine qq4 ?_);refine ⟨eI g,⟨by omega,hqa⟩,rfl,?_⟩)|((with_reducible refine qq4 ?_);refine ⟨eI g',⟨by omega,hqb⟩,rfl,?_⟩)|refine u2 ?_|fail
            exact ⟨[_,_,_],⟨Fz.deep rfl,Fz.deep rfl,Fz.deep rfl,trivial⟩,rfl⟩
           ·rw [if_neg hgg] at hs;have dg:=decide_eq_false hgg;repeat' first|(refine ⟨_,o9,?_⟩)|refine u1 ?_|((with_reducible refine qq4 ?_);refine ⟨eI g,⟨by omega,hqa⟩,rfl,?_⟩)|((with_reducible refine qq4 ?_);refine ⟨eI g',⟨by omega,hqb⟩,rfl,?_⟩)|refine u2 ?_|fail
            refine ⟨m+1+1,⟨hqt,fun i hi=>?_⟩,(by dsimp only;omega),ah.to 0 rfl ⟨rfl,bq (by simp),trivial⟩ (qq5 _) rfl rfl⟩;by_cases hik:i=m+1
            ·subst hik;exact hs
            ·exact hpp i (by omega)
        ·have d6:decide ((q:Int) < ((ints s.possible).length:Int))=false:=decide_eq_false (by omega);rw [Nj hb hl hprev h6 (fun i hi=>hpp i (by omega))];repeat' first|refine u1 ?_|refine u2 ?_|fail
         exact ⟨[_,_,_],⟨Fz.deep rfl,Fz.deep rfl,Fz.deep rfl,trivial⟩,rfl⟩
structure Uq (p:List Order):Prop where
 len:p.length≤maxLen
 bw:∀ o ∈ p,o.bw.length≤maxLen
abbrev MC:Sh:=.int .i64
abbrev Ls:Sh:=.cons .str (.cons MC (.cons MC (.cons MC .nil)))
abbrev De:Sh:=.cons MC (.cons (.slice Ls) (.cons MC (.cons MC (.cons MC (.cons (.slice MC) .nil)))))
theorem O6 {l:List AV} (h:TV MC l):∃ n,(Lit.int .i64 n).wf=true∧l=eI n:=by
 cases h with
 | int h=>exact ⟨_,h,rfl⟩
theorem Ul {l:List AV} (h:TV .str l):∃ s:ByteArray,s.size≤maxLen∧l=[ST s]:=by
 cases h with
 | str h=>exact ⟨_,h,rfl⟩
theorem MD {a b:Sh} {l:List AV} (h:TV (.cons a b) l):∃ x y,TV a x∧TV b y∧l=x++y:=by
 cases h with
 | cons h k=>exact ⟨_,_,h,k,rfl⟩
theorem TQ {l:List AV} (h:TV .nil l):l=[]:=by cases h;rfl
theorem TR {s:Sh} {l:List AV} (h:TV (.slice s) l):∃ els,els.length≤maxLen∧(∀ el ∈ els,TV s el)∧l=[.sl els false]:=by
 cases h with
 | slice h k=>exact ⟨_,h,k,rfl⟩
theorem Lt {α:Type} {e:α→List AV} {P:α→Prop}:∀ {els:List (List AV)},(∀ el ∈ els,∃ x,P x∧el=e x)→∃ l:List α,(∀ x ∈ l,P x)∧els=l.map e
 | [],_=>⟨[],⟨List.forall_mem_nil _,rfl⟩⟩
 | el :: els,h=>by obtain ⟨x,hx,rfl⟩:=h el (by simp);obtain ⟨l,hl,rfl⟩:=Lt fun el hel=>h el (List.mem_cons_of_mem _ hel);exact ⟨x :: l,⟨qq8 ⟨hx,hl⟩,rfl⟩⟩
theorem QF {l:List AV} (h:TV (.slice MC) l):∃ c:List Int,c.length≤maxLen∧l=[.sl (ints c) false]:=by
 obtain ⟨a,ha,ha',rfl⟩:=TR h;obtain ⟨a,_,rfl⟩:=Lt (e:=eI) (P:=fun _=>True) fun el hel=>by obtain ⟨n,_,h⟩:=O6 (ha' el hel);exact ⟨n,trivial,h⟩
 exact ⟨a,by simpa using ha,rfl⟩
theorem QG {l:List AV} (h:TV Ls l):∃ x:k8,x.name.data.toList.length≤maxLen∧l=aQ x:=by obtain ⟨_,_,h1,k1,rfl⟩:=MD h;obtain ⟨_,_,h2,k2,rfl⟩:=MD k1;obtain ⟨_,_,h3,k3,rfl⟩:=MD k2;obtain ⟨_,_,h4,k4,rfl⟩:=MD k3;obtain rfl:=TQ k4;obtain ⟨a,ha,rfl⟩:=Ul h1;obtain ⟨b,_,rfl⟩:=O6 h2;obtain ⟨c,_,rfl⟩:=O6 h3;obtain ⟨d,_,rfl⟩:=O6 h4;exact ⟨⟨a,b,c,d⟩,by simpa using ha,rfl⟩
theorem Lu {l:List AV} (h:TV De l):∃ s:ai,s.Ok∧l=ay s:=by obtain ⟨_,_,h1,k1,rfl⟩:=MD h;obtain ⟨_,_,h2,k2,rfl⟩:=MD k1;obtain ⟨_,_,h3,k3,rfl⟩:=MD k2;obtain ⟨_,_,h4,k4,rfl⟩:=MD k3;obtain ⟨_,_,h5,k5,rfl⟩:=MD k4;obtain ⟨_,_,h6,k6,rfl⟩:=MD k5;obtain rfl:=TQ k6;obtain ⟨a,_,rfl⟩:=O6 h1;obtain ⟨b,hb,hb',rfl⟩:=TR h2;obtain ⟨b,hn,rfl⟩:=Lt (e:=aQ) fun el hel=>QG (hb' el hel);obtain ⟨c,_,rfl⟩:=O6 h3;obtain ⟨d,_,rfl⟩:=O6 h4;obtain ⟨e,_,rfl⟩:=O6 h5;obtain ⟨f,hf,rfl⟩:=QF h6;exact ⟨⟨a,b,c,d,e,f⟩,⟨by simpa using hb,hn,hf⟩,rfl⟩
theorem SH:∀ e ∈ TB,ak TT e:=by
 intro e he;unfold TB at he
 rcases List.mem_cons.1 he with rfl|he
 ·exact SB
 ·obtain ⟨k,hk,rfl⟩:=List.mem_map.1 he;have:=List.mem_range.1 hk;exact bO (by omega)
abbrev kO (n:Nat):AV:=.fl (.int .u64 ((n:Nat):Int))
def dc (l:List Int):Nat:=l.foldl (fun f i=>f ||| 2 ^ i.toNat) 0
theorem xb:∀ (l:List Int) (a k:Nat),(l.foldl (fun f i=>f ||| 2 ^ i.toNat) a).testBit k=(a.testBit k || l.any fun i=>i.toNat == k)
 | [],a,k=>by simp
 | x :: l,a,k=>by
  rw [List.foldl_cons,xb l,Nat.testBit_or,Nat.testBit_two_pow,List.any_cons,Bool.or_assoc]
  congr 1
theorem kg {l:List Int} {n:Nat} (h:∀ x ∈ l,0≤x∧x < n) (k:Nat):(dc l).testBit k=hasB l (k:Int):=by
 unfold dc;rw [xb,Nat.zero_testBit,Bool.false_or,Bool.eq_iff_iff,fM,List.any_eq_true];constructor
 ·rintro ⟨x,hx,hk⟩;have:=h x hx;have e:x.toNat=k:=by simpa using hk
  rw [show (k:Int)=x by omega];exact hx
 ·intro hk;exact ⟨(k:Int),hk,by simp⟩
theorem LF {l:List Int} {n:Nat} (h:∀ x ∈ l,0≤x∧x < n):dc l < 2 ^ n:=by apply Nat.lt_pow_two_of_testBit;intro i hi;rw [kg h,←Bool.not_eq_true,fM];intro hm;have:=h _ hm;omega
theorem EZ (one:Bool) (a b:List Int) (f g:Bool) (_:a.length≤maxLen) (hb:b.length≤maxLen):Pu one 7 [.sl (a.map eI) f,.sl (b.map eI) g] (BB (decide (a=b))):=by
 have mb:b.length≤9223372036854775807:=Nat.le_trans hb (by simp [maxLen]);have ea:((a.map eI).length:Int)=a.length:=by simp
 have eb:((b.map eI).length:Int)=b.length:=by simp
 by_cases hl:a.length=b.length
 ·have d0:(!decide (((a.map eI).length:Int)=((b.map eI).length:Int)))=false:=by rw [decide_eq_true (by rw [ea,eb,hl])];rfl
  refine aj.body (fn:=Tryz.f7) rfl rfl rfl rfl ?_;refine qq1 ?_;repeat' first|refine u1 ?_|refine u2 ?_|fail
  refine av.aJ (ah.to (l:=[(0,.sl (a.map eI) f),(1,.sl (b.map eI) g),(5,aC (0:Nat))]) 0 rfl ⟨rfl,rfl,rfl,trivial⟩ (qq6 _) rfl rfl) ?_;refine av.loop (fun k:Nat=>k≤a.length∧∀ i (h:i < a.length),i < k→a[i]=b[i]) (fun k=>⟨aZ [(0,.sl (a.map eI) f),(1,.sl (b.map eI) g),(5,aC (k:Nat))],[],bA.none,false,0⟩) (fun k=>a.length - k) ?_ 0 ⟨qq5 _,fun i _ hi=>absurd hi (by omega)⟩;intro k ⟨hk,hprev⟩;refine qq1 ?_;by_cases hlt:k < a.length
  ·have d1:decide ((k:Int) < ((a.map eI).length:Int))=true:=decide_eq_true (by omega);have hltb:k < b.length:=by omega
   have hat:(a.map eI)[((k:Nat):Int).toNat]?=some (eI a[k]):=bp hlt;have hbt:(b.map eI)[((k:Nat):Int).toNat]?=some (eI b[k]):=bp hltb;by_cases hx:a[k]=b[k]
   ·have hn:∀ i (h:i < a.length),i < k+1→a[i]=b[i]:=fun i hi hik=>by
     by_cases e:i=k
     ·subst e;exact hx
     ·exact hprev i hi (by omega)
    have d2:(!decide (a[k]=b[k]))=false:=by rw [decide_eq_true hx];rfl
    generalize a[k]=x at *
    generalize b[k]=y at *
    repeat' first|refine u1 ?_|((with_reducible refine qq4 ?_);refine ⟨eI x,⟨by omega,hat⟩,rfl,?_⟩)|((with_reducible refine qq4 ?_);refine ⟨eI y,⟨by omega,hbt⟩,rfl,?_⟩)|refine u2 ?_|fail
    exact ⟨k+1,⟨hlt,hn⟩,(by dsimp only;omega),ah.to 0 rfl ⟨rfl,rfl,bq (by simp),trivial⟩ (qq6 _) rfl rfl⟩
   ·have hne:decide (a=b)=false:=by rw [decide_eq_false_iff_not];rintro rfl;exact hx rfl
    rw [hne];have d2:(!decide (a[k]=b[k]))=true:=by rw [decide_eq_false hx];rfl
    generalize a[k]=x at *
    generalize b[k]=y at *
    repeat' first|refine u1 ?_|((with_reducible refine qq4 ?_);refine ⟨eI x,⟨by omega,hat⟩,rfl,?_⟩)|((with_reducible refine qq4 ?_);refine ⟨eI y,⟨by omega,hbt⟩,rfl,?_⟩)|refine u2 ?_|fail
    exact ⟨[_],⟨Fz.deep rfl,trivial⟩,rfl⟩
  ·have d1:decide ((k:Int) < ((a.map eI).length:Int))=false:=decide_eq_false (by omega);have he:decide (a=b)=true:=decide_eq_true (List.ext_getElem hl fun i h1 _=>hprev i h1 (by omega));rw [he];repeat' first|refine u1 ?_|refine u2 ?_|fail
   exact ⟨[_],⟨Fz.deep rfl,trivial⟩,rfl⟩
 ·have d0:(!decide (((a.map eI).length:Int)=((b.map eI).length:Int)))=true:=by rw [decide_eq_false (by rw [ea,eb];omega)];rfl
  have hne:decide (a=b)=false:=by rw [decide_eq_false_iff_not];rintro rfl;exact hl rfl
  rw [hne];refine aj.body (fn:=Tryz.f7) rfl rfl rfl rfl ?_;refine qq1 ?_;repeat' first|refine u1 ?_|refine u2 ?_|fail
  exact ⟨[_],⟨Fz.deep rfl,trivial⟩,rfl⟩
end Go.Proofs.YtpeogffeoehboaaGreatDoor
namespace Go.TeLaw
def uL (R:Nat):Nat→Nat→Nat→List (List Bool)
 | 0,_,_=>[[]]
 | n+1,row,left=>(uL R n 0 left).map (false :: ·)++(if left=0∨R≤row then [] else (uL R n (row+1) (left - 1)).map (true :: ·))
def kP (R:Nat):Nat→List Bool→Bool
 | _,[]=>true
 | _,false :: l=>kP R 0 l
 | row,true :: l=>decide (row < R) && kP R (row+1) l
def cnt:List Bool→Nat
 | []=>0
 | false :: l=>cnt l
 | true :: l=>cnt l+1
theorem fO {R:Nat}:∀ {n row left:Nat} {b:List Bool},b ∈ uL R n row left ↔ (b.length=n∧cnt b≤left∧kP R row b=true)
 | 0,row,left,b=>by
  unfold uL;rw [List.mem_singleton];constructor
  ·rintro rfl;exact ⟨rfl,qq5 _,rfl⟩
  ·rintro ⟨h,_⟩;exact List.length_eq_zero_iff.1 h
 | n+1,row,left,b=>by
  unfold uL;rw [List.mem_append];constructor
  ·rintro (h|h)
   ·obtain ⟨c,hc,rfl⟩:=List.mem_map.1 h;obtain ⟨h1,h2,h3⟩:=fO.1 hc;exact ⟨by rw [List.length_cons,h1],h2,h3⟩
   ·split at h
    ·cases h
    ·rename_i hn;obtain ⟨c,hc,rfl⟩:=List.mem_map.1 h;obtain ⟨h1,h2,h3⟩:=fO.1 hc;refine ⟨by rw [List.length_cons,h1],by unfold cnt;omega,?_⟩;unfold kP;rw [h3,decide_eq_true (by omega)];rfl
  ·rintro ⟨h1,h2,h3⟩
   match b,h1 with
   | false :: c,h1 =>exact .inl (List.mem_map.2 ⟨c,fO.2 ⟨by simpa using h1,h2,h3⟩,rfl⟩)
   | true :: c,h1 =>unfold cnt at h2;unfold kP at h3;rw [qq7,decide_eq_true_eq] at h3;right;rw [if_neg (by omega)];exact List.mem_map.2 ⟨c,fO.2 ⟨by simpa using h1,by omega,h3.2⟩,rfl⟩
def sub:List Bool→List Bool→Bool
 | [],[]=>true
 | a :: l,b :: m=>(!a || b) && sub l m
 | _,_=>false
def HD (full first:Int) (br:Nat→Bool):Nat→Int
 | 0=>if br 0 then full else first
 | d+1=>if br (d+1) then full else max 0 (HD full first br d - 1)
theorem LG {full first:Int} (h:first≤full) (h0:0≤full) (br:Nat→Bool):∀ d,HD full first br d≤full
 | 0=>by unfold HD;split <;> omega
 | d+1=>by have:=LG h h0 br d;unfold HD;split <;> omega
theorem QI {full first:Int} (h:0≤first) (h0:0≤full) (br:Nat→Bool):∀ d,0≤HD full first br d
 | 0=>by unfold HD;split <;> omega
 | d+1=>by unfold HD;split <;> omega
theorem zD {full first:Int} {br br':Nat→Bool}:∀ d,(∀ i,i≤d→br i=br' i)→HD full first br d=HD full first br' d
 | 0,h=>by unfold HD;rw [h 0 (qq6 _)]
 | d+1,h=>by have ih:=zD (full:=full) (first:=first) d (fun i hi=>h i (by omega));unfold HD;rw [h _ (qq6 _),ih]
end Go.TeLaw
