/-
  Contracts of the program's functions and of the document's. Lemmas alone; their conditions stand in them.
-/
import Derived.Test.YtlpmfgmldmdggaaGreatK8
open Go Go.RM
namespace Go.Proofs.YtlpmfgmldmdggaaGreat
set_option maxRecDepth 100000
set_option maxHeartbeats 4000000
abbrev e8 (z:Nat):List AV:=[.fl (.int .u8 (z:Int))]
def Lh (x:List Nat) (t m:Nat):Nat:=x.getD (t % x.length) 0 / 2 ^ m % 2
def L8 (p:bE) (t:Nat):bE:=⟨((t+1:Nat):Int),p.days,p.aR⟩
def anyI (c:aL) (p:bE) (x:List Nat) (B:List (List Int)) (t:Nat):Nat→List Int
 | 0=>[]
 | m+1=>if Lh x t m=1∧Cd c (L8 p t) (B++[anyI c p x B t m++[(m:Int)]])=0 then anyI c p x B t m++[(m:Int)] else anyI c p x B t m
theorem wS (c:aL) (p:bE) (x:List Nat) (B:List (List Int)) (t:Nat):∀ m,(anyI c p x B t m).length≤m
 | 0=>qq6 _
 | m+1=>by
  have:=wS c p x B t m;unfold anyI;split
  ·rw [List.length_append];simp only [List.length_singleton];omega
  ·omega
def z5 (c:aL) (p:bE) (x:List Nat) (B:List (List Int)) (t:Nat):List Int:=if x.length=0 then [] else anyI c p x B t c.aD.length
def jB (c:aL) (p:bE) (x:List Nat):Nat→List (List Int)
 | 0=>[]
 | t+1=>jB c p x t++[z5 c p x (jB c p x t) t]
theorem wT (c:aL) (p:bE) (x:List Nat):∀ t,(jB c p x t).length=t
 | 0=>rfl
 | t+1=>by show (jB c p x t++[_]).length=_;rw [List.length_append,wT c p x t];rfl
theorem Hy (c:aL) (p:bE) (x:List Nat) (B:List (List Int)) (t:Nat):(z5 c p x B t).length≤c.aD.length:=by
 unfold z5;split
 ·exact qq5 _
 ·exact wS c p x B t _
theorem s9 (c:aL) (p:bE) (x:List Nat):∀ t,∀ l ∈ jB c p x t,l.length≤c.aD.length
 | 0,l,h=>by cases h
 | t+1,l,h=>by
  rcases List.mem_append.1 h with h|h
  ·exact s9 c p x t l h
  ·rw [List.mem_singleton.1 h];exact Hy c p x _ t
theorem Hz (k:Nat) (L:List (List Int)) (v:Nat):AB.ig k (.cells (dH L) 1 v)=true:=fG k (fun _=>rfl) _
theorem BV (L:List (List Int)) (v:Nat) (W:List Int) (w:Nat):([.cells (dH L) 1 v,.cells (ay W) 1 w]:List AB).all (AB.ig 2)=true:=by have h1:AB.ig 2 (.cells (ay W) 1 w)=true:=fG 2 (fun _=>rfl) _;simp only [List.all_cons,List.all_nil,Hz,h1,Bool.and_true]
theorem BW (j:Nat) {v cc n:Nat} {S:List Int} (h:S.length=n):Gv j v (ay S) (.aJ j v 0 n cc) (.sl (ints S) false) :=
 .row 1 (by rw [List.length_map];omega) (by rw [List.length_map];exact h) (fun el hel=>by obtain ⟨x,_,rfl⟩:=List.mem_map.1 hel;rfl) (by rw [eE,List.drop_zero,List.take_of_length_le (by rw [List.length_map];omega)]) (fun h=>Bool.noConfusion h)
theorem BX {α:Type} {f:α→AV} (j:Nat) (hf:∀ x,(f x).qp j=true):∀ l:List α,xL j (l.map f)=true
 | []=>rfl
 | x :: l=>by rw [List.map_cons];unfold xL;rw [hf x,BX j hf l];rfl
theorem D4 (L:List (List Int)) (v:Nat) (W:List Int) (w:Nat):sQ 1 0 [.cells (dH L) 1 v,.cells (ay W) 1 w]=true:=by have h1:AB.qp 1 (.cells (dH L) 1 v)=true:=BX 1 (fun _=>rfl) L;unfold sQ;rw [h1,Bool.or_true,Bool.true_and];rfl
theorem MP (one:Bool) (c:aL) (h:c.Ok) (hg:Good c) (p:bE) (hp:ob p) (x:List Nat) (fx:Bool) (hx:x.length≤maxLen):Pu one 49 [.ag (aI c),.ag (cV p),.sl (x.map e8) fx] (.sl ((jB c p x p.turns.toNat).map eL) false):=by
 have em:((c.aD.map aZ).length:Int)=c.aD.length:=by simp
 have ex:((x.map e8).length:Int)=x.length:=by simp
 have hm5:=hg.aD;simp only [maxLen] at hx;obtain ⟨tu,d,aw⟩:=p;obtain ⟨p1,p2,p3⟩:=hp;dsimp only at p1 p2 p3;obtain ⟨tn,htn⟩:∃ tn:Nat,tu=tn:=⟨tu.toNat,by omega⟩;subst htn;show Pu one 49 [.ag (aI c),.ag [af (tn:Nat),af d,af aw],.sl (x.map e8) fx] (.sl ((jB c (⟨(tn:Int),d,aw⟩:bE) x tn).map eL) false);have hTe:=fun t=>s9 c (⟨(tn:Int),d,aw⟩:bE) x t;have hTl:=fun t=>wT c (⟨(tn:Int),d,aw⟩:bE) x t;refine ak.body (fn:=Tryz.f49) rfl rfl rfl rfl ?_;refine aa (mu:=fun t=>Nat.beq t 30 || Nat.beq t 56 || Nat.beq t 69) ?_;repeat' first|refine u1 ?_|refine u2 ?_|fail
 refine aB.aO (ah.trans (ah.mZ 1) (ah.IL (l:=[(2,.sl (x.map e8) fx),(3,.pt (aI c) 0),(4,.pt [af (tn:Nat),af d,af aw] 0),(7,.aJ 0 0 0 0 0),(8,af (0:Nat))]) (hp:=[.cells (dH (jB c (⟨(tn:Int),d,aw⟩:bE) x 0)) 1 0]) 1 rfl ⟨dP.refl _,dP.refl _,dP.refl _,dP.mY,dP.refl _,trivial⟩ (qq5 _) rfl (iu _ _))) ?_;refine aB.loop (fun x:Nat × Nat × Nat=>x.1≤tn∧(x.2.2=x.1∨x.2.2=x.1+1)) (fun y=>⟨aM [(2,.sl (x.map e8) fx),(3,.pt (aI c) 0),(4,.pt [af (tn:Nat),af d,af aw] 0),(7,.aJ 0 y.2.1 0 y.1 y.2.2),(8,af (y.1:Nat))],[.cells (dH (jB c (⟨(tn:Int),d,aw⟩:bE) x y.1)) 1 y.2.1],bq.none,false,0⟩) (fun x=>tn - x.1) ?_ (0,0,0) ⟨qq5 _,.inl rfl⟩;rintro ⟨t,v,cc⟩ ⟨ht,hcap⟩;dsimp only at ht hcap;have hTn:jB c (⟨(tn:Int),d,aw⟩:bE) x (t+1)=jB c (⟨(tn:Int),d,aw⟩:bE) x t++[z5 c (⟨(tn:Int),d,aw⟩:bE) x (jB c (⟨(tn:Int),d,aw⟩:bE) x t) t]:=rfl;have hTeB:=hTe t;have hTlB:=hTl t;clear hTe hTl
 generalize hB:jB c (⟨(tn:Int),d,aw⟩:bE) x t=B at *
 show aB _ _ _ _ ⟨aM [(2,.sl (x.map e8) fx),(3,.pt (aI c) 0),(4,.pt [af (tn:Nat),af d,af aw] 0),(7,.aJ 0 v 0 t cc),(8,af (t:Nat))],[.cells (dH (B)) 1 v],bq.none,false,0⟩ _;have hgl:(dH B).length=t * 1:=by rw [List.length_map,hTlB];omega
 by_cases htt:t < tn
 ·have dl:decide ((t:Int) < (tn:Int))=true:=decide_eq_true (by omega);refine RM.i4 (mu:=fun t=>Nat.beq t 30 || Nat.beq t 56 || Nat.beq t 69) ?_;repeat' first|refine u1 ?_|refine u2 ?_|fail
  refine aB.seq ?_;refine aB.block ?_;refine RM.i4 (mu:=fun t=>Nat.beq t 30 || Nat.beq t 56 || Nat.beq t 69) ?_;repeat' first|refine u1 ?_|refine u2 ?_|fail
  refine aB.aO (ah.trans (ah.mZ 1) (ah.trans (ah.IL (l:=[(2,.sl (x.map e8) fx),(3,.pt (aI c) 0),(4,.pt [af (tn:Nat),af d,af aw] 0),(7,.aJ 0 v 0 t cc),(8,af (t:Nat)),(9,.aJ 1 0 0 0 0)]) (hp:=[.cells (dH (B)) 1 v,.cells (ay []) 1 0]) 2 rfl ⟨dP.refl _,dP.refl _,dP.refl _,dP.refl _,dP.refl _,dP.mY,trivial⟩ (qq5 _) rfl (BV _ _ _ _)) (ah.trans (ah.giveUp 1 (l:=[(2,.sl (x.map e8) fx),(3,.pt (aI c) 0),(4,.pt [af (tn:Nat),af d,af aw] 0),(7,.aJ 0 v 0 t cc),(8,af (t:Nat)),(9,.sl (ints []) false)]) (hp:=[.cells (dH (B)) 1 v,.gone]) rfl (qq5 _) rfl ⟨.same rfl,.same rfl,.same rfl,.same rfl,.same rfl,BW 1 rfl,trivial⟩ (D4 _ _ _ _) rfl) (ah.to (l:=[(2,.sl (x.map e8) fx),(3,.pt (aI c) 0),(4,.pt [af (tn:Nat),af d,af aw] 0),(7,.aJ 0 v 0 t cc),(8,af (t:Nat)),(9,.sl (ints []) false)]) (hp:=[.cells (dH (B)) 1 v]) 1 rfl ⟨rfl,rfl,rfl,rfl,rfl,rfl,trivial⟩ (qq5 _) rfl (iu _ _))))) ?_;refine aB.seq ?_;refine aa (mu:=fun t=>Nat.beq t 30 || Nat.beq t 56 || Nat.beq t 69) ?_;repeat' first|refine u1 ?_|refine u2 ?_|fail
  refine aB.aO (ah.to (l:=[(2,.sl (x.map e8) fx),(3,.pt (aI c) 0),(4,.pt [af (tn:Nat),af d,af aw] 0),(7,.aJ 0 v 0 t cc),(8,af (t:Nat)),(9,.sl (ints (anyI c (⟨(tn:Int),d,aw⟩:bE) x B t 0)) false),(10,af (0:Nat))]) (hp:=[.cells (dH (B)) 1 v]) 1 rfl ⟨rfl,rfl,rfl,rfl,rfl,rfl,rfl,trivial⟩ (qq5 _) rfl (iu _ _)) ?_;refine aB.loop (fun m:Nat=>m≤c.aD.length∧(x.length=0→m=0)) (fun m=>⟨aM [(2,.sl (x.map e8) fx),(3,.pt (aI c) 0),(4,.pt [af (tn:Nat),af d,af aw] 0),(7,.aJ 0 v 0 t cc),(8,af (t:Nat)),(9,.sl (ints (anyI c (⟨(tn:Int),d,aw⟩:bE) x B t m)) false),(10,af (m:Nat))],[.cells (dH (B)) 1 v],bq.none,false,0⟩) (fun m=>c.aD.length - m) ?_ 0 ⟨qq5 _,fun _=>rfl⟩;rintro m ⟨hm,hm0⟩
  have hR:m=c.aD.length∨x.length=0→anyI c (⟨(tn:Int),d,aw⟩:bE) x B t m=z5 c (⟨(tn:Int),d,aw⟩:bE) x B t:=fun hh=>by
   unfold z5;by_cases h0:x.length=0
   ·rw [if_pos h0,hm0 h0];rfl
   ·rw [if_neg h0,hh.resolve_right h0]
  have hll:=wS c (⟨(tn:Int),d,aw⟩:bE) x B t m;have hnx:anyI c (⟨(tn:Int),d,aw⟩:bE) x B t (m+1)=if Lh x t m=1∧Cd c (L8 (⟨(tn:Int),d,aw⟩:bE) t) (B++[anyI c (⟨(tn:Int),d,aw⟩:bE) x B t m++[(m:Int)]])=0 then anyI c (⟨(tn:Int),d,aw⟩:bE) x B t m++[(m:Int)] else anyI c (⟨(tn:Int),d,aw⟩:bE) x B t m:=rfl
  generalize hA1:anyI c (⟨(tn:Int),d,aw⟩:bE) x B t (m+1)=l1 at *
  generalize anyI c (⟨(tn:Int),d,aw⟩:bE) x B t m=l at *
  by_cases hgo:m < c.aD.length∧x.length ≠ 0
  ·obtain ⟨hlt,hx0⟩:=hgo;have hm8:m < 8:=by omega
   have d2:decide ((m:Int) < ((c.aD.map aZ).length:Int))=true:=decide_eq_true (by omega);have d3:decide ((0:Int) < ((x.map e8).length:Int))=true:=decide_eq_true (by omega);have hmod:t % x.length < x.length:=Nat.mod_lt _ (by omega);have hatx:(x.map e8)[(((t:Nat):Int) % ((x.map e8).length:Int)).toNat]?=some (e8 (x.getD (t % x.length) 0)):=by rw [ex,show (((t:Nat):Int) % (x.length:Int)).toNat=t % x.length by omega,List.getElem?_map,List.getD_eq_getElem?_getD,List.getElem?_eq_getElem hmod];rfl
   have hbx:Lh x t m=x.getD (t % x.length) 0 / 2 ^ m % 2:=rfl
   generalize x.getD (t % x.length) 0=z at *
   have hl1:(ints l).flatten.all AV.one=true:=by rw [eE,List.all_map,List.all_eq_true];intro y _;rfl
   have eil:(ints l).length=l.length:=List.length_map _;have hq1:(([]:List AV)++(ints l).flatten).length=(0+(ints l).length) * 1:=by rw [List.nil_append,eE,List.length_map,List.length_map];omega
   refine RM.i4 (mu:=fun t=>Nat.beq t 30 || Nat.beq t 56 || Nat.beq t 69) ?_;repeat' first|refine u1 ?_|refine u2 ?_|fail
   refine aB.seq ?_;refine aB.block ?_;refine RM.i4 (mu:=fun t=>Nat.beq t 30 || Nat.beq t 56 || Nat.beq t 69) ?_;repeat' first|refine u1 ?_|((with_reducible show RM.wpOp _ _ (.call _) _ _ _);refine RM.sR (cs:=[]) (n:=0) (c:=0) (els:=ints l) rfl rfl rfl rfl rfl (G0 l) hl1 rfl rfl (.inl rfl) (by exact ⟨by show (0+(ints l).length) * 8≤_;omega,by omega⟩) (fun v1 c1 hc1=>?_))|((with_reducible show RM.wpOp _ _ (.call _) _ _ _);refine RM.sR (cs:=[]++(ints l).flatten) (n:=0+(ints l).length) (els:=[[af (m:Nat)]]) rfl rfl rfl rfl rfl (fun el hel=>by rw [List.mem_singleton.1 hel];rfl) rfl rfl hq1 hc1 (by simp only [List.length_singleton];exact ⟨by show (0+(ints l).length+1) * 8≤_;omega,by omega⟩) (fun v9 c9 hc9=>?_))|refine u2 ?_|fail
   refine aB.aO (ah.trans (ah.to (l:=[(2,.sl (x.map e8) fx),(3,.pt (aI c) 0),(4,.pt [af (tn:Nat),af d,af aw] 0),(7,.aJ 0 v 0 t cc),(8,af (t:Nat)),(9,.sl (ints (l)) false),(10,af (m:Nat)),(11,.aJ 1 v9 0 (0+(ints l).length+1) c9)]) (hp:=[.cells (dH (B)) 1 v,.cells (ay (l++[(m:Int)])) 1 v9]) 2 (by rw [eE,List.nil_append];show _=[AB.cells (dH B) 1 v,AB.cells (ay (l++[(m:Int)])) 1 v9];unfold ay;rw [List.map_append];rfl) ⟨rfl,rfl,rfl,rfl,rfl,rfl,rfl,rfl,trivial⟩ (qq5 _) rfl (BV _ _ _ _)) (ah.trans (ah.giveUp 1 (l:=[(2,.sl (x.map e8) fx),(3,.pt (aI c) 0),(4,.pt [af (tn:Nat),af d,af aw] 0),(7,.aJ 0 v 0 t cc),(8,af (t:Nat)),(9,.sl (ints (l)) false),(10,af (m:Nat)),(11,.sl (ints (l++[(m:Int)])) false)]) (hp:=[.cells (dH (B)) 1 v,.gone]) rfl (qq5 _) (yA _) ⟨.same rfl,.same rfl,.same rfl,.same rfl,.same rfl,.same rfl,.same rfl,BW 1 (by rw [List.length_append,eil];simp),trivial⟩ (D4 _ _ _ _) rfl) (ah.to (l:=[(2,.sl (x.map e8) fx),(3,.pt (aI c) 0),(4,.pt [af (tn:Nat),af d,af aw] 0),(7,.aJ 0 v 0 t cc),(8,af (t:Nat)),(9,.sl (ints (l)) false),(10,af (m:Nat)),(11,.sl (ints (l++[(m:Int)])) false)]) (hp:=[.cells (dH (B)) 1 v]) 1 rfl ⟨rfl,rfl,rfl,rfl,rfl,rfl,rfl,rfl,trivial⟩ (qq5 _) rfl (iu _ _)))) ?_;clear hc9;by_cases hbit:z / 2 ^ m % 2=1
   ·have d4:decide (((z / 2 ^ m % 2:Nat):Int)=1)=true:=decide_eq_true (by omega)
    have ots:=Jl true c h (L8 (⟨(tn:Int),d,aw⟩:bE) t) (B++[l++[(m:Int)]]) false ⟨by rw [List.length_append,hTlB];simp only [maxLen,List.length_singleton];omega,fun y hy=>by
     rcases List.mem_append.1 hy with hy|hy
     ·have:=hTeB y hy;simp only [maxLen];omega
     ·rw [List.mem_singleton.1 hy,List.length_append];simp only [maxLen,List.length_singleton]
      omega⟩
    change Pu true 46 [.ag (aI c),.ag [af ((t+1:Nat):Int),af d,af aw],.sl ((B++[l++[(m:Int)]]).map eL) false] _ at ots;rw [show ((t+1:Nat):Int)=(t:Int)+1 by omega] at ots;have ri:=Nt B (l++[(m:Int)]);have hels:tU [AB.cells (dH B) 1 v,AB.cells [] 1 0] 1 (.aJ 0 v 0 t cc) (B.map eL):=⟨uQ B,dH B,1,rfl,by rw [List.length_map,hTlB];omega,by rw [List.length_map];exact hTlB,by rw [gk,List.drop_zero,List.take_of_length_le (by rw [List.length_map,hTlB];omega)]⟩;have hone:(B.map eL).flatten.all AV.one=true:=by rw [gk];exact Jh B
    have hr1:(([]:List AV)++(B.map eL).flatten).length=(0+(B.map eL).length) * 1:=by rw [List.nil_append,gk,List.length_map,List.length_map];omega
    have hr2:(0+(B.map eL).length+([eL (l++[(m:Int)])]:List (List AV)).length) * 24≤140737488355328∧0+(B.map eL).length+([eL (l++[(m:Int)])]:List (List AV)).length≤9223372036854775807:=by rw [List.length_map,hTlB];simp only [List.length_singleton];omega
    have hBl:(B.map eL).length=t:=by rw [List.length_map];exact hTlB
    by_cases he:Cd c (L8 (⟨(tn:Int),d,aw⟩:bE) t) (B++[l++[(m:Int)]])=0
    ·rw [if_pos ⟨by rw [hbx];exact hbit,he⟩] at hnx;rw [he] at ots;have d5:decide ((0:Int)=0)=true:=rfl;refine aa (mu:=fun t=>Nat.beq t 30 || Nat.beq t 56 || Nat.beq t 69) ?_;repeat' first|(refine RM.MO (cs:=[]) (n:=0) (c:=0) (els:=B.map eL) rfl rfl rfl rfl rfl hels hone rfl rfl (.inl rfl) (by exact ⟨by show (0+(B.map eL).length) * 24≤_;omega,by omega⟩) (fun v1 c1 hc1=>?_))|((with_reducible show RM.wpOp _ _ (.call _) _ _ _);refine RM.sR (cs:=[]++(B.map eL).flatten) (n:=0+(B.map eL).length) (els:=[eL (l++[(m:Int)])]) rfl rfl rfl rfl rfl (fun el hel=>by rw [List.mem_singleton.1 hel];rfl) rfl rfl hr1 hc1 hr2 (fun v9 c9 hc9=>?_))|(refine RM.n2 ots rfl rfl rfl (zG.three (Fz.deep rfl) (Fz.deep rfl) (Fz.row (es:=1) rfl ri.2.1 ri.2.2.1 ri.2.2.2.1 ri.2.2.2.2 (by rw [gk];exact oc _) (fun h=>Bool.noConfusion h))) (mV.fl _) ?_)|refine u1 ?_|(refine ⟨e8 z,⟨by omega,hatx⟩,rfl,?_⟩)|((with_reducible show aU _ _ _ _ _ _ _ _ _);refine RM.GH (m:=z) (j:=m) rfl rfl hm8 ?_)|((with_reducible show aU _ _ _ _ _ _ _ _ _);refine RM.GI (m:=z / 2 ^ m) rfl rfl ?_)|(refine RM.GJ (m:=z / 2 ^ m % 2) (n:=1) rfl rfl ?_)|refine u2 ?_|fail
     refine aa (mu:=fun t=>Nat.beq t 30 || Nat.beq t 56 || Nat.beq t 69) ?_;repeat' first|refine u1 ?_|refine u2 ?_|fail
     exact ⟨m+1,⟨hlt,fun h0=>absurd h0 hx0⟩,(by dsimp only;omega),ah.to (l:=[(2,.sl (x.map e8) fx),(3,.pt (aI c) 0),(4,.pt [af (tn:Nat),af d,af aw] 0),(7,.aJ 0 v 0 t cc),(8,af (t:Nat)),(9,.sl (ints (anyI c (⟨(tn:Int),d,aw⟩:bE) x B t (m+1))) false),(10,af (m+1:Nat))]) (hp:=[.cells (dH (B)) 1 v]) 1 rfl ⟨rfl,rfl,rfl,rfl,rfl,by rw [hA1,hnx];rfl,aE (by omega),trivial⟩ (qq5 _) rfl (iu B v)⟩
    ·rw [if_neg (fun hh=>he hh.2)] at hnx;have d5:decide (Cd c (L8 (⟨(tn:Int),d,aw⟩:bE) t) (B++[l++[(m:Int)]])=0)=false:=decide_eq_false he
     generalize Cd c (L8 (⟨(tn:Int),d,aw⟩:bE) t) (B++[l++[(m:Int)]])=ez at *
     refine aa (mu:=fun t=>Nat.beq t 30 || Nat.beq t 56 || Nat.beq t 69) ?_;repeat' first|(refine RM.MO (cs:=[]) (n:=0) (c:=0) (els:=B.map eL) rfl rfl rfl rfl rfl hels hone rfl rfl (.inl rfl) (by exact ⟨by show (0+(B.map eL).length) * 24≤_;omega,by omega⟩) (fun v1 c1 hc1=>?_))|((with_reducible show RM.wpOp _ _ (.call _) _ _ _);refine RM.sR (cs:=[]++(B.map eL).flatten) (n:=0+(B.map eL).length) (els:=[eL (l++[(m:Int)])]) rfl rfl rfl rfl rfl (fun el hel=>by rw [List.mem_singleton.1 hel];rfl) rfl rfl hr1 hc1 hr2 (fun v9 c9 hc9=>?_))|(refine RM.n2 ots rfl rfl rfl (zG.three (Fz.deep rfl) (Fz.deep rfl) (Fz.row (es:=1) rfl ri.2.1 ri.2.2.1 ri.2.2.2.1 ri.2.2.2.2 (by rw [gk];exact oc _) (fun h=>Bool.noConfusion h))) (mV.fl _) ?_)|refine u1 ?_|(refine ⟨e8 z,⟨by omega,hatx⟩,rfl,?_⟩)|((with_reducible show aU _ _ _ _ _ _ _ _ _);refine RM.GH (m:=z) (j:=m) rfl rfl hm8 ?_)|((with_reducible show aU _ _ _ _ _ _ _ _ _);refine RM.GI (m:=z / 2 ^ m) rfl rfl ?_)|(refine RM.GJ (m:=z / 2 ^ m % 2) (n:=1) rfl rfl ?_)|refine u2 ?_|fail
     refine aa (mu:=fun t=>Nat.beq t 30 || Nat.beq t 56 || Nat.beq t 69) ?_;repeat' first|refine u1 ?_|refine u2 ?_|fail
     exact ⟨m+1,⟨hlt,fun h0=>absurd h0 hx0⟩,(by dsimp only;omega),ah.to (l:=[(2,.sl (x.map e8) fx),(3,.pt (aI c) 0),(4,.pt [af (tn:Nat),af d,af aw] 0),(7,.aJ 0 v 0 t cc),(8,af (t:Nat)),(9,.sl (ints (anyI c (⟨(tn:Int),d,aw⟩:bE) x B t (m+1))) false),(10,af (m+1:Nat))]) (hp:=[.cells (dH (B)) 1 v]) 1 rfl ⟨rfl,rfl,rfl,rfl,rfl,by rw [hA1,hnx];rfl,aE (by omega),trivial⟩ (qq5 _) rfl (iu B v)⟩
   ·have d4:decide (((z / 2 ^ m % 2:Nat):Int)=1)=false:=decide_eq_false (by omega);rw [if_neg (fun hh=>hbit (by rw [←hbx];exact hh.1))] at hnx;refine aa (mu:=fun t=>Nat.beq t 30 || Nat.beq t 56 || Nat.beq t 69) ?_;repeat' first|refine u1 ?_|(refine ⟨e8 z,⟨by omega,hatx⟩,rfl,?_⟩)|((with_reducible show aU _ _ _ _ _ _ _ _ _);refine RM.GH (m:=z) (j:=m) rfl rfl hm8 ?_)|((with_reducible show aU _ _ _ _ _ _ _ _ _);refine RM.GI (m:=z / 2 ^ m) rfl rfl ?_)|(refine RM.GJ (m:=z / 2 ^ m % 2) (n:=1) rfl rfl ?_)|refine u2 ?_|fail
    refine aa (mu:=fun t=>Nat.beq t 30 || Nat.beq t 56 || Nat.beq t 69) ?_;repeat' first|refine u1 ?_|refine u2 ?_|fail
    exact ⟨m+1,⟨hlt,fun h0=>absurd h0 hx0⟩,(by dsimp only;omega),ah.to (l:=[(2,.sl (x.map e8) fx),(3,.pt (aI c) 0),(4,.pt [af (tn:Nat),af d,af aw] 0),(7,.aJ 0 v 0 t cc),(8,af (t:Nat)),(9,.sl (ints (anyI c (⟨(tn:Int),d,aw⟩:bE) x B t (m+1))) false),(10,af (m+1:Nat))]) (hp:=[.cells (dH (B)) 1 v]) 1 rfl ⟨rfl,rfl,rfl,rfl,rfl,by rw [hA1,hnx];rfl,aE (by omega),trivial⟩ (qq5 _) rfl (iu B v)⟩
  ·have hex:m=c.aD.length∨x.length=0:=by omega
   rw [hR hex]
   generalize z5 c (⟨(tn:Int),d,aw⟩:bE) x B t=R at *
   by_cases hlt:m < c.aD.length
   ·have d2:decide ((m:Int) < ((c.aD.map aZ).length:Int))=true:=decide_eq_true (by omega);have d3:decide ((0:Int) < ((x.map e8).length:Int))=false:=decide_eq_false (by omega);refine aa (mu:=fun t=>Nat.beq t 30 || Nat.beq t 56 || Nat.beq t 69) ?_;repeat' first|refine u1 ?_|refine u2 ?_|fail
    refine aa (mu:=fun t=>Nat.beq t 30 || Nat.beq t 56 || Nat.beq t 69) ?_;repeat' first|refine u1 ?_|((with_reducible show RM.wpOp _ _ (.call _) _ _ _);refine RM.sR (cs:=dH B) (n:=t) (els:=[eL R]) rfl rfl rfl rfl rfl (fun el hel=>by rw [List.mem_singleton.1 hel];rfl) rfl rfl hgl hcap (by simp only [List.length_singleton];exact ⟨by show (_+1) * 24≤_;omega,by omega⟩) (fun v' c' hc'=>?_))|refine u2 ?_|fail
    refine aa (mu:=fun t=>Nat.beq t 30 || Nat.beq t 56 || Nat.beq t 69) ?_;repeat' first|refine u1 ?_|refine u2 ?_|fail
    exact ⟨(t+1,v',c'),⟨htt,hc'⟩,(by dsimp only;omega),ah.to (l:=[(2,.sl (x.map e8) fx),(3,.pt (aI c) 0),(4,.pt [af (tn:Nat),af d,af aw] 0),(7,.aJ 0 v' 0 (t+1) c'),(8,af ((t+1):Nat))]) (hp:=[.cells (dH (jB c (⟨(tn:Int),d,aw⟩:bE) x (t+1))) 1 v']) 1 (by show _=[AB.cells (dH (jB c (⟨(tn:Int),d,aw⟩:bE) x (t+1))) 1 v'];rw [hTn];unfold dH;rw [List.map_append];rfl) ⟨rfl,rfl,rfl,rfl,aE (by omega),trivial⟩ (qq5 _) rfl (iu _ _)⟩
   ·have d2:decide ((m:Int) < ((c.aD.map aZ).length:Int))=false:=decide_eq_false (by omega);refine aa (mu:=fun t=>Nat.beq t 30 || Nat.beq t 56 || Nat.beq t 69) ?_;repeat' first|refine u1 ?_|refine u2 ?_|fail
    refine aa (mu:=fun t=>Nat.beq t 30 || Nat.beq t 56 || Nat.beq t 69) ?_;repeat' first|refine u1 ?_|((with_reducible show RM.wpOp _ _ (.call _) _ _ _);refine RM.sR (cs:=dH B) (n:=t) (els:=[eL R]) rfl rfl rfl rfl rfl (fun el hel=>by rw [List.mem_singleton.1 hel];rfl) rfl rfl hgl hcap (by simp only [List.length_singleton];exact ⟨by show (_+1) * 24≤_;omega,by omega⟩) (fun v' c' hc'=>?_))|refine u2 ?_|fail
    refine aa (mu:=fun t=>Nat.beq t 30 || Nat.beq t 56 || Nat.beq t 69) ?_;repeat' first|refine u1 ?_|refine u2 ?_|fail
    exact ⟨(t+1,v',c'),⟨htt,hc'⟩,(by dsimp only;omega),ah.to (l:=[(2,.sl (x.map e8) fx),(3,.pt (aI c) 0),(4,.pt [af (tn:Nat),af d,af aw] 0),(7,.aJ 0 v' 0 (t+1) c'),(8,af ((t+1):Nat))]) (hp:=[.cells (dH (jB c (⟨(tn:Int),d,aw⟩:bE) x (t+1))) 1 v']) 1 (by show _=[AB.cells (dH (jB c (⟨(tn:Int),d,aw⟩:bE) x (t+1))) 1 v'];rw [hTn];unfold dH;rw [List.map_append];rfl) ⟨rfl,rfl,rfl,rfl,aE (by omega),trivial⟩ (qq5 _) rfl (iu _ _)⟩
 ·have dl:decide ((t:Int) < (tn:Int))=false:=decide_eq_false (by omega);have htn:t=tn:=by omega
  have hfin:jB c (⟨(tn:Int),d,aw⟩:bE) x tn=B:=by rw [←hB,htn]
  rw [hfin];clear hB hfin hTn;subst htn;have hr:=zS B;rw [hTlB] at hr;refine aa (mu:=fun t=>Nat.beq t 30 || Nat.beq t 56 || Nat.beq t 69) ?_;repeat' first|refine u1 ?_|refine u2 ?_|fail
  exact ⟨[_],⟨Fz.row (es:=1) rfl hr.1 (by rw [List.length_map];exact hTlB) (uQ B) hr.2.2 (by rw [gk];exact oc _) (fun h=>Bool.noConfusion h),trivial⟩,rfl⟩
end Go.Proofs.YtlpmfgmldmdggaaGreat
open Go Go.RM
namespace Go.Proofs.YtlpmfgmldmdggaaGreat
set_option maxRecDepth 100000
abbrev Nu:Sh:=.int .u8
theorem Oc {l:List AV} (h:TV Nu l):∃ n:Nat,n≤255∧l=[.fl (.int .u8 ((n:Nat):Int))]:=by obtain ⟨n,hn,rfl⟩:=NC h;have h1:IntKind.u8.min=0:=rfl;have h2:IntKind.u8.max=255:=rfl;simp [Lit.wf] at hn;refine ⟨n.toNat,by omega,?_⟩;rw [Int.toNat_of_nonneg (by omega)]
theorem Nv {l:List AV} (h:TV (.slice Nu) l):∃ x:List Nat,x.length≤maxLen∧l=[.sl (x.map e8) false]:=by
 obtain ⟨a,ha,ha',rfl⟩:=Np h;obtain ⟨a,_,rfl⟩:=DS (e:=e8) (P:=fun _=>True) fun el hel=>by obtain ⟨n,_,hn⟩:=Oc (ha' el hel);exact ⟨n,trivial,hn⟩
 exact ⟨a,by simpa using ha,rfl⟩
end Go.Proofs.YtlpmfgmldmdggaaGreat
open Go Go.RM
namespace Go.Proofs.YtlpmfgmldmdggaaGreat
set_option maxRecDepth 100000
theorem BZ (c:aL):lf c []=false:=by
 unfold lf;rw [List.any_eq_false];intro r _;unfold kG oY;have h0:∀ L:List Nat,(L.countP fun m=>decide (fR c m=r) && e7 [] (m:Nat))=0:=fun L=>List.countP_eq_zero.2 fun x _=>by simp [e7]
 rw [h0,qq7,decide_eq_true_eq,decide_eq_true_eq];omega
theorem D5 (c:aL) {w:Int} (hw:0≤w) (b:List Int):jl c w b []=0:=by unfold jl C7 Fi FC Iq;rw [if_neg (by simp [fk]),if_neg (by simp [BQ]),if_neg (by simp only [List.length_nil];omega),if_neg (by simp),if_neg (by rw [BZ];simp)]
theorem wU (c:aL) (w:Int):∀ (B:List (List Int)) (b l:List Int),od c w b (B++[l])=0 ↔ od c w b B=0∧jl c w (B.getLastD b) l=0
 | [],b,l=>by
  show (if jl c w b l ≠ 0 then jl c w b l else 0)=0 ↔ (0:Int)=0∧jl c w b l=0;by_cases h:jl c w b l=0
  ·rw [if_neg (fun hh=>hh h)];exact ⟨fun _=>⟨rfl,h⟩,fun _=>rfl⟩
  ·rw [if_pos h];exact ⟨fun hh=>absurd hh h,fun hh=>hh.2⟩
 | a :: B,b,l=>by
  rw [List.getLastD_cons];show (if jl c w b a ≠ 0 then jl c w b a else od c w a (B++[l]))=0 ↔ (if jl c w b a ≠ 0 then jl c w b a else od c w a B)=0∧_;by_cases h:jl c w b a=0
  ·rw [if_neg (fun hh=>hh h),if_neg (fun hh=>hh h)];exact wU c w B a l
  ·rw [if_pos h,if_pos h];exact ⟨fun hh=>absurd hh h,fun hh=>absurd hh.1 h⟩
theorem yD {c:aL} {p:bE} (hp:ob p) (x:List Nat) {B:List (List Int)} (t:Nat) (hB:od c p.aR [] B=0):∀ m,od c p.aR [] (B++[anyI c p x B t m])=0
 | 0=>(wU c p.aR B [] []).2 ⟨hB,D5 c (by have:=hp.aR;omega) _⟩
 | m+1=>by
  have ih:=yD (c:=c) hp x t hB m;unfold anyI;split
  ·rename_i h;exact (Hh h.2).2.2
  ·exact ih
theorem yE {c:aL} {p:bE} (hp:ob p) (x:List Nat):∀ t,od c p.aR [] (jB c p x t)=0
 | 0=>rfl
 | t+1=>by
  have ih:=yE (c:=c) hp x t;show od c p.aR [] (jB c p x t++[z5 c p x (jB c p x t) t])=0;unfold z5;split
  ·exact (wU c p.aR _ [] []).2 ⟨ih,D5 c (by have:=hp.aR;omega) _⟩
  ·exact yD hp x t ih _
theorem MQ:∀ n:Nat,n < 6→∀ x:Nat,x < n→fo (dX [(x:Int)])=[(x:Int)]∧dX [(x:Int)] < 2 ^ n:=by decide
theorem MR:∀ n:Nat,n < 6→∀ x:Nat,x < n→∀ y:Nat,y < n→(¬ x < y∨(fo (dX [(x:Int),(y:Int)])=[(x:Int),(y:Int)]∧dX [(x:Int),(y:Int)] < 2 ^ n)):=by decide
theorem Ju {c:aL} (hg:Good c) {p:bE} (hp:ob p) {b l:List Int} (h:jl c p.aR b l=0):fo (dX l)=l∧dX l ∈ wN c.aD.length p.aR:=by
 have hm:=hg.aD;have hw:=hp.aR
 have h1:fk 0 ((c.aD.length:Int) - 1) l=false:=by
  cases e:fk 0 ((c.aD.length:Int) - 1) l with
  | false=>rfl
  | true=>unfold jl at h;rw [if_pos e] at h;cases h
 have h2:BQ l=false:=by
  cases e:BQ l with
  | false=>rfl
  | true=>unfold jl C7 at h;rw [if_neg (by rw [h1];simp),if_pos e] at h;cases h
 have h3:(l.length:Int)≤p.aR:=by
  by_cases e:p.aR < (l.length:Int)
  ·unfold jl C7 Fi at h;rw [if_neg (by rw [h1];simp),if_neg (by rw [h2];simp),if_pos e] at h;cases h
  ·omega
 have hmem:=L7.mem (c:=c) (p:=p) ⟨h1,h2,h3⟩
 have key:fo (dX l)=l∧dX l < 2 ^ c.aD.length:=by
  match l,h2,h3,hmem with
  | [],_,_,_=>exact ⟨rfl,Nat.two_pow_pos _⟩
  | [x],_,_,hmem =>have hx:=hmem x (by simp);obtain ⟨q,rfl⟩:∃ q:Nat,x=q:=⟨x.toNat,by omega⟩;exact MQ _ (by omega) q (by omega)
  | [x,y],h2,_,hmem =>have hx:=hmem x (by simp);have hy:=hmem y (by simp);have hlt:=Hq h2 0 0 (by simp);have hlt:x < y:=hlt;obtain ⟨q,rfl⟩:∃ q:Nat,x=q:=⟨x.toNat,by omega⟩;obtain ⟨r,rfl⟩:∃ r:Nat,y=r:=⟨y.toNat,by omega⟩;exact (MR _ (by omega) q (by omega) r (by omega)).resolve_left (fun hh=>hh (by omega))
  | _ :: _ :: _ :: _,_,h3,_=>simp only [List.length_cons] at h3;omega
 refine ⟨key.1,?_⟩;have h5:2 ^ c.aD.length≤2 ^ 5:=Nat.pow_le_pow_right (by decide) hm.2;unfold wN;rw [List.mem_filter,qq7,decide_eq_true_eq,decide_eq_true_eq,key.1];exact ⟨D1 _ (by omega),key.2,h3⟩
theorem B0 {c:aL} (hg:Good c) {p:bE} (hp:ob p):∀ (T:List (List Int)) (pre:List Nat),l6 pre→od c p.aR (fo (dY pre)) T=0→(pre++T.map dX ∈ jz (iz c p.aR) T.length pre)∧(T.map dX).map fo=T
 | [],pre,_,_=>⟨by rw [List.map_nil,List.append_nil];exact List.mem_singleton.2 rfl,rfl⟩
 | l :: T,pre,h32,h=>by
  have h:(if jl c p.aR (fo (dY pre)) l ≠ 0 then jl c p.aR (fo (dY pre)) l else od c p.aR l T)=0:=h;by_cases h0:jl c p.aR (fo (dY pre)) l=0
  ·rw [if_neg (fun hh=>hh h0)] at h;obtain ⟨e1,e2⟩:=Ju hg hp h0;have ha32:=Da _ (List.mem_filter.1 e2).1;have hb:=(zX hg (p:=p) (uS h32) e2).1 (by rw [e1];exact h0);have hs:dX l ∈ iz c p.aR:=List.mem_filter.2 ⟨e2,hb.2⟩;obtain ⟨q1,q2⟩:=B0 hg hp T (pre++[dX l]) (h32.snoc ha32) (by rw [yC,e1];exact h);refine ⟨List.mem_flatMap.2 ⟨dX l,hs,?_⟩,by rw [List.map_cons,List.map_cons,e1,q2]⟩;rw [if_pos (by rw [Nat.and_comm];exact hb.1),List.map_cons];rw [List.append_assoc] at q1;exact q1
  ·rw [if_pos h0] at h;exact absurd h h0
theorem B1 {c:aL} (hg:Good c) {p:bE}:∀ (k:Nat) (pre:List Nat),l6 pre→∀ t ∈ jz (iz c p.aR) k pre,∃ u,t=pre++u∧od c p.aR (fo (dY pre)) (u.map fo)=0
 | 0,pre,_,t,ht=>⟨[],by rw [List.mem_singleton.1 ht,List.append_nil],rfl⟩
 | k+1,pre,h32,t,ht=>by
  obtain ⟨s,hs,ht⟩:=List.mem_flatMap.1 ht;split at ht
  ·rename_i hm;have ha32:=s8 hg hs;obtain ⟨u,h1,h2⟩:=B1 hg k (pre++[s]) (h32.snoc ha32) t ht;obtain ⟨hs1,hs2⟩:=List.mem_filter.1 hs;have hb:=(zX hg (p:=p) (uS h32) hs1).2 ⟨by rw [Nat.and_comm];exact hm,hs2⟩;refine ⟨s :: u,by rw [h1,List.append_assoc];rfl,?_⟩;show (if jl c p.aR (fo (dY pre)) (fo s) ≠ 0 then jl c p.aR (fo (dY pre)) (fo s) else od c p.aR (fo s) (u.map fo))=0;rw [if_neg (fun hh=>hh hb)];rw [yC] at h2;exact h2
  ·cases ht
theorem B2 {c:aL} (hg:Good c) {p:bE} (hp:ob p) (h0:kJ c p=0):Cd c p (kH c p)=0:=by obtain ⟨u,h1,h2⟩:=B1 hg _ [] (fun x hx=>by cases hx) _ (l7 hg hp).mem;rw [List.nil_append] at h1;have hl:=(uT hg hp).2;unfold Cd kH;rw [if_neg (fun hh=>hh h0),if_neg (fun hh=>hh (by rw [List.length_map];exact hl)),h1];exact h2
theorem wV {c:aL} (hg:Good c) {p:bE} (hp:ob p):C4 (uR c p (kH c p) c.aD.length)=(jA c p).2:=by rw [(l7 hg hp).val];exact D3 hg p (uT hg hp).1
theorem Fs {c:aL} (hg:Good c) {p:bE} (hp:ob p) {T:List (List Int)} (hT:(T.length:Int)=p.turns) (h:od c p.aR [] T=0):(jA c p).2≤C4 (uR c p T c.aD.length):=by obtain ⟨q1,q2⟩:=B0 hg hp T [] (fun x hx=>by cases hx) h;rw [List.nil_append,show T.length=p.turns.toNat by omega] at q1;have h3:=(l7 hg hp).least _ q1;have h32:=(z4 (S:=iz c p.aR) (fun a ha=>s8 hg ha) _ [] (fun x hx=>by cases hx) _ q1).1;rw [←D3 hg p h32,q2] at h3;exact h3
