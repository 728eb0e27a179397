/-
  Contracts of the program's functions and of the document's. Lemmas alone; their conditions stand in them.
-/
import Derived.Test.YtlpmfgmldmdggaaGreatK10
open Go Go.RM
namespace Go.Proofs.YtlpmfgmldmdggaaGreat
set_option maxRecDepth 100000
set_option maxHeartbeats 4000000
abbrev e8 (z:Nat):List AV:=[.fl (.int .u8 (z:Int))]
def Kg (x:List Nat) (t m:Nat):Nat:=x.getD (t % x.length) 0 / 2 ^ m % 2
def KG (p:bW) (t:Nat):bW:=⟨((t+1:Nat):Int),p.days,p.aF⟩
def anyI (c:aP) (p:bW) (x:List Nat) (B:List (List Int)) (t:Nat):Nat→List Int
 | 0=>[]
 | m+1=>if Kg x t m=1∧uB c (KG p t) (B++[anyI c p x B t m++[(m:Int)]])=0 then anyI c p x B t m++[(m:Int)] else anyI c p x B t m
theorem wD (c:aP) (p:bW) (x:List Nat) (B:List (List Int)) (t:Nat):∀ m,(anyI c p x B t m).length≤m
 | 0=>qq6 _
 | m+1=>by
  have:=wD c p x B t m;unfold anyI;split
  ·rw [List.length_append];simp only [List.length_singleton];omega
  ·omega
def zJ (c:aP) (p:bW) (x:List Nat) (B:List (List Int)) (t:Nat):List Int:=if x.length=0 then [] else anyI c p x B t c.aA.length
def jq (c:aP) (p:bW) (x:List Nat):Nat→List (List Int)
 | 0=>[]
 | t+1=>jq c p x t++[zJ c p x (jq c p x t) t]
theorem wE (c:aP) (p:bW) (x:List Nat):∀ t,(jq c p x t).length=t
 | 0=>rfl
 | t+1=>by show (jq c p x t++[_]).length=_;rw [List.length_append,wE c p x t];rfl
theorem GO (c:aP) (p:bW) (x:List Nat) (B:List (List Int)) (t:Nat):(zJ c p x B t).length≤c.aA.length:=by
 unfold zJ;split
 ·exact qq5 _
 ·exact wD c p x B t _
theorem sP (c:aP) (p:bW) (x:List Nat):∀ t,∀ l ∈ jq c p x t,l.length≤c.aA.length
 | 0,l,h=>by cases h
 | t+1,l,h=>by
  rcases List.mem_append.1 h with h|h
  ·exact sP c p x t l h
  ·rw [List.mem_singleton.1 h];exact GO c p x _ t
theorem GP (k:Nat) (L:List (List Int)) (v:Nat):AB.gZ k (.cells (dK L) 1 v)=true:=eC k (fun _=>rfl) _
theorem BF (L:List (List Int)) (v:Nat) (W:List Int) (w:Nat):([.cells (dK L) 1 v,.cells (av W) 1 w]:List AB).all (AB.gZ 2)=true:=by have h1:AB.gZ 2 (.cells (av W) 1 w)=true:=eC 2 (fun _=>rfl) _;simp only [List.all_cons,List.all_nil,GP,h1,Bool.and_true]
theorem BG (j:Nat) {v cc n:Nat} {S:List Int} (h:S.length=n):Gv j v (av S) (.aL j v 0 n cc) (.sl (ints S) false) :=
 .row 1 (by rw [List.length_map];omega) (by rw [List.length_map];exact h) (fun el hel=>by obtain ⟨x,_,rfl⟩:=List.mem_map.1 hel;rfl) (by rw [dJ,List.drop_zero,List.take_of_length_le (by rw [List.length_map];omega)]) (fun h=>Bool.noConfusion h)
theorem BH {α:Type} {f:α→AV} (j:Nat) (hf:∀ x,(f x).pX j=true):∀ l:List α,xp j (l.map f)=true
 | []=>rfl
 | x :: l=>by rw [List.map_cons];unfold xp;rw [hf x,BH j hf l];rfl
theorem DB (L:List (List Int)) (v:Nat) (W:List Int) (w:Nat):sC 1 0 [.cells (dK L) 1 v,.cells (av W) 1 w]=true:=by have h1:AB.pX 1 (.cells (dK L) 1 v)=true:=BH 1 (fun _=>rfl) L;unfold sC;rw [h1,Bool.or_true,Bool.true_and];rfl
theorem Lw (one:Bool) (c:aP) (h:c.Ok) (hg:Good c) (p:bW) (hp:uz p) (x:List Nat) (fx:Bool) (hx:x.length≤maxLen):Pu one 49 [.ag (aD c),.ag (bX p),.sl (x.map e8) fx] (.sl ((jq c p x p.turns.toNat).map eL) false):=by
 have em:((c.aA.map bS).length:Int)=c.aA.length:=by simp
 have ex:((x.map e8).length:Int)=x.length:=by simp
 have hm5:=hg.aA;simp only [maxLen] at hx;obtain ⟨tu,d,aw⟩:=p;obtain ⟨p1,p2,p3⟩:=hp;dsimp only at p1 p2 p3;obtain ⟨tn,htn⟩:∃ tn:Nat,tu=tn:=⟨tu.toNat,by omega⟩;subst htn;show Pu one 49 [.ag (aD c),.ag [af (tn:Nat),af d,af aw],.sl (x.map e8) fx] (.sl ((jq c (⟨(tn:Int),d,aw⟩:bW) x tn).map eL) false);have hTe:=fun t=>sP c (⟨(tn:Int),d,aw⟩:bW) x t;have hTl:=fun t=>wE c (⟨(tn:Int),d,aw⟩:bW) x t;refine ah.body (fn:=Tryz.f49) rfl rfl rfl rfl ?_;refine aa (mu:=fun t=>Nat.beq t 30 || Nat.beq t 56 || Nat.beq t 69) ?_;repeat' first|refine u1 ?_|refine u2 ?_|fail
 refine ay.aN (ak.trans (ak.mP 1) (ak.HM (l:=[(2,.sl (x.map e8) fx),(3,.pt (aD c) 0),(4,.pt [af (tn:Nat),af d,af aw] 0),(7,.aL 0 0 0 0 0),(8,af (0:Nat))]) (hp:=[.cells (dK (jq c (⟨(tn:Int),d,aw⟩:bW) x 0)) 1 0]) 1 rfl ⟨dI.refl _,dI.refl _,dI.refl _,dI.mO,dI.refl _,trivial⟩ (qq5 _) rfl (ia _ _))) ?_;refine ay.loop (fun x:Nat × Nat × Nat=>x.1≤tn∧(x.2.2=x.1∨x.2.2=x.1+1)) (fun y=>⟨aT [(2,.sl (x.map e8) fx),(3,.pt (aD c) 0),(4,.pt [af (tn:Nat),af d,af aw] 0),(7,.aL 0 y.2.1 0 y.1 y.2.2),(8,af (y.1:Nat))],[.cells (dK (jq c (⟨(tn:Int),d,aw⟩:bW) x y.1)) 1 y.2.1],bJ.none,false,0⟩) (fun x=>tn - x.1) ?_ (0,0,0) ⟨qq5 _,.inl rfl⟩;rintro ⟨t,v,cc⟩ ⟨ht,hcap⟩;dsimp only at ht hcap;have hTn:jq c (⟨(tn:Int),d,aw⟩:bW) x (t+1)=jq c (⟨(tn:Int),d,aw⟩:bW) x t++[zJ c (⟨(tn:Int),d,aw⟩:bW) x (jq c (⟨(tn:Int),d,aw⟩:bW) x t) t]:=rfl;have hTeB:=hTe t;have hTlB:=hTl t;clear hTe hTl
 generalize hB:jq c (⟨(tn:Int),d,aw⟩:bW) x t=B at *
 show ay _ _ _ _ ⟨aT [(2,.sl (x.map e8) fx),(3,.pt (aD c) 0),(4,.pt [af (tn:Nat),af d,af aw] 0),(7,.aL 0 v 0 t cc),(8,af (t:Nat))],[.cells (dK (B)) 1 v],bJ.none,false,0⟩ _;have hgl:(dK B).length=t * 1:=by rw [List.length_map,hTlB];omega
 by_cases htt:t < tn
 ·have dl:decide ((t:Int) < (tn:Int))=true:=decide_eq_true (by omega);refine RM.iU (mu:=fun t=>Nat.beq t 30 || Nat.beq t 56 || Nat.beq t 69) ?_;repeat' first|refine u1 ?_|refine u2 ?_|fail
  refine ay.seq ?_;refine ay.block ?_;refine RM.iU (mu:=fun t=>Nat.beq t 30 || Nat.beq t 56 || Nat.beq t 69) ?_;repeat' first|refine u1 ?_|refine u2 ?_|fail
  refine ay.aN (ak.trans (ak.mP 1) (ak.trans (ak.HM (l:=[(2,.sl (x.map e8) fx),(3,.pt (aD c) 0),(4,.pt [af (tn:Nat),af d,af aw] 0),(7,.aL 0 v 0 t cc),(8,af (t:Nat)),(9,.aL 1 0 0 0 0)]) (hp:=[.cells (dK (B)) 1 v,.cells (av []) 1 0]) 2 rfl ⟨dI.refl _,dI.refl _,dI.refl _,dI.refl _,dI.refl _,dI.mO,trivial⟩ (qq5 _) rfl (BF _ _ _ _)) (ak.trans (ak.giveUp 1 (l:=[(2,.sl (x.map e8) fx),(3,.pt (aD c) 0),(4,.pt [af (tn:Nat),af d,af aw] 0),(7,.aL 0 v 0 t cc),(8,af (t:Nat)),(9,.sl (ints []) false)]) (hp:=[.cells (dK (B)) 1 v,.gone]) rfl (qq5 _) rfl ⟨.same rfl,.same rfl,.same rfl,.same rfl,.same rfl,BG 1 rfl,trivial⟩ (DB _ _ _ _) rfl) (ak.to (l:=[(2,.sl (x.map e8) fx),(3,.pt (aD c) 0),(4,.pt [af (tn:Nat),af d,af aw] 0),(7,.aL 0 v 0 t cc),(8,af (t:Nat)),(9,.sl (ints []) false)]) (hp:=[.cells (dK (B)) 1 v]) 1 rfl ⟨rfl,rfl,rfl,rfl,rfl,rfl,trivial⟩ (qq5 _) rfl (ia _ _))))) ?_;refine ay.seq ?_;refine aa (mu:=fun t=>Nat.beq t 30 || Nat.beq t 56 || Nat.beq t 69) ?_;repeat' first|refine u1 ?_|refine u2 ?_|fail
  refine ay.aN (ak.to (l:=[(2,.sl (x.map e8) fx),(3,.pt (aD c) 0),(4,.pt [af (tn:Nat),af d,af aw] 0),(7,.aL 0 v 0 t cc),(8,af (t:Nat)),(9,.sl (ints (anyI c (⟨(tn:Int),d,aw⟩:bW) x B t 0)) false),(10,af (0:Nat))]) (hp:=[.cells (dK (B)) 1 v]) 1 rfl ⟨rfl,rfl,rfl,rfl,rfl,rfl,rfl,trivial⟩ (qq5 _) rfl (ia _ _)) ?_;refine ay.loop (fun m:Nat=>m≤c.aA.length∧(x.length=0→m=0)) (fun m=>⟨aT [(2,.sl (x.map e8) fx),(3,.pt (aD c) 0),(4,.pt [af (tn:Nat),af d,af aw] 0),(7,.aL 0 v 0 t cc),(8,af (t:Nat)),(9,.sl (ints (anyI c (⟨(tn:Int),d,aw⟩:bW) x B t m)) false),(10,af (m:Nat))],[.cells (dK (B)) 1 v],bJ.none,false,0⟩) (fun m=>c.aA.length - m) ?_ 0 ⟨qq5 _,fun _=>rfl⟩;rintro m ⟨hm,hm0⟩
  have hR:m=c.aA.length∨x.length=0→anyI c (⟨(tn:Int),d,aw⟩:bW) x B t m=zJ c (⟨(tn:Int),d,aw⟩:bW) x B t:=fun hh=>by
   unfold zJ;by_cases h0:x.length=0
   ·rw [if_pos h0,hm0 h0];rfl
   ·rw [if_neg h0,hh.resolve_right h0]
  have hll:=wD c (⟨(tn:Int),d,aw⟩:bW) x B t m;have hnx:anyI c (⟨(tn:Int),d,aw⟩:bW) x B t (m+1)=if Kg x t m=1∧uB c (KG (⟨(tn:Int),d,aw⟩:bW) t) (B++[anyI c (⟨(tn:Int),d,aw⟩:bW) x B t m++[(m:Int)]])=0 then anyI c (⟨(tn:Int),d,aw⟩:bW) x B t m++[(m:Int)] else anyI c (⟨(tn:Int),d,aw⟩:bW) x B t m:=rfl
  generalize hA1:anyI c (⟨(tn:Int),d,aw⟩:bW) x B t (m+1)=l1 at *
  generalize anyI c (⟨(tn:Int),d,aw⟩:bW) x B t m=l at *
  by_cases hgo:m < c.aA.length∧x.length ≠ 0
  ·obtain ⟨hlt,hx0⟩:=hgo;have hm8:m < 8:=by omega
   have d2:decide ((m:Int) < ((c.aA.map bS).length:Int))=true:=decide_eq_true (by omega);have d3:decide ((0:Int) < ((x.map e8).length:Int))=true:=decide_eq_true (by omega);have hmod:t % x.length < x.length:=Nat.mod_lt _ (by omega);have hatx:(x.map e8)[(((t:Nat):Int) % ((x.map e8).length:Int)).toNat]?=some (e8 (x.getD (t % x.length) 0)):=by rw [ex,show (((t:Nat):Int) % (x.length:Int)).toNat=t % x.length by omega,List.getElem?_map,List.getD_eq_getElem?_getD,List.getElem?_eq_getElem hmod];rfl
   have hbx:Kg x t m=x.getD (t % x.length) 0 / 2 ^ m % 2:=rfl
   generalize x.getD (t % x.length) 0=z at *
   have hl1:(ints l).flatten.all AV.one=true:=by rw [dJ,List.all_map,List.all_eq_true];intro y _;rfl
   have eil:(ints l).length=l.length:=List.length_map _;have hq1:(([]:List AV)++(ints l).flatten).length=(0+(ints l).length) * 1:=by rw [List.nil_append,dJ,List.length_map,List.length_map];omega
   refine RM.iU (mu:=fun t=>Nat.beq t 30 || Nat.beq t 56 || Nat.beq t 69) ?_;repeat' first|refine u1 ?_|refine u2 ?_|fail
   refine ay.seq ?_;refine ay.block ?_;refine RM.iU (mu:=fun t=>Nat.beq t 30 || Nat.beq t 56 || Nat.beq t 69) ?_;repeat' first|refine u1 ?_|((with_reducible show RM.wpOp _ _ (.call _) _ _ _);refine RM.sD (cs:=[]) (n:=0) (c:=0) (els:=ints l) rfl rfl rfl rfl rfl (Bj l) hl1 rfl rfl (.inl rfl) (by exact ⟨by show (0+(ints l).length) * 8≤_;omega,by omega⟩) (fun v1 c1 hc1=>?_))|((with_reducible show RM.wpOp _ _ (.call _) _ _ _);refine RM.sD (cs:=[]++(ints l).flatten) (n:=0+(ints l).length) (els:=[[af (m:Nat)]]) rfl rfl rfl rfl rfl (fun el hel=>by rw [List.mem_singleton.1 hel];rfl) rfl rfl hq1 hc1 (by simp only [List.length_singleton];exact ⟨by show (0+(ints l).length+1) * 8≤_;omega,by omega⟩) (fun v9 c9 hc9=>?_))|refine u2 ?_|fail
   refine ay.aN (ak.trans (ak.to (l:=[(2,.sl (x.map e8) fx),(3,.pt (aD c) 0),(4,.pt [af (tn:Nat),af d,af aw] 0),(7,.aL 0 v 0 t cc),(8,af (t:Nat)),(9,.sl (ints (l)) false),(10,af (m:Nat)),(11,.aL 1 v9 0 (0+(ints l).length+1) c9)]) (hp:=[.cells (dK (B)) 1 v,.cells (av (l++[(m:Int)])) 1 v9]) 2 (by rw [dJ,List.nil_append];show _=[AB.cells (dK B) 1 v,AB.cells (av (l++[(m:Int)])) 1 v9];unfold av;rw [List.map_append];rfl) ⟨rfl,rfl,rfl,rfl,rfl,rfl,rfl,rfl,trivial⟩ (qq5 _) rfl (BF _ _ _ _)) (ak.trans (ak.giveUp 1 (l:=[(2,.sl (x.map e8) fx),(3,.pt (aD c) 0),(4,.pt [af (tn:Nat),af d,af aw] 0),(7,.aL 0 v 0 t cc),(8,af (t:Nat)),(9,.sl (ints (l)) false),(10,af (m:Nat)),(11,.sl (ints (l++[(m:Int)])) false)]) (hp:=[.cells (dK (B)) 1 v,.gone]) rfl (qq5 _) (sK _) ⟨.same rfl,.same rfl,.same rfl,.same rfl,.same rfl,.same rfl,.same rfl,BG 1 (by rw [List.length_append,eil];simp),trivial⟩ (DB _ _ _ _) rfl) (ak.to (l:=[(2,.sl (x.map e8) fx),(3,.pt (aD c) 0),(4,.pt [af (tn:Nat),af d,af aw] 0),(7,.aL 0 v 0 t cc),(8,af (t:Nat)),(9,.sl (ints (l)) false),(10,af (m:Nat)),(11,.sl (ints (l++[(m:Int)])) false)]) (hp:=[.cells (dK (B)) 1 v]) 1 rfl ⟨rfl,rfl,rfl,rfl,rfl,rfl,rfl,rfl,trivial⟩ (qq5 _) rfl (ia _ _)))) ?_;clear hc9;by_cases hbit:z / 2 ^ m % 2=1
   ·have d4:decide (((z / 2 ^ m % 2:Nat):Int)=1)=true:=decide_eq_true (by omega)
    have ots:=Ds true c h (KG (⟨(tn:Int),d,aw⟩:bW) t) (B++[l++[(m:Int)]]) false ⟨by rw [List.length_append,hTlB];simp only [maxLen,List.length_singleton];omega,fun y hy=>by
     rcases List.mem_append.1 hy with hy|hy
     ·have:=hTeB y hy;simp only [maxLen];omega
     ·rw [List.mem_singleton.1 hy,List.length_append];simp only [maxLen,List.length_singleton]
      omega⟩
    change Pu true 46 [.ag (aD c),.ag [af ((t+1:Nat):Int),af d,af aw],.sl ((B++[l++[(m:Int)]]).map eL) false] _ at ots;rw [show ((t+1:Nat):Int)=(t:Int)+1 by omega] at ots;have ri:=Mb B (l++[(m:Int)]);have hels:tE [AB.cells (dK B) 1 v,AB.cells [] 1 0] 1 (.aL 0 v 0 t cc) (B.map eL):=⟨uA B,dK B,1,rfl,by rw [List.length_map,hTlB];omega,by rw [List.length_map];exact hTlB,by rw [fZ,List.drop_zero,List.take_of_length_le (by rw [List.length_map,hTlB];omega)]⟩;have hone:(B.map eL).flatten.all AV.one=true:=by rw [fZ];exact Im B
    have hr1:(([]:List AV)++(B.map eL).flatten).length=(0+(B.map eL).length) * 1:=by rw [List.nil_append,fZ,List.length_map,List.length_map];omega
    have hr2:(0+(B.map eL).length+([eL (l++[(m:Int)])]:List (List AV)).length) * 24≤140737488355328∧0+(B.map eL).length+([eL (l++[(m:Int)])]:List (List AV)).length≤9223372036854775807:=by rw [List.length_map,hTlB];simp only [List.length_singleton];omega
    have hBl:(B.map eL).length=t:=by rw [List.length_map];exact hTlB
    by_cases he:uB c (KG (⟨(tn:Int),d,aw⟩:bW) t) (B++[l++[(m:Int)]])=0
    ·rw [if_pos ⟨by rw [hbx];exact hbit,he⟩] at hnx;rw [he] at ots;have d5:decide ((0:Int)=0)=true:=rfl;refine aa (mu:=fun t=>Nat.beq t 30 || Nat.beq t 56 || Nat.beq t 69) ?_;repeat' first|(refine RM.Lv (cs:=[]) (n:=0) (c:=0) (els:=B.map eL) rfl rfl rfl rfl rfl hels hone rfl rfl (.inl rfl) (by exact ⟨by show (0+(B.map eL).length) * 24≤_;omega,by omega⟩) (fun v1 c1 hc1=>?_))|((with_reducible show RM.wpOp _ _ (.call _) _ _ _);refine RM.sD (cs:=[]++(B.map eL).flatten) (n:=0+(B.map eL).length) (els:=[eL (l++[(m:Int)])]) rfl rfl rfl rfl rfl (fun el hel=>by rw [List.mem_singleton.1 hel];rfl) rfl rfl hr1 hc1 hr2 (fun v9 c9 hc9=>?_))|(refine RM.n2 ots rfl rfl rfl (zf.three (Fz.deep rfl) (Fz.deep rfl) (Fz.row (es:=1) rfl ri.2.1 ri.2.2.1 ri.2.2.2.1 ri.2.2.2.2 (by rw [fZ];exact nR _) (fun h=>Bool.noConfusion h))) (m7.fl _) ?_)|refine u1 ?_|(refine ⟨e8 z,⟨by omega,hatx⟩,rfl,?_⟩)|((with_reducible show aQ _ _ _ _ _ _ _ _ _);refine RM.FT (m:=z) (j:=m) rfl rfl hm8 ?_)|((with_reducible show aQ _ _ _ _ _ _ _ _ _);refine RM.FU (m:=z / 2 ^ m) rfl rfl ?_)|(refine RM.FV (m:=z / 2 ^ m % 2) (n:=1) rfl rfl ?_)|refine u2 ?_|fail
     refine aa (mu:=fun t=>Nat.beq t 30 || Nat.beq t 56 || Nat.beq t 69) ?_;repeat' first|refine u1 ?_|refine u2 ?_|fail
     exact ⟨m+1,⟨hlt,fun h0=>absurd h0 hx0⟩,(by dsimp only;omega),ak.to (l:=[(2,.sl (x.map e8) fx),(3,.pt (aD c) 0),(4,.pt [af (tn:Nat),af d,af aw] 0),(7,.aL 0 v 0 t cc),(8,af (t:Nat)),(9,.sl (ints (anyI c (⟨(tn:Int),d,aw⟩:bW) x B t (m+1))) false),(10,af (m+1:Nat))]) (hp:=[.cells (dK (B)) 1 v]) 1 rfl ⟨rfl,rfl,rfl,rfl,rfl,by rw [hA1,hnx];rfl,aH (by omega),trivial⟩ (qq5 _) rfl (ia B v)⟩
    ·rw [if_neg (fun hh=>he hh.2)] at hnx;have d5:decide (uB c (KG (⟨(tn:Int),d,aw⟩:bW) t) (B++[l++[(m:Int)]])=0)=false:=decide_eq_false he
     generalize uB c (KG (⟨(tn:Int),d,aw⟩:bW) t) (B++[l++[(m:Int)]])=ez at *
     refine aa (mu:=fun t=>Nat.beq t 30 || Nat.beq t 56 || Nat.beq t 69) ?_;repeat' first|(refine RM.Lv (cs:=[]) (n:=0) (c:=0) (els:=B.map eL) rfl rfl rfl rfl rfl hels hone rfl rfl (.inl rfl) (by exact ⟨by show (0+(B.map eL).length) * 24≤_;omega,by omega⟩) (fun v1 c1 hc1=>?_))|((with_reducible show RM.wpOp _ _ (.call _) _ _ _);refine RM.sD (cs:=[]++(B.map eL).flatten) (n:=0+(B.map eL).length) (els:=[eL (l++[(m:Int)])]) rfl rfl rfl rfl rfl (fun el hel=>by rw [List.mem_singleton.1 hel];rfl) rfl rfl hr1 hc1 hr2 (fun v9 c9 hc9=>?_))|(refine RM.n2 ots rfl rfl rfl (zf.three (Fz.deep rfl) (Fz.deep rfl) (Fz.row (es:=1) rfl ri.2.1 ri.2.2.1 ri.2.2.2.1 ri.2.2.2.2 (by rw [fZ];exact nR _) (fun h=>Bool.noConfusion h))) (m7.fl _) ?_)|refine u1 ?_|(refine ⟨e8 z,⟨by omega,hatx⟩,rfl,?_⟩)|((with_reducible show aQ _ _ _ _ _ _ _ _ _);refine RM.FT (m:=z) (j:=m) rfl rfl hm8 ?_)|((with_reducible show aQ _ _ _ _ _ _ _ _ _);refine RM.FU (m:=z / 2 ^ m) rfl rfl ?_)|(refine RM.FV (m:=z / 2 ^ m % 2) (n:=1) rfl rfl ?_)|refine u2 ?_|fail
     refine aa (mu:=fun t=>Nat.beq t 30 || Nat.beq t 56 || Nat.beq t 69) ?_;repeat' first|refine u1 ?_|refine u2 ?_|fail
     exact ⟨m+1,⟨hlt,fun h0=>absurd h0 hx0⟩,(by dsimp only;omega),ak.to (l:=[(2,.sl (x.map e8) fx),(3,.pt (aD c) 0),(4,.pt [af (tn:Nat),af d,af aw] 0),(7,.aL 0 v 0 t cc),(8,af (t:Nat)),(9,.sl (ints (anyI c (⟨(tn:Int),d,aw⟩:bW) x B t (m+1))) false),(10,af (m+1:Nat))]) (hp:=[.cells (dK (B)) 1 v]) 1 rfl ⟨rfl,rfl,rfl,rfl,rfl,by rw [hA1,hnx];rfl,aH (by omega),trivial⟩ (qq5 _) rfl (ia B v)⟩
   ·have d4:decide (((z / 2 ^ m % 2:Nat):Int)=1)=false:=decide_eq_false (by omega);rw [if_neg (fun hh=>hbit (by rw [←hbx];exact hh.1))] at hnx;refine aa (mu:=fun t=>Nat.beq t 30 || Nat.beq t 56 || Nat.beq t 69) ?_;repeat' first|refine u1 ?_|(refine ⟨e8 z,⟨by omega,hatx⟩,rfl,?_⟩)|((with_reducible show aQ _ _ _ _ _ _ _ _ _);refine RM.FT (m:=z) (j:=m) rfl rfl hm8 ?_)|((with_reducible show aQ _ _ _ _ _ _ _ _ _);refine RM.FU (m:=z / 2 ^ m) rfl rfl ?_)|(refine RM.FV (m:=z / 2 ^ m % 2) (n:=1) rfl rfl ?_)|refine u2 ?_|fail
    refine aa (mu:=fun t=>Nat.beq t 30 || Nat.beq t 56 || Nat.beq t 69) ?_;repeat' first|refine u1 ?_|refine u2 ?_|fail
    exact ⟨m+1,⟨hlt,fun h0=>absurd h0 hx0⟩,(by dsimp only;omega),ak.to (l:=[(2,.sl (x.map e8) fx),(3,.pt (aD c) 0),(4,.pt [af (tn:Nat),af d,af aw] 0),(7,.aL 0 v 0 t cc),(8,af (t:Nat)),(9,.sl (ints (anyI c (⟨(tn:Int),d,aw⟩:bW) x B t (m+1))) false),(10,af (m+1:Nat))]) (hp:=[.cells (dK (B)) 1 v]) 1 rfl ⟨rfl,rfl,rfl,rfl,rfl,by rw [hA1,hnx];rfl,aH (by omega),trivial⟩ (qq5 _) rfl (ia B v)⟩
  ·have hex:m=c.aA.length∨x.length=0:=by omega
   rw [hR hex]
   generalize zJ c (⟨(tn:Int),d,aw⟩:bW) x B t=R at *
   by_cases hlt:m < c.aA.length
   ·have d2:decide ((m:Int) < ((c.aA.map bS).length:Int))=true:=decide_eq_true (by omega);have d3:decide ((0:Int) < ((x.map e8).length:Int))=false:=decide_eq_false (by omega);refine aa (mu:=fun t=>Nat.beq t 30 || Nat.beq t 56 || Nat.beq t 69) ?_;repeat' first|refine u1 ?_|refine u2 ?_|fail
    refine aa (mu:=fun t=>Nat.beq t 30 || Nat.beq t 56 || Nat.beq t 69) ?_;repeat' first|refine u1 ?_|((with_reducible show RM.wpOp _ _ (.call _) _ _ _);refine RM.sD (cs:=dK B) (n:=t) (els:=[eL R]) rfl rfl rfl rfl rfl (fun el hel=>by rw [List.mem_singleton.1 hel];rfl) rfl rfl hgl hcap (by simp only [List.length_singleton];exact ⟨by show (_+1) * 24≤_;omega,by omega⟩) (fun v' c' hc'=>?_))|refine u2 ?_|fail
    refine aa (mu:=fun t=>Nat.beq t 30 || Nat.beq t 56 || Nat.beq t 69) ?_;repeat' first|refine u1 ?_|refine u2 ?_|fail
    exact ⟨(t+1,v',c'),⟨htt,hc'⟩,(by dsimp only;omega),ak.to (l:=[(2,.sl (x.map e8) fx),(3,.pt (aD c) 0),(4,.pt [af (tn:Nat),af d,af aw] 0),(7,.aL 0 v' 0 (t+1) c'),(8,af ((t+1):Nat))]) (hp:=[.cells (dK (jq c (⟨(tn:Int),d,aw⟩:bW) x (t+1))) 1 v']) 1 (by show _=[AB.cells (dK (jq c (⟨(tn:Int),d,aw⟩:bW) x (t+1))) 1 v'];rw [hTn];unfold dK;rw [List.map_append];rfl) ⟨rfl,rfl,rfl,rfl,aH (by omega),trivial⟩ (qq5 _) rfl (ia _ _)⟩
   ·have d2:decide ((m:Int) < ((c.aA.map bS).length:Int))=false:=decide_eq_false (by omega);refine aa (mu:=fun t=>Nat.beq t 30 || Nat.beq t 56 || Nat.beq t 69) ?_;repeat' first|refine u1 ?_|refine u2 ?_|fail
    refine aa (mu:=fun t=>Nat.beq t 30 || Nat.beq t 56 || Nat.beq t 69) ?_;repeat' first|refine u1 ?_|((with_reducible show RM.wpOp _ _ (.call _) _ _ _);refine RM.sD (cs:=dK B) (n:=t) (els:=[eL R]) rfl rfl rfl rfl rfl (fun el hel=>by rw [List.mem_singleton.1 hel];rfl) rfl rfl hgl hcap (by simp only [List.length_singleton];exact ⟨by show (_+1) * 24≤_;omega,by omega⟩) (fun v' c' hc'=>?_))|refine u2 ?_|fail
    refine aa (mu:=fun t=>Nat.beq t 30 || Nat.beq t 56 || Nat.beq t 69) ?_;repeat' first|refine u1 ?_|refine u2 ?_|fail
    exact ⟨(t+1,v',c'),⟨htt,hc'⟩,(by dsimp only;omega),ak.to (l:=[(2,.sl (x.map e8) fx),(3,.pt (aD c) 0),(4,.pt [af (tn:Nat),af d,af aw] 0),(7,.aL 0 v' 0 (t+1) c'),(8,af ((t+1):Nat))]) (hp:=[.cells (dK (jq c (⟨(tn:Int),d,aw⟩:bW) x (t+1))) 1 v']) 1 (by show _=[AB.cells (dK (jq c (⟨(tn:Int),d,aw⟩:bW) x (t+1))) 1 v'];rw [hTn];unfold dK;rw [List.map_append];rfl) ⟨rfl,rfl,rfl,rfl,aH (by omega),trivial⟩ (qq5 _) rfl (ia _ _)⟩
 ·have dl:decide ((t:Int) < (tn:Int))=false:=decide_eq_false (by omega);have htn:t=tn:=by omega
  have hfin:jq c (⟨(tn:Int),d,aw⟩:bW) x tn=B:=by rw [←hB,htn]
  rw [hfin];clear hB hfin hTn;subst htn;have hr:=zA B;rw [hTlB] at hr;refine aa (mu:=fun t=>Nat.beq t 30 || Nat.beq t 56 || Nat.beq t 69) ?_;repeat' first|refine u1 ?_|refine u2 ?_|fail
  exact ⟨[_],⟨Fz.row (es:=1) rfl hr.1 (by rw [List.length_map];exact hTlB) (uA B) hr.2.2 (by rw [fZ];exact nR _) (fun h=>Bool.noConfusion h),trivial⟩,rfl⟩
end Go.Proofs.YtlpmfgmldmdggaaGreat
open Go Go.RM
namespace Go.Proofs.YtlpmfgmldmdggaaGreat
set_option maxRecDepth 100000
abbrev Mc:Sh:=.int .u8
theorem MY {l:List AV} (h:TV Mc l):∃ n:Nat,n≤255∧l=[.fl (.int .u8 ((n:Nat):Int))]:=by obtain ⟨n,hn,rfl⟩:=MS h;have h1:IntKind.u8.min=0:=rfl;have h2:IntKind.u8.max=255:=rfl;simp [Lit.wf] at hn;refine ⟨n.toNat,by omega,?_⟩;rw [Int.toNat_of_nonneg (by omega)]
theorem Md {l:List AV} (h:TV (.slice Mc) l):∃ x:List Nat,x.length≤maxLen∧l=[.sl (x.map e8) false]:=by
 obtain ⟨a,ha,ha',rfl⟩:=L5 h;obtain ⟨a,_,rfl⟩:=Dl (e:=e8) (P:=fun _=>True) fun el hel=>by obtain ⟨n,_,hn⟩:=MY (ha' el hel);exact ⟨n,trivial,hn⟩
 exact ⟨a,by simpa using ha,rfl⟩
end Go.Proofs.YtlpmfgmldmdggaaGreat
open Go Go.RM
namespace Go.Proofs.YtlpmfgmldmdggaaGreat
set_option maxRecDepth 100000
theorem BI (c:aP):jG c []=false:=by
 unfold jG;rw [List.any_eq_false];intro r _;unfold kz oH;have h0:∀ L:List Nat,(L.countP fun m=>decide (gy c m=r) && gL [] (m:Nat))=0:=fun L=>List.countP_eq_zero.2 fun x _=>by simp [gL]
 rw [h0,qq7,decide_eq_true_eq,decide_eq_true_eq];omega
theorem DC (c:aP) {w:Int} (hw:0≤w) (b:List Int):ja c w b []=0:=by unfold ja Bs Et Es Er;rw [if_neg (by simp [fU]),if_neg (by simp [rC]),if_neg (by simp only [List.length_nil];omega),if_neg (by simp),if_neg (by rw [BI];simp)]
theorem wF (c:aP) (w:Int):∀ (B:List (List Int)) (b l:List Int),kD c w b (B++[l])=0 ↔ kD c w b B=0∧ja c w (B.getLastD b) l=0
 | [],b,l=>by
  show (if ja c w b l ≠ 0 then ja c w b l else 0)=0 ↔ (0:Int)=0∧ja c w b l=0;by_cases h:ja c w b l=0
  ·rw [if_neg (fun hh=>hh h)];exact ⟨fun _=>⟨rfl,h⟩,fun _=>rfl⟩
  ·rw [if_pos h];exact ⟨fun hh=>absurd hh h,fun hh=>hh.2⟩
 | a :: B,b,l=>by
  rw [List.getLastD_cons];show (if ja c w b a ≠ 0 then ja c w b a else kD c w a (B++[l]))=0 ↔ (if ja c w b a ≠ 0 then ja c w b a else kD c w a B)=0∧_;by_cases h:ja c w b a=0
  ·rw [if_neg (fun hh=>hh h),if_neg (fun hh=>hh h)];exact wF c w B a l
  ·rw [if_pos h,if_pos h];exact ⟨fun hh=>absurd hh h,fun hh=>absurd hh.1 h⟩
theorem yb {c:aP} {p:bW} (hp:uz p) (x:List Nat) {B:List (List Int)} (t:Nat) (hB:kD c p.aF [] B=0):∀ m,kD c p.aF [] (B++[anyI c p x B t m])=0
 | 0=>(wF c p.aF B [] []).2 ⟨hB,DC c (by have:=hp.aF;omega) _⟩
 | m+1=>by
  have ih:=yb (c:=c) hp x t hB m;unfold anyI;split
  ·rename_i h;exact (Lq h.2).2.2
  ·exact ih
theorem yc {c:aP} {p:bW} (hp:uz p) (x:List Nat):∀ t,kD c p.aF [] (jq c p x t)=0
 | 0=>rfl
 | t+1=>by
  have ih:=yc (c:=c) hp x t;show kD c p.aF [] (jq c p x t++[zJ c p x (jq c p x t) t])=0;unfold zJ;split
  ·exact (wF c p.aF _ [] []).2 ⟨ih,DC c (by have:=hp.aF;omega) _⟩
  ·exact yb hp x t ih _
theorem Lx:∀ n:Nat,n < 6→∀ x:Nat,x < n→fj (bL [(x:Int)])=[(x:Int)]∧bL [(x:Int)] < 2 ^ n:=by decide
theorem Ly:∀ n:Nat,n < 6→∀ x:Nat,x < n→∀ y:Nat,y < n→(¬ x < y∨(fj (bL [(x:Int),(y:Int)])=[(x:Int),(y:Int)]∧bL [(x:Int),(y:Int)] < 2 ^ n)):=by decide
theorem IE {c:aP} (hg:Good c) {p:bW} (hp:uz p) {b l:List Int} (h:ja c p.aF b l=0):fj (bL l)=l∧bL l ∈ wz c.aA.length p.aF:=by
 have hm:=hg.aA;have hw:=hp.aF
 have h1:fU 0 ((c.aA.length:Int) - 1) l=false:=by
  cases e:fU 0 ((c.aA.length:Int) - 1) l with
  | false=>rfl
  | true=>unfold ja at h;rw [if_pos e] at h;cases h
 have h2:rC l=false:=by
  cases e:rC l with
  | false=>rfl
  | true=>unfold ja Bs at h;rw [if_neg (by rw [h1];simp),if_pos e] at h;cases h
 have h3:(l.length:Int)≤p.aF:=by
  by_cases e:p.aF < (l.length:Int)
  ·unfold ja Bs Et at h;rw [if_neg (by rw [h1];simp),if_neg (by rw [h2];simp),if_pos e] at h;cases h
  ·omega
 have hmem:=J9.mem (c:=c) (p:=p) ⟨h1,h2,h3⟩
 have key:fj (bL l)=l∧bL l < 2 ^ c.aA.length:=by
  match l,h2,h3,hmem with
  | [],_,_,_=>exact ⟨rfl,Nat.two_pow_pos _⟩
  | [x],_,_,hmem =>have hx:=hmem x (by simp);obtain ⟨q,rfl⟩:∃ q:Nat,x=q:=⟨x.toNat,by omega⟩;exact Lx _ (by omega) q (by omega)
  | [x,y],h2,_,hmem =>have hx:=hmem x (by simp);have hy:=hmem y (by simp);have hlt:=CH h2 0 0 (by simp);have hlt:x < y:=hlt;obtain ⟨q,rfl⟩:∃ q:Nat,x=q:=⟨x.toNat,by omega⟩;obtain ⟨r,rfl⟩:∃ r:Nat,y=r:=⟨y.toNat,by omega⟩;exact (Ly _ (by omega) q (by omega) r (by omega)).resolve_left (fun hh=>hh (by omega))
  | _ :: _ :: _ :: _,_,h3,_=>simp only [List.length_cons] at h3;omega
 refine ⟨key.1,?_⟩;have h5:2 ^ c.aA.length≤2 ^ 5:=Nat.pow_le_pow_right (by decide) hm.2;unfold wz;rw [List.mem_filter,qq7,decide_eq_true_eq,decide_eq_true_eq,key.1];exact ⟨Dy _ (by omega),key.2,h3⟩
theorem BJ {c:aP} (hg:Good c) {p:bW} (hp:uz p):∀ (T:List (List Int)) (pre:List Nat),lW pre→kD c p.aF (fj (dY pre)) T=0→(pre++T.map bL ∈ jo (jn c p.aF) T.length pre)∧(T.map bL).map fj=T
 | [],pre,_,_=>⟨by rw [List.map_nil,List.append_nil];exact List.mem_singleton.2 rfl,rfl⟩
 | l :: T,pre,h32,h=>by
  have h:(if ja c p.aF (fj (dY pre)) l ≠ 0 then ja c p.aF (fj (dY pre)) l else kD c p.aF l T)=0:=h;by_cases h0:ja c p.aF (fj (dY pre)) l=0
  ·rw [if_neg (fun hh=>hh h0)] at h;obtain ⟨e1,e2⟩:=IE hg hp h0;have ha32:=CI _ (List.mem_filter.1 e2).1;have hb:=(zF hg (p:=p) (uC h32) e2).1 (by rw [e1];exact h0);have hs:bL l ∈ jn c p.aF:=List.mem_filter.2 ⟨e2,hb.2⟩;obtain ⟨q1,q2⟩:=BJ hg hp T (pre++[bL l]) (h32.snoc ha32) (by rw [ya,e1];exact h);refine ⟨List.mem_flatMap.2 ⟨bL l,hs,?_⟩,by rw [List.map_cons,List.map_cons,e1,q2]⟩;rw [if_pos (by rw [Nat.and_comm];exact hb.1),List.map_cons];rw [List.append_assoc] at q1;exact q1
  ·rw [if_pos h0] at h;exact absurd h h0
theorem BK {c:aP} (hg:Good c) {p:bW}:∀ (k:Nat) (pre:List Nat),lW pre→∀ t ∈ jo (jn c p.aF) k pre,∃ u,t=pre++u∧kD c p.aF (fj (dY pre)) (u.map fj)=0
 | 0,pre,_,t,ht=>⟨[],by rw [List.mem_singleton.1 ht,List.append_nil],rfl⟩
 | k+1,pre,h32,t,ht=>by
  obtain ⟨s,hs,ht⟩:=List.mem_flatMap.1 ht;split at ht
  ·rename_i hm;have ha32:=sN hg hs;obtain ⟨u,h1,h2⟩:=BK hg k (pre++[s]) (h32.snoc ha32) t ht;obtain ⟨hs1,hs2⟩:=List.mem_filter.1 hs;have hb:=(zF hg (p:=p) (uC h32) hs1).2 ⟨by rw [Nat.and_comm];exact hm,hs2⟩;refine ⟨s :: u,by rw [h1,List.append_assoc];rfl,?_⟩;show (if ja c p.aF (fj (dY pre)) (fj s) ≠ 0 then ja c p.aF (fj (dY pre)) (fj s) else kD c p.aF (fj s) (u.map fj))=0;rw [if_neg (fun hh=>hh hb)];rw [ya] at h2;exact h2
  ·cases ht
theorem GQ {c:aP} (hg:Good c) {p:bW} (hp:uz p) (h0:nQ c p=0):uB c p (lX c p)=0:=by obtain ⟨u,h1,h2⟩:=BK hg _ [] (fun x hx=>by cases hx) _ (oC hg hp).mem;rw [List.nil_append] at h1;have hl:=(zI hg hp).2;unfold uB lX;rw [if_neg (fun hh=>hh h0),if_neg (fun hh=>hh (by rw [List.length_map];exact hl)),h1];exact h2
theorem GR {c:aP} (hg:Good c) {p:bW} (hp:uz p):Ii (pT c p (lX c p) c.aA.length)=(sO c p).2:=by rw [(oC hg hp).val];exact DA hg p (zI hg hp).1
theorem EC {c:aP} (hg:Good c) {p:bW} (hp:uz p) {T:List (List Int)} (hT:(T.length:Int)=p.turns) (h:kD c p.aF [] T=0):(sO c p).2≤Ii (pT c p T c.aA.length):=by obtain ⟨q1,q2⟩:=BJ hg hp T [] (fun x hx=>by cases hx) h;rw [List.nil_append,show T.length=p.turns.toNat by omega] at q1;have h3:=(oC hg hp).least _ q1;have h32:=(zH (S:=jn c p.aF) (fun a ha=>sN hg ha) _ [] (fun x hx=>by cases hx) _ q1).1;rw [←DA hg p h32,q2] at h3;exact h3
