/-
  Contracts of the program's functions and of the document's. Lemmas alone; their conditions stand in them.
-/
import Derived.Test.YtlpmfgmldmdggaaGreatK17
open Go Go.RM
namespace Go.Proofs.YtlpmfgmldmdggaaGreat
set_option maxRecDepth 100000
set_option maxHeartbeats 4000000
theorem th (c:aS) (w:Int) (k:Nat):eM c w (k+1)=if CU c w k=true then eM c w k++[k] else eM c w k:=by
 unfold eM;rw [List.range_succ,List.filter_append,List.filter_cons,List.filter_nil];split
 ·rfl
 ·rw [List.append_nil]
theorem Ht (c:aS) (w:Int) (k:Nat):(eM c w k).length≤k:=by
 have:=List.length_filter_le (CU c w) (List.range k)
 rwa [List.length_range] at this
theorem K1 (one:Bool) (c:aS) (hg:Good c) (p:dm) (hp:wM p):Pu one 113 [.ag (gU c p)] (.sl (ints (nI (kM c p.aN))) false):=by
 have em:((c.aH.map bq).length:Int)=c.aH.length:=by simp
 have hm5:c.aH.length≤5:=hg.aH.2;have h32:2 ^ c.aH.length≤2 ^ 5:=Nat.pow_le_pow_right (by decide) hm5;have hm8:c.aH.length < 8:=by omega
 refine ak.body (fn:=Tryz.f113) rfl rfl rfl rfl ?_;refine aa (mu:=fun t=>Nat.beq t 28) ?_;repeat' first|refine u1 ?_|((with_reducible show aV _ _ _ _ _ _ _ _ _);refine RM.zH (j:=c.aH.length) rfl (aD em) hm8 ?_)|refine u2 ?_|fail
 refine aB.aP (ah.trans (ah.nW 1) (ah.JJ (l:=[(1,.pt (gU c p) 0),(2,.aI 0 0 0 (eM c p.aN 0).length 0),(8,af ((2 ^ c.aH.length:Nat):Int)),(9,af (0:Nat))]) (hp:=[.cells (ay (nI (eM c p.aN 0))) 1 0]) 1 rfl ⟨eP.refl _,eP.nV,eP.refl _,eP.refl _,trivial⟩ (qq5 _) rfl (av _ _))) ?_;refine aB.loop (fun x:Nat × Nat × Nat=>x.1≤2 ^ c.aH.length∧(x.2.2=(eM c p.aN x.1).length∨x.2.2=(eM c p.aN x.1).length+1)) (fun x=>⟨aL [(1,.pt (gU c p) 0),(2,.aI 0 x.2.1 0 (eM c p.aN x.1).length x.2.2),(8,af ((2 ^ c.aH.length:Nat):Int)),(9,af (x.1:Nat))],[.cells (ay (nI (eM c p.aN x.1))) 1 x.2.1],bp.none,false,0⟩) (fun x=>2 ^ c.aH.length - x.1) ?_ (0,0,0) ⟨qq5 _,.inl rfl⟩;rintro ⟨k,v,cc⟩ ⟨hk,hcap⟩;dsimp only at hk hcap;show aB _ _ _ _ ⟨aL [(1,.pt (gU c p) 0),(2,.aI 0 v 0 (eM c p.aN k).length cc),(8,af ((2 ^ c.aH.length:Nat):Int)),(9,af (k:Nat))],[.cells (ay (nI (eM c p.aN k))) 1 v],bp.none,false,0⟩ _;by_cases hlt:k < 2 ^ c.aH.length
 ·have dl:decide ((k:Int) < ((2 ^ c.aH.length:Nat):Int))=true:=decide_eq_true (by omega);have k32:k < 32:=Nat.lt_of_lt_of_le hlt h32;have o1:=IW true k k32;have o2:=GF true c p (bI c 0 c.aH.length) (bI c 1 c.aH.length) (bI c 2 c.aH.length) k (oP 0 (by omega)) (oP 1 (by omega)) (oP 2 (by omega)) k32;have hgl:(ay (nI (eM c p.aN k))).length=(eM c p.aN k).length * 1:=by rw [List.length_map,List.length_map];omega
  have hsl:=Ht c p.aN k;have hel:=jK k 5;have eel:((ints (cV k)).length:Int)=(cV k).length:=by simp
  by_cases ha:p.aN < ((cV k).length:Int)
  ·have d1:decide (p.aN < ((ints (cV k)).length:Int))=true:=decide_eq_true (by omega);have hs:eM c p.aN (k+1)=eM c p.aN k:=by rw [th,if_neg];unfold CU;rw [decide_eq_false (show ¬ ((cV k).length:Int)≤p.aN by omega)];simp
   refine aa (mu:=fun t=>Nat.beq t 28) ?_;repeat' first|refine u1 ?_|(refine ⟨_,_,.inl ⟨rfl,rfl⟩,o1,?_⟩)|(refine ⟨_,_,.inl ⟨rfl,rfl⟩,o2,?_⟩)|refine u2 ?_|fail
   exact ⟨(k+1,v,cc),⟨hlt,by dsimp only;rw [hs];exact hcap⟩,(by dsimp only;omega),ah.to (l:=[(1,.pt (gU c p) 0),(2,.aI 0 v 0 (eM c p.aN (k+1)).length cc),(8,af ((2 ^ c.aH.length:Nat):Int)),(9,af ((k+1):Nat))]) (hp:=[.cells (ay (nI (eM c p.aN (k+1)))) 1 v]) 1 (by show _=[AB.cells (ay (nI (eM c p.aN (k+1)))) 1 v];rw [hs];rfl) ⟨rfl,by rw [hs];rfl,rfl,aD (by simp),trivial⟩ (qq5 _) rfl (av _ _)⟩
  ·have d1:decide (p.aN < ((ints (cV k)).length:Int))=false:=decide_eq_false (by omega)
   cases hsp:BL c k with
   | false =>
    rw [show zM (bI c 0 c.aH.length) (bI c 1 c.aH.length) (bI c 2 c.aH.length) k=false from hsp] at o2;have hs:eM c p.aN (k+1)=eM c p.aN k:=by rw [th,if_neg];unfold CU;rw [hsp,Bool.and_false];simp
    refine aa (mu:=fun t=>Nat.beq t 28) ?_;repeat' first|refine u1 ?_|(refine ⟨_,_,.inl ⟨rfl,rfl⟩,o1,?_⟩)|(refine ⟨_,_,.inl ⟨rfl,rfl⟩,o2,?_⟩)|refine u2 ?_|fail
    exact ⟨(k+1,v,cc),⟨hlt,by dsimp only;rw [hs];exact hcap⟩,(by dsimp only;omega),ah.to (l:=[(1,.pt (gU c p) 0),(2,.aI 0 v 0 (eM c p.aN (k+1)).length cc),(8,af ((2 ^ c.aH.length:Nat):Int)),(9,af ((k+1):Nat))]) (hp:=[.cells (ay (nI (eM c p.aN (k+1)))) 1 v]) 1 (by show _=[AB.cells (ay (nI (eM c p.aN (k+1)))) 1 v];rw [hs];rfl) ⟨rfl,by rw [hs];rfl,rfl,aD (by simp),trivial⟩ (qq5 _) rfl (av _ _)⟩
   | true =>
    rw [show zM (bI c 0 c.aH.length) (bI c 1 c.aH.length) (bI c 2 c.aH.length) k=true from hsp] at o2;have hs:eM c p.aN (k+1)=eM c p.aN k++[k]:=by rw [th,if_pos];unfold CU;rw [decide_eq_true (by omega),hsp];rfl
    have hsl2:(eM c p.aN (k+1)).length=(eM c p.aN k).length+1:=by rw [hs,List.length_append];rfl
    refine aa (mu:=fun t=>Nat.beq t 28) ?_;repeat' first|refine u1 ?_|(refine ⟨_,_,.inl ⟨rfl,rfl⟩,o1,?_⟩)|(refine ⟨_,_,.inl ⟨rfl,rfl⟩,o2,?_⟩)|((with_reducible show RM.wpOp _ _ (.call _) _ _ _);refine RM.wD (cs:=ay (nI (eM c p.aN k))) (n:=(eM c p.aN k).length) (els:=[[af (k:Int)]]) rfl rfl rfl rfl rfl (fun el hel=>by rw [List.mem_singleton.1 hel];rfl) rfl rfl hgl hcap (by simp only [List.length_singleton];omega) (fun v' c' hc'=>?_))|refine u2 ?_|fail
    exact ⟨(k+1,v',c'),⟨hlt,by dsimp only;rw [hsl2];exact hc'⟩,(by dsimp only;omega),ah.to (l:=[(1,.pt (gU c p) 0),(2,.aI 0 v' 0 (eM c p.aN (k+1)).length c'),(8,af ((2 ^ c.aH.length:Nat):Int)),(9,af ((k+1):Nat))]) (hp:=[.cells (ay (nI (eM c p.aN (k+1)))) 1 v']) 1 (by show _=[AB.cells (ay (nI (eM c p.aN (k+1)))) 1 v'];rw [hs];unfold ay nI;rw [List.map_append,List.map_append];rfl) ⟨rfl,by rw [hsl2];rfl,rfl,aD (by simp),trivial⟩ (qq5 _) rfl (av _ _)⟩
 ·have dl:decide ((k:Int) < ((2 ^ c.aH.length:Nat):Int))=false:=decide_eq_false (by omega);have hk5:k=2 ^ c.aH.length:=by omega
  subst hk5;have hpl:=(set_perm hg p.aN).length_eq;have h16:=DK hg hp;have h0:=List.length_pos_of_mem (BM hg hp);have hin:z6 (nI (eM c p.aN (2 ^ c.aH.length))):=fun x hx=>by obtain ⟨a,ha,rfl⟩:=List.mem_map.1 hx;have:=Nat.lt_of_lt_of_le (List.mem_range.1 (List.mem_filter.1 ha).1) h32;omega
  have hN:(nI (eM c p.aN (2 ^ c.aH.length))).length=(eM c p.aN (2 ^ c.aH.length)).length:=List.length_map _;refine aa (mu:=fun t=>Nat.beq t 28) ?_;repeat' first|refine u1 ?_|refine u2 ?_|fail
  refine Js one (nI (eM c p.aN (2 ^ c.aH.length))) (N:=(eM c p.aN (2 ^ c.aH.length)).length) hN (by omega) hin (fun S hS1 hS2 hS3=>?_);have hS:=GW hg hS2 hS1 hS3;subst hS;repeat' first|refine u1 ?_|refine u2 ?_|fail
  exact ⟨[_],⟨rO rfl hS2,trivial⟩,rfl⟩
end Go.Proofs.YtlpmfgmldmdggaaGreat
open Go Go.RM
namespace Go.Proofs.YtlpmfgmldmdggaaGreat
set_option maxRecDepth 100000
set_option maxHeartbeats 4000000
abbrev Ju (c:aS) (p:dm) (S:List Nat) (u:Value):List AV:=[.ptr 1 0 0,.pt (gU c p) 0,.pt [.oq u] 0,.pt [.sl (ints (nI S)) false] 0,.ptr 2 0 0]
abbrev uD (c:aS) (p:dm) (S:List Nat) (u:Value) (tn:Nat) (W:List Int) (m:Nat):List AB:=[.cells (ay W) 1 0,.cells [.aI 0 0 0 m (tn+3)] 0 0,.cells [.fn 115 [] (Ju c p S u)] 0 0]
theorem Nw (W:List Int):(ay W).all MT=true:=by rw [List.all_map,List.all_eq_true];intro x _;rfl
theorem uR (c:aS) (p:dm) (S:List Nat) (u:Value) (tn:Nat) (W:List Int) (m:Nat):(uD c p S u tn W m).all (AB.i5 3)=true:=by have h1:AB.i5 3 (.cells (ay W) 1 0)=true:=iu 3 (fun _=>rfl) _;simp only [List.all_cons,List.all_nil,h1,Bool.true_and];rfl
theorem K3 {c:aS} {p:dm} {S:List Nat} {u:Value} {tn:Nat} {W:List Int} {m:Nat} {l:List Nat} (hW:W.length=tn) (hm:m≤tn) (hl:W.take m=nI l):MV (uD c p S u tn W m) [.aI 0 0 0 m (tn+3)] [.sl (ints (nI l)) false]:=by
 have hll:l.length=m:=by have:=congrArg List.length hl;rw [List.length_take,List.length_map] at this;omega
 refine ⟨rfl,fun i a x h1 h2=>?_⟩
 cases i with
 | zero =>cases h1;cases h2;refine Ld.row (es:=1) (cs:=ay W) rfl (by rw [List.length_map];omega) (by rw [List.length_map,List.length_map];exact hll) (fun el hel=>by obtain ⟨x,_,rfl⟩:=List.mem_map.1 hel;rfl) ?_ (Nw W);rw [List.drop_zero,Nat.mul_one,←hl,gi];exact List.map_take
 | succ i=>cases h1
def ob (S:List Nat) (k:Nat) (pre:List Nat) (q:Nat):List (List Nat):=(S.take q).flatMap fun s=>if fA pre &&& s=0 then kG S k (pre++[s]) else []
theorem EL {S:List Nat} {q:Nat} (h:q < S.length) (k:Nat) (pre:List Nat):ob S k pre (q+1)=ob S k pre q++if fA pre &&& S[q]=0 then kG S k (pre++[S[q]]) else []:=by unfold ob;rw [List.take_add_one,List.getElem?_eq_getElem h,List.flatMap_append];show _++List.flatMap _ [S[q]]=_;rw [List.flatMap_cons,List.flatMap_nil,List.append_nil]
theorem Hu (S:List Nat) (k:Nat) (pre:List Nat):ob S k pre S.length=kG S (k+1) pre:=by unfold ob;rw [List.take_length];rfl
theorem BS {S:List Nat} (k:Nat) (pre:List Nat) (q:Nat):∃ R,kG S (k+1) pre=ob S k pre q++R:=by refine ⟨(S.drop q).flatMap fun s=>if fA pre &&& s=0 then kG S k (pre++[s]) else [],?_⟩;unfold ob;rw [←List.flatMap_append,List.take_append_drop];rfl
theorem take_set {W:List Int} {m:Nat} {l:List Nat} (hm:m < W.length) (hl:W.take m=nI l) (s:Nat):(W.set m (s:Int)).take (m+1)=nI (l++[s]):=by rw [List.take_add_one,List.getElem?_set_self hm,List.take_set_of_le (qq6 _),hl];unfold nI;rw [List.map_append];rfl
theorem yC {W:List Int} {m:Nat} {l:List Nat} {s:Nat} (h:W.take (m+1)=nI (l++[s])) (hl:l.length=m):W.take m=nI l:=by have h2:=congrArg (List.take m) h;rw [List.take_take,Nat.min_eq_left (by omega)] at h2;rw [h2];unfold nI;rw [List.map_append,List.take_left' (by rw [List.length_map];exact hl)]
theorem Jv {W:List Int} {m:Nat} {l:List Nat} (h:W.take (m+1)=nI l) (hl:l.length=m+1):W[m]?=some ((fA l:Nat):Int):=by
 have h1:(W.take (m+1))[m]?=W[m]?:=by rw [List.getElem?_take];exact if_pos (Nat.lt_succ_self m)
 rw [←h1,h];unfold nI fA;rw [List.getElem?_map,List.getLastD_eq_getLast?,List.getLast?_eq_getElem?,hl,Nat.add_sub_cancel]
 cases hh:l[m]? with
 | none=>have:=List.getElem?_eq_none_iff.1 hh;omega
 | some x=>rfl
theorem C1 (one:Bool) (c:aS) {p:dm} {tn:Nat} (htn:p.turns=(tn:Int)) (h4:tn≤4) {S:List Nat} (hS:l8 S) (h16:S.length≤16) (u:Value) (J:Nat→bp) (Stop:bp→Prop) (xs:List (List Nat))
  (hy:∀ (i:Nat) (x:List AV),(xs.map fun t=>[AV.sl (ints (nI t)) false])[i]?=some x→zO TT TB one u x (J i) (CE (J (i+1)) Stop)) :
  ∀ (k m i:Nat) (pre:List Nat) (W:List Int),m+k=tn→pre.length=m→W.length=tn→W.take m=nI pre→l8 pre→(∀ j x,(kG S k pre)[j]?=some x→xs[i+j]?=some x) →
   au TT TB one (.fn 115 [] (Ju c p S u)) [] (uD c p S u tn W m) (J i)
    fun v hp' a'=>(∃ W',W'.length=tn∧W'.take m=nI pre∧hp'=uD c p S u tn W' m)∧∃ b,v=BB b∧CE (J (i+(kG S k pre).length)) Stop b a'
 | 0,m,i,pre,W,hk,hm,hW,hT,hp,hat=>by
  have d1:decide ((m:Int)=p.turns)=true:=decide_eq_true (by omega);have hx:(xs.map fun t=>[AV.sl (ints (nI t)) false])[i]?=some [.sl (ints (nI pre)) false]:=by have:=hat 0 pre rfl;rw [Nat.add_zero] at this;rw [List.getElem?_map,this];rfl
  have hyx:=hy i _ hx;refine au.body (fn:=Tryz.f115) rfl rfl rfl ?_;refine qq1 ?_;repeat' first|refine u1 ?_|refine u2 ?_|fail
  refine au.mono (hyx _ _ (K3 hW (by omega) hT)) (fun a hp' amb' hq=>?_);obtain ⟨rfl,b,rfl,hb⟩:=hq;repeat' first|refine u1 ?_|refine u2 ?_|fail
  exact ⟨⟨W,hW,hT,rfl⟩,b,rfl,hb⟩
 | k+1,m,i,pre,W,hk,hm,hW,hT,hp,hat=>by
  have d1:decide ((m:Int)=p.turns)=false:=decide_eq_false (by omega);have eS:((ints (nI S)).length:Int)=S.length:=by simp
  refine au.body (fn:=Tryz.f115) rfl rfl rfl ?_;refine qq1 ?_;repeat' first|refine u1 ?_|refine u2 ?_|fail
  refine aB.aP (ah.to (l:=[(0,.ptr 1 0 0),(1,.pt (gU c p) 0),(2,.pt [.oq u] 0),(3,.pt [(.sl (ints (nI S)) false)] 0),(4,.ptr 2 0 0),(5,BB false),(18,(.sl (ints (nI S)) false)),(19,af (S.length:Nat)),(20,af (0:Nat))]) (hp:=uD c p S u tn W m) 3 rfl ⟨rfl,rfl,rfl,rfl,rfl,rfl,rfl,aD eS,rfl,trivial⟩ (qq6 _) rfl (uR c p S u tn W m)) ?_;refine aB.loop (fun x:Nat × List Int=>x.1≤S.length∧x.2.length=tn∧x.2.take m=nI pre) (fun x=>⟨aL [(0,.ptr 1 0 0),(1,.pt (gU c p) 0),(2,.pt [.oq u] 0),(3,.pt [(.sl (ints (nI S)) false)] 0),(4,.ptr 2 0 0),(5,BB false),(18,(.sl (ints (nI S)) false)),(19,af (S.length:Nat)),(20,af (x.1:Nat))],uD c p S u tn x.2 m,J (i+(ob S k pre x.1).length),false,3⟩) (fun x=>S.length - x.1) ?_ (0,W) ⟨qq5 _,hW,hT⟩;rintro ⟨q,W⟩ ⟨hq,hW,hT⟩;dsimp only at hq hW hT;show aB _ _ _ _ ⟨aL [(0,.ptr 1 0 0),(1,.pt (gU c p) 0),(2,.pt [.oq u] 0),(3,.pt [(.sl (ints (nI S)) false)] 0),(4,.ptr 2 0 0),(5,BB false),(18,(.sl (ints (nI S)) false)),(19,af (S.length:Nat)),(20,af (q:Nat))],uD c p S u tn W m,J (i+(ob S k pre q).length),false,3⟩ _;by_cases hqs:q < S.length
  ·have d2:decide ((q:Int) < (S.length:Int))=true:=decide_eq_true (by omega);have hcs:=EL hqs k pre;have hatS:(ints (nI S))[((q:Nat):Int).toNat]?=some (eI ((S[q]:Nat):Int)):=by rw [dB (by rw [List.length_map];exact hqs),List.getElem_map]
   have hs32:=hS _ (List.getElem_mem hqs)
   generalize S[q]=s at *
   by_cases hm0:m=0
   ·have d3:decide ((0:Int) < (m:Int))=false:=decide_eq_false (by omega);have hpe:pre=[]:=List.length_eq_zero_iff.1 (by omega);have hz:fA pre &&& s=0:=by rw [hpe];exact Nat.zero_and s
    rw [if_pos hz] at hcs;have hsp:aQ (ay W) [af (s:Nat)] (0+m * 1)=ay (W.set m (s:Int)):=rP (k:=m) (by omega) _;have hat1:∀ j x,(kG S k (pre++[s]))[j]?=some x→xs[i+(ob S k pre q).length+j]?=some x:=fun j x hj=>by obtain ⟨R,hR⟩:=BS (S:=S) k pre (q+1);rw [Nat.add_assoc];refine hat _ x ?_;rw [hR,hcs,List.append_assoc,List.getElem?_append_right (Nat.le_add_right _ _),Nat.add_sub_cancel_left,List.getElem?_append_left (List.getElem?_eq_some_iff.1 hj).1];exact hj
    have c1:=C1 one c htn h4 hS h16 u J Stop xs hy k (m+1) (i+(ob S k pre q).length) (pre++[s]) (W.set m (s:Int)) (by omega) (by rw [List.length_append,hm];rfl) (by rw [List.length_set];exact hW) (take_set (by omega) hT s) (hp.snoc hs32) hat1;rw [show uD c p S u tn (W.set m (s:Int)) (m+1)=[.cells (aQ (ay W) [af (s:Nat)] (0+m * 1)) 1 0,.cells [.aI 0 0 0 (m+1) (tn+3)] 0 0,.cells [.fn 115 [] (Ju c p S u)] 0 0] from by rw [hsp]] at c1;have hln:0+(m+1) * 1≤(ay W).length∧0 < (ay W).length:=by rw [List.length_map];omega
    refine qq1 ?_;repeat' first|refine u1 ?_|(refine fun h=>h)|(refine fun h=>h)|(refine ⟨[af (s:Nat)],⟨by omega,hatS⟩,rfl,?_⟩)|(refine RM.Me (cs:=ay W) (els:=[[af (s:Nat)]]) rfl rfl rfl rfl rfl (fun el hel=>by rw [List.mem_singleton.1 hel];rfl) rfl rfl (fun h=>by cases h) (by show m+1+3≤tn+3;omega) hln (by show (m+1) * 8≤_∧_;simp only [List.length_singleton];omega) ?_)|refine u2 ?_|fail
    refine au.mono c1 (fun a hp' amb' hq=>?_);obtain ⟨⟨W',hW',hT',rfl⟩,b,rfl,hb⟩:=hq;have hT2:=yC hT' hm
    rcases hb with ⟨rfl,rfl⟩|⟨rfl,hstop⟩
    ·have hJ:i+(ob S k pre (q+1)).length=i+(ob S k pre q).length+(kG S k (pre++[s])).length:=by rw [hcs,List.length_append,Nat.add_assoc]
     repeat' first|refine u1 ?_|(refine RM.Jt (h:=m) rfl (aD (by omega)) rfl ⟨by omega,by omega⟩ (qq6 _) ?_)|refine u2 ?_|fail
     refine ⟨(q+1,W'),⟨hqs,hW',hT2⟩,(by dsimp only;omega),?_⟩;dsimp only;rw [hJ];exact ah.to (l:=[(0,.ptr 1 0 0),(1,.pt (gU c p) 0),(2,.pt [.oq u] 0),(3,.pt [(.sl (ints (nI S)) false)] 0),(4,.ptr 2 0 0),(5,BB false),(18,(.sl (ints (nI S)) false)),(19,af (S.length:Nat)),(20,af ((q+1):Nat))]) (hp:=uD c p S u tn W' m) 3 rfl ⟨rfl,rfl,rfl,rfl,rfl,rfl,rfl,rfl,aD (by simp),trivial⟩ (qq6 _) rfl (uR c p S u tn W' m)
    ·repeat' first|refine u1 ?_|(refine RM.Jt (h:=m) rfl (aD (by omega)) rfl ⟨by omega,by omega⟩ (qq6 _) ?_)|refine u2 ?_|fail
     exact ⟨⟨W',hW',hT2,rfl⟩,false,rfl,.inr ⟨rfl,hstop⟩⟩
   ·have d3:decide ((0:Int) < (m:Int))=true:=decide_eq_true (by omega);have hla:=zU hp;have hWl:W[m - 1]?=some ((fA pre:Nat):Int):=Jv (m:=m - 1) (by rw [show m - 1+1=m by omega];exact hT) (by omega);have g1:(ay W)[0+(((m:Nat):Int) - 1).toNat * 1]?=some (af (fA pre:Nat)):=by rw [show (((m:Nat):Int) - 1).toNat=m - 1 by omega,Nat.zero_add,Nat.mul_one,List.getElem?_map,hWl];rfl
    by_cases hz:fA pre &&& s=0
    ·have d4:(!decide (((fA pre &&& s:Nat):Int)=0))=false:=by rw [hz];rfl
     rw [if_pos hz] at hcs;have hsp:aQ (ay W) [af (s:Nat)] (0+m * 1)=ay (W.set m (s:Int)):=rP (k:=m) (by omega) _;have hat1:∀ j x,(kG S k (pre++[s]))[j]?=some x→xs[i+(ob S k pre q).length+j]?=some x:=fun j x hj=>by obtain ⟨R,hR⟩:=BS (S:=S) k pre (q+1);rw [Nat.add_assoc];refine hat _ x ?_;rw [hR,hcs,List.append_assoc,List.getElem?_append_right (Nat.le_add_right _ _),Nat.add_sub_cancel_left,List.getElem?_append_left (List.getElem?_eq_some_iff.1 hj).1];exact hj
     have c1:=C1 one c htn h4 hS h16 u J Stop xs hy k (m+1) (i+(ob S k pre q).length) (pre++[s]) (W.set m (s:Int)) (by omega) (by rw [List.length_append,hm];rfl) (by rw [List.length_set];exact hW) (take_set (by omega) hT s) (hp.snoc hs32) hat1;rw [show uD c p S u tn (W.set m (s:Int)) (m+1)=[.cells (aQ (ay W) [af (s:Nat)] (0+m * 1)) 1 0,.cells [.aI 0 0 0 (m+1) (tn+3)] 0 0,.cells [.fn 115 [] (Ju c p S u)] 0 0] from by rw [hsp]] at c1;have hln:0+(m+1) * 1≤(ay W).length∧0 < (ay W).length:=by rw [List.length_map];omega
     refine qq1 ?_;repeat' first|refine u1 ?_|((with_reducible show RM.wpOp _ _ (.load _ _) _ _ _);refine RM.bD rfl rfl rfl g1 ?_)|((with_reducible show aV _ _ _ _ _ _ _ _ _);refine RM.JR (m:=fA pre) (n:=s) rfl rfl (by omega) (by omega) ?_)|(refine ⟨[af (s:Nat)],⟨by omega,hatS⟩,rfl,?_⟩)|(refine RM.Me (cs:=ay W) (els:=[[af (s:Nat)]]) rfl rfl rfl rfl rfl (fun el hel=>by rw [List.mem_singleton.1 hel];rfl) rfl rfl (fun h=>by cases h) (by show m+1+3≤tn+3;omega) hln (by show (m+1) * 8≤_∧_;simp only [List.length_singleton];omega) ?_)|refine u2 ?_|fail
     refine au.mono c1 (fun a hp' amb' hq=>?_);obtain ⟨⟨W',hW',hT',rfl⟩,b,rfl,hb⟩:=hq;have hT2:=yC hT' hm
     rcases hb with ⟨rfl,rfl⟩|⟨rfl,hstop⟩
     ·have hJ:i+(ob S k pre (q+1)).length=i+(ob S k pre q).length+(kG S k (pre++[s])).length:=by rw [hcs,List.length_append,Nat.add_assoc]
      repeat' first|refine u1 ?_|(refine RM.Jt (h:=m) rfl (aD (by omega)) rfl ⟨by omega,by omega⟩ (qq6 _) ?_)|refine u2 ?_|fail
      refine ⟨(q+1,W'),⟨hqs,hW',hT2⟩,(by dsimp only;omega),?_⟩;dsimp only;rw [hJ];exact ah.to (l:=[(0,.ptr 1 0 0),(1,.pt (gU c p) 0),(2,.pt [.oq u] 0),(3,.pt [(.sl (ints (nI S)) false)] 0),(4,.ptr 2 0 0),(5,BB false),(18,(.sl (ints (nI S)) false)),(19,af (S.length:Nat)),(20,af ((q+1):Nat))]) (hp:=uD c p S u tn W' m) 3 rfl ⟨rfl,rfl,rfl,rfl,rfl,rfl,rfl,rfl,aD (by simp),trivial⟩ (qq6 _) rfl (uR c p S u tn W' m)
     ·repeat' first|refine u1 ?_|(refine RM.Jt (h:=m) rfl (aD (by omega)) rfl ⟨by omega,by omega⟩ (qq6 _) ?_)|refine u2 ?_|fail
      exact ⟨⟨W',hW',hT2,rfl⟩,false,rfl,.inr ⟨rfl,hstop⟩⟩
    ·have d4:(!decide (((fA pre &&& s:Nat):Int)=0))=true:=by rw [decide_eq_false (by omega)];rfl
     rw [if_neg hz,List.append_nil] at hcs;refine qq1 ?_;repeat' first|refine u1 ?_|((with_reducible show RM.wpOp _ _ (.load _ _) _ _ _);refine RM.bD rfl rfl rfl g1 ?_)|((with_reducible show aV _ _ _ _ _ _ _ _ _);refine RM.JR (m:=fA pre) (n:=s) rfl rfl (by omega) (by omega) ?_)|(refine ⟨[af (s:Nat)],⟨by omega,hatS⟩,rfl,?_⟩)|refine u2 ?_|fail
     refine ⟨(q+1,W),⟨hqs,hW,hT⟩,(by dsimp only;omega),?_⟩;dsimp only;rw [hcs];exact ah.to (l:=[(0,.ptr 1 0 0),(1,.pt (gU c p) 0),(2,.pt [.oq u] 0),(3,.pt [(.sl (ints (nI S)) false)] 0),(4,.ptr 2 0 0),(5,BB false),(18,(.sl (ints (nI S)) false)),(19,af (S.length:Nat)),(20,af ((q+1):Nat))]) (hp:=uD c p S u tn W m) 3 rfl ⟨rfl,rfl,rfl,rfl,rfl,rfl,rfl,rfl,aD (by simp),trivial⟩ (qq6 _) rfl (uR c p S u tn W m)
  ·have d2:decide ((q:Int) < (S.length:Int))=false:=decide_eq_false (by omega);have hqn:q=S.length:=by omega
   subst hqn;refine qq1 ?_;repeat' first|refine u1 ?_|refine u2 ?_|fail
   exact ⟨⟨W,hW,hT,rfl⟩,true,rfl,.inl ⟨rfl,by rw [Hu]⟩⟩
end Go.Proofs.YtlpmfgmldmdggaaGreat
open Go Go.RM
namespace Go.Proofs.YtlpmfgmldmdggaaGreat
set_option maxRecDepth 100000
set_option maxHeartbeats 4000000
abbrev K4 (c:aS) (p:dm) (S:List Nat):AV:=.fn 114 [] [.pt (gU c p) 0,.pt [.sl (ints (nI S)) false] 0]
theorem Mg (one:Bool) (c:aS) (hg:Good c) (p:dm) (hp:wM p):Pu one 82 [.ag (gU c p)] (K4 c p (kM c p.aN)):=by
 have o1:=K1 one c hg p hp
 generalize kM c p.aN=S at *
 refine ak.body (fn:=Tryz.f82) rfl rfl rfl rfl ?_;refine qq2 ?_;repeat' first|refine u1 ?_|refine u2 ?_|fail
 refine qq2 ?_;repeat' first|refine u1 ?_|((with_reducible refine qq3 ?_);refine ak.call o1 rfl rfl ?_)|refine u2 ?_|fail
 refine aB.aP (ah.trans (ah.giveUp 0 (l:=[(1,.pt (gU c p) 0),(3,.pt [.sl (ints (nI S)) false] 0)]) (hp:=[.gone]) rfl (qq5 _) rfl ⟨.same rfl,.ptr,trivial⟩ rfl rfl) (ah.to (l:=[(1,.pt (gU c p) 0),(3,.pt [.sl (ints (nI S)) false] 0)]) (hp:=[]) 0 rfl ⟨rfl,rfl,trivial⟩ (qq5 _) rfl rfl)) ?_;refine qq1 ?_;repeat' first|refine u1 ?_|refine u2 ?_|fail
 exact ⟨[_],⟨Fz.deep rfl,trivial⟩,rfl⟩
theorem Mh (one:Bool) (c:aS) (p:dm) {tn:Nat} (htn:p.turns=(tn:Int)) (h4:1≤tn∧tn≤4) {S:List Nat} (hS:l8 S) (h16:S.length≤16):ED TT TB one (K4 c p S) ((kG S tn []).map fun t=>[AV.sl (ints (nI t)) false]):=by
 refine ED.body (fn:=Tryz.f114) rfl rfl rfl rfl fun u J Stop hy=>?_;rw [List.length_map];have c1:=C1 one c htn h4.2 hS h16 u J Stop (kG S tn []) hy tn 0 0 [] (List.replicate tn 0) (by omega) rfl (List.length_replicate ..) (by rw [List.take_zero];rfl) (fun x hx=>by cases hx) (fun j x hj=>by rw [Nat.zero_add];exact hj);have hat:Nat.ble 0 0=true:=rfl;obtain ⟨t,d,aw⟩:=p;dsimp only at htn;subst htn;obtain rfl|rfl|rfl|rfl:tn=1∨tn=2∨tn=3∨tn=4:=by omega
 ·refine qq1 ?_;repeat' first|refine u1 ?_|(refine RM.Mo (n:=1) rfl rfl rfl (by decide) ⟨by decide,by decide⟩ rfl ?_)|refine u2 ?_|fail
  refine au.mono c1 (fun a hp' amb' hq=>?_);obtain ⟨⟨W',hW',hT',rfl⟩,b,rfl,hb⟩:=hq;repeat' first|refine u1 ?_|refine u2 ?_|fail
  rcases hb with ⟨_,h⟩|⟨_,h⟩
  ·rw [Nat.zero_add] at h;exact Or.inl h
  ·exact Or.inr h
 ·refine qq1 ?_;repeat' first|refine u1 ?_|(refine RM.Mo (n:=2) rfl rfl rfl (by decide) ⟨by decide,by decide⟩ rfl ?_)|refine u2 ?_|fail
  refine au.mono c1 (fun a hp' amb' hq=>?_);obtain ⟨⟨W',hW',hT',rfl⟩,b,rfl,hb⟩:=hq;repeat' first|refine u1 ?_|refine u2 ?_|fail
  rcases hb with ⟨_,h⟩|⟨_,h⟩
  ·rw [Nat.zero_add] at h;exact Or.inl h
  ·exact Or.inr h
 ·refine qq1 ?_;repeat' first|refine u1 ?_|(refine RM.Mo (n:=3) rfl rfl rfl (by decide) ⟨by decide,by decide⟩ rfl ?_)|refine u2 ?_|fail
  refine au.mono c1 (fun a hp' amb' hq=>?_);obtain ⟨⟨W',hW',hT',rfl⟩,b,rfl,hb⟩:=hq;repeat' first|refine u1 ?_|refine u2 ?_|fail
  rcases hb with ⟨_,h⟩|⟨_,h⟩
  ·rw [Nat.zero_add] at h;exact Or.inl h
  ·exact Or.inr h
 ·refine qq1 ?_;repeat' first|refine u1 ?_|(refine RM.Mo (n:=4) rfl rfl rfl (by decide) ⟨by decide,by decide⟩ rfl ?_)|refine u2 ?_|fail
  refine au.mono c1 (fun a hp' amb' hq=>?_);obtain ⟨⟨W',hW',hT',rfl⟩,b,rfl,hb⟩:=hq;repeat' first|refine u1 ?_|refine u2 ?_|fail
  rcases hb with ⟨_,h⟩|⟨_,h⟩
  ·rw [Nat.zero_add] at h;exact Or.inl h
  ·exact Or.inr h
end Go.Proofs.YtlpmfgmldmdggaaGreat
open Go Go.RM
namespace Go.Proofs.YtlpmfgmldmdggaaGreat
set_option maxRecDepth 100000
def uE (c:aS) (p:dm):List Nat × Int:=(rW c p p.turns.toNat []).getD ([],0)
def C2 (c:aS) (p:dm):List (List Int):=(uE c p).1.map cV
def EM (c:aS) (p:dm):AV:=if sg c p=0 then .tp [.sl ((C2 c p).map eL) false,af (uE c p).2,af 0] else .tp [.sl [] false,af 0,af (sg c p)]
theorem EN {c:aS} (hg:Good c) {p:dm} (hp:wM p):JT c p p.turns.toNat [] (uE c p).1 (uE c p).2:=by
 obtain ⟨t,n,h⟩:=kI hg hp p.turns.toNat (pre:=[]) (fun x hx=>by cases hx);have e:uE c p=(t,n):=by unfold uE;rw [h.eq];rfl
 rw [e];exact h
theorem Jw {c:aS} (hg:Good c) {p:dm} (hp:wM p):l8 (uE c p).1∧((uE c p).1.length:Int)=p.turns:=by obtain ⟨h1,h2⟩:=zW (S:=kM c p.aN) (fun a ha=>wR hg ha) p.turns.toNat [] (fun x hx=>by cases hx) _ (EN hg hp).mem;rw [List.length_nil,Nat.zero_add] at h2;have:=hp.turns;exact ⟨h1,by omega⟩
