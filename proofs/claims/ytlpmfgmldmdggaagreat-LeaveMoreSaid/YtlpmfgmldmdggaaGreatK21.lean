/-
  Contracts of the program's functions and of the document's. Lemmas alone; their conditions stand in them.
-/
import Derived.Test.YtlpmfgmldmdggaaGreatK20
open Go Go.RM
namespace Go.Proofs.YtlpmfgmldmdggaaGreat
set_option maxRecDepth 100000
set_option maxHeartbeats 4000000
theorem td (c:aL) (w:Int) (k:Nat):eF c w (k+1)=if Dc c w k=true then eF c w k++[k] else eF c w k:=by
 unfold eF;rw [List.range_succ,List.filter_append,List.filter_cons,List.filter_nil];split
 ·rfl
 ·rw [List.append_nil]
theorem H7 (c:aL) (w:Int) (k:Nat):(eF c w k).length≤k:=by
 have:=List.length_filter_le (Dc c w) (List.range k)
 rwa [List.length_range] at this
theorem LN (one:Bool) (c:aL) (hg:Good c) (p:bE) (hp:ob p):Pu one 113 [.ag (gS c p)] (.sl (ints (nI (iz c p.aR))) false):=by
 have em:((c.aD.map aZ).length:Int)=c.aD.length:=by simp
 have hm5:c.aD.length≤5:=hg.aD.2;have h32:2 ^ c.aD.length≤2 ^ 5:=Nat.pow_le_pow_right (by decide) hm5;have hm8:c.aD.length < 8:=by omega
 refine ak.body (fn:=Tryz.f113) rfl rfl rfl rfl ?_;refine aa (mu:=fun t=>Nat.beq t 28) ?_;repeat' first|refine u1 ?_|((with_reducible show aU _ _ _ _ _ _ _ _ _);refine RM.zN (j:=c.aD.length) rfl (aE em) hm8 ?_)|refine u2 ?_|fail
 refine aB.aO (ah.trans (ah.mZ 1) (ah.IL (l:=[(1,.pt (gS c p) 0),(2,.aJ 0 0 0 (eF c p.aR 0).length 0),(8,af ((2 ^ c.aD.length:Nat):Int)),(9,af (0:Nat))]) (hp:=[.cells (ay (nI (eF c p.aR 0))) 1 0]) 1 rfl ⟨dP.refl _,dP.mY,dP.refl _,dP.refl _,trivial⟩ (qq5 _) rfl (av _ _))) ?_;refine aB.loop (fun x:Nat × Nat × Nat=>x.1≤2 ^ c.aD.length∧(x.2.2=(eF c p.aR x.1).length∨x.2.2=(eF c p.aR x.1).length+1)) (fun x=>⟨aM [(1,.pt (gS c p) 0),(2,.aJ 0 x.2.1 0 (eF c p.aR x.1).length x.2.2),(8,af ((2 ^ c.aD.length:Nat):Int)),(9,af (x.1:Nat))],[.cells (ay (nI (eF c p.aR x.1))) 1 x.2.1],bq.none,false,0⟩) (fun x=>2 ^ c.aD.length - x.1) ?_ (0,0,0) ⟨qq5 _,.inl rfl⟩;rintro ⟨k,v,cc⟩ ⟨hk,hcap⟩;dsimp only at hk hcap;show aB _ _ _ _ ⟨aM [(1,.pt (gS c p) 0),(2,.aJ 0 v 0 (eF c p.aR k).length cc),(8,af ((2 ^ c.aD.length:Nat):Int)),(9,af (k:Nat))],[.cells (ay (nI (eF c p.aR k))) 1 v],bq.none,false,0⟩ _;by_cases hlt:k < 2 ^ c.aD.length
 ·have dl:decide ((k:Int) < ((2 ^ c.aD.length:Nat):Int))=true:=decide_eq_true (by omega);have k32:k < 32:=Nat.lt_of_lt_of_le hlt h32;have o1:=Ji true k k32;have o2:=G9 true c p (bD c 0 c.aD.length) (bD c 1 c.aD.length) (bD c 2 c.aD.length) k (oQ 0 (by omega)) (oQ 1 (by omega)) (oQ 2 (by omega)) k32;have hgl:(ay (nI (eF c p.aR k))).length=(eF c p.aR k).length * 1:=by rw [List.length_map,List.length_map];omega
  have hsl:=H7 c p.aR k;have hel:=oR k 5;have eel:((ints (fo k)).length:Int)=(fo k).length:=by simp
  by_cases ha:p.aR < ((fo k).length:Int)
  ·have d1:decide (p.aR < ((ints (fo k)).length:Int))=true:=decide_eq_true (by omega);have hs:eF c p.aR (k+1)=eF c p.aR k:=by rw [td,if_neg];unfold Dc;rw [decide_eq_false (show ¬ ((fo k).length:Int)≤p.aR by omega)];simp
   refine aa (mu:=fun t=>Nat.beq t 28) ?_;repeat' first|refine u1 ?_|(refine ⟨_,_,.inl ⟨rfl,rfl⟩,o1,?_⟩)|(refine ⟨_,_,.inl ⟨rfl,rfl⟩,o2,?_⟩)|refine u2 ?_|fail
   exact ⟨(k+1,v,cc),⟨hlt,by dsimp only;rw [hs];exact hcap⟩,(by dsimp only;omega),ah.to (l:=[(1,.pt (gS c p) 0),(2,.aJ 0 v 0 (eF c p.aR (k+1)).length cc),(8,af ((2 ^ c.aD.length:Nat):Int)),(9,af ((k+1):Nat))]) (hp:=[.cells (ay (nI (eF c p.aR (k+1)))) 1 v]) 1 (by show _=[AB.cells (ay (nI (eF c p.aR (k+1)))) 1 v];rw [hs];rfl) ⟨rfl,by rw [hs];rfl,rfl,aE (by simp),trivial⟩ (qq5 _) rfl (av _ _)⟩
  ·have d1:decide (p.aR < ((ints (fo k)).length:Int))=false:=decide_eq_false (by omega)
   cases hsp:xN c k with
   | false =>
    rw [show xM (bD c 0 c.aD.length) (bD c 1 c.aD.length) (bD c 2 c.aD.length) k=false from hsp] at o2;have hs:eF c p.aR (k+1)=eF c p.aR k:=by rw [td,if_neg];unfold Dc;rw [hsp,Bool.and_false];simp
    refine aa (mu:=fun t=>Nat.beq t 28) ?_;repeat' first|refine u1 ?_|(refine ⟨_,_,.inl ⟨rfl,rfl⟩,o1,?_⟩)|(refine ⟨_,_,.inl ⟨rfl,rfl⟩,o2,?_⟩)|refine u2 ?_|fail
    exact ⟨(k+1,v,cc),⟨hlt,by dsimp only;rw [hs];exact hcap⟩,(by dsimp only;omega),ah.to (l:=[(1,.pt (gS c p) 0),(2,.aJ 0 v 0 (eF c p.aR (k+1)).length cc),(8,af ((2 ^ c.aD.length:Nat):Int)),(9,af ((k+1):Nat))]) (hp:=[.cells (ay (nI (eF c p.aR (k+1)))) 1 v]) 1 (by show _=[AB.cells (ay (nI (eF c p.aR (k+1)))) 1 v];rw [hs];rfl) ⟨rfl,by rw [hs];rfl,rfl,aE (by simp),trivial⟩ (qq5 _) rfl (av _ _)⟩
   | true =>
    rw [show xM (bD c 0 c.aD.length) (bD c 1 c.aD.length) (bD c 2 c.aD.length) k=true from hsp] at o2;have hs:eF c p.aR (k+1)=eF c p.aR k++[k]:=by rw [td,if_pos];unfold Dc;rw [decide_eq_true (by omega),hsp];rfl
    have hsl2:(eF c p.aR (k+1)).length=(eF c p.aR k).length+1:=by rw [hs,List.length_append];rfl
    refine aa (mu:=fun t=>Nat.beq t 28) ?_;repeat' first|refine u1 ?_|(refine ⟨_,_,.inl ⟨rfl,rfl⟩,o1,?_⟩)|(refine ⟨_,_,.inl ⟨rfl,rfl⟩,o2,?_⟩)|((with_reducible show RM.wpOp _ _ (.call _) _ _ _);refine RM.sR (cs:=ay (nI (eF c p.aR k))) (n:=(eF c p.aR k).length) (els:=[[af (k:Int)]]) rfl rfl rfl rfl rfl (fun el hel=>by rw [List.mem_singleton.1 hel];rfl) rfl rfl hgl hcap (by simp only [List.length_singleton];omega) (fun v' c' hc'=>?_))|refine u2 ?_|fail
    exact ⟨(k+1,v',c'),⟨hlt,by dsimp only;rw [hsl2];exact hc'⟩,(by dsimp only;omega),ah.to (l:=[(1,.pt (gS c p) 0),(2,.aJ 0 v' 0 (eF c p.aR (k+1)).length c'),(8,af ((2 ^ c.aD.length:Nat):Int)),(9,af ((k+1):Nat))]) (hp:=[.cells (ay (nI (eF c p.aR (k+1)))) 1 v']) 1 (by show _=[AB.cells (ay (nI (eF c p.aR (k+1)))) 1 v'];rw [hs];unfold ay nI;rw [List.map_append,List.map_append];rfl) ⟨rfl,by rw [hsl2];rfl,rfl,aE (by simp),trivial⟩ (qq5 _) rfl (av _ _)⟩
 ·have dl:decide ((k:Int) < ((2 ^ c.aD.length:Nat):Int))=false:=decide_eq_false (by omega);have hk5:k=2 ^ c.aD.length:=by omega
  subst hk5;have hpl:=(set_perm hg p.aR).length_eq;have h16:=D2 hg hp;have h0:=List.length_pos_of_mem (BT hg hp);have hin:Ah (nI (eF c p.aR (2 ^ c.aD.length))):=fun x hx=>by obtain ⟨a,ha,rfl⟩:=List.mem_map.1 hx;have:=Nat.lt_of_lt_of_le (List.mem_range.1 (List.mem_filter.1 ha).1) h32;omega
  have hN:(nI (eF c p.aR (2 ^ c.aD.length))).length=(eF c p.aR (2 ^ c.aD.length)).length:=List.length_map _;refine aa (mu:=fun t=>Nat.beq t 28) ?_;repeat' first|refine u1 ?_|refine u2 ?_|fail
  refine JQ one (nI (eF c p.aR (2 ^ c.aD.length))) (N:=(eF c p.aR (2 ^ c.aD.length)).length) hN (by omega) hin (fun S hS1 hS2 hS3=>?_);have hS:=Ht hg hS2 hS1 hS3;subst hS;repeat' first|refine u1 ?_|refine u2 ?_|fail
  exact ⟨[_],⟨wJ rfl hS2,trivial⟩,rfl⟩
end Go.Proofs.YtlpmfgmldmdggaaGreat
open Go Go.RM
namespace Go.Proofs.YtlpmfgmldmdggaaGreat
set_option maxRecDepth 100000
set_option maxHeartbeats 4000000
abbrev JR (c:aL) (p:bE) (S:List Nat) (u:Value):List AV:=[.ptr 1 0 0,.pt (gS c p) 0,.pt [.oq u] 0,.pt [.sl (ints (nI S)) false] 0,.ptr 2 0 0]
abbrev uE (c:aL) (p:bE) (S:List Nat) (u:Value) (tn:Nat) (W:List Int) (m:Nat):List AB:=[.cells (ay W) 1 0,.cells [.aJ 0 0 0 m (tn+3)] 0 0,.cells [.fn 115 [] (JR c p S u)] 0 0]
theorem Oe (W:List Int):(ay W).all NF=true:=by rw [List.all_map,List.all_eq_true];intro x _;rfl
theorem uU (c:aL) (p:bE) (S:List Nat) (u:Value) (tn:Nat) (W:List Int) (m:Nat):(uE c p S u tn W m).all (AB.ig 3)=true:=by have h1:AB.ig 3 (.cells (ay W) 1 0)=true:=fG 3 (fun _=>rfl) _;simp only [List.all_cons,List.all_nil,h1,Bool.true_and];rfl
theorem LO {c:aL} {p:bE} {S:List Nat} {u:Value} {tn:Nat} {W:List Int} {m:Nat} {l:List Nat} (hW:W.length=tn) (hm:m≤tn) (hl:W.take m=nI l):NH (uE c p S u tn W m) [.aJ 0 0 0 m (tn+3)] [.sl (ints (nI l)) false]:=by
 have hll:l.length=m:=by have:=congrArg List.length hl;rw [List.length_take,List.length_map] at this;omega
 refine ⟨rfl,fun i a x h1 h2=>?_⟩
 cases i with
 | zero =>cases h1;cases h2;refine Ld.row (es:=1) (cs:=ay W) rfl (by rw [List.length_map];omega) (by rw [List.length_map,List.length_map];exact hll) (fun el hel=>by obtain ⟨x,_,rfl⟩:=List.mem_map.1 hel;rfl) ?_ (Oe W);rw [List.drop_zero,Nat.mul_one,←hl,eE];exact List.map_take
 | succ i=>cases h1
def ou (S:List Nat) (k:Nat) (pre:List Nat) (q:Nat):List (List Nat):=(S.take q).flatMap fun s=>if dY pre &&& s=0 then jz S k (pre++[s]) else []
theorem Fv {S:List Nat} {q:Nat} (h:q < S.length) (k:Nat) (pre:List Nat):ou S k pre (q+1)=ou S k pre q++if dY pre &&& S[q]=0 then jz S k (pre++[S[q]]) else []:=by unfold ou;rw [List.take_add_one,List.getElem?_eq_getElem h,List.flatMap_append];show _++List.flatMap _ [S[q]]=_;rw [List.flatMap_cons,List.flatMap_nil,List.append_nil]
theorem H8 (S:List Nat) (k:Nat) (pre:List Nat):ou S k pre S.length=jz S (k+1) pre:=by unfold ou;rw [List.take_length];rfl
theorem B8 {S:List Nat} (k:Nat) (pre:List Nat) (q:Nat):∃ R,jz S (k+1) pre=ou S k pre q++R:=by refine ⟨(S.drop q).flatMap fun s=>if dY pre &&& s=0 then jz S k (pre++[s]) else [],?_⟩;unfold ou;rw [←List.flatMap_append,List.take_append_drop];rfl
theorem take_set {W:List Int} {m:Nat} {l:List Nat} (hm:m < W.length) (hl:W.take m=nI l) (s:Nat):(W.set m (s:Int)).take (m+1)=nI (l++[s]):=by rw [List.take_add_one,List.getElem?_set_self hm,List.take_set_of_le (qq6 _),hl];unfold nI;rw [List.map_append];rfl
theorem yH {W:List Int} {m:Nat} {l:List Nat} {s:Nat} (h:W.take (m+1)=nI (l++[s])) (hl:l.length=m):W.take m=nI l:=by have h2:=congrArg (List.take m) h;rw [List.take_take,Nat.min_eq_left (by omega)] at h2;rw [h2];unfold nI;rw [List.map_append,List.take_left' (by rw [List.length_map];exact hl)]
theorem JS {W:List Int} {m:Nat} {l:List Nat} (h:W.take (m+1)=nI l) (hl:l.length=m+1):W[m]?=some ((dY l:Nat):Int):=by
 have h1:(W.take (m+1))[m]?=W[m]?:=by rw [List.getElem?_take];exact if_pos (Nat.lt_succ_self m)
 rw [←h1,h];unfold nI dY;rw [List.getElem?_map,List.getLastD_eq_getLast?,List.getLast?_eq_getElem?,hl,Nat.add_sub_cancel]
 cases hh:l[m]? with
 | none=>have:=List.getElem?_eq_none_iff.1 hh;omega
 | some x=>rfl
theorem Di (one:Bool) (c:aL) {p:bE} {tn:Nat} (htn:p.turns=(tn:Int)) (h4:tn≤4) {S:List Nat} (hS:l6 S) (h16:S.length≤16) (u:Value) (J:Nat→bq) (Stop:bq→Prop) (xs:List (List Nat))
  (hy:∀ (i:Nat) (x:List AV),(xs.map fun t=>[AV.sl (ints (nI t)) false])[i]?=some x→zR TT TB one u x (J i) (CS (J (i+1)) Stop)) :
  ∀ (k m i:Nat) (pre:List Nat) (W:List Int),m+k=tn→pre.length=m→W.length=tn→W.take m=nI pre→l6 pre→(∀ j x,(jz S k pre)[j]?=some x→xs[i+j]?=some x) →
   au TT TB one (.fn 115 [] (JR c p S u)) [] (uE c p S u tn W m) (J i)
    fun v hp' a'=>(∃ W',W'.length=tn∧W'.take m=nI pre∧hp'=uE c p S u tn W' m)∧∃ b,v=BB b∧CS (J (i+(jz S k pre).length)) Stop b a'
 | 0,m,i,pre,W,hk,hm,hW,hT,hp,hat=>by
  have d1:decide ((m:Int)=p.turns)=true:=decide_eq_true (by omega);have hx:(xs.map fun t=>[AV.sl (ints (nI t)) false])[i]?=some [.sl (ints (nI pre)) false]:=by have:=hat 0 pre rfl;rw [Nat.add_zero] at this;rw [List.getElem?_map,this];rfl
  have hyx:=hy i _ hx;refine au.body (fn:=Tryz.f115) rfl rfl rfl ?_;refine qq1 ?_;repeat' first|refine u1 ?_|refine u2 ?_|fail
  refine au.mono (hyx _ _ (LO hW (by omega) hT)) (fun a hp' amb' hq=>?_);obtain ⟨rfl,b,rfl,hb⟩:=hq;repeat' first|refine u1 ?_|refine u2 ?_|fail
  exact ⟨⟨W,hW,hT,rfl⟩,b,rfl,hb⟩
 | k+1,m,i,pre,W,hk,hm,hW,hT,hp,hat=>by
  have d1:decide ((m:Int)=p.turns)=false:=decide_eq_false (by omega);have eS:((ints (nI S)).length:Int)=S.length:=by simp
  refine au.body (fn:=Tryz.f115) rfl rfl rfl ?_;refine qq1 ?_;repeat' first|refine u1 ?_|refine u2 ?_|fail
  refine aB.aO (ah.to (l:=[(0,.ptr 1 0 0),(1,.pt (gS c p) 0),(2,.pt [.oq u] 0),(3,.pt [(.sl (ints (nI S)) false)] 0),(4,.ptr 2 0 0),(5,BB false),(18,(.sl (ints (nI S)) false)),(19,af (S.length:Nat)),(20,af (0:Nat))]) (hp:=uE c p S u tn W m) 3 rfl ⟨rfl,rfl,rfl,rfl,rfl,rfl,rfl,aE eS,rfl,trivial⟩ (qq6 _) rfl (uU c p S u tn W m)) ?_;refine aB.loop (fun x:Nat × List Int=>x.1≤S.length∧x.2.length=tn∧x.2.take m=nI pre) (fun x=>⟨aM [(0,.ptr 1 0 0),(1,.pt (gS c p) 0),(2,.pt [.oq u] 0),(3,.pt [(.sl (ints (nI S)) false)] 0),(4,.ptr 2 0 0),(5,BB false),(18,(.sl (ints (nI S)) false)),(19,af (S.length:Nat)),(20,af (x.1:Nat))],uE c p S u tn x.2 m,J (i+(ou S k pre x.1).length),false,3⟩) (fun x=>S.length - x.1) ?_ (0,W) ⟨qq5 _,hW,hT⟩;rintro ⟨q,W⟩ ⟨hq,hW,hT⟩;dsimp only at hq hW hT;show aB _ _ _ _ ⟨aM [(0,.ptr 1 0 0),(1,.pt (gS c p) 0),(2,.pt [.oq u] 0),(3,.pt [(.sl (ints (nI S)) false)] 0),(4,.ptr 2 0 0),(5,BB false),(18,(.sl (ints (nI S)) false)),(19,af (S.length:Nat)),(20,af (q:Nat))],uE c p S u tn W m,J (i+(ou S k pre q).length),false,3⟩ _;by_cases hqs:q < S.length
  ·have d2:decide ((q:Int) < (S.length:Int))=true:=decide_eq_true (by omega);have hcs:=Fv hqs k pre;have hatS:(ints (nI S))[((q:Nat):Int).toNat]?=some (eI ((S[q]:Nat):Int)):=by rw [dN (by rw [List.length_map];exact hqs),List.getElem_map]
   have hs32:=hS _ (List.getElem_mem hqs)
   generalize S[q]=s at *
   by_cases hm0:m=0
   ·have d3:decide ((0:Int) < (m:Int))=false:=decide_eq_false (by omega);have hpe:pre=[]:=List.length_eq_zero_iff.1 (by omega);have hz:dY pre &&& s=0:=by rw [hpe];exact Nat.zero_and s
    rw [if_pos hz] at hcs;have hsp:aQ (ay W) [af (s:Nat)] (0+m * 1)=ay (W.set m (s:Int)):=rL (k:=m) (by omega) _;have hat1:∀ j x,(jz S k (pre++[s]))[j]?=some x→xs[i+(ou S k pre q).length+j]?=some x:=fun j x hj=>by obtain ⟨R,hR⟩:=B8 (S:=S) k pre (q+1);rw [Nat.add_assoc];refine hat _ x ?_;rw [hR,hcs,List.append_assoc,List.getElem?_append_right (Nat.le_add_right _ _),Nat.add_sub_cancel_left,List.getElem?_append_left (List.getElem?_eq_some_iff.1 hj).1];exact hj
    have c1:=Di one c htn h4 hS h16 u J Stop xs hy k (m+1) (i+(ou S k pre q).length) (pre++[s]) (W.set m (s:Int)) (by omega) (by rw [List.length_append,hm];rfl) (by rw [List.length_set];exact hW) (take_set (by omega) hT s) (hp.snoc hs32) hat1;rw [show uE c p S u tn (W.set m (s:Int)) (m+1)=[.cells (aQ (ay W) [af (s:Nat)] (0+m * 1)) 1 0,.cells [.aJ 0 0 0 (m+1) (tn+3)] 0 0,.cells [.fn 115 [] (JR c p S u)] 0 0] from by rw [hsp]] at c1;have hln:0+(m+1) * 1≤(ay W).length∧0 < (ay W).length:=by rw [List.length_map];omega
    refine qq1 ?_;repeat' first|refine u1 ?_|(refine fun h=>h)|(refine fun h=>h)|(refine ⟨[af (s:Nat)],⟨by omega,hatS⟩,rfl,?_⟩)|(refine RM.MM (cs:=ay W) (els:=[[af (s:Nat)]]) rfl rfl rfl rfl rfl (fun el hel=>by rw [List.mem_singleton.1 hel];rfl) rfl rfl (fun h=>by cases h) (by show m+1+3≤tn+3;omega) hln (by show (m+1) * 8≤_∧_;simp only [List.length_singleton];omega) ?_)|refine u2 ?_|fail
    refine au.mono c1 (fun a hp' amb' hq=>?_);obtain ⟨⟨W',hW',hT',rfl⟩,b,rfl,hb⟩:=hq;have hT2:=yH hT' hm
    rcases hb with ⟨rfl,rfl⟩|⟨rfl,hstop⟩
    ·have hJ:i+(ou S k pre (q+1)).length=i+(ou S k pre q).length+(jz S k (pre++[s])).length:=by rw [hcs,List.length_append,Nat.add_assoc]
     repeat' first|refine u1 ?_|(refine RM.Jt (h:=m) rfl (aE (by omega)) rfl ⟨by omega,by omega⟩ (qq6 _) ?_)|refine u2 ?_|fail
     refine ⟨(q+1,W'),⟨hqs,hW',hT2⟩,(by dsimp only;omega),?_⟩;dsimp only;rw [hJ];exact ah.to (l:=[(0,.ptr 1 0 0),(1,.pt (gS c p) 0),(2,.pt [.oq u] 0),(3,.pt [(.sl (ints (nI S)) false)] 0),(4,.ptr 2 0 0),(5,BB false),(18,(.sl (ints (nI S)) false)),(19,af (S.length:Nat)),(20,af ((q+1):Nat))]) (hp:=uE c p S u tn W' m) 3 rfl ⟨rfl,rfl,rfl,rfl,rfl,rfl,rfl,rfl,aE (by simp),trivial⟩ (qq6 _) rfl (uU c p S u tn W' m)
    ·repeat' first|refine u1 ?_|(refine RM.Jt (h:=m) rfl (aE (by omega)) rfl ⟨by omega,by omega⟩ (qq6 _) ?_)|refine u2 ?_|fail
     exact ⟨⟨W',hW',hT2,rfl⟩,false,rfl,.inr ⟨rfl,hstop⟩⟩
   ·have d3:decide ((0:Int) < (m:Int))=true:=decide_eq_true (by omega);have hla:=uS hp;have hWl:W[m - 1]?=some ((dY pre:Nat):Int):=JS (m:=m - 1) (by rw [show m - 1+1=m by omega];exact hT) (by omega);have g1:(ay W)[0+(((m:Nat):Int) - 1).toNat * 1]?=some (af (dY pre:Nat)):=by rw [show (((m:Nat):Int) - 1).toNat=m - 1 by omega,Nat.zero_add,Nat.mul_one,List.getElem?_map,hWl];rfl
    by_cases hz:dY pre &&& s=0
    ·have d4:(!decide (((dY pre &&& s:Nat):Int)=0))=false:=by rw [hz];rfl
     rw [if_pos hz] at hcs;have hsp:aQ (ay W) [af (s:Nat)] (0+m * 1)=ay (W.set m (s:Int)):=rL (k:=m) (by omega) _;have hat1:∀ j x,(jz S k (pre++[s]))[j]?=some x→xs[i+(ou S k pre q).length+j]?=some x:=fun j x hj=>by obtain ⟨R,hR⟩:=B8 (S:=S) k pre (q+1);rw [Nat.add_assoc];refine hat _ x ?_;rw [hR,hcs,List.append_assoc,List.getElem?_append_right (Nat.le_add_right _ _),Nat.add_sub_cancel_left,List.getElem?_append_left (List.getElem?_eq_some_iff.1 hj).1];exact hj
     have c1:=Di one c htn h4 hS h16 u J Stop xs hy k (m+1) (i+(ou S k pre q).length) (pre++[s]) (W.set m (s:Int)) (by omega) (by rw [List.length_append,hm];rfl) (by rw [List.length_set];exact hW) (take_set (by omega) hT s) (hp.snoc hs32) hat1;rw [show uE c p S u tn (W.set m (s:Int)) (m+1)=[.cells (aQ (ay W) [af (s:Nat)] (0+m * 1)) 1 0,.cells [.aJ 0 0 0 (m+1) (tn+3)] 0 0,.cells [.fn 115 [] (JR c p S u)] 0 0] from by rw [hsp]] at c1;have hln:0+(m+1) * 1≤(ay W).length∧0 < (ay W).length:=by rw [List.length_map];omega
     refine qq1 ?_;repeat' first|refine u1 ?_|((with_reducible show RM.wpOp _ _ (.load _ _) _ _ _);refine RM.bC rfl rfl rfl g1 ?_)|((with_reducible show aU _ _ _ _ _ _ _ _ _);refine RM.Kl (m:=dY pre) (n:=s) rfl rfl (by omega) (by omega) ?_)|(refine ⟨[af (s:Nat)],⟨by omega,hatS⟩,rfl,?_⟩)|(refine RM.MM (cs:=ay W) (els:=[[af (s:Nat)]]) rfl rfl rfl rfl rfl (fun el hel=>by rw [List.mem_singleton.1 hel];rfl) rfl rfl (fun h=>by cases h) (by show m+1+3≤tn+3;omega) hln (by show (m+1) * 8≤_∧_;simp only [List.length_singleton];omega) ?_)|refine u2 ?_|fail
     refine au.mono c1 (fun a hp' amb' hq=>?_);obtain ⟨⟨W',hW',hT',rfl⟩,b,rfl,hb⟩:=hq;have hT2:=yH hT' hm
     rcases hb with ⟨rfl,rfl⟩|⟨rfl,hstop⟩
     ·have hJ:i+(ou S k pre (q+1)).length=i+(ou S k pre q).length+(jz S k (pre++[s])).length:=by rw [hcs,List.length_append,Nat.add_assoc]
      repeat' first|refine u1 ?_|(refine RM.Jt (h:=m) rfl (aE (by omega)) rfl ⟨by omega,by omega⟩ (qq6 _) ?_)|refine u2 ?_|fail
      refine ⟨(q+1,W'),⟨hqs,hW',hT2⟩,(by dsimp only;omega),?_⟩;dsimp only;rw [hJ];exact ah.to (l:=[(0,.ptr 1 0 0),(1,.pt (gS c p) 0),(2,.pt [.oq u] 0),(3,.pt [(.sl (ints (nI S)) false)] 0),(4,.ptr 2 0 0),(5,BB false),(18,(.sl (ints (nI S)) false)),(19,af (S.length:Nat)),(20,af ((q+1):Nat))]) (hp:=uE c p S u tn W' m) 3 rfl ⟨rfl,rfl,rfl,rfl,rfl,rfl,rfl,rfl,aE (by simp),trivial⟩ (qq6 _) rfl (uU c p S u tn W' m)
     ·repeat' first|refine u1 ?_|(refine RM.Jt (h:=m) rfl (aE (by omega)) rfl ⟨by omega,by omega⟩ (qq6 _) ?_)|refine u2 ?_|fail
      exact ⟨⟨W',hW',hT2,rfl⟩,false,rfl,.inr ⟨rfl,hstop⟩⟩
    ·have d4:(!decide (((dY pre &&& s:Nat):Int)=0))=true:=by rw [decide_eq_false (by omega)];rfl
     rw [if_neg hz,List.append_nil] at hcs;refine qq1 ?_;repeat' first|refine u1 ?_|((with_reducible show RM.wpOp _ _ (.load _ _) _ _ _);refine RM.bC rfl rfl rfl g1 ?_)|((with_reducible show aU _ _ _ _ _ _ _ _ _);refine RM.Kl (m:=dY pre) (n:=s) rfl rfl (by omega) (by omega) ?_)|(refine ⟨[af (s:Nat)],⟨by omega,hatS⟩,rfl,?_⟩)|refine u2 ?_|fail
     refine ⟨(q+1,W),⟨hqs,hW,hT⟩,(by dsimp only;omega),?_⟩;dsimp only;rw [hcs];exact ah.to (l:=[(0,.ptr 1 0 0),(1,.pt (gS c p) 0),(2,.pt [.oq u] 0),(3,.pt [(.sl (ints (nI S)) false)] 0),(4,.ptr 2 0 0),(5,BB false),(18,(.sl (ints (nI S)) false)),(19,af (S.length:Nat)),(20,af ((q+1):Nat))]) (hp:=uE c p S u tn W m) 3 rfl ⟨rfl,rfl,rfl,rfl,rfl,rfl,rfl,rfl,aE (by simp),trivial⟩ (qq6 _) rfl (uU c p S u tn W m)
  ·have d2:decide ((q:Int) < (S.length:Int))=false:=decide_eq_false (by omega);have hqn:q=S.length:=by omega
   subst hqn;refine qq1 ?_;repeat' first|refine u1 ?_|refine u2 ?_|fail
   exact ⟨⟨W,hW,hT,rfl⟩,true,rfl,.inl ⟨rfl,by rw [H8]⟩⟩
end Go.Proofs.YtlpmfgmldmdggaaGreat
open Go Go.RM
namespace Go.Proofs.YtlpmfgmldmdggaaGreat
set_option maxRecDepth 100000
set_option maxHeartbeats 4000000
abbrev LQ (c:aL) (p:bE) (S:List Nat):AV:=.fn 114 [] [.pt (gS c p) 0,.pt [.sl (ints (nI S)) false] 0]
theorem M0 (one:Bool) (c:aL) (hg:Good c) (p:bE) (hp:ob p):Pu one 82 [.ag (gS c p)] (LQ c p (iz c p.aR)):=by
 have o1:=LN one c hg p hp
 generalize iz c p.aR=S at *
 refine ak.body (fn:=Tryz.f82) rfl rfl rfl rfl ?_;refine qq2 ?_;repeat' first|refine u1 ?_|refine u2 ?_|fail
 refine qq2 ?_;repeat' first|refine u1 ?_|((with_reducible refine qq3 ?_);refine ak.call o1 rfl rfl ?_)|refine u2 ?_|fail
 refine aB.aO (ah.trans (ah.giveUp 0 (l:=[(1,.pt (gS c p) 0),(3,.pt [.sl (ints (nI S)) false] 0)]) (hp:=[.gone]) rfl (qq5 _) rfl ⟨.same rfl,.ptr,trivial⟩ rfl rfl) (ah.to (l:=[(1,.pt (gS c p) 0),(3,.pt [.sl (ints (nI S)) false] 0)]) (hp:=[]) 0 rfl ⟨rfl,rfl,trivial⟩ (qq5 _) rfl rfl)) ?_;refine qq1 ?_;repeat' first|refine u1 ?_|refine u2 ?_|fail
 exact ⟨[_],⟨Fz.deep rfl,trivial⟩,rfl⟩
theorem M1 (one:Bool) (c:aL) (p:bE) {tn:Nat} (htn:p.turns=(tn:Int)) (h4:1≤tn∧tn≤4) {S:List Nat} (hS:l6 S) (h16:S.length≤16):Fj TT TB one (LQ c p S) ((jz S tn []).map fun t=>[AV.sl (ints (nI t)) false]):=by
 refine Fj.body (fn:=Tryz.f114) rfl rfl rfl rfl fun u J Stop hy=>?_;rw [List.length_map];have c1:=Di one c htn h4.2 hS h16 u J Stop (jz S tn []) hy tn 0 0 [] (List.replicate tn 0) (by omega) rfl (List.length_replicate ..) (by rw [List.take_zero];rfl) (fun x hx=>by cases hx) (fun j x hj=>by rw [Nat.zero_add];exact hj);have hat:Nat.ble 0 0=true:=rfl;obtain ⟨t,d,aw⟩:=p;dsimp only at htn;subst htn;obtain rfl|rfl|rfl|rfl:tn=1∨tn=2∨tn=3∨tn=4:=by omega
 ·refine qq1 ?_;repeat' first|refine u1 ?_|(refine RM.M8 (n:=1) rfl rfl rfl (by decide) ⟨by decide,by decide⟩ rfl ?_)|refine u2 ?_|fail
  refine au.mono c1 (fun a hp' amb' hq=>?_);obtain ⟨⟨W',hW',hT',rfl⟩,b,rfl,hb⟩:=hq;repeat' first|refine u1 ?_|refine u2 ?_|fail
  rcases hb with ⟨_,h⟩|⟨_,h⟩
  ·rw [Nat.zero_add] at h;exact Or.inl h
  ·exact Or.inr h
 ·refine qq1 ?_;repeat' first|refine u1 ?_|(refine RM.M8 (n:=2) rfl rfl rfl (by decide) ⟨by decide,by decide⟩ rfl ?_)|refine u2 ?_|fail
  refine au.mono c1 (fun a hp' amb' hq=>?_);obtain ⟨⟨W',hW',hT',rfl⟩,b,rfl,hb⟩:=hq;repeat' first|refine u1 ?_|refine u2 ?_|fail
  rcases hb with ⟨_,h⟩|⟨_,h⟩
  ·rw [Nat.zero_add] at h;exact Or.inl h
  ·exact Or.inr h
 ·refine qq1 ?_;repeat' first|refine u1 ?_|(refine RM.M8 (n:=3) rfl rfl rfl (by decide) ⟨by decide,by decide⟩ rfl ?_)|refine u2 ?_|fail
  refine au.mono c1 (fun a hp' amb' hq=>?_);obtain ⟨⟨W',hW',hT',rfl⟩,b,rfl,hb⟩:=hq;repeat' first|refine u1 ?_|refine u2 ?_|fail
  rcases hb with ⟨_,h⟩|⟨_,h⟩
  ·rw [Nat.zero_add] at h;exact Or.inl h
  ·exact Or.inr h
 ·refine qq1 ?_;repeat' first|refine u1 ?_|(refine RM.M8 (n:=4) rfl rfl rfl (by decide) ⟨by decide,by decide⟩ rfl ?_)|refine u2 ?_|fail
  refine au.mono c1 (fun a hp' amb' hq=>?_);obtain ⟨⟨W',hW',hT',rfl⟩,b,rfl,hb⟩:=hq;repeat' first|refine u1 ?_|refine u2 ?_|fail
  rcases hb with ⟨_,h⟩|⟨_,h⟩
  ·rw [Nat.zero_add] at h;exact Or.inl h
  ·exact Or.inr h
