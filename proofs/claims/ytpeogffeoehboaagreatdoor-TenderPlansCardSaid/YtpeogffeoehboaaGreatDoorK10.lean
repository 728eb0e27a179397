/-
  Contracts of the program's functions and of the document's. Lemmas alone; their conditions stand in them.
-/
import Derived.Test.YtpeogffeoehboaaGreatDoorA4
import Derived.Test.YtpeogffeoehboaaGreatDoorK9
open Go Go.RM
namespace Go.Proofs.YtpeogffeoehboaaGreatDoor
set_option maxRecDepth 100000
set_option maxHeartbeats 4000000
theorem pF {α β:Type} {f:α→List β} {c:Nat}:∀ {l:List α},(∀ x ∈ l,(f x).length≤c)→(l.flatMap f).length≤l.length * c
 | [],_=>by simp
 | a :: l,h=>by rw [List.flatMap_cons,List.length_append,List.length_cons,Nat.succ_mul];have h1:=h a List.mem_cons_self;have h2:=pF (l:=l) fun x hx=>h x (List.mem_cons_of_mem _ hx);omega
theorem jG {below:Nat} (h8:below≤8):∀ (m:Nat) (b:List Int),0≤fS b→(dQ below m b).length≤8 ^ m
 | 0,b,_=>by rw [dQ];exact qq6 _
 | m+1,b,hf=>by rw [dQ];have h1:=pF (f:=fun i:Nat=>dQ below m (b++[fS b+(i:Nat)])) (c:=8 ^ m) (l:=List.range ((below:Int) - fS b).toNat) fun i _=>jG h8 m _ (by rw [iI];omega);rw [List.length_range] at h1;have h2:((below:Int) - fS b).toNat * 8 ^ m≤8 * 8 ^ m:=Nat.mul_le_mul_right _ (by omega);rw [Nat.pow_succ,Nat.mul_comm];omega
def Fl (below m:Nat) (b:List Int) (k:Nat):List (List Int):=(List.range k).flatMap fun i=>dQ below m (b++[fS b+(i:Nat)])
theorem L7 (below m:Nat) (b:List Int) (k:Nat):Fl below m b (k+1)=Fl below m b k++dQ below m (b++[fS b+(k:Nat)]):=by unfold Fl;rw [List.range_succ,List.flatMap_append,List.flatMap_cons,List.flatMap_nil,List.append_nil]
theorem Nz {below m:Nat} {b:List Int} {k:Nat} (h8:below≤8) (hf:0≤fS b) (hk:k≤8):(Fl below m b k).length≤8 * 8 ^ m:=by have h1:=pF (f:=fun i:Nat=>dQ below m (b++[fS b+(i:Nat)])) (c:=8 ^ m) (l:=List.range k) fun i _=>jG h8 m _ (by rw [iI];omega);rw [List.length_range] at h1;have h2:k * 8 ^ m≤8 * 8 ^ m:=Nat.mul_le_mul_right _ hk;exact Nat.le_trans h1 h2
theorem zN {m:Nat} (h:m≤8):8 ^ m≤16777216:=by have:8 ^ m≤8 ^ 8:=Nat.pow_le_pow_right (by decide) h;exact Nat.le_trans this (by decide)
abbrev eL (l:List Int):List AV:=[.sl (ints l) false]
abbrev dm (L:List (List Int)):List AV:=L.map fun l=>.sl (ints l) false
theorem kV:∀ L:List (List Int),(L.map eL).flatten=dm L
 | []=>rfl
 | l :: L=>by rw [List.map_cons,List.flatten_cons,kV L];rfl
theorem sQ (L:List (List Int)):cC (dm L)=true:=qg (fun _=>rfl) L
theorem NA (L:List (List Int)):(dm L).all AV.one=true:=by rw [List.all_map,List.all_eq_true];intro x _;rfl
theorem cL (L:List (List Int)) (v:Nat):([.cells (dm L) 1 v]:List AB).all (AB.gF 1)=true:=by have h:AB.gF 1 (.cells (dm L) 1 v)=true:=gM 1 (fun _=>rfl) _;simp only [List.all_cons,List.all_nil,h,Bool.and_true]
theorem GG {L:List (List Int)} {B:List AV} {v w:Nat}:qW 1 0 ([.cells (dm L) 1 v,.cells B 1 w]:List AB)=true:=by have h:AB.gS 1 (.cells (dm L) 1 v)=true:=xe 1 (fun _=>rfl) _;show ((false || AB.gS 1 (.cells (dm L) 1 v)) && true)=true;rw [h];rfl
theorem sR (L:List (List Int)):∀ el ∈ L.map eL,el.length=1:=fun el hel=>by obtain ⟨x,_,rfl⟩:=List.mem_map.1 hel;rfl
theorem gV (L:List (List Int)):(0:Nat)+L.length * 1≤(dm L).length∧(L.map eL).length=L.length∧(L.map eL).flatten=((dm L).drop 0).take (L.length * 1):=by refine ⟨by rw [List.length_map];omega,List.length_map _,?_⟩;rw [kV,List.drop_zero,List.take_of_length_le (by rw [List.length_map];omega)]
theorem QW {below:Nat} {b:List Int} (hin:∀ x ∈ b,0≤x∧x < (below:Int)):0≤fS b∧fS b≤below:=by
 unfold fS
 cases h:b.getLast? with
 | none=>exact ⟨Int.le_refl _,by dsimp only;omega⟩
 | some x =>have:=hin x (List.mem_of_getLast? h);exact ⟨by dsimp only;omega,by dsimp only;omega⟩
theorem Tx (b:List Int) (x:Int):cC (([]:List AV)++(ints b).flatten++[eI x].flatten)=true∧0+(0+(ints b).length+[eI x].length) * 1≤(([]:List AV)++(ints b).flatten++[eI x].flatten).length∧(ints (b++[x])).length=0+(ints b).length+[eI x].length ∧
  (ints (b++[x])).flatten=((([]:List AV)++(ints b).flatten++[eI x].flatten).drop 0).take ((0+(ints b).length+[eI x].length) * 1):=by
 have e:(([]:List AV)++(ints b).flatten++[eI x].flatten)=bG (b++[x]):=by rw [List.nil_append,cK];unfold bG;rw [List.map_append];rfl
 rw [e];have hl:(bG (b++[x])).length=b.length+1:=by rw [List.length_map,List.length_append];rfl
 refine ⟨fu _,by rw [hl];simp,by simp,?_⟩;rw [cK,List.drop_zero,List.take_of_length_le (by rw [hl];simp)]
theorem kW (b:List Int):∀ el ∈ ints b,el.length=1:=fun el hel=>by obtain ⟨x,_,rfl⟩:=List.mem_map.1 hel;rfl
theorem Bu (one:Bool) {below:Nat} (h8:below≤8):∀ (m:Nat) (b:List Int),m≤8→b.length+m≤16→(∀ x ∈ b,0≤x∧x < (below:Int))→Pu one 73 [.sl (ints b) false,aC (m:Nat),aC (below:Nat)] (.sl ((dQ below m b).map eL) false):=by
 intro m
 induction m with
 | zero =>
  intro b _ _ _;have d1:decide (((0:Nat):Int)=0)=true:=rfl;refine aj.body (fn:=Tryz.f73) rfl rfl rfl rfl ?_;refine qq1 ?_;repeat' first|refine u1 ?_|refine u2 ?_|fail
  exact ⟨[_],⟨Fz.full,trivial⟩,rfl⟩
 | succ m ih =>
  intro b hm hb hin;have d1:decide (((m+1:Nat):Int)=0)=false:=decide_eq_false (by omega);obtain ⟨f1,f2⟩:=QW hin;refine aj.body (fn:=Tryz.f73) rfl rfl rfl rfl ?_;refine qq2 ?_;repeat' first|refine u1 ?_|refine u2 ?_|fail
  refine qq2 ?_;repeat' first|refine u1 ?_|refine u2 ?_|fail
  refine qq2 ?_;repeat' first|refine u1 ?_|refine u2 ?_|fail
  refine RM.cutAt (st':=⟨aZ [(0,.sl (ints b) false),(1,aC ((m+1:Nat):Int)),(2,aC (below:Nat)),(7,aC (fS b))],[],bA.none,false,0⟩) ?_ ?_
  ·cases hbe:b with
   | nil =>
    have d2:decide ((0:Int) < (([]:List (List AV)).length:Int))=false:=by decide
    refine qq1 ?_;repeat' first|refine u1 ?_|refine u2 ?_|fail
    exact .is (ah.to 0 rfl ⟨rfl,rfl,rfl,rfl,trivial⟩ (qq5 _) rfl rfl)
   | cons x l =>
    have hne:b ≠ []:=by rw [hbe];simp
    have hlen:0 < b.length:=by rw [hbe];simp
    rw [←hbe];have d2:decide ((0:Int) < ((ints b).length:Int))=true:=decide_eq_true (by rw [List.length_map];omega);have el:((ints b).length:Int)=b.length:=by simp
    have hlast:(ints b)[(((ints b).length:Int) - 1).toNat]?=some (eI (b.getLast hne)):=by
     have e:(((ints b).length:Int) - 1).toNat=b.length - 1:=by omega
     rw [e,List.getElem?_map,←List.getLast?_eq_getElem?,List.getLast?_eq_some_getLast hne];rfl
    have hfr:fS b=b.getLast hne+1:=by unfold fS;rw [List.getLast?_eq_some_getLast hne]
    have hbd:=hin _ (List.getLast_mem hne);rw [hfr]
    generalize b.getLast hne=z at *
    refine qq1 ?_;repeat' first|refine u1 ?_|((with_reducible refine qq4 ?_);refine ⟨eI z,⟨by omega,hlast⟩,rfl,?_⟩)|refine u2 ?_|fail
    exact .is (ah.to 0 rfl ⟨rfl,rfl,rfl,rfl,trivial⟩ (qq5 _) rfl rfl)
  refine qq2 ?_;repeat' first|refine u1 ?_|refine u2 ?_|fail
  refine av.seq ?_;refine qq2 ?_;repeat' first|refine u1 ?_|refine u2 ?_|fail
  refine av.block ?_;refine av.aJ (ah.trans (ah.jl 1) (ah.Gi (l:=[(0,.sl (ints b) false),(1,aC ((m+1:Nat):Int)),(2,aC (below:Nat)),(8,.bg 0 0 0 (Fl below m b 0).length 0),(9,aC (fS b+((0:Nat):Int)))]) (hp:=[.cells (dm (Fl below m b 0)) 1 0]) 1 rfl ⟨aW.refl _,aW.refl _,aW.refl _,aW.jk,by rw [Int.natCast_zero,Int.add_zero];exact aW.refl _,trivial⟩ (qq5 _) rfl (cL _ _))) ?_;refine av.loop (fun x:Nat × Nat × Nat=>(x.1:Int)≤(below:Int) - fS b∧(x.2.2=(Fl below m b x.1).length∨x.2.2=(Fl below m b x.1).length+1)) (fun x=>⟨aZ [(0,.sl (ints b) false),(1,aC ((m+1:Nat):Int)),(2,aC (below:Nat)),(8,.bg 0 x.2.1 0 (Fl below m b x.1).length x.2.2),(9,aC (fS b+((x.1:Nat):Int)))],[.cells (dm (Fl below m b x.1)) 1 x.2.1],bA.none,false,0⟩) (fun x=>((below:Int) - fS b).toNat - x.1) ?_ (0,0,0) ⟨by dsimp only;omega,.inl rfl⟩;rintro ⟨k,aA,c⟩ ⟨hk,hcap⟩;dsimp only at hk hcap;show av _ _ _ _ ⟨aZ [(0,.sl (ints b) false),(1,aC ((m+1:Nat):Int)),(2,aC (below:Nat)),(8,.bg 0 aA 0 (Fl below m b k).length c),(9,aC (fS b+((k:Nat):Int)))],[.cells (dm (Fl below m b k)) 1 aA],bA.none,false,0⟩ _;have hll:=Nz (below:=below) (m:=m) (b:=b) (k:=k) h8 f1 (by omega);have hp8:=zN (m:=m) (by omega);by_cases hlt:fS b+(k:Int) < (below:Int)
  ·have d2:=decide_eq_true hlt;have hs1:=L7 below m b k;have hnl:=jG h8 m (b++[fS b+(k:Int)]) (by rw [iI];omega)
   have oc:=ih (b++[fS b+(k:Int)]) (by omega) (by rw [List.length_append];simp only [List.length_singleton];omega) (fun y hy=>by
    rcases List.mem_append.1 hy with hy|hy
    ·exact hin y hy
    ·rw [List.mem_singleton.1 hy];omega)
   rw [show ((m:Nat):Int)=((m+1:Nat):Int) - 1 by omega] at oc;have hgl:(dm (Fl below m b k)).length=(Fl below m b k).length:=List.length_map _;have ri:=Tx b (fS b+(k:Int));have hib:(ints b).length=b.length:=List.length_map _;have hq1:(([]:List AV)++(ints b).flatten).length=(0+(ints b).length) * 1:=by rw [List.nil_append,cK,List.length_map,hib];omega
   have hq2:(0+(ints b).length+([eI (fS b+(k:Int))]:List (List AV)).length) * 8≤140737488355328∧0+(ints b).length+([eI (fS b+(k:Int))]:List (List AV)).length≤9223372036854775807:=by simp only [List.length_singleton];omega
   generalize hL:Fl below m b k=L at *
   generalize hN:dQ below m (b++[fS b+(k:Int)])=N at *
   refine qq2 ?_;repeat' first|refine u1 ?_|refine u2 ?_|fail
   refine av.seq ?_;refine av.block ?_;refine av.L5 (l1:=[_,_,_,_,_,_,_]) (l2:=[_,_,_,_,_,_]) (id1:=0) (id2:=0) rfl rfl ?_;refine av.seq ?_;refine aa (mu:=fun t=>Nat.beq t 31) ?_;repeat' first|((with_reducible show RM.wpOp _ _ (.call _) _ _ _);refine RM.l5 (cs:=[]) (n:=0) (c:=0) (els:=ints b) rfl rfl rfl rfl rfl (kW b) (by rw [cK];rw [List.all_map,List.all_eq_true];intro x _;rfl) rfl rfl (.inl rfl) (by exact ⟨by show (0+(ints b).length) * 8≤_;omega,by omega⟩) (fun v1 c1 hc1=>?_))|((with_reducible show RM.wpOp _ _ (.call _) _ _ _);refine RM.l5 (cs:=[]++(ints b).flatten) (n:=0+(ints b).length) (els:=[eI (fS b+(k:Int))]) rfl rfl rfl rfl rfl (fun el hel=>by rw [List.mem_singleton.1 hel];rfl) rfl rfl hq1 hc1 hq2 (fun v9 c9 hc9=>?_))|refine u1 ?_|refine u2 ?_|fail
   refine av.aJ (ah.giveUp 1 (l:=[(0,.sl (ints b) false),(1,aC ((m+1:Nat):Int)),(2,aC (below:Nat)),(9,aC (fS b+(k:Int))),(30,.bg 0 aA 0 L.length c),(36,.sl (ints (b++[fS b+(k:Int)])) false)]) (hp:=[.cells (dm L) 1 aA,.gone]) rfl (qq5 _) ri.1 ⟨.same rfl,.same rfl,.same rfl,.same rfl,.same rfl,.row 1 ri.2.1 ri.2.2.1 (kW _) ri.2.2.2 (fun h=>Bool.noConfusion h),trivial⟩ GG rfl) ?_;refine qq1 ?_;repeat' first|((with_reducible refine qq3 ?_);refine aj.call oc rfl rfl ?_)|((with_reducible show RM.wpOp _ _ (.call _) _ _ _);refine RM.l5 (cs:=dm L) (n:=L.length) (els:=N.map eL) rfl rfl rfl rfl rfl (sR N) (by rw [kV];exact NA N) rfl (by rw [hgl];exact (Nat.mul_one _).symm) hcap (by rw [List.length_map];exact ⟨by show (L.length+N.length) * 24≤_;omega,by omega⟩) (fun v' c' hc'=>?_))|refine u1 ?_|refine u2 ?_|fail
   refine qq1 ?_;repeat' first|refine u1 ?_|refine u2 ?_|fail
   exact ⟨(k+1,v',c'),⟨by dsimp only;omega,by dsimp only;rw [hs1,List.length_append];rw [List.length_map] at hc';exact hc'⟩,(by dsimp only;omega),ah.to 1 (by dsimp only;rw [hs1,kV];unfold dm;rw [List.map_append];rfl) ⟨rfl,rfl,rfl,(by dsimp only;rw [hs1,List.length_append,List.length_map];rfl),bq (by dsimp only;omega),trivial⟩ (qq5 _) rfl (cL _ _)⟩
  ·have d2:=decide_eq_false hlt;obtain rfl:k=((below:Int) - fS b).toNat:=by omega
   refine qq1 ?_;repeat' first|refine u1 ?_|refine u2 ?_|fail
   refine qq1 ?_;repeat' first|refine u1 ?_|refine u2 ?_|fail
   exact ⟨[_],⟨Fz.row (es:=1) rfl (gV _).1 (gV _).2.1 (sR _) (gV _).2.2 (by rw [kV];exact sQ _) (fun h=>Bool.noConfusion h),trivial⟩,rfl⟩
theorem Dv {s:ai} (hg:Good s) {k:Nat}:∀ y,y ∈ nI s k 0 0 ((min s.fail.toNat k:Nat):Int) ↔ y ∈ nI s k 0 0 s.fail:=by
 intro y;have hf:=hg.fail;have e:s.fail=((s.fail.toNat:Nat):Int):=by omega
 rw [e,pz hg (qq5 _) (by decide),pz hg (qq5 _) (by decide)];have hl:(ct y k).length≤k:=by unfold ct;rw [List.length_map];exact Nat.le_trans (List.length_filter_le _ _) (by simp)
 have h0:(ct 0 0).length=0:=rfl;rw [h0,Int.toNat_natCast];constructor
 ·rintro ⟨h1,h2,h3,h4⟩;exact ⟨h1,h2,by omega,h4⟩
 ·rintro ⟨h1,h2,h3,h4⟩;exact ⟨h1,h2,by omega,h4⟩
theorem HN {s:ai} (hg:Good s) {p:List Order} (h8:p.length≤8) {known f most:Nat} (hk:known≤p.length) (hf:f < 2 ^ known):((yG s p.length known f most).all fun F=>(jV s p (dc F)).isNone)=cu s p known f (most:Int):=by
 unfold cu;rw [Bool.eq_iff_iff,List.all_eq_true,List.all_eq_true];have lt:∀ {y:Nat},y ∈ nI s p.length known f (most:Int)→y < 256:=fun hy=>Nat.lt_of_lt_of_le ((pz hg hk hf).1 hy).1 (Nat.pow_le_pow_right (by decide) h8);constructor
 ·intro h y hy;have:=h (aL y) ((Dr hg h8 hk hf).2 ⟨y,hy,rfl⟩);rw [rj (lt hy)] at this;exact this
 ·intro h F hF;obtain ⟨y,hy,rfl⟩:=(Dr hg h8 hk hf).1 hF;rw [rj (lt hy)];exact h y hy
def rk (f:Nat):Int:=([9,0,4,1,6,3,5,2]:List Int).getD f 9
theorem QX:((List.range 8).all fun a=>(List.range 8).all fun b=>a == 0 || b == 0 || decide (nJ (aL a) (aL b) < 0) == decide (rk a < rk b))=true:=by kernel_rfl
theorem QY {a b:Nat} (ha:1≤a∧a < 8) (hb:1≤b∧b < 8):decide (nJ (aL a) (aL b) < 0)=decide (rk a < rk b):=by
 have h:=List.all_eq_true.1 (List.all_eq_true.1 QX a (List.mem_range.2 ha.2)) b (List.mem_range.2 hb.2);rw [Bool.or_eq_true,Bool.or_eq_true] at h
 rcases h with (h|h)|h
 ·have:a=0:=by simpa using h
  omega
 ·have:b=0:=by simpa using h
  omega
 ·exact eq_of_beq h
theorem Fm:((List.range 8).all fun a=>(List.range 8).all fun b=>a == 0 || b == 0 || a == b || !decide (rk a=rk b))=true:=by kernel_rfl
theorem QZ {a b:Nat} (ha:1≤a∧a < 8) (hb:1≤b∧b < 8) (e:rk a=rk b):a=b:=by have h:=List.all_eq_true.1 (List.all_eq_true.1 Fm a (List.mem_range.2 ha.2)) b (List.mem_range.2 hb.2);rw [decide_eq_true e] at h;simp only [Bool.or_eq_true,beq_iff_eq,Bool.not_true,Bool.false_eq_true,or_false] at h;omega
def oC (S:List Nat) (p:Nat):Nat:=S.getD p 0
def lR (S:List Nat) (m:Nat):Prop:=∀ p q:Nat,p < q→q < m→rk (oC S p)≤rk (oC S q)
def xA (S:List Nat) (j:Nat):List Nat:=(S.set j (oC S (j - 1))).set (j - 1) (oC S j)
theorem Fo (S:List Nat) {j:Nat} (hj:j < S.length):(xA S j).Perm S:=by
 unfold xA oC;have h1:j - 1 < S.length:=by omega
 rw [List.getD_eq_getElem?_getD,List.getD_eq_getElem?_getD (i:=j),List.getElem?_eq_getElem h1,List.getElem?_eq_getElem hj];exact List.set_set_perm hj h1
theorem HO (S:List Nat) {j:Nat} (hj:j < S.length) (_h0:0 < j) (q:Nat):oC (xA S j) q=if q=j - 1 then oC S j else if q=j then oC S (j - 1) else oC S q:=by
 unfold xA oC;rw [List.getD_eq_getElem?_getD,List.getElem?_set,List.getElem?_set];by_cases h1:j - 1=q
 ·subst h1;rw [if_pos rfl,if_pos (by rw [List.length_set];omega),if_pos rfl];rfl
 ·rw [if_neg h1,if_neg (show ¬ q=j - 1 from fun h=>h1 h.symm)];by_cases h2:j=q
  ·subst h2;rw [if_pos rfl,if_pos hj,if_pos rfl];rfl
  ·rw [if_neg h2,if_neg (show ¬ q=j from fun h=>h2 h.symm),List.getD_eq_getElem?_getD]
structure nO (S:List Nat) (i j:Nat):Prop where
 others:∀ p q:Nat,p < q→q≤i→p ≠ j→q ≠ j→rk (oC S p)≤rk (oC S q)
 above:∀ q:Nat,j < q→q≤i→rk (oC S j)≤rk (oC S q)
theorem nO.start {S:List Nat} {i:Nat} (h:lR S i):nO S i i:=⟨fun p q h1 h2 h3 h4=>h p q h1 (by omega),fun q h1 h2=>by omega⟩
theorem nO.swap {S:List Nat} {i j:Nat} (h:nO S i j) (hi:i < S.length) (hj:j≤i) (h0:0 < j) (hl:rk (oC S j) < rk (oC S (j - 1))):nO (xA S j) i (j - 1):=by
 have hg:=fun q=>HO S (j:=j) (by omega) h0 q;constructor
 ·intro p q h1 h2 h3 h4;rw [hg p,hg q,if_neg h3,if_neg h4];by_cases hp:p=j
  ·rw [if_pos hp,if_neg (by omega)];exact h.others (j - 1) q (by omega) h2 (by omega) (by omega)
  ·rw [if_neg hp];by_cases hq:q=j
   ·rw [if_pos hq];exact h.others p (j - 1) (by omega) (by omega) hp (by omega)
   ·rw [if_neg hq];exact h.others p q h1 h2 hp hq
 ·intro q h1 h2;rw [hg (j - 1),hg q,if_pos rfl,if_neg (by omega)];by_cases hq:q=j
  ·rw [if_pos hq];omega
  ·rw [if_neg hq];exact h.above q (by omega) h2
theorem nO.done {S:List Nat} {i j:Nat} (h:nO S i j) (hd:j=0∨rk (oC S (j - 1))≤rk (oC S j)):lR S (i+1):=by
 intro p q h1 h2;by_cases hp:p=j
 ·rw [hp];exact h.above q (by omega) (by omega)
 ·by_cases hq:q=j
  ·rcases hd with hd|hd
   ·omega
   ·rw [hq];by_cases hpj:p=j - 1
    ·rw [hpj];exact hd
    ·exact Int.le_trans (h.others p (j - 1) (by omega) (by omega) hp (by omega)) hd
  ·exact h.others p q h1 (by omega) hp hq
abbrev eF (f:Nat):AV:=.sl (ints (aL f)) false
abbrev k9 (S:List Nat) (aA:Nat):AB:=.cells (S.map eF) 1 aA
theorem Dw {S:List Nat} {q:Nat} (h:q < S.length):(S.map eF)[0+((q:Nat):Int).toNat * 1]?=some (eF (oC S q)):=by unfold oC;rw [Int.toNat_natCast,Nat.zero_add,Nat.mul_one,List.getElem?_map,List.getD_eq_getElem?_getD,List.getElem?_eq_getElem h];rfl
theorem Dx {S:List Nat} {k:Nat} (h:k < S.length) (x:Nat):dy (S.map eF) [eF x] (0+((k:Nat):Int).toNat * 1)=(S.set k x).map eF:=by rw [Int.toNat_natCast,Nat.zero_add,Nat.mul_one,List.map_set,List.set_eq_take_append_cons_drop,if_pos (by rw [List.length_map];exact h)];unfold dy;simp
theorem fy (S:List Nat) (v:Nat):([k9 S v]:List AB).all (AB.gF 1)=true:=by have h:AB.gF 1 (k9 S v)=true:=gM 1 (fun _=>rfl) _;simp only [List.all_cons,List.all_nil,h,Bool.and_true]
theorem Dy (one:Bool) (L:List Nat) (N:Nat) (hN:L.length=N) (h12:N≤12) (hL:∀ f ∈ L,1≤f∧f < 8) {aA c:Nat} {aE:bA} {Q:AV→List AB→bA→Prop} (hQ:∀ S:List Nat,lR S N→S.Perm L→Q (.tp []) [k9 S aA] aE) :
  az TT TB one (.fn 97 [] []) [.bg 0 aA 0 N c,aC 0,aC (N:Nat),.fn 54 [] []] [k9 L aA] aE Q:=by
 refine az.body (fn:=Tryz.f97) rfl rfl rfl ?_;refine qq1 ?_;repeat' first|refine u1 ?_|refine u2 ?_|fail
 refine av.aJ (ah.to (l:=[(0,.bg 0 aA 0 N c),(1,aC 0),(2,aC (N:Nat)),(3,.fn 54 [] []),(8,aC (1:Nat))]) (hp:=[k9 L aA]) 1 rfl ⟨rfl,rfl,rfl,rfl,rfl,trivial⟩ (qq6 _) rfl (fy _ _)) ?_;refine av.loop (fun x:Nat × List Nat=>(1≤x.1∧(x.1≤N∨x.1=1))∧lR x.2 x.1∧x.2.Perm L) (fun x=>⟨aZ [(0,.bg 0 aA 0 N c),(1,aC 0),(2,aC (N:Nat)),(3,.fn 54 [] []),(8,aC (x.1:Nat))],[k9 x.2 aA],aE,false,1⟩) (fun x=>N - x.1) ?_ (1,L) ⟨⟨qq6 _,.inr rfl⟩,(fun p q h1 h2=>by dsimp only at h2;omega),List.Perm.refl _⟩
 have hmem:∀ {R:List Nat},R.Perm L→∀ q,q < N→1≤oC R q∧oC R q < 8:=by
  intro R hR q hq;have hRl:R.length=N:=by rw [hR.length_eq,hN]
  refine hL _ (hR.mem_iff.1 ?_);unfold oC;rw [List.getD_eq_getElem?_getD,List.getElem?_eq_getElem (by omega)];exact List.getElem_mem _
 rintro ⟨i,S⟩ ⟨⟨hi1,hi⟩,hso,hpe⟩;dsimp only at hi1 hi hso hpe;have hSl:S.length=N:=by rw [hpe.length_eq,hN]
 show av _ _ _ _ ⟨aZ [(0,.bg 0 aA 0 N c),(1,aC 0),(2,aC (N:Nat)),(3,.fn 54 [] []),(8,aC (i:Nat))],[k9 S aA],aE,false,1⟩ _;refine qq1 ?_;by_cases hc:i < N
 ·have d0:decide ((i:Int) < (N:Int))=true:=decide_eq_true (by omega);repeat' first|refine u1 ?_|refine u2 ?_|fail
  refine av.aJ (ah.to (l:=[(0,.bg 0 aA 0 N c),(1,aC 0),(2,aC (N:Nat)),(3,.fn 54 [] []),(8,aC (i:Nat)),(9,aC (i:Nat))]) (hp:=[k9 S aA]) 1 rfl ⟨rfl,rfl,rfl,rfl,rfl,rfl,trivial⟩ (qq6 _) rfl (fy _ _)) ?_;refine av.loop (fun x:Nat × List Nat=>(x.1≤i)∧nO x.2 i x.1∧x.2.Perm L) (fun x=>⟨aZ [(0,.bg 0 aA 0 N c),(1,aC 0),(2,aC (N:Nat)),(3,.fn 54 [] []),(8,aC (i:Nat)),(9,aC (x.1:Nat))],[k9 x.2 aA],aE,false,1⟩) (fun x=>x.1) ?_ (i,S) ⟨qq6 _,nO.start hso,hpe⟩;rintro ⟨j,R⟩ ⟨hj,hsi,hpr⟩;dsimp only at hj hsi hpr;have hRl:R.length=N:=by rw [hpr.length_eq,hN]
  show av _ _ _ _ ⟨aZ [(0,.bg 0 aA 0 N c),(1,aC 0),(2,aC (N:Nat)),(3,.fn 54 [] []),(8,aC (i:Nat)),(9,aC (j:Nat))],[k9 R aA],aE,false,1⟩ _;refine qq1 ?_;by_cases h0:j=0
  ·subst h0;repeat' first|(refine RM.c5 (c:=14) (l1:=[_,_,_,_,_,_,_,_,_,_,_,_,_,_]) (l2:=[_,_,_]) (by kernel_rfl) rfl rfl ?_)|refine u1 ?_|refine u2 ?_|fail
   refine ⟨(i+1,R),⟨⟨by omega,.inl (by dsimp only;omega)⟩,hsi.done (.inl rfl),hpr⟩,(by dsimp only;omega),?_⟩;exact ah.to 1 rfl ⟨rfl,rfl,rfl,rfl,bq (by simp),trivial⟩ (qq6 _) rfl (fy _ _)
  ·have d1:decide ((0:Int) < (j:Int))=true:=decide_eq_true (by omega);have hgj:=Dw (S:=R) (q:=j) (by omega);have hgk:=Dw (S:=R) (q:=j - 1) (by omega);rw [show (((j - 1:Nat):Int))=(j:Int) - 1 by omega] at hgk;have hlj:=hmem hpr j (by omega);have hlk:=hmem hpr (j - 1) (by omega);have hdl:=QY hlj hlk;have hlm:=fun f=>Nat.le_trans (qi f) (show 8≤maxLen by simp [maxLen]);have hle1:=Pc one (aL (oC R j)) (aL (oC R (j - 1))) false false (hlm _) (hlm _);have hle2:=Pc true (aL (oC R j)) (aL (oC R (j - 1))) false false (hlm _) (hlm _);by_cases hl:rk (oC R j) < rk (oC R (j - 1))
   ·have dl:=hdl.trans (decide_eq_true hl);have hb1:Nat.ble (0+((j:Nat):Int).toNat * 1+1) (R.map eF).length=true:=Nat.ble_eq_true_of_le (by rw [List.length_map];omega);have he1:=Dx (S:=R) (k:=j) (by omega) (oC R (j - 1));have hb2:Nat.ble (0+(((j:Nat):Int) - 1).toNat * 1+1) (dy (R.map eF) [eF (oC R (j - 1))] (0+((j:Nat):Int).toNat * 1)).length=true:=Nat.ble_eq_true_of_le (by rw [he1,List.length_map,List.length_set];omega);have he2:=Dx (S:=R.set j (oC R (j - 1))) (k:=j - 1) (by rw [List.length_set];omega) (oC R j);rw [show (((j - 1:Nat):Int))=(j:Int) - 1 by omega,←he1] at he2;repeat' first|(refine RM.c5 (c:=14) (l1:=[_,_,_,_,_,_,_,_,_,_,_,_,_,_]) (l2:=[_,_,_]) (by kernel_rfl) rfl rfl ?_)|((with_reducible show RM.wpOp _ _ (.load _ _) _ _ _);refine RM.MA rfl rfl rfl hgj ?_)|((with_reducible show RM.wpOp _ _ (.load _ _) _ _ _);refine RM.MA rfl rfl rfl hgk ?_)|((with_reducible refine qq3 ?_);refine aj.call hle1 rfl rfl ?_)|((with_reducible show di _ _ _ _ _ _);refine RM.O5 rfl rfl rfl rfl rfl rfl hb1 ?_)|((with_reducible show di _ _ _ _ _ _);refine RM.O5 rfl rfl rfl rfl rfl rfl hb2 ?_)|refine u1 ?_|refine u2 ?_|fail
    refine ⟨(j - 1,xA R j),⟨by dsimp only;omega,hsi.swap (by omega) hj (by omega) hl,(Fo R (by omega)).trans hpr⟩,(by dsimp only;omega),?_⟩;refine ah.to 1 ?_ ⟨rfl,rfl,rfl,rfl,rfl,bq (by dsimp only;omega),trivial⟩ (qq6 _) rfl (fy _ _);show [AB.cells (dy (dy (R.map eF) [eF (oC R (j - 1))] (0+((j:Nat):Int).toNat * 1)) [eF (oC R j)] (0+(((j:Nat):Int) - 1).toNat * 1)) 1 aA]=[k9 (xA R j) aA];rw [he2];rfl
   ·have dl:=hdl.trans (decide_eq_false hl);repeat' first|(refine RM.c5 (c:=14) (l1:=[_,_,_,_,_,_,_,_,_,_,_,_,_,_]) (l2:=[_,_,_]) (by kernel_rfl) rfl rfl ?_)|((with_reducible show RM.wpOp _ _ (.load _ _) _ _ _);refine RM.MA rfl rfl rfl hgj ?_)|((with_reducible show RM.wpOp _ _ (.load _ _) _ _ _);refine RM.MA rfl rfl rfl hgk ?_)|((with_reducible refine qq3 ?_);refine aj.call hle1 rfl rfl ?_)|refine u1 ?_|refine u2 ?_|fail
    refine ⟨(i+1,R),⟨⟨by omega,.inl (by dsimp only;omega)⟩,hsi.done (.inr (by omega)),hpr⟩,(by dsimp only;omega),?_⟩;exact ah.to 1 rfl ⟨rfl,rfl,rfl,rfl,bq (by simp),trivial⟩ (qq6 _) rfl (fy _ _)
 ·have d0:decide ((i:Int) < (N:Int))=false:=decide_eq_false (by omega);repeat' first|refine u1 ?_|refine u2 ?_|fail
  refine hQ S (fun p q h1 h2=>hso p q h1 (by omega)) hpe
theorem SQ (one:Bool) (L:List Nat) (N:Nat) (hN:L.length=N) (h12:N≤12) (hL:∀ f ∈ L,1≤f∧f < 8) (lim:Int) {aA c:Nat} {aE:bA} {Q:AV→List AB→bA→Prop} (hQ:∀ S:List Nat,lR S N→S.Perm L→Q (.tp []) [k9 S aA] aE) :
  az TT TB one (.fn 94 [] []) [.bg 0 aA 0 N c,aC 0,aC (N:Nat),aC lim,.fn 54 [] []] [k9 L aA] aE Q:=by
 refine az.body (fn:=Tryz.f94) rfl rfl rfl ?_;refine qq1 ?_;repeat' first|refine u1 ?_|refine u2 ?_|fail
 refine av.aJ (ah.to (l:=[(0,.bg 0 aA 0 N c),(1,aC 0),(2,aC (N:Nat)),(3,aC lim),(4,.fn 54 [] []),(10,.fl (.bool true)),(11,.fl (.bool true))]) (hp:=[k9 L aA]) 1 rfl ⟨rfl,rfl,rfl,rfl,rfl,rfl,rfl,trivial⟩ (qq6 _) rfl (fy _ _)) ?_;refine av.loop (fun _:Unit=>True) (fun _=>⟨aZ [(0,.bg 0 aA 0 N c),(1,aC 0),(2,aC (N:Nat)),(3,aC lim),(4,.fn 54 [] []),(10,.fl (.bool true)),(11,.fl (.bool true))],[k9 L aA],aE,false,1⟩) (fun _=>0) ?_ () trivial;intro _ _;refine qq1 ?_;have d1:decide ((N:Int) - 0≤12)=true:=decide_eq_true (by omega);repeat' first|(refine Dy _ L N hN h12 hL (fun S hso hpe=>?_))|refine u1 ?_|refine u2 ?_|fail
 exact hQ S hso hpe
def Q0 (n:Nat):Int:=([0,1,2,2,3,3,3,3,4,4,4,4,4]:List Int).getD n 0
theorem NB (one:Bool) (n:Nat) (hn:n≤12):Pu one 106 [.fl (.int .u64 n)] (aC (Q0 n)):=by
 match n,hn with
 | 0,_|1,_|2,_|3,_|4,_|5,_|6,_|7,_|8,_|9,_|10,_|11,_|12,_ =>
  refine aj.body (fn:=Tryz.f106) rfl rfl rfl rfl ?_;refine qq1 ?_;repeat' first|(refine RM.b1 rfl rfl (of_decide_eq_true (by kernel_rfl)) ?_)|refine u1 ?_|refine u2 ?_|fail
  exact ⟨[_],⟨Fz.deep rfl,trivial⟩,by kernel_rfl⟩
theorem SR (one:Bool) (n:Nat) (hn:n≤12):Pu one 95 [.fl (.int .u64 n)] (aC (Q0 n)):=by
 have hv:=NB one n hn;refine aj.body (fn:=Tryz.f95) rfl rfl rfl rfl ?_;refine qq1 ?_;repeat' first|refine u1 ?_|refine u2 ?_|fail
 exact ⟨[_],⟨Fz.deep rfl,trivial⟩,rfl⟩
theorem Fp:∀ {N:Nat},N≤12→IntKind.u64.wrap (N:Int)=(N:Int)
 | 0,_|1,_|2,_|3,_|4,_|5,_|6,_|7,_|8,_|9,_|10,_|11,_|12,_=>rfl
theorem Q1 (one:Bool) (L:List Nat) (N:Nat) (hN:L.length=N) (h12:N≤12) (hL:∀ f ∈ L,1≤f∧f < 8) {aA c:Nat} {aE:bA} {Q:AV→List AB→bA→Prop} (hQ:∀ S:List Nat,lR S N→S.Perm L→Q (.tp []) [k9 S aA] aE) :
  az TT TB one (.fn 86 [] []) [.bg 0 aA 0 N c,.fn 54 [] []] [k9 L aA] aE Q:=by
 refine az.body (fn:=Tryz.f86) rfl rfl rfl ?_;refine qq1 ?_;have hw:IntKind.u64.wrap (N:Int)=(N:Int):=Fp h12;have hv:Pu one 95 [.fl (.int .u64 (IntKind.u64.wrap (N:Int)))] (aC (Q0 N)):=by rw [hw];exact SR one N h12
 repeat' first|(refine SQ _ L N hN h12 hL _ (fun S hso hpe=>?_))|refine u1 ?_|refine u2 ?_|fail
 exact hQ S hso hpe
