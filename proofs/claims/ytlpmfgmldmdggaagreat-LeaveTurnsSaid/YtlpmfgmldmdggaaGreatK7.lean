/-
  Contracts of the program's functions and of the document's. Lemmas alone; their conditions stand in them.
-/
import Derived.Test.YtlpmfgmldmdggaaGreatK6
open Go Go.RM
namespace Go.Proofs.YtlpmfgmldmdggaaGreat
set_option maxRecDepth 100000
set_option maxHeartbeats 4000000
abbrev eT (l:List Int):List AV:=[.sl (ints l) false]
structure L5 (T:List (List Int)):Prop where
 len:T.length≤maxLen
 each:∀ l ∈ T,l.length≤maxLen
def BJ (T:List (List Int)) (m k:Nat):Nat:=(T.take k).countP fun l=>kE l (m:Nat)
theorem GM {T:List (List Int)} {m k:Nat} (h:k < T.length):BJ T m (k+1)=BJ T m k+if kE T[k] (m:Nat)=true then 1 else 0:=by
 unfold BJ;rw [List.take_add_one,List.getElem?_eq_getElem h,List.countP_append];by_cases hh:kE T[k] (m:Nat)=true
 ·rw [if_pos hh];simp [hh]
 ·rw [if_neg hh];simp [hh]
theorem Kz (T:List (List Int)) (m k:Nat):BJ T m k≤k:=by unfold BJ;have:=List.countP_le_length (p:=fun l=>kE l (m:Nat)) (l:=T.take k);rw [List.length_take] at this;omega
def w6 (c:aS) (p:dm) (T:List (List Int)) (k:Nat):List Int:=(List.range k).map fun m=>ct c p m (BJ T m T.length:Nat)
theorem GN (c:aS) (p:dm) (T:List (List Int)) (k:Nat):w6 c p T (k+1)=w6 c p T k++[ct c p k (BJ T k T.length:Nat)]:=by unfold w6;rw [List.range_succ,List.map_append];rfl
theorem rV (c:aS) (p:dm) (T:List (List Int)) (k:Nat):(w6 c p T k).length=k:=by unfold w6;simp
theorem KA (one:Bool) (c:aS) (hg:Good c) (p:dm) (hp:wM p) (T:List (List Int)) (fT:Bool) (hT:L5 T) (hTp:(T.length:Int)=p.turns):Pu one 81 [.ag (aM c),.ag (cw p),.sl (T.map eT) fT] (.sl (ints (w6 c p T c.aH.length)) false):=by
 have em:((c.aH.map bq).length:Int)=c.aH.length:=by simp
 have el:((T.map eT).length:Int)=T.length:=by simp
 have hm5:=hg.aH;have ht4:=hp.turns;refine ak.body (fn:=Tryz.f81) rfl rfl rfl rfl ?_;refine aa (mu:=fun t=>Nat.beq t 39) ?_;repeat' first|refine u1 ?_|refine u2 ?_|fail
 refine aB.aP (ah.trans (ah.nW 1) (ah.JJ (l:=[(2,.sl (T.map eT) fT),(3,.pt (aM c) 0),(4,.pt (cw p) 0),(7,.aI 0 ((0,0,0):Nat × Nat × Nat).2.1 0 ((0,0,0):Nat × Nat × Nat).1 ((0,0,0):Nat × Nat × Nat).2.2),(8,af (((0,0,0):Nat × Nat × Nat).1:Nat))]) (hp:=[.cells (ay (w6 c p T ((0,0,0):Nat × Nat × Nat).1)) 1 ((0,0,0):Nat × Nat × Nat).2.1]) 1 rfl ⟨eP.refl _,eP.refl _,eP.refl _,eP.nV,eP.refl _,trivial⟩ (qq5 _) rfl (av _ _))) ?_;refine aB.loop (fun x:Nat × Nat × Nat=>x.1≤c.aH.length∧(x.2.2=x.1∨x.2.2=x.1+1)) (fun x=>⟨aL [(2,.sl (T.map eT) fT),(3,.pt (aM c) 0),(4,.pt (cw p) 0),(7,.aI 0 x.2.1 0 x.1 x.2.2),(8,af (x.1:Nat))],[.cells (ay (w6 c p T x.1)) 1 x.2.1],bp.none,false,0⟩) (fun x=>c.aH.length - x.1) ?_ (0,0,0) ⟨qq5 _,.inl rfl⟩;rintro ⟨k,v,cc⟩ ⟨hk,hcap⟩;dsimp only at hk hcap;show aB _ _ _ _ ⟨aL [(2,.sl (T.map eT) fT),(3,.pt (aM c) 0),(4,.pt (cw p) 0),(7,.aI 0 ((k,v,cc):Nat × Nat × Nat).2.1 0 ((k,v,cc):Nat × Nat × Nat).1 ((k,v,cc):Nat × Nat × Nat).2.2),(8,af (((k,v,cc):Nat × Nat × Nat).1:Nat))],[.cells (ay (w6 c p T ((k,v,cc):Nat × Nat × Nat).1)) 1 ((k,v,cc):Nat × Nat × Nat).2.1],bp.none,false,0⟩ _;dsimp only;by_cases hlt:k < c.aH.length
 ·have dl:decide ((k:Int) < ((c.aH.map bq).length:Int))=true:=decide_eq_true (by omega);refine aa (mu:=fun t=>Nat.beq t 39) ?_;repeat' first|refine u1 ?_|refine u2 ?_|fail
  refine aB.aP (ah.to (l:=[(2,.sl (T.map eT) fT),(3,.pt (aM c) 0),(4,.pt (cw p) 0),(7,.aI 0 ((k,v,cc):Nat × Nat × Nat).2.1 0 ((k,v,cc):Nat × Nat × Nat).1 ((k,v,cc):Nat × Nat × Nat).2.2),(8,af (((k,v,cc):Nat × Nat × Nat).1:Nat)),(9,af (BJ T ((k,v,cc):Nat × Nat × Nat).1 (0):Nat)),(10,af (0:Nat))]) (hp:=[.cells (ay (w6 c p T ((k,v,cc):Nat × Nat × Nat).1)) 1 ((k,v,cc):Nat × Nat × Nat).2.1]) 1 rfl ⟨rfl,rfl,rfl,rfl,rfl,rfl,rfl,trivial⟩ (qq5 _) rfl (av _ _)) ?_;refine aB.loop (fun i:Nat=>i≤T.length) (fun i=>⟨aL [(2,.sl (T.map eT) fT),(3,.pt (aM c) 0),(4,.pt (cw p) 0),(7,.aI 0 ((k,v,cc):Nat × Nat × Nat).2.1 0 ((k,v,cc):Nat × Nat × Nat).1 ((k,v,cc):Nat × Nat × Nat).2.2),(8,af (((k,v,cc):Nat × Nat × Nat).1:Nat)),(9,af (BJ T ((k,v,cc):Nat × Nat × Nat).1 (i):Nat)),(10,af (i:Nat))],[.cells (ay (w6 c p T ((k,v,cc):Nat × Nat × Nat).1)) 1 ((k,v,cc):Nat × Nat × Nat).2.1],bp.none,false,0⟩) (fun i=>T.length - i) ?_ 0 (qq5 _);intro i hi;dsimp only;have b1:=Kz T k i;by_cases hit:i < T.length
  ·have d2:decide ((i:Int) < ((T.map eT).length:Int))=true:=decide_eq_true (by omega);have hat:(T.map eT)[((i:Nat):Int).toNat]?=some (eT T[i]):=dB hit;have hst:=GM (m:=k) hit;have o1:=GD one T[i] false (hT.each _ (List.getElem_mem hit)) (k:Nat)
   generalize T[i]=l at *
   generalize BJ T k i=y at *
   cases e:kE l (k:Nat) with
   | true =>
    rw [e] at o1 hst;rw [if_pos rfl] at hst;refine aa (mu:=fun t=>Nat.beq t 39) ?_;repeat' first|((with_reducible refine qq3 ?_);refine ak.call o1 rfl rfl ?_)|refine u1 ?_|(refine ⟨[.sl (ints l) false],⟨by omega,hat⟩,rfl,?_⟩)|refine u2 ?_|fail
    exact ⟨i+1,hit,(by dsimp only;omega),ah.to (l:=[(2,.sl (T.map eT) fT),(3,.pt (aM c) 0),(4,.pt (cw p) 0),(7,.aI 0 ((k,v,cc):Nat × Nat × Nat).2.1 0 ((k,v,cc):Nat × Nat × Nat).1 ((k,v,cc):Nat × Nat × Nat).2.2),(8,af (((k,v,cc):Nat × Nat × Nat).1:Nat)),(9,af (BJ T ((k,v,cc):Nat × Nat × Nat).1 (i+1):Nat)),(10,af (i+1:Nat))]) (hp:=[.cells (ay (w6 c p T ((k,v,cc):Nat × Nat × Nat).1)) 1 ((k,v,cc):Nat × Nat × Nat).2.1]) 1 rfl ⟨rfl,rfl,rfl,rfl,rfl,aD (by rw [hst];simp),aD (by simp),trivial⟩ (qq5 _) rfl (av _ _)⟩
   | false =>
    rw [e] at o1 hst;rw [if_neg (by simp)] at hst;refine aa (mu:=fun t=>Nat.beq t 39) ?_;repeat' first|((with_reducible refine qq3 ?_);refine ak.call o1 rfl rfl ?_)|refine u1 ?_|(refine ⟨[.sl (ints l) false],⟨by omega,hat⟩,rfl,?_⟩)|refine u2 ?_|fail
    exact ⟨i+1,hit,(by dsimp only;omega),ah.to (l:=[(2,.sl (T.map eT) fT),(3,.pt (aM c) 0),(4,.pt (cw p) 0),(7,.aI 0 ((k,v,cc):Nat × Nat × Nat).2.1 0 ((k,v,cc):Nat × Nat × Nat).1 ((k,v,cc):Nat × Nat × Nat).2.2),(8,af (((k,v,cc):Nat × Nat × Nat).1:Nat)),(9,af (BJ T ((k,v,cc):Nat × Nat × Nat).1 (i+1):Nat)),(10,af (i+1:Nat))]) (hp:=[.cells (ay (w6 c p T ((k,v,cc):Nat × Nat × Nat).1)) 1 ((k,v,cc):Nat × Nat × Nat).2.1]) 1 rfl ⟨rfl,rfl,rfl,rfl,rfl,aD (by rw [hst];simp),aD (by simp),trivial⟩ (qq5 _) rfl (av _ _)⟩
  ·have d2:decide ((i:Int) < ((T.map eT).length:Int))=false:=decide_eq_false (by omega);have hin:i=T.length:=by omega
   subst hin;have p1:=s9 one c hg p hp k hlt (BJ T k T.length:Nat) ⟨by omega,by omega⟩;have hst:=GN c p T k;have hgl:(ay (w6 c p T k)).length=k * 1:=by rw [List.length_map,rV];omega
   generalize ct c p k (BJ T k T.length:Nat)=z at *
   refine aa (mu:=fun t=>Nat.beq t 39) ?_;repeat' first|((with_reducible refine qq3 ?_);refine ak.call p1 rfl rfl ?_)|((with_reducible show RM.wpOp _ _ (.call _) _ _ _);refine RM.wD (cs:=ay (w6 c p T k)) (n:=k) (els:=[eI z]) rfl rfl rfl rfl rfl (fun el hel=>by rw [List.mem_singleton.1 hel];rfl) rfl rfl hgl hcap (by simp only [List.length_singleton];omega) (fun v' c' hc'=>?_))|refine u1 ?_|refine u2 ?_|fail
   exact ⟨(k+1,v',c'),⟨hlt,hc'⟩,(by dsimp only;omega),ah.to (l:=[(2,.sl (T.map eT) fT),(3,.pt (aM c) 0),(4,.pt (cw p) 0),(7,.aI 0 ((k+1,v',c'):Nat × Nat × Nat).2.1 0 ((k+1,v',c'):Nat × Nat × Nat).1 ((k+1,v',c'):Nat × Nat × Nat).2.2),(8,af (((k+1,v',c'):Nat × Nat × Nat).1:Nat))]) (hp:=[.cells (ay (w6 c p T ((k+1,v',c'):Nat × Nat × Nat).1)) 1 ((k+1,v',c'):Nat × Nat × Nat).2.1]) 1 (by show _=[AB.cells (ay (w6 c p T (k+1))) 1 v'];rw [hst];unfold ay;rw [List.map_append];rfl) ⟨rfl,rfl,rfl,rfl,aD (by simp),trivial⟩ (qq5 _) rfl (av _ _)⟩
 ·have dl:decide ((k:Int) < ((c.aH.map bq).length:Int))=false:=decide_eq_false (by omega);have hkn:k=c.aH.length:=by omega
  subst hkn;refine qq1 ?_;repeat' first|refine u1 ?_|refine u2 ?_|fail
  exact ⟨[_],⟨rO rfl (rV c p T _),trivial⟩,rfl⟩
end Go.Proofs.YtlpmfgmldmdggaaGreat
open Go Go.RM
namespace Go.Proofs.YtlpmfgmldmdggaaGreat
set_option maxRecDepth 100000
set_option maxHeartbeats 4000000
end Go.Proofs.YtlpmfgmldmdggaaGreat
open Go Go.RM
namespace Go.Proofs.YtlpmfgmldmdggaaGreat
set_option maxRecDepth 100000
def jA (l:List Int):Nat:=l.foldl (fun a m=>a ||| 2 ^ m.toNat) 0
theorem GO (l:List Int) (h:∀ x ∈ l,0≤x):∀ (a i:Nat),(l.foldl (fun a m=>a ||| 2 ^ m.toNat) a).testBit i=(a.testBit i || kE l (i:Nat)):=by
 induction l with
 | nil=>intro a i;simp [kE]
 | cons x l ih =>intro a i;rw [List.foldl_cons,ih (fun y hy=>h y (List.mem_cons_of_mem _ hy)),Nat.testBit_or,Nat.testBit_two_pow];have hx:=h x (by simp);have e:decide (x.toNat=i)=decide (x=(i:Int)):=decide_eq_decide.2 (by omega);rw [e];unfold kE;rw [List.any_cons,Bool.or_assoc]
theorem jQ {l:List Int} (h:∀ x ∈ l,0≤x) (i:Nat):(jA l).testBit i=kE l (i:Nat):=by unfold jA;rw [GO l h,Nat.zero_testBit,Bool.false_or]
theorem DH:∀ (l:List Int) (a:Nat),a < 32→(∀ x ∈ l,x < 5)→l.foldl (fun a m=>a ||| 2 ^ m.toNat) a < 32
 | [],a,ha,_=>ha
 | x :: l,a,ha,h=>by rw [List.foldl_cons];refine DH l _ (Nat.or_lt_two_pow (n:=5) ha ?_) fun y hy=>h y (List.mem_cons_of_mem _ hy);have:=h x (by simp);have:(2:Nat) ^ x.toNat≤2 ^ 4:=Nat.pow_le_pow_right (by decide) (by omega);omega
theorem GP {l:List Int} (h:∀ x ∈ l,x < 5):jA l < 32:=DH l 0 (by decide) h
theorem GQ {a b:Nat}:a &&& b ≠ 0 ↔ ∃ i,a.testBit i=true∧b.testBit i=true:=by
 constructor
 ·intro h;obtain ⟨i,hi⟩:=Nat.exists_testBit_of_ne_zero h;rw [Nat.testBit_and,qq7] at hi;exact ⟨i,hi⟩
 ·rintro ⟨i,h1,h2⟩ h0;have:(a &&& b).testBit i=true:=by rw [Nat.testBit_and,h1,h2];rfl
  rw [h0,Nat.zero_testBit] at this;cases this
theorem DI {l:List Int} {n:Int}:kE l n=true ↔ n ∈ l:=by
 unfold kE;rw [List.any_eq_true];constructor
 ·rintro ⟨x,h1,h2⟩;rw [←of_decide_eq_true h2];exact h1
 ·intro h;exact ⟨n,h,decide_eq_true rfl⟩
theorem GR {b l:List Int} (hb:∀ x ∈ b,0≤x) (hl:∀ x ∈ l,0≤x):(!decide (((jA l &&& jA b:Nat):Int)=0))=l.any fun x=>kE b x:=by
 have key:(jA l &&& jA b ≠ 0) ↔ (l.any fun x=>kE b x)=true:=by
  rw [GQ,List.any_eq_true];constructor
  ·rintro ⟨i,h1,h2⟩;rw [jQ hl] at h1;rw [jQ hb] at h2;exact ⟨(i:Int),DI.1 h1,h2⟩
  ·rintro ⟨x,h1,h2⟩;have hx:=hl x h1;refine ⟨x.toNat,?_,?_⟩
   ·rw [jQ hl,Int.toNat_of_nonneg hx];exact DI.2 h1
   ·rw [jQ hb,Int.toNat_of_nonneg hx];exact h2
 cases he:(l.any fun x=>kE b x) with
 | true =>have:=key.2 he;rw [decide_eq_false (by omega)];rfl
 | false =>
  have:jA l &&& jA b=0:=Decidable.not_not.1 fun h=>by rw [key.1 h] at he;cases he
  rw [this];rfl
theorem DJ {a i:Nat} (ha:a < 32) (hi:i < 5):(18446744073709551615 - a).testBit i=!a.testBit i:=by
 have h:(18446744073709551615 - a)=2 ^ 64 - (a+1):=by omega
 rw [h,Nat.testBit_two_pow_sub_succ (by omega)];rw [decide_eq_true (show i < 64 by omega),Bool.true_and]
theorem td {c:aS} (hm:c.aH.length≤5) {l:List Int} (h0:∀ x ∈ l,0≤x∧x < 5) (r:Nat):kF (jA l) (bI c r c.aH.length)=lM c l r:=by
 have hl:jA l < 32:=GP fun x hx=>(h0 x hx).2;have hbit:=fun i=>BF c r c.aH.length i
 have k1:(bI c r c.aH.length ≠ 0) ↔ 0 < lK c r c.aH.length:=by
  unfold lK;rw [List.countP_pos_iff];constructor
  ·intro h;obtain ⟨i,hi⟩:=Nat.exists_testBit_of_ne_zero h;rw [hbit,qq7] at hi;exact ⟨i,List.mem_range.2 (of_decide_eq_true hi.1),hi.2⟩
  ·rintro ⟨i,h1,h2⟩ h;have:=hbit i;rw [h,Nat.zero_testBit,decide_eq_true (List.mem_range.1 h1),h2] at this;cases this
 have k2:(bI c r c.aH.length &&& (18446744073709551615 - jA l)=0) ↔ ∀ i,i < c.aH.length→gT c i=r→kE l (i:Nat)=true:=by
  rw [←Decidable.not_iff_not,←ne_eq,GQ];constructor
  ·rintro ⟨i,h1,h2⟩ h;rw [hbit,qq7] at h1;have hin:=of_decide_eq_true h1.1;rw [DJ hl (by omega),jQ (fun x hx=>(h0 x hx).1),h i hin (of_decide_eq_true h1.2)] at h2;cases h2
  ·intro h;obtain ⟨i,h⟩:=Classical.not_forall.1 h;obtain ⟨hin,h⟩:=Classical.not_imp.1 h;obtain ⟨hr,h⟩:=Classical.not_imp.1 h;refine ⟨i,?_,?_⟩
   ·rw [hbit,decide_eq_true hin,decide_eq_true hr];rfl
   ·rw [DJ hl (by omega),jQ (fun x hx=>(h0 x hx).1)]
    cases hv:kE l (i:Nat) with
    | true=>exact absurd hv h
    | false=>rfl
 have k3:(qm c l r c.aH.length=lK c r c.aH.length) ↔ ∀ i,i < c.aH.length→gT c i=r→kE l (i:Nat)=true:=by
  unfold qm lK
  have e:∀ L:List Nat,(L.countP (fun m=>decide (gT c m=r) && kE l (m:Nat))=L.countP fun m=>decide (gT c m=r)) ↔ ∀ i ∈ L,gT c i=r→kE l (i:Nat)=true:=by
   intro L
   induction L with
   | nil=>simp
   | cons a L ih =>
    have hle:L.countP (fun m=>decide (gT c m=r) && kE l (m:Nat))≤L.countP fun m=>decide (gT c m=r):=List.countP_mono_left fun x _ hx=>by rw [qq7] at hx;exact hx.1
    rw [List.countP_cons,List.countP_cons,List.forall_mem_cons,←ih];by_cases hr:gT c a=r
    ·by_cases hv:kE l (a:Nat)=true
     ·simp [hr,hv]
     ·have hv':kE l (a:Nat)=false:=by simpa using hv
      simp only [hr,hv',decide_true,Bool.and_false,if_true,Bool.false_eq_true,if_false];constructor
      ·intro h;omega
      ·rintro ⟨h,_⟩;exact absurd h (by simp)
    ·simp [hr]
  rw [e];exact ⟨fun h i hi=>h i (List.mem_range.2 hi),fun h i hi=>h i (List.mem_range.1 hi)⟩
 have d1:(!decide ((bI c r c.aH.length:Int)=0))=decide (0 < lK c r c.aH.length):=by
  by_cases h:bI c r c.aH.length=0
  ·rw [h,decide_eq_false (fun h2=>k1.2 h2 h)];rfl
  ·rw [decide_eq_false (show ¬ ((bI c r c.aH.length:Int)=0) by omega),decide_eq_true (k1.1 h)];rfl
 have d2:decide (((bI c r c.aH.length &&& (18446744073709551615 - jA l):Nat):Int)=0)=decide (qm c l r c.aH.length=lK c r c.aH.length):=by
  rw [decide_eq_decide];constructor
  ·intro h;exact k3.2 (k2.1 (by omega))
  ·intro h;have:=k2.2 (k3.1 h);omega
 unfold kF lM;rw [d1,d2]
theorem CS {c:aS} (hg:Good c) {l:List Int} {r:Nat} (hr:c.aE.length≤r):lM c l r=false:=by
 unfold lM
 have:lK c r c.aH.length=0:=by
  unfold lK;rw [List.countP_eq_zero];intro i hi;have hin:=List.mem_range.1 hi;have hm:=hg.ME _ (List.getElem_mem hin);have:gT c i=c.aH[i].kL.toNat:=by unfold gT;rw [List.getElem?_eq_getElem hin];rfl
  rw [decide_eq_true_eq,this];omega
 rw [this];rfl
theorem BK {c:aS} (hg:Good c) {l:List Int} (h0:∀ x ∈ l,0≤x∧x < 5):zM (bI c 0 c.aH.length) (bI c 1 c.aH.length) (bI c 2 c.aH.length) (jA l)=!oQ c l:=by
 have hm:=hg.aH.2;unfold zM;rw [td hm h0,td hm h0,td hm h0]
 congr 1
 unfold oQ;have hr:=hg.aE;have big:=fun r (h:c.aE.length≤r)=>CS hg (l:=l) h;obtain e|e|e:c.aE.length=1∨c.aE.length=2∨c.aE.length=3:=by omega
 ·rw [e,big 1 (by omega),big 2 (by omega)];simp [List.range_succ]
 ·rw [e,big 2 (by omega)];simp [List.range_succ]
 ·rw [e];simp [List.range_succ]
end Go.Proofs.YtlpmfgmldmdggaaGreat
open Go Go.RM
namespace Go.Proofs.YtlpmfgmldmdggaaGreat
set_option maxRecDepth 100000
set_option maxHeartbeats 4000000
theorem iw (one:Bool) (a b:Int):Pu one 110 [af a,af b] (BB (decide (a < b))):=by
 have o1:=GJ one a;refine ak.body (fn:=Tryz.f110) rfl rfl rfl rfl ?_;refine qq1 ?_;repeat' first|refine u1 ?_|((with_reducible refine qq3 ?_);refine ak.call o1 rfl rfl ?_)|refine u2 ?_|fail
 exact ⟨[_],⟨Fz.deep rfl,trivial⟩,rfl⟩
theorem EI {one:Bool} {F v:AV} {a c:List AV} {b:Bool} (h:ak TT TB one F (a++.sl [] b :: c) v):ak TT TB one F (a++.fl (.slice none 0 0) :: c) v:=by
 refine ⟨h.1,fun X H u us hw hx hF hA=>h.2 X H u us hw hx hF ⟨?_,fun i x w hi hu=>?_⟩⟩
 ·have:=hA.1;simp only [List.length_append,List.length_cons] at this ⊢;exact this
 ·by_cases hlt:i < a.length
  ·rw [List.getElem?_append_left hlt] at hi;exact hA.2 i x w (by rw [List.getElem?_append_left hlt];exact hi) hu
  ·have ha:=fun y=>hA.2 i y w;rw [List.getElem?_append_right (by omega)] at hi ha
   cases hj:i - a.length with
   | zero =>rw [hj] at hi ha;obtain rfl:=Option.some.inj hi;have:=ha _ rfl hu;cases this;exact .nil
   | succ j =>rw [hj] at hi ha;exact ha x hi hu
end Go.Proofs.YtlpmfgmldmdggaaGreat
open Go Go.RM
namespace Go.Proofs.YtlpmfgmldmdggaaGreat
set_option maxRecDepth 100000
set_option maxHeartbeats 4000000
theorem oR (W:List Int):([.cells (ay W) 0 0]:List AB).all (AB.i5 1)=true:=by have h1:AB.i5 1 (.cells (ay W) 0 0)=true:=iu 1 (fun _=>rfl) _;simp only [List.all_cons,List.all_nil,h1,Bool.and_true]
structure MJ (c:aS) (p:dm) (l:List Int):Prop where
 Ka:iy 0 ((c.aH.length:Int) - 1) l=false
 Nu:IF l=false
 len:(l.length:Int)≤p.aN
theorem MJ.err {c:aS} {p:dm} {l:List Int} (h:MJ c p l) (b:List Int):BZ c p.aN b l=HM c b l:=by unfold BZ HN IK;rw [if_neg (by rw [h.Ka];simp),if_neg (by rw [h.Nu];simp),if_neg (by have:=h.len;omega)]
end Go.Proofs.YtlpmfgmldmdggaaGreat
open Go Go.RM
namespace Go.Proofs.YtlpmfgmldmdggaaGreat
set_option maxRecDepth 100000
set_option maxHeartbeats 4000000
end Go.Proofs.YtlpmfgmldmdggaaGreat
open Go Go.RM
namespace Go.Proofs.YtlpmfgmldmdggaaGreat
set_option maxRecDepth 100000
set_option maxHeartbeats 4000000
end Go.Proofs.YtlpmfgmldmdggaaGreat
open Go Go.RM
namespace Go.Proofs.YtlpmfgmldmdggaaGreat
set_option maxRecDepth 100000
def GS:List Nat:=[0,1,3,7,15,31,23,11,27,19,5,13,29,21,9,25,17,2,6,14,30,22,10,26,18,4,12,28,20,8,24,16]
theorem IX:GS.Pairwise fun a b=>cu (a:Nat)≤cu (b:Nat):=by decide
theorem zR:∀ a ∈ GS,a < 32:=by decide
theorem IY:∀ a,a < 32→a ∈ GS:=by decide
theorem EJ:GS.Nodup:=by decide
theorem zS:∀ a,a < 32→jA (cV a)=a:=by decide
theorem KB:∀ a,a < 32→IF (cV a)=false:=by decide
theorem CT:∀ a,a < 32→∀ x ∈ cV a,0≤x∧x < 5:=by decide
theorem KC:∀ n:Nat,n < 6→∀ a,a < 32→a < 2 ^ n→iy 0 ((n:Int) - 1) (cV a)=false:=by decide
theorem KF:∀ a,a < 32→∀ m,m < 5→kE (cV a) (m:Nat)=a.testBit m:=by decide
def dw (n:Nat) (w:Int):List Nat:=GS.filter fun a=>decide (a < 2 ^ n) && decide (((cV a).length:Int)≤w)
theorem GU:∀ n,n < 6→(dw n 1).map cV=CP n 1 0:=by decide
theorem GV:∀ n,n < 6→(dw n 2).map cV=CP n 2 0:=by decide
abbrev BL (c:aS) (a:Nat):Bool:=zM (bI c 0 c.aH.length) (bI c 1 c.aH.length) (bI c 2 c.aH.length) a
abbrev gU (c:aS) (p:dm):List AV:=tc c p (bI c 0 c.aH.length) (bI c 1 c.aH.length) (bI c 2 c.aH.length)
def CU (c:aS) (w:Int) (a:Nat):Bool:=decide (((cV a).length:Int)≤w) && BL c a
def eM (c:aS) (w:Int) (k:Nat):List Nat:=(List.range k).filter (CU c w)
def kM (c:aS) (w:Int):List Nat:=(dw c.aH.length w).filter (BL c)
theorem zT {c:aS} (hg:Good c) {w:Int} {a:Nat}:a ∈ kM c w ↔ a < 2 ^ c.aH.length∧((cV a).length:Int)≤w∧BL c a=true:=by unfold kM dw;rw [List.mem_filter,List.mem_filter,qq7,decide_eq_true_eq,decide_eq_true_eq];have h5:2 ^ c.aH.length≤2 ^ 5:=Nat.pow_le_pow_right (by decide) hg.aH.2;exact ⟨fun ⟨⟨_,h1,h2⟩,h3⟩=>⟨h1,h2,h3⟩,fun ⟨h1,h2,h3⟩=>⟨⟨IY a (by omega),h1,h2⟩,h3⟩⟩
theorem wR {c:aS} (hg:Good c) {w:Int} {a:Nat} (h:a ∈ kM c w):a < 32:=by have h5:2 ^ c.aH.length≤2 ^ 5:=Nat.pow_le_pow_right (by decide) hg.aH.2;have:=((zT hg).1 h).1;omega
theorem set_perm {c:aS} (hg:Good c) (w:Int):(kM c w).Perm (eM c w (2 ^ c.aH.length)):=by refine (List.perm_ext_iff_of_nodup ((EJ.filter _).filter _) (List.nodup_range.filter _)).2 fun a=>?_;refine (zT hg).trans ?_;unfold CU;rw [List.mem_filter,List.mem_range,qq7,decide_eq_true_eq]
theorem IZ (c:aS) (w:Int):(kM c w).Pairwise fun a b=>cu (a:Nat)≤cu (b:Nat):=(IX.sublist List.filter_sublist).sublist List.filter_sublist
abbrev nI (l:List Nat):List Int:=l.map fun a=>((a:Nat):Int)
theorem I2 {rk:Int→Int} {S:List Int} {N:Nat} (hN:S.length=N) (h:Sd rk S 0 N):S.Pairwise fun a b=>rk a≤rk b:=by rw [List.pairwise_iff_getElem];intro p q hp hq h1;have:=h p q (qq5 _) (Nat.le_of_lt h1) (by omega);unfold aG at this;rw [List.getD_eq_getElem?_getD,List.getElem?_eq_getElem hp,List.getD_eq_getElem?_getD,List.getElem?_eq_getElem hq] at this;exact this
theorem GW {c:aS} (hg:Good c) {w:Int} {S:List Int} {N:Nat} (hN:S.length=N) (hp:S.Perm (nI (eM c w (2 ^ c.aH.length)))) (hs:Sd cu S 0 N):S=nI (kM c w):=by have hp2:S.Perm (nI (kM c w)):=hp.trans ((set_perm hg w).map _).symm;refine GH (rk:=cu) (fun a ha b hb h=>?_) (I2 hN hs) (List.pairwise_map.2 (IZ c w)) hp2;obtain ⟨x,hx,rfl⟩:=List.mem_map.1 (hp2.mem_iff.1 ha);obtain ⟨y,hy,rfl⟩:=List.mem_map.1 (hp2.mem_iff.1 hb);rw [Kx x (wR hg hx) y (wR hg hy) h]
theorem DK {c:aS} (hg:Good c) {p:dm} (hp:wM p):(kM c p.aN).length≤16:=by
 have h1:(kM c p.aN).length≤(dw c.aH.length p.aN).length:=List.length_filter_le _ _;have h2:∀ n,n < 6→(dw n 1).length≤16∧(dw n 2).length≤16:=by decide
 obtain ⟨q1,q2⟩:=h2 c.aH.length (by have:=hg.aH;omega);obtain e|e:p.aN=1∨p.aN=2:=by have:=hp.aN;omega
 ·rw [e] at h1 ⊢;omega
 ·rw [e] at h1 ⊢;omega
theorem I3 {c:aS} (hg:Good c) {p:dm} (hp:wM p):(dw c.aH.length p.aN).map cV=CP c.aH.length p.aN.toNat 0:=by
 obtain e|e:p.aN=1∨p.aN=2:=by have:=hp.aN;omega
 ·rw [e];exact GU _ (by have:=hg.aH;omega)
 ·rw [e];exact GV _ (by have:=hg.aH;omega)
theorem BM {c:aS} (hg:Good c) {p:dm} (hp:wM p):0 ∈ kM c p.aN:=by
 refine (zT hg).2 ⟨Nat.two_pow_pos _,?_,?_⟩
 ·have:=hp.aN;show ((0:Nat):Int)≤_;omega
 ·show BL c 0=true;have h:=BK hg (l:=[]) (fun x hx=>by cases hx);show zM _ _ _ (jA [])=true;rw [h];unfold oQ
  have:((List.range c.aE.length).any fun r=>lM c [] r)=false:=by
   rw [List.any_eq_false];intro r _;unfold lM qm;have h0:∀ L:List Nat,(L.countP fun m=>decide (gT c m=r) && kE [] (m:Nat))=0:=fun L=>List.countP_eq_zero.2 fun x _=>by simp [kE]
   rw [h0,qq7,decide_eq_true_eq,decide_eq_true_eq];omega
  rw [this];rfl
theorem I4 {c:aS} (hg:Good c) {p:dm} {a b:Nat} (hb:b < 32) (ha:a ∈ dw c.aH.length p.aN):(BZ c p.aN (cV b) (cV a)=0) ↔ (a &&& b=0∧BL c a=true):=by
 have h5:2 ^ c.aH.length≤2 ^ 5:=Nat.pow_le_pow_right (by decide) hg.aH.2;unfold dw at ha;obtain ⟨h1,h2⟩:=List.mem_filter.1 ha;rw [qq7,decide_eq_true_eq,decide_eq_true_eq] at h2;have h32:=zR a h1;have hl:MJ c p (cV a):=⟨KC _ (by have:=hg.aH;omega) a h32 h2.1,KB a h32,h2.2⟩;rw [hl.err];have k1:=GR (b:=cV b) (l:=cV a) (fun x hx=>(CT b hb x hx).1) (fun x hx=>(CT a h32 x hx).1);have k2:=BK hg (l:=cV a) (CT a h32);rw [zS a h32,zS b hb] at k1;rw [zS a h32] at k2;unfold HM IJ;rw [←k1];show _ ↔ _∧zM _ _ _ a=true;rw [k2];by_cases h:a &&& b=0
 ·rw [h];cases oQ c (cV a) <;> simp
 ·have hd:(!decide (((a &&& b:Nat):Int)=0))=true:=by rw [decide_eq_false (by omega)];rfl
  rw [if_pos hd];exact ⟨fun h2=>absurd h2 (by decide),fun h2=>absurd h2.1 h⟩
