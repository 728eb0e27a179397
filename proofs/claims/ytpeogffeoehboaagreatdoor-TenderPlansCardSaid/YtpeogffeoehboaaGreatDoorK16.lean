/-
  Contracts of the program's functions and of the document's. Lemmas alone; their conditions stand in them.
-/
import Derived.Test.YtpeogffeoehboaaGreatDoorK10
open Go Go.RM
namespace Go.Proofs.YtpeogffeoehboaaGreatDoor
set_option maxRecDepth 100000
set_option maxHeartbeats 4000000
theorem uf (f k:Nat):(ct f k).length≤k:=by unfold ct;rw [List.length_map];exact Nat.le_trans (List.length_filter_le _ _) (by simp)
def gu (s:ai) (K N f:Nat) (L:List (List Int)):List (List Int):=(L.map (nN N f)).filter fun F=>jF s.row N (dc F) K
theorem zV (s:ai) (K N f:Nat) (L:List (List Int)):(gu s K N f L).length≤L.length:=by unfold gu;exact Nat.le_trans (List.length_filter_le _ _) (by rw [List.length_map];exact qq6 _)
theorem Fy (s:ai) (K N f:Nat) (L:List (List Int)) (l:List Int):gu s K N f (L++[l])=gu s K N f L++if jF s.row N (dc (nN N f l)) K=true then [nN N f l] else []:=by unfold gu;rw [List.map_append,List.filter_append];cases h:jF s.row N (dc (nN N f l)) K <;> simp [h]
def qp (s:ai) (K N f n:Nat):List (List Int):=(List.range n).flatMap (Fi s K N f)
theorem Mf (s:ai) (K N f n:Nat):qp s K N f (n+1)=qp s K N f n++Fi s K N f n:=by unfold qp;rw [List.range_succ,List.flatMap_append,List.flatMap_cons,List.flatMap_nil,List.append_nil]
theorem GM {s:ai} {K N f n:Nat} (h8:K≤8) (hk:N≤K) (hn:n≤9):(qp s K N f n).length≤9 * 16777216:=by
 have h1:=pF (f:=Fi s K N f) (c:=16777216) (l:=List.range n) fun i hi=>by have hi:=List.mem_range.1 hi;have h2:=zV s K N f (dQ ((K:Int) - N) i []);have h3:=jG (below:=K - N) (by omega) i [] (Int.le_refl _);rw [show (((K - N:Nat)):Int)=(K:Int) - N by omega] at h3;exact Nat.le_trans h2 (Nat.le_trans h3 (zN (by omega)))
 rw [List.length_range] at h1;exact Nat.le_trans h1 (Nat.mul_le_mul_right _ hn)
theorem NJ {came:List Bool} {k:Nat} (h:k < came.length):(came.map eB)[((k:Nat):Int).toNat]?=some (eB came[k]):=bp h
theorem pJ (L:List (List Int)) (v:Nat) (B:List Int) (w:Nat):([.cells (dm L) 1 v,.cells (bG B) 1 w]:List AB).all (AB.gF 2)=true:=by have h:AB.gF 2 (.cells (dm L) 1 v)=true:=gM 2 (fun _=>rfl) _;have h':AB.gF 2 (.cells (bG B) 1 w)=true:=gM 2 (fun _=>rfl) _;simp only [List.all_cons,List.all_nil,h,h',Bool.and_true]
theorem NK {hp:List AB} {j v c:Nat} {B:List Int} (h:hp[j]?=some (.cells (bG B) 1 v)):Fz hp (.bg j v 0 B.length c) (.sl (ints B) false) :=
 Fz.row (es:=1) h (eu B).1 (eu B).2.1 (eu B).2.2.1 (eu B).2.2.2 (by rw [cK];exact fu B) (fun h=>Bool.noConfusion h)
def l6 (B:List Int) (N:Nat) (l:List Int) (j:Nat):List Int:=B++(l.take j).map (·+(N:Int))
theorem H8 {B:List Int} {N:Nat} {l:List Int} {j:Nat} (h:j < l.length):l6 B N l (j+1)=l6 B N l j++[l[j]+(N:Int)]:=by unfold l6;rw [List.take_add_one,List.getElem?_eq_getElem h,List.map_append,List.append_assoc];rfl
theorem ug (B:List Int) (N:Nat) (l:List Int):l6 B N l 0=B:=by unfold l6;rw [List.take_zero,List.map_nil,List.append_nil]
theorem Mg (N f:Nat) (l:List Int):l6 (ct f N) N l l.length=nN N f l:=by unfold l6 nN;rw [List.take_length]
theorem FA {R:Int} {N y k:Nat}:jF R N y (k+1)=(jF R N y k && (decide (k < N) || decide (rowAt y (k+1)≤R) || !y.testBit k)):=rfl
theorem DI (one:Bool) {s:ai} (hg:Good s) {K most:Nat} (h8:K≤8) (hm:most≤8) (came:List Bool) (cf:Bool) (hN:came.length≤K):Pu one 57 [.ag (ay s),aC (K:Nat),.sl (came.map eB) cf,aC (most:Nat)] (.sl ((yG s K came.length (eo came) most).map eL) false):=by
 have ec:((came.map eB).length:Int)=came.length:=by simp
 refine aj.body (fn:=Tryz.f57) rfl rfl rfl rfl ?_;refine qq2 ?_;repeat' first|refine RM.Hv rfl rfl rfl rfl ?_|refine u1 ?_|refine u2 ?_|fail
 refine qq2 ?_;repeat' first|refine u1 ?_|refine u2 ?_|fail
 refine av.seq ?_;refine qq2 ?_;repeat' first|refine u1 ?_|refine u2 ?_|fail
 refine av.block ?_;refine av.aJ (ah.trans (ah.jl 1) (ah.Gi (l:=[(1,aC (K:Nat)),(2,.sl (came.map eB) cf),(3,aC (most:Nat)),(4,.pt (ay s) 0),(9,.bg 0 0 0 (ct (eo came) 0).length 0),(10,aC (0:Nat))]) (hp:=[.cells (bG (ct (eo came) 0)) 1 0]) 1 rfl ⟨aW.refl _,aW.refl _,aW.refl _,aW.refl _,aW.jk,aW.refl _,trivial⟩ (qq5 _) rfl (dK _ _))) ?_;refine av.loop (fun x:Nat × Nat × Nat=>x.1≤came.length∧(x.2.2=(ct (eo came) x.1).length∨x.2.2=(ct (eo came) x.1).length+1)) (fun x=>⟨aZ [(1,aC (K:Nat)),(2,.sl (came.map eB) cf),(3,aC (most:Nat)),(4,.pt (ay s) 0),(9,.bg 0 x.2.1 0 (ct (eo came) x.1).length x.2.2),(10,aC (x.1:Nat))],[.cells (bG (ct (eo came) x.1)) 1 x.2.1],bA.none,false,0⟩) (fun x=>came.length - x.1) ?_ (0,0,0) ⟨qq5 _,.inl rfl⟩;rintro ⟨k,aA,c⟩ ⟨hk,hcap⟩;dsimp only at hk hcap;show av _ _ _ _ ⟨aZ [(1,aC (K:Nat)),(2,.sl (came.map eB) cf),(3,aC (most:Nat)),(4,.pt (ay s) 0),(9,.bg 0 aA 0 (ct (eo came) k).length c),(10,aC (k:Nat))],[.cells (bG (ct (eo came) k)) 1 aA],bA.none,false,0⟩ _;by_cases hlt:k < came.length
 ·have d1:decide ((k:Int) < ((came.map eB).length:Int))=true:=decide_eq_true (by omega);have hbit:=HI hlt;have hs1:=nM (eo came) k;rw [hbit] at hs1;have hat:=NJ hlt;have hbd:(k:Int) < ((came.map eB).length:Int):=by omega
  have hll:=uf (eo came) k;have hgl:(bG (ct (eo came) k)).length=(ct (eo came) k).length:=List.length_map _
  generalize hX:ct (eo came) (k+1)=X at *
  generalize hY:ct (eo came) k=Y at *
  cases hb:came[k] with
  | true =>
   rw [hb] at hat hs1;rw [Bool.not_true,if_neg (by simp),List.append_nil] at hs1;refine qq2 ?_;repeat' first|refine u1 ?_|refine u2 ?_|fail
   refine qq2 ?_;repeat' first|refine u1 ?_|((with_reducible refine qq4 ?_);refine ⟨eB true,⟨by omega,hat⟩,rfl,?_⟩)|refine u2 ?_|fail
   refine qq1 ?_;repeat' first|refine u1 ?_|refine u2 ?_|fail
   exact ⟨(k+1,aA,c),⟨hlt,by dsimp only;rw [hX,hs1];exact hcap⟩,(by dsimp only;omega),ah.to 1 (by dsimp only;rw [hX,hs1];rfl) ⟨rfl,rfl,rfl,rfl,(by dsimp only;rw [hX,hs1];rfl),bq (by simp),trivial⟩ (qq5 _) rfl (dK _ _)⟩
  | false =>
   rw [hb] at hat hs1;rw [Bool.not_false,if_pos rfl] at hs1;refine qq2 ?_;repeat' first|refine u1 ?_|refine u2 ?_|fail
   refine qq2 ?_;repeat' first|((with_reducible show RM.wpOp _ _ (.call _) _ _ _);refine RM.l5 (cs:=bG Y) (n:=Y.length) (els:=[eI (k:Nat)]) rfl rfl rfl rfl rfl (fun el hel=>by rw [List.mem_singleton.1 hel];rfl) rfl rfl (by rw [hgl];exact (Nat.mul_one _).symm) hcap (by simp only [List.length_singleton];omega) (fun v' c' hc'=>?_))|refine u1 ?_|((with_reducible refine qq4 ?_);refine ⟨eB false,⟨by omega,hat⟩,rfl,?_⟩)|refine u2 ?_|fail
   refine qq1 ?_;repeat' first|refine u1 ?_|refine u2 ?_|fail
   exact ⟨(k+1,v',c'),⟨hlt,by dsimp only;rw [hX,hs1,List.length_append];exact hc'⟩,(by dsimp only;omega),ah.to 1 (by dsimp only;rw [hX,hs1];unfold bG;rw [List.map_append];rfl) ⟨rfl,rfl,rfl,rfl,(by dsimp only;rw [hX,hs1,List.length_append];rfl),bq (by simp),trivial⟩ (qq5 _) rfl (dK _ _)⟩
 ·obtain rfl:k=came.length:=by omega
  have d1:decide ((came.length:Int) < ((came.map eB).length:Int))=false:=decide_eq_false (by omega);refine qq1 ?_;repeat' first|refine u1 ?_|refine u2 ?_|fail
  have hfb:nN came.length (eo came)=fun l=>ct (eo came) came.length++l.map (·+(came.length:Int)):=rfl;have hBl:=uf (eo came) came.length;have hall:=fun l=>Mg came.length (eo came) l;have hfl:=fun n=>GM (s:=s) (f:=eo came) (n:=n) h8 hN;have hfs:=Mf s K came.length (eo came);have hfd:yG s K came.length (eo came) most=qp s K came.length (eo came) (most+1):=rfl;rw [hfd]
  generalize eo came=f at *
  generalize hBB:ct f came.length=B at *
  refine av.aJ (ah.trans (ah.giveUp 0 (l:=[(1,aC (K:Nat)),(2,.sl (came.map eB) cf),(3,aC (most:Nat)),(4,.pt (ay s) 0),(9,.sl (ints B) false)]) (hp:=[.gone]) rfl (qq5 _) (fu _) ⟨.same rfl,.same rfl,.same rfl,.same rfl,.row 1 (eu B).1 (eu B).2.1 (eu B).2.2.1 (eu B).2.2.2 (fun h=>Bool.noConfusion h),trivial⟩ rfl rfl) (ah.to (l:=[(1,aC (K:Nat)),(2,.sl (came.map eB) cf),(3,aC (most:Nat)),(4,.pt (ay s) 0),(9,.sl (ints B) false)]) (hp:=[]) 0 rfl ⟨rfl,rfl,rfl,rfl,rfl,trivial⟩ (qq5 _) rfl rfl)) ?_;refine qq2 ?_;repeat' first|refine u1 ?_|refine u2 ?_|fail
  refine av.seq ?_;refine qq2 ?_;repeat' first|refine u1 ?_|refine u2 ?_|fail
  refine av.block ?_;refine av.aJ (ah.trans (ah.jl 1) (ah.Gi (l:=[(1,aC (K:Nat)),(2,.sl (came.map eB) cf),(3,aC (most:Nat)),(4,.pt (ay s) 0),(9,.sl (ints B) false),(11,.bg 0 0 0 (qp s K came.length f 0).length 0),(12,aC (0:Nat))]) (hp:=[.cells (dm (qp s K came.length f 0)) 1 0]) 1 rfl ⟨aW.refl _,aW.refl _,aW.refl _,aW.refl _,aW.refl _,aW.jk,aW.refl _,trivial⟩ (qq5 _) rfl (cL _ _))) ?_;refine av.loop (fun x:Nat × Nat × Nat=>x.1≤most+1∧(x.2.2=(qp s K came.length f x.1).length∨x.2.2=(qp s K came.length f x.1).length+1)) (fun x=>⟨aZ [(1,aC (K:Nat)),(2,.sl (came.map eB) cf),(3,aC (most:Nat)),(4,.pt (ay s) 0),(9,.sl (ints B) false),(11,.bg 0 x.2.1 0 (qp s K came.length f x.1).length x.2.2),(12,aC (x.1:Nat))],[.cells (dm (qp s K came.length f x.1)) 1 x.2.1],bA.none,false,0⟩) (fun x=>most+1 - x.1) ?_ (0,0,0) ⟨qq5 _,.inl rfl⟩;rintro ⟨n,aA,c⟩ ⟨hn,hcap⟩;dsimp only at hn hcap;show av _ _ _ _ ⟨aZ [(1,aC (K:Nat)),(2,.sl (came.map eB) cf),(3,aC (most:Nat)),(4,.pt (ay s) 0),(9,.sl (ints B) false),(11,.bg 0 aA 0 (qp s K came.length f n).length c),(12,aC (n:Nat))],[.cells (dm (qp s K came.length f n)) 1 aA],bA.none,false,0⟩ _;by_cases hlt:n≤most
  ·have d1:decide ((n:Int)≤(most:Int))=true:=decide_eq_true (by omega);have oc:=Bu one (below:=K - came.length) (by omega) n [] (by omega) (by simp;omega) (fun x hx=>by cases hx);have eKN:(((K - came.length:Nat)):Int)=(K:Int) - (came.length:Int):=by omega
   have hLl:=jG (below:=K - came.length) (by omega) n [] (Int.le_refl _);have hLm:=fun l (h:l ∈ dQ (((K - came.length:Nat)):Int) n [])=>kR.1 h;have hp8:=zN (m:=n) (by omega);have hfn:=hfl n (by omega);have hs1:=hfs n;have hfM:Fi s K came.length f n=gu s K came.length f (dQ ((K:Int) - came.length) n []):=rfl;rw [hfM,←eKN] at hs1
   generalize hLL:dQ (((K - came.length:Nat)):Int) n []=L at *
   rw [eKN,←ec] at oc;refine qq2 ?_;repeat' first|refine u1 ?_|refine u2 ?_|fail
   refine av.seq ?_;refine av.block ?_;refine qq2 ?_;repeat' first|(refine az.soft (cm.cons (aW.nil false) (cm.cons (aW.refl _) (cm.tO (aW.refl _)))) (aj.call oc rfl rfl ?_))|refine u1 ?_|refine u2 ?_|fail
   refine qq2 ?_;repeat' first|refine u1 ?_|refine u2 ?_|fail
   refine av.block ?_;have ol0:(qp s K came.length f n++gu s K came.length f (L.take 0))=qp s K came.length f n:=by show qp s K came.length f n++gu s K came.length f (L.take 0)=_;rw [List.take_zero];show qp s K came.length f n++[]=_;rw [List.append_nil]
   have hol:∀ i,(qp s K came.length f n++gu s K came.length f (L.take i)).length≤10 * 16777216:=fun i=>by
    have h1:=zV s K came.length f (L.take i);have h2:(L.take i).length≤L.length:=by rw [List.length_take];omega
    rw [List.length_append];omega
   refine av.aJ (ah.to (l:=[(1,aC (K:Nat)),(2,.sl (came.map eB) cf),(3,aC (most:Nat)),(4,.pt (ay s) 0),(9,.sl (ints B) false),(11,.bg 0 aA 0 (qp s K came.length f n++gu s K came.length f (L.take 0)).length c),(12,aC (n:Nat)),(13,.sl (L.map eL) false),(14,aC (0:Nat))]) (hp:=[.cells (dm (qp s K came.length f n++gu s K came.length f (L.take 0))) 1 aA]) 1 (by rw [ol0];rfl) ⟨rfl,rfl,rfl,rfl,rfl,(by rw [ol0];rfl),rfl,rfl,rfl,trivial⟩ (qq5 _) rfl (cL _ _)) ?_;refine av.loop (fun x:Nat × Nat × Nat=>x.1≤L.length∧(x.2.2=(qp s K came.length f n++gu s K came.length f (L.take x.1)).length∨x.2.2=(qp s K came.length f n++gu s K came.length f (L.take x.1)).length+1)) (fun x=>⟨aZ [(1,aC (K:Nat)),(2,.sl (came.map eB) cf),(3,aC (most:Nat)),(4,.pt (ay s) 0),(9,.sl (ints B) false),(11,.bg 0 x.2.1 0 (qp s K came.length f n++gu s K came.length f (L.take x.1)).length x.2.2),(12,aC (n:Nat)),(13,.sl (L.map eL) false),(14,aC (x.1:Nat))],[.cells (dm (qp s K came.length f n++gu s K came.length f (L.take x.1))) 1 x.2.1],bA.none,false,0⟩) (fun x=>L.length - x.1) ?_ (0,aA,c) ⟨qq5 _,by dsimp only;rw [ol0];exact hcap⟩;clear hcap;rintro ⟨i,aA,c⟩ ⟨hi,hcap⟩;dsimp only at hi hcap;show av _ _ _ _ ⟨aZ [(1,aC (K:Nat)),(2,.sl (came.map eB) cf),(3,aC (most:Nat)),(4,.pt (ay s) 0),(9,.sl (ints B) false),(11,.bg 0 aA 0 (qp s K came.length f n++gu s K came.length f (L.take i)).length c),(12,aC (n:Nat)),(13,.sl (L.map eL) false),(14,aC (i:Nat))],[.cells (dm (qp s K came.length f n++gu s K came.length f (L.take i))) 1 aA],bA.none,false,0⟩ _;have eLn:((L.map eL).length:Int)=L.length:=by simp
   by_cases hli:i < L.length
   ·have d2:decide ((i:Int) < ((L.map eL).length:Int))=true:=decide_eq_true (by omega);have hbi:(i:Int) < ((L.map eL).length:Int):=by omega
    have hat:(L.map eL)[((i:Nat):Int).toNat]?=some (eL L[i]):=bp hli;have hO:=hol i;have hol1:(qp s K came.length f n++gu s K came.length f (L.take (i+1)))=(qp s K came.length f n++gu s K came.length f (L.take i))++if jF s.row came.length (dc (nN came.length f L[i])) K=true then [nN came.length f L[i]] else []:=by show qp s K came.length f n++gu s K came.length f (L.take (i+1))=_;rw [List.take_add_one,List.getElem?_eq_getElem hli];show qp s K came.length f n++gu s K came.length f (L.take i++[L[i]])=_;rw [Fy,List.append_assoc]
    obtain ⟨cc,hcc,hln,_,hlb⟩:=hLm L[i] (List.getElem_mem hli);rw [List.nil_append] at hcc;rw [←hcc] at hln hlb;have hFl:=rq (f:=f) hN (many:=n) (k:=K) (l:=L[i]) (by rw [←eKN,hLL];exact List.getElem_mem hli);have hba:=hall L[i]
    generalize L[i]=l at *
    generalize hOO:(qp s K came.length f n++gu s K came.length f (L.take i))=O at *
    refine qq2 ?_;repeat' first|refine u1 ?_|refine u2 ?_|fail
    refine av.seq ?_;refine av.block ?_;have hib:(ints B).length=B.length:=List.length_map _;refine RM.bx (mu:=fun t=>Nat.beq t 52) ?_;repeat' first|((with_reducible show RM.wpOp _ _ (.call _) _ _ _);refine RM.l5 (cs:=[]) (n:=0) (c:=0) (els:=ints B) rfl rfl rfl rfl rfl (kW B) (by rw [cK];rw [List.all_map,List.all_eq_true];intro x _;rfl) rfl rfl (.inl rfl) (by exact ⟨by show (0+(ints B).length) * 8≤_;omega,by omega⟩) (fun v1 c1 hc1=>?_))|refine u1 ?_|refine u2 ?_|fail
    refine av.seq ?_;refine qq2 ?_;repeat' first|refine u1 ?_|refine u2 ?_|fail
    refine av.block ?_;rw [hib,Nat.zero_add] at hc1;refine av.aJ (ah.to (l:=[(1,aC (K:Nat)),(2,.sl (came.map eB) cf),(3,aC (most:Nat)),(4,.pt (ay s) 0),(9,.sl (ints B) false),(11,.bg 0 aA 0 O.length c),(12,aC (n:Nat)),(13,.sl (L.map eL) false),(14,aC (i:Nat)),(15,.bg 1 v1 0 (l6 B came.length l 0).length c1),(16,aC (0:Nat))]) (hp:=[.cells (dm O) 1 aA,.cells (bG (l6 B came.length l 0)) 1 v1]) 2 (by rw [ug,←cK];rfl) ⟨rfl,rfl,rfl,rfl,rfl,rfl,rfl,rfl,rfl,(by rw [ug];show AV.bg 1 v1 0 (0+(ints B).length) c1=_;rw [hib,Nat.zero_add]),rfl,trivial⟩ (qq5 _) rfl (pJ _ _ _ _)) ?_;refine av.loop (fun x:Nat × Nat × Nat=>x.1≤l.length∧(x.2.2=(l6 B came.length l x.1).length∨x.2.2=(l6 B came.length l x.1).length+1)) (fun x=>⟨aZ [(1,aC (K:Nat)),(2,.sl (came.map eB) cf),(3,aC (most:Nat)),(4,.pt (ay s) 0),(9,.sl (ints B) false),(11,.bg 0 aA 0 O.length c),(12,aC (n:Nat)),(13,.sl (L.map eL) false),(14,aC (i:Nat)),(15,.bg 1 x.2.1 0 (l6 B came.length l x.1).length x.2.2),(16,aC (x.1:Nat))],[.cells (dm O) 1 aA,.cells (bG (l6 B came.length l x.1)) 1 x.2.1],bA.none,false,0⟩) (fun x=>l.length - x.1) ?_ (0,v1,c1) ⟨qq5 _,by dsimp only;rw [ug];exact hc1⟩;rintro ⟨j,v9,c9⟩ ⟨hj,hcap2⟩;dsimp only at hj hcap2;show av _ _ _ _ ⟨aZ [(1,aC (K:Nat)),(2,.sl (came.map eB) cf),(3,aC (most:Nat)),(4,.pt (ay s) 0),(9,.sl (ints B) false),(11,.bg 0 aA 0 O.length c),(12,aC (n:Nat)),(13,.sl (L.map eL) false),(14,aC (i:Nat)),(15,.bg 1 v9 0 (l6 B came.length l j).length c9),(16,aC (j:Nat))],[.cells (dm O) 1 aA,.cells (bG (l6 B came.length l j)) 1 v9],bA.none,false,0⟩ _;have eln:((ints l).length:Int)=l.length:=by simp
    by_cases hjl:j < l.length
    ·have d3:decide ((j:Int) < ((ints l).length:Int))=true:=decide_eq_true (by omega);have hbj:(j:Int) < ((ints l).length:Int):=by omega
     have hatj:(ints l)[((j:Nat):Int).toNat]?=some (eI l[j]):=bp hjl;have hlj:0≤l[j]∧l[j] < ((K - came.length:Nat):Int):=hlb _ (List.getElem_mem hjl);have hs2:=H8 (B:=B) (N:=came.length) hjl;have hbl:(l6 B came.length l j).length≤24:=by unfold l6;rw [List.length_append,List.length_map,List.length_take];omega
     have hgl:(bG (l6 B came.length l j)).length=(l6 B came.length l j).length:=List.length_map _;rw [←ec] at hs2
     generalize hY1:l6 B came.length l (j+1)=Y1 at *
     generalize hY:l6 B came.length l j=Y at *
     generalize l[j]=z at *
     refine qq2 ?_;repeat' first|refine u1 ?_|((with_reducible refine qq4 ?_);refine ⟨eL l,⟨by omega,hat⟩,rfl,?_⟩)|refine u2 ?_|fail
     refine qq2 ?_;repeat' first|((with_reducible show RM.wpOp _ _ (.call _) _ _ _);refine RM.l5 (cs:=bG Y) (n:=Y.length) (els:=[eI (z+((came.map eB).length:Int))]) rfl rfl rfl rfl rfl (fun el hel=>by rw [List.mem_singleton.1 hel];rfl) rfl rfl (by rw [hgl];exact (Nat.mul_one _).symm) hcap2 (by simp only [List.length_singleton];omega) (fun v' c' hc'=>?_))|refine u1 ?_|((with_reducible refine qq4 ?_);refine ⟨eL l,⟨by omega,hat⟩,rfl,?_⟩)|((with_reducible refine qq4 ?_);refine ⟨eI z,⟨by omega,hatj⟩,rfl,?_⟩)|refine u2 ?_|fail
     refine qq1 ?_;repeat' first|refine u1 ?_|refine u2 ?_|fail
     exact ⟨(j+1,v',c'),⟨hjl,by dsimp only;rw [hY1,hs2,List.length_append];exact hc'⟩,(by dsimp only;omega),ah.to 2 (by dsimp only;rw [hY1,hs2];unfold bG;rw [List.map_append];rfl) ⟨rfl,rfl,rfl,rfl,rfl,rfl,rfl,rfl,rfl,(by dsimp only;rw [hY1,hs2,List.length_append];rfl),bq (by simp),trivial⟩ (qq5 _) rfl (pJ _ _ _ _)⟩
    ·obtain rfl:j=l.length:=by omega
     have d3:decide ((l.length:Int) < ((ints l).length:Int))=false:=decide_eq_false (by omega);rw [hba] at hcap2 ⊢;obtain ⟨_,hFb,hFn,_⟩:=hFl;rw [hBB] at hFn;have hFlen:(nN came.length f l).length≤24:=by omega
     generalize nN came.length f l=F at *
     refine qq1 ?_;repeat' first|refine u1 ?_|((with_reducible refine qq4 ?_);refine ⟨eL l,⟨by omega,hat⟩,rfl,?_⟩)|refine u2 ?_|fail
     refine qq2 ?_;repeat' first|refine u1 ?_|refine u2 ?_|fail
     refine av.seq ?_;refine qq2 ?_;repeat' first|refine u1 ?_|refine u2 ?_|fail
     refine av.block ?_;refine av.aJ (ah.to (l:=[(1,aC (K:Nat)),(2,.sl (came.map eB) cf),(3,aC (most:Nat)),(4,.pt (ay s) 0),(9,.sl (ints B) false),(11,.bg 0 aA 0 O.length c),(12,aC (n:Nat)),(13,.sl (L.map eL) false),(14,aC (i:Nat)),(15,.bg 1 v9 0 F.length c9),(17,aC (rowAt (dc F) 0)),(18,BB (jF s.row came.length (dc F) 0)),(19,aC (0:Nat))]) (hp:=[.cells (dm O) 1 aA,.cells (bG F) 1 v9]) 2 rfl ⟨rfl,rfl,rfl,rfl,rfl,rfl,rfl,rfl,rfl,rfl,rfl,rfl,rfl,trivial⟩ (qq5 _) rfl (pJ _ _ _ _)) ?_;refine av.loop (fun k:Nat=>k≤K) (fun k=>⟨aZ [(1,aC (K:Nat)),(2,.sl (came.map eB) cf),(3,aC (most:Nat)),(4,.pt (ay s) 0),(9,.sl (ints B) false),(11,.bg 0 aA 0 O.length c),(12,aC (n:Nat)),(13,.sl (L.map eL) false),(14,aC (i:Nat)),(15,.bg 1 v9 0 F.length c9),(17,aC (rowAt (dc F) k)),(18,BB (jF s.row came.length (dc F) k)),(19,aC (k:Nat))],[.cells (dm O) 1 aA,.cells (bG F) 1 v9],bA.none,false,0⟩) (fun k=>K - k) ?_ 0 (qq5 _);intro k hk;have hrow:=NK (hp:=[.cells (dm O) 1 aA,.cells (bG F) 1 v9]) (j:=1) (v:=v9) (c:=c9) (B:=F) rfl;by_cases hlk:k < K
     ·have d4:decide ((k:Int) < (K:Int))=true:=decide_eq_true (by omega);have oh:=Gq one F false (k:Nat) (Nat.le_trans hFlen (by decide));have hbit:=kg hFb k;have hrs:=nL (dc F) k;have hrb:=sL (dc F) k;have hgs:=FA (R:=s.row) (N:=came.length) (y:=dc F) (k:=k);have hrw:=hg.row;rw [←hbit] at oh
      have e5:decide ((k:Int) < ((came.map eB).length:Int))=decide (k < came.length):=by
       by_cases h:k < came.length
       ·rw [decide_eq_true h,decide_eq_true (by omega)]
       ·rw [decide_eq_false h,decide_eq_false (by omega)]
      clear hcap hcap2 hba hall hfl hfs hfd hol hol1 hLm hlb hs1
      generalize hG1:jF s.row came.length (dc F) (k+1)=G1 at *
      generalize hG0:jF s.row came.length (dc F) k=G0 at *
      generalize hR1:rowAt (dc F) (k+1)=R1 at *
      generalize hR0:rowAt (dc F) k=R0 at *
      generalize decide (k < came.length)=κ at *
      cases hb:(dc F).testBit k with
      | false =>
       rw [hb] at oh hrs hgs;rw [if_neg (by simp)] at hrs;have hG:G1=G0:=by rw [hgs];simp
       subst hrs;subst hG;have d6:decide ((0:Int)≤s.row)=true:=decide_eq_true (by omega)
       cases G1 <;> cases κ <;> (
        refine qq2 ?_;repeat' first|refine u1 ?_|refine u2 ?_|fail
        refine qq2 ?_;repeat' first|((with_reducible refine qq3 ?_);refine aj.K9 oh rfl (l7.two hrow (Fz.deep rfl)) (fA.fl _) ?_)|refine u1 ?_|refine u2 ?_|fail
        refine qq1 ?_;repeat' first|refine u1 ?_|refine u2 ?_|fail
        exact ⟨k+1,hlk,(by dsimp only;omega),ah.to 2 rfl ⟨rfl,rfl,rfl,rfl,rfl,rfl,rfl,rfl,rfl,rfl,(by dsimp only;rw [hR1];rfl),(by dsimp only;rw [hG1];rfl),bq (by simp),trivial⟩ (qq5 _) rfl (pJ _ _ _ _)⟩)
      | true =>
       rw [hb] at oh hrs hgs;rw [if_pos rfl] at hrs;rw [Bool.not_true,Bool.or_false] at hgs;subst hrs;have e7:decide (R0+1≤s.row)=decide (R0+1≤s.row):=rfl
       generalize hρ:decide (R0+1≤s.row)=ρ at *
       subst hgs
       cases G0 <;> cases κ <;> cases ρ <;> (
        refine qq2 ?_;repeat' first|refine u1 ?_|refine u2 ?_|fail
        refine qq2 ?_;repeat' first|((with_reducible refine qq3 ?_);refine aj.K9 oh rfl (l7.two hrow (Fz.deep rfl)) (fA.fl _) ?_)|refine u1 ?_|refine u2 ?_|fail
        refine qq1 ?_;repeat' first|refine u1 ?_|refine u2 ?_|fail
        exact ⟨k+1,hlk,(by dsimp only;omega),ah.to 2 rfl ⟨rfl,rfl,rfl,rfl,rfl,rfl,rfl,rfl,rfl,rfl,(by dsimp only;rw [hR1];rfl),(by dsimp only;rw [hG1];rfl),bq (by simp),trivial⟩ (qq5 _) rfl (pJ _ _ _ _)⟩)
     ·obtain rfl:K=k:=by omega
      have d4:decide ((K:Int) < (K:Int))=false:=decide_eq_false (by omega);refine qq1 ?_;repeat' first|refine u1 ?_|refine u2 ?_|fail
      refine av.aJ (ah.trans (ah.giveUp 1 (l:=[(1,aC (K:Nat)),(2,.sl (came.map eB) cf),(3,aC (most:Nat)),(4,.pt (ay s) 0),(9,.sl (ints B) false),(11,.bg 0 aA 0 O.length c),(12,aC (n:Nat)),(13,.sl (L.map eL) false),(14,aC (i:Nat)),(15,.sl (ints F) false),(18,BB (jF s.row came.length (dc F) K))]) (hp:=[.cells (dm O) 1 aA,.gone]) rfl (qq5 _) (fu _) ⟨.same rfl,.same rfl,.same rfl,.same rfl,.same rfl,.same rfl,.same rfl,.same rfl,.same rfl,.row 1 (eu F).1 (eu F).2.1 (eu F).2.2.1 (eu F).2.2.2 (fun h=>Bool.noConfusion h),.same rfl,trivial⟩ GG rfl) (ah.to (l:=[(1,aC (K:Nat)),(2,.sl (came.map eB) cf),(3,aC (most:Nat)),(4,.pt (ay s) 0),(9,.sl (ints B) false),(11,.bg 0 aA 0 O.length c),(12,aC (n:Nat)),(13,.sl (L.map eL) false),(14,aC (i:Nat)),(15,.sl (ints F) false),(18,BB (jF s.row came.length (dc F) K))]) (hp:=[.cells (dm O) 1 aA]) 1 rfl ⟨rfl,rfl,rfl,rfl,rfl,rfl,rfl,rfl,rfl,rfl,rfl,trivial⟩ (qq5 _) rfl (cL _ _))) ?_;have hgl:(dm O).length=O.length:=List.length_map _
      cases hG:jF s.row came.length (dc F) K with
      | true =>
       rw [hG,if_pos rfl] at hol1;refine qq1 ?_;repeat' first|((with_reducible show RM.wpOp _ _ (.call _) _ _ _);refine RM.l5 (cs:=dm O) (n:=O.length) (els:=[eL F]) rfl rfl rfl rfl rfl (fun el hel=>by rw [List.mem_singleton.1 hel];rfl) rfl rfl (by rw [hgl];exact (Nat.mul_one _).symm) hcap (by simp only [List.length_singleton];omega) (fun v' c' hc'=>?_))|refine u1 ?_|refine u2 ?_|fail
       refine qq1 ?_;repeat' first|refine u1 ?_|refine u2 ?_|fail
       exact ⟨(i+1,v',c'),⟨hli,by dsimp only;rw [hol1,List.length_append];exact hc'⟩,(by dsimp only;omega),ah.to 1 (by dsimp only;rw [hol1];unfold dm;rw [List.map_append];rfl) ⟨rfl,rfl,rfl,rfl,rfl,(by dsimp only;rw [hol1,List.length_append];rfl),rfl,rfl,bq (by simp),trivial⟩ (qq5 _) rfl (cL _ _)⟩
      | false =>
       rw [hG,if_neg (by simp),List.append_nil] at hol1;refine qq1 ?_;repeat' first|refine u1 ?_|refine u2 ?_|fail
       refine qq1 ?_;repeat' first|refine u1 ?_|refine u2 ?_|fail
       exact ⟨(i+1,aA,c),⟨hli,by dsimp only;rw [hol1];exact hcap⟩,(by dsimp only;omega),ah.to 1 (by dsimp only;rw [hol1];rfl) ⟨rfl,rfl,rfl,rfl,rfl,(by dsimp only;rw [hol1];rfl),rfl,rfl,bq (by simp),trivial⟩ (qq5 _) rfl (cL _ _)⟩
   ·obtain rfl:i=L.length:=by omega
    have d2:decide ((L.length:Int) < ((L.map eL).length:Int))=false:=decide_eq_false (by omega);have olE:(qp s K came.length f n++gu s K came.length f (L.take L.length))=qp s K came.length f (n+1):=by rw [hs1,List.take_length]
    refine qq1 ?_;repeat' first|refine u1 ?_|refine u2 ?_|fail
    refine qq1 ?_;repeat' first|refine u1 ?_|refine u2 ?_|fail
    exact ⟨(n+1,aA,c),⟨by dsimp only;omega,by dsimp only;rw [←olE];exact hcap⟩,(by dsimp only;omega),ah.to 1 (by dsimp only;rw [←olE];rfl) ⟨rfl,rfl,rfl,rfl,rfl,(by dsimp only;rw [←olE];rfl),bq (by simp),trivial⟩ (qq5 _) rfl (cL _ _)⟩
  ·obtain rfl:n=most+1:=by omega
   have d1:decide (((most+1:Nat):Int)≤(most:Int))=false:=decide_eq_false (by omega);refine qq1 ?_;repeat' first|refine u1 ?_|refine u2 ?_|fail
   refine qq1 ?_;repeat' first|refine u1 ?_|refine u2 ?_|fail
   exact ⟨[_],⟨Fz.row (es:=1) rfl (gV _).1 (gV _).2.1 (sR _) (gV _).2.2 (by rw [kV];exact sQ _) (fun h=>Bool.noConfusion h),trivial⟩,rfl⟩
