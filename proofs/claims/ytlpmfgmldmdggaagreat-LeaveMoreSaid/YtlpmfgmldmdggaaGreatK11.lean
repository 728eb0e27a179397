/-
  Contracts of the program's functions and of the document's. Lemmas alone; their conditions stand in them.
-/
import Derived.Test.YtlpmfgmldmdggaaGreatK9
import Derived.Test.YtlpmfgmldmdggaaGreatK10
open Go Go.RM
namespace Go.Proofs.YtlpmfgmldmdggaaGreat
set_option maxRecDepth 100000
theorem D7 {f:Nat→Int} {x:Int} {j:Nat} (hj:¬ x < f j):∀ n k,k≤j→j < k+n→yF f x n k≤j
 | 0,k,h1,h2=>by omega
 | n+1,k,h1,h2=>by
  unfold yF;split
  ·rename_i h;have:k ≠ j:=fun e=>hj (by rw [←e];exact h);exact D7 hj n (k+1) (by omega) (by omega)
  ·exact h1
theorem D8 {f:Nat→Int} {x:Int}:∀ n k,yF f x n k < k+n→¬ x < f (yF f x n k)
 | 0,k,h=>by unfold yF at h;omega
 | n+1,k,h=>by
  unfold yF at h ⊢;split
  ·rename_i hx;rw [if_pos hx] at h;exact D8 n (k+1) (by omega)
  ·assumption
theorem HE {c:aL} {p:bE} {x:Int}:∀ {k},(∀ i,i < k→(fH c p x i:Int)≤(p.turns+1) / 2)→z6 c p x k=true
 | 0,_=>rfl
 | k+1,h=>by have h1:=HE (c:=c) (p:=p) (x:=x) (k:=k) fun i hi=>h i (by omega);have h2:=h k (Nat.lt_succ_self k);show (z6 c p x k && !decide ((p.turns+1) / 2 < (fH c p x k:Int)))=true;rw [h1,decide_eq_false (by omega)];rfl
theorem D9 {c:aL} {p:bE} {x:Int}:∀ {k},z6 c p x k=true→∀ i,i < k→(fH c p x i:Int)≤(p.turns+1) / 2
 | k+1,h,i,hi=>by
  have h:(z6 c p x k && !decide ((p.turns+1) / 2 < (fH c p x k:Int)))=true:=h;rw [qq7,Bool.not_eq_true',decide_eq_false_iff_not] at h;by_cases e:i=k
  ·rw [e];omega
  ·exact D9 h.1 i (by omega)
theorem z8 {g k:Nat→Nat}:∀ {n},(∀ i,i < n→g i≤k i)→cw g n≤cw k n
 | 0,_=>qq6 _
 | n+1,h=>Nat.add_le_add (z8 fun i hi=>h i (by omega)) (h n (Nat.lt_succ_self n))
theorem wZ (g k:Nat→Nat):∀ n,cw (fun i=>g i+k i) n=cw g n+cw k n
 | 0=>rfl
 | n+1=>by show cw (fun i=>g i+k i) n+(g n+k n)=(cw g n+g n)+(cw k n+k n);rw [wZ g k n];omega
theorem Kr {c:aL} {p:bE} {x:Int} (g:Nat→Nat) (h1:∀ i,i < c.aD.length→fH c p x i≤g i∧(g i:Int)≤(p.turns+1) / 2) (h2:(cw g c.aD.length:Int)≤p.turns * p.aR):oZ c p x=true:=by have h3:=z8 (g:=fH c p x) (k:=g) (n:=c.aD.length) fun i hi=>(h1 i hi).1;unfold oZ;rw [HE fun i hi=>by have:=h1 i hi;omega,decide_eq_true (by omega)];rfl
theorem B5 {c:aL} {w:Int} {b l:List Int} (h:jl c w b l=0):(l.length:Int)≤w∧∀ x,x ∈ l→e7 b x=false:=by
 unfold jl at h;split at h
 ·cases h
 ·unfold C7 at h;split at h
  ·cases h
  ·unfold Fi at h;split at h
   ·cases h
   ·rename_i h3;unfold FC at h;split at h
    ·cases h
    ·rename_i h4;refine ⟨by omega,fun x hx=>?_⟩
     cases hv:e7 b x with
     | false=>rfl
     | true=>exact absurd (List.any_eq_true.2 ⟨x,hx,hv⟩) h4
theorem B6 {c:aL} {w:Int} (m:Int):∀ (T:List (List Int)) (b:List Int),od c w b T=0→2 * T.countP (fun l=>e7 l m)≤T.length+(if e7 b m=true then 0 else 1)
 | [],b,_=>by simp
 | l :: T,b,h=>by
  have h:(if jl c w b l ≠ 0 then jl c w b l else od c w l T)=0:=h;by_cases h0:jl c w b l=0
  ·rw [if_neg (fun hh=>hh h0)] at h;have ih:=B6 m T l h;have hf:=(B5 h0).2 m;rw [List.countP_cons,List.length_cons];by_cases hl:e7 l m=true
   ·rw [if_pos hl] at ih;have hb:=hf (zU.1 hl);rw [hl,hb];simp only [if_true,Bool.false_eq_true,if_false];omega
   ·rw [if_neg hl] at ih;rw [if_neg hl];split <;> omega
  ·rw [if_pos h0] at h;exact absurd h h0
theorem Ea (n:Nat):∀ l:List Int,cw (fun i=>if e7 l (i:Nat)=true then 1 else 0) n≤l.length
 | []=>by
  have:∀ n,cw (fun i=>if e7 [] (i:Nat)=true then 1 else 0) n=0:=by
   intro n
   induction n with
   | zero=>rfl
   | succ n ih=>show _+_=0;rw [ih];rfl
  rw [this];exact qq6 _
 | x :: l=>by
  have ih:=Ea n l
  have h1:∀ n,cw (fun i=>if x=((i:Nat):Int) then 1 else 0) n≤1∧((∀ i,i < n→x ≠ ((i:Nat):Int))→cw (fun i=>if x=((i:Nat):Int) then 1 else 0) n=0):=by
   intro n
   induction n with
   | zero=>exact ⟨qq5 _,fun _=>rfl⟩
   | succ n ih =>
    by_cases e:x=((n:Nat):Int)
    ·have h0:=ih.2 fun i hi h=>by omega
     refine ⟨?_,fun hh=>absurd e (hh n (Nat.lt_succ_self n))⟩;show cw _ n+(if x=((n:Nat):Int) then 1 else 0)≤1;rw [h0,if_pos e];exact qq6 _
    ·refine ⟨?_,fun hh=>?_⟩
     ·show cw _ n+(if x=((n:Nat):Int) then 1 else 0)≤1;rw [if_neg e];exact ih.1
     ·show cw _ n+(if x=((n:Nat):Int) then 1 else 0)=0;rw [if_neg e,ih.2 fun i hi=>hh i (by omega)]
  have h2:cw (fun i=>if e7 (x :: l) (i:Nat)=true then 1 else 0) n≤cw (fun i=>(if x=((i:Nat):Int) then 1 else 0)+(if e7 l (i:Nat)=true then 1 else 0)) n:=z8 fun i _=>by
   have hc:e7 (x :: l) (i:Nat)=(decide (x=((i:Nat):Int)) || e7 l (i:Nat)):=by unfold e7;rw [List.any_cons]
   rw [hc];by_cases e:x=((i:Nat):Int)
   ·rw [if_pos e];split <;> omega
   ·rw [if_neg e,decide_eq_false e,Bool.false_or];omega
  rw [wZ] at h2;have:=(h1 n).1;rw [List.length_cons];omega
theorem Eb {c:aL} {w:Int} (n:Nat):∀ (T:List (List Int)) (b:List Int),od c w b T=0→(cw (fun i=>T.countP fun l=>e7 l (i:Nat)) n:Int)≤T.length * w
 | [],b,_=>by
  have:∀ n,cw (fun i=>([]:List (List Int)).countP fun l=>e7 l (i:Nat)) n=0:=by
   intro n
   induction n with
   | zero=>rfl
   | succ n ih=>show _+_=0;rw [ih];rfl
  rw [this];simp
 | l :: T,b,h=>by
  have h:(if jl c w b l ≠ 0 then jl c w b l else od c w l T)=0:=h;by_cases h0:jl c w b l=0
  ·rw [if_neg (fun hh=>hh h0)] at h;have ih:=Eb n T l h;have hf:=(B5 h0).1;have hs:=Ea n l
   have e:cw (fun i=>(l :: T).countP fun l=>e7 l (i:Nat)) n=cw (fun i=>(T.countP fun l=>e7 l (i:Nat))+(if e7 l (i:Nat)=true then 1 else 0)) n:=by
    congr 1
    funext i
    rw [List.countP_cons]
   rw [e,wZ,List.length_cons,Int.natCast_add,Int.natCast_add,Int.add_mul];omega
  ·rw [if_pos h0] at h;exact absurd h h0
theorem Lq {c:aL} (hg:Good c) {p:bE} (hp:ob p) (g:Nat→Nat) (hgt:∀ i,i < c.aD.length→(g i:Int)≤p.turns):∃ V,V ∈ L9 c p∧(∀ i,i < c.aD.length→cU c p i (g i:Nat)≤V)∧∃ i,i < c.aD.length∧V=cU c p i (g i:Nat):=by obtain ⟨j,hj,hm⟩:=De (fun i=>cU c p i (g i:Nat)) c.aD.length (by have:=hg.aD;omega);exact ⟨_,gm.2 ⟨j,g j,hj,by have:=hgt j hj;have:=hp.turns;omega,rfl⟩,hm,j,hj,rfl⟩
theorem Ks {c:aL} {p:bE} {x:Int} {i:Nat} {j:Nat} (hj:(j:Int)≤p.turns) (h:cU c p i (j:Nat)≤x):fH c p x i≤j :=
 D7 (by omega) _ _ (qq5 _) (by omega)
theorem Ec {c:aL} (hg:Good c) {p:bE} (hp:ob p) {T:List (List Int)} (hT:(T.length:Int)=p.turns) (h:od c p.aR [] T=0):wY c p≤C4 (uR c p T c.aD.length):=by
 have hm:=hg.aD;have hat:∀ i,i < c.aD.length→aH (uR c p T c.aD.length) i=cU c p i (m6 T i T.length:Nat):=fun i hi=>by unfold aH uR;rw [List.getD_eq_getElem?_getD,List.getElem?_map,List.getElem?_range hi];rfl
 have hcn:∀ i:Nat,m6 T i T.length=T.countP fun l=>e7 l (i:Nat):=fun i=>by unfold m6;rw [List.take_length]
 have hmx:∀ i,i < c.aD.length→cU c p i (m6 T i T.length:Nat)≤C4 (uR c p T c.aD.length):=fun i hi=>by rw [←hat i hi];unfold C4;rw [rQ];exact G8 _ _ i (by omega)
 obtain ⟨i,hi,hv⟩:∃ i,i < c.aD.length∧C4 (uR c p T c.aD.length)=cU c p i (m6 T i T.length:Nat):=by unfold C4;rw [rQ];obtain ⟨i,h1,h2⟩:=C5 (uR c p T c.aD.length) (c.aD.length - 1);exact ⟨i,by omega,by rw [h2,hat i (by omega)]⟩
 have hle:∀ i:Nat,(m6 T i T.length:Int)≤p.turns:=fun i=>by have:=C8 T i T.length;omega
 have hin:C4 (uR c p T c.aD.length) ∈ L9 c p:=by rw [hv];exact gm.2 ⟨i,_,hi,by have:=hle i;have:=hp.turns;omega,rfl⟩
 refine (gP hg hp).low _ hin (Kr (fun i=>m6 T i T.length) (fun i hi=>⟨Ks (hle i) (hmx i hi),?_⟩) ?_)
 ·have:=B6 (c:=c) (i:Nat) T [] h;rw [←hcn i] at this;have e:e7 [] ((i:Nat):Int)=false:=rfl;rw [e] at this;simp only [Bool.false_eq_true,if_false] at this;omega
 ·have:=Eb (c:=c) c.aD.length T [] h;rw [hT] at this;have e:(fun i=>m6 T i T.length)=fun i:Nat=>T.countP fun l=>e7 l (i:Nat):=funext hcn;rw [e];exact this
theorem Ls {c:aL} (hg:Good c) {p:bE} (hp:ob p):oZ c p (wY c p - 1)=false:=by
 cases hh:oZ c p (wY c p - 1) with
 | false=>rfl
 | true =>
  exfalso;have h0:=hh;unfold oZ at h0;rw [qq7,decide_eq_true_eq] at h0;have hok:=D9 h0.1;have hpt:=hp.turns;have hgt:∀ i,i < c.aD.length→(fH c p (wY c p - 1) i:Int)≤p.turns:=fun i hi=>by have:=hok i hi;omega
  obtain ⟨V,h1,h2,i,hi,h3⟩:=Lq hg hp (fH c p (wY c p - 1)) hgt;have hV:oZ c p V=true:=Kr (fH c p (wY c p - 1)) (fun j hj=>⟨Ks (hgt j hj) (h2 j hj),hok j hj⟩) h0.2;have hlow:=(gP hg hp).low V h1 hV
  have hv:=D8 (f:=fun k=>cU c p i (k:Int)) (x:=wY c p - 1) (p.turns.toNat+1) 0 (by
   have:(fH c p (wY c p - 1) i:Int)≤p.turns:=hgt i hi;unfold fH at this
   omega)
  have hv:¬ wY c p - 1 < cU c p i (fH c p (wY c p - 1) i:Nat):=hv;omega
end Go.Proofs.YtlpmfgmldmdggaaGreat
open Go Go.RM
namespace Go.Proofs.YtlpmfgmldmdggaaGreat
set_option maxRecDepth 100000
set_option maxHeartbeats 4000000
theorem Fu {t:List Nat} {q:Nat} (h:q < t.length) (m:Nat):(m7 m (t.take (q+1)):Int)=(m7 m (t.take q):Int)+((t[q] / 2 ^ m % 2:Nat):Int):=by
 unfold m7;rw [List.take_add_one,List.getElem?_eq_getElem h,List.countP_append];show ((_+List.countP _ [t[q]]:Nat):Int)=_;rw [List.countP_cons,List.countP_nil,Nat.testBit_eq_decide_div_mod_eq];have:t[q] / 2 ^ m % 2 < 2:=Nat.mod_lt _ (by decide);by_cases hb:t[q] / 2 ^ m % 2=1
 ·rw [hb];simp
 ·have:t[q] / 2 ^ m % 2=0:=by omega
  rw [this];simp
theorem Ed (m:Nat) (t:List Nat):m7 m t≤t.length:=List.countP_le_length
def ud (n:Nat) (t:List Nat) (q k:Nat):List Int:=(List.range 5).map fun m=>if m < n then (if m < k then (m7 m (t.take (q+1)):Int) else (m7 m (t.take q):Int)) else 0
theorem Df (n:Nat) (t:List Nat) (q k:Nat):(ud n t q k).length=5:=by unfold ud;simp
theorem Kt {n:Nat} (t:List Nat) (q k:Nat) {m:Nat} (hm:m < n) (hn:n≤5):(ud n t q k)[m]?=some (if m < k then (m7 m (t.take (q+1)):Int) else (m7 m (t.take q):Int)):=by unfold ud;rw [List.getElem?_map,List.getElem?_range (by omega)];simp only [Option.map_some,if_pos hm]
theorem Jw (n:Nat) (t:List Nat) (q:Nat):ud n t q n=ud n t (q+1) 0:=by
 unfold ud;apply List.map_congr_left;intro m _;by_cases h:m < n
 ·rw [if_pos h,if_pos h,if_pos h,if_neg (Nat.not_lt_zero _)]
 ·rw [if_neg h,if_neg h]
theorem Lt {n:Nat} (t:List Nat) (q:Nat) {k:Nat} (hk:k < n):(ud n t q k).set k (m7 k (t.take (q+1)):Int)=ud n t q (k+1):=by
 apply List.ext_getElem?;intro i;rw [List.getElem?_set,Df];unfold ud;rw [List.getElem?_map,List.getElem?_map];by_cases h5:i < 5
 ·rw [List.getElem?_range h5];simp only [Option.map_some];by_cases hki:k=i
  ·subst hki;rw [if_pos rfl,if_pos h5,if_pos hk,if_pos (Nat.lt_succ_self _)]
  ·rw [if_neg hki];by_cases hin:i < n
   ·rw [if_pos hin,if_pos hin];by_cases h:i < k
    ·rw [if_pos h,if_pos (by omega)]
    ·rw [if_neg h,if_neg (by omega)]
   ·rw [if_neg hin,if_neg hin]
 ·have e:(List.range 5)[i]?=none:=List.getElem?_eq_none (by rw [List.length_range];omega);rw [e];split
  ·rename_i hki;rw [if_neg (by omega)];rfl
  ·rfl
theorem Jx (n:Nat) (t:List Nat):ud n t 0 0=[0,0,0,0,0]:=by
 have:ud n t 0 0=(List.range 5).map fun _=>(0:Int):=by unfold ud;apply List.map_congr_left;intro m _;rw [if_neg (Nat.not_lt_zero _),List.take_zero];split <;> rfl
 rw [this];rfl
theorem Lu (one:Bool) (c:aL) (hg:Good c) (p:bE) (hp:ob p) (t:List Nat) (f:Bool) (h32:l6 t) (hlen:(t.length:Int)≤p.turns):Pu one 83 [.ag (gS c p),.sl (ints (nI t)) f] (af (jn c p t)):=by
 have em:((c.aD.map aZ).length:Int)=c.aD.length:=by simp
 have et:((ints (nI t)).length:Int)=t.length:=by simp
 have hm5:=hg.aD;have ht4:=hp.turns;refine ak.body (fn:=Tryz.f83) rfl rfl rfl rfl ?_;refine qq1 ?_;repeat' first|refine u1 ?_|refine u2 ?_|fail
 refine aB.aO (ah.to (l:=[(2,.pt (gS c p) 0),(5,.ptr 0 0 0),(11,.sl (ints (nI t)) f),(12,af (t.length:Nat)),(13,af (0:Nat))]) (hp:=[.cells (ay (ud c.aD.length t 0 0)) 0 0]) 1 (by show _=[AB.cells (ay (ud c.aD.length t 0 0)) 0 0];rw [Jx];rfl) ⟨rfl,rfl,rfl,aE et,rfl,trivial⟩ (qq5 _) rfl (oS _)) ?_;refine aB.loop (fun q:Nat=>q≤t.length) (fun q=>⟨aM [(2,.pt (gS c p) 0),(5,.ptr 0 0 0),(11,.sl (ints (nI t)) f),(12,af (t.length:Nat)),(13,af (q:Nat))],[.cells (ay (ud c.aD.length t q 0)) 0 0],bq.none,false,0⟩) (fun q=>t.length - q) ?_ 0 (qq5 _);intro q hq;by_cases hlt:q < t.length
 ·have dl:decide ((q:Int) < (t.length:Int))=true:=decide_eq_true (by omega);have hat:(ints (nI t))[((q:Nat):Int).toNat]?=some (eI ((t[q]:Nat):Int)):=by rw [dN (by rw [List.length_map];exact hlt),List.getElem_map]
  have hcs:=fun m=>Fu hlt m;have ha32:=h32 _ (List.getElem_mem hlt)
  generalize t[q]=a at *
  refine qq1 ?_;repeat' first|refine u1 ?_|(refine ⟨[af (a:Nat)],⟨by omega,hat⟩,rfl,?_⟩)|refine u2 ?_|fail
  refine aB.aO (ah.to (l:=[(2,.pt (gS c p) 0),(5,.ptr 0 0 0),(11,.sl (ints (nI t)) f),(12,af (t.length:Nat)),(13,af (q:Nat)),(7,af (a:Nat)),(20,af (c.aD.length:Nat)),(21,af (0:Nat))]) (hp:=[.cells (ay (ud c.aD.length t q 0)) 0 0]) 1 rfl ⟨rfl,rfl,rfl,rfl,rfl,rfl,aE em,rfl,trivial⟩ (qq5 _) rfl (oS _)) ?_;refine aB.loop (fun k:Nat=>k≤c.aD.length) (fun k=>⟨aM [(2,.pt (gS c p) 0),(5,.ptr 0 0 0),(11,.sl (ints (nI t)) f),(12,af (t.length:Nat)),(13,af (q:Nat)),(7,af (a:Nat)),(20,af (c.aD.length:Nat)),(21,af (k:Nat))],[.cells (ay (ud c.aD.length t q k)) 0 0],bq.none,false,0⟩) (fun k=>c.aD.length - k) ?_ 0 (qq5 _);intro k hk;by_cases hkl:k < c.aD.length
  ·have d2:decide ((k:Int) < (c.aD.length:Int))=true:=decide_eq_true (by omega);have g0:=Kt t q k hkl hm5.2;rw [if_neg (Nat.lt_irrefl _)] at g0;have g1:=wK g0;have hc:=hcs k;have hset:=Lt (n:=c.aD.length) t q hkl;rw [hc] at hset;have hsp:=rL (S:=ud c.aD.length t q k) (k:=k) (by rw [Df];omega) ((m7 k (t.take q):Int)+((a / 2 ^ k % 2:Nat):Int));rw [hset] at hsp;have hln:Nat.ble (0+((k:Nat):Int).toNat * 1+1) (ay (ud c.aD.length t q k)).length=true:=Nat.ble_eq_true_of_le (by rw [List.length_map,Df];omega);have b1:=Ed k (t.take q);have b2:(t.take q).length≤t.length:=by rw [List.length_take];omega
   have b3:a / 2 ^ k % 2 < 2:=Nat.mod_lt _ (by decide);have hqq:a / 2 ^ k < 4611686018427387904:=Nat.lt_of_le_of_lt (Nat.div_le_self _ _) (by omega)
   generalize hC:m7 k (t.take q)=y0 at *
   have hk8:k < 8:=by omega
   refine qq1 ?_;repeat' first|refine u1 ?_|((with_reducible show aU _ _ _ _ _ _ _ _ _);refine RM.CT (m:=a) (j:=k) rfl rfl hk8 ?_)|((with_reducible show aU _ _ _ _ _ _ _ _ _);refine RM.GM (m:=a / 2 ^ k) rfl rfl hqq ?_)|((with_reducible show RM.wpOp _ _ (.load _ _) _ _ _);refine RM.bC rfl rfl rfl g1 ?_)|((with_reducible show aG _ _ _ _ _ _);refine RM.e9 rfl rfl rfl rfl rfl rfl hln ?_)|refine u2 ?_|fail
   exact ⟨k+1,hkl,(by dsimp only;omega),ah.to (l:=[(2,.pt (gS c p) 0),(5,.ptr 0 0 0),(11,.sl (ints (nI t)) f),(12,af (t.length:Nat)),(13,af (q:Nat)),(7,af (a:Nat)),(20,af (c.aD.length:Nat)),(21,af (k+1:Nat))]) (hp:=[.cells (ay (ud c.aD.length t q (k+1))) 0 0]) 1 (by show _=[AB.cells (ay (ud c.aD.length t q (k+1))) 0 0];rw [←hsp];rfl) ⟨rfl,rfl,rfl,rfl,rfl,rfl,rfl,aE (by simp),trivial⟩ (qq5 _) rfl (oS _)⟩
  ·have d2:decide ((k:Int) < (c.aD.length:Int))=false:=decide_eq_false (by omega);have hkn:k=c.aD.length:=by omega
   subst hkn;refine qq1 ?_;repeat' first|refine u1 ?_|refine u2 ?_|fail
   exact ⟨q+1,hlt,(by dsimp only;omega),ah.to (l:=[(2,.pt (gS c p) 0),(5,.ptr 0 0 0),(11,.sl (ints (nI t)) f),(12,af (t.length:Nat)),(13,af (q+1:Nat))]) (hp:=[.cells (ay (ud c.aD.length t (q+1) 0)) 0 0]) 1 (by show _=[AB.cells (ay (ud c.aD.length t (q+1) 0)) 0 0];rw [←Jw];rfl) ⟨rfl,rfl,rfl,rfl,aE (by simp),trivial⟩ (qq5 _) rfl (oS _)⟩
 ·have dl:decide ((q:Int) < (t.length:Int))=false:=decide_eq_false (by omega);have hqn:q=t.length:=by omega
  subst hqn;have hw:∀ m,m < c.aD.length→(ay (ud c.aD.length t t.length 0))[0+((m:Nat):Int).toNat * 1]?=some (af (m7 m t:Nat)):=fun m hm=>by have:=Kt t t.length 0 hm hm5.2;rw [if_neg (Nat.not_lt_zero _),List.take_length] at this;exact wK this
  have hw0:=hw 0 (by omega);have hbe:=fun (on:Bool) (i:Nat) (hi:i < c.aD.length)=>wL on c hg p hp (bD c 0 c.aD.length) (bD c 1 c.aD.length) (bD c 2 c.aD.length) i hi (m7 i t:Nat) ⟨by omega,by have:=Ed i t;omega⟩;have o0:=hbe one 0 (by omega)
  generalize hWW:ud c.aD.length t t.length 0=WW at *
  refine qq1 ?_;repeat' first|refine u1 ?_|((with_reducible show RM.wpOp _ _ (.load _ _) _ _ _);refine RM.bC rfl rfl rfl hw0 ?_)|((with_reducible refine qq3 ?_);refine ak.call o0 rfl rfl ?_)|refine u2 ?_|fail
  refine aB.aO (ah.to (l:=[(2,.pt (gS c p) 0),(5,.ptr 0 0 0),(9,af (uC c p t 0)),(42,af (c.aD.length:Nat)),(43,af (0:Nat))]) (hp:=[.cells (ay (WW)) 0 0]) 1 rfl ⟨rfl,rfl,rfl,aE em,rfl,trivial⟩ (qq5 _) rfl (oS _)) ?_;refine aB.loop (fun k:Nat=>k≤c.aD.length) (fun k=>⟨aM [(2,.pt (gS c p) 0),(5,.ptr 0 0 0),(9,af (uC c p t k)),(42,af (c.aD.length:Nat)),(43,af (k:Nat))],[.cells (ay (WW)) 0 0],bq.none,false,0⟩) (fun k=>c.aD.length - k) ?_ 0 (qq5 _);intro k hk;by_cases hkl:k < c.aD.length
  ·have d2:decide ((k:Int) < (c.aD.length:Int))=true:=decide_eq_true (by omega);have hwk:=hw k hkl;have o1:=hbe true k hkl;have hs:uC c p t (k+1)=max (uC c p t k) (cU c p k (m7 k t:Nat)):=rfl;refine qq1 ?_;repeat' first|refine u1 ?_|((with_reducible show RM.wpOp _ _ (.load _ _) _ _ _);refine RM.bC rfl rfl rfl hwk ?_)|(refine ⟨_,_,.inl ⟨rfl,rfl⟩,o1,?_⟩)|refine u2 ?_|fail
   exact ⟨k+1,hkl,(by dsimp only;omega),ah.to (l:=[(2,.pt (gS c p) 0),(5,.ptr 0 0 0),(9,af (uC c p t (k+1))),(42,af (c.aD.length:Nat)),(43,af ((k+1):Nat))]) (hp:=[.cells (ay (WW)) 0 0]) 1 rfl ⟨rfl,rfl,by rw [hs];rfl,rfl,aE (by simp),trivial⟩ (qq5 _) rfl (oS _)⟩
  ·have d2:decide ((k:Int) < (c.aD.length:Int))=false:=decide_eq_false (by omega);have hkn:k=c.aD.length:=by omega
   subst hkn;refine qq1 ?_;repeat' first|refine u1 ?_|refine u2 ?_|fail
   exact ⟨[_],⟨Fz.deep rfl,trivial⟩,rfl⟩
end Go.Proofs.YtlpmfgmldmdggaaGreat
open Go Go.RM
namespace Go.Proofs.YtlpmfgmldmdggaaGreat
set_option maxRecDepth 100000
structure oh (rk:Int→Int) (S0 S:List Int) (a b:Nat) (pv:Int) (i j:Nat):Prop where
 pr:PR S0 S a b
 pe:aH S a=pv
 lo:∀ q,a < q→q < i→rk (aH S q) < rk pv
 hi:∀ q,j < q→q < b→rk pv≤rk (aH S q)
 ai:a < i
 ij:i≤j+1
 jb:j < b
 aj:a≤j
theorem oh.up {rk:Int→Int} {S0 S:List Int} {a b:Nat} {pv:Int} {i j:Nat} (h:oh rk S0 S a b pv i j) (hij:i≤j) (hl:rk (aH S i) < rk pv):oh rk S0 S a b pv (i+1) j :=
 ⟨h.pr,h.pe,fun q h1 h2=>by
  by_cases hq:q=i
  ·rw [hq];exact hl
  ·exact h.lo q h1 (by omega),h.hi,by have:=h.ai;omega,by omega,h.jb,h.aj⟩
theorem oh.down {rk:Int→Int} {S0 S:List Int} {a b:Nat} {pv:Int} {i j:Nat} (h:oh rk S0 S a b pv i j) (hij:i≤j) (hl:rk pv≤rk (aH S j)):oh rk S0 S a b pv i (j - 1) :=
 ⟨h.pr,h.pe,h.lo,fun q h1 h2=>by
  by_cases hq:q=j
  ·rw [hq];exact hl
  ·exact h.hi q (by omega) h2,h.ai,by omega,by have:=h.jb;omega,by have:=h.ai;omega⟩
theorem oh.swap {rk:Int→Int} {S0 S:List Int} {a b:Nat} {pv:Int} {i j:Nat} (hb:b≤S0.length) (h:oh rk S0 S a b pv i j) (hij:i≤j) (hi:rk pv≤rk (aH S i)) (hj:rk (aH S j) < rk pv):i < j∧oh rk S0 (sw S i j) a b pv (i+1) (j - 1):=by
 have hne:i ≠ j:=fun e=>by rw [e] at hi;omega
 have h1:=h.ai;have h2:=h.jb;have hl:=h.pr.len;have g:=m5 (S:=S) (i:=i) (j:=j) (by omega) (by omega);refine ⟨by omega,h.pr.trans (PR.sw (by omega) ⟨by omega,by omega⟩ ⟨by omega,by omega⟩),?_,fun q hq1 hq2=>?_,fun q hq1 hq2=>?_,by omega,by omega,by omega,by omega⟩
 ·rw [g,if_neg (by omega),if_neg (by omega)];exact h.pe
 ·rw [g,if_neg (by omega)];by_cases hq:q=i
  ·rw [if_pos hq];exact hj
  ·rw [if_neg hq];exact h.lo q hq1 (by omega)
 ·rw [g];by_cases hq:q=j
  ·rw [if_pos hq];exact hi
  ·rw [if_neg hq,if_neg (by omega)];exact h.hi q (by omega) hq2
structure ot (rk:Int→Int) (S0 S:List Int) (a b m:Nat):Prop where
 pr:PR S0 S a b
 am:a≤m
 mb:m < b
 lo:∀ q,a≤q→q < m→rk (aH S q)≤rk (aH S m)
 hi:∀ q,m < q→q < b→rk (aH S m)≤rk (aH S q)
theorem oh.done {rk:Int→Int} {S0 S:List Int} {a b:Nat} {pv:Int} {i j:Nat} (hb:b≤S0.length) (h:oh rk S0 S a b pv i j) (hij:j < i):ot rk S0 (sw S j a) a b j:=by
 have h1:=h.ai;have h2:=h.jb;have h3:=h.aj;have h4:=h.ij;have hl:=h.pr.len;have g:=m5 (S:=S) (i:=j) (j:=a) (by omega) (by omega)
 have gj:aH (sw S j a) j=pv:=by
  rw [g];by_cases e:j=a
  ·rw [if_pos e,e];exact h.pe
  ·rw [if_neg e,if_pos rfl];exact h.pe
 refine ⟨h.pr.trans (PR.sw (by omega) ⟨by omega,by omega⟩ ⟨by omega,by omega⟩),h3,h2,fun q hq1 hq2=>?_,fun q hq1 hq2=>?_⟩
 ·rw [gj,g];by_cases hq:q=a
  ·rw [if_pos hq];exact Int.le_of_lt (h.lo j (by omega) (by omega))
  ·rw [if_neg hq,if_neg (by omega)];exact Int.le_of_lt (h.lo q (by omega) (by omega))
 ·rw [gj,g,if_neg (by omega),if_neg (by omega)];exact h.hi q hq1 hq2
theorem oh.start {rk:Int→Int} {S0:List Int} {a b p:Nat} (hb:b≤S0.length) (hp:a≤p∧p < b):oh rk S0 (sw S0 a p) a b (aH S0 p) (a+1) (b - 1):=by
 have g:=m5 (S:=S0) (i:=a) (j:=p) (by omega) (by omega);refine ⟨PR.sw (by omega) ⟨by omega,by omega⟩ hp,?_,fun q h1 h2=>by omega,fun q h1 h2=>by omega,by omega,by omega,by omega,by omega⟩;rw [g];by_cases e:a=p
 ·rw [if_pos e,e]
 ·rw [if_neg e,if_pos rfl]
structure tc (rk:Int→Int) (S0 S:List Int) (a b:Nat) (pv:Int) (i j:Nat):Prop where
 pr:PR S0 S a b
 pe:aH S a=pv
 lo:∀ q,a < q→q < i→rk (aH S q)≤rk pv
 hi:∀ q,j < q→q < b→rk pv < rk (aH S q)
 ai:a < i
 ij:i≤j+1
 jb:j < b
 aj:a≤j
theorem tc.up {rk:Int→Int} {S0 S:List Int} {a b:Nat} {pv:Int} {i j:Nat} (h:tc rk S0 S a b pv i j) (hij:i≤j) (hl:rk (aH S i)≤rk pv):tc rk S0 S a b pv (i+1) j :=
 ⟨h.pr,h.pe,fun q h1 h2=>by
  by_cases hq:q=i
  ·rw [hq];exact hl
  ·exact h.lo q h1 (by omega),h.hi,by have:=h.ai;omega,by omega,h.jb,h.aj⟩
theorem tc.down {rk:Int→Int} {S0 S:List Int} {a b:Nat} {pv:Int} {i j:Nat} (h:tc rk S0 S a b pv i j) (hij:i≤j) (hl:rk pv < rk (aH S j)):tc rk S0 S a b pv i (j - 1) :=
 ⟨h.pr,h.pe,h.lo,fun q h1 h2=>by
  by_cases hq:q=j
  ·rw [hq];exact hl
  ·exact h.hi q (by omega) h2,h.ai,by omega,by have:=h.jb;omega,by have:=h.ai;omega⟩
theorem tc.swap {rk:Int→Int} {S0 S:List Int} {a b:Nat} {pv:Int} {i j:Nat} (hb:b≤S0.length) (h:tc rk S0 S a b pv i j) (hij:i≤j) (hi:rk pv < rk (aH S i)) (hj:rk (aH S j)≤rk pv):i < j∧tc rk S0 (sw S i j) a b pv (i+1) (j - 1):=by
 have hne:i ≠ j:=fun e=>by rw [e] at hi;omega
 have h1:=h.ai;have h2:=h.jb;have hl:=h.pr.len;have g:=m5 (S:=S) (i:=i) (j:=j) (by omega) (by omega);refine ⟨by omega,h.pr.trans (PR.sw (by omega) ⟨by omega,by omega⟩ ⟨by omega,by omega⟩),?_,fun q hq1 hq2=>?_,fun q hq1 hq2=>?_,by omega,by omega,by omega,by omega⟩
 ·rw [g,if_neg (by omega),if_neg (by omega)];exact h.pe
 ·rw [g,if_neg (by omega)];by_cases hq:q=i
  ·rw [if_pos hq];exact hj
  ·rw [if_neg hq];exact h.lo q hq1 (by omega)
 ·rw [g];by_cases hq:q=j
  ·rw [if_pos hq];exact hi
  ·rw [if_neg hq,if_neg (by omega)];exact h.hi q (by omega) hq2
theorem tc.start {rk:Int→Int} {S0:List Int} {a b p:Nat} (hb:b≤S0.length) (hp:a≤p∧p < b):tc rk S0 (sw S0 a p) a b (aH S0 p) (a+1) (b - 1):=by
 have g:=m5 (S:=S0) (i:=a) (j:=p) (by omega) (by omega);refine ⟨PR.sw (by omega) ⟨by omega,by omega⟩ hp,?_,fun q h1 h2=>by omega,fun q h1 h2=>by omega,by omega,by omega,by omega,by omega⟩;rw [g];by_cases e:a=p
 ·rw [if_pos e,e]
 ·rw [if_neg e,if_pos rfl]
structure Ee (rk:Int→Int) (S0 S:List Int) (a b m:Nat) (pv:Int):Prop where
 pr:PR S0 S a b
 am:a < m
 mb:m≤b
 lo:∀ q,a≤q→q < m→rk (aH S q)≤rk pv
 hi:∀ q,m≤q→q < b→rk pv < rk (aH S q)
theorem tc.done {rk:Int→Int} {S0 S:List Int} {a b:Nat} {pv:Int} {i j:Nat} (h:tc rk S0 S a b pv i j) (hij:j < i):Ee rk S0 S a b i pv :=
 ⟨h.pr,h.ai,by have:=h.ij;have:=h.jb;omega,fun q h1 h2=>by
  by_cases hq:q=a
  ·rw [hq,h.pe];exact Int.le_refl _
  ·exact h.lo q (by omega) h2,fun q h1 h2=>h.hi q (by have:=h.ij;omega) h2⟩
