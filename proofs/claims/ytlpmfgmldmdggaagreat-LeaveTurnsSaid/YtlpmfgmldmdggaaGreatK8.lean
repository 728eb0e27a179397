/-
  Contracts of the program's functions and of the document's. Lemmas alone; their conditions stand in them.
-/
import Derived.Test.YtlpmfgmldmdggaaGreatK7
open Go Go.RM
namespace Go.Proofs.YtlpmfgmldmdggaaGreat
set_option maxRecDepth 100000
def fA (pre:List Nat):Nat:=pre.getLastD 0
def kG (S:List Nat):Nat→List Nat→List (List Nat)
 | 0,pre=>[pre]
 | k+1,pre=>S.flatMap fun s=>if fA pre &&& s=0 then kG S k (pre++[s]) else []
def mW (m:Nat) (t:List Nat):Nat:=t.countP fun s=>s.testBit m
def BN (c:aS) (p:dm) (t:List Nat):Nat→Int
 | 0=>ct c p 0 (mW 0 t:Nat)
 | k+1=>max (BN c p t k) (ct c p k (mW k t:Nat))
def kH (c:aS) (p:dm) (t:List Nat):Int:=BN c p t c.aH.length
def l8 (t:List Nat):Prop:=∀ a ∈ t,a < 32
theorem l8.snoc {t:List Nat} {a:Nat} (h:l8 t) (ha:a < 32):l8 (t++[a]):=fun x hx=>by
 rcases List.mem_append.1 hx with hx|hx
 ·exact h x hx
 ·rw [List.mem_singleton.1 hx];exact ha
theorem zU {t:List Nat} (h:l8 t):fA t < 32:=by
 unfold fA
 cases t with
 | nil=>decide
 | cons x t =>
  rw [List.getLastD_cons];rw [List.getLastD_eq_getLast?]
  cases hh:t.getLast? with
  | none=>exact h x (by simp)
  | some y=>exact h y (List.mem_cons_of_mem _ (List.mem_of_getLast? hh))
theorem I5 {t:List Nat} (h:l8 t) {m:Nat} (hm:m < 5):BJ (t.map cV) m (t.map cV).length=mW m t:=by unfold BJ mW;rw [List.take_length,List.countP_map];apply List.countP_congr;intro a ha;show kE (cV a) (m:Nat)=true ↔ _;rw [KF a (h a ha) m hm]
theorem I6 {c:aS} (hg:Good c) (p:dm) {t:List Nat} (h:l8 t):MI (w6 c p (t.map cV) c.aH.length)=kH c p t:=by
 have hm:=hg.aH;have hat:∀ i,i < c.aH.length→aG (w6 c p (t.map cV) c.aH.length) i=ct c p i (mW i t:Nat):=fun i hi=>by unfold aG w6;rw [List.getD_eq_getElem?_getD,List.getElem?_map,List.getElem?_range hi];show ct c p i (BJ (t.map cV) i (t.map cV).length:Nat)=_;rw [I5 h (by omega)]
 have key:∀ k,k < c.aH.length→IV (w6 c p (t.map cV) c.aH.length) k=BN c p t (k+1):=by
  intro k
  induction k with
  | zero =>intro h0;show aG _ 0=max _ _;rw [hat 0 h0];show _=max (ct c p 0 _) _;rw [Int.max_self]
  | succ k ih =>intro h0;show max (IV _ k) _=_;rw [ih (by omega),hat (k+1) h0];rfl
 unfold MI kH;rw [rV,key _ (by omega)]
 congr 1
 omega
abbrev wS:=Option (List Nat × Int)
def wT:wS→List Nat × Int→wS
 | none,y=>some y
 | some x,y=>if y.2 < x.2 then some y else some x
def HO (o:wS):wS→wS
 | none=>o
 | some y=>wT o y
theorem BO {x y:List Nat × Int} (h:y.2 < x.2):wT (some x) y=some y:=if_pos h
theorem BP {x y:List Nat × Int} (h:¬ y.2 < x.2):wT (some x) y=some x:=if_neg h
theorem I7:∀ z:wS,HO none z=z
 | none=>rfl
 | some _=>rfl
theorem GX (o:wS) (x:List Nat × Int) (z:wS):HO (wT o x) z=HO o (HO (some x) z):=by
 cases z with
 | none=>rfl
 | some y =>
  show wT (wT o x) y=HO o (wT (some x) y)
  cases o with
  | none=>exact (I7 _).symm
  | some w =>
   by_cases h1:x.2 < w.2
   ·rw [BO h1];by_cases h2:y.2 < x.2
    ·rw [BO h2];exact (BO (Int.lt_trans h2 h1)).symm
    ·rw [BP h2];exact (BO h1).symm
   ·rw [BP h1];by_cases h2:y.2 < x.2
    ·rw [BO h2];rfl
    ·rw [BP h2,BP (show ¬ y.2 < w.2 by omega)];exact (BP h1).symm
theorem zV:∀ (xs:List (List Nat × Int)) (o:wS),xs.foldl wT o=HO o (xs.foldl wT none)
 | [],o=>rfl
 | x :: xs,o=>by rw [List.foldl_cons,List.foldl_cons,zV xs (wT o x),zV xs (wT none x)];exact GX o x _
def rW (c:aS) (p:dm):Nat→List Nat→wS
 | 0,pre=>some (pre,kH c p pre)
 | k+1,pre=>(dw c.aH.length p.aN).foldl (fun o a=>if BZ c p.aN (cV (fA pre)) (cV a)=0 then HO o (rW c p k (pre++[a])) else o) none
def CV (c:aS) (p:dm) (T:List (List Nat)):List (List Nat × Int):=T.map fun t=>(t,kH c p t)
theorem wU {c:aS} (hg:Good c) {p:dm} (hp:wM p):∀ (k:Nat) (pre:List Nat),l8 pre→rW c p k pre=(CV c p (kG (kM c p.aN) k pre)).foldl wT none
 | 0,pre,_=>rfl
 | k+1,pre,h=>by
  have hl:=zU h
  have key:∀ (L:List Nat),(∀ a ∈ L,a ∈ dw c.aH.length p.aN)→∀ o:wS,L.foldl (fun o a=>if BZ c p.aN (cV (fA pre)) (cV a)=0 then HO o (rW c p k (pre++[a])) else o) o=(CV c p ((L.filter (BL c)).flatMap fun s=>if fA pre &&& s=0 then kG (kM c p.aN) k (pre++[s]) else [])).foldl wT o:=by
   intro L
   induction L with
   | nil=>intro _ o;rfl
   | cons a L ih =>
    intro hL o;have ha:=hL a List.mem_cons_self;have ih:=ih fun x hx=>hL x (List.mem_cons_of_mem _ hx);have h32:a < 32:=zR a (List.mem_filter.1 ha).1;have hb:=I4 hg (p:=p) hl ha;rw [List.foldl_cons,ih];by_cases hs:BL c a=true
    ·rw [List.filter_cons,if_pos hs,List.flatMap_cons];unfold CV;rw [List.map_append,List.foldl_append];by_cases hm:a &&& fA pre=0
     ·rw [if_pos (hb.2 ⟨hm,hs⟩),if_pos (by rw [Nat.and_comm];exact hm),wU hg hp k _ (h.snoc h32)];rw [←zV];rfl
     ·rw [if_neg (fun h2=>hm (hb.1 h2).1),if_neg (by rw [Nat.and_comm];exact hm)];rfl
    ·rw [List.filter_cons,if_neg hs,if_neg (fun h2=>hs (hb.1 h2).2)]
  exact key _ (fun a h=>h) none
theorem zW {S:List Nat} (hS:l8 S):∀ (k:Nat) (pre:List Nat),l8 pre→∀ t ∈ kG S k pre,l8 t∧t.length=pre.length+k
 | 0,pre,h,t,ht=>by rw [List.mem_singleton.1 ht];exact ⟨h,rfl⟩
 | k+1,pre,h,t,ht=>by
  obtain ⟨s,hs,ht⟩:=List.mem_flatMap.1 ht;split at ht
  ·obtain ⟨h1,h2⟩:=zW hS k _ (h.snoc (hS s hs)) t ht;rw [List.length_append,List.length_singleton] at h2;exact ⟨h1,by omega⟩
  ·cases ht
theorem GY {S:List Nat} (h0:0 ∈ S):∀ (k:Nat) (pre:List Nat),kG S k pre ≠ []
 | 0,pre=>by simp [kG]
 | k+1,pre=>by obtain ⟨t,ht⟩:=List.exists_mem_of_ne_nil _ (GY h0 k (pre++[0]));exact List.ne_nil_of_mem (List.mem_flatMap.2 ⟨0,h0,by rw [if_pos (Nat.and_zero _)];exact ht⟩)
theorem CW:∀ (xs:List (List Nat × Int)),xs ≠ []→∃ t n,xs.foldl wT none=some (t,n)∧(t,n) ∈ xs∧∀ y ∈ xs,n≤y.2:=by
 have key:∀ (xs:List (List Nat × Int)) (x:List Nat × Int),∃ t n,xs.foldl wT (some x)=some (t,n)∧(t,n) ∈ x :: xs∧∀ y ∈ x :: xs,n≤y.2:=by
  intro xs
  induction xs with
  | nil=>intro x;exact ⟨x.1,x.2,rfl,by simp,fun y hy=>by rw [List.mem_singleton.1 hy];exact Int.le_refl _⟩
  | cons y xs ih =>
   intro x;rw [List.foldl_cons];by_cases h:y.2 < x.2
   ·rw [show wT (some x) y=some y from if_pos h];obtain ⟨t,n,h1,h2,h3⟩:=ih y;refine ⟨t,n,h1,List.mem_cons_of_mem _ h2,fun z hz=>?_⟩
    rcases List.mem_cons.1 hz with rfl|hz
    ·have:=h3 y List.mem_cons_self;omega
    ·exact h3 z hz
   ·rw [show wT (some x) y=some x from if_neg h];obtain ⟨t,n,h1,h2,h3⟩:=ih x;refine ⟨t,n,h1,?_,fun z hz=>?_⟩
    ·rcases List.mem_cons.1 h2 with h2|h2
     ·rw [h2];exact List.mem_cons_self
     ·exact List.mem_cons_of_mem _ (List.mem_cons_of_mem _ h2)
    ·rcases List.mem_cons.1 hz with rfl|hz
     ·exact h3 _ List.mem_cons_self
     ·rcases List.mem_cons.1 hz with rfl|hz
      ·have:=h3 x List.mem_cons_self;omega
      ·exact h3 z (List.mem_cons_of_mem _ hz)
 intro xs hx
 cases xs with
 | nil=>exact absurd rfl hx
 | cons x xs=>exact key xs x
structure JT (c:aS) (p:dm) (k:Nat) (pre t:List Nat) (n:Int):Prop where
 eq:rW c p k pre=some (t,n)
 mem:t ∈ kG (kM c p.aN) k pre
 val:n=kH c p t
 least:∀ u ∈ kG (kM c p.aN) k pre,n≤kH c p u
theorem kI {c:aS} (hg:Good c) {p:dm} (hp:wM p) (k:Nat) {pre:List Nat} (h:l8 pre):∃ t n,JT c p k pre t n:=by
 have hne:CV c p (kG (kM c p.aN) k pre) ≠ []:=by intro h2;exact GY (BM hg hp) k pre (List.map_eq_nil_iff.1 h2)
 obtain ⟨t,n,h1,h2,h3⟩:=CW _ hne;obtain ⟨u,h4,h5⟩:=List.mem_map.1 h2;obtain ⟨rfl,rfl⟩:=Prod.mk.inj h5;exact ⟨u,_,by rw [wU hg hp k pre h];exact h1,h4,rfl,fun v hv=>h3 _ (List.mem_map.2 ⟨v,hv,rfl⟩)⟩
end Go.Proofs.YtlpmfgmldmdggaaGreat
open Go Go.RM
namespace Go.Proofs.YtlpmfgmldmdggaaGreat
set_option maxRecDepth 100000
set_option maxHeartbeats 4000000
theorem EK {t:List Nat} {q:Nat} (h:q < t.length) (m:Nat):(mW m (t.take (q+1)):Int)=(mW m (t.take q):Int)+((t[q] / 2 ^ m % 2:Nat):Int):=by
 unfold mW;rw [List.take_add_one,List.getElem?_eq_getElem h,List.countP_append];show ((_+List.countP _ [t[q]]:Nat):Int)=_;rw [List.countP_cons,List.countP_nil,Nat.testBit_eq_decide_div_mod_eq];have:t[q] / 2 ^ m % 2 < 2:=Nat.mod_lt _ (by decide);by_cases hb:t[q] / 2 ^ m % 2=1
 ·rw [hb];simp
 ·have:t[q] / 2 ^ m % 2=0:=by omega
  rw [this];simp
theorem DL (m:Nat) (t:List Nat):mW m t≤t.length:=List.countP_le_length
def uf (n:Nat) (t:List Nat) (q k:Nat):List Int:=(List.range 5).map fun m=>if m < n then (if m < k then (mW m (t.take (q+1)):Int) else (mW m (t.take q):Int)) else 0
theorem CX (n:Nat) (t:List Nat) (q k:Nat):(uf n t q k).length=5:=by unfold uf;simp
theorem JU {n:Nat} (t:List Nat) (q k:Nat) {m:Nat} (hm:m < n) (hn:n≤5):(uf n t q k)[m]?=some (if m < k then (mW m (t.take (q+1)):Int) else (mW m (t.take q):Int)):=by unfold uf;rw [List.getElem?_map,List.getElem?_range (by omega)];simp only [Option.map_some,if_pos hm]
theorem I8 (n:Nat) (t:List Nat) (q:Nat):uf n t q n=uf n t (q+1) 0:=by
 unfold uf;apply List.map_congr_left;intro m _;by_cases h:m < n
 ·rw [if_pos h,if_pos h,if_pos h,if_neg (Nat.not_lt_zero _)]
 ·rw [if_neg h,if_neg h]
theorem KG {n:Nat} (t:List Nat) (q:Nat) {k:Nat} (hk:k < n):(uf n t q k).set k (mW k (t.take (q+1)):Int)=uf n t q (k+1):=by
 apply List.ext_getElem?;intro i;rw [List.getElem?_set,CX];unfold uf;rw [List.getElem?_map,List.getElem?_map];by_cases h5:i < 5
 ·rw [List.getElem?_range h5];simp only [Option.map_some];by_cases hki:k=i
  ·subst hki;rw [if_pos rfl,if_pos h5,if_pos hk,if_pos (Nat.lt_succ_self _)]
  ·rw [if_neg hki];by_cases hin:i < n
   ·rw [if_pos hin,if_pos hin];by_cases h:i < k
    ·rw [if_pos h,if_pos (by omega)]
    ·rw [if_neg h,if_neg (by omega)]
   ·rw [if_neg hin,if_neg hin]
 ·have e:(List.range 5)[i]?=none:=List.getElem?_eq_none (by rw [List.length_range];omega);rw [e];split
  ·rename_i hki;rw [if_neg (by omega)];rfl
  ·rfl
theorem I9 (n:Nat) (t:List Nat):uf n t 0 0=[0,0,0,0,0]:=by
 have:uf n t 0 0=(List.range 5).map fun _=>(0:Int):=by unfold uf;apply List.map_congr_left;intro m _;rw [if_neg (Nat.not_lt_zero _),List.take_zero];split <;> rfl
 rw [this];rfl
theorem KH (one:Bool) (c:aS) (hg:Good c) (p:dm) (hp:wM p) (t:List Nat) (f:Bool) (h32:l8 t) (hlen:(t.length:Int)≤p.turns):Pu one 83 [.ag (gU c p),.sl (ints (nI t)) f] (af (kH c p t)):=by
 have em:((c.aH.map bq).length:Int)=c.aH.length:=by simp
 have et:((ints (nI t)).length:Int)=t.length:=by simp
 have hm5:=hg.aH;have ht4:=hp.turns;refine ak.body (fn:=Tryz.f83) rfl rfl rfl rfl ?_;refine qq1 ?_;repeat' first|refine u1 ?_|refine u2 ?_|fail
 refine aB.aP (ah.to (l:=[(2,.pt (gU c p) 0),(5,.ptr 0 0 0),(11,.sl (ints (nI t)) f),(12,af (t.length:Nat)),(13,af (0:Nat))]) (hp:=[.cells (ay (uf c.aH.length t 0 0)) 0 0]) 1 (by show _=[AB.cells (ay (uf c.aH.length t 0 0)) 0 0];rw [I9];rfl) ⟨rfl,rfl,rfl,aD et,rfl,trivial⟩ (qq5 _) rfl (oR _)) ?_;refine aB.loop (fun q:Nat=>q≤t.length) (fun q=>⟨aL [(2,.pt (gU c p) 0),(5,.ptr 0 0 0),(11,.sl (ints (nI t)) f),(12,af (t.length:Nat)),(13,af (q:Nat))],[.cells (ay (uf c.aH.length t q 0)) 0 0],bp.none,false,0⟩) (fun q=>t.length - q) ?_ 0 (qq5 _);intro q hq;by_cases hlt:q < t.length
 ·have dl:decide ((q:Int) < (t.length:Int))=true:=decide_eq_true (by omega);have hat:(ints (nI t))[((q:Nat):Int).toNat]?=some (eI ((t[q]:Nat):Int)):=by rw [dB (by rw [List.length_map];exact hlt),List.getElem_map]
  have hcs:=fun m=>EK hlt m;have ha32:=h32 _ (List.getElem_mem hlt)
  generalize t[q]=a at *
  refine qq1 ?_;repeat' first|refine u1 ?_|(refine ⟨[af (a:Nat)],⟨by omega,hat⟩,rfl,?_⟩)|refine u2 ?_|fail
  refine aB.aP (ah.to (l:=[(2,.pt (gU c p) 0),(5,.ptr 0 0 0),(11,.sl (ints (nI t)) f),(12,af (t.length:Nat)),(13,af (q:Nat)),(7,af (a:Nat)),(20,af (c.aH.length:Nat)),(21,af (0:Nat))]) (hp:=[.cells (ay (uf c.aH.length t q 0)) 0 0]) 1 rfl ⟨rfl,rfl,rfl,rfl,rfl,rfl,aD em,rfl,trivial⟩ (qq5 _) rfl (oR _)) ?_;refine aB.loop (fun k:Nat=>k≤c.aH.length) (fun k=>⟨aL [(2,.pt (gU c p) 0),(5,.ptr 0 0 0),(11,.sl (ints (nI t)) f),(12,af (t.length:Nat)),(13,af (q:Nat)),(7,af (a:Nat)),(20,af (c.aH.length:Nat)),(21,af (k:Nat))],[.cells (ay (uf c.aH.length t q k)) 0 0],bp.none,false,0⟩) (fun k=>c.aH.length - k) ?_ 0 (qq5 _);intro k hk;by_cases hkl:k < c.aH.length
  ·have d2:decide ((k:Int) < (c.aH.length:Int))=true:=decide_eq_true (by omega);have g0:=JU t q k hkl hm5.2;rw [if_neg (Nat.lt_irrefl _)] at g0;have g1:=wL g0;have hc:=hcs k;have hset:=KG (n:=c.aH.length) t q hkl;rw [hc] at hset;have hsp:=rP (S:=uf c.aH.length t q k) (k:=k) (by rw [CX];omega) ((mW k (t.take q):Int)+((a / 2 ^ k % 2:Nat):Int));rw [hset] at hsp;have hln:Nat.ble (0+((k:Nat):Int).toNat * 1+1) (ay (uf c.aH.length t q k)).length=true:=Nat.ble_eq_true_of_le (by rw [List.length_map,CX];omega);have b1:=DL k (t.take q);have b2:(t.take q).length≤t.length:=by rw [List.length_take];omega
   have b3:a / 2 ^ k % 2 < 2:=Nat.mod_lt _ (by decide);have hqq:a / 2 ^ k < 4611686018427387904:=Nat.lt_of_le_of_lt (Nat.div_le_self _ _) (by omega)
   generalize hC:mW k (t.take q)=y0 at *
   have hk8:k < 8:=by omega
   refine qq1 ?_;repeat' first|refine u1 ?_|((with_reducible show aV _ _ _ _ _ _ _ _ _);refine RM.CG (m:=a) (j:=k) rfl rfl hk8 ?_)|((with_reducible show aV _ _ _ _ _ _ _ _ _);refine RM.F5 (m:=a / 2 ^ k) rfl rfl hqq ?_)|((with_reducible show RM.wpOp _ _ (.load _ _) _ _ _);refine RM.bD rfl rfl rfl g1 ?_)|((with_reducible show aF _ _ _ _ _ _);refine RM.fy rfl rfl rfl rfl rfl rfl hln ?_)|refine u2 ?_|fail
   exact ⟨k+1,hkl,(by dsimp only;omega),ah.to (l:=[(2,.pt (gU c p) 0),(5,.ptr 0 0 0),(11,.sl (ints (nI t)) f),(12,af (t.length:Nat)),(13,af (q:Nat)),(7,af (a:Nat)),(20,af (c.aH.length:Nat)),(21,af (k+1:Nat))]) (hp:=[.cells (ay (uf c.aH.length t q (k+1))) 0 0]) 1 (by show _=[AB.cells (ay (uf c.aH.length t q (k+1))) 0 0];rw [←hsp];rfl) ⟨rfl,rfl,rfl,rfl,rfl,rfl,rfl,aD (by simp),trivial⟩ (qq5 _) rfl (oR _)⟩
  ·have d2:decide ((k:Int) < (c.aH.length:Int))=false:=decide_eq_false (by omega);have hkn:k=c.aH.length:=by omega
   subst hkn;refine qq1 ?_;repeat' first|refine u1 ?_|refine u2 ?_|fail
   exact ⟨q+1,hlt,(by dsimp only;omega),ah.to (l:=[(2,.pt (gU c p) 0),(5,.ptr 0 0 0),(11,.sl (ints (nI t)) f),(12,af (t.length:Nat)),(13,af (q+1:Nat))]) (hp:=[.cells (ay (uf c.aH.length t (q+1) 0)) 0 0]) 1 (by show _=[AB.cells (ay (uf c.aH.length t (q+1) 0)) 0 0];rw [←I8];rfl) ⟨rfl,rfl,rfl,rfl,aD (by simp),trivial⟩ (qq5 _) rfl (oR _)⟩
 ·have dl:decide ((q:Int) < (t.length:Int))=false:=decide_eq_false (by omega);have hqn:q=t.length:=by omega
  subst hqn;have hw:∀ m,m < c.aH.length→(ay (uf c.aH.length t t.length 0))[0+((m:Nat):Int).toNat * 1]?=some (af (mW m t:Nat)):=fun m hm=>by have:=JU t t.length 0 hm hm5.2;rw [if_neg (Nat.not_lt_zero _),List.take_length] at this;exact wL this
  have hw0:=hw 0 (by omega);have hbe:=fun (on:Bool) (i:Nat) (hi:i < c.aH.length)=>wN on c hg p hp (bI c 0 c.aH.length) (bI c 1 c.aH.length) (bI c 2 c.aH.length) i hi (mW i t:Nat) ⟨by omega,by have:=DL i t;omega⟩;have o0:=hbe one 0 (by omega)
  generalize hWW:uf c.aH.length t t.length 0=WW at *
  refine qq1 ?_;repeat' first|refine u1 ?_|((with_reducible show RM.wpOp _ _ (.load _ _) _ _ _);refine RM.bD rfl rfl rfl hw0 ?_)|((with_reducible refine qq3 ?_);refine ak.call o0 rfl rfl ?_)|refine u2 ?_|fail
  refine aB.aP (ah.to (l:=[(2,.pt (gU c p) 0),(5,.ptr 0 0 0),(9,af (BN c p t 0)),(42,af (c.aH.length:Nat)),(43,af (0:Nat))]) (hp:=[.cells (ay (WW)) 0 0]) 1 rfl ⟨rfl,rfl,rfl,aD em,rfl,trivial⟩ (qq5 _) rfl (oR _)) ?_;refine aB.loop (fun k:Nat=>k≤c.aH.length) (fun k=>⟨aL [(2,.pt (gU c p) 0),(5,.ptr 0 0 0),(9,af (BN c p t k)),(42,af (c.aH.length:Nat)),(43,af (k:Nat))],[.cells (ay (WW)) 0 0],bp.none,false,0⟩) (fun k=>c.aH.length - k) ?_ 0 (qq5 _);intro k hk;by_cases hkl:k < c.aH.length
  ·have d2:decide ((k:Int) < (c.aH.length:Int))=true:=decide_eq_true (by omega);have hwk:=hw k hkl;have o1:=hbe true k hkl;have hs:BN c p t (k+1)=max (BN c p t k) (ct c p k (mW k t:Nat)):=rfl;refine qq1 ?_;repeat' first|refine u1 ?_|((with_reducible show RM.wpOp _ _ (.load _ _) _ _ _);refine RM.bD rfl rfl rfl hwk ?_)|(refine ⟨_,_,.inl ⟨rfl,rfl⟩,o1,?_⟩)|refine u2 ?_|fail
   exact ⟨k+1,hkl,(by dsimp only;omega),ah.to (l:=[(2,.pt (gU c p) 0),(5,.ptr 0 0 0),(9,af (BN c p t (k+1))),(42,af (c.aH.length:Nat)),(43,af ((k+1):Nat))]) (hp:=[.cells (ay (WW)) 0 0]) 1 rfl ⟨rfl,rfl,by rw [hs];rfl,rfl,aD (by simp),trivial⟩ (qq5 _) rfl (oR _)⟩
  ·have d2:decide ((k:Int) < (c.aH.length:Int))=false:=decide_eq_false (by omega);have hkn:k=c.aH.length:=by omega
   subst hkn;refine qq1 ?_;repeat' first|refine u1 ?_|refine u2 ?_|fail
   exact ⟨[_],⟨Fz.deep rfl,trivial⟩,rfl⟩
end Go.Proofs.YtlpmfgmldmdggaaGreat
open Go Go.RM
namespace Go.Proofs.YtlpmfgmldmdggaaGreat
set_option maxRecDepth 100000
structure nZ (rk:Int→Int) (S0 S:List Int) (a b:Nat) (pv:Int) (i j:Nat):Prop where
 pr:PR S0 S a b
 pe:aG S a=pv
 lo:∀ q,a < q→q < i→rk (aG S q) < rk pv
 hi:∀ q,j < q→q < b→rk pv≤rk (aG S q)
 ai:a < i
 ij:i≤j+1
 jb:j < b
 aj:a≤j
theorem nZ.up {rk:Int→Int} {S0 S:List Int} {a b:Nat} {pv:Int} {i j:Nat} (h:nZ rk S0 S a b pv i j) (hij:i≤j) (hl:rk (aG S i) < rk pv):nZ rk S0 S a b pv (i+1) j :=
 ⟨h.pr,h.pe,fun q h1 h2=>by
  by_cases hq:q=i
  ·rw [hq];exact hl
  ·exact h.lo q h1 (by omega),h.hi,by have:=h.ai;omega,by omega,h.jb,h.aj⟩
theorem nZ.down {rk:Int→Int} {S0 S:List Int} {a b:Nat} {pv:Int} {i j:Nat} (h:nZ rk S0 S a b pv i j) (hij:i≤j) (hl:rk pv≤rk (aG S j)):nZ rk S0 S a b pv i (j - 1) :=
 ⟨h.pr,h.pe,h.lo,fun q h1 h2=>by
  by_cases hq:q=j
  ·rw [hq];exact hl
  ·exact h.hi q (by omega) h2,h.ai,by omega,by have:=h.jb;omega,by have:=h.ai;omega⟩
theorem nZ.swap {rk:Int→Int} {S0 S:List Int} {a b:Nat} {pv:Int} {i j:Nat} (hb:b≤S0.length) (h:nZ rk S0 S a b pv i j) (hij:i≤j) (hi:rk pv≤rk (aG S i)) (hj:rk (aG S j) < rk pv):i < j∧nZ rk S0 (sw S i j) a b pv (i+1) (j - 1):=by
 have hne:i ≠ j:=fun e=>by rw [e] at hi;omega
 have h1:=h.ai;have h2:=h.jb;have hl:=h.pr.len;have g:=mV (S:=S) (i:=i) (j:=j) (by omega) (by omega);refine ⟨by omega,h.pr.trans (PR.sw (by omega) ⟨by omega,by omega⟩ ⟨by omega,by omega⟩),?_,fun q hq1 hq2=>?_,fun q hq1 hq2=>?_,by omega,by omega,by omega,by omega⟩
 ·rw [g,if_neg (by omega),if_neg (by omega)];exact h.pe
 ·rw [g,if_neg (by omega)];by_cases hq:q=i
  ·rw [if_pos hq];exact hj
  ·rw [if_neg hq];exact h.lo q hq1 (by omega)
 ·rw [g];by_cases hq:q=j
  ·rw [if_pos hq];exact hi
  ·rw [if_neg hq,if_neg (by omega)];exact h.hi q (by omega) hq2
structure oa (rk:Int→Int) (S0 S:List Int) (a b m:Nat):Prop where
 pr:PR S0 S a b
 am:a≤m
 mb:m < b
 lo:∀ q,a≤q→q < m→rk (aG S q)≤rk (aG S m)
 hi:∀ q,m < q→q < b→rk (aG S m)≤rk (aG S q)
theorem nZ.done {rk:Int→Int} {S0 S:List Int} {a b:Nat} {pv:Int} {i j:Nat} (hb:b≤S0.length) (h:nZ rk S0 S a b pv i j) (hij:j < i):oa rk S0 (sw S j a) a b j:=by
 have h1:=h.ai;have h2:=h.jb;have h3:=h.aj;have h4:=h.ij;have hl:=h.pr.len;have g:=mV (S:=S) (i:=j) (j:=a) (by omega) (by omega)
 have gj:aG (sw S j a) j=pv:=by
  rw [g];by_cases e:j=a
  ·rw [if_pos e,e];exact h.pe
  ·rw [if_neg e,if_pos rfl];exact h.pe
 refine ⟨h.pr.trans (PR.sw (by omega) ⟨by omega,by omega⟩ ⟨by omega,by omega⟩),h3,h2,fun q hq1 hq2=>?_,fun q hq1 hq2=>?_⟩
 ·rw [gj,g];by_cases hq:q=a
  ·rw [if_pos hq];exact Int.le_of_lt (h.lo j (by omega) (by omega))
  ·rw [if_neg hq,if_neg (by omega)];exact Int.le_of_lt (h.lo q (by omega) (by omega))
 ·rw [gj,g,if_neg (by omega),if_neg (by omega)];exact h.hi q hq1 hq2
theorem nZ.start {rk:Int→Int} {S0:List Int} {a b p:Nat} (hb:b≤S0.length) (hp:a≤p∧p < b):nZ rk S0 (sw S0 a p) a b (aG S0 p) (a+1) (b - 1):=by
 have g:=mV (S:=S0) (i:=a) (j:=p) (by omega) (by omega);refine ⟨PR.sw (by omega) ⟨by omega,by omega⟩ hp,?_,fun q h1 h2=>by omega,fun q h1 h2=>by omega,by omega,by omega,by omega,by omega⟩;rw [g];by_cases e:a=p
 ·rw [if_pos e,e]
 ·rw [if_neg e,if_pos rfl]
structure tf (rk:Int→Int) (S0 S:List Int) (a b:Nat) (pv:Int) (i j:Nat):Prop where
 pr:PR S0 S a b
 pe:aG S a=pv
 lo:∀ q,a < q→q < i→rk (aG S q)≤rk pv
 hi:∀ q,j < q→q < b→rk pv < rk (aG S q)
 ai:a < i
 ij:i≤j+1
 jb:j < b
 aj:a≤j
theorem tf.up {rk:Int→Int} {S0 S:List Int} {a b:Nat} {pv:Int} {i j:Nat} (h:tf rk S0 S a b pv i j) (hij:i≤j) (hl:rk (aG S i)≤rk pv):tf rk S0 S a b pv (i+1) j :=
 ⟨h.pr,h.pe,fun q h1 h2=>by
  by_cases hq:q=i
  ·rw [hq];exact hl
  ·exact h.lo q h1 (by omega),h.hi,by have:=h.ai;omega,by omega,h.jb,h.aj⟩
theorem tf.down {rk:Int→Int} {S0 S:List Int} {a b:Nat} {pv:Int} {i j:Nat} (h:tf rk S0 S a b pv i j) (hij:i≤j) (hl:rk pv < rk (aG S j)):tf rk S0 S a b pv i (j - 1) :=
 ⟨h.pr,h.pe,h.lo,fun q h1 h2=>by
  by_cases hq:q=j
  ·rw [hq];exact hl
  ·exact h.hi q (by omega) h2,h.ai,by omega,by have:=h.jb;omega,by have:=h.ai;omega⟩
theorem tf.swap {rk:Int→Int} {S0 S:List Int} {a b:Nat} {pv:Int} {i j:Nat} (hb:b≤S0.length) (h:tf rk S0 S a b pv i j) (hij:i≤j) (hi:rk pv < rk (aG S i)) (hj:rk (aG S j)≤rk pv):i < j∧tf rk S0 (sw S i j) a b pv (i+1) (j - 1):=by
 have hne:i ≠ j:=fun e=>by rw [e] at hi;omega
 have h1:=h.ai;have h2:=h.jb;have hl:=h.pr.len;have g:=mV (S:=S) (i:=i) (j:=j) (by omega) (by omega);refine ⟨by omega,h.pr.trans (PR.sw (by omega) ⟨by omega,by omega⟩ ⟨by omega,by omega⟩),?_,fun q hq1 hq2=>?_,fun q hq1 hq2=>?_,by omega,by omega,by omega,by omega⟩
 ·rw [g,if_neg (by omega),if_neg (by omega)];exact h.pe
 ·rw [g,if_neg (by omega)];by_cases hq:q=i
  ·rw [if_pos hq];exact hj
  ·rw [if_neg hq];exact h.lo q hq1 (by omega)
 ·rw [g];by_cases hq:q=j
  ·rw [if_pos hq];exact hi
  ·rw [if_neg hq,if_neg (by omega)];exact h.hi q (by omega) hq2
theorem tf.start {rk:Int→Int} {S0:List Int} {a b p:Nat} (hb:b≤S0.length) (hp:a≤p∧p < b):tf rk S0 (sw S0 a p) a b (aG S0 p) (a+1) (b - 1):=by
 have g:=mV (S:=S0) (i:=a) (j:=p) (by omega) (by omega);refine ⟨PR.sw (by omega) ⟨by omega,by omega⟩ hp,?_,fun q h1 h2=>by omega,fun q h1 h2=>by omega,by omega,by omega,by omega,by omega⟩;rw [g];by_cases e:a=p
 ·rw [if_pos e,e]
 ·rw [if_neg e,if_pos rfl]
structure DM (rk:Int→Int) (S0 S:List Int) (a b m:Nat) (pv:Int):Prop where
 pr:PR S0 S a b
 am:a < m
 mb:m≤b
 lo:∀ q,a≤q→q < m→rk (aG S q)≤rk pv
 hi:∀ q,m≤q→q < b→rk pv < rk (aG S q)
theorem tf.done {rk:Int→Int} {S0 S:List Int} {a b:Nat} {pv:Int} {i j:Nat} (h:tf rk S0 S a b pv i j) (hij:j < i):DM rk S0 S a b i pv :=
 ⟨h.pr,h.ai,by have:=h.ij;have:=h.jb;omega,fun q h1 h2=>by
  by_cases hq:q=a
  ·rw [hq,h.pe];exact Int.le_refl _
  ·exact h.lo q (by omega) h2,fun q h1 h2=>h.hi q (by have:=h.ij;omega) h2⟩
