/-
  Contracts of the program's functions and of the document's. Lemmas alone; their conditions stand in them.
-/
import Derived.Test.YtlpmfgmldmdggaaGreatK7
open Go Go.RM
namespace Go.Proofs.YtlpmfgmldmdggaaGreat
set_option maxRecDepth 100000
def Hr:List Nat:=[0,1,3,7,15,31,23,11,27,19,5,13,29,21,9,25,17,2,6,14,30,22,10,26,18,4,12,28,20,8,24,16]
theorem Jm:Hr.Pairwise fun a b=>bZ (a:Nat)≤bZ (b:Nat):=by decide
theorem Da:∀ a ∈ Hr,a < 32:=by decide
theorem D1:∀ a,a < 32→a ∈ Hr:=by decide
theorem Fp:Hr.Nodup:=by decide
theorem zV:∀ a,a < 32→dX (fo a)=a:=by decide
theorem La:∀ a,a < 32→BQ (fo a)=false:=by decide
theorem Db:∀ a,a < 32→∀ x ∈ fo a,0≤x∧x < 5:=by decide
theorem Lc:∀ n:Nat,n < 6→∀ a,a < 32→a < 2 ^ n→fk 0 ((n:Int) - 1) (fo a)=false:=by decide
theorem Lf:∀ a,a < 32→∀ m,m < 5→e7 (fo a) (m:Nat)=a.testBit m:=by decide
def wN (n:Nat) (w:Int):List Nat:=Hr.filter fun a=>decide (a < 2 ^ n) && decide (((fo a).length:Int)≤w)
abbrev xN (c:aL) (a:Nat):Bool:=xM (bD c 0 c.aD.length) (bD c 1 c.aD.length) (bD c 2 c.aD.length) a
abbrev gS (c:aL) (p:bE):List AV:=s5 c p (bD c 0 c.aD.length) (bD c 1 c.aD.length) (bD c 2 c.aD.length)
def Dc (c:aL) (w:Int) (a:Nat):Bool:=decide (((fo a).length:Int)≤w) && xN c a
def eF (c:aL) (w:Int) (k:Nat):List Nat:=(List.range k).filter (Dc c w)
def iz (c:aL) (w:Int):List Nat:=(wN c.aD.length w).filter (xN c)
theorem zW {c:aL} (hg:Good c) {w:Int} {a:Nat}:a ∈ iz c w ↔ a < 2 ^ c.aD.length∧((fo a).length:Int)≤w∧xN c a=true:=by unfold iz wN;rw [List.mem_filter,List.mem_filter,qq7,decide_eq_true_eq,decide_eq_true_eq];have h5:2 ^ c.aD.length≤2 ^ 5:=Nat.pow_le_pow_right (by decide) hg.aD.2;exact ⟨fun ⟨⟨_,h1,h2⟩,h3⟩=>⟨h1,h2,h3⟩,fun ⟨h1,h2,h3⟩=>⟨⟨D1 a (by omega),h1,h2⟩,h3⟩⟩
theorem s8 {c:aL} (hg:Good c) {w:Int} {a:Nat} (h:a ∈ iz c w):a < 32:=by have h5:2 ^ c.aD.length≤2 ^ 5:=Nat.pow_le_pow_right (by decide) hg.aD.2;have:=((zW hg).1 h).1;omega
theorem set_perm {c:aL} (hg:Good c) (w:Int):(iz c w).Perm (eF c w (2 ^ c.aD.length)):=by refine (List.perm_ext_iff_of_nodup ((Fp.filter _).filter _) (List.nodup_range.filter _)).2 fun a=>?_;refine (zW hg).trans ?_;unfold Dc;rw [List.mem_filter,List.mem_range,qq7,decide_eq_true_eq]
theorem Jn (c:aL) (w:Int):(iz c w).Pairwise fun a b=>bZ (a:Nat)≤bZ (b:Nat):=(Jm.sublist List.filter_sublist).sublist List.filter_sublist
abbrev nI (l:List Nat):List Int:=l.map fun a=>((a:Nat):Int)
theorem Jo {rk:Int→Int} {S:List Int} {N:Nat} (hN:S.length=N) (h:Sd rk S 0 N):S.Pairwise fun a b=>rk a≤rk b:=by rw [List.pairwise_iff_getElem];intro p q hp hq h1;have:=h p q (qq5 _) (Nat.le_of_lt h1) (by omega);unfold aH at this;rw [List.getD_eq_getElem?_getD,List.getElem?_eq_getElem hp,List.getD_eq_getElem?_getD,List.getElem?_eq_getElem hq] at this;exact this
theorem Ht {c:aL} (hg:Good c) {w:Int} {S:List Int} {N:Nat} (hN:S.length=N) (hp:S.Perm (nI (eF c w (2 ^ c.aD.length)))) (hs:Sd bZ S 0 N):S=nI (iz c w):=by have hp2:S.Perm (nI (iz c w)):=hp.trans ((set_perm hg w).map _).symm;refine G6 (rk:=bZ) (fun a ha b hb h=>?_) (Jo hN hs) (List.pairwise_map.2 (Jn c w)) hp2;obtain ⟨x,hx,rfl⟩:=List.mem_map.1 (hp2.mem_iff.1 ha);obtain ⟨y,hy,rfl⟩:=List.mem_map.1 (hp2.mem_iff.1 hb);rw [K7 x (s8 hg hx) y (s8 hg hy) h]
theorem D2 {c:aL} (hg:Good c) {p:bE} (hp:ob p):(iz c p.aR).length≤16:=by
 have h1:(iz c p.aR).length≤(wN c.aD.length p.aR).length:=List.length_filter_le _ _;have h2:∀ n,n < 6→(wN n 1).length≤16∧(wN n 2).length≤16:=by decide
 obtain ⟨q1,q2⟩:=h2 c.aD.length (by have:=hg.aD;omega);obtain e|e:p.aR=1∨p.aR=2:=by have:=hp.aR;omega
 ·rw [e] at h1 ⊢;omega
 ·rw [e] at h1 ⊢;omega
theorem BT {c:aL} (hg:Good c) {p:bE} (hp:ob p):0 ∈ iz c p.aR:=by
 refine (zW hg).2 ⟨Nat.two_pow_pos _,?_,?_⟩
 ·have:=hp.aR;show ((0:Nat):Int)≤_;omega
 ·show xN c 0=true;have h:=BS hg (l:=[]) (fun x hx=>by cases hx);show xM _ _ _ (dX [])=true;rw [h];unfold lf
  have:((List.range c.aC.length).any fun r=>kG c [] r)=false:=by
   rw [List.any_eq_false];intro r _;unfold kG oY;have h0:∀ L:List Nat,(L.countP fun m=>decide (fR c m=r) && e7 [] (m:Nat))=0:=fun L=>List.countP_eq_zero.2 fun x _=>by simp [e7]
   rw [h0,qq7,decide_eq_true_eq,decide_eq_true_eq];omega
  rw [this];rfl
theorem zX {c:aL} (hg:Good c) {p:bE} {a b:Nat} (hb:b < 32) (ha:a ∈ wN c.aD.length p.aR):(jl c p.aR (fo b) (fo a)=0) ↔ (a &&& b=0∧xN c a=true):=by
 have h5:2 ^ c.aD.length≤2 ^ 5:=Nat.pow_le_pow_right (by decide) hg.aD.2;unfold wN at ha;obtain ⟨h1,h2⟩:=List.mem_filter.1 ha;rw [qq7,decide_eq_true_eq,decide_eq_true_eq] at h2;have h32:=Da a h1;have hl:L7 c p (fo a):=⟨Lc _ (by have:=hg.aD;omega) a h32 h2.1,La a h32,h2.2⟩;rw [hl.err];have k1:=Ho (b:=fo b) (l:=fo a) (fun x hx=>(Db b hb x hx).1) (fun x hx=>(Db a h32 x hx).1);have k2:=BS hg (l:=fo a) (Db a h32);rw [zV a h32,zV b hb] at k1;rw [zV a h32] at k2;unfold FC Iq;rw [←k1];show _ ↔ _∧xM _ _ _ a=true;rw [k2];by_cases h:a &&& b=0
 ·rw [h];cases lf c (fo a) <;> simp
 ·have hd:(!decide (((a &&& b:Nat):Int)=0))=true:=by rw [decide_eq_false (by omega)];rfl
  rw [if_pos hd];exact ⟨fun h2=>absurd h2 (by decide),fun h2=>absurd h2.1 h⟩
end Go.Proofs.YtlpmfgmldmdggaaGreat
open Go Go.RM
namespace Go.Proofs.YtlpmfgmldmdggaaGreat
set_option maxRecDepth 100000
def dY (pre:List Nat):Nat:=pre.getLastD 0
def jz (S:List Nat):Nat→List Nat→List (List Nat)
 | 0,pre=>[pre]
 | k+1,pre=>S.flatMap fun s=>if dY pre &&& s=0 then jz S k (pre++[s]) else []
def m7 (m:Nat) (t:List Nat):Nat:=t.countP fun s=>s.testBit m
def uC (c:aL) (p:bE) (t:List Nat):Nat→Int
 | 0=>cU c p 0 (m7 0 t:Nat)
 | k+1=>max (uC c p t k) (cU c p k (m7 k t:Nat))
def jn (c:aL) (p:bE) (t:List Nat):Int:=uC c p t c.aD.length
def l6 (t:List Nat):Prop:=∀ a ∈ t,a < 32
theorem l6.snoc {t:List Nat} {a:Nat} (h:l6 t) (ha:a < 32):l6 (t++[a]):=fun x hx=>by
 rcases List.mem_append.1 hx with hx|hx
 ·exact h x hx
 ·rw [List.mem_singleton.1 hx];exact ha
theorem uS {t:List Nat} (h:l6 t):dY t < 32:=by
 unfold dY
 cases t with
 | nil=>decide
 | cons x t =>
  rw [List.getLastD_cons];rw [List.getLastD_eq_getLast?]
  cases hh:t.getLast? with
  | none=>exact h x (by simp)
  | some y=>exact h y (List.mem_cons_of_mem _ (List.mem_of_getLast? hh))
theorem yC (t:List Nat) (a:Nat):dY (t++[a])=a:=by unfold dY;rw [List.getLastD_eq_getLast?,List.getLast?_append];rfl
theorem Jp {t:List Nat} (h:l6 t) {m:Nat} (hm:m < 5):m6 (t.map fo) m (t.map fo).length=m7 m t:=by unfold m6 m7;rw [List.take_length,List.countP_map];apply List.countP_congr;intro a ha;show e7 (fo a) (m:Nat)=true ↔ _;rw [Lf a (h a ha) m hm]
theorem D3 {c:aL} (hg:Good c) (p:bE) {t:List Nat} (h:l6 t):C4 (uR c p (t.map fo) c.aD.length)=jn c p t:=by
 have hm:=hg.aD;have hat:∀ i,i < c.aD.length→aH (uR c p (t.map fo) c.aD.length) i=cU c p i (m7 i t:Nat):=fun i hi=>by unfold aH uR;rw [List.getD_eq_getElem?_getD,List.getElem?_map,List.getElem?_range hi];show cU c p i (m6 (t.map fo) i (t.map fo).length:Nat)=_;rw [Jp h (by omega)]
 have key:∀ k,k < c.aD.length→Ip (uR c p (t.map fo) c.aD.length) k=uC c p t (k+1):=by
  intro k
  induction k with
  | zero =>intro h0;show aH _ 0=max _ _;rw [hat 0 h0];show _=max (cU c p 0 _) _;rw [Int.max_self]
  | succ k ih =>intro h0;show max (Ip _ k) _=_;rw [ih (by omega),hat (k+1) h0];rfl
 unfold C4 jn;rw [rQ,key _ (by omega)]
 congr 1
 omega
abbrev zY:=Option (List Nat × Int)
def uD:zY→List Nat × Int→zY
 | none,y=>some y
 | some x,y=>if y.2 < x.2 then some y else some x
def Ko (o:zY):zY→zY
 | none=>o
 | some y=>uD o y
theorem wO {x y:List Nat × Int} (h:y.2 < x.2):uD (some x) y=some y:=if_pos h
theorem wP {x y:List Nat × Int} (h:¬ y.2 < x.2):uD (some x) y=some x:=if_neg h
theorem Jq:∀ z:zY,Ko none z=z
 | none=>rfl
 | some _=>rfl
theorem Hu (o:zY) (x:List Nat × Int) (z:zY):Ko (uD o x) z=Ko o (Ko (some x) z):=by
 cases z with
 | none=>rfl
 | some y =>
  show uD (uD o x) y=Ko o (uD (some x) y)
  cases o with
  | none=>exact (Jq _).symm
  | some w =>
   by_cases h1:x.2 < w.2
   ·rw [wO h1];by_cases h2:y.2 < x.2
    ·rw [wO h2];exact (wO (Int.lt_trans h2 h1)).symm
    ·rw [wP h2];exact (wO h1).symm
   ·rw [wP h1];by_cases h2:y.2 < x.2
    ·rw [wO h2];rfl
    ·rw [wP h2,wP (show ¬ y.2 < w.2 by omega)];exact (wP h1).symm
theorem zZ:∀ (xs:List (List Nat × Int)) (o:zY),xs.foldl uD o=Ko o (xs.foldl uD none)
 | [],o=>rfl
 | x :: xs,o=>by rw [List.foldl_cons,List.foldl_cons,zZ xs (uD o x),zZ xs (uD none x)];exact Hu o x _
def wQ (c:aL) (p:bE):Nat→List Nat→zY
 | 0,pre=>some (pre,jn c p pre)
 | k+1,pre=>(wN c.aD.length p.aR).foldl (fun o a=>if jl c p.aR (fo (dY pre)) (fo a)=0 then Ko o (wQ c p k (pre++[a])) else o) none
def BU (c:aL) (p:bE) (T:List (List Nat)):List (List Nat × Int):=T.map fun t=>(t,jn c p t)
theorem og {c:aL} (hg:Good c) {p:bE} (hp:ob p):∀ (k:Nat) (pre:List Nat),l6 pre→wQ c p k pre=(BU c p (jz (iz c p.aR) k pre)).foldl uD none
 | 0,pre,_=>rfl
 | k+1,pre,h=>by
  have hl:=uS h
  have key:∀ (L:List Nat),(∀ a ∈ L,a ∈ wN c.aD.length p.aR)→∀ o:zY,L.foldl (fun o a=>if jl c p.aR (fo (dY pre)) (fo a)=0 then Ko o (wQ c p k (pre++[a])) else o) o=(BU c p ((L.filter (xN c)).flatMap fun s=>if dY pre &&& s=0 then jz (iz c p.aR) k (pre++[s]) else [])).foldl uD o:=by
   intro L
   induction L with
   | nil=>intro _ o;rfl
   | cons a L ih =>
    intro hL o;have ha:=hL a List.mem_cons_self;have ih:=ih fun x hx=>hL x (List.mem_cons_of_mem _ hx);have h32:a < 32:=Da a (List.mem_filter.1 ha).1;have hb:=zX hg (p:=p) hl ha;rw [List.foldl_cons,ih];by_cases hs:xN c a=true
    ·rw [List.filter_cons,if_pos hs,List.flatMap_cons];unfold BU;rw [List.map_append,List.foldl_append];by_cases hm:a &&& dY pre=0
     ·rw [if_pos (hb.2 ⟨hm,hs⟩),if_pos (by rw [Nat.and_comm];exact hm),og hg hp k _ (h.snoc h32)];rw [←zZ];rfl
     ·rw [if_neg (fun h2=>hm (hb.1 h2).1),if_neg (by rw [Nat.and_comm];exact hm)];rfl
    ·rw [List.filter_cons,if_neg hs,if_neg (fun h2=>hs (hb.1 h2).2)]
  exact key _ (fun a h=>h) none
theorem z4 {S:List Nat} (hS:l6 S):∀ (k:Nat) (pre:List Nat),l6 pre→∀ t ∈ jz S k pre,l6 t∧t.length=pre.length+k
 | 0,pre,h,t,ht=>by rw [List.mem_singleton.1 ht];exact ⟨h,rfl⟩
 | k+1,pre,h,t,ht=>by
  obtain ⟨s,hs,ht⟩:=List.mem_flatMap.1 ht;split at ht
  ·obtain ⟨h1,h2⟩:=z4 hS k _ (h.snoc (hS s hs)) t ht;rw [List.length_append,List.length_singleton] at h2;exact ⟨h1,by omega⟩
  ·cases ht
theorem Hv {S:List Nat} (h0:0 ∈ S):∀ (k:Nat) (pre:List Nat),jz S k pre ≠ []
 | 0,pre=>by simp [jz]
 | k+1,pre=>by obtain ⟨t,ht⟩:=List.exists_mem_of_ne_nil _ (Hv h0 k (pre++[0]));exact List.ne_nil_of_mem (List.mem_flatMap.2 ⟨0,h0,by rw [if_pos (Nat.and_zero _)];exact ht⟩)
theorem Dd:∀ (xs:List (List Nat × Int)),xs ≠ []→∃ t n,xs.foldl uD none=some (t,n)∧(t,n) ∈ xs∧∀ y ∈ xs,n≤y.2:=by
 have key:∀ (xs:List (List Nat × Int)) (x:List Nat × Int),∃ t n,xs.foldl uD (some x)=some (t,n)∧(t,n) ∈ x :: xs∧∀ y ∈ x :: xs,n≤y.2:=by
  intro xs
  induction xs with
  | nil=>intro x;exact ⟨x.1,x.2,rfl,by simp,fun y hy=>by rw [List.mem_singleton.1 hy];exact Int.le_refl _⟩
  | cons y xs ih =>
   intro x;rw [List.foldl_cons];by_cases h:y.2 < x.2
   ·rw [show uD (some x) y=some y from if_pos h];obtain ⟨t,n,h1,h2,h3⟩:=ih y;refine ⟨t,n,h1,List.mem_cons_of_mem _ h2,fun z hz=>?_⟩
    rcases List.mem_cons.1 hz with rfl|hz
    ·have:=h3 y List.mem_cons_self;omega
    ·exact h3 z hz
   ·rw [show uD (some x) y=some x from if_neg h];obtain ⟨t,n,h1,h2,h3⟩:=ih x;refine ⟨t,n,h1,?_,fun z hz=>?_⟩
    ·rcases List.mem_cons.1 h2 with h2|h2
     ·rw [h2];exact List.mem_cons_self
     ·exact List.mem_cons_of_mem _ (List.mem_cons_of_mem _ h2)
    ·rcases List.mem_cons.1 hz with rfl|hz
     ·exact h3 _ List.mem_cons_self
     ·rcases List.mem_cons.1 hz with rfl|hz
      ·have:=h3 x List.mem_cons_self;omega
      ·exact h3 z (List.mem_cons_of_mem _ hz)
 intro xs hx
 cases xs with
 | nil=>exact absurd rfl hx
 | cons x xs=>exact key xs x
structure Kq (c:aL) (p:bE) (k:Nat) (pre t:List Nat) (n:Int):Prop where
 eq:wQ c p k pre=some (t,n)
 mem:t ∈ jz (iz c p.aR) k pre
 val:n=jn c p t
 least:∀ u ∈ jz (iz c p.aR) k pre,n≤jn c p u
theorem wR {c:aL} (hg:Good c) {p:bE} (hp:ob p) (k:Nat) {pre:List Nat} (h:l6 pre):∃ t n,Kq c p k pre t n:=by
 have hne:BU c p (jz (iz c p.aR) k pre) ≠ []:=by intro h2;exact Hv (BT hg hp) k pre (List.map_eq_nil_iff.1 h2)
 obtain ⟨t,n,h1,h2,h3⟩:=Dd _ hne;obtain ⟨u,h4,h5⟩:=List.mem_map.1 h2;obtain ⟨rfl,rfl⟩:=Prod.mk.inj h5;exact ⟨u,_,by rw [og hg hp k pre h];exact h1,h4,rfl,fun v hv=>h3 _ (List.mem_map.2 ⟨v,hv,rfl⟩)⟩
end Go.Proofs.YtlpmfgmldmdggaaGreat
open Go Go.RM
namespace Go.Proofs.YtlpmfgmldmdggaaGreat
set_option maxRecDepth 100000
def jA (c:aL) (p:bE):List Nat × Int:=(wQ c p p.turns.toNat []).getD ([],0)
def kH (c:aL) (p:bE):List (List Int):=(jA c p).1.map fo
def Jr (c:aL) (p:bE):AV:=if kJ c p=0 then .tp [.sl ((kH c p).map eL) false,af (jA c p).2,af 0] else .tp [.sl [] false,af 0,af (kJ c p)]
theorem l7 {c:aL} (hg:Good c) {p:bE} (hp:ob p):Kq c p p.turns.toNat [] (jA c p).1 (jA c p).2:=by
 obtain ⟨t,n,h⟩:=wR hg hp p.turns.toNat (pre:=[]) (fun x hx=>by cases hx);have e:jA c p=(t,n):=by unfold jA;rw [h.eq];rfl
 rw [e];exact h
theorem uT {c:aL} (hg:Good c) {p:bE} (hp:ob p):l6 (jA c p).1∧((jA c p).1.length:Int)=p.turns:=by obtain ⟨h1,h2⟩:=z4 (S:=iz c p.aR) (fun a ha=>s8 hg ha) p.turns.toNat [] (fun x hx=>by cases hx) _ (l7 hg hp).mem;rw [List.length_nil,Nat.zero_add] at h2;have:=hp.turns;exact ⟨h1,by omega⟩
end Go.Proofs.YtlpmfgmldmdggaaGreat
open Go Go.RM
namespace Go.Proofs.YtlpmfgmldmdggaaGreat
set_option maxRecDepth 100000
set_option maxHeartbeats 4000000
def Js (l:List Int):Nat→Int
 | 0=>0
 | k+1=>Ip l k
theorem Hw (w e d:Int) (j n:Int):sZ w e (j+1) d (n+1)=sZ w e j d n - 1000 * d:=by unfold sZ;rw [show j+1 - (n+1)=j - n by omega,Int.add_mul,Int.add_mul];omega
theorem Hx (w e d:Int) (j n:Int):sZ w e (j+1) d n=sZ w e j d n+e * d:=by unfold sZ;rw [show j+1 - n=(j - n)+1 by omega,Int.add_mul,Int.add_mul,Int.one_mul];omega
theorem Lg (one:Bool) (c:aL) (hg:Good c) (p:bE) (hp:ob p) (T:List (List Int)) (fT:Bool) (hT:Fo T) (hTp:(T.length:Int)=p.turns):Pu one 47 [.ag (aI c),.ag (cV p),.sl (T.map eT) fT] (af (C4 (uR c p T c.aD.length))):=by
 have em:((c.aD.map aZ).length:Int)=c.aD.length:=by simp
 have eT':((T.map eT).length:Int)=T.length:=by simp
 have hm5:=hg.aD;have hrk:=fun k (hk:k < c.aD.length)=>lZ hg (k:=k) hk;have hat0:∀ i,i < c.aD.length→aH (uR c p T c.aD.length) i=cU c p i (m6 T i T.length:Nat):=fun i hi=>by unfold aH uR;rw [List.getD_eq_getElem?_getD,List.getElem?_map,List.getElem?_range hi];rfl
 have hmx:C4 (uR c p T c.aD.length)=Js (uR c p T c.aD.length) c.aD.length:=by unfold C4;rw [rQ];obtain ⟨q,hq⟩:∃ q,c.aD.length=q+1:=⟨c.aD.length - 1,by omega⟩;rw [hq];rfl
 rw [hmx]
 generalize hL:uR c p T c.aD.length=L at *
 obtain ⟨t,d,aw⟩:=p;obtain ⟨p1,p2,p3⟩:=hp;dsimp only at hTp p1 p2 p3;unfold cU at hat0;dsimp only at hat0;show Pu one 47 [.ag (aI c),.ag [af t,af d,af aw],.sl (T.map eT) fT] _;refine ak.body (fn:=Tryz.f47) rfl rfl rfl rfl ?_;refine qq1 ?_;repeat' first|refine u1 ?_|refine u2 ?_|fail
 refine aB.aO (ah.to (l:=[(2,.sl (T.map eT) fT),(3,.pt (aI c) 0),(4,.pt [af (t:Int),af d,af aw] 0),(7,af (Js L 0)),(8,BB (true)),(9,af (0:Nat))]) (hp:=[]) 0 rfl ⟨rfl,rfl,rfl,rfl,rfl,rfl,trivial⟩ (qq5 _) rfl rfl) ?_;refine aB.loop (fun x:Nat × Int × Bool=>x.1≤c.aD.length∧x.2.1=Js L x.1∧x.2.2=decide (x.1=0)) (fun x=>⟨aM [(2,.sl (T.map eT) fT),(3,.pt (aI c) 0),(4,.pt [af (t:Int),af d,af aw] 0),(7,af (x.2.1)),(8,BB (x.2.2)),(9,af (x.1:Nat))],[],bq.none,false,0⟩) (fun x=>c.aD.length - x.1) ?_ (0,Js L 0,true) ⟨qq5 _,rfl,rfl⟩;rintro ⟨k,mo,fb⟩ ⟨hk,hmo,hfb⟩;dsimp only at hk hmo hfb;show aB _ _ _ _ ⟨aM [(2,.sl (T.map eT) fT),(3,.pt (aI c) 0),(4,.pt [af (t:Int),af d,af aw] 0),(7,af (mo)),(8,BB (fb)),(9,af (k:Nat))],[],bq.none,false,0⟩ _;by_cases hlt:k < c.aD.length
 ·have dl:decide ((k:Int) < ((c.aD.map aZ).length:Int))=true:=decide_eq_true (by omega);obtain ⟨mn,rk,w,ms,ra,rb,rc,rd,e,hmt,hrt,hrk,hb1,hb2,h01,h02,_⟩:=hrk k hlt;have hval:=hat0 k hlt;rw [h01,h02] at hval;refine qq1 ?_;repeat' first|refine u1 ?_|(refine ⟨[ST mn,af rk,af w,BB ms],⟨by omega,hmt⟩,rfl,?_⟩)|refine u2 ?_|fail
  refine aB.aO (ah.to (l:=[(2,.sl (T.map eT) fT),(3,.pt (aI c) 0),(4,.pt [af (t:Int),af d,af aw] 0),(7,af (mo)),(8,BB (fb)),(9,af (k:Nat)),(10,af ((sZ w e ((0:Nat):Int) d (m6 T k 0:Nat)))),(11,af (0:Nat))]) (hp:=[]) 0 rfl ⟨rfl,rfl,rfl,rfl,rfl,rfl,aE (by unfold sZ m6;simp),rfl,trivial⟩ (qq5 _) rfl rfl) ?_;refine aB.loop (fun j:Nat=>j≤T.length) (fun j=>⟨aM [(2,.sl (T.map eT) fT),(3,.pt (aI c) 0),(4,.pt [af (t:Int),af d,af aw] 0),(7,af (mo)),(8,BB (fb)),(9,af (k:Nat)),(10,af ((sZ w e ((j:Nat):Int) d (m6 T k j:Nat)))),(11,af (j:Nat))],[],bq.none,false,0⟩) (fun j=>T.length - j) ?_ 0 (qq5 _);intro j hj;have hcb:=C8 T k j;have hbb:=Fc (w:=w) (e:=e) (t:=t) (d:=d) (n:=(m6 T k j:Nat)) hb1 p1 p2 (by omega);by_cases hjt:j < T.length
  ·have d2:decide ((j:Int) < ((T.map eT).length:Int))=true:=decide_eq_true (by omega);have hat:(T.map eT)[((j:Nat):Int).toNat]?=some (eT T[j]):=dN hjt;have hcs:=Hg (m:=k) hjt;have hln:=hT.each _ (List.getElem_mem hjt);simp only [maxLen] at hln
   generalize T[j]=l at *
   have el:((ints l).length:Int)=l.length:=by simp
   have hm1:0≤1000 * d∧1000 * d≤60000:=by omega
   have hm2:=DQ (dd:=d) (e:=e) (by omega) hb1;rw [Int.mul_comm] at hm2;have q1:=Fc (w:=w) (e:=e) (t:=4) (d:=d) (n:=4 - ((j:Int) - (m6 T k j:Nat))) hb1 (by omega) p2 (by omega);have q2:=Fc (w:=w) (e:=e) (t:=4) (d:=d) (n:=(m6 T k j:Nat)) hb1 (by omega) p2 (by omega);have e4:(4:Int) - (4 - ((j:Int) - (m6 T k j:Nat)))=(j:Int) - (m6 T k j:Nat):=by omega
   rw [e4] at q1;have hdef:(sZ w e ((j:Nat):Int) d (m6 T k j:Nat))=w+((j:Int) - (m6 T k j:Nat)) * e * d - (m6 T k j:Nat) * 1000 * d:=rfl;have hXb:-400000≤(sZ w e ((j:Nat):Int) d (m6 T k j:Nat))∧(sZ w e ((j:Nat):Int) d (m6 T k j:Nat))≤400000:=by rw [hdef];omega
   have hst:(sZ w e (((j+1):Nat):Int) d (m6 T k (j+1):Nat))=if e7 l (k:Nat)=true then (sZ w e ((j:Nat):Int) d (m6 T k j:Nat)) - 1000 * d else (sZ w e ((j:Nat):Int) d (m6 T k j:Nat))+e * d:=by
    rw [hcs,show (((j+1:Nat):Int))=(j:Int)+1 by omega];by_cases hh:e7 l (k:Nat)=true
    ·rw [if_pos hh,if_pos hh,Int.natCast_add];exact Hw w e d j _
    ·rw [if_neg hh,if_neg hh,Nat.add_zero];exact Hx w e d j _
   generalize hx1:(sZ w e (((j+1):Nat):Int) d (m6 T k (j+1):Nat))=x1 at *
   generalize (sZ w e ((j:Nat):Int) d (m6 T k j:Nat))=x0 at *
   clear q1 q2 hdef hbb;refine qq1 ?_;repeat' first|refine u1 ?_|refine u2 ?_|fail
   refine aB.aO (ah.to (l:=[(2,.sl (T.map eT) fT),(3,.pt (aI c) 0),(4,.pt [af (t:Int),af d,af aw] 0),(7,af (mo)),(8,BB (fb)),(9,af (k:Nat)),(10,af (x0)),(11,af (j:Nat)),(12,BB (e7 (l.take 0) (k:Nat))),(13,af (0:Nat))]) (hp:=[]) 0 rfl ⟨rfl,rfl,rfl,rfl,rfl,rfl,rfl,rfl,rfl,rfl,trivial⟩ (qq5 _) rfl rfl) ?_;refine aB.loop (fun i:Nat=>i≤l.length) (fun i=>⟨aM [(2,.sl (T.map eT) fT),(3,.pt (aI c) 0),(4,.pt [af (t:Int),af d,af aw] 0),(7,af (mo)),(8,BB (fb)),(9,af (k:Nat)),(10,af (x0)),(11,af (j:Nat)),(12,BB (e7 (l.take i) (k:Nat))),(13,af (i:Nat))],[],bq.none,false,0⟩) (fun i=>l.length - i) ?_ 0 (qq5 _);intro i hi;by_cases hil:i < l.length
   ·have d3:decide ((i:Int) < ((ints l).length:Int))=true:=decide_eq_true (by omega);have hat2:(ints l)[((i:Nat):Int).toNat]?=some (eI l[i]):=dN hil;have hhs:=BN (l:=l) (k:=i) (List.getElem?_eq_getElem hil) (k:Nat)
    generalize l[i]=z at *
    cases hb:e7 (l.take i) (k:Nat) with
    | true =>
     rw [hb,Bool.true_or] at hhs;refine qq1 ?_;repeat' first|refine u1 ?_|((with_reducible refine qq4 ?_);refine ⟨eT l,⟨by omega,hat⟩,rfl,?_⟩)|refine u2 ?_|fail
     exact ⟨i+1,hil,(by dsimp only;omega),ah.to (l:=[(2,.sl (T.map eT) fT),(3,.pt (aI c) 0),(4,.pt [af (t:Int),af d,af aw] 0),(7,af (mo)),(8,BB (fb)),(9,af (k:Nat)),(10,af (x0)),(11,af (j:Nat)),(12,BB (e7 (l.take (i+1)) (k:Nat))),(13,af (i+1:Nat))]) 0 rfl ⟨rfl,rfl,rfl,rfl,rfl,rfl,rfl,rfl,by rw [hhs];rfl,aE (by omega),trivial⟩ (qq5 _) rfl rfl⟩
    | false =>
     rw [hb,Bool.false_or] at hhs;refine qq1 ?_;repeat' first|refine u1 ?_|((with_reducible refine qq4 ?_);refine ⟨eT l,⟨by omega,hat⟩,rfl,?_⟩)|((with_reducible refine qq4 ?_);refine ⟨eI z,⟨by omega,hat2⟩,rfl,?_⟩)|refine u2 ?_|fail
     exact ⟨i+1,hil,(by dsimp only;omega),ah.to (l:=[(2,.sl (T.map eT) fT),(3,.pt (aI c) 0),(4,.pt [af (t:Int),af d,af aw] 0),(7,af (mo)),(8,BB (fb)),(9,af (k:Nat)),(10,af (x0)),(11,af (j:Nat)),(12,BB (e7 (l.take (i+1)) (k:Nat))),(13,af (i+1:Nat))]) 0 rfl ⟨rfl,rfl,rfl,rfl,rfl,rfl,rfl,rfl,by rw [hhs];rfl,aE (by omega),trivial⟩ (qq5 _) rfl rfl⟩
   ·have d3:decide ((i:Int) < ((ints l).length:Int))=false:=decide_eq_false (by omega);rw [List.take_of_length_le (by omega)]
    cases hb:e7 l (k:Nat) with
    | true =>
     rw [hb,if_pos rfl] at hst;refine qq1 ?_;repeat' first|refine u1 ?_|((with_reducible refine qq4 ?_);refine ⟨eT l,⟨by omega,hat⟩,rfl,?_⟩)|refine u2 ?_|fail
     exact ⟨j+1,hjt,(by dsimp only;omega),ah.to (l:=[(2,.sl (T.map eT) fT),(3,.pt (aI c) 0),(4,.pt [af (t:Int),af d,af aw] 0),(7,af (mo)),(8,BB (fb)),(9,af (k:Nat)),(10,af ((sZ w e (((j+1):Nat):Int) d (m6 T k (j+1):Nat)))),(11,af (j+1:Nat))]) 0 rfl ⟨rfl,rfl,rfl,rfl,rfl,rfl,aE (by rw [hx1];omega),aE (by omega),trivial⟩ (qq5 _) rfl rfl⟩
    | false =>
     rw [hb,if_neg (by simp)] at hst;refine qq1 ?_;repeat' first|refine u1 ?_|((with_reducible refine qq4 ?_);refine ⟨eT l,⟨by omega,hat⟩,rfl,?_⟩)|(refine ⟨[ST mn,af rk,af w,BB ms],⟨by omega,hmt⟩,rfl,?_⟩)|(refine ⟨[ST ra,af rb,af rc,af rd,af e],⟨by omega,hrt⟩,rfl,?_⟩)|refine u2 ?_|fail
     exact ⟨j+1,hjt,(by dsimp only;omega),ah.to (l:=[(2,.sl (T.map eT) fT),(3,.pt (aI c) 0),(4,.pt [af (t:Int),af d,af aw] 0),(7,af (mo)),(8,BB (fb)),(9,af (k:Nat)),(10,af ((sZ w e (((j+1):Nat):Int) d (m6 T k (j+1):Nat)))),(11,af (j+1:Nat))]) 0 rfl ⟨rfl,rfl,rfl,rfl,rfl,rfl,aE (by rw [hx1];omega),aE (by omega),trivial⟩ (qq5 _) rfl rfl⟩
  ·have d2:decide ((j:Int) < ((T.map eT).length:Int))=false:=decide_eq_false (by omega);have hjn:j=T.length:=by omega
   subst hjn;have hx:(sZ w e ((T.length:Nat):Int) d (m6 T k T.length:Nat))=aH L k:=by rw [hval,←hTp]
   rw [hx];have hz0:k=0→Js L (0+1)=aH L k:=fun h=>by subst h;rfl
   have hzs:∀ q,k=q+1→mo=Js L (q+1)→Js L (q+1+1)=max mo (aH L k):=fun q h h2=>by subst h;rw [h2];rfl
   generalize aH L k=z at *
   cases k with
   | zero =>
    have hfb:fb=true:=hfb;subst hfb;have hn:Js L (0+1)=z:=hz0 rfl;refine qq1 ?_;repeat' first|refine u1 ?_|refine u2 ?_|fail
    exact ⟨(0+1,z,false),⟨hlt,hn.symm,rfl⟩,(by dsimp only;omega),ah.to (l:=[(2,.sl (T.map eT) fT),(3,.pt (aI c) 0),(4,.pt [af (t:Int),af d,af aw] 0),(7,af (z)),(8,BB (false)),(9,af (0+1:Nat))]) 0 rfl ⟨rfl,rfl,rfl,rfl,rfl,rfl,trivial⟩ (qq5 _) rfl rfl⟩
   | succ k =>
    have hfb:fb=false:=hfb;subst hfb;have hn:Js L (k+1+1)=max mo z:=hzs k rfl hmo;by_cases hgt:mo < z
    ·have d4:decide (mo < z)=true:=decide_eq_true hgt;rw [Int.max_eq_right (by omega)] at hn;refine qq1 ?_;repeat' first|refine u1 ?_|refine u2 ?_|fail
     exact ⟨(k+1+1,z,false),⟨hlt,hn.symm,rfl⟩,(by dsimp only;omega),ah.to (l:=[(2,.sl (T.map eT) fT),(3,.pt (aI c) 0),(4,.pt [af (t:Int),af d,af aw] 0),(7,af (z)),(8,BB (false)),(9,af (k+1+1:Nat))]) 0 rfl ⟨rfl,rfl,rfl,rfl,rfl,aE (by omega),trivial⟩ (qq5 _) rfl rfl⟩
    ·have d4:decide (mo < z)=false:=decide_eq_false hgt;rw [Int.max_eq_left (by omega)] at hn;refine qq1 ?_;repeat' first|refine u1 ?_|refine u2 ?_|fail
     exact ⟨(k+1+1,mo,false),⟨hlt,hn.symm,rfl⟩,(by dsimp only;omega),ah.to (l:=[(2,.sl (T.map eT) fT),(3,.pt (aI c) 0),(4,.pt [af (t:Int),af d,af aw] 0),(7,af (mo)),(8,BB (false)),(9,af (k+1+1:Nat))]) 0 rfl ⟨rfl,rfl,rfl,rfl,rfl,aE (by omega),trivial⟩ (qq5 _) rfl rfl⟩
 ·have dl:decide ((k:Int) < ((c.aD.map aZ).length:Int))=false:=decide_eq_false (by omega);have hkn:k=c.aD.length:=by omega
  subst hkn;rw [←hmo];refine qq1 ?_;repeat' first|refine u1 ?_|refine u2 ?_|fail
  exact ⟨[_],⟨Fz.deep rfl,trivial⟩,rfl⟩
end Go.Proofs.YtlpmfgmldmdggaaGreat
open Go Go.RM
namespace Go.Proofs.YtlpmfgmldmdggaaGreat
set_option maxRecDepth 100000
set_option maxHeartbeats 4000000
end Go.Proofs.YtlpmfgmldmdggaaGreat
open Go Go.RM
namespace Go.Proofs.YtlpmfgmldmdggaaGreat
set_option maxRecDepth 100000
set_option maxHeartbeats 4000000
theorem Nt (B:List (List Int)) (l:List Int):cI (([]:List AV)++(B.map eL).flatten++[eL l].flatten)=true∧0+(0+(B.map eL).length+[eL l].length) * 1≤(([]:List AV)++(B.map eL).flatten++[eL l].flatten).length∧((B++[l]).map eL).length=0+(B.map eL).length+[eL l].length ∧
  (∀ el ∈ (B++[l]).map eL,el.length=1)∧((B++[l]).map eL).flatten=((([]:List AV)++(B.map eL).flatten++[eL l].flatten).drop 0).take ((0+(B.map eL).length+[eL l].length) * 1):=by
 have e:(([]:List AV)++(B.map eL).flatten++[eL l].flatten)=dH (B++[l]):=by rw [List.nil_append,gk];unfold dH;rw [List.map_append];rfl
 have en:0+(B.map eL).length+[eL l].length=(B++[l]).length:=by simp
 rw [e,en];have h:=zS (B++[l]);exact ⟨oc _,h.1,h.2.1,uQ _,h.2.2⟩
