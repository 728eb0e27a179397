/-
  Contracts of the program's functions and of the document's. Lemmas alone; their conditions stand in them.
-/
import Derived.Test.YtlpmfgmldmdggaaGreatK9
open Go Go.RM
namespace Go.Proofs.YtlpmfgmldmdggaaGreat
set_option maxRecDepth 100000
def GG:List Nat:=[0,1,3,7,15,31,23,11,27,19,5,13,29,21,9,25,17,2,6,14,30,22,10,26,18,4,12,28,20,8,24,16]
theorem Iw:GG.Pairwise fun a b=>cg (a:Nat)≤cg (b:Nat):=by decide
theorem CI:∀ a ∈ GG,a < 32:=by decide
theorem Dy:∀ a,a < 32→a ∈ GG:=by decide
theorem EB:GG.Nodup:=by decide
theorem zD:∀ a,a < 32→bL (fj a)=a:=by decide
theorem Ka:∀ a,a < 32→rC (fj a)=false:=by decide
theorem CJ:∀ a,a < 32→∀ x ∈ fj a,0≤x∧x < 5:=by decide
theorem Kc:∀ n:Nat,n < 6→∀ a,a < 32→a < 2 ^ n→fU 0 ((n:Int) - 1) (fj a)=false:=by decide
theorem Ke:∀ a,a < 32→∀ m,m < 5→gL (fj a) (m:Nat)=a.testBit m:=by decide
def wz (n:Nat) (w:Int):List Nat:=GG.filter fun a=>decide (a < 2 ^ n) && decide (((fj a).length:Int)≤w)
abbrev Bx (c:aP) (a:Nat):Bool:=zx (aI c 0 c.aA.length) (aI c 1 c.aA.length) (aI c 2 c.aA.length) a
abbrev gM (c:aP) (p:bW):List AV:=eV c p (aI c 0 c.aA.length) (aI c 1 c.aA.length) (aI c 2 c.aA.length)
def CK (c:aP) (w:Int) (a:Nat):Bool:=decide (((fj a).length:Int)≤w) && Bx c a
def eD (c:aP) (w:Int) (k:Nat):List Nat:=(List.range k).filter (CK c w)
def jn (c:aP) (w:Int):List Nat:=(wz c.aA.length w).filter (Bx c)
theorem zE {c:aP} (hg:Good c) {w:Int} {a:Nat}:a ∈ jn c w ↔ a < 2 ^ c.aA.length∧((fj a).length:Int)≤w∧Bx c a=true:=by unfold jn wz;rw [List.mem_filter,List.mem_filter,qq7,decide_eq_true_eq,decide_eq_true_eq];have h5:2 ^ c.aA.length≤2 ^ 5:=Nat.pow_le_pow_right (by decide) hg.aA.2;exact ⟨fun ⟨⟨_,h1,h2⟩,h3⟩=>⟨h1,h2,h3⟩,fun ⟨h1,h2,h3⟩=>⟨⟨Dy a (by omega),h1,h2⟩,h3⟩⟩
theorem sN {c:aP} (hg:Good c) {w:Int} {a:Nat} (h:a ∈ jn c w):a < 32:=by have h5:2 ^ c.aA.length≤2 ^ 5:=Nat.pow_le_pow_right (by decide) hg.aA.2;have:=((zE hg).1 h).1;omega
theorem set_perm {c:aP} (hg:Good c) (w:Int):(jn c w).Perm (eD c w (2 ^ c.aA.length)):=by refine (List.perm_ext_iff_of_nodup ((EB.filter _).filter _) (List.nodup_range.filter _)).2 fun a=>?_;refine (zE hg).trans ?_;unfold CK;rw [List.mem_filter,List.mem_range,qq7,decide_eq_true_eq]
theorem Iy (c:aP) (w:Int):(jn c w).Pairwise fun a b=>cg (a:Nat)≤cg (b:Nat):=(Iw.sublist List.filter_sublist).sublist List.filter_sublist
abbrev nI (l:List Nat):List Int:=l.map fun a=>((a:Nat):Int)
theorem Iz {rk:Int→Int} {S:List Int} {N:Nat} (hN:S.length=N) (h:Sd rk S 0 N):S.Pairwise fun a b=>rk a≤rk b:=by rw [List.pairwise_iff_getElem];intro p q hp hq h1;have:=h p q (qq5 _) (Nat.le_of_lt h1) (by omega);unfold aO at this;rw [List.getD_eq_getElem?_getD,List.getElem?_eq_getElem hp,List.getD_eq_getElem?_getD,List.getElem?_eq_getElem hq] at this;exact this
theorem GH {c:aP} (hg:Good c) {w:Int} {S:List Int} {N:Nat} (hN:S.length=N) (hp:S.Perm (nI (eD c w (2 ^ c.aA.length)))) (hs:Sd cg S 0 N):S=nI (jn c w):=by have hp2:S.Perm (nI (jn c w)):=hp.trans ((set_perm hg w).map _).symm;refine Gp (rk:=cg) (fun a ha b hb h=>?_) (Iz hN hs) (List.pairwise_map.2 (Iy c w)) hp2;obtain ⟨x,hx,rfl⟩:=List.mem_map.1 (hp2.mem_iff.1 ha);obtain ⟨y,hy,rfl⟩:=List.mem_map.1 (hp2.mem_iff.1 hb);rw [J2 x (sN hg hx) y (sN hg hy) h]
theorem Dz {c:aP} (hg:Good c) {p:bW} (hp:uz p):(jn c p.aF).length≤16:=by
 have h1:(jn c p.aF).length≤(wz c.aA.length p.aF).length:=List.length_filter_le _ _;have h2:∀ n,n < 6→(wz n 1).length≤16∧(wz n 2).length≤16:=by decide
 obtain ⟨q1,q2⟩:=h2 c.aA.length (by have:=hg.aA;omega);obtain e|e:p.aF=1∨p.aF=2:=by have:=hp.aF;omega
 ·rw [e] at h1 ⊢;omega
 ·rw [e] at h1 ⊢;omega
theorem Bz {c:aP} (hg:Good c) {p:bW} (hp:uz p):0 ∈ jn c p.aF:=by
 refine (zE hg).2 ⟨Nat.two_pow_pos _,?_,?_⟩
 ·have:=hp.aF;show ((0:Nat):Int)≤_;omega
 ·show Bx c 0=true;have h:=wo hg (l:=[]) (fun x hx=>by cases hx);show zx _ _ _ (bL [])=true;rw [h];unfold jG
  have:((List.range c.aB.length).any fun r=>kz c [] r)=false:=by
   rw [List.any_eq_false];intro r _;unfold kz oH;have h0:∀ L:List Nat,(L.countP fun m=>decide (gy c m=r) && gL [] (m:Nat))=0:=fun L=>List.countP_eq_zero.2 fun x _=>by simp [gL]
   rw [h0,qq7,decide_eq_true_eq,decide_eq_true_eq];omega
  rw [this];rfl
theorem zF {c:aP} (hg:Good c) {p:bW} {a b:Nat} (hb:b < 32) (ha:a ∈ wz c.aA.length p.aF):(ja c p.aF (fj b) (fj a)=0) ↔ (a &&& b=0∧Bx c a=true):=by
 have h5:2 ^ c.aA.length≤2 ^ 5:=Nat.pow_le_pow_right (by decide) hg.aA.2;unfold wz at ha;obtain ⟨h1,h2⟩:=List.mem_filter.1 ha;rw [qq7,decide_eq_true_eq,decide_eq_true_eq] at h2;have h32:=CI a h1;have hl:J9 c p (fj a):=⟨Kc _ (by have:=hg.aA;omega) a h32 h2.1,Ka a h32,h2.2⟩;rw [hl.err];have k1:=Bv (b:=fj b) (l:=fj a) (fun x hx=>(CJ b hb x hx).1) (fun x hx=>(CJ a h32 x hx).1);have k2:=wo hg (l:=fj a) (CJ a h32);rw [zD a h32,zD b hb] at k1;rw [zD a h32] at k2;unfold Es Er;rw [←k1];show _ ↔ _∧zx _ _ _ a=true;rw [k2];by_cases h:a &&& b=0
 ·rw [h];cases jG c (fj a) <;> simp
 ·have hd:(!decide (((a &&& b:Nat):Int)=0))=true:=by rw [decide_eq_false (by omega)];rfl
  rw [if_pos hd];exact ⟨fun h2=>absurd h2 (by decide),fun h2=>absurd h2.1 h⟩
end Go.Proofs.YtlpmfgmldmdggaaGreat
open Go Go.RM
namespace Go.Proofs.YtlpmfgmldmdggaaGreat
set_option maxRecDepth 100000
def dY (pre:List Nat):Nat:=pre.getLastD 0
def jo (S:List Nat):Nat→List Nat→List (List Nat)
 | 0,pre=>[pre]
 | k+1,pre=>S.flatMap fun s=>if dY pre &&& s=0 then jo S k (pre++[s]) else []
def mT (m:Nat) (t:List Nat):Nat:=t.countP fun s=>s.testBit m
def BA (c:aP) (p:bW) (t:List Nat):Nat→Int
 | 0=>En c p 0 (mT 0 t:Nat)
 | k+1=>max (BA c p t k) (En c p k (mT k t:Nat))
def lz (c:aP) (p:bW) (t:List Nat):Int:=BA c p t c.aA.length
def lW (t:List Nat):Prop:=∀ a ∈ t,a < 32
theorem lW.snoc {t:List Nat} {a:Nat} (h:lW t) (ha:a < 32):lW (t++[a]):=fun x hx=>by
 rcases List.mem_append.1 hx with hx|hx
 ·exact h x hx
 ·rw [List.mem_singleton.1 hx];exact ha
theorem uC {t:List Nat} (h:lW t):dY t < 32:=by
 unfold dY
 cases t with
 | nil=>decide
 | cons x t =>
  rw [List.getLastD_cons];rw [List.getLastD_eq_getLast?]
  cases hh:t.getLast? with
  | none=>exact h x (by simp)
  | some y=>exact h y (List.mem_cons_of_mem _ (List.mem_of_getLast? hh))
theorem ya (t:List Nat) (a:Nat):dY (t++[a])=a:=by unfold dY;rw [List.getLastD_eq_getLast?,List.getLast?_append];rfl
theorem IA {t:List Nat} (h:lW t) {m:Nat} (hm:m < 5):lA (t.map fj) m (t.map fj).length=mT m t:=by unfold lA mT;rw [List.take_length,List.countP_map];apply List.countP_congr;intro a ha;show gL (fj a) (m:Nat)=true ↔ _;rw [Ke a (h a ha) m hm]
theorem DA {c:aP} (hg:Good c) (p:bW) {t:List Nat} (h:lW t):Ii (pT c p (t.map fj) c.aA.length)=lz c p t:=by
 have hm:=hg.aA;have hat:∀ i,i < c.aA.length→aO (pT c p (t.map fj) c.aA.length) i=En c p i (mT i t:Nat):=fun i hi=>by unfold aO pT;rw [List.getD_eq_getElem?_getD,List.getElem?_map,List.getElem?_range hi];show En c p i (lA (t.map fj) i (t.map fj).length:Nat)=_;rw [IA h (by omega)]
 have key:∀ k,k < c.aA.length→Ht (pT c p (t.map fj) c.aA.length) k=BA c p t (k+1):=by
  intro k
  induction k with
  | zero =>intro h0;show aO _ 0=max _ _;rw [hat 0 h0];show _=max (En c p 0 _) _;rw [Int.max_self]
  | succ k ih =>intro h0;show max (Ht _ k) _=_;rw [ih (by omega),hat (k+1) h0];rfl
 unfold Ii lz;rw [mS,key _ (by omega)]
 congr 1
 omega
abbrev zO:=Option (List Nat × Int)
def wA:zO→List Nat × Int→zO
 | none,y=>some y
 | some x,y=>if y.2 < x.2 then some y else some x
def Jt (o:zO):zO→zO
 | none=>o
 | some y=>wA o y
theorem BC {x y:List Nat × Int} (h:y.2 < x.2):wA (some x) y=some y:=if_pos h
theorem BD {x y:List Nat × Int} (h:¬ y.2 < x.2):wA (some x) y=some x:=if_neg h
theorem IB:∀ z:zO,Jt none z=z
 | none=>rfl
 | some _=>rfl
theorem GI (o:zO) (x:List Nat × Int) (z:zO):Jt (wA o x) z=Jt o (Jt (some x) z):=by
 cases z with
 | none=>rfl
 | some y =>
  show wA (wA o x) y=Jt o (wA (some x) y)
  cases o with
  | none=>exact (IB _).symm
  | some w =>
   by_cases h1:x.2 < w.2
   ·rw [BC h1];by_cases h2:y.2 < x.2
    ·rw [BC h2];exact (BC (Int.lt_trans h2 h1)).symm
    ·rw [BD h2];exact (BC h1).symm
   ·rw [BD h1];by_cases h2:y.2 < x.2
    ·rw [BC h2];rfl
    ·rw [BD h2,BD (show ¬ y.2 < w.2 by omega)];exact (BD h1).symm
theorem zG:∀ (xs:List (List Nat × Int)) (o:zO),xs.foldl wA o=Jt o (xs.foldl wA none)
 | [],o=>rfl
 | x :: xs,o=>by rw [List.foldl_cons,List.foldl_cons,zG xs (wA o x),zG xs (wA none x)];exact GI o x _
def BE (c:aP) (p:bW):Nat→List Nat→zO
 | 0,pre=>some (pre,lz c p pre)
 | k+1,pre=>(wz c.aA.length p.aF).foldl (fun o a=>if ja c p.aF (fj (dY pre)) (fj a)=0 then Jt o (BE c p k (pre++[a])) else o) none
def CL (c:aP) (p:bW) (T:List (List Nat)):List (List Nat × Int):=T.map fun t=>(t,lz c p t)
theorem wB {c:aP} (hg:Good c) {p:bW} (hp:uz p):∀ (k:Nat) (pre:List Nat),lW pre→BE c p k pre=(CL c p (jo (jn c p.aF) k pre)).foldl wA none
 | 0,pre,_=>rfl
 | k+1,pre,h=>by
  have hl:=uC h
  have key:∀ (L:List Nat),(∀ a ∈ L,a ∈ wz c.aA.length p.aF)→∀ o:zO,L.foldl (fun o a=>if ja c p.aF (fj (dY pre)) (fj a)=0 then Jt o (BE c p k (pre++[a])) else o) o=(CL c p ((L.filter (Bx c)).flatMap fun s=>if dY pre &&& s=0 then jo (jn c p.aF) k (pre++[s]) else [])).foldl wA o:=by
   intro L
   induction L with
   | nil=>intro _ o;rfl
   | cons a L ih =>
    intro hL o;have ha:=hL a List.mem_cons_self;have ih:=ih fun x hx=>hL x (List.mem_cons_of_mem _ hx);have h32:a < 32:=CI a (List.mem_filter.1 ha).1;have hb:=zF hg (p:=p) hl ha;rw [List.foldl_cons,ih];by_cases hs:Bx c a=true
    ·rw [List.filter_cons,if_pos hs,List.flatMap_cons];unfold CL;rw [List.map_append,List.foldl_append];by_cases hm:a &&& dY pre=0
     ·rw [if_pos (hb.2 ⟨hm,hs⟩),if_pos (by rw [Nat.and_comm];exact hm),wB hg hp k _ (h.snoc h32)];rw [←zG];rfl
     ·rw [if_neg (fun h2=>hm (hb.1 h2).1),if_neg (by rw [Nat.and_comm];exact hm)];rfl
    ·rw [List.filter_cons,if_neg hs,if_neg (fun h2=>hs (hb.1 h2).2)]
  exact key _ (fun a h=>h) none
theorem zH {S:List Nat} (hS:lW S):∀ (k:Nat) (pre:List Nat),lW pre→∀ t ∈ jo S k pre,lW t∧t.length=pre.length+k
 | 0,pre,h,t,ht=>by rw [List.mem_singleton.1 ht];exact ⟨h,rfl⟩
 | k+1,pre,h,t,ht=>by
  obtain ⟨s,hs,ht⟩:=List.mem_flatMap.1 ht;split at ht
  ·obtain ⟨h1,h2⟩:=zH hS k _ (h.snoc (hS s hs)) t ht;rw [List.length_append,List.length_singleton] at h2;exact ⟨h1,by omega⟩
  ·cases ht
theorem GJ {S:List Nat} (h0:0 ∈ S):∀ (k:Nat) (pre:List Nat),jo S k pre ≠ []
 | 0,pre=>by simp [jo]
 | k+1,pre=>by obtain ⟨t,ht⟩:=List.exists_mem_of_ne_nil _ (GJ h0 k (pre++[0]));exact List.ne_nil_of_mem (List.mem_flatMap.2 ⟨0,h0,by rw [if_pos (Nat.and_zero _)];exact ht⟩)
theorem CM:∀ (xs:List (List Nat × Int)),xs ≠ []→∃ t n,xs.foldl wA none=some (t,n)∧(t,n) ∈ xs∧∀ y ∈ xs,n≤y.2:=by
 have key:∀ (xs:List (List Nat × Int)) (x:List Nat × Int),∃ t n,xs.foldl wA (some x)=some (t,n)∧(t,n) ∈ x :: xs∧∀ y ∈ x :: xs,n≤y.2:=by
  intro xs
  induction xs with
  | nil=>intro x;exact ⟨x.1,x.2,rfl,by simp,fun y hy=>by rw [List.mem_singleton.1 hy];exact Int.le_refl _⟩
  | cons y xs ih =>
   intro x;rw [List.foldl_cons];by_cases h:y.2 < x.2
   ·rw [show wA (some x) y=some y from if_pos h];obtain ⟨t,n,h1,h2,h3⟩:=ih y;refine ⟨t,n,h1,List.mem_cons_of_mem _ h2,fun z hz=>?_⟩
    rcases List.mem_cons.1 hz with rfl|hz
    ·have:=h3 y List.mem_cons_self;omega
    ·exact h3 z hz
   ·rw [show wA (some x) y=some x from if_neg h];obtain ⟨t,n,h1,h2,h3⟩:=ih x;refine ⟨t,n,h1,?_,fun z hz=>?_⟩
    ·rcases List.mem_cons.1 h2 with h2|h2
     ·rw [h2];exact List.mem_cons_self
     ·exact List.mem_cons_of_mem _ (List.mem_cons_of_mem _ h2)
    ·rcases List.mem_cons.1 hz with rfl|hz
     ·exact h3 _ List.mem_cons_self
     ·rcases List.mem_cons.1 hz with rfl|hz
      ·have:=h3 x List.mem_cons_self;omega
      ·exact h3 z (List.mem_cons_of_mem _ hz)
 intro xs hx
 cases xs with
 | nil=>exact absurd rfl hx
 | cons x xs=>exact key xs x
structure Ju (c:aP) (p:bW) (k:Nat) (pre t:List Nat) (n:Int):Prop where
 eq:BE c p k pre=some (t,n)
 mem:t ∈ jo (jn c p.aF) k pre
 val:n=lz c p t
 least:∀ u ∈ jo (jn c p.aF) k pre,n≤lz c p u
theorem wC {c:aP} (hg:Good c) {p:bW} (hp:uz p) (k:Nat) {pre:List Nat} (h:lW pre):∃ t n,Ju c p k pre t n:=by
 have hne:CL c p (jo (jn c p.aF) k pre) ≠ []:=by intro h2;exact GJ (Bz hg hp) k pre (List.map_eq_nil_iff.1 h2)
 obtain ⟨t,n,h1,h2,h3⟩:=CM _ hne;obtain ⟨u,h4,h5⟩:=List.mem_map.1 h2;obtain ⟨rfl,rfl⟩:=Prod.mk.inj h5;exact ⟨u,_,by rw [wB hg hp k pre h];exact h1,h4,rfl,fun v hv=>h3 _ (List.mem_map.2 ⟨v,hv,rfl⟩)⟩
end Go.Proofs.YtlpmfgmldmdggaaGreat
open Go Go.RM
namespace Go.Proofs.YtlpmfgmldmdggaaGreat
set_option maxRecDepth 100000
def sO (c:aP) (p:bW):List Nat × Int:=(BE c p p.turns.toNat []).getD ([],0)
def lX (c:aP) (p:bW):List (List Int):=(sO c p).1.map fj
def Kf (c:aP) (p:bW):AV:=if nQ c p=0 then .tp [.sl ((lX c p).map eL) false,af (sO c p).2,af 0] else .tp [.sl [] false,af 0,af (nQ c p)]
theorem oC {c:aP} (hg:Good c) {p:bW} (hp:uz p):Ju c p p.turns.toNat [] (sO c p).1 (sO c p).2:=by
 obtain ⟨t,n,h⟩:=wC hg hp p.turns.toNat (pre:=[]) (fun x hx=>by cases hx);have e:sO c p=(t,n):=by unfold sO;rw [h.eq];rfl
 rw [e];exact h
theorem zI {c:aP} (hg:Good c) {p:bW} (hp:uz p):lW (sO c p).1∧((sO c p).1.length:Int)=p.turns:=by obtain ⟨h1,h2⟩:=zH (S:=jn c p.aF) (fun a ha=>sN hg ha) p.turns.toNat [] (fun x hx=>by cases hx) _ (oC hg hp).mem;rw [List.length_nil,Nat.zero_add] at h2;have:=hp.turns;exact ⟨h1,by omega⟩
end Go.Proofs.YtlpmfgmldmdggaaGreat
open Go Go.RM
namespace Go.Proofs.YtlpmfgmldmdggaaGreat
set_option maxRecDepth 100000
set_option maxHeartbeats 4000000
def IC (l:List Int):Nat→Int
 | 0=>0
 | k+1=>Ht l k
theorem GK (w e d:Int) (j n:Int):uc w e (j+1) d (n+1)=uc w e j d n - 1000 * d:=by unfold uc;rw [show j+1 - (n+1)=j - n by omega,Int.add_mul,Int.add_mul];omega
theorem GM (w e d:Int) (j n:Int):uc w e (j+1) d n=uc w e j d n+e * d:=by unfold uc;rw [show j+1 - n=(j - n)+1 by omega,Int.add_mul,Int.add_mul,Int.one_mul];omega
theorem GN (one:Bool) (c:aP) (hg:Good c) (p:bW) (hp:uz p) (T:List (List Int)) (fT:Bool) (hT:Bt T) (hTp:(T.length:Int)=p.turns):Pu one 47 [.ag (aD c),.ag (bX p),.sl (T.map eT) fT] (af (Ii (pT c p T c.aA.length))):=by
 have em:((c.aA.map bS).length:Int)=c.aA.length:=by simp
 have eT':((T.map eT).length:Int)=T.length:=by simp
 have hm5:=hg.aA;have hrk:=fun k (hk:k < c.aA.length)=>rz hg (k:=k) hk;have hat0:∀ i,i < c.aA.length→aO (pT c p T c.aA.length) i=En c p i (lA T i T.length:Nat):=fun i hi=>by unfold aO pT;rw [List.getD_eq_getElem?_getD,List.getElem?_map,List.getElem?_range hi];rfl
 have hmx:Ii (pT c p T c.aA.length)=IC (pT c p T c.aA.length) c.aA.length:=by unfold Ii;rw [mS];obtain ⟨q,hq⟩:∃ q,c.aA.length=q+1:=⟨c.aA.length - 1,by omega⟩;rw [hq];rfl
 rw [hmx]
 generalize hL:pT c p T c.aA.length=L at *
 obtain ⟨t,d,aw⟩:=p;obtain ⟨p1,p2,p3⟩:=hp;dsimp only at hTp p1 p2 p3;unfold En at hat0;dsimp only at hat0;show Pu one 47 [.ag (aD c),.ag [af t,af d,af aw],.sl (T.map eT) fT] _;refine ah.body (fn:=Tryz.f47) rfl rfl rfl rfl ?_;refine qq1 ?_;repeat' first|refine u1 ?_|refine u2 ?_|fail
 refine ay.aN (ak.to (l:=[(2,.sl (T.map eT) fT),(3,.pt (aD c) 0),(4,.pt [af (t:Int),af d,af aw] 0),(7,af (IC L 0)),(8,BB (true)),(9,af (0:Nat))]) (hp:=[]) 0 rfl ⟨rfl,rfl,rfl,rfl,rfl,rfl,trivial⟩ (qq5 _) rfl rfl) ?_;refine ay.loop (fun x:Nat × Int × Bool=>x.1≤c.aA.length∧x.2.1=IC L x.1∧x.2.2=decide (x.1=0)) (fun x=>⟨aT [(2,.sl (T.map eT) fT),(3,.pt (aD c) 0),(4,.pt [af (t:Int),af d,af aw] 0),(7,af (x.2.1)),(8,BB (x.2.2)),(9,af (x.1:Nat))],[],bJ.none,false,0⟩) (fun x=>c.aA.length - x.1) ?_ (0,IC L 0,true) ⟨qq5 _,rfl,rfl⟩;rintro ⟨k,mo,fb⟩ ⟨hk,hmo,hfb⟩;dsimp only at hk hmo hfb;show ay _ _ _ _ ⟨aT [(2,.sl (T.map eT) fT),(3,.pt (aD c) 0),(4,.pt [af (t:Int),af d,af aw] 0),(7,af (mo)),(8,BB (fb)),(9,af (k:Nat))],[],bJ.none,false,0⟩ _;by_cases hlt:k < c.aA.length
 ·have dl:decide ((k:Int) < ((c.aA.map bS).length:Int))=true:=decide_eq_true (by omega);obtain ⟨mn,rk,w,ms,ra,rb,rc,rd,e,hmt,hrt,hrk,hb1,hb2,h01,h02,_⟩:=hrk k hlt;have hval:=hat0 k hlt;rw [h01,h02] at hval;refine qq1 ?_;repeat' first|refine u1 ?_|(refine ⟨[ST mn,af rk,af w,BB ms],⟨by omega,hmt⟩,rfl,?_⟩)|refine u2 ?_|fail
  refine ay.aN (ak.to (l:=[(2,.sl (T.map eT) fT),(3,.pt (aD c) 0),(4,.pt [af (t:Int),af d,af aw] 0),(7,af (mo)),(8,BB (fb)),(9,af (k:Nat)),(10,af ((uc w e ((0:Nat):Int) d (lA T k 0:Nat)))),(11,af (0:Nat))]) (hp:=[]) 0 rfl ⟨rfl,rfl,rfl,rfl,rfl,rfl,aH (by unfold uc lA;simp),rfl,trivial⟩ (qq5 _) rfl rfl) ?_;refine ay.loop (fun j:Nat=>j≤T.length) (fun j=>⟨aT [(2,.sl (T.map eT) fT),(3,.pt (aD c) 0),(4,.pt [af (t:Int),af d,af aw] 0),(7,af (mo)),(8,BB (fb)),(9,af (k:Nat)),(10,af ((uc w e ((j:Nat):Int) d (lA T k j:Nat)))),(11,af (j:Nat))],[],bJ.none,false,0⟩) (fun j=>T.length - j) ?_ 0 (qq5 _);intro j hj;have hcb:=CA T k j;have hbb:=Ig (w:=w) (e:=e) (t:=t) (d:=d) (n:=(lA T k j:Nat)) hb1 p1 p2 (by omega);by_cases hjt:j < T.length
  ·have d2:decide ((j:Int) < ((T.map eT).length:Int))=true:=decide_eq_true (by omega);have hat:(T.map eT)[((j:Nat):Int).toNat]?=some (eT T[j]):=dm hjt;have hcs:=Bu (m:=k) hjt;have hln:=hT.each _ (List.getElem_mem hjt);simp only [maxLen] at hln
   generalize T[j]=l at *
   have el:((ints l).length:Int)=l.length:=by simp
   have hm1:0≤1000 * d∧1000 * d≤60000:=by omega
   have hm2:=Dk (dd:=d) (e:=e) (by omega) hb1;rw [Int.mul_comm] at hm2;have q1:=Ig (w:=w) (e:=e) (t:=4) (d:=d) (n:=4 - ((j:Int) - (lA T k j:Nat))) hb1 (by omega) p2 (by omega);have q2:=Ig (w:=w) (e:=e) (t:=4) (d:=d) (n:=(lA T k j:Nat)) hb1 (by omega) p2 (by omega);have e4:(4:Int) - (4 - ((j:Int) - (lA T k j:Nat)))=(j:Int) - (lA T k j:Nat):=by omega
   rw [e4] at q1;have hdef:(uc w e ((j:Nat):Int) d (lA T k j:Nat))=w+((j:Int) - (lA T k j:Nat)) * e * d - (lA T k j:Nat) * 1000 * d:=rfl;have hXb:-400000≤(uc w e ((j:Nat):Int) d (lA T k j:Nat))∧(uc w e ((j:Nat):Int) d (lA T k j:Nat))≤400000:=by rw [hdef];omega
   have hst:(uc w e (((j+1):Nat):Int) d (lA T k (j+1):Nat))=if gL l (k:Nat)=true then (uc w e ((j:Nat):Int) d (lA T k j:Nat)) - 1000 * d else (uc w e ((j:Nat):Int) d (lA T k j:Nat))+e * d:=by
    rw [hcs,show (((j+1:Nat):Int))=(j:Int)+1 by omega];by_cases hh:gL l (k:Nat)=true
    ·rw [if_pos hh,if_pos hh,Int.natCast_add];exact GK w e d j _
    ·rw [if_neg hh,if_neg hh,Nat.add_zero];exact GM w e d j _
   generalize hx1:(uc w e (((j+1):Nat):Int) d (lA T k (j+1):Nat))=x1 at *
   generalize (uc w e ((j:Nat):Int) d (lA T k j:Nat))=x0 at *
   clear q1 q2 hdef hbb;refine qq1 ?_;repeat' first|refine u1 ?_|refine u2 ?_|fail
   refine ay.aN (ak.to (l:=[(2,.sl (T.map eT) fT),(3,.pt (aD c) 0),(4,.pt [af (t:Int),af d,af aw] 0),(7,af (mo)),(8,BB (fb)),(9,af (k:Nat)),(10,af (x0)),(11,af (j:Nat)),(12,BB (gL (l.take 0) (k:Nat))),(13,af (0:Nat))]) (hp:=[]) 0 rfl ⟨rfl,rfl,rfl,rfl,rfl,rfl,rfl,rfl,rfl,rfl,trivial⟩ (qq5 _) rfl rfl) ?_;refine ay.loop (fun i:Nat=>i≤l.length) (fun i=>⟨aT [(2,.sl (T.map eT) fT),(3,.pt (aD c) 0),(4,.pt [af (t:Int),af d,af aw] 0),(7,af (mo)),(8,BB (fb)),(9,af (k:Nat)),(10,af (x0)),(11,af (j:Nat)),(12,BB (gL (l.take i) (k:Nat))),(13,af (i:Nat))],[],bJ.none,false,0⟩) (fun i=>l.length - i) ?_ 0 (qq5 _);intro i hi;by_cases hil:i < l.length
   ·have d3:decide ((i:Int) < ((ints l).length:Int))=true:=decide_eq_true (by omega);have hat2:(ints l)[((i:Nat):Int).toNat]?=some (eI l[i]):=dm hil;have hhs:=ry (l:=l) (k:=i) (List.getElem?_eq_getElem hil) (k:Nat)
    generalize l[i]=z at *
    cases hb:gL (l.take i) (k:Nat) with
    | true =>
     rw [hb,Bool.true_or] at hhs;refine qq1 ?_;repeat' first|refine u1 ?_|((with_reducible refine qq4 ?_);refine ⟨eT l,⟨by omega,hat⟩,rfl,?_⟩)|refine u2 ?_|fail
     exact ⟨i+1,hil,(by dsimp only;omega),ak.to (l:=[(2,.sl (T.map eT) fT),(3,.pt (aD c) 0),(4,.pt [af (t:Int),af d,af aw] 0),(7,af (mo)),(8,BB (fb)),(9,af (k:Nat)),(10,af (x0)),(11,af (j:Nat)),(12,BB (gL (l.take (i+1)) (k:Nat))),(13,af (i+1:Nat))]) 0 rfl ⟨rfl,rfl,rfl,rfl,rfl,rfl,rfl,rfl,by rw [hhs];rfl,aH (by omega),trivial⟩ (qq5 _) rfl rfl⟩
    | false =>
     rw [hb,Bool.false_or] at hhs;refine qq1 ?_;repeat' first|refine u1 ?_|((with_reducible refine qq4 ?_);refine ⟨eT l,⟨by omega,hat⟩,rfl,?_⟩)|((with_reducible refine qq4 ?_);refine ⟨eI z,⟨by omega,hat2⟩,rfl,?_⟩)|refine u2 ?_|fail
     exact ⟨i+1,hil,(by dsimp only;omega),ak.to (l:=[(2,.sl (T.map eT) fT),(3,.pt (aD c) 0),(4,.pt [af (t:Int),af d,af aw] 0),(7,af (mo)),(8,BB (fb)),(9,af (k:Nat)),(10,af (x0)),(11,af (j:Nat)),(12,BB (gL (l.take (i+1)) (k:Nat))),(13,af (i+1:Nat))]) 0 rfl ⟨rfl,rfl,rfl,rfl,rfl,rfl,rfl,rfl,by rw [hhs];rfl,aH (by omega),trivial⟩ (qq5 _) rfl rfl⟩
   ·have d3:decide ((i:Int) < ((ints l).length:Int))=false:=decide_eq_false (by omega);rw [List.take_of_length_le (by omega)]
    cases hb:gL l (k:Nat) with
    | true =>
     rw [hb,if_pos rfl] at hst;refine qq1 ?_;repeat' first|refine u1 ?_|((with_reducible refine qq4 ?_);refine ⟨eT l,⟨by omega,hat⟩,rfl,?_⟩)|refine u2 ?_|fail
     exact ⟨j+1,hjt,(by dsimp only;omega),ak.to (l:=[(2,.sl (T.map eT) fT),(3,.pt (aD c) 0),(4,.pt [af (t:Int),af d,af aw] 0),(7,af (mo)),(8,BB (fb)),(9,af (k:Nat)),(10,af ((uc w e (((j+1):Nat):Int) d (lA T k (j+1):Nat)))),(11,af (j+1:Nat))]) 0 rfl ⟨rfl,rfl,rfl,rfl,rfl,rfl,aH (by rw [hx1];omega),aH (by omega),trivial⟩ (qq5 _) rfl rfl⟩
    | false =>
     rw [hb,if_neg (by simp)] at hst;refine qq1 ?_;repeat' first|refine u1 ?_|((with_reducible refine qq4 ?_);refine ⟨eT l,⟨by omega,hat⟩,rfl,?_⟩)|(refine ⟨[ST mn,af rk,af w,BB ms],⟨by omega,hmt⟩,rfl,?_⟩)|(refine ⟨[ST ra,af rb,af rc,af rd,af e],⟨by omega,hrt⟩,rfl,?_⟩)|refine u2 ?_|fail
     exact ⟨j+1,hjt,(by dsimp only;omega),ak.to (l:=[(2,.sl (T.map eT) fT),(3,.pt (aD c) 0),(4,.pt [af (t:Int),af d,af aw] 0),(7,af (mo)),(8,BB (fb)),(9,af (k:Nat)),(10,af ((uc w e (((j+1):Nat):Int) d (lA T k (j+1):Nat)))),(11,af (j+1:Nat))]) 0 rfl ⟨rfl,rfl,rfl,rfl,rfl,rfl,aH (by rw [hx1];omega),aH (by omega),trivial⟩ (qq5 _) rfl rfl⟩
  ·have d2:decide ((j:Int) < ((T.map eT).length:Int))=false:=decide_eq_false (by omega);have hjn:j=T.length:=by omega
   subst hjn;have hx:(uc w e ((T.length:Nat):Int) d (lA T k T.length:Nat))=aO L k:=by rw [hval,←hTp]
   rw [hx];have hz0:k=0→IC L (0+1)=aO L k:=fun h=>by subst h;rfl
   have hzs:∀ q,k=q+1→mo=IC L (q+1)→IC L (q+1+1)=max mo (aO L k):=fun q h h2=>by subst h;rw [h2];rfl
   generalize aO L k=z at *
   cases k with
   | zero =>
    have hfb:fb=true:=hfb;subst hfb;have hn:IC L (0+1)=z:=hz0 rfl;refine qq1 ?_;repeat' first|refine u1 ?_|refine u2 ?_|fail
    exact ⟨(0+1,z,false),⟨hlt,hn.symm,rfl⟩,(by dsimp only;omega),ak.to (l:=[(2,.sl (T.map eT) fT),(3,.pt (aD c) 0),(4,.pt [af (t:Int),af d,af aw] 0),(7,af (z)),(8,BB (false)),(9,af (0+1:Nat))]) 0 rfl ⟨rfl,rfl,rfl,rfl,rfl,rfl,trivial⟩ (qq5 _) rfl rfl⟩
   | succ k =>
    have hfb:fb=false:=hfb;subst hfb;have hn:IC L (k+1+1)=max mo z:=hzs k rfl hmo;by_cases hgt:mo < z
    ·have d4:decide (mo < z)=true:=decide_eq_true hgt;rw [Int.max_eq_right (by omega)] at hn;refine qq1 ?_;repeat' first|refine u1 ?_|refine u2 ?_|fail
     exact ⟨(k+1+1,z,false),⟨hlt,hn.symm,rfl⟩,(by dsimp only;omega),ak.to (l:=[(2,.sl (T.map eT) fT),(3,.pt (aD c) 0),(4,.pt [af (t:Int),af d,af aw] 0),(7,af (z)),(8,BB (false)),(9,af (k+1+1:Nat))]) 0 rfl ⟨rfl,rfl,rfl,rfl,rfl,aH (by omega),trivial⟩ (qq5 _) rfl rfl⟩
    ·have d4:decide (mo < z)=false:=decide_eq_false hgt;rw [Int.max_eq_left (by omega)] at hn;refine qq1 ?_;repeat' first|refine u1 ?_|refine u2 ?_|fail
     exact ⟨(k+1+1,mo,false),⟨hlt,hn.symm,rfl⟩,(by dsimp only;omega),ak.to (l:=[(2,.sl (T.map eT) fT),(3,.pt (aD c) 0),(4,.pt [af (t:Int),af d,af aw] 0),(7,af (mo)),(8,BB (false)),(9,af (k+1+1:Nat))]) 0 rfl ⟨rfl,rfl,rfl,rfl,rfl,aH (by omega),trivial⟩ (qq5 _) rfl rfl⟩
 ·have dl:decide ((k:Int) < ((c.aA.map bS).length:Int))=false:=decide_eq_false (by omega);have hkn:k=c.aA.length:=by omega
  subst hkn;rw [←hmo];refine qq1 ?_;repeat' first|refine u1 ?_|refine u2 ?_|fail
  exact ⟨[_],⟨Fz.deep rfl,trivial⟩,rfl⟩
end Go.Proofs.YtlpmfgmldmdggaaGreat
open Go Go.RM
namespace Go.Proofs.YtlpmfgmldmdggaaGreat
set_option maxRecDepth 100000
set_option maxHeartbeats 4000000
end Go.Proofs.YtlpmfgmldmdggaaGreat
open Go Go.RM
namespace Go.Proofs.YtlpmfgmldmdggaaGreat
set_option maxRecDepth 100000
set_option maxHeartbeats 4000000
theorem Mb (B:List (List Int)) (l:List Int):cV (([]:List AV)++(B.map eL).flatten++[eL l].flatten)=true∧0+(0+(B.map eL).length+[eL l].length) * 1≤(([]:List AV)++(B.map eL).flatten++[eL l].flatten).length∧((B++[l]).map eL).length=0+(B.map eL).length+[eL l].length ∧
  (∀ el ∈ (B++[l]).map eL,el.length=1)∧((B++[l]).map eL).flatten=((([]:List AV)++(B.map eL).flatten++[eL l].flatten).drop 0).take ((0+(B.map eL).length+[eL l].length) * 1):=by
 have e:(([]:List AV)++(B.map eL).flatten++[eL l].flatten)=dK (B++[l]):=by rw [List.nil_append,fZ];unfold dK;rw [List.map_append];rfl
 have en:0+(B.map eL).length+[eL l].length=(B++[l]).length:=by simp
 rw [e,en];have h:=zA (B++[l]);exact ⟨nR _,h.1,h.2.1,uA _,h.2.2⟩
