/-
  Contracts of the program's functions and of the document's. Lemmas alone; their conditions stand in them.
-/
import Derived.Test.YtlpmfgmldmdggaaGreatK9
open Go Go.RM
namespace Go.Proofs.YtlpmfgmldmdggaaGreat
set_option maxRecDepth 100000
set_option maxHeartbeats 4000000
def Hz (f:Nat→Int) (x:Int):Nat→Nat→Nat
 | 0,k=>k
 | n+1,k=>if x < f k then Hz f x n (k+1) else k
theorem HA (f:Nat→Int) (x:Int):∀ n k,Hz f x n k≤k+n
 | 0,k=>qq6 _
 | n+1,k=>by
  unfold Hz;split
  ·have:=HA f x n (k+1);omega
  ·omega
theorem HB {f:Nat→Int} {x:Int} {t k:Nat} (hk:k≤t) (h:x < f k):Hz f x (t+1 - (k+1)) (k+1)=Hz f x (t+1 - k) k:=by rw [show t+1 - k=(t+1 - (k+1))+1 by omega];show _=if x < f k then _ else _;rw [if_pos h]
theorem BU {f:Nat→Int} {x:Int} {t k:Nat} (hk:k≤t) (h:¬x < f k):Hz f x (t+1 - k) k=k:=by rw [show t+1 - k=(t+1 - (k+1))+1 by omega];show (if x < f k then _ else _)=_;rw [if_neg h]
theorem DQ {f:Nat→Int} {x:Int} {t k:Nat} (hk:¬k≤t):Hz f x (t+1 - k) k=k:=by rw [show t+1 - k=0 by omega];rfl
def i6 (c:aS) (p:dm) (x:Int) (i:Nat):Nat:=Hz (fun k=>ct c p i (k:Int)) x (p.turns.toNat+1) 0
theorem K6 (c:aS) (p:dm) (x:Int) (i:Nat):i6 c p x i≤p.turns.toNat+1:=by have:=HA (fun k=>ct c p i (k:Int)) x (p.turns.toNat+1) 0;unfold i6;omega
def e9 (g:Nat→Nat):Nat→Nat
 | 0=>0
 | k+1=>e9 g k+g k
theorem tj (g:Nat→Nat) {i:Nat}:∀ {n},i≤n→e9 g i≤e9 g n
 | 0,h=>by rw [Nat.le_zero.1 h];exact qq6 _
 | n+1,h=>by
  by_cases e:i=n+1
  ·rw [e];exact qq6 _
  ·have:=tj g (i:=i) (n:=n) (by omega);show _≤e9 g n+g n;omega
def HC (c:aS) (p:dm) (x:Int):Nat→Bool
 | 0=>true
 | k+1=>HC c p x k && !decide ((p.turns+1) / 2 < (i6 c p x k:Int))
theorem oS (c:aS) (p:dm) (x:Int) {i:Nat} (h:HC c p x i=false):∀ {n},i≤n→HC c p x n=false
 | 0,hi=>by rw [Nat.le_zero.1 hi] at h;exact h
 | n+1,hi=>by
  by_cases e:i=n+1
  ·rw [←e];exact h
  ·have:=oS c p x h (n:=n) (by omega);show (HC c p x n && _)=false;rw [this];rfl
def jn (c:aS) (p:dm) (x:Int):Bool:=HC c p x c.aH.length && decide ((e9 (i6 c p x) c.aH.length:Int)≤p.turns * p.aN)
theorem JA (one:Bool) (c:aS) (hg:Good c) (p:dm) (hp:wM p) (m0 m1 m2:Nat) (x:Int):ak TT TB one (.fn 89 [.ag (tc c p m0 m1 m2)] []) [af x] (BB (jn c p x)):=by
 have hb:=fun i hi n hn=>wN one c hg p hp m0 m1 m2 i hi n hn;have em:((c.aH.map bq).length:Int)=c.aH.length:=by simp
 have hm5:c.aH.length≤5:=hg.aH.2;obtain ⟨t,d,aw⟩:=p;obtain ⟨p1,p2,p3⟩:=hp
 dsimp only at *
 obtain ⟨tn,htn⟩:∃ tn:Nat,t=tn:=⟨t.toNat,by omega⟩
 have hmul:0≤t * aw∧t * aw≤8:=by
  obtain rfl|rfl:aw=1∨aw=2:=by omega
  ·omega
  ·omega
 show ak TT TB one (.fn 89 [.ag [.sl (c.aE.map aX) false,.sl (c.aH.map bq) false,af c.least,af t,af d,af aw,af (m0:Nat),af (m1:Nat),af (m2:Nat)]] []) [af x] _;refine ak.body (fn:=Tryz.f89) rfl rfl rfl rfl ?_;refine qq1 ?_;repeat' first|refine u1 ?_|refine u2 ?_|fail
 refine aB.aP (ah.to (l:=[(1,af x),(2,.pt [.sl (c.aE.map aX) false,.sl (c.aH.map bq) false,af c.least,af t,af d,af aw,af (m0:Nat),af (m1:Nat),af (m2:Nat)] 0),(18,af (c.aH.length:Int)),(5,af (t * aw - (e9 (i6 c ⟨t,d,aw⟩ x) 0:Nat))),(19,af (0:Nat))]) (hp:=[]) 0 rfl ⟨rfl,rfl,aD em,aD (show t * aw=t * aw - ((0:Nat):Int) by simp),rfl,trivial⟩ (qq6 _) rfl rfl) ?_;refine aB.loop (fun i:Nat=>i≤c.aH.length∧HC c ⟨t,d,aw⟩ x i=true∧(e9 (i6 c ⟨t,d,aw⟩ x) i:Int)≤t * aw) (fun i=>⟨aL [(1,af x),(2,.pt [.sl (c.aE.map aX) false,.sl (c.aH.map bq) false,af c.least,af t,af d,af aw,af (m0:Nat),af (m1:Nat),af (m2:Nat)] 0),(18,af (c.aH.length:Int)),(5,af (t * aw - (e9 (i6 c ⟨t,d,aw⟩ x) i:Nat))),(19,af (i:Nat))],[],bp.none,false,0⟩) (fun i=>c.aH.length - i) ?_ 0 ⟨qq5 _,rfl,hmul.1⟩;rintro i ⟨hi,hok,hsu⟩;by_cases hlt:i < c.aH.length
 ·have dl:decide ((i:Int) < (c.aH.length:Int))=true:=decide_eq_true (by omega);refine qq1 ?_;repeat' first|refine u1 ?_|refine u2 ?_|fail
  refine aB.aP (ah.to (l:=[(1,af x),(2,.pt [.sl (c.aE.map aX) false,.sl (c.aH.map bq) false,af c.least,af t,af d,af aw,af (m0:Nat),af (m1:Nat),af (m2:Nat)] 0),(18,af (c.aH.length:Int)),(5,af (t * aw - (e9 (i6 c ⟨t,d,aw⟩ x) i:Nat))),(19,af (i:Nat)),(6,af (i:Nat)),(7,af (0:Nat))]) (hp:=[]) 0 rfl ⟨rfl,rfl,rfl,rfl,rfl,rfl,rfl,trivial⟩ (qq5 _) rfl rfl) ?_;refine aB.loop (fun k:Nat=>k≤tn+1∧Hz (fun k=>ct c ⟨t,d,aw⟩ i (k:Int)) x (tn+1 - k) k=i6 c ⟨t,d,aw⟩ x i) (fun k=>⟨aL [(1,af x),(2,.pt [.sl (c.aE.map aX) false,.sl (c.aH.map bq) false,af c.least,af t,af d,af aw,af (m0:Nat),af (m1:Nat),af (m2:Nat)] 0),(18,af (c.aH.length:Int)),(5,af (t * aw - (e9 (i6 c ⟨t,d,aw⟩ x) i:Nat))),(19,af (i:Nat)),(6,af (i:Nat)),(7,af (k:Nat))],[],bp.none,false,0⟩) (fun k=>tn+1 - k) ?_ 0 ⟨qq5 _,by unfold i6;rw [Nat.sub_zero,show (⟨t,d,aw⟩:dm).turns.toNat=tn by show t.toNat=tn;omega]⟩;rintro k ⟨hk,hnd⟩;by_cases hkt:k≤tn
  ·have d1:decide ((k:Int)≤t)=true:=decide_eq_true (by omega);have o1:=hb i hlt k (by omega);change Pu one 80 [.ag [.sl (c.aE.map aX) false,.sl (c.aH.map bq) false,af c.least,af t,af d,af aw,af (m0:Nat),af (m1:Nat),af (m2:Nat)],af (i:Int),af (k:Int)] _ at o1;by_cases hx:x < ct c ⟨t,d,aw⟩ i (k:Int)
   ·have d2:decide (x < ct c ⟨t,d,aw⟩ i (k:Int))=true:=decide_eq_true hx;refine qq1 ?_;repeat' first|refine u1 ?_|((with_reducible refine qq3 ?_);refine ak.call o1 rfl rfl ?_)|refine u2 ?_|fail
    exact ⟨k+1,⟨by omega,by rw [←hnd];exact HB hkt hx⟩,(by dsimp only;omega),ah.to 0 rfl ⟨rfl,rfl,rfl,rfl,rfl,rfl,aD (by simp),trivial⟩ (qq5 _) rfl rfl⟩
   ·have d2:decide (x < ct c ⟨t,d,aw⟩ i (k:Int))=false:=decide_eq_false hx;rw [BU hkt hx] at hnd
    replace hnd:=hnd.symm
    by_cases hbig:(t+1) / 2 < (k:Int)
    ·have d3:decide ((t+1) / 2 < (k:Int))=true:=decide_eq_true hbig;have hz:jn c ⟨t,d,aw⟩ x=false:=by unfold jn;rw [oS c ⟨t,d,aw⟩ x (i:=i+1) (by show (_ && !decide ((t+1) / 2 < (i6 c ⟨t,d,aw⟩ x i:Int)))=false;rw [hnd,d3,Bool.not_true,Bool.and_false]) (by omega)];rfl
     rw [hz];refine qq1 ?_;repeat' first|refine u1 ?_|((with_reducible refine qq3 ?_);refine ak.call o1 rfl rfl ?_)|refine u2 ?_|fail
     exact ⟨[_],⟨Fz.deep rfl,trivial⟩,rfl⟩
    ·have d3:decide ((t+1) / 2 < (k:Int))=false:=decide_eq_false hbig;by_cases hneg:t * aw - (e9 (i6 c ⟨t,d,aw⟩ x) i:Nat) - (k:Int) < 0
     ·have d4:decide (t * aw - (e9 (i6 c ⟨t,d,aw⟩ x) i:Nat) - (k:Int) < 0)=true:=decide_eq_true hneg;have hz:jn c ⟨t,d,aw⟩ x=false:=by have hm:=tj (i6 c ⟨t,d,aw⟩ x) (i:=i+1) (n:=c.aH.length) (by omega);unfold jn;rw [decide_eq_false (p:=(e9 (i6 c ⟨t,d,aw⟩ x) c.aH.length:Int)≤(⟨t,d,aw⟩:dm).turns * (⟨t,d,aw⟩:dm).aN) (by show ¬_≤t * aw;rw [show e9 (i6 c ⟨t,d,aw⟩ x) (i+1)=e9 (i6 c ⟨t,d,aw⟩ x) i+k from by rw [←hnd];rfl] at hm;omega),Bool.and_false]
      rw [hz];refine qq1 ?_;repeat' first|refine u1 ?_|((with_reducible refine qq3 ?_);refine ak.call o1 rfl rfl ?_)|refine u2 ?_|fail
      exact ⟨[_],⟨Fz.deep rfl,trivial⟩,rfl⟩
     ·have d4:decide (t * aw - (e9 (i6 c ⟨t,d,aw⟩ x) i:Nat) - (k:Int) < 0)=false:=decide_eq_false hneg;have hs:e9 (i6 c ⟨t,d,aw⟩ x) (i+1)=e9 (i6 c ⟨t,d,aw⟩ x) i+k:=by rw [←hnd];rfl
      refine qq1 ?_;repeat' first|refine u1 ?_|((with_reducible refine qq3 ?_);refine ak.call o1 rfl rfl ?_)|refine u2 ?_|fail
      exact ⟨i+1,⟨by omega,by show (_ && !decide ((t+1) / 2 < (i6 c ⟨t,d,aw⟩ x i:Int)))=true;rw [hnd,d3,hok];rfl,by rw [hs];omega⟩,(by dsimp only;omega),ah.to (l:=[(1,af x),(2,.pt [.sl (c.aE.map aX) false,.sl (c.aH.map bq) false,af c.least,af t,af d,af aw,af (m0:Nat),af (m1:Nat),af (m2:Nat)] 0),(18,af (c.aH.length:Int)),(5,af (t * aw - (e9 (i6 c ⟨t,d,aw⟩ x) (i+1):Nat))),(19,af (i+1:Nat))]) 0 rfl ⟨rfl,rfl,rfl,aD (by rw [hs];omega),aD (by simp),trivial⟩ (qq5 _) rfl rfl⟩
  ·have d1:decide ((k:Int)≤t)=false:=decide_eq_false (by omega);rw [DQ hkt] at hnd
   replace hnd:=hnd.symm
   by_cases hbig:(t+1) / 2 < (k:Int)
   ·have d3:decide ((t+1) / 2 < (k:Int))=true:=decide_eq_true hbig;have hz:jn c ⟨t,d,aw⟩ x=false:=by unfold jn;rw [oS c ⟨t,d,aw⟩ x (i:=i+1) (by show (_ && !decide ((t+1) / 2 < (i6 c ⟨t,d,aw⟩ x i:Int)))=false;rw [hnd,d3,Bool.not_true,Bool.and_false]) (by omega)];rfl
    rw [hz];refine qq1 ?_;repeat' first|refine u1 ?_|(refine fun h=>h)|refine u2 ?_|fail
    exact ⟨[_],⟨Fz.deep rfl,trivial⟩,rfl⟩
   ·have d3:decide ((t+1) / 2 < (k:Int))=false:=decide_eq_false hbig;by_cases hneg:t * aw - (e9 (i6 c ⟨t,d,aw⟩ x) i:Nat) - (k:Int) < 0
    ·have d4:decide (t * aw - (e9 (i6 c ⟨t,d,aw⟩ x) i:Nat) - (k:Int) < 0)=true:=decide_eq_true hneg;have hz:jn c ⟨t,d,aw⟩ x=false:=by have hm:=tj (i6 c ⟨t,d,aw⟩ x) (i:=i+1) (n:=c.aH.length) (by omega);unfold jn;rw [decide_eq_false (p:=(e9 (i6 c ⟨t,d,aw⟩ x) c.aH.length:Int)≤(⟨t,d,aw⟩:dm).turns * (⟨t,d,aw⟩:dm).aN) (by show ¬_≤t * aw;rw [show e9 (i6 c ⟨t,d,aw⟩ x) (i+1)=e9 (i6 c ⟨t,d,aw⟩ x) i+k from by rw [←hnd];rfl] at hm;omega),Bool.and_false]
     rw [hz];refine qq1 ?_;repeat' first|refine u1 ?_|(refine fun h=>h)|refine u2 ?_|fail
     exact ⟨[_],⟨Fz.deep rfl,trivial⟩,rfl⟩
    ·have d4:decide (t * aw - (e9 (i6 c ⟨t,d,aw⟩ x) i:Nat) - (k:Int) < 0)=false:=decide_eq_false hneg;have hs:e9 (i6 c ⟨t,d,aw⟩ x) (i+1)=e9 (i6 c ⟨t,d,aw⟩ x) i+k:=by rw [←hnd];rfl
     refine qq1 ?_;repeat' first|refine u1 ?_|(refine fun h=>h)|refine u2 ?_|fail
     exact ⟨i+1,⟨by omega,by show (_ && !decide ((t+1) / 2 < (i6 c ⟨t,d,aw⟩ x i:Int)))=true;rw [hnd,d3,hok];rfl,by rw [hs];omega⟩,(by dsimp only;omega),ah.to (l:=[(1,af x),(2,.pt [.sl (c.aE.map aX) false,.sl (c.aH.map bq) false,af c.least,af t,af d,af aw,af (m0:Nat),af (m1:Nat),af (m2:Nat)] 0),(18,af (c.aH.length:Int)),(5,af (t * aw - (e9 (i6 c ⟨t,d,aw⟩ x) (i+1):Nat))),(19,af (i+1:Nat))]) 0 rfl ⟨rfl,rfl,rfl,aD (by rw [hs];omega),aD (by simp),trivial⟩ (qq5 _) rfl rfl⟩
 ·have dl:decide ((i:Int) < (c.aH.length:Int))=false:=decide_eq_false (by omega);have hz:jn c ⟨t,d,aw⟩ x=true:=by unfold jn;rw [show c.aH.length=i by omega,hok,decide_eq_true (show (e9 (i6 c ⟨t,d,aw⟩ x) i:Int)≤(⟨t,d,aw⟩:dm).turns * (⟨t,d,aw⟩:dm).aN from hsu)];rfl
  rw [hz];refine qq1 ?_;repeat' first|refine u1 ?_|refine u2 ?_|fail
  exact ⟨[_],⟨Fz.deep rfl,trivial⟩,rfl⟩
end Go.Proofs.YtlpmfgmldmdggaaGreat
open Go Go.RM
namespace Go.Proofs.YtlpmfgmldmdggaaGreat
set_option maxRecDepth 100000
def dS (f:Nat→Int):Nat→List Int
 | 0=>[]
 | k+1=>dS f k++[f k]
def ck (f:Nat→Nat→Int) (n:Nat):Nat→List Int
 | 0=>[]
 | i+1=>ck f n i++dS (f i) n
theorem wX (f:Nat→Int):∀ k,(dS f k).length=k
 | 0=>rfl
 | k+1=>by unfold dS;rw [List.length_append,wX f k];rfl
theorem wY (f:Nat→Nat→Int) (n:Nat):∀ i,(ck f n i).length=i * n
 | 0=>by simp [ck]
 | i+1=>by unfold ck;rw [List.length_append,wY f n i,wX,Nat.succ_mul]
theorem BV {f:Nat→Int} {v:Int}:∀ {k},v ∈ dS f k ↔ ∃ q,q < k∧v=f q
 | 0=>by simp [dS]
 | k+1=>by
  unfold dS;rw [List.mem_append,BV,List.mem_singleton];constructor
  ·rintro (⟨q,h1,h2⟩|h)
   ·exact ⟨q,by omega,h2⟩
   ·exact ⟨k,by omega,h⟩
  ·rintro ⟨q,h1,h2⟩;by_cases e:q=k
   ·exact .inr (e ▸ h2)
   ·exact .inl ⟨q,by omega,h2⟩
theorem BW {f:Nat→Nat→Int} {n:Nat} {v:Int}:∀ {i},v ∈ ck f n i ↔ ∃ j k,j < i∧k < n∧v=f j k
 | 0=>by simp [ck]
 | i+1=>by
  unfold ck;rw [List.mem_append,BW,BV];constructor
  ·rintro (⟨j,k,h1,h2,h3⟩|⟨k,h1,h2⟩)
   ·exact ⟨j,k,by omega,h2,h3⟩
   ·exact ⟨i,k,by omega,h1,h2⟩
  ·rintro ⟨j,k,h1,h2,h3⟩;by_cases e:j=i
   ·exact .inr ⟨k,h2,e ▸ h3⟩
   ·exact .inl ⟨j,k,by omega,h2,h3⟩
structure lN (P:Int→Bool) (l:List Int) (m:Int):Prop where
 mem:m ∈ l
 ok:P m=true
 low:∀ x ∈ l,P x=true→m≤x
theorem lN.uniq {P:Int→Bool} {l:List Int} {m n:Int} (h:lN P l m) (h2:lN P l n):m=n:=by have:=h.low n h2.mem h2.ok;have:=h2.low m h.mem h.ok;omega
theorem lN.perm {P:Int→Bool} {l l2:List Int} {m:Int} (h:lN P l m) (hp:l2.Perm l):lN P l2 m :=
 ⟨hp.mem_iff.2 h.mem,h.ok,fun x hx=>h.low x (hp.mem_iff.1 hx)⟩
def C5 (P:Int→Bool) (s:Int × Bool) (v:Int):Int × Bool:=if (P v && (!s.2 || decide (v < s.1)))=true then (v,true) else s
def r0 (P:Int→Bool) (l:List Int):Int × Bool:=l.foldl (C5 P) (0,false)
theorem HD (P:Int→Bool) (l:List Int) (v:Int):r0 P (l++[v])=C5 P (r0 P l) v:=by unfold r0;rw [List.foldl_append];rfl
structure HE (P:Int→Bool) (l:List Int) (s:Int × Bool):Prop where
 yes:s.2=true→lN P l s.1
 no:s.2=false→∀ x ∈ l,P x=false
theorem K7 {P:Int→Bool} {l:List Int} {s:Int × Bool} (h:HE P l s) (v:Int):HE P (l++[v]) (C5 P s v):=by
 unfold C5;obtain ⟨m,b⟩:=s
 have hm:∀ x,x ∈ l++[v]→x ∈ l∨x=v:=fun x hx=>by
  rcases List.mem_append.1 hx with hx|hx
  ·exact .inl hx
  ·exact .inr (List.mem_singleton.1 hx)
 cases hP:P v with
 | false =>
  rw [if_neg (by simp)]
  exact ⟨fun hb=>⟨List.mem_append_left _ (h.yes hb).mem,(h.yes hb).ok,fun x hx hx2=>by
   rcases hm x hx with hx|rfl
   ·exact (h.yes hb).low x hx hx2
   ·rw [hP] at hx2;cases hx2⟩,fun hb x hx=>by
   rcases hm x hx with hx|rfl
   ·exact h.no hb x hx
   ·exact hP⟩
 | true =>
  cases b with
  | false =>
   rw [if_pos (by simp)]
   exact ⟨fun _=>⟨List.mem_append_right _ (List.mem_singleton.2 rfl),hP,fun x hx hx2=>by
    rcases hm x hx with hx|rfl
    ·rw [h.no rfl x hx] at hx2;cases hx2
    ·exact Int.le_refl _⟩,fun hb=>Bool.noConfusion hb⟩
  | true =>
   by_cases hl:v < m
   ·rw [if_pos (by simp [hl])]
    exact ⟨fun _=>⟨List.mem_append_right _ (List.mem_singleton.2 rfl),hP,fun x hx hx2=>by
     rcases hm x hx with hx|rfl
     ·have:m≤x:=(h.yes rfl).low x hx hx2;show v≤x;omega
     ·exact Int.le_refl _⟩,fun hb=>Bool.noConfusion hb⟩
   ·rw [if_neg (by simp [hl])]
    exact ⟨fun _=>⟨List.mem_append_left _ (h.yes rfl).mem,(h.yes rfl).ok,fun x hx hx2=>by
     rcases hm x hx with hx|rfl
     ·exact (h.yes rfl).low x hx hx2
     ·show m≤x
      omega⟩,fun hb=>Bool.noConfusion hb⟩
theorem K8 (P:Int→Bool) (l:List Int):HE P l (r0 P l):=by
 suffices ∀ (l2 l1:List Int) (s:Int × Bool),HE P l1 s→HE P (l1++l2) (l2.foldl (C5 P) s) from this l [] (0,false) ⟨fun h=>Bool.noConfusion h,fun _ x hx=>by cases hx⟩
 intro l2
 induction l2 with
 | nil=>intro l1 s h;rw [List.append_nil];exact h
 | cons v l2 ih =>intro l1 s h;have:=ih (l1++[v]) (C5 P s v) (K7 h v);rw [List.append_assoc] at this;exact this
theorem HF {P:Int→Bool} {l:List Int} (h:∃ x ∈ l,P x=true):lN P l (r0 P l).1:=by
 have ho:=K8 P l
 cases hb:(r0 P l).2 with
 | true=>exact ho.yes hb
 | false =>obtain ⟨x,hx,hP⟩:=h;rw [ho.no hb x hx] at hP;cases hP
theorem ES {P:Int→Bool} {S:List Int} (hs:Sd lB S 0 S.length) (h:∃ x ∈ S,P x=true):∃ k:Nat,sZ P S=k∧k < S.length∧lN P S (aG S k):=by
 obtain ⟨x,hx,hP⟩:=h
 cases hf:S.findIdx? P with
 | none =>rw [List.findIdx?_eq_none_iff] at hf;rw [hf x hx] at hP;cases hP
 | some k =>
  refine ⟨k,by unfold sZ;rw [hf],?_⟩;rw [List.findIdx?_eq_some_iff_getElem] at hf;obtain ⟨hk,h1,h2⟩:=hf;have e:S[k]=aG S k:=by have:=jl hk;rw [List.getElem?_eq_getElem hk] at this;exact Option.some.inj this
  rw [e] at h1;refine ⟨hk,by rw [←e];exact List.getElem_mem hk,h1,fun y hy hPy=>?_⟩;obtain ⟨q,hq,rfl⟩:=List.getElem_of_mem hy;have e2:S[q]=aG S q:=by have:=jl hq;rw [List.getElem?_eq_getElem hq] at this;exact Option.some.inj this
  by_cases hqk:q < k
  ·have:=h2 q hqk;rw [hPy] at this;exact absurd rfl this
  ·rw [e2];exact hs k q (qq5 _) (by omega) hq
def Mj (c:aS) (p:dm):List Int:=ck (fun i k=>ct c p i (k:Int)) (p.turns.toNat+1) c.aH.length
def Mp (c:aS) (p:dm):Int:=(r0 (jn c p) (Mj c p)).1
def Lm (c:aS) (p:dm):AV:=.tp [af (if sg c p=0 then Mp c p else 0),af (sg c p)]
theorem K9 {c:aS} {p:dm} (hp:wM p) {x:Int} (h:∀ i,i < c.aH.length→ct c p i ((0:Nat):Int)≤x):jn c p x=true:=by
 have hnd:∀ i,i < c.aH.length→i6 c p x i=0:=fun i hi=>by unfold i6 Hz;rw [if_neg (by have:=h i hi;omega)]
 have h1:∀ n,n≤c.aH.length→HC c p x n=true∧e9 (i6 c p x) n=0:=by
  intro n
  induction n with
  | zero=>intro _;exact ⟨rfl,rfl⟩
  | succ n ih =>
   intro hn;obtain ⟨a1,a2⟩:=ih (by omega);have hz:=hnd n (by omega);have:=hp.turns;constructor
   ·unfold HC;rw [a1,hz,decide_eq_false (by omega)];rfl
   ·unfold e9;rw [a2,hz]
 obtain ⟨a1,a2⟩:=h1 _ (qq6 _);unfold jn;rw [a1,a2,decide_eq_true]
 ·rfl
 ·exact Int.mul_nonneg (by have:=hp.turns;omega) (by have:=hp.aN;omega)
theorem HG (f:Nat→Int):∀ n,0 < n→∃ j,j < n∧∀ i,i < n→f i≤f j
 | 0,h=>absurd h (by omega)
 | 1,_=>⟨0,by omega,fun i hi=>by rw [show i=0 by omega];exact Int.le_refl _⟩
 | n+2,_=>by
  obtain ⟨j,h1,h2⟩:=HG f (n+1) (by omega);by_cases h:f j≤f (n+1)
  ·refine ⟨n+1,by omega,fun i hi=>?_⟩;by_cases e:i=n+1
   ·rw [e];exact Int.le_refl _
   ·have:=h2 i (by omega);omega
  ·refine ⟨j,by omega,fun i hi=>?_⟩;by_cases e:i=n+1
   ·rw [e];omega
   ·exact h2 i (by omega)
theorem La {c:aS} (hg:Good c) {p:dm} (hp:wM p):∃ x ∈ Mj c p,jn c p x=true:=by obtain ⟨j,hj,hm⟩:=HG (fun i=>ct c p i ((0:Nat):Int)) c.aH.length (by have:=hg.aH;omega);exact ⟨ct c p j ((0:Nat):Int),BW.2 ⟨j,0,hj,by omega,rfl⟩,K9 hp hm⟩
theorem ET {c:aS} (hg:Good c) {p:dm} (hp:wM p):lN (jn c p) (Mj c p) (Mp c p):=HF (La hg hp)
