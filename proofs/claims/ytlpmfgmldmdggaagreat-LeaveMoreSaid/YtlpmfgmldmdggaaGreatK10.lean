/-
  Contracts of the program's functions and of the document's. Lemmas alone; their conditions stand in them.
-/
import Derived.Test.YtlpmfgmldmdggaaGreatK7
open Go Go.RM
namespace Go.Proofs.YtlpmfgmldmdggaaGreat
set_option maxRecDepth 100000
set_option maxHeartbeats 4000000
def yF (f:Nat→Int) (x:Int):Nat→Nat→Nat
 | 0,k=>k
 | n+1,k=>if x < f k then yF f x n (k+1) else k
theorem HA (f:Nat→Int) (x:Int):∀ n k,yF f x n k≤k+n
 | 0,k=>qq6 _
 | n+1,k=>by
  unfold yF;split
  ·have:=HA f x n (k+1);omega
  ·omega
theorem HB {f:Nat→Int} {x:Int} {t k:Nat} (hk:k≤t) (h:x < f k):yF f x (t+1 - (k+1)) (k+1)=yF f x (t+1 - k) k:=by rw [show t+1 - k=(t+1 - (k+1))+1 by omega];show _=if x < f k then _ else _;rw [if_pos h]
theorem B3 {f:Nat→Int} {x:Int} {t k:Nat} (hk:k≤t) (h:¬x < f k):yF f x (t+1 - k) k=k:=by rw [show t+1 - k=(t+1 - (k+1))+1 by omega];show (if x < f k then _ else _)=_;rw [if_neg h]
theorem D6 {f:Nat→Int} {x:Int} {t k:Nat} (hk:¬k≤t):yF f x (t+1 - k) k=k:=by rw [show t+1 - k=0 by omega];rfl
def fH (c:aL) (p:bE) (x:Int) (i:Nat):Nat:=yF (fun k=>cU c p i (k:Int)) x (p.turns.toNat+1) 0
theorem Li (c:aL) (p:bE) (x:Int) (i:Nat):fH c p x i≤p.turns.toNat+1:=by have:=HA (fun k=>cU c p i (k:Int)) x (p.turns.toNat+1) 0;unfold fH;omega
def cw (g:Nat→Nat):Nat→Nat
 | 0=>0
 | k+1=>cw g k+g k
theorem ta (g:Nat→Nat) {i:Nat}:∀ {n},i≤n→cw g i≤cw g n
 | 0,h=>by rw [Nat.le_zero.1 h];exact qq6 _
 | n+1,h=>by
  by_cases e:i=n+1
  ·rw [e];exact qq6 _
  ·have:=ta g (i:=i) (n:=n) (by omega);show _≤cw g n+g n;omega
def z6 (c:aL) (p:bE) (x:Int):Nat→Bool
 | 0=>true
 | k+1=>z6 c p x k && !decide ((p.turns+1) / 2 < (fH c p x k:Int))
theorem oT (c:aL) (p:bE) (x:Int) {i:Nat} (h:z6 c p x i=false):∀ {n},i≤n→z6 c p x n=false
 | 0,hi=>by rw [Nat.le_zero.1 hi] at h;exact h
 | n+1,hi=>by
  by_cases e:i=n+1
  ·rw [←e];exact h
  ·have:=oT c p x h (n:=n) (by omega);show (z6 c p x n && _)=false;rw [this];rfl
def oZ (c:aL) (p:bE) (x:Int):Bool:=z6 c p x c.aD.length && decide ((cw (fH c p x) c.aD.length:Int)≤p.turns * p.aR)
theorem Jv (one:Bool) (c:aL) (hg:Good c) (p:bE) (hp:ob p) (m0 m1 m2:Nat) (x:Int):ak TT TB one (.fn 89 [.ag (s5 c p m0 m1 m2)] []) [af x] (BB (oZ c p x)):=by
 have hb:=fun i hi n hn=>wL one c hg p hp m0 m1 m2 i hi n hn;have em:((c.aD.map aZ).length:Int)=c.aD.length:=by simp
 have hm5:c.aD.length≤5:=hg.aD.2;obtain ⟨t,d,aw⟩:=p;obtain ⟨p1,p2,p3⟩:=hp
 dsimp only at *
 obtain ⟨tn,htn⟩:∃ tn:Nat,t=tn:=⟨t.toNat,by omega⟩
 have hmul:0≤t * aw∧t * aw≤8:=by
  obtain rfl|rfl:aw=1∨aw=2:=by omega
  ·omega
  ·omega
 show ak TT TB one (.fn 89 [.ag [.sl (c.aC.map aT) false,.sl (c.aD.map aZ) false,af c.least,af t,af d,af aw,af (m0:Nat),af (m1:Nat),af (m2:Nat)]] []) [af x] _;refine ak.body (fn:=Tryz.f89) rfl rfl rfl rfl ?_;refine qq1 ?_;repeat' first|refine u1 ?_|refine u2 ?_|fail
 refine aB.aO (ah.to (l:=[(1,af x),(2,.pt [.sl (c.aC.map aT) false,.sl (c.aD.map aZ) false,af c.least,af t,af d,af aw,af (m0:Nat),af (m1:Nat),af (m2:Nat)] 0),(18,af (c.aD.length:Int)),(5,af (t * aw - (cw (fH c ⟨t,d,aw⟩ x) 0:Nat))),(19,af (0:Nat))]) (hp:=[]) 0 rfl ⟨rfl,rfl,aE em,aE (show t * aw=t * aw - ((0:Nat):Int) by simp),rfl,trivial⟩ (qq6 _) rfl rfl) ?_;refine aB.loop (fun i:Nat=>i≤c.aD.length∧z6 c ⟨t,d,aw⟩ x i=true∧(cw (fH c ⟨t,d,aw⟩ x) i:Int)≤t * aw) (fun i=>⟨aM [(1,af x),(2,.pt [.sl (c.aC.map aT) false,.sl (c.aD.map aZ) false,af c.least,af t,af d,af aw,af (m0:Nat),af (m1:Nat),af (m2:Nat)] 0),(18,af (c.aD.length:Int)),(5,af (t * aw - (cw (fH c ⟨t,d,aw⟩ x) i:Nat))),(19,af (i:Nat))],[],bq.none,false,0⟩) (fun i=>c.aD.length - i) ?_ 0 ⟨qq5 _,rfl,hmul.1⟩;rintro i ⟨hi,hok,hsu⟩;by_cases hlt:i < c.aD.length
 ·have dl:decide ((i:Int) < (c.aD.length:Int))=true:=decide_eq_true (by omega);refine qq1 ?_;repeat' first|refine u1 ?_|refine u2 ?_|fail
  refine aB.aO (ah.to (l:=[(1,af x),(2,.pt [.sl (c.aC.map aT) false,.sl (c.aD.map aZ) false,af c.least,af t,af d,af aw,af (m0:Nat),af (m1:Nat),af (m2:Nat)] 0),(18,af (c.aD.length:Int)),(5,af (t * aw - (cw (fH c ⟨t,d,aw⟩ x) i:Nat))),(19,af (i:Nat)),(6,af (i:Nat)),(7,af (0:Nat))]) (hp:=[]) 0 rfl ⟨rfl,rfl,rfl,rfl,rfl,rfl,rfl,trivial⟩ (qq5 _) rfl rfl) ?_;refine aB.loop (fun k:Nat=>k≤tn+1∧yF (fun k=>cU c ⟨t,d,aw⟩ i (k:Int)) x (tn+1 - k) k=fH c ⟨t,d,aw⟩ x i) (fun k=>⟨aM [(1,af x),(2,.pt [.sl (c.aC.map aT) false,.sl (c.aD.map aZ) false,af c.least,af t,af d,af aw,af (m0:Nat),af (m1:Nat),af (m2:Nat)] 0),(18,af (c.aD.length:Int)),(5,af (t * aw - (cw (fH c ⟨t,d,aw⟩ x) i:Nat))),(19,af (i:Nat)),(6,af (i:Nat)),(7,af (k:Nat))],[],bq.none,false,0⟩) (fun k=>tn+1 - k) ?_ 0 ⟨qq5 _,by unfold fH;rw [Nat.sub_zero,show (⟨t,d,aw⟩:bE).turns.toNat=tn by show t.toNat=tn;omega]⟩;rintro k ⟨hk,hnd⟩;by_cases hkt:k≤tn
  ·have d1:decide ((k:Int)≤t)=true:=decide_eq_true (by omega);have o1:=hb i hlt k (by omega);change Pu one 80 [.ag [.sl (c.aC.map aT) false,.sl (c.aD.map aZ) false,af c.least,af t,af d,af aw,af (m0:Nat),af (m1:Nat),af (m2:Nat)],af (i:Int),af (k:Int)] _ at o1;by_cases hx:x < cU c ⟨t,d,aw⟩ i (k:Int)
   ·have d2:decide (x < cU c ⟨t,d,aw⟩ i (k:Int))=true:=decide_eq_true hx;refine qq1 ?_;repeat' first|refine u1 ?_|((with_reducible refine qq3 ?_);refine ak.call o1 rfl rfl ?_)|refine u2 ?_|fail
    exact ⟨k+1,⟨by omega,by rw [←hnd];exact HB hkt hx⟩,(by dsimp only;omega),ah.to 0 rfl ⟨rfl,rfl,rfl,rfl,rfl,rfl,aE (by simp),trivial⟩ (qq5 _) rfl rfl⟩
   ·have d2:decide (x < cU c ⟨t,d,aw⟩ i (k:Int))=false:=decide_eq_false hx;rw [B3 hkt hx] at hnd
    replace hnd:=hnd.symm
    by_cases hbig:(t+1) / 2 < (k:Int)
    ·have d3:decide ((t+1) / 2 < (k:Int))=true:=decide_eq_true hbig;have hz:oZ c ⟨t,d,aw⟩ x=false:=by unfold oZ;rw [oT c ⟨t,d,aw⟩ x (i:=i+1) (by show (_ && !decide ((t+1) / 2 < (fH c ⟨t,d,aw⟩ x i:Int)))=false;rw [hnd,d3,Bool.not_true,Bool.and_false]) (by omega)];rfl
     rw [hz];refine qq1 ?_;repeat' first|refine u1 ?_|((with_reducible refine qq3 ?_);refine ak.call o1 rfl rfl ?_)|refine u2 ?_|fail
     exact ⟨[_],⟨Fz.deep rfl,trivial⟩,rfl⟩
    ·have d3:decide ((t+1) / 2 < (k:Int))=false:=decide_eq_false hbig;by_cases hneg:t * aw - (cw (fH c ⟨t,d,aw⟩ x) i:Nat) - (k:Int) < 0
     ·have d4:decide (t * aw - (cw (fH c ⟨t,d,aw⟩ x) i:Nat) - (k:Int) < 0)=true:=decide_eq_true hneg;have hz:oZ c ⟨t,d,aw⟩ x=false:=by have hm:=ta (fH c ⟨t,d,aw⟩ x) (i:=i+1) (n:=c.aD.length) (by omega);unfold oZ;rw [decide_eq_false (p:=(cw (fH c ⟨t,d,aw⟩ x) c.aD.length:Int)≤(⟨t,d,aw⟩:bE).turns * (⟨t,d,aw⟩:bE).aR) (by show ¬_≤t * aw;rw [show cw (fH c ⟨t,d,aw⟩ x) (i+1)=cw (fH c ⟨t,d,aw⟩ x) i+k from by rw [←hnd];rfl] at hm;omega),Bool.and_false]
      rw [hz];refine qq1 ?_;repeat' first|refine u1 ?_|((with_reducible refine qq3 ?_);refine ak.call o1 rfl rfl ?_)|refine u2 ?_|fail
      exact ⟨[_],⟨Fz.deep rfl,trivial⟩,rfl⟩
     ·have d4:decide (t * aw - (cw (fH c ⟨t,d,aw⟩ x) i:Nat) - (k:Int) < 0)=false:=decide_eq_false hneg;have hs:cw (fH c ⟨t,d,aw⟩ x) (i+1)=cw (fH c ⟨t,d,aw⟩ x) i+k:=by rw [←hnd];rfl
      refine qq1 ?_;repeat' first|refine u1 ?_|((with_reducible refine qq3 ?_);refine ak.call o1 rfl rfl ?_)|refine u2 ?_|fail
      exact ⟨i+1,⟨by omega,by show (_ && !decide ((t+1) / 2 < (fH c ⟨t,d,aw⟩ x i:Int)))=true;rw [hnd,d3,hok];rfl,by rw [hs];omega⟩,(by dsimp only;omega),ah.to (l:=[(1,af x),(2,.pt [.sl (c.aC.map aT) false,.sl (c.aD.map aZ) false,af c.least,af t,af d,af aw,af (m0:Nat),af (m1:Nat),af (m2:Nat)] 0),(18,af (c.aD.length:Int)),(5,af (t * aw - (cw (fH c ⟨t,d,aw⟩ x) (i+1):Nat))),(19,af (i+1:Nat))]) 0 rfl ⟨rfl,rfl,rfl,aE (by rw [hs];omega),aE (by simp),trivial⟩ (qq5 _) rfl rfl⟩
  ·have d1:decide ((k:Int)≤t)=false:=decide_eq_false (by omega);rw [D6 hkt] at hnd
   replace hnd:=hnd.symm
   by_cases hbig:(t+1) / 2 < (k:Int)
   ·have d3:decide ((t+1) / 2 < (k:Int))=true:=decide_eq_true hbig;have hz:oZ c ⟨t,d,aw⟩ x=false:=by unfold oZ;rw [oT c ⟨t,d,aw⟩ x (i:=i+1) (by show (_ && !decide ((t+1) / 2 < (fH c ⟨t,d,aw⟩ x i:Int)))=false;rw [hnd,d3,Bool.not_true,Bool.and_false]) (by omega)];rfl
    rw [hz];refine qq1 ?_;repeat' first|refine u1 ?_|(refine fun h=>h)|refine u2 ?_|fail
    exact ⟨[_],⟨Fz.deep rfl,trivial⟩,rfl⟩
   ·have d3:decide ((t+1) / 2 < (k:Int))=false:=decide_eq_false hbig;by_cases hneg:t * aw - (cw (fH c ⟨t,d,aw⟩ x) i:Nat) - (k:Int) < 0
    ·have d4:decide (t * aw - (cw (fH c ⟨t,d,aw⟩ x) i:Nat) - (k:Int) < 0)=true:=decide_eq_true hneg;have hz:oZ c ⟨t,d,aw⟩ x=false:=by have hm:=ta (fH c ⟨t,d,aw⟩ x) (i:=i+1) (n:=c.aD.length) (by omega);unfold oZ;rw [decide_eq_false (p:=(cw (fH c ⟨t,d,aw⟩ x) c.aD.length:Int)≤(⟨t,d,aw⟩:bE).turns * (⟨t,d,aw⟩:bE).aR) (by show ¬_≤t * aw;rw [show cw (fH c ⟨t,d,aw⟩ x) (i+1)=cw (fH c ⟨t,d,aw⟩ x) i+k from by rw [←hnd];rfl] at hm;omega),Bool.and_false]
     rw [hz];refine qq1 ?_;repeat' first|refine u1 ?_|(refine fun h=>h)|refine u2 ?_|fail
     exact ⟨[_],⟨Fz.deep rfl,trivial⟩,rfl⟩
    ·have d4:decide (t * aw - (cw (fH c ⟨t,d,aw⟩ x) i:Nat) - (k:Int) < 0)=false:=decide_eq_false hneg;have hs:cw (fH c ⟨t,d,aw⟩ x) (i+1)=cw (fH c ⟨t,d,aw⟩ x) i+k:=by rw [←hnd];rfl
     refine qq1 ?_;repeat' first|refine u1 ?_|(refine fun h=>h)|refine u2 ?_|fail
     exact ⟨i+1,⟨by omega,by show (_ && !decide ((t+1) / 2 < (fH c ⟨t,d,aw⟩ x i:Int)))=true;rw [hnd,d3,hok];rfl,by rw [hs];omega⟩,(by dsimp only;omega),ah.to (l:=[(1,af x),(2,.pt [.sl (c.aC.map aT) false,.sl (c.aD.map aZ) false,af c.least,af t,af d,af aw,af (m0:Nat),af (m1:Nat),af (m2:Nat)] 0),(18,af (c.aD.length:Int)),(5,af (t * aw - (cw (fH c ⟨t,d,aw⟩ x) (i+1):Nat))),(19,af (i+1:Nat))]) 0 rfl ⟨rfl,rfl,rfl,aE (by rw [hs];omega),aE (by simp),trivial⟩ (qq5 _) rfl rfl⟩
 ·have dl:decide ((i:Int) < (c.aD.length:Int))=false:=decide_eq_false (by omega);have hz:oZ c ⟨t,d,aw⟩ x=true:=by unfold oZ;rw [show c.aD.length=i by omega,hok,decide_eq_true (show (cw (fH c ⟨t,d,aw⟩ x) i:Int)≤(⟨t,d,aw⟩:bE).turns * (⟨t,d,aw⟩:bE).aR from hsu)];rfl
  rw [hz];refine qq1 ?_;repeat' first|refine u1 ?_|refine u2 ?_|fail
  exact ⟨[_],⟨Fz.deep rfl,trivial⟩,rfl⟩
end Go.Proofs.YtlpmfgmldmdggaaGreat
open Go Go.RM
namespace Go.Proofs.YtlpmfgmldmdggaaGreat
set_option maxRecDepth 100000
set_option maxHeartbeats 4000000
abbrev aA (S:List Int) (aK:Nat):AB:=.cells (ay S) 1 aK
theorem ax {S:List Int} {k p:Nat} (h:k < S.length) (hp:p=k):(ay S)[p]?=some (af (aH S k)):=by subst hp;rw [List.getElem?_map,l5 h];rfl
theorem z7 {S:List Int} {k p:Nat} (h:k < S.length) (hp:p=k) (x:Int):aQ (ay S) [af x] p=ay (S.set k x):=by have:=rL h x;rw [Int.toNat_natCast,Nat.zero_add,Nat.mul_one] at this;rw [hp];exact this
theorem bS {S:List Int} {k p:Nat} (h:k < S.length) (hp:p=k):Nat.ble (p+1) (ay S).length=true:=Nat.ble_eq_true_of_le (by rw [List.length_map];omega)
theorem bp {R:List Int} {i j p q:Nat} (hi:i < R.length) (hj:j < R.length) (hp:p=i) (hq:q=j):aQ (aQ (ay R) [af (aH R j)] p) [af (aH R i)] q=ay (sw R i j):=by rw [z7 hi hp,z7 (by simpa using hj) hq];rfl
theorem cH {R:List Int} {i j p q:Nat} (hi:i < R.length) (hj:j < R.length) (hp:p=i) (hq:q=j) (x:Int):Nat.ble (q+1) (aQ (ay R) [af x] p).length=true:=by rw [z7 hi hp];exact bS (by simpa using hj) hq
abbrev lg:Int→Int:=fun x=>x
theorem Lj (one:Bool) (S0:List Int) {a b N:Nat} (hN:S0.length=N) (hb:b≤N) (hab:a≤b) (h9:N≤1000) {v cc:Nat} {aF:bq} {Q:AV→List AB→bq→Prop} (hQ:∀ S:List Int,PR S0 S a b→Sd lg S a b→Q (.tp []) [aA S v] aF) :
  au TT TB one (.fn 132 [] []) [.aJ 0 v 0 N cc,af (a:Nat),af (b:Nat)] [aA S0 v] aF Q:=by
 refine au.body (fn:=Tryz.f132) rfl rfl rfl ?_;refine qq1 ?_;repeat' first|refine u1 ?_|refine u2 ?_|fail
 refine aB.aO (ah.to (l:=[(0,.aJ 0 v 0 N cc),(1,af (a:Nat)),(2,af (b:Nat)),(6,af ((a+1):Nat))]) (hp:=[aA S0 v]) 1 rfl ⟨rfl,rfl,rfl,aE (by simp),trivial⟩ (qq6 _) rfl (av _ _)) ?_;refine aB.loop (fun x:Nat × List Int=>(a+1≤x.1∧(x.1≤b∨x.1=a+1))∧PR S0 x.2 a b∧Sd lg x.2 a x.1) (fun x=>⟨aM [(0,.aJ 0 v 0 N cc),(1,af (a:Nat)),(2,af (b:Nat)),(6,af (x.1:Nat))],[aA x.2 v],aF,false,1⟩) (fun x=>N - x.1) ?_ (a+1,S0) ⟨⟨qq6 _,.inr rfl⟩,PR.refl _ _ _,fun i j h1 h2 h3=>by rw [show i=j by dsimp only at *;omega];exact Int.le_refl _⟩;rintro ⟨i,S⟩ ⟨⟨hi1,hi⟩,hpe,hso⟩;dsimp only at hi1 hi hso hpe;have hSl:S.length=N:=by rw [hpe.len,hN]
 show aB _ _ _ _ ⟨aM [(0,.aJ 0 v 0 N cc),(1,af (a:Nat)),(2,af (b:Nat)),(6,af (i:Nat))],[aA S v],aF,false,1⟩ _;by_cases hc:i < b
 ·have d0:decide ((i:Int) < (b:Int))=true:=decide_eq_true (by omega);refine qq1 ?_;repeat' first|refine u1 ?_|refine u2 ?_|fail
  refine aB.aO (ah.to (l:=[(0,.aJ 0 v 0 N cc),(1,af (a:Nat)),(2,af (b:Nat)),(6,af (i:Nat)),(7,af (i:Nat))]) (hp:=[aA S v]) 1 rfl ⟨rfl,rfl,rfl,rfl,rfl,trivial⟩ (qq6 _) rfl (av _ _)) ?_;refine aB.loop (fun x:Nat × List Int=>(a≤x.1∧x.1≤i)∧PR S0 x.2 a b∧Ff lg x.2 a i x.1) (fun x=>⟨aM [(0,.aJ 0 v 0 N cc),(1,af (a:Nat)),(2,af (b:Nat)),(6,af (i:Nat)),(7,af (x.1:Nat))],[aA x.2 v],aF,false,1⟩) (fun x=>x.1) ?_ (i,S) ⟨⟨by dsimp only;omega,qq6 _⟩,hpe,Ff.start hso⟩;rintro ⟨j,R⟩ ⟨⟨hj1,hj⟩,hpr,hsi⟩;dsimp only at hj1 hj hsi hpr;have hRl:R.length=N:=by rw [hpr.len,hN]
  show aB _ _ _ _ ⟨aM [(0,.aJ 0 v 0 N cc),(1,af (a:Nat)),(2,af (b:Nat)),(6,af (i:Nat)),(7,af (j:Nat))],[aA R v],aF,false,1⟩ _;by_cases h0:a < j
  ·have d1:decide ((a:Int) < (j:Int))=true:=decide_eq_true (by omega);have g1:(ay R)[0+((j:Nat):Int).toNat * 1]?=some (af (aH R j)):=ax (by omega) (by omega);have g2:(ay R)[0+((j:Int) - 1).toNat * 1]?=some (af (aH R (j - 1))):=ax (by omega) (by omega);have o1:=iw true (aH R j) (aH R (j - 1));by_cases hl:aH R j < aH R (j - 1)
   ·rw [decide_eq_true hl] at o1;have b1:Nat.ble (0+((j:Nat):Int).toNat * 1+1) (ay R).length=true:=bS (k:=j) (by omega) (by omega);have b2:Nat.ble (0+((j:Int) - 1).toNat * 1+1) (aQ (ay R) [af (aH R (j - 1))] (0+((j:Nat):Int).toNat * 1)).length=true:=cH (i:=j) (j:=j - 1) (by omega) (by omega) (by omega) (by omega) _;have e1:=bp (R:=R) (i:=j) (j:=j - 1) (p:=0+((j:Nat):Int).toNat * 1) (q:=0+((j:Int) - 1).toNat * 1) (by omega) (by omega) (by omega) (by omega);refine qq1 ?_;repeat' first|(refine ⟨_,_,.inl ⟨rfl,rfl⟩,o1,?_⟩)|((with_reducible show RM.wpOp _ _ (.load _ _) _ _ _);refine RM.bC rfl rfl rfl g1 ?_)|((with_reducible show RM.wpOp _ _ (.load _ _) _ _ _);refine RM.bC rfl rfl rfl g2 ?_)|((with_reducible show aG _ _ _ _ _ _);refine RM.e9 rfl rfl rfl rfl rfl rfl b1 ?_)|((with_reducible show aG _ _ _ _ _ _);refine RM.e9 rfl rfl rfl rfl rfl rfl b2 ?_)|refine u1 ?_|refine u2 ?_|fail
    exact ⟨(j - 1,sw R j (j - 1)),⟨⟨by dsimp only;omega,by dsimp only;omega⟩,hpr.trans (PR.sw (by omega) ⟨by omega,by omega⟩ ⟨by omega,by omega⟩),hsi.step ⟨h0,hj⟩ (by omega) hl⟩,(by dsimp only;omega),ah.to (l:=[(0,.aJ 0 v 0 N cc),(1,af (a:Nat)),(2,af (b:Nat)),(6,af (i:Nat)),(7,af ((j - 1):Nat))]) (hp:=[aA (sw R j (j - 1)) v]) 1 (by show _=[AB.cells (ay (sw R j (j - 1))) 1 v];rw [←e1];rfl) ⟨rfl,rfl,rfl,rfl,aE (by omega),trivial⟩ (qq6 _) rfl (av _ _)⟩
   ·rw [decide_eq_false hl] at o1;refine qq1 ?_;repeat' first|(refine ⟨_,_,.inl ⟨rfl,rfl⟩,o1,?_⟩)|((with_reducible show RM.wpOp _ _ (.load _ _) _ _ _);refine RM.bC rfl rfl rfl g1 ?_)|((with_reducible show RM.wpOp _ _ (.load _ _) _ _ _);refine RM.bC rfl rfl rfl g2 ?_)|refine u1 ?_|refine u2 ?_|fail
    exact ⟨(i+1,R),⟨⟨by dsimp only;omega,.inl (by dsimp only;omega)⟩,hpr,hsi.done (.inr (by show aH R (j - 1)≤aH R j;omega))⟩,(by dsimp only;omega),ah.to (l:=[(0,.aJ 0 v 0 N cc),(1,af (a:Nat)),(2,af (b:Nat)),(6,af ((i+1):Nat))]) (hp:=[aA R v]) 1 rfl ⟨rfl,rfl,rfl,aE (by simp),trivial⟩ (qq6 _) rfl (av _ _)⟩
  ·have d1:decide ((a:Int) < (j:Int))=false:=decide_eq_false (by omega);refine qq1 ?_;repeat' first|refine u1 ?_|refine u2 ?_|fail
   exact ⟨(i+1,R),⟨⟨by dsimp only;omega,.inl (by dsimp only;omega)⟩,hpr,hsi.done (.inl (by omega))⟩,(by dsimp only;omega),ah.to (l:=[(0,.aJ 0 v 0 N cc),(1,af (a:Nat)),(2,af (b:Nat)),(6,af ((i+1):Nat))]) (hp:=[aA R v]) 1 rfl ⟨rfl,rfl,rfl,aE (by simp),trivial⟩ (qq6 _) rfl (av _ _)⟩
 ·have d0:decide ((i:Int) < (b:Int))=false:=decide_eq_false (by omega);have hz:=hQ S hpe fun p q h1 h2 h3=>hso p q h1 h2 (by omega);refine qq1 ?_;repeat' first|refine u1 ?_|refine u2 ?_|fail
  exact hz
end Go.Proofs.YtlpmfgmldmdggaaGreat
open Go Go.RM
namespace Go.Proofs.YtlpmfgmldmdggaaGreat
set_option maxRecDepth 100000
def gB (f:Nat→Int):Nat→List Int
 | 0=>[]
 | k+1=>gB f k++[f k]
def dS (f:Nat→Nat→Int) (n:Nat):Nat→List Int
 | 0=>[]
 | i+1=>dS f n i++gB (f i) n
theorem wW (f:Nat→Int):∀ k,(gB f k).length=k
 | 0=>rfl
 | k+1=>by unfold gB;rw [List.length_append,wW f k];rfl
theorem wX (f:Nat→Nat→Int) (n:Nat):∀ i,(dS f n i).length=i * n
 | 0=>by simp [dS]
 | i+1=>by unfold dS;rw [List.length_append,wX f n i,wW,Nat.succ_mul]
theorem B4 {f:Nat→Int} {v:Int}:∀ {k},v ∈ gB f k ↔ ∃ q,q < k∧v=f q
 | 0=>by simp [gB]
 | k+1=>by
  unfold gB;rw [List.mem_append,B4,List.mem_singleton];constructor
  ·rintro (⟨q,h1,h2⟩|h)
   ·exact ⟨q,by omega,h2⟩
   ·exact ⟨k,by omega,h⟩
  ·rintro ⟨q,h1,h2⟩;by_cases e:q=k
   ·exact .inr (e ▸ h2)
   ·exact .inl ⟨q,by omega,h2⟩
theorem gm {f:Nat→Nat→Int} {n:Nat} {v:Int}:∀ {i},v ∈ dS f n i ↔ ∃ j k,j < i∧k < n∧v=f j k
 | 0=>by simp [dS]
 | i+1=>by
  unfold dS;rw [List.mem_append,gm,B4];constructor
  ·rintro (⟨j,k,h1,h2,h3⟩|⟨k,h1,h2⟩)
   ·exact ⟨j,k,by omega,h2,h3⟩
   ·exact ⟨i,k,by omega,h1,h2⟩
  ·rintro ⟨j,k,h1,h2,h3⟩;by_cases e:j=i
   ·exact .inr ⟨k,h2,e ▸ h3⟩
   ·exact .inl ⟨j,k,by omega,h2,h3⟩
structure lH (P:Int→Bool) (l:List Int) (m:Int):Prop where
 mem:m ∈ l
 ok:P m=true
 low:∀ x ∈ l,P x=true→m≤x
theorem lH.uniq {P:Int→Bool} {l:List Int} {m n:Int} (h:lH P l m) (h2:lH P l n):m=n:=by have:=h.low n h2.mem h2.ok;have:=h2.low m h.mem h.ok;omega
theorem lH.perm {P:Int→Bool} {l l2:List Int} {m:Int} (h:lH P l m) (hp:l2.Perm l):lH P l2 m :=
 ⟨hp.mem_iff.2 h.mem,h.ok,fun x hx=>h.low x (hp.mem_iff.1 hx)⟩
def MS (P:Int→Bool) (s:Int × Bool) (v:Int):Int × Bool:=if (P v && (!s.2 || decide (v < s.1)))=true then (v,true) else s
def M9 (P:Int→Bool) (l:List Int):Int × Bool:=l.foldl (MS P) (0,false)
structure HC (P:Int→Bool) (l:List Int) (s:Int × Bool):Prop where
 yes:s.2=true→lH P l s.1
 no:s.2=false→∀ x ∈ l,P x=false
theorem Ll {P:Int→Bool} {l:List Int} {s:Int × Bool} (h:HC P l s) (v:Int):HC P (l++[v]) (MS P s v):=by
 unfold MS;obtain ⟨m,b⟩:=s
 have hm:∀ x,x ∈ l++[v]→x ∈ l∨x=v:=fun x hx=>by
  rcases List.mem_append.1 hx with hx|hx
  ·exact .inl hx
  ·exact .inr (List.mem_singleton.1 hx)
 cases hP:P v with
 | false =>
  rw [if_neg (by simp)]
  exact ⟨fun hb=>⟨List.mem_append_left _ (h.yes hb).mem,(h.yes hb).ok,fun x hx hx2=>by
   rcases hm x hx with hx|rfl
   ·exact (h.yes hb).low x hx hx2
   ·rw [hP] at hx2;cases hx2⟩,fun hb x hx=>by
   rcases hm x hx with hx|rfl
   ·exact h.no hb x hx
   ·exact hP⟩
 | true =>
  cases b with
  | false =>
   rw [if_pos (by simp)]
   exact ⟨fun _=>⟨List.mem_append_right _ (List.mem_singleton.2 rfl),hP,fun x hx hx2=>by
    rcases hm x hx with hx|rfl
    ·rw [h.no rfl x hx] at hx2;cases hx2
    ·exact Int.le_refl _⟩,fun hb=>Bool.noConfusion hb⟩
  | true =>
   by_cases hl:v < m
   ·rw [if_pos (by simp [hl])]
    exact ⟨fun _=>⟨List.mem_append_right _ (List.mem_singleton.2 rfl),hP,fun x hx hx2=>by
     rcases hm x hx with hx|rfl
     ·have:m≤x:=(h.yes rfl).low x hx hx2;show v≤x;omega
     ·exact Int.le_refl _⟩,fun hb=>Bool.noConfusion hb⟩
   ·rw [if_neg (by simp [hl])]
    exact ⟨fun _=>⟨List.mem_append_left _ (h.yes rfl).mem,(h.yes rfl).ok,fun x hx hx2=>by
     rcases hm x hx with hx|rfl
     ·exact (h.yes rfl).low x hx hx2
     ·show m≤x
      omega⟩,fun hb=>Bool.noConfusion hb⟩
theorem Lm (P:Int→Bool) (l:List Int):HC P l (M9 P l):=by
 suffices ∀ (l2 l1:List Int) (s:Int × Bool),HC P l1 s→HC P (l1++l2) (l2.foldl (MS P) s) from this l [] (0,false) ⟨fun h=>Bool.noConfusion h,fun _ x hx=>by cases hx⟩
 intro l2
 induction l2 with
 | nil=>intro l1 s h;rw [List.append_nil];exact h
 | cons v l2 ih =>intro l1 s h;have:=ih (l1++[v]) (MS P s v) (Ll h v);rw [List.append_assoc] at this;exact this
theorem HD {P:Int→Bool} {l:List Int} (h:∃ x ∈ l,P x=true):lH P l (M9 P l).1:=by
 have ho:=Lm P l
 cases hb:(M9 P l).2 with
 | true=>exact ho.yes hb
 | false =>obtain ⟨x,hx,hP⟩:=h;rw [ho.no hb x hx] at hP;cases hP
theorem Ft {P:Int→Bool} {S:List Int} (hs:Sd lg S 0 S.length) (h:∃ x ∈ S,P x=true):∃ k:Nat,sS P S=k∧k < S.length∧lH P S (aH S k):=by
 obtain ⟨x,hx,hP⟩:=h
 cases hf:S.findIdx? P with
 | none =>rw [List.findIdx?_eq_none_iff] at hf;rw [hf x hx] at hP;cases hP
 | some k =>
  refine ⟨k,by unfold sS;rw [hf],?_⟩;rw [List.findIdx?_eq_some_iff_getElem] at hf;obtain ⟨hk,h1,h2⟩:=hf;have e:S[k]=aH S k:=by have:=l5 hk;rw [List.getElem?_eq_getElem hk] at this;exact Option.some.inj this
  rw [e] at h1;refine ⟨hk,by rw [←e];exact List.getElem_mem hk,h1,fun y hy hPy=>?_⟩;obtain ⟨q,hq,rfl⟩:=List.getElem_of_mem hy;have e2:S[q]=aH S q:=by have:=l5 hq;rw [List.getElem?_eq_getElem hq] at this;exact Option.some.inj this
  by_cases hqk:q < k
  ·have:=h2 q hqk;rw [hPy] at this;exact absurd rfl this
  ·rw [e2];exact hs k q (qq5 _) (by omega) hq
def L9 (c:aL) (p:bE):List Int:=dS (fun i k=>cU c p i (k:Int)) (p.turns.toNat+1) c.aD.length
def wY (c:aL) (p:bE):Int:=(M9 (oZ c p) (L9 c p)).1
def Na (c:aL) (p:bE):AV:=.tp [af (if kJ c p=0 then wY c p else 0),af (kJ c p)]
theorem Ln {c:aL} {p:bE} (hp:ob p) {x:Int} (h:∀ i,i < c.aD.length→cU c p i ((0:Nat):Int)≤x):oZ c p x=true:=by
 have hnd:∀ i,i < c.aD.length→fH c p x i=0:=fun i hi=>by unfold fH yF;rw [if_neg (by have:=h i hi;omega)]
 have h1:∀ n,n≤c.aD.length→z6 c p x n=true∧cw (fH c p x) n=0:=by
  intro n
  induction n with
  | zero=>intro _;exact ⟨rfl,rfl⟩
  | succ n ih =>
   intro hn;obtain ⟨a1,a2⟩:=ih (by omega);have hz:=hnd n (by omega);have:=hp.turns;constructor
   ·unfold z6;rw [a1,hz,decide_eq_false (by omega)];rfl
   ·unfold cw;rw [a2,hz]
 obtain ⟨a1,a2⟩:=h1 _ (qq6 _);unfold oZ;rw [a1,a2,decide_eq_true]
 ·rfl
 ·exact Int.mul_nonneg (by have:=hp.turns;omega) (by have:=hp.aR;omega)
theorem De (f:Nat→Int):∀ n,0 < n→∃ j,j < n∧∀ i,i < n→f i≤f j
 | 0,h=>absurd h (by omega)
 | 1,_=>⟨0,by omega,fun i hi=>by rw [show i=0 by omega];exact Int.le_refl _⟩
 | n+2,_=>by
  obtain ⟨j,h1,h2⟩:=De f (n+1) (by omega);by_cases h:f j≤f (n+1)
  ·refine ⟨n+1,by omega,fun i hi=>?_⟩;by_cases e:i=n+1
   ·rw [e];exact Int.le_refl _
   ·have:=h2 i (by omega);omega
  ·refine ⟨j,by omega,fun i hi=>?_⟩;by_cases e:i=n+1
   ·rw [e];omega
   ·exact h2 i (by omega)
theorem Lo {c:aL} (hg:Good c) {p:bE} (hp:ob p):∃ x ∈ L9 c p,oZ c p x=true:=by obtain ⟨j,hj,hm⟩:=De (fun i=>cU c p i ((0:Nat):Int)) c.aD.length (by have:=hg.aD;omega);exact ⟨cU c p j ((0:Nat):Int),gm.2 ⟨j,0,hj,by omega,rfl⟩,Ln hp hm⟩
theorem gP {c:aL} (hg:Good c) {p:bE} (hp:ob p):lH (oZ c p) (L9 c p) (wY c p):=HD (Lo hg hp)
