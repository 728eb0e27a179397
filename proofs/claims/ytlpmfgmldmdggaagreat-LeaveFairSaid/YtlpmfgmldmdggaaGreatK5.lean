/-
  Contracts of the program's functions and of the document's. Lemmas alone; their conditions stand in them.
-/
import Derived.Test.YtlpmfgmldmdggaaGreatK4
open Go Go.RM
namespace Go.Proofs.YtlpmfgmldmdggaaGreat
set_option maxRecDepth 100000
set_option maxHeartbeats 4000000
def Ht (l:List Int):Nat→Int
 | 0=>aO l 0
 | k+1=>max (Ht l k) (aO l (k+1))
def Ii (l:List Int):Int:=Ht l (l.length - 1)
theorem Cy (one:Bool) (l:List Int) (f:Bool) (hl:l.length≤maxLen) (h0:0 < l.length):Pu one 48 [.sl (ints l) f] (af (Ii l)):=by
 have el:((ints l).length:Int)=l.length:=by simp
 have hl':l.length≤maxLen:=hl;simp only [maxLen] at hl';have h00:(ints l)[((0:Nat):Int).toNat]?=some (eI (aO l 0)):=by rw [dm h0];rw [show l[0]=aO l 0 from by have:=lV h0;rw [List.getElem?_eq_getElem h0] at this;exact Option.some.inj this]
 refine ah.body (fn:=Tryz.f48) rfl rfl rfl rfl ?_;refine qq1 ?_;repeat' first|refine u1 ?_|(refine ⟨[af (aO l 0)],⟨by omega,h00⟩,rfl,?_⟩)|refine u2 ?_|fail
 refine ay.aN (ak.to (l:=[(0,.sl (ints l) f),(3,af (Ht l (1 - 1))),(4,af (1:Nat))]) (hp:=[]) 0 rfl ⟨rfl,rfl,rfl,trivial⟩ (qq5 _) rfl rfl) ?_;refine ay.loop (fun k:Nat=>1≤k∧k≤l.length) (fun k=>⟨aT [(0,.sl (ints l) f),(3,af (Ht l (k - 1))),(4,af (k:Nat))],[],bJ.none,false,0⟩) (fun k=>l.length - k) ?_ 1 ⟨qq6 _,h0⟩;rintro k ⟨h1,h2⟩;by_cases hlt:k < l.length
 ·have dl:decide ((k:Int) < ((ints l).length:Int))=true:=decide_eq_true (by omega);have hat:(ints l)[((k:Nat):Int).toNat]?=some (eI (aO l k)):=by rw [dm hlt];rw [show l[k]=aO l k from by have:=lV hlt;rw [List.getElem?_eq_getElem hlt] at this;exact Option.some.inj this]
  have hs:Ht l (k+1 - 1)=max (Ht l (k - 1)) (aO l k):=by obtain ⟨q,rfl⟩:∃ q,k=q+1:=⟨k - 1,by omega⟩;rfl
  refine qq1 ?_;repeat' first|refine u1 ?_|(refine ⟨[af (aO l k)],⟨by omega,hat⟩,rfl,?_⟩)|refine u2 ?_|fail
  exact ⟨k+1,⟨by omega,hlt⟩,(by dsimp only;omega),ak.to (l:=[(0,.sl (ints l) f),(3,af (Ht l ((k+1) - 1))),(4,af ((k+1):Nat))]) 0 rfl ⟨rfl,by rw [hs];rfl,aH (by simp),trivial⟩ (qq5 _) rfl rfl⟩
 ·have dl:decide ((k:Int) < ((ints l).length:Int))=false:=decide_eq_false (by omega);have hk:k=l.length:=by omega
  subst hk;refine qq1 ?_;repeat' first|refine u1 ?_|refine u2 ?_|fail
  exact ⟨[_],⟨Fz.deep rfl,trivial⟩,rfl⟩
end Go.Proofs.YtlpmfgmldmdggaaGreat
open Go Go.RM
namespace Go.Proofs.YtlpmfgmldmdggaaGreat
set_option maxRecDepth 100000
set_option maxHeartbeats 4000000
abbrev eV (c:aP) (p:bW) (m0 m1 m2:Nat):List AV:=[.sl (c.aB.map bE) false,.sl (c.aA.map bS) false,af c.least,af p.turns,af p.days,af p.aF,af (m0:Nat),af (m1:Nat),af (m2:Nat)]
def kr (a m:Nat):Bool:=!decide ((m:Int)=0) && decide (((m &&& (18446744073709551615 - a):Nat):Int)=0)
def zx (m0 m1 m2 a:Nat):Bool:=!(kr a m0 || (kr a m1 || kr a m2))
theorem Cz (one:Bool) (a m:Nat) (ha:a < 32) (hm:m < 32):ah TT TB one (.fn 111 [] [.pt [af (a:Nat)] 0]) [af (m:Nat)] (BB (kr a m)):=by
 unfold kr
 cases e1:decide ((m:Int)=0) with
 | true =>
  have e2:(!decide ((m:Int)=0))=false:=by rw [e1];rfl
  refine ah.body (fn:=Tryz.f111) rfl rfl rfl rfl ?_;refine qq1 ?_;repeat' first|refine u1 ?_|refine u2 ?_|fail
  exact ⟨[_],⟨Fz.deep rfl,trivial⟩,rfl⟩
 | false =>
  have e2:(!decide ((m:Int)=0))=true:=by rw [e1];rfl
  refine ah.body (fn:=Tryz.f111) rfl rfl rfl rfl ?_;refine qq1 ?_;repeat' first|refine u1 ?_|((with_reducible show aQ _ _ _ _ _ _ _ _ _);refine RM.JR (m:=m) (n:=a) rfl rfl (by omega) (by omega) ?_)|refine u2 ?_|fail
  exact ⟨[_],⟨Fz.deep rfl,trivial⟩,rfl⟩
theorem Bo (one:Bool) (c:aP) (p:bW) (m0 m1 m2 a:Nat) (h0:m0 < 32) (h1:m1 < 32) (h2:m2 < 32) (ha:a < 32):Pu one 79 [.ag (eV c p m0 m1 m2),af (a:Nat)] (BB (zx m0 m1 m2 a)):=by
 have o1:=lT one 111 [] [.pt [af (a:Nat)] 0] rfl (fun x=>kr a x.toNat) [(m0:Int),(m1:Int),(m2:Int)] true (by simp [maxLen]) (fun x hx=>by
  rcases List.mem_cons.1 hx with rfl|hx
  ·exact Cz one a m0 ha h0
  ·rcases List.mem_cons.1 hx with rfl|hx
   ·exact Cz one a m1 ha h1
   ·rw [List.mem_singleton.1 hx]
    exact Cz one a m2 ha h2)
 have e:([(m0:Int),(m1:Int),(m2:Int)].any fun x=>kr a x.toNat)=(kr a m0 || (kr a m1 || kr a m2)):=by simp only [List.any_cons,List.any_nil,Bool.or_false,Int.toNat_natCast]
 rw [e] at o1;unfold zx
 generalize (kr a m0 || (kr a m1 || kr a m2))=b at *
 refine ah.body (fn:=Tryz.f79) rfl rfl rfl rfl ?_;refine qq1 ?_;repeat' first|(refine RM.MU (els:=ints [(m0:Int),(m1:Int),(m2:Int)]) rfl rfl (Nat.le_of_ble_eq_true rfl) (Nat.le_of_ble_eq_true rfl) ⟨rfl,(fun el hel=>by obtain ⟨x,_,rfl⟩:=List.mem_map.1 hel;rfl),rfl⟩ ?_)|((with_reducible refine qq3 ?_);refine ah.call o1 rfl rfl ?_)|refine u1 ?_|refine u2 ?_|fail
 exact ⟨[_],⟨Fz.deep rfl,trivial⟩,rfl⟩
theorem Bp (one:Bool) (c:aP) (hg:Good c) (p:bW) (hp:uz p) (m0 m1 m2:Nat) (i:Nat) (hi:i < c.aA.length) (n:Int) (hn:0≤n∧n≤p.turns):Pu one 80 [.ag (eV c p m0 m1 m2),af (i:Int),af n] (af (En c p i n)):=by
 have em:((c.aA.map bS).length:Int)=c.aA.length:=by simp
 have eg:((c.aB.map bE).length:Int)=c.aB.length:=by simp
 obtain ⟨mn,rk,w,ms,ra,rb,rc,rd,e,hmt,hrt,hrk,hb1,hb2,h01,h02,_⟩:=rz hg (k:=i) hi;unfold En;rw [h01,h02];obtain ⟨t,d,aw⟩:=p;obtain ⟨p1,p2,p3⟩:=hp
 dsimp only at *
 have hq:=Ig (w:=w) hb1 p1 p2 hn;obtain ⟨q1,q2,q3,q4,q5⟩:=hq;have hbi:-440000≤uc w e t d n∧uc w e t d n≤600000:=by omega
 rw [←q5];show Pu one 80 [.ag [.sl (c.aB.map bE) false,.sl (c.aA.map bS) false,af c.least,af t,af d,af aw,af (m0:Nat),af (m1:Nat),af (m2:Nat)],af (i:Int),af n] _;refine ah.body (fn:=Tryz.f80) rfl rfl rfl rfl ?_;refine qq1 ?_;repeat' first|refine u1 ?_|(refine ⟨[ST mn,af rk,af w,BB ms],⟨by omega,hmt⟩,rfl,?_⟩)|(refine ⟨[ST ra,af rb,af rc,af rd,af e],⟨by omega,hrt⟩,rfl,?_⟩)|refine u2 ?_|fail
 exact ⟨[_],⟨Fz.deep rfl,trivial⟩,rfl⟩
end Go.Proofs.YtlpmfgmldmdggaaGreat
open Go Go.RM
namespace Go.Proofs.YtlpmfgmldmdggaaGreat
set_option maxRecDepth 100000
set_option maxHeartbeats 4000000
def gy (c:aP) (i:Nat):Nat:=(((c.aA[i]?).map m8.kC).getD 9).toNat
def aI (c:aP) (r:Nat):Nat→Nat
 | 0=>0
 | k+1=>if gy c k=r then aI c r k ||| 2 ^ k else aI c r k
theorem Dq (c:aP) (r:Nat):∀ k,aI c r k < 2 ^ k
 | 0=>Nat.one_pos
 | k+1=>by
  have h:=Dq c r k;have h2:2 ^ (k+1)=2 * 2 ^ k:=by rw [Nat.pow_succ,Nat.mul_comm]
  unfold aI;split
  ·exact Nat.or_lt_two_pow (by omega) (by omega)
  ·omega
theorem jF {c:aP} (r:Nat) {k:Nat} (hk:k≤5):aI c r k < 32:=Nat.lt_of_lt_of_le (Dq c r k) (Nat.pow_le_pow_right (by decide) hk)
theorem Bq (c:aP) (r:Nat):∀ k i,(aI c r k).testBit i=(decide (i < k) && decide (gy c i=r))
 | 0,i=>by simp [aI]
 | k+1,i=>by
  have h:=Bq c r k i;unfold aI;by_cases hik:i=k
  ·subst hik;by_cases hr:gy c i=r
   ·rw [if_pos hr,Nat.testBit_or,h,Nat.testBit_two_pow_self];simp [hr]
   ·rw [if_neg hr,h];simp [hr]
  ·have e:decide (i < k+1)=decide (i < k):=by
    by_cases h1:i < k
    ·rw [decide_eq_true h1,decide_eq_true (by omega)]
    ·rw [decide_eq_false h1,decide_eq_false (by omega)]
   rw [e];by_cases hr:gy c k=r
   ·rw [if_pos hr,Nat.testBit_or,h,Nat.testBit_two_pow_of_ne (Ne.symm hik),Bool.or_false]
   ·rw [if_neg hr,h]
abbrev Li (c:aP) (p:bW):AV:=.ag (eV c p (aI c 0 c.aA.length) (aI c 1 c.aA.length) (aI c 2 c.aA.length))
abbrev L6:AV:=.ag [.fl (.slice none 0 0),.fl (.slice none 0 0),af 0,af 0,af 0,af 0,af 0,af 0,af 0]
theorem x8 (one:Bool) (c:aP) (h:c.Ok) (p:bW) (he:nQ c p ≠ 0):Pu one 75 [.ag (aD c),.ag (bX p)] (.tp [L6,af (nQ c p)]):=by
 have o1:=tL one c h p;have d1:(!decide (nQ c p=0))=true:=by rw [decide_eq_false he];rfl
 generalize nQ c p=e at *
 refine ah.body (fn:=Tryz.f75) rfl rfl rfl rfl ?_;refine aa (mu:=fun t=>Nat.beq t 4) ?_;repeat' first|refine u1 ?_|((with_reducible refine qq3 ?_);refine ah.call o1 rfl rfl ?_)|refine u2 ?_|fail
 exact ⟨[_,_],⟨Fz.deep rfl,Fz.deep rfl,trivial⟩,rfl⟩
theorem Br (one:Bool) (c:aP) (h:c.Ok) (p:bW) (he:nQ c p=0):Pu one 75 [.ag (aD c),.ag (bX p)] (.tp [Li c p,af 0]):=by
 have o1:=tL one c h p;obtain ⟨hg,hp⟩:=Bn he;have hm5:=hg.aA;have hr3:=hg.aB;have em:((c.aA.map bS).length:Int)=c.aA.length:=by simp
 have d1:(!decide ((0:Int)=0))=false:=rfl;rw [he] at o1;refine ah.body (fn:=Tryz.f75) rfl rfl rfl rfl ?_;refine aa (mu:=fun t=>Nat.beq t 4) ?_;repeat' first|refine u1 ?_|((with_reducible refine qq3 ?_);refine ah.call o1 rfl rfl ?_)|refine u2 ?_|fail
 refine ay.aN (ak.to (l:=[(2,.pt (aD c) 0),(3,.pt (bX p) 0),(4,.ptr 0 0 0),(5,af 0),(19,.sl (c.aA.map bS) false),(20,af (c.aA.length:Int)),(21,af (0:Nat))]) (hp:=[.cells (eV c p (aI c 0 0) (aI c 1 0) (aI c 2 0)) 0 0]) 1 rfl ⟨rfl,rfl,rfl,rfl,rfl,aH em,rfl,trivial⟩ (qq5 _) rfl rfl) ?_;refine ay.loop (fun k:Nat=>k≤c.aA.length) (fun k=>⟨aT [(2,.pt (aD c) 0),(3,.pt (bX p) 0),(4,.ptr 0 0 0),(5,af 0),(19,.sl (c.aA.map bS) false),(20,af (c.aA.length:Int)),(21,af (k:Nat))],[.cells (eV c p (aI c 0 k) (aI c 1 k) (aI c 2 k)) 0 0],bJ.none,false,0⟩) (fun k=>c.aA.length - k) ?_ 0 (qq5 _);intro k hk;by_cases hlt:k < c.aA.length
 ·have dl:decide ((k:Int) < (c.aA.length:Int))=true:=decide_eq_true (by omega);obtain ⟨mn,rk,w,ms,ra,rb,rc,rd,e,hmt,hrt,hrk,hb1,hb2,h01,h02,hrk2⟩:=rz hg (k:=k) hlt;have hra:gy c k=rk.toNat:=by unfold gy;rw [hrk2];rfl
  have s0:aI c 0 (k+1)=if gy c k=0 then aI c 0 k ||| 2 ^ k else aI c 0 k:=rfl;have s1:aI c 1 (k+1)=if gy c k=1 then aI c 1 k ||| 2 ^ k else aI c 1 k:=rfl;have s2:aI c 2 (k+1)=if gy c k=2 then aI c 2 k ||| 2 ^ k else aI c 2 k:=rfl;have b0:=jF (c:=c) 0 (k:=k) (by omega);have b1:=jF (c:=c) 1 (k:=k) (by omega);have b2:=jF (c:=c) 2 (k:=k) (by omega);have bk:2 ^ k < 32:=by have:(2:Nat) ^ k≤2 ^ 4:=Nat.pow_le_pow_right (by decide) (by omega);omega
  rw [hra] at s0 s1 s2;have hk8:k < 8:=by omega
  generalize aI c 0 k=x0 at *
  generalize aI c 1 k=x1 at *
  generalize aI c 2 k=x2 at *
  obtain hz|hz|hz:rk=0∨rk=1∨rk=2:=by omega
  ·subst hz;rw [if_pos (by rfl)] at s0;rw [if_neg (by decide)] at s1 s2;refine aa (mu:=fun t=>Nat.beq t 4) ?_;repeat' first|((with_reducible show aQ _ _ _ _ _ _ _ _ _);refine RM.v8 (j:=k) rfl rfl hk8 ?_)|((with_reducible show aQ _ _ _ _ _ _ _ _ _);refine RM.Ie (m:=x0) (n:=2 ^ k) rfl rfl (by omega) (by omega) ?_)|refine u1 ?_|(refine ⟨[ST mn,af 0,af w,BB ms],⟨by omega,hmt⟩,rfl,?_⟩)|refine u2 ?_|fail
   exact ⟨k+1,hlt,(by dsimp only;omega),ak.to (l:=[(2,.pt (aD c) 0),(3,.pt (bX p) 0),(4,.ptr 0 0 0),(5,af 0),(19,.sl (c.aA.map bS) false),(20,af (c.aA.length:Int)),(21,af ((k+1):Nat))]) (hp:=[.cells (eV c p (aI c 0 (k+1)) (aI c 1 (k+1)) (aI c 2 (k+1))) 0 0]) 1 (by show _=[AB.cells (eV c p (aI c 0 (k+1)) (aI c 1 (k+1)) (aI c 2 (k+1))) 0 0];rw [s0,s1,s2];rfl) ⟨rfl,rfl,rfl,rfl,rfl,rfl,aH (by simp),trivial⟩ (qq5 _) rfl rfl⟩
  ·subst hz;rw [if_pos (by rfl)] at s1;rw [if_neg (by decide)] at s0 s2;refine aa (mu:=fun t=>Nat.beq t 4) ?_;repeat' first|((with_reducible show aQ _ _ _ _ _ _ _ _ _);refine RM.v8 (j:=k) rfl rfl hk8 ?_)|((with_reducible show aQ _ _ _ _ _ _ _ _ _);refine RM.Ie (m:=x1) (n:=2 ^ k) rfl rfl (by omega) (by omega) ?_)|refine u1 ?_|(refine ⟨[ST mn,af 1,af w,BB ms],⟨by omega,hmt⟩,rfl,?_⟩)|refine u2 ?_|fail
   exact ⟨k+1,hlt,(by dsimp only;omega),ak.to (l:=[(2,.pt (aD c) 0),(3,.pt (bX p) 0),(4,.ptr 0 0 0),(5,af 0),(19,.sl (c.aA.map bS) false),(20,af (c.aA.length:Int)),(21,af ((k+1):Nat))]) (hp:=[.cells (eV c p (aI c 0 (k+1)) (aI c 1 (k+1)) (aI c 2 (k+1))) 0 0]) 1 (by show _=[AB.cells (eV c p (aI c 0 (k+1)) (aI c 1 (k+1)) (aI c 2 (k+1))) 0 0];rw [s0,s1,s2];rfl) ⟨rfl,rfl,rfl,rfl,rfl,rfl,aH (by simp),trivial⟩ (qq5 _) rfl rfl⟩
  ·subst hz;rw [if_pos (by rfl)] at s2;rw [if_neg (by decide)] at s0 s1;refine aa (mu:=fun t=>Nat.beq t 4) ?_;repeat' first|((with_reducible show aQ _ _ _ _ _ _ _ _ _);refine RM.v8 (j:=k) rfl rfl hk8 ?_)|((with_reducible show aQ _ _ _ _ _ _ _ _ _);refine RM.Ie (m:=x2) (n:=2 ^ k) rfl rfl (by omega) (by omega) ?_)|refine u1 ?_|(refine ⟨[ST mn,af 2,af w,BB ms],⟨by omega,hmt⟩,rfl,?_⟩)|refine u2 ?_|fail
   exact ⟨k+1,hlt,(by dsimp only;omega),ak.to (l:=[(2,.pt (aD c) 0),(3,.pt (bX p) 0),(4,.ptr 0 0 0),(5,af 0),(19,.sl (c.aA.map bS) false),(20,af (c.aA.length:Int)),(21,af ((k+1):Nat))]) (hp:=[.cells (eV c p (aI c 0 (k+1)) (aI c 1 (k+1)) (aI c 2 (k+1))) 0 0]) 1 (by show _=[AB.cells (eV c p (aI c 0 (k+1)) (aI c 1 (k+1)) (aI c 2 (k+1))) 0 0];rw [s0,s1,s2];rfl) ⟨rfl,rfl,rfl,rfl,rfl,rfl,aH (by simp),trivial⟩ (qq5 _) rfl rfl⟩
 ·have dl:decide ((k:Int) < (c.aA.length:Int))=false:=decide_eq_false (by omega);have hkn:k=c.aA.length:=by omega
  subst hkn;refine aa (mu:=fun t=>Nat.beq t 4) ?_;repeat' first|refine u1 ?_|refine u2 ?_|fail
  exact ⟨[_,_],⟨Fz.deep rfl,Fz.deep rfl,trivial⟩,rfl⟩
