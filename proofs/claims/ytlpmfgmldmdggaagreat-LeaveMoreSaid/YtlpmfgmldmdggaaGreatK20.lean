/-
  Contracts of the program's functions and of the document's. Lemmas alone; their conditions stand in them.
-/
import Derived.Test.YtlpmfgmldmdggaaGreatK18
import Derived.Test.YtlpmfgmldmdggaaGreatK19
open Go Go.RM
namespace Go.Proofs.YtlpmfgmldmdggaaGreat
set_option maxRecDepth 100000
set_option maxHeartbeats 4000000
theorem JI (one:Bool) (S0:List Int) {a b N:Nat} (hN:S0.length=N) (hb:b≤N) (hab:a < b) (h9:N≤1000) {v cc:Nat} {aF:bq} {Q:AV→List AB→bq→Prop} (hQ:∀ S:List Int,PR S0 S a b→Sd lg S a b→Q (.tp []) [aA S v] aF) :
  au TT TB one (.fn 133 [] []) [.aJ 0 v 0 N cc,af (a:Nat),af (b:Nat)] [aA S0 v] aF Q:=by
 refine au.body (fn:=Tryz.f133) rfl rfl rfl ?_;have hba:((b - a:Nat):Int)=(b:Int) - (a:Int):=by omega
 obtain ⟨q,hq⟩:∃ q:Nat,(q:Int)=((b:Int) - (a:Int) - 1) / 2:=⟨(((b:Int) - (a:Int) - 1) / 2).toNat,Int.toNat_of_nonneg (by omega)⟩;refine qq1 ?_;repeat' first|refine u1 ?_|refine u2 ?_|fail
 refine aB.aO (ah.to (l:=[(0,.aJ 0 v 0 N cc),(6,af (a:Nat)),(7,af 0),(8,af ((b - a:Nat):Int)),(9,af (((q+1:Nat):Nat) - 1))]) (hp:=[aA S0 v]) 1 rfl ⟨rfl,rfl,rfl,aE hba.symm,aE (by omega),trivial⟩ (qq6 _) rfl (av _ _)) ?_;refine aB.loop (fun x:Nat × List Int=>x.1≤N∧PR S0 x.2 a b∧yG lg x.2 a x.1 (b - a)) (fun x=>⟨aM [(0,.aJ 0 v 0 N cc),(6,af (a:Nat)),(7,af 0),(8,af ((b - a:Nat):Int)),(9,af ((x.1:Nat) - 1))],[aA x.2 v],aF,false,1⟩) (fun x=>x.1) ?_ (q+1,S0) ⟨by dsimp only;omega,PR.refl _ _ _,yG.leaves (by dsimp only;omega)⟩;rintro ⟨n,R⟩ ⟨hn9,hpr,hh⟩;dsimp only at hn9 hpr hh;have hRl:R.length=N:=by rw [hpr.len,hN]
 show aB _ _ _ _ ⟨aM [(0,.aJ 0 v 0 N cc),(6,af (a:Nat)),(7,af 0),(8,af ((b - a:Nat):Int)),(9,af ((n:Nat) - 1))],[aA R v],aF,false,1⟩ _;by_cases hn:1≤n
 ·have d1:decide ((0:Int)≤(n:Int) - 1)=true:=decide_eq_true (by omega);refine qq1 ?_;repeat' first|refine u1 ?_|refine u2 ?_|fail
  rw [show (n:Int) - 1=((n - 1:Nat):Int) by omega];refine H6 one R (lo:=n - 1) hRl (by omega) h9 (by omega) (by rw [show n - 1+1=n by omega];exact hh) (fun S hp hs=>?_);repeat' first|refine u1 ?_|refine u2 ?_|fail
  exact ⟨(n - 1,S),⟨by dsimp only;omega,hpr.trans (hp.wide (qq6 _) (by omega)),hs⟩,(by dsimp only;omega),ah.to (l:=[(0,.aJ 0 v 0 N cc),(6,af (a:Nat)),(7,af 0),(8,af ((b - a:Nat):Int)),(9,af (((n - 1:Nat):Nat) - 1))]) (hp:=[aA S v]) 1 rfl ⟨rfl,rfl,rfl,rfl,rfl,trivial⟩ (qq6 _) rfl (av _ _)⟩
 ·have d1:decide ((0:Int)≤(n:Int) - 1)=false:=decide_eq_false (by omega);have hn0:n=0:=by omega
  subst hn0;have hst:=FD.zero (Nat.le_of_lt hab) hpr hh;refine qq1 ?_;repeat' first|refine u1 ?_|refine u2 ?_|fail
  refine aB.aO (ah.to (l:=[(0,.aJ 0 v 0 N cc),(6,af (a:Nat)),(7,af 0),(8,af ((b - a:Nat):Int)),(10,af (((b - a:Nat):Nat) - 1))]) (hp:=[aA R v]) 1 rfl ⟨rfl,rfl,rfl,rfl,rfl,trivial⟩ (qq6 _) rfl (av _ _)) ?_;refine aB.loop (fun x:Nat × List Int=>FD lg S0 x.2 a b x.1) (fun x=>⟨aM [(0,.aJ 0 v 0 N cc),(6,af (a:Nat)),(7,af 0),(8,af ((b - a:Nat):Int)),(10,af ((x.1:Nat) - 1))],[aA x.2 v],aF,false,1⟩) (fun x=>x.1) ?_ (b - a,R) hst;clear hst hh hpr hRl;rintro ⟨m,R⟩ hps;dsimp only at hps;have hRl:R.length=N:=by rw [hps.pr.len,hN]
  have hmb:=hps.nb;show aB _ _ _ _ ⟨aM [(0,.aJ 0 v 0 N cc),(6,af (a:Nat)),(7,af 0),(8,af ((b - a:Nat):Int)),(10,af ((m:Nat) - 1))],[aA R v],aF,false,1⟩ _;by_cases hm:1≤m
  ·have d2:decide ((0:Int)≤(m:Int) - 1)=true:=decide_eq_true (by omega);obtain ⟨n,rfl⟩:∃ n,m=n+1:=⟨m - 1,by omega⟩;obtain ⟨s1,s2,s3,s4⟩:=hps.swap (by omega);have hsl:=C3 R a (a+n);have b1:Nat.ble (0+(((a:Nat):Int)).toNat * 1+1) (ay R).length=true:=bS (k:=a) (by omega) (by omega);have b2:Nat.ble (0+(((a:Int)+(((n+1:Nat):Int) - 1))).toNat * 1+1) (aQ (ay R) [af (aH R (a+n))] (0+(((a:Nat):Int)).toNat * 1)).length=true:=cH (i:=a) (j:=a+n) (by omega) (by omega) (by omega) (by omega) _;have e1:=bp (R:=R) (i:=a) (j:=a+n) (p:=0+(((a:Nat):Int)).toNat * 1) (q:=0+(((a:Int)+(((n+1:Nat):Int) - 1))).toNat * 1) (by omega) (by omega) (by omega) (by omega);have y1:(ay R)[0+(((a:Int)+(((n+1:Nat):Int) - 1))).toNat * 1]?=some (af (aH R (a+n))):=ax (by omega) (by omega);have y2:(ay R)[0+(((a:Nat):Int)).toNat * 1]?=some (af (aH R (a))):=ax (by omega) (by omega);refine qq1 ?_;repeat' first|((with_reducible show RM.wpOp _ _ (.load _ _) _ _ _);refine RM.bC rfl rfl rfl y1 ?_)|((with_reducible show RM.wpOp _ _ (.load _ _) _ _ _);refine RM.bC rfl rfl rfl y2 ?_)|((with_reducible show aG _ _ _ _ _ _);refine RM.e9 rfl rfl rfl rfl rfl rfl b1 ?_)|((with_reducible show aG _ _ _ _ _ _);refine RM.e9 rfl rfl rfl rfl rfl rfl b2 ?_)|refine u1 ?_|refine u2 ?_|fail
   rw [show ((n+1:Nat):Int) - 1=((n:Nat):Int) by omega];have e2:=bp (R:=R) (i:=a) (j:=a+n) (p:=0+((a:Nat):Int).toNat * 1) (q:=0+((a:Int)+(n:Int)).toNat * 1) (by omega) (by omega) (by omega) (by omega);show au _ _ _ _ _ [AB.cells (aQ (aQ (ay R) [af (aH R (a+n))] (0+((a:Nat):Int).toNat * 1)) [af (aH R a)] (0+((a:Int)+(n:Int)).toNat * 1)) 1 v] _ _;rw [e2];refine H6 one (sw R a (a+n)) (lo:=0) (hi:=n) (by omega) (by omega) h9 (by omega) s2 (fun S hp hs=>?_);repeat' first|refine u1 ?_|refine u2 ?_|fail
   exact ⟨(n,S),FD.next (by omega) (by omega) s1 s3 s4 hp hs,(by dsimp only;omega),ah.to (l:=[(0,.aJ 0 v 0 N cc),(6,af (a:Nat)),(7,af 0),(8,af ((b - a:Nat):Int)),(10,af ((n:Nat) - 1))]) (hp:=[aA S v]) 1 rfl ⟨rfl,rfl,rfl,rfl,aE (by omega),trivial⟩ (qq6 _) rfl (av _ _)⟩
  ·have d2:decide ((0:Int)≤(m:Int) - 1)=false:=decide_eq_false (by omega);have hm0:m=0:=by omega
   subst hm0;have hz:=hQ R hps.pr (by have:=hps.Jd;rwa [Nat.add_zero] at this);refine qq1 ?_;repeat' first|refine u1 ?_|refine u2 ?_|fail
   exact hz
end Go.Proofs.YtlpmfgmldmdggaaGreat
open Go Go.RM
namespace Go.Proofs.YtlpmfgmldmdggaaGreat
set_option maxRecDepth 100000
set_option maxHeartbeats 4000000
abbrev PS:=List Int × Nat × Nat × Nat × Bool × Bool
theorem LL (one:Bool) {N:Nat} (h25:N≤25) {v cc:Nat} {aF:bq}:∀ (n:Nat) (S0:List Int) (a b l:Nat),b - a < n→S0.length=N→b≤N→a≤b→l≤100→rR lg S0 a b→∀ {Q:AV→List AB→bq→Prop},(∀ S:List Int,PR S0 S a b→Sd lg S a b→Q (.tp []) [aA S v] aF) →
  au TT TB one (.fn 116 [] []) [.aJ 0 v 0 N cc,af (a:Nat),af (b:Nat),af (l:Nat)] [aA S0 v] aF Q:=by
 intro n
 induction n with
 | zero =>intro S0 a b l hn;omega
 | succ n ih=>?_
 intro S0 a b l hn hN hb hab hl hpre Q hQ;refine au.body (fn:=Tryz.f116) rfl rfl rfl ?_;refine qq1 ?_;repeat' first|refine u1 ?_|refine u2 ?_|fail
 refine aB.aO (ah.to (l:=[(0,.aJ 0 v 0 N cc),(1,af (a:Nat)),(2,af (b:Nat)),(3,af (l:Nat)),(8,BB true),(9,BB true)]) (hp:=[aA S0 v]) 1 rfl ⟨rfl,rfl,rfl,rfl,rfl,rfl,trivial⟩ (qq6 _) rfl (av _ _)) ?_;refine aB.loop (fun x:PS=>PQ lg S0 x.1 a b x.2.1 x.2.2.1∧x.2.2.2.1≤100) (fun x=>(⟨aM [(0,.aJ 0 v 0 N cc),(1,af (x.2.1:Nat)),(2,af (x.2.2.1:Nat)),(3,af (x.2.2.2.1:Nat)),(8,BB x.2.2.2.2.1),(9,BB x.2.2.2.2.2)],[aA x.1 v],aF,false,1⟩:bP)) (fun x=>x.2.2.1 - x.2.1) ?_ (S0,a,b,l,true,true) ⟨PQ.start hab (by omega) hpre,hl⟩;clear hl hpre;rintro ⟨R,c,d,l,w,z⟩ ⟨hq,hl⟩;dsimp only at hq hl;show aB TT TB one (.block 1 (.seq (.region _ _ _) (.seq (.seq (.region _ _ _) (.cond _ _ _)) (.seq (.seq (.region _ _ _) (.cond _ _ _)) (.seq (.seq (.region _ _ _) (.cond _ _ _)) (.seq (.region _ _ _) (.seq (.seq (.region _ _ _) (.cond _ _ _)) (.seq (.seq (.region _ _ _) (.cond _ _ _)) (.seq (.seq (.region _ _ _) (.cond _ _ _)) _))))))))) (⟨aM [(0,.aJ 0 v 0 N cc),(1,af (c:Nat)),(2,af (d:Nat)),(3,af (l:Nat)),(8,BB w),(9,BB z)],[aA R v],aF,false,1⟩:bP) _;have hRl:R.length=N:=by rw [hq.pr.len,hN]
 have q1:=hq.ac;have q2:=hq.cd;have q3:=hq.db;refine aB.block ?_;refine qq2 ?_;repeat' first|refine u1 ?_|refine u2 ?_|fail
 refine iy (σ:=Unit) (fun _=>(⟨aM [(0,.aJ 0 v 0 N cc),(1,af (c:Nat)),(2,af (d:Nat)),(3,af (l:Nat)),(8,BB w),(9,BB z),(10,af ((d:Int) - (c:Int)))],[aA R v],aF,false,1⟩:bP)) (fun _=>c+12 < d) ?_ ?_
 ·by_cases h12:c+12 < d
  ·have d1:decide ((d:Int) - (c:Int)≤12)=false:=decide_eq_false (by omega);refine qq1 ?_;repeat' first|refine u1 ?_|refine u2 ?_|fail
   exact .is () (ah.to (l:=[(0,.aJ 0 v 0 N cc),(1,af (c:Nat)),(2,af (d:Nat)),(3,af (l:Nat)),(8,BB w),(9,BB z),(10,af ((d:Int) - (c:Int)))]) (hp:=[aA R v]) 1 rfl ⟨rfl,rfl,rfl,rfl,rfl,rfl,rfl,trivial⟩ (qq6 _) rfl (av _ _)) h12
  ·have d1:decide ((d:Int) - (c:Int)≤12)=true:=decide_eq_true (by omega);refine qq1 ?_;repeat' first|refine u1 ?_|refine u2 ?_|fail
   refine Lj one R hRl (by omega) (by omega) (by omega) (fun S hp hs=>?_);have hz:=hQ S (hq.mix hp).pr ((hq.mix hp).fin hs);repeat' first|refine u1 ?_|refine u2 ?_|fail
   exact hz
 intro _ h12;refine iy (σ:=Unit) (fun _=>(⟨aM [(0,.aJ 0 v 0 N cc),(1,af (c:Nat)),(2,af (d:Nat)),(3,af (l:Nat)),(8,BB w),(9,BB z),(10,af ((d:Int) - (c:Int)))],[aA R v],aF,false,1⟩:bP)) (fun _=>l ≠ 0) ?_ ?_
 ·by_cases l0:l=0
  ·subst l0;have d1:decide (((0:Nat):Int)=0)=true:=rfl;refine qq1 ?_;repeat' first|refine u1 ?_|refine u2 ?_|fail
   refine JI one R hRl (by omega) (by omega) (by omega) (fun S hp hs=>?_);have hz:=hQ S (hq.mix hp).pr ((hq.mix hp).fin hs);repeat' first|refine u1 ?_|refine u2 ?_|fail
   exact hz
  ·have d1:decide ((l:Int)=0)=false:=decide_eq_false (by omega);refine qq1 ?_;repeat' first|refine u1 ?_|refine u2 ?_|fail
   exact .is () (ah.to (l:=[(0,.aJ 0 v 0 N cc),(1,af (c:Nat)),(2,af (d:Nat)),(3,af (l:Nat)),(8,BB w),(9,BB z),(10,af ((d:Int) - (c:Int)))]) (hp:=[aA R v]) 1 rfl ⟨rfl,rfl,rfl,rfl,rfl,rfl,rfl,trivial⟩ (qq6 _) rfl (av _ _)) l0
 intro _ l0;refine iy (σ:=List Int × Nat) (fun x=>(⟨aM [(0,.aJ 0 v 0 N cc),(1,af (c:Nat)),(2,af (d:Nat)),(3,af (x.2:Nat)),(8,BB w),(9,BB z),(10,af ((d:Int) - (c:Int)))],[aA x.1 v],aF,false,1⟩:bP)) (fun x=>PQ lg S0 x.1 a b c d∧x.2≤100) ?_ ?_
 ·cases w with
  | true =>
   refine qq1 ?_;repeat' first|refine u1 ?_|refine u2 ?_|fail
   exact .is (R,l) (ah.to (l:=[(0,.aJ 0 v 0 N cc),(1,af (c:Nat)),(2,af (d:Nat)),(3,af (l:Nat)),(8,BB true),(9,BB z),(10,af ((d:Int) - (c:Int)))]) (hp:=[aA R v]) 1 rfl ⟨rfl,rfl,rfl,rfl,rfl,rfl,rfl,trivial⟩ (qq6 _) rfl (av _ _)) ⟨hq,hl⟩
  | false =>
   refine qq1 ?_;repeat' first|refine u1 ?_|refine u2 ?_|fail
   refine LD one R hRl (by omega) (by omega) (by omega) (fun S hp=>?_);repeat' first|refine u1 ?_|refine u2 ?_|fail
   exact .is (S,l - 1) (ah.to (l:=[(0,.aJ 0 v 0 N cc),(1,af (c:Nat)),(2,af (d:Nat)),(3,af ((l - 1):Nat)),(8,BB false),(9,BB z),(10,af ((d:Int) - (c:Int)))]) (hp:=[aA S v]) 1 rfl ⟨rfl,rfl,rfl,aE (by omega),rfl,rfl,rfl,trivial⟩ (qq6 _) rfl (av _ _)) ⟨hq.mix hp,by dsimp only;omega⟩
 clear hRl hl l0 hq;rintro ⟨R,l⟩ ⟨hq,hl⟩;dsimp only at hq hl ⊢;have hRl:R.length=N:=by rw [hq.pr.len,hN]
 refine qq2 ?_;repeat' first|refine u1 ?_|refine u2 ?_|fail
 refine LK one R hRl (by omega) (by omega) (by omega) (fun p h hp hh=>?_);repeat' first|refine u1 ?_|refine u2 ?_|fail
 refine iy (σ:=List Int × Nat × Nat) (fun x=>(⟨aM [(0,.aJ 0 v 0 N cc),(1,af (c:Nat)),(2,af (d:Nat)),(3,af (l:Nat)),(8,BB w),(9,BB z),(10,af ((d:Int) - (c:Int))),(11,af (x.2.1:Nat)),(12,af (x.2.2:Nat))],[aA x.1 v],aF,false,1⟩:bP)) (fun x=>PQ lg S0 x.1 a b c d∧c≤x.2.1∧x.2.1 < d∧x.2.2≤2) ?_ ?_
 ·by_cases h2:h=2
  ·subst h2;have d1:decide (((2:Nat):Int)=2)=true:=rfl;refine qq1 ?_;repeat' first|refine u1 ?_|refine u2 ?_|fail
   refine LI one R hRl (by omega) (by omega) (by omega) (fun S hps=>?_);repeat' first|refine u1 ?_|refine u2 ?_|fail
   exact .is (S,d - 1 - (p - c),1) (ah.to (l:=[(0,.aJ 0 v 0 N cc),(1,af (c:Nat)),(2,af (d:Nat)),(3,af (l:Nat)),(8,BB w),(9,BB z),(10,af ((d:Int) - (c:Int))),(11,af (d - 1 - (p - c):Nat)),(12,af (1:Nat))]) (hp:=[aA S v]) 1 rfl ⟨rfl,rfl,rfl,rfl,rfl,rfl,rfl,aE (by omega),rfl,trivial⟩ (qq6 _) rfl (av _ _)) ⟨hq.mix hps,by dsimp only;omega,by dsimp only;omega,by dsimp only;omega⟩
  ·have d1:decide ((h:Int)=2)=false:=decide_eq_false (by omega);refine qq1 ?_;repeat' first|refine u1 ?_|refine u2 ?_|fail
   exact .is (R,p,h) (ah.to (l:=[(0,.aJ 0 v 0 N cc),(1,af (c:Nat)),(2,af (d:Nat)),(3,af (l:Nat)),(8,BB w),(9,BB z),(10,af ((d:Int) - (c:Int))),(11,af (p:Nat)),(12,af (h:Nat))]) (hp:=[aA R v]) 1 rfl ⟨rfl,rfl,rfl,rfl,rfl,rfl,rfl,rfl,rfl,trivial⟩ (qq6 _) rfl (av _ _)) ⟨hq,hp.1,hp.2,hh⟩
 clear hRl hq hp hh;rintro ⟨R,p,h⟩ ⟨hq,hp1,hp2,hh⟩;dsimp only at hq hp1 hp2 hh ⊢;have hRl:R.length=N:=by rw [hq.pr.len,hN]
 refine iy (σ:=Unit) (fun _=>(⟨aM [(0,.aJ 0 v 0 N cc),(1,af (c:Nat)),(2,af (d:Nat)),(3,af (l:Nat)),(8,BB w),(9,BB z),(10,af ((d:Int) - (c:Int))),(11,af (p:Nat))],[aA R v],aF,false,1⟩:bP)) (fun _=>True) ?_ ?_
 ·by_cases h1:w=true∧z=true∧h=1
  ·obtain ⟨rfl,rfl,rfl⟩:=h1;have d1:decide (((1:Nat):Int)=1)=true:=rfl;refine qq1 ?_;repeat' first|refine u1 ?_|refine u2 ?_|fail
   refine LJ one R hRl (by omega) (by omega) (by omega) (fun bl hbl=>?_)
   cases bl with
   | true =>
    have hz:=hQ R hq.pr (hq.fin (hbl rfl));repeat' first|refine u1 ?_|refine u2 ?_|fail
    exact hz
   | false =>
    repeat' first|refine u1 ?_|refine u2 ?_|fail
    exact .is () (ah.to (l:=[(0,.aJ 0 v 0 N cc),(1,af (c:Nat)),(2,af (d:Nat)),(3,af (l:Nat)),(8,BB true),(9,BB true),(10,af ((d:Int) - (c:Int))),(11,af (p:Nat))]) (hp:=[aA R v]) 1 rfl ⟨rfl,rfl,rfl,rfl,rfl,rfl,rfl,rfl,trivial⟩ (qq6 _) rfl (av _ _)) trivial
  ·have hw:=show Nr ⟨aM [(0,.aJ 0 v 0 N cc),(1,af (c:Nat)),(2,af (d:Nat)),(3,af (l:Nat)),(8,BB w),(9,BB z),(10,af ((d:Int) - (c:Int))),(11,af (p:Nat))],[aA R v],aF,false,1⟩ (fun _:Unit=>(⟨aM [(0,.aJ 0 v 0 N cc),(1,af (c:Nat)),(2,af (d:Nat)),(3,af (l:Nat)),(8,BB w),(9,BB z),(10,af ((d:Int) - (c:Int))),(11,af (p:Nat))],[aA R v],aF,false,1⟩:bP)) (fun _=>True) from .is () (ah.to (l:=[(0,.aJ 0 v 0 N cc),(1,af (c:Nat)),(2,af (d:Nat)),(3,af (l:Nat)),(8,BB w),(9,BB z),(10,af ((d:Int) - (c:Int))),(11,af (p:Nat))]) (hp:=[aA R v]) 1 rfl ⟨rfl,rfl,rfl,rfl,rfl,rfl,rfl,rfl,trivial⟩ (qq6 _) rfl (av _ _)) trivial
   clear hw
   cases w with
   | true =>
    cases z with
    | true =>
     have d1:decide ((h:Int)=1)=false:=decide_eq_false fun e=>h1 ⟨rfl,rfl,by omega⟩;refine qq1 ?_;repeat' first|refine u1 ?_|refine u2 ?_|fail
     exact .is () (ah.to (l:=[(0,.aJ 0 v 0 N cc),(1,af (c:Nat)),(2,af (d:Nat)),(3,af (l:Nat)),(8,BB true),(9,BB true),(10,af ((d:Int) - (c:Int))),(11,af (p:Nat))]) (hp:=[aA R v]) 1 rfl ⟨rfl,rfl,rfl,rfl,rfl,rfl,rfl,rfl,trivial⟩ (qq6 _) rfl (av _ _)) trivial
    | false =>
     refine qq1 ?_;repeat' first|refine u1 ?_|refine u2 ?_|fail
     exact .is () (ah.to (l:=[(0,.aJ 0 v 0 N cc),(1,af (c:Nat)),(2,af (d:Nat)),(3,af (l:Nat)),(8,BB true),(9,BB false),(10,af ((d:Int) - (c:Int))),(11,af (p:Nat))]) (hp:=[aA R v]) 1 rfl ⟨rfl,rfl,rfl,rfl,rfl,rfl,rfl,rfl,trivial⟩ (qq6 _) rfl (av _ _)) trivial
   | false =>
    refine qq1 ?_;repeat' first|refine u1 ?_|refine u2 ?_|fail
    exact .is () (ah.to (l:=[(0,.aJ 0 v 0 N cc),(1,af (c:Nat)),(2,af (d:Nat)),(3,af (l:Nat)),(8,BB false),(9,BB z),(10,af ((d:Int) - (c:Int))),(11,af (p:Nat))]) (hp:=[aA R v]) 1 rfl ⟨rfl,rfl,rfl,rfl,rfl,rfl,rfl,rfl,trivial⟩ (qq6 _) rfl (av _ _)) trivial
 intro _ _;have g1:c ≠ 0→(ay R)[0+((c:Int) - 1).toNat * 1]?=some (af (aH R (c - 1))):=fun h0=>ax (by omega) (by omega);have g2:(ay R)[0+((p:Nat):Int).toNat * 1]?=some (af (aH R p)):=ax (by omega) (by omega);refine iy (σ:=Unit) (fun _=>(⟨aM [(0,.aJ 0 v 0 N cc),(1,af (c:Nat)),(2,af (d:Nat)),(3,af (l:Nat)),(8,BB w),(9,BB z),(10,af ((d:Int) - (c:Int))),(11,af (p:Nat))],[aA R v],aF,false,1⟩:bP)) (fun _=>True) ?_ ?_
 ·by_cases c0:c=0
  ·have d1:decide ((0:Int) < (c:Int))=false:=decide_eq_false (by omega);refine qq1 ?_;repeat' first|refine u1 ?_|refine u2 ?_|fail
   exact .is () (ah.to (l:=[(0,.aJ 0 v 0 N cc),(1,af (c:Nat)),(2,af (d:Nat)),(3,af (l:Nat)),(8,BB w),(9,BB z),(10,af ((d:Int) - (c:Int))),(11,af (p:Nat))]) (hp:=[aA R v]) 1 rfl ⟨rfl,rfl,rfl,rfl,rfl,rfl,rfl,rfl,trivial⟩ (qq6 _) rfl (av _ _)) trivial
  ·have d1:decide ((0:Int) < (c:Int))=true:=decide_eq_true (by omega);have g1:=g1 c0;have o1:=iw true (aH R (c - 1)) (aH R p)
   cases hls:decide (aH R (c - 1) < aH R p) with
   | true =>
    rw [hls] at o1;refine qq1 ?_;repeat' first|(refine ⟨_,_,.inl ⟨rfl,rfl⟩,o1,?_⟩)|((with_reducible show RM.wpOp _ _ (.load _ _) _ _ _);refine RM.bC rfl rfl rfl g1 ?_)|((with_reducible show RM.wpOp _ _ (.load _ _) _ _ _);refine RM.bC rfl rfl rfl g2 ?_)|refine u1 ?_|refine u2 ?_|fail
    exact .is () (ah.to (l:=[(0,.aJ 0 v 0 N cc),(1,af (c:Nat)),(2,af (d:Nat)),(3,af (l:Nat)),(8,BB w),(9,BB z),(10,af ((d:Int) - (c:Int))),(11,af (p:Nat))]) (hp:=[aA R v]) 1 rfl ⟨rfl,rfl,rfl,rfl,rfl,rfl,rfl,rfl,trivial⟩ (qq6 _) rfl (av _ _)) trivial
   | false =>
    rw [hls] at o1;have hle:aH R p≤aH R (c - 1):=by have:=of_decide_eq_false hls;omega
    refine qq1 ?_;repeat' first|(refine ⟨_,_,.inl ⟨rfl,rfl⟩,o1,?_⟩)|((with_reducible show RM.wpOp _ _ (.load _ _) _ _ _);refine RM.bC rfl rfl rfl g1 ?_)|((with_reducible show RM.wpOp _ _ (.load _ _) _ _ _);refine RM.bC rfl rfl rfl g2 ?_)|refine u1 ?_|refine u2 ?_|fail
    refine LH one R hRl (by omega) ⟨hp1,hp2⟩ (by omega) (fun S m hm=>?_);repeat' first|refine u1 ?_|refine u2 ?_|fail
    have q4:=hm.am;have q5:=hm.mb;exact ⟨(S,m,d,l,w,z),⟨hq.eqs hm c0 hle,hl⟩,(by dsimp only;omega),ah.to (l:=[(0,.aJ 0 v 0 N cc),(1,af (m:Nat)),(2,af (d:Nat)),(3,af (l:Nat)),(8,BB w),(9,BB z)]) (hp:=[aA S v]) 1 rfl ⟨rfl,rfl,rfl,rfl,rfl,rfl,trivial⟩ (qq6 _) rfl (av _ _)⟩
 intro _ _;clear g1 g2;refine qq1 ?_;repeat' first|refine u1 ?_|refine u2 ?_|fail
 refine Jy one R hRl (by omega) ⟨hp1,hp2⟩ (by omega) (fun S m bl hm=>?_);have q4:=hm.am;have q5:=hm.mb;by_cases hmm:m - c < d - m
 ·have d1:decide ((m:Int) - (c:Int) < (d:Int) - (m:Int))=true:=decide_eq_true (by omega);repeat' first|refine u1 ?_|refine u2 ?_|fail
  refine ih S c m l (by omega) (by rw [hm.pr.len,hRl]) (by omega) (by omega) hl (hq.MT hm) (fun T hp hs=>?_);repeat' first|refine u1 ?_|refine u2 ?_|fail
  exact ⟨(T,m+1,d,l,_,bl),⟨hq.left hm hp hs,hl⟩,(by dsimp only;omega),ah.to (l:=[(0,.aJ 0 v 0 N cc),(1,af ((m+1):Nat)),(2,af (d:Nat)),(3,af (l:Nat)),(8,BB _),(9,BB bl)]) (hp:=[aA T v]) 1 rfl ⟨rfl,aE (by simp),rfl,rfl,rfl,rfl,trivial⟩ (qq6 _) rfl (av _ _)⟩
 ·have d1:decide ((m:Int) - (c:Int) < (d:Int) - (m:Int))=false:=decide_eq_false (by omega);repeat' first|refine u1 ?_|refine u2 ?_|fail
  rw [show (m:Int)+1=((m+1:Nat):Int) by simp];refine ih S (m+1) d l (by omega) (by rw [hm.pr.len,hRl]) (by omega) (by omega) hl hm.MU (fun T hp hs=>?_);repeat' first|refine u1 ?_|refine u2 ?_|fail
  exact ⟨(T,c,m,l,_,bl),⟨hq.right hm hp hs,hl⟩,(by dsimp only;omega),ah.to (l:=[(0,.aJ 0 v 0 N cc),(1,af (c:Nat)),(2,af (m:Nat)),(3,af (l:Nat)),(8,BB _),(9,BB bl)]) (hp:=[aA T v]) 1 rfl ⟨rfl,rfl,rfl,rfl,rfl,rfl,trivial⟩ (qq6 _) rfl (av _ _)⟩
end Go.Proofs.YtlpmfgmldmdggaaGreat
open Go Go.RM
namespace Go.Proofs.YtlpmfgmldmdggaaGreat
set_option maxRecDepth 100000
set_option maxHeartbeats 4000000
theorem JJ (one:Bool):Pu one 141 [gQ 1] (af 1):=by
 refine ak.body (fn:=Tryz.f141) rfl rfl rfl rfl ?_;refine qq1 ?_;repeat' first|refine u1 ?_|refine u2 ?_|fail
 show aU TT BinOp.add 3 (Operand.tmp 19) (Operand.tmp 23) (af 0) (af 1) _ _;repeat' first|refine u1 ?_|refine u2 ?_|fail
 exact ⟨[_],⟨Fz.deep rfl,trivial⟩,rfl⟩
theorem JK (one:Bool):Pu one 141 [gQ 2] (af 2):=by
 refine ak.body (fn:=Tryz.f141) rfl rfl rfl rfl ?_;refine qq1 ?_;repeat' first|refine u1 ?_|refine u2 ?_|fail
 show aU TT BinOp.add 3 (Operand.tmp 19) (Operand.tmp 23) (af 0) (af 2) _ _;repeat' first|refine u1 ?_|refine u2 ?_|fail
 exact ⟨[_],⟨Fz.deep rfl,trivial⟩,rfl⟩
theorem JL (one:Bool):Pu one 141 [gQ 3] (af 2):=by
 refine ak.body (fn:=Tryz.f141) rfl rfl rfl rfl ?_;refine qq1 ?_;repeat' first|refine u1 ?_|refine u2 ?_|fail
 show aU TT BinOp.add 3 (Operand.tmp 19) (Operand.tmp 23) (af 0) (af 2) _ _;repeat' first|refine u1 ?_|refine u2 ?_|fail
 exact ⟨[_],⟨Fz.deep rfl,trivial⟩,rfl⟩
theorem JM (one:Bool):Pu one 141 [gQ 4] (af 3):=by
 refine ak.body (fn:=Tryz.f141) rfl rfl rfl rfl ?_;refine qq1 ?_;repeat' first|refine u1 ?_|refine u2 ?_|fail
 show aU TT BinOp.add 3 (Operand.tmp 19) (Operand.tmp 23) (af 0) (af 3) _ _;repeat' first|refine u1 ?_|refine u2 ?_|fail
 exact ⟨[_],⟨Fz.deep rfl,trivial⟩,rfl⟩
theorem JN (one:Bool):Pu one 141 [gQ 5] (af 3):=by
 refine ak.body (fn:=Tryz.f141) rfl rfl rfl rfl ?_;refine qq1 ?_;repeat' first|refine u1 ?_|refine u2 ?_|fail
 show aU TT BinOp.add 3 (Operand.tmp 19) (Operand.tmp 23) (af 0) (af 3) _ _;repeat' first|refine u1 ?_|refine u2 ?_|fail
 exact ⟨[_],⟨Fz.deep rfl,trivial⟩,rfl⟩
theorem JO (one:Bool):Pu one 141 [gQ 6] (af 3):=by
 refine ak.body (fn:=Tryz.f141) rfl rfl rfl rfl ?_;refine qq1 ?_;repeat' first|refine u1 ?_|refine u2 ?_|fail
 show aU TT BinOp.add 3 (Operand.tmp 19) (Operand.tmp 23) (af 0) (af 3) _ _;repeat' first|refine u1 ?_|refine u2 ?_|fail
 exact ⟨[_],⟨Fz.deep rfl,trivial⟩,rfl⟩
theorem JP (one:Bool):Pu one 141 [gQ 7] (af 3):=by
 refine ak.body (fn:=Tryz.f141) rfl rfl rfl rfl ?_;refine qq1 ?_;repeat' first|refine u1 ?_|refine u2 ?_|fail
 show aU TT BinOp.add 3 (Operand.tmp 19) (Operand.tmp 23) (af 0) (af 3) _ _;repeat' first|refine u1 ?_|refine u2 ?_|fail
 exact ⟨[_],⟨Fz.deep rfl,trivial⟩,rfl⟩
theorem B7 (one:Bool) {n:Nat} (h:1≤n∧n≤25):∃ k:Nat,k≤5∧Pu one 141 [gQ n] (af (k:Nat)):=by
 by_cases h8:8≤n
 ·obtain ⟨k,hk,_,_,h1⟩:=Aa one ⟨h8,h.2⟩;exact ⟨k,by omega,h1⟩
 ·obtain rfl|rfl|rfl|rfl|rfl|rfl|rfl:n=1∨n=2∨n=3∨n=4∨n=5∨n=6∨n=7:=by omega
  ·exact ⟨1,by decide,JJ one⟩
  ·exact ⟨2,by decide,JK one⟩
  ·exact ⟨2,by decide,JL one⟩
  ·exact ⟨3,by decide,JM one⟩
  ·exact ⟨3,by decide,JN one⟩
  ·exact ⟨3,by decide,JO one⟩
  ·exact ⟨3,by decide,JP one⟩
theorem LM (one:Bool) (S0:List Int) {N:Nat} (hN:S0.length=N) (h25:1≤N∧N≤25) {v cc:Nat} {aF:bq} {Q:AV→List AB→bq→Prop} (hQ:∀ S:List Int,S.Perm S0→S.length=N→Sd lg S 0 N→Q (.tp []) [aA S v] aF) :
  au TT TB one (.fn 87 [] []) [.aJ 0 v 0 N cc] [aA S0 v] aF Q:=by
 obtain ⟨k,hk,o0⟩:=B7 one h25;have o1:=HW one o0;refine au.body (fn:=Tryz.f87) rfl rfl rfl ?_;refine qq1 ?_;repeat' first|refine u1 ?_|((with_reducible show RM.wpOp _ _ (.convert _ _ _) _ _ _);refine HX (n:=N) (fun _=>rfl) rfl (by omega) ?_)|((with_reducible refine qq3 ?_);refine ak.call o1 rfl rfl ?_)|refine u2 ?_|fail
 refine LL one h25.2 (N+1) S0 0 N k (by omega) hN (qq6 _) (by omega) (by omega) (.inl rfl) (fun S hp hs=>?_);have hz:=hQ S hp.perm (by rw [hp.len,hN]) hs;repeat' first|refine u1 ?_|refine u2 ?_|fail
 exact hz
end Go.Proofs.YtlpmfgmldmdggaaGreat
open Go Go.RM
namespace Go.Proofs.YtlpmfgmldmdggaaGreat
set_option maxRecDepth 100000
set_option maxHeartbeats 4000000
theorem JQ (one:Bool) (S0:List Int) {N:Nat} (hN:S0.length=N) (h25:1≤N∧N≤25) (hin:Ah S0) {v cc:Nat} {aF:bq} {Q:AV→List AB→bq→Prop} (hQ:∀ S:List Int,S.Perm S0→S.length=N→Sd bZ S 0 N→Q (.tp []) [aA S v] aF) :
  au TT TB one (.fn 129 [] []) [.aJ 0 v 0 N cc,CF] [aA S0 v] aF Q:=by
 obtain ⟨k,hk,o0⟩:=B7 one h25;have o1:=HW one o0;refine au.body (fn:=Tryz.f129) rfl rfl rfl ?_;refine qq1 ?_;repeat' first|refine u1 ?_|((with_reducible show RM.wpOp _ _ (.convert _ _ _) _ _ _);refine HX (n:=N) (fun _=>rfl) rfl (by omega) ?_)|((with_reducible refine qq3 ?_);refine ak.call o1 rfl rfl ?_)|refine u2 ?_|fail
 refine LG one h25.2 (N+1) S0 0 N k (by omega) hN (qq6 _) (by omega) (by omega) hin (.inl rfl) (fun S hp hs=>?_);have hz:=hQ S hp.perm (by rw [hp.len,hN]) hs;repeat' first|refine u1 ?_|refine u2 ?_|fail
 exact hz
