/-
  Contracts of the program's functions and of the document's. Lemmas alone; their conditions stand in them.
-/
import Derived.Test.YtlpmfgmldmdggaaGreatK15
import Derived.Test.YtlpmfgmldmdggaaGreatK16
import Derived.Test.YtlpmfgmldmdggaaGreatK17
open Go Go.RM
namespace Go.Proofs.YtlpmfgmldmdggaaGreat
set_option maxRecDepth 100000
set_option maxHeartbeats 4000000
abbrev PZ:=List Int × Nat × Nat × Nat × Bool × Bool
theorem LG (one:Bool) {N:Nat} (h25:N≤25) {v cc:Nat} {aF:bq}:∀ (n:Nat) (S0:List Int) (a b l:Nat),b - a < n→S0.length=N→b≤N→a≤b→l≤100→Ah S0→rR bZ S0 a b→∀ {Q:AV→List AB→bq→Prop},(∀ S:List Int,PR S0 S a b→Sd bZ S a b→Q (.tp []) [aA S v] aF) →
  au TT TB one (.fn 144 [] []) [.aJ 0 v 0 N cc,af (a:Nat),af (b:Nat),af (l:Nat),CF] [aA S0 v] aF Q:=by
 intro n
 induction n with
 | zero =>intro S0 a b l hn;omega
 | succ n ih=>?_
 intro S0 a b l hn hN hb hab hl hin0 hpre Q hQ;refine au.body (fn:=Tryz.f144) rfl rfl rfl ?_;refine qq1 ?_;repeat' first|refine u1 ?_|refine u2 ?_|fail
 refine aB.aO (ah.to (l:=[(0,.aJ 0 v 0 N cc),(1,af (a:Nat)),(2,af (b:Nat)),(3,af (l:Nat)),(4,CF),(10,BB true),(11,BB true)]) (hp:=[aA S0 v]) 1 rfl ⟨rfl,rfl,rfl,rfl,rfl,rfl,rfl,trivial⟩ (qq6 _) rfl (av _ _)) ?_;refine aB.loop (fun x:PZ=>PQ bZ S0 x.1 a b x.2.1 x.2.2.1∧x.2.2.2.1≤100) (fun x=>(⟨aM [(0,.aJ 0 v 0 N cc),(1,af (x.2.1:Nat)),(2,af (x.2.2.1:Nat)),(3,af (x.2.2.2.1:Nat)),(4,CF),(10,BB x.2.2.2.2.1),(11,BB x.2.2.2.2.2)],[aA x.1 v],aF,false,1⟩:bP)) (fun x=>x.2.2.1 - x.2.1) ?_ (S0,a,b,l,true,true) ⟨PQ.start hab (by omega) hpre,hl⟩;clear hl hpre;rintro ⟨R,c,d,l,w,z⟩ ⟨hq,hl⟩;dsimp only at hq hl;show aB TT TB one (.block 1 (.seq (.region _ _ _) (.seq (.seq (.region _ _ _) (.cond _ _ _)) (.seq (.seq (.region _ _ _) (.cond _ _ _)) (.seq (.seq (.region _ _ _) (.cond _ _ _)) (.seq (.region _ _ _) (.seq (.seq (.region _ _ _) (.cond _ _ _)) (.seq (.seq (.region _ _ _) (.cond _ _ _)) (.seq (.seq (.region _ _ _) (.cond _ _ _)) _))))))))) (⟨aM [(0,.aJ 0 v 0 N cc),(1,af (c:Nat)),(2,af (d:Nat)),(3,af (l:Nat)),(4,CF),(10,BB w),(11,BB z)],[aA R v],aF,false,1⟩:bP) _;have hRl:R.length=N:=by rw [hq.pr.len,hN]
 have hin:=hin0.pr hq.pr;have q1:=hq.ac;have q2:=hq.cd;have q3:=hq.db;refine aB.block ?_;refine qq2 ?_;repeat' first|refine u1 ?_|refine u2 ?_|fail
 refine iy (σ:=Unit) (fun _=>(⟨aM [(0,.aJ 0 v 0 N cc),(1,af (c:Nat)),(2,af (d:Nat)),(3,af (l:Nat)),(4,CF),(10,BB w),(11,BB z),(12,af ((d:Int) - (c:Int)))],[aA R v],aF,false,1⟩:bP)) (fun _=>c+12 < d) ?_ ?_
 ·by_cases h12:c+12 < d
  ·have d1:decide ((d:Int) - (c:Int)≤12)=false:=decide_eq_false (by omega);refine qq1 ?_;repeat' first|refine u1 ?_|refine u2 ?_|fail
   exact .is () (ah.to (l:=[(0,.aJ 0 v 0 N cc),(1,af (c:Nat)),(2,af (d:Nat)),(3,af (l:Nat)),(4,CF),(10,BB w),(11,BB z),(12,af ((d:Int) - (c:Int)))]) (hp:=[aA R v]) 1 rfl ⟨rfl,rfl,rfl,rfl,rfl,rfl,rfl,rfl,trivial⟩ (qq6 _) rfl (av _ _)) h12
  ·have d1:decide ((d:Int) - (c:Int)≤12)=true:=decide_eq_true (by omega);refine qq1 ?_;repeat' first|refine u1 ?_|refine u2 ?_|fail
   refine Lv one R hRl (by omega) (by omega) (by omega) hin (fun S hp hs=>?_);have hz:=hQ S (hq.mix hp).pr ((hq.mix hp).fin hs);repeat' first|refine u1 ?_|refine u2 ?_|fail
   exact hz
 intro _ h12;refine iy (σ:=Unit) (fun _=>(⟨aM [(0,.aJ 0 v 0 N cc),(1,af (c:Nat)),(2,af (d:Nat)),(3,af (l:Nat)),(4,CF),(10,BB w),(11,BB z),(12,af ((d:Int) - (c:Int)))],[aA R v],aF,false,1⟩:bP)) (fun _=>l ≠ 0) ?_ ?_
 ·by_cases l0:l=0
  ·subst l0;have d1:decide (((0:Nat):Int)=0)=true:=rfl;refine qq1 ?_;repeat' first|refine u1 ?_|refine u2 ?_|fail
   refine JG one R hRl (by omega) (by omega) (by omega) hin (fun S hp hs=>?_);have hz:=hQ S (hq.mix hp).pr ((hq.mix hp).fin hs);repeat' first|refine u1 ?_|refine u2 ?_|fail
   exact hz
  ·have d1:decide ((l:Int)=0)=false:=decide_eq_false (by omega);refine qq1 ?_;repeat' first|refine u1 ?_|refine u2 ?_|fail
   exact .is () (ah.to (l:=[(0,.aJ 0 v 0 N cc),(1,af (c:Nat)),(2,af (d:Nat)),(3,af (l:Nat)),(4,CF),(10,BB w),(11,BB z),(12,af ((d:Int) - (c:Int)))]) (hp:=[aA R v]) 1 rfl ⟨rfl,rfl,rfl,rfl,rfl,rfl,rfl,rfl,trivial⟩ (qq6 _) rfl (av _ _)) l0
 intro _ l0;refine iy (σ:=List Int × Nat) (fun x=>(⟨aM [(0,.aJ 0 v 0 N cc),(1,af (c:Nat)),(2,af (d:Nat)),(3,af (x.2:Nat)),(4,CF),(10,BB w),(11,BB z),(12,af ((d:Int) - (c:Int)))],[aA x.1 v],aF,false,1⟩:bP)) (fun x=>PQ bZ S0 x.1 a b c d∧x.2≤100) ?_ ?_
 ·cases w with
  | true =>
   refine qq1 ?_;repeat' first|refine u1 ?_|refine u2 ?_|fail
   exact .is (R,l) (ah.to (l:=[(0,.aJ 0 v 0 N cc),(1,af (c:Nat)),(2,af (d:Nat)),(3,af (l:Nat)),(4,CF),(10,BB true),(11,BB z),(12,af ((d:Int) - (c:Int)))]) (hp:=[aA R v]) 1 rfl ⟨rfl,rfl,rfl,rfl,rfl,rfl,rfl,rfl,trivial⟩ (qq6 _) rfl (av _ _)) ⟨hq,hl⟩
  | false =>
   refine qq1 ?_;repeat' first|refine u1 ?_|refine u2 ?_|fail
   refine LF one R hRl (by omega) (by omega) (by omega) (fun S hp=>?_);repeat' first|refine u1 ?_|refine u2 ?_|fail
   exact .is (S,l - 1) (ah.to (l:=[(0,.aJ 0 v 0 N cc),(1,af (c:Nat)),(2,af (d:Nat)),(3,af ((l - 1):Nat)),(4,CF),(10,BB false),(11,BB z),(12,af ((d:Int) - (c:Int)))]) (hp:=[aA S v]) 1 rfl ⟨rfl,rfl,rfl,aE (by omega),rfl,rfl,rfl,rfl,trivial⟩ (qq6 _) rfl (av _ _)) ⟨hq.mix hp,by dsimp only;omega⟩
 clear hRl hin hl l0 hq;rintro ⟨R,l⟩ ⟨hq,hl⟩;dsimp only at hq hl ⊢;have hRl:R.length=N:=by rw [hq.pr.len,hN]
 have hin:=hin0.pr hq.pr;refine qq2 ?_;repeat' first|refine u1 ?_|refine u2 ?_|fail
 refine LA one R hRl hin (by omega) (by omega) (by omega) (fun p h hp hh=>?_);repeat' first|refine u1 ?_|refine u2 ?_|fail
 refine iy (σ:=List Int × Nat × Nat) (fun x=>(⟨aM [(0,.aJ 0 v 0 N cc),(1,af (c:Nat)),(2,af (d:Nat)),(3,af (l:Nat)),(4,CF),(10,BB w),(11,BB z),(12,af ((d:Int) - (c:Int))),(13,af (x.2.1:Nat)),(14,af (x.2.2:Nat))],[aA x.1 v],aF,false,1⟩:bP)) (fun x=>PQ bZ S0 x.1 a b c d∧c≤x.2.1∧x.2.1 < d∧x.2.2≤2) ?_ ?_
 ·by_cases h2:h=2
  ·subst h2;have d1:decide (((2:Nat):Int)=2)=true:=rfl;refine qq1 ?_;repeat' first|refine u1 ?_|refine u2 ?_|fail
   refine Lx one R hRl (by omega) (by omega) (by omega) (fun S hps=>?_);repeat' first|refine u1 ?_|refine u2 ?_|fail
   exact .is (S,d - 1 - (p - c),1) (ah.to (l:=[(0,.aJ 0 v 0 N cc),(1,af (c:Nat)),(2,af (d:Nat)),(3,af (l:Nat)),(4,CF),(10,BB w),(11,BB z),(12,af ((d:Int) - (c:Int))),(13,af (d - 1 - (p - c):Nat)),(14,af (1:Nat))]) (hp:=[aA S v]) 1 rfl ⟨rfl,rfl,rfl,rfl,rfl,rfl,rfl,rfl,aE (by omega),rfl,trivial⟩ (qq6 _) rfl (av _ _)) ⟨hq.mix hps,by dsimp only;omega,by dsimp only;omega,by dsimp only;omega⟩
  ·have d1:decide ((h:Int)=2)=false:=decide_eq_false (by omega);refine qq1 ?_;repeat' first|refine u1 ?_|refine u2 ?_|fail
   exact .is (R,p,h) (ah.to (l:=[(0,.aJ 0 v 0 N cc),(1,af (c:Nat)),(2,af (d:Nat)),(3,af (l:Nat)),(4,CF),(10,BB w),(11,BB z),(12,af ((d:Int) - (c:Int))),(13,af (p:Nat)),(14,af (h:Nat))]) (hp:=[aA R v]) 1 rfl ⟨rfl,rfl,rfl,rfl,rfl,rfl,rfl,rfl,rfl,rfl,trivial⟩ (qq6 _) rfl (av _ _)) ⟨hq,hp.1,hp.2,hh⟩
 clear hRl hin hq hp hh;rintro ⟨R,p,h⟩ ⟨hq,hp1,hp2,hh⟩;dsimp only at hq hp1 hp2 hh ⊢;have hRl:R.length=N:=by rw [hq.pr.len,hN]
 have hin:=hin0.pr hq.pr;refine iy (σ:=Unit) (fun _=>(⟨aM [(0,.aJ 0 v 0 N cc),(1,af (c:Nat)),(2,af (d:Nat)),(3,af (l:Nat)),(4,CF),(10,BB w),(11,BB z),(12,af ((d:Int) - (c:Int))),(13,af (p:Nat))],[aA R v],aF,false,1⟩:bP)) (fun _=>True) ?_ ?_
 ·by_cases h1:w=true∧z=true∧h=1
  ·obtain ⟨rfl,rfl,rfl⟩:=h1;have d1:decide (((1:Nat):Int)=1)=true:=rfl;refine qq1 ?_;repeat' first|refine u1 ?_|refine u2 ?_|fail
   refine Ly one R hRl (by omega) (by omega) (by omega) hin (fun bl hbl=>?_)
   cases bl with
   | true =>
    have hz:=hQ R hq.pr (hq.fin (hbl rfl));repeat' first|refine u1 ?_|refine u2 ?_|fail
    exact hz
   | false =>
    repeat' first|refine u1 ?_|refine u2 ?_|fail
    exact .is () (ah.to (l:=[(0,.aJ 0 v 0 N cc),(1,af (c:Nat)),(2,af (d:Nat)),(3,af (l:Nat)),(4,CF),(10,BB true),(11,BB true),(12,af ((d:Int) - (c:Int))),(13,af (p:Nat))]) (hp:=[aA R v]) 1 rfl ⟨rfl,rfl,rfl,rfl,rfl,rfl,rfl,rfl,rfl,trivial⟩ (qq6 _) rfl (av _ _)) trivial
  ·have hw:=show Nr ⟨aM [(0,.aJ 0 v 0 N cc),(1,af (c:Nat)),(2,af (d:Nat)),(3,af (l:Nat)),(4,CF),(10,BB w),(11,BB z),(12,af ((d:Int) - (c:Int))),(13,af (p:Nat))],[aA R v],aF,false,1⟩ (fun _:Unit=>(⟨aM [(0,.aJ 0 v 0 N cc),(1,af (c:Nat)),(2,af (d:Nat)),(3,af (l:Nat)),(4,CF),(10,BB w),(11,BB z),(12,af ((d:Int) - (c:Int))),(13,af (p:Nat))],[aA R v],aF,false,1⟩:bP)) (fun _=>True) from .is () (ah.to (l:=[(0,.aJ 0 v 0 N cc),(1,af (c:Nat)),(2,af (d:Nat)),(3,af (l:Nat)),(4,CF),(10,BB w),(11,BB z),(12,af ((d:Int) - (c:Int))),(13,af (p:Nat))]) (hp:=[aA R v]) 1 rfl ⟨rfl,rfl,rfl,rfl,rfl,rfl,rfl,rfl,rfl,trivial⟩ (qq6 _) rfl (av _ _)) trivial
   clear hw
   cases w with
   | true =>
    cases z with
    | true =>
     have d1:decide ((h:Int)=1)=false:=decide_eq_false fun e=>h1 ⟨rfl,rfl,by omega⟩;refine qq1 ?_;repeat' first|refine u1 ?_|refine u2 ?_|fail
     exact .is () (ah.to (l:=[(0,.aJ 0 v 0 N cc),(1,af (c:Nat)),(2,af (d:Nat)),(3,af (l:Nat)),(4,CF),(10,BB true),(11,BB true),(12,af ((d:Int) - (c:Int))),(13,af (p:Nat))]) (hp:=[aA R v]) 1 rfl ⟨rfl,rfl,rfl,rfl,rfl,rfl,rfl,rfl,rfl,trivial⟩ (qq6 _) rfl (av _ _)) trivial
    | false =>
     refine qq1 ?_;repeat' first|refine u1 ?_|refine u2 ?_|fail
     exact .is () (ah.to (l:=[(0,.aJ 0 v 0 N cc),(1,af (c:Nat)),(2,af (d:Nat)),(3,af (l:Nat)),(4,CF),(10,BB true),(11,BB false),(12,af ((d:Int) - (c:Int))),(13,af (p:Nat))]) (hp:=[aA R v]) 1 rfl ⟨rfl,rfl,rfl,rfl,rfl,rfl,rfl,rfl,rfl,trivial⟩ (qq6 _) rfl (av _ _)) trivial
   | false =>
    refine qq1 ?_;repeat' first|refine u1 ?_|refine u2 ?_|fail
    exact .is () (ah.to (l:=[(0,.aJ 0 v 0 N cc),(1,af (c:Nat)),(2,af (d:Nat)),(3,af (l:Nat)),(4,CF),(10,BB false),(11,BB z),(12,af ((d:Int) - (c:Int))),(13,af (p:Nat))]) (hp:=[aA R v]) 1 rfl ⟨rfl,rfl,rfl,rfl,rfl,rfl,rfl,rfl,rfl,trivial⟩ (qq6 _) rfl (av _ _)) trivial
 intro _ _;have g1:c ≠ 0→(ay R)[0+((c:Int) - 1).toNat * 1]?=some (af (aH R (c - 1))):=fun h0=>ax (by omega) (by omega);have g2:(ay R)[0+((p:Nat):Int).toNat * 1]?=some (af (aH R p)):=ax (by omega) (by omega);refine iy (σ:=Unit) (fun _=>(⟨aM [(0,.aJ 0 v 0 N cc),(1,af (c:Nat)),(2,af (d:Nat)),(3,af (l:Nat)),(4,CF),(10,BB w),(11,BB z),(12,af ((d:Int) - (c:Int))),(13,af (p:Nat))],[aA R v],aF,false,1⟩:bP)) (fun _=>True) ?_ ?_
 ·by_cases c0:c=0
  ·have d1:decide ((0:Int) < (c:Int))=false:=decide_eq_false (by omega);refine qq1 ?_;repeat' first|refine u1 ?_|(refine RM.c5 (c:=13) (l1:=[_,_,_,_,_,_,_,_,_,_,_,_,_]) (l2:=[_,_,_,_]) (by kernel_rfl) rfl rfl ?_)|refine u2 ?_|fail
   exact .is () (ah.to (l:=[(0,.aJ 0 v 0 N cc),(1,af (c:Nat)),(2,af (d:Nat)),(3,af (l:Nat)),(4,CF),(10,BB w),(11,BB z),(12,af ((d:Int) - (c:Int))),(13,af (p:Nat))]) (hp:=[aA R v]) 1 rfl ⟨rfl,rfl,rfl,rfl,rfl,rfl,rfl,rfl,rfl,trivial⟩ (qq6 _) rfl (av _ _)) trivial
  ·have d1:decide ((0:Int) < (c:Int))=true:=decide_eq_true (by omega);have g1:=g1 c0
   cases hls:decide (bZ (aH R (c - 1)) < bZ (aH R p)) with
   | true =>
    obtain ⟨z1,dz1,o1⟩:=rS one (hin.at (i:=c - 1) (by omega)) (hin.at (i:=p) (by omega)) (of_decide_eq_true hls);have dn1:(!decide (z1 < 0))=false:=by rw [dz1];rfl
    refine qq1 ?_;repeat' first|(refine RM.c5 (c:=13) (l1:=[_,_,_,_,_,_,_,_,_,_,_,_,_]) (l2:=[_,_,_,_]) (by kernel_rfl) rfl rfl ?_)|((with_reducible refine qq3 ?_);refine ak.call o1 rfl rfl ?_)|((with_reducible show RM.wpOp _ _ (.load _ _) _ _ _);refine RM.bC rfl rfl rfl g1 ?_)|((with_reducible show RM.wpOp _ _ (.load _ _) _ _ _);refine RM.bC rfl rfl rfl g2 ?_)|refine u1 ?_|refine u2 ?_|fail
    exact .is () (ah.to (l:=[(0,.aJ 0 v 0 N cc),(1,af (c:Nat)),(2,af (d:Nat)),(3,af (l:Nat)),(4,CF),(10,BB w),(11,BB z),(12,af ((d:Int) - (c:Int))),(13,af (p:Nat))]) (hp:=[aA R v]) 1 rfl ⟨rfl,rfl,rfl,rfl,rfl,rfl,rfl,rfl,rfl,trivial⟩ (qq6 _) rfl (av _ _)) trivial
   | false =>
    obtain ⟨z1,dz1,o1⟩:=rT one (hin.at (i:=c - 1) (by omega)) (hin.at (i:=p) (by omega)) (of_decide_eq_false hls);have dn1:(!decide (z1 < 0))=true:=by rw [dz1];rfl
    have hle:bZ (aH R p)≤bZ (aH R (c - 1)):=by have:=of_decide_eq_false hls;omega
    refine qq1 ?_;repeat' first|(refine RM.c5 (c:=13) (l1:=[_,_,_,_,_,_,_,_,_,_,_,_,_]) (l2:=[_,_,_,_]) (by kernel_rfl) rfl rfl ?_)|((with_reducible refine qq3 ?_);refine ak.call o1 rfl rfl ?_)|((with_reducible show RM.wpOp _ _ (.load _ _) _ _ _);refine RM.bC rfl rfl rfl g1 ?_)|((with_reducible show RM.wpOp _ _ (.load _ _) _ _ _);refine RM.bC rfl rfl rfl g2 ?_)|refine u1 ?_|refine u2 ?_|fail
    refine Lw one R hRl (by omega) ⟨hp1,hp2⟩ (by omega) hin (fun S m hm=>?_);repeat' first|refine u1 ?_|refine u2 ?_|fail
    have q4:=hm.am;have q5:=hm.mb;exact ⟨(S,m,d,l,w,z),⟨hq.eqs hm c0 hle,hl⟩,(by dsimp only;omega),ah.to (l:=[(0,.aJ 0 v 0 N cc),(1,af (m:Nat)),(2,af (d:Nat)),(3,af (l:Nat)),(4,CF),(10,BB w),(11,BB z)]) (hp:=[aA S v]) 1 rfl ⟨rfl,rfl,rfl,rfl,rfl,rfl,rfl,trivial⟩ (qq6 _) rfl (av _ _)⟩
 intro _ _;clear g1 g2;refine qq1 ?_;repeat' first|refine u1 ?_|refine u2 ?_|fail
 refine Jz one R hRl (by omega) ⟨hp1,hp2⟩ (by omega) hin (fun S m bl hm=>?_);have q4:=hm.am;have q5:=hm.mb;by_cases hmm:m - c < d - m
 ·have d1:decide ((m:Int) - (c:Int) < (d:Int) - (m:Int))=true:=decide_eq_true (by omega);repeat' first|refine u1 ?_|refine u2 ?_|fail
  refine ih S c m l (by omega) (by rw [hm.pr.len,hRl]) (by omega) (by omega) hl (hin.pr hm.pr) (hq.MT hm) (fun T hp hs=>?_);repeat' first|refine u1 ?_|refine u2 ?_|fail
  exact ⟨(T,m+1,d,l,_,bl),⟨hq.left hm hp hs,hl⟩,(by dsimp only;omega),ah.to (l:=[(0,.aJ 0 v 0 N cc),(1,af ((m+1):Nat)),(2,af (d:Nat)),(3,af (l:Nat)),(4,CF),(10,BB _),(11,BB bl)]) (hp:=[aA T v]) 1 rfl ⟨rfl,aE (by simp),rfl,rfl,rfl,rfl,rfl,trivial⟩ (qq6 _) rfl (av _ _)⟩
 ·have d1:decide ((m:Int) - (c:Int) < (d:Int) - (m:Int))=false:=decide_eq_false (by omega);repeat' first|refine u1 ?_|refine u2 ?_|fail
  rw [show (m:Int)+1=((m+1:Nat):Int) by simp];refine ih S (m+1) d l (by omega) (by rw [hm.pr.len,hRl]) (by omega) (by omega) hl (hin.pr hm.pr) hm.MU (fun T hp hs=>?_);repeat' first|refine u1 ?_|refine u2 ?_|fail
  exact ⟨(T,c,m,l,_,bl),⟨hq.right hm hp hs,hl⟩,(by dsimp only;omega),ah.to (l:=[(0,.aJ 0 v 0 N cc),(1,af (c:Nat)),(2,af (m:Nat)),(3,af (l:Nat)),(4,CF),(10,BB _),(11,BB bl)]) (hp:=[aA T v]) 1 rfl ⟨rfl,rfl,rfl,rfl,rfl,rfl,rfl,trivial⟩ (qq6 _) rfl (av _ _)⟩
end Go.Proofs.YtlpmfgmldmdggaaGreat
open Go Go.RM
namespace Go.Proofs.YtlpmfgmldmdggaaGreat
set_option maxRecDepth 100000
set_option maxHeartbeats 4000000
theorem LH (one:Bool) (S0:List Int) {a b p N:Nat} (hN:S0.length=N) (hb:b≤N) (hp:a≤p∧p < b) (h9:N≤1000) {v cc:Nat} {aF:bq} {Q:AV→List AB→bq→Prop} (hQ:∀ (S:List Int) (m:Nat),Ee lg S0 S a b m (aH S0 p)→Q (af (m:Nat)) [aA S v] aF) :
  au TT TB one (.fn 138 [] []) [.aJ 0 v 0 N cc,af (a:Nat),af (b:Nat),af (p:Nat)] [aA S0 v] aF Q:=by
 refine au.body (fn:=Tryz.f138) rfl rfl rfl ?_;show aB TT TB one (.seq (.region _ _ _) (.seq (.region _ _ _) (.seq (.region _ _ _) (.seq (.block _ _) (.seq (.region _ _ _) _))))) _ _;have hst:=tc.start (rk:=lg) (S0:=S0) (a:=a) (b:=b) (p:=p) (by omega) hp
 generalize hpv:aH S0 p=pv at *
 have b1:Nat.ble (0+((a:Nat):Int).toNat * 1+1) (ay S0).length=true:=bS (k:=a) (by omega) (by omega);have b2:Nat.ble (0+((p:Nat):Int).toNat * 1+1) (aQ (ay S0) [af (aH S0 p)] (0+((a:Nat):Int).toNat * 1)).length=true:=cH (i:=a) (j:=p) (by omega) (by omega) (by omega) (by omega) _;have e1:=bp (R:=S0) (i:=a) (j:=p) (p:=0+((a:Nat):Int).toNat * 1) (q:=0+((p:Nat):Int).toNat * 1) (by omega) (by omega) (by omega) (by omega);have y1:(ay S0)[0+((p:Nat):Int).toNat * 1]?=some (af (aH S0 p)):=ax (by omega) (by omega);have y2:(ay S0)[0+((a:Nat):Int).toNat * 1]?=some (af (aH S0 a)):=ax (by omega) (by omega);rw [hpv] at b2 e1 y1;refine qq2 ?_;repeat' first|refine u1 ?_|refine u2 ?_|fail
 refine qq2 ?_;repeat' first|((with_reducible show RM.wpOp _ _ (.load _ _) _ _ _);refine RM.bC rfl rfl rfl y1 ?_)|((with_reducible show RM.wpOp _ _ (.load _ _) _ _ _);refine RM.bC rfl rfl rfl y2 ?_)|((with_reducible show aG _ _ _ _ _ _);refine RM.e9 rfl rfl rfl rfl rfl rfl b1 ?_)|((with_reducible show aG _ _ _ _ _ _);refine RM.e9 rfl rfl rfl rfl rfl rfl b2 ?_)|refine u1 ?_|refine u2 ?_|fail
 refine qq2 ?_;repeat' first|refine u1 ?_|refine u2 ?_|fail
 refine aB.aO (ah.to (l:=[(0,.aJ 0 v 0 N cc),(1,af (a:Nat)),(9,af ((a+1):Nat)),(10,af ((b - 1):Nat))]) (hp:=[aA (sw S0 a p) v]) 1 (by show _=[AB.cells (ay (sw S0 a p)) 1 v];rw [←e1];rfl) ⟨rfl,rfl,aE (by simp),aE (by omega),trivial⟩ (qq6 _) rfl (av _ _)) ?_;clear b1 b2 e1 y1 y2;refine iy (fun x:l9=>(⟨aM [(0,.aJ 0 v 0 N cc),(1,af (a:Nat)),(9,af (x.1:Nat)),(10,af (x.2.1:Nat))],[aA x.2.2 v],aF,false,1⟩:bP)) (fun x:l9=>tc lg S0 x.2.2 a b pv x.1 x.2.1∧x.2.1 < x.1) ?_ ?_
 ·refine aB.block ?_;refine aB.loop (fun x:l9=>tc lg S0 x.2.2 a b pv x.1 x.2.1) (fun x:l9=>(⟨aM [(0,.aJ 0 v 0 N cc),(1,af (a:Nat)),(9,af (x.1:Nat)),(10,af (x.2.1:Nat))],[aA x.2.2 v],aF,false,1⟩:bP)) (fun x=>x.2.1) ?_ (a+1,b - 1,sw S0 a p) hst;clear hst;rintro ⟨i,j,R⟩ hpt;dsimp only at hpt ⊢;obtain ⟨j0,hj0,hjj⟩:∃ j0,j≤j0∧j0≤j:=⟨j,qq6 _,qq6 _⟩;refine aB.block ?_;refine iy (fun x:l9=>(⟨aM [(0,.aJ 0 v 0 N cc),(1,af (a:Nat)),(9,af (x.1:Nat)),(10,af (x.2.1:Nat))],[aA x.2.2 v],aF,false,1⟩:bP)) (fun x:l9=>tc lg S0 x.2.2 a b pv x.1 x.2.1∧(x.2.1 < x.1∨pv < aH x.2.2 x.1)∧x.2.1≤j0) ?_ ?_
  ·refine aB.block ?_;refine aB.loop (fun x:Nat=>tc lg S0 R a b pv x j) (fun x=>⟨aM [(0,.aJ 0 v 0 N cc),(1,af (a:Nat)),(9,af (x:Nat)),(10,af (j:Nat))],[aA R v],aF,false,1⟩) (fun x=>N+1 - x) ?_ i hpt;clear hpt;intro i hpt;have hSl:(R).length=N:=by rw [hpt.pr.len,hN]
   have q1:=hpt.ai;have q2:=hpt.ij;have q3:=hpt.jb;have q4:=hpt.aj;have hpe:=hpt.pe;by_cases hij:i≤j
   ·have d1:decide ((i:Int)≤(j:Int))=true:=decide_eq_true (by omega);have g1:(ay R)[0+((i:Nat):Int).toNat * 1]?=some (af (aH R i)):=ax (by omega) (by omega);have g2:(ay R)[0+((a:Nat):Int).toNat * 1]?=some (af (aH R a)):=ax (by omega) (by omega);rw [hpe] at g2;have o1:=iw true pv (aH R i);by_cases hl:pv < aH R i
    ·rw [decide_eq_true hl] at o1;refine qq1 ?_;repeat' first|(refine ⟨_,_,.inl ⟨rfl,rfl⟩,o1,?_⟩)|((with_reducible show RM.wpOp _ _ (.load _ _) _ _ _);refine RM.bC rfl rfl rfl g1 ?_)|((with_reducible show RM.wpOp _ _ (.load _ _) _ _ _);refine RM.bC rfl rfl rfl g2 ?_)|refine u1 ?_|refine u2 ?_|fail
     exact .is (i,j,R) (ah.to (l:=[(0,.aJ 0 v 0 N cc),(1,af (a:Nat)),(9,af (i:Nat)),(10,af (j:Nat))]) (hp:=[aA R v]) 1 rfl ⟨rfl,rfl,aE (by omega),aE (by omega),trivial⟩ (qq6 _) rfl (av _ _)) ⟨hpt,.inr (by dsimp only;omega),hj0⟩
    ·rw [decide_eq_false hl] at o1;refine qq1 ?_;repeat' first|(refine ⟨_,_,.inl ⟨rfl,rfl⟩,o1,?_⟩)|((with_reducible show RM.wpOp _ _ (.load _ _) _ _ _);refine RM.bC rfl rfl rfl g1 ?_)|((with_reducible show RM.wpOp _ _ (.load _ _) _ _ _);refine RM.bC rfl rfl rfl g2 ?_)|refine u1 ?_|refine u2 ?_|fail
     exact ⟨i+1,hpt.up hij (by show aH R i≤pv;omega),(by dsimp only;omega),(ah.to (l:=[(0,.aJ 0 v 0 N cc),(1,af (a:Nat)),(9,af ((i+1):Nat)),(10,af (j:Nat))]) (hp:=[aA R v]) 1 rfl ⟨rfl,rfl,aE (by omega),aE (by omega),trivial⟩ (qq6 _) rfl (av _ _))⟩
   ·have d1:decide ((i:Int)≤(j:Int))=false:=decide_eq_false (by omega);refine qq1 ?_;repeat' first|refine u1 ?_|refine u2 ?_|fail
    exact .is (i,j,R) (ah.to (l:=[(0,.aJ 0 v 0 N cc),(1,af (a:Nat)),(9,af (i:Nat)),(10,af (j:Nat))]) (hp:=[aA R v]) 1 rfl ⟨rfl,rfl,aE (by omega),aE (by omega),trivial⟩ (qq6 _) rfl (av _ _)) ⟨hpt,.inl (by dsimp only;omega),hj0⟩
  rintro ⟨i,j,R⟩ ⟨hpt,hup,hj0⟩;dsimp only at hpt hup hj0 ⊢;refine iy (fun x:l9=>(⟨aM [(0,.aJ 0 v 0 N cc),(1,af (a:Nat)),(9,af (x.1:Nat)),(10,af (x.2.1:Nat))],[aA x.2.2 v],aF,false,1⟩:bP)) (fun x:l9=>tc lg S0 x.2.2 a b pv x.1 x.2.1∧(x.2.1 < x.1∨(pv < aH x.2.2 x.1∧aH x.2.2 x.2.1≤pv))∧x.2.1≤j0) ?_ ?_
  ·refine aB.block ?_;refine aB.loop (fun x:Nat=>tc lg S0 R a b pv i x∧(x < i∨pv < aH R i)∧x≤j0) (fun x=>⟨aM [(0,.aJ 0 v 0 N cc),(1,af (a:Nat)),(9,af (i:Nat)),(10,af (x:Nat))],[aA R v],aF,false,1⟩) (fun x=>x) ?_ j ⟨hpt,hup,hj0⟩;clear hpt hup hj0;rintro j ⟨hpt,hup,hj0⟩;have hSl:(R).length=N:=by rw [hpt.pr.len,hN]
   have q1:=hpt.ai;have q2:=hpt.ij;have q3:=hpt.jb;have q4:=hpt.aj;have hpe:=hpt.pe;by_cases hij:i≤j
   ·have d1:decide ((i:Int)≤(j:Int))=true:=decide_eq_true (by omega);have g1:(ay R)[0+((j:Nat):Int).toNat * 1]?=some (af (aH R j)):=ax (by omega) (by omega);have g2:(ay R)[0+((a:Nat):Int).toNat * 1]?=some (af (aH R a)):=ax (by omega) (by omega);rw [hpe] at g2;have o1:=iw true pv (aH R j);by_cases hl:pv < aH R j
    ·rw [decide_eq_true hl] at o1;refine qq1 ?_;repeat' first|(refine ⟨_,_,.inl ⟨rfl,rfl⟩,o1,?_⟩)|((with_reducible show RM.wpOp _ _ (.load _ _) _ _ _);refine RM.bC rfl rfl rfl g1 ?_)|((with_reducible show RM.wpOp _ _ (.load _ _) _ _ _);refine RM.bC rfl rfl rfl g2 ?_)|refine u1 ?_|refine u2 ?_|fail
     exact ⟨j - 1,⟨hpt.down hij hl,by omega,by omega⟩,(by dsimp only;omega),(ah.to (l:=[(0,.aJ 0 v 0 N cc),(1,af (a:Nat)),(9,af (i:Nat)),(10,af ((j - 1):Nat))]) (hp:=[aA R v]) 1 rfl ⟨rfl,rfl,aE (by omega),aE (by omega),trivial⟩ (qq6 _) rfl (av _ _))⟩
    ·rw [decide_eq_false hl] at o1;refine qq1 ?_;repeat' first|(refine ⟨_,_,.inl ⟨rfl,rfl⟩,o1,?_⟩)|((with_reducible show RM.wpOp _ _ (.load _ _) _ _ _);refine RM.bC rfl rfl rfl g1 ?_)|((with_reducible show RM.wpOp _ _ (.load _ _) _ _ _);refine RM.bC rfl rfl rfl g2 ?_)|refine u1 ?_|refine u2 ?_|fail
     exact .is (i,j,R) (ah.to (l:=[(0,.aJ 0 v 0 N cc),(1,af (a:Nat)),(9,af (i:Nat)),(10,af (j:Nat))]) (hp:=[aA R v]) 1 rfl ⟨rfl,rfl,aE (by omega),aE (by omega),trivial⟩ (qq6 _) rfl (av _ _)) ⟨hpt,.inr ⟨by dsimp only;omega,by dsimp only;omega⟩,hj0⟩
   ·have d1:decide ((i:Int)≤(j:Int))=false:=decide_eq_false (by omega);refine qq1 ?_;repeat' first|refine u1 ?_|refine u2 ?_|fail
    exact .is (i,j,R) (ah.to (l:=[(0,.aJ 0 v 0 N cc),(1,af (a:Nat)),(9,af (i:Nat)),(10,af (j:Nat))]) (hp:=[aA R v]) 1 rfl ⟨rfl,rfl,aE (by omega),aE (by omega),trivial⟩ (qq6 _) rfl (av _ _)) ⟨hpt,.inl (by dsimp only;omega),hj0⟩
  rintro ⟨i,j,R⟩ ⟨hpt,hdn,hj0⟩;dsimp only at hpt hdn hj0 ⊢;have hSl:(R).length=N:=by rw [hpt.pr.len,hN]
  have q1:=hpt.ai;have q2:=hpt.ij;have q3:=hpt.jb;have q4:=hpt.aj;have hpe:=hpt.pe;by_cases hij:j < i
  ·have d1:decide ((j:Int) < (i:Int))=true:=decide_eq_true (by omega);refine qq1 ?_;show kC _ _ _ _ (.seq (.seq (.region _ _ _) _) _) _ _;repeat' first|refine u1 ?_|refine u2 ?_|fail
   exact .is (i,j,R) (ah.to (l:=[(0,.aJ 0 v 0 N cc),(1,af (a:Nat)),(9,af (i:Nat)),(10,af (j:Nat))]) (hp:=[aA R v]) 1 rfl ⟨rfl,rfl,aE (by omega),aE (by omega),trivial⟩ (qq6 _) rfl (av _ _)) ⟨hpt,hij⟩
  ·have d1:decide ((j:Int) < (i:Int))=false:=decide_eq_false (by omega);obtain ⟨hij2,hps⟩:=hpt.swap (by omega) (by omega) (hdn.resolve_left hij).1 (hdn.resolve_left hij).2;have b1:Nat.ble (0+((i:Nat):Int).toNat * 1+1) (ay R).length=true:=bS (k:=i) (by omega) (by omega);have b2:Nat.ble (0+((j:Nat):Int).toNat * 1+1) (aQ (ay R) [af (aH R j)] (0+((i:Nat):Int).toNat * 1)).length=true:=cH (i:=i) (j:=j) (by omega) (by omega) (by omega) (by omega) _;have e1:=bp (R:=R) (i:=i) (j:=j) (p:=0+((i:Nat):Int).toNat * 1) (q:=0+((j:Nat):Int).toNat * 1) (by omega) (by omega) (by omega) (by omega);have y1:(ay R)[0+((j:Nat):Int).toNat * 1]?=some (af (aH R j)):=ax (by omega) (by omega);have y2:(ay R)[0+((i:Nat):Int).toNat * 1]?=some (af (aH R i)):=ax (by omega) (by omega);refine qq1 ?_;show kC _ _ _ _ (.seq (.seq (.region _ _ _) _) _) _ _;repeat' first|((with_reducible show RM.wpOp _ _ (.load _ _) _ _ _);refine RM.bC rfl rfl rfl y1 ?_)|((with_reducible show RM.wpOp _ _ (.load _ _) _ _ _);refine RM.bC rfl rfl rfl y2 ?_)|((with_reducible show aG _ _ _ _ _ _);refine RM.e9 rfl rfl rfl rfl rfl rfl b1 ?_)|((with_reducible show aG _ _ _ _ _ _);refine RM.e9 rfl rfl rfl rfl rfl rfl b2 ?_)|refine u1 ?_|refine u2 ?_|fail
   exact ⟨(i+1,j - 1,sw R i j),hps,(by dsimp only;omega),ah.to (l:=[(0,.aJ 0 v 0 N cc),(1,af (a:Nat)),(9,af ((i+1):Nat)),(10,af ((j - 1):Nat))]) (hp:=[aA (sw R i j) v]) 1 (by show _=[AB.cells (ay (sw R i j)) 1 v];rw [←e1];rfl) ⟨rfl,rfl,aE (by simp),aE (by omega),trivial⟩ (qq6 _) rfl (av _ _)⟩
 rintro ⟨i,j,R⟩ ⟨hpt,hij⟩;dsimp only at hpt hij ⊢;have hz:=hQ _ _ (hpt.done hij);refine qq1 ?_;repeat' first|refine u1 ?_|refine u2 ?_|fail
 exact hz
