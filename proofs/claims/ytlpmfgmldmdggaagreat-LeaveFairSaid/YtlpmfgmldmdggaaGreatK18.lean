/-
  Contracts of the program's functions and of the document's. Lemmas alone; their conditions stand in them.
-/
import Derived.Test.YtlpmfgmldmdggaaGreatK15
import Derived.Test.YtlpmfgmldmdggaaGreatK17
open Go Go.RM
namespace Go.Proofs.YtlpmfgmldmdggaaGreat
set_option maxRecDepth 100000
set_option maxHeartbeats 4000000
abbrev PZ:=List Int × Nat × Nat × Nat × Bool × Bool
theorem Ku (one:Bool) {N:Nat} (h25:N≤25) {v cc:Nat} {aC:bJ}:∀ (n:Nat) (S0:List Int) (a b l:Nat),b - a < n→S0.length=N→b≤N→a≤b→l≤100→zP S0→tO cg S0 a b→∀ {Q:AV→List AB→bJ→Prop},(∀ S:List Int,PR S0 S a b→Sd cg S a b→Q (.tp []) [aM S v] aC) →
  au TT TB one (.fn 144 [] []) [.aL 0 v 0 N cc,af (a:Nat),af (b:Nat),af (l:Nat),CF] [aM S0 v] aC Q:=by
 intro n
 induction n with
 | zero =>intro S0 a b l hn;omega
 | succ n ih=>?_
 intro S0 a b l hn hN hb hab hl hin0 hpre Q hQ;refine au.body (fn:=Tryz.f144) rfl rfl rfl ?_;refine qq1 ?_;repeat' first|refine u1 ?_|refine u2 ?_|fail
 refine ay.aN (ak.to (l:=[(0,.aL 0 v 0 N cc),(1,af (a:Nat)),(2,af (b:Nat)),(3,af (l:Nat)),(4,CF),(10,BB true),(11,BB true)]) (hp:=[aM S0 v]) 1 rfl ⟨rfl,rfl,rfl,rfl,rfl,rfl,rfl,trivial⟩ (qq6 _) rfl (ax _ _)) ?_;refine ay.loop (fun x:PZ=>PQ cg S0 x.1 a b x.2.1 x.2.2.1∧x.2.2.2.1≤100) (fun x=>(⟨aT [(0,.aL 0 v 0 N cc),(1,af (x.2.1:Nat)),(2,af (x.2.2.1:Nat)),(3,af (x.2.2.2.1:Nat)),(4,CF),(10,BB x.2.2.2.2.1),(11,BB x.2.2.2.2.2)],[aM x.1 v],aC,false,1⟩:bO)) (fun x=>x.2.2.1 - x.2.1) ?_ (S0,a,b,l,true,true) ⟨PQ.start hab (by omega) hpre,hl⟩;clear hl hpre;rintro ⟨R,c,d,l,w,z⟩ ⟨hq,hl⟩;dsimp only at hq hl;show ay TT TB one (.block 1 (.seq (.region _ _ _) (.seq (.seq (.region _ _ _) (.cond _ _ _)) (.seq (.seq (.region _ _ _) (.cond _ _ _)) (.seq (.seq (.region _ _ _) (.cond _ _ _)) (.seq (.region _ _ _) (.seq (.seq (.region _ _ _) (.cond _ _ _)) (.seq (.seq (.region _ _ _) (.cond _ _ _)) (.seq (.seq (.region _ _ _) (.cond _ _ _)) _))))))))) (⟨aT [(0,.aL 0 v 0 N cc),(1,af (c:Nat)),(2,af (d:Nat)),(3,af (l:Nat)),(4,CF),(10,BB w),(11,BB z)],[aM R v],aC,false,1⟩:bO) _;have hRl:R.length=N:=by rw [hq.pr.len,hN]
 have hin:=hin0.pr hq.pr;have q1:=hq.ac;have q2:=hq.cd;have q3:=hq.db;refine ay.block ?_;refine qq2 ?_;repeat' first|refine u1 ?_|refine u2 ?_|fail
 refine rq (σ:=Unit) (fun _=>(⟨aT [(0,.aL 0 v 0 N cc),(1,af (c:Nat)),(2,af (d:Nat)),(3,af (l:Nat)),(4,CF),(10,BB w),(11,BB z),(12,af ((d:Int) - (c:Int)))],[aM R v],aC,false,1⟩:bO)) (fun _=>c+12 < d) ?_ ?_
 ·by_cases h12:c+12 < d
  ·have d1:decide ((d:Int) - (c:Int)≤12)=false:=decide_eq_false (by omega);refine qq1 ?_;repeat' first|refine u1 ?_|refine u2 ?_|fail
   exact .is () (ak.to (l:=[(0,.aL 0 v 0 N cc),(1,af (c:Nat)),(2,af (d:Nat)),(3,af (l:Nat)),(4,CF),(10,BB w),(11,BB z),(12,af ((d:Int) - (c:Int)))]) (hp:=[aM R v]) 1 rfl ⟨rfl,rfl,rfl,rfl,rfl,rfl,rfl,rfl,trivial⟩ (qq6 _) rfl (ax _ _)) h12
  ·have d1:decide ((d:Int) - (c:Int)≤12)=true:=decide_eq_true (by omega);refine qq1 ?_;repeat' first|refine u1 ?_|refine u2 ?_|fail
   refine Kj one R hRl (by omega) (by omega) (by omega) hin (fun S hp hs=>?_);have hz:=hQ S (hq.mix hp).pr ((hq.mix hp).fin hs);repeat' first|refine u1 ?_|refine u2 ?_|fail
   exact hz
 intro _ h12;refine rq (σ:=Unit) (fun _=>(⟨aT [(0,.aL 0 v 0 N cc),(1,af (c:Nat)),(2,af (d:Nat)),(3,af (l:Nat)),(4,CF),(10,BB w),(11,BB z),(12,af ((d:Int) - (c:Int)))],[aM R v],aC,false,1⟩:bO)) (fun _=>l ≠ 0) ?_ ?_
 ·by_cases l0:l=0
  ·subst l0;have d1:decide (((0:Nat):Int)=0)=true:=rfl;refine qq1 ?_;repeat' first|refine u1 ?_|refine u2 ?_|fail
   refine IU one R hRl (by omega) (by omega) (by omega) hin (fun S hp hs=>?_);have hz:=hQ S (hq.mix hp).pr ((hq.mix hp).fin hs);repeat' first|refine u1 ?_|refine u2 ?_|fail
   exact hz
  ·have d1:decide ((l:Int)=0)=false:=decide_eq_false (by omega);refine qq1 ?_;repeat' first|refine u1 ?_|refine u2 ?_|fail
   exact .is () (ak.to (l:=[(0,.aL 0 v 0 N cc),(1,af (c:Nat)),(2,af (d:Nat)),(3,af (l:Nat)),(4,CF),(10,BB w),(11,BB z),(12,af ((d:Int) - (c:Int)))]) (hp:=[aM R v]) 1 rfl ⟨rfl,rfl,rfl,rfl,rfl,rfl,rfl,rfl,trivial⟩ (qq6 _) rfl (ax _ _)) l0
 intro _ l0;refine rq (σ:=List Int × Nat) (fun x=>(⟨aT [(0,.aL 0 v 0 N cc),(1,af (c:Nat)),(2,af (d:Nat)),(3,af (x.2:Nat)),(4,CF),(10,BB w),(11,BB z),(12,af ((d:Int) - (c:Int)))],[aM x.1 v],aC,false,1⟩:bO)) (fun x=>PQ cg S0 x.1 a b c d∧x.2≤100) ?_ ?_
 ·cases w with
  | true =>
   refine qq1 ?_;repeat' first|refine u1 ?_|refine u2 ?_|fail
   exact .is (R,l) (ak.to (l:=[(0,.aL 0 v 0 N cc),(1,af (c:Nat)),(2,af (d:Nat)),(3,af (l:Nat)),(4,CF),(10,BB true),(11,BB z),(12,af ((d:Int) - (c:Int)))]) (hp:=[aM R v]) 1 rfl ⟨rfl,rfl,rfl,rfl,rfl,rfl,rfl,rfl,trivial⟩ (qq6 _) rfl (ax _ _)) ⟨hq,hl⟩
  | false =>
   refine qq1 ?_;repeat' first|refine u1 ?_|refine u2 ?_|fail
   refine Kt one R hRl (by omega) (by omega) (by omega) (fun S hp=>?_);repeat' first|refine u1 ?_|refine u2 ?_|fail
   exact .is (S,l - 1) (ak.to (l:=[(0,.aL 0 v 0 N cc),(1,af (c:Nat)),(2,af (d:Nat)),(3,af ((l - 1):Nat)),(4,CF),(10,BB false),(11,BB z),(12,af ((d:Int) - (c:Int)))]) (hp:=[aM S v]) 1 rfl ⟨rfl,rfl,rfl,aH (by omega),rfl,rfl,rfl,rfl,trivial⟩ (qq6 _) rfl (ax _ _)) ⟨hq.mix hp,by dsimp only;omega⟩
 clear hRl hin hl l0 hq;rintro ⟨R,l⟩ ⟨hq,hl⟩;dsimp only at hq hl ⊢;have hRl:R.length=N:=by rw [hq.pr.len,hN]
 have hin:=hin0.pr hq.pr;refine qq2 ?_;repeat' first|refine u1 ?_|refine u2 ?_|fail
 refine Ko one R hRl hin (by omega) (by omega) (by omega) (fun p h hp hh=>?_);repeat' first|refine u1 ?_|refine u2 ?_|fail
 refine rq (σ:=List Int × Nat × Nat) (fun x=>(⟨aT [(0,.aL 0 v 0 N cc),(1,af (c:Nat)),(2,af (d:Nat)),(3,af (l:Nat)),(4,CF),(10,BB w),(11,BB z),(12,af ((d:Int) - (c:Int))),(13,af (x.2.1:Nat)),(14,af (x.2.2:Nat))],[aM x.1 v],aC,false,1⟩:bO)) (fun x=>PQ cg S0 x.1 a b c d∧c≤x.2.1∧x.2.1 < d∧x.2.2≤2) ?_ ?_
 ·by_cases h2:h=2
  ·subst h2;have d1:decide (((2:Nat):Int)=2)=true:=rfl;refine qq1 ?_;repeat' first|refine u1 ?_|refine u2 ?_|fail
   refine Kl one R hRl (by omega) (by omega) (by omega) (fun S hps=>?_);repeat' first|refine u1 ?_|refine u2 ?_|fail
   exact .is (S,d - 1 - (p - c),1) (ak.to (l:=[(0,.aL 0 v 0 N cc),(1,af (c:Nat)),(2,af (d:Nat)),(3,af (l:Nat)),(4,CF),(10,BB w),(11,BB z),(12,af ((d:Int) - (c:Int))),(13,af (d - 1 - (p - c):Nat)),(14,af (1:Nat))]) (hp:=[aM S v]) 1 rfl ⟨rfl,rfl,rfl,rfl,rfl,rfl,rfl,rfl,aH (by omega),rfl,trivial⟩ (qq6 _) rfl (ax _ _)) ⟨hq.mix hps,by dsimp only;omega,by dsimp only;omega,by dsimp only;omega⟩
  ·have d1:decide ((h:Int)=2)=false:=decide_eq_false (by omega);refine qq1 ?_;repeat' first|refine u1 ?_|refine u2 ?_|fail
   exact .is (R,p,h) (ak.to (l:=[(0,.aL 0 v 0 N cc),(1,af (c:Nat)),(2,af (d:Nat)),(3,af (l:Nat)),(4,CF),(10,BB w),(11,BB z),(12,af ((d:Int) - (c:Int))),(13,af (p:Nat)),(14,af (h:Nat))]) (hp:=[aM R v]) 1 rfl ⟨rfl,rfl,rfl,rfl,rfl,rfl,rfl,rfl,rfl,rfl,trivial⟩ (qq6 _) rfl (ax _ _)) ⟨hq,hp.1,hp.2,hh⟩
 clear hRl hin hq hp hh;rintro ⟨R,p,h⟩ ⟨hq,hp1,hp2,hh⟩;dsimp only at hq hp1 hp2 hh ⊢;have hRl:R.length=N:=by rw [hq.pr.len,hN]
 have hin:=hin0.pr hq.pr;refine rq (σ:=Unit) (fun _=>(⟨aT [(0,.aL 0 v 0 N cc),(1,af (c:Nat)),(2,af (d:Nat)),(3,af (l:Nat)),(4,CF),(10,BB w),(11,BB z),(12,af ((d:Int) - (c:Int))),(13,af (p:Nat))],[aM R v],aC,false,1⟩:bO)) (fun _=>True) ?_ ?_
 ·by_cases h1:w=true∧z=true∧h=1
  ·obtain ⟨rfl,rfl,rfl⟩:=h1;have d1:decide (((1:Nat):Int)=1)=true:=rfl;refine qq1 ?_;repeat' first|refine u1 ?_|refine u2 ?_|fail
   refine Km one R hRl (by omega) (by omega) (by omega) hin (fun bl hbl=>?_)
   cases bl with
   | true =>
    have hz:=hQ R hq.pr (hq.fin (hbl rfl));repeat' first|refine u1 ?_|refine u2 ?_|fail
    exact hz
   | false =>
    repeat' first|refine u1 ?_|refine u2 ?_|fail
    exact .is () (ak.to (l:=[(0,.aL 0 v 0 N cc),(1,af (c:Nat)),(2,af (d:Nat)),(3,af (l:Nat)),(4,CF),(10,BB true),(11,BB true),(12,af ((d:Int) - (c:Int))),(13,af (p:Nat))]) (hp:=[aM R v]) 1 rfl ⟨rfl,rfl,rfl,rfl,rfl,rfl,rfl,rfl,rfl,trivial⟩ (qq6 _) rfl (ax _ _)) trivial
  ·have hw:=show Mq ⟨aT [(0,.aL 0 v 0 N cc),(1,af (c:Nat)),(2,af (d:Nat)),(3,af (l:Nat)),(4,CF),(10,BB w),(11,BB z),(12,af ((d:Int) - (c:Int))),(13,af (p:Nat))],[aM R v],aC,false,1⟩ (fun _:Unit=>(⟨aT [(0,.aL 0 v 0 N cc),(1,af (c:Nat)),(2,af (d:Nat)),(3,af (l:Nat)),(4,CF),(10,BB w),(11,BB z),(12,af ((d:Int) - (c:Int))),(13,af (p:Nat))],[aM R v],aC,false,1⟩:bO)) (fun _=>True) from .is () (ak.to (l:=[(0,.aL 0 v 0 N cc),(1,af (c:Nat)),(2,af (d:Nat)),(3,af (l:Nat)),(4,CF),(10,BB w),(11,BB z),(12,af ((d:Int) - (c:Int))),(13,af (p:Nat))]) (hp:=[aM R v]) 1 rfl ⟨rfl,rfl,rfl,rfl,rfl,rfl,rfl,rfl,rfl,trivial⟩ (qq6 _) rfl (ax _ _)) trivial
   clear hw
   cases w with
   | true =>
    cases z with
    | true =>
     have d1:decide ((h:Int)=1)=false:=decide_eq_false fun e=>h1 ⟨rfl,rfl,by omega⟩;refine qq1 ?_;repeat' first|refine u1 ?_|refine u2 ?_|fail
     exact .is () (ak.to (l:=[(0,.aL 0 v 0 N cc),(1,af (c:Nat)),(2,af (d:Nat)),(3,af (l:Nat)),(4,CF),(10,BB true),(11,BB true),(12,af ((d:Int) - (c:Int))),(13,af (p:Nat))]) (hp:=[aM R v]) 1 rfl ⟨rfl,rfl,rfl,rfl,rfl,rfl,rfl,rfl,rfl,trivial⟩ (qq6 _) rfl (ax _ _)) trivial
    | false =>
     refine qq1 ?_;repeat' first|refine u1 ?_|refine u2 ?_|fail
     exact .is () (ak.to (l:=[(0,.aL 0 v 0 N cc),(1,af (c:Nat)),(2,af (d:Nat)),(3,af (l:Nat)),(4,CF),(10,BB true),(11,BB false),(12,af ((d:Int) - (c:Int))),(13,af (p:Nat))]) (hp:=[aM R v]) 1 rfl ⟨rfl,rfl,rfl,rfl,rfl,rfl,rfl,rfl,rfl,trivial⟩ (qq6 _) rfl (ax _ _)) trivial
   | false =>
    refine qq1 ?_;repeat' first|refine u1 ?_|refine u2 ?_|fail
    exact .is () (ak.to (l:=[(0,.aL 0 v 0 N cc),(1,af (c:Nat)),(2,af (d:Nat)),(3,af (l:Nat)),(4,CF),(10,BB false),(11,BB z),(12,af ((d:Int) - (c:Int))),(13,af (p:Nat))]) (hp:=[aM R v]) 1 rfl ⟨rfl,rfl,rfl,rfl,rfl,rfl,rfl,rfl,rfl,trivial⟩ (qq6 _) rfl (ax _ _)) trivial
 intro _ _;have g1:c ≠ 0→(av R)[0+((c:Int) - 1).toNat * 1]?=some (af (aO R (c - 1))):=fun h0=>aJ (by omega) (by omega);have g2:(av R)[0+((p:Nat):Int).toNat * 1]?=some (af (aO R p)):=aJ (by omega) (by omega);refine rq (σ:=Unit) (fun _=>(⟨aT [(0,.aL 0 v 0 N cc),(1,af (c:Nat)),(2,af (d:Nat)),(3,af (l:Nat)),(4,CF),(10,BB w),(11,BB z),(12,af ((d:Int) - (c:Int))),(13,af (p:Nat))],[aM R v],aC,false,1⟩:bO)) (fun _=>True) ?_ ?_
 ·by_cases c0:c=0
  ·have d1:decide ((0:Int) < (c:Int))=false:=decide_eq_false (by omega);refine qq1 ?_;repeat' first|refine u1 ?_|(refine RM.c5 (c:=13) (l1:=[_,_,_,_,_,_,_,_,_,_,_,_,_]) (l2:=[_,_,_,_]) (by kernel_rfl) rfl rfl ?_)|refine u2 ?_|fail
   exact .is () (ak.to (l:=[(0,.aL 0 v 0 N cc),(1,af (c:Nat)),(2,af (d:Nat)),(3,af (l:Nat)),(4,CF),(10,BB w),(11,BB z),(12,af ((d:Int) - (c:Int))),(13,af (p:Nat))]) (hp:=[aM R v]) 1 rfl ⟨rfl,rfl,rfl,rfl,rfl,rfl,rfl,rfl,rfl,trivial⟩ (qq6 _) rfl (ax _ _)) trivial
  ·have d1:decide ((0:Int) < (c:Int))=true:=decide_eq_true (by omega);have g1:=g1 c0
   cases hls:decide (cg (aO R (c - 1)) < cg (aO R p)) with
   | true =>
    obtain ⟨z1,dz1,o1⟩:=rG one (hin.at (i:=c - 1) (by omega)) (hin.at (i:=p) (by omega)) (of_decide_eq_true hls);have dn1:(!decide (z1 < 0))=false:=by rw [dz1];rfl
    refine qq1 ?_;repeat' first|(refine RM.c5 (c:=13) (l1:=[_,_,_,_,_,_,_,_,_,_,_,_,_]) (l2:=[_,_,_,_]) (by kernel_rfl) rfl rfl ?_)|((with_reducible refine qq3 ?_);refine ah.call o1 rfl rfl ?_)|((with_reducible show RM.wpOp _ _ (.load _ _) _ _ _);refine RM.cU rfl rfl rfl g1 ?_)|((with_reducible show RM.wpOp _ _ (.load _ _) _ _ _);refine RM.cU rfl rfl rfl g2 ?_)|refine u1 ?_|refine u2 ?_|fail
    exact .is () (ak.to (l:=[(0,.aL 0 v 0 N cc),(1,af (c:Nat)),(2,af (d:Nat)),(3,af (l:Nat)),(4,CF),(10,BB w),(11,BB z),(12,af ((d:Int) - (c:Int))),(13,af (p:Nat))]) (hp:=[aM R v]) 1 rfl ⟨rfl,rfl,rfl,rfl,rfl,rfl,rfl,rfl,rfl,trivial⟩ (qq6 _) rfl (ax _ _)) trivial
   | false =>
    obtain ⟨z1,dz1,o1⟩:=rH one (hin.at (i:=c - 1) (by omega)) (hin.at (i:=p) (by omega)) (of_decide_eq_false hls);have dn1:(!decide (z1 < 0))=true:=by rw [dz1];rfl
    have hle:cg (aO R p)≤cg (aO R (c - 1)):=by have:=of_decide_eq_false hls;omega
    refine qq1 ?_;repeat' first|(refine RM.c5 (c:=13) (l1:=[_,_,_,_,_,_,_,_,_,_,_,_,_]) (l2:=[_,_,_,_]) (by kernel_rfl) rfl rfl ?_)|((with_reducible refine qq3 ?_);refine ah.call o1 rfl rfl ?_)|((with_reducible show RM.wpOp _ _ (.load _ _) _ _ _);refine RM.cU rfl rfl rfl g1 ?_)|((with_reducible show RM.wpOp _ _ (.load _ _) _ _ _);refine RM.cU rfl rfl rfl g2 ?_)|refine u1 ?_|refine u2 ?_|fail
    refine Kk one R hRl (by omega) ⟨hp1,hp2⟩ (by omega) hin (fun S m hm=>?_);repeat' first|refine u1 ?_|refine u2 ?_|fail
    have q4:=hm.am;have q5:=hm.mb;exact ⟨(S,m,d,l,w,z),⟨hq.eqs hm c0 hle,hl⟩,(by dsimp only;omega),ak.to (l:=[(0,.aL 0 v 0 N cc),(1,af (m:Nat)),(2,af (d:Nat)),(3,af (l:Nat)),(4,CF),(10,BB w),(11,BB z)]) (hp:=[aM S v]) 1 rfl ⟨rfl,rfl,rfl,rfl,rfl,rfl,rfl,trivial⟩ (qq6 _) rfl (ax _ _)⟩
 intro _ _;clear g1 g2;refine qq1 ?_;repeat' first|refine u1 ?_|refine u2 ?_|fail
 refine II one R hRl (by omega) ⟨hp1,hp2⟩ (by omega) hin (fun S m bl hm=>?_);have q4:=hm.am;have q5:=hm.mb;by_cases hmm:m - c < d - m
 ·have d1:decide ((m:Int) - (c:Int) < (d:Int) - (m:Int))=true:=decide_eq_true (by omega);repeat' first|refine u1 ?_|refine u2 ?_|fail
  refine ih S c m l (by omega) (by rw [hm.pr.len,hRl]) (by omega) (by omega) hl (hin.pr hm.pr) (hq.Me hm) (fun T hp hs=>?_);repeat' first|refine u1 ?_|refine u2 ?_|fail
  exact ⟨(T,m+1,d,l,_,bl),⟨hq.left hm hp hs,hl⟩,(by dsimp only;omega),ak.to (l:=[(0,.aL 0 v 0 N cc),(1,af ((m+1):Nat)),(2,af (d:Nat)),(3,af (l:Nat)),(4,CF),(10,BB _),(11,BB bl)]) (hp:=[aM T v]) 1 rfl ⟨rfl,aH (by simp),rfl,rfl,rfl,rfl,rfl,trivial⟩ (qq6 _) rfl (ax _ _)⟩
 ·have d1:decide ((m:Int) - (c:Int) < (d:Int) - (m:Int))=false:=decide_eq_false (by omega);repeat' first|refine u1 ?_|refine u2 ?_|fail
  rw [show (m:Int)+1=((m+1:Nat):Int) by simp];refine ih S (m+1) d l (by omega) (by rw [hm.pr.len,hRl]) (by omega) (by omega) hl (hin.pr hm.pr) hm.Mf (fun T hp hs=>?_);repeat' first|refine u1 ?_|refine u2 ?_|fail
  exact ⟨(T,c,m,l,_,bl),⟨hq.right hm hp hs,hl⟩,(by dsimp only;omega),ak.to (l:=[(0,.aL 0 v 0 N cc),(1,af (c:Nat)),(2,af (m:Nat)),(3,af (l:Nat)),(4,CF),(10,BB _),(11,BB bl)]) (hp:=[aM T v]) 1 rfl ⟨rfl,rfl,rfl,rfl,rfl,rfl,rfl,trivial⟩ (qq6 _) rfl (ax _ _)⟩
end Go.Proofs.YtlpmfgmldmdggaaGreat
open Go Go.RM
namespace Go.Proofs.YtlpmfgmldmdggaaGreat
set_option maxRecDepth 100000
set_option maxHeartbeats 4000000
end Go.Proofs.YtlpmfgmldmdggaaGreat
open Go Go.RM
namespace Go.Proofs.YtlpmfgmldmdggaaGreat
set_option maxRecDepth 100000
set_option maxHeartbeats 4000000
end Go.Proofs.YtlpmfgmldmdggaaGreat
open Go Go.RM
namespace Go.Proofs.YtlpmfgmldmdggaaGreat
set_option maxRecDepth 100000
set_option maxHeartbeats 4000000
end Go.Proofs.YtlpmfgmldmdggaaGreat
open Go Go.RM
namespace Go.Proofs.YtlpmfgmldmdggaaGreat
set_option maxRecDepth 100000
set_option maxHeartbeats 4000000
end Go.Proofs.YtlpmfgmldmdggaaGreat
open Go Go.RM
namespace Go.Proofs.YtlpmfgmldmdggaaGreat
set_option maxRecDepth 100000
set_option maxHeartbeats 4000000
end Go.Proofs.YtlpmfgmldmdggaaGreat
open Go Go.RM
namespace Go.Proofs.YtlpmfgmldmdggaaGreat
set_option maxRecDepth 100000
set_option maxHeartbeats 4000000
end Go.Proofs.YtlpmfgmldmdggaaGreat
open Go Go.RM
namespace Go.Proofs.YtlpmfgmldmdggaaGreat
set_option maxRecDepth 100000
set_option maxHeartbeats 4000000
theorem IV (one:Bool):Pu one 141 [jv 1] (af 1):=by
 refine ah.body (fn:=Tryz.f141) rfl rfl rfl rfl ?_;refine qq1 ?_;repeat' first|refine u1 ?_|refine u2 ?_|fail
 show aQ TT BinOp.add 3 (Operand.tmp 19) (Operand.tmp 23) (af 0) (af 1) _ _;repeat' first|refine u1 ?_|refine u2 ?_|fail
 exact ⟨[_],⟨Fz.deep rfl,trivial⟩,rfl⟩
theorem IW (one:Bool):Pu one 141 [jv 2] (af 2):=by
 refine ah.body (fn:=Tryz.f141) rfl rfl rfl rfl ?_;refine qq1 ?_;repeat' first|refine u1 ?_|refine u2 ?_|fail
 show aQ TT BinOp.add 3 (Operand.tmp 19) (Operand.tmp 23) (af 0) (af 2) _ _;repeat' first|refine u1 ?_|refine u2 ?_|fail
 exact ⟨[_],⟨Fz.deep rfl,trivial⟩,rfl⟩
theorem IX (one:Bool):Pu one 141 [jv 3] (af 2):=by
 refine ah.body (fn:=Tryz.f141) rfl rfl rfl rfl ?_;refine qq1 ?_;repeat' first|refine u1 ?_|refine u2 ?_|fail
 show aQ TT BinOp.add 3 (Operand.tmp 19) (Operand.tmp 23) (af 0) (af 2) _ _;repeat' first|refine u1 ?_|refine u2 ?_|fail
 exact ⟨[_],⟨Fz.deep rfl,trivial⟩,rfl⟩
theorem IY (one:Bool):Pu one 141 [jv 4] (af 3):=by
 refine ah.body (fn:=Tryz.f141) rfl rfl rfl rfl ?_;refine qq1 ?_;repeat' first|refine u1 ?_|refine u2 ?_|fail
 show aQ TT BinOp.add 3 (Operand.tmp 19) (Operand.tmp 23) (af 0) (af 3) _ _;repeat' first|refine u1 ?_|refine u2 ?_|fail
 exact ⟨[_],⟨Fz.deep rfl,trivial⟩,rfl⟩
theorem IZ (one:Bool):Pu one 141 [jv 5] (af 3):=by
 refine ah.body (fn:=Tryz.f141) rfl rfl rfl rfl ?_;refine qq1 ?_;repeat' first|refine u1 ?_|refine u2 ?_|fail
 show aQ TT BinOp.add 3 (Operand.tmp 19) (Operand.tmp 23) (af 0) (af 3) _ _;repeat' first|refine u1 ?_|refine u2 ?_|fail
 exact ⟨[_],⟨Fz.deep rfl,trivial⟩,rfl⟩
theorem I2 (one:Bool):Pu one 141 [jv 6] (af 3):=by
 refine ah.body (fn:=Tryz.f141) rfl rfl rfl rfl ?_;refine qq1 ?_;repeat' first|refine u1 ?_|refine u2 ?_|fail
 show aQ TT BinOp.add 3 (Operand.tmp 19) (Operand.tmp 23) (af 0) (af 3) _ _;repeat' first|refine u1 ?_|refine u2 ?_|fail
 exact ⟨[_],⟨Fz.deep rfl,trivial⟩,rfl⟩
theorem I3 (one:Bool):Pu one 141 [jv 7] (af 3):=by
 refine ah.body (fn:=Tryz.f141) rfl rfl rfl rfl ?_;refine qq1 ?_;repeat' first|refine u1 ?_|refine u2 ?_|fail
 show aQ TT BinOp.add 3 (Operand.tmp 19) (Operand.tmp 23) (af 0) (af 3) _ _;repeat' first|refine u1 ?_|refine u2 ?_|fail
 exact ⟨[_],⟨Fz.deep rfl,trivial⟩,rfl⟩
theorem Hf (one:Bool) {n:Nat} (h:1≤n∧n≤25):∃ k:Nat,k≤5∧Pu one 141 [jv n] (af (k:Nat)):=by
 by_cases h8:8≤n
 ·obtain ⟨k,hk,_,_,h1⟩:=DE one ⟨h8,h.2⟩;exact ⟨k,by omega,h1⟩
 ·obtain rfl|rfl|rfl|rfl|rfl|rfl|rfl:n=1∨n=2∨n=3∨n=4∨n=5∨n=6∨n=7:=by omega
  ·exact ⟨1,by decide,IV one⟩
  ·exact ⟨2,by decide,IW one⟩
  ·exact ⟨2,by decide,IX one⟩
  ·exact ⟨3,by decide,IY one⟩
  ·exact ⟨3,by decide,IZ one⟩
  ·exact ⟨3,by decide,I2 one⟩
  ·exact ⟨3,by decide,I3 one⟩
end Go.Proofs.YtlpmfgmldmdggaaGreat
open Go Go.RM
namespace Go.Proofs.YtlpmfgmldmdggaaGreat
set_option maxRecDepth 100000
set_option maxHeartbeats 4000000
theorem I4 (one:Bool) (S0:List Int) {N:Nat} (hN:S0.length=N) (h25:1≤N∧N≤25) (hin:zP S0) {v cc:Nat} {aC:bJ} {Q:AV→List AB→bJ→Prop} (hQ:∀ S:List Int,S.Perm S0→S.length=N→Sd cg S 0 N→Q (.tp []) [aM S v] aC) :
  au TT TB one (.fn 129 [] []) [.aL 0 v 0 N cc,CF] [aM S0 v] aC Q:=by
 obtain ⟨k,hk,o0⟩:=Hf one h25;have o1:=Jw one o0;refine au.body (fn:=Tryz.f129) rfl rfl rfl ?_;refine qq1 ?_;repeat' first|refine u1 ?_|((with_reducible show RM.wpOp _ _ (.convert _ _ _) _ _ _);refine Ks (n:=N) (fun _=>rfl) rfl (by omega) ?_)|((with_reducible refine qq3 ?_);refine ah.call o1 rfl rfl ?_)|refine u2 ?_|fail
 refine Ku one h25.2 (N+1) S0 0 N k (by omega) hN (qq6 _) (by omega) (by omega) hin (.inl rfl) (fun S hp hs=>?_);have hz:=hQ S hp.perm (by rw [hp.len,hN]) hs;repeat' first|refine u1 ?_|refine u2 ?_|fail
 exact hz
end Go.Proofs.YtlpmfgmldmdggaaGreat
open Go Go.RM
namespace Go.Proofs.YtlpmfgmldmdggaaGreat
set_option maxRecDepth 100000
set_option maxHeartbeats 4000000
theorem sQ (c:aP) (w:Int) (k:Nat):eD c w (k+1)=if CK c w k=true then eD c w k++[k] else eD c w k:=by
 unfold eD;rw [List.range_succ,List.filter_append,List.filter_cons,List.filter_nil];split
 ·rfl
 ·rw [List.append_nil]
theorem Hg (c:aP) (w:Int) (k:Nat):(eD c w k).length≤k:=by
 have:=List.length_filter_le (CK c w) (List.range k)
 rwa [List.length_range] at this
theorem Kv (one:Bool) (c:aP) (hg:Good c) (p:bW) (hp:uz p):Pu one 113 [.ag (gM c p)] (.sl (ints (nI (jn c p.aF))) false):=by
 have em:((c.aA.map bS).length:Int)=c.aA.length:=by simp
 have hm5:c.aA.length≤5:=hg.aA.2;have h32:2 ^ c.aA.length≤2 ^ 5:=Nat.pow_le_pow_right (by decide) hm5;have hm8:c.aA.length < 8:=by omega
 refine ah.body (fn:=Tryz.f113) rfl rfl rfl rfl ?_;refine aa (mu:=fun t=>Nat.beq t 28) ?_;repeat' first|refine u1 ?_|((with_reducible show aQ _ _ _ _ _ _ _ _ _);refine RM.v8 (j:=c.aA.length) rfl (aH em) hm8 ?_)|refine u2 ?_|fail
 refine ay.aN (ak.trans (ak.mP 1) (ak.HM (l:=[(1,.pt (gM c p) 0),(2,.aL 0 0 0 (eD c p.aF 0).length 0),(8,af ((2 ^ c.aA.length:Nat):Int)),(9,af (0:Nat))]) (hp:=[.cells (av (nI (eD c p.aF 0))) 1 0]) 1 rfl ⟨dI.refl _,dI.mO,dI.refl _,dI.refl _,trivial⟩ (qq5 _) rfl (ax _ _))) ?_;refine ay.loop (fun x:Nat × Nat × Nat=>x.1≤2 ^ c.aA.length∧(x.2.2=(eD c p.aF x.1).length∨x.2.2=(eD c p.aF x.1).length+1)) (fun x=>⟨aT [(1,.pt (gM c p) 0),(2,.aL 0 x.2.1 0 (eD c p.aF x.1).length x.2.2),(8,af ((2 ^ c.aA.length:Nat):Int)),(9,af (x.1:Nat))],[.cells (av (nI (eD c p.aF x.1))) 1 x.2.1],bJ.none,false,0⟩) (fun x=>2 ^ c.aA.length - x.1) ?_ (0,0,0) ⟨qq5 _,.inl rfl⟩;rintro ⟨k,v,cc⟩ ⟨hk,hcap⟩;dsimp only at hk hcap;show ay _ _ _ _ ⟨aT [(1,.pt (gM c p) 0),(2,.aL 0 v 0 (eD c p.aF k).length cc),(8,af ((2 ^ c.aA.length:Nat):Int)),(9,af (k:Nat))],[.cells (av (nI (eD c p.aF k))) 1 v],bJ.none,false,0⟩ _;by_cases hlt:k < 2 ^ c.aA.length
 ·have dl:decide ((k:Int) < ((2 ^ c.aA.length:Nat):Int))=true:=decide_eq_true (by omega);have k32:k < 32:=Nat.lt_of_lt_of_le hlt h32;have o1:=Ip true k k32;have o2:=Bo true c p (aI c 0 c.aA.length) (aI c 1 c.aA.length) (aI c 2 c.aA.length) k (jF 0 (by omega)) (jF 1 (by omega)) (jF 2 (by omega)) k32;have hgl:(av (nI (eD c p.aF k))).length=(eD c p.aF k).length * 1:=by rw [List.length_map,List.length_map];omega
  have hsl:=Hg c p.aF k;have hel:=oA k 5;have eel:((ints (fj k)).length:Int)=(fj k).length:=by simp
  by_cases ha:p.aF < ((fj k).length:Int)
  ·have d1:decide (p.aF < ((ints (fj k)).length:Int))=true:=decide_eq_true (by omega);have hs:eD c p.aF (k+1)=eD c p.aF k:=by rw [sQ,if_neg];unfold CK;rw [decide_eq_false (show ¬ ((fj k).length:Int)≤p.aF by omega)];simp
   refine aa (mu:=fun t=>Nat.beq t 28) ?_;repeat' first|refine u1 ?_|(refine ⟨_,_,.inl ⟨rfl,rfl⟩,o1,?_⟩)|(refine ⟨_,_,.inl ⟨rfl,rfl⟩,o2,?_⟩)|refine u2 ?_|fail
   exact ⟨(k+1,v,cc),⟨hlt,by dsimp only;rw [hs];exact hcap⟩,(by dsimp only;omega),ak.to (l:=[(1,.pt (gM c p) 0),(2,.aL 0 v 0 (eD c p.aF (k+1)).length cc),(8,af ((2 ^ c.aA.length:Nat):Int)),(9,af ((k+1):Nat))]) (hp:=[.cells (av (nI (eD c p.aF (k+1)))) 1 v]) 1 (by show _=[AB.cells (av (nI (eD c p.aF (k+1)))) 1 v];rw [hs];rfl) ⟨rfl,by rw [hs];rfl,rfl,aH (by simp),trivial⟩ (qq5 _) rfl (ax _ _)⟩
  ·have d1:decide (p.aF < ((ints (fj k)).length:Int))=false:=decide_eq_false (by omega)
   cases hsp:Bx c k with
   | false =>
    rw [show zx (aI c 0 c.aA.length) (aI c 1 c.aA.length) (aI c 2 c.aA.length) k=false from hsp] at o2;have hs:eD c p.aF (k+1)=eD c p.aF k:=by rw [sQ,if_neg];unfold CK;rw [hsp,Bool.and_false];simp
    refine aa (mu:=fun t=>Nat.beq t 28) ?_;repeat' first|refine u1 ?_|(refine ⟨_,_,.inl ⟨rfl,rfl⟩,o1,?_⟩)|(refine ⟨_,_,.inl ⟨rfl,rfl⟩,o2,?_⟩)|refine u2 ?_|fail
    exact ⟨(k+1,v,cc),⟨hlt,by dsimp only;rw [hs];exact hcap⟩,(by dsimp only;omega),ak.to (l:=[(1,.pt (gM c p) 0),(2,.aL 0 v 0 (eD c p.aF (k+1)).length cc),(8,af ((2 ^ c.aA.length:Nat):Int)),(9,af ((k+1):Nat))]) (hp:=[.cells (av (nI (eD c p.aF (k+1)))) 1 v]) 1 (by show _=[AB.cells (av (nI (eD c p.aF (k+1)))) 1 v];rw [hs];rfl) ⟨rfl,by rw [hs];rfl,rfl,aH (by simp),trivial⟩ (qq5 _) rfl (ax _ _)⟩
   | true =>
    rw [show zx (aI c 0 c.aA.length) (aI c 1 c.aA.length) (aI c 2 c.aA.length) k=true from hsp] at o2;have hs:eD c p.aF (k+1)=eD c p.aF k++[k]:=by rw [sQ,if_pos];unfold CK;rw [decide_eq_true (by omega),hsp];rfl
    have hsl2:(eD c p.aF (k+1)).length=(eD c p.aF k).length+1:=by rw [hs,List.length_append];rfl
    refine aa (mu:=fun t=>Nat.beq t 28) ?_;repeat' first|refine u1 ?_|(refine ⟨_,_,.inl ⟨rfl,rfl⟩,o1,?_⟩)|(refine ⟨_,_,.inl ⟨rfl,rfl⟩,o2,?_⟩)|((with_reducible show RM.wpOp _ _ (.call _) _ _ _);refine RM.sD (cs:=av (nI (eD c p.aF k))) (n:=(eD c p.aF k).length) (els:=[[af (k:Int)]]) rfl rfl rfl rfl rfl (fun el hel=>by rw [List.mem_singleton.1 hel];rfl) rfl rfl hgl hcap (by simp only [List.length_singleton];omega) (fun v' c' hc'=>?_))|refine u2 ?_|fail
    exact ⟨(k+1,v',c'),⟨hlt,by dsimp only;rw [hsl2];exact hc'⟩,(by dsimp only;omega),ak.to (l:=[(1,.pt (gM c p) 0),(2,.aL 0 v' 0 (eD c p.aF (k+1)).length c'),(8,af ((2 ^ c.aA.length:Nat):Int)),(9,af ((k+1):Nat))]) (hp:=[.cells (av (nI (eD c p.aF (k+1)))) 1 v']) 1 (by show _=[AB.cells (av (nI (eD c p.aF (k+1)))) 1 v'];rw [hs];unfold av nI;rw [List.map_append,List.map_append];rfl) ⟨rfl,by rw [hsl2];rfl,rfl,aH (by simp),trivial⟩ (qq5 _) rfl (ax _ _)⟩
 ·have dl:decide ((k:Int) < ((2 ^ c.aA.length:Nat):Int))=false:=decide_eq_false (by omega);have hk5:k=2 ^ c.aA.length:=by omega
  subst hk5;have hpl:=(set_perm hg p.aF).length_eq;have h16:=Dz hg hp;have h0:=List.length_pos_of_mem (Bz hg hp);have hin:zP (nI (eD c p.aF (2 ^ c.aA.length))):=fun x hx=>by obtain ⟨a,ha,rfl⟩:=List.mem_map.1 hx;have:=Nat.lt_of_lt_of_le (List.mem_range.1 (List.mem_filter.1 ha).1) h32;omega
  have hN:(nI (eD c p.aF (2 ^ c.aA.length))).length=(eD c p.aF (2 ^ c.aA.length)).length:=List.length_map _;refine aa (mu:=fun t=>Nat.beq t 28) ?_;repeat' first|refine u1 ?_|refine u2 ?_|fail
  refine I4 one (nI (eD c p.aF (2 ^ c.aA.length))) (N:=(eD c p.aF (2 ^ c.aA.length)).length) hN (by omega) hin (fun S hS1 hS2 hS3=>?_);have hS:=GH hg hS2 hS1 hS3;subst hS;repeat' first|refine u1 ?_|refine u2 ?_|fail
  exact ⟨[_],⟨wm rfl hS2,trivial⟩,rfl⟩
