/-
  Contracts of the program's functions and of the document's. Lemmas alone; their conditions stand in them.
-/
import Derived.Test.YtlpmfgmldmdggaaGreatK14
open Go Go.RM
namespace Go.Proofs.YtlpmfgmldmdggaaGreat
set_option maxRecDepth 100000
set_option maxHeartbeats 4000000
theorem Kk (one:Bool) (S0:List Int) {a b p N:Nat} (hN:S0.length=N) (hb:b≤N) (hp:a≤p∧p < b) (h9:N≤1000) (hr:zP S0) {v cc:Nat} {aC:bJ} {Q:AV→List AB→bJ→Prop} (hQ:∀ (S:List Int) (m:Nat),GS cg S0 S a b m (aO S0 p)→Q (af (m:Nat)) [aM S v] aC) :
  au TT TB one (.fn 156 [] []) [.aL 0 v 0 N cc,af (a:Nat),af (b:Nat),af (p:Nat),CF] [aM S0 v] aC Q:=by
 refine au.body (fn:=Tryz.f156) rfl rfl rfl ?_;show ay TT TB one (.seq (.region _ _ _) (.seq (.region _ _ _) (.seq (.region _ _ _) (.seq (.block _ _) (.seq (.region _ _ _) _))))) _ _;have hst:=yd.start (rk:=cg) (S0:=S0) (a:=a) (b:=b) (p:=p) (by omega) hp
 generalize hpv:aO S0 p=pv at *
 have b1:Nat.ble (0+((a:Nat):Int).toNat * 1+1) (av S0).length=true:=ej (k:=a) (by omega) (by omega);have b2:Nat.ble (0+((p:Nat):Int).toNat * 1+1) (bg (av S0) [af (aO S0 p)] (0+((a:Nat):Int).toNat * 1)).length=true:=gz (i:=a) (j:=p) (by omega) (by omega) (by omega) (by omega) _;have e1:=dh (R:=S0) (i:=a) (j:=p) (p:=0+((a:Nat):Int).toNat * 1) (q:=0+((p:Nat):Int).toNat * 1) (by omega) (by omega) (by omega) (by omega);have y1:(av S0)[0+((p:Nat):Int).toNat * 1]?=some (af (aO S0 p)):=aJ (by omega) (by omega);have y2:(av S0)[0+((a:Nat):Int).toNat * 1]?=some (af (aO S0 a)):=aJ (by omega) (by omega);rw [hpv] at b2 e1 y1;refine qq2 ?_;repeat' first|refine u1 ?_|refine u2 ?_|fail
 refine qq2 ?_;repeat' first|((with_reducible show RM.wpOp _ _ (.load _ _) _ _ _);refine RM.cU rfl rfl rfl y1 ?_)|((with_reducible show RM.wpOp _ _ (.load _ _) _ _ _);refine RM.cU rfl rfl rfl y2 ?_)|((with_reducible show aR _ _ _ _ _ _);refine RM.lY rfl rfl rfl rfl rfl rfl b1 ?_)|((with_reducible show aR _ _ _ _ _ _);refine RM.lY rfl rfl rfl rfl rfl rfl b2 ?_)|refine u1 ?_|refine u2 ?_|fail
 refine qq2 ?_;repeat' first|refine u1 ?_|refine u2 ?_|fail
 refine ay.aN (ak.to (l:=[(0,.aL 0 v 0 N cc),(1,af (a:Nat)),(4,CF),(11,af ((a+1):Nat)),(12,af ((b - 1):Nat))]) (hp:=[aM (sw S0 a p) v]) 1 (by show _=[AB.cells (av (sw S0 a p)) 1 v];rw [←e1];rfl) ⟨rfl,rfl,rfl,aH (by simp),aH (by omega),trivial⟩ (qq6 _) rfl (ax _ _)) ?_;clear b1 b2 e1 y1 y2;refine rq (fun x:ye=>(⟨aT [(0,.aL 0 v 0 N cc),(1,af (a:Nat)),(4,CF),(11,af (x.1:Nat)),(12,af (x.2.1:Nat))],[aM x.2.2 v],aC,false,1⟩:bO)) (fun x:ye=>yd cg S0 x.2.2 a b pv x.1 x.2.1∧x.2.1 < x.1) ?_ ?_
 ·refine ay.block ?_;refine ay.loop (fun x:ye=>yd cg S0 x.2.2 a b pv x.1 x.2.1) (fun x:ye=>(⟨aT [(0,.aL 0 v 0 N cc),(1,af (a:Nat)),(4,CF),(11,af (x.1:Nat)),(12,af (x.2.1:Nat))],[aM x.2.2 v],aC,false,1⟩:bO)) (fun x=>x.2.1) ?_ (a+1,b - 1,sw S0 a p) hst;clear hst;rintro ⟨i,j,R⟩ hpt;dsimp only at hpt ⊢;obtain ⟨j0,hj0,hjj⟩:∃ j0,j≤j0∧j0≤j:=⟨j,qq6 _,qq6 _⟩;refine ay.block ?_;refine rq (fun x:ye=>(⟨aT [(0,.aL 0 v 0 N cc),(1,af (a:Nat)),(4,CF),(11,af (x.1:Nat)),(12,af (x.2.1:Nat))],[aM x.2.2 v],aC,false,1⟩:bO)) (fun x:ye=>yd cg S0 x.2.2 a b pv x.1 x.2.1∧(x.2.1 < x.1∨cg pv < cg (aO x.2.2 x.1))∧x.2.1≤j0) ?_ ?_
  ·refine ay.block ?_;refine ay.loop (fun x:Nat=>yd cg S0 R a b pv x j) (fun x=>⟨aT [(0,.aL 0 v 0 N cc),(1,af (a:Nat)),(4,CF),(11,af (x:Nat)),(12,af (j:Nat))],[aM R v],aC,false,1⟩) (fun x=>N+1 - x) ?_ i hpt;clear hpt;intro i hpt;have hSl:(R).length=N:=by rw [hpt.pr.len,hN]
   have q1:=hpt.ai;have q2:=hpt.ij;have q3:=hpt.jb;have q4:=hpt.aj;have hpe:=hpt.pe;by_cases hij:i≤j
   ·have d1:decide ((i:Int)≤(j:Int))=true:=decide_eq_true (by omega);have g1:(av R)[0+((i:Nat):Int).toNat * 1]?=some (af (aO R i)):=aJ (by omega) (by omega);have g2:(av R)[0+((a:Nat):Int).toNat * 1]?=some (af (aO R a)):=aJ (by omega) (by omega);rw [hpe] at g2;have hin:=hr.pr hpt.pr;have hpa:=hin.at (i:=a) (by omega);rw [hpe] at hpa;by_cases hl:cg pv < cg (aO R i)
    ·obtain ⟨z,dz,o1⟩:=rG one hpa (hin.at (i:=i) (by omega)) hl;have dn:(!decide (z < 0))=false:=by rw [dz];rfl
     refine qq1 ?_;repeat' first|(refine RM.c5 (c:=13) (l1:=[_,_,_,_,_,_,_,_,_,_,_,_,_]) (l2:=[_,_,_,_]) (by kernel_rfl) rfl rfl ?_)|((with_reducible refine qq3 ?_);refine ah.call o1 rfl rfl ?_)|((with_reducible show RM.wpOp _ _ (.load _ _) _ _ _);refine RM.cU rfl rfl rfl g1 ?_)|((with_reducible show RM.wpOp _ _ (.load _ _) _ _ _);refine RM.cU rfl rfl rfl g2 ?_)|refine u1 ?_|refine u2 ?_|fail
     exact .is (i,j,R) (ak.to (l:=[(0,.aL 0 v 0 N cc),(1,af (a:Nat)),(4,CF),(11,af (i:Nat)),(12,af (j:Nat))]) (hp:=[aM R v]) 1 rfl ⟨rfl,rfl,rfl,aH (by omega),aH (by omega),trivial⟩ (qq6 _) rfl (ax _ _)) ⟨hpt,.inr (by dsimp only;omega),hj0⟩
    ·obtain ⟨z,dz,o1⟩:=rH one hpa (hin.at (i:=i) (by omega)) hl;have dn:(!decide (z < 0))=true:=by rw [dz];rfl
     refine qq1 ?_;repeat' first|(refine RM.c5 (c:=13) (l1:=[_,_,_,_,_,_,_,_,_,_,_,_,_]) (l2:=[_,_,_,_]) (by kernel_rfl) rfl rfl ?_)|((with_reducible refine qq3 ?_);refine ah.call o1 rfl rfl ?_)|((with_reducible show RM.wpOp _ _ (.load _ _) _ _ _);refine RM.cU rfl rfl rfl g1 ?_)|((with_reducible show RM.wpOp _ _ (.load _ _) _ _ _);refine RM.cU rfl rfl rfl g2 ?_)|refine u1 ?_|refine u2 ?_|fail
     exact ⟨i+1,hpt.up hij (by show cg (aO R i)≤cg pv;omega),(by dsimp only;omega),(ak.to (l:=[(0,.aL 0 v 0 N cc),(1,af (a:Nat)),(4,CF),(11,af ((i+1):Nat)),(12,af (j:Nat))]) (hp:=[aM R v]) 1 rfl ⟨rfl,rfl,rfl,aH (by omega),aH (by omega),trivial⟩ (qq6 _) rfl (ax _ _))⟩
   ·have d1:decide ((i:Int)≤(j:Int))=false:=decide_eq_false (by omega);refine qq1 ?_;repeat' first|refine u1 ?_|(refine RM.c5 (c:=13) (l1:=[_,_,_,_,_,_,_,_,_,_,_,_,_]) (l2:=[_,_,_,_]) (by kernel_rfl) rfl rfl ?_)|refine u2 ?_|fail
    exact .is (i,j,R) (ak.to (l:=[(0,.aL 0 v 0 N cc),(1,af (a:Nat)),(4,CF),(11,af (i:Nat)),(12,af (j:Nat))]) (hp:=[aM R v]) 1 rfl ⟨rfl,rfl,rfl,aH (by omega),aH (by omega),trivial⟩ (qq6 _) rfl (ax _ _)) ⟨hpt,.inl (by dsimp only;omega),hj0⟩
  rintro ⟨i,j,R⟩ ⟨hpt,hup,hj0⟩;dsimp only at hpt hup hj0 ⊢;refine rq (fun x:ye=>(⟨aT [(0,.aL 0 v 0 N cc),(1,af (a:Nat)),(4,CF),(11,af (x.1:Nat)),(12,af (x.2.1:Nat))],[aM x.2.2 v],aC,false,1⟩:bO)) (fun x:ye=>yd cg S0 x.2.2 a b pv x.1 x.2.1∧(x.2.1 < x.1∨(cg pv < cg (aO x.2.2 x.1)∧cg (aO x.2.2 x.2.1)≤cg pv))∧x.2.1≤j0) ?_ ?_
  ·refine ay.block ?_;refine ay.loop (fun x:Nat=>yd cg S0 R a b pv i x∧(x < i∨cg pv < cg (aO R i))∧x≤j0) (fun x=>⟨aT [(0,.aL 0 v 0 N cc),(1,af (a:Nat)),(4,CF),(11,af (i:Nat)),(12,af (x:Nat))],[aM R v],aC,false,1⟩) (fun x=>x) ?_ j ⟨hpt,hup,hj0⟩;clear hpt hup hj0;rintro j ⟨hpt,hup,hj0⟩;have hSl:(R).length=N:=by rw [hpt.pr.len,hN]
   have q1:=hpt.ai;have q2:=hpt.ij;have q3:=hpt.jb;have q4:=hpt.aj;have hpe:=hpt.pe;by_cases hij:i≤j
   ·have d1:decide ((i:Int)≤(j:Int))=true:=decide_eq_true (by omega);have g1:(av R)[0+((j:Nat):Int).toNat * 1]?=some (af (aO R j)):=aJ (by omega) (by omega);have g2:(av R)[0+((a:Nat):Int).toNat * 1]?=some (af (aO R a)):=aJ (by omega) (by omega);rw [hpe] at g2;have hin:=hr.pr hpt.pr;have hpa:=hin.at (i:=a) (by omega);rw [hpe] at hpa;by_cases hl:cg pv < cg (aO R j)
    ·obtain ⟨z,dz,o1⟩:=rG one hpa (hin.at (i:=j) (by omega)) hl;refine qq1 ?_;repeat' first|(refine RM.c5 (c:=13) (l1:=[_,_,_,_,_,_,_,_,_,_,_,_,_]) (l2:=[_,_,_]) (by kernel_rfl) rfl rfl ?_)|((with_reducible refine qq3 ?_);refine ah.call o1 rfl rfl ?_)|((with_reducible show RM.wpOp _ _ (.load _ _) _ _ _);refine RM.cU rfl rfl rfl g1 ?_)|((with_reducible show RM.wpOp _ _ (.load _ _) _ _ _);refine RM.cU rfl rfl rfl g2 ?_)|refine u1 ?_|refine u2 ?_|fail
     exact ⟨j - 1,⟨hpt.down hij hl,by omega,by omega⟩,(by dsimp only;omega),(ak.to (l:=[(0,.aL 0 v 0 N cc),(1,af (a:Nat)),(4,CF),(11,af (i:Nat)),(12,af ((j - 1):Nat))]) (hp:=[aM R v]) 1 rfl ⟨rfl,rfl,rfl,aH (by omega),aH (by omega),trivial⟩ (qq6 _) rfl (ax _ _))⟩
    ·obtain ⟨z,dz,o1⟩:=rH one hpa (hin.at (i:=j) (by omega)) hl;refine qq1 ?_;repeat' first|(refine RM.c5 (c:=13) (l1:=[_,_,_,_,_,_,_,_,_,_,_,_,_]) (l2:=[_,_,_]) (by kernel_rfl) rfl rfl ?_)|((with_reducible refine qq3 ?_);refine ah.call o1 rfl rfl ?_)|((with_reducible show RM.wpOp _ _ (.load _ _) _ _ _);refine RM.cU rfl rfl rfl g1 ?_)|((with_reducible show RM.wpOp _ _ (.load _ _) _ _ _);refine RM.cU rfl rfl rfl g2 ?_)|refine u1 ?_|refine u2 ?_|fail
     exact .is (i,j,R) (ak.to (l:=[(0,.aL 0 v 0 N cc),(1,af (a:Nat)),(4,CF),(11,af (i:Nat)),(12,af (j:Nat))]) (hp:=[aM R v]) 1 rfl ⟨rfl,rfl,rfl,aH (by omega),aH (by omega),trivial⟩ (qq6 _) rfl (ax _ _)) ⟨hpt,.inr ⟨by dsimp only;omega,by dsimp only;omega⟩,hj0⟩
   ·have d1:decide ((i:Int)≤(j:Int))=false:=decide_eq_false (by omega);refine qq1 ?_;repeat' first|refine u1 ?_|(refine RM.c5 (c:=13) (l1:=[_,_,_,_,_,_,_,_,_,_,_,_,_]) (l2:=[_,_,_]) (by kernel_rfl) rfl rfl ?_)|refine u2 ?_|fail
    exact .is (i,j,R) (ak.to (l:=[(0,.aL 0 v 0 N cc),(1,af (a:Nat)),(4,CF),(11,af (i:Nat)),(12,af (j:Nat))]) (hp:=[aM R v]) 1 rfl ⟨rfl,rfl,rfl,aH (by omega),aH (by omega),trivial⟩ (qq6 _) rfl (ax _ _)) ⟨hpt,.inl (by dsimp only;omega),hj0⟩
  rintro ⟨i,j,R⟩ ⟨hpt,hdn,hj0⟩;dsimp only at hpt hdn hj0 ⊢;have hSl:(R).length=N:=by rw [hpt.pr.len,hN]
  have q1:=hpt.ai;have q2:=hpt.ij;have q3:=hpt.jb;have q4:=hpt.aj;have hpe:=hpt.pe;by_cases hij:j < i
  ·have d1:decide ((j:Int) < (i:Int))=true:=decide_eq_true (by omega);refine qq1 ?_;show kA _ _ _ _ (.seq (.seq (.region _ _ _) _) _) _ _;repeat' first|refine u1 ?_|refine u2 ?_|fail
   exact .is (i,j,R) (ak.to (l:=[(0,.aL 0 v 0 N cc),(1,af (a:Nat)),(4,CF),(11,af (i:Nat)),(12,af (j:Nat))]) (hp:=[aM R v]) 1 rfl ⟨rfl,rfl,rfl,aH (by omega),aH (by omega),trivial⟩ (qq6 _) rfl (ax _ _)) ⟨hpt,hij⟩
  ·have d1:decide ((j:Int) < (i:Int))=false:=decide_eq_false (by omega);obtain ⟨hij2,hps⟩:=hpt.swap (by omega) (by omega) (hdn.resolve_left hij).1 (hdn.resolve_left hij).2;have b1:Nat.ble (0+((i:Nat):Int).toNat * 1+1) (av R).length=true:=ej (k:=i) (by omega) (by omega);have b2:Nat.ble (0+((j:Nat):Int).toNat * 1+1) (bg (av R) [af (aO R j)] (0+((i:Nat):Int).toNat * 1)).length=true:=gz (i:=i) (j:=j) (by omega) (by omega) (by omega) (by omega) _;have e1:=dh (R:=R) (i:=i) (j:=j) (p:=0+((i:Nat):Int).toNat * 1) (q:=0+((j:Nat):Int).toNat * 1) (by omega) (by omega) (by omega) (by omega);have y1:(av R)[0+((j:Nat):Int).toNat * 1]?=some (af (aO R j)):=aJ (by omega) (by omega);have y2:(av R)[0+((i:Nat):Int).toNat * 1]?=some (af (aO R i)):=aJ (by omega) (by omega);refine qq1 ?_;show kA _ _ _ _ (.seq (.seq (.region _ _ _) _) _) _ _;repeat' first|((with_reducible show RM.wpOp _ _ (.load _ _) _ _ _);refine RM.cU rfl rfl rfl y1 ?_)|((with_reducible show RM.wpOp _ _ (.load _ _) _ _ _);refine RM.cU rfl rfl rfl y2 ?_)|((with_reducible show aR _ _ _ _ _ _);refine RM.lY rfl rfl rfl rfl rfl rfl b1 ?_)|((with_reducible show aR _ _ _ _ _ _);refine RM.lY rfl rfl rfl rfl rfl rfl b2 ?_)|refine u1 ?_|refine u2 ?_|fail
   exact ⟨(i+1,j - 1,sw R i j),hps,(by dsimp only;omega),ak.to (l:=[(0,.aL 0 v 0 N cc),(1,af (a:Nat)),(4,CF),(11,af ((i+1):Nat)),(12,af ((j - 1):Nat))]) (hp:=[aM (sw R i j) v]) 1 (by show _=[AB.cells (av (sw R i j)) 1 v];rw [←e1];rfl) ⟨rfl,rfl,rfl,aH (by simp),aH (by omega),trivial⟩ (qq6 _) rfl (ax _ _)⟩
 rintro ⟨i,j,R⟩ ⟨hpt,hij⟩;dsimp only at hpt hij ⊢;have hz:=hQ _ _ (hpt.done hij);refine qq1 ?_;repeat' first|refine u1 ?_|refine u2 ?_|fail
 exact hz
end Go.Proofs.YtlpmfgmldmdggaaGreat
open Go Go.RM
namespace Go.Proofs.YtlpmfgmldmdggaaGreat
set_option maxRecDepth 100000
set_option maxHeartbeats 4000000
theorem Kl (one:Bool) (S0:List Int) {a b N:Nat} (hN:S0.length=N) (hb:b≤N) (hab:a < b) (h9:N≤1000) {v cc:Nat} {aC:bJ} {Q:AV→List AB→bJ→Prop} (hQ:∀ S:List Int,PR S0 S a b→Q (.tp []) [aM S v] aC) :
  au TT TB one (.fn 154 [] []) [.aL 0 v 0 N cc,af (a:Nat),af (b:Nat),CF] [aM S0 v] aC Q:=by
 refine au.body (fn:=Tryz.f154) rfl rfl rfl ?_;refine qq1 ?_;repeat' first|refine u1 ?_|refine u2 ?_|fail
 refine ay.aN (ak.to (l:=[(0,.aL 0 v 0 N cc),(8,af (a:Nat)),(9,af ((b - 1):Nat))]) (hp:=[aM S0 v]) 1 rfl ⟨rfl,rfl,aH (by omega),trivial⟩ (qq6 _) rfl (ax _ _)) ?_;refine ay.loop (fun x:Nat × Nat × List Int=>(a≤x.1∧x.2.1 < b∧x.1≤x.2.1+1)∧PR S0 x.2.2 a b) (fun x=>⟨aT [(0,.aL 0 v 0 N cc),(8,af (x.1:Nat)),(9,af (x.2.1:Nat))],[aM x.2.2 v],aC,false,1⟩) (fun x=>x.2.1) ?_ (a,b - 1,S0) ⟨⟨qq6 _,by dsimp only;omega,by dsimp only;omega⟩,PR.refl _ _ _⟩;rintro ⟨i,j,R⟩ ⟨⟨h1,h2,h3⟩,hpr⟩;dsimp only at h1 h2 h3 hpr;have hRl:R.length=N:=by rw [hpr.len,hN]
 show ay _ _ _ _ ⟨aT [(0,.aL 0 v 0 N cc),(8,af (i:Nat)),(9,af (j:Nat))],[aM R v],aC,false,1⟩ _;by_cases hij:i < j
 ·have d1:decide ((i:Int) < (j:Int))=true:=decide_eq_true (by omega);have b1:Nat.ble (0+((i:Nat):Int).toNat * 1+1) (av R).length=true:=ej (k:=i) (by omega) (by omega);have b2:Nat.ble (0+((j:Nat):Int).toNat * 1+1) (bg (av R) [af (aO R j)] (0+((i:Nat):Int).toNat * 1)).length=true:=gz (i:=i) (j:=j) (by omega) (by omega) (by omega) (by omega) _;have e1:=dh (R:=R) (i:=i) (j:=j) (p:=0+((i:Nat):Int).toNat * 1) (q:=0+((j:Nat):Int).toNat * 1) (by omega) (by omega) (by omega) (by omega);have y1:(av R)[0+((j:Nat):Int).toNat * 1]?=some (af (aO R j)):=aJ (by omega) (by omega);have y2:(av R)[0+((i:Nat):Int).toNat * 1]?=some (af (aO R i)):=aJ (by omega) (by omega);refine qq1 ?_;repeat' first|((with_reducible show RM.wpOp _ _ (.load _ _) _ _ _);refine RM.cU rfl rfl rfl y1 ?_)|((with_reducible show RM.wpOp _ _ (.load _ _) _ _ _);refine RM.cU rfl rfl rfl y2 ?_)|((with_reducible show aR _ _ _ _ _ _);refine RM.lY rfl rfl rfl rfl rfl rfl b1 ?_)|((with_reducible show aR _ _ _ _ _ _);refine RM.lY rfl rfl rfl rfl rfl rfl b2 ?_)|refine u1 ?_|refine u2 ?_|fail
  exact ⟨(i+1,j - 1,sw R i j),⟨⟨by dsimp only;omega,by dsimp only;omega,by dsimp only;omega⟩,hpr.trans (PR.sw (by omega) ⟨by omega,by omega⟩ ⟨by omega,by omega⟩)⟩,(by dsimp only;omega),ak.to (l:=[(0,.aL 0 v 0 N cc),(8,af ((i+1):Nat)),(9,af ((j - 1):Nat))]) (hp:=[aM (sw R i j) v]) 1 (by show _=[AB.cells (av (sw R i j)) 1 v];rw [←e1];rfl) ⟨rfl,aH (by simp),aH (by omega),trivial⟩ (qq6 _) rfl (ax _ _)⟩
 ·have d1:decide ((i:Int) < (j:Int))=false:=decide_eq_false (by omega);have hz:=hQ R hpr;refine qq1 ?_;repeat' first|refine u1 ?_|refine u2 ?_|fail
  exact hz
theorem Km (one:Bool) (S:List Int) {a b N:Nat} (hN:S.length=N) (hb:b≤N) (hab:a < b) (h50:N < 50) (hr:zP S) {v cc:Nat} {aC:bJ} {Q:AV→List AB→bJ→Prop} (hQ:∀ bl:Bool,(bl=true→Sd cg S a b)→Q (BB bl) [aM S v] aC) :
  au TT TB one (.fn 155 [] []) [.aL 0 v 0 N cc,af (a:Nat),af (b:Nat),CF] [aM S v] aC Q:=by
 refine au.body (fn:=Tryz.f155) rfl rfl rfl ?_;have d5:decide ((0:Int) < 5)=true:=rfl;refine qq1 ?_;repeat' first|refine u1 ?_|refine u2 ?_|fail
 refine ay.aN (ak.to (l:=[(0,.aL 0 v 0 N cc),(1,af (a:Nat)),(2,af (b:Nat)),(3,CF),(9,af ((a+1):Nat)),(10,af 0)]) (hp:=[aM S v]) 1 rfl ⟨rfl,rfl,rfl,rfl,aH (by simp),rfl,trivial⟩ (qq6 _) rfl (ax _ _)) ?_;refine ay.loop (fun x:Unit=>True) (fun _=>⟨aT [(0,.aL 0 v 0 N cc),(1,af (a:Nat)),(2,af (b:Nat)),(3,CF),(9,af ((a+1):Nat)),(10,af 0)],[aM S v],aC,false,1⟩) (fun _=>0) ?_ () trivial;intro _ _;refine qq1 ?_;repeat' first|refine u1 ?_|refine u2 ?_|fail
 refine ay.aN (ak.to (l:=[(0,.aL 0 v 0 N cc),(1,af (a:Nat)),(2,af (b:Nat)),(3,CF),(9,af ((a+1):Nat)),(10,af 0)]) (hp:=[aM S v]) 1 rfl ⟨rfl,rfl,rfl,rfl,rfl,rfl,trivial⟩ (qq6 _) rfl (ax _ _)) ?_;refine ay.loop (fun i:Nat=>(a+1≤i∧i≤b)∧Sd cg S a i) (fun i=>⟨aT [(0,.aL 0 v 0 N cc),(1,af (a:Nat)),(2,af (b:Nat)),(3,CF),(9,af (i:Nat)),(10,af 0)],[aM S v],aC,false,1⟩) (fun i=>N - i) ?_ (a+1) ⟨⟨qq6 _,by omega⟩,fun i j h1 h2 h3=>by rw [show i=j by omega];exact Int.le_refl _⟩;rintro i ⟨⟨h1,h2⟩,hs⟩;by_cases hib:i < b
 ·have d1:decide ((i:Int) < (b:Int))=true:=decide_eq_true (by omega);have d2:decide ((i:Int)=(b:Int))=false:=decide_eq_false (by omega);have d3:decide ((b:Int) - (a:Int) < 50)=true:=decide_eq_true (by omega);have g1:(av S)[0+((i:Nat):Int).toNat * 1]?=some (af (aO S i)):=aJ (by omega) (by omega);have g2:(av S)[0+((i:Int) - 1).toNat * 1]?=some (af (aO S (i - 1))):=aJ (by omega) (by omega);by_cases hl:cg (aO S i) < cg (aO S (i - 1))
  ·obtain ⟨z,dz,o1⟩:=rG one (hr.at (i:=i) (by omega)) (hr.at (i:=i - 1) (by omega)) hl;have dn:(!decide (z < 0))=false:=by rw [dz];rfl
   have hz:=hQ false (fun h=>Bool.noConfusion h);refine qq1 ?_;repeat' first|(refine RM.c5 (c:=14) (l1:=[_,_,_,_,_,_,_,_,_,_,_,_,_,_]) (l2:=[_,_,_,_]) (by kernel_rfl) rfl rfl ?_)|((with_reducible refine qq3 ?_);refine ah.call o1 rfl rfl ?_)|((with_reducible show RM.wpOp _ _ (.load _ _) _ _ _);refine RM.cU rfl rfl rfl g1 ?_)|((with_reducible show RM.wpOp _ _ (.load _ _) _ _ _);refine RM.cU rfl rfl rfl g2 ?_)|refine u1 ?_|refine u2 ?_|fail
   exact hz
  ·obtain ⟨z,dz,o1⟩:=rH one (hr.at (i:=i) (by omega)) (hr.at (i:=i - 1) (by omega)) hl;have dn:(!decide (z < 0))=true:=by rw [dz];rfl
   refine qq1 ?_;repeat' first|(refine RM.c5 (c:=14) (l1:=[_,_,_,_,_,_,_,_,_,_,_,_,_,_]) (l2:=[_,_,_,_]) (by kernel_rfl) rfl rfl ?_)|((with_reducible refine qq3 ?_);refine ah.call o1 rfl rfl ?_)|((with_reducible show RM.wpOp _ _ (.load _ _) _ _ _);refine RM.cU rfl rfl rfl g1 ?_)|((with_reducible show RM.wpOp _ _ (.load _ _) _ _ _);refine RM.cU rfl rfl rfl g2 ?_)|refine u1 ?_|refine u2 ?_|fail
   exact ⟨i+1,⟨⟨by omega,by omega⟩,(Hr.start hs).done (.inr (by show cg (aO S (i - 1))≤cg (aO S i);omega))⟩,(by dsimp only;omega),ak.to (l:=[(0,.aL 0 v 0 N cc),(1,af (a:Nat)),(2,af (b:Nat)),(3,CF),(9,af ((i+1):Nat)),(10,af 0)]) (hp:=[aM S v]) 1 rfl ⟨rfl,rfl,rfl,rfl,aH (by simp),rfl,trivial⟩ (qq6 _) rfl (ax _ _)⟩
 ·have d1:decide ((i:Int) < (b:Int))=false:=decide_eq_false (by omega);have d2:decide ((i:Int)=(b:Int))=true:=decide_eq_true (by omega);have hz:=hQ true fun _=>by rw [show b=i by omega];exact hs
  refine qq1 ?_;repeat' first|refine u1 ?_|(refine RM.c5 (c:=14) (l1:=[_,_,_,_,_,_,_,_,_,_,_,_,_,_]) (l2:=[_,_,_,_]) (by kernel_rfl) rfl rfl ?_)|refine u2 ?_|fail
  exact hz
end Go.Proofs.YtlpmfgmldmdggaaGreat
open Go Go.RM
namespace Go.Proofs.YtlpmfgmldmdggaaGreat
set_option maxRecDepth 100000
set_option maxHeartbeats 4000000
theorem zL (one:Bool) (S:List Int) {a b N k:Nat} (hN:S.length=N) (hr:zP S) (ha:a < N) (hb:b < N) (hk:k≤100) {v cc:Nat} {aC:bJ} {Q:AV→List AB→bJ→Prop} (hQ:∀ x y k':Nat,(x=a∧y=b∨x=b∧y=a)→k'≤k+1→Q (.tp [af (x:Nat),af (y:Nat)]) [aM S v,.cells [af (k':Nat)] 0 0] aC) :
  au TT TB one (.fn 162 [] []) [.aL 0 v 0 N cc,af (a:Nat),af (b:Nat),.ptr 1 0 0,CF] [aM S v,.cells [af (k:Nat)] 0 0] aC Q:=by
 refine au.body (fn:=Tryz.f162) rfl rfl rfl ?_;have g1:(av S)[0+((b:Nat):Int).toNat * 1]?=some (af (aO S b)):=aJ (by omega) (by omega);have g2:(av S)[0+((a:Nat):Int).toNat * 1]?=some (af (aO S a)):=aJ (by omega) (by omega)
 cases hl:decide (cg (aO S b) < cg (aO S a)) with
 | true =>
  obtain ⟨z,dz,o1⟩:=rG one (hr.at (i:=b) (by omega)) (hr.at (i:=a) (by omega)) (of_decide_eq_true hl);have hz:=hQ b a (k+1) (.inr ⟨rfl,rfl⟩) (qq6 _);refine qq1 ?_;repeat' first|(refine RM.c5 (c:=9) (l1:=[_,_,_,_,_,_,_,_,_]) (l2:=[_,_]) (by kernel_rfl) rfl rfl ?_)|((with_reducible refine qq3 ?_);refine ah.call o1 rfl rfl ?_)|((with_reducible show RM.wpOp _ _ (.load _ _) _ _ _);refine RM.cU rfl rfl rfl g1 ?_)|((with_reducible show RM.wpOp _ _ (.load _ _) _ _ _);refine RM.cU rfl rfl rfl g2 ?_)|refine u1 ?_|refine u2 ?_|fail
  exact hz
 | false =>
  obtain ⟨z,dz,o1⟩:=rH one (hr.at (i:=b) (by omega)) (hr.at (i:=a) (by omega)) (of_decide_eq_false hl);have hz:=hQ a b k (.inl ⟨rfl,rfl⟩) (Nat.le_succ _);refine qq1 ?_;repeat' first|(refine RM.c5 (c:=9) (l1:=[_,_,_,_,_,_,_,_,_]) (l2:=[_,_]) (by kernel_rfl) rfl rfl ?_)|((with_reducible refine qq3 ?_);refine ah.call o1 rfl rfl ?_)|((with_reducible show RM.wpOp _ _ (.load _ _) _ _ _);refine RM.cU rfl rfl rfl g1 ?_)|((with_reducible show RM.wpOp _ _ (.load _ _) _ _ _);refine RM.cU rfl rfl rfl g2 ?_)|refine u1 ?_|refine u2 ?_|fail
  exact hz
theorem Kn (one:Bool) (S:List Int) {a b d N k:Nat} (hN:S.length=N) (hr:zP S) (ha:a < N) (hb:b < N) (hd:d < N) (hk:k≤90) {v cc:Nat} {aC:bJ} {Q:AV→List AB→bJ→Prop} (hQ:∀ m k':Nat,(m=a∨m=b∨m=d)→Q (af (m:Nat)) [aM S v,.cells [af (k':Nat)] 0 0] aC) :
  au TT TB one (.fn 161 [] []) [.aL 0 v 0 N cc,af (a:Nat),af (b:Nat),af (d:Nat),.ptr 1 0 0,CF] [aM S v,.cells [af (k:Nat)] 0 0] aC Q:=by
 refine au.body (fn:=Tryz.f161) rfl rfl rfl ?_;refine qq1 ?_;repeat' first|refine u1 ?_|refine u2 ?_|fail
 refine zL one S hN hr ha hb (by omega) (fun x y k1 h1 h2=>?_);repeat' first|refine u1 ?_|refine u2 ?_|fail
 refine zL one S hN hr (a:=y) (b:=d) (by omega) hd (by omega) (fun x2 y2 k2 h3 h4=>?_);repeat' first|refine u1 ?_|refine u2 ?_|fail
 refine zL one S hN hr (a:=x) (b:=x2) (by omega) (by omega) (by omega) (fun x3 y3 k3 h5 h6=>?_);repeat' first|refine u1 ?_|refine u2 ?_|fail
 have hz:=hQ y3 k3 (by omega);exact hz
theorem IJ (one:Bool) (S:List Int) {a b N:Nat} (hN:S.length=N) (hr:zP S) (hb:b≤N) (hab:a+8≤b) (h50:N < 50) {v cc:Nat} {aC:bJ} {Q:AV→List AB→bJ→Prop} (hQ:∀ (p h k':Nat),(a≤p∧p < b)→h≤2→Q (.tp [af (p:Nat),af (h:Nat)]) [aM S v,.cells [af (k':Nat)] 0 0] aC) :
  au TT TB one (.fn 153 [] []) [.aL 0 v 0 N cc,af (a:Nat),af (b:Nat),CF] [aM S v] aC Q:=by
 refine au.body (fn:=Tryz.f153) rfl rfl rfl ?_;have d1:decide ((8:Int)≤(b:Int) - (a:Int))=true:=decide_eq_true (by omega);have d2:decide ((50:Int)≤(b:Int) - (a:Int))=false:=decide_eq_false (by omega);obtain ⟨q,hq⟩:∃ q:Nat,(q:Int)=((b:Int) - (a:Int)) / 4:=⟨(((b:Int) - (a:Int)) / 4).toNat,Int.toNat_of_nonneg (by omega)⟩;have h4:4 * q≤b - a∧b - a < 4 * q+4:=by omega
 refine aa (mu:=fun t=>Nat.beq t 11) ?_;repeat' first|refine u1 ?_|refine u2 ?_|fail
 have e1:(((a+q:Nat)):Int)=(a:Int)+((b:Int) - (a:Int)) / 4 * 1:=by omega
 have e2:(((a+2 * q:Nat)):Int)=(a:Int)+((b:Int) - (a:Int)) / 4 * 2:=by omega
 have e3:(((a+3 * q:Nat)):Int)=(a:Int)+((b:Int) - (a:Int)) / 4 * 3:=by omega
 rw [←e1,←e2,←e3];refine Kn one S hN hr (k:=0) (a:=a+q) (b:=a+2 * q) (d:=a+3 * q) (by omega) (by omega) (by omega) (by omega) (fun m k' hm=>?_);have hm2:a≤m∧m < b:=by omega
 have z0:=hQ m 0 k' hm2 (by omega);have z1:=hQ m 1 k' hm2 (by omega);have z2:=hQ m 2 k' hm2 (by omega)
 cases c1:decide ((k':Int)=0) with
 | true =>
  repeat' first|refine u1 ?_|refine u2 ?_|fail
  exact z1
 | false =>
  cases c2:decide ((k':Int)=12) with
  | true =>
   repeat' first|refine u1 ?_|refine u2 ?_|fail
   exact z2
  | false =>
   repeat' first|refine u1 ?_|refine u2 ?_|fail
   exact z0
theorem Ko (one:Bool) (S:List Int) {a b N:Nat} (hN:S.length=N) (hr:zP S) (hb:b≤N) (hab:a+8≤b) (h50:N < 50) {v cc:Nat} {aC:bJ} {Q:AV→List AB→bJ→Prop} (hQ:∀ (p h:Nat),(a≤p∧p < b)→h≤2→Q (.tp [af (p:Nat),af (h:Nat)]) [aM S v] aC) :
  au TT TB one (.fn 153 [] []) [.aL 0 v 0 N cc,af (a:Nat),af (b:Nat),CF] [aM S v] aC Q:=by
 refine (au.cut (Q:=fun w hp' amb'=>∃ p h k':Nat,(a≤p∧p < b)∧h≤2∧w=.tp [af (p:Nat),af (h:Nat)]∧hp'=[aM S v,.cells [af (k':Nat)] 0 0]∧amb'=aC) (IJ one S hN hr hb hab h50 fun p h k' h1 h2=>⟨p,h,k',h1,h2,rfl,rfl,rfl⟩) ?_).mono ?_
 ·rintro w hp' amb' ⟨p,h,k',_,_,rfl,rfl,rfl⟩;exact ⟨rfl,ax _ _⟩
 ·rintro w hp2 amb' ⟨hp',rfl,p,h,k',h1,h2,rfl,rfl,rfl⟩;exact hQ p h h1 h2
