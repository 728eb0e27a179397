/-
  Contracts of the program's functions and of the document's. Lemmas alone; their conditions stand in them.
-/
import Derived.Test.YtlpmfgmldmdggaaGreatK14
open Go Go.RM
namespace Go.Proofs.YtlpmfgmldmdggaaGreat
set_option maxRecDepth 100000
set_option maxHeartbeats 4000000
theorem Lw (one:Bool) (S0:List Int) {a b p N:Nat} (hN:S0.length=N) (hb:b≤N) (hp:a≤p∧p < b) (h9:N≤1000) (hr:Ah S0) {v cc:Nat} {aF:bq} {Q:AV→List AB→bq→Prop} (hQ:∀ (S:List Int) (m:Nat),Ee bZ S0 S a b m (aH S0 p)→Q (af (m:Nat)) [aA S v] aF) :
  au TT TB one (.fn 156 [] []) [.aJ 0 v 0 N cc,af (a:Nat),af (b:Nat),af (p:Nat),CF] [aA S0 v] aF Q:=by
 refine au.body (fn:=Tryz.f156) rfl rfl rfl ?_;show aB TT TB one (.seq (.region _ _ _) (.seq (.region _ _ _) (.seq (.region _ _ _) (.seq (.block _ _) (.seq (.region _ _ _) _))))) _ _;have hst:=tc.start (rk:=bZ) (S0:=S0) (a:=a) (b:=b) (p:=p) (by omega) hp
 generalize hpv:aH S0 p=pv at *
 have b1:Nat.ble (0+((a:Nat):Int).toNat * 1+1) (ay S0).length=true:=bS (k:=a) (by omega) (by omega);have b2:Nat.ble (0+((p:Nat):Int).toNat * 1+1) (aQ (ay S0) [af (aH S0 p)] (0+((a:Nat):Int).toNat * 1)).length=true:=cH (i:=a) (j:=p) (by omega) (by omega) (by omega) (by omega) _;have e1:=bp (R:=S0) (i:=a) (j:=p) (p:=0+((a:Nat):Int).toNat * 1) (q:=0+((p:Nat):Int).toNat * 1) (by omega) (by omega) (by omega) (by omega);have y1:(ay S0)[0+((p:Nat):Int).toNat * 1]?=some (af (aH S0 p)):=ax (by omega) (by omega);have y2:(ay S0)[0+((a:Nat):Int).toNat * 1]?=some (af (aH S0 a)):=ax (by omega) (by omega);rw [hpv] at b2 e1 y1;refine qq2 ?_;repeat' first|refine u1 ?_|refine u2 ?_|fail
 refine qq2 ?_;repeat' first|((with_reducible show RM.wpOp _ _ (.load _ _) _ _ _);refine RM.bC rfl rfl rfl y1 ?_)|((with_reducible show RM.wpOp _ _ (.load _ _) _ _ _);refine RM.bC rfl rfl rfl y2 ?_)|((with_reducible show aG _ _ _ _ _ _);refine RM.e9 rfl rfl rfl rfl rfl rfl b1 ?_)|((with_reducible show aG _ _ _ _ _ _);refine RM.e9 rfl rfl rfl rfl rfl rfl b2 ?_)|refine u1 ?_|refine u2 ?_|fail
 refine qq2 ?_;repeat' first|refine u1 ?_|refine u2 ?_|fail
 refine aB.aO (ah.to (l:=[(0,.aJ 0 v 0 N cc),(1,af (a:Nat)),(4,CF),(11,af ((a+1):Nat)),(12,af ((b - 1):Nat))]) (hp:=[aA (sw S0 a p) v]) 1 (by show _=[AB.cells (ay (sw S0 a p)) 1 v];rw [←e1];rfl) ⟨rfl,rfl,rfl,aE (by simp),aE (by omega),trivial⟩ (qq6 _) rfl (av _ _)) ?_;clear b1 b2 e1 y1 y2;refine iy (fun x:l9=>(⟨aM [(0,.aJ 0 v 0 N cc),(1,af (a:Nat)),(4,CF),(11,af (x.1:Nat)),(12,af (x.2.1:Nat))],[aA x.2.2 v],aF,false,1⟩:bP)) (fun x:l9=>tc bZ S0 x.2.2 a b pv x.1 x.2.1∧x.2.1 < x.1) ?_ ?_
 ·refine aB.block ?_;refine aB.loop (fun x:l9=>tc bZ S0 x.2.2 a b pv x.1 x.2.1) (fun x:l9=>(⟨aM [(0,.aJ 0 v 0 N cc),(1,af (a:Nat)),(4,CF),(11,af (x.1:Nat)),(12,af (x.2.1:Nat))],[aA x.2.2 v],aF,false,1⟩:bP)) (fun x=>x.2.1) ?_ (a+1,b - 1,sw S0 a p) hst;clear hst;rintro ⟨i,j,R⟩ hpt;dsimp only at hpt ⊢;obtain ⟨j0,hj0,hjj⟩:∃ j0,j≤j0∧j0≤j:=⟨j,qq6 _,qq6 _⟩;refine aB.block ?_;refine iy (fun x:l9=>(⟨aM [(0,.aJ 0 v 0 N cc),(1,af (a:Nat)),(4,CF),(11,af (x.1:Nat)),(12,af (x.2.1:Nat))],[aA x.2.2 v],aF,false,1⟩:bP)) (fun x:l9=>tc bZ S0 x.2.2 a b pv x.1 x.2.1∧(x.2.1 < x.1∨bZ pv < bZ (aH x.2.2 x.1))∧x.2.1≤j0) ?_ ?_
  ·refine aB.block ?_;refine aB.loop (fun x:Nat=>tc bZ S0 R a b pv x j) (fun x=>⟨aM [(0,.aJ 0 v 0 N cc),(1,af (a:Nat)),(4,CF),(11,af (x:Nat)),(12,af (j:Nat))],[aA R v],aF,false,1⟩) (fun x=>N+1 - x) ?_ i hpt;clear hpt;intro i hpt;have hSl:(R).length=N:=by rw [hpt.pr.len,hN]
   have q1:=hpt.ai;have q2:=hpt.ij;have q3:=hpt.jb;have q4:=hpt.aj;have hpe:=hpt.pe;by_cases hij:i≤j
   ·have d1:decide ((i:Int)≤(j:Int))=true:=decide_eq_true (by omega);have g1:(ay R)[0+((i:Nat):Int).toNat * 1]?=some (af (aH R i)):=ax (by omega) (by omega);have g2:(ay R)[0+((a:Nat):Int).toNat * 1]?=some (af (aH R a)):=ax (by omega) (by omega);rw [hpe] at g2;have hin:=hr.pr hpt.pr;have hpa:=hin.at (i:=a) (by omega);rw [hpe] at hpa;by_cases hl:bZ pv < bZ (aH R i)
    ·obtain ⟨z,dz,o1⟩:=rS one hpa (hin.at (i:=i) (by omega)) hl;have dn:(!decide (z < 0))=false:=by rw [dz];rfl
     refine qq1 ?_;repeat' first|(refine RM.c5 (c:=13) (l1:=[_,_,_,_,_,_,_,_,_,_,_,_,_]) (l2:=[_,_,_,_]) (by kernel_rfl) rfl rfl ?_)|((with_reducible refine qq3 ?_);refine ak.call o1 rfl rfl ?_)|((with_reducible show RM.wpOp _ _ (.load _ _) _ _ _);refine RM.bC rfl rfl rfl g1 ?_)|((with_reducible show RM.wpOp _ _ (.load _ _) _ _ _);refine RM.bC rfl rfl rfl g2 ?_)|refine u1 ?_|refine u2 ?_|fail
     exact .is (i,j,R) (ah.to (l:=[(0,.aJ 0 v 0 N cc),(1,af (a:Nat)),(4,CF),(11,af (i:Nat)),(12,af (j:Nat))]) (hp:=[aA R v]) 1 rfl ⟨rfl,rfl,rfl,aE (by omega),aE (by omega),trivial⟩ (qq6 _) rfl (av _ _)) ⟨hpt,.inr (by dsimp only;omega),hj0⟩
    ·obtain ⟨z,dz,o1⟩:=rT one hpa (hin.at (i:=i) (by omega)) hl;have dn:(!decide (z < 0))=true:=by rw [dz];rfl
     refine qq1 ?_;repeat' first|(refine RM.c5 (c:=13) (l1:=[_,_,_,_,_,_,_,_,_,_,_,_,_]) (l2:=[_,_,_,_]) (by kernel_rfl) rfl rfl ?_)|((with_reducible refine qq3 ?_);refine ak.call o1 rfl rfl ?_)|((with_reducible show RM.wpOp _ _ (.load _ _) _ _ _);refine RM.bC rfl rfl rfl g1 ?_)|((with_reducible show RM.wpOp _ _ (.load _ _) _ _ _);refine RM.bC rfl rfl rfl g2 ?_)|refine u1 ?_|refine u2 ?_|fail
     exact ⟨i+1,hpt.up hij (by show bZ (aH R i)≤bZ pv;omega),(by dsimp only;omega),(ah.to (l:=[(0,.aJ 0 v 0 N cc),(1,af (a:Nat)),(4,CF),(11,af ((i+1):Nat)),(12,af (j:Nat))]) (hp:=[aA R v]) 1 rfl ⟨rfl,rfl,rfl,aE (by omega),aE (by omega),trivial⟩ (qq6 _) rfl (av _ _))⟩
   ·have d1:decide ((i:Int)≤(j:Int))=false:=decide_eq_false (by omega);refine qq1 ?_;repeat' first|refine u1 ?_|(refine RM.c5 (c:=13) (l1:=[_,_,_,_,_,_,_,_,_,_,_,_,_]) (l2:=[_,_,_,_]) (by kernel_rfl) rfl rfl ?_)|refine u2 ?_|fail
    exact .is (i,j,R) (ah.to (l:=[(0,.aJ 0 v 0 N cc),(1,af (a:Nat)),(4,CF),(11,af (i:Nat)),(12,af (j:Nat))]) (hp:=[aA R v]) 1 rfl ⟨rfl,rfl,rfl,aE (by omega),aE (by omega),trivial⟩ (qq6 _) rfl (av _ _)) ⟨hpt,.inl (by dsimp only;omega),hj0⟩
  rintro ⟨i,j,R⟩ ⟨hpt,hup,hj0⟩;dsimp only at hpt hup hj0 ⊢;refine iy (fun x:l9=>(⟨aM [(0,.aJ 0 v 0 N cc),(1,af (a:Nat)),(4,CF),(11,af (x.1:Nat)),(12,af (x.2.1:Nat))],[aA x.2.2 v],aF,false,1⟩:bP)) (fun x:l9=>tc bZ S0 x.2.2 a b pv x.1 x.2.1∧(x.2.1 < x.1∨(bZ pv < bZ (aH x.2.2 x.1)∧bZ (aH x.2.2 x.2.1)≤bZ pv))∧x.2.1≤j0) ?_ ?_
  ·refine aB.block ?_;refine aB.loop (fun x:Nat=>tc bZ S0 R a b pv i x∧(x < i∨bZ pv < bZ (aH R i))∧x≤j0) (fun x=>⟨aM [(0,.aJ 0 v 0 N cc),(1,af (a:Nat)),(4,CF),(11,af (i:Nat)),(12,af (x:Nat))],[aA R v],aF,false,1⟩) (fun x=>x) ?_ j ⟨hpt,hup,hj0⟩;clear hpt hup hj0;rintro j ⟨hpt,hup,hj0⟩;have hSl:(R).length=N:=by rw [hpt.pr.len,hN]
   have q1:=hpt.ai;have q2:=hpt.ij;have q3:=hpt.jb;have q4:=hpt.aj;have hpe:=hpt.pe;by_cases hij:i≤j
   ·have d1:decide ((i:Int)≤(j:Int))=true:=decide_eq_true (by omega);have g1:(ay R)[0+((j:Nat):Int).toNat * 1]?=some (af (aH R j)):=ax (by omega) (by omega);have g2:(ay R)[0+((a:Nat):Int).toNat * 1]?=some (af (aH R a)):=ax (by omega) (by omega);rw [hpe] at g2;have hin:=hr.pr hpt.pr;have hpa:=hin.at (i:=a) (by omega);rw [hpe] at hpa;by_cases hl:bZ pv < bZ (aH R j)
    ·obtain ⟨z,dz,o1⟩:=rS one hpa (hin.at (i:=j) (by omega)) hl;refine qq1 ?_;repeat' first|(refine RM.c5 (c:=13) (l1:=[_,_,_,_,_,_,_,_,_,_,_,_,_]) (l2:=[_,_,_]) (by kernel_rfl) rfl rfl ?_)|((with_reducible refine qq3 ?_);refine ak.call o1 rfl rfl ?_)|((with_reducible show RM.wpOp _ _ (.load _ _) _ _ _);refine RM.bC rfl rfl rfl g1 ?_)|((with_reducible show RM.wpOp _ _ (.load _ _) _ _ _);refine RM.bC rfl rfl rfl g2 ?_)|refine u1 ?_|refine u2 ?_|fail
     exact ⟨j - 1,⟨hpt.down hij hl,by omega,by omega⟩,(by dsimp only;omega),(ah.to (l:=[(0,.aJ 0 v 0 N cc),(1,af (a:Nat)),(4,CF),(11,af (i:Nat)),(12,af ((j - 1):Nat))]) (hp:=[aA R v]) 1 rfl ⟨rfl,rfl,rfl,aE (by omega),aE (by omega),trivial⟩ (qq6 _) rfl (av _ _))⟩
    ·obtain ⟨z,dz,o1⟩:=rT one hpa (hin.at (i:=j) (by omega)) hl;refine qq1 ?_;repeat' first|(refine RM.c5 (c:=13) (l1:=[_,_,_,_,_,_,_,_,_,_,_,_,_]) (l2:=[_,_,_]) (by kernel_rfl) rfl rfl ?_)|((with_reducible refine qq3 ?_);refine ak.call o1 rfl rfl ?_)|((with_reducible show RM.wpOp _ _ (.load _ _) _ _ _);refine RM.bC rfl rfl rfl g1 ?_)|((with_reducible show RM.wpOp _ _ (.load _ _) _ _ _);refine RM.bC rfl rfl rfl g2 ?_)|refine u1 ?_|refine u2 ?_|fail
     exact .is (i,j,R) (ah.to (l:=[(0,.aJ 0 v 0 N cc),(1,af (a:Nat)),(4,CF),(11,af (i:Nat)),(12,af (j:Nat))]) (hp:=[aA R v]) 1 rfl ⟨rfl,rfl,rfl,aE (by omega),aE (by omega),trivial⟩ (qq6 _) rfl (av _ _)) ⟨hpt,.inr ⟨by dsimp only;omega,by dsimp only;omega⟩,hj0⟩
   ·have d1:decide ((i:Int)≤(j:Int))=false:=decide_eq_false (by omega);refine qq1 ?_;repeat' first|refine u1 ?_|(refine RM.c5 (c:=13) (l1:=[_,_,_,_,_,_,_,_,_,_,_,_,_]) (l2:=[_,_,_]) (by kernel_rfl) rfl rfl ?_)|refine u2 ?_|fail
    exact .is (i,j,R) (ah.to (l:=[(0,.aJ 0 v 0 N cc),(1,af (a:Nat)),(4,CF),(11,af (i:Nat)),(12,af (j:Nat))]) (hp:=[aA R v]) 1 rfl ⟨rfl,rfl,rfl,aE (by omega),aE (by omega),trivial⟩ (qq6 _) rfl (av _ _)) ⟨hpt,.inl (by dsimp only;omega),hj0⟩
  rintro ⟨i,j,R⟩ ⟨hpt,hdn,hj0⟩;dsimp only at hpt hdn hj0 ⊢;have hSl:(R).length=N:=by rw [hpt.pr.len,hN]
  have q1:=hpt.ai;have q2:=hpt.ij;have q3:=hpt.jb;have q4:=hpt.aj;have hpe:=hpt.pe;by_cases hij:j < i
  ·have d1:decide ((j:Int) < (i:Int))=true:=decide_eq_true (by omega);refine qq1 ?_;show kC _ _ _ _ (.seq (.seq (.region _ _ _) _) _) _ _;repeat' first|refine u1 ?_|refine u2 ?_|fail
   exact .is (i,j,R) (ah.to (l:=[(0,.aJ 0 v 0 N cc),(1,af (a:Nat)),(4,CF),(11,af (i:Nat)),(12,af (j:Nat))]) (hp:=[aA R v]) 1 rfl ⟨rfl,rfl,rfl,aE (by omega),aE (by omega),trivial⟩ (qq6 _) rfl (av _ _)) ⟨hpt,hij⟩
  ·have d1:decide ((j:Int) < (i:Int))=false:=decide_eq_false (by omega);obtain ⟨hij2,hps⟩:=hpt.swap (by omega) (by omega) (hdn.resolve_left hij).1 (hdn.resolve_left hij).2;have b1:Nat.ble (0+((i:Nat):Int).toNat * 1+1) (ay R).length=true:=bS (k:=i) (by omega) (by omega);have b2:Nat.ble (0+((j:Nat):Int).toNat * 1+1) (aQ (ay R) [af (aH R j)] (0+((i:Nat):Int).toNat * 1)).length=true:=cH (i:=i) (j:=j) (by omega) (by omega) (by omega) (by omega) _;have e1:=bp (R:=R) (i:=i) (j:=j) (p:=0+((i:Nat):Int).toNat * 1) (q:=0+((j:Nat):Int).toNat * 1) (by omega) (by omega) (by omega) (by omega);have y1:(ay R)[0+((j:Nat):Int).toNat * 1]?=some (af (aH R j)):=ax (by omega) (by omega);have y2:(ay R)[0+((i:Nat):Int).toNat * 1]?=some (af (aH R i)):=ax (by omega) (by omega);refine qq1 ?_;show kC _ _ _ _ (.seq (.seq (.region _ _ _) _) _) _ _;repeat' first|((with_reducible show RM.wpOp _ _ (.load _ _) _ _ _);refine RM.bC rfl rfl rfl y1 ?_)|((with_reducible show RM.wpOp _ _ (.load _ _) _ _ _);refine RM.bC rfl rfl rfl y2 ?_)|((with_reducible show aG _ _ _ _ _ _);refine RM.e9 rfl rfl rfl rfl rfl rfl b1 ?_)|((with_reducible show aG _ _ _ _ _ _);refine RM.e9 rfl rfl rfl rfl rfl rfl b2 ?_)|refine u1 ?_|refine u2 ?_|fail
   exact ⟨(i+1,j - 1,sw R i j),hps,(by dsimp only;omega),ah.to (l:=[(0,.aJ 0 v 0 N cc),(1,af (a:Nat)),(4,CF),(11,af ((i+1):Nat)),(12,af ((j - 1):Nat))]) (hp:=[aA (sw R i j) v]) 1 (by show _=[AB.cells (ay (sw R i j)) 1 v];rw [←e1];rfl) ⟨rfl,rfl,rfl,aE (by simp),aE (by omega),trivial⟩ (qq6 _) rfl (av _ _)⟩
 rintro ⟨i,j,R⟩ ⟨hpt,hij⟩;dsimp only at hpt hij ⊢;have hz:=hQ _ _ (hpt.done hij);refine qq1 ?_;repeat' first|refine u1 ?_|refine u2 ?_|fail
 exact hz
end Go.Proofs.YtlpmfgmldmdggaaGreat
open Go Go.RM
namespace Go.Proofs.YtlpmfgmldmdggaaGreat
set_option maxRecDepth 100000
set_option maxHeartbeats 4000000
theorem Lx (one:Bool) (S0:List Int) {a b N:Nat} (hN:S0.length=N) (hb:b≤N) (hab:a < b) (h9:N≤1000) {v cc:Nat} {aF:bq} {Q:AV→List AB→bq→Prop} (hQ:∀ S:List Int,PR S0 S a b→Q (.tp []) [aA S v] aF) :
  au TT TB one (.fn 154 [] []) [.aJ 0 v 0 N cc,af (a:Nat),af (b:Nat),CF] [aA S0 v] aF Q:=by
 refine au.body (fn:=Tryz.f154) rfl rfl rfl ?_;refine qq1 ?_;repeat' first|refine u1 ?_|refine u2 ?_|fail
 refine aB.aO (ah.to (l:=[(0,.aJ 0 v 0 N cc),(8,af (a:Nat)),(9,af ((b - 1):Nat))]) (hp:=[aA S0 v]) 1 rfl ⟨rfl,rfl,aE (by omega),trivial⟩ (qq6 _) rfl (av _ _)) ?_;refine aB.loop (fun x:Nat × Nat × List Int=>(a≤x.1∧x.2.1 < b∧x.1≤x.2.1+1)∧PR S0 x.2.2 a b) (fun x=>⟨aM [(0,.aJ 0 v 0 N cc),(8,af (x.1:Nat)),(9,af (x.2.1:Nat))],[aA x.2.2 v],aF,false,1⟩) (fun x=>x.2.1) ?_ (a,b - 1,S0) ⟨⟨qq6 _,by dsimp only;omega,by dsimp only;omega⟩,PR.refl _ _ _⟩;rintro ⟨i,j,R⟩ ⟨⟨h1,h2,h3⟩,hpr⟩;dsimp only at h1 h2 h3 hpr;have hRl:R.length=N:=by rw [hpr.len,hN]
 show aB _ _ _ _ ⟨aM [(0,.aJ 0 v 0 N cc),(8,af (i:Nat)),(9,af (j:Nat))],[aA R v],aF,false,1⟩ _;by_cases hij:i < j
 ·have d1:decide ((i:Int) < (j:Int))=true:=decide_eq_true (by omega);have b1:Nat.ble (0+((i:Nat):Int).toNat * 1+1) (ay R).length=true:=bS (k:=i) (by omega) (by omega);have b2:Nat.ble (0+((j:Nat):Int).toNat * 1+1) (aQ (ay R) [af (aH R j)] (0+((i:Nat):Int).toNat * 1)).length=true:=cH (i:=i) (j:=j) (by omega) (by omega) (by omega) (by omega) _;have e1:=bp (R:=R) (i:=i) (j:=j) (p:=0+((i:Nat):Int).toNat * 1) (q:=0+((j:Nat):Int).toNat * 1) (by omega) (by omega) (by omega) (by omega);have y1:(ay R)[0+((j:Nat):Int).toNat * 1]?=some (af (aH R j)):=ax (by omega) (by omega);have y2:(ay R)[0+((i:Nat):Int).toNat * 1]?=some (af (aH R i)):=ax (by omega) (by omega);refine qq1 ?_;repeat' first|((with_reducible show RM.wpOp _ _ (.load _ _) _ _ _);refine RM.bC rfl rfl rfl y1 ?_)|((with_reducible show RM.wpOp _ _ (.load _ _) _ _ _);refine RM.bC rfl rfl rfl y2 ?_)|((with_reducible show aG _ _ _ _ _ _);refine RM.e9 rfl rfl rfl rfl rfl rfl b1 ?_)|((with_reducible show aG _ _ _ _ _ _);refine RM.e9 rfl rfl rfl rfl rfl rfl b2 ?_)|refine u1 ?_|refine u2 ?_|fail
  exact ⟨(i+1,j - 1,sw R i j),⟨⟨by dsimp only;omega,by dsimp only;omega,by dsimp only;omega⟩,hpr.trans (PR.sw (by omega) ⟨by omega,by omega⟩ ⟨by omega,by omega⟩)⟩,(by dsimp only;omega),ah.to (l:=[(0,.aJ 0 v 0 N cc),(8,af ((i+1):Nat)),(9,af ((j - 1):Nat))]) (hp:=[aA (sw R i j) v]) 1 (by show _=[AB.cells (ay (sw R i j)) 1 v];rw [←e1];rfl) ⟨rfl,aE (by simp),aE (by omega),trivial⟩ (qq6 _) rfl (av _ _)⟩
 ·have d1:decide ((i:Int) < (j:Int))=false:=decide_eq_false (by omega);have hz:=hQ R hpr;refine qq1 ?_;repeat' first|refine u1 ?_|refine u2 ?_|fail
  exact hz
theorem Ly (one:Bool) (S:List Int) {a b N:Nat} (hN:S.length=N) (hb:b≤N) (hab:a < b) (h50:N < 50) (hr:Ah S) {v cc:Nat} {aF:bq} {Q:AV→List AB→bq→Prop} (hQ:∀ bl:Bool,(bl=true→Sd bZ S a b)→Q (BB bl) [aA S v] aF) :
  au TT TB one (.fn 155 [] []) [.aJ 0 v 0 N cc,af (a:Nat),af (b:Nat),CF] [aA S v] aF Q:=by
 refine au.body (fn:=Tryz.f155) rfl rfl rfl ?_;have d5:decide ((0:Int) < 5)=true:=rfl;refine qq1 ?_;repeat' first|refine u1 ?_|refine u2 ?_|fail
 refine aB.aO (ah.to (l:=[(0,.aJ 0 v 0 N cc),(1,af (a:Nat)),(2,af (b:Nat)),(3,CF),(9,af ((a+1):Nat)),(10,af 0)]) (hp:=[aA S v]) 1 rfl ⟨rfl,rfl,rfl,rfl,aE (by simp),rfl,trivial⟩ (qq6 _) rfl (av _ _)) ?_;refine aB.loop (fun x:Unit=>True) (fun _=>⟨aM [(0,.aJ 0 v 0 N cc),(1,af (a:Nat)),(2,af (b:Nat)),(3,CF),(9,af ((a+1):Nat)),(10,af 0)],[aA S v],aF,false,1⟩) (fun _=>0) ?_ () trivial;intro _ _;refine qq1 ?_;repeat' first|refine u1 ?_|refine u2 ?_|fail
 refine aB.aO (ah.to (l:=[(0,.aJ 0 v 0 N cc),(1,af (a:Nat)),(2,af (b:Nat)),(3,CF),(9,af ((a+1):Nat)),(10,af 0)]) (hp:=[aA S v]) 1 rfl ⟨rfl,rfl,rfl,rfl,rfl,rfl,trivial⟩ (qq6 _) rfl (av _ _)) ?_;refine aB.loop (fun i:Nat=>(a+1≤i∧i≤b)∧Sd bZ S a i) (fun i=>⟨aM [(0,.aJ 0 v 0 N cc),(1,af (a:Nat)),(2,af (b:Nat)),(3,CF),(9,af (i:Nat)),(10,af 0)],[aA S v],aF,false,1⟩) (fun i=>N - i) ?_ (a+1) ⟨⟨qq6 _,by omega⟩,fun i j h1 h2 h3=>by rw [show i=j by omega];exact Int.le_refl _⟩;rintro i ⟨⟨h1,h2⟩,hs⟩;by_cases hib:i < b
 ·have d1:decide ((i:Int) < (b:Int))=true:=decide_eq_true (by omega);have d2:decide ((i:Int)=(b:Int))=false:=decide_eq_false (by omega);have d3:decide ((b:Int) - (a:Int) < 50)=true:=decide_eq_true (by omega);have g1:(ay S)[0+((i:Nat):Int).toNat * 1]?=some (af (aH S i)):=ax (by omega) (by omega);have g2:(ay S)[0+((i:Int) - 1).toNat * 1]?=some (af (aH S (i - 1))):=ax (by omega) (by omega);by_cases hl:bZ (aH S i) < bZ (aH S (i - 1))
  ·obtain ⟨z,dz,o1⟩:=rS one (hr.at (i:=i) (by omega)) (hr.at (i:=i - 1) (by omega)) hl;have dn:(!decide (z < 0))=false:=by rw [dz];rfl
   have hz:=hQ false (fun h=>Bool.noConfusion h);refine qq1 ?_;repeat' first|(refine RM.c5 (c:=14) (l1:=[_,_,_,_,_,_,_,_,_,_,_,_,_,_]) (l2:=[_,_,_,_]) (by kernel_rfl) rfl rfl ?_)|((with_reducible refine qq3 ?_);refine ak.call o1 rfl rfl ?_)|((with_reducible show RM.wpOp _ _ (.load _ _) _ _ _);refine RM.bC rfl rfl rfl g1 ?_)|((with_reducible show RM.wpOp _ _ (.load _ _) _ _ _);refine RM.bC rfl rfl rfl g2 ?_)|refine u1 ?_|refine u2 ?_|fail
   exact hz
  ·obtain ⟨z,dz,o1⟩:=rT one (hr.at (i:=i) (by omega)) (hr.at (i:=i - 1) (by omega)) hl;have dn:(!decide (z < 0))=true:=by rw [dz];rfl
   refine qq1 ?_;repeat' first|(refine RM.c5 (c:=14) (l1:=[_,_,_,_,_,_,_,_,_,_,_,_,_,_]) (l2:=[_,_,_,_]) (by kernel_rfl) rfl rfl ?_)|((with_reducible refine qq3 ?_);refine ak.call o1 rfl rfl ?_)|((with_reducible show RM.wpOp _ _ (.load _ _) _ _ _);refine RM.bC rfl rfl rfl g1 ?_)|((with_reducible show RM.wpOp _ _ (.load _ _) _ _ _);refine RM.bC rfl rfl rfl g2 ?_)|refine u1 ?_|refine u2 ?_|fail
   exact ⟨i+1,⟨⟨by omega,by omega⟩,(Ff.start hs).done (.inr (by show bZ (aH S (i - 1))≤bZ (aH S i);omega))⟩,(by dsimp only;omega),ah.to (l:=[(0,.aJ 0 v 0 N cc),(1,af (a:Nat)),(2,af (b:Nat)),(3,CF),(9,af ((i+1):Nat)),(10,af 0)]) (hp:=[aA S v]) 1 rfl ⟨rfl,rfl,rfl,rfl,aE (by simp),rfl,trivial⟩ (qq6 _) rfl (av _ _)⟩
 ·have d1:decide ((i:Int) < (b:Int))=false:=decide_eq_false (by omega);have d2:decide ((i:Int)=(b:Int))=true:=decide_eq_true (by omega);have hz:=hQ true fun _=>by rw [show b=i by omega];exact hs
  refine qq1 ?_;repeat' first|refine u1 ?_|(refine RM.c5 (c:=14) (l1:=[_,_,_,_,_,_,_,_,_,_,_,_,_,_]) (l2:=[_,_,_,_]) (by kernel_rfl) rfl rfl ?_)|refine u2 ?_|fail
  exact hz
end Go.Proofs.YtlpmfgmldmdggaaGreat
open Go Go.RM
namespace Go.Proofs.YtlpmfgmldmdggaaGreat
set_option maxRecDepth 100000
set_option maxHeartbeats 4000000
theorem z9 (one:Bool) (S:List Int) {a b N k:Nat} (hN:S.length=N) (hr:Ah S) (ha:a < N) (hb:b < N) (hk:k≤100) {v cc:Nat} {aF:bq} {Q:AV→List AB→bq→Prop} (hQ:∀ x y k':Nat,(x=a∧y=b∨x=b∧y=a)→k'≤k+1→Q (.tp [af (x:Nat),af (y:Nat)]) [aA S v,.cells [af (k':Nat)] 0 0] aF) :
  au TT TB one (.fn 162 [] []) [.aJ 0 v 0 N cc,af (a:Nat),af (b:Nat),.ptr 1 0 0,CF] [aA S v,.cells [af (k:Nat)] 0 0] aF Q:=by
 refine au.body (fn:=Tryz.f162) rfl rfl rfl ?_;have g1:(ay S)[0+((b:Nat):Int).toNat * 1]?=some (af (aH S b)):=ax (by omega) (by omega);have g2:(ay S)[0+((a:Nat):Int).toNat * 1]?=some (af (aH S a)):=ax (by omega) (by omega)
 cases hl:decide (bZ (aH S b) < bZ (aH S a)) with
 | true =>
  obtain ⟨z,dz,o1⟩:=rS one (hr.at (i:=b) (by omega)) (hr.at (i:=a) (by omega)) (of_decide_eq_true hl);have hz:=hQ b a (k+1) (.inr ⟨rfl,rfl⟩) (qq6 _);refine qq1 ?_;repeat' first|(refine RM.c5 (c:=9) (l1:=[_,_,_,_,_,_,_,_,_]) (l2:=[_,_]) (by kernel_rfl) rfl rfl ?_)|((with_reducible refine qq3 ?_);refine ak.call o1 rfl rfl ?_)|((with_reducible show RM.wpOp _ _ (.load _ _) _ _ _);refine RM.bC rfl rfl rfl g1 ?_)|((with_reducible show RM.wpOp _ _ (.load _ _) _ _ _);refine RM.bC rfl rfl rfl g2 ?_)|refine u1 ?_|refine u2 ?_|fail
  exact hz
 | false =>
  obtain ⟨z,dz,o1⟩:=rT one (hr.at (i:=b) (by omega)) (hr.at (i:=a) (by omega)) (of_decide_eq_false hl);have hz:=hQ a b k (.inl ⟨rfl,rfl⟩) (Nat.le_succ _);refine qq1 ?_;repeat' first|(refine RM.c5 (c:=9) (l1:=[_,_,_,_,_,_,_,_,_]) (l2:=[_,_]) (by kernel_rfl) rfl rfl ?_)|((with_reducible refine qq3 ?_);refine ak.call o1 rfl rfl ?_)|((with_reducible show RM.wpOp _ _ (.load _ _) _ _ _);refine RM.bC rfl rfl rfl g1 ?_)|((with_reducible show RM.wpOp _ _ (.load _ _) _ _ _);refine RM.bC rfl rfl rfl g2 ?_)|refine u1 ?_|refine u2 ?_|fail
  exact hz
theorem Lz (one:Bool) (S:List Int) {a b d N k:Nat} (hN:S.length=N) (hr:Ah S) (ha:a < N) (hb:b < N) (hd:d < N) (hk:k≤90) {v cc:Nat} {aF:bq} {Q:AV→List AB→bq→Prop} (hQ:∀ m k':Nat,(m=a∨m=b∨m=d)→Q (af (m:Nat)) [aA S v,.cells [af (k':Nat)] 0 0] aF) :
  au TT TB one (.fn 161 [] []) [.aJ 0 v 0 N cc,af (a:Nat),af (b:Nat),af (d:Nat),.ptr 1 0 0,CF] [aA S v,.cells [af (k:Nat)] 0 0] aF Q:=by
 refine au.body (fn:=Tryz.f161) rfl rfl rfl ?_;refine qq1 ?_;repeat' first|refine u1 ?_|refine u2 ?_|fail
 refine z9 one S hN hr ha hb (by omega) (fun x y k1 h1 h2=>?_);repeat' first|refine u1 ?_|refine u2 ?_|fail
 refine z9 one S hN hr (a:=y) (b:=d) (by omega) hd (by omega) (fun x2 y2 k2 h3 h4=>?_);repeat' first|refine u1 ?_|refine u2 ?_|fail
 refine z9 one S hN hr (a:=x) (b:=x2) (by omega) (by omega) (by omega) (fun x3 y3 k3 h5 h6=>?_);repeat' first|refine u1 ?_|refine u2 ?_|fail
 have hz:=hQ y3 k3 (by omega);exact hz
theorem JA (one:Bool) (S:List Int) {a b N:Nat} (hN:S.length=N) (hr:Ah S) (hb:b≤N) (hab:a+8≤b) (h50:N < 50) {v cc:Nat} {aF:bq} {Q:AV→List AB→bq→Prop} (hQ:∀ (p h k':Nat),(a≤p∧p < b)→h≤2→Q (.tp [af (p:Nat),af (h:Nat)]) [aA S v,.cells [af (k':Nat)] 0 0] aF) :
  au TT TB one (.fn 153 [] []) [.aJ 0 v 0 N cc,af (a:Nat),af (b:Nat),CF] [aA S v] aF Q:=by
 refine au.body (fn:=Tryz.f153) rfl rfl rfl ?_;have d1:decide ((8:Int)≤(b:Int) - (a:Int))=true:=decide_eq_true (by omega);have d2:decide ((50:Int)≤(b:Int) - (a:Int))=false:=decide_eq_false (by omega);obtain ⟨q,hq⟩:∃ q:Nat,(q:Int)=((b:Int) - (a:Int)) / 4:=⟨(((b:Int) - (a:Int)) / 4).toNat,Int.toNat_of_nonneg (by omega)⟩;have h4:4 * q≤b - a∧b - a < 4 * q+4:=by omega
 refine aa (mu:=fun t=>Nat.beq t 11) ?_;repeat' first|refine u1 ?_|refine u2 ?_|fail
 have e1:(((a+q:Nat)):Int)=(a:Int)+((b:Int) - (a:Int)) / 4 * 1:=by omega
 have e2:(((a+2 * q:Nat)):Int)=(a:Int)+((b:Int) - (a:Int)) / 4 * 2:=by omega
 have e3:(((a+3 * q:Nat)):Int)=(a:Int)+((b:Int) - (a:Int)) / 4 * 3:=by omega
 rw [←e1,←e2,←e3];refine Lz one S hN hr (k:=0) (a:=a+q) (b:=a+2 * q) (d:=a+3 * q) (by omega) (by omega) (by omega) (by omega) (fun m k' hm=>?_);have hm2:a≤m∧m < b:=by omega
 have z0:=hQ m 0 k' hm2 (by omega);have z1:=hQ m 1 k' hm2 (by omega);have z2:=hQ m 2 k' hm2 (by omega)
 cases c1:decide ((k':Int)=0) with
 | true =>
  repeat' first|refine u1 ?_|refine u2 ?_|fail
  exact z1
 | false =>
  cases c2:decide ((k':Int)=12) with
  | true =>
   repeat' first|refine u1 ?_|refine u2 ?_|fail
   exact z2
  | false =>
   repeat' first|refine u1 ?_|refine u2 ?_|fail
   exact z0
theorem LA (one:Bool) (S:List Int) {a b N:Nat} (hN:S.length=N) (hr:Ah S) (hb:b≤N) (hab:a+8≤b) (h50:N < 50) {v cc:Nat} {aF:bq} {Q:AV→List AB→bq→Prop} (hQ:∀ (p h:Nat),(a≤p∧p < b)→h≤2→Q (.tp [af (p:Nat),af (h:Nat)]) [aA S v] aF) :
  au TT TB one (.fn 153 [] []) [.aJ 0 v 0 N cc,af (a:Nat),af (b:Nat),CF] [aA S v] aF Q:=by
 refine (au.cut (Q:=fun w hp' amb'=>∃ p h k':Nat,(a≤p∧p < b)∧h≤2∧w=.tp [af (p:Nat),af (h:Nat)]∧hp'=[aA S v,.cells [af (k':Nat)] 0 0]∧amb'=aF) (JA one S hN hr hb hab h50 fun p h k' h1 h2=>⟨p,h,k',h1,h2,rfl,rfl,rfl⟩) ?_).mono ?_
 ·rintro w hp' amb' ⟨p,h,k',_,_,rfl,rfl,rfl⟩;exact ⟨rfl,av _ _⟩
 ·rintro w hp2 amb' ⟨hp',rfl,p,h,k',h1,h2,rfl,rfl,rfl⟩;exact hQ p h h1 h2
