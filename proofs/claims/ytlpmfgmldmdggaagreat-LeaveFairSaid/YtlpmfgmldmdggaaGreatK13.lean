/-
  Contracts of the program's functions and of the document's. Lemmas alone; their conditions stand in them.
-/
import Derived.Test.YtlpmfgmldmdggaaGreatK12
open Go Go.RM
namespace Go.Proofs.YtlpmfgmldmdggaaGreat
set_option maxRecDepth 100000
set_option maxHeartbeats 4000000
theorem Kj (one:Bool) (S0:List Int) {a b N:Nat} (hN:S0.length=N) (hb:b≤N) (hab:a≤b) (h9:N≤1000) (hr:zP S0) {v cc:Nat} {aC:bJ} {Q:AV→List AB→bJ→Prop} (hQ:∀ S:List Int,PR S0 S a b→Sd cg S a b→Q (.tp []) [aM S v] aC) :
  au TT TB one (.fn 127 [] []) [.aL 0 v 0 N cc,af (a:Nat),af (b:Nat),CF] [aM S0 v] aC Q:=by
 refine au.body (fn:=Tryz.f127) rfl rfl rfl ?_;refine qq1 ?_;repeat' first|refine u1 ?_|refine u2 ?_|fail
 refine ay.aN (ak.to (l:=[(0,.aL 0 v 0 N cc),(1,af (a:Nat)),(2,af (b:Nat)),(3,CF),(8,af ((a+1):Nat))]) (hp:=[aM S0 v]) 1 rfl ⟨rfl,rfl,rfl,rfl,aH (by simp),trivial⟩ (qq6 _) rfl (ax _ _)) ?_;refine ay.loop (fun x:Nat × List Int=>(a+1≤x.1∧(x.1≤b∨x.1=a+1))∧PR S0 x.2 a b∧Sd cg x.2 a x.1) (fun x=>⟨aT [(0,.aL 0 v 0 N cc),(1,af (a:Nat)),(2,af (b:Nat)),(3,CF),(8,af (x.1:Nat))],[aM x.2 v],aC,false,1⟩) (fun x=>N - x.1) ?_ (a+1,S0) ⟨⟨qq6 _,.inr rfl⟩,PR.refl _ _ _,fun i j h1 h2 h3=>by rw [show i=j by dsimp only at *;omega];exact Int.le_refl _⟩;rintro ⟨i,S⟩ ⟨⟨hi1,hi⟩,hpe,hso⟩;dsimp only at hi1 hi hso hpe;have hSl:S.length=N:=by rw [hpe.len,hN]
 show ay _ _ _ _ ⟨aT [(0,.aL 0 v 0 N cc),(1,af (a:Nat)),(2,af (b:Nat)),(3,CF),(8,af (i:Nat))],[aM S v],aC,false,1⟩ _;by_cases hc:i < b
 ·have d0:decide ((i:Int) < (b:Int))=true:=decide_eq_true (by omega);refine qq1 ?_;repeat' first|refine u1 ?_|refine u2 ?_|fail
  refine ay.aN (ak.to (l:=[(0,.aL 0 v 0 N cc),(1,af (a:Nat)),(2,af (b:Nat)),(3,CF),(8,af (i:Nat)),(9,af (i:Nat))]) (hp:=[aM S v]) 1 rfl ⟨rfl,rfl,rfl,rfl,rfl,rfl,trivial⟩ (qq6 _) rfl (ax _ _)) ?_;refine ay.loop (fun x:Nat × List Int=>(a≤x.1∧x.1≤i)∧PR S0 x.2 a b∧Hr cg x.2 a i x.1) (fun x=>⟨aT [(0,.aL 0 v 0 N cc),(1,af (a:Nat)),(2,af (b:Nat)),(3,CF),(8,af (i:Nat)),(9,af (x.1:Nat))],[aM x.2 v],aC,false,1⟩) (fun x=>x.1) ?_ (i,S) ⟨⟨by dsimp only;omega,qq6 _⟩,hpe,Hr.start hso⟩;rintro ⟨j,R⟩ ⟨⟨hj1,hj⟩,hpr,hsi⟩;dsimp only at hj1 hj hsi hpr;have hRl:R.length=N:=by rw [hpr.len,hN]
  show ay _ _ _ _ ⟨aT [(0,.aL 0 v 0 N cc),(1,af (a:Nat)),(2,af (b:Nat)),(3,CF),(8,af (i:Nat)),(9,af (j:Nat))],[aM R v],aC,false,1⟩ _;by_cases h0:a < j
  ·have d1:decide ((a:Int) < (j:Int))=true:=decide_eq_true (by omega);have g1:(av R)[0+((j:Nat):Int).toNat * 1]?=some (af (aO R j)):=aJ (by omega) (by omega);have g2:(av R)[0+((j:Int) - 1).toNat * 1]?=some (af (aO R (j - 1))):=aJ (by omega) (by omega);have hin:=hr.pr hpr;by_cases hl:cg (aO R j) < cg (aO R (j - 1))
   ·obtain ⟨z,dz,o1⟩:=rG one (hin.at (i:=j) (by omega)) (hin.at (i:=j - 1) (by omega)) hl;have b1:Nat.ble (0+((j:Nat):Int).toNat * 1+1) (av R).length=true:=ej (k:=j) (by omega) (by omega);have b2:Nat.ble (0+((j:Int) - 1).toNat * 1+1) (bg (av R) [af (aO R (j - 1))] (0+((j:Nat):Int).toNat * 1)).length=true:=gz (i:=j) (j:=j - 1) (by omega) (by omega) (by omega) (by omega) _;have e1:=dh (R:=R) (i:=j) (j:=j - 1) (p:=0+((j:Nat):Int).toNat * 1) (q:=0+((j:Int) - 1).toNat * 1) (by omega) (by omega) (by omega) (by omega);refine qq1 ?_;repeat' first|(refine RM.c5 (c:=14) (l1:=[_,_,_,_,_,_,_,_,_,_,_,_,_,_]) (l2:=[_,_,_]) (by kernel_rfl) rfl rfl ?_)|((with_reducible refine qq3 ?_);refine ah.call o1 rfl rfl ?_)|((with_reducible show RM.wpOp _ _ (.load _ _) _ _ _);refine RM.cU rfl rfl rfl g1 ?_)|((with_reducible show RM.wpOp _ _ (.load _ _) _ _ _);refine RM.cU rfl rfl rfl g2 ?_)|((with_reducible show aR _ _ _ _ _ _);refine RM.lY rfl rfl rfl rfl rfl rfl b1 ?_)|((with_reducible show aR _ _ _ _ _ _);refine RM.lY rfl rfl rfl rfl rfl rfl b2 ?_)|refine u1 ?_|refine u2 ?_|fail
    exact ⟨(j - 1,sw R j (j - 1)),⟨⟨by dsimp only;omega,by dsimp only;omega⟩,hpr.trans (PR.sw (by omega) ⟨by omega,by omega⟩ ⟨by omega,by omega⟩),hsi.step ⟨h0,hj⟩ (by omega) hl⟩,(by dsimp only;omega),ak.to (l:=[(0,.aL 0 v 0 N cc),(1,af (a:Nat)),(2,af (b:Nat)),(3,CF),(8,af (i:Nat)),(9,af ((j - 1):Nat))]) (hp:=[aM (sw R j (j - 1)) v]) 1 (by show _=[AB.cells (av (sw R j (j - 1))) 1 v];rw [←e1];rfl) ⟨rfl,rfl,rfl,rfl,rfl,aH (by omega),trivial⟩ (qq6 _) rfl (ax _ _)⟩
   ·obtain ⟨z,dz,o1⟩:=rH one (hin.at (i:=j) (by omega)) (hin.at (i:=j - 1) (by omega)) hl;refine qq1 ?_;repeat' first|(refine RM.c5 (c:=14) (l1:=[_,_,_,_,_,_,_,_,_,_,_,_,_,_]) (l2:=[_,_,_]) (by kernel_rfl) rfl rfl ?_)|((with_reducible refine qq3 ?_);refine ah.call o1 rfl rfl ?_)|((with_reducible show RM.wpOp _ _ (.load _ _) _ _ _);refine RM.cU rfl rfl rfl g1 ?_)|((with_reducible show RM.wpOp _ _ (.load _ _) _ _ _);refine RM.cU rfl rfl rfl g2 ?_)|refine u1 ?_|refine u2 ?_|fail
    exact ⟨(i+1,R),⟨⟨by dsimp only;omega,.inl (by dsimp only;omega)⟩,hpr,hsi.done (.inr (by show cg (aO R (j - 1))≤cg (aO R j);omega))⟩,(by dsimp only;omega),ak.to (l:=[(0,.aL 0 v 0 N cc),(1,af (a:Nat)),(2,af (b:Nat)),(3,CF),(8,af ((i+1):Nat))]) (hp:=[aM R v]) 1 rfl ⟨rfl,rfl,rfl,rfl,aH (by simp),trivial⟩ (qq6 _) rfl (ax _ _)⟩
  ·have d1:decide ((a:Int) < (j:Int))=false:=decide_eq_false (by omega);refine qq1 ?_;repeat' first|refine u1 ?_|(refine RM.c5 (c:=14) (l1:=[_,_,_,_,_,_,_,_,_,_,_,_,_,_]) (l2:=[_,_,_]) (by kernel_rfl) rfl rfl ?_)|refine u2 ?_|fail
   exact ⟨(i+1,R),⟨⟨by dsimp only;omega,.inl (by dsimp only;omega)⟩,hpr,hsi.done (.inl (by omega))⟩,(by dsimp only;omega),ak.to (l:=[(0,.aL 0 v 0 N cc),(1,af (a:Nat)),(2,af (b:Nat)),(3,CF),(8,af ((i+1):Nat))]) (hp:=[aM R v]) 1 rfl ⟨rfl,rfl,rfl,rfl,aH (by simp),trivial⟩ (qq6 _) rfl (ax _ _)⟩
 ·have d0:decide ((i:Int) < (b:Int))=false:=decide_eq_false (by omega);have hz:=hQ S hpe fun p q h1 h2 h3=>hso p q h1 h2 (by omega);refine qq1 ?_;repeat' first|refine u1 ?_|refine u2 ?_|fail
  exact hz
end Go.Proofs.YtlpmfgmldmdggaaGreat
open Go Go.RM
namespace Go.Proofs.YtlpmfgmldmdggaaGreat
set_option maxRecDepth 100000
set_option maxHeartbeats 4000000
abbrev ye:=Nat × Nat × List Int
theorem wG {X:List AV} {S:List Int} {v:Nat} (h:X=av S):AB.cells X 1 v=aM S v:=by rw [h]
