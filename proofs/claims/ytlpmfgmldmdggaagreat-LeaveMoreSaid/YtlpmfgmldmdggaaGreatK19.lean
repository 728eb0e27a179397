/-
  Contracts of the program's functions and of the document's. Lemmas alone; their conditions stand in them.
-/
import Derived.Test.YtlpmfgmldmdggaaGreatK13
import Derived.Test.YtlpmfgmldmdggaaGreatK17
open Go Go.RM
namespace Go.Proofs.YtlpmfgmldmdggaaGreat
set_option maxRecDepth 100000
set_option maxHeartbeats 4000000
theorem LI (one:Bool) (S0:List Int) {a b N:Nat} (hN:S0.length=N) (hb:b≤N) (hab:a < b) (h9:N≤1000) {v cc:Nat} {aF:bq} {Q:AV→List AB→bq→Prop} (hQ:∀ S:List Int,PR S0 S a b→Q (.tp []) [aA S v] aF) :
  au TT TB one (.fn 136 [] []) [.aJ 0 v 0 N cc,af (a:Nat),af (b:Nat)] [aA S0 v] aF Q:=by
 refine au.body (fn:=Tryz.f136) rfl rfl rfl ?_;refine qq1 ?_;repeat' first|refine u1 ?_|refine u2 ?_|fail
 refine aB.aO (ah.to (l:=[(0,.aJ 0 v 0 N cc),(6,af (a:Nat)),(7,af ((b - 1):Nat))]) (hp:=[aA S0 v]) 1 rfl ⟨rfl,rfl,aE (by omega),trivial⟩ (qq6 _) rfl (av _ _)) ?_;refine aB.loop (fun x:Nat × Nat × List Int=>(a≤x.1∧x.2.1 < b∧x.1≤x.2.1+1)∧PR S0 x.2.2 a b) (fun x=>⟨aM [(0,.aJ 0 v 0 N cc),(6,af (x.1:Nat)),(7,af (x.2.1:Nat))],[aA x.2.2 v],aF,false,1⟩) (fun x=>x.2.1) ?_ (a,b - 1,S0) ⟨⟨qq6 _,by dsimp only;omega,by dsimp only;omega⟩,PR.refl _ _ _⟩;rintro ⟨i,j,R⟩ ⟨⟨h1,h2,h3⟩,hpr⟩;dsimp only at h1 h2 h3 hpr;have hRl:R.length=N:=by rw [hpr.len,hN]
 show aB _ _ _ _ ⟨aM [(0,.aJ 0 v 0 N cc),(6,af (i:Nat)),(7,af (j:Nat))],[aA R v],aF,false,1⟩ _;by_cases hij:i < j
 ·have d1:decide ((i:Int) < (j:Int))=true:=decide_eq_true (by omega);have b1:Nat.ble (0+((i:Nat):Int).toNat * 1+1) (ay R).length=true:=bS (k:=i) (by omega) (by omega);have b2:Nat.ble (0+((j:Nat):Int).toNat * 1+1) (aQ (ay R) [af (aH R j)] (0+((i:Nat):Int).toNat * 1)).length=true:=cH (i:=i) (j:=j) (by omega) (by omega) (by omega) (by omega) _;have e1:=bp (R:=R) (i:=i) (j:=j) (p:=0+((i:Nat):Int).toNat * 1) (q:=0+((j:Nat):Int).toNat * 1) (by omega) (by omega) (by omega) (by omega);have y1:(ay R)[0+((j:Nat):Int).toNat * 1]?=some (af (aH R j)):=ax (by omega) (by omega);have y2:(ay R)[0+((i:Nat):Int).toNat * 1]?=some (af (aH R i)):=ax (by omega) (by omega);refine qq1 ?_;repeat' first|((with_reducible show RM.wpOp _ _ (.load _ _) _ _ _);refine RM.bC rfl rfl rfl y1 ?_)|((with_reducible show RM.wpOp _ _ (.load _ _) _ _ _);refine RM.bC rfl rfl rfl y2 ?_)|((with_reducible show aG _ _ _ _ _ _);refine RM.e9 rfl rfl rfl rfl rfl rfl b1 ?_)|((with_reducible show aG _ _ _ _ _ _);refine RM.e9 rfl rfl rfl rfl rfl rfl b2 ?_)|refine u1 ?_|refine u2 ?_|fail
  exact ⟨(i+1,j - 1,sw R i j),⟨⟨by dsimp only;omega,by dsimp only;omega,by dsimp only;omega⟩,hpr.trans (PR.sw (by omega) ⟨by omega,by omega⟩ ⟨by omega,by omega⟩)⟩,(by dsimp only;omega),ah.to (l:=[(0,.aJ 0 v 0 N cc),(6,af ((i+1):Nat)),(7,af ((j - 1):Nat))]) (hp:=[aA (sw R i j) v]) 1 (by show _=[AB.cells (ay (sw R i j)) 1 v];rw [←e1];rfl) ⟨rfl,aE (by simp),aE (by omega),trivial⟩ (qq6 _) rfl (av _ _)⟩
 ·have d1:decide ((i:Int) < (j:Int))=false:=decide_eq_false (by omega);have hz:=hQ R hpr;refine qq1 ?_;repeat' first|refine u1 ?_|refine u2 ?_|fail
  exact hz
theorem LJ (one:Bool) (S:List Int) {a b N:Nat} (hN:S.length=N) (hb:b≤N) (hab:a < b) (h50:N < 50) {v cc:Nat} {aF:bq} {Q:AV→List AB→bq→Prop} (hQ:∀ bl:Bool,(bl=true→Sd lg S a b)→Q (BB bl) [aA S v] aF) :
  au TT TB one (.fn 137 [] []) [.aJ 0 v 0 N cc,af (a:Nat),af (b:Nat)] [aA S v] aF Q:=by
 refine au.body (fn:=Tryz.f137) rfl rfl rfl ?_;have d5:decide ((0:Int) < 5)=true:=rfl;refine qq1 ?_;repeat' first|refine u1 ?_|refine u2 ?_|fail
 refine aB.aO (ah.to (l:=[(0,.aJ 0 v 0 N cc),(1,af (a:Nat)),(2,af (b:Nat)),(7,af ((a+1):Nat)),(8,af 0)]) (hp:=[aA S v]) 1 rfl ⟨rfl,rfl,rfl,aE (by simp),rfl,trivial⟩ (qq6 _) rfl (av _ _)) ?_;refine aB.loop (fun x:Unit=>True) (fun _=>⟨aM [(0,.aJ 0 v 0 N cc),(1,af (a:Nat)),(2,af (b:Nat)),(7,af ((a+1):Nat)),(8,af 0)],[aA S v],aF,false,1⟩) (fun _=>0) ?_ () trivial;intro _ _;refine qq1 ?_;repeat' first|refine u1 ?_|refine u2 ?_|fail
 refine aB.aO (ah.to (l:=[(0,.aJ 0 v 0 N cc),(1,af (a:Nat)),(2,af (b:Nat)),(7,af ((a+1):Nat)),(8,af 0)]) (hp:=[aA S v]) 1 rfl ⟨rfl,rfl,rfl,rfl,rfl,trivial⟩ (qq6 _) rfl (av _ _)) ?_;refine aB.loop (fun i:Nat=>(a+1≤i∧i≤b)∧Sd lg S a i) (fun i=>⟨aM [(0,.aJ 0 v 0 N cc),(1,af (a:Nat)),(2,af (b:Nat)),(7,af (i:Nat)),(8,af 0)],[aA S v],aF,false,1⟩) (fun i=>N - i) ?_ (a+1) ⟨⟨qq6 _,by omega⟩,fun i j h1 h2 h3=>by rw [show i=j by omega];exact Int.le_refl _⟩;rintro i ⟨⟨h1,h2⟩,hs⟩;by_cases hib:i < b
 ·have d1:decide ((i:Int) < (b:Int))=true:=decide_eq_true (by omega);have d2:decide ((i:Int)=(b:Int))=false:=decide_eq_false (by omega);have d3:decide ((b:Int) - (a:Int) < 50)=true:=decide_eq_true (by omega);have g1:(ay S)[0+((i:Nat):Int).toNat * 1]?=some (af (aH S i)):=ax (by omega) (by omega);have g2:(ay S)[0+((i:Int) - 1).toNat * 1]?=some (af (aH S (i - 1))):=ax (by omega) (by omega);have o1:=iw true (aH S i) (aH S (i - 1));by_cases hl:aH S i < aH S (i - 1)
  ·rw [decide_eq_true hl] at o1;have hz:=hQ false (fun h=>Bool.noConfusion h);refine qq1 ?_;repeat' first|(refine ⟨_,_,.inl ⟨rfl,rfl⟩,o1,?_⟩)|((with_reducible show RM.wpOp _ _ (.load _ _) _ _ _);refine RM.bC rfl rfl rfl g1 ?_)|((with_reducible show RM.wpOp _ _ (.load _ _) _ _ _);refine RM.bC rfl rfl rfl g2 ?_)|refine u1 ?_|refine u2 ?_|fail
   exact hz
  ·rw [decide_eq_false hl] at o1;refine qq1 ?_;repeat' first|(refine ⟨_,_,.inl ⟨rfl,rfl⟩,o1,?_⟩)|((with_reducible show RM.wpOp _ _ (.load _ _) _ _ _);refine RM.bC rfl rfl rfl g1 ?_)|((with_reducible show RM.wpOp _ _ (.load _ _) _ _ _);refine RM.bC rfl rfl rfl g2 ?_)|refine u1 ?_|refine u2 ?_|fail
   exact ⟨i+1,⟨⟨by omega,by omega⟩,(Ff.start hs).done (.inr (by show aH S (i - 1)≤aH S i;omega))⟩,(by dsimp only;omega),ah.to (l:=[(0,.aJ 0 v 0 N cc),(1,af (a:Nat)),(2,af (b:Nat)),(7,af ((i+1):Nat)),(8,af 0)]) (hp:=[aA S v]) 1 rfl ⟨rfl,rfl,rfl,aE (by simp),rfl,trivial⟩ (qq6 _) rfl (av _ _)⟩
 ·have d1:decide ((i:Int) < (b:Int))=false:=decide_eq_false (by omega);have d2:decide ((i:Int)=(b:Int))=true:=decide_eq_true (by omega);have hz:=hQ true fun _=>by rw [show b=i by omega];exact hs
  refine qq1 ?_;repeat' first|refine u1 ?_|refine u2 ?_|fail
  exact hz
end Go.Proofs.YtlpmfgmldmdggaaGreat
open Go Go.RM
namespace Go.Proofs.YtlpmfgmldmdggaaGreat
set_option maxRecDepth 100000
set_option maxHeartbeats 4000000
theorem Dh (one:Bool) (S:List Int) {a b N k:Nat} (hN:S.length=N) (ha:a < N) (hb:b < N) (hk:k≤100) {v cc:Nat} {aF:bq} {Q:AV→List AB→bq→Prop} (hQ:∀ x y k':Nat,(x=a∧y=b∨x=b∧y=a)→k'≤k+1→Q (.tp [af (x:Nat),af (y:Nat)]) [aA S v,.cells [af (k':Nat)] 0 0] aF) :
  au TT TB one (.fn 158 [] []) [.aJ 0 v 0 N cc,af (a:Nat),af (b:Nat),.ptr 1 0 0] [aA S v,.cells [af (k:Nat)] 0 0] aF Q:=by
 refine au.body (fn:=Tryz.f158) rfl rfl rfl ?_;have g1:(ay S)[0+((b:Nat):Int).toNat * 1]?=some (af (aH S b)):=ax (by omega) (by omega);have g2:(ay S)[0+((a:Nat):Int).toNat * 1]?=some (af (aH S a)):=ax (by omega) (by omega);have o1:=iw true (aH S b) (aH S a)
 cases hl:decide (aH S b < aH S a) with
 | true =>
  rw [hl] at o1;have hz:=hQ b a (k+1) (.inr ⟨rfl,rfl⟩) (qq6 _);refine qq1 ?_;repeat' first|(refine ⟨_,_,.inl ⟨rfl,rfl⟩,o1,?_⟩)|((with_reducible show RM.wpOp _ _ (.load _ _) _ _ _);refine RM.bC rfl rfl rfl g1 ?_)|((with_reducible show RM.wpOp _ _ (.load _ _) _ _ _);refine RM.bC rfl rfl rfl g2 ?_)|refine u1 ?_|refine u2 ?_|fail
  exact hz
 | false =>
  rw [hl] at o1;have hz:=hQ a b k (.inl ⟨rfl,rfl⟩) (Nat.le_succ _);refine qq1 ?_;repeat' first|(refine ⟨_,_,.inl ⟨rfl,rfl⟩,o1,?_⟩)|((with_reducible show RM.wpOp _ _ (.load _ _) _ _ _);refine RM.bC rfl rfl rfl g1 ?_)|((with_reducible show RM.wpOp _ _ (.load _ _) _ _ _);refine RM.bC rfl rfl rfl g2 ?_)|refine u1 ?_|refine u2 ?_|fail
  exact hz
theorem MZ (one:Bool) (S:List Int) {a b d N k:Nat} (hN:S.length=N) (ha:a < N) (hb:b < N) (hd:d < N) (hk:k≤90) {v cc:Nat} {aF:bq} {Q:AV→List AB→bq→Prop} (hQ:∀ m k':Nat,(m=a∨m=b∨m=d)→Q (af (m:Nat)) [aA S v,.cells [af (k':Nat)] 0 0] aF) :
  au TT TB one (.fn 149 [] []) [.aJ 0 v 0 N cc,af (a:Nat),af (b:Nat),af (d:Nat),.ptr 1 0 0] [aA S v,.cells [af (k:Nat)] 0 0] aF Q:=by
 refine au.body (fn:=Tryz.f149) rfl rfl rfl ?_;refine qq1 ?_;repeat' first|refine u1 ?_|refine u2 ?_|fail
 refine Dh one S hN ha hb (by omega) (fun x y k1 h1 h2=>?_);repeat' first|refine u1 ?_|refine u2 ?_|fail
 refine Dh one S hN (a:=y) (b:=d) (by omega) hd (by omega) (fun x2 y2 k2 h3 h4=>?_);repeat' first|refine u1 ?_|refine u2 ?_|fail
 refine Dh one S hN (a:=x) (b:=x2) (by omega) (by omega) (by omega) (fun x3 y3 k3 h5 h6=>?_);repeat' first|refine u1 ?_|refine u2 ?_|fail
 have hz:=hQ y3 k3 (by omega);exact hz
theorem JH (one:Bool) (S:List Int) {a b N:Nat} (hN:S.length=N) (hb:b≤N) (hab:a+8≤b) (h50:N < 50) {v cc:Nat} {aF:bq} {Q:AV→List AB→bq→Prop} (hQ:∀ (p h k':Nat),(a≤p∧p < b)→h≤2→Q (.tp [af (p:Nat),af (h:Nat)]) [aA S v,.cells [af (k':Nat)] 0 0] aF) :
  au TT TB one (.fn 135 [] []) [.aJ 0 v 0 N cc,af (a:Nat),af (b:Nat)] [aA S v] aF Q:=by
 refine au.body (fn:=Tryz.f135) rfl rfl rfl ?_;have d1:decide ((8:Int)≤(b:Int) - (a:Int))=true:=decide_eq_true (by omega);have d2:decide ((50:Int)≤(b:Int) - (a:Int))=false:=decide_eq_false (by omega);obtain ⟨q,hq⟩:∃ q:Nat,(q:Int)=((b:Int) - (a:Int)) / 4:=⟨(((b:Int) - (a:Int)) / 4).toNat,Int.toNat_of_nonneg (by omega)⟩;have h4:4 * q≤b - a∧b - a < 4 * q+4:=by omega
 refine aa (mu:=fun t=>Nat.beq t 9) ?_;repeat' first|refine u1 ?_|refine u2 ?_|fail
 have e1:(((a+q:Nat)):Int)=(a:Int)+((b:Int) - (a:Int)) / 4 * 1:=by omega
 have e2:(((a+2 * q:Nat)):Int)=(a:Int)+((b:Int) - (a:Int)) / 4 * 2:=by omega
 have e3:(((a+3 * q:Nat)):Int)=(a:Int)+((b:Int) - (a:Int)) / 4 * 3:=by omega
 rw [←e1,←e2,←e3];refine MZ one S hN (k:=0) (a:=a+q) (b:=a+2 * q) (d:=a+3 * q) (by omega) (by omega) (by omega) (by omega) (fun m k' hm=>?_);have hm2:a≤m∧m < b:=by omega
 have z0:=hQ m 0 k' hm2 (by omega);have z1:=hQ m 1 k' hm2 (by omega);have z2:=hQ m 2 k' hm2 (by omega)
 cases c1:decide ((k':Int)=0) with
 | true =>
  repeat' first|refine u1 ?_|refine u2 ?_|fail
  exact z1
 | false =>
  cases c2:decide ((k':Int)=12) with
  | true =>
   repeat' first|refine u1 ?_|refine u2 ?_|fail
   exact z2
  | false =>
   repeat' first|refine u1 ?_|refine u2 ?_|fail
   exact z0
theorem LK (one:Bool) (S:List Int) {a b N:Nat} (hN:S.length=N) (hb:b≤N) (hab:a+8≤b) (h50:N < 50) {v cc:Nat} {aF:bq} {Q:AV→List AB→bq→Prop} (hQ:∀ (p h:Nat),(a≤p∧p < b)→h≤2→Q (.tp [af (p:Nat),af (h:Nat)]) [aA S v] aF) :
  au TT TB one (.fn 135 [] []) [.aJ 0 v 0 N cc,af (a:Nat),af (b:Nat)] [aA S v] aF Q:=by
 refine (au.cut (Q:=fun w hp' amb'=>∃ p h k':Nat,(a≤p∧p < b)∧h≤2∧w=.tp [af (p:Nat),af (h:Nat)]∧hp'=[aA S v,.cells [af (k':Nat)] 0 0]∧amb'=aF) (JH one S hN hb hab h50 fun p h k' h1 h2=>⟨p,h,k',h1,h2,rfl,rfl,rfl⟩) ?_).mono ?_
 ·rintro w hp' amb' ⟨p,h,k',_,_,rfl,rfl,rfl⟩;exact ⟨rfl,av _ _⟩
 ·rintro w hp2 amb' ⟨hp',rfl,p,h,k',h1,h2,rfl,rfl,rfl⟩;exact hQ p h h1 h2
end Go.Proofs.YtlpmfgmldmdggaaGreat
open Go Go.RM
namespace Go.Proofs.YtlpmfgmldmdggaaGreat
set_option maxRecDepth 100000
set_option maxHeartbeats 4000000
theorem H6 (one:Bool) (S0:List Int) {a lo hi N:Nat} (hN:S0.length=N) (hhi:a+hi≤N) (h9:N≤1000) (hlo9:lo≤1000) (hpre:yG lg S0 a (lo+1) hi) {v cc:Nat} {aF:bq} {Q:AV→List AB→bq→Prop} (hQ:∀ S:List Int,PR S0 S a (a+hi)→yG lg S a lo hi→Q (.tp []) [aA S v] aF) :
  au TT TB one (.fn 145 [] []) [.aJ 0 v 0 N cc,af (lo:Nat),af (hi:Nat),af (a:Nat)] [aA S0 v] aF Q:=by
 refine au.body (fn:=Tryz.f145) rfl rfl rfl ?_;refine qq1 ?_;repeat' first|refine u1 ?_|refine u2 ?_|fail
 refine aB.aO (ah.to (l:=[(0,.aJ 0 v 0 N cc),(2,af (hi:Nat)),(3,af (a:Nat)),(8,af (lo:Nat))]) (hp:=[aA S0 v]) 1 rfl ⟨rfl,rfl,rfl,rfl,trivial⟩ (qq6 _) rfl (av _ _)) ?_;refine aB.loop (fun x:Nat × List Int=>(lo≤x.1∧x.1≤1000)∧PR S0 x.2 a (a+hi)∧HY lg x.2 a lo hi x.1) (fun x=>⟨aM [(0,.aJ 0 v 0 N cc),(2,af (hi:Nat)),(3,af (a:Nat)),(8,af (x.1:Nat))],[aA x.2 v],aF,false,1⟩) (fun x=>5000 - x.1) ?_ (lo,S0) ⟨⟨qq6 _,hlo9⟩,PR.refl _ _ _,HY.start hpre⟩;rintro ⟨r,R⟩ ⟨⟨hr,hr9⟩,hpr,hx⟩;dsimp only at hr hr9 hpr hx;have hRl:R.length=N:=by rw [hpr.len,hN]
 show aB _ _ _ _ ⟨aM [(0,.aJ 0 v 0 N cc),(2,af (hi:Nat)),(3,af (a:Nat)),(8,af (r:Nat))],[aA R v],aF,false,1⟩ _;by_cases hc:2 * r+1 < hi
 ·have d1:decide ((hi:Int)≤2 * (r:Int)+1)=false:=decide_eq_false (by omega);have gR:(ay R)[0+((a:Int)+(r:Int)).toNat * 1]?=some (af (aH R (a+r))):=ax (by omega) (by omega);have gC:(ay R)[0+((a:Int)+(2 * (r:Int)+1)).toNat * 1]?=some (af (aH R (a+(2 * r+1)))):=ax (by omega) (by omega);by_cases hd:2 * r+2 < hi
  ·have d2:decide (2 * (r:Int)+1+1 < (hi:Int))=true:=decide_eq_true (by omega);have gD:(ay R)[0+((a:Int)+(2 * (r:Int)+1)+1).toNat * 1]?=some (af (aH R (a+(2 * r+2)))):=ax (by omega) (by omega);have o1:=iw true (aH R (a+(2 * r+1))) (aH R (a+(2 * r+2)));by_cases hcd:aH R (a+(2 * r+1)) < aH R (a+(2 * r+2))
   ·rw [decide_eq_true hcd] at o1
    have hmax:∀ c,(c=2 * r+1∨c=2 * r+2)→c < hi→lg (aH R (a+c))≤lg (aH R (a+(2 * r+2))):=fun c hc1 hc2=>by
     show aH R (a+c)≤aH R (a+(2 * r+2))
     rcases hc1 with rfl|rfl
     ·omega
     ·omega
    have b1:Nat.ble (0+(((a:Int)+(r:Int))).toNat * 1+1) (ay R).length=true:=bS (k:=a+r) (by omega) (by omega);have b2:Nat.ble (0+(((a:Int)+(2 * (r:Int)+1+1))).toNat * 1+1) (aQ (ay R) [af (aH R (a+(2 * r+2)))] (0+(((a:Int)+(r:Int))).toNat * 1)).length=true:=cH (i:=a+r) (j:=a+(2 * r+2)) (by omega) (by omega) (by omega) (by omega) _;have e1:=bp (R:=R) (i:=a+r) (j:=a+(2 * r+2)) (p:=0+(((a:Int)+(r:Int))).toNat * 1) (q:=0+(((a:Int)+(2 * (r:Int)+1+1))).toNat * 1) (by omega) (by omega) (by omega) (by omega);have y1:(ay R)[0+(((a:Int)+(2 * (r:Int)+1+1))).toNat * 1]?=some (af (aH R (a+(2 * r+2)))):=ax (by omega) (by omega);have y2:(ay R)[0+(((a:Int)+(r:Int))).toNat * 1]?=some (af (aH R (a+r))):=ax (by omega) (by omega);have o2:=iw true (aH R (a+r)) (aH R (a+(2 * r+2)));by_cases hlt:aH R (a+r) < aH R (a+(2 * r+2))
    ·rw [decide_eq_true hlt] at o2;refine qq1 ?_;repeat' first|(refine ⟨_,_,.inl ⟨rfl,rfl⟩,o1,?_⟩)|((with_reducible show RM.wpOp _ _ (.load _ _) _ _ _);refine RM.bC rfl rfl rfl gR ?_)|((with_reducible show RM.wpOp _ _ (.load _ _) _ _ _);refine RM.bC rfl rfl rfl gC ?_)|((with_reducible show RM.wpOp _ _ (.load _ _) _ _ _);refine RM.bC rfl rfl rfl gD ?_)|(refine ⟨_,_,.inl ⟨rfl,rfl⟩,o2,?_⟩)|((with_reducible show RM.wpOp _ _ (.load _ _) _ _ _);refine RM.bC rfl rfl rfl y1 ?_)|((with_reducible show RM.wpOp _ _ (.load _ _) _ _ _);refine RM.bC rfl rfl rfl y2 ?_)|((with_reducible show aG _ _ _ _ _ _);refine RM.e9 rfl rfl rfl rfl rfl rfl b1 ?_)|((with_reducible show aG _ _ _ _ _ _);refine RM.e9 rfl rfl rfl rfl rfl rfl b2 ?_)|refine u1 ?_|refine u2 ?_|fail
     exact ⟨(2 * r+2,sw R (a+r) (a+(2 * r+2))),⟨by dsimp only;omega,hpr.trans (PR.sw (by omega) ⟨by omega,by omega⟩ ⟨by omega,by omega⟩),hx.step hr (by omega) (by omega) (by omega) hmax (Int.le_of_lt hlt)⟩,(by dsimp only;omega),ah.to (l:=[(0,.aJ 0 v 0 N cc),(2,af (hi:Nat)),(3,af (a:Nat)),(8,af ((2 * r+2):Nat))]) (hp:=[aA (sw R (a+r) (a+(2 * r+2))) v]) 1 (by show _=[AB.cells (ay (sw R (a+r) (a+(2 * r+2)))) 1 v];rw [←e1];rfl) ⟨rfl,rfl,rfl,aE (by omega),trivial⟩ (qq6 _) rfl (av _ _)⟩
    ·rw [decide_eq_false hlt] at o2;have hz:=hQ R hpr (hx.done fun c h1 h2=>Int.le_trans (hmax c h1 h2) (by show aH R (a+(2 * r+2))≤aH R (a+r);omega));refine qq1 ?_;repeat' first|(refine ⟨_,_,.inl ⟨rfl,rfl⟩,o1,?_⟩)|((with_reducible show RM.wpOp _ _ (.load _ _) _ _ _);refine RM.bC rfl rfl rfl gR ?_)|((with_reducible show RM.wpOp _ _ (.load _ _) _ _ _);refine RM.bC rfl rfl rfl gC ?_)|((with_reducible show RM.wpOp _ _ (.load _ _) _ _ _);refine RM.bC rfl rfl rfl gD ?_)|(refine ⟨_,_,.inl ⟨rfl,rfl⟩,o2,?_⟩)|((with_reducible show RM.wpOp _ _ (.load _ _) _ _ _);refine RM.bC rfl rfl rfl y1 ?_)|((with_reducible show RM.wpOp _ _ (.load _ _) _ _ _);refine RM.bC rfl rfl rfl y2 ?_)|((with_reducible show aG _ _ _ _ _ _);refine RM.e9 rfl rfl rfl rfl rfl rfl b1 ?_)|((with_reducible show aG _ _ _ _ _ _);refine RM.e9 rfl rfl rfl rfl rfl rfl b2 ?_)|refine u1 ?_|refine u2 ?_|fail
     exact hz
   ·rw [decide_eq_false hcd] at o1
    have hmax:∀ c,(c=2 * r+1∨c=2 * r+2)→c < hi→lg (aH R (a+c))≤lg (aH R (a+(2 * r+1))):=fun c hc1 hc2=>by
     show aH R (a+c)≤aH R (a+(2 * r+1))
     rcases hc1 with rfl|rfl
     ·omega
     ·omega
    have b1:Nat.ble (0+(((a:Int)+(r:Int))).toNat * 1+1) (ay R).length=true:=bS (k:=a+r) (by omega) (by omega);have b2:Nat.ble (0+(((a:Int)+(2 * (r:Int)+1))).toNat * 1+1) (aQ (ay R) [af (aH R (a+(2 * r+1)))] (0+(((a:Int)+(r:Int))).toNat * 1)).length=true:=cH (i:=a+r) (j:=a+(2 * r+1)) (by omega) (by omega) (by omega) (by omega) _;have e1:=bp (R:=R) (i:=a+r) (j:=a+(2 * r+1)) (p:=0+(((a:Int)+(r:Int))).toNat * 1) (q:=0+(((a:Int)+(2 * (r:Int)+1))).toNat * 1) (by omega) (by omega) (by omega) (by omega);have y1:(ay R)[0+(((a:Int)+(2 * (r:Int)+1))).toNat * 1]?=some (af (aH R (a+(2 * r+1)))):=ax (by omega) (by omega);have y2:(ay R)[0+(((a:Int)+(r:Int))).toNat * 1]?=some (af (aH R (a+r))):=ax (by omega) (by omega);have o2:=iw true (aH R (a+r)) (aH R (a+(2 * r+1)));by_cases hlt:aH R (a+r) < aH R (a+(2 * r+1))
    ·rw [decide_eq_true hlt] at o2;refine qq1 ?_;repeat' first|(refine ⟨_,_,.inl ⟨rfl,rfl⟩,o1,?_⟩)|((with_reducible show RM.wpOp _ _ (.load _ _) _ _ _);refine RM.bC rfl rfl rfl gR ?_)|((with_reducible show RM.wpOp _ _ (.load _ _) _ _ _);refine RM.bC rfl rfl rfl gC ?_)|((with_reducible show RM.wpOp _ _ (.load _ _) _ _ _);refine RM.bC rfl rfl rfl gD ?_)|(refine ⟨_,_,.inl ⟨rfl,rfl⟩,o2,?_⟩)|((with_reducible show RM.wpOp _ _ (.load _ _) _ _ _);refine RM.bC rfl rfl rfl y1 ?_)|((with_reducible show RM.wpOp _ _ (.load _ _) _ _ _);refine RM.bC rfl rfl rfl y2 ?_)|((with_reducible show aG _ _ _ _ _ _);refine RM.e9 rfl rfl rfl rfl rfl rfl b1 ?_)|((with_reducible show aG _ _ _ _ _ _);refine RM.e9 rfl rfl rfl rfl rfl rfl b2 ?_)|refine u1 ?_|refine u2 ?_|fail
     exact ⟨(2 * r+1,sw R (a+r) (a+(2 * r+1))),⟨by dsimp only;omega,hpr.trans (PR.sw (by omega) ⟨by omega,by omega⟩ ⟨by omega,by omega⟩),hx.step hr (by omega) (by omega) (by omega) hmax (Int.le_of_lt hlt)⟩,(by dsimp only;omega),ah.to (l:=[(0,.aJ 0 v 0 N cc),(2,af (hi:Nat)),(3,af (a:Nat)),(8,af ((2 * r+1):Nat))]) (hp:=[aA (sw R (a+r) (a+(2 * r+1))) v]) 1 (by show _=[AB.cells (ay (sw R (a+r) (a+(2 * r+1)))) 1 v];rw [←e1];rfl) ⟨rfl,rfl,rfl,aE (by omega),trivial⟩ (qq6 _) rfl (av _ _)⟩
    ·rw [decide_eq_false hlt] at o2;have hz:=hQ R hpr (hx.done fun c h1 h2=>Int.le_trans (hmax c h1 h2) (by show aH R (a+(2 * r+1))≤aH R (a+r);omega));refine qq1 ?_;repeat' first|(refine ⟨_,_,.inl ⟨rfl,rfl⟩,o1,?_⟩)|((with_reducible show RM.wpOp _ _ (.load _ _) _ _ _);refine RM.bC rfl rfl rfl gR ?_)|((with_reducible show RM.wpOp _ _ (.load _ _) _ _ _);refine RM.bC rfl rfl rfl gC ?_)|((with_reducible show RM.wpOp _ _ (.load _ _) _ _ _);refine RM.bC rfl rfl rfl gD ?_)|(refine ⟨_,_,.inl ⟨rfl,rfl⟩,o2,?_⟩)|((with_reducible show RM.wpOp _ _ (.load _ _) _ _ _);refine RM.bC rfl rfl rfl y1 ?_)|((with_reducible show RM.wpOp _ _ (.load _ _) _ _ _);refine RM.bC rfl rfl rfl y2 ?_)|((with_reducible show aG _ _ _ _ _ _);refine RM.e9 rfl rfl rfl rfl rfl rfl b1 ?_)|((with_reducible show aG _ _ _ _ _ _);refine RM.e9 rfl rfl rfl rfl rfl rfl b2 ?_)|refine u1 ?_|refine u2 ?_|fail
     exact hz
  ·have d2:decide (2 * (r:Int)+1+1 < (hi:Int))=false:=decide_eq_false (by omega)
   have hmax:∀ c,(c=2 * r+1∨c=2 * r+2)→c < hi→lg (aH R (a+c))≤lg (aH R (a+(2 * r+1))):=fun c hc1 hc2=>by
    show aH R (a+c)≤aH R (a+(2 * r+1))
    rcases hc1 with rfl|rfl
    ·omega
    ·omega
   have b1:Nat.ble (0+(((a:Int)+(r:Int))).toNat * 1+1) (ay R).length=true:=bS (k:=a+r) (by omega) (by omega);have b2:Nat.ble (0+(((a:Int)+(2 * (r:Int)+1))).toNat * 1+1) (aQ (ay R) [af (aH R (a+(2 * r+1)))] (0+(((a:Int)+(r:Int))).toNat * 1)).length=true:=cH (i:=a+r) (j:=a+(2 * r+1)) (by omega) (by omega) (by omega) (by omega) _;have e1:=bp (R:=R) (i:=a+r) (j:=a+(2 * r+1)) (p:=0+(((a:Int)+(r:Int))).toNat * 1) (q:=0+(((a:Int)+(2 * (r:Int)+1))).toNat * 1) (by omega) (by omega) (by omega) (by omega);have y1:(ay R)[0+(((a:Int)+(2 * (r:Int)+1))).toNat * 1]?=some (af (aH R (a+(2 * r+1)))):=ax (by omega) (by omega);have y2:(ay R)[0+(((a:Int)+(r:Int))).toNat * 1]?=some (af (aH R (a+r))):=ax (by omega) (by omega);have o2:=iw true (aH R (a+r)) (aH R (a+(2 * r+1)));by_cases hlt:aH R (a+r) < aH R (a+(2 * r+1))
   ·rw [decide_eq_true hlt] at o2;refine qq1 ?_;repeat' first|((with_reducible show RM.wpOp _ _ (.load _ _) _ _ _);refine RM.bC rfl rfl rfl gR ?_)|((with_reducible show RM.wpOp _ _ (.load _ _) _ _ _);refine RM.bC rfl rfl rfl gC ?_)|(refine ⟨_,_,.inl ⟨rfl,rfl⟩,o2,?_⟩)|((with_reducible show RM.wpOp _ _ (.load _ _) _ _ _);refine RM.bC rfl rfl rfl y1 ?_)|((with_reducible show RM.wpOp _ _ (.load _ _) _ _ _);refine RM.bC rfl rfl rfl y2 ?_)|((with_reducible show aG _ _ _ _ _ _);refine RM.e9 rfl rfl rfl rfl rfl rfl b1 ?_)|((with_reducible show aG _ _ _ _ _ _);refine RM.e9 rfl rfl rfl rfl rfl rfl b2 ?_)|refine u1 ?_|refine u2 ?_|fail
    exact ⟨(2 * r+1,sw R (a+r) (a+(2 * r+1))),⟨by dsimp only;omega,hpr.trans (PR.sw (by omega) ⟨by omega,by omega⟩ ⟨by omega,by omega⟩),hx.step hr (by omega) (by omega) (by omega) hmax (Int.le_of_lt hlt)⟩,(by dsimp only;omega),ah.to (l:=[(0,.aJ 0 v 0 N cc),(2,af (hi:Nat)),(3,af (a:Nat)),(8,af ((2 * r+1):Nat))]) (hp:=[aA (sw R (a+r) (a+(2 * r+1))) v]) 1 (by show _=[AB.cells (ay (sw R (a+r) (a+(2 * r+1)))) 1 v];rw [←e1];rfl) ⟨rfl,rfl,rfl,aE (by omega),trivial⟩ (qq6 _) rfl (av _ _)⟩
   ·rw [decide_eq_false hlt] at o2;have hz:=hQ R hpr (hx.done fun c h1 h2=>Int.le_trans (hmax c h1 h2) (by show aH R (a+(2 * r+1))≤aH R (a+r);omega));refine qq1 ?_;repeat' first|((with_reducible show RM.wpOp _ _ (.load _ _) _ _ _);refine RM.bC rfl rfl rfl gR ?_)|((with_reducible show RM.wpOp _ _ (.load _ _) _ _ _);refine RM.bC rfl rfl rfl gC ?_)|(refine ⟨_,_,.inl ⟨rfl,rfl⟩,o2,?_⟩)|((with_reducible show RM.wpOp _ _ (.load _ _) _ _ _);refine RM.bC rfl rfl rfl y1 ?_)|((with_reducible show RM.wpOp _ _ (.load _ _) _ _ _);refine RM.bC rfl rfl rfl y2 ?_)|((with_reducible show aG _ _ _ _ _ _);refine RM.e9 rfl rfl rfl rfl rfl rfl b1 ?_)|((with_reducible show aG _ _ _ _ _ _);refine RM.e9 rfl rfl rfl rfl rfl rfl b2 ?_)|refine u1 ?_|refine u2 ?_|fail
    exact hz
 ·have d1:decide ((hi:Int)≤2 * (r:Int)+1)=true:=decide_eq_true (by omega);have hz:=hQ R hpr (hx.done fun c h1 h2=>by omega);refine qq1 ?_;repeat' first|refine u1 ?_|refine u2 ?_|fail
  exact hz
