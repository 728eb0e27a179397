/-
  Contracts of the program's functions and of the document's. Lemmas alone; their conditions stand in them.
-/
import Derived.Test.YtlpmfgmldmdggaaGreatK12
open Go Go.RM
namespace Go.Proofs.YtlpmfgmldmdggaaGreat
set_option maxRecDepth 100000
structure HY (rk:Int→Int) (S:List Int) (a lo hi r:Nat):Prop where
 Nw:∀ i c,lo≤i→i ≠ r→(c=2 * i+1∨c=2 * i+2)→c < hi→rk (aH S (a+c))≤rk (aH S (a+i))
 Od:∀ i c,lo≤i→(r=2 * i+1∨r=2 * i+2)→(c=2 * r+1∨c=2 * r+2)→c < hi→rk (aH S (a+c))≤rk (aH S (a+i))
def yG (rk:Int→Int) (S:List Int) (a lo hi:Nat):Prop:=∀ i c,lo≤i→(c=2 * i+1∨c=2 * i+2)→c < hi→rk (aH S (a+c))≤rk (aH S (a+i))
theorem HY.start {rk:Int→Int} {S:List Int} {a lo hi:Nat} (h:yG rk S a (lo+1) hi):HY rk S a lo hi lo :=
 ⟨fun i c h1 h2 h3 h4=>h i c (by omega) h3 h4,fun i c h1 h2 h3 h4=>by omega⟩
theorem HY.done {rk:Int→Int} {S:List Int} {a lo hi r:Nat} (h:HY rk S a lo hi r) (hr:∀ c,(c=2 * r+1∨c=2 * r+2)→c < hi→rk (aH S (a+c))≤rk (aH S (a+r))):yG rk S a lo hi:=fun i c h1 h2 h3=>by
 by_cases e:i=r
 ·rw [e];exact hr c (by omega) h3
 ·exact h.Nw i c h1 e h2 h3
theorem HY.step {rk:Int→Int} {S:List Int} {a lo hi r m:Nat} (h:HY rk S a lo hi r) (hlo:lo≤r) (hl:a+hi≤S.length) (hm:m=2 * r+1∨m=2 * r+2) (hmh:m < hi) (hmax:∀ c,(c=2 * r+1∨c=2 * r+2)→c < hi→rk (aH S (a+c))≤rk (aH S (a+m))) (hlt:rk (aH S (a+r))≤rk (aH S (a+m))):HY rk (sw S (a+r) (a+m)) a lo hi m:=by
 have g:=m5 (S:=S) (i:=a+r) (j:=a+m) (by omega) (by omega);constructor
 ·intro i c h1 h2 h3 h4;rw [g,g,if_neg (show ¬ a+i=a+m by omega)];by_cases hir:i=r
  ·rw [if_pos (show a+i=a+r by omega)];by_cases hcm:c=m
   ·rw [if_pos (by omega)];exact hlt
   ·rw [if_neg (by omega),if_neg (by omega)];exact hmax c (by omega) h4
  ·rw [if_neg (show ¬ a+i=a+r by omega),if_neg (show ¬ a+c=a+m by omega)];by_cases hcr:c=r
   ·rw [if_pos (by omega)];exact h.Od i m h1 (by omega) hm hmh
   ·rw [if_neg (by omega)];exact h.Nw i c h1 hir h3 h4
 ·intro i c h1 h2 h3 h4;have hir:i=r:=by omega
  rw [g,g,if_neg (by omega),if_neg (by omega),if_neg (by omega),if_pos (by omega)];exact h.Nw m c (by omega) (by omega) h3 h4
theorem yG.root {rk:Int→Int} {S:List Int} {a hi:Nat} (h:yG rk S a 0 hi):∀ n i,i≤n→i < hi→rk (aH S (a+i))≤rk (aH S (a+0))
 | 0,i,h1,_=>by rw [show i=0 by omega];exact Int.le_refl _
 | n+1,i,h1,h2=>by
  by_cases h0:i=0
  ·rw [h0];exact Int.le_refl _
  ·exact Int.le_trans (h ((i - 1) / 2) i (qq5 _) (by omega) h2) (yG.root h n ((i - 1) / 2) (by omega) (by omega))
structure FD (rk:Int→Int) (S0 S:List Int) (a b n:Nat):Prop where
 pr:PR S0 S a b
 heap:yG rk S a 0 n
 Jd:Sd rk S (a+n) b
 DW:∀ i j,a≤i→i < a+n→a+n≤j→j < b→rk (aH S i)≤rk (aH S j)
 nb:a+n≤b
theorem FD.swap {rk:Int→Int} {S0 S:List Int} {a b n:Nat} (hb:b≤S0.length) (h:FD rk S0 S a b (n+1)):PR S0 (sw S a (a+n)) a b∧yG rk (sw S a (a+n)) a 1 n∧Sd rk (sw S a (a+n)) (a+n) b∧∀ i j,a≤i→i < a+n→a+n≤j→j < b→rk (aH (sw S a (a+n)) i)≤rk (aH (sw S a (a+n)) j):=by
 have hl:=h.pr.len;have hnb:=h.nb;have g:=m5 (S:=S) (i:=a) (j:=a+n) (by omega) (by omega);have hroot:∀ i,i < n+1→rk (aH S (a+i))≤rk (aH S a):=fun i hi=>yG.root h.heap i i (qq6 _) hi;have hrest:∀ q,a+n < q→aH (sw S a (a+n)) q=aH S q:=fun q hq=>by rw [g,if_neg (by omega),if_neg (by omega)]
 have htop:aH (sw S a (a+n)) (a+n)=aH S a:=by rw [g,if_pos rfl]
 have hlow:∀ i,i < n→rk (aH (sw S a (a+n)) (a+i))≤rk (aH S a):=fun i hi=>by
  rw [g,if_neg (by omega)];by_cases h0:i=0
  ·rw [if_pos (by omega)];exact hroot n (by omega)
  ·rw [if_neg (by omega)];exact hroot i (by omega)
 refine ⟨h.pr.trans (PR.sw (by omega) ⟨by omega,by omega⟩ ⟨by omega,by omega⟩),fun i c h1 h2 h3=>?_,fun i j h1 h2 h3=>?_,fun i j h1 h2 h3 h4=>?_⟩
 ·rw [g,g,if_neg (by omega),if_neg (by omega),if_neg (by omega),if_neg (by omega)];exact h.heap i c (by omega) h2 (by omega)
 ·by_cases hi:i=a+n
  ·by_cases hj:j=a+n
   ·rw [hi,hj];exact Int.le_refl _
   ·rw [hi,htop,hrest j (by omega)];exact h.DW a j (by omega) (by omega) (by omega) h3
  ·rw [hrest i (by omega),hrest j (by omega)];exact h.Jd i j (by omega) h2 h3
 ·have e:i=a+(i - a):=by omega
  by_cases hj:j=a+n
  ·rw [hj,htop,e];exact hlow (i - a) (by omega)
  ·rw [hrest j (by omega),e];exact Int.le_trans (hlow (i - a) (by omega)) (h.DW a j (by omega) (by omega) (by omega) h4)
theorem FD.next {rk:Int→Int} {S0 S R:List Int} {a b n:Nat} (hb:b≤S0.length) (hnb:a+n≤b) (h1:PR S0 S a b) (h3:Sd rk S (a+n) b) (h4:∀ i j,a≤i→i < a+n→a+n≤j→j < b→rk (aH S i)≤rk (aH S j)) (hp:PR S R a (a+n)) (hh:yG rk R a 0 n):FD rk S0 R a b n:=by have hl:=h1.len;exact ⟨h1.trans (hp.wide (qq6 _) hnb),hh,h3.keep hp (.inr (qq6 _)),hp.G7 (by omega) (.inr (qq6 _)) h4,hnb⟩
theorem FD.zero {rk:Int→Int} {S0 S:List Int} {a b:Nat} (hab:a≤b) (hp:PR S0 S a b) (hh:yG rk S a 0 (b - a)):FD rk S0 S a b (b - a) :=
 ⟨hp,hh,fun i j h1 h2 h3=>by omega,fun i j h1 h2 h3 h4=>by omega,by omega⟩
theorem yG.leaves {rk:Int→Int} {S:List Int} {a lo hi:Nat} (h:hi≤2 * lo+1):yG rk S a lo hi:=fun i c h1 h2 h3=>by omega
end Go.Proofs.YtlpmfgmldmdggaaGreat
open Go Go.RM
namespace Go.Proofs.YtlpmfgmldmdggaaGreat
set_option maxRecDepth 100000
set_option maxHeartbeats 4000000
theorem HZ (one:Bool) (S0:List Int) {a lo hi N:Nat} (hN:S0.length=N) (hhi:a+hi≤N) (h9:N≤1000) (hin0:Ah S0) (hlo9:lo≤1000) (hpre:yG bZ S0 a (lo+1) hi) {v cc:Nat} {aF:bq} {Q:AV→List AB→bq→Prop} (hQ:∀ S:List Int,PR S0 S a (a+hi)→yG bZ S a lo hi→Q (.tp []) [aA S v] aF) :
  au TT TB one (.fn 159 [] []) [.aJ 0 v 0 N cc,af (lo:Nat),af (hi:Nat),af (a:Nat),CF] [aA S0 v] aF Q:=by
 refine au.body (fn:=Tryz.f159) rfl rfl rfl ?_;refine qq1 ?_;repeat' first|refine u1 ?_|refine u2 ?_|fail
 refine aB.aO (ah.to (l:=[(0,.aJ 0 v 0 N cc),(2,af (hi:Nat)),(3,af (a:Nat)),(4,CF),(10,af (lo:Nat))]) (hp:=[aA S0 v]) 1 rfl ⟨rfl,rfl,rfl,rfl,rfl,trivial⟩ (qq6 _) rfl (av _ _)) ?_;refine aB.loop (fun x:Nat × List Int=>(lo≤x.1∧x.1≤1000)∧PR S0 x.2 a (a+hi)∧HY bZ x.2 a lo hi x.1) (fun x=>⟨aM [(0,.aJ 0 v 0 N cc),(2,af (hi:Nat)),(3,af (a:Nat)),(4,CF),(10,af (x.1:Nat))],[aA x.2 v],aF,false,1⟩) (fun x=>5000 - x.1) ?_ (lo,S0) ⟨⟨qq6 _,hlo9⟩,PR.refl _ _ _,HY.start hpre⟩;rintro ⟨r,R⟩ ⟨⟨hr,hr9⟩,hpr,hx⟩;dsimp only at hr hr9 hpr hx;have hRl:R.length=N:=by rw [hpr.len,hN]
 have hin:=hin0.pr hpr;show aB _ _ _ _ ⟨aM [(0,.aJ 0 v 0 N cc),(2,af (hi:Nat)),(3,af (a:Nat)),(4,CF),(10,af (r:Nat))],[aA R v],aF,false,1⟩ _;by_cases hc:2 * r+1 < hi
 ·have d1:decide ((hi:Int)≤2 * (r:Int)+1)=false:=decide_eq_false (by omega);have gR:(ay R)[0+((a:Int)+(r:Int)).toNat * 1]?=some (af (aH R (a+r))):=ax (by omega) (by omega);have gC:(ay R)[0+((a:Int)+(2 * (r:Int)+1)).toNat * 1]?=some (af (aH R (a+(2 * r+1)))):=ax (by omega) (by omega);by_cases hd:2 * r+2 < hi
  ·have d2:decide (2 * (r:Int)+1+1 < (hi:Int))=true:=decide_eq_true (by omega);have gD:(ay R)[0+((a:Int)+(2 * (r:Int)+1)+1).toNat * 1]?=some (af (aH R (a+(2 * r+2)))):=ax (by omega) (by omega);by_cases hcd:bZ (aH R (a+(2 * r+1))) < bZ (aH R (a+(2 * r+2)))
   ·obtain ⟨z1,dz1,o1⟩:=rS one (hin.at (i:=a+(2 * r+1)) (by omega)) (hin.at (i:=a+(2 * r+2)) (by omega)) hcd
    have hmax:∀ c,(c=2 * r+1∨c=2 * r+2)→c < hi→bZ (aH R (a+c))≤bZ (aH R (a+(2 * r+2))):=fun c hc1 hc2=>by
     show bZ (aH R (a+c))≤bZ (aH R (a+(2 * r+2)))
     rcases hc1 with rfl|rfl
     ·omega
     ·omega
    have b1:Nat.ble (0+(((a:Int)+(r:Int))).toNat * 1+1) (ay R).length=true:=bS (k:=a+r) (by omega) (by omega);have b2:Nat.ble (0+(((a:Int)+(2 * (r:Int)+1+1))).toNat * 1+1) (aQ (ay R) [af (aH R (a+(2 * r+2)))] (0+(((a:Int)+(r:Int))).toNat * 1)).length=true:=cH (i:=a+r) (j:=a+(2 * r+2)) (by omega) (by omega) (by omega) (by omega) _;have e1:=bp (R:=R) (i:=a+r) (j:=a+(2 * r+2)) (p:=0+(((a:Int)+(r:Int))).toNat * 1) (q:=0+(((a:Int)+(2 * (r:Int)+1+1))).toNat * 1) (by omega) (by omega) (by omega) (by omega);have y1:(ay R)[0+(((a:Int)+(2 * (r:Int)+1+1))).toNat * 1]?=some (af (aH R (a+(2 * r+2)))):=ax (by omega) (by omega);have y2:(ay R)[0+(((a:Int)+(r:Int))).toNat * 1]?=some (af (aH R (a+r))):=ax (by omega) (by omega);by_cases hlt:bZ (aH R (a+r)) < bZ (aH R (a+(2 * r+2)))
    ·obtain ⟨z2,dz2,o2⟩:=rS one (hin.at (i:=a+r) (by omega)) (hin.at (i:=a+(2 * r+2)) (by omega)) hlt;have dn2:(!decide (z2 < 0))=false:=by rw [dz2];rfl
     refine qq1 ?_;repeat' first|(refine RM.c5 (c:=19) (l1:=[_,_,_,_,_,_,_,_,_,_,_,_,_,_,_,_,_,_,_]) (l2:=[_,_,_]) (by kernel_rfl) rfl rfl ?_)|(refine RM.c5 (c:=13) (l1:=[_,_,_,_,_,_,_,_,_,_,_,_,_]) (l2:=[_,_,_]) (by kernel_rfl) rfl rfl ?_)|((with_reducible refine qq3 ?_);refine ak.call o1 rfl rfl ?_)|((with_reducible show RM.wpOp _ _ (.load _ _) _ _ _);refine RM.bC rfl rfl rfl gR ?_)|((with_reducible show RM.wpOp _ _ (.load _ _) _ _ _);refine RM.bC rfl rfl rfl gC ?_)|((with_reducible show RM.wpOp _ _ (.load _ _) _ _ _);refine RM.bC rfl rfl rfl gD ?_)|((with_reducible refine qq3 ?_);refine ak.call o2 rfl rfl ?_)|((with_reducible show RM.wpOp _ _ (.load _ _) _ _ _);refine RM.bC rfl rfl rfl y1 ?_)|((with_reducible show RM.wpOp _ _ (.load _ _) _ _ _);refine RM.bC rfl rfl rfl y2 ?_)|((with_reducible show aG _ _ _ _ _ _);refine RM.e9 rfl rfl rfl rfl rfl rfl b1 ?_)|((with_reducible show aG _ _ _ _ _ _);refine RM.e9 rfl rfl rfl rfl rfl rfl b2 ?_)|refine u1 ?_|refine u2 ?_|fail
     exact ⟨(2 * r+2,sw R (a+r) (a+(2 * r+2))),⟨by dsimp only;omega,hpr.trans (PR.sw (by omega) ⟨by omega,by omega⟩ ⟨by omega,by omega⟩),hx.step hr (by omega) (by omega) (by omega) hmax (Int.le_of_lt hlt)⟩,(by dsimp only;omega),ah.to (l:=[(0,.aJ 0 v 0 N cc),(2,af (hi:Nat)),(3,af (a:Nat)),(4,CF),(10,af ((2 * r+2):Nat))]) (hp:=[aA (sw R (a+r) (a+(2 * r+2))) v]) 1 (by show _=[AB.cells (ay (sw R (a+r) (a+(2 * r+2)))) 1 v];rw [←e1];rfl) ⟨rfl,rfl,rfl,rfl,aE (by omega),trivial⟩ (qq6 _) rfl (av _ _)⟩
    ·obtain ⟨z2,dz2,o2⟩:=rT one (hin.at (i:=a+r) (by omega)) (hin.at (i:=a+(2 * r+2)) (by omega)) hlt;have dn2:(!decide (z2 < 0))=true:=by rw [dz2];rfl
     have hz:=hQ R hpr (hx.done fun c h1 h2=>Int.le_trans (hmax c h1 h2) (by show bZ (aH R (a+(2 * r+2)))≤bZ (aH R (a+r));omega));refine qq1 ?_;repeat' first|(refine RM.c5 (c:=19) (l1:=[_,_,_,_,_,_,_,_,_,_,_,_,_,_,_,_,_,_,_]) (l2:=[_,_,_]) (by kernel_rfl) rfl rfl ?_)|(refine RM.c5 (c:=13) (l1:=[_,_,_,_,_,_,_,_,_,_,_,_,_]) (l2:=[_,_,_]) (by kernel_rfl) rfl rfl ?_)|((with_reducible refine qq3 ?_);refine ak.call o1 rfl rfl ?_)|((with_reducible show RM.wpOp _ _ (.load _ _) _ _ _);refine RM.bC rfl rfl rfl gR ?_)|((with_reducible show RM.wpOp _ _ (.load _ _) _ _ _);refine RM.bC rfl rfl rfl gC ?_)|((with_reducible show RM.wpOp _ _ (.load _ _) _ _ _);refine RM.bC rfl rfl rfl gD ?_)|((with_reducible refine qq3 ?_);refine ak.call o2 rfl rfl ?_)|((with_reducible show RM.wpOp _ _ (.load _ _) _ _ _);refine RM.bC rfl rfl rfl y1 ?_)|((with_reducible show RM.wpOp _ _ (.load _ _) _ _ _);refine RM.bC rfl rfl rfl y2 ?_)|((with_reducible show aG _ _ _ _ _ _);refine RM.e9 rfl rfl rfl rfl rfl rfl b1 ?_)|((with_reducible show aG _ _ _ _ _ _);refine RM.e9 rfl rfl rfl rfl rfl rfl b2 ?_)|refine u1 ?_|refine u2 ?_|fail
     exact hz
   ·obtain ⟨z1,dz1,o1⟩:=rT one (hin.at (i:=a+(2 * r+1)) (by omega)) (hin.at (i:=a+(2 * r+2)) (by omega)) hcd
    have hmax:∀ c,(c=2 * r+1∨c=2 * r+2)→c < hi→bZ (aH R (a+c))≤bZ (aH R (a+(2 * r+1))):=fun c hc1 hc2=>by
     show bZ (aH R (a+c))≤bZ (aH R (a+(2 * r+1)))
     rcases hc1 with rfl|rfl
     ·omega
     ·omega
    have b1:Nat.ble (0+(((a:Int)+(r:Int))).toNat * 1+1) (ay R).length=true:=bS (k:=a+r) (by omega) (by omega);have b2:Nat.ble (0+(((a:Int)+(2 * (r:Int)+1))).toNat * 1+1) (aQ (ay R) [af (aH R (a+(2 * r+1)))] (0+(((a:Int)+(r:Int))).toNat * 1)).length=true:=cH (i:=a+r) (j:=a+(2 * r+1)) (by omega) (by omega) (by omega) (by omega) _;have e1:=bp (R:=R) (i:=a+r) (j:=a+(2 * r+1)) (p:=0+(((a:Int)+(r:Int))).toNat * 1) (q:=0+(((a:Int)+(2 * (r:Int)+1))).toNat * 1) (by omega) (by omega) (by omega) (by omega);have y1:(ay R)[0+(((a:Int)+(2 * (r:Int)+1))).toNat * 1]?=some (af (aH R (a+(2 * r+1)))):=ax (by omega) (by omega);have y2:(ay R)[0+(((a:Int)+(r:Int))).toNat * 1]?=some (af (aH R (a+r))):=ax (by omega) (by omega);by_cases hlt:bZ (aH R (a+r)) < bZ (aH R (a+(2 * r+1)))
    ·obtain ⟨z2,dz2,o2⟩:=rS one (hin.at (i:=a+r) (by omega)) (hin.at (i:=a+(2 * r+1)) (by omega)) hlt;have dn2:(!decide (z2 < 0))=false:=by rw [dz2];rfl
     refine qq1 ?_;repeat' first|(refine RM.c5 (c:=19) (l1:=[_,_,_,_,_,_,_,_,_,_,_,_,_,_,_,_,_,_,_]) (l2:=[_,_,_]) (by kernel_rfl) rfl rfl ?_)|(refine RM.c5 (c:=13) (l1:=[_,_,_,_,_,_,_,_,_,_,_,_,_]) (l2:=[_,_,_]) (by kernel_rfl) rfl rfl ?_)|((with_reducible refine qq3 ?_);refine ak.call o1 rfl rfl ?_)|((with_reducible show RM.wpOp _ _ (.load _ _) _ _ _);refine RM.bC rfl rfl rfl gR ?_)|((with_reducible show RM.wpOp _ _ (.load _ _) _ _ _);refine RM.bC rfl rfl rfl gC ?_)|((with_reducible show RM.wpOp _ _ (.load _ _) _ _ _);refine RM.bC rfl rfl rfl gD ?_)|((with_reducible refine qq3 ?_);refine ak.call o2 rfl rfl ?_)|((with_reducible show RM.wpOp _ _ (.load _ _) _ _ _);refine RM.bC rfl rfl rfl y1 ?_)|((with_reducible show RM.wpOp _ _ (.load _ _) _ _ _);refine RM.bC rfl rfl rfl y2 ?_)|((with_reducible show aG _ _ _ _ _ _);refine RM.e9 rfl rfl rfl rfl rfl rfl b1 ?_)|((with_reducible show aG _ _ _ _ _ _);refine RM.e9 rfl rfl rfl rfl rfl rfl b2 ?_)|refine u1 ?_|refine u2 ?_|fail
     exact ⟨(2 * r+1,sw R (a+r) (a+(2 * r+1))),⟨by dsimp only;omega,hpr.trans (PR.sw (by omega) ⟨by omega,by omega⟩ ⟨by omega,by omega⟩),hx.step hr (by omega) (by omega) (by omega) hmax (Int.le_of_lt hlt)⟩,(by dsimp only;omega),ah.to (l:=[(0,.aJ 0 v 0 N cc),(2,af (hi:Nat)),(3,af (a:Nat)),(4,CF),(10,af ((2 * r+1):Nat))]) (hp:=[aA (sw R (a+r) (a+(2 * r+1))) v]) 1 (by show _=[AB.cells (ay (sw R (a+r) (a+(2 * r+1)))) 1 v];rw [←e1];rfl) ⟨rfl,rfl,rfl,rfl,aE (by omega),trivial⟩ (qq6 _) rfl (av _ _)⟩
    ·obtain ⟨z2,dz2,o2⟩:=rT one (hin.at (i:=a+r) (by omega)) (hin.at (i:=a+(2 * r+1)) (by omega)) hlt;have dn2:(!decide (z2 < 0))=true:=by rw [dz2];rfl
     have hz:=hQ R hpr (hx.done fun c h1 h2=>Int.le_trans (hmax c h1 h2) (by show bZ (aH R (a+(2 * r+1)))≤bZ (aH R (a+r));omega));refine qq1 ?_;repeat' first|(refine RM.c5 (c:=19) (l1:=[_,_,_,_,_,_,_,_,_,_,_,_,_,_,_,_,_,_,_]) (l2:=[_,_,_]) (by kernel_rfl) rfl rfl ?_)|(refine RM.c5 (c:=13) (l1:=[_,_,_,_,_,_,_,_,_,_,_,_,_]) (l2:=[_,_,_]) (by kernel_rfl) rfl rfl ?_)|((with_reducible refine qq3 ?_);refine ak.call o1 rfl rfl ?_)|((with_reducible show RM.wpOp _ _ (.load _ _) _ _ _);refine RM.bC rfl rfl rfl gR ?_)|((with_reducible show RM.wpOp _ _ (.load _ _) _ _ _);refine RM.bC rfl rfl rfl gC ?_)|((with_reducible show RM.wpOp _ _ (.load _ _) _ _ _);refine RM.bC rfl rfl rfl gD ?_)|((with_reducible refine qq3 ?_);refine ak.call o2 rfl rfl ?_)|((with_reducible show RM.wpOp _ _ (.load _ _) _ _ _);refine RM.bC rfl rfl rfl y1 ?_)|((with_reducible show RM.wpOp _ _ (.load _ _) _ _ _);refine RM.bC rfl rfl rfl y2 ?_)|((with_reducible show aG _ _ _ _ _ _);refine RM.e9 rfl rfl rfl rfl rfl rfl b1 ?_)|((with_reducible show aG _ _ _ _ _ _);refine RM.e9 rfl rfl rfl rfl rfl rfl b2 ?_)|refine u1 ?_|refine u2 ?_|fail
     exact hz
  ·have d2:decide (2 * (r:Int)+1+1 < (hi:Int))=false:=decide_eq_false (by omega)
   have hmax:∀ c,(c=2 * r+1∨c=2 * r+2)→c < hi→bZ (aH R (a+c))≤bZ (aH R (a+(2 * r+1))):=fun c hc1 hc2=>by
    show bZ (aH R (a+c))≤bZ (aH R (a+(2 * r+1)))
    rcases hc1 with rfl|rfl
    ·omega
    ·omega
   have b1:Nat.ble (0+(((a:Int)+(r:Int))).toNat * 1+1) (ay R).length=true:=bS (k:=a+r) (by omega) (by omega);have b2:Nat.ble (0+(((a:Int)+(2 * (r:Int)+1))).toNat * 1+1) (aQ (ay R) [af (aH R (a+(2 * r+1)))] (0+(((a:Int)+(r:Int))).toNat * 1)).length=true:=cH (i:=a+r) (j:=a+(2 * r+1)) (by omega) (by omega) (by omega) (by omega) _;have e1:=bp (R:=R) (i:=a+r) (j:=a+(2 * r+1)) (p:=0+(((a:Int)+(r:Int))).toNat * 1) (q:=0+(((a:Int)+(2 * (r:Int)+1))).toNat * 1) (by omega) (by omega) (by omega) (by omega);have y1:(ay R)[0+(((a:Int)+(2 * (r:Int)+1))).toNat * 1]?=some (af (aH R (a+(2 * r+1)))):=ax (by omega) (by omega);have y2:(ay R)[0+(((a:Int)+(r:Int))).toNat * 1]?=some (af (aH R (a+r))):=ax (by omega) (by omega);by_cases hlt:bZ (aH R (a+r)) < bZ (aH R (a+(2 * r+1)))
   ·obtain ⟨z2,dz2,o2⟩:=rS one (hin.at (i:=a+r) (by omega)) (hin.at (i:=a+(2 * r+1)) (by omega)) hlt;have dn2:(!decide (z2 < 0))=false:=by rw [dz2];rfl
    refine qq1 ?_;repeat' first|(refine RM.c5 (c:=19) (l1:=[_,_,_,_,_,_,_,_,_,_,_,_,_,_,_,_,_,_,_]) (l2:=[_,_,_]) (by kernel_rfl) rfl rfl ?_)|(refine RM.c5 (c:=13) (l1:=[_,_,_,_,_,_,_,_,_,_,_,_,_]) (l2:=[_,_,_]) (by kernel_rfl) rfl rfl ?_)|((with_reducible show RM.wpOp _ _ (.load _ _) _ _ _);refine RM.bC rfl rfl rfl gR ?_)|((with_reducible show RM.wpOp _ _ (.load _ _) _ _ _);refine RM.bC rfl rfl rfl gC ?_)|((with_reducible refine qq3 ?_);refine ak.call o2 rfl rfl ?_)|((with_reducible show RM.wpOp _ _ (.load _ _) _ _ _);refine RM.bC rfl rfl rfl y1 ?_)|((with_reducible show RM.wpOp _ _ (.load _ _) _ _ _);refine RM.bC rfl rfl rfl y2 ?_)|((with_reducible show aG _ _ _ _ _ _);refine RM.e9 rfl rfl rfl rfl rfl rfl b1 ?_)|((with_reducible show aG _ _ _ _ _ _);refine RM.e9 rfl rfl rfl rfl rfl rfl b2 ?_)|refine u1 ?_|refine u2 ?_|fail
    exact ⟨(2 * r+1,sw R (a+r) (a+(2 * r+1))),⟨by dsimp only;omega,hpr.trans (PR.sw (by omega) ⟨by omega,by omega⟩ ⟨by omega,by omega⟩),hx.step hr (by omega) (by omega) (by omega) hmax (Int.le_of_lt hlt)⟩,(by dsimp only;omega),ah.to (l:=[(0,.aJ 0 v 0 N cc),(2,af (hi:Nat)),(3,af (a:Nat)),(4,CF),(10,af ((2 * r+1):Nat))]) (hp:=[aA (sw R (a+r) (a+(2 * r+1))) v]) 1 (by show _=[AB.cells (ay (sw R (a+r) (a+(2 * r+1)))) 1 v];rw [←e1];rfl) ⟨rfl,rfl,rfl,rfl,aE (by omega),trivial⟩ (qq6 _) rfl (av _ _)⟩
   ·obtain ⟨z2,dz2,o2⟩:=rT one (hin.at (i:=a+r) (by omega)) (hin.at (i:=a+(2 * r+1)) (by omega)) hlt;have dn2:(!decide (z2 < 0))=true:=by rw [dz2];rfl
    have hz:=hQ R hpr (hx.done fun c h1 h2=>Int.le_trans (hmax c h1 h2) (by show bZ (aH R (a+(2 * r+1)))≤bZ (aH R (a+r));omega));refine qq1 ?_;repeat' first|(refine RM.c5 (c:=19) (l1:=[_,_,_,_,_,_,_,_,_,_,_,_,_,_,_,_,_,_,_]) (l2:=[_,_,_]) (by kernel_rfl) rfl rfl ?_)|(refine RM.c5 (c:=13) (l1:=[_,_,_,_,_,_,_,_,_,_,_,_,_]) (l2:=[_,_,_]) (by kernel_rfl) rfl rfl ?_)|((with_reducible show RM.wpOp _ _ (.load _ _) _ _ _);refine RM.bC rfl rfl rfl gR ?_)|((with_reducible show RM.wpOp _ _ (.load _ _) _ _ _);refine RM.bC rfl rfl rfl gC ?_)|((with_reducible refine qq3 ?_);refine ak.call o2 rfl rfl ?_)|((with_reducible show RM.wpOp _ _ (.load _ _) _ _ _);refine RM.bC rfl rfl rfl y1 ?_)|((with_reducible show RM.wpOp _ _ (.load _ _) _ _ _);refine RM.bC rfl rfl rfl y2 ?_)|((with_reducible show aG _ _ _ _ _ _);refine RM.e9 rfl rfl rfl rfl rfl rfl b1 ?_)|((with_reducible show aG _ _ _ _ _ _);refine RM.e9 rfl rfl rfl rfl rfl rfl b2 ?_)|refine u1 ?_|refine u2 ?_|fail
    exact hz
 ·have d1:decide ((hi:Int)≤2 * (r:Int)+1)=true:=decide_eq_true (by omega);have hz:=hQ R hpr (hx.done fun c h1 h2=>by omega);refine qq1 ?_;repeat' first|refine u1 ?_|refine u2 ?_|fail
  exact hz
end Go.Proofs.YtlpmfgmldmdggaaGreat
open Go Go.RM
namespace Go.Proofs.YtlpmfgmldmdggaaGreat
set_option maxRecDepth 100000
set_option maxHeartbeats 4000000
theorem JG (one:Bool) (S0:List Int) {a b N:Nat} (hN:S0.length=N) (hb:b≤N) (hab:a < b) (h9:N≤1000) (hin0:Ah S0) {v cc:Nat} {aF:bq} {Q:AV→List AB→bq→Prop} (hQ:∀ S:List Int,PR S0 S a b→Sd bZ S a b→Q (.tp []) [aA S v] aF) :
  au TT TB one (.fn 151 [] []) [.aJ 0 v 0 N cc,af (a:Nat),af (b:Nat),CF] [aA S0 v] aF Q:=by
 refine au.body (fn:=Tryz.f151) rfl rfl rfl ?_;have hba:((b - a:Nat):Int)=(b:Int) - (a:Int):=by omega
 obtain ⟨q,hq⟩:∃ q:Nat,(q:Int)=((b:Int) - (a:Int) - 1) / 2:=⟨(((b:Int) - (a:Int) - 1) / 2).toNat,Int.toNat_of_nonneg (by omega)⟩;refine qq1 ?_;repeat' first|refine u1 ?_|refine u2 ?_|fail
 refine aB.aO (ah.to (l:=[(0,.aJ 0 v 0 N cc),(3,CF),(8,af (a:Nat)),(9,af 0),(10,af ((b - a:Nat):Int)),(11,af (((q+1:Nat):Nat) - 1))]) (hp:=[aA S0 v]) 1 rfl ⟨rfl,rfl,rfl,rfl,aE hba.symm,aE (by omega),trivial⟩ (qq6 _) rfl (av _ _)) ?_;refine aB.loop (fun x:Nat × List Int=>x.1≤N∧PR S0 x.2 a b∧yG bZ x.2 a x.1 (b - a)) (fun x=>⟨aM [(0,.aJ 0 v 0 N cc),(3,CF),(8,af (a:Nat)),(9,af 0),(10,af ((b - a:Nat):Int)),(11,af ((x.1:Nat) - 1))],[aA x.2 v],aF,false,1⟩) (fun x=>x.1) ?_ (q+1,S0) ⟨by dsimp only;omega,PR.refl _ _ _,yG.leaves (by dsimp only;omega)⟩;rintro ⟨n,R⟩ ⟨hn9,hpr,hh⟩;dsimp only at hn9 hpr hh;have hRl:R.length=N:=by rw [hpr.len,hN]
 show aB _ _ _ _ ⟨aM [(0,.aJ 0 v 0 N cc),(3,CF),(8,af (a:Nat)),(9,af 0),(10,af ((b - a:Nat):Int)),(11,af ((n:Nat) - 1))],[aA R v],aF,false,1⟩ _;by_cases hn:1≤n
 ·have d1:decide ((0:Int)≤(n:Int) - 1)=true:=decide_eq_true (by omega);refine qq1 ?_;repeat' first|refine u1 ?_|refine u2 ?_|fail
  rw [show (n:Int) - 1=((n - 1:Nat):Int) by omega];refine HZ one R (lo:=n - 1) hRl (by omega) h9 (hin0.pr hpr) (by omega) (by rw [show n - 1+1=n by omega];exact hh) (fun S hp hs=>?_);repeat' first|refine u1 ?_|refine u2 ?_|fail
  exact ⟨(n - 1,S),⟨by dsimp only;omega,hpr.trans (hp.wide (qq6 _) (by omega)),hs⟩,(by dsimp only;omega),ah.to (l:=[(0,.aJ 0 v 0 N cc),(3,CF),(8,af (a:Nat)),(9,af 0),(10,af ((b - a:Nat):Int)),(11,af (((n - 1:Nat):Nat) - 1))]) (hp:=[aA S v]) 1 rfl ⟨rfl,rfl,rfl,rfl,rfl,rfl,trivial⟩ (qq6 _) rfl (av _ _)⟩
 ·have d1:decide ((0:Int)≤(n:Int) - 1)=false:=decide_eq_false (by omega);have hn0:n=0:=by omega
  subst hn0;have hst:=FD.zero (Nat.le_of_lt hab) hpr hh;refine qq1 ?_;repeat' first|refine u1 ?_|refine u2 ?_|fail
  refine aB.aO (ah.to (l:=[(0,.aJ 0 v 0 N cc),(3,CF),(8,af (a:Nat)),(9,af 0),(10,af ((b - a:Nat):Int)),(12,af (((b - a:Nat):Nat) - 1))]) (hp:=[aA R v]) 1 rfl ⟨rfl,rfl,rfl,rfl,rfl,rfl,trivial⟩ (qq6 _) rfl (av _ _)) ?_;refine aB.loop (fun x:Nat × List Int=>FD bZ S0 x.2 a b x.1) (fun x=>⟨aM [(0,.aJ 0 v 0 N cc),(3,CF),(8,af (a:Nat)),(9,af 0),(10,af ((b - a:Nat):Int)),(12,af ((x.1:Nat) - 1))],[aA x.2 v],aF,false,1⟩) (fun x=>x.1) ?_ (b - a,R) hst;clear hst hh hpr hRl;rintro ⟨m,R⟩ hps;dsimp only at hps;have hRl:R.length=N:=by rw [hps.pr.len,hN]
  have hmb:=hps.nb;show aB _ _ _ _ ⟨aM [(0,.aJ 0 v 0 N cc),(3,CF),(8,af (a:Nat)),(9,af 0),(10,af ((b - a:Nat):Int)),(12,af ((m:Nat) - 1))],[aA R v],aF,false,1⟩ _;by_cases hm:1≤m
  ·have d2:decide ((0:Int)≤(m:Int) - 1)=true:=decide_eq_true (by omega);obtain ⟨n,rfl⟩:∃ n,m=n+1:=⟨m - 1,by omega⟩;obtain ⟨s1,s2,s3,s4⟩:=hps.swap (by omega);have hsl:=C3 R a (a+n);have b1:Nat.ble (0+(((a:Nat):Int)).toNat * 1+1) (ay R).length=true:=bS (k:=a) (by omega) (by omega);have b2:Nat.ble (0+(((a:Int)+(((n+1:Nat):Int) - 1))).toNat * 1+1) (aQ (ay R) [af (aH R (a+n))] (0+(((a:Nat):Int)).toNat * 1)).length=true:=cH (i:=a) (j:=a+n) (by omega) (by omega) (by omega) (by omega) _;have e1:=bp (R:=R) (i:=a) (j:=a+n) (p:=0+(((a:Nat):Int)).toNat * 1) (q:=0+(((a:Int)+(((n+1:Nat):Int) - 1))).toNat * 1) (by omega) (by omega) (by omega) (by omega);have y1:(ay R)[0+(((a:Int)+(((n+1:Nat):Int) - 1))).toNat * 1]?=some (af (aH R (a+n))):=ax (by omega) (by omega);have y2:(ay R)[0+(((a:Nat):Int)).toNat * 1]?=some (af (aH R (a))):=ax (by omega) (by omega);refine qq1 ?_;repeat' first|((with_reducible show RM.wpOp _ _ (.load _ _) _ _ _);refine RM.bC rfl rfl rfl y1 ?_)|((with_reducible show RM.wpOp _ _ (.load _ _) _ _ _);refine RM.bC rfl rfl rfl y2 ?_)|((with_reducible show aG _ _ _ _ _ _);refine RM.e9 rfl rfl rfl rfl rfl rfl b1 ?_)|((with_reducible show aG _ _ _ _ _ _);refine RM.e9 rfl rfl rfl rfl rfl rfl b2 ?_)|refine u1 ?_|refine u2 ?_|fail
   rw [show ((n+1:Nat):Int) - 1=((n:Nat):Int) by omega];have e2:=bp (R:=R) (i:=a) (j:=a+n) (p:=0+((a:Nat):Int).toNat * 1) (q:=0+((a:Int)+(n:Int)).toNat * 1) (by omega) (by omega) (by omega) (by omega);show au _ _ _ _ _ [AB.cells (aQ (aQ (ay R) [af (aH R (a+n))] (0+((a:Nat):Int).toNat * 1)) [af (aH R a)] (0+((a:Int)+(n:Int)).toNat * 1)) 1 v] _ _;rw [e2];refine HZ one (sw R a (a+n)) (lo:=0) (hi:=n) (by omega) (by omega) h9 ((hin0.pr hps.pr).pr (a:=0) (b:=N) (PR.sw (by omega) ⟨by omega,by omega⟩ ⟨by omega,by omega⟩)) (by omega) s2 (fun S hp hs=>?_);repeat' first|refine u1 ?_|refine u2 ?_|fail
   exact ⟨(n,S),FD.next (by omega) (by omega) s1 s3 s4 hp hs,(by dsimp only;omega),ah.to (l:=[(0,.aJ 0 v 0 N cc),(3,CF),(8,af (a:Nat)),(9,af 0),(10,af ((b - a:Nat):Int)),(12,af ((n:Nat) - 1))]) (hp:=[aA S v]) 1 rfl ⟨rfl,rfl,rfl,rfl,rfl,aE (by omega),trivial⟩ (qq6 _) rfl (av _ _)⟩
  ·have d2:decide ((0:Int)≤(m:Int) - 1)=false:=decide_eq_false (by omega);have hm0:m=0:=by omega
   subst hm0;have hz:=hQ R hps.pr (by have:=hps.Jd;rwa [Nat.add_zero] at this);refine qq1 ?_;repeat' first|refine u1 ?_|refine u2 ?_|fail
   exact hz
