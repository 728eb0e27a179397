/-
  Contracts of the program's functions and of the document's. Lemmas alone; their conditions stand in them.
-/
import Derived.Test.YtlpmfgmldmdggaaGreatK11
open Go Go.RM
namespace Go.Proofs.YtlpmfgmldmdggaaGreat
set_option maxRecDepth 100000
def rR (rk:Int→Int) (S:List Int) (a b:Nat):Prop:=a=0∨∀ i,a≤i→i < b→rk (aH S (a - 1))≤rk (aH S i)
structure PQ (rk:Int→Int) (S0 S:List Int) (a b c d:Nat):Prop where
 pr:PR S0 S a b
 ac:a≤c
 cd:c≤d
 db:d≤b
 bl:b≤S0.length
 sl:Sd rk S a c
 sr:Sd rk S d b
 xl:∀ i j,a≤i→i < c→c≤j→j < b→rk (aH S i)≤rk (aH S j)
 xr:∀ i j,a≤i→i < d→d≤j→j < b→rk (aH S i)≤rk (aH S j)
 pre:rR rk S c d
theorem PQ.start {rk:Int→Int} {S0:List Int} {a b:Nat} (hab:a≤b) (hb:b≤S0.length) (hp:rR rk S0 a b):PQ rk S0 S0 a b a b :=
 ⟨PR.refl _ _ _,qq6 _,hab,qq6 _,hb,fun i j h1 h2 h3=>by omega,fun i j h1 h2 h3=>by omega,fun i j h1 h2=>by omega,fun i j h1 h2 h3 h4=>by omega,hp⟩
theorem rR.mix {rk:Int→Int} {S S':List Int} {a b:Nat} (h:rR rk S a b) (hp:PR S S' a b) (hb:b≤S.length):rR rk S' a b:=by
 rcases h with h|h
 ·exact .inl h
 ·by_cases h0:a=0
  ·exact .inl h0
  ·refine .inr fun i h1 h2=>?_;rw [hp.out (a - 1) (by omega)];exact hp.all hb (P:=fun x=>rk (aH S (a - 1))≤rk x) h i h1 h2
theorem PQ.mix {rk:Int→Int} {S0 S S':List Int} {a b c d:Nat} (h:PQ rk S0 S a b c d) (hp:PR S S' c d):PQ rk S0 S' a b c d:=by
 have hl:=h.pr.len;have h1:=h.ac;have h2:=h.cd;have h3:=h.db;have h4:=h.bl;refine ⟨h.pr.trans (hp.wide h1 h3),h1,h2,h3,h4,h.sl.keep hp (.inl (qq6 _)),h.sr.keep hp (.inr (qq6 _)),fun i j a1 a2 a3 a4=>?_,fun i j a1 a2 a3 a4=>?_,h.pre.mix hp (by omega)⟩
 ·by_cases hj:j < d
  ·exact hp.DW (rk:=rk) (c:=a) (d:=c) (by omega) (.inl (qq6 _)) (fun i j b1 b2 b3 b4=>h.xl i j b1 b2 b3 (by omega)) i j a1 a2 a3 hj
  ·rw [hp.out i (by omega),hp.out j (by omega)];exact h.xl i j a1 a2 a3 a4
 ·by_cases hi:c≤i
  ·exact hp.G7 (rk:=rk) (c:=d) (d:=b) (by omega) (.inr (qq6 _)) (fun i j b1 b2 b3 b4=>h.xr i j (by omega) b2 b3 b4) i j hi a2 a3 a4
  ·rw [hp.out i (by omega),hp.out j (by omega)];exact h.xr i j a1 a2 a3 a4
theorem PQ.fin {rk:Int→Int} {S0 S:List Int} {a b c d:Nat} (h:PQ rk S0 S a b c d) (hs:Sd rk S c d):Sd rk S a b:=by have h1:=h.ac;have h2:=h.cd;have h3:=h.db;exact (h.sl.glue hs (fun i j a1 a2 a3 a4=>h.xl i j a1 a2 a3 (by omega))).glue h.sr h.xr
theorem PQ.eqs {rk:Int→Int} {S0 S S':List Int} {a b c d m:Nat} {pv:Int} (h:PQ rk S0 S a b c d) (hl:Ee rk S S' c d m pv) (hc:c ≠ 0) (hpv:rk pv≤rk (aH S (c - 1))):PQ rk S0 S' a b m d:=by
 have h':=h.mix hl.pr;have h1:=h.ac;have h2:=h.cd;have h3:=h.db;have h4:=hl.am;have h5:=hl.mb;have hge:∀ q,c≤q→q < d→rk pv≤rk (aH S' q):=fun q a1 a2=>by have:=(h'.pre.resolve_left hc) q a1 a2;rw [hl.pr.out (c - 1) (by omega)] at this;omega
 refine ⟨h'.pr,by omega,h5,h3,h.bl,h'.sl.glue (fun i j a1 a2 a3=>?_) (fun i j a1 a2 a3 a4=>h'.xl i j a1 a2 a3 (by omega)),h'.sr,fun i j a1 a2 a3 a4=>?_,h'.xr,.inr fun i a1 a2=>?_⟩
 ·have e1:=hl.lo i a1 (by omega);have e2:=hge j (by omega) (by omega);omega
 ·by_cases hi:i < c
  ·exact h'.xl i j a1 hi (by omega) a4
  ·by_cases hj:j < d
   ·have e1:=hl.lo i (by omega) a2;have e2:=hge j (by omega) hj;omega
   ·exact h'.xr i j a1 (by omega) (by omega) a4
 ·have e1:=hl.lo (m - 1) (by omega) (by omega);have e2:=hge i (by omega) (by omega);omega
theorem PQ.left {rk:Int→Int} {S0 S S' T:List Int} {a b c d m:Nat} (h:PQ rk S0 S a b c d) (hq:ot rk S S' c d m) (hp:PR S' T c m) (hs:Sd rk T c m):PQ rk S0 T a b (m+1) d:=by
 have h1:=h.ac;have h2:=h.cd;have h3:=h.db;have h4:=hq.am;have h5:=hq.mb;have h6:=h.bl;have h7:=h.pr.len;have h8:=hq.pr.len;have h':=(h.mix hq.pr).mix (hp.wide (qq6 _) (by omega));have em:=hp.out m (by omega);have lo:∀ q,c≤q→q < m→rk (aH T q)≤rk (aH T m):=fun q a1 a2=>by rw [em];exact hp.all (by omega) (P:=fun x=>rk x≤rk (aH S' m)) hq.lo q a1 a2
 have hi:∀ q,m < q→q < d→rk (aH T m)≤rk (aH T q):=fun q a1 a2=>by rw [em,hp.out q (by omega)];exact hq.hi q a1 a2
 have s1:Sd rk T c (m+1):=hs.glue (fun i j a1 a2 a3=>by rw [show i=j by omega];exact Int.le_refl _) (fun i j a1 a2 a3 a4=>by rw [show j=m by omega];exact lo i a1 a2);refine ⟨h'.pr,by omega,h5,h3,h6,h'.sl.glue s1 (fun i j a1 a2 a3 a4=>h'.xl i j a1 a2 a3 (by omega)),h'.sr,fun i j a1 a2 a3 a4=>?_,h'.xr,.inr fun i a1 a2=>hi i (by omega) a2⟩;by_cases ic:i < c
 ·exact h'.xl i j a1 ic (by omega) a4
 ·by_cases hj:j < d
  ·have e2:=hi j (by omega) hj;by_cases im:i=m
   ·rw [im];exact e2
   ·have e1:=lo i (by omega) (by omega);omega
  ·exact h'.xr i j a1 (by omega) (by omega) a4
theorem PQ.right {rk:Int→Int} {S0 S S' T:List Int} {a b c d m:Nat} (h:PQ rk S0 S a b c d) (hq:ot rk S S' c d m) (hp:PR S' T (m+1) d) (hs:Sd rk T (m+1) d):PQ rk S0 T a b c m:=by
 have h1:=h.ac;have h2:=h.cd;have h3:=h.db;have h4:=hq.am;have h5:=hq.mb;have h6:=h.bl;have h7:=h.pr.len;have h8:=hq.pr.len;have h':=(h.mix hq.pr).mix (hp.wide (by omega) (qq6 _));have em:=hp.out m (by omega);have lo:∀ q,c≤q→q < m→rk (aH T q)≤rk (aH T m):=fun q a1 a2=>by rw [em,hp.out q (by omega)];exact hq.lo q a1 a2
 have hi:∀ q,m < q→q < d→rk (aH T m)≤rk (aH T q):=fun q a1 a2=>by rw [em];exact hp.all (by omega) (P:=fun x=>rk (aH S' m)≤rk x) (fun q a1 a2=>hq.hi q (by omega) a2) q (by omega) a2
 have s1:Sd rk T m d:=(show Sd rk T m (m+1) from fun i j a1 a2 a3=>by rw [show i=j by omega];exact Int.le_refl _).glue hs (fun i j a1 a2 a3 a4=>by rw [show i=m by omega];exact hi j (by omega) a4);refine ⟨h'.pr,h1,h4,by omega,h6,h'.sl,s1.glue h'.sr (fun i j a1 a2 a3 a4=>h'.xr i j (by omega) a2 a3 a4),h'.xl,fun i j a1 a2 a3 a4=>?_,?_⟩
 ·by_cases hj:j < d
  ·by_cases ic:i < c
   ·exact h'.xl i j a1 ic (by omega) a4
   ·have e1:=lo i (by omega) a2;by_cases jm:j=m
    ·rw [jm];exact e1
    ·have e2:=hi j (by omega) hj;omega
  ·exact h'.xr i j a1 (by omega) (by omega) a4
 ·rcases h'.pre with hp0|hp0
  ·exact .inl hp0
  ·exact .inr fun i a1 a2=>hp0 i a1 (by omega)
theorem PQ.MT {rk:Int→Int} {S0 S S':List Int} {a b c d m:Nat} (h:PQ rk S0 S a b c d) (hq:ot rk S S' c d m):rR rk S' c m:=by
 have h5:=hq.mb
 rcases (h.mix hq.pr).pre with hp0|hp0
 ·exact .inl hp0
 ·exact .inr fun i a1 a2=>hp0 i a1 (by omega)
theorem ot.MU {rk:Int→Int} {S S':List Int} {c d m:Nat} (hq:ot rk S S' c d m):rR rk S' (m+1) d :=
 .inr fun i a1 a2=>hq.hi i (by omega) a2
end Go.Proofs.YtlpmfgmldmdggaaGreat
open Go Go.RM
namespace Go.Proofs.YtlpmfgmldmdggaaGreat
set_option maxRecDepth 100000
set_option maxHeartbeats 4000000
abbrev CF:AV:=.fn 130 [] []
def Ah (S:List Int):Prop:=∀ x ∈ S,0≤x∧x < 32
theorem Ah.at {S:List Int} (h:Ah S) {i:Nat} (hi:i < S.length):0≤aH S i∧aH S i < 32:=h _ (DU hi)
theorem Ah.pr {S S':List Int} {a b:Nat} (h:Ah S) (hp:PR S S' a b):Ah S':=fun x hx=>h x (hp.perm.mem_iff.1 hx)
theorem MV (one:Bool) {x y:Int} (hx:0≤x∧x < 32) (hy:0≤y∧y < 32):ak TT TB one CF [af x,af y] (af (rP (bZ x) (bZ y))):=by obtain ⟨a,rfl⟩:∃ a:Nat,x=a:=⟨x.toNat,by omega⟩;obtain ⟨b,rfl⟩:∃ b:Nat,y=b:=⟨y.toNat,by omega⟩;exact K8 one a b (by omega) (by omega)
theorem rS (one:Bool) {x y:Int} (hx:0≤x∧x < 32) (hy:0≤y∧y < 32) (h:bZ x < bZ y):∃ z:Int,decide (z < 0)=true∧ak TT TB one CF [af x,af y] (af z) :=
 ⟨_,by unfold rP;rw [if_pos h];rfl,MV one hx hy⟩
theorem rT (one:Bool) {x y:Int} (hx:0≤x∧x < 32) (hy:0≤y∧y < 32) (h:¬bZ x < bZ y):∃ z:Int,decide (z < 0)=false∧ak TT TB one CF [af x,af y] (af z) :=
 ⟨_,by
  unfold rP;rw [if_neg h]
  split <;> rfl,MV one hx hy⟩
end Go.Proofs.YtlpmfgmldmdggaaGreat
open Go Go.RM
namespace Go.Proofs.YtlpmfgmldmdggaaGreat
set_option maxRecDepth 100000
set_option maxHeartbeats 4000000
theorem Lv (one:Bool) (S0:List Int) {a b N:Nat} (hN:S0.length=N) (hb:b≤N) (hab:a≤b) (h9:N≤1000) (hr:Ah S0) {v cc:Nat} {aF:bq} {Q:AV→List AB→bq→Prop} (hQ:∀ S:List Int,PR S0 S a b→Sd bZ S a b→Q (.tp []) [aA S v] aF) :
  au TT TB one (.fn 127 [] []) [.aJ 0 v 0 N cc,af (a:Nat),af (b:Nat),CF] [aA S0 v] aF Q:=by
 refine au.body (fn:=Tryz.f127) rfl rfl rfl ?_;refine qq1 ?_;repeat' first|refine u1 ?_|refine u2 ?_|fail
 refine aB.aO (ah.to (l:=[(0,.aJ 0 v 0 N cc),(1,af (a:Nat)),(2,af (b:Nat)),(3,CF),(8,af ((a+1):Nat))]) (hp:=[aA S0 v]) 1 rfl ⟨rfl,rfl,rfl,rfl,aE (by simp),trivial⟩ (qq6 _) rfl (av _ _)) ?_;refine aB.loop (fun x:Nat × List Int=>(a+1≤x.1∧(x.1≤b∨x.1=a+1))∧PR S0 x.2 a b∧Sd bZ x.2 a x.1) (fun x=>⟨aM [(0,.aJ 0 v 0 N cc),(1,af (a:Nat)),(2,af (b:Nat)),(3,CF),(8,af (x.1:Nat))],[aA x.2 v],aF,false,1⟩) (fun x=>N - x.1) ?_ (a+1,S0) ⟨⟨qq6 _,.inr rfl⟩,PR.refl _ _ _,fun i j h1 h2 h3=>by rw [show i=j by dsimp only at *;omega];exact Int.le_refl _⟩;rintro ⟨i,S⟩ ⟨⟨hi1,hi⟩,hpe,hso⟩;dsimp only at hi1 hi hso hpe;have hSl:S.length=N:=by rw [hpe.len,hN]
 show aB _ _ _ _ ⟨aM [(0,.aJ 0 v 0 N cc),(1,af (a:Nat)),(2,af (b:Nat)),(3,CF),(8,af (i:Nat))],[aA S v],aF,false,1⟩ _;by_cases hc:i < b
 ·have d0:decide ((i:Int) < (b:Int))=true:=decide_eq_true (by omega);refine qq1 ?_;repeat' first|refine u1 ?_|refine u2 ?_|fail
  refine aB.aO (ah.to (l:=[(0,.aJ 0 v 0 N cc),(1,af (a:Nat)),(2,af (b:Nat)),(3,CF),(8,af (i:Nat)),(9,af (i:Nat))]) (hp:=[aA S v]) 1 rfl ⟨rfl,rfl,rfl,rfl,rfl,rfl,trivial⟩ (qq6 _) rfl (av _ _)) ?_;refine aB.loop (fun x:Nat × List Int=>(a≤x.1∧x.1≤i)∧PR S0 x.2 a b∧Ff bZ x.2 a i x.1) (fun x=>⟨aM [(0,.aJ 0 v 0 N cc),(1,af (a:Nat)),(2,af (b:Nat)),(3,CF),(8,af (i:Nat)),(9,af (x.1:Nat))],[aA x.2 v],aF,false,1⟩) (fun x=>x.1) ?_ (i,S) ⟨⟨by dsimp only;omega,qq6 _⟩,hpe,Ff.start hso⟩;rintro ⟨j,R⟩ ⟨⟨hj1,hj⟩,hpr,hsi⟩;dsimp only at hj1 hj hsi hpr;have hRl:R.length=N:=by rw [hpr.len,hN]
  show aB _ _ _ _ ⟨aM [(0,.aJ 0 v 0 N cc),(1,af (a:Nat)),(2,af (b:Nat)),(3,CF),(8,af (i:Nat)),(9,af (j:Nat))],[aA R v],aF,false,1⟩ _;by_cases h0:a < j
  ·have d1:decide ((a:Int) < (j:Int))=true:=decide_eq_true (by omega);have g1:(ay R)[0+((j:Nat):Int).toNat * 1]?=some (af (aH R j)):=ax (by omega) (by omega);have g2:(ay R)[0+((j:Int) - 1).toNat * 1]?=some (af (aH R (j - 1))):=ax (by omega) (by omega);have hin:=hr.pr hpr;by_cases hl:bZ (aH R j) < bZ (aH R (j - 1))
   ·obtain ⟨z,dz,o1⟩:=rS one (hin.at (i:=j) (by omega)) (hin.at (i:=j - 1) (by omega)) hl;have b1:Nat.ble (0+((j:Nat):Int).toNat * 1+1) (ay R).length=true:=bS (k:=j) (by omega) (by omega);have b2:Nat.ble (0+((j:Int) - 1).toNat * 1+1) (aQ (ay R) [af (aH R (j - 1))] (0+((j:Nat):Int).toNat * 1)).length=true:=cH (i:=j) (j:=j - 1) (by omega) (by omega) (by omega) (by omega) _;have e1:=bp (R:=R) (i:=j) (j:=j - 1) (p:=0+((j:Nat):Int).toNat * 1) (q:=0+((j:Int) - 1).toNat * 1) (by omega) (by omega) (by omega) (by omega);refine qq1 ?_;repeat' first|(refine RM.c5 (c:=14) (l1:=[_,_,_,_,_,_,_,_,_,_,_,_,_,_]) (l2:=[_,_,_]) (by kernel_rfl) rfl rfl ?_)|((with_reducible refine qq3 ?_);refine ak.call o1 rfl rfl ?_)|((with_reducible show RM.wpOp _ _ (.load _ _) _ _ _);refine RM.bC rfl rfl rfl g1 ?_)|((with_reducible show RM.wpOp _ _ (.load _ _) _ _ _);refine RM.bC rfl rfl rfl g2 ?_)|((with_reducible show aG _ _ _ _ _ _);refine RM.e9 rfl rfl rfl rfl rfl rfl b1 ?_)|((with_reducible show aG _ _ _ _ _ _);refine RM.e9 rfl rfl rfl rfl rfl rfl b2 ?_)|refine u1 ?_|refine u2 ?_|fail
    exact ⟨(j - 1,sw R j (j - 1)),⟨⟨by dsimp only;omega,by dsimp only;omega⟩,hpr.trans (PR.sw (by omega) ⟨by omega,by omega⟩ ⟨by omega,by omega⟩),hsi.step ⟨h0,hj⟩ (by omega) hl⟩,(by dsimp only;omega),ah.to (l:=[(0,.aJ 0 v 0 N cc),(1,af (a:Nat)),(2,af (b:Nat)),(3,CF),(8,af (i:Nat)),(9,af ((j - 1):Nat))]) (hp:=[aA (sw R j (j - 1)) v]) 1 (by show _=[AB.cells (ay (sw R j (j - 1))) 1 v];rw [←e1];rfl) ⟨rfl,rfl,rfl,rfl,rfl,aE (by omega),trivial⟩ (qq6 _) rfl (av _ _)⟩
   ·obtain ⟨z,dz,o1⟩:=rT one (hin.at (i:=j) (by omega)) (hin.at (i:=j - 1) (by omega)) hl;refine qq1 ?_;repeat' first|(refine RM.c5 (c:=14) (l1:=[_,_,_,_,_,_,_,_,_,_,_,_,_,_]) (l2:=[_,_,_]) (by kernel_rfl) rfl rfl ?_)|((with_reducible refine qq3 ?_);refine ak.call o1 rfl rfl ?_)|((with_reducible show RM.wpOp _ _ (.load _ _) _ _ _);refine RM.bC rfl rfl rfl g1 ?_)|((with_reducible show RM.wpOp _ _ (.load _ _) _ _ _);refine RM.bC rfl rfl rfl g2 ?_)|refine u1 ?_|refine u2 ?_|fail
    exact ⟨(i+1,R),⟨⟨by dsimp only;omega,.inl (by dsimp only;omega)⟩,hpr,hsi.done (.inr (by show bZ (aH R (j - 1))≤bZ (aH R j);omega))⟩,(by dsimp only;omega),ah.to (l:=[(0,.aJ 0 v 0 N cc),(1,af (a:Nat)),(2,af (b:Nat)),(3,CF),(8,af ((i+1):Nat))]) (hp:=[aA R v]) 1 rfl ⟨rfl,rfl,rfl,rfl,aE (by simp),trivial⟩ (qq6 _) rfl (av _ _)⟩
  ·have d1:decide ((a:Int) < (j:Int))=false:=decide_eq_false (by omega);refine qq1 ?_;repeat' first|refine u1 ?_|(refine RM.c5 (c:=14) (l1:=[_,_,_,_,_,_,_,_,_,_,_,_,_,_]) (l2:=[_,_,_]) (by kernel_rfl) rfl rfl ?_)|refine u2 ?_|fail
   exact ⟨(i+1,R),⟨⟨by dsimp only;omega,.inl (by dsimp only;omega)⟩,hpr,hsi.done (.inl (by omega))⟩,(by dsimp only;omega),ah.to (l:=[(0,.aJ 0 v 0 N cc),(1,af (a:Nat)),(2,af (b:Nat)),(3,CF),(8,af ((i+1):Nat))]) (hp:=[aA R v]) 1 rfl ⟨rfl,rfl,rfl,rfl,aE (by simp),trivial⟩ (qq6 _) rfl (av _ _)⟩
 ·have d0:decide ((i:Int) < (b:Int))=false:=decide_eq_false (by omega);have hz:=hQ S hpe fun p q h1 h2 h3=>hso p q h1 h2 (by omega);refine qq1 ?_;repeat' first|refine u1 ?_|refine u2 ?_|fail
  exact hz
