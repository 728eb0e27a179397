/-
  Contracts of the program's functions and of the document's. Lemmas alone; their conditions stand in them.
-/
import Derived.Test.YtlpmfgmldmdggaaGreatK8
open Go Go.RM
namespace Go.Proofs.YtlpmfgmldmdggaaGreat
set_option maxRecDepth 100000
def rX (rk:Int→Int) (S:List Int) (a b:Nat):Prop:=a=0∨∀ i,a≤i→i < b→rk (aG S (a - 1))≤rk (aG S i)
structure PQ (rk:Int→Int) (S0 S:List Int) (a b c d:Nat):Prop where
 pr:PR S0 S a b
 ac:a≤c
 cd:c≤d
 db:d≤b
 bl:b≤S0.length
 sl:Sd rk S a c
 sr:Sd rk S d b
 xl:∀ i j,a≤i→i < c→c≤j→j < b→rk (aG S i)≤rk (aG S j)
 xr:∀ i j,a≤i→i < d→d≤j→j < b→rk (aG S i)≤rk (aG S j)
 pre:rX rk S c d
theorem PQ.start {rk:Int→Int} {S0:List Int} {a b:Nat} (hab:a≤b) (hb:b≤S0.length) (hp:rX rk S0 a b):PQ rk S0 S0 a b a b :=
 ⟨PR.refl _ _ _,qq6 _,hab,qq6 _,hb,fun i j h1 h2 h3=>by omega,fun i j h1 h2 h3=>by omega,fun i j h1 h2=>by omega,fun i j h1 h2 h3 h4=>by omega,hp⟩
theorem rX.mix {rk:Int→Int} {S S':List Int} {a b:Nat} (h:rX rk S a b) (hp:PR S S' a b) (hb:b≤S.length):rX rk S' a b:=by
 rcases h with h|h
 ·exact .inl h
 ·by_cases h0:a=0
  ·exact .inl h0
  ·refine .inr fun i h1 h2=>?_;rw [hp.out (a - 1) (by omega)];exact hp.all hb (P:=fun x=>rk (aG S (a - 1))≤rk x) h i h1 h2
theorem PQ.mix {rk:Int→Int} {S0 S S':List Int} {a b c d:Nat} (h:PQ rk S0 S a b c d) (hp:PR S S' c d):PQ rk S0 S' a b c d:=by
 have hl:=h.pr.len;have h1:=h.ac;have h2:=h.cd;have h3:=h.db;have h4:=h.bl;refine ⟨h.pr.trans (hp.wide h1 h3),h1,h2,h3,h4,h.sl.keep hp (.inl (qq6 _)),h.sr.keep hp (.inr (qq6 _)),fun i j a1 a2 a3 a4=>?_,fun i j a1 a2 a3 a4=>?_,h.pre.mix hp (by omega)⟩
 ·by_cases hj:j < d
  ·exact hp.DG (rk:=rk) (c:=a) (d:=c) (by omega) (.inl (qq6 _)) (fun i j b1 b2 b3 b4=>h.xl i j b1 b2 b3 (by omega)) i j a1 a2 a3 hj
  ·rw [hp.out i (by omega),hp.out j (by omega)];exact h.xl i j a1 a2 a3 a4
 ·by_cases hi:c≤i
  ·exact hp.GI (rk:=rk) (c:=d) (d:=b) (by omega) (.inr (qq6 _)) (fun i j b1 b2 b3 b4=>h.xr i j (by omega) b2 b3 b4) i j hi a2 a3 a4
  ·rw [hp.out i (by omega),hp.out j (by omega)];exact h.xr i j a1 a2 a3 a4
theorem PQ.fin {rk:Int→Int} {S0 S:List Int} {a b c d:Nat} (h:PQ rk S0 S a b c d) (hs:Sd rk S c d):Sd rk S a b:=by have h1:=h.ac;have h2:=h.cd;have h3:=h.db;exact (h.sl.glue hs (fun i j a1 a2 a3 a4=>h.xl i j a1 a2 a3 (by omega))).glue h.sr h.xr
theorem PQ.eqs {rk:Int→Int} {S0 S S':List Int} {a b c d m:Nat} {pv:Int} (h:PQ rk S0 S a b c d) (hl:DM rk S S' c d m pv) (hc:c ≠ 0) (hpv:rk pv≤rk (aG S (c - 1))):PQ rk S0 S' a b m d:=by
 have h':=h.mix hl.pr;have h1:=h.ac;have h2:=h.cd;have h3:=h.db;have h4:=hl.am;have h5:=hl.mb;have hge:∀ q,c≤q→q < d→rk pv≤rk (aG S' q):=fun q a1 a2=>by have:=(h'.pre.resolve_left hc) q a1 a2;rw [hl.pr.out (c - 1) (by omega)] at this;omega
 refine ⟨h'.pr,by omega,h5,h3,h.bl,h'.sl.glue (fun i j a1 a2 a3=>?_) (fun i j a1 a2 a3 a4=>h'.xl i j a1 a2 a3 (by omega)),h'.sr,fun i j a1 a2 a3 a4=>?_,h'.xr,.inr fun i a1 a2=>?_⟩
 ·have e1:=hl.lo i a1 (by omega);have e2:=hge j (by omega) (by omega);omega
 ·by_cases hi:i < c
  ·exact h'.xl i j a1 hi (by omega) a4
  ·by_cases hj:j < d
   ·have e1:=hl.lo i (by omega) a2;have e2:=hge j (by omega) hj;omega
   ·exact h'.xr i j a1 (by omega) (by omega) a4
 ·have e1:=hl.lo (m - 1) (by omega) (by omega);have e2:=hge i (by omega) (by omega);omega
theorem PQ.left {rk:Int→Int} {S0 S S' T:List Int} {a b c d m:Nat} (h:PQ rk S0 S a b c d) (hq:oa rk S S' c d m) (hp:PR S' T c m) (hs:Sd rk T c m):PQ rk S0 T a b (m+1) d:=by
 have h1:=h.ac;have h2:=h.cd;have h3:=h.db;have h4:=hq.am;have h5:=hq.mb;have h6:=h.bl;have h7:=h.pr.len;have h8:=hq.pr.len;have h':=(h.mix hq.pr).mix (hp.wide (qq6 _) (by omega));have em:=hp.out m (by omega);have lo:∀ q,c≤q→q < m→rk (aG T q)≤rk (aG T m):=fun q a1 a2=>by rw [em];exact hp.all (by omega) (P:=fun x=>rk x≤rk (aG S' m)) hq.lo q a1 a2
 have hi:∀ q,m < q→q < d→rk (aG T m)≤rk (aG T q):=fun q a1 a2=>by rw [em,hp.out q (by omega)];exact hq.hi q a1 a2
 have s1:Sd rk T c (m+1):=hs.glue (fun i j a1 a2 a3=>by rw [show i=j by omega];exact Int.le_refl _) (fun i j a1 a2 a3 a4=>by rw [show j=m by omega];exact lo i a1 a2);refine ⟨h'.pr,by omega,h5,h3,h6,h'.sl.glue s1 (fun i j a1 a2 a3 a4=>h'.xl i j a1 a2 a3 (by omega)),h'.sr,fun i j a1 a2 a3 a4=>?_,h'.xr,.inr fun i a1 a2=>hi i (by omega) a2⟩;by_cases ic:i < c
 ·exact h'.xl i j a1 ic (by omega) a4
 ·by_cases hj:j < d
  ·have e2:=hi j (by omega) hj;by_cases im:i=m
   ·rw [im];exact e2
   ·have e1:=lo i (by omega) (by omega);omega
  ·exact h'.xr i j a1 (by omega) (by omega) a4
theorem PQ.right {rk:Int→Int} {S0 S S' T:List Int} {a b c d m:Nat} (h:PQ rk S0 S a b c d) (hq:oa rk S S' c d m) (hp:PR S' T (m+1) d) (hs:Sd rk T (m+1) d):PQ rk S0 T a b c m:=by
 have h1:=h.ac;have h2:=h.cd;have h3:=h.db;have h4:=hq.am;have h5:=hq.mb;have h6:=h.bl;have h7:=h.pr.len;have h8:=hq.pr.len;have h':=(h.mix hq.pr).mix (hp.wide (by omega) (qq6 _));have em:=hp.out m (by omega);have lo:∀ q,c≤q→q < m→rk (aG T q)≤rk (aG T m):=fun q a1 a2=>by rw [em,hp.out q (by omega)];exact hq.lo q a1 a2
 have hi:∀ q,m < q→q < d→rk (aG T m)≤rk (aG T q):=fun q a1 a2=>by rw [em];exact hp.all (by omega) (P:=fun x=>rk (aG S' m)≤rk x) (fun q a1 a2=>hq.hi q (by omega) a2) q (by omega) a2
 have s1:Sd rk T m d:=(show Sd rk T m (m+1) from fun i j a1 a2 a3=>by rw [show i=j by omega];exact Int.le_refl _).glue hs (fun i j a1 a2 a3 a4=>by rw [show i=m by omega];exact hi j (by omega) a4);refine ⟨h'.pr,h1,h4,by omega,h6,h'.sl,s1.glue h'.sr (fun i j a1 a2 a3 a4=>h'.xr i j (by omega) a2 a3 a4),h'.xl,fun i j a1 a2 a3 a4=>?_,?_⟩
 ·by_cases hj:j < d
  ·by_cases ic:i < c
   ·exact h'.xl i j a1 ic (by omega) a4
   ·have e1:=lo i (by omega) a2;by_cases jm:j=m
    ·rw [jm];exact e1
    ·have e2:=hi j (by omega) hj;omega
  ·exact h'.xr i j a1 (by omega) (by omega) a4
 ·rcases h'.pre with hp0|hp0
  ·exact .inl hp0
  ·exact .inr fun i a1 a2=>hp0 i a1 (by omega)
theorem PQ.L6 {rk:Int→Int} {S0 S S':List Int} {a b c d m:Nat} (h:PQ rk S0 S a b c d) (hq:oa rk S S' c d m):rX rk S' c m:=by
 have h5:=hq.mb
 rcases (h.mix hq.pr).pre with hp0|hp0
 ·exact .inl hp0
 ·exact .inr fun i a1 a2=>hp0 i a1 (by omega)
theorem oa.L7 {rk:Int→Int} {S S':List Int} {c d m:Nat} (hq:oa rk S S' c d m):rX rk S' (m+1) d :=
 .inr fun i a1 a2=>hq.hi i (by omega) a2
end Go.Proofs.YtlpmfgmldmdggaaGreat
open Go Go.RM
namespace Go.Proofs.YtlpmfgmldmdggaaGreat
set_option maxRecDepth 100000
set_option maxHeartbeats 4000000
abbrev aA (S:List Int) (aJ:Nat):AB:=.cells (ay S) 1 aJ
theorem ax {S:List Int} {k p:Nat} (h:k < S.length) (hp:p=k):(ay S)[p]?=some (af (aG S k)):=by subst hp;rw [List.getElem?_map,jl h];rfl
theorem zX {S:List Int} {k p:Nat} (h:k < S.length) (hp:p=k) (x:Int):aQ (ay S) [af x] p=ay (S.set k x):=by have:=rP h x;rw [Int.toNat_natCast,Nat.zero_add,Nat.mul_one] at this;rw [hp];exact this
theorem bU {S:List Int} {k p:Nat} (h:k < S.length) (hp:p=k):Nat.ble (p+1) (ay S).length=true:=Nat.ble_eq_true_of_le (by rw [List.length_map];omega)
theorem bu {R:List Int} {i j p q:Nat} (hi:i < R.length) (hj:j < R.length) (hp:p=i) (hq:q=j):aQ (aQ (ay R) [af (aG R j)] p) [af (aG R i)] q=ay (sw R i j):=by rw [zX hi hp,zX (by simpa using hj) hq];rfl
theorem cN {R:List Int} {i j p q:Nat} (hi:i < R.length) (hj:j < R.length) (hp:p=i) (hq:q=j) (x:Int):Nat.ble (q+1) (aQ (ay R) [af x] p).length=true:=by rw [zX hi hp];exact bU (by simpa using hj) hq
abbrev lB:Int→Int:=fun x=>x
theorem KI (one:Bool) (S0:List Int) {a b N:Nat} (hN:S0.length=N) (hb:b≤N) (hab:a≤b) (h9:N≤1000) {v cc:Nat} {aC:bp} {Q:AV→List AB→bp→Prop} (hQ:∀ S:List Int,PR S0 S a b→Sd lB S a b→Q (.tp []) [aA S v] aC) :
  au TT TB one (.fn 132 [] []) [.aI 0 v 0 N cc,af (a:Nat),af (b:Nat)] [aA S0 v] aC Q:=by
 refine au.body (fn:=Tryz.f132) rfl rfl rfl ?_;refine qq1 ?_;repeat' first|refine u1 ?_|refine u2 ?_|fail
 refine aB.aP (ah.to (l:=[(0,.aI 0 v 0 N cc),(1,af (a:Nat)),(2,af (b:Nat)),(6,af ((a+1):Nat))]) (hp:=[aA S0 v]) 1 rfl ⟨rfl,rfl,rfl,aD (by simp),trivial⟩ (qq6 _) rfl (av _ _)) ?_;refine aB.loop (fun x:Nat × List Int=>(a+1≤x.1∧(x.1≤b∨x.1=a+1))∧PR S0 x.2 a b∧Sd lB x.2 a x.1) (fun x=>⟨aL [(0,.aI 0 v 0 N cc),(1,af (a:Nat)),(2,af (b:Nat)),(6,af (x.1:Nat))],[aA x.2 v],aC,false,1⟩) (fun x=>N - x.1) ?_ (a+1,S0) ⟨⟨qq6 _,.inr rfl⟩,PR.refl _ _ _,fun i j h1 h2 h3=>by rw [show i=j by dsimp only at *;omega];exact Int.le_refl _⟩;rintro ⟨i,S⟩ ⟨⟨hi1,hi⟩,hpe,hso⟩;dsimp only at hi1 hi hso hpe;have hSl:S.length=N:=by rw [hpe.len,hN]
 show aB _ _ _ _ ⟨aL [(0,.aI 0 v 0 N cc),(1,af (a:Nat)),(2,af (b:Nat)),(6,af (i:Nat))],[aA S v],aC,false,1⟩ _;by_cases hc:i < b
 ·have d0:decide ((i:Int) < (b:Int))=true:=decide_eq_true (by omega);refine qq1 ?_;repeat' first|refine u1 ?_|refine u2 ?_|fail
  refine aB.aP (ah.to (l:=[(0,.aI 0 v 0 N cc),(1,af (a:Nat)),(2,af (b:Nat)),(6,af (i:Nat)),(7,af (i:Nat))]) (hp:=[aA S v]) 1 rfl ⟨rfl,rfl,rfl,rfl,rfl,trivial⟩ (qq6 _) rfl (av _ _)) ?_;refine aB.loop (fun x:Nat × List Int=>(a≤x.1∧x.1≤i)∧PR S0 x.2 a b∧EE lB x.2 a i x.1) (fun x=>⟨aL [(0,.aI 0 v 0 N cc),(1,af (a:Nat)),(2,af (b:Nat)),(6,af (i:Nat)),(7,af (x.1:Nat))],[aA x.2 v],aC,false,1⟩) (fun x=>x.1) ?_ (i,S) ⟨⟨by dsimp only;omega,qq6 _⟩,hpe,EE.start hso⟩;rintro ⟨j,R⟩ ⟨⟨hj1,hj⟩,hpr,hsi⟩;dsimp only at hj1 hj hsi hpr;have hRl:R.length=N:=by rw [hpr.len,hN]
  show aB _ _ _ _ ⟨aL [(0,.aI 0 v 0 N cc),(1,af (a:Nat)),(2,af (b:Nat)),(6,af (i:Nat)),(7,af (j:Nat))],[aA R v],aC,false,1⟩ _;by_cases h0:a < j
  ·have d1:decide ((a:Int) < (j:Int))=true:=decide_eq_true (by omega);have g1:(ay R)[0+((j:Nat):Int).toNat * 1]?=some (af (aG R j)):=ax (by omega) (by omega);have g2:(ay R)[0+((j:Int) - 1).toNat * 1]?=some (af (aG R (j - 1))):=ax (by omega) (by omega);have o1:=iw true (aG R j) (aG R (j - 1));by_cases hl:aG R j < aG R (j - 1)
   ·rw [decide_eq_true hl] at o1;have b1:Nat.ble (0+((j:Nat):Int).toNat * 1+1) (ay R).length=true:=bU (k:=j) (by omega) (by omega);have b2:Nat.ble (0+((j:Int) - 1).toNat * 1+1) (aQ (ay R) [af (aG R (j - 1))] (0+((j:Nat):Int).toNat * 1)).length=true:=cN (i:=j) (j:=j - 1) (by omega) (by omega) (by omega) (by omega) _;have e1:=bu (R:=R) (i:=j) (j:=j - 1) (p:=0+((j:Nat):Int).toNat * 1) (q:=0+((j:Int) - 1).toNat * 1) (by omega) (by omega) (by omega) (by omega);refine qq1 ?_;repeat' first|(refine ⟨_,_,.inl ⟨rfl,rfl⟩,o1,?_⟩)|((with_reducible show RM.wpOp _ _ (.load _ _) _ _ _);refine RM.bD rfl rfl rfl g1 ?_)|((with_reducible show RM.wpOp _ _ (.load _ _) _ _ _);refine RM.bD rfl rfl rfl g2 ?_)|((with_reducible show aF _ _ _ _ _ _);refine RM.fy rfl rfl rfl rfl rfl rfl b1 ?_)|((with_reducible show aF _ _ _ _ _ _);refine RM.fy rfl rfl rfl rfl rfl rfl b2 ?_)|refine u1 ?_|refine u2 ?_|fail
    exact ⟨(j - 1,sw R j (j - 1)),⟨⟨by dsimp only;omega,by dsimp only;omega⟩,hpr.trans (PR.sw (by omega) ⟨by omega,by omega⟩ ⟨by omega,by omega⟩),hsi.step ⟨h0,hj⟩ (by omega) hl⟩,(by dsimp only;omega),ah.to (l:=[(0,.aI 0 v 0 N cc),(1,af (a:Nat)),(2,af (b:Nat)),(6,af (i:Nat)),(7,af ((j - 1):Nat))]) (hp:=[aA (sw R j (j - 1)) v]) 1 (by show _=[AB.cells (ay (sw R j (j - 1))) 1 v];rw [←e1];rfl) ⟨rfl,rfl,rfl,rfl,aD (by omega),trivial⟩ (qq6 _) rfl (av _ _)⟩
   ·rw [decide_eq_false hl] at o1;refine qq1 ?_;repeat' first|(refine ⟨_,_,.inl ⟨rfl,rfl⟩,o1,?_⟩)|((with_reducible show RM.wpOp _ _ (.load _ _) _ _ _);refine RM.bD rfl rfl rfl g1 ?_)|((with_reducible show RM.wpOp _ _ (.load _ _) _ _ _);refine RM.bD rfl rfl rfl g2 ?_)|refine u1 ?_|refine u2 ?_|fail
    exact ⟨(i+1,R),⟨⟨by dsimp only;omega,.inl (by dsimp only;omega)⟩,hpr,hsi.done (.inr (by show aG R (j - 1)≤aG R j;omega))⟩,(by dsimp only;omega),ah.to (l:=[(0,.aI 0 v 0 N cc),(1,af (a:Nat)),(2,af (b:Nat)),(6,af ((i+1):Nat))]) (hp:=[aA R v]) 1 rfl ⟨rfl,rfl,rfl,aD (by simp),trivial⟩ (qq6 _) rfl (av _ _)⟩
  ·have d1:decide ((a:Int) < (j:Int))=false:=decide_eq_false (by omega);refine qq1 ?_;repeat' first|refine u1 ?_|refine u2 ?_|fail
   exact ⟨(i+1,R),⟨⟨by dsimp only;omega,.inl (by dsimp only;omega)⟩,hpr,hsi.done (.inl (by omega))⟩,(by dsimp only;omega),ah.to (l:=[(0,.aI 0 v 0 N cc),(1,af (a:Nat)),(2,af (b:Nat)),(6,af ((i+1):Nat))]) (hp:=[aA R v]) 1 rfl ⟨rfl,rfl,rfl,aD (by simp),trivial⟩ (qq6 _) rfl (av _ _)⟩
 ·have d0:decide ((i:Int) < (b:Int))=false:=decide_eq_false (by omega);have hz:=hQ S hpe fun p q h1 h2 h3=>hso p q h1 h2 (by omega);refine qq1 ?_;repeat' first|refine u1 ?_|refine u2 ?_|fail
  exact hz
end Go.Proofs.YtlpmfgmldmdggaaGreat
open Go Go.RM
namespace Go.Proofs.YtlpmfgmldmdggaaGreat
set_option maxRecDepth 100000
set_option maxHeartbeats 4000000
abbrev CF:AV:=.fn 130 [] []
def z6 (S:List Int):Prop:=∀ x ∈ S,0≤x∧x < 32
theorem z6.at {S:List Int} (h:z6 S) {i:Nat} (hi:i < S.length):0≤aG S i∧aG S i < 32:=h _ (DE hi)
theorem z6.pr {S S':List Int} {a b:Nat} (h:z6 S) (hp:PR S S' a b):z6 S':=fun x hx=>h x (hp.perm.mem_iff.1 hx)
theorem L8 (one:Bool) {x y:Int} (hx:0≤x∧x < 32) (hy:0≤y∧y < 32):ak TT TB one CF [af x,af y] (af (rU (cu x) (cu y))):=by obtain ⟨a,rfl⟩:∃ a:Nat,x=a:=⟨x.toNat,by omega⟩;obtain ⟨b,rfl⟩:∃ b:Nat,y=b:=⟨y.toNat,by omega⟩;exact Ky one a b (by omega) (by omega)
theorem rY (one:Bool) {x y:Int} (hx:0≤x∧x < 32) (hy:0≤y∧y < 32) (h:cu x < cu y):∃ z:Int,decide (z < 0)=true∧ak TT TB one CF [af x,af y] (af z) :=
 ⟨_,by unfold rU;rw [if_pos h];rfl,L8 one hx hy⟩
theorem rZ (one:Bool) {x y:Int} (hx:0≤x∧x < 32) (hy:0≤y∧y < 32) (h:¬cu x < cu y):∃ z:Int,decide (z < 0)=false∧ak TT TB one CF [af x,af y] (af z) :=
 ⟨_,by
  unfold rU;rw [if_neg h]
  split <;> rfl,L8 one hx hy⟩
end Go.Proofs.YtlpmfgmldmdggaaGreat
open Go Go.RM
namespace Go.Proofs.YtlpmfgmldmdggaaGreat
set_option maxRecDepth 100000
set_option maxHeartbeats 4000000
theorem KJ (one:Bool) (S0:List Int) {a b N:Nat} (hN:S0.length=N) (hb:b≤N) (hab:a≤b) (h9:N≤1000) (hr:z6 S0) {v cc:Nat} {aC:bp} {Q:AV→List AB→bp→Prop} (hQ:∀ S:List Int,PR S0 S a b→Sd cu S a b→Q (.tp []) [aA S v] aC) :
  au TT TB one (.fn 127 [] []) [.aI 0 v 0 N cc,af (a:Nat),af (b:Nat),CF] [aA S0 v] aC Q:=by
 refine au.body (fn:=Tryz.f127) rfl rfl rfl ?_;refine qq1 ?_;repeat' first|refine u1 ?_|refine u2 ?_|fail
 refine aB.aP (ah.to (l:=[(0,.aI 0 v 0 N cc),(1,af (a:Nat)),(2,af (b:Nat)),(3,CF),(8,af ((a+1):Nat))]) (hp:=[aA S0 v]) 1 rfl ⟨rfl,rfl,rfl,rfl,aD (by simp),trivial⟩ (qq6 _) rfl (av _ _)) ?_;refine aB.loop (fun x:Nat × List Int=>(a+1≤x.1∧(x.1≤b∨x.1=a+1))∧PR S0 x.2 a b∧Sd cu x.2 a x.1) (fun x=>⟨aL [(0,.aI 0 v 0 N cc),(1,af (a:Nat)),(2,af (b:Nat)),(3,CF),(8,af (x.1:Nat))],[aA x.2 v],aC,false,1⟩) (fun x=>N - x.1) ?_ (a+1,S0) ⟨⟨qq6 _,.inr rfl⟩,PR.refl _ _ _,fun i j h1 h2 h3=>by rw [show i=j by dsimp only at *;omega];exact Int.le_refl _⟩;rintro ⟨i,S⟩ ⟨⟨hi1,hi⟩,hpe,hso⟩;dsimp only at hi1 hi hso hpe;have hSl:S.length=N:=by rw [hpe.len,hN]
 show aB _ _ _ _ ⟨aL [(0,.aI 0 v 0 N cc),(1,af (a:Nat)),(2,af (b:Nat)),(3,CF),(8,af (i:Nat))],[aA S v],aC,false,1⟩ _;by_cases hc:i < b
 ·have d0:decide ((i:Int) < (b:Int))=true:=decide_eq_true (by omega);refine qq1 ?_;repeat' first|refine u1 ?_|refine u2 ?_|fail
  refine aB.aP (ah.to (l:=[(0,.aI 0 v 0 N cc),(1,af (a:Nat)),(2,af (b:Nat)),(3,CF),(8,af (i:Nat)),(9,af (i:Nat))]) (hp:=[aA S v]) 1 rfl ⟨rfl,rfl,rfl,rfl,rfl,rfl,trivial⟩ (qq6 _) rfl (av _ _)) ?_;refine aB.loop (fun x:Nat × List Int=>(a≤x.1∧x.1≤i)∧PR S0 x.2 a b∧EE cu x.2 a i x.1) (fun x=>⟨aL [(0,.aI 0 v 0 N cc),(1,af (a:Nat)),(2,af (b:Nat)),(3,CF),(8,af (i:Nat)),(9,af (x.1:Nat))],[aA x.2 v],aC,false,1⟩) (fun x=>x.1) ?_ (i,S) ⟨⟨by dsimp only;omega,qq6 _⟩,hpe,EE.start hso⟩;rintro ⟨j,R⟩ ⟨⟨hj1,hj⟩,hpr,hsi⟩;dsimp only at hj1 hj hsi hpr;have hRl:R.length=N:=by rw [hpr.len,hN]
  show aB _ _ _ _ ⟨aL [(0,.aI 0 v 0 N cc),(1,af (a:Nat)),(2,af (b:Nat)),(3,CF),(8,af (i:Nat)),(9,af (j:Nat))],[aA R v],aC,false,1⟩ _;by_cases h0:a < j
  ·have d1:decide ((a:Int) < (j:Int))=true:=decide_eq_true (by omega);have g1:(ay R)[0+((j:Nat):Int).toNat * 1]?=some (af (aG R j)):=ax (by omega) (by omega);have g2:(ay R)[0+((j:Int) - 1).toNat * 1]?=some (af (aG R (j - 1))):=ax (by omega) (by omega);have hin:=hr.pr hpr;by_cases hl:cu (aG R j) < cu (aG R (j - 1))
   ·obtain ⟨z,dz,o1⟩:=rY one (hin.at (i:=j) (by omega)) (hin.at (i:=j - 1) (by omega)) hl;have b1:Nat.ble (0+((j:Nat):Int).toNat * 1+1) (ay R).length=true:=bU (k:=j) (by omega) (by omega);have b2:Nat.ble (0+((j:Int) - 1).toNat * 1+1) (aQ (ay R) [af (aG R (j - 1))] (0+((j:Nat):Int).toNat * 1)).length=true:=cN (i:=j) (j:=j - 1) (by omega) (by omega) (by omega) (by omega) _;have e1:=bu (R:=R) (i:=j) (j:=j - 1) (p:=0+((j:Nat):Int).toNat * 1) (q:=0+((j:Int) - 1).toNat * 1) (by omega) (by omega) (by omega) (by omega);refine qq1 ?_;repeat' first|(refine RM.c5 (c:=14) (l1:=[_,_,_,_,_,_,_,_,_,_,_,_,_,_]) (l2:=[_,_,_]) (by kernel_rfl) rfl rfl ?_)|((with_reducible refine qq3 ?_);refine ak.call o1 rfl rfl ?_)|((with_reducible show RM.wpOp _ _ (.load _ _) _ _ _);refine RM.bD rfl rfl rfl g1 ?_)|((with_reducible show RM.wpOp _ _ (.load _ _) _ _ _);refine RM.bD rfl rfl rfl g2 ?_)|((with_reducible show aF _ _ _ _ _ _);refine RM.fy rfl rfl rfl rfl rfl rfl b1 ?_)|((with_reducible show aF _ _ _ _ _ _);refine RM.fy rfl rfl rfl rfl rfl rfl b2 ?_)|refine u1 ?_|refine u2 ?_|fail
    exact ⟨(j - 1,sw R j (j - 1)),⟨⟨by dsimp only;omega,by dsimp only;omega⟩,hpr.trans (PR.sw (by omega) ⟨by omega,by omega⟩ ⟨by omega,by omega⟩),hsi.step ⟨h0,hj⟩ (by omega) hl⟩,(by dsimp only;omega),ah.to (l:=[(0,.aI 0 v 0 N cc),(1,af (a:Nat)),(2,af (b:Nat)),(3,CF),(8,af (i:Nat)),(9,af ((j - 1):Nat))]) (hp:=[aA (sw R j (j - 1)) v]) 1 (by show _=[AB.cells (ay (sw R j (j - 1))) 1 v];rw [←e1];rfl) ⟨rfl,rfl,rfl,rfl,rfl,aD (by omega),trivial⟩ (qq6 _) rfl (av _ _)⟩
   ·obtain ⟨z,dz,o1⟩:=rZ one (hin.at (i:=j) (by omega)) (hin.at (i:=j - 1) (by omega)) hl;refine qq1 ?_;repeat' first|(refine RM.c5 (c:=14) (l1:=[_,_,_,_,_,_,_,_,_,_,_,_,_,_]) (l2:=[_,_,_]) (by kernel_rfl) rfl rfl ?_)|((with_reducible refine qq3 ?_);refine ak.call o1 rfl rfl ?_)|((with_reducible show RM.wpOp _ _ (.load _ _) _ _ _);refine RM.bD rfl rfl rfl g1 ?_)|((with_reducible show RM.wpOp _ _ (.load _ _) _ _ _);refine RM.bD rfl rfl rfl g2 ?_)|refine u1 ?_|refine u2 ?_|fail
    exact ⟨(i+1,R),⟨⟨by dsimp only;omega,.inl (by dsimp only;omega)⟩,hpr,hsi.done (.inr (by show cu (aG R (j - 1))≤cu (aG R j);omega))⟩,(by dsimp only;omega),ah.to (l:=[(0,.aI 0 v 0 N cc),(1,af (a:Nat)),(2,af (b:Nat)),(3,CF),(8,af ((i+1):Nat))]) (hp:=[aA R v]) 1 rfl ⟨rfl,rfl,rfl,rfl,aD (by simp),trivial⟩ (qq6 _) rfl (av _ _)⟩
  ·have d1:decide ((a:Int) < (j:Int))=false:=decide_eq_false (by omega);refine qq1 ?_;repeat' first|refine u1 ?_|(refine RM.c5 (c:=14) (l1:=[_,_,_,_,_,_,_,_,_,_,_,_,_,_]) (l2:=[_,_,_]) (by kernel_rfl) rfl rfl ?_)|refine u2 ?_|fail
   exact ⟨(i+1,R),⟨⟨by dsimp only;omega,.inl (by dsimp only;omega)⟩,hpr,hsi.done (.inl (by omega))⟩,(by dsimp only;omega),ah.to (l:=[(0,.aI 0 v 0 N cc),(1,af (a:Nat)),(2,af (b:Nat)),(3,CF),(8,af ((i+1):Nat))]) (hp:=[aA R v]) 1 rfl ⟨rfl,rfl,rfl,rfl,aD (by simp),trivial⟩ (qq6 _) rfl (av _ _)⟩
 ·have d0:decide ((i:Int) < (b:Int))=false:=decide_eq_false (by omega);have hz:=hQ S hpe fun p q h1 h2 h3=>hso p q h1 h2 (by omega);refine qq1 ?_;repeat' first|refine u1 ?_|refine u2 ?_|fail
  exact hz
