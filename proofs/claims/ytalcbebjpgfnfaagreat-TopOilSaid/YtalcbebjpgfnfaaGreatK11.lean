/-
  Contracts of the program's functions and of the document's. Lemmas alone; their conditions stand in them.
-/
import Derived.Test.YtalcbebjpgfnfaaGreatA3
import Derived.Test.YtalcbebjpgfnfaaGreatK5
import Derived.Test.YtalcbebjpgfnfaaGreatK10
open Go Go.RM
namespace Go.Proofs.YtalcbebjpgfnfaaGreat.St
set_option maxRecDepth 100000
set_option maxHeartbeats 4000000
theorem Kl {n:Int} (h:0≤n∧n≤65535):cE (aA TT.P (convert 32 3 (.int .u16 n)))=some (.int .i64 n,.none):=by
 have:cE (aA TT.P (convert 32 3 (.int .u16 n)))=some (.int .i64 (IntKind.i64.wrap n),.none):=rfl
 rw [this,IntWalk.i64_in n (by omega)]
theorem NM {n:Int} (h:0≤n∧n≤255):cE (aA TT.P (convert 5 3 (.int .u8 n)))=some (.int .i64 n,.none):=by
 have:cE (aA TT.P (convert 5 3 (.int .u8 n)))=some (.int .i64 (IntKind.i64.wrap n),.none):=rfl
 rw [this,IntWalk.i64_in n (by omega)]
def rE (s:Span) (n:Int):Int:=s.lo+n % (s.hi - s.lo+1)
structure xG (s:Span):Prop where
 lo:-1000000≤s.lo
 le:s.lo≤s.hi
 hi:s.hi≤1000000
theorem uu {s:Span} (h:xG s) (n:Int):s.lo≤rE s n∧rE s n≤s.hi:=by
 have h0:=h.le
 have h1:=Int.emod_nonneg n (show s.hi - s.lo+1 ≠ 0 by omega)
 have h2:=Int.emod_lt_of_pos n (show 0 < s.hi - s.lo+1 by omega)
 unfold rE
 omega
theorem A8 (one:Bool) (s:Span) (n:Int) (hn:0≤n∧n≤1000000) (hs:xG s):Pu one 49 [.ag (ck s),ah n] (ah (rE s n)):=by
 have h0:=hs.le
 have h3:=hs.lo
 have h4:=hs.hi
 have h1:=Int.emod_nonneg n (show s.hi - s.lo+1 ≠ 0 by omega)
 have h2:=Int.emod_lt_of_pos n (show 0 < s.hi - s.lo+1 by omega)
 refine af.body (fn:=Tryz.f49) rfl rfl rfl rfl ?_
 refine aa (mu:=fun _=>false) ?_
 repeat' (first |refine u1 ?_ |with_reducible refine RM.EL rfl ?_ |refine u2 ?_ |fail)
 exact ⟨[_],⟨Fz.deep rfl,trivial⟩,rfl⟩
def Km (k:Kind) (a b c:Int):aE:=⟨rE k.first a,rE k.aR b,rE k.ay c⟩
def qO (n:Int):Prop:=0≤n∧n≤65535
theorem lM.Lg {k:Kind} (h:lM k):xG k.first∧xG k.aR∧xG k.ay:=by
 have:=h.first
 have:=h.aR
 have:=h.ay
 exact ⟨⟨by omega,by omega,by omega⟩,⟨by omega,by omega,by omega⟩,⟨by omega,by omega,by omega⟩⟩
theorem MX (one:Bool) (k:Kind) (h:lM k) (a b c:Int) (ha:qO a) (hb:qO b) (hc:qO c):Pu one 9 [.ag (bG k),.ag [G2 a,G2 b,G2 c]] (.ag (aV (Km k a b c))):=by
 have hs:=h.Lg
 unfold qO at ha hb hc
 have ca:=A8 true k.first a (by omega) hs.1
 have cb:=A8 true k.aR b (by omega) hs.2.1
 have cc:=A8 true k.ay c (by omega) hs.2.2
 refine af.body (fn:=Tryz.f9) rfl rfl rfl rfl ?_
 refine aa (mu:=fun _=>false) ?_
 repeat' (first |refine ⟨_,Kl ha,rfl,?_⟩ |refine ⟨_,Kl hb,rfl,?_⟩ |refine ⟨_,Kl hc,rfl,?_⟩ |refine u1 ?_ |with_reducible refine RM.EL rfl ?_ |refine u2 ?_ |refine ⟨_,ca,?_⟩ |refine ⟨_,cb,?_⟩ |refine ⟨_,cc,?_⟩ |fail)
 exact ⟨[_],⟨Fz.deep rfl,trivial⟩,rfl⟩
def mG (au:List Int) (k:Kind) (row:List Int) (t:aE) (down:Int):Nat→Int
 | 0=>0
 | i+1=>mG au k row t down i+min (row.getD i 0) (max 0 (k.room - aW au k row t down i))
def pE (au:List Int) (k:Kind) (row:List Int) (t:aE) (down:Int) (i:Nat):Int:=t.first+mG au k row t down i - aW au k row t down i
theorem eK.MY {au:List Int} {k:Kind} {row:List Int} {t:aE} (h:eK au k row t) (down:Int):∀ i,i≤au.length→0≤mG au k row t down i∧mG au k row t down i≤300 * i
 | 0,_=>⟨Int.le_refl _,Int.le_refl _⟩
 | i+1,hi=>by
  have ih:=h.MY down i (by omega)
  have h2:=h.row.get (d:=i) (by have:=h.zD;omega)
  have h3:=h.room
  have h4:=h.zE down i (by omega)
  simp only [mG]
  omega
theorem IB (one:Bool) (s:aB) (hg:Good s) (i:Nat) (hi:i < s.kinds.length) (t:aE) (down:Int) (h:eK s.au s.kinds[i] (ak i s.aj) t) :
  Pu one 50 [.ag (aO s),ah i,.ag (aV t),ah down] (.tp [.sl ((List.range (s.au.length+1)).map fun j=>eI (aW s.au s.kinds[i] (ak i s.aj) t down j)) false,ah (bD s.au s.kinds[i] (ak i s.aj) t down s.au.length),
   ah (pE s.au s.kinds[i] (ak i s.aj) t down s.au.length),ah (mG s.au s.kinds[i] (ak i s.aj) t down s.au.length)]):=by
 have em:((s.au.map eI).length:Int)=s.au.length:=by simp
 have ec:((s.aj.map bM).length:Int)=s.aj.length:=by simp
 have h8:=fo hg.sizes
 have hrowd:∀ d:Nat,ak i (s.aj.take s.aj.length)=ak i s.aj:=fun _=>by rw [List.take_length]
 refine af.body (fn:=Tryz.f50) rfl rfl rfl rfl ?_
 refine aa (mu:=fun t=>Nat.beq t 29 || Nat.beq t 135) ?_
 repeat' (first |refine u1 ?_ |with_reducible refine RM.EL rfl ?_ |refine u2 ?_ |fail)
 refine az.aK (ai.to (l:=[(1,ah i),(3,ah down),(4,.pt (aO s) 0),(6,.pt (aV t) 0),(12,ah t.first),(13,ah s.au.length),(14,ah (pE s.au s.kinds[i] (ak i s.aj) t down 0)),(15,ah 0),(16,.bX 0 0 0 1 1),(17,ah ((0:Nat):Int))]) (hp:=[vu s.au s.kinds[i] (ak i s.aj) t down 0]) 1 rfl ⟨rfl,rfl,rfl,rfl,rfl,aH em,aH (by simp [pE,mG,aW]),rfl,rfl,rfl,trivial⟩ (Nat.zero_le _) rfl rfl) ?_
 refine az.loop (fun d:Nat=>d≤s.au.length) (fun d=>⟨aX [(1,ah i),(3,ah down),(4,.pt (aO s) 0),(6,.pt (aV t) 0),(12,ah (aW s.au s.kinds[i] (ak i s.aj) t down d)),(13,ah (bD s.au s.kinds[i] (ak i s.aj) t down d)),(14,ah (pE s.au s.kinds[i] (ak i s.aj) t down d)),(15,ah (mG s.au s.kinds[i] (ak i s.aj) t down d)),(16,.bX 0 d 0 (d+1) (A5 d)),(17,ah (d:Int))],[vu s.au s.kinds[i] (ak i s.aj) t down d],bN.none,false,0⟩) (fun d=>s.au.length - d) ?_ 0 (Nat.zero_le _)
 intro d hd
 refine aa (mu:=fun t=>Nat.beq t 29 || Nat.beq t 135) ?_
 repeat' (first |refine u1 ?_ |refine u2 ?_ |fail)
 refine RM.e1 rfl ⟨fun h2=>?_,fun h2=>?_⟩
 ·have hlt:d < s.au.length:=by simpa only [em,decide_eq_true_eq,Int.ofNat_lt] using h2
  have b1:=h.n hlt
  have b2:=fV b1 h.aR
  have b3:=fV b2 h.cJ
  have b4:=h.zE down d hd
  have b5:=h.row.get (d:=d) (by have:=h.zD;omega)
  have b6:=h.room
  have b7:=h.ay
  have b9:=h.MY down d hd
  have hget:s.au[d]=s.au.getD d 0:=by rw [List.getD_eq_getElem?_getD,List.getElem?_eq_getElem hlt];rfl
  have hhv:=zF s.au s.kinds[i] (ak i s.aj) t down d
  have hsh:=xC s.au s.kinds[i] (ak i s.aj) t down d
  have hbr:mG s.au s.kinds[i] (ak i s.aj) t down (d+1)=mG s.au s.kinds[i] (ak i s.aj) t down d+min ((ak i s.aj).getD d 0) (max 0 (s.kinds[i].room - aW s.au s.kinds[i] (ak i s.aj) t down d)):=rfl
  have hus:pE s.au s.kinds[i] (ak i s.aj) t down (d+1)=t.first+mG s.au s.kinds[i] (ak i s.aj) t down (d+1) - aW s.au s.kinds[i] (ak i s.aj) t down (d+1):=rfl
  have hud:pE s.au s.kinds[i] (ak i s.aj) t down d=t.first+mG s.au s.kinds[i] (ak i s.aj) t down d - aW s.au s.kinds[i] (ak i s.aj) t down d:=rfl
  have hft:=h.first
  rw [←hget] at b1 b2 b3 hhv hsh
  repeat' (first |refine u1 ?_ |fail)
  refine az.aK (ai.to (l:=[(1,ah i),(3,ah down),(4,.pt (aO s) 0),(6,.pt (aV t) 0),(12,ah (aW s.au s.kinds[i] (ak i s.aj) t down d)),(13,ah (bD s.au s.kinds[i] (ak i s.aj) t down d)),(14,ah (pE s.au s.kinds[i] (ak i s.aj) t down d)),(15,ah (mG s.au s.kinds[i] (ak i s.aj) t down d)),(16,.bX 0 d 0 (d+1) (A5 d)),(17,ah (d:Int)),(18,ah ((ak i (s.aj.take 0)).getD d 0)),(19,ah ((0:Nat):Int))]) (hp:=[vu s.au s.kinds[i] (ak i s.aj) t down d]) 1 rfl ⟨rfl,rfl,rfl,rfl,rfl,rfl,rfl,rfl,rfl,rfl,aH (by have:=(gA.zero (k:=(i:Int))).get (d:=d) (by omega);show 0=(ak i []).getD d 0;omega),rfl,trivial⟩ (Nat.zero_le _) rfl (eH _ _ _ _ _ _)) ?_
  refine az.loop (fun j:Nat=>j≤s.aj.length) (fun j=>⟨aX [(1,ah i),(3,ah down),(4,.pt (aO s) 0),(6,.pt (aV t) 0),(12,ah (aW s.au s.kinds[i] (ak i s.aj) t down d)),(13,ah (bD s.au s.kinds[i] (ak i s.aj) t down d)),(14,ah (pE s.au s.kinds[i] (ak i s.aj) t down d)),(15,ah (mG s.au s.kinds[i] (ak i s.aj) t down d)),(16,.bX 0 d 0 (d+1) (A5 d)),(17,ah (d:Int)),(18,ah ((ak i (s.aj.take j)).getD d 0)),(19,ah (j:Int))],[vu s.au s.kinds[i] (ak i s.aj) t down d],bN.none,false,0⟩) (fun j=>s.aj.length - j) ?_ 0 (Nat.zero_le _)
  intro j hj
  have hrow:gA (s.aj.take j).length (ak i (s.aj.take j)):=jP fun c hx=>by have:=hg.aj c (List.mem_of_mem_take hx);omega
  have hrl:(s.aj.take j).length=j:=by simp;omega
  rw [hrl] at hrow
  have hget:=hrow.get (d:=d) (by omega)
  refine aa (mu:=fun t=>Nat.beq t 29 || Nat.beq t 135) ?_
  repeat' (first |refine u1 ?_ |refine u2 ?_ |fail)
  refine RM.e1 rfl ⟨fun h2=>?_,fun h2=>?_⟩
  ·have hlt:j < s.aj.length:=by simpa only [ec,decide_eq_true_eq,Int.ofNat_lt] using h2
   have hcj:=hg.aj s.aj[j] (List.getElem_mem hlt)
   have hrow':(ak i (s.aj.take (j+1))).getD d 0=if s.aj[j].day=(d:Int)∧s.aj[j].kind=(i:Int) then (ak i (s.aj.take j)).getD d 0+s.aj[j].cz else (ak i (s.aj.take j)).getD d 0:=by
    rw [List.take_add_one,List.getElem?_eq_getElem hlt]
    exact (congrArg (fun l=>l.getD d 0) (jE _ _ _)).trans (qN (by rw [hrow.len];omega) hcj.1.1)
   clear hhv hsh hbr hus hud b1 b2 b3 b4 b5 b6 b7 b9 hft
   generalize (ak i (s.aj.take j)).getD d 0=sum at hget hrow'
   repeat' (first |refine u1 ?_ |refine u2 ?_ |refine ⟨bM s.aj[j],⟨by omega,cq hlt⟩,rfl,?_⟩ |((with_reducible show cC _ _ _ _ _);refine mU rfl rfl (fun h=>?_) (fun h=>?_)) |((with_reducible show mT _ _ _ _ (.cond _ _ _) _ _);refine RM.e1 rfl ⟨fun h=>?_,fun h=>?_⟩) |fail)
   all_goals refine ⟨j+1,hlt,(by dsimp only;omega),ai.to 1 rfl ⟨rfl,rfl,rfl,rfl,rfl,rfl,rfl,rfl,rfl,rfl,aH ?_,aH (by simp),trivial⟩ (Nat.zero_le _) rfl (eH _ _ _ _ _ _)⟩
   all_goals rw [hrow']
   all_goals simp_all
  ·have hj:s.aj.take j=s.aj:=List.take_of_length_le (by rw [ec,decide_eq_false_iff_not] at h2;omega)
   rw [hj] at hget ⊢
   clear hrow hrl hrowd
   repeat' (first |refine u1 ?_ |with_reducible refine RM.EL rfl ?_ |refine u2 ?_ |refine ⟨bG s.kinds[i],⟨by omega,cq hi⟩,rfl,?_⟩ |refine ⟨eI s.au[d],⟨by omega,cq hlt⟩,rfl,?_⟩ |fail)
   refine RM.e1 rfl ⟨fun h3=>?_,fun h3=>?_⟩
   ·rw [decide_eq_true_eq] at h3
    rw [if_pos h3] at hhv hsh
    repeat' (first |refine u1 ?_ |refine u2 ?_ |refine ⟨bG s.kinds[i],⟨by omega,cq hi⟩,rfl,?_⟩ |fail)
    refine RM.e1 rfl ⟨fun h4=>?_,fun h4=>?_⟩
    ·rw [decide_eq_true_eq] at h4
     repeat' (first |refine u1 ?_ |refine u2 ?_ |fail)
     refine RM.e1 rfl ⟨fun h5=>?_,fun h5=>?_⟩
     ·rw [decide_eq_true_eq] at h5
      repeat' (first |refine u1 ?_ |refine u2 ?_ |fail)
      refine ⟨[eI _],⟨fun el hel=>by rw [List.mem_singleton.1 hel];rfl,rfl⟩,rfl,_,rfl,by simp,jd d,And.intro (by dsimp only [List.length];omega) (by dsimp only [List.length];omega),fun hn=>absurd hn (by simp),fun _=>?_⟩
      repeat' (first |refine u1 ?_ |fail)
      refine ⟨d+1,hlt,(by dsimp only;omega),ai.to 1 (ew (by rw [hhv];omega)) ⟨rfl,rfl,rfl,rfl,aH (by rw [hhv];omega),aH (by rw [hsh,if_pos (by omega)]),aH (by rw [hus,hbr,hhv,hud];omega),aH (by rw [hbr]),rfl,aH (by simp),trivial⟩ (Nat.zero_le _) rfl (eH _ _ _ _ _ _)⟩
     ·rw [decide_eq_false_iff_not] at h5
      repeat' (first |refine u1 ?_ |refine u2 ?_ |fail)
      refine ⟨[eI _],⟨fun el hel=>by rw [List.mem_singleton.1 hel];rfl,rfl⟩,rfl,_,rfl,by simp,jd d,And.intro (by dsimp only [List.length];omega) (by dsimp only [List.length];omega),fun hn=>absurd hn (by simp),fun _=>?_⟩
      repeat' (first |refine u1 ?_ |fail)
      refine ⟨d+1,hlt,(by dsimp only;omega),ai.to 1 (ew (by rw [hhv];omega)) ⟨rfl,rfl,rfl,rfl,aH (by rw [hhv];omega),aH (by rw [hsh,if_neg (by omega)]),aH (by rw [hus,hbr,hhv,hud];omega),aH (by rw [hbr]),rfl,aH (by simp),trivial⟩ (Nat.zero_le _) rfl (eH _ _ _ _ _ _)⟩
    ·rw [decide_eq_false_iff_not] at h4
     repeat' (first |refine u1 ?_ |refine u2 ?_ |fail)
     refine RM.e1 rfl ⟨fun h5=>?_,fun h5=>?_⟩
     ·rw [decide_eq_true_eq] at h5
      repeat' (first |refine u1 ?_ |refine u2 ?_ |fail)
      refine ⟨[eI _],⟨fun el hel=>by rw [List.mem_singleton.1 hel];rfl,rfl⟩,rfl,_,rfl,by simp,jd d,And.intro (by dsimp only [List.length];omega) (by dsimp only [List.length];omega),fun hn=>absurd hn (by simp),fun _=>?_⟩
      repeat' (first |refine u1 ?_ |fail)
      refine ⟨d+1,hlt,(by dsimp only;omega),ai.to 1 (ew (by rw [hhv];omega)) ⟨rfl,rfl,rfl,rfl,aH (by rw [hhv];omega),aH (by rw [hsh,if_pos (by omega)]),aH (by rw [hus,hbr,hhv,hud];omega),aH (by rw [hbr]),rfl,aH (by simp),trivial⟩ (Nat.zero_le _) rfl (eH _ _ _ _ _ _)⟩
     ·rw [decide_eq_false_iff_not] at h5
      repeat' (first |refine u1 ?_ |refine u2 ?_ |fail)
      refine ⟨[eI _],⟨fun el hel=>by rw [List.mem_singleton.1 hel];rfl,rfl⟩,rfl,_,rfl,by simp,jd d,And.intro (by dsimp only [List.length];omega) (by dsimp only [List.length];omega),fun hn=>absurd hn (by simp),fun _=>?_⟩
      repeat' (first |refine u1 ?_ |fail)
      refine ⟨d+1,hlt,(by dsimp only;omega),ai.to 1 (ew (by rw [hhv];omega)) ⟨rfl,rfl,rfl,rfl,aH (by rw [hhv];omega),aH (by rw [hsh,if_neg (by omega)]),aH (by rw [hus,hbr,hhv,hud];omega),aH (by rw [hbr]),rfl,aH (by simp),trivial⟩ (Nat.zero_le _) rfl (eH _ _ _ _ _ _)⟩
   ·rw [decide_eq_false_iff_not] at h3
    rw [if_neg h3] at hhv hsh
    repeat' (first |refine u1 ?_ |refine u2 ?_ |fail)
    refine RM.e1 rfl ⟨fun h5=>?_,fun h5=>?_⟩
    ·rw [decide_eq_true_eq] at h5
     repeat' (first |refine u1 ?_ |refine u2 ?_ |fail)
     refine ⟨[eI _],⟨fun el hel=>by rw [List.mem_singleton.1 hel];rfl,rfl⟩,rfl,_,rfl,by simp,jd d,And.intro (by dsimp only [List.length];omega) (by dsimp only [List.length];omega),fun hn=>absurd hn (by simp),fun _=>?_⟩
     repeat' (first |refine u1 ?_ |fail)
     refine ⟨d+1,hlt,(by dsimp only;omega),ai.to 1 (ew (by rw [hhv];omega)) ⟨rfl,rfl,rfl,rfl,aH (by rw [hhv];omega),aH (by rw [hsh,if_pos (by omega)]),aH (by rw [hus,hbr,hhv,hud];omega),aH (by rw [hbr]),rfl,aH (by simp),trivial⟩ (Nat.zero_le _) rfl (eH _ _ _ _ _ _)⟩
    ·rw [decide_eq_false_iff_not] at h5
     repeat' (first |refine u1 ?_ |refine u2 ?_ |fail)
     refine ⟨[eI _],⟨fun el hel=>by rw [List.mem_singleton.1 hel];rfl,rfl⟩,rfl,_,rfl,by simp,jd d,And.intro (by dsimp only [List.length];omega) (by dsimp only [List.length];omega),fun hn=>absurd hn (by simp),fun _=>?_⟩
     repeat' (first |refine u1 ?_ |fail)
     refine ⟨d+1,hlt,(by dsimp only;omega),ai.to 1 (ew (by rw [hhv];omega)) ⟨rfl,rfl,rfl,rfl,aH (by rw [hhv];omega),aH (by rw [hsh,if_neg (by omega)]),aH (by rw [hus,hbr,hhv,hud];omega),aH (by rw [hbr]),rfl,aH (by simp),trivial⟩ (Nat.zero_le _) rfl (eH _ _ _ _ _ _)⟩
 ·have hd:d=s.au.length:=by rw [em,decide_eq_false_iff_not] at h2;omega
  subst hd
  repeat' (first |refine u1 ?_ |fail)
  exact ⟨[_,_,_,_],⟨D4 _ _ _ _ _ _,Fz.deep rfl,Fz.deep rfl,Fz.deep rfl,trivial⟩,rfl⟩
end Go.Proofs.YtalcbebjpgfnfaaGreat.St
open Go Go.RM
namespace Go.Proofs.YtalcbebjpgfnfaaGreat.St
set_option maxRecDepth 100000
set_option maxHeartbeats 4000000
theorem IC (one:Bool) (g:FuncId) (fs cs:List AV) (hF:(AV.fn g fs cs).deep=true) (lo i:Int) (b:Bool) (hb:-1000000000≤lo∧lo≤1000000000∧0≤i∧i≤1000000000) (hp:af TT TB one (.fn g fs cs) [ah (lo+i)] (BB b)) :
  af TT TB one (.fn 102 [] [.pt [.fn g fs cs] 0,.pt [ah lo] 0]) [ah i] (BB b):=by
 refine af.body (fn:=Tryz.f102) rfl rfl rfl rfl ?_
 refine aa (mu:=fun _=>false) ?_
 repeat' (first |refine u1 ?_ |refine u2 ?_ |refine af.call hp hF rfl ?_ |fail)
 exact ⟨[_],⟨Fz.deep rfl,trivial⟩,rfl⟩
theorem Ff (one:Bool) (g:FuncId) (fs cs:List AV) (hF:(AV.fn g fs cs).deep=true) (lo:Int) (n:Nat) (hlo:-1000000≤lo∧lo≤1000000) (hn:n≤1000000) (p:Int→Bool) (hp:∀ i:Nat,i < n→af TT TB true (.fn g fs cs) [ah (lo+i)] (BB (p (lo+i)))) :
  Pu one 57 [ah lo,ah (lo+n - 1),.fn g fs cs] (ah (lo+bs (fun i=>p (lo+(i:Int))) 0 n)):=by
 have hs:=CR true 102 [] [.pt [.fn g fs cs] 0,.pt [ah lo] 0] rfl (fun i=>p (lo+(i:Int))) n (by omega) fun i hi=>IC true g fs cs hF lo i _ (by omega) (hp i hi)
 have hb:=pq (fun i=>p (lo+(i:Int))) 0 n (Nat.zero_le _)
 generalize bs (fun i=>p (lo+(i:Int))) 0 n=r at hs hb
 have he:lo+(n:Int) - 1 - lo+1=n:=by omega
 refine af.body (fn:=Tryz.f57) rfl rfl rfl rfl ?_
 refine aa (mu:=fun _=>false) ?_
 repeat' (first |(refine ⟨rfl,rfl,(by show ((AV.fn g fs cs).deep && true)=true;rw [hF];rfl),?_⟩) |refine u1 ?_ |with_reducible refine RM.EL rfl ?_ |refine u2 ?_ |fail)
 rw [he]
 refine ⟨_,hs,?_⟩
 repeat' (first |refine u1 ?_ |refine u2 ?_ |fail)
 exact ⟨[_],⟨Fz.deep rfl,trivial⟩,rfl⟩
end Go.Proofs.YtalcbebjpgfnfaaGreat.St
open Go Go.RM
namespace Go.Proofs.YtalcbebjpgfnfaaGreat.St
set_option maxRecDepth 100000
set_option maxHeartbeats 4000000
def lvl (au:List Int) (k:Kind) (row:List Int) (t:aE):List Int:=(List.range (au.length+1)).map (aW au k row t au.length)
theorem vJ (au:List Int) (k:Kind) (row:List Int) (t:aE):(lvl au k row t).length=au.length+1:=by simp [lvl]
def tf (lv:List Int) (c:Count):Bool:=decide (c.cz.hi < lv.getD c.day.toNat 0)
def pF (lv:List Int) (c:Count):Bool:=decide (lv.getD c.day.toNat 0 < c.cz.lo)
def cu (au:List Int) (k:Kind) (row:List Int) (f:List Count) (passed:Bool) (t:aE):Bool :=
 bif passed then f.any (tf (lvl au k row t)) else !(f.any (pF (lvl au k row t)))
theorem A9 {L:List Int} {d:Int} (h:0≤d∧d < L.length):(L.map eI)[d.toNat]?=some (eI (L.getD d.toNat 0)):=by
 rw [List.getElem?_map,List.getD_eq_getElem?_getD,List.getElem?_eq_getElem (by omega)]
 rfl
theorem L6 (one:Bool) (L:List Int) (c:Count) (h:0≤c.day∧c.day < L.length):af TT TB one (.fn 136 [] [.pt [.sl (L.map eI) false] 0]) [.ag (aG c)] (BB (tf L c)):=by
 refine af.body (fn:=Tryz.f136) rfl rfl rfl rfl ?_
 refine aa (mu:=fun _=>false) ?_
 repeat' (first |refine u1 ?_ |with_reducible refine RM.EL rfl ?_ |refine u2 ?_ |refine ⟨eI _,⟨h.1,A9 h⟩,rfl,?_⟩ |fail)
 exact ⟨[_],⟨Fz.deep rfl,trivial⟩,rfl⟩
theorem Kn (one:Bool) (L:List Int) (c:Count) (h:0≤c.day∧c.day < L.length):af TT TB one (.fn 137 [] [.pt [.sl (L.map eI) false] 0]) [.ag (aG c)] (BB (pF L c)):=by
 refine af.body (fn:=Tryz.f137) rfl rfl rfl rfl ?_
 refine aa (mu:=fun _=>false) ?_
 repeat' (first |refine u1 ?_ |with_reducible refine RM.EL rfl ?_ |refine u2 ?_ |refine ⟨eI _,⟨h.1,A9 h⟩,rfl,?_⟩ |fail)
 exact ⟨[_],⟨Fz.deep rfl,trivial⟩,rfl⟩
structure lR (s:aB) (k:Kind) (row:List Int) (f:List Count):Prop where
 good:Good s
 kind:lM k
 row:gA 9 row
 cnt:∀ c ∈ f,0≤c.day∧c.day≤s.au.length
 len:f.length≤1000
theorem MZ {one:Bool} {s:aB} {k:Kind} {row:List Int} {cnts:List (List AV)} {t:aE} (h:eK s.au k row t) :
  Pu one 90 [.ag (aF s k row (.sl cnts false)),.ag (aV t),ah s.au.length] (.tp [.sl ((lvl s.au k row t).map eI) false,ah (bD s.au k row t s.au.length s.au.length)]):=by
 have:=Lf one s k row cnts t s.au.length h
 rw [show ((List.range (s.au.length+1)).map fun i=>eI (aW s.au k row t s.au.length i))=(lvl s.au k row t).map eI by unfold lvl;rw [List.map_map];rfl] at this
 exact this
theorem ID (one passed:Bool) {s:aB} {k:Kind} {row:List Int} {f:List Count} (h:lR s k row f) (t:aE) (n:Int) (hr:eK s.au k row ⟨n,t.aR,t.ay⟩) :
  af TT TB one (.fn 134 [] [.pt (aF s k row (.sl (f.map aG) false)) 0,.pt (aV t) 0,.pt [BB passed] 0]) [ah n] (BB (cu s.au k row f passed ⟨n,t.aR,t.ay⟩)):=by
 have em:((s.au.map eI).length:Int)=s.au.length:=by simp
 have h30:=h.row.len
 have hrun:=MZ (one:=one) (cnts:=f.map aG) hr
 rw [←em] at hrun
 have hl:=vJ s.au k row ⟨n,t.aR,t.ay⟩
 have hfl:f.length≤maxLen:=by have:=h.len;unfold maxLen;omega
 have ho:=ny one 136 [] [.pt [.sl ((lvl s.au k row ⟨n,t.aR,t.ay⟩).map eI) false] 0] rfl (tf (lvl s.au k row ⟨n,t.aR,t.ay⟩)) f false hfl fun c hc=>L6 one _ c (by have:=h.cnt c hc;omega)
 have hu:=ny one 137 [] [.pt [.sl ((lvl s.au k row ⟨n,t.aR,t.ay⟩).map eI) false] 0] rfl (pF (lvl s.au k row ⟨n,t.aR,t.ay⟩)) f false hfl fun c hc=>Kn one _ c (by have:=h.cnt c hc;omega)
 unfold cu
 generalize lvl s.au k row ⟨n,t.aR,t.ay⟩=L at *
 refine af.body (fn:=Tryz.f134) rfl rfl rfl rfl ?_
 refine RM.de (mu:=fun _=>false) ?_
 repeat' (first |refine u1 ?_ |fail)
 refine RM.de (mu:=fun _=>false) ?_
 repeat' (first |refine u1 ?_ |refine u2 ?_ |(refine And.intro (by rw [dS h30];exact Nat.le_refl _) ?_) |fail)
 rw [nA h30]
 repeat' (first |refine u1 ?_ |refine u2 ?_ |(refine af.call hrun rfl (by simp only [bw,Bool.and_true,iJ (c:=.sl _ false) rfl];rfl) ?_) |fail)
 refine az.aK (ai.giveUp 0 (l:=[(1,.pt (aF s k row (.sl (f.map aG) false)) 0),(3,.pt [BB passed] 0),(6,.pt [.sl (L.map eI) false] 0)]) (hp:=[.gone]) rfl (Nat.le_refl _) rfl ⟨.same rfl,.same rfl,.ptr,trivial⟩ rfl rfl) ?_
 refine aa (mu:=fun _=>false) ?_
 cases passed with
 | true =>
  repeat' (first |refine u1 ?_ |refine u2 ?_ |refine ⟨_,qg h30,?_⟩ |refine af.call ho rfl rfl ?_ |fail)
  exact ⟨[_],⟨Fz.deep rfl,trivial⟩,rfl⟩
 | false =>
  repeat' (first |refine u1 ?_ |refine u2 ?_ |refine ⟨_,qg h30,?_⟩ |refine af.call hu rfl rfl ?_ |fail)
  exact ⟨[_],⟨Fz.deep rfl,trivial⟩,rfl⟩
theorem CS (one passed:Bool) (H T:List AV):af TT TB one (.fn 133 [] [.pt H 0,.pt T 0]) [BB passed] (.fn 134 [] [.pt H 0,.pt T 0,.pt [BB passed] 0]):=by
 refine af.body (fn:=Tryz.f133) rfl rfl rfl rfl ?_
 refine aa (mu:=fun _=>false) ?_
 repeat' (first |refine u1 ?_ |refine u2 ?_ |fail)
 exact ⟨[_],⟨Fz.deep rfl,trivial⟩,rfl⟩
end Go.Proofs.YtalcbebjpgfnfaaGreat.St
