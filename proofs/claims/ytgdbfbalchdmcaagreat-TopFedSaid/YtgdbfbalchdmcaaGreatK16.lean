/-
  Contracts of the program's functions and of the document's. Lemmas alone; their conditions stand in them.
-/
import Derived.Test.YtgdbfbalchdmcaaGreatA3
import Derived.Test.YtgdbfbalchdmcaaGreatK11
import Derived.Test.YtgdbfbalchdmcaaGreatK15
open Go Go.RM
namespace Go.Proofs.YtgdbfbalchdmcaaGreat.St
set_option maxRecDepth 100000
set_option maxHeartbeats 4000000
theorem Nb {n:Int} (h:0≤n∧n≤65535):cZ (aD TT.P (convert 32 3 (.int .u16 n)))=some (.int .i64 n,.none):=by
 have:cZ (aD TT.P (convert 32 3 (.int .u16 n)))=some (.int .i64 (IntKind.i64.wrap n),.none):=rfl
 rw [this,IntWalk.i64_in n (by omega)]
theorem OK {n:Int} (h:0≤n∧n≤255):cZ (aD TT.P (convert 5 3 (.int .u8 n)))=some (.int .i64 n,.none):=by
 have:cZ (aD TT.P (convert 5 3 (.int .u8 n)))=some (.int .i64 (IntKind.i64.wrap n),.none):=rfl
 rw [this,IntWalk.i64_in n (by omega)]
def sJ (s:Span) (n:Int):Int:=s.lo+n % (s.hi - s.lo+1)
structure yX (s:Span):Prop where
 lo:-1000000≤s.lo
 le:s.lo≤s.hi
 hi:s.hi≤1000000
theorem vc {s:Span} (h:yX s) (n:Int):s.lo≤sJ s n∧sJ s n≤s.hi:=by
 have h0:=h.le
 have h1:=Int.emod_nonneg n (show s.hi - s.lo+1 ≠ 0 by omega)
 have h2:=Int.emod_lt_of_pos n (show 0 < s.hi - s.lo+1 by omega)
 unfold sJ
 omega
theorem B8 (one:Bool) (s:Span) (n:Int) (hn:0≤n∧n≤1000000) (hs:yX s):Pu one 42 [.ag (vW s),ak n] (ak (sJ s n)):=by
 have h0:=hs.le
 have h3:=hs.lo
 have h4:=hs.hi
 have h1:=Int.emod_nonneg n (show s.hi - s.lo+1 ≠ 0 by omega)
 have h2:=Int.emod_lt_of_pos n (show 0 < s.hi - s.lo+1 by omega)
 refine af.body (fn:=Tryz.f42) rfl rfl rfl rfl ?_
 refine aa (mu:=fun _=>false) ?_
 repeat' (first |refine u1 ?_ |with_reducible refine RM.IY rfl ?_ |refine u2 ?_ |fail)
 exact ⟨[_],⟨Fz.deep rfl,trivial⟩,rfl⟩
def Lz (k:Kind) (a b c:Int):aN:=⟨sJ k.first a,sJ k.aR b,sJ k.ay c⟩
def rZ (n:Int):Prop:=0≤n∧n≤65535
theorem mH.Mh {k:Kind} (h:mH k):yX k.first∧yX k.aR∧yX k.ay:=by
 have:=h.first
 have:=h.aR
 have:=h.ay
 exact ⟨⟨by omega,by omega,by omega⟩,⟨by omega,by omega,by omega⟩,⟨by omega,by omega,by omega⟩⟩
theorem N6 (one:Bool) (k:Kind) (h:mH k) (a b c:Int) (ha:rZ a) (hb:rZ b) (hc:rZ c):Pu one 10 [.ag (bD k),.ag [Lt a,Lt b,Lt c]] (.ag (dg (Lz k a b c))):=by
 have hs:=h.Mh
 unfold rZ at ha hb hc
 have ca:=B8 true k.first a (by omega) hs.1
 have cb:=B8 true k.aR b (by omega) hs.2.1
 have cc:=B8 true k.ay c (by omega) hs.2.2
 refine af.body (fn:=Tryz.f10) rfl rfl rfl rfl ?_
 refine aa (mu:=fun _=>false) ?_
 repeat' (first |refine ⟨_,Nb ha,rfl,?_⟩ |refine ⟨_,Nb hb,rfl,?_⟩ |refine ⟨_,Nb hc,rfl,?_⟩ |refine u1 ?_ |with_reducible refine RM.IY rfl ?_ |refine u2 ?_ |refine ⟨_,ca,?_⟩ |refine ⟨_,cb,?_⟩ |refine ⟨_,cc,?_⟩ |fail)
 exact ⟨[_],⟨Fz.deep rfl,trivial⟩,rfl⟩
def ng (ah:List Int) (k:Kind) (row:List Int) (t:aN) (down:Int):Nat→Int
 | 0=>0
 | i+1=>ng ah k row t down i+min (row.getD i 0) (max 0 (k.room - bu ah k row t down i))
def qG (ah:List Int) (k:Kind) (row:List Int) (t:aN) (down:Int) (i:Nat):Int:=t.first+ng ah k row t down i - bu ah k row t down i
theorem iE.N7 {ah:List Int} {k:Kind} {row:List Int} {t:aN} (h:iE ah k row t) (down:Int):∀ i,i≤ah.length→0≤ng ah k row t down i∧ng ah k row t down i≤300 * i
 | 0,_=>⟨Int.le_refl _,Int.le_refl _⟩
 | i+1,hi=>by
  have ih:=h.N7 down i (by omega)
  have h2:=h.row.get (d:=i) (by have:=h.DW;omega)
  have h3:=h.room
  have h4:=h.AG down i (by omega)
  simp only [ng]
  omega
theorem JV (one:Bool) (s:aC) (hg:Good s) (i:Nat) (hi:i < s.kinds.length) (t:aN) (down:Int) (h:iE s.ah s.kinds[i] (av i s.ai) t) :
  Pu one 43 [.ag (aF s),ak i,.ag (dg t),ak down] (.tp [.sl ((List.range (s.ah.length+1)).map fun j=>eI (bu s.ah s.kinds[i] (av i s.ai) t down j)) false,ak (ck s.ah s.kinds[i] (av i s.ai) t down s.ah.length),
   ak (qG s.ah s.kinds[i] (av i s.ai) t down s.ah.length),ak (ng s.ah s.kinds[i] (av i s.ai) t down s.ah.length)]):=by
 have em:((s.ah.map eI).length:Int)=s.ah.length:=by simp
 have ec:((s.ai.map cr).length:Int)=s.ai.length:=by simp
 have h8:=lW hg.sizes
 have hrowd:∀ d:Nat,av i (s.ai.take s.ai.length)=av i s.ai:=fun _=>by rw [List.take_length]
 refine af.body (fn:=Tryz.f43) rfl rfl rfl rfl ?_
 refine aa (mu:=fun t=>Nat.beq t 29 || Nat.beq t 135) ?_
 repeat' (first |refine u1 ?_ |with_reducible refine RM.IY rfl ?_ |refine u2 ?_ |fail)
 refine aG.aU (aj.to (l:=[(1,ak i),(3,ak down),(4,.pt (aF s) 0),(6,.pt (dg t) 0),(12,ak t.first),(13,ak s.ah.length),(14,ak (qG s.ah s.kinds[i] (av i s.ai) t down 0)),(15,ak 0),(16,.dM 0 0 0 1 1),(17,ak ((0:Nat):Int))]) (hp:=[wC s.ah s.kinds[i] (av i s.ai) t down 0]) 1 rfl ⟨rfl,rfl,rfl,rfl,rfl,aJ em,aJ (by simp [qG,ng,bu]),rfl,rfl,rfl,trivial⟩ (Nat.zero_le _) rfl rfl) ?_
 refine aG.loop (fun d:Nat=>d≤s.ah.length) (fun d=>⟨bT [(1,ak i),(3,ak down),(4,.pt (aF s) 0),(6,.pt (dg t) 0),(12,ak (bu s.ah s.kinds[i] (av i s.ai) t down d)),(13,ak (ck s.ah s.kinds[i] (av i s.ai) t down d)),(14,ak (qG s.ah s.kinds[i] (av i s.ai) t down d)),(15,ak (ng s.ah s.kinds[i] (av i s.ai) t down d)),(16,.dM 0 d 0 (d+1) (B6 d)),(17,ak (d:Int))],[wC s.ah s.kinds[i] (av i s.ai) t down d],bW.none,false,0⟩) (fun d=>s.ah.length - d) ?_ 0 (Nat.zero_le _)
 intro d hd
 refine aa (mu:=fun t=>Nat.beq t 29 || Nat.beq t 135) ?_
 repeat' (first |refine u1 ?_ |refine u2 ?_ |fail)
 refine RM.e1 rfl ⟨fun h2=>?_,fun h2=>?_⟩
 ·have hlt:d < s.ah.length:=by simpa only [em,decide_eq_true_eq,Int.ofNat_lt] using h2
  have b1:=h.n hlt
  have b2:=nc b1 h.aR
  have b3:=nc b2 h.dK
  have b4:=h.AG down d hd
  have b5:=h.row.get (d:=d) (by have:=h.DW;omega)
  have b6:=h.room
  have b7:=h.ay
  have b9:=h.N7 down d hd
  have hget:s.ah[d]=s.ah.getD d 0:=by rw [List.getD_eq_getElem?_getD,List.getElem?_eq_getElem hlt];rfl
  have hhv:=AH s.ah s.kinds[i] (av i s.ai) t down d
  have hsh:=yW s.ah s.kinds[i] (av i s.ai) t down d
  have hbr:ng s.ah s.kinds[i] (av i s.ai) t down (d+1)=ng s.ah s.kinds[i] (av i s.ai) t down d+min ((av i s.ai).getD d 0) (max 0 (s.kinds[i].room - bu s.ah s.kinds[i] (av i s.ai) t down d)):=rfl
  have hus:qG s.ah s.kinds[i] (av i s.ai) t down (d+1)=t.first+ng s.ah s.kinds[i] (av i s.ai) t down (d+1) - bu s.ah s.kinds[i] (av i s.ai) t down (d+1):=rfl
  have hud:qG s.ah s.kinds[i] (av i s.ai) t down d=t.first+ng s.ah s.kinds[i] (av i s.ai) t down d - bu s.ah s.kinds[i] (av i s.ai) t down d:=rfl
  have hft:=h.first
  rw [←hget] at b1 b2 b3 hhv hsh
  repeat' (first |refine u1 ?_ |fail)
  refine aG.aU (aj.to (l:=[(1,ak i),(3,ak down),(4,.pt (aF s) 0),(6,.pt (dg t) 0),(12,ak (bu s.ah s.kinds[i] (av i s.ai) t down d)),(13,ak (ck s.ah s.kinds[i] (av i s.ai) t down d)),(14,ak (qG s.ah s.kinds[i] (av i s.ai) t down d)),(15,ak (ng s.ah s.kinds[i] (av i s.ai) t down d)),(16,.dM 0 d 0 (d+1) (B6 d)),(17,ak (d:Int)),(18,ak ((av i (s.ai.take 0)).getD d 0)),(19,ak ((0:Nat):Int))]) (hp:=[wC s.ah s.kinds[i] (av i s.ai) t down d]) 1 rfl ⟨rfl,rfl,rfl,rfl,rfl,rfl,rfl,rfl,rfl,rfl,aJ (by have:=(jF.zero (k:=(i:Int))).get (d:=d) (by omega);show 0=(av i []).getD d 0;omega),rfl,trivial⟩ (Nat.zero_le _) rfl (eY _ _ _ _ _ _)) ?_
  refine aG.loop (fun j:Nat=>j≤s.ai.length) (fun j=>⟨bT [(1,ak i),(3,ak down),(4,.pt (aF s) 0),(6,.pt (dg t) 0),(12,ak (bu s.ah s.kinds[i] (av i s.ai) t down d)),(13,ak (ck s.ah s.kinds[i] (av i s.ai) t down d)),(14,ak (qG s.ah s.kinds[i] (av i s.ai) t down d)),(15,ak (ng s.ah s.kinds[i] (av i s.ai) t down d)),(16,.dM 0 d 0 (d+1) (B6 d)),(17,ak (d:Int)),(18,ak ((av i (s.ai.take j)).getD d 0)),(19,ak (j:Int))],[wC s.ah s.kinds[i] (av i s.ai) t down d],bW.none,false,0⟩) (fun j=>s.ai.length - j) ?_ 0 (Nat.zero_le _)
  intro j hj
  have hrow:jF (s.ai.take j).length (av i (s.ai.take j)):=m9 fun c hx=>by have:=hg.ai c (List.mem_of_mem_take hx);omega
  have hrl:(s.ai.take j).length=j:=by simp;omega
  rw [hrl] at hrow
  have hget:=hrow.get (d:=d) (by omega)
  refine aa (mu:=fun t=>Nat.beq t 29 || Nat.beq t 135) ?_
  repeat' (first |refine u1 ?_ |refine u2 ?_ |fail)
  refine RM.e1 rfl ⟨fun h2=>?_,fun h2=>?_⟩
  ·have hlt:j < s.ai.length:=by simpa only [ec,decide_eq_true_eq,Int.ofNat_lt] using h2
   have hcj:=hg.ai s.ai[j] (List.getElem_mem hlt)
   have hrow':(av i (s.ai.take (j+1))).getD d 0=if s.ai[j].day=(d:Int)∧s.ai[j].kind=(i:Int) then (av i (s.ai.take j)).getD d 0+s.ai[j].cE else (av i (s.ai.take j)).getD d 0:=by
    rw [List.take_add_one,List.getElem?_eq_getElem hlt]
    exact (congrArg (fun l=>l.getD d 0) (nB _ _ _)).trans (rY (by rw [hrow.len];omega) hcj.1.1)
   clear hhv hsh hbr hus hud b1 b2 b3 b4 b5 b6 b7 b9 hft
   generalize (av i (s.ai.take j)).getD d 0=sum at hget hrow'
   repeat' (first |refine u1 ?_ |refine u2 ?_ |refine ⟨cr s.ai[j],⟨by omega,bP hlt⟩,rfl,?_⟩ |((with_reducible show cX _ _ _ _ _);refine rU rfl rfl (fun h=>?_) (fun h=>?_)) |((with_reducible show kC _ _ _ _ (.cond _ _ _) _ _);refine RM.e1 rfl ⟨fun h=>?_,fun h=>?_⟩) |fail)
   all_goals refine ⟨j+1,hlt,(by dsimp only;omega),aj.to 1 rfl ⟨rfl,rfl,rfl,rfl,rfl,rfl,rfl,rfl,rfl,rfl,aJ ?_,aJ (by simp),trivial⟩ (Nat.zero_le _) rfl (eY _ _ _ _ _ _)⟩
   all_goals rw [hrow']
   all_goals simp_all
  ·have hj:s.ai.take j=s.ai:=List.take_of_length_le (by rw [ec,decide_eq_false_iff_not] at h2;omega)
   rw [hj] at hget ⊢
   clear hrow hrl hrowd
   repeat' (first |refine u1 ?_ |with_reducible refine RM.IY rfl ?_ |refine u2 ?_ |refine ⟨bD s.kinds[i],⟨by omega,bP hi⟩,rfl,?_⟩ |refine ⟨eI s.ah[d],⟨by omega,bP hlt⟩,rfl,?_⟩ |fail)
   refine RM.e1 rfl ⟨fun h3=>?_,fun h3=>?_⟩
   ·rw [decide_eq_true_eq] at h3
    rw [if_pos h3] at hhv hsh
    repeat' (first |refine u1 ?_ |refine u2 ?_ |refine ⟨bD s.kinds[i],⟨by omega,bP hi⟩,rfl,?_⟩ |fail)
    refine RM.e1 rfl ⟨fun h4=>?_,fun h4=>?_⟩
    ·rw [decide_eq_true_eq] at h4
     repeat' (first |refine u1 ?_ |refine u2 ?_ |fail)
     refine RM.e1 rfl ⟨fun h5=>?_,fun h5=>?_⟩
     ·rw [decide_eq_true_eq] at h5
      repeat' (first |refine u1 ?_ |refine u2 ?_ |fail)
      refine ⟨[eI _],⟨fun el hel=>by rw [List.mem_singleton.1 hel];rfl,rfl⟩,rfl,.inl ⟨rfl,_,rfl,by simp,jG d,And.intro (by dsimp only [List.length];omega) (by dsimp only [List.length];omega),fun hn=>absurd hn (by simp),fun _=>?_⟩⟩
      repeat' (first |refine u1 ?_ |fail)
      refine ⟨d+1,hlt,(by dsimp only;omega),aj.to 1 (eL (by rw [hhv];omega)) ⟨rfl,rfl,rfl,rfl,aJ (by rw [hhv];omega),aJ (by rw [hsh,if_pos (by omega)]),aJ (by rw [hus,hbr,hhv,hud];omega),aJ (by rw [hbr]),rfl,aJ (by simp),trivial⟩ (Nat.zero_le _) rfl (eY _ _ _ _ _ _)⟩
     ·rw [decide_eq_false_iff_not] at h5
      repeat' (first |refine u1 ?_ |refine u2 ?_ |fail)
      refine ⟨[eI _],⟨fun el hel=>by rw [List.mem_singleton.1 hel];rfl,rfl⟩,rfl,.inl ⟨rfl,_,rfl,by simp,jG d,And.intro (by dsimp only [List.length];omega) (by dsimp only [List.length];omega),fun hn=>absurd hn (by simp),fun _=>?_⟩⟩
      repeat' (first |refine u1 ?_ |fail)
      refine ⟨d+1,hlt,(by dsimp only;omega),aj.to 1 (eL (by rw [hhv];omega)) ⟨rfl,rfl,rfl,rfl,aJ (by rw [hhv];omega),aJ (by rw [hsh,if_neg (by omega)]),aJ (by rw [hus,hbr,hhv,hud];omega),aJ (by rw [hbr]),rfl,aJ (by simp),trivial⟩ (Nat.zero_le _) rfl (eY _ _ _ _ _ _)⟩
    ·rw [decide_eq_false_iff_not] at h4
     repeat' (first |refine u1 ?_ |refine u2 ?_ |fail)
     refine RM.e1 rfl ⟨fun h5=>?_,fun h5=>?_⟩
     ·rw [decide_eq_true_eq] at h5
      repeat' (first |refine u1 ?_ |refine u2 ?_ |fail)
      refine ⟨[eI _],⟨fun el hel=>by rw [List.mem_singleton.1 hel];rfl,rfl⟩,rfl,.inl ⟨rfl,_,rfl,by simp,jG d,And.intro (by dsimp only [List.length];omega) (by dsimp only [List.length];omega),fun hn=>absurd hn (by simp),fun _=>?_⟩⟩
      repeat' (first |refine u1 ?_ |fail)
      refine ⟨d+1,hlt,(by dsimp only;omega),aj.to 1 (eL (by rw [hhv];omega)) ⟨rfl,rfl,rfl,rfl,aJ (by rw [hhv];omega),aJ (by rw [hsh,if_pos (by omega)]),aJ (by rw [hus,hbr,hhv,hud];omega),aJ (by rw [hbr]),rfl,aJ (by simp),trivial⟩ (Nat.zero_le _) rfl (eY _ _ _ _ _ _)⟩
     ·rw [decide_eq_false_iff_not] at h5
      repeat' (first |refine u1 ?_ |refine u2 ?_ |fail)
      refine ⟨[eI _],⟨fun el hel=>by rw [List.mem_singleton.1 hel];rfl,rfl⟩,rfl,.inl ⟨rfl,_,rfl,by simp,jG d,And.intro (by dsimp only [List.length];omega) (by dsimp only [List.length];omega),fun hn=>absurd hn (by simp),fun _=>?_⟩⟩
      repeat' (first |refine u1 ?_ |fail)
      refine ⟨d+1,hlt,(by dsimp only;omega),aj.to 1 (eL (by rw [hhv];omega)) ⟨rfl,rfl,rfl,rfl,aJ (by rw [hhv];omega),aJ (by rw [hsh,if_neg (by omega)]),aJ (by rw [hus,hbr,hhv,hud];omega),aJ (by rw [hbr]),rfl,aJ (by simp),trivial⟩ (Nat.zero_le _) rfl (eY _ _ _ _ _ _)⟩
   ·rw [decide_eq_false_iff_not] at h3
    rw [if_neg h3] at hhv hsh
    repeat' (first |refine u1 ?_ |refine u2 ?_ |fail)
    refine RM.e1 rfl ⟨fun h5=>?_,fun h5=>?_⟩
    ·rw [decide_eq_true_eq] at h5
     repeat' (first |refine u1 ?_ |refine u2 ?_ |fail)
     refine ⟨[eI _],⟨fun el hel=>by rw [List.mem_singleton.1 hel];rfl,rfl⟩,rfl,.inl ⟨rfl,_,rfl,by simp,jG d,And.intro (by dsimp only [List.length];omega) (by dsimp only [List.length];omega),fun hn=>absurd hn (by simp),fun _=>?_⟩⟩
     repeat' (first |refine u1 ?_ |fail)
     refine ⟨d+1,hlt,(by dsimp only;omega),aj.to 1 (eL (by rw [hhv];omega)) ⟨rfl,rfl,rfl,rfl,aJ (by rw [hhv];omega),aJ (by rw [hsh,if_pos (by omega)]),aJ (by rw [hus,hbr,hhv,hud];omega),aJ (by rw [hbr]),rfl,aJ (by simp),trivial⟩ (Nat.zero_le _) rfl (eY _ _ _ _ _ _)⟩
    ·rw [decide_eq_false_iff_not] at h5
     repeat' (first |refine u1 ?_ |refine u2 ?_ |fail)
     refine ⟨[eI _],⟨fun el hel=>by rw [List.mem_singleton.1 hel];rfl,rfl⟩,rfl,.inl ⟨rfl,_,rfl,by simp,jG d,And.intro (by dsimp only [List.length];omega) (by dsimp only [List.length];omega),fun hn=>absurd hn (by simp),fun _=>?_⟩⟩
     repeat' (first |refine u1 ?_ |fail)
     refine ⟨d+1,hlt,(by dsimp only;omega),aj.to 1 (eL (by rw [hhv];omega)) ⟨rfl,rfl,rfl,rfl,aJ (by rw [hhv];omega),aJ (by rw [hsh,if_neg (by omega)]),aJ (by rw [hus,hbr,hhv,hud];omega),aJ (by rw [hbr]),rfl,aJ (by simp),trivial⟩ (Nat.zero_le _) rfl (eY _ _ _ _ _ _)⟩
 ·have hd:d=s.ah.length:=by rw [em,decide_eq_false_iff_not] at h2;omega
  subst hd
  repeat' (first |refine u1 ?_ |fail)
  exact ⟨[_,_,_,_],⟨Fw _ _ _ _ _ _,Fz.deep rfl,Fz.deep rfl,Fz.deep rfl,trivial⟩,rfl⟩
end Go.Proofs.YtgdbfbalchdmcaaGreat.St
open Go Go.RM
namespace Go.Proofs.YtgdbfbalchdmcaaGreat.St
set_option maxRecDepth 100000
set_option maxHeartbeats 4000000
theorem JW (one:Bool) (g:FuncId) (fs cs:List AV) (hF:(AV.fn g fs cs).deep=true) (lo i:Int) (b:Bool) (hb:-1000000000≤lo∧lo≤1000000000∧0≤i∧i≤1000000000) (hp:af TT TB one (.fn g fs cs) [ak (lo+i)] (BB b)) :
  af TT TB one (.fn 109 [] [.pt [.fn g fs cs] 0,.pt [ak lo] 0]) [ak i] (BB b):=by
 refine af.body (fn:=Tryz.f109) rfl rfl rfl rfl ?_
 refine aa (mu:=fun _=>false) ?_
 repeat' (first |refine u1 ?_ |refine u2 ?_ |refine af.call hp hF rfl ?_ |fail)
 exact ⟨[_],⟨Fz.deep rfl,trivial⟩,rfl⟩
theorem LA (one:Bool) (g:FuncId) (fs cs:List AV) (hF:(AV.fn g fs cs).deep=true) (lo:Int) (n:Nat) (hlo:-1000000≤lo∧lo≤1000000) (hn:n≤1000000) (p:Int→Bool) (hp:∀ i:Nat,i < n→af TT TB true (.fn g fs cs) [ak (lo+i)] (BB (p (lo+i)))) :
  Pu one 60 [ak lo,ak (lo+n - 1),.fn g fs cs] (ak (lo+bs (fun i=>p (lo+(i:Int))) 0 n)):=by
 have hs:=JJ true 109 [] [.pt [.fn g fs cs] 0,.pt [ak lo] 0] rfl (fun i=>p (lo+(i:Int))) n (by omega) fun i hi=>JW true g fs cs hF lo i _ (by omega) (hp i hi)
 have hb:=tZ (fun i=>p (lo+(i:Int))) 0 n (Nat.zero_le _)
 generalize bs (fun i=>p (lo+(i:Int))) 0 n=r at hs hb
 have he:lo+(n:Int) - 1 - lo+1=n:=by omega
 refine af.body (fn:=Tryz.f60) rfl rfl rfl rfl ?_
 refine aa (mu:=fun _=>false) ?_
 repeat' (first |(refine ⟨rfl,rfl,(by show ((AV.fn g fs cs).deep && true)=true;rw [hF];rfl),?_⟩) |refine u1 ?_ |with_reducible refine RM.IY rfl ?_ |refine u2 ?_ |fail)
 rw [he]
 refine ⟨_,hs,?_⟩
 repeat' (first |refine u1 ?_ |refine u2 ?_ |fail)
 exact ⟨[_],⟨Fz.deep rfl,trivial⟩,rfl⟩
end Go.Proofs.YtgdbfbalchdmcaaGreat.St
open Go Go.RM
namespace Go.Proofs.YtgdbfbalchdmcaaGreat.St
set_option maxRecDepth 100000
set_option maxHeartbeats 4000000
def lvl (ah:List Int) (k:Kind) (row:List Int) (t:aN):List Int:=(List.range (ah.length+1)).map (bu ah k row t ah.length)
theorem wN (ah:List Int) (k:Kind) (row:List Int) (t:aN):(lvl ah k row t).length=ah.length+1:=by simp [lvl]
def ue (lv:List Int) (c:Count):Bool:=decide (c.cE.hi < lv.getD c.day.toNat 0)
def qH (lv:List Int) (c:Count):Bool:=decide (lv.getD c.day.toNat 0 < c.cE.lo)
def cA (ah:List Int) (k:Kind) (row:List Int) (f:List Count) (passed:Bool) (t:aN):Bool :=
 bif passed then f.any (ue (lvl ah k row t)) else !(f.any (qH (lvl ah k row t)))
theorem B9 {L:List Int} {d:Int} (h:0≤d∧d < L.length):(L.map eI)[d.toNat]?=some (eI (L.getD d.toNat 0)):=by
 rw [List.getElem?_map,List.getD_eq_getElem?_getD,List.getElem?_eq_getElem (by omega)]
 rfl
theorem Nc (one:Bool) (L:List Int) (c:Count) (h:0≤c.day∧c.day < L.length):af TT TB one (.fn 106 [] [.pt [.sl (L.map eI) false] 0]) [.ag (aM c)] (BB (ue L c)):=by
 refine af.body (fn:=Tryz.f106) rfl rfl rfl rfl ?_
 refine aa (mu:=fun _=>false) ?_
 repeat' (first |refine u1 ?_ |with_reducible refine RM.IY rfl ?_ |refine u2 ?_ |refine ⟨eI _,⟨h.1,B9 h⟩,rfl,?_⟩ |fail)
 exact ⟨[_],⟨Fz.deep rfl,trivial⟩,rfl⟩
theorem LB (one:Bool) (L:List Int) (c:Count) (h:0≤c.day∧c.day < L.length):af TT TB one (.fn 107 [] [.pt [.sl (L.map eI) false] 0]) [.ag (aM c)] (BB (qH L c)):=by
 refine af.body (fn:=Tryz.f107) rfl rfl rfl rfl ?_
 refine aa (mu:=fun _=>false) ?_
 repeat' (first |refine u1 ?_ |with_reducible refine RM.IY rfl ?_ |refine u2 ?_ |refine ⟨eI _,⟨h.1,B9 h⟩,rfl,?_⟩ |fail)
 exact ⟨[_],⟨Fz.deep rfl,trivial⟩,rfl⟩
structure qI (s:aC) (k:Kind) (row:List Int) (f:List Count):Prop where
 good:Good s
 kind:mH k
 row:jF 9 row
 cnt:∀ c ∈ f,0≤c.day∧c.day≤s.ah.length
 len:f.length≤1000
theorem N8 {one:Bool} {s:aC} {k:Kind} {row:List Int} {cnts:List (List AV)} {t:aN} (h:iE s.ah k row t) :
  Pu one 56 [.ag (aL s k row (.sl cnts false)),.ag (dg t),ak s.ah.length] (.tp [.sl ((lvl s.ah k row t).map eI) false,ak (ck s.ah k row t s.ah.length s.ah.length)]):=by
 have:=Mg one s k row cnts t s.ah.length h
 rw [show ((List.range (s.ah.length+1)).map fun i=>eI (bu s.ah k row t s.ah.length i))=(lvl s.ah k row t).map eI by unfold lvl;rw [List.map_map];rfl] at this
 exact this
theorem JX (one passed:Bool) {s:aC} {k:Kind} {row:List Int} {f:List Count} (h:qI s k row f) (t:aN) (n:Int) (hr:iE s.ah k row ⟨n,t.aR,t.ay⟩) :
  af TT TB one (.fn 104 [] [.pt (aL s k row (.sl (f.map aM) false)) 0,.pt (dg t) 0,.pt [BB passed] 0]) [ak n] (BB (cA s.ah k row f passed ⟨n,t.aR,t.ay⟩)):=by
 have em:((s.ah.map eI).length:Int)=s.ah.length:=by simp
 have h30:=h.row.len
 have hrun:=N8 (one:=one) (cnts:=f.map aM) hr
 rw [←em] at hrun
 have hl:=wN s.ah k row ⟨n,t.aR,t.ay⟩
 have hfl:f.length≤maxLen:=by have:=h.len;unfold maxLen;omega
 have ho:=iB one 106 [] [.pt [.sl ((lvl s.ah k row ⟨n,t.aR,t.ay⟩).map eI) false] 0] rfl (ue (lvl s.ah k row ⟨n,t.aR,t.ay⟩)) f false hfl fun c hc=>Nc one _ c (by have:=h.cnt c hc;omega)
 have hu:=iB one 107 [] [.pt [.sl ((lvl s.ah k row ⟨n,t.aR,t.ay⟩).map eI) false] 0] rfl (qH (lvl s.ah k row ⟨n,t.aR,t.ay⟩)) f false hfl fun c hc=>LB one _ c (by have:=h.cnt c hc;omega)
 unfold cA
 generalize lvl s.ah k row ⟨n,t.aR,t.ay⟩=L at *
 refine af.body (fn:=Tryz.f104) rfl rfl rfl rfl ?_
 refine RM.l5 (mu:=fun _=>false) ?_
 repeat' (first |refine u1 ?_ |fail)
 refine RM.l5 (mu:=fun _=>false) ?_
 repeat' (first |refine u1 ?_ |refine u2 ?_ |(refine And.intro (by rw [eW h30];exact Nat.le_refl _) ?_) |fail)
 rw [nZ h30]
 repeat' (first |refine u1 ?_ |refine u2 ?_ |(refine af.call hrun rfl (by simp only [bU,Bool.and_true,mG (c:=.sl _ false) rfl];rfl) ?_) |fail)
 refine aG.aU (aj.giveUp 0 (l:=[(1,.pt (aL s k row (.sl (f.map aM) false)) 0),(3,.pt [BB passed] 0),(6,.pt [.sl (L.map eI) false] 0)]) (hp:=[.gone]) rfl (Nat.le_refl _) rfl ⟨.same rfl,.same rfl,.ptr,trivial⟩ rfl rfl) ?_
 refine aa (mu:=fun _=>false) ?_
 cases passed with
 | true =>
  repeat' (first |refine u1 ?_ |refine u2 ?_ |refine ⟨_,rB h30,?_⟩ |refine af.call ho rfl rfl ?_ |fail)
  exact ⟨[_],⟨Fz.deep rfl,trivial⟩,rfl⟩
 | false =>
  repeat' (first |refine u1 ?_ |refine u2 ?_ |refine ⟨_,rB h30,?_⟩ |refine af.call hu rfl rfl ?_ |fail)
  exact ⟨[_],⟨Fz.deep rfl,trivial⟩,rfl⟩
theorem DY (one passed:Bool) (H T:List AV):af TT TB one (.fn 103 [] [.pt H 0,.pt T 0]) [BB passed] (.fn 104 [] [.pt H 0,.pt T 0,.pt [BB passed] 0]):=by
 refine af.body (fn:=Tryz.f103) rfl rfl rfl rfl ?_
 refine aa (mu:=fun _=>false) ?_
 repeat' (first |refine u1 ?_ |refine u2 ?_ |fail)
 exact ⟨[_],⟨Fz.deep rfl,trivial⟩,rfl⟩
end Go.Proofs.YtgdbfbalchdmcaaGreat.St
