/-
  Contracts of the program's functions and of the document's. Lemmas alone; their conditions stand in them.
-/
import Derived.Test.YtkappgolfkiaeaaGreatDoorK15
open Go Go.RM
namespace Go.Proofs.YtkappgolfkiaeaaGreatDoor.St
set_option maxRecDepth 100000
set_option maxHeartbeats 4000000
theorem Qq {n:Int} (h:0≤n∧n≤65535):cW (aK TT.P (convert 30 3 (.int .u16 n)))=some (.int .i64 n,.none):=by have:cW (aK TT.P (convert 30 3 (.int .u16 n)))=some (.int .i64 (IntKind.i64.wrap n),.none):=rfl;rw [this,IntWalk.i64_in n (by omega)]
theorem T2 {n:Int} (h:0≤n∧n≤255):cW (aK TT.P (convert 5 3 (.int .u8 n)))=some (.int .i64 n,.none):=by have:cW (aK TT.P (convert 5 3 (.int .u8 n)))=some (.int .i64 (IntKind.i64.wrap n),.none):=rfl;rw [this,IntWalk.i64_in n (by omega)]
def qV (s:Span) (n:Int):Int:=s.lo+n % (s.hi - s.lo+1)
structure xI (s:Span):Prop where
 lo:-1000000≤s.lo
 le:s.lo≤s.hi
 hi:s.hi≤1000000
theorem uf {s:Span} (h:xI s) (n:Int):s.lo≤qV s n∧qV s n≤s.hi:=by have h0:=h.le;have h1:=Int.emod_nonneg n (show s.hi - s.lo+1 ≠ 0 by omega);have h2:=Int.emod_lt_of_pos n (show 0 < s.hi - s.lo+1 by omega);unfold qV;omega
theorem Bs (one:Bool) (s:Span) (n:Int) (hn:0≤n∧n≤1000000) (hs:xI s):Pu one 43 [.ag (uR s),av n] (av (qV s n)):=by
 have h0:=hs.le;have h3:=hs.lo;have h4:=hs.hi;have h1:=Int.emod_nonneg n (show s.hi - s.lo+1 ≠ 0 by omega);have h2:=Int.emod_lt_of_pos n (show 0 < s.hi - s.lo+1 by omega);refine af.body (fn:=Tryz.f43) rfl rfl rfl rfl ?_;refine qq1 ?_;repeat' first|refine u1 ?_ |with_reducible refine RM.I2 rfl ?_|refine u2 ?_|fail
 exact ⟨[_],⟨Fz.deep rfl,trivial⟩,rfl⟩
def NG (k:Kind) (a b c:Int):aR:=⟨qV k.first a,qV k.bp b,qV k.aD c⟩
def qw (n:Int):Prop:=0≤n∧n≤65535
theorem kV.Oq {k:Kind} (h:kV k):xI k.first∧xI k.bp∧xI k.aD:=by
 have:=h.first
 have:=h.bp;have:=h.aD;exact ⟨⟨by omega,by omega,by omega⟩,⟨by omega,by omega,by omega⟩,⟨by omega,by omega,by omega⟩⟩
theorem Sl (one:Bool) (k:Kind) (h:kV k) (a b c:Int) (ha:qw a) (hb:qw b) (hc:qw c):Pu one 8 [.ag (cA k),.ag [Ny a,Ny b,Ny c]] (.ag (bC (NG k a b c))):=by
 have hs:=h.Oq;unfold qw at ha hb hc;have ca:=Bs true k.first a (by omega) hs.1
 have cb:=Bs true k.bp b (by omega) hs.2.1;have cc:=Bs true k.aD c (by omega) hs.2.2;refine af.body (fn:=Tryz.f8) rfl rfl rfl rfl ?_;refine qq1 ?_;repeat' first|refine ⟨_,Qq ha,rfl,?_⟩|refine ⟨_,Qq hb,rfl,?_⟩|refine ⟨_,Qq hc,rfl,?_⟩|refine u1 ?_ |with_reducible refine RM.I2 rfl ?_|refine u2 ?_|refine ⟨_,ca,?_⟩|refine ⟨_,cb,?_⟩|refine ⟨_,cc,?_⟩|fail
 exact ⟨[_],⟨Fz.deep rfl,trivial⟩,rfl⟩
def lR (ax:List Int) (k:Kind) (row:List Int) (t:aR) (down:Int):Nat→Int
 | 0=>0
 | i+1=>lR ax k row t down i+min (row.getD i 0) (max 0 (k.room - bz ax k row t down i))
def oT (ax:List Int) (k:Kind) (row:List Int) (t:aR) (down:Int) (i:Nat):Int:=t.first+lR ax k row t down i - bz ax k row t down i
theorem gI.Sm {ax:List Int} {k:Kind} {row:List Int} {t:aR} (h:gI ax k row t) (down:Int):∀ i,i≤ax.length→0≤lR ax k row t down i∧lR ax k row t down i≤300 * i
 | 0,_=>⟨Int.le_refl _,Int.le_refl _⟩
 | i+1,hi=>by have ih:=h.Sm down i (by omega);have h2:=h.row.get (d:=i) (by have:=h.Dm;omega);have h3:=h.room;have h4:=h.zF down i (by omega);simp only [lR];omega
theorem J1 (one:Bool) (s:aI) (hg:Good s) (i:Nat) (hi:i < s.kinds.length) (t:aR) (down:Int) (h:gI s.ax s.kinds[i] (ay i s.au) t) :
  Pu one 46 [.ag (aN s),av i,.ag (bC t),av down] (.tp [.sl ((List.range (s.ax.length+1)).map fun j=>eI (bz s.ax s.kinds[i] (ay i s.au) t down j)) false,av (cm s.ax s.kinds[i] (ay i s.au) t down s.ax.length),
   av (oT s.ax s.kinds[i] (ay i s.au) t down s.ax.length),av (lR s.ax s.kinds[i] (ay i s.au) t down s.ax.length)]):=by
 have em:((s.ax.map eI).length:Int)=s.ax.length:=by simp
 have ec:((s.au.map fL).length:Int)=s.au.length:=by simp
 have h8:=j6 hg.sizes;have hrowd:∀ d:Nat,ay i (s.au.take s.au.length)=ay i s.au:=fun _=>by rw [List.take_length]
 refine af.body (fn:=Tryz.f46) rfl rfl rfl rfl ?_;refine aa (mu:=fun t=>Nat.beq t 29 || Nat.beq t 135) ?_;repeat' first|refine u1 ?_ |with_reducible refine RM.I2 rfl ?_|refine u2 ?_|fail
 refine aE.aS (ai.to (l:=[(1,av i),(3,av down),(4,.pt (aN s) 0),(6,.pt (bC t) 0),(12,av t.first),(13,av s.ax.length),(14,av (oT s.ax s.kinds[i] (ay i s.au) t down 0)),(15,av 0),(16,.dw 0 0 0 1 1),(17,av ((0:Nat):Int))]) (hp:=[vi s.ax s.kinds[i] (ay i s.au) t down 0]) 1 rfl ⟨rfl,rfl,rfl,rfl,rfl,aJ em,aJ (by simp [oT,lR,bz]),rfl,rfl,rfl,trivial⟩ (qq5 _) rfl rfl) ?_;refine aE.loop (fun d:Nat=>d≤s.ax.length) (fun d=>⟨bA [(1,av i),(3,av down),(4,.pt (aN s) 0),(6,.pt (bC t) 0),(12,av (bz s.ax s.kinds[i] (ay i s.au) t down d)),(13,av (cm s.ax s.kinds[i] (ay i s.au) t down d)),(14,av (oT s.ax s.kinds[i] (ay i s.au) t down d)),(15,av (lR s.ax s.kinds[i] (ay i s.au) t down d)),(16,.dw 0 d 0 (d+1) (Bq d)),(17,av (d:Int))],[vi s.ax s.kinds[i] (ay i s.au) t down d],cz.none,false,0⟩) (fun d=>s.ax.length - d) ?_ 0 (qq5 _);intro d hd;refine aa (mu:=fun t=>Nat.beq t 29 || Nat.beq t 135) ?_;repeat' first|refine u1 ?_|refine u2 ?_|fail
 refine RM.e1 rfl ⟨fun h2=>?_,fun h2=>?_⟩
 ·have hlt:d < s.ax.length:=by simpa only [em,decide_eq_true_eq,Int.ofNat_lt] using h2
  have b1:=h.n hlt;have b2:=lQ b1 h.bp;have b3:=lQ b2 h.dh;have b4:=h.zF down d hd;have b5:=h.row.get (d:=d) (by have:=h.Dm;omega);have b6:=h.room;have b7:=h.aD;have b9:=h.Sm down d hd;have hget:s.ax[d]=s.ax.getD d 0:=by rw [List.getD_eq_getElem?_getD,List.getElem?_eq_getElem hlt];rfl
  have hhv:=zG s.ax s.kinds[i] (ay i s.au) t down d;have hsh:=xG s.ax s.kinds[i] (ay i s.au) t down d;have hbr:lR s.ax s.kinds[i] (ay i s.au) t down (d+1)=lR s.ax s.kinds[i] (ay i s.au) t down d+min ((ay i s.au).getD d 0) (max 0 (s.kinds[i].room - bz s.ax s.kinds[i] (ay i s.au) t down d)):=rfl;have hus:oT s.ax s.kinds[i] (ay i s.au) t down (d+1)=t.first+lR s.ax s.kinds[i] (ay i s.au) t down (d+1) - bz s.ax s.kinds[i] (ay i s.au) t down (d+1):=rfl
  have hud:oT s.ax s.kinds[i] (ay i s.au) t down d=t.first+lR s.ax s.kinds[i] (ay i s.au) t down d - bz s.ax s.kinds[i] (ay i s.au) t down d:=rfl
  have hft:=h.first
  rw [←hget] at b1 b2 b3 hhv hsh;repeat' first|refine u1 ?_|fail
  refine aE.aS (ai.to (l:=[(1,av i),(3,av down),(4,.pt (aN s) 0),(6,.pt (bC t) 0),(12,av (bz s.ax s.kinds[i] (ay i s.au) t down d)),(13,av (cm s.ax s.kinds[i] (ay i s.au) t down d)),(14,av (oT s.ax s.kinds[i] (ay i s.au) t down d)),(15,av (lR s.ax s.kinds[i] (ay i s.au) t down d)),(16,.dw 0 d 0 (d+1) (Bq d)),(17,av (d:Int)),(18,av ((ay i (s.au.take 0)).getD d 0)),(19,av ((0:Nat):Int))]) (hp:=[vi s.ax s.kinds[i] (ay i s.au) t down d]) 1 rfl ⟨rfl,rfl,rfl,rfl,rfl,rfl,rfl,rfl,rfl,rfl,aJ (by have:=(iR.zero (k:=(i:Int))).get (d:=d) (by omega);show 0=(ay i []).getD d 0;omega),rfl,trivial⟩ (qq5 _) rfl (ey _ _ _ _ _ _)) ?_;refine aE.loop (fun j:Nat=>j≤s.au.length) (fun j=>⟨bA [(1,av i),(3,av down),(4,.pt (aN s) 0),(6,.pt (bC t) 0),(12,av (bz s.ax s.kinds[i] (ay i s.au) t down d)),(13,av (cm s.ax s.kinds[i] (ay i s.au) t down d)),(14,av (oT s.ax s.kinds[i] (ay i s.au) t down d)),(15,av (lR s.ax s.kinds[i] (ay i s.au) t down d)),(16,.dw 0 d 0 (d+1) (Bq d)),(17,av (d:Int)),(18,av ((ay i (s.au.take j)).getD d 0)),(19,av (j:Int))],[vi s.ax s.kinds[i] (ay i s.au) t down d],cz.none,false,0⟩) (fun j=>s.au.length - j) ?_ 0 (qq5 _);intro j hj;have hrow:iR (s.au.take j).length (ay i (s.au.take j)):=lO fun c hx=>by have:=hg.au c (List.mem_of_mem_take hx);omega
  have hrl:(s.au.take j).length=j:=by simp;omega
  rw [hrl] at hrow;have hget:=hrow.get (d:=d) (by omega);refine aa (mu:=fun t=>Nat.beq t 29 || Nat.beq t 135) ?_;repeat' first|refine u1 ?_|refine u2 ?_|fail
  refine RM.e1 rfl ⟨fun h2=>?_,fun h2=>?_⟩
  ·have hlt:j < s.au.length:=by simpa only [ec,decide_eq_true_eq,Int.ofNat_lt] using h2
   have hcj:=hg.au s.au[j] (List.getElem_mem hlt);have hrow':(ay i (s.au.take (j+1))).getD d 0=if s.au[j].day=(d:Int)∧s.au[j].kind=(i:Int) then (ay i (s.au.take j)).getD d 0+s.au[j].cC else (ay i (s.au.take j)).getD d 0:=by rw [List.take_add_one,List.getElem?_eq_getElem hlt];exact (congrArg (fun l=>l.getD d 0) (l7 _ _ _)).trans (qv (by rw [hrow.len];omega) hcj.1.1)
   clear hhv hsh hbr hus hud b1 b2 b3 b4 b5 b6 b7 b9 hft;generalize (ay i (s.au.take j)).getD d 0=sum at hget hrow';repeat' first|refine u1 ?_|refine u2 ?_|refine ⟨fL s.au[j],⟨by omega,bI hlt⟩,rfl,?_⟩|((with_reducible show cG _ _ _ _ _);refine qp rfl rfl (fun h=>?_) (fun h=>?_))|((with_reducible show me _ _ _ _ (.cond _ _ _) _ _);refine RM.e1 rfl ⟨fun h=>?_,fun h=>?_⟩)|fail
   all_goals refine ⟨j+1,hlt,(by dsimp only;omega),ai.to 1 rfl ⟨rfl,rfl,rfl,rfl,rfl,rfl,rfl,rfl,rfl,rfl,aJ ?_,aJ (by simp),trivial⟩ (qq5 _) rfl (ey _ _ _ _ _ _)⟩
   all_goals rw [hrow']
   all_goals simp_all
  ·have hj:s.au.take j=s.au:=List.take_of_length_le (by rw [ec,decide_eq_false_iff_not] at h2;omega);rw [hj] at hget ⊢;clear hrow hrl hrowd;repeat' first|refine u1 ?_ |with_reducible refine RM.I2 rfl ?_|refine u2 ?_|refine ⟨cA s.kinds[i],⟨by omega,bI hi⟩,rfl,?_⟩|refine ⟨eI s.ax[d],⟨by omega,bI hlt⟩,rfl,?_⟩|fail
   refine RM.e1 rfl ⟨fun h3=>?_,fun h3=>?_⟩
   ·rw [decide_eq_true_eq] at h3;rw [if_pos h3] at hhv hsh;repeat' first|refine u1 ?_|refine u2 ?_|refine ⟨cA s.kinds[i],⟨by omega,bI hi⟩,rfl,?_⟩|fail
    refine RM.e1 rfl ⟨fun h4=>?_,fun h4=>?_⟩
    ·rw [decide_eq_true_eq] at h4;repeat' first|refine u1 ?_|refine u2 ?_|fail
     refine RM.e1 rfl ⟨fun h5=>?_,fun h5=>?_⟩
     ·rw [decide_eq_true_eq] at h5;repeat' first|refine u1 ?_|refine u2 ?_|fail
      refine ⟨[eI _],⟨fun el hel=>by rw [List.mem_singleton.1 hel];rfl,rfl⟩,rfl,_,rfl,by simp,iT d,And.intro (by dsimp only [List.length];omega) (by dsimp only [List.length];omega),fun hn=>absurd hn (by simp),fun _=>?_⟩;repeat' first|refine u1 ?_|fail
      refine ⟨d+1,hlt,(by dsimp only;omega),ai.to 1 (dU (by rw [hhv];omega)) ⟨rfl,rfl,rfl,rfl,aJ (by rw [hhv];omega),aJ (by rw [hsh,if_pos (by omega)]),aJ (by rw [hus,hbr,hhv,hud];omega),aJ (by rw [hbr]),rfl,aJ (by simp),trivial⟩ (qq5 _) rfl (ey _ _ _ _ _ _)⟩
     ·rw [decide_eq_false_iff_not] at h5;repeat' first|refine u1 ?_|refine u2 ?_|fail
      refine ⟨[eI _],⟨fun el hel=>by rw [List.mem_singleton.1 hel];rfl,rfl⟩,rfl,_,rfl,by simp,iT d,And.intro (by dsimp only [List.length];omega) (by dsimp only [List.length];omega),fun hn=>absurd hn (by simp),fun _=>?_⟩;repeat' first|refine u1 ?_|fail
      refine ⟨d+1,hlt,(by dsimp only;omega),ai.to 1 (dU (by rw [hhv];omega)) ⟨rfl,rfl,rfl,rfl,aJ (by rw [hhv];omega),aJ (by rw [hsh,if_neg (by omega)]),aJ (by rw [hus,hbr,hhv,hud];omega),aJ (by rw [hbr]),rfl,aJ (by simp),trivial⟩ (qq5 _) rfl (ey _ _ _ _ _ _)⟩
    ·rw [decide_eq_false_iff_not] at h4;repeat' first|refine u1 ?_|refine u2 ?_|fail
     refine RM.e1 rfl ⟨fun h5=>?_,fun h5=>?_⟩
     ·rw [decide_eq_true_eq] at h5;repeat' first|refine u1 ?_|refine u2 ?_|fail
      refine ⟨[eI _],⟨fun el hel=>by rw [List.mem_singleton.1 hel];rfl,rfl⟩,rfl,_,rfl,by simp,iT d,And.intro (by dsimp only [List.length];omega) (by dsimp only [List.length];omega),fun hn=>absurd hn (by simp),fun _=>?_⟩;repeat' first|refine u1 ?_|fail
      refine ⟨d+1,hlt,(by dsimp only;omega),ai.to 1 (dU (by rw [hhv];omega)) ⟨rfl,rfl,rfl,rfl,aJ (by rw [hhv];omega),aJ (by rw [hsh,if_pos (by omega)]),aJ (by rw [hus,hbr,hhv,hud];omega),aJ (by rw [hbr]),rfl,aJ (by simp),trivial⟩ (qq5 _) rfl (ey _ _ _ _ _ _)⟩
     ·rw [decide_eq_false_iff_not] at h5;repeat' first|refine u1 ?_|refine u2 ?_|fail
      refine ⟨[eI _],⟨fun el hel=>by rw [List.mem_singleton.1 hel];rfl,rfl⟩,rfl,_,rfl,by simp,iT d,And.intro (by dsimp only [List.length];omega) (by dsimp only [List.length];omega),fun hn=>absurd hn (by simp),fun _=>?_⟩;repeat' first|refine u1 ?_|fail
      refine ⟨d+1,hlt,(by dsimp only;omega),ai.to 1 (dU (by rw [hhv];omega)) ⟨rfl,rfl,rfl,rfl,aJ (by rw [hhv];omega),aJ (by rw [hsh,if_neg (by omega)]),aJ (by rw [hus,hbr,hhv,hud];omega),aJ (by rw [hbr]),rfl,aJ (by simp),trivial⟩ (qq5 _) rfl (ey _ _ _ _ _ _)⟩
   ·rw [decide_eq_false_iff_not] at h3;rw [if_neg h3] at hhv hsh;repeat' first|refine u1 ?_|refine u2 ?_|fail
    refine RM.e1 rfl ⟨fun h5=>?_,fun h5=>?_⟩
    ·rw [decide_eq_true_eq] at h5;repeat' first|refine u1 ?_|refine u2 ?_|fail
     refine ⟨[eI _],⟨fun el hel=>by rw [List.mem_singleton.1 hel];rfl,rfl⟩,rfl,_,rfl,by simp,iT d,And.intro (by dsimp only [List.length];omega) (by dsimp only [List.length];omega),fun hn=>absurd hn (by simp),fun _=>?_⟩;repeat' first|refine u1 ?_|fail
     refine ⟨d+1,hlt,(by dsimp only;omega),ai.to 1 (dU (by rw [hhv];omega)) ⟨rfl,rfl,rfl,rfl,aJ (by rw [hhv];omega),aJ (by rw [hsh,if_pos (by omega)]),aJ (by rw [hus,hbr,hhv,hud];omega),aJ (by rw [hbr]),rfl,aJ (by simp),trivial⟩ (qq5 _) rfl (ey _ _ _ _ _ _)⟩
    ·rw [decide_eq_false_iff_not] at h5;repeat' first|refine u1 ?_|refine u2 ?_|fail
     refine ⟨[eI _],⟨fun el hel=>by rw [List.mem_singleton.1 hel];rfl,rfl⟩,rfl,_,rfl,by simp,iT d,And.intro (by dsimp only [List.length];omega) (by dsimp only [List.length];omega),fun hn=>absurd hn (by simp),fun _=>?_⟩;repeat' first|refine u1 ?_|fail
     refine ⟨d+1,hlt,(by dsimp only;omega),ai.to 1 (dU (by rw [hhv];omega)) ⟨rfl,rfl,rfl,rfl,aJ (by rw [hhv];omega),aJ (by rw [hsh,if_neg (by omega)]),aJ (by rw [hus,hbr,hhv,hud];omega),aJ (by rw [hbr]),rfl,aJ (by simp),trivial⟩ (qq5 _) rfl (ey _ _ _ _ _ _)⟩
 ·have hd:d=s.ax.length:=by rw [em,decide_eq_false_iff_not] at h2;omega
  subst hd;repeat' first|refine u1 ?_|fail
  exact ⟨[_,_,_,_],⟨EY _ _ _ _ _ _,Fz.deep rfl,Fz.deep rfl,Fz.deep rfl,trivial⟩,rfl⟩
theorem J2 (one:Bool) (g:FuncId) (fs cs:List AV) (hF:(AV.fn g fs cs).deep=true) (lo i:Int) (b:Bool) (hb:-1000000000≤lo∧lo≤1000000000∧0≤i∧i≤1000000000) (hp:af TT TB one (.fn g fs cs) [av (lo+i)] (BB b)) :
  af TT TB one (.fn 109 [] [.pt [.fn g fs cs] 0,.pt [av lo] 0]) [av i] (BB b):=by
 refine af.body (fn:=Tryz.f109) rfl rfl rfl rfl ?_;refine qq1 ?_;repeat' first|refine u1 ?_|refine u2 ?_|refine af.call hp hF rfl ?_|fail
 exact ⟨[_],⟨Fz.deep rfl,trivial⟩,rfl⟩
theorem NH (one:Bool) (g:FuncId) (fs cs:List AV) (hF:(AV.fn g fs cs).deep=true) (lo:Int) (n:Nat) (hlo:-1000000≤lo∧lo≤1000000) (hn:n≤1000000) (p:Int→Bool) (hp:∀ i:Nat,i < n→af TT TB true (.fn g fs cs) [av (lo+i)] (BB (p (lo+i)))) :
  Pu one 66 [av lo,av (lo+n - 1),.fn g fs cs] (av (lo+bs (fun i=>p (lo+(i:Int))) 0 n)):=by
 have hs:=JR true 109 [] [.pt [.fn g fs cs] 0,.pt [av lo] 0] rfl (fun i=>p (lo+(i:Int))) n (by omega) fun i hi=>J2 true g fs cs hF lo i _ (by omega) (hp i hi);have hb:=sN (fun i=>p (lo+(i:Int))) 0 n (qq5 _);generalize bs (fun i=>p (lo+(i:Int))) 0 n=r at hs hb;have he:lo+(n:Int) - 1 - lo+1=n:=by omega
 refine af.body (fn:=Tryz.f66) rfl rfl rfl rfl ?_;refine qq1 ?_;repeat' first|(refine ⟨rfl,rfl,(by show ((AV.fn g fs cs).deep && true)=true;rw [hF];rfl),?_⟩)|refine u1 ?_ |with_reducible refine RM.I2 rfl ?_|refine u2 ?_|fail
 rw [he];refine ⟨_,hs,?_⟩;repeat' first|refine u1 ?_|refine u2 ?_|fail
 exact ⟨[_],⟨Fz.deep rfl,trivial⟩,rfl⟩
def lvl (ax:List Int) (k:Kind) (row:List Int) (t:aR):List Int:=(List.range (ax.length+1)).map (bz ax k row t ax.length)
theorem vt (ax:List Int) (k:Kind) (row:List Int) (t:aR):(lvl ax k row t).length=ax.length+1:=by simp [lvl]
def sS (lv:List Int) (c:Count):Bool:=decide (c.cC.hi < lv.getD c.day.toNat 0)
def oU (lv:List Int) (c:Count):Bool:=decide (lv.getD c.day.toNat 0 < c.cC.lo)
def enough (ax:List Int) (k:Kind) (row:List Int) (f:List Count) (passed:Bool) (t:aR):Bool :=
 bif passed then f.any (sS (lvl ax k row t)) else !(f.any (oU (lvl ax k row t)))
theorem pV {L:List Int} {d:Int} (h:0≤d∧d < L.length):(L.map eI)[d.toNat]?=some (eI (L.getD d.toNat 0)):=by rw [List.getElem?_map,List.getD_eq_getElem?_getD,List.getElem?_eq_getElem (by omega)];rfl
theorem Qr (one:Bool) (L:List Int) (c:Count) (h:0≤c.day∧c.day < L.length):af TT TB one (.fn 106 [] [.pt [.sl (L.map eI) false] 0]) [.ag (aP c)] (BB (sS L c)):=by
 refine af.body (fn:=Tryz.f106) rfl rfl rfl rfl ?_;refine qq1 ?_;repeat' first|refine u1 ?_ |with_reducible refine RM.I2 rfl ?_|refine u2 ?_|refine ⟨eI _,⟨h.1,pV h⟩,rfl,?_⟩|fail
 exact ⟨[_],⟨Fz.deep rfl,trivial⟩,rfl⟩
theorem NI (one:Bool) (L:List Int) (c:Count) (h:0≤c.day∧c.day < L.length):af TT TB one (.fn 107 [] [.pt [.sl (L.map eI) false] 0]) [.ag (aP c)] (BB (oU L c)):=by
 refine af.body (fn:=Tryz.f107) rfl rfl rfl rfl ?_;refine qq1 ?_;repeat' first|refine u1 ?_ |with_reducible refine RM.I2 rfl ?_|refine u2 ?_|refine ⟨eI _,⟨h.1,pV h⟩,rfl,?_⟩|fail
 exact ⟨[_],⟨Fz.deep rfl,trivial⟩,rfl⟩
structure oV (s:aI) (k:Kind) (row:List Int) (f:List Count):Prop where
 good:Good s
 kind:kV k
 row:iR 9 row
 cnt:∀ c ∈ f,0≤c.day∧c.day≤s.ax.length
 len:f.length≤1000
theorem Sn {one:Bool} {s:aI} {k:Kind} {row:List Int} {cnts:List (List AV)} {t:aR} (h:gI s.ax k row t) :
  Pu one 62 [.ag (aM s k row (.sl cnts false)),.ag (bC t),av s.ax.length] (.tp [.sl ((lvl s.ax k row t).map eI) false,av (cm s.ax k row t s.ax.length s.ax.length)]):=by
 have:=On one s k row cnts t s.ax.length h;rw [show ((List.range (s.ax.length+1)).map fun i=>eI (bz s.ax k row t s.ax.length i))=(lvl s.ax k row t).map eI by unfold lvl;rw [List.map_map];rfl] at this;exact this
theorem J3 (one passed:Bool) {s:aI} {k:Kind} {row:List Int} {f:List Count} (h:oV s k row f) (t:aR) (n:Int) (hr:gI s.ax k row ⟨n,t.bp,t.aD⟩) :
  af TT TB one (.fn 104 [] [.pt (aM s k row (.sl (f.map aP) false)) 0,.pt (bC t) 0,.pt [BB passed] 0]) [av n] (BB (enough s.ax k row f passed ⟨n,t.bp,t.aD⟩)):=by
 have em:((s.ax.map eI).length:Int)=s.ax.length:=by simp
 have h30:=h.row.len;have hrun:=Sn (one:=one) (cnts:=f.map aP) hr;rw [←em] at hrun;have hl:=vt s.ax k row ⟨n,t.bp,t.aD⟩;have hfl:f.length≤maxLen:=by have:=h.len;unfold maxLen;omega
 have ho:=mQ one 106 [] [.pt [.sl ((lvl s.ax k row ⟨n,t.bp,t.aD⟩).map eI) false] 0] rfl (sS (lvl s.ax k row ⟨n,t.bp,t.aD⟩)) f false hfl fun c hc=>Qr one _ c (by have:=h.cnt c hc;omega);have hu:=mQ one 107 [] [.pt [.sl ((lvl s.ax k row ⟨n,t.bp,t.aD⟩).map eI) false] 0] rfl (oU (lvl s.ax k row ⟨n,t.bp,t.aD⟩)) f false hfl fun c hc=>NI one _ c (by have:=h.cnt c hc;omega);unfold enough
 generalize lvl s.ax k row ⟨n,t.bp,t.aD⟩=L at *
 refine af.body (fn:=Tryz.f104) rfl rfl rfl rfl ?_;refine qq2 ?_;repeat' first|refine u1 ?_|fail
 refine qq2 ?_;repeat' first|refine u1 ?_|refine u2 ?_|(refine And.intro (by rw [ew h30];exact qq6 _) ?_)|fail
 rw [mR h30];repeat' first|refine u1 ?_|refine u2 ?_|(refine af.call hrun rfl (by simp only [bG,Bool.and_true,kU (c:=.sl _ false) rfl];rfl) ?_)|fail
 refine aE.aS (ai.giveUp 0 (l:=[(1,.pt (aM s k row (.sl (f.map aP) false)) 0),(3,.pt [BB passed] 0),(6,.pt [.sl (L.map eI) false] 0)]) (hp:=[.gone]) rfl (qq6 _) rfl ⟨.same rfl,.same rfl,.ptr,trivial⟩ rfl rfl) ?_;refine qq1 ?_
 cases passed with
 | true =>
  repeat' first|refine u1 ?_|refine u2 ?_|refine ⟨_,pW h30,?_⟩|refine af.call ho rfl rfl ?_|fail
  exact ⟨[_],⟨Fz.deep rfl,trivial⟩,rfl⟩
 | false =>
  repeat' first|refine u1 ?_|refine u2 ?_|refine ⟨_,pW h30,?_⟩|refine af.call hu rfl rfl ?_|fail
  exact ⟨[_],⟨Fz.deep rfl,trivial⟩,rfl⟩
theorem Dn (one passed:Bool) (H T:List AV):af TT TB one (.fn 103 [] [.pt H 0,.pt T 0]) [BB passed] (.fn 104 [] [.pt H 0,.pt T 0,.pt [BB passed] 0]):=by
 refine af.body (fn:=Tryz.f103) rfl rfl rfl rfl ?_;refine qq1 ?_;repeat' first|refine u1 ?_|refine u2 ?_|fail
 exact ⟨[_],⟨Fz.deep rfl,trivial⟩,rfl⟩
end Go.Proofs.YtkappgolfkiaeaaGreatDoor.St
