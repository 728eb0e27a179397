/-
  Contracts of the program's functions and of the document's. Lemmas alone; their conditions stand in them.
-/
import Derived.Test.YtichbhmnhkegiaaGreatA3
import Derived.Test.YtichbhmnhkegiaaGreatK5
open Go Go.RM Go.AirLaw
namespace Go.Proofs.YtichbhmnhkegiaaGreat
set_option maxRecDepth 100000
set_option maxHeartbeats 4000000
theorem HQ {s:Span} {i:Nat} {x:Int} (h:(dB s)[i]?=some x):s.lo≤x∧x≤s.hi:=by
 have h1:=List.mem_of_getElem? h
 unfold dB bh at h1
 rw [List.mem_map] at h1
 obtain ⟨k,hk,rfl⟩:=h1
 rw [List.mem_range] at hk
 omega
theorem HS (one:Bool) (a b:Span):Pu one 124 [.fn 131 [] [.pt (aG a) 0],.fn 131 [] [.pt (aG b) 0],.fn 125 [] []] (.fn 144 [] [.pt [.fn 131 [] [.pt (aG a) 0]] 0,.pt [.fn 131 [] [.pt (aG b) 0]] 0,.pt [.fn 125 [] []] 0]):=by
 refine af.body (fn:=Tryz.f124) rfl rfl rfl rfl ?_
 refine aa (mu:=fun _=>false) ?_
 repeat' (first |refine u1 ?_ |refine u2 ?_ |fail)
 exact ⟨[_],⟨Fz.deep rfl,trivial⟩,rfl⟩
theorem Cw (one:Bool) (a b:Span) (ha:-1000000≤a.lo∧a.lo≤a.hi∧a.hi≤1000000) (hb:-1000000≤b.lo∧b.lo≤b.hi∧b.hi≤1000000) (hbb:0≤b.lo∧b.hi≤1000) :
  lX TT TB one (.fn 144 [] [.pt [.fn 131 [] [.pt (aG a) 0]] 0,.pt [.fn 131 [] [.pt (aG b) 0]] 0,.pt [.fn 125 [] []] 0]) ((jz K7 (dB a) (dB b)).map jP):=by
 have ga:=mO one a ha
 have gb:=mO one b hb
 refine lX.body (fn:=Tryz.f144) rfl rfl rfl rfl (fun x hx y hy=>?_) fun u J Stop hy=>?_
 ·obtain ⟨z,_,rfl⟩:=List.mem_map.1 hx
  simp only [List.mem_cons,List.not_mem_nil,or_false] at hy
  subst hy
  exact dY.ag fun b hb=>by simp only [List.mem_cons,List.not_mem_nil,or_false] at hb;rcases hb with rfl|rfl <;> exact dY.fl _
 rw [List.length_map,gi,bp,bp]
 have hy':∀ {i j:Nat} {x y:Int},(dB a)[i]?=some x→(dB b)[j]?=some y→∀ hp,aP TT TB one (.oq u) (jP (K7 x y)) hp (J (i * bh b+j)) fun v hp' a'=>hp'=hp∧∃ b',v=.fl (.bool b')∧DO (J (i * bh b+j+1)) Stop b' a':=by
  intro i j x y hx hyy
  have:=hy (i * bh b+j) (jP (K7 x y)) (by rw [List.getElem?_map,←bp b,sJ hyy hx];rfl)
  exact this
 refine RM.fm (mu:=fun _=>false) ?_
 repeat' (first |refine u1 ?_ |refine u2 ?_ |fail)
 refine RM.fm (mu:=fun _=>false) ?_
 repeat' (first |refine u1 ?_ |refine u2 ?_ |fail)
 refine ax.block ?_
 refine ax.range (fun _=>[]) (fun i=>J (i * bh b)) (fun _=>True) rfl ga rfl (congrArg J (Nat.zero_mul _)) trivial (fun i x hx _=>?_) (fun _=>?_)
 ·obtain ⟨x,hxi,rfl⟩:∃ y,(dB a)[i]?=some y∧x=eI y:=by
   rw [List.getElem?_map,Option.map_eq_some_iff] at hx
   obtain ⟨y,h1,h2⟩:=hx
   exact ⟨y,h1,h2.symm⟩
  refine ⟨rfl,?_⟩
  refine aa (mu:=fun _=>false) ?_
  repeat' (first |refine u1 ?_ |refine u2 ?_ |fail)
  refine ax.block ?_
  refine RM.fm (mu:=fun _=>false) ?_
  repeat' (first |refine u1 ?_ |refine u2 ?_ |fail)
  refine ax.block ?_
  refine ax.range (fun _=>[.cells [ai x] 0 0]) (fun j=>J (i * bh b+j)) (fun _=>True) rfl gb rfl rfl trivial (fun j y hyj _=>?_) (fun _=>?_)
  ·obtain ⟨y,hyk,rfl⟩:∃ z,(dB b)[j]?=some z∧y=eI z:=by
    rw [List.getElem?_map,Option.map_eq_some_iff] at hyj
    obtain ⟨z,h1,h2⟩:=hyj
    exact ⟨z,h1,h2.symm⟩
   refine ⟨rfl,?_⟩
   have hyx:=hy' hxi hyk
   have hmk:=LY true x y (by have:=HQ hyk;omega)
   refine aa (mu:=fun _=>false) ?_
   repeat' (first |refine u1 ?_ |refine u2 ?_ |fail)
   refine ax.block ?_
   refine RM.fm (mu:=fun _=>false) ?_
   repeat' (first |refine ⟨_,_,.inl ⟨rfl,rfl⟩,hmk,?_⟩ |refine u1 ?_ |refine u2 ?_ |fail)
   refine aP.mono (hyx _) (fun a hp' amb' hq=>?_)
   obtain ⟨rfl,b,rfl,hb⟩:=hq
   rcases hb with ⟨rfl,rfl⟩|⟨rfl,hstop⟩
   ·repeat' (first |refine u1 ?_ |fail)
    refine aa (mu:=fun _=>false) ?_
    repeat' (first |refine u1 ?_ |refine u2 ?_ |fail)
    exact (ah.refl _).2
   ·repeat' (first |refine u1 ?_ |fail)
    refine aa (mu:=fun _=>false) ?_
    repeat' (first |refine u1 ?_ |fail)
    exact Or.inr hstop
  ·exact ⟨trivial,_,yR (l:=[]) 0 rfl trivial (Nat.zero_le _) rfl rfl (congrArg J (by rw [List.length_map,bp,Nat.add_mul,Nat.one_mul]))⟩
 ·exact Or.inl (by rw [List.length_map,bp])
abbrev gH (a b:Span):AV:=.fn 144 [] [.pt [DZ a] 0,.pt [DZ b] 0,.pt [.fn 125 [] []] 0]
theorem AA (one:Bool) {s:au} {n:aA} {rs:List av} (f:Bool) (h:jW s n rs):Pu one 87 [.ag (bS s n rs f)] (gH s.aN ⟨n.dc,n.dc+n.bX - 1⟩):=by
 have h1:=h.dc
 have h2:=h.bX
 have n1:=mN true s.aN
 have n2:=mN true ⟨n.dc,n.dc+n.bX - 1⟩
 have n3:=HS true s.aN ⟨n.dc,n.dc+n.bX - 1⟩
 refine af.body (fn:=Tryz.f87) rfl rfl rfl rfl ?_
 refine aa (mu:=fun _=>false) ?_
 repeat' (first |refine ⟨_,_,.inl ⟨rfl,rfl⟩,n1,?_⟩ |refine ⟨_,_,.inl ⟨rfl,rfl⟩,n2,?_⟩ |refine ⟨_,_,.inl ⟨rfl,rfl⟩,n3,?_⟩ |refine u1 ?_ |refine u2 ?_ |fail)
 exact ⟨[_],⟨Fz.deep rfl,trivial⟩,rfl⟩
theorem Gf (one:Bool) (s:au) (n:aA) (rs:List av) (f:Bool) (a b:Span):Pu one 86 [.ag (bS s n rs f),gH a b,BB true] (.fn 123 [] [.pt [gH a b] 0,.pt (bS s n rs f) 0,.pt [BB true] 0]):=by
 refine af.body (fn:=Tryz.f86) rfl rfl rfl rfl ?_
 refine aa (mu:=fun _=>false) ?_
 repeat' (first |refine u1 ?_ |refine u2 ?_ |fail)
 exact ⟨[_],⟨Fz.deep rfl,trivial⟩,rfl⟩
theorem Gg (one:Bool) {s:au} {n:aA} {rs:List av} (f:Bool) (h:jW s n rs) (a b:Span) (L:List (Int × Int)) (hg:lX TT TB one (gH a b) (L.map jP)) (hb:∀ x ∈ L,(0≤x.1∧x.1≤300)∧0≤x.2∧x.2≤31) :
  lX TT TB one (.fn 123 [] [.pt [gH a b] 0,.pt (bS s n rs f) 0,.pt [BB true] 0]) ((L.filter (fits aY n true rs)).map jP):=by
 have h1:=h.x
 have h2:=h.y
 have h3:=h.JL
 obtain ⟨m,hm⟩:∃ m:Int,m=rs.length:=⟨_,rfl⟩
 have er:((rs.map aj).length:Int)=m:=by rw [hm];simp
 refine lX.body (fn:=Tryz.f123) rfl rfl rfl rfl (fun x hx y hy=>?_) fun u J Stop hy=>?_
 ·obtain ⟨z,_,rfl⟩:=List.mem_map.1 hx
  simp only [List.mem_cons,List.not_mem_nil,or_false] at hy
  subst hy
  exact dY.ag fun b hb=>by simp only [List.mem_cons,List.not_mem_nil,or_false] at hb;rcases hb with rfl|rfl <;> exact dY.fl _
 rw [List.length_map]
 refine RM.fm (mu:=fun _=>false) ?_
 repeat' (first |refine u1 ?_ |refine u2 ?_ |fail)
 refine ax.scope ?_
 refine RM.fm (mu:=fun _=>false) ?_
 skip
 refine RM.fm (mu:=fun _=>false) ?_
 repeat' (first |refine u1 ?_ |refine u2 ?_ |fail)
 refine ax.block ?_
 refine ax.range (fun _=>[]) (fun i=>J ((L.take i).filter (fits aY n true rs)).length) (fun _=>True) rfl hg rfl rfl trivial (fun i x hx _=>?_) (fun _=>?_)
 ·obtain ⟨x,hxi,rfl⟩:∃ y,L[i]?=some y∧x=jP y:=by
   rw [List.getElem?_map,Option.map_eq_some_iff] at hx
   obtain ⟨y,h1,h2⟩:=hx
   exact ⟨y,h1,h2.symm⟩
  have hxb:=hb x (List.mem_of_getElem? hxi)
  have hfil:=EZ (p:=fits aY n true rs) hxi
  refine ⟨rfl,?_⟩
  refine aa (mu:=fun _=>false) ?_
  repeat' (first |refine u1 ?_ |refine u2 ?_ |fail)
  refine ax.block ?_
  refine RM.fm (mu:=fun _=>false) ?_
  repeat' (first |refine u1 ?_ |refine u2 ?_ |fail)
  refine ax.aK (ah.to (l:=[(0,.oq u),(1,.pt [gH a b] 0),(2,.pt (bS s n rs f) 0),(3,.pt [BB true] 0),(4,.pt [.oq u] 0),(5,.ptr 0 0 0),(11,.sl (rs.map aj) f),(12,ai m),(13,ai (0:Nat))]) (hp:=[.cells [ai x.1,ai x.2] 0 0]) 1 rfl ⟨rfl,rfl,rfl,rfl,rfl,rfl,rfl,aR er,rfl,trivial⟩ (Nat.zero_le _) rfl rfl) ?_
  refine ax.loop (fun k:Nat=>k≤rs.length∧∀ i (h:i < rs.length),i < k→(!(rs[i].aB == true) || (aY (rs[i].pos.x - n.pos.x) (rs[i].pos.y - n.pos.y) x.1 x.2 == rs[i].yes))=true) (fun k=>⟨aF [(0,.oq u),(1,.pt [gH a b] 0),(2,.pt (bS s n rs f) 0),(3,.pt [BB true] 0),(4,.pt [.oq u] 0),(5,.ptr 0 0 0),(11,.sl (rs.map aj) f),(12,ai m),(13,ai (k:Nat))],[.cells [ai x.1,ai x.2] 0 0],J ((L.take i).filter (fits aY n true rs)).length,true,0⟩) (fun k=>rs.length - k) ?_ 0 ⟨Nat.zero_le _,fun i _ hi=>absurd hi (Nat.not_lt_zero _)⟩
  rintro k ⟨hk,hprev⟩
  refine aa (mu:=fun _=>false) ?_
  by_cases hlt:k < rs.length
  ·have d1:decide ((k:Int) < m)=true:=decide_eq_true (by omega)
   have hat:(rs.map aj)[((k:Nat):Int).toNat]?=some (aj rs[k]):=bO hlt
   have hx1:=h.rx rs[k] (List.getElem_mem hlt)
   have hy1:=h.ry rs[k] (List.getElem_mem hlt)
   have hone:(!(rs[k].aB == true) || (aY (rs[k].pos.x - n.pos.x) (rs[k].pos.y - n.pos.y) x.1 x.2 == rs[k].yes))=true→(∀ i (h:i < rs.length),i < k+1→(!(rs[i].aB == true) || (aY (rs[i].pos.x - n.pos.x) (rs[i].pos.y - n.pos.y) x.1 x.2 == rs[i].yes))=true):=by
    intro q i hi hik
    by_cases e:i=k
    ·subst e;exact q
    ·exact hprev i hi (by omega)
   have hno:(!(rs[k].aB == true) || (aY (rs[k].pos.x - n.pos.x) (rs[k].pos.y - n.pos.y) x.1 x.2 == rs[k].yes))=false→fits aY n true rs x=false:=by
    intro q
    unfold fits
    rw [List.all_eq_false]
    exact ⟨rs[k],List.getElem_mem hlt,by rw [q];decide⟩
   generalize rs[k]=r at *
   obtain ⟨⟨px,py⟩,hn,ys⟩:=r
   dsimp only at hx1 hy1 hone hno
   cases hn with
   | false =>
    repeat' (first |refine u1 ?_ |refine u2 ?_ |refine ⟨[ai px,ai py,BB false,BB ys],⟨by omega,hat⟩,rfl,?_⟩ |refine ⟨fun h=>absurd h (by decide),fun _=>?_⟩ |fail)
    exact ⟨k+1,⟨hlt,hone rfl⟩,(by dsimp only;omega),ah.to 1 rfl ⟨rfl,rfl,rfl,rfl,rfl,rfl,rfl,rfl,aR (by simp),trivial⟩ (Nat.zero_le _) rfl rfl⟩
   | true =>
    have hnv:=mM true s n rs f ⟨px,py⟩ (by omega) (by dsimp only;omega)
    have hmt:=pR (a:=[.ag [ai x.1,ai x.2]]) (l:=[.ag [ai (px - n.pos.x),ai (py - n.pos.y)]]) (Ay true x.1 x.2 (px - n.pos.x) (py - n.pos.y) (by omega) (by omega) (by omega) (by omega))
    dsimp only at hnv
    generalize aY (px - n.pos.x) (py - n.pos.y) x.1 x.2=v at *
    cases v <;> cases ys
    ·repeat' (first |refine ⟨_,hnv,?_⟩ |refine RM.nm hmt rfl rfl rfl rfl ?_ |refine u1 ?_ |refine u2 ?_ |refine ⟨[ai px,ai py,BB true,BB false],⟨by omega,hat⟩,rfl,?_⟩ |refine ⟨fun h=>absurd h (by decide),fun _=>?_⟩ |refine ⟨fun _=>?_,fun h=>absurd h (by decide)⟩ |fail)
     exact ⟨k+1,⟨hlt,hone rfl⟩,(by dsimp only;omega),ah.to 1 rfl ⟨rfl,rfl,rfl,rfl,rfl,rfl,rfl,rfl,aR (by simp),trivial⟩ (Nat.zero_le _) rfl rfl⟩
    ·repeat' (first |refine ⟨_,hnv,?_⟩ |refine RM.nm hmt rfl rfl rfl rfl ?_ |refine u1 ?_ |refine u2 ?_ |refine ⟨[ai px,ai py,BB true,BB true],⟨by omega,hat⟩,rfl,?_⟩ |refine ⟨fun _=>?_,fun h=>absurd h (by decide)⟩ |fail)
     exact ⟨_,yR (l:=[]) 0 rfl trivial (Nat.zero_le _) rfl rfl (congrArg J (hfil.2 (hno rfl)).symm)⟩
    ·repeat' (first |refine ⟨_,hnv,?_⟩ |refine RM.nm hmt rfl rfl rfl rfl ?_ |refine u1 ?_ |refine u2 ?_ |refine ⟨[ai px,ai py,BB true,BB false],⟨by omega,hat⟩,rfl,?_⟩ |refine ⟨fun _=>?_,fun h=>absurd h (by decide)⟩ |fail)
     exact ⟨_,yR (l:=[]) 0 rfl trivial (Nat.zero_le _) rfl rfl (congrArg J (hfil.2 (hno rfl)).symm)⟩
    ·repeat' (first |refine ⟨_,hnv,?_⟩ |refine RM.nm hmt rfl rfl rfl rfl ?_ |refine u1 ?_ |refine u2 ?_ |refine ⟨[ai px,ai py,BB true,BB true],⟨by omega,hat⟩,rfl,?_⟩ |refine ⟨fun h=>absurd h (by decide),fun _=>?_⟩ |refine ⟨fun _=>?_,fun h=>absurd h (by decide)⟩ |fail)
     exact ⟨k+1,⟨hlt,hone rfl⟩,(by dsimp only;omega),ah.to 1 rfl ⟨rfl,rfl,rfl,rfl,rfl,rfl,rfl,rfl,aR (by simp),trivial⟩ (Nat.zero_le _) rfl rfl⟩
  ·have d1:decide ((k:Int) < m)=false:=decide_eq_false (by omega)
   have hkn:k=rs.length:=by omega
   have hyes:fits aY n true rs x=true:=by
    unfold fits
    rw [List.all_eq_true]
    intro r hr
    obtain ⟨i,hi,rfl⟩:=List.getElem_of_mem hr
    exact hprev i hi (by omega)
   have hyx:=hy _ (jP x) (by rw [List.getElem?_map,(hfil.1 hyes).1];rfl)
   rw [(hfil.1 hyes).2]
   repeat' (first |refine u1 ?_ |fail)
   refine RM.fm (mu:=fun _=>false) ?_
   repeat' (first |refine u1 ?_ |refine u2 ?_ |fail)
   refine aP.mono (hyx _) (fun a hp' amb' hq=>?_)
   obtain ⟨rfl,b,rfl,hb⟩:=hq
   rcases hb with ⟨rfl,rfl⟩|⟨rfl,hstop⟩
   ·repeat' (first |refine u1 ?_ |fail)
    refine aa (mu:=fun _=>false) ?_
    repeat' (first |refine u1 ?_ |refine u2 ?_ |fail)
    exact ⟨_,ah.to (l:=[]) 0 rfl trivial (Nat.zero_le _) rfl rfl⟩
   ·repeat' (first |refine u1 ?_ |fail)
    refine aa (mu:=fun _=>false) ?_
    repeat' (first |refine u1 ?_ |fail)
    exact Or.inr hstop
 ·exact Or.inl (by rw [List.length_map,List.take_length])
end Go.Proofs.YtichbhmnhkegiaaGreat
open Go Go.RM Go.AirLaw
namespace Go.Proofs.YtichbhmnhkegiaaGreat
set_option maxRecDepth 100000
set_option maxHeartbeats 4000000
def e9 (v:Int × Int→Int) (z:Span × Bool) (x:Int × Int):Span × Bool :=
 (⟨min (if z.2=true then z.1.lo else v x) (v x),max (if z.2=true then z.1.hi else v x) (v x)⟩,true)
def aH (v:Int × Int→Int) (L:List (Int × Int)):Span × Bool:=L.foldl (e9 v) (⟨0,0⟩,false)
theorem wR {L:List (Int × Int)} {i:Nat} {x:List AV} (h:(L.map jP)[i]?=some x):∃ y,L[i]?=some y∧x=jP y:=by
 rw [List.getElem?_map,Option.map_eq_some_iff] at h
 obtain ⟨y,h1,h2⟩:=h
 exact ⟨y,h1,h2.symm⟩
theorem yS {α β:Type} {g:β→α→β} {b:β} {L:List α} {i:Nat} {y:α} (h:L[i]?=some y):(L.take (i+1)).foldl g b=g ((L.take i).foldl g b) y:=by
 rw [List.take_add_one,h,List.foldl_append]
 rfl
theorem pS (one:Bool) (g:FuncId) (fs cs:List AV) (hF:(AV.fn g fs cs).deep=true) (gf:FuncId) (ga gb:List AV) (v:Int × Int→Int) (L:List (Int × Int)) (hg:lX TT TB one (.fn gf ga gb) (L.map jP)) (hp:∀ x ∈ L,af TT TB one (.fn g fs cs) (jP x) (ai (v x))) :
  Pu one 82 [.fn gf ga gb,.fn g fs cs] (.tp [.ag (aG (aH v L).1),BB (aH v L).2]):=by
 refine af.body (fn:=Tryz.f82) rfl rfl rfl rfl ?_
 have hdF:bP [.fn g fs cs]=true:=by simp only [bP,Bool.and_true];exact hF
 refine RM.fm (mu:=fun _=>false) ?_
 repeat' (first |refine ⟨rfl,rfl,hdF,?_⟩ |refine u1 ?_ |fail)
 refine ax.seq ?_
 refine RM.fm (mu:=fun _=>false) ?_
 repeat' (first |refine u1 ?_ |fail)
 refine ax.block ?_
 refine ax.range (fun i=>[.cells (aG (aH v (L.take i)).1) 0 0,.cells [BB (aH v (L.take i)).2] 0 0]) (fun _=>aV.none) (fun _=>True) rfl hg rfl rfl trivial (fun i x hx _=>?_) (fun _=>?_)
 ·obtain ⟨x,hxi,rfl⟩:=wR hx
  have hpx:=hp x (List.mem_of_getElem? hxi)
  have hst:aH v (L.take (i+1))=e9 v (aH v (L.take i)) x:=yS hxi
  rw [hst]
  generalize aH v (L.take i)=z at *
  obtain ⟨z1,z2⟩:=z
  refine ⟨rfl,?_⟩
  refine aa (mu:=fun _=>false) ?_
  repeat' (first |refine u1 ?_ |refine u2 ?_ |fail)
  cases z2 with
  | false =>
   refine aa (mu:=fun _=>false) ?_
   repeat' (first |refine u1 ?_ |refine u2 ?_ |refine af.call hpx hF rfl ?_ |fail)
   exact ⟨_,ah.to (l:=[]) 2 rfl trivial (Nat.le_refl _) rfl rfl⟩
  | true =>
   refine aa (mu:=fun _=>false) ?_
   repeat' (first |refine u1 ?_ |refine u2 ?_ |refine af.call hpx hF rfl ?_ |fail)
   exact ⟨_,ah.to (l:=[]) 2 rfl trivial (Nat.le_refl _) rfl rfl⟩
 ·refine aa (mu:=fun _=>false) ?_
  repeat' (first |refine u1 ?_ |refine u2 ?_ |fail)
  refine ⟨[_,_],⟨Fz.deep rfl,Fz.deep rfl,trivial⟩,?_⟩
  rw [List.length_map,List.take_length]
  rfl
theorem E6 (one:Bool) (g:FuncId) (fs cs:List AV) (hF:(AV.fn g fs cs).deep=true) (gf:FuncId) (ga gb:List AV) (v:Int × Int→Int) (L:List (Int × Int)) (hg:lX TT TB one (.fn gf ga gb) (L.map jP)) (hp:∀ x ∈ L,af TT TB one (.fn g fs cs) (jP x) (ai (v x))) :
  Pu one 88 [.fn gf ga gb,.fn g fs cs] (.tp [.ag (aG (aH v L).1),BB (aH v L).2]):=by
 refine af.body (fn:=Tryz.f88) rfl rfl rfl rfl ?_
 have hdF:bP [.fn g fs cs]=true:=by simp only [bP,Bool.and_true];exact hF
 refine RM.fm (mu:=fun _=>false) ?_
 repeat' (first |refine ⟨rfl,rfl,hdF,?_⟩ |refine u1 ?_ |fail)
 refine ax.seq ?_
 refine RM.fm (mu:=fun _=>false) ?_
 repeat' (first |refine u1 ?_ |fail)
 refine ax.block ?_
 refine ax.range (fun i=>[.cells (aG (aH v (L.take i)).1) 0 0,.cells [BB (aH v (L.take i)).2] 0 0]) (fun _=>aV.none) (fun _=>True) rfl hg rfl rfl trivial (fun i x hx _=>?_) (fun _=>?_)
 ·obtain ⟨x,hxi,rfl⟩:=wR hx
  have hpx:=hp x (List.mem_of_getElem? hxi)
  have hst:aH v (L.take (i+1))=e9 v (aH v (L.take i)) x:=yS hxi
  rw [hst]
  generalize aH v (L.take i)=z at *
  obtain ⟨z1,z2⟩:=z
  refine ⟨rfl,?_⟩
  refine aa (mu:=fun _=>false) ?_
  repeat' (first |refine u1 ?_ |refine u2 ?_ |fail)
  cases z2 with
  | false =>
   refine aa (mu:=fun _=>false) ?_
   repeat' (first |refine u1 ?_ |refine u2 ?_ |refine af.call hpx hF rfl ?_ |fail)
   exact ⟨_,ah.to (l:=[]) 2 rfl trivial (Nat.le_refl _) rfl rfl⟩
  | true =>
   refine aa (mu:=fun _=>false) ?_
   repeat' (first |refine u1 ?_ |refine u2 ?_ |refine af.call hpx hF rfl ?_ |fail)
   exact ⟨_,ah.to (l:=[]) 2 rfl trivial (Nat.le_refl _) rfl rfl⟩
 ·refine aa (mu:=fun _=>false) ?_
  repeat' (first |refine u1 ?_ |refine u2 ?_ |fail)
  refine ⟨[_,_],⟨Fz.deep rfl,Fz.deep rfl,trivial⟩,?_⟩
  rw [List.length_map,List.take_length]
  rfl
end Go.Proofs.YtichbhmnhkegiaaGreat
open Go Go.RM Go.AirLaw
namespace Go.Proofs.YtichbhmnhkegiaaGreat
set_option maxRecDepth 100000
set_option maxHeartbeats 4000000
theorem Nj {n:Int} (h:0≤n∧n≤9223372036854775807):cg (az TT.P (convert 3 171 (.int .i64 n)))=some (.int .u64 n,.none):=by
 have:cg (az TT.P (convert 3 171 (.int .i64 n)))=some (.int .u64 (IntKind.u64.wrap n),.none):=rfl
 rw [this,IntWalk.u64_in n (by omega)]
theorem Nk {n:Int} (h:0≤n∧n≤9223372036854775807):cg (az TT.P (convert 171 3 (.int .u64 n)))=some (.int .i64 n,.none):=by
 have:cg (az TT.P (convert 171 3 (.int .u64 n)))=some (.int .i64 (IntKind.i64.wrap n),.none):=rfl
 rw [this,IntWalk.i64_in n (by omega)]
def bs (p:Nat→Bool) (i j:Nat):Nat :=
 if i < j then (if p ((i+j) / 2) then bs p i ((i+j) / 2) else bs p ((i+j) / 2+1) j) else i
termination_by j - i
decreasing_by all_goals omega
theorem E7 (p:Nat→Bool) (i j:Nat) (h:i≤j):i≤bs p i j∧bs p i j≤j:=by
 rw [bs]
 split
 ·split
  ·have:=E7 p i ((i+j) / 2) (by omega);omega
  ·have:=E7 p ((i+j) / 2+1) j (by omega);omega
 ·omega
termination_by j - i
decreasing_by all_goals omega
theorem wS (p:Nat→Bool) (i j:Nat) (h:i≤j) (hm:∀ a b,i≤a→a≤b→b < j→p a=true→p b=true):(∀ a,i≤a→a < bs p i j→p a=false)∧(bs p i j < j→p (bs p i j)=true):=by
 rw [bs]
 split
 ·rename_i hlt
  split
  ·rename_i hp
   have hh:=E7 p i ((i+j) / 2) (by omega)
   have:=wS p i ((i+j) / 2) (by omega) fun a b h1 h2 h3=>hm a b h1 h2 (by omega)
   refine ⟨this.1,fun hl=>?_⟩
   by_cases he:bs p i ((i+j) / 2)=(i+j) / 2
   ·rw [he];exact hp
   ·exact this.2 (by omega)
  ·rename_i hp
   have:=wS p ((i+j) / 2+1) j (by omega) fun a b h1 h2 h3=>hm a b (by omega) h2 h3
   refine ⟨fun a h1 h2=>?_,this.2⟩
   by_cases ha:(i+j) / 2+1≤a
   ·exact this.1 a ha h2
   ·cases hpa:p a with
    | false=>rfl
    | true=>exact absurd (hm a ((i+j) / 2) h1 (by omega) (by omega) hpa) hp
 ·exact ⟨fun a h1 h2=>by omega,fun hl=>by omega⟩
termination_by j - i
decreasing_by all_goals omega
theorem HT (one:Bool) (g:FuncId) (fs cs:List AV) (hF:(AV.fn g fs cs).deep=true) (p:Nat→Bool) (n:Nat) (hn:n≤1000000000) (hp:∀ i,i < n→af TT TB one (.fn g fs cs) [ai i] (BB (p i))):Pu one 128 [ai n,.fn g fs cs] (ai (bs p 0 n)):=by
 refine af.body (fn:=Tryz.f128) rfl rfl rfl rfl ?_
 refine aa (mu:=fun _=>false) ?_
 repeat' (first |refine u1 ?_ |fail)
 refine ax.aK (ah.to (l:=[(1,.fn g fs cs),(5,ai ((0:Nat):Int)),(6,ai n)]) 0 rfl ⟨rfl,rfl,rfl,trivial⟩ (Nat.le_refl _) (by simp [gm,ia 0 _ hF]) rfl) ?_
 refine ax.loop (fun x:Nat × Nat=>x.1≤x.2∧x.2≤n∧bs p x.1 x.2=bs p 0 n) (fun x=>⟨aF [(1,.fn g fs cs),(5,ai (x.1:Int)),(6,ai (x.2:Int))],[],aV.none,false,0⟩) (fun x=>x.2 - x.1) ?_ (0,n) ⟨Nat.zero_le _,Nat.le_refl _,rfl⟩
 rintro ⟨i,j⟩ ⟨h1,h2,h3⟩
 dsimp only at h1 h2 h3
 change ax TT TB one _ ⟨aF [(1,.fn g fs cs),(5,ai (i:Int)),(6,ai (j:Int))],[],aV.none,false,0⟩ _
 refine aa (mu:=fun _=>false) ?_
 repeat' (first |refine u1 ?_ |fail)
 refine RM.e1 rfl ⟨fun hc=>?_,fun hc=>?_⟩
 ·have hlt:i < j:=by simpa using hc
  rw [bs,if_pos hlt] at h3
  have hm:(((i:Int)+j) / 2)=(((i+j) / 2:Nat):Int):=by omega
  repeat' (first |refine ⟨_,Nj (by omega),rfl,?_⟩ |refine ⟨_,_,rfl,rfl,_,HA,rfl,?_⟩ |refine ⟨_,Nk (by omega),rfl,?_⟩ |refine u1 ?_ |refine u2 ?_ |fail)
  rw [hm]
  repeat' (first |refine u1 ?_ |refine af.call (hp ((i+j) / 2) (by omega)) hF rfl ?_ |fail)
  cases hb:p ((i+j) / 2) with
  | true =>
   rw [if_pos hb] at h3
   repeat' (first |refine u1 ?_ |fail)
   exact ⟨(i,(i+j) / 2),⟨by dsimp only;omega,by dsimp only;omega,h3⟩,(by dsimp only;omega),ah.to 0 rfl ⟨rfl,rfl,rfl,trivial⟩ (Nat.le_refl _) (by simp [gm,ia 0 _ hF]) rfl⟩
  | false =>
   rw [if_neg (by simp [hb])] at h3
   repeat' (first |refine u1 ?_ |fail)
   exact ⟨((i+j) / 2+1,j),⟨by dsimp only;omega,by dsimp only;omega,h3⟩,(by dsimp only;omega),ah.to 0 rfl ⟨rfl,aR (by simp),rfl,trivial⟩ (Nat.le_refl _) (by simp [gm,ia 0 _ hF]) rfl⟩
 ·rw [bs,if_neg (by simpa using hc)] at h3
  repeat' (first |refine u1 ?_ |fail)
  exact ⟨[_],⟨Fz.deep rfl,trivial⟩,by rw [←h3];rfl⟩
def sK (c r:Int) (i:Nat):Bool:=!bz ((i:Int)+1) 0 c r
theorem HU (one:Bool) (c r:Int) (hc:0≤c∧c≤5000) (hr:0≤r∧r≤300) (i:Nat) (hi:i < 60000):af TT TB one (.fn 129 [] [.pt [ai c,ai r] 0]) [ai i] (BB (sK c r i)):=by
 have h:=wQ one c r ((i:Int)+1) 0 hc hr (by omega) (by omega)
 unfold sK
 refine af.body (fn:=Tryz.f129) rfl rfl rfl rfl ?_
 refine aa (mu:=fun _=>false) ?_
 repeat' (first |refine u1 ?_ |refine u2 ?_ |refine af.call h rfl rfl ?_ |fail)
 exact ⟨[_],⟨Fz.deep rfl,trivial⟩,rfl⟩
theorem oK (c r:Int) (i:Nat):sK c r i=!bU c r (i+1):=by
 unfold sK bU
 rw [Int.natCast_add]
 rfl
theorem JM {c r:Int} (hc:0≤c) (hr:0≤r):bs (sK c r) 0 60000=most (bU c r) 60000:=by
 have hin:=E7 (sK c r) 0 60000 (Nat.zero_le _)
 have hl:=wS (sK c r) 0 60000 (Nat.zero_le _) (fun a b _ hab _ hp=>by
  rw [oK,Bool.not_eq_true'] at hp ⊢
  cases hb:bU c r (b+1) with
  | false=>rfl
  | true =>
   rw [iQ hc (Int.le_refl c) hr (Int.le_refl r) (show a+1≤b+1 by omega) hb] at hp
   cases hp)
 generalize bs (sK c r) 0 60000=k at *
 symm
 refine yP hin.2 ?_ (fun e h1 h2=>?_) (iP hc)
 ·cases k with
  | zero=>exact iP hc
  | succ k =>
   have:=hl.1 k (Nat.zero_le _) (by omega)
   rw [oK,Bool.not_eq_false'] at this
   exact this
 ·have:=hl.2 (by omega)
  rw [oK,Bool.not_eq_true'] at this
  cases he:bU c r e with
  | false=>rfl
  | true =>
   rw [iQ hc (Int.le_refl c) hr (Int.le_refl r) (show k+1≤e by omega) he] at this
   cases this
def gn (c r:Int):Int:=(most (bU c r) 60000:Nat)
theorem AD (one:Bool) (c r:Int) (hc:0≤c∧c≤5000) (hr:0≤r∧r≤300):Pu one 94 [.ag [ai c,ai r]] (ai (gn c r)):=by
 have h:=HT one 129 [] [.pt [ai c,ai r] 0] rfl (sK c r) 60000 (by decide) (fun i hi=>HU one c r hc hr i hi)
 rw [JM hc.1 hr.1] at h
 unfold gn
 generalize most (bU c r) 60000=k at *
 refine af.body (fn:=Tryz.f94) rfl rfl rfl rfl ?_
 refine aa (mu:=fun _=>false) ?_
 repeat' (first |refine u1 ?_ |refine u2 ?_ |refine af.call h rfl rfl ?_ |fail)
 exact ⟨[_],⟨Fz.deep rfl,trivial⟩,rfl⟩
theorem K8 (one:Bool) (a b:Int):af TT TB one (.fn 83 [] []) [.ag [ai a,ai b]] (ai a):=by
 refine af.body (fn:=Tryz.f83) rfl rfl rfl rfl ?_
 refine aa (mu:=fun _=>false) ?_
 repeat' (first |refine u1 ?_ |refine u2 ?_ |fail)
 exact ⟨[_],⟨Fz.deep rfl,trivial⟩,rfl⟩
theorem K9 (one:Bool) (a b:Int):af TT TB one (.fn 84 [] []) [.ag [ai a,ai b]] (ai b):=by
 refine af.body (fn:=Tryz.f84) rfl rfl rfl rfl ?_
 refine aa (mu:=fun _=>false) ?_
 repeat' (first |refine u1 ?_ |refine u2 ?_ |fail)
 exact ⟨[_],⟨Fz.deep rfl,trivial⟩,rfl⟩
theorem La (one:Bool) (a b:Int):af TT TB one (.fn 89 [] []) [.ag [ai a,ai b]] (ai a):=by
 refine af.body (fn:=Tryz.f89) rfl rfl rfl rfl ?_
 refine aa (mu:=fun _=>false) ?_
 repeat' (first |refine u1 ?_ |refine u2 ?_ |fail)
 exact ⟨[_],⟨Fz.deep rfl,trivial⟩,rfl⟩
theorem Lc (one:Bool) (a b:Int):af TT TB one (.fn 95 [] []) [.ag [ai a,ai b]] (ai b):=by
 refine af.body (fn:=Tryz.f95) rfl rfl rfl rfl ?_
 refine aa (mu:=fun _=>false) ?_
 repeat' (first |refine u1 ?_ |refine u2 ?_ |fail)
 exact ⟨[_],⟨Fz.deep rfl,trivial⟩,rfl⟩
theorem HV (one:Bool) (a b x y:Int) (ha:0≤a∧a≤5000) (hb:0≤b∧b≤300) (hx:-60000≤x∧x≤60000) (hy:-60000≤y∧y≤60000):af TT TB one (.fn 127 [] [.pt [ai x,ai y] 0]) [.ag [ai a,ai b]] (ai (if bz x y a b=true then 1 else 0)):=by
 have hm:=pR (a:=[.ag [ai a,ai b]]) (l:=[.ag [ai x,ai y]]) (wQ one a b x y ha hb hx hy)
 cases e:bz x y a b with
 | true =>
  rw [e] at hm
  refine af.body (fn:=Tryz.f127) rfl rfl rfl rfl ?_
  refine aa (mu:=fun _=>false) ?_
  repeat' (first |refine af.call hm rfl rfl ?_ |refine u1 ?_ |refine u2 ?_ |fail)
  exact ⟨[_],⟨Fz.deep rfl,trivial⟩,rfl⟩
 | false =>
  rw [e] at hm
  refine af.body (fn:=Tryz.f127) rfl rfl rfl rfl ?_
  refine aa (mu:=fun _=>false) ?_
  repeat' (first |refine af.call hm rfl rfl ?_ |refine u1 ?_ |refine u2 ?_ |fail)
  exact ⟨[_],⟨Fz.deep rfl,trivial⟩,rfl⟩
theorem HW (one:Bool) (a b x y:Int) (ha:0≤a∧a≤300) (hb:0≤b∧b≤31) (hx:-60000≤x∧x≤60000) (hy:-60000≤y∧y≤60000):af TT TB one (.fn 126 [] [.pt [ai x,ai y] 0]) [.ag [ai a,ai b]] (ai (if aY x y a b=true then 1 else 0)):=by
 have hm:=pR (a:=[.ag [ai a,ai b]]) (l:=[.ag [ai x,ai y]]) (Ay one a b x y ha hb hx hy)
 cases e:aY x y a b with
 | true =>
  rw [e] at hm
  refine af.body (fn:=Tryz.f126) rfl rfl rfl rfl ?_
  refine aa (mu:=fun _=>false) ?_
  repeat' (first |refine af.call hm rfl rfl ?_ |refine u1 ?_ |refine u2 ?_ |fail)
  exact ⟨[_],⟨Fz.deep rfl,trivial⟩,rfl⟩
 | false =>
  rw [e] at hm
  refine af.body (fn:=Tryz.f126) rfl rfl rfl rfl ?_
  refine aa (mu:=fun _=>false) ?_
  repeat' (first |refine af.call hm rfl rfl ?_ |refine u1 ?_ |refine u2 ?_ |fail)
  exact ⟨[_],⟨Fz.deep rfl,trivial⟩,rfl⟩
end Go.Proofs.YtichbhmnhkegiaaGreat
