/-
  Contracts of the program's functions and of the document's. Lemmas alone; their conditions stand in them.
-/
import Derived.Test.YtichbhmnhkegiaaGreatVA3
import Derived.Test.YtichbhmnhkegiaaGreatVK4
open Go Go.RM Go.AirLaw
namespace Go.Proofs.YtichbhmnhkegiaaGreat
set_option maxRecDepth 100000
set_option maxHeartbeats 4000000
theorem mA {T:bf} {tab:List XE} {one:Bool} {f:FuncId} {a l:List AV} {v:AV} (h:af T tab one (.fn f [] []) (a++l) v):af T tab one (.fn f a []) l v:=by
 refine ⟨h.1,fun X H u us hw hx hu hus=>?_⟩
 cases hu with
 | fn l1 l2 d1 d2 =>
  rename_i a' b'
  have hb:b'=#[]:=by
   have:=l2
   simp at this
   first|exact this|exact this.symm|(apply Array.eq_empty_of_size_eq_zero;simpa using this.symm)
  subst hb
  obtain ⟨goal,hg,m,L,h1,h2,h3⟩:=h.2 X H (.func (.func f) #[] #[]) (a'.toList++us) hw hx (.fn rfl rfl (fun i x u hx=>by simp at hx) (fun i x u hx=>by simp at hx)) (nJ.append ⟨l1,d1⟩ hus)
  refine ⟨goal,?_,m,L,h1,h2,h3⟩
  rw [←hg]
  simp [cD]
def gr (s:au) (i:Int):lu:=s.aj.getD i.toNat ⟨⟨#[]⟩,⟨0,0⟩,0⟩
structure nG (s:au) (n:aE) (rs:List aA):Prop where
 mM:s.EC
 cM:0≤n.cM∧n.cM < s.aj.length
 x:-30000≤n.pos.x∧n.pos.x≤30000
 y:-30000≤n.pos.y∧n.pos.y≤30000
 eT:0≤n.eT∧n.eT≤31
 eK:1≤n.eK∧n.eK≤32
 Fm:rs.length≤8
 rx:∀ r ∈ rs,-30000≤r.pos.x∧r.pos.x≤30000
 ry:∀ r ∈ rs,-30000≤r.pos.y∧r.pos.y≤30000
theorem nG.at {s:au} {n:aE} {rs:List aA} (h:nG s n rs):(s.aj.map aT)[n.cM.toNat]?=some (aT (gr s n.cM)):=by
 have h1:=h.cM
 have h2:n.cM.toNat < s.aj.length:=by omega
 unfold gr
 rw [List.getElem?_map,List.getD,List.getElem?_eq_getElem h2]
 rfl
theorem nG.mem {s:au} {n:aE} {rs:List aA} (h:nG s n rs):gr s n.cM ∈ s.aj:=by
 have h1:=h.cM
 have h2:n.cM.toNat < s.aj.length:=by omega
 unfold gr
 rw [List.getD,List.getElem?_eq_getElem h2]
 exact List.getElem_mem h2
theorem iD {s:au} {n:aE} {rs:List aA} (h:(bT s n rs).2=0):nG s n rs:=by
 unfold bT at h
 by_cases e0:(ye s).2.2=0
 ·rw [if_neg (by omega)] at h
  by_cases e1:bg 0 ((s.aj.length:Int) - 1) [n.cM]=true
  ·rw [if_pos e1] at h;exact absurd h (by decide)
  rw [if_neg e1] at h
  by_cases e2:(bg (-30000) 30000 [n.pos.x,n.pos.y] || bg 0 31 [n.eT] || bg 1 32 [n.eK])=true
  ·rw [if_pos e2] at h;exact absurd h (by decide)
  rw [if_neg e2] at h
  by_cases e3:8 < rs.length
  ·rw [if_pos e3] at h;exact absurd h (by decide)
  rw [if_neg e3] at h
  by_cases e4:0≤nE tf rs
  ·rw [if_pos e4] at h;exact absurd (show (7:Int)=0 from h) (by decide)
  rw [Bool.not_eq_true] at e1 e2
  rw [Bool.or_eq_false_iff,Bool.or_eq_false_iff] at e2
  have b1:=(aI.1 e1) _ (List.mem_singleton_self _)
  have b2:=(aI.1 e2.1.1) n.pos.x (by simp)
  have b3:=(aI.1 e2.1.1) n.pos.y (by simp)
  have b4:=(aI.1 e2.1.2) _ (List.mem_singleton_self _)
  have b5:=(aI.1 e2.2) _ (List.mem_singleton_self _)
  have ha:rs.any tf=false:=by rw [←wj,decide_eq_false_iff_not];exact e4
  rw [List.any_eq_false] at ha
  have hr:∀ r ∈ rs,bg (-30000) 30000 [r.pos.x,r.pos.y]=false:=fun r hr=>by simpa [tf] using ha r hr
  exact ⟨yg e0,by omega,b2,b3,b4,b5,by omega,fun r hm=>(aI.1 (hr r hm)) _ (by simp),fun r hm=>(aI.1 (hr r hm)) _ (by simp)⟩
 ·rw [if_pos (by omega)] at h
  exact absurd h e0
abbrev zy (s:Span):AV:=.fn 131 [] [.pt (bw s) 0]
abbrev gL (a b:Span):AV:=.fn 143 [] [.pt [zy a] 0,.pt [zy b] 0,.pt [.fn 122 [] []] 0]
theorem kC (one:Bool) {s:au} {n:aE} {rs:List aA} (f:Bool) (h:nG s n rs):Pu one 81 [.ag (bh s n rs f)] (gL (gr s n.cM).cand s.clear):=by
 have hat:=h.at
 have h1:=h.cM
 have n1:=kz true (gr s n.cM).cand
 have n2:=kz true s.clear
 have n3:=Cw true (gr s n.cM).cand s.clear
 generalize gr s n.cM=g at *
 refine af.body (fn:=Tryz.f81) rfl rfl rfl rfl ?_
 refine aa (mu:=fun _=>false) ?_
 repeat' (first |refine ⟨_,_,.inl ⟨rfl,rfl⟩,n1,?_⟩ |refine ⟨_,_,.inl ⟨rfl,rfl⟩,n2,?_⟩ |refine ⟨_,_,.inl ⟨rfl,rfl⟩,n3,?_⟩ |refine u1 ?_ |refine u2 ?_ |refine ⟨aT g,⟨by omega,hat⟩,rfl,?_⟩ |fail)
 exact ⟨[_],⟨Fz.deep rfl,trivial⟩,rfl⟩
theorem Ak {α:Type} {p:α→Bool} {L:List α} {i:Nat} {x:α} (h:L[i]?=some x) :
  (p x=true→(L.filter p)[((L.take i).filter p).length]?=some x∧((L.take (i+1)).filter p).length=((L.take i).filter p).length+1)∧(p x=false→((L.take (i+1)).filter p).length=((L.take i).filter p).length):=by
 have e1:L.take (i+1)=L.take i++[x]:=by rw [List.take_add_one,h];rfl
 have hi:i < L.length:=by
  by_cases hl:i < L.length
  ·exact hl
  ·rw [List.getElem?_eq_none (by omega)] at h;cases h
 have e2:L=L.take i++x :: L.drop (i+1):=by
  have e:=List.drop_eq_getElem_cons hi
  rw [List.getElem?_eq_getElem hi,Option.some.injEq] at h
  rw [h] at e
  rw [←e,List.take_append_drop]
 refine ⟨fun hp=>⟨?_,?_⟩,fun hp=>?_⟩
 ·have:L.filter p=(L.take i).filter p++x :: (L.drop (i+1)).filter p:=by
   conv=>lhs;rw [e2]
   rw [List.filter_append,List.filter_cons_of_pos hp]
  rw [this]
  simp
 ·rw [e1,List.filter_append]
  simp [hp]
 ·rw [e1,List.filter_append]
  simp [hp]
def fits (seen:Int→Int→Int→Int→Bool) (n:aE) (cN:Bool) (rs:List aA) (x:Int × Int):Bool :=
 rs.all fun r=>!(r.cN == cN) || (seen (r.pos.x - n.pos.x) (r.pos.y - n.pos.y) x.1 x.2 == r.yes)
theorem Bj (one:Bool) (s:au) (n:aE) (rs:List aA) (f:Bool) (a b:Span):Pu one 80 [.ag (bh s n rs f),gL a b,BB false] (.fn 120 [] [.pt [gL a b] 0,.pt (bh s n rs f) 0,.pt [BB false] 0]):=by
 refine af.body (fn:=Tryz.f80) rfl rfl rfl rfl ?_
 refine aa (mu:=fun _=>false) ?_
 repeat' (first |refine u1 ?_ |refine u2 ?_ |fail)
 exact ⟨[_],⟨Fz.deep rfl,trivial⟩,rfl⟩
theorem Bk (one:Bool) {s:au} {n:aE} {rs:List aA} (f:Bool) (h:nG s n rs) (a b:Span) (L:List (Int × Int)) (hg:jQ TT TB one (gL a b) (L.map iu)) (hb:∀ x ∈ L,(0≤x.1∧x.1≤5000)∧0≤x.2∧x.2≤300) :
  jQ TT TB one (.fn 120 [] [.pt [gL a b] 0,.pt (bh s n rs f) 0,.pt [BB false] 0]) ((L.filter (fits ct n false rs)).map iu):=by
 have h1:=h.x
 have h2:=h.y
 have h3:=h.Fm
 obtain ⟨m,hm⟩:∃ m:Int,m=rs.length:=⟨_,rfl⟩
 have er:((rs.map az).length:Int)=m:=by rw [hm];simp
 refine jQ.body (fn:=Tryz.f120) rfl rfl rfl rfl (fun x hx y hy=>?_) fun u J Stop hy=>?_
 ·obtain ⟨z,_,rfl⟩:=List.mem_map.1 hx
  simp only [List.mem_cons,List.not_mem_nil,or_false] at hy
  subst hy
  exact dP.ag fun b hb=>by simp only [List.mem_cons,List.not_mem_nil,or_false] at hb;rcases hb with rfl|rfl <;> exact dP.fl _
 rw [List.length_map]
 refine RM.dA (mu:=fun _=>false) ?_
 repeat' (first |refine u1 ?_ |refine u2 ?_ |fail)
 refine av.scope ?_
 refine RM.dA (mu:=fun _=>false) ?_
 skip
 refine RM.dA (mu:=fun _=>false) ?_
 repeat' (first |refine u1 ?_ |fail)
 refine av.block ?_
 refine av.range (fun _=>[]) (fun i=>J ((L.take i).filter (fits ct n false rs)).length) (fun _=>True) rfl hg rfl rfl trivial (fun i x hx _=>?_) (fun _=>?_)
 ·obtain ⟨x,hxi,rfl⟩:∃ y,L[i]?=some y∧x=iu y:=by
   rw [List.getElem?_map,Option.map_eq_some_iff] at hx
   obtain ⟨y,h1,h2⟩:=hx
   exact ⟨y,h1,h2.symm⟩
  have hxb:=hb x (List.mem_of_getElem? hxi)
  have hfil:=Ak (p:=fits ct n false rs) hxi
  refine ⟨rfl,?_⟩
  refine aa (mu:=fun _=>false) ?_
  repeat' (first |refine u1 ?_ |refine u2 ?_ |fail)
  refine av.block ?_
  refine RM.dA (mu:=fun _=>false) ?_
  repeat' (first |refine u1 ?_ |refine u2 ?_ |fail)
  refine av.aY (ai.to (l:=[(0,.oq u),(1,.pt [gL a b] 0),(2,.pt (bh s n rs f) 0),(3,.pt [BB false] 0),(4,.pt [.oq u] 0),(5,.ptr 0 0 0),(11,.sl (rs.map az) f),(12,ah m),(13,ah (0:Nat))]) (hp:=[.cells [ah x.1,ah x.2] 0 0]) 1 rfl ⟨rfl,rfl,rfl,rfl,rfl,rfl,rfl,cG er,rfl,trivial⟩ (Nat.zero_le _) rfl rfl) ?_
  refine av.loop (fun k:Nat=>k≤rs.length∧∀ i (h:i < rs.length),i < k→(!(rs[i].cN == false) || (ct (rs[i].pos.x - n.pos.x) (rs[i].pos.y - n.pos.y) x.1 x.2 == rs[i].yes))=true) (fun k=>⟨aP [(0,.oq u),(1,.pt [gL a b] 0),(2,.pt (bh s n rs f) 0),(3,.pt [BB false] 0),(4,.pt [.oq u] 0),(5,.ptr 0 0 0),(11,.sl (rs.map az) f),(12,ah m),(13,ah (k:Nat))],[.cells [ah x.1,ah x.2] 0 0],J ((L.take i).filter (fits ct n false rs)).length,true,0⟩) (fun k=>rs.length - k) ?_ 0 ⟨Nat.zero_le _,fun i _ hi=>absurd hi (Nat.not_lt_zero _)⟩
  rintro k ⟨hk,hprev⟩
  refine aa (mu:=fun _=>false) ?_
  by_cases hlt:k < rs.length
  ·have d1:decide ((k:Int) < m)=true:=decide_eq_true (by omega)
   have hat:(rs.map az)[((k:Nat):Int).toNat]?=some (az rs[k]):=fm hlt
   have hx1:=h.rx rs[k] (List.getElem_mem hlt)
   have hy1:=h.ry rs[k] (List.getElem_mem hlt)
   have hone:(!(rs[k].cN == false) || (ct (rs[k].pos.x - n.pos.x) (rs[k].pos.y - n.pos.y) x.1 x.2 == rs[k].yes))=true→(∀ i (h:i < rs.length),i < k+1→(!(rs[i].cN == false) || (ct (rs[i].pos.x - n.pos.x) (rs[i].pos.y - n.pos.y) x.1 x.2 == rs[i].yes))=true):=by
    intro q i hi hik
    by_cases e:i=k
    ·subst e;exact q
    ·exact hprev i hi (by omega)
   have hno:(!(rs[k].cN == false) || (ct (rs[k].pos.x - n.pos.x) (rs[k].pos.y - n.pos.y) x.1 x.2 == rs[k].yes))=false→fits ct n false rs x=false:=by
    intro q
    unfold fits
    rw [List.all_eq_false]
    exact ⟨rs[k],List.getElem_mem hlt,by rw [q];decide⟩
   generalize rs[k]=r at *
   obtain ⟨⟨px,py⟩,hn,ys⟩:=r
   dsimp only at hx1 hy1 hone hno
   cases hn with
   | true =>
    repeat' (first |refine u1 ?_ |refine u2 ?_ |refine ⟨[ah px,ah py,BB true,BB ys],⟨by omega,hat⟩,rfl,?_⟩ |refine ⟨fun h=>absurd h (by decide),fun _=>?_⟩ |fail)
    exact ⟨k+1,⟨hlt,hone rfl⟩,(by dsimp only;omega),ai.to 1 rfl ⟨rfl,rfl,rfl,rfl,rfl,rfl,rfl,rfl,cG (by simp),trivial⟩ (Nat.zero_le _) rfl rfl⟩
   | false =>
    have hnv:=ku true s n rs f ⟨px,py⟩ (by omega) (by dsimp only;omega)
    have hmt:=mA (a:=[.ag [ah x.1,ah x.2]]) (l:=[.ag [ah (px - n.pos.x),ah (py - n.pos.y)]]) (tc true x.1 x.2 (px - n.pos.x) (py - n.pos.y) (by omega) (by omega) (by omega) (by omega))
    dsimp only at hnv
    generalize ct (px - n.pos.x) (py - n.pos.y) x.1 x.2=v at *
    cases v <;> cases ys
    ·repeat' (first |refine ⟨_,hnv,?_⟩ |refine RM.nm hmt rfl rfl rfl rfl ?_ |refine u1 ?_ |refine u2 ?_ |refine ⟨[ah px,ah py,BB false,BB false],⟨by omega,hat⟩,rfl,?_⟩ |refine ⟨fun h=>absurd h (by decide),fun _=>?_⟩ |refine ⟨fun _=>?_,fun h=>absurd h (by decide)⟩ |fail)
     exact ⟨k+1,⟨hlt,hone rfl⟩,(by dsimp only;omega),ai.to 1 rfl ⟨rfl,rfl,rfl,rfl,rfl,rfl,rfl,rfl,cG (by simp),trivial⟩ (Nat.zero_le _) rfl rfl⟩
    ·repeat' (first |refine ⟨_,hnv,?_⟩ |refine RM.nm hmt rfl rfl rfl rfl ?_ |refine u1 ?_ |refine u2 ?_ |refine ⟨[ah px,ah py,BB false,BB true],⟨by omega,hat⟩,rfl,?_⟩ |refine ⟨fun _=>?_,fun h=>absurd h (by decide)⟩ |fail)
     exact ⟨_,u0 (l:=[]) 0 rfl trivial (Nat.zero_le _) rfl rfl (congrArg J (hfil.2 (hno rfl)).symm)⟩
    ·repeat' (first |refine ⟨_,hnv,?_⟩ |refine RM.nm hmt rfl rfl rfl rfl ?_ |refine u1 ?_ |refine u2 ?_ |refine ⟨[ah px,ah py,BB false,BB false],⟨by omega,hat⟩,rfl,?_⟩ |refine ⟨fun _=>?_,fun h=>absurd h (by decide)⟩ |fail)
     exact ⟨_,u0 (l:=[]) 0 rfl trivial (Nat.zero_le _) rfl rfl (congrArg J (hfil.2 (hno rfl)).symm)⟩
    ·repeat' (first |refine ⟨_,hnv,?_⟩ |refine RM.nm hmt rfl rfl rfl rfl ?_ |refine u1 ?_ |refine u2 ?_ |refine ⟨[ah px,ah py,BB false,BB true],⟨by omega,hat⟩,rfl,?_⟩ |refine ⟨fun h=>absurd h (by decide),fun _=>?_⟩ |refine ⟨fun _=>?_,fun h=>absurd h (by decide)⟩ |fail)
     exact ⟨k+1,⟨hlt,hone rfl⟩,(by dsimp only;omega),ai.to 1 rfl ⟨rfl,rfl,rfl,rfl,rfl,rfl,rfl,rfl,cG (by simp),trivial⟩ (Nat.zero_le _) rfl rfl⟩
  ·have d1:decide ((k:Int) < m)=false:=decide_eq_false (by omega)
   have hkn:k=rs.length:=by omega
   have hyes:fits ct n false rs x=true:=by
    unfold fits
    rw [List.all_eq_true]
    intro r hr
    obtain ⟨i,hi,rfl⟩:=List.getElem_of_mem hr
    exact hprev i hi (by omega)
   have hyx:=hy _ (iu x) (by rw [List.getElem?_map,(hfil.1 hyes).1];rfl)
   rw [(hfil.1 hyes).2]
   repeat' (first |refine u1 ?_ |fail)
   refine RM.dA (mu:=fun _=>false) ?_
   repeat' (first |refine u1 ?_ |refine u2 ?_ |fail)
   refine aK.mono (hyx _) (fun a hp' amb' hq=>?_)
   obtain ⟨rfl,b,rfl,hb⟩:=hq
   rcases hb with ⟨rfl,rfl⟩|⟨rfl,hstop⟩
   ·repeat' (first |refine u1 ?_ |fail)
    refine aa (mu:=fun _=>false) ?_
    repeat' (first |refine u1 ?_ |refine u2 ?_ |fail)
    exact ⟨_,ai.to (l:=[]) 0 rfl trivial (Nat.zero_le _) rfl rfl⟩
   ·repeat' (first |refine u1 ?_ |fail)
    refine aa (mu:=fun _=>false) ?_
    repeat' (first |refine u1 ?_ |fail)
    exact Or.inr hstop
 ·exact Or.inl (by rw [List.length_map,List.take_length])
end Go.Proofs.YtichbhmnhkegiaaGreat
open Go Go.RM Go.AirLaw
namespace Go.Proofs.YtichbhmnhkegiaaGreat
set_option maxRecDepth 100000
set_option maxHeartbeats 4000000
theorem Cx {s:Span} {i:Nat} {x:Int} (h:(cU s)[i]?=some x):s.lo≤x∧x≤s.hi:=by
 have h1:=List.mem_of_getElem? h
 unfold cU bU at h1
 rw [List.mem_map] at h1
 obtain ⟨k,hk,rfl⟩:=h1
 rw [List.mem_range] at hk
 omega
theorem Cy (one:Bool) (a b:Span):Pu one 124 [.fn 131 [] [.pt (bw a) 0],.fn 131 [] [.pt (bw b) 0],.fn 125 [] []] (.fn 144 [] [.pt [.fn 131 [] [.pt (bw a) 0]] 0,.pt [.fn 131 [] [.pt (bw b) 0]] 0,.pt [.fn 125 [] []] 0]):=by
 refine af.body (fn:=Tryz.f124) rfl rfl rfl rfl ?_
 refine aa (mu:=fun _=>false) ?_
 repeat' (first |refine u1 ?_ |refine u2 ?_ |fail)
 exact ⟨[_],⟨Fz.deep rfl,trivial⟩,rfl⟩
theorem ym (one:Bool) (a b:Span) (ha:-1000000≤a.lo∧a.lo≤a.hi∧a.hi≤1000000) (hb:-1000000≤b.lo∧b.lo≤b.hi∧b.hi≤1000000) (hbb:0≤b.lo∧b.hi≤1000) :
  jQ TT TB one (.fn 144 [] [.pt [.fn 131 [] [.pt (bw a) 0]] 0,.pt [.fn 131 [] [.pt (bw b) 0]] 0,.pt [.fn 125 [] []] 0]) ((gU E6 (cU a) (cU b)).map iu):=by
 have ga:=kA one a ha
 have gb:=kA one b hb
 refine jQ.body (fn:=Tryz.f144) rfl rfl rfl rfl (fun x hx y hy=>?_) fun u J Stop hy=>?_
 ·obtain ⟨z,_,rfl⟩:=List.mem_map.1 hx
  simp only [List.mem_cons,List.not_mem_nil,or_false] at hy
  subst hy
  exact dP.ag fun b hb=>by simp only [List.mem_cons,List.not_mem_nil,or_false] at hb;rcases hb with rfl|rfl <;> exact dP.fl _
 rw [List.length_map,kB,bV,bV]
 have hy':∀ {i j:Nat} {x y:Int},(cU a)[i]?=some x→(cU b)[j]?=some y→∀ hp,aK TT TB one (.oq u) (iu (E6 x y)) hp (J (i * bU b+j)) fun v hp' a'=>hp'=hp∧∃ b',v=.fl (.bool b')∧zj (J (i * bU b+j+1)) Stop b' a':=by
  intro i j x y hx hyy
  have:=hy (i * bU b+j) (iu (E6 x y)) (by rw [List.getElem?_map,←bV b,yh hyy hx];rfl)
  exact this
 refine RM.dA (mu:=fun _=>false) ?_
 repeat' (first |refine u1 ?_ |refine u2 ?_ |fail)
 refine RM.dA (mu:=fun _=>false) ?_
 repeat' (first |refine u1 ?_ |refine u2 ?_ |fail)
 refine av.block ?_
 refine av.range (fun _=>[]) (fun i=>J (i * bU b)) (fun _=>True) rfl ga rfl (congrArg J (Nat.zero_mul _)) trivial (fun i x hx _=>?_) (fun _=>?_)
 ·obtain ⟨x,hxi,rfl⟩:∃ y,(cU a)[i]?=some y∧x=eI y:=by
   rw [List.getElem?_map,Option.map_eq_some_iff] at hx
   obtain ⟨y,h1,h2⟩:=hx
   exact ⟨y,h1,h2.symm⟩
  refine ⟨rfl,?_⟩
  refine aa (mu:=fun _=>false) ?_
  repeat' (first |refine u1 ?_ |refine u2 ?_ |fail)
  refine av.block ?_
  refine RM.dA (mu:=fun _=>false) ?_
  repeat' (first |refine u1 ?_ |refine u2 ?_ |fail)
  refine av.block ?_
  refine av.range (fun _=>[.cells [ah x] 0 0]) (fun j=>J (i * bU b+j)) (fun _=>True) rfl gb rfl rfl trivial (fun j y hyj _=>?_) (fun _=>?_)
  ·obtain ⟨y,hyk,rfl⟩:∃ z,(cU b)[j]?=some z∧y=eI z:=by
    rw [List.getElem?_map,Option.map_eq_some_iff] at hyj
    obtain ⟨z,h1,h2⟩:=hyj
    exact ⟨z,h1,h2.symm⟩
   refine ⟨rfl,?_⟩
   have hyx:=hy' hxi hyk
   have hmk:=Fl true x y (by have:=Cx hyk;omega)
   refine aa (mu:=fun _=>false) ?_
   repeat' (first |refine u1 ?_ |refine u2 ?_ |fail)
   refine av.block ?_
   refine RM.dA (mu:=fun _=>false) ?_
   repeat' (first |refine ⟨_,_,.inl ⟨rfl,rfl⟩,hmk,?_⟩ |refine u1 ?_ |refine u2 ?_ |fail)
   refine aK.mono (hyx _) (fun a hp' amb' hq=>?_)
   obtain ⟨rfl,b,rfl,hb⟩:=hq
   rcases hb with ⟨rfl,rfl⟩|⟨rfl,hstop⟩
   ·repeat' (first |refine u1 ?_ |fail)
    refine aa (mu:=fun _=>false) ?_
    repeat' (first |refine u1 ?_ |refine u2 ?_ |fail)
    exact (ai.refl _).2
   ·repeat' (first |refine u1 ?_ |fail)
    refine aa (mu:=fun _=>false) ?_
    repeat' (first |refine u1 ?_ |fail)
    exact Or.inr hstop
  ·exact ⟨trivial,_,u0 (l:=[]) 0 rfl trivial (Nat.zero_le _) rfl rfl (congrArg J (by rw [List.length_map,bV,Nat.add_mul,Nat.one_mul]))⟩
 ·exact Or.inl (by rw [List.length_map,bV])
abbrev gH (a b:Span):AV:=.fn 144 [] [.pt [zy a] 0,.pt [zy b] 0,.pt [.fn 125 [] []] 0]
theorem wv (one:Bool) {s:au} {n:aE} {rs:List aA} (f:Bool) (h:nG s n rs):Pu one 87 [.ag (bh s n rs f)] (gH s.bW ⟨n.eT,n.eT+n.eK - 1⟩):=by
 have h1:=h.eT
 have h2:=h.eK
 have n1:=kz true s.bW
 have n2:=kz true ⟨n.eT,n.eT+n.eK - 1⟩
 have n3:=Cy true s.bW ⟨n.eT,n.eT+n.eK - 1⟩
 refine af.body (fn:=Tryz.f87) rfl rfl rfl rfl ?_
 refine aa (mu:=fun _=>false) ?_
 repeat' (first |refine ⟨_,_,.inl ⟨rfl,rfl⟩,n1,?_⟩ |refine ⟨_,_,.inl ⟨rfl,rfl⟩,n2,?_⟩ |refine ⟨_,_,.inl ⟨rfl,rfl⟩,n3,?_⟩ |refine u1 ?_ |refine u2 ?_ |fail)
 exact ⟨[_],⟨Fz.deep rfl,trivial⟩,rfl⟩
theorem Bl (one:Bool) (s:au) (n:aE) (rs:List aA) (f:Bool) (a b:Span):Pu one 86 [.ag (bh s n rs f),gH a b,BB true] (.fn 123 [] [.pt [gH a b] 0,.pt (bh s n rs f) 0,.pt [BB true] 0]):=by
 refine af.body (fn:=Tryz.f86) rfl rfl rfl rfl ?_
 refine aa (mu:=fun _=>false) ?_
 repeat' (first |refine u1 ?_ |refine u2 ?_ |fail)
 exact ⟨[_],⟨Fz.deep rfl,trivial⟩,rfl⟩
theorem Bm (one:Bool) {s:au} {n:aE} {rs:List aA} (f:Bool) (h:nG s n rs) (a b:Span) (L:List (Int × Int)) (hg:jQ TT TB one (gH a b) (L.map iu)) (hb:∀ x ∈ L,(0≤x.1∧x.1≤300)∧0≤x.2∧x.2≤31) :
  jQ TT TB one (.fn 123 [] [.pt [gH a b] 0,.pt (bh s n rs f) 0,.pt [BB true] 0]) ((L.filter (fits bA n true rs)).map iu):=by
 have h1:=h.x
 have h2:=h.y
 have h3:=h.Fm
 obtain ⟨m,hm⟩:∃ m:Int,m=rs.length:=⟨_,rfl⟩
 have er:((rs.map az).length:Int)=m:=by rw [hm];simp
 refine jQ.body (fn:=Tryz.f123) rfl rfl rfl rfl (fun x hx y hy=>?_) fun u J Stop hy=>?_
 ·obtain ⟨z,_,rfl⟩:=List.mem_map.1 hx
  simp only [List.mem_cons,List.not_mem_nil,or_false] at hy
  subst hy
  exact dP.ag fun b hb=>by simp only [List.mem_cons,List.not_mem_nil,or_false] at hb;rcases hb with rfl|rfl <;> exact dP.fl _
 rw [List.length_map]
 refine RM.dA (mu:=fun _=>false) ?_
 repeat' (first |refine u1 ?_ |refine u2 ?_ |fail)
 refine av.scope ?_
 refine RM.dA (mu:=fun _=>false) ?_
 skip
 refine RM.dA (mu:=fun _=>false) ?_
 repeat' (first |refine u1 ?_ |refine u2 ?_ |fail)
 refine av.block ?_
 refine av.range (fun _=>[]) (fun i=>J ((L.take i).filter (fits bA n true rs)).length) (fun _=>True) rfl hg rfl rfl trivial (fun i x hx _=>?_) (fun _=>?_)
 ·obtain ⟨x,hxi,rfl⟩:∃ y,L[i]?=some y∧x=iu y:=by
   rw [List.getElem?_map,Option.map_eq_some_iff] at hx
   obtain ⟨y,h1,h2⟩:=hx
   exact ⟨y,h1,h2.symm⟩
  have hxb:=hb x (List.mem_of_getElem? hxi)
  have hfil:=Ak (p:=fits bA n true rs) hxi
  refine ⟨rfl,?_⟩
  refine aa (mu:=fun _=>false) ?_
  repeat' (first |refine u1 ?_ |refine u2 ?_ |fail)
  refine av.block ?_
  refine RM.dA (mu:=fun _=>false) ?_
  repeat' (first |refine u1 ?_ |refine u2 ?_ |fail)
  refine av.aY (ai.to (l:=[(0,.oq u),(1,.pt [gH a b] 0),(2,.pt (bh s n rs f) 0),(3,.pt [BB true] 0),(4,.pt [.oq u] 0),(5,.ptr 0 0 0),(11,.sl (rs.map az) f),(12,ah m),(13,ah (0:Nat))]) (hp:=[.cells [ah x.1,ah x.2] 0 0]) 1 rfl ⟨rfl,rfl,rfl,rfl,rfl,rfl,rfl,cG er,rfl,trivial⟩ (Nat.zero_le _) rfl rfl) ?_
  refine av.loop (fun k:Nat=>k≤rs.length∧∀ i (h:i < rs.length),i < k→(!(rs[i].cN == true) || (bA (rs[i].pos.x - n.pos.x) (rs[i].pos.y - n.pos.y) x.1 x.2 == rs[i].yes))=true) (fun k=>⟨aP [(0,.oq u),(1,.pt [gH a b] 0),(2,.pt (bh s n rs f) 0),(3,.pt [BB true] 0),(4,.pt [.oq u] 0),(5,.ptr 0 0 0),(11,.sl (rs.map az) f),(12,ah m),(13,ah (k:Nat))],[.cells [ah x.1,ah x.2] 0 0],J ((L.take i).filter (fits bA n true rs)).length,true,0⟩) (fun k=>rs.length - k) ?_ 0 ⟨Nat.zero_le _,fun i _ hi=>absurd hi (Nat.not_lt_zero _)⟩
  rintro k ⟨hk,hprev⟩
  refine aa (mu:=fun _=>false) ?_
  by_cases hlt:k < rs.length
  ·have d1:decide ((k:Int) < m)=true:=decide_eq_true (by omega)
   have hat:(rs.map az)[((k:Nat):Int).toNat]?=some (az rs[k]):=fm hlt
   have hx1:=h.rx rs[k] (List.getElem_mem hlt)
   have hy1:=h.ry rs[k] (List.getElem_mem hlt)
   have hone:(!(rs[k].cN == true) || (bA (rs[k].pos.x - n.pos.x) (rs[k].pos.y - n.pos.y) x.1 x.2 == rs[k].yes))=true→(∀ i (h:i < rs.length),i < k+1→(!(rs[i].cN == true) || (bA (rs[i].pos.x - n.pos.x) (rs[i].pos.y - n.pos.y) x.1 x.2 == rs[i].yes))=true):=by
    intro q i hi hik
    by_cases e:i=k
    ·subst e;exact q
    ·exact hprev i hi (by omega)
   have hno:(!(rs[k].cN == true) || (bA (rs[k].pos.x - n.pos.x) (rs[k].pos.y - n.pos.y) x.1 x.2 == rs[k].yes))=false→fits bA n true rs x=false:=by
    intro q
    unfold fits
    rw [List.all_eq_false]
    exact ⟨rs[k],List.getElem_mem hlt,by rw [q];decide⟩
   generalize rs[k]=r at *
   obtain ⟨⟨px,py⟩,hn,ys⟩:=r
   dsimp only at hx1 hy1 hone hno
   cases hn with
   | false =>
    repeat' (first |refine u1 ?_ |refine u2 ?_ |refine ⟨[ah px,ah py,BB false,BB ys],⟨by omega,hat⟩,rfl,?_⟩ |refine ⟨fun h=>absurd h (by decide),fun _=>?_⟩ |fail)
    exact ⟨k+1,⟨hlt,hone rfl⟩,(by dsimp only;omega),ai.to 1 rfl ⟨rfl,rfl,rfl,rfl,rfl,rfl,rfl,rfl,cG (by simp),trivial⟩ (Nat.zero_le _) rfl rfl⟩
   | true =>
    have hnv:=ku true s n rs f ⟨px,py⟩ (by omega) (by dsimp only;omega)
    have hmt:=mA (a:=[.ag [ah x.1,ah x.2]]) (l:=[.ag [ah (px - n.pos.x),ah (py - n.pos.y)]]) (wm true x.1 x.2 (px - n.pos.x) (py - n.pos.y) (by omega) (by omega) (by omega) (by omega))
    dsimp only at hnv
    generalize bA (px - n.pos.x) (py - n.pos.y) x.1 x.2=v at *
    cases v <;> cases ys
    ·repeat' (first |refine ⟨_,hnv,?_⟩ |refine RM.nm hmt rfl rfl rfl rfl ?_ |refine u1 ?_ |refine u2 ?_ |refine ⟨[ah px,ah py,BB true,BB false],⟨by omega,hat⟩,rfl,?_⟩ |refine ⟨fun h=>absurd h (by decide),fun _=>?_⟩ |refine ⟨fun _=>?_,fun h=>absurd h (by decide)⟩ |fail)
     exact ⟨k+1,⟨hlt,hone rfl⟩,(by dsimp only;omega),ai.to 1 rfl ⟨rfl,rfl,rfl,rfl,rfl,rfl,rfl,rfl,cG (by simp),trivial⟩ (Nat.zero_le _) rfl rfl⟩
    ·repeat' (first |refine ⟨_,hnv,?_⟩ |refine RM.nm hmt rfl rfl rfl rfl ?_ |refine u1 ?_ |refine u2 ?_ |refine ⟨[ah px,ah py,BB true,BB true],⟨by omega,hat⟩,rfl,?_⟩ |refine ⟨fun _=>?_,fun h=>absurd h (by decide)⟩ |fail)
     exact ⟨_,u0 (l:=[]) 0 rfl trivial (Nat.zero_le _) rfl rfl (congrArg J (hfil.2 (hno rfl)).symm)⟩
    ·repeat' (first |refine ⟨_,hnv,?_⟩ |refine RM.nm hmt rfl rfl rfl rfl ?_ |refine u1 ?_ |refine u2 ?_ |refine ⟨[ah px,ah py,BB true,BB false],⟨by omega,hat⟩,rfl,?_⟩ |refine ⟨fun _=>?_,fun h=>absurd h (by decide)⟩ |fail)
     exact ⟨_,u0 (l:=[]) 0 rfl trivial (Nat.zero_le _) rfl rfl (congrArg J (hfil.2 (hno rfl)).symm)⟩
    ·repeat' (first |refine ⟨_,hnv,?_⟩ |refine RM.nm hmt rfl rfl rfl rfl ?_ |refine u1 ?_ |refine u2 ?_ |refine ⟨[ah px,ah py,BB true,BB true],⟨by omega,hat⟩,rfl,?_⟩ |refine ⟨fun h=>absurd h (by decide),fun _=>?_⟩ |refine ⟨fun _=>?_,fun h=>absurd h (by decide)⟩ |fail)
     exact ⟨k+1,⟨hlt,hone rfl⟩,(by dsimp only;omega),ai.to 1 rfl ⟨rfl,rfl,rfl,rfl,rfl,rfl,rfl,rfl,cG (by simp),trivial⟩ (Nat.zero_le _) rfl rfl⟩
  ·have d1:decide ((k:Int) < m)=false:=decide_eq_false (by omega)
   have hkn:k=rs.length:=by omega
   have hyes:fits bA n true rs x=true:=by
    unfold fits
    rw [List.all_eq_true]
    intro r hr
    obtain ⟨i,hi,rfl⟩:=List.getElem_of_mem hr
    exact hprev i hi (by omega)
   have hyx:=hy _ (iu x) (by rw [List.getElem?_map,(hfil.1 hyes).1];rfl)
   rw [(hfil.1 hyes).2]
   repeat' (first |refine u1 ?_ |fail)
   refine RM.dA (mu:=fun _=>false) ?_
   repeat' (first |refine u1 ?_ |refine u2 ?_ |fail)
   refine aK.mono (hyx _) (fun a hp' amb' hq=>?_)
   obtain ⟨rfl,b,rfl,hb⟩:=hq
   rcases hb with ⟨rfl,rfl⟩|⟨rfl,hstop⟩
   ·repeat' (first |refine u1 ?_ |fail)
    refine aa (mu:=fun _=>false) ?_
    repeat' (first |refine u1 ?_ |refine u2 ?_ |fail)
    exact ⟨_,ai.to (l:=[]) 0 rfl trivial (Nat.zero_le _) rfl rfl⟩
   ·repeat' (first |refine u1 ?_ |fail)
    refine aa (mu:=fun _=>false) ?_
    repeat' (first |refine u1 ?_ |fail)
    exact Or.inr hstop
 ·exact Or.inl (by rw [List.length_map,List.take_length])
end Go.Proofs.YtichbhmnhkegiaaGreat
