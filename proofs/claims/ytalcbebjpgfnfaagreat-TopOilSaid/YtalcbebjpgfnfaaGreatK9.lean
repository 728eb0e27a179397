/-
  Contracts of the program's functions and of the document's. Lemmas alone; their conditions stand in them.
-/
import Derived.Test.YtalcbebjpgfnfaaGreatA3
import Derived.Test.YtalcbebjpgfnfaaGreatK8
open Go Go.RM Go.AirLaw
namespace Go.Proofs.YtalcbebjpgfnfaaGreat
set_option maxRecDepth 100000
set_option maxHeartbeats 4000000
theorem qh {T:cr} {tab:List XE} {one:Bool} {f:FuncId} {a l:List AV} {v:AV} (h:af T tab one (.fn f [] []) (a++l) v):af T tab one (.fn f a []) l v:=by
 refine ⟨h.1,fun X H u us hw hx hu hus=>?_⟩
 cases hu with
 | fn l1 l2 d1 d2 =>
  rename_i a' b'
  have hb:b'=#[]:=by
   have:=l2
   simp at this
   first|exact this|exact this.symm|(apply Array.eq_empty_of_size_eq_zero;simpa using this.symm)
  subst hb
  obtain ⟨goal,hg,m,L,h1,h2,h3⟩:=h.2 X H (.func (.func f) #[] #[]) (a'.toList++us) hw hx (.fn rfl rfl (fun i x u hx=>by simp at hx) (fun i x u hx=>by simp at hx)) (rL.append ⟨l1,d1⟩ hus)
  refine ⟨goal,?_,m,L,h1,h2,h3⟩
  rw [←hg]
  simp [dI]
def gr (s:aC) (i:Int):gj:=s.ax.getD i.toNat ⟨⟨#[]⟩,⟨0,0⟩,0⟩
structure rD (s:aC) (n:bk) (rs:List aP):Prop where
 qv:s.LO
 ei:0≤n.ei∧n.ei < s.ax.length
 x:-30000≤n.pos.x∧n.pos.x≤30000
 y:-30000≤n.pos.y∧n.pos.y≤30000
 g8:0≤n.g8∧n.g8≤31
 gK:1≤n.gK∧n.gK≤32
 MV:rs.length≤8
 rx:∀ r ∈ rs,-30000≤r.pos.x∧r.pos.x≤30000
 ry:∀ r ∈ rs,-30000≤r.pos.y∧r.pos.y≤30000
theorem rD.at {s:aC} {n:bk} {rs:List aP} (h:rD s n rs):(s.ax.map bh)[n.ei.toNat]?=some (bh (gr s n.ei)):=by
 have h1:=h.ei
 have h2:n.ei.toNat < s.ax.length:=by omega
 unfold gr
 rw [List.getElem?_map,List.getD,List.getElem?_eq_getElem h2]
 rfl
theorem rD.mem {s:aC} {n:bk} {rs:List aP} (h:rD s n rs):gr s n.ei ∈ s.ax:=by
 have h1:=h.ei
 have h2:n.ei.toNat < s.ax.length:=by omega
 unfold gr
 rw [List.getD,List.getElem?_eq_getElem h2]
 exact List.getElem_mem h2
theorem kO {s:aC} {n:bk} {rs:List aP} (h:(cV s n rs).2=0):rD s n rs:=by
 unfold cV at h
 by_cases e0:(ir s).2.2=0
 ·rw [if_neg (by omega)] at h
  by_cases e1:aM 0 ((s.ax.length:Int) - 1) [n.ei]=true
  ·rw [if_pos e1] at h;exact absurd h (by decide)
  rw [if_neg e1] at h
  by_cases e2:(aM (-30000) 30000 [n.pos.x,n.pos.y] || aM 0 31 [n.g8] || aM 1 32 [n.gK])=true
  ·rw [if_pos e2] at h;exact absurd h (by decide)
  rw [if_neg e2] at h
  by_cases e3:8 < rs.length
  ·rw [if_pos e3] at h;exact absurd h (by decide)
  rw [if_neg e3] at h
  by_cases e4:0≤lE xm rs
  ·rw [if_pos e4] at h;exact absurd (show (7:Int)=0 from h) (by decide)
  rw [Bool.not_eq_true] at e1 e2
  rw [Bool.or_eq_false_iff,Bool.or_eq_false_iff] at e2
  have b1:=(bH.1 e1) _ (List.mem_singleton_self _)
  have b2:=(bH.1 e2.1.1) n.pos.x (by simp)
  have b3:=(bH.1 e2.1.1) n.pos.y (by simp)
  have b4:=(bH.1 e2.1.2) _ (List.mem_singleton_self _)
  have b5:=(bH.1 e2.2) _ (List.mem_singleton_self _)
  have ha:rs.any xm=false:=by rw [←mD,decide_eq_false_iff_not];exact e4
  rw [List.any_eq_false] at ha
  have hr:∀ r ∈ rs,aM (-30000) 30000 [r.pos.x,r.pos.y]=false:=fun r hr=>by simpa [xm] using ha r hr
  exact ⟨xo e0,by omega,b2,b3,b4,b5,by omega,fun r hm=>(bH.1 (hr r hm)) _ (by simp),fun r hm=>(bH.1 (hr r hm)) _ (by simp)⟩
 ·rw [if_pos (by omega)] at h
  exact absurd h e0
abbrev D6 (s:Span):AV:=.fn 118 [] [.pt (ck s) 0]
abbrev gL (a b:Span):AV:=.fn 146 [] [.pt [D6 a] 0,.pt [D6 b] 0,.pt [.fn 110 [] []] 0]
theorem nE (one:Bool) {s:aC} {n:bk} {rs:List aP} (f:Bool) (h:rD s n rs):Pu one 67 [.ag (cx s n rs f)] (gL (gr s n.ei).cand s.clear):=by
 have hat:=h.at
 have h1:=h.ei
 have n1:=nB true (gr s n.ei).cand
 have n2:=nB true s.clear
 have n3:=Iu true (gr s n.ei).cand s.clear
 generalize gr s n.ei=g at *
 refine af.body (fn:=Tryz.f67) rfl rfl rfl rfl ?_
 refine aa (mu:=fun _=>false) ?_
 repeat' (first |refine ⟨_,_,.inl ⟨rfl,rfl⟩,n1,?_⟩ |refine ⟨_,_,.inl ⟨rfl,rfl⟩,n2,?_⟩ |refine ⟨_,_,.inl ⟨rfl,rfl⟩,n3,?_⟩ |refine u1 ?_ |refine u2 ?_ |refine ⟨bh g,⟨by omega,hat⟩,rfl,?_⟩ |fail)
 exact ⟨[_],⟨Fz.deep rfl,trivial⟩,rfl⟩
theorem Fb {α:Type} {p:α→Bool} {L:List α} {i:Nat} {x:α} (h:L[i]?=some x) :
  (p x=true→(L.filter p)[((L.take i).filter p).length]?=some x∧((L.take (i+1)).filter p).length=((L.take i).filter p).length+1)∧(p x=false→((L.take (i+1)).filter p).length=((L.take i).filter p).length):=by
 have e1:L.take (i+1)=L.take i++[x]:=by rw [List.take_add_one,h];rfl
 have hi:i < L.length:=by
  by_cases hl:i < L.length
  ·exact hl
  ·rw [List.getElem?_eq_none (by omega)] at h;cases h
 have e2:L=L.take i++x :: L.drop (i+1):=by
  have e:=List.drop_eq_getElem_cons hi
  rw [List.getElem?_eq_getElem hi,Option.some.injEq] at h
  rw [h] at e
  rw [←e,List.take_append_drop]
 refine ⟨fun hp=>⟨?_,?_⟩,fun hp=>?_⟩
 ·have:L.filter p=(L.take i).filter p++x :: (L.drop (i+1)).filter p:=by
   conv=>lhs;rw [e2]
   rw [List.filter_append,List.filter_cons_of_pos hp]
  rw [this]
  simp
 ·rw [e1,List.filter_append]
  simp [hp]
 ·rw [e1,List.filter_append]
  simp [hp]
def fits (seen:Int→Int→Int→Int→Bool) (n:bk) (eu:Bool) (rs:List aP) (x:Int × Int):Bool :=
 rs.all fun r=>!(r.eu == eu) || (seen (r.pos.x - n.pos.x) (r.pos.y - n.pos.y) x.1 x.2 == r.yes)
theorem Gu (one:Bool) (s:aC) (n:bk) (rs:List aP) (f:Bool) (a b:Span):Pu one 66 [.ag (cx s n rs f),gL a b,BB false] (.fn 108 [] [.pt [gL a b] 0,.pt (cx s n rs f) 0,.pt [BB false] 0]):=by
 refine af.body (fn:=Tryz.f66) rfl rfl rfl rfl ?_
 refine aa (mu:=fun _=>false) ?_
 repeat' (first |refine u1 ?_ |refine u2 ?_ |fail)
 exact ⟨[_],⟨Fz.deep rfl,trivial⟩,rfl⟩
theorem Gw (one:Bool) {s:aC} {n:bk} {rs:List aP} (f:Bool) (h:rD s n rs) (a b:Span) (L:List (Int × Int)) (hg:lD TT TB one (gL a b) (L.map kE)) (hb:∀ x ∈ L,(0≤x.1∧x.1≤5000)∧0≤x.2∧x.2≤300) :
  lD TT TB one (.fn 108 [] [.pt [gL a b] 0,.pt (cx s n rs f) 0,.pt [BB false] 0]) ((L.filter (fits dB n false rs)).map kE):=by
 have h1:=h.x
 have h2:=h.y
 have h3:=h.MV
 obtain ⟨m,hm⟩:∃ m:Int,m=rs.length:=⟨_,rfl⟩
 have er:((rs.map aL).length:Int)=m:=by rw [hm];simp
 refine lD.body (fn:=Tryz.f108) rfl rfl rfl rfl (fun x hx y hy=>?_) fun u J Stop hy=>?_
 ·obtain ⟨z,_,rfl⟩:=List.mem_map.1 hx
  simp only [List.mem_cons,List.not_mem_nil,or_false] at hy
  subst hy
  exact ej.ag fun b hb=>by simp only [List.mem_cons,List.not_mem_nil,or_false] at hb;rcases hb with rfl|rfl <;> exact ej.fl _
 rw [List.length_map]
 refine RM.de (mu:=fun _=>false) ?_
 repeat' (first |refine u1 ?_ |refine u2 ?_ |fail)
 refine az.scope ?_
 refine RM.de (mu:=fun _=>false) ?_
 skip
 refine RM.de (mu:=fun _=>false) ?_
 repeat' (first |refine u1 ?_ |fail)
 refine az.block ?_
 refine az.range (fun _=>[]) (fun i=>J ((L.take i).filter (fits dB n false rs)).length) (fun _=>True) rfl hg rfl rfl trivial (fun i x hx _=>?_) (fun _=>?_)
 ·obtain ⟨x,hxi,rfl⟩:∃ y,L[i]?=some y∧x=kE y:=by
   rw [List.getElem?_map,Option.map_eq_some_iff] at hx
   obtain ⟨y,h1,h2⟩:=hx
   exact ⟨y,h1,h2.symm⟩
  have hxb:=hb x (List.mem_of_getElem? hxi)
  have hfil:=Fb (p:=fits dB n false rs) hxi
  refine ⟨rfl,?_⟩
  refine aa (mu:=fun _=>false) ?_
  repeat' (first |refine u1 ?_ |refine u2 ?_ |fail)
  refine az.block ?_
  refine RM.de (mu:=fun _=>false) ?_
  repeat' (first |refine u1 ?_ |refine u2 ?_ |fail)
  refine az.aK (ai.to (l:=[(0,.oq u),(1,.pt [gL a b] 0),(2,.pt (cx s n rs f) 0),(3,.pt [BB false] 0),(4,.pt [.oq u] 0),(5,.ptr 0 0 0),(11,.sl (rs.map aL) f),(12,ah m),(13,ah (0:Nat))]) (hp:=[.cells [ah x.1,ah x.2] 0 0]) 1 rfl ⟨rfl,rfl,rfl,rfl,rfl,rfl,rfl,aH er,rfl,trivial⟩ (Nat.zero_le _) rfl rfl) ?_
  refine az.loop (fun k:Nat=>k≤rs.length∧∀ i (h:i < rs.length),i < k→(!(rs[i].eu == false) || (dB (rs[i].pos.x - n.pos.x) (rs[i].pos.y - n.pos.y) x.1 x.2 == rs[i].yes))=true) (fun k=>⟨aX [(0,.oq u),(1,.pt [gL a b] 0),(2,.pt (cx s n rs f) 0),(3,.pt [BB false] 0),(4,.pt [.oq u] 0),(5,.ptr 0 0 0),(11,.sl (rs.map aL) f),(12,ah m),(13,ah (k:Nat))],[.cells [ah x.1,ah x.2] 0 0],J ((L.take i).filter (fits dB n false rs)).length,true,0⟩) (fun k=>rs.length - k) ?_ 0 ⟨Nat.zero_le _,fun i _ hi=>absurd hi (Nat.not_lt_zero _)⟩
  rintro k ⟨hk,hprev⟩
  refine aa (mu:=fun _=>false) ?_
  by_cases hlt:k < rs.length
  ·have d1:decide ((k:Int) < m)=true:=decide_eq_true (by omega)
   have hat:(rs.map aL)[((k:Nat):Int).toNat]?=some (aL rs[k]):=cq hlt
   have hx1:=h.rx rs[k] (List.getElem_mem hlt)
   have hy1:=h.ry rs[k] (List.getElem_mem hlt)
   have hone:(!(rs[k].eu == false) || (dB (rs[k].pos.x - n.pos.x) (rs[k].pos.y - n.pos.y) x.1 x.2 == rs[k].yes))=true→(∀ i (h:i < rs.length),i < k+1→(!(rs[i].eu == false) || (dB (rs[i].pos.x - n.pos.x) (rs[i].pos.y - n.pos.y) x.1 x.2 == rs[i].yes))=true):=by
    intro q i hi hik
    by_cases e:i=k
    ·subst e;exact q
    ·exact hprev i hi (by omega)
   have hno:(!(rs[k].eu == false) || (dB (rs[k].pos.x - n.pos.x) (rs[k].pos.y - n.pos.y) x.1 x.2 == rs[k].yes))=false→fits dB n false rs x=false:=by
    intro q
    unfold fits
    rw [List.all_eq_false]
    exact ⟨rs[k],List.getElem_mem hlt,by rw [q];decide⟩
   generalize rs[k]=r at *
   obtain ⟨⟨px,py⟩,hn,ys⟩:=r
   dsimp only at hx1 hy1 hone hno
   cases hn with
   | true =>
    repeat' (first |refine u1 ?_ |refine u2 ?_ |refine ⟨[ah px,ah py,BB true,BB ys],⟨by omega,hat⟩,rfl,?_⟩ |refine ⟨fun h=>absurd h (by decide),fun _=>?_⟩ |fail)
    exact ⟨k+1,⟨hlt,hone rfl⟩,(by dsimp only;omega),ai.to 1 rfl ⟨rfl,rfl,rfl,rfl,rfl,rfl,rfl,rfl,aH (by simp),trivial⟩ (Nat.zero_le _) rfl rfl⟩
   | false =>
    have hnv:=nx true s n rs f ⟨px,py⟩ (by omega) (by dsimp only;omega)
    have hmt:=qh (a:=[.ag [ah x.1,ah x.2]]) (l:=[.ag [ah (px - n.pos.x),ah (py - n.pos.y)]]) (xj true x.1 x.2 (px - n.pos.x) (py - n.pos.y) (by omega) (by omega) (by omega) (by omega))
    dsimp only at hnv
    generalize dB (px - n.pos.x) (py - n.pos.y) x.1 x.2=v at *
    cases v <;> cases ys
    ·repeat' (first |refine ⟨_,hnv,?_⟩ |refine RM.nm hmt rfl rfl rfl rfl ?_ |refine u1 ?_ |refine u2 ?_ |refine ⟨[ah px,ah py,BB false,BB false],⟨by omega,hat⟩,rfl,?_⟩ |refine ⟨fun h=>absurd h (by decide),fun _=>?_⟩ |refine ⟨fun _=>?_,fun h=>absurd h (by decide)⟩ |fail)
     exact ⟨k+1,⟨hlt,hone rfl⟩,(by dsimp only;omega),ai.to 1 rfl ⟨rfl,rfl,rfl,rfl,rfl,rfl,rfl,rfl,aH (by simp),trivial⟩ (Nat.zero_le _) rfl rfl⟩
    ·repeat' (first |refine ⟨_,hnv,?_⟩ |refine RM.nm hmt rfl rfl rfl rfl ?_ |refine u1 ?_ |refine u2 ?_ |refine ⟨[ah px,ah py,BB false,BB true],⟨by omega,hat⟩,rfl,?_⟩ |refine ⟨fun _=>?_,fun h=>absurd h (by decide)⟩ |fail)
     exact ⟨_,zK (l:=[]) 0 rfl trivial (Nat.zero_le _) rfl rfl (congrArg J (hfil.2 (hno rfl)).symm)⟩
    ·repeat' (first |refine ⟨_,hnv,?_⟩ |refine RM.nm hmt rfl rfl rfl rfl ?_ |refine u1 ?_ |refine u2 ?_ |refine ⟨[ah px,ah py,BB false,BB false],⟨by omega,hat⟩,rfl,?_⟩ |refine ⟨fun _=>?_,fun h=>absurd h (by decide)⟩ |fail)
     exact ⟨_,zK (l:=[]) 0 rfl trivial (Nat.zero_le _) rfl rfl (congrArg J (hfil.2 (hno rfl)).symm)⟩
    ·repeat' (first |refine ⟨_,hnv,?_⟩ |refine RM.nm hmt rfl rfl rfl rfl ?_ |refine u1 ?_ |refine u2 ?_ |refine ⟨[ah px,ah py,BB false,BB true],⟨by omega,hat⟩,rfl,?_⟩ |refine ⟨fun h=>absurd h (by decide),fun _=>?_⟩ |refine ⟨fun _=>?_,fun h=>absurd h (by decide)⟩ |fail)
     exact ⟨k+1,⟨hlt,hone rfl⟩,(by dsimp only;omega),ai.to 1 rfl ⟨rfl,rfl,rfl,rfl,rfl,rfl,rfl,rfl,aH (by simp),trivial⟩ (Nat.zero_le _) rfl rfl⟩
  ·have d1:decide ((k:Int) < m)=false:=decide_eq_false (by omega)
   have hkn:k=rs.length:=by omega
   have hyes:fits dB n false rs x=true:=by
    unfold fits
    rw [List.all_eq_true]
    intro r hr
    obtain ⟨i,hi,rfl⟩:=List.getElem_of_mem hr
    exact hprev i hi (by omega)
   have hyx:=hy _ (kE x) (by rw [List.getElem?_map,(hfil.1 hyes).1];rfl)
   rw [(hfil.1 hyes).2]
   repeat' (first |refine u1 ?_ |fail)
   refine RM.de (mu:=fun _=>false) ?_
   repeat' (first |refine u1 ?_ |refine u2 ?_ |fail)
   refine bl.mono (hyx _) (fun a hp' amb' hq=>?_)
   obtain ⟨rfl,b,rfl,hb⟩:=hq
   rcases hb with ⟨rfl,rfl⟩|⟨rfl,hstop⟩
   ·repeat' (first |refine u1 ?_ |fail)
    refine aa (mu:=fun _=>false) ?_
    repeat' (first |refine u1 ?_ |refine u2 ?_ |fail)
    exact ⟨_,ai.to (l:=[]) 0 rfl trivial (Nat.zero_le _) rfl rfl⟩
   ·repeat' (first |refine u1 ?_ |fail)
    refine aa (mu:=fun _=>false) ?_
    repeat' (first |refine u1 ?_ |fail)
    exact Or.inr hstop
 ·exact Or.inl (by rw [List.length_map,List.take_length])
end Go.Proofs.YtalcbebjpgfnfaaGreat
open Go Go.RM Go.AirLaw
namespace Go.Proofs.YtalcbebjpgfnfaaGreat
set_option maxRecDepth 100000
set_option maxHeartbeats 4000000
def je (v:Int × Int→Int) (z:Span × Bool) (x:Int × Int):Span × Bool :=
 (⟨min (if z.2=true then z.1.lo else v x) (v x),max (if z.2=true then z.1.hi else v x) (v x)⟩,true)
def bz (v:Int × Int→Int) (L:List (Int × Int)):Span × Bool:=L.foldl (je v) (⟨0,0⟩,false)
theorem xF {L:List (Int × Int)} {i:Nat} {x:List AV} (h:(L.map kE)[i]?=some x):∃ y,L[i]?=some y∧x=kE y:=by
 rw [List.getElem?_map,Option.map_eq_some_iff] at h
 obtain ⟨y,h1,h2⟩:=h
 exact ⟨y,h1,h2.symm⟩
theorem ur {α β:Type} {g:β→α→β} {b:β} {L:List α} {i:Nat} {y:α} (h:L[i]?=some y):(L.take (i+1)).foldl g b=g ((L.take i).foldl g b) y:=by
 rw [List.take_add_one,h,List.foldl_append]
 rfl
theorem qi (one:Bool) (g:FuncId) (fs cs:List AV) (hF:(AV.fn g fs cs).deep=true) (gf:FuncId) (ga gb:List AV) (v:Int × Int→Int) (L:List (Int × Int)) (hg:lD TT TB one (.fn gf ga gb) (L.map kE)) (hp:∀ x ∈ L,af TT TB one (.fn g fs cs) (kE x) (ah (v x))) :
  Pu one 68 [.fn gf ga gb,.fn g fs cs] (.tp [.ag (ck (bz v L).1),BB (bz v L).2]):=by
 refine af.body (fn:=Tryz.f68) rfl rfl rfl rfl ?_
 have hdF:bw [.fn g fs cs]=true:=by simp only [bw,Bool.and_true];exact hF
 refine RM.de (mu:=fun _=>false) ?_
 repeat' (first |refine ⟨rfl,rfl,hdF,?_⟩ |refine u1 ?_ |fail)
 refine az.seq ?_
 refine RM.de (mu:=fun _=>false) ?_
 repeat' (first |refine u1 ?_ |fail)
 refine az.block ?_
 refine az.range (fun i=>[.cells (ck (bz v (L.take i)).1) 0 0,.cells [BB (bz v (L.take i)).2] 0 0]) (fun _=>bN.none) (fun _=>True) rfl hg rfl rfl trivial (fun i x hx _=>?_) (fun _=>?_)
 ·obtain ⟨x,hxi,rfl⟩:=xF hx
  have hpx:=hp x (List.mem_of_getElem? hxi)
  have hst:bz v (L.take (i+1))=je v (bz v (L.take i)) x:=ur hxi
  rw [hst]
  generalize bz v (L.take i)=z at *
  obtain ⟨z1,z2⟩:=z
  refine ⟨rfl,?_⟩
  refine aa (mu:=fun _=>false) ?_
  repeat' (first |refine u1 ?_ |refine u2 ?_ |fail)
  cases z2 with
  | false =>
   refine aa (mu:=fun _=>false) ?_
   repeat' (first |refine u1 ?_ |refine u2 ?_ |refine af.call hpx hF rfl ?_ |fail)
   exact ⟨_,ai.to (l:=[]) 2 rfl trivial (Nat.le_refl _) rfl rfl⟩
  | true =>
   refine aa (mu:=fun _=>false) ?_
   repeat' (first |refine u1 ?_ |refine u2 ?_ |refine af.call hpx hF rfl ?_ |fail)
   exact ⟨_,ai.to (l:=[]) 2 rfl trivial (Nat.le_refl _) rfl rfl⟩
 ·refine aa (mu:=fun _=>false) ?_
  repeat' (first |refine u1 ?_ |refine u2 ?_ |fail)
  refine ⟨[_,_],⟨Fz.deep rfl,Fz.deep rfl,trivial⟩,?_⟩
  rw [List.length_map,List.take_length]
  rfl
theorem Fc (one:Bool) (g:FuncId) (fs cs:List AV) (hF:(AV.fn g fs cs).deep=true) (gf:FuncId) (ga gb:List AV) (v:Int × Int→Int) (L:List (Int × Int)) (hg:lD TT TB one (.fn gf ga gb) (L.map kE)) (hp:∀ x ∈ L,af TT TB one (.fn g fs cs) (kE x) (ah (v x))) :
  Pu one 73 [.fn gf ga gb,.fn g fs cs] (.tp [.ag (ck (bz v L).1),BB (bz v L).2]):=by
 refine af.body (fn:=Tryz.f73) rfl rfl rfl rfl ?_
 have hdF:bw [.fn g fs cs]=true:=by simp only [bw,Bool.and_true];exact hF
 refine RM.de (mu:=fun _=>false) ?_
 repeat' (first |refine ⟨rfl,rfl,hdF,?_⟩ |refine u1 ?_ |fail)
 refine az.seq ?_
 refine RM.de (mu:=fun _=>false) ?_
 repeat' (first |refine u1 ?_ |fail)
 refine az.block ?_
 refine az.range (fun i=>[.cells (ck (bz v (L.take i)).1) 0 0,.cells [BB (bz v (L.take i)).2] 0 0]) (fun _=>bN.none) (fun _=>True) rfl hg rfl rfl trivial (fun i x hx _=>?_) (fun _=>?_)
 ·obtain ⟨x,hxi,rfl⟩:=xF hx
  have hpx:=hp x (List.mem_of_getElem? hxi)
  have hst:bz v (L.take (i+1))=je v (bz v (L.take i)) x:=ur hxi
  rw [hst]
  generalize bz v (L.take i)=z at *
  obtain ⟨z1,z2⟩:=z
  refine ⟨rfl,?_⟩
  refine aa (mu:=fun _=>false) ?_
  repeat' (first |refine u1 ?_ |refine u2 ?_ |fail)
  cases z2 with
  | false =>
   refine aa (mu:=fun _=>false) ?_
   repeat' (first |refine u1 ?_ |refine u2 ?_ |refine af.call hpx hF rfl ?_ |fail)
   exact ⟨_,ai.to (l:=[]) 2 rfl trivial (Nat.le_refl _) rfl rfl⟩
  | true =>
   refine aa (mu:=fun _=>false) ?_
   repeat' (first |refine u1 ?_ |refine u2 ?_ |refine af.call hpx hF rfl ?_ |fail)
   exact ⟨_,ai.to (l:=[]) 2 rfl trivial (Nat.le_refl _) rfl rfl⟩
 ·refine aa (mu:=fun _=>false) ?_
  repeat' (first |refine u1 ?_ |refine u2 ?_ |fail)
  refine ⟨[_,_],⟨Fz.deep rfl,Fz.deep rfl,trivial⟩,?_⟩
  rw [List.length_map,List.take_length]
  rfl
end Go.Proofs.YtalcbebjpgfnfaaGreat
open Go Go.RM
namespace Go.Proofs.YtalcbebjpgfnfaaGreat.St
set_option maxRecDepth 100000
def kF (k:Kind) (t:aE):Bool:=kM t.first k.first.lo k.first.hi && (kM t.aR k.aR.lo k.aR.hi && kM t.ay k.ay.lo k.ay.hi)
theorem Kh (one:Bool) (k:Kind) (t:aE):Pu one 10 [.ag (bG k),.ag (aV t)] (BB (kF k t)):=by
 refine af.body (fn:=Tryz.f10) rfl rfl rfl rfl ?_
 refine aa (mu:=fun _=>false) ?_
 repeat' (first |with_reducible (first|refine bg ?_|refine aT ?_) |(refine ⟨_,rfl,?_⟩) |(refine bC (by assumption) ?_) |(refine bS rfl ?_) |(refine bS (by assumption) ?_) |(refine ⟨_,_,rfl,by decide,?_⟩) |(refine ⟨rfl,rfl,rfl,?_⟩) |(refine af.call (oY one _ _ _) rfl rfl ?_) |(refine ⟨fun h=>?_,fun h=>?_⟩) |fail)
 all_goals refine ⟨[_],⟨Fz.deep rfl,trivial⟩,Bt ?_⟩
 all_goals simp_all [kF]
theorem qN {k:Int} {l:List Int} {c:iC} {d:Nat} (hd:d < l.length) (hc:0≤c.day):(fL k l c).getD d 0=if c.day=(d:Int)∧c.kind=k then l.getD d 0+c.cz else l.getD d 0:=by
 unfold fL
 by_cases hk:c.kind=k
 ·rw [if_pos hk]
  by_cases he:c.day=(d:Int)
  ·rw [if_pos ⟨he,hk⟩,he,Int.toNat_natCast]
   rw [List.getD_eq_getElem?_getD,List.getElem?_set_self (by omega)]
   rfl
  ·rw [if_neg (fun h=>he h.1)]
   rw [List.getD_eq_getElem?_getD,List.getElem?_set_ne (by omega),←List.getD_eq_getElem?_getD]
 ·rw [if_neg hk,if_neg (fun h=>hk h.2)]
theorem Ki {a b c d a' b' c' d':AV} (h1:a=a') (h2:b=b') (h3:c=c') (h4:d=d'):AV.tp [a,b,c,d]=AV.tp [a',b',c',d']:=by rw [h1,h2,h3,h4]
def Fe (k:Kind) (row:List Int) (i:Nat) (hv:Int):Int:=max 0 (min (row.getD i 0) (hv+row.getD i 0 - k.room))
def Iv (au:List Int) (k:Kind) (row:List Int) (t:aE) (down:Int) (i:Nat) (hv:Int):Int :=
 if iT au k row t down i hv < 0 then max hv (min (hv+row.getD i 0) k.room) else s9 k t down i (au.getD i 0)+t.ay
theorem MW (one:Bool) (s:aB) (hg:Good s) (i:Nat) (hi:i < s.kinds.length) (t:aE) (down:Int) (h:eK s.au s.kinds[i] (ak i s.aj) t) (d:Nat) (hd:d < s.au.length) (hv:Int) (hh:0≤hv∧hv≤300) :
  Pu one 53 [.ag (aO s),ah i,.ag (aV t),ah d,ah hv,BB (decide (down≤(d:Int)))] (.tp [ah (max 0 (iT s.au s.kinds[i] (ak i s.aj) t down d hv)),ah (Fe s.kinds[i] (ak i s.aj) d hv),ah (Iv s.au s.kinds[i] (ak i s.aj) t down d hv),BB (decide (iT s.au s.kinds[i] (ak i s.aj) t down d hv < 0))]):=by
 have ec:((s.aj.map bM).length:Int)=s.aj.length:=by simp
 have h8:=fo hg.sizes
 refine af.body (fn:=Tryz.f53) rfl rfl rfl rfl ?_
 refine aa (mu:=fun _=>false) ?_
 repeat' (first |with_reducible (first|refine bg ?_|refine aT ?_) |refine u2 ?_ |fail)
 refine az.aK (ai.to (l:=[(1,ah i),(3,ah d),(4,ah hv),(5,BB (decide (down≤(d:Int)))),(6,.pt (aO s) 0),(8,.pt (aV t) 0),(16,ah ((ak i (s.aj.take 0)).getD d 0)),(17,ah ((0:Nat):Int))]) 0 rfl ⟨rfl,rfl,rfl,rfl,rfl,rfl,aH (by have:=(gA.zero (k:=(i:Int))).get (d:=d) (by omega);show 0=(ak i []).getD d 0;omega),rfl,trivial⟩ (Nat.zero_le _) rfl rfl) ?_
 refine az.loop (fun j:Nat=>j≤s.aj.length) (fun j=>⟨aX [(1,ah i),(3,ah d),(4,ah hv),(5,BB (decide (down≤(d:Int)))),(6,.pt (aO s) 0),(8,.pt (aV t) 0),(16,ah ((ak i (s.aj.take j)).getD d 0)),(17,ah (j:Int))],[],bN.none,false,0⟩) (fun j=>s.aj.length - j) ?_ 0 (Nat.zero_le _)
 intro j hj
 have hrow:gA (s.aj.take j).length (ak i (s.aj.take j)):=jP fun c hx=>by have:=hg.aj c (List.mem_of_mem_take hx);omega
 have hrl:(s.aj.take j).length=j:=by simp;omega
 rw [hrl] at hrow
 have hget:=hrow.get (d:=d) (by omega)
 refine aa (mu:=fun _=>false) ?_
 repeat' (first |with_reducible (first|refine bg ?_|refine aT ?_) |refine u2 ?_ |fail)
 refine ⟨fun h2=>?_,fun h2=>?_⟩
 ·have hlt:j < s.aj.length:=by simpa only [ec,decide_eq_true_eq,Int.ofNat_lt] using h2
  have hcj:=hg.aj s.aj[j] (List.getElem_mem hlt)
  have hrow':(ak i (s.aj.take (j+1))).getD d 0=if s.aj[j].day=(d:Int)∧s.aj[j].kind=(i:Int) then (ak i (s.aj.take j)).getD d 0+s.aj[j].cz else (ak i (s.aj.take j)).getD d 0:=by
   rw [List.take_add_one,List.getElem?_eq_getElem hlt]
   exact (congrArg (fun l=>l.getD d 0) (jE _ _ _)).trans (qN (by rw [hrow.len];omega) hcj.1.1)
  generalize (ak i (s.aj.take j)).getD d 0=sum at hget hrow'
  repeat' (first |with_reducible (first|refine bO ?_|refine bg ?_|refine fK ?_|refine aT ?_|refine aU ?_) |(refine ⟨_,rfl,?_⟩) |(refine bC (by assumption) ?_) |(refine bS rfl ?_) |(refine bS (by assumption) ?_) |(refine ⟨_,_,rfl,by decide,?_⟩) |(refine And.intro (by omega) ?_) |(refine ⟨bM s.aj[j],⟨by omega,cq hlt⟩,rfl,?_⟩) |(refine ⟨fun h=>?_,fun h=>?_⟩) |fail)
  all_goals refine ⟨j+1,hlt,(by dsimp only;omega),ai.to 0 rfl ⟨rfl,rfl,rfl,rfl,rfl,rfl,aH ?_,aH (by simp),trivial⟩ (Nat.zero_le _) rfl rfl⟩
  all_goals rw [hrow']
  all_goals simp_all
 ·have hj:s.aj.take j=s.aj:=List.take_of_length_le (by rw [ec,decide_eq_false_iff_not] at h2;omega)
  rw [hj] at hget ⊢
  have b1:=h.n hd
  have b2:=fV b1 h.aR
  have b3:=fV b2 h.cJ
  have b6:=h.room
  have b7:=h.ay
  have hgd:s.au[d]=s.au.getD d 0:=by rw [List.getD_eq_getElem?_getD,List.getElem?_eq_getElem hd];rfl
  have hget8:(ak i s.aj).getD d 0≤2700:=by omega
  unfold Iv Fe iT s9
  rw [←hgd] at b1 b2 b3 ⊢
  generalize (ak i s.aj).getD d 0=c at hget hget8 ⊢
  have hq:IntKind.i64.wrap ((s.au[d] * t.aR * s.kinds[i].cJ+1000 - 1).tdiv 1000)=(s.au[d] * t.aR * s.kinds[i].cJ+1000 - 1) / 1000:=IntWalk.i64_quo _ 1000 (by omega)
  repeat' (first |with_reducible (first|refine bg ?_|refine aT ?_|refine aU ?_) |refine u2 ?_ |refine ⟨bG s.kinds[i],⟨by omega,cq hi⟩,rfl,?_⟩ |refine ⟨eI s.au[d],⟨by omega,cq hd⟩,rfl,?_⟩ |fail)
  refine ⟨fun h3=>?_,fun h3=>?_⟩
  ·rw [if_pos (show down≤(d:Int) by simpa using h3)]
   repeat' (first |with_reducible refine aT ?_ |refine u2 ?_ |refine ⟨bG s.kinds[i],⟨by omega,cq hi⟩,rfl,?_⟩ |fail)
   rw [hq]
   have hu:0≤(s.au[d] * t.aR * s.kinds[i].cJ+1000 - 1) / 1000∧(s.au[d] * t.aR * s.kinds[i].cJ+1000 - 1) / 1000≤72:=by omega
   generalize (s.au[d] * t.aR * s.kinds[i].cJ+1000 - 1) / 1000=u at hu ⊢
   repeat' (first |with_reducible (first|refine bO ?_|refine bg ?_|refine aT ?_|refine aU ?_) |refine u2 ?_ |refine ⟨fun h=>?_,fun h=>?_⟩ |fail)
   all_goals refine ⟨[_,_,_,_],⟨Fz.deep rfl,Fz.deep rfl,Fz.deep rfl,Fz.deep rfl,trivial⟩,?_⟩
   ·rw [decide_eq_true_eq] at h
    refine Ki (aH ?_) (aH ?_) (aH ?_) (Bt ?_)
    ·omega
    ·rfl
    ·rw [if_pos (by omega)];omega
    ·rw [decide_eq_true (by omega)]
   ·rw [decide_eq_false_iff_not] at h
    refine Ki (aH ?_) (aH ?_) (aH ?_) (Bt ?_)
    ·omega
    ·rfl
    ·rw [if_neg (by omega)]
    ·rw [decide_eq_false (by omega)]
  ·rw [if_neg (show ¬ down≤(d:Int) by simpa using h3)]
   clear hq
   have hu:0≤s.au[d] * t.aR∧s.au[d] * t.aR≤72:=by omega
   generalize s.au[d] * t.aR=u at hu ⊢
   repeat' (first |with_reducible (first|refine bO ?_|refine bg ?_|refine aT ?_|refine aU ?_) |refine u2 ?_ |refine ⟨fun h=>?_,fun h=>?_⟩ |fail)
   all_goals refine ⟨[_,_,_,_],⟨Fz.deep rfl,Fz.deep rfl,Fz.deep rfl,Fz.deep rfl,trivial⟩,?_⟩
   ·rw [decide_eq_true_eq] at h
    refine Ki (aH ?_) (aH ?_) (aH ?_) (Bt ?_)
    ·omega
    ·rfl
    ·rw [if_pos (by omega)];omega
    ·rw [decide_eq_true (by omega)]
   ·rw [decide_eq_false_iff_not] at h
    refine Ki (aH ?_) (aH ?_) (aH ?_) (Bt ?_)
    ·omega
    ·rfl
    ·rw [if_neg (by omega)]
    ·rw [decide_eq_false (by omega)]
end Go.Proofs.YtalcbebjpgfnfaaGreat.St
