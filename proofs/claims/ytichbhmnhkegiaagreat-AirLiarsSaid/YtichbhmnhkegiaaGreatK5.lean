/-
  Contracts of the program's functions and of the document's. Lemmas alone; their conditions stand in them.
-/
import Derived.Test.YtichbhmnhkegiaaGreatA3
import Derived.Test.YtichbhmnhkegiaaGreatK4
open Go Go.RM Go.AirLaw
namespace Go.Proofs.YtichbhmnhkegiaaGreat
set_option maxRecDepth 100000
set_option maxHeartbeats 4000000
theorem yR {st:cm} {l:List (Nat × AV)} {hp:List AB} {am:aV} (n:Nat) (hh:st.hp.take n=hp) (hs:yF st.fr l) (hn:st.fl≤n) (hl:(l.all fun p=>p.2.cJ n)=true) (hb:hp.all (AB.cJ n)=true) (ha:st.aI=am):ah st ⟨aF l,hp,am,st.rd,st.fl⟩:=by
 subst ha
 exact ah.to n hh hs hn hl hb
abbrev jP (x:Int × Int):List AV:=[.ag [ai x.1,ai x.2]]
def jz (mk:Int→Int→Int × Int) (xs bs:List Int):List (Int × Int):=xs.flatMap fun a=>bs.map (mk a)
theorem gi (mk:Int→Int→Int × Int) (xs bs:List Int):(jz mk xs bs).length=xs.length * bs.length:=by
 unfold jz
 rw [List.length_flatMap]
 induction xs with
 | nil=>simp
 | cons a l ih=>simp only [List.map_cons,List.sum_cons,List.length_map,List.length_cons] at ih ⊢;rw [ih,Nat.add_mul];omega
theorem sJ {mk:Int→Int→Int × Int} {bs:List Int} {b:Int} {j:Nat} (hb:bs[j]?=some b):∀ {xs:List Int} {i:Nat} {a:Int},xs[i]?=some a→(jz mk xs bs)[i * bs.length+j]?=some (mk a b):=by
 have hj:j < bs.length:=by
  by_cases h:j < bs.length
  ·exact h
  ·rw [List.getElem?_eq_none (by omega)] at hb;cases hb
 intro xs
 induction xs with
 | nil=>intro i a h;simp at h
 | cons x l ih =>
  intro i a h
  have e:jz mk (x :: l) bs=bs.map (mk x)++jz mk l bs:=by simp [jz]
  rw [e]
  cases i with
  | zero =>
   simp only [List.getElem?_cons_zero,Option.some.injEq] at h
   subst h
   rw [Nat.zero_mul,Nat.zero_add,List.getElem?_append_left (by simpa using hj),List.getElem?_map,hb]
   rfl
  | succ i =>
   simp only [List.getElem?_cons_succ] at h
   rw [List.getElem?_append_right (by simp;rw [Nat.add_mul];omega),List.length_map]
   rw [show (i+1) * bs.length+j - bs.length=i * bs.length+j by rw [Nat.add_mul];omega]
   exact ih h
def K6 (c r:Int):Int × Int:=(c,r)
def K7 (l w:Int):Int × Int:=(l,w % 32)
theorem LX (one:Bool) (c r:Int):af TT TB one (.fn 122 [] []) [ai c,ai r] (.ag [ai (K6 c r).1,ai (K6 c r).2]):=by
 refine af.body (fn:=Tryz.f122) rfl rfl rfl rfl ?_
 refine aa (mu:=fun _=>false) ?_
 repeat' (first |refine u1 ?_ |refine u2 ?_ |fail)
 exact ⟨[_],⟨Fz.deep rfl,trivial⟩,rfl⟩
theorem LY (one:Bool) (l w:Int) (hw:0≤w∧w≤1000):af TT TB one (.fn 125 [] []) [ai l,ai w] (.ag [ai (K7 l w).1,ai (K7 l w).2]):=by
 refine af.body (fn:=Tryz.f125) rfl rfl rfl rfl ?_
 refine aa (mu:=fun _=>false) ?_
 repeat' (first |refine u1 ?_ |refine u2 ?_ |fail)
 exact ⟨[_],⟨Fz.deep rfl,trivial⟩,rfl⟩
theorem HP (one:Bool) (a b:Span):Pu one 121 [.fn 131 [] [.pt (aG a) 0],.fn 131 [] [.pt (aG b) 0],.fn 122 [] []] (.fn 143 [] [.pt [.fn 131 [] [.pt (aG a) 0]] 0,.pt [.fn 131 [] [.pt (aG b) 0]] 0,.pt [.fn 122 [] []] 0]):=by
 refine af.body (fn:=Tryz.f121) rfl rfl rfl rfl ?_
 refine aa (mu:=fun _=>false) ?_
 repeat' (first |refine u1 ?_ |refine u2 ?_ |fail)
 exact ⟨[_],⟨Fz.deep rfl,trivial⟩,rfl⟩
theorem Cv (one:Bool) (a b:Span) (ha:-1000000≤a.lo∧a.lo≤a.hi∧a.hi≤1000000) (hb:-1000000≤b.lo∧b.lo≤b.hi∧b.hi≤1000000)  :
  lX TT TB one (.fn 143 [] [.pt [.fn 131 [] [.pt (aG a) 0]] 0,.pt [.fn 131 [] [.pt (aG b) 0]] 0,.pt [.fn 122 [] []] 0]) ((jz K6 (dB a) (dB b)).map jP):=by
 have ga:=mO one a ha
 have gb:=mO one b hb
 refine lX.body (fn:=Tryz.f143) rfl rfl rfl rfl (fun x hx y hy=>?_) fun u J Stop hy=>?_
 ·obtain ⟨z,_,rfl⟩:=List.mem_map.1 hx
  simp only [List.mem_cons,List.not_mem_nil,or_false] at hy
  subst hy
  exact dY.ag fun b hb=>by simp only [List.mem_cons,List.not_mem_nil,or_false] at hb;rcases hb with rfl|rfl <;> exact dY.fl _
 rw [List.length_map,gi,bp,bp]
 have hy':∀ {i j:Nat} {x y:Int},(dB a)[i]?=some x→(dB b)[j]?=some y→∀ hp,aP TT TB one (.oq u) (jP (K6 x y)) hp (J (i * bh b+j)) fun v hp' a'=>hp'=hp∧∃ b',v=.fl (.bool b')∧DO (J (i * bh b+j+1)) Stop b' a':=by
  intro i j x y hx hyy
  have:=hy (i * bh b+j) (jP (K6 x y)) (by rw [List.getElem?_map,←bp b,sJ hyy hx];rfl)
  exact this
 refine RM.fm (mu:=fun _=>false) ?_
 repeat' (first |refine u1 ?_ |refine u2 ?_ |fail)
 refine RM.fm (mu:=fun _=>false) ?_
 repeat' (first |refine u1 ?_ |refine u2 ?_ |fail)
 refine ax.block ?_
 refine ax.range (fun _=>[]) (fun i=>J (i * bh b)) (fun _=>True) rfl ga rfl (congrArg J (Nat.zero_mul _)) trivial (fun i x hx _=>?_) (fun _=>?_)
 ·obtain ⟨x,hxi,rfl⟩:∃ y,(dB a)[i]?=some y∧x=eI y:=by
   rw [List.getElem?_map,Option.map_eq_some_iff] at hx
   obtain ⟨y,h1,h2⟩:=hx
   exact ⟨y,h1,h2.symm⟩
  refine ⟨rfl,?_⟩
  refine aa (mu:=fun _=>false) ?_
  repeat' (first |refine u1 ?_ |refine u2 ?_ |fail)
  refine ax.block ?_
  refine RM.fm (mu:=fun _=>false) ?_
  repeat' (first |refine u1 ?_ |refine u2 ?_ |fail)
  refine ax.block ?_
  refine ax.range (fun _=>[.cells [ai x] 0 0]) (fun j=>J (i * bh b+j)) (fun _=>True) rfl gb rfl rfl trivial (fun j y hyj _=>?_) (fun _=>?_)
  ·obtain ⟨y,hyk,rfl⟩:∃ z,(dB b)[j]?=some z∧y=eI z:=by
    rw [List.getElem?_map,Option.map_eq_some_iff] at hyj
    obtain ⟨z,h1,h2⟩:=hyj
    exact ⟨z,h1,h2.symm⟩
   refine ⟨rfl,?_⟩
   have hyx:=hy' hxi hyk
   have hmk:=LX true x y
   refine aa (mu:=fun _=>false) ?_
   repeat' (first |refine u1 ?_ |refine u2 ?_ |fail)
   refine ax.block ?_
   refine RM.fm (mu:=fun _=>false) ?_
   repeat' (first |refine ⟨_,_,.inl ⟨rfl,rfl⟩,hmk,?_⟩ |refine u1 ?_ |refine u2 ?_ |fail)
   refine aP.mono (hyx _) (fun a hp' amb' hq=>?_)
   obtain ⟨rfl,b,rfl,hb⟩:=hq
   rcases hb with ⟨rfl,rfl⟩|⟨rfl,hstop⟩
   ·repeat' (first |refine u1 ?_ |fail)
    refine aa (mu:=fun _=>false) ?_
    repeat' (first |refine u1 ?_ |refine u2 ?_ |fail)
    exact (ah.refl _).2
   ·repeat' (first |refine u1 ?_ |fail)
    refine aa (mu:=fun _=>false) ?_
    repeat' (first |refine u1 ?_ |fail)
    exact Or.inr hstop
  ·exact ⟨trivial,_,yR (l:=[]) 0 rfl trivial (Nat.zero_le _) rfl rfl (congrArg J (by rw [List.length_map,bp,Nat.add_mul,Nat.one_mul]))⟩
 ·exact Or.inl (by rw [List.length_map,bp])
end Go.Proofs.YtichbhmnhkegiaaGreat
open Go Go.RM Go.AirLaw
namespace Go.Proofs.YtichbhmnhkegiaaGreat
set_option maxRecDepth 100000
set_option maxHeartbeats 4000000
theorem pR {T:bR} {tab:List XE} {one:Bool} {f:FuncId} {a l:List AV} {v:AV} (h:af T tab one (.fn f [] []) (a++l) v):af T tab one (.fn f a []) l v:=by
 refine ⟨h.1,fun X H u us hw hx hu hus=>?_⟩
 cases hu with
 | fn l1 l2 d1 d2 =>
  rename_i a' b'
  have hb:b'=#[]:=by
   have:=l2
   simp at this
   first|exact this|exact this.symm|(apply Array.eq_empty_of_size_eq_zero;simpa using this.symm)
  subst hb
  obtain ⟨goal,hg,m,L,h1,h2,h3⟩:=h.2 X H (.func (.func f) #[] #[]) (a'.toList++us) hw hx (.fn rfl rfl (fun i x u hx=>by simp at hx) (fun i x u hx=>by simp at hx)) (qW.append ⟨l1,d1⟩ hus)
  refine ⟨goal,?_,m,L,h1,h2,h3⟩
  rw [←hg]
  simp [dw]
def gr (s:au) (i:Int):eT:=s.ak.getD i.toNat ⟨⟨#[]⟩,⟨0,0⟩,0⟩
structure jW (s:au) (n:aA) (rs:List av):Prop where
 gU:s.JK
 bK:0≤n.bK∧n.bK < s.ak.length
 x:-30000≤n.pos.x∧n.pos.x≤30000
 y:-30000≤n.pos.y∧n.pos.y≤30000
 dc:0≤n.dc∧n.dc≤31
 bX:1≤n.bX∧n.bX≤32
 JL:rs.length≤8
 rx:∀ r ∈ rs,-30000≤r.pos.x∧r.pos.x≤30000
 ry:∀ r ∈ rs,-30000≤r.pos.y∧r.pos.y≤30000
theorem jW.at {s:au} {n:aA} {rs:List av} (h:jW s n rs):(s.ak.map aL)[n.bK.toNat]?=some (aL (gr s n.bK)):=by
 have h1:=h.bK
 have h2:n.bK.toNat < s.ak.length:=by omega
 unfold gr
 rw [List.getElem?_map,List.getD,List.getElem?_eq_getElem h2]
 rfl
theorem jW.mem {s:au} {n:aA} {rs:List av} (h:jW s n rs):gr s n.bK ∈ s.ak:=by
 have h1:=h.bK
 have h2:n.bK.toNat < s.ak.length:=by omega
 unfold gr
 rw [List.getD,List.getElem?_eq_getElem h2]
 exact List.getElem_mem h2
theorem cc {s:au} {n:aA} {rs:List av} (h:(aD s n rs).2=0):jW s n rs:=by
 unfold aD at h
 by_cases e0:(jV s).2.2=0
 ·rw [if_neg (by omega)] at h
  by_cases e1:aX 0 ((s.ak.length:Int) - 1) [n.bK]=true
  ·rw [if_pos e1] at h;exact absurd h (by decide)
  rw [if_neg e1] at h
  by_cases e2:(aX (-30000) 30000 [n.pos.x,n.pos.y] || aX 0 31 [n.dc] || aX 1 32 [n.bX])=true
  ·rw [if_pos e2] at h;exact absurd h (by decide)
  rw [if_neg e2] at h
  by_cases e3:8 < rs.length
  ·rw [if_pos e3] at h;exact absurd h (by decide)
  rw [if_neg e3] at h
  by_cases e4:0≤lY mL rs
  ·rw [if_pos e4] at h;exact absurd (show (7:Int)=0 from h) (by decide)
  rw [Bool.not_eq_true] at e1 e2
  rw [Bool.or_eq_false_iff,Bool.or_eq_false_iff] at e2
  have b1:=(aZ.1 e1) _ (List.mem_singleton_self _)
  have b2:=(aZ.1 e2.1.1) n.pos.x (by simp)
  have b3:=(aZ.1 e2.1.1) n.pos.y (by simp)
  have b4:=(aZ.1 e2.1.2) _ (List.mem_singleton_self _)
  have b5:=(aZ.1 e2.2) _ (List.mem_singleton_self _)
  have ha:rs.any mL=false:=by rw [←sD,decide_eq_false_iff_not];exact e4
  rw [List.any_eq_false] at ha
  have hr:∀ r ∈ rs,aX (-30000) 30000 [r.pos.x,r.pos.y]=false:=fun r hr=>by simpa [mL] using ha r hr
  exact ⟨sI e0,by omega,b2,b3,b4,b5,by omega,fun r hm=>(aZ.1 (hr r hm)) _ (by simp),fun r hm=>(aZ.1 (hr r hm)) _ (by simp)⟩
 ·rw [if_pos (by omega)] at h
  exact absurd h e0
abbrev DZ (s:Span):AV:=.fn 131 [] [.pt (aG s) 0]
abbrev gL (a b:Span):AV:=.fn 143 [] [.pt [DZ a] 0,.pt [DZ b] 0,.pt [.fn 122 [] []] 0]
theorem mP (one:Bool) {s:au} {n:aA} {rs:List av} (f:Bool) (h:jW s n rs):Pu one 81 [.ag (bS s n rs f)] (gL (gr s n.bK).cand s.clear):=by
 have hat:=h.at
 have h1:=h.bK
 have n1:=mN true (gr s n.bK).cand
 have n2:=mN true s.clear
 have n3:=HP true (gr s n.bK).cand s.clear
 generalize gr s n.bK=g at *
 refine af.body (fn:=Tryz.f81) rfl rfl rfl rfl ?_
 refine aa (mu:=fun _=>false) ?_
 repeat' (first |refine ⟨_,_,.inl ⟨rfl,rfl⟩,n1,?_⟩ |refine ⟨_,_,.inl ⟨rfl,rfl⟩,n2,?_⟩ |refine ⟨_,_,.inl ⟨rfl,rfl⟩,n3,?_⟩ |refine u1 ?_ |refine u2 ?_ |refine ⟨aL g,⟨by omega,hat⟩,rfl,?_⟩ |fail)
 exact ⟨[_],⟨Fz.deep rfl,trivial⟩,rfl⟩
theorem EZ {α:Type} {p:α→Bool} {L:List α} {i:Nat} {x:α} (h:L[i]?=some x) :
  (p x=true→(L.filter p)[((L.take i).filter p).length]?=some x∧((L.take (i+1)).filter p).length=((L.take i).filter p).length+1)∧(p x=false→((L.take (i+1)).filter p).length=((L.take i).filter p).length):=by
 have e1:L.take (i+1)=L.take i++[x]:=by rw [List.take_add_one,h];rfl
 have hi:i < L.length:=by
  by_cases hl:i < L.length
  ·exact hl
  ·rw [List.getElem?_eq_none (by omega)] at h;cases h
 have e2:L=L.take i++x :: L.drop (i+1):=by
  have e:=List.drop_eq_getElem_cons hi
  rw [List.getElem?_eq_getElem hi,Option.some.injEq] at h
  rw [h] at e
  rw [←e,List.take_append_drop]
 refine ⟨fun hp=>⟨?_,?_⟩,fun hp=>?_⟩
 ·have:L.filter p=(L.take i).filter p++x :: (L.drop (i+1)).filter p:=by
   conv=>lhs;rw [e2]
   rw [List.filter_append,List.filter_cons_of_pos hp]
  rw [this]
  simp
 ·rw [e1,List.filter_append]
  simp [hp]
 ·rw [e1,List.filter_append]
  simp [hp]
def fits (seen:Int→Int→Int→Int→Bool) (n:aA) (aB:Bool) (rs:List av) (x:Int × Int):Bool :=
 rs.all fun r=>!(r.aB == aB) || (seen (r.pos.x - n.pos.x) (r.pos.y - n.pos.y) x.1 x.2 == r.yes)
theorem Gd (one:Bool) (s:au) (n:aA) (rs:List av) (f:Bool) (a b:Span):Pu one 80 [.ag (bS s n rs f),gL a b,BB false] (.fn 120 [] [.pt [gL a b] 0,.pt (bS s n rs f) 0,.pt [BB false] 0]):=by
 refine af.body (fn:=Tryz.f80) rfl rfl rfl rfl ?_
 refine aa (mu:=fun _=>false) ?_
 repeat' (first |refine u1 ?_ |refine u2 ?_ |fail)
 exact ⟨[_],⟨Fz.deep rfl,trivial⟩,rfl⟩
theorem Ge (one:Bool) {s:au} {n:aA} {rs:List av} (f:Bool) (h:jW s n rs) (a b:Span) (L:List (Int × Int)) (hg:lX TT TB one (gL a b) (L.map jP)) (hb:∀ x ∈ L,(0≤x.1∧x.1≤5000)∧0≤x.2∧x.2≤300) :
  lX TT TB one (.fn 120 [] [.pt [gL a b] 0,.pt (bS s n rs f) 0,.pt [BB false] 0]) ((L.filter (fits bz n false rs)).map jP):=by
 have h1:=h.x
 have h2:=h.y
 have h3:=h.JL
 obtain ⟨m,hm⟩:∃ m:Int,m=rs.length:=⟨_,rfl⟩
 have er:((rs.map aj).length:Int)=m:=by rw [hm];simp
 refine lX.body (fn:=Tryz.f120) rfl rfl rfl rfl (fun x hx y hy=>?_) fun u J Stop hy=>?_
 ·obtain ⟨z,_,rfl⟩:=List.mem_map.1 hx
  simp only [List.mem_cons,List.not_mem_nil,or_false] at hy
  subst hy
  exact dY.ag fun b hb=>by simp only [List.mem_cons,List.not_mem_nil,or_false] at hb;rcases hb with rfl|rfl <;> exact dY.fl _
 rw [List.length_map]
 refine RM.fm (mu:=fun _=>false) ?_
 repeat' (first |refine u1 ?_ |refine u2 ?_ |fail)
 refine ax.scope ?_
 refine RM.fm (mu:=fun _=>false) ?_
 skip
 refine RM.fm (mu:=fun _=>false) ?_
 repeat' (first |refine u1 ?_ |fail)
 refine ax.block ?_
 refine ax.range (fun _=>[]) (fun i=>J ((L.take i).filter (fits bz n false rs)).length) (fun _=>True) rfl hg rfl rfl trivial (fun i x hx _=>?_) (fun _=>?_)
 ·obtain ⟨x,hxi,rfl⟩:∃ y,L[i]?=some y∧x=jP y:=by
   rw [List.getElem?_map,Option.map_eq_some_iff] at hx
   obtain ⟨y,h1,h2⟩:=hx
   exact ⟨y,h1,h2.symm⟩
  have hxb:=hb x (List.mem_of_getElem? hxi)
  have hfil:=EZ (p:=fits bz n false rs) hxi
  refine ⟨rfl,?_⟩
  refine aa (mu:=fun _=>false) ?_
  repeat' (first |refine u1 ?_ |refine u2 ?_ |fail)
  refine ax.block ?_
  refine RM.fm (mu:=fun _=>false) ?_
  repeat' (first |refine u1 ?_ |refine u2 ?_ |fail)
  refine ax.aK (ah.to (l:=[(0,.oq u),(1,.pt [gL a b] 0),(2,.pt (bS s n rs f) 0),(3,.pt [BB false] 0),(4,.pt [.oq u] 0),(5,.ptr 0 0 0),(11,.sl (rs.map aj) f),(12,ai m),(13,ai (0:Nat))]) (hp:=[.cells [ai x.1,ai x.2] 0 0]) 1 rfl ⟨rfl,rfl,rfl,rfl,rfl,rfl,rfl,aR er,rfl,trivial⟩ (Nat.zero_le _) rfl rfl) ?_
  refine ax.loop (fun k:Nat=>k≤rs.length∧∀ i (h:i < rs.length),i < k→(!(rs[i].aB == false) || (bz (rs[i].pos.x - n.pos.x) (rs[i].pos.y - n.pos.y) x.1 x.2 == rs[i].yes))=true) (fun k=>⟨aF [(0,.oq u),(1,.pt [gL a b] 0),(2,.pt (bS s n rs f) 0),(3,.pt [BB false] 0),(4,.pt [.oq u] 0),(5,.ptr 0 0 0),(11,.sl (rs.map aj) f),(12,ai m),(13,ai (k:Nat))],[.cells [ai x.1,ai x.2] 0 0],J ((L.take i).filter (fits bz n false rs)).length,true,0⟩) (fun k=>rs.length - k) ?_ 0 ⟨Nat.zero_le _,fun i _ hi=>absurd hi (Nat.not_lt_zero _)⟩
  rintro k ⟨hk,hprev⟩
  refine aa (mu:=fun _=>false) ?_
  by_cases hlt:k < rs.length
  ·have d1:decide ((k:Int) < m)=true:=decide_eq_true (by omega)
   have hat:(rs.map aj)[((k:Nat):Int).toNat]?=some (aj rs[k]):=bO hlt
   have hx1:=h.rx rs[k] (List.getElem_mem hlt)
   have hy1:=h.ry rs[k] (List.getElem_mem hlt)
   have hone:(!(rs[k].aB == false) || (bz (rs[k].pos.x - n.pos.x) (rs[k].pos.y - n.pos.y) x.1 x.2 == rs[k].yes))=true→(∀ i (h:i < rs.length),i < k+1→(!(rs[i].aB == false) || (bz (rs[i].pos.x - n.pos.x) (rs[i].pos.y - n.pos.y) x.1 x.2 == rs[i].yes))=true):=by
    intro q i hi hik
    by_cases e:i=k
    ·subst e;exact q
    ·exact hprev i hi (by omega)
   have hno:(!(rs[k].aB == false) || (bz (rs[k].pos.x - n.pos.x) (rs[k].pos.y - n.pos.y) x.1 x.2 == rs[k].yes))=false→fits bz n false rs x=false:=by
    intro q
    unfold fits
    rw [List.all_eq_false]
    exact ⟨rs[k],List.getElem_mem hlt,by rw [q];decide⟩
   generalize rs[k]=r at *
   obtain ⟨⟨px,py⟩,hn,ys⟩:=r
   dsimp only at hx1 hy1 hone hno
   cases hn with
   | true =>
    repeat' (first |refine u1 ?_ |refine u2 ?_ |refine ⟨[ai px,ai py,BB true,BB ys],⟨by omega,hat⟩,rfl,?_⟩ |refine ⟨fun h=>absurd h (by decide),fun _=>?_⟩ |fail)
    exact ⟨k+1,⟨hlt,hone rfl⟩,(by dsimp only;omega),ah.to 1 rfl ⟨rfl,rfl,rfl,rfl,rfl,rfl,rfl,rfl,aR (by simp),trivial⟩ (Nat.zero_le _) rfl rfl⟩
   | false =>
    have hnv:=mM true s n rs f ⟨px,py⟩ (by omega) (by dsimp only;omega)
    have hmt:=pR (a:=[.ag [ai x.1,ai x.2]]) (l:=[.ag [ai (px - n.pos.x),ai (py - n.pos.y)]]) (wQ true x.1 x.2 (px - n.pos.x) (py - n.pos.y) (by omega) (by omega) (by omega) (by omega))
    dsimp only at hnv
    generalize bz (px - n.pos.x) (py - n.pos.y) x.1 x.2=v at *
    cases v <;> cases ys
    ·repeat' (first |refine ⟨_,hnv,?_⟩ |refine RM.nm hmt rfl rfl rfl rfl ?_ |refine u1 ?_ |refine u2 ?_ |refine ⟨[ai px,ai py,BB false,BB false],⟨by omega,hat⟩,rfl,?_⟩ |refine ⟨fun h=>absurd h (by decide),fun _=>?_⟩ |refine ⟨fun _=>?_,fun h=>absurd h (by decide)⟩ |fail)
     exact ⟨k+1,⟨hlt,hone rfl⟩,(by dsimp only;omega),ah.to 1 rfl ⟨rfl,rfl,rfl,rfl,rfl,rfl,rfl,rfl,aR (by simp),trivial⟩ (Nat.zero_le _) rfl rfl⟩
    ·repeat' (first |refine ⟨_,hnv,?_⟩ |refine RM.nm hmt rfl rfl rfl rfl ?_ |refine u1 ?_ |refine u2 ?_ |refine ⟨[ai px,ai py,BB false,BB true],⟨by omega,hat⟩,rfl,?_⟩ |refine ⟨fun _=>?_,fun h=>absurd h (by decide)⟩ |fail)
     exact ⟨_,yR (l:=[]) 0 rfl trivial (Nat.zero_le _) rfl rfl (congrArg J (hfil.2 (hno rfl)).symm)⟩
    ·repeat' (first |refine ⟨_,hnv,?_⟩ |refine RM.nm hmt rfl rfl rfl rfl ?_ |refine u1 ?_ |refine u2 ?_ |refine ⟨[ai px,ai py,BB false,BB false],⟨by omega,hat⟩,rfl,?_⟩ |refine ⟨fun _=>?_,fun h=>absurd h (by decide)⟩ |fail)
     exact ⟨_,yR (l:=[]) 0 rfl trivial (Nat.zero_le _) rfl rfl (congrArg J (hfil.2 (hno rfl)).symm)⟩
    ·repeat' (first |refine ⟨_,hnv,?_⟩ |refine RM.nm hmt rfl rfl rfl rfl ?_ |refine u1 ?_ |refine u2 ?_ |refine ⟨[ai px,ai py,BB false,BB true],⟨by omega,hat⟩,rfl,?_⟩ |refine ⟨fun h=>absurd h (by decide),fun _=>?_⟩ |refine ⟨fun _=>?_,fun h=>absurd h (by decide)⟩ |fail)
     exact ⟨k+1,⟨hlt,hone rfl⟩,(by dsimp only;omega),ah.to 1 rfl ⟨rfl,rfl,rfl,rfl,rfl,rfl,rfl,rfl,aR (by simp),trivial⟩ (Nat.zero_le _) rfl rfl⟩
  ·have d1:decide ((k:Int) < m)=false:=decide_eq_false (by omega)
   have hkn:k=rs.length:=by omega
   have hyes:fits bz n false rs x=true:=by
    unfold fits
    rw [List.all_eq_true]
    intro r hr
    obtain ⟨i,hi,rfl⟩:=List.getElem_of_mem hr
    exact hprev i hi (by omega)
   have hyx:=hy _ (jP x) (by rw [List.getElem?_map,(hfil.1 hyes).1];rfl)
   rw [(hfil.1 hyes).2]
   repeat' (first |refine u1 ?_ |fail)
   refine RM.fm (mu:=fun _=>false) ?_
   repeat' (first |refine u1 ?_ |refine u2 ?_ |fail)
   refine aP.mono (hyx _) (fun a hp' amb' hq=>?_)
   obtain ⟨rfl,b,rfl,hb⟩:=hq
   rcases hb with ⟨rfl,rfl⟩|⟨rfl,hstop⟩
   ·repeat' (first |refine u1 ?_ |fail)
    refine aa (mu:=fun _=>false) ?_
    repeat' (first |refine u1 ?_ |refine u2 ?_ |fail)
    exact ⟨_,ah.to (l:=[]) 0 rfl trivial (Nat.zero_le _) rfl rfl⟩
   ·repeat' (first |refine u1 ?_ |fail)
    refine aa (mu:=fun _=>false) ?_
    repeat' (first |refine u1 ?_ |fail)
    exact Or.inr hstop
 ·exact Or.inl (by rw [List.length_map,List.take_length])
end Go.Proofs.YtichbhmnhkegiaaGreat
