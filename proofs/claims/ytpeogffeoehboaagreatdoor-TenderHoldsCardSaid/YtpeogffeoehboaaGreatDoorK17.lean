/-
  Contracts of the program's functions and of the document's. Lemmas alone; their conditions stand in them.
-/
import Derived.Test.YtpeogffeoehboaaGreatDoorK8
import Derived.Test.YtpeogffeoehboaaGreatDoorK16
open Go Go.RM
namespace Go.Proofs.YtpeogffeoehboaaGreatDoor
set_option maxRecDepth 100000
set_option maxHeartbeats 4000000
abbrev Ix:=Option (Nat × Int × Int)
def wI:Ix→Int
 | none=>-1
 | some x=>(x.1:Nat)
def dI:Ix→Int
 | none=>0
 | some x=>x.2.1
def nI:Ix→Int
 | none=>0
 | some x=>x.2.2
def xm (s:au) (p:List Order) (L:List (List Int)) (i:Nat):Ix→Prop
 | none=>nO s p (L.take i)=none
 | some x=>x.1 < i∧∃ h:x.1 < L.length,nO s p (L.take i)=some (L[x.1],x.2.1,x.2.2)
theorem mG {s:au} {p:List Order} {L:List (List Int)} {i:Nat} (h:i < L.length):nO s p (L.take (i+1))=kM s p (nO s p (L.take i)) L[i]:=by
 unfold nO
 rw [List.take_add_one,List.getElem?_eq_getElem h,List.foldl_append]
 rfl
theorem P6 {s:au} {p:List Order} {L:List (List Int)} {i:Nat} (h:i < L.length) {o:Ix} (ho:xm s p L i o) (hb:gj s p (aO L[i])=none):xm s p L (i+1) o:=by
 have e:nO s p (L.take (i+1))=nO s p (L.take i):=by
  rw [mG h]
  unfold kM
  rw [hb]
 cases o with
 | none=>unfold xm at *;rw [e];exact ho
 | some x =>
  obtain ⟨h1,h2,h3⟩:=ho
  exact ⟨Nat.lt_succ_of_lt h1,h2,by rw [e];exact h3⟩
theorem JP {s:au} {p:List Order} {L:List (List Int)} {i:Nat} (h:i < L.length) (ho:xm s p L i none) {d:Nat} {n:Int} (hb:gj s p (aO L[i])=some (d,n)):xm s p L (i+1) (some (i,(d:Nat),n)):=by
 refine ⟨Nat.lt_succ_self _,h,?_⟩
 have ho:nO s p (L.take i)=none:=ho
 rw [mG h,ho]
 unfold kM
 rw [hb]
 rfl
theorem Oi {s:au} {p:List Order} {L:List (List Int)} {i:Nat} (h:i < L.length) {x:Nat × Int × Int} (ho:xm s p L i (some x)) {d:Nat} {n:Int} (hb:gj s p (aO L[i])=some (d,n)) (hl:(d:Int) < x.2.1∨((d:Int)=x.2.1∧n < x.2.2)):xm s p L (i+1) (some (i,(d:Nat),n)):=by
 obtain ⟨h1,h2,h3⟩:=ho
 refine ⟨Nat.lt_succ_self _,h,?_⟩
 rw [mG h,h3]
 unfold kM
 rw [hb]
 show wg _ (some _)=_
 unfold wg
 exact if_pos hl
theorem Oj {s:au} {p:List Order} {L:List (List Int)} {i:Nat} (h:i < L.length) {x:Nat × Int × Int} (ho:xm s p L i (some x)) {d:Nat} {n:Int} (hb:gj s p (aO L[i])=some (d,n)) (hl:¬ ((d:Int) < x.2.1∨((d:Int)=x.2.1∧n < x.2.2))):xm s p L (i+1) (some x):=by
 obtain ⟨h1,h2,h3⟩:=ho
 refine ⟨Nat.lt_succ_of_lt h1,h2,?_⟩
 rw [mG h,h3]
 unfold kM
 rw [hb]
 show wg _ (some _)=_
 unfold wg
 exact if_neg hl
theorem Ft (one:Bool) (s:au) (hs:s.Ok) (p:List Order) (full:Bool) (hp:E7 p):Pu one 6 [.ag (ak s),.sl (p.map ay) full] (iz s p):=by
 have o1:=zT one s hs p full hp
 unfold iz
 by_cases c1:(cz s p).2=0
 ·rw [if_neg (by simpa using c1)]
  have hpg:=jP c1
  have hg:=hpg.good
  have h8:=hpg.len
  rw [c1] at o1
  have ep:((p.map ay).length:Int)=p.length:=by simp
  have o2:=qU one hg h8
  rw [←ep] at o2
  have hin:=fun F (h:F ∈ pQ s p)=>z8 (Nat.zero_le _) h
  have hLl:(pQ s p).length≤150994944:=wk h8 (Nat.zero_le _) (by omega)
  have hbest:=JM hg h8
  have d0:(!decide ((0:Int)=0))=false:=by decide
  have o2:Pu one 29 [.ag (ak s),aA ((p.map ay).length:Nat)] (.sl ((pQ s p).map eL) false):=o2
  generalize pQ s p=L at *
  refine ah.body (fn:=Tryz.f6) rfl rfl rfl (by cases lM s p (jY s p) <;> rfl) ?_
  refine RM.cv (mu:=fun _=>false) ?_
  repeat' (first |(refine RM.Cf rfl rfl rfl rfl ?_) |refine u1 ?_ |refine u2 ?_ |fail)
  refine RM.cv (mu:=fun _=>false) ?_
  repeat' (first |((with_reducible show ax _ _ _ _ _ _ _ _);refine ah.call o1 rfl rfl ?_) |refine u1 ?_ |refine u2 ?_ |fail)
  refine RM.cv (mu:=fun _=>false) ?_
  repeat' (first |refine u1 ?_ |refine u2 ?_ |fail)
  refine RM.cv (mu:=fun _=>false) ?_
  repeat' (first |((with_reducible show ax _ _ _ _ _ _ _ _);refine ah.call o2 rfl rfl ?_) |refine u1 ?_ |refine u2 ?_ |fail)
  refine RM.cv (mu:=fun _=>false) ?_
  repeat' (first |refine u1 ?_ |refine u2 ?_ |fail)
  refine aB.seq ?_
  refine RM.cv (mu:=fun _=>false) ?_
  repeat' (first |refine u1 ?_ |refine u2 ?_ |fail)
  refine aB.block ?_
  refine aB.aJ (ai.to (l:=[(1,.sl (p.map ay) full),(2,.pt (ak s) 0),(10,.sl (L.map eL) false),(11,aA (wI (none:Ix))),(12,aA (dI (none:Ix))),(13,aA (nI (none:Ix))),(14,aA (0:Nat))]) (hp:=[]) 0 rfl ⟨rfl,rfl,rfl,rfl,rfl,rfl,rfl,trivial⟩ (Nat.zero_le _) rfl rfl) ?_
  refine aB.loop (fun x:Nat × Ix=>x.1≤L.length∧xm s p L x.1 x.2) (fun x=>⟨aS [(1,.sl (p.map ay) full),(2,.pt (ak s) 0),(10,.sl (L.map eL) false),(11,aA (wI x.2)),(12,aA (dI x.2)),(13,aA (nI x.2)),(14,aA (x.1:Nat))],[],bJ.none,false,0⟩) (fun x=>L.length - x.1) ?_ (0,none) ⟨Nat.zero_le _,rfl⟩
  rintro ⟨i,o⟩ ⟨hi,ho⟩
  dsimp only at hi ho
  show aB _ _ _ _ ⟨aS [(1,.sl (p.map ay) full),(2,.pt (ak s) 0),(10,.sl (L.map eL) false),(11,aA (wI o)),(12,aA (dI o)),(13,aA (nI o)),(14,aA (i:Nat))],[],bJ.none,false,0⟩ _
  have eLn:((L.map eL).length:Int)=L.length:=by simp
  by_cases hlt:i < L.length
  ·have d1:decide ((i:Int) < ((L.map eL).length:Int))=true:=decide_eq_true (by omega)
   have hbi:(i:Int) < ((L.map eL).length:Int):=by omega
   have hat:(L.map eL)[((i:Nat):Int).toNat]?=some (eL L[i]):=bl hlt
   obtain ⟨hF,hFl⟩:=hin _ (List.getElem_mem hlt)
   have ob:=B0 true hpg full L[i] false (Nat.le_trans (show L[i].length≤24 by omega) (by decide)) hF
   unfold kK at ob
   cases hb:gj s p (aO L[i]) with
   | none =>
    rw [hb] at ob
    have ob:Pu true 30 [.ag (ak s),.sl (p.map ay) full,.sl (ints L[i]) false] (.tp [aA (-1),aA 0]):=ob
    have d2:decide ((0:Int)≤-1)=false:=by decide
    have hnx:=P6 hlt ho hb
    generalize L[i]=F at *
    refine RM.cv (mu:=fun _=>false) ?_
    repeat' (first |refine u1 ?_ |refine u2 ?_ |fail)
    refine RM.cv (mu:=fun _=>false) ?_
    repeat' (first |(refine ⟨_,ob,?_⟩) |refine u1 ?_ |((with_reducible show RM.wpOp _ _ (.indexAddr _ _ _) _ _ _);refine ⟨eL F,⟨by omega,hat⟩,rfl,?_⟩) |refine u2 ?_ |fail)
    refine aa (mu:=fun _=>false) ?_
    repeat' (first |refine u1 ?_ |refine u2 ?_ |fail)
    exact ⟨(i+1,o),⟨hlt,hnx⟩,(by dsimp only;omega),ai.to 0 rfl ⟨rfl,rfl,rfl,rfl,rfl,rfl,aV (by simp),trivial⟩ (Nat.zero_le _) rfl rfl⟩
   | some v =>
    obtain ⟨d,n⟩:=v
    rw [hb] at ob
    have ob:Pu true 30 [.ag (ak s),.sl (p.map ay) full,.sl (ints L[i]) false] (.tp [aA (d:Nat),aA n]):=ob
    have d2:decide ((0:Int)≤(d:Int))=true:=decide_eq_true (by omega)
    cases o with
    | none =>
     have hnx:=JP hlt ho hb
     have d3:decide ((-1:Int) < 0)=true:=by decide
     generalize L[i]=F at *
     refine RM.cv (mu:=fun _=>false) ?_
     repeat' (first |refine u1 ?_ |refine u2 ?_ |fail)
     refine RM.cv (mu:=fun _=>false) ?_
     repeat' (first |(refine ⟨_,ob,?_⟩) |refine u1 ?_ |((with_reducible show RM.wpOp _ _ (.indexAddr _ _ _) _ _ _);refine ⟨eL F,⟨by omega,hat⟩,rfl,?_⟩) |refine u2 ?_ |fail)
     refine aa (mu:=fun _=>false) ?_
     repeat' (first |refine u1 ?_ |refine u2 ?_ |fail)
     exact ⟨(i+1,some (i,((d:Nat):Int),n)),⟨hlt,hnx⟩,(by dsimp only;omega),ai.to 0 rfl ⟨rfl,rfl,rfl,rfl,rfl,rfl,aV (by simp),trivial⟩ (Nat.zero_le _) rfl rfl⟩
    | some x =>
     obtain ⟨w,e,m⟩:=x
     have d3:decide (((w:Nat):Int) < 0)=false:=decide_eq_false (by omega)
     have hnew:=Oi hlt ho hb
     have hold:=Oj hlt ho hb
     dsimp only at hnew hold
     generalize L[i]=F at *
     by_cases h1:(d:Int) < e
     ·have d4:=decide_eq_true h1
      refine RM.cv (mu:=fun _=>false) ?_
      repeat' (first |refine u1 ?_ |refine u2 ?_ |fail)
      refine RM.cv (mu:=fun _=>false) ?_
      repeat' (first |(refine ⟨_,ob,?_⟩) |refine u1 ?_ |((with_reducible show RM.wpOp _ _ (.indexAddr _ _ _) _ _ _);refine ⟨eL F,⟨by omega,hat⟩,rfl,?_⟩) |refine u2 ?_ |fail)
      refine aa (mu:=fun _=>false) ?_
      repeat' (first |refine u1 ?_ |refine u2 ?_ |fail)
      exact ⟨(i+1,some (i,((d:Nat):Int),n)),⟨hlt,(hnew (.inl h1))⟩,(by dsimp only;omega),ai.to 0 rfl ⟨rfl,rfl,rfl,rfl,rfl,rfl,aV (by simp),trivial⟩ (Nat.zero_le _) rfl rfl⟩
     ·have d4:=decide_eq_false h1
      by_cases h2:(d:Int)=e
      ·have d5:=decide_eq_true h2
       by_cases h3:n < m
       ·have d6:=decide_eq_true h3
        refine RM.cv (mu:=fun _=>false) ?_
        repeat' (first |refine u1 ?_ |refine u2 ?_ |fail)
        refine RM.cv (mu:=fun _=>false) ?_
        repeat' (first |(refine ⟨_,ob,?_⟩) |refine u1 ?_ |((with_reducible show RM.wpOp _ _ (.indexAddr _ _ _) _ _ _);refine ⟨eL F,⟨by omega,hat⟩,rfl,?_⟩) |refine u2 ?_ |fail)
        refine aa (mu:=fun _=>false) ?_
        repeat' (first |refine u1 ?_ |refine u2 ?_ |fail)
        exact ⟨(i+1,some (i,((d:Nat):Int),n)),⟨hlt,(hnew (.inr ⟨h2,h3⟩))⟩,(by dsimp only;omega),ai.to 0 rfl ⟨rfl,rfl,rfl,rfl,rfl,rfl,aV (by simp),trivial⟩ (Nat.zero_le _) rfl rfl⟩
       ·have d6:=decide_eq_false h3
        refine RM.cv (mu:=fun _=>false) ?_
        repeat' (first |refine u1 ?_ |refine u2 ?_ |fail)
        refine RM.cv (mu:=fun _=>false) ?_
        repeat' (first |(refine ⟨_,ob,?_⟩) |refine u1 ?_ |((with_reducible show RM.wpOp _ _ (.indexAddr _ _ _) _ _ _);refine ⟨eL F,⟨by omega,hat⟩,rfl,?_⟩) |refine u2 ?_ |fail)
        refine aa (mu:=fun _=>false) ?_
        repeat' (first |refine u1 ?_ |refine u2 ?_ |fail)
        exact ⟨(i+1,some (w,e,m)),⟨hlt,(hold (by omega))⟩,(by dsimp only;omega),ai.to 0 rfl ⟨rfl,rfl,rfl,rfl,rfl,rfl,aV (by simp),trivial⟩ (Nat.zero_le _) rfl rfl⟩
      ·have d5:=decide_eq_false h2
       refine RM.cv (mu:=fun _=>false) ?_
       repeat' (first |refine u1 ?_ |refine u2 ?_ |fail)
       refine RM.cv (mu:=fun _=>false) ?_
       repeat' (first |(refine ⟨_,ob,?_⟩) |refine u1 ?_ |((with_reducible show RM.wpOp _ _ (.indexAddr _ _ _) _ _ _);refine ⟨eL F,⟨by omega,hat⟩,rfl,?_⟩) |refine u2 ?_ |fail)
       refine aa (mu:=fun _=>false) ?_
       repeat' (first |refine u1 ?_ |refine u2 ?_ |fail)
       exact ⟨(i+1,some (w,e,m)),⟨hlt,(hold (by omega))⟩,(by dsimp only;omega),ai.to 0 rfl ⟨rfl,rfl,rfl,rfl,rfl,rfl,aV (by simp),trivial⟩ (Nat.zero_le _) rfl rfl⟩
  ·obtain rfl:i=L.length:=by omega
   have d1:decide ((L.length:Int) < ((L.map eL).length:Int))=false:=decide_eq_false (by omega)
   cases o with
   | none =>
    have ho:nO s p (L.take L.length)=none:=ho
    rw [List.take_length,hbest,Option.map_eq_none_iff] at ho
    have d3:decide ((-1:Int) < 0)=true:=by decide
    rw [ho]
    refine aa (mu:=fun _=>false) ?_
    repeat' (first |refine u1 ?_ |refine u2 ?_ |fail)
    refine aa (mu:=fun _=>false) ?_
    repeat' (first |refine u1 ?_ |refine u2 ?_ |fail)
    exact ⟨[_,_,_,_],⟨Fz.deep rfl,Fz.deep rfl,Fz.deep rfl,Fz.deep rfl,trivial⟩,rfl⟩
   | some x =>
    obtain ⟨w,e,m⟩:=x
    obtain ⟨_,hw,ho⟩:=ho
    dsimp only at hw ho
    rw [List.take_length,hbest,Option.map_eq_some_iff] at ho
    obtain ⟨b,hb1,hb2⟩:=ho
    have d3:decide (((w:Nat):Int) < 0)=false:=decide_eq_false (by omega)
    have hbw:(w:Int) < ((L.map eL).length:Int):=by omega
    have hat:(L.map eL)[((w:Nat):Int).toNat]?=some (eL L[w]):=bl hw
    unfold fB.Cg at hb2
    simp only [Prod.mk.injEq] at hb2
    obtain ⟨e1,e2,e3⟩:=hb2
    rw [←e1] at hat
    rw [hb1]
    subst e2
    subst e3
    show aB _ _ _ _ ⟨aS [(1,.sl (p.map ay) full),(2,.pt (ak s) 0),(10,.sl (L.map eL) false),(11,aA ((w:Nat):Int)),(12,aA b.day),(13,aA b.need),(14,aA (L.length:Nat))],[],bJ.none,false,0⟩ _
    refine aa (mu:=fun _=>false) ?_
    repeat' (first |refine u1 ?_ |refine u2 ?_ |fail)
    refine aa (mu:=fun _=>false) ?_
    repeat' (first |refine u1 ?_ |((with_reducible show RM.wpOp _ _ (.indexAddr _ _ _) _ _ _);refine ⟨eL (bp b.f),⟨by omega,hat⟩,rfl,?_⟩) |refine u2 ?_ |fail)
    exact ⟨[_,_,_,_],⟨Fz.deep rfl,Fz.deep rfl,Fz.deep rfl,Fz.deep rfl,trivial⟩,rfl⟩
 ·rw [if_pos (by simpa using c1)]
  have d0:(!decide ((cz s p).2=0))=true:=by rw [decide_eq_false c1];rfl
  refine ah.body (fn:=Tryz.f6) rfl rfl rfl rfl ?_
  refine aa (mu:=fun _=>false) ?_
  repeat' (first |(refine RM.Cf rfl rfl rfl rfl ?_) |((with_reducible show ax _ _ _ _ _ _ _ _);refine ah.call o1 rfl rfl ?_) |refine u1 ?_ |refine u2 ?_ |fail)
  exact ⟨[_,_,_,_],⟨Fz.deep rfl,Fz.deep rfl,Fz.deep rfl,Fz.deep rfl,trivial⟩,rfl⟩
def eX (N:Nat) (g:Nat→Int):List AV:=(List.range N).map fun m=>aA (g m)
theorem iR (N:Nat) (g:Nat→Int):(eX N g).length=N:=by simp [eX]
theorem Aa {N:Nat} {g:Nat→Int} {n:Nat} (h:n < N):(eX N g)[n]?=some (aA (g n)):=by
 unfold eX
 rw [List.getElem?_map,List.getElem?_range h]
 rfl
theorem wm {N:Nat} {g g':Nat→Int} (h:∀ m,m < N→g m=g' m):eX N g=eX N g':=by
 unfold eX
 refine List.map_congr_left fun m hm=>?_
 rw [h m (List.mem_range.1 hm)]
theorem Fu (N:Nat) (g:Nat→Int):eX (N+1) g=eX N g++[aA (g N)]:=by
 unfold eX
 rw [List.range_succ,List.map_append]
 rfl
theorem Dv {cs:List AV} {v:AV} {n:Nat} (h:n < cs.length):fS cs [v] n=cs.set n v:=by
 unfold fS
 rw [List.set_eq_take_append_cons_drop,if_pos h]
 simp
theorem JQ {N:Nat} {g g':Nat→Int} {n:Nat} (h:n < N) (hg:∀ m,m < N→g' m=if m=n then g' n else g m):fS (eX N g) [aA (g' n)] n=eX N g':=by
 rw [Dv (by rw [iR];exact h)]
 apply List.ext_getElem?
 intro m
 by_cases hm:m < N
 ·rw [Aa hm,List.getElem?_set,iR]
  by_cases e:n=m
  ·subst e
   rw [if_pos rfl,if_pos h]
  ·rw [if_neg e,Aa hm,hg m hm,if_neg (fun h=>e h.symm)]
 ·rw [List.getElem?_eq_none (by rw [List.length_set,iR];omega),List.getElem?_eq_none (by rw [iR];omega)]
theorem gz (N:Nat) (g:Nat→Int) (v:Nat):([.cells (eX N g) 1 v]:List AB).all (AB.jb 1)=true:=by
 have h:AB.jb 1 (.cells (eX N g) 1 v)=true:=gL 1 (fun _=>rfl) _
 simp only [List.all_cons,List.all_nil,h,Bool.and_true]
theorem JR (N:Nat) (g:Nat→Int):(0:Nat)+N * 1≤(eX N g).length∧(ints ((List.range N).map g)).length=N∧(ints ((List.range N).map g)).flatten=((eX N g).drop 0).take (N * 1):=by
 refine ⟨by rw [iR];omega,by simp,?_⟩
 rw [cR,List.drop_zero,List.take_of_length_le (by rw [iR];omega)]
 unfold dc eX
 rw [List.map_map]
 rfl
theorem JS (one:Bool) (s:au) (hs:s.Ok) (p:List Order) (full:Bool) (hp:E7 p):Pu one 9 [.ag (ak s),.sl (p.map ay) full] (.tp [vR s p,aA (vQ s p)]):=by
 have o1:=zT one s hs p full hp
 unfold vR vQ
 by_cases c1:(cz s p).2=0
 ·rw [if_pos c1,c1]
  have hpg:=jP c1
  have hg:=hpg.good
  have h8:=hpg.len
  rw [c1] at o1
  have ep:((p.map ay).length:Int)=p.length:=by simp
  have o2:=qU one hg h8
  rw [←ep] at o2
  have hin:=fun F (h:F ∈ pQ s p)=>z8 (Nat.zero_le _) h
  have hLl:(pQ s p).length≤150994944:=wk h8 (Nat.zero_le _) (by omega)
  have hrow:=K0 hg h8
  have d0:(!decide ((0:Int)=0))=false:=by decide
  have hN3:=hg.len
  have hdays:=hg.days
  have o2:Pu one 29 [.ag (ak s),aA ((p.map ay).length:Nat)] (.sl ((pQ s p).map eL) false):=o2
  rw [←hrow]
  clear hrow
  generalize pQ s p=L at *
  have eN:((s.needs.map aH).length:Int)=s.needs.length:=by simp
  refine ah.body (fn:=Tryz.f9) rfl rfl rfl rfl ?_
  refine RM.cv (mu:=fun _=>false) ?_
  repeat' (first |(refine RM.Cf rfl rfl rfl rfl ?_) |refine u1 ?_ |refine u2 ?_ |fail)
  refine RM.cv (mu:=fun _=>false) ?_
  repeat' (first |((with_reducible show ax _ _ _ _ _ _ _ _);refine ah.call o1 rfl rfl ?_) |refine u1 ?_ |refine u2 ?_ |fail)
  refine RM.cv (mu:=fun _=>false) ?_
  repeat' (first |refine u1 ?_ |refine u2 ?_ |fail)
  refine RM.cv (mu:=fun _=>false) ?_
  repeat' (first |refine u1 ?_ |refine u2 ?_ |fail)
  refine aB.seq ?_
  refine RM.cv (mu:=fun _=>false) ?_
  repeat' (first |refine u1 ?_ |refine u2 ?_ |fail)
  refine aB.block ?_
  refine aB.aJ (ai.trans (ai.nB 1) (ai.Mi (l:=[(1,.sl (p.map ay) full),(2,.pt (ak s) 0),(8,.bU 0 0 0 0 0),(9,aA (0:Nat))]) (hp:=[.cells (eX 0 (dP s)) 1 0]) 1 rfl ⟨bT.refl _,bT.refl _,bT.nA,bT.refl _,trivial⟩ (Nat.zero_le _) rfl (gz _ _ _))) ?_
  refine aB.loop (fun x:Nat × Nat × Nat=>x.1≤s.needs.length∧(x.2.2=x.1∨x.2.2=x.1+1)) (fun x=>⟨aS [(1,.sl (p.map ay) full),(2,.pt (ak s) 0),(8,.bU 0 x.2.1 0 x.1 x.2.2),(9,aA (x.1:Nat))],[.cells (eX x.1 (dP s)) 1 x.2.1],bJ.none,false,0⟩) (fun x=>s.needs.length - x.1) ?_ (0,0,0) ⟨Nat.zero_le _,.inl rfl⟩
  rintro ⟨k,aC,c⟩ ⟨hk,hcap⟩
  dsimp only at hk hcap
  show aB _ _ _ _ ⟨aS [(1,.sl (p.map ay) full),(2,.pt (ak s) 0),(8,.bU 0 aC 0 k c),(9,aA (k:Nat))],[.cells (eX k (dP s)) 1 aC],bJ.none,false,0⟩ _
  by_cases hlt:k < s.needs.length
  ·have d1:decide ((k:Int) < ((s.needs.map aH).length:Int))=true:=decide_eq_true (by omega)
   have hbk:(k:Int) < ((s.needs.map aH).length:Int):=by omega
   have hat:(s.needs.map aH)[((k:Nat):Int).toNat]?=some (aH s.needs[k]):=bl hlt
   have hful:=(zS hlt).2
   have hs1:=Fu k (dP s)
   rw [hful] at hs1
   have hgl:=iR k (dP s)
   generalize s.needs[k]=g at *
   refine RM.cv (mu:=fun _=>false) ?_
   repeat' (first |refine u1 ?_ |refine u2 ?_ |fail)
   refine RM.cv (mu:=fun _=>false) ?_
   repeat' (first |((with_reducible show RM.wpOp _ _ (.call _) _ _ _);refine RM.tB (cs:=eX k (dP s)) (n:=k) (els:=[eI g.full]) rfl rfl rfl rfl rfl (fun el hel=>by rw [List.mem_singleton.1 hel];rfl) rfl rfl (by rw [hgl];exact (Nat.mul_one _).symm) hcap (by simp only [List.length_singleton];omega) (fun v' c' hc'=>?_)) |refine u1 ?_ |((with_reducible show RM.wpOp _ _ (.indexAddr _ _ _) _ _ _);refine ⟨aH g,⟨by omega,hat⟩,rfl,?_⟩) |refine u2 ?_ |fail)
   refine aa (mu:=fun _=>false) ?_
   repeat' (first |refine u1 ?_ |refine u2 ?_ |fail)
   exact ⟨(k+1,v',c'),⟨hlt,hc'⟩,(by dsimp only;omega),ai.to 1 (by dsimp only;rw [hs1];rfl) ⟨rfl,rfl,rfl,aV (by simp),trivial⟩ (Nat.zero_le _) rfl (gz _ _ _)⟩
  ·obtain rfl:k=s.needs.length:=by omega
   have d1:decide ((s.needs.length:Int) < ((s.needs.map aH).length:Int))=false:=decide_eq_false (by omega)
   refine aa (mu:=fun _=>false) ?_
   repeat' (first |refine u1 ?_ |refine u2 ?_ |fail)
   refine RM.cv (mu:=fun _=>false) ?_
   repeat' (first |((with_reducible show ax _ _ _ _ _ _ _ _);refine ah.call o2 rfl rfl ?_) |refine u1 ?_ |refine u2 ?_ |fail)
   refine aB.seq ?_
   refine RM.cv (mu:=fun _=>false) ?_
   repeat' (first |refine u1 ?_ |refine u2 ?_ |fail)
   refine aB.block ?_
   generalize hNN:s.needs.length=N at *
   refine aB.aJ (ai.to (l:=[(1,.sl (p.map ay) full),(2,.pt (ak s) 0),(8,.bU 0 aC 0 N c),(10,.sl (L.map eL) false),(11,aA (0:Nat))]) (hp:=[.cells (eX N (fun n=>wL s p n ((L.take 0).map aO))) 1 aC]) 1 rfl ⟨rfl,rfl,rfl,rfl,rfl,trivial⟩ (Nat.zero_le _) rfl (gz _ _ _)) ?_
   refine aB.loop (fun i:Nat=>i≤L.length) (fun i=>⟨aS [(1,.sl (p.map ay) full),(2,.pt (ak s) 0),(8,.bU 0 aC 0 N c),(10,.sl (L.map eL) false),(11,aA (i:Nat))],[.cells (eX N (fun n=>wL s p n ((L.take i).map aO))) 1 aC],bJ.none,false,0⟩) (fun i=>L.length - i) ?_ 0 (Nat.zero_le _)
   intro i hi
   have eLn:((L.map eL).length:Int)=L.length:=by simp
   by_cases hli:i < L.length
   ·have d2:decide ((i:Int) < ((L.map eL).length:Int))=true:=decide_eq_true (by omega)
    have hbi:(i:Int) < ((L.map eL).length:Int):=by omega
    have hat:(L.map eL)[((i:Nat):Int).toNat]?=some (eL L[i]):=bl hli
    obtain ⟨hF,hFl⟩:=hin _ (List.getElem_mem hli)
    have om:=Eg true hpg full L[i] false (Nat.le_trans (show L[i].length≤24 by omega) (by decide)) hF
    have hW:(fun n=>wL s p n ((L.take (i+1)).map aO))=fun n=>wD s p (aO L[i]) n (wL s p n ((L.take i).map aO)) s.days.toNat:=funext fun n=>by
     rw [List.map_take,List.map_take]
     exact Ej (by rw [List.getElem?_map,List.getElem?_eq_getElem hli];rfl)
    have hyl:(aO L[i])=aO L[i]:=rfl
    generalize hy:aO L[i]=y at *
    generalize hG:(fun n=>wL s p n ((L.take i).map aO))=G at *
    have hWG:(fun n=>wL s p n ((L.take (i+1)).map aO))=fun n=>wD s p y n (G n) s.days.toNat:=by
     rw [hW,←hG]
    clear hW
    generalize L[i]=F at *
    have edl:((tH s p y s.days.toNat).length:Int)=s.days.toNat:=by rw [zR]
    refine RM.cv (mu:=fun _=>false) ?_
    repeat' (first |refine u1 ?_ |refine u2 ?_ |fail)
    refine aB.seq ?_
    refine aB.block ?_
    refine RM.cv (mu:=fun _=>false) ?_
    repeat' (first |(refine ⟨_,om,?_⟩) |refine u1 ?_ |((with_reducible show RM.wpOp _ _ (.indexAddr _ _ _) _ _ _);refine ⟨eL F,⟨by omega,hat⟩,rfl,?_⟩) |refine u2 ?_ |fail)
    refine RM.cv (mu:=fun _=>false) ?_
    repeat' (first |refine u1 ?_ |refine u2 ?_ |fail)
    refine aB.block ?_
    refine aB.aJ (ai.to (l:=[(1,.sl (p.map ay) full),(2,.pt (ak s) 0),(8,.bU 0 aC 0 N c),(10,.sl (L.map eL) false),(11,aA (i:Nat)),(12,.sl (tH s p y s.days.toNat) false),(13,aA (0:Nat))]) (hp:=[.cells (eX N (fun n=>wD s p y n (G n) 0)) 1 aC]) 1 rfl ⟨rfl,rfl,rfl,rfl,rfl,rfl,rfl,trivial⟩ (Nat.zero_le _) rfl (gz _ _ _)) ?_
    refine aB.loop (fun d:Nat=>d≤s.days.toNat) (fun d=>⟨aS [(1,.sl (p.map ay) full),(2,.pt (ak s) 0),(8,.bU 0 aC 0 N c),(10,.sl (L.map eL) false),(11,aA (i:Nat)),(12,.sl (tH s p y s.days.toNat) false),(13,aA (d:Nat))],[.cells (eX N (fun n=>wD s p y n (G n) d)) 1 aC],bJ.none,false,0⟩) (fun d=>s.days.toNat - d) ?_ 0 (Nat.zero_le _)
    intro d hd
    by_cases hld:d < s.days.toNat
    ·have d3:decide ((d:Int) < ((tH s p y s.days.toNat).length:Int))=true:=decide_eq_true (by omega)
     have hbd:(d:Int) < ((tH s p y s.days.toNat).length:Int):=by omega
     have hatd:(tH s p y s.days.toNat)[((d:Nat):Int).toNat]?=some [AV.sl (ints (gQ s p y d)) false]:=by rw [Int.toNat_natCast];exact Jk hld
     refine RM.cv (mu:=fun _=>false) ?_
     repeat' (first |refine u1 ?_ |refine u2 ?_ |fail)
     refine aB.seq ?_
     refine aB.block ?_
     refine RM.cv (mu:=fun _=>false) ?_
     repeat' (first |refine u1 ?_ |refine u2 ?_ |fail)
     refine aB.block ?_
     have h60:eX N (fun n=>wD s p y n (G n) d)=eX N (fun m=>wD s p y m (G m) (if m < 0 then d+1 else d)):=wm fun m _=>by rw [if_neg (Nat.not_lt_zero m)]
     refine aB.aJ (ai.to (l:=[(1,.sl (p.map ay) full),(2,.pt (ak s) 0),(8,.bU 0 aC 0 N c),(10,.sl (L.map eL) false),(11,aA (i:Nat)),(12,.sl (tH s p y s.days.toNat) false),(13,aA (d:Nat)),(14,aA (0:Nat))]) (hp:=[.cells (eX N (fun m=>wD s p y m (G m) (if m < 0 then d+1 else d))) 1 aC]) 1 (by rw [←h60];rfl) ⟨rfl,rfl,rfl,rfl,rfl,rfl,rfl,rfl,trivial⟩ (Nat.zero_le _) rfl (gz _ _ _)) ?_
     refine aB.loop (fun n:Nat=>n≤N) (fun n=>⟨aS [(1,.sl (p.map ay) full),(2,.pt (ak s) 0),(8,.bU 0 aC 0 N c),(10,.sl (L.map eL) false),(11,aA (i:Nat)),(12,.sl (tH s p y s.days.toNat) false),(13,aA (d:Nat)),(14,aA (n:Nat))],[.cells (eX N (fun m=>wD s p y m (G m) (if m < n then d+1 else d))) 1 aC],bJ.none,false,0⟩) (fun n=>N - n) ?_ 0 (Nat.zero_le _)
     intro n hn
     by_cases hln:n < N
     ·have d4:decide ((n:Int) < (N:Int))=true:=decide_eq_true (by omega)
      have hat1:(eX N (fun m=>wD s p y m (G m) (if m < n then d+1 else d)))[0+((n:Nat):Int).toNat * 1]?=some (aA (wD s p y n (G n) d)):=by
       rw [Int.toNat_natCast,Nat.zero_add,Nat.mul_one,Aa hln,if_neg (Nat.lt_irrefl _)]
      have hlv:(gQ s p y d).length=N:=by rw [jn,hNN]
      have hbn:(n:Int) < ((ints (gQ s p y d)).length:Int):=by rw [List.length_map,hlv];omega
      have hatn:(ints (gQ s p y d))[((n:Nat):Int).toNat]?=some (eI (gK s p y n d)):=by
       rw [Int.toNat_natCast,List.getElem?_map]
       unfold gQ
       rw [List.getElem?_map,List.getElem?_range (by rw [hNN];exact hln)]
       rfl
      have hsb:Nat.ble (0+((n:Nat):Int).toNat * 1+1) (eX N (fun m=>wD s p y m (G m) (if m < n then d+1 else d))).length=true:=Nat.ble_eq_true_of_le (by rw [iR,Int.toNat_natCast];omega)
      have hst:fS (eX N (fun m=>wD s p y m (G m) (if m < n then d+1 else d))) [aA (min (wD s p y n (G n) d) (gK s p y n d))] (0+((n:Nat):Int).toNat * 1)=eX N (fun m=>wD s p y m (G m) (if m < n+1 then d+1 else d)):=by
       rw [Int.toNat_natCast,Nat.zero_add,Nat.mul_one]
       have:=JQ (N:=N) (g:=fun m=>wD s p y m (G m) (if m < n then d+1 else d)) (g':=fun m=>wD s p y m (G m) (if m < n+1 then d+1 else d)) hln fun m _=>by
        by_cases e:m=n
        ·subst e;rw [if_pos rfl]
        ·rw [if_neg e]
         by_cases e2:m < n
         ·rw [if_pos e2,if_pos (by omega)]
         ·rw [if_neg e2,if_neg (by omega)]
       rw [if_pos (Nat.lt_succ_self n),Ei] at this
       exact this
      refine RM.cv (mu:=fun _=>false) ?_
      repeat' (first |refine u1 ?_ |refine u2 ?_ |fail)
      refine RM.cv (mu:=fun _=>false) ?_
      repeat' (first |((with_reducible show RM.wpOp _ _ (.load _ _) _ _ _);refine RM.Ot rfl rfl rfl hat1 ?_) |((with_reducible show cK _ _ _ _ _ _);refine RM.NJ rfl rfl rfl rfl rfl rfl hsb ?_) |refine u1 ?_ |(refine ⟨[AV.sl (ints (gQ s p y d)) false],⟨by omega,hatd⟩,rfl,?_⟩) |((with_reducible show RM.wpOp _ _ (.indexAddr _ _ _) _ _ _);refine ⟨eI (gK s p y n d),⟨by omega,hatn⟩,rfl,?_⟩) |refine u2 ?_ |fail)
      refine aa (mu:=fun _=>false) ?_
      repeat' (first |refine u1 ?_ |refine u2 ?_ |fail)
      exact ⟨n+1,hln,(by dsimp only;omega),ai.to 1 (by dsimp only;rw [←hst];rfl) ⟨rfl,rfl,rfl,rfl,rfl,rfl,rfl,aV (by simp),trivial⟩ (Nat.zero_le _) rfl (gz _ _ _)⟩
     ·obtain rfl:N=n:=by omega
      have d4:decide ((N:Int) < (N:Int))=false:=decide_eq_false (by omega)
      have h6N:eX N (fun m=>wD s p y m (G m) (if m < N then d+1 else d))=eX N (fun m=>wD s p y m (G m) (d+1)):=wm fun m hm=>by rw [if_pos hm]
      refine aa (mu:=fun _=>false) ?_
      repeat' (first |refine u1 ?_ |refine u2 ?_ |fail)
      refine aa (mu:=fun _=>false) ?_
      repeat' (first |refine u1 ?_ |refine u2 ?_ |fail)
      exact ⟨d+1,hld,(by dsimp only;omega),ai.to 1 (by rw [←h6N];rfl) ⟨rfl,rfl,rfl,rfl,rfl,rfl,aV (by simp),trivial⟩ (Nat.zero_le _) rfl (gz _ _ _)⟩
    ·obtain rfl:d=s.days.toNat:=by omega
     have d3:decide ((s.days.toNat:Int) < ((tH s p y s.days.toNat).length:Int))=false:=decide_eq_false (by omega)
     refine aa (mu:=fun _=>false) ?_
     repeat' (first |refine u1 ?_ |refine u2 ?_ |fail)
     refine aa (mu:=fun _=>false) ?_
     repeat' (first |refine u1 ?_ |refine u2 ?_ |fail)
     exact ⟨i+1,hli,(by dsimp only;omega),ai.to 1 (by rw [hWG];rfl) ⟨rfl,rfl,rfl,rfl,aV (by simp),trivial⟩ (Nat.zero_le _) rfl (gz _ _ _)⟩
   ·obtain rfl:i=L.length:=by omega
    have d2:decide ((L.length:Int) < ((L.map eL).length:Int))=false:=decide_eq_false (by omega)
    have hr:=JR N (fun n=>wL s p n (L.map aO))
    have hW:(fun n=>wL s p n ((L.take L.length).map aO))=fun n=>wL s p n (L.map aO):=by rw [List.take_length]
    have hww:mC s p (L.map aO)=(List.range N).map fun n=>wL s p n (L.map aO):=by unfold mC;rw [hNN]
    rw [hww]
    refine aa (mu:=fun _=>false) ?_
    repeat' (first |refine u1 ?_ |refine u2 ?_ |fail)
    refine aa (mu:=fun _=>false) ?_
    repeat' (first |refine u1 ?_ |refine u2 ?_ |fail)
    exact ⟨[_,_],⟨Fz.row (es:=1) (by show some (AB.cells (eX N (fun n=>wL s p n ((L.take L.length).map aO))) 1 aC)=_;rw [hW]) hr.1 hr.2.1 (qT _) hr.2.2 (by rw [cR];exact ic _) (fun h=>Bool.noConfusion h),Fz.deep rfl,trivial⟩,rfl⟩
 ·rw [if_neg c1]
  have d0:(!decide ((cz s p).2=0))=true:=by rw [decide_eq_false c1];rfl
  refine ah.body (fn:=Tryz.f9) rfl rfl rfl rfl ?_
  refine aa (mu:=fun _=>false) ?_
  repeat' (first |(refine RM.Cf rfl rfl rfl rfl ?_) |((with_reducible show ax _ _ _ _ _ _ _ _);refine ah.call o1 rfl rfl ?_) |refine u1 ?_ |refine u2 ?_ |fail)
  exact ⟨[_,_],⟨Fz.deep rfl,Fz.deep rfl,trivial⟩,rfl⟩
end Go.Proofs.YtpeogffeoehboaaGreatDoor
