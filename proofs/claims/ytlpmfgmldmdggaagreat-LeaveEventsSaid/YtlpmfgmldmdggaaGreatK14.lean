/-
  Contracts of the program's functions and of the document's. Lemmas alone; their conditions stand in them.
-/
import Derived.Test.YtlpmfgmldmdggaaGreatK13
open Go Go.RM
namespace Go.Proofs.YtlpmfgmldmdggaaGreat
set_option maxRecDepth 100000
set_option maxHeartbeats 4000000
theorem IZ (one:Bool) (c:ay) (h:c.Ok) (l:List Ev) (f:Bool) (hl:l.length≤maxLen) (hd:∀ x ∈ l,x.day≤later) (D:Int):Pu one 24 [.ag (aF c),.sl (l.map cZ) f,ah D] (.tp [.sl (ints (sJ c l D)) false,ah (qO c l D)]):=by
 unfold sJ
 by_cases he:qO c l D=0
 ·rw [if_pos he,he]
  exact Hz one c h l f hl hd D he
 ·have o1:=oZ one c h l f hl hd D
  unfold yf at o1
  rw [if_neg he] at o1 ⊢
  have q1:(!decide (qO c l D=0))=true:=by rw [decide_eq_false he];rfl
  generalize qO c l D=e at *
  refine af.body (fn:=Tryz.f24) rfl rfl rfl rfl ?_
  refine aa (mu:=fun _=>false) ?_
  repeat' (first |refine u1 ?_ |((with_reducible show ai _ _ _ _ _ _ _ _);refine af.call o1 rfl rfl ?_) |refine u2 ?_ |fail)
  exact ⟨[_,_],⟨Fz.nil,Fz.deep rfl,trivial⟩,rfl⟩
theorem HB {c:ay} {l:List Ev} (hd:∀ x ∈ l,x.day≤later) (D:Int):(yf c l D).length≤5:=by
 unfold yf
 split
 ·rename_i he
  obtain ⟨_,hv,hD⟩:=xz hd he
  have:=(vg hv hD).1
  have:=hv.good.aG
  omega
 ·exact Nat.zero_le _
theorem Ft {c:ay} {l:List Ev} (hd:∀ x ∈ l,x.day≤later) (D:Int):(sJ c l D).length≤5:=by
 unfold sJ
 split
 ·rename_i he
  obtain ⟨_,hv,hD⟩:=xz hd he
  have:=(vg hv hD).1
  have:=hv.good.aG
  have:=HA c (Dk c l D)
  omega
 ·exact Nat.zero_le _
theorem Kg (c:ay) (h:c.Ok) (l:List Ev) (f:Bool) (hl:l.length≤maxLen) (hd:∀ x ∈ l,x.day≤later) (D:Int):Pu false 3 [.ag (aF c),.sl (l.map cZ) f,ah D] (BB true):=by
 have o1:=D5 false c h
 have o2:=B0 false c h
 have o3:=qP false c h l f hl
 have o4:=uC false c h l f hl hd
 have o5:=Dl false c h l f hl hd D
 have o6:=oZ false c h l f hl hd D
 have o7:=Kf false c h l f hl hd D
 have o8:=IZ false c h l f hl hd D
 have aw:=KY false
 have aw':=KY true
 have h1:=HB (c:=c) hd D
 have h2:=Ft (c:=c) hd D
 have s1:=Ka false (yf c l D) false false (by simp [maxLen];omega)
 have s2:=zl false (sJ c l D) false false (by simp [maxLen];omega)
 have s2':=zl true (sJ c l D) false false (by simp [maxLen];omega)
 generalize yf c l D=A at *
 generalize sJ c l D=N at *
 generalize qO c l D=e at *
 generalize (nS c).1=a1 at *
 generalize (nS c).2.1=a2 at *
 generalize (nS c).2.2=a3 at *
 generalize (va c l).1=b1 at *
 generalize (va c l).2=b2 at *
 have d1:(!decide (a1=a1))=false:=by simp
 have d2:(!decide (a2=a2))=false:=by simp
 have d3:(!decide (a3=a3))=false:=by simp
 have d4:(!decide (b1=b1))=false:=by simp
 have d5:(!decide (b2=b2))=false:=by simp
 have d6:(!decide (e=e))=false:=by simp
 have d7:decide (e=e)=true:=by simp
 refine af.body (fn:=Tryz.f3) rfl rfl rfl rfl ?_
 refine aa (mu:=fun _=>false) ?_
 repeat' (first |refine u1 ?_ |((with_reducible show ai _ _ _ _ _ _ _ _);refine af.call o1 rfl rfl ?_) |((with_reducible show ai _ _ _ _ _ _ _ _);refine af.call o2 rfl rfl ?_) |((with_reducible show ai _ _ _ _ _ _ _ _);refine af.call o3 rfl rfl ?_) |((with_reducible show ai _ _ _ _ _ _ _ _);refine af.call o4 rfl rfl ?_) |((with_reducible show ai _ _ _ _ _ _ _ _);refine af.call o5 rfl rfl ?_) |((with_reducible show ai _ _ _ _ _ _ _ _);refine af.call o6 rfl rfl ?_) |((with_reducible show ai _ _ _ _ _ _ _ _);refine af.call o7 rfl rfl ?_) |((with_reducible show ai _ _ _ _ _ _ _ _);refine af.call o8 rfl rfl ?_) |((with_reducible show ai _ _ _ _ _ _ _ _);refine af.call s1 rfl rfl ?_) |((with_reducible show ai _ _ _ _ _ _ _ _);refine af.call s2 rfl rfl ?_) |((with_reducible show ai _ _ _ _ _ _ _ _);refine af.call aw rfl rfl ?_) |(refine ⟨_,_,.inl ⟨rfl,rfl⟩,s2',?_⟩) |(refine ⟨_,_,.inl ⟨rfl,rfl⟩,aw',?_⟩) |refine u2 ?_ |fail)
 exact ⟨[_],⟨Fz.deep rfl,trivial⟩,rfl⟩
end Go.Proofs.YtlpmfgmldmdggaaGreat
