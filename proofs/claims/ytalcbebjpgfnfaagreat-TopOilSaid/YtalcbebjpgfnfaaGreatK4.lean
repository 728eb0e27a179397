/-
  Contracts of the program's functions and of the document's. Lemmas alone; their conditions stand in them.
-/
import Derived.Test.YtalcbebjpgfnfaaGreatA3
import Derived.Test.YtalcbebjpgfnfaaGreatK3
open Go Go.RM Go.AirLaw
namespace Go.Proofs.YtalcbebjpgfnfaaGreat
set_option maxRecDepth 100000
set_option maxHeartbeats 4000000
def xm (r:aP):Bool:=aM (-30000) 30000 [r.pos.x,r.pos.y]
def cV (s:aC) (n:bk) (rs:List aP):Int × Int :=
 if (ir s).2.2 ≠ 0 then (0,(ir s).2.2)
 else if aM 0 ((s.ax.length:Int) - 1) [n.ei]=true then (0,4)
 else if (aM (-30000) 30000 [n.pos.x,n.pos.y] || aM 0 31 [n.g8] || aM 1 32 [n.gK])=true then (0,7)
 else if 8 < rs.length then (0,3)
 else if 0≤lE xm rs then (lE xm rs,7) else (0,0)
abbrev cx (s:aC) (n:bk) (rs:List aP) (f:Bool):List AV :=
 [.sl (s.ax.map bh) false,ah s.bW.lo,ah s.bW.hi,ah s.clear.lo,ah s.clear.hi,ah n.pos.x,ah n.pos.y,ah n.ei,ah n.g8,ah n.gK,.sl (rs.map aL) f]
theorem J0 (one:Bool) (r:aP):af TT TB one (.fn 145 [] []) [.ag (aL r)] (BB (xm r)):=by
 have o1:=qe one (-30000) 30000 r.pos.x r.pos.y
 unfold xm
 refine af.body (fn:=Tryz.f145) rfl rfl rfl rfl ?_
 refine aa (mu:=fun _=>false) ?_
 repeat' (first |refine u1 ?_ |refine u2 ?_ |refine af.call o1 rfl rfl ?_ |fail)
 exact ⟨[_],⟨Fz.deep rfl,trivial⟩,rfl⟩
theorem J1 (one:Bool) (s:aC) (h:s.Ok) (n:bk) (rs:List aP) (f:Bool) (hr:rs.length≤maxLen) :
  Pu one 107 [.ag (bf s),.ag (jW n),.sl (rs.map aL) f] (.tp [ah (cV s n rs).1,ah (cV s n rs).2]):=by
 have hc:=vF one s h
 have eg:((s.ax.map bh).length:Int)=s.ax.length:=by simp
 have o1:=kA one 0 ((s.ax.length:Int) - 1) n.ei
 have o2:=qe one (-30000) 30000 n.pos.x n.pos.y
 have o3:=kA one 0 31 n.g8
 have o4:=kA one 1 32 n.gK
 have o5:=lG one 145 [] [] rfl xm rs f hr (fun r _=>J0 one r)
 have ml:s.ax.length≤9223372036854775807:=Nat.le_trans h.len (by simp [maxLen])
 have ml':rs.length≤9223372036854775807:=Nat.le_trans hr (by simp [maxLen])
 have er:((rs.map aL).length:Int)=rs.length:=by simp
 rw [←eg] at o1
 unfold cV
 rw [←eg]
 by_cases e0:(ir s).2.2=0
 ·rw [if_neg (by omega)]
  have d0:decide ((ir s).2.2=0)=true:=decide_eq_true e0
  rw [e0] at hc d0
  cases e1:aM 0 (((s.ax.map bh).length:Int) - 1) [n.ei] with
  | true =>
   rw [e1] at o1
   refine af.body (fn:=Tryz.f107) rfl rfl rfl rfl ?_
   refine aa (mu:=fun _=>false) ?_
   repeat' (first |refine u1 ?_ |refine u2 ?_ |refine af.call hc rfl rfl ?_ |refine af.call o1 rfl rfl ?_ |fail)
   exact ⟨[_,_],⟨Fz.deep rfl,Fz.deep rfl,trivial⟩,rfl⟩
  | false =>
   rw [e1] at o1
   cases e2:aM (-30000) 30000 [n.pos.x,n.pos.y] with
   | true =>
    rw [e2] at o2
    refine af.body (fn:=Tryz.f107) rfl rfl rfl rfl ?_
    refine aa (mu:=fun _=>false) ?_
    repeat' (first |refine u1 ?_ |refine u2 ?_ |refine af.call hc rfl rfl ?_ |refine af.call o1 rfl rfl ?_ |refine af.call o2 rfl rfl ?_ |fail)
    exact ⟨[_,_],⟨Fz.deep rfl,Fz.deep rfl,trivial⟩,rfl⟩
   | false =>
    rw [e2] at o2
    cases e3:aM 0 31 [n.g8] with
    | true =>
     rw [e3] at o3
     refine af.body (fn:=Tryz.f107) rfl rfl rfl rfl ?_
     refine aa (mu:=fun _=>false) ?_
     repeat' (first |refine u1 ?_ |refine u2 ?_ |refine af.call hc rfl rfl ?_ |refine af.call o1 rfl rfl ?_ |refine af.call o2 rfl rfl ?_ |refine af.call o3 rfl rfl ?_ |fail)
     exact ⟨[_,_],⟨Fz.deep rfl,Fz.deep rfl,trivial⟩,rfl⟩
    | false =>
     rw [e3] at o3
     cases e4:aM 1 32 [n.gK] with
     | true =>
      rw [e4] at o4
      refine af.body (fn:=Tryz.f107) rfl rfl rfl rfl ?_
      refine aa (mu:=fun _=>false) ?_
      repeat' (first |refine u1 ?_ |refine u2 ?_ |refine af.call hc rfl rfl ?_ |refine af.call o1 rfl rfl ?_ |refine af.call o2 rfl rfl ?_ |refine af.call o3 rfl rfl ?_ |refine af.call o4 rfl rfl ?_ |fail)
      exact ⟨[_,_],⟨Fz.deep rfl,Fz.deep rfl,trivial⟩,rfl⟩
     | false =>
      rw [e4] at o4
      by_cases e5:8 < rs.length
      ·have d5:decide ((8:Int) < ((rs.map aL).length:Int))=true:=decide_eq_true (by rw [er];omega)
       simp only [Bool.or_self,Bool.false_eq_true,if_false,if_pos e5]
       refine af.body (fn:=Tryz.f107) rfl rfl rfl rfl ?_
       refine aa (mu:=fun _=>false) ?_
       repeat' (first |refine u1 ?_ |refine u2 ?_ |refine af.call hc rfl rfl ?_ |refine af.call o1 rfl rfl ?_ |refine af.call o2 rfl rfl ?_ |refine af.call o3 rfl rfl ?_ |refine af.call o4 rfl rfl ?_ |fail)
       exact ⟨[_,_],⟨Fz.deep rfl,Fz.deep rfl,trivial⟩,rfl⟩
      ·have d5:decide ((8:Int) < ((rs.map aL).length:Int))=false:=decide_eq_false (by rw [er];omega)
       simp only [Bool.or_self,Bool.false_eq_true,if_false,if_neg e5]
       by_cases e6:0≤lE xm rs
       ·have d6:decide (0≤lE xm rs)=true:=decide_eq_true e6
        rw [if_pos e6]
        refine af.body (fn:=Tryz.f107) rfl rfl rfl rfl ?_
        refine aa (mu:=fun _=>false) ?_
        repeat' (first |refine u1 ?_ |refine u2 ?_ |refine af.call hc rfl rfl ?_ |refine af.call o1 rfl rfl ?_ |refine af.call o2 rfl rfl ?_ |refine af.call o3 rfl rfl ?_ |refine af.call o4 rfl rfl ?_ |refine af.call o5 rfl rfl ?_ |fail)
        exact ⟨[_,_],⟨Fz.deep rfl,Fz.deep rfl,trivial⟩,rfl⟩
       ·have d6:decide (0≤lE xm rs)=false:=decide_eq_false e6
        rw [if_neg e6]
        refine af.body (fn:=Tryz.f107) rfl rfl rfl rfl ?_
        refine aa (mu:=fun _=>false) ?_
        repeat' (first |refine u1 ?_ |refine u2 ?_ |refine af.call hc rfl rfl ?_ |refine af.call o1 rfl rfl ?_ |refine af.call o2 rfl rfl ?_ |refine af.call o3 rfl rfl ?_ |refine af.call o4 rfl rfl ?_ |refine af.call o5 rfl rfl ?_ |fail)
        exact ⟨[_,_],⟨Fz.deep rfl,Fz.deep rfl,trivial⟩,rfl⟩
 ·rw [if_pos (by omega)]
  have d0:(!decide ((ir s).2.2=0))=true:=by rw [decide_eq_false e0];rfl
  refine af.body (fn:=Tryz.f107) rfl rfl rfl rfl ?_
  refine aa (mu:=fun _=>false) ?_
  repeat' (first |refine u1 ?_ |refine u2 ?_ |refine af.call hc rfl rfl ?_ |fail)
  exact ⟨[_,_],⟨Fz.deep rfl,Fz.deep rfl,trivial⟩,rfl⟩
theorem qf (one:Bool) (s:aC) (h:s.Ok) (n:bk) (rs:List aP) (f:Bool) (hr:rs.length≤maxLen) :
  Pu one 65 [.ag (bf s),.ag (jW n),.sl (rs.map aL) f] (.tp [.ag (cx s n rs f),ah (cV s n rs).2]):=by
 have hn:=J1 one s h n rs f hr
 refine af.body (fn:=Tryz.f65) rfl rfl rfl rfl ?_
 refine aa (mu:=fun _=>false) ?_
 repeat' (first |refine u1 ?_ |refine u2 ?_ |refine af.call hn rfl rfl ?_ |fail)
 exact ⟨[_,_],⟨Fz.deep rfl,Fz.deep rfl,trivial⟩,rfl⟩
theorem nx (one:Bool) (s:aC) (n:bk) (rs:List aP) (f:Bool) (p:Pt) (hn:-100000≤n.pos.x∧n.pos.x≤100000∧-100000≤n.pos.y∧n.pos.y≤100000) (hp:-100000≤p.x∧p.x≤100000∧-100000≤p.y∧p.y≤100000) :
  Pu one 76 [.ag (cx s n rs f),.ag (NK p)] (.ag [ah (p.x - n.pos.x),ah (p.y - n.pos.y)]):=by
 obtain ⟨h1,h2,h3,h4⟩:=hn
 obtain ⟨h5,h6,h7,h8⟩:=hp
 refine af.body (fn:=Tryz.f76) rfl rfl rfl rfl ?_
 refine aa (mu:=fun _=>false) ?_
 repeat' (first |refine u1 ?_ |refine u2 ?_ |fail)
 exact ⟨[_],⟨Fz.deep rfl,trivial⟩,rfl⟩
def Gh (s:aC) (g m:Int):Int × Int :=
 if (ir s).2.2 ≠ 0 then (0,(ir s).2.2)
 else if aM 0 ((s.ax.length:Int) - 1) [g]=true then (0,4)
 else if aM 0 1440 [m]=true then (0,7)
 else (((s.ax.map gj.i9).getD g.toNat 0 * m+59) / 60,0)
structure aC.LO (s:aC):Prop where
 len:1≤s.ax.length∧s.ax.length≤4
 bW:1≤s.bW.lo∧s.bW.lo≤s.bW.hi∧s.bW.hi≤200
 clear:1≤s.clear.lo∧s.clear.lo≤s.clear.hi∧s.clear.hi≤300
 cand:∀ g ∈ s.ax,1≤g.cand.lo∧g.cand.lo≤g.cand.hi∧g.cand.hi≤g.cand.lo+40∧g.cand.hi≤5000
 i9:∀ g ∈ s.ax,0≤g.i9∧g.i9≤1000
 names:∀ i (hi:i < s.ax.length),ja s.ax[i].name=true∧(s.ax.take i).any (fun x=>vr x.name s.ax[i].name)=false
theorem fO {n:Nat} {e:Nat→Int}:(bT n e).2=0→∀ i,i < n→e i=0:=by
 unfold bT
 cases hf:(List.range n).find? (fun i=>e i != 0) with
 | none =>
  intro _ i hi
  have:=(List.find?_eq_none.1 hf) i (List.mem_range.2 hi)
  simpa using this
 | some k =>
  intro h0
  have:=List.find?_some hf
  simp at this
  exact absurd h0 this
theorem xo {s:aC} (h:(ir s).2.2=0):s.LO:=by
 unfold ir at h
 by_cases e1:aM 1 4 [(s.ax.length:Int)]=true
 ·rw [if_pos e1] at h;exact absurd h (by decide)
 rw [if_neg e1] at h
 by_cases e2:(aM 1 200 [s.bW.lo,s.bW.hi] || aM 1 300 [s.clear.lo,s.clear.hi])=true
 ·rw [if_pos e2] at h;exact absurd h (by decide)
 rw [if_neg e2] at h
 by_cases e3:(decide (s.bW.hi < s.bW.lo) || decide (s.clear.hi < s.clear.lo))=true
 ·rw [if_pos e3] at h;exact absurd h (by decide)
 rw [if_neg e3] at h
 have hz:(bT s.ax.length (dG s)).2=0:=by
  by_cases e4:(bT s.ax.length (dG s)).2=0
  ·exact e4
  ·rw [if_neg e4] at h;exact h
 have ha:=fO hz
 rw [Bool.not_eq_true] at e1 e2 e3
 rw [Bool.or_eq_false_iff] at e2 e3
 have b1:=(bH.1 e1) _ (List.mem_singleton_self _)
 have b2:=(bH.1 e2.1) s.bW.lo (by simp)
 have b3:=(bH.1 e2.1) s.bW.hi (by simp)
 have b4:=(bH.1 e2.2) s.clear.lo (by simp)
 have b5:=(bH.1 e2.2) s.clear.hi (by simp)
 have b6:=of_decide_eq_false e3.1
 have b7:=of_decide_eq_false e3.2
 have each:∀ i (hi:i < s.ax.length),gm s.ax[i] (s.ax.take i)=0:=by
  intro i hi
  have:=ha i hi
  unfold dG at this
  rw [List.getElem?_eq_getElem hi] at this
  exact this
 have parts:∀ i (hi:i < s.ax.length),(ja s.ax[i].name=true∧(s.ax.take i).any (fun x=>vr x.name s.ax[i].name)=false)∧(1≤s.ax[i].cand.lo∧s.ax[i].cand.lo≤s.ax[i].cand.hi∧s.ax[i].cand.hi≤s.ax[i].cand.lo+40∧s.ax[i].cand.hi≤5000)∧0≤s.ax[i].i9∧s.ax[i].i9≤1000:=by
  intro i hi
  have:=each i hi
  unfold gm at this
  generalize s.ax[i]=g at *
  by_cases q1:ja g.name=false
  ·rw [if_pos q1] at this;exact absurd this (by decide)
  rw [if_neg q1] at this
  by_cases q2:((s.ax.take i).any fun x=>vr x.name g.name)=true
  ·rw [if_pos q2] at this;exact absurd this (by decide)
  rw [if_neg q2] at this
  by_cases q3:(aM 1 5000 [g.cand.lo,g.cand.hi] || aM 0 1000 [g.i9])=true
  ·rw [if_pos q3] at this;exact absurd this (by decide)
  rw [if_neg q3] at this
  by_cases q4:aM g.cand.lo (g.cand.lo+40) [g.cand.hi]=true
  ·rw [if_pos q4] at this;exact absurd this (by decide)
  rw [Bool.not_eq_true] at q2 q3 q4
  rw [Bool.or_eq_false_iff] at q3
  have c1:=(bH.1 q3.1) g.cand.lo (by simp)
  have c2:=(bH.1 q3.1) g.cand.hi (by simp)
  have c3:=(bH.1 q3.2) g.i9 (by simp)
  have c4:=(bH.1 q4) g.cand.hi (by simp)
  refine ⟨⟨by simpa using q1,q2⟩,⟨?_,?_,?_,?_⟩,?_,?_⟩ <;> omega
 refine ⟨⟨?_,?_⟩,⟨?_,?_,?_⟩,⟨?_,?_,?_⟩,?_,?_,fun i hi=>(parts i hi).1⟩
 any_goals omega
 ·intro g hg
  obtain ⟨i,hi,rfl⟩:=List.getElem_of_mem hg
  exact (parts i hi).2.1
 ·intro g hg
  obtain ⟨i,hi,rfl⟩:=List.getElem_of_mem hg
  exact (parts i hi).2.2
theorem K8 (one:Bool) (s:aC) (h:s.Ok) (g m:Int):Pu one 8 [.ag (bf s),ah g,ah m] (.tp [ah (Gh s g m).1,ah (Gh s g m).2]):=by
 have hc:=vF one s h
 have eg:((s.ax.map bh).length:Int)=s.ax.length:=by simp
 have o1:=kA one 0 ((s.ax.length:Int) - 1) g
 have o2:=kA one 0 1440 m
 have ml:s.ax.length≤9223372036854775807:=Nat.le_trans h.len (by simp [maxLen])
 rw [←eg] at o1
 unfold Gh
 rw [←eg]
 by_cases e0:(ir s).2.2=0
 ·rw [if_neg (by omega)]
  have d0:decide ((ir s).2.2=0)=true:=decide_eq_true e0
  have hf:=xo e0
  rw [e0] at hc d0
  cases e1:aM 0 (((s.ax.map bh).length:Int) - 1) [g] with
  | true =>
   rw [e1] at o1
   refine af.body (fn:=Tryz.f8) rfl rfl rfl rfl ?_
   refine aa (mu:=fun _=>false) ?_
   repeat' (first |refine u1 ?_ |refine u2 ?_ |refine af.call hc rfl rfl ?_ |refine af.call o1 rfl rfl ?_ |fail)
   exact ⟨[_,_],⟨Fz.deep rfl,Fz.deep rfl,trivial⟩,rfl⟩
  | false =>
   rw [e1] at o1
   cases e2:aM 0 1440 [m] with
   | true =>
    rw [e2] at o2
    refine af.body (fn:=Tryz.f8) rfl rfl rfl rfl ?_
    refine aa (mu:=fun _=>false) ?_
    repeat' (first |refine u1 ?_ |refine u2 ?_ |refine af.call hc rfl rfl ?_ |refine af.call o1 rfl rfl ?_ |refine af.call o2 rfl rfl ?_ |fail)
    exact ⟨[_,_],⟨Fz.deep rfl,Fz.deep rfl,trivial⟩,rfl⟩
   | false =>
    rw [e2] at o2
    have b1:=(bH.1 e1) g (by simp)
    have b2:=(bH.1 e2) m (by simp)
    rw [eg] at b1
    obtain ⟨i,rfl⟩:∃ i:Nat,g=i:=⟨g.toNat,by omega⟩
    have hi:i < s.ax.length:=by omega
    have hat:(s.ax.map bh)[((i:Nat):Int).toNat]?=some (bh s.ax[i]):=cq hi
    have ho:=hf.i9 _ (List.getElem_mem hi)
    have eo:(s.ax.map gj.i9).getD ((i:Int).toNat) 0=s.ax[i].i9:=by simp [List.getD,hi]
    simp only [Bool.false_eq_true,if_false]
    rw [eo]
    generalize s.ax[i]=gr at *
    have hb:=fV (x:=gr.i9) (y:=m) (a:=1000) (b:=1440) (by omega) (by omega)
    have h0:0≤gr.i9 * m:=Int.mul_nonneg ho.1 b2.1
    refine af.body (fn:=Tryz.f8) rfl rfl rfl rfl ?_
    refine aa (mu:=fun _=>false) ?_
    repeat' (first |refine af.call hc rfl rfl ?_ |refine af.call o1 rfl rfl ?_ |refine af.call o2 rfl rfl ?_ |refine u1 ?_ |refine u2 ?_ |refine ⟨bh gr,⟨by omega,hat⟩,rfl,?_⟩ |fail)
    exact ⟨[_,_],⟨Fz.deep rfl,Fz.deep rfl,trivial⟩,rfl⟩
 ·rw [if_pos (by omega)]
  have d0:(!decide ((ir s).2.2=0))=true:=by rw [decide_eq_false e0];rfl
  refine af.body (fn:=Tryz.f8) rfl rfl rfl rfl ?_
  refine aa (mu:=fun _=>false) ?_
  repeat' (first |refine u1 ?_ |refine u2 ?_ |refine af.call hc rfl rfl ?_ |fail)
  exact ⟨[_,_],⟨Fz.deep rfl,Fz.deep rfl,trivial⟩,rfl⟩
end Go.Proofs.YtalcbebjpgfnfaaGreat
open Go Go.RM Go.AirLaw
namespace Go.Proofs.YtalcbebjpgfnfaaGreat
set_option maxRecDepth 100000
set_option maxHeartbeats 4000000
theorem mF {lo hi:Int} {s:Span}:aN lo hi s=7 ↔ aM lo hi [s.lo,s.hi]=true:=by
 unfold aN aM kM
 by_cases h1:lo≤s.lo <;> by_cases h2:s.lo≤hi <;> by_cases h3:lo≤s.hi <;> by_cases h4:s.hi≤hi <;> by_cases h5:s.hi < s.lo <;> simp [h1,h2,h3,h4,h5] <;> omega
theorem s0 {lo hi:Int} {s:Span} (h:aM lo hi [s.lo,s.hi]=false):aN lo hi s=if s.hi < s.lo then 2 else 0:=by
 have h7:¬ aN lo hi s=7:=fun e=>by rw [mF,h] at e;cases e
 unfold aN at h7 ⊢
 split
 ·rename_i hc;rw [if_pos hc] at h7;exact absurd rfl h7
 ·rfl
theorem Ih {s:aC} (h:kM (s.ax.length:Int) 1 4=false):ir s=(1,0,3):=by
 unfold ir
 rw [dK,h];rfl
theorem zw {s:aC} (h:kM (s.ax.length:Int) 1 4=true) (h7:aN 1 200 s.bW=7∨aN 1 300 s.clear=7):ir s=(1,0,7):=by
 unfold ir
 rw [dK,h,if_neg (by simp),if_pos]
 rw [Bool.or_eq_true]
 rcases h7 with h7|h7
 ·exact .inl (mF.1 h7)
 ·exact .inr (mF.1 h7)
theorem EW {s:aC} (h:kM (s.ax.length:Int) 1 4=true) (h1:¬ aN 1 200 s.bW=7) (h2:¬ aN 1 300 s.clear=7) (h0:aN 1 200 s.bW ≠ 0∨aN 1 300 s.clear ≠ 0):ir s=(1,0,2):=by
 have o1:aM 1 200 [s.bW.lo,s.bW.hi]=false:=by cases e:aM 1 200 [s.bW.lo,s.bW.hi] with|false=>rfl|true=>exact absurd (mF.2 e) h1
 have o2:aM 1 300 [s.clear.lo,s.clear.hi]=false:=by cases e:aM 1 300 [s.clear.lo,s.clear.hi] with|false=>rfl|true=>exact absurd (mF.2 e) h2
 rw [s0 o1,s0 o2] at h0
 unfold ir
 rw [dK,h,if_neg (by simp),o1,o2,if_neg (by simp),if_pos]
 rw [Bool.or_eq_true,decide_eq_true_eq,decide_eq_true_eq]
 rcases h0 with h0|h0
 ·left;apply Classical.byContradiction;intro hn;rw [if_neg hn] at h0;exact h0 rfl
 ·right;apply Classical.byContradiction;intro hn;rw [if_neg hn] at h0;exact h0 rfl
theorem zx {s:aC} (h:kM (s.ax.length:Int) 1 4=true) (h1:aN 1 200 s.bW=0) (h2:aN 1 300 s.clear=0):ir s=if (bT s.ax.length (dG s)).2=0 then (0,0,0) else (2,(bT s.ax.length (dG s)).1,(bT s.ax.length (dG s)).2):=by
 have o1:aM 1 200 [s.bW.lo,s.bW.hi]=false:=by cases e:aM 1 200 [s.bW.lo,s.bW.hi] with|false=>rfl|true=>rw [mF.2 e] at h1;cases h1
 have o2:aM 1 300 [s.clear.lo,s.clear.hi]=false:=by cases e:aM 1 300 [s.clear.lo,s.clear.hi] with|false=>rfl|true=>rw [mF.2 e] at h2;cases h2
 rw [s0 o1] at h1
 rw [s0 o2] at h2
 unfold ir
 rw [dK,h,if_neg (by simp),o1,o2,if_neg (by simp),if_neg]
 rw [Bool.or_eq_true,decide_eq_true_eq,decide_eq_true_eq]
 rintro (h|h)
 ·rw [if_pos h] at h1;cases h1
 ·rw [if_pos h] at h2;cases h2
theorem A0 {s:aC} (h:kM (s.ax.length:Int) 1 4=true) (h1:aN 1 200 s.bW=0) (h2:aN 1 300 s.clear=0) {k:Nat} {v:Int} (hk:k < s.ax.length) (hprev:∀ i,i < k→dG s i=0) (hv:dG s k=v) (h0:v ≠ 0):ir s=(2,(k:Int),v):=by
 rw [zx h h1 h2,gM hk hprev (by rw [hv];exact h0),hv,if_neg h0]
theorem J2 {s:aC} (h:kM (s.ax.length:Int) 1 4=true) (h1:aN 1 200 s.bW=0) (h2:aN 1 300 s.clear=0) (hprev:∀ i,i < s.ax.length→dG s i=0):ir s=(0,0,0):=by
 rw [zx h h1 h2,eW hprev];rfl
def A1 (g:gj) (before:List gj):Int :=
 if iA g.name (before.map (·.name)) ≠ 0 then iA g.name (before.map (·.name))
 else if kM g.i9 0 1000=false then 7
 else if aN 1 5000 g.cand ≠ 0 then aN 1 5000 g.cand
 else if g.cand.lo+40 < g.cand.hi then 2 else 0
theorem J3 (g:gj) (before:List gj):gm g before=A1 g before:=by
 unfold gm A1 iA
 rw [List.any_map]
 have e1:(List.any before ((fun x=>vr x g.name) ∘ fun x=>x.name))=before.any fun x=>vr x.name g.name:=rfl
 rw [e1]
 cases ja g.name with
 | false=>simp
 | true =>
  cases (before.any fun x=>vr x.name g.name) with
  | true=>simp
  | false =>
   simp only [Bool.true_eq_false,if_false,Bool.false_eq_true,ne_eq,not_true_eq_false]
   rw [dK,dK]
   cases e2:aM 1 5000 [g.cand.lo,g.cand.hi] with
   | true =>
    have h7:=mF.2 e2
    rw [h7]
    cases kM g.i9 0 1000 <;> simp
   | false =>
    rw [s0 e2]
    cases kM g.i9 0 1000 with
    | false=>simp
    | true =>
     unfold kM
     by_cases h1:g.cand.hi < g.cand.lo
     ·simp [h1];try omega
     ·by_cases h2:g.cand.lo+40 < g.cand.hi
      ·simp [h1,h2]
      ·simp [h1,h2];try omega
def gN (l:List gj):List AV:=l.map fun x=>ST x.name
theorem CJ {s:aC} {k:Nat} (h:k < s.ax.length):gN (s.ax.take (k+1))=gN (s.ax.take k)++[ST s.ax[k].name]:=by
 unfold gN
 rw [List.take_add_one,List.getElem?_eq_getElem h,List.map_append]
 rfl
theorem lK (l:List gj):((l.map (·.name)).map eS).flatten=gN l:=by
 induction l with
 | nil=>rfl
 | cons a l ih =>
  simp only [List.map_cons,List.flatten_cons,ih]
  rfl
theorem pe (l:List gj):bw (gN l)=true:=by
 induction l with
 | nil=>rfl
 | cons a l ih=>exact ih
theorem DX (n:Nat) (l:List gj):ig n (gN l)=true:=by
 induction l with
 | nil=>rfl
 | cons a l ih=>exact ih
theorem uh {B:List AB} (l:List gj) {n v c:Nat} (h:l.length=n):Fz (.cells (gN l) 1 v :: B) (.bX 0 v 0 n c) (.sl ((l.map (·.name)).map eS) false) :=
 Fz.row (es:=1) rfl (by unfold gN;simp;omega) (by simp;omega) (fun el hel=>by obtain ⟨x,_,rfl⟩:=List.mem_map.1 hel;rfl) (by rw [lK,List.drop_zero,List.take_of_length_le (by unfold gN;simp;omega)]) (by rw [lK];exact pe _) (fun h=>Bool.noConfusion h)
theorem zy (l:List gj) (v:Nat):([.cells (gN l) 1 v]:List AB).all (AB.di 1)=true:=by
 have h:AB.di 1 (.cells (gN l) 1 v)=true:=DX 1 l
 simp only [List.all_cons,List.all_nil,h,Bool.and_true]
theorem xp (one:Bool) (s:aC) (h:s.Ok):Pu one 4 [.ag (bf s)] (.tp [ah (ir s).1,ah (ir s).2.1,ah (ir s).2.2]):=by
 have eg:((s.ax.map bh).length:Int)=s.ax.length:=by simp
 have ml:s.ax.length≤9223372036854775807:=Nat.le_trans h.len (by simp [maxLen])
 have o1:=oY one ((s.ax.map bh).length:Int) 1 4
 have o2:=qd true s.bW 1 200
 have o3:=qd true s.clear 1 300
 rw [eg] at o1
 cases e1:kM (s.ax.length:Int) 1 4 with
 | false =>
  rw [Ih e1]
  rw [e1,←eg] at o1
  refine af.body (fn:=Tryz.f4) rfl rfl rfl rfl ?_
  refine aa (mu:=fun t=>Nat.beq t 53) ?_
  repeat' (first |refine u1 ?_ |fail)
  exact ⟨[_,_,_],⟨Fz.deep rfl,Fz.deep rfl,Fz.deep rfl,trivial⟩,rfl⟩
 | true =>
  have l4:s.ax.length≤4:=by rw [fm] at e1;omega
  rw [e1,←eg] at o1
  by_cases q1:aN 1 200 s.bW=7
  ·rw [zw e1 (.inl q1)]
   rw [q1] at o2
   have d0:decide ((7:Int)=7)=true:=by decide
   refine af.body (fn:=Tryz.f4) rfl rfl rfl rfl ?_
   refine aa (mu:=fun t=>Nat.beq t 53) ?_
   repeat' (first |((with_reducible show bl _ _ _ _ _ _ _ _);refine af.call o1 rfl rfl ?_) |refine ⟨_,o2,?_⟩ |refine ⟨_,o3,?_⟩ |refine u1 ?_ |refine u2 ?_ |fail)
   exact ⟨[_,_,_],⟨Fz.deep rfl,Fz.deep rfl,Fz.deep rfl,trivial⟩,rfl⟩
  have d1:decide (aN 1 200 s.bW=7)=false:=decide_eq_false q1
  by_cases q2:aN 1 300 s.clear=7
  ·rw [zw e1 (.inr q2)]
   rw [q2] at o3
   have d0:decide ((7:Int)=7)=true:=by decide
   refine af.body (fn:=Tryz.f4) rfl rfl rfl rfl ?_
   refine aa (mu:=fun t=>Nat.beq t 53) ?_
   repeat' (first |((with_reducible show bl _ _ _ _ _ _ _ _);refine af.call o1 rfl rfl ?_) |refine ⟨_,o2,?_⟩ |refine ⟨_,o3,?_⟩ |refine u1 ?_ |refine u2 ?_ |fail)
   exact ⟨[_,_,_],⟨Fz.deep rfl,Fz.deep rfl,Fz.deep rfl,trivial⟩,rfl⟩
  have d2:decide (aN 1 300 s.clear=7)=false:=decide_eq_false q2
  by_cases q3:aN 1 200 s.bW=0
  ·rw [q3] at o2 d1
   by_cases q4:aN 1 300 s.clear=0
   ·rw [q4] at o3 d2
    refine af.body (fn:=Tryz.f4) rfl rfl rfl rfl ?_
    refine aa (mu:=fun t=>Nat.beq t 53) ?_
    repeat' (first |((with_reducible show bl _ _ _ _ _ _ _ _);refine af.call o1 rfl rfl ?_) |refine ⟨_,o2,?_⟩ |refine ⟨_,o3,?_⟩ |refine u1 ?_ |refine u2 ?_ |fail)
    refine az.aK (ai.trans (ai.ue 1) (ai.MI (l:=[(1,.pt (bf s) 0),(7,.bX 0 (0,0,0).2.1 0 (0,0,0).1 (0,0,0).2.2),(8,ah ((0,0,0).1:Nat))]) (hp:=[.cells (gN (s.ax.take (0,0,0).1)) 1 (0,0,0).2.1]) 1 rfl ⟨dR.refl _,dR.ud,dR.refl _,trivial⟩ (Nat.zero_le _) rfl (zy _ _))) ?_
    refine az.loop (fun x:Nat × Nat × Nat=>x.1≤s.ax.length∧(∀ i,i < x.1→dG s i=0)∧(x.2.2=x.1∨x.2.2=x.1+1)) (fun x=>⟨aX [(1,.pt (bf s) 0),(7,.bX 0 x.2.1 0 x.1 x.2.2),(8,ah (x.1:Nat))],[.cells (gN (s.ax.take x.1)) 1 x.2.1],bN.none,false,0⟩) (fun x=>s.ax.length - x.1) ?_ (0,0,0) ⟨Nat.zero_le _,(fun i hi=>absurd hi (Nat.not_lt_zero _)),.inl rfl⟩
    rintro ⟨k,aD,c⟩ ⟨hk,hprev,hcap⟩
    dsimp only at hk hprev hcap
    show az _ _ _ _ ⟨aX [(1,.pt (bf s) 0),(7,.bX 0 (k,aD,c).2.1 0 (k,aD,c).1 (k,aD,c).2.2),(8,ah ((k,aD,c).1:Nat))],[.cells (gN (s.ax.take (k,aD,c).1)) 1 (k,aD,c).2.1],bN.none,false,0⟩ _
    dsimp only
    refine aa (mu:=fun t=>Nat.beq t 53) ?_
    by_cases hlt:k < s.ax.length
    ·have d5:decide ((k:Int) < ((s.ax.map bh).length:Int))=true:=decide_eq_true (by omega)
     have hat:(s.ax.map bh)[((k:Nat):Int).toNat]?=some (bh s.ax[k]):=cq hlt
     have hga:dG s k=A1 s.ax[k] (s.ax.take k):=by unfold dG;rw [List.getElem?_eq_getElem hlt];exact J3 _ _
     have hfr:=EP one ((s.ax.take k).map (·.name)) false s.ax[k].name (h.names _ (List.getElem_mem hlt)) (by simp [maxLen];omega)
     have o5:=oY one s.ax[k].i9 0 1000
     have o6:=qd one s.ax[k].cand 1 5000
     have htl:(s.ax.take k).length=k:=by rw [List.length_take];omega
     have hnt:=CJ hlt
     have hgl:(gN (s.ax.take k)).length=k:=by unfold gN;rw [List.length_map,htl]
     generalize s.ax[k]=g at *
     generalize hE:iA g.name ((s.ax.take k).map (·.name))=E at *
     have z00:decide ((0:Int)=0)=true:=by decide
     have z70:decide ((7:Int)=0)=false:=by decide
     have z20:decide ((2:Int)=0)=false:=by decide
     have n00:(!decide ((0:Int)=0))=false:=by decide
     have n70:(!decide ((7:Int)=0))=true:=by decide
     have n20:(!decide ((2:Int)=0))=true:=by decide
     unfold A1 at hga
     rw [hE] at hga
     repeat' (first |((with_reducible show RM.wpOp _ _ (.call _) _ _ _);refine RM.F5 (cs:=gN (s.ax.take k)) (n:=k) (els:=[eS g.name]) rfl rfl rfl rfl rfl (fun el hel=>by rw [List.mem_singleton.1 hel];rfl) rfl rfl (by rw [hgl];exact (Nat.mul_one _).symm) hcap (by simp only [List.length_singleton];omega) (fun v' c' hc'=>?_)) |refine u1 ?_ |((with_reducible show bl _ _ _ _ _ _ _ _);refine af.F3 hfr rfl (rM.two (Fz.deep rfl) (uh _ htl)) (ej.fl _) ?_) |fail)
     by_cases g1:E=0
     ·rw [if_neg (by omega)] at hga
      have d7:decide (E=0)=true:=decide_eq_true g1
      cases g2:kM g.i9 0 1000 with
      | false =>
       rw [g2] at o5 hga
       rw [if_pos rfl] at hga
       rw [A0 e1 q3 q4 hlt hprev hga (by decide)]
       repeat' (first |((with_reducible show bl _ _ _ _ _ _ _ _);refine af.call o5 rfl rfl ?_) |refine u1 ?_ |fail)
       exact ⟨[_,_,_],⟨Fz.deep rfl,Fz.deep rfl,Fz.deep rfl,trivial⟩,rfl⟩
      | true =>
       rw [g2] at o5 hga
       rw [if_neg (by simp)] at hga
       by_cases g3:aN 1 5000 g.cand=0
       ·rw [if_neg (by omega)] at hga
        rw [g3] at o6
        have bc:1≤g.cand.lo∧g.cand.lo≤5000:=by
         unfold aN at g3
         cases b1:kM g.cand.lo 1 5000 with
         | true=>exact fm.1 b1
         | false=>rw [b1] at g3;simp at g3
        by_cases g4:g.cand.lo+40 < g.cand.hi
        ·have d8:decide (g.cand.lo+40 < g.cand.hi)=true:=decide_eq_true g4
         rw [if_pos g4] at hga
         rw [A0 e1 q3 q4 hlt hprev hga (by decide)]
         repeat' (first |((with_reducible show bl _ _ _ _ _ _ _ _);first|refine af.call o5 rfl rfl ?_|refine af.call o6 rfl rfl ?_) |refine u1 ?_ |fail)
         exact ⟨[_,_,_],⟨Fz.deep rfl,Fz.deep rfl,Fz.deep rfl,trivial⟩,rfl⟩
        ·have d8:decide (g.cand.lo+40 < g.cand.hi)=false:=decide_eq_false g4
         rw [if_neg g4] at hga
         repeat' (first |((with_reducible show bl _ _ _ _ _ _ _ _);first|refine af.call o5 rfl rfl ?_|refine af.call o6 rfl rfl ?_) |refine u1 ?_ |fail)
         refine ⟨(k+1,v',c'),⟨hlt,(fun i hi=>?_),hc'⟩,(by dsimp only;omega),?_⟩
         ·by_cases hik:i=k
          ·subst hik;exact hga
          ·exact hprev i (by dsimp only at hi;omega)
         ·exact ai.to 1 (by dsimp only;rw [hnt];rfl) ⟨rfl,rfl,aH (by simp),trivial⟩ (Nat.zero_le _) rfl (zy _ _)
       ·rw [if_pos g3] at hga
        rw [A0 e1 q3 q4 hlt hprev hga g3]
        have d7:decide (aN 1 5000 g.cand=0)=false:=decide_eq_false g3
        have d7':(!decide (aN 1 5000 g.cand=0))=true:=by rw [d7];rfl
        repeat' (first |((with_reducible show bl _ _ _ _ _ _ _ _);first|refine af.call o5 rfl rfl ?_|refine af.call o6 rfl rfl ?_) |refine u1 ?_ |fail)
        exact ⟨[_,_,_],⟨Fz.deep rfl,Fz.deep rfl,Fz.deep rfl,trivial⟩,rfl⟩
     ·rw [if_pos g1] at hga
      rw [A0 e1 q3 q4 hlt hprev hga g1]
      have d7:decide (E=0)=false:=decide_eq_false g1
      have d7':(!decide (E=0))=true:=by rw [d7];rfl
      repeat' (first |refine u1 ?_ |fail)
      exact ⟨[_,_,_],⟨Fz.deep rfl,Fz.deep rfl,Fz.deep rfl,trivial⟩,rfl⟩
    ·have hkn:k=s.ax.length:=by omega
     have d5:decide ((k:Int) < ((s.ax.map bh).length:Int))=false:=decide_eq_false (by omega)
     subst hkn
     rw [J2 e1 q3 q4 hprev]
     repeat' (first |refine u1 ?_ |fail)
     exact ⟨[_,_,_],⟨Fz.deep rfl,Fz.deep rfl,Fz.deep rfl,trivial⟩,rfl⟩
   ·rw [EW e1 q1 q2 (.inr q4)]
    have d4:(!decide (aN 1 300 s.clear=0))=true:=by rw [decide_eq_false q4];rfl
    refine af.body (fn:=Tryz.f4) rfl rfl rfl rfl ?_
    refine aa (mu:=fun t=>Nat.beq t 53) ?_
    repeat' (first |((with_reducible show bl _ _ _ _ _ _ _ _);refine af.call o1 rfl rfl ?_) |refine ⟨_,o2,?_⟩ |refine ⟨_,o3,?_⟩ |refine u1 ?_ |refine u2 ?_ |fail)
    exact ⟨[_,_,_],⟨Fz.deep rfl,Fz.deep rfl,Fz.deep rfl,trivial⟩,rfl⟩
  ·rw [EW e1 q1 q2 (.inl q3)]
   have d3:(!decide (aN 1 200 s.bW=0))=true:=by rw [decide_eq_false q3];rfl
   refine af.body (fn:=Tryz.f4) rfl rfl rfl rfl ?_
   refine aa (mu:=fun t=>Nat.beq t 53) ?_
   repeat' (first |((with_reducible show bl _ _ _ _ _ _ _ _);refine af.call o1 rfl rfl ?_) |refine ⟨_,o2,?_⟩ |refine ⟨_,o3,?_⟩ |refine u1 ?_ |refine u2 ?_ |fail)
   exact ⟨[_,_,_],⟨Fz.deep rfl,Fz.deep rfl,Fz.deep rfl,trivial⟩,rfl⟩
end Go.Proofs.YtalcbebjpgfnfaaGreat

open Go Go.RM Go.AirLaw
namespace Go.Proofs.YtalcbebjpgfnfaaGreat
set_option maxRecDepth 100000
set_option maxHeartbeats 4000000
theorem J4 {s:aC} (g m:Int) (h:(ir s).2.2=0) (hg:0≤g∧g < s.ax.length) (hm:0≤m∧m≤1440):Gh s g m=(((s.ax.map gj.i9).getD g.toNat 0 * m+59) / 60,0):=by
 unfold Gh
 rw [if_neg (by omega),if_neg,if_neg]
 ·simp [aM];omega
 ·simp [aM];omega
end Go.Proofs.YtalcbebjpgfnfaaGreat
