/-
  Contracts of the program's functions and of the document's. Lemmas alone; their conditions stand in them.
-/
import Derived.Test.YtichbhmnhkegiaaGreatVK3
open Go Go.RM Go.AirLaw
namespace Go.Proofs.YtichbhmnhkegiaaGreat
set_option maxRecDepth 100000
set_option maxHeartbeats 4000000
def tf (r:aA):Bool:=bg (-30000) 30000 [r.pos.x,r.pos.y]
def bT (s:au) (n:aE) (rs:List aA):Int × Int :=
 if (ye s).2.2 ≠ 0 then (0,(ye s).2.2)
 else if bg 0 ((s.aj.length:Int) - 1) [n.cM]=true then (0,4)
 else if (bg (-30000) 30000 [n.pos.x,n.pos.y] || bg 0 31 [n.eT] || bg 1 32 [n.eK])=true then (0,7)
 else if 8 < rs.length then (0,3)
 else if 0≤nE tf rs then (nE tf rs,7) else (0,0)
abbrev bh (s:au) (n:aE) (rs:List aA) (f:Bool):List AV :=
 [.sl (s.aj.map aT) false,ah s.bW.lo,ah s.bW.hi,ah s.clear.lo,ah s.clear.hi,ah n.pos.x,ah n.pos.y,ah n.cM,ah n.eT,ah n.eK,.sl (rs.map az) f]
theorem DD (one:Bool) (r:aA):af TT TB one (.fn 77 [] []) [.ag (az r)] (BB (tf r)):=by
 have o1:=mw one (-30000) 30000 r.pos.x r.pos.y
 unfold tf
 refine af.body (fn:=Tryz.f77) rfl rfl rfl rfl ?_
 refine aa (mu:=fun _=>false) ?_
 repeat' (first |refine u1 ?_ |refine u2 ?_ |refine af.call o1 rfl rfl ?_ |fail)
 exact ⟨[_],⟨Fz.deep rfl,trivial⟩,rfl⟩
theorem DE (one:Bool) (s:au) (h:s.Ok) (n:aE) (rs:List aA) (f:Bool) (hr:rs.length≤maxLen) :
  Pu one 26 [.ag (bz s),.ag (gu n),.sl (rs.map az) f] (.tp [ah (bT s n rs).1,ah (bT s n rs).2]):=by
 have hc:=Ai one s h
 have eg:((s.aj.map aT).length:Int)=s.aj.length:=by simp
 have o1:=ir one 0 ((s.aj.length:Int) - 1) n.cM
 have o2:=mw one (-30000) 30000 n.pos.x n.pos.y
 have o3:=ir one 0 31 n.eT
 have o4:=ir one 1 32 n.eK
 have o5:=s5 one 77 [] [] rfl tf rs f hr (fun r _=>DD one r)
 have ml:s.aj.length≤9223372036854775807:=Nat.le_trans h.len (by simp [maxLen])
 have ml':rs.length≤9223372036854775807:=Nat.le_trans hr (by simp [maxLen])
 have er:((rs.map az).length:Int)=rs.length:=by simp
 rw [←eg] at o1
 unfold bT
 rw [←eg]
 by_cases e0:(ye s).2.2=0
 ·rw [if_neg (by omega)]
  have d0:decide ((ye s).2.2=0)=true:=decide_eq_true e0
  rw [e0] at hc d0
  cases e1:bg 0 (((s.aj.map aT).length:Int) - 1) [n.cM] with
  | true =>
   rw [e1] at o1
   refine af.body (fn:=Tryz.f26) rfl rfl rfl rfl ?_
   refine aa (mu:=fun _=>false) ?_
   repeat' (first |refine u1 ?_ |refine u2 ?_ |refine af.call hc rfl rfl ?_ |refine af.call o1 rfl rfl ?_ |fail)
   exact ⟨[_,_],⟨Fz.deep rfl,Fz.deep rfl,trivial⟩,rfl⟩
  | false =>
   rw [e1] at o1
   cases e2:bg (-30000) 30000 [n.pos.x,n.pos.y] with
   | true =>
    rw [e2] at o2
    refine af.body (fn:=Tryz.f26) rfl rfl rfl rfl ?_
    refine aa (mu:=fun _=>false) ?_
    repeat' (first |refine u1 ?_ |refine u2 ?_ |refine af.call hc rfl rfl ?_ |refine af.call o1 rfl rfl ?_ |refine af.call o2 rfl rfl ?_ |fail)
    exact ⟨[_,_],⟨Fz.deep rfl,Fz.deep rfl,trivial⟩,rfl⟩
   | false =>
    rw [e2] at o2
    cases e3:bg 0 31 [n.eT] with
    | true =>
     rw [e3] at o3
     refine af.body (fn:=Tryz.f26) rfl rfl rfl rfl ?_
     refine aa (mu:=fun _=>false) ?_
     repeat' (first |refine u1 ?_ |refine u2 ?_ |refine af.call hc rfl rfl ?_ |refine af.call o1 rfl rfl ?_ |refine af.call o2 rfl rfl ?_ |refine af.call o3 rfl rfl ?_ |fail)
     exact ⟨[_,_],⟨Fz.deep rfl,Fz.deep rfl,trivial⟩,rfl⟩
    | false =>
     rw [e3] at o3
     cases e4:bg 1 32 [n.eK] with
     | true =>
      rw [e4] at o4
      refine af.body (fn:=Tryz.f26) rfl rfl rfl rfl ?_
      refine aa (mu:=fun _=>false) ?_
      repeat' (first |refine u1 ?_ |refine u2 ?_ |refine af.call hc rfl rfl ?_ |refine af.call o1 rfl rfl ?_ |refine af.call o2 rfl rfl ?_ |refine af.call o3 rfl rfl ?_ |refine af.call o4 rfl rfl ?_ |fail)
      exact ⟨[_,_],⟨Fz.deep rfl,Fz.deep rfl,trivial⟩,rfl⟩
     | false =>
      rw [e4] at o4
      by_cases e5:8 < rs.length
      ·have d5:decide ((8:Int) < ((rs.map az).length:Int))=true:=decide_eq_true (by rw [er];omega)
       simp only [Bool.or_self,Bool.false_eq_true,if_false,if_pos e5]
       refine af.body (fn:=Tryz.f26) rfl rfl rfl rfl ?_
       refine aa (mu:=fun _=>false) ?_
       repeat' (first |refine u1 ?_ |refine u2 ?_ |refine af.call hc rfl rfl ?_ |refine af.call o1 rfl rfl ?_ |refine af.call o2 rfl rfl ?_ |refine af.call o3 rfl rfl ?_ |refine af.call o4 rfl rfl ?_ |fail)
       exact ⟨[_,_],⟨Fz.deep rfl,Fz.deep rfl,trivial⟩,rfl⟩
      ·have d5:decide ((8:Int) < ((rs.map az).length:Int))=false:=decide_eq_false (by rw [er];omega)
       simp only [Bool.or_self,Bool.false_eq_true,if_false,if_neg e5]
       by_cases e6:0≤nE tf rs
       ·have d6:decide (0≤nE tf rs)=true:=decide_eq_true e6
        rw [if_pos e6]
        refine af.body (fn:=Tryz.f26) rfl rfl rfl rfl ?_
        refine aa (mu:=fun _=>false) ?_
        repeat' (first |refine u1 ?_ |refine u2 ?_ |refine af.call hc rfl rfl ?_ |refine af.call o1 rfl rfl ?_ |refine af.call o2 rfl rfl ?_ |refine af.call o3 rfl rfl ?_ |refine af.call o4 rfl rfl ?_ |refine af.call o5 rfl rfl ?_ |fail)
        exact ⟨[_,_],⟨Fz.deep rfl,Fz.deep rfl,trivial⟩,rfl⟩
       ·have d6:decide (0≤nE tf rs)=false:=decide_eq_false e6
        rw [if_neg e6]
        refine af.body (fn:=Tryz.f26) rfl rfl rfl rfl ?_
        refine aa (mu:=fun _=>false) ?_
        repeat' (first |refine u1 ?_ |refine u2 ?_ |refine af.call hc rfl rfl ?_ |refine af.call o1 rfl rfl ?_ |refine af.call o2 rfl rfl ?_ |refine af.call o3 rfl rfl ?_ |refine af.call o4 rfl rfl ?_ |refine af.call o5 rfl rfl ?_ |fail)
        exact ⟨[_,_],⟨Fz.deep rfl,Fz.deep rfl,trivial⟩,rfl⟩
 ·rw [if_pos (by omega)]
  have d0:(!decide ((ye s).2.2=0))=true:=by rw [decide_eq_false e0];rfl
  refine af.body (fn:=Tryz.f26) rfl rfl rfl rfl ?_
  refine aa (mu:=fun _=>false) ?_
  repeat' (first |refine u1 ?_ |refine u2 ?_ |refine af.call hc rfl rfl ?_ |fail)
  exact ⟨[_,_],⟨Fz.deep rfl,Fz.deep rfl,trivial⟩,rfl⟩
theorem mz (one:Bool) (s:au) (h:s.Ok) (n:aE) (rs:List aA) (f:Bool) (hr:rs.length≤maxLen) :
  Pu one 79 [.ag (bz s),.ag (gu n),.sl (rs.map az) f] (.tp [.ag (bh s n rs f),ah (bT s n rs).2]):=by
 have hn:=DE one s h n rs f hr
 refine af.body (fn:=Tryz.f79) rfl rfl rfl rfl ?_
 refine aa (mu:=fun _=>false) ?_
 repeat' (first |refine u1 ?_ |refine u2 ?_ |refine af.call hn rfl rfl ?_ |fail)
 exact ⟨[_,_],⟨Fz.deep rfl,Fz.deep rfl,trivial⟩,rfl⟩
theorem ku (one:Bool) (s:au) (n:aE) (rs:List aA) (f:Bool) (p:Pt) (hn:-100000≤n.pos.x∧n.pos.x≤100000∧-100000≤n.pos.y∧n.pos.y≤100000) (hp:-100000≤p.x∧p.x≤100000∧-100000≤p.y∧p.y≤100000) :
  Pu one 91 [.ag (bh s n rs f),.ag (FG p)] (.ag [ah (p.x - n.pos.x),ah (p.y - n.pos.y)]):=by
 obtain ⟨h1,h2,h3,h4⟩:=hn
 obtain ⟨h5,h6,h7,h8⟩:=hp
 refine af.body (fn:=Tryz.f91) rfl rfl rfl rfl ?_
 refine aa (mu:=fun _=>false) ?_
 repeat' (first |refine u1 ?_ |refine u2 ?_ |fail)
 exact ⟨[_],⟨Fz.deep rfl,trivial⟩,rfl⟩
def DF (s:au) (g m:Int):Int × Int :=
 if (ye s).2.2 ≠ 0 then (0,(ye s).2.2)
 else if bg 0 ((s.aj.length:Int) - 1) [g]=true then (0,4)
 else if bg 0 1440 [m]=true then (0,7)
 else (((s.aj.map lu.iq).getD g.toNat 0 * m+59) / 60,0)
structure au.EC (s:au):Prop where
 len:1≤s.aj.length∧s.aj.length≤4
 bW:1≤s.bW.lo∧s.bW.lo≤s.bW.hi∧s.bW.hi≤200
 clear:1≤s.clear.lo∧s.clear.lo≤s.clear.hi∧s.clear.hi≤300
 cand:∀ g ∈ s.aj,1≤g.cand.lo∧g.cand.lo≤g.cand.hi∧g.cand.hi≤g.cand.lo+40∧g.cand.hi≤5000
 iq:∀ g ∈ s.aj,0≤g.iq∧g.iq≤1000
 names:∀ i (hi:i < s.aj.length),m7 s.aj[i].name=true∧(s.aj.take i).any (fun x=>DC x.name s.aj[i].name)=false
theorem yf {n:Nat} {e:Nat→Int}:(gT n e).2=0→∀ i,i < n→e i=0:=by
 unfold gT
 cases hf:(List.range n).find? (fun i=>e i != 0) with
 | none =>
  intro _ i hi
  have:=(List.find?_eq_none.1 hf) i (List.mem_range.2 hi)
  simpa using this
 | some k =>
  intro h0
  have:=List.find?_some hf
  simp at this
  exact absurd h0 this
theorem yg {s:au} (h:(ye s).2.2=0):s.EC:=by
 unfold ye at h
 by_cases e1:bg 1 4 [(s.aj.length:Int)]=true
 ·rw [if_pos e1] at h;exact absurd h (by decide)
 rw [if_neg e1] at h
 by_cases e2:(bg 1 200 [s.bW.lo,s.bW.hi] || bg 1 300 [s.clear.lo,s.clear.hi])=true
 ·rw [if_pos e2] at h;exact absurd h (by decide)
 rw [if_neg e2] at h
 by_cases e3:(decide (s.bW.hi < s.bW.lo) || decide (s.clear.hi < s.clear.lo))=true
 ·rw [if_pos e3] at h;exact absurd h (by decide)
 rw [if_neg e3] at h
 have hz:(gT s.aj.length (fj s)).2=0:=by
  by_cases e4:(gT s.aj.length (fj s)).2=0
  ·exact e4
  ·rw [if_neg e4] at h;exact h
 have ha:=yf hz
 rw [Bool.not_eq_true] at e1 e2 e3
 rw [Bool.or_eq_false_iff] at e2 e3
 have b1:=(aI.1 e1) _ (List.mem_singleton_self _)
 have b2:=(aI.1 e2.1) s.bW.lo (by simp)
 have b3:=(aI.1 e2.1) s.bW.hi (by simp)
 have b4:=(aI.1 e2.2) s.clear.lo (by simp)
 have b5:=(aI.1 e2.2) s.clear.hi (by simp)
 have b6:=of_decide_eq_false e3.1
 have b7:=of_decide_eq_false e3.2
 have each:∀ i (hi:i < s.aj.length),e8 s.aj[i] (s.aj.take i)=0:=by
  intro i hi
  have:=ha i hi
  unfold fj at this
  rw [List.getElem?_eq_getElem hi] at this
  exact this
 have parts:∀ i (hi:i < s.aj.length),(m7 s.aj[i].name=true∧(s.aj.take i).any (fun x=>DC x.name s.aj[i].name)=false)∧(1≤s.aj[i].cand.lo∧s.aj[i].cand.lo≤s.aj[i].cand.hi∧s.aj[i].cand.hi≤s.aj[i].cand.lo+40∧s.aj[i].cand.hi≤5000)∧0≤s.aj[i].iq∧s.aj[i].iq≤1000:=by
  intro i hi
  have:=each i hi
  unfold e8 at this
  generalize s.aj[i]=g at *
  by_cases q1:m7 g.name=false
  ·rw [if_pos q1] at this;exact absurd this (by decide)
  rw [if_neg q1] at this
  by_cases q2:((s.aj.take i).any fun x=>DC x.name g.name)=true
  ·rw [if_pos q2] at this;exact absurd this (by decide)
  rw [if_neg q2] at this
  by_cases q3:(bg 1 5000 [g.cand.lo,g.cand.hi] || bg 0 1000 [g.iq])=true
  ·rw [if_pos q3] at this;exact absurd this (by decide)
  rw [if_neg q3] at this
  by_cases q4:bg g.cand.lo (g.cand.lo+40) [g.cand.hi]=true
  ·rw [if_pos q4] at this;exact absurd this (by decide)
  rw [Bool.not_eq_true] at q2 q3 q4
  rw [Bool.or_eq_false_iff] at q3
  have c1:=(aI.1 q3.1) g.cand.lo (by simp)
  have c2:=(aI.1 q3.1) g.cand.hi (by simp)
  have c3:=(aI.1 q3.2) g.iq (by simp)
  have c4:=(aI.1 q4) g.cand.hi (by simp)
  refine ⟨⟨by simpa using q1,q2⟩,⟨?_,?_,?_,?_⟩,?_,?_⟩ <;> omega
 refine ⟨⟨?_,?_⟩,⟨?_,?_,?_⟩,⟨?_,?_,?_⟩,?_,?_,fun i hi=>(parts i hi).1⟩
 any_goals omega
 ·intro g hg
  obtain ⟨i,hi,rfl⟩:=List.getElem_of_mem hg
  exact (parts i hi).2.1
 ·intro g hg
  obtain ⟨i,hi,rfl⟩:=List.getElem_of_mem hg
  exact (parts i hi).2.2
theorem Fj (one:Bool) (s:au) (h:s.Ok) (g m:Int):Pu one 21 [.ag (bz s),ah g,ah m] (.tp [ah (DF s g m).1,ah (DF s g m).2]):=by
 have hc:=Ai one s h
 have eg:((s.aj.map aT).length:Int)=s.aj.length:=by simp
 have o1:=ir one 0 ((s.aj.length:Int) - 1) g
 have o2:=ir one 0 1440 m
 have ml:s.aj.length≤9223372036854775807:=Nat.le_trans h.len (by simp [maxLen])
 rw [←eg] at o1
 unfold DF
 rw [←eg]
 by_cases e0:(ye s).2.2=0
 ·rw [if_neg (by omega)]
  have d0:decide ((ye s).2.2=0)=true:=decide_eq_true e0
  have hf:=yg e0
  rw [e0] at hc d0
  cases e1:bg 0 (((s.aj.map aT).length:Int) - 1) [g] with
  | true =>
   rw [e1] at o1
   refine af.body (fn:=Tryz.f21) rfl rfl rfl rfl ?_
   refine aa (mu:=fun _=>false) ?_
   repeat' (first |refine u1 ?_ |refine u2 ?_ |refine af.call hc rfl rfl ?_ |refine af.call o1 rfl rfl ?_ |fail)
   exact ⟨[_,_],⟨Fz.deep rfl,Fz.deep rfl,trivial⟩,rfl⟩
  | false =>
   rw [e1] at o1
   cases e2:bg 0 1440 [m] with
   | true =>
    rw [e2] at o2
    refine af.body (fn:=Tryz.f21) rfl rfl rfl rfl ?_
    refine aa (mu:=fun _=>false) ?_
    repeat' (first |refine u1 ?_ |refine u2 ?_ |refine af.call hc rfl rfl ?_ |refine af.call o1 rfl rfl ?_ |refine af.call o2 rfl rfl ?_ |fail)
    exact ⟨[_,_],⟨Fz.deep rfl,Fz.deep rfl,trivial⟩,rfl⟩
   | false =>
    rw [e2] at o2
    have b1:=(aI.1 e1) g (by simp)
    have b2:=(aI.1 e2) m (by simp)
    rw [eg] at b1
    obtain ⟨i,rfl⟩:∃ i:Nat,g=i:=⟨g.toNat,by omega⟩
    have hi:i < s.aj.length:=by omega
    have hat:(s.aj.map aT)[((i:Nat):Int).toNat]?=some (aT s.aj[i]):=fm hi
    have ho:=hf.iq _ (List.getElem_mem hi)
    have eo:(s.aj.map lu.iq).getD ((i:Int).toNat) 0=s.aj[i].iq:=by simp [List.getD,hi]
    simp only [Bool.false_eq_true,if_false]
    rw [eo]
    generalize s.aj[i]=gr at *
    have hb:=mq (x:=gr.iq) (y:=m) (a:=1000) (b:=1440) (by omega) (by omega)
    have h0:0≤gr.iq * m:=Int.mul_nonneg ho.1 b2.1
    refine af.body (fn:=Tryz.f21) rfl rfl rfl rfl ?_
    refine aa (mu:=fun _=>false) ?_
    repeat' (first |refine af.call hc rfl rfl ?_ |refine af.call o1 rfl rfl ?_ |refine af.call o2 rfl rfl ?_ |refine u1 ?_ |refine u2 ?_ |refine ⟨aT gr,⟨by omega,hat⟩,rfl,?_⟩ |fail)
    exact ⟨[_,_],⟨Fz.deep rfl,Fz.deep rfl,trivial⟩,rfl⟩
 ·rw [if_pos (by omega)]
  have d0:(!decide ((ye s).2.2=0))=true:=by rw [decide_eq_false e0];rfl
  refine af.body (fn:=Tryz.f21) rfl rfl rfl rfl ?_
  refine aa (mu:=fun _=>false) ?_
  repeat' (first |refine u1 ?_ |refine u2 ?_ |refine af.call hc rfl rfl ?_ |fail)
  exact ⟨[_,_],⟨Fz.deep rfl,Fz.deep rfl,trivial⟩,rfl⟩
end Go.Proofs.YtichbhmnhkegiaaGreat
open Go Go.RM Go.AirLaw
namespace Go.Proofs.YtichbhmnhkegiaaGreat
set_option maxRecDepth 100000
set_option maxHeartbeats 4000000
def bU (s:Span):Nat:=(s.hi - s.lo+1).toNat
def cU (s:Span):List Int:=(List.range (bU s)).map fun i=>s.lo+(i:Nat)
theorem bV (s:Span):(cU s).length=bU s:=by simp [cU]
theorem Aj {s:Span} {i:Nat} (h:i < bU s):(cU s)[i]?=some (s.lo+(i:Nat)):=by simp [cU,h]
theorem kz (one:Bool) (s:Span):Pu one 97 [.ag (bw s)] (.fn 131 [] [.pt (bw s) 0]):=by
 refine af.body (fn:=Tryz.f97) rfl rfl rfl rfl ?_
 refine aa (mu:=fun _=>false) ?_
 repeat' (first |refine u1 ?_ |refine u2 ?_ |fail)
 exact ⟨[_],⟨Fz.deep rfl,trivial⟩,rfl⟩
theorem kA (one:Bool) (s:Span) (h:-1000000≤s.lo∧s.lo≤s.hi∧s.hi≤1000000):jQ TT TB one (.fn 131 [] [.pt (bw s) 0]) ((cU s).map eI):=by
 have en:((bU s:Nat):Int)=s.hi - s.lo+1:=by unfold bU;omega
 refine jQ.body (fn:=Tryz.f131) rfl rfl rfl rfl (fun x hx a ha=>?_) fun u J Stop hy=>?_
 ·obtain ⟨y,_,rfl⟩:=List.mem_map.1 hx
  simp only [List.mem_cons,List.not_mem_nil,or_false] at ha
  subst ha
  exact dP.fl _
 rw [List.length_map,bV]
 refine aa (mu:=fun _=>false) ?_
 repeat' (first |refine u1 ?_ |refine u2 ?_ |fail)
 rw [←en]
 refine av.aY (ai.to (l:=[(0,.oq u),(1,.pt (bw s) 0),(9,ah (bU s)),(10,ah ((0:Nat):Int))]) (hp:=[]) 0 rfl ⟨rfl,rfl,rfl,rfl,trivial⟩ (Nat.zero_le _) rfl rfl) ?_
 refine av.loop (fun m:Nat=>m≤bU s) (fun m=>⟨aP [(0,.oq u),(1,.pt (bw s) 0),(9,ah (bU s)),(10,ah (m:Int))],[],J m,false,0⟩) (fun m=>bU s - m) ?_ 0 (Nat.zero_le _)
 intro m hm
 refine RM.dA (mu:=fun _=>false) ?_
 repeat' (first |refine u1 ?_ |fail)
 refine RM.dA (mu:=fun _=>false) ?_
 refine RM.e1 rfl ⟨fun hc=>?_,fun hc=>?_⟩
 ·have hm1:m < bU s:=by simpa using hc
  have hyx:=hy m (eI (s.lo+(m:Nat))) (by rw [List.getElem?_map,Aj hm1];rfl)
  repeat' (first |refine u1 ?_ |fail)
  refine av.seq ?_
  refine av.block ?_
  refine RM.dA (mu:=fun _=>false) ?_
  repeat' (first |refine u1 ?_ |fail)
  refine RM.dA (mu:=fun _=>false) ?_
  repeat' (first |refine u1 ?_ |refine u2 ?_ |fail)
  refine aK.mono (hyx _) (fun a hp' amb' hq=>?_)
  obtain ⟨rfl,b,rfl,hb⟩:=hq
  rcases hb with ⟨rfl,rfl⟩|⟨rfl,hstop⟩
  ·repeat' (first |refine u1 ?_ |fail)
   refine aa (mu:=fun _=>false) ?_
   repeat' (first |refine u1 ?_ |fail)
   refine aa (mu:=fun _=>false) ?_
   repeat' (first |refine u1 ?_ |fail)
   refine ⟨m+1,hm1,(by dsimp only;omega),?_⟩
   exact ai.to 0 rfl ⟨rfl,rfl,rfl,cG (by simp),trivial⟩ (Nat.zero_le _) rfl rfl
  ·repeat' (first |refine u1 ?_ |fail)
   refine aa (mu:=fun _=>false) ?_
   repeat' (first |refine u1 ?_ |fail)
   exact Or.inr hstop
 ·have hm1:m=bU s:=(by have:¬ m < bU s:=(by simpa using hc);omega)
  subst hm1
  repeat' (first |refine u1 ?_ |fail)
  exact Or.inl rfl
end Go.Proofs.YtichbhmnhkegiaaGreat
open Go Go.RM Go.AirLaw
namespace Go.Proofs.YtichbhmnhkegiaaGreat
set_option maxRecDepth 100000
set_option maxHeartbeats 4000000
theorem u0 {st:bM} {l:List (Nat × AV)} {hp:List AB} {am:bq} (n:Nat) (hh:st.hp.take n=hp) (hs:uS st.fr l) (hn:st.fl≤n) (hl:(l.all fun p=>p.2.cO n)=true) (hb:hp.all (AB.cO n)=true) (ha:st.ay=am):ai st ⟨aP l,hp,am,st.rd,st.fl⟩:=by
 subst ha
 exact ai.to n hh hs hn hl hb
abbrev iu (x:Int × Int):List AV:=[.ag [ah x.1,ah x.2]]
def gU (mk:Int→Int→Int × Int) (xs bs:List Int):List (Int × Int):=xs.flatMap fun a=>bs.map (mk a)
theorem kB (mk:Int→Int→Int × Int) (xs bs:List Int):(gU mk xs bs).length=xs.length * bs.length:=by
 unfold gU
 rw [List.length_flatMap]
 induction xs with
 | nil=>simp
 | cons a l ih=>simp only [List.map_cons,List.sum_cons,List.length_map,List.length_cons] at ih ⊢;rw [ih,Nat.add_mul];omega
theorem yh {mk:Int→Int→Int × Int} {bs:List Int} {b:Int} {j:Nat} (hb:bs[j]?=some b):∀ {xs:List Int} {i:Nat} {a:Int},xs[i]?=some a→(gU mk xs bs)[i * bs.length+j]?=some (mk a b):=by
 have hj:j < bs.length:=by
  by_cases h:j < bs.length
  ·exact h
  ·rw [List.getElem?_eq_none (by omega)] at hb;cases hb
 intro xs
 induction xs with
 | nil=>intro i a h;simp at h
 | cons x l ih =>
  intro i a h
  have e:gU mk (x :: l) bs=bs.map (mk x)++gU mk l bs:=by simp [gU]
  rw [e]
  cases i with
  | zero =>
   simp only [List.getElem?_cons_zero,Option.some.injEq] at h
   subst h
   rw [Nat.zero_mul,Nat.zero_add,List.getElem?_append_left (by simpa using hj),List.getElem?_map,hb]
   rfl
  | succ i =>
   simp only [List.getElem?_cons_succ] at h
   rw [List.getElem?_append_right (by simp;rw [Nat.add_mul];omega),List.length_map]
   rw [show (i+1) * bs.length+j - bs.length=i * bs.length+j by rw [Nat.add_mul];omega]
   exact ih h
def EZ (c r:Int):Int × Int:=(c,r)
def E6 (l w:Int):Int × Int:=(l,w % 32)
theorem Fk (one:Bool) (c r:Int):af TT TB one (.fn 122 [] []) [ah c,ah r] (.ag [ah (EZ c r).1,ah (EZ c r).2]):=by
 refine af.body (fn:=Tryz.f122) rfl rfl rfl rfl ?_
 refine aa (mu:=fun _=>false) ?_
 repeat' (first |refine u1 ?_ |refine u2 ?_ |fail)
 exact ⟨[_],⟨Fz.deep rfl,trivial⟩,rfl⟩
theorem Fl (one:Bool) (l w:Int) (hw:0≤w∧w≤1000):af TT TB one (.fn 125 [] []) [ah l,ah w] (.ag [ah (E6 l w).1,ah (E6 l w).2]):=by
 refine af.body (fn:=Tryz.f125) rfl rfl rfl rfl ?_
 refine aa (mu:=fun _=>false) ?_
 repeat' (first |refine u1 ?_ |refine u2 ?_ |fail)
 exact ⟨[_],⟨Fz.deep rfl,trivial⟩,rfl⟩
theorem Cw (one:Bool) (a b:Span):Pu one 121 [.fn 131 [] [.pt (bw a) 0],.fn 131 [] [.pt (bw b) 0],.fn 122 [] []] (.fn 143 [] [.pt [.fn 131 [] [.pt (bw a) 0]] 0,.pt [.fn 131 [] [.pt (bw b) 0]] 0,.pt [.fn 122 [] []] 0]):=by
 refine af.body (fn:=Tryz.f121) rfl rfl rfl rfl ?_
 refine aa (mu:=fun _=>false) ?_
 repeat' (first |refine u1 ?_ |refine u2 ?_ |fail)
 exact ⟨[_],⟨Fz.deep rfl,trivial⟩,rfl⟩
theorem yl (one:Bool) (a b:Span) (ha:-1000000≤a.lo∧a.lo≤a.hi∧a.hi≤1000000) (hb:-1000000≤b.lo∧b.lo≤b.hi∧b.hi≤1000000)  :
  jQ TT TB one (.fn 143 [] [.pt [.fn 131 [] [.pt (bw a) 0]] 0,.pt [.fn 131 [] [.pt (bw b) 0]] 0,.pt [.fn 122 [] []] 0]) ((gU EZ (cU a) (cU b)).map iu):=by
 have ga:=kA one a ha
 have gb:=kA one b hb
 refine jQ.body (fn:=Tryz.f143) rfl rfl rfl rfl (fun x hx y hy=>?_) fun u J Stop hy=>?_
 ·obtain ⟨z,_,rfl⟩:=List.mem_map.1 hx
  simp only [List.mem_cons,List.not_mem_nil,or_false] at hy
  subst hy
  exact dP.ag fun b hb=>by simp only [List.mem_cons,List.not_mem_nil,or_false] at hb;rcases hb with rfl|rfl <;> exact dP.fl _
 rw [List.length_map,kB,bV,bV]
 have hy':∀ {i j:Nat} {x y:Int},(cU a)[i]?=some x→(cU b)[j]?=some y→∀ hp,aK TT TB one (.oq u) (iu (EZ x y)) hp (J (i * bU b+j)) fun v hp' a'=>hp'=hp∧∃ b',v=.fl (.bool b')∧zj (J (i * bU b+j+1)) Stop b' a':=by
  intro i j x y hx hyy
  have:=hy (i * bU b+j) (iu (EZ x y)) (by rw [List.getElem?_map,←bV b,yh hyy hx];rfl)
  exact this
 refine RM.dA (mu:=fun _=>false) ?_
 repeat' (first |refine u1 ?_ |refine u2 ?_ |fail)
 refine RM.dA (mu:=fun _=>false) ?_
 repeat' (first |refine u1 ?_ |refine u2 ?_ |fail)
 refine av.block ?_
 refine av.range (fun _=>[]) (fun i=>J (i * bU b)) (fun _=>True) rfl ga rfl (congrArg J (Nat.zero_mul _)) trivial (fun i x hx _=>?_) (fun _=>?_)
 ·obtain ⟨x,hxi,rfl⟩:∃ y,(cU a)[i]?=some y∧x=eI y:=by
   rw [List.getElem?_map,Option.map_eq_some_iff] at hx
   obtain ⟨y,h1,h2⟩:=hx
   exact ⟨y,h1,h2.symm⟩
  refine ⟨rfl,?_⟩
  refine aa (mu:=fun _=>false) ?_
  repeat' (first |refine u1 ?_ |refine u2 ?_ |fail)
  refine av.block ?_
  refine RM.dA (mu:=fun _=>false) ?_
  repeat' (first |refine u1 ?_ |refine u2 ?_ |fail)
  refine av.block ?_
  refine av.range (fun _=>[.cells [ah x] 0 0]) (fun j=>J (i * bU b+j)) (fun _=>True) rfl gb rfl rfl trivial (fun j y hyj _=>?_) (fun _=>?_)
  ·obtain ⟨y,hyk,rfl⟩:∃ z,(cU b)[j]?=some z∧y=eI z:=by
    rw [List.getElem?_map,Option.map_eq_some_iff] at hyj
    obtain ⟨z,h1,h2⟩:=hyj
    exact ⟨z,h1,h2.symm⟩
   refine ⟨rfl,?_⟩
   have hyx:=hy' hxi hyk
   have hmk:=Fk true x y
   refine aa (mu:=fun _=>false) ?_
   repeat' (first |refine u1 ?_ |refine u2 ?_ |fail)
   refine av.block ?_
   refine RM.dA (mu:=fun _=>false) ?_
   repeat' (first |refine ⟨_,_,.inl ⟨rfl,rfl⟩,hmk,?_⟩ |refine u1 ?_ |refine u2 ?_ |fail)
   refine aK.mono (hyx _) (fun a hp' amb' hq=>?_)
   obtain ⟨rfl,b,rfl,hb⟩:=hq
   rcases hb with ⟨rfl,rfl⟩|⟨rfl,hstop⟩
   ·repeat' (first |refine u1 ?_ |fail)
    refine aa (mu:=fun _=>false) ?_
    repeat' (first |refine u1 ?_ |refine u2 ?_ |fail)
    exact (ai.refl _).2
   ·repeat' (first |refine u1 ?_ |fail)
    refine aa (mu:=fun _=>false) ?_
    repeat' (first |refine u1 ?_ |fail)
    exact Or.inr hstop
  ·exact ⟨trivial,_,u0 (l:=[]) 0 rfl trivial (Nat.zero_le _) rfl rfl (congrArg J (by rw [List.length_map,bV,Nat.add_mul,Nat.one_mul]))⟩
 ·exact Or.inl (by rw [List.length_map,bV])
end Go.Proofs.YtichbhmnhkegiaaGreat
