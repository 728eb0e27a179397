/-
  Contracts of the program's functions and of the document's. Lemmas alone; their conditions stand in them.
-/
import Derived.Test.YtichbhmnhkegiaaGreatVA3
import Derived.Test.YtichbhmnhkegiaaGreatVK2
open Go Go.RM Go.AirLaw
namespace Go.Proofs.YtichbhmnhkegiaaGreat
set_option maxRecDepth 100000
set_option maxHeartbeats 4000000
theorem mq {x y a b:Int} (ha:-a≤x∧x≤a) (hb:-b≤y∧y≤b):-(a * b)≤x * y∧x * y≤a * b:=by
 have h1:(x * y).natAbs=x.natAbs * y.natAbs:=Int.natAbs_mul x y
 have h2:x.natAbs * y.natAbs≤a.natAbs * b.natAbs:=Nat.mul_le_mul (by omega) (by omega)
 have h3:(a * b).natAbs=a.natAbs * b.natAbs:=Int.natAbs_mul a b
 have h4:0≤a * b:=Int.mul_nonneg (by omega) (by omega)
 omega
theorem wm (one:Bool) (bW w x y:Int) (hl:0≤bW∧bW≤300) (hw:0≤w∧w≤31) (hx:-60000≤x∧x≤60000) (hy:-60000≤y∧y≤60000):Pu one 66 [.ag [ah bW,ah w],.ag [ah x,ah y]] (BB (bA x y bW w)):=by
 by_cases h0:x=0∧y=0
 ·have d1:(decide (x=0) && decide (y=0))=true:=by rw [decide_eq_true h0.1,decide_eq_true h0.2];rfl
  have hv:bA x y bW w=true:=by unfold bA;rw [decide_eq_true h0];rfl
  rw [hv]
  refine af.body (fn:=Tryz.f66) rfl rfl rfl rfl ?_
  refine aa (mu:=fun _=>false) ?_
  repeat' (first |refine F7 rfl rfl ?_ |refine u1 ?_ |refine u2 ?_ |fail)
  exact ⟨[_],⟨Fz.deep rfl,trivial⟩,rfl⟩
 ·have d1:(decide (x=0) && decide (y=0))=false:=by
   rw [Bool.and_eq_false_iff]
   by_cases hx0:x=0
   ·exact .inr (decide_eq_false fun hy0=>h0 ⟨hx0,hy0⟩)
   ·exact .inl (decide_eq_false hx0)
  obtain ⟨hs1,hs2,hs3⟩:=wk h0
  have hv:bA x y bW w=decide (x * x+y * y≤ta bW (gy x y) w * ta bW (gy x y) w):=by
   unfold bA sq
   rw [decide_eq_false h0,Bool.false_or]
  rw [hv]
  generalize gy x y=q at *
  have hxx:=qg hx
  have hyy:=qg hy
  refine af.body (fn:=Tryz.f66) rfl rfl rfl rfl ?_
  refine aa (mu:=fun _=>false) ?_
  repeat' (first |refine F7 rfl rfl ?_ |refine u1 ?_ |refine u2 ?_ |fail)
  refine av.aY (ai.to (l:=[(2,.pt [ah bW,ah w] 0),(3,.pt [ah x,ah y] 0),(15,ah (0:Nat))]) (hp:=[]) 0 rfl ⟨rfl,rfl,rfl,trivial⟩ (Nat.zero_le _) rfl rfl) ?_
  refine av.loop (fun p:Nat=>p≤q) (fun p=>⟨aP [(2,.pt [ah bW,ah w] 0),(3,.pt [ah x,ah y] 0),(15,ah (p:Nat))],[],bq.none,false,0⟩) (fun p=>q - p) ?_ 0 (Nat.zero_le _)
  intro p hp
  have hp32:p < 32:=by omega
  have d2:decide ((p:Int) < 32)=true:=decide_eq_true (by omega)
  have hv1:=yc one p hp32
  have hv2:=yc one ((p+1) % 32) (Nat.mod_lt _ (by decide))
  rw [show (((p+1) % 32:Nat):Int)=((p:Int)+1) % 32 by omega] at hv2
  have b1:=Ae hp32
  have b2:=Ae (p:=(p+1) % 32) (Nat.mod_lt _ (by decide))
  have hin:ja x y p=(decide ((mL p).1 * y - (mL p).2 * x≤0) && decide (0 < (mL ((p+1) % 32)).1 * y - (mL ((p+1) % 32)).2 * x)):=rfl
  generalize mL p=c at *
  generalize mL ((p+1) % 32)=d at *
  have m1:=mq b1.1 hy
  have m2:=mq b1.2 hx
  have m3:=mq b2.1 hy
  have m4:=mq b2.2 hx
  refine aa (mu:=fun _=>false) ?_
  by_cases hpq:p < q
  ·have hf:=hs3 p hpq
   rw [hin,Bool.and_eq_false_iff] at hf
   by_cases hc:0 < c.1 * y - c.2 * x
   ·have d3:decide (0 < c.1 * y - c.2 * x)=true:=decide_eq_true hc
    repeat' (first |refine u1 ?_ |refine u2 ?_ |refine af.call hv1 rfl rfl ?_ |refine af.call hv2 rfl rfl ?_ |fail)
    exact ⟨p+1,hpq,(by dsimp only;omega),ai.to 0 rfl ⟨rfl,rfl,cG (by simp),trivial⟩ (Nat.zero_le _) rfl rfl⟩
   ·have d3:decide (0 < c.1 * y - c.2 * x)=false:=decide_eq_false hc
    have d4:decide (d.1 * y - d.2 * x≤0)=true:=by
     rcases hf with hf|hf
     ·rw [decide_eq_false_iff_not] at hf;omega
     ·rw [decide_eq_false_iff_not] at hf;exact decide_eq_true (by omega)
    repeat' (first |refine u1 ?_ |refine u2 ?_ |refine af.call hv1 rfl rfl ?_ |refine af.call hv2 rfl rfl ?_ |fail)
    exact ⟨p+1,hpq,(by dsimp only;omega),ai.to 0 rfl ⟨rfl,rfl,cG (by simp),trivial⟩ (Nat.zero_le _) rfl rfl⟩
  ·have hpe:p=q:=by omega
   subst hpe
   rw [hin,Bool.and_eq_true,decide_eq_true_eq,decide_eq_true_eq] at hs2
   have d3:decide (0 < c.1 * y - c.2 * x)=false:=decide_eq_false (by omega)
   have d4:decide (d.1 * y - d.2 * x≤0)=false:=decide_eq_false (by omega)
   have hB:0≤fS (p:Int) w∧fS (p:Int) w≤16:=by
    unfold fS
    split <;> omega
   have mB:=mq (x:=bW) (y:=1400 - 50 * fS (p:Int) w) (a:=300) (b:=1400) (by omega) (by omega)
   have pB:0≤bW * (1400 - 50 * fS (p:Int) w):=Int.mul_nonneg hl.1 (by omega)
   have mR:=qg (x:=bW * (1400 - 50 * fS (p:Int) w) / 10) (b:=42000) (by omega)
   unfold ta
   by_cases h16:16 < max ((p:Int) - w) (w - (p:Int))
   ·have d5:decide (16 < max ((p:Int) - w) (w - (p:Int)))=true:=decide_eq_true h16
    have hbe:fS (p:Int) w=32 - max ((p:Int) - w) (w - (p:Int)):=by unfold fS;rw [if_pos h16]
    rw [hbe] at mB pB mR ⊢
    repeat' (first |refine u1 ?_ |refine u2 ?_ |refine af.call hv1 rfl rfl ?_ |refine af.call hv2 rfl rfl ?_ |fail)
    exact ⟨[_],⟨Fz.deep rfl,trivial⟩,rfl⟩
   ·have d5:decide (16 < max ((p:Int) - w) (w - (p:Int)))=false:=decide_eq_false h16
    have hbe:fS (p:Int) w=max ((p:Int) - w) (w - (p:Int)):=by unfold fS;rw [if_neg h16]
    rw [hbe] at mB pB mR ⊢
    repeat' (first |refine u1 ?_ |refine u2 ?_ |refine af.call hv1 rfl rfl ?_ |refine af.call hv2 rfl rfl ?_ |fail)
    exact ⟨[_],⟨Fz.deep rfl,trivial⟩,rfl⟩
def Ah (v:Pt) (c r:Int):Bool:=bg (-60000) 60000 [v.x,v.y] || bg 1 5000 [c] || bg 1 300 [r]
def td (v:Pt) (c r:Int):Bool × Int:=if Ah v c r=true then (false,7) else (ct v.x v.y c r,0)
theorem aI {lo hi:Int} {l:List Int}:bg lo hi l=false ↔ ∀ n ∈ l,lo≤n∧n≤hi:=by
 unfold bg
 rw [List.any_eq_false]
 simp
theorem wo (one:Bool) (v:Pt) (c r:Int):Pu one 17 [.ag (FG v),ah c,ah r] (.tp [BB (td v c r).1,ah (td v c r).2]):=by
 have o1:=gv one (-60000) 60000 [eI v.x,eI v.y] true rfl (by simp [maxLen])
 have o2:=gv one 1 5000 [eI c] true rfl (by simp [maxLen])
 have o3:=gv one 1 300 [eI r] true rfl (by simp [maxLen])
 change Pu one 61 _ (BB (bg (-60000) 60000 [v.x,v.y])) at o1
 change Pu one 61 _ (BB (bg 1 5000 [c])) at o2
 change Pu one 61 _ (BB (bg 1 300 [r])) at o3
 unfold td Ah
 cases e1:bg (-60000) 60000 [v.x,v.y] with
 | true =>
  rw [e1] at o1
  refine af.body (fn:=Tryz.f17) rfl rfl rfl rfl ?_
  refine aa (mu:=fun _=>false) ?_
  repeat' (first |refine u1 ?_ |refine u2 ?_ |refine af.call o1 rfl rfl ?_ |fail)
  exact ⟨[_,_],⟨Fz.deep rfl,Fz.deep rfl,trivial⟩,rfl⟩
 | false =>
  rw [e1] at o1
  cases e2:bg 1 5000 [c] with
  | true =>
   rw [e2] at o2
   refine af.body (fn:=Tryz.f17) rfl rfl rfl rfl ?_
   refine aa (mu:=fun _=>false) ?_
   repeat' (first |refine u1 ?_ |refine u2 ?_ |refine af.call o1 rfl rfl ?_ |refine af.call o2 rfl rfl ?_ |fail)
   exact ⟨[_,_],⟨Fz.deep rfl,Fz.deep rfl,trivial⟩,rfl⟩
  | false =>
   rw [e2] at o2
   cases e3:bg 1 300 [r] with
   | true =>
    rw [e3] at o3
    refine af.body (fn:=Tryz.f17) rfl rfl rfl rfl ?_
    refine aa (mu:=fun _=>false) ?_
    repeat' (first |refine u1 ?_ |refine u2 ?_ |refine af.call o1 rfl rfl ?_ |refine af.call o2 rfl rfl ?_ |refine af.call o3 rfl rfl ?_ |fail)
    exact ⟨[_,_],⟨Fz.deep rfl,Fz.deep rfl,trivial⟩,rfl⟩
   | false =>
    rw [e3] at o3
    rw [aI] at e1 e2 e3
    have a1:=e1 v.x (by simp)
    have a2:=e1 v.y (by simp)
    have a3:=e2 c (by simp)
    have a4:=e3 r (by simp)
    have hm:=tc one c r v.x v.y (by omega) (by omega) a1 a2
    refine af.body (fn:=Tryz.f17) rfl rfl rfl rfl ?_
    refine aa (mu:=fun _=>false) ?_
    repeat' (first |refine u1 ?_ |refine u2 ?_ |refine af.call o1 rfl rfl ?_ |refine af.call o2 rfl rfl ?_ |refine af.call o3 rfl rfl ?_ |refine af.call hm rfl rfl ?_ |fail)
    exact ⟨[_,_],⟨Fz.deep rfl,Fz.deep rfl,trivial⟩,rfl⟩
def yd (v:Pt) (l w:Int):Bool:=bg (-60000) 60000 [v.x,v.y] || bg 1 200 [l] || bg 0 31 [w]
def qh (v:Pt) (l w:Int):Bool × Int:=if yd v l w=true then (false,7) else (bA v.x v.y l w,0)
theorem wq (one:Bool) (v:Pt) (l w:Int):Pu one 19 [.ag (FG v),ah l,ah w] (.tp [BB (qh v l w).1,ah (qh v l w).2]):=by
 have o1:=gv one (-60000) 60000 [eI v.x,eI v.y] true rfl (by simp [maxLen])
 have o2:=gv one 1 200 [eI l] true rfl (by simp [maxLen])
 have o3:=gv one 0 31 [eI w] true rfl (by simp [maxLen])
 change Pu one 61 _ (BB (bg (-60000) 60000 [v.x,v.y])) at o1
 change Pu one 61 _ (BB (bg 1 200 [l])) at o2
 change Pu one 61 _ (BB (bg 0 31 [w])) at o3
 unfold qh yd
 cases e1:bg (-60000) 60000 [v.x,v.y] with
 | true =>
  rw [e1] at o1
  refine af.body (fn:=Tryz.f19) rfl rfl rfl rfl ?_
  refine aa (mu:=fun _=>false) ?_
  repeat' (first |refine u1 ?_ |refine u2 ?_ |refine af.call o1 rfl rfl ?_ |fail)
  exact ⟨[_,_],⟨Fz.deep rfl,Fz.deep rfl,trivial⟩,rfl⟩
 | false =>
  rw [e1] at o1
  cases e2:bg 1 200 [l] with
  | true =>
   rw [e2] at o2
   refine af.body (fn:=Tryz.f19) rfl rfl rfl rfl ?_
   refine aa (mu:=fun _=>false) ?_
   repeat' (first |refine u1 ?_ |refine u2 ?_ |refine af.call o1 rfl rfl ?_ |refine af.call o2 rfl rfl ?_ |fail)
   exact ⟨[_,_],⟨Fz.deep rfl,Fz.deep rfl,trivial⟩,rfl⟩
  | false =>
   rw [e2] at o2
   cases e3:bg 0 31 [w] with
   | true =>
    rw [e3] at o3
    refine af.body (fn:=Tryz.f19) rfl rfl rfl rfl ?_
    refine aa (mu:=fun _=>false) ?_
    repeat' (first |refine u1 ?_ |refine u2 ?_ |refine af.call o1 rfl rfl ?_ |refine af.call o2 rfl rfl ?_ |refine af.call o3 rfl rfl ?_ |fail)
    exact ⟨[_,_],⟨Fz.deep rfl,Fz.deep rfl,trivial⟩,rfl⟩
   | false =>
    rw [e3] at o3
    rw [aI] at e1 e2 e3
    have a1:=e1 v.x (by simp)
    have a2:=e1 v.y (by simp)
    have a3:=e2 l (by simp)
    have a4:=e3 w (by simp)
    have hm:=wm one l w v.x v.y (by omega) a4 a1 a2
    refine af.body (fn:=Tryz.f19) rfl rfl rfl rfl ?_
    refine aa (mu:=fun _=>false) ?_
    repeat' (first |refine u1 ?_ |refine u2 ?_ |refine af.call o1 rfl rfl ?_ |refine af.call o2 rfl rfl ?_ |refine af.call o3 rfl rfl ?_ |refine af.call hm rfl rfl ?_ |fail)
    exact ⟨[_,_],⟨Fz.deep rfl,Fz.deep rfl,trivial⟩,rfl⟩
end Go.Proofs.YtichbhmnhkegiaaGreat
open Go Go.RM Go.AirLaw
namespace Go.Proofs.YtichbhmnhkegiaaGreat
set_option maxRecDepth 100000
set_option maxHeartbeats 4000000
def e8 (g:lu) (before:List lu):Int :=
 if m7 g.name=false then 6
 else if (before.any fun x=>DC x.name g.name)=true then 5
 else if (bg 1 5000 [g.cand.lo,g.cand.hi] || bg 0 1000 [g.iq])=true then 7
 else if bg g.cand.lo (g.cand.lo+40) [g.cand.hi]=true then 2
 else 0
def fj (s:au) (i:Nat):Int:=match s.aj[i]? with
 | some g=>e8 g (s.aj.take i)
 | none=>0
def ye (s:au):Int × Int × Int :=
 if bg 1 4 [(s.aj.length:Int)]=true then (1,0,3)
 else if (bg 1 200 [s.bW.lo,s.bW.hi] || bg 1 300 [s.clear.lo,s.clear.hi])=true then (1,0,7)
 else if (decide (s.bW.hi < s.bW.lo) || decide (s.clear.hi < s.clear.lo))=true then (1,0,2)
 else if (gT s.aj.length (fj s)).2=0 then (0,0,0) else (2,(gT s.aj.length (fj s)).1,(gT s.aj.length (fj s)).2)
structure au.Ok (s:au):Prop where
 len:s.aj.length≤maxLen
 names:∀ g ∈ s.aj,g.name.data.toList.length≤maxLen
theorem Cu (one:Bool) (k x:lu):af TT TB one (.fn 73 [] [.pt (aT k) 0]) [.ag (aT x)] (BB (DC x.name k.name)):=by
 refine af.body (fn:=Tryz.f73) rfl rfl rfl rfl ?_
 refine aa (mu:=fun _=>false) ?_
 repeat' (first |refine u1 ?_ |refine u2 ?_ |fail)
 exact ⟨[_],⟨Fz.deep rfl,trivial⟩,rfl⟩
theorem Cv (one:Bool) (lo hi:Int) (l:List Int) (h:l.length≤maxLen):Pu one 61 [ah lo,ah hi,.sl (l.map eI) true] (BB (bg lo hi l)):=by
 have:=gv one lo hi (l.map eI) true (by rw [List.all_map,List.all_eq_true];intro x _;rfl) (by simpa using h)
 rw [show (l.map eI).map Ey=l by rw [List.map_map];exact List.map_id _] at this
 exact this
theorem ir (one:Bool) (lo hi a:Int):Pu one 61 [ah lo,ah hi,.sl [eI a] true] (BB (bg lo hi [a])):=Cv one lo hi [a] (by simp [maxLen])
theorem mw (one:Bool) (lo hi a b:Int):Pu one 61 [ah lo,ah hi,.sl [eI a,eI b] true] (BB (bg lo hi [a,b])):=Cv one lo hi [a,b] (by simp [maxLen])
theorem Ai (one:Bool) (s:au) (h:s.Ok):Pu one 24 [.ag (bz s)] (.tp [ah (ye s).1,ah (ye s).2.1,ah (ye s).2.2]):=by
 have eg:((s.aj.map aT).length:Int)=s.aj.length:=by simp
 have o1:=ir one 1 4 ((s.aj.map aT).length:Int)
 have o2:=mw one 1 200 s.bW.lo s.bW.hi
 have o3:=mw one 1 300 s.clear.lo s.clear.hi
 rw [eg] at o1
 unfold ye
 cases e1:bg 1 4 [(s.aj.length:Int)] with
 | true =>
  rw [e1,←eg] at o1
  refine af.body (fn:=Tryz.f24) rfl rfl rfl rfl ?_
  refine aa (mu:=fun _=>false) ?_
  repeat' (first |refine u1 ?_ |fail)
  exact ⟨[_,_,_],⟨Fz.deep rfl,Fz.deep rfl,Fz.deep rfl,trivial⟩,rfl⟩
 | false =>
  rw [e1,←eg] at o1
  cases e2:bg 1 200 [s.bW.lo,s.bW.hi] with
  | true =>
   rw [e2] at o2
   refine af.body (fn:=Tryz.f24) rfl rfl rfl rfl ?_
   refine aa (mu:=fun _=>false) ?_
   repeat' (first |refine u1 ?_ |fail)
   exact ⟨[_,_,_],⟨Fz.deep rfl,Fz.deep rfl,Fz.deep rfl,trivial⟩,rfl⟩
  | false =>
   rw [e2] at o2
   cases e3:bg 1 300 [s.clear.lo,s.clear.hi] with
   | true =>
    rw [e3] at o3
    refine af.body (fn:=Tryz.f24) rfl rfl rfl rfl ?_
    refine aa (mu:=fun _=>false) ?_
    repeat' (first |refine u1 ?_ |fail)
    exact ⟨[_,_,_],⟨Fz.deep rfl,Fz.deep rfl,Fz.deep rfl,trivial⟩,rfl⟩
   | false =>
    rw [e3] at o3
    cases e4:decide (s.bW.hi < s.bW.lo) with
    | true =>
     refine af.body (fn:=Tryz.f24) rfl rfl rfl rfl ?_
     refine aa (mu:=fun _=>false) ?_
     repeat' (first |refine u1 ?_ |fail)
     exact ⟨[_,_,_],⟨Fz.deep rfl,Fz.deep rfl,Fz.deep rfl,trivial⟩,rfl⟩
    | false =>
     cases e5:decide (s.clear.hi < s.clear.lo) with
     | true =>
      refine af.body (fn:=Tryz.f24) rfl rfl rfl rfl ?_
      refine aa (mu:=fun _=>false) ?_
      repeat' (first |refine u1 ?_ |fail)
      exact ⟨[_,_,_],⟨Fz.deep rfl,Fz.deep rfl,Fz.deep rfl,trivial⟩,rfl⟩
     | false =>
      have hn4:s.aj.length≤4:=by
       rw [aI] at e1
       have:=e1 _ (List.mem_singleton_self _)
       omega
      obtain ⟨n,hn⟩:∃ n:Int,n=s.aj.length:=⟨_,rfl⟩
      refine af.body (fn:=Tryz.f24) rfl rfl rfl rfl ?_
      refine aa (mu:=fun _=>false) ?_
      repeat' (first |refine u1 ?_ |fail)
      refine av.aY (ai.to (l:=[(1,.pt (bz s) 0),(50,.sl (s.aj.map aT) false),(51,ah n),(52,ah (0:Nat))]) (hp:=[]) 0 rfl ⟨rfl,rfl,cG (by rw [hn];exact eg),rfl,trivial⟩ (Nat.zero_le _) rfl rfl) ?_
      refine av.loop (fun k:Nat=>k≤s.aj.length∧∀ i,i < k→fj s i=0) (fun k=>⟨aP [(1,.pt (bz s) 0),(50,.sl (s.aj.map aT) false),(51,ah n),(52,ah (k:Nat))],[],bq.none,false,0⟩) (fun k=>s.aj.length - k) ?_ 0 ⟨Nat.zero_le _,fun i hi=>absurd hi (Nat.not_lt_zero _)⟩
      rintro k ⟨hk,hprev⟩
      refine aa (mu:=fun _=>false) ?_
      by_cases hlt:k < s.aj.length
      ·have d1:decide ((k:Int) < n)=true:=decide_eq_true (by omega)
       have hat:(s.aj.map aT)[((k:Nat):Int).toNat]?=some (aT s.aj[k]):=fm hlt
       have hga:fj s k=e8 s.aj[k] (s.aj.take k):=by unfold fj;rw [List.getElem?_eq_getElem hlt]
       have hnm:=Ez one s.aj[k].name (h.names _ (List.getElem_mem hlt))
       have hcf:∀ f,Pu one 72 [.sl ((s.aj.take k).map aT) f,.fn 73 [] [.pt (aT s.aj[k]) 0]] (BB ((s.aj.take k).any fun x=>DC x.name s.aj[k].name)):=fun f=>qf one 73 [] [.pt (aT s.aj[k]) 0] rfl (fun x=>DC x.name s.aj[k].name) (s.aj.take k) f (by simp [maxLen];omega) (fun x _=>Cu one s.aj[k] x)
       have hsl:((s.aj.map aT).drop 0).take (k - 0)=(s.aj.take k).map aT:=by
        rw [List.drop_zero,Nat.sub_zero,List.map_take]
       rw [←hsl] at hcf
       have hkl:0≤k∧k≤(s.aj.map aT).length:=⟨Nat.zero_le _,by rw [List.length_map];omega⟩
       have hel4:∀ el ∈ s.aj.map aT,el.length=4:=fun el hel=>by obtain ⟨x,_,rfl⟩:=List.mem_map.1 hel;rfl
       have fin:∀ v,fj s k=v→v ≠ 0→gT s.aj.length (fj s)=((k:Int),v):=fun v e hv=>by
        rw [ya hlt hprev (by rw [e];exact hv),e]
       have o4:=mw one 1 5000 s.aj[k].cand.lo s.aj[k].cand.hi
       have o5:=ir one 0 1000 s.aj[k].iq
       have o6:=ir one s.aj[k].cand.lo (s.aj[k].cand.lo+40) s.aj[k].cand.hi
       generalize s.aj[k]=g at *
       cases q1:m7 g.name with
       | false =>
        rw [q1] at hnm
        rw [fin 6 (by rw [hga];unfold e8;rw [if_pos q1]) (by decide)]
        repeat' (first |((with_reducible show aK _ _ _ _ _ _ _ _);refine af.call hnm rfl rfl ?_) |refine u1 ?_ |fail)
        exact ⟨[_,_,_],⟨Fz.deep rfl,Fz.deep rfl,Fz.deep rfl,trivial⟩,rfl⟩
       | true =>
        rw [q1] at hnm
        have q1':¬ m7 g.name=false:=by rw [q1];simp
        cases q2:(s.aj.take k).any fun x=>DC x.name g.name with
        | true =>
         simp only [q2] at hcf
         rw [fin 5 (by rw [hga];unfold e8;rw [if_neg q1',if_pos q2]) (by decide)]
         repeat' (first |((with_reducible show aK _ _ _ _ _ _ _ _);refine af.call hnm rfl rfl ?_) |refine u1 ?_ |refine ⟨0,k,rfl,rfl,hkl,(by decide),hel4,?_⟩ |((with_reducible show aK _ _ _ _ _ _ _ _);refine af.x9 (hcf _) (Fq.deep rfl) (gS.cons (Fq.deep rfl) (gS.cons (gS.Fc gS.nil (gS.cons (Fq.ptr rfl rfl) gS.nil)) gS.nil)) (dP.fl _) ?_) |fail)
         exact ⟨[_,_,_],⟨Fz.deep rfl,Fz.deep rfl,Fz.deep rfl,trivial⟩,rfl⟩
        | false =>
         simp only [q2] at hcf
         have q2':¬ ((s.aj.take k).any fun x=>DC x.name g.name)=true:=by rw [q2];simp
         cases q3:bg 1 5000 [g.cand.lo,g.cand.hi] with
         | true =>
          rw [q3] at o4
          rw [fin 7 (by rw [hga];unfold e8;rw [if_neg q1',if_neg q2',if_pos (by rw [q3];rfl)]) (by decide)]
          repeat' (first |((with_reducible show aK _ _ _ _ _ _ _ _);first|refine af.call hnm rfl rfl ?_|refine af.call o4 rfl rfl ?_) |refine u1 ?_ |refine ⟨0,k,rfl,rfl,hkl,(by decide),hel4,?_⟩ |((with_reducible show aK _ _ _ _ _ _ _ _);refine af.x9 (hcf _) (Fq.deep rfl) (gS.cons (Fq.deep rfl) (gS.cons (gS.Fc gS.nil (gS.cons (Fq.ptr rfl rfl) gS.nil)) gS.nil)) (dP.fl _) ?_) |fail)
          exact ⟨[_,_,_],⟨Fz.deep rfl,Fz.deep rfl,Fz.deep rfl,trivial⟩,rfl⟩
         | false =>
          rw [q3] at o4
          cases q4:bg 0 1000 [g.iq] with
          | true =>
           rw [q4] at o5
           rw [fin 7 (by rw [hga];unfold e8;rw [if_neg q1',if_neg q2',if_pos (by rw [q3,q4];rfl)]) (by decide)]
           repeat' (first |((with_reducible show aK _ _ _ _ _ _ _ _);first|refine af.call hnm rfl rfl ?_|refine af.call o4 rfl rfl ?_|refine af.call o5 rfl rfl ?_) |refine u1 ?_ |refine ⟨0,k,rfl,rfl,hkl,(by decide),hel4,?_⟩ |((with_reducible show aK _ _ _ _ _ _ _ _);refine af.x9 (hcf _) (Fq.deep rfl) (gS.cons (Fq.deep rfl) (gS.cons (gS.Fc gS.nil (gS.cons (Fq.ptr rfl rfl) gS.nil)) gS.nil)) (dP.fl _) ?_) |fail)
           exact ⟨[_,_,_],⟨Fz.deep rfl,Fz.deep rfl,Fz.deep rfl,trivial⟩,rfl⟩
          | false =>
           rw [q4] at o5
           have q34:¬ (bg 1 5000 [g.cand.lo,g.cand.hi] || bg 0 1000 [g.iq])=true:=by rw [q3,q4];simp
           have hc5:1≤g.cand.lo∧g.cand.lo≤5000:=by
            rw [aI] at q3
            exact q3 _ (by simp)
           cases q5:bg g.cand.lo (g.cand.lo+40) [g.cand.hi] with
           | true =>
            rw [q5] at o6
            rw [fin 2 (by rw [hga];unfold e8;rw [if_neg q1',if_neg q2',if_neg q34,if_pos q5]) (by decide)]
            repeat' (first |((with_reducible show aK _ _ _ _ _ _ _ _);first|refine af.call hnm rfl rfl ?_|refine af.call o4 rfl rfl ?_|refine af.call o5 rfl rfl ?_|refine af.call o6 rfl rfl ?_) |refine u1 ?_ |refine ⟨0,k,rfl,rfl,hkl,(by decide),hel4,?_⟩ |((with_reducible show aK _ _ _ _ _ _ _ _);refine af.x9 (hcf _) (Fq.deep rfl) (gS.cons (Fq.deep rfl) (gS.cons (gS.Fc gS.nil (gS.cons (Fq.ptr rfl rfl) gS.nil)) gS.nil)) (dP.fl _) ?_) |fail)
            exact ⟨[_,_,_],⟨Fz.deep rfl,Fz.deep rfl,Fz.deep rfl,trivial⟩,rfl⟩
           | false =>
            rw [q5] at o6
            have e0:fj s k=0:=by rw [hga];unfold e8;rw [if_neg q1',if_neg q2',if_neg q34,if_neg (by rw [q5];simp)]
            repeat' (first |((with_reducible show aK _ _ _ _ _ _ _ _);first|refine af.call hnm rfl rfl ?_|refine af.call o4 rfl rfl ?_|refine af.call o5 rfl rfl ?_|refine af.call o6 rfl rfl ?_) |refine u1 ?_ |refine ⟨0,k,rfl,rfl,hkl,(by decide),hel4,?_⟩ |((with_reducible show aK _ _ _ _ _ _ _ _);refine af.x9 (hcf _) (Fq.deep rfl) (gS.cons (Fq.deep rfl) (gS.cons (gS.Fc gS.nil (gS.cons (Fq.ptr rfl rfl) gS.nil)) gS.nil)) (dP.fl _) ?_) |fail)
            refine ⟨k+1,⟨hlt,fun i hi=>?_⟩,(by dsimp only;omega),ai.to 0 rfl ⟨rfl,rfl,rfl,cG (by simp),trivial⟩ (Nat.zero_le _) rfl rfl⟩
            by_cases hik:i=k
            ·subst hik;exact e0
            ·exact hprev i (by omega)
      ·have d1:decide ((k:Int) < n)=false:=decide_eq_false (by omega)
       have hkn:k=s.aj.length:=by omega
       subst hkn
       have hf:=yb hprev
       rw [hf]
       repeat' (first |refine u1 ?_ |fail)
       exact ⟨[_,_,_],⟨Fz.deep rfl,Fz.deep rfl,Fz.deep rfl,trivial⟩,rfl⟩
end Go.Proofs.YtichbhmnhkegiaaGreat
