/-
  Contracts of the program's functions and of the document's. Lemmas alone; their conditions stand in them.
-/
import Derived.Test.YtalcbebjpgfnfaaGreatA3
import Derived.Test.YtalcbebjpgfnfaaGreatK2
open Go Go.RM Go.AirLaw
namespace Go.Proofs.YtalcbebjpgfnfaaGreat
set_option maxRecDepth 100000
set_option maxHeartbeats 4000000
theorem fV {x y a b:Int} (ha:-a≤x∧x≤a) (hb:-b≤y∧y≤b):-(a * b)≤x * y∧x * y≤a * b:=by
 have h1:(x * y).natAbs=x.natAbs * y.natAbs:=Int.natAbs_mul x y
 have h2:x.natAbs * y.natAbs≤a.natAbs * b.natAbs:=Nat.mul_le_mul (by omega) (by omega)
 have h3:(a * b).natAbs=a.natAbs * b.natAbs:=Int.natAbs_mul a b
 have h4:0≤a * b:=Int.mul_nonneg (by omega) (by omega)
 omega
theorem AY (one:Bool) (bW w x y:Int) (hl:0≤bW∧bW≤300) (hw:0≤w∧w≤31) (hx:-60000≤x∧x≤60000) (hy:-60000≤y∧y≤60000):Pu one 64 [.ag [ah bW,ah w],.ag [ah x,ah y]] (BB (cF x y bW w)):=by
 by_cases h0:x=0∧y=0
 ·have d1:(decide (x=0) && decide (y=0))=true:=by rw [decide_eq_true h0.1,decide_eq_true h0.2];rfl
  have hv:cF x y bW w=true:=by unfold cF;rw [decide_eq_true h0];rfl
  rw [hv]
  refine af.body (fn:=Tryz.f64) rfl rfl rfl rfl ?_
  refine aa (mu:=fun _=>false) ?_
  repeat' (first |refine Oi rfl rfl ?_ |refine u1 ?_ |refine u2 ?_ |fail)
  exact ⟨[_],⟨Fz.deep rfl,trivial⟩,rfl⟩
 ·have d1:(decide (x=0) && decide (y=0))=false:=by
   rw [Bool.and_eq_false_iff]
   by_cases hx0:x=0
   ·exact .inr (decide_eq_false fun hy0=>h0 ⟨hx0,hy0⟩)
   ·exact .inl (decide_eq_false hx0)
  obtain ⟨hs1,hs2,hs3⟩:=AX h0
  have hv:cF x y bW w=decide (x * x+y * y≤xh bW (jD x y) w * xh bW (jD x y) w):=by
   unfold cF sq
   rw [decide_eq_false h0,Bool.false_or]
  rw [hv]
  generalize jD x y=q at *
  have hxx:=ug hx
  have hyy:=ug hy
  refine af.body (fn:=Tryz.f64) rfl rfl rfl rfl ?_
  refine aa (mu:=fun _=>false) ?_
  repeat' (first |refine Oi rfl rfl ?_ |refine u1 ?_ |refine u2 ?_ |fail)
  refine az.aK (ai.to (l:=[(2,.pt [ah bW,ah w] 0),(3,.pt [ah x,ah y] 0),(15,ah (0:Nat))]) (hp:=[]) 0 rfl ⟨rfl,rfl,rfl,trivial⟩ (Nat.zero_le _) rfl rfl) ?_
  refine az.loop (fun p:Nat=>p≤q) (fun p=>⟨aX [(2,.pt [ah bW,ah w] 0),(3,.pt [ah x,ah y] 0),(15,ah (p:Nat))],[],bN.none,false,0⟩) (fun p=>q - p) ?_ 0 (Nat.zero_le _)
  intro p hp
  have hp32:p < 32:=by omega
  have d2:decide ((p:Int) < 32)=true:=decide_eq_true (by omega)
  have hv1:=CG one p hp32
  have hv2:=CG one ((p+1) % 32) (Nat.mod_lt _ (by decide))
  rw [show (((p+1) % 32:Nat):Int)=((p:Int)+1) % 32 by omega] at hv2
  have b1:=ES hp32
  have b2:=ES (p:=(p+1) % 32) (Nat.mod_lt _ (by decide))
  have hin:lH x y p=(decide ((qt p).1 * y - (qt p).2 * x≤0) && decide (0 < (qt ((p+1) % 32)).1 * y - (qt ((p+1) % 32)).2 * x)):=rfl
  generalize qt p=c at *
  generalize qt ((p+1) % 32)=d at *
  have m1:=fV b1.1 hy
  have m2:=fV b1.2 hx
  have m3:=fV b2.1 hy
  have m4:=fV b2.2 hx
  refine aa (mu:=fun _=>false) ?_
  by_cases hpq:p < q
  ·have hf:=hs3 p hpq
   rw [hin,Bool.and_eq_false_iff] at hf
   by_cases hc:0 < c.1 * y - c.2 * x
   ·have d3:decide (0 < c.1 * y - c.2 * x)=true:=decide_eq_true hc
    repeat' (first |refine u1 ?_ |refine u2 ?_ |refine af.call hv1 rfl rfl ?_ |refine af.call hv2 rfl rfl ?_ |fail)
    exact ⟨p+1,hpq,(by dsimp only;omega),ai.to 0 rfl ⟨rfl,rfl,aH (by simp),trivial⟩ (Nat.zero_le _) rfl rfl⟩
   ·have d3:decide (0 < c.1 * y - c.2 * x)=false:=decide_eq_false hc
    have d4:decide (d.1 * y - d.2 * x≤0)=true:=by
     rcases hf with hf|hf
     ·rw [decide_eq_false_iff_not] at hf;omega
     ·rw [decide_eq_false_iff_not] at hf;exact decide_eq_true (by omega)
    repeat' (first |refine u1 ?_ |refine u2 ?_ |refine af.call hv1 rfl rfl ?_ |refine af.call hv2 rfl rfl ?_ |fail)
    exact ⟨p+1,hpq,(by dsimp only;omega),ai.to 0 rfl ⟨rfl,rfl,aH (by simp),trivial⟩ (Nat.zero_le _) rfl rfl⟩
  ·have hpe:p=q:=by omega
   subst hpe
   rw [hin,Bool.and_eq_true,decide_eq_true_eq,decide_eq_true_eq] at hs2
   have d3:decide (0 < c.1 * y - c.2 * x)=false:=decide_eq_false (by omega)
   have d4:decide (d.1 * y - d.2 * x≤0)=false:=decide_eq_false (by omega)
   have hB:0≤jb (p:Int) w∧jb (p:Int) w≤16:=by
    unfold jb
    split <;> omega
   have mB:=fV (x:=bW) (y:=1400 - 50 * jb (p:Int) w) (a:=300) (b:=1400) (by omega) (by omega)
   have pB:0≤bW * (1400 - 50 * jb (p:Int) w):=Int.mul_nonneg hl.1 (by omega)
   have mR:=ug (x:=bW * (1400 - 50 * jb (p:Int) w) / 10) (b:=42000) (by omega)
   unfold xh
   by_cases h16:16 < max ((p:Int) - w) (w - (p:Int))
   ·have d5:decide (16 < max ((p:Int) - w) (w - (p:Int)))=true:=decide_eq_true h16
    have hbe:jb (p:Int) w=32 - max ((p:Int) - w) (w - (p:Int)):=by unfold jb;rw [if_pos h16]
    rw [hbe] at mB pB mR ⊢
    repeat' (first |refine u1 ?_ |refine u2 ?_ |refine af.call hv1 rfl rfl ?_ |refine af.call hv2 rfl rfl ?_ |fail)
    exact ⟨[_],⟨Fz.deep rfl,trivial⟩,rfl⟩
   ·have d5:decide (16 < max ((p:Int) - w) (w - (p:Int)))=false:=decide_eq_false h16
    have hbe:jb (p:Int) w=max ((p:Int) - w) (w - (p:Int)):=by unfold jb;rw [if_neg h16]
    rw [hbe] at mB pB mR ⊢
    repeat' (first |refine u1 ?_ |refine u2 ?_ |refine af.call hv1 rfl rfl ?_ |refine af.call hv2 rfl rfl ?_ |fail)
    exact ⟨[_],⟨Fz.deep rfl,trivial⟩,rfl⟩
def EV (v:Pt) (c r:Int):Bool:=aM (-60000) 60000 [v.x,v.y] || aM 1 5000 [c] || aM 1 300 [r]
def CH (v:Pt) (c r:Int):Bool × Int:=if EV v c r=true then (false,7) else (dB v.x v.y c r,0)
theorem bH {lo hi:Int} {l:List Int}:aM lo hi l=false ↔ ∀ n ∈ l,lo≤n∧n≤hi:=by
 unfold aM
 rw [List.any_eq_false]
 simp
theorem Ie (one:Bool) (v:Pt) (c r:Int):Pu one 23 [.ag (NK v),ah c,ah r] (.tp [BB (CH v c r).1,ah (CH v c r).2]):=by
 have o1:=cX one (-60000) 60000 [eI v.x,eI v.y] true rfl (by simp [maxLen])
 have o2:=cX one 1 5000 [eI c] true rfl (by simp [maxLen])
 have o3:=cX one 1 300 [eI r] true rfl (by simp [maxLen])
 change Pu one 48 _ (BB (aM (-60000) 60000 [v.x,v.y])) at o1
 change Pu one 48 _ (BB (aM 1 5000 [c])) at o2
 change Pu one 48 _ (BB (aM 1 300 [r])) at o3
 unfold CH EV
 cases e1:aM (-60000) 60000 [v.x,v.y] with
 | true =>
  rw [e1] at o1
  refine af.body (fn:=Tryz.f23) rfl rfl rfl rfl ?_
  refine aa (mu:=fun _=>false) ?_
  repeat' (first |refine u1 ?_ |refine u2 ?_ |refine af.call o1 rfl rfl ?_ |fail)
  exact ⟨[_,_],⟨Fz.deep rfl,Fz.deep rfl,trivial⟩,rfl⟩
 | false =>
  rw [e1] at o1
  cases e2:aM 1 5000 [c] with
  | true =>
   rw [e2] at o2
   refine af.body (fn:=Tryz.f23) rfl rfl rfl rfl ?_
   refine aa (mu:=fun _=>false) ?_
   repeat' (first |refine u1 ?_ |refine u2 ?_ |refine af.call o1 rfl rfl ?_ |refine af.call o2 rfl rfl ?_ |fail)
   exact ⟨[_,_],⟨Fz.deep rfl,Fz.deep rfl,trivial⟩,rfl⟩
  | false =>
   rw [e2] at o2
   cases e3:aM 1 300 [r] with
   | true =>
    rw [e3] at o3
    refine af.body (fn:=Tryz.f23) rfl rfl rfl rfl ?_
    refine aa (mu:=fun _=>false) ?_
    repeat' (first |refine u1 ?_ |refine u2 ?_ |refine af.call o1 rfl rfl ?_ |refine af.call o2 rfl rfl ?_ |refine af.call o3 rfl rfl ?_ |fail)
    exact ⟨[_,_],⟨Fz.deep rfl,Fz.deep rfl,trivial⟩,rfl⟩
   | false =>
    rw [e3] at o3
    rw [bH] at e1 e2 e3
    have a1:=e1 v.x (by simp)
    have a2:=e1 v.y (by simp)
    have a3:=e2 c (by simp)
    have a4:=e3 r (by simp)
    have hm:=xj one c r v.x v.y (by omega) (by omega) a1 a2
    refine af.body (fn:=Tryz.f23) rfl rfl rfl rfl ?_
    refine aa (mu:=fun _=>false) ?_
    repeat' (first |refine u1 ?_ |refine u2 ?_ |refine af.call o1 rfl rfl ?_ |refine af.call o2 rfl rfl ?_ |refine af.call o3 rfl rfl ?_ |refine af.call hm rfl rfl ?_ |fail)
    exact ⟨[_,_],⟨Fz.deep rfl,Fz.deep rfl,trivial⟩,rfl⟩
def CI (v:Pt) (l w:Int):Bool:=aM (-60000) 60000 [v.x,v.y] || aM 1 200 [l] || aM 0 31 [w]
def AZ (v:Pt) (l w:Int):Bool × Int:=if CI v l w=true then (false,7) else (cF v.x v.y l w,0)
theorem JZ (one:Bool) (v:Pt) (l w:Int):Pu one 25 [.ag (NK v),ah l,ah w] (.tp [BB (AZ v l w).1,ah (AZ v l w).2]):=by
 have o1:=cX one (-60000) 60000 [eI v.x,eI v.y] true rfl (by simp [maxLen])
 have o2:=cX one 1 200 [eI l] true rfl (by simp [maxLen])
 have o3:=cX one 0 31 [eI w] true rfl (by simp [maxLen])
 change Pu one 48 _ (BB (aM (-60000) 60000 [v.x,v.y])) at o1
 change Pu one 48 _ (BB (aM 1 200 [l])) at o2
 change Pu one 48 _ (BB (aM 0 31 [w])) at o3
 unfold AZ CI
 cases e1:aM (-60000) 60000 [v.x,v.y] with
 | true =>
  rw [e1] at o1
  refine af.body (fn:=Tryz.f25) rfl rfl rfl rfl ?_
  refine aa (mu:=fun _=>false) ?_
  repeat' (first |refine u1 ?_ |refine u2 ?_ |refine af.call o1 rfl rfl ?_ |fail)
  exact ⟨[_,_],⟨Fz.deep rfl,Fz.deep rfl,trivial⟩,rfl⟩
 | false =>
  rw [e1] at o1
  cases e2:aM 1 200 [l] with
  | true =>
   rw [e2] at o2
   refine af.body (fn:=Tryz.f25) rfl rfl rfl rfl ?_
   refine aa (mu:=fun _=>false) ?_
   repeat' (first |refine u1 ?_ |refine u2 ?_ |refine af.call o1 rfl rfl ?_ |refine af.call o2 rfl rfl ?_ |fail)
   exact ⟨[_,_],⟨Fz.deep rfl,Fz.deep rfl,trivial⟩,rfl⟩
  | false =>
   rw [e2] at o2
   cases e3:aM 0 31 [w] with
   | true =>
    rw [e3] at o3
    refine af.body (fn:=Tryz.f25) rfl rfl rfl rfl ?_
    refine aa (mu:=fun _=>false) ?_
    repeat' (first |refine u1 ?_ |refine u2 ?_ |refine af.call o1 rfl rfl ?_ |refine af.call o2 rfl rfl ?_ |refine af.call o3 rfl rfl ?_ |fail)
    exact ⟨[_,_],⟨Fz.deep rfl,Fz.deep rfl,trivial⟩,rfl⟩
   | false =>
    rw [e3] at o3
    rw [bH] at e1 e2 e3
    have a1:=e1 v.x (by simp)
    have a2:=e1 v.y (by simp)
    have a3:=e2 l (by simp)
    have a4:=e3 w (by simp)
    have hm:=AY one l w v.x v.y (by omega) a4 a1 a2
    refine af.body (fn:=Tryz.f25) rfl rfl rfl rfl ?_
    refine aa (mu:=fun _=>false) ?_
    repeat' (first |refine u1 ?_ |refine u2 ?_ |refine af.call o1 rfl rfl ?_ |refine af.call o2 rfl rfl ?_ |refine af.call o3 rfl rfl ?_ |refine af.call hm rfl rfl ?_ |fail)
    exact ⟨[_,_],⟨Fz.deep rfl,Fz.deep rfl,trivial⟩,rfl⟩
end Go.Proofs.YtalcbebjpgfnfaaGreat


open Go Go.RM Go.AirLaw
namespace Go.Proofs.YtalcbebjpgfnfaaGreat
set_option maxRecDepth 100000
set_option maxHeartbeats 4000000
def gm (g:gj) (before:List gj):Int :=
 if ja g.name=false then 6
 else if (before.any fun x=>vr x.name g.name)=true then 5
 else if (aM 1 5000 [g.cand.lo,g.cand.hi] || aM 0 1000 [g.i9])=true then 7
 else if aM g.cand.lo (g.cand.lo+40) [g.cand.hi]=true then 2
 else 0
def dG (s:aC) (i:Nat):Int:=match s.ax[i]? with
 | some g=>gm g (s.ax.take i)
 | none=>0
def ir (s:aC):Int × Int × Int :=
 if aM 1 4 [(s.ax.length:Int)]=true then (1,0,3)
 else if (aM 1 200 [s.bW.lo,s.bW.hi] || aM 1 300 [s.clear.lo,s.clear.hi])=true then (1,0,7)
 else if (decide (s.bW.hi < s.bW.lo) || decide (s.clear.hi < s.clear.lo))=true then (1,0,2)
 else if (bT s.ax.length (dG s)).2=0 then (0,0,0) else (2,(bT s.ax.length (dG s)).1,(bT s.ax.length (dG s)).2)
structure aC.Ok (s:aC):Prop where
 len:s.ax.length≤maxLen
 names:∀ g ∈ s.ax,g.name.data.toList.length≤maxLen
theorem xl (one:Bool) (k x:gj):af TT TB one (.fn 96 [] [.pt (bh k) 0]) [.ag (bh x)] (BB (vr x.name k.name)):=by
 refine af.body (fn:=Tryz.f96) rfl rfl rfl rfl ?_
 refine aa (mu:=fun _=>false) ?_
 repeat' (first |refine u1 ?_ |refine u2 ?_ |fail)
 exact ⟨[_],⟨Fz.deep rfl,trivial⟩,rfl⟩
theorem Ig (one:Bool) (lo hi:Int) (l:List Int) (h:l.length≤maxLen):Pu one 48 [ah lo,ah hi,.sl (l.map eI) true] (BB (aM lo hi l)):=by
 have:=cX one lo hi (l.map eI) true (by rw [List.all_map,List.all_eq_true];intro x _;rfl) (by simpa using h)
 rw [show (l.map eI).map Ga=l by rw [List.map_map];exact List.map_id _] at this
 exact this
theorem kA (one:Bool) (lo hi a:Int):Pu one 48 [ah lo,ah hi,.sl [eI a] true] (BB (aM lo hi [a])):=Ig one lo hi [a] (by simp [maxLen])
theorem qe (one:Bool) (lo hi a b:Int):Pu one 48 [ah lo,ah hi,.sl [eI a,eI b] true] (BB (aM lo hi [a,b])):=Ig one lo hi [a,b] (by simp [maxLen])
theorem vF (one:Bool) (s:aC) (h:s.Ok):Pu one 47 [.ag (bf s)] (.tp [ah (ir s).1,ah (ir s).2.1,ah (ir s).2.2]):=by
 have eg:((s.ax.map bh).length:Int)=s.ax.length:=by simp
 have o1:=kA one 1 4 ((s.ax.map bh).length:Int)
 have o2:=qe one 1 200 s.bW.lo s.bW.hi
 have o3:=qe one 1 300 s.clear.lo s.clear.hi
 rw [eg] at o1
 unfold ir
 cases e1:aM 1 4 [(s.ax.length:Int)] with
 | true =>
  rw [e1,←eg] at o1
  refine af.body (fn:=Tryz.f47) rfl rfl rfl rfl ?_
  refine aa (mu:=fun _=>false) ?_
  repeat' (first |refine u1 ?_ |fail)
  exact ⟨[_,_,_],⟨Fz.deep rfl,Fz.deep rfl,Fz.deep rfl,trivial⟩,rfl⟩
 | false =>
  rw [e1,←eg] at o1
  cases e2:aM 1 200 [s.bW.lo,s.bW.hi] with
  | true =>
   rw [e2] at o2
   refine af.body (fn:=Tryz.f47) rfl rfl rfl rfl ?_
   refine aa (mu:=fun _=>false) ?_
   repeat' (first |refine u1 ?_ |fail)
   exact ⟨[_,_,_],⟨Fz.deep rfl,Fz.deep rfl,Fz.deep rfl,trivial⟩,rfl⟩
  | false =>
   rw [e2] at o2
   cases e3:aM 1 300 [s.clear.lo,s.clear.hi] with
   | true =>
    rw [e3] at o3
    refine af.body (fn:=Tryz.f47) rfl rfl rfl rfl ?_
    refine aa (mu:=fun _=>false) ?_
    repeat' (first |refine u1 ?_ |fail)
    exact ⟨[_,_,_],⟨Fz.deep rfl,Fz.deep rfl,Fz.deep rfl,trivial⟩,rfl⟩
   | false =>
    rw [e3] at o3
    cases e4:decide (s.bW.hi < s.bW.lo) with
    | true =>
     refine af.body (fn:=Tryz.f47) rfl rfl rfl rfl ?_
     refine aa (mu:=fun _=>false) ?_
     repeat' (first |refine u1 ?_ |fail)
     exact ⟨[_,_,_],⟨Fz.deep rfl,Fz.deep rfl,Fz.deep rfl,trivial⟩,rfl⟩
    | false =>
     cases e5:decide (s.clear.hi < s.clear.lo) with
     | true =>
      refine af.body (fn:=Tryz.f47) rfl rfl rfl rfl ?_
      refine aa (mu:=fun _=>false) ?_
      repeat' (first |refine u1 ?_ |fail)
      exact ⟨[_,_,_],⟨Fz.deep rfl,Fz.deep rfl,Fz.deep rfl,trivial⟩,rfl⟩
     | false =>
      have hn4:s.ax.length≤4:=by
       rw [bH] at e1
       have:=e1 _ (List.mem_singleton_self _)
       omega
      obtain ⟨n,hn⟩:∃ n:Int,n=s.ax.length:=⟨_,rfl⟩
      refine af.body (fn:=Tryz.f47) rfl rfl rfl rfl ?_
      refine aa (mu:=fun _=>false) ?_
      repeat' (first |refine u1 ?_ |fail)
      refine az.aK (ai.to (l:=[(1,.pt (bf s) 0),(50,.sl (s.ax.map bh) false),(51,ah n),(52,ah (0:Nat))]) (hp:=[]) 0 rfl ⟨rfl,rfl,aH (by rw [hn];exact eg),rfl,trivial⟩ (Nat.zero_le _) rfl rfl) ?_
      refine az.loop (fun k:Nat=>k≤s.ax.length∧∀ i,i < k→dG s i=0) (fun k=>⟨aX [(1,.pt (bf s) 0),(50,.sl (s.ax.map bh) false),(51,ah n),(52,ah (k:Nat))],[],bN.none,false,0⟩) (fun k=>s.ax.length - k) ?_ 0 ⟨Nat.zero_le _,fun i hi=>absurd hi (Nat.not_lt_zero _)⟩
      rintro k ⟨hk,hprev⟩
      refine aa (mu:=fun _=>false) ?_
      by_cases hlt:k < s.ax.length
      ·have d1:decide ((k:Int) < n)=true:=decide_eq_true (by omega)
       have hat:(s.ax.map bh)[((k:Nat):Int).toNat]?=some (bh s.ax[k]):=cq hlt
       have hga:dG s k=gm s.ax[k] (s.ax.take k):=by unfold dG;rw [List.getElem?_eq_getElem hlt]
       have hnm:=HZ one s.ax[k].name (h.names _ (List.getElem_mem hlt))
       have hcf:∀ f,Pu one 95 [.sl ((s.ax.take k).map bh) f,.fn 96 [] [.pt (bh s.ax[k]) 0]] (BB ((s.ax.take k).any fun x=>vr x.name s.ax[k].name)):=fun f=>jz one 96 [] [.pt (bh s.ax[k]) 0] rfl (fun x=>vr x.name s.ax[k].name) (s.ax.take k) f (by simp [maxLen];omega) (fun x _=>xl one s.ax[k] x)
       have hsl:((s.ax.map bh).drop 0).take (k - 0)=(s.ax.take k).map bh:=by
        rw [List.drop_zero,Nat.sub_zero,List.map_take]
       rw [←hsl] at hcf
       have hkl:0≤k∧k≤(s.ax.map bh).length:=⟨Nat.zero_le _,by rw [List.length_map];omega⟩
       have hel4:∀ el ∈ s.ax.map bh,el.length=4:=fun el hel=>by obtain ⟨x,_,rfl⟩:=List.mem_map.1 hel;rfl
       have fin:∀ v,dG s k=v→v ≠ 0→bT s.ax.length (dG s)=((k:Int),v):=fun v e hv=>by
        rw [gM hlt hprev (by rw [e];exact hv),e]
       have o4:=qe one 1 5000 s.ax[k].cand.lo s.ax[k].cand.hi
       have o5:=kA one 0 1000 s.ax[k].i9
       have o6:=kA one s.ax[k].cand.lo (s.ax[k].cand.lo+40) s.ax[k].cand.hi
       generalize s.ax[k]=g at *
       cases q1:ja g.name with
       | false =>
        rw [q1] at hnm
        rw [fin 6 (by rw [hga];unfold gm;rw [if_pos q1]) (by decide)]
        repeat' (first |((with_reducible show bl _ _ _ _ _ _ _ _);refine af.call hnm rfl rfl ?_) |refine u1 ?_ |fail)
        exact ⟨[_,_,_],⟨Fz.deep rfl,Fz.deep rfl,Fz.deep rfl,trivial⟩,rfl⟩
       | true =>
        rw [q1] at hnm
        have q1':¬ ja g.name=false:=by rw [q1];simp
        cases q2:(s.ax.take k).any fun x=>vr x.name g.name with
        | true =>
         simp only [q2] at hcf
         rw [fin 5 (by rw [hga];unfold gm;rw [if_neg q1',if_pos q2]) (by decide)]
         repeat' (first |((with_reducible show bl _ _ _ _ _ _ _ _);refine af.call hnm rfl rfl ?_) |refine u1 ?_ |refine ⟨0,k,rfl,rfl,hkl,(by decide),hel4,?_⟩ |((with_reducible show bl _ _ _ _ _ _ _ _);refine af.CE (hcf _) (Fq.deep rfl) (jV.cons (Fq.deep rfl) (jV.cons (jV.ML jV.nil (jV.cons (Fq.ptr rfl rfl) jV.nil)) jV.nil)) (ej.fl _) ?_) |fail)
         exact ⟨[_,_,_],⟨Fz.deep rfl,Fz.deep rfl,Fz.deep rfl,trivial⟩,rfl⟩
        | false =>
         simp only [q2] at hcf
         have q2':¬ ((s.ax.take k).any fun x=>vr x.name g.name)=true:=by rw [q2];simp
         cases q3:aM 1 5000 [g.cand.lo,g.cand.hi] with
         | true =>
          rw [q3] at o4
          rw [fin 7 (by rw [hga];unfold gm;rw [if_neg q1',if_neg q2',if_pos (by rw [q3];rfl)]) (by decide)]
          repeat' (first |((with_reducible show bl _ _ _ _ _ _ _ _);first|refine af.call hnm rfl rfl ?_|refine af.call o4 rfl rfl ?_) |refine u1 ?_ |refine ⟨0,k,rfl,rfl,hkl,(by decide),hel4,?_⟩ |((with_reducible show bl _ _ _ _ _ _ _ _);refine af.CE (hcf _) (Fq.deep rfl) (jV.cons (Fq.deep rfl) (jV.cons (jV.ML jV.nil (jV.cons (Fq.ptr rfl rfl) jV.nil)) jV.nil)) (ej.fl _) ?_) |fail)
          exact ⟨[_,_,_],⟨Fz.deep rfl,Fz.deep rfl,Fz.deep rfl,trivial⟩,rfl⟩
         | false =>
          rw [q3] at o4
          cases q4:aM 0 1000 [g.i9] with
          | true =>
           rw [q4] at o5
           rw [fin 7 (by rw [hga];unfold gm;rw [if_neg q1',if_neg q2',if_pos (by rw [q3,q4];rfl)]) (by decide)]
           repeat' (first |((with_reducible show bl _ _ _ _ _ _ _ _);first|refine af.call hnm rfl rfl ?_|refine af.call o4 rfl rfl ?_|refine af.call o5 rfl rfl ?_) |refine u1 ?_ |refine ⟨0,k,rfl,rfl,hkl,(by decide),hel4,?_⟩ |((with_reducible show bl _ _ _ _ _ _ _ _);refine af.CE (hcf _) (Fq.deep rfl) (jV.cons (Fq.deep rfl) (jV.cons (jV.ML jV.nil (jV.cons (Fq.ptr rfl rfl) jV.nil)) jV.nil)) (ej.fl _) ?_) |fail)
           exact ⟨[_,_,_],⟨Fz.deep rfl,Fz.deep rfl,Fz.deep rfl,trivial⟩,rfl⟩
          | false =>
           rw [q4] at o5
           have q34:¬ (aM 1 5000 [g.cand.lo,g.cand.hi] || aM 0 1000 [g.i9])=true:=by rw [q3,q4];simp
           have hc5:1≤g.cand.lo∧g.cand.lo≤5000:=by
            rw [bH] at q3
            exact q3 _ (by simp)
           cases q5:aM g.cand.lo (g.cand.lo+40) [g.cand.hi] with
           | true =>
            rw [q5] at o6
            rw [fin 2 (by rw [hga];unfold gm;rw [if_neg q1',if_neg q2',if_neg q34,if_pos q5]) (by decide)]
            repeat' (first |((with_reducible show bl _ _ _ _ _ _ _ _);first|refine af.call hnm rfl rfl ?_|refine af.call o4 rfl rfl ?_|refine af.call o5 rfl rfl ?_|refine af.call o6 rfl rfl ?_) |refine u1 ?_ |refine ⟨0,k,rfl,rfl,hkl,(by decide),hel4,?_⟩ |((with_reducible show bl _ _ _ _ _ _ _ _);refine af.CE (hcf _) (Fq.deep rfl) (jV.cons (Fq.deep rfl) (jV.cons (jV.ML jV.nil (jV.cons (Fq.ptr rfl rfl) jV.nil)) jV.nil)) (ej.fl _) ?_) |fail)
            exact ⟨[_,_,_],⟨Fz.deep rfl,Fz.deep rfl,Fz.deep rfl,trivial⟩,rfl⟩
           | false =>
            rw [q5] at o6
            have e0:dG s k=0:=by rw [hga];unfold gm;rw [if_neg q1',if_neg q2',if_neg q34,if_neg (by rw [q5];simp)]
            repeat' (first |((with_reducible show bl _ _ _ _ _ _ _ _);first|refine af.call hnm rfl rfl ?_|refine af.call o4 rfl rfl ?_|refine af.call o5 rfl rfl ?_|refine af.call o6 rfl rfl ?_) |refine u1 ?_ |refine ⟨0,k,rfl,rfl,hkl,(by decide),hel4,?_⟩ |((with_reducible show bl _ _ _ _ _ _ _ _);refine af.CE (hcf _) (Fq.deep rfl) (jV.cons (Fq.deep rfl) (jV.cons (jV.ML jV.nil (jV.cons (Fq.ptr rfl rfl) jV.nil)) jV.nil)) (ej.fl _) ?_) |fail)
            refine ⟨k+1,⟨hlt,fun i hi=>?_⟩,(by dsimp only;omega),ai.to 0 rfl ⟨rfl,rfl,rfl,aH (by simp),trivial⟩ (Nat.zero_le _) rfl rfl⟩
            by_cases hik:i=k
            ·subst hik;exact e0
            ·exact hprev i (by omega)
      ·have d1:decide ((k:Int) < n)=false:=decide_eq_false (by omega)
       have hkn:k=s.ax.length:=by omega
       subst hkn
       have hf:=eW hprev
       rw [hf]
       repeat' (first |refine u1 ?_ |fail)
       exact ⟨[_,_,_],⟨Fz.deep rfl,Fz.deep rfl,Fz.deep rfl,trivial⟩,rfl⟩
end Go.Proofs.YtalcbebjpgfnfaaGreat
