/-
  Contracts of the program's functions and of the document's. Lemmas alone; their conditions stand in them.
-/
import Derived.Test.YtgdbfbalchdmcaaGreatA3
import Derived.Test.YtgdbfbalchdmcaaGreatK1
open Go Go.RM
namespace Go.Proofs.YtgdbfbalchdmcaaGreat
set_option maxRecDepth 100000
set_option maxHeartbeats 4000000
theorem E7 (one:Bool) (lo hi:Int) (l:List Int) (h:l.length≤maxLen):Pu one 75 [ak lo,ak hi,.sl (l.map eI) true] (BB (bH lo hi l)):=by
 have:=jo one lo hi (l.map eI) true (by rw [List.all_map,List.all_eq_true];intro x _;rfl) (by simpa using h)
 rw [show (l.map eI).map I3=l by rw [List.map_map];exact List.map_id _] at this
 exact this
theorem kD (one:Bool) (lo hi a:Int):Pu one 75 [ak lo,ak hi,.sl [eI a] true] (BB (bH lo hi [a])):=E7 one lo hi [a] (by simp [maxLen])
theorem KP (one:Bool) (lo hi a b c:Int):Pu one 75 [ak lo,ak hi,.sl [eI a,eI b,eI c] true] (BB (bH lo hi [a,b,c])):=E7 one lo hi [a,b,c] (by simp [maxLen])
theorem dI {lo hi a:Int} (h:bH lo hi [a]=false):lo≤a∧a≤hi:=by
 rw [bp] at h
 have h2:gY a lo hi=true:=by cases e:gY a lo hi with|true=>rfl|false=>rw [e] at h;cases h
 exact bQ.1 h2
def dU {α:Type} (nm:α→ByteArray) (err:α→Int) (l:List α) (i:Nat):Int:=match l[i]? with
 | some x=>if jq (nm x)=false then 6 else if ((l.take i).any fun y=>tR (nm y) (nm x))=true then 5 else err x
 | none=>0
def eE (r:gL):Int:=if (bH 0 1000 [r.IZ] || bH 0 1000 [r.leave,r.I2,r.oS])=true then 7 else 0
def gE (n:Int) (m:pO):Int:=if bH 0 (n - 1) [m.ny]=true then 4 else if bH (-100000) 100000 [m.i4]=true then 7 else 0
theorem Dt (one:Bool) (r:gL):Pu one 120 [.ag (cm r)] (ST r.name):=by
 refine af.body (fn:=Tryz.f120) rfl rfl rfl rfl ?_
 refine aa (mu:=fun _=>false) ?_
 repeat' (first |refine u1 ?_ |refine u2 ?_ |fail)
 exact ⟨[_],⟨Fz.deep rfl,trivial⟩,rfl⟩
theorem Du (one:Bool) (m:pO):Pu one 123 [.ag (cL m)] (ST m.name):=by
 refine af.body (fn:=Tryz.f123) rfl rfl rfl rfl ?_
 refine aa (mu:=fun _=>false) ?_
 repeat' (first |refine u1 ?_ |refine u2 ?_ |fail)
 exact ⟨[_],⟨Fz.deep rfl,trivial⟩,rfl⟩
theorem KQ (one:Bool) (r:gL):Pu one 121 [.ag (cm r)] (ak (eE r)):=by
 have o1:=kD one 0 1000 r.IZ
 have o2:=KP one 0 1000 r.leave r.I2 r.oS
 unfold eE
 cases e1:bH 0 1000 [r.IZ] <;> cases e2:bH 0 1000 [r.leave,r.I2,r.oS] <;> rw [e1] at o1 <;> rw [e2] at o2
 all_goals refine af.body (fn:=Tryz.f121) rfl rfl rfl rfl ?_
 all_goals refine aa (mu:=fun _=>false) ?_
 all_goals
  repeat' (first |refine u1 ?_ |((with_reducible show au _ _ _ _ _ _ _ _);refine af.call o1 rfl rfl ?_) |((with_reducible show au _ _ _ _ _ _ _ _);refine af.call o2 rfl rfl ?_) |refine u2 ?_ |fail)
 all_goals exact ⟨[_],⟨Fz.deep rfl,trivial⟩,rfl⟩
theorem KR (one:Bool) (c:aH) (hc:c.aI.length≤maxLen) (m:pO):af TT TB one (.fn 124 [] [.pt (bh c) 0]) [.ag (cL m)] (ak (gE c.aI.length m)):=by
 have eg:((c.aI.map cm).length:Int)=c.aI.length:=by simp
 have ml:c.aI.length≤9223372036854775807:=Nat.le_trans hc (by simp [maxLen])
 have o1:=kD one 0 (((c.aI.map cm).length:Int) - 1) m.ny
 rw [eg] at o1
 have o2:=kD one (-100000) 100000 m.i4
 unfold gE
 cases e1:bH 0 ((c.aI.length:Int) - 1) [m.ny] <;> cases e2:bH (-100000) 100000 [m.i4] <;> rw [e1,←eg] at o1 <;> rw [e2] at o2
 all_goals refine af.body (fn:=Tryz.f124) rfl rfl rfl rfl ?_
 all_goals refine aa (mu:=fun _=>false) ?_
 all_goals
  repeat' (first |refine u1 ?_ |((with_reducible show au _ _ _ _ _ _ _ _);refine af.call o1 rfl rfl ?_) |((with_reducible show au _ _ _ _ _ _ _ _);refine af.call o2 rfl rfl ?_) |refine u2 ?_ |fail)
 all_goals exact ⟨[_],⟨Fz.deep rfl,trivial⟩,rfl⟩
theorem I5 (one:Bool) (s:ByteArray) (r:gL):af TT TB one (.fn 153 [] [.pt [.fn 120 [] []] 0,.pt [ST s] 0]) [.ag (cm r)] (BB (tR r.name s)):=by
 have h1:=Dt true r
 refine af.body (fn:=Tryz.f153) rfl rfl rfl rfl ?_
 refine aa (mu:=fun _=>false) ?_
 repeat' (first |refine u1 ?_ |(refine ⟨_,_,.inl ⟨rfl,rfl⟩,h1,?_⟩) |refine u2 ?_ |fail)
 exact ⟨[_],⟨Fz.deep rfl,trivial⟩,rfl⟩
theorem Hh (one:Bool) (s:ByteArray) (r:pO):af TT TB one (.fn 155 [] [.pt [.fn 123 [] []] 0,.pt [ST s] 0]) [.ag (cL r)] (BB (tR r.name s)):=by
 have h1:=Du true r
 refine af.body (fn:=Tryz.f155) rfl rfl rfl rfl ?_
 refine aa (mu:=fun _=>false) ?_
 repeat' (first |refine u1 ?_ |(refine ⟨_,_,.inl ⟨rfl,rfl⟩,h1,?_⟩) |refine u2 ?_ |fail)
 exact ⟨[_],⟨Fz.deep rfl,trivial⟩,rfl⟩
end Go.Proofs.YtgdbfbalchdmcaaGreat
open Go Go.RM
namespace Go.Proofs.YtgdbfbalchdmcaaGreat
set_option maxRecDepth 100000
set_option maxHeartbeats 4000000
theorem Hi (one:Bool) (l:List gL) (hl:l.length≤maxLen) (hn:∀ x ∈ l,x.name.data.toList.length≤maxLen):Pu one 119 [.sl (l.map cm) false,.fn 120 [] [],.fn 121 [] []] (.tp [ak (bq l.length (dU gL.name eE l)).1,ak (bq l.length (dU gL.name eE l)).2]):=by
 have ml:l.length≤9223372036854775807:=Nat.le_trans hl (by simp [maxLen])
 have eg:((l.map cm).length:Int)=l.length:=by simp
 obtain ⟨n,hnn⟩:∃ n:Int,n=l.length:=⟨_,rfl⟩
 refine af.body (fn:=Tryz.f119) rfl rfl rfl rfl ?_
 refine aa (mu:=fun _=>false) ?_
 repeat' (first |refine u1 ?_ |refine u2 ?_ |fail)
 refine aG.aU (aj.to (l:=[(0,.sl (l.map cm) false),(2,.fn 121 [] []),(4,.pt [.fn 120 [] []] 0),(12,.sl (l.map cm) false),(13,ak n),(14,ak (0:Nat))]) (hp:=[]) 0 rfl ⟨rfl,rfl,rfl,rfl,aJ (by rw [hnn];exact eg),rfl,trivial⟩ (Nat.zero_le _) rfl rfl) ?_
 refine aG.loop (fun k:Nat=>k≤l.length∧∀ i,i < k→dU gL.name eE l i=0) (fun k=>⟨bT [(0,.sl (l.map cm) false),(2,.fn 121 [] []),(4,.pt [.fn 120 [] []] 0),(12,.sl (l.map cm) false),(13,ak n),(14,ak (k:Nat))],[],bW.none,false,0⟩) (fun k=>l.length - k) ?_ 0 ⟨Nat.zero_le _,fun i hi=>absurd hi (Nat.not_lt_zero _)⟩
 rintro k ⟨hk,hprev⟩
 refine aa (mu:=fun _=>false) ?_
 by_cases hlt:k < l.length
 ·have d1:decide ((k:Int) < n)=true:=decide_eq_true (by omega)
  have hat:(l.map cm)[((k:Nat):Int).toNat]?=some (cm l[k]):=bP hlt
  have hga:dU gL.name eE l k=if jq l[k].name=false then 6 else if ((l.take k).any fun y=>tR y.name l[k].name)=true then 5 else eE l[k]:=by unfold dU;rw [List.getElem?_eq_getElem hlt]
  have h1:=Dt one l[k]
  have h2:=E6 one l[k].name (hn _ (List.getElem_mem hlt))
  have h4:=KQ one l[k]
  have h3:∀ f,Pu one 152 [.sl ((l.take k).map cm) f,.fn 153 [] [.pt [.fn 120 [] []] 0,.pt [ST l[k].name] 0]] (BB ((l.take k).any fun y=>tR y.name l[k].name)):=fun f=>iB one 153 [] _ rfl (fun y=>tR y.name l[k].name) (l.take k) f (by rw [List.length_take];omega) (fun x _=>I5 one l[k].name x)
  have hsl:((l.map cm).drop 0).take (k - 0)=(l.take k).map cm:=by
   rw [List.drop_zero,Nat.sub_zero,List.map_take]
  rw [←hsl] at h3
  have hkl:0≤k∧k≤(l.map cm).length:=⟨Nat.zero_le _,by rw [List.length_map];omega⟩
  have hel:∀ el ∈ l.map cm,el.length=5:=fun el hel=>by obtain ⟨x,_,rfl⟩:=List.mem_map.1 hel;rfl
  have fin:∀ v,dU gL.name eE l k=v→v ≠ 0→bq l.length (dU gL.name eE l)=((k:Int),v):=fun v e hv=>by
   rw [fj hlt hprev (by rw [e];exact hv),e]
  generalize l[k]=g at *
  cases q1:jq g.name with
  | false =>
   rw [q1] at h2
   rw [fin 6 (by rw [hga,if_pos q1]) (by decide)]
   repeat' (first |((with_reducible show au _ _ _ _ _ _ _ _);refine af.call h1 rfl rfl ?_) |((with_reducible show au _ _ _ _ _ _ _ _);refine af.call h2 rfl rfl ?_) |((with_reducible show au _ _ _ _ _ _ _ _);refine af.call h4 rfl rfl ?_) |refine u1 ?_ |((with_reducible show RM.wpOp _ _ (.indexAddr _ _ _) _ _ _);refine ⟨cm g,⟨by omega,hat⟩,rfl,?_⟩) |(refine ⟨0,k,rfl,rfl,hkl,(by decide),hel,?_⟩) |((with_reducible show au _ _ _ _ _ _ _ _);refine af.vL (h3 _) (Fq.deep rfl) (fU.cons (Fq.deep rfl) (fU.cons (fU.L4 fU.nil (fU.cons (Fq.deep rfl) (fU.cons (Fq.ptr rfl rfl) fU.nil))) fU.nil)) (js.fl _) ?_) |refine u2 ?_ |fail)
   exact ⟨[_,_],⟨Fz.deep rfl,Fz.deep rfl,trivial⟩,rfl⟩
  | true =>
   rw [q1] at h2
   have q1':¬ jq g.name=false:=by rw [q1];simp
   cases q2:(l.take k).any fun y=>tR y.name g.name with
   | true =>
    simp only [q2] at h3
    rw [fin 5 (by rw [hga,if_neg q1',if_pos q2]) (by decide)]
    repeat' (first |((with_reducible show au _ _ _ _ _ _ _ _);refine af.call h1 rfl rfl ?_) |((with_reducible show au _ _ _ _ _ _ _ _);refine af.call h2 rfl rfl ?_) |((with_reducible show au _ _ _ _ _ _ _ _);refine af.call h4 rfl rfl ?_) |refine u1 ?_ |((with_reducible show RM.wpOp _ _ (.indexAddr _ _ _) _ _ _);refine ⟨cm g,⟨by omega,hat⟩,rfl,?_⟩) |(refine ⟨0,k,rfl,rfl,hkl,(by decide),hel,?_⟩) |((with_reducible show au _ _ _ _ _ _ _ _);refine af.vL (h3 _) (Fq.deep rfl) (fU.cons (Fq.deep rfl) (fU.cons (fU.L4 fU.nil (fU.cons (Fq.deep rfl) (fU.cons (Fq.ptr rfl rfl) fU.nil))) fU.nil)) (js.fl _) ?_) |refine u2 ?_ |fail)
    exact ⟨[_,_],⟨Fz.deep rfl,Fz.deep rfl,trivial⟩,rfl⟩
   | false =>
    simp only [q2] at h3
    have q2':¬ ((l.take k).any fun y=>tR y.name g.name)=true:=by rw [q2];simp
    have hv:dU gL.name eE l k=eE g:=by rw [hga,if_neg q1',if_neg q2']
    generalize eE g=v at *
    cases q3:decide (v=0) with
    | false =>
     have d3:(!decide (v=0))=true:=by rw [q3];rfl
     rw [fin v hv (of_decide_eq_false q3)]
     repeat' (first |((with_reducible show au _ _ _ _ _ _ _ _);refine af.call h1 rfl rfl ?_) |((with_reducible show au _ _ _ _ _ _ _ _);refine af.call h2 rfl rfl ?_) |((with_reducible show au _ _ _ _ _ _ _ _);refine af.call h4 rfl rfl ?_) |refine u1 ?_ |((with_reducible show RM.wpOp _ _ (.indexAddr _ _ _) _ _ _);refine ⟨cm g,⟨by omega,hat⟩,rfl,?_⟩) |(refine ⟨0,k,rfl,rfl,hkl,(by decide),hel,?_⟩) |((with_reducible show au _ _ _ _ _ _ _ _);refine af.vL (h3 _) (Fq.deep rfl) (fU.cons (Fq.deep rfl) (fU.cons (fU.L4 fU.nil (fU.cons (Fq.deep rfl) (fU.cons (Fq.ptr rfl rfl) fU.nil))) fU.nil)) (js.fl _) ?_) |refine u2 ?_ |fail)
     exact ⟨[_,_],⟨Fz.deep rfl,Fz.deep rfl,trivial⟩,rfl⟩
    | true =>
     have d3:(!decide (v=0))=false:=by rw [q3];rfl
     have e0:dU gL.name eE l k=0:=hv.trans (of_decide_eq_true q3)
     repeat' (first |((with_reducible show au _ _ _ _ _ _ _ _);refine af.call h1 rfl rfl ?_) |((with_reducible show au _ _ _ _ _ _ _ _);refine af.call h2 rfl rfl ?_) |((with_reducible show au _ _ _ _ _ _ _ _);refine af.call h4 rfl rfl ?_) |refine u1 ?_ |((with_reducible show RM.wpOp _ _ (.indexAddr _ _ _) _ _ _);refine ⟨cm g,⟨by omega,hat⟩,rfl,?_⟩) |(refine ⟨0,k,rfl,rfl,hkl,(by decide),hel,?_⟩) |((with_reducible show au _ _ _ _ _ _ _ _);refine af.vL (h3 _) (Fq.deep rfl) (fU.cons (Fq.deep rfl) (fU.cons (fU.L4 fU.nil (fU.cons (Fq.deep rfl) (fU.cons (Fq.ptr rfl rfl) fU.nil))) fU.nil)) (js.fl _) ?_) |refine u2 ?_ |fail)
     refine ⟨k+1,⟨hlt,fun i hi=>?_⟩,(by dsimp only;omega),aj.to 0 rfl ⟨rfl,rfl,rfl,rfl,rfl,aJ (by simp),trivial⟩ (Nat.zero_le _) rfl rfl⟩
     by_cases hik:i=k
     ·subst hik;exact e0
     ·exact hprev i (by omega)
 ·have d1:decide ((k:Int) < n)=false:=decide_eq_false (by omega)
  rw [dS (fun i hi=>hprev i (by omega))]
  repeat' (first |refine u1 ?_ |refine u2 ?_ |fail)
  exact ⟨[_,_],⟨Fz.deep rfl,Fz.deep rfl,trivial⟩,rfl⟩
theorem Hj (one:Bool) (c:aH) (hc:c.aI.length≤maxLen) (l:List pO) (hl:l.length≤maxLen) (hn:∀ x ∈ l,x.name.data.toList.length≤maxLen):Pu one 122 [.sl (l.map cL) false,.fn 123 [] [],.fn 124 [] [.pt (bh c) 0]] (.tp [ak (bq l.length (dU pO.name (gE c.aI.length) l)).1,ak (bq l.length (dU pO.name (gE c.aI.length) l)).2]):=by
 have ml:l.length≤9223372036854775807:=Nat.le_trans hl (by simp [maxLen])
 have eg:((l.map cL).length:Int)=l.length:=by simp
 obtain ⟨n,hnn⟩:∃ n:Int,n=l.length:=⟨_,rfl⟩
 refine af.body (fn:=Tryz.f122) rfl rfl rfl rfl ?_
 refine aa (mu:=fun _=>false) ?_
 repeat' (first |refine u1 ?_ |refine u2 ?_ |fail)
 refine aG.aU (aj.to (l:=[(0,.sl (l.map cL) false),(2,.fn 124 [] [.pt (bh c) 0]),(4,.pt [.fn 123 [] []] 0),(12,.sl (l.map cL) false),(13,ak n),(14,ak (0:Nat))]) (hp:=[]) 0 rfl ⟨rfl,rfl,rfl,rfl,aJ (by rw [hnn];exact eg),rfl,trivial⟩ (Nat.zero_le _) rfl rfl) ?_
 refine aG.loop (fun k:Nat=>k≤l.length∧∀ i,i < k→dU pO.name (gE c.aI.length) l i=0) (fun k=>⟨bT [(0,.sl (l.map cL) false),(2,.fn 124 [] [.pt (bh c) 0]),(4,.pt [.fn 123 [] []] 0),(12,.sl (l.map cL) false),(13,ak n),(14,ak (k:Nat))],[],bW.none,false,0⟩) (fun k=>l.length - k) ?_ 0 ⟨Nat.zero_le _,fun i hi=>absurd hi (Nat.not_lt_zero _)⟩
 rintro k ⟨hk,hprev⟩
 refine aa (mu:=fun _=>false) ?_
 by_cases hlt:k < l.length
 ·have d1:decide ((k:Int) < n)=true:=decide_eq_true (by omega)
  have hat:(l.map cL)[((k:Nat):Int).toNat]?=some (cL l[k]):=bP hlt
  have hga:dU pO.name (gE c.aI.length) l k=if jq l[k].name=false then 6 else if ((l.take k).any fun y=>tR y.name l[k].name)=true then 5 else (gE c.aI.length) l[k]:=by unfold dU;rw [List.getElem?_eq_getElem hlt]
  have h1:=Du one l[k]
  have h2:=E6 one l[k].name (hn _ (List.getElem_mem hlt))
  have h4:=KR one c hc l[k]
  have h3:∀ f,Pu one 154 [.sl ((l.take k).map cL) f,.fn 155 [] [.pt [.fn 123 [] []] 0,.pt [ST l[k].name] 0]] (BB ((l.take k).any fun y=>tR y.name l[k].name)):=fun f=>tQ one 155 [] _ rfl (fun y=>tR y.name l[k].name) (l.take k) f (by rw [List.length_take];omega) (fun x _=>Hh one l[k].name x)
  have hsl:((l.map cL).drop 0).take (k - 0)=(l.take k).map cL:=by
   rw [List.drop_zero,Nat.sub_zero,List.map_take]
  rw [←hsl] at h3
  have hkl:0≤k∧k≤(l.map cL).length:=⟨Nat.zero_le _,by rw [List.length_map];omega⟩
  have hel:∀ el ∈ l.map cL,el.length=4:=fun el hel=>by obtain ⟨x,_,rfl⟩:=List.mem_map.1 hel;rfl
  have fin:∀ v,dU pO.name (gE c.aI.length) l k=v→v ≠ 0→bq l.length (dU pO.name (gE c.aI.length) l)=((k:Int),v):=fun v e hv=>by
   rw [fj hlt hprev (by rw [e];exact hv),e]
  generalize l[k]=g at *
  cases q1:jq g.name with
  | false =>
   rw [q1] at h2
   rw [fin 6 (by rw [hga,if_pos q1]) (by decide)]
   repeat' (first |((with_reducible show au _ _ _ _ _ _ _ _);refine af.call h1 rfl rfl ?_) |((with_reducible show au _ _ _ _ _ _ _ _);refine af.call h2 rfl rfl ?_) |((with_reducible show au _ _ _ _ _ _ _ _);refine af.call h4 rfl rfl ?_) |refine u1 ?_ |((with_reducible show RM.wpOp _ _ (.indexAddr _ _ _) _ _ _);refine ⟨cL g,⟨by omega,hat⟩,rfl,?_⟩) |(refine ⟨0,k,rfl,rfl,hkl,(by decide),hel,?_⟩) |((with_reducible show au _ _ _ _ _ _ _ _);refine af.vL (h3 _) (Fq.deep rfl) (fU.cons (Fq.deep rfl) (fU.cons (fU.L4 fU.nil (fU.cons (Fq.deep rfl) (fU.cons (Fq.ptr rfl rfl) fU.nil))) fU.nil)) (js.fl _) ?_) |refine u2 ?_ |fail)
   exact ⟨[_,_],⟨Fz.deep rfl,Fz.deep rfl,trivial⟩,rfl⟩
  | true =>
   rw [q1] at h2
   have q1':¬ jq g.name=false:=by rw [q1];simp
   cases q2:(l.take k).any fun y=>tR y.name g.name with
   | true =>
    simp only [q2] at h3
    rw [fin 5 (by rw [hga,if_neg q1',if_pos q2]) (by decide)]
    repeat' (first |((with_reducible show au _ _ _ _ _ _ _ _);refine af.call h1 rfl rfl ?_) |((with_reducible show au _ _ _ _ _ _ _ _);refine af.call h2 rfl rfl ?_) |((with_reducible show au _ _ _ _ _ _ _ _);refine af.call h4 rfl rfl ?_) |refine u1 ?_ |((with_reducible show RM.wpOp _ _ (.indexAddr _ _ _) _ _ _);refine ⟨cL g,⟨by omega,hat⟩,rfl,?_⟩) |(refine ⟨0,k,rfl,rfl,hkl,(by decide),hel,?_⟩) |((with_reducible show au _ _ _ _ _ _ _ _);refine af.vL (h3 _) (Fq.deep rfl) (fU.cons (Fq.deep rfl) (fU.cons (fU.L4 fU.nil (fU.cons (Fq.deep rfl) (fU.cons (Fq.ptr rfl rfl) fU.nil))) fU.nil)) (js.fl _) ?_) |refine u2 ?_ |fail)
    exact ⟨[_,_],⟨Fz.deep rfl,Fz.deep rfl,trivial⟩,rfl⟩
   | false =>
    simp only [q2] at h3
    have q2':¬ ((l.take k).any fun y=>tR y.name g.name)=true:=by rw [q2];simp
    have hv:dU pO.name (gE c.aI.length) l k=(gE c.aI.length) g:=by rw [hga,if_neg q1',if_neg q2']
    generalize (gE c.aI.length) g=v at *
    cases q3:decide (v=0) with
    | false =>
     have d3:(!decide (v=0))=true:=by rw [q3];rfl
     rw [fin v hv (of_decide_eq_false q3)]
     repeat' (first |((with_reducible show au _ _ _ _ _ _ _ _);refine af.call h1 rfl rfl ?_) |((with_reducible show au _ _ _ _ _ _ _ _);refine af.call h2 rfl rfl ?_) |((with_reducible show au _ _ _ _ _ _ _ _);refine af.call h4 rfl rfl ?_) |refine u1 ?_ |((with_reducible show RM.wpOp _ _ (.indexAddr _ _ _) _ _ _);refine ⟨cL g,⟨by omega,hat⟩,rfl,?_⟩) |(refine ⟨0,k,rfl,rfl,hkl,(by decide),hel,?_⟩) |((with_reducible show au _ _ _ _ _ _ _ _);refine af.vL (h3 _) (Fq.deep rfl) (fU.cons (Fq.deep rfl) (fU.cons (fU.L4 fU.nil (fU.cons (Fq.deep rfl) (fU.cons (Fq.ptr rfl rfl) fU.nil))) fU.nil)) (js.fl _) ?_) |refine u2 ?_ |fail)
     exact ⟨[_,_],⟨Fz.deep rfl,Fz.deep rfl,trivial⟩,rfl⟩
    | true =>
     have d3:(!decide (v=0))=false:=by rw [q3];rfl
     have e0:dU pO.name (gE c.aI.length) l k=0:=hv.trans (of_decide_eq_true q3)
     repeat' (first |((with_reducible show au _ _ _ _ _ _ _ _);refine af.call h1 rfl rfl ?_) |((with_reducible show au _ _ _ _ _ _ _ _);refine af.call h2 rfl rfl ?_) |((with_reducible show au _ _ _ _ _ _ _ _);refine af.call h4 rfl rfl ?_) |refine u1 ?_ |((with_reducible show RM.wpOp _ _ (.indexAddr _ _ _) _ _ _);refine ⟨cL g,⟨by omega,hat⟩,rfl,?_⟩) |(refine ⟨0,k,rfl,rfl,hkl,(by decide),hel,?_⟩) |((with_reducible show au _ _ _ _ _ _ _ _);refine af.vL (h3 _) (Fq.deep rfl) (fU.cons (Fq.deep rfl) (fU.cons (fU.L4 fU.nil (fU.cons (Fq.deep rfl) (fU.cons (Fq.ptr rfl rfl) fU.nil))) fU.nil)) (js.fl _) ?_) |refine u2 ?_ |fail)
     refine ⟨k+1,⟨hlt,fun i hi=>?_⟩,(by dsimp only;omega),aj.to 0 rfl ⟨rfl,rfl,rfl,rfl,rfl,aJ (by simp),trivial⟩ (Nat.zero_le _) rfl rfl⟩
     by_cases hik:i=k
     ·subst hik;exact e0
     ·exact hprev i (by omega)
 ·have d1:decide ((k:Int) < n)=false:=decide_eq_false (by omega)
  rw [dS (fun i hi=>hprev i (by omega))]
  repeat' (first |refine u1 ?_ |refine u2 ?_ |fail)
  exact ⟨[_,_],⟨Fz.deep rfl,Fz.deep rfl,trivial⟩,rfl⟩
end Go.Proofs.YtgdbfbalchdmcaaGreat
open Go Go.RM
namespace Go.Proofs.YtgdbfbalchdmcaaGreat
set_option maxRecDepth 100000
set_option maxHeartbeats 4000000
structure aH.Ok (c:aH):Prop where
 aI:c.aI.length≤maxLen
 I6:∀ x ∈ c.aI,x.name.data.toList.length≤maxLen
 ah:c.ah.length≤maxLen
 I7:∀ x ∈ c.ah,x.name.data.toList.length≤maxLen
def I8 (c:aH):Nat→Int:=dU gL.name eE c.aI
def F7 (c:aH):Nat→Int:=dU pO.name (gE c.aI.length) c.ah
def iD (c:aH):Int × Int × Int :=
 if (bH 1 3 [(c.aI.length:Int)] || bH 1 5 [(c.ah.length:Int)])=true then (1,0,3)
 else if bH 0 5 [c.least]=true then (1,0,7)
 else if (bq c.aI.length (I8 c)).2 ≠ 0 then (2,(bq c.aI.length (I8 c)).1,(bq c.aI.length (I8 c)).2)
 else if (bq c.ah.length (F7 c)).2 ≠ 0 then (3,(bq c.ah.length (F7 c)).1,(bq c.ah.length (F7 c)).2)
 else (0,0,0)
theorem BP (one:Bool) (c:aH) (h:c.Ok):Pu one 71 [.ag (bh c)] (.tp [ak (iD c).1,ak (iD c).2.1,ak (iD c).2.2]):=by
 have eg:((c.aI.map cm).length:Int)=c.aI.length:=by simp
 have em:((c.ah.map cL).length:Int)=c.ah.length:=by simp
 have o1:=kD one 1 3 ((c.aI.map cm).length:Int)
 have o2:=kD one 1 5 ((c.ah.map cL).length:Int)
 have o3:=kD one 0 5 c.least
 have n1:=Hi one c.aI h.aI h.I6
 have n2:=Hj one c h.aI c.ah h.ah h.I7
 rw [eg] at o1
 rw [em] at o2
 unfold iD
 cases e1:bH 1 3 [(c.aI.length:Int)] with
 | true =>
  rw [e1,←eg] at o1
  rw [if_pos (by rfl)]
  refine af.body (fn:=Tryz.f71) rfl rfl rfl rfl ?_;refine aa (mu:=fun _=>false) ?_
  repeat' (first |refine u1 ?_ |((with_reducible show au _ _ _ _ _ _ _ _);refine af.call o1 rfl rfl ?_) |((with_reducible show au _ _ _ _ _ _ _ _);refine af.call o2 rfl rfl ?_) |((with_reducible show au _ _ _ _ _ _ _ _);refine af.call o3 rfl rfl ?_) |((with_reducible show au _ _ _ _ _ _ _ _);refine af.call n1 rfl rfl ?_) |((with_reducible show au _ _ _ _ _ _ _ _);refine af.call n2 rfl rfl ?_) |refine u2 ?_ |fail)
  exact ⟨[_,_,_],⟨Fz.deep rfl,Fz.deep rfl,Fz.deep rfl,trivial⟩,rfl⟩
 | false =>
  rw [e1,←eg] at o1
  cases e2:bH 1 5 [(c.ah.length:Int)] with
  | true =>
   rw [e2,←em] at o2
   rw [if_pos (by rfl)]
   refine af.body (fn:=Tryz.f71) rfl rfl rfl rfl ?_;refine aa (mu:=fun _=>false) ?_
   repeat' (first |refine u1 ?_ |((with_reducible show au _ _ _ _ _ _ _ _);refine af.call o1 rfl rfl ?_) |((with_reducible show au _ _ _ _ _ _ _ _);refine af.call o2 rfl rfl ?_) |((with_reducible show au _ _ _ _ _ _ _ _);refine af.call o3 rfl rfl ?_) |((with_reducible show au _ _ _ _ _ _ _ _);refine af.call n1 rfl rfl ?_) |((with_reducible show au _ _ _ _ _ _ _ _);refine af.call n2 rfl rfl ?_) |refine u2 ?_ |fail)
   exact ⟨[_,_,_],⟨Fz.deep rfl,Fz.deep rfl,Fz.deep rfl,trivial⟩,rfl⟩
  | false =>
   rw [e2,←em] at o2
   rw [if_neg (by simp)]
   cases e3:bH 0 5 [c.least] with
   | true =>
    rw [e3] at o3
    rw [if_pos (by rfl)]
    refine af.body (fn:=Tryz.f71) rfl rfl rfl rfl ?_;refine aa (mu:=fun _=>false) ?_
    repeat' (first |refine u1 ?_ |((with_reducible show au _ _ _ _ _ _ _ _);refine af.call o1 rfl rfl ?_) |((with_reducible show au _ _ _ _ _ _ _ _);refine af.call o2 rfl rfl ?_) |((with_reducible show au _ _ _ _ _ _ _ _);refine af.call o3 rfl rfl ?_) |((with_reducible show au _ _ _ _ _ _ _ _);refine af.call n1 rfl rfl ?_) |((with_reducible show au _ _ _ _ _ _ _ _);refine af.call n2 rfl rfl ?_) |refine u2 ?_ |fail)
    exact ⟨[_,_,_],⟨Fz.deep rfl,Fz.deep rfl,Fz.deep rfl,trivial⟩,rfl⟩
   | false =>
    rw [e3] at o3
    rw [if_neg (by simp)]
    unfold I8 F7
    generalize bq c.aI.length (dU gL.name eE c.aI)=x at *
    generalize bq c.ah.length (dU pO.name (gE c.aI.length) c.ah)=y at *
    obtain ⟨x1,x2⟩:=x
    obtain ⟨y1,y2⟩:=y
    dsimp only at *
    cases e4:decide (x2=0) with
    | false =>
     have d4:(!decide (x2=0))=true:=by rw [e4];rfl
     rw [if_pos (of_decide_eq_false e4)]
     refine af.body (fn:=Tryz.f71) rfl rfl rfl rfl ?_;refine aa (mu:=fun _=>false) ?_
     repeat' (first |refine u1 ?_ |((with_reducible show au _ _ _ _ _ _ _ _);refine af.call o1 rfl rfl ?_) |((with_reducible show au _ _ _ _ _ _ _ _);refine af.call o2 rfl rfl ?_) |((with_reducible show au _ _ _ _ _ _ _ _);refine af.call o3 rfl rfl ?_) |((with_reducible show au _ _ _ _ _ _ _ _);refine af.call n1 rfl rfl ?_) |((with_reducible show au _ _ _ _ _ _ _ _);refine af.call n2 rfl rfl ?_) |refine u2 ?_ |fail)
     exact ⟨[_,_,_],⟨Fz.deep rfl,Fz.deep rfl,Fz.deep rfl,trivial⟩,rfl⟩
    | true =>
     have d4:(!decide (x2=0))=false:=by rw [e4];rfl
     rw [if_neg (fun hh=>hh (of_decide_eq_true e4))]
     cases e5:decide (y2=0) with
     | false =>
      have d5:(!decide (y2=0))=true:=by rw [e5];rfl
      rw [if_pos (of_decide_eq_false e5)]
      refine af.body (fn:=Tryz.f71) rfl rfl rfl rfl ?_;refine aa (mu:=fun _=>false) ?_
      repeat' (first |refine u1 ?_ |((with_reducible show au _ _ _ _ _ _ _ _);refine af.call o1 rfl rfl ?_) |((with_reducible show au _ _ _ _ _ _ _ _);refine af.call o2 rfl rfl ?_) |((with_reducible show au _ _ _ _ _ _ _ _);refine af.call o3 rfl rfl ?_) |((with_reducible show au _ _ _ _ _ _ _ _);refine af.call n1 rfl rfl ?_) |((with_reducible show au _ _ _ _ _ _ _ _);refine af.call n2 rfl rfl ?_) |refine u2 ?_ |fail)
      exact ⟨[_,_,_],⟨Fz.deep rfl,Fz.deep rfl,Fz.deep rfl,trivial⟩,rfl⟩
     | true =>
      have d5:(!decide (y2=0))=false:=by rw [e5];rfl
      rw [if_neg (fun hh=>hh (of_decide_eq_true e5))]
      refine af.body (fn:=Tryz.f71) rfl rfl rfl rfl ?_;refine aa (mu:=fun _=>false) ?_
      repeat' (first |refine u1 ?_ |((with_reducible show au _ _ _ _ _ _ _ _);refine af.call o1 rfl rfl ?_) |((with_reducible show au _ _ _ _ _ _ _ _);refine af.call o2 rfl rfl ?_) |((with_reducible show au _ _ _ _ _ _ _ _);refine af.call o3 rfl rfl ?_) |((with_reducible show au _ _ _ _ _ _ _ _);refine af.call n1 rfl rfl ?_) |((with_reducible show au _ _ _ _ _ _ _ _);refine af.call n2 rfl rfl ?_) |refine u2 ?_ |fail)
      exact ⟨[_,_,_],⟨Fz.deep rfl,Fz.deep rfl,Fz.deep rfl,trivial⟩,rfl⟩
end Go.Proofs.YtgdbfbalchdmcaaGreat
