/-
  Contracts of the program's functions and of the document's. Lemmas alone; their conditions stand in them.
-/
import Derived.Test.YtlpmfgmldmdggaaGreatA3
import Derived.Test.YtlpmfgmldmdggaaGreatK1
open Go Go.RM
namespace Go.Proofs.YtlpmfgmldmdggaaGreat
set_option maxRecDepth 100000
set_option maxHeartbeats 4000000
theorem Df (one:Bool) (lo hi:Int) (l:List Int) (h:l.length≤maxLen):Pu one 51 [ah lo,ah hi,.sl (l.map eI) true] (BB (ec lo hi l)):=by
 have:=EZ one lo hi (l.map eI) true (by rw [List.all_map,List.all_eq_true];intro x _;rfl) (by simpa using h)
 rw [show (l.map eI).map JF=l by rw [List.map_map];exact List.map_id _] at this
 exact this
theorem jt (one:Bool) (lo hi a:Int):Pu one 51 [ah lo,ah hi,.sl [eI a] true] (BB (ec lo hi [a])):=Df one lo hi [a] (by simp [maxLen])
theorem Ig (one:Bool) (lo hi a b c:Int):Pu one 51 [ah lo,ah hi,.sl [eI a,eI b,eI c] true] (BB (ec lo hi [a,b,c])):=Df one lo hi [a,b,c] (by simp [maxLen])
theorem cC {lo hi a:Int} (h:ec lo hi [a]=false):lo≤a∧a≤hi:=by
 rw [bD] at h
 have h2:lP a lo hi=true:=by cases e:lP a lo hi with|true=>rfl|false=>rw [e] at h;cases h
 exact cM.1 h2
def dh {α:Type} (nm:α→ByteArray) (err:α→Int) (l:List α) (i:Nat):Int:=match l[i]? with
 | some x=>if iR (nm x)=false then 6 else if ((l.take i).any fun y=>xE (nm y) (nm x))=true then 5 else err x
 | none=>0
def dP (r:fL):Int:=if (ec 0 1000 [r.Gt] || ec 0 1000 [r.leave,r.Gu,r.nx])=true then 7 else 0
def fE (n:Int) (m:nQ):Int:=if ec 0 (n - 1) [m.iN]=true then 4 else if ec (-100000) 100000 [m.fm]=true then 7 else 0
theorem BX (one:Bool) (r:fL):Pu one 53 [.ag (bA r)] (ST r.name):=by
 refine af.body (fn:=Tryz.f53) rfl rfl rfl rfl ?_
 refine aa (mu:=fun _=>false) ?_
 repeat' (first |refine u1 ?_ |refine u2 ?_ |fail)
 exact ⟨[_],⟨Fz.deep rfl,trivial⟩,rfl⟩
theorem BZ (one:Bool) (m:nQ):Pu one 56 [.ag (bp m)] (ST m.name):=by
 refine af.body (fn:=Tryz.f56) rfl rfl rfl rfl ?_
 refine aa (mu:=fun _=>false) ?_
 repeat' (first |refine u1 ?_ |refine u2 ?_ |fail)
 exact ⟨[_],⟨Fz.deep rfl,trivial⟩,rfl⟩
theorem Ih (one:Bool) (r:fL):Pu one 54 [.ag (bA r)] (ah (dP r)):=by
 have o1:=jt one 0 1000 r.Gt
 have o2:=Ig one 0 1000 r.leave r.Gu r.nx
 unfold dP
 cases e1:ec 0 1000 [r.Gt] <;> cases e2:ec 0 1000 [r.leave,r.Gu,r.nx] <;> rw [e1] at o1 <;> rw [e2] at o2
 all_goals refine af.body (fn:=Tryz.f54) rfl rfl rfl rfl ?_
 all_goals refine aa (mu:=fun _=>false) ?_
 all_goals
  repeat' (first |refine u1 ?_ |((with_reducible show ai _ _ _ _ _ _ _ _);refine af.call o1 rfl rfl ?_) |((with_reducible show ai _ _ _ _ _ _ _ _);refine af.call o2 rfl rfl ?_) |refine u2 ?_ |fail)
 all_goals exact ⟨[_],⟨Fz.deep rfl,trivial⟩,rfl⟩
theorem Ii (one:Bool) (c:ay) (hc:c.aA.length≤maxLen) (m:nQ):af TT TB one (.fn 57 [] [.pt (aF c) 0]) [.ag (bp m)] (ah (fE c.aA.length m)):=by
 have eg:((c.aA.map bA).length:Int)=c.aA.length:=by simp
 have ml:c.aA.length≤9223372036854775807:=Nat.le_trans hc (by simp [maxLen])
 have o1:=jt one 0 (((c.aA.map bA).length:Int) - 1) m.iN
 rw [eg] at o1
 have o2:=jt one (-100000) 100000 m.fm
 unfold fE
 cases e1:ec 0 ((c.aA.length:Int) - 1) [m.iN] <;> cases e2:ec (-100000) 100000 [m.fm] <;> rw [e1,←eg] at o1 <;> rw [e2] at o2
 all_goals refine af.body (fn:=Tryz.f57) rfl rfl rfl rfl ?_
 all_goals refine aa (mu:=fun _=>false) ?_
 all_goals
  repeat' (first |refine u1 ?_ |((with_reducible show ai _ _ _ _ _ _ _ _);refine af.call o1 rfl rfl ?_) |((with_reducible show ai _ _ _ _ _ _ _ _);refine af.call o2 rfl rfl ?_) |refine u2 ?_ |fail)
 all_goals exact ⟨[_],⟨Fz.deep rfl,trivial⟩,rfl⟩
theorem GA (one:Bool) (s:ByteArray) (r:fL):af TT TB one (.fn 99 [] [.pt [.fn 53 [] []] 0,.pt [ST s] 0]) [.ag (bA r)] (BB (xE r.name s)):=by
 have h1:=BX true r
 refine af.body (fn:=Tryz.f99) rfl rfl rfl rfl ?_
 refine aa (mu:=fun _=>false) ?_
 repeat' (first |refine u1 ?_ |(refine ⟨_,_,.inl ⟨rfl,rfl⟩,h1,?_⟩) |refine u2 ?_ |fail)
 exact ⟨[_],⟨Fz.deep rfl,trivial⟩,rfl⟩
theorem E8 (one:Bool) (s:ByteArray) (r:nQ):af TT TB one (.fn 101 [] [.pt [.fn 56 [] []] 0,.pt [ST s] 0]) [.ag (bp r)] (BB (xE r.name s)):=by
 have h1:=BZ true r
 refine af.body (fn:=Tryz.f101) rfl rfl rfl rfl ?_
 refine aa (mu:=fun _=>false) ?_
 repeat' (first |refine u1 ?_ |(refine ⟨_,_,.inl ⟨rfl,rfl⟩,h1,?_⟩) |refine u2 ?_ |fail)
 exact ⟨[_],⟨Fz.deep rfl,trivial⟩,rfl⟩
end Go.Proofs.YtlpmfgmldmdggaaGreat
open Go Go.RM
namespace Go.Proofs.YtlpmfgmldmdggaaGreat
set_option maxRecDepth 100000
set_option maxHeartbeats 4000000
theorem E9 (one:Bool) (l:List fL) (hl:l.length≤maxLen) (hn:∀ x ∈ l,x.name.data.toList.length≤maxLen):Pu one 52 [.sl (l.map bA) false,.fn 53 [] [],.fn 54 [] []] (.tp [ah (cL l.length (dh fL.name dP l)).1,ah (cL l.length (dh fL.name dP l)).2]):=by
 have ml:l.length≤9223372036854775807:=Nat.le_trans hl (by simp [maxLen])
 have eg:((l.map bA).length:Int)=l.length:=by simp
 obtain ⟨n,hnn⟩:∃ n:Int,n=l.length:=⟨_,rfl⟩
 refine af.body (fn:=Tryz.f52) rfl rfl rfl rfl ?_
 refine aa (mu:=fun _=>false) ?_
 repeat' (first |refine u1 ?_ |refine u2 ?_ |fail)
 refine aC.bx (aj.to (l:=[(0,.sl (l.map bA) false),(2,.fn 54 [] []),(4,.pt [.fn 53 [] []] 0),(12,.sl (l.map bA) false),(13,ah n),(14,ah (0:Nat))]) (hp:=[]) 0 rfl ⟨rfl,rfl,rfl,rfl,cK (by rw [hnn];exact eg),rfl,trivial⟩ (Nat.zero_le _) rfl rfl) ?_
 refine aC.loop (fun k:Nat=>k≤l.length∧∀ i,i < k→dh fL.name dP l i=0) (fun k=>⟨bM [(0,.sl (l.map bA) false),(2,.fn 54 [] []),(4,.pt [.fn 53 [] []] 0),(12,.sl (l.map bA) false),(13,ah n),(14,ah (k:Nat))],[],bw.none,false,0⟩) (fun k=>l.length - k) ?_ 0 ⟨Nat.zero_le _,fun i hi=>absurd hi (Nat.not_lt_zero _)⟩
 rintro k ⟨hk,hprev⟩
 refine aa (mu:=fun _=>false) ?_
 by_cases hlt:k < l.length
 ·have d1:decide ((k:Int) < n)=true:=decide_eq_true (by omega)
  have hat:(l.map bA)[((k:Nat):Int).toNat]?=some (bA l[k]):=bG hlt
  have hga:dh fL.name dP l k=if iR l[k].name=false then 6 else if ((l.take k).any fun y=>xE y.name l[k].name)=true then 5 else dP l[k]:=by unfold dh;rw [List.getElem?_eq_getElem hlt]
  have h1:=BX one l[k]
  have h2:=Gw one l[k].name (hn _ (List.getElem_mem hlt))
  have h4:=Ih one l[k]
  have h3:∀ f,Pu one 98 [.sl ((l.take k).map bA) f,.fn 99 [] [.pt [.fn 53 [] []] 0,.pt [ST l[k].name] 0]] (BB ((l.take k).any fun y=>xE y.name l[k].name)):=fun f=>tB one 99 [] _ rfl (fun y=>xE y.name l[k].name) (l.take k) f (by rw [List.length_take];omega) (fun x _=>GA one l[k].name x)
  have hsl:((l.map bA).drop 0).take (k - 0)=(l.take k).map bA:=by
   rw [List.drop_zero,Nat.sub_zero,List.map_take]
  rw [←hsl] at h3
  have hkl:0≤k∧k≤(l.map bA).length:=⟨Nat.zero_le _,by rw [List.length_map];omega⟩
  have hel:∀ el ∈ l.map bA,el.length=5:=fun el hel=>by obtain ⟨x,_,rfl⟩:=List.mem_map.1 hel;rfl
  have fin:∀ v,dh fL.name dP l k=v→v ≠ 0→cL l.length (dh fL.name dP l)=((k:Int),v):=fun v e hv=>by
   rw [lN hlt hprev (by rw [e];exact hv),e]
  generalize l[k]=g at *
  cases q1:iR g.name with
  | false =>
   rw [q1] at h2
   rw [fin 6 (by rw [hga,if_pos q1]) (by decide)]
   repeat' (first |((with_reducible show ai _ _ _ _ _ _ _ _);refine af.call h1 rfl rfl ?_) |((with_reducible show ai _ _ _ _ _ _ _ _);refine af.call h2 rfl rfl ?_) |((with_reducible show ai _ _ _ _ _ _ _ _);refine af.call h4 rfl rfl ?_) |refine u1 ?_ |((with_reducible show RM.wpOp _ _ (.indexAddr _ _ _) _ _ _);refine ⟨bA g,⟨by omega,hat⟩,rfl,?_⟩) |(refine ⟨0,k,rfl,rfl,hkl,(by decide),hel,?_⟩) |((with_reducible show ai _ _ _ _ _ _ _ _);refine af.ur (h3 _) (Fq.deep rfl) (e7.cons (Fq.deep rfl) (e7.cons (e7.I9 e7.nil (e7.cons (Fq.deep rfl) (e7.cons (Fq.ptr rfl rfl) e7.nil))) e7.nil)) (iM.fl _) ?_) |refine u2 ?_ |fail)
   exact ⟨[_,_],⟨Fz.deep rfl,Fz.deep rfl,trivial⟩,rfl⟩
  | true =>
   rw [q1] at h2
   have q1':¬ iR g.name=false:=by rw [q1];simp
   cases q2:(l.take k).any fun y=>xE y.name g.name with
   | true =>
    simp only [q2] at h3
    rw [fin 5 (by rw [hga,if_neg q1',if_pos q2]) (by decide)]
    repeat' (first |((with_reducible show ai _ _ _ _ _ _ _ _);refine af.call h1 rfl rfl ?_) |((with_reducible show ai _ _ _ _ _ _ _ _);refine af.call h2 rfl rfl ?_) |((with_reducible show ai _ _ _ _ _ _ _ _);refine af.call h4 rfl rfl ?_) |refine u1 ?_ |((with_reducible show RM.wpOp _ _ (.indexAddr _ _ _) _ _ _);refine ⟨bA g,⟨by omega,hat⟩,rfl,?_⟩) |(refine ⟨0,k,rfl,rfl,hkl,(by decide),hel,?_⟩) |((with_reducible show ai _ _ _ _ _ _ _ _);refine af.ur (h3 _) (Fq.deep rfl) (e7.cons (Fq.deep rfl) (e7.cons (e7.I9 e7.nil (e7.cons (Fq.deep rfl) (e7.cons (Fq.ptr rfl rfl) e7.nil))) e7.nil)) (iM.fl _) ?_) |refine u2 ?_ |fail)
    exact ⟨[_,_],⟨Fz.deep rfl,Fz.deep rfl,trivial⟩,rfl⟩
   | false =>
    simp only [q2] at h3
    have q2':¬ ((l.take k).any fun y=>xE y.name g.name)=true:=by rw [q2];simp
    have hv:dh fL.name dP l k=dP g:=by rw [hga,if_neg q1',if_neg q2']
    generalize dP g=v at *
    cases q3:decide (v=0) with
    | false =>
     have d3:(!decide (v=0))=true:=by rw [q3];rfl
     rw [fin v hv (of_decide_eq_false q3)]
     repeat' (first |((with_reducible show ai _ _ _ _ _ _ _ _);refine af.call h1 rfl rfl ?_) |((with_reducible show ai _ _ _ _ _ _ _ _);refine af.call h2 rfl rfl ?_) |((with_reducible show ai _ _ _ _ _ _ _ _);refine af.call h4 rfl rfl ?_) |refine u1 ?_ |((with_reducible show RM.wpOp _ _ (.indexAddr _ _ _) _ _ _);refine ⟨bA g,⟨by omega,hat⟩,rfl,?_⟩) |(refine ⟨0,k,rfl,rfl,hkl,(by decide),hel,?_⟩) |((with_reducible show ai _ _ _ _ _ _ _ _);refine af.ur (h3 _) (Fq.deep rfl) (e7.cons (Fq.deep rfl) (e7.cons (e7.I9 e7.nil (e7.cons (Fq.deep rfl) (e7.cons (Fq.ptr rfl rfl) e7.nil))) e7.nil)) (iM.fl _) ?_) |refine u2 ?_ |fail)
     exact ⟨[_,_],⟨Fz.deep rfl,Fz.deep rfl,trivial⟩,rfl⟩
    | true =>
     have d3:(!decide (v=0))=false:=by rw [q3];rfl
     have e0:dh fL.name dP l k=0:=hv.trans (of_decide_eq_true q3)
     repeat' (first |((with_reducible show ai _ _ _ _ _ _ _ _);refine af.call h1 rfl rfl ?_) |((with_reducible show ai _ _ _ _ _ _ _ _);refine af.call h2 rfl rfl ?_) |((with_reducible show ai _ _ _ _ _ _ _ _);refine af.call h4 rfl rfl ?_) |refine u1 ?_ |((with_reducible show RM.wpOp _ _ (.indexAddr _ _ _) _ _ _);refine ⟨bA g,⟨by omega,hat⟩,rfl,?_⟩) |(refine ⟨0,k,rfl,rfl,hkl,(by decide),hel,?_⟩) |((with_reducible show ai _ _ _ _ _ _ _ _);refine af.ur (h3 _) (Fq.deep rfl) (e7.cons (Fq.deep rfl) (e7.cons (e7.I9 e7.nil (e7.cons (Fq.deep rfl) (e7.cons (Fq.ptr rfl rfl) e7.nil))) e7.nil)) (iM.fl _) ?_) |refine u2 ?_ |fail)
     refine ⟨k+1,⟨hlt,fun i hi=>?_⟩,(by dsimp only;omega),aj.to 0 rfl ⟨rfl,rfl,rfl,rfl,rfl,cK (by simp),trivial⟩ (Nat.zero_le _) rfl rfl⟩
     by_cases hik:i=k
     ·subst hik;exact e0
     ·exact hprev i (by omega)
 ·have d1:decide ((k:Int) < n)=false:=decide_eq_false (by omega)
  rw [lO (fun i hi=>hprev i (by omega))]
  repeat' (first |refine u1 ?_ |refine u2 ?_ |fail)
  exact ⟨[_,_],⟨Fz.deep rfl,Fz.deep rfl,trivial⟩,rfl⟩
theorem Fa (one:Bool) (c:ay) (hc:c.aA.length≤maxLen) (l:List nQ) (hl:l.length≤maxLen) (hn:∀ x ∈ l,x.name.data.toList.length≤maxLen):Pu one 55 [.sl (l.map bp) false,.fn 56 [] [],.fn 57 [] [.pt (aF c) 0]] (.tp [ah (cL l.length (dh nQ.name (fE c.aA.length) l)).1,ah (cL l.length (dh nQ.name (fE c.aA.length) l)).2]):=by
 have ml:l.length≤9223372036854775807:=Nat.le_trans hl (by simp [maxLen])
 have eg:((l.map bp).length:Int)=l.length:=by simp
 obtain ⟨n,hnn⟩:∃ n:Int,n=l.length:=⟨_,rfl⟩
 refine af.body (fn:=Tryz.f55) rfl rfl rfl rfl ?_
 refine aa (mu:=fun _=>false) ?_
 repeat' (first |refine u1 ?_ |refine u2 ?_ |fail)
 refine aC.bx (aj.to (l:=[(0,.sl (l.map bp) false),(2,.fn 57 [] [.pt (aF c) 0]),(4,.pt [.fn 56 [] []] 0),(12,.sl (l.map bp) false),(13,ah n),(14,ah (0:Nat))]) (hp:=[]) 0 rfl ⟨rfl,rfl,rfl,rfl,cK (by rw [hnn];exact eg),rfl,trivial⟩ (Nat.zero_le _) rfl rfl) ?_
 refine aC.loop (fun k:Nat=>k≤l.length∧∀ i,i < k→dh nQ.name (fE c.aA.length) l i=0) (fun k=>⟨bM [(0,.sl (l.map bp) false),(2,.fn 57 [] [.pt (aF c) 0]),(4,.pt [.fn 56 [] []] 0),(12,.sl (l.map bp) false),(13,ah n),(14,ah (k:Nat))],[],bw.none,false,0⟩) (fun k=>l.length - k) ?_ 0 ⟨Nat.zero_le _,fun i hi=>absurd hi (Nat.not_lt_zero _)⟩
 rintro k ⟨hk,hprev⟩
 refine aa (mu:=fun _=>false) ?_
 by_cases hlt:k < l.length
 ·have d1:decide ((k:Int) < n)=true:=decide_eq_true (by omega)
  have hat:(l.map bp)[((k:Nat):Int).toNat]?=some (bp l[k]):=bG hlt
  have hga:dh nQ.name (fE c.aA.length) l k=if iR l[k].name=false then 6 else if ((l.take k).any fun y=>xE y.name l[k].name)=true then 5 else (fE c.aA.length) l[k]:=by unfold dh;rw [List.getElem?_eq_getElem hlt]
  have h1:=BZ one l[k]
  have h2:=Gw one l[k].name (hn _ (List.getElem_mem hlt))
  have h4:=Ii one c hc l[k]
  have h3:∀ f,Pu one 100 [.sl ((l.take k).map bp) f,.fn 101 [] [.pt [.fn 56 [] []] 0,.pt [ST l[k].name] 0]] (BB ((l.take k).any fun y=>xE y.name l[k].name)):=fun f=>sx one 101 [] _ rfl (fun y=>xE y.name l[k].name) (l.take k) f (by rw [List.length_take];omega) (fun x _=>E8 one l[k].name x)
  have hsl:((l.map bp).drop 0).take (k - 0)=(l.take k).map bp:=by
   rw [List.drop_zero,Nat.sub_zero,List.map_take]
  rw [←hsl] at h3
  have hkl:0≤k∧k≤(l.map bp).length:=⟨Nat.zero_le _,by rw [List.length_map];omega⟩
  have hel:∀ el ∈ l.map bp,el.length=4:=fun el hel=>by obtain ⟨x,_,rfl⟩:=List.mem_map.1 hel;rfl
  have fin:∀ v,dh nQ.name (fE c.aA.length) l k=v→v ≠ 0→cL l.length (dh nQ.name (fE c.aA.length) l)=((k:Int),v):=fun v e hv=>by
   rw [lN hlt hprev (by rw [e];exact hv),e]
  generalize l[k]=g at *
  cases q1:iR g.name with
  | false =>
   rw [q1] at h2
   rw [fin 6 (by rw [hga,if_pos q1]) (by decide)]
   repeat' (first |((with_reducible show ai _ _ _ _ _ _ _ _);refine af.call h1 rfl rfl ?_) |((with_reducible show ai _ _ _ _ _ _ _ _);refine af.call h2 rfl rfl ?_) |((with_reducible show ai _ _ _ _ _ _ _ _);refine af.call h4 rfl rfl ?_) |refine u1 ?_ |((with_reducible show RM.wpOp _ _ (.indexAddr _ _ _) _ _ _);refine ⟨bp g,⟨by omega,hat⟩,rfl,?_⟩) |(refine ⟨0,k,rfl,rfl,hkl,(by decide),hel,?_⟩) |((with_reducible show ai _ _ _ _ _ _ _ _);refine af.ur (h3 _) (Fq.deep rfl) (e7.cons (Fq.deep rfl) (e7.cons (e7.I9 e7.nil (e7.cons (Fq.deep rfl) (e7.cons (Fq.ptr rfl rfl) e7.nil))) e7.nil)) (iM.fl _) ?_) |refine u2 ?_ |fail)
   exact ⟨[_,_],⟨Fz.deep rfl,Fz.deep rfl,trivial⟩,rfl⟩
  | true =>
   rw [q1] at h2
   have q1':¬ iR g.name=false:=by rw [q1];simp
   cases q2:(l.take k).any fun y=>xE y.name g.name with
   | true =>
    simp only [q2] at h3
    rw [fin 5 (by rw [hga,if_neg q1',if_pos q2]) (by decide)]
    repeat' (first |((with_reducible show ai _ _ _ _ _ _ _ _);refine af.call h1 rfl rfl ?_) |((with_reducible show ai _ _ _ _ _ _ _ _);refine af.call h2 rfl rfl ?_) |((with_reducible show ai _ _ _ _ _ _ _ _);refine af.call h4 rfl rfl ?_) |refine u1 ?_ |((with_reducible show RM.wpOp _ _ (.indexAddr _ _ _) _ _ _);refine ⟨bp g,⟨by omega,hat⟩,rfl,?_⟩) |(refine ⟨0,k,rfl,rfl,hkl,(by decide),hel,?_⟩) |((with_reducible show ai _ _ _ _ _ _ _ _);refine af.ur (h3 _) (Fq.deep rfl) (e7.cons (Fq.deep rfl) (e7.cons (e7.I9 e7.nil (e7.cons (Fq.deep rfl) (e7.cons (Fq.ptr rfl rfl) e7.nil))) e7.nil)) (iM.fl _) ?_) |refine u2 ?_ |fail)
    exact ⟨[_,_],⟨Fz.deep rfl,Fz.deep rfl,trivial⟩,rfl⟩
   | false =>
    simp only [q2] at h3
    have q2':¬ ((l.take k).any fun y=>xE y.name g.name)=true:=by rw [q2];simp
    have hv:dh nQ.name (fE c.aA.length) l k=(fE c.aA.length) g:=by rw [hga,if_neg q1',if_neg q2']
    generalize (fE c.aA.length) g=v at *
    cases q3:decide (v=0) with
    | false =>
     have d3:(!decide (v=0))=true:=by rw [q3];rfl
     rw [fin v hv (of_decide_eq_false q3)]
     repeat' (first |((with_reducible show ai _ _ _ _ _ _ _ _);refine af.call h1 rfl rfl ?_) |((with_reducible show ai _ _ _ _ _ _ _ _);refine af.call h2 rfl rfl ?_) |((with_reducible show ai _ _ _ _ _ _ _ _);refine af.call h4 rfl rfl ?_) |refine u1 ?_ |((with_reducible show RM.wpOp _ _ (.indexAddr _ _ _) _ _ _);refine ⟨bp g,⟨by omega,hat⟩,rfl,?_⟩) |(refine ⟨0,k,rfl,rfl,hkl,(by decide),hel,?_⟩) |((with_reducible show ai _ _ _ _ _ _ _ _);refine af.ur (h3 _) (Fq.deep rfl) (e7.cons (Fq.deep rfl) (e7.cons (e7.I9 e7.nil (e7.cons (Fq.deep rfl) (e7.cons (Fq.ptr rfl rfl) e7.nil))) e7.nil)) (iM.fl _) ?_) |refine u2 ?_ |fail)
     exact ⟨[_,_],⟨Fz.deep rfl,Fz.deep rfl,trivial⟩,rfl⟩
    | true =>
     have d3:(!decide (v=0))=false:=by rw [q3];rfl
     have e0:dh nQ.name (fE c.aA.length) l k=0:=hv.trans (of_decide_eq_true q3)
     repeat' (first |((with_reducible show ai _ _ _ _ _ _ _ _);refine af.call h1 rfl rfl ?_) |((with_reducible show ai _ _ _ _ _ _ _ _);refine af.call h2 rfl rfl ?_) |((with_reducible show ai _ _ _ _ _ _ _ _);refine af.call h4 rfl rfl ?_) |refine u1 ?_ |((with_reducible show RM.wpOp _ _ (.indexAddr _ _ _) _ _ _);refine ⟨bp g,⟨by omega,hat⟩,rfl,?_⟩) |(refine ⟨0,k,rfl,rfl,hkl,(by decide),hel,?_⟩) |((with_reducible show ai _ _ _ _ _ _ _ _);refine af.ur (h3 _) (Fq.deep rfl) (e7.cons (Fq.deep rfl) (e7.cons (e7.I9 e7.nil (e7.cons (Fq.deep rfl) (e7.cons (Fq.ptr rfl rfl) e7.nil))) e7.nil)) (iM.fl _) ?_) |refine u2 ?_ |fail)
     refine ⟨k+1,⟨hlt,fun i hi=>?_⟩,(by dsimp only;omega),aj.to 0 rfl ⟨rfl,rfl,rfl,rfl,rfl,cK (by simp),trivial⟩ (Nat.zero_le _) rfl rfl⟩
     by_cases hik:i=k
     ·subst hik;exact e0
     ·exact hprev i (by omega)
 ·have d1:decide ((k:Int) < n)=false:=decide_eq_false (by omega)
  rw [lO (fun i hi=>hprev i (by omega))]
  repeat' (first |refine u1 ?_ |refine u2 ?_ |fail)
  exact ⟨[_,_],⟨Fz.deep rfl,Fz.deep rfl,trivial⟩,rfl⟩
end Go.Proofs.YtlpmfgmldmdggaaGreat
open Go Go.RM
namespace Go.Proofs.YtlpmfgmldmdggaaGreat
set_option maxRecDepth 100000
set_option maxHeartbeats 4000000
structure ay.Ok (c:ay):Prop where
 aA:c.aA.length≤maxLen
 GC:∀ x ∈ c.aA,x.name.data.toList.length≤maxLen
 aG:c.aG.length≤maxLen
 GD:∀ x ∈ c.aG,x.name.data.toList.length≤maxLen
def GF (c:ay):Nat→Int:=dh fL.name dP c.aA
def D4 (c:ay):Nat→Int:=dh nQ.name (fE c.aA.length) c.aG
def nS (c:ay):Int × Int × Int :=
 if (ec 1 3 [(c.aA.length:Int)] || ec 1 5 [(c.aG.length:Int)])=true then (1,0,3)
 else if ec 0 5 [c.least]=true then (1,0,7)
 else if (cL c.aA.length (GF c)).2 ≠ 0 then (2,(cL c.aA.length (GF c)).1,(cL c.aA.length (GF c)).2)
 else if (cL c.aG.length (D4 c)).2 ≠ 0 then (3,(cL c.aG.length (D4 c)).1,(cL c.aG.length (D4 c)).2)
 else (0,0,0)
theorem D5 (one:Bool) (c:ay) (h:c.Ok):Pu one 16 [.ag (aF c)] (.tp [ah (nS c).1,ah (nS c).2.1,ah (nS c).2.2]):=by
 have eg:((c.aA.map bA).length:Int)=c.aA.length:=by simp
 have em:((c.aG.map bp).length:Int)=c.aG.length:=by simp
 have o1:=jt one 1 3 ((c.aA.map bA).length:Int)
 have o2:=jt one 1 5 ((c.aG.map bp).length:Int)
 have o3:=jt one 0 5 c.least
 have n1:=E9 one c.aA h.aA h.GC
 have n2:=Fa one c h.aA c.aG h.aG h.GD
 rw [eg] at o1
 rw [em] at o2
 unfold nS
 cases e1:ec 1 3 [(c.aA.length:Int)] with
 | true =>
  rw [e1,←eg] at o1
  rw [if_pos (by rfl)]
  refine af.body (fn:=Tryz.f16) rfl rfl rfl rfl ?_;refine aa (mu:=fun _=>false) ?_
  repeat' (first |refine u1 ?_ |((with_reducible show ai _ _ _ _ _ _ _ _);refine af.call o1 rfl rfl ?_) |((with_reducible show ai _ _ _ _ _ _ _ _);refine af.call o2 rfl rfl ?_) |((with_reducible show ai _ _ _ _ _ _ _ _);refine af.call o3 rfl rfl ?_) |((with_reducible show ai _ _ _ _ _ _ _ _);refine af.call n1 rfl rfl ?_) |((with_reducible show ai _ _ _ _ _ _ _ _);refine af.call n2 rfl rfl ?_) |refine u2 ?_ |fail)
  exact ⟨[_,_,_],⟨Fz.deep rfl,Fz.deep rfl,Fz.deep rfl,trivial⟩,rfl⟩
 | false =>
  rw [e1,←eg] at o1
  cases e2:ec 1 5 [(c.aG.length:Int)] with
  | true =>
   rw [e2,←em] at o2
   rw [if_pos (by rfl)]
   refine af.body (fn:=Tryz.f16) rfl rfl rfl rfl ?_;refine aa (mu:=fun _=>false) ?_
   repeat' (first |refine u1 ?_ |((with_reducible show ai _ _ _ _ _ _ _ _);refine af.call o1 rfl rfl ?_) |((with_reducible show ai _ _ _ _ _ _ _ _);refine af.call o2 rfl rfl ?_) |((with_reducible show ai _ _ _ _ _ _ _ _);refine af.call o3 rfl rfl ?_) |((with_reducible show ai _ _ _ _ _ _ _ _);refine af.call n1 rfl rfl ?_) |((with_reducible show ai _ _ _ _ _ _ _ _);refine af.call n2 rfl rfl ?_) |refine u2 ?_ |fail)
   exact ⟨[_,_,_],⟨Fz.deep rfl,Fz.deep rfl,Fz.deep rfl,trivial⟩,rfl⟩
  | false =>
   rw [e2,←em] at o2
   rw [if_neg (by simp)]
   cases e3:ec 0 5 [c.least] with
   | true =>
    rw [e3] at o3
    rw [if_pos (by rfl)]
    refine af.body (fn:=Tryz.f16) rfl rfl rfl rfl ?_;refine aa (mu:=fun _=>false) ?_
    repeat' (first |refine u1 ?_ |((with_reducible show ai _ _ _ _ _ _ _ _);refine af.call o1 rfl rfl ?_) |((with_reducible show ai _ _ _ _ _ _ _ _);refine af.call o2 rfl rfl ?_) |((with_reducible show ai _ _ _ _ _ _ _ _);refine af.call o3 rfl rfl ?_) |((with_reducible show ai _ _ _ _ _ _ _ _);refine af.call n1 rfl rfl ?_) |((with_reducible show ai _ _ _ _ _ _ _ _);refine af.call n2 rfl rfl ?_) |refine u2 ?_ |fail)
    exact ⟨[_,_,_],⟨Fz.deep rfl,Fz.deep rfl,Fz.deep rfl,trivial⟩,rfl⟩
   | false =>
    rw [e3] at o3
    rw [if_neg (by simp)]
    unfold GF D4
    generalize cL c.aA.length (dh fL.name dP c.aA)=x at *
    generalize cL c.aG.length (dh nQ.name (fE c.aA.length) c.aG)=y at *
    obtain ⟨x1,x2⟩:=x
    obtain ⟨y1,y2⟩:=y
    dsimp only at *
    cases e4:decide (x2=0) with
    | false =>
     have d4:(!decide (x2=0))=true:=by rw [e4];rfl
     rw [if_pos (of_decide_eq_false e4)]
     refine af.body (fn:=Tryz.f16) rfl rfl rfl rfl ?_;refine aa (mu:=fun _=>false) ?_
     repeat' (first |refine u1 ?_ |((with_reducible show ai _ _ _ _ _ _ _ _);refine af.call o1 rfl rfl ?_) |((with_reducible show ai _ _ _ _ _ _ _ _);refine af.call o2 rfl rfl ?_) |((with_reducible show ai _ _ _ _ _ _ _ _);refine af.call o3 rfl rfl ?_) |((with_reducible show ai _ _ _ _ _ _ _ _);refine af.call n1 rfl rfl ?_) |((with_reducible show ai _ _ _ _ _ _ _ _);refine af.call n2 rfl rfl ?_) |refine u2 ?_ |fail)
     exact ⟨[_,_,_],⟨Fz.deep rfl,Fz.deep rfl,Fz.deep rfl,trivial⟩,rfl⟩
    | true =>
     have d4:(!decide (x2=0))=false:=by rw [e4];rfl
     rw [if_neg (fun hh=>hh (of_decide_eq_true e4))]
     cases e5:decide (y2=0) with
     | false =>
      have d5:(!decide (y2=0))=true:=by rw [e5];rfl
      rw [if_pos (of_decide_eq_false e5)]
      refine af.body (fn:=Tryz.f16) rfl rfl rfl rfl ?_;refine aa (mu:=fun _=>false) ?_
      repeat' (first |refine u1 ?_ |((with_reducible show ai _ _ _ _ _ _ _ _);refine af.call o1 rfl rfl ?_) |((with_reducible show ai _ _ _ _ _ _ _ _);refine af.call o2 rfl rfl ?_) |((with_reducible show ai _ _ _ _ _ _ _ _);refine af.call o3 rfl rfl ?_) |((with_reducible show ai _ _ _ _ _ _ _ _);refine af.call n1 rfl rfl ?_) |((with_reducible show ai _ _ _ _ _ _ _ _);refine af.call n2 rfl rfl ?_) |refine u2 ?_ |fail)
      exact ⟨[_,_,_],⟨Fz.deep rfl,Fz.deep rfl,Fz.deep rfl,trivial⟩,rfl⟩
     | true =>
      have d5:(!decide (y2=0))=false:=by rw [e5];rfl
      rw [if_neg (fun hh=>hh (of_decide_eq_true e5))]
      refine af.body (fn:=Tryz.f16) rfl rfl rfl rfl ?_;refine aa (mu:=fun _=>false) ?_
      repeat' (first |refine u1 ?_ |((with_reducible show ai _ _ _ _ _ _ _ _);refine af.call o1 rfl rfl ?_) |((with_reducible show ai _ _ _ _ _ _ _ _);refine af.call o2 rfl rfl ?_) |((with_reducible show ai _ _ _ _ _ _ _ _);refine af.call o3 rfl rfl ?_) |((with_reducible show ai _ _ _ _ _ _ _ _);refine af.call n1 rfl rfl ?_) |((with_reducible show ai _ _ _ _ _ _ _ _);refine af.call n2 rfl rfl ?_) |refine u2 ?_ |fail)
      exact ⟨[_,_,_],⟨Fz.deep rfl,Fz.deep rfl,Fz.deep rfl,trivial⟩,rfl⟩
end Go.Proofs.YtlpmfgmldmdggaaGreat
