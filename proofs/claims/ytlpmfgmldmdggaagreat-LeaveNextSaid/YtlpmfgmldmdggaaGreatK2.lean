/-
  Contracts of the program's functions and of the document's. Lemmas alone; their conditions stand in them.
-/
import Derived.Test.YtlpmfgmldmdggaaGreatA3
import Derived.Test.YtlpmfgmldmdggaaGreatK1
open Go Go.RM
namespace Go.Proofs.YtlpmfgmldmdggaaGreat
set_option maxRecDepth 100000
set_option maxHeartbeats 4000000
theorem Cj (one:Bool) (lo hi:Int) (l:List Int) (h:l.length≤maxLen):Pu one 51 [aj lo,aj hi,.sl (l.map eI) true] (BB (dR lo hi l)):=by
 have:=DO one lo hi (l.map eI) true (by rw [List.all_map,List.all_eq_true];intro x _;rfl) (by simpa using h)
 rw [show (l.map eI).map HY=l by rw [List.map_map];exact List.map_id _] at this
 exact this
theorem jn (one:Bool) (lo hi a:Int):Pu one 51 [aj lo,aj hi,.sl [eI a] true] (BB (dR lo hi [a])):=Cj one lo hi [a] (by simp [maxLen])
theorem GG (one:Bool) (lo hi a b c:Int):Pu one 51 [aj lo,aj hi,.sl [eI a,eI b,eI c] true] (BB (dR lo hi [a,b,c])):=Cj one lo hi [a,b,c] (by simp [maxLen])
theorem cI {lo hi a:Int} (h:dR lo hi [a]=false):lo≤a∧a≤hi:=by
 rw [bp] at h
 have h2:kS a lo hi=true:=by cases e:kS a lo hi with|true=>rfl|false=>rw [e] at h;cases h
 exact bL.1 h2
def cW {α:Type} (nm:α→ByteArray) (err:α→Int) (l:List α) (i:Nat):Int:=match l[i]? with
 | some x=>if iH (nm x)=false then 6 else if ((l.take i).any fun y=>wB (nm y) (nm x))=true then 5 else err x
 | none=>0
def dG (r:fA):Int:=if (dR 0 1000 [r.Fc] || dR 0 1000 [r.leave,r.Fe,r.m9])=true then 7 else 0
def fh (n:Int) (m:nE):Int:=if dR 0 (n - 1) [m.lR]=true then 4 else if dR (-100000) 100000 [m.gI]=true then 7 else 0
theorem A5 (one:Bool) (r:fA):Pu one 53 [.ag (bu r)] (ST r.name):=by
 refine af.body (fn:=Tryz.f53) rfl rfl rfl rfl ?_
 refine aa (mu:=fun _=>false) ?_
 repeat' (first |refine u1 ?_ |refine u2 ?_ |fail)
 exact ⟨[_],⟨Fz.deep rfl,trivial⟩,rfl⟩
theorem A6 (one:Bool) (m:nE):Pu one 56 [.ag (bG m)] (ST m.name):=by
 refine af.body (fn:=Tryz.f56) rfl rfl rfl rfl ?_
 refine aa (mu:=fun _=>false) ?_
 repeat' (first |refine u1 ?_ |refine u2 ?_ |fail)
 exact ⟨[_],⟨Fz.deep rfl,trivial⟩,rfl⟩
theorem GH (one:Bool) (r:fA):Pu one 54 [.ag (bu r)] (aj (dG r)):=by
 have o1:=jn one 0 1000 r.Fc
 have o2:=GG one 0 1000 r.leave r.Fe r.m9
 unfold dG
 cases e1:dR 0 1000 [r.Fc] <;> cases e2:dR 0 1000 [r.leave,r.Fe,r.m9] <;> rw [e1] at o1 <;> rw [e2] at o2
 all_goals refine af.body (fn:=Tryz.f54) rfl rfl rfl rfl ?_
 all_goals refine aa (mu:=fun _=>false) ?_
 all_goals
  repeat' (first |refine u1 ?_ |((with_reducible show ah _ _ _ _ _ _ _ _);refine af.call o1 rfl rfl ?_) |((with_reducible show ah _ _ _ _ _ _ _ _);refine af.call o2 rfl rfl ?_) |refine u2 ?_ |fail)
 all_goals exact ⟨[_],⟨Fz.deep rfl,trivial⟩,rfl⟩
theorem GI (one:Bool) (c:ay) (hc:c.az.length≤maxLen) (m:nE):af TT TB one (.fn 57 [] [.pt (aX c) 0]) [.ag (bG m)] (aj (fh c.az.length m)):=by
 have eg:((c.az.map bu).length:Int)=c.az.length:=by simp
 have ml:c.az.length≤9223372036854775807:=Nat.le_trans hc (by simp [maxLen])
 have o1:=jn one 0 (((c.az.map bu).length:Int) - 1) m.lR
 rw [eg] at o1
 have o2:=jn one (-100000) 100000 m.gI
 unfold fh
 cases e1:dR 0 ((c.az.length:Int) - 1) [m.lR] <;> cases e2:dR (-100000) 100000 [m.gI] <;> rw [e1,←eg] at o1 <;> rw [e2] at o2
 all_goals refine af.body (fn:=Tryz.f57) rfl rfl rfl rfl ?_
 all_goals refine aa (mu:=fun _=>false) ?_
 all_goals
  repeat' (first |refine u1 ?_ |((with_reducible show ah _ _ _ _ _ _ _ _);refine af.call o1 rfl rfl ?_) |((with_reducible show ah _ _ _ _ _ _ _ _);refine af.call o2 rfl rfl ?_) |refine u2 ?_ |fail)
 all_goals exact ⟨[_],⟨Fz.deep rfl,trivial⟩,rfl⟩
theorem Fj (one:Bool) (s:ByteArray) (r:fA):af TT TB one (.fn 99 [] [.pt [.fn 53 [] []] 0,.pt [ST s] 0]) [.ag (bu r)] (BB (wB r.name s)):=by
 have h1:=A5 true r
 refine af.body (fn:=Tryz.f99) rfl rfl rfl rfl ?_
 refine aa (mu:=fun _=>false) ?_
 repeat' (first |refine u1 ?_ |(refine ⟨_,_,.inl ⟨rfl,rfl⟩,h1,?_⟩) |refine u2 ?_ |fail)
 exact ⟨[_],⟨Fz.deep rfl,trivial⟩,rfl⟩
theorem DS (one:Bool) (s:ByteArray) (r:nE):af TT TB one (.fn 101 [] [.pt [.fn 56 [] []] 0,.pt [ST s] 0]) [.ag (bG r)] (BB (wB r.name s)):=by
 have h1:=A6 true r
 refine af.body (fn:=Tryz.f101) rfl rfl rfl rfl ?_
 refine aa (mu:=fun _=>false) ?_
 repeat' (first |refine u1 ?_ |(refine ⟨_,_,.inl ⟨rfl,rfl⟩,h1,?_⟩) |refine u2 ?_ |fail)
 exact ⟨[_],⟨Fz.deep rfl,trivial⟩,rfl⟩
end Go.Proofs.YtlpmfgmldmdggaaGreat
open Go Go.RM
namespace Go.Proofs.YtlpmfgmldmdggaaGreat
set_option maxRecDepth 100000
set_option maxHeartbeats 4000000
theorem DT (one:Bool) (l:List fA) (hl:l.length≤maxLen) (hn:∀ x ∈ l,x.name.data.toList.length≤maxLen):Pu one 52 [.sl (l.map bu) false,.fn 53 [] [],.fn 54 [] []] (.tp [aj (cG l.length (cW fA.name dG l)).1,aj (cG l.length (cW fA.name dG l)).2]):=by
 have ml:l.length≤9223372036854775807:=Nat.le_trans hl (by simp [maxLen])
 have eg:((l.map bu).length:Int)=l.length:=by simp
 obtain ⟨n,hnn⟩:∃ n:Int,n=l.length:=⟨_,rfl⟩
 refine af.body (fn:=Tryz.f52) rfl rfl rfl rfl ?_
 refine aa (mu:=fun _=>false) ?_
 repeat' (first |refine u1 ?_ |refine u2 ?_ |fail)
 refine aL.cr (ai.to (l:=[(0,.sl (l.map bu) false),(2,.fn 54 [] []),(4,.pt [.fn 53 [] []] 0),(12,.sl (l.map bu) false),(13,aj n),(14,aj (0:Nat))]) (hp:=[]) 0 rfl ⟨rfl,rfl,rfl,rfl,cZ (by rw [hnn];exact eg),rfl,trivial⟩ (Nat.zero_le _) rfl rfl) ?_
 refine aL.loop (fun k:Nat=>k≤l.length∧∀ i,i < k→cW fA.name dG l i=0) (fun k=>⟨cz [(0,.sl (l.map bu) false),(2,.fn 54 [] []),(4,.pt [.fn 53 [] []] 0),(12,.sl (l.map bu) false),(13,aj n),(14,aj (k:Nat))],[],bF.none,false,0⟩) (fun k=>l.length - k) ?_ 0 ⟨Nat.zero_le _,fun i hi=>absurd hi (Nat.not_lt_zero _)⟩
 rintro k ⟨hk,hprev⟩
 refine aa (mu:=fun _=>false) ?_
 by_cases hlt:k < l.length
 ·have d1:decide ((k:Int) < n)=true:=decide_eq_true (by omega)
  have hat:(l.map bu)[((k:Nat):Int).toNat]?=some (bu l[k]):=cM hlt
  have hga:cW fA.name dG l k=if iH l[k].name=false then 6 else if ((l.take k).any fun y=>wB y.name l[k].name)=true then 5 else dG l[k]:=by unfold cW;rw [List.getElem?_eq_getElem hlt]
  have h1:=A5 one l[k]
  have h2:=Ff one l[k].name (hn _ (List.getElem_mem hlt))
  have h4:=GH one l[k]
  have h3:∀ f,Pu one 98 [.sl ((l.take k).map bu) f,.fn 99 [] [.pt [.fn 53 [] []] 0,.pt [ST l[k].name] 0]] (BB ((l.take k).any fun y=>wB y.name l[k].name)):=fun f=>sI one 99 [] _ rfl (fun y=>wB y.name l[k].name) (l.take k) f (by rw [List.length_take];omega) (fun x _=>Fj one l[k].name x)
  have hsl:((l.map bu).drop 0).take (k - 0)=(l.take k).map bu:=by
   rw [List.drop_zero,Nat.sub_zero,List.map_take]
  rw [←hsl] at h3
  have hkl:0≤k∧k≤(l.map bu).length:=⟨Nat.zero_le _,by rw [List.length_map];omega⟩
  have hel:∀ el ∈ l.map bu,el.length=5:=fun el hel=>by obtain ⟨x,_,rfl⟩:=List.mem_map.1 hel;rfl
  have fin:∀ v,cW fA.name dG l k=v→v ≠ 0→cG l.length (cW fA.name dG l)=((k:Int),v):=fun v e hv=>by
   rw [lE hlt hprev (by rw [e];exact hv),e]
  generalize l[k]=g at *
  cases q1:iH g.name with
  | false =>
   rw [q1] at h2
   rw [fin 6 (by rw [hga,if_pos q1]) (by decide)]
   repeat' (first |((with_reducible show ah _ _ _ _ _ _ _ _);refine af.call h1 rfl rfl ?_) |((with_reducible show ah _ _ _ _ _ _ _ _);refine af.call h2 rfl rfl ?_) |((with_reducible show ah _ _ _ _ _ _ _ _);refine af.call h4 rfl rfl ?_) |refine u1 ?_ |((with_reducible show RM.wpOp _ _ (.indexAddr _ _ _) _ _ _);refine ⟨bu g,⟨by omega,hat⟩,rfl,?_⟩) |(refine ⟨0,k,rfl,rfl,hkl,(by decide),hel,?_⟩) |((with_reducible show ah _ _ _ _ _ _ _ _);refine af.tB (h3 _) (Fq.deep rfl) (eT.cons (Fq.deep rfl) (eT.cons (eT.Ht eT.nil (eT.cons (Fq.deep rfl) (eT.cons (Fq.ptr rfl rfl) eT.nil))) eT.nil)) (iF.fl _) ?_) |refine u2 ?_ |fail)
   exact ⟨[_,_],⟨Fz.deep rfl,Fz.deep rfl,trivial⟩,rfl⟩
  | true =>
   rw [q1] at h2
   have q1':¬ iH g.name=false:=by rw [q1];simp
   cases q2:(l.take k).any fun y=>wB y.name g.name with
   | true =>
    simp only [q2] at h3
    rw [fin 5 (by rw [hga,if_neg q1',if_pos q2]) (by decide)]
    repeat' (first |((with_reducible show ah _ _ _ _ _ _ _ _);refine af.call h1 rfl rfl ?_) |((with_reducible show ah _ _ _ _ _ _ _ _);refine af.call h2 rfl rfl ?_) |((with_reducible show ah _ _ _ _ _ _ _ _);refine af.call h4 rfl rfl ?_) |refine u1 ?_ |((with_reducible show RM.wpOp _ _ (.indexAddr _ _ _) _ _ _);refine ⟨bu g,⟨by omega,hat⟩,rfl,?_⟩) |(refine ⟨0,k,rfl,rfl,hkl,(by decide),hel,?_⟩) |((with_reducible show ah _ _ _ _ _ _ _ _);refine af.tB (h3 _) (Fq.deep rfl) (eT.cons (Fq.deep rfl) (eT.cons (eT.Ht eT.nil (eT.cons (Fq.deep rfl) (eT.cons (Fq.ptr rfl rfl) eT.nil))) eT.nil)) (iF.fl _) ?_) |refine u2 ?_ |fail)
    exact ⟨[_,_],⟨Fz.deep rfl,Fz.deep rfl,trivial⟩,rfl⟩
   | false =>
    simp only [q2] at h3
    have q2':¬ ((l.take k).any fun y=>wB y.name g.name)=true:=by rw [q2];simp
    have hv:cW fA.name dG l k=dG g:=by rw [hga,if_neg q1',if_neg q2']
    generalize dG g=v at *
    cases q3:decide (v=0) with
    | false =>
     have d3:(!decide (v=0))=true:=by rw [q3];rfl
     rw [fin v hv (of_decide_eq_false q3)]
     repeat' (first |((with_reducible show ah _ _ _ _ _ _ _ _);refine af.call h1 rfl rfl ?_) |((with_reducible show ah _ _ _ _ _ _ _ _);refine af.call h2 rfl rfl ?_) |((with_reducible show ah _ _ _ _ _ _ _ _);refine af.call h4 rfl rfl ?_) |refine u1 ?_ |((with_reducible show RM.wpOp _ _ (.indexAddr _ _ _) _ _ _);refine ⟨bu g,⟨by omega,hat⟩,rfl,?_⟩) |(refine ⟨0,k,rfl,rfl,hkl,(by decide),hel,?_⟩) |((with_reducible show ah _ _ _ _ _ _ _ _);refine af.tB (h3 _) (Fq.deep rfl) (eT.cons (Fq.deep rfl) (eT.cons (eT.Ht eT.nil (eT.cons (Fq.deep rfl) (eT.cons (Fq.ptr rfl rfl) eT.nil))) eT.nil)) (iF.fl _) ?_) |refine u2 ?_ |fail)
     exact ⟨[_,_],⟨Fz.deep rfl,Fz.deep rfl,trivial⟩,rfl⟩
    | true =>
     have d3:(!decide (v=0))=false:=by rw [q3];rfl
     have e0:cW fA.name dG l k=0:=hv.trans (of_decide_eq_true q3)
     repeat' (first |((with_reducible show ah _ _ _ _ _ _ _ _);refine af.call h1 rfl rfl ?_) |((with_reducible show ah _ _ _ _ _ _ _ _);refine af.call h2 rfl rfl ?_) |((with_reducible show ah _ _ _ _ _ _ _ _);refine af.call h4 rfl rfl ?_) |refine u1 ?_ |((with_reducible show RM.wpOp _ _ (.indexAddr _ _ _) _ _ _);refine ⟨bu g,⟨by omega,hat⟩,rfl,?_⟩) |(refine ⟨0,k,rfl,rfl,hkl,(by decide),hel,?_⟩) |((with_reducible show ah _ _ _ _ _ _ _ _);refine af.tB (h3 _) (Fq.deep rfl) (eT.cons (Fq.deep rfl) (eT.cons (eT.Ht eT.nil (eT.cons (Fq.deep rfl) (eT.cons (Fq.ptr rfl rfl) eT.nil))) eT.nil)) (iF.fl _) ?_) |refine u2 ?_ |fail)
     refine ⟨k+1,⟨hlt,fun i hi=>?_⟩,(by dsimp only;omega),ai.to 0 rfl ⟨rfl,rfl,rfl,rfl,rfl,cZ (by simp),trivial⟩ (Nat.zero_le _) rfl rfl⟩
     by_cases hik:i=k
     ·subst hik;exact e0
     ·exact hprev i (by omega)
 ·have d1:decide ((k:Int) < n)=false:=decide_eq_false (by omega)
  rw [lF (fun i hi=>hprev i (by omega))]
  repeat' (first |refine u1 ?_ |refine u2 ?_ |fail)
  exact ⟨[_,_],⟨Fz.deep rfl,Fz.deep rfl,trivial⟩,rfl⟩
theorem DU (one:Bool) (c:ay) (hc:c.az.length≤maxLen) (l:List nE) (hl:l.length≤maxLen) (hn:∀ x ∈ l,x.name.data.toList.length≤maxLen):Pu one 55 [.sl (l.map bG) false,.fn 56 [] [],.fn 57 [] [.pt (aX c) 0]] (.tp [aj (cG l.length (cW nE.name (fh c.az.length) l)).1,aj (cG l.length (cW nE.name (fh c.az.length) l)).2]):=by
 have ml:l.length≤9223372036854775807:=Nat.le_trans hl (by simp [maxLen])
 have eg:((l.map bG).length:Int)=l.length:=by simp
 obtain ⟨n,hnn⟩:∃ n:Int,n=l.length:=⟨_,rfl⟩
 refine af.body (fn:=Tryz.f55) rfl rfl rfl rfl ?_
 refine aa (mu:=fun _=>false) ?_
 repeat' (first |refine u1 ?_ |refine u2 ?_ |fail)
 refine aL.cr (ai.to (l:=[(0,.sl (l.map bG) false),(2,.fn 57 [] [.pt (aX c) 0]),(4,.pt [.fn 56 [] []] 0),(12,.sl (l.map bG) false),(13,aj n),(14,aj (0:Nat))]) (hp:=[]) 0 rfl ⟨rfl,rfl,rfl,rfl,cZ (by rw [hnn];exact eg),rfl,trivial⟩ (Nat.zero_le _) rfl rfl) ?_
 refine aL.loop (fun k:Nat=>k≤l.length∧∀ i,i < k→cW nE.name (fh c.az.length) l i=0) (fun k=>⟨cz [(0,.sl (l.map bG) false),(2,.fn 57 [] [.pt (aX c) 0]),(4,.pt [.fn 56 [] []] 0),(12,.sl (l.map bG) false),(13,aj n),(14,aj (k:Nat))],[],bF.none,false,0⟩) (fun k=>l.length - k) ?_ 0 ⟨Nat.zero_le _,fun i hi=>absurd hi (Nat.not_lt_zero _)⟩
 rintro k ⟨hk,hprev⟩
 refine aa (mu:=fun _=>false) ?_
 by_cases hlt:k < l.length
 ·have d1:decide ((k:Int) < n)=true:=decide_eq_true (by omega)
  have hat:(l.map bG)[((k:Nat):Int).toNat]?=some (bG l[k]):=cM hlt
  have hga:cW nE.name (fh c.az.length) l k=if iH l[k].name=false then 6 else if ((l.take k).any fun y=>wB y.name l[k].name)=true then 5 else (fh c.az.length) l[k]:=by unfold cW;rw [List.getElem?_eq_getElem hlt]
  have h1:=A6 one l[k]
  have h2:=Ff one l[k].name (hn _ (List.getElem_mem hlt))
  have h4:=GI one c hc l[k]
  have h3:∀ f,Pu one 100 [.sl ((l.take k).map bG) f,.fn 101 [] [.pt [.fn 56 [] []] 0,.pt [ST l[k].name] 0]] (BB ((l.take k).any fun y=>wB y.name l[k].name)):=fun f=>rG one 101 [] _ rfl (fun y=>wB y.name l[k].name) (l.take k) f (by rw [List.length_take];omega) (fun x _=>DS one l[k].name x)
  have hsl:((l.map bG).drop 0).take (k - 0)=(l.take k).map bG:=by
   rw [List.drop_zero,Nat.sub_zero,List.map_take]
  rw [←hsl] at h3
  have hkl:0≤k∧k≤(l.map bG).length:=⟨Nat.zero_le _,by rw [List.length_map];omega⟩
  have hel:∀ el ∈ l.map bG,el.length=4:=fun el hel=>by obtain ⟨x,_,rfl⟩:=List.mem_map.1 hel;rfl
  have fin:∀ v,cW nE.name (fh c.az.length) l k=v→v ≠ 0→cG l.length (cW nE.name (fh c.az.length) l)=((k:Int),v):=fun v e hv=>by
   rw [lE hlt hprev (by rw [e];exact hv),e]
  generalize l[k]=g at *
  cases q1:iH g.name with
  | false =>
   rw [q1] at h2
   rw [fin 6 (by rw [hga,if_pos q1]) (by decide)]
   repeat' (first |((with_reducible show ah _ _ _ _ _ _ _ _);refine af.call h1 rfl rfl ?_) |((with_reducible show ah _ _ _ _ _ _ _ _);refine af.call h2 rfl rfl ?_) |((with_reducible show ah _ _ _ _ _ _ _ _);refine af.call h4 rfl rfl ?_) |refine u1 ?_ |((with_reducible show RM.wpOp _ _ (.indexAddr _ _ _) _ _ _);refine ⟨bG g,⟨by omega,hat⟩,rfl,?_⟩) |(refine ⟨0,k,rfl,rfl,hkl,(by decide),hel,?_⟩) |((with_reducible show ah _ _ _ _ _ _ _ _);refine af.tB (h3 _) (Fq.deep rfl) (eT.cons (Fq.deep rfl) (eT.cons (eT.Ht eT.nil (eT.cons (Fq.deep rfl) (eT.cons (Fq.ptr rfl rfl) eT.nil))) eT.nil)) (iF.fl _) ?_) |refine u2 ?_ |fail)
   exact ⟨[_,_],⟨Fz.deep rfl,Fz.deep rfl,trivial⟩,rfl⟩
  | true =>
   rw [q1] at h2
   have q1':¬ iH g.name=false:=by rw [q1];simp
   cases q2:(l.take k).any fun y=>wB y.name g.name with
   | true =>
    simp only [q2] at h3
    rw [fin 5 (by rw [hga,if_neg q1',if_pos q2]) (by decide)]
    repeat' (first |((with_reducible show ah _ _ _ _ _ _ _ _);refine af.call h1 rfl rfl ?_) |((with_reducible show ah _ _ _ _ _ _ _ _);refine af.call h2 rfl rfl ?_) |((with_reducible show ah _ _ _ _ _ _ _ _);refine af.call h4 rfl rfl ?_) |refine u1 ?_ |((with_reducible show RM.wpOp _ _ (.indexAddr _ _ _) _ _ _);refine ⟨bG g,⟨by omega,hat⟩,rfl,?_⟩) |(refine ⟨0,k,rfl,rfl,hkl,(by decide),hel,?_⟩) |((with_reducible show ah _ _ _ _ _ _ _ _);refine af.tB (h3 _) (Fq.deep rfl) (eT.cons (Fq.deep rfl) (eT.cons (eT.Ht eT.nil (eT.cons (Fq.deep rfl) (eT.cons (Fq.ptr rfl rfl) eT.nil))) eT.nil)) (iF.fl _) ?_) |refine u2 ?_ |fail)
    exact ⟨[_,_],⟨Fz.deep rfl,Fz.deep rfl,trivial⟩,rfl⟩
   | false =>
    simp only [q2] at h3
    have q2':¬ ((l.take k).any fun y=>wB y.name g.name)=true:=by rw [q2];simp
    have hv:cW nE.name (fh c.az.length) l k=(fh c.az.length) g:=by rw [hga,if_neg q1',if_neg q2']
    generalize (fh c.az.length) g=v at *
    cases q3:decide (v=0) with
    | false =>
     have d3:(!decide (v=0))=true:=by rw [q3];rfl
     rw [fin v hv (of_decide_eq_false q3)]
     repeat' (first |((with_reducible show ah _ _ _ _ _ _ _ _);refine af.call h1 rfl rfl ?_) |((with_reducible show ah _ _ _ _ _ _ _ _);refine af.call h2 rfl rfl ?_) |((with_reducible show ah _ _ _ _ _ _ _ _);refine af.call h4 rfl rfl ?_) |refine u1 ?_ |((with_reducible show RM.wpOp _ _ (.indexAddr _ _ _) _ _ _);refine ⟨bG g,⟨by omega,hat⟩,rfl,?_⟩) |(refine ⟨0,k,rfl,rfl,hkl,(by decide),hel,?_⟩) |((with_reducible show ah _ _ _ _ _ _ _ _);refine af.tB (h3 _) (Fq.deep rfl) (eT.cons (Fq.deep rfl) (eT.cons (eT.Ht eT.nil (eT.cons (Fq.deep rfl) (eT.cons (Fq.ptr rfl rfl) eT.nil))) eT.nil)) (iF.fl _) ?_) |refine u2 ?_ |fail)
     exact ⟨[_,_],⟨Fz.deep rfl,Fz.deep rfl,trivial⟩,rfl⟩
    | true =>
     have d3:(!decide (v=0))=false:=by rw [q3];rfl
     have e0:cW nE.name (fh c.az.length) l k=0:=hv.trans (of_decide_eq_true q3)
     repeat' (first |((with_reducible show ah _ _ _ _ _ _ _ _);refine af.call h1 rfl rfl ?_) |((with_reducible show ah _ _ _ _ _ _ _ _);refine af.call h2 rfl rfl ?_) |((with_reducible show ah _ _ _ _ _ _ _ _);refine af.call h4 rfl rfl ?_) |refine u1 ?_ |((with_reducible show RM.wpOp _ _ (.indexAddr _ _ _) _ _ _);refine ⟨bG g,⟨by omega,hat⟩,rfl,?_⟩) |(refine ⟨0,k,rfl,rfl,hkl,(by decide),hel,?_⟩) |((with_reducible show ah _ _ _ _ _ _ _ _);refine af.tB (h3 _) (Fq.deep rfl) (eT.cons (Fq.deep rfl) (eT.cons (eT.Ht eT.nil (eT.cons (Fq.deep rfl) (eT.cons (Fq.ptr rfl rfl) eT.nil))) eT.nil)) (iF.fl _) ?_) |refine u2 ?_ |fail)
     refine ⟨k+1,⟨hlt,fun i hi=>?_⟩,(by dsimp only;omega),ai.to 0 rfl ⟨rfl,rfl,rfl,rfl,rfl,cZ (by simp),trivial⟩ (Nat.zero_le _) rfl rfl⟩
     by_cases hik:i=k
     ·subst hik;exact e0
     ·exact hprev i (by omega)
 ·have d1:decide ((k:Int) < n)=false:=decide_eq_false (by omega)
  rw [lF (fun i hi=>hprev i (by omega))]
  repeat' (first |refine u1 ?_ |refine u2 ?_ |fail)
  exact ⟨[_,_],⟨Fz.deep rfl,Fz.deep rfl,trivial⟩,rfl⟩
end Go.Proofs.YtlpmfgmldmdggaaGreat
open Go Go.RM
namespace Go.Proofs.YtlpmfgmldmdggaaGreat
set_option maxRecDepth 100000
set_option maxHeartbeats 4000000
structure ay.Ok (c:ay):Prop where
 az:c.az.length≤maxLen
 Fk:∀ x ∈ c.az,x.name.data.toList.length≤maxLen
 aO:c.aO.length≤maxLen
 Fl:∀ x ∈ c.aO,x.name.data.toList.length≤maxLen
def Fm (c:ay):Nat→Int:=cW fA.name dG c.az
def CZ (c:ay):Nat→Int:=cW nE.name (fh c.az.length) c.aO
def oA (c:ay):Int × Int × Int :=
 if (dR 1 3 [(c.az.length:Int)] || dR 1 5 [(c.aO.length:Int)])=true then (1,0,3)
 else if dR 0 5 [c.least]=true then (1,0,7)
 else if (cG c.az.length (Fm c)).2 ≠ 0 then (2,(cG c.az.length (Fm c)).1,(cG c.az.length (Fm c)).2)
 else if (cG c.aO.length (CZ c)).2 ≠ 0 then (3,(cG c.aO.length (CZ c)).1,(cG c.aO.length (CZ c)).2)
 else (0,0,0)
theorem GJ (one:Bool) (c:ay) (h:c.Ok):Pu one 16 [.ag (aX c)] (.tp [aj (oA c).1,aj (oA c).2.1,aj (oA c).2.2]):=by
 have eg:((c.az.map bu).length:Int)=c.az.length:=by simp
 have em:((c.aO.map bG).length:Int)=c.aO.length:=by simp
 have o1:=jn one 1 3 ((c.az.map bu).length:Int)
 have o2:=jn one 1 5 ((c.aO.map bG).length:Int)
 have o3:=jn one 0 5 c.least
 have n1:=DT one c.az h.az h.Fk
 have n2:=DU one c h.az c.aO h.aO h.Fl
 rw [eg] at o1
 rw [em] at o2
 unfold oA
 cases e1:dR 1 3 [(c.az.length:Int)] with
 | true =>
  rw [e1,←eg] at o1
  rw [if_pos (by rfl)]
  refine af.body (fn:=Tryz.f16) rfl rfl rfl rfl ?_;refine aa (mu:=fun _=>false) ?_
  repeat' (first |refine u1 ?_ |((with_reducible show ah _ _ _ _ _ _ _ _);refine af.call o1 rfl rfl ?_) |((with_reducible show ah _ _ _ _ _ _ _ _);refine af.call o2 rfl rfl ?_) |((with_reducible show ah _ _ _ _ _ _ _ _);refine af.call o3 rfl rfl ?_) |((with_reducible show ah _ _ _ _ _ _ _ _);refine af.call n1 rfl rfl ?_) |((with_reducible show ah _ _ _ _ _ _ _ _);refine af.call n2 rfl rfl ?_) |refine u2 ?_ |fail)
  exact ⟨[_,_,_],⟨Fz.deep rfl,Fz.deep rfl,Fz.deep rfl,trivial⟩,rfl⟩
 | false =>
  rw [e1,←eg] at o1
  cases e2:dR 1 5 [(c.aO.length:Int)] with
  | true =>
   rw [e2,←em] at o2
   rw [if_pos (by rfl)]
   refine af.body (fn:=Tryz.f16) rfl rfl rfl rfl ?_;refine aa (mu:=fun _=>false) ?_
   repeat' (first |refine u1 ?_ |((with_reducible show ah _ _ _ _ _ _ _ _);refine af.call o1 rfl rfl ?_) |((with_reducible show ah _ _ _ _ _ _ _ _);refine af.call o2 rfl rfl ?_) |((with_reducible show ah _ _ _ _ _ _ _ _);refine af.call o3 rfl rfl ?_) |((with_reducible show ah _ _ _ _ _ _ _ _);refine af.call n1 rfl rfl ?_) |((with_reducible show ah _ _ _ _ _ _ _ _);refine af.call n2 rfl rfl ?_) |refine u2 ?_ |fail)
   exact ⟨[_,_,_],⟨Fz.deep rfl,Fz.deep rfl,Fz.deep rfl,trivial⟩,rfl⟩
  | false =>
   rw [e2,←em] at o2
   rw [if_neg (by simp)]
   cases e3:dR 0 5 [c.least] with
   | true =>
    rw [e3] at o3
    rw [if_pos (by rfl)]
    refine af.body (fn:=Tryz.f16) rfl rfl rfl rfl ?_;refine aa (mu:=fun _=>false) ?_
    repeat' (first |refine u1 ?_ |((with_reducible show ah _ _ _ _ _ _ _ _);refine af.call o1 rfl rfl ?_) |((with_reducible show ah _ _ _ _ _ _ _ _);refine af.call o2 rfl rfl ?_) |((with_reducible show ah _ _ _ _ _ _ _ _);refine af.call o3 rfl rfl ?_) |((with_reducible show ah _ _ _ _ _ _ _ _);refine af.call n1 rfl rfl ?_) |((with_reducible show ah _ _ _ _ _ _ _ _);refine af.call n2 rfl rfl ?_) |refine u2 ?_ |fail)
    exact ⟨[_,_,_],⟨Fz.deep rfl,Fz.deep rfl,Fz.deep rfl,trivial⟩,rfl⟩
   | false =>
    rw [e3] at o3
    rw [if_neg (by simp)]
    unfold Fm CZ
    generalize cG c.az.length (cW fA.name dG c.az)=x at *
    generalize cG c.aO.length (cW nE.name (fh c.az.length) c.aO)=y at *
    obtain ⟨x1,x2⟩:=x
    obtain ⟨y1,y2⟩:=y
    dsimp only at *
    cases e4:decide (x2=0) with
    | false =>
     have d4:(!decide (x2=0))=true:=by rw [e4];rfl
     rw [if_pos (of_decide_eq_false e4)]
     refine af.body (fn:=Tryz.f16) rfl rfl rfl rfl ?_;refine aa (mu:=fun _=>false) ?_
     repeat' (first |refine u1 ?_ |((with_reducible show ah _ _ _ _ _ _ _ _);refine af.call o1 rfl rfl ?_) |((with_reducible show ah _ _ _ _ _ _ _ _);refine af.call o2 rfl rfl ?_) |((with_reducible show ah _ _ _ _ _ _ _ _);refine af.call o3 rfl rfl ?_) |((with_reducible show ah _ _ _ _ _ _ _ _);refine af.call n1 rfl rfl ?_) |((with_reducible show ah _ _ _ _ _ _ _ _);refine af.call n2 rfl rfl ?_) |refine u2 ?_ |fail)
     exact ⟨[_,_,_],⟨Fz.deep rfl,Fz.deep rfl,Fz.deep rfl,trivial⟩,rfl⟩
    | true =>
     have d4:(!decide (x2=0))=false:=by rw [e4];rfl
     rw [if_neg (fun hh=>hh (of_decide_eq_true e4))]
     cases e5:decide (y2=0) with
     | false =>
      have d5:(!decide (y2=0))=true:=by rw [e5];rfl
      rw [if_pos (of_decide_eq_false e5)]
      refine af.body (fn:=Tryz.f16) rfl rfl rfl rfl ?_;refine aa (mu:=fun _=>false) ?_
      repeat' (first |refine u1 ?_ |((with_reducible show ah _ _ _ _ _ _ _ _);refine af.call o1 rfl rfl ?_) |((with_reducible show ah _ _ _ _ _ _ _ _);refine af.call o2 rfl rfl ?_) |((with_reducible show ah _ _ _ _ _ _ _ _);refine af.call o3 rfl rfl ?_) |((with_reducible show ah _ _ _ _ _ _ _ _);refine af.call n1 rfl rfl ?_) |((with_reducible show ah _ _ _ _ _ _ _ _);refine af.call n2 rfl rfl ?_) |refine u2 ?_ |fail)
      exact ⟨[_,_,_],⟨Fz.deep rfl,Fz.deep rfl,Fz.deep rfl,trivial⟩,rfl⟩
     | true =>
      have d5:(!decide (y2=0))=false:=by rw [e5];rfl
      rw [if_neg (fun hh=>hh (of_decide_eq_true e5))]
      refine af.body (fn:=Tryz.f16) rfl rfl rfl rfl ?_;refine aa (mu:=fun _=>false) ?_
      repeat' (first |refine u1 ?_ |((with_reducible show ah _ _ _ _ _ _ _ _);refine af.call o1 rfl rfl ?_) |((with_reducible show ah _ _ _ _ _ _ _ _);refine af.call o2 rfl rfl ?_) |((with_reducible show ah _ _ _ _ _ _ _ _);refine af.call o3 rfl rfl ?_) |((with_reducible show ah _ _ _ _ _ _ _ _);refine af.call n1 rfl rfl ?_) |((with_reducible show ah _ _ _ _ _ _ _ _);refine af.call n2 rfl rfl ?_) |refine u2 ?_ |fail)
      exact ⟨[_,_,_],⟨Fz.deep rfl,Fz.deep rfl,Fz.deep rfl,trivial⟩,rfl⟩
end Go.Proofs.YtlpmfgmldmdggaaGreat
