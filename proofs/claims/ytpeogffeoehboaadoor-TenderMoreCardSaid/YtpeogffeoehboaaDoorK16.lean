/-
  Contracts of the program's functions and of the document's. Lemmas alone; their conditions stand in them.
-/
import Derived.Test.YtpeogffeoehboaaDoorK15
open Go Go.RM
namespace Go.Proofs.YtpeogffeoehboaaDoor
set_option maxRecDepth 100000
set_option maxHeartbeats 4000000
noncomputable def sL:Code→Code
 | .seq _ b=>b
 | c=>c
noncomputable def NC:Code:=sL (sL (sL (sL (sL (sL (sL (sL (sL (Tryd.f10.body.getD .skip)))))))))
noncomputable def LK:Code:=sL NC
noncomputable def Ko:Code:=sL LK
noncomputable def Pm:Code:=sL Ko
theorem Dg {s:ak} {p q:List Order} {full:Bool} {W Y:List Int} (hl:W.length=Y.length) (w8:W.length≤8) (h0:∀ (k:Nat) (h:k < W.length) (h':k < Y.length),W[k]≤Y[k])
  (o1:Pu false 27 [.ag (ay s),.sl (q.map ai) false] (.tp [.sl (ints Y) false,aA 0])) :
  aB TT TB false Pm ⟨aU [(1,.sl (p.map ai) full),(3,.pt (ay s) 0),(7,.sl (ints W) false),(10,.sl (q.map ai) false)],[],bP.none,false,0⟩ (sK TT Tryd.f10.results.toList (BB true)):=by
 have aw:=BC false
 have el:((ints W).length:Int)=W.length:=by simp
 have z1:(!decide ((0:Int)=0))=false:=by decide
 have dl:(!decide (((ints Y).length:Int)=((ints W).length:Int)))=false:=by rw [decide_eq_true (by simp;omega)];rfl
 refine RM.cm (mu:=fun _=>false) ?_
 repeat' (first |refine u1 ?_ |((with_reducible show aj _ _ _ _ _ _ _ _);refine af.call o1 rfl rfl ?_) |refine u2 ?_ |fail)
 refine RM.cm (mu:=fun _=>false) ?_
 repeat' (first |refine u1 ?_ |refine u2 ?_ |fail)
 refine RM.cutAt (st':=⟨aU [],[],bP.none,false,0⟩) ?_ ?_
 ·refine RM.cm (mu:=fun _=>false) ?_
  repeat' (first |refine u1 ?_ |refine u2 ?_ |fail)
  refine aB.block ?_
  refine aB.aL (au.to (l:=[(7,.sl (ints W) false),(17,.sl (ints Y) false),(19,aA (0:Nat))]) (hp:=[]) 0 rfl ⟨rfl,rfl,rfl,trivial⟩ (Nat.zero_le _) rfl rfl) ?_
  refine aB.loop (fun k:Nat=>k≤W.length) (fun k=>⟨aU [(7,.sl (ints W) false),(17,.sl (ints Y) false),(19,aA (k:Nat))],[],bP.none,false,0⟩) (fun k=>W.length - k) ?_ 0 (Nat.zero_le _)
  intro k hk
  by_cases hlt:k < W.length
  ·have d1:decide ((k:Int) < ((ints W).length:Int))=true:=decide_eq_true (by omega)
   have hlt':k < Y.length:=by omega
   have q1:=h0 k hlt hlt'
   have hat:(ints W)[((k:Nat):Int).toNat]?=some (eI W[k]):=bC hlt
   have hat2:(ints Y)[((k:Nat):Int).toNat]?=some (eI Y[k]):=bC hlt'
   have d3:decide (Y[k] < W[k])=false:=decide_eq_false (by omega)
   generalize W[k]=x at hat d3
   generalize Y[k]=y at hat2 d3
   clear q1 h0
   refine aa (mu:=fun _=>false) ?_
   repeat' (first |((with_reducible show RM.wpOp _ _ (.indexAddr _ _ _) _ _ _);refine ⟨eI x,⟨by omega,hat⟩,rfl,?_⟩) |((with_reducible show RM.wpOp _ _ (.indexAddr _ _ _) _ _ _);refine ⟨eI y,⟨by omega,hat2⟩,rfl,?_⟩) |refine u1 ?_ |((with_reducible show RM.wpOp _ _ (.indexAddr _ _ _) _ _ _);refine ⟨eI x,⟨by omega,hat⟩,rfl,?_⟩) |((with_reducible show RM.wpOp _ _ (.indexAddr _ _ _) _ _ _);refine ⟨eI y,⟨by omega,hat2⟩,rfl,?_⟩) |refine u2 ?_ |fail)
   exact ⟨k+1,hlt,(by dsimp only;omega),au.to 0 rfl ⟨rfl,rfl,bu (by simp),trivial⟩ (Nat.zero_le _) rfl rfl⟩
  ·have d1:decide ((k:Int) < ((ints W).length:Int))=false:=decide_eq_false (by omega)
   refine aa (mu:=fun _=>false) ?_
   repeat' (first |refine u1 ?_ |refine u2 ?_ |fail)
   exact .is (au.to 0 rfl trivial (Nat.zero_le _) rfl rfl)
 ·refine aa (mu:=fun _=>false) ?_
  repeat' (first |refine u1 ?_ |((with_reducible show aj _ _ _ _ _ _ _ _);refine af.call aw rfl rfl ?_) |refine u2 ?_ |fail)
  exact ⟨[_],⟨Fz.deep rfl,trivial⟩,rfl⟩
theorem Dh {s:ak} (hs:s.Ok) {p q:List Order} (hq:vQ q) {full:Bool} {W Y:List Int} (o1:(aO s q).2=0→Pu false 27 [.ag (ay s),.sl (q.map ai) false] (.tp [.sl (ints Y) false,aA 0])) (hl:(aO s q).2=0→W.length=Y.length) (w8:W.length≤8)
  (h0:(aO s q).2=0→(p.length < q.length→s.fail≤s.row)→∀ (k:Nat) (h:k < W.length) (h':k < Y.length),W[k]≤Y[k]) :
  aB TT TB false Ko ⟨aU [(1,.sl (p.map ai) full),(3,.pt (ay s) 0),(7,.sl (ints W) false),(10,.sl (q.map ai) false)],[],bP.none,false,0⟩ (sK TT Tryd.f10.results.toList (BB true)):=by
 have aw:=BC false
 have o2:=qv false s hs q false hq
 have ep:((p.map ai).length:Int)=p.length:=by simp
 have eq:((q.map ai).length:Int)=q.length:=by simp
 by_cases c1:(aO s q).2=0
 ·rw [decide_eq_true c1] at o2
  have o1:=o1 c1
  have fin:(p.length < q.length→s.fail≤s.row)→aB TT TB false Pm ⟨aU [(1,.sl (p.map ai) full),(3,.pt (ay s) 0),(7,.sl (ints W) false),(10,.sl (q.map ai) false)],[],bP.none,false,0⟩ (sK TT Tryd.f10.results.toList (BB true)):=fun h=>Dg (hl c1) w8 (h0 c1 h) o1
  clear o1 h0
  by_cases c2:p.length < q.length
  ·have d2:decide (((p.map ai).length:Int) < ((q.map ai).length:Int))=true:=decide_eq_true (by omega)
   by_cases c3:s.row < s.fail
   ·have d3:=decide_eq_true c3
    refine aa (mu:=fun _=>false) ?_
    repeat' (first |refine u1 ?_ |((with_reducible show aj _ _ _ _ _ _ _ _);refine af.call o2 rfl rfl ?_) |((with_reducible show aj _ _ _ _ _ _ _ _);refine af.call aw rfl rfl ?_) |refine u2 ?_ |fail)
    exact ⟨[_],⟨Fz.deep rfl,trivial⟩,rfl⟩
   ·have d3:=decide_eq_false c3
    refine RM.cm (mu:=fun _=>false) ?_
    repeat' (first |refine u1 ?_ |((with_reducible show aj _ _ _ _ _ _ _ _);refine af.call o2 rfl rfl ?_) |refine u2 ?_ |fail)
    refine aB.aL (au.to (l:=[(1,.sl (p.map ai) full),(3,.pt (ay s) 0),(7,.sl (ints W) false),(10,.sl (q.map ai) false)]) (hp:=[]) 0 rfl ⟨rfl,rfl,rfl,rfl,trivial⟩ (Nat.zero_le _) rfl rfl) ?_
    exact fin fun _=>by omega
  ·have d2:decide (((p.map ai).length:Int) < ((q.map ai).length:Int))=false:=decide_eq_false (by omega)
   refine RM.cm (mu:=fun _=>false) ?_
   repeat' (first |refine u1 ?_ |((with_reducible show aj _ _ _ _ _ _ _ _);refine af.call o2 rfl rfl ?_) |refine u2 ?_ |fail)
   refine aB.aL (au.to (l:=[(1,.sl (p.map ai) full),(3,.pt (ay s) 0),(7,.sl (ints W) false),(10,.sl (q.map ai) false)]) (hp:=[]) 0 rfl ⟨rfl,rfl,rfl,rfl,trivial⟩ (Nat.zero_le _) rfl rfl) ?_
   exact fin fun h=>absurd h c2
 ·rw [decide_eq_false c1] at o2
  refine aa (mu:=fun _=>false) ?_
  repeat' (first |refine u1 ?_ |((with_reducible show aj _ _ _ _ _ _ _ _);refine af.call o2 rfl rfl ?_) |((with_reducible show aj _ _ _ _ _ _ _ _);refine af.call aw rfl rfl ?_) |refine u2 ?_ |fail)
  exact ⟨[_],⟨Fz.deep rfl,trivial⟩,rfl⟩
theorem BU {s:ak} {p:List Order} {full:Bool} {W:List Int} {need at':Int} {L:List Order} {t:Bool} {aC c:Nat} (hc:c=L.length∨c=L.length+1) (hL:L.length≤9)
  (h:∀ q:List Order,q=(if t=true then L else L++[⟨at',[need]⟩])→aB TT TB false Ko ⟨aU [(1,.sl (p.map ai) full),(3,.pt (ay s) 0),(7,.sl (ints W) false),(10,.sl (q.map ai) false)],[],bP.none,false,0⟩ (sK TT Tryd.f10.results.toList (BB true))) :
  aB TT TB false LK ⟨aU [(1,.sl (p.map ai) full),(3,.pt (ay s) 0),(7,.sl (ints W) false),(9,aA need),(10,.dc 0 aC 0 (L).length c),(11,aA at'),(12,.pt (ai ⟨at',[need]⟩) 0),(13,BB t)],[.cells (mE L) 2 aC],bP.none,false,0⟩ (sK TT Tryd.f10.results.toList (BB true)):=by
 cases t with
 | true =>
  have h:=h L (by rw [if_pos rfl])
  revert h
  generalize hq:L=q
  intro h
  refine RM.cm (mu:=fun _=>false) ?_
  repeat' (first |refine u1 ?_ |refine u2 ?_ |fail)
  refine aB.aL (au.trans (au.giveUp 0 (l:=[(1,.sl (p.map ai) full),(3,.pt (ay s) 0),(7,.sl (ints W) false),(10,.sl (q.map ai) false)]) (hp:=[.gone]) rfl (Nat.zero_le _) (vA _) ⟨.same rfl,.same rfl,.same rfl,.row 2 (kB (q)).1 (kB (q)).2.1 (kB (q)).2.2.1 (kB (q)).2.2.2 (fun h=>Bool.noConfusion h),trivial⟩ rfl rfl) (au.to (l:=[(1,.sl (p.map ai) full),(3,.pt (ay s) 0),(7,.sl (ints W) false),(10,.sl (q.map ai) false)]) (hp:=[]) 0 rfl ⟨rfl,rfl,rfl,rfl,trivial⟩ (Nat.zero_le _) rfl rfl)) ?_
  exact h
 | false =>
  have h:=h _ (by rw [if_neg (by simp)])
  revert h
  generalize hq:L++[(⟨at',[need]⟩:Order)]=q
  intro h
  refine RM.cm (mu:=fun _=>false) ?_
  repeat' (first |((with_reducible show RM.wpOp _ _ (.call _) _ _ _);refine RM.u9 (cs:=mE L) (n:=(L).length) (els:=[ai ⟨at',[need]⟩]) rfl rfl rfl rfl rfl (fun el hel=>by rw [List.mem_singleton.1 hel];rfl) rfl rfl (iZ L) hc (by simp only [List.length_singleton];omega) (fun v9 c9 hc9=>?_)) |refine u1 ?_ |refine u2 ?_ |fail)
  have e1:mE L++[ai ⟨at',[need]⟩].flatten=mE q:=by rw [jH,hq]
  have e2:L.length+1=q.length:=by rw [←hq];simp
  refine aB.aL (au.to (l:=[(1,.sl (p.map ai) full),(3,.pt (ay s) 0),(7,.sl (ints W) false),(10,.dc 0 v9 0 q.length c9)]) (hp:=[.cells (mE q) 2 v9]) 1 (by rw [←e1];rfl) ⟨rfl,rfl,rfl,(by rw [←e2];rfl),trivial⟩ (Nat.zero_le _) rfl (jI _ _)) ?_
  refine aB.aL (au.trans (au.giveUp 0 (l:=[(1,.sl (p.map ai) full),(3,.pt (ay s) 0),(7,.sl (ints W) false),(10,.sl (q.map ai) false)]) (hp:=[.gone]) rfl (Nat.zero_le _) (vA _) ⟨.same rfl,.same rfl,.same rfl,.row 2 (kB (q)).1 (kB (q)).2.1 (kB (q)).2.2.1 (kB (q)).2.2.2 (fun h=>Bool.noConfusion h),trivial⟩ rfl rfl) (au.to (l:=[(1,.sl (p.map ai) full),(3,.pt (ay s) 0),(7,.sl (ints W) false),(10,.sl (q.map ai) false)]) (hp:=[]) 0 rfl ⟨rfl,rfl,rfl,rfl,trivial⟩ (Nat.zero_le _) rfl rfl)) ?_
  exact h
theorem Di {s:ak} (hg:Good s) {p:List Order} (p8:p.length≤8) (hpo:vQ p) {full:Bool} {W:List Int} {need at':Int}
  (h:∀ q:List Order,q=nu s.needs.length need at' p→aB TT TB false Ko ⟨aU [(1,.sl (p.map ai) full),(3,.pt (ay s) 0),(7,.sl (ints W) false),(10,.sl (q.map ai) false)],[],bP.none,false,0⟩ (sK TT Tryd.f10.results.toList (BB true))) :
  aB TT TB false NC ⟨aU [(1,.sl (p.map ai) full),(3,.pt (ay s) 0),(7,.sl (ints W) false),(9,aA need),(10,.fl (.slice none 0 0)),(11,aA at'),(12,.pt (ai ⟨at',[need]⟩) 0),(13,BB false)],[],bP.none,false,0⟩ (sK TT Tryd.f10.results.toList (BB true)):=by
 have ep:((p.map ai).length:Int)=p.length:=by simp
 have eg:((s.needs.map aH).length:Int)=s.needs.length:=by simp
 have hgl3:=hg.len
 refine aB.seq ?_
 refine RM.cm (mu:=fun _=>false) ?_
 repeat' (first |refine u1 ?_ |refine u2 ?_ |fail)
 refine aB.block ?_
 refine aB.aL (au.trans (au.u7 2) (au.OT (l:=[(1,.sl (p.map ai) full),(3,.pt (ay s) 0),(7,.sl (ints W) false),(9,aA need),(10,.dc 0 0 0 (([]:List Order)).length 0),(11,aA at'),(12,.pt (ai ⟨at',[need]⟩) 0),(13,BB false),(14,aA (0:Nat))]) (hp:=[.cells (mE ([]:List Order)) 2 0]) 1 rfl ⟨cH.refl _,cH.refl _,cH.refl _,cH.refl _,cH.u6,cH.refl _,cH.refl _,cH.refl _,cH.refl _,trivial⟩ (Nat.zero_le _) rfl rfl)) ?_
 refine aB.loop (fun x:Nat × Nat × Nat=>x.1≤p.length∧(x.2.2=((cv s.needs.length need at' p x.1).1).length∨x.2.2=((cv s.needs.length need at' p x.1).1).length+1)) (fun x=>⟨aU [(1,.sl (p.map ai) full),(3,.pt (ay s) 0),(7,.sl (ints W) false),(9,aA need),(10,.dc 0 x.2.1 0 ((cv s.needs.length need at' p x.1).1).length x.2.2),(11,aA at'),(12,.pt (ai ⟨at',[need]⟩) 0),(13,BB (cv s.needs.length need at' p x.1).2),(14,aA (x.1:Nat))],[.cells (mE (cv s.needs.length need at' p x.1).1) 2 x.2.1],bP.none,false,0⟩) (fun x=>p.length - x.1) ?_ (0,0,0) ⟨Nat.zero_le _,.inl rfl⟩
 rintro ⟨k,aC,c⟩ ⟨hk,hc⟩
 dsimp only at hk hc
 have hln:=rL (len:=s.needs.length) (need:=need) (at':=at') (p:=p) k
 have hend:k=p.length→nu s.needs.length need at' p=if ((cv s.needs.length need at' p k).2)=true then (cv s.needs.length need at' p k).1 else (cv s.needs.length need at' p k).1++[⟨at',[need]⟩]:=fun e=>by unfold nu;rw [e]
 have hsc:∀ h:k < p.length,(cv s.needs.length need at' p (k+1))=_:=fun h=>l9 (len:=s.needs.length) (need:=need) (at':=at') h
 show aB _ _ _ _ ⟨aU [(1,.sl (p.map ai) full),(3,.pt (ay s) 0),(7,.sl (ints W) false),(9,aA need),(10,.dc 0 aC 0 ((cv s.needs.length need at' p k).1).length c),(11,aA at'),(12,.pt (ai ⟨at',[need]⟩) 0),(13,BB (cv s.needs.length need at' p k).2),(14,aA (k:Nat))],[.cells (mE (cv s.needs.length need at' p k).1) 2 aC],bP.none,false,0⟩ _
 generalize hS:(cv s.needs.length need at' p k)=st at *
 obtain ⟨L,t⟩:=st
 dsimp only at hc hln hend hsc ⊢
 have hL9:L.length≤9:=by split at hln <;> omega
 by_cases hlt:k < p.length
 ·have d1:decide ((k:Int) < ((p.map ai).length:Int))=true:=decide_eq_true (by omega)
  have hat:(p.map ai)[((k:Nat):Int).toNat]?=some (ai p[k]):=bC hlt
  have hs1:=hsc hlt
  have hcg:=hpo.aF _ (List.getElem_mem hlt)
  by_cases hd:p[k].day=at'
  ·have d2:decide (p[k].day=at')=true:=decide_eq_true hd
   rw [if_pos hd] at hs1
   have oh:=fun m:Nat=>OZ false p[k].aF false ((m:Nat):Int) hcg
   refine RM.cm (mu:=fun _=>false) ?_
   repeat' (first |refine u1 ?_ |refine u2 ?_ |fail)
   refine aB.seq ?_
   refine aB.block ?_
   refine aB.seq ?_
   refine RM.cm (mu:=fun _=>false) ?_
   repeat' (first |((with_reducible show RM.wpOp _ _ (.indexAddr _ _ _) _ _ _);refine ⟨ai p[k],⟨by omega,hat⟩,rfl,?_⟩) |refine u1 ?_ |refine u2 ?_ |fail)
   refine aB.cond rfl (fun _=>?_) (fun h=>absurd (d2.symm.trans h) (by simp))
   refine RM.cm (mu:=fun _=>false) ?_
   repeat' (first |refine u1 ?_ |refine u2 ?_ |fail)
   refine RM.cm (mu:=fun _=>false) ?_
   repeat' (first |refine u1 ?_ |refine u2 ?_ |fail)
   refine RM.cutAt (st':=⟨aU [(1,.sl (p.map ai) full),(3,.pt (ay s) 0),(7,.sl (ints W) false),(9,aA need),(10,.dc 0 aC 0 (L).length c),(11,aA at'),(12,.pt (ai ⟨at',[need]⟩) 0),(13,BB true),(14,aA (k:Nat)),(15,.sl (ints (gG need p[k] s.needs.length)) false)],[.cells (mE L) 2 aC],bP.none,false,0⟩) ?_ ?_
   ·refine RM.cm (mu:=fun _=>false) ?_
    repeat' (first |refine u1 ?_ |refine u2 ?_ |fail)
    refine aB.block ?_
    refine aB.aL (au.trans (au.u7 1) (au.OT (l:=[(1,.sl (p.map ai) full),(3,.pt (ay s) 0),(7,.sl (ints W) false),(9,aA need),(10,.dc 0 aC 0 (L).length c),(11,aA at'),(12,.pt (ai ⟨at',[need]⟩) 0),(13,BB true),(14,aA (k:Nat)),(15,.dc 1 0 0 ((gG need p[k] 0)).length 0),(16,aA (0:Nat))]) (hp:=[.cells (mE L) 2 aC,.cells (fT (gG need p[k] 0)) 1 0]) 2 rfl ⟨cH.refl _,cH.refl _,cH.refl _,cH.refl _,cH.refl _,cH.refl _,cH.refl _,cH.refl _,cH.refl _,cH.u6,cH.refl _,trivial⟩ (Nat.zero_le _) rfl (qp _ _ _ _))) ?_
    refine aB.loop (fun x:Nat × Nat × Nat=>x.1≤s.needs.length∧(x.2.2=((gG need p[k] x.1)).length∨x.2.2=((gG need p[k] x.1)).length+1)) (fun x=>⟨aU [(1,.sl (p.map ai) full),(3,.pt (ay s) 0),(7,.sl (ints W) false),(9,aA need),(10,.dc 0 aC 0 (L).length c),(11,aA at'),(12,.pt (ai ⟨at',[need]⟩) 0),(13,BB true),(14,aA (k:Nat)),(15,.dc 1 x.2.1 0 ((gG need p[k] x.1)).length x.2.2),(16,aA (x.1:Nat))],[.cells (mE L) 2 aC,.cells (fT (gG need p[k] x.1)) 1 x.2.1],bP.none,false,0⟩) (fun x=>s.needs.length - x.1) ?_ (0,0,0) ⟨Nat.zero_le _,.inl rfl⟩
    rintro ⟨m,v2,c2⟩ ⟨hm,hc2⟩
    dsimp only at hm hc2
    have hgl:(fT (gG need p[k] m)).length=((gG need p[k] m)).length:=by rw [List.length_map]
    have hcl:=vO need p[k] m
    show aB _ _ _ _ ⟨aU [(1,.sl (p.map ai) full),(3,.pt (ay s) 0),(7,.sl (ints W) false),(9,aA need),(10,.dc 0 aC 0 (L).length c),(11,aA at'),(12,.pt (ai ⟨at',[need]⟩) 0),(13,BB true),(14,aA (k:Nat)),(15,.dc 1 v2 0 ((gG need p[k] m)).length c2),(16,aA (m:Nat))],[.cells (mE L) 2 aC,.cells (fT (gG need p[k] m)) 1 v2],bP.none,false,0⟩ _
    by_cases hlm:m < s.needs.length
    ·have d3:decide ((m:Int) < ((s.needs.map aH).length:Int))=true:=decide_eq_true (by omega)
     have hlt:=hlm
     have hs1:(gG need p[k] (m+1))=if (decide (((m:Nat):Int)=need) || hasB p[k].aF (m:Nat))=true then (gG need p[k] m)++[((m:Nat):Int)] else (gG need p[k] m):=rfl
     by_cases hn:((m:Nat):Int)=need
     ·have d4:=decide_eq_true hn
      rw [d4,Bool.true_or,if_pos rfl] at hs1
      refine aa (mu:=fun _=>false) ?_
      repeat' (first |((with_reducible show RM.wpOp _ _ (.call _) _ _ _);refine RM.u9 (cs:=fT (gG need p[k] m)) (n:=((gG need p[k] m)).length) (els:=[eI (m:Nat)]) rfl rfl rfl rfl rfl (fun el hel=>by rw [List.mem_singleton.1 hel];rfl) rfl rfl (by rw [hgl];exact (Nat.mul_one _).symm) hc2 (by simp only [List.length_singleton];omega) (fun v' c' hc'=>?_)) |refine u1 ?_ |refine u2 ?_ |fail)
      refine ⟨(m+1,v',c'),⟨hlt,(by dsimp only;rw [hs1];first|exact hc2|(rw [List.length_append];exact hc'))⟩,(by dsimp only;omega),au.to 2 (by dsimp only;rw [hs1];first|rfl|(unfold fT;rw [List.map_append];rfl)) ⟨rfl,rfl,rfl,rfl,rfl,rfl,rfl,rfl,rfl,(by rw [hs1];first|rfl|(rw [List.length_append];rfl)),bu (by simp),trivial⟩ (Nat.zero_le _) rfl (qp _ _ _ _)⟩
     ·have d4:=decide_eq_false hn
      rw [d4,Bool.false_or] at hs1
      have om:=oh m
      cases hb:hasB p[k].aF (m:Nat) with
      | true =>
       rw [hb] at om hs1
       rw [if_pos rfl] at hs1
       refine aa (mu:=fun _=>false) ?_
       repeat' (first |((with_reducible show RM.wpOp _ _ (.indexAddr _ _ _) _ _ _);refine ⟨ai p[k],⟨by omega,hat⟩,rfl,?_⟩) |((with_reducible show RM.wpOp _ _ (.call _) _ _ _);refine RM.u9 (cs:=fT (gG need p[k] m)) (n:=((gG need p[k] m)).length) (els:=[eI (m:Nat)]) rfl rfl rfl rfl rfl (fun el hel=>by rw [List.mem_singleton.1 hel];rfl) rfl rfl (by rw [hgl];exact (Nat.mul_one _).symm) hc2 (by simp only [List.length_singleton];omega) (fun v' c' hc'=>?_)) |refine u1 ?_ |((with_reducible show aj _ _ _ _ _ _ _ _);refine af.call om rfl rfl ?_) |refine u2 ?_ |fail)
       refine ⟨(m+1,v',c'),⟨hlt,(by dsimp only;rw [hs1];first|exact hc2|(rw [List.length_append];exact hc'))⟩,(by dsimp only;omega),au.to 2 (by dsimp only;rw [hs1];first|rfl|(unfold fT;rw [List.map_append];rfl)) ⟨rfl,rfl,rfl,rfl,rfl,rfl,rfl,rfl,rfl,(by rw [hs1];first|rfl|(rw [List.length_append];rfl)),bu (by simp),trivial⟩ (Nat.zero_le _) rfl (qp _ _ _ _)⟩
      | false =>
       rw [hb] at om hs1
       rw [if_neg (by simp)] at hs1
       refine aa (mu:=fun _=>false) ?_
       repeat' (first |((with_reducible show RM.wpOp _ _ (.indexAddr _ _ _) _ _ _);refine ⟨ai p[k],⟨by omega,hat⟩,rfl,?_⟩) |refine u1 ?_ |((with_reducible show aj _ _ _ _ _ _ _ _);refine af.call om rfl rfl ?_) |refine u2 ?_ |fail)
       refine ⟨(m+1,v2,c2),⟨hlt,(by dsimp only;rw [hs1];first|exact hc2|(rw [List.length_append];exact hc'))⟩,(by dsimp only;omega),au.to 2 (by dsimp only;rw [hs1];first|rfl|(unfold fT;rw [List.map_append];rfl)) ⟨rfl,rfl,rfl,rfl,rfl,rfl,rfl,rfl,rfl,(by rw [hs1];first|rfl|(rw [List.length_append];rfl)),bu (by simp),trivial⟩ (Nat.zero_le _) rfl (qp _ _ _ _)⟩
    ·have d3:decide ((m:Int) < ((s.needs.map aH).length:Int))=false:=decide_eq_false (by omega)
     obtain rfl:m=s.needs.length:=by omega
     refine aa (mu:=fun _=>false) ?_
     repeat' (first |refine u1 ?_ |refine u2 ?_ |fail)
     refine .is (au.trans (au.giveUp 1 (l:=[(1,.sl (p.map ai) full),(3,.pt (ay s) 0),(7,.sl (ints W) false),(9,aA need),(10,.dc 0 aC 0 (L).length c),(11,aA at'),(12,.pt (ai ⟨at',[need]⟩) 0),(13,BB true),(14,aA (k:Nat)),(15,.sl (ints (gG need p[k] s.needs.length)) false)]) (hp:=[.cells (mE L) 2 aC,.gone]) rfl (Nat.zero_le _) (rA _) ⟨.same rfl,.same rfl,.same rfl,.same rfl,.same rfl,.same rfl,.same rfl,.same rfl,.same rfl,.row 1 (qx _).1 (qx _).2.1 (qx _).2.2.1 (qx _).2.2.2 (fun h=>Bool.noConfusion h),trivial⟩ (Kn _ _ _ _) rfl) (au.to 1 rfl ⟨rfl,rfl,rfl,rfl,rfl,rfl,rfl,rfl,rfl,rfl,trivial⟩ (Nat.zero_le _) rfl (jI _ _)))
   ·refine aa (mu:=fun _=>false) ?_
    repeat' (first |((with_reducible show RM.wpOp _ _ (.call _) _ _ _);refine RM.u9 (cs:=mE L) (n:=(L).length) (els:=[ai ⟨at',(gG need p[k] s.needs.length)⟩]) rfl rfl rfl rfl rfl (fun el hel=>by rw [List.mem_singleton.1 hel];rfl) rfl rfl (iZ L) hc (by simp only [List.length_singleton];omega) (fun v9 c9 hc9=>?_)) |refine u1 ?_ |refine u2 ?_ |fail)
    refine aa (mu:=fun _=>false) ?_
    repeat' (first |refine u1 ?_ |refine u2 ?_ |fail)
    refine ⟨(k+1,v9,c9),⟨hlt,by dsimp only;rw [hs1];dsimp only;rw [List.length_append];exact hc9⟩,(by dsimp only;omega),au.to 1 (by dsimp only;rw [hs1];dsimp only;rw [←jH];rfl) ⟨rfl,rfl,rfl,rfl,(by rw [hs1];dsimp only;rw [List.length_append];rfl),rfl,rfl,(by rw [hs1];rfl),bu (by simp),trivial⟩ (Nat.zero_le _) rfl (jI _ _)⟩
  ·have d2:decide (p[k].day=at')=false:=decide_eq_false hd
   rw [if_neg hd] at hs1
   cases t with
   | true =>
    rw [if_neg (by simp)] at hs1
    generalize p[k]=o at *
    refine aa (mu:=fun _=>false) ?_
    repeat' (first |((with_reducible show RM.wpOp _ _ (.indexAddr _ _ _) _ _ _);refine ⟨ai o,⟨by omega,hat⟩,rfl,?_⟩) |((with_reducible show RM.wpOp _ _ (.call _) _ _ _);refine RM.u9 (cs:=mE L) (n:=(L).length) (els:=[ai o]) rfl rfl rfl rfl rfl (fun el hel=>by rw [List.mem_singleton.1 hel];rfl) rfl rfl (iZ L) hc (by simp only [List.length_singleton];omega) (fun v9 c9 hc9=>?_)) |refine u1 ?_ |((with_reducible show RM.wpOp _ _ (.indexAddr _ _ _) _ _ _);refine ⟨ai o,⟨by omega,hat⟩,rfl,?_⟩) |refine u2 ?_ |fail)
    refine ⟨(k+1,v9,c9),⟨hlt,by dsimp only;rw [hs1];dsimp only;rw [List.length_append];exact hc9⟩,(by dsimp only;omega),au.to 1 (by dsimp only;rw [hs1];dsimp only;rw [←jH];rfl) ⟨rfl,rfl,rfl,rfl,(by rw [hs1];dsimp only;rw [List.length_append];rfl),rfl,rfl,(by rw [hs1];rfl),bu (by simp),trivial⟩ (Nat.zero_le _) rfl (jI _ _)⟩
   | false =>
    by_cases ha:at' < p[k].day
    ·have d3:=decide_eq_true ha
     rw [if_pos ⟨rfl,ha⟩] at hs1
     generalize p[k]=o at *
     have hl2:(mE L++[ai ⟨at',[need]⟩].flatten).length=(L.length+1) * 2:=by rw [jH,iZ,List.length_append];rfl
     refine aa (mu:=fun _=>false) ?_
     repeat' (first |((with_reducible show RM.wpOp _ _ (.indexAddr _ _ _) _ _ _);refine ⟨ai o,⟨by omega,hat⟩,rfl,?_⟩) |((with_reducible show RM.wpOp _ _ (.call _) _ _ _);refine RM.u9 (cs:=mE L) (n:=(L).length) (els:=[ai ⟨at',[need]⟩]) rfl rfl rfl rfl rfl (fun el hel=>by rw [List.mem_singleton.1 hel];rfl) rfl rfl (iZ L) hc (by simp only [List.length_singleton];omega) (fun v8 c8 hc8=>?_)) |((with_reducible show RM.wpOp _ _ (.call _) _ _ _);refine RM.u9 (cs:=mE L++[ai ⟨at',[need]⟩].flatten) (n:=L.length+1) (els:=[ai o]) rfl rfl rfl rfl rfl (fun el hel=>by rw [List.mem_singleton.1 hel];rfl) rfl rfl hl2 hc8 (by simp only [List.length_singleton];omega) (fun v9 c9 hc9=>?_)) |refine u1 ?_ |((with_reducible show RM.wpOp _ _ (.indexAddr _ _ _) _ _ _);refine ⟨ai o,⟨by omega,hat⟩,rfl,?_⟩) |refine u2 ?_ |fail)
     refine ⟨(k+1,v9,c9),⟨hlt,by dsimp only;rw [hs1];dsimp only;rw [List.length_append,List.length_append];exact hc9⟩,(by dsimp only;omega),au.to 1 (by dsimp only;rw [hs1];dsimp only;rw [←jH,←jH];rfl) ⟨rfl,rfl,rfl,rfl,(by rw [hs1];dsimp only;rw [List.length_append,List.length_append];rfl),rfl,rfl,(by rw [hs1];rfl),bu (by simp),trivial⟩ (Nat.zero_le _) rfl (jI _ _)⟩
    ·have d3:=decide_eq_false ha
     rw [if_neg (fun h=>ha h.2)] at hs1
     generalize p[k]=o at *
     refine aa (mu:=fun _=>false) ?_
     repeat' (first |((with_reducible show RM.wpOp _ _ (.indexAddr _ _ _) _ _ _);refine ⟨ai o,⟨by omega,hat⟩,rfl,?_⟩) |((with_reducible show RM.wpOp _ _ (.call _) _ _ _);refine RM.u9 (cs:=mE L) (n:=(L).length) (els:=[ai o]) rfl rfl rfl rfl rfl (fun el hel=>by rw [List.mem_singleton.1 hel];rfl) rfl rfl (iZ L) hc (by simp only [List.length_singleton];omega) (fun v9 c9 hc9=>?_)) |refine u1 ?_ |((with_reducible show RM.wpOp _ _ (.indexAddr _ _ _) _ _ _);refine ⟨ai o,⟨by omega,hat⟩,rfl,?_⟩) |refine u2 ?_ |fail)
     refine ⟨(k+1,v9,c9),⟨hlt,by dsimp only;rw [hs1];dsimp only;rw [List.length_append];exact hc9⟩,(by dsimp only;omega),au.to 1 (by dsimp only;rw [hs1];dsimp only;rw [←jH];rfl) ⟨rfl,rfl,rfl,rfl,(by rw [hs1];dsimp only;rw [List.length_append];rfl),rfl,rfl,(by rw [hs1];rfl),bu (by simp),trivial⟩ (Nat.zero_le _) rfl (jI _ _)⟩
 ·have d1:decide ((k:Int) < ((p.map ai).length:Int))=false:=decide_eq_false (by omega)
  have hq:=hend (by omega)
  have tl:=BU (s:=s) (p:=p) (full:=full) (W:=W) (need:=need) (at':=at') (t:=t) (aC:=aC) hc hL9 (fun q e=>h q (e.trans hq.symm))
  refine aa (mu:=fun _=>false) ?_
  repeat' (first |refine u1 ?_ |refine u2 ?_ |fail)
  refine aB.aL (au.to (l:=[(1,.sl (p.map ai) full),(3,.pt (ay s) 0),(7,.sl (ints W) false),(9,aA need),(10,.dc 0 aC 0 (L).length c),(11,aA at'),(12,.pt (ai ⟨at',[need]⟩) 0),(13,BB t)]) (hp:=[.cells (mE L) 2 aC]) 1 rfl ⟨rfl,rfl,rfl,rfl,rfl,rfl,rfl,rfl,trivial⟩ (Nat.zero_le _) rfl (jI _ _)) ?_
  exact tl
theorem Jp (s:ak) (hs:s.Ok) (p:List Order) (full:Bool) (hp:vQ p) (xa xb:Nat) (hxa:xa≤255) (hxb:xb≤255):Pu false 10 [.ag (ay s),.sl (p.map ai) full,.ag [U8 xa,U8 xb]] (BB true):=by
 have o1:=zG false s hs p full hp
 have o2:=qv false s hs p full hp
 have aw:=BC false
 have z1:(!decide ((0:Int)=0))=false:=by decide
 unfold vw vv at o1
 by_cases c1:(aO s p).2=0
 ·rw [c1] at o2
  rw [if_pos c1,c1] at o1
  have hpg:=dM c1
  have hg:=hpg.good
  have p8:=hpg.len
  have hdays:=hg.days
  have hlen:=hg.len
  have eg:((s.needs.map aH).length:Int)=s.needs.length:=by simp
  have hm1:=Int.emod_nonneg (xb:Int) (show s.days ≠ 0 by omega)
  have hm2:=Int.emod_lt_of_pos (xb:Int) (show 0 < s.days by omega)
  have hWl:(iH s p (cV s p)).length=s.needs.length:=by simp [iH]
  have tl:∀ need at':Int,aB TT TB false NC ⟨aU [(1,.sl (p.map ai) full),(3,.pt (ay s) 0),(7,.sl (ints (iH s p (cV s p))) false),(9,aA need),(10,.fl (.slice none 0 0)),(11,aA at'),(12,.pt (ai ⟨at',[need]⟩) 0),(13,BB false)],[],bP.none,false,0⟩ (sK TT Tryd.f10.results.toList (BB true)):=fun need at'=>by
   refine Di hg p8 hp fun q hq=>?_
   have hqo:vQ q:=by rw [hq];exact Jo hlen.1 p8 hlen.2 hp
   have oq:=zG false s hs q false hqo
   unfold vw vv at oq
   refine Dh hs hqo (Y:=iH s q (cV s q)) (fun hz=>?_) (fun _=>by rw [hWl];simp [iH]) (by omega) (fun hz hle k h h'=>?_)
   ·rw [if_pos hz,hz] at oq
    exact oq
   ·have hw:∀ n,wL s p n (cV s p)≤wL s q n (cV s q):=fun n=>by
     rw [hq] at hle ⊢
     exact Fb hpg hle n
    rw [qw,qw]
    exact hw k
  generalize iH s p (cV s p)=W at *
  refine af.body (fn:=Tryd.f10) rfl rfl rfl rfl ?_
  refine RM.cm (mu:=fun _=>false) ?_
  repeat' (first |refine u1 ?_ |refine u2 ?_ |fail)
  refine RM.cm (mu:=fun _=>false) ?_
  repeat' (first |refine u1 ?_ |((with_reducible show aj _ _ _ _ _ _ _ _);refine af.call o2 rfl rfl ?_) |refine u2 ?_ |fail)
  refine RM.cm (mu:=fun _=>false) ?_
  repeat' (first |refine u1 ?_ |((with_reducible show aj _ _ _ _ _ _ _ _);refine af.call o1 rfl rfl ?_) |refine u2 ?_ |fail)
  refine RM.cm (mu:=fun _=>false) ?_
  repeat' (first |refine u1 ?_ |refine u2 ?_ |fail)
  refine RM.cm (mu:=fun _=>false) ?_
  repeat' (first |((with_reducible show RM.wpOp _ _ (.convert _ _ _) _ _ _);refine PM rfl hxa ?_) |refine u1 ?_ |refine u2 ?_ |fail)
  refine RM.cm (mu:=fun _=>false) ?_
  repeat' (first |refine u1 ?_ |refine u2 ?_ |fail)
  refine RM.cm (mu:=fun _=>false) ?_
  repeat' (first |((with_reducible show RM.wpOp _ _ (.convert _ _ _) _ _ _);refine PM rfl hxb ?_) |refine u1 ?_ |refine u2 ?_ |fail)
  refine RM.cm (mu:=fun _=>false) ?_
  repeat' (first |refine u1 ?_ |refine u2 ?_ |fail)
  refine RM.cm (mu:=fun _=>false) ?_
  repeat' (first |refine u1 ?_ |refine u2 ?_ |fail)
  refine aB.aL (au.trans (au.M6 0 (ds:=ai ⟨(xb:Int) % s.days,[(xa:Int) % ((s.needs.map aH).length:Int)]⟩) rfl (jC.two (cH.refl _) cH.full) rfl)
   (au.trans (au.giveUp 0 (l:=[(1,.sl (p.map ai) full),(3,.pt (ay s) 0),(7,.sl (ints W) false),(9,aA ((xa:Int) % ((s.needs.map aH).length:Int))),(10,.fl (.slice none 0 0)),(11,aA ((xb:Int) % s.days)),(12,.pt (ai ⟨(xb:Int) % s.days,[(xa:Int) % ((s.needs.map aH).length:Int)]⟩) 0),(13,BB false)]) (hp:=[.gone]) rfl (Nat.zero_le _) rfl ⟨.same rfl,.same rfl,.same rfl,.same rfl,.same rfl,.same rfl,.ptr,.same rfl,trivial⟩ rfl rfl)
    (au.to (l:=[(1,.sl (p.map ai) full),(3,.pt (ay s) 0),(7,.sl (ints W) false),(9,aA ((xa:Int) % ((s.needs.map aH).length:Int))),(10,.fl (.slice none 0 0)),(11,aA ((xb:Int) % s.days)),(12,.pt (ai ⟨(xb:Int) % s.days,[(xa:Int) % ((s.needs.map aH).length:Int)]⟩) 0),(13,BB false)]) (hp:=[]) 0 rfl ⟨rfl,rfl,rfl,rfl,rfl,rfl,rfl,rfl,trivial⟩ (Nat.zero_le _) rfl rfl))) ?_
  exact tl _ _
 ·rw [decide_eq_false c1] at o2
  refine af.body (fn:=Tryd.f10) rfl rfl rfl rfl ?_
  refine aa (mu:=fun _=>false) ?_
  repeat' (first |refine u1 ?_ |((with_reducible show aj _ _ _ _ _ _ _ _);refine af.call o2 rfl rfl ?_) |((with_reducible show aj _ _ _ _ _ _ _ _);refine af.call aw rfl rfl ?_) |refine u2 ?_ |fail)
  exact ⟨[_],⟨Fz.deep rfl,trivial⟩,rfl⟩
end Go.Proofs.YtpeogffeoehboaaDoor
