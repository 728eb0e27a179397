/-
  Contracts of the program's functions and of the document's. Lemmas alone; their conditions stand in them.
-/
import Derived.Test.YtlpmfgmldmdggaaGreatD5
open Go Go.RM
namespace Go.Proofs.YtlpmfgmldmdggaaGreat
set_option maxRecDepth 100000
set_option maxHeartbeats 4000000
theorem nextL_err (c:ay) (h:c.Ok) (l:List Ev) (f:Bool) (hl:l.length≤maxLen) (hd:∀ x ∈ l,x.day≤later) (n:Nat) (h0:(wC c l).2 ≠ 0):Pu false 12 [.ag (aX c),.sl (l.map cO) f,U16 n] (BB true):=by
 have o1:=Iy false c h l f hl hd
 have aw:=Jo false
 rw [decide_eq_false h0] at o1
 have o2:=next_c false c h l f hl hd 0
 have ho:C7 c l 0=(wC c l).2:=by
  unfold C7
  rw [if_pos h0]
 have d1:(!decide (C7 c l 0=0))=true:=by rw [ho,decide_eq_false h0];rfl
 generalize C7 c l 0=e at *
 generalize nextE c l 0=A at *
 refine af.body (fn:=Tryz.f12) rfl rfl rfl rfl ?_
 refine aa (mu:=fun _=>false) ?_
 repeat' (first |refine u1 ?_ |((with_reducible show ah _ _ _ _ _ _ _ _);refine af.call o1 rfl rfl ?_) |((with_reducible show ah _ _ _ _ _ _ _ _);refine af.call o2 rfl rfl ?_) |((with_reducible show ah _ _ _ _ _ _ _ _);refine af.call aw rfl rfl ?_) |refine u2 ?_ |fail)
 exact ⟨[_],⟨Fz.deep rfl,trivial⟩,rfl⟩
theorem free2 (a b:Value):iF (.tp [.fl a,.fl b]):=iF.tp fun x hx=>by
 rcases List.mem_cons.1 hx with rfl|hx
 ·exact iF.fl _
 ·rw [List.mem_singleton.1 hx]
  exact iF.fl _
def Ju (P:List Ev):List AV:=(P.map cO).flatten
theorem evF_len:∀ P:List Ev,(Ju P).length=P.length * 4
 | []=>rfl
 | x :: P=>by
  show (cO x++Ju P).length=_
  have h4:(cO x).length=4:=rfl
  rw [List.length_append,h4,evF_len P,List.length_cons]
  omega
theorem evF_one:∀ P:List Ev,(Ju P).all AV.one=true
 | []=>rfl
 | _ :: P=>evF_one P
theorem evF_deep:∀ P:List Ev,dJ (Ju P)=true
 | []=>rfl
 | _ :: P=>evF_deep P
theorem evF_snoc (P:List Ev) (x:Ev):Ju (P++[x])=Ju P++cO x:=by
 unfold Ju
 rw [List.map_append,List.flatten_append]
 simp
theorem ev_row {hp:List AB} {j v cc n:Nat} {P:List Ev} (hj:hp[j]?=some (.cells (Ju P) 4 v)) (hn:P.length=n):Fz hp (.dY j v 0 n cc) (.sl (P.map cO) false) :=
 Fz.row (es:=4) hj (by rw [evF_len];omega) (by rw [List.length_map];exact hn) (fun el hel=>by obtain ⟨x,_,rfl⟩:=List.mem_map.1 hel;rfl) (by rw [List.drop_zero,List.take_of_length_le (by rw [evF_len];omega)];rfl) (evF_deep P) (fun h=>Bool.noConfusion h)
noncomputable def lp12:Code:=zy (zy (zy (zy (zy (zy (Tryz.f12.body.getD .skip))))))
theorem nextL_loop (c:ay) (h:c.Ok) (hm5:c.aO.length≤5) (D:Int) (P:List Ev) (f':Bool) (hP:P.length≤19) (L:List Int) (hL:L.length≤c.aO.length)
  (hlaw:∀ k,k < c.aO.length→(hasN L (k:Nat)=true∧aB c P k=0∧(wC c (P++[goX D k])=(0,0)∨wC c (P++[goX D k])=((P.length:Int),8)))∨(hasN L (k:Nat)=false∧wC c (P++[goX D k])=((P.length:Int),9))) :
  aL TT TB false lp12 ⟨cz [(3,.pt (aX c) 0),(9,aj D),(10,.sl (ints L) false),(12,.sl (P.map cO) f')],[],bF.none,false,0⟩ (vF TT Tryz.f12.results.toList (BB true)):=by
 have aw:=Jo false
 have em:((c.aO.map bG).length:Int)=c.aO.length:=by simp
 have ep:((P.map cO).length:Int)=P.length:=by simp
 have hmx:P.length≤maxLen:=by simp [maxLen];omega
 have lenLq:((ints L).length:Int)=L.length:=by simp
 refine aa (mu:=fun _=>false) ?_
 show kr _ _ _ _ (.seq (.seq (.region _ _ false) _) _) _ _
 repeat' (first |refine u1 ?_ |refine u2 ?_ |fail)
 refine aL.cr (ai.to (l:=[(3,.pt (aX c) 0),(9,aj D),(10,.sl (ints L) false),(12,.sl (P.map cO) f'),(13,aj (0:Nat))]) (hp:=[]) 0 rfl ⟨rfl,rfl,rfl,rfl,rfl,trivial⟩ (Nat.zero_le _) rfl rfl) ?_
 refine aL.loop (fun k:Nat=>k≤c.aO.length) (fun k=>⟨cz [(3,.pt (aX c) 0),(9,aj D),(10,.sl (ints L) false),(12,.sl (P.map cO) f'),(13,aj (k:Nat))],[],bF.none,false,0⟩) (fun k=>c.aO.length - k) ?_ 0 (Nat.zero_le _)
 intro k hk
 by_cases hlt:k < c.aO.length
 ·have dl:decide ((k:Int) < ((c.aO.map bG).length:Int))=true:=decide_eq_true (by omega)
  have hla:=hlaw k hlt
  refine aa (mu:=fun t=>Nat.beq t 87 || (Nat.beq t 89 || Nat.beq t 94)) ?_
  repeat' (first |refine u1 ?_ |refine u2 ?_ |fail)
  refine aL.cr (ai.to (l:=[(3,.pt (aX c) 0),(9,aj D),(10,.sl (ints L) false),(12,.sl (P.map cO) f'),(13,aj (k:Nat)),(14,BB (hasN (L.take 0) (k:Nat))),(15,aj (0:Nat))]) (hp:=[]) 0 rfl ⟨rfl,rfl,rfl,rfl,rfl,rfl,rfl,trivial⟩ (Nat.zero_le _) rfl rfl) ?_
  refine aL.loop (fun i:Nat=>i≤L.length) (fun i=>⟨cz [(3,.pt (aX c) 0),(9,aj D),(10,.sl (ints L) false),(12,.sl (P.map cO) f'),(13,aj (k:Nat)),(14,BB (hasN (L.take i) (k:Nat))),(15,aj (i:Nat))],[],bF.none,false,0⟩) (fun i=>L.length - i) ?_ 0 (Nat.zero_le _)
  intro i hi
  by_cases hil:i < L.length
  ·have d2:decide ((i:Int) < ((ints L).length:Int))=true:=decide_eq_true (by omega)
   have hat:(ints L)[((i:Nat):Int).toNat]?=some (eI L[i]):=cM hil
   have hn:=hasN_take (L:=L) (k:=i) (List.getElem?_eq_getElem hil) (k:Nat)
   generalize L[i]=z at *
   cases e1:hasN (L.take i) (k:Nat) with
   | true =>
    rw [e1,Bool.true_or] at hn
    refine aa (mu:=fun _=>false) ?_
    repeat' (first |refine u1 ?_ |(refine ⟨[aj z],⟨by omega,hat⟩,rfl,?_⟩) |refine u2 ?_ |fail)
    exact ⟨i+1,hil,(by dsimp only;omega),ai.to 0 rfl ⟨rfl,rfl,rfl,rfl,rfl,by dsimp only;rw [hn];rfl,cZ (by simp),trivial⟩ (Nat.zero_le _) rfl rfl⟩
   | false =>
    rw [e1,Bool.false_or] at hn
    refine aa (mu:=fun _=>false) ?_
    repeat' (first |refine u1 ?_ |(refine ⟨[aj z],⟨by omega,hat⟩,rfl,?_⟩) |refine u2 ?_ |fail)
    exact ⟨i+1,hil,(by dsimp only;omega),ai.to 0 rfl ⟨rfl,rfl,rfl,rfl,rfl,by dsimp only;rw [hn];rfl,cZ (by simp),trivial⟩ (Nat.zero_le _) rfl rfl⟩
  ·have d2:decide ((i:Int) < ((ints L).length:Int))=false:=decide_eq_false (by omega)
   have e:L.take i=L:=List.take_of_length_le (by omega)
   rw [e]
   have o1:=sN false c P f' hmx k hlt
   have hl1:(P++[goX D k]).length=P.length+1:=by rw [List.length_append];rfl
   have o2:=wm true c h (P++[goX D k]) false (by rw [hl1];simp [maxLen];omega)
   have o3:=wm false c h (P++[goX D k]) false (by rw [hl1];simp [maxLen];omega)
   obtain ⟨a,ha⟩:∃ a,a=(wC c (P++[goX D k])).1:=⟨_,rfl⟩
   obtain ⟨e,he⟩:∃ e,e=(wC c (P++[goX D k])).2:=⟨_,rfl⟩
   have hla2:(hasN L (k:Nat)=true∧aB c P k=0∧(e=0∨e=8∧a=P.length))∨(hasN L (k:Nat)=false∧e=9∧a=P.length):=by
    rcases hla with ⟨h1,h2,h3|h3⟩|⟨h1,h3⟩
    ·rw [h3] at he;exact .inl ⟨h1,h2,.inl he⟩
    ·rw [h3] at he ha;exact .inl ⟨h1,h2,.inr ⟨he,ha⟩⟩
    ·rw [h3] at he ha;exact .inr ⟨h1,he,ha⟩
   rw [←ha,←he] at o2 o3
   clear ha he hla hlaw
   generalize aB c P k=p at *
   obtain ⟨b,hb⟩:∃ b,b=hasN L (k:Nat):=⟨_,rfl⟩
   rw [←hb] at hla2 ⊢
   clear hb
   have hsg:=evF_snoc P (goX D k)
   have z1:(!decide ((0:Int)=0))=false:=rfl
   have z2:(!decide ((8:Int)=0))=true:=rfl
   have z3:(!decide ((8:Int)=8))=false:=rfl
   have z4:(!decide ((9:Int)=9))=false:=rfl
   have z5:(!decide ((9:Int)=0))=true:=rfl
   have z6:(!decide ((P.length:Int)=((P.map cO).length:Int)))=false:=by rw [decide_eq_true ep.symm];rfl
   clear o3
   have hel:∀ el ∈ P.map cO,el.length=4:=Cs P
   have hb1:(0+(P.map cO).length) * 32≤140737488355328∧0+(P.map cO).length≤9223372036854775807:=by rw [List.length_map];omega
   have hb2:(0+(P.map cO).length+1) * 32≤140737488355328∧0+(P.map cO).length+1≤9223372036854775807:=by rw [List.length_map];omega
   have hz:(([]:List AV)++(P.map cO).flatten).length=(0+(P.map cO).length) * 4:=by rw [List.nil_append,Nat.zero_add,List.length_map];exact evF_len P
   rcases hla2 with ⟨rfl,rfl,rfl|⟨rfl,rfl⟩⟩|⟨rfl,rfl,rfl⟩
   ·refine aa (mu:=fun t=>Nat.beq t 87 || (Nat.beq t 89 || Nat.beq t 94)) ?_
    repeat' (first |((with_reducible show ah _ _ _ _ _ _ _ _);refine af.call o1 rfl rfl ?_) |((with_reducible show RM.wpOp _ _ (.call _) _ _ _);refine RM.Gx (cs:=[]) (n:=0) (c:=0) (els:=P.map cO) rfl rfl rfl rfl rfl hel (evF_one P) rfl rfl (.inl rfl) hb1 (fun v c' hc'=>?_)) |((with_reducible show RM.wpOp _ _ (.call _) _ _ _);refine RM.Gx (cs:=[]++(P.map cO).flatten) (n:=0+(P.map cO).length) (els:=[cO (goX D k)]) rfl rfl rfl rfl rfl (fun el hel=>by rw [List.mem_singleton.1 hel];rfl) rfl rfl hz hc' hb2 (fun v' c'' hc''=>?_)) |(refine RM.n2 o2 rfl rfl rfl (ze.two (Fz.deep rfl) (ev_row (P:=P++[goX D k]) (by show some (AB.cells (Ju P++cO (goX D k)) 4 _)=_;rw [hsg]) (by rw [hl1,List.length_map];show P.length+1=0+P.length+1;omega))) (free2 _ _) ?_) |refine u1 ?_ |refine u2 ?_ |fail)
    exact ⟨k+1,hlt,(by dsimp only;omega),ai.to 0 rfl ⟨rfl,rfl,rfl,rfl,cZ (by simp),trivial⟩ (Nat.zero_le _) rfl rfl⟩
   ·refine aa (mu:=fun t=>Nat.beq t 87 || (Nat.beq t 89 || Nat.beq t 94)) ?_
    repeat' (first |((with_reducible show ah _ _ _ _ _ _ _ _);refine af.call o1 rfl rfl ?_) |((with_reducible show RM.wpOp _ _ (.call _) _ _ _);refine RM.Gx (cs:=[]) (n:=0) (c:=0) (els:=P.map cO) rfl rfl rfl rfl rfl hel (evF_one P) rfl rfl (.inl rfl) hb1 (fun v c' hc'=>?_)) |((with_reducible show RM.wpOp _ _ (.call _) _ _ _);refine RM.Gx (cs:=[]++(P.map cO).flatten) (n:=0+(P.map cO).length) (els:=[cO (goX D k)]) rfl rfl rfl rfl rfl (fun el hel=>by rw [List.mem_singleton.1 hel];rfl) rfl rfl hz hc' hb2 (fun v' c'' hc''=>?_)) |(refine RM.n2 o2 rfl rfl rfl (ze.two (Fz.deep rfl) (ev_row (P:=P++[goX D k]) (by show some (AB.cells (Ju P++cO (goX D k)) 4 _)=_;rw [hsg]) (by rw [hl1,List.length_map];show P.length+1=0+P.length+1;omega))) (free2 _ _) ?_) |refine u1 ?_ |refine u2 ?_ |fail)
    exact ⟨k+1,hlt,(by dsimp only;omega),ai.to 0 rfl ⟨rfl,rfl,rfl,rfl,cZ (by simp),trivial⟩ (Nat.zero_le _) rfl rfl⟩
   ·refine aa (mu:=fun t=>Nat.beq t 87 || (Nat.beq t 89 || Nat.beq t 94)) ?_
    repeat' (first |((with_reducible show ah _ _ _ _ _ _ _ _);refine af.call o1 rfl rfl ?_) |((with_reducible show RM.wpOp _ _ (.call _) _ _ _);refine RM.Gx (cs:=[]) (n:=0) (c:=0) (els:=P.map cO) rfl rfl rfl rfl rfl hel (evF_one P) rfl rfl (.inl rfl) hb1 (fun v c' hc'=>?_)) |((with_reducible show RM.wpOp _ _ (.call _) _ _ _);refine RM.Gx (cs:=[]++(P.map cO).flatten) (n:=0+(P.map cO).length) (els:=[cO (goX D k)]) rfl rfl rfl rfl rfl (fun el hel=>by rw [List.mem_singleton.1 hel];rfl) rfl rfl hz hc' hb2 (fun v' c'' hc''=>?_)) |(refine RM.n2 o2 rfl rfl rfl (ze.two (Fz.deep rfl) (ev_row (P:=P++[goX D k]) (by show some (AB.cells (Ju P++cO (goX D k)) 4 _)=_;rw [hsg]) (by rw [hl1,List.length_map];show P.length+1=0+P.length+1;omega))) (free2 _ _) ?_) |refine u1 ?_ |refine u2 ?_ |fail)
    exact ⟨k+1,hlt,(by dsimp only;omega),ai.to 0 rfl ⟨rfl,rfl,rfl,rfl,cZ (by simp),trivial⟩ (Nat.zero_le _) rfl rfl⟩
 ·have dl:decide ((k:Int) < ((c.aO.map bG).length:Int))=false:=decide_eq_false (by omega)
  have d3:decide (((ints L).length:Int)≤((c.aO.map bG).length:Int))=true:=decide_eq_true (by omega)
  refine aa (mu:=fun _=>false) ?_
  repeat' (first |refine u1 ?_ |((with_reducible show ah _ _ _ _ _ _ _ _);refine af.call aw rfl rfl ?_) |refine u2 ?_ |fail)
  exact ⟨[_],⟨Fz.deep rfl,trivial⟩,rfl⟩
end Go.Proofs.YtlpmfgmldmdggaaGreat
open Go Go.RM
namespace Go.Proofs.YtlpmfgmldmdggaaGreat
set_option maxRecDepth 100000
set_option maxHeartbeats 4000000
theorem nextL_c (c:ay) (h:c.Ok) (l:List Ev) (f:Bool) (hl:l.length≤maxLen) (hd:∀ x ∈ l,x.day≤later) (n:Nat) (hn:n≤65535):Pu false 12 [.ag (aX c),.sl (l.map cO) f,U16 n] (BB true):=by
 by_cases h0:(wC c l).2=0
 ·have o1:=Iy false c h l f hl hd
  have aw:=Jo false
  rw [decide_eq_true h0] at o1
  have hv:=Iw hd h0
  have hm5:=hv.good.aO
  obtain ⟨D,hD⟩:∃ D:Int,D=((n:Nat):Int) % 40001:=⟨_,rfl⟩
  have bD:0≤D∧D≤40000:=by omega
  have on1:=Jm h0 bD
  have o2:=next_c false c h l f hl hd D
  unfold nextE at o2
  rw [if_pos on1,on1] at o2
  obtain ⟨f',o3⟩:=G3 false l f hl D
  have hu:=vd_until hv D
  have hlaw:=fun (h20:(cu D l).length ≠ 20) k (hk:k < c.aO.length)=>go_law h0 hv bD hk h20
  have hla:(Cp c l D).length=c.aO.length:=(atV_dok hv bD).1
  have hnl:=next_len c (Cp c l D)
  have hhas:=fun k (hk:k < c.aO.length)=>hasN_next (c:=c) (A:=Cp c l D) (m:=k) (by omega)
  have hul:=hu.len
  generalize cu D l=P at *
  generalize Cp c l D=A at *
  have ep:((P.map cO).length:Int)=P.length:=by simp
  have q0:(!decide ((0:Int)=0))=false:=rfl
  have q1:decide ((0:Int)=0)=true:=rfl
  by_cases h20:P.length=20
  ·have e2:decide (((P.map cO).length:Int)=20)=true:=decide_eq_true (by omega)
   refine af.body (fn:=Tryz.f12) rfl rfl rfl rfl ?_
   refine RM.qk (mu:=fun _=>false) ?_
   repeat' (first |refine u1 ?_ |refine u2 ?_ |fail)
   refine RM.qk (mu:=fun _=>false) ?_
   repeat' (first |refine u1 ?_ |((with_reducible show ah _ _ _ _ _ _ _ _);refine af.call o1 rfl rfl ?_) |refine u2 ?_ |fail)
   refine RM.qk (mu:=fun _=>false) ?_
   repeat' (first |refine u1 ?_ |((with_reducible show RM.wpOp _ _ (.convert _ _ _) _ _ _);refine Jn rfl hn ?_) |refine u2 ?_ |fail)
   rw [←hD]
   refine RM.qk (mu:=fun _=>false) ?_
   repeat' (first |refine u1 ?_ |((with_reducible show ah _ _ _ _ _ _ _ _);refine af.call o2 rfl rfl ?_) |refine u2 ?_ |fail)
   refine RM.qk (mu:=fun _=>false) ?_
   repeat' (first |refine u1 ?_ |((with_reducible show ah _ _ _ _ _ _ _ _);refine af.call o3 rfl rfl ?_) |refine u2 ?_ |fail)
   refine RM.qk (mu:=fun _=>false) ?_
   repeat' (first |refine u1 ?_ |((with_reducible show ah _ _ _ _ _ _ _ _);refine af.call aw rfl rfl ?_) |refine u2 ?_ |fail)
   exact ⟨[_],⟨Fz.deep rfl,trivial⟩,rfl⟩
  ·have e2:decide (((P.map cO).length:Int)=20)=false:=decide_eq_false (by omega)
   have hlaw:=hlaw h20
   generalize hL:nextV c A=L at *
   refine af.body (fn:=Tryz.f12) rfl rfl rfl rfl ?_
   show aL TT TB false (.seq (.region _ _ _) (.seq (.seq (.region _ _ _) _) (.seq (.region _ _ _) (.seq (.region _ _ _) (.seq (.region _ _ _) (.seq (.seq (.region _ _ _) _) lp12)))))) _ _
   refine RM.qk (mu:=fun _=>false) ?_
   repeat' (first |refine u1 ?_ |refine u2 ?_ |fail)
   refine RM.qk (mu:=fun _=>false) ?_
   repeat' (first |refine u1 ?_ |((with_reducible show ah _ _ _ _ _ _ _ _);refine af.call o1 rfl rfl ?_) |refine u2 ?_ |fail)
   refine RM.qk (mu:=fun _=>false) ?_
   repeat' (first |refine u1 ?_ |((with_reducible show RM.wpOp _ _ (.convert _ _ _) _ _ _);refine Jn rfl hn ?_) |refine u2 ?_ |fail)
   rw [←hD]
   refine RM.qk (mu:=fun _=>false) ?_
   repeat' (first |refine u1 ?_ |((with_reducible show ah _ _ _ _ _ _ _ _);refine af.call o2 rfl rfl ?_) |refine u2 ?_ |fail)
   refine RM.qk (mu:=fun _=>false) ?_
   repeat' (first |refine u1 ?_ |((with_reducible show ah _ _ _ _ _ _ _ _);refine af.call o3 rfl rfl ?_) |refine u2 ?_ |fail)
   refine RM.qk (mu:=fun _=>false) ?_
   repeat' (first |refine u1 ?_ |refine u2 ?_ |fail)
   refine aL.cr (ai.to (l:=[(3,.pt (aX c) 0),(9,aj D),(10,.sl (ints L) false),(12,.sl (P.map cO) f')]) (hp:=[]) 0 rfl ⟨rfl,rfl,rfl,rfl,trivial⟩ (Nat.zero_le _) rfl rfl) ?_
   refine nextL_loop c h hm5.2 D P f' (by omega) L (by omega) fun k hk=>?_
   rcases hlaw k hk with ⟨g1,g2,g3⟩|⟨g1,g3⟩
   ·exact .inl ⟨(hhas k hk).trans g1,g2,g3⟩
   ·exact .inr ⟨(hhas k hk).trans g1,g3⟩
 ·exact nextL_err c h l f hl hd n h0
end Go.Proofs.YtlpmfgmldmdggaaGreat
