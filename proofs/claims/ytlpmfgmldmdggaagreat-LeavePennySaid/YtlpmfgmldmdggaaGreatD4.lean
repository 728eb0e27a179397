/-
  Contracts of the program's functions and of the document's. Lemmas alone; their conditions stand in them.
-/
import Derived.Test.YtlpmfgmldmdggaaGreatD3
open Go Go.RM
namespace Go.Proofs.YtlpmfgmldmdggaaGreat
set_option maxRecDepth 100000
set_option maxHeartbeats 4000000
theorem payE_ok {c:ay} {l:List Ev} (h:(wC c l).2=0) {F T:Int} (hF:0≤F) (hFT:F≤T) (hT:T≤40000):payE c l F T=0:=by
 unfold payE
 rw [Jm h ⟨hF,by omega⟩,Jm h ⟨by omega,hT⟩,if_neg (show ¬ ((0:Int) ≠ 0) from fun h=>h rfl),if_neg (show ¬ ((0:Int) ≠ 0) from fun h=>h rfl),if_neg (show ¬ T < F by omega)]
theorem payV_ok {c:ay} {l:List Ev} (h:(wC c l).2=0) (hv:Vd c l) {F T:Int} (hF:0≤F) (hFT:F≤T) (hT:T≤40000):payV c l F T=pyD c l F T c.aO.length:=by
 unfold payV
 rw [if_pos (payE_ok h hF hFT hT),pyD_eq hv hF (by omega)]
theorem pyD_at {c:ay} {l:List Ev} {F G:Int} {n i:Nat} (hi:i < n):(pyD c l F G n)[i]?=some (dueA c i (sP c l i G) / 1000 - dueA c i (sP c l i F) / 1000):=by
 unfold pyD
 rw [List.getElem?_map,List.getElem?_range hi]
 rfl
theorem penny_c (c:ay) (h:c.Ok) (l:List Ev) (f:Bool) (hl:l.length≤maxLen) (hd:∀ x ∈ l,x.day≤later) (n m r:Nat) (hn:n≤65535) (hm:m≤65535) (hr:r≤65535):Pu false 10 [.ag (aX c),.sl (l.map cO) f,.ag [U16 n,U16 m,U16 r]] (BB true):=by
 by_cases h0:(wC c l).2=0
 ·have o1:=Iy false c h l f hl hd
  rw [decide_eq_true h0] at o1
  have hv:=Iw hd h0
  have hm5:=hv.good.aO
  have em:((c.aO.map bG).length:Int)=c.aO.length:=by simp
  obtain ⟨F,hF⟩:∃ F:Int,F=((n:Nat):Int) % 40001:=⟨_,rfl⟩
  have bF:0≤F∧F≤40000:=by omega
  obtain ⟨M,hM⟩:∃ M:Int,M=F+((m:Nat):Int) % (40000 - F+1):=⟨_,rfl⟩
  have e1:=Int.emod_nonneg ((m:Nat):Int) (show 40000 - F+1 ≠ 0 by omega)
  have e2:=Int.emod_lt_of_pos ((m:Nat):Int) (show 0 < 40000 - F+1 by omega)
  have bM:F≤M∧M≤40000:=by omega
  obtain ⟨T,hT⟩:∃ T:Int,T=M+((r:Nat):Int) % (40000 - M+1):=⟨_,rfl⟩
  have e3:=Int.emod_nonneg ((r:Nat):Int) (show 40000 - M+1 ≠ 0 by omega)
  have e4:=Int.emod_lt_of_pos ((r:Nat):Int) (show 0 < 40000 - M+1 by omega)
  have bT:M≤T∧T≤40000:=by omega
  have o2:=pay_c false c h l f hl hd F M
  have o3:=pay_c false c h l f hl hd M T
  have o4:=pay_c false c h l f hl hd F T
  have o5:=Cq false c h l f hl hd F
  have o6:=Cq false c h l f hl hd T
  rw [payE_ok h0 bF.1 bM.1 bM.2,payV_ok h0 hv bF.1 bM.1 bM.2] at o2
  rw [payE_ok h0 (by omega) bT.1 bT.2,payV_ok h0 hv (by omega) bT.1 bT.2] at o3
  rw [payE_ok h0 bF.1 (by omega) bT.2,payV_ok h0 hv bF.1 (by omega) bT.2] at o4
  have on1:=Jm h0 bF
  have on2:=Jm h0 (D:=T) ⟨by omega,bT.2⟩
  unfold Im at o5 o6
  rw [if_pos on1,on1] at o5
  rw [if_pos on2,on2] at o6
  have hA:=HC hv bF.1
  have hB:=HC hv (D:=T) (by omega)
  have hla:(Cp c l F).length=c.aO.length:=by rw [hA];simp
  have hlb:(Cp c l T).length=c.aO.length:=by rw [hB];simp
  have l1:=pyD_len c l F M c.aO.length
  have l2:=pyD_len c l M T c.aO.length
  have l3:=pyD_len c l F T c.aO.length
  have hab:∀ i (_:i < c.aO.length),∃ pa oa a0 a1 a2 pb ob b0 b1 b2 x y z,(Cp c l F)[i]?=some ⟨pa,oa,a0,a1,a2⟩∧(Cp c l T)[i]?=some ⟨pb,ob,b0,b1,b2⟩∧(pyD c l F M c.aO.length)[i]?=some x∧(pyD c l M T c.aO.length)[i]?=some y∧(pyD c l F T c.aO.length)[i]?=some z∧∀ ra rb rc rd e,sJ c i=some ⟨ra,rb,rc,rd,e⟩→0≤rb∧rb≤1000→0≤rc∧rc≤1000→0≤rd∧rd≤1000→PnOk rb rc rd F T a0 a1 a2 b0 b1 b2 x y z:=by
   intro i hi
   refine ⟨(sP c l i F).place,(sP c l i F).gI,(tG c l i F).1,(tG c l i F).2.1,(tG c l i F).2.2,(sP c l i T).place,(sP c l i T).gI,(tG c l i T).1,(tG c l i T).2.1,(tG c l i T).2.2,_,_,_,?_,?_,pyD_at hi,pyD_at hi,pyD_at hi,fun ra rb rc rd e hra g1 g2 g3=>penny_man hv bF.1 bM.1 bT.1 bT.2 hra g1 g2 g3⟩
   ·rw [hA,List.getElem?_map,List.getElem?_range hi]
    rfl
   ·rw [hB,List.getElem?_map,List.getElem?_range hi]
    rfl
  clear hA hB
  generalize Cp c l F=A at *
  generalize Cp c l T=B at *
  generalize pyD c l F M c.aO.length=P at *
  generalize pyD c l M T c.aO.length=Q at *
  generalize pyD c l F T c.aO.length=R at *
  have q0:(!decide ((0:Int)=0))=false:=rfl
  have q1:(!decide (((ints P).length:Int)=((c.aO.map bG).length:Int)))=false:=by rw [decide_eq_true (by rw [List.length_map];omega)];rfl
  have q2:(!decide (((ints Q).length:Int)=((ints P).length:Int)))=false:=by rw [decide_eq_true (by rw [List.length_map,List.length_map];omega)];rfl
  have q3:(!decide (((ints R).length:Int)=((ints P).length:Int)))=false:=by rw [decide_eq_true (by rw [List.length_map,List.length_map];omega)];rfl
  have q4:(!decide (((A.map iz).length:Int)=((ints P).length:Int)))=false:=by rw [decide_eq_true (by rw [List.length_map,List.length_map];omega)];rfl
  have q5:(!decide (((B.map iz).length:Int)=((ints P).length:Int)))=false:=by rw [decide_eq_true (by rw [List.length_map,List.length_map];omega)];rfl
  refine af.body (fn:=Tryz.f10) rfl rfl rfl rfl ?_
  show aL TT TB false (.seq (.region _ _ _) (.seq (.seq (.region _ _ _) _) (.seq (.region _ _ _) (.seq (.region _ _ _) (.seq (.region _ _ _) (.seq (.region _ _ _) (.seq (.region _ _ _) (.seq (.region _ _ _) (.seq (.region _ _ _) (.seq (.region _ _ _) (.seq (.seq (.region _ _ _) _) lp10))))))))))) _ _
  refine RM.qk (mu:=fun _=>false) ?_
  repeat' (first |refine u1 ?_ |refine u2 ?_ |fail)
  refine RM.qk (mu:=fun _=>false) ?_
  repeat' (first |refine u1 ?_ |((with_reducible show ah _ _ _ _ _ _ _ _);refine af.call o1 rfl rfl ?_) |refine u2 ?_ |fail)
  refine RM.qk (mu:=fun _=>false) ?_
  repeat' (first |refine u1 ?_ |((with_reducible show RM.wpOp _ _ (.convert _ _ _) _ _ _);refine Jn rfl hn ?_) |refine u2 ?_ |fail)
  rw [←hF]
  refine RM.qk (mu:=fun _=>false) ?_
  repeat' (first |refine u1 ?_ |((with_reducible show RM.wpOp _ _ (.convert _ _ _) _ _ _);refine Jn rfl hm ?_) |refine u2 ?_ |fail)
  rw [←hM]
  refine RM.qk (mu:=fun _=>false) ?_
  repeat' (first |refine u1 ?_ |((with_reducible show RM.wpOp _ _ (.convert _ _ _) _ _ _);refine Jn rfl hr ?_) |refine u2 ?_ |fail)
  rw [←hT]
  refine RM.qk (mu:=fun _=>false) ?_
  repeat' (first |refine u1 ?_ |((with_reducible show ah _ _ _ _ _ _ _ _);refine af.call o2 rfl rfl ?_) |refine u2 ?_ |fail)
  refine RM.qk (mu:=fun _=>false) ?_
  repeat' (first |refine u1 ?_ |((with_reducible show ah _ _ _ _ _ _ _ _);refine af.call o3 rfl rfl ?_) |refine u2 ?_ |fail)
  refine RM.qk (mu:=fun _=>false) ?_
  repeat' (first |refine u1 ?_ |((with_reducible show ah _ _ _ _ _ _ _ _);refine af.call o4 rfl rfl ?_) |refine u2 ?_ |fail)
  refine RM.qk (mu:=fun _=>false) ?_
  repeat' (first |refine u1 ?_ |((with_reducible show ah _ _ _ _ _ _ _ _);refine af.call o5 rfl rfl ?_) |refine u2 ?_ |fail)
  refine RM.qk (mu:=fun _=>false) ?_
  repeat' (first |refine u1 ?_ |((with_reducible show ah _ _ _ _ _ _ _ _);refine af.call o6 rfl rfl ?_) |refine u2 ?_ |fail)
  refine RM.qk (mu:=fun _=>false) ?_
  repeat' (first |refine u1 ?_ |refine u2 ?_ |fail)
  refine aL.cr (ai.to (l:=[(3,.pt (aX c) 0),(9,aj F),(11,aj T),(12,.sl (ints P) false),(14,.sl (ints Q) false),(16,.sl (ints R) false),(18,.sl (A.map iz) false),(20,.sl (B.map iz) false)]) (hp:=[]) 0 rfl ⟨rfl,rfl,rfl,rfl,rfl,rfl,rfl,rfl,trivial⟩ (Nat.zero_le _) rfl rfl) ?_
  exact penny_loop c hv.good F T bF.1 (by omega) bT.2 P Q R A B l1 hab
 ·exact penny_err c h l f hl hd n m r h0
end Go.Proofs.YtlpmfgmldmdggaaGreat
