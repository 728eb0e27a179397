/-
  Contracts of the program's functions and of the document's. Lemmas alone; their conditions stand in them.
-/
import Derived.Test.YtlpmfgmldmdggaaGreatD3
open Go Go.RM
namespace Go.Proofs.YtlpmfgmldmdggaaGreat
set_option maxRecDepth 100000
set_option maxHeartbeats 4000000
theorem payE_ok {c:ay} {l:List Ev} (h:(wC c l).2=0) {F T:Int} (hF:0≤F) (hFT:F≤T) (hT:T≤40000):payE c l F T=0:=by
 unfold payE
 rw [Jm h ⟨hF,by omega⟩,Jm h ⟨by omega,hT⟩,if_neg (show ¬ ((0:Int) ≠ 0) from fun h=>h rfl),if_neg (show ¬ ((0:Int) ≠ 0) from fun h=>h rfl),if_neg (show ¬ T < F by omega)]
theorem payV_ok {c:ay} {l:List Ev} (h:(wC c l).2=0) (hv:Vd c l) {F T:Int} (hF:0≤F) (hFT:F≤T) (hT:T≤40000):payV c l F T=pyD c l F T c.aO.length:=by
 unfold payV
 rw [if_pos (payE_ok h hF hFT hT),pyD_eq hv hF (by omega)]
theorem pyD_at {c:ay} {l:List Ev} {F G:Int} {n i:Nat} (hi:i < n):(pyD c l F G n)[i]?=some (dueA c i (sP c l i G) / 1000 - dueA c i (sP c l i F) / 1000):=by
 unfold pyD
 rw [List.getElem?_map,List.getElem?_range hi]
 rfl
theorem penny_c (c:ay) (h:c.Ok) (l:List Ev) (f:Bool) (hl:l.length≤maxLen) (hd:∀ x ∈ l,x.day≤later) (n m r:Nat) (hn:n≤65535) (hm:m≤65535) (hr:r≤65535):Pu false 10 [.ag (aX c),.sl (l.map cO) f,.ag [U16 n,U16 m,U16 r]] (BB true):=by
 by_cases h0:(wC c l).2=0
 ·have o1:=Iy false c h l f hl hd
  rw [decide_eq_true h0] at o1
  have hv:=Iw hd h0
  have hm5:=hv.good.aO
  have em:((c.aO.map bG).length:Int)=c.aO.length:=by simp
  obtain ⟨F,hF⟩:∃ F:Int,F=((n:Nat):Int) % 40001:=⟨_,rfl⟩
  have bF:0≤F∧F≤40000:=by omega
  obtain ⟨M,hM⟩:∃ M:Int,M=F+((m:Nat):Int) % (40000 - F+1):=⟨_,rfl⟩
  have e1:=Int.emod_nonneg ((m:Nat):Int) (show 40000 - F+1 ≠ 0 by omega)
  have e2:=Int.emod_lt_of_pos ((m:Nat):Int) (show 0 < 40000 - F+1 by omega)
  have bM:F≤M∧M≤40000:=by omega
  obtain ⟨T,hT⟩:∃ T:Int,T=M+((r:Nat):Int) % (40000 - M+1):=⟨_,rfl⟩
  have e3:=Int.emod_nonneg ((r:Nat):Int) (show 40000 - M+1 ≠ 0 by omega)
  have e4:=Int.emod_lt_of_pos ((r:Nat):Int) (show 0 < 40000 - M+1 by omega)
  have bT:M≤T∧T≤40000:=by omega
  have o2:=pay_c false c h l f hl hd F M
  have o3:=pay_c false c h l f hl hd M T
  have o4:=pay_c false c h l f hl hd F T
  have o5:=Cq false c h l f hl hd F
  have o6:=Cq false c h l f hl hd T
  rw [payE_ok h0 bF.1 bM.1 bM.2,payV_ok h0 hv bF.1 bM.1 bM.2] at o2
  rw [payE_ok h0 (by omega) bT.1 bT.2,payV_ok h0 hv (by omega) bT.1 bT.2] at o3
  rw [payE_ok h0 bF.1 (by omega) bT.2,payV_ok h0 hv bF.1 (by omega) bT.2] at o4
  have on1:=Jm h0 bF
  have on2:=Jm h0 (D:=T) ⟨by omega,bT.2⟩
  unfold Im at o5 o6
  rw [if_pos on1,on1] at o5
  rw [if_pos on2,on2] at o6
  have hA:=HC hv bF.1
  have hB:=HC hv (D:=T) (by omega)
  have hla:(Cp c l F).length=c.aO.length:=by rw [hA];simp
  have hlb:(Cp c l T).length=c.aO.length:=by rw [hB];simp
  have l1:=pyD_len c l F M c.aO.length
  have l2:=pyD_len c l M T c.aO.length
  have l3:=pyD_len c l F T c.aO.length
  have hab:∀ i (_:i < c.aO.length),∃ pa oa a0 a1 a2 pb ob b0 b1 b2 x y z,(Cp c l F)[i]?=some ⟨pa,oa,a0,a1,a2⟩∧(Cp c l T)[i]?=some ⟨pb,ob,b0,b1,b2⟩∧(pyD c l F M c.aO.length)[i]?=some x∧(pyD c l M T c.aO.length)[i]?=some y∧(pyD c l F T c.aO.length)[i]?=some z∧∀ ra rb rc rd e,sJ c i=some ⟨ra,rb,rc,rd,e⟩→0≤rb∧rb≤1000→0≤rc∧rc≤1000→0≤rd∧rd≤1000→PnOk rb rc rd F T a0 a1 a2 b0 b1 b2 x y z:=by
   intro i hi
   refine ⟨(sP c l i F).place,(sP c l i F).gI,(tG c l i F).1,(tG c l i F).2.1,(tG c l i F).2.2,(sP c l i T).place,(sP c l i T).gI,(tG c l i T).1,(tG c l i T).2.1,(tG c l i T).2.2,_,_,_,?_,?_,pyD_at hi,pyD_at hi,pyD_at hi,fun ra rb rc rd e hra g1 g2 g3=>penny_man hv bF.1 bM.1 bT.1 bT.2 hra g1 g2 g3⟩
   ·rw [hA,List.getElem?_map,List.getElem?_range hi]
    rfl
   ·rw [hB,List.getElem?_map,List.getElem?_range hi]
    rfl
  clear hA hB
  generalize Cp c l F=A at *
  generalize Cp c l T=B at *
  generalize pyD c l F M c.aO.length=P at *
  generalize pyD c l M T c.aO.length=Q at *
  generalize pyD c l F T c.aO.length=R at *
  have q0:(!decide ((0:Int)=0))=false:=rfl
  have q1:(!decide (((ints P).length:Int)=((c.aO.map bG).length:Int)))=false:=by rw [decide_eq_true (by rw [List.length_map];omega)];rfl
  have q2:(!decide (((ints Q).length:Int)=((ints P).length:Int)))=false:=by rw [decide_eq_true (by rw [List.length_map,List.length_map];omega)];rfl
  have q3:(!decide (((ints R).length:Int)=((ints P).length:Int)))=false:=by rw [decide_eq_true (by rw [List.length_map,List.length_map];omega)];rfl
  have q4:(!decide (((A.map iz).length:Int)=((ints P).length:Int)))=false:=by rw [decide_eq_true (by rw [List.length_map,List.length_map];omega)];rfl
  have q5:(!decide (((B.map iz).length:Int)=((ints P).length:Int)))=false:=by rw [decide_eq_true (by rw [List.length_map,List.length_map];omega)];rfl
  refine af.body (fn:=Tryz.f10) rfl rfl rfl rfl ?_
  show aL TT TB false (.seq (.region _ _ _) (.seq (.seq (.region _ _ _) _) (.seq (.region _ _ _) (.seq (.region _ _ _) (.seq (.region _ _ _) (.seq (.region _ _ _) (.seq (.region _ _ _) (.seq (.region _ _ _) (.seq (.region _ _ _) (.seq (.region _ _ _) (.seq (.seq (.region _ _ _) _) lp10))))))))))) _ _
  refine RM.qk (mu:=fun _=>false) ?_
  repeat' (first |refine u1 ?_ |refine u2 ?_ |fail)
  refine RM.qk (mu:=fun _=>false) ?_
  repeat' (first |refine u1 ?_ |((with_reducible show ah _ _ _ _ _ _ _ _);refine af.call o1 rfl rfl ?_) |refine u2 ?_ |fail)
  refine RM.qk (mu:=fun _=>false) ?_
  repeat' (first |refine u1 ?_ |((with_reducible show RM.wpOp _ _ (.convert _ _ _) _ _ _);refine Jn rfl hn ?_) |refine u2 ?_ |fail)
  rw [←hF]
  refine RM.qk (mu:=fun _=>false) ?_
  repeat' (first |refine u1 ?_ |((with_reducible show RM.wpOp _ _ (.convert _ _ _) _ _ _);refine Jn rfl hm ?_) |refine u2 ?_ |fail)
  rw [←hM]
  refine RM.qk (mu:=fun _=>false) ?_
  repeat' (first |refine u1 ?_ |((with_reducible show RM.wpOp _ _ (.convert _ _ _) _ _ _);refine Jn rfl hr ?_) |refine u2 ?_ |fail)
  rw [←hT]
  refine RM.qk (mu:=fun _=>false) ?_
  repeat' (first |refine u1 ?_ |((with_reducible show ah _ _ _ _ _ _ _ _);refine af.call o2 rfl rfl ?_) |refine u2 ?_ |fail)
  refine RM.qk (mu:=fun _=>false) ?_
  repeat' (first |refine u1 ?_ |((with_reducible show ah _ _ _ _ _ _ _ _);refine af.call o3 rfl rfl ?_) |refine u2 ?_ |fail)
  refine RM.qk (mu:=fun _=>false) ?_
  repeat' (first |refine u1 ?_ |((with_reducible show ah _ _ _ _ _ _ _ _);refine af.call o4 rfl rfl ?_) |refine u2 ?_ |fail)
  refine RM.qk (mu:=fun _=>false) ?_
  repeat' (first |refine u1 ?_ |((with_reducible show ah _ _ _ _ _ _ _ _);refine af.call o5 rfl rfl ?_) |refine u2 ?_ |fail)
  refine RM.qk (mu:=fun _=>false) ?_
  repeat' (first |refine u1 ?_ |((with_reducible show ah _ _ _ _ _ _ _ _);refine af.call o6 rfl rfl ?_) |refine u2 ?_ |fail)
  refine RM.qk (mu:=fun _=>false) ?_
  repeat' (first |refine u1 ?_ |refine u2 ?_ |fail)
  refine aL.cr (ai.to (l:=[(3,.pt (aX c) 0),(9,aj F),(11,aj T),(12,.sl (ints P) false),(14,.sl (ints Q) false),(16,.sl (ints R) false),(18,.sl (A.map iz) false),(20,.sl (B.map iz) false)]) (hp:=[]) 0 rfl ⟨rfl,rfl,rfl,rfl,rfl,rfl,rfl,rfl,trivial⟩ (Nat.zero_le _) rfl rfl) ?_
  exact penny_loop c hv.good F T bF.1 (by omega) bT.2 P Q R A B l1 hab
 ·exact penny_err c h l f hl hd n m r h0
end Go.Proofs.YtlpmfgmldmdggaaGreat
open Go Go.RM
namespace Go.Proofs.YtlpmfgmldmdggaaGreat
set_option maxRecDepth 100000
def nAt (S:List Int) (p:Nat):Int:=S.getD p 0
def swapN (S:List Int) (j:Nat):List Int:=(S.set j (nAt S (j - 1))).set (j - 1) (nAt S j)
theorem swapN_perm (S:List Int) {j:Nat} (hj:j < S.length):(swapN S j).Perm S:=by
 unfold swapN nAt
 have h1:j - 1 < S.length:=by omega
 rw [List.getD_eq_getElem?_getD,List.getD_eq_getElem?_getD (i:=j),List.getElem?_eq_getElem h1,List.getElem?_eq_getElem hj]
 exact List.set_set_perm hj h1
theorem swapN_get (S:List Int) {j:Nat} (hj:j < S.length) (q:Nat):nAt (swapN S j) q=if q=j - 1 then nAt S j else if q=j then nAt S (j - 1) else nAt S q:=by
 unfold swapN nAt
 rw [List.getD_eq_getElem?_getD,List.getElem?_set,List.getElem?_set]
 by_cases h1:j - 1=q
 ·subst h1
  rw [if_pos rfl,if_pos (by rw [List.length_set];omega),if_pos rfl]
  rfl
 ·rw [if_neg h1,if_neg (show ¬ q=j - 1 from fun h=>h1 h.symm)]
  by_cases h2:j=q
  ·subst h2
   rw [if_pos rfl,if_pos hj,if_pos rfl]
   rfl
  ·rw [if_neg h2,if_neg (show ¬ q=j from fun h=>h2 h.symm),List.getD_eq_getElem?_getD]
structure SrtN (rk:Int→Int) (S:List Int) (N m:Nat):Prop where
 srt:∀ p q:Nat,p < q→q < m→rk (nAt S p)≤rk (nAt S q)
 late:∀ p q:Nat,p < q→m≤q→q < N→nAt S p < nAt S q
structure SinkN (rk:Int→Int) (S:List Int) (N i j:Nat):Prop where
 others:∀ p q:Nat,p < q→q≤i→p ≠ j→q ≠ j→rk (nAt S p)≤rk (nAt S q)
 above:∀ q:Nat,j < q→q≤i→rk (nAt S j)≤rk (nAt S q)
 big:∀ p:Nat,p≤i→p ≠ j→nAt S p < nAt S j
 late:∀ p q:Nat,p < q→i < q→q < N→nAt S p < nAt S q
theorem SinkN.start {rk:Int→Int} {S:List Int} {N i:Nat} (hi:i < N) (h:SrtN rk S N i):SinkN rk S N i i :=
 ⟨fun p q h1 h2 h3 h4=>h.srt p q h1 (by omega),fun q h1 h2=>by omega,fun p h1 h2=>h.late p i (by omega) (Nat.le_refl _) hi,fun p q h1 h2 h3=>h.late p q h1 (by omega) h3⟩
theorem SinkN.swap {rk:Int→Int} {S:List Int} {N i j:Nat} (h:SinkN rk S N i j) (hi:i < S.length) (hj:j≤i) (h0:0 < j) (hl:rk (nAt S j) < rk (nAt S (j - 1))):SinkN rk (swapN S j) N i (j - 1):=by
 have hg:=fun q=>swapN_get S (j:=j) (by omega) q
 constructor
 ·intro p q h1 h2 h3 h4
  rw [hg p,hg q,if_neg h3,if_neg h4]
  by_cases hp:p=j
  ·rw [if_pos hp,if_neg (by omega)]
   exact h.others (j - 1) q (by omega) h2 (by omega) (by omega)
  ·rw [if_neg hp]
   by_cases hq:q=j
   ·rw [if_pos hq]
    exact h.others p (j - 1) (by omega) (by omega) hp (by omega)
   ·rw [if_neg hq]
    exact h.others p q h1 h2 hp hq
 ·intro q h1 h2
  rw [hg (j - 1),hg q,if_pos rfl,if_neg (by omega)]
  by_cases hq:q=j
  ·rw [if_pos hq];omega
  ·rw [if_neg hq]
   exact h.above q (by omega) h2
 ·intro p h1 h2
  rw [hg (j - 1),hg p,if_pos rfl,if_neg h2]
  by_cases hp:p=j
  ·rw [if_pos hp]
   exact h.big (j - 1) (by omega) (by omega)
  ·rw [if_neg hp]
   exact h.big p h1 hp
 ·intro p q h1 h2 h3
  rw [hg p,hg q,if_neg (show ¬ q=j - 1 by omega),if_neg (show ¬ q=j by omega)]
  split
  ·exact h.late j q (by omega) h2 h3
  ·split
   ·exact h.late (j - 1) q (by omega) h2 h3
   ·exact h.late p q h1 h2 h3
theorem SinkN.done {rk:Int→Int} {S:List Int} {N i j:Nat} (h:SinkN rk S N i j) (hd:j=0∨rk (nAt S (j - 1))≤rk (nAt S j)):SrtN rk S N (i+1):=by
 refine ⟨fun p q h1 h2=>?_,fun p q h1 h2 h3=>h.late p q h1 (by omega) h3⟩
 by_cases hp:p=j
 ·rw [hp];exact h.above q (by omega) (by omega)
 ·by_cases hq:q=j
  ·rcases hd with hd|hd
   ·omega
   ·rw [hq]
    by_cases hpj:p=j - 1
    ·rw [hpj];exact hd
    ·exact Int.le_trans (h.others p (j - 1) (by omega) (by omega) hp (by omega)) hd
  ·exact h.others p q h1 (by omega) hp hq
theorem nAt_mem {S:List Int} {q:Nat} (h:q < S.length):nAt S q ∈ S:=by
 unfold nAt
 rw [List.getD_eq_getElem?_getD,List.getElem?_eq_getElem h]
 exact List.getElem_mem _
theorem nAt_el {S:List Int} {q:Nat} (h:q < S.length):S[q]?=some (nAt S q):=by
 unfold nAt
 rw [List.getD_eq_getElem?_getD,List.getElem?_eq_getElem h]
 rfl
theorem srt_pair {rk:Int→Int} {S:List Int} {N:Nat} (hN:S.length=N) (h:SrtN rk S N N):S.Pairwise fun a b=>rk a≤rk b:=by
 rw [List.pairwise_iff_getElem]
 intro p q hp hq h1
 have:=h.srt p q h1 (by omega)
 unfold nAt at this
 rw [List.getD_eq_getElem?_getD,List.getElem?_eq_getElem hp,List.getD_eq_getElem?_getD,List.getElem?_eq_getElem hq] at this
 exact this
theorem srt_uniq {rk:Int→Int} {S T:List Int} (hi:∀ a ∈ S,∀ b ∈ S,rk a=rk b→a=b) (h1:S.Pairwise fun a b=>rk a≤rk b) (h2:T.Pairwise fun a b=>rk a≤rk b) (hp:S.Perm T):S=T :=
 List.Perm.eq_of_pairwise (le:=fun a b=>rk a≤rk b) (fun a b ha hb h h'=>hi a ha b (hp.mem_iff.2 hb) (Int.le_antisymm h h')) h1 h2 hp
def insN (rk:Int→Int) (m:Int):List Int→List Int
 | []=>[m]
 | x :: l=>if rk x < rk m then x :: insN rk m l else m :: x :: l
def sortN (rk:Int→Int) (L:List Int):List Int:=L.foldl (fun S m=>insN rk m S) []
theorem insN_perm (rk:Int→Int) (m:Int):∀ l:List Int,(insN rk m l).Perm (l++[m])
 | []=>List.Perm.refl _
 | x :: l=>by
  unfold insN
  split
  ·exact (insN_perm rk m l).cons x
  ·exact List.perm_append_comm (l₁:=[m]) (l₂:=x :: l)
theorem insN_srt {rk:Int→Int} {m:Int}:∀ {l:List Int},(l.Pairwise fun a b=>rk a≤rk b)→(insN rk m l).Pairwise fun a b=>rk a≤rk b
 | [],_=>List.pairwise_singleton _ _
 | x :: l,h=>by
  unfold insN
  obtain ⟨h1,h2⟩:=List.pairwise_cons.1 h
  split
  ·rename_i hx
   refine List.pairwise_cons.2 ⟨fun y hy=>?_,insN_srt h2⟩
   rcases List.mem_append.1 ((insN_perm rk m l).mem_iff.1 hy) with hy|hy
   ·exact h1 y hy
   ·rw [List.mem_singleton.1 hy];omega
  ·rename_i hx
   refine List.pairwise_cons.2 ⟨fun y hy=>?_,h⟩
   rcases List.mem_cons.1 hy with rfl|hy
   ·omega
   ·have:=h1 y hy;omega
theorem foldI_spec (rk:Int→Int):∀ (L S:List Int),(S.Pairwise fun a b=>rk a≤rk b)→(L.foldl (fun S m=>insN rk m S) S).Perm (S++L)∧(L.foldl (fun S m=>insN rk m S) S).Pairwise fun a b=>rk a≤rk b
 | [],S,h=>⟨by rw [List.append_nil];exact List.Perm.refl _,h⟩
 | m :: L,S,h=>by
  obtain ⟨h1,h2⟩:=foldI_spec rk L (insN rk m S) (insN_srt h)
  refine ⟨h1.trans ?_,h2⟩
  have:=(insN_perm rk m S).append_right L
  rw [List.append_assoc] at this
  exact this
theorem sortN_spec (rk:Int→Int) (L:List Int):(sortN rk L).Perm L∧(sortN rk L).Pairwise fun a b=>rk a≤rk b:=by
 have:=foldI_spec rk L [] List.Pairwise.nil
 rw [List.nil_append] at this
 exact this
end Go.Proofs.YtlpmfgmldmdggaaGreat
open Go Go.RM
namespace Go.Proofs.YtlpmfgmldmdggaaGreat
set_option maxRecDepth 100000
set_option maxHeartbeats 4000000
def cmpI (a b:Int):Int:=if a < b then -1 else if b < a then 1 else 0
theorem nan_c (one:Bool) (a:Int):Pu one 109 [aj a] (BB false):=by
 refine af.body (fn:=Tryz.f109) rfl rfl rfl rfl ?_
 refine aa (mu:=fun _=>false) ?_
 repeat' (first |refine u1 ?_ |refine u2 ?_ |fail)
 exact ⟨[_],⟨Fz.deep rfl,trivial⟩,by show AV.fl (.bool (!decide (a=a)))=_;rw [decide_eq_true rfl];rfl⟩
theorem compare_c (one:Bool) (a b:Int):Pu one 69 [aj a,aj b] (aj (cmpI a b)):=by
 have o1:=nan_c one a
 have o2:=nan_c one b
 unfold cmpI
 cases e1:decide (a < b) with
 | true =>
  rw [if_pos (of_decide_eq_true e1)]
  refine af.body (fn:=Tryz.f69) rfl rfl rfl rfl ?_
  refine aa (mu:=fun _=>false) ?_
  repeat' (first |refine u1 ?_ |((with_reducible show ah _ _ _ _ _ _ _ _);refine af.call o1 rfl rfl ?_) |((with_reducible show ah _ _ _ _ _ _ _ _);refine af.call o2 rfl rfl ?_) |refine u2 ?_ |fail)
  exact ⟨[_],⟨Fz.deep rfl,trivial⟩,rfl⟩
 | false =>
  rw [if_neg (of_decide_eq_false e1)]
  cases e2:decide (b < a) with
  | true =>
   rw [if_pos (of_decide_eq_true e2)]
   refine af.body (fn:=Tryz.f69) rfl rfl rfl rfl ?_
   refine aa (mu:=fun _=>false) ?_
   repeat' (first |refine u1 ?_ |((with_reducible show ah _ _ _ _ _ _ _ _);refine af.call o1 rfl rfl ?_) |((with_reducible show ah _ _ _ _ _ _ _ _);refine af.call o2 rfl rfl ?_) |refine u2 ?_ |fail)
   exact ⟨[_],⟨Fz.deep rfl,trivial⟩,rfl⟩
  | false =>
   rw [if_neg (of_decide_eq_false e2)]
   refine af.body (fn:=Tryz.f69) rfl rfl rfl rfl ?_
   refine aa (mu:=fun _=>false) ?_
   repeat' (first |refine u1 ?_ |((with_reducible show ah _ _ _ _ _ _ _ _);refine af.call o1 rfl rfl ?_) |((with_reducible show ah _ _ _ _ _ _ _ _);refine af.call o2 rfl rfl ?_) |refine u2 ?_ |fail)
   exact ⟨[_],⟨Fz.deep rfl,trivial⟩,rfl⟩
theorem or_c (one:Bool) (a b:Int):Pu one 68 [.sl [eI a,eI b] true] (aj (if a=0 then b else a)):=by
 refine af.body (fn:=Tryz.f68) rfl rfl rfl rfl ?_
 refine aa (mu:=fun _=>false) ?_
 repeat' (first |refine u1 ?_ |refine u2 ?_ |fail)
 refine aL.cr (ai.to (l:=[(3,aj 0),(6,.sl [eI a,eI b] true),(7,aj 2),(8,aj (0:Nat))]) (hp:=[]) 0 rfl ⟨rfl,rfl,rfl,rfl,trivial⟩ (Nat.zero_le _) rfl rfl) ?_
 refine aL.loop (fun k:Nat=>k≤2∧(1≤k→a=0)∧(2≤k→b=0)) (fun k=>⟨cz [(3,aj 0),(6,.sl [eI a,eI b] true),(7,aj 2),(8,aj (k:Nat))],[],bF.none,false,0⟩) (fun k=>2 - k) ?_ 0 ⟨by omega,fun h=>by omega,fun h=>by omega⟩
 rintro k ⟨hk,h1,h2⟩
 obtain rfl|rfl|rfl:k=0∨k=1∨k=2:=by omega
 ·have d1:decide (((0:Nat):Int) < 2)=true:=rfl
  by_cases ha:a=0
  ·have d2:(!decide (a=0))=false:=by rw [decide_eq_true ha];rfl
   refine aa (mu:=fun _=>false) ?_
   repeat' (first |refine u1 ?_ |(refine ⟨[aj a],⟨by omega,rfl⟩,rfl,?_⟩) |refine u2 ?_ |fail)
   exact ⟨1,⟨by omega,fun _=>ha,fun h=>by omega⟩,(by dsimp only;omega),ai.to 0 rfl ⟨rfl,rfl,rfl,rfl,trivial⟩ (Nat.zero_le _) rfl rfl⟩
  ·have d2:(!decide (a=0))=true:=by rw [decide_eq_false ha];rfl
   rw [if_neg ha]
   refine aa (mu:=fun _=>false) ?_
   repeat' (first |refine u1 ?_ |(refine ⟨[aj a],⟨by omega,rfl⟩,rfl,?_⟩) |refine u2 ?_ |fail)
   exact ⟨[_],⟨Fz.deep rfl,trivial⟩,rfl⟩
 ·have d1:decide (((1:Nat):Int) < 2)=true:=rfl
  have ha:=h1 (Nat.le_refl _)
  rw [if_pos ha]
  by_cases hb:b=0
  ·have d2:(!decide (b=0))=false:=by rw [decide_eq_true hb];rfl
   refine aa (mu:=fun _=>false) ?_
   repeat' (first |refine u1 ?_ |(refine ⟨[aj b],⟨by omega,rfl⟩,rfl,?_⟩) |refine u2 ?_ |fail)
   exact ⟨2,⟨by omega,fun _=>ha,fun _=>hb⟩,(by dsimp only;omega),ai.to 0 rfl ⟨rfl,rfl,rfl,rfl,trivial⟩ (Nat.zero_le _) rfl rfl⟩
  ·have d2:(!decide (b=0))=true:=by rw [decide_eq_false hb];rfl
   refine aa (mu:=fun _=>false) ?_
   repeat' (first |refine u1 ?_ |(refine ⟨[aj b],⟨by omega,rfl⟩,rfl,?_⟩) |refine u2 ?_ |fail)
   exact ⟨[_],⟨Fz.deep rfl,trivial⟩,rfl⟩
 ·have d1:decide (((2:Nat):Int) < 2)=false:=rfl
  rw [if_pos (h1 (by omega)),h2 (Nat.le_refl _)]
  refine aa (mu:=fun _=>false) ?_
  repeat' (first |refine u1 ?_ |refine u2 ?_ |fail)
  exact ⟨[_],⟨Fz.deep rfl,trivial⟩,rfl⟩
def owedA (A:List Acc) (m:Int):Int:=((A[m.toNat]?).map Acc.gI).getD 0
def rankM (c:ay) (m:Int):Int:=((c.aO[m.toNat]?).map nE.lR).getD 0
def cmpN (c:ay) (A:List Acc) (i k:Int):Int:=if cmpI (owedA A k) (owedA A i)=0 then cmpI (rankM c i) (rankM c k) else cmpI (owedA A k) (owedA A i)
def keyN (c:ay) (A:List Acc) (m:Int):Int:=rankM c m * 10+m - owedA A m * 100
theorem rankM_b {c:ay} (hg:Good c) {m:Int} (h:0≤m∧m < c.aO.length):0≤rankM c m∧rankM c m≤2:=by
 unfold rankM
 have hl:m.toNat < c.aO.length:=by omega
 rw [List.getElem?_eq_getElem hl]
 have:=(hg.qp _ (List.getElem_mem hl)).1
 have:=hg.az
 show 0≤c.aO[m.toNat].lR∧c.aO[m.toNat].lR≤2
 omega
theorem cmp_key {c:ay} (hg:Good c) {A:List Acc} {x y:Int} (hx:0≤x) (hxy:x < y) (hy:y < c.aO.length):decide (cmpN c A y x < 0)=decide (keyN c A y < keyN c A x):=by
 have h5:=hg.aO
 have b1:=rankM_b hg (m:=x) ⟨hx,by omega⟩
 have b2:=rankM_b hg (m:=y) ⟨by omega,hy⟩
 unfold cmpN keyN cmpI
 generalize rankM c x=rx at *
 generalize rankM c y=ry at *
 generalize owedA A x=ox at *
 generalize owedA A y=oy at *
 rw [decide_eq_decide]
 by_cases h1:ox < oy
 ·rw [if_pos h1,if_neg (by decide)]
  omega
 ·rw [if_neg h1]
  by_cases h2:oy < ox
  ·rw [if_pos h2,if_neg (by decide)]
   omega
  ·rw [if_neg h2,if_pos rfl]
   by_cases h3:ry < rx
   ·rw [if_pos h3];omega
   ·rw [if_neg h3]
    by_cases h4:rx < ry
    ·rw [if_pos h4];omega
    ·rw [if_neg h4];omega
theorem key_inj {c:ay} (hg:Good c) {A:List Acc} {x y:Int} (hx:0≤x∧x < c.aO.length) (hy:0≤y∧y < c.aO.length) (h:keyN c A x=keyN c A y):x=y:=by
 have h5:=hg.aO
 have b1:=rankM_b hg hx
 have b2:=rankM_b hg hy
 unfold keyN at h
 omega
abbrev F67 (c:ay) (D:Int) (A:List Acc):AV:=.fn 67 [] [.pt [.pt (JW c D A) 0] 0,.pt (aX c) 0]
theorem cmp67_c (one:Bool) {c:ay} (D:Int) {A:List Acc} (hA:A.length=c.aO.length) {x y:Nat} (hx:x < c.aO.length) (hy:y < c.aO.length):af TT TB one (F67 c D A) [aj (x:Int),aj (y:Int)] (aj (cmpN c A x y)):=by
 have ea:((A.map iz).length:Int)=c.aO.length:=by simp [hA]
 have em:((c.aO.map bG).length:Int)=c.aO.length:=by simp
 have h1:(A.map iz)[((x:Nat):Int).toNat]?=some (iz A[x]):=cM (by omega)
 have h2:(A.map iz)[((y:Nat):Int).toNat]?=some (iz A[y]):=cM (by omega)
 have h3:(c.aO.map bG)[((x:Nat):Int).toNat]?=some (bG c.aO[x]):=cM hx
 have h4:(c.aO.map bG)[((y:Nat):Int).toNat]?=some (bG c.aO[y]):=cM hy
 have e1:owedA A x=A[x].gI:=by unfold owedA;rw [Int.toNat_natCast,List.getElem?_eq_getElem (by omega)];rfl
 have e2:owedA A y=A[y].gI:=by unfold owedA;rw [Int.toNat_natCast,List.getElem?_eq_getElem (by omega)];rfl
 have e3:rankM c x=c.aO[x].lR:=by unfold rankM;rw [Int.toNat_natCast,List.getElem?_eq_getElem hx];rfl
 have e4:rankM c y=c.aO[y].lR:=by unfold rankM;rw [Int.toNat_natCast,List.getElem?_eq_getElem hy];rfl
 unfold cmpN
 rw [e1,e2,e3,e4]
 generalize A[x]=u1 at *
 generalize A[y]=u2 at *
 generalize c.aO[x]=u3 at *
 generalize c.aO[y]=u4 at *
 obtain ⟨p1,o1,a1,b1,d1⟩:=u1
 obtain ⟨p2,o2,a2,b2,d2⟩:=u2
 obtain ⟨n1,r1,w1,s1⟩:=u3
 obtain ⟨n2,r2,w2,s2⟩:=u4
 dsimp only
 have h1:(A.map iz)[((x:Nat):Int).toNat]?=some [aj p1,aj o1,aj a1,aj b1,aj d1]:=h1
 have h2:(A.map iz)[((y:Nat):Int).toNat]?=some [aj p2,aj o2,aj a2,aj b2,aj d2]:=h2
 have h3:(c.aO.map bG)[((x:Nat):Int).toNat]?=some [ST n1,aj r1,aj w1,BB s1]:=h3
 have h4:(c.aO.map bG)[((y:Nat):Int).toNat]?=some [ST n2,aj r2,aj w2,BB s2]:=h4
 have c1:=compare_c true o2 o1
 have c2:=compare_c true r1 r2
 have c3:=or_c true (cmpI o2 o1) (cmpI r1 r2)
 generalize cmpI o2 o1=v1 at *
 generalize cmpI r1 r2=v2 at *
 generalize (if v1=0 then v2 else v1)=v3 at *
 refine af.body (fn:=Tryz.f67) rfl rfl rfl rfl ?_
 refine aa (mu:=fun _=>false) ?_
 repeat' (first |(refine ⟨_,_,.inl ⟨rfl,rfl⟩,c1,?_⟩) |(refine ⟨_,_,.inl ⟨rfl,rfl⟩,c2,?_⟩) |(refine ⟨_,_,.inl ⟨rfl,rfl⟩,c3,?_⟩) |refine u1 ?_ |(refine ⟨[aj p1,aj o1,aj a1,aj b1,aj d1],⟨by omega,h1⟩,rfl,?_⟩) |(refine ⟨[aj p2,aj o2,aj a2,aj b2,aj d2],⟨by omega,h2⟩,rfl,?_⟩) |(refine ⟨[ST n1,aj r1,aj w1,BB s1],⟨by omega,h3⟩,rfl,?_⟩) |(refine ⟨[ST n2,aj r2,aj w2,BB s2],⟨by omega,h4⟩,rfl,?_⟩) |refine u2 ?_ |fail)
 exact ⟨[_],⟨Fz.deep rfl,trivial⟩,rfl⟩
end Go.Proofs.YtlpmfgmldmdggaaGreat
