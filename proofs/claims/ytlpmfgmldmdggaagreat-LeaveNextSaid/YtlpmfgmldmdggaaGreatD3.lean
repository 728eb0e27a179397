/-
  Contracts of the program's functions and of the document's. Lemmas alone; their conditions stand in them.
-/
import Derived.Test.YtlpmfgmldmdggaaGreatD2
open Go Go.RM
namespace Go.Proofs.YtlpmfgmldmdggaaGreat
set_option maxRecDepth 100000
set_option maxHeartbeats 4000000
theorem ints_same (one:Bool) (a:List Int) (f g:Bool) (hb:a.length≤maxLen):Pu one 25 [.sl (ints a) f,.sl (ints a) g] (BB true):=by
 have mb:a.length≤9223372036854775807:=Nat.le_trans hb (by simp [maxLen])
 have ea:((a.map eI).length:Int)=a.length:=by simp
 have d0:(!decide (((a.map eI).length:Int)=((a.map eI).length:Int)))=false:=by rw [decide_eq_true rfl];rfl
 refine af.body (fn:=Tryz.f25) rfl rfl rfl rfl ?_
 refine aa (mu:=fun _=>false) ?_
 repeat' (first |refine u1 ?_ |refine u2 ?_ |fail)
 refine aL.cr (ai.to (l:=[(0,.sl (a.map eI) f),(1,.sl (a.map eI) g),(5,aj (0:Nat))]) (hp:=[]) 0 rfl ⟨rfl,rfl,rfl,trivial⟩ (Nat.zero_le _) rfl rfl) ?_
 refine aL.loop (fun k:Nat=>k≤a.length) (fun k=>⟨cz [(0,.sl (a.map eI) f),(1,.sl (a.map eI) g),(5,aj (k:Nat))],[],bF.none,false,0⟩) (fun k=>a.length - k) ?_ 0 (Nat.zero_le _)
 intro k hk
 by_cases hlt:k < a.length
 ·have d1:decide ((k:Int) < ((a.map eI).length:Int))=true:=decide_eq_true (by omega)
  have hat:(a.map eI)[((k:Nat):Int).toNat]?=some (eI a[k]):=cM hlt
  generalize a[k]=x at *
  have d2:(!decide (x=x))=false:=by rw [decide_eq_true rfl];rfl
  refine aa (mu:=fun _=>false) ?_
  repeat' (first |refine u1 ?_ |((with_reducible show RM.wpOp _ _ (.indexAddr _ _ _) _ _ _);refine ⟨eI x,⟨by omega,hat⟩,rfl,?_⟩) |refine u2 ?_ |fail)
  exact ⟨k+1,hlt,(by dsimp only;omega),ai.to 0 rfl ⟨rfl,rfl,cZ (by simp),trivial⟩ (Nat.zero_le _) rfl rfl⟩
 ·have d1:decide ((k:Int) < ((a.map eI).length:Int))=false:=decide_eq_false (by omega)
  refine aa (mu:=fun _=>false) ?_
  repeat' (first |refine u1 ?_ |refine u2 ?_ |fail)
  exact ⟨[_],⟨Fz.deep rfl,trivial⟩,rfl⟩
def pyD (c:ay) (l:List Ev) (F G:Int) (k:Nat):List Int:=(List.range k).map fun m=>dueA c m (sP c l m G) / 1000 - dueA c m (sP c l m F) / 1000
theorem pyD_succ (c:ay) (l:List Ev) (F G:Int) (k:Nat):pyD c l F G (k+1)=pyD c l F G k++[dueA c k (sP c l k G) / 1000 - dueA c k (sP c l k F) / 1000]:=by
 unfold pyD
 rw [List.range_succ,List.map_append]
 rfl
theorem pyD_len (c:ay) (l:List Ev) (F G:Int) (k:Nat):(pyD c l F G k).length=k:=by unfold pyD;simp
theorem duesV_at {c:ay} {l:List Ev} (hv:Vd c l) {D:Int} (hD:0≤D) {i:Nat} (hi:i < c.aO.length):(duesV c (Cp c l D))[i]?=some (dueA c i (sP c l i D) / 1000):=by
 unfold duesV
 rw [HC hv hD,List.getElem?_mapIdx,List.getElem?_map,List.getElem?_range hi]
 rfl
theorem pyD_eq {c:ay} {l:List Ev} (hv:Vd c l) {F G:Int} (hF:0≤F) (hG:0≤G):subK (duesV c (Cp c l G)) (duesV c (Cp c l F)) c.aO.length=pyD c l F G c.aO.length:=by
 apply List.ext_getElem?
 intro i
 unfold subK pyD
 rw [List.getElem?_mapIdx,List.getElem?_map]
 by_cases hi:i < c.aO.length
 ·rw [duesV_at hv hG hi,duesV_at hv hF hi,List.getElem?_range hi]
  simp [hi]
 ·have hl:(duesV c (Cp c l G)).length=c.aO.length:=by rw [duesV_len,HC hv hG];simp
  rw [List.getElem?_eq_none (show (duesV c (Cp c l G)).length≤i by omega),List.getElem?_eq_none (show (List.range c.aO.length).length≤i by simpa using hi)]
  rfl
theorem dueA_b {c:ay} {l:List Ev} (hv:Vd c l) {D:Int} (hD:0≤D∧D≤40000) {i:Nat} (hi:i < c.aO.length):0≤dueA c i (sP c l i D)∧dueA c i (sP c l i D)≤40000000000:=by
 have hdb:=days_b (c:=c) (i:=i) hv.mono hD.1
 obtain ⟨mn,rk,w,ms,ra,rb,rc,rd,e,hmt,hrt,hrk,hb1,hb2,hb3,hra⟩:=rank_of hv.good (k:=i) hi
 have hq:=due_b hb1 hb2 hb3 hdb.1 (Int.le_trans hdb.2 hD.2)
 unfold dueA
 rw [hra]
 exact hq.2.2.2
theorem payE_doc (c:ay) (l:List Ev) (F G:Int):payE c l F G=if C7 c l F ≠ 0 then C7 c l F else if kS G 0 40000=false then 7 else if G < F then 2 else 0:=by
 unfold payE
 by_cases h1:C7 c l F=0
 ·have h2:(wC c l).2=0:=by
   unfold C7 at h1
   split at h1
   ·rename_i h;exact absurd h1 h
   ·rename_i h;exact Decidable.not_not.1 h
  have hG:C7 c l G=if kS G 0 40000=false then 7 else 0:=by
   unfold C7
   rw [if_neg (show ¬ ((wC c l).2 ≠ 0) from fun h=>h h2),bp]
   cases kS G 0 40000 <;> rfl
  rw [if_neg (show ¬ (C7 c l F ≠ 0) from fun h=>h h1),if_neg (show ¬ (C7 c l F ≠ 0) from fun h=>h h1),hG]
  cases kS G 0 40000 <;> rfl
 ·rw [if_pos h1,if_pos h1]
theorem rpay_c (one:Bool) (c:ay) (h:c.Ok) (l:List Ev) (f:Bool) (hl:l.length≤maxLen) (hd:∀ x ∈ l,x.day≤later) (F G:Int):Pu one 28 [.ag (aX c),.sl (l.map cO) f,aj F,aj G] (.tp [.sl (ints (payV c l F G)) false,aj (payE c l F G)]):=by
 have em:((c.aO.map bG).length:Int)=c.aO.length:=by simp
 have o1:=dated_c one c h l f hl hd F
 have o2:=i6 one G 0 40000
 have q0:decide ((0:Int)=0)=true:=rfl
 have q0':(!decide ((0:Int)=0))=false:=rfl
 have q7:decide ((7:Int)=0)=false:=rfl
 have q7':(!decide ((7:Int)=0))=true:=rfl
 have q2':(!decide ((2:Int)=0))=true:=rfl
 unfold payV
 by_cases he:C7 c l F=0
 ·obtain ⟨_,hv,hF⟩:=onE_vd hd he
  have hm5:=hv.good.aO
  cases e2:kS G 0 40000 with
  | false =>
   have hpe:payE c l F G=7:=by rw [payE_doc,if_neg (fun h=>h he),if_pos e2]
   rw [hpe,if_neg (by decide)]
   rw [he] at o1
   rw [e2] at o2
   refine af.body (fn:=Tryz.f28) rfl rfl rfl rfl ?_
   refine aa (mu:=fun _=>false) ?_
   repeat' (first |refine u1 ?_ |((with_reducible show ah _ _ _ _ _ _ _ _);refine af.call o1 rfl rfl ?_) |((with_reducible show ah _ _ _ _ _ _ _ _);refine af.call o2 rfl rfl ?_) |refine u2 ?_ |fail)
   exact ⟨[_,_],⟨Fz.nil,Fz.deep rfl,trivial⟩,rfl⟩
  | true =>
   have hG:=bL.1 e2
   by_cases h3:G < F
   ·have hpe:payE c l F G=2:=by rw [payE_doc,if_neg (fun h=>h he),if_neg (by rw [e2];simp),if_pos h3]
    have q3:decide (G < F)=true:=decide_eq_true h3
    rw [hpe,if_neg (by decide)]
    rw [he] at o1
    rw [e2] at o2
    refine af.body (fn:=Tryz.f28) rfl rfl rfl rfl ?_
    refine aa (mu:=fun _=>false) ?_
    repeat' (first |refine u1 ?_ |((with_reducible show ah _ _ _ _ _ _ _ _);refine af.call o1 rfl rfl ?_) |((with_reducible show ah _ _ _ _ _ _ _ _);refine af.call o2 rfl rfl ?_) |refine u2 ?_ |fail)
    exact ⟨[_,_],⟨Fz.nil,Fz.deep rfl,trivial⟩,rfl⟩
   ·have hpe:payE c l F G=0:=by rw [payE_doc,if_neg (fun h=>h he),if_neg (by rw [e2];simp),if_neg h3]
    have q3:decide (G < F)=false:=decide_eq_false h3
    rw [hpe,if_pos rfl,pyD_eq hv hF.1 hG.1]
    rw [he] at o1
    rw [e2] at o2
    refine af.body (fn:=Tryz.f28) rfl rfl rfl rfl ?_
    refine aa (mu:=fun t=>Nat.beq t 56) ?_
    repeat' (first |refine u1 ?_ |((with_reducible show ah _ _ _ _ _ _ _ _);refine af.call o1 rfl rfl ?_) |((with_reducible show ah _ _ _ _ _ _ _ _);refine af.call o2 rfl rfl ?_) |refine u2 ?_ |fail)
    refine aL.cr (ai.trans (ai.Ce 1) (ai.JR (l:=[(1,.sl (l.map cO) f),(2,aj F),(3,aj G),(4,.pt (aX c) 0),(11,.dY 0 ((0,0,0):Nat × Nat × Nat).2.1 0 ((0,0,0):Nat × Nat × Nat).1 ((0,0,0):Nat × Nat × Nat).2.2),(12,aj (((0,0,0):Nat × Nat × Nat).1:Nat))]) (hp:=[.cells (nums (pyD c l F G ((0,0,0):Nat × Nat × Nat).1)) 1 ((0,0,0):Nat × Nat × Nat).2.1]) 1 rfl ⟨jJ.refl _,jJ.refl _,jJ.refl _,jJ.refl _,jJ.Cd,jJ.refl _,trivial⟩ (Nat.zero_le _) rfl (nums_inb1 _ _))) ?_
    refine aL.loop (fun x:Nat × Nat × Nat=>x.1≤c.aO.length∧(x.2.2=x.1∨x.2.2=x.1+1)) (fun x=>⟨cz [(1,.sl (l.map cO) f),(2,aj F),(3,aj G),(4,.pt (aX c) 0),(11,.dY 0 x.2.1 0 x.1 x.2.2),(12,aj (x.1:Nat))],[.cells (nums (pyD c l F G x.1)) 1 x.2.1],bF.none,false,0⟩) (fun x=>c.aO.length - x.1) ?_ (0,0,0) ⟨Nat.zero_le _,.inl rfl⟩
    rintro ⟨k,v,cc⟩ ⟨hk,hcap⟩
    dsimp only at hk hcap
    show aL _ _ _ _ ⟨cz [(1,.sl (l.map cO) f),(2,aj F),(3,aj G),(4,.pt (aX c) 0),(11,.dY 0 ((k,v,cc):Nat × Nat × Nat).2.1 0 ((k,v,cc):Nat × Nat × Nat).1 ((k,v,cc):Nat × Nat × Nat).2.2),(12,aj (((k,v,cc):Nat × Nat × Nat).1:Nat))],[.cells (nums (pyD c l F G ((k,v,cc):Nat × Nat × Nat).1)) 1 ((k,v,cc):Nat × Nat × Nat).2.1],bF.none,false,0⟩ _
    dsimp only
    by_cases hlt:k < c.aO.length
    ·have dl:decide ((k:Int) < ((c.aO.map bG).length:Int))=true:=decide_eq_true (by omega)
     have p1:=due_c true c l f hv k hlt G hG
     have p2:=due_c true c l f hv k hlt F hF
     have b1:=dueA_b hv hG hlt
     have b2:=dueA_b hv hF hlt
     have hst:=pyD_succ c l F G k
     have hgl:(nums (pyD c l F G k)).length=k * 1:=by rw [List.length_map,pyD_len];omega
     generalize dueA c k (sP c l k G)=x at *
     generalize dueA c k (sP c l k F)=y at *
     refine aa (mu:=fun t=>Nat.beq t 56) ?_
     repeat' (first |((with_reducible show RM.wpOp _ _ (.call _) _ _ _);refine RM.Gx (cs:=nums (pyD c l F G k)) (n:=k) (els:=[[aj (x / 1000 - y / 1000)]]) rfl rfl rfl rfl rfl (fun el hel=>by rw [List.mem_singleton.1 hel];rfl) rfl rfl hgl hcap (by simp only [List.length_singleton];omega) (fun v' c' hc'=>?_)) |refine u1 ?_ |(refine ⟨_,_,.inl ⟨rfl,rfl⟩,p1,?_⟩) |(refine ⟨_,_,.inl ⟨rfl,rfl⟩,p2,?_⟩) |refine u2 ?_ |fail)
     exact ⟨(k+1,v',c'),⟨hlt,hc'⟩,(by dsimp only;omega),ai.to (hp:=[.cells (nums (pyD c l F G ((k+1,v',c'):Nat × Nat × Nat).1)) 1 ((k+1,v',c'):Nat × Nat × Nat).2.1]) 1 (by show _=[AB.cells (nums (pyD c l F G (k+1))) 1 v'];rw [hst];unfold nums;rw [List.map_append];rfl) ⟨rfl,rfl,rfl,rfl,rfl,cZ (by simp),trivial⟩ (Nat.zero_le _) rfl (nums_inb1 _ _)⟩
    ·have dl:decide ((k:Int) < ((c.aO.map bG).length:Int))=false:=decide_eq_false (by omega)
     have hkn:k=c.aO.length:=by omega
     subst hkn
     refine aa (mu:=fun _=>false) ?_
     repeat' (first |refine u1 ?_ |refine u2 ?_ |fail)
     exact ⟨[_,_],⟨nums_row rfl (pyD_len c l F G _),Fz.deep rfl,trivial⟩,rfl⟩
 ·have hpe:payE c l F G=C7 c l F:=by unfold payE;rw [if_pos he]
  rw [hpe,if_neg he]
  have q1:(!decide (C7 c l F=0))=true:=by rw [decide_eq_false he];rfl
  have q2:=decide_eq_false he
  generalize C7 c l F=e at *
  refine af.body (fn:=Tryz.f28) rfl rfl rfl rfl ?_
  refine aa (mu:=fun _=>false) ?_
  repeat' (first |refine u1 ?_ |((with_reducible show ah _ _ _ _ _ _ _ _);refine af.call o1 rfl rfl ?_) |((with_reducible show ah _ _ _ _ _ _ _ _);refine af.call o2 rfl rfl ?_) |refine u2 ?_ |fail)
  exact ⟨[_,_],⟨Fz.nil,Fz.deep rfl,trivial⟩,rfl⟩
end Go.Proofs.YtlpmfgmldmdggaaGreat
open Go Go.RM
namespace Go.Proofs.YtlpmfgmldmdggaaGreat
set_option maxRecDepth 100000
set_option maxHeartbeats 4000000
theorem payV_len {c:ay} {l:List Ev} {F G:Int} (hd:∀ x ∈ l,x.day≤later):(payV c l F G).length≤5:=by
 unfold payV
 split
 ·rename_i h
  unfold payE at h
  split at h
  ·rename_i h1;exact absurd h h1
  ·split at h
   ·rename_i h2;exact absurd h h2
   ·rename_i h2
    obtain ⟨_,hv,hG⟩:=onE_vd hd (Decidable.not_not.1 h2)
    have:=hv.good.aO
    rw [subK_len,duesV_len,HC hv hG.1]
    simp
    omega
 ·simp
theorem pays_c (c:ay) (h:c.Ok) (l:List Ev) (f:Bool) (hl:l.length≤maxLen) (hd:∀ x ∈ l,x.day≤later) (n m:Int):Pu false 4 [.ag (aX c),.sl (l.map cO) f,.ag [aj n,aj m]] (BB true):=by
 have o1:=pay_c false c h l f hl hd n m
 have o2:=rpay_c false c h l f hl hd n m
 have aw:=Jo true
 have hle:=payV_len (c:=c) (F:=n) (G:=m) hd
 have o3:=ints_same true (payV c l n m) false false (by simp [maxLen];omega)
 have aw':=Jo false
 have o3':=ints_same false (payV c l n m) false false (by simp [maxLen];omega)
 generalize payV c l n m=a at *
 generalize payE c l n m=e at *
 have d1:decide (e=e)=true:=decide_eq_true rfl
 refine af.body (fn:=Tryz.f4) rfl rfl rfl rfl ?_
 refine aa (mu:=fun _=>false) ?_
 repeat' (first |refine u1 ?_ |((with_reducible show ah _ _ _ _ _ _ _ _);refine af.call o1 rfl rfl ?_) |((with_reducible show ah _ _ _ _ _ _ _ _);refine af.call o2 rfl rfl ?_) |(refine ⟨_,_,.inl ⟨rfl,rfl⟩,o3,?_⟩) |(refine ⟨_,_,.inl ⟨rfl,rfl⟩,aw,?_⟩) |((with_reducible show ah _ _ _ _ _ _ _ _);refine af.call o3' rfl rfl ?_) |((with_reducible show ah _ _ _ _ _ _ _ _);refine af.call aw' rfl rfl ?_) |refine u2 ?_ |fail)
 exact ⟨[_],⟨Fz.deep rfl,trivial⟩,rfl⟩
end Go.Proofs.YtlpmfgmldmdggaaGreat
open Go Go.RM
namespace Go.Proofs.YtlpmfgmldmdggaaGreat
set_option maxRecDepth 100000
theorem days_mono {c:ay} {i:Nat} {l:List Ev} (hm:jc l) {D:Int} (hD:0≤D):∀ n:Nat,(tG c l i D).1≤(tG c l i (D+n)).1∧(tG c l i D).2.1≤(tG c l i (D+n)).2.1∧(tG c l i D).2.2≤(tG c l i (D+n)).2.2
 | 0=>by rw [show D+((0:Nat):Int)=D by omega];omega
 | n+1=>by
  have ih:=days_mono (c:=c) (i:=i) hm hD n
  rw [show D+((n+1:Nat):Int)=D+(n:Int)+1 by omega,days_next hm (by omega)]
  generalize aB c (cu (D+n) l) i=p
  generalize tG c l i (D+n)=d at *
  unfold jb
  split
  ·dsimp only;omega
  ·split <;> (dsimp only;omega)
theorem days_le {c:ay} {i:Nat} {l:List Ev} (hm:jc l) {D E:Int} (hD:0≤D) (h:D≤E):(tG c l i D).1≤(tG c l i E).1∧(tG c l i D).2.1≤(tG c l i E).2.1∧(tG c l i D).2.2≤(tG c l i E).2.2:=by
 have:=days_mono (c:=c) (i:=i) hm hD (E - D).toNat
 rw [show D+(((E - D).toNat:Nat):Int)=E by omega] at this
 exact this
theorem due_diff (p l i a0 a1 a2 b0 b1 b2:Int):p * (b0 * 1000+b1 * l+b2 * i) - p * (a0 * 1000+a1 * l+a2 * i)=p * ((b0 - a0) * 1000+(b1 - a1) * l+(b2 - a2) * i):=by
 rw [←Int.mul_sub,Int.sub_mul,Int.sub_mul,Int.sub_mul]
 congr 1
 omega
theorem due_diff_b {p l i a0 a1 a2 b0 b1 b2:Int} (hp:0≤p∧p≤1000) (hl:0≤l∧l≤1000) (hi:0≤i∧i≤1000) (h0:a0≤b0) (h1:a1≤b1) (h2:a2≤b2) :
  (0≤(b1 - a1) * l∧(b1 - a1) * l≤1000 * (b1 - a1))∧(0≤(b2 - a2) * i∧(b2 - a2) * i≤1000 * (b2 - a2))∧0≤p * ((b0 - a0) * 1000+(b1 - a1) * l+(b2 - a2) * i) ∧
  p * ((b0 - a0) * 1000+(b1 - a1) * l+(b2 - a2) * i)≤1000 * (p * ((b0 - a0)+(b1 - a1)+(b2 - a2)))∧0≤p * ((b0 - a0)+(b1 - a1)+(b2 - a2))∧p * ((b0 - a0)+(b1 - a1)+(b2 - a2))≤1000 * ((b0 - a0)+(b1 - a1)+(b2 - a2)):=by
 have e1:=A9 (dd:=b1 - a1) (by omega) hl
 have e2:=A9 (dd:=b2 - a2) (by omega) hi
 have e3:=A9 (dd:=(b0 - a0)+(b1 - a1)+(b2 - a2)) (by omega) hp
 rw [Int.mul_comm _ p] at e3
 refine ⟨e1,e2,Int.mul_nonneg hp.1 (by omega),?_,e3⟩
 have:p * ((b0 - a0) * 1000+(b1 - a1) * l+(b2 - a2) * i)≤p * (1000 * ((b0 - a0)+(b1 - a1)+(b2 - a2))):=Int.mul_le_mul_of_nonneg_left (by omega) hp.1
 rw [Int.mul_left_comm] at this
 exact this
structure PnOk (rb rc rd F T a0 a1 a2 b0 b1 b2 x y z:Int):Prop where
 a:0≤a0∧0≤a1∧0≤a2
 ab:a0≤b0∧a1≤b1∧a2≤b2
 b:b0≤40000∧b1≤40000∧b2≤40000
 p:(0≤(b1 - a1) * rc∧(b1 - a1) * rc≤40000000)∧(0≤(b2 - a2) * rd∧(b2 - a2) * rd≤40000000)
 d:0≤rb * ((b0 - a0) * 1000+(b1 - a1) * rc+(b2 - a2) * rd)∧rb * ((b0 - a0) * 1000+(b1 - a1) * rc+(b2 - a2) * rd)≤40000000000
 t:0≤rb * (T - F)∧rb * (T - F)≤40000000
 xy:0≤x∧0≤y
 fz:x+y=z
 le:z≤rb * (T - F)
 up:z * 1000 - rb * ((b0 - a0) * 1000+(b1 - a1) * rc+(b2 - a2) * rd) < 1000
 dn:rb * ((b0 - a0) * 1000+(b1 - a1) * rc+(b2 - a2) * rd) - z * 1000 < 1000
theorem penny_man {c:ay} {l:List Ev} (hv:Vd c l) {i:Nat} {F M T:Int} (hF:0≤F) (hFM:F≤M) (hMT:M≤T) (hT:T≤40000) {ra:ByteArray} {rb rc rd e:Int} (hra:sJ c i=some ⟨ra,rb,rc,rd,e⟩) (h1:0≤rb∧rb≤1000) (h2:0≤rc∧rc≤1000) (h3:0≤rd∧rd≤1000) :
  PnOk rb rc rd F T (tG c l i F).1 (tG c l i F).2.1 (tG c l i F).2.2 (tG c l i T).1 (tG c l i T).2.1 (tG c l i T).2.2
   (dueA c i (sP c l i M) / 1000 - dueA c i (sP c l i F) / 1000) (dueA c i (sP c l i T) / 1000 - dueA c i (sP c l i M) / 1000) (dueA c i (sP c l i T) / 1000 - dueA c i (sP c l i F) / 1000):=by
 have hx:∀ D,dueA c i (sP c l i D)=rb * ((tG c l i D).1 * 1000+(tG c l i D).2.1 * rc+(tG c l i D).2.2 * rd):=by
  intro D
  unfold dueA
  rw [hra]
  rfl
 rw [hx,hx,hx]
 have m1:=days_le (c:=c) (i:=i) hv.mono hF hFM
 have m2:=days_le (c:=c) (i:=i) hv.mono (D:=M) (by omega) hMT
 have sF:=days_sum (c:=c) (i:=i) hv.mono hF
 have sT:=days_sum (c:=c) (i:=i) hv.mono (D:=T) (by omega)
 have bF:=(days_b (c:=c) (i:=i) hv.mono hF).1
 generalize (tG c l i F).1=a0 at *
 generalize (tG c l i F).2.1=a1 at *
 generalize (tG c l i F).2.2=a2 at *
 generalize (tG c l i M).1=m0 at *
 generalize (tG c l i M).2.1=m1' at *
 generalize (tG c l i M).2.2=m2' at *
 generalize (tG c l i T).1=b0 at *
 generalize (tG c l i T).2.1=b1 at *
 generalize (tG c l i T).2.2=b2 at *
 have d1:=due_diff rb rc rd a0 a1 a2 b0 b1 b2
 have d2:=due_diff rb rc rd a0 a1 a2 m0 m1' m2'
 have d3:=due_diff rb rc rd m0 m1' m2' b0 b1 b2
 have q1:=due_diff_b h1 h2 h3 (a0:=a0) (a1:=a1) (a2:=a2) (b0:=b0) (b1:=b1) (b2:=b2) (by omega) (by omega) (by omega)
 have q2:=(due_diff_b h1 h2 h3 (a0:=a0) (a1:=a1) (a2:=a2) (b0:=m0) (b1:=m1') (b2:=m2') (by omega) (by omega) (by omega)).2.2.1
 have q3:=(due_diff_b h1 h2 h3 (a0:=m0) (a1:=m1') (a2:=m2') (b0:=b0) (b1:=b1) (b2:=b2) (by omega) (by omega) (by omega)).2.2.1
 rw [←d2] at q2
 rw [←d3] at q3
 rw [show (b0 - a0)+(b1 - a1)+(b2 - a2)=T - F by omega] at q1
 obtain ⟨p1,p2,p3,p4,p5,p6⟩:=q1
 generalize hF':rb * (a0 * 1000+a1 * rc+a2 * rd)=xF at *
 generalize hM':rb * (m0 * 1000+m1' * rc+m2' * rd)=xM at *
 generalize hT':rb * (b0 * 1000+b1 * rc+b2 * rd)=xT at *
 clear hF' hM' hT' d2 d3 hx
 exact ⟨bF,by omega,by omega,⟨⟨p1.1,by omega⟩,p2.1,by omega⟩,⟨p3,by omega⟩,⟨p5,by omega⟩,by omega,by omega,by omega,by omega,by omega⟩
end Go.Proofs.YtlpmfgmldmdggaaGreat
open Go Go.RM
namespace Go.Proofs.YtlpmfgmldmdggaaGreat
set_option maxRecDepth 100000
set_option maxHeartbeats 4000000
abbrev U16 (n:Nat):AV:=.fl (.int .u16 ((n:Nat):Int))
theorem penny_err (c:ay) (h:c.Ok) (l:List Ev) (f:Bool) (hl:l.length≤maxLen) (hd:∀ x ∈ l,x.day≤later) (n m r:Nat) (h0:(wC c l).2 ≠ 0):Pu false 10 [.ag (aX c),.sl (l.map cO) f,.ag [U16 n,U16 m,U16 r]] (BB true):=by
 have o1:=Iy false c h l f hl hd
 have aw:=Jo false
 rw [decide_eq_false h0] at o1
 have o2:=pay_c false c h l f hl hd 0 0
 have ho:payE c l 0 0=(wC c l).2:=by
  have:C7 c l 0=(wC c l).2:=by
   unfold C7
   rw [if_pos h0]
  unfold payE
  rw [this,if_pos h0]
 have d1:(!decide (payE c l 0 0=0))=true:=by rw [ho,decide_eq_false h0];rfl
 generalize payE c l 0 0=e at *
 generalize payV c l 0 0=A at *
 refine af.body (fn:=Tryz.f10) rfl rfl rfl rfl ?_
 refine aa (mu:=fun _=>false) ?_
 repeat' (first |refine u1 ?_ |((with_reducible show ah _ _ _ _ _ _ _ _);refine af.call o1 rfl rfl ?_) |((with_reducible show ah _ _ _ _ _ _ _ _);refine af.call o2 rfl rfl ?_) |((with_reducible show ah _ _ _ _ _ _ _ _);refine af.call aw rfl rfl ?_) |refine u2 ?_ |fail)
 exact ⟨[_],⟨Fz.deep rfl,trivial⟩,rfl⟩
noncomputable def lp10:Code:=zy (zy (zy (zy (zy (zy (zy (zy (zy (zy (zy (Tryz.f10.body.getD .skip)))))))))))
theorem penny_loop (c:ay) (hg:Good c) (F T:Int) (hF:0≤F) (hFT:F≤T) (hT:T≤40000) (P Q R:List Int) (A B:List Acc) (hP:P.length=c.aO.length)
  (hab:∀ i (_:i < c.aO.length),∃ pa oa a0 a1 a2 pb ob b0 b1 b2 x y z,A[i]?=some ⟨pa,oa,a0,a1,a2⟩∧B[i]?=some ⟨pb,ob,b0,b1,b2⟩∧P[i]?=some x∧Q[i]?=some y∧R[i]?=some z∧∀ ra rb rc rd e,sJ c i=some ⟨ra,rb,rc,rd,e⟩→0≤rb∧rb≤1000→0≤rc∧rc≤1000→0≤rd∧rd≤1000→PnOk rb rc rd F T a0 a1 a2 b0 b1 b2 x y z) :
  aL TT TB false lp10 ⟨cz [(3,.pt (aX c) 0),(9,aj F),(11,aj T),(12,.sl (ints P) false),(14,.sl (ints Q) false),(16,.sl (ints R) false),(18,.sl (A.map iz) false),(20,.sl (B.map iz) false)],[],bF.none,false,0⟩ (vF TT Tryz.f10.results.toList (BB true)):=by
 have hm5:=hg.aO
 have aw:=Jo false
 have ea:((ints P).length:Int)=c.aO.length:=by simp [hP]
 refine aa (mu:=fun _=>false) ?_
 show kr _ _ _ _ (.seq (.seq (.region _ _ false) _) _) _ _
 repeat' (first |refine u1 ?_ |refine u2 ?_ |fail)
 refine aL.cr (ai.to (l:=[(3,.pt (aX c) 0),(9,aj F),(11,aj T),(12,.sl (ints P) false),(14,.sl (ints Q) false),(16,.sl (ints R) false),(18,.sl (A.map iz) false),(20,.sl (B.map iz) false),(22,aj (0:Nat))]) (hp:=[]) 0 rfl ⟨rfl,rfl,rfl,rfl,rfl,rfl,rfl,rfl,rfl,trivial⟩ (Nat.zero_le _) rfl rfl) ?_
 refine aL.loop (fun k:Nat=>k≤c.aO.length) (fun k=>⟨cz [(3,.pt (aX c) 0),(9,aj F),(11,aj T),(12,.sl (ints P) false),(14,.sl (ints Q) false),(16,.sl (ints R) false),(18,.sl (A.map iz) false),(20,.sl (B.map iz) false),(22,aj (k:Nat))],[],bF.none,false,0⟩) (fun k=>c.aO.length - k) ?_ 0 (Nat.zero_le _)
 intro k hk
 by_cases hlt:k < c.aO.length
 ·have dl:decide ((k:Int) < ((ints P).length:Int))=true:=decide_eq_true (by omega)
  obtain ⟨pa,oa,a0,a1,a2,pb,ob,b0,b1,b2,x,y,z,ha,hb,hx,hy,hz,hok⟩:=hab k hlt
  obtain ⟨mn,rk,w,ms,ra,rb,rc,rd,e,hmt,hrt,hrk,hb1,hb2,hb3,hra⟩:=rank_of hg (k:=k) hlt
  obtain ⟨k1,k2,k3,⟨k4,k5⟩,k6,k7,k8,k9,k10,k11,k12⟩:=hok ra rb rc rd e hra hb1 hb2 hb3
  have hat:(A.map iz)[((k:Nat):Int).toNat]?=some [aj pa,aj oa,aj a0,aj a1,aj a2]:=by
   rw [Int.toNat_natCast,List.getElem?_map,ha]
   rfl
  have hbt:(B.map iz)[((k:Nat):Int).toNat]?=some [aj pb,aj ob,aj b0,aj b1,aj b2]:=by
   rw [Int.toNat_natCast,List.getElem?_map,hb]
   rfl
  have hxt:(ints P)[((k:Nat):Int).toNat]?=some [aj x]:=by
   rw [Int.toNat_natCast,List.getElem?_map,hx]
   rfl
  have hyt:(ints Q)[((k:Nat):Int).toNat]?=some [aj y]:=by
   rw [Int.toNat_natCast,List.getElem?_map,hy]
   rfl
  have hzt:(ints R)[((k:Nat):Int).toNat]?=some [aj z]:=by
   rw [Int.toNat_natCast,List.getElem?_map,hz]
   rfl
  clear ha hb hx hy hz hab hok
  have g1:decide (x < 0)=false:=decide_eq_false (by omega)
  have g2:decide (y < 0)=false:=decide_eq_false (by omega)
  have g3:(!decide (x+y=z))=false:=by rw [decide_eq_true k9];rfl
  have g4:decide (rb * (T - F) < z)=false:=decide_eq_false (by omega)
  have g5:decide (1000≤z * 1000 - rb * ((b0 - a0) * 1000+(b1 - a1) * rc+(b2 - a2) * rd))=false:=decide_eq_false (by omega)
  have g6:decide (1000≤rb * ((b0 - a0) * 1000+(b1 - a1) * rc+(b2 - a2) * rd) - z * 1000)=false:=decide_eq_false (by omega)
  refine aa (mu:=fun _=>false) ?_
  repeat' (first |refine u1 ?_ |(refine ⟨[aj x],⟨by omega,hxt⟩,rfl,?_⟩) |(refine ⟨[aj y],⟨by omega,hyt⟩,rfl,?_⟩) |(refine ⟨[aj z],⟨by omega,hzt⟩,rfl,?_⟩) |(refine ⟨[aj pa,aj oa,aj a0,aj a1,aj a2],⟨by omega,hat⟩,rfl,?_⟩) |(refine ⟨[aj pb,aj ob,aj b0,aj b1,aj b2],⟨by omega,hbt⟩,rfl,?_⟩) |(refine ⟨[ST mn,aj rk,aj w,BB ms],⟨by omega,hmt⟩,rfl,?_⟩) |(refine ⟨[ST ra,aj rb,aj rc,aj rd,aj e],⟨by omega,hrt⟩,rfl,?_⟩) |refine u2 ?_ |fail)
  exact ⟨k+1,hlt,(by dsimp only;omega),ai.to 0 rfl ⟨rfl,rfl,rfl,rfl,rfl,rfl,rfl,rfl,cZ (by simp),trivial⟩ (Nat.zero_le _) rfl rfl⟩
 ·have dl:decide ((k:Int) < ((ints P).length:Int))=false:=decide_eq_false (by omega)
  refine aa (mu:=fun _=>false) ?_
  repeat' (first |refine u1 ?_ |((with_reducible show ah _ _ _ _ _ _ _ _);refine af.call aw rfl rfl ?_) |refine u2 ?_ |fail)
  exact ⟨[_],⟨Fz.deep rfl,trivial⟩,rfl⟩
end Go.Proofs.YtlpmfgmldmdggaaGreat
