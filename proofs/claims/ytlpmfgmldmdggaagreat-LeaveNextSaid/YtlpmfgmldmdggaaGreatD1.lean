/-
  Contracts of the program's functions and of the document's. Lemmas alone; their conditions stand in them.
-/
import Derived.Test.YtlpmfgmldmdggaaGreatK8
import Derived.Test.YtlpmfgmldmdggaaGreatK1
import Derived.Test.YtlpmfgmldmdggaaGreatX1
import Derived.Test.YtlpmfgmldmdggaaGreatA2
import Derived.Test.YtlpmfgmldmdggaaGreatA3
import Derived.Test.YtlpmfgmldmdggaaGreatK11
import Derived.Laws.StructEq
open Go Go.RM
namespace Go.Proofs.YtlpmfgmldmdggaaGreat
set_option maxRecDepth 100000
set_option maxHeartbeats 4000000
theorem accR_ok {c:ay} {l:List Ev} (hm:jc l) {i:Nat} {day:Int}:∀ {r j:Nat} {fr:Int} {d:D3},Bi l day j fr d→∃ fr' ,fr'≤day∧(0≤(DZ c l i day r j fr d).1∧0≤(DZ c l i day r j fr d).2.1∧0≤(DZ c l i day r j fr d).2.2)∧(DZ c l i day r j fr d).1+(DZ c l i day r j fr d).2.1+(DZ c l i day r j fr d).2.2=fr'
 | 0,j,fr,d,h=>⟨fr,h.Ks.2,h.nn,h.sum⟩
 | r+1,j,fr,d,h=>by
  rw [sO]
  by_cases hd:fr < day
  ·rw [if_pos hd]
   exact accR_ok hm (FN hm hd h _)
  ·rw [if_neg hd]
   exact ⟨fr,h.Ks.2,h.nn,h.sum⟩
theorem days_b {c:ay} {l:List Ev} (hm:jc l) {i:Nat} {day:Int} (h0:0≤day):(0≤(tG c l i day).1∧0≤(tG c l i day).2.1∧0≤(tG c l i day).2.2)∧(tG c l i day).1+(tG c l i day).2.1+(tG c l i day).2.2≤day:=by
 obtain ⟨fr',h1,h2,h3⟩:=accR_ok (c:=c) (i:=i) hm (r:=l.length+1) (FO hm h0)
 exact ⟨h2,by unfold tG;omega⟩
end Go.Proofs.YtlpmfgmldmdggaaGreat
open Go Go.RM
namespace Go.Proofs.YtlpmfgmldmdggaaGreat
set_option maxRecDepth 100000
set_option maxHeartbeats 4000000
theorem tvA {n:Nat} {s:Sh} {l:List AV} (h:TV (.arr n s) l):∃ els:List (List AV),els.length=n∧(∀ el ∈ els,TV s el)∧l=els.flatten:=by
 cases h with
 | arr h k=>exact ⟨_,h,k,rfl⟩
end Go.Proofs.YtlpmfgmldmdggaaGreat
open Go Go.RM
namespace Go.Proofs.YtlpmfgmldmdggaaGreat
set_option maxRecDepth 100000
theorem tvI2 {l:List AV} (h:TV (.arr 2 Eb) l):∃ a b:Int,True∧l=[aj a,aj b]:=by
 obtain ⟨els,hl,he,rfl⟩:=tvA h
 match els,hl with
 | [x,y],_ =>
  obtain ⟨a,_,rfl⟩:=F3 (he x (by simp))
  obtain ⟨b,_,rfl⟩:=F3 (he y (by simp))
  exact ⟨a,b,trivial,rfl⟩
theorem tv3u {l:List AV} (h:TV (.arr 3 Jp) l):∃ a b c:Nat,(a≤65535∧b≤65535∧c≤65535)∧l=[.fl (.int .u16 ((a:Nat):Int)),.fl (.int .u16 ((b:Nat):Int)),.fl (.int .u16 ((c:Nat):Int))]:=by
 obtain ⟨els,hl,he,rfl⟩:=tvA h
 match els,hl with
 | [x,y,z],_ =>
  obtain ⟨a,ha,rfl⟩:=JO (he x (by simp))
  obtain ⟨b,hb,rfl⟩:=JO (he y (by simp))
  obtain ⟨c,hc,rfl⟩:=JO (he z (by simp))
  exact ⟨a,b,c,⟨ha,hb,hc⟩,rfl⟩
end Go.Proofs.YtlpmfgmldmdggaaGreat
open Go Go.RM
namespace Go.Proofs.YtlpmfgmldmdggaaGreat
set_option maxRecDepth 100000
section
variable {P : Program}
theorem pr_und {t : TypeId} {d : TypeDesc} (h : P.underlying t = some d) : aA P (underlying t) = some d := by
  unfold underlying
  rw [qD]
  show aA P (match P.underlying t with | some d => pure d | none => stuck "no such type") = some d
  rw [h]
  rfl
theorem pr_part {e : TypeId} (he : P.underlying e = some (.int .i64)) (xs : Array Value) (off : Nat) (v : Value) (h : xs[off]? = some v) : aA P (part e xs off) = some v := by
  unfold part isAgg
  rw [qD, qD, pr_und he]
  show aA P (match xs[off]? with | some v => pure v | none => stuck "part: no such cell") = some v
  rw [h]
  rfl
theorem pr_int (d:Nat) {e:TypeId} (he:P.underlying e=some (.int .i64)) (a b:Int):aA P (Op.equalIn (d+1) e (.int .i64 a) (.int .i64 b))=some (a == b):=by
 rw [Op.equalIn,qD,pr_und he]
 rfl
theorem pr_arr (d:Nat) {t e:TypeId} (ht:P.underlying t=some (.array 3 e)) (he:P.underlying e=some (.int .i64)) (hs:aA P (sizeOf e)=some 1) (a0 a1 a2 b0 b1 b2:Int) :
  aA P (Op.equalIn (d+1+1) t (.agg #[.int .i64 a0,.int .i64 a1,.int .i64 a2]) (.agg #[.int .i64 b0,.int .i64 b1,.int .i64 b2]))=some (decide (a0=b0) && (decide (a1=b1) && decide (a2=b2))):=by
 have p0:=pr_part he #[.int .i64 a0,.int .i64 a1,.int .i64 a2] 0 (.int .i64 a0) rfl
 have p1:=pr_part he #[.int .i64 a0,.int .i64 a1,.int .i64 a2] 1 (.int .i64 a1) rfl
 have p2:=pr_part he #[.int .i64 a0,.int .i64 a1,.int .i64 a2] 2 (.int .i64 a2) rfl
 have q0:=pr_part he #[.int .i64 b0,.int .i64 b1,.int .i64 b2] 0 (.int .i64 b0) rfl
 have q1:=pr_part he #[.int .i64 b0,.int .i64 b1,.int .i64 b2] 1 (.int .i64 b1) rfl
 have q2:=pr_part he #[.int .i64 b0,.int .i64 b1,.int .i64 b2] 2 (.int .i64 b2) rfl
 have h3:=pr_int d he
 rw [Op.equalIn,qD,pr_und ht]
 simp only [Option.bind_some]
 rw [qD,hs]
 simp only [Option.bind_some]
 simp only [Std.Legacy.Range.forIn_eq_forIn_range',Std.Legacy.Range.size,Nat.sub_zero,Nat.div_one,List.range'_succ,List.range'_zero,List.forIn_cons,List.forIn_nil,Nat.zero_add,Nat.mul_one,Nat.reduceAdd,qD,p0,q0,h3,Option.bind_some]
 by_cases e0:a0=b0 <;> by_cases e1:a1=b1 <;> by_cases e2:a2=b2 <;> simp [e0,e1,e2,q1,q2,h3,qD,mM]
 all_goals try simp_all
 all_goals try rfl
 all_goals
  show ((some (ForInStep.yield (none,()))).bind _).bind _=_
  simp only [Option.bind_some,qD,p2,q2,h3]
  rw [if_pos (by simp [e2])]
  rfl
end
def vI (n:Int):Value:=.int .i64 n
theorem eq_a3 (d:Nat) (x y z:Int):aA TT.P (Op.equalIn (d+1+1) 60 (.agg #[vI x,vI y,vI z]) (.agg #[vI x,vI y,vI z]))=some true:=by
 have:=pr_arr (P:=TT.P) d (t:=60) (e:=3) Tryz.underlying60 Tryz.underlying3 (by kernel_rfl) x y z x y z
 simp only [decide_true,Bool.and_self] at this
 exact this
theorem bin_a3 {u w:Operand} (x y z:Int):lU TT.P .neq 60 u w (.agg #[vI x,vI y,vI z]) (.agg #[vI x,vI y,vI z])=some (.bool false,.none):=by
 show gx TT.P .neq 60 u w (.agg #[vI x,vI y,vI z]) (.agg #[vI x,vI y,vI z])=_
 unfold gx
 rw [show (flat (.agg #[vI x,vI y,vI z]) && flat (.agg #[vI x,vI y,vI z]))=true from rfl,cond_true,qD]
 rw [show aA TT.P (eqGuard .neq 60 u w (.agg #[vI x,vI y,vI z]) (.agg #[vI x,vI y,vI z]))=some () by kernel_rfl]
 show cU (aA TT.P (Op.equal 60 _ _ >>= fun r=>pure (Value.bool (!r))))=_
 rw [qD]
 show cU ((aA TT.P (Op.equalIn 10000 60 _ _)).bind _)=_
 rw [eq_a3 9998]
 rfl
section
variable {hp : List AB} {K : AV → List AB → Prop} {x y : Operand} {a b : AV} {p o d0 d1 d2 : Int}
theorem bpt (ha:a=.ag [aj d0,aj d1,aj d2]) (hb:b=.ag [aj d0,aj d1,aj d2]) (h:K (BB false) hp):jQ TT .neq 60 x y a b hp K:=by
 subst ha hb
 exact ⟨_,_,rfl,rfl,_,bin_a3 (u:=x) (w:=y) d0 d1 d2,rfl,h⟩
end
end Go.Proofs.YtlpmfgmldmdggaaGreat
open Go Go.RM
namespace Go.Proofs.YtlpmfgmldmdggaaGreat
set_option maxRecDepth 100000
theorem addD_add (p x y:Int) (d:D3):jb p y (jb p x d)=jb p (x+y) d:=by
 unfold jb
 split
 ·dsimp only;rw [Int.add_assoc]
 ·split <;> (dsimp only;rw [Int.add_assoc])
theorem until_two {D:Int} {l:List Ev}:cP D l≤cP (D+1) l:=by
 have h1:=pq D l
 rcases Nat.lt_or_ge (cP (D+1) l) (cP D l) with h|h
 ·exfalso
  have hl:cP (D+1) l < l.length:=by omega
  have h2:=mt (mw (D:=D+1) (Nat.le_refl _) hl).2 (by omega)
  have h3:=(mw (D:=D) (by omega) hl).1 h
  omega
 ·exact h
theorem days_next {c:ay} {i:Nat} {D:Int} {l:List Ev} (hm:jc l) (hD:0≤D):tG c l i (D+1)=jb (aB c (cu D l) i) 1 (tG c l i D):=by
 rw [FR hm hD,FR hm (by omega),addD_add]
 have hle:=until_two (D:=D) (l:=l)
 rcases Nat.eq_or_lt_of_le hle with he|hlt
 ·have:cu (D+1) l=cu D l:=by rw [tI,tI,he]
  rw [this]
  congr 1
  omega
 ·have hl:cP D l < l.length:=by have:=pq (D+1) l;omega
  have hd:l[cP D l].day=D+1:=by
   have h2:=mt (mw (D:=D) (Nat.le_refl _) hl).2 (by omega)
   have h3:=(mw (D:=D+1) (by omega) hl).1 hlt
   omega
  have hs:=Bm (c:=c) (i:=i) (D:=D+1) hm (j:=cP D l+1) (by rw [ki hl];exact hd) (cP (D+1) l - (cP D l+1)) (by omega)
  rw [show cP D l+1+(cP (D+1) l - (cP D l+1))=cP (D+1) l by omega,←tI,Bl c i hl,←tI] at hs
  have h2:=pg c i (cu (D+1) l)
  rw [hs] at h2
  dsimp only at h2
  rw [←h2,Int.sub_self,pe,hs]
  dsimp only
  unfold Hz
  dsimp only
  rw [ye,pg,hd]
  congr 1
  omega
theorem addD_sum (p x:Int) (d:D3):(jb p x d).1+(jb p x d).2.1+(jb p x d).2.2=d.1+d.2.1+d.2.2+x:=by
 unfold jb
 split
 ·dsimp only;omega
 ·split <;> (dsimp only;omega)
theorem stF_sum (i:Nat):∀ (l:List Ev) (s:Int × Int × D3),s.2.2.1+s.2.2.2.1+s.2.2.2.2=s.2.1→(l.foldl (Hz i) s).2.2.1+(l.foldl (Hz i) s).2.2.2.1+(l.foldl (Hz i) s).2.2.2.2=(l.foldl (Hz i) s).2.1
 | [],_,h=>h
 | x :: l,s,h=>stF_sum i l (Hz i s x) (by
  unfold Hz
  dsimp only
  rw [addD_sum]
  omega)
theorem days_sum {c:ay} {i:Nat} {D:Int} {l:List Ev} (hm:jc l) (hD:0≤D):(tG c l i D).1+(tG c l i D).2.1+(tG c l i D).2.2=D:=by
 rw [FR hm hD,addD_sum]
 have:=stF_sum i (cu D l) (gK c i,0,(0,0,0)) rfl
 have h2:=pg c i (cu D l)
 unfold zE at h2 ⊢
 omega
theorem acc_next {c:ay} {i:Nat} {D:Int} {l:List Ev} (hm:jc l) (hD:0≤D):∃ p d0 d1 d2 q o',sP c l i D=⟨p,tH c i+d0 * eo c i - d1 * 1000,d0,d1,d2⟩∧(p=0∨p=1∨p=2)∧(0≤d0∧0≤d1∧0≤d2)∧d0+d1+d2=D ∧
  sP c l i (D+1)=⟨q,o',(jb p 1 (d0,d1,d2)).1,(jb p 1 (d0,d1,d2)).2.1,(jb p 1 (d0,d1,d2)).2.2⟩:=by
 refine ⟨aB c (cu D l) i,(tG c l i D).1,(tG c l i D).2.1,(tG c l i D).2.2,aB c (cu (D+1) l) i,wo c i (tG c l i (D+1)),rfl,FM c _ i,(days_b hm hD).1,days_sum hm hD,?_⟩
 unfold sP
 rw [days_next hm hD]
end Go.Proofs.YtlpmfgmldmdggaaGreat
open Go Go.RM
namespace Go.Proofs.YtlpmfgmldmdggaaGreat
set_option maxRecDepth 100000
set_option maxHeartbeats 4000000
theorem days_err (c:ay) (h:c.Ok) (l:List Ev) (f:Bool) (hl:l.length≤maxLen) (hd:∀ x ∈ l,x.day≤later) (n:Nat) (h0:(wC c l).2 ≠ 0):Pu false 8 [.ag (aX c),.sl (l.map cO) f,.fl (.int .u16 ((n:Nat):Int))] (BB true):=by
 have o1:=Iy false c h l f hl hd
 have aw:=Jo false
 rw [decide_eq_false h0] at o1
 have o2:=Cq false c h l f hl hd 0
 have ho:C7 c l 0=(wC c l).2:=by
  unfold C7
  rw [if_pos h0]
 have d1:(!decide (C7 c l 0=0))=true:=by rw [ho,decide_eq_false h0];rfl
 generalize C7 c l 0=e at *
 generalize Im c l 0=A at *
 refine af.body (fn:=Tryz.f8) rfl rfl rfl rfl ?_
 refine aa (mu:=fun _=>false) ?_
 repeat' (first |refine u1 ?_ |((with_reducible show ah _ _ _ _ _ _ _ _);refine af.call o1 rfl rfl ?_) |((with_reducible show ah _ _ _ _ _ _ _ _);refine af.call o2 rfl rfl ?_) |((with_reducible show ah _ _ _ _ _ _ _ _);refine af.call aw rfl rfl ?_) |refine u2 ?_ |fail)
 exact ⟨[_],⟨Fz.deep rfl,trivial⟩,rfl⟩
noncomputable def lp8:Code:=zy (zy (zy (zy (zy (zy (Tryz.f8.body.getD .skip))))))
theorem days_loop (c:ay) (hg:Good c) (D:Int) (hD:0≤D∧D≤40000) (A B:List Acc) (hA:A.length=c.aO.length)
  (hab:∀ i (_:i < c.aO.length),∃ p d0 d1 d2 q o',A[i]?=some ⟨p,tH c i+d0 * eo c i - d1 * 1000,d0,d1,d2⟩∧(p=0∨p=1∨p=2)∧(0≤d0∧0≤d1∧0≤d2)∧d0+d1+d2=D∧B[i]?=some ⟨q,o',(jb p 1 (d0,d1,d2)).1,(jb p 1 (d0,d1,d2)).2.1,(jb p 1 (d0,d1,d2)).2.2⟩) :
  aL TT TB false lp8 ⟨cz [(3,.pt (aX c) 0),(9,aj D),(10,.sl (A.map iz) false),(12,.sl (B.map iz) false)],[],bF.none,false,0⟩ (vF TT Tryz.f8.results.toList (BB true)):=by
 have hm5:=hg.aO
 have aw:=Jo false
 have ea:((A.map iz).length:Int)=c.aO.length:=by simp [hA]
 refine aa (mu:=fun _=>false) ?_
 show kr _ _ _ _ (.seq (.seq (.region _ _ false) _) _) _ _
 repeat' (first |refine u1 ?_ |refine u2 ?_ |fail)
 refine aL.cr (ai.to (l:=[(3,.pt (aX c) 0),(9,aj D),(10,.sl (A.map iz) false),(12,.sl (B.map iz) false),(14,aj (0:Nat))]) (hp:=[]) 0 rfl ⟨rfl,rfl,rfl,rfl,rfl,trivial⟩ (Nat.zero_le _) rfl rfl) ?_
 refine aL.loop (fun k:Nat=>k≤c.aO.length) (fun k=>⟨cz [(3,.pt (aX c) 0),(9,aj D),(10,.sl (A.map iz) false),(12,.sl (B.map iz) false),(14,aj (k:Nat))],[],bF.none,false,0⟩) (fun k=>c.aO.length - k) ?_ 0 (Nat.zero_le _)
 intro k hk
 by_cases hlt:k < c.aO.length
 ·have dl:decide ((k:Int) < ((A.map iz).length:Int))=true:=decide_eq_true (by omega)
  obtain ⟨p,d0,d1,d2,q,o',ha,hp,⟨hd0,hd1,hd2⟩,hsum,hb⟩:=hab k hlt
  have hmt:(c.aO.map bG)[((k:Nat):Int).toNat]?=some (bG c.aO[k]):=cM hlt
  have how:tH c k=c.aO[k].gI:=by
   unfold tH
   rw [List.getElem?_eq_getElem hlt]
   rfl
  have hman:=hg.qp _ (List.getElem_mem hlt)
  have hrl:c.aO[k].lR.toNat < c.az.length:=by omega
  have hrt:(c.az.map bu)[c.aO[k].lR.toNat]?=some (bu c.az[c.aO[k].lR.toNat]):=by
   rw [List.getElem?_map,List.getElem?_eq_getElem hrl]
   rfl
  have hea:eo c k=c.az[c.aO[k].lR.toNat].m9:=by
   unfold eo sJ
   rw [List.getElem?_eq_getElem hlt]
   show ((c.az[c.aO[k].lR.toNat]?).map fA.m9).getD 0=_
   rw [List.getElem?_eq_getElem hrl]
   rfl
  have heb:=H8 hg k
  rw [hea] at ha heb
  rw [how] at ha
  generalize c.az[c.aO[k].lR.toNat]=r at *
  generalize c.aO[k]=m at *
  obtain ⟨ra,rb,rc,rd,e⟩:=r
  obtain ⟨mn,rk,w,ms⟩:=m
  dsimp only at *
  have hrt:(c.az.map bu)[rk.toNat]?=some [ST ra,aj rb,aj rc,aj rd,aj e]:=hrt
  have hmt:(c.aO.map bG)[((k:Nat):Int).toNat]?=some [ST mn,aj rk,aj w,BB ms]:=hmt
  have hat:(A.map iz)[((k:Nat):Int).toNat]?=some [aj p,aj (w+d0 * e - d1 * 1000),aj d0,aj d1,aj d2]:=by
   rw [Int.toNat_natCast,List.getElem?_map,ha]
   rfl
  obtain ⟨x0,hx0⟩:∃ x,x=(jb p 1 (d0,d1,d2)).1:=⟨_,rfl⟩
  obtain ⟨x1,hx1⟩:∃ x,x=(jb p 1 (d0,d1,d2)).2.1:=⟨_,rfl⟩
  obtain ⟨x2,hx2⟩:∃ x,x=(jb p 1 (d0,d1,d2)).2.2:=⟨_,rfl⟩
  rw [←hx0,←hx1,←hx2] at hb
  have hbt:(B.map iz)[((k:Nat):Int).toNat]?=some [aj q,aj o',aj x0,aj x1,aj x2]:=by
   rw [Int.toNat_natCast,List.getElem?_map,hb]
   rfl
  clear ha hb hea how hab
  have hmb:0≤d0 * e∧d0 * e≤1000 * d0:=A9 hd0 heb
  have g1:decide (d0 < 0)=false:=decide_eq_false (by omega)
  have g2:decide (d1 < 0)=false:=decide_eq_false (by omega)
  have g3:decide (d2 < 0)=false:=decide_eq_false (by omega)
  have g4:(!decide (d0+d1+d2=D))=false:=by rw [decide_eq_true hsum];rfl
  have g5:(!decide (w+d0 * e - d1 * 1000=w+d0 * e - d1 * 1000))=false:=by rw [decide_eq_true rfl];rfl
  obtain rfl|rfl|rfl:=hp
  ·obtain rfl:x0=d0+1:=hx0
   obtain rfl:x1=d1:=hx1
   obtain rfl:x2=d2:=hx2
   have p1:decide ((0:Int) < 0)=false:=rfl
   have p2:decide ((2:Int) < 0)=false:=rfl
   refine aa (mu:=fun _=>false) ?_
   repeat' (first |((with_reducible show jQ _ _ _ _ _ _ _ _ _);refine bpt rfl rfl ?_) |refine u1 ?_ |(refine ⟨[aj p,aj (w+d0 * e - d1 * 1000),aj d0,aj d1,aj d2],⟨by omega,hat⟩,rfl,?_⟩) |(refine ⟨[ST mn,aj rk,aj w,BB ms],⟨by omega,hmt⟩,rfl,?_⟩) |(refine ⟨[ST ra,aj rb,aj rc,aj rd,aj e],⟨by omega,hrt⟩,rfl,?_⟩) |(refine ⟨[aj q,aj o',aj x0,aj x1,aj x2],⟨by omega,hbt⟩,rfl,?_⟩) |refine u2 ?_ |fail)
   exact ⟨k+1,hlt,(by dsimp only;omega),ai.to 0 rfl ⟨rfl,rfl,rfl,rfl,cZ (by simp),trivial⟩ (Nat.zero_le _) rfl rfl⟩
  ·obtain rfl:x0=d0:=hx0
   obtain rfl:x1=d1+1:=hx1
   obtain rfl:x2=d2:=hx2
   have p1:decide ((1:Int) < 0)=false:=rfl
   have p2:decide ((2:Int) < 1)=false:=rfl
   refine aa (mu:=fun _=>false) ?_
   repeat' (first |((with_reducible show jQ _ _ _ _ _ _ _ _ _);refine bpt rfl rfl ?_) |refine u1 ?_ |(refine ⟨[aj p,aj (w+d0 * e - d1 * 1000),aj d0,aj d1,aj d2],⟨by omega,hat⟩,rfl,?_⟩) |(refine ⟨[ST mn,aj rk,aj w,BB ms],⟨by omega,hmt⟩,rfl,?_⟩) |(refine ⟨[ST ra,aj rb,aj rc,aj rd,aj e],⟨by omega,hrt⟩,rfl,?_⟩) |(refine ⟨[aj q,aj o',aj x0,aj x1,aj x2],⟨by omega,hbt⟩,rfl,?_⟩) |refine u2 ?_ |fail)
   exact ⟨k+1,hlt,(by dsimp only;omega),ai.to 0 rfl ⟨rfl,rfl,rfl,rfl,cZ (by simp),trivial⟩ (Nat.zero_le _) rfl rfl⟩
  ·obtain rfl:x0=d0:=hx0
   obtain rfl:x1=d1:=hx1
   obtain rfl:x2=d2+1:=hx2
   have p1:decide ((2:Int) < 0)=false:=rfl
   have p2:decide ((2:Int) < 2)=false:=rfl
   refine aa (mu:=fun _=>false) ?_
   repeat' (first |((with_reducible show jQ _ _ _ _ _ _ _ _ _);refine bpt rfl rfl ?_) |refine u1 ?_ |(refine ⟨[aj p,aj (w+d0 * e - d1 * 1000),aj d0,aj d1,aj d2],⟨by omega,hat⟩,rfl,?_⟩) |(refine ⟨[ST mn,aj rk,aj w,BB ms],⟨by omega,hmt⟩,rfl,?_⟩) |(refine ⟨[ST ra,aj rb,aj rc,aj rd,aj e],⟨by omega,hrt⟩,rfl,?_⟩) |(refine ⟨[aj q,aj o',aj x0,aj x1,aj x2],⟨by omega,hbt⟩,rfl,?_⟩) |refine u2 ?_ |fail)
   exact ⟨k+1,hlt,(by dsimp only;omega),ai.to 0 rfl ⟨rfl,rfl,rfl,rfl,cZ (by simp),trivial⟩ (Nat.zero_le _) rfl rfl⟩
 ·have dl:decide ((k:Int) < ((A.map iz).length:Int))=false:=decide_eq_false (by omega)
  refine aa (mu:=fun _=>false) ?_
  repeat' (first |refine u1 ?_ |((with_reducible show ah _ _ _ _ _ _ _ _);refine af.call aw rfl rfl ?_) |refine u2 ?_ |fail)
  exact ⟨[_],⟨Fz.deep rfl,trivial⟩,rfl⟩
end Go.Proofs.YtlpmfgmldmdggaaGreat
open Go Go.RM
namespace Go.Proofs.YtlpmfgmldmdggaaGreat
set_option maxRecDepth 100000
set_option maxHeartbeats 4000000
theorem days_c (c:ay) (h:c.Ok) (l:List Ev) (f:Bool) (hl:l.length≤maxLen) (hd:∀ x ∈ l,x.day≤later) (n:Nat) (hn:n≤65535):Pu false 8 [.ag (aX c),.sl (l.map cO) f,.fl (.int .u16 ((n:Nat):Int))] (BB true):=by
 by_cases h0:(wC c l).2=0
 ·have o1:=Iy false c h l f hl hd
  have aw:=Jo false
  rw [decide_eq_true h0] at o1
  have hv:=Iw hd h0
  have em:((c.aO.map bG).length:Int)=c.aO.length:=by simp
  obtain ⟨D,hD⟩:∃ D:Int,D=((n:Nat):Int) % 40000:=⟨_,rfl⟩
  have hD0:0≤D∧D≤40000:=by omega
  have hD1:0≤D+1∧D+1≤40000:=by omega
  have on1:=Jm h0 hD0
  have on2:=Jm h0 hD1
  have o2:=Cq false c h l f hl hd D
  have o3:=Cq false c h l f hl hd (D+1)
  unfold Im at o2 o3
  rw [if_pos on1,on1] at o2
  rw [if_pos on2,on2] at o3
  have hA:=HC hv hD0.1
  have hB:=HC hv hD1.1
  have hla:(Cp c l D).length=c.aO.length:=by rw [hA];simp
  have hlb:(Cp c l (D+1)).length=c.aO.length:=by rw [hB];simp
  have hab:∀ i (_:i < c.aO.length),∃ p d0 d1 d2 q o',(Cp c l D)[i]?=some ⟨p,tH c i+d0 * eo c i - d1 * 1000,d0,d1,d2⟩∧(p=0∨p=1∨p=2)∧(0≤d0∧0≤d1∧0≤d2)∧d0+d1+d2=D∧(Cp c l (D+1))[i]?=some ⟨q,o',(jb p 1 (d0,d1,d2)).1,(jb p 1 (d0,d1,d2)).2.1,(jb p 1 (d0,d1,d2)).2.2⟩:=by
   intro i hi
   obtain ⟨p,d0,d1,d2,q,o',e1,e2,e3,e4,e5⟩:=acc_next (c:=c) (i:=i) hv.mono hD0.1
   refine ⟨p,d0,d1,d2,q,o',?_,e2,e3,e4,?_⟩
   ·rw [hA,List.getElem?_map,List.getElem?_range hi,Option.map_some,e1]
   ·rw [hB,List.getElem?_map,List.getElem?_range hi,Option.map_some,e5]
  have ea:(((Cp c l D).map iz).length:Int)=c.aO.length:=by simp [hla]
  have eb:(((Cp c l (D+1)).map iz).length:Int)=c.aO.length:=by simp [hlb]
  clear hA hB
  generalize Cp c l D=A at *
  generalize Cp c l (D+1)=B at *
  have q0:(!decide ((0:Int)=0))=false:=rfl
  have q1:(!decide (((A.map iz).length:Int)=((c.aO.map bG).length:Int)))=false:=by rw [decide_eq_true (by omega)];rfl
  have q2:(!decide (((B.map iz).length:Int)=((A.map iz).length:Int)))=false:=by rw [decide_eq_true (by omega)];rfl
  refine af.body (fn:=Tryz.f8) rfl rfl rfl rfl ?_
  show aL TT TB false (.seq (.region _ _ _) (.seq (.seq (.region _ _ _) _) (.seq (.region _ _ _) (.seq (.region _ _ _) (.seq (.region _ _ _) (.seq (.seq (.region _ _ _) _) lp8)))))) _ _
  refine RM.qk (mu:=fun _=>false) ?_
  repeat' (first |refine u1 ?_ |refine u2 ?_ |fail)
  refine RM.qk (mu:=fun _=>false) ?_
  repeat' (first |refine u1 ?_ |((with_reducible show ah _ _ _ _ _ _ _ _);refine af.call o1 rfl rfl ?_) |refine u2 ?_ |fail)
  refine RM.qk (mu:=fun _=>false) ?_
  repeat' (first |refine u1 ?_ |((with_reducible show RM.wpOp _ _ (.convert _ _ _) _ _ _);refine Jn rfl hn ?_) |refine u2 ?_ |fail)
  rw [←hD]
  refine RM.qk (mu:=fun _=>false) ?_
  repeat' (first |refine u1 ?_ |((with_reducible show ah _ _ _ _ _ _ _ _);refine af.call o2 rfl rfl ?_) |refine u2 ?_ |fail)
  refine RM.qk (mu:=fun _=>false) ?_
  repeat' (first |refine u1 ?_ |((with_reducible show ah _ _ _ _ _ _ _ _);refine af.call o3 rfl rfl ?_) |refine u2 ?_ |fail)
  refine RM.qk (mu:=fun _=>false) ?_
  repeat' (first |refine u1 ?_ |refine u2 ?_ |fail)
  refine aL.cr (ai.to (l:=[(3,.pt (aX c) 0),(9,aj D),(10,.sl (A.map iz) false),(12,.sl (B.map iz) false)]) (hp:=[]) 0 rfl ⟨rfl,rfl,rfl,rfl,trivial⟩ (Nat.zero_le _) rfl rfl) ?_
  exact days_loop c hv.good D hD0 A B hla hab
 ·exact days_err c h l f hl hd n h0
end Go.Proofs.YtlpmfgmldmdggaaGreat
