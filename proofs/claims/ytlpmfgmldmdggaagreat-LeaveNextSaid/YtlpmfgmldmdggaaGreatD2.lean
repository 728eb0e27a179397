/-
  Contracts of the program's functions and of the document's. Lemmas alone; their conditions stand in them.
-/
import Derived.Test.YtlpmfgmldmdggaaGreatD1
open Go Go.RM
namespace Go.RM
section
variable {T : bf} {tab : List XE} {one : Bool}
theorem af.ofC1 {F x:AV} {args:List AV} (hv:x.deep=true) (h:ah T tab one F args [] bF.none fun w hp _=>Fz hp w x):af T tab one F args x:=by
 refine ⟨hv,fun X H u us hwf hX d1 d2=>?_⟩
 let E:Env:=⟨fun _ _=>none,fun _=>False,fun _=>False,X⟩
 have hno:∀ k,¬ Own E.ρ [] k:=fun k ⟨j,b,av,h,_⟩=>by cases h
 have hO:∀ k,E.O [] k→X k:=fun k h=>h.elim (fun h=>(hno k h).elim) id
 have hrel:aH E H.n [] bF.none H :=
  {wf:=hwf,gn:=fun j b av h _=>(by cases h),inj:=fun j j' av ver' k h=>(by cases h),rn:=fun j v k h=>(by cases h),fresh:=fun j b av v h=>(by cases h),new:=fun _ _ _=>rfl,
   sup:=fun k h=>(hno k h).elim,iD:=fun k h=>(hno k h).elim,dx:=fun k h=>h.elim,ds:=fun k h=>h.elim,sn:=fun k h=>h.elim,xn:=hX,
   pR:=fun k h=>h.elim (fun h=>(hno k h).elim) (fun h=>h.elim),bn:=Nat.le_refl _,au:=trivial}
 have up:∀ {a:AV} {u:Value},DR H.get X a u→AR E.ρ H.get (E.O []) a u:=fun h=>.d (h.mono fun k b hk ho=>⟨hk,fun h=>ho (hO k h)⟩)
 obtain ⟨g1,hg1,m1,L1,r1,r2,r3⟩:=h E H.n H u us hrel (up d1) ⟨d2.1,fun i a u x y=>up (d2.2 i a u x y)⟩
 refine ⟨g1,hg1,m1,L1,r1,r2,fun r hr=>?_⟩
 obtain ⟨w1,H1,rfl,E1,a1,hq,amb1,hz,k1,k2,k3⟩:=r3 r hr
 exact ⟨_,H1,rfl,k3.n,k1.wf,fun k hk=>k3.same k hk (hno k) (fun h=>h),k3.lo,hz.dr k1 (fun k hk=>k3.xk k hk) k2⟩
end
end Go.RM
namespace Go.Proofs.YtlpmfgmldmdggaaGreat
set_option maxRecDepth 100000
set_option maxHeartbeats 4000000
theorem deepL_map {α:Type} {g:α→AV} (h:∀ x,(g x).deep=true):∀ l:List α,dJ (l.map g)=true
 | []=>rfl
 | x :: l=>by
  show ((g x).deep && dJ (l.map g))=true
  rw [h x,deepL_map h l]
  rfl
theorem inbL_map {α:Type} (n:Nat) {g:α→AV} (h:∀ x,(g x).iE n=true):∀ l:List α,tX n (l.map g)=true
 | []=>rfl
 | x :: l=>by
  show ((g x).iE n && tX n (l.map g))=true
  rw [h x,inbL_map n h l]
  rfl
abbrev nums (l:List Int):List AV:=l.map aj
theorem nums_flat:∀ l:List Int,(ints l).flatten=nums l
 | []=>rfl
 | x :: l=>by
  show aj x :: (ints l).flatten=_
  rw [nums_flat l]
  rfl
theorem nums_deep (l:List Int):dJ (nums l)=true:=deepL_map (fun _=>rfl) l
theorem nums_inb (j:Nat) (l:List Int) (v:Nat):AB.iE j (.cells (nums l) 1 v)=true:=inbL_map j (fun _=>rfl) _
theorem nums_inb1 (l:List Int) (v:Nat):([.cells (nums l) 1 v]:List AB).all (AB.iE 1)=true:=by
 simp only [List.all_cons,List.all_nil,nums_inb,Bool.and_true]
theorem nums_row {hp:List AB} {j v cc n:Nat} {l:List Int} (hj:hp[j]?=some (.cells (nums l) 1 v)) (hn:l.length=n):Fz hp (.dY j v 0 n cc) (.sl (ints l) false) :=
 Fz.row (es:=1) hj (by rw [List.length_map];omega) (by rw [List.length_map];exact hn) (fun el hel=>by obtain ⟨x,_,rfl⟩:=List.mem_map.1 hel;rfl) (by rw [nums_flat,List.drop_zero,List.take_of_length_le (by rw [List.length_map];omega)]) (by rw [nums_flat];exact nums_deep _) (fun h=>Bool.noConfusion h)
def dueA (c:ay) (i:Nat) (a:Acc):Int:=match sJ c i with
 | some r=>r.Fc * (a.d0 * 1000+a.d1 * r.leave+a.d2 * r.Fe)
 | none=>0
def duesV (c:ay) (A:List Acc):List Int:=A.mapIdx fun i a=>dueA c i a / 1000
theorem duesV_len (c:ay) (A:List Acc):(duesV c A).length=A.length:=by unfold duesV;simp
theorem duesV_take {c:ay} {A:List Acc} {k:Nat} (h:k < A.length):(duesV c A).take (k+1)=(duesV c A).take k++[dueA c k A[k] / 1000]:=by
 rw [List.take_add_one,List.getElem?_eq_getElem (by rw [duesV_len];exact h)]
 unfold duesV
 rw [List.getElem_mapIdx]
 rfl
theorem rank_of {c:ay} (hg:Good c) {k:Nat} (hlt:k < c.aO.length):∃ (mn:ByteArray) (rk w:Int) (ms:Bool) (ra:ByteArray) (rb rc rd e:Int),
  (c.aO.map bG)[((k:Nat):Int).toNat]?=some [ST mn,aj rk,aj w,BB ms]∧(c.az.map bu)[rk.toNat]?=some [ST ra,aj rb,aj rc,aj rd,aj e] ∧
  (0≤rk∧rk < c.az.length)∧(0≤rb∧rb≤1000)∧(0≤rc∧rc≤1000)∧(0≤rd∧rd≤1000)∧sJ c k=some ⟨ra,rb,rc,rd,e⟩:=by
 have hmt:(c.aO.map bG)[((k:Nat):Int).toNat]?=some (bG c.aO[k]):=cM hlt
 have hman:=(hg.qp _ (List.getElem_mem hlt)).1
 have hrl:c.aO[k].lR.toNat < c.az.length:=by omega
 have hrt:(c.az.map bu)[c.aO[k].lR.toNat]?=some (bu c.az[c.aO[k].lR.toNat]):=by
  rw [List.getElem?_map,List.getElem?_eq_getElem hrl]
  rfl
 have hb:=hg.lR _ (List.getElem_mem hrl)
 refine ⟨c.aO[k].name,c.aO[k].lR,c.aO[k].gI,c.aO[k].zm,c.az[c.aO[k].lR.toNat].name,c.az[c.aO[k].lR.toNat].Fc,c.az[c.aO[k].lR.toNat].leave,c.az[c.aO[k].lR.toNat].Fe,c.az[c.aO[k].lR.toNat].m9,hmt,hrt,hman,hb.1,hb.2.1,hb.2.2.1,?_⟩
 unfold sJ
 rw [List.getElem?_eq_getElem hlt]
 show c.az[c.aO[k].lR.toNat]?=_
 rw [List.getElem?_eq_getElem hrl]
structure DOk (a:Acc):Prop where
 nn:0≤a.d0∧0≤a.d1∧0≤a.d2
 sum:a.d0+a.d1+a.d2≤40000
theorem due_b {p l i a b d:Int} (hp:0≤p∧p≤1000) (hl:0≤l∧l≤1000) (hi:0≤i∧i≤1000) (h:0≤a∧0≤b∧0≤d) (hs:a+b+d≤40000) :
  (0≤b * l∧b * l≤40000000)∧(0≤d * i∧d * i≤40000000)∧(0≤a * 1000+b * l+d * i∧a * 1000+b * l+d * i≤1000 * (a+b+d))∧0≤p * (a * 1000+b * l+d * i)∧p * (a * 1000+b * l+d * i)≤40000000000:=by
 have h1:=A9 h.2.1 hl
 have h2:=A9 h.2.2 hi
 have h3:=A9 (dd:=a * 1000+b * l+d * i) (by omega) hp
 rw [Int.mul_comm _ p] at h3
 generalize p * (a * 1000+b * l+d * i)=x at *
 generalize b * l=y at *
 generalize d * i=z at *
 omega
def DuQ (l:List Int) (w:AV) (hp:List AB) (au:bF):Prop:=au=bF.none∧∃ v cc,w=.dY 0 v 0 l.length cc∧hp=[.cells (nums l) 1 v]
theorem dues_cv (one:Bool) {c:ay} (hg:Good c) (D:Int) (A:List Acc) (hA:A.length=c.aO.length) (hok:∀ a ∈ A,DOk a):ah TT TB one (.fn 73 [] []) [.pt (JW c D A) 0] [] bF.none (DuQ (duesV c A)):=by
 have ea:((A.map iz).length:Int)=c.aO.length:=by simp [hA]
 have hm5:=hg.aO
 have hdl:=duesV_len c A
 refine ah.body (fn:=Tryz.f73) rfl rfl rfl ?_
 refine aa (mu:=fun t=>Nat.beq t 56) ?_
 repeat' (first |refine u1 ?_ |refine u2 ?_ |fail)
 refine aL.cr (ai.trans (ai.Ce 1) (ai.JR (l:=[(0,.pt (JW c D A) 0),(2,.dY 0 ((0,0,0):Nat × Nat × Nat).2.1 0 ((0,0,0):Nat × Nat × Nat).1 ((0,0,0):Nat × Nat × Nat).2.2),(9,.sl (A.map iz) false),(10,aj ((A.map iz).length:Int)),(11,aj (((0,0,0):Nat × Nat × Nat).1:Nat))]) (hp:=[.cells (nums ((duesV c A).take ((0,0,0):Nat × Nat × Nat).1)) 1 ((0,0,0):Nat × Nat × Nat).2.1]) 1 rfl ⟨jJ.refl _,jJ.Cd,jJ.refl _,jJ.refl _,jJ.refl _,trivial⟩ (Nat.zero_le _) rfl (nums_inb1 _ _))) ?_
 refine aL.loop (fun x:Nat × Nat × Nat=>x.1≤A.length∧(x.2.2=x.1∨x.2.2=x.1+1)) (fun x=>⟨cz [(0,.pt (JW c D A) 0),(2,.dY 0 x.2.1 0 x.1 x.2.2),(9,.sl (A.map iz) false),(10,aj ((A.map iz).length:Int)),(11,aj (x.1:Nat))],[.cells (nums ((duesV c A).take x.1)) 1 x.2.1],bF.none,false,0⟩) (fun x=>A.length - x.1) ?_ (0,0,0) ⟨Nat.zero_le _,.inl rfl⟩
 rintro ⟨k,v,cc⟩ ⟨hk,hcap⟩
 dsimp only at hk hcap
 show aL _ _ _ _ ⟨cz [(0,.pt (JW c D A) 0),(2,.dY 0 ((k,v,cc):Nat × Nat × Nat).2.1 0 ((k,v,cc):Nat × Nat × Nat).1 ((k,v,cc):Nat × Nat × Nat).2.2),(9,.sl (A.map iz) false),(10,aj ((A.map iz).length:Int)),(11,aj (((k,v,cc):Nat × Nat × Nat).1:Nat))],[.cells (nums ((duesV c A).take ((k,v,cc):Nat × Nat × Nat).1)) 1 ((k,v,cc):Nat × Nat × Nat).2.1],bF.none,false,0⟩ _
 dsimp only
 by_cases hlt:k < A.length
 ·have dl:decide ((k:Int) < ((A.map iz).length:Int))=true:=decide_eq_true (by omega)
  have hat:(A.map iz)[((k:Nat):Int).toNat]?=some (iz A[k]):=cM hlt
  have hao:=hok _ (List.getElem_mem hlt)
  obtain ⟨mn,rk,w,ms,ra,rb,rc,rd,e,hmt,hrt,hrk,hb1,hb2,hb3,hra⟩:=rank_of hg (k:=k) (by omega)
  have hst:=duesV_take (c:=c) hlt
  have hgl:(nums ((duesV c A).take k)).length=k * 1:=by rw [List.length_map,List.length_take,hdl];omega
  generalize A[k]=a at *
  obtain ⟨p,o,d0,d1,d2⟩:=a
  obtain ⟨hnn,hsum⟩:=hao
  have hat:(A.map iz)[((k:Nat):Int).toNat]?=some [aj p,aj o,aj d0,aj d1,aj d2]:=hat
  dsimp only at hnn hsum
  have hdb:=due_b hb1 hb2 hb3 hnn hsum
  have hst:(duesV c A).take (k+1)=(duesV c A).take k++[rb * (d0 * 1000+d1 * rc+d2 * rd) / 1000]:=by
   rw [hst]
   unfold dueA
   rw [hra]
  obtain ⟨q1,q2,q3,q4⟩:=hdb
  refine aa (mu:=fun t=>Nat.beq t 56) ?_
  repeat' (first |((with_reducible show RM.wpOp _ _ (.call _) _ _ _);refine RM.Gx (cs:=nums ((duesV c A).take k)) (n:=k) (els:=[[aj (rb * (d0 * 1000+d1 * rc+d2 * rd) / 1000)]]) rfl rfl rfl rfl rfl (fun el hel=>by rw [List.mem_singleton.1 hel];rfl) rfl rfl hgl hcap (by simp only [List.length_singleton];omega) (fun v' c' hc'=>?_)) |refine u1 ?_ |(refine ⟨[aj p,aj o,aj d0,aj d1,aj d2],⟨by omega,hat⟩,rfl,?_⟩) |(refine ⟨[ST mn,aj rk,aj w,BB ms],⟨by omega,hmt⟩,rfl,?_⟩) |(refine ⟨[ST ra,aj rb,aj rc,aj rd,aj e],⟨by omega,hrt⟩,rfl,?_⟩) |refine u2 ?_ |fail)
  exact ⟨(k+1,v',c'),⟨hlt,hc'⟩,(by dsimp only;omega),ai.to (hp:=[.cells (nums ((duesV c A).take ((k+1,v',c'):Nat × Nat × Nat).1)) 1 ((k+1,v',c'):Nat × Nat × Nat).2.1]) 1 (by show _=[AB.cells (nums ((duesV c A).take (k+1))) 1 v'];rw [hst];unfold nums;rw [List.map_append];rfl) ⟨rfl,rfl,rfl,rfl,cZ (by simp),trivial⟩ (Nat.zero_le _) rfl (nums_inb1 _ _)⟩
 ·have dl:decide ((k:Int) < ((A.map iz).length:Int))=false:=decide_eq_false (by omega)
  have e:(duesV c A).take k=duesV c A:=List.take_of_length_le (by omega)
  have hkl:k=(duesV c A).length:=by omega
  rw [e]
  refine aa (mu:=fun t=>Nat.beq t 56) ?_
  repeat' (first |refine u1 ?_ |refine u2 ?_ |fail)
  exact ⟨v,cc,by rw [←hkl];rfl,rfl⟩
theorem dues_c (one:Bool) {c:ay} (hg:Good c) (D:Int) (A:List Acc) (hA:A.length=c.aO.length) (hok:∀ a ∈ A,DOk a):Pu one 73 [.pt (JW c D A) 0] (.sl (ints (duesV c A)) false) :=
 af.ofC1 rfl ((dues_cv one hg D A hA hok).mono (by
  rintro w hp au ⟨rfl,v,cc,rfl,rfl⟩
  exact nums_row rfl rfl))
end Go.Proofs.YtlpmfgmldmdggaaGreat
open Go Go.RM
namespace Go.Proofs.YtlpmfgmldmdggaaGreat
set_option maxRecDepth 100000
set_option maxHeartbeats 4000000
theorem nums_get {S:List Int} {k:Nat} {x:Int} (h:S[k]?=some x):(nums S)[0+((k:Nat):Int).toNat * 1]?=some (aj x):=by
 rw [Int.toNat_natCast,Nat.zero_add,Nat.mul_one,List.getElem?_map,h]
 rfl
theorem nums_set {S:List Int} {k:Nat} (h:k < S.length) (x:Int):ey (nums S) [aj x] (0+((k:Nat):Int).toNat * 1)=nums (S.set k x):=by
 rw [Int.toNat_natCast,Nat.zero_add,Nat.mul_one]
 unfold ey
 show _=(S.set k x).map aj
 rw [List.map_set,List.set_eq_take_append_cons_drop,if_pos (by rw [List.length_map];exact h),List.length_singleton,List.append_assoc]
 rfl
def subK (a b:List Int) (k:Nat):List Int:=a.mapIdx fun i x=>if i < k then x - (b[i]?).getD 0 else x
theorem subK_len (a b:List Int) (k:Nat):(subK a b k).length=a.length:=by unfold subK;simp
theorem subK_zero (a b:List Int):subK a b 0=a:=by
 unfold subK
 apply List.ext_getElem?
 intro i
 rw [List.getElem?_mapIdx]
 cases a[i]? with
 | none=>rfl
 | some x=>rfl
theorem subK_at {a b:List Int} {k:Nat} {x:Int} (h:a[k]?=some x):(subK a b k)[k]?=some x:=by
 unfold subK
 rw [List.getElem?_mapIdx,h]
 simp
theorem subK_succ {a b:List Int} {k:Nat} {x y:Int} (h:a[k]?=some x) (hb:b[k]?=some y):(subK a b k).set k (x - y)=subK a b (k+1):=by
 apply List.ext_getElem?
 intro i
 have hk:k < a.length:=(List.getElem?_eq_some_iff.1 h).1
 by_cases hi:k=i
 ·subst hi
  rw [List.getElem?_set_self (by rw [subK_len];exact hk)]
  unfold subK
  rw [List.getElem?_mapIdx,h]
  simp [hb]
 ·rw [List.getElem?_set_ne hi]
  unfold subK
  rw [List.getElem?_mapIdx,List.getElem?_mapIdx]
  cases a[i]? with
  | none=>rfl
  | some z =>
   simp only [Option.map_some]
   congr 1
   by_cases h1:i < k
   ·rw [if_pos h1,if_pos (by omega)]
   ·rw [if_neg h1,if_neg (by omega)]
def payE (c:ay) (l:List Ev) (F G:Int):Int:=if C7 c l F ≠ 0 then C7 c l F else if C7 c l G ≠ 0 then C7 c l G else if G < F then 2 else 0
def payV (c:ay) (l:List Ev) (F G:Int):List Int:=if payE c l F G=0 then subK (duesV c (Cp c l G)) (duesV c (Cp c l F)) c.aO.length else []
theorem atV_dok {c:ay} {l:List Ev} (h:Vd c l) {D:Int} (hD:0≤D∧D≤40000):(Cp c l D).length=c.aO.length∧∀ a ∈ Cp c l D,DOk a:=by
 rw [HC h hD.1]
 refine ⟨by simp,fun a ha=>?_⟩
 obtain ⟨i,_,rfl⟩:=List.mem_map.1 ha
 have hb:=(days_b (c:=c) (i:=i) h.mono hD.1)
 exact ⟨hb.1,Int.le_trans hb.2 hD.2⟩
theorem onE_vd {c:ay} {l:List Ev} (hd:∀ x ∈ l,x.day≤later) {D:Int} (h:C7 c l D=0):(wC c l).2=0∧Vd c l∧0≤D∧D≤40000:=by
 unfold C7 at h
 split at h
 ·rename_i h1;exact absurd h h1
 ·rename_i h1
  have h1:=Decidable.not_not.1 h1
  split at h
  ·cases h
  ·rename_i h2
   exact ⟨h1,Iw hd h1,cI (Bool.not_eq_true _ ▸ h2)⟩
theorem due_nn {c:ay} (hg:Good c) {A:List Acc} (hok:∀ a ∈ A,DOk a):∀ x ∈ duesV c A,0≤x∧x≤40000000:=by
 intro x hx
 obtain ⟨i,hi⟩:=List.mem_iff_getElem?.1 hx
 unfold duesV at hi
 rw [List.getElem?_mapIdx] at hi
 obtain ⟨a,ha,rfl⟩:=Option.map_eq_some_iff.1 hi
 have ha:=hok _ (List.mem_of_getElem? ha)
 unfold dueA
 cases hr:sJ c i with
 | none =>
  show 0≤(0:Int) / 1000∧(0:Int) / 1000≤40000000
  decide
 | some r =>
  have hrm:r ∈ c.az:=by
   unfold sJ at hr
   cases hm:c.aO[i]? with
   | none=>rw [hm] at hr;cases hr
   | some m =>
    rw [hm] at hr
    have hr:c.az[m.lR.toNat]?=some r:=hr
    exact List.mem_of_getElem? hr
  have hb:=hg.lR r hrm
  have:=due_b hb.1 hb.2.1 hb.2.2.1 ha.nn ha.sum
  dsimp only
  omega
theorem pay_err (one:Bool) (c:ay) (h:c.Ok) (l:List Ev) (f:Bool) (hl:l.length≤maxLen) (hm:∀ x ∈ l,x.day≤later) (F G:Int) (he:payE c l F G ≠ 0):Pu one 27 [.ag (aX c),.sl (l.map cO) f,aj F,aj G] (.tp [.sl [] false,aj (payE c l F G)]):=by
 unfold payE at he ⊢
 by_cases h1:C7 c l F=0
 ·rw [if_neg (fun h=>h h1)] at he ⊢
  have o1:=Ji one c h l f hl hm F h1
  have q0:(!decide ((0:Int)=0))=false:=rfl
  by_cases h2:C7 c l G=0
  ·rw [if_neg (fun h=>h h2)] at he ⊢
   have o2:=Ji one c h l f hl hm G h2
   by_cases h3:G < F
   ·have q1:decide (G < F)=true:=decide_eq_true h3
    rw [if_pos h3]
    refine af.body (fn:=Tryz.f27) rfl rfl rfl rfl ?_
    refine aa (mu:=fun _=>false) ?_
    repeat' (first |refine u1 ?_ |((with_reducible show ah _ _ _ _ _ _ _ _);refine af.call o1 rfl rfl ?_) |((with_reducible show ah _ _ _ _ _ _ _ _);refine af.call o2 rfl rfl ?_) |refine u2 ?_ |fail)
    exact ⟨[_,_],⟨Fz.nil,Fz.deep rfl,trivial⟩,rfl⟩
   ·rw [if_neg h3] at he
    exact absurd rfl he
  ·rw [if_pos h2]
   have o2:=Il one c h l f hl G h2
   have q1:(!decide (C7 c l G=0))=true:=by rw [decide_eq_false h2];rfl
   generalize C7 c l G=e at *
   refine af.body (fn:=Tryz.f27) rfl rfl rfl rfl ?_
   refine aa (mu:=fun _=>false) ?_
   repeat' (first |refine u1 ?_ |((with_reducible show ah _ _ _ _ _ _ _ _);refine af.call o1 rfl rfl ?_) |((with_reducible show ah _ _ _ _ _ _ _ _);refine af.call o2 rfl rfl ?_) |refine u2 ?_ |fail)
   exact ⟨[_,_],⟨Fz.nil,Fz.deep rfl,trivial⟩,rfl⟩
 ·rw [if_pos h1]
  have o1:=Il one c h l f hl F h1
  have q1:(!decide (C7 c l F=0))=true:=by rw [decide_eq_false h1];rfl
  generalize C7 c l F=e at *
  refine af.body (fn:=Tryz.f27) rfl rfl rfl rfl ?_
  refine aa (mu:=fun _=>false) ?_
  repeat' (first |refine u1 ?_ |((with_reducible show ah _ _ _ _ _ _ _ _);refine af.call o1 rfl rfl ?_) |refine u2 ?_ |fail)
  exact ⟨[_,_],⟨Fz.nil,Fz.deep rfl,trivial⟩,rfl⟩
theorem pay_ok (one:Bool) (c:ay) (h:c.Ok) (l:List Ev) (f:Bool) (hl:l.length≤maxLen) (hm:∀ x ∈ l,x.day≤later) (F G:Int) (he:payE c l F G=0):Pu one 27 [.ag (aX c),.sl (l.map cO) f,aj F,aj G] (.tp [.sl (ints (payV c l F G)) false,aj 0]):=by
 unfold payV
 rw [if_pos he]
 unfold payE at he
 have h1:C7 c l F=0:=by
  by_cases h1:C7 c l F=0
  ·exact h1
  ·rw [if_pos h1] at he;exact absurd he h1
 rw [if_neg (fun h=>h h1)] at he
 have h2:C7 c l G=0:=by
  by_cases h2:C7 c l G=0
  ·exact h2
  ·rw [if_pos h2] at he;exact absurd he h2
 rw [if_neg (fun h=>h h2)] at he
 have h3:¬ G < F:=by
  intro h3
  rw [if_pos h3] at he
  cases he
 have o1:=Ji one c h l f hl hm F h1
 have o2:=Ji one c h l f hl hm G h2
 have q0:(!decide ((0:Int)=0))=false:=rfl
 have q1:decide (G < F)=false:=decide_eq_false h3
 obtain ⟨_,hv,hF⟩:=onE_vd hm h1
 obtain ⟨_,_,hG⟩:=onE_vd hm h2
 obtain ⟨hla,hoa⟩:=atV_dok hv hF
 obtain ⟨hlb,hob⟩:=atV_dok hv hG
 have hm5:=hv.good.aO
 have p1:=dues_c one hv.good F _ hla hoa
 have p2:=dues_cv one hv.good G _ hlb hob
 have n1:=due_nn hv.good hoa
 have n2:=due_nn hv.good hob
 have l1:=(duesV_len c (Cp c l F)).trans hla
 have l2:=(duesV_len c (Cp c l G)).trans hlb
 unfold JX at o1 o2
 generalize Cp c l F=A at *
 generalize Cp c l G=B at *
 generalize duesV c A=b at *
 generalize duesV c B=a at *
 refine af.body (fn:=Tryz.f27) rfl rfl rfl rfl ?_
 refine RM.qk (mu:=fun _=>false) ?_
 repeat' (first |refine u1 ?_ |refine u2 ?_ |fail)
 refine RM.qk (mu:=fun _=>false) ?_
 repeat' (first |refine u1 ?_ |((with_reducible show ah _ _ _ _ _ _ _ _);refine af.call o1 rfl rfl ?_) |refine u2 ?_ |fail)
 refine RM.qk (mu:=fun _=>false) ?_
 repeat' (first |refine u1 ?_ |refine u2 ?_ |fail)
 refine RM.qk (mu:=fun _=>false) ?_
 repeat' (first |refine u1 ?_ |((with_reducible show ah _ _ _ _ _ _ _ _);refine af.call o2 rfl rfl ?_) |refine u2 ?_ |fail)
 refine RM.qk (mu:=fun _=>false) ?_
 repeat' (first |refine u1 ?_ |refine u2 ?_ |fail)
 refine RM.qk (mu:=fun _=>false) ?_
 repeat' (first |refine u1 ?_ |refine u2 ?_ |fail)
 refine p2.mono ?_
 rintro w hp' amb' ⟨rfl,v,cc,rfl,rfl⟩
 repeat' (first |refine u1 ?_ |refine u2 ?_ |fail)
 refine RM.qk (mu:=fun _=>false) ?_
 repeat' (first |refine u1 ?_ |((with_reducible show ah _ _ _ _ _ _ _ _);refine af.call p1 rfl rfl ?_) |refine u2 ?_ |fail)
 have hs0:=subK_zero a b
 refine aL.cr (ai.to (l:=[(13,.dY 0 ((0,v):Nat × Nat).2 0 a.length cc),(44,.sl (ints b) false),(45,aj ((ints b).length:Int)),(46,aj (((0,v):Nat × Nat).1:Nat))]) (hp:=[.cells (nums (subK a b ((0,v):Nat × Nat).1)) 1 ((0,v):Nat × Nat).2]) 1 (by show [AB.cells (nums a) 1 v]=[AB.cells (nums (subK a b 0)) 1 v];rw [hs0]) ⟨rfl,rfl,rfl,rfl,trivial⟩ (Nat.zero_le _) rfl (nums_inb1 _ _)) ?_
 refine aL.loop (fun k:Nat=>k≤a.length) (fun k=>⟨cz [(13,.dY 0 ((k,v):Nat × Nat).2 0 a.length cc),(44,.sl (ints b) false),(45,aj ((ints b).length:Int)),(46,aj (((k,v):Nat × Nat).1:Nat))],[.cells (nums (subK a b ((k,v):Nat × Nat).1)) 1 ((k,v):Nat × Nat).2],bF.none,false,0⟩) (fun k=>a.length - k) ?_ 0 (Nat.zero_le _)
 intro k hk
 by_cases hlt:k < a.length
 ·have dl:decide ((k:Int) < ((ints b).length:Int))=true:=decide_eq_true (by rw [List.length_map];omega)
  have hbl:k < b.length:=by omega
  have hax:a[k]?=some a[k]:=List.getElem?_eq_getElem hlt
  have hby:b[k]?=some b[k]:=List.getElem?_eq_getElem hbl
  have nx:=n2 _ (List.getElem_mem hlt)
  have ny:=n1 _ (List.getElem_mem hbl)
  generalize a[k]=x at *
  generalize b[k]=y at *
  have hbt:(ints b)[((k:Nat):Int).toNat]?=some [aj y]:=by rw [Int.toNat_natCast,List.getElem?_map,hby];rfl
  have hbi:((k:Nat):Int) < ((ints b).length:Int):=by rw [List.length_map];omega
  have hg1:=nums_get (subK_at (b:=b) hax)
  have hln:Nat.ble (0+((k:Nat):Int).toNat * 1+1) (nums (subK a b k)).length=true:=Nat.ble_eq_true_of_le (by rw [List.length_map,subK_len];omega)
  have hst:=nums_set (S:=subK a b k) (k:=k) (by rw [subK_len];exact hlt) (x - y)
  rw [subK_succ hax hby] at hst
  refine aa (mu:=fun _=>false) ?_
  repeat' (first |((with_reducible show RM.wpOp _ _ (.load _ _) _ _ _);refine RM.JT rfl rfl rfl hg1 ?_) |((with_reducible show dZ _ _ _ _ _ _);refine RM.vP rfl rfl rfl rfl rfl rfl hln ?_) |refine u1 ?_ |(refine ⟨[aj y],⟨by omega,hbt⟩,rfl,?_⟩) |refine u2 ?_ |fail)
  exact ⟨k+1,hlt,(by dsimp only;omega),ai.to (hp:=[.cells (nums (subK a b ((k+1,v):Nat × Nat).1)) 1 ((k+1,v):Nat × Nat).2]) 1 (by show _=[AB.cells (nums (subK a b (k+1))) 1 v];rw [←hst];rfl) ⟨rfl,rfl,rfl,cZ (by simp),trivial⟩ (Nat.zero_le _) rfl (nums_inb1 _ _)⟩
 ·have dl:decide ((k:Int) < ((ints b).length:Int))=false:=decide_eq_false (by rw [List.length_map];omega)
  have hkn:k=c.aO.length:=by omega
  subst hkn
  refine aa (mu:=fun _=>false) ?_
  repeat' (first |refine u1 ?_ |refine u2 ?_ |fail)
  refine aa (mu:=fun _=>false) ?_
  repeat' (first |refine u1 ?_ |refine u2 ?_ |fail)
  exact ⟨[_,_],⟨nums_row rfl (subK_len a b _),Fz.deep rfl,trivial⟩,rfl⟩
theorem pay_c (one:Bool) (c:ay) (h:c.Ok) (l:List Ev) (f:Bool) (hl:l.length≤maxLen) (hm:∀ x ∈ l,x.day≤later) (F G:Int):Pu one 27 [.ag (aX c),.sl (l.map cO) f,aj F,aj G] (.tp [.sl (ints (payV c l F G)) false,aj (payE c l F G)]):=by
 by_cases he:payE c l F G=0
 ·have:=pay_ok one c h l f hl hm F G he
  rw [he]
  exact this
 ·have:=pay_err one c h l f hl hm F G he
  unfold payV
  rw [if_neg he]
  exact this
end Go.Proofs.YtlpmfgmldmdggaaGreat
open Go Go.RM
namespace Go.Proofs.YtlpmfgmldmdggaaGreat
set_option maxRecDepth 100000
set_option maxHeartbeats 4000000
theorem dated_c (one:Bool) (c:ay) (h:c.Ok) (l:List Ev) (f:Bool) (hl:l.length≤maxLen) (hd:∀ x ∈ l,x.day≤later) (D:Int):Pu one 64 [.ag (aX c),.sl (l.map cO) f,aj D] (aj (C7 c l D)):=by
 have o1:=Bq one c h l f hl hd
 have o2:=i6 one D 0 40000
 unfold C7
 rw [bp]
 by_cases h1:(wC c l).2=0
 ·rw [if_neg (fun h=>h h1)]
  rw [h1] at o1
  generalize (wC c l).1=a at *
  have q0:decide ((0:Int)=0)=true:=rfl
  cases e:kS D 0 40000 with
  | true =>
   rw [e] at o2
   rw [if_neg (by simp)]
   refine af.body (fn:=Tryz.f64) rfl rfl rfl rfl ?_
   refine aa (mu:=fun _=>false) ?_
   repeat' (first |refine u1 ?_ |((with_reducible show ah _ _ _ _ _ _ _ _);refine af.call o1 rfl rfl ?_) |((with_reducible show ah _ _ _ _ _ _ _ _);refine af.call o2 rfl rfl ?_) |refine u2 ?_ |fail)
   exact ⟨[_],⟨Fz.deep rfl,trivial⟩,rfl⟩
  | false =>
   rw [e] at o2
   rw [if_pos (by simp)]
   refine af.body (fn:=Tryz.f64) rfl rfl rfl rfl ?_
   refine aa (mu:=fun _=>false) ?_
   repeat' (first |refine u1 ?_ |((with_reducible show ah _ _ _ _ _ _ _ _);refine af.call o1 rfl rfl ?_) |((with_reducible show ah _ _ _ _ _ _ _ _);refine af.call o2 rfl rfl ?_) |refine u2 ?_ |fail)
   exact ⟨[_],⟨Fz.deep rfl,trivial⟩,rfl⟩
 ·rw [if_pos h1]
  have q0:=decide_eq_false h1
  generalize (wC c l).1=a at *
  generalize (wC c l).2=e at *
  refine af.body (fn:=Tryz.f64) rfl rfl rfl rfl ?_
  refine aa (mu:=fun _=>false) ?_
  repeat' (first |refine u1 ?_ |((with_reducible show ah _ _ _ _ _ _ _ _);refine af.call o1 rfl rfl ?_) |refine u2 ?_ |fail)
  exact ⟨[_],⟨Fz.deep rfl,trivial⟩,rfl⟩
theorem due_c (one:Bool) (c:ay) (l:List Ev) (f:Bool) (hv:Vd c l) (i:Nat) (hi:i < c.aO.length) (D:Int) (hD:0≤D∧D≤40000):Pu one 74 [.ag (aX c),.sl (l.map cO) f,aj (i:Int),aj D] (aj (dueA c i (sP c l i D))):=by
 have em:((c.aO.map bG).length:Int)=c.aO.length:=by simp
 have eg:((c.az.map bu).length:Int)=c.az.length:=by simp
 have o1:=D4 one c hv.good l f hv.len hv.mono i hi D hD.1 hD.2
 have hdb:=days_b (c:=c) (i:=i) hv.mono hD.1
 have h40:(tG c l i D).1+(tG c l i D).2.1+(tG c l i D).2.2≤40000:=Int.le_trans hdb.2 hD.2
 obtain ⟨mn,rk,w,ms,ra,rb,rc,rd,e,hmt,hrt,hrk,hb1,hb2,hb3,hra⟩:=rank_of hv.good (k:=i) hi
 have hq:=due_b hb1 hb2 hb3 hdb.1 h40
 have hdu:dueA c i (sP c l i D)=rb * ((tG c l i D).1 * 1000+(tG c l i D).2.1 * rc+(tG c l i D).2.2 * rd):=by
  unfold dueA
  rw [hra]
  rfl
 rw [hdu]
 have o1:Pu one 65 [.ag (aX c),.sl (l.map cO) f,aj (i:Int),aj D] (.ag [aj (sP c l i D).place,aj (sP c l i D).gI,aj (tG c l i D).1,aj (tG c l i D).2.1,aj (tG c l i D).2.2]):=o1
 generalize (sP c l i D).place=p at *
 generalize (sP c l i D).gI=o at *
 generalize (tG c l i D).1=d0 at *
 generalize (tG c l i D).2.1=d1 at *
 generalize (tG c l i D).2.2=d2 at *
 obtain ⟨q1,q2,q3,q4⟩:=hq
 clear hdu
 refine af.body (fn:=Tryz.f74) rfl rfl rfl rfl ?_
 refine aa (mu:=fun _=>false) ?_
 repeat' (first |((with_reducible show ah _ _ _ _ _ _ _ _);refine af.call o1 rfl rfl ?_) |refine u1 ?_ |(refine ⟨[ST mn,aj rk,aj w,BB ms],⟨by omega,hmt⟩,rfl,?_⟩) |(refine ⟨[ST ra,aj rb,aj rc,aj rd,aj e],⟨by omega,hrt⟩,rfl,?_⟩) |refine u2 ?_ |fail)
 exact ⟨[_],⟨Fz.deep rfl,trivial⟩,rfl⟩
end Go.Proofs.YtlpmfgmldmdggaaGreat
