/-
  Contracts of the program's functions and of the document's. Lemmas alone; their conditions stand in them.
-/
import Derived.Test.YtlpmfgmldmdggaaGreatK10
import Derived.Test.YtlpmfgmldmdggaaGreatK7
import Derived.Test.YtlpmfgmldmdggaaGreatK1
import Derived.Test.YtlpmfgmldmdggaaGreatX1
import Derived.Test.YtlpmfgmldmdggaaGreatA2
import Derived.Test.YtlpmfgmldmdggaaGreatA3
import Derived.Test.YtlpmfgmldmdggaaGreatK11
import Derived.Test.YtlpmfgmldmdggaaGreatK12
import Derived.Test.YtlpmfgmldmdggaaGreatK13
open Go Go.RM
namespace Go.Proofs.YtlpmfgmldmdggaaGreat
set_option maxRecDepth 100000
theorem vd_clV {c:ay} {l:List Ev} (h:Vd c l) (hc:(nS c).2.2=0):va c l=(0,0):=by
 rw [He (fun x hx=>Int.le_trans (h.mono.day x hx).2 (by decide)),if_neg (by rw [hc];simp),if_neg (by have:=h.len;omega),h.run]
theorem vd_on {c:ay} {l:List Ev} (h:(va c l).2=0) {D:Int} (hD:0≤D∧D≤40000):qO c l D=0:=by
 unfold qO
 rw [if_neg (by rw [h];simp),bD,cM.2 hD]
 rfl
end Go.Proofs.YtlpmfgmldmdggaaGreat
open Go Go.RM
namespace Go.Proofs.YtlpmfgmldmdggaaGreat
set_option maxRecDepth 100000
set_option maxHeartbeats 4000000
section
variable {own : Bool} {fr : Nat → AV} {hp : List AB} {K : AV → List AB → Prop} {x : Operand} {n : Nat}
theorem cw16 (hx:aS fr x=.fl (.int .u16 ((n:Nat):Int))) (h:n≤65535) (k:K (ah (n:Nat)) hp):RM.wpOp TT own (.convert 63 3 x) fr hp K:=by
 show F9 TT 63 3 (aS fr x) hp K
 rw [hx]
 have:cU (au TT.P (convert 63 3 (.int .u16 ((n:Nat):Int))))=some (.int .i64 (IntKind.i64.wrap ((n:Nat):Int)),.none):=rfl
 rw [IntWalk.i64_in ((n:Nat):Int) (by omega)] at this
 exact ⟨_,rfl,_,this,rfl,k⟩
end
theorem good_c (one:Bool) (c:ay) (h:c.Ok) (l:List Ev) (f:Bool) (hl:l.length≤maxLen) (hd:∀ x ∈ l,x.day≤later):Pu one 40 [.ag (aF c),.sl (l.map cZ) f] (BB (decide ((va c l).2=0))):=by
 have o1:=uC one c h l f hl hd
 generalize (va c l).1=a at *
 generalize (va c l).2=e at *
 refine af.body (fn:=Tryz.f40) rfl rfl rfl rfl ?_
 refine aa (mu:=fun _=>false) ?_
 repeat' (first |refine u1 ?_ |((with_reducible show ai _ _ _ _ _ _ _ _);refine af.call o1 rfl rfl ?_) |refine u2 ?_ |fail)
 exact ⟨[_],⟨Fz.deep rfl,trivial⟩,rfl⟩
end Go.Proofs.YtlpmfgmldmdggaaGreat
open Go Go.RM
namespace Go.Proofs.YtlpmfgmldmdggaaGreat
set_option maxRecDepth 100000
abbrev sh16:Sh:=.int .u16
theorem tvK {k:IntKind} {l:List AV} (h:TV (.int k) l):∃ n,(Lit.int k n).wf=true∧l=[.fl (.int k n)]:=by
 cases h with
 | int h=>exact ⟨_,h,rfl⟩
theorem tvA {n:Nat} {s:Sh} {l:List AV} (h:TV (.arr n s) l):∃ els:List (List AV),els.length=n∧(∀ el ∈ els,TV s el)∧l=els.flatten:=by
 cases h with
 | arr h k=>exact ⟨_,h,k,rfl⟩
theorem tv16 {l:List AV} (h:TV sh16 l):∃ n:Nat,n≤65535∧l=[.fl (.int .u16 ((n:Nat):Int))]:=by
 obtain ⟨n,hn,rfl⟩:=tvK h
 have h1:IntKind.u16.min=0:=rfl
 have h2:IntKind.u16.max=65535:=rfl
 simp [Lit.wf] at hn
 obtain ⟨m,rfl⟩:∃ m:Nat,n=(m:Int):=⟨n.toNat,by omega⟩
 exact ⟨m,by omega,rfl⟩
end Go.Proofs.YtlpmfgmldmdggaaGreat
open Go Go.RM
namespace Go.Proofs.YtlpmfgmldmdggaaGreat
set_option maxRecDepth 100000
theorem addD_add (p x y:Int) (d:D3):jk p y (jk p x d)=jk p (x+y) d:=by
 unfold jk
 split
 ·dsimp only;rw [Int.add_assoc]
 ·split <;> (dsimp only;rw [Int.add_assoc])
end Go.Proofs.YtlpmfgmldmdggaaGreat
open Go Go.RM
namespace Go.RM
section
variable {T : bh} {tab : List XE} {one : Bool}
theorem af.ofC1 {F x:AV} {args:List AV} (hv:x.deep=true) (h:ai T tab one F args [] bw.none fun w hp _=>Fz hp w x):af T tab one F args x:=by
 refine ⟨hv,fun X H u us hwf hX d1 d2=>?_⟩
 let E:Env:=⟨fun _ _=>none,fun _=>False,fun _=>False,X⟩
 have hno:∀ k,¬ Own E.ρ [] k:=fun k ⟨j,b,ax,h,_⟩=>by cases h
 have hO:∀ k,E.O [] k→X k:=fun k h=>h.elim (fun h=>(hno k h).elim) id
 have hrel:aK E H.n [] bw.none H :=
  {wf:=hwf,gC:=fun j b ax h _=>(by cases h),inj:=fun j j' ax ver' k h=>(by cases h),rn:=fun j v k h=>(by cases h),fresh:=fun j b ax v h=>(by cases h),new:=fun _ _ _=>rfl,
   sup:=fun k h=>(hno k h).elim,iL:=fun k h=>(hno k h).elim,dx:=fun k h=>h.elim,ds:=fun k h=>h.elim,sn:=fun k h=>h.elim,xn:=hX,
   qp:=fun k h=>h.elim (fun h=>(hno k h).elim) (fun h=>h.elim),bn:=Nat.le_refl _,av:=trivial}
 have up:∀ {a:AV} {u:Value},DR H.get X a u→AR E.ρ H.get (E.O []) a u:=fun h=>.d (h.mono fun k b hk ho=>⟨hk,fun h=>ho (hO k h)⟩)
 obtain ⟨g1,hg1,m1,L1,r1,r2,r3⟩:=h E H.n H u us hrel (up d1) ⟨d2.1,fun i a u x y=>up (d2.2 i a u x y)⟩
 refine ⟨g1,hg1,m1,L1,r1,r2,fun r hr=>?_⟩
 obtain ⟨w1,H1,rfl,E1,a1,hq,amb1,hz,k1,k2,k3⟩:=r3 r hr
 exact ⟨_,H1,rfl,k3.n,k1.wf,fun k hk=>k3.same k hk (hno k) (fun h=>h),k3.lo,hz.dr k1 (fun k hk=>k3.xk k hk) k2⟩
end
end Go.RM
namespace Go.Proofs.YtlpmfgmldmdggaaGreat
set_option maxRecDepth 100000
set_option maxHeartbeats 4000000
def dueA (c:ay) (i:Nat) (a:Acc):Int:=match tC c i with
 | some r=>r.Gt * (a.d0 * 1000+a.d1 * r.leave+a.d2 * r.Gu)
 | none=>0
def duesV (c:ay) (A:List Acc):List Int:=A.mapIdx fun i a=>dueA c i a / 1000
theorem duesV_len (c:ay) (A:List Acc):(duesV c A).length=A.length:=by unfold duesV;simp
theorem duesV_take {c:ay} {A:List Acc} {k:Nat} (h:k < A.length):(duesV c A).take (k+1)=(duesV c A).take k++[dueA c k A[k] / 1000]:=by
 rw [List.take_add_one,List.getElem?_eq_getElem (by rw [duesV_len];exact h)]
 unfold duesV
 rw [List.getElem_mapIdx]
 rfl
theorem rank_of {c:ay} (hg:Good c) {k:Nat} (hlt:k < c.aG.length):∃ (mn:ByteArray) (rk w:Int) (ms:Bool) (ra:ByteArray) (rb rc rd e:Int),
  (c.aG.map bp)[((k:Nat):Int).toNat]?=some [ST mn,ah rk,ah w,BB ms]∧(c.aA.map bA)[rk.toNat]?=some [ST ra,ah rb,ah rc,ah rd,ah e] ∧
  (0≤rk∧rk < c.aA.length)∧(0≤rb∧rb≤1000)∧(0≤rc∧rc≤1000)∧(0≤rd∧rd≤1000)∧tC c k=some ⟨ra,rb,rc,rd,e⟩:=by
 have hmt:(c.aG.map bp)[((k:Nat):Int).toNat]?=some (bp c.aG[k]):=bG hlt
 have hman:=(hg.qT _ (List.getElem_mem hlt)).1
 have hrl:c.aG[k].iN.toNat < c.aA.length:=by omega
 have hrt:(c.aA.map bA)[c.aG[k].iN.toNat]?=some (bA c.aA[c.aG[k].iN.toNat]):=by
  rw [List.getElem?_map,List.getElem?_eq_getElem hrl]
  rfl
 have hb:=hg.iN _ (List.getElem_mem hrl)
 refine ⟨c.aG[k].name,c.aG[k].iN,c.aG[k].fm,c.aG[k].Dc,c.aA[c.aG[k].iN.toNat].name,c.aA[c.aG[k].iN.toNat].Gt,c.aA[c.aG[k].iN.toNat].leave,c.aA[c.aG[k].iN.toNat].Gu,c.aA[c.aG[k].iN.toNat].nx,hmt,hrt,hman,hb.1,hb.2.1,hb.2.2.1,?_⟩
 unfold tC
 rw [List.getElem?_eq_getElem hlt]
 show c.aA[c.aG[k].iN.toNat]?=_
 rw [List.getElem?_eq_getElem hrl]
theorem due_b {p l i a b d:Int} (hp:0≤p∧p≤1000) (hl:0≤l∧l≤1000) (hi:0≤i∧i≤1000) (h:0≤a∧0≤b∧0≤d) (hs:a+b+d≤40000) :
  (0≤b * l∧b * l≤40000000)∧(0≤d * i∧d * i≤40000000)∧(0≤a * 1000+b * l+d * i∧a * 1000+b * l+d * i≤1000 * (a+b+d))∧0≤p * (a * 1000+b * l+d * i)∧p * (a * 1000+b * l+d * i)≤40000000000:=by
 have h1:=B3 h.2.1 hl
 have h2:=B3 h.2.2 hi
 have h3:=B3 (dd:=a * 1000+b * l+d * i) (by omega) hp
 rw [Int.mul_comm _ p] at h3
 generalize p * (a * 1000+b * l+d * i)=x at *
 generalize b * l=y at *
 generalize d * i=z at *
 omega
def DuQ (l:List Int) (w:AV) (hp:List AB) (av:bw):Prop:=av=bw.none∧∃ v cc,w=.cS 0 v 0 l.length cc∧hp=[.cells (gh l) 1 v]
theorem dues_cv (one:Bool) {c:ay} (hg:Good c) (D:Int) (A:List Acc) (hA:A.length=c.aG.length) (hok:∀ a ∈ A,Me a):ai TT TB one (.fn 73 [] []) [.pt (Je c D A) 0] [] bw.none (DuQ (duesV c A)):=by
 have ea:((A.map bu).length:Int)=c.aG.length:=by simp [hA]
 have hm5:=hg.aG
 have hdl:=duesV_len c A
 refine ai.body (fn:=Tryz.f73) rfl rfl rfl ?_
 refine aa (mu:=fun t=>Nat.beq t 56) ?_
 repeat' (first |refine u1 ?_ |refine u2 ?_ |fail)
 refine aC.bx (aj.trans (aj.tu 1) (aj.KK (l:=[(0,.pt (Je c D A) 0),(2,.cS 0 ((0,0,0):Nat × Nat × Nat).2.1 0 ((0,0,0):Nat × Nat × Nat).1 ((0,0,0):Nat × Nat × Nat).2.2),(9,.sl (A.map bu) false),(10,ah ((A.map bu).length:Int)),(11,ah (((0,0,0):Nat × Nat × Nat).1:Nat))]) (hp:=[.cells (gh ((duesV c A).take ((0,0,0):Nat × Nat × Nat).1)) 1 ((0,0,0):Nat × Nat × Nat).2.1]) 1 rfl ⟨eW.refl _,eW.tq,eW.refl _,eW.refl _,eW.refl _,trivial⟩ (Nat.zero_le _) rfl (ey _ _))) ?_
 refine aC.loop (fun x:Nat × Nat × Nat=>x.1≤A.length∧(x.2.2=x.1∨x.2.2=x.1+1)) (fun x=>⟨bM [(0,.pt (Je c D A) 0),(2,.cS 0 x.2.1 0 x.1 x.2.2),(9,.sl (A.map bu) false),(10,ah ((A.map bu).length:Int)),(11,ah (x.1:Nat))],[.cells (gh ((duesV c A).take x.1)) 1 x.2.1],bw.none,false,0⟩) (fun x=>A.length - x.1) ?_ (0,0,0) ⟨Nat.zero_le _,.inl rfl⟩
 rintro ⟨k,v,cc⟩ ⟨hk,hcap⟩
 dsimp only at hk hcap
 show aC _ _ _ _ ⟨bM [(0,.pt (Je c D A) 0),(2,.cS 0 ((k,v,cc):Nat × Nat × Nat).2.1 0 ((k,v,cc):Nat × Nat × Nat).1 ((k,v,cc):Nat × Nat × Nat).2.2),(9,.sl (A.map bu) false),(10,ah ((A.map bu).length:Int)),(11,ah (((k,v,cc):Nat × Nat × Nat).1:Nat))],[.cells (gh ((duesV c A).take ((k,v,cc):Nat × Nat × Nat).1)) 1 ((k,v,cc):Nat × Nat × Nat).2.1],bw.none,false,0⟩ _
 dsimp only
 by_cases hlt:k < A.length
 ·have dl:decide ((k:Int) < ((A.map bu).length:Int))=true:=decide_eq_true (by omega)
  have hat:(A.map bu)[((k:Nat):Int).toNat]?=some (bu A[k]):=bG hlt
  have hao:=hok _ (List.getElem_mem hlt)
  obtain ⟨mn,rk,w,ms,ra,rb,rc,rd,e,hmt,hrt,hrk,hb1,hb2,hb3,hra⟩:=rank_of hg (k:=k) (by omega)
  have hst:=duesV_take (c:=c) hlt
  have hgl:(gh ((duesV c A).take k)).length=k * 1:=by rw [List.length_map,List.length_take,hdl];omega
  generalize A[k]=a at *
  obtain ⟨p,o,d0,d1,d2⟩:=a
  obtain ⟨hnn,hsum⟩:=hao
  have hat:(A.map bu)[((k:Nat):Int).toNat]?=some [ah p,ah o,ah d0,ah d1,ah d2]:=hat
  dsimp only at hnn hsum
  have hdb:=due_b hb1 hb2 hb3 hnn hsum
  have hst:(duesV c A).take (k+1)=(duesV c A).take k++[rb * (d0 * 1000+d1 * rc+d2 * rd) / 1000]:=by
   rw [hst]
   unfold dueA
   rw [hra]
  obtain ⟨q1,q2,q3,q4⟩:=hdb
  refine aa (mu:=fun t=>Nat.beq t 56) ?_
  repeat' (first |((with_reducible show RM.wpOp _ _ (.call _) _ _ _);refine RM.uS (cs:=gh ((duesV c A).take k)) (n:=k) (els:=[[ah (rb * (d0 * 1000+d1 * rc+d2 * rd) / 1000)]]) rfl rfl rfl rfl rfl (fun el hel=>by rw [List.mem_singleton.1 hel];rfl) rfl rfl hgl hcap (by simp only [List.length_singleton];omega) (fun v' c' hc'=>?_)) |refine u1 ?_ |(refine ⟨[ah p,ah o,ah d0,ah d1,ah d2],⟨by omega,hat⟩,rfl,?_⟩) |(refine ⟨[ST mn,ah rk,ah w,BB ms],⟨by omega,hmt⟩,rfl,?_⟩) |(refine ⟨[ST ra,ah rb,ah rc,ah rd,ah e],⟨by omega,hrt⟩,rfl,?_⟩) |refine u2 ?_ |fail)
  exact ⟨(k+1,v',c'),⟨hlt,hc'⟩,(by dsimp only;omega),aj.to (hp:=[.cells (gh ((duesV c A).take ((k+1,v',c'):Nat × Nat × Nat).1)) 1 ((k+1,v',c'):Nat × Nat × Nat).2.1]) 1 (by show _=[AB.cells (gh ((duesV c A).take (k+1))) 1 v'];rw [hst];unfold gh;rw [List.map_append];rfl) ⟨rfl,rfl,rfl,rfl,cK (by simp),trivial⟩ (Nat.zero_le _) rfl (ey _ _)⟩
 ·have dl:decide ((k:Int) < ((A.map bu).length:Int))=false:=decide_eq_false (by omega)
  have e:(duesV c A).take k=duesV c A:=List.take_of_length_le (by omega)
  have hkl:k=(duesV c A).length:=by omega
  rw [e]
  refine aa (mu:=fun t=>Nat.beq t 56) ?_
  repeat' (first |refine u1 ?_ |refine u2 ?_ |fail)
  exact ⟨v,cc,by rw [←hkl];rfl,rfl⟩
theorem dues_c (one:Bool) {c:ay} (hg:Good c) (D:Int) (A:List Acc) (hA:A.length=c.aG.length) (hok:∀ a ∈ A,Me a):Pu one 73 [.pt (Je c D A) 0] (.sl (ints (duesV c A)) false) :=
 af.ofC1 rfl ((dues_cv one hg D A hA hok).mono (by
  rintro w hp av ⟨rfl,v,cc,rfl,rfl⟩
  exact Hj rfl rfl))
end Go.Proofs.YtlpmfgmldmdggaaGreat
open Go Go.RM
namespace Go.Proofs.YtlpmfgmldmdggaaGreat
set_option maxRecDepth 100000
set_option maxHeartbeats 4000000
def subK (a b:List Int) (k:Nat):List Int:=a.mapIdx fun i x=>if i < k then x - (b[i]?).getD 0 else x
theorem subK_len (a b:List Int) (k:Nat):(subK a b k).length=a.length:=by unfold subK;simp
theorem subK_zero (a b:List Int):subK a b 0=a:=by
 unfold subK
 apply List.ext_getElem?
 intro i
 rw [List.getElem?_mapIdx]
 cases a[i]? with
 | none=>rfl
 | some x=>rfl
theorem subK_at {a b:List Int} {k:Nat} {x:Int} (h:a[k]?=some x):(subK a b k)[k]?=some x:=by
 unfold subK
 rw [List.getElem?_mapIdx,h]
 simp
theorem subK_succ {a b:List Int} {k:Nat} {x y:Int} (h:a[k]?=some x) (hb:b[k]?=some y):(subK a b k).set k (x - y)=subK a b (k+1):=by
 apply List.ext_getElem?
 intro i
 have hk:k < a.length:=(List.getElem?_eq_some_iff.1 h).1
 by_cases hi:k=i
 ·subst hi
  rw [List.getElem?_set_self (by rw [subK_len];exact hk)]
  unfold subK
  rw [List.getElem?_mapIdx,h]
  simp [hb]
 ·rw [List.getElem?_set_ne hi]
  unfold subK
  rw [List.getElem?_mapIdx,List.getElem?_mapIdx]
  cases a[i]? with
  | none=>rfl
  | some z =>
   simp only [Option.map_some]
   congr 1
   by_cases h1:i < k
   ·rw [if_pos h1,if_pos (by omega)]
   ·rw [if_neg h1,if_neg (by omega)]
def payE (c:ay) (l:List Ev) (F G:Int):Int:=if qO c l F ≠ 0 then qO c l F else if qO c l G ≠ 0 then qO c l G else if G < F then 2 else 0
def payV (c:ay) (l:List Ev) (F G:Int):List Int:=if payE c l F G=0 then subK (duesV c (Dk c l G)) (duesV c (Dk c l F)) c.aG.length else []
theorem due_nn {c:ay} (hg:Good c) {A:List Acc} (hok:∀ a ∈ A,Me a):∀ x ∈ duesV c A,0≤x∧x≤40000000:=by
 intro x hx
 obtain ⟨i,hi⟩:=List.mem_iff_getElem?.1 hx
 unfold duesV at hi
 rw [List.getElem?_mapIdx] at hi
 obtain ⟨a,ha,rfl⟩:=Option.map_eq_some_iff.1 hi
 have ha:=hok _ (List.mem_of_getElem? ha)
 unfold dueA
 cases hr:tC c i with
 | none =>
  show 0≤(0:Int) / 1000∧(0:Int) / 1000≤40000000
  decide
 | some r =>
  have hrm:r ∈ c.aA:=by
   unfold tC at hr
   cases hm:c.aG[i]? with
   | none=>rw [hm] at hr;cases hr
   | some m =>
    rw [hm] at hr
    have hr:c.aA[m.iN.toNat]?=some r:=hr
    exact List.mem_of_getElem? hr
  have hb:=hg.iN r hrm
  have:=due_b hb.1 hb.2.1 hb.2.2.1 ha.nn ha.sum
  dsimp only
  omega
theorem pay_err (one:Bool) (c:ay) (h:c.Ok) (l:List Ev) (f:Bool) (hl:l.length≤maxLen) (hm:∀ x ∈ l,x.day≤later) (F G:Int) (he:payE c l F G ≠ 0):Pu one 27 [.ag (aF c),.sl (l.map cZ) f,ah F,ah G] (.tp [.sl [] false,ah (payE c l F G)]):=by
 unfold payE at he ⊢
 by_cases h1:qO c l F=0
 ·rw [if_neg (fun h=>h h1)] at he ⊢
  have o1:=Jf one c h l f hl hm F h1
  have q0:(!decide ((0:Int)=0))=false:=rfl
  by_cases h2:qO c l G=0
  ·rw [if_neg (fun h=>h h2)] at he ⊢
   have o2:=Jf one c h l f hl hm G h2
   by_cases h3:G < F
   ·have q1:decide (G < F)=true:=decide_eq_true h3
    rw [if_pos h3]
    refine af.body (fn:=Tryz.f27) rfl rfl rfl rfl ?_
    refine aa (mu:=fun _=>false) ?_
    repeat' (first |refine u1 ?_ |((with_reducible show ai _ _ _ _ _ _ _ _);refine af.call o1 rfl rfl ?_) |((with_reducible show ai _ _ _ _ _ _ _ _);refine af.call o2 rfl rfl ?_) |refine u2 ?_ |fail)
    exact ⟨[_,_],⟨Fz.nil,Fz.deep rfl,trivial⟩,rfl⟩
   ·rw [if_neg h3] at he
    exact absurd rfl he
  ·rw [if_pos h2]
   have o2:=GY one c h l f hl G h2
   have q1:(!decide (qO c l G=0))=true:=by rw [decide_eq_false h2];rfl
   generalize qO c l G=e at *
   refine af.body (fn:=Tryz.f27) rfl rfl rfl rfl ?_
   refine aa (mu:=fun _=>false) ?_
   repeat' (first |refine u1 ?_ |((with_reducible show ai _ _ _ _ _ _ _ _);refine af.call o1 rfl rfl ?_) |((with_reducible show ai _ _ _ _ _ _ _ _);refine af.call o2 rfl rfl ?_) |refine u2 ?_ |fail)
   exact ⟨[_,_],⟨Fz.nil,Fz.deep rfl,trivial⟩,rfl⟩
 ·rw [if_pos h1]
  have o1:=GY one c h l f hl F h1
  have q1:(!decide (qO c l F=0))=true:=by rw [decide_eq_false h1];rfl
  generalize qO c l F=e at *
  refine af.body (fn:=Tryz.f27) rfl rfl rfl rfl ?_
  refine aa (mu:=fun _=>false) ?_
  repeat' (first |refine u1 ?_ |((with_reducible show ai _ _ _ _ _ _ _ _);refine af.call o1 rfl rfl ?_) |refine u2 ?_ |fail)
  exact ⟨[_,_],⟨Fz.nil,Fz.deep rfl,trivial⟩,rfl⟩
theorem pay_ok (one:Bool) (c:ay) (h:c.Ok) (l:List Ev) (f:Bool) (hl:l.length≤maxLen) (hm:∀ x ∈ l,x.day≤later) (F G:Int) (he:payE c l F G=0):Pu one 27 [.ag (aF c),.sl (l.map cZ) f,ah F,ah G] (.tp [.sl (ints (payV c l F G)) false,ah 0]):=by
 unfold payV
 rw [if_pos he]
 unfold payE at he
 have h1:qO c l F=0:=by
  by_cases h1:qO c l F=0
  ·exact h1
  ·rw [if_pos h1] at he;exact absurd he h1
 rw [if_neg (fun h=>h h1)] at he
 have h2:qO c l G=0:=by
  by_cases h2:qO c l G=0
  ·exact h2
  ·rw [if_pos h2] at he;exact absurd he h2
 rw [if_neg (fun h=>h h2)] at he
 have h3:¬ G < F:=by
  intro h3
  rw [if_pos h3] at he
  cases he
 have o1:=Jf one c h l f hl hm F h1
 have o2:=Jf one c h l f hl hm G h2
 have q0:(!decide ((0:Int)=0))=false:=rfl
 have q1:decide (G < F)=false:=decide_eq_false h3
 obtain ⟨_,hv,hF⟩:=xz hm h1
 obtain ⟨_,_,hG⟩:=xz hm h2
 obtain ⟨hla,hoa⟩:=vg hv hF
 obtain ⟨hlb,hob⟩:=vg hv hG
 have hm5:=hv.good.aG
 have p1:=dues_c one hv.good F _ hla hoa
 have p2:=dues_cv one hv.good G _ hlb hob
 have n1:=due_nn hv.good hoa
 have n2:=due_nn hv.good hob
 have l1:=(duesV_len c (Dk c l F)).trans hla
 have l2:=(duesV_len c (Dk c l G)).trans hlb
 unfold Lq at o1 o2
 generalize Dk c l F=A at *
 generalize Dk c l G=B at *
 generalize duesV c A=b at *
 generalize duesV c B=a at *
 refine af.body (fn:=Tryz.f27) rfl rfl rfl rfl ?_
 refine RM.qK (mu:=fun _=>false) ?_
 repeat' (first |refine u1 ?_ |refine u2 ?_ |fail)
 refine RM.qK (mu:=fun _=>false) ?_
 repeat' (first |refine u1 ?_ |((with_reducible show ai _ _ _ _ _ _ _ _);refine af.call o1 rfl rfl ?_) |refine u2 ?_ |fail)
 refine RM.qK (mu:=fun _=>false) ?_
 repeat' (first |refine u1 ?_ |refine u2 ?_ |fail)
 refine RM.qK (mu:=fun _=>false) ?_
 repeat' (first |refine u1 ?_ |((with_reducible show ai _ _ _ _ _ _ _ _);refine af.call o2 rfl rfl ?_) |refine u2 ?_ |fail)
 refine RM.qK (mu:=fun _=>false) ?_
 repeat' (first |refine u1 ?_ |refine u2 ?_ |fail)
 refine RM.qK (mu:=fun _=>false) ?_
 repeat' (first |refine u1 ?_ |refine u2 ?_ |fail)
 refine p2.mono ?_
 rintro w hp' amb' ⟨rfl,v,cc,rfl,rfl⟩
 repeat' (first |refine u1 ?_ |refine u2 ?_ |fail)
 refine RM.qK (mu:=fun _=>false) ?_
 repeat' (first |refine u1 ?_ |((with_reducible show ai _ _ _ _ _ _ _ _);refine af.call p1 rfl rfl ?_) |refine u2 ?_ |fail)
 have hs0:=subK_zero a b
 refine aC.bx (aj.to (l:=[(13,.cS 0 ((0,v):Nat × Nat).2 0 a.length cc),(44,.sl (ints b) false),(45,ah ((ints b).length:Int)),(46,ah (((0,v):Nat × Nat).1:Nat))]) (hp:=[.cells (gh (subK a b ((0,v):Nat × Nat).1)) 1 ((0,v):Nat × Nat).2]) 1 (by show [AB.cells (gh a) 1 v]=[AB.cells (gh (subK a b 0)) 1 v];rw [hs0]) ⟨rfl,rfl,rfl,rfl,trivial⟩ (Nat.zero_le _) rfl (ey _ _)) ?_
 refine aC.loop (fun k:Nat=>k≤a.length) (fun k=>⟨bM [(13,.cS 0 ((k,v):Nat × Nat).2 0 a.length cc),(44,.sl (ints b) false),(45,ah ((ints b).length:Int)),(46,ah (((k,v):Nat × Nat).1:Nat))],[.cells (gh (subK a b ((k,v):Nat × Nat).1)) 1 ((k,v):Nat × Nat).2],bw.none,false,0⟩) (fun k=>a.length - k) ?_ 0 (Nat.zero_le _)
 intro k hk
 by_cases hlt:k < a.length
 ·have dl:decide ((k:Int) < ((ints b).length:Int))=true:=decide_eq_true (by rw [List.length_map];omega)
  have hbl:k < b.length:=by omega
  have hax:a[k]?=some a[k]:=List.getElem?_eq_getElem hlt
  have hby:b[k]?=some b[k]:=List.getElem?_eq_getElem hbl
  have nx:=n2 _ (List.getElem_mem hlt)
  have ny:=n1 _ (List.getElem_mem hbl)
  generalize a[k]=x at *
  generalize b[k]=y at *
  have hbt:(ints b)[((k:Nat):Int).toNat]?=some [ah y]:=by rw [Int.toNat_natCast,List.getElem?_map,hby];rfl
  have hbi:((k:Nat):Int) < ((ints b).length:Int):=by rw [List.length_map];omega
  have hg1:=Hl (subK_at (b:=b) hax)
  have hln:Nat.ble (0+((k:Nat):Int).toNat * 1+1) (gh (subK a b k)).length=true:=Nat.ble_eq_true_of_le (by rw [List.length_map,subK_len];omega)
  have hst:=Cn (S:=subK a b k) (k:=k) (by rw [subK_len];exact hlt) (x - y)
  rw [subK_succ hax hby] at hst
  refine aa (mu:=fun _=>false) ?_
  repeat' (first |((with_reducible show RM.wpOp _ _ (.load _ _) _ _ _);refine RM.Km rfl rfl rfl hg1 ?_) |((with_reducible show dN _ _ _ _ _ _);refine RM.uT rfl rfl rfl rfl rfl rfl hln ?_) |refine u1 ?_ |(refine ⟨[ah y],⟨by omega,hbt⟩,rfl,?_⟩) |refine u2 ?_ |fail)
  exact ⟨k+1,hlt,(by dsimp only;omega),aj.to (hp:=[.cells (gh (subK a b ((k+1,v):Nat × Nat).1)) 1 ((k+1,v):Nat × Nat).2]) 1 (by show _=[AB.cells (gh (subK a b (k+1))) 1 v];rw [←hst];rfl) ⟨rfl,rfl,rfl,cK (by simp),trivial⟩ (Nat.zero_le _) rfl (ey _ _)⟩
 ·have dl:decide ((k:Int) < ((ints b).length:Int))=false:=decide_eq_false (by rw [List.length_map];omega)
  have hkn:k=c.aG.length:=by omega
  subst hkn
  refine aa (mu:=fun _=>false) ?_
  repeat' (first |refine u1 ?_ |refine u2 ?_ |fail)
  refine aa (mu:=fun _=>false) ?_
  repeat' (first |refine u1 ?_ |refine u2 ?_ |fail)
  exact ⟨[_,_],⟨Hj rfl (subK_len a b _),Fz.deep rfl,trivial⟩,rfl⟩
theorem pay_c (one:Bool) (c:ay) (h:c.Ok) (l:List Ev) (f:Bool) (hl:l.length≤maxLen) (hm:∀ x ∈ l,x.day≤later) (F G:Int):Pu one 27 [.ag (aF c),.sl (l.map cZ) f,ah F,ah G] (.tp [.sl (ints (payV c l F G)) false,ah (payE c l F G)]):=by
 by_cases he:payE c l F G=0
 ·have:=pay_ok one c h l f hl hm F G he
  rw [he]
  exact this
 ·have:=pay_err one c h l f hl hm F G he
  unfold payV
  rw [if_neg he]
  exact this
end Go.Proofs.YtlpmfgmldmdggaaGreat
open Go Go.RM
namespace Go.Proofs.YtlpmfgmldmdggaaGreat
set_option maxRecDepth 100000
set_option maxHeartbeats 4000000
theorem payV_len {c:ay} {l:List Ev} {F G:Int} (hd:∀ x ∈ l,x.day≤later):(payV c l F G).length≤5:=by
 unfold payV
 split
 ·rename_i h
  unfold payE at h
  split at h
  ·rename_i h1;exact absurd h h1
  ·split at h
   ·rename_i h2;exact absurd h h2
   ·rename_i h2
    obtain ⟨_,hv,hG⟩:=xz hd (Decidable.not_not.1 h2)
    have:=hv.good.aG
    rw [subK_len,duesV_len,Ji hv hG.1]
    simp
    omega
 ·simp
end Go.Proofs.YtlpmfgmldmdggaaGreat
open Go Go.RM
namespace Go.Proofs.YtlpmfgmldmdggaaGreat
set_option maxRecDepth 100000
theorem rvG_append {c:ay}:∀ {l1:List Ev} {k:Nat} {p q:List Ev} (l2:List Ev),zj c k p l1=.inr q→zj c k p (l1++l2)=zj c (k+l1.length) q l2
 | [],k,p,q,l2,h=>by
  cases h
  rfl
 | x :: l1,k,p,q,l2,h=>by
  rw [Ck] at h
  rw [List.cons_append,Ck]
  split at h
  ·rename_i h1
   rw [if_pos h1,rvG_append l2 h,List.length_cons]
   congr 1
   omega
  ·cases h
theorem vd_until {c:ay} {l:List Ev} (hv:Vd c l) (D:Int):Vd c (cE D l):=by
 obtain ⟨q,hq⟩:=Cj (n:=dm D l) hv.run
 rw [nG] at hq
 obtain ⟨h4,h5⟩:=ve jF hq
 rw [List.nil_append] at h4
 subst h4
 refine ⟨hv.good,?_,hq,h5⟩
 have:=GZ D l
 have:=hv.len
 unfold dm at *
 omega
theorem until_self {D:Int} (l:List Ev):cE D (cE D l)=cE D l:=Fi (zh l)
theorem accV_until {c:ay} {l:List Ev} (hv:Vd c l) {D:Int} (hD:0≤D) (i:Nat):qd c (cE D l) i D=qd c l i D:=by
 rw [Eg hv.mono hD,Eg (vd_until hv D).mono hD,until_self]
theorem clV_chk {c:ay} {l:List Ev} (h:(va c l).2=0):(nS c).2.2=0:=by
 unfold va at h
 split at h
 ·rename_i h1;exact absurd h h1
 ·rename_i h1;exact Decidable.not_not.1 h1
end Go.Proofs.YtlpmfgmldmdggaaGreat
