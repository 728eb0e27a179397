/-
  Contracts of the program's functions and of the document's. Lemmas alone; their conditions stand in them.
-/
import Derived.Test.YtpeogffeoehboaaDoorK3
import Derived.Test.YtpeogffeoehboaaDoorK6
import Derived.Test.YtpeogffeoehboaaDoorK10
import Derived.Test.YtpeogffeoehboaaDoorK13
open Go Go.RM
namespace Go.Proofs.YtpeogffeoehboaaDoor
set_option maxRecDepth 100000
set_option maxHeartbeats 4000000
section
variable {own : Bool} {fr : Nat → AV} {hp : List AB} {K : AV → List AB → Prop} {x : Operand} {n : Nat}
theorem PM (hx:aP fr x=U8 n) (h:n≤255) (k:K (aA (n:Nat)) hp):RM.wpOp TT own (.convert 5 3 x) fr hp K:=by
 show y3 TT 5 3 (aP fr x) hp K
 rw [hx]
 have:cP (aD TT.P (convert 5 3 (.int .u8 ((n:Nat):Int))))=some (.int .i64 (IntKind.i64.wrap ((n:Nat):Int)),.none):=rfl
 rw [IntWalk.i64_in ((n:Nat):Int) (by omega)] at this
 exact ⟨_,rfl,_,this,rfl,k⟩
end
noncomputable def E9:Code→Code
 | .seq _ b=>b
 | c=>c
noncomputable def PN:Code:=E9 (E9 (E9 (E9 (E9 (E9 (Tryd.f9.body.getD .skip))))))
theorem qw {s:ak} {p:List Order} {L:List Nat} {k:Nat} (h:k < (iH s p L).length):(iH s p L)[k]=wL s p k L:=by simp [iH]
theorem Km {s:ak} {p:List Order} {f d k:Nat} (h:k < (xT s p f d).length):(xT s p f d)[k]=gm s p f k d:=by simp [xT]
theorem Jn {s:ak} {p:List Order} {full:Bool} {W Y:List Int} (hl:W.length=Y.length) (w8:W.length≤8) (h0:∀ (k:Nat) (h:k < W.length) (h':k < Y.length),0≤W[k]∧W[k]≤Y[k]) {A:Nat→Bool} (hA0:A 0=true)
  (hAs:∀ (k:Nat) (h:k < W.length),A (k+1)=(A k && decide (0 < W[k]))) {b:Bool} (hAb:A W.length=b) (o6:Pu false 37 [.ag (ay s),.sl (p.map ai) full] (BB b)) :
  aB TT TB false PN ⟨aU [(1,.sl (p.map ai) full),(3,.pt (ay s) 0),(7,.sl (ints W) false),(9,.sl (ints Y) false),(11,BB true)],[],bP.none,false,0⟩ (sK TT Tryd.f9.results.toList (BB true)):=by
 have aw:=BC false
 have el:((ints W).length:Int)=W.length:=by simp
 refine RM.cutAt (st':=⟨aU [(1,.sl (p.map ai) full),(3,.pt (ay s) 0),(7,.sl (ints W) false),(9,.sl (ints Y) false),(11,BB b)],[],bP.none,false,0⟩) ?_ ?_
 ·refine RM.cm (mu:=fun _=>false) ?_
  repeat' (first |refine u1 ?_ |refine u2 ?_ |fail)
  refine aB.block ?_
  refine aB.aL (au.to (l:=[(1,.sl (p.map ai) full),(3,.pt (ay s) 0),(7,.sl (ints W) false),(9,.sl (ints Y) false),(11,BB (A 0)),(12,aA (0:Nat))]) (hp:=[]) 0 rfl ⟨rfl,rfl,rfl,rfl,(by rw [hA0];rfl),rfl,trivial⟩ (Nat.zero_le _) rfl rfl) ?_
  refine aB.loop (fun k:Nat=>k≤W.length) (fun k=>⟨aU [(1,.sl (p.map ai) full),(3,.pt (ay s) 0),(7,.sl (ints W) false),(9,.sl (ints Y) false),(11,BB (A k)),(12,aA (k:Nat))],[],bP.none,false,0⟩) (fun k=>W.length - k) ?_ 0 (Nat.zero_le _)
  intro k hk
  by_cases hlt:k < W.length
  ·have d1:decide ((k:Int) < ((ints W).length:Int))=true:=decide_eq_true (by omega)
   have hlt':k < Y.length:=by omega
   obtain ⟨q1,q2⟩:=h0 k hlt hlt'
   have hat:(ints W)[((k:Nat):Int).toNat]?=some (eI W[k]):=bC hlt
   have hat2:(ints Y)[((k:Nat):Int).toNat]?=some (eI Y[k]):=bC hlt'
   have d2:decide (W[k] < 0)=false:=decide_eq_false (by omega)
   have d3:decide (Y[k] < W[k])=false:=decide_eq_false (by omega)
   have hA1:=hAs k hlt
   cases hA:A k with
   | true =>
    rw [hA] at hA1
    generalize W[k]=x at hat d2 d3 hA1
    generalize Y[k]=y at hat2 d3
    clear q1 q2 h0 hAs
    refine aa (mu:=fun _=>false) ?_
    repeat' (first |((with_reducible show RM.wpOp _ _ (.indexAddr _ _ _) _ _ _);refine ⟨eI x,⟨by omega,hat⟩,rfl,?_⟩) |((with_reducible show RM.wpOp _ _ (.indexAddr _ _ _) _ _ _);refine ⟨eI y,⟨by omega,hat2⟩,rfl,?_⟩) |refine u1 ?_ |((with_reducible show RM.wpOp _ _ (.indexAddr _ _ _) _ _ _);refine ⟨eI x,⟨by omega,hat⟩,rfl,?_⟩) |((with_reducible show RM.wpOp _ _ (.indexAddr _ _ _) _ _ _);refine ⟨eI y,⟨by omega,hat2⟩,rfl,?_⟩) |refine u2 ?_ |fail)
    exact ⟨k+1,hlt,(by dsimp only;omega),au.to 0 rfl ⟨rfl,rfl,rfl,rfl,(by rw [hA1];rfl),bu (by simp),trivial⟩ (Nat.zero_le _) rfl rfl⟩
   | false =>
    rw [hA] at hA1
    generalize W[k]=x at hat d2 d3 hA1
    generalize Y[k]=y at hat2 d3
    clear q1 q2 h0 hAs
    refine aa (mu:=fun _=>false) ?_
    repeat' (first |((with_reducible show RM.wpOp _ _ (.indexAddr _ _ _) _ _ _);refine ⟨eI x,⟨by omega,hat⟩,rfl,?_⟩) |((with_reducible show RM.wpOp _ _ (.indexAddr _ _ _) _ _ _);refine ⟨eI y,⟨by omega,hat2⟩,rfl,?_⟩) |refine u1 ?_ |((with_reducible show RM.wpOp _ _ (.indexAddr _ _ _) _ _ _);refine ⟨eI x,⟨by omega,hat⟩,rfl,?_⟩) |((with_reducible show RM.wpOp _ _ (.indexAddr _ _ _) _ _ _);refine ⟨eI y,⟨by omega,hat2⟩,rfl,?_⟩) |refine u2 ?_ |fail)
    exact ⟨k+1,hlt,(by dsimp only;omega),au.to 0 rfl ⟨rfl,rfl,rfl,rfl,(by rw [hA1];rfl),bu (by simp),trivial⟩ (Nat.zero_le _) rfl rfl⟩
  ·have d1:decide ((k:Int) < ((ints W).length:Int))=false:=decide_eq_false (by omega)
   have e:k=W.length:=by omega
   have e2:A k=b:=by rw [e];exact hAb
   rw [e2]
   refine aa (mu:=fun _=>false) ?_
   repeat' (first |refine u1 ?_ |refine u2 ?_ |fail)
   exact .is (au.to 0 rfl ⟨rfl,rfl,rfl,rfl,rfl,trivial⟩ (Nat.zero_le _) rfl rfl)
 ·cases b with
  | true =>
   refine aa (mu:=fun _=>false) ?_
   repeat' (first |refine u1 ?_ |((with_reducible show aj _ _ _ _ _ _ _ _);refine af.call o6 rfl rfl ?_) |((with_reducible show aj _ _ _ _ _ _ _ _);refine af.call aw rfl rfl ?_) |refine u2 ?_ |fail)
   exact ⟨[_],⟨Fz.deep rfl,trivial⟩,rfl⟩
  | false =>
   refine aa (mu:=fun _=>false) ?_
   repeat' (first |refine u1 ?_ |((with_reducible show aj _ _ _ _ _ _ _ _);refine af.call o6 rfl rfl ?_) |((with_reducible show aj _ _ _ _ _ _ _ _);refine af.call aw rfl rfl ?_) |refine u2 ?_ |fail)
   exact ⟨[_],⟨Fz.deep rfl,trivial⟩,rfl⟩
theorem Fa (s:ak) (hs:s.Ok) (p:List Order) (full:Bool) (hp:vQ p) (xa xb:Nat) (hxb:xb≤255):Pu false 9 [.ag (ay s),.sl (p.map ai) full,.ag [U8 xa,U8 xb]] (BB true):=by
 have o1:=zG false s hs p full hp
 have o2:=qv false s hs p full hp
 have aw:=BC false
 have ep:((p.map ai).length:Int)=p.length:=by simp
 have z1:(!decide ((0:Int)=0))=false:=by decide
 unfold vw vv at o1
 by_cases c1:(aO s p).2=0
 ·rw [c1] at o2
  rw [if_pos c1,c1] at o1
  have hpg:=dM c1
  have hg:=hpg.good
  have p8:=hpg.len
  have hdays:=hg.days
  have hlen:=hg.len
  have hsl:=(ld (R:=s.row.toNat) (most:=s.fail.toNat) (raw:=xa) p.length).2.2.2.2.1
  have hrw:=hpg.good.row
  have hfl:=hpg.good.fail
  rw [show ((s.row.toNat:Nat):Int)=s.row by omega,show ((s.fail.toNat:Nat):Int)=s.fail by omega] at hsl
  have hsm:(cI s.row s.fail xa p.length).length≤maxLen:=by
   have:(cI s.row s.fail xa p.length).length≤s.fail.toNat:=hsl
   simp [maxLen]
   omega
  have o3:Pu true 35 [.ag (ay s),aA ((p.map ai).length:Int),aA s.fail,U8 xa] (.sl (ints (cI s.row s.fail xa p.length)) false):=by
   rw [ep];exact C4 true s p.length p8 s.fail xa
  have o4:=Nl true s hs p full hp (cI s.row s.fail xa p.length) false hsm ((xb:Int) % s.days)
  have hm1:=Int.emod_nonneg (xb:Int) (show s.days ≠ 0 by omega)
  have hm2:=Int.emod_lt_of_pos (xb:Int) (show 0 < s.days by omega)
  obtain ⟨q1,q2⟩:=vN c1 xa
  have hle:=Jl q2 hm1 (show (xb:Int) % s.days≤s.days - 1 by omega)
  rw [Jm hle,hle] at o4
  have o6:=rF false s hs p full hp
  have hWl:(iH s p (cV s p)).length=s.needs.length:=by simp [iH]
  have hYl:=nP (s:=s) (p:=p) (f:=cD (cI s.row s.fail xa p.length)) (d:=((xb:Int) % s.days).toNat)
  have tl:=Jn (full:=full) (W:=iH s p (cV s p)) (Y:=xT s p (cD (cI s.row s.fail xa p.length)) ((xb:Int) % s.days).toNat) (by omega) (by omega)
   (fun k h h'=>by
    have hk:k < s.needs.length:=by omega
    rw [qw,Km]
    exact ⟨Pj hg hk,Jc q1 (by omega)⟩) (A:=rI s p) rfl
   (fun k h=>by
    rw [qw]
    exact BP) (b:=nk s p) (by rw [hWl];exact BQ c1) o6
  have dw:(!decide (((ints (iH s p (cV s p))).length:Int)=((s.needs.map aH).length:Int)))=false:=by rw [decide_eq_true (by simp [hWl])];rfl
  have dy:(!decide (((ints (xT s p (cD (cI s.row s.fail xa p.length)) ((xb:Int) % s.days).toNat)).length:Int)=((ints (iH s p (cV s p))).length:Int)))=false:=by rw [decide_eq_true (by simp [hWl,hYl])];rfl
  clear hle hWl hYl q1 q2 hsm hsl
  generalize xT s p (cD (cI s.row s.fail xa p.length)) ((xb:Int) % s.days).toNat=Y at *
  generalize iH s p (cV s p)=W at *
  generalize cI s.row s.fail xa p.length=other at *
  refine af.body (fn:=Tryd.f9) rfl rfl rfl rfl ?_
  refine RM.cm (mu:=fun _=>false) ?_
  repeat' (first |refine u1 ?_ |refine u2 ?_ |fail)
  refine RM.cm (mu:=fun _=>false) ?_
  repeat' (first |refine u1 ?_ |((with_reducible show aj _ _ _ _ _ _ _ _);refine af.call o1 rfl rfl ?_) |refine u2 ?_ |fail)
  refine RM.cm (mu:=fun _=>false) ?_
  repeat' (first |refine u1 ?_ |((with_reducible show aj _ _ _ _ _ _ _ _);refine af.call o2 rfl rfl ?_) |refine u2 ?_ |fail)
  refine RM.cm (mu:=fun _=>false) ?_
  repeat' (first |((with_reducible show RM.wpOp _ _ (.convert _ _ _) _ _ _);refine PM rfl hxb ?_) |refine u1 ?_ |refine u2 ?_ |fail)
  refine RM.cm (mu:=fun _=>false) ?_
  repeat' (first |refine u1 ?_ |refine u2 ?_ |fail)
  refine RM.cm (mu:=fun _=>false) ?_
  repeat' (first |refine u1 ?_ |refine u2 ?_ |fail)
  refine aB.aL (au.to (l:=[(1,.sl (p.map ai) full),(3,.pt (ay s) 0),(7,.sl (ints W) false),(9,.sl (ints Y) false),(11,BB true)]) (hp:=[]) 0 rfl ⟨rfl,rfl,rfl,rfl,rfl,trivial⟩ (Nat.zero_le _) rfl rfl) ?_
  exact tl
 ·rw [if_neg c1] at o1
  rw [decide_eq_false c1] at o2
  generalize (aO s p).2=e at *
  have d1:(!decide (e=0))=true:=by rw [decide_eq_false c1];rfl
  refine af.body (fn:=Tryd.f9) rfl rfl rfl rfl ?_
  refine aa (mu:=fun _=>false) ?_
  repeat' (first |((with_reducible show kW _ _ _ _ _);refine De ?_) |refine u1 ?_ |((with_reducible show aj _ _ _ _ _ _ _ _);refine af.call o1 rfl rfl ?_) |((with_reducible show aj _ _ _ _ _ _ _ _);refine af.call o2 rfl rfl ?_) |((with_reducible show aj _ _ _ _ _ _ _ _);refine af.call aw rfl rfl ?_) |refine u2 ?_ |fail)
  exact ⟨[_],⟨Fz.deep rfl,trivial⟩,rfl⟩
end Go.Proofs.YtpeogffeoehboaaDoor
open Go Go.RM
namespace Go.Proofs.YtpeogffeoehboaaDoor
set_option maxRecDepth 100000
def gG (need:Int) (o:Order):Nat→List Int
 | 0=>[]
 | k+1=>if (decide (((k:Nat):Int)=need) || hasB o.aF (k:Nat))=true then gG need o k++[((k:Nat):Int)] else gG need o k
theorem vO (need:Int) (o:Order):∀ k,(gG need o k).length≤k
 | 0=>Nat.le_refl _
 | k+1=>by
  have:=vO need o k
  unfold gG
  split
  ·rw [List.length_append,List.length_singleton];omega
  ·omega
theorem BT {need:Int} {o:Order} {x:Int}:∀ {k:Nat},0≤x→x < (k:Nat)→x ∈ o.aF→x ∈ gG need o k
 | 0,h0,h,_=>by omega
 | k+1,h0,h,hx=>by
  unfold gG
  by_cases e:x=(k:Nat)
  ·subst e
   rw [gE.2 hx,Bool.or_true,if_pos rfl]
   exact List.mem_append.2 (.inr (List.mem_singleton.2 rfl))
  ·have ih:=BT (need:=need) (k:=k) h0 (by omega) hx
   split
   ·exact List.mem_append.2 (.inl ih)
   ·exact ih
def cv (len:Nat) (need at':Int) (p:List Order):Nat→List Order × Bool
 | 0=>([],false)
 | k+1=>match p[k]? with
  | none=>cv len need at' p k
  | some o=>if o.day=at' then ((cv len need at' p k).1++[⟨at',gG need o len⟩],true)
   else if (cv len need at' p k).2=false∧at' < o.day then ((cv len need at' p k).1++[⟨at',[need]⟩]++[o],true)
   else ((cv len need at' p k).1++[o],(cv len need at' p k).2)
def nu (len:Nat) (need at':Int) (p:List Order):List Order:=if (cv len need at' p p.length).2=true then (cv len need at' p p.length).1 else (cv len need at' p p.length).1++[⟨at',[need]⟩]
theorem l9 {len:Nat} {need at':Int} {p:List Order} {k:Nat} (h:k < p.length):cv len need at' p (k+1)=if p[k].day=at' then ((cv len need at' p k).1++[⟨at',gG need p[k] len⟩],true)
  else if (cv len need at' p k).2=false∧at' < p[k].day then ((cv len need at' p k).1++[⟨at',[need]⟩]++[p[k]],true)
  else ((cv len need at' p k).1++[p[k]],(cv len need at' p k).2):=by
 rw [cv,List.getElem?_eq_getElem h]
theorem rL {len:Nat} {need at':Int} {p:List Order}:∀ k,(cv len need at' p k).1.length≤k+if (cv len need at' p k).2=true then 1 else 0
 | 0=>Nat.le_refl _
 | k+1=>by
  have ih:=rL (len:=len) (need:=need) (at':=at') (p:=p) k
  by_cases h:k < p.length
  ·rw [l9 h]
   split
   ·simp only [List.length_append,List.length_singleton,if_true]
    split at ih <;> omega
   ·split
    ·rename_i h2
     rw [h2.1] at ih
     simp only [List.length_append,List.length_singleton,if_true]
     simp at ih
     omega
    ·simp only [List.length_append,List.length_singleton]
     omega
  ·rw [cv,List.getElem?_eq_none (by omega)]
   dsimp only
   omega
theorem x8 {s:ak} {p:List Order} (hp:mz s p) {need at':Int}:∀ k,k≤p.length→∃ q:List Order,q.length=k∧(∀ (i:Nat) (hi:i < p.length) (hq:i < q.length),q[i].day=p[i].day∧∀ x ∈ p[i].aF,x ∈ q[i].aF) ∧
  ((cv s.needs.length need at' p k).1=q∨((cv s.needs.length need at' p k).2=true∧∃ j,j≤k∧(cv s.needs.length need at' p k).1=q.take j++⟨at',[need]⟩ :: q.drop j))
 | 0,_=>⟨[],rfl,fun i _ hq=>absurd hq (Nat.not_lt_zero _),.inl rfl⟩
 | k+1,hk=>by
  obtain ⟨q,h1,h2,h3⟩:=x8 hp (need:=need) (at':=at') k (by omega)
  have hlt:k < p.length:=by omega
  have key:∀ o:Order,o.day=p[k].day→(∀ x ∈ p[k].aF,x ∈ o.aF)→(q++[o]).length=k+1∧(∀ (i:Nat) (hi:i < p.length) (hq:i < (q++[o]).length),(q++[o])[i].day=p[i].day∧∀ x ∈ p[i].aF,x ∈ (q++[o])[i].aF):=by
   intro o e1 e2
   refine ⟨by rw [List.length_append,h1];rfl,fun i hi hq=>?_⟩
   by_cases e:i < q.length
   ·rw [List.getElem_append_left e]
    exact h2 i hi e
   ·have:i=k:=by rw [List.length_append,List.length_singleton] at hq;omega
    subst this
    rw [List.getElem_append_right (by omega)]
    simp only [h1,Nat.sub_self,List.getElem_cons_zero]
    exact ⟨e1,e2⟩
  have ins:∀ (o:Order) (j:Nat),j≤k→(q.take j++(⟨at',[need]⟩:Order) :: q.drop j)++[o]=(q++[o]).take j++⟨at',[need]⟩ :: (q++[o]).drop j:=by
   intro o j hj
   rw [List.take_append_of_le_length (by omega),List.drop_append_of_le_length (by omega)]
   simp
  rw [l9 hlt]
  by_cases hd:p[k].day=at'
  ·rw [if_pos hd]
   obtain ⟨k1,k2⟩:=key ⟨at',gG need p[k] s.needs.length⟩ hd.symm fun x hx=>by
    have:=(hp.order _ (List.getElem_mem hlt)).aF x hx
    exact BT this.1 this.2 hx
   refine ⟨_,k1,k2,?_⟩
   rcases h3 with h3|⟨_,j,hj,h3⟩
   ·exact .inl (by rw [h3])
   ·exact .inr ⟨rfl,j,by omega,by dsimp only;rw [h3,ins _ j hj]⟩
  ·rw [if_neg hd]
   obtain ⟨k1,k2⟩:=key p[k] rfl fun x hx=>hx
   by_cases ht:(cv s.needs.length need at' p k).2=false∧at' < p[k].day
   ·rw [if_pos ht]
    refine ⟨_,k1,k2,.inr ⟨rfl,k,by omega,?_⟩⟩
    rcases h3 with h3|⟨h4,_⟩
    ·dsimp only
     rw [h3,List.take_append_of_le_length (by omega),List.take_of_length_le (by omega),List.drop_append_of_le_length (by omega),List.drop_of_length_le (by omega)]
     simp
    ·rw [ht.1] at h4;cases h4
   ·rw [if_neg ht]
    refine ⟨_,k1,k2,?_⟩
    rcases h3 with h3|⟨h4,j,hj,h3⟩
    ·exact .inl (by rw [h3])
    ·exact .inr ⟨h4,j,by omega,by dsimp only;rw [h3,ins _ j hj]⟩
theorem Fb {s:ak} {p:List Order} (hp:mz s p) {need at':Int} (hr:p.length < (nu s.needs.length need at' p).length→s.fail≤s.row) (n:Nat):wL s p n (cV s p)≤wL s (nu s.needs.length need at' p) n (cV s (nu s.needs.length need at' p)):=by
 have hg:=hp.good
 obtain ⟨q,h1,h2,h3⟩:=x8 hp (need:=need) (at':=at') p.length (Nat.le_refl _)
 have c1:=Dd hg h1 (fun i hi hq=>h2 i hi hq) n
 have one:∀ j,j≤p.length→(s.fail≤s.row)→wL s p n (cV s p)≤wL s (q.take j++⟨at',[need]⟩ :: q.drop j) n (cV s (q.take j++⟨at',[need]⟩ :: q.drop j)):=fun j hj hle =>
  Int.le_trans c1 (Dc hg (p:=q) (by omega) ⟨at',[need]⟩ hle n)
 have ln:∀ j,j≤p.length→(q.take j++(⟨at',[need]⟩:Order) :: q.drop j).length=p.length+1:=fun j hj=>by rw [List.length_append,List.length_cons,List.length_take,List.length_drop];omega
 unfold nu at hr ⊢
 rcases h3 with h3|⟨h4,j,hj,h3⟩
 ·cases ht:(cv s.needs.length need at' p p.length).2 with
  | true =>
   rw [if_pos rfl,h3]
   exact c1
  | false =>
   rw [ht] at hr
   rw [if_neg (by simp),h3]
   rw [if_neg (by simp),h3] at hr
   have e:q++[(⟨at',[need]⟩:Order)]=q.take p.length++⟨at',[need]⟩ :: q.drop p.length:=by rw [List.take_of_length_le (by omega),List.drop_of_length_le (by omega)]
   rw [e] at hr ⊢
   exact one p.length (Nat.le_refl _) (hr (by rw [ln _ (Nat.le_refl _)];omega))
 ·rw [if_pos h4,h3] at hr
  rw [if_pos h4,h3]
  exact one j hj (hr (by rw [ln j hj];omega))
theorem Fc {len:Nat} {need at':Int} {p:List Order}:(nu len need at' p).length≤p.length+1:=by
 have:=rL (len:=len) (need:=need) (at':=at') (p:=p) p.length
 unfold nu
 split
 ·rename_i h
  rw [h,if_pos rfl] at this
  exact this
 ·rename_i h
  rw [if_neg h] at this
  rw [List.length_append,List.length_singleton]
  omega
theorem sv {len:Nat} (h1:1≤len) {need at':Int} {p:List Order} {m:Nat} (hm:len≤m) (hp:∀ o ∈ p,o.aF.length≤m):∀ k,∀ o ∈ (cv len need at' p k).1,o.aF.length≤m
 | 0,o,ho=>by cases ho
 | k+1,o,ho=>by
  have ih:=sv h1 (need:=need) (at':=at') hm hp k
  by_cases h:k < p.length
  ·rw [l9 h] at ho
   have hk:=hp _ (List.getElem_mem h)
   split at ho
   ·rcases List.mem_append.1 ho with ho|ho
    ·exact ih o ho
    ·rw [List.mem_singleton.1 ho]
     exact Nat.le_trans (vO _ _ _) hm
   ·split at ho
    ·rcases List.mem_append.1 ho with ho|ho
     ·rcases List.mem_append.1 ho with ho|ho
      ·exact ih o ho
      ·rw [List.mem_singleton.1 ho]
       exact Nat.le_trans h1 hm
     ·rw [List.mem_singleton.1 ho];exact hk
    ·rcases List.mem_append.1 ho with ho|ho
     ·exact ih o ho
     ·rw [List.mem_singleton.1 ho];exact hk
  ·rw [cv,List.getElem?_eq_none (by omega)] at ho
   exact ih o ho
theorem Jo {len:Nat} (h1:1≤len) {need at':Int} {p:List Order} (h8:p.length≤8) (hl:len≤3) (hp:vQ p):vQ (nu len need at' p):=by
 have h2:=Fc (len:=len) (need:=need) (at':=at') (p:=p)
 have h3:3≤maxLen:=by simp [maxLen]
 have h4:9≤maxLen:=by simp [maxLen]
 refine ⟨by omega,fun o ho=>?_⟩
 have hm:=sv h1 (need:=need) (at':=at') (p:=p) (m:=maxLen) (by omega) hp.aF p.length
 unfold nu at ho
 split at ho
 ·exact hm o ho
 ·rcases List.mem_append.1 ho with ho|ho
  ·exact hm o ho
  ·rw [List.mem_singleton.1 ho]
   show 1≤maxLen
   omega
end Go.Proofs.YtpeogffeoehboaaDoor
open Go Go.RM
namespace Go.Proofs.YtpeogffeoehboaaDoor
set_option maxRecDepth 100000
end Go.Proofs.YtpeogffeoehboaaDoor
open Go Go.RM
namespace Go.Proofs.YtpeogffeoehboaaDoor
set_option maxRecDepth 100000
set_option maxHeartbeats 4000000
theorem Kn (L:List Order) (C:List Int) (v w:Nat):uZ 1 0 ([.cells (mE L) 2 v,.cells (fT C) 1 w]:List AB)=true:=by
 show ((false || uY 1 (mE L)) && ((true || uY 1 (fT C)) && true))=true
 rw [D9]
 rfl
theorem qx (C:List Int):(0:Nat)+C.length * 1≤(fT C).length∧(ints C).length=C.length∧(∀ el ∈ ints C,el.length=1)∧(ints C).flatten=((fT C).drop 0).take (C.length * 1) :=
 ⟨by rw [List.length_map];omega,by simp,fun el hel=>by obtain ⟨o,_,rfl⟩:=List.mem_map.1 hel;rfl,by rw [List.drop_zero,List.take_of_length_le (by rw [List.length_map];omega),je]⟩
theorem kB (L:List Order):(0:Nat)+L.length * 2≤(mE L).length∧(L.map ai).length=L.length∧(∀ el ∈ L.map ai,el.length=2)∧(L.map ai).flatten=((mE L).drop 0).take (L.length * 2) :=
 ⟨by rw [iZ];omega,by simp,fun el hel=>by obtain ⟨o,_,rfl⟩:=List.mem_map.1 hel;rfl,by rw [List.drop_zero,List.take_of_length_le (by rw [iZ];exact Nat.le_refl _)];rfl⟩
end Go.Proofs.YtpeogffeoehboaaDoor
