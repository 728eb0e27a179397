/-
  Contracts of the program's functions and of the document's. Lemmas alone; their conditions stand in them.
-/
import Derived.Test.YtlpmfgmldmdggaaGreatO3
import Derived.Test.YtlpmfgmldmdggaaGreatA3
import Derived.Test.YtlpmfgmldmdggaaGreatK12
open Go Go.RM
namespace Go.Proofs.YtlpmfgmldmdggaaGreat
set_option maxRecDepth 100000
set_option maxHeartbeats 4000000
theorem clone_cv (one:Bool) (l:List Int) (f:Bool) (h8:l.length * 8≤140737488355328) {M:AB} {av:bw} {Q:AV→List AB→bw→Prop} (h1:l=[]→Q (.fl (.slice none 0 0)) [M] av)
  (h2:∀ v c,(c=l.length∨c=l.length+1)→Q (.cS 1 v 0 l.length c) [M,.cells (gh l) 1 v] av):ai TT TB one (.fn 77 [] []) [.sl (ints l) f] [M] av Q:=by
 have e1:(ints l).length=l.length:=by simp
 have hb1:(0+(ints l).length) * 8≤140737488355328∧0+(ints l).length≤9223372036854775807:=by rw [e1];omega
 have hone:(ints l).flatten.all AV.one=true:=by rw [kF];exact Hy l
 refine ai.body (fn:=Tryz.f77) rfl rfl rfl ?_
 show aC TT TB one (.seq (.region _ _ _) (.seq (.seq (.region _ _ _) _) _)) _ _
 refine RM.qK (mu:=fun _=>false) ?_
 repeat' (first |refine u1 ?_ |refine u2 ?_ |fail)
 refine aC.seq (aC.seq (aC.Gy (id1:=0) (id2:=0) (l1:=[⟨some 3,.move (.tmp 0),36,_,_,none⟩]) rfl rfl ?_))
 refine RM.qK (mu:=fun _=>false) ?_
 repeat' (first |refine u1 ?_ |refine u2 ?_ |fail)
 refine aC.op1 rfl (eqNilX (els:=ints l) rfl (by kernel_rfl) (by kernel_rfl) fun b hb=>?_)
 cases b with
 | true =>
  have hl:l=[]:=List.map_eq_nil_iff.1 (hb rfl)
  have h3:=h1 hl
  refine aa (mu:=fun _=>false) ?_
  repeat' (first |refine u1 ?_ |refine u2 ?_ |fail)
  exact h3
 | false =>
  refine aa (mu:=fun _=>false) ?_
  repeat' (first |refine u1 ?_ |refine u2 ?_ |fail)
  refine aa (mu:=fun t=>Nat.beq t 5 || Nat.beq t 7) ?_
  repeat' (first |((with_reducible show RM.wpOp _ _ (.call _) _ _ _);refine RM.uS (cs:=[]) (n:=0) (c:=0) (els:=ints l) rfl rfl rfl rfl rfl (Hx l) hone rfl rfl (.inl rfl) hb1 (fun v c' hc'=>?_)) |refine u1 ?_ |refine u2 ?_ |fail)
  have h3:=h2 v c' (by rw [e1] at hc';omega)
  rw [←kF,←e1,←Nat.zero_add (ints l).length] at h3
  exact h3
theorem two_inb (W S:List Int) (e0 v0 v:Nat):([.cells (gh W) e0 v0,.cells (gh S) 1 v]:List AB).all (AB.ig 2)=true:=by
 have h1:AB.ig 2 (.cells (gh W) e0 v0)=true:=Cm 2 (fun _=>rfl) _
 have h2:AB.ig 2 (.cells (gh S) 1 v)=true:=Cm 2 (fun _=>rfl) _
 simp only [List.all_cons,List.all_nil,h1,h2,Bool.and_true]
theorem nums_getI {S:List Int} {k p:Nat} (h:k < S.length) (hp:p=k):(gh S)[p]?=some (ah (inA S k)):=by
 subst hp
 rw [List.getElem?_map,inA_el h]
 rfl
def noEq (S:List Int):Prop:=∀ j,j+1 < S.length→inA S (j+1) ≠ inA S j
theorem compact_cv (one:Bool) (S W:List Int) (h8:S.length * 8≤140737488355328) {e0 v0 v c:Nat} {av:bw} {Q:AV→List AB→bw→Prop} (hq0:noEq S→Q (.cS 1 v 0 S.length c) [.cells (gh W) e0 v0,.cells (gh S) 1 v] av)
  (hq1:¬ noEq S→∀ n' c' X,n' < S.length→Q (.cS 1 v 0 n' c') [.cells (gh W) e0 v0,X] av):ai TT TB one (.fn 76 [] []) [.cS 1 v 0 S.length c] [.cells (gh W) e0 v0,.cells (gh S) 1 v] av Q:=by
 refine ai.body (fn:=Tryz.f76) rfl rfl rfl ?_
 by_cases h2:S.length < 2
 ·have d2:decide ((S.length:Int) < 2)=true:=decide_eq_true (by omega)
  have h3:=hq0 fun j hj=>by omega
  refine aa (mu:=fun _=>false) ?_
  repeat' (first |refine u1 ?_ |refine u2 ?_ |fail)
  exact h3
 have d2:decide ((S.length:Int) < 2)=false:=decide_eq_false (by omega)
 refine aa (mu:=fun _=>false) ?_
 repeat' (first |refine u1 ?_ |refine u2 ?_ |fail)
 refine aC.bx (aj.to (l:=[(0,.cS 1 v 0 S.length c),(3,ah ((0:Nat)+1))]) (hp:=[.cells (gh W) e0 v0,.cells (gh S) 1 v]) 2 rfl ⟨rfl,rfl,trivial⟩ (Nat.le_of_ble_eq_true rfl) rfl (two_inb _ _ _ _ _)) ?_
 refine aC.loop (fun k:Nat=>k+1≤S.length∧∀ j,j < k→inA S (j+1) ≠ inA S j) (fun k=>⟨bM [(0,.cS 1 v 0 S.length c),(3,ah ((k:Nat)+1))],[.cells (gh W) e0 v0,.cells (gh S) 1 v],av,false,2⟩) (fun k=>S.length - k) ?_ 0 ⟨by omega,fun j hj=>absurd hj (Nat.not_lt_zero j)⟩
 rintro k ⟨hk,hno⟩
 by_cases hlt:k+1 < S.length
 ·have dl:decide ((k:Int)+1 < (S.length:Int))=true:=decide_eq_true (by omega)
  have g1:(gh S)[0+((k:Int)+1).toNat * 1]?=some (ah (inA S (k+1))):=nums_getI hlt (by omega)
  have g2:(gh S)[0+((k:Int)+1 - 1).toNat * 1]?=some (ah (inA S k)):=nums_getI (show k < S.length by omega) (by omega)
  have hnx:inA S (k+1) ≠ inA S k→∀ j,j < k+1→inA S (j+1) ≠ inA S j:=fun h j hj=>by
   by_cases e:j=k
   ·rw [e];exact h
   ·exact hno j (by omega)
  have hyes:inA S (k+1)=inA S k→¬ noEq S:=fun h hh=>hh k hlt h
  generalize inA S (k+1)=y at *
  generalize inA S k=z at *
  cases e:decide (y=z) with
  | false =>
   refine aa (mu:=fun _=>false) ?_
   repeat' (first |((with_reducible show RM.wpOp _ _ (.load _ _) _ _ _);refine RM.Km rfl rfl rfl g1 ?_) |((with_reducible show RM.wpOp _ _ (.load _ _) _ _ _);refine RM.Km rfl rfl rfl g2 ?_) |refine u1 ?_ |refine u2 ?_ |fail)
   exact ⟨k+1,⟨by omega,hnx (of_decide_eq_false e)⟩,(by dsimp only;omega),aj.to (l:=[(0,.cS 1 v 0 S.length c),(3,ah ((k+1:Nat)+1))]) (hp:=[.cells (gh W) e0 v0,.cells (gh S) 1 v]) 2 rfl ⟨rfl,cK (by simp),trivial⟩ (Nat.le_of_ble_eq_true rfl) rfl (two_inb _ _ _ _ _)⟩
  | true =>
   have h1:=hq1 (hyes (of_decide_eq_true e))
   show aC TT TB one (.seq (.seq (.region _ _ _) _) (.seq (.block _ (.seq (.region _ _ _) (.cond _ (.seq (.region _ _ _) (.seq (.seq (.region _ _ _) _) (.seq (.region _ _ _) _))) _))) _)) _ _
   refine RM.qK (mu:=fun _=>false) ?_
   repeat' (first |refine u1 ?_ |refine u2 ?_ |fail)
   refine aC.seq (aC.block ?_)
   refine RM.qK (mu:=fun _=>false) ?_
   repeat' (first |((with_reducible show RM.wpOp _ _ (.load _ _) _ _ _);refine RM.Km rfl rfl rfl g1 ?_) |((with_reducible show RM.wpOp _ _ (.load _ _) _ _ _);refine RM.Km rfl rfl rfl g2 ?_) |refine u1 ?_ |refine u2 ?_ |fail)
   refine aC.cond (t:=true) (by show AV.fl (Value.bool (decide (y=z)))=_;rw [e]) (fun _=>?_) (fun h=>nomatch h)
   refine RM.qK (mu:=fun _=>false) ?_
   repeat' (first |(refine ⟨k+1,S.length,rfl,rfl,⟨(by omega),Nat.le_refl _⟩,(by decide),?_⟩) |refine u1 ?_ |refine u2 ?_ |fail)
   refine aC.seq ?_
   refine aa (mu:=fun _=>false) ?_
   repeat' (first |refine u1 ?_ |refine u2 ?_ |fail)
   refine aC.bx (aj.to (l:=[(0,.cS 1 v 0 S.length c),(3,ah (((k+1,1,S):Nat × Nat × List Int).1:Nat)),(4,.cS 1 v (0+(k+1) * 1) (S.length - (k+1)) (bif Nat.beq S.length S.length && Nat.beq c S.length then S.length - (k+1) else bif Nat.beq S.length S.length then S.length - (k+1)+2 else bif Nat.ble (S.length+3) c then c - (k+1) else S.length - (k+1)+3+(S.length - S.length))),(5,ah (((k+1,1,S):Nat × Nat × List Int).2.1:Nat))]) (hp:=[.cells (gh W) e0 v0,.cells (gh S) 1 v]) 2 rfl ⟨rfl,cK (by simp),rfl,rfl,trivial⟩ (Nat.le_of_ble_eq_true rfl) rfl (two_inb _ _ _ _ _)) ?_
   refine aC.loop (fun x:Nat × Nat × List Int=>x.2.2.length=S.length∧k+1≤x.1∧x.1≤k+x.2.1∧1≤x.2.1∧x.2.1≤S.length - (k+1)) (fun x=>⟨bM [(0,.cS 1 v 0 S.length c),(3,ah (x.1:Nat)),(4,.cS 1 v (0+(k+1) * 1) (S.length - (k+1)) (bif Nat.beq S.length S.length && Nat.beq c S.length then S.length - (k+1) else bif Nat.beq S.length S.length then S.length - (k+1)+2 else bif Nat.ble (S.length+3) c then c - (k+1) else S.length - (k+1)+3+(S.length - S.length))),(5,ah (x.2.1:Nat))],[.cells (gh W) e0 v0,.cells (gh x.2.2) 1 v],av,false,2⟩) (fun x=>S.length - x.2.1) ?_ (k+1,1,S) ⟨rfl,Nat.le_refl _,Nat.le_refl _,Nat.le_refl _,by dsimp only;omega⟩
   rintro ⟨kk,k2,R⟩ ⟨hR,p1,p2,p3,p4⟩
   dsimp only at hR p1 p2 p3 p4
   show aC _ _ _ _ ⟨bM [(0,.cS 1 v 0 S.length c),(3,ah (((kk,k2,R):Nat × Nat × List Int).1:Nat)),(4,.cS 1 v (0+(k+1) * 1) (S.length - (k+1)) (bif Nat.beq S.length S.length && Nat.beq c S.length then S.length - (k+1) else bif Nat.beq S.length S.length then S.length - (k+1)+2 else bif Nat.ble (S.length+3) c then c - (k+1) else S.length - (k+1)+3+(S.length - S.length))),(5,ah (((kk,k2,R):Nat × Nat × List Int).2.1:Nat))],[.cells (gh W) e0 v0,.cells (gh R) 1 v],av,false,2⟩ _
   dsimp only
   by_cases hl2:k2 < S.length - (k+1)
   ·have d3:decide ((k2:Int) < ((S.length - (k+1):Nat):Int))=true:=decide_eq_true (by omega)
    have g3:(gh R)[0+(k+1) * 1+((k2:Nat):Int).toNat * 1]?=some (ah (inA R (k+1+k2))):=nums_getI (by omega) (by omega)
    have g4:(gh R)[0+(k+1) * 1+((k2:Int) - 1).toNat * 1]?=some (ah (inA R (k+k2))):=nums_getI (by omega) (by omega)
    have hln:Nat.ble (0+((kk:Nat):Int).toNat * 1+1) (gh R).length=true:=Nat.ble_eq_true_of_le (by rw [List.length_map];omega)
    generalize inA R (k+1+k2)=a at *
    generalize inA R (k+k2)=b at *
    have hset:=Cn (S:=R) (k:=kk) (by omega) a
    cases e2:decide (a=b) with
    | true =>
     have e2':(!decide (a=b))=false:=by rw [e2];rfl
     refine aa (mu:=fun _=>false) ?_
     repeat' (first |((with_reducible show RM.wpOp _ _ (.load _ _) _ _ _);refine RM.Km rfl rfl rfl g3 ?_) |((with_reducible show RM.wpOp _ _ (.load _ _) _ _ _);refine RM.Km rfl rfl rfl g4 ?_) |refine u1 ?_ |refine u2 ?_ |fail)
     exact ⟨(kk,k2+1,R),⟨hR,p1,by dsimp only;omega,by dsimp only;omega,by dsimp only;omega⟩,(by dsimp only;omega),aj.to (l:=[(0,.cS 1 v 0 S.length c),(3,ah (((kk,k2+1,R):Nat × Nat × List Int).1:Nat)),(4,.cS 1 v (0+(k+1) * 1) (S.length - (k+1)) (bif Nat.beq S.length S.length && Nat.beq c S.length then S.length - (k+1) else bif Nat.beq S.length S.length then S.length - (k+1)+2 else bif Nat.ble (S.length+3) c then c - (k+1) else S.length - (k+1)+3+(S.length - S.length))),(5,ah (((kk,k2+1,R):Nat × Nat × List Int).2.1:Nat))]) (hp:=[.cells (gh W) e0 v0,.cells (gh R) 1 v]) 2 rfl ⟨rfl,rfl,rfl,cK (by simp),trivial⟩ (Nat.le_of_ble_eq_true rfl) rfl (two_inb _ _ _ _ _)⟩
    | false =>
     have e2':(!decide (a=b))=true:=by rw [e2];rfl
     refine aa (mu:=fun _=>false) ?_
     repeat' (first |((with_reducible show RM.wpOp _ _ (.load _ _) _ _ _);refine RM.Km rfl rfl rfl g3 ?_) |((with_reducible show RM.wpOp _ _ (.load _ _) _ _ _);refine RM.Km rfl rfl rfl g4 ?_) |((with_reducible show dN _ _ _ _ _ _);refine RM.uT rfl rfl rfl rfl rfl rfl hln ?_) |refine u1 ?_ |refine u2 ?_ |fail)
     exact ⟨(kk+1,k2+1,R.set kk a),⟨by dsimp only;rw [List.length_set];exact hR,by dsimp only;omega,by dsimp only;omega,by dsimp only;omega,by dsimp only;omega⟩,(by dsimp only;omega),aj.to (l:=[(0,.cS 1 v 0 S.length c),(3,ah (((kk+1,k2+1,R.set kk a):Nat × Nat × List Int).1:Nat)),(4,.cS 1 v (0+(k+1) * 1) (S.length - (k+1)) (bif Nat.beq S.length S.length && Nat.beq c S.length then S.length - (k+1) else bif Nat.beq S.length S.length then S.length - (k+1)+2 else bif Nat.ble (S.length+3) c then c - (k+1) else S.length - (k+1)+3+(S.length - S.length))),(5,ah (((kk+1,k2+1,R.set kk a):Nat × Nat × List Int).2.1:Nat))]) (hp:=[.cells (gh W) e0 v0,.cells (gh (R.set kk a)) 1 v]) 2 (by show _=[AB.cells (gh W) e0 v0,AB.cells (gh (R.set kk a)) 1 v];rw [←hset];rfl) ⟨rfl,cK (by simp),rfl,cK (by simp),trivial⟩ (Nat.le_of_ble_eq_true rfl) rfl (two_inb _ _ _ _ _)⟩
   ·have d3:decide ((k2:Int) < ((S.length - (k+1):Nat):Int))=false:=decide_eq_false (by omega)
    have hkk:kk < S.length:=by omega
    refine aa (mu:=fun _=>false) ?_
    repeat' (first |refine u1 ?_ |refine u2 ?_ |fail)
    refine aC.seq (aC.Gy (id1:=0) (id2:=0) (l1:=[_,_,_]) (l2:=[_]) rfl rfl ?_)
    refine RM.qK (mu:=fun _=>false) ?_
    repeat' (first |(refine ⟨kk,S.length,rfl,rfl,⟨(by omega),Nat.le_refl _⟩,(by decide),?_⟩) |refine u1 ?_ |refine u2 ?_ |fail)
    refine aC.op1 rfl (clearX rfl (show 1≤S.length - kk by omega) rfl rfl rfl rfl rfl rfl rfl (by show 0+kk * 1+(S.length - kk)≤_;rw [List.length_map];omega) ?_)
    refine aa (mu:=fun _=>false) ?_
    repeat' (first |(refine ⟨0,kk,rfl,rfl,⟨Nat.zero_le _,(by omega)⟩,(by decide),?_⟩) |refine u1 ?_ |refine u2 ?_ |fail)
    exact h1 _ _ _ (by omega)
 ·have dl:decide ((k:Int)+1 < (S.length:Int))=false:=decide_eq_false (by omega)
  have h3:=hq0 fun j hj=>hno j (by omega)
  refine aa (mu:=fun _=>false) ?_
  repeat' (first |refine u1 ?_ |refine u2 ?_ |fail)
  exact h3
end Go.Proofs.YtlpmfgmldmdggaaGreat
open Go Go.RM
namespace Go.Proofs.YtlpmfgmldmdggaaGreat
set_option maxRecDepth 100000
def maskL (l:List Int):Nat:=l.foldl (fun a m=>a ||| 2 ^ m.toNat) 0
theorem maskL_snoc (l:List Int) (z:Int):maskL (l++[z])=maskL l ||| 2 ^ z.toNat:=by
 unfold maskL
 rw [List.foldl_append]
 rfl
theorem maskL_take {l:List Int} {q:Nat} (h:q < l.length):maskL (l.take (q+1))=maskL (l.take q) ||| 2 ^ (inA l q).toNat:=by
 rw [List.take_add_one,inA_el h]
 exact maskL_snoc _ _
theorem fold_bit (l:List Int) (h:∀ x ∈ l,0≤x):∀ (a i:Nat),(l.foldl (fun a m=>a ||| 2 ^ m.toNat) a).testBit i=(a.testBit i || hsV l (i:Nat)):=by
 induction l with
 | nil=>intro a i;simp [hsV]
 | cons x l ih =>
  intro a i
  rw [List.foldl_cons,ih (fun y hy=>h y (List.mem_cons_of_mem _ hy)),Nat.testBit_or,Nat.testBit_two_pow]
  have hx:=h x (by simp)
  have e:decide (x.toNat=i)=decide (x=(i:Int)):=decide_eq_decide.2 (by omega)
  rw [e]
  unfold hsV
  rw [List.any_cons,Bool.or_assoc]
theorem maskL_bit {l:List Int} (h:∀ x ∈ l,0≤x) (i:Nat):(maskL l).testBit i=hsV l (i:Nat):=by
 unfold maskL
 rw [fold_bit l h,Nat.zero_testBit,Bool.false_or]
theorem fold_lt:∀ (l:List Int) (a:Nat),a < 32→(∀ x ∈ l,x < 5)→l.foldl (fun a m=>a ||| 2 ^ m.toNat) a < 32
 | [],a,ha,_=>ha
 | x :: l,a,ha,h=>by
  rw [List.foldl_cons]
  refine fold_lt l _ (Nat.or_lt_two_pow (n:=5) ha ?_) fun y hy=>h y (List.mem_cons_of_mem _ hy)
  have:=h x (by simp)
  have:(2:Nat) ^ x.toNat≤2 ^ 4:=Nat.pow_le_pow_right (by decide) (by omega)
  omega
theorem maskL_lt {l:List Int} (h:∀ x ∈ l,x < 5):maskL l < 32:=fold_lt l 0 (by decide) h
theorem and_ne {a b:Nat}:a &&& b ≠ 0 ↔ ∃ i,a.testBit i=true∧b.testBit i=true:=by
 constructor
 ·intro h
  obtain ⟨i,hi⟩:=Nat.exists_testBit_of_ne_zero h
  rw [Nat.testBit_and,Bool.and_eq_true] at hi
  exact ⟨i,hi⟩
 ·rintro ⟨i,h1,h2⟩ h0
  have:(a &&& b).testBit i=true:=by rw [Nat.testBit_and,h1,h2];rfl
  rw [h0,Nat.zero_testBit] at this
  cases this
theorem hsV_mem {l:List Int} {n:Int}:hsV l n=true ↔ n ∈ l:=by
 unfold hsV
 rw [List.any_eq_true]
 constructor
 ·rintro ⟨x,h1,h2⟩
  rw [←of_decide_eq_true h2]
  exact h1
 ·intro h
  exact ⟨n,h,decide_eq_true rfl⟩
theorem two_bits {b l:List Int} (hb:∀ x ∈ b,0≤x) (hl:∀ x ∈ l,0≤x):(!decide (((maskL l &&& maskL b:Nat):Int)=0))=l.any fun x=>hsV b x:=by
 have key:(maskL l &&& maskL b ≠ 0) ↔ (l.any fun x=>hsV b x)=true:=by
  rw [and_ne,List.any_eq_true]
  constructor
  ·rintro ⟨i,h1,h2⟩
   rw [maskL_bit hl] at h1
   rw [maskL_bit hb] at h2
   exact ⟨(i:Int),hsV_mem.1 h1,h2⟩
  ·rintro ⟨x,h1,h2⟩
   have hx:=hl x h1
   refine ⟨x.toNat,?_,?_⟩
   ·rw [maskL_bit hl,Int.toNat_of_nonneg hx]
    exact hsV_mem.2 h1
   ·rw [maskL_bit hb,Int.toNat_of_nonneg hx]
    exact h2
 cases he:(l.any fun x=>hsV b x) with
 | true =>
  have:=key.2 he
  rw [decide_eq_false (by omega)]
  rfl
 | false =>
  have:maskL l &&& maskL b=0:=Decidable.not_not.1 fun h=>by rw [key.1 h] at he;cases he
  rw [this]
  rfl
theorem not_bit {a i:Nat} (ha:a < 32) (hi:i < 5):(18446744073709551615 - a).testBit i=!a.testBit i:=by
 have h:(18446744073709551615 - a)=2 ^ 64 - (a+1):=by omega
 rw [h,Nat.testBit_two_pow_sub_succ (by omega)]
 rw [decide_eq_true (show i < 64 by omega),Bool.true_and]
theorem gone_bits {c:ay} (hm:c.aG.length≤5) {l:List Int} (h0:∀ x ∈ l,0≤x∧x < 5) (r:Nat):goneB (maskL l) (menM c r c.aG.length)=rkGone c l r:=by
 have hl:maskL l < 32:=maskL_lt fun x hx=>(h0 x hx).2
 have hbit:=fun i=>menM_bit c r c.aG.length i
 have k1:(menM c r c.aG.length ≠ 0) ↔ 0 < cntR c r c.aG.length:=by
  unfold cntR
  rw [List.countP_pos_iff]
  constructor
  ·intro h
   obtain ⟨i,hi⟩:=Nat.exists_testBit_of_ne_zero h
   rw [hbit,Bool.and_eq_true] at hi
   exact ⟨i,List.mem_range.2 (of_decide_eq_true hi.1),hi.2⟩
  ·rintro ⟨i,h1,h2⟩ h
   have:=hbit i
   rw [h,Nat.zero_testBit,decide_eq_true (List.mem_range.1 h1),h2] at this
   cases this
 have k2:(menM c r c.aG.length &&& (18446744073709551615 - maskL l)=0) ↔ ∀ i,i < c.aG.length→rkAt c i=r→hsV l (i:Nat)=true:=by
  rw [←Decidable.not_iff_not,←ne_eq,and_ne]
  constructor
  ·rintro ⟨i,h1,h2⟩ h
   rw [hbit,Bool.and_eq_true] at h1
   have hin:=of_decide_eq_true h1.1
   rw [not_bit hl (by omega),maskL_bit (fun x hx=>(h0 x hx).1),h i hin (of_decide_eq_true h1.2)] at h2
   cases h2
  ·intro h
   obtain ⟨i,h⟩:=Classical.not_forall.1 h
   obtain ⟨hin,h⟩:=Classical.not_imp.1 h
   obtain ⟨hr,h⟩:=Classical.not_imp.1 h
   refine ⟨i,?_,?_⟩
   ·rw [hbit,decide_eq_true hin,decide_eq_true hr]
    rfl
   ·rw [not_bit hl (by omega),maskL_bit (fun x hx=>(h0 x hx).1)]
    cases hv:hsV l (i:Nat) with
    | true=>exact absurd hv h
    | false=>rfl
 have k3:(gonR c l r c.aG.length=cntR c r c.aG.length) ↔ ∀ i,i < c.aG.length→rkAt c i=r→hsV l (i:Nat)=true:=by
  unfold gonR cntR
  have e:∀ L:List Nat,(L.countP (fun m=>decide (rkAt c m=r) && hsV l (m:Nat))=L.countP fun m=>decide (rkAt c m=r)) ↔ ∀ i ∈ L,rkAt c i=r→hsV l (i:Nat)=true:=by
   intro L
   induction L with
   | nil=>simp
   | cons a L ih =>
    have hle:L.countP (fun m=>decide (rkAt c m=r) && hsV l (m:Nat))≤L.countP fun m=>decide (rkAt c m=r):=List.countP_mono_left fun x _ hx=>by
     rw [Bool.and_eq_true] at hx
     exact hx.1
    rw [List.countP_cons,List.countP_cons,List.forall_mem_cons,←ih]
    by_cases hr:rkAt c a=r
    ·by_cases hv:hsV l (a:Nat)=true
     ·simp [hr,hv]
     ·have hv':hsV l (a:Nat)=false:=by simpa using hv
      simp only [hr,hv',decide_true,Bool.and_false,if_true,Bool.false_eq_true,if_false]
      constructor
      ·intro h;omega
      ·rintro ⟨h,_⟩;exact absurd h (by simp)
    ·simp [hr]
  rw [e]
  exact ⟨fun h i hi=>h i (List.mem_range.2 hi),fun h i hi=>h i (List.mem_range.1 hi)⟩
 have d1:(!decide ((menM c r c.aG.length:Int)=0))=decide (0 < cntR c r c.aG.length):=by
  by_cases h:menM c r c.aG.length=0
  ·rw [h,decide_eq_false (fun h2=>k1.2 h2 h)]
   rfl
  ·rw [decide_eq_false (show ¬ ((menM c r c.aG.length:Int)=0) by omega),decide_eq_true (k1.1 h)]
   rfl
 have d2:decide (((menM c r c.aG.length &&& (18446744073709551615 - maskL l):Nat):Int)=0)=decide (gonR c l r c.aG.length=cntR c r c.aG.length):=by
  rw [decide_eq_decide]
  constructor
  ·intro h;exact k3.2 (k2.1 (by omega))
  ·intro h;have:=k2.2 (k3.1 h);omega
 unfold goneB rkGone
 rw [d1,d2]
theorem rkGone_big {c:ay} (hg:Good c) {l:List Int} {r:Nat} (hr:c.aA.length≤r):rkGone c l r=false:=by
 unfold rkGone
 have:cntR c r c.aG.length=0:=by
  unfold cntR
  rw [List.countP_eq_zero]
  intro i hi
  have hin:=List.mem_range.1 hi
  have hm:=hg.qT _ (List.getElem_mem hin)
  have:rkAt c i=c.aG[i].iN.toNat:=by unfold rkAt;rw [List.getElem?_eq_getElem hin];rfl
  rw [decide_eq_true_eq,this]
  omega
 rw [this]
 rfl
theorem spr_gone {c:ay} (hg:Good c) {l:List Int} (h0:∀ x ∈ l,0≤x∧x < 5):sprB (menM c 0 c.aG.length) (menM c 1 c.aG.length) (menM c 2 c.aG.length) (maskL l)=!anyGone c l:=by
 have hm:=hg.aG.2
 unfold sprB
 rw [gone_bits hm h0,gone_bits hm h0,gone_bits hm h0]
 congr 1
 unfold anyGone
 have hr:=hg.aA
 have Lx:=fun r (h:c.aA.length≤r)=>rkGone_big hg (l:=l) h
 obtain e|e|e:c.aA.length=1∨c.aA.length=2∨c.aA.length=3:=by omega
 ·rw [e,Lx 1 (by omega),Lx 2 (by omega)]
  simp [List.range_succ]
 ·rw [e,Lx 2 (by omega)]
  simp [List.range_succ]
 ·rw [e]
  simp [List.range_succ]
def dsc2 (l:List Int):Bool:=(List.range (l.length - 1)).any fun j=>decide (inA l (j+1) < inA l j)
theorem dsc_no {l:List Int} (h:¬ noEq l):dscB l=true:=by
 unfold noEq at h
 obtain ⟨j,h⟩:=Classical.not_forall.1 h
 obtain ⟨h1,h⟩:=Classical.not_imp.1 h
 have h2:=Decidable.not_not.1 h
 exact List.any_eq_true.2 ⟨j,List.mem_range.2 (by omega),decide_eq_true (by omega)⟩
theorem dsc_eq {l:List Int} (h:noEq l):dscB l=dsc2 l:=by
 unfold dscB dsc2
 rw [Bool.eq_iff_iff,List.any_eq_true,List.any_eq_true]
 constructor
 ·rintro ⟨j,h1,h2⟩
  have:=h j (by have:=List.mem_range.1 h1;omega)
  have:=of_decide_eq_true h2
  exact ⟨j,h1,decide_eq_true (by omega)⟩
 ·rintro ⟨j,h1,h2⟩
  have:=of_decide_eq_true h2
  exact ⟨j,h1,decide_eq_true (by omega)⟩
theorem asc_lt {l:List Int} (h:dscB l=false):∀ d j,j+d+1 < l.length→inA l j < inA l (j+d+1)
 | 0,j,hj=>by
  have:=List.any_eq_false.1 h j (List.mem_range.2 (by omega))
  simp only [decide_eq_true_eq] at this
  show inA l j < inA l (j+1)
  omega
 | d+1,j,hj=>by
  have h1:=asc_lt h d j (by omega)
  have h2:=List.any_eq_false.1 h (j+d+1) (List.mem_range.2 (by omega))
  simp only [decide_eq_true_eq] at h2
  show inA l j < inA l (j+d+1+1)
  omega
theorem asc_new {l:List Int} (h:dscB l=false) {q:Nat} (hq:q < l.length):hsV (l.take q) (inA l q)=false:=by
 cases hv:hsV (l.take q) (inA l q) with
 | false=>rfl
 | true =>
  obtain ⟨j,hj,he⟩:=List.getElem_of_mem (hsV_mem.1 hv)
  rw [List.length_take] at hj
  rw [List.getElem_take] at he
  have h1:=inA_el (l:=l) (q:=j) (by omega)
  rw [List.getElem?_eq_getElem (by omega),he] at h1
  have h2:=asc_lt h (q - j - 1) j (by omega)
  rw [show j+(q - j - 1)+1=q by omega] at h2
  have:=Option.some.inj h1
  omega
def wq (T:List (List Int)) (k:Nat) (l:List Int) (q:Nat):List Int:=(List.range 5).map fun m=>(cnT T m k:Int)+if hsV (l.take q) (m:Nat)=true then 1 else 0
def wk (T:List (List Int)) (k:Nat):List Int:=(List.range 5).map fun m=>(cnT T m k:Int)
theorem wq_zero (T:List (List Int)) (k:Nat) (l:List Int):wq T k l 0=wk T k:=by
 unfold wq wk
 apply List.map_congr_left
 intro m _
 rw [List.take_zero,if_neg (by simp [hsV])]
 omega
theorem wq_end {T:List (List Int)} {k:Nat} (hk:k < T.length):wq T k T[k] T[k].length=wk T (k+1):=by
 unfold wq wk
 apply List.map_congr_left
 intro m _
 rw [List.take_length,cnT_succ hk]
 split <;> simp
theorem wq_len (T:List (List Int)) (k:Nat) (l:List Int) (q:Nat):(wq T k l q).length=5:=by unfold wq;simp
theorem wq_at {T:List (List Int)} {k:Nat} {l:List Int} {q m:Nat} (hm:m < 5):(wq T k l q)[m]?=some ((cnT T m k:Int)+if hsV (l.take q) (m:Nat)=true then 1 else 0):=by
 unfold wq
 rw [List.getElem?_map,List.getElem?_range hm]
 rfl
theorem wk_at {T:List (List Int)} {k m:Nat} (hm:m < 5):(wk T k)[m]?=some (cnT T m k:Int):=by
 unfold wk
 rw [List.getElem?_map,List.getElem?_range hm]
 rfl
theorem wq_set {T:List (List Int)} {k:Nat} {l:List Int} (hd:dscB l=false) {q m:Nat} (hq:q < l.length) (hz:inA l q=(m:Nat)):(wq T k l q).set m ((cnT T m k:Int)+1)=wq T k l (q+1):=by
 have hnew:=asc_new hd hq
 apply List.ext_getElem?
 intro i
 by_cases hi:i < 5
 ·by_cases him:i=m
  ·subst him
   rw [List.getElem?_set_self (by rw [wq_len];exact hi),wq_at hi,hsV_take (inA_el hq),hz]
   simp
  ·rw [List.getElem?_set_ne (Ne.symm him),wq_at hi,wq_at hi,hsV_take (inA_el hq),hz,decide_eq_false (by omega),Bool.or_false]
 ·rw [List.getElem?_eq_none (by rw [List.length_set,wq_len];omega),List.getElem?_eq_none (by rw [wq_len];omega)]
end Go.Proofs.YtlpmfgmldmdggaaGreat
open Go Go.RM
namespace Go.Proofs.YtlpmfgmldmdggaaGreat
set_option maxRecDepth 100000
set_option maxHeartbeats 4000000
theorem less_c (one:Bool) (a b:Int):Pu one 110 [ah a,ah b] (BB (decide (a < b))):=by
 have o1:=Jk one a
 refine af.body (fn:=Tryz.f110) rfl rfl rfl rfl ?_
 refine aa (mu:=fun _=>false) ?_
 repeat' (first |refine u1 ?_ |((with_reducible show ai _ _ _ _ _ _ _ _);refine af.call o1 rfl rfl ?_) |refine u2 ?_ |fail)
 exact ⟨[_],⟨Fz.deep rfl,trivial⟩,rfl⟩
theorem sorted_c (one:Bool) (l:List Int) (f:Bool) (hl:l.length≤maxLen):Pu one 78 [.sl (ints l) f] (BB (!dsc2 l)):=by
 have el:((ints l).length:Int)=l.length:=by simp
 have hl':l.length≤maxLen:=hl
 simp only [maxLen] at hl'
 refine af.body (fn:=Tryz.f78) rfl rfl rfl rfl ?_
 refine aa (mu:=fun _=>false) ?_
 repeat' (first |refine u1 ?_ |refine u2 ?_ |fail)
 refine aC.bx (aj.to (l:=[(0,.sl (ints l) f),(3,ah ((l.length:Nat) - 1))]) (hp:=[]) 0 rfl ⟨rfl,cK (by rw [el]),trivial⟩ (Nat.zero_le _) rfl rfl) ?_
 refine aC.loop (fun n:Nat=>n≤l.length∧∀ j,n≤j+1→j+1 < l.length→¬ inA l (j+1) < inA l j) (fun n=>⟨bM [(0,.sl (ints l) f),(3,ah ((n:Nat) - 1))],[],bw.none,false,0⟩) (fun n=>n) ?_ l.length ⟨Nat.le_refl _,fun j h1 h2=>by omega⟩
 rintro n ⟨hn,hno⟩
 by_cases h2:2≤n
 ·have dl:decide ((0:Int) < (n:Int) - 1)=true:=decide_eq_true (by omega)
  have g1:(ints l)[((n:Int) - 1).toNat]?=some (eI (inA l (n - 1))):=by rw [show ((n:Int) - 1).toNat=(((n - 1:Nat)):Int).toNat by omega];exact inA_at (by omega)
  have g2:(ints l)[((n:Int) - 1 - 1).toNat]?=some (eI (inA l (n - 2))):=by rw [show ((n:Int) - 1 - 1).toNat=(((n - 2:Nat)):Int).toNat by omega];exact inA_at (by omega)
  have hyes:inA l (n - 1) < inA l (n - 2)→dsc2 l=true:=fun h=>List.any_eq_true.2 ⟨n - 2,List.mem_range.2 (by omega),decide_eq_true (by rw [show n - 2+1=n - 1 by omega];exact h)⟩
  have hnx:¬ inA l (n - 1) < inA l (n - 2)→∀ j,n - 1≤j+1→j+1 < l.length→¬ inA l (j+1) < inA l j:=fun h j h3 h4=>by
   by_cases e:j=n - 2
   ·rw [e,show n - 2+1=n - 1 by omega];exact h
   ·exact hno j (by omega) h4
  generalize inA l (n - 1)=y at *
  generalize inA l (n - 2)=z at *
  have o1:=less_c true y z
  cases e:decide (y < z) with
  | true =>
   rw [e] at o1
   rw [hyes (of_decide_eq_true e)]
   refine aa (mu:=fun _=>false) ?_
   repeat' (first |(refine ⟨_,_,.inl ⟨rfl,rfl⟩,o1,?_⟩) |refine u1 ?_ |(refine ⟨[ah y],⟨by omega,g1⟩,rfl,?_⟩) |(refine ⟨[ah z],⟨by omega,g2⟩,rfl,?_⟩) |refine u2 ?_ |fail)
   exact ⟨[_],⟨Fz.deep rfl,trivial⟩,rfl⟩
  | false =>
   rw [e] at o1
   refine aa (mu:=fun _=>false) ?_
   repeat' (first |(refine ⟨_,_,.inl ⟨rfl,rfl⟩,o1,?_⟩) |refine u1 ?_ |(refine ⟨[ah y],⟨by omega,g1⟩,rfl,?_⟩) |(refine ⟨[ah z],⟨by omega,g2⟩,rfl,?_⟩) |refine u2 ?_ |fail)
   exact ⟨n - 1,⟨by omega,hnx (of_decide_eq_false e)⟩,(by dsimp only;omega),aj.to (l:=[(0,.sl (ints l) f),(3,ah (((n - 1):Nat) - 1))]) 0 rfl ⟨rfl,cK (by omega),trivial⟩ (Nat.zero_le _) rfl rfl⟩
 ·have dl:decide ((0:Int) < (n:Int) - 1)=false:=decide_eq_false (by omega)
  have hv:dsc2 l=false:=by
   cases hd:dsc2 l with
   | false=>rfl
   | true =>
    obtain ⟨j,h3,h4⟩:=List.any_eq_true.1 hd
    exact absurd (of_decide_eq_true h4) (hno j (by omega) (by have:=List.mem_range.1 h3;omega))
  rw [hv]
  refine aa (mu:=fun _=>false) ?_
  repeat' (first |refine u1 ?_ |refine u2 ?_ |fail)
  exact ⟨[_],⟨Fz.deep rfl,trivial⟩,rfl⟩
theorem PureV_nil {one:Bool} {F v:AV} {a c:List AV} {b:Bool} (h:af TT TB one F (a++.sl [] b :: c) v):af TT TB one F (a++.fl (.slice none 0 0) :: c) v:=by
 refine ⟨h.1,fun X H u us hw hx hF hA=>h.2 X H u us hw hx hF ⟨?_,fun i x w hi hu=>?_⟩⟩
 ·have:=hA.1
  simp only [List.length_append,List.length_cons] at this ⊢
  exact this
 ·by_cases hlt:i < a.length
  ·rw [List.getElem?_append_left hlt] at hi
   exact hA.2 i x w (by rw [List.getElem?_append_left hlt];exact hi) hu
  ·have ha:=fun y=>hA.2 i y w
   rw [List.getElem?_append_right (by omega)] at hi ha
   cases hj:i - a.length with
   | zero =>
    rw [hj] at hi ha
    obtain rfl:=Option.some.inj hi
    have:=ha _ rfl hu
    cases this
    exact .nil
   | succ j =>
    rw [hj] at hi ha
    exact ha x hi hu
theorem compact_nil (one:Bool):af TT TB one (.fn 76 [] []) [.fl (.slice none 0 0)] (.sl [] false):=by
 refine PureV_nil (a:=[]) (c:=[]) (b:=false) ?_
 have d2:decide ((([]:List (List AV)).length:Int) < 2)=true:=rfl
 refine af.body (fn:=Tryz.f76) rfl rfl rfl rfl ?_
 refine aa (mu:=fun _=>false) ?_
 repeat' (first |refine u1 ?_ |refine u2 ?_ |fail)
 exact ⟨[_],⟨Fz.deep rfl,trivial⟩,rfl⟩
theorem outl_c (one:Bool) (lo hi:Int) (l:List Int) (f:Bool) (hl:l.length≤maxLen):Pu one 51 [ah lo,ah hi,.sl (ints l) f] (BB (ec lo hi l)):=by
 have h:=EZ one lo hi (ints l) f (by rw [List.all_map,List.all_eq_true];intro x _;rfl) (by rw [List.length_map];exact hl)
 have e:(ints l).map JF=l:=by
  rw [List.map_map]
  exact List.map_id' _
 rwa [e] at h
end Go.Proofs.YtlpmfgmldmdggaaGreat
