/-
  Contracts of the program's functions and of the document's. Lemmas alone; their conditions stand in them.
-/
import Derived.Test.YtpeogffeoehboaaDoorS2
import Derived.Test.YtpeogffeoehboaaDoorK9
open Go Go.RM
namespace Go.Proofs.YtpeogffeoehboaaDoor
set_option maxRecDepth 100000
set_option maxHeartbeats 4000000
theorem bools_flat:∀ l:List Bool,(l.map eB).flatten=l.map BB
 | []=>rfl
 | x :: l=>by
  show (eB x++(l.map eB).flatten)=_
  rw [bools_flat l]
  rfl
theorem bools_one (l:List Bool):(l.map eB).flatten.all AV.one=true:=by
 rw [bools_flat,List.all_map,List.all_eq_true]
 intro x _
 rfl
theorem bools_deep (l:List Bool):ct (l.map eB).flatten=true:=by
 rw [bools_flat]
 exact pg (fun _=>rfl) l
theorem bools_len (l:List Bool):(l.map eB).flatten.length=l.length:=by rw [bools_flat,List.length_map]
theorem row_b {came:List Bool} {b:Bool} {hp:List AB} {j v k:Nat} (hv:hp[j]?=some (.cells (([]:List AV)++(came.map eB).flatten++[eB b].flatten) 1 v)):Fz hp (.cQ j v 0 (0+(came.map eB).length+1) k) (.sl ((came++[b]).map eB) false):=by
 refine Fz.row (es:=1) hv ?_ ?_ (fun el hel=>by obtain ⟨t,_,rfl⟩:=List.mem_map.1 hel;rfl) ?_ ?_ (fun h=>Bool.noConfusion h)
 ·rw [List.nil_append,List.length_append,bools_len,List.length_map]
  show _≤came.length+1
  omega
 ·rw [List.length_map,List.length_append,List.length_map]
  show came.length+1=0+came.length+1
  omega
 ·rw [List.drop_zero,List.take_of_length_le,List.map_append,List.flatten_append]
  ·rfl
  ·rw [List.nil_append,List.length_append,bools_len,List.length_map]
   show came.length+1≤_
   omega
 ·exact bools_deep (came++[b])
theorem free_two (a b:Int):fR (.tp [aD a,aD b]):=fR.tp fun c hc=>by simp only [List.mem_cons,List.not_mem_nil,or_false] at hc;rcases hc with rfl|rfl <;> exact fR.fl _
theorem stills_c (s:ay) (hs:s.Ok) (p:List Order) (full:Bool) (hp:B1 p) (came:List Bool) (hcl:came.length≤maxLen):Pu false 8 [.ag (az s),.sl (p.map av) full,.sl (came.map eB) false] (BB true):=by
 have o1:=bears_c false s hs p full hp
 have o2:Pu false 30 [.ag (az s),.sl (p.map av) full,.fl (.slice none 0 0)] (.tp [aD (stillR s p []).1,aD (stillR s p []).2]):=uR (a:=[.ag (az s),.sl (p.map av) full]) (b:=false) (still_c false s hs p full hp [] false (Nat.zero_le _))
 have o3:=F9 false s hs p full hp
 have o4:=still_c false s hs p full hp came false hcl
 have aw:=KB false
 have mc:came.length≤9223372036854775807:=Nat.le_trans hcl (by simp [maxLen])
 have mp:p.length≤9223372036854775807:=Nat.le_trans hp.len (by simp [maxLen])
 have ep:((p.map av).length:Int)=p.length:=by simp
 have ec:((came.map eB).length:Int)=came.length:=by simp
 have z0:decide ((0:Int)=0)=true:=by decide
 have z1:(!decide ((0:Int)=0))=false:=by decide
 have z3:decide ((3:Int)=3)=true:=by decide
 have z9:decide ((9:Int)=9)=true:=by decide
 have z90:(!decide ((9:Int)=0))=true:=by decide
 by_cases c1:(dD s p).2=0
 ·rw [c1] at o3
  have n1:(!decide ((stillR s p []).1=(stillR s p []).1))=false:=by rw [decide_eq_true rfl];rfl
  have n2:(!decide ((stillR s p []).2=(stillR s p []).2))=false:=by rw [decide_eq_true rfl];rfl
  generalize stillR s p []=e0 at *
  by_cases c2:p.length≤came.length
  ·have d1:decide (((p.map av).length:Int)≤((came.map eB).length:Int))=true:=decide_eq_true (by omega)
   by_cases c3:p.length=came.length
   ·have d2:decide (((came.map eB).length:Int)=((p.map av).length:Int))=true:=decide_eq_true (by omega)
    have e1:(stillR s p came).1=0:=by
     have hb:=(stillV_iff (yC c1).good (p:=p) (known:=came.length) (f:=cbits came) (m:=p.length - came.length)).1
     unfold stillR
     rw [if_neg (by omega),if_neg (by omega)]
     split
     ·rfl
     ·dsimp only;omega
    rw [e1] at o4
    generalize (stillR s p came).2=e2 at *
    refine af.body (fn:=Tryd.f8) rfl rfl rfl rfl ?_
    refine ah (mu:=fun t=>Nat.beq t 109 || Nat.beq t 111 || Nat.beq t 113 || Nat.beq t 160 || Nat.beq t 162 || Nat.beq t 164) ?_
    repeat' (first |refine u1 ?_ |((with_reducible show ak _ _ _ _ _ _ _ _);refine af.call o1 rfl rfl ?_) |((with_reducible show ak _ _ _ _ _ _ _ _);refine af.call o2 rfl rfl ?_) |((with_reducible show ak _ _ _ _ _ _ _ _);refine af.call o3 rfl rfl ?_) |((with_reducible show ak _ _ _ _ _ _ _ _);refine af.call o4 rfl rfl ?_) |((with_reducible show ak _ _ _ _ _ _ _ _);refine af.call aw rfl rfl ?_) |refine u2 ?_ |fail)
    exact ⟨[_],⟨Fz.deep rfl,trivial⟩,rfl⟩
   ·have d2:decide (((came.map eB).length:Int)=((p.map av).length:Int))=false:=decide_eq_false (by omega)
    have e1:stillR s p came=(0,3):=by
     unfold stillR
     rw [if_neg (by omega),if_pos (by omega)]
    rw [e1] at o4
    refine af.body (fn:=Tryd.f8) rfl rfl rfl rfl ?_
    refine ah (mu:=fun t=>Nat.beq t 109 || Nat.beq t 111 || Nat.beq t 113 || Nat.beq t 160 || Nat.beq t 162 || Nat.beq t 164) ?_
    repeat' (first |refine u1 ?_ |((with_reducible show ak _ _ _ _ _ _ _ _);refine af.call o1 rfl rfl ?_) |((with_reducible show ak _ _ _ _ _ _ _ _);refine af.call o2 rfl rfl ?_) |((with_reducible show ak _ _ _ _ _ _ _ _);refine af.call o3 rfl rfl ?_) |((with_reducible show ak _ _ _ _ _ _ _ _);refine af.call o4 rfl rfl ?_) |((with_reducible show ak _ _ _ _ _ _ _ _);refine af.call aw rfl rfl ?_) |refine u2 ?_ |fail)
    exact ⟨[_],⟨Fz.deep rfl,trivial⟩,rfl⟩
  ·have hpl:came.length < p.length:=by omega
   have hpg:=yC c1
   have p8:=hpg.len
   have d1:decide (((p.map av).length:Int)≤((came.map eB).length:Int))=false:=decide_eq_false (by omega)
   obtain ⟨hbr,_⟩:=stillV_iff hpg.good (p:=p) (known:=came.length) (f:=cbits came) (m:=p.length - came.length)
   by_cases c4:stillV s p came.length (cbits came) (p.length - came.length) < 0
   ·have e1:stillR s p came=(0,9):=by
     unfold stillR
     rw [if_neg (by omega),if_neg (by omega),if_pos c4]
    rw [e1] at o4
    refine af.body (fn:=Tryd.f8) rfl rfl rfl rfl ?_
    refine ah (mu:=fun t=>Nat.beq t 109 || Nat.beq t 111 || Nat.beq t 113 || Nat.beq t 160 || Nat.beq t 162 || Nat.beq t 164) ?_
    repeat' (first |refine u1 ?_ |((with_reducible show ak _ _ _ _ _ _ _ _);refine af.call o1 rfl rfl ?_) |((with_reducible show ak _ _ _ _ _ _ _ _);refine af.call o2 rfl rfl ?_) |((with_reducible show ak _ _ _ _ _ _ _ _);refine af.call o3 rfl rfl ?_) |((with_reducible show ak _ _ _ _ _ _ _ _);refine af.call o4 rfl rfl ?_) |((with_reducible show ak _ _ _ _ _ _ _ _);refine af.call aw rfl rfl ?_) |refine u2 ?_ |fail)
    exact ⟨[_],⟨Fz.deep rfl,trivial⟩,rfl⟩
   ·have e1:=stillR_ok c1 (by omega) (by omega:0≤stillV s p came.length (cbits came) (p.length - came.length))
    rw [e1] at o4
    obtain ⟨r1,hr1,hm1⟩:=good_still c1 hpl (by omega)
    have hbad:=bad_still (s:=s) (p:=p) (came:=came) c1 hpl
    generalize stillV s p came.length (cbits came) (p.length - came.length)=r at *
    have hrx:-9223372036854775808≤r - 1∧r - 1≤9223372036854775807:=by omega
    have hrb:=rowAt_b (cbits came) came.length
    have lt1:(came++[true]).length≤maxLen:=by rw [List.length_append,List.length_singleton];simp [maxLen];omega
    have lt2:(came++[false]).length≤maxLen:=by rw [List.length_append,List.length_singleton];simp [maxLen];omega
    have hgc:=still_c true s hs p full hp (came++[true]) false lt1
    rw [hr1] at hgc
    have hbc:=still_c true s hs p full hp (came++[false]) false lt2
    have hb1:(0+(came.map eB).length) * 1≤140737488355328∧0+(came.map eB).length≤9223372036854775807:=by rw [List.length_map];omega
    have hb2:(0+(came.map eB).length+1) * 1≤140737488355328∧0+(came.map eB).length+1≤9223372036854775807:=by rw [List.length_map];omega
    have hq1:(([]:List AV)++(came.map eB).flatten).length=(0+(came.map eB).length) * 1:=by rw [List.nil_append,bools_len,List.length_map];omega
    have m1:decide (r1 < min r (((p.map av).length:Int) - ((came.map eB).length:Int) - 1))=false:=decide_eq_false (by rw [ep,ec];omega)
    have m2:decide (((p.map av).length:Int) - ((came.map eB).length:Int) - 1+1 < r)=false:=decide_eq_false (by rw [ep,ec];omega)
    have hLb:0≤((p.map av).length:Int) - ((came.map eB).length:Int) - 1∧((p.map av).length:Int) - ((came.map eB).length:Int) - 1≤8:=by omega
    have hrow:∀ m:Nat,m < came.length→rowAt (cbits came) (m+1)=if came[m]?=some false then rowAt (cbits came) m+1 else 0:=fun m hm=>by
     rw [rowAt_succ,cbits_bit hm,List.getElem?_eq_getElem hm]
     cases came[m] <;> simp
    generalize hRW:rowAt (cbits came) came.length=RW at *
    refine af.body (fn:=Tryd.f8) rfl rfl rfl rfl ?_
    refine RM.qk (mu:=fun t=>Nat.beq t 109 || Nat.beq t 111 || Nat.beq t 113 || Nat.beq t 160 || Nat.beq t 162 || Nat.beq t 164) ?_
    repeat' (first |refine u1 ?_ |refine u2 ?_ |fail)
    refine RM.qk (mu:=fun t=>Nat.beq t 109 || Nat.beq t 111 || Nat.beq t 113 || Nat.beq t 160 || Nat.beq t 162 || Nat.beq t 164) ?_
    repeat' (first |refine u1 ?_ |((with_reducible show ak _ _ _ _ _ _ _ _);refine af.call o1 rfl rfl ?_) |refine u2 ?_ |fail)
    refine RM.qk (mu:=fun t=>Nat.beq t 109 || Nat.beq t 111 || Nat.beq t 113 || Nat.beq t 160 || Nat.beq t 162 || Nat.beq t 164) ?_
    repeat' (first |refine u1 ?_ |((with_reducible show ak _ _ _ _ _ _ _ _);refine af.call o2 rfl rfl ?_) |refine u2 ?_ |fail)
    refine RM.qk (mu:=fun t=>Nat.beq t 109 || Nat.beq t 111 || Nat.beq t 113 || Nat.beq t 160 || Nat.beq t 162 || Nat.beq t 164) ?_
    repeat' (first |refine u1 ?_ |((with_reducible show ak _ _ _ _ _ _ _ _);refine af.call o3 rfl rfl ?_) |refine u2 ?_ |fail)
    refine RM.qk (mu:=fun t=>Nat.beq t 109 || Nat.beq t 111 || Nat.beq t 113 || Nat.beq t 160 || Nat.beq t 162 || Nat.beq t 164) ?_
    repeat' (first |refine u1 ?_ |refine u2 ?_ |fail)
    refine RM.qk (mu:=fun t=>Nat.beq t 109 || Nat.beq t 111 || Nat.beq t 113 || Nat.beq t 160 || Nat.beq t 162 || Nat.beq t 164) ?_
    repeat' (first |refine u1 ?_ |refine u2 ?_ |fail)
    refine RM.qk (mu:=fun t=>Nat.beq t 109 || Nat.beq t 111 || Nat.beq t 113 || Nat.beq t 160 || Nat.beq t 162 || Nat.beq t 164) ?_
    repeat' (first |refine u1 ?_ |((with_reducible show ak _ _ _ _ _ _ _ _);refine af.call o4 rfl rfl ?_) |refine u2 ?_ |fail)
    refine RM.qk (mu:=fun t=>Nat.beq t 109 || Nat.beq t 111 || Nat.beq t 113 || Nat.beq t 160 || Nat.beq t 162 || Nat.beq t 164) ?_
    repeat' (first |refine u1 ?_ |refine u2 ?_ |fail)
    refine RM.qk (mu:=fun t=>Nat.beq t 109 || Nat.beq t 111 || Nat.beq t 113 || Nat.beq t 160 || Nat.beq t 162 || Nat.beq t 164) ?_
    repeat' (first |refine u1 ?_ |refine u2 ?_ |fail)
    refine RM.qk (mu:=fun t=>Nat.beq t 109 || Nat.beq t 111 || Nat.beq t 113 || Nat.beq t 160 || Nat.beq t 162 || Nat.beq t 164) ?_
    repeat' (first |((with_reducible show RM.wpOp _ _ (.call _) _ _ _);refine RM.IZ (cs:=[]) (n:=0) (c:=0) (els:=came.map eB) rfl rfl rfl rfl rfl (fun el hel=>(by obtain ⟨t,_,rfl⟩:=List.mem_map.1 hel;rfl)) (bools_one came) rfl rfl (.inl rfl) hb1 (fun v c' hc'=>?_)) |((with_reducible show RM.wpOp _ _ (.call _) _ _ _);refine RM.IZ (cs:=[]++(came.map eB).flatten) (n:=0+(came.map eB).length) (els:=[eB true]) rfl rfl rfl rfl rfl (fun el hel=>by rw [List.mem_singleton.1 hel];rfl) rfl rfl hq1 hc' hb2 (fun v9 c9 hc9=>?_)) |(refine RM.n2 hgc rfl rfl rfl ⟨Fz.deep rfl,Fz.deep rfl,row_b rfl,trivial⟩ (free_two _ _) ?_) |refine u1 ?_ |refine u2 ?_ |fail)
    refine RM.qk (mu:=fun t=>Nat.beq t 109 || Nat.beq t 111 || Nat.beq t 113 || Nat.beq t 160 || Nat.beq t 162 || Nat.beq t 164) ?_
    repeat' (first |refine u1 ?_ |refine u2 ?_ |fail)
    refine RM.qk (mu:=fun t=>Nat.beq t 109 || Nat.beq t 111 || Nat.beq t 113 || Nat.beq t 160 || Nat.beq t 162 || Nat.beq t 164) ?_
    repeat' (first |refine u1 ?_ |refine u2 ?_ |fail)
    refine RM.cutAt (st':=⟨bZ [(1,.sl (p.map av) full),(2,.sl (came.map eB) false),(3,.pt (az s) 0),(13,aD r),(14,aD (((p.map av).length:Int) - ((came.map eB).length:Int) - 1)),(16,aD (1+RW))],[],cF.none,false,0⟩) ?_ ?_
    ·refine RM.qk (mu:=fun t=>Nat.beq t 109 || Nat.beq t 111 || Nat.beq t 113 || Nat.beq t 160 || Nat.beq t 162 || Nat.beq t 164) ?_
     repeat' (first |refine u1 ?_ |refine u2 ?_ |fail)
     refine aF.block ?_
     refine aF.bf (ax.to (l:=[(1,.sl (p.map av) full),(2,.sl (came.map eB) false),(3,.pt (az s) 0),(13,aD r),(14,aD (((p.map av).length:Int) - ((came.map eB).length:Int) - 1)),(16,aD (1+((came.length:Int) - (came.length:Nat)))),(17,aD (((came.length:Nat):Int) - 1))]) (hp:=[]) 0 rfl ⟨rfl,rfl,rfl,rfl,rfl,bg (by omega),bg (by omega),trivial⟩ (Nat.zero_le _) rfl rfl) ?_
     refine aF.loop (fun m:Nat=>m≤came.length∧RW=rowAt (cbits came) m+((came.length:Int) - (m:Int))) (fun m=>⟨bZ [(1,.sl (p.map av) full),(2,.sl (came.map eB) false),(3,.pt (az s) 0),(13,aD r),(14,aD (((p.map av).length:Int) - ((came.map eB).length:Int) - 1)),(16,aD (1+((came.length:Int) - (m:Nat)))),(17,aD (((m:Nat):Int) - 1))],[],cF.none,false,0⟩) (fun m=>m) ?_ came.length ⟨Nat.le_refl _,by omega⟩
     rintro m ⟨hm,hre⟩
     have fin:rowAt (cbits came) m=0→1+((came.length:Int) - (m:Int))=1+RW:=fun h=>by omega
     have rb:=rowAt_b (cbits came) m
     cases m with
     | zero =>
      have d5:decide ((0:Int)≤((0:Nat):Int) - 1)=false:=by decide
      rw [fin rfl]
      refine ah (mu:=fun t=>Nat.beq t 109 || Nat.beq t 111 || Nat.beq t 113 || Nat.beq t 160 || Nat.beq t 162 || Nat.beq t 164) ?_
      repeat' (first |refine u1 ?_ |refine u2 ?_ |fail)
      exact .is (ax.to 0 rfl ⟨rfl,rfl,rfl,rfl,rfl,rfl,trivial⟩ (Nat.zero_le _) rfl rfl)
     | succ m =>
      have e5:((m+1:Nat):Int) - 1=(m:Int):=by omega
      have d5:decide ((0:Int)≤(m:Int))=true:=decide_eq_true (by omega)
      have hat:(came.map eB)[((m:Nat):Int).toNat]?=some (eB came[m]):=bq (by omega)
      have hrs:=hrow m (by omega)
      rw [List.getElem?_eq_getElem (by omega:m < came.length)] at hrs
      cases hcm:came[m] with
      | true =>
       rw [hcm] at hat hrs
       rw [if_neg (by simp)] at hrs
       rw [fin hrs,e5]
       refine ah (mu:=fun t=>Nat.beq t 109 || Nat.beq t 111 || Nat.beq t 113 || Nat.beq t 160 || Nat.beq t 162 || Nat.beq t 164) ?_
       repeat' (first |refine u1 ?_ |((with_reducible show RM.wpOp _ _ (.indexAddr _ _ _) _ _ _);refine ⟨eB true,⟨by omega,hat⟩,rfl,?_⟩) |refine u2 ?_ |fail)
       exact .is (ax.to 0 rfl ⟨rfl,rfl,rfl,rfl,rfl,rfl,trivial⟩ (Nat.zero_le _) rfl rfl)
      | false =>
       rw [hcm] at hat hrs
       rw [if_pos rfl] at hrs
       rw [e5]
       refine ah (mu:=fun t=>Nat.beq t 109 || Nat.beq t 111 || Nat.beq t 113 || Nat.beq t 160 || Nat.beq t 162 || Nat.beq t 164) ?_
       repeat' (first |refine u1 ?_ |((with_reducible show RM.wpOp _ _ (.indexAddr _ _ _) _ _ _);refine ⟨eB false,⟨by omega,hat⟩,rfl,?_⟩) |refine u2 ?_ |fail)
       exact ⟨m,⟨by omega,by omega⟩,Nat.lt_succ_self _,ax.to 0 rfl ⟨rfl,rfl,rfl,rfl,rfl,bg (by omega),rfl,trivial⟩ (Nat.zero_le _) rfl rfl⟩
    ·by_cases c5:s.row < 1+RW
     ·have d5:=decide_eq_true c5
      refine ah (mu:=fun t=>Nat.beq t 109 || Nat.beq t 111 || Nat.beq t 113 || Nat.beq t 160 || Nat.beq t 162 || Nat.beq t 164) ?_
      repeat' (first |refine u1 ?_ |((with_reducible show ak _ _ _ _ _ _ _ _);refine af.call aw rfl rfl ?_) |refine u2 ?_ |fail)
      exact ⟨[_],⟨Fz.deep rfl,trivial⟩,rfl⟩
     ·have d5:=decide_eq_false c5
      by_cases c6:r=0
      ·have d6:=decide_eq_true c6
       refine ah (mu:=fun t=>Nat.beq t 109 || Nat.beq t 111 || Nat.beq t 113 || Nat.beq t 160 || Nat.beq t 162 || Nat.beq t 164) ?_
       repeat' (first |refine u1 ?_ |((with_reducible show ak _ _ _ _ _ _ _ _);refine af.call aw rfl rfl ?_) |refine u2 ?_ |fail)
       exact ⟨[_],⟨Fz.deep rfl,trivial⟩,rfl⟩
      ·have d6:=decide_eq_false c6
       obtain ⟨r2,hr2,hm2⟩:=hbad (by omega) (by omega)
       rw [hr2] at hbc
       dsimp only at hbc
       have m3:decide (min (r - 1) (((p.map av).length:Int) - ((came.map eB).length:Int) - 1)≤r2)=true:=decide_eq_true (by rw [ep,ec];omega)
       refine ah (mu:=fun t=>Nat.beq t 109 || Nat.beq t 111 || Nat.beq t 113 || Nat.beq t 160 || Nat.beq t 162 || Nat.beq t 164) ?_
       repeat' (first |(refine RM.b2 rfl rfl hrx ?_) |((with_reducible show RM.wpOp _ _ (.call _) _ _ _);refine RM.IZ (cs:=[]) (n:=0) (c:=0) (els:=came.map eB) rfl rfl rfl rfl rfl (fun el hel=>(by obtain ⟨t,_,rfl⟩:=List.mem_map.1 hel;rfl)) (bools_one came) rfl rfl (.inl rfl) hb1 (fun v c' hc'=>?_)) |((with_reducible show RM.wpOp _ _ (.call _) _ _ _);refine RM.IZ (cs:=[]++(came.map eB).flatten) (n:=0+(came.map eB).length) (els:=[eB false]) rfl rfl rfl rfl rfl (fun el hel=>by rw [List.mem_singleton.1 hel];rfl) rfl rfl hq1 hc' hb2 (fun v9 c9 hc9=>?_)) |(refine RM.n2 hbc rfl rfl rfl ⟨Fz.deep rfl,Fz.deep rfl,row_b rfl,trivial⟩ (free_two _ _) ?_) |refine u1 ?_ |((with_reducible show ak _ _ _ _ _ _ _ _);refine af.call aw rfl rfl ?_) |refine u2 ?_ |fail)
       exact ⟨[_],⟨Fz.deep rfl,trivial⟩,rfl⟩
 ·have e1:stillR s p []=(0,(dD s p).2):=by unfold stillR;rw [if_pos c1]
  rw [e1] at o1 o2
  rw [decide_eq_false c1] at o3
  generalize (dD s p).2=e at *
  have d1:(!decide (e=0))=true:=by rw [decide_eq_false c1];rfl
  have d2:decide (e=e)=true:=decide_eq_true rfl
  refine af.body (fn:=Tryd.f8) rfl rfl rfl rfl ?_
  refine ah (mu:=fun t=>Nat.beq t 109 || Nat.beq t 111 || Nat.beq t 113 || Nat.beq t 160 || Nat.beq t 162 || Nat.beq t 164) ?_
  repeat' (first |refine u1 ?_ |((with_reducible show ak _ _ _ _ _ _ _ _);refine af.call o1 rfl rfl ?_) |((with_reducible show ak _ _ _ _ _ _ _ _);refine af.call o2 rfl rfl ?_) |((with_reducible show ak _ _ _ _ _ _ _ _);refine af.call o3 rfl rfl ?_) |((with_reducible show ak _ _ _ _ _ _ _ _);refine af.call aw rfl rfl ?_) |refine u2 ?_ |fail)
  exact ⟨[_],⟨Fz.deep rfl,trivial⟩,rfl⟩
end Go.Proofs.YtpeogffeoehboaaDoor
