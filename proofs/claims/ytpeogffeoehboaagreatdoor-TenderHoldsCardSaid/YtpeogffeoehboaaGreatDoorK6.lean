/-
  Contracts of the program's functions and of the document's. Lemmas alone; their conditions stand in them.
-/
import Derived.Test.YtpeogffeoehboaaGreatDoorA2
import Derived.Test.YtpeogffeoehboaaGreatDoorA3
import Derived.Test.YtpeogffeoehboaaGreatDoorK5
open Go Go.RM
namespace Go.Proofs.YtpeogffeoehboaaGreatDoor
set_option maxRecDepth 100000
set_option maxHeartbeats 4000000
abbrev Mm (s:au) (p:List Order) (full:Bool) (f:Nat):AV:=.fn 58 [] [.pt (ak s) 0,.pt [.sl (p.map ay) full] 0,.pt [fP f] 0]
theorem vK (one:Bool) (s:au) (p:List Order) (full:Bool) (f:Nat):Pu one 31 [.ag (ak s),.sl (p.map ay) full,fP f] (Mm s p full f):=by
 refine ah.body (fn:=Tryz.f31) rfl rfl rfl rfl ?_
 refine aa (mu:=fun _=>false) ?_
 repeat' (first |refine u1 ?_ |refine u2 ?_ |fail)
 exact ⟨[_],⟨Fz.deep rfl,trivial⟩,rfl⟩
theorem nF {c c':Nat→Int} {v:Int} {i:Nat} (hi:i < 3) (h:∀ n,n < 3→(if n=i then v else c n)=c' n):fS (gy c) (AV.cells (aA v)) (0+((i:Nat):Int).toNat * 1)=gy c':=by
 rw [Int.toNat_natCast,Nat.mul_one,Nat.zero_add]
 exact (KH c v hi).trans (dF h)
theorem zO (c:Nat→Int) {i:Nat} (hi:i < 3):(gy c)[0+((i:Nat):Int).toNat * 1]?=some (aA (c i)):=by
 rw [Int.toNat_natCast,Nat.mul_one,Nat.zero_add]
 exact NW c hi
theorem qN (c:Nat→Int) {i:Nat} (hi:i < 3):Nat.ble (0+((i:Nat):Int).toNat * 1+1) (gy c).length=true:=by
 rw [Int.toNat_natCast,Nat.mul_one,Nat.zero_add]
 exact Nat.ble_eq_true_of_le (show i+1≤3 by omega)
def Ec (s:au) (p:List Order) (f n:Nat):Nat→Int
 | 0=>iL s n
 | d+1=>gK s p f n d
theorem BT {s:au} (p:List Order) (f n d:Nat) (h:¬ n < s.needs.length):ox s p f n d=0∧Ec s p f n d=0:=by
 cases d with
 | zero=>exact ⟨qL h,qL h⟩
 | succ d =>
  have e:gK s p f n d=0:=by unfold gK;rw [if_neg h]
  exact ⟨by show max 0 (gK s p f n d - 1)=0;rw [e];rfl,e⟩
theorem Df {s:au} (p:List Order) (f n d:Nat) (h:¬ n < s.needs.length):gK s p f n d=0:=by unfold gK;rw [if_neg h]
theorem vL (one:Bool) {s:au} {p:List Order} (hp:mO s p) (full:Bool) (f:Nat) (hf:f < 18446744073709551616):zA TT TB one (Mm s p full f) (yd s p f):=by
 have hg:=hp.good
 have hlen:=hg.len
 have hdays:=hg.days
 have p8:=hp.len
 have eg:((s.needs.map aH).length:Int)=s.needs.length:=by simp
 have ep:((p.map ay).length:Int)=p.length:=by simp
 obtain ⟨nn,hnn⟩:∃ n:Int,n=s.needs.length:=⟨_,rfl⟩
 refine zA.body (fn:=Tryz.f58) rfl rfl rfl rfl (fun x hx a ha=>?_) fun u J Stop hy=>?_
 ·obtain ⟨i,hi⟩:=List.mem_iff_getElem?.1 hx
  obtain ⟨_,rfl⟩:=vJ hi
  simp only [List.mem_cons,List.not_mem_nil,or_false] at ha
  rcases ha with rfl|rfl
  ·exact gi.fl _
  ·exact gi.ag fun b hb=>by simp only [List.mem_cons,List.not_mem_nil,or_false] at hb;rcases hb with rfl|rfl|rfl <;> exact gi.fl _
 rw [oy]
 refine aa (mu:=fun _=>false) ?_
 repeat' (first |refine u1 ?_ |refine u2 ?_ |fail)
 refine aB.aJ (ai.to (l:=[(0,.oq u),(1,.pt (ak s) 0),(2,.pt [.sl (p.map ay) full] 0),(3,.pt [fP f] 0),(5,.ptr 0 0 0),(15,.sl (s.needs.map aH) false),(16,aA nn),(17,aA (0:Nat))]) (hp:=[.cells (gy fun n=>if n < 0 then iL s n else 0) 0 0]) 1 rfl ⟨rfl,rfl,rfl,rfl,rfl,rfl,aV (by rw [hnn];exact eg),rfl,trivial⟩ (Nat.zero_le _) rfl rfl) ?_
 refine aB.loop (fun k:Nat=>k≤s.needs.length) (fun k=>⟨aS [(0,.oq u),(1,.pt (ak s) 0),(2,.pt [.sl (p.map ay) full] 0),(3,.pt [fP f] 0),(5,.ptr 0 0 0),(15,.sl (s.needs.map aH) false),(16,aA nn),(17,aA (k:Nat))],[.cells (gy fun n=>if n < k then iL s n else 0) 0 0],J 0,false,0⟩) (fun k=>s.needs.length - k) ?_ 0 (Nat.zero_le _)
 intro k hk
 refine aa (mu:=fun _=>false) ?_
 by_cases hlt:k < s.needs.length
 ·have d1:decide ((k:Int) < nn)=true:=decide_eq_true (by omega)
  have hat:(s.needs.map aH)[((k:Nat):Int).toNat]?=some (aH s.needs[k]):=bl hlt
  have hk3:k < 3:=by omega
  have hln:=qN (fun n=>if n < k then iL s n else 0) hk3
  have hst:=nF (c:=fun n=>if n < k then iL s n else 0) (c':=fun n=>if n < k+1 then iL s n else 0) (v:=s.needs[k].first) hk3 (fun n hn=>by
   by_cases e:n=k
   ·rw [if_pos e,if_pos (by omega),e]
    unfold iL
    rw [List.getElem?_eq_getElem hlt]
   ·rw [if_neg e]
    by_cases e2:n < k
    ·rw [if_pos e2,if_pos (by omega)]
    ·rw [if_neg e2,if_neg (by omega)])
  generalize s.needs[k]=g at *
  repeat' (first |((with_reducible show cK _ _ _ _ _ _);refine RM.NJ rfl rfl rfl rfl rfl rfl hln ?_) |refine u1 ?_ |((with_reducible show RM.wpOp _ _ (.indexAddr _ _ _) _ _ _);refine ⟨aH g,⟨by omega,hat⟩,rfl,?_⟩) |refine u2 ?_ |fail)
  exact ⟨k+1,hlt,(by dsimp only;omega),ai.to 1 (congrArg (fun l=>[AB.cells l 0 0]) hst) ⟨rfl,rfl,rfl,rfl,rfl,rfl,rfl,aV (by simp),trivial⟩ (Nat.zero_le _) rfl rfl⟩
 have d1:decide ((k:Int) < nn)=false:=decide_eq_false (by omega)
 have hall:(gy fun n=>if n < k then iL s n else 0)=gy fun n=>Ec s p f n 0:=dF fun n _=>by
  by_cases e:n < k
  ·rw [if_pos e];rfl
  ·rw [if_neg e];exact (qL (by omega)).symm
 rw [hall]
 clear hall
 repeat' (first |refine u1 ?_ |refine u2 ?_ |fail)
 refine aB.aJ (ai.to (l:=[(0,.oq u),(1,.pt (ak s) 0),(2,.pt [.sl (p.map ay) full] 0),(3,.pt [fP f] 0),(5,.ptr 0 0 0),(8,aA ((0,0).2:Nat)),(29,aA s.days),(30,aA ((0,0).1:Nat))]) (hp:=[.cells (gy fun n=>Ec s p f n (0,0).1) 0 0]) 1 rfl ⟨rfl,rfl,rfl,rfl,rfl,rfl,rfl,rfl,trivial⟩ (Nat.zero_le _) rfl rfl) ?_
 refine aB.loop (fun x:Nat × Nat=>(x.1:Int)≤s.days∧qM p x.1 x.2) (fun x=>⟨aS [(0,.oq u),(1,.pt (ak s) 0),(2,.pt [.sl (p.map ay) full] 0),(3,.pt [fP f] 0),(5,.ptr 0 0 0),(8,aA (x.2:Nat)),(29,aA s.days),(30,aA (x.1:Nat))],[.cells (gy fun n=>Ec s p f n x.1) 0 0],J x.1,false,0⟩) (fun x=>s.days.toNat - x.1) ?_ (0,0) ⟨by dsimp only;omega,De hp⟩
 rintro ⟨d,m⟩ ⟨hd,ha⟩
 dsimp only at hd ha
 show aB _ _ _ _ ⟨aS [(0,.oq u),(1,.pt (ak s) 0),(2,.pt [.sl (p.map ay) full] 0),(3,.pt [fP f] 0),(5,.ptr 0 0 0),(8,aA ((d,m).2:Nat)),(29,aA s.days),(30,aA ((d,m).1:Nat))],[.cells (gy fun n=>Ec s p f n (d,m).1) 0 0],J d,false,0⟩ _
 dsimp only
 refine aa (mu:=fun _=>false) ?_
 by_cases hdl:(d:Int) < s.days
 ·have d1:=decide_eq_true hdl
  have hmp:=ha.1
  repeat' (first |refine u1 ?_ |refine u2 ?_ |fail)
  refine aB.aJ (ai.to (l:=[(0,.oq u),(1,.pt (ak s) 0),(2,.pt [.sl (p.map ay) full] 0),(3,.pt [fP f] 0),(5,.ptr 0 0 0),(8,aA (m:Nat)),(9,aA (d:Nat)),(29,aA s.days),(30,aA (d:Nat)),(36,aA nn),(37,aA (0:Nat))]) (hp:=[.cells (gy fun n=>if n < 0 then ox s p f n d else Ec s p f n d) 0 0]) 1 rfl ⟨rfl,rfl,rfl,rfl,rfl,rfl,rfl,rfl,rfl,aV (by rw [hnn];exact eg),rfl,trivial⟩ (Nat.zero_le _) rfl rfl) ?_
  refine aB.loop (fun k:Nat=>k≤s.needs.length) (fun k=>⟨aS [(0,.oq u),(1,.pt (ak s) 0),(2,.pt [.sl (p.map ay) full] 0),(3,.pt [fP f] 0),(5,.ptr 0 0 0),(8,aA (m:Nat)),(9,aA (d:Nat)),(29,aA s.days),(30,aA (d:Nat)),(36,aA nn),(37,aA (k:Nat))],[.cells (gy fun n=>if n < k then ox s p f n d else Ec s p f n d) 0 0],J d,false,0⟩) (fun k=>s.needs.length - k) ?_ 0 (Nat.zero_le _)
  intro k hk
  by_cases hlt:k < s.needs.length
  ·have d2:decide ((k:Int) < nn)=true:=decide_eq_true (by omega)
   have hk3:k < 3:=by omega
   cases d with
   | zero =>
    have d3:decide ((0:Int) < ((0:Nat):Int))=false:=by decide
    have e:(gy fun n=>if n < k then ox s p f n 0 else Ec s p f n 0)=gy fun n=>if n < k+1 then ox s p f n 0 else Ec s p f n 0:=dF fun n _=>by
     show (if n < k then iL s n else iL s n)=if n < k+1 then iL s n else iL s n
     rw [ite_self,ite_self]
    rw [e]
    refine aa (mu:=fun _=>false) ?_
    repeat' (first |refine u1 ?_ |refine u2 ?_ |fail)
    exact ⟨k+1,hlt,(by dsimp only;omega),ai.to 1 rfl ⟨rfl,rfl,rfl,rfl,rfl,rfl,rfl,rfl,rfl,rfl,aV (by simp),trivial⟩ (Nat.zero_le _) rfl rfl⟩
   | succ d =>
    have d3:decide ((0:Int) < ((d+1:Nat):Int))=true:=decide_eq_true (by omega)
    have hb:=Jf hg p f k d
    have hln:=qN (fun n=>if n < k then ox s p f n (d+1) else Ec s p f n (d+1)) hk3
    have hat4:(gy fun n=>if n < k then ox s p f n (d+1) else Ec s p f n (d+1))[0+((k:Nat):Int).toNat * 1]?=some (aA (gK s p f k d)):=by
     rw [zO _ hk3,if_neg (Nat.lt_irrefl _)]
     rfl
    have hst:=nF (c:=fun n=>if n < k then ox s p f n (d+1) else Ec s p f n (d+1)) (c':=fun n=>if n < k+1 then ox s p f n (d+1) else Ec s p f n (d+1)) (v:=max 0 (gK s p f k d - 1)) hk3 (fun n hn=>by
     by_cases e:n=k
     ·subst e
      rw [if_pos rfl,if_pos (by omega)]
      rfl
     ·rw [if_neg e]
      by_cases e2:n < k
      ·rw [if_pos e2,if_pos (by omega)]
      ·rw [if_neg e2,if_neg (by omega)])
    generalize gK s p f k d=v at *
    refine aa (mu:=fun _=>false) ?_
    repeat' (first |((with_reducible show RM.wpOp _ _ (.load _ _) _ _ _);refine RM.Ot rfl rfl rfl hat4 ?_) |((with_reducible show cK _ _ _ _ _ _);refine RM.NJ rfl rfl rfl rfl rfl rfl hln ?_) |refine u1 ?_ |refine u2 ?_ |fail)
    exact ⟨k+1,hlt,(by dsimp only;omega),ai.to 1 (congrArg (fun l=>[AB.cells l 0 0]) hst) ⟨rfl,rfl,rfl,rfl,rfl,rfl,rfl,rfl,rfl,rfl,aV (by simp),trivial⟩ (Nat.zero_le _) rfl rfl⟩
  have d2:decide ((k:Int) < nn)=false:=decide_eq_false (by omega)
  have hdn:(gy fun n=>if n < k then ox s p f n d else Ec s p f n d)=gy fun n=>ox s p f n d:=dF fun n _=>by
   by_cases e:n < k
   ·rw [if_pos e]
   ·rw [if_neg e,(BT p f n d (by omega)).1,(BT p f n d (by omega)).2]
  rw [hdn]
  clear hdn
  have hdt:d < s.days.toNat:=by omega
  have hyx:=hy d _ (BS hdt)
  by_cases hm:m < p.length
  ·have d3:decide ((m:Int) < ((p.map ay).length:Int))=true:=decide_eq_true (by omega)
   have hat:(p.map ay)[((m:Nat):Int).toNat]?=some (ay p[m]):=bl hm
   by_cases hday:p[m].day=(d:Int)
   ·have hbr:=fun n=>PR hp ha hm hday f n
    have ha':=Jg hp ha hm hday
    have hor:=hp.order _ (List.getElem_mem hm)
    have d4:=decide_eq_true hday
    generalize p[m]=o at *
    have ec:((ints o.aG).length:Int)=o.aG.length:=by simp
    obtain ⟨cl,hcl⟩:∃ n:Int,n=o.aG.length:=⟨_,rfl⟩
    have hc3:=hor.len
    refine aa (mu:=fun _=>false) ?_
    repeat' (first |refine u1 ?_ |((with_reducible show RM.wpOp _ _ (.indexAddr _ _ _) _ _ _);refine ⟨ay o,⟨by omega,hat⟩,rfl,?_⟩) |refine u2 ?_ |fail)
    have h60:(gy fun n=>ox s p f n d)=gy fun n=>if (!f.testBit m && hasB (o.aG.take 0) (n:Int))=true then dP s n else ox s p f n d:=dF fun n _=>by
     rw [if_neg (by simp [hasB])]
    refine aB.aJ (ai.to (l:=[(0,.oq u),(1,.pt (ak s) 0),(2,.pt [.sl (p.map ay) full] 0),(3,.pt [fP f] 0),(5,.ptr 0 0 0),(8,aA (m:Nat)),(9,aA (d:Nat)),(29,aA s.days),(30,aA (d:Nat)),(67,.sl (ints o.aG) false),(68,aA cl),(69,aA (0:Nat))]) (hp:=[.cells (gy fun n=>if (!f.testBit m && hasB (o.aG.take 0) (n:Int))=true then dP s n else ox s p f n d) 0 0]) 1 (congrArg (fun l=>[AB.cells l 0 0]) h60) ⟨rfl,rfl,rfl,rfl,rfl,rfl,rfl,rfl,rfl,rfl,aV (by rw [hcl];exact ec),rfl,trivial⟩ (Nat.zero_le _) rfl rfl) ?_
    refine aB.loop (fun j:Nat=>j≤o.aG.length) (fun j=>⟨aS [(0,.oq u),(1,.pt (ak s) 0),(2,.pt [.sl (p.map ay) full] 0),(3,.pt [fP f] 0),(5,.ptr 0 0 0),(8,aA (m:Nat)),(9,aA (d:Nat)),(29,aA s.days),(30,aA (d:Nat)),(67,.sl (ints o.aG) false),(68,aA cl),(69,aA (j:Nat))],[.cells (gy fun n=>if (!f.testBit m && hasB (o.aG.take j) (n:Int))=true then dP s n else ox s p f n d) 0 0],J d,false,0⟩) (fun j=>o.aG.length - j) ?_ 0 (Nat.zero_le _)
    intro j hj
    by_cases hjl:j < o.aG.length
    ·have d5:decide ((j:Int) < cl)=true:=decide_eq_true (by omega)
     have hct:(ints o.aG)[((j:Nat):Int).toNat]?=some (eI o.aG[j]):=bl hjl
     have hx:=hor.aG _ (List.getElem_mem hjl)
     have htk:∀ n:Int,hasB (o.aG.take (j+1)) n=(hasB (o.aG.take j) n || decide (o.aG[j]=n)):=fun n=>by
      unfold hasB
      rw [List.take_add_one,List.getElem?_eq_getElem hjl,List.any_append]
      simp
     obtain ⟨q,hq⟩:∃ q:Nat,o.aG[j]=(q:Int):=⟨o.aG[j].toNat,by omega⟩
     rw [hq] at hct hx htk
     have hq3:q < 3:=by omega
     obtain ⟨nd,n1,n2,_⟩:=zK hx
     have hm8:m < 8:=by omega
     have hbit:f / 2 ^ m % 2=if f.testBit m=true then 1 else 0:=by
      rw [Nat.testBit_eq_decide_div_mod_eq]
      have:=Nat.mod_two_eq_zero_or_one (f / 2 ^ m)
      rcases this with e|e <;> rw [e] <;> simp
     have hfm:f / 2 ^ m < 18446744073709551616:=Nat.lt_of_le_of_lt (Nat.div_le_self _ _) hf
     cases hfb:f.testBit m with
     | true =>
      rw [hfb,if_pos rfl] at hbit
      have d6:decide (((f / 2 ^ m % 2:Nat):Int)=0)=false:=decide_eq_false (by rw [hbit];decide)
      refine aa (mu:=fun _=>false) ?_
      repeat' (first |((with_reducible show aT _ _ _ _ _ _ _ _ _);refine RM.D9 rfl rfl hm8 ?_) |((with_reducible show aT _ _ _ _ _ _ _ _ _);refine RM.zM rfl rfl hfm ?_) |((with_reducible show aT _ _ _ _ _ _ _ _ _);refine RM.KF rfl rfl ?_) |refine u1 ?_ |((with_reducible show RM.wpOp _ _ (.indexAddr _ _ _) _ _ _);refine ⟨eI (q:Int),⟨by omega,hct⟩,rfl,?_⟩) |refine u2 ?_ |fail)
      exact ⟨j+1,hjl,(by dsimp only;omega),ai.to 1 rfl ⟨rfl,rfl,rfl,rfl,rfl,rfl,rfl,rfl,rfl,rfl,rfl,aV (by simp),trivial⟩ (Nat.zero_le _) rfl rfl⟩
     | false =>
      rw [hfb,if_neg (by simp)] at hbit
      have d6:decide (((f / 2 ^ m % 2:Nat):Int)=0)=true:=decide_eq_true (by rw [hbit];decide)
      have hln:=qN (fun n=>if (!false && hasB (o.aG.take j) (n:Int))=true then dP s n else ox s p f n d) hq3
      have hst:=nF (c:=fun n=>if (!false && hasB (o.aG.take j) (n:Int))=true then dP s n else ox s p f n d) (c':=fun n=>if (!false && hasB (o.aG.take (j+1)) (n:Int))=true then dP s n else ox s p f n d) (v:=nd.full) hq3 (fun n hn=>by
       rw [htk]
       by_cases e:n=q
       ·subst e
        rw [if_pos rfl,if_pos (by simp)]
        unfold dP
        rw [Int.toNat_natCast] at n1
        rw [n1]
       ·rw [if_neg e,show decide ((q:Int)=(n:Int))=false from decide_eq_false (by omega),Bool.or_false])
      refine aa (mu:=fun _=>false) ?_
      repeat' (first |((with_reducible show aT _ _ _ _ _ _ _ _ _);refine RM.D9 rfl rfl hm8 ?_) |((with_reducible show aT _ _ _ _ _ _ _ _ _);refine RM.zM rfl rfl hfm ?_) |((with_reducible show aT _ _ _ _ _ _ _ _ _);refine RM.KF rfl rfl ?_) |((with_reducible show cK _ _ _ _ _ _);refine RM.NJ rfl rfl rfl rfl rfl rfl hln ?_) |refine u1 ?_ |((with_reducible show RM.wpOp _ _ (.indexAddr _ _ _) _ _ _);refine ⟨eI (q:Int),⟨by omega,hct⟩,rfl,?_⟩) |((with_reducible show RM.wpOp _ _ (.indexAddr _ _ _) _ _ _);refine ⟨aH nd,⟨by omega,n2⟩,rfl,?_⟩) |refine u2 ?_ |fail)
      exact ⟨j+1,hjl,(by dsimp only;omega),ai.to 1 (congrArg (fun l=>[AB.cells l 0 0]) hst) ⟨rfl,rfl,rfl,rfl,rfl,rfl,rfl,rfl,rfl,rfl,rfl,aV (by simp),trivial⟩ (Nat.zero_le _) rfl rfl⟩
    have d5:decide ((j:Int) < cl)=false:=decide_eq_false (by omega)
    have hcan:(gy fun n=>if (!f.testBit m && hasB (o.aG.take j) (n:Int))=true then dP s n else ox s p f n d)=gy fun n=>gK s p f n d:=dF fun n _=>by
     rw [List.take_of_length_le (by omega)]
     by_cases e:n < s.needs.length
     ·rw [zN e,hbr n]
     ·rw [Df p f n d e,if_neg,(BT p f n d e).1]
      rw [Bool.and_eq_true,fu]
      rintro ⟨_,h2⟩
      have:=hor.aG _ h2
      omega
    rw [hcan]
    clear hcan
    refine aa (mu:=fun _=>false) ?_
    repeat' (first |refine u1 ?_ |((with_reducible show RM.wpOp _ _ (.indexAddr _ _ _) _ _ _);refine ⟨ay o,⟨by omega,hat⟩,rfl,?_⟩) |refine u2 ?_ |fail)
    refine ax.mono (hyx _) (fun a hp' amb' hq=>?_)
    obtain ⟨rfl,b,rfl,hb⟩:=hq
    rcases hb with ⟨rfl,rfl⟩|⟨rfl,hstop⟩
    ·repeat' (first |refine u1 ?_ |refine u2 ?_ |fail)
     exact ⟨(d+1,m+1),⟨by dsimp only;omega,ha'⟩,(by dsimp only;omega),ai.to 1 rfl ⟨rfl,rfl,rfl,rfl,rfl,aV (by simp),rfl,aV (by simp),trivial⟩ (Nat.zero_le _) rfl rfl⟩
    ·repeat' (first |refine u1 ?_ |refine u2 ?_ |fail)
     exact Or.inr hstop
   ·have d4:=decide_eq_false hday
    obtain ⟨hno,ha'⟩:(∀ n,Jc p f n d=false)∧qM p (d+1) m:=⟨fun n=>(Eb hp ha (fun _=>hday) f n).1,(Eb hp ha (fun _=>hday) f 0).2⟩
    have hcan:(gy fun n=>ox s p f n d)=gy fun n=>gK s p f n d:=dF fun n _=>by
     by_cases e:n < s.needs.length
     ·rw [zN e,hno n];rfl
     ·rw [Df p f n d e,(BT p f n d e).1]
    rw [hcan]
    clear hcan
    generalize p[m]=o at *
    refine aa (mu:=fun _=>false) ?_
    repeat' (first |refine u1 ?_ |((with_reducible show RM.wpOp _ _ (.indexAddr _ _ _) _ _ _);refine ⟨ay o,⟨by omega,hat⟩,rfl,?_⟩) |refine u2 ?_ |fail)
    refine ax.mono (hyx _) (fun a hp' amb' hq=>?_)
    obtain ⟨rfl,b,rfl,hb⟩:=hq
    rcases hb with ⟨rfl,rfl⟩|⟨rfl,hstop⟩
    ·repeat' (first |refine u1 ?_ |refine u2 ?_ |fail)
     exact ⟨(d+1,m),⟨by dsimp only;omega,ha'⟩,(by dsimp only;omega),ai.to 1 rfl ⟨rfl,rfl,rfl,rfl,rfl,aV (by simp),rfl,aV (by simp),trivial⟩ (Nat.zero_le _) rfl rfl⟩
    ·repeat' (first |refine u1 ?_ |refine u2 ?_ |fail)
     exact Or.inr hstop
  ·have d3:decide ((m:Int) < ((p.map ay).length:Int))=false:=decide_eq_false (by omega)
   obtain ⟨hno,ha'⟩:(∀ n,Jc p f n d=false)∧qM p (d+1) m:=⟨fun n=>(Eb hp ha (fun h=>absurd h hm) f n).1,(Eb hp ha (fun h=>absurd h hm) f 0).2⟩
   have hcan:(gy fun n=>ox s p f n d)=gy fun n=>gK s p f n d:=dF fun n _=>by
    by_cases e:n < s.needs.length
    ·rw [zN e,hno n];rfl
    ·rw [Df p f n d e,(BT p f n d e).1]
   rw [hcan]
   clear hcan
   refine aa (mu:=fun _=>false) ?_
   repeat' (first |refine u1 ?_ |((with_reducible show RM.wpOp _ _ (.indexAddr _ _ _) _ _ _);refine ⟨ay o,⟨by omega,hat⟩,rfl,?_⟩) |refine u2 ?_ |fail)
   refine ax.mono (hyx _) (fun a hp' amb' hq=>?_)
   obtain ⟨rfl,b,rfl,hb⟩:=hq
   rcases hb with ⟨rfl,rfl⟩|⟨rfl,hstop⟩
   ·repeat' (first |refine u1 ?_ |refine u2 ?_ |fail)
    exact ⟨(d+1,m),⟨by dsimp only;omega,ha'⟩,(by dsimp only;omega),ai.to 1 rfl ⟨rfl,rfl,rfl,rfl,rfl,aV (by simp),rfl,aV (by simp),trivial⟩ (Nat.zero_le _) rfl rfl⟩
   ·repeat' (first |refine u1 ?_ |refine u2 ?_ |fail)
    exact Or.inr hstop
 ·have d1:=decide_eq_false hdl
  have hde:d=s.days.toNat:=by omega
  subst hde
  repeat' (first |refine u1 ?_ |refine u2 ?_ |fail)
  exact Or.inl rfl
theorem Ed {l:List Int} (h:l ≠ []):ints l ≠ []:=by
 cases l with
 | nil=>exact absurd rfl h
 | cons=>simp
theorem rZ:∀ l:List Int,(ints l).flatten.all AV.one=true∧cI (ints l).flatten=true
 | []=>⟨rfl,rfl⟩
 | _ :: l=>rZ l
theorem KI (one:Bool) (l:List Int) (full:Bool) (h:l ≠ []) (hl:l.length≤8):Pu one 32 [.sl (ints l) full] (.sl (ints l) false):=by
 have hb:(([]:List (List AV)).length+(ints l).length) * 8≤140737488355328∧([]:List (List AV)).length+(ints l).length≤9223372036854775807:=by
  rw [List.length_map,List.length_nil]
  omega
 refine ah.body (fn:=Tryz.f32) rfl rfl rfl rfl ?_
 refine aa (mu:=fun _=>false) ?_
 repeat' (first |(refine RM.QY rfl (Ed h) (by kernel_rfl) rfl ?_) |(refine RM.Qk rfl rfl rfl rfl rfl (fun el hel=>nomatch hel) (fun el hel=>by obtain ⟨x,_,rfl⟩:=List.mem_map.1 hel;rfl) (rZ l).1 (Ed h) hb (rZ l).2 ?_) |refine u1 ?_ |refine u2 ?_ |fail)
 exact ⟨[_],⟨Fz.deep rfl,trivial⟩,rfl⟩
theorem E8 (one:Bool) (a:Int) (l:List Int) (full:Bool) (hl:l.length≤maxLen):Pu one 52 [.sl (ints l) full,aA a] (aA (rW (fun x=>decide (a=x)) l)):=by
 have ml:l.length≤9223372036854775807:=Nat.le_trans hl (by simp [maxLen])
 have eg:((ints l).length:Int)=l.length:=by simp
 obtain ⟨n,hn⟩:∃ n:Int,n=l.length:=⟨_,rfl⟩
 refine ah.body (fn:=Tryz.f52) rfl rfl rfl rfl ?_
 refine aa (mu:=fun _=>false) ?_
 repeat' (first |refine u1 ?_ |refine u2 ?_ |fail)
 refine aB.aJ (ai.to (l:=[(0,.sl (ints l) full),(1,aA a),(7,aA n),(8,aA (0:Nat))]) (hp:=[]) 0 rfl ⟨rfl,rfl,aV (by rw [hn];exact eg),rfl,trivial⟩ (Nat.zero_le _) rfl rfl) ?_
 refine aB.loop (fun k:Nat=>k≤l.length∧∀ i (h:i < l.length),i < k→decide (a=l[i])=false) (fun k=>⟨aS [(0,.sl (ints l) full),(1,aA a),(7,aA n),(8,aA (k:Nat))],[],bJ.none,false,0⟩) (fun k=>l.length - k) ?_ 0 ⟨Nat.zero_le _,fun i _ hi=>absurd hi (Nat.not_lt_zero _)⟩
 rintro k ⟨hk,hprev⟩
 refine aa (mu:=fun _=>false) ?_
 by_cases hlt:k < l.length
 ·have d1:decide ((k:Int) < n)=true:=decide_eq_true (by omega)
  have hat:(ints l)[((k:Nat):Int).toNat]?=some (eI l[k]):=bl hlt
  cases hx:decide (a=l[k]) with
  | true =>
   rw [lH hlt hprev hx]
   generalize l[k]=x at *
   repeat' (first |refine u1 ?_ |((with_reducible show RM.wpOp _ _ (.indexAddr _ _ _) _ _ _);refine ⟨eI x,⟨by omega,hat⟩,rfl,?_⟩) |refine u2 ?_ |fail)
   exact ⟨[_],⟨Fz.deep rfl,trivial⟩,rfl⟩
  | false =>
   have hn':∀ i (h:i < l.length),i < k+1→decide (a=l[i])=false:=fun i hi hik=>by
    by_cases e:i=k
    ·subst e;exact hx
    ·exact hprev i hi (by omega)
   generalize l[k]=x at *
   repeat' (first |refine u1 ?_ |((with_reducible show RM.wpOp _ _ (.indexAddr _ _ _) _ _ _);refine ⟨eI x,⟨by omega,hat⟩,rfl,?_⟩) |refine u2 ?_ |fail)
   exact ⟨k+1,⟨hlt,hn'⟩,(by dsimp only;omega),ai.to 0 rfl ⟨rfl,rfl,rfl,aV (by simp),trivial⟩ (Nat.zero_le _) rfl rfl⟩
 ·have d1:decide ((k:Int) < n)=false:=decide_eq_false (by omega)
  rw [lI (fun i hi=>hprev i hi (by omega))]
  repeat' (first |refine u1 ?_ |refine u2 ?_ |fail)
  exact ⟨[_],⟨Fz.deep rfl,trivial⟩,rfl⟩
def gQ (s:au) (p:List Order) (f d:Nat):List Int:=(List.range s.needs.length).map fun n=>gK s p f n d
theorem jn {s:au} {p:List Order} {f d:Nat}:(gQ s p f d).length=s.needs.length:=by simp [gQ]
theorem KJ {s:au} (hg:Good s) (p:List Order) (f d:Nat):(ints (gQ s p f d)).length=(s.needs.map aH).length∧(∀ el ∈ ints (gQ s p f d),el.length=1) ∧
  (ints (gQ s p f d)).flatten=((gy fun n=>gK s p f n d).drop 0).take ((s.needs.map aH).length * 1):=by
 have h:=hg.len
 refine ⟨by rw [List.length_map,jn,List.length_map],fun el hel=>by obtain ⟨x,_,rfl⟩:=List.mem_map.1 hel;rfl,?_⟩
 rw [List.length_map]
 unfold gQ
 obtain e|e|e:s.needs.length=1∨s.needs.length=2∨s.needs.length=3:=by omega
 all_goals rw [e];rfl
def zeroAt (s:au) (p:List Order) (f d:Nat):Int:=rW (fun x=>decide (0=x)) (gQ s p f d)
def gj (s:au) (p:List Order) (f:Nat):Option (Nat × Int):=((List.range s.days.toNat).find? fun d=>decide (0≤zeroAt s p f d)).map fun d=>(d,zeroAt s p f d)
theorem BU {s:au} {p:List Order} {f d:Nat} (hd:d < s.days.toNat) (hprev:∀ i,i < d→zeroAt s p f i < 0) (h:0≤zeroAt s p f d):gj s p f=some (d,zeroAt s p f d):=by
 unfold gj
 have:(List.range s.days.toNat).find? (fun d=>decide (0≤zeroAt s p f d))=some d:=by
  rw [List.find?_range_eq_some]
  refine ⟨decide_eq_true h,by simpa using hd,fun j hj=>?_⟩
  have:=hprev j hj
  simpa using this
 rw [this];rfl
theorem BV {s:au} {p:List Order} {f:Nat} (hprev:∀ i,i < s.days.toNat→zeroAt s p f i < 0):gj s p f=none:=by
 unfold gj
 have:(List.range s.days.toNat).find? (fun d=>decide (0≤zeroAt s p f d))=none:=by
  rw [List.find?_eq_none]
  intro d hd
  have:=hprev d (by simpa using hd)
  simpa using this
 rw [this];rfl
def zP (s:au) (p:List Order) (f:Nat):AV:=match gj s p f with
 | some (d,n)=>.tp [.ag [fP f,aA (d:Nat),aA n],BB true]
 | none=>.tp [.ag [fP 0,aA 0,aA 0],BB false]
theorem E9 {s:au} {p:List Order} {f:Nat}:(zP s p f).deep=true:=by
 unfold zP
 split <;> rfl
theorem BW (one:Bool) {s:au} {p:List Order} (hp:mO s p) (full:Bool) (f:Nat) (hf:f < 18446744073709551616):Pu one 22 [.ag (ak s),.sl (p.map ay) full,fP f] (zP s p f):=by
 have hg:=hp.good
 have hlen:=hg.len
 have hm:=vK one s p full f
 have hgen:=vL one hp full f hf
 refine ah.body (fn:=Tryz.f22) rfl rfl rfl E9 ?_
 refine RM.cv (mu:=fun _=>false) ?_
 repeat' (first |refine u1 ?_ |refine u2 ?_ |fail)
 refine RM.cv (mu:=fun _=>false) ?_
 repeat' (first |refine u1 ?_ |((with_reducible show ax _ _ _ _ _ _ _ _);refine ah.call hm rfl rfl ?_) |refine u2 ?_ |fail)
 refine aB.range (fun _=>[.cells [fP 0,aA 0,aA 0] 0 0,.cells [BB false] 0 0]) (fun _=>bJ.none) (fun i=>∀ d,d < i→zeroAt s p f d < 0) rfl hgen rfl rfl (fun d hd=>absurd hd (Nat.not_lt_zero _)) (fun i x hx hprev=>?_) (fun hprev=>?_)
 ·obtain ⟨hi,rfl⟩:=vJ hx
  refine ⟨rfl,?_⟩
  refine aa (mu:=fun _=>false) ?_
  repeat' (first |refine u1 ?_ |refine u2 ?_ |fail)
  refine aB.aJ (ai.giveUp 2 (l:=[(3,.pt (ak s) 0),(5,.pt [fP f] 0),(6,.ptr 0 0 0),(7,.ptr 1 0 0),(8,aA (i:Nat)),(9,.pt (gy fun n=>gK s p f n i) 0)]) (hp:=[.cells [fP 0,aA 0,aA 0] 0 0,.cells [BB false] 0 0,.gone]) rfl (Nat.le_of_ble_eq_true rfl) rfl ⟨.same rfl,.same rfl,.same rfl,.same rfl,.same rfl,.ptr,trivial⟩ rfl rfl) ?_
  have hcut:=KJ hg p f i
  have hcb:(s.needs.map aH).length≤3∧0+(s.needs.map aH).length * 1≤(gy fun n=>gK s p f n i).length:=by
   rw [List.length_map]
   exact ⟨hlen.2,by simpa using hlen.2⟩
  have hix:Pu one 52 [.sl (ints (gQ s p f i)) (Nat.beq (s.needs.map aH).length 3),aA 0] (aA (zeroAt s p f i)):=E8 one 0 _ _ (by rw [jn];exact Nat.le_trans hlen.2 (by simp [maxLen]))
  refine aa (mu:=fun _=>false) ?_
  by_cases hz:0≤zeroAt s p f i
  ·have d1:=decide_eq_true hz
   have e:zP s p f=.tp [.ag [fP f,aA (i:Nat),aA (zeroAt s p f i)],BB true]:=by unfold zP;rw [BU hi hprev hz]
   rw [e]
   generalize zeroAt s p f i=z at *
   repeat' (first |(refine RM.Qm rfl rfl rfl hcb (by decide) hcut ?_) |refine u1 ?_ |((with_reducible show ax _ _ _ _ _ _ _ _);refine ah.call hix rfl rfl ?_) |refine u2 ?_ |fail)
   exact ⟨[_,_],⟨Fz.deep rfl,Fz.deep rfl,trivial⟩,rfl⟩
  ·have d1:=decide_eq_false hz
   have hz':zeroAt s p f i < 0:=by omega
   repeat' (first |(refine RM.Qm rfl rfl rfl hcb (by decide) hcut ?_) |refine u1 ?_ |((with_reducible show ax _ _ _ _ _ _ _ _);refine ah.call hix rfl rfl ?_) |refine u2 ?_ |fail)
   refine ⟨fun d hd=>?_,_,ai.to (l:=[]) 2 rfl trivial (Nat.le_refl _) rfl rfl⟩
   ·by_cases e:d=i
    ·subst e;exact hz'
    ·exact hprev d (by omega)
 ·rw [oy] at hprev
  have e:zP s p f=.tp [.ag [fP 0,aA 0,aA 0],BB false]:=by unfold zP;rw [BV hprev]
  rw [e]
  refine aa (mu:=fun _=>false) ?_
  repeat' (first |refine u1 ?_ |refine u2 ?_ |fail)
  exact ⟨[_,_],⟨Fz.deep rfl,Fz.deep rfl,trivial⟩,rfl⟩
end Go.Proofs.YtpeogffeoehboaaGreatDoor
