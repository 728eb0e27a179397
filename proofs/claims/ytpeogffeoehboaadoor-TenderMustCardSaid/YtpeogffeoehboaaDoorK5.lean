/-
  Contracts of the program's functions and of the document's. Lemmas alone; their conditions stand in them.
-/
import Derived.Test.YtpeogffeoehboaaDoorA3
import Derived.Test.YtpeogffeoehboaaDoorK4
open Go Go.RM
namespace Go.Proofs.YtpeogffeoehboaaDoor
set_option maxRecDepth 100000
set_option maxHeartbeats 4000000
abbrev NJ (s:ai) (p:List Order) (full:Bool) (f:Nat):AV:=.fn 75 [] [.pt (az s) 0,.pt [.sl (p.map aD) full] 0,.pt [gq f] 0]
theorem D5 (one:Bool) (s:ai) (p:List Order) (full:Bool) (f:Nat):Pu one 50 [.ag (az s),.sl (p.map aD) full,gq f] (NJ s p full f):=by
 refine ah.body (fn:=Tryd.f50) rfl rfl rfl rfl ?_
 refine aa (mu:=fun _=>false) ?_
 repeat' (first |refine u1 ?_ |refine u2 ?_ |fail)
 exact ⟨[_],⟨Fz.deep rfl,trivial⟩,rfl⟩
theorem wg {c c':Nat→Int} {v:Int} {i:Nat} (hi:i < 3) (h:∀ n,n < 3→(if n=i then v else c n)=c' n):cX (nc c) (AV.cells (aC v)) (0+((i:Nat):Int).toNat * 1)=nc c':=by
 rw [Int.toNat_natCast,Nat.mul_one,Nat.zero_add]
 exact (LV c v hi).trans (gQ h)
theorem LW (c:Nat→Int) {i:Nat} (hi:i < 3):(nc c)[0+((i:Nat):Int).toNat * 1]?=some (aC (c i)):=by
 rw [Int.toNat_natCast,Nat.mul_one,Nat.zero_add]
 exact Pq c hi
theorem Ai (c:Nat→Int) {i:Nat} (hi:i < 3):Nat.ble (0+((i:Nat):Int).toNat * 1+1) (nc c).length=true:=by
 rw [Int.toNat_natCast,Nat.mul_one,Nat.zero_add]
 exact Nat.ble_eq_true_of_le (show i+1≤3 by omega)
def Fu (s:ai) (p:List Order) (f n:Nat):Nat→Int
 | 0=>jY s n
 | d+1=>kI s p f n d
theorem Co {s:ai} (p:List Order) (f n d:Nat) (h:¬ n < s.needs.length):v8 s p f n d=0∧Fu s p f n d=0:=by
 cases d with
 | zero=>exact ⟨we h,we h⟩
 | succ d =>
  have e:kI s p f n d=0:=by unfold kI;rw [if_neg h]
  exact ⟨by show max 0 (kI s p f n d - 1)=0;rw [e];rfl,e⟩
theorem D6 {s:ai} (p:List Order) (f n d:Nat) (h:¬ n < s.needs.length):kI s p f n d=0:=by unfold kI;rw [if_neg h]
theorem D7 (one:Bool) {s:ai} {p:List Order} (hp:jP s p) (full:Bool) (f:Nat) (hf:f < 18446744073709551616):B6 TT TB one (NJ s p full f) (yC s p f):=by
 have hg:=hp.good
 have hlen:=hg.len
 have hdays:=hg.days
 have p8:=hp.len
 have eg:((s.needs.map aV).length:Int)=s.needs.length:=by simp
 have ep:((p.map aD).length:Int)=p.length:=by simp
 obtain ⟨nn,hnn⟩:∃ n:Int,n=s.needs.length:=⟨_,rfl⟩
 refine B6.body (fn:=Tryd.f75) rfl rfl rfl rfl (fun x hx a ha=>?_) fun u J Stop hy=>?_
 ·obtain ⟨i,hi⟩:=List.mem_iff_getElem?.1 hx
  obtain ⟨_,rfl⟩:=Cn hi
  simp only [List.mem_cons,List.not_mem_nil,or_false] at ha
  rcases ha with rfl|rfl
  ·exact fA.fl _
  ·exact fA.ag fun b hb=>by simp only [List.mem_cons,List.not_mem_nil,or_false] at hb;rcases hb with rfl|rfl|rfl <;> exact fA.fl _
 rw [sL]
 refine aa (mu:=fun _=>false) ?_
 repeat' (first |refine u1 ?_ |refine u2 ?_ |fail)
 refine aA.aX (aj.to (l:=[(0,.oq u),(1,.pt (az s) 0),(2,.pt [.sl (p.map aD) full] 0),(3,.pt [gq f] 0),(5,.ptr 0 0 0),(15,.sl (s.needs.map aV) false),(16,aC nn),(17,aC (0:Nat))]) (hp:=[.cells (nc fun n=>if n < 0 then jY s n else 0) 0 0]) 1 rfl ⟨rfl,rfl,rfl,rfl,rfl,rfl,bW (by rw [hnn];exact eg),rfl,trivial⟩ (Nat.zero_le _) rfl rfl) ?_
 refine aA.loop (fun k:Nat=>k≤s.needs.length) (fun k=>⟨bx [(0,.oq u),(1,.pt (az s) 0),(2,.pt [.sl (p.map aD) full] 0),(3,.pt [gq f] 0),(5,.ptr 0 0 0),(15,.sl (s.needs.map aV) false),(16,aC nn),(17,aC (k:Nat))],[.cells (nc fun n=>if n < k then jY s n else 0) 0 0],J 0,false,0⟩) (fun k=>s.needs.length - k) ?_ 0 (Nat.zero_le _)
 intro k hk
 refine aa (mu:=fun _=>false) ?_
 by_cases hlt:k < s.needs.length
 ·have d1:decide ((k:Int) < nn)=true:=decide_eq_true (by omega)
  have hat:(s.needs.map aV)[((k:Nat):Int).toNat]?=some (aV s.needs[k]):=cI hlt
  have hk3:k < 3:=by omega
  have hln:=Ai (fun n=>if n < k then jY s n else 0) hk3
  have hst:=wg (c:=fun n=>if n < k then jY s n else 0) (c':=fun n=>if n < k+1 then jY s n else 0) (v:=s.needs[k].first) hk3 (fun n hn=>by
   by_cases e:n=k
   ·rw [if_pos e,if_pos (by omega),e]
    unfold jY
    rw [List.getElem?_eq_getElem hlt]
   ·rw [if_neg e]
    by_cases e2:n < k
    ·rw [if_pos e2,if_pos (by omega)]
    ·rw [if_neg e2,if_neg (by omega)])
  generalize s.needs[k]=g at *
  repeat' (first |((with_reducible show cR _ _ _ _ _ _);refine RM.ND rfl rfl rfl rfl rfl rfl hln ?_) |refine u1 ?_ |((with_reducible show RM.wpOp _ _ (.indexAddr _ _ _) _ _ _);refine ⟨aV g,⟨by omega,hat⟩,rfl,?_⟩) |refine u2 ?_ |fail)
  exact ⟨k+1,hlt,(by dsimp only;omega),aj.to 1 (congrArg (fun l=>[AB.cells l 0 0]) hst) ⟨rfl,rfl,rfl,rfl,rfl,rfl,rfl,bW (by simp),trivial⟩ (Nat.zero_le _) rfl rfl⟩
 have d1:decide ((k:Int) < nn)=false:=decide_eq_false (by omega)
 have hall:(nc fun n=>if n < k then jY s n else 0)=nc fun n=>Fu s p f n 0:=gQ fun n _=>by
  by_cases e:n < k
  ·rw [if_pos e];rfl
  ·rw [if_neg e];exact (we (by omega)).symm
 rw [hall]
 clear hall
 repeat' (first |refine u1 ?_ |refine u2 ?_ |fail)
 refine aA.aX (aj.to (l:=[(0,.oq u),(1,.pt (az s) 0),(2,.pt [.sl (p.map aD) full] 0),(3,.pt [gq f] 0),(5,.ptr 0 0 0),(8,aC ((0,0).2:Nat)),(29,aC s.days),(30,aC ((0,0).1:Nat))]) (hp:=[.cells (nc fun n=>Fu s p f n (0,0).1) 0 0]) 1 rfl ⟨rfl,rfl,rfl,rfl,rfl,rfl,rfl,rfl,trivial⟩ (Nat.zero_le _) rfl rfl) ?_
 refine aA.loop (fun x:Nat × Nat=>(x.1:Int)≤s.days∧rA p x.1 x.2) (fun x=>⟨bx [(0,.oq u),(1,.pt (az s) 0),(2,.pt [.sl (p.map aD) full] 0),(3,.pt [gq f] 0),(5,.ptr 0 0 0),(8,aC (x.2:Nat)),(29,aC s.days),(30,aC (x.1:Nat))],[.cells (nc fun n=>Fu s p f n x.1) 0 0],J x.1,false,0⟩) (fun x=>s.days.toNat - x.1) ?_ (0,0) ⟨by dsimp only;omega,D4 hp⟩
 rintro ⟨d,m⟩ ⟨hd,ha⟩
 dsimp only at hd ha
 show aA _ _ _ _ ⟨bx [(0,.oq u),(1,.pt (az s) 0),(2,.pt [.sl (p.map aD) full] 0),(3,.pt [gq f] 0),(5,.ptr 0 0 0),(8,aC ((d,m).2:Nat)),(29,aC s.days),(30,aC ((d,m).1:Nat))],[.cells (nc fun n=>Fu s p f n (d,m).1) 0 0],J d,false,0⟩ _
 dsimp only
 refine aa (mu:=fun _=>false) ?_
 by_cases hdl:(d:Int) < s.days
 ·have d1:=decide_eq_true hdl
  have hmp:=ha.1
  repeat' (first |refine u1 ?_ |refine u2 ?_ |fail)
  refine aA.aX (aj.to (l:=[(0,.oq u),(1,.pt (az s) 0),(2,.pt [.sl (p.map aD) full] 0),(3,.pt [gq f] 0),(5,.ptr 0 0 0),(8,aC (m:Nat)),(9,aC (d:Nat)),(29,aC s.days),(30,aC (d:Nat)),(36,aC nn),(37,aC (0:Nat))]) (hp:=[.cells (nc fun n=>if n < 0 then v8 s p f n d else Fu s p f n d) 0 0]) 1 rfl ⟨rfl,rfl,rfl,rfl,rfl,rfl,rfl,rfl,rfl,bW (by rw [hnn];exact eg),rfl,trivial⟩ (Nat.zero_le _) rfl rfl) ?_
  refine aA.loop (fun k:Nat=>k≤s.needs.length) (fun k=>⟨bx [(0,.oq u),(1,.pt (az s) 0),(2,.pt [.sl (p.map aD) full] 0),(3,.pt [gq f] 0),(5,.ptr 0 0 0),(8,aC (m:Nat)),(9,aC (d:Nat)),(29,aC s.days),(30,aC (d:Nat)),(36,aC nn),(37,aC (k:Nat))],[.cells (nc fun n=>if n < k then v8 s p f n d else Fu s p f n d) 0 0],J d,false,0⟩) (fun k=>s.needs.length - k) ?_ 0 (Nat.zero_le _)
  intro k hk
  by_cases hlt:k < s.needs.length
  ·have d2:decide ((k:Int) < nn)=true:=decide_eq_true (by omega)
   have hk3:k < 3:=by omega
   cases d with
   | zero =>
    have d3:decide ((0:Int) < ((0:Nat):Int))=false:=by decide
    have e:(nc fun n=>if n < k then v8 s p f n 0 else Fu s p f n 0)=nc fun n=>if n < k+1 then v8 s p f n 0 else Fu s p f n 0:=gQ fun n _=>by
     show (if n < k then jY s n else jY s n)=if n < k+1 then jY s n else jY s n
     rw [ite_self,ite_self]
    rw [e]
    refine aa (mu:=fun _=>false) ?_
    repeat' (first |refine u1 ?_ |refine u2 ?_ |fail)
    exact ⟨k+1,hlt,(by dsimp only;omega),aj.to 1 rfl ⟨rfl,rfl,rfl,rfl,rfl,rfl,rfl,rfl,rfl,rfl,bW (by simp),trivial⟩ (Nat.zero_le _) rfl rfl⟩
   | succ d =>
    have d3:decide ((0:Int) < ((d+1:Nat):Int))=true:=decide_eq_true (by omega)
    have hb:=NI hg p f k d
    have hln:=Ai (fun n=>if n < k then v8 s p f n (d+1) else Fu s p f n (d+1)) hk3
    have hat4:(nc fun n=>if n < k then v8 s p f n (d+1) else Fu s p f n (d+1))[0+((k:Nat):Int).toNat * 1]?=some (aC (kI s p f k d)):=by
     rw [LW _ hk3,if_neg (Nat.lt_irrefl _)]
     rfl
    have hst:=wg (c:=fun n=>if n < k then v8 s p f n (d+1) else Fu s p f n (d+1)) (c':=fun n=>if n < k+1 then v8 s p f n (d+1) else Fu s p f n (d+1)) (v:=max 0 (kI s p f k d - 1)) hk3 (fun n hn=>by
     by_cases e:n=k
     ·subst e
      rw [if_pos rfl,if_pos (by omega)]
      rfl
     ·rw [if_neg e]
      by_cases e2:n < k
      ·rw [if_pos e2,if_pos (by omega)]
      ·rw [if_neg e2,if_neg (by omega)])
    generalize kI s p f k d=v at *
    refine aa (mu:=fun _=>false) ?_
    repeat' (first |((with_reducible show RM.wpOp _ _ (.load _ _) _ _ _);refine RM.LF rfl rfl rfl hat4 ?_) |((with_reducible show cR _ _ _ _ _ _);refine RM.ND rfl rfl rfl rfl rfl rfl hln ?_) |refine u1 ?_ |refine u2 ?_ |fail)
    exact ⟨k+1,hlt,(by dsimp only;omega),aj.to 1 (congrArg (fun l=>[AB.cells l 0 0]) hst) ⟨rfl,rfl,rfl,rfl,rfl,rfl,rfl,rfl,rfl,rfl,bW (by simp),trivial⟩ (Nat.zero_le _) rfl rfl⟩
  have d2:decide ((k:Int) < nn)=false:=decide_eq_false (by omega)
  have hdn:(nc fun n=>if n < k then v8 s p f n d else Fu s p f n d)=nc fun n=>v8 s p f n d:=gQ fun n _=>by
   by_cases e:n < k
   ·rw [if_pos e]
   ·rw [if_neg e,(Co p f n d (by omega)).1,(Co p f n d (by omega)).2]
  rw [hdn]
  clear hdn
  have hdt:d < s.days.toNat:=by omega
  have hyx:=hy d _ (Cm hdt)
  by_cases hm:m < p.length
  ·have d3:decide ((m:Int) < ((p.map aD).length:Int))=true:=decide_eq_true (by omega)
   have hat:(p.map aD)[((m:Nat):Int).toNat]?=some (aD p[m]):=cI hm
   by_cases hday:p[m].day=(d:Int)
   ·have hbr:=fun n=>Ru hp ha hm hday f n
    have ha':=Ki hp ha hm hday
    have hor:=hp.order _ (List.getElem_mem hm)
    have d4:=decide_eq_true hday
    generalize p[m]=o at *
    have ec:((ints o.aO).length:Int)=o.aO.length:=by simp
    obtain ⟨cl,hcl⟩:∃ n:Int,n=o.aO.length:=⟨_,rfl⟩
    have hc3:=hor.len
    refine aa (mu:=fun _=>false) ?_
    repeat' (first |refine u1 ?_ |((with_reducible show RM.wpOp _ _ (.indexAddr _ _ _) _ _ _);refine ⟨aD o,⟨by omega,hat⟩,rfl,?_⟩) |refine u2 ?_ |fail)
    have h60:(nc fun n=>v8 s p f n d)=nc fun n=>if (!f.testBit m && hasB (o.aO.take 0) (n:Int))=true then jS s n else v8 s p f n d:=gQ fun n _=>by
     rw [if_neg (by simp [hasB])]
    refine aA.aX (aj.to (l:=[(0,.oq u),(1,.pt (az s) 0),(2,.pt [.sl (p.map aD) full] 0),(3,.pt [gq f] 0),(5,.ptr 0 0 0),(8,aC (m:Nat)),(9,aC (d:Nat)),(29,aC s.days),(30,aC (d:Nat)),(67,.sl (ints o.aO) false),(68,aC cl),(69,aC (0:Nat))]) (hp:=[.cells (nc fun n=>if (!f.testBit m && hasB (o.aO.take 0) (n:Int))=true then jS s n else v8 s p f n d) 0 0]) 1 (congrArg (fun l=>[AB.cells l 0 0]) h60) ⟨rfl,rfl,rfl,rfl,rfl,rfl,rfl,rfl,rfl,rfl,bW (by rw [hcl];exact ec),rfl,trivial⟩ (Nat.zero_le _) rfl rfl) ?_
    refine aA.loop (fun j:Nat=>j≤o.aO.length) (fun j=>⟨bx [(0,.oq u),(1,.pt (az s) 0),(2,.pt [.sl (p.map aD) full] 0),(3,.pt [gq f] 0),(5,.ptr 0 0 0),(8,aC (m:Nat)),(9,aC (d:Nat)),(29,aC s.days),(30,aC (d:Nat)),(67,.sl (ints o.aO) false),(68,aC cl),(69,aC (j:Nat))],[.cells (nc fun n=>if (!f.testBit m && hasB (o.aO.take j) (n:Int))=true then jS s n else v8 s p f n d) 0 0],J d,false,0⟩) (fun j=>o.aO.length - j) ?_ 0 (Nat.zero_le _)
    intro j hj
    by_cases hjl:j < o.aO.length
    ·have d5:decide ((j:Int) < cl)=true:=decide_eq_true (by omega)
     have hct:(ints o.aO)[((j:Nat):Int).toNat]?=some (eI o.aO[j]):=cI hjl
     have hx:=hor.aO _ (List.getElem_mem hjl)
     have htk:∀ n:Int,hasB (o.aO.take (j+1)) n=(hasB (o.aO.take j) n || decide (o.aO[j]=n)):=fun n=>by
      unfold hasB
      rw [List.take_add_one,List.getElem?_eq_getElem hjl,List.any_append]
      simp
     obtain ⟨q,hq⟩:∃ q:Nat,o.aO[j]=(q:Int):=⟨o.aO[j].toNat,by omega⟩
     rw [hq] at hct hx htk
     have hq3:q < 3:=by omega
     obtain ⟨nd,n1,n2,_⟩:=Fp hx
     have hm8:m < 8:=by omega
     have hbit:f / 2 ^ m % 2=if f.testBit m=true then 1 else 0:=by
      rw [Nat.testBit_eq_decide_div_mod_eq]
      have:=Nat.mod_two_eq_zero_or_one (f / 2 ^ m)
      rcases this with e|e <;> rw [e] <;> simp
     have hfm:f / 2 ^ m < 18446744073709551616:=Nat.lt_of_le_of_lt (Nat.div_le_self _ _) hf
     cases hfb:f.testBit m with
     | true =>
      rw [hfb,if_pos rfl] at hbit
      have d6:decide (((f / 2 ^ m % 2:Nat):Int)=0)=false:=decide_eq_false (by rw [hbit];decide)
      refine aa (mu:=fun _=>false) ?_
      repeat' (first |((with_reducible show aL _ _ _ _ _ _ _ _ _);refine RM.v7 rfl rfl hm8 ?_) |((with_reducible show aL _ _ _ _ _ _ _ _ _);refine RM.qd rfl rfl hfm ?_) |((with_reducible show aL _ _ _ _ _ _ _ _ _);refine RM.DZ rfl rfl ?_) |refine u1 ?_ |((with_reducible show RM.wpOp _ _ (.indexAddr _ _ _) _ _ _);refine ⟨eI (q:Int),⟨by omega,hct⟩,rfl,?_⟩) |refine u2 ?_ |fail)
      exact ⟨j+1,hjl,(by dsimp only;omega),aj.to 1 rfl ⟨rfl,rfl,rfl,rfl,rfl,rfl,rfl,rfl,rfl,rfl,rfl,bW (by simp),trivial⟩ (Nat.zero_le _) rfl rfl⟩
     | false =>
      rw [hfb,if_neg (by simp)] at hbit
      have d6:decide (((f / 2 ^ m % 2:Nat):Int)=0)=true:=decide_eq_true (by rw [hbit];decide)
      have hln:=Ai (fun n=>if (!false && hasB (o.aO.take j) (n:Int))=true then jS s n else v8 s p f n d) hq3
      have hst:=wg (c:=fun n=>if (!false && hasB (o.aO.take j) (n:Int))=true then jS s n else v8 s p f n d) (c':=fun n=>if (!false && hasB (o.aO.take (j+1)) (n:Int))=true then jS s n else v8 s p f n d) (v:=nd.full) hq3 (fun n hn=>by
       rw [htk]
       by_cases e:n=q
       ·subst e
        rw [if_pos rfl,if_pos (by simp)]
        unfold jS
        rw [Int.toNat_natCast] at n1
        rw [n1]
       ·rw [if_neg e,show decide ((q:Int)=(n:Int))=false from decide_eq_false (by omega),Bool.or_false])
      refine aa (mu:=fun _=>false) ?_
      repeat' (first |((with_reducible show aL _ _ _ _ _ _ _ _ _);refine RM.v7 rfl rfl hm8 ?_) |((with_reducible show aL _ _ _ _ _ _ _ _ _);refine RM.qd rfl rfl hfm ?_) |((with_reducible show aL _ _ _ _ _ _ _ _ _);refine RM.DZ rfl rfl ?_) |((with_reducible show cR _ _ _ _ _ _);refine RM.ND rfl rfl rfl rfl rfl rfl hln ?_) |refine u1 ?_ |((with_reducible show RM.wpOp _ _ (.indexAddr _ _ _) _ _ _);refine ⟨eI (q:Int),⟨by omega,hct⟩,rfl,?_⟩) |((with_reducible show RM.wpOp _ _ (.indexAddr _ _ _) _ _ _);refine ⟨aV nd,⟨by omega,n2⟩,rfl,?_⟩) |refine u2 ?_ |fail)
      exact ⟨j+1,hjl,(by dsimp only;omega),aj.to 1 (congrArg (fun l=>[AB.cells l 0 0]) hst) ⟨rfl,rfl,rfl,rfl,rfl,rfl,rfl,rfl,rfl,rfl,rfl,bW (by simp),trivial⟩ (Nat.zero_le _) rfl rfl⟩
    have d5:decide ((j:Int) < cl)=false:=decide_eq_false (by omega)
    have hcan:(nc fun n=>if (!f.testBit m && hasB (o.aO.take j) (n:Int))=true then jS s n else v8 s p f n d)=nc fun n=>kI s p f n d:=gQ fun n _=>by
     rw [List.take_of_length_le (by omega)]
     by_cases e:n < s.needs.length
     ·rw [D2 e,hbr n]
     ·rw [D6 p f n d e,if_neg,(Co p f n d e).1]
      rw [Bool.and_eq_true,jR]
      rintro ⟨_,h2⟩
      have:=hor.aO _ h2
      omega
    rw [hcan]
    clear hcan
    refine aa (mu:=fun _=>false) ?_
    repeat' (first |refine u1 ?_ |((with_reducible show RM.wpOp _ _ (.indexAddr _ _ _) _ _ _);refine ⟨aD o,⟨by omega,hat⟩,rfl,?_⟩) |refine u2 ?_ |fail)
    refine av.mono (hyx _) (fun a hp' amb' hq=>?_)
    obtain ⟨rfl,b,rfl,hb⟩:=hq
    rcases hb with ⟨rfl,rfl⟩|⟨rfl,hstop⟩
    ·repeat' (first |refine u1 ?_ |refine u2 ?_ |fail)
     exact ⟨(d+1,m+1),⟨by dsimp only;omega,ha'⟩,(by dsimp only;omega),aj.to 1 rfl ⟨rfl,rfl,rfl,rfl,rfl,bW (by simp),rfl,bW (by simp),trivial⟩ (Nat.zero_le _) rfl rfl⟩
    ·repeat' (first |refine u1 ?_ |refine u2 ?_ |fail)
     exact Or.inr hstop
   ·have d4:=decide_eq_false hday
    obtain ⟨hno,ha'⟩:(∀ n,D1 p f n d=false)∧rA p (d+1) m:=⟨fun n=>(Ft hp ha (fun _=>hday) f n).1,(Ft hp ha (fun _=>hday) f 0).2⟩
    have hcan:(nc fun n=>v8 s p f n d)=nc fun n=>kI s p f n d:=gQ fun n _=>by
     by_cases e:n < s.needs.length
     ·rw [D2 e,hno n];rfl
     ·rw [D6 p f n d e,(Co p f n d e).1]
    rw [hcan]
    clear hcan
    generalize p[m]=o at *
    refine aa (mu:=fun _=>false) ?_
    repeat' (first |refine u1 ?_ |((with_reducible show RM.wpOp _ _ (.indexAddr _ _ _) _ _ _);refine ⟨aD o,⟨by omega,hat⟩,rfl,?_⟩) |refine u2 ?_ |fail)
    refine av.mono (hyx _) (fun a hp' amb' hq=>?_)
    obtain ⟨rfl,b,rfl,hb⟩:=hq
    rcases hb with ⟨rfl,rfl⟩|⟨rfl,hstop⟩
    ·repeat' (first |refine u1 ?_ |refine u2 ?_ |fail)
     exact ⟨(d+1,m),⟨by dsimp only;omega,ha'⟩,(by dsimp only;omega),aj.to 1 rfl ⟨rfl,rfl,rfl,rfl,rfl,bW (by simp),rfl,bW (by simp),trivial⟩ (Nat.zero_le _) rfl rfl⟩
    ·repeat' (first |refine u1 ?_ |refine u2 ?_ |fail)
     exact Or.inr hstop
  ·have d3:decide ((m:Int) < ((p.map aD).length:Int))=false:=decide_eq_false (by omega)
   obtain ⟨hno,ha'⟩:(∀ n,D1 p f n d=false)∧rA p (d+1) m:=⟨fun n=>(Ft hp ha (fun h=>absurd h hm) f n).1,(Ft hp ha (fun h=>absurd h hm) f 0).2⟩
   have hcan:(nc fun n=>v8 s p f n d)=nc fun n=>kI s p f n d:=gQ fun n _=>by
    by_cases e:n < s.needs.length
    ·rw [D2 e,hno n];rfl
    ·rw [D6 p f n d e,(Co p f n d e).1]
   rw [hcan]
   clear hcan
   refine aa (mu:=fun _=>false) ?_
   repeat' (first |refine u1 ?_ |((with_reducible show RM.wpOp _ _ (.indexAddr _ _ _) _ _ _);refine ⟨aD o,⟨by omega,hat⟩,rfl,?_⟩) |refine u2 ?_ |fail)
   refine av.mono (hyx _) (fun a hp' amb' hq=>?_)
   obtain ⟨rfl,b,rfl,hb⟩:=hq
   rcases hb with ⟨rfl,rfl⟩|⟨rfl,hstop⟩
   ·repeat' (first |refine u1 ?_ |refine u2 ?_ |fail)
    exact ⟨(d+1,m),⟨by dsimp only;omega,ha'⟩,(by dsimp only;omega),aj.to 1 rfl ⟨rfl,rfl,rfl,rfl,rfl,bW (by simp),rfl,bW (by simp),trivial⟩ (Nat.zero_le _) rfl rfl⟩
   ·repeat' (first |refine u1 ?_ |refine u2 ?_ |fail)
    exact Or.inr hstop
 ·have d1:=decide_eq_false hdl
  have hde:d=s.days.toNat:=by omega
  subst hde
  repeat' (first |refine u1 ?_ |refine u2 ?_ |fail)
  exact Or.inl rfl
theorem ug {l:List Int} (h:l ≠ []):ints l ≠ []:=by
 cases l with
 | nil=>exact absurd rfl h
 | cons=>simp
theorem oM:∀ l:List Int,(ints l).flatten.all AV.one=true∧cJ (ints l).flatten=true
 | []=>⟨rfl,rfl⟩
 | _ :: l=>oM l
theorem LX (one:Bool) (l:List Int) (full:Bool) (h:l ≠ []) (hl:l.length≤8):Pu one 51 [.sl (ints l) full] (.sl (ints l) false):=by
 have hb:(([]:List (List AV)).length+(ints l).length) * 8≤140737488355328∧([]:List (List AV)).length+(ints l).length≤9223372036854775807:=by
  rw [List.length_map,List.length_nil]
  omega
 refine ah.body (fn:=Tryd.f51) rfl rfl rfl rfl ?_
 refine aa (mu:=fun _=>false) ?_
 repeat' (first |(refine RM.SI rfl (ug h) (by kernel_rfl) rfl ?_) |(refine RM.Po rfl rfl rfl rfl rfl (fun el hel=>nomatch hel) (fun el hel=>by obtain ⟨x,_,rfl⟩:=List.mem_map.1 hel;rfl) (oM l).1 (ug h) hb (oM l).2 ?_) |refine u1 ?_ |refine u2 ?_ |fail)
 exact ⟨[_],⟨Fz.deep rfl,trivial⟩,rfl⟩
theorem Gl (one:Bool) (a:Int) (l:List Int) (full:Bool) (hl:l.length≤maxLen):Pu one 76 [.sl (ints l) full,aC a] (aC (nR (fun x=>decide (a=x)) l)):=by
 have ml:l.length≤9223372036854775807:=Nat.le_trans hl (by simp [maxLen])
 have eg:((ints l).length:Int)=l.length:=by simp
 obtain ⟨n,hn⟩:∃ n:Int,n=l.length:=⟨_,rfl⟩
 refine ah.body (fn:=Tryd.f76) rfl rfl rfl rfl ?_
 refine aa (mu:=fun _=>false) ?_
 repeat' (first |refine u1 ?_ |refine u2 ?_ |fail)
 refine aA.aX (aj.to (l:=[(0,.sl (ints l) full),(1,aC a),(7,aC n),(8,aC (0:Nat))]) (hp:=[]) 0 rfl ⟨rfl,rfl,bW (by rw [hn];exact eg),rfl,trivial⟩ (Nat.zero_le _) rfl rfl) ?_
 refine aA.loop (fun k:Nat=>k≤l.length∧∀ i (h:i < l.length),i < k→decide (a=l[i])=false) (fun k=>⟨bx [(0,.sl (ints l) full),(1,aC a),(7,aC n),(8,aC (k:Nat))],[],bG.none,false,0⟩) (fun k=>l.length - k) ?_ 0 ⟨Nat.zero_le _,fun i _ hi=>absurd hi (Nat.not_lt_zero _)⟩
 rintro k ⟨hk,hprev⟩
 refine aa (mu:=fun _=>false) ?_
 by_cases hlt:k < l.length
 ·have d1:decide ((k:Int) < n)=true:=decide_eq_true (by omega)
  have hat:(ints l)[((k:Nat):Int).toNat]?=some (eI l[k]):=cI hlt
  cases hx:decide (a=l[k]) with
  | true =>
   rw [oJ hlt hprev hx]
   generalize l[k]=x at *
   repeat' (first |refine u1 ?_ |((with_reducible show RM.wpOp _ _ (.indexAddr _ _ _) _ _ _);refine ⟨eI x,⟨by omega,hat⟩,rfl,?_⟩) |refine u2 ?_ |fail)
   exact ⟨[_],⟨Fz.deep rfl,trivial⟩,rfl⟩
  | false =>
   have hn':∀ i (h:i < l.length),i < k+1→decide (a=l[i])=false:=fun i hi hik=>by
    by_cases e:i=k
    ·subst e;exact hx
    ·exact hprev i hi (by omega)
   generalize l[k]=x at *
   repeat' (first |refine u1 ?_ |((with_reducible show RM.wpOp _ _ (.indexAddr _ _ _) _ _ _);refine ⟨eI x,⟨by omega,hat⟩,rfl,?_⟩) |refine u2 ?_ |fail)
   exact ⟨k+1,⟨hlt,hn'⟩,(by dsimp only;omega),aj.to 0 rfl ⟨rfl,rfl,rfl,bW (by simp),trivial⟩ (Nat.zero_le _) rfl rfl⟩
 ·have d1:decide ((k:Int) < n)=false:=decide_eq_false (by omega)
  rw [oK (fun i hi=>hprev i hi (by omega))]
  repeat' (first |refine u1 ?_ |refine u2 ?_ |fail)
  exact ⟨[_],⟨Fz.deep rfl,trivial⟩,rfl⟩
def Fv (s:ai) (p:List Order) (f d:Nat):List Int:=(List.range s.needs.length).map fun n=>kI s p f n d
theorem uh {s:ai} {p:List Order} {f d:Nat}:(Fv s p f d).length=s.needs.length:=by simp [Fv]
theorem LY {s:ai} (hg:Good s) (p:List Order) (f d:Nat):(ints (Fv s p f d)).length=(s.needs.map aV).length∧(∀ el ∈ ints (Fv s p f d),el.length=1) ∧
  (ints (Fv s p f d)).flatten=((nc fun n=>kI s p f n d).drop 0).take ((s.needs.map aV).length * 1):=by
 have h:=hg.len
 refine ⟨by rw [List.length_map,uh,List.length_map],fun el hel=>by obtain ⟨x,_,rfl⟩:=List.mem_map.1 hel;rfl,?_⟩
 rw [List.length_map]
 unfold Fv
 obtain e|e|e:s.needs.length=1∨s.needs.length=2∨s.needs.length=3:=by omega
 all_goals rw [e];rfl
def zeroAt (s:ai) (p:List Order) (f d:Nat):Int:=nR (fun x=>decide (0=x)) (Fv s p f d)
def jZ (s:ai) (p:List Order) (f:Nat):Option (Nat × Int):=((List.range s.days.toNat).find? fun d=>decide (0≤zeroAt s p f d)).map fun d=>(d,zeroAt s p f d)
theorem Kj {s:ai} {p:List Order} {f d:Nat} (hd:d < s.days.toNat) (hprev:∀ i,i < d→zeroAt s p f i < 0) (h:0≤zeroAt s p f d):jZ s p f=some (d,zeroAt s p f d):=by
 unfold jZ
 have:(List.range s.days.toNat).find? (fun d=>decide (0≤zeroAt s p f d))=some d:=by
  rw [List.find?_range_eq_some]
  refine ⟨decide_eq_true h,by simpa using hd,fun j hj=>?_⟩
  have:=hprev j hj
  simpa using this
 rw [this];rfl
theorem Cp {s:ai} {p:List Order} {f:Nat} (hprev:∀ i,i < s.days.toNat→zeroAt s p f i < 0):jZ s p f=none:=by
 unfold jZ
 have:(List.range s.days.toNat).find? (fun d=>decide (0≤zeroAt s p f d))=none:=by
  rw [List.find?_eq_none]
  intro d hd
  have:=hprev d (by simpa using hd)
  simpa using this
 rw [this];rfl
def wh (s:ai) (p:List Order) (f:Nat):AV:=match jZ s p f with
 | some (d,n)=>.tp [.ag [gq f,aC (d:Nat),aC n],BB true]
 | none=>.tp [.ag [gq 0,aC 0,aC 0],BB false]
theorem Gn {s:ai} {p:List Order} {f:Nat}:(wh s p f).deep=true:=by
 unfold wh
 split <;> rfl
theorem wj (one:Bool) {s:ai} {p:List Order} (hp:jP s p) (full:Bool) (f:Nat) (hf:f < 18446744073709551616):Pu one 54 [.ag (az s),.sl (p.map aD) full,gq f] (wh s p f):=by
 have hg:=hp.good
 have hlen:=hg.len
 have hm:=D5 one s p full f
 have hgen:=D7 one hp full f hf
 refine ah.body (fn:=Tryd.f54) rfl rfl rfl Gn ?_
 refine RM.cS (mu:=fun _=>false) ?_
 repeat' (first |refine u1 ?_ |refine u2 ?_ |fail)
 refine RM.cS (mu:=fun _=>false) ?_
 repeat' (first |refine u1 ?_ |((with_reducible show av _ _ _ _ _ _ _ _);refine ah.call hm rfl rfl ?_) |refine u2 ?_ |fail)
 refine aA.range (fun _=>[.cells [gq 0,aC 0,aC 0] 0 0,.cells [BB false] 0 0]) (fun _=>bG.none) (fun i=>∀ d,d < i→zeroAt s p f d < 0) rfl hgen rfl rfl (fun d hd=>absurd hd (Nat.not_lt_zero _)) (fun i x hx hprev=>?_) (fun hprev=>?_)
 ·obtain ⟨hi,rfl⟩:=Cn hx
  refine ⟨rfl,?_⟩
  refine aa (mu:=fun _=>false) ?_
  repeat' (first |refine u1 ?_ |refine u2 ?_ |fail)
  refine aA.aX (aj.giveUp 2 (l:=[(3,.pt (az s) 0),(5,.pt [gq f] 0),(6,.ptr 0 0 0),(7,.ptr 1 0 0),(8,aC (i:Nat)),(9,.pt (nc fun n=>kI s p f n i) 0)]) (hp:=[.cells [gq 0,aC 0,aC 0] 0 0,.cells [BB false] 0 0,.gone]) rfl (Nat.le_of_ble_eq_true rfl) rfl ⟨.same rfl,.same rfl,.same rfl,.same rfl,.same rfl,.ptr,trivial⟩ rfl rfl) ?_
  have hcut:=LY hg p f i
  have hcb:(s.needs.map aV).length≤3∧0+(s.needs.map aV).length * 1≤(nc fun n=>kI s p f n i).length:=by
   rw [List.length_map]
   exact ⟨hlen.2,by simpa using hlen.2⟩
  have hix:Pu one 76 [.sl (ints (Fv s p f i)) (Nat.beq (s.needs.map aV).length 3),aC 0] (aC (zeroAt s p f i)):=Gl one 0 _ _ (by rw [uh];exact Nat.le_trans hlen.2 (by simp [maxLen]))
  refine aa (mu:=fun _=>false) ?_
  by_cases hz:0≤zeroAt s p f i
  ·have d1:=decide_eq_true hz
   have e:wh s p f=.tp [.ag [gq f,aC (i:Nat),aC (zeroAt s p f i)],BB true]:=by unfold wh;rw [Kj hi hprev hz]
   rw [e]
   generalize zeroAt s p f i=z at *
   repeat' (first |(refine RM.SH rfl rfl rfl hcb (by decide) hcut ?_) |refine u1 ?_ |((with_reducible show av _ _ _ _ _ _ _ _);refine ah.call hix rfl rfl ?_) |refine u2 ?_ |fail)
   exact ⟨[_,_],⟨Fz.deep rfl,Fz.deep rfl,trivial⟩,rfl⟩
  ·have d1:=decide_eq_false hz
   have hz':zeroAt s p f i < 0:=by omega
   repeat' (first |(refine RM.SH rfl rfl rfl hcb (by decide) hcut ?_) |refine u1 ?_ |((with_reducible show av _ _ _ _ _ _ _ _);refine ah.call hix rfl rfl ?_) |refine u2 ?_ |fail)
   refine ⟨fun d hd=>?_,_,aj.to (l:=[]) 2 rfl trivial (Nat.le_refl _) rfl rfl⟩
   ·by_cases e:d=i
    ·subst e;exact hz'
    ·exact hprev d (by omega)
 ·rw [sL] at hprev
  have e:wh s p f=.tp [.ag [gq 0,aC 0,aC 0],BB false]:=by unfold wh;rw [Cp hprev]
  rw [e]
  refine aa (mu:=fun _=>false) ?_
  repeat' (first |refine u1 ?_ |refine u2 ?_ |fail)
  exact ⟨[_,_],⟨Fz.deep rfl,Fz.deep rfl,trivial⟩,rfl⟩
theorem sM {α:Type} {g:α→AV} (h:∀ x,(g x).deep=true):∀ l:List α,cJ (l.map g)=true
 | []=>rfl
 | x :: l=>by
  show ((g x).deep && cJ (l.map g))=true
  rw [h x,sM h l]
  rfl
theorem rB {α:Type} (n:Nat) {g:α→AV} (h:∀ x,(g x).ic n=true):∀ l:List α,nP n (l.map g)=true
 | []=>rfl
 | x :: l=>by
  show ((g x).ic n && nP n (l.map g))=true
  rw [h x,rB n h l]
  rfl
abbrev dw (l:List Int):List AV:=l.map aC
theorem eV:∀ l:List Int,(ints l).flatten=dw l
 | []=>rfl
 | x :: l=>by
  show (eI x++(ints l).flatten)=_
  rw [eV l]
  rfl
theorem lG (l:List Int):cJ (dw l)=true:=sM (fun _=>rfl) l
end Go.Proofs.YtpeogffeoehboaaDoor
