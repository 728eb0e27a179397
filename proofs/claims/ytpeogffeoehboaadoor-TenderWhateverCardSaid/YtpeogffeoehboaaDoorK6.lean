/-
  Contracts of the program's functions and of the document's. Lemmas alone; their conditions stand in them.
-/
import Derived.Test.YtpeogffeoehboaaDoorA2
import Derived.Test.YtpeogffeoehboaaDoorA3
import Derived.Test.YtpeogffeoehboaaDoorK5
open Go Go.RM
namespace Go.Proofs.YtpeogffeoehboaaDoor
set_option maxRecDepth 100000
set_option maxHeartbeats 4000000
abbrev LD (s:ak) (p:List Order) (full:Bool) (f:Nat):AV:=.fn 75 [] [.pt (ay s) 0,.pt [.sl (p.map ai) full] 0,.pt [fA f] 0]
theorem oN (one:Bool) (s:ak) (p:List Order) (full:Bool) (f:Nat):Pu one 50 [.ag (ay s),.sl (p.map ai) full,fA f] (LD s p full f):=by
 refine af.body (fn:=Tryd.f50) rfl rfl rfl rfl ?_
 refine aa (mu:=fun _=>false) ?_
 repeat' (first |refine u1 ?_ |refine u2 ?_ |fail)
 exact ⟨[_],⟨Fz.deep rfl,trivial⟩,rfl⟩
theorem ni {c c':Nat→Int} {v:Int} {i:Nat} (hi:i < 3) (h:∀ n,n < 3→(if n=i then v else c n)=c' n):j7 (fP c) (AV.cells (aA v)) (0+((i:Nat):Int).toNat * 1)=fP c':=by
 rw [Int.toNat_natCast,Nat.mul_one,Nat.zero_add]
 exact (J6 c v hi).trans (dD h)
theorem zC (c:Nat→Int) {i:Nat} (hi:i < 3):(fP c)[0+((i:Nat):Int).toNat * 1]?=some (aA (c i)):=by
 rw [Int.toNat_natCast,Nat.mul_one,Nat.zero_add]
 exact Nk c hi
theorem qn (c:Nat→Int) {i:Nat} (hi:i < 3):Nat.ble (0+((i:Nat):Int).toNat * 1+1) (fP c).length=true:=by
 rw [Int.toNat_natCast,Nat.mul_one,Nat.zero_add]
 exact Nat.ble_eq_true_of_le (show i+1≤3 by omega)
def D2 (s:ak) (p:List Order) (f n:Nat):Nat→Int
 | 0=>iY s n
 | d+1=>gm s p f n d
theorem Bz {s:ak} (p:List Order) (f n d:Nat) (h:¬ n < s.needs.length):vo s p f n d=0∧D2 s p f n d=0:=by
 cases d with
 | zero=>exact ⟨vp h,vp h⟩
 | succ d =>
  have e:gm s p f n d=0:=by unfold gm;rw [if_neg h]
  exact ⟨by show max 0 (gm s p f n d - 1)=0;rw [e];rfl,e⟩
theorem CU {s:ak} (p:List Order) (f n d:Nat) (h:¬ n < s.needs.length):gm s p f n d=0:=by unfold gm;rw [if_neg h]
theorem oO (one:Bool) {s:ak} {p:List Order} (hp:mz s p) (full:Bool) (f:Nat) (hf:f < 18446744073709551616):zg TT TB one (LD s p full f) (xS s p f):=by
 have hg:=hp.good
 have hlen:=hg.len
 have hdays:=hg.days
 have p8:=hp.len
 have eg:((s.needs.map aH).length:Int)=s.needs.length:=by simp
 have ep:((p.map ai).length:Int)=p.length:=by simp
 obtain ⟨nn,hnn⟩:∃ n:Int,n=s.needs.length:=⟨_,rfl⟩
 refine zg.body (fn:=Tryd.f75) rfl rfl rfl rfl (fun x hx a ha=>?_) fun u J Stop hy=>?_
 ·obtain ⟨i,hi⟩:=List.mem_iff_getElem?.1 hx
  obtain ⟨_,rfl⟩:=qm hi
  simp only [List.mem_cons,List.not_mem_nil,or_false] at ha
  rcases ha with rfl|rfl
  ·exact gz.fl _
  ·exact gz.ag fun b hb=>by simp only [List.mem_cons,List.not_mem_nil,or_false] at hb;rcases hb with rfl|rfl|rfl <;> exact gz.fl _
 rw [kZ]
 refine aa (mu:=fun _=>false) ?_
 repeat' (first |refine u1 ?_ |refine u2 ?_ |fail)
 refine aB.aL (au.to (l:=[(0,.oq u),(1,.pt (ay s) 0),(2,.pt [.sl (p.map ai) full] 0),(3,.pt [fA f] 0),(5,.ptr 0 0 0),(15,.sl (s.needs.map aH) false),(16,aA nn),(17,aA (0:Nat))]) (hp:=[.cells (fP fun n=>if n < 0 then iY s n else 0) 0 0]) 1 rfl ⟨rfl,rfl,rfl,rfl,rfl,rfl,bu (by rw [hnn];exact eg),rfl,trivial⟩ (Nat.zero_le _) rfl rfl) ?_
 refine aB.loop (fun k:Nat=>k≤s.needs.length) (fun k=>⟨aU [(0,.oq u),(1,.pt (ay s) 0),(2,.pt [.sl (p.map ai) full] 0),(3,.pt [fA f] 0),(5,.ptr 0 0 0),(15,.sl (s.needs.map aH) false),(16,aA nn),(17,aA (k:Nat))],[.cells (fP fun n=>if n < k then iY s n else 0) 0 0],J 0,false,0⟩) (fun k=>s.needs.length - k) ?_ 0 (Nat.zero_le _)
 intro k hk
 refine aa (mu:=fun _=>false) ?_
 by_cases hlt:k < s.needs.length
 ·have d1:decide ((k:Int) < nn)=true:=decide_eq_true (by omega)
  have hat:(s.needs.map aH)[((k:Nat):Int).toNat]?=some (aH s.needs[k]):=bC hlt
  have hk3:k < 3:=by omega
  have hln:=qn (fun n=>if n < k then iY s n else 0) hk3
  have hst:=ni (c:=fun n=>if n < k then iY s n else 0) (c':=fun n=>if n < k+1 then iY s n else 0) (v:=s.needs[k].first) hk3 (fun n hn=>by
   by_cases e:n=k
   ·rw [if_pos e,if_pos (by omega),e]
    unfold iY
    rw [List.getElem?_eq_getElem hlt]
   ·rw [if_neg e]
    by_cases e2:n < k
    ·rw [if_pos e2,if_pos (by omega)]
    ·rw [if_neg e2,if_neg (by omega)])
  generalize s.needs[k]=g at *
  repeat' (first |((with_reducible show cM _ _ _ _ _ _);refine RM.NJ rfl rfl rfl rfl rfl rfl hln ?_) |refine u1 ?_ |((with_reducible show RM.wpOp _ _ (.indexAddr _ _ _) _ _ _);refine ⟨aH g,⟨by omega,hat⟩,rfl,?_⟩) |refine u2 ?_ |fail)
  exact ⟨k+1,hlt,(by dsimp only;omega),au.to 1 (congrArg (fun l=>[AB.cells l 0 0]) hst) ⟨rfl,rfl,rfl,rfl,rfl,rfl,rfl,bu (by simp),trivial⟩ (Nat.zero_le _) rfl rfl⟩
 have d1:decide ((k:Int) < nn)=false:=decide_eq_false (by omega)
 have hall:(fP fun n=>if n < k then iY s n else 0)=fP fun n=>D2 s p f n 0:=dD fun n _=>by
  by_cases e:n < k
  ·rw [if_pos e];rfl
  ·rw [if_neg e];exact (vp (by omega)).symm
 rw [hall]
 clear hall
 repeat' (first |refine u1 ?_ |refine u2 ?_ |fail)
 refine aB.aL (au.to (l:=[(0,.oq u),(1,.pt (ay s) 0),(2,.pt [.sl (p.map ai) full] 0),(3,.pt [fA f] 0),(5,.ptr 0 0 0),(8,aA ((0,0).2:Nat)),(29,aA s.days),(30,aA ((0,0).1:Nat))]) (hp:=[.cells (fP fun n=>D2 s p f n (0,0).1) 0 0]) 1 rfl ⟨rfl,rfl,rfl,rfl,rfl,rfl,rfl,rfl,trivial⟩ (Nat.zero_le _) rfl rfl) ?_
 refine aB.loop (fun x:Nat × Nat=>(x.1:Int)≤s.days∧ql p x.1 x.2) (fun x=>⟨aU [(0,.oq u),(1,.pt (ay s) 0),(2,.pt [.sl (p.map ai) full] 0),(3,.pt [fA f] 0),(5,.ptr 0 0 0),(8,aA (x.2:Nat)),(29,aA s.days),(30,aA (x.1:Nat))],[.cells (fP fun n=>D2 s p f n x.1) 0 0],J x.1,false,0⟩) (fun x=>s.days.toNat - x.1) ?_ (0,0) ⟨by dsimp only;omega,CT hp⟩
 rintro ⟨d,m⟩ ⟨hd,ha⟩
 dsimp only at hd ha
 show aB _ _ _ _ ⟨aU [(0,.oq u),(1,.pt (ay s) 0),(2,.pt [.sl (p.map ai) full] 0),(3,.pt [fA f] 0),(5,.ptr 0 0 0),(8,aA ((d,m).2:Nat)),(29,aA s.days),(30,aA ((d,m).1:Nat))],[.cells (fP fun n=>D2 s p f n (d,m).1) 0 0],J d,false,0⟩ _
 dsimp only
 refine aa (mu:=fun _=>false) ?_
 by_cases hdl:(d:Int) < s.days
 ·have d1:=decide_eq_true hdl
  have hmp:=ha.1
  repeat' (first |refine u1 ?_ |refine u2 ?_ |fail)
  refine aB.aL (au.to (l:=[(0,.oq u),(1,.pt (ay s) 0),(2,.pt [.sl (p.map ai) full] 0),(3,.pt [fA f] 0),(5,.ptr 0 0 0),(8,aA (m:Nat)),(9,aA (d:Nat)),(29,aA s.days),(30,aA (d:Nat)),(36,aA nn),(37,aA (0:Nat))]) (hp:=[.cells (fP fun n=>if n < 0 then vo s p f n d else D2 s p f n d) 0 0]) 1 rfl ⟨rfl,rfl,rfl,rfl,rfl,rfl,rfl,rfl,rfl,bu (by rw [hnn];exact eg),rfl,trivial⟩ (Nat.zero_le _) rfl rfl) ?_
  refine aB.loop (fun k:Nat=>k≤s.needs.length) (fun k=>⟨aU [(0,.oq u),(1,.pt (ay s) 0),(2,.pt [.sl (p.map ai) full] 0),(3,.pt [fA f] 0),(5,.ptr 0 0 0),(8,aA (m:Nat)),(9,aA (d:Nat)),(29,aA s.days),(30,aA (d:Nat)),(36,aA nn),(37,aA (k:Nat))],[.cells (fP fun n=>if n < k then vo s p f n d else D2 s p f n d) 0 0],J d,false,0⟩) (fun k=>s.needs.length - k) ?_ 0 (Nat.zero_le _)
  intro k hk
  by_cases hlt:k < s.needs.length
  ·have d2:decide ((k:Int) < nn)=true:=decide_eq_true (by omega)
   have hk3:k < 3:=by omega
   cases d with
   | zero =>
    have d3:decide ((0:Int) < ((0:Nat):Int))=false:=by decide
    have e:(fP fun n=>if n < k then vo s p f n 0 else D2 s p f n 0)=fP fun n=>if n < k+1 then vo s p f n 0 else D2 s p f n 0:=dD fun n _=>by
     show (if n < k then iY s n else iY s n)=if n < k+1 then iY s n else iY s n
     rw [ite_self,ite_self]
    rw [e]
    refine aa (mu:=fun _=>false) ?_
    repeat' (first |refine u1 ?_ |refine u2 ?_ |fail)
    exact ⟨k+1,hlt,(by dsimp only;omega),au.to 1 rfl ⟨rfl,rfl,rfl,rfl,rfl,rfl,rfl,rfl,rfl,rfl,bu (by simp),trivial⟩ (Nat.zero_le _) rfl rfl⟩
   | succ d =>
    have d3:decide ((0:Int) < ((d+1:Nat):Int))=true:=decide_eq_true (by omega)
    have hb:=II hg p f k d
    have hln:=qn (fun n=>if n < k then vo s p f n (d+1) else D2 s p f n (d+1)) hk3
    have hat4:(fP fun n=>if n < k then vo s p f n (d+1) else D2 s p f n (d+1))[0+((k:Nat):Int).toNat * 1]?=some (aA (gm s p f k d)):=by
     rw [zC _ hk3,if_neg (Nat.lt_irrefl _)]
     rfl
    have hst:=ni (c:=fun n=>if n < k then vo s p f n (d+1) else D2 s p f n (d+1)) (c':=fun n=>if n < k+1 then vo s p f n (d+1) else D2 s p f n (d+1)) (v:=max 0 (gm s p f k d - 1)) hk3 (fun n hn=>by
     by_cases e:n=k
     ·subst e
      rw [if_pos rfl,if_pos (by omega)]
      rfl
     ·rw [if_neg e]
      by_cases e2:n < k
      ·rw [if_pos e2,if_pos (by omega)]
      ·rw [if_neg e2,if_neg (by omega)])
    generalize gm s p f k d=v at *
    refine aa (mu:=fun _=>false) ?_
    repeat' (first |((with_reducible show RM.wpOp _ _ (.load _ _) _ _ _);refine RM.Pp rfl rfl rfl hat4 ?_) |((with_reducible show cM _ _ _ _ _ _);refine RM.NJ rfl rfl rfl rfl rfl rfl hln ?_) |refine u1 ?_ |refine u2 ?_ |fail)
    exact ⟨k+1,hlt,(by dsimp only;omega),au.to 1 (congrArg (fun l=>[AB.cells l 0 0]) hst) ⟨rfl,rfl,rfl,rfl,rfl,rfl,rfl,rfl,rfl,rfl,bu (by simp),trivial⟩ (Nat.zero_le _) rfl rfl⟩
  have d2:decide ((k:Int) < nn)=false:=decide_eq_false (by omega)
  have hdn:(fP fun n=>if n < k then vo s p f n d else D2 s p f n d)=fP fun n=>vo s p f n d:=dD fun n _=>by
   by_cases e:n < k
   ·rw [if_pos e]
   ·rw [if_neg e,(Bz p f n d (by omega)).1,(Bz p f n d (by omega)).2]
  rw [hdn]
  clear hdn
  have hdt:d < s.days.toNat:=by omega
  have hyx:=hy d _ (Bx hdt)
  by_cases hm:m < p.length
  ·have d3:decide ((m:Int) < ((p.map ai).length:Int))=true:=decide_eq_true (by omega)
   have hat:(p.map ai)[((m:Nat):Int).toNat]?=some (ai p[m]):=bC hm
   by_cases hday:p[m].day=(d:Int)
   ·have hbr:=fun n=>O1 hp ha hm hday f n
    have ha':=IJ hp ha hm hday
    have hor:=hp.order _ (List.getElem_mem hm)
    have d4:=decide_eq_true hday
    generalize p[m]=o at *
    have ec:((ints o.aF).length:Int)=o.aF.length:=by simp
    obtain ⟨cl,hcl⟩:∃ n:Int,n=o.aF.length:=⟨_,rfl⟩
    have hc3:=hor.len
    refine aa (mu:=fun _=>false) ?_
    repeat' (first |refine u1 ?_ |((with_reducible show RM.wpOp _ _ (.indexAddr _ _ _) _ _ _);refine ⟨ai o,⟨by omega,hat⟩,rfl,?_⟩) |refine u2 ?_ |fail)
    have h60:(fP fun n=>vo s p f n d)=fP fun n=>if (!f.testBit m && hasB (o.aF.take 0) (n:Int))=true then fG s n else vo s p f n d:=dD fun n _=>by
     rw [if_neg (by simp [hasB])]
    refine aB.aL (au.to (l:=[(0,.oq u),(1,.pt (ay s) 0),(2,.pt [.sl (p.map ai) full] 0),(3,.pt [fA f] 0),(5,.ptr 0 0 0),(8,aA (m:Nat)),(9,aA (d:Nat)),(29,aA s.days),(30,aA (d:Nat)),(67,.sl (ints o.aF) false),(68,aA cl),(69,aA (0:Nat))]) (hp:=[.cells (fP fun n=>if (!f.testBit m && hasB (o.aF.take 0) (n:Int))=true then fG s n else vo s p f n d) 0 0]) 1 (congrArg (fun l=>[AB.cells l 0 0]) h60) ⟨rfl,rfl,rfl,rfl,rfl,rfl,rfl,rfl,rfl,rfl,bu (by rw [hcl];exact ec),rfl,trivial⟩ (Nat.zero_le _) rfl rfl) ?_
    refine aB.loop (fun j:Nat=>j≤o.aF.length) (fun j=>⟨aU [(0,.oq u),(1,.pt (ay s) 0),(2,.pt [.sl (p.map ai) full] 0),(3,.pt [fA f] 0),(5,.ptr 0 0 0),(8,aA (m:Nat)),(9,aA (d:Nat)),(29,aA s.days),(30,aA (d:Nat)),(67,.sl (ints o.aF) false),(68,aA cl),(69,aA (j:Nat))],[.cells (fP fun n=>if (!f.testBit m && hasB (o.aF.take j) (n:Int))=true then fG s n else vo s p f n d) 0 0],J d,false,0⟩) (fun j=>o.aF.length - j) ?_ 0 (Nat.zero_le _)
    intro j hj
    by_cases hjl:j < o.aF.length
    ·have d5:decide ((j:Int) < cl)=true:=decide_eq_true (by omega)
     have hct:(ints o.aF)[((j:Nat):Int).toNat]?=some (eI o.aF[j]):=bC hjl
     have hx:=hor.aF _ (List.getElem_mem hjl)
     have htk:∀ n:Int,hasB (o.aF.take (j+1)) n=(hasB (o.aF.take j) n || decide (o.aF[j]=n)):=fun n=>by
      unfold hasB
      rw [List.take_add_one,List.getElem?_eq_getElem hjl,List.any_append]
      simp
     obtain ⟨q,hq⟩:∃ q:Nat,o.aF[j]=(q:Int):=⟨o.aF[j].toNat,by omega⟩
     rw [hq] at hct hx htk
     have hq3:q < 3:=by omega
     obtain ⟨nd,n1,n2,_⟩:=zx hx
     have hm8:m < 8:=by omega
     have hbit:f / 2 ^ m % 2=if f.testBit m=true then 1 else 0:=by
      rw [Nat.testBit_eq_decide_div_mod_eq]
      have:=Nat.mod_two_eq_zero_or_one (f / 2 ^ m)
      rcases this with e|e <;> rw [e] <;> simp
     have hfm:f / 2 ^ m < 18446744073709551616:=Nat.lt_of_le_of_lt (Nat.div_le_self _ _) hf
     cases hfb:f.testBit m with
     | true =>
      rw [hfb,if_pos rfl] at hbit
      have d6:decide (((f / 2 ^ m % 2:Nat):Int)=0)=false:=decide_eq_false (by rw [hbit];decide)
      refine aa (mu:=fun _=>false) ?_
      repeat' (first |((with_reducible show aN _ _ _ _ _ _ _ _ _);refine RM.DZ rfl rfl hm8 ?_) |((with_reducible show aN _ _ _ _ _ _ _ _ _);refine RM.zA rfl rfl hfm ?_) |((with_reducible show aN _ _ _ _ _ _ _ _ _);refine RM.J5 rfl rfl ?_) |refine u1 ?_ |((with_reducible show RM.wpOp _ _ (.indexAddr _ _ _) _ _ _);refine ⟨eI (q:Int),⟨by omega,hct⟩,rfl,?_⟩) |refine u2 ?_ |fail)
      exact ⟨j+1,hjl,(by dsimp only;omega),au.to 1 rfl ⟨rfl,rfl,rfl,rfl,rfl,rfl,rfl,rfl,rfl,rfl,rfl,bu (by simp),trivial⟩ (Nat.zero_le _) rfl rfl⟩
     | false =>
      rw [hfb,if_neg (by simp)] at hbit
      have d6:decide (((f / 2 ^ m % 2:Nat):Int)=0)=true:=decide_eq_true (by rw [hbit];decide)
      have hln:=qn (fun n=>if (!false && hasB (o.aF.take j) (n:Int))=true then fG s n else vo s p f n d) hq3
      have hst:=ni (c:=fun n=>if (!false && hasB (o.aF.take j) (n:Int))=true then fG s n else vo s p f n d) (c':=fun n=>if (!false && hasB (o.aF.take (j+1)) (n:Int))=true then fG s n else vo s p f n d) (v:=nd.full) hq3 (fun n hn=>by
       rw [htk]
       by_cases e:n=q
       ·subst e
        rw [if_pos rfl,if_pos (by simp)]
        unfold fG
        rw [Int.toNat_natCast] at n1
        rw [n1]
       ·rw [if_neg e,show decide ((q:Int)=(n:Int))=false from decide_eq_false (by omega),Bool.or_false])
      refine aa (mu:=fun _=>false) ?_
      repeat' (first |((with_reducible show aN _ _ _ _ _ _ _ _ _);refine RM.DZ rfl rfl hm8 ?_) |((with_reducible show aN _ _ _ _ _ _ _ _ _);refine RM.zA rfl rfl hfm ?_) |((with_reducible show aN _ _ _ _ _ _ _ _ _);refine RM.J5 rfl rfl ?_) |((with_reducible show cM _ _ _ _ _ _);refine RM.NJ rfl rfl rfl rfl rfl rfl hln ?_) |refine u1 ?_ |((with_reducible show RM.wpOp _ _ (.indexAddr _ _ _) _ _ _);refine ⟨eI (q:Int),⟨by omega,hct⟩,rfl,?_⟩) |((with_reducible show RM.wpOp _ _ (.indexAddr _ _ _) _ _ _);refine ⟨aH nd,⟨by omega,n2⟩,rfl,?_⟩) |refine u2 ?_ |fail)
      exact ⟨j+1,hjl,(by dsimp only;omega),au.to 1 (congrArg (fun l=>[AB.cells l 0 0]) hst) ⟨rfl,rfl,rfl,rfl,rfl,rfl,rfl,rfl,rfl,rfl,rfl,bu (by simp),trivial⟩ (Nat.zero_le _) rfl rfl⟩
    have d5:decide ((j:Int) < cl)=false:=decide_eq_false (by omega)
    have hcan:(fP fun n=>if (!f.testBit m && hasB (o.aF.take j) (n:Int))=true then fG s n else vo s p f n d)=fP fun n=>gm s p f n d:=dD fun n _=>by
     rw [List.take_of_length_le (by omega)]
     by_cases e:n < s.needs.length
     ·rw [CS e,hbr n]
     ·rw [CU p f n d e,if_neg,(Bz p f n d e).1]
      rw [Bool.and_eq_true,gE]
      rintro ⟨_,h2⟩
      have:=hor.aF _ h2
      omega
    rw [hcan]
    clear hcan
    refine aa (mu:=fun _=>false) ?_
    repeat' (first |refine u1 ?_ |((with_reducible show RM.wpOp _ _ (.indexAddr _ _ _) _ _ _);refine ⟨ai o,⟨by omega,hat⟩,rfl,?_⟩) |refine u2 ?_ |fail)
    refine aj.mono (hyx _) (fun a hp' amb' hq=>?_)
    obtain ⟨rfl,b,rfl,hb⟩:=hq
    rcases hb with ⟨rfl,rfl⟩|⟨rfl,hstop⟩
    ·repeat' (first |refine u1 ?_ |refine u2 ?_ |fail)
     exact ⟨(d+1,m+1),⟨by dsimp only;omega,ha'⟩,(by dsimp only;omega),au.to 1 rfl ⟨rfl,rfl,rfl,rfl,rfl,bu (by simp),rfl,bu (by simp),trivial⟩ (Nat.zero_le _) rfl rfl⟩
    ·repeat' (first |refine u1 ?_ |refine u2 ?_ |fail)
     exact Or.inr hstop
   ·have d4:=decide_eq_false hday
    obtain ⟨hno,ha'⟩:(∀ n,CR p f n d=false)∧ql p (d+1) m:=⟨fun n=>(D1 hp ha (fun _=>hday) f n).1,(D1 hp ha (fun _=>hday) f 0).2⟩
    have hcan:(fP fun n=>vo s p f n d)=fP fun n=>gm s p f n d:=dD fun n _=>by
     by_cases e:n < s.needs.length
     ·rw [CS e,hno n];rfl
     ·rw [CU p f n d e,(Bz p f n d e).1]
    rw [hcan]
    clear hcan
    generalize p[m]=o at *
    refine aa (mu:=fun _=>false) ?_
    repeat' (first |refine u1 ?_ |((with_reducible show RM.wpOp _ _ (.indexAddr _ _ _) _ _ _);refine ⟨ai o,⟨by omega,hat⟩,rfl,?_⟩) |refine u2 ?_ |fail)
    refine aj.mono (hyx _) (fun a hp' amb' hq=>?_)
    obtain ⟨rfl,b,rfl,hb⟩:=hq
    rcases hb with ⟨rfl,rfl⟩|⟨rfl,hstop⟩
    ·repeat' (first |refine u1 ?_ |refine u2 ?_ |fail)
     exact ⟨(d+1,m),⟨by dsimp only;omega,ha'⟩,(by dsimp only;omega),au.to 1 rfl ⟨rfl,rfl,rfl,rfl,rfl,bu (by simp),rfl,bu (by simp),trivial⟩ (Nat.zero_le _) rfl rfl⟩
    ·repeat' (first |refine u1 ?_ |refine u2 ?_ |fail)
     exact Or.inr hstop
  ·have d3:decide ((m:Int) < ((p.map ai).length:Int))=false:=decide_eq_false (by omega)
   obtain ⟨hno,ha'⟩:(∀ n,CR p f n d=false)∧ql p (d+1) m:=⟨fun n=>(D1 hp ha (fun h=>absurd h hm) f n).1,(D1 hp ha (fun h=>absurd h hm) f 0).2⟩
   have hcan:(fP fun n=>vo s p f n d)=fP fun n=>gm s p f n d:=dD fun n _=>by
    by_cases e:n < s.needs.length
    ·rw [CS e,hno n];rfl
    ·rw [CU p f n d e,(Bz p f n d e).1]
   rw [hcan]
   clear hcan
   refine aa (mu:=fun _=>false) ?_
   repeat' (first |refine u1 ?_ |((with_reducible show RM.wpOp _ _ (.indexAddr _ _ _) _ _ _);refine ⟨ai o,⟨by omega,hat⟩,rfl,?_⟩) |refine u2 ?_ |fail)
   refine aj.mono (hyx _) (fun a hp' amb' hq=>?_)
   obtain ⟨rfl,b,rfl,hb⟩:=hq
   rcases hb with ⟨rfl,rfl⟩|⟨rfl,hstop⟩
   ·repeat' (first |refine u1 ?_ |refine u2 ?_ |fail)
    exact ⟨(d+1,m),⟨by dsimp only;omega,ha'⟩,(by dsimp only;omega),au.to 1 rfl ⟨rfl,rfl,rfl,rfl,rfl,bu (by simp),rfl,bu (by simp),trivial⟩ (Nat.zero_le _) rfl rfl⟩
   ·repeat' (first |refine u1 ?_ |refine u2 ?_ |fail)
    exact Or.inr hstop
 ·have d1:=decide_eq_false hdl
  have hde:d=s.days.toNat:=by omega
  subst hde
  repeat' (first |refine u1 ?_ |refine u2 ?_ |fail)
  exact Or.inl rfl
end Go.Proofs.YtpeogffeoehboaaDoor
open Go Go.RM
namespace Go.Proofs.YtpeogffeoehboaaDoor
set_option maxRecDepth 100000
set_option maxHeartbeats 4000000
theorem D3 {l:List Int} (h:l ≠ []):ints l ≠ []:=by
 cases l with
 | nil=>exact absurd rfl h
 | cons=>simp
theorem rz:∀ l:List Int,(ints l).flatten.all AV.one=true∧cK (ints l).flatten=true
 | []=>⟨rfl,rfl⟩
 | _ :: l=>rz l
theorem D4 (one:Bool) (l:List Int) (full:Bool) (h:l ≠ []) (hl:l.length≤8):Pu one 51 [.sl (ints l) full] (.sl (ints l) false):=by
 have hb:(([]:List (List AV)).length+(ints l).length) * 8≤140737488355328∧([]:List (List AV)).length+(ints l).length≤9223372036854775807:=by
  rw [List.length_map,List.length_nil]
  omega
 refine af.body (fn:=Tryd.f51) rfl rfl rfl rfl ?_
 refine aa (mu:=fun _=>false) ?_
 repeat' (first |(refine RM.Qn rfl (D3 h) (by kernel_rfl) rfl ?_) |(refine RM.PG rfl rfl rfl rfl rfl (fun el hel=>nomatch hel) (fun el hel=>by obtain ⟨x,_,rfl⟩:=List.mem_map.1 hel;rfl) (rz l).1 (D3 h) hb (rz l).2 ?_) |refine u1 ?_ |refine u2 ?_ |fail)
 exact ⟨[_],⟨Fz.deep rfl,trivial⟩,rfl⟩
theorem EO (one:Bool) (a:Int) (l:List Int) (full:Bool) (hl:l.length≤maxLen):Pu one 76 [.sl (ints l) full,aA a] (aA (oM (fun x=>decide (a=x)) l)):=by
 have ml:l.length≤9223372036854775807:=Nat.le_trans hl (by simp [maxLen])
 have eg:((ints l).length:Int)=l.length:=by simp
 obtain ⟨n,hn⟩:∃ n:Int,n=l.length:=⟨_,rfl⟩
 refine af.body (fn:=Tryd.f76) rfl rfl rfl rfl ?_
 refine aa (mu:=fun _=>false) ?_
 repeat' (first |refine u1 ?_ |refine u2 ?_ |fail)
 refine aB.aL (au.to (l:=[(0,.sl (ints l) full),(1,aA a),(7,aA n),(8,aA (0:Nat))]) (hp:=[]) 0 rfl ⟨rfl,rfl,bu (by rw [hn];exact eg),rfl,trivial⟩ (Nat.zero_le _) rfl rfl) ?_
 refine aB.loop (fun k:Nat=>k≤l.length∧∀ i (h:i < l.length),i < k→decide (a=l[i])=false) (fun k=>⟨aU [(0,.sl (ints l) full),(1,aA a),(7,aA n),(8,aA (k:Nat))],[],bP.none,false,0⟩) (fun k=>l.length - k) ?_ 0 ⟨Nat.zero_le _,fun i _ hi=>absurd hi (Nat.not_lt_zero _)⟩
 rintro k ⟨hk,hprev⟩
 refine aa (mu:=fun _=>false) ?_
 by_cases hlt:k < l.length
 ·have d1:decide ((k:Int) < n)=true:=decide_eq_true (by omega)
  have hat:(ints l)[((k:Nat):Int).toNat]?=some (eI l[k]):=bC hlt
  cases hx:decide (a=l[k]) with
  | true =>
   rw [nL hlt hprev hx]
   generalize l[k]=x at *
   repeat' (first |refine u1 ?_ |((with_reducible show RM.wpOp _ _ (.indexAddr _ _ _) _ _ _);refine ⟨eI x,⟨by omega,hat⟩,rfl,?_⟩) |refine u2 ?_ |fail)
   exact ⟨[_],⟨Fz.deep rfl,trivial⟩,rfl⟩
  | false =>
   have hn':∀ i (h:i < l.length),i < k+1→decide (a=l[i])=false:=fun i hi hik=>by
    by_cases e:i=k
    ·subst e;exact hx
    ·exact hprev i hi (by omega)
   generalize l[k]=x at *
   repeat' (first |refine u1 ?_ |((with_reducible show RM.wpOp _ _ (.indexAddr _ _ _) _ _ _);refine ⟨eI x,⟨by omega,hat⟩,rfl,?_⟩) |refine u2 ?_ |fail)
   exact ⟨k+1,⟨hlt,hn'⟩,(by dsimp only;omega),au.to 0 rfl ⟨rfl,rfl,rfl,bu (by simp),trivial⟩ (Nat.zero_le _) rfl rfl⟩
 ·have d1:decide ((k:Int) < n)=false:=decide_eq_false (by omega)
  rw [nM (fun i hi=>hprev i hi (by omega))]
  repeat' (first |refine u1 ?_ |refine u2 ?_ |fail)
  exact ⟨[_],⟨Fz.deep rfl,trivial⟩,rfl⟩
def xT (s:ak) (p:List Order) (f d:Nat):List Int:=(List.range s.needs.length).map fun n=>gm s p f n d
theorem nP {s:ak} {p:List Order} {f d:Nat}:(xT s p f d).length=s.needs.length:=by simp [xT]
theorem D5 {s:ak} (hg:Good s) (p:List Order) (f d:Nat):(ints (xT s p f d)).length=(s.needs.map aH).length∧(∀ el ∈ ints (xT s p f d),el.length=1) ∧
  (ints (xT s p f d)).flatten=((fP fun n=>gm s p f n d).drop 0).take ((s.needs.map aH).length * 1):=by
 have h:=hg.len
 refine ⟨by rw [List.length_map,nP,List.length_map],fun el hel=>by obtain ⟨x,_,rfl⟩:=List.mem_map.1 hel;rfl,?_⟩
 rw [List.length_map]
 unfold xT
 obtain e|e|e:s.needs.length=1∨s.needs.length=2∨s.needs.length=3:=by omega
 all_goals rw [e];rfl
def zeroAt (s:ak) (p:List Order) (f d:Nat):Int:=oM (fun x=>decide (0=x)) (xT s p f d)
def iF (s:ak) (p:List Order) (f:Nat):Option (Nat × Int):=((List.range s.days.toNat).find? fun d=>decide (0≤zeroAt s p f d)).map fun d=>(d,zeroAt s p f d)
theorem IK {s:ak} {p:List Order} {f d:Nat} (hd:d < s.days.toNat) (hprev:∀ i,i < d→zeroAt s p f i < 0) (h:0≤zeroAt s p f d):iF s p f=some (d,zeroAt s p f d):=by
 unfold iF
 have:(List.range s.days.toNat).find? (fun d=>decide (0≤zeroAt s p f d))=some d:=by
  rw [List.find?_range_eq_some]
  refine ⟨decide_eq_true h,by simpa using hd,fun j hj=>?_⟩
  have:=hprev j hj
  simpa using this
 rw [this];rfl
theorem BA {s:ak} {p:List Order} {f:Nat} (hprev:∀ i,i < s.days.toNat→zeroAt s p f i < 0):iF s p f=none:=by
 unfold iF
 have:(List.range s.days.toNat).find? (fun d=>decide (0≤zeroAt s p f d))=none:=by
  rw [List.find?_eq_none]
  intro d hd
  have:=hprev d (by simpa using hd)
  simpa using this
 rw [this];rfl
def wT (s:ak) (p:List Order) (f:Nat):AV:=match iF s p f with
 | some (d,n)=>.tp [.ag [fA f,aA (d:Nat),aA n],BB true]
 | none=>.tp [.ag [fA 0,aA 0,aA 0],BB false]
theorem EP {s:ak} {p:List Order} {f:Nat}:(wT s p f).deep=true:=by
 unfold wT
 split <;> rfl
theorem vq (one:Bool) {s:ak} {p:List Order} (hp:mz s p) (full:Bool) (f:Nat) (hf:f < 18446744073709551616):Pu one 54 [.ag (ay s),.sl (p.map ai) full,fA f] (wT s p f):=by
 have hg:=hp.good
 have hlen:=hg.len
 have hm:=oN one s p full f
 have hgen:=oO one hp full f hf
 refine af.body (fn:=Tryd.f54) rfl rfl rfl EP ?_
 refine RM.cm (mu:=fun _=>false) ?_
 repeat' (first |refine u1 ?_ |refine u2 ?_ |fail)
 refine RM.cm (mu:=fun _=>false) ?_
 repeat' (first |refine u1 ?_ |((with_reducible show aj _ _ _ _ _ _ _ _);refine af.call hm rfl rfl ?_) |refine u2 ?_ |fail)
 refine aB.range (fun _=>[.cells [fA 0,aA 0,aA 0] 0 0,.cells [BB false] 0 0]) (fun _=>bP.none) (fun i=>∀ d,d < i→zeroAt s p f d < 0) rfl hgen rfl rfl (fun d hd=>absurd hd (Nat.not_lt_zero _)) (fun i x hx hprev=>?_) (fun hprev=>?_)
 ·obtain ⟨hi,rfl⟩:=qm hx
  refine ⟨rfl,?_⟩
  refine aa (mu:=fun _=>false) ?_
  repeat' (first |refine u1 ?_ |refine u2 ?_ |fail)
  refine aB.aL (au.giveUp 2 (l:=[(3,.pt (ay s) 0),(5,.pt [fA f] 0),(6,.ptr 0 0 0),(7,.ptr 1 0 0),(8,aA (i:Nat)),(9,.pt (fP fun n=>gm s p f n i) 0)]) (hp:=[.cells [fA 0,aA 0,aA 0] 0 0,.cells [BB false] 0 0,.gone]) rfl (Nat.le_of_ble_eq_true rfl) rfl ⟨.same rfl,.same rfl,.same rfl,.same rfl,.same rfl,.ptr,trivial⟩ rfl rfl) ?_
  have hcut:=D5 hg p f i
  have hcb:(s.needs.map aH).length≤3∧0+(s.needs.map aH).length * 1≤(fP fun n=>gm s p f n i).length:=by
   rw [List.length_map]
   exact ⟨hlen.2,by simpa using hlen.2⟩
  have hix:Pu one 76 [.sl (ints (xT s p f i)) (Nat.beq (s.needs.map aH).length 3),aA 0] (aA (zeroAt s p f i)):=EO one 0 _ _ (by rw [nP];exact Nat.le_trans hlen.2 (by simp [maxLen]))
  refine aa (mu:=fun _=>false) ?_
  by_cases hz:0≤zeroAt s p f i
  ·have d1:=decide_eq_true hz
   have e:wT s p f=.tp [.ag [fA f,aA (i:Nat),aA (zeroAt s p f i)],BB true]:=by unfold wT;rw [IK hi hprev hz]
   rw [e]
   generalize zeroAt s p f i=z at *
   repeat' (first |(refine RM.Pq rfl rfl rfl hcb (by decide) hcut ?_) |refine u1 ?_ |((with_reducible show aj _ _ _ _ _ _ _ _);refine af.call hix rfl rfl ?_) |refine u2 ?_ |fail)
   exact ⟨[_,_],⟨Fz.deep rfl,Fz.deep rfl,trivial⟩,rfl⟩
  ·have d1:=decide_eq_false hz
   have hz':zeroAt s p f i < 0:=by omega
   repeat' (first |(refine RM.Pq rfl rfl rfl hcb (by decide) hcut ?_) |refine u1 ?_ |((with_reducible show aj _ _ _ _ _ _ _ _);refine af.call hix rfl rfl ?_) |refine u2 ?_ |fail)
   refine ⟨fun d hd=>?_,_,au.to (l:=[]) 2 rfl trivial (Nat.le_refl _) rfl rfl⟩
   ·by_cases e:d=i
    ·subst e;exact hz'
    ·exact hprev d (by omega)
 ·rw [kZ] at hprev
  have e:wT s p f=.tp [.ag [fA 0,aA 0,aA 0],BB false]:=by unfold wT;rw [BA hprev]
  rw [e]
  refine aa (mu:=fun _=>false) ?_
  repeat' (first |refine u1 ?_ |refine u2 ?_ |fail)
  exact ⟨[_,_],⟨Fz.deep rfl,Fz.deep rfl,trivial⟩,rfl⟩
end Go.Proofs.YtpeogffeoehboaaDoor
