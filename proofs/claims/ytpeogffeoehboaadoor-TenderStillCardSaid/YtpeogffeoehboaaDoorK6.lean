/-
  Contracts of the program's functions and of the document's. Lemmas alone; their conditions stand in them.
-/
import Derived.Test.YtpeogffeoehboaaDoorA2
import Derived.Test.YtpeogffeoehboaaDoorA3
import Derived.Test.YtpeogffeoehboaaDoorK5
open Go Go.RM
namespace Go.Proofs.YtpeogffeoehboaaDoor
set_option maxRecDepth 100000
set_option maxHeartbeats 4000000
abbrev Hv (s:ay) (p:List Order) (full:Bool) (f:Nat):AV:=.fn 75 [] [.pt (az s) 0,.pt [.sl (p.map av) full] 0,.pt [sP f] 0]
theorem sJ (one:Bool) (s:ay) (p:List Order) (full:Bool) (f:Nat):Pu one 50 [.ag (az s),.sl (p.map av) full,sP f] (Hv s p full f):=by
 refine af.body (fn:=Tryd.f50) rfl rfl rfl rfl ?_
 refine ah (mu:=fun _=>false) ?_
 repeat' (first |refine u1 ?_ |refine u2 ?_ |fail)
 exact ⟨[_],⟨Fz.deep rfl,trivial⟩,rfl⟩
theorem sK {c c':Nat→Int} {v:Int} {i:Nat} (hi:i < 3) (h:∀ n,n < 3→(if n=i then v else c n)=c' n):jg (jR c) (AV.cells (aD v)) (0+((i:Nat):Int).toNat * 1)=jR c':=by
 rw [Int.toNat_natCast,Nat.mul_one,Nat.zero_add]
 exact (F4 c v hi).trans (fC h)
theorem F5 (c:Nat→Int) {i:Nat} (hi:i < 3):(jR c)[0+((i:Nat):Int).toNat * 1]?=some (aD (c i)):=by
 rw [Int.toNat_natCast,Nat.mul_one,Nat.zero_add]
 exact Jd c hi
theorem wq (c:Nat→Int) {i:Nat} (hi:i < 3):Nat.ble (0+((i:Nat):Int).toNat * 1+1) (jR c).length=true:=by
 rw [Int.toNat_natCast,Nat.mul_one,Nat.zero_add]
 exact Nat.ble_eq_true_of_le (show i+1≤3 by omega)
def Bg (s:ay) (p:List Order) (f n:Nat):Nat→Int
 | 0=>gK s n
 | d+1=>iP s p f n d
theorem yJ {s:ay} (p:List Order) (f n d:Nat) (h:¬ n < s.needs.length):kR s p f n d=0∧Bg s p f n d=0:=by
 cases d with
 | zero=>exact ⟨nV h,nV h⟩
 | succ d =>
  have e:iP s p f n d=0:=by unfold iP;rw [if_neg h]
  exact ⟨by show max 0 (iP s p f n d - 1)=0;rw [e];rfl,e⟩
theorem Ad {s:ay} (p:List Order) (f n d:Nat) (h:¬ n < s.needs.length):iP s p f n d=0:=by unfold iP;rw [if_neg h]
theorem sL (one:Bool) {s:ay} {p:List Order} (hp:mo s p) (full:Bool) (f:Nat) (hf:f < 18446744073709551616):EK TT TB one (Hv s p full f) (uP s p f):=by
 have hg:=hp.good
 have hlen:=hg.len
 have hdays:=hg.days
 have p8:=hp.len
 have eg:((s.needs.map aG).length:Int)=s.needs.length:=by simp
 have ep:((p.map av).length:Int)=p.length:=by simp
 obtain ⟨nn,hnn⟩:∃ n:Int,n=s.needs.length:=⟨_,rfl⟩
 refine EK.body (fn:=Tryd.f75) rfl rfl rfl rfl (fun x hx a ha=>?_) fun u J Stop hy=>?_
 ·obtain ⟨i,hi⟩:=List.mem_iff_getElem?.1 hx
  obtain ⟨_,rfl⟩:=sI hi
  simp only [List.mem_cons,List.not_mem_nil,or_false] at ha
  rcases ha with rfl|rfl
  ·exact fR.fl _
  ·exact fR.ag fun b hb=>by simp only [List.mem_cons,List.not_mem_nil,or_false] at hb;rcases hb with rfl|rfl|rfl <;> exact fR.fl _
 rw [lR]
 refine ah (mu:=fun _=>false) ?_
 repeat' (first |refine u1 ?_ |refine u2 ?_ |fail)
 refine aF.bf (ax.to (l:=[(0,.oq u),(1,.pt (az s) 0),(2,.pt [.sl (p.map av) full] 0),(3,.pt [sP f] 0),(5,.ptr 0 0 0),(15,.sl (s.needs.map aG) false),(16,aD nn),(17,aD (0:Nat))]) (hp:=[.cells (jR fun n=>if n < 0 then gK s n else 0) 0 0]) 1 rfl ⟨rfl,rfl,rfl,rfl,rfl,rfl,bg (by rw [hnn];exact eg),rfl,trivial⟩ (Nat.zero_le _) rfl rfl) ?_
 refine aF.loop (fun k:Nat=>k≤s.needs.length) (fun k=>⟨bZ [(0,.oq u),(1,.pt (az s) 0),(2,.pt [.sl (p.map av) full] 0),(3,.pt [sP f] 0),(5,.ptr 0 0 0),(15,.sl (s.needs.map aG) false),(16,aD nn),(17,aD (k:Nat))],[.cells (jR fun n=>if n < k then gK s n else 0) 0 0],J 0,false,0⟩) (fun k=>s.needs.length - k) ?_ 0 (Nat.zero_le _)
 intro k hk
 refine ah (mu:=fun _=>false) ?_
 by_cases hlt:k < s.needs.length
 ·have d1:decide ((k:Int) < nn)=true:=decide_eq_true (by omega)
  have hat:(s.needs.map aG)[((k:Nat):Int).toNat]?=some (aG s.needs[k]):=bq hlt
  have hk3:k < 3:=by omega
  have hln:=wq (fun n=>if n < k then gK s n else 0) hk3
  have hst:=sK (c:=fun n=>if n < k then gK s n else 0) (c':=fun n=>if n < k+1 then gK s n else 0) (v:=s.needs[k].first) hk3 (fun n hn=>by
   by_cases e:n=k
   ·rw [if_pos e,if_pos (by omega),e]
    unfold gK
    rw [List.getElem?_eq_getElem hlt]
   ·rw [if_neg e]
    by_cases e2:n < k
    ·rw [if_pos e2,if_pos (by omega)]
    ·rw [if_neg e2,if_neg (by omega)])
  generalize s.needs[k]=g at *
  repeat' (first |((with_reducible show cN _ _ _ _ _ _);refine RM.KG rfl rfl rfl rfl rfl rfl hln ?_) |refine u1 ?_ |((with_reducible show RM.wpOp _ _ (.indexAddr _ _ _) _ _ _);refine ⟨aG g,⟨by omega,hat⟩,rfl,?_⟩) |refine u2 ?_ |fail)
  exact ⟨k+1,hlt,(by dsimp only;omega),ax.to 1 (congrArg (fun l=>[AB.cells l 0 0]) hst) ⟨rfl,rfl,rfl,rfl,rfl,rfl,rfl,bg (by simp),trivial⟩ (Nat.zero_le _) rfl rfl⟩
 have d1:decide ((k:Int) < nn)=false:=decide_eq_false (by omega)
 have hall:(jR fun n=>if n < k then gK s n else 0)=jR fun n=>Bg s p f n 0:=fC fun n _=>by
  by_cases e:n < k
  ·rw [if_pos e];rfl
  ·rw [if_neg e];exact (nV (by omega)).symm
 rw [hall]
 clear hall
 repeat' (first |refine u1 ?_ |refine u2 ?_ |fail)
 refine aF.bf (ax.to (l:=[(0,.oq u),(1,.pt (az s) 0),(2,.pt [.sl (p.map av) full] 0),(3,.pt [sP f] 0),(5,.ptr 0 0 0),(8,aD ((0,0).2:Nat)),(29,aD s.days),(30,aD ((0,0).1:Nat))]) (hp:=[.cells (jR fun n=>Bg s p f n (0,0).1) 0 0]) 1 rfl ⟨rfl,rfl,rfl,rfl,rfl,rfl,rfl,rfl,trivial⟩ (Nat.zero_le _) rfl rfl) ?_
 refine aF.loop (fun x:Nat × Nat=>(x.1:Int)≤s.days∧nW p x.1 x.2) (fun x=>⟨bZ [(0,.oq u),(1,.pt (az s) 0),(2,.pt [.sl (p.map av) full] 0),(3,.pt [sP f] 0),(5,.ptr 0 0 0),(8,aD (x.2:Nat)),(29,aD s.days),(30,aD (x.1:Nat))],[.cells (jR fun n=>Bg s p f n x.1) 0 0],J x.1,false,0⟩) (fun x=>s.days.toNat - x.1) ?_ (0,0) ⟨by dsimp only;omega,Ac hp⟩
 rintro ⟨d,m⟩ ⟨hd,ha⟩
 dsimp only at hd ha
 show aF _ _ _ _ ⟨bZ [(0,.oq u),(1,.pt (az s) 0),(2,.pt [.sl (p.map av) full] 0),(3,.pt [sP f] 0),(5,.ptr 0 0 0),(8,aD ((d,m).2:Nat)),(29,aD s.days),(30,aD ((d,m).1:Nat))],[.cells (jR fun n=>Bg s p f n (d,m).1) 0 0],J d,false,0⟩ _
 dsimp only
 refine ah (mu:=fun _=>false) ?_
 by_cases hdl:(d:Int) < s.days
 ·have d1:=decide_eq_true hdl
  have hmp:=ha.1
  repeat' (first |refine u1 ?_ |refine u2 ?_ |fail)
  refine aF.bf (ax.to (l:=[(0,.oq u),(1,.pt (az s) 0),(2,.pt [.sl (p.map av) full] 0),(3,.pt [sP f] 0),(5,.ptr 0 0 0),(8,aD (m:Nat)),(9,aD (d:Nat)),(29,aD s.days),(30,aD (d:Nat)),(36,aD nn),(37,aD (0:Nat))]) (hp:=[.cells (jR fun n=>if n < 0 then kR s p f n d else Bg s p f n d) 0 0]) 1 rfl ⟨rfl,rfl,rfl,rfl,rfl,rfl,rfl,rfl,rfl,bg (by rw [hnn];exact eg),rfl,trivial⟩ (Nat.zero_le _) rfl rfl) ?_
  refine aF.loop (fun k:Nat=>k≤s.needs.length) (fun k=>⟨bZ [(0,.oq u),(1,.pt (az s) 0),(2,.pt [.sl (p.map av) full] 0),(3,.pt [sP f] 0),(5,.ptr 0 0 0),(8,aD (m:Nat)),(9,aD (d:Nat)),(29,aD s.days),(30,aD (d:Nat)),(36,aD nn),(37,aD (k:Nat))],[.cells (jR fun n=>if n < k then kR s p f n d else Bg s p f n d) 0 0],J d,false,0⟩) (fun k=>s.needs.length - k) ?_ 0 (Nat.zero_le _)
  intro k hk
  by_cases hlt:k < s.needs.length
  ·have d2:decide ((k:Int) < nn)=true:=decide_eq_true (by omega)
   have hk3:k < 3:=by omega
   cases d with
   | zero =>
    have d3:decide ((0:Int) < ((0:Nat):Int))=false:=by decide
    have e:(jR fun n=>if n < k then kR s p f n 0 else Bg s p f n 0)=jR fun n=>if n < k+1 then kR s p f n 0 else Bg s p f n 0:=fC fun n _=>by
     show (if n < k then gK s n else gK s n)=if n < k+1 then gK s n else gK s n
     rw [ite_self,ite_self]
    rw [e]
    refine ah (mu:=fun _=>false) ?_
    repeat' (first |refine u1 ?_ |refine u2 ?_ |fail)
    exact ⟨k+1,hlt,(by dsimp only;omega),ax.to 1 rfl ⟨rfl,rfl,rfl,rfl,rfl,rfl,rfl,rfl,rfl,rfl,bg (by simp),trivial⟩ (Nat.zero_le _) rfl rfl⟩
   | succ d =>
    have d3:decide ((0:Int) < ((d+1:Nat):Int))=true:=decide_eq_true (by omega)
    have hb:=Be hg p f k d
    have hln:=wq (fun n=>if n < k then kR s p f n (d+1) else Bg s p f n (d+1)) hk3
    have hat4:(jR fun n=>if n < k then kR s p f n (d+1) else Bg s p f n (d+1))[0+((k:Nat):Int).toNat * 1]?=some (aD (iP s p f k d)):=by
     rw [F5 _ hk3,if_neg (Nat.lt_irrefl _)]
     rfl
    have hst:=sK (c:=fun n=>if n < k then kR s p f n (d+1) else Bg s p f n (d+1)) (c':=fun n=>if n < k+1 then kR s p f n (d+1) else Bg s p f n (d+1)) (v:=max 0 (iP s p f k d - 1)) hk3 (fun n hn=>by
     by_cases e:n=k
     ·subst e
      rw [if_pos rfl,if_pos (by omega)]
      rfl
     ·rw [if_neg e]
      by_cases e2:n < k
      ·rw [if_pos e2,if_pos (by omega)]
      ·rw [if_neg e2,if_neg (by omega)])
    generalize iP s p f k d=v at *
    refine ah (mu:=fun _=>false) ?_
    repeat' (first |((with_reducible show RM.wpOp _ _ (.load _ _) _ _ _);refine RM.KR rfl rfl rfl hat4 ?_) |((with_reducible show cN _ _ _ _ _ _);refine RM.KG rfl rfl rfl rfl rfl rfl hln ?_) |refine u1 ?_ |refine u2 ?_ |fail)
    exact ⟨k+1,hlt,(by dsimp only;omega),ax.to 1 (congrArg (fun l=>[AB.cells l 0 0]) hst) ⟨rfl,rfl,rfl,rfl,rfl,rfl,rfl,rfl,rfl,rfl,bg (by simp),trivial⟩ (Nat.zero_le _) rfl rfl⟩
  have d2:decide ((k:Int) < nn)=false:=decide_eq_false (by omega)
  have hdn:(jR fun n=>if n < k then kR s p f n d else Bg s p f n d)=jR fun n=>kR s p f n d:=fC fun n _=>by
   by_cases e:n < k
   ·rw [if_pos e]
   ·rw [if_neg e,(yJ p f n d (by omega)).1,(yJ p f n d (by omega)).2]
  rw [hdn]
  clear hdn
  have hdt:d < s.days.toNat:=by omega
  have hyx:=hy d _ (yI hdt)
  by_cases hm:m < p.length
  ·have d3:decide ((m:Int) < ((p.map av).length:Int))=true:=decide_eq_true (by omega)
   have hat:(p.map av)[((m:Nat):Int).toNat]?=some (av p[m]):=bq hm
   by_cases hday:p[m].day=(d:Int)
   ·have hbr:=fun n=>Ky hp ha hm hday f n
    have ha':=E8 hp ha hm hday
    have hor:=hp.order _ (List.getElem_mem hm)
    have d4:=decide_eq_true hday
    generalize p[m]=o at *
    have ec:((ints o.aB).length:Int)=o.aB.length:=by simp
    obtain ⟨cl,hcl⟩:∃ n:Int,n=o.aB.length:=⟨_,rfl⟩
    have hc3:=hor.len
    refine ah (mu:=fun _=>false) ?_
    repeat' (first |refine u1 ?_ |((with_reducible show RM.wpOp _ _ (.indexAddr _ _ _) _ _ _);refine ⟨av o,⟨by omega,hat⟩,rfl,?_⟩) |refine u2 ?_ |fail)
    have h60:(jR fun n=>kR s p f n d)=jR fun n=>if (!f.testBit m && hasB (o.aB.take 0) (n:Int))=true then gm s n else kR s p f n d:=fC fun n _=>by
     rw [if_neg (by simp [hasB])]
    refine aF.bf (ax.to (l:=[(0,.oq u),(1,.pt (az s) 0),(2,.pt [.sl (p.map av) full] 0),(3,.pt [sP f] 0),(5,.ptr 0 0 0),(8,aD (m:Nat)),(9,aD (d:Nat)),(29,aD s.days),(30,aD (d:Nat)),(67,.sl (ints o.aB) false),(68,aD cl),(69,aD (0:Nat))]) (hp:=[.cells (jR fun n=>if (!f.testBit m && hasB (o.aB.take 0) (n:Int))=true then gm s n else kR s p f n d) 0 0]) 1 (congrArg (fun l=>[AB.cells l 0 0]) h60) ⟨rfl,rfl,rfl,rfl,rfl,rfl,rfl,rfl,rfl,rfl,bg (by rw [hcl];exact ec),rfl,trivial⟩ (Nat.zero_le _) rfl rfl) ?_
    refine aF.loop (fun j:Nat=>j≤o.aB.length) (fun j=>⟨bZ [(0,.oq u),(1,.pt (az s) 0),(2,.pt [.sl (p.map av) full] 0),(3,.pt [sP f] 0),(5,.ptr 0 0 0),(8,aD (m:Nat)),(9,aD (d:Nat)),(29,aD s.days),(30,aD (d:Nat)),(67,.sl (ints o.aB) false),(68,aD cl),(69,aD (j:Nat))],[.cells (jR fun n=>if (!f.testBit m && hasB (o.aB.take j) (n:Int))=true then gm s n else kR s p f n d) 0 0],J d,false,0⟩) (fun j=>o.aB.length - j) ?_ 0 (Nat.zero_le _)
    intro j hj
    by_cases hjl:j < o.aB.length
    ·have d5:decide ((j:Int) < cl)=true:=decide_eq_true (by omega)
     have hct:(ints o.aB)[((j:Nat):Int).toNat]?=some (eI o.aB[j]):=bq hjl
     have hx:=hor.aB _ (List.getElem_mem hjl)
     have htk:∀ n:Int,hasB (o.aB.take (j+1)) n=(hasB (o.aB.take j) n || decide (o.aB[j]=n)):=fun n=>by
      unfold hasB
      rw [List.take_add_one,List.getElem?_eq_getElem hjl,List.any_append]
      simp
     obtain ⟨q,hq⟩:∃ q:Nat,o.aB[j]=(q:Int):=⟨o.aB[j].toNat,by omega⟩
     rw [hq] at hct hx htk
     have hq3:q < 3:=by omega
     obtain ⟨nd,n1,n2,_⟩:=wo hx
     have hm8:m < 8:=by omega
     have hbit:f / 2 ^ m % 2=if f.testBit m=true then 1 else 0:=by
      rw [Nat.testBit_eq_decide_div_mod_eq]
      have:=Nat.mod_two_eq_zero_or_one (f / 2 ^ m)
      rcases this with e|e <;> rw [e] <;> simp
     have hfm:f / 2 ^ m < 18446744073709551616:=Nat.lt_of_le_of_lt (Nat.div_le_self _ _) hf
     cases hfb:f.testBit m with
     | true =>
      rw [hfb,if_pos rfl] at hbit
      have d6:decide (((f / 2 ^ m % 2:Nat):Int)=0)=false:=decide_eq_false (by rw [hbit];decide)
      refine ah (mu:=fun _=>false) ?_
      repeat' (first |((with_reducible show cM _ _ _ _ _ _ _ _ _);refine RM.Hu rfl rfl hm8 ?_) |((with_reducible show cM _ _ _ _ _ _ _ _ _);refine RM.E6 rfl rfl hfm ?_) |((with_reducible show cM _ _ _ _ _ _ _ _ _);refine RM.Kw rfl rfl ?_) |refine u1 ?_ |((with_reducible show RM.wpOp _ _ (.indexAddr _ _ _) _ _ _);refine ⟨eI (q:Int),⟨by omega,hct⟩,rfl,?_⟩) |refine u2 ?_ |fail)
      exact ⟨j+1,hjl,(by dsimp only;omega),ax.to 1 rfl ⟨rfl,rfl,rfl,rfl,rfl,rfl,rfl,rfl,rfl,rfl,rfl,bg (by simp),trivial⟩ (Nat.zero_le _) rfl rfl⟩
     | false =>
      rw [hfb,if_neg (by simp)] at hbit
      have d6:decide (((f / 2 ^ m % 2:Nat):Int)=0)=true:=decide_eq_true (by rw [hbit];decide)
      have hln:=wq (fun n=>if (!false && hasB (o.aB.take j) (n:Int))=true then gm s n else kR s p f n d) hq3
      have hst:=sK (c:=fun n=>if (!false && hasB (o.aB.take j) (n:Int))=true then gm s n else kR s p f n d) (c':=fun n=>if (!false && hasB (o.aB.take (j+1)) (n:Int))=true then gm s n else kR s p f n d) (v:=nd.full) hq3 (fun n hn=>by
       rw [htk]
       by_cases e:n=q
       ·subst e
        rw [if_pos rfl,if_pos (by simp)]
        unfold gm
        rw [Int.toNat_natCast] at n1
        rw [n1]
       ·rw [if_neg e,show decide ((q:Int)=(n:Int))=false from decide_eq_false (by omega),Bool.or_false])
      refine ah (mu:=fun _=>false) ?_
      repeat' (first |((with_reducible show cM _ _ _ _ _ _ _ _ _);refine RM.Hu rfl rfl hm8 ?_) |((with_reducible show cM _ _ _ _ _ _ _ _ _);refine RM.E6 rfl rfl hfm ?_) |((with_reducible show cM _ _ _ _ _ _ _ _ _);refine RM.Kw rfl rfl ?_) |((with_reducible show cN _ _ _ _ _ _);refine RM.KG rfl rfl rfl rfl rfl rfl hln ?_) |refine u1 ?_ |((with_reducible show RM.wpOp _ _ (.indexAddr _ _ _) _ _ _);refine ⟨eI (q:Int),⟨by omega,hct⟩,rfl,?_⟩) |((with_reducible show RM.wpOp _ _ (.indexAddr _ _ _) _ _ _);refine ⟨aG nd,⟨by omega,n2⟩,rfl,?_⟩) |refine u2 ?_ |fail)
      exact ⟨j+1,hjl,(by dsimp only;omega),ax.to 1 (congrArg (fun l=>[AB.cells l 0 0]) hst) ⟨rfl,rfl,rfl,rfl,rfl,rfl,rfl,rfl,rfl,rfl,rfl,bg (by simp),trivial⟩ (Nat.zero_le _) rfl rfl⟩
    have d5:decide ((j:Int) < cl)=false:=decide_eq_false (by omega)
    have hcan:(jR fun n=>if (!f.testBit m && hasB (o.aB.take j) (n:Int))=true then gm s n else kR s p f n d)=jR fun n=>iP s p f n d:=fC fun n _=>by
     rw [List.take_of_length_le (by omega)]
     by_cases e:n < s.needs.length
     ·rw [oZ e,hbr n]
     ·rw [Ad p f n d e,if_neg,(yJ p f n d e).1]
      rw [Bool.and_eq_true,gJ]
      rintro ⟨_,h2⟩
      have:=hor.aB _ h2
      omega
    rw [hcan]
    clear hcan
    refine ah (mu:=fun _=>false) ?_
    repeat' (first |refine u1 ?_ |((with_reducible show RM.wpOp _ _ (.indexAddr _ _ _) _ _ _);refine ⟨av o,⟨by omega,hat⟩,rfl,?_⟩) |refine u2 ?_ |fail)
    refine ak.mono (hyx _) (fun a hp' amb' hq=>?_)
    obtain ⟨rfl,b,rfl,hb⟩:=hq
    rcases hb with ⟨rfl,rfl⟩|⟨rfl,hstop⟩
    ·repeat' (first |refine u1 ?_ |refine u2 ?_ |fail)
     exact ⟨(d+1,m+1),⟨by dsimp only;omega,ha'⟩,(by dsimp only;omega),ax.to 1 rfl ⟨rfl,rfl,rfl,rfl,rfl,bg (by simp),rfl,bg (by simp),trivial⟩ (Nat.zero_le _) rfl rfl⟩
    ·repeat' (first |refine u1 ?_ |refine u2 ?_ |fail)
     exact Or.inr hstop
   ·have d4:=decide_eq_false hday
    obtain ⟨hno,ha'⟩:(∀ n,Bc p f n d=false)∧nW p (d+1) m:=⟨fun n=>(Bf hp ha (fun _=>hday) f n).1,(Bf hp ha (fun _=>hday) f 0).2⟩
    have hcan:(jR fun n=>kR s p f n d)=jR fun n=>iP s p f n d:=fC fun n _=>by
     by_cases e:n < s.needs.length
     ·rw [oZ e,hno n];rfl
     ·rw [Ad p f n d e,(yJ p f n d e).1]
    rw [hcan]
    clear hcan
    generalize p[m]=o at *
    refine ah (mu:=fun _=>false) ?_
    repeat' (first |refine u1 ?_ |((with_reducible show RM.wpOp _ _ (.indexAddr _ _ _) _ _ _);refine ⟨av o,⟨by omega,hat⟩,rfl,?_⟩) |refine u2 ?_ |fail)
    refine ak.mono (hyx _) (fun a hp' amb' hq=>?_)
    obtain ⟨rfl,b,rfl,hb⟩:=hq
    rcases hb with ⟨rfl,rfl⟩|⟨rfl,hstop⟩
    ·repeat' (first |refine u1 ?_ |refine u2 ?_ |fail)
     exact ⟨(d+1,m),⟨by dsimp only;omega,ha'⟩,(by dsimp only;omega),ax.to 1 rfl ⟨rfl,rfl,rfl,rfl,rfl,bg (by simp),rfl,bg (by simp),trivial⟩ (Nat.zero_le _) rfl rfl⟩
    ·repeat' (first |refine u1 ?_ |refine u2 ?_ |fail)
     exact Or.inr hstop
  ·have d3:decide ((m:Int) < ((p.map av).length:Int))=false:=decide_eq_false (by omega)
   obtain ⟨hno,ha'⟩:(∀ n,Bc p f n d=false)∧nW p (d+1) m:=⟨fun n=>(Bf hp ha (fun h=>absurd h hm) f n).1,(Bf hp ha (fun h=>absurd h hm) f 0).2⟩
   have hcan:(jR fun n=>kR s p f n d)=jR fun n=>iP s p f n d:=fC fun n _=>by
    by_cases e:n < s.needs.length
    ·rw [oZ e,hno n];rfl
    ·rw [Ad p f n d e,(yJ p f n d e).1]
   rw [hcan]
   clear hcan
   refine ah (mu:=fun _=>false) ?_
   repeat' (first |refine u1 ?_ |((with_reducible show RM.wpOp _ _ (.indexAddr _ _ _) _ _ _);refine ⟨av o,⟨by omega,hat⟩,rfl,?_⟩) |refine u2 ?_ |fail)
   refine ak.mono (hyx _) (fun a hp' amb' hq=>?_)
   obtain ⟨rfl,b,rfl,hb⟩:=hq
   rcases hb with ⟨rfl,rfl⟩|⟨rfl,hstop⟩
   ·repeat' (first |refine u1 ?_ |refine u2 ?_ |fail)
    exact ⟨(d+1,m),⟨by dsimp only;omega,ha'⟩,(by dsimp only;omega),ax.to 1 rfl ⟨rfl,rfl,rfl,rfl,rfl,bg (by simp),rfl,bg (by simp),trivial⟩ (Nat.zero_le _) rfl rfl⟩
   ·repeat' (first |refine u1 ?_ |refine u2 ?_ |fail)
    exact Or.inr hstop
 ·have d1:=decide_eq_false hdl
  have hde:d=s.days.toNat:=by omega
  subst hde
  repeat' (first |refine u1 ?_ |refine u2 ?_ |fail)
  exact Or.inl rfl
end Go.Proofs.YtpeogffeoehboaaDoor
open Go Go.RM
namespace Go.Proofs.YtpeogffeoehboaaDoor
set_option maxRecDepth 100000
set_option maxHeartbeats 4000000
theorem Bh {l:List Int} (h:l ≠ []):ints l ≠ []:=by
 cases l with
 | nil=>exact absurd rfl h
 | cons=>simp
theorem pe:∀ l:List Int,(ints l).flatten.all AV.one=true∧ct (ints l).flatten=true
 | []=>⟨rfl,rfl⟩
 | _ :: l=>pe l
theorem F6 (one:Bool) (l:List Int) (full:Bool) (h:l ≠ []) (hl:l.length≤8):Pu one 51 [.sl (ints l) full] (.sl (ints l) false):=by
 have hb:(([]:List (List AV)).length+(ints l).length) * 8≤140737488355328∧([]:List (List AV)).length+(ints l).length≤9223372036854775807:=by
  rw [List.length_map,List.length_nil]
  omega
 refine af.body (fn:=Tryd.f51) rfl rfl rfl rfl ?_
 refine ah (mu:=fun _=>false) ?_
 repeat' (first |(refine RM.LA rfl (Bh h) (by kernel_rfl) rfl ?_) |(refine RM.KY rfl rfl rfl rfl rfl (fun el hel=>nomatch hel) (fun el hel=>by obtain ⟨x,_,rfl⟩:=List.mem_map.1 hel;rfl) (pe l).1 (Bh h) hb (pe l).2 ?_) |refine u1 ?_ |refine u2 ?_ |fail)
 exact ⟨[_],⟨Fz.deep rfl,trivial⟩,rfl⟩
theorem B2 (one:Bool) (a:Int) (l:List Int) (full:Bool) (hl:l.length≤maxLen):Pu one 76 [.sl (ints l) full,aD a] (aD (qf (fun x=>decide (a=x)) l)):=by
 have ml:l.length≤9223372036854775807:=Nat.le_trans hl (by simp [maxLen])
 have eg:((ints l).length:Int)=l.length:=by simp
 obtain ⟨n,hn⟩:∃ n:Int,n=l.length:=⟨_,rfl⟩
 refine af.body (fn:=Tryd.f76) rfl rfl rfl rfl ?_
 refine ah (mu:=fun _=>false) ?_
 repeat' (first |refine u1 ?_ |refine u2 ?_ |fail)
 refine aF.bf (ax.to (l:=[(0,.sl (ints l) full),(1,aD a),(7,aD n),(8,aD (0:Nat))]) (hp:=[]) 0 rfl ⟨rfl,rfl,bg (by rw [hn];exact eg),rfl,trivial⟩ (Nat.zero_le _) rfl rfl) ?_
 refine aF.loop (fun k:Nat=>k≤l.length∧∀ i (h:i < l.length),i < k→decide (a=l[i])=false) (fun k=>⟨bZ [(0,.sl (ints l) full),(1,aD a),(7,aD n),(8,aD (k:Nat))],[],cF.none,false,0⟩) (fun k=>l.length - k) ?_ 0 ⟨Nat.zero_le _,fun i _ hi=>absurd hi (Nat.not_lt_zero _)⟩
 rintro k ⟨hk,hprev⟩
 refine ah (mu:=fun _=>false) ?_
 by_cases hlt:k < l.length
 ·have d1:decide ((k:Int) < n)=true:=decide_eq_true (by omega)
  have hat:(ints l)[((k:Nat):Int).toNat]?=some (eI l[k]):=bq hlt
  cases hx:decide (a=l[k]) with
  | true =>
   rw [jN hlt hprev hx]
   generalize l[k]=x at *
   repeat' (first |refine u1 ?_ |((with_reducible show RM.wpOp _ _ (.indexAddr _ _ _) _ _ _);refine ⟨eI x,⟨by omega,hat⟩,rfl,?_⟩) |refine u2 ?_ |fail)
   exact ⟨[_],⟨Fz.deep rfl,trivial⟩,rfl⟩
  | false =>
   have hn':∀ i (h:i < l.length),i < k+1→decide (a=l[i])=false:=fun i hi hik=>by
    by_cases e:i=k
    ·subst e;exact hx
    ·exact hprev i hi (by omega)
   generalize l[k]=x at *
   repeat' (first |refine u1 ?_ |((with_reducible show RM.wpOp _ _ (.indexAddr _ _ _) _ _ _);refine ⟨eI x,⟨by omega,hat⟩,rfl,?_⟩) |refine u2 ?_ |fail)
   exact ⟨k+1,⟨hlt,hn'⟩,(by dsimp only;omega),ax.to 0 rfl ⟨rfl,rfl,rfl,bg (by simp),trivial⟩ (Nat.zero_le _) rfl rfl⟩
 ·have d1:decide ((k:Int) < n)=false:=decide_eq_false (by omega)
  rw [jO (fun i hi=>hprev i hi (by omega))]
  repeat' (first |refine u1 ?_ |refine u2 ?_ |fail)
  exact ⟨[_],⟨Fz.deep rfl,trivial⟩,rfl⟩
def dI (s:ay) (p:List Order) (f d:Nat):List Int:=(List.range s.needs.length).map fun n=>iP s p f n d
theorem eO {s:ay} {p:List Order} {f d:Nat}:(dI s p f d).length=s.needs.length:=by simp [dI]
theorem Bi {s:ay} (hg:Good s) (p:List Order) (f d:Nat):(ints (dI s p f d)).length=(s.needs.map aG).length∧(∀ el ∈ ints (dI s p f d),el.length=1) ∧
  (ints (dI s p f d)).flatten=((jR fun n=>iP s p f n d).drop 0).take ((s.needs.map aG).length * 1):=by
 have h:=hg.len
 refine ⟨by rw [List.length_map,eO,List.length_map],fun el hel=>by obtain ⟨x,_,rfl⟩:=List.mem_map.1 hel;rfl,?_⟩
 rw [List.length_map]
 unfold dI
 obtain e|e|e:s.needs.length=1∨s.needs.length=2∨s.needs.length=3:=by omega
 all_goals rw [e];rfl
def zeroAt (s:ay) (p:List Order) (f d:Nat):Int:=qf (fun x=>decide (0=x)) (dI s p f d)
def wv (s:ay) (p:List Order) (f:Nat):Option (Nat × Int):=((List.range s.days.toNat).find? fun d=>decide (0≤zeroAt s p f d)).map fun d=>(d,zeroAt s p f d)
theorem yK {s:ay} {p:List Order} {f d:Nat} (hd:d < s.days.toNat) (hprev:∀ i,i < d→zeroAt s p f i < 0) (h:0≤zeroAt s p f d):wv s p f=some (d,zeroAt s p f d):=by
 unfold wv
 have:(List.range s.days.toNat).find? (fun d=>decide (0≤zeroAt s p f d))=some d:=by
  rw [List.find?_range_eq_some]
  refine ⟨decide_eq_true h,by simpa using hd,fun j hj=>?_⟩
  have:=hprev j hj
  simpa using this
 rw [this];rfl
theorem yL {s:ay} {p:List Order} {f:Nat} (hprev:∀ i,i < s.days.toNat→zeroAt s p f i < 0):wv s p f=none:=by
 unfold wv
 have:(List.range s.days.toNat).find? (fun d=>decide (0≤zeroAt s p f d))=none:=by
  rw [List.find?_eq_none]
  intro d hd
  have:=hprev d (by simpa using hd)
  simpa using this
 rw [this];rfl
def yM (s:ay) (p:List Order) (f:Nat):AV:=match wv s p f with
 | some (d,n)=>.tp [.ag [sP f,aD (d:Nat),aD n],BB true]
 | none=>.tp [.ag [sP 0,aD 0,aD 0],BB false]
theorem B3 {s:ay} {p:List Order} {f:Nat}:(yM s p f).deep=true:=by
 unfold yM
 split <;> rfl
theorem E9 (one:Bool) {s:ay} {p:List Order} (hp:mo s p) (full:Bool) (f:Nat) (hf:f < 18446744073709551616):Pu one 54 [.ag (az s),.sl (p.map av) full,sP f] (yM s p f):=by
 have hg:=hp.good
 have hlen:=hg.len
 have hm:=sJ one s p full f
 have hgen:=sL one hp full f hf
 refine af.body (fn:=Tryd.f54) rfl rfl rfl B3 ?_
 refine RM.qk (mu:=fun _=>false) ?_
 repeat' (first |refine u1 ?_ |refine u2 ?_ |fail)
 refine RM.qk (mu:=fun _=>false) ?_
 repeat' (first |refine u1 ?_ |((with_reducible show ak _ _ _ _ _ _ _ _);refine af.call hm rfl rfl ?_) |refine u2 ?_ |fail)
 refine aF.range (fun _=>[.cells [sP 0,aD 0,aD 0] 0 0,.cells [BB false] 0 0]) (fun _=>cF.none) (fun i=>∀ d,d < i→zeroAt s p f d < 0) rfl hgen rfl rfl (fun d hd=>absurd hd (Nat.not_lt_zero _)) (fun i x hx hprev=>?_) (fun hprev=>?_)
 ·obtain ⟨hi,rfl⟩:=sI hx
  refine ⟨rfl,?_⟩
  refine ah (mu:=fun _=>false) ?_
  repeat' (first |refine u1 ?_ |refine u2 ?_ |fail)
  refine aF.bf (ax.giveUp 2 (l:=[(3,.pt (az s) 0),(5,.pt [sP f] 0),(6,.ptr 0 0 0),(7,.ptr 1 0 0),(8,aD (i:Nat)),(9,.pt (jR fun n=>iP s p f n i) 0)]) (hp:=[.cells [sP 0,aD 0,aD 0] 0 0,.cells [BB false] 0 0,.gone]) rfl (Nat.le_of_ble_eq_true rfl) rfl ⟨.same rfl,.same rfl,.same rfl,.same rfl,.same rfl,.ptr,trivial⟩ rfl rfl) ?_
  have hcut:=Bi hg p f i
  have hcb:(s.needs.map aG).length≤3∧0+(s.needs.map aG).length * 1≤(jR fun n=>iP s p f n i).length:=by
   rw [List.length_map]
   exact ⟨hlen.2,by simpa using hlen.2⟩
  have hix:Pu one 76 [.sl (ints (dI s p f i)) (Nat.beq (s.needs.map aG).length 3),aD 0] (aD (zeroAt s p f i)):=B2 one 0 _ _ (by rw [eO];exact Nat.le_trans hlen.2 (by simp [maxLen]))
  refine ah (mu:=fun _=>false) ?_
  by_cases hz:0≤zeroAt s p f i
  ·have d1:=decide_eq_true hz
   have e:yM s p f=.tp [.ag [sP f,aD (i:Nat),aD (zeroAt s p f i)],BB true]:=by unfold yM;rw [yK hi hprev hz]
   rw [e]
   generalize zeroAt s p f i=z at *
   repeat' (first |(refine RM.K0 rfl rfl rfl hcb (by decide) hcut ?_) |refine u1 ?_ |((with_reducible show ak _ _ _ _ _ _ _ _);refine af.call hix rfl rfl ?_) |refine u2 ?_ |fail)
   exact ⟨[_,_],⟨Fz.deep rfl,Fz.deep rfl,trivial⟩,rfl⟩
  ·have d1:=decide_eq_false hz
   have hz':zeroAt s p f i < 0:=by omega
   repeat' (first |(refine RM.K0 rfl rfl rfl hcb (by decide) hcut ?_) |refine u1 ?_ |((with_reducible show ak _ _ _ _ _ _ _ _);refine af.call hix rfl rfl ?_) |refine u2 ?_ |fail)
   refine ⟨fun d hd=>?_,_,ax.to (l:=[]) 2 rfl trivial (Nat.le_refl _) rfl rfl⟩
   ·by_cases e:d=i
    ·subst e;exact hz'
    ·exact hprev d (by omega)
 ·rw [lR] at hprev
  have e:yM s p f=.tp [.ag [sP 0,aD 0,aD 0],BB false]:=by unfold yM;rw [yL hprev]
  rw [e]
  refine ah (mu:=fun _=>false) ?_
  repeat' (first |refine u1 ?_ |refine u2 ?_ |fail)
  exact ⟨[_,_],⟨Fz.deep rfl,Fz.deep rfl,trivial⟩,rfl⟩
end Go.Proofs.YtpeogffeoehboaaDoor
