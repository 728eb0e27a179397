/-
  Contracts of the program's functions and of the document's. Lemmas alone; their conditions stand in them.
-/
import Derived.Test.YtkappgolfkiaeaaGreatDoorK4
open Go Go.RM
namespace Go.Proofs.YtkappgolfkiaeaaGreatDoor
set_option maxRecDepth 100000
set_option maxHeartbeats 4000000
abbrev Of (s:aC) (p:List Order) (full:Bool) (f:Nat):AV:=.fn 117 [] [.pt (aH s) 0,.pt [.sl (p.map aL) full] 0,.pt [i7 f] 0]
theorem EA (one:Bool) (s:aC) (p:List Order) (full:Bool) (f:Nat):Pu one 73 [.ag (aH s),.sl (p.map aL) full,i7 f] (Of s p full f):=by
 refine af.body (fn:=Tryz.f73) rfl rfl rfl rfl ?_;refine qq1 ?_;repeat' first|refine u1 ?_|refine u2 ?_|fail
 exact ⟨[_],⟨Fz.deep rfl,trivial⟩,rfl⟩
theorem xh {c c':Nat→Int} {v:Int} {i:Nat} (hi:i < 3) (h:∀ n,n < 3→(if n=i then v else c n)=c' n):eX (nU c) (AV.cells (av v)) (0+((i:Nat):Int).toNat * 1)=nU c':=by rw [Int.toNat_natCast,Nat.mul_one,Nat.zero_add];exact (Ni c v hi).trans (iz h)
theorem Nj (c:Nat→Int) {i:Nat} (hi:i < 3):(nU c)[0+((i:Nat):Int).toNat * 1]?=some (av (c i)):=by rw [Int.toNat_natCast,Nat.mul_one,Nat.zero_add];exact P5 c hi
theorem A8 (c:Nat→Int) {i:Nat} (hi:i < 3):Nat.ble (0+((i:Nat):Int).toNat * 1+1) (nU c).length=true:=by rw [Int.toNat_natCast,Nat.mul_one,Nat.zero_add];exact Nat.ble_eq_true_of_le (show i+1≤3 by omega)
def FY (s:aC) (p:List Order) (f n:Nat):Nat→Int
 | 0=>jI s n
 | d+1=>qX s p f n d
theorem CZ {s:aC} (p:List Order) (f n d:Nat) (h:¬ n < s.needs.length):xe s p f n d=0∧FY s p f n d=0:=by
 cases d with
 | zero=>exact ⟨xg h,xg h⟩
 | succ d =>
  have e:qX s p f n d=0:=by unfold qX;rw [if_neg h]
  exact ⟨by show max 0 (qX s p f n d - 1)=0;rw [e];rfl,e⟩
theorem EB {s:aC} (p:List Order) (f n d:Nat) (h:¬ n < s.needs.length):qX s p f n d=0:=by unfold qX;rw [if_neg h]
theorem EC (one:Bool) {s:aC} {p:List Order} (hp:uN s p) (full:Bool) (f:Nat) (hf:f < 18446744073709551616):yM TT TB one (Of s p full f) (zC s p f):=by
 have hg:=hp.good;have hlen:=hg.len;have hdays:=hg.days;have p8:=hp.len;have eg:((s.needs.map aU).length:Int)=s.needs.length:=by simp
 have ep:((p.map aL).length:Int)=p.length:=by simp
 obtain ⟨nn,hnn⟩:∃ n:Int,n=s.needs.length:=⟨_,rfl⟩;refine yM.body (fn:=Tryz.f117) rfl rfl rfl rfl (fun x hx a ha=>?_) fun u J Stop hy=>?_
 ·obtain ⟨i,hi⟩:=List.mem_iff_getElem?.1 hx;obtain ⟨_,rfl⟩:=CY hi;simp only [List.mem_cons,List.not_mem_nil,or_false] at ha
  rcases ha with rfl|rfl
  ·exact gZ.fl _
  ·exact gZ.ag fun b hb=>by simp only [List.mem_cons,List.not_mem_nil,or_false] at hb;rcases hb with rfl|rfl|rfl <;> exact gZ.fl _
 rw [tT];refine qq1 ?_;repeat' first|refine u1 ?_|refine u2 ?_|fail
 refine aE.aS (ai.to (l:=[(0,.oq u),(1,.pt (aH s) 0),(2,.pt [.sl (p.map aL) full] 0),(3,.pt [i7 f] 0),(5,.ptr 0 0 0),(15,.sl (s.needs.map aU) false),(16,av nn),(17,av (0:Nat))]) (hp:=[.cells (nU fun n=>if n < 0 then jI s n else 0) 0 0]) 1 rfl ⟨rfl,rfl,rfl,rfl,rfl,rfl,aJ (by rw [hnn];exact eg),rfl,trivial⟩ (qq5 _) rfl rfl) ?_;refine aE.loop (fun k:Nat=>k≤s.needs.length) (fun k=>⟨bA [(0,.oq u),(1,.pt (aH s) 0),(2,.pt [.sl (p.map aL) full] 0),(3,.pt [i7 f] 0),(5,.ptr 0 0 0),(15,.sl (s.needs.map aU) false),(16,av nn),(17,av (k:Nat))],[.cells (nU fun n=>if n < k then jI s n else 0) 0 0],J 0,false,0⟩) (fun k=>s.needs.length - k) ?_ 0 (qq5 _);intro k hk;refine qq1 ?_;by_cases hlt:k < s.needs.length
 ·have d1:decide ((k:Int) < nn)=true:=decide_eq_true (by omega);have hat:(s.needs.map aU)[((k:Nat):Int).toNat]?=some (aU s.needs[k]):=bI hlt;have hk3:k < 3:=by omega
  have hln:=A8 (fun n=>if n < k then jI s n else 0) hk3
  have hst:=xh (c:=fun n=>if n < k then jI s n else 0) (c':=fun n=>if n < k+1 then jI s n else 0) (v:=s.needs[k].first) hk3 (fun n hn=>by
   by_cases e:n=k
   ·rw [if_pos e,if_pos (by omega),e];unfold jI;rw [List.getElem?_eq_getElem hlt]
   ·rw [if_neg e];by_cases e2:n < k
    ·rw [if_pos e2,if_pos (by omega)]
    ·rw [if_neg e2,if_neg (by omega)])
  generalize s.needs[k]=g at *
  repeat' first|((with_reducible show dN _ _ _ _ _ _);refine RM.TY rfl rfl rfl rfl rfl rfl hln ?_)|refine u1 ?_|((with_reducible refine qq4 ?_);refine ⟨aU g,⟨by omega,hat⟩,rfl,?_⟩)|refine u2 ?_|fail
  exact ⟨k+1,hlt,(by dsimp only;omega),ai.to 1 (congrArg (fun l=>[AB.cells l 0 0]) hst) ⟨rfl,rfl,rfl,rfl,rfl,rfl,rfl,aJ (by simp),trivial⟩ (qq5 _) rfl rfl⟩
 have d1:decide ((k:Int) < nn)=false:=decide_eq_false (by omega)
 have hall:(nU fun n=>if n < k then jI s n else 0)=nU fun n=>FY s p f n 0:=iz fun n _=>by
  by_cases e:n < k
  ·rw [if_pos e];rfl
  ·rw [if_neg e];exact (xg (by omega)).symm
 rw [hall];clear hall;repeat' first|refine u1 ?_|refine u2 ?_|fail
 refine aE.aS (ai.to (l:=[(0,.oq u),(1,.pt (aH s) 0),(2,.pt [.sl (p.map aL) full] 0),(3,.pt [i7 f] 0),(5,.ptr 0 0 0),(8,av ((0,0).2:Nat)),(29,av s.days),(30,av ((0,0).1:Nat))]) (hp:=[.cells (nU fun n=>FY s p f n (0,0).1) 0 0]) 1 rfl ⟨rfl,rfl,rfl,rfl,rfl,rfl,rfl,rfl,trivial⟩ (qq5 _) rfl rfl) ?_;refine aE.loop (fun x:Nat × Nat=>(x.1:Int)≤s.days∧sI p x.1 x.2) (fun x=>⟨bA [(0,.oq u),(1,.pt (aH s) 0),(2,.pt [.sl (p.map aL) full] 0),(3,.pt [i7 f] 0),(5,.ptr 0 0 0),(8,av (x.2:Nat)),(29,av s.days),(30,av (x.1:Nat))],[.cells (nU fun n=>FY s p f n x.1) 0 0],J x.1,false,0⟩) (fun x=>s.days.toNat - x.1) ?_ (0,0) ⟨by dsimp only;omega,Ez hp⟩;rintro ⟨d,m⟩ ⟨hd,ha⟩;dsimp only at hd ha;show aE _ _ _ _ ⟨bA [(0,.oq u),(1,.pt (aH s) 0),(2,.pt [.sl (p.map aL) full] 0),(3,.pt [i7 f] 0),(5,.ptr 0 0 0),(8,av ((d,m).2:Nat)),(29,av s.days),(30,av ((d,m).1:Nat))],[.cells (nU fun n=>FY s p f n (d,m).1) 0 0],J d,false,0⟩ _;dsimp only;refine qq1 ?_;by_cases hdl:(d:Int) < s.days
 ·have d1:=decide_eq_true hdl;have hmp:=ha.1;repeat' first|refine u1 ?_|refine u2 ?_|fail
  refine aE.aS (ai.to (l:=[(0,.oq u),(1,.pt (aH s) 0),(2,.pt [.sl (p.map aL) full] 0),(3,.pt [i7 f] 0),(5,.ptr 0 0 0),(8,av (m:Nat)),(9,av (d:Nat)),(29,av s.days),(30,av (d:Nat)),(36,av nn),(37,av (0:Nat))]) (hp:=[.cells (nU fun n=>if n < 0 then xe s p f n d else FY s p f n d) 0 0]) 1 rfl ⟨rfl,rfl,rfl,rfl,rfl,rfl,rfl,rfl,rfl,aJ (by rw [hnn];exact eg),rfl,trivial⟩ (qq5 _) rfl rfl) ?_;refine aE.loop (fun k:Nat=>k≤s.needs.length) (fun k=>⟨bA [(0,.oq u),(1,.pt (aH s) 0),(2,.pt [.sl (p.map aL) full] 0),(3,.pt [i7 f] 0),(5,.ptr 0 0 0),(8,av (m:Nat)),(9,av (d:Nat)),(29,av s.days),(30,av (d:Nat)),(36,av nn),(37,av (k:Nat))],[.cells (nU fun n=>if n < k then xe s p f n d else FY s p f n d) 0 0],J d,false,0⟩) (fun k=>s.needs.length - k) ?_ 0 (qq5 _);intro k hk;by_cases hlt:k < s.needs.length
  ·have d2:decide ((k:Int) < nn)=true:=decide_eq_true (by omega);have hk3:k < 3:=by omega
   cases d with
   | zero =>
    have d3:decide ((0:Int) < ((0:Nat):Int))=false:=by decide
    have e:(nU fun n=>if n < k then xe s p f n 0 else FY s p f n 0)=nU fun n=>if n < k+1 then xe s p f n 0 else FY s p f n 0:=iz fun n _=>by show (if n < k then jI s n else jI s n)=if n < k+1 then jI s n else jI s n;rw [ite_self,ite_self]
    rw [e];refine qq1 ?_;repeat' first|refine u1 ?_|refine u2 ?_|fail
    exact ⟨k+1,hlt,(by dsimp only;omega),ai.to 1 rfl ⟨rfl,rfl,rfl,rfl,rfl,rfl,rfl,rfl,rfl,rfl,aJ (by simp),trivial⟩ (qq5 _) rfl rfl⟩
   | succ d =>
    have d3:decide ((0:Int) < ((d+1:Nat):Int))=true:=decide_eq_true (by omega);have hb:=RV hg p f k d;have hln:=A8 (fun n=>if n < k then xe s p f n (d+1) else FY s p f n (d+1)) hk3;have hat4:(nU fun n=>if n < k then xe s p f n (d+1) else FY s p f n (d+1))[0+((k:Nat):Int).toNat * 1]?=some (av (qX s p f k d)):=by rw [Nj _ hk3,if_neg (Nat.lt_irrefl _)];rfl
    have hst:=xh (c:=fun n=>if n < k then xe s p f n (d+1) else FY s p f n (d+1)) (c':=fun n=>if n < k+1 then xe s p f n (d+1) else FY s p f n (d+1)) (v:=max 0 (qX s p f k d - 1)) hk3 (fun n hn=>by
     by_cases e:n=k
     ·subst e;rw [if_pos rfl,if_pos (by omega)];rfl
     ·rw [if_neg e];by_cases e2:n < k
      ·rw [if_pos e2,if_pos (by omega)]
      ·rw [if_neg e2,if_neg (by omega)])
    generalize qX s p f k d=v at *
    refine qq1 ?_;repeat' first|((with_reducible show RM.wpOp _ _ (.load _ _) _ _ _);refine RM.Ut rfl rfl rfl hat4 ?_)|((with_reducible show dN _ _ _ _ _ _);refine RM.TY rfl rfl rfl rfl rfl rfl hln ?_)|refine u1 ?_|refine u2 ?_|fail
    exact ⟨k+1,hlt,(by dsimp only;omega),ai.to 1 (congrArg (fun l=>[AB.cells l 0 0]) hst) ⟨rfl,rfl,rfl,rfl,rfl,rfl,rfl,rfl,rfl,rfl,aJ (by simp),trivial⟩ (qq5 _) rfl rfl⟩
  have d2:decide ((k:Int) < nn)=false:=decide_eq_false (by omega)
  have hdn:(nU fun n=>if n < k then xe s p f n d else FY s p f n d)=nU fun n=>xe s p f n d:=iz fun n _=>by
   by_cases e:n < k
   ·rw [if_pos e]
   ·rw [if_neg e,(CZ p f n d (by omega)).1,(CZ p f n d (by omega)).2]
  rw [hdn];clear hdn;have hdt:d < s.days.toNat:=by omega
  have hyx:=hy d _ (CX hdt);by_cases hm:m < p.length
  ·have d3:decide ((m:Int) < ((p.map aL).length:Int))=true:=decide_eq_true (by omega);have hat:(p.map aL)[((m:Nat):Int).toNat]?=some (aL p[m]):=bI hm;by_cases hday:p[m].day=(d:Int)
   ·have hbr:=fun n=>RW hp ha hm hday f n;have ha':=Jk hp ha hm hday;have hor:=hp.order _ (List.getElem_mem hm);have d4:=decide_eq_true hday
    generalize p[m]=o at *
    have ec:((ints o.bl).length:Int)=o.bl.length:=by simp
    obtain ⟨cl,hcl⟩:∃ n:Int,n=o.bl.length:=⟨_,rfl⟩;have hc3:=hor.len;refine qq1 ?_;repeat' first|refine u1 ?_|((with_reducible refine qq4 ?_);refine ⟨aL o,⟨by omega,hat⟩,rfl,?_⟩)|refine u2 ?_|fail
    have h60:(nU fun n=>xe s p f n d)=nU fun n=>if (!f.testBit m && hasB (o.bl.take 0) (n:Int))=true then nG s n else xe s p f n d:=iz fun n _=>by rw [if_neg (by simp [hasB])]
    refine aE.aS (ai.to (l:=[(0,.oq u),(1,.pt (aH s) 0),(2,.pt [.sl (p.map aL) full] 0),(3,.pt [i7 f] 0),(5,.ptr 0 0 0),(8,av (m:Nat)),(9,av (d:Nat)),(29,av s.days),(30,av (d:Nat)),(67,.sl (ints o.bl) false),(68,av cl),(69,av (0:Nat))]) (hp:=[.cells (nU fun n=>if (!f.testBit m && hasB (o.bl.take 0) (n:Int))=true then nG s n else xe s p f n d) 0 0]) 1 (congrArg (fun l=>[AB.cells l 0 0]) h60) ⟨rfl,rfl,rfl,rfl,rfl,rfl,rfl,rfl,rfl,rfl,aJ (by rw [hcl];exact ec),rfl,trivial⟩ (qq5 _) rfl rfl) ?_;refine aE.loop (fun j:Nat=>j≤o.bl.length) (fun j=>⟨bA [(0,.oq u),(1,.pt (aH s) 0),(2,.pt [.sl (p.map aL) full] 0),(3,.pt [i7 f] 0),(5,.ptr 0 0 0),(8,av (m:Nat)),(9,av (d:Nat)),(29,av s.days),(30,av (d:Nat)),(67,.sl (ints o.bl) false),(68,av cl),(69,av (j:Nat))],[.cells (nU fun n=>if (!f.testBit m && hasB (o.bl.take j) (n:Int))=true then nG s n else xe s p f n d) 0 0],J d,false,0⟩) (fun j=>o.bl.length - j) ?_ 0 (qq5 _);intro j hj;by_cases hjl:j < o.bl.length
    ·have d5:decide ((j:Int) < cl)=true:=decide_eq_true (by omega);have hct:(ints o.bl)[((j:Nat):Int).toNat]?=some (eI o.bl[j]):=bI hjl;have hx:=hor.bl _ (List.getElem_mem hjl);have htk:∀ n:Int,hasB (o.bl.take (j+1)) n=(hasB (o.bl.take j) n || decide (o.bl[j]=n)):=fun n=>by unfold hasB;rw [List.take_add_one,List.getElem?_eq_getElem hjl,List.any_append];simp
     obtain ⟨q,hq⟩:∃ q:Nat,o.bl[j]=(q:Int):=⟨o.bl[j].toNat,by omega⟩;rw [hq] at hct hx htk;have hq3:q < 3:=by omega
     obtain ⟨nd,n1,n2,_⟩:=FU hx;have hm8:m < 8:=by omega
     have hbit:f / 2 ^ m % 2=if f.testBit m=true then 1 else 0:=by
      rw [Nat.testBit_eq_decide_div_mod_eq];have:=Nat.mod_two_eq_zero_or_one (f / 2 ^ m)
      rcases this with e|e <;> rw [e] <;> simp
     have hfm:f / 2 ^ m < 18446744073709551616:=Nat.lt_of_le_of_lt (Nat.div_le_self _ _) hf
     cases hfb:f.testBit m with
     | true =>
      rw [hfb,if_pos rfl] at hbit;have d6:decide (((f / 2 ^ m % 2:Nat):Int)=0)=false:=decide_eq_false (by rw [hbit];decide);refine qq1 ?_;repeat' first|((with_reducible show bw _ _ _ _ _ _ _ _ _);refine RM.FV rfl rfl hm8 ?_)|((with_reducible show bw _ _ _ _ _ _ _ _ _);refine RM.A6 rfl rfl hfm ?_)|((with_reducible show bw _ _ _ _ _ _ _ _ _);refine RM.Ng rfl rfl ?_)|refine u1 ?_|((with_reducible refine qq4 ?_);refine ⟨eI (q:Int),⟨by omega,hct⟩,rfl,?_⟩)|refine u2 ?_|fail
      exact ⟨j+1,hjl,(by dsimp only;omega),ai.to 1 rfl ⟨rfl,rfl,rfl,rfl,rfl,rfl,rfl,rfl,rfl,rfl,rfl,aJ (by simp),trivial⟩ (qq5 _) rfl rfl⟩
     | false =>
      rw [hfb,if_neg (by simp)] at hbit;have d6:decide (((f / 2 ^ m % 2:Nat):Int)=0)=true:=decide_eq_true (by rw [hbit];decide);have hln:=A8 (fun n=>if (!false && hasB (o.bl.take j) (n:Int))=true then nG s n else xe s p f n d) hq3
      have hst:=xh (c:=fun n=>if (!false && hasB (o.bl.take j) (n:Int))=true then nG s n else xe s p f n d) (c':=fun n=>if (!false && hasB (o.bl.take (j+1)) (n:Int))=true then nG s n else xe s p f n d) (v:=nd.full) hq3 (fun n hn=>by
       rw [htk];by_cases e:n=q
       ·subst e;rw [if_pos rfl,if_pos (by simp)];unfold nG;rw [Int.toNat_natCast] at n1;rw [n1]
       ·rw [if_neg e,show decide ((q:Int)=(n:Int))=false from decide_eq_false (by omega),Bool.or_false])
      refine qq1 ?_;repeat' first|((with_reducible show bw _ _ _ _ _ _ _ _ _);refine RM.FV rfl rfl hm8 ?_)|((with_reducible show bw _ _ _ _ _ _ _ _ _);refine RM.A6 rfl rfl hfm ?_)|((with_reducible show bw _ _ _ _ _ _ _ _ _);refine RM.Ng rfl rfl ?_)|((with_reducible show dN _ _ _ _ _ _);refine RM.TY rfl rfl rfl rfl rfl rfl hln ?_)|refine u1 ?_|((with_reducible refine qq4 ?_);refine ⟨eI (q:Int),⟨by omega,hct⟩,rfl,?_⟩)|((with_reducible refine qq4 ?_);refine ⟨aU nd,⟨by omega,n2⟩,rfl,?_⟩)|refine u2 ?_|fail
      exact ⟨j+1,hjl,(by dsimp only;omega),ai.to 1 (congrArg (fun l=>[AB.cells l 0 0]) hst) ⟨rfl,rfl,rfl,rfl,rfl,rfl,rfl,rfl,rfl,rfl,rfl,aJ (by simp),trivial⟩ (qq5 _) rfl rfl⟩
    have d5:decide ((j:Int) < cl)=false:=decide_eq_false (by omega)
    have hcan:(nU fun n=>if (!f.testBit m && hasB (o.bl.take j) (n:Int))=true then nG s n else xe s p f n d)=nU fun n=>qX s p f n d:=iz fun n _=>by
     rw [List.take_of_length_le (by omega)];by_cases e:n < s.needs.length
     ·rw [Ey e,hbr n]
     ·rw [EB p f n d e,if_neg,(CZ p f n d e).1];rw [qq7,iP];rintro ⟨_,h2⟩;have:=hor.bl _ h2;omega
    rw [hcan];clear hcan;refine qq1 ?_;repeat' first|refine u1 ?_|((with_reducible refine qq4 ?_);refine ⟨aL o,⟨by omega,hat⟩,rfl,?_⟩)|refine u2 ?_|fail
    refine aB.mono (hyx _) (fun a hp' amb' hq=>?_);obtain ⟨rfl,b,rfl,hb⟩:=hq
    rcases hb with ⟨rfl,rfl⟩|⟨rfl,hstop⟩
    ·repeat' first|refine u1 ?_|refine u2 ?_|fail
     exact ⟨(d+1,m+1),⟨by dsimp only;omega,ha'⟩,(by dsimp only;omega),ai.to 1 rfl ⟨rfl,rfl,rfl,rfl,rfl,aJ (by simp),rfl,aJ (by simp),trivial⟩ (qq5 _) rfl rfl⟩
    ·repeat' first|refine u1 ?_|refine u2 ?_|fail
     exact Or.inr hstop
   ·have d4:=decide_eq_false hday;obtain ⟨hno,ha'⟩:(∀ n,G6 p f n d=false)∧sI p (d+1) m:=⟨fun n=>(FX hp ha (fun _=>hday) f n).1,(FX hp ha (fun _=>hday) f 0).2⟩
    have hcan:(nU fun n=>xe s p f n d)=nU fun n=>qX s p f n d:=iz fun n _=>by
     by_cases e:n < s.needs.length
     ·rw [Ey e,hno n];rfl
     ·rw [EB p f n d e,(CZ p f n d e).1]
    rw [hcan];clear hcan
    generalize p[m]=o at *
    refine qq1 ?_;repeat' first|refine u1 ?_|((with_reducible refine qq4 ?_);refine ⟨aL o,⟨by omega,hat⟩,rfl,?_⟩)|refine u2 ?_|fail
    refine aB.mono (hyx _) (fun a hp' amb' hq=>?_);obtain ⟨rfl,b,rfl,hb⟩:=hq
    rcases hb with ⟨rfl,rfl⟩|⟨rfl,hstop⟩
    ·repeat' first|refine u1 ?_|refine u2 ?_|fail
     exact ⟨(d+1,m),⟨by dsimp only;omega,ha'⟩,(by dsimp only;omega),ai.to 1 rfl ⟨rfl,rfl,rfl,rfl,rfl,aJ (by simp),rfl,aJ (by simp),trivial⟩ (qq5 _) rfl rfl⟩
    ·repeat' first|refine u1 ?_|refine u2 ?_|fail
     exact Or.inr hstop
  ·have d3:decide ((m:Int) < ((p.map aL).length:Int))=false:=decide_eq_false (by omega);obtain ⟨hno,ha'⟩:(∀ n,G6 p f n d=false)∧sI p (d+1) m:=⟨fun n=>(FX hp ha (fun h=>absurd h hm) f n).1,(FX hp ha (fun h=>absurd h hm) f 0).2⟩
   have hcan:(nU fun n=>xe s p f n d)=nU fun n=>qX s p f n d:=iz fun n _=>by
    by_cases e:n < s.needs.length
    ·rw [Ey e,hno n];rfl
    ·rw [EB p f n d e,(CZ p f n d e).1]
   rw [hcan];clear hcan;refine qq1 ?_;repeat' first|refine u1 ?_|((with_reducible refine qq4 ?_);refine ⟨aL o,⟨by omega,hat⟩,rfl,?_⟩)|refine u2 ?_|fail
   refine aB.mono (hyx _) (fun a hp' amb' hq=>?_);obtain ⟨rfl,b,rfl,hb⟩:=hq
   rcases hb with ⟨rfl,rfl⟩|⟨rfl,hstop⟩
   ·repeat' first|refine u1 ?_|refine u2 ?_|fail
    exact ⟨(d+1,m),⟨by dsimp only;omega,ha'⟩,(by dsimp only;omega),ai.to 1 rfl ⟨rfl,rfl,rfl,rfl,rfl,aJ (by simp),rfl,aJ (by simp),trivial⟩ (qq5 _) rfl rfl⟩
   ·repeat' first|refine u1 ?_|refine u2 ?_|fail
    exact Or.inr hstop
 ·have d1:=decide_eq_false hdl;have hde:d=s.days.toNat:=by omega
  subst hde;repeat' first|refine u1 ?_|refine u2 ?_|fail
  exact Or.inl rfl
theorem G7 (one:Bool) (a:Int) (l:List Int) (full:Bool) (hl:l.length≤maxLen):Pu one 86 [.sl (ints l) full,av a] (av (l5 (fun x=>decide (a=x)) l)):=by
 have ml:l.length≤9223372036854775807:=Nat.le_trans hl (by simp [maxLen]);have eg:((ints l).length:Int)=l.length:=by simp
 obtain ⟨n,hn⟩:∃ n:Int,n=l.length:=⟨_,rfl⟩;refine af.body (fn:=Tryz.f86) rfl rfl rfl rfl ?_;refine qq1 ?_;repeat' first|refine u1 ?_|refine u2 ?_|fail
 refine aE.aS (ai.to (l:=[(0,.sl (ints l) full),(1,av a),(7,av n),(8,av (0:Nat))]) (hp:=[]) 0 rfl ⟨rfl,rfl,aJ (by rw [hn];exact eg),rfl,trivial⟩ (qq5 _) rfl rfl) ?_;refine aE.loop (fun k:Nat=>k≤l.length∧∀ i (h:i < l.length),i < k→decide (a=l[i])=false) (fun k=>⟨bA [(0,.sl (ints l) full),(1,av a),(7,av n),(8,av (k:Nat))],[],cz.none,false,0⟩) (fun k=>l.length - k) ?_ 0 ⟨qq5 _,fun i _ hi=>absurd hi (Nat.not_lt_zero _)⟩;rintro k ⟨hk,hprev⟩;refine qq1 ?_;by_cases hlt:k < l.length
 ·have d1:decide ((k:Int) < n)=true:=decide_eq_true (by omega);have hat:(ints l)[((k:Nat):Int).toNat]?=some (eI l[k]):=bI hlt
  cases hx:decide (a=l[k]) with
  | true =>
   rw [iu hlt hprev hx]
   generalize l[k]=x at *
   repeat' first|refine u1 ?_|((with_reducible refine qq4 ?_);refine ⟨eI x,⟨by omega,hat⟩,rfl,?_⟩)|refine u2 ?_|fail
   exact ⟨[_],⟨Fz.deep rfl,trivial⟩,rfl⟩
  | false =>
   have hn':∀ i (h:i < l.length),i < k+1→decide (a=l[i])=false:=fun i hi hik=>by
    by_cases e:i=k
    ·subst e;exact hx
    ·exact hprev i hi (by omega)
   generalize l[k]=x at *
   repeat' first|refine u1 ?_|((with_reducible refine qq4 ?_);refine ⟨eI x,⟨by omega,hat⟩,rfl,?_⟩)|refine u2 ?_|fail
   exact ⟨k+1,⟨hlt,hn'⟩,(by dsimp only;omega),ai.to 0 rfl ⟨rfl,rfl,rfl,aJ (by simp),trivial⟩ (qq5 _) rfl rfl⟩
 ·have d1:decide ((k:Int) < n)=false:=decide_eq_false (by omega);rw [iw (fun i hi=>hprev i hi (by omega))];repeat' first|refine u1 ?_|refine u2 ?_|fail
  exact ⟨[_],⟨Fz.deep rfl,trivial⟩,rfl⟩
def ME (s:aC) (p:List Order) (f d:Nat):List Int:=(List.range s.needs.length).map fun n=>qX s p f n d
theorem A9 {s:aC} {p:List Order} {f d:Nat}:(ME s p f d).length=s.needs.length:=by simp [ME]
theorem Nk {s:aC} (hg:Good s) (p:List Order) (f d:Nat):(ints (ME s p f d)).length=(s.needs.map aU).length∧(∀ el ∈ ints (ME s p f d),el.length=1) ∧
  (ints (ME s p f d)).flatten=((nU fun n=>qX s p f n d).drop 0).take ((s.needs.map aU).length * 1):=by
 have h:=hg.len;refine ⟨by rw [List.length_map,A9,List.length_map],fun el hel=>by obtain ⟨x,_,rfl⟩:=List.mem_map.1 hel;rfl,?_⟩;rw [List.length_map];unfold ME;obtain e|e|e:s.needs.length=1∨s.needs.length=2∨s.needs.length=3:=by omega
 all_goals rw [e];rfl
def zeroAt (s:aC) (p:List Order) (f d:Nat):Int:=l5 (fun x=>decide (0=x)) (ME s p f d)
def mM (s:aC) (p:List Order) (f:Nat):Option (Nat × Int):=((List.range s.days.toNat).find? fun d=>decide (0≤zeroAt s p f d)).map fun d=>(d,zeroAt s p f d)
theorem Jl {s:aC} {p:List Order} {f d:Nat} (hd:d < s.days.toNat) (hprev:∀ i,i < d→zeroAt s p f i < 0) (h:0≤zeroAt s p f d):mM s p f=some (d,zeroAt s p f d):=by
 unfold mM;have:(List.range s.days.toNat).find? (fun d=>decide (0≤zeroAt s p f d))=some d:=by rw [List.find?_range_eq_some];refine ⟨decide_eq_true h,by simpa using hd,fun j hj=>?_⟩;have:=hprev j hj;simpa using this
 rw [this];rfl
theorem C1 {s:aC} {p:List Order} {f:Nat} (hprev:∀ i,i < s.days.toNat→zeroAt s p f i < 0):mM s p f=none:=by
 unfold mM;have:(List.range s.days.toNat).find? (fun d=>decide (0≤zeroAt s p f d))=none:=by rw [List.find?_eq_none];intro d hd;have:=hprev d (by simpa using hd);simpa using this
 rw [this];rfl
def Ba (s:aC) (p:List Order) (f:Nat):AV:=match mM s p f with
 | some (d,n)=>.tp [.ag [i7 f,av (d:Nat),av n],BB true]
 | none=>.tp [.ag [i7 0,av 0,av 0],BB false]
theorem G8 {s:aC} {p:List Order} {f:Nat}:(Ba s p f).deep=true:=by unfold Ba;split <;> rfl
theorem C2 (one:Bool) {s:aC} {p:List Order} (hp:uN s p) (full:Bool) (f:Nat) (hf:f < 18446744073709551616):Pu one 48 [.ag (aH s),.sl (p.map aL) full,i7 f] (Ba s p f):=by
 have hg:=hp.good;have hlen:=hg.len;have hm:=EA one s p full f;have hgen:=EC one hp full f hf;refine af.body (fn:=Tryz.f48) rfl rfl rfl G8 ?_;refine qq2 ?_;repeat' first|refine u1 ?_|refine u2 ?_|fail
 refine qq2 ?_;repeat' first|refine u1 ?_|((with_reducible refine qq3 ?_);refine af.call hm rfl rfl ?_)|refine u2 ?_|fail
 refine aE.range (fun _=>[.cells [i7 0,av 0,av 0] 0 0,.cells [BB false] 0 0]) (fun _=>cz.none) (fun i=>∀ d,d < i→zeroAt s p f d < 0) rfl hgen rfl rfl (fun d hd=>absurd hd (Nat.not_lt_zero _)) (fun i x hx hprev=>?_) (fun hprev=>?_)
 ·obtain ⟨hi,rfl⟩:=CY hx;refine ⟨rfl,?_⟩;refine qq1 ?_;repeat' first|refine u1 ?_|refine u2 ?_|fail
  refine aE.aS (ai.giveUp 2 (l:=[(3,.pt (aH s) 0),(5,.pt [i7 f] 0),(6,.ptr 0 0 0),(7,.ptr 1 0 0),(8,av (i:Nat)),(9,.pt (nU fun n=>qX s p f n i) 0)]) (hp:=[.cells [i7 0,av 0,av 0] 0 0,.cells [BB false] 0 0,.gone]) rfl (Nat.le_of_ble_eq_true rfl) rfl ⟨.same rfl,.same rfl,.same rfl,.same rfl,.same rfl,.ptr,trivial⟩ rfl rfl) ?_;have hcut:=Nk hg p f i;have hcb:(s.needs.map aU).length≤3∧0+(s.needs.map aU).length * 1≤(nU fun n=>qX s p f n i).length:=by rw [List.length_map];exact ⟨hlen.2,by simpa using hlen.2⟩
  have hix:Pu one 86 [.sl (ints (ME s p f i)) (Nat.beq (s.needs.map aU).length 3),av 0] (av (zeroAt s p f i)):=G7 one 0 _ _ (by rw [A9];exact Nat.le_trans hlen.2 (by simp [maxLen]));refine qq1 ?_;by_cases hz:0≤zeroAt s p f i
  ·have d1:=decide_eq_true hz;have e:Ba s p f=.tp [.ag [i7 f,av (i:Nat),av (zeroAt s p f i)],BB true]:=by unfold Ba;rw [Jl hi hprev hz]
   rw [e]
   generalize zeroAt s p f i=z at *
   repeat' first|(refine RM.Uw rfl rfl rfl hcb (by decide) hcut ?_)|refine u1 ?_|((with_reducible refine qq3 ?_);refine af.call hix rfl rfl ?_)|refine u2 ?_|fail
   exact ⟨[_,_],⟨Fz.deep rfl,Fz.deep rfl,trivial⟩,rfl⟩
  ·have d1:=decide_eq_false hz;have hz':zeroAt s p f i < 0:=by omega
   repeat' first|(refine RM.Uw rfl rfl rfl hcb (by decide) hcut ?_)|refine u1 ?_|((with_reducible refine qq3 ?_);refine af.call hix rfl rfl ?_)|refine u2 ?_|fail
   refine ⟨fun d hd=>?_,_,ai.to (l:=[]) 2 rfl trivial (qq6 _) rfl rfl⟩
   ·by_cases e:d=i
    ·subst e;exact hz'
    ·exact hprev d (by omega)
 ·rw [tT] at hprev;have e:Ba s p f=.tp [.ag [i7 0,av 0,av 0],BB false]:=by unfold Ba;rw [C1 hprev]
  rw [e];refine qq1 ?_;repeat' first|refine u1 ?_|refine u2 ?_|fail
  exact ⟨[_,_],⟨Fz.deep rfl,Fz.deep rfl,trivial⟩,rfl⟩
def ED (s:aC) (p:List Order) (f:List Int):Int × Int × Int :=
 if sH s p f ≠ 0 then (0,0,sH s p f) else match mM s p (eo f) with
 | some (d,n)=>((d:Nat),n,0)
 | none=>(0,0,4)
theorem Bb {s:aC} {p:List Order} {f:List Int} (h:sH s p f=0):uN s p∧(∀ x ∈ f,0≤x∧x < p.length)∧(gx s p).2=0∧qb f p.length=0:=by
 unfold sH at h;split at h
 ·rename_i h1;exact ⟨mK h1,(vm h).1,h1,h⟩
 ·rename_i h1;exact absurd h h1
theorem C3 {s:aC} {p:List Order} {f:List Int} (h:sH s p f=0):eo f < 256:=by obtain ⟨h1,h2,_⟩:=Bb h;exact Nat.lt_of_lt_of_le (CW h2) (show 2 ^ p.length≤2 ^ 8 from Nat.pow_le_pow_right (by decide) h1.len)
theorem RY (one:Bool) (s:aC) (hs:s.Ok) (p:List Order) (full:Bool) (hp:RS p) (f:List Int) (ff:Bool) (hf:f.length≤maxLen):Pu one 14 [.ag (aH s),.sl (p.map aL) full,.sl (ints f) ff] (.tp [av (ED s p f).1,av (ED s p f).2.1,av (ED s p f).2.2]):=by
 have o1:=Nh one s hs p full hp f ff hf;unfold ED;by_cases c1:sH s p f=0
 ·rw [if_neg (by omega)];obtain ⟨hpg,hin,_⟩:=Bb c1;have hfb:=C3 c1;rw [if_pos c1,c1] at o1;have o2:=C2 one hpg full (eo f) (by omega);have d0:(!decide ((0:Int)=0))=false:=by decide
  unfold Ba at o2
  cases hb:mM s p (eo f) with
  | some x =>
   obtain ⟨d,n⟩:=x;rw [hb] at o2
   generalize eo f=b at *
   refine af.body (fn:=Tryz.f14) rfl rfl rfl rfl ?_;refine qq1 ?_;repeat' first|refine u1 ?_|((with_reducible refine qq3 ?_);refine af.call o1 rfl rfl ?_)|((with_reducible refine qq3 ?_);refine af.call o2 rfl rfl ?_)|refine u2 ?_|fail
   exact ⟨[_,_,_],⟨Fz.deep rfl,Fz.deep rfl,Fz.deep rfl,trivial⟩,rfl⟩
  | none =>
   rw [hb] at o2
   generalize eo f=b at *
   refine af.body (fn:=Tryz.f14) rfl rfl rfl rfl ?_;refine qq1 ?_;repeat' first|refine u1 ?_|((with_reducible refine qq3 ?_);refine af.call o1 rfl rfl ?_)|((with_reducible refine qq3 ?_);refine af.call o2 rfl rfl ?_)|refine u2 ?_|fail
   exact ⟨[_,_,_],⟨Fz.deep rfl,Fz.deep rfl,Fz.deep rfl,trivial⟩,rfl⟩
 ·rw [if_pos c1];rw [if_neg c1] at o1
  generalize sH s p f=e at *
  have d1:(!decide (e=0))=true:=by rw [decide_eq_false c1];rfl
  refine af.body (fn:=Tryz.f14) rfl rfl rfl rfl ?_;refine qq1 ?_;repeat' first|refine u1 ?_|((with_reducible refine qq3 ?_);refine af.call o1 rfl rfl ?_)|refine u2 ?_|fail
  exact ⟨[_,_,_],⟨Fz.deep rfl,Fz.deep rfl,Fz.deep rfl,trivial⟩,rfl⟩
