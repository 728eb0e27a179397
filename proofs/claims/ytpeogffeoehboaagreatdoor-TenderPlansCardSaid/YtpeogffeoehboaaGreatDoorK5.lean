/-
  Contracts of the program's functions and of the document's. Lemmas alone; their conditions stand in them.
-/
import Derived.Test.YtpeogffeoehboaaGreatDoorK4
open Go Go.RM
namespace Go.Proofs.YtpeogffeoehboaaGreatDoor
set_option maxRecDepth 100000
def jD (s:ai) (n:Nat):Int:=match s.needs[n]? with
 | some x=>x.first
 | none=>0
def jE (s:ai) (n:Nat):Int:=match s.needs[n]? with
 | some x=>x.full
 | none=>0
def LH (p:List Order) (f n d:Nat):Bool:=(List.range p.length).any fun i=>match p[i]? with
 | some o=>decide (o.day=(d:Int)) && !f.testBit i && hasB o.bw (n:Int)
 | none=>false
theorem vm {p:List Order} {f n d:Nat}:LH p f n d=true ↔ ∃ i,∃ h:i < p.length,p[i].day=(d:Int)∧f.testBit i=false∧(n:Int) ∈ p[i].bw:=by
 unfold LH;rw [List.any_eq_true];constructor
 ·rintro ⟨i,hi,h⟩;have hi:=List.mem_range.1 hi;rw [List.getElem?_eq_getElem hi] at h;simp only [qq7,decide_eq_true_eq,Bool.not_eq_true',fM] at h;exact ⟨i,hi,h.1.1,h.1.2,h.2⟩
 ·rintro ⟨i,hi,h1,h2,h3⟩;refine ⟨i,List.mem_range.2 hi,?_⟩;rw [List.getElem?_eq_getElem hi];simp only [qq7,decide_eq_true_eq,Bool.not_eq_true',fM];exact ⟨⟨h1,h2⟩,h3⟩
def nG (s:ai) (p:List Order) (f n d:Nat):Int:=if n < s.needs.length then TeLaw.HD (jE s n) (jD s n) (LH p f n) d else 0
def qf (s:ai) (p:List Order) (f n:Nat):Nat→Int
 | 0=>jD s n
 | d+1=>max 0 (nG s p f n d - 1)
theorem Bq {s:ai} {p:List Order} {f n d:Nat} (h:n < s.needs.length):nG s p f n d=if LH p f n d=true then jE s n else qf s p f n d:=by
 unfold nG;rw [if_pos h]
 cases d with
 | zero=>rfl
 | succ d =>
  have e:qf s p f n (d+1)=max 0 (TeLaw.HD (jE s n) (jD s n) (LH p f n) d - 1):=by show max 0 (nG s p f n d - 1)=_;unfold nG;rw [if_pos h]
  rw [e];rfl
theorem sJ {s:ai} {n:Nat} (h:¬ n < s.needs.length):jD s n=0:=by unfold jD;rw [List.getElem?_eq_none (by omega)]
theorem LI {s:ai} (hg:Good s) {n:Nat} (h:n < s.needs.length):1≤jE s n∧jE s n≤60:=by unfold jE;rw [List.getElem?_eq_getElem h];exact (hg.needs _ (List.getElem_mem h)).2.1
theorem LJ {s:ai} (hg:Good s) {n:Nat} (h:n < s.needs.length):0≤jD s n∧jD s n≤jE s n:=by unfold jD jE;rw [List.getElem?_eq_getElem h];exact (hg.needs _ (List.getElem_mem h)).2.2.1
theorem LK {s:ai} (hg:Good s) (p:List Order) (f n d:Nat):0≤nG s p f n d∧nG s p f n d≤60:=by
 unfold nG;split
 ·rename_i h;have h1:=LI hg h;have h2:=LJ hg h;have h3:=TeLaw.LG (full:=jE s n) (first:=jD s n) h2.2 (by omega) (LH p f n) d;have h4:=TeLaw.QI (full:=jE s n) (first:=jD s n) h2.1 (by omega) (LH p f n) d;omega
 ·omega
theorem SJ {s:ai} (hg:Good s) (p:List Order) (f n d:Nat):0≤qf s p f n d∧qf s p f n d≤60:=by
 cases d with
 | zero =>
  show 0≤jD s n∧jD s n≤60;by_cases h:n < s.needs.length
  ·have h1:=LI hg h;have h2:=LJ hg h;omega
  ·rw [sJ h];omega
 | succ d =>have:=LK hg p f n d;show 0≤max 0 (nG s p f n d - 1)∧max 0 (nG s p f n d - 1)≤60;omega
def sK (p:List Order) (d m:Nat):Prop:=m≤p.length∧(∀ i (h:i < p.length),i < m→p[i].day < (d:Int))∧∀ i (h:i < p.length),m≤i→(d:Int)≤p[i].day
theorem SK {s:ai} {p:List Order} (hp:jC s p) {d m:Nat} (ha:sK p d m) (hm:m < p.length) (hd:p[m].day=(d:Int)) (f n:Nat):LH p f n d=(!f.testBit m && hasB p[m].bw (n:Int)):=by
 rw [Bool.eq_iff_iff,vm,qq7,Bool.not_eq_true',fM];constructor
 ·rintro ⟨i,hi,h1,h2,h3⟩
  have:i=m:=by
   rcases Nat.lt_trichotomy i m with h|h|h
   ·have:=ha.2.1 i hi h;omega
   ·exact h
   ·have:=hp.HA m i hm hi h;omega
  subst this;exact ⟨h2,h3⟩
 ·rintro ⟨h2,h3⟩;exact ⟨m,hm,hd,h2,h3⟩
theorem LL {s:ai} {p:List Order} (hp:jC s p) {d m:Nat} (ha:sK p d m) (hm:m < p.length) (hd:p[m].day=(d:Int)):sK p (d+1) (m+1):=by
 refine ⟨hm,fun i h hi=>?_,fun i h hi=>?_⟩
 ·by_cases e:i=m
  ·subst e;omega
  ·have:=ha.2.1 i h (by omega);omega
 ·have:=hp.HA m i hm h (by omega);omega
theorem Gs {s:ai} {p:List Order} (hp:jC s p) {d m:Nat} (ha:sK p d m) (hd:∀ h:m < p.length,p[m].day ≠ (d:Int)) (f n:Nat):LH p f n d=false∧sK p (d+1) m:=by
 have key:∀ i (h:i < p.length),m≤i→(d:Int) < p[i].day:=fun i h hi=>by
  by_cases e:i=m
  ·subst e;have:=ha.2.2 i h hi;have:=hd h;omega
  ·have h1:=hp.HA m i (by omega) h (by omega);have h2:=ha.2.2 m (by omega) (qq6 _);omega
 refine ⟨?_,ha.1,fun i h hi=>?_,fun i h hi=>?_⟩
 ·rw [←Bool.not_eq_true,vm];rintro ⟨i,hi,h1,_⟩;by_cases e:i < m
  ·have:=ha.2.1 i hi e;omega
  ·have:=key i hi (by omega);omega
 ·have:=ha.2.1 i h hi;omega
 ·have:=key i h hi;omega
theorem E7 {s:ai} {p:List Order} (hp:jC s p):sK p 0 0:=⟨qq5 _,fun _ _ hi=>absurd hi (Nat.not_lt_zero _),fun _ h _=>(hp.order _ (List.getElem_mem h)).day.1⟩
abbrev od (c:Nat→Int):List AV:=[aC (c 0),aC (c 1),aC (c 2)]
theorem Nn (c:Nat→Int) (v:Int):∀ {i:Nat},i < 3→dy (od c) [aC v] i=od (fun n=>if n=i then v else c n)
 | 0,_=>rfl
 | 1,_=>rfl
 | 2,_=>rfl
theorem QJ (c:Nat→Int):∀ {i:Nat},i < 3→(od c)[i]?=some (aC (c i))
 | 0,_=>rfl
 | 1,_=>rfl
 | 2,_=>rfl
theorem ir {c c':Nat→Int} (h:∀ n,n < 3→c n=c' n):od c=od c':=by unfold od;rw [h 0 (by decide),h 1 (by decide),h 2 (by decide)]
abbrev Ts (s:ai) (p:List Order) (f d:Nat):AV:=.ag (od fun n=>nG s p f n d)
def zE (s:ai) (p:List Order) (f:Nat):List (List AV):=(List.range s.days.toNat).map fun d=>[aC (d:Nat),Ts s p f d]
theorem tS {s:ai} {p:List Order} {f:Nat}:(zE s p f).length=s.days.toNat:=by simp [zE]
theorem Df {s:ai} {p:List Order} {f i:Nat} (h:i < s.days.toNat):(zE s p f)[i]?=some [aC (i:Nat),Ts s p f i]:=by unfold zE;rw [List.getElem?_map,List.getElem?_range h];rfl
theorem Dg {s:ai} {p:List Order} {f i:Nat} {x:List AV} (h:(zE s p f)[i]?=some x):i < s.days.toNat∧x=[aC (i:Nat),Ts s p f i]:=by
 have hi:i < s.days.toNat:=by have:=(List.getElem?_eq_some_iff.1 h).1;rw [tS] at this;exact this
 rw [Df hi] at h;exact ⟨hi,(Option.some.inj h).symm⟩
set_option maxHeartbeats 4000000
abbrev O9 (s:ai) (p:List Order) (full:Bool) (f:Nat):AV:=.fn 58 [] [.pt (ay s) 0,.pt [.sl (p.map aD) full] 0,.pt [kO f] 0]
theorem E8 (one:Bool) (s:ai) (p:List Order) (full:Bool) (f:Nat):Pu one 31 [.ag (ay s),.sl (p.map aD) full,kO f] (O9 s p full f):=by
 refine aj.body (fn:=Tryz.f31) rfl rfl rfl rfl ?_;refine qq1 ?_;repeat' first|refine u1 ?_|refine u2 ?_|fail
 exact ⟨[_],⟨Fz.deep rfl,trivial⟩,rfl⟩
theorem xd {c c':Nat→Int} {v:Int} {i:Nat} (hi:i < 3) (h:∀ n,n < 3→(if n=i then v else c n)=c' n):dy (od c) (AV.cells (aC v)) (0+((i:Nat):Int).toNat * 1)=od c':=by rw [Int.toNat_natCast,Nat.mul_one,Nat.zero_add];exact (Nn c v hi).trans (ir h)
theorem Np (c:Nat→Int) {i:Nat} (hi:i < 3):(od c)[0+((i:Nat):Int).toNat * 1]?=some (aC (c i)):=by rw [Int.toNat_natCast,Nat.mul_one,Nat.zero_add];exact QJ c hi
theorem Br (c:Nat→Int) {i:Nat} (hi:i < 3):Nat.ble (0+((i:Nat):Int).toNat * 1+1) (od c).length=true:=by rw [Int.toNat_natCast,Nat.mul_one,Nat.zero_add];exact Nat.ble_eq_true_of_le (show i+1≤3 by omega)
def Gt (s:ai) (p:List Order) (f n:Nat):Nat→Int
 | 0=>jD s n
 | d+1=>nG s p f n d
theorem Dh {s:ai} (p:List Order) (f n d:Nat) (h:¬ n < s.needs.length):qf s p f n d=0∧Gt s p f n d=0:=by
 cases d with
 | zero=>exact ⟨sJ h,sJ h⟩
 | succ d =>
  have e:nG s p f n d=0:=by unfold nG;rw [if_neg h]
  exact ⟨by show max 0 (nG s p f n d - 1)=0;rw [e];rfl,e⟩
theorem E9 {s:ai} (p:List Order) (f n d:Nat) (h:¬ n < s.needs.length):nG s p f n d=0:=by unfold nG;rw [if_neg h]
theorem Fa (one:Bool) {s:ai} {p:List Order} (hp:jC s p) (full:Bool) (f:Nat) (hf:f < 18446744073709551616):ER TT TB one (O9 s p full f) (zE s p f):=by
 have hg:=hp.good;have hlen:=hg.len;have hdays:=hg.days;have p8:=hp.len;have eg:((s.needs.map aQ).length:Int)=s.needs.length:=by simp
 have ep:((p.map aD).length:Int)=p.length:=by simp
 obtain ⟨nn,hnn⟩:∃ n:Int,n=s.needs.length:=⟨_,rfl⟩;refine ER.body (fn:=Tryz.f58) rfl rfl rfl rfl (fun x hx a ha=>?_) fun u J Stop hy=>?_
 ·obtain ⟨i,hi⟩:=List.mem_iff_getElem?.1 hx;obtain ⟨_,rfl⟩:=Dg hi;simp only [List.mem_cons,List.not_mem_nil,or_false] at ha
  rcases ha with rfl|rfl
  ·exact fA.fl _
  ·exact fA.ag fun b hb=>by simp only [List.mem_cons,List.not_mem_nil,or_false] at hb;rcases hb with rfl|rfl|rfl <;> exact fA.fl _
 rw [tS];refine qq1 ?_;repeat' first|refine u1 ?_|refine u2 ?_|fail
 refine av.aJ (ah.to (l:=[(0,.oq u),(1,.pt (ay s) 0),(2,.pt [.sl (p.map aD) full] 0),(3,.pt [kO f] 0),(5,.ptr 0 0 0),(15,.sl (s.needs.map aQ) false),(16,aC nn),(17,aC (0:Nat))]) (hp:=[.cells (od fun n=>if n < 0 then jD s n else 0) 0 0]) 1 rfl ⟨rfl,rfl,rfl,rfl,rfl,rfl,bq (by rw [hnn];exact eg),rfl,trivial⟩ (qq5 _) rfl rfl) ?_;refine av.loop (fun k:Nat=>k≤s.needs.length) (fun k=>⟨aZ [(0,.oq u),(1,.pt (ay s) 0),(2,.pt [.sl (p.map aD) full] 0),(3,.pt [kO f] 0),(5,.ptr 0 0 0),(15,.sl (s.needs.map aQ) false),(16,aC nn),(17,aC (k:Nat))],[.cells (od fun n=>if n < k then jD s n else 0) 0 0],J 0,false,0⟩) (fun k=>s.needs.length - k) ?_ 0 (qq5 _);intro k hk;refine qq1 ?_;by_cases hlt:k < s.needs.length
 ·have d1:decide ((k:Int) < nn)=true:=decide_eq_true (by omega);have hat:(s.needs.map aQ)[((k:Nat):Int).toNat]?=some (aQ s.needs[k]):=bp hlt;have hk3:k < 3:=by omega
  have hln:=Br (fun n=>if n < k then jD s n else 0) hk3
  have hst:=xd (c:=fun n=>if n < k then jD s n else 0) (c':=fun n=>if n < k+1 then jD s n else 0) (v:=s.needs[k].first) hk3 (fun n hn=>by
   by_cases e:n=k
   ·rw [if_pos e,if_pos (by omega),e];unfold jD;rw [List.getElem?_eq_getElem hlt]
   ·rw [if_neg e];by_cases e2:n < k
    ·rw [if_pos e2,if_pos (by omega)]
    ·rw [if_neg e2,if_neg (by omega)])
  generalize s.needs[k]=g at *
  repeat' first|((with_reducible show di _ _ _ _ _ _);refine RM.O5 rfl rfl rfl rfl rfl rfl hln ?_)|refine u1 ?_|((with_reducible refine qq4 ?_);refine ⟨aQ g,⟨by omega,hat⟩,rfl,?_⟩)|refine u2 ?_|fail
  exact ⟨k+1,hlt,(by dsimp only;omega),ah.to 1 (congrArg (fun l=>[AB.cells l 0 0]) hst) ⟨rfl,rfl,rfl,rfl,rfl,rfl,rfl,bq (by simp),trivial⟩ (qq5 _) rfl rfl⟩
 have d1:decide ((k:Int) < nn)=false:=decide_eq_false (by omega)
 have hall:(od fun n=>if n < k then jD s n else 0)=od fun n=>Gt s p f n 0:=ir fun n _=>by
  by_cases e:n < k
  ·rw [if_pos e];rfl
  ·rw [if_neg e];exact (sJ (by omega)).symm
 rw [hall];clear hall;repeat' first|refine u1 ?_|refine u2 ?_|fail
 refine av.aJ (ah.to (l:=[(0,.oq u),(1,.pt (ay s) 0),(2,.pt [.sl (p.map aD) full] 0),(3,.pt [kO f] 0),(5,.ptr 0 0 0),(8,aC ((0,0).2:Nat)),(29,aC s.days),(30,aC ((0,0).1:Nat))]) (hp:=[.cells (od fun n=>Gt s p f n (0,0).1) 0 0]) 1 rfl ⟨rfl,rfl,rfl,rfl,rfl,rfl,rfl,rfl,trivial⟩ (qq5 _) rfl rfl) ?_;refine av.loop (fun x:Nat × Nat=>(x.1:Int)≤s.days∧sK p x.1 x.2) (fun x=>⟨aZ [(0,.oq u),(1,.pt (ay s) 0),(2,.pt [.sl (p.map aD) full] 0),(3,.pt [kO f] 0),(5,.ptr 0 0 0),(8,aC (x.2:Nat)),(29,aC s.days),(30,aC (x.1:Nat))],[.cells (od fun n=>Gt s p f n x.1) 0 0],J x.1,false,0⟩) (fun x=>s.days.toNat - x.1) ?_ (0,0) ⟨by dsimp only;omega,E7 hp⟩;rintro ⟨d,m⟩ ⟨hd,ha⟩;dsimp only at hd ha;show av _ _ _ _ ⟨aZ [(0,.oq u),(1,.pt (ay s) 0),(2,.pt [.sl (p.map aD) full] 0),(3,.pt [kO f] 0),(5,.ptr 0 0 0),(8,aC ((d,m).2:Nat)),(29,aC s.days),(30,aC ((d,m).1:Nat))],[.cells (od fun n=>Gt s p f n (d,m).1) 0 0],J d,false,0⟩ _;dsimp only;refine qq1 ?_;by_cases hdl:(d:Int) < s.days
 ·have d1:=decide_eq_true hdl;have hmp:=ha.1;repeat' first|refine u1 ?_|refine u2 ?_|fail
  refine av.aJ (ah.to (l:=[(0,.oq u),(1,.pt (ay s) 0),(2,.pt [.sl (p.map aD) full] 0),(3,.pt [kO f] 0),(5,.ptr 0 0 0),(8,aC (m:Nat)),(9,aC (d:Nat)),(29,aC s.days),(30,aC (d:Nat)),(36,aC nn),(37,aC (0:Nat))]) (hp:=[.cells (od fun n=>if n < 0 then qf s p f n d else Gt s p f n d) 0 0]) 1 rfl ⟨rfl,rfl,rfl,rfl,rfl,rfl,rfl,rfl,rfl,bq (by rw [hnn];exact eg),rfl,trivial⟩ (qq5 _) rfl rfl) ?_;refine av.loop (fun k:Nat=>k≤s.needs.length) (fun k=>⟨aZ [(0,.oq u),(1,.pt (ay s) 0),(2,.pt [.sl (p.map aD) full] 0),(3,.pt [kO f] 0),(5,.ptr 0 0 0),(8,aC (m:Nat)),(9,aC (d:Nat)),(29,aC s.days),(30,aC (d:Nat)),(36,aC nn),(37,aC (k:Nat))],[.cells (od fun n=>if n < k then qf s p f n d else Gt s p f n d) 0 0],J d,false,0⟩) (fun k=>s.needs.length - k) ?_ 0 (qq5 _);intro k hk;by_cases hlt:k < s.needs.length
  ·have d2:decide ((k:Int) < nn)=true:=decide_eq_true (by omega);have hk3:k < 3:=by omega
   cases d with
   | zero =>
    have d3:decide ((0:Int) < ((0:Nat):Int))=false:=by decide
    have e:(od fun n=>if n < k then qf s p f n 0 else Gt s p f n 0)=od fun n=>if n < k+1 then qf s p f n 0 else Gt s p f n 0:=ir fun n _=>by show (if n < k then jD s n else jD s n)=if n < k+1 then jD s n else jD s n;rw [ite_self,ite_self]
    rw [e];refine qq1 ?_;repeat' first|refine u1 ?_|refine u2 ?_|fail
    exact ⟨k+1,hlt,(by dsimp only;omega),ah.to 1 rfl ⟨rfl,rfl,rfl,rfl,rfl,rfl,rfl,rfl,rfl,rfl,bq (by simp),trivial⟩ (qq5 _) rfl rfl⟩
   | succ d =>
    have d3:decide ((0:Int) < ((d+1:Nat):Int))=true:=decide_eq_true (by omega);have hb:=LK hg p f k d;have hln:=Br (fun n=>if n < k then qf s p f n (d+1) else Gt s p f n (d+1)) hk3;have hat4:(od fun n=>if n < k then qf s p f n (d+1) else Gt s p f n (d+1))[0+((k:Nat):Int).toNat * 1]?=some (aC (nG s p f k d)):=by rw [Np _ hk3,if_neg (Nat.lt_irrefl _)];rfl
    have hst:=xd (c:=fun n=>if n < k then qf s p f n (d+1) else Gt s p f n (d+1)) (c':=fun n=>if n < k+1 then qf s p f n (d+1) else Gt s p f n (d+1)) (v:=max 0 (nG s p f k d - 1)) hk3 (fun n hn=>by
     by_cases e:n=k
     ·subst e;rw [if_pos rfl,if_pos (by omega)];rfl
     ·rw [if_neg e];by_cases e2:n < k
      ·rw [if_pos e2,if_pos (by omega)]
      ·rw [if_neg e2,if_neg (by omega)])
    generalize nG s p f k d=v at *
    refine qq1 ?_;repeat' first|((with_reducible show RM.wpOp _ _ (.load _ _) _ _ _);refine RM.MA rfl rfl rfl hat4 ?_)|((with_reducible show di _ _ _ _ _ _);refine RM.O5 rfl rfl rfl rfl rfl rfl hln ?_)|refine u1 ?_|refine u2 ?_|fail
    exact ⟨k+1,hlt,(by dsimp only;omega),ah.to 1 (congrArg (fun l=>[AB.cells l 0 0]) hst) ⟨rfl,rfl,rfl,rfl,rfl,rfl,rfl,rfl,rfl,rfl,bq (by simp),trivial⟩ (qq5 _) rfl rfl⟩
  have d2:decide ((k:Int) < nn)=false:=decide_eq_false (by omega)
  have hdn:(od fun n=>if n < k then qf s p f n d else Gt s p f n d)=od fun n=>qf s p f n d:=ir fun n _=>by
   by_cases e:n < k
   ·rw [if_pos e]
   ·rw [if_neg e,(Dh p f n d (by omega)).1,(Dh p f n d (by omega)).2]
  rw [hdn];clear hdn;have hdt:d < s.days.toNat:=by omega
  have hyx:=hy d _ (Df hdt);by_cases hm:m < p.length
  ·have d3:decide ((m:Int) < ((p.map aD).length:Int))=true:=decide_eq_true (by omega);have hat:(p.map aD)[((m:Nat):Int).toNat]?=some (aD p[m]):=bp hm;by_cases hday:p[m].day=(d:Int)
   ·have hbr:=fun n=>SK hp ha hm hday f n;have ha':=LL hp ha hm hday;have hor:=hp.order _ (List.getElem_mem hm);have d4:=decide_eq_true hday
    generalize p[m]=o at *
    have ec:((ints o.bw).length:Int)=o.bw.length:=by simp
    obtain ⟨cl,hcl⟩:∃ n:Int,n=o.bw.length:=⟨_,rfl⟩;have hc3:=hor.len;refine qq1 ?_;repeat' first|refine u1 ?_|((with_reducible refine qq4 ?_);refine ⟨aD o,⟨by omega,hat⟩,rfl,?_⟩)|refine u2 ?_|fail
    have h60:(od fun n=>qf s p f n d)=od fun n=>if (!f.testBit m && hasB (o.bw.take 0) (n:Int))=true then jE s n else qf s p f n d:=ir fun n _=>by rw [if_neg (by simp [hasB])]
    refine av.aJ (ah.to (l:=[(0,.oq u),(1,.pt (ay s) 0),(2,.pt [.sl (p.map aD) full] 0),(3,.pt [kO f] 0),(5,.ptr 0 0 0),(8,aC (m:Nat)),(9,aC (d:Nat)),(29,aC s.days),(30,aC (d:Nat)),(67,.sl (ints o.bw) false),(68,aC cl),(69,aC (0:Nat))]) (hp:=[.cells (od fun n=>if (!f.testBit m && hasB (o.bw.take 0) (n:Int))=true then jE s n else qf s p f n d) 0 0]) 1 (congrArg (fun l=>[AB.cells l 0 0]) h60) ⟨rfl,rfl,rfl,rfl,rfl,rfl,rfl,rfl,rfl,rfl,bq (by rw [hcl];exact ec),rfl,trivial⟩ (qq5 _) rfl rfl) ?_;refine av.loop (fun j:Nat=>j≤o.bw.length) (fun j=>⟨aZ [(0,.oq u),(1,.pt (ay s) 0),(2,.pt [.sl (p.map aD) full] 0),(3,.pt [kO f] 0),(5,.ptr 0 0 0),(8,aC (m:Nat)),(9,aC (d:Nat)),(29,aC s.days),(30,aC (d:Nat)),(67,.sl (ints o.bw) false),(68,aC cl),(69,aC (j:Nat))],[.cells (od fun n=>if (!f.testBit m && hasB (o.bw.take j) (n:Int))=true then jE s n else qf s p f n d) 0 0],J d,false,0⟩) (fun j=>o.bw.length - j) ?_ 0 (qq5 _);intro j hj;by_cases hjl:j < o.bw.length
    ·have d5:decide ((j:Int) < cl)=true:=decide_eq_true (by omega);have hct:(ints o.bw)[((j:Nat):Int).toNat]?=some (eI o.bw[j]):=bp hjl;have hx:=hor.bw _ (List.getElem_mem hjl);have htk:∀ n:Int,hasB (o.bw.take (j+1)) n=(hasB (o.bw.take j) n || decide (o.bw[j]=n)):=fun n=>by unfold hasB;rw [List.take_add_one,List.getElem?_eq_getElem hjl,List.any_append];simp
     obtain ⟨q,hq⟩:∃ q:Nat,o.bw[j]=(q:Int):=⟨o.bw[j].toNat,by omega⟩;rw [hq] at hct hx htk;have hq3:q < 3:=by omega
     obtain ⟨nd,n1,n2,_⟩:=Bp hx;have hm8:m < 8:=by omega
     have hbit:f / 2 ^ m % 2=if f.testBit m=true then 1 else 0:=by
      rw [Nat.testBit_eq_decide_div_mod_eq];have:=Nat.mod_two_eq_zero_or_one (f / 2 ^ m)
      rcases this with e|e <;> rw [e] <;> simp
     have hfm:f / 2 ^ m < 18446744073709551616:=Nat.lt_of_le_of_lt (Nat.div_le_self _ _) hf
     cases hfb:f.testBit m with
     | true =>
      rw [hfb,if_pos rfl] at hbit;have d6:decide (((f / 2 ^ m % 2:Nat):Int)=0)=false:=decide_eq_false (by rw [hbit];decide);refine qq1 ?_;repeat' first|((with_reducible show bk _ _ _ _ _ _ _ _ _);refine RM.w9 rfl rfl hm8 ?_)|((with_reducible show bk _ _ _ _ _ _ _ _ _);refine RM.qY rfl rfl hfm ?_)|((with_reducible show bk _ _ _ _ _ _ _ _ _);refine RM.EY rfl rfl ?_)|refine u1 ?_|((with_reducible refine qq4 ?_);refine ⟨eI (q:Int),⟨by omega,hct⟩,rfl,?_⟩)|refine u2 ?_|fail
      exact ⟨j+1,hjl,(by dsimp only;omega),ah.to 1 rfl ⟨rfl,rfl,rfl,rfl,rfl,rfl,rfl,rfl,rfl,rfl,rfl,bq (by simp),trivial⟩ (qq5 _) rfl rfl⟩
     | false =>
      rw [hfb,if_neg (by simp)] at hbit;have d6:decide (((f / 2 ^ m % 2:Nat):Int)=0)=true:=decide_eq_true (by rw [hbit];decide);have hln:=Br (fun n=>if (!false && hasB (o.bw.take j) (n:Int))=true then jE s n else qf s p f n d) hq3
      have hst:=xd (c:=fun n=>if (!false && hasB (o.bw.take j) (n:Int))=true then jE s n else qf s p f n d) (c':=fun n=>if (!false && hasB (o.bw.take (j+1)) (n:Int))=true then jE s n else qf s p f n d) (v:=nd.full) hq3 (fun n hn=>by
       rw [htk];by_cases e:n=q
       ·subst e;rw [if_pos rfl,if_pos (by simp)];unfold jE;rw [Int.toNat_natCast] at n1;rw [n1]
       ·rw [if_neg e,show decide ((q:Int)=(n:Int))=false from decide_eq_false (by omega),Bool.or_false])
      refine qq1 ?_;repeat' first|((with_reducible show bk _ _ _ _ _ _ _ _ _);refine RM.w9 rfl rfl hm8 ?_)|((with_reducible show bk _ _ _ _ _ _ _ _ _);refine RM.qY rfl rfl hfm ?_)|((with_reducible show bk _ _ _ _ _ _ _ _ _);refine RM.EY rfl rfl ?_)|((with_reducible show di _ _ _ _ _ _);refine RM.O5 rfl rfl rfl rfl rfl rfl hln ?_)|refine u1 ?_|((with_reducible refine qq4 ?_);refine ⟨eI (q:Int),⟨by omega,hct⟩,rfl,?_⟩)|((with_reducible refine qq4 ?_);refine ⟨aQ nd,⟨by omega,n2⟩,rfl,?_⟩)|refine u2 ?_|fail
      exact ⟨j+1,hjl,(by dsimp only;omega),ah.to 1 (congrArg (fun l=>[AB.cells l 0 0]) hst) ⟨rfl,rfl,rfl,rfl,rfl,rfl,rfl,rfl,rfl,rfl,rfl,bq (by simp),trivial⟩ (qq5 _) rfl rfl⟩
    have d5:decide ((j:Int) < cl)=false:=decide_eq_false (by omega)
    have hcan:(od fun n=>if (!f.testBit m && hasB (o.bw.take j) (n:Int))=true then jE s n else qf s p f n d)=od fun n=>nG s p f n d:=ir fun n _=>by
     rw [List.take_of_length_le (by omega)];by_cases e:n < s.needs.length
     ·rw [Bq e,hbr n]
     ·rw [E9 p f n d e,if_neg,(Dh p f n d e).1];rw [qq7,fM];rintro ⟨_,h2⟩;have:=hor.bw _ h2;omega
    rw [hcan];clear hcan;refine qq1 ?_;repeat' first|refine u1 ?_|((with_reducible refine qq4 ?_);refine ⟨aD o,⟨by omega,hat⟩,rfl,?_⟩)|refine u2 ?_|fail
    refine az.mono (hyx _) (fun a hp' amb' hq=>?_);obtain ⟨rfl,b,rfl,hb⟩:=hq
    rcases hb with ⟨rfl,rfl⟩|⟨rfl,hstop⟩
    ·repeat' first|refine u1 ?_|refine u2 ?_|fail
     exact ⟨(d+1,m+1),⟨by dsimp only;omega,ha'⟩,(by dsimp only;omega),ah.to 1 rfl ⟨rfl,rfl,rfl,rfl,rfl,bq (by simp),rfl,bq (by simp),trivial⟩ (qq5 _) rfl rfl⟩
    ·repeat' first|refine u1 ?_|refine u2 ?_|fail
     exact Or.inr hstop
   ·have d4:=decide_eq_false hday;obtain ⟨hno,ha'⟩:(∀ n,LH p f n d=false)∧sK p (d+1) m:=⟨fun n=>(Gs hp ha (fun _=>hday) f n).1,(Gs hp ha (fun _=>hday) f 0).2⟩
    have hcan:(od fun n=>qf s p f n d)=od fun n=>nG s p f n d:=ir fun n _=>by
     by_cases e:n < s.needs.length
     ·rw [Bq e,hno n];rfl
     ·rw [E9 p f n d e,(Dh p f n d e).1]
    rw [hcan];clear hcan
    generalize p[m]=o at *
    refine qq1 ?_;repeat' first|refine u1 ?_|((with_reducible refine qq4 ?_);refine ⟨aD o,⟨by omega,hat⟩,rfl,?_⟩)|refine u2 ?_|fail
    refine az.mono (hyx _) (fun a hp' amb' hq=>?_);obtain ⟨rfl,b,rfl,hb⟩:=hq
    rcases hb with ⟨rfl,rfl⟩|⟨rfl,hstop⟩
    ·repeat' first|refine u1 ?_|refine u2 ?_|fail
     exact ⟨(d+1,m),⟨by dsimp only;omega,ha'⟩,(by dsimp only;omega),ah.to 1 rfl ⟨rfl,rfl,rfl,rfl,rfl,bq (by simp),rfl,bq (by simp),trivial⟩ (qq5 _) rfl rfl⟩
    ·repeat' first|refine u1 ?_|refine u2 ?_|fail
     exact Or.inr hstop
  ·have d3:decide ((m:Int) < ((p.map aD).length:Int))=false:=decide_eq_false (by omega);obtain ⟨hno,ha'⟩:(∀ n,LH p f n d=false)∧sK p (d+1) m:=⟨fun n=>(Gs hp ha (fun h=>absurd h hm) f n).1,(Gs hp ha (fun h=>absurd h hm) f 0).2⟩
   have hcan:(od fun n=>qf s p f n d)=od fun n=>nG s p f n d:=ir fun n _=>by
    by_cases e:n < s.needs.length
    ·rw [Bq e,hno n];rfl
    ·rw [E9 p f n d e,(Dh p f n d e).1]
   rw [hcan];clear hcan;refine qq1 ?_;repeat' first|refine u1 ?_|((with_reducible refine qq4 ?_);refine ⟨aD o,⟨by omega,hat⟩,rfl,?_⟩)|refine u2 ?_|fail
   refine az.mono (hyx _) (fun a hp' amb' hq=>?_);obtain ⟨rfl,b,rfl,hb⟩:=hq
   rcases hb with ⟨rfl,rfl⟩|⟨rfl,hstop⟩
   ·repeat' first|refine u1 ?_|refine u2 ?_|fail
    exact ⟨(d+1,m),⟨by dsimp only;omega,ha'⟩,(by dsimp only;omega),ah.to 1 rfl ⟨rfl,rfl,rfl,rfl,rfl,bq (by simp),rfl,bq (by simp),trivial⟩ (qq5 _) rfl rfl⟩
   ·repeat' first|refine u1 ?_|refine u2 ?_|fail
    exact Or.inr hstop
 ·have d1:=decide_eq_false hdl;have hde:d=s.days.toNat:=by omega
  subst hde;repeat' first|refine u1 ?_|refine u2 ?_|fail
  exact Or.inl rfl
