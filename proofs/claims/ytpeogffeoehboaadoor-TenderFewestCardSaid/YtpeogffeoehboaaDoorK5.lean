/-
  Contracts of the program's functions and of the document's. Lemmas alone; their conditions stand in them.
-/
import Derived.Test.YtpeogffeoehboaaDoorA2
import Derived.Test.YtpeogffeoehboaaDoorK4
namespace Go.TeLaw
def sH (R:Nat):Nat→Nat→Nat→List (List Bool)
 | 0,_,_=>[[]]
 | n+1,row,left=>(sH R n 0 left).map (false :: ·)++(if left=0∨R≤row then [] else (sH R n (row+1) (left - 1)).map (true :: ·))
def sI (R:Nat):Nat→List Bool→Bool
 | _,[]=>true
 | _,false :: l=>sI R 0 l
 | row,true :: l=>decide (row < R) && sI R (row+1) l
def cnt:List Bool→Nat
 | []=>0
 | false :: l=>cnt l
 | true :: l=>cnt l+1
theorem gA {R:Nat}:∀ {n row left:Nat} {b:List Bool},b ∈ sH R n row left ↔ (b.length=n∧cnt b≤left∧sI R row b=true)
 | 0,row,left,b=>by
  unfold sH
  rw [List.mem_singleton]
  constructor
  ·rintro rfl;exact ⟨rfl,Nat.zero_le _,rfl⟩
  ·rintro ⟨h,_⟩;exact List.length_eq_zero_iff.1 h
 | n+1,row,left,b=>by
  unfold sH
  rw [List.mem_append]
  constructor
  ·rintro (h|h)
   ·obtain ⟨c,hc,rfl⟩:=List.mem_map.1 h
    obtain ⟨h1,h2,h3⟩:=gA.1 hc
    exact ⟨by rw [List.length_cons,h1],h2,h3⟩
   ·split at h
    ·cases h
    ·rename_i hn
     obtain ⟨c,hc,rfl⟩:=List.mem_map.1 h
     obtain ⟨h1,h2,h3⟩:=gA.1 hc
     refine ⟨by rw [List.length_cons,h1],by unfold cnt;omega,?_⟩
     unfold sI
     rw [h3,decide_eq_true (by omega)]
     rfl
  ·rintro ⟨h1,h2,h3⟩
   match b,h1 with
   | false :: c,h1 =>
    exact .inl (List.mem_map.2 ⟨c,gA.2 ⟨by simpa using h1,h2,h3⟩,rfl⟩)
   | true :: c,h1 =>
    unfold cnt at h2
    unfold sI at h3
    rw [Bool.and_eq_true,decide_eq_true_eq] at h3
    right
    rw [if_neg (by omega)]
    exact List.mem_map.2 ⟨c,gA.2 ⟨by simpa using h1,by omega,h3.2⟩,rfl⟩
def sub:List Bool→List Bool→Bool
 | [],[]=>true
 | a :: l,b :: m=>(!a || b) && sub l m
 | _,_=>false
def BJ (full first:Int) (br:Nat→Bool):Nat→Int
 | 0=>if br 0 then full else first
 | d+1=>if br (d+1) then full else max 0 (BJ full first br d - 1)
theorem Dh {full first:Int} (h:first≤full) (h0:0≤full) (br:Nat→Bool):∀ d,BJ full first br d≤full
 | 0=>by unfold BJ;split <;> omega
 | d+1=>by have:=Dh h h0 br d;unfold BJ;split <;> omega
theorem Og {full first:Int} (h:0≤first) (h0:0≤full) (br:Nat→Bool):∀ d,0≤BJ full first br d
 | 0=>by unfold BJ;split <;> omega
 | d+1=>by unfold BJ;split <;> omega
theorem BK {full first:Int} (h:first≤full) (h0:0≤full) {br br':Nat→Bool} (hb:∀ d,br d=true→br' d=true):∀ d,BJ full first br d≤BJ full first br' d
 | 0=>by
  unfold BJ
  cases h1:br 0 with
  | true=>rw [hb 0 h1];exact Int.le_refl _
  | false=>rw [if_neg (by simp)];split <;> omega
 | d+1=>by
  have ih:=BK h h0 hb d
  have hl:=Dh h h0 br d
  unfold BJ
  cases h1:br (d+1) with
  | true=>rw [hb _ h1];exact Int.le_refl _
  | false=>rw [if_neg (by simp)];split <;> omega
theorem xQ {full first:Int} {br br':Nat→Bool}:∀ d,(∀ i,i≤d→br i=br' i)→BJ full first br d=BJ full first br' d
 | 0,h=>by unfold BJ;rw [h 0 (Nat.le_refl _)]
 | d+1,h=>by
  have ih:=xQ (full:=full) (first:=first) d (fun i hi=>h i (by omega))
  unfold BJ
  rw [h _ (Nat.le_refl _),ih]
end Go.TeLaw
open Go Go.RM
namespace Go.Proofs.YtpeogffeoehboaaDoor
set_option maxRecDepth 100000
def jS (s:ai) (n:Nat):Int:=match s.needs[n]? with
 | some x=>x.first
 | none=>0
def jL (s:ai) (n:Nat):Int:=match s.needs[n]? with
 | some x=>x.full
 | none=>0
def Di (p:List Order) (f n d:Nat):Bool:=(List.range p.length).any fun i=>match p[i]? with
 | some o=>decide (o.day=(d:Int)) && !f.testBit i && hasB o.aG (n:Int)
 | none=>false
theorem qB {p:List Order} {f n d:Nat}:Di p f n d=true ↔ ∃ i,∃ h:i < p.length,p[i].day=(d:Int)∧f.testBit i=false∧(n:Int) ∈ p[i].aG:=by
 unfold Di
 rw [List.any_eq_true]
 constructor
 ·rintro ⟨i,hi,h⟩
  have hi:=List.mem_range.1 hi
  rw [List.getElem?_eq_getElem hi] at h
  simp only [Bool.and_eq_true,decide_eq_true_eq,Bool.not_eq_true',jK] at h
  exact ⟨i,hi,h.1.1,h.1.2,h.2⟩
 ·rintro ⟨i,hi,h1,h2,h3⟩
  refine ⟨i,List.mem_range.2 hi,?_⟩
  rw [List.getElem?_eq_getElem hi]
  simp only [Bool.and_eq_true,decide_eq_true_eq,Bool.not_eq_true',jK]
  exact ⟨⟨h1,h2⟩,h3⟩
def kC (s:ai) (p:List Order) (f n d:Nat):Int:=if n < s.needs.length then TeLaw.BJ (jL s n) (jS s n) (Di p f n) d else 0
def vw (s:ai) (p:List Order) (f n:Nat):Nat→Int
 | 0=>jS s n
 | d+1=>max 0 (kC s p f n d - 1)
theorem Dj {s:ai} {p:List Order} {f n d:Nat} (h:n < s.needs.length):kC s p f n d=if Di p f n d=true then jL s n else vw s p f n d:=by
 unfold kC
 rw [if_pos h]
 cases d with
 | zero=>rfl
 | succ d =>
  have e:vw s p f n (d+1)=max 0 (TeLaw.BJ (jL s n) (jS s n) (Di p f n) d - 1):=by
   show max 0 (kC s p f n d - 1)=_
   unfold kC
   rw [if_pos h]
  rw [e]
  rfl
theorem vz {s:ai} {n:Nat} (h:¬ n < s.needs.length):jS s n=0:=by unfold jS;rw [List.getElem?_eq_none (by omega)]
theorem Dk {s:ai} (hg:Good s) {n:Nat} (h:n < s.needs.length):1≤jL s n∧jL s n≤60:=by
 unfold jL
 rw [List.getElem?_eq_getElem h]
 exact (hg.needs _ (List.getElem_mem h)).2.1
theorem Ju {s:ai} (hg:Good s) {n:Nat} (h:n < s.needs.length):0≤jS s n∧jS s n≤jL s n:=by
 unfold jS jL
 rw [List.getElem?_eq_getElem h]
 exact (hg.needs _ (List.getElem_mem h)).2.2.1
theorem MD {s:ai} (hg:Good s) (p:List Order) (f n d:Nat):0≤kC s p f n d∧kC s p f n d≤60:=by
 unfold kC
 split
 ·rename_i h
  have h1:=Dk hg h
  have h2:=Ju hg h
  have h3:=TeLaw.Dh (full:=jL s n) (first:=jS s n) h2.2 (by omega) (Di p f n) d
  have h4:=TeLaw.Og (full:=jL s n) (first:=jS s n) h2.1 (by omega) (Di p f n) d
  omega
 ·omega
def qC (p:List Order) (d m:Nat):Prop:=m≤p.length∧(∀ i (h:i < p.length),i < m→p[i].day < (d:Int))∧∀ i (h:i < p.length),m≤i→(d:Int)≤p[i].day
theorem Qn {s:ai} {p:List Order} (hp:kB s p) {d m:Nat} (ha:qC p d m) (hm:m < p.length) (hd:p[m].day=(d:Int)) (f n:Nat):Di p f n d=(!f.testBit m && hasB p[m].aG (n:Int)):=by
 rw [Bool.eq_iff_iff,qB,Bool.and_eq_true,Bool.not_eq_true',jK]
 constructor
 ·rintro ⟨i,hi,h1,h2,h3⟩
  have:i=m:=by
   rcases Nat.lt_trichotomy i m with h|h|h
   ·have:=ha.2.1 i hi h;omega
   ·exact h
   ·have:=hp.Df m i hm hi h;omega
  subst this
  exact ⟨h2,h3⟩
 ·rintro ⟨h2,h3⟩
  exact ⟨m,hm,hd,h2,h3⟩
theorem Jv {s:ai} {p:List Order} (hp:kB s p) {d m:Nat} (ha:qC p d m) (hm:m < p.length) (hd:p[m].day=(d:Int)):qC p (d+1) (m+1):=by
 refine ⟨hm,fun i h hi=>?_,fun i h hi=>?_⟩
 ·by_cases e:i=m
  ·subst e;omega
  ·have:=ha.2.1 i h (by omega);omega
 ·have:=hp.Df m i hm h (by omega);omega
theorem Ey {s:ai} {p:List Order} (hp:kB s p) {d m:Nat} (ha:qC p d m) (hd:∀ h:m < p.length,p[m].day ≠ (d:Int)) (f n:Nat):Di p f n d=false∧qC p (d+1) m:=by
 have key:∀ i (h:i < p.length),m≤i→(d:Int) < p[i].day:=fun i h hi=>by
  by_cases e:i=m
  ·subst e
   have:=ha.2.2 i h hi
   have:=hd h
   omega
  ·have h1:=hp.Df m i (by omega) h (by omega)
   have h2:=ha.2.2 m (by omega) (Nat.le_refl _)
   omega
 refine ⟨?_,ha.1,fun i h hi=>?_,fun i h hi=>?_⟩
 ·rw [←Bool.not_eq_true,qB]
  rintro ⟨i,hi,h1,_⟩
  by_cases e:i < m
  ·have:=ha.2.1 i hi e;omega
  ·have:=key i hi (by omega);omega
 ·have:=ha.2.1 i h hi;omega
 ·have:=key i h hi;omega
theorem Dl {s:ai} {p:List Order} (hp:kB s p):qC p 0 0:=⟨Nat.zero_le _,fun _ _ hi=>absurd hi (Nat.not_lt_zero _),fun _ h _=>(hp.order _ (List.getElem_mem h)).day.1⟩
abbrev mI (c:Nat→Int):List AV:=[aC (c 0),aC (c 1),aC (c 2)]
theorem KQ (c:Nat→Int) (v:Int):∀ {i:Nat},i < 3→cN (mI c) [aC v] i=mI (fun n=>if n=i then v else c n)
 | 0,_=>rfl
 | 1,_=>rfl
 | 2,_=>rfl
theorem Oh (c:Nat→Int):∀ {i:Nat},i < 3→(mI c)[i]?=some (aC (c i))
 | 0,_=>rfl
 | 1,_=>rfl
 | 2,_=>rfl
theorem gB {c c':Nat→Int} (h:∀ n,n < 3→c n=c' n):mI c=mI c':=by unfold mI;rw [h 0 (by decide),h 1 (by decide),h 2 (by decide)]
abbrev Q5 (s:ai) (p:List Order) (f d:Nat):AV:=.ag (mI fun n=>kC s p f n d)
def xR (s:ai) (p:List Order) (f:Nat):List (List AV):=(List.range s.days.toNat).map fun d=>[aC (d:Nat),Q5 s p f d]
theorem rN {s:ai} {p:List Order} {f:Nat}:(xR s p f).length=s.days.toNat:=by simp [xR]
theorem BL {s:ai} {p:List Order} {f i:Nat} (h:i < s.days.toNat):(xR s p f)[i]?=some [aC (i:Nat),Q5 s p f i]:=by
 unfold xR
 rw [List.getElem?_map,List.getElem?_range h]
 rfl
theorem BM {s:ai} {p:List Order} {f i:Nat} {x:List AV} (h:(xR s p f)[i]?=some x):i < s.days.toNat∧x=[aC (i:Nat),Q5 s p f i]:=by
 have hi:i < s.days.toNat:=by
  have:=(List.getElem?_eq_some_iff.1 h).1
  rw [rN] at this
  exact this
 rw [BL hi] at h
 exact ⟨hi,(Option.some.inj h).symm⟩
end Go.Proofs.YtpeogffeoehboaaDoor
open Go Go.RM
namespace Go.Proofs.YtpeogffeoehboaaDoor
set_option maxRecDepth 100000
set_option maxHeartbeats 4000000
abbrev ME (s:ai) (p:List Order) (full:Bool) (f:Nat):AV:=.fn 75 [] [.pt (ay s) 0,.pt [.sl (p.map az) full] 0,.pt [fU f] 0]
theorem Dm (one:Bool) (s:ai) (p:List Order) (full:Bool) (f:Nat):Pu one 50 [.ag (ay s),.sl (p.map az) full,fU f] (ME s p full f):=by
 refine ah.body (fn:=Tryd.f50) rfl rfl rfl rfl ?_
 refine aa (mu:=fun _=>false) ?_
 repeat' (first |refine u1 ?_ |refine u2 ?_ |fail)
 exact ⟨[_],⟨Fz.deep rfl,trivial⟩,rfl⟩
theorem vA {c c':Nat→Int} {v:Int} {i:Nat} (hi:i < 3) (h:∀ n,n < 3→(if n=i then v else c n)=c' n):cN (mI c) (AV.cells (aC v)) (0+((i:Nat):Int).toNat * 1)=mI c':=by
 rw [Int.toNat_natCast,Nat.mul_one,Nat.zero_add]
 exact (KQ c v hi).trans (gB h)
theorem KR (c:Nat→Int) {i:Nat} (hi:i < 3):(mI c)[0+((i:Nat):Int).toNat * 1]?=some (aC (c i)):=by
 rw [Int.toNat_natCast,Nat.mul_one,Nat.zero_add]
 exact Oh c hi
theorem zD (c:Nat→Int) {i:Nat} (hi:i < 3):Nat.ble (0+((i:Nat):Int).toNat * 1+1) (mI c).length=true:=by
 rw [Int.toNat_natCast,Nat.mul_one,Nat.zero_add]
 exact Nat.ble_eq_true_of_le (show i+1≤3 by omega)
def Ez (s:ai) (p:List Order) (f n:Nat):Nat→Int
 | 0=>jS s n
 | d+1=>kC s p f n d
theorem BN {s:ai} (p:List Order) (f n d:Nat) (h:¬ n < s.needs.length):vw s p f n d=0∧Ez s p f n d=0:=by
 cases d with
 | zero=>exact ⟨vz h,vz h⟩
 | succ d =>
  have e:kC s p f n d=0:=by unfold kC;rw [if_neg h]
  exact ⟨by show max 0 (kC s p f n d - 1)=0;rw [e];rfl,e⟩
theorem Dn {s:ai} (p:List Order) (f n d:Nat) (h:¬ n < s.needs.length):kC s p f n d=0:=by unfold kC;rw [if_neg h]
theorem Dp (one:Bool) {s:ai} {p:List Order} (hp:kB s p) (full:Bool) (f:Nat) (hf:f < 18446744073709551616):Bs TT TB one (ME s p full f) (xR s p f):=by
 have hg:=hp.good
 have hlen:=hg.len
 have hdays:=hg.days
 have p8:=hp.len
 have eg:((s.needs.map aR).length:Int)=s.needs.length:=by simp
 have ep:((p.map az).length:Int)=p.length:=by simp
 obtain ⟨nn,hnn⟩:∃ n:Int,n=s.needs.length:=⟨_,rfl⟩
 refine Bs.body (fn:=Tryd.f75) rfl rfl rfl rfl (fun x hx a ha=>?_) fun u J Stop hy=>?_
 ·obtain ⟨i,hi⟩:=List.mem_iff_getElem?.1 hx
  obtain ⟨_,rfl⟩:=BM hi
  simp only [List.mem_cons,List.not_mem_nil,or_false] at ha
  rcases ha with rfl|rfl
  ·exact fm.fl _
  ·exact fm.ag fun b hb=>by simp only [List.mem_cons,List.not_mem_nil,or_false] at hb;rcases hb with rfl|rfl|rfl <;> exact fm.fl _
 rw [rN]
 refine aa (mu:=fun _=>false) ?_
 repeat' (first |refine u1 ?_ |refine u2 ?_ |fail)
 refine aA.aU (ak.to (l:=[(0,.oq u),(1,.pt (ay s) 0),(2,.pt [.sl (p.map az) full] 0),(3,.pt [fU f] 0),(5,.ptr 0 0 0),(15,.sl (s.needs.map aR) false),(16,aC nn),(17,aC (0:Nat))]) (hp:=[.cells (mI fun n=>if n < 0 then jS s n else 0) 0 0]) 1 rfl ⟨rfl,rfl,rfl,rfl,rfl,rfl,bM (by rw [hnn];exact eg),rfl,trivial⟩ (Nat.zero_le _) rfl rfl) ?_
 refine aA.loop (fun k:Nat=>k≤s.needs.length) (fun k=>⟨bu [(0,.oq u),(1,.pt (ay s) 0),(2,.pt [.sl (p.map az) full] 0),(3,.pt [fU f] 0),(5,.ptr 0 0 0),(15,.sl (s.needs.map aR) false),(16,aC nn),(17,aC (k:Nat))],[.cells (mI fun n=>if n < k then jS s n else 0) 0 0],J 0,false,0⟩) (fun k=>s.needs.length - k) ?_ 0 (Nat.zero_le _)
 intro k hk
 refine aa (mu:=fun _=>false) ?_
 by_cases hlt:k < s.needs.length
 ·have d1:decide ((k:Int) < nn)=true:=decide_eq_true (by omega)
  have hat:(s.needs.map aR)[((k:Nat):Int).toNat]?=some (aR s.needs[k]):=bY hlt
  have hk3:k < 3:=by omega
  have hln:=zD (fun n=>if n < k then jS s n else 0) hk3
  have hst:=vA (c:=fun n=>if n < k then jS s n else 0) (c':=fun n=>if n < k+1 then jS s n else 0) (v:=s.needs[k].first) hk3 (fun n hn=>by
   by_cases e:n=k
   ·rw [if_pos e,if_pos (by omega),e]
    unfold jS
    rw [List.getElem?_eq_getElem hlt]
   ·rw [if_neg e]
    by_cases e2:n < k
    ·rw [if_pos e2,if_pos (by omega)]
    ·rw [if_neg e2,if_neg (by omega)])
  generalize s.needs[k]=g at *
  repeat' (first |((with_reducible show cG _ _ _ _ _ _);refine RM.Mw rfl rfl rfl rfl rfl rfl hln ?_) |refine u1 ?_ |((with_reducible show RM.wpOp _ _ (.indexAddr _ _ _) _ _ _);refine ⟨aR g,⟨by omega,hat⟩,rfl,?_⟩) |refine u2 ?_ |fail)
  exact ⟨k+1,hlt,(by dsimp only;omega),ak.to 1 (congrArg (fun l=>[AB.cells l 0 0]) hst) ⟨rfl,rfl,rfl,rfl,rfl,rfl,rfl,bM (by simp),trivial⟩ (Nat.zero_le _) rfl rfl⟩
 have d1:decide ((k:Int) < nn)=false:=decide_eq_false (by omega)
 have hall:(mI fun n=>if n < k then jS s n else 0)=mI fun n=>Ez s p f n 0:=gB fun n _=>by
  by_cases e:n < k
  ·rw [if_pos e];rfl
  ·rw [if_neg e];exact (vz (by omega)).symm
 rw [hall]
 clear hall
 repeat' (first |refine u1 ?_ |refine u2 ?_ |fail)
 refine aA.aU (ak.to (l:=[(0,.oq u),(1,.pt (ay s) 0),(2,.pt [.sl (p.map az) full] 0),(3,.pt [fU f] 0),(5,.ptr 0 0 0),(8,aC ((0,0).2:Nat)),(29,aC s.days),(30,aC ((0,0).1:Nat))]) (hp:=[.cells (mI fun n=>Ez s p f n (0,0).1) 0 0]) 1 rfl ⟨rfl,rfl,rfl,rfl,rfl,rfl,rfl,rfl,trivial⟩ (Nat.zero_le _) rfl rfl) ?_
 refine aA.loop (fun x:Nat × Nat=>(x.1:Int)≤s.days∧qC p x.1 x.2) (fun x=>⟨bu [(0,.oq u),(1,.pt (ay s) 0),(2,.pt [.sl (p.map az) full] 0),(3,.pt [fU f] 0),(5,.ptr 0 0 0),(8,aC (x.2:Nat)),(29,aC s.days),(30,aC (x.1:Nat))],[.cells (mI fun n=>Ez s p f n x.1) 0 0],J x.1,false,0⟩) (fun x=>s.days.toNat - x.1) ?_ (0,0) ⟨by dsimp only;omega,Dl hp⟩
 rintro ⟨d,m⟩ ⟨hd,ha⟩
 dsimp only at hd ha
 show aA _ _ _ _ ⟨bu [(0,.oq u),(1,.pt (ay s) 0),(2,.pt [.sl (p.map az) full] 0),(3,.pt [fU f] 0),(5,.ptr 0 0 0),(8,aC ((d,m).2:Nat)),(29,aC s.days),(30,aC ((d,m).1:Nat))],[.cells (mI fun n=>Ez s p f n (d,m).1) 0 0],J d,false,0⟩ _
 dsimp only
 refine aa (mu:=fun _=>false) ?_
 by_cases hdl:(d:Int) < s.days
 ·have d1:=decide_eq_true hdl
  have hmp:=ha.1
  repeat' (first |refine u1 ?_ |refine u2 ?_ |fail)
  refine aA.aU (ak.to (l:=[(0,.oq u),(1,.pt (ay s) 0),(2,.pt [.sl (p.map az) full] 0),(3,.pt [fU f] 0),(5,.ptr 0 0 0),(8,aC (m:Nat)),(9,aC (d:Nat)),(29,aC s.days),(30,aC (d:Nat)),(36,aC nn),(37,aC (0:Nat))]) (hp:=[.cells (mI fun n=>if n < 0 then vw s p f n d else Ez s p f n d) 0 0]) 1 rfl ⟨rfl,rfl,rfl,rfl,rfl,rfl,rfl,rfl,rfl,bM (by rw [hnn];exact eg),rfl,trivial⟩ (Nat.zero_le _) rfl rfl) ?_
  refine aA.loop (fun k:Nat=>k≤s.needs.length) (fun k=>⟨bu [(0,.oq u),(1,.pt (ay s) 0),(2,.pt [.sl (p.map az) full] 0),(3,.pt [fU f] 0),(5,.ptr 0 0 0),(8,aC (m:Nat)),(9,aC (d:Nat)),(29,aC s.days),(30,aC (d:Nat)),(36,aC nn),(37,aC (k:Nat))],[.cells (mI fun n=>if n < k then vw s p f n d else Ez s p f n d) 0 0],J d,false,0⟩) (fun k=>s.needs.length - k) ?_ 0 (Nat.zero_le _)
  intro k hk
  by_cases hlt:k < s.needs.length
  ·have d2:decide ((k:Int) < nn)=true:=decide_eq_true (by omega)
   have hk3:k < 3:=by omega
   cases d with
   | zero =>
    have d3:decide ((0:Int) < ((0:Nat):Int))=false:=by decide
    have e:(mI fun n=>if n < k then vw s p f n 0 else Ez s p f n 0)=mI fun n=>if n < k+1 then vw s p f n 0 else Ez s p f n 0:=gB fun n _=>by
     show (if n < k then jS s n else jS s n)=if n < k+1 then jS s n else jS s n
     rw [ite_self,ite_self]
    rw [e]
    refine aa (mu:=fun _=>false) ?_
    repeat' (first |refine u1 ?_ |refine u2 ?_ |fail)
    exact ⟨k+1,hlt,(by dsimp only;omega),ak.to 1 rfl ⟨rfl,rfl,rfl,rfl,rfl,rfl,rfl,rfl,rfl,rfl,bM (by simp),trivial⟩ (Nat.zero_le _) rfl rfl⟩
   | succ d =>
    have d3:decide ((0:Int) < ((d+1:Nat):Int))=true:=decide_eq_true (by omega)
    have hb:=MD hg p f k d
    have hln:=zD (fun n=>if n < k then vw s p f n (d+1) else Ez s p f n (d+1)) hk3
    have hat4:(mI fun n=>if n < k then vw s p f n (d+1) else Ez s p f n (d+1))[0+((k:Nat):Int).toNat * 1]?=some (aC (kC s p f k d)):=by
     rw [KR _ hk3,if_neg (Nat.lt_irrefl _)]
     rfl
    have hst:=vA (c:=fun n=>if n < k then vw s p f n (d+1) else Ez s p f n (d+1)) (c':=fun n=>if n < k+1 then vw s p f n (d+1) else Ez s p f n (d+1)) (v:=max 0 (kC s p f k d - 1)) hk3 (fun n hn=>by
     by_cases e:n=k
     ·subst e
      rw [if_pos rfl,if_pos (by omega)]
      rfl
     ·rw [if_neg e]
      by_cases e2:n < k
      ·rw [if_pos e2,if_pos (by omega)]
      ·rw [if_neg e2,if_neg (by omega)])
    generalize kC s p f k d=v at *
    refine aa (mu:=fun _=>false) ?_
    repeat' (first |((with_reducible show RM.wpOp _ _ (.load _ _) _ _ _);refine RM.KB rfl rfl rfl hat4 ?_) |((with_reducible show cG _ _ _ _ _ _);refine RM.Mw rfl rfl rfl rfl rfl rfl hln ?_) |refine u1 ?_ |refine u2 ?_ |fail)
    exact ⟨k+1,hlt,(by dsimp only;omega),ak.to 1 (congrArg (fun l=>[AB.cells l 0 0]) hst) ⟨rfl,rfl,rfl,rfl,rfl,rfl,rfl,rfl,rfl,rfl,bM (by simp),trivial⟩ (Nat.zero_le _) rfl rfl⟩
  have d2:decide ((k:Int) < nn)=false:=decide_eq_false (by omega)
  have hdn:(mI fun n=>if n < k then vw s p f n d else Ez s p f n d)=mI fun n=>vw s p f n d:=gB fun n _=>by
   by_cases e:n < k
   ·rw [if_pos e]
   ·rw [if_neg e,(BN p f n d (by omega)).1,(BN p f n d (by omega)).2]
  rw [hdn]
  clear hdn
  have hdt:d < s.days.toNat:=by omega
  have hyx:=hy d _ (BL hdt)
  by_cases hm:m < p.length
  ·have d3:decide ((m:Int) < ((p.map az).length:Int))=true:=decide_eq_true (by omega)
   have hat:(p.map az)[((m:Nat):Int).toNat]?=some (az p[m]):=bY hm
   by_cases hday:p[m].day=(d:Int)
   ·have hbr:=fun n=>Qn hp ha hm hday f n
    have ha':=Jv hp ha hm hday
    have hor:=hp.order _ (List.getElem_mem hm)
    have d4:=decide_eq_true hday
    generalize p[m]=o at *
    have ec:((ints o.aG).length:Int)=o.aG.length:=by simp
    obtain ⟨cl,hcl⟩:∃ n:Int,n=o.aG.length:=⟨_,rfl⟩
    have hc3:=hor.len
    refine aa (mu:=fun _=>false) ?_
    repeat' (first |refine u1 ?_ |((with_reducible show RM.wpOp _ _ (.indexAddr _ _ _) _ _ _);refine ⟨az o,⟨by omega,hat⟩,rfl,?_⟩) |refine u2 ?_ |fail)
    have h60:(mI fun n=>vw s p f n d)=mI fun n=>if (!f.testBit m && hasB (o.aG.take 0) (n:Int))=true then jL s n else vw s p f n d:=gB fun n _=>by
     rw [if_neg (by simp [hasB])]
    refine aA.aU (ak.to (l:=[(0,.oq u),(1,.pt (ay s) 0),(2,.pt [.sl (p.map az) full] 0),(3,.pt [fU f] 0),(5,.ptr 0 0 0),(8,aC (m:Nat)),(9,aC (d:Nat)),(29,aC s.days),(30,aC (d:Nat)),(67,.sl (ints o.aG) false),(68,aC cl),(69,aC (0:Nat))]) (hp:=[.cells (mI fun n=>if (!f.testBit m && hasB (o.aG.take 0) (n:Int))=true then jL s n else vw s p f n d) 0 0]) 1 (congrArg (fun l=>[AB.cells l 0 0]) h60) ⟨rfl,rfl,rfl,rfl,rfl,rfl,rfl,rfl,rfl,rfl,bM (by rw [hcl];exact ec),rfl,trivial⟩ (Nat.zero_le _) rfl rfl) ?_
    refine aA.loop (fun j:Nat=>j≤o.aG.length) (fun j=>⟨bu [(0,.oq u),(1,.pt (ay s) 0),(2,.pt [.sl (p.map az) full] 0),(3,.pt [fU f] 0),(5,.ptr 0 0 0),(8,aC (m:Nat)),(9,aC (d:Nat)),(29,aC s.days),(30,aC (d:Nat)),(67,.sl (ints o.aG) false),(68,aC cl),(69,aC (j:Nat))],[.cells (mI fun n=>if (!f.testBit m && hasB (o.aG.take j) (n:Int))=true then jL s n else vw s p f n d) 0 0],J d,false,0⟩) (fun j=>o.aG.length - j) ?_ 0 (Nat.zero_le _)
    intro j hj
    by_cases hjl:j < o.aG.length
    ·have d5:decide ((j:Int) < cl)=true:=decide_eq_true (by omega)
     have hct:(ints o.aG)[((j:Nat):Int).toNat]?=some (eI o.aG[j]):=bY hjl
     have hx:=hor.aG _ (List.getElem_mem hjl)
     have htk:∀ n:Int,hasB (o.aG.take (j+1)) n=(hasB (o.aG.take j) n || decide (o.aG[j]=n)):=fun n=>by
      unfold hasB
      rw [List.take_add_one,List.getElem?_eq_getElem hjl,List.any_append]
      simp
     obtain ⟨q,hq⟩:∃ q:Nat,o.aG[j]=(q:Int):=⟨o.aG[j].toNat,by omega⟩
     rw [hq] at hct hx htk
     have hq3:q < 3:=by omega
     obtain ⟨nd,n1,n2,_⟩:=zC hx
     have hm8:m < 8:=by omega
     have hbit:f / 2 ^ m % 2=if f.testBit m=true then 1 else 0:=by
      rw [Nat.testBit_eq_decide_div_mod_eq]
      have:=Nat.mod_two_eq_zero_or_one (f / 2 ^ m)
      rcases this with e|e <;> rw [e] <;> simp
     have hfm:f / 2 ^ m < 18446744073709551616:=Nat.lt_of_le_of_lt (Nat.div_le_self _ _) hf
     cases hfb:f.testBit m with
     | true =>
      rw [hfb,if_pos rfl] at hbit
      have d6:decide (((f / 2 ^ m % 2:Nat):Int)=0)=false:=decide_eq_false (by rw [hbit];decide)
      refine aa (mu:=fun _=>false) ?_
      repeat' (first |((with_reducible show aJ _ _ _ _ _ _ _ _ _);refine RM.vv rfl rfl hm8 ?_) |((with_reducible show aJ _ _ _ _ _ _ _ _ _);refine RM.pF rfl rfl hfm ?_) |((with_reducible show aJ _ _ _ _ _ _ _ _ _);refine RM.Dg rfl rfl ?_) |refine u1 ?_ |((with_reducible show RM.wpOp _ _ (.indexAddr _ _ _) _ _ _);refine ⟨eI (q:Int),⟨by omega,hct⟩,rfl,?_⟩) |refine u2 ?_ |fail)
      exact ⟨j+1,hjl,(by dsimp only;omega),ak.to 1 rfl ⟨rfl,rfl,rfl,rfl,rfl,rfl,rfl,rfl,rfl,rfl,rfl,bM (by simp),trivial⟩ (Nat.zero_le _) rfl rfl⟩
     | false =>
      rw [hfb,if_neg (by simp)] at hbit
      have d6:decide (((f / 2 ^ m % 2:Nat):Int)=0)=true:=decide_eq_true (by rw [hbit];decide)
      have hln:=zD (fun n=>if (!false && hasB (o.aG.take j) (n:Int))=true then jL s n else vw s p f n d) hq3
      have hst:=vA (c:=fun n=>if (!false && hasB (o.aG.take j) (n:Int))=true then jL s n else vw s p f n d) (c':=fun n=>if (!false && hasB (o.aG.take (j+1)) (n:Int))=true then jL s n else vw s p f n d) (v:=nd.full) hq3 (fun n hn=>by
       rw [htk]
       by_cases e:n=q
       ·subst e
        rw [if_pos rfl,if_pos (by simp)]
        unfold jL
        rw [Int.toNat_natCast] at n1
        rw [n1]
       ·rw [if_neg e,show decide ((q:Int)=(n:Int))=false from decide_eq_false (by omega),Bool.or_false])
      refine aa (mu:=fun _=>false) ?_
      repeat' (first |((with_reducible show aJ _ _ _ _ _ _ _ _ _);refine RM.vv rfl rfl hm8 ?_) |((with_reducible show aJ _ _ _ _ _ _ _ _ _);refine RM.pF rfl rfl hfm ?_) |((with_reducible show aJ _ _ _ _ _ _ _ _ _);refine RM.Dg rfl rfl ?_) |((with_reducible show cG _ _ _ _ _ _);refine RM.Mw rfl rfl rfl rfl rfl rfl hln ?_) |refine u1 ?_ |((with_reducible show RM.wpOp _ _ (.indexAddr _ _ _) _ _ _);refine ⟨eI (q:Int),⟨by omega,hct⟩,rfl,?_⟩) |((with_reducible show RM.wpOp _ _ (.indexAddr _ _ _) _ _ _);refine ⟨aR nd,⟨by omega,n2⟩,rfl,?_⟩) |refine u2 ?_ |fail)
      exact ⟨j+1,hjl,(by dsimp only;omega),ak.to 1 (congrArg (fun l=>[AB.cells l 0 0]) hst) ⟨rfl,rfl,rfl,rfl,rfl,rfl,rfl,rfl,rfl,rfl,rfl,bM (by simp),trivial⟩ (Nat.zero_le _) rfl rfl⟩
    have d5:decide ((j:Int) < cl)=false:=decide_eq_false (by omega)
    have hcan:(mI fun n=>if (!f.testBit m && hasB (o.aG.take j) (n:Int))=true then jL s n else vw s p f n d)=mI fun n=>kC s p f n d:=gB fun n _=>by
     rw [List.take_of_length_le (by omega)]
     by_cases e:n < s.needs.length
     ·rw [Dj e,hbr n]
     ·rw [Dn p f n d e,if_neg,(BN p f n d e).1]
      rw [Bool.and_eq_true,jK]
      rintro ⟨_,h2⟩
      have:=hor.aG _ h2
      omega
    rw [hcan]
    clear hcan
    refine aa (mu:=fun _=>false) ?_
    repeat' (first |refine u1 ?_ |((with_reducible show RM.wpOp _ _ (.indexAddr _ _ _) _ _ _);refine ⟨az o,⟨by omega,hat⟩,rfl,?_⟩) |refine u2 ?_ |fail)
    refine av.mono (hyx _) (fun a hp' amb' hq=>?_)
    obtain ⟨rfl,b,rfl,hb⟩:=hq
    rcases hb with ⟨rfl,rfl⟩|⟨rfl,hstop⟩
    ·repeat' (first |refine u1 ?_ |refine u2 ?_ |fail)
     exact ⟨(d+1,m+1),⟨by dsimp only;omega,ha'⟩,(by dsimp only;omega),ak.to 1 rfl ⟨rfl,rfl,rfl,rfl,rfl,bM (by simp),rfl,bM (by simp),trivial⟩ (Nat.zero_le _) rfl rfl⟩
    ·repeat' (first |refine u1 ?_ |refine u2 ?_ |fail)
     exact Or.inr hstop
   ·have d4:=decide_eq_false hday
    obtain ⟨hno,ha'⟩:(∀ n,Di p f n d=false)∧qC p (d+1) m:=⟨fun n=>(Ey hp ha (fun _=>hday) f n).1,(Ey hp ha (fun _=>hday) f 0).2⟩
    have hcan:(mI fun n=>vw s p f n d)=mI fun n=>kC s p f n d:=gB fun n _=>by
     by_cases e:n < s.needs.length
     ·rw [Dj e,hno n];rfl
     ·rw [Dn p f n d e,(BN p f n d e).1]
    rw [hcan]
    clear hcan
    generalize p[m]=o at *
    refine aa (mu:=fun _=>false) ?_
    repeat' (first |refine u1 ?_ |((with_reducible show RM.wpOp _ _ (.indexAddr _ _ _) _ _ _);refine ⟨az o,⟨by omega,hat⟩,rfl,?_⟩) |refine u2 ?_ |fail)
    refine av.mono (hyx _) (fun a hp' amb' hq=>?_)
    obtain ⟨rfl,b,rfl,hb⟩:=hq
    rcases hb with ⟨rfl,rfl⟩|⟨rfl,hstop⟩
    ·repeat' (first |refine u1 ?_ |refine u2 ?_ |fail)
     exact ⟨(d+1,m),⟨by dsimp only;omega,ha'⟩,(by dsimp only;omega),ak.to 1 rfl ⟨rfl,rfl,rfl,rfl,rfl,bM (by simp),rfl,bM (by simp),trivial⟩ (Nat.zero_le _) rfl rfl⟩
    ·repeat' (first |refine u1 ?_ |refine u2 ?_ |fail)
     exact Or.inr hstop
  ·have d3:decide ((m:Int) < ((p.map az).length:Int))=false:=decide_eq_false (by omega)
   obtain ⟨hno,ha'⟩:(∀ n,Di p f n d=false)∧qC p (d+1) m:=⟨fun n=>(Ey hp ha (fun h=>absurd h hm) f n).1,(Ey hp ha (fun h=>absurd h hm) f 0).2⟩
   have hcan:(mI fun n=>vw s p f n d)=mI fun n=>kC s p f n d:=gB fun n _=>by
    by_cases e:n < s.needs.length
    ·rw [Dj e,hno n];rfl
    ·rw [Dn p f n d e,(BN p f n d e).1]
   rw [hcan]
   clear hcan
   refine aa (mu:=fun _=>false) ?_
   repeat' (first |refine u1 ?_ |((with_reducible show RM.wpOp _ _ (.indexAddr _ _ _) _ _ _);refine ⟨az o,⟨by omega,hat⟩,rfl,?_⟩) |refine u2 ?_ |fail)
   refine av.mono (hyx _) (fun a hp' amb' hq=>?_)
   obtain ⟨rfl,b,rfl,hb⟩:=hq
   rcases hb with ⟨rfl,rfl⟩|⟨rfl,hstop⟩
   ·repeat' (first |refine u1 ?_ |refine u2 ?_ |fail)
    exact ⟨(d+1,m),⟨by dsimp only;omega,ha'⟩,(by dsimp only;omega),ak.to 1 rfl ⟨rfl,rfl,rfl,rfl,rfl,bM (by simp),rfl,bM (by simp),trivial⟩ (Nat.zero_le _) rfl rfl⟩
   ·repeat' (first |refine u1 ?_ |refine u2 ?_ |fail)
    exact Or.inr hstop
 ·have d1:=decide_eq_false hdl
  have hde:d=s.days.toNat:=by omega
  subst hde
  repeat' (first |refine u1 ?_ |refine u2 ?_ |fail)
  exact Or.inl rfl
end Go.Proofs.YtpeogffeoehboaaDoor
