/-
  Contracts of the program's functions and of the document's. Lemmas alone; their conditions stand in them.
-/
import Derived.Test.YtpeogffeoehboaaGreatDoorA3
import Derived.Test.YtpeogffeoehboaaGreatDoorK4
open Go Go.RM
namespace Go.Proofs.YtpeogffeoehboaaGreatDoor
set_option maxRecDepth 100000
set_option maxHeartbeats 4000000
abbrev fP (n:Nat):AV:=.fl (.int .u64 ((n:Nat):Int))
def aO (l:List Int):Nat:=l.foldl (fun f i=>f ||| 2 ^ i.toNat) 0
theorem vI:∀ (l:List Int) (a k:Nat),(l.foldl (fun f i=>f ||| 2 ^ i.toNat) a).testBit k=(a.testBit k || l.any fun i=>i.toNat == k)
 | [],a,k=>by simp
 | x :: l,a,k=>by
  rw [List.foldl_cons,vI l,Nat.testBit_or,Nat.testBit_two_pow,List.any_cons,Bool.or_assoc]
  congr 1
theorem jv {l:List Int} {n:Nat} (h:∀ x ∈ l,0≤x∧x < n) (k:Nat):(aO l).testBit k=hasB l (k:Int):=by
 unfold aO
 rw [vI,Nat.zero_testBit,Bool.false_or,Bool.eq_iff_iff,fu,List.any_eq_true]
 constructor
 ·rintro ⟨x,hx,hk⟩
  have:=h x hx
  have e:x.toNat=k:=by simpa using hk
  rw [show (k:Int)=x by omega]
  exact hx
 ·intro hk
  exact ⟨(k:Int),hk,by simp⟩
theorem Ja {l:List Int} {n:Nat} (h:∀ x ∈ l,0≤x∧x < n):aO l < 2 ^ n:=by
 apply Nat.lt_pow_two_of_testBit
 intro i hi
 rw [jv h,←Bool.not_eq_true,fu]
 intro hm
 have:=h _ hm
 omega
theorem NU (one:Bool) (a b:List Int) (f g:Bool) (_:a.length≤maxLen) (hb:b.length≤maxLen):Pu one 7 [.sl (a.map eI) f,.sl (b.map eI) g] (BB (decide (a=b))):=by
 have mb:b.length≤9223372036854775807:=Nat.le_trans hb (by simp [maxLen])
 have ea:((a.map eI).length:Int)=a.length:=by simp
 have eb:((b.map eI).length:Int)=b.length:=by simp
 by_cases hl:a.length=b.length
 ·have d0:(!decide (((a.map eI).length:Int)=((b.map eI).length:Int)))=false:=by rw [decide_eq_true (by rw [ea,eb,hl])];rfl
  refine ah.body (fn:=Tryz.f7) rfl rfl rfl rfl ?_
  refine aa (mu:=fun _=>false) ?_
  repeat' (first |refine u1 ?_ |refine u2 ?_ |fail)
  refine aB.aJ (ai.to (l:=[(0,.sl (a.map eI) f),(1,.sl (b.map eI) g),(5,aA (0:Nat))]) 0 rfl ⟨rfl,rfl,rfl,trivial⟩ (Nat.le_refl _) rfl rfl) ?_
  refine aB.loop (fun k:Nat=>k≤a.length∧∀ i (h:i < a.length),i < k→a[i]=b[i]) (fun k=>⟨aS [(0,.sl (a.map eI) f),(1,.sl (b.map eI) g),(5,aA (k:Nat))],[],bJ.none,false,0⟩) (fun k=>a.length - k) ?_ 0 ⟨Nat.zero_le _,fun i _ hi=>absurd hi (by omega)⟩
  intro k ⟨hk,hprev⟩
  refine aa (mu:=fun _=>false) ?_
  by_cases hlt:k < a.length
  ·have d1:decide ((k:Int) < ((a.map eI).length:Int))=true:=decide_eq_true (by omega)
   have hltb:k < b.length:=by omega
   have hat:(a.map eI)[((k:Nat):Int).toNat]?=some (eI a[k]):=bl hlt
   have hbt:(b.map eI)[((k:Nat):Int).toNat]?=some (eI b[k]):=bl hltb
   by_cases hx:a[k]=b[k]
   ·have hn:∀ i (h:i < a.length),i < k+1→a[i]=b[i]:=fun i hi hik=>by
     by_cases e:i=k
     ·subst e;exact hx
     ·exact hprev i hi (by omega)
    have d2:(!decide (a[k]=b[k]))=false:=by rw [decide_eq_true hx];rfl
    generalize a[k]=x at *
    generalize b[k]=y at *
    repeat' (first |refine u1 ?_ |((with_reducible show RM.wpOp _ _ (.indexAddr _ _ _) _ _ _);refine ⟨eI x,⟨by omega,hat⟩,rfl,?_⟩) |((with_reducible show RM.wpOp _ _ (.indexAddr _ _ _) _ _ _);refine ⟨eI y,⟨by omega,hbt⟩,rfl,?_⟩) |refine u2 ?_ |fail)
    exact ⟨k+1,⟨hlt,hn⟩,(by dsimp only;omega),ai.to 0 rfl ⟨rfl,rfl,aV (by simp),trivial⟩ (Nat.le_refl _) rfl rfl⟩
   ·have hne:decide (a=b)=false:=by
     rw [decide_eq_false_iff_not]
     rintro rfl
     exact hx rfl
    rw [hne]
    have d2:(!decide (a[k]=b[k]))=true:=by rw [decide_eq_false hx];rfl
    generalize a[k]=x at *
    generalize b[k]=y at *
    repeat' (first |refine u1 ?_ |((with_reducible show RM.wpOp _ _ (.indexAddr _ _ _) _ _ _);refine ⟨eI x,⟨by omega,hat⟩,rfl,?_⟩) |((with_reducible show RM.wpOp _ _ (.indexAddr _ _ _) _ _ _);refine ⟨eI y,⟨by omega,hbt⟩,rfl,?_⟩) |refine u2 ?_ |fail)
    exact ⟨[_],⟨Fz.deep rfl,trivial⟩,rfl⟩
  ·have d1:decide ((k:Int) < ((a.map eI).length:Int))=false:=decide_eq_false (by omega)
   have he:decide (a=b)=true:=decide_eq_true (List.ext_getElem hl fun i h1 _=>hprev i h1 (by omega))
   rw [he]
   repeat' (first |refine u1 ?_ |refine u2 ?_ |fail)
   exact ⟨[_],⟨Fz.deep rfl,trivial⟩,rfl⟩
 ·have d0:(!decide (((a.map eI).length:Int)=((b.map eI).length:Int)))=true:=by rw [decide_eq_false (by rw [ea,eb];omega)];rfl
  have hne:decide (a=b)=false:=by
   rw [decide_eq_false_iff_not]
   rintro rfl
   exact hl rfl
  rw [hne]
  refine ah.body (fn:=Tryz.f7) rfl rfl rfl rfl ?_
  refine aa (mu:=fun _=>false) ?_
  repeat' (first |refine u1 ?_ |refine u2 ?_ |fail)
  exact ⟨[_],⟨Fz.deep rfl,trivial⟩,rfl⟩
end Go.Proofs.YtpeogffeoehboaaGreatDoor
namespace Go.TeLaw
def oW (R:Nat):Nat→Nat→Nat→List (List Bool)
 | 0,_,_=>[[]]
 | n+1,row,left=>(oW R n 0 left).map (false :: ·)++(if left=0∨R≤row then [] else (oW R n (row+1) (left - 1)).map (true :: ·))
def mP (R:Nat):Nat→List Bool→Bool
 | _,[]=>true
 | _,false :: l=>mP R 0 l
 | row,true :: l=>decide (row < R) && mP R (row+1) l
def cnt:List Bool→Nat
 | []=>0
 | false :: l=>cnt l
 | true :: l=>cnt l+1
theorem gx {R:Nat}:∀ {n row left:Nat} {b:List Bool},b ∈ oW R n row left ↔ (b.length=n∧cnt b≤left∧mP R row b=true)
 | 0,row,left,b=>by
  unfold oW
  rw [List.mem_singleton]
  constructor
  ·rintro rfl;exact ⟨rfl,Nat.zero_le _,rfl⟩
  ·rintro ⟨h,_⟩;exact List.length_eq_zero_iff.1 h
 | n+1,row,left,b=>by
  unfold oW
  rw [List.mem_append]
  constructor
  ·rintro (h|h)
   ·obtain ⟨c,hc,rfl⟩:=List.mem_map.1 h
    obtain ⟨h1,h2,h3⟩:=gx.1 hc
    exact ⟨by rw [List.length_cons,h1],h2,h3⟩
   ·split at h
    ·cases h
    ·rename_i hn
     obtain ⟨c,hc,rfl⟩:=List.mem_map.1 h
     obtain ⟨h1,h2,h3⟩:=gx.1 hc
     refine ⟨by rw [List.length_cons,h1],by unfold cnt;omega,?_⟩
     unfold mP
     rw [h3,decide_eq_true (by omega)]
     rfl
  ·rintro ⟨h1,h2,h3⟩
   match b,h1 with
   | false :: c,h1 =>
    exact .inl (List.mem_map.2 ⟨c,gx.2 ⟨by simpa using h1,h2,h3⟩,rfl⟩)
   | true :: c,h1 =>
    unfold cnt at h2
    unfold mP at h3
    rw [Bool.and_eq_true,decide_eq_true_eq] at h3
    right
    rw [if_neg (by omega)]
    exact List.mem_map.2 ⟨c,gx.2 ⟨by simpa using h1,by omega,h3.2⟩,rfl⟩
def sub:List Bool→List Bool→Bool
 | [],[]=>true
 | a :: l,b :: m=>(!a || b) && sub l m
 | _,_=>false
theorem Dd {R n row left left':Nat} {b:List Bool} (h:left≤left') (hb:b ∈ oW R n row left):b ∈ oW R n row left':=by
 rw [gx] at *
 exact ⟨hb.1,by omega,hb.2.2⟩
def KG (full first:Int) (br:Nat→Bool):Nat→Int
 | 0=>if br 0 then full else first
 | d+1=>if br (d+1) then full else max 0 (KG full first br d - 1)
theorem Jb {full first:Int} (h:first≤full) (h0:0≤full) (br:Nat→Bool):∀ d,KG full first br d≤full
 | 0=>by unfold KG;split <;> omega
 | d+1=>by have:=Jb h h0 br d;unfold KG;split <;> omega
theorem NV {full first:Int} (h:0≤first) (h0:0≤full) (br:Nat→Bool):∀ d,0≤KG full first br d
 | 0=>by unfold KG;split <;> omega
 | d+1=>by unfold KG;split <;> omega
end Go.TeLaw
open Go Go.RM
namespace Go.Proofs.YtpeogffeoehboaaGreatDoor
set_option maxRecDepth 100000
def iL (s:au) (n:Nat):Int:=match s.needs[n]? with
 | some x=>x.first
 | none=>0
def dP (s:au) (n:Nat):Int:=match s.needs[n]? with
 | some x=>x.full
 | none=>0
def Jc (p:List Order) (f n d:Nat):Bool:=(List.range p.length).any fun i=>match p[i]? with
 | some o=>decide (o.day=(d:Int)) && !f.testBit i && hasB o.aG (n:Int)
 | none=>false
theorem Ea {p:List Order} {f n d:Nat}:Jc p f n d=true ↔ ∃ i,∃ h:i < p.length,p[i].day=(d:Int)∧f.testBit i=false∧(n:Int) ∈ p[i].aG:=by
 unfold Jc
 rw [List.any_eq_true]
 constructor
 ·rintro ⟨i,hi,h⟩
  have hi:=List.mem_range.1 hi
  rw [List.getElem?_eq_getElem hi] at h
  simp only [Bool.and_eq_true,decide_eq_true_eq,Bool.not_eq_true',fu] at h
  exact ⟨i,hi,h.1.1,h.1.2,h.2⟩
 ·rintro ⟨i,hi,h1,h2,h3⟩
  refine ⟨i,List.mem_range.2 hi,?_⟩
  rw [List.getElem?_eq_getElem hi]
  simp only [Bool.and_eq_true,decide_eq_true_eq,Bool.not_eq_true',fu]
  exact ⟨⟨h1,h2⟩,h3⟩
def gK (s:au) (p:List Order) (f n d:Nat):Int:=if n < s.needs.length then TeLaw.KG (dP s n) (iL s n) (Jc p f n) d else 0
def ox (s:au) (p:List Order) (f n:Nat):Nat→Int
 | 0=>iL s n
 | d+1=>max 0 (gK s p f n d - 1)
theorem zN {s:au} {p:List Order} {f n d:Nat} (h:n < s.needs.length):gK s p f n d=if Jc p f n d=true then dP s n else ox s p f n d:=by
 unfold gK
 rw [if_pos h]
 cases d with
 | zero=>rfl
 | succ d =>
  have e:ox s p f n (d+1)=max 0 (TeLaw.KG (dP s n) (iL s n) (Jc p f n) d - 1):=by
   show max 0 (gK s p f n d - 1)=_
   unfold gK
   rw [if_pos h]
  rw [e]
  rfl
theorem qL {s:au} {n:Nat} (h:¬ n < s.needs.length):iL s n=0:=by unfold iL;rw [List.getElem?_eq_none (by omega)]
theorem Jd {s:au} (hg:Good s) {n:Nat} (h:n < s.needs.length):1≤dP s n∧dP s n≤60:=by
 unfold dP
 rw [List.getElem?_eq_getElem h]
 exact (hg.needs _ (List.getElem_mem h)).2.1
theorem Je {s:au} (hg:Good s) {n:Nat} (h:n < s.needs.length):0≤iL s n∧iL s n≤dP s n:=by
 unfold iL dP
 rw [List.getElem?_eq_getElem h]
 exact (hg.needs _ (List.getElem_mem h)).2.2.1
theorem Jf {s:au} (hg:Good s) (p:List Order) (f n d:Nat):0≤gK s p f n d∧gK s p f n d≤60:=by
 unfold gK
 split
 ·rename_i h
  have h1:=Jd hg h
  have h2:=Je hg h
  have h3:=TeLaw.Jb (full:=dP s n) (first:=iL s n) h2.2 (by omega) (Jc p f n) d
  have h4:=TeLaw.NV (full:=dP s n) (first:=iL s n) h2.1 (by omega) (Jc p f n) d
  omega
 ·omega
theorem PO {s:au} (hg:Good s) (p:List Order) (f n d:Nat):0≤ox s p f n d∧ox s p f n d≤60:=by
 cases d with
 | zero =>
  show 0≤iL s n∧iL s n≤60
  by_cases h:n < s.needs.length
  ·have h1:=Jd hg h
   have h2:=Je hg h
   omega
  ·rw [qL h];omega
 | succ d =>
  have:=Jf hg p f n d
  show 0≤max 0 (gK s p f n d - 1)∧max 0 (gK s p f n d - 1)≤60
  omega
def qM (p:List Order) (d m:Nat):Prop:=m≤p.length∧(∀ i (h:i < p.length),i < m→p[i].day < (d:Int))∧∀ i (h:i < p.length),m≤i→(d:Int)≤p[i].day
theorem PR {s:au} {p:List Order} (hp:mO s p) {d m:Nat} (ha:qM p d m) (hm:m < p.length) (hd:p[m].day=(d:Int)) (f n:Nat):Jc p f n d=(!f.testBit m && hasB p[m].aG (n:Int)):=by
 rw [Bool.eq_iff_iff,Ea,Bool.and_eq_true,Bool.not_eq_true',fu]
 constructor
 ·rintro ⟨i,hi,h1,h2,h3⟩
  have:i=m:=by
   rcases Nat.lt_trichotomy i m with h|h|h
   ·have:=ha.2.1 i hi h;omega
   ·exact h
   ·have:=hp.PJ m i hm hi h;omega
  subst this
  exact ⟨h2,h3⟩
 ·rintro ⟨h2,h3⟩
  exact ⟨m,hm,hd,h2,h3⟩
theorem Jg {s:au} {p:List Order} (hp:mO s p) {d m:Nat} (ha:qM p d m) (hm:m < p.length) (hd:p[m].day=(d:Int)):qM p (d+1) (m+1):=by
 refine ⟨hm,fun i h hi=>?_,fun i h hi=>?_⟩
 ·by_cases e:i=m
  ·subst e;omega
  ·have:=ha.2.1 i h (by omega);omega
 ·have:=hp.PJ m i hm h (by omega);omega
theorem Eb {s:au} {p:List Order} (hp:mO s p) {d m:Nat} (ha:qM p d m) (hd:∀ h:m < p.length,p[m].day ≠ (d:Int)) (f n:Nat):Jc p f n d=false∧qM p (d+1) m:=by
 have key:∀ i (h:i < p.length),m≤i→(d:Int) < p[i].day:=fun i h hi=>by
  by_cases e:i=m
  ·subst e
   have:=ha.2.2 i h hi
   have:=hd h
   omega
  ·have h1:=hp.PJ m i (by omega) h (by omega)
   have h2:=ha.2.2 m (by omega) (Nat.le_refl _)
   omega
 refine ⟨?_,ha.1,fun i h hi=>?_,fun i h hi=>?_⟩
 ·rw [←Bool.not_eq_true,Ea]
  rintro ⟨i,hi,h1,_⟩
  by_cases e:i < m
  ·have:=ha.2.1 i hi e;omega
  ·have:=key i hi (by omega);omega
 ·have:=ha.2.1 i h hi;omega
 ·have:=key i h hi;omega
theorem De {s:au} {p:List Order} (hp:mO s p):qM p 0 0:=⟨Nat.zero_le _,fun _ _ hi=>absurd hi (Nat.not_lt_zero _),fun _ h _=>(hp.order _ (List.getElem_mem h)).day.1⟩
abbrev gy (c:Nat→Int):List AV:=[aA (c 0),aA (c 1),aA (c 2)]
theorem KH (c:Nat→Int) (v:Int):∀ {i:Nat},i < 3→fS (gy c) [aA v] i=gy (fun n=>if n=i then v else c n)
 | 0,_=>rfl
 | 1,_=>rfl
 | 2,_=>rfl
theorem NW (c:Nat→Int):∀ {i:Nat},i < 3→(gy c)[i]?=some (aA (c i))
 | 0,_=>rfl
 | 1,_=>rfl
 | 2,_=>rfl
theorem dF {c c':Nat→Int} (h:∀ n,n < 3→c n=c' n):gy c=gy c':=by unfold gy;rw [h 0 (by decide),h 1 (by decide),h 2 (by decide)]
abbrev Ql (s:au) (p:List Order) (f d:Nat):AV:=.ag (gy fun n=>gK s p f n d)
def yd (s:au) (p:List Order) (f:Nat):List (List AV):=(List.range s.days.toNat).map fun d=>[aA (d:Nat),Ql s p f d]
theorem oy {s:au} {p:List Order} {f:Nat}:(yd s p f).length=s.days.toNat:=by simp [yd]
theorem BS {s:au} {p:List Order} {f i:Nat} (h:i < s.days.toNat):(yd s p f)[i]?=some [aA (i:Nat),Ql s p f i]:=by
 unfold yd
 rw [List.getElem?_map,List.getElem?_range h]
 rfl
theorem vJ {s:au} {p:List Order} {f i:Nat} {x:List AV} (h:(yd s p f)[i]?=some x):i < s.days.toNat∧x=[aA (i:Nat),Ql s p f i]:=by
 have hi:i < s.days.toNat:=by
  have:=(List.getElem?_eq_some_iff.1 h).1
  rw [oy] at this
  exact this
 rw [BS hi] at h
 exact ⟨hi,(Option.some.inj h).symm⟩
end Go.Proofs.YtpeogffeoehboaaGreatDoor
