/-
  Contracts of the program's functions and of the document's. Lemmas alone; their conditions stand in them.
-/
import Derived.Test.YtpeogffeoehboaaDoorA2
import Derived.Test.YtpeogffeoehboaaDoorA3
import Derived.Test.YtpeogffeoehboaaDoorX4
import Derived.Test.YtpeogffeoehboaaDoorK1
import Derived.Test.YtpeogffeoehboaaDoorK2
import Derived.Test.YtpeogffeoehboaaDoorK3
open Go Go.RM
namespace Go.Proofs.YtpeogffeoehboaaDoor
set_option maxRecDepth 100000
set_option maxHeartbeats 4000000
theorem LQ (one:Bool) {s:ai} (hg:Good s) (o:Order) (last:Int) (hc:o.aO.length≤maxLen):Pu one 47 [.ag (az s),.ag (aD o),aC last] (aC (jO s o last)):=by
 have eg:((s.needs.map aV).length:Int)=s.needs.length:=by simp
 have ec:((ints o.aO).length:Int)=o.aO.length:=by simp
 have mc:o.aO.length≤9223372036854775807:=Nat.le_trans hc (by simp [maxLen])
 have hd:=hg.days
 have hl:=hg.len
 have o1:=iJ one 0 (s.days - 1) o.day
 obtain ⟨A,hA⟩:∃ A,A=(dU o.aO.length (gi o.aO (s.needs.length:Int) 4)).1:=⟨_,rfl⟩
 have o2:Pu one 44 [.sl (ints o.aO) false,aC ((s.needs.map aV).length:Int),aC 4] (.tp [aC A,aC (Ah o.aO s.needs.length)]):=by
  rw [eg,hA]
  exact NF one o.aO false (s.needs.length:Int) 4 hc (by omega) (by decide)
 unfold jO
 cases c1:fR 0 (s.days - 1) [o.day] with
 | true =>
  rw [c1] at o1
  rw [if_pos rfl]
  refine ah.body (fn:=Tryd.f47) rfl rfl rfl rfl ?_
  refine aa (mu:=fun _=>false) ?_
  repeat' (first |refine u1 ?_ |((with_reducible show av _ _ _ _ _ _ _ _);refine ah.call o1 rfl rfl ?_) |refine u2 ?_ |fail)
  exact ⟨[_],⟨Fz.deep rfl,trivial⟩,rfl⟩
 | false =>
  rw [c1] at o1
  rw [if_neg (by simp)]
  by_cases c2:o.day≤last
  ·have d2:=decide_eq_true c2
   rw [if_pos c2]
   refine ah.body (fn:=Tryd.f47) rfl rfl rfl rfl ?_
   refine aa (mu:=fun _=>false) ?_
   repeat' (first |refine u1 ?_ |((with_reducible show av _ _ _ _ _ _ _ _);refine ah.call o1 rfl rfl ?_) |refine u2 ?_ |fail)
   exact ⟨[_],⟨Fz.deep rfl,trivial⟩,rfl⟩
  ·have d2:=decide_eq_false c2
   rw [if_neg c2]
   by_cases c3:o.aO.length=0
   ·have d3:decide (((ints o.aO).length:Int)=0)=true:=decide_eq_true (by rw [ec];omega)
    rw [if_pos c3]
    refine ah.body (fn:=Tryd.f47) rfl rfl rfl rfl ?_
    refine aa (mu:=fun _=>false) ?_
    repeat' (first |refine u1 ?_ |((with_reducible show av _ _ _ _ _ _ _ _);refine ah.call o1 rfl rfl ?_) |refine u2 ?_ |fail)
    exact ⟨[_],⟨Fz.deep rfl,trivial⟩,rfl⟩
   ·have d3:decide (((ints o.aO).length:Int)=0)=false:=decide_eq_false (by rw [ec];omega)
    rw [if_neg c3]
    by_cases c4:Ah o.aO s.needs.length=0
    ·rw [if_neg (by omega)]
     rw [c4] at o2
     obtain ⟨q1,q2,_⟩:=Fo c4
     have hw:=vZ true hg o.aO false q2 q1
     have d4:decide ((0:Int)=0)=true:=by decide
     by_cases c5:s.load < sK s o.aO
     ·have d5:=decide_eq_true c5
      rw [if_pos c5]
      refine ah.body (fn:=Tryd.f47) rfl rfl rfl rfl ?_
      refine aa (mu:=fun _=>false) ?_
      repeat' (first |((with_reducible show av _ _ _ _ _ _ _ _);refine ah.call o1 rfl rfl ?_) |((with_reducible show av _ _ _ _ _ _ _ _);refine ah.call o2 rfl rfl ?_) |refine u1 ?_ |(refine ⟨_,_,.inl ⟨rfl,rfl⟩,hw,?_⟩) |refine u2 ?_ |fail)
      exact ⟨[_],⟨Fz.deep rfl,trivial⟩,rfl⟩
     ·have d5:=decide_eq_false c5
      rw [if_neg c5]
      refine ah.body (fn:=Tryd.f47) rfl rfl rfl rfl ?_
      refine aa (mu:=fun _=>false) ?_
      repeat' (first |((with_reducible show av _ _ _ _ _ _ _ _);refine ah.call o1 rfl rfl ?_) |((with_reducible show av _ _ _ _ _ _ _ _);refine ah.call o2 rfl rfl ?_) |refine u1 ?_ |(refine ⟨_,_,.inl ⟨rfl,rfl⟩,hw,?_⟩) |refine u2 ?_ |fail)
      exact ⟨[_],⟨Fz.deep rfl,trivial⟩,rfl⟩
    ·rw [if_pos c4]
     have d4:decide (Ah o.aO s.needs.length=0)=false:=decide_eq_false c4
     generalize Ah o.aO s.needs.length=e at *
     refine ah.body (fn:=Tryd.f47) rfl rfl rfl rfl ?_
     refine aa (mu:=fun _=>false) ?_
     repeat' (first |refine u1 ?_ |((with_reducible show av _ _ _ _ _ _ _ _);refine ah.call o1 rfl rfl ?_) |((with_reducible show av _ _ _ _ _ _ _ _);refine ah.call o2 rfl rfl ?_) |refine u2 ?_ |fail)
     exact ⟨[_],⟨Fz.deep rfl,trivial⟩,rfl⟩
structure RW (p:List Order):Prop where
 len:p.length≤maxLen
 aO:∀ o ∈ p,o.aO.length≤maxLen
theorem DY {p:List Order} {k:Nat} (h:k < p.length):lF p (k+1)=p[k].day:=by
 unfold lF
 rw [if_neg (by omega),Nat.add_sub_cancel,List.getElem?_eq_getElem h]
theorem Pk (one:Bool) (s:ai) (hs:s.Ok) (p:List Order) (full:Bool) (hp:RW p):Pu one 15 [.ag (az s),.sl (p.map aD) full] (.tp [aC (ey s p).1,aC (ey s p).2]):=by
 have ep:((p.map aD).length:Int)=p.length:=by simp
 have mp:p.length≤9223372036854775807:=Nat.le_trans hp.len (by simp [maxLen])
 have o1:=Fl one s hs
 obtain ⟨n,hn⟩:∃ n:Int,n=p.length:=⟨_,rfl⟩
 unfold ey
 by_cases c1:(i7 s).2.2=0
 ·rw [if_neg (by omega)]
  have hg:=kW c1
  rw [ru c1] at o1
  unfold uf
  by_cases c2:8 < p.length
  ·have d2:decide (8 < ((p.map aD).length:Int))=true:=decide_eq_true (by rw [ep];omega)
   rw [if_pos c2]
   refine ah.body (fn:=Tryd.f15) rfl rfl rfl rfl ?_
   refine aa (mu:=fun _=>false) ?_
   repeat' (first |refine u1 ?_ |((with_reducible show av _ _ _ _ _ _ _ _);refine ah.call o1 rfl rfl ?_) |refine u2 ?_ |fail)
   exact ⟨[_,_],⟨Fz.deep rfl,Fz.deep rfl,trivial⟩,rfl⟩
  ·have d2:decide (8 < ((p.map aD).length:Int))=false:=decide_eq_false (by rw [ep];omega)
   rw [if_neg c2]
   refine ah.body (fn:=Tryd.f15) rfl rfl rfl rfl ?_
   refine aa (mu:=fun _=>false) ?_
   repeat' (first |refine u1 ?_ |((with_reducible show av _ _ _ _ _ _ _ _);refine ah.call o1 rfl rfl ?_) |refine u2 ?_ |fail)
   refine aA.aX (aj.to (l:=[(2,.pt (az s) 0),(6,aC (lF p 0)),(21,.sl (p.map aD) full),(22,aC n),(23,aC (0:Nat))]) (hp:=[]) 0 rfl ⟨rfl,rfl,rfl,bW (by rw [hn];exact ep),rfl,trivial⟩ (Nat.zero_le _) rfl rfl) ?_
   refine aA.loop (fun k:Nat=>k≤p.length∧∀ i,i < k→kH s p i=0) (fun k=>⟨bx [(2,.pt (az s) 0),(6,aC (lF p k)),(21,.sl (p.map aD) full),(22,aC n),(23,aC (k:Nat))],[],bG.none,false,0⟩) (fun k=>p.length - k) ?_ 0 ⟨Nat.zero_le _,fun i hi=>absurd hi (Nat.not_lt_zero _)⟩
   rintro k ⟨hk,hprev⟩
   refine aa (mu:=fun _=>false) ?_
   by_cases hlt:k < p.length
   ·have d1:decide ((k:Int) < n)=true:=decide_eq_true (by omega)
    have hat:(p.map aD)[((k:Nat):Int).toNat]?=some (aD p[k]):=cI hlt
    have hA:kH s p k=jO s p[k] (lF p k):=by unfold kH;rw [List.getElem?_eq_getElem hlt]
    have ho:=LQ one hg p[k] (lF p k) (hp.aO _ (List.getElem_mem hlt))
    have hs1:=DY hlt
    rw [←hA] at ho
    clear hA
    generalize p[k]=o at *
    generalize lF p k=last at *
    by_cases c3:kH s p k=0
    ·rw [c3] at ho
     repeat' (first |((with_reducible show av _ _ _ _ _ _ _ _);refine ah.call ho rfl rfl ?_) |refine u1 ?_ |((with_reducible show RM.wpOp _ _ (.indexAddr _ _ _) _ _ _);refine ⟨aD o,⟨by omega,hat⟩,rfl,?_⟩) |refine u2 ?_ |fail)
     refine ⟨k+1,⟨hlt,fun i hi=>?_⟩,(by dsimp only;omega),aj.to 0 rfl ⟨rfl,bW hs1.symm,rfl,rfl,bW (by simp),trivial⟩ (Nat.zero_le _) rfl rfl⟩
     by_cases hik:i=k
     ·rw [hik];exact c3
     ·exact hprev i (by omega)
    ·rw [kE hlt hprev c3]
     generalize kH s p k=e at *
     have d3:(!decide (e=0))=true:=by rw [decide_eq_false c3];rfl
     repeat' (first |((with_reducible show av _ _ _ _ _ _ _ _);refine ah.call ho rfl rfl ?_) |refine u1 ?_ |((with_reducible show RM.wpOp _ _ (.indexAddr _ _ _) _ _ _);refine ⟨aD o,⟨by omega,hat⟩,rfl,?_⟩) |refine u2 ?_ |fail)
     exact ⟨[_,_],⟨Fz.deep rfl,Fz.deep rfl,trivial⟩,rfl⟩
   ·have d1:decide ((k:Int) < n)=false:=decide_eq_false (by omega)
    rw [fS (fun i hi=>hprev i (by omega))]
    repeat' (first |refine u1 ?_ |refine u2 ?_ |fail)
    exact ⟨[_,_],⟨Fz.deep rfl,Fz.deep rfl,trivial⟩,rfl⟩
 ·rw [if_pos c1]
  generalize (i7 s).1=a at *
  generalize (i7 s).2.1=b at *
  generalize (i7 s).2.2=e at *
  have d1:(!decide (e=0))=true:=by rw [decide_eq_false c1];rfl
  refine ah.body (fn:=Tryd.f15) rfl rfl rfl rfl ?_
  refine aa (mu:=fun _=>false) ?_
  repeat' (first |refine u1 ?_ |((with_reducible show av _ _ _ _ _ _ _ _);refine ah.call o1 rfl rfl ?_) |refine u2 ?_ |fail)
  exact ⟨[_,_],⟨Fz.deep rfl,Fz.deep rfl,trivial⟩,rfl⟩
abbrev K4:Sh:=.int .i64
abbrev J3:Sh:=.cons .str (.cons K4 (.cons K4 (.cons K4 .nil)))
abbrev Ch:Sh:=.cons K4 (.cons (.slice J3) (.cons K4 (.cons K4 (.cons K4 (.cons (.slice K4) .nil)))))
theorem NG {l:List AV} (h:TV K4 l):∃ n,(Lit.int .i64 n).wf=true∧l=eI n:=by
 cases h with
 | int h=>exact ⟨_,h,rfl⟩
theorem Td {k:IntKind} {l:List AV} (h:TV (.int k) l):∃ n,(Lit.int k n).wf=true∧l=[.fl (.int k n)]:=by
 cases h with
 | int h=>exact ⟨_,h,rfl⟩
theorem Te {l:List AV} (h:TV .str l):∃ s:ByteArray,s.size≤maxLen∧l=[ST s]:=by
 cases h with
 | str h=>exact ⟨_,h,rfl⟩
theorem K5 {a b:Sh} {l:List AV} (h:TV (.cons a b) l):∃ x y,TV a x∧TV b y∧l=x++y:=by
 cases h with
 | cons h k=>exact ⟨_,_,h,k,rfl⟩
theorem SF {l:List AV} (h:TV .nil l):l=[]:=by cases h;rfl
theorem SG {s:Sh} {l:List AV} (h:TV (.slice s) l):∃ els,els.length≤maxLen∧(∀ el ∈ els,TV s el)∧l=[.sl els false]:=by
 cases h with
 | slice h k=>exact ⟨_,h,k,rfl⟩
theorem Tf {n:Nat} {s:Sh} {l:List AV} (h:TV (.arr n s) l):∃ els:List (List AV),els.length=n∧(∀ el ∈ els,TV s el)∧l=els.flatten:=by
 cases h with
 | arr h k=>exact ⟨_,h,k,rfl⟩
theorem J4 {α:Type} {e:α→List AV} {P:α→Prop}:∀ {els:List (List AV)},(∀ el ∈ els,∃ x,P x∧el=e x)→∃ l:List α,(∀ x ∈ l,P x)∧els=l.map e
 | [],_=>⟨[],⟨List.forall_mem_nil _,rfl⟩⟩
 | el :: els,h=>by
  obtain ⟨x,hx,rfl⟩:=h el (by simp)
  obtain ⟨l,hl,rfl⟩:=J4 fun el hel=>h el (List.mem_cons_of_mem _ hel)
  exact ⟨x :: l,⟨List.forall_mem_cons.2 ⟨hx,hl⟩,rfl⟩⟩
theorem Pm {l:List AV} (h:TV (.slice K4) l):∃ c:List Int,c.length≤maxLen∧l=[.sl (ints c) false]:=by
 obtain ⟨a,ha,ha',rfl⟩:=SG h
 obtain ⟨a,_,rfl⟩:=J4 (e:=eI) (P:=fun _=>True) fun el hel=>by obtain ⟨n,_,h⟩:=NG (ha' el hel);exact ⟨n,trivial,h⟩
 exact ⟨a,by simpa using ha,rfl⟩
theorem Pn {l:List AV} (h:TV J3 l):∃ x:jX,x.name.data.toList.length≤maxLen∧l=aV x:=by
 obtain ⟨_,_,h1,k1,rfl⟩:=K5 h
 obtain ⟨_,_,h2,k2,rfl⟩:=K5 k1
 obtain ⟨_,_,h3,k3,rfl⟩:=K5 k2
 obtain ⟨_,_,h4,k4,rfl⟩:=K5 k3
 obtain rfl:=SF k4
 obtain ⟨a,ha,rfl⟩:=Te h1
 obtain ⟨b,_,rfl⟩:=NG h2
 obtain ⟨c,_,rfl⟩:=NG h3
 obtain ⟨d,_,rfl⟩:=NG h4
 exact ⟨⟨a,b,c,d⟩,by simpa using ha,rfl⟩
theorem J5 {l:List AV} (h:TV Ch l):∃ s:ai,s.Ok∧l=az s:=by
 obtain ⟨_,_,h1,k1,rfl⟩:=K5 h
 obtain ⟨_,_,h2,k2,rfl⟩:=K5 k1
 obtain ⟨_,_,h3,k3,rfl⟩:=K5 k2
 obtain ⟨_,_,h4,k4,rfl⟩:=K5 k3
 obtain ⟨_,_,h5,k5,rfl⟩:=K5 k4
 obtain ⟨_,_,h6,k6,rfl⟩:=K5 k5
 obtain rfl:=SF k6
 obtain ⟨a,_,rfl⟩:=NG h1
 obtain ⟨b,hb,hb',rfl⟩:=SG h2
 obtain ⟨b,hn,rfl⟩:=J4 (e:=aV) fun el hel=>Pn (hb' el hel)
 obtain ⟨c,_,rfl⟩:=NG h3
 obtain ⟨d,_,rfl⟩:=NG h4
 obtain ⟨e,_,rfl⟩:=NG h5
 obtain ⟨f,hf,rfl⟩:=Pm h6
 exact ⟨⟨a,b,c,d,e,f⟩,⟨by simpa using hb,hn,hf⟩,rfl⟩
theorem Rs:∀ e ∈ TB,ak TT e:=by
 intro e he
 unfold TB at he
 rcases List.mem_cons.1 he with rfl|he
 ·exact Rk
 ·obtain ⟨k,hk,rfl⟩:=List.mem_map.1 he
  have:=List.mem_range.1 hk
  exact bF (by omega)
abbrev gq (n:Nat):AV:=.fl (.int .u64 ((n:Nat):Int))
end Go.Proofs.YtpeogffeoehboaaDoor
namespace Go.TeLaw
def tE (R:Nat):Nat→Nat→Nat→List (List Bool)
 | 0,_,_=>[[]]
 | n+1,row,left=>(tE R n 0 left).map (false :: ·)++(if left=0∨R≤row then [] else (tE R n (row+1) (left - 1)).map (true :: ·))
def tF (R:Nat):Nat→List Bool→Bool
 | _,[]=>true
 | _,false :: l=>tF R 0 l
 | row,true :: l=>decide (row < R) && tF R (row+1) l
def cnt:List Bool→Nat
 | []=>0
 | false :: l=>cnt l
 | true :: l=>cnt l+1
theorem gP {R:Nat}:∀ {n row left:Nat} {b:List Bool},b ∈ tE R n row left ↔ (b.length=n∧cnt b≤left∧tF R row b=true)
 | 0,row,left,b=>by
  unfold tE
  rw [List.mem_singleton]
  constructor
  ·rintro rfl;exact ⟨rfl,Nat.zero_le _,rfl⟩
  ·rintro ⟨h,_⟩;exact List.length_eq_zero_iff.1 h
 | n+1,row,left,b=>by
  unfold tE
  rw [List.mem_append]
  constructor
  ·rintro (h|h)
   ·obtain ⟨c,hc,rfl⟩:=List.mem_map.1 h
    obtain ⟨h1,h2,h3⟩:=gP.1 hc
    exact ⟨by rw [List.length_cons,h1],h2,h3⟩
   ·split at h
    ·cases h
    ·rename_i hn
     obtain ⟨c,hc,rfl⟩:=List.mem_map.1 h
     obtain ⟨h1,h2,h3⟩:=gP.1 hc
     refine ⟨by rw [List.length_cons,h1],by unfold cnt;omega,?_⟩
     unfold tF
     rw [h3,decide_eq_true (by omega)]
     rfl
  ·rintro ⟨h1,h2,h3⟩
   match b,h1 with
   | false :: c,h1 =>
    exact .inl (List.mem_map.2 ⟨c,gP.2 ⟨by simpa using h1,h2,h3⟩,rfl⟩)
   | true :: c,h1 =>
    unfold cnt at h2
    unfold tF at h3
    rw [Bool.and_eq_true,decide_eq_true_eq] at h3
    right
    rw [if_neg (by omega)]
    exact List.mem_map.2 ⟨c,gP.2 ⟨by simpa using h1,by omega,h3.2⟩,rfl⟩
def sub:List Bool→List Bool→Bool
 | [],[]=>true
 | a :: l,b :: m=>(!a || b) && sub l m
 | _,_=>false
def Cj (full first:Int) (br:Nat→Bool):Nat→Int
 | 0=>if br 0 then full else first
 | d+1=>if br (d+1) then full else max 0 (Cj full first br d - 1)
theorem D0 {full first:Int} (h:first≤full) (h0:0≤full) (br:Nat→Bool):∀ d,Cj full first br d≤full
 | 0=>by unfold Cj;split <;> omega
 | d+1=>by have:=D0 h h0 br d;unfold Cj;split <;> omega
theorem Pp {full first:Int} (h:0≤first) (h0:0≤full) (br:Nat→Bool):∀ d,0≤Cj full first br d
 | 0=>by unfold Cj;split <;> omega
 | d+1=>by unfold Cj;split <;> omega
theorem Ck {full first:Int} (h:first≤full) (h0:0≤full) {br br':Nat→Bool} (hb:∀ d,br d=true→br' d=true):∀ d,Cj full first br d≤Cj full first br' d
 | 0=>by
  unfold Cj
  cases h1:br 0 with
  | true=>rw [hb 0 h1];exact Int.le_refl _
  | false=>rw [if_neg (by simp)];split <;> omega
 | d+1=>by
  have ih:=Ck h h0 hb d
  have hl:=D0 h h0 br d
  unfold Cj
  cases h1:br (d+1) with
  | true=>rw [hb _ h1];exact Int.le_refl _
  | false=>rw [if_neg (by simp)];split <;> omega
theorem yB {full first:Int} {br br':Nat→Bool}:∀ d,(∀ i,i≤d→br i=br' i)→Cj full first br d=Cj full first br' d
 | 0,h=>by unfold Cj;rw [h 0 (Nat.le_refl _)]
 | d+1,h=>by
  have ih:=yB (full:=full) (first:=first) d (fun i hi=>h i (by omega))
  unfold Cj
  rw [h _ (Nat.le_refl _),ih]
end Go.TeLaw
open Go Go.RM
namespace Go.Proofs.YtpeogffeoehboaaDoor
set_option maxRecDepth 100000
def jY (s:ai) (n:Nat):Int:=match s.needs[n]? with
 | some x=>x.first
 | none=>0
def jS (s:ai) (n:Nat):Int:=match s.needs[n]? with
 | some x=>x.full
 | none=>0
def D1 (p:List Order) (f n d:Nat):Bool:=(List.range p.length).any fun i=>match p[i]? with
 | some o=>decide (o.day=(d:Int)) && !f.testBit i && hasB o.aO (n:Int)
 | none=>false
theorem rz {p:List Order} {f n d:Nat}:D1 p f n d=true ↔ ∃ i,∃ h:i < p.length,p[i].day=(d:Int)∧f.testBit i=false∧(n:Int) ∈ p[i].aO:=by
 unfold D1
 rw [List.any_eq_true]
 constructor
 ·rintro ⟨i,hi,h⟩
  have hi:=List.mem_range.1 hi
  rw [List.getElem?_eq_getElem hi] at h
  simp only [Bool.and_eq_true,decide_eq_true_eq,Bool.not_eq_true',jR] at h
  exact ⟨i,hi,h.1.1,h.1.2,h.2⟩
 ·rintro ⟨i,hi,h1,h2,h3⟩
  refine ⟨i,List.mem_range.2 hi,?_⟩
  rw [List.getElem?_eq_getElem hi]
  simp only [Bool.and_eq_true,decide_eq_true_eq,Bool.not_eq_true',jR]
  exact ⟨⟨h1,h2⟩,h3⟩
def kI (s:ai) (p:List Order) (f n d:Nat):Int:=if n < s.needs.length then TeLaw.Cj (jS s n) (jY s n) (D1 p f n) d else 0
def v8 (s:ai) (p:List Order) (f n:Nat):Nat→Int
 | 0=>jY s n
 | d+1=>max 0 (kI s p f n d - 1)
theorem D2 {s:ai} {p:List Order} {f n d:Nat} (h:n < s.needs.length):kI s p f n d=if D1 p f n d=true then jS s n else v8 s p f n d:=by
 unfold kI
 rw [if_pos h]
 cases d with
 | zero=>rfl
 | succ d =>
  have e:v8 s p f n (d+1)=max 0 (TeLaw.Cj (jS s n) (jY s n) (D1 p f n) d - 1):=by
   show max 0 (kI s p f n d - 1)=_
   unfold kI
   rw [if_pos h]
  rw [e]
  rfl
theorem we {s:ai} {n:Nat} (h:¬ n < s.needs.length):jY s n=0:=by unfold jY;rw [List.getElem?_eq_none (by omega)]
theorem D3 {s:ai} (hg:Good s) {n:Nat} (h:n < s.needs.length):1≤jS s n∧jS s n≤60:=by
 unfold jS
 rw [List.getElem?_eq_getElem h]
 exact (hg.needs _ (List.getElem_mem h)).2.1
theorem Kh {s:ai} (hg:Good s) {n:Nat} (h:n < s.needs.length):0≤jY s n∧jY s n≤jS s n:=by
 unfold jY jS
 rw [List.getElem?_eq_getElem h]
 exact (hg.needs _ (List.getElem_mem h)).2.2.1
theorem NI {s:ai} (hg:Good s) (p:List Order) (f n d:Nat):0≤kI s p f n d∧kI s p f n d≤60:=by
 unfold kI
 split
 ·rename_i h
  have h1:=D3 hg h
  have h2:=Kh hg h
  have h3:=TeLaw.D0 (full:=jS s n) (first:=jY s n) h2.2 (by omega) (D1 p f n) d
  have h4:=TeLaw.Pp (full:=jS s n) (first:=jY s n) h2.1 (by omega) (D1 p f n) d
  omega
 ·omega
def rA (p:List Order) (d m:Nat):Prop:=m≤p.length∧(∀ i (h:i < p.length),i < m→p[i].day < (d:Int))∧∀ i (h:i < p.length),m≤i→(d:Int)≤p[i].day
theorem Ru {s:ai} {p:List Order} (hp:jP s p) {d m:Nat} (ha:rA p d m) (hm:m < p.length) (hd:p[m].day=(d:Int)) (f n:Nat):D1 p f n d=(!f.testBit m && hasB p[m].aO (n:Int)):=by
 rw [Bool.eq_iff_iff,rz,Bool.and_eq_true,Bool.not_eq_true',jR]
 constructor
 ·rintro ⟨i,hi,h1,h2,h3⟩
  have:i=m:=by
   rcases Nat.lt_trichotomy i m with h|h|h
   ·have:=ha.2.1 i hi h;omega
   ·exact h
   ·have:=hp.DX m i hm hi h;omega
  subst this
  exact ⟨h2,h3⟩
 ·rintro ⟨h2,h3⟩
  exact ⟨m,hm,hd,h2,h3⟩
theorem Ki {s:ai} {p:List Order} (hp:jP s p) {d m:Nat} (ha:rA p d m) (hm:m < p.length) (hd:p[m].day=(d:Int)):rA p (d+1) (m+1):=by
 refine ⟨hm,fun i h hi=>?_,fun i h hi=>?_⟩
 ·by_cases e:i=m
  ·subst e;omega
  ·have:=ha.2.1 i h (by omega);omega
 ·have:=hp.DX m i hm h (by omega);omega
theorem Ft {s:ai} {p:List Order} (hp:jP s p) {d m:Nat} (ha:rA p d m) (hd:∀ h:m < p.length,p[m].day ≠ (d:Int)) (f n:Nat):D1 p f n d=false∧rA p (d+1) m:=by
 have key:∀ i (h:i < p.length),m≤i→(d:Int) < p[i].day:=fun i h hi=>by
  by_cases e:i=m
  ·subst e
   have:=ha.2.2 i h hi
   have:=hd h
   omega
  ·have h1:=hp.DX m i (by omega) h (by omega)
   have h2:=ha.2.2 m (by omega) (Nat.le_refl _)
   omega
 refine ⟨?_,ha.1,fun i h hi=>?_,fun i h hi=>?_⟩
 ·rw [←Bool.not_eq_true,rz]
  rintro ⟨i,hi,h1,_⟩
  by_cases e:i < m
  ·have:=ha.2.1 i hi e;omega
  ·have:=key i hi (by omega);omega
 ·have:=ha.2.1 i h hi;omega
 ·have:=key i h hi;omega
theorem D4 {s:ai} {p:List Order} (hp:jP s p):rA p 0 0:=⟨Nat.zero_le _,fun _ _ hi=>absurd hi (Nat.not_lt_zero _),fun _ h _=>(hp.order _ (List.getElem_mem h)).day.1⟩
abbrev nc (c:Nat→Int):List AV:=[aC (c 0),aC (c 1),aC (c 2)]
theorem LV (c:Nat→Int) (v:Int):∀ {i:Nat},i < 3→cX (nc c) [aC v] i=nc (fun n=>if n=i then v else c n)
 | 0,_=>rfl
 | 1,_=>rfl
 | 2,_=>rfl
theorem Pq (c:Nat→Int):∀ {i:Nat},i < 3→(nc c)[i]?=some (aC (c i))
 | 0,_=>rfl
 | 1,_=>rfl
 | 2,_=>rfl
theorem gQ {c c':Nat→Int} (h:∀ n,n < 3→c n=c' n):nc c=nc c':=by unfold nc;rw [h 0 (by decide),h 1 (by decide),h 2 (by decide)]
abbrev Sk (s:ai) (p:List Order) (f d:Nat):AV:=.ag (nc fun n=>kI s p f n d)
def yC (s:ai) (p:List Order) (f:Nat):List (List AV):=(List.range s.days.toNat).map fun d=>[aC (d:Nat),Sk s p f d]
theorem sL {s:ai} {p:List Order} {f:Nat}:(yC s p f).length=s.days.toNat:=by simp [yC]
theorem Cm {s:ai} {p:List Order} {f i:Nat} (h:i < s.days.toNat):(yC s p f)[i]?=some [aC (i:Nat),Sk s p f i]:=by
 unfold yC
 rw [List.getElem?_map,List.getElem?_range h]
 rfl
theorem Cn {s:ai} {p:List Order} {f i:Nat} {x:List AV} (h:(yC s p f)[i]?=some x):i < s.days.toNat∧x=[aC (i:Nat),Sk s p f i]:=by
 have hi:i < s.days.toNat:=by
  have:=(List.getElem?_eq_some_iff.1 h).1
  rw [sL] at this
  exact this
 rw [Cm hi] at h
 exact ⟨hi,(Option.some.inj h).symm⟩
end Go.Proofs.YtpeogffeoehboaaDoor
