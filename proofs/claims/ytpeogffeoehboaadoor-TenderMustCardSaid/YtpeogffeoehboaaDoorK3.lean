/-
  Contracts of the program's functions and of the document's. Lemmas alone; their conditions stand in them.
-/
import Derived.Test.YtpeogffeoehboaaDoorK2
open Go Go.RM
namespace Go.Proofs.YtpeogffeoehboaaDoor
set_option maxRecDepth 100000
theorem kG {n:Nat} {e:Nat→Int} (h:(dU n e).2=0):∀ i,i < n→e i=0:=by
 intro i hi
 unfold dU at h
 cases hf:(List.range n).find? (fun i=>e i != 0) with
 | none =>
  rw [List.find?_eq_none] at hf
  have:=hf i (by simpa using hi)
  simpa using this
 | some k =>
  rw [hf] at h
  have h1:(e k != 0)=true:=by have:=List.find?_some hf;exact this
  have h2:e k=0:=h
  rw [h2] at h1
  cases h1
structure Good (s:ai):Prop where
 days:1≤s.days∧s.days≤60
 load:1≤s.load∧s.load≤30
 fail:0≤s.fail∧s.fail≤8
 row:1≤s.row∧s.row≤8
 len:1≤s.needs.length∧s.needs.length≤3
 needs:∀ x ∈ s.needs,je x.name=true∧(1≤x.full∧x.full≤60)∧(0≤x.first∧x.first≤x.full)∧(1≤x.weight∧x.weight≤30)
 many:s.possible.length≤6
 DX:∀ i,i < s.possible.length→gi s.possible s.days 7 i=0
theorem Ag {x:jX} {b:List jX} (h:gw x b=0):je x.name=true∧(1≤x.full∧x.full≤60)∧(0≤x.first∧x.first≤x.full)∧(1≤x.weight∧x.weight≤30):=by
 unfold gw at h
 split at h
 ·cases h
 ·split at h
  ·cases h
  ·split at h
   ·cases h
   ·rename_i h1 _ h3
    simp only [Bool.or_eq_true,not_or,Bool.not_eq_true] at h3
    exact ⟨by simpa using h1,cO h3.1.1,cO h3.1.2,cO h3.2⟩
theorem kW {s:ai} (h:(i7 s).2.2=0):Good s:=by
 unfold i7 at h
 split at h
 ·cases h
 ·split at h
  ·cases h
  ·split at h
   ·rename_i h3;exact absurd h h3
   ·split at h
    ·cases h
    ·split at h
     ·rename_i h5;exact absurd h h5
     ·rename_i h1 h2 h3 h4 h5
      simp only [cZ,Bool.or_eq_true,not_or,Bool.not_eq_true] at h1
      have l2:=cO (by simpa using h2)
      have z3:=kG (Classical.not_not.1 h3)
      have z5:=kG (Classical.not_not.1 h5)
      refine ⟨cO h1.1.1.1,cO h1.1.1.2,cO h1.1.2,cO h1.2,by omega,fun x hx=>?_,by omega,z5⟩
      obtain ⟨i,hi,rfl⟩:=List.mem_iff_getElem.1 hx
      have:=z3 i hi
      unfold fB at this
      rw [List.getElem?_eq_getElem hi] at this
      exact Ag this
theorem ru {s:ai} (h:(i7 s).2.2=0):i7 s=(0,0,0):=by
 unfold i7 at h ⊢
 repeat' split
 all_goals simp_all
def xE (s:ai) (i:Int):Int:=match s.needs[i.toNat]? with
 | some x=>x.weight
 | none=>0
def sK (s:ai) (l:List Int):Int:=(l.map (xE s)).sum
theorem Fm {s:ai} (h:Good s) (i:Int):0≤xE s i∧xE s i≤30:=by
 unfold xE
 cases hi:s.needs[i.toNat]? with
 | none=>simp
 | some x=>have:=(h.needs x (List.mem_of_getElem? hi)).2.2.2;exact ⟨by simp only;omega,by simp only;omega⟩
theorem JZ {s:ai} (h:Good s):∀ l:List Int,0≤sK s l∧sK s l≤30 * l.length
 | []=>by simp [sK]
 | a :: l=>by
  have h1:=Fm h a
  have h2:=JZ h l
  unfold sK at h2 ⊢
  simp only [List.map_cons,List.sum_cons,List.length_cons]
  omega
theorem J0 {s:ai} {l:List Int} {k:Nat} (h:k < l.length):sK s (l.take (k+1))=sK s (l.take k)+xE s l[k]:=by
 unfold sK
 rw [List.take_add_one,List.getElem?_eq_getElem h,List.map_append,List.sum_append]
 simp
def Ah (l:List Int) (many:Nat):Int:=(dU l.length (gi l (many:Int) 4)).2
theorem oL {l:List Int} {many below:Int} {i:Nat} (hb:below ≠ 0) (hi:i < l.length) (h:gi l many below i=0):(0≤l[i]∧l[i] < many)∧(∀ j,j+1=i→(hj:j < l.length)→l[j] < l[i]):=by
 cases e:pL l[i] 0 (many - 1) with
 | false=>rw [Ce hi e] at h;exact absurd h hb
 | true =>
  have e2:=mG.1 e
  refine ⟨by omega,fun j hj hjl=>?_⟩
  subst hj
  rw [JY hi e] at h
  split at h
  ·cases h
  ·omega
theorem J1 {l:List Int} {many below:Int} (hb:below ≠ 0) (h:∀ i,i < l.length→gi l many below i=0):∀ (i j:Nat) (hi:i < l.length) (hj:j < l.length),i < j→l[i] < l[j]:=by
 intro i j hi hj hij
 induction j with
 | zero=>omega
 | succ j ih =>
  have h1:=(oL hb hj (h _ hj)).2 j rfl (by omega)
  by_cases e:i=j
  ·subst e;exact h1
  ·have:=ih (by omega) (by omega);omega
theorem Pj {l:List Int} {many below:Int} (hb:below ≠ 0) (h:∀ i,i < l.length→gi l many below i=0):∀ (i:Nat) (hi:i < l.length),(i:Int)≤l[i]:=by
 intro i hi
 induction i with
 | zero=>exact (oL hb hi (h _ hi)).1.1
 | succ j ih =>
  have h1:=(oL hb hi (h _ hi)).2 j rfl (by omega)
  have:=ih (by omega)
  push_cast
  omega
theorem LN {l:List Int} {many:Nat} {below:Int} (hb:below ≠ 0) (h:∀ i,i < l.length→gi l (many:Int) below i=0):l.length≤many:=by
 cases e:l.length with
 | zero=>omega
 | succ k =>
  have h1:=Pj hb h k (by omega)
  have h2:=(oL hb (i:=k) (by omega) (h k (by omega))).1.2
  omega
theorem Fo {l:List Int} {many:Nat} (h:Ah l many=0):(∀ x ∈ l,0≤x∧x < many)∧l.length≤many∧∀ (i j:Nat) (hi:i < l.length) (hj:j < l.length),i < j→l[i] < l[j]:=by
 have hz:=kG h
 refine ⟨fun x hx=>?_,LN (by decide) hz,J1 (by decide) hz⟩
 obtain ⟨i,hi,rfl⟩:=List.mem_iff_getElem.1 hx
 exact (oL (by decide) hi (hz i hi)).1
def jO (s:ai) (o:Order) (last:Int):Int :=
 if fR 0 (s.days - 1) [o.day]=true then 7 else if o.day≤last then 2 else if o.aO.length=0 then 3
 else if Ah o.aO s.needs.length ≠ 0 then Ah o.aO s.needs.length else if s.load < sK s o.aO then 9 else 0
def lF (p:List Order) (i:Nat):Int:=if i=0 then -1 else match p[i - 1]? with
 | some o=>o.day
 | none=>0
def kH (s:ai) (p:List Order) (i:Nat):Int:=match p[i]? with
 | some o=>jO s o (lF p i)
 | none=>0
def uf (s:ai) (p:List Order):Int × Int:=if 8 < p.length then (0,3) else dU p.length (kH s p)
def ey (s:ai) (p:List Order):Int × Int:=if (i7 s).2.2 ≠ 0 then (0,(i7 s).2.2) else uf s p
structure iK (s:ai) (o:Order):Prop where
 day:0≤o.day∧o.day < s.days
 aO:∀ x ∈ o.aO,0≤x∧x < s.needs.length
 some:1≤o.aO.length
 len:o.aO.length≤s.needs.length
 DX:∀ (i j:Nat) (hi:i < o.aO.length) (hj:j < o.aO.length),i < j→o.aO[i] < o.aO[j]
 load:sK s o.aO≤s.load
structure jP (s:ai) (p:List Order):Prop where
 good:Good s
 len:p.length≤8
 order:∀ o ∈ p,iK s o
 DX:∀ (i j:Nat) (hi:i < p.length) (hj:j < p.length),i < j→p[i].day < p[j].day
theorem xF {s:ai} {o:Order} {last:Int} (h:jO s o last=0):iK s o∧last < o.day:=by
 unfold jO at h
 split at h
 ·cases h
 ·split at h
  ·cases h
  ·split at h
   ·cases h
   ·split at h
    ·rename_i h4;exact absurd h h4
    ·split at h
     ·cases h
     ·rename_i h1 h2 h3 h4 h5
      have d:=cO (by simpa using h1)
      obtain ⟨q1,q2,q3⟩:=Fo (Classical.not_not.1 h4)
      exact ⟨⟨by omega,q1,by omega,q2,q3,by omega⟩,by omega⟩
theorem jQ {s:ai} {p:List Order} (h:(ey s p).2=0):jP s p:=by
 unfold ey at h
 split at h
 ·rename_i h1;exact absurd h h1
 ·rename_i h1
  have hg:=kW (Classical.not_not.1 h1)
  unfold uf at h
  split at h
  ·cases h
  ·have hz:=kG h
   have ho:∀ i (hi:i < p.length),iK s p[i]∧lF p i < p[i].day:=fun i hi=>by
    have:=hz i hi
    unfold kH at this
    rw [List.getElem?_eq_getElem hi] at this
    exact xF this
   refine ⟨hg,by omega,fun o ho'=>?_,?_⟩
   ·obtain ⟨i,hi,rfl⟩:=List.mem_iff_getElem.1 ho'
    exact (ho i hi).1
   ·intro i j hi hj hij
    induction j with
    | zero=>omega
    | succ j ih =>
     have h1:=(ho _ hj).2
     have h2:lF p (j+1)=p[j].day:=by
      unfold lF
      rw [if_neg (by omega),Nat.add_sub_cancel,List.getElem?_eq_getElem (by omega)]
     rw [h2] at h1
     by_cases e:i=j
     ·subst e;exact h1
     ·have:=ih (by omega) (by omega);omega
set_option maxHeartbeats 4000000
theorem Fp {s:ai} {x:Int} (h:0≤x∧x < s.needs.length):∃ nd,s.needs[x.toNat]?=some nd∧(s.needs.map aV)[x.toNat]?=some (aV nd)∧xE s x=nd.weight:=by
 have hlt:x.toNat < s.needs.length:=by omega
 refine ⟨s.needs[x.toNat],List.getElem?_eq_getElem hlt,by rw [List.getElem?_map,List.getElem?_eq_getElem hlt];rfl,?_⟩
 unfold xE
 rw [List.getElem?_eq_getElem hlt]
theorem vZ (one:Bool) {s:ai} (hg:Good s) (l:List Int) (full:Bool) (hl:l.length≤s.needs.length) (hr:∀ x ∈ l,0≤x∧x < s.needs.length):Pu one 72 [.ag (az s),.sl (ints l) full] (aC (sK s l)):=by
 have ml:l.length≤9223372036854775807:=by have:=hg.len;omega
 have eg:((ints l).length:Int)=l.length:=by simp
 have hl3:l.length≤3:=by have:=hg.len;omega
 obtain ⟨n,hn⟩:∃ n:Int,n=l.length:=⟨_,rfl⟩
 refine ah.body (fn:=Tryd.f72) rfl rfl rfl rfl ?_
 refine aa (mu:=fun _=>false) ?_
 repeat' (first |refine u1 ?_ |refine u2 ?_ |fail)
 refine aA.aX (aj.to (l:=[(2,.pt (az s) 0),(4,aC (sK s (l.take 0))),(7,.sl (ints l) full),(8,aC n),(9,aC (0:Nat))]) (hp:=[]) 0 rfl ⟨rfl,rfl,rfl,bW (by rw [hn];exact eg),rfl,trivial⟩ (Nat.zero_le _) rfl rfl) ?_
 refine aA.loop (fun k:Nat=>k≤l.length) (fun k=>⟨bx [(2,.pt (az s) 0),(4,aC (sK s (l.take k))),(7,.sl (ints l) full),(8,aC n),(9,aC (k:Nat))],[],bG.none,false,0⟩) (fun k=>l.length - k) ?_ 0 (Nat.zero_le _)
 intro k hk
 refine aa (mu:=fun _=>false) ?_
 by_cases hlt:k < l.length
 ·have d1:decide ((k:Int) < n)=true:=decide_eq_true (by omega)
  have hat:(ints l)[((k:Nat):Int).toNat]?=some (eI l[k]):=cI hlt
  have hb:=hr _ (List.getElem_mem hlt)
  have ht:=J0 (s:=s) hlt
  have hw:=JZ hg (l.take k)
  have hwl:(l.take k).length=k:=by rw [List.length_take];omega
  generalize l[k]=x at *
  obtain ⟨nd,h1,h2,h3⟩:=Fp hb
  have hnw:=(hg.needs nd (List.mem_of_getElem? h1)).2.2.2
  rw [h3] at ht
  repeat' (first |refine u1 ?_ |((with_reducible show RM.wpOp _ _ (.indexAddr _ _ _) _ _ _);refine ⟨eI x,⟨by omega,hat⟩,rfl,?_⟩) |((with_reducible show RM.wpOp _ _ (.indexAddr _ _ _) _ _ _);refine ⟨aV nd,⟨by omega,h2⟩,rfl,?_⟩) |refine u2 ?_ |fail)
  exact ⟨k+1,hlt,(by dsimp only;omega),aj.to 0 rfl ⟨rfl,bW ht.symm,rfl,rfl,bW (by simp),trivial⟩ (Nat.zero_le _) rfl rfl⟩
 ·have d1:decide ((k:Int) < n)=false:=decide_eq_false (by omega)
  have e:l.take k=l:=List.take_of_length_le (by omega)
  rw [e]
  repeat' (first |refine u1 ?_ |refine u2 ?_ |fail)
  exact ⟨[_],⟨Fz.deep rfl,trivial⟩,rfl⟩
def hasB (l:List Int) (a:Int):Bool:=l.any fun x=>decide (x=a)
theorem jR {l:List Int} {a:Int}:hasB l a=true ↔ a ∈ l:=by simp [hasB]
theorem Rr (one:Bool) (l:List Int) (full:Bool) (a:Int) (hl:l.length≤maxLen):Pu one 38 [.sl (ints l) full,aC a] (BB (hasB l a)):=by
 have ml:l.length≤9223372036854775807:=Nat.le_trans hl (by simp [maxLen])
 have eg:((ints l).length:Int)=l.length:=by simp
 refine ah.body (fn:=Tryd.f38) rfl rfl rfl rfl ?_
 refine aa (mu:=fun _=>false) ?_
 repeat' (first |refine u1 ?_ |refine u2 ?_ |fail)
 refine aA.aX (aj.to (l:=[(0,.sl (ints l) full),(1,aC a),(5,aC (0:Nat))]) (hp:=[]) 0 rfl ⟨rfl,rfl,rfl,trivial⟩ (Nat.zero_le _) rfl rfl) ?_
 refine aA.loop (fun k:Nat=>k≤l.length∧∀ i (h:i < l.length),i < k→l[i] ≠ a) (fun k=>⟨bx [(0,.sl (ints l) full),(1,aC a),(5,aC (k:Nat))],[],bG.none,false,0⟩) (fun k=>l.length - k) ?_ 0 ⟨Nat.zero_le _,fun i _ hi=>absurd hi (Nat.not_lt_zero _)⟩
 rintro k ⟨hk,hprev⟩
 refine aa (mu:=fun _=>false) ?_
 by_cases hlt:k < l.length
 ·have d1:decide ((k:Int) < ((ints l).length:Int))=true:=decide_eq_true (by omega)
  have hat:(ints l)[((k:Nat):Int).toNat]?=some (eI l[k]):=cI hlt
  by_cases hx:l[k]=a
  ·have hh:hasB l a=true:=jR.2 (by rw [←hx];exact List.getElem_mem hlt)
   have d2:=decide_eq_true hx
   rw [hh]
   generalize l[k]=x at *
   repeat' (first |refine u1 ?_ |((with_reducible show RM.wpOp _ _ (.indexAddr _ _ _) _ _ _);refine ⟨eI x,⟨by omega,hat⟩,rfl,?_⟩) |refine u2 ?_ |fail)
   exact ⟨[_],⟨Fz.deep rfl,trivial⟩,rfl⟩
  ·have d2:=decide_eq_false hx
   have hn:∀ i (h:i < l.length),i < k+1→l[i] ≠ a:=fun i hi hik=>by
    by_cases e:i=k
    ·subst e;exact hx
    ·exact hprev i hi (by omega)
   generalize l[k]=x at *
   repeat' (first |refine u1 ?_ |((with_reducible show RM.wpOp _ _ (.indexAddr _ _ _) _ _ _);refine ⟨eI x,⟨by omega,hat⟩,rfl,?_⟩) |refine u2 ?_ |fail)
   exact ⟨k+1,⟨hlt,hn⟩,(by dsimp only;omega),aj.to 0 rfl ⟨rfl,rfl,bW (by simp),trivial⟩ (Nat.zero_le _) rfl rfl⟩
 ·have d1:decide ((k:Int) < ((ints l).length:Int))=false:=decide_eq_false (by omega)
  have hh:hasB l a=false:=by
   cases e:hasB l a with
   | false=>rfl
   | true =>
    obtain ⟨i,hi,hia⟩:=List.mem_iff_getElem.1 (jR.1 e)
    exact absurd hia (hprev i hi (by omega))
  rw [hh]
  repeat' (first |refine u1 ?_ |refine u2 ?_ |fail)
  exact ⟨[_],⟨Fz.deep rfl,trivial⟩,rfl⟩
theorem ry {s:ai} (h:cZ s=false) (h1:fR 1 3 [(s.needs.length:Int)]=false) (hprev:∀ i,i < s.needs.length→fB s i=0) (h2:¬ 6 < s.possible.length) {k:Nat} {v:Int} (hk:k < s.possible.length) (hp:∀ i,i < k→gi s.possible s.days 7 i=0) (hv:gi s.possible s.days 7 k=v) (h0:v ≠ 0):i7 s=(3,(k:Int),v):=by
 rw [vX h h1 hprev h2,kE hk hp (by rw [hv];exact h0),hv,if_pos h0]
theorem LO {s:ai} (h:cZ s=false) (h1:fR 1 3 [(s.needs.length:Int)]=false) (hprev:∀ i,i < s.needs.length→fB s i=0) (h2:¬ 6 < s.possible.length) (hp:∀ i,i < s.possible.length→gi s.possible s.days 7 i=0):i7 s=(0,0,0):=by
 rw [vX h h1 hprev h2,fS hp];rfl
theorem J2 (one:Bool) (s:ai) (h:s.Ok):Pu one 14 [.ag (az s)] (.tp [aC (i7 s).1,aC (i7 s).2.1,aC (i7 s).2.2]):=by
 have eg:((s.needs.map aV).length:Int)=s.needs.length:=by simp
 have o1:=mH one s.days 1 60
 have o2:=mH one s.load 1 30
 have o3:=mH one s.fail 0 8
 have o4:=mH one s.row 1 8
 have o5:=mH one ((s.needs.map aV).length:Int) 1 3
 rw [eg] at o5
 cases e1:pL s.days 1 60 with
 | false =>
  rw [e1] at o1
  rw [iX (by unfold cZ;rw [bR,e1];simp)]
  refine ah.body (fn:=Tryd.f14) rfl rfl rfl rfl ?_
  refine aa (mu:=fun t=>Nat.beq t 57) ?_
  repeat' (first |refine u1 ?_ |((with_reducible show av _ _ _ _ _ _ _ _);refine ah.call o1 rfl rfl ?_) |refine u2 ?_ |fail)
  exact ⟨[_,_,_],⟨Fz.deep rfl,Fz.deep rfl,Fz.deep rfl,trivial⟩,rfl⟩
 | true =>
  rw [e1] at o1
  cases e2:pL s.load 1 30 with
  | false =>
   rw [e2] at o2
   rw [iX (by unfold cZ;rw [bR,e1,bR,e2];simp)]
   refine ah.body (fn:=Tryd.f14) rfl rfl rfl rfl ?_
   refine aa (mu:=fun t=>Nat.beq t 57) ?_
   repeat' (first |refine u1 ?_ |((with_reducible show av _ _ _ _ _ _ _ _);refine ah.call o1 rfl rfl ?_) |((with_reducible show av _ _ _ _ _ _ _ _);refine ah.call o2 rfl rfl ?_) |refine u2 ?_ |fail)
   exact ⟨[_,_,_],⟨Fz.deep rfl,Fz.deep rfl,Fz.deep rfl,trivial⟩,rfl⟩
  | true =>
   rw [e2] at o2
   cases e3:pL s.fail 0 8 with
   | false =>
    rw [e3] at o3
    rw [iX (by unfold cZ;rw [bR,e1,bR,e2,bR,e3];simp)]
    refine ah.body (fn:=Tryd.f14) rfl rfl rfl rfl ?_
    refine aa (mu:=fun t=>Nat.beq t 57) ?_
    repeat' (first |refine u1 ?_ |((with_reducible show av _ _ _ _ _ _ _ _);refine ah.call o1 rfl rfl ?_) |((with_reducible show av _ _ _ _ _ _ _ _);refine ah.call o2 rfl rfl ?_) |((with_reducible show av _ _ _ _ _ _ _ _);refine ah.call o3 rfl rfl ?_) |refine u2 ?_ |fail)
    exact ⟨[_,_,_],⟨Fz.deep rfl,Fz.deep rfl,Fz.deep rfl,trivial⟩,rfl⟩
   | true =>
    rw [e3] at o3
    cases e4:pL s.row 1 8 with
    | false =>
     rw [e4] at o4
     rw [iX (by unfold cZ;rw [bR,e1,bR,e2,bR,e3,bR,e4];simp)]
     refine ah.body (fn:=Tryd.f14) rfl rfl rfl rfl ?_
     refine aa (mu:=fun t=>Nat.beq t 57) ?_
     repeat' (first |refine u1 ?_ |((with_reducible show av _ _ _ _ _ _ _ _);refine ah.call o1 rfl rfl ?_) |((with_reducible show av _ _ _ _ _ _ _ _);refine ah.call o2 rfl rfl ?_) |((with_reducible show av _ _ _ _ _ _ _ _);refine ah.call o3 rfl rfl ?_) |((with_reducible show av _ _ _ _ _ _ _ _);refine ah.call o4 rfl rfl ?_) |refine u2 ?_ |fail)
     exact ⟨[_,_,_],⟨Fz.deep rfl,Fz.deep rfl,Fz.deep rfl,trivial⟩,rfl⟩
    | true =>
     rw [e4] at o4
     have hb:cZ s=false:=by unfold cZ;rw [bR,bR,bR,bR,e1,e2,e3,e4];rfl
     cases e5:pL (s.needs.length:Int) 1 3 with
     | false =>
      rw [Cc hb (by rw [bR,e5];rfl)]
      rw [e5,←eg] at o5
      refine ah.body (fn:=Tryd.f14) rfl rfl rfl rfl ?_
      refine aa (mu:=fun t=>Nat.beq t 57) ?_
      repeat' (first |refine u1 ?_ |((with_reducible show av _ _ _ _ _ _ _ _);refine ah.call o1 rfl rfl ?_) |((with_reducible show av _ _ _ _ _ _ _ _);refine ah.call o2 rfl rfl ?_) |((with_reducible show av _ _ _ _ _ _ _ _);refine ah.call o3 rfl rfl ?_) |((with_reducible show av _ _ _ _ _ _ _ _);refine ah.call o4 rfl rfl ?_) |((with_reducible show av _ _ _ _ _ _ _ _);refine ah.call o5 rfl rfl ?_) |refine u2 ?_ |fail)
      exact ⟨[_,_,_],⟨Fz.deep rfl,Fz.deep rfl,Fz.deep rfl,trivial⟩,rfl⟩
     | true =>
      rw [e5,←eg] at o5
      have hl:fR 1 3 [(s.needs.length:Int)]=false:=by rw [bR,e5];rfl
      have hn3:s.needs.length≤3:=by
       have:=cO hl
       omega
      refine ah.body (fn:=Tryd.f14) rfl rfl rfl rfl ?_
      refine aa (mu:=fun t=>Nat.beq t 57) ?_
      repeat' (first |refine u1 ?_ |((with_reducible show av _ _ _ _ _ _ _ _);refine ah.call o1 rfl rfl ?_) |((with_reducible show av _ _ _ _ _ _ _ _);refine ah.call o2 rfl rfl ?_) |((with_reducible show av _ _ _ _ _ _ _ _);refine ah.call o3 rfl rfl ?_) |((with_reducible show av _ _ _ _ _ _ _ _);refine ah.call o4 rfl rfl ?_) |((with_reducible show av _ _ _ _ _ _ _ _);refine ah.call o5 rfl rfl ?_) |refine u2 ?_ |fail)
      refine aA.aX (aj.trans (aj.qc 1) (aj.NC (l:=[(1,.pt (az s) 0),(5,.bI 0 (0,0,0).2.1 0 (0,0,0).1 (0,0,0).2.2),(6,aC ((0,0,0).1:Nat))]) (hp:=[.cells (fT (s.needs.take (0,0,0).1)) 1 (0,0,0).2.1]) 1 rfl ⟨bO.refl _,bO.qb,bO.refl _,trivial⟩ (Nat.zero_le _) rfl (yA _ _))) ?_
      refine aA.loop (fun x:Nat × Nat × Nat=>x.1≤s.needs.length∧(∀ i,i < x.1→fB s i=0)∧(x.2.2=x.1∨x.2.2=x.1+1)) (fun x=>⟨bx [(1,.pt (az s) 0),(5,.bI 0 x.2.1 0 x.1 x.2.2),(6,aC (x.1:Nat))],[.cells (fT (s.needs.take x.1)) 1 x.2.1],bG.none,false,0⟩) (fun x=>s.needs.length - x.1) ?_ (0,0,0) ⟨Nat.zero_le _,(fun i hi=>absurd hi (Nat.not_lt_zero _)),.inl rfl⟩
      rintro ⟨k,aB,c⟩ ⟨hk,hprev,hcap⟩
      dsimp only at hk hprev hcap
      show aA _ _ _ _ ⟨bx [(1,.pt (az s) 0),(5,.bI 0 (k,aB,c).2.1 0 (k,aB,c).1 (k,aB,c).2.2),(6,aC ((k,aB,c).1:Nat))],[.cells (fT (s.needs.take (k,aB,c).1)) 1 (k,aB,c).2.1],bG.none,false,0⟩ _
      dsimp only
      refine aa (mu:=fun t=>Nat.beq t 57) ?_
      by_cases hlt:k < s.needs.length
      ·have d5:decide ((k:Int) < ((s.needs.map aV).length:Int))=true:=decide_eq_true (by omega)
       have hat:(s.needs.map aV)[((k:Nat):Int).toNat]?=some (aV s.needs[k]):=cI hlt
       have hga:fB s k=Af s.needs[k] (s.needs.take k):=by unfold fB;rw [List.getElem?_eq_getElem hlt];exact LM _ _
       have hfr:=LL one ((s.needs.take k).map (·.name)) false s.needs[k].name (h.names _ (List.getElem_mem hlt)) (by simp [maxLen];omega)
       have o6:=mH one s.needs[k].full 1 60
       have o7:=mH one s.needs[k].first 0 s.needs[k].full
       have o8:=mH one s.needs[k].weight 1 30
       have htl:(s.needs.take k).length=k:=by rw [List.length_take];omega
       have hnt:=Cf hlt
       have hgl:(fT (s.needs.take k)).length=k:=by unfold fT;rw [List.length_map,htl]
       generalize s.needs[k]=g at *
       generalize hE:lE g.name ((s.needs.take k).map (·.name))=E at *
       have z00:decide ((0:Int)=0)=true:=by decide
       have z70:decide ((7:Int)=0)=false:=by decide
       have n00:(!decide ((0:Int)=0))=false:=by decide
       have n70:(!decide ((7:Int)=0))=true:=by decide
       unfold Af at hga
       rw [hE] at hga
       repeat' (first |((with_reducible show RM.wpOp _ _ (.call _) _ _ _);refine RM.DP (cs:=fT (s.needs.take k)) (n:=k) (els:=[eS g.name]) rfl rfl rfl rfl rfl (fun el hel=>by rw [List.mem_singleton.1 hel];rfl) rfl rfl (by rw [hgl];exact (Nat.mul_one _).symm) hcap (by simp only [List.length_singleton];omega) (fun v' c' hc'=>?_)) |refine u1 ?_ |((with_reducible show RM.wpOp _ _ (.indexAddr _ _ _) _ _ _);refine ⟨aV g,⟨by omega,hat⟩,rfl,?_⟩) |((with_reducible show av _ _ _ _ _ _ _ _);refine ah.Lw hfr rfl (nk.two (Fz.deep rfl) (Gk _ htl)) (fA.fl _) ?_) |refine u2 ?_ |fail)
       by_cases g1:E=0
       ·rw [if_neg (by omega)] at hga
        have d7:decide (E=0)=true:=decide_eq_true g1
        have d7':(!decide (E=0))=false:=by rw [d7];rfl
        have bad:(pL g.full 1 60=false∨pL g.first 0 g.full=false∨pL g.weight 1 30=false)→i7 s=(2,(k:Int),7):=fun hb2=>by
         rw [if_pos hb2] at hga
         exact DV hb hl hlt hprev hga (by decide)
        cases g2:pL g.full 1 60 with
        | false =>
         rw [g2] at o6
         rw [bad (.inl g2)]
         repeat' (first |((with_reducible show av _ _ _ _ _ _ _ _);refine ah.call o6 rfl rfl ?_) |((with_reducible show av _ _ _ _ _ _ _ _);refine ah.call o7 rfl rfl ?_) |((with_reducible show av _ _ _ _ _ _ _ _);refine ah.call o8 rfl rfl ?_) |refine u1 ?_ |refine u2 ?_ |fail)
         exact ⟨[_,_,_],⟨Fz.deep rfl,Fz.deep rfl,Fz.deep rfl,trivial⟩,rfl⟩
        | true =>
         rw [g2] at o6
         cases g3:pL g.first 0 g.full with
         | false =>
          rw [g3] at o7
          rw [bad (.inr (.inl g3))]
          repeat' (first |((with_reducible show av _ _ _ _ _ _ _ _);refine ah.call o6 rfl rfl ?_) |((with_reducible show av _ _ _ _ _ _ _ _);refine ah.call o7 rfl rfl ?_) |((with_reducible show av _ _ _ _ _ _ _ _);refine ah.call o8 rfl rfl ?_) |refine u1 ?_ |refine u2 ?_ |fail)
          exact ⟨[_,_,_],⟨Fz.deep rfl,Fz.deep rfl,Fz.deep rfl,trivial⟩,rfl⟩
         | true =>
          rw [g3] at o7
          cases g4:pL g.weight 1 30 with
          | false =>
           rw [g4] at o8
           rw [bad (.inr (.inr g4))]
           repeat' (first |((with_reducible show av _ _ _ _ _ _ _ _);refine ah.call o6 rfl rfl ?_) |((with_reducible show av _ _ _ _ _ _ _ _);refine ah.call o7 rfl rfl ?_) |((with_reducible show av _ _ _ _ _ _ _ _);refine ah.call o8 rfl rfl ?_) |refine u1 ?_ |refine u2 ?_ |fail)
           exact ⟨[_,_,_],⟨Fz.deep rfl,Fz.deep rfl,Fz.deep rfl,trivial⟩,rfl⟩
          | true =>
           rw [g4] at o8
           rw [if_neg (by rw [g2,g3,g4];simp)] at hga
           repeat' (first |((with_reducible show av _ _ _ _ _ _ _ _);refine ah.call o6 rfl rfl ?_) |((with_reducible show av _ _ _ _ _ _ _ _);refine ah.call o7 rfl rfl ?_) |((with_reducible show av _ _ _ _ _ _ _ _);refine ah.call o8 rfl rfl ?_) |refine u1 ?_ |refine u2 ?_ |fail)
           refine ⟨(k+1,v',c'),⟨hlt,(fun i hi=>?_),hc'⟩,(by dsimp only;omega),?_⟩
           ·by_cases hik:i=k
            ·subst hik;exact hga
            ·exact hprev i (by dsimp only at hi;omega)
           ·exact aj.to 1 (by dsimp only;rw [hnt];rfl) ⟨rfl,rfl,bW (by simp),trivial⟩ (Nat.zero_le _) rfl (yA _ _)
       ·rw [if_pos g1] at hga
        rw [DV hb hl hlt hprev hga g1]
        have d7:decide (E=0)=false:=decide_eq_false g1
        have d7':(!decide (E=0))=true:=by rw [d7];rfl
        repeat' (first |((with_reducible show av _ _ _ _ _ _ _ _);refine ah.call o6 rfl rfl ?_) |((with_reducible show av _ _ _ _ _ _ _ _);refine ah.call o7 rfl rfl ?_) |((with_reducible show av _ _ _ _ _ _ _ _);refine ah.call o8 rfl rfl ?_) |refine u1 ?_ |refine u2 ?_ |fail)
        exact ⟨[_,_,_],⟨Fz.deep rfl,Fz.deep rfl,Fz.deep rfl,trivial⟩,rfl⟩
      ·have hkn:k=s.needs.length:=by omega
       have d5:decide ((k:Int) < ((s.needs.map aV).length:Int))=false:=decide_eq_false (by omega)
       subst hkn
       have ep:((ints s.possible).length:Int)=s.possible.length:=by simp
       have mp:s.possible.length≤9223372036854775807:=Nat.le_trans h.possible (by simp [maxLen])
       have hd:=mG.1 e1
       by_cases h6:6 < s.possible.length
       ·have d2:decide (6 < ((ints s.possible).length:Int))=true:=decide_eq_true (by rw [ep];omega)
        rw [Cd hb hl hprev h6]
        repeat' (first |refine u1 ?_ |refine u2 ?_ |fail)
        exact ⟨[_,_,_],⟨Fz.deep rfl,Fz.deep rfl,Fz.deep rfl,trivial⟩,rfl⟩
       ·have d2:decide (6 < ((ints s.possible).length:Int))=false:=decide_eq_false (by rw [ep];omega)
        repeat' (first |refine u1 ?_ |refine u2 ?_ |fail)
        refine aA.aX (aj.to (l:=[(1,.pt (az s) 0),(9,aC (0:Nat))]) (hp:=[]) 0 rfl ⟨rfl,rfl,trivial⟩ (Nat.zero_le _) rfl rfl) ?_
        refine aA.loop (fun q:Nat=>q≤s.possible.length∧∀ i,i < q→gi s.possible s.days 7 i=0) (fun q=>⟨bx [(1,.pt (az s) 0),(9,aC (q:Nat))],[],bG.none,false,0⟩) (fun q=>s.possible.length - q) ?_ 0 ⟨Nat.zero_le _,fun i hi=>absurd hi (Nat.not_lt_zero _)⟩
        rintro q ⟨hq,hpp⟩
        refine aa (mu:=fun _=>false) ?_
        by_cases hqt:q < s.possible.length
        ·have d6:decide ((q:Int) < ((ints s.possible).length:Int))=true:=decide_eq_true (by omega)
         have hqa:(ints s.possible)[((q:Nat):Int).toNat]?=some (eI s.possible[q]):=cI hqt
         have o9:=mH true s.possible[q] 0 (s.days - 1)
         cases e9:pL s.possible[q] 0 (s.days - 1) with
         | false =>
          rw [e9] at o9
          rw [ry hb hl hprev h6 hqt hpp (Ce hqt e9) (by decide)]
          generalize s.possible[q]=g at *
          repeat' (first |(refine ⟨_,o9,?_⟩) |refine u1 ?_ |((with_reducible show RM.wpOp _ _ (.indexAddr _ _ _) _ _ _);refine ⟨eI g,⟨by omega,hqa⟩,rfl,?_⟩) |refine u2 ?_ |fail)
          exact ⟨[_,_,_],⟨Fz.deep rfl,Fz.deep rfl,Fz.deep rfl,trivial⟩,rfl⟩
         | true =>
          rw [e9] at o9
          cases q with
          | zero =>
           have hz:=Ph (below:=7) hqt e9
           generalize s.possible[0]=g at *
           repeat' (first |(refine ⟨_,o9,?_⟩) |refine u1 ?_ |((with_reducible show RM.wpOp _ _ (.indexAddr _ _ _) _ _ _);refine ⟨eI g,⟨by omega,hqa⟩,rfl,?_⟩) |refine u2 ?_ |fail)
           refine ⟨1,⟨hqt,fun i hi=>?_⟩,(by dsimp only;omega),aj.to 0 rfl ⟨rfl,bW (by simp),trivial⟩ (Nat.zero_le _) rfl rfl⟩
           obtain rfl:i=0:=by omega
           exact hz
          | succ m =>
           have hs:=JY (below:=7) hqt e9
           have d0:decide ((0:Int) < ((m+1:Nat):Int))=true:=decide_eq_true (by omega)
           have hqb:(ints s.possible)[(((m+1:Nat):Int) - 1).toNat]?=some (eI s.possible[m]):=by
            rw [show (((m+1:Nat):Int) - 1)=((m:Nat):Int) by omega]
            exact cI (by omega)
           generalize s.possible[m+1]=g at *
           generalize s.possible[m]=g' at *
           by_cases hgg:g≤g'
           ·rw [if_pos hgg] at hs
            have dg:=decide_eq_true hgg
            rw [ry hb hl hprev h6 hqt hpp hs (by decide)]
            repeat' (first |(refine ⟨_,o9,?_⟩) |refine u1 ?_ |((with_reducible show RM.wpOp _ _ (.indexAddr _ _ _) _ _ _);refine ⟨eI g,⟨by omega,hqa⟩,rfl,?_⟩) |((with_reducible show RM.wpOp _ _ (.indexAddr _ _ _) _ _ _);refine ⟨eI g',⟨by omega,hqb⟩,rfl,?_⟩) |refine u2 ?_ |fail)
            exact ⟨[_,_,_],⟨Fz.deep rfl,Fz.deep rfl,Fz.deep rfl,trivial⟩,rfl⟩
           ·rw [if_neg hgg] at hs
            have dg:=decide_eq_false hgg
            repeat' (first |(refine ⟨_,o9,?_⟩) |refine u1 ?_ |((with_reducible show RM.wpOp _ _ (.indexAddr _ _ _) _ _ _);refine ⟨eI g,⟨by omega,hqa⟩,rfl,?_⟩) |((with_reducible show RM.wpOp _ _ (.indexAddr _ _ _) _ _ _);refine ⟨eI g',⟨by omega,hqb⟩,rfl,?_⟩) |refine u2 ?_ |fail)
            refine ⟨m+1+1,⟨hqt,fun i hi=>?_⟩,(by dsimp only;omega),aj.to 0 rfl ⟨rfl,bW (by simp),trivial⟩ (Nat.zero_le _) rfl rfl⟩
            by_cases hik:i=m+1
            ·subst hik;exact hs
            ·exact hpp i (by omega)
        ·have d6:decide ((q:Int) < ((ints s.possible).length:Int))=false:=decide_eq_false (by omega)
         rw [LO hb hl hprev h6 (fun i hi=>hpp i (by omega))]
         repeat' (first |refine u1 ?_ |refine u2 ?_ |fail)
         exact ⟨[_,_,_],⟨Fz.deep rfl,Fz.deep rfl,Fz.deep rfl,trivial⟩,rfl⟩
end Go.Proofs.YtpeogffeoehboaaDoor
