/-
  Contracts of the program's functions and of the document's. Lemmas alone; their conditions stand in them.
-/
import Derived.Test.YtpeogffeoehboaaGreatDoorK2
open Go Go.RM
namespace Go.Proofs.YtpeogffeoehboaaGreatDoor
set_option maxRecDepth 100000
theorem kH {n:Nat} {e:Nat→Int} (h:(cZ n e).2=0):∀ i,i < n→e i=0:=by
 intro i hi
 unfold cZ at h
 cases hf:(List.range n).find? (fun i=>e i != 0) with
 | none =>
  rw [List.find?_eq_none] at hf
  have:=hf i (by simpa using hi)
  simpa using this
 | some k =>
  rw [hf] at h
  have h1:(e k != 0)=true:=by have:=List.find?_some hf;exact this
  have h2:e k=0:=h
  rw [h2] at h1
  cases h1
structure Good (s:au):Prop where
 days:1≤s.days∧s.days≤60
 load:1≤s.load∧s.load≤30
 fail:0≤s.fail∧s.fail≤8
 row:1≤s.row∧s.row≤8
 len:1≤s.needs.length∧s.needs.length≤3
 needs:∀ x ∈ s.needs,jc x.name=true∧(1≤x.full∧x.full≤60)∧(0≤x.first∧x.first≤x.full)∧(1≤x.weight∧x.weight≤30)
 many:s.possible.length≤6
 PJ:∀ i,i < s.possible.length→fo s.possible s.days 7 i=0
theorem zI {x:jX} {b:List jX} (h:fV x b=0):jc x.name=true∧(1≤x.full∧x.full≤60)∧(0≤x.first∧x.first≤x.full)∧(1≤x.weight∧x.weight≤30):=by
 unfold fV at h
 split at h
 ·cases h
 ·split at h
  ·cases h
  ·split at h
   ·cases h
   ·rename_i h1 _ h3
    simp only [Bool.or_eq_true,not_or,Bool.not_eq_true] at h3
    exact ⟨by simpa using h1,cD h3.1.1,cD h3.1.2,cD h3.2⟩
theorem Db {s:au} (h:(nE s).2.2=0):Good s:=by
 unfold nE at h
 split at h
 ·cases h
 ·split at h
  ·cases h
  ·split at h
   ·rename_i h3;exact absurd h h3
   ·split at h
    ·cases h
    ·split at h
     ·rename_i h5;exact absurd h h5
     ·rename_i h1 h2 h3 h4 h5
      simp only [cM,Bool.or_eq_true,not_or,Bool.not_eq_true] at h1
      have l2:=cD (by simpa using h2)
      have z3:=kH (Classical.not_not.1 h3)
      have z5:=kH (Classical.not_not.1 h5)
      refine ⟨cD h1.1.1.1,cD h1.1.1.2,cD h1.1.2,cD h1.2,by omega,fun x hx=>?_,by omega,z5⟩
      obtain ⟨i,hi,rfl⟩:=List.mem_iff_getElem.1 hx
      have:=z3 i hi
      unfold eM at this
      rw [List.getElem?_eq_getElem hi] at this
      exact zI this
theorem BM {s:au} (h:(nE s).2.2=0):nE s=(0,0,0):=by
 unfold nE at h ⊢
 repeat' split
 all_goals simp_all
def NQ (s:au) (i:Int):Int:=match s.needs[i.toNat]? with
 | some x=>x.weight
 | none=>0
def Ab (s:au) (l:List Int):Int:=(l.map (NQ s)).sum
theorem PK {s:au} (h:Good s) (i:Int):0≤NQ s i∧NQ s i≤30:=by
 unfold NQ
 cases hi:s.needs[i.toNat]? with
 | none=>simp
 | some x=>have:=(h.needs x (List.mem_of_getElem? hi)).2.2.2;exact ⟨by simp only;omega,by simp only;omega⟩
theorem IV {s:au} (h:Good s):∀ l:List Int,0≤Ab s l∧Ab s l≤30 * l.length
 | []=>by simp [Ab]
 | a :: l=>by
  have h1:=PK h a
  have h2:=IV h l
  unfold Ab at h2 ⊢
  simp only [List.map_cons,List.sum_cons,List.length_cons]
  omega
theorem BN {s:au} {l:List Int} {k:Nat} (h:k < l.length):Ab s (l.take (k+1))=Ab s (l.take k)+NQ s l[k]:=by
 unfold Ab
 rw [List.take_add_one,List.getElem?_eq_getElem h,List.map_append,List.sum_append]
 simp
def kU (l:List Int) (many:Nat):Int:=(cZ l.length (fo l (many:Int) 4)).2
theorem qJ {l:List Int} {many below:Int} {i:Nat} (hb:below ≠ 0) (hi:i < l.length) (h:fo l many below i=0):(0≤l[i]∧l[i] < many)∧(∀ j,j+1=i→(hj:j < l.length)→l[j] < l[i]):=by
 cases e:nD l[i] 0 (many - 1) with
 | false=>rw [vF hi e] at h;exact absurd h hb
 | true =>
  have e2:=mz.1 e
  refine ⟨by omega,fun j hj hjl=>?_⟩
  subst hj
  rw [C9 hi e] at h
  split at h
  ·cases h
  ·omega
theorem NR {l:List Int} {many below:Int} (hb:below ≠ 0) (h:∀ i,i < l.length→fo l many below i=0):∀ (i j:Nat) (hi:i < l.length) (hj:j < l.length),i < j→l[i] < l[j]:=by
 intro i j hi hj hij
 induction j with
 | zero=>omega
 | succ j ih =>
  have h1:=(qJ hb hj (h _ hj)).2 j rfl (by omega)
  by_cases e:i=j
  ·subst e;exact h1
  ·have:=ih (by omega) (by omega);omega
theorem NS {l:List Int} {many below:Int} (hb:below ≠ 0) (h:∀ i,i < l.length→fo l many below i=0):∀ (i:Nat) (hi:i < l.length),(i:Int)≤l[i]:=by
 intro i hi
 induction i with
 | zero=>exact (qJ hb hi (h _ hi)).1.1
 | succ j ih =>
  have h1:=(qJ hb hi (h _ hi)).2 j rfl (by omega)
  have:=ih (by omega)
  push_cast
  omega
theorem Kw {l:List Int} {many:Nat} {below:Int} (hb:below ≠ 0) (h:∀ i,i < l.length→fo l (many:Int) below i=0):l.length≤many:=by
 cases e:l.length with
 | zero=>omega
 | succ k =>
  have h1:=NS hb h k (by omega)
  have h2:=(qJ hb (i:=k) (by omega) (h k (by omega))).1.2
  omega
theorem tG {l:List Int} {many:Nat} (h:kU l many=0):(∀ x ∈ l,0≤x∧x < many)∧l.length≤many∧∀ (i j:Nat) (hi:i < l.length) (hj:j < l.length),i < j→l[i] < l[j]:=by
 have hz:=kH h
 refine ⟨fun x hx=>?_,Kw (by decide) hz,NR (by decide) hz⟩
 obtain ⟨i,hi,rfl⟩:=List.mem_iff_getElem.1 hx
 exact (qJ (by decide) hi (hz i hi)).1
def iK (s:au) (o:Order) (last:Int):Int :=
 if fH 0 (s.days - 1) [o.day]=true then 7 else if o.day≤last then 2 else if o.aG.length=0 then 3
 else if kU o.aG s.needs.length ≠ 0 then kU o.aG s.needs.length else if s.load < Ab s o.aG then 9 else 0
def kI (p:List Order) (i:Nat):Int:=if i=0 then -1 else match p[i - 1]? with
 | some o=>o.day
 | none=>0
def fW (s:au) (p:List Order) (i:Nat):Int:=match p[i]? with
 | some o=>iK s o (kI p i)
 | none=>0
def kJ (s:au) (p:List Order):Int × Int:=if 8 < p.length then (0,3) else cZ p.length (fW s p)
def cz (s:au) (p:List Order):Int × Int:=if (nE s).2.2 ≠ 0 then (0,(nE s).2.2) else kJ s p
structure zJ (s:au) (o:Order):Prop where
 day:0≤o.day∧o.day < s.days
 aG:∀ x ∈ o.aG,0≤x∧x < s.needs.length
 some:1≤o.aG.length
 len:o.aG.length≤s.needs.length
 PJ:∀ (i j:Nat) (hi:i < o.aG.length) (hj:j < o.aG.length),i < j→o.aG[i] < o.aG[j]
 load:Ab s o.aG≤s.load
structure mO (s:au) (p:List Order):Prop where
 good:Good s
 len:p.length≤8
 order:∀ o ∈ p,zJ s o
 PJ:∀ (i j:Nat) (hi:i < p.length) (hj:j < p.length),i < j→p[i].day < p[j].day
theorem xh {s:au} {o:Order} {last:Int} (h:iK s o last=0):zJ s o∧last < o.day:=by
 unfold iK at h
 split at h
 ·cases h
 ·split at h
  ·cases h
  ·split at h
   ·cases h
   ·split at h
    ·rename_i h4;exact absurd h h4
    ·split at h
     ·cases h
     ·rename_i h1 h2 h3 h4 h5
      have d:=cD (by simpa using h1)
      obtain ⟨q1,q2,q3⟩:=tG (Classical.not_not.1 h4)
      exact ⟨⟨by omega,q1,by omega,q2,q3,by omega⟩,by omega⟩
theorem jP {s:au} {p:List Order} (h:(cz s p).2=0):mO s p:=by
 unfold cz at h
 split at h
 ·rename_i h1;exact absurd h h1
 ·rename_i h1
  have hg:=Db (Classical.not_not.1 h1)
  unfold kJ at h
  split at h
  ·cases h
  ·have hz:=kH h
   have ho:∀ i (hi:i < p.length),zJ s p[i]∧kI p i < p[i].day:=fun i hi=>by
    have:=hz i hi
    unfold fW at this
    rw [List.getElem?_eq_getElem hi] at this
    exact xh this
   refine ⟨hg,by omega,fun o ho'=>?_,?_⟩
   ·obtain ⟨i,hi,rfl⟩:=List.mem_iff_getElem.1 ho'
    exact (ho i hi).1
   ·intro i j hi hj hij
    induction j with
    | zero=>omega
    | succ j ih =>
     have h1:=(ho _ hj).2
     have h2:kI p (j+1)=p[j].day:=by
      unfold kI
      rw [if_neg (by omega),Nat.add_sub_cancel,List.getElem?_eq_getElem (by omega)]
     rw [h2] at h1
     by_cases e:i=j
     ·subst e;exact h1
     ·have:=ih (by omega) (by omega);omega
set_option maxHeartbeats 4000000
theorem zK {s:au} {x:Int} (h:0≤x∧x < s.needs.length):∃ nd,s.needs[x.toNat]?=some nd∧(s.needs.map aH)[x.toNat]?=some (aH nd)∧NQ s x=nd.weight:=by
 have hlt:x.toNat < s.needs.length:=by omega
 refine ⟨s.needs[x.toNat],List.getElem?_eq_getElem hlt,by rw [List.getElem?_map,List.getElem?_eq_getElem hlt];rfl,?_⟩
 unfold NQ
 rw [List.getElem?_eq_getElem hlt]
theorem IW (one:Bool) {s:au} (hg:Good s) (l:List Int) (full:Bool) (hl:l.length≤s.needs.length) (hr:∀ x ∈ l,0≤x∧x < s.needs.length):Pu one 75 [.ag (ak s),.sl (ints l) full] (aA (Ab s l)):=by
 have ml:l.length≤9223372036854775807:=by have:=hg.len;omega
 have eg:((ints l).length:Int)=l.length:=by simp
 have hl3:l.length≤3:=by have:=hg.len;omega
 obtain ⟨n,hn⟩:∃ n:Int,n=l.length:=⟨_,rfl⟩
 refine ah.body (fn:=Tryz.f75) rfl rfl rfl rfl ?_
 refine aa (mu:=fun _=>false) ?_
 repeat' (first |refine u1 ?_ |refine u2 ?_ |fail)
 refine aB.aJ (ai.to (l:=[(2,.pt (ak s) 0),(4,aA (Ab s (l.take 0))),(7,.sl (ints l) full),(8,aA n),(9,aA (0:Nat))]) (hp:=[]) 0 rfl ⟨rfl,rfl,rfl,aV (by rw [hn];exact eg),rfl,trivial⟩ (Nat.zero_le _) rfl rfl) ?_
 refine aB.loop (fun k:Nat=>k≤l.length) (fun k=>⟨aS [(2,.pt (ak s) 0),(4,aA (Ab s (l.take k))),(7,.sl (ints l) full),(8,aA n),(9,aA (k:Nat))],[],bJ.none,false,0⟩) (fun k=>l.length - k) ?_ 0 (Nat.zero_le _)
 intro k hk
 refine aa (mu:=fun _=>false) ?_
 by_cases hlt:k < l.length
 ·have d1:decide ((k:Int) < n)=true:=decide_eq_true (by omega)
  have hat:(ints l)[((k:Nat):Int).toNat]?=some (eI l[k]):=bl hlt
  have hb:=hr _ (List.getElem_mem hlt)
  have ht:=BN (s:=s) hlt
  have hw:=IV hg (l.take k)
  have hwl:(l.take k).length=k:=by rw [List.length_take];omega
  generalize l[k]=x at *
  obtain ⟨nd,h1,h2,h3⟩:=zK hb
  have hnw:=(hg.needs nd (List.mem_of_getElem? h1)).2.2.2
  rw [h3] at ht
  repeat' (first |refine u1 ?_ |((with_reducible show RM.wpOp _ _ (.indexAddr _ _ _) _ _ _);refine ⟨eI x,⟨by omega,hat⟩,rfl,?_⟩) |((with_reducible show RM.wpOp _ _ (.indexAddr _ _ _) _ _ _);refine ⟨aH nd,⟨by omega,h2⟩,rfl,?_⟩) |refine u2 ?_ |fail)
  exact ⟨k+1,hlt,(by dsimp only;omega),ai.to 0 rfl ⟨rfl,aV ht.symm,rfl,rfl,aV (by simp),trivial⟩ (Nat.zero_le _) rfl rfl⟩
 ·have d1:decide ((k:Int) < n)=false:=decide_eq_false (by omega)
  have e:l.take k=l:=List.take_of_length_le (by omega)
  rw [e]
  repeat' (first |refine u1 ?_ |refine u2 ?_ |fail)
  exact ⟨[_],⟨Fz.deep rfl,trivial⟩,rfl⟩
theorem yc (one:Bool) {s:au} (hg:Good s) (l:List Int) (full:Bool) (hl:l.length≤s.needs.length) (hr:∀ x ∈ l,0≤x∧x < s.needs.length):Pu one 82 [.ag (ak s),.sl (ints l) full] (aA (Ab s l)):=by
 have ml:l.length≤9223372036854775807:=by have:=hg.len;omega
 have eg:((ints l).length:Int)=l.length:=by simp
 have hl3:l.length≤3:=by have:=hg.len;omega
 refine ah.body (fn:=Tryz.f82) rfl rfl rfl rfl ?_
 refine aa (mu:=fun _=>false) ?_
 repeat' (first |refine u1 ?_ |refine u2 ?_ |fail)
 refine aB.aJ (ai.to (l:=[(1,.sl (ints l) full),(2,.pt (ak s) 0),(5,aA (Ab s (l.take 0))),(6,aA (0:Nat))]) (hp:=[]) 0 rfl ⟨rfl,rfl,rfl,rfl,trivial⟩ (Nat.zero_le _) rfl rfl) ?_
 refine aB.loop (fun k:Nat=>k≤l.length) (fun k=>⟨aS [(1,.sl (ints l) full),(2,.pt (ak s) 0),(5,aA (Ab s (l.take k))),(6,aA (k:Nat))],[],bJ.none,false,0⟩) (fun k=>l.length - k) ?_ 0 (Nat.zero_le _)
 intro k hk
 refine aa (mu:=fun _=>false) ?_
 by_cases hlt:k < l.length
 ·have d1:decide ((k:Int) < ((ints l).length:Int))=true:=decide_eq_true (by omega)
  have hat:(ints l)[((k:Nat):Int).toNat]?=some (eI l[k]):=bl hlt
  have hb:=hr _ (List.getElem_mem hlt)
  have ht:=BN (s:=s) hlt
  have hw:=IV hg (l.take k)
  have hwl:(l.take k).length=k:=by rw [List.length_take];omega
  generalize l[k]=x at *
  obtain ⟨nd,h1,h2,h3⟩:=zK hb
  have hnw:=(hg.needs nd (List.mem_of_getElem? h1)).2.2.2
  rw [h3] at ht
  repeat' (first |refine u1 ?_ |((with_reducible show RM.wpOp _ _ (.indexAddr _ _ _) _ _ _);refine ⟨eI x,⟨by omega,hat⟩,rfl,?_⟩) |((with_reducible show RM.wpOp _ _ (.indexAddr _ _ _) _ _ _);refine ⟨aH nd,⟨by omega,h2⟩,rfl,?_⟩) |refine u2 ?_ |fail)
  exact ⟨k+1,hlt,(by dsimp only;omega),ai.to 0 rfl ⟨rfl,rfl,aV ht.symm,aV (by simp),trivial⟩ (Nat.zero_le _) rfl rfl⟩
 ·have d1:decide ((k:Int) < ((ints l).length:Int))=false:=decide_eq_false (by omega)
  have e:l.take k=l:=List.take_of_length_le (by omega)
  rw [e]
  repeat' (first |refine u1 ?_ |refine u2 ?_ |fail)
  exact ⟨[_],⟨Fz.deep rfl,trivial⟩,rfl⟩
def hasB (l:List Int) (a:Int):Bool:=l.any fun x=>decide (x=a)
theorem fu {l:List Int} {a:Int}:hasB l a=true ↔ a ∈ l:=by simp [hasB]
theorem IX (one:Bool) (l:List Int) (full:Bool) (a:Int) (hl:l.length≤maxLen):Pu one 59 [.sl (ints l) full,aA a] (BB (hasB l a)):=by
 have ml:l.length≤9223372036854775807:=Nat.le_trans hl (by simp [maxLen])
 have eg:((ints l).length:Int)=l.length:=by simp
 refine ah.body (fn:=Tryz.f59) rfl rfl rfl rfl ?_
 refine aa (mu:=fun _=>false) ?_
 repeat' (first |refine u1 ?_ |refine u2 ?_ |fail)
 refine aB.aJ (ai.to (l:=[(0,.sl (ints l) full),(1,aA a),(5,aA (0:Nat))]) (hp:=[]) 0 rfl ⟨rfl,rfl,rfl,trivial⟩ (Nat.zero_le _) rfl rfl) ?_
 refine aB.loop (fun k:Nat=>k≤l.length∧∀ i (h:i < l.length),i < k→l[i] ≠ a) (fun k=>⟨aS [(0,.sl (ints l) full),(1,aA a),(5,aA (k:Nat))],[],bJ.none,false,0⟩) (fun k=>l.length - k) ?_ 0 ⟨Nat.zero_le _,fun i _ hi=>absurd hi (Nat.not_lt_zero _)⟩
 rintro k ⟨hk,hprev⟩
 refine aa (mu:=fun _=>false) ?_
 by_cases hlt:k < l.length
 ·have d1:decide ((k:Int) < ((ints l).length:Int))=true:=decide_eq_true (by omega)
  have hat:(ints l)[((k:Nat):Int).toNat]?=some (eI l[k]):=bl hlt
  by_cases hx:l[k]=a
  ·have hh:hasB l a=true:=fu.2 (by rw [←hx];exact List.getElem_mem hlt)
   have d2:=decide_eq_true hx
   rw [hh]
   generalize l[k]=x at *
   repeat' (first |refine u1 ?_ |((with_reducible show RM.wpOp _ _ (.indexAddr _ _ _) _ _ _);refine ⟨eI x,⟨by omega,hat⟩,rfl,?_⟩) |refine u2 ?_ |fail)
   exact ⟨[_],⟨Fz.deep rfl,trivial⟩,rfl⟩
  ·have d2:=decide_eq_false hx
   have hn:∀ i (h:i < l.length),i < k+1→l[i] ≠ a:=fun i hi hik=>by
    by_cases e:i=k
    ·subst e;exact hx
    ·exact hprev i hi (by omega)
   generalize l[k]=x at *
   repeat' (first |refine u1 ?_ |((with_reducible show RM.wpOp _ _ (.indexAddr _ _ _) _ _ _);refine ⟨eI x,⟨by omega,hat⟩,rfl,?_⟩) |refine u2 ?_ |fail)
   exact ⟨k+1,⟨hlt,hn⟩,(by dsimp only;omega),ai.to 0 rfl ⟨rfl,rfl,aV (by simp),trivial⟩ (Nat.zero_le _) rfl rfl⟩
 ·have d1:decide ((k:Int) < ((ints l).length:Int))=false:=decide_eq_false (by omega)
  have hh:hasB l a=false:=by
   cases e:hasB l a with
   | false=>rfl
   | true =>
    obtain ⟨i,hi,hia⟩:=List.mem_iff_getElem.1 (fu.1 e)
    exact absurd hia (hprev i hi (by omega))
  rw [hh]
  repeat' (first |refine u1 ?_ |refine u2 ?_ |fail)
  exact ⟨[_],⟨Fz.deep rfl,trivial⟩,rfl⟩
theorem E6 (one:Bool) (l:List Int) (full:Bool) (many:Nat) (hl:l.length≤maxLen) (hm:many≤9223372036854775807):Pu one 81 [.sl (ints l) full,aA (many:Int)] (aA (kU l many)):=by
 have ml:l.length≤9223372036854775807:=Nat.le_trans hl (by simp [maxLen])
 have eg:((ints l).length:Int)=l.length:=by simp
 refine ah.body (fn:=Tryz.f81) rfl rfl rfl rfl ?_
 refine aa (mu:=fun _=>false) ?_
 repeat' (first |refine u1 ?_ |refine u2 ?_ |fail)
 refine aB.aJ (ai.to (l:=[(0,.sl (ints l) full),(1,aA (many:Int)),(5,aA (0:Nat))]) (hp:=[]) 0 rfl ⟨rfl,rfl,rfl,trivial⟩ (Nat.zero_le _) rfl rfl) ?_
 refine aB.loop (fun k:Nat=>k≤l.length∧∀ i,i < k→fo l (many:Int) 4 i=0) (fun k=>⟨aS [(0,.sl (ints l) full),(1,aA (many:Int)),(5,aA (k:Nat))],[],bJ.none,false,0⟩) (fun k=>l.length - k) ?_ 0 ⟨Nat.zero_le _,fun i hi=>absurd hi (Nat.not_lt_zero _)⟩
 rintro k ⟨hk,hprev⟩
 refine aa (mu:=fun _=>false) ?_
 by_cases hlt:k < l.length
 ·have d1:decide ((k:Int) < ((ints l).length:Int))=true:=decide_eq_true (by omega)
  have hat:(ints l)[((k:Nat):Int).toNat]?=some (eI l[k]):=bl hlt
  have fin:∀ v,fo l (many:Int) 4 k=v→v ≠ 0→kU l many=v:=fun v e hv=>by
   unfold kU
   rw [gw hlt hprev (by rw [e];exact hv),e]
  have o9:=jO one l[k] 0 ((many:Int) - 1)
  cases e9:nD l[k] 0 ((many:Int) - 1) with
  | false =>
   rw [e9] at o9
   rw [fin 4 (vF hlt e9) (by decide)]
   generalize l[k]=x at *
   repeat' (first |((with_reducible show ax _ _ _ _ _ _ _ _);refine ah.call o9 rfl rfl ?_) |refine u1 ?_ |((with_reducible show RM.wpOp _ _ (.indexAddr _ _ _) _ _ _);refine ⟨eI x,⟨by omega,hat⟩,rfl,?_⟩) |refine u2 ?_ |fail)
   exact ⟨[_],⟨Fz.deep rfl,trivial⟩,rfl⟩
  | true =>
   rw [e9] at o9
   cases k with
   | zero =>
    have hz:=IU (below:=4) hlt e9
    generalize l[0]=x at *
    repeat' (first |((with_reducible show ax _ _ _ _ _ _ _ _);refine ah.call o9 rfl rfl ?_) |refine u1 ?_ |((with_reducible show RM.wpOp _ _ (.indexAddr _ _ _) _ _ _);refine ⟨eI x,⟨by omega,hat⟩,rfl,?_⟩) |refine u2 ?_ |fail)
    refine ⟨1,⟨hlt,fun i hi=>?_⟩,(by dsimp only;omega),ai.to 0 rfl ⟨rfl,rfl,aV (by simp),trivial⟩ (Nat.zero_le _) rfl rfl⟩
    obtain rfl:i=0:=by omega
    exact hz
   | succ m =>
    have hs:=C9 (below:=4) hlt e9
    have d0:decide ((0:Int) < ((m+1:Nat):Int))=true:=decide_eq_true (by omega)
    have hqb:(ints l)[(((m+1:Nat):Int) - 1).toNat]?=some (eI l[m]):=by
     rw [show (((m+1:Nat):Int) - 1)=((m:Nat):Int) by omega]
     exact bl (by omega)
    generalize l[m+1]=x at *
    generalize l[m]=y at *
    by_cases hgg:x≤y
    ·rw [if_pos hgg] at hs
     have dg:=decide_eq_true hgg
     rw [fin 2 hs (by decide)]
     repeat' (first |((with_reducible show ax _ _ _ _ _ _ _ _);refine ah.call o9 rfl rfl ?_) |refine u1 ?_ |((with_reducible show RM.wpOp _ _ (.indexAddr _ _ _) _ _ _);refine ⟨eI x,⟨by omega,hat⟩,rfl,?_⟩) |((with_reducible show RM.wpOp _ _ (.indexAddr _ _ _) _ _ _);refine ⟨eI y,⟨by omega,hqb⟩,rfl,?_⟩) |refine u2 ?_ |fail)
     exact ⟨[_],⟨Fz.deep rfl,trivial⟩,rfl⟩
    ·rw [if_neg hgg] at hs
     have dg:=decide_eq_false hgg
     repeat' (first |((with_reducible show ax _ _ _ _ _ _ _ _);refine ah.call o9 rfl rfl ?_) |refine u1 ?_ |((with_reducible show RM.wpOp _ _ (.indexAddr _ _ _) _ _ _);refine ⟨eI x,⟨by omega,hat⟩,rfl,?_⟩) |((with_reducible show RM.wpOp _ _ (.indexAddr _ _ _) _ _ _);refine ⟨eI y,⟨by omega,hqb⟩,rfl,?_⟩) |refine u2 ?_ |fail)
     refine ⟨m+1+1,⟨hlt,fun i hi=>?_⟩,(by dsimp only;omega),ai.to 0 rfl ⟨rfl,rfl,aV (by simp),trivial⟩ (Nat.zero_le _) rfl rfl⟩
     by_cases hik:i=m+1
     ·subst hik;exact hs
     ·exact hprev i (by omega)
 ·have d1:decide ((k:Int) < ((ints l).length:Int))=false:=decide_eq_false (by omega)
  have hh:kU l many=0:=by unfold kU;rw [fm (fun i hi=>hprev i (by omega))]
  rw [hh]
  repeat' (first |refine u1 ?_ |refine u2 ?_ |fail)
  exact ⟨[_],⟨Fz.deep rfl,trivial⟩,rfl⟩
end Go.Proofs.YtpeogffeoehboaaGreatDoor
