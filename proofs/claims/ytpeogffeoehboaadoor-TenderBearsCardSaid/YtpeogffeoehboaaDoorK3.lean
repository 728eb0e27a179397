/-
  Contracts of the program's functions and of the document's. Lemmas alone; their conditions stand in them.
-/
import Derived.Test.YtpeogffeoehboaaDoorK2
open Go Go.RM
namespace Go.Proofs.YtpeogffeoehboaaDoor
set_option maxRecDepth 100000
theorem kr {n:Nat} {e:Nat→Int} (h:(cN n e).2=0):∀ i,i < n→e i=0:=by
 intro i hi
 unfold cN at h
 cases hf:(List.range n).find? (fun i=>e i != 0) with
 | none =>
  rw [List.find?_eq_none] at hf
  have:=hf i (by simpa using hi)
  simpa using this
 | some k =>
  rw [hf] at h
  have h1:(e k != 0)=true:=by have:=List.find?_some hf;exact this
  have h2:e k=0:=h
  rw [h2] at h1
  cases h1
structure Good (s:ak):Prop where
 days:1≤s.days∧s.days≤60
 load:1≤s.load∧s.load≤30
 fail:0≤s.fail∧s.fail≤8
 row:1≤s.row∧s.row≤8
 len:1≤s.needs.length∧s.needs.length≤3
 needs:∀ x ∈ s.needs,iL x.name=true∧(1≤x.full∧x.full≤60)∧(0≤x.first∧x.first≤x.full)∧(1≤x.weight∧x.weight≤30)
 many:s.possible.length≤6
 OX:∀ i,i < s.possible.length→eN s.possible s.days 7 i=0
theorem zu {x:jO} {b:List jO} (h:fN x b=0):iL x.name=true∧(1≤x.full∧x.full≤60)∧(0≤x.first∧x.first≤x.full)∧(1≤x.weight∧x.weight≤30):=by
 unfold fN at h
 split at h
 ·cases h
 ·split at h
  ·cases h
  ·split at h
   ·cases h
   ·rename_i h1 _ h3
    simp only [Bool.or_eq_true,not_or,Bool.not_eq_true] at h3
    exact ⟨by simpa using h1,cc h3.1.1,cc h3.1.2,cc h3.2⟩
theorem CN {s:ak} (h:(lZ s).2.2=0):Good s:=by
 unfold lZ at h
 split at h
 ·cases h
 ·split at h
  ·cases h
  ·split at h
   ·rename_i h3;exact absurd h h3
   ·split at h
    ·cases h
    ·split at h
     ·rename_i h5;exact absurd h h5
     ·rename_i h1 h2 h3 h4 h5
      simp only [bT,Bool.or_eq_true,not_or,Bool.not_eq_true] at h1
      have l2:=cc (by simpa using h2)
      have z3:=kr (Classical.not_not.1 h3)
      have z5:=kr (Classical.not_not.1 h5)
      refine ⟨cc h1.1.1.1,cc h1.1.1.2,cc h1.1.2,cc h1.2,by omega,fun x hx=>?_,by omega,z5⟩
      obtain ⟨i,hi,rfl⟩:=List.mem_iff_getElem.1 hx
      have:=z3 i hi
      unfold eO at this
      rw [List.getElem?_eq_getElem hi] at this
      exact zu this
theorem Bs {s:ak} (h:(lZ s).2.2=0):lZ s=(0,0,0):=by
 unfold lZ at h ⊢
 repeat' split
 all_goals simp_all
def Nd (s:ak) (i:Int):Int:=match s.needs[i.toNat]? with
 | some x=>x.weight
 | none=>0
def zN (s:ak) (l:List Int):Int:=(l.map (Nd s)).sum
theorem OY {s:ak} (h:Good s) (i:Int):0≤Nd s i∧Nd s i≤30:=by
 unfold Nd
 cases hi:s.needs[i.toNat]? with
 | none=>simp
 | some x=>have:=(h.needs x (List.mem_of_getElem? hi)).2.2.2;exact ⟨by simp only;omega,by simp only;omega⟩
theorem Iq {s:ak} (h:Good s):∀ l:List Int,0≤zN s l∧zN s l≤30 * l.length
 | []=>by simp [zN]
 | a :: l=>by
  have h1:=OY h a
  have h2:=Iq h l
  unfold zN at h2 ⊢
  simp only [List.map_cons,List.sum_cons,List.length_cons]
  omega
theorem Bt {s:ak} {l:List Int} {k:Nat} (h:k < l.length):zN s (l.take (k+1))=zN s (l.take k)+Nd s l[k]:=by
 unfold zN
 rw [List.take_add_one,List.getElem?_eq_getElem h,List.map_append,List.sum_append]
 simp
def gC (l:List Int) (many:Nat):Int:=(cN l.length (eN l (many:Int) 4)).2
theorem qh {l:List Int} {many below:Int} {i:Nat} (hb:below ≠ 0) (hi:i < l.length) (h:eN l many below i=0):(0≤l[i]∧l[i] < many)∧(∀ j,j+1=i→(hj:j < l.length)→l[j] < l[i]):=by
 cases e:ng l[i] 0 (many - 1) with
 | false=>rw [vk hi e] at h;exact absurd h hb
 | true =>
  have e2:=hG.1 e
  refine ⟨by omega,fun j hj hjl=>?_⟩
  subst hj
  rw [CL hi e] at h
  split at h
  ·cases h
  ·omega
theorem Nf {l:List Int} {many below:Int} (hb:below ≠ 0) (h:∀ i,i < l.length→eN l many below i=0):∀ (i j:Nat) (hi:i < l.length) (hj:j < l.length),i < j→l[i] < l[j]:=by
 intro i j hi hj hij
 induction j with
 | zero=>omega
 | succ j ih =>
  have h1:=(qh hb hj (h _ hj)).2 j rfl (by omega)
  by_cases e:i=j
  ·subst e;exact h1
  ·have:=ih (by omega) (by omega);omega
theorem Ng {l:List Int} {many below:Int} (hb:below ≠ 0) (h:∀ i,i < l.length→eN l many below i=0):∀ (i:Nat) (hi:i < l.length),(i:Int)≤l[i]:=by
 intro i hi
 induction i with
 | zero=>exact (qh hb hi (h _ hi)).1.1
 | succ j ih =>
  have h1:=(qh hb hi (h _ hi)).2 j rfl (by omega)
  have:=ih (by omega)
  push_cast
  omega
theorem JY {l:List Int} {many:Nat} {below:Int} (hb:below ≠ 0) (h:∀ i,i < l.length→eN l (many:Int) below i=0):l.length≤many:=by
 cases e:l.length with
 | zero=>omega
 | succ k =>
  have h1:=Ng hb h k (by omega)
  have h2:=(qh hb (i:=k) (by omega) (h k (by omega))).1.2
  omega
theorem nN {l:List Int} {many:Nat} (h:gC l many=0):(∀ x ∈ l,0≤x∧x < many)∧l.length≤many∧∀ (i j:Nat) (hi:i < l.length) (hj:j < l.length),i < j→l[i] < l[j]:=by
 have hz:=kr h
 refine ⟨fun x hx=>?_,JY (by decide) hz,Nf (by decide) hz⟩
 obtain ⟨i,hi,rfl⟩:=List.mem_iff_getElem.1 hx
 exact (qh (by decide) hi (hz i hi)).1
def iy (s:ak) (o:Order) (last:Int):Int :=
 if eM 0 (s.days - 1) [o.day]=true then 7 else if o.day≤last then 2 else if o.aF.length=0 then 3
 else if gC o.aF s.needs.length ≠ 0 then gC o.aF s.needs.length else if s.load < zN s o.aF then 9 else 0
def ku (p:List Order) (i:Nat):Int:=if i=0 then -1 else match p[i - 1]? with
 | some o=>o.day
 | none=>0
def fO (s:ak) (p:List Order) (i:Nat):Int:=match p[i]? with
 | some o=>iy s o (ku p i)
 | none=>0
def kz (s:ak) (p:List Order):Int × Int:=if 8 < p.length then (0,3) else cN p.length (fO s p)
def aO (s:ak) (p:List Order):Int × Int:=if (lZ s).2.2 ≠ 0 then (0,(lZ s).2.2) else kz s p
structure zw (s:ak) (o:Order):Prop where
 day:0≤o.day∧o.day < s.days
 aF:∀ x ∈ o.aF,0≤x∧x < s.needs.length
 some:1≤o.aF.length
 len:o.aF.length≤s.needs.length
 OX:∀ (i j:Nat) (hi:i < o.aF.length) (hj:j < o.aF.length),i < j→o.aF[i] < o.aF[j]
 load:zN s o.aF≤s.load
structure mz (s:ak) (p:List Order):Prop where
 good:Good s
 len:p.length≤8
 order:∀ o ∈ p,zw s o
 OX:∀ (i j:Nat) (hi:i < p.length) (hj:j < p.length),i < j→p[i].day < p[j].day
theorem wS {s:ak} {o:Order} {last:Int} (h:iy s o last=0):zw s o∧last < o.day:=by
 unfold iy at h
 split at h
 ·cases h
 ·split at h
  ·cases h
  ·split at h
   ·cases h
   ·split at h
    ·rename_i h4;exact absurd h h4
    ·split at h
     ·cases h
     ·rename_i h1 h2 h3 h4 h5
      have d:=cc (by simpa using h1)
      obtain ⟨q1,q2,q3⟩:=nN (Classical.not_not.1 h4)
      exact ⟨⟨by omega,q1,by omega,q2,q3,by omega⟩,by omega⟩
theorem dM {s:ak} {p:List Order} (h:(aO s p).2=0):mz s p:=by
 unfold aO at h
 split at h
 ·rename_i h1;exact absurd h h1
 ·rename_i h1
  have hg:=CN (Classical.not_not.1 h1)
  unfold kz at h
  split at h
  ·cases h
  ·have hz:=kr h
   have ho:∀ i (hi:i < p.length),zw s p[i]∧ku p i < p[i].day:=fun i hi=>by
    have:=hz i hi
    unfold fO at this
    rw [List.getElem?_eq_getElem hi] at this
    exact wS this
   refine ⟨hg,by omega,fun o ho'=>?_,?_⟩
   ·obtain ⟨i,hi,rfl⟩:=List.mem_iff_getElem.1 ho'
    exact (ho i hi).1
   ·intro i j hi hj hij
    induction j with
    | zero=>omega
    | succ j ih =>
     have h1:=(ho _ hj).2
     have h2:ku p (j+1)=p[j].day:=by
      unfold ku
      rw [if_neg (by omega),Nat.add_sub_cancel,List.getElem?_eq_getElem (by omega)]
     rw [h2] at h1
     by_cases e:i=j
     ·subst e;exact h1
     ·have:=ih (by omega) (by omega);omega
end Go.Proofs.YtpeogffeoehboaaDoor
open Go Go.RM
namespace Go.Proofs.YtpeogffeoehboaaDoor
set_option maxRecDepth 100000
set_option maxHeartbeats 4000000
theorem zx {s:ak} {x:Int} (h:0≤x∧x < s.needs.length):∃ nd,s.needs[x.toNat]?=some nd∧(s.needs.map aH)[x.toNat]?=some (aH nd)∧Nd s x=nd.weight:=by
 have hlt:x.toNat < s.needs.length:=by omega
 refine ⟨s.needs[x.toNat],List.getElem?_eq_getElem hlt,by rw [List.getElem?_map,List.getElem?_eq_getElem hlt];rfl,?_⟩
 unfold Nd
 rw [List.getElem?_eq_getElem hlt]
theorem Ir (one:Bool) {s:ak} (hg:Good s) (l:List Int) (full:Bool) (hl:l.length≤s.needs.length) (hr:∀ x ∈ l,0≤x∧x < s.needs.length):Pu one 72 [.ag (ay s),.sl (ints l) full] (aA (zN s l)):=by
 have ml:l.length≤9223372036854775807:=by have:=hg.len;omega
 have eg:((ints l).length:Int)=l.length:=by simp
 have hl3:l.length≤3:=by have:=hg.len;omega
 obtain ⟨n,hn⟩:∃ n:Int,n=l.length:=⟨_,rfl⟩
 refine af.body (fn:=Tryd.f72) rfl rfl rfl rfl ?_
 refine aa (mu:=fun _=>false) ?_
 repeat' (first |refine u1 ?_ |refine u2 ?_ |fail)
 refine aB.aL (au.to (l:=[(2,.pt (ay s) 0),(4,aA (zN s (l.take 0))),(7,.sl (ints l) full),(8,aA n),(9,aA (0:Nat))]) (hp:=[]) 0 rfl ⟨rfl,rfl,rfl,bu (by rw [hn];exact eg),rfl,trivial⟩ (Nat.zero_le _) rfl rfl) ?_
 refine aB.loop (fun k:Nat=>k≤l.length) (fun k=>⟨aU [(2,.pt (ay s) 0),(4,aA (zN s (l.take k))),(7,.sl (ints l) full),(8,aA n),(9,aA (k:Nat))],[],bP.none,false,0⟩) (fun k=>l.length - k) ?_ 0 (Nat.zero_le _)
 intro k hk
 refine aa (mu:=fun _=>false) ?_
 by_cases hlt:k < l.length
 ·have d1:decide ((k:Int) < n)=true:=decide_eq_true (by omega)
  have hat:(ints l)[((k:Nat):Int).toNat]?=some (eI l[k]):=bC hlt
  have hb:=hr _ (List.getElem_mem hlt)
  have ht:=Bt (s:=s) hlt
  have hw:=Iq hg (l.take k)
  have hwl:(l.take k).length=k:=by rw [List.length_take];omega
  generalize l[k]=x at *
  obtain ⟨nd,h1,h2,h3⟩:=zx hb
  have hnw:=(hg.needs nd (List.mem_of_getElem? h1)).2.2.2
  rw [h3] at ht
  repeat' (first |refine u1 ?_ |((with_reducible show RM.wpOp _ _ (.indexAddr _ _ _) _ _ _);refine ⟨eI x,⟨by omega,hat⟩,rfl,?_⟩) |((with_reducible show RM.wpOp _ _ (.indexAddr _ _ _) _ _ _);refine ⟨aH nd,⟨by omega,h2⟩,rfl,?_⟩) |refine u2 ?_ |fail)
  exact ⟨k+1,hlt,(by dsimp only;omega),au.to 0 rfl ⟨rfl,bu ht.symm,rfl,rfl,bu (by simp),trivial⟩ (Nat.zero_le _) rfl rfl⟩
 ·have d1:decide ((k:Int) < n)=false:=decide_eq_false (by omega)
  have e:l.take k=l:=List.take_of_length_le (by omega)
  rw [e]
  repeat' (first |refine u1 ?_ |refine u2 ?_ |fail)
  exact ⟨[_],⟨Fz.deep rfl,trivial⟩,rfl⟩
theorem xR (one:Bool) {s:ak} (hg:Good s) (l:List Int) (full:Bool) (hl:l.length≤s.needs.length) (hr:∀ x ∈ l,0≤x∧x < s.needs.length):Pu one 74 [.ag (ay s),.sl (ints l) full] (aA (zN s l)):=by
 have ml:l.length≤9223372036854775807:=by have:=hg.len;omega
 have eg:((ints l).length:Int)=l.length:=by simp
 have hl3:l.length≤3:=by have:=hg.len;omega
 refine af.body (fn:=Tryd.f74) rfl rfl rfl rfl ?_
 refine aa (mu:=fun _=>false) ?_
 repeat' (first |refine u1 ?_ |refine u2 ?_ |fail)
 refine aB.aL (au.to (l:=[(1,.sl (ints l) full),(2,.pt (ay s) 0),(5,aA (zN s (l.take 0))),(6,aA (0:Nat))]) (hp:=[]) 0 rfl ⟨rfl,rfl,rfl,rfl,trivial⟩ (Nat.zero_le _) rfl rfl) ?_
 refine aB.loop (fun k:Nat=>k≤l.length) (fun k=>⟨aU [(1,.sl (ints l) full),(2,.pt (ay s) 0),(5,aA (zN s (l.take k))),(6,aA (k:Nat))],[],bP.none,false,0⟩) (fun k=>l.length - k) ?_ 0 (Nat.zero_le _)
 intro k hk
 refine aa (mu:=fun _=>false) ?_
 by_cases hlt:k < l.length
 ·have d1:decide ((k:Int) < ((ints l).length:Int))=true:=decide_eq_true (by omega)
  have hat:(ints l)[((k:Nat):Int).toNat]?=some (eI l[k]):=bC hlt
  have hb:=hr _ (List.getElem_mem hlt)
  have ht:=Bt (s:=s) hlt
  have hw:=Iq hg (l.take k)
  have hwl:(l.take k).length=k:=by rw [List.length_take];omega
  generalize l[k]=x at *
  obtain ⟨nd,h1,h2,h3⟩:=zx hb
  have hnw:=(hg.needs nd (List.mem_of_getElem? h1)).2.2.2
  rw [h3] at ht
  repeat' (first |refine u1 ?_ |((with_reducible show RM.wpOp _ _ (.indexAddr _ _ _) _ _ _);refine ⟨eI x,⟨by omega,hat⟩,rfl,?_⟩) |((with_reducible show RM.wpOp _ _ (.indexAddr _ _ _) _ _ _);refine ⟨aH nd,⟨by omega,h2⟩,rfl,?_⟩) |refine u2 ?_ |fail)
  exact ⟨k+1,hlt,(by dsimp only;omega),au.to 0 rfl ⟨rfl,rfl,bu ht.symm,bu (by simp),trivial⟩ (Nat.zero_le _) rfl rfl⟩
 ·have d1:decide ((k:Int) < ((ints l).length:Int))=false:=decide_eq_false (by omega)
  have e:l.take k=l:=List.take_of_length_le (by omega)
  rw [e]
  repeat' (first |refine u1 ?_ |refine u2 ?_ |fail)
  exact ⟨[_],⟨Fz.deep rfl,trivial⟩,rfl⟩
def hasB (l:List Int) (a:Int):Bool:=l.any fun x=>decide (x=a)
theorem gE {l:List Int} {a:Int}:hasB l a=true ↔ a ∈ l:=by simp [hasB]
theorem OZ (one:Bool) (l:List Int) (full:Bool) (a:Int) (hl:l.length≤maxLen):Pu one 38 [.sl (ints l) full,aA a] (BB (hasB l a)):=by
 have ml:l.length≤9223372036854775807:=Nat.le_trans hl (by simp [maxLen])
 have eg:((ints l).length:Int)=l.length:=by simp
 refine af.body (fn:=Tryd.f38) rfl rfl rfl rfl ?_
 refine aa (mu:=fun _=>false) ?_
 repeat' (first |refine u1 ?_ |refine u2 ?_ |fail)
 refine aB.aL (au.to (l:=[(0,.sl (ints l) full),(1,aA a),(5,aA (0:Nat))]) (hp:=[]) 0 rfl ⟨rfl,rfl,rfl,trivial⟩ (Nat.zero_le _) rfl rfl) ?_
 refine aB.loop (fun k:Nat=>k≤l.length∧∀ i (h:i < l.length),i < k→l[i] ≠ a) (fun k=>⟨aU [(0,.sl (ints l) full),(1,aA a),(5,aA (k:Nat))],[],bP.none,false,0⟩) (fun k=>l.length - k) ?_ 0 ⟨Nat.zero_le _,fun i _ hi=>absurd hi (Nat.not_lt_zero _)⟩
 rintro k ⟨hk,hprev⟩
 refine aa (mu:=fun _=>false) ?_
 by_cases hlt:k < l.length
 ·have d1:decide ((k:Int) < ((ints l).length:Int))=true:=decide_eq_true (by omega)
  have hat:(ints l)[((k:Nat):Int).toNat]?=some (eI l[k]):=bC hlt
  by_cases hx:l[k]=a
  ·have hh:hasB l a=true:=gE.2 (by rw [←hx];exact List.getElem_mem hlt)
   have d2:=decide_eq_true hx
   rw [hh]
   generalize l[k]=x at *
   repeat' (first |refine u1 ?_ |((with_reducible show RM.wpOp _ _ (.indexAddr _ _ _) _ _ _);refine ⟨eI x,⟨by omega,hat⟩,rfl,?_⟩) |refine u2 ?_ |fail)
   exact ⟨[_],⟨Fz.deep rfl,trivial⟩,rfl⟩
  ·have d2:=decide_eq_false hx
   have hn:∀ i (h:i < l.length),i < k+1→l[i] ≠ a:=fun i hi hik=>by
    by_cases e:i=k
    ·subst e;exact hx
    ·exact hprev i hi (by omega)
   generalize l[k]=x at *
   repeat' (first |refine u1 ?_ |((with_reducible show RM.wpOp _ _ (.indexAddr _ _ _) _ _ _);refine ⟨eI x,⟨by omega,hat⟩,rfl,?_⟩) |refine u2 ?_ |fail)
   exact ⟨k+1,⟨hlt,hn⟩,(by dsimp only;omega),au.to 0 rfl ⟨rfl,rfl,bu (by simp),trivial⟩ (Nat.zero_le _) rfl rfl⟩
 ·have d1:decide ((k:Int) < ((ints l).length:Int))=false:=decide_eq_false (by omega)
  have hh:hasB l a=false:=by
   cases e:hasB l a with
   | false=>rfl
   | true =>
    obtain ⟨i,hi,hia⟩:=List.mem_iff_getElem.1 (gE.1 e)
    exact absurd hia (hprev i hi (by omega))
  rw [hh]
  repeat' (first |refine u1 ?_ |refine u2 ?_ |fail)
  exact ⟨[_],⟨Fz.deep rfl,trivial⟩,rfl⟩
theorem EL (one:Bool) (l:List Int) (full:Bool) (many:Nat) (hl:l.length≤maxLen) (hm:many≤9223372036854775807):Pu one 73 [.sl (ints l) full,aA (many:Int)] (aA (gC l many)):=by
 have ml:l.length≤9223372036854775807:=Nat.le_trans hl (by simp [maxLen])
 have eg:((ints l).length:Int)=l.length:=by simp
 refine af.body (fn:=Tryd.f73) rfl rfl rfl rfl ?_
 refine aa (mu:=fun _=>false) ?_
 repeat' (first |refine u1 ?_ |refine u2 ?_ |fail)
 refine aB.aL (au.to (l:=[(0,.sl (ints l) full),(1,aA (many:Int)),(5,aA (0:Nat))]) (hp:=[]) 0 rfl ⟨rfl,rfl,rfl,trivial⟩ (Nat.zero_le _) rfl rfl) ?_
 refine aB.loop (fun k:Nat=>k≤l.length∧∀ i,i < k→eN l (many:Int) 4 i=0) (fun k=>⟨aU [(0,.sl (ints l) full),(1,aA (many:Int)),(5,aA (k:Nat))],[],bP.none,false,0⟩) (fun k=>l.length - k) ?_ 0 ⟨Nat.zero_le _,fun i hi=>absurd hi (Nat.not_lt_zero _)⟩
 rintro k ⟨hk,hprev⟩
 refine aa (mu:=fun _=>false) ?_
 by_cases hlt:k < l.length
 ·have d1:decide ((k:Int) < ((ints l).length:Int))=true:=decide_eq_true (by omega)
  have hat:(ints l)[((k:Nat):Int).toNat]?=some (eI l[k]):=bC hlt
  have fin:∀ v,eN l (many:Int) 4 k=v→v ≠ 0→gC l many=v:=fun v e hv=>by
   unfold gC
   rw [gi hlt hprev (by rw [e];exact hv),e]
  have o9:=jD one l[k] 0 ((many:Int) - 1)
  cases e9:ng l[k] 0 ((many:Int) - 1) with
  | false =>
   rw [e9] at o9
   rw [fin 4 (vk hlt e9) (by decide)]
   generalize l[k]=x at *
   repeat' (first |((with_reducible show aj _ _ _ _ _ _ _ _);refine af.call o9 rfl rfl ?_) |refine u1 ?_ |((with_reducible show RM.wpOp _ _ (.indexAddr _ _ _) _ _ _);refine ⟨eI x,⟨by omega,hat⟩,rfl,?_⟩) |refine u2 ?_ |fail)
   exact ⟨[_],⟨Fz.deep rfl,trivial⟩,rfl⟩
  | true =>
   rw [e9] at o9
   cases k with
   | zero =>
    have hz:=Ip (below:=4) hlt e9
    generalize l[0]=x at *
    repeat' (first |((with_reducible show aj _ _ _ _ _ _ _ _);refine af.call o9 rfl rfl ?_) |refine u1 ?_ |((with_reducible show RM.wpOp _ _ (.indexAddr _ _ _) _ _ _);refine ⟨eI x,⟨by omega,hat⟩,rfl,?_⟩) |refine u2 ?_ |fail)
    refine ⟨1,⟨hlt,fun i hi=>?_⟩,(by dsimp only;omega),au.to 0 rfl ⟨rfl,rfl,bu (by simp),trivial⟩ (Nat.zero_le _) rfl rfl⟩
    obtain rfl:i=0:=by omega
    exact hz
   | succ m =>
    have hs:=CL (below:=4) hlt e9
    have d0:decide ((0:Int) < ((m+1:Nat):Int))=true:=decide_eq_true (by omega)
    have hqb:(ints l)[(((m+1:Nat):Int) - 1).toNat]?=some (eI l[m]):=by
     rw [show (((m+1:Nat):Int) - 1)=((m:Nat):Int) by omega]
     exact bC (by omega)
    generalize l[m+1]=x at *
    generalize l[m]=y at *
    by_cases hgg:x≤y
    ·rw [if_pos hgg] at hs
     have dg:=decide_eq_true hgg
     rw [fin 2 hs (by decide)]
     repeat' (first |((with_reducible show aj _ _ _ _ _ _ _ _);refine af.call o9 rfl rfl ?_) |refine u1 ?_ |((with_reducible show RM.wpOp _ _ (.indexAddr _ _ _) _ _ _);refine ⟨eI x,⟨by omega,hat⟩,rfl,?_⟩) |((with_reducible show RM.wpOp _ _ (.indexAddr _ _ _) _ _ _);refine ⟨eI y,⟨by omega,hqb⟩,rfl,?_⟩) |refine u2 ?_ |fail)
     exact ⟨[_],⟨Fz.deep rfl,trivial⟩,rfl⟩
    ·rw [if_neg hgg] at hs
     have dg:=decide_eq_false hgg
     repeat' (first |((with_reducible show aj _ _ _ _ _ _ _ _);refine af.call o9 rfl rfl ?_) |refine u1 ?_ |((with_reducible show RM.wpOp _ _ (.indexAddr _ _ _) _ _ _);refine ⟨eI x,⟨by omega,hat⟩,rfl,?_⟩) |((with_reducible show RM.wpOp _ _ (.indexAddr _ _ _) _ _ _);refine ⟨eI y,⟨by omega,hqb⟩,rfl,?_⟩) |refine u2 ?_ |fail)
     refine ⟨m+1+1,⟨hlt,fun i hi=>?_⟩,(by dsimp only;omega),au.to 0 rfl ⟨rfl,rfl,bu (by simp),trivial⟩ (Nat.zero_le _) rfl rfl⟩
     by_cases hik:i=m+1
     ·subst hik;exact hs
     ·exact hprev i (by omega)
 ·have d1:decide ((k:Int) < ((ints l).length:Int))=false:=decide_eq_false (by omega)
  have hh:gC l many=0:=by unfold gC;rw [ey (fun i hi=>hprev i (by omega))]
  rw [hh]
  repeat' (first |refine u1 ?_ |refine u2 ?_ |fail)
  exact ⟨[_],⟨Fz.deep rfl,trivial⟩,rfl⟩
end Go.Proofs.YtpeogffeoehboaaDoor
