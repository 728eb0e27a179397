/-
  Contracts of the program's functions and of the document's. Lemmas alone; their conditions stand in them.
-/
import Derived.Test.YtpeogffeoehboaaGreatDoorK2
open Go Go.RM
namespace Go.Proofs.YtpeogffeoehboaaGreatDoor
set_option maxRecDepth 100000
theorem lM {n:Nat} {e:Nat→Int} (h:(eE n e).2=0):∀ i,i < n→e i=0:=by
 intro i hi;unfold eE at h
 cases hf:(List.range n).find? (fun i=>e i != 0) with
 | none =>rw [List.find?_eq_none] at hf;have:=hf i (by simpa using hi);simpa using this
 | some k =>
  rw [hf] at h;have h1:(e k != 0)=true:=by have:=List.find?_some hf;exact this
  have h2:e k=0:=h;rw [h2] at h1;cases h1
structure Good (s:ai):Prop where
 days:1≤s.days∧s.days≤60
 load:1≤s.load∧s.load≤30
 fail:0≤s.fail∧s.fail≤8
 row:1≤s.row∧s.row≤8
 len:1≤s.needs.length∧s.needs.length≤3
 needs:∀ x ∈ s.needs,jM x.name=true∧(1≤x.full∧x.full≤60)∧(0≤x.first∧x.first≤x.full)∧(1≤x.weight∧x.weight≤30)
 many:s.possible.length≤6
 HA:∀ i,i < s.possible.length→gp s.possible s.days 7 i=0
theorem Bm {x:k8} {b:List k8} (h:gU x b=0):jM x.name=true∧(1≤x.full∧x.full≤60)∧(0≤x.first∧x.first≤x.full)∧(1≤x.weight∧x.weight≤30):=by
 unfold gU at h;split at h
 ·cases h
 ·split at h
  ·cases h
  ·split at h
   ·cases h
   ·rename_i h1 _ h3;simp only [Bool.or_eq_true,not_or,Bool.not_eq_true] at h3;exact ⟨by simpa using h1,cZ h3.1.1,cZ h3.1.2,cZ h3.2⟩
theorem qX {s:ai} (h:(l8 s).2.2=0):Good s:=by
 unfold l8 at h;split at h
 ·cases h
 ·split at h
  ·cases h
  ·split at h
   ·rename_i h3;exact absurd h h3
   ·split at h
    ·cases h
    ·split at h
     ·rename_i h5;exact absurd h h5
     ·rename_i h1 h2 h3 h4 h5;simp only [dA,Bool.or_eq_true,not_or,Bool.not_eq_true] at h1;have l2:=cZ (by simpa using h2);have z3:=lM (Classical.not_not.1 h3);have z5:=lM (Classical.not_not.1 h5);refine ⟨cZ h1.1.1.1,cZ h1.1.1.2,cZ h1.1.2,cZ h1.2,by omega,fun x hx=>?_,by omega,z5⟩;obtain ⟨i,hi,rfl⟩:=List.mem_iff_getElem.1 hx;have:=z3 i hi;unfold fQ at this;rw [List.getElem?_eq_getElem hi] at this;exact Bm this
theorem C9 {s:ai} (h:(l8 s).2.2=0):l8 s=(0,0,0):=by
 unfold l8 at h ⊢;repeat' split
 all_goals simp_all
def DW (s:ai) (i:Int):Int:=match s.needs[i.toNat]? with
 | some x=>x.weight
 | none=>0
def tR (s:ai) (l:List Int):Int:=(l.map (DW s)).sum
theorem Ll {s:ai} (h:Good s) (i:Int):0≤DW s i∧DW s i≤30:=by
 unfold DW
 cases hi:s.needs[i.toNat]? with
 | none=>simp
 | some x=>have:=(h.needs x (List.mem_of_getElem? hi)).2.2.2;exact ⟨by simp only;omega,by simp only;omega⟩
theorem Da {s:ai} (h:Good s):∀ l:List Int,0≤tR s l∧tR s l≤30 * l.length
 | []=>by simp [tR]
 | a :: l=>by have h1:=Ll h a;have h2:=Da h l;unfold tR at h2 ⊢;simp only [List.map_cons,List.sum_cons,List.length_cons];omega
theorem Db {s:ai} {l:List Int} {k:Nat} (h:k < l.length):tR s (l.take (k+1))=tR s (l.take k)+DW s l[k]:=by unfold tR;rw [List.take_add_one,List.getElem?_eq_getElem h,List.map_append,List.sum_append];simp
def Lm (l:List Int) (many:Nat):Int:=(eE l.length (gp l (many:Int) 4)).2
theorem qd {l:List Int} {many below:Int} {i:Nat} (hb:below ≠ 0) (hi:i < l.length) (h:gp l many below i=0):(0≤l[i]∧l[i] < many)∧(∀ j,j+1=i→(hj:j < l.length)→l[j] < l[i]):=by
 cases e:qE l[i] 0 (many - 1) with
 | false=>rw [C6 hi e] at h;exact absurd h hb
 | true =>
  have e2:=nD.1 e;refine ⟨by omega,fun j hj hjl=>?_⟩;subst hj;rw [Lj hi e] at h;split at h
  ·cases h
  ·omega
theorem Ln {l:List Int} {many below:Int} (hb:below ≠ 0) (h:∀ i,i < l.length→gp l many below i=0):∀ (i j:Nat) (hi:i < l.length) (hj:j < l.length),i < j→l[i] < l[j]:=by
 intro i j hi hj hij
 induction j with
 | zero=>omega
 | succ j ih =>
  have h1:=(qd hb hj (h _ hj)).2 j rfl (by omega);by_cases e:i=j
  ·subst e;exact h1
  ·have:=ih (by omega) (by omega);omega
theorem QE {l:List Int} {many below:Int} (hb:below ≠ 0) (h:∀ i,i < l.length→gp l many below i=0):∀ (i:Nat) (hi:i < l.length),(i:Int)≤l[i]:=by
 intro i hi
 induction i with
 | zero=>exact (qd hb hi (h _ hi)).1.1
 | succ j ih =>
  have h1:=(qd hb hi (h _ hi)).2 j rfl (by omega);have:=ih (by omega)
  push_cast
  omega
theorem Nh {l:List Int} {many:Nat} {below:Int} (hb:below ≠ 0) (h:∀ i,i < l.length→gp l (many:Int) below i=0):l.length≤many:=by
 cases e:l.length with
 | zero=>omega
 | succ k =>have h1:=QE hb h k (by omega);have h2:=(qd hb (i:=k) (by omega) (h k (by omega))).1.2;omega
theorem Ni {l:List Int} {many:Nat} (h:Lm l many=0):(∀ x ∈ l,0≤x∧x < many)∧l.length≤many∧∀ (i j:Nat) (hi:i < l.length) (hj:j < l.length),i < j→l[i] < l[j]:=by have hz:=lM h;refine ⟨fun x hx=>?_,Nh (by decide) hz,Ln (by decide) hz⟩;obtain ⟨i,hi,rfl⟩:=List.mem_iff_getElem.1 hx;exact (qd (by decide) hi (hz i hi)).1
def sH (s:ai) (o:Order) (last:Int):Int :=
 if gB 0 (s.days - 1) [o.day]=true then 7 else if o.day≤last then 2 else if o.bw.length=0 then 3
 else if Lm o.bw s.needs.length ≠ 0 then Lm o.bw s.needs.length else if s.load < tR s o.bw then 9 else 0
def zC (p:List Order) (i:Nat):Int:=if i=0 then -1 else match p[i - 1]? with
 | some o=>o.day
 | none=>0
def Bn (s:ai) (p:List Order) (i:Nat):Int:=match p[i]? with
 | some o=>sH s o (zC p i)
 | none=>0
def Bo (s:ai) (p:List Order):Int × Int:=if 8 < p.length then (0,3) else eE p.length (Bn s p)
def oX (s:ai) (p:List Order):Int × Int:=if (l8 s).2.2 ≠ 0 then (0,(l8 s).2.2) else Bo s p
structure qe (s:ai) (o:Order):Prop where
 day:0≤o.day∧o.day < s.days
 bw:∀ x ∈ o.bw,0≤x∧x < s.needs.length
 some:1≤o.bw.length
 len:o.bw.length≤s.needs.length
 HA:∀ (i j:Nat) (hi:i < o.bw.length) (hj:j < o.bw.length),i < j→o.bw[i] < o.bw[j]
 load:tR s o.bw≤s.load
structure jC (s:ai) (p:List Order):Prop where
 good:Good s
 len:p.length≤8
 order:∀ o ∈ p,qe s o
 HA:∀ (i j:Nat) (hi:i < p.length) (hj:j < p.length),i < j→p[i].day < p[j].day
theorem yB {s:ai} {o:Order} {last:Int} (h:sH s o last=0):qe s o∧last < o.day:=by
 unfold sH at h;split at h
 ·cases h
 ·split at h
  ·cases h
  ·split at h
   ·cases h
   ·split at h
    ·rename_i h4;exact absurd h h4
    ·split at h
     ·cases h
     ·rename_i h1 h2 h3 h4 h5;have d:=cZ (by simpa using h1);obtain ⟨q1,q2,q3⟩:=Ni (Classical.not_not.1 h4);exact ⟨⟨by omega,q1,by omega,q2,q3,by omega⟩,by omega⟩
theorem Dc {s:ai} {p:List Order} (h:(oX s p).2=0):jC s p:=by
 unfold oX at h;split at h
 ·rename_i h1;exact absurd h h1
 ·rename_i h1;have hg:=qX (Classical.not_not.1 h1);unfold Bo at h;split at h
  ·cases h
  ·have hz:=lM h;have ho:∀ i (hi:i < p.length),qe s p[i]∧zC p i < p[i].day:=fun i hi=>by have:=hz i hi;unfold Bn at this;rw [List.getElem?_eq_getElem hi] at this;exact yB this
   refine ⟨hg,by omega,fun o ho'=>?_,?_⟩
   ·obtain ⟨i,hi,rfl⟩:=List.mem_iff_getElem.1 ho';exact (ho i hi).1
   ·intro i j hi hj hij
    induction j with
    | zero=>omega
    | succ j ih =>
     have h1:=(ho _ hj).2;have h2:zC p (j+1)=p[j].day:=by unfold zC;rw [if_neg (by omega),Nat.add_sub_cancel,List.getElem?_eq_getElem (by omega)]
     rw [h2] at h1;by_cases e:i=j
     ·subst e;exact h1
     ·have:=ih (by omega) (by omega);omega
set_option maxHeartbeats 4000000
theorem Bp {s:ai} {x:Int} (h:0≤x∧x < s.needs.length):∃ nd,s.needs[x.toNat]?=some nd∧(s.needs.map aQ)[x.toNat]?=some (aQ nd)∧DW s x=nd.weight:=by
 have hlt:x.toNat < s.needs.length:=by omega
 refine ⟨s.needs[x.toNat],List.getElem?_eq_getElem hlt,by rw [List.getElem?_map,List.getElem?_eq_getElem hlt];rfl,?_⟩;unfold DW;rw [List.getElem?_eq_getElem hlt]
theorem Dd (one:Bool) {s:ai} (hg:Good s) (l:List Int) (full:Bool) (hl:l.length≤s.needs.length) (hr:∀ x ∈ l,0≤x∧x < s.needs.length):Pu one 75 [.ag (ay s),.sl (ints l) full] (aC (tR s l)):=by
 have ml:l.length≤9223372036854775807:=by have:=hg.len;omega
 have eg:((ints l).length:Int)=l.length:=by simp
 have hl3:l.length≤3:=by have:=hg.len;omega
 obtain ⟨n,hn⟩:∃ n:Int,n=l.length:=⟨_,rfl⟩;refine aj.body (fn:=Tryz.f75) rfl rfl rfl rfl ?_;refine qq1 ?_;repeat' first|refine u1 ?_|refine u2 ?_|fail
 refine av.aJ (ah.to (l:=[(2,.pt (ay s) 0),(4,aC (tR s (l.take 0))),(7,.sl (ints l) full),(8,aC n),(9,aC (0:Nat))]) (hp:=[]) 0 rfl ⟨rfl,rfl,rfl,bq (by rw [hn];exact eg),rfl,trivial⟩ (qq5 _) rfl rfl) ?_;refine av.loop (fun k:Nat=>k≤l.length) (fun k=>⟨aZ [(2,.pt (ay s) 0),(4,aC (tR s (l.take k))),(7,.sl (ints l) full),(8,aC n),(9,aC (k:Nat))],[],bA.none,false,0⟩) (fun k=>l.length - k) ?_ 0 (qq5 _);intro k hk;refine qq1 ?_;by_cases hlt:k < l.length
 ·have d1:decide ((k:Int) < n)=true:=decide_eq_true (by omega);have hat:(ints l)[((k:Nat):Int).toNat]?=some (eI l[k]):=bp hlt;have hb:=hr _ (List.getElem_mem hlt);have ht:=Db (s:=s) hlt;have hw:=Da hg (l.take k);have hwl:(l.take k).length=k:=by rw [List.length_take];omega
  generalize l[k]=x at *
  obtain ⟨nd,h1,h2,h3⟩:=Bp hb;have hnw:=(hg.needs nd (List.mem_of_getElem? h1)).2.2.2;rw [h3] at ht;repeat' first|refine u1 ?_|((with_reducible refine qq4 ?_);refine ⟨eI x,⟨by omega,hat⟩,rfl,?_⟩)|((with_reducible refine qq4 ?_);refine ⟨aQ nd,⟨by omega,h2⟩,rfl,?_⟩)|refine u2 ?_|fail
  exact ⟨k+1,hlt,(by dsimp only;omega),ah.to 0 rfl ⟨rfl,bq ht.symm,rfl,rfl,bq (by simp),trivial⟩ (qq5 _) rfl rfl⟩
 ·have d1:decide ((k:Int) < n)=false:=decide_eq_false (by omega);have e:l.take k=l:=List.take_of_length_le (by omega);rw [e];repeat' first|refine u1 ?_|refine u2 ?_|fail
  exact ⟨[_],⟨Fz.deep rfl,trivial⟩,rfl⟩
theorem HC (one:Bool) {s:ai} (hg:Good s) (l:List Int) (full:Bool) (hl:l.length≤s.needs.length) (hr:∀ x ∈ l,0≤x∧x < s.needs.length):Pu one 82 [.ag (ay s),.sl (ints l) full] (aC (tR s l)):=by
 have ml:l.length≤9223372036854775807:=by have:=hg.len;omega
 have eg:((ints l).length:Int)=l.length:=by simp
 have hl3:l.length≤3:=by have:=hg.len;omega
 refine aj.body (fn:=Tryz.f82) rfl rfl rfl rfl ?_;refine qq1 ?_;repeat' first|refine u1 ?_|refine u2 ?_|fail
 refine av.aJ (ah.to (l:=[(1,.sl (ints l) full),(2,.pt (ay s) 0),(5,aC (tR s (l.take 0))),(6,aC (0:Nat))]) (hp:=[]) 0 rfl ⟨rfl,rfl,rfl,rfl,trivial⟩ (qq5 _) rfl rfl) ?_;refine av.loop (fun k:Nat=>k≤l.length) (fun k=>⟨aZ [(1,.sl (ints l) full),(2,.pt (ay s) 0),(5,aC (tR s (l.take k))),(6,aC (k:Nat))],[],bA.none,false,0⟩) (fun k=>l.length - k) ?_ 0 (qq5 _);intro k hk;refine qq1 ?_;by_cases hlt:k < l.length
 ·have d1:decide ((k:Int) < ((ints l).length:Int))=true:=decide_eq_true (by omega);have hat:(ints l)[((k:Nat):Int).toNat]?=some (eI l[k]):=bp hlt;have hb:=hr _ (List.getElem_mem hlt);have ht:=Db (s:=s) hlt;have hw:=Da hg (l.take k);have hwl:(l.take k).length=k:=by rw [List.length_take];omega
  generalize l[k]=x at *
  obtain ⟨nd,h1,h2,h3⟩:=Bp hb;have hnw:=(hg.needs nd (List.mem_of_getElem? h1)).2.2.2;rw [h3] at ht;repeat' first|refine u1 ?_|((with_reducible refine qq4 ?_);refine ⟨eI x,⟨by omega,hat⟩,rfl,?_⟩)|((with_reducible refine qq4 ?_);refine ⟨aQ nd,⟨by omega,h2⟩,rfl,?_⟩)|refine u2 ?_|fail
  exact ⟨k+1,hlt,(by dsimp only;omega),ah.to 0 rfl ⟨rfl,rfl,bq ht.symm,bq (by simp),trivial⟩ (qq5 _) rfl rfl⟩
 ·have d1:decide ((k:Int) < ((ints l).length:Int))=false:=decide_eq_false (by omega);have e:l.take k=l:=List.take_of_length_le (by omega);rw [e];repeat' first|refine u1 ?_|refine u2 ?_|fail
  exact ⟨[_],⟨Fz.deep rfl,trivial⟩,rfl⟩
def hasB (l:List Int) (a:Int):Bool:=l.any fun x=>decide (x=a)
theorem fM {l:List Int} {a:Int}:hasB l a=true ↔ a ∈ l:=by simp [hasB]
theorem Gq (one:Bool) (l:List Int) (full:Bool) (a:Int) (hl:l.length≤maxLen):Pu one 59 [.sl (ints l) full,aC a] (BB (hasB l a)):=by
 have ml:l.length≤9223372036854775807:=Nat.le_trans hl (by simp [maxLen]);have eg:((ints l).length:Int)=l.length:=by simp
 refine aj.body (fn:=Tryz.f59) rfl rfl rfl rfl ?_;refine qq1 ?_;repeat' first|refine u1 ?_|refine u2 ?_|fail
 refine av.aJ (ah.to (l:=[(0,.sl (ints l) full),(1,aC a),(5,aC (0:Nat))]) (hp:=[]) 0 rfl ⟨rfl,rfl,rfl,trivial⟩ (qq5 _) rfl rfl) ?_;refine av.loop (fun k:Nat=>k≤l.length∧∀ i (h:i < l.length),i < k→l[i] ≠ a) (fun k=>⟨aZ [(0,.sl (ints l) full),(1,aC a),(5,aC (k:Nat))],[],bA.none,false,0⟩) (fun k=>l.length - k) ?_ 0 ⟨qq5 _,fun i _ hi=>absurd hi (Nat.not_lt_zero _)⟩;rintro k ⟨hk,hprev⟩;refine qq1 ?_;by_cases hlt:k < l.length
 ·have d1:decide ((k:Int) < ((ints l).length:Int))=true:=decide_eq_true (by omega);have hat:(ints l)[((k:Nat):Int).toNat]?=some (eI l[k]):=bp hlt;by_cases hx:l[k]=a
  ·have hh:hasB l a=true:=fM.2 (by rw [←hx];exact List.getElem_mem hlt);have d2:=decide_eq_true hx;rw [hh]
   generalize l[k]=x at *
   repeat' first|refine u1 ?_|((with_reducible refine qq4 ?_);refine ⟨eI x,⟨by omega,hat⟩,rfl,?_⟩)|refine u2 ?_|fail
   exact ⟨[_],⟨Fz.deep rfl,trivial⟩,rfl⟩
  ·have d2:=decide_eq_false hx
   have hn:∀ i (h:i < l.length),i < k+1→l[i] ≠ a:=fun i hi hik=>by
    by_cases e:i=k
    ·subst e;exact hx
    ·exact hprev i hi (by omega)
   generalize l[k]=x at *
   repeat' first|refine u1 ?_|((with_reducible refine qq4 ?_);refine ⟨eI x,⟨by omega,hat⟩,rfl,?_⟩)|refine u2 ?_|fail
   exact ⟨k+1,⟨hlt,hn⟩,(by dsimp only;omega),ah.to 0 rfl ⟨rfl,rfl,bq (by simp),trivial⟩ (qq5 _) rfl rfl⟩
 ·have d1:decide ((k:Int) < ((ints l).length:Int))=false:=decide_eq_false (by omega)
  have hh:hasB l a=false:=by
   cases e:hasB l a with
   | false=>rfl
   | true =>obtain ⟨i,hi,hia⟩:=List.mem_iff_getElem.1 (fM.1 e);exact absurd hia (hprev i hi (by omega))
  rw [hh];repeat' first|refine u1 ?_|refine u2 ?_|fail
  exact ⟨[_],⟨Fz.deep rfl,trivial⟩,rfl⟩
