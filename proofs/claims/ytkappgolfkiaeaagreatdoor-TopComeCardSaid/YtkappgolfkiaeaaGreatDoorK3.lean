/-
  Contracts of the program's functions and of the document's. Lemmas alone; their conditions stand in them.
-/
import Derived.Test.YtkappgolfkiaeaaGreatDoorK2
open Go Go.RM
namespace Go.Proofs.YtkappgolfkiaeaaGreatDoor
set_option maxRecDepth 100000
theorem eP {n:Nat} {e:Nat→Int} (h:(bx n e).2=0):∀ i,i < n→e i=0:=by
 intro i hi;unfold bx at h
 cases hf:(List.range n).find? (fun i=>e i != 0) with
 | none =>rw [List.find?_eq_none] at hf;have:=hf i (by simpa using hi);simpa using this
 | some k =>
  rw [hf] at h;have h1:(e k != 0)=true:=by have:=List.find?_some hf;exact this
  have h2:e k=0:=h;rw [h2] at h1;cases h1
theorem G5 {n:Nat} {e:Nat→Int} (h:(bx n e).2 ≠ 0):∃ k,k < n∧(∀ i,i < k→e i=0)∧e k ≠ 0∧bx n e=((k:Int),e k):=by
 unfold bx at h ⊢
 cases hf:(List.range n).find? (fun i=>e i != 0) with
 | none=>rw [hf] at h;exact absurd rfl h
 | some k =>rw [List.find?_range_eq_some] at hf;obtain ⟨h1,h2,h3⟩:=hf;refine ⟨k,by simpa using h2,fun i hi=>?_,by simpa using h1,rfl⟩;have:=h3 i hi;simpa using this
structure Good (s:aC):Prop where
 days:1≤s.days∧s.days≤60
 load:1≤s.load∧s.load≤30
 fail:0≤s.fail∧s.fail≤8
 row:1≤s.row∧s.row≤8
 len:1≤s.needs.length∧s.needs.length≤3
 needs:∀ x ∈ s.needs,i6 x.name=true∧(1≤x.full∧x.full≤60)∧(0≤x.first∧x.first≤x.full)∧(1≤x.weight∧x.weight≤30)
 many:s.possible.length≤6
 M9:∀ i,i < s.possible.length→gh s.possible s.days 7 i=0
theorem A5 {x:hH} {b:List hH} (h:fV x b=0):i6 x.name=true∧(1≤x.full∧x.full≤60)∧(0≤x.first∧x.first≤x.full)∧(1≤x.weight∧x.weight≤30):=by
 unfold fV at h;split at h
 ·cases h
 ·split at h
  ·cases h
  ·split at h
   ·cases h
   ·rename_i h1 _ h3;simp only [Bool.or_eq_true,not_or,Bool.not_eq_true] at h3;exact ⟨by simpa using h1,cY h3.1.1,cY h3.1.2,cY h3.2⟩
theorem tS {s:aC} (h:(gv s).2.2=0):Good s:=by
 unfold gv at h;split at h
 ·cases h
 ·split at h
  ·cases h
  ·split at h
   ·rename_i h3;exact absurd h h3
   ·split at h
    ·cases h
    ·split at h
     ·rename_i h5;exact absurd h h5
     ·rename_i h1 h2 h3 h4 h5;simp only [cR,Bool.or_eq_true,not_or,Bool.not_eq_true] at h1;have l2:=cY (by simpa using h2);have z3:=eP (Classical.not_not.1 h3);have z5:=eP (Classical.not_not.1 h5);refine ⟨cY h1.1.1.1,cY h1.1.1.2,cY h1.1.2,cY h1.2,by omega,fun x hx=>?_,by omega,z5⟩;obtain ⟨i,hi,rfl⟩:=List.mem_iff_getElem.1 hx;have:=z3 i hi;unfold dP at this;rw [List.getElem?_eq_getElem hi] at this;exact A5 this
theorem I8 {s:aC} (h:(gv s).2.2=0):gv s=(0,0,0):=by
 unfold gv at h ⊢;repeat' split
 all_goals simp_all
def Eu (s:aC) (i:Int):Int:=match s.needs[i.toNat]? with
 | some x=>x.weight
 | none=>0
def CU (s:aC) (l:List Int):Int:=(l.map (Eu s)).sum
theorem I9 {s:aC} (h:Good s) (i:Int):0≤Eu s i∧Eu s i≤30:=by
 unfold Eu
 cases hi:s.needs[i.toNat]? with
 | none=>simp
 | some x=>have:=(h.needs x (List.mem_of_getElem? hi)).2.2.2;exact ⟨by simp only;omega,by simp only;omega⟩
theorem Ob {s:aC} (h:Good s):∀ l:List Int,0≤CU s l∧CU s l≤30 * l.length
 | []=>by simp [CU]
 | a :: l=>by have h1:=I9 h a;have h2:=Ob h l;unfold CU at h2 ⊢;simp only [List.map_cons,List.sum_cons,List.length_cons];omega
theorem Ja {s:aC} {l:List Int} {k:Nat} (h:k < l.length):CU s (l.take (k+1))=CU s (l.take k)+Eu s l[k]:=by unfold CU;rw [List.take_add_one,List.getElem?_eq_getElem h,List.map_append,List.sum_append];simp
def qb (l:List Int) (many:Nat):Int:=(bx l.length (gh l (many:Int) 4)).2
theorem pS {l:List Int} {many below:Int} {i:Nat} (hb:below ≠ 0) (hi:i < l.length) (h:gh l many below i=0):(0≤l[i]∧l[i] < many)∧(∀ j,j+1=i→(hj:j < l.length)→l[j] < l[i]):=by
 cases e:iC l[i] 0 (many - 1) with
 | false=>rw [CS hi e] at h;exact absurd h hb
 | true =>
  have e2:=dA.1 e;refine ⟨by omega,fun j hj hjl=>?_⟩;subst hj;rw [I7 hi e] at h;split at h
  ·cases h
  ·omega
theorem Jb {l:List Int} {many below:Int} (hb:below ≠ 0) (h:∀ i,i < l.length→gh l many below i=0):∀ (i j:Nat) (hi:i < l.length) (hj:j < l.length),i < j→l[i] < l[j]:=by
 intro i j hi hj hij
 induction j with
 | zero=>omega
 | succ j ih =>
  have h1:=(pS hb hj (h _ hj)).2 j rfl (by omega);by_cases e:i=j
  ·subst e;exact h1
  ·have:=ih (by omega) (by omega);omega
theorem P0 {l:List Int} {many below:Int} (hb:below ≠ 0) (h:∀ i,i < l.length→gh l many below i=0):∀ (i:Nat) (hi:i < l.length),(i:Int)≤l[i]:=by
 intro i hi
 induction i with
 | zero=>exact (pS hb hi (h _ hi)).1.1
 | succ j ih =>
  have h1:=(pS hb hi (h _ hi)).2 j rfl (by omega);have:=ih (by omega)
  push_cast
  omega
theorem Na {l:List Int} {many:Nat} {below:Int} (hb:below ≠ 0) (h:∀ i,i < l.length→gh l (many:Int) below i=0):l.length≤many:=by
 cases e:l.length with
 | zero=>omega
 | succ k =>have h1:=P0 hb h k (by omega);have h2:=(pS hb (i:=k) (by omega) (h k (by omega))).1.2;omega
theorem vm {l:List Int} {many:Nat} (h:qb l many=0):(∀ x ∈ l,0≤x∧x < many)∧l.length≤many∧∀ (i j:Nat) (hi:i < l.length) (hj:j < l.length),i < j→l[i] < l[j]:=by have hz:=eP h;refine ⟨fun x hx=>?_,Na (by decide) hz,Jb (by decide) hz⟩;obtain ⟨i,hi,rfl⟩:=List.mem_iff_getElem.1 hx;exact (pS (by decide) hi (hz i hi)).1
def kR (s:aC) (o:Order) (last:Int):Int :=
 if bS 0 (s.days - 1) [o.day]=true then 7 else if o.day≤last then 2 else if o.bl.length=0 then 3
 else if qb o.bl s.needs.length ≠ 0 then qb o.bl s.needs.length else if s.load < CU s o.bl then 9 else 0
def mJ (p:List Order) (i:Nat):Int:=if i=0 then -1 else match p[i - 1]? with
 | some o=>o.day
 | none=>0
def lK (s:aC) (p:List Order) (i:Nat):Int:=match p[i]? with
 | some o=>kR s o (mJ p i)
 | none=>0
def vn (s:aC) (p:List Order):Int × Int:=if 8 < p.length then (0,3) else bx p.length (lK s p)
def gx (s:aC) (p:List Order):Int × Int:=if (gv s).2.2 ≠ 0 then (0,(gv s).2.2) else vn s p
structure pT (s:aC) (o:Order):Prop where
 day:0≤o.day∧o.day < s.days
 bl:∀ x ∈ o.bl,0≤x∧x < s.needs.length
 some:1≤o.bl.length
 len:o.bl.length≤s.needs.length
 M9:∀ (i j:Nat) (hi:i < o.bl.length) (hj:j < o.bl.length),i < j→o.bl[i] < o.bl[j]
 load:CU s o.bl≤s.load
structure uN (s:aC) (p:List Order):Prop where
 good:Good s
 len:p.length≤8
 order:∀ o ∈ p,pT s o
 M9:∀ (i j:Nat) (hi:i < p.length) (hj:j < p.length),i < j→p[i].day < p[j].day
theorem yO {s:aC} {o:Order} {last:Int} (h:kR s o last=0):pT s o∧last < o.day:=by
 unfold kR at h;split at h
 ·cases h
 ·split at h
  ·cases h
  ·split at h
   ·cases h
   ·split at h
    ·rename_i h4;exact absurd h h4
    ·split at h
     ·cases h
     ·rename_i h1 h2 h3 h4 h5;have d:=cY (by simpa using h1);obtain ⟨q1,q2,q3⟩:=vm (Classical.not_not.1 h4);exact ⟨⟨by omega,q1,by omega,q2,q3,by omega⟩,by omega⟩
theorem mK {s:aC} {p:List Order} (h:(gx s p).2=0):uN s p:=by
 unfold gx at h;split at h
 ·rename_i h1;exact absurd h h1
 ·rename_i h1;have hg:=tS (Classical.not_not.1 h1);unfold vn at h;split at h
  ·cases h
  ·have hz:=eP h;have ho:∀ i (hi:i < p.length),pT s p[i]∧mJ p i < p[i].day:=fun i hi=>by have:=hz i hi;unfold lK at this;rw [List.getElem?_eq_getElem hi] at this;exact yO this
   refine ⟨hg,by omega,fun o ho'=>?_,?_⟩
   ·obtain ⟨i,hi,rfl⟩:=List.mem_iff_getElem.1 ho';exact (ho i hi).1
   ·intro i j hi hj hij
    induction j with
    | zero=>omega
    | succ j ih =>
     have h1:=(ho _ hj).2;have h2:mJ p (j+1)=p[j].day:=by unfold mJ;rw [if_neg (by omega),Nat.add_sub_cancel,List.getElem?_eq_getElem (by omega)]
     rw [h2] at h1;by_cases e:i=j
     ·subst e;exact h1
     ·have:=ih (by omega) (by omega);omega
set_option maxHeartbeats 4000000
theorem FU {s:aC} {x:Int} (h:0≤x∧x < s.needs.length):∃ nd,s.needs[x.toNat]?=some nd∧(s.needs.map aU)[x.toNat]?=some (aU nd)∧Eu s x=nd.weight:=by
 have hlt:x.toNat < s.needs.length:=by omega
 refine ⟨s.needs[x.toNat],List.getElem?_eq_getElem hlt,by rw [List.getElem?_map,List.getElem?_eq_getElem hlt];rfl,?_⟩;unfold Eu;rw [List.getElem?_eq_getElem hlt]
theorem Jc (one:Bool) {s:aC} (hg:Good s) (l:List Int) (full:Bool) (hl:l.length≤s.needs.length) (hr:∀ x ∈ l,0≤x∧x < s.needs.length):Pu one 124 [.ag (aH s),.sl (ints l) full] (av (CU s l)):=by
 have ml:l.length≤9223372036854775807:=by have:=hg.len;omega
 have eg:((ints l).length:Int)=l.length:=by simp
 have hl3:l.length≤3:=by have:=hg.len;omega
 obtain ⟨n,hn⟩:∃ n:Int,n=l.length:=⟨_,rfl⟩;refine af.body (fn:=Tryz.f124) rfl rfl rfl rfl ?_;refine qq1 ?_;repeat' first|refine u1 ?_|refine u2 ?_|fail
 refine aE.aS (ai.to (l:=[(2,.pt (aH s) 0),(4,av (CU s (l.take 0))),(7,.sl (ints l) full),(8,av n),(9,av (0:Nat))]) (hp:=[]) 0 rfl ⟨rfl,rfl,rfl,aJ (by rw [hn];exact eg),rfl,trivial⟩ (qq5 _) rfl rfl) ?_;refine aE.loop (fun k:Nat=>k≤l.length) (fun k=>⟨bA [(2,.pt (aH s) 0),(4,av (CU s (l.take k))),(7,.sl (ints l) full),(8,av n),(9,av (k:Nat))],[],cz.none,false,0⟩) (fun k=>l.length - k) ?_ 0 (qq5 _);intro k hk;refine qq1 ?_;by_cases hlt:k < l.length
 ·have d1:decide ((k:Int) < n)=true:=decide_eq_true (by omega);have hat:(ints l)[((k:Nat):Int).toNat]?=some (eI l[k]):=bI hlt;have hb:=hr _ (List.getElem_mem hlt);have ht:=Ja (s:=s) hlt;have hw:=Ob hg (l.take k);have hwl:(l.take k).length=k:=by rw [List.length_take];omega
  generalize l[k]=x at *
  obtain ⟨nd,h1,h2,h3⟩:=FU hb;have hnw:=(hg.needs nd (List.mem_of_getElem? h1)).2.2.2;rw [h3] at ht;repeat' first|refine u1 ?_|((with_reducible refine qq4 ?_);refine ⟨eI x,⟨by omega,hat⟩,rfl,?_⟩)|((with_reducible refine qq4 ?_);refine ⟨aU nd,⟨by omega,h2⟩,rfl,?_⟩)|refine u2 ?_|fail
  exact ⟨k+1,hlt,(by dsimp only;omega),ai.to 0 rfl ⟨rfl,aJ ht.symm,rfl,rfl,aJ (by simp),trivial⟩ (qq5 _) rfl rfl⟩
 ·have d1:decide ((k:Int) < n)=false:=decide_eq_false (by omega);have e:l.take k=l:=List.take_of_length_le (by omega);rw [e];repeat' first|refine u1 ?_|refine u2 ?_|fail
  exact ⟨[_],⟨Fz.deep rfl,trivial⟩,rfl⟩
def hasB (l:List Int) (a:Int):Bool:=l.any fun x=>decide (x=a)
theorem iP {l:List Int} {a:Int}:hasB l a=true ↔ a ∈ l:=by simp [hasB]
theorem Oc (one:Bool) (l:List Int) (full:Bool) (a:Int) (hl:l.length≤maxLen):Pu one 15 [.sl (ints l) full,av a] (BB (hasB l a)):=by
 have ml:l.length≤9223372036854775807:=Nat.le_trans hl (by simp [maxLen]);have eg:((ints l).length:Int)=l.length:=by simp
 refine af.body (fn:=Tryz.f15) rfl rfl rfl rfl ?_;refine qq1 ?_;repeat' first|refine u1 ?_|refine u2 ?_|fail
 refine aE.aS (ai.to (l:=[(0,.sl (ints l) full),(1,av a),(5,av (0:Nat))]) (hp:=[]) 0 rfl ⟨rfl,rfl,rfl,trivial⟩ (qq5 _) rfl rfl) ?_;refine aE.loop (fun k:Nat=>k≤l.length∧∀ i (h:i < l.length),i < k→l[i] ≠ a) (fun k=>⟨bA [(0,.sl (ints l) full),(1,av a),(5,av (k:Nat))],[],cz.none,false,0⟩) (fun k=>l.length - k) ?_ 0 ⟨qq5 _,fun i _ hi=>absurd hi (Nat.not_lt_zero _)⟩;rintro k ⟨hk,hprev⟩;refine qq1 ?_;by_cases hlt:k < l.length
 ·have d1:decide ((k:Int) < ((ints l).length:Int))=true:=decide_eq_true (by omega);have hat:(ints l)[((k:Nat):Int).toNat]?=some (eI l[k]):=bI hlt;by_cases hx:l[k]=a
  ·have hh:hasB l a=true:=iP.2 (by rw [←hx];exact List.getElem_mem hlt);have d2:=decide_eq_true hx;rw [hh]
   generalize l[k]=x at *
   repeat' first|refine u1 ?_|((with_reducible refine qq4 ?_);refine ⟨eI x,⟨by omega,hat⟩,rfl,?_⟩)|refine u2 ?_|fail
   exact ⟨[_],⟨Fz.deep rfl,trivial⟩,rfl⟩
  ·have d2:=decide_eq_false hx
   have hn:∀ i (h:i < l.length),i < k+1→l[i] ≠ a:=fun i hi hik=>by
    by_cases e:i=k
    ·subst e;exact hx
    ·exact hprev i hi (by omega)
   generalize l[k]=x at *
   repeat' first|refine u1 ?_|((with_reducible refine qq4 ?_);refine ⟨eI x,⟨by omega,hat⟩,rfl,?_⟩)|refine u2 ?_|fail
   exact ⟨k+1,⟨hlt,hn⟩,(by dsimp only;omega),ai.to 0 rfl ⟨rfl,rfl,aJ (by simp),trivial⟩ (qq5 _) rfl rfl⟩
 ·have d1:decide ((k:Int) < ((ints l).length:Int))=false:=decide_eq_false (by omega)
  have hh:hasB l a=false:=by
   cases e:hasB l a with
   | false=>rfl
   | true =>obtain ⟨i,hi,hia⟩:=List.mem_iff_getElem.1 (iP.1 e);exact absurd hia (hprev i hi (by omega))
  rw [hh];repeat' first|refine u1 ?_|refine u2 ?_|fail
  exact ⟨[_],⟨Fz.deep rfl,trivial⟩,rfl⟩
theorem sG {s:aC} (h:cR s=false) (h1:bS 1 3 [(s.needs.length:Int)]=false) (hprev:∀ i,i < s.needs.length→dP s i=0) (h2:¬ 6 < s.possible.length) {k:Nat} {v:Int} (hk:k < s.possible.length) (hp:∀ i,i < k→gh s.possible s.days 7 i=0) (hv:gh s.possible s.days 7 k=v) (h0:v ≠ 0):gv s=(3,(k:Int),v):=by rw [w9 h h1 hprev h2,eO hk hp (by rw [hv];exact h0),hv,if_pos h0]
theorem Nb {s:aC} (h:cR s=false) (h1:bS 1 3 [(s.needs.length:Int)]=false) (hprev:∀ i,i < s.needs.length→dP s i=0) (h2:¬ 6 < s.possible.length) (hp:∀ i,i < s.possible.length→gh s.possible s.days 7 i=0):gv s=(0,0,0):=by rw [w9 h h1 hprev h2,cu hp];rfl
theorem xb (one:Bool) (s:aC) (h:s.Ok):Pu one 5 [.ag (aH s)] (.tp [av (gv s).1,av (gv s).2.1,av (gv s).2.2]):=by
 have eg:((s.needs.map aU).length:Int)=s.needs.length:=by simp
 have o1:=nE one s.days 1 60;have o2:=nE one s.load 1 30;have o3:=nE one s.fail 0 8;have o4:=nE one s.row 1 8;have o5:=nE one ((s.needs.map aU).length:Int) 1 3;rw [eg] at o5
 cases e1:iC s.days 1 60 with
 | false =>
  rw [e1] at o1;rw [jH (by unfold cR;rw [aX,e1];simp)];refine af.body (fn:=Tryz.f5) rfl rfl rfl rfl ?_;refine aa (mu:=fun t=>Nat.beq t 57) ?_;repeat' first|refine u1 ?_|((with_reducible refine qq3 ?_);refine af.call o1 rfl rfl ?_)|refine u2 ?_|fail
  exact ⟨[_,_,_],⟨Fz.deep rfl,Fz.deep rfl,Fz.deep rfl,trivial⟩,rfl⟩
 | true =>
  rw [e1] at o1
  cases e2:iC s.load 1 30 with
  | false =>
   rw [e2] at o2;rw [jH (by unfold cR;rw [aX,e1,aX,e2];simp)];refine af.body (fn:=Tryz.f5) rfl rfl rfl rfl ?_;refine aa (mu:=fun t=>Nat.beq t 57) ?_;repeat' first|refine u1 ?_|((with_reducible refine qq3 ?_);refine af.call o1 rfl rfl ?_)|((with_reducible refine qq3 ?_);refine af.call o2 rfl rfl ?_)|refine u2 ?_|fail
   exact ⟨[_,_,_],⟨Fz.deep rfl,Fz.deep rfl,Fz.deep rfl,trivial⟩,rfl⟩
  | true =>
   rw [e2] at o2
   cases e3:iC s.fail 0 8 with
   | false =>
    rw [e3] at o3;rw [jH (by unfold cR;rw [aX,e1,aX,e2,aX,e3];simp)];refine af.body (fn:=Tryz.f5) rfl rfl rfl rfl ?_;refine aa (mu:=fun t=>Nat.beq t 57) ?_;repeat' first|refine u1 ?_|((with_reducible refine qq3 ?_);refine af.call o1 rfl rfl ?_)|((with_reducible refine qq3 ?_);refine af.call o2 rfl rfl ?_)|((with_reducible refine qq3 ?_);refine af.call o3 rfl rfl ?_)|refine u2 ?_|fail
    exact ⟨[_,_,_],⟨Fz.deep rfl,Fz.deep rfl,Fz.deep rfl,trivial⟩,rfl⟩
   | true =>
    rw [e3] at o3
    cases e4:iC s.row 1 8 with
    | false =>
     rw [e4] at o4;rw [jH (by unfold cR;rw [aX,e1,aX,e2,aX,e3,aX,e4];simp)];refine af.body (fn:=Tryz.f5) rfl rfl rfl rfl ?_;refine aa (mu:=fun t=>Nat.beq t 57) ?_;repeat' first|refine u1 ?_|((with_reducible refine qq3 ?_);refine af.call o1 rfl rfl ?_)|((with_reducible refine qq3 ?_);refine af.call o2 rfl rfl ?_)|((with_reducible refine qq3 ?_);refine af.call o3 rfl rfl ?_)|((with_reducible refine qq3 ?_);refine af.call o4 rfl rfl ?_)|refine u2 ?_|fail
     exact ⟨[_,_,_],⟨Fz.deep rfl,Fz.deep rfl,Fz.deep rfl,trivial⟩,rfl⟩
    | true =>
     rw [e4] at o4;have hb:cR s=false:=by unfold cR;rw [aX,aX,aX,aX,e1,e2,e3,e4];rfl
     cases e5:iC (s.needs.length:Int) 1 3 with
     | false =>
      rw [CQ hb (by rw [aX,e5];rfl)];rw [e5,←eg] at o5;refine af.body (fn:=Tryz.f5) rfl rfl rfl rfl ?_;refine aa (mu:=fun t=>Nat.beq t 57) ?_;repeat' first|refine u1 ?_|((with_reducible refine qq3 ?_);refine af.call o1 rfl rfl ?_)|((with_reducible refine qq3 ?_);refine af.call o2 rfl rfl ?_)|((with_reducible refine qq3 ?_);refine af.call o3 rfl rfl ?_)|((with_reducible refine qq3 ?_);refine af.call o4 rfl rfl ?_)|((with_reducible refine qq3 ?_);refine af.call o5 rfl rfl ?_)|refine u2 ?_|fail
      exact ⟨[_,_,_],⟨Fz.deep rfl,Fz.deep rfl,Fz.deep rfl,trivial⟩,rfl⟩
     | true =>
      rw [e5,←eg] at o5;have hl:bS 1 3 [(s.needs.length:Int)]=false:=by rw [aX,e5];rfl
      have hn3:s.needs.length≤3:=by have:=cY hl;omega
      refine af.body (fn:=Tryz.f5) rfl rfl rfl rfl ?_;refine aa (mu:=fun t=>Nat.beq t 57) ?_;repeat' first|refine u1 ?_|((with_reducible refine qq3 ?_);refine af.call o1 rfl rfl ?_)|((with_reducible refine qq3 ?_);refine af.call o2 rfl rfl ?_)|((with_reducible refine qq3 ?_);refine af.call o3 rfl rfl ?_)|((with_reducible refine qq3 ?_);refine af.call o4 rfl rfl ?_)|((with_reducible refine qq3 ?_);refine af.call o5 rfl rfl ?_)|refine u2 ?_|fail
      refine aE.aS (ai.trans (ai.tO 1) (ai.RF (l:=[(1,.pt (aH s) 0),(5,.dw 0 (0,0,0).2.1 0 (0,0,0).1 (0,0,0).2.2),(6,av ((0,0,0).1:Nat))]) (hp:=[.cells (gw (s.needs.take (0,0,0).1)) 1 (0,0,0).2.1]) 1 rfl ⟨fJ.refl _,fJ.tN,fJ.refl _,trivial⟩ (qq5 _) rfl (zA _ _))) ?_;refine aE.loop (fun x:Nat × Nat × Nat=>x.1≤s.needs.length∧(∀ i,i < x.1→dP s i=0)∧(x.2.2=x.1∨x.2.2=x.1+1)) (fun x=>⟨bA [(1,.pt (aH s) 0),(5,.dw 0 x.2.1 0 x.1 x.2.2),(6,av (x.1:Nat))],[.cells (gw (s.needs.take x.1)) 1 x.2.1],cz.none,false,0⟩) (fun x=>s.needs.length - x.1) ?_ (0,0,0) ⟨qq5 _,(fun i hi=>absurd hi (Nat.not_lt_zero _)),.inl rfl⟩;rintro ⟨k,aF,c⟩ ⟨hk,hprev,hcap⟩;dsimp only at hk hprev hcap;show aE _ _ _ _ ⟨bA [(1,.pt (aH s) 0),(5,.dw 0 (k,aF,c).2.1 0 (k,aF,c).1 (k,aF,c).2.2),(6,av ((k,aF,c).1:Nat))],[.cells (gw (s.needs.take (k,aF,c).1)) 1 (k,aF,c).2.1],cz.none,false,0⟩ _;dsimp only;refine aa (mu:=fun t=>Nat.beq t 57) ?_;by_cases hlt:k < s.needs.length
      ·have d5:decide ((k:Int) < ((s.needs.map aU).length:Int))=true:=decide_eq_true (by omega);have hat:(s.needs.map aU)[((k:Nat):Int).toNat]?=some (aU s.needs[k]):=bI hlt;have hga:dP s k=A4 s.needs[k] (s.needs.take k):=by unfold dP;rw [List.getElem?_eq_getElem hlt];exact M8 _ _
       have hfr:=FT one ((s.needs.take k).map (·.name)) false s.needs[k].name (h.names _ (List.getElem_mem hlt)) (by simp [maxLen];omega);have o6:=nE one s.needs[k].full 1 60;have o7:=nE one s.needs[k].first 0 s.needs[k].full
       have o8:=nE one s.needs[k].weight 1 30;have htl:(s.needs.take k).length=k:=by rw [List.length_take];omega
       have hnt:=CT hlt;have hgl:(gw (s.needs.take k)).length=k:=by unfold gw;rw [List.length_map,htl]
       generalize s.needs[k]=g at *
       generalize hE:gR g.name ((s.needs.take k).map (·.name))=E at *
       have z00:decide ((0:Int)=0)=true:=by decide
       have z70:decide ((7:Int)=0)=false:=by decide
       have n00:(!decide ((0:Int)=0))=false:=by decide
       have n70:(!decide ((7:Int)=0))=true:=by decide
       unfold A4 at hga;rw [hE] at hga;repeat' first|((with_reducible show RM.wpOp _ _ (.call _) _ _ _);refine RM.G2 (cs:=gw (s.needs.take k)) (n:=k) (els:=[eS g.name]) rfl rfl rfl rfl rfl (fun el hel=>by rw [List.mem_singleton.1 hel];rfl) rfl rfl (by rw [hgl];exact (Nat.mul_one _).symm) hcap (by simp only [List.length_singleton];omega) (fun v' c' hc'=>?_))|refine u1 ?_|((with_reducible refine qq4 ?_);refine ⟨aU g,⟨by omega,hat⟩,rfl,?_⟩)|((with_reducible refine qq3 ?_);refine af.PT hfr rfl (DK.two (Fz.deep rfl) (tR _ htl)) (gZ.fl _) ?_)|refine u2 ?_|fail
       by_cases g1:E=0
       ·rw [if_neg (by omega)] at hga;have d7:decide (E=0)=true:=decide_eq_true g1;have d7':(!decide (E=0))=false:=by rw [d7];rfl
        have bad:(iC g.full 1 60=false∨iC g.first 0 g.full=false∨iC g.weight 1 30=false)→gv s=(2,(k:Int),7):=fun hb2=>by rw [if_pos hb2] at hga;exact Es hb hl hlt hprev hga (by decide)
        cases g2:iC g.full 1 60 with
        | false =>
         rw [g2] at o6;rw [bad (.inl g2)];repeat' first|((with_reducible refine qq3 ?_);refine af.call o6 rfl rfl ?_)|((with_reducible refine qq3 ?_);refine af.call o7 rfl rfl ?_)|((with_reducible refine qq3 ?_);refine af.call o8 rfl rfl ?_)|refine u1 ?_|refine u2 ?_|fail
         exact ⟨[_,_,_],⟨Fz.deep rfl,Fz.deep rfl,Fz.deep rfl,trivial⟩,rfl⟩
        | true =>
         rw [g2] at o6
         cases g3:iC g.first 0 g.full with
         | false =>
          rw [g3] at o7;rw [bad (.inr (.inl g3))];repeat' first|((with_reducible refine qq3 ?_);refine af.call o6 rfl rfl ?_)|((with_reducible refine qq3 ?_);refine af.call o7 rfl rfl ?_)|((with_reducible refine qq3 ?_);refine af.call o8 rfl rfl ?_)|refine u1 ?_|refine u2 ?_|fail
          exact ⟨[_,_,_],⟨Fz.deep rfl,Fz.deep rfl,Fz.deep rfl,trivial⟩,rfl⟩
         | true =>
          rw [g3] at o7
          cases g4:iC g.weight 1 30 with
          | false =>
           rw [g4] at o8;rw [bad (.inr (.inr g4))];repeat' first|((with_reducible refine qq3 ?_);refine af.call o6 rfl rfl ?_)|((with_reducible refine qq3 ?_);refine af.call o7 rfl rfl ?_)|((with_reducible refine qq3 ?_);refine af.call o8 rfl rfl ?_)|refine u1 ?_|refine u2 ?_|fail
           exact ⟨[_,_,_],⟨Fz.deep rfl,Fz.deep rfl,Fz.deep rfl,trivial⟩,rfl⟩
          | true =>
           rw [g4] at o8;rw [if_neg (by rw [g2,g3,g4];simp)] at hga;repeat' first|((with_reducible refine qq3 ?_);refine af.call o6 rfl rfl ?_)|((with_reducible refine qq3 ?_);refine af.call o7 rfl rfl ?_)|((with_reducible refine qq3 ?_);refine af.call o8 rfl rfl ?_)|refine u1 ?_|refine u2 ?_|fail
           refine ⟨(k+1,v',c'),⟨hlt,(fun i hi=>?_),hc'⟩,(by dsimp only;omega),?_⟩
           ·by_cases hik:i=k
            ·subst hik;exact hga
            ·exact hprev i (by dsimp only at hi;omega)
           ·exact ai.to 1 (by dsimp only;rw [hnt];rfl) ⟨rfl,rfl,aJ (by simp),trivial⟩ (qq5 _) rfl (zA _ _)
       ·rw [if_pos g1] at hga;rw [Es hb hl hlt hprev hga g1];have d7:decide (E=0)=false:=decide_eq_false g1;have d7':(!decide (E=0))=true:=by rw [d7];rfl
        repeat' first|((with_reducible refine qq3 ?_);refine af.call o6 rfl rfl ?_)|((with_reducible refine qq3 ?_);refine af.call o7 rfl rfl ?_)|((with_reducible refine qq3 ?_);refine af.call o8 rfl rfl ?_)|refine u1 ?_|refine u2 ?_|fail
        exact ⟨[_,_,_],⟨Fz.deep rfl,Fz.deep rfl,Fz.deep rfl,trivial⟩,rfl⟩
      ·have hkn:k=s.needs.length:=by omega
       have d5:decide ((k:Int) < ((s.needs.map aU).length:Int))=false:=decide_eq_false (by omega);subst hkn;have ep:((ints s.possible).length:Int)=s.possible.length:=by simp
       have mp:s.possible.length≤9223372036854775807:=Nat.le_trans h.possible (by simp [maxLen]);have hd:=dA.1 e1;by_cases h6:6 < s.possible.length
       ·have d2:decide (6 < ((ints s.possible).length:Int))=true:=decide_eq_true (by rw [ep];omega);rw [CR hb hl hprev h6];repeat' first|refine u1 ?_|refine u2 ?_|fail
        exact ⟨[_,_,_],⟨Fz.deep rfl,Fz.deep rfl,Fz.deep rfl,trivial⟩,rfl⟩
       ·have d2:decide (6 < ((ints s.possible).length:Int))=false:=decide_eq_false (by rw [ep];omega);repeat' first|refine u1 ?_|refine u2 ?_|fail
        refine aE.aS (ai.to (l:=[(1,.pt (aH s) 0),(9,av (0:Nat))]) (hp:=[]) 0 rfl ⟨rfl,rfl,trivial⟩ (qq5 _) rfl rfl) ?_;refine aE.loop (fun q:Nat=>q≤s.possible.length∧∀ i,i < q→gh s.possible s.days 7 i=0) (fun q=>⟨bA [(1,.pt (aH s) 0),(9,av (q:Nat))],[],cz.none,false,0⟩) (fun q=>s.possible.length - q) ?_ 0 ⟨qq5 _,fun i hi=>absurd hi (Nat.not_lt_zero _)⟩;rintro q ⟨hq,hpp⟩;refine qq1 ?_;by_cases hqt:q < s.possible.length
        ·have d6:decide ((q:Int) < ((ints s.possible).length:Int))=true:=decide_eq_true (by omega);have hqa:(ints s.possible)[((q:Nat):Int).toNat]?=some (eI s.possible[q]):=bI hqt;have o9:=nE true s.possible[q] 0 (s.days - 1)
         cases e9:iC s.possible[q] 0 (s.days - 1) with
         | false =>
          rw [e9] at o9;rw [sG hb hl hprev h6 hqt hpp (CS hqt e9) (by decide)]
          generalize s.possible[q]=g at *
          repeat' first|(refine ⟨_,o9,?_⟩)|refine u1 ?_|((with_reducible refine qq4 ?_);refine ⟨eI g,⟨by omega,hqa⟩,rfl,?_⟩)|refine u2 ?_|fail
          exact ⟨[_,_,_],⟨Fz.deep rfl,Fz.deep rfl,Fz.deep rfl,trivial⟩,rfl⟩
         | true =>
          rw [e9] at o9
          cases q with
          | zero =>
           have hz:=PZ (below:=7) hqt e9
           generalize s.possible[0]=g at *
           repeat' first|(refine ⟨_,o9,?_⟩)|refine u1 ?_|((with_reducible refine qq4 ?_);refine ⟨eI g,⟨by omega,hqa⟩,rfl,?_⟩)|refine u2 ?_|fail
           refine ⟨1,⟨hqt,fun i hi=>?_⟩,(by dsimp only;omega),ai.to 0 rfl ⟨rfl,aJ (by simp),trivial⟩ (qq5 _) rfl rfl⟩;obtain rfl:i=0:=by omega
           exact hz
          | succ m =>
           have hs:=I7 (below:=7) hqt e9;have d0:decide ((0:Int) < ((m+1:Nat):Int))=true:=decide_eq_true (by omega);have hqb:(ints s.possible)[(((m+1:Nat):Int) - 1).toNat]?=some (eI s.possible[m]):=by rw [show (((m+1:Nat):Int) - 1)=((m:Nat):Int) by omega];exact bI (by omega)
           generalize s.possible[m+1]=g at *
           generalize s.possible[m]=g' at *
           by_cases hgg:g≤g'
           ·rw [if_pos hgg] at hs;have dg:=decide_eq_true hgg;rw [sG hb hl hprev h6 hqt hpp hs (by decide)];repeat' first|(refine ⟨_,o9,?_⟩)|refine u1 ?_|((with_reducible refine qq4 ?_);refine ⟨eI g,⟨by omega,hqa⟩,rfl,?_⟩)|((with_reducible refine qq4 ?_);refine ⟨eI g',⟨by omega,hqb⟩,rfl,?_⟩)|refine u2 ?_|fail
            exact ⟨[_,_,_],⟨Fz.deep rfl,Fz.deep rfl,Fz.deep rfl,trivial⟩,rfl⟩
           ·rw [if_neg hgg] at hs;have dg:=decide_eq_false hgg;repeat' first|(refine ⟨_,o9,?_⟩)|refine u1 ?_|((with_reducible refine qq4 ?_);refine ⟨eI g,⟨by omega,hqa⟩,rfl,?_⟩)|((with_reducible refine qq4 ?_);refine ⟨eI g',⟨by omega,hqb⟩,rfl,?_⟩)|refine u2 ?_|fail
            refine ⟨m+1+1,⟨hqt,fun i hi=>?_⟩,(by dsimp only;omega),ai.to 0 rfl ⟨rfl,aJ (by simp),trivial⟩ (qq5 _) rfl rfl⟩;by_cases hik:i=m+1
            ·subst hik;exact hs
            ·exact hpp i (by omega)
        ·have d6:decide ((q:Int) < ((ints s.possible).length:Int))=false:=decide_eq_false (by omega);rw [Nb hb hl hprev h6 (fun i hi=>hpp i (by omega))];repeat' first|refine u1 ?_|refine u2 ?_|fail
         exact ⟨[_,_,_],⟨Fz.deep rfl,Fz.deep rfl,Fz.deep rfl,trivial⟩,rfl⟩
