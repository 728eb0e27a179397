/-
  Contracts of the program's functions and of the document's. Lemmas alone; their conditions stand in them.
-/
import Derived.Test.YtalcbebjpgfnfaaGreatK1
import Derived.Test.YtalcbebjpgfnfaaGreatK4
import Derived.Test.YtalcbebjpgfnfaaGreatK7
open Go Go.RM
namespace Go.Proofs.YtalcbebjpgfnfaaGreat.St
set_option maxRecDepth 100000
theorem fO {n:Nat} {e:Nat→Int} (h:(bT n e).2=0):∀ i,i < n→e i=0:=by
 intro i hi
 unfold bT at h
 split at h
 ·rename_i j hj
  have:=List.find?_some hj
  simp only at h
  rw [h] at this
  exact absurd this (by decide)
 ·rename_i hj
  rw [List.find?_eq_none] at hj
  have:=hj i (by simpa using hi)
  simpa using this
theorem fX {lo hi:Int} {l:List Int}:aM lo hi l=false ↔ ∀ n ∈ l,lo≤n∧n≤hi:=by
 unfold aM
 rw [List.any_eq_false]
 constructor
 ·intro h n hn
  have:=h n hn
  simp at this
  omega
 ·intro h n hn
  have:=h n hn
  simp
  omega
structure lM (k:Kind):Prop where
 first:0≤k.first.lo∧k.first.lo≤k.first.hi∧k.first.hi≤300
 aR:0≤k.aR.lo∧k.aR.lo≤k.aR.hi∧k.aR.hi≤6
 ay:0≤k.ay.lo∧k.ay.lo≤k.ay.hi∧k.ay.hi≤12
 room:0≤k.room∧k.room≤300
 cJ:0≤k.cJ∧k.cJ≤1000
theorem A6 {k:Kind} {names:List ByteArray} (h:eY k names=0):lM k:=by
 unfold eY at h
 split at h
 ·exact absurd h (by decide)
 ·split at h
  ·exact absurd h (by decide)
  ·split at h
   ·exact absurd h (by decide)
   ·rename_i h7
    split at h
    ·exact absurd h (by decide)
    ·rename_i h2
     simp only [Bool.not_eq_true,Bool.or_eq_false_iff,fX,decide_eq_false_iff_not,List.mem_cons,List.not_mem_nil,or_false,forall_eq_or_imp,forall_eq] at h7 h2
     obtain ⟨⟨⟨a,b⟩,c⟩,d⟩:=h7
     constructor <;> omega
def D5 (s:aB):Prop:=(1≤s.au.length∧s.au.length≤30)∧(1≤s.kinds.length∧s.kinds.length≤4)∧s.aj.length≤9
theorem fo {s:aB} (h:D5 s):(1≤s.au.length∧s.au.length≤30)∧(1≤s.kinds.length∧s.kinds.length≤4)∧s.aj.length≤9:=h
structure Good (s:aB):Prop where
 sizes:D5 s
 au:∀ n ∈ s.au,0≤n∧n≤12
 kinds:∀ k ∈ s.kinds,lM k
 aj:∀ c ∈ s.aj,(0≤c.day∧c.day < s.au.length)∧(0≤c.cz∧c.cz≤300)∧0≤c.kind∧c.kind < s.kinds.length
theorem yK {s:aB} {c:iC} (h:gO s c=0):(0≤c.day∧c.day < s.au.length)∧(0≤c.cz∧c.cz≤300)∧0≤c.kind∧c.kind < s.kinds.length:=by
 unfold gO at h
 split at h
 ·exact absurd h (by decide)
 ·rename_i h4
  split at h
  ·exact absurd h (by decide)
  ·rename_i h7
   simp only [Bool.not_eq_true,Bool.or_eq_false_iff,fX,List.mem_cons,List.not_mem_nil,or_false,forall_eq] at h4 h7
   omega
theorem ta {s:aB} (h:(ir s).2.2=0):Good s:=by
 cases hb:cG s with
 | true=>rw [E7 hb] at h;exact absurd h (by decide)
 | false =>
  by_cases hi:0≤lE (fun n=>aM 0 12 [n]) s.au
  ·exfalso
   unfold ir at h
   unfold cG at hb
   rw [if_neg (by rw [hb];decide)] at h
   simp only [if_pos hi] at h
   exact absurd h (by decide)
  ·have hany:=mD (fun n=>aM 0 12 [n]) s.au
   rw [decide_eq_false hi] at hany
   have hm:∀ n ∈ s.au,0≤n∧n≤12:=fun n hn=>by
    have:=List.any_eq_false.1 hany.symm n hn
    rw [Bool.not_eq_true,fX] at this
    exact this n (by simp)
   rw [s8 hb (fun i hi=>fX.2 fun n hn=>by rw [List.mem_singleton.1 hn];exact hm _ (List.getElem_mem _))] at h
   by_cases h1:(bT s.kinds.length (lY s)).2=0
   ·rw [if_neg (by simpa using h1)] at h
    by_cases h2:(bT s.aj.length (qu s)).2=0
    ·refine ⟨by have:=xu hb;unfold D5;omega,hm,fun k hk=>?_,fun c hc=>?_⟩
     ·obtain ⟨i,hi,rfl⟩:=List.getElem_of_mem hk
      have:=fO h1 i hi
      rw [vG hi] at this
      exact A6 this
     ·obtain ⟨i,hi,rfl⟩:=List.getElem_of_mem hc
      have:=fO h2 i hi
      rw [E8 hi] at this
      exact yK this
    ·rw [if_pos h2] at h
     exact absurd h h2
   ·rw [if_pos h1] at h
    exact absurd h h1
def CO (s:aB) (k:Kind) (t:aE) (down:Int):Bool :=
 aM k.first.lo k.first.hi [t.first] || aM k.aR.lo k.aR.hi [t.aR] || aM k.ay.lo k.ay.hi [t.ay] || aM 0 s.au.length [down]
theorem Good.row {s:aB} (h:Good s) (k:Int):gA 9 (ak k s.aj):=by
 have h8:=fo h.sizes
 have:=jP (k:=k) (cs:=s.aj) (fun c hc=>by have:=h.aj c hc;omega)
 exact ⟨this.len,fun x hx=>by have:=this.Ka x hx;omega⟩
theorem Good.run {s:aB} (h:Good s) {k:Kind} (hk:k ∈ s.kinds) (kind:Int) {t:aE} {down:Int} (ht:CO s k t down=false):eK s.au k (ak kind s.aj) t∧0≤down∧down≤s.au.length:=by
 have h8:=fo h.sizes
 have hg:=h.kinds k hk
 simp only [CO,Bool.or_eq_false_iff,fX,List.mem_cons,List.not_mem_nil,or_false,forall_eq] at ht
 have:=hg.first
 have:=hg.aR
 have:=hg.ay
 exact ⟨⟨by omega,h.au,h.row kind,hg.room,hg.cJ,by omega,by omega,by omega⟩,by omega⟩
theorem zH {s:aB} {k:Kind} {row:List Int} {c:AV} (h:row.length=30) {z:List AV} (hz:z.length=43):cw z (AV.ag (aF s k row c)).cells 0=aF s k row c:=by
 show []++(aF s k row c)++z.drop (0+(aF s k row c).length)=_
 rw [dS h,List.drop_of_length_le (by omega),List.nil_append,List.append_nil]
end Go.Proofs.YtalcbebjpgfnfaaGreat.St
open Go Go.RM
namespace Go.Proofs.YtalcbebjpgfnfaaGreat.St
set_option maxRecDepth 100000
set_option maxHeartbeats 4000000
def g9 (k:Kind) (z:Span):Kind:=⟨k.name,k.first,k.aR,z,k.room,k.cJ⟩
def vv (s:aB) (i:Nat) (k:Kind):aB:=⟨s.au,s.kinds.set i k,s.aj⟩
theorem CP {k:Kind} {names:List ByteArray} {z:Span} (h:eY k names=0) (hz:0≤z.lo∧z.lo≤z.hi∧z.hi≤12):eY (g9 k z) names=0:=by
 unfold eY at h ⊢
 split at h
 ·exact absurd h (by decide)
 ·rename_i h1
  split at h
  ·exact absurd h (by decide)
  ·rename_i h2
   split at h
   ·exact absurd h (by decide)
   ·rename_i h7
    split at h
    ·exact absurd h (by decide)
    ·rename_i h8
     have e7:aM 0 12 [z.lo,z.hi]=false:=by
      rw [fX]
      intro n hn
      simp only [List.mem_cons,List.not_mem_nil,or_false] at hn
      omega
     simp only [Bool.not_eq_true,Bool.or_eq_false_iff] at h7 h8
     unfold g9
     dsimp only
     rw [if_neg h1,if_neg h2,h7.1.1.1,h7.1.1.2,h7.2,e7,h8.1.1,h8.1.2,decide_eq_false (show ¬ z.hi < z.lo by omega)]
     rfl
theorem Gr (l:List Kind) (i j:Nat) (hi:i < l.length) (z:Span):((l.set i (g9 l[i] z)).take j).map (·.name)=(l.take j).map (·.name):=by
 rw [List.map_take,List.map_take,List.map_set]
 show List.take j ((l.map (·.name)).set i l[i].name)=_
 have:l[i].name=(l.map (·.name))[i]'(by rw [List.length_map];exact hi):=by rw [List.getElem_map]
 rw [this,List.set_getElem_self]
theorem It {s:aB} {i j:Nat} (hi:i < s.kinds.length) {z:Span} (hz:0≤z.lo∧z.lo≤z.hi∧z.hi≤12) (h:lY s j=0):lY (vv s i (g9 s.kinds[i] z)) j=0:=by
 unfold lY vv
 dsimp only
 rw [Gr _ _ _ hi]
 by_cases hij:i=j
 ·subst hij
  rw [vG hi] at h
  rw [List.getElem?_set_self hi]
  exact CP h hz
 ·rw [List.getElem?_set_ne hij]
  exact h
theorem Kf {s:aB} {i:Nat} (hi:i < s.kinds.length) {z:Span} (hz:0≤z.lo∧z.lo≤z.hi∧z.hi≤12) (h:(ir s).2.2=0):(ir (vv s i (g9 s.kinds[i] z))).2.2=0:=by
 have hl:(vv s i (g9 s.kinds[i] z)).kinds.length=s.kinds.length:=by unfold vv;exact List.length_set
 cases hb:cG s with
 | true=>rw [E7 hb] at h;exact absurd h (by decide)
 | false =>
  have hg:=ta h
  have hm:∀ j (hj:j < s.au.length),aM 0 12 [s.au[j]]=false:=fun j hj=>fX.2 fun n hn=>by rw [List.mem_singleton.1 hn];exact hg.au _ (List.getElem_mem _)
  rw [s8 hb hm] at h
  by_cases h1:(bT s.kinds.length (lY s)).2=0
  ·rw [if_neg (by simpa using h1)] at h
   by_cases h2:(bT s.aj.length (qu s)).2=0
   ·have hb2:cG (vv s i (g9 s.kinds[i] z))=false:=by unfold cG at hb ⊢;rw [hl];exact hb
    have:=Ld (s:=vv s i (g9 s.kinds[i] z)) hb2 hm (fun j hj=>It hi hz (fO h1 j (by omega))) (fun j hj=>by
     have h3:=fO h2 j hj
     unfold qu gO at h3 ⊢
     rw [hl]
     exact h3)
    rw [this]
   ·rw [if_pos h2] at h
    exact absurd h h2
  ·rw [if_pos h1] at h
   exact absurd h h1
theorem LX {s:aB} (h:s.Ok) {i:Nat} (hi:i < s.kinds.length) (z:Span):(vv s i (g9 s.kinds[i] z)).Ok:=by
 refine ⟨h.au,?_,h.aj,fun k hk=>?_⟩
 ·unfold vv
  rw [List.length_set]
  exact h.kinds
 ·rcases List.mem_or_eq_of_mem_set hk with h1|rfl
  ·exact h.names _ h1
  ·exact h.names s.kinds[i] (List.getElem_mem hi)
end Go.Proofs.YtalcbebjpgfnfaaGreat.St
open Go Go.RM
namespace Go.Proofs.YtalcbebjpgfnfaaGreat
set_option maxRecDepth 100000
def fj (a b:Int):Int:=if a < b then -1 else if b < a then 1 else 0
def eN:List Int→List Int→Int
 | [],[]=>0
 | [],_ :: _=>-1
 | _ :: _,[]=>1
 | a :: l,b :: m=>if fj a b=0 then eN l m else fj a b
theorem kB (a b:Int) (l m:List Int):eN (a :: l) (b :: m)=if fj a b=0 then eN l m else fj a b:=by rw [eN]
theorem hJ (a:Int) (l:List Int):eN (a :: l) []=1:=by rw [eN]
theorem kD (b:Int) (m:List Int):eN [] (b :: m)=-1:=by rw [eN]
theorem od:eN [] []=0:=by rw [eN]
def lN (S:List Int) (m:Nat):Prop:=∀ p q:Nat,p < q→q < m→S.getD p 0≤S.getD q 0
theorem zI:∀ {x y:List Int},eN x y=0→x=y
 | [],[],_=>rfl
 | [],_ :: _,h=>by rw [kD] at h;omega
 | _ :: _,[],h=>by rw [hJ] at h;omega
 | a :: l,b :: m,h=>by
  rw [kB] at h
  unfold fj at h
  by_cases h1:a < b
  ·simp only [h1,if_true] at h
   omega
  ·by_cases h2:b < a
   ·simp only [h1,h2,if_true,if_false] at h
    omega
   ·simp only [h1,h2,if_false,if_true] at h
    rw [zI h,show a=b by omega]
theorem kN:∀ (x y:List Int),eN y x=- eN x y
 | [],[]=>by rw [od];rfl
 | [],_ :: _=>by rw [kD,hJ];rfl
 | _ :: _,[]=>by rw [kD,hJ]
 | a :: l,b :: m=>by
  rw [kB,kB]
  have ih:=kN l m
  unfold fj
  by_cases h1:a < b
  ·have h2:¬ b < a:=by omega
   simp [h1,h2]
  ·by_cases h2:b < a
   ·simp [h1,h2]
   ·simp [h1,h2,ih]
theorem lO:∀ {x y z:List Int},eN x y < 0→eN y z < 0→eN x z < 0
 | [],[],z,h,_=>by rw [od] at h;omega
 | [],_ :: _,[],_,h=>by rw [hJ] at h;omega
 | [],_ :: _,_ :: _,_,_=>by rw [kD];omega
 | _ :: _,[],z,h,_=>by rw [hJ] at h;omega
 | _ :: _,_ :: _,[],_,h=>by rw [hJ] at h;omega
 | a :: l,b :: m,c :: n,h,k=>by
  rw [kB] at h k ⊢
  have ih:=@lO l m n
  unfold fj at *
  by_cases h1:a < b
  ·by_cases h2:b < c
   ·have:a < c:=by omega
    simp [this]
   ·by_cases h3:c < b
    ·simp [h2,h3] at k
    ·have:a < c:=by omega
     simp [this]
  ·by_cases h2:b < a
   ·simp [h1,h2] at h
   ·obtain rfl:a=b:=by omega
    simp only [h1,if_false,if_true] at h
    by_cases h2:a < c
    ·simp [h2]
    ·by_cases h3:c < a
     ·simp [h2,h3] at k
     ·simp only [h2,h3,if_false,if_true] at k ⊢
      exact ih h k
def iq (x y:List Int):Prop:=x.length < y.length∨x.length=y.length∧eN x y < 0
instance (x y:List Int):Decidable (iq x y):=by unfold iq;infer_instance
theorem E9 {x y:List Int} (h:¬ iq x y) (k:¬ iq y x):x=y:=by
 unfold iq at h k
 have hf:=kN x y
 apply zI
 omega
theorem uq {x y z:List Int} (h:iq x y) (k:iq y z):iq x z:=by
 unfold iq at *
 rcases h with h|⟨h1,h2⟩
 ·left;omega
 ·rcases k with k|⟨k1,k2⟩
  ·left;omega
  ·exact .inr ⟨by omega,lO h2 k2⟩
theorem vH {x:List Int}:¬ iq x x:=by
 intro h
 unfold iq at h
 have:=kN x x
 omega
def bZ (p:Nat→Bool) (a m:Nat):List Int:=((List.range' a m).filter p).map fun (i:Nat)=>(i:Int)
theorem MR {p:Nat→Bool} {a m:Nat} (h:p a=true):bZ p a (m+1)=(a:Int) :: bZ p (a+1) m:=by
 unfold bZ
 rw [List.range'_succ,List.filter_cons,if_pos h,List.map_cons]
theorem MS {p:Nat→Bool} {a m:Nat} (h:p a=false):bZ p a (m+1)=bZ p (a+1) m:=by
 unfold bZ
 rw [List.range'_succ,List.filter_cons,if_neg (by rw [h];exact Bool.false_ne_true)]
theorem Kg {p:Nat→Bool} {a m:Nat} {x:Int}:x ∈ bZ p a m ↔ ∃ i:Nat,x=(i:Int)∧a≤i∧i < a+m∧p i=true:=by
 unfold bZ
 rw [List.mem_map]
 constructor
 ·rintro ⟨i,hi,rfl⟩
  rw [List.mem_filter,List.mem_range'_1] at hi
  exact ⟨i,rfl,hi.1.1,hi.1.2,hi.2⟩
 ·rintro ⟨i,rfl,h1,h2,h3⟩
  exact ⟨i,by rw [List.mem_filter,List.mem_range'_1];exact ⟨⟨h1,h2⟩,h3⟩,rfl⟩
theorem iK (p:Nat→Bool) (a m:Nat):(bZ p a m).length≤m:=by
 unfold bZ
 rw [List.length_map]
 exact Nat.le_trans (List.length_filter_le ..) (by rw [List.length_range'];exact Nat.le_refl _)
theorem Gs {p q:Nat→Bool} {n:Nat} (h:∀ i,i < n→p i=q i):bZ p 0 n=bZ q 0 n:=by
 unfold bZ
 congr 1
 apply List.filter_congr
 intro i hi
 rw [List.mem_range'_1] at hi
 exact h i (by omega)
theorem filter_or {α:Type} {p q:α→Bool} (hd:∀ i,p i=true→q i=true→False):∀ (L:List α),(L.filter fun i=>p i || q i).Perm (L.filter p++L.filter q)
 | []=>.refl _
 | a :: L=>by
  have ih:=filter_or hd L
  cases hp:p a with
  | true =>
   have hq:q a=false:=by cases hq:q a with|false=>rfl|true=>exact (hd a hp hq).elim
   simp only [List.filter_cons,hp,hq,Bool.or_false,if_true,Bool.false_eq_true,if_false,List.cons_append]
   exact ih.cons a
  | false =>
   cases hq:q a with
   | true =>
    simp only [List.filter_cons,hp,hq,Bool.or_true,if_true,Bool.false_eq_true,if_false]
    exact (ih.cons a).trans List.perm_middle.symm
   | false =>
    simp only [List.filter_cons,hp,hq,Bool.or_false,Bool.false_eq_true,if_false]
    exact ih
theorem LY {p q:Nat→Bool} (hd:∀ i,p i=true→q i=true→False) (a m:Nat):(bZ (fun i=>p i || q i) a m).Perm (bZ p a m++bZ q a m):=by
 unfold bZ
 rw [←List.map_append]
 exact (filter_or hd _).map _
theorem rC (p:Nat→Bool):∀ (m a:Nat),(bZ p a m).Pairwise (· < ·)
 | 0,a=>.nil
 | m+1,a=>by
  cases hp:p a with
  | false=>rw [MS hp];exact rC p m (a+1)
  | true =>
   rw [MR hp]
   refine .cons (fun x hx=>?_) (rC p m (a+1))
   obtain ⟨i,rfl,h1,_⟩:=Kg.1 hx
   omega
theorem Gt {S:List Int} {N:Nat} (hN:S.length=N) (hs:lN S N) {p:Nat→Bool} {a m:Nat} (hp:S.Perm (bZ p a m)):S=bZ p a m:=by
 refine List.Perm.eq_of_pairwise (le:=(·≤·)) (fun x y _ _ h1 h2=>by omega) ?_ ((rC p m a).imp (fun h=>by omega)) hp
 rw [List.pairwise_iff_getElem]
 intro i j hi hj hij
 have:=hs i j hij (by omega)
 rw [List.getD_eq_getElem?_getD,List.getD_eq_getElem?_getD,List.getElem?_eq_getElem hi,List.getElem?_eq_getElem hj] at this
 exact this
def dn (p:Nat→Bool):Nat→Nat
 | 0=>0
 | m+1=>dn p m+if p m=true then 2 ^ m else 0
theorem lP (p:Nat→Bool):∀ m,dn p m < 2 ^ m
 | 0=>by unfold dn;exact Nat.one_pos
 | m+1=>by
  have:=lP p m
  unfold dn
  rw [Nat.pow_succ]
  split <;> omega
theorem zJ (p:Nat→Bool):∀ (m i:Nat),(dn p m).testBit i=(decide (i < m) && p i)
 | 0,i=>by unfold dn;simp
 | m+1,i=>by
  have ih:=zJ p m i
  have hl:=lP p m
  unfold dn
  cases hp:p m with
  | false =>
   simp only [Bool.false_eq_true,if_false,Nat.add_zero]
   rw [ih]
   by_cases him:i=m
   ·subst him;simp [hp]
   ·rw [show decide (i < m+1)=decide (i < m) from decide_eq_decide.2 (by omega)]
  | true =>
   simp only [if_true]
   have h2:=Nat.two_pow_add_eq_or_of_lt hl 1
   rw [Nat.mul_one] at h2
   rw [Nat.add_comm,h2,Nat.testBit_or,ih,Nat.testBit_two_pow]
   by_cases him:i=m
   ·subst him;simp [hp]
   ·rw [show decide (i < m+1)=decide (i < m) from decide_eq_decide.2 (by omega),show decide (m=i)=false from decide_eq_false (by omega),Bool.false_or]
theorem xD {p:Nat→Bool} {c:Nat} (h:p c=true):bZ p 0 (c+1)=bZ p 0 c++[(c:Int)]:=by
 unfold bZ
 rw [List.range'_concat,List.filter_append,List.map_append]
 simp [h]
theorem xE {p:Nat→Bool} {c:Nat} (h:p c=false):bZ p 0 (c+1)=bZ p 0 c:=by
 unfold bZ
 rw [List.range'_concat,List.filter_append,List.map_append]
 simp [h]
end Go.Proofs.YtalcbebjpgfnfaaGreat
open Go Go.RM Go.AirLaw
namespace Go.Proofs.YtalcbebjpgfnfaaGreat
set_option maxRecDepth 100000
set_option maxHeartbeats 4000000
def av (s:Span):Nat:=(s.hi - s.lo+1).toNat
def eJ (s:Span):List Int:=(List.range (av s)).map fun i=>s.lo+(i:Nat)
theorem cW (s:Span):(eJ s).length=av s:=by simp [eJ]
theorem Fa {s:Span} {i:Nat} (h:i < av s):(eJ s)[i]?=some (s.lo+(i:Nat)):=by simp [eJ,h]
theorem nB (one:Bool) (s:Span):Pu one 81 [.ag (ck s)] (.fn 118 [] [.pt (ck s) 0]):=by
 refine af.body (fn:=Tryz.f81) rfl rfl rfl rfl ?_
 refine aa (mu:=fun _=>false) ?_
 repeat' (first |refine u1 ?_ |refine u2 ?_ |fail)
 exact ⟨[_],⟨Fz.deep rfl,trivial⟩,rfl⟩
theorem nC (one:Bool) (s:Span) (h:-1000000≤s.lo∧s.lo≤s.hi∧s.hi≤1000000):lD TT TB one (.fn 118 [] [.pt (ck s) 0]) ((eJ s).map eI):=by
 have en:((av s:Nat):Int)=s.hi - s.lo+1:=by unfold av;omega
 refine lD.body (fn:=Tryz.f118) rfl rfl rfl rfl (fun x hx a ha=>?_) fun u J Stop hy=>?_
 ·obtain ⟨y,_,rfl⟩:=List.mem_map.1 hx
  simp only [List.mem_cons,List.not_mem_nil,or_false] at ha
  subst ha
  exact ej.fl _
 rw [List.length_map,cW]
 refine aa (mu:=fun _=>false) ?_
 repeat' (first |refine u1 ?_ |refine u2 ?_ |fail)
 rw [←en]
 refine az.aK (ai.to (l:=[(0,.oq u),(1,.pt (ck s) 0),(9,ah (av s)),(10,ah ((0:Nat):Int))]) (hp:=[]) 0 rfl ⟨rfl,rfl,rfl,rfl,trivial⟩ (Nat.zero_le _) rfl rfl) ?_
 refine az.loop (fun m:Nat=>m≤av s) (fun m=>⟨aX [(0,.oq u),(1,.pt (ck s) 0),(9,ah (av s)),(10,ah (m:Int))],[],J m,false,0⟩) (fun m=>av s - m) ?_ 0 (Nat.zero_le _)
 intro m hm
 refine RM.de (mu:=fun _=>false) ?_
 repeat' (first |refine u1 ?_ |fail)
 refine RM.de (mu:=fun _=>false) ?_
 refine RM.e1 rfl ⟨fun hc=>?_,fun hc=>?_⟩
 ·have hm1:m < av s:=by simpa using hc
  have hyx:=hy m (eI (s.lo+(m:Nat))) (by rw [List.getElem?_map,Fa hm1];rfl)
  repeat' (first |refine u1 ?_ |fail)
  refine az.seq ?_
  refine az.block ?_
  refine RM.de (mu:=fun _=>false) ?_
  repeat' (first |refine u1 ?_ |fail)
  refine RM.de (mu:=fun _=>false) ?_
  repeat' (first |refine u1 ?_ |refine u2 ?_ |fail)
  refine bl.mono (hyx _) (fun a hp' amb' hq=>?_)
  obtain ⟨rfl,b,rfl,hb⟩:=hq
  rcases hb with ⟨rfl,rfl⟩|⟨rfl,hstop⟩
  ·repeat' (first |refine u1 ?_ |fail)
   refine aa (mu:=fun _=>false) ?_
   repeat' (first |refine u1 ?_ |fail)
   refine aa (mu:=fun _=>false) ?_
   repeat' (first |refine u1 ?_ |fail)
   refine ⟨m+1,hm1,(by dsimp only;omega),?_⟩
   exact ai.to 0 rfl ⟨rfl,rfl,rfl,aH (by simp),trivial⟩ (Nat.zero_le _) rfl rfl
  ·repeat' (first |refine u1 ?_ |fail)
   refine aa (mu:=fun _=>false) ?_
   repeat' (first |refine u1 ?_ |fail)
   exact Or.inr hstop
 ·have hm1:m=av s:=(by have:¬ m < av s:=(by simpa using hc);omega)
  subst hm1
  repeat' (first |refine u1 ?_ |fail)
  exact Or.inl rfl
end Go.Proofs.YtalcbebjpgfnfaaGreat
open Go Go.RM Go.AirLaw
namespace Go.Proofs.YtalcbebjpgfnfaaGreat
set_option maxRecDepth 100000
set_option maxHeartbeats 4000000
theorem zK {st:cy} {l:List (Nat × AV)} {hp:List AB} {am:bN} (n:Nat) (hh:st.hp.take n=hp) (hs:zh st.fr l) (hn:st.fl≤n) (hl:(l.all fun p=>p.2.di n)=true) (hb:hp.all (AB.di n)=true) (ha:st.aJ=am):ai st ⟨aX l,hp,am,st.rd,st.fl⟩:=by
 subst ha
 exact ai.to n hh hs hn hl hb
abbrev kE (x:Int × Int):List AV:=[.ag [ah x.1,ah x.2]]
def jY (mk:Int→Int→Int × Int) (xs bs:List Int):List (Int × Int):=xs.flatMap fun a=>bs.map (mk a)
theorem nD (mk:Int→Int→Int × Int) (xs bs:List Int):(jY mk xs bs).length=xs.length * bs.length:=by
 unfold jY
 rw [List.length_flatMap]
 induction xs with
 | nil=>simp
 | cons a l ih=>simp only [List.map_cons,List.sum_cons,List.length_map,List.length_cons] at ih ⊢;rw [ih,Nat.add_mul];omega
theorem tc {mk:Int→Int→Int × Int} {bs:List Int} {b:Int} {j:Nat} (hb:bs[j]?=some b):∀ {xs:List Int} {i:Nat} {a:Int},xs[i]?=some a→(jY mk xs bs)[i * bs.length+j]?=some (mk a b):=by
 have hj:j < bs.length:=by
  by_cases h:j < bs.length
  ·exact h
  ·rw [List.getElem?_eq_none (by omega)] at hb;cases hb
 intro xs
 induction xs with
 | nil=>intro i a h;simp at h
 | cons x l ih =>
  intro i a h
  have e:jY mk (x :: l) bs=bs.map (mk x)++jY mk l bs:=by simp [jY]
  rw [e]
  cases i with
  | zero =>
   simp only [List.getElem?_cons_zero,Option.some.injEq] at h
   subst h
   rw [Nat.zero_mul,Nat.zero_add,List.getElem?_append_left (by simpa using hj),List.getElem?_map,hb]
   rfl
  | succ i =>
   simp only [List.getElem?_cons_succ] at h
   rw [List.getElem?_append_right (by simp;rw [Nat.add_mul];omega),List.length_map]
   rw [show (i+1) * bs.length+j - bs.length=i * bs.length+j by rw [Nat.add_mul];omega]
   exact ih h
def MD (c r:Int):Int × Int:=(c,r)
def ME (l w:Int):Int × Int:=(l,w % 32)
theorem MT (one:Bool) (c r:Int):af TT TB one (.fn 110 [] []) [ah c,ah r] (.ag [ah (MD c r).1,ah (MD c r).2]):=by
 refine af.body (fn:=Tryz.f110) rfl rfl rfl rfl ?_
 refine aa (mu:=fun _=>false) ?_
 repeat' (first |refine u1 ?_ |refine u2 ?_ |fail)
 exact ⟨[_],⟨Fz.deep rfl,trivial⟩,rfl⟩
theorem MU (one:Bool) (l w:Int) (hw:0≤w∧w≤1000):af TT TB one (.fn 113 [] []) [ah l,ah w] (.ag [ah (ME l w).1,ah (ME l w).2]):=by
 refine af.body (fn:=Tryz.f113) rfl rfl rfl rfl ?_
 refine aa (mu:=fun _=>false) ?_
 repeat' (first |refine u1 ?_ |refine u2 ?_ |fail)
 exact ⟨[_],⟨Fz.deep rfl,trivial⟩,rfl⟩
theorem Iu (one:Bool) (a b:Span):Pu one 109 [.fn 118 [] [.pt (ck a) 0],.fn 118 [] [.pt (ck b) 0],.fn 110 [] []] (.fn 146 [] [.pt [.fn 118 [] [.pt (ck a) 0]] 0,.pt [.fn 118 [] [.pt (ck b) 0]] 0,.pt [.fn 110 [] []] 0]):=by
 refine af.body (fn:=Tryz.f109) rfl rfl rfl rfl ?_
 refine aa (mu:=fun _=>false) ?_
 repeat' (first |refine u1 ?_ |refine u2 ?_ |fail)
 exact ⟨[_],⟨Fz.deep rfl,trivial⟩,rfl⟩
theorem CQ (one:Bool) (a b:Span) (ha:-1000000≤a.lo∧a.lo≤a.hi∧a.hi≤1000000) (hb:-1000000≤b.lo∧b.lo≤b.hi∧b.hi≤1000000)  :
  lD TT TB one (.fn 146 [] [.pt [.fn 118 [] [.pt (ck a) 0]] 0,.pt [.fn 118 [] [.pt (ck b) 0]] 0,.pt [.fn 110 [] []] 0]) ((jY MD (eJ a) (eJ b)).map kE):=by
 have ga:=nC one a ha
 have gb:=nC one b hb
 refine lD.body (fn:=Tryz.f146) rfl rfl rfl rfl (fun x hx y hy=>?_) fun u J Stop hy=>?_
 ·obtain ⟨z,_,rfl⟩:=List.mem_map.1 hx
  simp only [List.mem_cons,List.not_mem_nil,or_false] at hy
  subst hy
  exact ej.ag fun b hb=>by simp only [List.mem_cons,List.not_mem_nil,or_false] at hb;rcases hb with rfl|rfl <;> exact ej.fl _
 rw [List.length_map,nD,cW,cW]
 have hy':∀ {i j:Nat} {x y:Int},(eJ a)[i]?=some x→(eJ b)[j]?=some y→∀ hp,bl TT TB one (.oq u) (kE (MD x y)) hp (J (i * av b+j)) fun v hp' a'=>hp'=hp∧∃ b',v=.fl (.bool b')∧DP (J (i * av b+j+1)) Stop b' a':=by
  intro i j x y hx hyy
  have:=hy (i * av b+j) (kE (MD x y)) (by rw [List.getElem?_map,←cW b,tc hyy hx];rfl)
  exact this
 refine RM.de (mu:=fun _=>false) ?_
 repeat' (first |refine u1 ?_ |refine u2 ?_ |fail)
 refine RM.de (mu:=fun _=>false) ?_
 repeat' (first |refine u1 ?_ |refine u2 ?_ |fail)
 refine az.block ?_
 refine az.range (fun _=>[]) (fun i=>J (i * av b)) (fun _=>True) rfl ga rfl (congrArg J (Nat.zero_mul _)) trivial (fun i x hx _=>?_) (fun _=>?_)
 ·obtain ⟨x,hxi,rfl⟩:∃ y,(eJ a)[i]?=some y∧x=eI y:=by
   rw [List.getElem?_map,Option.map_eq_some_iff] at hx
   obtain ⟨y,h1,h2⟩:=hx
   exact ⟨y,h1,h2.symm⟩
  refine ⟨rfl,?_⟩
  refine aa (mu:=fun _=>false) ?_
  repeat' (first |refine u1 ?_ |refine u2 ?_ |fail)
  refine az.block ?_
  refine RM.de (mu:=fun _=>false) ?_
  repeat' (first |refine u1 ?_ |refine u2 ?_ |fail)
  refine az.block ?_
  refine az.range (fun _=>[.cells [ah x] 0 0]) (fun j=>J (i * av b+j)) (fun _=>True) rfl gb rfl rfl trivial (fun j y hyj _=>?_) (fun _=>?_)
  ·obtain ⟨y,hyk,rfl⟩:∃ z,(eJ b)[j]?=some z∧y=eI z:=by
    rw [List.getElem?_map,Option.map_eq_some_iff] at hyj
    obtain ⟨z,h1,h2⟩:=hyj
    exact ⟨z,h1,h2.symm⟩
   refine ⟨rfl,?_⟩
   have hyx:=hy' hxi hyk
   have hmk:=MT true x y
   refine aa (mu:=fun _=>false) ?_
   repeat' (first |refine u1 ?_ |refine u2 ?_ |fail)
   refine az.block ?_
   refine RM.de (mu:=fun _=>false) ?_
   repeat' (first |refine ⟨_,_,.inl ⟨rfl,rfl⟩,hmk,?_⟩ |refine u1 ?_ |refine u2 ?_ |fail)
   refine bl.mono (hyx _) (fun a hp' amb' hq=>?_)
   obtain ⟨rfl,b,rfl,hb⟩:=hq
   rcases hb with ⟨rfl,rfl⟩|⟨rfl,hstop⟩
   ·repeat' (first |refine u1 ?_ |fail)
    refine aa (mu:=fun _=>false) ?_
    repeat' (first |refine u1 ?_ |refine u2 ?_ |fail)
    exact (ai.refl _).2
   ·repeat' (first |refine u1 ?_ |fail)
    refine aa (mu:=fun _=>false) ?_
    repeat' (first |refine u1 ?_ |fail)
    exact Or.inr hstop
  ·exact ⟨trivial,_,zK (l:=[]) 0 rfl trivial (Nat.zero_le _) rfl rfl (congrArg J (by rw [List.length_map,cW,Nat.add_mul,Nat.one_mul]))⟩
 ·exact Or.inl (by rw [List.length_map,cW])
end Go.Proofs.YtalcbebjpgfnfaaGreat
