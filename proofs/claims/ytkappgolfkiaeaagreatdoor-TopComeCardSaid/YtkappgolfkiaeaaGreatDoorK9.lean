/-
  Contracts of the program's functions and of the document's. Lemmas alone; their conditions stand in them.
-/
import Derived.Test.YtkappgolfkiaeaaGreatDoorK8
open Go Go.RM
namespace Go.Proofs.YtkappgolfkiaeaaGreatDoor
set_option maxRecDepth 100000
def uP (R most:Int) (raw:Nat):Nat→List Bool
 | 0=>[]
 | k+1=>uP R most raw k++[decide (raw.testBit k=true∧((cV R most raw k).1.length:Int) < most∧(cV R most raw k).2 < R)]
theorem EK (R most:Int) (raw k:Nat):uP R most raw (k+1)=uP R most raw k++[decide (raw.testBit k=true∧((cV R most raw k).1.length:Int) < most∧(cV R most raw k).2 < R)]:=rfl
theorem EL (R most:Int) (raw k:Nat):cV R most raw (k+1)=if raw.testBit k=true∧((cV R most raw k).1.length:Int) < most∧(cV R most raw k).2 < R then ((cV R most raw k).1++[((k:Nat):Int)],(cV R most raw k).2+1) else ((cV R most raw k).1,0):=rfl
theorem pV {α:Type} {l:List α} {i:Nat} {d:α} (h:i < l.length):l.getD i d=l[i]:=by rw [List.getD_eq_getElem?_getD,List.getElem?_eq_getElem h];rfl
def trail:Nat→List Bool→Nat
 | r,[]=>r
 | _,false :: l=>trail 0 l
 | r,true :: l=>trail (r+1) l
theorem sK:∀ (l:List Bool) (b:Bool),TeLaw.cnt (l++[b])=TeLaw.cnt l+if b=true then 1 else 0
 | [],b=>by cases b <;> rfl
 | true :: l,b=>by rw [List.cons_append,TeLaw.cnt,sK l b,TeLaw.cnt];omega
 | false :: l,b=>by rw [List.cons_append,TeLaw.cnt,sK l b,TeLaw.cnt]
theorem nI:∀ (l:List Bool) (r:Nat) (b:Bool),trail r (l++[b])=if b=true then trail r l+1 else 0
 | [],r,b=>by cases b <;> rfl
 | true :: l,r,b=>by rw [List.cons_append,trail,nI l,trail]
 | false :: l,r,b=>by rw [List.cons_append,trail,nI l,trail]
theorem nJ {R:Nat}:∀ (l:List Bool) (r:Nat) (b:Bool),TeLaw.mL R r (l++[b])=(TeLaw.mL R r l && (!b || decide (trail r l < R)))
 | [],r,true=>by show (decide (r < R) && true)=(true && (false || decide (r < R)));rw [Bool.and_true,Bool.true_and,Bool.false_or]
 | [],r,false=>rfl
 | true :: l,r,b=>by rw [List.cons_append,TeLaw.mL,nJ l,TeLaw.mL,trail,Bool.and_assoc]
 | false :: l,r,b=>by rw [List.cons_append,TeLaw.mL,nJ l,TeLaw.mL,trail]
theorem EM (l:List Int) (x:Int):eo (l++[x])=eo l ||| 2 ^ x.toNat:=by unfold eo;rw [List.foldl_append];rfl
theorem xp {R most raw:Nat}:∀ k:Nat,(uP R most raw k).length=k∧TeLaw.cnt (uP R most raw k)=(cV R most raw k).1.length∧((trail 0 (uP R most raw k):Nat):Int)=(cV R most raw k).2 ∧
  TeLaw.mL R 0 (uP R most raw k)=true∧(cV R most raw k).1.length≤most∧eo (cV R most raw k).1=qR 0 0 (uP R most raw k)∧(∀ x ∈ (cV R most raw k).1,0≤x∧x < (k:Nat))∧(cV R most raw k).1.Pairwise (· < ·)
 | 0=>⟨rfl,rfl,rfl,rfl,qq5 _,rfl,(fun x hx=>by cases hx),.nil⟩
 | k+1=>by
  obtain ⟨h1,h2,h3,h4,h5,h6,h7,h8⟩:=xp (R:=R) (most:=most) (raw:=raw) k;rw [EK,EL];by_cases hc:raw.testBit k=true∧((cV R most raw k).1.length:Int) < most∧(cV R most raw k).2 < R
  ·rw [decide_eq_true hc,if_pos hc];refine ⟨by rw [List.length_append,h1];rfl,?_,?_,?_,?_,?_,?_,?_⟩
   ·rw [sK,h2,if_pos rfl,List.length_append];rfl
   ·rw [nI,if_pos rfl];dsimp only;omega
   ·rw [nJ,h4,decide_eq_true (by omega)];rfl
   ·rw [List.length_append];simp only [List.length_singleton];omega
   ·rw [pU,if_pos rfl,EM,h6,h1,Int.toNat_natCast,Nat.zero_add]
   ·intro x hx
    rcases List.mem_append.1 hx with hx|hx
    ·have:=h7 x hx;omega
    ·rw [List.mem_singleton.1 hx];omega
   ·rw [List.pairwise_append];refine ⟨h8,List.pairwise_singleton _ _,fun a ha b hb=>?_⟩;rw [List.mem_singleton.1 hb];exact (h7 a ha).2
  ·rw [decide_eq_false hc,if_neg hc];refine ⟨by rw [List.length_append,h1];rfl,?_,?_,?_,h5,?_,?_,h8⟩
   ·rw [sK,h2];rfl
   ·rw [nI];rfl
   ·rw [nJ,h4];rfl
   ·rw [pU];exact h6
   ·intro x hx;have:=h7 x hx;omega
theorem JB {s:aC} (hg:Good s) {k most y:Nat}:y ∈ C4 s k 0 0 (most:Int) ↔ ∃ b:List Bool,b.length=k∧TeLaw.cnt b≤most∧TeLaw.mL s.row.toNat 0 b=true∧qR 0 0 b=y:=by
 rw [FZ hg,List.mem_map];constructor
 ·rintro ⟨b,hb,rfl⟩;obtain ⟨h1,h2,h3⟩:=TeLaw.jr.1 hb;exact ⟨b,h1,h2,h3,rfl⟩
 ·rintro ⟨b,h1,h2,h3,rfl⟩;exact ⟨b,TeLaw.jr.2 ⟨h1,h2,h3⟩,rfl⟩
theorem JC {s:aC} (hg:Good s) (most raw k:Nat):eo (kT s.row most raw k) ∈ C4 s k 0 0 (most:Int):=by
 have hr:=hg.row;have e:s.row=((s.row.toNat:Nat):Int):=by omega
 obtain ⟨h1,h2,_,h4,h5,h6,_⟩:=xp (R:=s.row.toNat) (most:=most) (raw:=raw) k
 rw [←e] at *
 exact (JB hg).2 ⟨_,h1,by omega,h4,h6.symm⟩
theorem Hr {l:List Int} {many:Nat} (h1:∀ x ∈ l,0≤x∧x < (many:Nat)) (h2:l.Pairwise (· < ·)):qb l many=0:=by
 unfold qb;rw [cu];intro i hi;have hb:=h1 l[i] (List.getElem_mem hi);unfold gh;rw [pV hi,aX,dA.2 ⟨hb.1,by omega⟩,if_neg (by simp),if_neg];unfold qq;by_cases h0:i=0
 ·rw [if_pos h0];omega
 ·rw [if_neg h0,pV (by omega)];have:=List.pairwise_iff_getElem.1 h2 (i - 1) i (by omega) hi (by omega);omega
theorem JD {s:aC} {p:List Order} (hv:(gx s p).2=0) (most raw:Nat):sH s p (kT s.row most raw p.length)=0:=by
 have hg:=(mK hv).good;have hr:=hg.row;have e:s.row=((s.row.toNat:Nat):Int):=by omega
 obtain ⟨_,_,_,_,_,_,h7,h8⟩:=xp (R:=s.row.toNat) (most:=most) (raw:=raw) p.length
 rw [←e] at *
 unfold sH;rw [if_pos hv];exact Hr h7 h8
def lN (a b:Int × Int):Prop:=a.1 < b.1∨(a.1=b.1∧a.2≤b.2)
theorem lN.refl (a:Int × Int):lN a a:=.inr ⟨rfl,Int.le_refl _⟩
theorem lN.trans {a b c:Int × Int} (h:lN a b) (k:lN b c):lN a c:=by unfold lN at *;omega
def hJ.key (b:hJ):Int × Int:=(b.day,b.need)
theorem Ht {b x:hJ} (h:fB b x=true):lN b.key x.key:=by
 unfold fB at h;unfold lN hJ.key;dsimp only;split at h
 ·have:=of_decide_eq_true h;omega
 ·split at h
  ·have:=of_decide_eq_true h;omega
  ·omega
theorem EN {b x:hJ} (h:fB b x=false):lN x.key b.key:=by
 unfold fB at h;unfold lN hJ.key;dsimp only;split at h
 ·have:=of_decide_eq_false h;omega
 ·split at h
  ·have:=of_decide_eq_false h;omega
  ·omega
theorem qS {s:aC} {p:List Order}:∀ (L:List Nat) (o:Option hJ),(L.foldl (eu s p) o=none→o=none∧∀ y ∈ L,lM s p y=none) ∧
  ∀ b,L.foldl (eu s p) o=some b→(o=some b∨∃ y ∈ L,lM s p y=some b)∧(∀ x,o=some x→lN b.key x.key)∧∀ y ∈ L,∀ c,lM s p y=some c→lN b.key c.key
 | [],o=>⟨fun h=>⟨h,fun y hy=>by cases hy⟩,fun b h=>⟨.inl h,fun x hx=>by have h:o=some b:=h;rw [h] at hx;cases hx;exact lN.refl _,fun y hy=>by cases hy⟩⟩
 | y :: L,o=>by
  obtain ⟨h1,h2⟩:=qS (s:=s) (p:=p) L (eu s p o y);rw [List.foldl_cons];unfold eu at h1 h2 ⊢
  cases hy:lM s p y with
  | none =>
   rw [hy] at h1 h2;dsimp only at h1 h2 ⊢;refine ⟨fun h=>⟨(h1 h).1,fun z hz=>?_⟩,fun b h=>?_⟩
   ·rcases List.mem_cons.1 hz with rfl|hz
    ·exact hy
    ·exact (h1 h).2 z hz
   ·obtain ⟨q1,q2,q3⟩:=h2 b h;refine ⟨q1.imp id fun ⟨z,hz,e⟩=>⟨z,List.mem_cons_of_mem _ hz,e⟩,q2,fun z hz c hc=>?_⟩
    rcases List.mem_cons.1 hz with rfl|hz
    ·rw [hy] at hc;cases hc
    ·exact q3 z hz c hc
  | some d =>
   rw [hy] at h1 h2
   cases o with
   | none =>
    dsimp only at h1 h2 ⊢;refine ⟨fun h=>((nomatch (h1 h).1)),fun b h=>?_⟩;obtain ⟨q1,q2,q3⟩:=h2 b h;refine ⟨.inr ?_,fun x hx=>(nomatch hx),fun z hz c hc=>?_⟩
    ·rcases q1 with q1|⟨z,hz,e⟩
     ·cases q1;exact ⟨y,List.mem_cons_self,hy⟩
     ·exact ⟨z,List.mem_cons_of_mem _ hz,e⟩
    ·rcases List.mem_cons.1 hz with rfl|hz
     ·rw [hy] at hc;cases hc;exact q2 _ rfl
     ·exact q3 z hz c hc
   | some x =>
    dsimp only at h1 h2 ⊢
    cases hl:fB d x with
    | true =>
     rw [hl,if_pos rfl] at h1 h2;rw [if_pos rfl];refine ⟨fun h=>((nomatch (h1 h).1)),fun b h=>?_⟩;obtain ⟨q1,q2,q3⟩:=h2 b h;refine ⟨.inr ?_,fun z hz=>?_,fun z hz c hc=>?_⟩
     ·rcases q1 with q1|⟨z,hz,e⟩
      ·cases q1;exact ⟨y,List.mem_cons_self,hy⟩
      ·exact ⟨z,List.mem_cons_of_mem _ hz,e⟩
     ·cases hz;exact (q2 _ rfl).trans (Ht hl)
     ·rcases List.mem_cons.1 hz with rfl|hz
      ·rw [hy] at hc;cases hc;exact q2 _ rfl
      ·exact q3 z hz c hc
    | false =>
     rw [hl,if_neg (by simp)] at h1 h2;rw [if_neg (by simp)];refine ⟨fun h=>((nomatch (h1 h).1)),fun b h=>?_⟩;obtain ⟨q1,q2,q3⟩:=h2 b h;refine ⟨q1.imp id fun ⟨z,hz,e⟩=>⟨z,List.mem_cons_of_mem _ hz,e⟩,fun z hz=>q2 z hz,fun z hz c hc=>?_⟩
     rcases List.mem_cons.1 hz with rfl|hz
     ·rw [hy] at hc;cases hc;exact (q2 _ rfl).trans (EN hl)
     ·exact q3 z hz c hc
theorem xq {s:aC} {p:List Order} {y:Nat}:lM s p y=none ↔ mM s p y=none:=by unfold lM;rw [Option.map_eq_none_iff]
theorem Hu {s:aC} {p:List Order} {L:List Nat}:nV s p L=none ↔ ∀ y ∈ L,mM s p y=none:=by
 constructor
 ·exact fun h y hy=>xq.1 (((qS L none).1 h).2 y hy)
 ·intro h
  cases hb:nV s p L with
  | none=>rfl
  | some b =>
   rcases ((qS L none).2 b hb).1 with e|⟨y,hy,e⟩
   ·cases e
   ·rw [xq.2 (h y hy)] at e;cases e
theorem JE {α:Type} {q:α→Bool} {l:List α}:l5 q l < 0 ↔ ∀ x ∈ l,q x=false:=by
 unfold l5
 cases h:l.findIdx? q with
 | none =>rw [List.findIdx?_eq_none_iff] at h;exact ⟨fun _=>h,fun _=>by dsimp only;omega⟩
 | some i =>rw [List.findIdx?_eq_some_iff_getElem] at h;obtain ⟨hi,hq,_⟩:=h;refine ⟨fun hneg=>by dsimp only at hneg;omega,fun hall=>?_⟩;rw [hall _ (List.getElem_mem hi)] at hq;cases hq
theorem qT {s:aC} {p:List Order} {y d:Nat}:zeroAt s p y d < 0 ↔ ∀ n,n < s.needs.length→qX s p y n d ≠ 0:=by
 unfold zeroAt;rw [JE];unfold ME;constructor
 ·intro h n hn e;have:=h (qX s p y n d) (List.mem_map.2 ⟨n,List.mem_range.2 hn,rfl⟩);exact of_decide_eq_false this e.symm
 ·intro h x hx;obtain ⟨n,hn,rfl⟩:=List.mem_map.1 hx;exact decide_eq_false fun e=>h n (List.mem_range.1 hn) e.symm
theorem Bi {s:aC} {p:List Order} {y:Nat}:mM s p y=none ↔ ∀ d,d < s.days.toNat→∀ n,n < s.needs.length→qX s p y n d ≠ 0:=by
 constructor
 ·intro h d hd;rw [←qT];unfold mM at h;rw [Option.map_eq_none_iff,List.find?_eq_none] at h;have:=h d (List.mem_range.2 hd);rw [decide_eq_true_eq] at this;omega
 ·exact fun h=>C1 fun i hi=>qT.2 (h i hi)
def cZ (s:aC) (raw:Nat):Nat→List Int × Int
 | 0=>([],0)
 | k+1=>if raw.testBit k=true∧(cZ s raw k).2+Eu s (k:Nat)≤s.load then ((cZ s raw k).1++[((k:Nat):Int)],(cZ s raw k).2+Eu s (k:Nat)) else cZ s raw k
theorem xu {s:aC} {raw k:Nat}:cZ s raw (k+1)=if raw.testBit k=true∧(cZ s raw k).2+Eu s (k:Nat)≤s.load then ((cZ s raw k).1++[((k:Nat):Int)],(cZ s raw k).2+Eu s (k:Nat)) else cZ s raw k:=rfl
theorem JF (s:aC) (l:List Int) (x:Int):CU s (l++[x])=CU s l+Eu s x:=by unfold CU;rw [List.map_append,List.sum_append];simp
theorem sL {s:aC} (hg:Good s) (raw:Nat):∀ k:Nat,(cZ s raw k).1.length≤k∧(cZ s raw k).2=CU s (cZ s raw k).1∧0≤(cZ s raw k).2∧(cZ s raw k).2≤s.load∧(∀ x ∈ (cZ s raw k).1,0≤x∧x < (k:Nat))∧(cZ s raw k).1.Pairwise (· < ·)
 | 0=>⟨qq6 _,rfl,Int.le_refl _,by have:=hg.load;show 0≤s.load;omega,(fun x hx=>by cases hx),.nil⟩
 | k+1=>by
  obtain ⟨h1,h2,h3,h4,h5,h6⟩:=sL hg raw k;have hw:=I9 hg (k:Nat);rw [xu];split
  ·rename_i hc;refine ⟨by rw [List.length_append,List.length_singleton];omega,by rw [JF,←h2],by dsimp only;omega,hc.2,fun x hx=>?_,?_⟩
   ·rcases List.mem_append.1 hx with hx|hx
    ·have:=h5 x hx;omega
    ·rw [List.mem_singleton.1 hx];omega
   ·rw [List.pairwise_append];refine ⟨h6,List.pairwise_singleton _ _,fun a ha b hb=>?_⟩;rw [List.mem_singleton.1 hb];exact (h5 a ha).2
  ·exact ⟨by omega,h2,h3,h4,fun x hx=>by have:=h5 x hx;omega,h6⟩
def fW (s:aC) (xs:List Nat):Nat→List Order
 | 0=>[]
 | i+1=>match s.possible[i]?,xs[i]? with
  | some d,some raw=>if (cZ s raw s.needs.length).1=[] then fW s xs i else fW s xs i++[⟨d,(cZ s raw s.needs.length).1⟩]
  | _,_=>fW s xs i
def fX (s:aC) (xs:List Nat):List Order:=fW s xs s.possible.length
theorem xw {s:aC} {xs:List Nat} {i:Nat} (h1:i < s.possible.length) (h2:i < xs.length):fW s xs (i+1)=if (cZ s xs[i] s.needs.length).1=[] then fW s xs i else fW s xs i++[⟨s.possible[i],(cZ s xs[i] s.needs.length).1⟩]:=by rw [fW,List.getElem?_eq_getElem h1,List.getElem?_eq_getElem h2]
theorem tY {s:aC} {xs:List Nat}:∀ i,(fW s xs i).length≤i
 | 0=>qq6 _
 | i+1=>by
  have ih:=tY (s:=s) (xs:=xs) i;rw [fW];split
  ·split
   ·omega
   ·rw [List.length_append,List.length_singleton];omega
  ·omega
theorem Nu {s:aC} (hg:Good s):(∀ (i:Nat) (h:i < s.possible.length),0≤s.possible[i]∧s.possible[i] < s.days)∧∀ (i j:Nat) (hi:i < s.possible.length) (hj:j < s.possible.length),i < j→s.possible[i] < s.possible[j] :=
 ⟨fun i h=>(pS (by decide) h (hg.M9 i h)).1,Jb (by decide) hg.M9⟩
theorem Da {s:aC} (hg:Good s) {xs:List Nat}:∀ i,i≤s.possible.length→(∀ o ∈ fW s xs i,pT s o∧o.day ∈ s.possible∧∀ (j:Nat) (hj:j < s.possible.length),i≤j→o.day < s.possible[j])∧(fW s xs i).Pairwise (fun a b=>a.day < b.day)
 | 0,_=>⟨(fun o ho=>by cases ho),.nil⟩
 | i+1,hi=>by
  obtain ⟨h1,h2⟩:=Da hg (xs:=xs) i (by omega);obtain ⟨p1,p2⟩:=Nu hg;have hlt:i < s.possible.length:=by omega
  have old:∀ o ∈ fW s xs i,pT s o∧o.day ∈ s.possible∧∀ (j:Nat) (hj:j < s.possible.length),i+1≤j→o.day < s.possible[j]:=fun o ho=>⟨(h1 o ho).1,(h1 o ho).2.1,fun j hj hle=>(h1 o ho).2.2 j hj (by omega)⟩;by_cases hx:i < xs.length
  ·rw [xw hlt hx];split
   ·exact ⟨old,h2⟩
   ·rename_i hne;obtain ⟨k1,k2,k3,k4,k5,k6⟩:=sL hg xs[i] s.needs.length;have k6:=List.pairwise_iff_getElem.1 k6
    have hl:1≤(cZ s xs[i] s.needs.length).1.length:=by
     cases hc:(cZ s xs[i] s.needs.length).1 with
     | nil=>exact absurd hc hne
     | cons a l=>simp
    refine ⟨fun o ho=>?_,?_⟩
    ·rcases List.mem_append.1 ho with ho|ho
     ·exact old o ho
     ·rw [List.mem_singleton.1 ho];exact ⟨⟨p1 i hlt,k5,hl,k1,k6,by dsimp only;omega⟩,List.getElem_mem hlt,fun j hj hle=>p2 i j hlt hj (by omega)⟩
    ·rw [List.pairwise_append];refine ⟨h2,List.pairwise_singleton _ _,fun a ha b hb=>?_⟩;rw [List.mem_singleton.1 hb];exact (h1 a ha).2.2 i hlt (qq6 _)
  ·rw [fW,List.getElem?_eq_none (l:=xs) (by omega)];cases s.possible[i]? <;> exact ⟨old,h2⟩
theorem Db {lo hi n:Int} (h:lo≤n∧n≤hi):bS lo hi [n]=false:=by rw [aX,dA.2 h];rfl
theorem Dc {α:Type} {l:List α} {i:Nat} {d:α} (h:i < l.length):l.getD i d=l[i]:=by rw [List.getD_eq_getElem?_getD,List.getElem?_eq_getElem h];rfl
theorem JG {l:List Int} {many:Nat} (h1:∀ x ∈ l,0≤x∧x < (many:Nat)) (h2:∀ (i j:Nat) (hi:i < l.length) (hj:j < l.length),i < j→l[i] < l[j]):qb l many=0:=by
 unfold qb;rw [cu];intro i hi;have hb:=h1 l[i] (List.getElem_mem hi);unfold gh;rw [Dc hi,Db ⟨hb.1,by omega⟩,if_neg (by simp),if_neg];unfold qq;by_cases h0:i=0
 ·rw [if_pos h0];omega
 ·rw [if_neg h0,Dc (by omega)];have:=h2 (i - 1) i (by omega) hi (by omega);omega
theorem Hv {s:aC} (hc:(gv s).2.2=0) {p:List Order} (h8:p.length≤8) (ho:∀ o ∈ p,pT s o) (ha:p.Pairwise (fun a b=>a.day < b.day)):(gx s p).2=0:=by
 unfold gx vn;rw [if_neg (by omega),if_neg (by omega),cu];intro i hi;have h:=ho _ (List.getElem_mem hi)
 have hl:¬ p[i].day≤mJ p i:=by
  unfold mJ;by_cases h0:i=0
  ·rw [if_pos h0];have:=h.day;omega
  ·rw [if_neg h0,List.getElem?_eq_getElem (by omega)];have:=List.pairwise_iff_getElem.1 ha (i - 1) i (by omega) hi (by omega);dsimp only;omega
 unfold lK kR;rw [List.getElem?_eq_getElem hi];dsimp only;have hd:=h.day;have hs:=h.some;have hld:=h.load;rw [Db ⟨hd.1,by omega⟩,if_neg (by simp),if_neg hl,if_neg (by omega),JG h.bl h.M9,if_neg (by simp),if_neg (by omega)]
theorem Dd {s:aC} (hc:(gv s).2.2=0) (xs:List Nat):(gx s (fX s xs)).2=0∧(fX s xs).length≤6∧∀ o ∈ fX s xs,o.day ∈ s.possible:=by have hg:=tS hc;have hm:=hg.many;have hl:=tY (s:=s) (xs:=xs) s.possible.length;obtain ⟨h1,h2⟩:=Da hg (xs:=xs) s.possible.length (qq6 _);exact ⟨Hv hc (by show (fW s xs s.possible.length).length≤8;omega) (fun o ho=>(h1 o ho).1) h2,by show (fW s xs s.possible.length).length≤6;omega,fun o ho=>(h1 o ho).2.1⟩
def qe (n:Int):List hH→List hH
 | []=>[]
 | x :: l=>⟨x.name,max n x.full,n,x.weight⟩ :: l
abbrev bK (s:aC) (n:Int):aC:={s with needs:=qe n s.needs}
theorem De (n:Int) (l:List hH):(qe n l).length=l.length:=by cases l <;> rfl
theorem Hw {s:aC} {n:Int} (h:(gv s).2.2=0) (hn:0≤n∧n≤60):(gv (bK s n)).2.2=0:=by
 obtain ⟨d,nd,ld,f,r,po⟩:=s
 match nd with
 | []=>exact h
 | x :: l =>
  have hl:(qe n (x :: l)).length=(x :: l).length:=rfl;have hh:cR (bK ⟨d,x :: l,ld,f,r,po⟩ n)=cR ⟨d,x :: l,ld,f,r,po⟩:=rfl;have hg:=tS h;have hx:=hg.needs x (List.mem_cons_self)
  have he:∀ i,i < (x :: l).length→dP (bK ⟨d,x :: l,ld,f,r,po⟩ n) i=0:=by
   intro i hi
   have h0:dP ⟨d,x :: l,ld,f,r,po⟩ i=0:=by
    unfold gv at h;split at h
    ·cases h
    ·split at h
     ·cases h
     ·split at h
      ·rename_i h3;exact absurd h h3
      ·rename_i h3;exact eP (Classical.not_not.1 h3) i hi
   cases i with
   | zero =>
    show fV ⟨x.name,max n x.full,n,x.weight⟩ []=0;unfold fV;rw [if_neg (by rw [hx.1];simp),if_neg (by simp),if_neg];simp only [Bool.or_eq_true,not_or,Bool.not_eq_true];refine ⟨⟨?_,?_⟩,?_⟩
    ·rw [aX,dA.2 (by omega)];rfl
    ·rw [aX,dA.2 (by omega)];rfl
    ·rw [aX,dA.2 (by omega)];rfl
   | succ i =>
    have e:∀ y:hH,((qe n (x :: l)).take (i+1)).any (fun z=>vl z.name y.name)=((x :: l).take (i+1)).any (fun z=>vl z.name y.name):=fun y=>rfl;unfold dP at h0 ⊢;rw [show (bK ⟨d,x :: l,ld,f,r,po⟩ n).needs[i+1]?=(x :: l)[i+1]? from rfl];rw [show (aC.mk d (x :: l) ld f r po).needs[i+1]?=(x :: l)[i+1]? from rfl] at h0
    cases hi2:(x :: l)[i+1]? with
    | none=>rfl
    | some y =>rw [hi2] at h0;exact h0
  have hz:(bx (qe n (x :: l)).length (dP (bK ⟨d,x :: l,ld,f,r,po⟩ n))).2=0:=by apply Classical.byContradiction;intro hne;obtain ⟨k,hk,_,h1,_⟩:=G5 hne;exact h1 (he k hk)
  unfold gv at h ⊢;rw [hh];show (if cR ⟨d,x :: l,ld,f,r,po⟩=true then ((1:Int),(0:Int),(7:Int)) else if bS 1 3 [((qe n (x :: l)).length:Int)]=true then (2,0,3) else if (bx (qe n (x :: l)).length (dP (bK ⟨d,x :: l,ld,f,r,po⟩ n))).2 ≠ 0 then _ else _).2.2=0;rw [if_neg (show ¬ ((bx (qe n (x :: l)).length (dP (bK ⟨d,x :: l,ld,f,r,po⟩ n))).2 ≠ 0) from fun hne=>hne hz)];split at h
  ·cases h
  ·rename_i q1;split at h
   ·cases h
   ·rename_i q2;split at h
    ·rename_i h3;exact absurd h h3
    ·rw [if_neg q1,if_neg (show ¬ bS 1 3 [((qe n (x :: l)).length:Int)]=true from q2)];exact h
theorem JH {s:aC} (h:s.Ok) (n:Int):(bK s n).Ok:=by
 refine ⟨by show (qe n s.needs).length≤_;rw [De];exact h.needs,fun x hx=>?_,h.possible⟩;have hx:x ∈ qe n s.needs:=hx;have hh:=h.names
 match hs:s.needs,hx with
 | y :: l,hx =>
  rw [hs] at hh
  rcases List.mem_cons.1 hx with rfl|hx
  ·exact hh y List.mem_cons_self
  ·exact hh x (List.mem_cons_of_mem _ hx)
def Df (f:List Int) (i:Nat) (o:Order):Bool:=!hasB f (i:Int) && hasB o.bl 0
def oQ (f:List Int) (last:Int):Nat→List Order→Int
 | _,[]=>last
 | i,o :: l=>if Df f i o=true then o.day else oQ f last (i+1) l
theorem JI {f:List Int} {last:Int} {p:List Order} {k:Nat} (h:k < p.length):oQ f last k (p.drop k)=if Df f k p[k]=true then p[k].day else oQ f last (k+1) (p.drop (k+1)):=by rw [List.drop_eq_getElem_cons h];rfl
theorem tZ {f:List Int} {last:Int}:∀ (l:List Order) (i:Nat),(oQ f last i l=last∧∀ (j:Nat) (h:j < l.length),Df f (i+j) l[j]=false) ∨
  ∃ (j:Nat) (h:j < l.length),oQ f last i l=l[j].day∧∀ (k:Nat) (hk:k < l.length),k < j→Df f (i+k) l[k]=false
 | [],i=>.inl ⟨rfl,fun j h=>absurd h (Nat.not_lt_zero _)⟩
 | o :: l,i=>by
  unfold oQ
  cases hc:Df f i o with
  | true=>exact .inr ⟨0,Nat.succ_pos _,by rw [if_pos rfl];rfl,fun k _ hk=>absurd hk (Nat.not_lt_zero _)⟩
  | false =>
   rw [if_neg (by simp)]
   rcases tZ (f:=f) (last:=last) l (i+1) with ⟨h1,h2⟩|⟨j,hj,h1,h2⟩
   ·refine .inl ⟨h1,fun j h=>?_⟩
    cases j with
    | zero=>exact hc
    | succ j =>have:=h2 j (by simpa using h);rw [show i+1+j=i+(j+1) by omega] at this;exact this
   ·refine .inr ⟨j+1,by simpa using hj,h1,fun k hk hkj=>?_⟩
    cases k with
    | zero=>exact hc
    | succ k =>have:=h2 k (by simpa using hk) (by omega);rw [show i+1+k=i+(k+1) by omega] at this;exact this
theorem JJ {s:aC} {p:List Order} {f:List Int} {n:Nat} (ha:sH s p f=0) (hf:jI s 0=(n:Int)) (hc:(n:Int) < oQ f s.days 0 p):∃ (d:Nat) (x:Int),mM s p (eo f)=some (d,x)∧d≤n∧0≤x:=by
 obtain ⟨hpg,hin,hpv,hix⟩:=Bb ha;have hg:=hpg.good;have hl:=hg.len
 have hnd:(n:Int) < s.days:=by
  rcases tZ (f:=f) (last:=s.days) p 0 with ⟨h1,_⟩|⟨j,hj,h1,_⟩
  ·omega
  ·have:=(hpg.order _ (List.getElem_mem hj)).day;omega
 have hbr:∀ d:Nat,d≤n→G6 p (eo f) 0 d=false:=by
  intro d hd;rw [←Bool.not_eq_true,A7];rintro ⟨i,hi,h1,h2,h3⟩;rw [zB hin] at h2;have hci:Df f i p[i]=true:=by unfold Df;have h3':(0:Int) ∈ p[i].bl:=h3;rw [h2,iP.2 h3'];rfl
  rcases tZ (f:=f) (last:=s.days) p 0 with ⟨_,h4⟩|⟨j,hj,h4,h5⟩
  ·have:=h4 i hi;rw [Nat.zero_add,hci] at this;cases this
  ·by_cases hij:i < j
   ·have:=h5 i hi hij;rw [Nat.zero_add,hci] at this;cases this
   ·have hji:p[j].day≤p[i].day:=by
     rcases Nat.lt_or_eq_of_le (Nat.le_of_not_lt hij) with h6|h6
     ·have:=hpg.M9 j i hj hi h6;omega
     ·subst h6;exact Int.le_refl _
    omega
 have hlv:∀ d:Nat,d≤n→TeLaw.HO (nG s 0) (jI s 0) (G6 p (eo f) 0) d=(n:Int) - d:=by
  intro d
  induction d with
  | zero =>intro h0;unfold TeLaw.HO;rw [if_neg (by rw [hbr 0 h0];simp),hf];omega
  | succ d ih =>intro h0;unfold TeLaw.HO;rw [if_neg (by rw [hbr (d+1) h0];simp),ih (by omega)];omega
 have hz:0≤zeroAt s p (eo f) n:=by
  rcases Int.lt_or_le (zeroAt s p (eo f) n) 0 with h|h
  ·have:=(qT.1 h) 0 (by omega);unfold qX at this;rw [if_pos (by omega),hlv n (qq6 _)] at this;omega
  ·exact h
 cases hb:mM s p (eo f) with
 | none =>have:=(Bi.1 hb) n (by omega) 0 (by omega);unfold qX at this;rw [if_pos (by omega),hlv n (qq6 _)] at this;omega
 | some y =>
  obtain ⟨d,x⟩:=y;refine ⟨d,x,rfl,?_,?_⟩
  ·unfold mM at hb
   cases hq:(List.range s.days.toNat).find? (fun d=>decide (0≤zeroAt s p (eo f) d)) with
   | none=>rw [hq] at hb;cases hb
   | some e =>rw [hq] at hb;cases hb;rw [List.find?_range_eq_some] at hq;apply Classical.byContradiction;intro hlt;have:=hq.2.2 n (by omega);rw [decide_eq_true hz] at this;cases this
  ·exact (Jw hg hb).2.1
theorem Hx {s:aC} (hg:Good s) (n:Int):jI (bK s n) 0=n:=by
 have hl:=hg.len;obtain ⟨d,nd,ld,f,r,po⟩:=s
 cases nd with
 | nil=>exact absurd hl.1 (Nat.not_succ_le_zero 0)
 | cons x l=>rfl
theorem JK {s:aC} (hc:(gv s).2.2=0) {n:Nat} (hf:jI s 0=(n:Int)) (xs:List Nat) (raw:Nat) :
  ∃ (a:AV) (b c g d x h:Int),jz s (fX s xs)=.tp [a,av b,av c,av g]∧a.deep=true∧(g=0∨g=4)∧ED s (fX s xs) (kT s.row s.fail raw (fX s xs).length)=(d,x,h)∧(h=0∨h=4)∧(g=4→h=4) ∧
   ((n:Int) < oQ (kT s.row s.fail raw (fX s xs).length) s.days 0 (fX s xs)→h=0∧d≤n∧0≤x):=by
 have hpv:=(Dd hc xs).1;have hpg:=mK hpv;have hg:=hpg.good;have hfl:=hg.fail;have ha:sH s (fX s xs) (kT s.row s.fail raw (fX s xs).length)=0:=by have:=JD hpv s.fail.toNat raw;rw [show ((s.fail.toNat:Nat):Int)=s.fail by omega] at this;exact this
 have hpos:eo (kT s.row s.fail raw (fX s xs).length) ∈ Hf s (fX s xs):=by have:=JC hg s.fail.toNat raw (fX s xs).length;rw [show ((s.fail.toNat:Nat):Int)=s.fail by omega] at this;exact this
 have hco:=JJ (n:=n) ha hf
 generalize kT s.row s.fail raw (fX s xs).length=f at *
 generalize fX s xs=p at *
 have hbr:∃ a b c g,jz s p=.tp [a,av b,av c,av g]∧a.deep=true∧(g=0∨g=4)∧(g=4→mM s p (eo f)=none):=by
  unfold jz;rw [if_neg (by omega)]
  cases hb:nV s p (Hf s p) with
  | none=>exact ⟨_,_,_,4,rfl,rfl,.inr rfl,fun _=>Hu.1 hb _ hpos⟩
  | some b=>exact ⟨_,_,_,0,rfl,rfl,.inl rfl,fun h=>by cases h⟩
 obtain ⟨a,b,c,g,h1,h2,h3,h4⟩:=hbr
 cases hb:mM s p (eo f) with
 | none =>
  refine ⟨a,b,c,g,0,0,4,h1,h2,h3,?_,.inr rfl,fun _=>rfl,fun hlt=>?_⟩
  ·unfold ED;rw [if_neg (by omega),hb]
  ·obtain ⟨d,x,h5,_⟩:=hco hlt;rw [hb] at h5;cases h5
 | some y =>
  obtain ⟨d,x⟩:=y;refine ⟨a,b,c,g,d,x,0,h1,h2,h3,?_,.inl rfl,fun hg4=>?_,fun hlt=>?_⟩
  ·unfold ED;rw [if_neg (by omega),hb]
  ·have:=h4 hg4;rw [hb] at this;cases this
  ·obtain ⟨d',x',h5,h6,h7⟩:=hco hlt;rw [hb] at h5;obtain ⟨rfl,rfl⟩:=Prod.mk.inj (Option.some.inj h5);exact ⟨rfl,by omega,h7⟩
