/-
  Contracts of the program's functions and of the document's. Lemmas alone; their conditions stand in them.
-/
import Derived.Test.YtpeogffeoehboaaGreatDoorK3
import Derived.Test.YtpeogffeoehboaaGreatDoorK6
import Derived.Test.YtpeogffeoehboaaGreatDoorK12
open Go Go.RM
namespace Go.Proofs.YtpeogffeoehboaaGreatDoor
set_option maxRecDepth 100000
def ir (b:List Int):Int:=match b.getLast? with
 | none=>0
 | some x=>x+1
def kW (below:Int):Nat→List Int→List (List Int)
 | 0,b=>[b]
 | m+1,b=>(List.range (below - ir b).toNat).flatMap fun i=>kW below m (b++[ir b+(i:Nat)])
theorem nG (b:List Int) (x:Int):ir (b++[x])=x+1:=by simp [ir]
theorem jS {below:Int}:∀ {m:Nat} {b l:List Int},l ∈ kW below m b ↔ ∃ c:List Int,l=b++c∧c.length=m∧c.Pairwise (· < ·)∧∀ x ∈ c,ir b≤x∧x < below
 | 0,b,l=>by
  rw [kW,List.mem_singleton]
  constructor
  ·rintro rfl
   exact ⟨[],(List.append_nil _).symm,rfl,.nil,fun x hx=>by cases hx⟩
  ·rintro ⟨c,rfl,h,_⟩
   rw [List.length_eq_zero_iff.1 h,List.append_nil]
 | m+1,b,l=>by
  rw [kW,List.mem_flatMap]
  constructor
  ·rintro ⟨i,hi,h⟩
   have hi:=List.mem_range.1 hi
   obtain ⟨c,rfl,h2,h3,h4⟩:=jS.1 h
   rw [nG] at h4
   refine ⟨(ir b+(i:Nat)) :: c,by simp,by simp [h2],List.pairwise_cons.2 ⟨fun x hx=>?_,h3⟩,fun x hx=>?_⟩
   ·have:=h4 x hx;omega
   ·rcases List.mem_cons.1 hx with rfl|hx
    ·omega
    ·have:=h4 x hx;omega
  ·rintro ⟨c,rfl,h2,h3,h4⟩
   match c,h2 with
   | x :: c,h2 =>
    have hx:=h4 x List.mem_cons_self
    have e:ir b+(((x - ir b).toNat:Nat):Int)=x:=by omega
    refine ⟨(x - ir b).toNat,List.mem_range.2 (by omega),?_⟩
    rw [e]
    rw [List.pairwise_cons] at h3
    refine jS.2 ⟨c,by simp,by simpa using h2,h3.2,fun y hy=>?_⟩
    rw [nG]
    have:=h3.1 y hy
    have:=h4 y (List.mem_cons_of_mem _ hy)
    omega
theorem zY:∀ (b x y:List Int),iY (b++x) (b++y)=iY x y
 | [],x,y=>rfl
 | a :: b,x,y=>by
  rw [List.cons_append,List.cons_append,fI,zY b]
  have:pT a a=0:=by unfold pT;rw [if_neg (by omega),if_neg (by omega)]
  rw [this,if_neg (by omega)]
theorem sX {below:Int}:∀ (m:Nat) (b:List Int),(kW below m b).Pairwise fun x y=>iY x y < 0
 | 0,b=>List.pairwise_singleton _ _
 | m+1,b=>by
  rw [kW,List.pairwise_flatMap]
  refine ⟨fun i _=>sX m _,?_⟩
  refine List.pairwise_lt_range.imp fun {i j} hij=>?_
  intro x hx y hy
  obtain ⟨c,rfl,_⟩:=jS.1 hx
  obtain ⟨d,rfl,_⟩:=jS.1 hy
  rw [List.append_assoc,List.append_assoc,zY]
  show iY ((ir b+(i:Nat)) :: c) ((ir b+(j:Nat)) :: d) < 0
  have:pT (ir b+(i:Nat)) (ir b+(j:Nat))=-1:=by unfold pT;rw [if_pos (by omega)]
  rw [fI,this,if_pos (by omega)]
  omega
theorem yf (k:Int):∀ (x y:List Int),iY (x.map (·+k)) (y.map (·+k))=iY x y
 | [],[]=>rfl
 | [],_ :: _=>rfl
 | _ :: _,[]=>rfl
 | a :: x,b :: y=>by
  rw [List.map_cons,List.map_cons,fI,fI,yf k x y]
  have:pT (a+k) (b+k)=pT a b:=by
   unfold pT
   by_cases h1:a < b
   ·rw [if_pos h1,if_pos (by omega)]
   ·rw [if_neg h1,if_neg (by omega)]
    by_cases h2:b < a
    ·rw [if_pos h2,if_pos (by omega)]
    ·rw [if_neg h2,if_neg (by omega)]
  rw [this]
theorem Dq:∀ {a b:List Int},a.Pairwise (· < ·)→b.Pairwise (· < ·)→(∀ x,x ∈ a ↔ x ∈ b)→a=b
 | [],[],_,_,_=>rfl
 | [],y :: b,_,_,h=>by
  have:=(h y).2 List.mem_cons_self
  cases this
 | x :: a,[],_,_,h=>by
  have:=(h x).1 List.mem_cons_self
  cases this
 | x :: a,y :: b,ha,hb,h=>by
  rw [List.pairwise_cons] at ha hb
  have e:x=y:=by
   rcases List.mem_cons.1 ((h x).1 List.mem_cons_self) with e|hx
   ·exact e
   ·rcases List.mem_cons.1 ((h y).2 List.mem_cons_self) with e|hy
    ·exact e.symm
    ·have:=hb.1 x hx
     have:=ha.1 y hy
     omega
  subst e
  refine congrArg (x :: ·) (Dq ha.2 hb.2 fun z=>?_)
  have hz:=h z
  rw [List.mem_cons,List.mem_cons] at hz
  constructor
  ·intro hza
   rcases hz.1 (.inr hza) with e|e
   ·have:=ha.1 z hza
    omega
   ·exact e
  ·intro hzb
   rcases hz.2 (.inr hzb) with e|e
   ·have:=hb.1 z hzb
    omega
   ·exact e
theorem JC {F:List Int} {n:Nat} (hn:n≤8) (ha:F.Pairwise (· < ·)) (hb:∀ x ∈ F,0≤x∧x < n):bp (aO F)=F:=by
 refine Dq (Fk _) ha fun x=>?_
 rw [Fj]
 constructor
 ·rintro ⟨m,_,h,rfl⟩
  rw [jv hb] at h
  exact fu.1 h
 ·intro hx
  have:=hb x hx
  refine ⟨x.toNat,by omega,?_,by omega⟩
  rw [jv hb,show ((x.toNat:Nat):Int)=x by omega]
  exact fu.2 hx
theorem B5 {f k:Nat}:∀ x ∈ bK f k,0≤x∧x < (k:Nat):=by
 intro x hx
 unfold bK at hx
 obtain ⟨m,hm,rfl⟩:=List.mem_map.1 hx
 have:=List.mem_range.1 (List.mem_filter.1 hm).1
 omega
theorem sk {f k:Nat} {x:Int}:x ∈ bK f k ↔ ∃ m:Nat,m < k∧f.testBit m=true∧x=(m:Nat):=by
 unfold bK
 simp only [List.mem_map,List.mem_filter,List.mem_range]
 constructor
 ·rintro ⟨m,⟨h1,h2⟩,rfl⟩;exact ⟨m,h1,h2,rfl⟩
 ·rintro ⟨m,h1,h2,rfl⟩;exact ⟨m,⟨h1,h2⟩,rfl⟩
theorem sq (f k:Nat):(bK f k).Pairwise (· < ·):=by
 unfold bK
 rw [List.pairwise_map]
 exact (List.Pairwise.filter _ List.pairwise_lt_range).imp fun h=>by omega
theorem yg {f k:Nat} (hk:k≤8) (hf:f < 2 ^ k):bp f=bK f k:=vW hf 8 hk
theorem nH {f g k:Nat} (h:∀ j,j < k→f.testBit j=g.testBit j):bK f k=bK g k:=by
 refine Dq (sq _ _) (sq _ _) fun x=>?_
 rw [sk,sk]
 constructor
 ·rintro ⟨m,h1,h2,e⟩;exact ⟨m,h1,by rw [←h m h1];exact h2,e⟩
 ·rintro ⟨m,h1,h2,e⟩;exact ⟨m,h1,by rw [h m h1];exact h2,e⟩
theorem qR {f known:Nat} (hf:f < 2 ^ known) (b:List Bool) (j:Nat):(gR f known b).testBit (known+j)=b.getD j false:=by
 rw [gN b f known hf,Nat.testBit_lt_two_pow (Nat.lt_of_lt_of_le hf (Nat.pow_le_pow_right (by decide) (Nat.le_add_right _ _))),decide_eq_true (Nat.le_add_right _ _),Nat.add_sub_cancel_left]
 simp
theorem nJ {f known:Nat} (hf:f < 2 ^ known) (b:List Bool) {j:Nat} (hj:j < known):(gR f known b).testBit j=f.testBit j:=by
 rw [gN b f known hf,decide_eq_false (by omega)]
 simp
theorem jT {f known:Nat} (hf:f < 2 ^ known) (b:List Bool):∀ j,j≤b.length→(bK (gR f known b) (known+j)).length=(bK f known).length+TeLaw.cnt (b.take j)∧rowAt (gR f known b) (known+j)=((trail (xj f known) (b.take j):Nat):Int)
 | 0,_=>by
  refine ⟨?_,?_⟩
  ·rw [Nat.add_zero,nH (g:=f) fun j hj=>nJ hf b hj]
   rfl
  ·rw [Nat.add_zero,sW (f':=f) fun j hj=>nJ hf b hj]
   have:=qO f known
   show rowAt f known=((xj f known:Nat):Int)
   unfold xj
   omega
 | j+1,h=>by
  obtain ⟨h1,h2⟩:=jT hf b j (by omega)
  have hg:b.getD j false=b[j]:=qQ (by omega)
  rw [←Nat.add_assoc,mF,mE,List.take_add_one,List.getElem?_eq_getElem (by omega),qR hf,hg,h2,List.length_append,h1]
  show (bK f known).length+TeLaw.cnt (b.take j)+(if b[j]=true then [((known+j:Nat):Int)] else []).length=(bK f known).length+TeLaw.cnt (b.take j++[b[j]])∧(if b[j]=true then ((trail (xj f known) (b.take j):Nat):Int)+1 else 0)=((trail (xj f known) (b.take j++[b[j]]):Nat):Int)
  rw [vU,jR]
  cases b[j] <;> simp <;> omega
theorem sv {R r:Nat} {b:List Bool}:∀ n,n≤b.length→(TeLaw.mP R r (b.take n)=true ↔ ∀ j,(h:j < b.length)→j < n→b[j]=true→trail r (b.take (j+1))≤R)
 | 0,_=>⟨fun _ j _ h=>absurd h (by omega),fun _=>rfl⟩
 | n+1,hn=>by
  have ih:=sv (R:=R) (r:=r) (b:=b) n (by omega)
  have et:b.take (n+1)=b.take n++[b[n]]:=by rw [List.take_add_one,List.getElem?_eq_getElem (by omega)];rfl
  rw [et,pO,Bool.and_eq_true,ih]
  constructor
  ·rintro ⟨h1,h2⟩ j hj hjn hb
   by_cases e:j < n
   ·exact h1 j hj e hb
   ·obtain rfl:j=n:=by omega
    rw [hb] at h2
    have h2:decide (trail r (b.take j) < R)=true:=h2
    rw [et,jR,if_pos hb]
    have:=of_decide_eq_true h2
    omega
  ·intro h
   refine ⟨fun j hj hjn hb=>h j hj (by omega) hb,?_⟩
   cases hb:b[n] with
   | false=>rfl
   | true =>
    have:=h n (by omega) (by omega) hb
    rw [et,jR,if_pos hb] at this
    show decide (trail r (b.take n) < R)=true
    exact decide_eq_true (by omega)
theorem lN {s:au} (hg:Good s) {k known f most y:Nat} (hk:known≤k) (hf:f < 2 ^ known):y ∈ pN s k known f (most:Int) ↔
  y < 2 ^ k∧(∀ j,j < known→y.testBit j=f.testBit j)∧(bK y k).length≤(bK f known).length+most∧∀ m,known≤m→m < k→y.testBit m=true→rowAt y (m+1)≤s.row:=by
 have hr:=hg.row
 rw [zU hg,List.mem_map]
 constructor
 ·rintro ⟨b,hb,rfl⟩
  obtain ⟨h1,h2,h3⟩:=TeLaw.gx.1 hb
  have hl:=qP b f known hf
  rw [h1,Nat.add_sub_cancel' hk] at hl
  refine ⟨hl,fun j hj=>nJ hf b hj,?_,fun m m1 m2 m3=>?_⟩
  ·have:=(jT hf b b.length (Nat.le_refl _)).1
   rw [h1,Nat.add_sub_cancel' hk,←h1,List.take_length] at this
   omega
  ·obtain ⟨j,rfl⟩:=Nat.exists_eq_add_of_le m1
   have hj:j < b.length:=by omega
   rw [qR hf,qQ hj] at m3
   rw [Nat.add_assoc,(jT hf b (j+1) (by omega)).2]
   have hall:=(sv (R:=s.row.toNat) (r:=xj f known) (b:=b) b.length (Nat.le_refl _)).1 (by rw [List.take_length];exact h3) j hj hj m3
   omega
 ·rintro ⟨h1,h2,h3,h4⟩
  refine ⟨(List.range (k - known)).map fun j=>y.testBit (known+j),?_,?_⟩
  rotate_left
  ·refine Nat.eq_of_testBit_eq fun j=>?_
   by_cases hj:j < known
   ·rw [nJ hf _ hj,h2 j hj]
   ·obtain ⟨i,rfl⟩:=Nat.exists_eq_add_of_le (Nat.le_of_not_lt hj)
    rw [qR hf]
    by_cases hi:i < k - known
    ·rw [qQ (by simpa using hi)]
     simp
    ·rw [List.getD_eq_getElem?_getD,List.getElem?_eq_none (by simp;omega)]
     exact (Nat.testBit_lt_two_pow (Nat.lt_of_lt_of_le h1 (Nat.pow_le_pow_right (by decide) (by omega)))).symm
  ·have he:gR f known ((List.range (k - known)).map fun j=>y.testBit (known+j))=y:=by
    refine Nat.eq_of_testBit_eq fun j=>?_
    by_cases hj:j < known
    ·rw [nJ hf _ hj,h2 j hj]
    ·obtain ⟨i,rfl⟩:=Nat.exists_eq_add_of_le (Nat.le_of_not_lt hj)
     rw [qR hf]
     by_cases hi:i < k - known
     ·rw [qQ (by simpa using hi)]
      simp
     ·rw [List.getD_eq_getElem?_getD,List.getElem?_eq_none (by simp;omega)]
      exact (Nat.testBit_lt_two_pow (Nat.lt_of_lt_of_le h1 (Nat.pow_le_pow_right (by decide) (by omega)))).symm
   generalize hb:(List.range (k - known)).map (fun j=>y.testBit (known+j))=b at he
   have hbl:b.length=k - known:=by rw [←hb];simp
   refine TeLaw.gx.2 ⟨hbl,?_,?_⟩
   ·have:=(jT hf b b.length (Nat.le_refl _)).1
    rw [he,hbl,Nat.add_sub_cancel' hk,←hbl,List.take_length] at this
    omega
   ·have:=(sv (R:=s.row.toNat) (r:=xj f known) (b:=b) b.length (Nat.le_refl _)).2 fun j hj _ hbj=>?_
    ·rw [List.take_length] at this;exact this
    ·have h5:=h4 (known+j) (Nat.le_add_right _ _) (by omega) (by rw [←he,qR hf,qQ hj];exact hbj)
     rw [←he,Nat.add_assoc,(jT hf b (j+1) (by omega)).2] at h5
     omega
def iN (R:Int) (known y:Nat):Nat→Bool
 | 0=>true
 | k+1=>iN R known y k && (decide (k < known) || decide (rowAt y (k+1)≤R) || !y.testBit k)
theorem sw {R:Int} {known y:Nat}:∀ {k:Nat},iN R known y k=true ↔ ∀ m,known≤m→m < k→y.testBit m=true→rowAt y (m+1)≤R
 | 0=>⟨fun _ m _ h=>absurd h (by omega),fun _=>rfl⟩
 | k+1=>by
  rw [iN,Bool.and_eq_true,sw (k:=k)]
  constructor
  ·rintro ⟨h1,h2⟩ m m1 m2 m3
   by_cases e:m < k
   ·exact h1 m m1 e m3
   ·obtain rfl:m=k:=by omega
    rw [m3,decide_eq_false (by omega:¬ m < known)] at h2
    simpa using h2
  ·intro h
   refine ⟨fun m m1 m2 m3=>h m m1 (by omega) m3,?_⟩
   by_cases e:k < known
   ·rw [decide_eq_true e];rfl
   ·cases hb:y.testBit k with
    | false=>simp
    | true =>
     have:=h k (by omega) (by omega) hb
     rw [decide_eq_true this];simp
def xl (y known n:Nat):List Int:=((List.range n).filter fun j=>y.testBit (known+j)).map fun j:Nat=>((j:Nat):Int)
theorem yh (y known:Nat):∀ n,bK y (known+n)=bK y known++(xl y known n).map (·+(known:Int))
 | 0=>by simp [xl]
 | n+1=>by
  have:xl y known (n+1)=xl y known n++if y.testBit (known+n)=true then [((n:Nat):Int)] else []:=by
   unfold xl
   rw [List.range_succ,List.filter_append,List.map_append]
   cases h:y.testBit (known+n) <;> simp [h]
  rw [←Nat.add_assoc,mF,yh y known n,this,List.map_append,List.append_assoc]
  congr 1
  congr 1
  cases h:y.testBit (known+n)
  ·rfl
  ·simp
   omega
def lO (known f:Nat) (l:List Int):List Int:=bK f known++l.map (·+(known:Int))
def B6 (s:au) (k known f many:Nat):List (List Int):=((kW ((k:Int) - known) many []).map (lO known f)).filter fun F=>iN s.row known (aO F) k
def pP (s:au) (k known f most:Nat):List (List Int):=(List.range (most+1)).flatMap (B6 s k known f)
theorem gk {k known f many:Nat} (hk:known≤k) {l:List Int} (hl:l ∈ kW ((k:Int) - known) many []):(lO known f l).Pairwise (· < ·)∧(∀ x ∈ lO known f l,0≤x∧x < (k:Nat))∧(lO known f l).length=(bK f known).length+many∧∀ j:Nat,j < known→hasB (lO known f l) (j:Nat)=f.testBit j:=by
 obtain ⟨c,hc,h2,h3,h4⟩:=jS.1 hl
 rw [List.nil_append] at hc
 subst hc
 have h4:∀ x ∈ l,0≤x∧x < (k:Int) - known:=fun x hx=>h4 x hx
 unfold lO
 refine ⟨?_,fun x hx=>?_,by rw [List.length_append,List.length_map,h2],fun j hj=>?_⟩
 ·rw [List.pairwise_append]
  refine ⟨sq _ _,?_,fun a ha b hb=>?_⟩
  ·rw [List.pairwise_map]
   exact h3.imp fun h=>by omega
  ·obtain ⟨x,hx,rfl⟩:=List.mem_map.1 hb
   have:=B5 a ha
   have:=h4 x hx
   omega
 ·rcases List.mem_append.1 hx with hx|hx
  ·have:=B5 x hx
   omega
  ·obtain ⟨z,hz,rfl⟩:=List.mem_map.1 hx
   have:=h4 z hz
   omega
 ·rw [Bool.eq_iff_iff,fu,List.mem_append,sk]
  constructor
  ·rintro (⟨m,h1,h2,e⟩|h)
   ·obtain rfl:j=m:=by omega
    exact h2
   ·obtain ⟨z,hz,e⟩:=List.mem_map.1 h
    have:=h4 z hz
    omega
  ·intro h
   exact .inl ⟨j,hj,h,rfl⟩
theorem vY {s:au} (hg:Good s) {k known f most:Nat} (h8:k≤8) (hk:known≤k) (hf:f < 2 ^ known) {F:List Int}:F ∈ pP s k known f most ↔ ∃ y ∈ pN s k known f (most:Int),F=bp y:=by
 unfold pP B6
 rw [List.mem_flatMap]
 constructor
 ·rintro ⟨many,hm,h⟩
  rw [List.mem_filter] at h
  obtain ⟨h1,h2⟩:=h
  obtain ⟨l,hl,rfl⟩:=List.mem_map.1 h1
  have hm:=List.mem_range.1 hm
  obtain ⟨a1,a2,a3,a4⟩:=gk (f:=f) hk hl
  have hlt:=Ja a2
  have hv:=JC h8 a1 a2
  refine ⟨aO (lO known f l),(lN hg hk hf).2 ⟨hlt,fun j hj=>by rw [jv a2,a4 j hj],?_,sw.1 h2⟩,hv.symm⟩
  rw [←yg h8 hlt,hv,a3]
  omega
 ·rintro ⟨y,hy,rfl⟩
  obtain ⟨h1,h2,h3,h4⟩:=(lN hg hk hf).1 hy
  have e1:=yh y known (k - known)
  rw [Nat.add_sub_cancel' hk] at e1
  have e2:bp y=lO known f (xl y known (k - known)):=by
   rw [yg h8 h1,e1,nH h2]
   rfl
  have hlen:(bK y k).length=(bK f known).length+(xl y known (k - known)).length:=by
   rw [e1,nH h2,List.length_append,List.length_map]
  refine ⟨(xl y known (k - known)).length,List.mem_range.2 (by omega),List.mem_filter.2 ⟨List.mem_map.2 ⟨xl y known (k - known),jS.2 ⟨_,rfl,rfl,?_,fun x hx=>?_⟩,e2.symm⟩,?_⟩⟩
  ·show (((List.range (k - known)).filter fun j=>y.testBit (known+j)).map fun j:Nat=>((j:Nat):Int)).Pairwise (· < ·)
   rw [List.pairwise_map]
   exact (List.Pairwise.filter _ List.pairwise_lt_range).imp fun h=>by omega
  ·unfold xl at hx
   obtain ⟨m,hm,rfl⟩:=List.mem_map.1 hx
   have:=List.mem_range.1 (List.mem_filter.1 hm).1
   show 0≤((m:Nat):Int)∧_
   omega
  ·have h256:y < 256:=Nat.lt_of_lt_of_le h1 (Nat.pow_le_pow_right (by decide) h8)
   rw [ig h256]
   exact sw.2 h4
def ahead (a b:List Int):Prop:=a.length < b.length∨a.length=b.length∧iY a b < 0
theorem B7 {s:au} {k known f most:Nat} (hk:known≤k):(pP s k known f most).Pairwise ahead:=by
 unfold pP
 rw [List.pairwise_flatMap]
 refine ⟨fun many _=>?_,?_⟩
 ·refine List.Pairwise.filter _ ?_
  rw [List.pairwise_map]
  refine (sX (below:=(k:Int) - known) many []).imp_of_mem fun {a b} ha hb h=>.inr ⟨?_,?_⟩
  ·rw [(gk (f:=f) hk ha).2.2.1,(gk (f:=f) hk hb).2.2.1]
  ·unfold lO
   rw [zY,yf]
   exact h
 ·refine List.pairwise_lt_range.imp fun {i j} hij=>?_
  intro x hx y hy
  unfold B6 at hx hy
  obtain ⟨l,hl,rfl⟩:=List.mem_map.1 (List.mem_filter.1 hx).1
  obtain ⟨m,hm,rfl⟩:=List.mem_map.1 (List.mem_filter.1 hy).1
  left
  rw [(gk (f:=f) hk hl).2.2.1,(gk (f:=f) hk hm).2.2.1]
  omega
set_option maxHeartbeats 4000000
theorem eH (C:List Int):(0:Nat)+C.length * 1≤(dc C).length∧(ints C).length=C.length∧(∀ el ∈ ints C,el.length=1)∧(ints C).flatten=((dc C).drop 0).take (C.length * 1) :=
 ⟨by rw [List.length_map];omega,by simp,fun el hel=>by obtain ⟨o,_,rfl⟩:=List.mem_map.1 hel;rfl,by rw [List.drop_zero,List.take_of_length_le (by rw [List.length_map];omega),cR]⟩
end Go.Proofs.YtpeogffeoehboaaGreatDoor
