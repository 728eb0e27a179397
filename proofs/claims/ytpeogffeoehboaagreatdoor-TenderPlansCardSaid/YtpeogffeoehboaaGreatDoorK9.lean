/-
  Contracts of the program's functions and of the document's. Lemmas alone; their conditions stand in them.
-/
import Derived.Test.YtpeogffeoehboaaGreatDoorK8
open Go Go.RM
namespace Go.Proofs.YtpeogffeoehboaaGreatDoor
set_option maxRecDepth 100000
def fS (b:List Int):Int:=match b.getLast? with
 | none=>0
 | some x=>x+1
def dQ (below:Int):Nat→List Int→List (List Int)
 | 0,b=>[b]
 | m+1,b=>(List.range (below - fS b).toNat).flatMap fun i=>dQ below m (b++[fS b+(i:Nat)])
theorem iI (b:List Int) (x:Int):fS (b++[x])=x+1:=by simp [fS]
theorem kR {below:Int}:∀ {m:Nat} {b l:List Int},l ∈ dQ below m b ↔ ∃ c:List Int,l=b++c∧c.length=m∧c.Pairwise (· < ·)∧∀ x ∈ c,fS b≤x∧x < below
 | 0,b,l=>by
  rw [dQ,List.mem_singleton];constructor
  ·rintro rfl;exact ⟨[],(List.append_nil _).symm,rfl,.nil,fun x hx=>by cases hx⟩
  ·rintro ⟨c,rfl,h,_⟩;rw [List.length_eq_zero_iff.1 h,List.append_nil]
 | m+1,b,l=>by
  rw [dQ,List.mem_flatMap];constructor
  ·rintro ⟨i,hi,h⟩;have hi:=List.mem_range.1 hi;obtain ⟨c,rfl,h2,h3,h4⟩:=kR.1 h;rw [iI] at h4;refine ⟨(fS b+(i:Nat)) :: c,by simp,by simp [h2],List.pairwise_cons.2 ⟨fun x hx=>?_,h3⟩,fun x hx=>?_⟩
   ·have:=h4 x hx;omega
   ·rcases List.mem_cons.1 hx with rfl|hx
    ·omega
    ·have:=h4 x hx;omega
  ·rintro ⟨c,rfl,h2,h3,h4⟩
   match c,h2 with
   | x :: c,h2 =>
    have hx:=h4 x List.mem_cons_self;have e:fS b+(((x - fS b).toNat:Nat):Int)=x:=by omega
    refine ⟨(x - fS b).toNat,List.mem_range.2 (by omega),?_⟩;rw [e];rw [List.pairwise_cons] at h3;refine kR.2 ⟨c,by simp,by simpa using h2,h3.2,fun y hy=>?_⟩;rw [iI];have:=h3.1 y hy;have:=h4 y (List.mem_cons_of_mem _ hy);omega
theorem Fh:∀ {a b:List Int},a.Pairwise (· < ·)→b.Pairwise (· < ·)→(∀ x,x ∈ a ↔ x ∈ b)→a=b
 | [],[],_,_,_=>rfl
 | [],y :: b,_,_,h=>by have:=(h y).2 List.mem_cons_self;cases this
 | x :: a,[],_,_,h=>by have:=(h x).1 List.mem_cons_self;cases this
 | x :: a,y :: b,ha,hb,h=>by
  rw [List.pairwise_cons] at ha hb
  have e:x=y:=by
   rcases List.mem_cons.1 ((h x).1 List.mem_cons_self) with e|hx
   ·exact e
   ·rcases List.mem_cons.1 ((h y).2 List.mem_cons_self) with e|hy
    ·exact e.symm
    ·have:=hb.1 x hx;have:=ha.1 y hy;omega
  subst e;refine congrArg (x :: ·) (Fh ha.2 hb.2 fun z=>?_);have hz:=h z;rw [List.mem_cons,List.mem_cons] at hz;constructor
  ·intro hza
   rcases hz.1 (.inr hza) with e|e
   ·have:=ha.1 z hza;omega
   ·exact e
  ·intro hzb
   rcases hz.2 (.inr hzb) with e|e
   ·have:=hb.1 z hzb;omega
   ·exact e
theorem L4 {F:List Int} {n:Nat} (hn:n≤8) (ha:F.Pairwise (· < ·)) (hb:∀ x ∈ F,0≤x∧x < n):aL (dc F)=F:=by
 refine Fh (HJ _) ha fun x=>?_;rw [zH];constructor
 ·rintro ⟨m,_,h,rfl⟩;rw [kg hb] at h;exact fM.1 h
 ·intro hx;have:=hb x hx;refine ⟨x.toNat,by omega,?_,by omega⟩;rw [kg hb,show ((x.toNat:Nat):Int)=x by omega];exact fM.2 hx
theorem Dq {f k:Nat}:∀ x ∈ ct f k,0≤x∧x < (k:Nat):=by intro x hx;unfold ct at hx;obtain ⟨m,hm,rfl⟩:=List.mem_map.1 hx;have:=List.mem_range.1 (List.mem_filter.1 hm).1;omega
theorem tU {f k:Nat} {x:Int}:x ∈ ct f k ↔ ∃ m:Nat,m < k∧f.testBit m=true∧x=(m:Nat):=by
 unfold ct;simp only [List.mem_map,List.mem_filter,List.mem_range];constructor
 ·rintro ⟨m,⟨h1,h2⟩,rfl⟩;exact ⟨m,h1,h2,rfl⟩
 ·rintro ⟨m,h1,h2,rfl⟩;exact ⟨m,⟨h1,h2⟩,rfl⟩
theorem tV (f k:Nat):(ct f k).Pairwise (· < ·):=by unfold ct;rw [List.pairwise_map];exact (List.Pairwise.filter _ List.pairwise_lt_range).imp fun h=>by omega
theorem zI {f k:Nat} (hk:k≤8) (hf:f < 2 ^ k):aL f=ct f k:=xo hf 8 hk
theorem pg {f g k:Nat} (h:∀ j,j < k→f.testBit j=g.testBit j):ct f k=ct g k:=by
 refine Fh (tV _ _) (tV _ _) fun x=>?_;rw [tU,tU];constructor
 ·rintro ⟨m,h1,h2,e⟩;exact ⟨m,h1,by rw [←h m h1];exact h2,e⟩
 ·rintro ⟨m,h1,h2,e⟩;exact ⟨m,h1,by rw [h m h1];exact h2,e⟩
theorem sN {f known:Nat} (hf:f < 2 ^ known) (b:List Bool) (j:Nat):(jW f known b).testBit (known+j)=b.getD j false:=by rw [gN b f known hf,Nat.testBit_lt_two_pow (Nat.lt_of_lt_of_le hf (Nat.pow_le_pow_right (by decide) (Nat.le_add_right _ _))),decide_eq_true (Nat.le_add_right _ _),Nat.add_sub_cancel_left];simp
theorem pq {f known:Nat} (hf:f < 2 ^ known) (b:List Bool) {j:Nat} (hj:j < known):(jW f known b).testBit j=f.testBit j:=by rw [gN b f known hf,decide_eq_false (by omega)];simp
theorem kS {f known:Nat} (hf:f < 2 ^ known) (b:List Bool):∀ j,j≤b.length→(ct (jW f known b) (known+j)).length=(ct f known).length+TeLaw.cnt (b.take j)∧rowAt (jW f known b) (known+j)=((trail (yD f known) (b.take j):Nat):Int)
 | 0,_=>by
  refine ⟨?_,?_⟩
  ·rw [Nat.add_zero,pg (g:=f) fun j hj=>pq hf b hj];rfl
  ·rw [Nat.add_zero,uM (f':=f) fun j hj=>pq hf b hj];have:=sL f known;show rowAt f known=((yD f known:Nat):Int);unfold yD;omega
 | j+1,h=>by obtain ⟨h1,h2⟩:=kS hf b j (by omega);have hg:b.getD j false=b[j]:=fT (by omega);rw [←Nat.add_assoc,nM,nL,List.take_add_one,List.getElem?_eq_getElem (by omega),sN hf,hg,h2,List.length_append,h1];show (ct f known).length+TeLaw.cnt (b.take j)+(if b[j]=true then [((known+j:Nat):Int)] else []).length=(ct f known).length+TeLaw.cnt (b.take j++[b[j]])∧(if b[j]=true then ((trail (yD f known) (b.take j):Nat):Int)+1 else 0)=((trail (yD f known) (b.take j++[b[j]]):Nat):Int);rw [xl,kQ];cases b[j] <;> simp <;> omega
theorem tW {R r:Nat} {b:List Bool}:∀ n,n≤b.length→(TeLaw.kP R r (b.take n)=true ↔ ∀ j,(h:j < b.length)→j < n→b[j]=true→trail r (b.take (j+1))≤R)
 | 0,_=>⟨fun _ j _ h=>absurd h (by omega),fun _=>rfl⟩
 | n+1,hn=>by
  have ih:=tW (R:=R) (r:=r) (b:=b) n (by omega);have et:b.take (n+1)=b.take n++[b[n]]:=by rw [List.take_add_one,List.getElem?_eq_getElem (by omega)];rfl
  rw [et,qZ,qq7,ih];constructor
  ·rintro ⟨h1,h2⟩ j hj hjn hb;by_cases e:j < n
   ·exact h1 j hj e hb
   ·obtain rfl:j=n:=by omega
    rw [hb] at h2;have h2:decide (trail r (b.take j) < R)=true:=h2;rw [et,kQ,if_pos hb];have:=of_decide_eq_true h2;omega
  ·intro h;refine ⟨fun j hj hjn hb=>h j hj (by omega) hb,?_⟩
   cases hb:b[n] with
   | false=>rfl
   | true =>have:=h n (by omega) (by omega) hb;rw [et,kQ,if_pos hb] at this;show decide (trail r (b.take n) < R)=true;exact decide_eq_true (by omega)
theorem pz {s:ai} (hg:Good s) {k known f most y:Nat} (hk:known≤k) (hf:f < 2 ^ known):y ∈ nI s k known f (most:Int) ↔
  y < 2 ^ k∧(∀ j,j < known→y.testBit j=f.testBit j)∧(ct y k).length≤(ct f known).length+most∧∀ m,known≤m→m < k→y.testBit m=true→rowAt y (m+1)≤s.row:=by
 have hr:=hg.row;rw [vo hg,List.mem_map];constructor
 ·rintro ⟨b,hb,rfl⟩;obtain ⟨h1,h2,h3⟩:=TeLaw.fO.1 hb;have hl:=qh b f known hf;rw [h1,Nat.add_sub_cancel' hk] at hl;refine ⟨hl,fun j hj=>pq hf b hj,?_,fun m m1 m2 m3=>?_⟩
  ·have:=(kS hf b b.length (qq6 _)).1;rw [h1,Nat.add_sub_cancel' hk,←h1,List.take_length] at this;omega
  ·obtain ⟨j,rfl⟩:=Nat.exists_eq_add_of_le m1;have hj:j < b.length:=by omega
   rw [sN hf,fT hj] at m3;rw [Nat.add_assoc,(kS hf b (j+1) (by omega)).2];have hall:=(tW (R:=s.row.toNat) (r:=yD f known) (b:=b) b.length (qq6 _)).1 (by rw [List.take_length];exact h3) j hj hj m3;omega
 ·rintro ⟨h1,h2,h3,h4⟩;refine ⟨(List.range (k - known)).map fun j=>y.testBit (known+j),?_,?_⟩
  rotate_left
  ·refine Nat.eq_of_testBit_eq fun j=>?_;by_cases hj:j < known
   ·rw [pq hf _ hj,h2 j hj]
   ·obtain ⟨i,rfl⟩:=Nat.exists_eq_add_of_le (Nat.le_of_not_lt hj);rw [sN hf];by_cases hi:i < k - known
    ·rw [fT (by simpa using hi)];simp
    ·rw [List.getD_eq_getElem?_getD,List.getElem?_eq_none (by simp;omega)];exact (Nat.testBit_lt_two_pow (Nat.lt_of_lt_of_le h1 (Nat.pow_le_pow_right (by decide) (by omega)))).symm
  ·have he:jW f known ((List.range (k - known)).map fun j=>y.testBit (known+j))=y:=by
    refine Nat.eq_of_testBit_eq fun j=>?_;by_cases hj:j < known
    ·rw [pq hf _ hj,h2 j hj]
    ·obtain ⟨i,rfl⟩:=Nat.exists_eq_add_of_le (Nat.le_of_not_lt hj);rw [sN hf];by_cases hi:i < k - known
     ·rw [fT (by simpa using hi)];simp
     ·rw [List.getD_eq_getElem?_getD,List.getElem?_eq_none (by simp;omega)];exact (Nat.testBit_lt_two_pow (Nat.lt_of_lt_of_le h1 (Nat.pow_le_pow_right (by decide) (by omega)))).symm
   generalize hb:(List.range (k - known)).map (fun j=>y.testBit (known+j))=b at he;have hbl:b.length=k - known:=by rw [←hb];simp
   refine TeLaw.fO.2 ⟨hbl,?_,?_⟩
   ·have:=(kS hf b b.length (qq6 _)).1;rw [he,hbl,Nat.add_sub_cancel' hk,←hbl,List.take_length] at this;omega
   ·have:=(tW (R:=s.row.toNat) (r:=yD f known) (b:=b) b.length (qq6 _)).2 fun j hj _ hbj=>?_
    ·rw [List.take_length] at this;exact this
    ·have h5:=h4 (known+j) (Nat.le_add_right _ _) (by omega) (by rw [←he,sN hf,fT hj];exact hbj);rw [←he,Nat.add_assoc,(kS hf b (j+1) (by omega)).2] at h5;omega
def jF (R:Int) (known y:Nat):Nat→Bool
 | 0=>true
 | k+1=>jF R known y k && (decide (k < known) || decide (rowAt y (k+1)≤R) || !y.testBit k)
theorem tX {R:Int} {known y:Nat}:∀ {k:Nat},jF R known y k=true ↔ ∀ m,known≤m→m < k→y.testBit m=true→rowAt y (m+1)≤R
 | 0=>⟨fun _ m _ h=>absurd h (by omega),fun _=>rfl⟩
 | k+1=>by
  rw [jF,qq7,tX (k:=k)];constructor
  ·rintro ⟨h1,h2⟩ m m1 m2 m3;by_cases e:m < k
   ·exact h1 m m1 e m3
   ·obtain rfl:m=k:=by omega
    rw [m3,decide_eq_false (by omega:¬ m < known)] at h2;simpa using h2
  ·intro h;refine ⟨fun m m1 m2 m3=>h m m1 (by omega) m3,?_⟩;by_cases e:k < known
   ·rw [decide_eq_true e];rfl
   ·cases hb:y.testBit k with
    | false=>simp
    | true =>have:=h k (by omega) (by omega) hb;rw [decide_eq_true this];simp
def yF (y known n:Nat):List Int:=((List.range n).filter fun j=>y.testBit (known+j)).map fun j:Nat=>((j:Nat):Int)
theorem zJ (y known:Nat):∀ n,ct y (known+n)=ct y known++(yF y known n).map (·+(known:Int))
 | 0=>by simp [yF]
 | n+1=>by
  have:yF y known (n+1)=yF y known n++if y.testBit (known+n)=true then [((n:Nat):Int)] else []:=by unfold yF;rw [List.range_succ,List.filter_append,List.map_append];cases h:y.testBit (known+n) <;> simp [h]
  rw [←Nat.add_assoc,nM,zJ y known n,this,List.map_append,List.append_assoc]
  congr 1
  congr 1
  cases h:y.testBit (known+n)
  ·rfl
  ·simp;omega
def nN (known f:Nat) (l:List Int):List Int:=ct f known++l.map (·+(known:Int))
def Fi (s:ai) (k known f many:Nat):List (List Int):=((dQ ((k:Int) - known) many []).map (nN known f)).filter fun F=>jF s.row known (dc F) k
def yG (s:ai) (k known f most:Nat):List (List Int):=(List.range (most+1)).flatMap (Fi s k known f)
theorem rq {k known f many:Nat} (hk:known≤k) {l:List Int} (hl:l ∈ dQ ((k:Int) - known) many []):(nN known f l).Pairwise (· < ·)∧(∀ x ∈ nN known f l,0≤x∧x < (k:Nat))∧(nN known f l).length=(ct f known).length+many∧∀ j:Nat,j < known→hasB (nN known f l) (j:Nat)=f.testBit j:=by
 obtain ⟨c,hc,h2,h3,h4⟩:=kR.1 hl;rw [List.nil_append] at hc;subst hc;have h4:∀ x ∈ l,0≤x∧x < (k:Int) - known:=fun x hx=>h4 x hx;unfold nN;refine ⟨?_,fun x hx=>?_,by rw [List.length_append,List.length_map,h2],fun j hj=>?_⟩
 ·rw [List.pairwise_append];refine ⟨tV _ _,?_,fun a ha b hb=>?_⟩
  ·rw [List.pairwise_map];exact h3.imp fun h=>by omega
  ·obtain ⟨x,hx,rfl⟩:=List.mem_map.1 hb;have:=Dq a ha;have:=h4 x hx;omega
 ·rcases List.mem_append.1 hx with hx|hx
  ·have:=Dq x hx;omega
  ·obtain ⟨z,hz,rfl⟩:=List.mem_map.1 hx;have:=h4 z hz;omega
 ·rw [Bool.eq_iff_iff,fM,List.mem_append,tU];constructor
  ·rintro (⟨m,h1,h2,e⟩|h)
   ·obtain rfl:j=m:=by omega
    exact h2
   ·obtain ⟨z,hz,e⟩:=List.mem_map.1 h;have:=h4 z hz;omega
  ·intro h;exact .inl ⟨j,hj,h,rfl⟩
theorem Dr {s:ai} (hg:Good s) {k known f most:Nat} (h8:k≤8) (hk:known≤k) (hf:f < 2 ^ known) {F:List Int}:F ∈ yG s k known f most ↔ ∃ y ∈ nI s k known f (most:Int),F=aL y:=by
 unfold yG Fi;rw [List.mem_flatMap];constructor
 ·rintro ⟨many,hm,h⟩;rw [List.mem_filter] at h;obtain ⟨h1,h2⟩:=h;obtain ⟨l,hl,rfl⟩:=List.mem_map.1 h1;have hm:=List.mem_range.1 hm;obtain ⟨a1,a2,a3,a4⟩:=rq (f:=f) hk hl;have hlt:=LF a2;have hv:=L4 h8 a1 a2;refine ⟨dc (nN known f l),(pz hg hk hf).2 ⟨hlt,fun j hj=>by rw [kg a2,a4 j hj],?_,tX.1 h2⟩,hv.symm⟩;rw [←zI h8 hlt,hv,a3];omega
 ·rintro ⟨y,hy,rfl⟩;obtain ⟨h1,h2,h3,h4⟩:=(pz hg hk hf).1 hy;have e1:=zJ y known (k - known);rw [Nat.add_sub_cancel' hk] at e1;have e2:aL y=nN known f (yF y known (k - known)):=by rw [zI h8 h1,e1,pg h2];rfl
  have hlen:(ct y k).length=(ct f known).length+(yF y known (k - known)).length:=by rw [e1,pg h2,List.length_append,List.length_map]
  refine ⟨(yF y known (k - known)).length,List.mem_range.2 (by omega),List.mem_filter.2 ⟨List.mem_map.2 ⟨yF y known (k - known),kR.2 ⟨_,rfl,rfl,?_,fun x hx=>?_⟩,e2.symm⟩,?_⟩⟩
  ·show (((List.range (k - known)).filter fun j=>y.testBit (known+j)).map fun j:Nat=>((j:Nat):Int)).Pairwise (· < ·);rw [List.pairwise_map];exact (List.Pairwise.filter _ List.pairwise_lt_range).imp fun h=>by omega
  ·unfold yF at hx;obtain ⟨m,hm,rfl⟩:=List.mem_map.1 hx;have:=List.mem_range.1 (List.mem_filter.1 hm).1;show 0≤((m:Nat):Int)∧_;omega
  ·have h256:y < 256:=Nat.lt_of_lt_of_le h1 (Nat.pow_le_pow_right (by decide) h8);rw [rj h256];exact tX.2 h4
theorem sP {s:ai} (hg:Good s):(∀ (i:Nat) (h:i < s.possible.length),0≤s.possible[i]∧s.possible[i] < s.days)∧∀ (i j:Nat) (hi:i < s.possible.length) (hj:j < s.possible.length),i < j→s.possible[i] < s.possible[j] :=
 ⟨fun i h=>(qd (by decide) h (hg.HA i h)).1,Ln (by decide) hg.HA⟩
theorem xy {lo hi n:Int} (h:lo≤n∧n≤hi):gB lo hi [n]=false:=by rw [bY,nD.2 h];rfl
theorem Du {α:Type} {l:List α} {i:Nat} {d:α} (h:i < l.length):l.getD i d=l[i]:=by rw [List.getD_eq_getElem?_getD,List.getElem?_eq_getElem h];rfl
theorem L6 {l:List Int} {many:Nat} (h1:∀ x ∈ l,0≤x∧x < (many:Nat)) (h2:∀ (i j:Nat) (hi:i < l.length) (hj:j < l.length),i < j→l[i] < l[j]):Lm l many=0:=by
 unfold Lm;rw [iq];intro i hi;have hb:=h1 l[i] (List.getElem_mem hi);unfold gp;rw [Du hi,xy ⟨hb.1,by omega⟩,if_neg (by simp),if_neg];unfold qF;by_cases h0:i=0
 ·rw [if_pos h0];omega
 ·rw [if_neg h0,Du (by omega)];have:=h2 (i - 1) i (by omega) hi (by omega);omega
theorem zM {s:ai} (hc:(l8 s).2.2=0) {p:List Order} (h8:p.length≤8) (ho:∀ o ∈ p,qe s o) (ha:p.Pairwise (fun a b=>a.day < b.day)):(oX s p).2=0:=by
 unfold oX Bo;rw [if_neg (by omega),if_neg (by omega),iq];intro i hi;have h:=ho _ (List.getElem_mem hi)
 have hl:¬ p[i].day≤zC p i:=by
  unfold zC;by_cases h0:i=0
  ·rw [if_pos h0];have:=h.day;omega
  ·rw [if_neg h0,List.getElem?_eq_getElem (by omega)];have:=List.pairwise_iff_getElem.1 ha (i - 1) i (by omega) hi (by omega);dsimp only;omega
 unfold Bn sH;rw [List.getElem?_eq_getElem hi];dsimp only;have hd:=h.day;have hs:=h.some;have hld:=h.load;rw [xy ⟨hd.1,by omega⟩,if_neg (by simp),if_neg hl,if_neg (by omega),L6 h.bw h.HA,if_neg (by simp),if_neg (by omega)]
set_option maxHeartbeats 4000000
theorem eu (C:List Int):(0:Nat)+C.length * 1≤(bG C).length∧(ints C).length=C.length∧(∀ el ∈ ints C,el.length=1)∧(ints C).flatten=((bG C).drop 0).take (C.length * 1) :=
 ⟨by rw [List.length_map];omega,by simp,fun el hel=>by obtain ⟨o,_,rfl⟩:=List.mem_map.1 hel;rfl,by rw [List.drop_zero,List.take_of_length_le (by rw [List.length_map];omega),cK]⟩
theorem jX (L:List Order):(0:Nat)+L.length * 2≤(kj L).length∧(L.map aD).length=L.length∧(∀ el ∈ L.map aD,el.length=2)∧(L.map aD).flatten=((kj L).drop 0).take (L.length * 2) :=
 ⟨by rw [lO];omega,by simp,fun el hel=>by obtain ⟨o,_,rfl⟩:=List.mem_map.1 hel;rfl,by rw [List.drop_zero,List.take_of_length_le (by rw [lO];exact qq6 _)];rfl⟩
