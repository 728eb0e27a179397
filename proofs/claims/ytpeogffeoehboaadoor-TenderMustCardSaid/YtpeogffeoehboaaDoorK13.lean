/-
  Contracts of the program's functions and of the document's. Lemmas alone; their conditions stand in them.
-/
import Derived.Test.YtpeogffeoehboaaDoorK6
import Derived.Test.YtpeogffeoehboaaDoorK7
import Derived.Test.YtpeogffeoehboaaDoorK10
import Derived.Test.YtpeogffeoehboaaDoorK11
import Derived.Test.YtpeogffeoehboaaDoorK12
open Go Go.RM
namespace Go.Proofs.YtpeogffeoehboaaDoor
set_option maxRecDepth 100000
theorem oR {s:ai} {p:List Order} (h:(ey s p).2=0):jV s p=fm s p 0 0 s.fail:=by
 rw [Bool.eq_iff_iff,CK]
 unfold jV uo nS
 rw [if_neg (by omega),decide_eq_true_eq]
 constructor
 ·intro h
  apply Classical.byContradiction
  intro hn
  rw [if_neg hn] at h
  cases h
 ·intro h
  rw [if_pos h]
theorem NP {s:ai} {p:List Order} {f n:Nat} (w:Int):∀ d,wD s p f n w d≤w∧∀ i,i < d→wD s p f n w d≤kI s p f n i
 | 0=>⟨Int.le_refl _,fun i hi=>absurd hi (Nat.not_lt_zero _)⟩
 | d+1=>by
  obtain ⟨h1,h2⟩:=NP (s:=s) (p:=p) (f:=f) (n:=n) w d
  rw [Fy]
  refine ⟨by omega,fun i hi=>?_⟩
  by_cases e:i=d
  ·subst e;omega
  ·have:=h2 i (by omega);omega
theorem NQ {s:ai} {p:List Order} {f n:Nat} {c w:Int} (hw:c≤w):∀ d,(∀ i,i < d→c≤kI s p f n i)→c≤wD s p f n w d
 | 0,_=>hw
 | d+1,h=>by
  have h1:=NQ (s:=s) (p:=p) (f:=f) (n:=n) hw d fun i hi=>h i (by omega)
  have h2:=h d (Nat.lt_succ_self _)
  rw [Fy]
  omega
def wF (s:ai) (p:List Order) (n:Nat) (L:List Nat) (w:Int):Int:=L.foldl (fun w f=>wD s p f n w s.days.toNat) w
theorem KN {s:ai} {p:List Order} {n:Nat}:∀ (L:List Nat) (w:Int),wF s p n L w≤w∧∀ y ∈ L,∀ i,i < s.days.toNat→wF s p n L w≤kI s p y n i
 | [],w=>⟨Int.le_refl _,fun y hy=>by cases hy⟩
 | y :: L,w=>by
  obtain ⟨h1,h2⟩:=KN (s:=s) (p:=p) (n:=n) L (wD s p y n w s.days.toNat)
  obtain ⟨h3,h4⟩:=NP (s:=s) (p:=p) (f:=y) (n:=n) w s.days.toNat
  have e:wF s p n (y :: L) w=wF s p n L (wD s p y n w s.days.toNat):=rfl
  rw [e]
  refine ⟨by omega,fun z hz i hi=>?_⟩
  rcases List.mem_cons.1 hz with rfl|hz
  ·have:=h4 i hi;omega
  ·exact h2 z hz i hi
theorem NR {s:ai} {p:List Order} {n:Nat} {c:Int}:∀ (L:List Nat) (w:Int),c≤w→(∀ y ∈ L,∀ i,i < s.days.toNat→c≤kI s p y n i)→c≤wF s p n L w
 | [],_,hw,_=>hw
 | y :: L,w,hw,h=>NR L (wD s p y n w s.days.toNat) (NQ hw _ (h y List.mem_cons_self)) fun z hz=>h z (List.mem_cons_of_mem _ hz)
theorem NS {s:ai} {p:List Order} {n:Nat} {L:List Nat} {y:Nat} (hy:y ∈ L) {i:Nat} (hi:i < s.days.toNat):wL s p n L≤kI s p y n i:=(KN L (jS s n)).2 y hy i hi
theorem NT {s:ai} {p:List Order} {n:Nat} {L:List Nat} {c:Int} (hf:c≤jS s n) (h:∀ y ∈ L,∀ i,i < s.days.toNat→c≤kI s p y n i):c≤wL s p n L:=NR L (jS s n) hf h
theorem KO {α:Type} {q:α→Bool} {l:List α}:nR q l < 0 ↔ ∀ x ∈ l,q x=false:=by
 unfold nR
 cases h:l.findIdx? q with
 | none =>
  rw [List.findIdx?_eq_none_iff] at h
  exact ⟨fun _=>h,fun _=>by dsimp only;omega⟩
 | some i =>
  rw [List.findIdx?_eq_some_iff_getElem] at h
  obtain ⟨hi,hq,_⟩:=h
  refine ⟨fun hneg=>by dsimp only at hneg;omega,fun hall=>?_⟩
  rw [hall _ (List.getElem_mem hi)] at hq
  cases hq
theorem wI {s:ai} {p:List Order} {y d:Nat}:zeroAt s p y d < 0 ↔ ∀ n,n < s.needs.length→kI s p y n d ≠ 0:=by
 unfold zeroAt
 rw [KO]
 unfold Fv
 constructor
 ·intro h n hn e
  have:=h (kI s p y n d) (List.mem_map.2 ⟨n,List.mem_range.2 hn,rfl⟩)
  exact of_decide_eq_false this e.symm
 ·intro h x hx
  obtain ⟨n,hn,rfl⟩:=List.mem_map.1 hx
  exact decide_eq_false fun e=>h n (List.mem_range.1 hn) e.symm
theorem rJ {s:ai} {p:List Order} {y:Nat}:jZ s p y=none ↔ ∀ d,d < s.days.toNat→∀ n,n < s.needs.length→kI s p y n d ≠ 0:=by
 constructor
 ·intro h d hd
  rw [←wI]
  unfold jZ at h
  rw [Option.map_eq_none_iff,List.find?_eq_none] at h
  have:=h d (List.mem_range.2 hd)
  rw [decide_eq_true_eq] at this
  omega
 ·exact fun h=>Cp fun i hi=>wI.2 (h i hi)
def Ep (s:ai) (p:List Order) (k:Nat):Bool:=(List.range k).all fun n=>decide (0 < wL s p n (nS s p))
theorem tJ {s:ai} {p:List Order} (h:(ey s p).2=0):Ep s p s.needs.length=jV s p:=by
 have hg:=(jQ h).good
 rw [oR h,Bool.eq_iff_iff]
 unfold Ep fm
 rw [List.all_eq_true,List.all_eq_true]
 constructor
 ·intro h1 y hy
  rw [Option.isNone_iff_eq_none,rJ]
  intro d hd n hn e
  have h2:=of_decide_eq_true (h1 n (List.mem_range.2 hn))
  have h3:=NS (s:=s) (p:=p) (n:=n) (L:=nS s p) hy hd
  omega
 ·intro h1 n hn
  have hn:=List.mem_range.1 hn
  refine decide_eq_true (NT (c:=1) (D3 hg hn).1 fun y hy i hi=>?_)
  have h2:=rJ.1 (Option.isNone_iff_eq_none.1 (h1 y hy)) i hi n hn
  have h3:=(NI hg p y n i).1
  omega
theorem KP {s:ai} (hg:Good s) {p q:List Order} {y z n:Nat} (h:∀ d,D1 p y n d=true→D1 q z n d=true) (d:Nat):kI s p y n d≤kI s q z n d:=by
 unfold kI
 split
 ·rename_i hn
  have h1:=Kh hg hn
  have h2:=D3 hg hn
  exact TeLaw.Ck h1.2 (by omega) h d
 ·exact Int.le_refl _
theorem Er {s:ai} (hg:Good s) {p q:List Order} {n:Nat} (h:∀ z ∈ nS s q,∃ y ∈ nS s p,∀ d,D1 p y n d=true→D1 q z n d=true):wL s p n (nS s p)≤wL s q n (nS s q):=by
 refine NT (KN (nS s p) (jS s n)).1 fun z hz i hi=>?_
 obtain ⟨y,hy,hb⟩:=h z hz
 exact Int.le_trans (NS hy hi) (KP hg hb i)
theorem Es {s:ai} (hg:Good s) {p q:List Order} (hl:q.length=p.length) (h:∀ (i:Nat) (hp:i < p.length) (hq:i < q.length),q[i].day=p[i].day∧∀ x ∈ p[i].aO,x ∈ q[i].aO) (n:Nat):wL s p n (nS s p)≤wL s q n (nS s q):=by
 refine Er hg fun z hz=>⟨z,?_,fun d hd=>?_⟩
 ·unfold nS at hz ⊢
  rw [hl] at hz
  exact hz
 ·rw [rz] at hd ⊢
  obtain ⟨i,hi,q1,q2,q3⟩:=hd
  obtain ⟨e1,e2⟩:=h i hi (by omega)
  exact ⟨i,by omega,e1.trans q1,q2,e2 _ q3⟩
theorem KQ {s:ai} {l m:List Int} (h:l.Perm m):sK s l=sK s m:=by
 unfold sK
 induction h with
 | nil=>rfl
 | cons x _ ih=>simp only [List.map_cons,List.sum_cons];omega
 | swap x y l=>simp only [List.map_cons,List.sum_cons];omega
 | trans _ _ a b=>exact a.trans b
theorem CL:((List.range 4).all fun n=>(List.range (2 ^ n)).all fun f=>(List.range n).all fun k=>f.testBit k || (decide (f+2 ^ k < 2 ^ n) && (aP (f+2 ^ k)).isPerm (aP f++[((k:Nat):Int)])))=true:=by kernel_rfl
theorem Mg {n f k:Nat} (hn:n≤3) (hf:f < 2 ^ n) (hk:k < n) (hb:f.testBit k=false):f+2 ^ k < 2 ^ n∧(aP (f+2 ^ k)).Perm (aP f++[((k:Nat):Int)]):=by
 have h:=List.all_eq_true.1 (List.all_eq_true.1 (List.all_eq_true.1 CL n (List.mem_range.2 (by omega))) f (List.mem_range.2 hf)) k (List.mem_range.2 hk)
 rw [hb,Bool.false_or,Bool.and_eq_true] at h
 exact ⟨of_decide_eq_true h.1,List.isPerm_iff.1 h.2⟩
theorem Mh {s:ai} (hg:Good s):∀ (r f:Nat),f+r=2 ^ s.needs.length→1≤f→f < 2 ^ s.needs.length→sK s (aP f)≤s.load→∃ g ∈ aK s,∀ x ∈ aP f,x ∈ aP g:=by
 intro r
 induction r using Nat.strongRecOn with
 | _ r ih =>
  intro f hr h1 h2 h3
  by_cases hfull:tG s f s.needs.length=true
  ·exact ⟨f,(nU hg).2 ⟨⟨h1,h2⟩,by unfold lK;rw [hfull,decide_eq_true h3];rfl⟩,fun x hx=>hx⟩
  ·unfold tG at hfull
   have hex:∃ k,k < s.needs.length∧f.testBit k=false∧sK s (aP f)+xE s (k:Nat)≤s.load:=by
    apply Classical.byContradiction
    intro hn
    apply hfull
    rw [List.all_eq_true]
    intro k hk
    have hk:=List.mem_range.1 hk
    cases hb:f.testBit k with
    | true=>rfl
    | false =>
     refine decide_eq_true ?_
     apply Classical.byContradiction
     intro hlt
     exact hn ⟨k,hk,hb,by omega⟩
   obtain ⟨k,hk,hb,hw⟩:=hex
   obtain ⟨u1,u2⟩:=Mg hg.len.2 h2 hk hb
   have hpos:0 < 2 ^ k:=Nat.two_pow_pos k
   obtain ⟨g,hgm,hsub⟩:=ih (r - 2 ^ k) (by omega) (f+2 ^ k) (by omega) (by omega) u1 (by rw [KQ u2,Ct];exact hw)
   exact ⟨g,hgm,fun x hx=>hsub x (u2.mem_iff.2 (List.mem_append_left _ hx))⟩
theorem Mi {c:List Int} {n:Nat} (hn:n≤3) (hl:c.length≤n) (h1:1≤c.length) (hb:∀ x ∈ c,0≤x∧x < (n:Nat)) (ha:∀ (i j:Nat) (hi:i < c.length) (hj:j < c.length),i < j→c[i] < c[j]):∃ f:Nat,1≤f∧f < 2 ^ n∧c=aP f:=by
 have pw:∀ m:Nat,m < n→2 ^ (m+1)≤2 ^ n:=fun m hm=>Nat.pow_le_pow_right (by decide) hm
 match c,hl,h1,hb,ha with
 | [a],hl,_,hb,_ =>
  have ha:=hb a List.mem_cons_self
  have p:=pw a.toNat (by omega)
  have hc:a=0∨a=1∨a=2:=by omega
  rcases hc with rfl|rfl|rfl
  ·exact ⟨1,by decide,Nat.lt_of_lt_of_le (by decide) p,rfl⟩
  ·exact ⟨2,by decide,Nat.lt_of_lt_of_le (by decide) p,rfl⟩
  ·exact ⟨4,by decide,Nat.lt_of_lt_of_le (by decide) p,rfl⟩
 | [a,b],hl,_,hb,hasc =>
  have ha:=hb a List.mem_cons_self
  have hb':=hb b (List.mem_cons_of_mem _ List.mem_cons_self)
  have hab:a < b:=hasc 0 1 (by simp) (by simp) (by decide)
  have p:=pw b.toNat (by omega)
  have hc:(a=0∧b=1)∨(a=0∧b=2)∨(a=1∧b=2):=by omega
  rcases hc with ⟨rfl,rfl⟩|⟨rfl,rfl⟩|⟨rfl,rfl⟩
  ·exact ⟨3,by decide,Nat.lt_of_lt_of_le (by decide) p,rfl⟩
  ·exact ⟨5,by decide,Nat.lt_of_lt_of_le (by decide) p,rfl⟩
  ·exact ⟨6,by decide,Nat.lt_of_lt_of_le (by decide) p,rfl⟩
 | [a,b,d],hl,_,hb,hasc =>
  have ha:=hb a List.mem_cons_self
  have hd:=hb d (List.mem_cons_of_mem _ (List.mem_cons_of_mem _ List.mem_cons_self))
  have hab:a < b:=hasc 0 1 (by simp) (by simp) (by decide)
  have hbd:b < d:=hasc 1 2 (by simp) (by simp) (by decide)
  have p:=pw d.toNat (by omega)
  have e1:a=0:=by omega
  have e2:b=1:=by omega
  have e3:d=2:=by omega
  subst e1 e2 e3
  exact ⟨7,by decide,Nat.lt_of_lt_of_le (by decide) p,rfl⟩
 | _ :: _ :: _ :: _ :: _,hl,_,_,_=>simp only [List.length_cons] at hl;omega
 | [],_,h1,_,_=>simp at h1
theorem Et {s:ai} (hg:Good s) {o:Order} (ho:iK s o):∃ g ∈ aK s,∀ x ∈ o.aO,x ∈ aP g:=by
 obtain ⟨f,h1,h2,h3⟩:=Mi hg.len.2 ho.len ho.some ho.aO ho.DX
 have hl:=ho.load
 rw [h3] at hl ⊢
 exact Mh hg (2 ^ s.needs.length - f) f (by omega) h1 h2 hl
theorem yM {s:ai} (hg:Good s):∀ q:List Order,(∀ o ∈ q,iK s o)→∃ q':List Order,q'.length=q.length∧q'.map (·.day)=q.map (·.day)∧(∀ o ∈ q',∃ f ∈ aK s,o.aO=aP f)∧(∀ (i:Nat) (hp:i < q.length) (hq:i < q'.length),q'[i].day=q[i].day∧∀ x ∈ q[i].aO,x ∈ q'[i].aO)
 | [],_=>⟨[],rfl,rfl,(fun o ho=>by cases ho),fun i hi=>absurd hi (Nat.not_lt_zero _)⟩
 | o :: q,h=>by
  obtain ⟨q',h1,h2,h3,h4⟩:=yM hg q fun x hx=>h x (List.mem_cons_of_mem _ hx)
  obtain ⟨g,hg1,hg2⟩:=Et hg (h o List.mem_cons_self)
  refine ⟨⟨o.day,aP g⟩ :: q',by simp [h1],by simp [h2],fun x hx=>?_,fun i hi hi'=>?_⟩
  ·rcases List.mem_cons.1 hx with rfl|hx
   ·exact ⟨g,hg1,rfl⟩
   ·exact h3 x hx
  ·cases i with
   | zero=>exact ⟨rfl,hg2⟩
   | succ i=>exact h4 i (by simpa using hi) (by simpa using hi')
theorem yN {s:ai} (hc:(i7 s).2.2=0) {q:List Order} (h8:q.length≤8) (hd:∀ o ∈ q,0≤o.day∧o.day < s.days) (ha:(q.map (·.day)).Pairwise (· < ·)) (hf:∀ o ∈ q,∃ f ∈ aK s,o.aO=aP f):(ey s q).2=0:=by
 refine sQ hc h8 (fun o ho=>?_) (List.pairwise_map.1 ha)
 obtain ⟨f,h1,h2⟩:=hf o ho
 have:=CC (kW hc) h1 (hd o ho)
 rw [←h2] at this
 exact this
theorem KR {s:ai} {q:List Order} (h:jP s q):(q.map (·.day)).Pairwise (· < ·):=by
 rw [List.pairwise_map,List.pairwise_iff_getElem]
 exact fun i j hi hj hij=>h.DX i j hi hj hij
theorem AA {s:ai} {p q:List Order} (hp:(ey s p).2=0) (hq:(ey s q).2=0) (hl:q.length=p.length) (h:∀ (i:Nat) (hp:i < p.length) (hq:i < q.length),q[i].day=p[i].day∧∀ x ∈ p[i].aO,x ∈ q[i].aO) (hh:jV s p=true):jV s q=true:=by
 rw [←tJ hp] at hh
 rw [←tJ hq]
 unfold Ep at hh ⊢
 rw [List.all_eq_true] at hh ⊢
 intro n hn
 have h1:=of_decide_eq_true (hh n hn)
 have h2:=Es (jQ hp).good hl h n
 exact decide_eq_true (by omega)
theorem uq {s:ai} (hg:Good s) {most y:Nat}:y ∈ rC s 0 0 0 (most:Int) ↔ y=0:=by
 rw [KM hg]
 constructor
 ·rintro ⟨b,h1,_,_,h4⟩
  obtain rfl:b=[]:=List.eq_nil_of_length_eq_zero h1
  exact h4.symm
 ·rintro rfl
  exact ⟨[],rfl,Nat.zero_le _,rfl,rfl⟩
theorem yO {s:ai} (hg:Good s):fm s [] 0 0 s.fail=fm s [] 0 0 0:=by
 have hf:=hg.fail
 have e:s.fail=((s.fail.toNat:Nat):Int):=by omega
 rw [e,Bool.eq_iff_iff]
 unfold fm
 rw [List.all_eq_true,List.all_eq_true]
 constructor
 ·intro h y hy
  have hy:=(uq (most:=0) hg).1 hy
  exact h y ((uq hg).2 hy)
 ·intro h y hy
  have hy:=(uq hg).1 hy
  exact h y ((uq (most:=0) hg).2 hy)
theorem qh {days:List Int} (hd:days.Pairwise (· < ·)):∀ (e:List Int) (fr:Nat),fr≤days.length→e.Pairwise (· < ·)→(∀ x ∈ e,∃ i,fr≤i∧∃ h:i < days.length,days[i]=x)→e.length+fr≤days.length
 | [],fr,h,_,_=>by simpa using h
 | x :: e,fr,h,ha,hm=>by
  obtain ⟨i,h1,h2,rfl⟩:=hm x List.mem_cons_self
  have:=qh hd e (i+1) h2 (List.pairwise_cons.1 ha).2 fun y hy=>by
   obtain ⟨j,j1,j2,rfl⟩:=hm y (List.mem_cons_of_mem _ hy)
   refine ⟨j,?_,j2,rfl⟩
   have hlt:=(List.pairwise_cons.1 ha).1 _ hy
   apply Classical.byContradiction
   intro hn
   by_cases hij:j=i
   ·subst hij;omega
   ·have:=List.pairwise_iff_getElem.1 hd j i j2 h2 (by omega)
    omega
  rw [List.length_cons]
  omega
theorem wJ {s:ai} {days:List Int} (hd:days.Pairwise (· < ·)):∀ (m fr:Nat) (ds:List Int),di s days m fr ds=none→∀ e:List Int,e.length=m→e.Pairwise (· < ·)→(∀ x ∈ e,∃ i,fr≤i∧∃ h:i < days.length,days[i]=x)→cz s (ds++e) []=none
 | 0,fr,ds,h,e,hl,_,_=>by
  obtain rfl:e=[]:=List.eq_nil_of_length_eq_zero hl
  rw [List.append_nil]
  exact h
 | m+1,fr,ds,h,[],hl,_,_=>by simp at hl
 | m+1,fr,ds,h,x :: e,hl,ha,hm=>by
  obtain ⟨i,h1,h2,rfl⟩:=hm x List.mem_cons_self
  have hnext:∀ y ∈ e,∃ j,i+1≤j∧∃ h:j < days.length,days[j]=y:=fun y hy=>by
   obtain ⟨j,j1,j2,rfl⟩:=hm y (List.mem_cons_of_mem _ hy)
   refine ⟨j,?_,j2,rfl⟩
   have hlt:=(List.pairwise_cons.1 ha).1 _ hy
   apply Classical.byContradiction
   intro hn
   by_cases hij:j=i
   ·subst hij;omega
   ·have:=List.pairwise_iff_getElem.1 hd j i j2 h2 (by omega)
    omega
  have hlen:=qh hd e (i+1) h2 (List.pairwise_cons.1 ha).2 hnext
  rw [List.length_cons] at hl
  rw [di,List.findSome?_eq_none_iff] at h
  have h:=h i (List.mem_range.2 (by omega))
  rw [if_neg (by omega),List.getElem?_eq_getElem h2] at h
  have:=wJ hd m (i+1) (ds++[days[i]]) h e (by omega) (List.pairwise_cons.1 ha).2 hnext
  rw [List.append_cons]
  exact this
theorem wK {s:ai} {days:List Int} (hd:days.Pairwise (· < ·)) (hr:∀ x ∈ days,0≤x∧x < s.days) {p:List Order}:∀ (m fr:Nat) (ds:List Int),KH s days ds fr→di s days m fr ds=some p→∃ D:List Int,cz s D []=some p∧D.Pairwise (· < ·)∧(∀ x ∈ D,0≤x∧x < s.days)∧∀ x ∈ D,x ∈ ds∨x ∈ days
 | 0,fr,ds,hk,h=>⟨ds,h,hk.DX,hk.day,fun x hx=>.inl hx⟩
 | m+1,fr,ds,hk,h=>by
  rw [di,List.findSome?_eq_some_iff] at h
  obtain ⟨l1,i,l2,_,h,_⟩:=h
  split at h
  ·cases h
  ·rename_i hfr
   by_cases hi:i < days.length
   ·rw [List.getElem?_eq_getElem hi] at h
    obtain ⟨D,h1,h2,h3,h4⟩:=wK hd hr m (i+1) (ds++[days[i]]) (hk.snoc hd hr (by omega) hi) h
    refine ⟨D,h1,h2,h3,fun x hx=>?_⟩
    rcases h4 x hx with h|h
    ·rcases List.mem_append.1 h with h|h
     ·exact .inl h
     ·rw [List.mem_singleton.1 h];exact .inr (List.getElem_mem hi)
    ·exact .inr h
   ·rw [List.getElem?_eq_none (by omega)] at h
    cases h
theorem CM {s:ai} (hc:(i7 s).2.2=0) {p:List Order} (h:iZ s s.possible=some p):(ey s p).2=0∧p.length≤6∧(∀ o ∈ p,o.day ∈ s.possible)∧jV s p=true:=by
 have hg:=kW hc
 have hm:=hg.many
 obtain ⟨p1,p2⟩:=rF hg
 have hdp:s.possible.Pairwise (· < ·):=List.pairwise_iff_getElem.2 fun i j hi hj hij=>p2 i j hi hj hij
 have hdr:∀ x ∈ s.possible,0≤x∧x < s.days:=fun x hx=>by obtain ⟨i,hi,rfl⟩:=List.mem_iff_getElem.1 hx;exact p1 i hi
 unfold iZ at h
 split at h
 ·rename_i hh
  cases h
  have hz:(ey s []).2=0:=sQ hc (Nat.zero_le _) (fun o ho=>by cases ho) .nil
  exact ⟨hz,Nat.zero_le _,(fun o ho=>by cases ho),by rw [oR hz,yO hg];exact hh⟩
 ·rw [List.findSome?_eq_some_iff] at h
  obtain ⟨l1,m,l2,e,h,_⟩:=h
  have hml:m < s.possible.length:=List.mem_range.1 (by rw [e];simp)
  have hlen:=oQ h
  obtain ⟨D,h1,h2,h3,h4⟩:=wK hdp hdr (m+1) 0 [] ⟨Nat.le_refl _,.nil,(fun x hx=>by cases hx),fun x hx=>by cases hx⟩ h
  obtain ⟨q,e2,k2,k3,k4⟩:=jU h1
  rw [List.nil_append] at e2
  subst e2
  have hin:∀ o ∈ p,o.day ∈ D:=fun o ho=>by rw [←k2];exact List.mem_map.2 ⟨o,ho,rfl⟩
  rw [List.length_nil] at hlen
  have hz:(ey s p).2=0:=yN hc (by omega) (fun o ho=>h3 _ (hin o ho)) (by rw [k2];exact h2) k3
  refine ⟨hz,by omega,fun o ho=>?_,by rw [oR hz];exact k4⟩
  rcases h4 _ (hin o ho) with h|h
  ·cases h
  ·exact h
end Go.Proofs.YtpeogffeoehboaaDoor
