/-
  Contracts of the program's functions and of the document's. Lemmas alone; their conditions stand in them.
-/
import Derived.Test.YtpeogffeoehboaaDoorK7
import Derived.Test.YtpeogffeoehboaaDoorK8
import Derived.Test.YtpeogffeoehboaaDoorK11
import Derived.Test.YtpeogffeoehboaaDoorK12
import Derived.Test.YtpeogffeoehboaaDoorK13
open Go Go.RM
namespace Go.Proofs.YtpeogffeoehboaaDoor
set_option maxRecDepth 100000
theorem ox {s:ai} {p:List Order} (h:(cU s p).2=0):iR s p=eR s p 0 0 s.fail:=by
 rw [Bool.eq_iff_iff,Cb]
 unfold iR tq nB
 rw [if_neg (by omega),decide_eq_true_eq]
 constructor
 ·intro h
  apply Classical.byContradiction
  intro hn
  rw [if_neg hn] at h
  cases h
 ·intro h
  rw [if_pos h]
theorem MI {s:ai} {p:List Order} {f n:Nat} (w:Int):∀ d,wD s p f n w d≤w∧∀ i,i < d→wD s p f n w d≤kC s p f n i
 | 0=>⟨Int.le_refl _,fun i hi=>absurd hi (Nat.not_lt_zero _)⟩
 | d+1=>by
  obtain ⟨h1,h2⟩:=MI (s:=s) (p:=p) (f:=f) (n:=n) w d
  rw [EE]
  refine ⟨by omega,fun i hi=>?_⟩
  by_cases e:i=d
  ·subst e;omega
  ·have:=h2 i (by omega);omega
theorem MJ {s:ai} {p:List Order} {f n:Nat} {c w:Int} (hw:c≤w):∀ d,(∀ i,i < d→c≤kC s p f n i)→c≤wD s p f n w d
 | 0,_=>hw
 | d+1,h=>by
  have h1:=MJ (s:=s) (p:=p) (f:=f) (n:=n) hw d fun i hi=>h i (by omega)
  have h2:=h d (Nat.lt_succ_self _)
  rw [EE]
  omega
def wF (s:ai) (p:List Order) (n:Nat) (L:List Nat) (w:Int):Int:=L.foldl (fun w f=>wD s p f n w s.days.toNat) w
theorem JW {s:ai} {p:List Order} {n:Nat}:∀ (L:List Nat) (w:Int),wF s p n L w≤w∧∀ y ∈ L,∀ i,i < s.days.toNat→wF s p n L w≤kC s p y n i
 | [],w=>⟨Int.le_refl _,fun y hy=>by cases hy⟩
 | y :: L,w=>by
  obtain ⟨h1,h2⟩:=JW (s:=s) (p:=p) (n:=n) L (wD s p y n w s.days.toNat)
  obtain ⟨h3,h4⟩:=MI (s:=s) (p:=p) (f:=y) (n:=n) w s.days.toNat
  have e:wF s p n (y :: L) w=wF s p n L (wD s p y n w s.days.toNat):=rfl
  rw [e]
  refine ⟨by omega,fun z hz i hi=>?_⟩
  rcases List.mem_cons.1 hz with rfl|hz
  ·have:=h4 i hi;omega
  ·exact h2 z hz i hi
theorem MK {s:ai} {p:List Order} {n:Nat} {c:Int}:∀ (L:List Nat) (w:Int),c≤w→(∀ y ∈ L,∀ i,i < s.days.toNat→c≤kC s p y n i)→c≤wF s p n L w
 | [],_,hw,_=>hw
 | y :: L,w,hw,h=>MK L (wD s p y n w s.days.toNat) (MJ hw _ (h y List.mem_cons_self)) fun z hz=>h z (List.mem_cons_of_mem _ hz)
theorem ML {s:ai} {p:List Order} {n:Nat} {L:List Nat} {y:Nat} (hy:y ∈ L) {i:Nat} (hi:i < s.days.toNat):wL s p n L≤kC s p y n i:=(JW L (jL s n)).2 y hy i hi
theorem MM {s:ai} {p:List Order} {n:Nat} {L:List Nat} {c:Int} (hf:c≤jL s n) (h:∀ y ∈ L,∀ i,i < s.days.toNat→c≤kC s p y n i):c≤wL s p n L:=MK L (jL s n) hf h
theorem JX {α:Type} {q:α→Bool} {l:List α}:ny q l < 0 ↔ ∀ x ∈ l,q x=false:=by
 unfold ny
 cases h:l.findIdx? q with
 | none =>
  rw [List.findIdx?_eq_none_iff] at h
  exact ⟨fun _=>h,fun _=>by dsimp only;omega⟩
 | some i =>
  rw [List.findIdx?_eq_some_iff_getElem] at h
  obtain ⟨hi,hq,_⟩:=h
  refine ⟨fun hneg=>by dsimp only at hneg;omega,fun hall=>?_⟩
  rw [hall _ (List.getElem_mem hi)] at hq
  cases hq
theorem vN {s:ai} {p:List Order} {y d:Nat}:zeroAt s p y d < 0 ↔ ∀ n,n < s.needs.length→kC s p y n d ≠ 0:=by
 unfold zeroAt
 rw [JX]
 unfold EB
 constructor
 ·intro h n hn e
  have:=h (kC s p y n d) (List.mem_map.2 ⟨n,List.mem_range.2 hn,rfl⟩)
  exact of_decide_eq_false this e.symm
 ·intro h x hx
  obtain ⟨n,hn,rfl⟩:=List.mem_map.1 hx
  exact decide_eq_false fun e=>h n (List.mem_range.1 hn) e.symm
theorem qL {s:ai} {p:List Order} {y:Nat}:jT s p y=none ↔ ∀ d,d < s.days.toNat→∀ n,n < s.needs.length→kC s p y n d ≠ 0:=by
 constructor
 ·intro h d hd
  rw [←vN]
  unfold jT at h
  rw [Option.map_eq_none_iff,List.find?_eq_none] at h
  have:=h d (List.mem_range.2 hd)
  rw [decide_eq_true_eq] at this
  omega
 ·exact fun h=>BO fun i hi=>vN.2 (h i hi)
def DI (s:ai) (p:List Order) (k:Nat):Bool:=(List.range k).all fun n=>decide (0 < wL s p n (nB s p))
theorem sL {s:ai} {p:List Order} (h:(cU s p).2=0):DI s p s.needs.length=iR s p:=by
 have hg:=(jJ h).good
 rw [ox h,Bool.eq_iff_iff]
 unfold DI eR
 rw [List.all_eq_true,List.all_eq_true]
 constructor
 ·intro h1 y hy
  rw [Option.isNone_iff_eq_none,qL]
  intro d hd n hn e
  have h2:=of_decide_eq_true (h1 n (List.mem_range.2 hn))
  have h3:=ML (s:=s) (p:=p) (n:=n) (L:=nB s p) hy hd
  omega
 ·intro h1 n hn
  have hn:=List.mem_range.1 hn
  refine decide_eq_true (MM (c:=1) (Dk hg hn).1 fun y hy i hi=>?_)
  have h2:=qL.1 (Option.isNone_iff_eq_none.1 (h1 y hy)) i hi n hn
  have h3:=(MD hg p y n i).1
  omega
theorem JY {s:ai} (hg:Good s) {p q:List Order} {y z n:Nat} (h:∀ d,Di p y n d=true→Di q z n d=true) (d:Nat):kC s p y n d≤kC s q z n d:=by
 unfold kC
 split
 ·rename_i hn
  have h1:=Ju hg hn
  have h2:=Dk hg hn
  exact TeLaw.BK h1.2 (by omega) h d
 ·exact Int.le_refl _
theorem DJ {s:ai} (hg:Good s) {p q:List Order} {n:Nat} (h:∀ z ∈ nB s q,∃ y ∈ nB s p,∀ d,Di p y n d=true→Di q z n d=true):wL s p n (nB s p)≤wL s q n (nB s q):=by
 refine MM (JW (nB s p) (jL s n)).1 fun z hz i hi=>?_
 obtain ⟨y,hy,hb⟩:=h z hz
 exact Int.le_trans (ML hy hi) (JY hg hb i)
theorem DK {s:ai} (hg:Good s) {p q:List Order} (hl:q.length=p.length) (h:∀ (i:Nat) (hp:i < p.length) (hq:i < q.length),q[i].day=p[i].day∧∀ x ∈ p[i].aG,x ∈ q[i].aG) (n:Nat):wL s p n (nB s p)≤wL s q n (nB s q):=by
 refine DJ hg fun z hz=>⟨z,?_,fun d hd=>?_⟩
 ·unfold nB at hz ⊢
  rw [hl] at hz
  exact hz
 ·rw [qB] at hd ⊢
  obtain ⟨i,hi,q1,q2,q3⟩:=hd
  obtain ⟨e1,e2⟩:=h i hi (by omega)
  exact ⟨i,by omega,e1.trans q1,q2,e2 _ q3⟩
end Go.Proofs.YtpeogffeoehboaaDoor
open Go Go.RM
namespace Go.Proofs.YtpeogffeoehboaaDoor
set_option maxRecDepth 100000
theorem JZ {s:ai} {l m:List Int} (h:l.Perm m):oO s l=oO s m:=by
 unfold oO
 induction h with
 | nil=>rfl
 | cons x _ ih=>simp only [List.map_cons,List.sum_cons];omega
 | swap x y l=>simp only [List.map_cons,List.sum_cons];omega
 | trans _ _ a b=>exact a.trans b
theorem Cc:((List.range 4).all fun n=>(List.range (2 ^ n)).all fun f=>(List.range n).all fun k=>f.testBit k || (decide (f+2 ^ k < 2 ^ n) && (aL (f+2 ^ k)).isPerm (aL f++[((k:Nat):Int)])))=true:=by kernel_rfl
theorem K8 {n f k:Nat} (hn:n≤3) (hf:f < 2 ^ n) (hk:k < n) (hb:f.testBit k=false):f+2 ^ k < 2 ^ n∧(aL (f+2 ^ k)).Perm (aL f++[((k:Nat):Int)]):=by
 have h:=List.all_eq_true.1 (List.all_eq_true.1 (List.all_eq_true.1 Cc n (List.mem_range.2 (by omega))) f (List.mem_range.2 hf)) k (List.mem_range.2 hk)
 rw [hb,Bool.false_or,Bool.and_eq_true] at h
 exact ⟨of_decide_eq_true h.1,List.isPerm_iff.1 h.2⟩
theorem K9 {s:ai} (hg:Good s):∀ (r f:Nat),f+r=2 ^ s.needs.length→1≤f→f < 2 ^ s.needs.length→oO s (aL f)≤s.load→∃ g ∈ aI s,∀ x ∈ aL f,x ∈ aL g:=by
 intro r
 induction r using Nat.strongRecOn with
 | _ r ih =>
  intro f hr h1 h2 h3
  by_cases hfull:sJ s f s.needs.length=true
  ·exact ⟨f,(nE hg).2 ⟨⟨h1,h2⟩,by unfold lC;rw [hfull,decide_eq_true h3];rfl⟩,fun x hx=>hx⟩
  ·unfold sJ at hfull
   have hex:∃ k,k < s.needs.length∧f.testBit k=false∧oO s (aL f)+wP s (k:Nat)≤s.load:=by
    apply Classical.byContradiction
    intro hn
    apply hfull
    rw [List.all_eq_true]
    intro k hk
    have hk:=List.mem_range.1 hk
    cases hb:f.testBit k with
    | true=>rfl
    | false =>
     refine decide_eq_true ?_
     apply Classical.byContradiction
     intro hlt
     exact hn ⟨k,hk,hb,by omega⟩
   obtain ⟨k,hk,hb,hw⟩:=hex
   obtain ⟨u1,u2⟩:=K8 hg.len.2 h2 hk hb
   have hpos:0 < 2 ^ k:=Nat.two_pow_pos k
   obtain ⟨g,hgm,hsub⟩:=ih (r - 2 ^ k) (by omega) (f+2 ^ k) (by omega) (by omega) u1 (by rw [JZ u2,BT];exact hw)
   exact ⟨g,hgm,fun x hx=>hsub x (u2.mem_iff.2 (List.mem_append_left _ hx))⟩
theorem La {c:List Int} {n:Nat} (hn:n≤3) (hl:c.length≤n) (h1:1≤c.length) (hb:∀ x ∈ c,0≤x∧x < (n:Nat)) (ha:∀ (i j:Nat) (hi:i < c.length) (hj:j < c.length),i < j→c[i] < c[j]):∃ f:Nat,1≤f∧f < 2 ^ n∧c=aL f:=by
 have pw:∀ m:Nat,m < n→2 ^ (m+1)≤2 ^ n:=fun m hm=>Nat.pow_le_pow_right (by decide) hm
 match c,hl,h1,hb,ha with
 | [a],hl,_,hb,_ =>
  have ha:=hb a List.mem_cons_self
  have p:=pw a.toNat (by omega)
  have hc:a=0∨a=1∨a=2:=by omega
  rcases hc with rfl|rfl|rfl
  ·exact ⟨1,by decide,Nat.lt_of_lt_of_le (by decide) p,rfl⟩
  ·exact ⟨2,by decide,Nat.lt_of_lt_of_le (by decide) p,rfl⟩
  ·exact ⟨4,by decide,Nat.lt_of_lt_of_le (by decide) p,rfl⟩
 | [a,b],hl,_,hb,hasc =>
  have ha:=hb a List.mem_cons_self
  have hb':=hb b (List.mem_cons_of_mem _ List.mem_cons_self)
  have hab:a < b:=hasc 0 1 (by simp) (by simp) (by decide)
  have p:=pw b.toNat (by omega)
  have hc:(a=0∧b=1)∨(a=0∧b=2)∨(a=1∧b=2):=by omega
  rcases hc with ⟨rfl,rfl⟩|⟨rfl,rfl⟩|⟨rfl,rfl⟩
  ·exact ⟨3,by decide,Nat.lt_of_lt_of_le (by decide) p,rfl⟩
  ·exact ⟨5,by decide,Nat.lt_of_lt_of_le (by decide) p,rfl⟩
  ·exact ⟨6,by decide,Nat.lt_of_lt_of_le (by decide) p,rfl⟩
 | [a,b,d],hl,_,hb,hasc =>
  have ha:=hb a List.mem_cons_self
  have hd:=hb d (List.mem_cons_of_mem _ (List.mem_cons_of_mem _ List.mem_cons_self))
  have hab:a < b:=hasc 0 1 (by simp) (by simp) (by decide)
  have hbd:b < d:=hasc 1 2 (by simp) (by simp) (by decide)
  have p:=pw d.toNat (by omega)
  have e1:a=0:=by omega
  have e2:b=1:=by omega
  have e3:d=2:=by omega
  subst e1 e2 e3
  exact ⟨7,by decide,Nat.lt_of_lt_of_le (by decide) p,rfl⟩
 | _ :: _ :: _ :: _ :: _,hl,_,_,_=>simp only [List.length_cons] at hl;omega
 | [],_,h1,_,_=>simp at h1
theorem DL {s:ai} (hg:Good s) {o:Order} (ho:ir s o):∃ g ∈ aI s,∀ x ∈ o.aG,x ∈ aL g:=by
 obtain ⟨f,h1,h2,h3⟩:=La hg.len.2 ho.len ho.some ho.aG ho.Df
 have hl:=ho.load
 rw [h3] at hl ⊢
 exact K9 hg (2 ^ s.needs.length - f) f (by omega) h1 h2 hl
theorem x9 {s:ai} (hg:Good s):∀ q:List Order,(∀ o ∈ q,ir s o)→∃ q':List Order,q'.length=q.length∧q'.map (·.day)=q.map (·.day)∧(∀ o ∈ q',∃ f ∈ aI s,o.aG=aL f)∧(∀ (i:Nat) (hp:i < q.length) (hq:i < q'.length),q'[i].day=q[i].day∧∀ x ∈ q[i].aG,x ∈ q'[i].aG)
 | [],_=>⟨[],rfl,rfl,(fun o ho=>by cases ho),fun i hi=>absurd hi (Nat.not_lt_zero _)⟩
 | o :: q,h=>by
  obtain ⟨q',h1,h2,h3,h4⟩:=x9 hg q fun x hx=>h x (List.mem_cons_of_mem _ hx)
  obtain ⟨g,hg1,hg2⟩:=DL hg (h o List.mem_cons_self)
  refine ⟨⟨o.day,aL g⟩ :: q',by simp [h1],by simp [h2],fun x hx=>?_,fun i hi hi'=>?_⟩
  ·rcases List.mem_cons.1 hx with rfl|hx
   ·exact ⟨g,hg1,rfl⟩
   ·exact h3 x hx
  ·cases i with
   | zero=>exact ⟨rfl,hg2⟩
   | succ i=>exact h4 i (by simpa using hi) (by simpa using hi')
theorem ya {s:ai} (hc:(iM s).2.2=0) {q:List Order} (h8:q.length≤8) (hd:∀ o ∈ q,0≤o.day∧o.day < s.days) (ha:(q.map (·.day)).Pairwise (· < ·)) (hf:∀ o ∈ q,∃ f ∈ aI s,o.aG=aL f):(cU s q).2=0:=by
 refine rT hc h8 (fun o ho=>?_) (List.pairwise_map.1 ha)
 obtain ⟨f,h1,h2⟩:=hf o ho
 have:=B3 (mg hc) h1 (hd o ho)
 rw [←h2] at this
 exact this
theorem J0 {s:ai} {q:List Order} (h:kB s q):(q.map (·.day)).Pairwise (· < ·):=by
 rw [List.pairwise_map,List.pairwise_iff_getElem]
 exact fun i j hi hj hij=>h.Df i j hi hj hij
theorem zR {s:ai} {p q:List Order} (hp:(cU s p).2=0) (hq:(cU s q).2=0) (hl:q.length=p.length) (h:∀ (i:Nat) (hp:i < p.length) (hq:i < q.length),q[i].day=p[i].day∧∀ x ∈ p[i].aG,x ∈ q[i].aG) (hh:iR s p=true):iR s q=true:=by
 rw [←sL hp] at hh
 rw [←sL hq]
 unfold DI at hh ⊢
 rw [List.all_eq_true] at hh ⊢
 intro n hn
 have h1:=of_decide_eq_true (hh n hn)
 have h2:=DK (jJ hp).good hl h n
 exact decide_eq_true (by omega)
theorem tu {s:ai} (hg:Good s) {most y:Nat}:y ∈ qE s 0 0 0 (most:Int) ↔ y=0:=by
 rw [JV hg]
 constructor
 ·rintro ⟨b,h1,_,_,h4⟩
  obtain rfl:b=[]:=List.eq_nil_of_length_eq_zero h1
  exact h4.symm
 ·rintro rfl
  exact ⟨[],rfl,Nat.zero_le _,rfl,rfl⟩
theorem yb {s:ai} (hg:Good s):eR s [] 0 0 s.fail=eR s [] 0 0 0:=by
 have hf:=hg.fail
 have e:s.fail=((s.fail.toNat:Nat):Int):=by omega
 rw [e,Bool.eq_iff_iff]
 unfold eR
 rw [List.all_eq_true,List.all_eq_true]
 constructor
 ·intro h y hy
  have hy:=(tu (most:=0) hg).1 hy
  exact h y ((tu hg).2 hy)
 ·intro h y hy
  have hy:=(tu hg).1 hy
  exact h y ((tu (most:=0) hg).2 hy)
theorem pI {days:List Int} (hd:days.Pairwise (· < ·)):∀ (e:List Int) (fr:Nat),fr≤days.length→e.Pairwise (· < ·)→(∀ x ∈ e,∃ i,fr≤i∧∃ h:i < days.length,days[i]=x)→e.length+fr≤days.length
 | [],fr,h,_,_=>by simpa using h
 | x :: e,fr,h,ha,hm=>by
  obtain ⟨i,h1,h2,rfl⟩:=hm x List.mem_cons_self
  have:=pI hd e (i+1) h2 (List.pairwise_cons.1 ha).2 fun y hy=>by
   obtain ⟨j,j1,j2,rfl⟩:=hm y (List.mem_cons_of_mem _ hy)
   refine ⟨j,?_,j2,rfl⟩
   have hlt:=(List.pairwise_cons.1 ha).1 _ hy
   apply Classical.byContradiction
   intro hn
   by_cases hij:j=i
   ·subst hij;omega
   ·have:=List.pairwise_iff_getElem.1 hd j i j2 h2 (by omega)
    omega
  rw [List.length_cons]
  omega
theorem vO {s:ai} {days:List Int} (hd:days.Pairwise (· < ·)):∀ (m fr:Nat) (ds:List Int),cH s days m fr ds=none→∀ e:List Int,e.length=m→e.Pairwise (· < ·)→(∀ x ∈ e,∃ i,fr≤i∧∃ h:i < days.length,days[i]=x)→ct s (ds++e) []=none
 | 0,fr,ds,h,e,hl,_,_=>by
  obtain rfl:e=[]:=List.eq_nil_of_length_eq_zero hl
  rw [List.append_nil]
  exact h
 | m+1,fr,ds,h,[],hl,_,_=>by simp at hl
 | m+1,fr,ds,h,x :: e,hl,ha,hm=>by
  obtain ⟨i,h1,h2,rfl⟩:=hm x List.mem_cons_self
  have hnext:∀ y ∈ e,∃ j,i+1≤j∧∃ h:j < days.length,days[j]=y:=fun y hy=>by
   obtain ⟨j,j1,j2,rfl⟩:=hm y (List.mem_cons_of_mem _ hy)
   refine ⟨j,?_,j2,rfl⟩
   have hlt:=(List.pairwise_cons.1 ha).1 _ hy
   apply Classical.byContradiction
   intro hn
   by_cases hij:j=i
   ·subst hij;omega
   ·have:=List.pairwise_iff_getElem.1 hd j i j2 h2 (by omega)
    omega
  have hlen:=pI hd e (i+1) h2 (List.pairwise_cons.1 ha).2 hnext
  rw [List.length_cons] at hl
  rw [cH,List.findSome?_eq_none_iff] at h
  have h:=h i (List.mem_range.2 (by omega))
  rw [if_neg (by omega),List.getElem?_eq_getElem h2] at h
  have:=vO hd m (i+1) (ds++[days[i]]) h e (by omega) (List.pairwise_cons.1 ha).2 hnext
  rw [List.append_cons]
  exact this
theorem vP {s:ai} {days:List Int} (hd:days.Pairwise (· < ·)) (hr:∀ x ∈ days,0≤x∧x < s.days) {p:List Order}:∀ (m fr:Nat) (ds:List Int),JQ s days ds fr→cH s days m fr ds=some p→∃ D:List Int,ct s D []=some p∧D.Pairwise (· < ·)∧(∀ x ∈ D,0≤x∧x < s.days)∧∀ x ∈ D,x ∈ ds∨x ∈ days
 | 0,fr,ds,hk,h=>⟨ds,h,hk.Df,hk.day,fun x hx=>.inl hx⟩
 | m+1,fr,ds,hk,h=>by
  rw [cH,List.findSome?_eq_some_iff] at h
  obtain ⟨l1,i,l2,_,h,_⟩:=h
  split at h
  ·cases h
  ·rename_i hfr
   by_cases hi:i < days.length
   ·rw [List.getElem?_eq_getElem hi] at h
    obtain ⟨D,h1,h2,h3,h4⟩:=vP hd hr m (i+1) (ds++[days[i]]) (hk.snoc hd hr (by omega) hi) h
    refine ⟨D,h1,h2,h3,fun x hx=>?_⟩
    rcases h4 x hx with h|h
    ·rcases List.mem_append.1 h with h|h
     ·exact .inl h
     ·rw [List.mem_singleton.1 h];exact .inr (List.getElem_mem hi)
    ·exact .inr h
   ·rw [List.getElem?_eq_none (by omega)] at h
    cases h
theorem Cd {s:ai} (hc:(iM s).2.2=0) {p:List Order} (h:qK s s.possible=some p):(cU s p).2=0∧p.length≤6∧(∀ o ∈ p,o.day ∈ s.possible)∧iR s p=true:=by
 have hg:=mg hc
 have hm:=hg.many
 obtain ⟨p1,p2⟩:=tf hg
 have hdp:s.possible.Pairwise (· < ·):=List.pairwise_iff_getElem.2 fun i j hi hj hij=>p2 i j hi hj hij
 have hdr:∀ x ∈ s.possible,0≤x∧x < s.days:=fun x hx=>by obtain ⟨i,hi,rfl⟩:=List.mem_iff_getElem.1 hx;exact p1 i hi
 unfold qK at h
 split at h
 ·rename_i hh
  cases h
  have hz:(cU s []).2=0:=rT hc (Nat.zero_le _) (fun o ho=>by cases ho) .nil
  exact ⟨hz,Nat.zero_le _,(fun o ho=>by cases ho),by rw [ox hz,yb hg];exact hh⟩
 ·rw [List.findSome?_eq_some_iff] at h
  obtain ⟨l1,m,l2,e,h,_⟩:=h
  have hml:m < s.possible.length:=List.mem_range.1 (by rw [e];simp)
  have hlen:=lE h
  obtain ⟨D,h1,h2,h3,h4⟩:=vP hdp hdr (m+1) 0 [] ⟨Nat.le_refl _,.nil,(fun x hx=>by cases hx),fun x hx=>by cases hx⟩ h
  obtain ⟨q,e2,k2,k3,k4⟩:=jN h1
  rw [List.nil_append] at e2
  subst e2
  have hin:∀ o ∈ p,o.day ∈ D:=fun o ho=>by rw [←k2];exact List.mem_map.2 ⟨o,ho,rfl⟩
  rw [List.length_nil] at hlen
  have hz:(cU s p).2=0:=ya hc (by omega) (fun o ho=>h3 _ (hin o ho)) (by rw [k2];exact h2) k3
  refine ⟨hz,by omega,fun o ho=>?_,by rw [ox hz];exact k4⟩
  rcases h4 _ (hin o ho) with h|h
  ·cases h
  ·exact h
theorem FX {s:ai} (hc:(iM s).2.2=0) {q:List Order} (hq:(cU s q).2=0) (hd:∀ o ∈ q,o.day ∈ s.possible) (hh:iR s q=true):∃ p,qK s s.possible=some p∧p.length≤q.length:=by
 have hg:=mg hc
 have hpg:=jJ hq
 obtain ⟨p1,p2⟩:=tf hg
 have hdp:s.possible.Pairwise (· < ·):=List.pairwise_iff_getElem.2 fun i j hi hj hij=>p2 i j hi hj hij
 unfold qK
 split
 ·exact ⟨[],rfl,Nat.zero_le _⟩
 ·rename_i hn
  obtain ⟨q',f1,f2,f3,f4⟩:=x9 hg q hpg.order
  have ha:=J0 hpg
  have hz:(cU s q').2=0:=ya hc (by rw [f1];exact hpg.len) (fun o ho=>by
   have:o.day ∈ q.map (·.day):=by rw [←f2];exact List.mem_map.2 ⟨o,ho,rfl⟩
   obtain ⟨o',ho',e⟩:=List.mem_map.1 this
   rw [←e]
   exact (hpg.order o' ho').day) (by rw [f2];exact ha) f3
  have hh':=zR hq hz f1 f4 hh
  rw [ox hz] at hh'
  have hmem:∀ x ∈ q.map (·.day),∃ i,0≤i∧∃ h:i < s.possible.length,s.possible[i]=x:=fun x hx=>by
   obtain ⟨o,ho,rfl⟩:=List.mem_map.1 hx
   obtain ⟨i,hi,e⟩:=List.mem_iff_getElem.1 (hd o ho)
   exact ⟨i,Nat.zero_le _,hi,e⟩
  have hql:=pI hdp _ 0 (Nat.zero_le _) ha hmem
  rw [List.length_map] at hql
  cases hq0:q.length with
  | zero =>
   exfalso
   obtain rfl:q'=[]:=List.eq_nil_of_length_eq_zero (by omega)
   rw [yb hg] at hh'
   exact hn hh'
  | succ m =>
   have hfill:cH s s.possible (m+1) 0 [] ≠ none:=fun hf=>by
    have h1:=vO hdp (m+1) 0 [] hf _ (by rw [List.length_map];exact hq0) ha hmem
    rw [List.nil_append] at h1
    have:=vH h1 q' f2 f3
    rw [List.nil_append,hh'] at this
    cases this
   cases hfs:(List.range s.possible.length).findSome? fun m=>cH s s.possible (m+1) 0 [] with
   | none =>
    rw [List.findSome?_eq_none_iff] at hfs
    exact absurd (hfs m (List.mem_range.2 (by omega))) hfill
   | some p =>
    refine ⟨p,rfl,?_⟩
    rw [List.findSome?_eq_some_iff] at hfs
    obtain ⟨l1,k,l2,e,h,hprev⟩:=hfs
    have hlen:=lE h
    rw [List.length_nil] at hlen
    have hk:k≤m:=by
     apply Classical.byContradiction
     intro hkm
     have hkl:k=l1.length:=by
      have h1:(List.range s.possible.length)[l1.length]?=some k:=by rw [e];simp
      rw [List.getElem?_range (by have:=congrArg List.length e;simp at this;omega)] at h1
      exact (Option.some.inj h1).symm
     have:m ∈ l1:=by
      have h1:(List.range s.possible.length)[m]?=some m:=List.getElem?_range (by omega)
      rw [e,List.getElem?_append_left (by omega)] at h1
      exact List.mem_of_getElem? h1
     exact hfill (hprev m this)
    omega
end Go.Proofs.YtpeogffeoehboaaDoor
