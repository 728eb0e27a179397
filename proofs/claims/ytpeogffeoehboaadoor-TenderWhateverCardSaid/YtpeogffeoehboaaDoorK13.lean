/-
  Contracts of the program's functions and of the document's. Lemmas alone; their conditions stand in them.
-/
import Derived.Test.YtpeogffeoehboaaDoorK8
import Derived.Test.YtpeogffeoehboaaDoorK9
import Derived.Test.YtpeogffeoehboaaDoorK12
open Go Go.RM
namespace Go.Proofs.YtpeogffeoehboaaDoor
set_option maxRecDepth 100000
abbrev iz (s:ak) (n:Int):ak:={s with fail:=n}
theorem I7 {s:ak} {n:Int} (h:(lZ s).2.2=0) (hn:0≤n∧n≤8):(lZ (iz s n)).2.2=0:=by
 have hb:bT s=false:=by
  cases hb:bT s with
  | false=>rfl
  | true=>rw [gB hb] at h;cases h
 have hb2:bT (iz s n)=false:=by
  unfold bT at *
  simp only [Bool.or_eq_false_iff] at *
  refine ⟨⟨hb.1.1,?_⟩,hb.2⟩
  show eM 0 8 [n]=false
  rw [bh,hG.2 hn]
  rfl
 unfold lZ at h ⊢
 rw [if_neg (by rw [hb];simp)] at h
 rw [if_neg (by rw [hb2];simp)]
 exact h
theorem Db {s:ak} {p:List Order} {n:Int} (h:(aO s p).2=0) (hn:0≤n∧n≤8):(aO (iz s n) p).2=0:=by
 have hc:(lZ s).2.2=0:=by
  apply Classical.byContradiction
  intro hc
  unfold aO at h
  rw [if_pos hc] at h
  exact hc h
 have hc2:=I7 hc hn
 unfold aO at h ⊢
 rw [if_neg (by omega)] at h
 rw [if_neg (by omega)]
 exact h
theorem x7 {s:ak} {p:List Order} (h:(aO s p).2=0):nk s p=dA s p 0 0 s.fail:=by
 rw [Bool.eq_iff_iff,BN]
 unfold nk sY cV
 rw [if_neg (by omega),decide_eq_true_eq]
 constructor
 ·intro h
  apply Classical.byContradiction
  intro hn
  rw [if_neg hn] at h
  cases h
 ·intro h
  rw [if_pos h]
theorem sq {s:ak} {p:List Order} {n:Int} (h:(aO s p).2=0) (hn:0≤n∧n≤8):nk (iz s n) p=dA s p 0 0 n:=x7 (Db h hn)
theorem rH:∀ (b:List Bool) (f i:Nat),TeLaw.cnt b=0→fJ f i b=f
 | [],f,i,_=>rfl
 | true :: l,f,i,h=>by simp [TeLaw.cnt] at h
 | false :: l,f,i,h=>by rw [fJ];exact rH l f (i+1) h
theorem I8 {s:ak} (hg:Good s) {k y:Nat} (h:y ∈ mC s k 0 0 ((0:Nat):Int)):y=0:=by
 obtain ⟨b,_,h2,_,rfl⟩:=(lf hg).1 h
 exact rH b 0 0 (by omega)
theorem vJ {R:Nat}:∀ (l:List Bool) (r:Nat),TeLaw.cnt l=0→TeLaw.ej R r l=true
 | [],r,_=>rfl
 | true :: l,r,h=>by simp [TeLaw.cnt] at h
 | false :: l,r,h=>by rw [TeLaw.ej];exact vJ l 0 h
theorem qt:∀ k:Nat,TeLaw.cnt (List.replicate k false)=0
 | 0=>rfl
 | k+1=>by rw [List.replicate_succ,TeLaw.cnt,qt k]
theorem I9 {s:ak} (hg:Good s) (k n:Nat):0 ∈ mC s k 0 0 ((n:Nat):Int) :=
 (lf hg).2 ⟨List.replicate k false,List.length_replicate,by rw [qt];exact Nat.zero_le _,vJ _ _ (qt k),rH _ 0 0 (qt k)⟩
theorem Ja {s:ak} {p:List Order} (h:(aO s p).2=0):iE s p []=0:=by
 unfold iE
 rw [if_pos h]
 rfl
theorem vK {s:ak} {p:List Order} {f:List Int} {most:Int} (hh:dA s p 0 0 most=true) (hf:cD f ∈ mC s p.length 0 0 most) (ha:iE s p f=0):jE s p f=(0,0,4):=by
 unfold dA at hh
 have:=List.all_eq_true.1 hh _ hf
 unfold jE
 rw [if_neg (by omega),Option.isNone_iff_eq_none.1 this]
theorem BO {s:ak} {p:List Order} (h:(aO s p).2=0) :
  (iG s p []=(0,9)∧(jE s p []).2.2=0) ∨
  ∃ n:Nat,n≤p.length∧iG s p []=((n:Int),0)∧jE s p []=(0,0,4)∧(∀ raw,jE s p (cI s.row (n:Nat) raw p.length)=(0,0,4))∧nk (iz s (n:Nat)) p=true∧(n < p.length→nk (iz s ((n:Nat)+1)) p=false):=by
 have hpg:=dM h
 have hg:=hpg.good
 have p8:=hpg.len
 obtain ⟨hb,hi⟩:=vu hg (p:=p) (known:=0) (f:=0) (m:=p.length)
 have e:iG s p []=if gW s p 0 0 p.length < 0 then (0,9) else (gW s p 0 0 p.length,0):=by
  show (if (aO s p).2 ≠ 0 then (0,(aO s p).2) else if p.length < 0 then (0,3) else if gW s p 0 0 (p.length - 0) < 0 then (0,9) else (gW s p 0 0 (p.length - 0),0))=_
  rw [if_neg (by omega),if_neg (by omega),Nat.sub_zero]
 have hask:=Ja h
 generalize gW s p 0 0 p.length=r at *
 by_cases hr:r < 0
 ·left
  rw [if_pos hr] at e
  refine ⟨e,?_⟩
  have h0:=hi 0 (Nat.zero_le _)
  rw [decide_eq_false (by omega)] at h0
  unfold jE
  rw [if_neg (by omega)]
  show (match iF s p 0 with|some (d,n)=>(((d:Nat):Int),n,(0:Int))|none=>(0,0,4)).2.2=0
  cases hbk:iF s p 0 with
  | some v=>rfl
  | none =>
   exfalso
   have:dA s p 0 0 ((0:Nat):Int)=true:=by
    unfold dA
    rw [List.all_eq_true]
    intro y hy
    rw [I8 hg hy,hbk]
    rfl
   rw [this] at h0
   cases h0
 ·right
  rw [if_neg hr] at e
  obtain ⟨n,rfl⟩:∃ n:Nat,r=(n:Int):=⟨r.toNat,by omega⟩
  have hn:n≤p.length:=by omega
  have hh:=hi n hn
  rw [decide_eq_true (Int.le_refl _)] at hh
  refine ⟨n,hn,e,vK hh (I9 hg _ _) hask,fun raw=>vK hh (BK hg n raw p.length) (BL h n raw),?_,fun hlt=>?_⟩
  ·rw [sq h (by omega)];exact hh
  ·rw [sq h (by omega)]
   have:=hi (n+1) hlt
   rw [decide_eq_false (by omega)] at this
   exact this
theorem LH {s:ak} {p:List Order} {f n:Nat} (w:Int):∀ d,wD s p f n w d≤w∧∀ i,i < d→wD s p f n w d≤gm s p f n i
 | 0=>⟨Int.le_refl _,fun i hi=>absurd hi (Nat.not_lt_zero _)⟩
 | d+1=>by
  obtain ⟨h1,h2⟩:=LH (s:=s) (p:=p) (f:=f) (n:=n) w d
  rw [zF]
  refine ⟨by omega,fun i hi=>?_⟩
  by_cases e:i=d
  ·subst e;omega
  ·have:=h2 i (by omega);omega
theorem LI {s:ak} {p:List Order} {f n:Nat} {c w:Int} (hw:c≤w):∀ d,(∀ i,i < d→c≤gm s p f n i)→c≤wD s p f n w d
 | 0,_=>hw
 | d+1,h=>by
  have h1:=LI (s:=s) (p:=p) (f:=f) (n:=n) hw d fun i hi=>h i (by omega)
  have h2:=h d (Nat.lt_succ_self _)
  rw [zF]
  omega
def wF (s:ak) (p:List Order) (n:Nat) (L:List Nat) (w:Int):Int:=L.foldl (fun w f=>wD s p f n w s.days.toNat) w
theorem Jb {s:ak} {p:List Order} {n:Nat}:∀ (L:List Nat) (w:Int),wF s p n L w≤w∧∀ y ∈ L,∀ i,i < s.days.toNat→wF s p n L w≤gm s p y n i
 | [],w=>⟨Int.le_refl _,fun y hy=>by cases hy⟩
 | y :: L,w=>by
  obtain ⟨h1,h2⟩:=Jb (s:=s) (p:=p) (n:=n) L (wD s p y n w s.days.toNat)
  obtain ⟨h3,h4⟩:=LH (s:=s) (p:=p) (f:=y) (n:=n) w s.days.toNat
  have e:wF s p n (y :: L) w=wF s p n L (wD s p y n w s.days.toNat):=rfl
  rw [e]
  refine ⟨by omega,fun z hz i hi=>?_⟩
  rcases List.mem_cons.1 hz with rfl|hz
  ·have:=h4 i hi;omega
  ·exact h2 z hz i hi
theorem LJ {s:ak} {p:List Order} {n:Nat} {c:Int}:∀ (L:List Nat) (w:Int),c≤w→(∀ y ∈ L,∀ i,i < s.days.toNat→c≤gm s p y n i)→c≤wF s p n L w
 | [],_,hw,_=>hw
 | y :: L,w,hw,h=>LJ L (wD s p y n w s.days.toNat) (LI hw _ (h y List.mem_cons_self)) fun z hz=>h z (List.mem_cons_of_mem _ hz)
theorem Jc {s:ak} {p:List Order} {n:Nat} {L:List Nat} {y:Nat} (hy:y ∈ L) {i:Nat} (hi:i < s.days.toNat):wL s p n L≤gm s p y n i:=(Jb L (fG s n)).2 y hy i hi
theorem Jd {s:ak} {p:List Order} {n:Nat} {L:List Nat} {c:Int} (hf:c≤fG s n) (h:∀ y ∈ L,∀ i,i < s.days.toNat→c≤gm s p y n i):c≤wL s p n L:=LJ L (fG s n) hf h
theorem Pj {s:ak} (hg:Good s) {p:List Order} {n:Nat} (hn:n < s.needs.length) {L:List Nat}:0≤wL s p n L:=Jd (by have:=zB hg hn;omega) fun y _ i _=>(II hg p y n i).1
theorem Je {α:Type} {q:α→Bool} {l:List α}:oM q l < 0 ↔ ∀ x ∈ l,q x=false:=by
 unfold oM
 cases h:l.findIdx? q with
 | none =>
  rw [List.findIdx?_eq_none_iff] at h
  exact ⟨fun _=>h,fun _=>by dsimp only;omega⟩
 | some i =>
  rw [List.findIdx?_eq_some_iff_getElem] at h
  obtain ⟨hi,hq,_⟩:=h
  refine ⟨fun hneg=>by dsimp only at hneg;omega,fun hall=>?_⟩
  rw [hall _ (List.getElem_mem hi)] at hq
  cases hq
theorem vL {s:ak} {p:List Order} {y d:Nat}:zeroAt s p y d < 0 ↔ ∀ n,n < s.needs.length→gm s p y n d ≠ 0:=by
 unfold zeroAt
 rw [Je]
 unfold xT
 constructor
 ·intro h n hn e
  have:=h (gm s p y n d) (List.mem_map.2 ⟨n,List.mem_range.2 hn,rfl⟩)
  exact of_decide_eq_false this e.symm
 ·intro h x hx
  obtain ⟨n,hn,rfl⟩:=List.mem_map.1 hx
  exact decide_eq_false fun e=>h n (List.mem_range.1 hn) e.symm
theorem qu {s:ak} {p:List Order} {y:Nat}:iF s p y=none ↔ ∀ d,d < s.days.toNat→∀ n,n < s.needs.length→gm s p y n d ≠ 0:=by
 constructor
 ·intro h d hd
  rw [←vL]
  unfold iF at h
  rw [Option.map_eq_none_iff,List.find?_eq_none] at h
  have:=h d (List.mem_range.2 hd)
  rw [decide_eq_true_eq] at this
  omega
 ·exact fun h=>BA fun i hi=>vL.2 (h i hi)
def rI (s:ak) (p:List Order) (k:Nat):Bool:=(List.range k).all fun n=>decide (0 < wL s p n (cV s p))
theorem BP {s:ak} {p:List Order} {k:Nat}:rI s p (k+1)=(rI s p k && decide (0 < wL s p k (cV s p))):=by
 unfold rI
 rw [List.range_succ,List.all_append]
 simp
theorem BQ {s:ak} {p:List Order} (h:(aO s p).2=0):rI s p s.needs.length=nk s p:=by
 have hg:=(dM h).good
 rw [x7 h,Bool.eq_iff_iff]
 unfold rI dA
 rw [List.all_eq_true,List.all_eq_true]
 constructor
 ·intro h1 y hy
  rw [Option.isNone_iff_eq_none,qu]
  intro d hd n hn e
  have h2:=of_decide_eq_true (h1 n (List.mem_range.2 hn))
  have h3:=Jc (s:=s) (p:=p) (n:=n) (L:=cV s p) hy hd
  omega
 ·intro h1 n hn
  have hn:=List.mem_range.1 hn
  refine decide_eq_true (Jd (c:=1) (zB hg hn).1 fun y hy i hi=>?_)
  have h2:=qu.1 (Option.isNone_iff_eq_none.1 (h1 y hy)) i hi n hn
  have h3:=(II hg p y n i).1
  omega
theorem Jf {s:ak} (hg:Good s) {p q:List Order} {y z n:Nat} (h:∀ d,CR p y n d=true→CR q z n d=true) (d:Nat):gm s p y n d≤gm s q z n d:=by
 unfold gm
 split
 ·rename_i hn
  have h1:=IG hg hn
  have h2:=zB hg hn
  exact TeLaw.Bw h1.2 (by omega) h d
 ·exact Int.le_refl _
theorem vM {s:ak} (hg:Good s) {p q:List Order} {n:Nat} (h:∀ z ∈ cV s q,∃ y ∈ cV s p,∀ d,CR p y n d=true→CR q z n d=true):wL s p n (cV s p)≤wL s q n (cV s q):=by
 refine Jd (Jb (cV s p) (fG s n)).1 fun z hz i hi=>?_
 obtain ⟨y,hy,hb⟩:=h z hz
 exact Int.le_trans (Jc hy hi) (Jf hg hb i)
theorem rJ {R:Nat}:∀ (l:List Bool) (r:Nat),r+TeLaw.cnt l≤R→TeLaw.ej R r l=true
 | [],r,_=>rfl
 | true :: l,r,h=>by
  rw [TeLaw.cnt] at h
  rw [TeLaw.ej,decide_eq_true (by omega),rJ l (r+1) (by omega)]
  rfl
 | false :: l,r,h=>by
  rw [TeLaw.cnt] at h
  rw [TeLaw.ej]
  exact rJ l 0 (by omega)
theorem rK:∀ (l:List Bool) (j:Nat),TeLaw.cnt (l.eraseIdx j)≤TeLaw.cnt l
 | [],j=>Nat.le_refl _
 | true :: l,0=>by rw [List.eraseIdx_cons_zero,TeLaw.cnt];omega
 | false :: l,0=>by rw [List.eraseIdx_cons_zero,TeLaw.cnt];omega
 | true :: l,j+1=>by have:=rK l j;rw [List.eraseIdx_cons_succ,TeLaw.cnt,TeLaw.cnt];omega
 | false :: l,j+1=>by have:=rK l j;rw [List.eraseIdx_cons_succ,TeLaw.cnt,TeLaw.cnt];omega
theorem Dc {s:ak} (hg:Good s) {p:List Order} {j:Nat} (hj:j≤p.length) (o:Order) (hr:s.fail≤s.row) (n:Nat):wL s p n (cV s p)≤wL s (p.take j++o :: p.drop j) n (cV s (p.take j++o :: p.drop j)):=by
 have hfail:=hg.fail
 have ef:s.fail=((s.fail.toNat:Nat):Int):=by omega
 have hql:(p.take j++o :: p.drop j).length=p.length+1:=by rw [List.length_append,List.length_cons,List.length_take,List.length_drop];omega
 refine vM hg fun z hz=>?_
 unfold cV at hz ⊢
 rw [ef] at hz ⊢
 obtain ⟨b,h1,h2,h3,rfl⟩:=(lf hg).1 hz
 rw [hql] at h1
 have hle:=rK b j
 refine ⟨fJ 0 0 (b.eraseIdx j),(lf hg).2 ⟨b.eraseIdx j,by rw [List.length_eraseIdx];rw [if_pos (by omega)];omega,by omega,rJ _ _ (by omega),rfl⟩,fun d hd=>?_⟩
 rw [sS] at hd ⊢
 obtain ⟨i,hi,q1,q2,q3⟩:=hd
 rw [qq,List.getD_eq_getElem?_getD,List.getElem?_eraseIdx] at q2
 by_cases hij:i < j
 ·rw [if_pos hij] at q2
  have hit:i < (p.take j).length:=by rw [List.length_take];omega
  have hget:(p.take j++o :: p.drop j)[i]'(by omega)=p[i]:=by rw [List.getElem_append_left hit,List.getElem_take]
  refine ⟨i,by omega,by rw [hget];exact q1,?_,by rw [hget];exact q3⟩
  rw [qq,List.getD_eq_getElem?_getD]
  exact q2
 ·rw [if_neg hij] at q2
  have hlt:(p.take j).length=j:=by rw [List.length_take];omega
  have hget:(p.take j++o :: p.drop j)[i+1]'(by omega)=p[i]:=by
   rw [List.getElem_append_right (by omega)]
   simp only [hlt]
   have e1:i+1 - j=(i - j)+1:=by omega
   simp only [e1,List.getElem_cons_succ,List.getElem_drop]
   congr 1
   omega
  refine ⟨i+1,by omega,by rw [hget];exact q1,?_,by rw [hget];exact q3⟩
  rw [qq,List.getD_eq_getElem?_getD]
  exact q2
theorem Dd {s:ak} (hg:Good s) {p q:List Order} (hl:q.length=p.length) (h:∀ (i:Nat) (hp:i < p.length) (hq:i < q.length),q[i].day=p[i].day∧∀ x ∈ p[i].aF,x ∈ q[i].aF) (n:Nat):wL s p n (cV s p)≤wL s q n (cV s q):=by
 refine vM hg fun z hz=>⟨z,?_,fun d hd=>?_⟩
 ·unfold cV at hz ⊢
  rw [hl] at hz
  exact hz
 ·rw [sS] at hd ⊢
  obtain ⟨i,hi,q1,q2,q3⟩:=hd
  obtain ⟨e1,e2⟩:=h i hi (by omega)
  exact ⟨i,by omega,e1.trans q1,q2,e2 _ q3⟩
end Go.Proofs.YtpeogffeoehboaaDoor
open Go Go.RM
namespace Go.Proofs.YtpeogffeoehboaaDoor
set_option maxRecDepth 100000
theorem Jg {s:ak} {p:List Order} {b:fK} (h:gM s p (cV s p)=some b):b.f ∈ cV s p∧iF s p b.f=some (b.day.toNat,b.need)∧b.day=((b.day.toNat:Nat):Int) ∧
  ∀ y ∈ cV s p,∀ d n,iF s p y=some (d,n)→b.day < (d:Nat)∨(b.day=(d:Nat)∧b.need≤n):=by
 obtain ⟨h1,_,h3⟩:=(l7 (cV s p) none).2 b h
 rcases h1 with h1|⟨y,hy,h1⟩
 ·cases h1
 ·unfold iN at h1
  rw [Option.map_eq_some_iff] at h1
  obtain ⟨⟨d,n⟩,q1,rfl⟩:=h1
  refine ⟨hy,by rw [q1];rfl,by simp,fun z hz d' n' hd=>?_⟩
  have:=h3 z hz ⟨z,(d':Nat),n'⟩ (by unfold iN;rw [hd];rfl)
  exact this
theorem Jh {s:ak} (hg:Good s) (p:List Order):cV s p=mC s p.length 0 0 ((s.fail.toNat:Nat):Int):=by
 have:=hg.fail
 have e:s.fail=((s.fail.toNat:Nat):Int):=by omega
 unfold cV
 rw [←e]
theorem Ji {s:ak} {p:List Order} {f:List Int} {d:Nat} {n:Int} (ha:iE s p f=0) (hb:iF s p (cD f)=some (d,n)):jE s p f=(((d:Nat):Int),n,0):=by
 unfold jE
 rw [if_neg (by omega),hb]
theorem Jj {s:ak} {p:List Order} {f:List Int} (ha:iE s p f=0) (hb:iF s p (cD f)=none):jE s p f=(0,0,4):=by
 unfold jE
 rw [if_neg (by omega),hb]
theorem vN {s:ak} {p:List Order} (h:(aO s p).2=0) (raw:Nat):cD (cI s.row s.fail raw p.length) ∈ cV s p∧iE s p (cI s.row s.fail raw p.length)=0:=by
 have hg:=(dM h).good
 have:=hg.fail
 have e:s.fail=((s.fail.toNat:Nat):Int):=by omega
 have h1:=BK hg s.fail.toNat raw p.length
 have h2:=BL h s.fail.toNat raw
 rw [←e] at h1 h2
 exact ⟨h1,h2⟩
theorem wU {s:ak} {p:List Order} (h:(aO s p).2=0) {b:fK} (hb:gM s p (cV s p)=some b) (raw:Nat) :
  b.f < 256∧((bx b.f).length:Int)≤s.fail∧(∀ m,m≤p.length→rowAt b.f m≤s.row)∧jE s p (bx b.f)=(b.day,b.need,0)∧(∀ x ∈ bx b.f,0≤x∧x < (p.length:Nat)) ∧
  (jE s p (cI s.row s.fail raw p.length)=(0,0,4)∨∃ (d n:Int),jE s p (cI s.row s.fail raw p.length)=(d,n,0)∧(b.day < d∨(b.day=d∧b.need≤n))):=by
 have hpg:=dM h
 have hg:=hpg.good
 have hfail:=hg.fail
 have p8:=hpg.len
 obtain ⟨h1,h2,h3,h4⟩:=Jg hb
 obtain ⟨q1,q2⟩:=vN h raw
 have hm:=h1
 rw [Jh hg] at hm
 obtain ⟨f1,f2,f3,f4⟩:=EZ hg p8 hm
 have hlt:b.f < 256:=Nat.lt_of_lt_of_le f1 (show 2 ^ p.length≤2 ^ 8 from Nat.pow_le_pow_right (by decide) p8)
 refine ⟨hlt,by omega,f3,?_,BM f1,?_⟩
 ·rw [Ji (f:=bx b.f) (by unfold iE;rw [if_pos h];exact f4) (by rw [C9 hlt];exact h2),←h3]
 ·cases hk:iF s p (cD (cI s.row s.fail raw p.length)) with
  | none=>exact .inl (Jj q2 hk)
  | some v =>
   obtain ⟨d,n⟩:=v
   exact .inr ⟨_,_,Ji q2 hk,h4 _ q1 d n hk⟩
theorem wV {s:ak} {p:List Order} (h:(aO s p).2=0) (hb:gM s p (cV s p)=none) (raw:Nat):jE s p (cI s.row s.fail raw p.length)=(0,0,4):=by
 obtain ⟨q1,q2⟩:=vN h raw
 exact Jj q2 (x6.1 hb _ q1)
theorem Jk {f:Nat} {x:Int} (hx:x ∈ bx f):rowAt f (x.toNat+1)=rowAt f x.toNat+1:=by
 obtain ⟨m,_,h2,rfl⟩:=xY.1 hx
 rw [Int.toNat_natCast,vD,if_pos h2]
end Go.Proofs.YtpeogffeoehboaaDoor
open Go Go.RM
namespace Go.Proofs.YtpeogffeoehboaaDoor
set_option maxRecDepth 100000
set_option maxHeartbeats 4000000
theorem qv (one:Bool) (s:ak) (hs:s.Ok) (p:List Order) (full:Bool) (hp:vQ p):Pu one 34 [.ag (ay s),.sl (p.map ai) full] (BB (decide ((aO s p).2=0))):=by
 have o1:=J8 one s hs p full hp
 generalize (aO s p).1=a at *
 generalize (aO s p).2=b at *
 refine af.body (fn:=Tryd.f34) rfl rfl rfl rfl ?_
 refine aa (mu:=fun _=>false) ?_
 repeat' (first |refine u1 ?_ |((with_reducible show aj _ _ _ _ _ _ _ _);refine af.call o1 rfl rfl ?_) |refine u2 ?_ |fail)
 exact ⟨[_],⟨Fz.deep rfl,trivial⟩,rfl⟩
theorem Jl {s:ak} {p:List Order} {f:List Int} {day:Int} (h:iE s p f=0) (h1:0≤day) (h2:day≤s.days - 1):nj s p f day=0:=by
 unfold nj
 rw [if_neg (by omega),if_neg]
 rw [bh,hG.2 ⟨h1,h2⟩]
 simp
theorem Jm {s:ak} {p:List Order} {f:List Int} {day:Int} (h:nj s p f day=0):qo s p f day=.sl (ints (xT s p (cD f) day.toNat)) false:=by unfold qo;rw [if_pos h]
theorem De {hp:List AB} {K:AV→List AB→Prop} (h:K (aA ((0:Nat):Int)) hp):kW TT 23 (.fl (.slice none 0 0)) hp K:=h
end Go.Proofs.YtpeogffeoehboaaDoor
