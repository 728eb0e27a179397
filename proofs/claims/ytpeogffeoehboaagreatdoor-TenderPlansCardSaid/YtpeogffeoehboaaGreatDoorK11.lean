/-
  Contracts of the program's functions and of the document's. Lemmas alone; their conditions stand in them.
-/
import Derived.Test.YtpeogffeoehboaaGreatDoorK10
open Go Go.RM
namespace Go.Proofs.YtpeogffeoehboaaGreatDoor
set_option maxRecDepth 100000
def xB (s:ai) (f k:Nat):Bool:=(List.range k).all fun n=>f.testBit n || decide (s.load < tR s (aL f)+DW s (n:Nat))
def iU (s:ai) (f:Nat):Bool:=decide (tR s (aL f)≤s.load) && xB s f s.needs.length
theorem Fs {s:ai} {f k:Nat}:xB s f (k+1)=(xB s f k && (f.testBit k || decide (s.load < tR s (aL f)+DW s (k:Nat)))):=by unfold xB;rw [List.range_succ,List.all_append];simp
theorem HP {s:ai} {f k:Nat} (hk:k < s.needs.length) (hb:f.testBit k=false) (hw:tR s (aL f)+DW s (k:Nat)≤s.load):iU s f=false:=by
 have:xB s f s.needs.length=false:=by rw [←Bool.not_eq_true];intro h;have:=List.all_eq_true.1 h k (List.mem_range.2 hk);rw [hb,Bool.false_or,decide_eq_true_eq] at this;omega
 unfold iU;rw [this,Bool.and_false]
def jY (s:ai):Nat→List Nat
 | 0=>[]
 | k+1=>if iU s (k+1)=true then jY s k++[k+1] else jY s k
theorem qk {s:ai} {k:Nat}:jY s (k+1)=if iU s (k+1)=true then jY s k++[k+1] else jY s k:=rfl
theorem Dz {s:ai}:∀ k,(jY s k).length≤k
 | 0=>qq6 _
 | k+1=>by
  have:=Dz (s:=s) k;rw [qk];split
  ·rw [List.length_append,List.length_singleton];omega
  ·omega
theorem pG {s:ai} {f:Nat}:∀ {k:Nat},f ∈ jY s k ↔ (1≤f∧f≤k)∧iU s f=true
 | 0=>by
  constructor
  ·intro h;cases h
  ·rintro ⟨⟨_,_⟩,_⟩;omega
 | k+1=>by
  rw [qk];have ih:=pG (s:=s) (f:=f) (k:=k);split
  ·rename_i hf;rw [List.mem_append,ih,List.mem_singleton];constructor
   ·rintro (⟨h,h2⟩|rfl)
    ·exact ⟨by omega,h2⟩
    ·exact ⟨by omega,hf⟩
   ·rintro ⟨h,h2⟩;by_cases e:f=k+1
    ·exact .inr e
    ·exact .inl ⟨by omega,h2⟩
  ·rename_i hf;rw [ih];constructor
   ·rintro ⟨h,h2⟩;exact ⟨by omega,h2⟩
   ·rintro ⟨h,h2⟩;refine ⟨?_,h2⟩;by_cases e:f=k+1
    ·subst e;exact absurd h2 hf
    ·omega
theorem Bv {s:ai}:∀ k,(jY s k).Pairwise (· < ·)
 | 0=>.nil
 | k+1=>by
  rw [qk];split
  ·rw [List.pairwise_append];refine ⟨Bv k,List.pairwise_singleton _ _,fun a ha b hb=>?_⟩;have:=(pG.1 ha).1;rw [List.mem_singleton.1 hb];omega
  ·exact Bv k
def aI (s:ai):List Nat:=([1,3,7,5,2,6,4]:List Nat).filter fun f=>decide (f < 2 ^ s.needs.length) && iU s f
theorem uO {s:ai} (hg:Good s) {f:Nat}:f ∈ aI s ↔ (1≤f∧f < 2 ^ s.needs.length)∧iU s f=true:=by
 unfold aI;have h3:=hg.len;have hp:2 ^ s.needs.length≤2 ^ 3:=Nat.pow_le_pow_right (by decide) h3.2;simp only [List.mem_filter,List.mem_cons,List.not_mem_nil,or_false,qq7,decide_eq_true_eq];constructor
 ·rintro ⟨h1,h2,h4⟩;exact ⟨⟨by omega,h2⟩,h4⟩
 ·rintro ⟨⟨h1,h2⟩,h4⟩;exact ⟨by omega,h2,h4⟩
theorem zO:∀ {S R:List Nat},S.Pairwise (fun a b=>rk a < rk b)→R.Pairwise (fun a b=>rk a < rk b)→(∀ x,x ∈ S ↔ x ∈ R)→S=R
 | [],[],_,_,_=>rfl
 | [],b :: R,_,_,h=>absurd ((h b).2 List.mem_cons_self) (by simp)
 | a :: S,[],_,_,h=>absurd ((h a).1 List.mem_cons_self) (by simp)
 | a :: S,b :: R,h1,h2,h=>by
  rw [List.pairwise_cons] at h1 h2
  have e:a=b:=by
   rcases List.mem_cons.1 ((h a).1 List.mem_cons_self) with e|ha
   ·exact e
   ·rcases List.mem_cons.1 ((h b).2 List.mem_cons_self) with e|hb
    ·exact e.symm
    ·have:=h1.1 b hb;have:=h2.1 a ha;omega
  subst e;rw [zO h1.2 h2.2 fun x=>?_];constructor
  ·intro hx
   rcases List.mem_cons.1 ((h x).1 (List.mem_cons_of_mem _ hx)) with e|hr
   ·subst e;have:=h1.1 x hx;omega
   ·exact hr
  ·intro hx
   rcases List.mem_cons.1 ((h x).2 (List.mem_cons_of_mem _ hx)) with e|hr
   ·subst e;have:=h2.1 x hx;omega
   ·exact hr
theorem Ft {s:ai} (hg:Good s) {S:List Nat} {N:Nat} (hN:S.length=N) (hs:lR S N) (hp:S.Perm (jY s (2 ^ s.needs.length - 1))):S=aI s:=by
 have h3:=hg.len;have hp8:2 ^ s.needs.length≤2 ^ 3:=Nat.pow_le_pow_right (by decide) h3.2;have hnd:S.Nodup:=hp.nodup_iff.2 ((Bv _).imp fun h=>by omega);have hmem:∀ x ∈ S,1≤x∧x < 8:=fun x hx=>by have:=(pG.1 (hp.mem_iff.1 hx)).1;omega
 refine zO ?_ ?_ fun x=>?_
 ·rw [List.pairwise_iff_getElem];intro i j hi hj hij;have h:=hs i j hij (by omega);unfold oC at h;rw [List.getD_eq_getElem?_getD,List.getD_eq_getElem?_getD,List.getElem?_eq_getElem hi,List.getElem?_eq_getElem hj] at h;simp only [Option.getD_some] at h;have hne:S[i] ≠ S[j]:=(List.pairwise_iff_getElem.1 hnd) i j hi hj hij;have:rk S[i] ≠ rk S[j]:=fun e=>hne (QZ (hmem _ (List.getElem_mem hi)) (hmem _ (List.getElem_mem hj)) e);omega
 ·unfold aI;exact List.Pairwise.filter _ (by decide)
 ·rw [hp.mem_iff,pG,uO hg];have:1≤2 ^ s.needs.length:=Nat.one_le_two_pow;constructor
  ·rintro ⟨h1,h2⟩;exact ⟨by omega,h2⟩
  ·rintro ⟨h1,h2⟩;exact ⟨by omega,h2⟩
theorem zP {f k:Nat} (hf:f < 2 ^ k) (hk:k≤8):(aL f).length≤k∧∀ x ∈ aL f,0≤x∧x < (k:Nat):=by
 have hin:∀ x ∈ aL f,0≤x∧x < (k:Nat):=by
  intro x hx;unfold aL at hx;simp only [List.mem_map,List.mem_filter,List.mem_range] at hx;obtain ⟨m,⟨h1,h2⟩,rfl⟩:=hx;refine ⟨by omega,?_⟩;by_cases hkm:k≤m
  ·rw [Nat.testBit_lt_two_pow (Nat.lt_of_lt_of_le hf (Nat.pow_le_pow_right (by decide) hkm))] at h2;cases h2
  ·omega
 have hpw:(aL f).Pairwise (· < ·):=by unfold aL;rw [List.pairwise_map];exact (List.Pairwise.filter _ List.pairwise_lt_range).imp fun h=>by omega
 have hgt:∀ (l:List Int),l.Pairwise (· < ·)→(∀ x ∈ l,0≤x∧x < (k:Nat))→l.length≤k:=by
  intro l hl hb
  have hge:∀ (i:Nat) (hi:i < l.length),(i:Int)≤l[i]:=by
   intro i
   induction i with
   | zero=>intro hi;exact (hb _ (List.getElem_mem hi)).1
   | succ i ih =>intro hi;have h1:=ih (by omega);have h2:=List.pairwise_iff_getElem.1 hl i (i+1) (by omega) hi (by omega);omega
  by_cases h0:l.length=0
  ·omega
  ·have h1:=hge (l.length - 1) (by omega);have h2:=(hb _ (List.getElem_mem (show l.length - 1 < l.length by omega))).2;omega
 exact ⟨hgt _ hpw hin,hin⟩
def bl (s:ai):List Int→List Order→Option (List Order)
 | [],b=>if cu s b 0 0 s.fail=true then some b else none
 | d :: ds,b=>(aI s).findSome? fun f=>bl s ds (b++[⟨d,aL f⟩])
theorem kX {s:ai}:∀ {ds:List Int} {b p:List Order},bl s ds b=some p→∃ q:List Order,p=b++q∧q.map (·.day)=ds∧(∀ o ∈ q,∃ f ∈ aI s,o.bw=aL f)∧cu s p 0 0 s.fail=true
 | [],b,p,h=>by
  unfold bl at h;split at h
  ·rename_i hh;cases h;exact ⟨[],(List.append_nil _).symm,rfl,(fun o ho=>by cases ho),hh⟩
  ·cases h
 | d :: ds,b,p,h=>by
  rw [bl,List.findSome?_eq_some_iff] at h;obtain ⟨l1,f,l2,e,h,_⟩:=h;obtain ⟨q,rfl,q2,q3,q4⟩:=kX h;refine ⟨⟨d,aL f⟩ :: q,by simp,by rw [List.map_cons,q2],fun o ho=>?_,q4⟩
  rcases List.mem_cons.1 ho with rfl|ho
  ·exact ⟨f,by rw [e];simp,rfl⟩
  ·exact q3 o ho
theorem HQ {s:ai} {b q:List Order} {e:Int} (hq:∀ o ∈ q,e≤o.day) {n d:Nat} (hd:(d:Int) < e):nG s (b++q) 0 n d=nG s b 0 n d:=by
 unfold nG;split
 ·refine TeLaw.zD d fun i hi=>?_;rw [Bool.eq_iff_iff,vm,vm];constructor
  ·rintro ⟨j,hj,h1,h2,h3⟩;by_cases hjb:j < b.length
   ·rw [List.getElem_append_left hjb] at h1 h3;exact ⟨j,hjb,h1,h2,h3⟩
   ·rw [List.getElem_append_right (by omega)] at h1;have:=hq _ (List.getElem_mem (by rw [List.length_append] at hj;omega:j - b.length < q.length));omega
  ·rintro ⟨j,hj,h1,h2,h3⟩;exact ⟨j,by rw [List.length_append];omega,by rw [List.getElem_append_left hj];exact h1,h2,by rw [List.getElem_append_left hj];exact h3⟩
 ·rfl
theorem DA {s:ai} {p:List Order} {f d:Nat} {n:Int} (h:jV s p f=some (d,n)):d < s.days.toNat∧∃ m,m < s.needs.length∧nG s p f m d=0:=by
 unfold jV at h;rw [Option.map_eq_some_iff] at h;obtain ⟨d',h1,h2⟩:=h;rw [List.find?_range_eq_some] at h1;obtain ⟨q1,q2,_⟩:=h1;simp only [Prod.mk.injEq] at h2;obtain ⟨rfl,rfl⟩:=h2;refine ⟨by simpa using q2,?_⟩;have q1:=of_decide_eq_true q1;unfold zeroAt sF at q1
 cases hf:(jo s p f d').findIdx? fun x=>decide (0=x) with
 | none=>rw [hf] at q1;simp at q1
 | some i =>
  rw [List.findIdx?_eq_some_iff_getElem] at hf;obtain ⟨hlt,hz,_⟩:=hf;have hz:=of_decide_eq_true hz;have hi:i < s.needs.length:=by rw [lN] at hlt;exact hlt
  have e:(jo s p f d')[i]?=some (nG s p f i d'):=by unfold jo;rw [List.getElem?_map,List.getElem?_range hi];rfl
  rw [List.getElem?_eq_getElem hlt] at e;exact ⟨i,hi,(Option.some.inj e).symm.trans hz.symm⟩
theorem zQ:∀ k:Nat,TeLaw.cnt (List.replicate k false)=0
 | 0=>rfl
 | k+1=>by rw [List.replicate_succ,TeLaw.cnt,zQ k]
theorem uP {R:Nat}:∀ (k r:Nat),TeLaw.kP R r (List.replicate k false)=true
 | 0,r=>rfl
 | k+1,r=>by rw [List.replicate_succ,TeLaw.kP];exact uP k 0
theorem xC:∀ (k f i:Nat),jW f i (List.replicate k false)=f
 | 0,f,i=>rfl
 | k+1,f,i=>by rw [List.replicate_succ,jW];exact xC k f (i+1)
theorem L8 {s:ai} (hg:Good s) (k:Nat):0 ∈ nI s k 0 0 s.fail:=by
 have hf:=hg.fail;have e:s.fail=((s.fail.toNat:Nat):Int):=by omega
 rw [e,vo hg];exact List.mem_map.2 ⟨List.replicate (k - 0) false,TeLaw.fO.2 ⟨List.length_replicate,by rw [zQ];exact qq5 _,uP _ _⟩,xC _ 0 0⟩
theorem prune {s:ai} (hg:Good s) {ds:List Int} {b:List Order} {d:Nat} {n e:Int} (hb:jV s b 0=some (d,n)) (hd:(d:Int) < e) (hds:∀ x ∈ ds,e≤x):bl s ds b=none:=by
 cases h:bl s ds b with
 | none=>rfl
 | some p =>
  exfalso;obtain ⟨q,rfl,h2,_,h4⟩:=kX h;obtain ⟨k1,m,k2,k3⟩:=DA hb;have hq:∀ o ∈ q,e≤o.day:=fun o ho=>hds _ (by rw [←h2];exact List.mem_map.2 ⟨o,ho,rfl⟩);have hz:=HQ (s:=s) (b:=b) hq (n:=m) hd;rw [k3] at hz;have:=List.all_eq_true.1 h4 0 (L8 hg _);have hnone:=Option.isNone_iff_eq_none.1 this;unfold jV at hnone;rw [Option.map_eq_none_iff,List.find?_eq_none] at hnone;have hneg:=hnone d (List.mem_range.2 k1);rw [decide_eq_true_eq] at hneg;apply hneg;unfold zeroAt sF
  cases hf:(jo s (b++q) 0 d).findIdx? fun x=>decide (0=x) with
  | none =>exfalso;rw [List.findIdx?_eq_none_iff] at hf;have:=hf 0 (List.mem_map.2 ⟨m,List.mem_range.2 k2,hz⟩);simp at this
  | some i=>dsimp only;omega
theorem xD {s:ai} (hg:Good s) {f:Nat} (hf:f ∈ aI s) {d:Int} (hd:0≤d∧d < s.days):qe s ⟨d,aL f⟩:=by
 obtain ⟨⟨h1,h2⟩,h3⟩:=(uO hg).1 hf;have hl:=hg.len;obtain ⟨k1,k2⟩:=zP h2 (by omega);unfold iU at h3;rw [qq7,decide_eq_true_eq] at h3;have h8:f < 256:=Nat.lt_of_lt_of_le h2 (Nat.le_trans (Nat.pow_le_pow_right (by decide) hl.2) (by decide));have hpw:(aL f).Pairwise (· < ·):=by unfold aL;rw [List.pairwise_map];exact (List.Pairwise.filter _ List.pairwise_lt_range).imp fun h=>by omega
 refine ⟨hd,k2,?_,k1,fun i j hi hj hij=>List.pairwise_iff_getElem.1 hpw i j hi hj hij,h3.1⟩
 cases hc:aL f with
 | nil =>
  exfalso
  rcases Nat.eq_zero_or_pos f with h0|h0
  ·omega
  ·rw [zF h8 (by omega)] at hc;cases hc
 | cons a l=>simp
theorem xE {s:ai} {b:List Order} (hb:jC s b) (h8:b.length+1≤8) {o:Order} (ho:qe s o) (hd:∀ x ∈ b,x.day < o.day):jC s (b++[o]):=by
 refine ⟨hb.good,by rw [List.length_append];exact h8,fun x hx=>?_,fun i j hi hj hij=>?_⟩
 ·rcases List.mem_append.1 hx with hx|hx
  ·exact hb.order x hx
  ·rw [List.mem_singleton.1 hx];exact ho
 ·have hjb:j < b.length+1:=by rw [List.length_append] at hj;exact hj
  have hib:i < b.length:=by omega
  rw [List.getElem_append_left hib];by_cases e:j < b.length
  ·rw [List.getElem_append_left e];exact hb.HA i j hib e hij
  ·rw [List.getElem_append_right (by omega)];simp only [show j - b.length=0 by omega,List.getElem_cons_zero];exact hd _ (List.getElem_mem hib)
def Fu (P:List Order) (n:Nat) (l:List Int):List Order:=P.modify n fun o=>⟨o.day,l⟩
theorem HS {P:List Order} {n:Nat} {l:List Int}:(Fu P n l).map (·.day)=P.map (·.day):=by
 unfold Fu;apply List.ext_getElem?;intro i;rw [List.getElem?_map,List.getElem?_map,List.getElem?_modify];split
 ·cases P[i]? <;> rfl
 ·cases P[i]? <;> rfl
theorem HT {P:List Order} {n:Nat} {l:List Int} (h:n < P.length):(Fu P n l).take (n+1)=P.take n++[⟨P[n].day,l⟩]:=by unfold Fu;rw [List.modify_eq_take_cons_drop h,List.take_append,List.take_of_length_le (by rw [List.length_take];omega),List.length_take,Nat.min_eq_left (by omega),show n+1 - n=1 by omega];rfl
theorem Bw:∀ {P:List Order} {n:Nat} {l:List Int},n < P.length→dy (kj P) [.sl (ints l) false] (n * 2+1)=kj (Fu P n l)
 | o :: P,0,l,_=>rfl
 | o :: P,n+1,l,h=>by
  have ih:=Bw (P:=P) (n:=n) (l:=l) (by simpa using h);have e:(n+1) * 2+1=(n * 2+1)+2:=by omega
  rw [e];show dy (aC o.day :: AV.sl (ints o.bw) false :: kj P) [.sl (ints l) false] (n * 2+1+2)=_;have:dy (aC o.day :: AV.sl (ints o.bw) false :: kj P) [.sl (ints l) false] (n * 2+1+2)=aC o.day :: AV.sl (ints o.bw) false :: dy (kj P) [.sl (ints l) false] (n * 2+1):=rfl;rw [this,ih];rfl
theorem GH:∀ {P:List Order} {n:Nat},(h:n < P.length)→(kj P)[n * 2]?=some (aC P[n].day)
 | o :: P,0,_=>rfl
 | o :: P,n+1,h=>by rw [show (n+1) * 2=n * 2+1+1 by omega];show (aC o.day :: AV.sl (ints o.bw) false :: kj P)[n * 2+1+1]?=_;rw [List.getElem?_cons_succ,List.getElem?_cons_succ];exact GH (by simpa using h)
theorem xF (a b:List Order):kj (a++b)=kj a++kj b:=by unfold kj;rw [List.map_append,List.flatten_append]
theorem Bx (P:List Order) (n:Nat) (h:n≤P.length):(0:Nat)+n * 2≤(kj P).length∧((P.take n).map aD).length=n∧(∀ el ∈ (P.take n).map aD,el.length=2)∧((P.take n).map aD).flatten=((kj P).drop 0).take (n * 2):=by
 refine ⟨by rw [lO];omega,by rw [List.length_map,List.length_take];omega,fun el hel=>by obtain ⟨o,_,rfl⟩:=List.mem_map.1 hel;rfl,?_⟩;rw [List.drop_zero];have e:kj P=kj (P.take n)++kj (P.drop n):=by rw [←xF,List.take_append_drop]
 have hl:(kj (P.take n)).length=n * 2:=by rw [lO,List.length_take,Nat.min_eq_left h]
 show kj (P.take n)=(kj P).take (n * 2);rw [e];exact (List.take_left' hl).symm
set_option maxHeartbeats 4000000
theorem Bz:∀ l:List Order,(kj l).all AV.one=true
 | []=>rfl
 | _ :: l=>Bz l
theorem Ty {T:bJ} {fr:Nat→AV} {hp:List AB} {K:AV→List AB→Prop} {s x:Operand} {t u e:TypeId} {a1 a2 a3 a4 a5 a6} {els:List (List AV)} {j aA n c es:Nat} {cs:List AV} {inf:rB} (hs:aN fr s=.sl [] true) (hx:aN fr x=.bg j aA 0 n c)
  (hu:T.ty.get u=some ⟨.slice e,a1,a2,a3,a4,a5,a6⟩) (hi:elem? T t=some inf) (hz:bD inf=true) (hj:hp[j]?=some (.cells cs es aA)) (hl:0+n * inf.size≤cs.length) (hn:els.length=n) (hel:∀ el ∈ els,el.length=inf.size) (hf:els.flatten=(cs.drop 0).take (n * inf.size)) (h1:els.flatten.all AV.one=true) (hne:els ≠ [])
  (hb:n * inf.bytes≤140737488355328∧n≤9223372036854775807) (hk:K (.bg hp.length 0 0 n (n+1)) (hp++[.cells els.flatten inf.size 0])) :
  RM.wpOp T true (.call ⟨.builtin .append,[s,x].toArray,[t,u].toArray⟩) fr hp K:=by
 subst hn;show force (aN fr s) fun a=>force (aN fr x) fun b=>gA T true .append [a,b] [t,u] hp K;rw [hs,hx];show (match T.ty.get u with|some ⟨.slice _,_,_,_,_,_,_⟩=>gk T true t (.sl [] true) (.bg j aA 0 els.length c) hp K|_=>False);rw [hu];show gk T true t (.sl [] true) (.bg j aA 0 els.length c) hp K;unfold gk;rw [hi];refine ⟨hz,els,⟨hel,cs,es,hj,hl,rfl,hf⟩,h1,(fun _ h=>by cases h),by simpa using hb,fun e=>absurd e hne,fun _=>?_⟩;simpa using hk
abbrev fL (P:List Order) (aA:Nat):AB:=.cells (kj P) 2 aA
theorem HU (one:Bool) {P:List Order} (h1:1≤P.length) (h8:P.length≤8) {A0 A1 A2 A3:AB} {aA c:Nat} {aE:bA} {Q:AV→List AB→bA→Prop} (hQ:Q (.bg 5 0 0 P.length (P.length+1)) [A0,A1,A2,A3,fL P aA,fL P 0] aE) :
  az TT TB one (.fn 87 [] []) [.bg 4 aA 0 P.length c] [A0,A1,A2,A3,fL P aA] aE Q:=by
 have hne:P.length ≠ 0:=by omega
 have hcut:=Bx P P.length (qq6 _);rw [List.take_length] at hcut;have hone:((P.map aD).flatten).all AV.one=true:=Bz P
 have hne2:P.map aD ≠ []:=by
  cases P with
  | nil=>simp at h1
  | cons a l=>simp
 refine az.body (fn:=Tryz.f87) rfl rfl rfl ?_;refine aa (mu:=fun t=>Nat.beq t 7) ?_;repeat' first|(refine RM.SL rfl hne (by kernel_rfl) rfl ?_)|(refine Ty rfl rfl rfl rfl rfl rfl hcut.1 hcut.2.1 hcut.2.2.1 hcut.2.2.2 hone hne2 ⟨by show P.length * 32≤_;omega,by omega⟩ ?_)|refine u1 ?_|refine u2 ?_|fail
 exact hQ
