/-
  Contracts of the program's functions and of the document's. Lemmas alone; their conditions stand in them.
-/
import Derived.Test.YtgdbfbalchdmcaaGreatA1
import Derived.Test.YtgdbfbalchdmcaaGreatA3
import Derived.Test.YtgdbfbalchdmcaaGreatK11
import Derived.Test.YtgdbfbalchdmcaaGreatK17
import Derived.Laws.StructEq
open Go Go.RM
namespace Go.Proofs.YtgdbfbalchdmcaaGreat.St
set_option maxRecDepth 100000
set_option maxHeartbeats 4000000
theorem N9 {own:Bool} {fr:Nat→AV} {hp:List AB} {K:AV→List AB→Prop} {x:Operand} {s:aC} {k:Kind} {row:List Int} {c:AV} {j aB es:Nat} (h:row.length=30) (hx:bw fr x=.ptr j aB 0) (hj:hp[j]?=some (.cells (aL s k row c) es aB)) (hk:K (.ag (aL s k row c)) hp):RM.wpOp TT own (.load 116 x) fr hp K:=by
 show gn TT 116 (bw fr x) hp K
 rw [hx]
 refine ⟨_,es,hj,And.intro (by rw [eW h];exact Nat.le_refl _) ?_⟩
 rw [nZ h]
 exact hk
theorem Pj {own:Bool} {fr:Nat→AV} {hp:List AB} {K:AV→List AB→Prop} {a x:Operand} {s:aC} {k:Kind} {row:List Int} {f:List (List AV)} {b:Bool} {z:List AV} {j aB es:Nat} (h:row.length=30) (ha:bw fr a=.ptr j aB 0) (hx:bw fr x=.ag (aL s k row (.sl f b))) (hj:hp[j]?=some (.cells z es aB)) (hz:z.length=43)
  (hk:K .cJ (hp.set j (.cells (aL s k row (.sl f b)) es aB))):RM.wpOp TT own (.store 116 a x) fr hp K:=by
 show force (bw fr x) fun v=>eZ TT 116 (bw fr a) v hp K
 rw [hx,ha]
 refine ⟨z,es,hj,rfl,l7,eW h,by omega,?_⟩
 rw [AK h hz]
 exact hk
def qJ (s:aC) (l:List Count) (i:Nat) (k:Kind):LF:=i5 s.ah.length (bI s.ah k (av i s.ai)) (cF s.ah k (av i s.ai) (bY l i))
theorem LG (one:Bool) (s:aC) (l:List Count) (h0:gv s l=0) (i:Nat) (hi:i < s.kinds.length) :
 Pu one 45 [.ag (aL s s.kinds[i] (av i s.ai) (.sl ((bY l i).map aM) false))] (.tp [.ag (dg (qJ s l i s.kinds[i]).t),ak (qJ s l i s.kinds[i]).day,ak (qJ s l i s.kinds[i]).e]):=Fy one (FC h0 hi)
theorem J3 (one:Bool) (s:aC) (h:s.Ok) (l:List Count) (h0:gv s l=0) (i:Nat) (hi:i < s.kinds.length) :
  Pu one 12 [.ag (aF s),.sl (l.map aM) false,ak i] (.tp [ak (if (qJ s l i s.kinds[i]).e=0 then (qJ s l i s.kinds[i]).day else 0),ak (qJ s l i s.kinds[i]).e]):=by
 have hen:=J2 one s h l h0 i hi
 have hea:=LG one s l h0 i hi
 have h30:=(FC h0 hi).row.len
 generalize qJ s l i s.kinds[i]=z at hea ⊢
 generalize av i s.ai=row at *
 generalize s.kinds[i]=k at *
 by_cases he:z.e=0
 ·rw [if_pos he]
  rw [he] at hea ⊢
  refine af.body (fn:=Tryz.f12) rfl rfl rfl rfl ?_
  refine aa (mu:=fun _=>false) ?_
  repeat' (first |refine Pj h30 rfl rfl rfl rfl ?_ |refine N9 h30 rfl rfl ?_ |refine u1 ?_ |refine u2 ?_ |refine af.call hen rfl rfl ?_ |refine af.call hea rfl (rT rfl) ?_ |fail)
  exact ⟨[_,_],⟨Fz.deep rfl,Fz.deep rfl,trivial⟩,rfl⟩
 ·rw [if_neg he]
  have d1:(!decide (z.e=0))=true:=by simpa using he
  refine af.body (fn:=Tryz.f12) rfl rfl rfl rfl ?_
  refine aa (mu:=fun _=>false) ?_
  repeat' (first |refine Pj h30 rfl rfl rfl rfl ?_ |refine N9 h30 rfl rfl ?_ |refine u1 ?_ |refine u2 ?_ |refine af.call hen rfl rfl ?_ |refine af.call hea rfl (rT rfl) ?_ |fail)
  exact ⟨[_,_],⟨Fz.deep rfl,Fz.deep rfl,trivial⟩,rfl⟩
end Go.Proofs.YtgdbfbalchdmcaaGreat.St
open Go Go.RM
namespace Go.Proofs.YtgdbfbalchdmcaaGreat.St
set_option maxRecDepth 100000
set_option maxHeartbeats 4000000
abbrev yY (s:aC) (l:List Count) (i:Nat) (k:Kind):List aN:=nh s.ah k (av i s.ai) l i
end Go.Proofs.YtgdbfbalchdmcaaGreat.St

open Go Go.RM
namespace Go.Proofs.YtgdbfbalchdmcaaGreat.St
theorem vY {k:Kind} {t u:aN} {down:Int} {i:Nat} {n:Int} (hm:u.aR=t.aR):qE k u down i n=qE k t down i n:=by
 unfold qE;rw [hm]
theorem Cc {ah:List Int} {k:Kind} {row:List Int} {m p n n':Int} (h:n≤n') (down:Int):∀ i,bu ah k row ⟨n,m,p⟩ down i≤bu ah k row ⟨n',m,p⟩ down i
 | 0=>h
 | i+1=>by
  have ih:=Cc (ah:=ah) (k:=k) (row:=row) (m:=m) (p:=p) h down i
  have hu:=vY (k:=k) (t:=⟨n,m,p⟩) (u:=⟨n',m,p⟩) (down:=down) (i:=i) (n:=ah.getD i 0) rfl
  simp only [bu,kR] at ih ⊢
  rw [hu]
  omega
theorem D6 {ah:List Int} {k:Kind} {row:List Int} {m p n n':Int} (h:n≤n') (down:Int):∀ i,ck ah k row ⟨n,m,p⟩ down i≤ck ah k row ⟨n',m,p⟩ down i
 | 0=>Int.le_refl _
 | i+1=>by
  have ih:=D6 (ah:=ah) (k:=k) (row:=row) (m:=m) (p:=p) h down i
  have hh:=Cc (ah:=ah) (k:=k) (row:=row) (m:=m) (p:=p) h down i
  have hu:=vY (k:=k) (t:=⟨n,m,p⟩) (u:=⟨n',m,p⟩) (down:=down) (i:=i) (n:=ah.getD i 0) rfl
  have hr:kR ah k row ⟨n,m,p⟩ down i (bu ah k row ⟨n,m,p⟩ down i)≤kR ah k row ⟨n',m,p⟩ down i (bu ah k row ⟨n',m,p⟩ down i):=by
   unfold kR
   rw [hu]
   generalize bu ah k row ⟨n,m,p⟩ down i=a at *
   generalize bu ah k row ⟨n',m,p⟩ down i=b at *
   dsimp only
   omega
  show (if _ < 0 then _ else _)≤(if _ < 0 then _ else _)
  split <;> split <;> omega
theorem J4 {ah:List Int} {k:Kind} {row:List Int} {t:aN} {d:Nat} (h:d≤ah.length):(lvl ah k row t).getD d 0=bu ah k row t ah.length d:=by
 unfold lvl
 rw [List.getD_eq_getElem?_getD,List.getElem?_map,List.getElem?_range (by omega)]
 rfl
theorem J5 {ah:List Int} {k:Kind} {row:List Int} {m p n n':Int} (h:n≤n') (d:Nat):(lvl ah k row ⟨n,m,p⟩).getD d 0≤(lvl ah k row ⟨n',m,p⟩).getD d 0:=by
 by_cases hd:d≤ah.length
 ·rw [J4 hd,J4 hd];exact Cc h _ _
 ·rw [List.getD_eq_getElem?_getD,List.getD_eq_getElem?_getD,List.getElem?_eq_none (by rw [wN];omega),List.getElem?_eq_none (by rw [wN];omega)]
  exact Int.le_refl _
theorem rD {ah:List Int} {k:Kind} {row:List Int} {f:List Count} {b:Bool} {m p n n':Int} (h:n≤n') (he:cA ah k row f b ⟨n,m,p⟩=true):cA ah k row f b ⟨n',m,p⟩=true:=by
 unfold cA at he ⊢
 cases b with
 | true =>
  simp only [cond_true,List.any_eq_true] at he ⊢
  obtain ⟨c,hc,h1⟩:=he
  refine ⟨c,hc,?_⟩
  unfold ue at h1 ⊢
  have:=J5 (ah:=ah) (k:=k) (row:=row) (m:=m) (p:=p) h c.day.toNat
  rw [decide_eq_true_eq] at h1 ⊢
  omega
 | false =>
  simp only [cond_false,Bool.not_eq_true',List.any_eq_false] at he ⊢
  intro c hc h1
  apply he c hc
  unfold qH at h1 ⊢
  have:=J5 (ah:=ah) (k:=k) (row:=row) (m:=m) (p:=p) h c.day.toNat
  rw [decide_eq_true_eq] at h1 ⊢
  omega
theorem J6 (ah:List Int) (k:Kind) (row:List Int) (l:List Count) (i:Nat) (t:aN):Nd ah k row l i t=true ↔ (cA ah k row (bY l i) false t=true∧cA ah k row (bY l i) true t=false):=by
 have e:Nd ah k row l i t=(bY l i).all (D5 (lvl ah k row t)):=by
  unfold Nd bY
  rw [List.all_filter]
 rw [e]
 unfold cA
 simp only [cond_false,cond_true,Bool.not_eq_true',List.any_eq_false,List.all_eq_true]
 unfold D5 qH ue
 constructor
 ·intro h
  exact ⟨fun c hc=>by have:=bQ.1 (h c hc);rw [decide_eq_true_eq];omega,fun c hc=>by have:=bQ.1 (h c hc);rw [decide_eq_true_eq];omega⟩
 ·rintro ⟨h1,h2⟩ c hc
  have a:=h1 c hc
  have b:=h2 c hc
  rw [decide_eq_true_eq] at a b
  exact bQ.2 (by omega)
theorem Gr (ah:List Int) (k:Kind) (row:List Int) (l:List Count) (i:Nat) (m p:Int) {a:Nat} (ha:a < ax k.first) :
  Nd ah k row l i ⟨k.first.lo+a,m,p⟩=true ↔ (pQ ah k row (bY l i) m p≤k.first.lo+a∧k.first.lo+a≤jL ah k row (bY l i) m p):=by
 rw [J6]
 have b0:=ua (fun i'=>cA ah k row (bY l i) false ⟨k.first.lo+(i':Int),m,p⟩) 0 (ax k.first) (Nat.zero_le _) (fun a b _ h _ he=>rD (by omega) he)
 have b1:=ua (fun i'=>cA ah k row (bY l i) true ⟨k.first.lo+(i':Int),m,p⟩) 0 (ax k.first) (Nat.zero_le _) (fun a b _ h _ he=>rD (by omega) he)
 have c0:pQ ah k row (bY l i) m p=k.first.lo+bs (fun i'=>cA ah k row (bY l i) false ⟨k.first.lo+(i':Int),m,p⟩) 0 (ax k.first):=rfl
 have c1:jL ah k row (bY l i) m p=k.first.lo+bs (fun i'=>cA ah k row (bY l i) true ⟨k.first.lo+(i':Int),m,p⟩) 0 (ax k.first) - 1:=rfl
 generalize hr0:bs (fun i'=>cA ah k row (bY l i) false ⟨k.first.lo+(i':Int),m,p⟩) 0 (ax k.first)=r0 at *
 generalize hr1:bs (fun i'=>cA ah k row (bY l i) true ⟨k.first.lo+(i':Int),m,p⟩) 0 (ax k.first)=r1 at *
 have h0:cA ah k row (bY l i) false ⟨k.first.lo+a,m,p⟩=true ↔ r0≤a:=by
  constructor
  ·intro h
   apply Nat.le_of_not_lt
   intro hlt
   have:=b0.1 a (Nat.zero_le _) hlt
   rw [h] at this;cases this
  ·intro h
   exact rD (by omega) (b0.2 (by omega))
 have h1:cA ah k row (bY l i) true ⟨k.first.lo+a,m,p⟩=false ↔ a < r1:=by
  constructor
  ·intro h
   apply Nat.lt_of_not_le
   intro hle
   have:=rD (n:=k.first.lo+r1) (n':=k.first.lo+a) (by omega) (b1.2 (by omega))
   rw [h] at this;cases this
  ·intro h
   exact b1.1 a (Nat.zero_le _) h
 rw [h0,h1,c0,c1]
 omega
theorem LH {ah:List Int} {k:Kind} {row:List Int} {l:List Count} {i:Nat} {t:aN} (h:t ∈ nh ah k row l i) :
  ∃ a m p:Nat,a < ax k.first∧m < ax k.aR∧p < ax k.ay∧t=⟨k.first.lo+a,k.aR.lo+m,k.ay.lo+p⟩∧pQ ah k row (bY l i) (k.aR.lo+m) (k.ay.lo+p)≤t.first∧t.first≤jL ah k row (bY l i) (k.aR.lo+m) (k.ay.lo+p):=by
 unfold nh Gq at h
 rw [List.mem_filter,List.mem_map] at h
 obtain ⟨⟨q,hq,rfl⟩,ha⟩:=h
 rw [List.mem_range] at hq
 have hP:0 < ax k.ay:=Nat.pos_of_ne_zero fun e=>by rw [e] at hq;simp at hq
 have hM:0 < ax k.aR:=Nat.pos_of_ne_zero fun e=>by rw [e] at hq;simp at hq
 have h1:q / ax k.ay < ax k.first * ax k.aR:=Nat.div_lt_of_lt_mul (by rw [Nat.mul_comm];exact hq)
 have h2:q / ax k.ay / ax k.aR < ax k.first:=Nat.div_lt_of_lt_mul (by rw [Nat.mul_comm];exact h1)
 refine ⟨q / ax k.ay / ax k.aR,q / ax k.ay % ax k.aR,q % ax k.ay,h2,Nat.mod_lt _ hM,Nat.mod_lt _ hP,rfl,?_⟩
 exact (Gr ah k row l i _ _ h2).1 ha
theorem Gs {ah:List Int} {k:Kind} {row:List Int} {l:List Count} {i a m p:Nat} (ha:a < ax k.first) (hm:m < ax k.aR) (hp:p < ax k.ay)
  (h1:pQ ah k row (bY l i) (k.aR.lo+m) (k.ay.lo+p)≤k.first.lo+a) (h2:k.first.lo+a≤jL ah k row (bY l i) (k.aR.lo+m) (k.ay.lo+p)):(⟨k.first.lo+a,k.aR.lo+m,k.ay.lo+p⟩:aN) ∈ nh ah k row l i:=by
 unfold nh Gq
 rw [List.mem_filter,List.mem_map]
 refine ⟨⟨(a * ax k.aR+m) * ax k.ay+p,?_,AM k hm hp⟩,(Gr ah k row l i _ _ ha).2 ⟨h1,h2⟩⟩
 rw [List.mem_range]
 have q1:(a+1) * ax k.aR≤ax k.first * ax k.aR:=Nat.mul_le_mul_right _ ha
 rw [Nat.add_mul,Nat.one_mul] at q1
 have q2:(a * ax k.aR+m+1) * ax k.ay≤ax k.first * ax k.aR * ax k.ay:=Nat.mul_le_mul_right _ (by omega)
 rw [Nat.add_mul,Nat.one_mul] at q2
 omega
theorem HH {ah:List Int} {k:Kind} {row:List Int} {f:List Count} {y:aN × aN} (h:y ∈ cF ah k row f) :
  ∃ m p:Nat,m < ax k.aR∧p < ax k.ay∧pQ ah k row f (k.aR.lo+m) (k.ay.lo+p)≤jL ah k row f (k.aR.lo+m) (k.ay.lo+p) ∧
   y=(⟨pQ ah k row f (k.aR.lo+m) (k.ay.lo+p),k.aR.lo+m,k.ay.lo+p⟩,⟨jL ah k row f (k.aR.lo+m) (k.ay.lo+p),k.aR.lo+m,k.ay.lo+p⟩):=by
 unfold cF pairs at h
 rw [List.mem_filterMap] at h
 obtain ⟨q,hq,h⟩:=h
 rw [List.mem_range] at hq
 have hP:0 < ax k.ay:=Nat.pos_of_ne_zero fun e=>by rw [e] at hq;simp at hq
 unfold pM nC at h
 split at h
 ·rename_i hle
  cases h
  exact ⟨q / ax k.ay,q % ax k.ay,Nat.div_lt_of_lt_mul (by rw [Nat.mul_comm];exact hq),Nat.mod_lt _ hP,hle,rfl⟩
 ·cases h
theorem HI {ah:List Int} {k:Kind} {row:List Int} {f:List Count} {m p:Nat} (hm:m < ax k.aR) (hp:p < ax k.ay) (hle:pQ ah k row f (k.aR.lo+m) (k.ay.lo+p)≤jL ah k row f (k.aR.lo+m) (k.ay.lo+p)) :
  ((⟨pQ ah k row f (k.aR.lo+m) (k.ay.lo+p),k.aR.lo+m,k.ay.lo+p⟩,⟨jL ah k row f (k.aR.lo+m) (k.ay.lo+p),k.aR.lo+m,k.ay.lo+p⟩):aN × aN) ∈ cF ah k row f:=by
 unfold cF pairs
 rw [List.mem_filterMap]
 refine ⟨m * ax k.ay+p,?_,?_⟩
 ·rw [List.mem_range]
  have:(m+1) * ax k.ay≤ax k.aR * ax k.ay:=Nat.mul_le_mul_right _ hm
  rw [Nat.add_mul,Nat.one_mul] at this
  omega
 ·rw [JZ ah k row f hp]
  unfold nC
  rw [if_pos hle]
theorem LI (ah:List Int) (k:Kind) (row:List Int) (f:List Count) (m p:Int) (hle:pQ ah k row f m p≤jL ah k row f m p):∃ a b:Nat,a < ax k.first∧b < ax k.first∧pQ ah k row f m p=k.first.lo+a∧jL ah k row f m p=k.first.lo+b:=by
 have b0:=(tZ (fun i'=>cA ah k row f false ⟨k.first.lo+(i':Int),m,p⟩) 0 (ax k.first) (Nat.zero_le _)).2
 have b1:=(tZ (fun i'=>cA ah k row f true ⟨k.first.lo+(i':Int),m,p⟩) 0 (ax k.first) (Nat.zero_le _)).2
 have c0:pQ ah k row f m p=k.first.lo+bs (fun i'=>cA ah k row f false ⟨k.first.lo+(i':Int),m,p⟩) 0 (ax k.first):=rfl
 have c1:jL ah k row f m p=k.first.lo+bs (fun i'=>cA ah k row f true ⟨k.first.lo+(i':Int),m,p⟩) 0 (ax k.first) - 1:=rfl
 generalize bs (fun i'=>cA ah k row f false ⟨k.first.lo+(i':Int),m,p⟩) 0 (ax k.first)=r0 at *
 generalize bs (fun i'=>cA ah k row f true ⟨k.first.lo+(i':Int),m,p⟩) 0 (ax k.first)=r1 at *
 exact ⟨r0,r1 - 1,by omega,by omega,by omega,by omega⟩
theorem D7 {ah:List Int} {k:Kind} {row:List Int} {l:List Count} {i:Nat} {t:aN} (h:t ∈ nh ah k row l i):∃ y ∈ cF ah k row (bY l i),(y.1.first≤t.first∧t.first≤y.2.first)∧(y.1.aR=t.aR∧y.1.ay=t.ay)∧y.2.aR=t.aR∧y.2.ay=t.ay:=by
 obtain ⟨a,m,p,_,hm,hp,rfl,h1,h2⟩:=LH h
 exact ⟨_,HI hm hp (by omega),⟨h1,h2⟩,⟨rfl,rfl⟩,rfl,rfl⟩
theorem D8 {ah:List Int} {k:Kind} {row:List Int} {l:List Count} {i:Nat} {y:aN × aN} (h:y ∈ cF ah k row (bY l i)):y.1 ∈ nh ah k row l i∧y.2 ∈ nh ah k row l i:=by
 obtain ⟨m,p,hm,hp,hle,rfl⟩:=HH h
 obtain ⟨a,b,ha,hb,ea,eb⟩:=LI _ _ _ _ _ _ hle
 dsimp only
 constructor
 ·have:=Gs (ah:=ah) (row:=row) (l:=l) (i:=i) ha hm hp (by omega) (by omega)
  rw [←ea] at this
  exact this
 ·have:=Gs (ah:=ah) (row:=row) (l:=l) (i:=i) hb hm hp (by omega) (by omega)
  rw [←eb] at this
  exact this
end Go.Proofs.YtgdbfbalchdmcaaGreat.St
open Go Go.RM
namespace Go.Proofs.YtgdbfbalchdmcaaGreat.St
theorem HJ {ah:List Int} {k:Kind} {row:List Int} {t u:aN} (h:t.first≤u.first) (h1:t.aR=u.aR) (h2:t.ay=u.ay):bI ah k row t≤bI ah k row u:=by
 obtain ⟨a,b,c⟩:=t
 obtain ⟨a',b',c'⟩:=u
 dsimp only at h h1 h2
 subst h1 h2
 exact D6 h _ _
theorem LJ {ah:List Int} {k:Kind} {row:List Int} {l:List Count} {i:Nat}:cF ah k row (bY l i)=[] ↔ nh ah k row l i=[]:=by
 constructor
 ·intro h
  apply List.eq_nil_iff_forall_not_mem.2
  intro t ht
  obtain ⟨y,hy,_⟩:=D7 ht
  rw [h] at hy;cases hy
 ·intro h
  apply List.eq_nil_iff_forall_not_mem.2
  intro y hy
  have:=(D8 hy).1
  rw [h] at this;cases this
def Le (sh:aN→Int) (t u:aN):Prop:=sh t < sh u∨sh t=sh u∧(t.first < u.first∨t.first=u.first∧(t.aR < u.aR∨t.aR=u.aR∧t.ay≤u.ay))
theorem HK {q n P:Nat} (h:q < n):q / P < n / P∨(q / P=n / P∧q % P < n % P):=by
 have h1:=Nat.div_le_div_right (c:=P) (Nat.le_of_lt h)
 have h2:=Nat.div_add_mod q P
 have h3:=Nat.div_add_mod n P
 by_cases he:q / P=n / P
 ·rw [he] at h2
  exact .inr ⟨he,by omega⟩
 ·exact .inl (by omega)
theorem Gt {ah:List Int} {k:Kind} {row:List Int} {f:List Count} {q:Nat} {y:aN × aN} (h:pM ah k row f q=some y):y.1.aR=k.aR.lo+(q / ax k.ay:Nat)∧y.1.ay=k.ay.lo+(q % ax k.ay:Nat):=by
 unfold pM nC at h
 split at h
 ·cases h;exact ⟨rfl,rfl⟩
 ·cases h
theorem AN (ah:List Int) (k:Kind) (row:List Int) (f:List Count) (sh:aN→Int) (N:Nat) (hN:∀ t,sh t≤N):∀ n,
  (pairs ah k row f n=[]∧i5 N sh (pairs ah k row f n)=⟨⟨0,0,0⟩,(N:Int)+1,9⟩) ∨
  ((i5 N sh (pairs ah k row f n)).e=0∧(∃ z ∈ pairs ah k row f n,(i5 N sh (pairs ah k row f n)).t=z.1)∧(i5 N sh (pairs ah k row f n)).day=sh (i5 N sh (pairs ah k row f n)).t∧∀ z ∈ pairs ah k row f n,Le sh (i5 N sh (pairs ah k row f n)).t z.1)
 | 0=>.inl ⟨rfl,rfl⟩
 | n+1=>by
  have ih:=AN ah k row f sh N hN n
  rw [pz]
  cases hu:pM ah k row f n with
  | none=>rw [show (none:Option (aN × aN)).toList=[] from rfl,List.append_nil];exact ih
  | some y =>
   rw [show (some y).toList=[y] from rfl]
   have hst:i5 N sh (pairs ah k row f n++[y])=mI sh (i5 N sh (pairs ah k row f n)) y:=by unfold i5;rw [List.foldl_append];rfl
   rw [hst]
   have hy:=hN y.1
   have hym:=Gt hu
   have hord:∀ z ∈ pairs ah k row f n,z.1.aR < y.1.aR∨z.1.aR=y.1.aR∧z.1.ay≤y.1.ay:=by
    intro z hz
    unfold pairs at hz
    rw [List.mem_filterMap] at hz
    obtain ⟨q,hq,hz⟩:=hz
    rw [List.mem_range] at hq
    have hzm:=Gt hz
    have:=HK (P:=ax k.ay) hq
    omega
   generalize pairs ah k row f n=L at *
   generalize i5 N sh L=x at *
   refine .inr ?_
   rcases ih with ⟨rfl,rfl⟩|⟨h1,⟨z0,hz0,h2⟩,h3,h4⟩
   ·unfold mI
    rw [if_pos (.inl (by dsimp only;omega))]
    refine ⟨rfl,⟨y,by simp,rfl⟩,rfl,fun z hz=>?_⟩
    simp only [List.nil_append,List.mem_singleton] at hz
    subst hz
    exact .inr ⟨rfl,.inr ⟨rfl,.inr ⟨rfl,Int.le_refl _⟩⟩⟩
   ·unfold mI
    by_cases hc:sh y.1 < x.day∨sh y.1=x.day∧y.1.first < x.t.first
    ·rw [if_pos hc]
     refine ⟨rfl,⟨y,by simp,rfl⟩,rfl,fun z hz=>?_⟩
     rcases List.mem_append.1 hz with hz|hz
     ·have:=h4 z hz
      unfold Le at this ⊢
      dsimp only
      omega
     ·simp only [List.mem_singleton] at hz
      subst hz
      exact .inr ⟨rfl,.inr ⟨rfl,.inr ⟨rfl,Int.le_refl _⟩⟩⟩
    ·rw [if_neg hc]
     refine ⟨h1,⟨z0,List.mem_append_left _ hz0,h2⟩,h3,fun z hz=>?_⟩
     rcases List.mem_append.1 hz with hz|hz
     ·exact h4 z hz
     ·simp only [List.mem_singleton] at hz
      subst hz
      have:=hord z0 hz0
      rw [←h2] at this
      unfold Le
      omega
end Go.Proofs.YtgdbfbalchdmcaaGreat.St




open Go Go.RM
namespace Go.Proofs.YtgdbfbalchdmcaaGreat.St
set_option maxRecDepth 100000
set_option maxHeartbeats 4000000
end Go.Proofs.YtgdbfbalchdmcaaGreat.St

open Go Go.RM
namespace Go.Proofs.YtgdbfbalchdmcaaGreat.St
set_option maxRecDepth 100000
end Go.Proofs.YtgdbfbalchdmcaaGreat.St


open Go Go.RM
namespace Go.Proofs.YtgdbfbalchdmcaaGreat.St
set_option maxRecDepth 100000
theorem ni {k:Kind} {t:aN}:rC k t=true ↔ (k.first.lo≤t.first∧t.first≤k.first.hi)∧(k.aR.lo≤t.aR∧t.aR≤k.aR.hi)∧k.ay.lo≤t.ay∧t.ay≤k.ay.hi:=by
 unfold rC
 simp only [Bool.and_eq_true,bQ]
theorem Cd {ah:List Int} {k:Kind} {row:List Int} {l:List Count} {i:Nat} {t:aN}:t ∈ nh ah k row l i ↔ (rC k t=true∧Nd ah k row l i t=true):=by
 unfold nh Gq
 rw [List.mem_filter,List.mem_map]
 constructor
 ·rintro ⟨⟨q,hq,rfl⟩,ha⟩
  rw [List.mem_range] at hq
  refine ⟨?_,ha⟩
  have hP:0 < ax k.ay:=by
   apply Nat.pos_of_ne_zero
   intro h0
   rw [h0,Nat.mul_zero] at hq
   exact absurd hq (Nat.not_lt_zero _)
  have hM:0 < ax k.aR:=by
   apply Nat.pos_of_ne_zero
   intro h0
   rw [h0,Nat.mul_zero,Nat.zero_mul] at hq
   exact absurd hq (Nat.not_lt_zero _)
  have h1:q / ax k.ay % ax k.aR < ax k.aR:=Nat.mod_lt _ hM
  have h2:q % ax k.ay < ax k.ay:=Nat.mod_lt _ hP
  have h3:q / ax k.ay / ax k.aR < ax k.first:=by
   rw [Nat.div_lt_iff_lt_mul hM,Nat.div_lt_iff_lt_mul hP]
   exact hq
  rw [ni]
  unfold Cb
  dsimp only
  generalize q / ax k.ay % ax k.aR=x at *
  generalize q % ax k.ay=y at *
  generalize q / ax k.ay / ax k.aR=z at *
  clear hq hP hM ha
  unfold ax at *
  omega
 ·rintro ⟨ht,ha⟩
  refine ⟨?_,ha⟩
  rw [ni] at ht
  obtain ⟨a,b,c⟩:=t
  dsimp only at ht
  obtain ⟨x,rfl⟩:∃ x:Nat,a=k.first.lo+x:=⟨(a - k.first.lo).toNat,by omega⟩
  obtain ⟨y,rfl⟩:∃ x:Nat,b=k.aR.lo+x:=⟨(b - k.aR.lo).toNat,by omega⟩
  obtain ⟨z,rfl⟩:∃ x:Nat,c=k.ay.lo+x:=⟨(c - k.ay.lo).toNat,by omega⟩
  have hx:x < ax k.first:=by unfold ax;omega
  have hy:y < ax k.aR:=by unfold ax;omega
  have hz:z < ax k.ay:=by unfold ax;omega
  refine ⟨(x * ax k.aR+y) * ax k.ay+z,?_,AM k hy hz⟩
  rw [List.mem_range]
  have q1:(x+1) * ax k.aR≤ax k.first * ax k.aR:=Nat.mul_le_mul_right _ hx
  rw [Nat.add_mul,Nat.one_mul] at q1
  have q2:(x * ax k.aR+y+1) * ax k.ay≤ax k.first * ax k.aR * ax k.ay:=Nat.mul_le_mul_right _ (by omega)
  rw [Nat.add_mul,Nat.one_mul] at q2
  omega
theorem AO (ah:List Int) (k:Kind) (row:List Int) (t:aN):0≤bI ah k row t∧bI ah k row t≤ah.length:=by
 rcases sI ah k row t ah.length ah.length with h|h
 ·unfold bI
  rw [h]
  omega
 ·unfold bI
  omega
theorem FD {s:aC} {k:Kind} {row:List Int} {l:List Count} {i:Nat} :
  (nh s.ah k row l i=[]∧(i5 s.ah.length (bI s.ah k row) (cF s.ah k row (bY l i))).e=9) ∨
  (∃ t n,(i5 s.ah.length (bI s.ah k row) (cF s.ah k row (bY l i)))=⟨t,n,0⟩∧t ∈ nh s.ah k row l i∧n=bI s.ah k row t∧∀ u ∈ nh s.ah k row l i,n≤bI s.ah k row u):=by
 have hs:=AN s.ah k row (bY l i) (bI s.ah k row) s.ah.length (fun t=>(AO _ _ _ t).2) (ax k.aR * ax k.ay)
 change (cF s.ah k row (bY l i)=[]∧i5 s.ah.length (bI s.ah k row) (cF s.ah k row (bY l i))=_)∨_ at hs
 rcases hs with ⟨h1,h2⟩|⟨h1,⟨z,hz,h2⟩,h3,h4⟩
 ·exact .inl ⟨LJ.1 h1,by rw [h2]⟩
 ·refine .inr ⟨z.1,bI s.ah k row z.1,?_,(D8 hz).1,rfl,fun u hu=>?_⟩
  ·change (i5 s.ah.length (bI s.ah k row) (cF s.ah k row (bY l i))).e=0 at h1
   change (i5 s.ah.length (bI s.ah k row) (cF s.ah k row (bY l i))).t=z.1 at h2
   change (i5 s.ah.length (bI s.ah k row) (cF s.ah k row (bY l i))).day=bI s.ah k row (i5 s.ah.length (bI s.ah k row) (cF s.ah k row (bY l i))).t at h3
   rw [h2] at h3
   generalize i5 s.ah.length (bI s.ah k row) (cF s.ah k row (bY l i))=e at *
   obtain ⟨a,b,c⟩:=e
   dsimp only at h1 h2 h3
   rw [h1,h2,h3]
  ·obtain ⟨y,hy,⟨y1,_⟩,⟨y2,y3⟩,_⟩:=D7 hu
   have h5:=h4 y hy
   change Le (bI s.ah k row) (i5 s.ah.length (bI s.ah k row) (cF s.ah k row (bY l i))).t y.1 at h5
   change (i5 s.ah.length (bI s.ah k row) (cF s.ah k row (bY l i))).t=z.1 at h2
   rw [h2] at h5
   have h6:bI s.ah k row y.1≤bI s.ah k row u:=HJ y1 y2 y3
   unfold Le at h5
   omega
end Go.Proofs.YtgdbfbalchdmcaaGreat.St


open Go Go.RM
namespace Go.Proofs.YtgdbfbalchdmcaaGreat.St
set_option maxRecDepth 100000
set_option maxHeartbeats 4000000
theorem J7 {k:Kind} (h:mH k) (a b c:Int):rC k (Lz k a b c)=true:=by
 have hs:=h.Mh
 have h1:=vc hs.1 a
 have h2:=vc hs.2.1 b
 have h3:=vc hs.2.2 c
 unfold rC Lz
 simp only [Bool.and_eq_true,bQ]
 exact ⟨h1,h2,h3⟩
theorem O5 {a:Int} {n:Nat} (hn:0 < n):∃ i:Nat,i < n∧a % (n:Int)=i:=by
 have h1:=Int.emod_nonneg a (show (n:Int) ≠ 0 by omega)
 have h2:=Int.emod_lt_of_pos a (show 0 < (n:Int) by omega)
 exact ⟨(a % (n:Int)).toNat,by omega,by omega⟩
theorem J8 (one:Bool) {s:aC} (hg:Good s) {i:Nat} (hi:i < s.kinds.length) {t:aN} (h:iE s.ah s.kinds[i] (av i s.ai) t) :
  ∃ u b:Int,Pu one 43 [.ag (aF s),ak i,.ag (dg t),ak s.ah.length] (.tp [.sl ((lvl s.ah s.kinds[i] (av i s.ai) t).map eI) false,ak (bI s.ah s.kinds[i] (av i s.ai) t),ak u,ak b]):=by
 have:=JV one s hg i hi t s.ah.length h
 rw [show ((List.range (s.ah.length+1)).map fun j=>eI (bu s.ah s.kinds[i] (av i s.ai) t s.ah.length j))=(lvl s.ah s.kinds[i] (av i s.ai) t).map eI by unfold lvl;rw [List.map_map];rfl] at this
 exact ⟨_,_,this⟩
end Go.Proofs.YtgdbfbalchdmcaaGreat.St




open Go Go.RM
namespace Go.Proofs.YtgdbfbalchdmcaaGreat.St
set_option maxRecDepth 100000
set_option maxHeartbeats 4000000
def Oa (a b:Int):Int:=if a < b then -1 else if b < a then 1 else 0
def Ob:List Int→List Int→Int
 | [],[]=>0
 | [],_ :: _=>-1
 | _ :: _,[]=>1
 | a :: l,b :: m=>if Oa a b=0 then Ob l m else Oa a b
end Go.Proofs.YtgdbfbalchdmcaaGreat.St
open Go Go.RM
namespace Go.Proofs.YtgdbfbalchdmcaaGreat.St
set_option maxRecDepth 100000
set_option maxHeartbeats 4000000
end Go.Proofs.YtgdbfbalchdmcaaGreat.St

open Go Go.RM
namespace Go.Proofs.YtgdbfbalchdmcaaGreat.St
set_option maxRecDepth 100000
def rI (x y:List Int):Prop:=x.length < y.length∨x.length=y.length∧Ob x y < 0
instance (x y:List Int):Decidable (rI x y):=by unfold rI;infer_instance
end Go.Proofs.YtgdbfbalchdmcaaGreat.St

open Go Go.RM
namespace Go.Proofs.YtgdbfbalchdmcaaGreat.St
set_option maxRecDepth 100000
set_option maxHeartbeats 4000000
end Go.Proofs.YtgdbfbalchdmcaaGreat.St
open Go Go.RM
namespace Go.Proofs.YtgdbfbalchdmcaaGreat.St
set_option maxRecDepth 100000
set_option maxHeartbeats 4000000
def b2 (b:Bool):Int:=if b=true then 1 else 0
theorem Mi (lo hi n:Int):bH lo hi [n]=!gY n lo hi:=by
 rw [bp]
end Go.Proofs.YtgdbfbalchdmcaaGreat.St

open Go Go.RM
namespace Go.Proofs.YtgdbfbalchdmcaaGreat.St
set_option maxRecDepth 100000
set_option maxHeartbeats 4000000
end Go.Proofs.YtgdbfbalchdmcaaGreat.St



open Go Go.RM
namespace Go.Proofs.YtgdbfbalchdmcaaGreat.St
set_option maxRecDepth 100000
theorem vg {s:aC} {l:List Count}:gv s l=0 ↔ ((iD s).2.2=0∧l.length≤8∧∀ c ∈ l,ve s c=0):=by
 unfold gv
 by_cases h1:(iD s).2.2=0
 ·rw [if_neg (by simpa using h1)]
  by_cases h2:8 < (l.length:Int)
  ·rw [if_pos h2]
   exact ⟨fun h=>absurd h (by decide),fun h=>by omega⟩
  ·rw [if_neg h2]
   constructor
   ·intro h
    refine ⟨h1,by omega,fun c hc=>?_⟩
    obtain ⟨i,hi,rfl⟩:=List.getElem_of_mem hc
    have:=fV h i hi
    unfold FA at this
    simpa only [List.getElem?_eq_getElem hi] using this
   ·rintro ⟨_,_,h⟩
    rw [dS]
    intro i hi
    unfold FA
    simp only [List.getElem?_eq_getElem hi]
    exact h _ (List.getElem_mem hi)
 ·rw [if_pos h1]
  exact ⟨fun h=>absurd h h1,fun h=>absurd h.1 h1⟩
theorem qK (s:aC) (h:s.Ok) (l:List Count) (h0:gv s l=0) (i:Nat) (hi:i < s.kinds.length) :
  (yY s l i s.kinds[i]=[]∧Pu true 12 [.ag (aF s),.sl (l.map aM) false,ak i] (.tp [ak 0,ak 9])) ∨
  ∃ n:Int,Pu true 12 [.ag (aF s),.sl (l.map aM) false,ak i] (.tp [ak n,ak 0])∧(0≤n∧n≤s.ah.length)∧(∃ t ∈ yY s l i s.kinds[i],n=bI s.ah s.kinds[i] (av i s.ai) t) ∧
   ∀ u ∈ yY s l i s.kinds[i],n≤bI s.ah s.kinds[i] (av i s.ai) u:=by
 have hla:=J3 true s h l h0 i hi
 unfold qJ at hla
 rcases FD (s:=s) (k:=s.kinds[i]) (row:=av i s.ai) (l:=l) (i:=i) with ⟨hn,h9⟩|⟨v,n,hz,hv,hvn,hlow⟩
 ·rw [h9,if_neg (by decide)] at hla
  exact .inl ⟨hn,hla⟩
 ·rw [hz,if_pos rfl] at hla
  exact .inr ⟨n,hla,by rw [hvn];exact AO _ _ _ _,⟨v,hv,hvn⟩,hlow⟩
end Go.Proofs.YtgdbfbalchdmcaaGreat.St
open Go Go.RM
namespace Go.Proofs.YtgdbfbalchdmcaaGreat.St
set_option maxRecDepth 100000
theorem qL:∀ L:List Count,bU ((L.map aM).flatten)=true
 | []=>rfl
 | t :: L=>by
  rw [List.map_cons,List.flatten_cons]
  exact lV rfl (qL L)
theorem qM (L:List Count):((L.map aM).flatten).length=L.length * 4:=by
 rw [eJ (es:=4) fun el he=>by obtain ⟨t,_,rfl⟩:=List.mem_map.1 he;rfl,List.length_map]
end Go.Proofs.YtgdbfbalchdmcaaGreat.St
open Go Go.RM
namespace Go.Proofs.YtgdbfbalchdmcaaGreat.St
set_option maxRecDepth 100000
set_option maxHeartbeats 4000000
theorem J9 (one:Bool) (a b:Int):Pu one 27 [ak a,ak b] (.ag (vW ⟨a,b⟩)):=by
 refine af.body (fn:=Tryz.f27) rfl rfl rfl rfl ?_
 refine aa (mu:=fun _=>false) ?_
 repeat' (first |refine u1 ?_ |refine u2 ?_ |fail)
 exact ⟨[_],⟨Fz.deep rfl,trivial⟩,rfl⟩
end Go.Proofs.YtgdbfbalchdmcaaGreat.St
