/-
  Contracts of the program's functions and of the document's. Lemmas alone; their conditions stand in them.
-/
import Derived.Test.YtalcbebjpgfnfaaGreatA3
import Derived.Test.YtalcbebjpgfnfaaGreatK12
import Derived.Laws.StructEq
open Go Go.RM
namespace Go.Proofs.YtalcbebjpgfnfaaGreat.St
set_option maxRecDepth 100000
set_option maxHeartbeats 4000000
def L7 (au:List Int) (k:Kind) (row:List Int) (l:List Count) (i:Nat) (t:aE):Bool:=l.all fun c=>!decide (c.kind=(i:Int)) || CU (lvl au k row t) c
def xK (k:Kind) (q:Nat):aE:=⟨k.first.lo+(q / av k.ay / av k.aR:Nat),k.aR.lo+(q / av k.ay % av k.aR:Nat),k.ay.lo+(q % av k.ay:Nat)⟩
def CV (au:List Int) (k:Kind) (row:List Int) (l:List Count) (i:Nat) (n:Nat):List aE:=((List.range n).map (xK k)).filter (L7 au k row l i)
def j9 (au:List Int) (k:Kind) (row:List Int) (l:List Count) (i:Nat):List aE:=CV au k row l i (av k.first * av k.aR * av k.ay)
theorem zL (k:Kind) {a m p:Nat} (hm:m < av k.aR) (hp:p < av k.ay):xK k ((a * av k.aR+m) * av k.ay+p)=⟨k.first.lo+a,k.aR.lo+m,k.ay.lo+p⟩:=by
 unfold xK
 rw [Nat.mul_comm _ (av k.ay),Nat.mul_add_div (by omega),Nat.div_eq_of_lt hp,Nat.mul_add_mod,Nat.mod_eq_of_lt hp,Nat.add_zero,Nat.mul_comm a,Nat.mul_add_div (by omega),Nat.div_eq_of_lt hm,Nat.mul_add_mod,Nat.mod_eq_of_lt hm,Nat.add_zero]
abbrev IF (L:List aE):AV:=.bX 1 L.length 0 L.length (L.length+1)
theorem Ea (L:List aE) (t:aE):IF (L++[t])=.bX 1 (L.length+1) 0 (L.length+1) (L.length+1+1):=by
 show AV.bX _ _ _ _ _=_
 rw [List.length_append]
 rfl
end Go.Proofs.YtalcbebjpgfnfaaGreat.St
open Go Go.RM
namespace Go.Proofs.YtalcbebjpgfnfaaGreat.St
set_option maxRecDepth 100000
set_option maxHeartbeats 4000000
theorem Gy {own:Bool} {fr:Nat→AV} {hp:List AB} {K:AV→List AB→Prop} {x:Operand} {s:aB} {k:Kind} {row:List Int} {c:AV} {j aD es:Nat} (h:row.length=30) (hx:aQ fr x=.ptr j aD 0) (hj:hp[j]?=some (.cells (aF s k row c) es aD)) (hk:K (.ag (aF s k row c)) hp):RM.wpOp TT own (.load 114 x) fr hp K:=by
 show fT TT 114 (aQ fr x) hp K
 rw [hx]
 refine ⟨_,es,hj,And.intro (by rw [dS h];exact Nat.le_refl _) ?_⟩
 rw [nA h]
 exact hk
theorem M0 {own:Bool} {fr:Nat→AV} {hp:List AB} {K:AV→List AB→Prop} {a x:Operand} {s:aB} {k:Kind} {row:List Int} {f:List (List AV)} {b:Bool} {z:List AV} {j aD es:Nat} (h:row.length=30) (ha:aQ fr a=.ptr j aD 0) (hx:aQ fr x=.ag (aF s k row (.sl f b))) (hj:hp[j]?=some (.cells z es aD)) (hz:z.length=43)
  (hk:K .cv (hp.set j (.cells (aF s k row (.sl f b)) es aD))):RM.wpOp TT own (.store 114 a x) fr hp K:=by
 show force (aQ fr x) fun v=>dW TT 114 (aQ fr a) v hp K
 rw [hx,ha]
 refine ⟨z,es,hj,rfl,gu,dS h,by omega,?_⟩
 rw [zH h hz]
 exact hk
def pG (s:aB) (l:List Count) (i:Nat) (k:Kind):Ko:=iL s.au.length (bA s.au k (ak i s.aj)) (bu s.au k (ak i s.aj) (bp l i))
theorem Kq (one:Bool) (s:aB) (l:List Count) (h0:dY s l=0) (i:Nat) (hi:i < s.kinds.length) :
 Pu one 52 [.ag (aF s s.kinds[i] (ak i s.aj) (.sl ((bp l i).map aG) false))] (.tp [.ag (aV (pG s l i s.kinds[i]).t),ah (pG s l i s.kinds[i]).day,ah (pG s l i s.kinds[i]).e]):=D7 one (uy h0 hi)
theorem IG (one:Bool) (s:aB) (h:s.Ok) (l:List Count) (h0:dY s l=0) (i:Nat) (hi:i < s.kinds.length) :
  Pu one 12 [.ag (aO s),.sl (l.map aG) false,ah i] (.tp [ah (if (pG s l i s.kinds[i]).e=0 then (pG s l i s.kinds[i]).day else 0),ah (pG s l i s.kinds[i]).e]):=by
 have hen:=xJ one s h l h0 i hi
 have hea:=Kq one s l h0 i hi
 have h30:=(uy h0 hi).row.len
 generalize pG s l i s.kinds[i]=z at hea ⊢
 generalize ak i s.aj=row at *
 generalize s.kinds[i]=k at *
 by_cases he:z.e=0
 ·rw [if_pos he]
  rw [he] at hea ⊢
  refine af.body (fn:=Tryz.f12) rfl rfl rfl rfl ?_
  refine aa (mu:=fun _=>false) ?_
  repeat' (first |refine M0 h30 rfl rfl rfl rfl ?_ |refine Gy h30 rfl rfl ?_ |refine u1 ?_ |refine u2 ?_ |refine af.call hen rfl rfl ?_ |refine af.call hea rfl (jk rfl) ?_ |fail)
  exact ⟨[_,_],⟨Fz.deep rfl,Fz.deep rfl,trivial⟩,rfl⟩
 ·rw [if_neg he]
  have d1:(!decide (z.e=0))=true:=by simpa using he
  refine af.body (fn:=Tryz.f12) rfl rfl rfl rfl ?_
  refine aa (mu:=fun _=>false) ?_
  repeat' (first |refine M0 h30 rfl rfl rfl rfl ?_ |refine Gy h30 rfl rfl ?_ |refine u1 ?_ |refine u2 ?_ |refine af.call hen rfl rfl ?_ |refine af.call hea rfl (jk rfl) ?_ |fail)
  exact ⟨[_,_],⟨Fz.deep rfl,Fz.deep rfl,trivial⟩,rfl⟩
end Go.Proofs.YtalcbebjpgfnfaaGreat.St
open Go Go.RM
namespace Go.Proofs.YtalcbebjpgfnfaaGreat.St
set_option maxRecDepth 100000
set_option maxHeartbeats 4000000
abbrev oK (s:aB) (l:List Count) (i:Nat) (k:Kind):List aE:=j9 s.au k (ak i s.aj) l i
end Go.Proofs.YtalcbebjpgfnfaaGreat.St

open Go Go.RM
namespace Go.Proofs.YtalcbebjpgfnfaaGreat.St
theorem uZ {k:Kind} {t u:aE} {down:Int} {i:Nat} {n:Int} (hm:u.aR=t.aR):s9 k u down i n=s9 k t down i n:=by
 unfold s9;rw [hm]
theorem Bc {au:List Int} {k:Kind} {row:List Int} {m p n n':Int} (h:n≤n') (down:Int):∀ i,aW au k row ⟨n,m,p⟩ down i≤aW au k row ⟨n',m,p⟩ down i
 | 0=>h
 | i+1=>by
  have ih:=Bc (au:=au) (k:=k) (row:=row) (m:=m) (p:=p) h down i
  have hu:=uZ (k:=k) (t:=⟨n,m,p⟩) (u:=⟨n',m,p⟩) (down:=down) (i:=i) (n:=au.getD i 0) rfl
  simp only [aW,iT] at ih ⊢
  rw [hu]
  omega
theorem xL {au:List Int} {k:Kind} {row:List Int} {m p n n':Int} (h:n≤n') (down:Int):∀ i,bD au k row ⟨n,m,p⟩ down i≤bD au k row ⟨n',m,p⟩ down i
 | 0=>Int.le_refl _
 | i+1=>by
  have ih:=xL (au:=au) (k:=k) (row:=row) (m:=m) (p:=p) h down i
  have hh:=Bc (au:=au) (k:=k) (row:=row) (m:=m) (p:=p) h down i
  have hu:=uZ (k:=k) (t:=⟨n,m,p⟩) (u:=⟨n',m,p⟩) (down:=down) (i:=i) (n:=au.getD i 0) rfl
  have hr:iT au k row ⟨n,m,p⟩ down i (aW au k row ⟨n,m,p⟩ down i)≤iT au k row ⟨n',m,p⟩ down i (aW au k row ⟨n',m,p⟩ down i):=by
   unfold iT
   rw [hu]
   generalize aW au k row ⟨n,m,p⟩ down i=a at *
   generalize aW au k row ⟨n',m,p⟩ down i=b at *
   dsimp only
   omega
  show (if _ < 0 then _ else _)≤(if _ < 0 then _ else _)
  split <;> split <;> omega
theorem II {au:List Int} {k:Kind} {row:List Int} {t:aE} {d:Nat} (h:d≤au.length):(lvl au k row t).getD d 0=aW au k row t au.length d:=by
 unfold lvl
 rw [List.getD_eq_getElem?_getD,List.getElem?_map,List.getElem?_range (by omega)]
 rfl
theorem IJ {au:List Int} {k:Kind} {row:List Int} {m p n n':Int} (h:n≤n') (d:Nat):(lvl au k row ⟨n,m,p⟩).getD d 0≤(lvl au k row ⟨n',m,p⟩).getD d 0:=by
 by_cases hd:d≤au.length
 ·rw [II hd,II hd];exact Bc h _ _
 ·rw [List.getD_eq_getElem?_getD,List.getD_eq_getElem?_getD,List.getElem?_eq_none (by rw [vJ];omega),List.getElem?_eq_none (by rw [vJ];omega)]
  exact Int.le_refl _
theorem qj {au:List Int} {k:Kind} {row:List Int} {f:List Count} {b:Bool} {m p n n':Int} (h:n≤n') (he:cu au k row f b ⟨n,m,p⟩=true):cu au k row f b ⟨n',m,p⟩=true:=by
 unfold cu at he ⊢
 cases b with
 | true =>
  simp only [cond_true,List.any_eq_true] at he ⊢
  obtain ⟨c,hc,h1⟩:=he
  refine ⟨c,hc,?_⟩
  unfold tf at h1 ⊢
  have:=IJ (au:=au) (k:=k) (row:=row) (m:=m) (p:=p) h c.day.toNat
  rw [decide_eq_true_eq] at h1 ⊢
  omega
 | false =>
  simp only [cond_false,Bool.not_eq_true',List.any_eq_false] at he ⊢
  intro c hc h1
  apply he c hc
  unfold pF at h1 ⊢
  have:=IJ (au:=au) (k:=k) (row:=row) (m:=m) (p:=p) h c.day.toNat
  rw [decide_eq_true_eq] at h1 ⊢
  omega
theorem IK (au:List Int) (k:Kind) (row:List Int) (l:List Count) (i:Nat) (t:aE):L7 au k row l i t=true ↔ (cu au k row (bp l i) false t=true∧cu au k row (bp l i) true t=false):=by
 have e:L7 au k row l i t=(bp l i).all (CU (lvl au k row t)):=by
  unfold L7 bp
  rw [List.all_filter]
 rw [e]
 unfold cu
 simp only [cond_false,cond_true,Bool.not_eq_true',List.any_eq_false,List.all_eq_true]
 unfold CU pF tf
 constructor
 ·intro h
  exact ⟨fun c hc=>by have:=fm.1 (h c hc);rw [decide_eq_true_eq];omega,fun c hc=>by have:=fm.1 (h c hc);rw [decide_eq_true_eq];omega⟩
 ·rintro ⟨h1,h2⟩ c hc
  have a:=h1 c hc
  have b:=h2 c hc
  rw [decide_eq_true_eq] at a b
  exact fm.2 (by omega)
theorem Fi (au:List Int) (k:Kind) (row:List Int) (l:List Count) (i:Nat) (m p:Int) {a:Nat} (ha:a < av k.first) :
  L7 au k row l i ⟨k.first.lo+a,m,p⟩=true ↔ (oJ au k row (bp l i) m p≤k.first.lo+a∧k.first.lo+a≤jl au k row (bp l i) m p):=by
 rw [IK]
 have b0:=nF (fun i'=>cu au k row (bp l i) false ⟨k.first.lo+(i':Int),m,p⟩) 0 (av k.first) (Nat.zero_le _) (fun a b _ h _ he=>qj (by omega) he)
 have b1:=nF (fun i'=>cu au k row (bp l i) true ⟨k.first.lo+(i':Int),m,p⟩) 0 (av k.first) (Nat.zero_le _) (fun a b _ h _ he=>qj (by omega) he)
 have c0:oJ au k row (bp l i) m p=k.first.lo+bs (fun i'=>cu au k row (bp l i) false ⟨k.first.lo+(i':Int),m,p⟩) 0 (av k.first):=rfl
 have c1:jl au k row (bp l i) m p=k.first.lo+bs (fun i'=>cu au k row (bp l i) true ⟨k.first.lo+(i':Int),m,p⟩) 0 (av k.first) - 1:=rfl
 generalize hr0:bs (fun i'=>cu au k row (bp l i) false ⟨k.first.lo+(i':Int),m,p⟩) 0 (av k.first)=r0 at *
 generalize hr1:bs (fun i'=>cu au k row (bp l i) true ⟨k.first.lo+(i':Int),m,p⟩) 0 (av k.first)=r1 at *
 have h0:cu au k row (bp l i) false ⟨k.first.lo+a,m,p⟩=true ↔ r0≤a:=by
  constructor
  ·intro h
   apply Nat.le_of_not_lt
   intro hlt
   have:=b0.1 a (Nat.zero_le _) hlt
   rw [h] at this;cases this
  ·intro h
   exact qj (by omega) (b0.2 (by omega))
 have h1:cu au k row (bp l i) true ⟨k.first.lo+a,m,p⟩=false ↔ a < r1:=by
  constructor
  ·intro h
   apply Nat.lt_of_not_le
   intro hle
   have:=qj (n:=k.first.lo+r1) (n':=k.first.lo+a) (by omega) (b1.2 (by omega))
   rw [h] at this;cases this
  ·intro h
   exact b1.1 a (Nat.zero_le _) h
 rw [h0,h1,c0,c1]
 omega
theorem Kr {au:List Int} {k:Kind} {row:List Int} {l:List Count} {i:Nat} {t:aE} (h:t ∈ j9 au k row l i) :
  ∃ a m p:Nat,a < av k.first∧m < av k.aR∧p < av k.ay∧t=⟨k.first.lo+a,k.aR.lo+m,k.ay.lo+p⟩∧oJ au k row (bp l i) (k.aR.lo+m) (k.ay.lo+p)≤t.first∧t.first≤jl au k row (bp l i) (k.aR.lo+m) (k.ay.lo+p):=by
 unfold j9 CV at h
 rw [List.mem_filter,List.mem_map] at h
 obtain ⟨⟨q,hq,rfl⟩,ha⟩:=h
 rw [List.mem_range] at hq
 have hP:0 < av k.ay:=Nat.pos_of_ne_zero fun e=>by rw [e] at hq;simp at hq
 have hM:0 < av k.aR:=Nat.pos_of_ne_zero fun e=>by rw [e] at hq;simp at hq
 have h1:q / av k.ay < av k.first * av k.aR:=Nat.div_lt_of_lt_mul (by rw [Nat.mul_comm];exact hq)
 have h2:q / av k.ay / av k.aR < av k.first:=Nat.div_lt_of_lt_mul (by rw [Nat.mul_comm];exact h1)
 refine ⟨q / av k.ay / av k.aR,q / av k.ay % av k.aR,q % av k.ay,h2,Nat.mod_lt _ hM,Nat.mod_lt _ hP,rfl,?_⟩
 exact (Fi au k row l i _ _ h2).1 ha
theorem Fj {au:List Int} {k:Kind} {row:List Int} {l:List Count} {i a m p:Nat} (ha:a < av k.first) (hm:m < av k.aR) (hp:p < av k.ay)
  (h1:oJ au k row (bp l i) (k.aR.lo+m) (k.ay.lo+p)≤k.first.lo+a) (h2:k.first.lo+a≤jl au k row (bp l i) (k.aR.lo+m) (k.ay.lo+p)):(⟨k.first.lo+a,k.aR.lo+m,k.ay.lo+p⟩:aE) ∈ j9 au k row l i:=by
 unfold j9 CV
 rw [List.mem_filter,List.mem_map]
 refine ⟨⟨(a * av k.aR+m) * av k.ay+p,?_,zL k hm hp⟩,(Fi au k row l i _ _ ha).2 ⟨h1,h2⟩⟩
 rw [List.mem_range]
 have q1:(a+1) * av k.aR≤av k.first * av k.aR:=Nat.mul_le_mul_right _ ha
 rw [Nat.add_mul,Nat.one_mul] at q1
 have q2:(a * av k.aR+m+1) * av k.ay≤av k.first * av k.aR * av k.ay:=Nat.mul_le_mul_right _ (by omega)
 rw [Nat.add_mul,Nat.one_mul] at q2
 omega
theorem qk {au:List Int} {k:Kind} {row:List Int} {f:List Count} {y:aE × aE} (h:y ∈ bu au k row f) :
  ∃ m p:Nat,m < av k.aR∧p < av k.ay∧oJ au k row f (k.aR.lo+m) (k.ay.lo+p)≤jl au k row f (k.aR.lo+m) (k.ay.lo+p) ∧
   y=(⟨oJ au k row f (k.aR.lo+m) (k.ay.lo+p),k.aR.lo+m,k.ay.lo+p⟩,⟨jl au k row f (k.aR.lo+m) (k.ay.lo+p),k.aR.lo+m,k.ay.lo+p⟩):=by
 unfold bu pairs at h
 rw [List.mem_filterMap] at h
 obtain ⟨q,hq,h⟩:=h
 rw [List.mem_range] at hq
 have hP:0 < av k.ay:=Nat.pos_of_ne_zero fun e=>by rw [e] at hq;simp at hq
 unfold oF mV at h
 split at h
 ·rename_i hle
  cases h
  exact ⟨q / av k.ay,q % av k.ay,Nat.div_lt_of_lt_mul (by rw [Nat.mul_comm];exact hq),Nat.mod_lt _ hP,hle,rfl⟩
 ·cases h
theorem Gz {au:List Int} {k:Kind} {row:List Int} {f:List Count} {m p:Nat} (hm:m < av k.aR) (hp:p < av k.ay) (hle:oJ au k row f (k.aR.lo+m) (k.ay.lo+p)≤jl au k row f (k.aR.lo+m) (k.ay.lo+p)) :
  ((⟨oJ au k row f (k.aR.lo+m) (k.ay.lo+p),k.aR.lo+m,k.ay.lo+p⟩,⟨jl au k row f (k.aR.lo+m) (k.ay.lo+p),k.aR.lo+m,k.ay.lo+p⟩):aE × aE) ∈ bu au k row f:=by
 unfold bu pairs
 rw [List.mem_filterMap]
 refine ⟨m * av k.ay+p,?_,?_⟩
 ·rw [List.mem_range]
  have:(m+1) * av k.ay≤av k.aR * av k.ay:=Nat.mul_le_mul_right _ hm
  rw [Nat.add_mul,Nat.one_mul] at this
  omega
 ·rw [IE au k row f hp]
  unfold mV
  rw [if_pos hle]
theorem Ks (au:List Int) (k:Kind) (row:List Int) (f:List Count) (m p:Int) (hle:oJ au k row f m p≤jl au k row f m p):∃ a b:Nat,a < av k.first∧b < av k.first∧oJ au k row f m p=k.first.lo+a∧jl au k row f m p=k.first.lo+b:=by
 have b0:=(pq (fun i'=>cu au k row f false ⟨k.first.lo+(i':Int),m,p⟩) 0 (av k.first) (Nat.zero_le _)).2
 have b1:=(pq (fun i'=>cu au k row f true ⟨k.first.lo+(i':Int),m,p⟩) 0 (av k.first) (Nat.zero_le _)).2
 have c0:oJ au k row f m p=k.first.lo+bs (fun i'=>cu au k row f false ⟨k.first.lo+(i':Int),m,p⟩) 0 (av k.first):=rfl
 have c1:jl au k row f m p=k.first.lo+bs (fun i'=>cu au k row f true ⟨k.first.lo+(i':Int),m,p⟩) 0 (av k.first) - 1:=rfl
 generalize bs (fun i'=>cu au k row f false ⟨k.first.lo+(i':Int),m,p⟩) 0 (av k.first)=r0 at *
 generalize bs (fun i'=>cu au k row f true ⟨k.first.lo+(i':Int),m,p⟩) 0 (av k.first)=r1 at *
 exact ⟨r0,r1 - 1,by omega,by omega,by omega,by omega⟩
theorem xM {au:List Int} {k:Kind} {row:List Int} {l:List Count} {i:Nat} {t:aE} (h:t ∈ j9 au k row l i):∃ y ∈ bu au k row (bp l i),(y.1.first≤t.first∧t.first≤y.2.first)∧(y.1.aR=t.aR∧y.1.ay=t.ay)∧y.2.aR=t.aR∧y.2.ay=t.ay:=by
 obtain ⟨a,m,p,_,hm,hp,rfl,h1,h2⟩:=Kr h
 exact ⟨_,Gz hm hp (by omega),⟨h1,h2⟩,⟨rfl,rfl⟩,rfl,rfl⟩
theorem xN {au:List Int} {k:Kind} {row:List Int} {l:List Count} {i:Nat} {y:aE × aE} (h:y ∈ bu au k row (bp l i)):y.1 ∈ j9 au k row l i∧y.2 ∈ j9 au k row l i:=by
 obtain ⟨m,p,hm,hp,hle,rfl⟩:=qk h
 obtain ⟨a,b,ha,hb,ea,eb⟩:=Ks _ _ _ _ _ _ hle
 dsimp only
 constructor
 ·have:=Fj (au:=au) (row:=row) (l:=l) (i:=i) ha hm hp (by omega) (by omega)
  rw [←ea] at this
  exact this
 ·have:=Fj (au:=au) (row:=row) (l:=l) (i:=i) hb hm hp (by omega) (by omega)
  rw [←eb] at this
  exact this
end Go.Proofs.YtalcbebjpgfnfaaGreat.St
open Go Go.RM
namespace Go.Proofs.YtalcbebjpgfnfaaGreat.St
theorem GA {au:List Int} {k:Kind} {row:List Int} {t u:aE} (h:t.first≤u.first) (h1:t.aR=u.aR) (h2:t.ay=u.ay):bA au k row t≤bA au k row u:=by
 obtain ⟨a,b,c⟩:=t
 obtain ⟨a',b',c'⟩:=u
 dsimp only at h h1 h2
 subst h1 h2
 exact xL h _ _
theorem Bd {au:List Int} {k:Kind} {row:List Int} {l:List Count} {i:Nat}:bu au k row (bp l i)=[] ↔ j9 au k row l i=[]:=by
 constructor
 ·intro h
  apply List.eq_nil_iff_forall_not_mem.2
  intro t ht
  obtain ⟨y,hy,_⟩:=xM ht
  rw [h] at hy;cases hy
 ·intro h
  apply List.eq_nil_iff_forall_not_mem.2
  intro y hy
  have:=(xN hy).1
  rw [h] at this;cases this
def Le (sh:aE→Int) (t u:aE):Prop:=sh t < sh u∨sh t=sh u∧(t.first < u.first∨t.first=u.first∧(t.aR < u.aR∨t.aR=u.aR∧t.ay≤u.ay))
theorem GC {q n P:Nat} (h:q < n):q / P < n / P∨(q / P=n / P∧q % P < n % P):=by
 have h1:=Nat.div_le_div_right (c:=P) (Nat.le_of_lt h)
 have h2:=Nat.div_add_mod q P
 have h3:=Nat.div_add_mod n P
 by_cases he:q / P=n / P
 ·rw [he] at h2
  exact .inr ⟨he,by omega⟩
 ·exact .inl (by omega)
theorem Fk {au:List Int} {k:Kind} {row:List Int} {f:List Count} {q:Nat} {y:aE × aE} (h:oF au k row f q=some y):y.1.aR=k.aR.lo+(q / av k.ay:Nat)∧y.1.ay=k.ay.lo+(q % av k.ay:Nat):=by
 unfold oF mV at h
 split at h
 ·cases h;exact ⟨rfl,rfl⟩
 ·cases h
theorem zM (au:List Int) (k:Kind) (row:List Int) (f:List Count) (sh:aE→Int) (N:Nat) (hN:∀ t,sh t≤N):∀ n,
  (pairs au k row f n=[]∧iL N sh (pairs au k row f n)=⟨⟨0,0,0⟩,(N:Int)+1,9⟩) ∨
  ((iL N sh (pairs au k row f n)).e=0∧(∃ z ∈ pairs au k row f n,(iL N sh (pairs au k row f n)).t=z.1)∧(iL N sh (pairs au k row f n)).day=sh (iL N sh (pairs au k row f n)).t∧∀ z ∈ pairs au k row f n,Le sh (iL N sh (pairs au k row f n)).t z.1)
 | 0=>.inl ⟨rfl,rfl⟩
 | n+1=>by
  have ih:=zM au k row f sh N hN n
  rw [og]
  cases hu:oF au k row f n with
  | none=>rw [show (none:Option (aE × aE)).toList=[] from rfl,List.append_nil];exact ih
  | some y =>
   rw [show (some y).toList=[y] from rfl]
   have hst:iL N sh (pairs au k row f n++[y])=lS sh (iL N sh (pairs au k row f n)) y:=by unfold iL;rw [List.foldl_append];rfl
   rw [hst]
   have hy:=hN y.1
   have hym:=Fk hu
   have hord:∀ z ∈ pairs au k row f n,z.1.aR < y.1.aR∨z.1.aR=y.1.aR∧z.1.ay≤y.1.ay:=by
    intro z hz
    unfold pairs at hz
    rw [List.mem_filterMap] at hz
    obtain ⟨q,hq,hz⟩:=hz
    rw [List.mem_range] at hq
    have hzm:=Fk hz
    have:=GC (P:=av k.ay) hq
    omega
   generalize pairs au k row f n=L at *
   generalize iL N sh L=x at *
   refine .inr ?_
   rcases ih with ⟨rfl,rfl⟩|⟨h1,⟨z0,hz0,h2⟩,h3,h4⟩
   ·unfold lS
    rw [if_pos (.inl (by dsimp only;omega))]
    refine ⟨rfl,⟨y,by simp,rfl⟩,rfl,fun z hz=>?_⟩
    simp only [List.nil_append,List.mem_singleton] at hz
    subst hz
    exact .inr ⟨rfl,.inr ⟨rfl,.inr ⟨rfl,Int.le_refl _⟩⟩⟩
   ·unfold lS
    by_cases hc:sh y.1 < x.day∨sh y.1=x.day∧y.1.first < x.t.first
    ·rw [if_pos hc]
     refine ⟨rfl,⟨y,by simp,rfl⟩,rfl,fun z hz=>?_⟩
     rcases List.mem_append.1 hz with hz|hz
     ·have:=h4 z hz
      unfold Le at this ⊢
      dsimp only
      omega
     ·simp only [List.mem_singleton] at hz
      subst hz
      exact .inr ⟨rfl,.inr ⟨rfl,.inr ⟨rfl,Int.le_refl _⟩⟩⟩
    ·rw [if_neg hc]
     refine ⟨h1,⟨z0,List.mem_append_left _ hz0,h2⟩,h3,fun z hz=>?_⟩
     rcases List.mem_append.1 hz with hz|hz
     ·exact h4 z hz
     ·simp only [List.mem_singleton] at hz
      subst hz
      have:=hord z0 hz0
      rw [←h2] at this
      unfold Le
      omega
end Go.Proofs.YtalcbebjpgfnfaaGreat.St


open Go Go.RM
namespace Go.Proofs.YtalcbebjpgfnfaaGreat.St
set_option maxRecDepth 100000
set_option maxHeartbeats 4000000
theorem xO:∀ L:List aE,bw ((L.map aV).flatten)=true
 | []=>rfl
 | t :: L=>by
  rw [List.map_cons,List.flatten_cons]
  exact fW rfl (xO L)
theorem xP (L:List aE):((L.map aV).flatten).length=L.length * 3:=by
 rw [dc (es:=3) fun el he=>by obtain ⟨t,_,rfl⟩:=List.mem_map.1 he;rfl,List.length_map]
abbrev Kt (L:List aE):AB:=.cells ((L.map aV).flatten) 3 L.length
theorem Ku (L:List aE) (b:AB) (hb:b.di 2=true):([b,Kt L]:List AB).all (AB.di 2)=true:=by
 show (b.di 2 && (ig 2 ((L.map aV).flatten) && true))=true
 rw [hb,show ig 2 ((L.map aV).flatten)=true from bV 2 (.ag _) (xO L)]
 rfl
theorem L8 (L:List aE) (b:AB):Fz [b,Kt L] (IF L) (.sl (L.map aV) false) :=
 Fz.row (es:=3) rfl (by rw [xP];omega) (by simp) (fun el he=>by obtain ⟨t,_,rfl⟩:=List.mem_map.1 he;rfl) (by rw [List.drop_zero,List.take_of_length_le (by rw [xP];omega)]) (xO L) (fun h=>Bool.noConfusion h)
theorem GD (L:List aE) (t:aE):Kt (L++[t])=.cells ((L.map aV).flatten++[aV t].flatten) 3 (L.length+1):=by
 show AB.cells _ _ _=_
 rw [List.map_append,List.flatten_append,List.length_append]
 rfl
theorem u0 {s:aB} {k:Kind} {row:List Int} {f:List Count} (h:lR s k row f):(bu s.au k row f).length≤91:=by
 have k2:=h.kind.aR
 have k3:=h.kind.ay
 unfold bu pairs
 refine Nat.le_trans (List.length_filterMap_le _ _) ?_
 rw [List.length_range]
 have h1:av k.aR≤7:=by unfold av;omega
 have h2:av k.ay≤13:=by unfold av;omega
 exact Nat.mul_le_mul h1 h2
theorem Kv (one:Bool) {s:aB} {k:Kind} {row:List Int} {f:List Count} (h:lR s k row f) :
  Pu one 56 [.ag (aF s k row (.sl (f.map aG) false))] (.sl (((bu s.au k row f).map Prod.fst).map aV) false):=by
 have h30:=h.row.len
 have htr:=xH one (s:=s) (k:=k) (row:=row) (f:=f)
 have hg:=xI one h
 have hl:=u0 h
 generalize bu s.au k row f=L at hg hl ⊢
 refine af.body (fn:=Tryz.f56) rfl rfl rfl rfl ?_
 refine RM.de (mu:=fun _=>false) ?_
 repeat' (first |refine ⟨rfl,gu,gP,?_⟩ |refine u1 ?_ |refine u2 ?_ |fail)
 refine RM.de (mu:=fun _=>false) ?_
 repeat' (first |refine Lh h30 rfl ?_ |refine u1 ?_ |refine af.call htr rfl (jk rfl) ?_ |fail)
 refine az.aK (ai.trans (ai.ue 3) (ai.LH 0 rfl (i6.MJ (dR.ud (j:=1) (aD:=0) (c:=1))) rfl)) ?_
 refine az.range (fun i=>[.cells [IF ((L.take i).map Prod.fst)] 0 0,Kt ((L.take i).map Prod.fst)]) (fun _=>bN.none) (fun _=>True) rfl hg rfl rfl trivial (fun i x hx _=>?_) (fun _=>?_)
 ·obtain ⟨y,hy,rfl⟩:=Bb hx
  have hn:(L.take (i+1)).map Prod.fst=(L.take i).map Prod.fst++[y.1]:=by
   rw [List.take_add_one,hy,List.map_append]
   rfl
  have hlen:((L.take i).map Prod.fst).length≤91:=by rw [List.length_map,List.length_take];omega
  rw [hn]
  generalize (L.take i).map Prod.fst=z at *
  refine ⟨rfl,?_⟩
  refine aa (mu:=fun _=>false) ?_
  repeat' (first |refine u1 ?_ |refine u2 ?_ |fail)
  refine aa (mu:=fun _=>false) ?_
  repeat' (first |refine u1 ?_ |refine u2 ?_ |fail)
  refine ⟨[aV y.1],⟨fun el hel=>by rw [List.mem_singleton.1 hel];rfl,rfl⟩,rfl,_,rfl,by rw [xP],Or.inr rfl,And.intro (by dsimp only [List.length];omega) (by dsimp only [List.length];omega),fun hn=>absurd hn (by simp),fun _=>?_⟩
  repeat' (first |refine u1 ?_ |refine u2 ?_ |fail)
  exact ⟨_,ai.to (l:=[]) 2 (by rw [GD,Ea];rfl) trivial (Nat.le_refl _) rfl (Ku _ _ rfl)⟩
 ·rw [List.take_of_length_le (by simp)]
  repeat' (first |refine u1 ?_ |fail)
  refine aa (mu:=fun _=>false) ?_
  repeat' (first |refine u1 ?_ |refine u2 ?_ |fail)
  exact ⟨[_],⟨L8 _ _,trivial⟩,rfl⟩
end Go.Proofs.YtalcbebjpgfnfaaGreat.St
open Go Go.RM
namespace Go.Proofs.YtalcbebjpgfnfaaGreat.St
set_option maxRecDepth 100000
set_option maxHeartbeats 4000000
def eO (au:List Int) (k:Kind) (row:List Int) (down:Int) (t:aE):Bool:=decide (bD au k row t down au.length < au.length)
theorem IL (one:Bool) {s:aB} {k:Kind} {row:List Int} {cnts:List (List AV)} {t:aE} {down:Int} (h:eK s.au k row t) :
  af TT TB one (.fn 104 [] [.pt (aF s k row (.sl cnts false)) 0,.pt [ah down] 0]) [.ag (aV t)] (BB (eO s.au k row down t)):=by
 have h30:=h.row.len
 have em:((s.au.map eI).length:Int)=s.au.length:=by simp
 have hs:=Fh true (cnts:=cnts) (down:=down) h
 unfold eO
 rw [←em]
 refine af.body (fn:=Tryz.f104) rfl rfl rfl rfl ?_
 refine aa (mu:=fun _=>false) ?_
 repeat' (first |refine And.intro (by exact jk rfl) ?_ |refine Lh h30 rfl ?_ |refine u1 ?_ |with_reducible refine RM.EL rfl ?_ |refine u2 ?_ |refine ⟨_,hs,?_⟩ |fail)
 exact ⟨[_],⟨Fz.deep rfl,trivial⟩,rfl⟩
theorem Kw (one:Bool) {s:aB} {k:Kind} {row:List Int} {cnts:List (List AV)} {L:List aE} {full:Bool} {down:Int} (h:∀ t ∈ L,eK s.au k row t) (hl:L.length≤maxLen) :
  Pu one 59 [.ag (aF s k row (.sl cnts false)),.sl (L.map aV) full,ah down] (BB (!L.any (eO s.au k row down))):=by
 have hc:=s5 one 104 [] [.pt (aF s k row (.sl cnts false)) 0,.pt [ah down] 0] rfl (eO s.au k row down) L full hl fun t ht=>IL one (h t ht)
 refine af.body (fn:=Tryz.f59) rfl rfl rfl rfl ?_
 refine aa (mu:=fun _=>false) ?_
 repeat' (first |refine ⟨rfl,gu,gP,?_⟩ |refine u1 ?_ |refine u2 ?_ |refine af.call hc rfl rfl ?_ |fail)
 exact ⟨[_],⟨Fz.deep rfl,trivial⟩,rfl⟩
theorem IM (one:Bool) {s:aB} {k:Kind} {row:List Int} {cnts:List (List AV)} {L:List aE} (day:Nat) (n:Int) (h30:row.length=30) (hd:day < 30) (hb:(0≤n∧n≤300)∧0≤row.getD day 0∧row.getD day 0≤300 * 9)
  (h:∀ t ∈ L,eK s.au k (row.set day (row.getD day 0+n)) t) (hl:L.length≤maxLen) :
  af TT TB one (.fn 58 [] [.pt (aF s k row (.sl cnts false)) 0,.pt [ah day] 0,.pt [.sl (L.map aV) false] 0]) [ah n] (BB (!L.any (eO s.au k (row.set day (row.getD day 0+n)) s.au.length))):=by
 have em:((s.au.map eI).length:Int)=s.au.length:=by simp
 have hla:=Kw one (cnts:=cnts) (L:=L) (full:=false) (down:=s.au.length) h hl
 rw [←em] at hla ⊢
 have hg:(aF s k row (.sl cnts false))[0+12+day * 1]?=some (ah (row.getD day 0)):=xA (by omega)
 refine af.body (fn:=Tryz.f58) rfl rfl rfl rfl ?_
 refine RM.de (mu:=fun _=>false) ?_
 repeat' (first |refine u1 ?_ |fail)
 refine RM.de (mu:=fun _=>false) ?_
 repeat' (first |refine M0 (s:=s) (k:=k) (row:=row) (f:=cnts) (b:=false) h30 rfl rfl rfl (by rfl) ?_ |refine Lh (s:=s) (k:=k) (c:=.sl cnts false) h30 rfl ?_ |refine u1 ?_ |refine u2 ?_ |fail)
 refine RM.de (mu:=fun _=>false) ?_
 repeat' (first |refine u1 ?_ |refine u2 ?_ |refine ⟨_,_,rfl,ah (row.getD day 0),hg,?_⟩ |(refine ⟨_,_,rfl,rfl,rfl,rfl,by rw [dS (s:=s) (k:=k) (row:=row) (c:=.sl cnts false) h30];omega,?_⟩) |fail)
 have hb':([.cells (aF s k (row.set day (row.getD day 0+n)) (.sl cnts false)) 0 0]:List AB).all (AB.di 1)=true:=by
  show (ig 1 (aF s k (row.set day (row.getD day 0+n)) (.sl cnts false)) && true)=true
  rw [show ig 1 (aF s k (row.set day (row.getD day 0+n)) (.sl cnts false))=true from bV 1 (.ag _) (iJ (s:=s) (k:=k) (row:=row.set day (row.getD day 0+n)) (c:=.sl cnts false) rfl)]
  rfl
 refine az.aK (ai.to (l:=[(1,.pt (aF s k row (.sl cnts false)) 0),(3,.pt [.sl (L.map aV) false] 0),(6,.ptr 0 0 0)]) (hp:=[.cells (aF s k (row.set day (row.getD day 0+n)) (.sl cnts false)) 0 0]) 1 (by rw [←CL (s:=s) (k:=k) (row:=row) (c:=.sl cnts false) (d:=day) (by omega)];rfl) ⟨rfl,rfl,rfl,trivial⟩ (Nat.zero_le _) rfl hb') ?_
 have h30':(row.set day (row.getD day 0+n)).length=30:=by rw [List.length_set];exact h30
 generalize row.set day (row.getD day 0+n)=row' at *
 refine aa (mu:=fun _=>false) ?_
 repeat' (first |refine Gy (s:=s) (k:=k) (c:=.sl cnts false) h30' rfl rfl ?_ |refine u1 ?_ |refine u2 ?_ |refine af.call hla rfl (by exact jk rfl) ?_ |fail)
 exact ⟨[_],⟨Fz.deep rfl,trivial⟩,rfl⟩
end Go.Proofs.YtalcbebjpgfnfaaGreat.St
