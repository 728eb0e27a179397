/-
  Contracts of the program's functions and of the document's. Lemmas alone; their conditions stand in them.
-/
import Derived.Test.YtkappgolfkiaeaaGreatDoorK17
open Go Go.RM
namespace Go.Proofs.YtkappgolfkiaeaaGreatDoor.St
set_option maxRecDepth 100000
set_option maxHeartbeats 4000000
theorem So {own:Bool} {fr:Nat→AV} {hp:List AB} {K:AV→List AB→Prop} {x:Operand} {s:aI} {k:Kind} {row:List Int} {c:AV} {j aF es:Nat} (h:row.length=30) (hx:bq fr x=.ptr j aF 0) (hj:hp[j]?=some (.cells (aM s k row c) es aF)) (hk:K (.ag (aM s k row c)) hp):RM.wpOp TT own (.load 105 x) fr hp K:=by show eF TT 105 (bq fr x) hp K;rw [hx];refine ⟨_,es,hj,And.intro (by rw [ew h];exact qq6 _) ?_⟩;rw [mR h];exact hk
theorem Uz {own:Bool} {fr:Nat→AV} {hp:List AB} {K:AV→List AB→Prop} {a x:Operand} {s:aI} {k:Kind} {row:List Int} {f:List (List AV)} {b:Bool} {z:List AV} {j aF es:Nat} (h:row.length=30) (ha:bq fr a=.ptr j aF 0) (hx:bq fr x=.ag (aM s k row (.sl f b))) (hj:hp[j]?=some (.cells z es aF)) (hz:z.length=43)
  (hk:K .cw (hp.set j (.cells (aM s k row (.sl f b)) es aF))):RM.wpOp TT own (.store 105 a x) fr hp K:=by
 show force (bq fr x) fun v=>dN TT 105 (bq fr a) v hp K;rw [hx,ha];refine ⟨z,es,hj,rfl,kr,ew h,by omega,?_⟩;rw [zH h hz];exact hk
def oW (s:aI) (l:List Count) (i:Nat) (k:Kind):NL:=hU s.ax.length (bJ s.ax k (ay i s.au)) (cx s.ax k (ay i s.au) (bP l i))
theorem NM (one:Bool) (s:aI) (l:List Count) (h0:gV s l=0) (i:Nat) (hi:i < s.kinds.length) :
 Pu one 45 [.ag (aM s s.kinds[i] (ay i s.au) (.sl ((bP l i).map aP) false))] (.tp [.ag (bC (oW s l i s.kinds[i]).t),av (oW s l i s.kinds[i]).day,av (oW s l i s.kinds[i]).e]):=E6 one (E9 h0 hi)
theorem J9 (one:Bool) (s:aI) (h:s.Ok) (l:List Count) (h0:gV s l=0) (i:Nat) (hi:i < s.kinds.length) :
  Pu one 9 [.ag (aN s),.sl (l.map aP) false,av i] (.tp [av (if (oW s l i s.kinds[i]).e=0 then (oW s l i s.kinds[i]).day else 0),av (oW s l i s.kinds[i]).e]):=by
 have hen:=J8 one s h l h0 i hi;have hea:=NM one s l h0 i hi;have h30:=(E9 h0 hi).row.len;generalize oW s l i s.kinds[i]=z at hea ⊢
 generalize ay i s.au=row at *
 generalize s.kinds[i]=k at *
 by_cases he:z.e=0
 ·rw [if_pos he];rw [he] at hea ⊢;refine af.body (fn:=Tryz.f9) rfl rfl rfl rfl ?_;refine qq1 ?_;repeat' first|refine Uz h30 rfl rfl rfl rfl ?_|refine So h30 rfl rfl ?_|refine u1 ?_|refine u2 ?_|refine af.call hen rfl rfl ?_|refine af.call hea rfl (qn rfl) ?_|fail
  exact ⟨[_,_],⟨Fz.deep rfl,Fz.deep rfl,trivial⟩,rfl⟩
 ·rw [if_neg he];have d1:(!decide (z.e=0))=true:=by simpa using he
  refine af.body (fn:=Tryz.f9) rfl rfl rfl rfl ?_;refine qq1 ?_;repeat' first|refine Uz h30 rfl rfl rfl rfl ?_|refine So h30 rfl rfl ?_|refine u1 ?_|refine u2 ?_|refine af.call hen rfl rfl ?_|refine af.call hea rfl (qn rfl) ?_|fail
  exact ⟨[_,_],⟨Fz.deep rfl,Fz.deep rfl,trivial⟩,rfl⟩
abbrev NN (s:aI) (l:List Count) (i:Nat) (k:Kind):List aR:=lS s.ax k (ay i s.au) l i
theorem uT {k:Kind} {t u:aR} {down:Int} {i:Nat} {n:Int} (hm:u.bp=t.bp):sR k u down i n=sR k t down i n:=by unfold sR;rw [hm]
theorem Bv {ax:List Int} {k:Kind} {row:List Int} {m p n n':Int} (h:n≤n') (down:Int):∀ i,bz ax k row ⟨n,m,p⟩ down i≤bz ax k row ⟨n',m,p⟩ down i
 | 0=>h
 | i+1=>by have ih:=Bv (ax:=ax) (k:=k) (row:=row) (m:=m) (p:=p) h down i;have hu:=uT (k:=k) (t:=⟨n,m,p⟩) (u:=⟨n',m,p⟩) (down:=down) (i:=i) (n:=ax.getD i 0) rfl;simp only [bz,lP] at ih ⊢;rw [hu];omega
theorem Ds {ax:List Int} {k:Kind} {row:List Int} {m p n n':Int} (h:n≤n') (down:Int):∀ i,cm ax k row ⟨n,m,p⟩ down i≤cm ax k row ⟨n',m,p⟩ down i
 | 0=>Int.le_refl _
 | i+1=>by
  have ih:=Ds (ax:=ax) (k:=k) (row:=row) (m:=m) (p:=p) h down i;have hh:=Bv (ax:=ax) (k:=k) (row:=row) (m:=m) (p:=p) h down i;have hu:=uT (k:=k) (t:=⟨n,m,p⟩) (u:=⟨n',m,p⟩) (down:=down) (i:=i) (n:=ax.getD i 0) rfl
  have hr:lP ax k row ⟨n,m,p⟩ down i (bz ax k row ⟨n,m,p⟩ down i)≤lP ax k row ⟨n',m,p⟩ down i (bz ax k row ⟨n',m,p⟩ down i):=by
   unfold lP;rw [hu]
   generalize bz ax k row ⟨n,m,p⟩ down i=a at *
   generalize bz ax k row ⟨n',m,p⟩ down i=b at *
   dsimp only;omega
  show (if _ < 0 then _ else _)≤(if _ < 0 then _ else _);split <;> split <;> omega
theorem Ka {ax:List Int} {k:Kind} {row:List Int} {t:aR} {d:Nat} (h:d≤ax.length):(lvl ax k row t).getD d 0=bz ax k row t ax.length d:=by unfold lvl;rw [List.getD_eq_getElem?_getD,List.getElem?_map,List.getElem?_range (by omega)];rfl
theorem Kc {ax:List Int} {k:Kind} {row:List Int} {m p n n':Int} (h:n≤n') (d:Nat):(lvl ax k row ⟨n,m,p⟩).getD d 0≤(lvl ax k row ⟨n',m,p⟩).getD d 0:=by
 by_cases hd:d≤ax.length
 ·rw [Ka hd,Ka hd];exact Bv h _ _
 ·rw [List.getD_eq_getElem?_getD,List.getD_eq_getElem?_getD,List.getElem?_eq_none (by rw [vt];omega),List.getElem?_eq_none (by rw [vt];omega)];exact Int.le_refl _
theorem pY {ax:List Int} {k:Kind} {row:List Int} {f:List Count} {b:Bool} {m p n n':Int} (h:n≤n') (he:enough ax k row f b ⟨n,m,p⟩=true):enough ax k row f b ⟨n',m,p⟩=true:=by
 unfold enough at he ⊢
 cases b with
 | true =>simp only [cond_true,List.any_eq_true] at he ⊢;obtain ⟨c,hc,h1⟩:=he;refine ⟨c,hc,?_⟩;unfold sS at h1 ⊢;have:=Kc (ax:=ax) (k:=k) (row:=row) (m:=m) (p:=p) h c.day.toNat;rw [decide_eq_true_eq] at h1 ⊢;omega
 | false =>simp only [cond_false,Bool.not_eq_true',List.any_eq_false] at he ⊢;intro c hc h1;apply he c hc;unfold oU at h1 ⊢;have:=Kc (ax:=ax) (k:=k) (row:=row) (m:=m) (p:=p) h c.day.toNat;rw [decide_eq_true_eq] at h1 ⊢;omega
theorem Ke (ax:List Int) (k:Kind) (row:List Int) (l:List Count) (i:Nat) (t:aR):Qs ax k row l i t=true ↔ (enough ax k row (bP l i) false t=true∧enough ax k row (bP l i) true t=false):=by
 have e:Qs ax k row l i t=(bP l i).all (Dr (lvl ax k row t)):=by unfold Qs bP;rw [List.all_filter]
 rw [e];unfold enough;simp only [cond_false,cond_true,Bool.not_eq_true',List.any_eq_false,List.all_eq_true];unfold Dr oU sS;constructor
 ·intro h;exact ⟨fun c hc=>by have:=dA.1 (h c hc);rw [decide_eq_true_eq];omega,fun c hc=>by have:=dA.1 (h c hc);rw [decide_eq_true_eq];omega⟩
 ·rintro ⟨h1,h2⟩ c hc;have a:=h1 c hc;have b:=h2 c hc;rw [decide_eq_true_eq] at a b;exact dA.2 (by omega)
theorem Gb (ax:List Int) (k:Kind) (row:List Int) (l:List Count) (i:Nat) (m p:Int) {a:Nat} (ha:a < az k.first) :
  Qs ax k row l i ⟨k.first.lo+a,m,p⟩=true ↔ (oa ax k row (bP l i) m p≤k.first.lo+a∧k.first.lo+a≤ja ax k row (bP l i) m p):=by
 rw [Ke];have b0:=sO (fun i'=>enough ax k row (bP l i) false ⟨k.first.lo+(i':Int),m,p⟩) 0 (az k.first) (qq5 _) (fun a b _ h _ he=>pY (by omega) he);have b1:=sO (fun i'=>enough ax k row (bP l i) true ⟨k.first.lo+(i':Int),m,p⟩) 0 (az k.first) (qq5 _) (fun a b _ h _ he=>pY (by omega) he);have c0:oa ax k row (bP l i) m p=k.first.lo+bs (fun i'=>enough ax k row (bP l i) false ⟨k.first.lo+(i':Int),m,p⟩) 0 (az k.first):=rfl
 have c1:ja ax k row (bP l i) m p=k.first.lo+bs (fun i'=>enough ax k row (bP l i) true ⟨k.first.lo+(i':Int),m,p⟩) 0 (az k.first) - 1:=rfl
 generalize hr0:bs (fun i'=>enough ax k row (bP l i) false ⟨k.first.lo+(i':Int),m,p⟩) 0 (az k.first)=r0 at *
 generalize hr1:bs (fun i'=>enough ax k row (bP l i) true ⟨k.first.lo+(i':Int),m,p⟩) 0 (az k.first)=r1 at *
 have h0:enough ax k row (bP l i) false ⟨k.first.lo+a,m,p⟩=true ↔ r0≤a:=by
  constructor
  ·intro h;apply Nat.le_of_not_lt;intro hlt;have:=b0.1 a (qq5 _) hlt;rw [h] at this;cases this
  ·intro h;exact pY (by omega) (b0.2 (by omega))
 have h1:enough ax k row (bP l i) true ⟨k.first.lo+a,m,p⟩=false ↔ a < r1:=by
  constructor
  ·intro h;apply Nat.lt_of_not_le;intro hle;have:=pY (n:=k.first.lo+r1) (n':=k.first.lo+a) (by omega) (b1.2 (by omega));rw [h] at this;cases this
  ·intro h;exact b1.1 a (qq5 _) h
 rw [h0,h1,c0,c1];omega
theorem NP {ax:List Int} {k:Kind} {row:List Int} {l:List Count} {i:Nat} {t:aR} (h:t ∈ lS ax k row l i) :
  ∃ a m p:Nat,a < az k.first∧m < az k.bp∧p < az k.aD∧t=⟨k.first.lo+a,k.bp.lo+m,k.aD.lo+p⟩∧oa ax k row (bP l i) (k.bp.lo+m) (k.aD.lo+p)≤t.first∧t.first≤ja ax k row (bP l i) (k.bp.lo+m) (k.aD.lo+p):=by
 unfold lS Ga at h;rw [List.mem_filter,List.mem_map] at h;obtain ⟨⟨q,hq,rfl⟩,ha⟩:=h;rw [List.mem_range] at hq;have hP:0 < az k.aD:=Nat.pos_of_ne_zero fun e=>by rw [e] at hq;simp at hq
 have hM:0 < az k.bp:=Nat.pos_of_ne_zero fun e=>by rw [e] at hq;simp at hq
 have h1:q / az k.aD < az k.first * az k.bp:=Nat.div_lt_of_lt_mul (by rw [Nat.mul_comm];exact hq)
 have h2:q / az k.aD / az k.bp < az k.first:=Nat.div_lt_of_lt_mul (by rw [Nat.mul_comm];exact h1)
 refine ⟨q / az k.aD / az k.bp,q / az k.aD % az k.bp,q % az k.aD,h2,Nat.mod_lt _ hM,Nat.mod_lt _ hP,rfl,?_⟩;exact (Gb ax k row l i _ _ h2).1 ha
theorem Gc {ax:List Int} {k:Kind} {row:List Int} {l:List Count} {i a m p:Nat} (ha:a < az k.first) (hm:m < az k.bp) (hp:p < az k.aD)
  (h1:oa ax k row (bP l i) (k.bp.lo+m) (k.aD.lo+p)≤k.first.lo+a) (h2:k.first.lo+a≤ja ax k row (bP l i) (k.bp.lo+m) (k.aD.lo+p)):(⟨k.first.lo+a,k.bp.lo+m,k.aD.lo+p⟩:aR) ∈ lS ax k row l i:=by
 unfold lS Ga;rw [List.mem_filter,List.mem_map];refine ⟨⟨(a * az k.bp+m) * az k.aD+p,?_,zJ k hm hp⟩,(Gb ax k row l i _ _ ha).2 ⟨h1,h2⟩⟩;rw [List.mem_range];have q1:(a+1) * az k.bp≤az k.first * az k.bp:=Nat.mul_le_mul_right _ ha
 rw [Nat.add_mul,Nat.one_mul] at q1;have q2:(a * az k.bp+m+1) * az k.aD≤az k.first * az k.bp * az k.aD:=Nat.mul_le_mul_right _ (by omega)
 rw [Nat.add_mul,Nat.one_mul] at q2;omega
theorem HG {ax:List Int} {k:Kind} {row:List Int} {f:List Count} {y:aR × aR} (h:y ∈ cx ax k row f) :
  ∃ m p:Nat,m < az k.bp∧p < az k.aD∧oa ax k row f (k.bp.lo+m) (k.aD.lo+p)≤ja ax k row f (k.bp.lo+m) (k.aD.lo+p) ∧
   y=(⟨oa ax k row f (k.bp.lo+m) (k.aD.lo+p),k.bp.lo+m,k.aD.lo+p⟩,⟨ja ax k row f (k.bp.lo+m) (k.aD.lo+p),k.bp.lo+m,k.aD.lo+p⟩):=by
 unfold cx pairs at h;rw [List.mem_filterMap] at h;obtain ⟨q,hq,h⟩:=h;rw [List.mem_range] at hq;have hP:0 < az k.aD:=Nat.pos_of_ne_zero fun e=>by rw [e] at hq;simp at hq
 unfold nW l8 at h;split at h
 ·rename_i hle;cases h;exact ⟨q / az k.aD,q % az k.aD,Nat.div_lt_of_lt_mul (by rw [Nat.mul_comm];exact hq),Nat.mod_lt _ hP,hle,rfl⟩
 ·cases h
theorem HH {ax:List Int} {k:Kind} {row:List Int} {f:List Count} {m p:Nat} (hm:m < az k.bp) (hp:p < az k.aD) (hle:oa ax k row f (k.bp.lo+m) (k.aD.lo+p)≤ja ax k row f (k.bp.lo+m) (k.aD.lo+p)) :
  ((⟨oa ax k row f (k.bp.lo+m) (k.aD.lo+p),k.bp.lo+m,k.aD.lo+p⟩,⟨ja ax k row f (k.bp.lo+m) (k.aD.lo+p),k.bp.lo+m,k.aD.lo+p⟩):aR × aR) ∈ cx ax k row f:=by
 unfold cx pairs;rw [List.mem_filterMap];refine ⟨m * az k.aD+p,?_,?_⟩
 ·rw [List.mem_range];have:(m+1) * az k.aD≤az k.bp * az k.aD:=Nat.mul_le_mul_right _ hm;rw [Nat.add_mul,Nat.one_mul] at this;omega
 ·rw [J5 ax k row f hp];unfold l8;rw [if_pos hle]
theorem NQ (ax:List Int) (k:Kind) (row:List Int) (f:List Count) (m p:Int) (hle:oa ax k row f m p≤ja ax k row f m p):∃ a b:Nat,a < az k.first∧b < az k.first∧oa ax k row f m p=k.first.lo+a∧ja ax k row f m p=k.first.lo+b:=by
 have b0:=(sN (fun i'=>enough ax k row f false ⟨k.first.lo+(i':Int),m,p⟩) 0 (az k.first) (qq5 _)).2;have b1:=(sN (fun i'=>enough ax k row f true ⟨k.first.lo+(i':Int),m,p⟩) 0 (az k.first) (qq5 _)).2;have c0:oa ax k row f m p=k.first.lo+bs (fun i'=>enough ax k row f false ⟨k.first.lo+(i':Int),m,p⟩) 0 (az k.first):=rfl
 have c1:ja ax k row f m p=k.first.lo+bs (fun i'=>enough ax k row f true ⟨k.first.lo+(i':Int),m,p⟩) 0 (az k.first) - 1:=rfl
 generalize bs (fun i'=>enough ax k row f false ⟨k.first.lo+(i':Int),m,p⟩) 0 (az k.first)=r0 at *
 generalize bs (fun i'=>enough ax k row f true ⟨k.first.lo+(i':Int),m,p⟩) 0 (az k.first)=r1 at *
 exact ⟨r0,r1 - 1,by omega,by omega,by omega,by omega⟩
theorem Dt {ax:List Int} {k:Kind} {row:List Int} {l:List Count} {i:Nat} {t:aR} (h:t ∈ lS ax k row l i):∃ y ∈ cx ax k row (bP l i),(y.1.first≤t.first∧t.first≤y.2.first)∧(y.1.bp=t.bp∧y.1.aD=t.aD)∧y.2.bp=t.bp∧y.2.aD=t.aD:=by obtain ⟨a,m,p,_,hm,hp,rfl,h1,h2⟩:=NP h;exact ⟨_,HH hm hp (by omega),⟨h1,h2⟩,⟨rfl,rfl⟩,rfl,rfl⟩
theorem Du {ax:List Int} {k:Kind} {row:List Int} {l:List Count} {i:Nat} {y:aR × aR} (h:y ∈ cx ax k row (bP l i)):y.1 ∈ lS ax k row l i∧y.2 ∈ lS ax k row l i:=by
 obtain ⟨m,p,hm,hp,hle,rfl⟩:=HG h;obtain ⟨a,b,ha,hb,ea,eb⟩:=NQ _ _ _ _ _ _ hle;dsimp only;constructor
 ·have:=Gc (ax:=ax) (row:=row) (l:=l) (i:=i) ha hm hp (by omega) (by omega);rw [←ea] at this;exact this
 ·have:=Gc (ax:=ax) (row:=row) (l:=l) (i:=i) hb hm hp (by omega) (by omega);rw [←eb] at this;exact this
theorem HI {ax:List Int} {k:Kind} {row:List Int} {t u:aR} (h:t.first≤u.first) (h1:t.bp=u.bp) (h2:t.aD=u.aD):bJ ax k row t≤bJ ax k row u:=by obtain ⟨a,b,c⟩:=t;obtain ⟨a',b',c'⟩:=u;dsimp only at h h1 h2;subst h1 h2;exact Ds h _ _
theorem NR {ax:List Int} {k:Kind} {row:List Int} {l:List Count} {i:Nat}:cx ax k row (bP l i)=[] ↔ lS ax k row l i=[]:=by
 constructor
 ·intro h;apply List.eq_nil_iff_forall_not_mem.2;intro t ht;obtain ⟨y,hy,_⟩:=Dt ht;rw [h] at hy;cases hy
 ·intro h;apply List.eq_nil_iff_forall_not_mem.2;intro y hy;have:=(Du hy).1;rw [h] at this;cases this
def Le (sh:aR→Int) (t u:aR):Prop:=sh t < sh u∨sh t=sh u∧(t.first < u.first∨t.first=u.first∧(t.bp < u.bp∨t.bp=u.bp∧t.aD≤u.aD))
theorem HJ {q n P:Nat} (h:q < n):q / P < n / P∨(q / P=n / P∧q % P < n % P):=by
 have h1:=Nat.div_le_div_right (c:=P) (Nat.le_of_lt h);have h2:=Nat.div_add_mod q P;have h3:=Nat.div_add_mod n P;by_cases he:q / P=n / P
 ·rw [he] at h2;exact .inr ⟨he,by omega⟩
 ·exact .inl (by omega)
theorem Gd {ax:List Int} {k:Kind} {row:List Int} {f:List Count} {q:Nat} {y:aR × aR} (h:nW ax k row f q=some y):y.1.bp=k.bp.lo+(q / az k.aD:Nat)∧y.1.aD=k.aD.lo+(q % az k.aD:Nat):=by
 unfold nW l8 at h;split at h
 ·cases h;exact ⟨rfl,rfl⟩
 ·cases h
theorem zK (ax:List Int) (k:Kind) (row:List Int) (f:List Count) (sh:aR→Int) (N:Nat) (hN:∀ t,sh t≤N):∀ n,
  (pairs ax k row f n=[]∧hU N sh (pairs ax k row f n)=⟨⟨0,0,0⟩,(N:Int)+1,9⟩) ∨
  ((hU N sh (pairs ax k row f n)).e=0∧(∃ z ∈ pairs ax k row f n,(hU N sh (pairs ax k row f n)).t=z.1)∧(hU N sh (pairs ax k row f n)).day=sh (hU N sh (pairs ax k row f n)).t∧∀ z ∈ pairs ax k row f n,Le sh (hU N sh (pairs ax k row f n)).t z.1)
 | 0=>.inl ⟨rfl,rfl⟩
 | n+1=>by
  have ih:=zK ax k row f sh N hN n;rw [nM]
  cases hu:nW ax k row f n with
  | none=>rw [show (none:Option (aR × aR)).toList=[] from rfl,List.append_nil];exact ih
  | some y =>
   rw [show (some y).toList=[y] from rfl];have hst:hU N sh (pairs ax k row f n++[y])=kW sh (hU N sh (pairs ax k row f n)) y:=by unfold hU;rw [List.foldl_append];rfl
   rw [hst];have hy:=hN y.1;have hym:=Gd hu;have hord:∀ z ∈ pairs ax k row f n,z.1.bp < y.1.bp∨z.1.bp=y.1.bp∧z.1.aD≤y.1.aD:=by intro z hz;unfold pairs at hz;rw [List.mem_filterMap] at hz;obtain ⟨q,hq,hz⟩:=hz;rw [List.mem_range] at hq;have hzm:=Gd hz;have:=HJ (P:=az k.aD) hq;omega
   generalize pairs ax k row f n=L at *
   generalize hU N sh L=x at *
   refine .inr ?_
   rcases ih with ⟨rfl,rfl⟩|⟨h1,⟨z0,hz0,h2⟩,h3,h4⟩
   ·unfold kW;rw [if_pos (.inl (by dsimp only;omega))];refine ⟨rfl,⟨y,by simp,rfl⟩,rfl,fun z hz=>?_⟩;simp only [List.nil_append,List.mem_singleton] at hz;subst hz;exact .inr ⟨rfl,.inr ⟨rfl,.inr ⟨rfl,Int.le_refl _⟩⟩⟩
   ·unfold kW;by_cases hc:sh y.1 < x.day∨sh y.1=x.day∧y.1.first < x.t.first
    ·rw [if_pos hc];refine ⟨rfl,⟨y,by simp,rfl⟩,rfl,fun z hz=>?_⟩
     rcases List.mem_append.1 hz with hz|hz
     ·have:=h4 z hz;unfold Le at this ⊢;dsimp only;omega
     ·simp only [List.mem_singleton] at hz;subst hz;exact .inr ⟨rfl,.inr ⟨rfl,.inr ⟨rfl,Int.le_refl _⟩⟩⟩
    ·rw [if_neg hc];refine ⟨h1,⟨z0,List.mem_append_left _ hz0,h2⟩,h3,fun z hz=>?_⟩
     rcases List.mem_append.1 hz with hz|hz
     ·exact h4 z hz
     ·simp only [List.mem_singleton] at hz;subst hz;have:=hord z0 hz0;rw [←h2] at this;unfold Le;omega
theorem oX {k:Kind} {t:aR}:pX k t=true ↔ (k.first.lo≤t.first∧t.first≤k.first.hi)∧(k.bp.lo≤t.bp∧t.bp≤k.bp.hi)∧k.aD.lo≤t.aD∧t.aD≤k.aD.hi:=by unfold pX;simp only [qq7,dA]
theorem NS {ax:List Int} {k:Kind} {row:List Int} {l:List Count} {i:Nat} {t:aR}:t ∈ lS ax k row l i ↔ (pX k t=true∧Qs ax k row l i t=true):=by
 unfold lS Ga;rw [List.mem_filter,List.mem_map];constructor
 ·rintro ⟨⟨q,hq,rfl⟩,ha⟩;rw [List.mem_range] at hq;refine ⟨?_,ha⟩;have hP:0 < az k.aD:=by apply Nat.pos_of_ne_zero;intro h0;rw [h0,Nat.mul_zero] at hq;exact absurd hq (Nat.not_lt_zero _)
  have hM:0 < az k.bp:=by apply Nat.pos_of_ne_zero;intro h0;rw [h0,Nat.mul_zero,Nat.zero_mul] at hq;exact absurd hq (Nat.not_lt_zero _)
  have h1:q / az k.aD % az k.bp < az k.bp:=Nat.mod_lt _ hM;have h2:q % az k.aD < az k.aD:=Nat.mod_lt _ hP;have h3:q / az k.aD / az k.bp < az k.first:=by rw [Nat.div_lt_iff_lt_mul hM,Nat.div_lt_iff_lt_mul hP];exact hq
  rw [oX];unfold Bu;dsimp only
  generalize q / az k.aD % az k.bp=x at *
  generalize q % az k.aD=y at *
  generalize q / az k.aD / az k.bp=z at *
  clear hq hP hM ha
  unfold az at *
  omega
 ·rintro ⟨ht,ha⟩;refine ⟨?_,ha⟩;rw [oX] at ht;obtain ⟨a,b,c⟩:=t;dsimp only at ht;obtain ⟨x,rfl⟩:∃ x:Nat,a=k.first.lo+x:=⟨(a - k.first.lo).toNat,by omega⟩
  obtain ⟨y,rfl⟩:∃ x:Nat,b=k.bp.lo+x:=⟨(b - k.bp.lo).toNat,by omega⟩;obtain ⟨z,rfl⟩:∃ x:Nat,c=k.aD.lo+x:=⟨(c - k.aD.lo).toNat,by omega⟩;have hx:x < az k.first:=by unfold az;omega
  have hy:y < az k.bp:=by unfold az;omega
  have hz:z < az k.aD:=by unfold az;omega
  refine ⟨(x * az k.bp+y) * az k.aD+z,?_,zJ k hy hz⟩;rw [List.mem_range];have q1:(x+1) * az k.bp≤az k.first * az k.bp:=Nat.mul_le_mul_right _ hx
  rw [Nat.add_mul,Nat.one_mul] at q1;have q2:(x * az k.bp+y+1) * az k.aD≤az k.first * az k.bp * az k.aD:=Nat.mul_le_mul_right _ (by omega)
  rw [Nat.add_mul,Nat.one_mul] at q2;omega
theorem zL (ax:List Int) (k:Kind) (row:List Int) (t:aR):0≤bJ ax k row t∧bJ ax k row t≤ax.length:=by
 rcases qU ax k row t ax.length ax.length with h|h
 ·unfold bJ;rw [h];omega
 ·unfold bJ;omega
theorem Fa {s:aI} {k:Kind} {row:List Int} {l:List Count} {i:Nat} :
  (lS s.ax k row l i=[]∧(hU s.ax.length (bJ s.ax k row) (cx s.ax k row (bP l i))).e=9) ∨
  (∃ t n,(hU s.ax.length (bJ s.ax k row) (cx s.ax k row (bP l i)))=⟨t,n,0⟩∧t ∈ lS s.ax k row l i∧n=bJ s.ax k row t∧∀ u ∈ lS s.ax k row l i,n≤bJ s.ax k row u):=by
 have hs:=zK s.ax k row (bP l i) (bJ s.ax k row) s.ax.length (fun t=>(zL _ _ _ t).2) (az k.bp * az k.aD);change (cx s.ax k row (bP l i)=[]∧hU s.ax.length (bJ s.ax k row) (cx s.ax k row (bP l i))=_)∨_ at hs
 rcases hs with ⟨h1,h2⟩|⟨h1,⟨z,hz,h2⟩,h3,h4⟩
 ·exact .inl ⟨NR.1 h1,by rw [h2]⟩
 ·refine .inr ⟨z.1,bJ s.ax k row z.1,?_,(Du hz).1,rfl,fun u hu=>?_⟩
  ·change (hU s.ax.length (bJ s.ax k row) (cx s.ax k row (bP l i))).e=0 at h1;change (hU s.ax.length (bJ s.ax k row) (cx s.ax k row (bP l i))).t=z.1 at h2;change (hU s.ax.length (bJ s.ax k row) (cx s.ax k row (bP l i))).day=bJ s.ax k row (hU s.ax.length (bJ s.ax k row) (cx s.ax k row (bP l i))).t at h3;rw [h2] at h3
   generalize hU s.ax.length (bJ s.ax k row) (cx s.ax k row (bP l i))=e at *
   obtain ⟨a,b,c⟩:=e;dsimp only at h1 h2 h3;rw [h1,h2,h3]
  ·obtain ⟨y,hy,⟨y1,_⟩,⟨y2,y3⟩,_⟩:=Dt hu;have h5:=h4 y hy;change Le (bJ s.ax k row) (hU s.ax.length (bJ s.ax k row) (cx s.ax k row (bP l i))).t y.1 at h5;change (hU s.ax.length (bJ s.ax k row) (cx s.ax k row (bP l i))).t=z.1 at h2;rw [h2] at h5;have h6:bJ s.ax k row y.1≤bJ s.ax k row u:=HI y1 y2 y3;unfold Le at h5;omega
theorem Kf {k:Kind} (h:kV k) (a b c:Int):pX k (NG k a b c)=true:=by have hs:=h.Oq;have h1:=uf hs.1 a;have h2:=uf hs.2.1 b;have h3:=uf hs.2.2 c;unfold pX NG;simp only [qq7,dA];exact ⟨h1,h2,h3⟩
theorem Uj {a:Int} {n:Nat} (hn:0 < n):∃ i:Nat,i < n∧a % (n:Int)=i:=by have h1:=Int.emod_nonneg a (show (n:Int) ≠ 0 by omega);have h2:=Int.emod_lt_of_pos a (show 0 < (n:Int) by omega);exact ⟨(a % (n:Int)).toNat,by omega,by omega⟩
theorem Kg (one:Bool) {s:aI} (hg:Good s) {i:Nat} (hi:i < s.kinds.length) {t:aR} (h:gI s.ax s.kinds[i] (ay i s.au) t) :
  ∃ u b:Int,Pu one 46 [.ag (aN s),av i,.ag (bC t),av s.ax.length] (.tp [.sl ((lvl s.ax s.kinds[i] (ay i s.au) t).map eI) false,av (bJ s.ax s.kinds[i] (ay i s.au) t),av u,av b]):=by
 have:=J1 one s hg i hi t s.ax.length h;rw [show ((List.range (s.ax.length+1)).map fun j=>eI (bz s.ax s.kinds[i] (ay i s.au) t s.ax.length j))=(lvl s.ax s.kinds[i] (ay i s.au) t).map eI by unfold lvl;rw [List.map_map];rfl] at this;exact ⟨_,_,this⟩
def Sq (a b:Int):Int:=if a < b then -1 else if b < a then 1 else 0
def Sr:List Int→List Int→Int
 | [],[]=>0
 | [],_ :: _=>-1
 | _ :: _,[]=>1
 | a :: l,b :: m=>if Sq a b=0 then Sr l m else Sq a b
def oc (x y:List Int):Prop:=x.length < y.length∨x.length=y.length∧Sr x y < 0
instance (x y:List Int):Decidable (oc x y):=by unfold oc;infer_instance
def b2 (b:Bool):Int:=if b=true then 1 else 0
theorem Ot (lo hi n:Int):bS lo hi [n]=!iC n lo hi:=by rw [aX]
theorem HK {s:aI} {l:List Count}:gV s l=0 ↔ ((gv s).2.2=0∧l.length≤8∧∀ c ∈ l,ug s c=0):=by
 unfold gV;by_cases h1:(gv s).2.2=0
 ·rw [if_neg (by simpa using h1)];by_cases h2:8 < (l.length:Int)
  ·rw [if_pos h2];exact ⟨fun h=>absurd h (by decide),fun h=>by omega⟩
  ·rw [if_neg h2];constructor
   ·intro h;refine ⟨h1,by omega,fun c hc=>?_⟩;obtain ⟨i,hi,rfl⟩:=List.getElem_of_mem hc;have:=eP h i hi;unfold E7 at this;simpa only [List.getElem?_eq_getElem hi] using this
   ·rintro ⟨_,_,h⟩;rw [cu];intro i hi;unfold E7;simp only [List.getElem?_eq_getElem hi];exact h _ (List.getElem_mem hi)
 ·rw [if_pos h1];exact ⟨fun h=>absurd h h1,fun h=>absurd h.1 h1⟩
theorem Dv (s:aI) (h:s.Ok) (l:List Count) (h0:gV s l=0) (i:Nat) (hi:i < s.kinds.length) :
  (NN s l i s.kinds[i]=[]∧Pu true 9 [.ag (aN s),.sl (l.map aP) false,av i] (.tp [av 0,av 9])) ∨
  ∃ n:Int,Pu true 9 [.ag (aN s),.sl (l.map aP) false,av i] (.tp [av n,av 0])∧(0≤n∧n≤s.ax.length)∧(∃ t ∈ NN s l i s.kinds[i],n=bJ s.ax s.kinds[i] (ay i s.au) t) ∧
   ∀ u ∈ NN s l i s.kinds[i],n≤bJ s.ax s.kinds[i] (ay i s.au) u:=by
 have hla:=J9 true s h l h0 i hi;unfold oW at hla
 rcases Fa (s:=s) (k:=s.kinds[i]) (row:=ay i s.au) (l:=l) (i:=i) with ⟨hn,h9⟩|⟨v,n,hz,hv,hvn,hlow⟩
 ·rw [h9,if_neg (by decide)] at hla;exact .inl ⟨hn,hla⟩
 ·rw [hz,if_pos rfl] at hla;exact .inr ⟨n,hla,by rw [hvn];exact zL _ _ _ _,⟨v,hv,hvn⟩,hlow⟩
theorem oY:∀ L:List Count,bG ((L.map aP).flatten)=true
 | []=>rfl
 | t :: L=>by rw [List.map_cons,List.flatten_cons];exact j5 rfl (oY L)
theorem oZ (L:List Count):((L.map aP).flatten).length=L.length * 4:=by rw [dR (es:=4) fun el he=>by obtain ⟨t,_,rfl⟩:=List.mem_map.1 he;rfl,List.length_map]
theorem Kh (one:Bool) (a b:Int):Pu one 30 [av a,av b] (.ag (uR ⟨a,b⟩)):=by
 refine af.body (fn:=Tryz.f30) rfl rfl rfl rfl ?_;refine qq1 ?_;repeat' first|refine u1 ?_|refine u2 ?_|fail
 exact ⟨[_],⟨Fz.deep rfl,trivial⟩,rfl⟩
end Go.Proofs.YtkappgolfkiaeaaGreatDoor.St
