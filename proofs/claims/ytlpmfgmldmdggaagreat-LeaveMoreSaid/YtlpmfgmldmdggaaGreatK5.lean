/-
  Contracts of the program's functions and of the document's. Lemmas alone; their conditions stand in them.
-/
import Derived.Test.YtlpmfgmldmdggaaGreatK4
open Go Go.RM
namespace Go.Proofs.YtlpmfgmldmdggaaGreat
set_option maxRecDepth 100000
structure PR (S S':List Int) (a b:Nat):Prop where
 len:S'.length=S.length
 out:∀ i,(i < a∨b≤i)→aH S' i=aH S i
 perm:S'.Perm S
theorem PR.refl (S:List Int) (a b:Nat):PR S S a b:=⟨rfl,fun _ _=>rfl,List.Perm.refl _⟩
theorem PR.trans {S S' S2:List Int} {a b:Nat} (h:PR S S' a b) (h2:PR S' S2 a b):PR S S2 a b :=
 ⟨h2.len.trans h.len,fun i hi=>(h2.out i hi).trans (h.out i hi),h2.perm.trans h.perm⟩
theorem PR.wide {S S':List Int} {a b c d:Nat} (h:PR S S' a b) (h1:c≤a) (h2:b≤d):PR S S' c d :=
 ⟨h.len,fun i hi=>h.out i (by omega),h.perm⟩
theorem l5 {S:List Int} {i:Nat} (h:i < S.length):S[i]?=some (aH S i):=KX h
def sw (S:List Int) (i j:Nat):List Int:=(S.set i (aH S j)).set j (aH S i)
theorem C3 (S:List Int) (i j:Nat):(sw S i j).length=S.length:=by unfold sw;simp
theorem m5 {S:List Int} {i j:Nat} (hi:i < S.length) (hj:j < S.length) (q:Nat):aH (sw S i j) q=if q=j then aH S i else if q=i then aH S j else aH S q:=by
 unfold sw aH;simp only [List.getD_eq_getElem?_getD];by_cases h1:q=j
 ·subst h1;rw [if_pos rfl,List.getElem?_set_self (by simpa using hj)];rfl
 ·rw [if_neg h1,List.getElem?_set_ne (Ne.symm h1)];by_cases h2:q=i
  ·subst h2;rw [if_pos rfl,List.getElem?_set_self hi];rfl
  ·rw [if_neg h2,List.getElem?_set_ne (Ne.symm h2)]
theorem Jc {S:List Int} {i j:Nat} (hi:i < S.length) (hj:j < S.length):(sw S i j).Perm S:=by
 unfold sw;have e1:aH S j=S[j]:=by unfold aH;rw [List.getD_eq_getElem?_getD,List.getElem?_eq_getElem hj];rfl
 have e2:aH S i=S[i]:=by unfold aH;rw [List.getD_eq_getElem?_getD,List.getElem?_eq_getElem hi];rfl
 rw [e1,e2];exact List.set_set_perm hi hj
theorem PR.sw {S:List Int} {i j a b:Nat} (hb:b≤S.length) (hi:a≤i∧i < b) (hj:a≤j∧j < b):PR S (sw S i j) a b :=
 ⟨C3 S i j,fun q hq=>by rw [m5 (by omega) (by omega),if_neg (by omega),if_neg (by omega)],Jc (by omega) (by omega)⟩
theorem rN (S:List Int) (a i:Nat):aH (S.drop a) i=aH S (a+i):=by unfold aH;rw [List.getD_eq_getElem?_getD,List.getD_eq_getElem?_getD,List.getElem?_drop]
theorem rO {S:List Int} {n i:Nat} (h:i < n):aH (S.take n) i=aH S i:=by unfold aH;rw [List.getD_eq_getElem?_getD,List.getD_eq_getElem?_getD,List.getElem?_take_of_lt h]
theorem DV {S T:List Int} (hl:S.length=T.length) (h:∀ i,i < S.length→aH S i=aH T i):S=T:=by
 apply List.ext_getElem?;intro i;by_cases hi:i < S.length
 ·rw [l5 hi,l5 (hl ▸ hi),h i hi]
 ·rw [List.getElem?_eq_none (by omega),List.getElem?_eq_none (by omega)]
theorem PR.mid {S S':List Int} {a b:Nat} (h:PR S S' a b) (hab:a≤b) (hb:b≤S.length):((S'.drop a).take (b - a)).Perm ((S.drop a).take (b - a)):=by
 have hl:=h.len;have e1:S'.take a=S.take a:=DV (by rw [List.length_take,List.length_take,hl]) fun i hi=>by rw [List.length_take] at hi;rw [rO (by omega),rO (by omega),h.out i (by omega)]
 have e2:S'.drop b=S.drop b:=DV (by rw [List.length_drop,List.length_drop,hl]) fun i hi=>by rw [rN,rN,h.out _ (by omega)]
 have split:∀ R:List Int,R=R.take a++((R.drop a).take (b - a)++R.drop b):=fun R=>by
  have:(R.drop a).take (b - a)++R.drop b=R.drop a:=by have:=List.take_append_drop (b - a) (R.drop a);rw [List.drop_drop,show a+(b - a)=b by omega] at this;exact this
  rw [this,List.take_append_drop]
 have hp:=h.perm;rw [split S',split S,e1,e2,List.perm_append_left_iff,List.perm_append_right_iff] at hp;exact hp
theorem PR.all {S S':List Int} {a b:Nat} (h:PR S S' a b) (hb:b≤S.length) {P:Int→Prop} (hP:∀ i,a≤i→i < b→P (aH S i)):∀ i,a≤i→i < b→P (aH S' i):=by
 intro i h1 h2;have hm:=h.mid (by omega) hb;have hl:=h.len
 have hi:aH S' i ∈ (S'.drop a).take (b - a):=by
  have:aH ((S'.drop a).take (b - a)) (i - a)=aH S' i:=by rw [rO (by omega),rN,show a+(i - a)=i by omega]
  rw [←this];exact DU (by rw [List.length_take,List.length_drop];omega)
 obtain ⟨q,hq,he⟩:=List.getElem_of_mem (hm.mem_iff.1 hi);rw [List.length_take,List.length_drop] at hq;have h3:=l5 (S:=(S.drop a).take (b - a)) (i:=q) (by rw [List.length_take,List.length_drop];omega);rw [List.getElem?_eq_getElem (by rw [List.length_take,List.length_drop];omega),he] at h3;rw [rO (by omega),rN] at h3;rw [Option.some.inj h3];exact hP _ (by omega) (by omega)
def Sd (rk:Int→Int) (S:List Int) (a b:Nat):Prop:=∀ i j,a≤i→i≤j→j < b→rk (aH S i)≤rk (aH S j)
theorem Sd.keep {rk:Int→Int} {S S':List Int} {a b c d:Nat} (h:Sd rk S a b) (hp:PR S S' c d) (hd:b≤c∨d≤a):Sd rk S' a b:=fun i j h1 h2 h3=>by rw [hp.out i (by omega),hp.out j (by omega)];exact h i j h1 h2 h3
theorem Sd.glue {rk:Int→Int} {S:List Int} {a m b:Nat} (h1:Sd rk S a m) (h2:Sd rk S m b) (hx:∀ i j,a≤i→i < m→m≤j→j < b→rk (aH S i)≤rk (aH S j)):Sd rk S a b:=fun i j hi hij hj=>by
 by_cases hjm:j < m
 ·exact h1 i j hi hij hjm
 ·by_cases him:i < m
  ·exact hx i j hi him (by omega) hj
  ·exact h2 i j (by omega) hij hj
theorem PR.DW {rk:Int→Int} {S S':List Int} {a b c d:Nat} (h:PR S S' a b) (hb:b≤S.length) (hd:d≤a∨b≤c) (hx:∀ i j,c≤i→i < d→a≤j→j < b→rk (aH S i)≤rk (aH S j)):∀ i j,c≤i→i < d→a≤j→j < b→rk (aH S' i)≤rk (aH S' j):=fun i j h1 h2 h3 h4=>by rw [h.out i (by omega)];exact h.all hb (P:=fun x=>rk (aH S i)≤rk x) (fun q hq1 hq2=>hx i q h1 h2 hq1 hq2) j h3 h4
theorem PR.G7 {rk:Int→Int} {S S':List Int} {a b c d:Nat} (h:PR S S' a b) (hb:b≤S.length) (hd:d≤a∨b≤c) (hx:∀ i j,a≤i→i < b→c≤j→j < d→rk (aH S i)≤rk (aH S j)):∀ i j,a≤i→i < b→c≤j→j < d→rk (aH S' i)≤rk (aH S' j):=fun i j h1 h2 h3 h4=>by rw [h.out j (by omega)];exact h.all hb (P:=fun x=>rk x≤rk (aH S j)) (fun q hq1 hq2=>hx q j hq1 hq2 h3 h4) i h1 h2
structure Ff (rk:Int→Int) (S:List Int) (a i j:Nat):Prop where
 Jd:∀ p q,a≤p→p≤q→q≤i→p ≠ j→q ≠ j→rk (aH S p)≤rk (aH S q)
 up:∀ q,j < q→q≤i→rk (aH S j)≤rk (aH S q)
theorem Ff.start {rk:Int→Int} {S:List Int} {a i:Nat} (h:Sd rk S a i):Ff rk S a i i :=
 ⟨fun p q h1 h2 h3 h4 h5=>h p q h1 h2 (by omega),fun q h1 h2=>by omega⟩
theorem Ff.done {rk:Int→Int} {S:List Int} {a i j:Nat} (h:Ff rk S a i j) (hd:j≤a∨rk (aH S (j - 1))≤rk (aH S j)):Sd rk S a (i+1):=fun p q h1 h2 h3=>by
 by_cases hq:q=j
 ·subst hq;by_cases hp:p=q
  ·rw [hp];exact Int.le_refl _
  ·rcases hd with hd|hd
   ·omega
   ·by_cases hp1:p=q - 1
    ·rw [hp1];exact hd
    ·exact Int.le_trans (h.Jd p (q - 1) h1 (by omega) (by omega) hp (by omega)) hd
 ·by_cases hp:p=j
  ·rw [hp];exact h.up q (by omega) (by omega)
  ·exact h.Jd p q h1 h2 (by omega) hp hq
theorem Ff.step {rk:Int→Int} {S:List Int} {a i j:Nat} (h:Ff rk S a i j) (hj:a < j∧j≤i) (hi:i < S.length) (hl:rk (aH S j) < rk (aH S (j - 1))):Ff rk (sw S j (j - 1)) a i (j - 1):=by
 have g:=m5 (S:=S) (i:=j) (j:=j - 1) (by omega) (by omega);constructor
 ·intro p q h1 h2 h3 h4 h5;rw [g,g,if_neg h4,if_neg h5];by_cases hp:p=j
  ·rw [if_pos hp];by_cases hq:q=j
   ·rw [if_pos hq];exact Int.le_refl _
   ·rw [if_neg hq];exact h.Jd (j - 1) q (by omega) (by omega) h3 (by omega) hq
  ·rw [if_neg hp];by_cases hq:q=j
   ·rw [if_pos hq];exact h.Jd p (j - 1) h1 (by omega) (by omega) hp (by omega)
   ·rw [if_neg hq];exact h.Jd p q h1 h2 h3 hp hq
 ·intro q h1 h2;rw [g,g,if_pos rfl,if_neg (by omega)];by_cases hq:q=j
  ·rw [if_pos hq];omega
  ·rw [if_neg hq];exact h.up q (by omega) h2
end Go.Proofs.YtlpmfgmldmdggaaGreat
open Go Go.RM
namespace Go.Proofs.YtlpmfgmldmdggaaGreat
set_option maxRecDepth 100000
set_option maxHeartbeats 4000000
def Ip (l:List Int):Nat→Int
 | 0=>aH l 0
 | k+1=>max (Ip l k) (aH l (k+1))
def C4 (l:List Int):Int:=Ip l (l.length - 1)
theorem G8 (l:List Int):∀ k i,i≤k→aH l i≤Ip l k
 | 0,i,h=>by rw [show i=0 by omega];exact Int.le_refl _
 | k+1,i,h=>by
  show _≤max (Ip l k) (aH l (k+1));by_cases e:i=k+1
  ·rw [e];exact Int.le_max_right _ _
  ·exact Int.le_trans (G8 l k i (by omega)) (Int.le_max_left _ _)
theorem C5 (l:List Int):∀ k,∃ i,i≤k∧Ip l k=aH l i
 | 0=>⟨0,qq6 _,rfl⟩
 | k+1=>by
  obtain ⟨i,h1,h2⟩:=C5 l k;by_cases e:Ip l k≤aH l (k+1)
  ·exact ⟨k+1,qq6 _,Int.max_eq_right e⟩
  ·exact ⟨i,by omega,by show max (Ip l k) (aH l (k+1))=_;rw [Int.max_eq_left (by omega)];exact h2⟩
end Go.Proofs.YtlpmfgmldmdggaaGreat
open Go Go.RM
namespace Go.Proofs.YtlpmfgmldmdggaaGreat
set_option maxRecDepth 100000
set_option maxHeartbeats 4000000
abbrev s5 (c:aL) (p:bE) (m0 m1 m2:Nat):List AV:=[.sl (c.aC.map aT) false,.sl (c.aD.map aZ) false,af c.least,af p.turns,af p.days,af p.aR,af (m0:Nat),af (m1:Nat),af (m2:Nat)]
def kF (a m:Nat):Bool:=!decide ((m:Int)=0) && decide (((m &&& (18446744073709551615 - a):Nat):Int)=0)
def xM (m0 m1 m2 a:Nat):Bool:=!(kF a m0 || (kF a m1 || kF a m2))
theorem C6 (one:Bool) (a m:Nat) (ha:a < 32) (hm:m < 32):ak TT TB one (.fn 111 [] [.pt [af (a:Nat)] 0]) [af (m:Nat)] (BB (kF a m)):=by
 unfold kF
 cases e1:decide ((m:Int)=0) with
 | true =>
  have e2:(!decide ((m:Int)=0))=false:=by rw [e1];rfl
  refine ak.body (fn:=Tryz.f111) rfl rfl rfl rfl ?_;refine qq1 ?_;repeat' first|refine u1 ?_|refine u2 ?_|fail
  exact ⟨[_],⟨Fz.deep rfl,trivial⟩,rfl⟩
 | false =>
  have e2:(!decide ((m:Int)=0))=true:=by rw [e1];rfl
  refine ak.body (fn:=Tryz.f111) rfl rfl rfl rfl ?_;refine qq1 ?_;repeat' first|refine u1 ?_|((with_reducible show aU _ _ _ _ _ _ _ _ _);refine RM.KW (m:=m) (n:=a) rfl rfl (by omega) (by omega) ?_)|refine u2 ?_|fail
  exact ⟨[_],⟨Fz.deep rfl,trivial⟩,rfl⟩
theorem G9 (one:Bool) (c:aL) (p:bE) (m0 m1 m2 a:Nat) (h0:m0 < 32) (h1:m1 < 32) (h2:m2 < 32) (ha:a < 32):Pu one 79 [.ag (s5 c p m0 m1 m2),af (a:Nat)] (BB (xM m0 m1 m2 a)):=by
 have o1:=lY one 111 [] [.pt [af (a:Nat)] 0] rfl (fun x=>kF a x.toNat) [(m0:Int),(m1:Int),(m2:Int)] true (by simp [maxLen]) (fun x hx=>by
  rcases List.mem_cons.1 hx with rfl|hx
  ·exact C6 one a m0 ha h0
  ·rcases List.mem_cons.1 hx with rfl|hx
   ·exact C6 one a m1 ha h1
   ·rw [List.mem_singleton.1 hx]
    exact C6 one a m2 ha h2)
 have e:([(m0:Int),(m1:Int),(m2:Int)].any fun x=>kF a x.toNat)=(kF a m0 || (kF a m1 || kF a m2)):=by simp only [List.any_cons,List.any_nil,Bool.or_false,Int.toNat_natCast]
 rw [e] at o1;unfold xM
 generalize (kF a m0 || (kF a m1 || kF a m2))=b at *
 refine ak.body (fn:=Tryz.f79) rfl rfl rfl rfl ?_;refine qq1 ?_;repeat' first|(refine RM.N7 (els:=ints [(m0:Int),(m1:Int),(m2:Int)]) rfl rfl (Nat.le_of_ble_eq_true rfl) (Nat.le_of_ble_eq_true rfl) ⟨rfl,(fun el hel=>by obtain ⟨x,_,rfl⟩:=List.mem_map.1 hel;rfl),rfl⟩ ?_)|((with_reducible refine qq3 ?_);refine ak.call o1 rfl rfl ?_)|refine u1 ?_|refine u2 ?_|fail
 exact ⟨[_],⟨Fz.deep rfl,trivial⟩,rfl⟩
theorem wL (one:Bool) (c:aL) (hg:Good c) (p:bE) (hp:ob p) (m0 m1 m2:Nat) (i:Nat) (hi:i < c.aD.length) (n:Int) (hn:0≤n∧n≤p.turns):Pu one 80 [.ag (s5 c p m0 m1 m2),af (i:Int),af n] (af (cU c p i n)):=by
 have em:((c.aD.map aZ).length:Int)=c.aD.length:=by simp
 have eg:((c.aC.map aT).length:Int)=c.aC.length:=by simp
 obtain ⟨mn,rk,w,ms,ra,rb,rc,rd,e,hmt,hrt,hrk,hb1,hb2,h01,h02,_⟩:=lZ hg (k:=i) hi;unfold cU;rw [h01,h02];obtain ⟨t,d,aw⟩:=p;obtain ⟨p1,p2,p3⟩:=hp
 dsimp only at *
 have hq:=Fc (w:=w) hb1 p1 p2 hn;obtain ⟨q1,q2,q3,q4,q5⟩:=hq;have hbi:-440000≤sZ w e t d n∧sZ w e t d n≤600000:=by omega
 rw [←q5];show Pu one 80 [.ag [.sl (c.aC.map aT) false,.sl (c.aD.map aZ) false,af c.least,af t,af d,af aw,af (m0:Nat),af (m1:Nat),af (m2:Nat)],af (i:Int),af n] _;refine ak.body (fn:=Tryz.f80) rfl rfl rfl rfl ?_;refine qq1 ?_;repeat' first|refine u1 ?_|(refine ⟨[ST mn,af rk,af w,BB ms],⟨by omega,hmt⟩,rfl,?_⟩)|(refine ⟨[ST ra,af rb,af rc,af rd,af e],⟨by omega,hrt⟩,rfl,?_⟩)|refine u2 ?_|fail
 exact ⟨[_],⟨Fz.deep rfl,trivial⟩,rfl⟩
end Go.Proofs.YtlpmfgmldmdggaaGreat
open Go Go.RM
namespace Go.Proofs.YtlpmfgmldmdggaaGreat
set_option maxRecDepth 100000
set_option maxHeartbeats 4000000
def fR (c:aL) (i:Nat):Nat:=(((c.aD[i]?).map ji.jx).getD 9).toNat
def bD (c:aL) (r:Nat):Nat→Nat
 | 0=>0
 | k+1=>if fR c k=r then bD c r k ||| 2 ^ k else bD c r k
theorem DX (c:aL) (r:Nat):∀ k,bD c r k < 2 ^ k
 | 0=>Nat.one_pos
 | k+1=>by
  have h:=DX c r k;have h2:2 ^ (k+1)=2 * 2 ^ k:=by rw [Nat.pow_succ,Nat.mul_comm]
  unfold bD;split
  ·exact Nat.or_lt_two_pow (by omega) (by omega)
  ·omega
theorem oQ {c:aL} (r:Nat) {k:Nat} (hk:k≤5):bD c r k < 32:=Nat.lt_of_lt_of_le (DX c r k) (Nat.pow_le_pow_right (by decide) hk)
theorem BO (c:aL) (r:Nat):∀ k i,(bD c r k).testBit i=(decide (i < k) && decide (fR c i=r))
 | 0,i=>by simp [bD]
 | k+1,i=>by
  have h:=BO c r k i;unfold bD;by_cases hik:i=k
  ·subst hik;by_cases hr:fR c i=r
   ·rw [if_pos hr,Nat.testBit_or,h,Nat.testBit_two_pow_self];simp [hr]
   ·rw [if_neg hr,h];simp [hr]
  ·have e:decide (i < k+1)=decide (i < k):=by
    by_cases h1:i < k
    ·rw [decide_eq_true h1,decide_eq_true (by omega)]
    ·rw [decide_eq_false h1,decide_eq_false (by omega)]
   rw [e];by_cases hr:fR c k=r
   ·rw [if_pos hr,Nat.testBit_or,h,Nat.testBit_two_pow_of_ne (Ne.symm hik),Bool.or_false]
   ·rw [if_neg hr,h]
abbrev KY (c:aL) (p:bE):AV:=.ag (s5 c p (bD c 0 c.aD.length) (bD c 1 c.aD.length) (bD c 2 c.aD.length))
abbrev Ns:AV:=.ag [.fl (.slice none 0 0),.fl (.slice none 0 0),af 0,af 0,af 0,af 0,af 0,af 0,af 0]
theorem yB (one:Bool) (c:aL) (h:c.Ok) (p:bE) (he:kJ c p ≠ 0):Pu one 75 [.ag (aI c),.ag (cV p)] (.tp [Ns,af (kJ c p)]):=by
 have o1:=ua one c h p;have d1:(!decide (kJ c p=0))=true:=by rw [decide_eq_false he];rfl
 generalize kJ c p=e at *
 refine ak.body (fn:=Tryz.f75) rfl rfl rfl rfl ?_;refine aa (mu:=fun t=>Nat.beq t 4) ?_;repeat' first|refine u1 ?_|((with_reducible refine qq3 ?_);refine ak.call o1 rfl rfl ?_)|refine u2 ?_|fail
 exact ⟨[_,_],⟨Fz.deep rfl,Fz.deep rfl,trivial⟩,rfl⟩
theorem BP (one:Bool) (c:aL) (h:c.Ok) (p:bE) (he:kJ c p=0):Pu one 75 [.ag (aI c),.ag (cV p)] (.tp [KY c p,af 0]):=by
 have o1:=ua one c h p;obtain ⟨hg,hp⟩:=pU he;have hm5:=hg.aD;have hr3:=hg.aC;have em:((c.aD.map aZ).length:Int)=c.aD.length:=by simp
 have d1:(!decide ((0:Int)=0))=false:=rfl;rw [he] at o1;refine ak.body (fn:=Tryz.f75) rfl rfl rfl rfl ?_;refine aa (mu:=fun t=>Nat.beq t 4) ?_;repeat' first|refine u1 ?_|((with_reducible refine qq3 ?_);refine ak.call o1 rfl rfl ?_)|refine u2 ?_|fail
 refine aB.aO (ah.to (l:=[(2,.pt (aI c) 0),(3,.pt (cV p) 0),(4,.ptr 0 0 0),(5,af 0),(19,.sl (c.aD.map aZ) false),(20,af (c.aD.length:Int)),(21,af (0:Nat))]) (hp:=[.cells (s5 c p (bD c 0 0) (bD c 1 0) (bD c 2 0)) 0 0]) 1 rfl ⟨rfl,rfl,rfl,rfl,rfl,aE em,rfl,trivial⟩ (qq5 _) rfl rfl) ?_;refine aB.loop (fun k:Nat=>k≤c.aD.length) (fun k=>⟨aM [(2,.pt (aI c) 0),(3,.pt (cV p) 0),(4,.ptr 0 0 0),(5,af 0),(19,.sl (c.aD.map aZ) false),(20,af (c.aD.length:Int)),(21,af (k:Nat))],[.cells (s5 c p (bD c 0 k) (bD c 1 k) (bD c 2 k)) 0 0],bq.none,false,0⟩) (fun k=>c.aD.length - k) ?_ 0 (qq5 _);intro k hk;by_cases hlt:k < c.aD.length
 ·have dl:decide ((k:Int) < (c.aD.length:Int))=true:=decide_eq_true (by omega);obtain ⟨mn,rk,w,ms,ra,rb,rc,rd,e,hmt,hrt,hrk,hb1,hb2,h01,h02,hrk2⟩:=lZ hg (k:=k) hlt;have hra:fR c k=rk.toNat:=by unfold fR;rw [hrk2];rfl
  have s0:bD c 0 (k+1)=if fR c k=0 then bD c 0 k ||| 2 ^ k else bD c 0 k:=rfl;have s1:bD c 1 (k+1)=if fR c k=1 then bD c 1 k ||| 2 ^ k else bD c 1 k:=rfl;have s2:bD c 2 (k+1)=if fR c k=2 then bD c 2 k ||| 2 ^ k else bD c 2 k:=rfl;have b0:=oQ (c:=c) 0 (k:=k) (by omega);have b1:=oQ (c:=c) 1 (k:=k) (by omega);have b2:=oQ (c:=c) 2 (k:=k) (by omega);have bk:2 ^ k < 32:=by have:(2:Nat) ^ k≤2 ^ 4:=Nat.pow_le_pow_right (by decide) (by omega);omega
  rw [hra] at s0 s1 s2;have hk8:k < 8:=by omega
  generalize bD c 0 k=x0 at *
  generalize bD c 1 k=x1 at *
  generalize bD c 2 k=x2 at *
  obtain hz|hz|hz:rk=0∨rk=1∨rk=2:=by omega
  ·subst hz;rw [if_pos (by rfl)] at s0;rw [if_neg (by decide)] at s1 s2;refine aa (mu:=fun t=>Nat.beq t 4) ?_;repeat' first|((with_reducible show aU _ _ _ _ _ _ _ _ _);refine RM.zN (j:=k) rfl rfl hk8 ?_)|((with_reducible show aU _ _ _ _ _ _ _ _ _);refine RM.KV (m:=x0) (n:=2 ^ k) rfl rfl (by omega) (by omega) ?_)|refine u1 ?_|(refine ⟨[ST mn,af 0,af w,BB ms],⟨by omega,hmt⟩,rfl,?_⟩)|refine u2 ?_|fail
   exact ⟨k+1,hlt,(by dsimp only;omega),ah.to (l:=[(2,.pt (aI c) 0),(3,.pt (cV p) 0),(4,.ptr 0 0 0),(5,af 0),(19,.sl (c.aD.map aZ) false),(20,af (c.aD.length:Int)),(21,af ((k+1):Nat))]) (hp:=[.cells (s5 c p (bD c 0 (k+1)) (bD c 1 (k+1)) (bD c 2 (k+1))) 0 0]) 1 (by show _=[AB.cells (s5 c p (bD c 0 (k+1)) (bD c 1 (k+1)) (bD c 2 (k+1))) 0 0];rw [s0,s1,s2];rfl) ⟨rfl,rfl,rfl,rfl,rfl,rfl,aE (by simp),trivial⟩ (qq5 _) rfl rfl⟩
  ·subst hz;rw [if_pos (by rfl)] at s1;rw [if_neg (by decide)] at s0 s2;refine aa (mu:=fun t=>Nat.beq t 4) ?_;repeat' first|((with_reducible show aU _ _ _ _ _ _ _ _ _);refine RM.zN (j:=k) rfl rfl hk8 ?_)|((with_reducible show aU _ _ _ _ _ _ _ _ _);refine RM.KV (m:=x1) (n:=2 ^ k) rfl rfl (by omega) (by omega) ?_)|refine u1 ?_|(refine ⟨[ST mn,af 1,af w,BB ms],⟨by omega,hmt⟩,rfl,?_⟩)|refine u2 ?_|fail
   exact ⟨k+1,hlt,(by dsimp only;omega),ah.to (l:=[(2,.pt (aI c) 0),(3,.pt (cV p) 0),(4,.ptr 0 0 0),(5,af 0),(19,.sl (c.aD.map aZ) false),(20,af (c.aD.length:Int)),(21,af ((k+1):Nat))]) (hp:=[.cells (s5 c p (bD c 0 (k+1)) (bD c 1 (k+1)) (bD c 2 (k+1))) 0 0]) 1 (by show _=[AB.cells (s5 c p (bD c 0 (k+1)) (bD c 1 (k+1)) (bD c 2 (k+1))) 0 0];rw [s0,s1,s2];rfl) ⟨rfl,rfl,rfl,rfl,rfl,rfl,aE (by simp),trivial⟩ (qq5 _) rfl rfl⟩
  ·subst hz;rw [if_pos (by rfl)] at s2;rw [if_neg (by decide)] at s0 s1;refine aa (mu:=fun t=>Nat.beq t 4) ?_;repeat' first|((with_reducible show aU _ _ _ _ _ _ _ _ _);refine RM.zN (j:=k) rfl rfl hk8 ?_)|((with_reducible show aU _ _ _ _ _ _ _ _ _);refine RM.KV (m:=x2) (n:=2 ^ k) rfl rfl (by omega) (by omega) ?_)|refine u1 ?_|(refine ⟨[ST mn,af 2,af w,BB ms],⟨by omega,hmt⟩,rfl,?_⟩)|refine u2 ?_|fail
   exact ⟨k+1,hlt,(by dsimp only;omega),ah.to (l:=[(2,.pt (aI c) 0),(3,.pt (cV p) 0),(4,.ptr 0 0 0),(5,af 0),(19,.sl (c.aD.map aZ) false),(20,af (c.aD.length:Int)),(21,af ((k+1):Nat))]) (hp:=[.cells (s5 c p (bD c 0 (k+1)) (bD c 1 (k+1)) (bD c 2 (k+1))) 0 0]) 1 (by show _=[AB.cells (s5 c p (bD c 0 (k+1)) (bD c 1 (k+1)) (bD c 2 (k+1))) 0 0];rw [s0,s1,s2];rfl) ⟨rfl,rfl,rfl,rfl,rfl,rfl,aE (by simp),trivial⟩ (qq5 _) rfl rfl⟩
 ·have dl:decide ((k:Int) < (c.aD.length:Int))=false:=decide_eq_false (by omega);have hkn:k=c.aD.length:=by omega
  subst hkn;refine aa (mu:=fun t=>Nat.beq t 4) ?_;repeat' first|refine u1 ?_|refine u2 ?_|fail
  exact ⟨[_,_],⟨Fz.deep rfl,Fz.deep rfl,trivial⟩,rfl⟩
