/-
  Contracts of the program's functions and of the document's. Lemmas alone; their conditions stand in them.
-/
import Derived.Test.YtlpmfgmldmdggaaGreatK5
open Go Go.RM
namespace Go.Proofs.YtlpmfgmldmdggaaGreat
set_option maxRecDepth 100000
set_option maxHeartbeats 4000000
abbrev eL (l:List Int):List AV:=[.sl (ints l) false]
abbrev oZ (L:List (List Int)):List AV:=L.map fun l=>.sl (ints l) false
theorem l7:∀ L:List (List Int),(L.map eL).flatten=oZ L
 | []=>rfl
 | l :: L=>by rw [List.map_cons,List.flatten_cons,l7 L];rfl
theorem BH (L:List (List Int)):cZ (oZ L)=true:=oO (fun _=>rfl) L
theorem IM (L:List (List Int)):(oZ L).all AV.one=true:=by rw [List.all_map,List.all_eq_true];intro x _;rfl
theorem DB (L:List (List Int)):∀ el ∈ L.map eL,el.length=1:=fun el hel=>by obtain ⟨x,_,rfl⟩:=List.mem_map.1 hel;rfl
theorem DC (L:List (List Int)):(0:Nat)+L.length * 1≤(oZ L).length∧(L.map eL).length=L.length∧(L.map eL).flatten=((oZ L).drop 0).take (L.length * 1):=by refine ⟨by rw [List.length_map];omega,List.length_map _,?_⟩;rw [l7,List.drop_zero,List.take_of_length_le (by rw [List.length_map];omega)]
def CP (n:Nat):Nat→Nat→List (List Int)
 | 0,_=>[[]]
 | m+1,i=>[] :: (List.range (n - i)).flatMap fun q=>(CP n m (i+q+1)).map fun l=>((i+q:Nat):Int) :: l
def nY (n m i k:Nat):List (List Int):=[] :: (List.range k).flatMap fun q=>(CP n m (i+q+1)).map fun l=>((i+q:Nat):Int) :: l
theorem GG (n m i k:Nat):nY n m i (k+1)=nY n m i k++(CP n m (i+k+1)).map fun l=>((i+k:Nat):Int) :: l:=by unfold nY;rw [List.range_succ,List.flatMap_append,List.flatMap_cons,List.flatMap_nil,List.append_nil];rfl
theorem wP {α β:Type} {f:α→List β} {c:Nat}:∀ {l:List α},(∀ x ∈ l,(f x).length≤c)→(l.flatMap f).length≤l.length * c
 | [],_=>by simp
 | a :: l,h=>by rw [List.flatMap_cons,List.length_append,List.length_cons,Nat.succ_mul];have h1:=h a List.mem_cons_self;have h2:=wP (l:=l) fun x hx=>h x (List.mem_cons_of_mem _ hx);omega
theorem BI {n:Nat}:∀ m i,∀ l ∈ CP n m i,l.length≤m
 | 0,i,l,h=>by rw [List.mem_singleton.1 h];exact qq6 _
 | m+1,i,l,h=>by
  rcases List.mem_cons.1 h with rfl|h
  ·exact qq5 _
  ·obtain ⟨q,_,h⟩:=List.mem_flatMap.1 h;obtain ⟨l2,h2,rfl⟩:=List.mem_map.1 h;have:=BI m _ l2 h2;simp only [List.length_cons];omega
theorem zP {n:Nat} (h5:n≤5):∀ m i,(CP n m i).length≤6 ^ m
 | 0,i=>qq6 _
 | m+1,i=>by
  have h1:=wP (f:=fun q:Nat=>(CP n m (i+q+1)).map fun l=>((i+q:Nat):Int) :: l) (c:=6 ^ m) (l:=List.range (n - i)) fun q _=>by rw [List.length_map];exact zP h5 m _
  rw [List.length_range] at h1;have h2:(n - i) * 6 ^ m≤5 * 6 ^ m:=Nat.mul_le_mul_right _ (by omega);have h3:1≤6 ^ m:=Nat.one_le_pow _ _ (by decide);show (List.flatMap _ _).length+1≤_;rw [Nat.pow_succ,Nat.mul_comm];omega
def wQ:List Int→AV
 | []=>.fl (.slice none 0 0)
 | [x]=>.sl (ints [x]) true
 | x :: y :: l=>.sl (ints (x :: y :: l)) false
abbrev eA (l:List Int):List AV:=[wQ l]
theorem IP:∀ l,RM.Dn (wQ l) (.sl (ints l) false)
 | []=>.nil
 | [x]=>.sl (fun h=>Bool.noConfusion h) rfl (fun i el el' h1 h2=>by rw [h1] at h2;cases h2;rfl) (fun i el el' j a a' h1 h2 h3 h4=>by rw [h1] at h2;cases h2;rw [h3] at h4;cases h4;exact .refl _)
 | x :: y :: l=>.refl _
theorem DD (L:List (List Int)):RM.Dn (.sl (L.map eA) false) (.sl (L.map eL) false):=by
 refine .sl (fun h=>h) (by simp) (fun i el el' h1 h2=>?_) (fun i el el' j a a' h1 h2 h3 h4=>?_)
 ·rw [List.getElem?_map] at h1 h2
  cases hL:L[i]? with
  | none=>rw [hL] at h1;cases h1
  | some l=>rw [hL] at h1 h2;cases h1;cases h2;rfl
 ·rw [List.getElem?_map] at h1 h2
  cases hL:L[i]? with
  | none=>rw [hL] at h1;cases h1
  | some l =>
   rw [hL] at h1 h2;cases h1;cases h2
   cases j with
   | zero=>cases h3;cases h4;exact IP l
   | succ j=>cases h3
end Go.Proofs.YtlpmfgmldmdggaaGreat
open Go Go.RM
namespace Go.Proofs.YtlpmfgmldmdggaaGreat
set_option maxRecDepth 100000
set_option maxHeartbeats 4000000
end Go.Proofs.YtlpmfgmldmdggaaGreat
open Go Go.RM
namespace Go.Proofs.YtlpmfgmldmdggaaGreat
set_option maxRecDepth 100000
end Go.Proofs.YtlpmfgmldmdggaaGreat
open Go Go.RM
namespace Go.Proofs.YtlpmfgmldmdggaaGreat
set_option maxRecDepth 100000
set_option maxHeartbeats 4000000
end Go.Proofs.YtlpmfgmldmdggaaGreat
open Go Go.RM
namespace Go.Proofs.YtlpmfgmldmdggaaGreat
set_option maxRecDepth 100000
set_option maxHeartbeats 4000000
end Go.Proofs.YtlpmfgmldmdggaaGreat
open Go Go.RM
namespace Go.Proofs.YtlpmfgmldmdggaaGreat
set_option maxRecDepth 100000
def aG (S:List Int) (p:Nat):Int:=S.getD p 0
theorem DE {S:List Int} {q:Nat} (h:q < S.length):aG S q ∈ S:=by unfold aG;rw [List.getD_eq_getElem?_getD,List.getElem?_eq_getElem h];exact List.getElem_mem _
theorem Ku {S:List Int} {q:Nat} (h:q < S.length):S[q]?=some (aG S q):=by unfold aG;rw [List.getD_eq_getElem?_getD,List.getElem?_eq_getElem h];rfl
theorem GH {rk:Int→Int} {S T:List Int} (hi:∀ a ∈ S,∀ b ∈ S,rk a=rk b→a=b) (h1:S.Pairwise fun a b=>rk a≤rk b) (h2:T.Pairwise fun a b=>rk a≤rk b) (hp:S.Perm T):S=T :=
 List.Perm.eq_of_pairwise (le:=fun a b=>rk a≤rk b) (fun a b ha hb h h'=>hi a ha b (hp.mem_iff.2 hb) (Int.le_antisymm h h')) h1 h2 hp
end Go.Proofs.YtlpmfgmldmdggaaGreat
open Go Go.RM
namespace Go.Proofs.YtlpmfgmldmdggaaGreat
set_option maxRecDepth 100000
structure PR (S S':List Int) (a b:Nat):Prop where
 len:S'.length=S.length
 out:∀ i,(i < a∨b≤i)→aG S' i=aG S i
 perm:S'.Perm S
theorem PR.refl (S:List Int) (a b:Nat):PR S S a b:=⟨rfl,fun _ _=>rfl,List.Perm.refl _⟩
theorem PR.trans {S S' S2:List Int} {a b:Nat} (h:PR S S' a b) (h2:PR S' S2 a b):PR S S2 a b :=
 ⟨h2.len.trans h.len,fun i hi=>(h2.out i hi).trans (h.out i hi),h2.perm.trans h.perm⟩
theorem PR.wide {S S':List Int} {a b c d:Nat} (h:PR S S' a b) (h1:c≤a) (h2:b≤d):PR S S' c d :=
 ⟨h.len,fun i hi=>h.out i (by omega),h.perm⟩
theorem jl {S:List Int} {i:Nat} (h:i < S.length):S[i]?=some (aG S i):=Ku h
def sw (S:List Int) (i j:Nat):List Int:=(S.set i (aG S j)).set j (aG S i)
theorem CQ (S:List Int) (i j:Nat):(sw S i j).length=S.length:=by unfold sw;simp
theorem mV {S:List Int} {i j:Nat} (hi:i < S.length) (hj:j < S.length) (q:Nat):aG (sw S i j) q=if q=j then aG S i else if q=i then aG S j else aG S q:=by
 unfold sw aG;simp only [List.getD_eq_getElem?_getD];by_cases h1:q=j
 ·subst h1;rw [if_pos rfl,List.getElem?_set_self (by simpa using hj)];rfl
 ·rw [if_neg h1,List.getElem?_set_ne (Ne.symm h1)];by_cases h2:q=i
  ·subst h2;rw [if_pos rfl,List.getElem?_set_self hi];rfl
  ·rw [if_neg h2,List.getElem?_set_ne (Ne.symm h2)]
theorem IQ {S:List Int} {i j:Nat} (hi:i < S.length) (hj:j < S.length):(sw S i j).Perm S:=by
 unfold sw;have e1:aG S j=S[j]:=by unfold aG;rw [List.getD_eq_getElem?_getD,List.getElem?_eq_getElem hj];rfl
 have e2:aG S i=S[i]:=by unfold aG;rw [List.getD_eq_getElem?_getD,List.getElem?_eq_getElem hi];rfl
 rw [e1,e2];exact List.set_set_perm hi hj
theorem PR.sw {S:List Int} {i j a b:Nat} (hb:b≤S.length) (hi:a≤i∧i < b) (hj:a≤j∧j < b):PR S (sw S i j) a b :=
 ⟨CQ S i j,fun q hq=>by rw [mV (by omega) (by omega),if_neg (by omega),if_neg (by omega)],IQ (by omega) (by omega)⟩
theorem rS (S:List Int) (a i:Nat):aG (S.drop a) i=aG S (a+i):=by unfold aG;rw [List.getD_eq_getElem?_getD,List.getD_eq_getElem?_getD,List.getElem?_drop]
theorem rT {S:List Int} {n i:Nat} (h:i < n):aG (S.take n) i=aG S i:=by unfold aG;rw [List.getD_eq_getElem?_getD,List.getD_eq_getElem?_getD,List.getElem?_take_of_lt h]
theorem DF {S T:List Int} (hl:S.length=T.length) (h:∀ i,i < S.length→aG S i=aG T i):S=T:=by
 apply List.ext_getElem?;intro i;by_cases hi:i < S.length
 ·rw [jl hi,jl (hl ▸ hi),h i hi]
 ·rw [List.getElem?_eq_none (by omega),List.getElem?_eq_none (by omega)]
theorem PR.mid {S S':List Int} {a b:Nat} (h:PR S S' a b) (hab:a≤b) (hb:b≤S.length):((S'.drop a).take (b - a)).Perm ((S.drop a).take (b - a)):=by
 have hl:=h.len;have e1:S'.take a=S.take a:=DF (by rw [List.length_take,List.length_take,hl]) fun i hi=>by rw [List.length_take] at hi;rw [rT (by omega),rT (by omega),h.out i (by omega)]
 have e2:S'.drop b=S.drop b:=DF (by rw [List.length_drop,List.length_drop,hl]) fun i hi=>by rw [rS,rS,h.out _ (by omega)]
 have split:∀ R:List Int,R=R.take a++((R.drop a).take (b - a)++R.drop b):=fun R=>by
  have:(R.drop a).take (b - a)++R.drop b=R.drop a:=by have:=List.take_append_drop (b - a) (R.drop a);rw [List.drop_drop,show a+(b - a)=b by omega] at this;exact this
  rw [this,List.take_append_drop]
 have hp:=h.perm;rw [split S',split S,e1,e2,List.perm_append_left_iff,List.perm_append_right_iff] at hp;exact hp
theorem PR.all {S S':List Int} {a b:Nat} (h:PR S S' a b) (hb:b≤S.length) {P:Int→Prop} (hP:∀ i,a≤i→i < b→P (aG S i)):∀ i,a≤i→i < b→P (aG S' i):=by
 intro i h1 h2;have hm:=h.mid (by omega) hb;have hl:=h.len
 have hi:aG S' i ∈ (S'.drop a).take (b - a):=by
  have:aG ((S'.drop a).take (b - a)) (i - a)=aG S' i:=by rw [rT (by omega),rS,show a+(i - a)=i by omega]
  rw [←this];exact DE (by rw [List.length_take,List.length_drop];omega)
 obtain ⟨q,hq,he⟩:=List.getElem_of_mem (hm.mem_iff.1 hi);rw [List.length_take,List.length_drop] at hq;have h3:=jl (S:=(S.drop a).take (b - a)) (i:=q) (by rw [List.length_take,List.length_drop];omega);rw [List.getElem?_eq_getElem (by rw [List.length_take,List.length_drop];omega),he] at h3;rw [rT (by omega),rS] at h3;rw [Option.some.inj h3];exact hP _ (by omega) (by omega)
def Sd (rk:Int→Int) (S:List Int) (a b:Nat):Prop:=∀ i j,a≤i→i≤j→j < b→rk (aG S i)≤rk (aG S j)
theorem Sd.keep {rk:Int→Int} {S S':List Int} {a b c d:Nat} (h:Sd rk S a b) (hp:PR S S' c d) (hd:b≤c∨d≤a):Sd rk S' a b:=fun i j h1 h2 h3=>by rw [hp.out i (by omega),hp.out j (by omega)];exact h i j h1 h2 h3
theorem Sd.glue {rk:Int→Int} {S:List Int} {a m b:Nat} (h1:Sd rk S a m) (h2:Sd rk S m b) (hx:∀ i j,a≤i→i < m→m≤j→j < b→rk (aG S i)≤rk (aG S j)):Sd rk S a b:=fun i j hi hij hj=>by
 by_cases hjm:j < m
 ·exact h1 i j hi hij hjm
 ·by_cases him:i < m
  ·exact hx i j hi him (by omega) hj
  ·exact h2 i j (by omega) hij hj
theorem PR.DG {rk:Int→Int} {S S':List Int} {a b c d:Nat} (h:PR S S' a b) (hb:b≤S.length) (hd:d≤a∨b≤c) (hx:∀ i j,c≤i→i < d→a≤j→j < b→rk (aG S i)≤rk (aG S j)):∀ i j,c≤i→i < d→a≤j→j < b→rk (aG S' i)≤rk (aG S' j):=fun i j h1 h2 h3 h4=>by rw [h.out i (by omega)];exact h.all hb (P:=fun x=>rk (aG S i)≤rk x) (fun q hq1 hq2=>hx i q h1 h2 hq1 hq2) j h3 h4
theorem PR.GI {rk:Int→Int} {S S':List Int} {a b c d:Nat} (h:PR S S' a b) (hb:b≤S.length) (hd:d≤a∨b≤c) (hx:∀ i j,a≤i→i < b→c≤j→j < d→rk (aG S i)≤rk (aG S j)):∀ i j,a≤i→i < b→c≤j→j < d→rk (aG S' i)≤rk (aG S' j):=fun i j h1 h2 h3 h4=>by rw [h.out j (by omega)];exact h.all hb (P:=fun x=>rk x≤rk (aG S j)) (fun q hq1 hq2=>hx q j hq1 hq2 h3 h4) i h1 h2
structure EE (rk:Int→Int) (S:List Int) (a i j:Nat):Prop where
 IU:∀ p q,a≤p→p≤q→q≤i→p ≠ j→q ≠ j→rk (aG S p)≤rk (aG S q)
 up:∀ q,j < q→q≤i→rk (aG S j)≤rk (aG S q)
theorem EE.start {rk:Int→Int} {S:List Int} {a i:Nat} (h:Sd rk S a i):EE rk S a i i :=
 ⟨fun p q h1 h2 h3 h4 h5=>h p q h1 h2 (by omega),fun q h1 h2=>by omega⟩
theorem EE.done {rk:Int→Int} {S:List Int} {a i j:Nat} (h:EE rk S a i j) (hd:j≤a∨rk (aG S (j - 1))≤rk (aG S j)):Sd rk S a (i+1):=fun p q h1 h2 h3=>by
 by_cases hq:q=j
 ·subst hq;by_cases hp:p=q
  ·rw [hp];exact Int.le_refl _
  ·rcases hd with hd|hd
   ·omega
   ·by_cases hp1:p=q - 1
    ·rw [hp1];exact hd
    ·exact Int.le_trans (h.IU p (q - 1) h1 (by omega) (by omega) hp (by omega)) hd
 ·by_cases hp:p=j
  ·rw [hp];exact h.up q (by omega) (by omega)
  ·exact h.IU p q h1 h2 (by omega) hp hq
theorem EE.step {rk:Int→Int} {S:List Int} {a i j:Nat} (h:EE rk S a i j) (hj:a < j∧j≤i) (hi:i < S.length) (hl:rk (aG S j) < rk (aG S (j - 1))):EE rk (sw S j (j - 1)) a i (j - 1):=by
 have g:=mV (S:=S) (i:=j) (j:=j - 1) (by omega) (by omega);constructor
 ·intro p q h1 h2 h3 h4 h5;rw [g,g,if_neg h4,if_neg h5];by_cases hp:p=j
  ·rw [if_pos hp];by_cases hq:q=j
   ·rw [if_pos hq];exact Int.le_refl _
   ·rw [if_neg hq];exact h.IU (j - 1) q (by omega) (by omega) h3 (by omega) hq
  ·rw [if_neg hp];by_cases hq:q=j
   ·rw [if_pos hq];exact h.IU p (j - 1) h1 (by omega) (by omega) hp (by omega)
   ·rw [if_neg hq];exact h.IU p q h1 h2 h3 hp hq
 ·intro q h1 h2;rw [g,g,if_pos rfl,if_neg (by omega)];by_cases hq:q=j
  ·rw [if_pos hq];omega
  ·rw [if_neg hq];exact h.up q (by omega) h2
end Go.Proofs.YtlpmfgmldmdggaaGreat
open Go Go.RM
namespace Go.Proofs.YtlpmfgmldmdggaaGreat
set_option maxRecDepth 100000
set_option maxHeartbeats 4000000
def IV (l:List Int):Nat→Int
 | 0=>aG l 0
 | k+1=>max (IV l k) (aG l (k+1))
def MI (l:List Int):Int:=IV l (l.length - 1)
theorem CR (one:Bool) (l:List Int) (f:Bool) (hl:l.length≤maxLen) (h0:0 < l.length):Pu one 48 [.sl (ints l) f] (af (MI l)):=by
 have el:((ints l).length:Int)=l.length:=by simp
 have hl':l.length≤maxLen:=hl;simp only [maxLen] at hl';have h00:(ints l)[((0:Nat):Int).toNat]?=some (eI (aG l 0)):=by rw [dB h0];rw [show l[0]=aG l 0 from by have:=jl h0;rw [List.getElem?_eq_getElem h0] at this;exact Option.some.inj this]
 refine ak.body (fn:=Tryz.f48) rfl rfl rfl rfl ?_;refine qq1 ?_;repeat' first|refine u1 ?_|(refine ⟨[af (aG l 0)],⟨by omega,h00⟩,rfl,?_⟩)|refine u2 ?_|fail
 refine aB.aP (ah.to (l:=[(0,.sl (ints l) f),(3,af (IV l (1 - 1))),(4,af (1:Nat))]) (hp:=[]) 0 rfl ⟨rfl,rfl,rfl,trivial⟩ (qq5 _) rfl rfl) ?_;refine aB.loop (fun k:Nat=>1≤k∧k≤l.length) (fun k=>⟨aL [(0,.sl (ints l) f),(3,af (IV l (k - 1))),(4,af (k:Nat))],[],bp.none,false,0⟩) (fun k=>l.length - k) ?_ 1 ⟨qq6 _,h0⟩;rintro k ⟨h1,h2⟩;by_cases hlt:k < l.length
 ·have dl:decide ((k:Int) < ((ints l).length:Int))=true:=decide_eq_true (by omega);have hat:(ints l)[((k:Nat):Int).toNat]?=some (eI (aG l k)):=by rw [dB hlt];rw [show l[k]=aG l k from by have:=jl hlt;rw [List.getElem?_eq_getElem hlt] at this;exact Option.some.inj this]
  have hs:IV l (k+1 - 1)=max (IV l (k - 1)) (aG l k):=by obtain ⟨q,rfl⟩:∃ q,k=q+1:=⟨k - 1,by omega⟩;rfl
  refine qq1 ?_;repeat' first|refine u1 ?_|(refine ⟨[af (aG l k)],⟨by omega,hat⟩,rfl,?_⟩)|refine u2 ?_|fail
  exact ⟨k+1,⟨by omega,hlt⟩,(by dsimp only;omega),ah.to (l:=[(0,.sl (ints l) f),(3,af (IV l ((k+1) - 1))),(4,af ((k+1):Nat))]) 0 rfl ⟨rfl,by rw [hs];rfl,aD (by simp),trivial⟩ (qq5 _) rfl rfl⟩
 ·have dl:decide ((k:Int) < ((ints l).length:Int))=false:=decide_eq_false (by omega);have hk:k=l.length:=by omega
  subst hk;refine qq1 ?_;repeat' first|refine u1 ?_|refine u2 ?_|fail
  exact ⟨[_],⟨Fz.deep rfl,trivial⟩,rfl⟩
end Go.Proofs.YtlpmfgmldmdggaaGreat
open Go Go.RM
namespace Go.Proofs.YtlpmfgmldmdggaaGreat
set_option maxRecDepth 100000
set_option maxHeartbeats 4000000
def rU (a b:Int):Int:=if a < b then -1 else if b < a then 1 else 0
theorem GJ (one:Bool) (a:Int):Pu one 109 [af a] (BB false):=by
 refine ak.body (fn:=Tryz.f109) rfl rfl rfl rfl ?_;refine qq1 ?_;repeat' first|refine u1 ?_|refine u2 ?_|fail
 exact ⟨[_],⟨Fz.deep rfl,trivial⟩,by show AV.fl (.bool (!decide (a=a)))=_;rw [decide_eq_true rfl];rfl⟩
theorem EF (one:Bool) (a b:Int):Pu one 69 [af a,af b] (af (rU a b)):=by
 have o1:=GJ one a;have o2:=GJ one b;unfold rU
 cases e1:decide (a < b) with
 | true =>
  rw [if_pos (of_decide_eq_true e1)];refine ak.body (fn:=Tryz.f69) rfl rfl rfl rfl ?_;refine qq1 ?_;repeat' first|refine u1 ?_|((with_reducible refine qq3 ?_);refine ak.call o1 rfl rfl ?_)|((with_reducible refine qq3 ?_);refine ak.call o2 rfl rfl ?_)|refine u2 ?_|fail
  exact ⟨[_],⟨Fz.deep rfl,trivial⟩,rfl⟩
 | false =>
  rw [if_neg (of_decide_eq_false e1)]
  cases e2:decide (b < a) with
  | true =>
   rw [if_pos (of_decide_eq_true e2)];refine ak.body (fn:=Tryz.f69) rfl rfl rfl rfl ?_;refine qq1 ?_;repeat' first|refine u1 ?_|((with_reducible refine qq3 ?_);refine ak.call o1 rfl rfl ?_)|((with_reducible refine qq3 ?_);refine ak.call o2 rfl rfl ?_)|refine u2 ?_|fail
   exact ⟨[_],⟨Fz.deep rfl,trivial⟩,rfl⟩
  | false =>
   rw [if_neg (of_decide_eq_false e2)];refine ak.body (fn:=Tryz.f69) rfl rfl rfl rfl ?_;refine qq1 ?_;repeat' first|refine u1 ?_|((with_reducible refine qq3 ?_);refine ak.call o1 rfl rfl ?_)|((with_reducible refine qq3 ?_);refine ak.call o2 rfl rfl ?_)|refine u2 ?_|fail
   exact ⟨[_],⟨Fz.deep rfl,trivial⟩,rfl⟩
end Go.Proofs.YtlpmfgmldmdggaaGreat
open Go Go.RM
namespace Go.Proofs.YtlpmfgmldmdggaaGreat
set_option maxRecDepth 100000
set_option maxHeartbeats 4000000
def ue (a:Nat):Nat→List Int
 | 0=>[]
 | k+1=>if ((a / 2 ^ k % 2:Nat):Int)=1 then ue a k++[(k:Int)] else ue a k
theorem jK (a:Nat):∀ k,(ue a k).length≤k
 | 0=>qq6 _
 | k+1=>by
  have:=jK a k;unfold ue;split
  ·rw [List.length_append];simp only [List.length_singleton];omega
  ·omega
def cV (a:Nat):List Int:=ue a 5
theorem IW (one:Bool) (a:Nat) (ha:a < 32):Pu one 84 [af (a:Nat)] (.sl (ints (cV a)) false):=by
 refine ak.body (fn:=Tryz.f84) rfl rfl rfl rfl ?_;refine aa (mu:=fun t=>Nat.beq t 15) ?_;repeat' first|refine u1 ?_|refine u2 ?_|fail
 refine aB.aP (ah.trans (ah.nW 1) (ah.JJ (l:=[(0,af (a:Nat)),(2,.aI 0 ((0,0,0):Nat × Nat × Nat).2.1 0 (ue a ((0,0,0):Nat × Nat × Nat).1).length ((0,0,0):Nat × Nat × Nat).2.2),(4,af (((0,0,0):Nat × Nat × Nat).1:Nat))]) (hp:=[.cells (ay (ue a ((0,0,0):Nat × Nat × Nat).1)) 1 ((0,0,0):Nat × Nat × Nat).2.1]) 1 rfl ⟨eP.refl _,eP.nV,eP.refl _,trivial⟩ (qq5 _) rfl (av _ _))) ?_;refine aB.loop (fun x:Nat × Nat × Nat=>x.1≤5∧(x.2.2=(ue a x.1).length∨x.2.2=(ue a x.1).length+1)) (fun x=>⟨aL [(0,af (a:Nat)),(2,.aI 0 x.2.1 0 (ue a x.1).length x.2.2),(4,af (x.1:Nat))],[.cells (ay (ue a x.1)) 1 x.2.1],bp.none,false,0⟩) (fun x=>5 - x.1) ?_ (0,0,0) ⟨qq5 _,.inl rfl⟩;rintro ⟨k,v,cc⟩ ⟨hk,hcap⟩;dsimp only at hk hcap;show aB _ _ _ _ ⟨aL [(0,af (a:Nat)),(2,.aI 0 ((k,v,cc):Nat × Nat × Nat).2.1 0 (ue a ((k,v,cc):Nat × Nat × Nat).1).length ((k,v,cc):Nat × Nat × Nat).2.2),(4,af (((k,v,cc):Nat × Nat × Nat).1:Nat))],[.cells (ay (ue a ((k,v,cc):Nat × Nat × Nat).1)) 1 ((k,v,cc):Nat × Nat × Nat).2.1],bp.none,false,0⟩ _;dsimp only;have hlk:=jK a k;by_cases hlt:k < 5
 ·have dl:decide ((k:Int) < 5)=true:=decide_eq_true (by omega);have hs:ue a (k+1)=if ((a / 2 ^ k % 2:Nat):Int)=1 then ue a k++[(k:Int)] else ue a k:=rfl;have hgl:(ay (ue a k)).length=(ue a k).length * 1:=by rw [List.length_map];omega
  have hq:a / 2 ^ k < 4611686018427387904:=Nat.lt_of_le_of_lt (Nat.div_le_self _ _) (by omega);by_cases hb:((a / 2 ^ k % 2:Nat):Int)=1
  ·rw [if_pos hb] at hs;have hd:decide (((a / 2 ^ k % 2:Nat):Int)=1)=true:=decide_eq_true hb;have hsl:(ue a (k+1)).length=(ue a k).length+1:=by rw [hs,List.length_append];rfl
   refine aa (mu:=fun t=>Nat.beq t 15) ?_;repeat' first|refine u1 ?_|((with_reducible show aV _ _ _ _ _ _ _ _ _);refine RM.CG (m:=a) (j:=k) rfl rfl (by omega) ?_)|((with_reducible show aV _ _ _ _ _ _ _ _ _);refine RM.F5 (m:=a / 2 ^ k) rfl rfl hq ?_)|((with_reducible show RM.wpOp _ _ (.call _) _ _ _);refine RM.wD (cs:=ay (ue a k)) (n:=(ue a k).length) (els:=[[af (k:Int)]]) rfl rfl rfl rfl rfl (fun el hel=>by rw [List.mem_singleton.1 hel];rfl) rfl rfl hgl hcap (by simp only [List.length_singleton];omega) (fun v' c' hc'=>?_))|refine u2 ?_|fail
   exact ⟨(k+1,v',c'),⟨hlt,by dsimp only;rw [hsl];exact hc'⟩,(by dsimp only;omega),ah.to (hp:=[.cells (ay (ue a ((k+1,v',c'):Nat × Nat × Nat).1)) 1 ((k+1,v',c'):Nat × Nat × Nat).2.1]) 1 (by show _=[AB.cells (ay (ue a (k+1))) 1 v'];rw [hs];unfold ay;rw [List.map_append];rfl) ⟨rfl,by dsimp only;rw [hsl];rfl,aD (by simp),trivial⟩ (qq5 _) rfl (av _ _)⟩
  ·rw [if_neg hb] at hs;have hd:decide (((a / 2 ^ k % 2:Nat):Int)=1)=false:=decide_eq_false hb;refine aa (mu:=fun t=>Nat.beq t 15) ?_;repeat' first|refine u1 ?_|((with_reducible show aV _ _ _ _ _ _ _ _ _);refine RM.CG (m:=a) (j:=k) rfl rfl (by omega) ?_)|((with_reducible show aV _ _ _ _ _ _ _ _ _);refine RM.F5 (m:=a / 2 ^ k) rfl rfl hq ?_)|refine u2 ?_|fail
   exact ⟨(k+1,v,cc),⟨hlt,by dsimp only;rw [hs];exact hcap⟩,(by dsimp only;omega),ah.to (hp:=[.cells (ay (ue a ((k+1,v,cc):Nat × Nat × Nat).1)) 1 ((k+1,v,cc):Nat × Nat × Nat).2.1]) 1 (by show _=[AB.cells (ay (ue a (k+1))) 1 v];rw [hs];rfl) ⟨rfl,by dsimp only;rw [hs];rfl,aD (by simp),trivial⟩ (qq5 _) rfl (av _ _)⟩
 ·have dl:decide ((k:Int) < 5)=false:=decide_eq_false (by omega);have hk5:k=5:=by omega
  subst hk5;refine aa (mu:=fun t=>Nat.beq t 15) ?_;repeat' first|refine u1 ?_|refine u2 ?_|fail
  exact ⟨[_],⟨rO rfl rfl,trivial⟩,rfl⟩
end Go.Proofs.YtlpmfgmldmdggaaGreat
open Go Go.RM
namespace Go.Proofs.YtlpmfgmldmdggaaGreat
set_option maxRecDepth 100000
set_option maxHeartbeats 4000000
def zQ:List Int→List Int→Int
 | [],[]=>0
 | [],_ :: _=>-1
 | _ :: _,[]=>1
 | x :: l,y :: m=>if rU x y ≠ 0 then rU x y else zQ l m
theorem EG {l m:List Int} {k:Nat} (hk:k < l.length) (hm:m.length≤k):zQ (l.drop k) (m.drop k)=1:=by rw [List.drop_eq_getElem_cons hk,List.drop_of_length_le hm];rfl
theorem EH {l m:List Int} {k:Nat} (hk:k < l.length) (hm:k < m.length):zQ (l.drop k) (m.drop k)=if rU l[k] m[k] ≠ 0 then rU l[k] m[k] else zQ (l.drop (k+1)) (m.drop (k+1)):=by rw [List.drop_eq_getElem_cons hk,List.drop_eq_getElem_cons hm];rfl
theorem GK {l m:List Int}:zQ (l.drop l.length) (m.drop l.length)=if l.length < m.length then -1 else 0:=by
 rw [List.drop_of_length_le (qq6 _)];by_cases h:l.length < m.length
 ·rw [if_pos h,List.drop_eq_getElem_cons h];rfl
 ·rw [if_neg h,List.drop_of_length_le (by omega)];rfl
theorem Kv (one:Bool) (l m:List Int) (fl fm:Bool) (hl:l.length≤maxLen) (_hm:m.length≤maxLen):Pu one 131 [.sl (ints l) fl,.sl (ints m) fm] (af (zQ l m)):=by
 have el:((ints l).length:Int)=l.length:=by simp
 have em:((ints m).length:Int)=m.length:=by simp
 simp only [maxLen] at hl;refine ak.body (fn:=Tryz.f131) rfl rfl rfl rfl ?_;refine qq1 ?_;repeat' first|refine u1 ?_|refine u2 ?_|fail
 refine aB.aP (ah.to (l:=[(1,.sl (ints m) fm),(9,.sl (ints l) fl),(0,.sl (ints l) fl),(10,af (l.length:Int)),(11,af (0:Nat))]) (hp:=[]) 0 rfl ⟨rfl,rfl,rfl,aD el,rfl,trivial⟩ (qq5 _) rfl rfl) ?_;refine aB.loop (fun k:Nat=>k≤l.length∧zQ (l.drop k) (m.drop k)=zQ l m) (fun k=>⟨aL [(1,.sl (ints m) fm),(9,.sl (ints l) fl),(0,.sl (ints l) fl),(10,af (l.length:Int)),(11,af (k:Nat))],[],bp.none,false,0⟩) (fun k=>l.length - k) ?_ 0 ⟨qq5 _,rfl⟩;rintro k ⟨hk,hc⟩;by_cases hlt:k < l.length
 ·have dl:decide ((k:Int) < (l.length:Int))=true:=decide_eq_true (by omega);have hat:(ints l)[((k:Nat):Int).toNat]?=some (eI l[k]):=dB hlt;by_cases hmt:k < m.length
  ·have d1:decide (((ints m).length:Int)≤(k:Int))=false:=decide_eq_false (by omega);have hat2:(ints m)[((k:Nat):Int).toNat]?=some (eI m[k]):=dB hmt;have hst:=EH hlt hmt;have o1:=EF one l[k] m[k];rw [hc] at hst
   generalize l[k]=x at *
   generalize m[k]=y at *
   by_cases h0:rU x y=0
   ·rw [if_neg (fun h=>h h0)] at hst;rw [h0] at o1;have d2:(!decide ((0:Int)=0))=false:=rfl;refine qq1 ?_;repeat' first|refine u1 ?_|(refine ⟨[af x],⟨by omega,hat⟩,rfl,?_⟩)|(refine ⟨[af y],⟨by omega,hat2⟩,rfl,?_⟩)|((with_reducible refine qq3 ?_);refine ak.call o1 rfl rfl ?_)|refine u2 ?_|fail
    exact ⟨k+1,⟨hlt,hst.symm⟩,(by dsimp only;omega),ah.to 0 rfl ⟨rfl,rfl,rfl,rfl,aD (by simp),trivial⟩ (qq5 _) rfl rfl⟩
   ·rw [if_pos h0] at hst;rw [hst];have d2:(!decide (rU x y=0))=true:=by rw [decide_eq_false h0];rfl
    generalize rU x y=z at *
    refine qq1 ?_;repeat' first|refine u1 ?_|(refine ⟨[af x],⟨by omega,hat⟩,rfl,?_⟩)|(refine ⟨[af y],⟨by omega,hat2⟩,rfl,?_⟩)|((with_reducible refine qq3 ?_);refine ak.call o1 rfl rfl ?_)|refine u2 ?_|fail
    exact ⟨[_],⟨Fz.deep rfl,trivial⟩,rfl⟩
  ·have d1:decide (((ints m).length:Int)≤(k:Int))=true:=decide_eq_true (by omega);have hz:=EG hlt (Nat.not_lt.1 hmt);rw [hc] at hz;rw [hz]
   generalize l[k]=x at *
   refine qq1 ?_;repeat' first|refine u1 ?_|(refine ⟨[af x],⟨by omega,hat⟩,rfl,?_⟩)|refine u2 ?_|fail
   exact ⟨[_],⟨Fz.deep rfl,trivial⟩,rfl⟩
 ·have dl:decide ((k:Int) < (l.length:Int))=false:=decide_eq_false (by omega);have hkl:k=l.length:=by omega
  subst hkl;rw [GK] at hc;rw [←hc];by_cases h3:l.length < m.length
  ·have d3:decide (((ints l).length:Int) < ((ints m).length:Int))=true:=decide_eq_true (by omega);rw [if_pos h3];refine qq1 ?_;repeat' first|refine u1 ?_|refine u2 ?_|fail
   exact ⟨[_],⟨Fz.deep rfl,trivial⟩,rfl⟩
  ·have d3:decide (((ints l).length:Int) < ((ints m).length:Int))=false:=decide_eq_false (by omega);rw [if_neg h3];refine qq1 ?_;repeat' first|refine u1 ?_|refine u2 ?_|fail
   exact ⟨[_],⟨Fz.deep rfl,trivial⟩,rfl⟩
def Nt:List Int:=[0,1,17,2,25,10,18,3,29,14,22,7,26,11,19,4,31,16,24,9,28,13,21,6,30,15,23,8,27,12,20,5]
def cu (a:Int):Int:=Nt.getD a.toNat 0
theorem Kw:∀ a,a < 32→∀ b,b < 32→zQ (cV a) (cV b)=rU (cu (a:Nat)) (cu (b:Nat)):=by decide
theorem Kx:∀ a,a < 32→∀ b,b < 32→cu (a:Nat)=cu (b:Nat)→a=b:=by decide
theorem Ky (one:Bool) (a b:Nat) (ha:a < 32) (hb:b < 32):Pu one 130 [af (a:Nat),af (b:Nat)] (af (rU (cu (a:Nat)) (cu (b:Nat)))):=by
 have o1:=IW one a ha;have o2:=IW one b hb;have o3:=Kv one (cV a) (cV b) false false (by have:=jK a 5;unfold cV;simp only [maxLen];omega) (by have:=jK b 5;unfold cV;simp only [maxLen];omega);rw [Kw a ha b hb] at o3;refine ak.body (fn:=Tryz.f130) rfl rfl rfl rfl ?_;refine qq1 ?_;repeat' first|refine u1 ?_|((with_reducible refine qq3 ?_);refine ak.call o1 rfl rfl ?_)|((with_reducible refine qq3 ?_);refine ak.call o2 rfl rfl ?_)|((with_reducible refine qq3 ?_);refine ak.call o3 rfl rfl ?_)|refine u2 ?_|fail
 exact ⟨[_],⟨Fz.deep rfl,trivial⟩,rfl⟩
