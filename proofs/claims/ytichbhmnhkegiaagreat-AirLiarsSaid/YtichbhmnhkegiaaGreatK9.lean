/-
  Contracts of the program's functions and of the document's. Lemmas alone; their conditions stand in them.
-/
import Derived.Test.YtichbhmnhkegiaaGreatK8
open Go Go.RM Go.AirLaw
namespace Go.Proofs.YtichbhmnhkegiaaGreat
set_option maxRecDepth 100000
set_option maxHeartbeats 4000000
abbrev mB (E:oL):AB:=.map (dZ 0 E) E.length
abbrev mC:AB:=.cells [.om 0] 0 0
theorem oO (n:Nat):∀ (E:oL) (b:Nat),((dZ b E).all fun p=>p.1.cJ n && p.2.1.cJ n)=true
 | [],_=>rfl
 | (k,c) :: E,b=>by
  unfold dZ
  rw [List.all_cons,oO n E (b+1)]
  rfl
theorem CD (n:Nat):∀ (E:oL) (b:Nat),((dZ b E).all fun p=>p.1.nV n && p.2.1.nV n)=true
 | [],_=>rfl
 | (k,c) :: E,b=>by
  unfold dZ
  rw [List.all_cons,CD n E (b+1)]
  rfl
def oP (n:Nat) (k:Int):List Int:=aO (fun i=>k.toNat.testBit i) 0 n
theorem sM (p:Nat→Bool) (n:Nat):oP n (cP p n:Nat)=aO p 0 n:=by
 unfold oP
 refine F3 fun i hi=>?_
 rw [Int.toNat_natCast,yL,decide_eq_true hi,Bool.true_and]
theorem Fa (B bb:List Int):(if ek (B.length:Int) (bb.length:Int) ≠ 0 then ek (B.length:Int) (bb.length:Int) else gG B bb) < 0 ↔ gv B bb:=by
 have hb:gv B bb ↔ (B.length < bb.length∨B.length=bb.length∧gG B bb < 0):=Iff.rfl
 rw [hb]
 rcases Nat.lt_trichotomy B.length bb.length with h|h|h
 ·have e:ek (B.length:Int) (bb.length:Int)=-1:=by unfold ek;rw [if_pos (by omega)]
  rw [e,if_pos (by decide)]
  exact ⟨fun _=>.inl h,fun _=>by decide⟩
 ·have e:ek (B.length:Int) (bb.length:Int)=0:=by unfold ek;rw [if_neg (by omega),if_neg (by omega)]
  rw [e,if_neg (by decide)]
  exact ⟨fun k=>.inr ⟨h,k⟩,fun k=>by rcases k with k|k;omega;exact k.2⟩
 ·have e:ek (B.length:Int) (bb.length:Int)=1:=by unfold ek;rw [if_neg (by omega),if_pos (by omega)]
  rw [e,if_pos (by decide)]
  exact ⟨fun k=>absurd k (by decide),fun k=>by rcases k with k|k <;> omega⟩
def nG (n:Nat) (seen:List Nat):Nat:=((List.range n).filter fun i=>!decide (i ∈ seen)).length
theorem uC {n i:Nat} {seen:List Nat} (hi:i < n) (h:i ∉ seen):nG n (seen++[i]) < nG n seen:=by
 unfold nG
 have e:(List.range n).filter (fun j=>!decide (j ∈ seen++[i]))=((List.range n).filter fun j=>!decide (j ∈ seen)).filter fun j=>!decide (j=i):=by
  rw [List.filter_filter]
  congr 1
  funext j
  rw [Bool.eq_iff_iff]
  simp only [Bool.not_eq_true',decide_eq_false_iff_not,Bool.and_eq_true,List.mem_append,List.mem_singleton]
  constructor
  ·intro h;exact ⟨fun e=>h (.inr e),fun e=>h (.inl e)⟩
  ·rintro ⟨h1,h2⟩ (h|h)
   ·exact h2 h
   ·exact h1 h
 rw [e,List.length_filter_lt_length_iff_exists]
 exact ⟨i,by rw [List.mem_filter,List.mem_range];exact ⟨hi,by simpa using h⟩,by simp⟩
theorem oQ:∀ {E:oL} {b:Nat} {e:AV × AV × Nat},e ∈ dZ b E→∃ (i:Nat) (x:Int × Int),E[i]?=some x∧e=(ai x.1,ai x.2,b+i)
 | [],_,_,h=>absurd h (List.not_mem_nil)
 | (k,c) :: E,b,e,h=>by
  unfold dZ at h
  rcases List.mem_cons.1 h with rfl|h
  ·exact ⟨0,(k,c),rfl,rfl⟩
  ·obtain ⟨i,x,h1,h2⟩:=oQ h
   exact ⟨i+1,x,h1,by rw [h2,show b+1+i=b+(i+1) by omega]⟩
theorem yV:∀ {E:oL} {b i:Nat} {x:Int × Int},E[i]?=some x→((dZ b E).find? fun p=>p.2.2 == b+i)=some (ai x.1,ai x.2,b+i)
 | [],_,_,_,h=>by cases h
 | (k,c) :: E,b,0,x,h=>by
  cases h
  unfold dZ
  rw [List.find?_cons]
  simp
 | (k,c) :: E,b,i+1,x,h=>by
  unfold dZ
  have hne:(b == b+(i+1))=false:=by rw [beq_eq_false_iff_ne];omega
  rw [List.find?_cons]
  simp only [hne]
  have:=yV (b:=b+1) (by simpa using h:E[i]?=some x)
  rw [show b+1+i=b+(i+1) by omega] at this
  exact this
theorem H8 {own:Bool} {fr:Nat→AV} {hp:List AB} {K:AV→List AB→Prop} {it:Operand} {q j since i:Nat} {seen:List Nat} {E:oL} {x:Int × Int} (hi:aM fr it=.ptr q 0 0) (hq:hp[q]?=some (.iter j since (seen++[i]) E.length)) (hj:hp[j]?=some (.map (dZ 0 E) E.length)) (hx:E[i]?=some x)
  (hK:K (.tp [ai x.1,ai x.2]) hp):RM.wpOp TT own (.entry it) fr hp K:=by
 show u6 (aM fr it) hp K
 rw [hi]
 have hf:=yV (b:=0) hx
 rw [Nat.zero_add] at hf
 exact ⟨_,_,_,_,_,_,_,_,hq,hj,rfl,List.getLast?_concat,hf,hK⟩
theorem tO {n:Nat} {b:AB} {l:List AB} (h:AB.cJ n b=true) (k:l.all (AB.cJ n)=true):(b :: l).all (AB.cJ n)=true:=by
 rw [List.all_cons,h,k];rfl
theorem AJ {j i:Nat} {b:AB} {l:List AB} (h:b.nV j=true) (k:ny j (i+1) l=true):ny j i (b :: l)=true:=by
 unfold ny
 rw [h,k,Bool.or_true]
 rfl
theorem Lf (n:Nat) (L:List Int):iM n (L.map ai)=true:=by
 induction L with
 | nil=>rfl
 | cons a l ih=>exact ih
theorem oR (E:oL) (seen:List Nat):([mB E,mC,.iter 0 E.length seen E.length]:List AB).all (AB.cJ 3)=true :=
 tO (oO 3 E 0) rfl
theorem tU (E:oL) (seen:List Nat) (L:List Int) (v:Nat):([mB E,mC,.iter 0 E.length seen E.length,.cells (L.map ai) 1 v]:List AB).all (AB.cJ 4)=true :=
 tO (oO 4 E 0) (tO rfl (tO rfl (tO (Lf 4 L) rfl)))
theorem H9 (E:oL) (seen:List Nat) (L:List Int) (v:Nat):ny 3 0 ([mB E,mC,.iter 0 E.length seen E.length,.cells (L.map ai) 1 v]:List AB)=true :=
 AJ (CD 3 E 0) (AJ rfl (AJ rfl (by
  unfold ny
  rfl)))
def xq (f:Bool) (bb:List Int):AV:=if f=true then .sl (bb.map eI) false else .fl (.slice none 0 0)
theorem pV (n:Nat) (f:Bool) (bb:List Int):(xq f bb).cJ n=true:=by cases f <;> rfl
theorem Fb (n:Nat) (f:Bool) (bb:List Int):(xq f bb).nV n=true:=by cases f <;> rfl
def jB (n:Nat) (E:oL) (x:List Nat × Bool × List Int):Prop:=(x.2.1=false→x.1=[]∧x.2.2=[])∧(x.2.1=true→(∃ y ∈ E,oP n y.1=x.2.2)∧∀ i ∈ x.1,∀ y,E[i]?=some y→¬ gv (oP n y.1) x.2.2)
theorem jB.taken {n:Nat} {E:oL} {seen:List Nat} {f:Bool} {bb:List Int} (h:jB n E (seen,f,bb)) {i:Nat} {y:Int × Int} (hy:E[i]?=some y) (hb:f=true→gv (oP n y.1) bb):jB n E (seen++[i],true,oP n y.1):=by
 refine ⟨fun h=>(by cases h),fun _=>⟨⟨y,List.mem_of_getElem? hy,rfl⟩,fun j hj z hz=>?_⟩⟩
 rcases List.mem_append.1 hj with hj|hj
 ·cases f with
  | false =>
   have:=(h.1 rfl).1
   dsimp only at this
   rw [this] at hj
   cases hj
  | true=>exact fun hc=>(h.2 rfl).2 j hj z hz (tQ hc (hb rfl))
 ·rw [List.mem_singleton.1 hj,hy] at hz
  cases hz
  exact pM
theorem jB.kept {n:Nat} {E:oL} {seen:List Nat} {bb:List Int} (h:jB n E (seen,true,bb)) {i:Nat} {y:Int × Int} (hy:E[i]?=some y) (hb:¬ gv (oP n y.1) bb):jB n E (seen++[i],true,bb):=by
 refine ⟨fun h=>(by cases h),fun _=>⟨(h.2 rfl).1,fun j hj z hz=>?_⟩⟩
 rcases List.mem_append.1 hj with hj|hj
 ·exact (h.2 rfl).2 j hj z hz
 ·rw [List.mem_singleton.1 hj,hy] at hz
  cases hz
  exact hb
def Gj:Code→Code
 | .seq _ b=>b
 | c=>c
noncomputable def JP:Code:=Gj (Gj (Gj (Tryz.f101.body.getD .skip)))
noncomputable def JQ:Code:=Gj (Gj (Gj (Tryz.f102.body.getD .skip)))
theorem x8 {s:au} {nn:aA} {rs:List av} {fl:Bool} {E:oL} {best:List Int} (h8:rs.length≤8) (hkey:∀ x ∈ E,∃ k:Nat,k < 256∧x.1=k) (hex:∃ x ∈ E,oP rs.length x.1=best) (hmin:∀ x ∈ E,¬ gv (oP rs.length x.1) best) :
  ax TT TB false JP ⟨aF [(3,.pt (bS s nn rs fl) 0),(6,.fl (.slice none 0 0)),(7,.ptr 1 0 0)],[mB E,mC],aV.none,false,0⟩ (KU TT Tryz.f101.results.toList (.sl (best.map eI) false)):=by
 obtain ⟨n,hn⟩:∃ n,n=rs.length:=⟨_,rfl⟩
 obtain ⟨m,hm⟩:∃ m:Int,m=rs.length:=⟨_,rfl⟩
 have er:((rs.map aj).length:Int)=m:=by rw [hm];simp
 rw [←hn] at h8 hex hmin
 refine RM.fm (mu:=fun _=>false) ?_
 repeat' (first |refine u1 ?_ |fail)
 refine ax.seq ?_
 refine RM.fm (mu:=fun _=>false) ?_
 repeat' (first |refine u1 ?_ |refine ⟨_,_,rfl,?_⟩ |fail)
 refine ax.block ?_
 refine ax.aK (ah.to (l:=[(3,.pt (bS s nn rs fl) 0),(6,xq false (([]:List Int))),(12,BB false),(53,.ptr 2 0 0)]) (hp:=[mB E,mC,.iter 0 E.length (([]:List Nat)) E.length]) 3 rfl ⟨rfl,rfl,rfl,rfl,trivial⟩ (Nat.zero_le _) rfl (oR E [])) ?_
 refine ax.loop (fun x:List Nat × Bool × List Int=>jB n E x) (fun x=>⟨aF [(3,.pt (bS s nn rs fl) 0),(6,xq x.2.1 (x.2.2)),(12,BB x.2.1),(53,.ptr 2 0 0)],[mB E,mC,.iter 0 E.length (x.1) E.length],aV.none,false,0⟩) (fun x=>nG E.length x.1) ?_ ([],false,[]) ⟨fun _=>⟨rfl,rfl⟩,fun h=>(by cases h)⟩
 rintro ⟨seen,f,bb⟩ hso
 have hbb:bb.length≤8:=by
  cases f with
  | false =>
   have:=(hso.1 rfl).2
   dsimp only at this
   rw [this]
   exact Nat.zero_le _
  | true =>
   obtain ⟨y,_,hy⟩:=(hso.2 rfl).1
   dsimp only at hy
   rw [←hy]
   exact Nat.le_trans (e8 _ _ _) h8
 have eb:((bb.map eI).length:Int)=bb.length:=by simp
 refine RM.fm (mu:=fun _=>false) ?_
 repeat' (first |refine u1 ?_ |refine u2 ?_ |fail)
 refine ⟨0,E.length,seen,E.length,dZ 0 E,E.length,rfl,rfl,fun e he=>?_,fun e he hns=>?_,fun hall=>?_⟩
 ·obtain ⟨i,x,hx,rfl⟩:=oQ he
  have:=(List.getElem?_eq_some_iff.1 hx).1
  dsimp only
  omega
 ·obtain ⟨i,x,hx,rfl⟩:=oQ he
  rw [Nat.zero_add] at hns ⊢
  have hi:=(List.getElem?_eq_some_iff.1 hx).1
  have hless:=uC hi hns
  obtain ⟨K,hK,hxK⟩:=hkey x (List.mem_of_getElem? hx)
  obtain ⟨key,cnt⟩:=x
  dsimp only at hxK
  subst hxK
  have hkl:oP n (K:Nat)=aO (fun i=>K.testBit i) 0 n:=by unfold oP;rw [Int.toNat_natCast]
  generalize hq:(fun i=>K.testBit i)=q at hkl
  have hqb:∀ c,q c=decide (K / 2 ^ c % 2=1):=fun c=>by rw [←hq];exact Nat.testBit_eq_decide_div_mod_eq
  repeat' (first |refine u1 ?_ |fail)
  refine RM.fm (mu:=fun _=>false) ?_
  repeat' (first |refine u1 ?_ |fail)
  refine ax.block ?_
  refine RM.fm (mu:=fun _=>false) ?_
  repeat' (first |refine H8 rfl rfl rfl hx ?_ |refine u1 ?_ |fail)
  refine RM.fm (mu:=fun _=>false) ?_
  repeat' (first |refine u1 ?_ |fail)
  refine ax.seq ?_
  refine RM.fm (mu:=fun _=>false) ?_
  repeat' (first |refine u1 ?_ |fail)
  refine ax.block ?_
  refine ax.aK (ah.trans (ah.jw 1) (ah.GI (l:=[(3,.pt (bS s nn rs fl) 0),(6,xq f (bb)),(12,BB f),(13,ai (K:Nat)),(14,.bg 3 0 0 (aO q 0 0).length 0),(53,.ptr 2 0 0),(60,ai m),(61,ai (0:Nat))]) (hp:=[mB E,mC,.iter 0 E.length ((seen++[i])) E.length,.cells ((aO q 0 0).map ai) 1 0]) 4 rfl ⟨bG.refl _,bG.refl _,bG.refl _,bG.refl _,bG.jv,bG.refl _,bG.of (congrArg ai er),bG.refl _,trivial⟩ (Nat.zero_le _) (by simp only [List.all_cons,List.all_nil,pV];rfl) (tU _ _ _ _))) ?_
  refine ax.loop (fun y:Nat × Nat × Nat=>y.1≤n∧(y.2.2=(aO q 0 y.1).length∨y.2.2=(aO q 0 y.1).length+1)) (fun y=>⟨aF [(3,.pt (bS s nn rs fl) 0),(6,xq f (bb)),(12,BB f),(13,ai (K:Nat)),(14,.bg 3 y.2.1 0 (aO q 0 y.1).length y.2.2),(53,.ptr 2 0 0),(60,ai m),(61,ai (y.1:Nat))],[mB E,mC,.iter 0 E.length ((seen++[i])) E.length,.cells ((aO q 0 y.1).map ai) 1 y.2.1],aV.none,false,0⟩) (fun y=>n - y.1) ?_ (0,0,0) ⟨Nat.zero_le _,.inl rfl⟩
  rintro ⟨c,v,cp⟩ ⟨hc8,hcap⟩
  dsimp only at hc8 hcap
  show ax _ _ _ _ ⟨aF [(3,.pt (bS s nn rs fl) 0),(6,xq f (bb)),(12,BB f),(13,ai (K:Nat)),(14,.bg 3 v 0 (aO q 0 c).length cp),(53,.ptr 2 0 0),(60,ai m),(61,ai (c:Nat))],[mB E,mC,.iter 0 E.length ((seen++[i])) E.length,.cells ((aO q 0 c).map ai) 1 v],aV.none,false,0⟩ _
  have hll:=e8 q 0 c
  have hml:((aO q 0 c).map ai).length=(aO q 0 c).length:=List.length_map _
  by_cases hlt:c < n
  ·have d1:decide ((c:Int) < m)=true:=decide_eq_true (by omega)
   have hdv:K / 2 ^ c < 4611686018427387904:=Nat.lt_of_le_of_lt (Nat.div_le_self _ _) (by omega)
   refine aa (mu:=fun t=>Nat.beq t 72) ?_
   cases hqc:q c with
   | false =>
    have hsn:=wL hqc
    have d2:decide (((K / 2 ^ c % 2:Nat):Int)=1)=false:=decide_eq_false (fun e=>by have:=hqb c;rw [hqc] at this;have:=of_decide_eq_false this.symm;omega)
    repeat' (first |((with_reducible show cI _ _ _ _ _ _ _ _ _);first|refine RM.Ar rfl rfl (by omega) ?_|refine RM.ES rfl rfl hdv ?_) |refine u1 ?_ |fail)
    refine ⟨(c+1,v,cp),⟨hlt,by dsimp only;rw [hsn];exact hcap⟩,(by dsimp only;omega),?_⟩
    show ah _ ⟨aF [(3,.pt (bS s nn rs fl) 0),(6,xq f (bb)),(12,BB f),(13,ai (K:Nat)),(14,.bg 3 v 0 (aO q 0 (c+1)).length cp),(53,.ptr 2 0 0),(60,ai m),(61,ai ((c+1):Nat))],[mB E,mC,.iter 0 E.length ((seen++[i])) E.length,.cells ((aO q 0 (c+1)).map ai) 1 v],aV.none,false,0⟩
    rw [hsn]
    exact ah.to 4 rfl ⟨rfl,rfl,rfl,rfl,rfl,rfl,rfl,aR (by simp),trivial⟩ (Nat.zero_le _) (by simp only [List.all_cons,List.all_nil,pV];rfl) (tU _ _ _ _)
   | true =>
    have hsn:=wK hqc
    have d2:decide (((K / 2 ^ c % 2:Nat):Int)=1)=true:=decide_eq_true (by have:=hqb c;rw [hqc] at this;have:=of_decide_eq_true this.symm;omega)
    repeat' (first |((with_reducible show cI _ _ _ _ _ _ _ _ _);first|refine RM.Ar rfl rfl (by omega) ?_|refine RM.ES rfl rfl hdv ?_) |((with_reducible show RM.wpOp _ _ (.call _) _ _ _);refine RM.qJ (cs:=(aO q 0 c).map ai) (n:=(aO q 0 c).length) (els:=[eI (c:Int)]) rfl rfl rfl rfl rfl (fun el hel=>by rw [List.mem_singleton.1 hel];rfl) rfl rfl (by rw [hml];exact (Nat.mul_one _).symm) hcap (by simp only [List.length_singleton];omega) (fun v' c' hc'=>?_)) |refine u1 ?_ |fail)
    refine ⟨(c+1,v',c'),⟨hlt,by dsimp only;rw [hsn,List.length_append];exact hc'⟩,(by dsimp only;omega),?_⟩
    show ah _ ⟨aF [(3,.pt (bS s nn rs fl) 0),(6,xq f (bb)),(12,BB f),(13,ai (K:Nat)),(14,.bg 3 v' 0 (aO q 0 (c+1)).length c'),(53,.ptr 2 0 0),(60,ai m),(61,ai ((c+1):Nat))],[mB E,mC,.iter 0 E.length ((seen++[i])) E.length,.cells ((aO q 0 (c+1)).map ai) 1 v'],aV.none,false,0⟩
    have hin:=tU E (seen++[i]) (aO q 0 (c+1)) v'
    rw [hsn] at hin ⊢
    rw [List.map_append] at hin ⊢
    exact ah.to 4 rfl ⟨rfl,rfl,rfl,rfl,(by rw [List.length_append];rfl),rfl,rfl,aR (by simp),trivial⟩ (Nat.zero_le _) (by simp only [List.all_cons,List.all_nil,pV];rfl) hin
  ·have hc:c=n:=by omega
   subst hc
   have d1:decide ((c:Int) < m)=false:=decide_eq_false (by omega)
   refine aa (mu:=fun _=>false) ?_
   repeat' (first |refine u1 ?_ |fail)
   refine ax.aK (ah.giveUp 3 (l:=[(3,.pt (bS s nn rs fl) 0),(6,xq f (bb)),(12,BB f),(53,.ptr 2 0 0),(14,.sl ((aO q 0 c).map eI) false)]) (hp:=[mB E,mC,.iter 0 E.length ((seen++[i])) E.length,.gone]) rfl (Nat.zero_le _) (yT _) ⟨.same rfl,.same (Fb _ _ _),.same rfl,.same rfl,.row 1 (by simp) (by simp) (fun el hel=>by obtain ⟨x,_,rfl⟩:=List.mem_map.1 hel;rfl) (by rw [nW,List.drop_zero,List.take_of_length_le (by simp)]) (fun h=>Bool.noConfusion h),trivial⟩ (H9 _ _ _ _) rfl) ?_
   generalize aO q 0 c=B at *
   have hcmp:=yU false B bb false false (by omega) (by omega)
   have hcl:=EV false ((B.map eI).length:Int) ((bb.map eI).length:Int)
   have hor:=L4 false (ek ((B.map eI).length:Int) ((bb.map eI).length:Int)) (gG B bb)
   have eB:((B.map eI).length:Int)=B.length:=by simp
   have hend:∀ (f':Bool) (b':List Int) (st:cm),jB c E (seen++[i],f',b')→ah st ⟨aF [(3,.pt (bS s nn rs fl) 0),(6,xq f' (b')),(12,BB f'),(53,.ptr 2 0 0)],[mB E,mC,.iter 0 E.length ((seen++[i])) E.length],aV.none,false,0⟩→∃ y:List Nat × Bool × List Int,jB c E y∧nG E.length y.1 < nG E.length seen∧ah st ⟨aF [(3,.pt (bS s nn rs fl) 0),(6,xq y.2.1 (y.2.2)),(12,BB y.2.1),(53,.ptr 2 0 0)],[mB E,mC,.iter 0 E.length (y.1) E.length],aV.none,false,0⟩:=fun f' b' st h1 h2=>⟨(seen++[i],f',b'),h1,hless,h2⟩
   refine aa (mu:=fun _=>false) ?_
   cases f with
   | false =>
    repeat' (first |refine u1 ?_ |fail)
    exact hend true B _ (by rw [←hkl];exact hso.taken hx (fun h=>(by cases h))) (ah.to 3 rfl ⟨rfl,rfl,rfl,rfl,trivial⟩ (Nat.zero_le _) rfl (oR _ _))
   | true =>
    have hbef:(if ek ((B.map eI).length:Int) ((bb.map eI).length:Int) ≠ 0 then ek ((B.map eI).length:Int) ((bb.map eI).length:Int) else gG B bb) < 0 ↔ gv B bb:=by
     rw [eB,eb]
     exact Fa B bb
    generalize (if ek ((B.map eI).length:Int) ((bb.map eI).length:Int) ≠ 0 then ek ((B.map eI).length:Int) ((bb.map eI).length:Int) else gG B bb)=Z at *
    by_cases h2:Z < 0
    ·have d3:=decide_eq_true h2
     repeat' (first |refine u1 ?_ |fail)
     exact hend true B _ (by rw [←hkl];exact hso.taken hx (fun _=>(by dsimp only;rw [hkl];exact hbef.1 h2))) (ah.to 3 rfl ⟨rfl,rfl,rfl,rfl,trivial⟩ (Nat.zero_le _) rfl (oR _ _))
    ·have d3:=decide_eq_false h2
     repeat' (first |refine u1 ?_ |fail)
     exact hend true bb _ (hso.kept hx (by dsimp only;rw [hkl];exact fun h=>h2 (hbef.2 h))) (ah.to 3 rfl ⟨rfl,rfl,rfl,rfl,trivial⟩ (Nat.zero_le _) rfl (oR _ _))
 ·repeat' (first |refine u1 ?_ |fail)
  refine aa (mu:=fun _=>false) ?_
  repeat' (first |refine u1 ?_ |fail)
  refine aa (mu:=fun _=>false) ?_
  repeat' (first |refine u1 ?_ |fail)
  have hin:∀ i x,E[i]?=some x→i ∈ seen:=fun i x hx=>by
   have:=hall _ (List.mem_of_getElem? (oM 0 E i x hx))
   rwa [Nat.zero_add] at this
  obtain ⟨z,hz,hzb⟩:=hex
  obtain ⟨iz,hiz⟩:=List.getElem?_of_mem hz
  cases f with
  | false =>
   have h1:=hin iz z hiz
   have h2:=(hso.1 rfl).1
   dsimp only at h2
   rw [h2] at h1
   cases h1
  | true =>
   obtain ⟨y,hy,hyb⟩:=(hso.2 rfl).1
   have h3:=(hso.2 rfl).2 iz (hin iz z hiz) z hiz
   have h4:=hmin y hy
   dsimp only at hyb h3
   rw [hyb] at h4
   rw [hzb] at h3
   rw [←u9 h4 h3]
   exact ⟨[_],⟨Fz.deep rfl,trivial⟩,rfl⟩
theorem x9 {s:au} {nn:aA} {rs:List av} {fl:Bool} {E:oL} {best:List Int} (h8:rs.length≤8) (hkey:∀ x ∈ E,∃ k:Nat,k < 256∧x.1=k) (hex:∃ x ∈ E,oP rs.length x.1=best) (hmin:∀ x ∈ E,¬ gv (oP rs.length x.1) best) :
  ax TT TB false JQ ⟨aF [(3,.pt (bS s nn rs fl) 0),(6,.fl (.slice none 0 0)),(7,.ptr 1 0 0)],[mB E,mC],aV.none,false,0⟩ (KU TT Tryz.f102.results.toList (.sl (best.map eI) false)):=by
 obtain ⟨n,hn⟩:∃ n,n=rs.length:=⟨_,rfl⟩
 obtain ⟨m,hm⟩:∃ m:Int,m=rs.length:=⟨_,rfl⟩
 have er:((rs.map aj).length:Int)=m:=by rw [hm];simp
 rw [←hn] at h8 hex hmin
 refine RM.fm (mu:=fun _=>false) ?_
 repeat' (first |refine u1 ?_ |fail)
 refine ax.seq ?_
 refine RM.fm (mu:=fun _=>false) ?_
 repeat' (first |refine u1 ?_ |refine ⟨_,_,rfl,?_⟩ |fail)
 refine ax.block ?_
 refine ax.aK (ah.to (l:=[(3,.pt (bS s nn rs fl) 0),(6,xq false (([]:List Int))),(12,BB false),(53,.ptr 2 0 0)]) (hp:=[mB E,mC,.iter 0 E.length (([]:List Nat)) E.length]) 3 rfl ⟨rfl,rfl,rfl,rfl,trivial⟩ (Nat.zero_le _) rfl (oR E [])) ?_
 refine ax.loop (fun x:List Nat × Bool × List Int=>jB n E x) (fun x=>⟨aF [(3,.pt (bS s nn rs fl) 0),(6,xq x.2.1 (x.2.2)),(12,BB x.2.1),(53,.ptr 2 0 0)],[mB E,mC,.iter 0 E.length (x.1) E.length],aV.none,false,0⟩) (fun x=>nG E.length x.1) ?_ ([],false,[]) ⟨fun _=>⟨rfl,rfl⟩,fun h=>(by cases h)⟩
 rintro ⟨seen,f,bb⟩ hso
 have hbb:bb.length≤8:=by
  cases f with
  | false =>
   have:=(hso.1 rfl).2
   dsimp only at this
   rw [this]
   exact Nat.zero_le _
  | true =>
   obtain ⟨y,_,hy⟩:=(hso.2 rfl).1
   dsimp only at hy
   rw [←hy]
   exact Nat.le_trans (e8 _ _ _) h8
 have eb:((bb.map eI).length:Int)=bb.length:=by simp
 refine RM.fm (mu:=fun _=>false) ?_
 repeat' (first |refine u1 ?_ |refine u2 ?_ |fail)
 refine ⟨0,E.length,seen,E.length,dZ 0 E,E.length,rfl,rfl,fun e he=>?_,fun e he hns=>?_,fun hall=>?_⟩
 ·obtain ⟨i,x,hx,rfl⟩:=oQ he
  have:=(List.getElem?_eq_some_iff.1 hx).1
  dsimp only
  omega
 ·obtain ⟨i,x,hx,rfl⟩:=oQ he
  rw [Nat.zero_add] at hns ⊢
  have hi:=(List.getElem?_eq_some_iff.1 hx).1
  have hless:=uC hi hns
  obtain ⟨K,hK,hxK⟩:=hkey x (List.mem_of_getElem? hx)
  obtain ⟨key,cnt⟩:=x
  dsimp only at hxK
  subst hxK
  have hkl:oP n (K:Nat)=aO (fun i=>K.testBit i) 0 n:=by unfold oP;rw [Int.toNat_natCast]
  generalize hq:(fun i=>K.testBit i)=q at hkl
  have hqb:∀ c,q c=decide (K / 2 ^ c % 2=1):=fun c=>by rw [←hq];exact Nat.testBit_eq_decide_div_mod_eq
  repeat' (first |refine u1 ?_ |fail)
  refine RM.fm (mu:=fun _=>false) ?_
  repeat' (first |refine u1 ?_ |fail)
  refine ax.block ?_
  refine RM.fm (mu:=fun _=>false) ?_
  repeat' (first |refine H8 rfl rfl rfl hx ?_ |refine u1 ?_ |fail)
  refine RM.fm (mu:=fun _=>false) ?_
  repeat' (first |refine u1 ?_ |fail)
  refine ax.seq ?_
  refine RM.fm (mu:=fun _=>false) ?_
  repeat' (first |refine u1 ?_ |fail)
  refine ax.block ?_
  refine ax.aK (ah.trans (ah.jw 1) (ah.GI (l:=[(3,.pt (bS s nn rs fl) 0),(6,xq f (bb)),(12,BB f),(13,ai (K:Nat)),(14,.bg 3 0 0 (aO q 0 0).length 0),(53,.ptr 2 0 0),(60,ai m),(61,ai (0:Nat))]) (hp:=[mB E,mC,.iter 0 E.length ((seen++[i])) E.length,.cells ((aO q 0 0).map ai) 1 0]) 4 rfl ⟨bG.refl _,bG.refl _,bG.refl _,bG.refl _,bG.jv,bG.refl _,bG.of (congrArg ai er),bG.refl _,trivial⟩ (Nat.zero_le _) (by simp only [List.all_cons,List.all_nil,pV];rfl) (tU _ _ _ _))) ?_
  refine ax.loop (fun y:Nat × Nat × Nat=>y.1≤n∧(y.2.2=(aO q 0 y.1).length∨y.2.2=(aO q 0 y.1).length+1)) (fun y=>⟨aF [(3,.pt (bS s nn rs fl) 0),(6,xq f (bb)),(12,BB f),(13,ai (K:Nat)),(14,.bg 3 y.2.1 0 (aO q 0 y.1).length y.2.2),(53,.ptr 2 0 0),(60,ai m),(61,ai (y.1:Nat))],[mB E,mC,.iter 0 E.length ((seen++[i])) E.length,.cells ((aO q 0 y.1).map ai) 1 y.2.1],aV.none,false,0⟩) (fun y=>n - y.1) ?_ (0,0,0) ⟨Nat.zero_le _,.inl rfl⟩
  rintro ⟨c,v,cp⟩ ⟨hc8,hcap⟩
  dsimp only at hc8 hcap
  show ax _ _ _ _ ⟨aF [(3,.pt (bS s nn rs fl) 0),(6,xq f (bb)),(12,BB f),(13,ai (K:Nat)),(14,.bg 3 v 0 (aO q 0 c).length cp),(53,.ptr 2 0 0),(60,ai m),(61,ai (c:Nat))],[mB E,mC,.iter 0 E.length ((seen++[i])) E.length,.cells ((aO q 0 c).map ai) 1 v],aV.none,false,0⟩ _
  have hll:=e8 q 0 c
  have hml:((aO q 0 c).map ai).length=(aO q 0 c).length:=List.length_map _
  by_cases hlt:c < n
  ·have d1:decide ((c:Int) < m)=true:=decide_eq_true (by omega)
   have hdv:K / 2 ^ c < 4611686018427387904:=Nat.lt_of_le_of_lt (Nat.div_le_self _ _) (by omega)
   refine aa (mu:=fun t=>Nat.beq t 72) ?_
   cases hqc:q c with
   | false =>
    have hsn:=wL hqc
    have d2:decide (((K / 2 ^ c % 2:Nat):Int)=1)=false:=decide_eq_false (fun e=>by have:=hqb c;rw [hqc] at this;have:=of_decide_eq_false this.symm;omega)
    repeat' (first |((with_reducible show cI _ _ _ _ _ _ _ _ _);first|refine RM.Ar rfl rfl (by omega) ?_|refine RM.ES rfl rfl hdv ?_) |refine u1 ?_ |fail)
    refine ⟨(c+1,v,cp),⟨hlt,by dsimp only;rw [hsn];exact hcap⟩,(by dsimp only;omega),?_⟩
    show ah _ ⟨aF [(3,.pt (bS s nn rs fl) 0),(6,xq f (bb)),(12,BB f),(13,ai (K:Nat)),(14,.bg 3 v 0 (aO q 0 (c+1)).length cp),(53,.ptr 2 0 0),(60,ai m),(61,ai ((c+1):Nat))],[mB E,mC,.iter 0 E.length ((seen++[i])) E.length,.cells ((aO q 0 (c+1)).map ai) 1 v],aV.none,false,0⟩
    rw [hsn]
    exact ah.to 4 rfl ⟨rfl,rfl,rfl,rfl,rfl,rfl,rfl,aR (by simp),trivial⟩ (Nat.zero_le _) (by simp only [List.all_cons,List.all_nil,pV];rfl) (tU _ _ _ _)
   | true =>
    have hsn:=wK hqc
    have d2:decide (((K / 2 ^ c % 2:Nat):Int)=1)=true:=decide_eq_true (by have:=hqb c;rw [hqc] at this;have:=of_decide_eq_true this.symm;omega)
    repeat' (first |((with_reducible show cI _ _ _ _ _ _ _ _ _);first|refine RM.Ar rfl rfl (by omega) ?_|refine RM.ES rfl rfl hdv ?_) |((with_reducible show RM.wpOp _ _ (.call _) _ _ _);refine RM.qJ (cs:=(aO q 0 c).map ai) (n:=(aO q 0 c).length) (els:=[eI (c:Int)]) rfl rfl rfl rfl rfl (fun el hel=>by rw [List.mem_singleton.1 hel];rfl) rfl rfl (by rw [hml];exact (Nat.mul_one _).symm) hcap (by simp only [List.length_singleton];omega) (fun v' c' hc'=>?_)) |refine u1 ?_ |fail)
    refine ⟨(c+1,v',c'),⟨hlt,by dsimp only;rw [hsn,List.length_append];exact hc'⟩,(by dsimp only;omega),?_⟩
    show ah _ ⟨aF [(3,.pt (bS s nn rs fl) 0),(6,xq f (bb)),(12,BB f),(13,ai (K:Nat)),(14,.bg 3 v' 0 (aO q 0 (c+1)).length c'),(53,.ptr 2 0 0),(60,ai m),(61,ai ((c+1):Nat))],[mB E,mC,.iter 0 E.length ((seen++[i])) E.length,.cells ((aO q 0 (c+1)).map ai) 1 v'],aV.none,false,0⟩
    have hin:=tU E (seen++[i]) (aO q 0 (c+1)) v'
    rw [hsn] at hin ⊢
    rw [List.map_append] at hin ⊢
    exact ah.to 4 rfl ⟨rfl,rfl,rfl,rfl,(by rw [List.length_append];rfl),rfl,rfl,aR (by simp),trivial⟩ (Nat.zero_le _) (by simp only [List.all_cons,List.all_nil,pV];rfl) hin
  ·have hc:c=n:=by omega
   subst hc
   have d1:decide ((c:Int) < m)=false:=decide_eq_false (by omega)
   refine aa (mu:=fun _=>false) ?_
   repeat' (first |refine u1 ?_ |fail)
   refine ax.aK (ah.giveUp 3 (l:=[(3,.pt (bS s nn rs fl) 0),(6,xq f (bb)),(12,BB f),(53,.ptr 2 0 0),(14,.sl ((aO q 0 c).map eI) false)]) (hp:=[mB E,mC,.iter 0 E.length ((seen++[i])) E.length,.gone]) rfl (Nat.zero_le _) (yT _) ⟨.same rfl,.same (Fb _ _ _),.same rfl,.same rfl,.row 1 (by simp) (by simp) (fun el hel=>by obtain ⟨x,_,rfl⟩:=List.mem_map.1 hel;rfl) (by rw [nW,List.drop_zero,List.take_of_length_le (by simp)]) (fun h=>Bool.noConfusion h),trivial⟩ (H9 _ _ _ _) rfl) ?_
   generalize aO q 0 c=B at *
   have hcmp:=yU false B bb false false (by omega) (by omega)
   have hcl:=EV false ((B.map eI).length:Int) ((bb.map eI).length:Int)
   have hor:=L4 false (ek ((B.map eI).length:Int) ((bb.map eI).length:Int)) (gG B bb)
   have eB:((B.map eI).length:Int)=B.length:=by simp
   have hend:∀ (f':Bool) (b':List Int) (st:cm),jB c E (seen++[i],f',b')→ah st ⟨aF [(3,.pt (bS s nn rs fl) 0),(6,xq f' (b')),(12,BB f'),(53,.ptr 2 0 0)],[mB E,mC,.iter 0 E.length ((seen++[i])) E.length],aV.none,false,0⟩→∃ y:List Nat × Bool × List Int,jB c E y∧nG E.length y.1 < nG E.length seen∧ah st ⟨aF [(3,.pt (bS s nn rs fl) 0),(6,xq y.2.1 (y.2.2)),(12,BB y.2.1),(53,.ptr 2 0 0)],[mB E,mC,.iter 0 E.length (y.1) E.length],aV.none,false,0⟩:=fun f' b' st h1 h2=>⟨(seen++[i],f',b'),h1,hless,h2⟩
   refine aa (mu:=fun _=>false) ?_
   cases f with
   | false =>
    repeat' (first |refine u1 ?_ |fail)
    exact hend true B _ (by rw [←hkl];exact hso.taken hx (fun h=>(by cases h))) (ah.to 3 rfl ⟨rfl,rfl,rfl,rfl,trivial⟩ (Nat.zero_le _) rfl (oR _ _))
   | true =>
    have hbef:(if ek ((B.map eI).length:Int) ((bb.map eI).length:Int) ≠ 0 then ek ((B.map eI).length:Int) ((bb.map eI).length:Int) else gG B bb) < 0 ↔ gv B bb:=by
     rw [eB,eb]
     exact Fa B bb
    generalize (if ek ((B.map eI).length:Int) ((bb.map eI).length:Int) ≠ 0 then ek ((B.map eI).length:Int) ((bb.map eI).length:Int) else gG B bb)=Z at *
    by_cases h2:Z < 0
    ·have d3:=decide_eq_true h2
     repeat' (first |refine u1 ?_ |fail)
     exact hend true B _ (by rw [←hkl];exact hso.taken hx (fun _=>(by dsimp only;rw [hkl];exact hbef.1 h2))) (ah.to 3 rfl ⟨rfl,rfl,rfl,rfl,trivial⟩ (Nat.zero_le _) rfl (oR _ _))
    ·have d3:=decide_eq_false h2
     repeat' (first |refine u1 ?_ |fail)
     exact hend true bb _ (hso.kept hx (by dsimp only;rw [hkl];exact fun h=>h2 (hbef.2 h))) (ah.to 3 rfl ⟨rfl,rfl,rfl,rfl,trivial⟩ (Nat.zero_le _) rfl (oR _ _))
 ·repeat' (first |refine u1 ?_ |fail)
  refine aa (mu:=fun _=>false) ?_
  repeat' (first |refine u1 ?_ |fail)
  refine aa (mu:=fun _=>false) ?_
  repeat' (first |refine u1 ?_ |fail)
  have hin:∀ i x,E[i]?=some x→i ∈ seen:=fun i x hx=>by
   have:=hall _ (List.mem_of_getElem? (oM 0 E i x hx))
   rwa [Nat.zero_add] at this
  obtain ⟨z,hz,hzb⟩:=hex
  obtain ⟨iz,hiz⟩:=List.getElem?_of_mem hz
  cases f with
  | false =>
   have h1:=hin iz z hiz
   have h2:=(hso.1 rfl).1
   dsimp only at h2
   rw [h2] at h1
   cases h1
  | true =>
   obtain ⟨y,hy,hyb⟩:=(hso.2 rfl).1
   have h3:=(hso.2 rfl).2 iz (hin iz z hiz) z hiz
   have h4:=hmin y hy
   dsimp only at hyb h3
   rw [hyb] at h4
   rw [hzb] at h3
   rw [←u9 h4 h3]
   exact ⟨[_],⟨Fz.deep rfl,trivial⟩,rfl⟩
end Go.Proofs.YtichbhmnhkegiaaGreat
