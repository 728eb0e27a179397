/-
  Contracts of the program's functions and of the document's. Lemmas alone; their conditions stand in them.
-/
import Derived.Test.YtalcbebjpgfnfaaGreatK4
import Derived.Test.YtalcbebjpgfnfaaGreatK17
import Derived.Test.YtalcbebjpgfnfaaGreatK18
open Go Go.RM Go.AirLaw
namespace Go.Proofs.YtalcbebjpgfnfaaGreat
set_option maxRecDepth 100000
set_option maxHeartbeats 4000000
abbrev mB (E:oh):AB:=.map (eZ 0 E) E.length
abbrev mC:AB:=.cells [.om 0] 0 0
theorem pM (n:Nat):∀ (E:oh) (b:Nat),((eZ b E).all fun p=>p.1.di n && p.2.1.di n)=true
 | [],_=>rfl
 | (k,c) :: E,b=>by
  unfold eZ
  rw [List.all_cons,pM n E (b+1)]
  rfl
theorem Dc (n:Nat):∀ (E:oh) (b:Nat),((eZ b E).all fun p=>p.1.mA n && p.2.1.mA n)=true
 | [],_=>rfl
 | (k,c) :: E,b=>by
  unfold eZ
  rw [List.all_cons,Dc n E (b+1)]
  rfl
def pN (n:Nat) (k:Int):List Int:=bZ (fun i=>k.toNat.testBit i) 0 n
theorem tv (p:Nat→Bool) (n:Nat):pN n (dn p n:Nat)=bZ p 0 n:=by
 unfold pN
 refine Gs fun i hi=>?_
 rw [Int.toNat_natCast,zJ,decide_eq_true hi,Bool.true_and]
theorem Fs (B bb:List Int):(if fj (B.length:Int) (bb.length:Int) ≠ 0 then fj (B.length:Int) (bb.length:Int) else eN B bb) < 0 ↔ iq B bb:=by
 have hb:iq B bb ↔ (B.length < bb.length∨B.length=bb.length∧eN B bb < 0):=Iff.rfl
 rw [hb]
 rcases Nat.lt_trichotomy B.length bb.length with h|h|h
 ·have e:fj (B.length:Int) (bb.length:Int)=-1:=by unfold fj;rw [if_pos (by omega)]
  rw [e,if_pos (by decide)]
  exact ⟨fun _=>.inl h,fun _=>by decide⟩
 ·have e:fj (B.length:Int) (bb.length:Int)=0:=by unfold fj;rw [if_neg (by omega),if_neg (by omega)]
  rw [e,if_neg (by decide)]
  exact ⟨fun k=>.inr ⟨h,k⟩,fun k=>by rcases k with k|k;omega;exact k.2⟩
 ·have e:fj (B.length:Int) (bb.length:Int)=1:=by unfold fj;rw [if_neg (by omega),if_pos (by omega)]
  rw [e,if_pos (by decide)]
  exact ⟨fun k=>absurd k (by decide),fun k=>by rcases k with k|k <;> omega⟩
def ow (n:Nat) (seen:List Nat):Nat:=((List.range n).filter fun i=>!decide (i ∈ seen)).length
theorem va {n i:Nat} {seen:List Nat} (hi:i < n) (h:i ∉ seen):ow n (seen++[i]) < ow n seen:=by
 unfold ow
 have e:(List.range n).filter (fun j=>!decide (j ∈ seen++[i]))=((List.range n).filter fun j=>!decide (j ∈ seen)).filter fun j=>!decide (j=i):=by
  rw [List.filter_filter]
  congr 1
  funext j
  rw [Bool.eq_iff_iff]
  simp only [Bool.not_eq_true',decide_eq_false_iff_not,Bool.and_eq_true,List.mem_append,List.mem_singleton]
  constructor
  ·intro h;exact ⟨fun e=>h (.inr e),fun e=>h (.inl e)⟩
  ·rintro ⟨h1,h2⟩ (h|h)
   ·exact h2 h
   ·exact h1 h
 rw [e,List.length_filter_lt_length_iff_exists]
 exact ⟨i,by rw [List.mem_filter,List.mem_range];exact ⟨hi,by simpa using h⟩,by simp⟩
theorem pO:∀ {E:oh} {b:Nat} {e:AV × AV × Nat},e ∈ eZ b E→∃ (i:Nat) (x:Int × Int),E[i]?=some x∧e=(ah x.1,ah x.2,b+i)
 | [],_,_,h=>absurd h (List.not_mem_nil)
 | (k,c) :: E,b,e,h=>by
  unfold eZ at h
  rcases List.mem_cons.1 h with rfl|h
  ·exact ⟨0,(k,c),rfl,rfl⟩
  ·obtain ⟨i,x,h1,h2⟩:=pO h
   exact ⟨i+1,x,h1,by rw [h2,show b+1+i=b+(i+1) by omega]⟩
theorem zV:∀ {E:oh} {b i:Nat} {x:Int × Int},E[i]?=some x→((eZ b E).find? fun p=>p.2.2 == b+i)=some (ah x.1,ah x.2,b+i)
 | [],_,_,_,h=>by cases h
 | (k,c) :: E,b,0,x,h=>by
  cases h
  unfold eZ
  rw [List.find?_cons]
  simp
 | (k,c) :: E,b,i+1,x,h=>by
  unfold eZ
  have hne:(b == b+(i+1))=false:=by rw [beq_eq_false_iff_ne];omega
  rw [List.find?_cons]
  simp only [hne]
  have:=zV (b:=b+1) (by simpa using h:E[i]?=some x)
  rw [show b+1+i=b+(i+1) by omega] at this
  exact this
theorem Je {own:Bool} {fr:Nat→AV} {hp:List AB} {K:AV→List AB→Prop} {it:Operand} {q j since i:Nat} {seen:List Nat} {E:oh} {x:Int × Int} (hi:aQ fr it=.ptr q 0 0) (hq:hp[q]?=some (.iter j since (seen++[i]) E.length)) (hj:hp[j]?=some (.map (eZ 0 E) E.length)) (hx:E[i]?=some x)
  (hK:K (.tp [ah x.1,ah x.2]) hp):RM.wpOp TT own (.entry it) fr hp K:=by
 show vD (aQ fr it) hp K
 rw [hi]
 have hf:=zV (b:=0) hx
 rw [Nat.zero_add] at hf
 exact ⟨_,_,_,_,_,_,_,_,hq,hj,rfl,List.getLast?_concat,hf,hK⟩
theorem uf {n:Nat} {b:AB} {l:List AB} (h:AB.di n b=true) (k:l.all (AB.di n)=true):(b :: l).all (AB.di n)=true:=by
 rw [List.all_cons,h,k];rfl
theorem Bl {j i:Nat} {b:AB} {l:List AB} (h:b.mA j=true) (k:oa j (i+1) l=true):oa j i (b :: l)=true:=by
 unfold oa
 rw [h,k,Bool.or_true]
 rfl
theorem Mg (n:Nat) (L:List Int):ig n (L.map ah)=true:=by
 induction L with
 | nil=>rfl
 | cons a l ih=>exact ih
theorem pP (E:oh) (seen:List Nat):([mB E,mC,.iter 0 E.length seen E.length]:List AB).all (AB.di 3)=true :=
 uf (pM 3 E 0) rfl
theorem uB (E:oh) (seen:List Nat) (L:List Int) (v:Nat):([mB E,mC,.iter 0 E.length seen E.length,.cells (L.map ah) 1 v]:List AB).all (AB.di 4)=true :=
 uf (pM 4 E 0) (uf rfl (uf rfl (uf (Mg 4 L) rfl)))
theorem Jf (E:oh) (seen:List Nat) (L:List Int) (v:Nat):oa 3 0 ([mB E,mC,.iter 0 E.length seen E.length,.cells (L.map ah) 1 v]:List AB)=true :=
 Bl (Dc 3 E 0) (Bl rfl (Bl rfl (by
  unfold oa
  rfl)))
def x6 (f:Bool) (bb:List Int):AV:=if f=true then .sl (bb.map eI) false else .fl (.slice none 0 0)
theorem ql (n:Nat) (f:Bool) (bb:List Int):(x6 f bb).di n=true:=by cases f <;> rfl
theorem Ft (n:Nat) (f:Bool) (bb:List Int):(x6 f bb).mA n=true:=by cases f <;> rfl
def ij (n:Nat) (E:oh) (x:List Nat × Bool × List Int):Prop:=(x.2.1=false→x.1=[]∧x.2.2=[])∧(x.2.1=true→(∃ y ∈ E,pN n y.1=x.2.2)∧∀ i ∈ x.1,∀ y,E[i]?=some y→¬ iq (pN n y.1) x.2.2)
theorem ij.taken {n:Nat} {E:oh} {seen:List Nat} {f:Bool} {bb:List Int} (h:ij n E (seen,f,bb)) {i:Nat} {y:Int × Int} (hy:E[i]?=some y) (hb:f=true→iq (pN n y.1) bb):ij n E (seen++[i],true,pN n y.1):=by
 refine ⟨fun h=>(by cases h),fun _=>⟨⟨y,List.mem_of_getElem? hy,rfl⟩,fun j hj z hz=>?_⟩⟩
 rcases List.mem_append.1 hj with hj|hj
 ·cases f with
  | false =>
   have:=(h.1 rfl).1
   dsimp only at this
   rw [this] at hj
   cases hj
  | true=>exact fun hc=>(h.2 rfl).2 j hj z hz (uq hc (hb rfl))
 ·rw [List.mem_singleton.1 hj,hy] at hz
  cases hz
  exact vH
theorem ij.kept {n:Nat} {E:oh} {seen:List Nat} {bb:List Int} (h:ij n E (seen,true,bb)) {i:Nat} {y:Int × Int} (hy:E[i]?=some y) (hb:¬ iq (pN n y.1) bb):ij n E (seen++[i],true,bb):=by
 refine ⟨fun h=>(by cases h),fun _=>⟨(h.2 rfl).1,fun j hj z hz=>?_⟩⟩
 rcases List.mem_append.1 hj with hj|hj
 ·exact (h.2 rfl).2 j hj z hz
 ·rw [List.mem_singleton.1 hj,hy] at hz
  cases hz
  exact hb
def GS:Code→Code
 | .seq _ b=>b
 | c=>c
noncomputable def KI:Code:=GS (GS (GS (Tryz.f85.body.getD .skip)))
noncomputable def KJ:Code:=GS (GS (GS (Tryz.f86.body.getD .skip)))
theorem yM {s:aC} {nn:bk} {rs:List aP} {fl:Bool} {E:oh} {best:List Int} (h8:rs.length≤8) (hkey:∀ x ∈ E,∃ k:Nat,k < 256∧x.1=k) (hex:∃ x ∈ E,pN rs.length x.1=best) (hmin:∀ x ∈ E,¬ iq (pN rs.length x.1) best) :
  az TT TB false KI ⟨aX [(3,.pt (cx s nn rs fl) 0),(6,.fl (.slice none 0 0)),(7,.ptr 1 0 0)],[mB E,mC],bN.none,false,0⟩ (JK TT Tryz.f85.results.toList (.sl (best.map eI) false)):=by
 obtain ⟨n,hn⟩:∃ n,n=rs.length:=⟨_,rfl⟩
 obtain ⟨m,hm⟩:∃ m:Int,m=rs.length:=⟨_,rfl⟩
 have er:((rs.map aL).length:Int)=m:=by rw [hm];simp
 rw [←hn] at h8 hex hmin
 refine RM.de (mu:=fun _=>false) ?_
 repeat' (first |refine u1 ?_ |fail)
 refine az.seq ?_
 refine RM.de (mu:=fun _=>false) ?_
 repeat' (first |refine u1 ?_ |refine ⟨_,_,rfl,?_⟩ |fail)
 refine az.block ?_
 refine az.aK (ai.to (l:=[(3,.pt (cx s nn rs fl) 0),(6,x6 false (([]:List Int))),(12,BB false),(53,.ptr 2 0 0)]) (hp:=[mB E,mC,.iter 0 E.length (([]:List Nat)) E.length]) 3 rfl ⟨rfl,rfl,rfl,rfl,trivial⟩ (Nat.zero_le _) rfl (pP E [])) ?_
 refine az.loop (fun x:List Nat × Bool × List Int=>ij n E x) (fun x=>⟨aX [(3,.pt (cx s nn rs fl) 0),(6,x6 x.2.1 (x.2.2)),(12,BB x.2.1),(53,.ptr 2 0 0)],[mB E,mC,.iter 0 E.length (x.1) E.length],bN.none,false,0⟩) (fun x=>ow E.length x.1) ?_ ([],false,[]) ⟨fun _=>⟨rfl,rfl⟩,fun h=>(by cases h)⟩
 rintro ⟨seen,f,bb⟩ hso
 have hbb:bb.length≤8:=by
  cases f with
  | false =>
   have:=(hso.1 rfl).2
   dsimp only at this
   rw [this]
   exact Nat.zero_le _
  | true =>
   obtain ⟨y,_,hy⟩:=(hso.2 rfl).1
   dsimp only at hy
   rw [←hy]
   exact Nat.le_trans (iK _ _ _) h8
 have eb:((bb.map eI).length:Int)=bb.length:=by simp
 refine RM.de (mu:=fun _=>false) ?_
 repeat' (first |refine u1 ?_ |refine u2 ?_ |fail)
 refine ⟨0,E.length,seen,E.length,eZ 0 E,E.length,rfl,rfl,fun e he=>?_,fun e he hns=>?_,fun hall=>?_⟩
 ·obtain ⟨i,x,hx,rfl⟩:=pO he
  have:=(List.getElem?_eq_some_iff.1 hx).1
  dsimp only
  omega
 ·obtain ⟨i,x,hx,rfl⟩:=pO he
  rw [Nat.zero_add] at hns ⊢
  have hi:=(List.getElem?_eq_some_iff.1 hx).1
  have hless:=va hi hns
  obtain ⟨K,hK,hxK⟩:=hkey x (List.mem_of_getElem? hx)
  obtain ⟨key,cnt⟩:=x
  dsimp only at hxK
  subst hxK
  have hkl:pN n (K:Nat)=bZ (fun i=>K.testBit i) 0 n:=by unfold pN;rw [Int.toNat_natCast]
  generalize hq:(fun i=>K.testBit i)=q at hkl
  have hqb:∀ c,q c=decide (K / 2 ^ c % 2=1):=fun c=>by rw [←hq];exact Nat.testBit_eq_decide_div_mod_eq
  repeat' (first |refine u1 ?_ |fail)
  refine RM.de (mu:=fun _=>false) ?_
  repeat' (first |refine u1 ?_ |fail)
  refine az.block ?_
  refine RM.de (mu:=fun _=>false) ?_
  repeat' (first |refine Je rfl rfl rfl hx ?_ |refine u1 ?_ |fail)
  refine RM.de (mu:=fun _=>false) ?_
  repeat' (first |refine u1 ?_ |fail)
  refine az.seq ?_
  refine RM.de (mu:=fun _=>false) ?_
  repeat' (first |refine u1 ?_ |fail)
  refine az.block ?_
  refine az.aK (ai.trans (ai.ue 1) (ai.MI (l:=[(3,.pt (cx s nn rs fl) 0),(6,x6 f (bb)),(12,BB f),(13,ah (K:Nat)),(14,.bX 3 0 0 (bZ q 0 0).length 0),(53,.ptr 2 0 0),(60,ah m),(61,ah (0:Nat))]) (hp:=[mB E,mC,.iter 0 E.length ((seen++[i])) E.length,.cells ((bZ q 0 0).map ah) 1 0]) 4 rfl ⟨dR.refl _,dR.refl _,dR.refl _,dR.refl _,dR.ud,dR.refl _,dR.of (congrArg ah er),dR.refl _,trivial⟩ (Nat.zero_le _) (by simp only [List.all_cons,List.all_nil,ql];rfl) (uB _ _ _ _))) ?_
  refine az.loop (fun y:Nat × Nat × Nat=>y.1≤n∧(y.2.2=(bZ q 0 y.1).length∨y.2.2=(bZ q 0 y.1).length+1)) (fun y=>⟨aX [(3,.pt (cx s nn rs fl) 0),(6,x6 f (bb)),(12,BB f),(13,ah (K:Nat)),(14,.bX 3 y.2.1 0 (bZ q 0 y.1).length y.2.2),(53,.ptr 2 0 0),(60,ah m),(61,ah (y.1:Nat))],[mB E,mC,.iter 0 E.length ((seen++[i])) E.length,.cells ((bZ q 0 y.1).map ah) 1 y.2.1],bN.none,false,0⟩) (fun y=>n - y.1) ?_ (0,0,0) ⟨Nat.zero_le _,.inl rfl⟩
  rintro ⟨c,v,cp⟩ ⟨hc8,hcap⟩
  dsimp only at hc8 hcap
  show az _ _ _ _ ⟨aX [(3,.pt (cx s nn rs fl) 0),(6,x6 f (bb)),(12,BB f),(13,ah (K:Nat)),(14,.bX 3 v 0 (bZ q 0 c).length cp),(53,.ptr 2 0 0),(60,ah m),(61,ah (c:Nat))],[mB E,mC,.iter 0 E.length ((seen++[i])) E.length,.cells ((bZ q 0 c).map ah) 1 v],bN.none,false,0⟩ _
  have hll:=iK q 0 c
  have hml:((bZ q 0 c).map ah).length=(bZ q 0 c).length:=List.length_map _
  by_cases hlt:c < n
  ·have d1:decide ((c:Int) < m)=true:=decide_eq_true (by omega)
   have hdv:K / 2 ^ c < 4611686018427387904:=Nat.lt_of_le_of_lt (Nat.div_le_self _ _) (by omega)
   refine aa (mu:=fun t=>Nat.beq t 72) ?_
   cases hqc:q c with
   | false =>
    have hsn:=xE hqc
    have d2:decide (((K / 2 ^ c % 2:Nat):Int)=1)=false:=decide_eq_false (fun e=>by have:=hqb c;rw [hqc] at this;have:=of_decide_eq_false this.symm;omega)
    repeat' (first |((with_reducible show ee _ _ _ _ _ _ _ _ _);first|refine RM.AW rfl rfl (by omega) ?_|refine RM.EM rfl rfl hdv ?_) |refine u1 ?_ |fail)
    refine ⟨(c+1,v,cp),⟨hlt,by dsimp only;rw [hsn];exact hcap⟩,(by dsimp only;omega),?_⟩
    show ai _ ⟨aX [(3,.pt (cx s nn rs fl) 0),(6,x6 f (bb)),(12,BB f),(13,ah (K:Nat)),(14,.bX 3 v 0 (bZ q 0 (c+1)).length cp),(53,.ptr 2 0 0),(60,ah m),(61,ah ((c+1):Nat))],[mB E,mC,.iter 0 E.length ((seen++[i])) E.length,.cells ((bZ q 0 (c+1)).map ah) 1 v],bN.none,false,0⟩
    rw [hsn]
    exact ai.to 4 rfl ⟨rfl,rfl,rfl,rfl,rfl,rfl,rfl,aH (by simp),trivial⟩ (Nat.zero_le _) (by simp only [List.all_cons,List.all_nil,ql];rfl) (uB _ _ _ _)
   | true =>
    have hsn:=xD hqc
    have d2:decide (((K / 2 ^ c % 2:Nat):Int)=1)=true:=decide_eq_true (by have:=hqb c;rw [hqc] at this;have:=of_decide_eq_true this.symm;omega)
    repeat' (first |((with_reducible show ee _ _ _ _ _ _ _ _ _);first|refine RM.AW rfl rfl (by omega) ?_|refine RM.EM rfl rfl hdv ?_) |((with_reducible show RM.wpOp _ _ (.call _) _ _ _);refine RM.F5 (cs:=(bZ q 0 c).map ah) (n:=(bZ q 0 c).length) (els:=[eI (c:Int)]) rfl rfl rfl rfl rfl (fun el hel=>by rw [List.mem_singleton.1 hel];rfl) rfl rfl (by rw [hml];exact (Nat.mul_one _).symm) hcap (by simp only [List.length_singleton];omega) (fun v' c' hc'=>?_)) |refine u1 ?_ |fail)
    refine ⟨(c+1,v',c'),⟨hlt,by dsimp only;rw [hsn,List.length_append];exact hc'⟩,(by dsimp only;omega),?_⟩
    show ai _ ⟨aX [(3,.pt (cx s nn rs fl) 0),(6,x6 f (bb)),(12,BB f),(13,ah (K:Nat)),(14,.bX 3 v' 0 (bZ q 0 (c+1)).length c'),(53,.ptr 2 0 0),(60,ah m),(61,ah ((c+1):Nat))],[mB E,mC,.iter 0 E.length ((seen++[i])) E.length,.cells ((bZ q 0 (c+1)).map ah) 1 v'],bN.none,false,0⟩
    have hin:=uB E (seen++[i]) (bZ q 0 (c+1)) v'
    rw [hsn] at hin ⊢
    rw [List.map_append] at hin ⊢
    exact ai.to 4 rfl ⟨rfl,rfl,rfl,rfl,(by rw [List.length_append];rfl),rfl,rfl,aH (by simp),trivial⟩ (Nat.zero_le _) (by simp only [List.all_cons,List.all_nil,ql];rfl) hin
  ·have hc:c=n:=by omega
   subst hc
   have d1:decide ((c:Int) < m)=false:=decide_eq_false (by omega)
   refine aa (mu:=fun _=>false) ?_
   repeat' (first |refine u1 ?_ |fail)
   refine az.aK (ai.giveUp 3 (l:=[(3,.pt (cx s nn rs fl) 0),(6,x6 f (bb)),(12,BB f),(53,.ptr 2 0 0),(14,.sl ((bZ q 0 c).map eI) false)]) (hp:=[mB E,mC,.iter 0 E.length ((seen++[i])) E.length,.gone]) rfl (Nat.zero_le _) (C6 _) ⟨.same rfl,.same (Ft _ _ _),.same rfl,.same rfl,.row 1 (by simp) (by simp) (fun el hel=>by obtain ⟨x,_,rfl⟩:=List.mem_map.1 hel;rfl) (by rw [qP,List.drop_zero,List.take_of_length_le (by simp)]) (fun h=>Bool.noConfusion h),trivial⟩ (Jf _ _ _ _) rfl) ?_
   generalize bZ q 0 c=B at *
   have hcmp:=zU false B bb false false (by omega) (by omega)
   have hcl:=Fm false ((B.map eI).length:Int) ((bb.map eI).length:Int)
   have hor:=M7 false (fj ((B.map eI).length:Int) ((bb.map eI).length:Int)) (eN B bb)
   have eB:((B.map eI).length:Int)=B.length:=by simp
   have hend:∀ (f':Bool) (b':List Int) (st:cy),ij c E (seen++[i],f',b')→ai st ⟨aX [(3,.pt (cx s nn rs fl) 0),(6,x6 f' (b')),(12,BB f'),(53,.ptr 2 0 0)],[mB E,mC,.iter 0 E.length ((seen++[i])) E.length],bN.none,false,0⟩→∃ y:List Nat × Bool × List Int,ij c E y∧ow E.length y.1 < ow E.length seen∧ai st ⟨aX [(3,.pt (cx s nn rs fl) 0),(6,x6 y.2.1 (y.2.2)),(12,BB y.2.1),(53,.ptr 2 0 0)],[mB E,mC,.iter 0 E.length (y.1) E.length],bN.none,false,0⟩:=fun f' b' st h1 h2=>⟨(seen++[i],f',b'),h1,hless,h2⟩
   refine aa (mu:=fun _=>false) ?_
   cases f with
   | false =>
    repeat' (first |refine u1 ?_ |fail)
    exact hend true B _ (by rw [←hkl];exact hso.taken hx (fun h=>(by cases h))) (ai.to 3 rfl ⟨rfl,rfl,rfl,rfl,trivial⟩ (Nat.zero_le _) rfl (pP _ _))
   | true =>
    have hbef:(if fj ((B.map eI).length:Int) ((bb.map eI).length:Int) ≠ 0 then fj ((B.map eI).length:Int) ((bb.map eI).length:Int) else eN B bb) < 0 ↔ iq B bb:=by
     rw [eB,eb]
     exact Fs B bb
    generalize (if fj ((B.map eI).length:Int) ((bb.map eI).length:Int) ≠ 0 then fj ((B.map eI).length:Int) ((bb.map eI).length:Int) else eN B bb)=Z at *
    by_cases h2:Z < 0
    ·have d3:=decide_eq_true h2
     repeat' (first |refine u1 ?_ |fail)
     exact hend true B _ (by rw [←hkl];exact hso.taken hx (fun _=>(by dsimp only;rw [hkl];exact hbef.1 h2))) (ai.to 3 rfl ⟨rfl,rfl,rfl,rfl,trivial⟩ (Nat.zero_le _) rfl (pP _ _))
    ·have d3:=decide_eq_false h2
     repeat' (first |refine u1 ?_ |fail)
     exact hend true bb _ (hso.kept hx (by dsimp only;rw [hkl];exact fun h=>h2 (hbef.2 h))) (ai.to 3 rfl ⟨rfl,rfl,rfl,rfl,trivial⟩ (Nat.zero_le _) rfl (pP _ _))
 ·repeat' (first |refine u1 ?_ |fail)
  refine aa (mu:=fun _=>false) ?_
  repeat' (first |refine u1 ?_ |fail)
  refine aa (mu:=fun _=>false) ?_
  repeat' (first |refine u1 ?_ |fail)
  have hin:∀ i x,E[i]?=some x→i ∈ seen:=fun i x hx=>by
   have:=hall _ (List.mem_of_getElem? (pK 0 E i x hx))
   rwa [Nat.zero_add] at this
  obtain ⟨z,hz,hzb⟩:=hex
  obtain ⟨iz,hiz⟩:=List.getElem?_of_mem hz
  cases f with
  | false =>
   have h1:=hin iz z hiz
   have h2:=(hso.1 rfl).1
   dsimp only at h2
   rw [h2] at h1
   cases h1
  | true =>
   obtain ⟨y,hy,hyb⟩:=(hso.2 rfl).1
   have h3:=(hso.2 rfl).2 iz (hin iz z hiz) z hiz
   have h4:=hmin y hy
   dsimp only at hyb h3
   rw [hyb] at h4
   rw [hzb] at h3
   rw [←E9 h4 h3]
   exact ⟨[_],⟨Fz.deep rfl,trivial⟩,rfl⟩
theorem yN {s:aC} {nn:bk} {rs:List aP} {fl:Bool} {E:oh} {best:List Int} (h8:rs.length≤8) (hkey:∀ x ∈ E,∃ k:Nat,k < 256∧x.1=k) (hex:∃ x ∈ E,pN rs.length x.1=best) (hmin:∀ x ∈ E,¬ iq (pN rs.length x.1) best) :
  az TT TB false KJ ⟨aX [(3,.pt (cx s nn rs fl) 0),(6,.fl (.slice none 0 0)),(7,.ptr 1 0 0)],[mB E,mC],bN.none,false,0⟩ (JK TT Tryz.f86.results.toList (.sl (best.map eI) false)):=by
 obtain ⟨n,hn⟩:∃ n,n=rs.length:=⟨_,rfl⟩
 obtain ⟨m,hm⟩:∃ m:Int,m=rs.length:=⟨_,rfl⟩
 have er:((rs.map aL).length:Int)=m:=by rw [hm];simp
 rw [←hn] at h8 hex hmin
 refine RM.de (mu:=fun _=>false) ?_
 repeat' (first |refine u1 ?_ |fail)
 refine az.seq ?_
 refine RM.de (mu:=fun _=>false) ?_
 repeat' (first |refine u1 ?_ |refine ⟨_,_,rfl,?_⟩ |fail)
 refine az.block ?_
 refine az.aK (ai.to (l:=[(3,.pt (cx s nn rs fl) 0),(6,x6 false (([]:List Int))),(12,BB false),(53,.ptr 2 0 0)]) (hp:=[mB E,mC,.iter 0 E.length (([]:List Nat)) E.length]) 3 rfl ⟨rfl,rfl,rfl,rfl,trivial⟩ (Nat.zero_le _) rfl (pP E [])) ?_
 refine az.loop (fun x:List Nat × Bool × List Int=>ij n E x) (fun x=>⟨aX [(3,.pt (cx s nn rs fl) 0),(6,x6 x.2.1 (x.2.2)),(12,BB x.2.1),(53,.ptr 2 0 0)],[mB E,mC,.iter 0 E.length (x.1) E.length],bN.none,false,0⟩) (fun x=>ow E.length x.1) ?_ ([],false,[]) ⟨fun _=>⟨rfl,rfl⟩,fun h=>(by cases h)⟩
 rintro ⟨seen,f,bb⟩ hso
 have hbb:bb.length≤8:=by
  cases f with
  | false =>
   have:=(hso.1 rfl).2
   dsimp only at this
   rw [this]
   exact Nat.zero_le _
  | true =>
   obtain ⟨y,_,hy⟩:=(hso.2 rfl).1
   dsimp only at hy
   rw [←hy]
   exact Nat.le_trans (iK _ _ _) h8
 have eb:((bb.map eI).length:Int)=bb.length:=by simp
 refine RM.de (mu:=fun _=>false) ?_
 repeat' (first |refine u1 ?_ |refine u2 ?_ |fail)
 refine ⟨0,E.length,seen,E.length,eZ 0 E,E.length,rfl,rfl,fun e he=>?_,fun e he hns=>?_,fun hall=>?_⟩
 ·obtain ⟨i,x,hx,rfl⟩:=pO he
  have:=(List.getElem?_eq_some_iff.1 hx).1
  dsimp only
  omega
 ·obtain ⟨i,x,hx,rfl⟩:=pO he
  rw [Nat.zero_add] at hns ⊢
  have hi:=(List.getElem?_eq_some_iff.1 hx).1
  have hless:=va hi hns
  obtain ⟨K,hK,hxK⟩:=hkey x (List.mem_of_getElem? hx)
  obtain ⟨key,cnt⟩:=x
  dsimp only at hxK
  subst hxK
  have hkl:pN n (K:Nat)=bZ (fun i=>K.testBit i) 0 n:=by unfold pN;rw [Int.toNat_natCast]
  generalize hq:(fun i=>K.testBit i)=q at hkl
  have hqb:∀ c,q c=decide (K / 2 ^ c % 2=1):=fun c=>by rw [←hq];exact Nat.testBit_eq_decide_div_mod_eq
  repeat' (first |refine u1 ?_ |fail)
  refine RM.de (mu:=fun _=>false) ?_
  repeat' (first |refine u1 ?_ |fail)
  refine az.block ?_
  refine RM.de (mu:=fun _=>false) ?_
  repeat' (first |refine Je rfl rfl rfl hx ?_ |refine u1 ?_ |fail)
  refine RM.de (mu:=fun _=>false) ?_
  repeat' (first |refine u1 ?_ |fail)
  refine az.seq ?_
  refine RM.de (mu:=fun _=>false) ?_
  repeat' (first |refine u1 ?_ |fail)
  refine az.block ?_
  refine az.aK (ai.trans (ai.ue 1) (ai.MI (l:=[(3,.pt (cx s nn rs fl) 0),(6,x6 f (bb)),(12,BB f),(13,ah (K:Nat)),(14,.bX 3 0 0 (bZ q 0 0).length 0),(53,.ptr 2 0 0),(60,ah m),(61,ah (0:Nat))]) (hp:=[mB E,mC,.iter 0 E.length ((seen++[i])) E.length,.cells ((bZ q 0 0).map ah) 1 0]) 4 rfl ⟨dR.refl _,dR.refl _,dR.refl _,dR.refl _,dR.ud,dR.refl _,dR.of (congrArg ah er),dR.refl _,trivial⟩ (Nat.zero_le _) (by simp only [List.all_cons,List.all_nil,ql];rfl) (uB _ _ _ _))) ?_
  refine az.loop (fun y:Nat × Nat × Nat=>y.1≤n∧(y.2.2=(bZ q 0 y.1).length∨y.2.2=(bZ q 0 y.1).length+1)) (fun y=>⟨aX [(3,.pt (cx s nn rs fl) 0),(6,x6 f (bb)),(12,BB f),(13,ah (K:Nat)),(14,.bX 3 y.2.1 0 (bZ q 0 y.1).length y.2.2),(53,.ptr 2 0 0),(60,ah m),(61,ah (y.1:Nat))],[mB E,mC,.iter 0 E.length ((seen++[i])) E.length,.cells ((bZ q 0 y.1).map ah) 1 y.2.1],bN.none,false,0⟩) (fun y=>n - y.1) ?_ (0,0,0) ⟨Nat.zero_le _,.inl rfl⟩
  rintro ⟨c,v,cp⟩ ⟨hc8,hcap⟩
  dsimp only at hc8 hcap
  show az _ _ _ _ ⟨aX [(3,.pt (cx s nn rs fl) 0),(6,x6 f (bb)),(12,BB f),(13,ah (K:Nat)),(14,.bX 3 v 0 (bZ q 0 c).length cp),(53,.ptr 2 0 0),(60,ah m),(61,ah (c:Nat))],[mB E,mC,.iter 0 E.length ((seen++[i])) E.length,.cells ((bZ q 0 c).map ah) 1 v],bN.none,false,0⟩ _
  have hll:=iK q 0 c
  have hml:((bZ q 0 c).map ah).length=(bZ q 0 c).length:=List.length_map _
  by_cases hlt:c < n
  ·have d1:decide ((c:Int) < m)=true:=decide_eq_true (by omega)
   have hdv:K / 2 ^ c < 4611686018427387904:=Nat.lt_of_le_of_lt (Nat.div_le_self _ _) (by omega)
   refine aa (mu:=fun t=>Nat.beq t 72) ?_
   cases hqc:q c with
   | false =>
    have hsn:=xE hqc
    have d2:decide (((K / 2 ^ c % 2:Nat):Int)=1)=false:=decide_eq_false (fun e=>by have:=hqb c;rw [hqc] at this;have:=of_decide_eq_false this.symm;omega)
    repeat' (first |((with_reducible show ee _ _ _ _ _ _ _ _ _);first|refine RM.AW rfl rfl (by omega) ?_|refine RM.EM rfl rfl hdv ?_) |refine u1 ?_ |fail)
    refine ⟨(c+1,v,cp),⟨hlt,by dsimp only;rw [hsn];exact hcap⟩,(by dsimp only;omega),?_⟩
    show ai _ ⟨aX [(3,.pt (cx s nn rs fl) 0),(6,x6 f (bb)),(12,BB f),(13,ah (K:Nat)),(14,.bX 3 v 0 (bZ q 0 (c+1)).length cp),(53,.ptr 2 0 0),(60,ah m),(61,ah ((c+1):Nat))],[mB E,mC,.iter 0 E.length ((seen++[i])) E.length,.cells ((bZ q 0 (c+1)).map ah) 1 v],bN.none,false,0⟩
    rw [hsn]
    exact ai.to 4 rfl ⟨rfl,rfl,rfl,rfl,rfl,rfl,rfl,aH (by simp),trivial⟩ (Nat.zero_le _) (by simp only [List.all_cons,List.all_nil,ql];rfl) (uB _ _ _ _)
   | true =>
    have hsn:=xD hqc
    have d2:decide (((K / 2 ^ c % 2:Nat):Int)=1)=true:=decide_eq_true (by have:=hqb c;rw [hqc] at this;have:=of_decide_eq_true this.symm;omega)
    repeat' (first |((with_reducible show ee _ _ _ _ _ _ _ _ _);first|refine RM.AW rfl rfl (by omega) ?_|refine RM.EM rfl rfl hdv ?_) |((with_reducible show RM.wpOp _ _ (.call _) _ _ _);refine RM.F5 (cs:=(bZ q 0 c).map ah) (n:=(bZ q 0 c).length) (els:=[eI (c:Int)]) rfl rfl rfl rfl rfl (fun el hel=>by rw [List.mem_singleton.1 hel];rfl) rfl rfl (by rw [hml];exact (Nat.mul_one _).symm) hcap (by simp only [List.length_singleton];omega) (fun v' c' hc'=>?_)) |refine u1 ?_ |fail)
    refine ⟨(c+1,v',c'),⟨hlt,by dsimp only;rw [hsn,List.length_append];exact hc'⟩,(by dsimp only;omega),?_⟩
    show ai _ ⟨aX [(3,.pt (cx s nn rs fl) 0),(6,x6 f (bb)),(12,BB f),(13,ah (K:Nat)),(14,.bX 3 v' 0 (bZ q 0 (c+1)).length c'),(53,.ptr 2 0 0),(60,ah m),(61,ah ((c+1):Nat))],[mB E,mC,.iter 0 E.length ((seen++[i])) E.length,.cells ((bZ q 0 (c+1)).map ah) 1 v'],bN.none,false,0⟩
    have hin:=uB E (seen++[i]) (bZ q 0 (c+1)) v'
    rw [hsn] at hin ⊢
    rw [List.map_append] at hin ⊢
    exact ai.to 4 rfl ⟨rfl,rfl,rfl,rfl,(by rw [List.length_append];rfl),rfl,rfl,aH (by simp),trivial⟩ (Nat.zero_le _) (by simp only [List.all_cons,List.all_nil,ql];rfl) hin
  ·have hc:c=n:=by omega
   subst hc
   have d1:decide ((c:Int) < m)=false:=decide_eq_false (by omega)
   refine aa (mu:=fun _=>false) ?_
   repeat' (first |refine u1 ?_ |fail)
   refine az.aK (ai.giveUp 3 (l:=[(3,.pt (cx s nn rs fl) 0),(6,x6 f (bb)),(12,BB f),(53,.ptr 2 0 0),(14,.sl ((bZ q 0 c).map eI) false)]) (hp:=[mB E,mC,.iter 0 E.length ((seen++[i])) E.length,.gone]) rfl (Nat.zero_le _) (C6 _) ⟨.same rfl,.same (Ft _ _ _),.same rfl,.same rfl,.row 1 (by simp) (by simp) (fun el hel=>by obtain ⟨x,_,rfl⟩:=List.mem_map.1 hel;rfl) (by rw [qP,List.drop_zero,List.take_of_length_le (by simp)]) (fun h=>Bool.noConfusion h),trivial⟩ (Jf _ _ _ _) rfl) ?_
   generalize bZ q 0 c=B at *
   have hcmp:=zU false B bb false false (by omega) (by omega)
   have hcl:=Fm false ((B.map eI).length:Int) ((bb.map eI).length:Int)
   have hor:=M7 false (fj ((B.map eI).length:Int) ((bb.map eI).length:Int)) (eN B bb)
   have eB:((B.map eI).length:Int)=B.length:=by simp
   have hend:∀ (f':Bool) (b':List Int) (st:cy),ij c E (seen++[i],f',b')→ai st ⟨aX [(3,.pt (cx s nn rs fl) 0),(6,x6 f' (b')),(12,BB f'),(53,.ptr 2 0 0)],[mB E,mC,.iter 0 E.length ((seen++[i])) E.length],bN.none,false,0⟩→∃ y:List Nat × Bool × List Int,ij c E y∧ow E.length y.1 < ow E.length seen∧ai st ⟨aX [(3,.pt (cx s nn rs fl) 0),(6,x6 y.2.1 (y.2.2)),(12,BB y.2.1),(53,.ptr 2 0 0)],[mB E,mC,.iter 0 E.length (y.1) E.length],bN.none,false,0⟩:=fun f' b' st h1 h2=>⟨(seen++[i],f',b'),h1,hless,h2⟩
   refine aa (mu:=fun _=>false) ?_
   cases f with
   | false =>
    repeat' (first |refine u1 ?_ |fail)
    exact hend true B _ (by rw [←hkl];exact hso.taken hx (fun h=>(by cases h))) (ai.to 3 rfl ⟨rfl,rfl,rfl,rfl,trivial⟩ (Nat.zero_le _) rfl (pP _ _))
   | true =>
    have hbef:(if fj ((B.map eI).length:Int) ((bb.map eI).length:Int) ≠ 0 then fj ((B.map eI).length:Int) ((bb.map eI).length:Int) else eN B bb) < 0 ↔ iq B bb:=by
     rw [eB,eb]
     exact Fs B bb
    generalize (if fj ((B.map eI).length:Int) ((bb.map eI).length:Int) ≠ 0 then fj ((B.map eI).length:Int) ((bb.map eI).length:Int) else eN B bb)=Z at *
    by_cases h2:Z < 0
    ·have d3:=decide_eq_true h2
     repeat' (first |refine u1 ?_ |fail)
     exact hend true B _ (by rw [←hkl];exact hso.taken hx (fun _=>(by dsimp only;rw [hkl];exact hbef.1 h2))) (ai.to 3 rfl ⟨rfl,rfl,rfl,rfl,trivial⟩ (Nat.zero_le _) rfl (pP _ _))
    ·have d3:=decide_eq_false h2
     repeat' (first |refine u1 ?_ |fail)
     exact hend true bb _ (hso.kept hx (by dsimp only;rw [hkl];exact fun h=>h2 (hbef.2 h))) (ai.to 3 rfl ⟨rfl,rfl,rfl,rfl,trivial⟩ (Nat.zero_le _) rfl (pP _ _))
 ·repeat' (first |refine u1 ?_ |fail)
  refine aa (mu:=fun _=>false) ?_
  repeat' (first |refine u1 ?_ |fail)
  refine aa (mu:=fun _=>false) ?_
  repeat' (first |refine u1 ?_ |fail)
  have hin:∀ i x,E[i]?=some x→i ∈ seen:=fun i x hx=>by
   have:=hall _ (List.mem_of_getElem? (pK 0 E i x hx))
   rwa [Nat.zero_add] at this
  obtain ⟨z,hz,hzb⟩:=hex
  obtain ⟨iz,hiz⟩:=List.getElem?_of_mem hz
  cases f with
  | false =>
   have h1:=hin iz z hiz
   have h2:=(hso.1 rfl).1
   dsimp only at h2
   rw [h2] at h1
   cases h1
  | true =>
   obtain ⟨y,hy,hyb⟩:=(hso.2 rfl).1
   have h3:=(hso.2 rfl).2 iz (hin iz z hiz) z hiz
   have h4:=hmin y hy
   dsimp only at hyb h3
   rw [hyb] at h4
   rw [hzb] at h3
   rw [←E9 h4 h3]
   exact ⟨[_],⟨Fz.deep rfl,trivial⟩,rfl⟩
end Go.Proofs.YtalcbebjpgfnfaaGreat
open Go Go.RM Go.AirLaw
namespace Go.Proofs.YtalcbebjpgfnfaaGreat
set_option maxRecDepth 100000
set_option maxHeartbeats 4000000
theorem zW {α:Type} {L:List α} {q:Nat} {x:α} (h:L[q]?=some x):L.take (q+1)=L.take q++[x]:=by
 rw [List.take_add_one,h];rfl
end Go.Proofs.YtalcbebjpgfnfaaGreat
