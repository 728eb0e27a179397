/-
  Contracts of the program's functions and of the document's. Lemmas alone; their conditions stand in them.
-/
import Derived.Test.YtichbhmnhkegiaaGreatVA3
import Derived.Test.YtichbhmnhkegiaaGreatVK3
import Derived.Test.YtichbhmnhkegiaaGreatVK4
import Derived.Test.YtichbhmnhkegiaaGreatVK6
import Derived.Test.YtichbhmnhkegiaaGreatVK7
open Go Go.RM Go.AirLaw
namespace Go.Proofs.YtichbhmnhkegiaaGreat
set_option maxRecDepth 100000
set_option maxHeartbeats 4000000
abbrev mB (E:lS):AB:=.map (dm 0 E) E.length
abbrev mC:AB:=.cells [.om 0] 0 0
theorem lV (n:Nat):∀ (E:lS) (b:Nat),((dm b E).all fun p=>p.1.cO n && p.2.1.cO n)=true
 | [],_=>rfl
 | (k,c) :: E,b=>by
  unfold dm
  rw [List.all_cons,lV n E (b+1)]
  rfl
theorem yz (n:Nat):∀ (E:lS) (b:Nat),((dm b E).all fun p=>p.1.lq n && p.2.1.lq n)=true
 | [],_=>rfl
 | (k,c) :: E,b=>by
  unfold dm
  rw [List.all_cons,yz n E (b+1)]
  rfl
def lW (n:Nat) (k:Int):List Int:=aW (fun i=>k.toNat.testBit i) 0 n
theorem oX (p:Nat→Bool) (n:Nat):lW n (cg p n:Nat)=aW p 0 n:=by
 unfold lW
 refine Bb fun i hi=>?_
 rw [Int.toNat_natCast,uY,decide_eq_true hi,Bool.true_and]
theorem Aq (B bb:List Int):(if eJ (B.length:Int) (bb.length:Int) ≠ 0 then eJ (B.length:Int) (bb.length:Int) else fV B bb) < 0 ↔ fW B bb:=by
 have hb:fW B bb ↔ (B.length < bb.length∨B.length=bb.length∧fV B bb < 0):=Iff.rfl
 rw [hb]
 rcases Nat.lt_trichotomy B.length bb.length with h|h|h
 ·have e:eJ (B.length:Int) (bb.length:Int)=-1:=by unfold eJ;rw [if_pos (by omega)]
  rw [e,if_pos (by decide)]
  exact ⟨fun _=>.inl h,fun _=>by decide⟩
 ·have e:eJ (B.length:Int) (bb.length:Int)=0:=by unfold eJ;rw [if_neg (by omega),if_neg (by omega)]
  rw [e,if_neg (by decide)]
  exact ⟨fun k=>.inr ⟨h,k⟩,fun k=>by rcases k with k|k;omega;exact k.2⟩
 ·have e:eJ (B.length:Int) (bb.length:Int)=1:=by unfold eJ;rw [if_neg (by omega),if_pos (by omega)]
  rw [e,if_pos (by decide)]
  exact ⟨fun k=>absurd k (by decide),fun k=>by rcases k with k|k <;> omega⟩
def kY (n:Nat) (seen:List Nat):Nat:=((List.range n).filter fun i=>!decide (i ∈ seen)).length
theorem qE {n i:Nat} {seen:List Nat} (hi:i < n) (h:i ∉ seen):kY n (seen++[i]) < kY n seen:=by
 unfold kY
 have e:(List.range n).filter (fun j=>!decide (j ∈ seen++[i]))=((List.range n).filter fun j=>!decide (j ∈ seen)).filter fun j=>!decide (j=i):=by
  rw [List.filter_filter]
  congr 1
  funext j
  rw [Bool.eq_iff_iff]
  simp only [Bool.not_eq_true',decide_eq_false_iff_not,Bool.and_eq_true,List.mem_append,List.mem_singleton]
  constructor
  ·intro h;exact ⟨fun e=>h (.inr e),fun e=>h (.inl e)⟩
  ·rintro ⟨h1,h2⟩ (h|h)
   ·exact h2 h
   ·exact h1 h
 rw [e,List.length_filter_lt_length_iff_exists]
 exact ⟨i,by rw [List.mem_filter,List.mem_range];exact ⟨hi,by simpa using h⟩,by simp⟩
theorem lX:∀ {E:lS} {b:Nat} {e:AV × AV × Nat},e ∈ dm b E→∃ (i:Nat) (x:Int × Int),E[i]?=some x∧e=(ah x.1,ah x.2,b+i)
 | [],_,_,h=>absurd h (List.not_mem_nil)
 | (k,c) :: E,b,e,h=>by
  unfold dm at h
  rcases List.mem_cons.1 h with rfl|h
  ·exact ⟨0,(k,c),rfl,rfl⟩
  ·obtain ⟨i,x,h1,h2⟩:=lX h
   exact ⟨i+1,x,h1,by rw [h2,show b+1+i=b+(i+1) by omega]⟩
theorem va:∀ {E:lS} {b i:Nat} {x:Int × Int},E[i]?=some x→((dm b E).find? fun p=>p.2.2 == b+i)=some (ah x.1,ah x.2,b+i)
 | [],_,_,_,h=>by cases h
 | (k,c) :: E,b,0,x,h=>by
  cases h
  unfold dm
  rw [List.find?_cons]
  simp
 | (k,c) :: E,b,i+1,x,h=>by
  unfold dm
  have hne:(b == b+(i+1))=false:=by rw [beq_eq_false_iff_ne];omega
  rw [List.find?_cons]
  simp only [hne]
  have:=va (b:=b+1) (by simpa using h:E[i]?=some x)
  rw [show b+1+i=b+(i+1) by omega] at this
  exact this
theorem CJ {own:Bool} {fr:Nat→AV} {hp:List AB} {K:AV→List AB→Prop} {it:Operand} {q j since i:Nat} {seen:List Nat} {E:lS} {x:Int × Int} (hi:aB fr it=.ptr q 0 0) (hq:hp[q]?=some (.iter j since (seen++[i]) E.length)) (hj:hp[j]?=some (.map (dm 0 E) E.length)) (hx:E[i]?=some x)
  (hK:K (.tp [ah x.1,ah x.2]) hp):RM.wpOp TT own (.entry it) fr hp K:=by
 show qX (aB fr it) hp K
 rw [hi]
 have hf:=va (b:=0) hx
 rw [Nat.zero_add] at hf
 exact ⟨_,_,_,_,_,_,_,_,hq,hj,rfl,List.getLast?_concat,hf,hK⟩
theorem qa {n:Nat} {b:AB} {l:List AB} (h:AB.cO n b=true) (k:l.all (AB.cO n)=true):(b :: l).all (AB.cO n)=true:=by
 rw [List.all_cons,h,k];rfl
theorem wD {j i:Nat} {b:AB} {l:List AB} (h:b.lq j=true) (k:kV j (i+1) l=true):kV j i (b :: l)=true:=by
 unfold kV
 rw [h,k,Bool.or_true]
 rfl
theorem EI (n:Nat) (L:List Int):mJ n (L.map ah)=true:=by
 induction L with
 | nil=>rfl
 | cons a l ih=>exact ih
theorem lY (E:lS) (seen:List Nat):([mB E,mC,.iter 0 E.length seen E.length]:List AB).all (AB.cO 3)=true :=
 qa (lV 3 E 0) rfl
theorem qk (E:lS) (seen:List Nat) (L:List Int) (v:Nat):([mB E,mC,.iter 0 E.length seen E.length,.cells (L.map ah) 1 v]:List AB).all (AB.cO 4)=true :=
 qa (lV 4 E 0) (qa rfl (qa rfl (qa (EI 4 L) rfl)))
theorem CK (E:lS) (seen:List Nat) (L:List Int) (v:Nat):kV 3 0 ([mB E,mC,.iter 0 E.length seen E.length,.cells (L.map ah) 1 v]:List AB)=true :=
 wD (yz 3 E 0) (wD rfl (wD rfl (by
  unfold kV
  rfl)))
def tF (f:Bool) (bb:List Int):AV:=if f=true then .sl (bb.map eI) false else .fl (.slice none 0 0)
theorem mE (n:Nat) (f:Bool) (bb:List Int):(tF f bb).cO n=true:=by cases f <;> rfl
theorem Ar (n:Nat) (f:Bool) (bb:List Int):(tF f bb).lq n=true:=by cases f <;> rfl
def gW (n:Nat) (E:lS) (x:List Nat × Bool × List Int):Prop:=(x.2.1=false→x.1=[]∧x.2.2=[])∧(x.2.1=true→(∃ y ∈ E,lW n y.1=x.2.2)∧∀ i ∈ x.1,∀ y,E[i]?=some y→¬ fW (lW n y.1) x.2.2)
theorem gW.taken {n:Nat} {E:lS} {seen:List Nat} {f:Bool} {bb:List Int} (h:gW n E (seen,f,bb)) {i:Nat} {y:Int × Int} (hy:E[i]?=some y) (hb:f=true→fW (lW n y.1) bb):gW n E (seen++[i],true,lW n y.1):=by
 refine ⟨fun h=>(by cases h),fun _=>⟨⟨y,List.mem_of_getElem? hy,rfl⟩,fun j hj z hz=>?_⟩⟩
 rcases List.mem_append.1 hj with hj|hj
 ·cases f with
  | false =>
   have:=(h.1 rfl).1
   dsimp only at this
   rw [this] at hj
   cases hj
  | true=>exact fun hc=>(h.2 rfl).2 j hj z hz (Ba hc (hb rfl))
 ·rw [List.mem_singleton.1 hj,hy] at hz
  cases hz
  exact Ab
theorem gW.kept {n:Nat} {E:lS} {seen:List Nat} {bb:List Int} (h:gW n E (seen,true,bb)) {i:Nat} {y:Int × Int} (hy:E[i]?=some y) (hb:¬ fW (lW n y.1) bb):gW n E (seen++[i],true,bb):=by
 refine ⟨fun h=>(by cases h),fun _=>⟨(h.2 rfl).1,fun j hj z hz=>?_⟩⟩
 rcases List.mem_append.1 hj with hj|hj
 ·exact (h.2 rfl).2 j hj z hz
 ·rw [List.mem_singleton.1 hj,hy] at hz
  cases hz
  exact hb
def Bq:Code→Code
 | .seq _ b=>b
 | c=>c
noncomputable def DK:Code:=Bq (Bq (Bq (Tryz.f101.body.getD .skip)))
noncomputable def DL:Code:=Bq (Bq (Bq (Tryz.f102.body.getD .skip)))
theorem ur {s:au} {nn:aE} {rs:List aA} {fl:Bool} {E:lS} {best:List Int} (h8:rs.length≤8) (hkey:∀ x ∈ E,∃ k:Nat,k < 256∧x.1=k) (hex:∃ x ∈ E,lW rs.length x.1=best) (hmin:∀ x ∈ E,¬ fW (lW rs.length x.1) best) :
  av TT TB false DK ⟨aP [(3,.pt (bh s nn rs fl) 0),(6,.fl (.slice none 0 0)),(7,.ptr 1 0 0)],[mB E,mC],bq.none,false,0⟩ (En TT Tryz.f101.results.toList (.sl (best.map eI) false)):=by
 obtain ⟨n,hn⟩:∃ n,n=rs.length:=⟨_,rfl⟩
 obtain ⟨m,hm⟩:∃ m:Int,m=rs.length:=⟨_,rfl⟩
 have er:((rs.map az).length:Int)=m:=by rw [hm];simp
 rw [←hn] at h8 hex hmin
 refine RM.dA (mu:=fun _=>false) ?_
 repeat' (first |refine u1 ?_ |fail)
 refine av.seq ?_
 refine RM.dA (mu:=fun _=>false) ?_
 repeat' (first |refine u1 ?_ |refine ⟨_,_,rfl,?_⟩ |fail)
 refine av.block ?_
 refine av.aY (ai.to (l:=[(3,.pt (bh s nn rs fl) 0),(6,tF false (([]:List Int))),(12,BB false),(53,.ptr 2 0 0)]) (hp:=[mB E,mC,.iter 0 E.length (([]:List Nat)) E.length]) 3 rfl ⟨rfl,rfl,rfl,rfl,trivial⟩ (Nat.zero_le _) rfl (lY E [])) ?_
 refine av.loop (fun x:List Nat × Bool × List Int=>gW n E x) (fun x=>⟨aP [(3,.pt (bh s nn rs fl) 0),(6,tF x.2.1 (x.2.2)),(12,BB x.2.1),(53,.ptr 2 0 0)],[mB E,mC,.iter 0 E.length (x.1) E.length],bq.none,false,0⟩) (fun x=>kY E.length x.1) ?_ ([],false,[]) ⟨fun _=>⟨rfl,rfl⟩,fun h=>(by cases h)⟩
 rintro ⟨seen,f,bb⟩ hso
 have hbb:bb.length≤8:=by
  cases f with
  | false =>
   have:=(hso.1 rfl).2
   dsimp only at this
   rw [this]
   exact Nat.zero_le _
  | true =>
   obtain ⟨y,_,hy⟩:=(hso.2 rfl).1
   dsimp only at hy
   rw [←hy]
   exact Nat.le_trans (fA _ _ _) h8
 have eb:((bb.map eI).length:Int)=bb.length:=by simp
 refine RM.dA (mu:=fun _=>false) ?_
 repeat' (first |refine u1 ?_ |refine u2 ?_ |fail)
 refine ⟨0,E.length,seen,E.length,dm 0 E,E.length,rfl,rfl,fun e he=>?_,fun e he hns=>?_,fun hall=>?_⟩
 ·obtain ⟨i,x,hx,rfl⟩:=lX he
  have:=(List.getElem?_eq_some_iff.1 hx).1
  dsimp only
  omega
 ·obtain ⟨i,x,hx,rfl⟩:=lX he
  rw [Nat.zero_add] at hns ⊢
  have hi:=(List.getElem?_eq_some_iff.1 hx).1
  have hless:=qE hi hns
  obtain ⟨K,hK,hxK⟩:=hkey x (List.mem_of_getElem? hx)
  obtain ⟨key,cnt⟩:=x
  dsimp only at hxK
  subst hxK
  have hkl:lW n (K:Nat)=aW (fun i=>K.testBit i) 0 n:=by unfold lW;rw [Int.toNat_natCast]
  generalize hq:(fun i=>K.testBit i)=q at hkl
  have hqb:∀ c,q c=decide (K / 2 ^ c % 2=1):=fun c=>by rw [←hq];exact Nat.testBit_eq_decide_div_mod_eq
  repeat' (first |refine u1 ?_ |fail)
  refine RM.dA (mu:=fun _=>false) ?_
  repeat' (first |refine u1 ?_ |fail)
  refine av.block ?_
  refine RM.dA (mu:=fun _=>false) ?_
  repeat' (first |refine CJ rfl rfl rfl hx ?_ |refine u1 ?_ |fail)
  refine RM.dA (mu:=fun _=>false) ?_
  repeat' (first |refine u1 ?_ |fail)
  refine av.seq ?_
  refine RM.dA (mu:=fun _=>false) ?_
  repeat' (first |refine u1 ?_ |fail)
  refine av.block ?_
  refine av.aY (ai.trans (ai.zl 1) (ai.FL (l:=[(3,.pt (bh s nn rs fl) 0),(6,tF f (bb)),(12,BB f),(13,ah (K:Nat)),(14,.bF 3 0 0 (aW q 0 0).length 0),(53,.ptr 2 0 0),(60,ah m),(61,ah (0:Nat))]) (hp:=[mB E,mC,.iter 0 E.length ((seen++[i])) E.length,.cells ((aW q 0 0).map ah) 1 0]) 4 rfl ⟨dW.refl _,dW.refl _,dW.refl _,dW.refl _,dW.zk,dW.refl _,dW.of (congrArg ah er),dW.refl _,trivial⟩ (Nat.zero_le _) (by simp only [List.all_cons,List.all_nil,mE];rfl) (qk _ _ _ _))) ?_
  refine av.loop (fun y:Nat × Nat × Nat=>y.1≤n∧(y.2.2=(aW q 0 y.1).length∨y.2.2=(aW q 0 y.1).length+1)) (fun y=>⟨aP [(3,.pt (bh s nn rs fl) 0),(6,tF f (bb)),(12,BB f),(13,ah (K:Nat)),(14,.bF 3 y.2.1 0 (aW q 0 y.1).length y.2.2),(53,.ptr 2 0 0),(60,ah m),(61,ah (y.1:Nat))],[mB E,mC,.iter 0 E.length ((seen++[i])) E.length,.cells ((aW q 0 y.1).map ah) 1 y.2.1],bq.none,false,0⟩) (fun y=>n - y.1) ?_ (0,0,0) ⟨Nat.zero_le _,.inl rfl⟩
  rintro ⟨c,v,cp⟩ ⟨hc8,hcap⟩
  dsimp only at hc8 hcap
  show av _ _ _ _ ⟨aP [(3,.pt (bh s nn rs fl) 0),(6,tF f (bb)),(12,BB f),(13,ah (K:Nat)),(14,.bF 3 v 0 (aW q 0 c).length cp),(53,.ptr 2 0 0),(60,ah m),(61,ah (c:Nat))],[mB E,mC,.iter 0 E.length ((seen++[i])) E.length,.cells ((aW q 0 c).map ah) 1 v],bq.none,false,0⟩ _
  have hll:=fA q 0 c
  have hml:((aW q 0 c).map ah).length=(aW q 0 c).length:=List.length_map _
  by_cases hlt:c < n
  ·have d1:decide ((c:Int) < m)=true:=decide_eq_true (by omega)
   have hdv:K / 2 ^ c < 4611686018427387904:=Nat.lt_of_le_of_lt (Nat.div_le_self _ _) (by omega)
   refine aa (mu:=fun t=>Nat.beq t 72) ?_
   cases hqc:q c with
   | false =>
    have hsn:=sZ hqc
    have d2:decide (((K / 2 ^ c % 2:Nat):Int)=1)=false:=decide_eq_false (fun e=>by have:=hqb c;rw [hqc] at this;have:=of_decide_eq_false this.symm;omega)
    repeat' (first |((with_reducible show cI _ _ _ _ _ _ _ _ _);first|refine RM.wh rfl rfl (by omega) ?_|refine RM.z8 rfl rfl hdv ?_) |refine u1 ?_ |fail)
    refine ⟨(c+1,v,cp),⟨hlt,by dsimp only;rw [hsn];exact hcap⟩,(by dsimp only;omega),?_⟩
    show ai _ ⟨aP [(3,.pt (bh s nn rs fl) 0),(6,tF f (bb)),(12,BB f),(13,ah (K:Nat)),(14,.bF 3 v 0 (aW q 0 (c+1)).length cp),(53,.ptr 2 0 0),(60,ah m),(61,ah ((c+1):Nat))],[mB E,mC,.iter 0 E.length ((seen++[i])) E.length,.cells ((aW q 0 (c+1)).map ah) 1 v],bq.none,false,0⟩
    rw [hsn]
    exact ai.to 4 rfl ⟨rfl,rfl,rfl,rfl,rfl,rfl,rfl,cG (by simp),trivial⟩ (Nat.zero_le _) (by simp only [List.all_cons,List.all_nil,mE];rfl) (qk _ _ _ _)
   | true =>
    have hsn:=sY hqc
    have d2:decide (((K / 2 ^ c % 2:Nat):Int)=1)=true:=decide_eq_true (by have:=hqb c;rw [hqc] at this;have:=of_decide_eq_true this.symm;omega)
    repeat' (first |((with_reducible show cI _ _ _ _ _ _ _ _ _);first|refine RM.wh rfl rfl (by omega) ?_|refine RM.z8 rfl rfl hdv ?_) |((with_reducible show RM.wpOp _ _ (.call _) _ _ _);refine RM.Dv (cs:=(aW q 0 c).map ah) (n:=(aW q 0 c).length) (els:=[eI (c:Int)]) rfl rfl rfl rfl rfl (fun el hel=>by rw [List.mem_singleton.1 hel];rfl) rfl rfl (by rw [hml];exact (Nat.mul_one _).symm) hcap (by simp only [List.length_singleton];omega) (fun v' c' hc'=>?_)) |refine u1 ?_ |fail)
    refine ⟨(c+1,v',c'),⟨hlt,by dsimp only;rw [hsn,List.length_append];exact hc'⟩,(by dsimp only;omega),?_⟩
    show ai _ ⟨aP [(3,.pt (bh s nn rs fl) 0),(6,tF f (bb)),(12,BB f),(13,ah (K:Nat)),(14,.bF 3 v' 0 (aW q 0 (c+1)).length c'),(53,.ptr 2 0 0),(60,ah m),(61,ah ((c+1):Nat))],[mB E,mC,.iter 0 E.length ((seen++[i])) E.length,.cells ((aW q 0 (c+1)).map ah) 1 v'],bq.none,false,0⟩
    have hin:=qk E (seen++[i]) (aW q 0 (c+1)) v'
    rw [hsn] at hin ⊢
    rw [List.map_append] at hin ⊢
    exact ai.to 4 rfl ⟨rfl,rfl,rfl,rfl,(by rw [List.length_append];rfl),rfl,rfl,cG (by simp),trivial⟩ (Nat.zero_le _) (by simp only [List.all_cons,List.all_nil,mE];rfl) hin
  ·have hc:c=n:=by omega
   subst hc
   have d1:decide ((c:Int) < m)=false:=decide_eq_false (by omega)
   refine aa (mu:=fun _=>false) ?_
   repeat' (first |refine u1 ?_ |fail)
   refine av.aY (ai.giveUp 3 (l:=[(3,.pt (bh s nn rs fl) 0),(6,tF f (bb)),(12,BB f),(53,.ptr 2 0 0),(14,.sl ((aW q 0 c).map eI) false)]) (hp:=[mB E,mC,.iter 0 E.length ((seen++[i])) E.length,.gone]) rfl (Nat.zero_le _) (yp _) ⟨.same rfl,.same (Ar _ _ _),.same rfl,.same rfl,.row 1 (by simp) (by simp) (fun el hel=>by obtain ⟨x,_,rfl⟩:=List.mem_map.1 hel;rfl) (by rw [m9,List.drop_zero,List.take_of_length_le (by simp)]) (fun h=>Bool.noConfusion h),trivial⟩ (CK _ _ _ _) rfl) ?_
   generalize aW q 0 c=B at *
   have hcmp:=u9 false B bb false false (by omega) (by omega)
   have hcl:=Ac false ((B.map eI).length:Int) ((bb.map eI).length:Int)
   have hor:=Fs false (eJ ((B.map eI).length:Int) ((bb.map eI).length:Int)) (fV B bb)
   have eB:((B.map eI).length:Int)=B.length:=by simp
   have hend:∀ (f':Bool) (b':List Int) (st:bM),gW c E (seen++[i],f',b')→ai st ⟨aP [(3,.pt (bh s nn rs fl) 0),(6,tF f' (b')),(12,BB f'),(53,.ptr 2 0 0)],[mB E,mC,.iter 0 E.length ((seen++[i])) E.length],bq.none,false,0⟩→∃ y:List Nat × Bool × List Int,gW c E y∧kY E.length y.1 < kY E.length seen∧ai st ⟨aP [(3,.pt (bh s nn rs fl) 0),(6,tF y.2.1 (y.2.2)),(12,BB y.2.1),(53,.ptr 2 0 0)],[mB E,mC,.iter 0 E.length (y.1) E.length],bq.none,false,0⟩:=fun f' b' st h1 h2=>⟨(seen++[i],f',b'),h1,hless,h2⟩
   refine aa (mu:=fun _=>false) ?_
   cases f with
   | false =>
    repeat' (first |refine u1 ?_ |fail)
    exact hend true B _ (by rw [←hkl];exact hso.taken hx (fun h=>(by cases h))) (ai.to 3 rfl ⟨rfl,rfl,rfl,rfl,trivial⟩ (Nat.zero_le _) rfl (lY _ _))
   | true =>
    have hbef:(if eJ ((B.map eI).length:Int) ((bb.map eI).length:Int) ≠ 0 then eJ ((B.map eI).length:Int) ((bb.map eI).length:Int) else fV B bb) < 0 ↔ fW B bb:=by
     rw [eB,eb]
     exact Aq B bb
    generalize (if eJ ((B.map eI).length:Int) ((bb.map eI).length:Int) ≠ 0 then eJ ((B.map eI).length:Int) ((bb.map eI).length:Int) else fV B bb)=Z at *
    by_cases h2:Z < 0
    ·have d3:=decide_eq_true h2
     repeat' (first |refine u1 ?_ |fail)
     exact hend true B _ (by rw [←hkl];exact hso.taken hx (fun _=>(by dsimp only;rw [hkl];exact hbef.1 h2))) (ai.to 3 rfl ⟨rfl,rfl,rfl,rfl,trivial⟩ (Nat.zero_le _) rfl (lY _ _))
    ·have d3:=decide_eq_false h2
     repeat' (first |refine u1 ?_ |fail)
     exact hend true bb _ (hso.kept hx (by dsimp only;rw [hkl];exact fun h=>h2 (hbef.2 h))) (ai.to 3 rfl ⟨rfl,rfl,rfl,rfl,trivial⟩ (Nat.zero_le _) rfl (lY _ _))
 ·repeat' (first |refine u1 ?_ |fail)
  refine aa (mu:=fun _=>false) ?_
  repeat' (first |refine u1 ?_ |fail)
  refine aa (mu:=fun _=>false) ?_
  repeat' (first |refine u1 ?_ |fail)
  have hin:∀ i x,E[i]?=some x→i ∈ seen:=fun i x hx=>by
   have:=hall _ (List.mem_of_getElem? (lT 0 E i x hx))
   rwa [Nat.zero_add] at this
  obtain ⟨z,hz,hzb⟩:=hex
  obtain ⟨iz,hiz⟩:=List.getElem?_of_mem hz
  cases f with
  | false =>
   have h1:=hin iz z hiz
   have h2:=(hso.1 rfl).1
   dsimp only at h2
   rw [h2] at h1
   cases h1
  | true =>
   obtain ⟨y,hy,hyb⟩:=(hso.2 rfl).1
   have h3:=(hso.2 rfl).2 iz (hin iz z hiz) z hiz
   have h4:=hmin y hy
   dsimp only at hyb h3
   rw [hyb] at h4
   rw [hzb] at h3
   rw [←Aa h4 h3]
   exact ⟨[_],⟨Fz.deep rfl,trivial⟩,rfl⟩
theorem uu {s:au} {nn:aE} {rs:List aA} {fl:Bool} {E:lS} {best:List Int} (h8:rs.length≤8) (hkey:∀ x ∈ E,∃ k:Nat,k < 256∧x.1=k) (hex:∃ x ∈ E,lW rs.length x.1=best) (hmin:∀ x ∈ E,¬ fW (lW rs.length x.1) best) :
  av TT TB false DL ⟨aP [(3,.pt (bh s nn rs fl) 0),(6,.fl (.slice none 0 0)),(7,.ptr 1 0 0)],[mB E,mC],bq.none,false,0⟩ (En TT Tryz.f102.results.toList (.sl (best.map eI) false)):=by
 obtain ⟨n,hn⟩:∃ n,n=rs.length:=⟨_,rfl⟩
 obtain ⟨m,hm⟩:∃ m:Int,m=rs.length:=⟨_,rfl⟩
 have er:((rs.map az).length:Int)=m:=by rw [hm];simp
 rw [←hn] at h8 hex hmin
 refine RM.dA (mu:=fun _=>false) ?_
 repeat' (first |refine u1 ?_ |fail)
 refine av.seq ?_
 refine RM.dA (mu:=fun _=>false) ?_
 repeat' (first |refine u1 ?_ |refine ⟨_,_,rfl,?_⟩ |fail)
 refine av.block ?_
 refine av.aY (ai.to (l:=[(3,.pt (bh s nn rs fl) 0),(6,tF false (([]:List Int))),(12,BB false),(53,.ptr 2 0 0)]) (hp:=[mB E,mC,.iter 0 E.length (([]:List Nat)) E.length]) 3 rfl ⟨rfl,rfl,rfl,rfl,trivial⟩ (Nat.zero_le _) rfl (lY E [])) ?_
 refine av.loop (fun x:List Nat × Bool × List Int=>gW n E x) (fun x=>⟨aP [(3,.pt (bh s nn rs fl) 0),(6,tF x.2.1 (x.2.2)),(12,BB x.2.1),(53,.ptr 2 0 0)],[mB E,mC,.iter 0 E.length (x.1) E.length],bq.none,false,0⟩) (fun x=>kY E.length x.1) ?_ ([],false,[]) ⟨fun _=>⟨rfl,rfl⟩,fun h=>(by cases h)⟩
 rintro ⟨seen,f,bb⟩ hso
 have hbb:bb.length≤8:=by
  cases f with
  | false =>
   have:=(hso.1 rfl).2
   dsimp only at this
   rw [this]
   exact Nat.zero_le _
  | true =>
   obtain ⟨y,_,hy⟩:=(hso.2 rfl).1
   dsimp only at hy
   rw [←hy]
   exact Nat.le_trans (fA _ _ _) h8
 have eb:((bb.map eI).length:Int)=bb.length:=by simp
 refine RM.dA (mu:=fun _=>false) ?_
 repeat' (first |refine u1 ?_ |refine u2 ?_ |fail)
 refine ⟨0,E.length,seen,E.length,dm 0 E,E.length,rfl,rfl,fun e he=>?_,fun e he hns=>?_,fun hall=>?_⟩
 ·obtain ⟨i,x,hx,rfl⟩:=lX he
  have:=(List.getElem?_eq_some_iff.1 hx).1
  dsimp only
  omega
 ·obtain ⟨i,x,hx,rfl⟩:=lX he
  rw [Nat.zero_add] at hns ⊢
  have hi:=(List.getElem?_eq_some_iff.1 hx).1
  have hless:=qE hi hns
  obtain ⟨K,hK,hxK⟩:=hkey x (List.mem_of_getElem? hx)
  obtain ⟨key,cnt⟩:=x
  dsimp only at hxK
  subst hxK
  have hkl:lW n (K:Nat)=aW (fun i=>K.testBit i) 0 n:=by unfold lW;rw [Int.toNat_natCast]
  generalize hq:(fun i=>K.testBit i)=q at hkl
  have hqb:∀ c,q c=decide (K / 2 ^ c % 2=1):=fun c=>by rw [←hq];exact Nat.testBit_eq_decide_div_mod_eq
  repeat' (first |refine u1 ?_ |fail)
  refine RM.dA (mu:=fun _=>false) ?_
  repeat' (first |refine u1 ?_ |fail)
  refine av.block ?_
  refine RM.dA (mu:=fun _=>false) ?_
  repeat' (first |refine CJ rfl rfl rfl hx ?_ |refine u1 ?_ |fail)
  refine RM.dA (mu:=fun _=>false) ?_
  repeat' (first |refine u1 ?_ |fail)
  refine av.seq ?_
  refine RM.dA (mu:=fun _=>false) ?_
  repeat' (first |refine u1 ?_ |fail)
  refine av.block ?_
  refine av.aY (ai.trans (ai.zl 1) (ai.FL (l:=[(3,.pt (bh s nn rs fl) 0),(6,tF f (bb)),(12,BB f),(13,ah (K:Nat)),(14,.bF 3 0 0 (aW q 0 0).length 0),(53,.ptr 2 0 0),(60,ah m),(61,ah (0:Nat))]) (hp:=[mB E,mC,.iter 0 E.length ((seen++[i])) E.length,.cells ((aW q 0 0).map ah) 1 0]) 4 rfl ⟨dW.refl _,dW.refl _,dW.refl _,dW.refl _,dW.zk,dW.refl _,dW.of (congrArg ah er),dW.refl _,trivial⟩ (Nat.zero_le _) (by simp only [List.all_cons,List.all_nil,mE];rfl) (qk _ _ _ _))) ?_
  refine av.loop (fun y:Nat × Nat × Nat=>y.1≤n∧(y.2.2=(aW q 0 y.1).length∨y.2.2=(aW q 0 y.1).length+1)) (fun y=>⟨aP [(3,.pt (bh s nn rs fl) 0),(6,tF f (bb)),(12,BB f),(13,ah (K:Nat)),(14,.bF 3 y.2.1 0 (aW q 0 y.1).length y.2.2),(53,.ptr 2 0 0),(60,ah m),(61,ah (y.1:Nat))],[mB E,mC,.iter 0 E.length ((seen++[i])) E.length,.cells ((aW q 0 y.1).map ah) 1 y.2.1],bq.none,false,0⟩) (fun y=>n - y.1) ?_ (0,0,0) ⟨Nat.zero_le _,.inl rfl⟩
  rintro ⟨c,v,cp⟩ ⟨hc8,hcap⟩
  dsimp only at hc8 hcap
  show av _ _ _ _ ⟨aP [(3,.pt (bh s nn rs fl) 0),(6,tF f (bb)),(12,BB f),(13,ah (K:Nat)),(14,.bF 3 v 0 (aW q 0 c).length cp),(53,.ptr 2 0 0),(60,ah m),(61,ah (c:Nat))],[mB E,mC,.iter 0 E.length ((seen++[i])) E.length,.cells ((aW q 0 c).map ah) 1 v],bq.none,false,0⟩ _
  have hll:=fA q 0 c
  have hml:((aW q 0 c).map ah).length=(aW q 0 c).length:=List.length_map _
  by_cases hlt:c < n
  ·have d1:decide ((c:Int) < m)=true:=decide_eq_true (by omega)
   have hdv:K / 2 ^ c < 4611686018427387904:=Nat.lt_of_le_of_lt (Nat.div_le_self _ _) (by omega)
   refine aa (mu:=fun t=>Nat.beq t 72) ?_
   cases hqc:q c with
   | false =>
    have hsn:=sZ hqc
    have d2:decide (((K / 2 ^ c % 2:Nat):Int)=1)=false:=decide_eq_false (fun e=>by have:=hqb c;rw [hqc] at this;have:=of_decide_eq_false this.symm;omega)
    repeat' (first |((with_reducible show cI _ _ _ _ _ _ _ _ _);first|refine RM.wh rfl rfl (by omega) ?_|refine RM.z8 rfl rfl hdv ?_) |refine u1 ?_ |fail)
    refine ⟨(c+1,v,cp),⟨hlt,by dsimp only;rw [hsn];exact hcap⟩,(by dsimp only;omega),?_⟩
    show ai _ ⟨aP [(3,.pt (bh s nn rs fl) 0),(6,tF f (bb)),(12,BB f),(13,ah (K:Nat)),(14,.bF 3 v 0 (aW q 0 (c+1)).length cp),(53,.ptr 2 0 0),(60,ah m),(61,ah ((c+1):Nat))],[mB E,mC,.iter 0 E.length ((seen++[i])) E.length,.cells ((aW q 0 (c+1)).map ah) 1 v],bq.none,false,0⟩
    rw [hsn]
    exact ai.to 4 rfl ⟨rfl,rfl,rfl,rfl,rfl,rfl,rfl,cG (by simp),trivial⟩ (Nat.zero_le _) (by simp only [List.all_cons,List.all_nil,mE];rfl) (qk _ _ _ _)
   | true =>
    have hsn:=sY hqc
    have d2:decide (((K / 2 ^ c % 2:Nat):Int)=1)=true:=decide_eq_true (by have:=hqb c;rw [hqc] at this;have:=of_decide_eq_true this.symm;omega)
    repeat' (first |((with_reducible show cI _ _ _ _ _ _ _ _ _);first|refine RM.wh rfl rfl (by omega) ?_|refine RM.z8 rfl rfl hdv ?_) |((with_reducible show RM.wpOp _ _ (.call _) _ _ _);refine RM.Dv (cs:=(aW q 0 c).map ah) (n:=(aW q 0 c).length) (els:=[eI (c:Int)]) rfl rfl rfl rfl rfl (fun el hel=>by rw [List.mem_singleton.1 hel];rfl) rfl rfl (by rw [hml];exact (Nat.mul_one _).symm) hcap (by simp only [List.length_singleton];omega) (fun v' c' hc'=>?_)) |refine u1 ?_ |fail)
    refine ⟨(c+1,v',c'),⟨hlt,by dsimp only;rw [hsn,List.length_append];exact hc'⟩,(by dsimp only;omega),?_⟩
    show ai _ ⟨aP [(3,.pt (bh s nn rs fl) 0),(6,tF f (bb)),(12,BB f),(13,ah (K:Nat)),(14,.bF 3 v' 0 (aW q 0 (c+1)).length c'),(53,.ptr 2 0 0),(60,ah m),(61,ah ((c+1):Nat))],[mB E,mC,.iter 0 E.length ((seen++[i])) E.length,.cells ((aW q 0 (c+1)).map ah) 1 v'],bq.none,false,0⟩
    have hin:=qk E (seen++[i]) (aW q 0 (c+1)) v'
    rw [hsn] at hin ⊢
    rw [List.map_append] at hin ⊢
    exact ai.to 4 rfl ⟨rfl,rfl,rfl,rfl,(by rw [List.length_append];rfl),rfl,rfl,cG (by simp),trivial⟩ (Nat.zero_le _) (by simp only [List.all_cons,List.all_nil,mE];rfl) hin
  ·have hc:c=n:=by omega
   subst hc
   have d1:decide ((c:Int) < m)=false:=decide_eq_false (by omega)
   refine aa (mu:=fun _=>false) ?_
   repeat' (first |refine u1 ?_ |fail)
   refine av.aY (ai.giveUp 3 (l:=[(3,.pt (bh s nn rs fl) 0),(6,tF f (bb)),(12,BB f),(53,.ptr 2 0 0),(14,.sl ((aW q 0 c).map eI) false)]) (hp:=[mB E,mC,.iter 0 E.length ((seen++[i])) E.length,.gone]) rfl (Nat.zero_le _) (yp _) ⟨.same rfl,.same (Ar _ _ _),.same rfl,.same rfl,.row 1 (by simp) (by simp) (fun el hel=>by obtain ⟨x,_,rfl⟩:=List.mem_map.1 hel;rfl) (by rw [m9,List.drop_zero,List.take_of_length_le (by simp)]) (fun h=>Bool.noConfusion h),trivial⟩ (CK _ _ _ _) rfl) ?_
   generalize aW q 0 c=B at *
   have hcmp:=u9 false B bb false false (by omega) (by omega)
   have hcl:=Ac false ((B.map eI).length:Int) ((bb.map eI).length:Int)
   have hor:=Fs false (eJ ((B.map eI).length:Int) ((bb.map eI).length:Int)) (fV B bb)
   have eB:((B.map eI).length:Int)=B.length:=by simp
   have hend:∀ (f':Bool) (b':List Int) (st:bM),gW c E (seen++[i],f',b')→ai st ⟨aP [(3,.pt (bh s nn rs fl) 0),(6,tF f' (b')),(12,BB f'),(53,.ptr 2 0 0)],[mB E,mC,.iter 0 E.length ((seen++[i])) E.length],bq.none,false,0⟩→∃ y:List Nat × Bool × List Int,gW c E y∧kY E.length y.1 < kY E.length seen∧ai st ⟨aP [(3,.pt (bh s nn rs fl) 0),(6,tF y.2.1 (y.2.2)),(12,BB y.2.1),(53,.ptr 2 0 0)],[mB E,mC,.iter 0 E.length (y.1) E.length],bq.none,false,0⟩:=fun f' b' st h1 h2=>⟨(seen++[i],f',b'),h1,hless,h2⟩
   refine aa (mu:=fun _=>false) ?_
   cases f with
   | false =>
    repeat' (first |refine u1 ?_ |fail)
    exact hend true B _ (by rw [←hkl];exact hso.taken hx (fun h=>(by cases h))) (ai.to 3 rfl ⟨rfl,rfl,rfl,rfl,trivial⟩ (Nat.zero_le _) rfl (lY _ _))
   | true =>
    have hbef:(if eJ ((B.map eI).length:Int) ((bb.map eI).length:Int) ≠ 0 then eJ ((B.map eI).length:Int) ((bb.map eI).length:Int) else fV B bb) < 0 ↔ fW B bb:=by
     rw [eB,eb]
     exact Aq B bb
    generalize (if eJ ((B.map eI).length:Int) ((bb.map eI).length:Int) ≠ 0 then eJ ((B.map eI).length:Int) ((bb.map eI).length:Int) else fV B bb)=Z at *
    by_cases h2:Z < 0
    ·have d3:=decide_eq_true h2
     repeat' (first |refine u1 ?_ |fail)
     exact hend true B _ (by rw [←hkl];exact hso.taken hx (fun _=>(by dsimp only;rw [hkl];exact hbef.1 h2))) (ai.to 3 rfl ⟨rfl,rfl,rfl,rfl,trivial⟩ (Nat.zero_le _) rfl (lY _ _))
    ·have d3:=decide_eq_false h2
     repeat' (first |refine u1 ?_ |fail)
     exact hend true bb _ (hso.kept hx (by dsimp only;rw [hkl];exact fun h=>h2 (hbef.2 h))) (ai.to 3 rfl ⟨rfl,rfl,rfl,rfl,trivial⟩ (Nat.zero_le _) rfl (lY _ _))
 ·repeat' (first |refine u1 ?_ |fail)
  refine aa (mu:=fun _=>false) ?_
  repeat' (first |refine u1 ?_ |fail)
  refine aa (mu:=fun _=>false) ?_
  repeat' (first |refine u1 ?_ |fail)
  have hin:∀ i x,E[i]?=some x→i ∈ seen:=fun i x hx=>by
   have:=hall _ (List.mem_of_getElem? (lT 0 E i x hx))
   rwa [Nat.zero_add] at this
  obtain ⟨z,hz,hzb⟩:=hex
  obtain ⟨iz,hiz⟩:=List.getElem?_of_mem hz
  cases f with
  | false =>
   have h1:=hin iz z hiz
   have h2:=(hso.1 rfl).1
   dsimp only at h2
   rw [h2] at h1
   cases h1
  | true =>
   obtain ⟨y,hy,hyb⟩:=(hso.2 rfl).1
   have h3:=(hso.2 rfl).2 iz (hin iz z hiz) z hiz
   have h4:=hmin y hy
   dsimp only at hyb h3
   rw [hyb] at h4
   rw [hzb] at h3
   rw [←Aa h4 h3]
   exact ⟨[_],⟨Fz.deep rfl,trivial⟩,rfl⟩
end Go.Proofs.YtichbhmnhkegiaaGreat
open Go Go.RM Go.AirLaw
namespace Go.Proofs.YtichbhmnhkegiaaGreat
set_option maxRecDepth 100000
set_option maxHeartbeats 4000000
end Go.Proofs.YtichbhmnhkegiaaGreat
open Go Go.RM Go.AirLaw
namespace Go.Proofs.YtichbhmnhkegiaaGreat
set_option maxRecDepth 100000
set_option maxHeartbeats 4000000
end Go.Proofs.YtichbhmnhkegiaaGreat
open Go Go.RM Go.AirLaw
namespace Go.Proofs.YtichbhmnhkegiaaGreat
set_option maxRecDepth 100000
set_option maxHeartbeats 4000000
end Go.Proofs.YtichbhmnhkegiaaGreat
open Go Go.RM Go.AirLaw
namespace Go.Proofs.YtichbhmnhkegiaaGreat
set_option maxRecDepth 100000
set_option maxHeartbeats 4000000
end Go.Proofs.YtichbhmnhkegiaaGreat
open Go Go.RM Go.AirLaw
namespace Go.Proofs.YtichbhmnhkegiaaGreat
set_option maxRecDepth 100000
set_option maxHeartbeats 4000000
theorem vb {α:Type} {L:List α} {q:Nat} {x:α} (h:L[q]?=some x):L.take (q+1)=L.take q++[x]:=by
 rw [List.take_add_one,h];rfl
end Go.Proofs.YtichbhmnhkegiaaGreat
