/-
  Contracts of the program's functions and of the document's. Lemmas alone; their conditions stand in them.
-/
import Derived.Test.YtpeogffeoehboaaDoorK9
import Derived.Test.YtpeogffeoehboaaDoorK10
import Derived.Test.YtpeogffeoehboaaDoorK11
open Go Go.RM
namespace Go.Proofs.YtpeogffeoehboaaDoor
set_option maxRecDepth 100000
set_option maxHeartbeats 4000000
def cu (R most:Int) (raw:Nat):Nat→List Int × Int
 | 0=>([],0)
 | k+1=>if raw.testBit k=true∧((cu R most raw k).1.length:Int) < most∧(cu R most raw k).2 < R then ((cu R most raw k).1++[((k:Nat):Int)],(cu R most raw k).2+1) else ((cu R most raw k).1,0)
def cI (R most:Int) (raw k:Nat):List Int:=(cu R most raw k).1
theorem Eb {R most:Int} {raw:Nat}:∀ k:Nat,(cu R most raw k).1.length≤k∧0≤(cu R most raw k).2∧(cu R most raw k).2≤k
 | 0=>⟨Nat.le_refl _,Int.le_refl _,Int.le_refl _⟩
 | k+1=>by
  have ih:=Eb (R:=R) (most:=most) (raw:=raw) k
  unfold cu
  split
  ·refine ⟨?_,?_,?_⟩
   ·dsimp only;rw [List.length_append];have:=ih.1;simp only [List.length_singleton];omega
   ·dsimp only;omega
   ·dsimp only;omega
  ·exact ⟨by dsimp only;omega,Int.le_refl _,by dsimp only;omega⟩
theorem C4 (one:Bool) (s:ak) (orders:Nat) (ho:orders≤8) (most:Int) (raw:Nat) :
  Pu one 35 [.ag (ay s),aA (orders:Nat),aA most,U8 raw] (.sl (ints (cI s.row most raw orders)) false):=by
 refine af.body (fn:=Tryd.f35) rfl rfl rfl rfl ?_
 refine aa (mu:=fun t=>Nat.beq t 37) ?_
 repeat' (first |refine u1 ?_ |refine u2 ?_ |fail)
 refine aB.aL (au.trans (au.u7 1) (au.OT (l:=[(1,aA (orders:Nat)),(2,aA most),(3,U8 raw),(4,.pt (ay s) 0),(9,.dc 0 0 0 ([]:List Int).length 0),(10,aA 0),(11,aA (0:Nat))]) (hp:=[.cells (fT ([]:List Int)) 1 0]) 1 rfl ⟨cH.refl _,cH.refl _,cH.refl _,cH.refl _,cH.u6,cH.refl _,cH.refl _,trivial⟩ (Nat.zero_le _) rfl (gX _ _))) ?_
 refine aB.loop (fun x:Nat × Nat × Nat=>x.1≤orders∧(x.2.2=(cI s.row most raw x.1).length∨x.2.2=(cI s.row most raw x.1).length+1)) (fun x=>⟨aU [(1,aA (orders:Nat)),(2,aA most),(3,U8 raw),(4,.pt (ay s) 0),(9,.dc 0 x.2.1 0 (cI s.row most raw x.1).length x.2.2),(10,aA (cu s.row most raw x.1).2),(11,aA (x.1:Nat))],[.cells (fT (cI s.row most raw x.1)) 1 x.2.1],bP.none,false,0⟩) (fun x=>orders - x.1) ?_ (0,0,0) ⟨Nat.zero_le _,.inl rfl⟩
 rintro ⟨k,aC,c⟩ ⟨hk,hcap⟩
 dsimp only at hk hcap
 have hb:=Eb (R:=s.row) (most:=most) (raw:=raw) k
 have hs1:cu s.row most raw (k+1)=if raw.testBit k=true∧((cu s.row most raw k).1.length:Int) < most∧(cu s.row most raw k).2 < s.row then ((cu s.row most raw k).1++[((k:Nat):Int)],(cu s.row most raw k).2+1) else ((cu s.row most raw k).1,0):=rfl
 unfold cI at hcap ⊢
 have hlst:k=orders→(cu s.row most raw k).1=(cu s.row most raw orders).1:=fun e=>by rw [e]
 generalize (cu s.row most raw orders).1=fI at *
 generalize hl:cu s.row most raw k=st at *
 obtain ⟨l,n⟩:=st
 dsimp only at hb hcap hs1 hlst
 have hgl:(fT l).length=l.length:=by rw [List.length_map]
 show aB _ _ _ _ ⟨aU [(1,aA (orders:Nat)),(2,aA most),(3,U8 raw),(4,.pt (ay s) 0),(9,.dc 0 aC 0 l.length c),(10,aA n),(11,aA (k:Nat))],[.cells (fT l) 1 aC],bP.none,false,0⟩ _
 refine aa (mu:=fun t=>Nat.beq t 37) ?_
 by_cases hlt:k < orders
 ·have d1:decide ((k:Int) < (orders:Nat))=true:=decide_eq_true (by omega)
  have hk8:k < 8:=by omega
  have hbit:raw / 2 ^ k % 2=if raw.testBit k=true then 1 else 0:=by
   rw [Nat.testBit_eq_decide_div_mod_eq]
   have:=Nat.mod_two_eq_zero_or_one (raw / 2 ^ k)
   rcases this with e|e <;> rw [e] <;> simp
  cases hbt:raw.testBit k with
  | false =>
   rw [hbt,if_neg (by simp)] at hbit
   rw [hbt,if_neg (by simp)] at hs1
   have d2:decide (((raw / 2 ^ k % 2:Nat):Int)=1)=false:=decide_eq_false (by rw [hbit];decide)
   repeat' (first |(refine Bk rfl rfl hk8 ?_) |(refine Bl rfl rfl ?_) |(refine Ki rfl rfl ?_) |refine u1 ?_ |refine u2 ?_ |fail)
   exact ⟨(k+1,aC,c),⟨hlt,by dsimp only;rw [hs1];exact hcap⟩,(by dsimp only;omega),au.to 1 (by dsimp only;rw [hs1];rfl) ⟨rfl,rfl,rfl,rfl,(by rw [hs1];rfl),(by rw [hs1];rfl),bu (by simp),trivial⟩ (Nat.zero_le _) rfl (gX _ _)⟩
  | true =>
   rw [hbt,if_pos rfl] at hbit
   rw [hbt] at hs1
   have d2:decide (((raw / 2 ^ k % 2:Nat):Int)=1)=true:=decide_eq_true (by rw [hbit];decide)
   by_cases hm:(l.length:Int) < most
   ·have d3:=decide_eq_true hm
    by_cases hr:n < s.row
    ·have d4:=decide_eq_true hr
     rw [if_pos ⟨rfl,hm,hr⟩] at hs1
     repeat' (first |(refine Bk rfl rfl hk8 ?_) |(refine Bl rfl rfl ?_) |(refine Ki rfl rfl ?_) |((with_reducible show RM.wpOp _ _ (.call _) _ _ _);refine RM.u9 (cs:=fT l) (n:=l.length) (els:=[eI (k:Nat)]) rfl rfl rfl rfl rfl (fun el hel=>by rw [List.mem_singleton.1 hel];rfl) rfl rfl (by rw [hgl];exact (Nat.mul_one _).symm) hcap (by simp only [List.length_singleton];omega) (fun v' c' hc'=>?_)) |refine u1 ?_ |refine u2 ?_ |fail)
     exact ⟨(k+1,v',c'),⟨hlt,by dsimp only;rw [hs1];dsimp only;rw [List.length_append];exact hc'⟩,(by dsimp only;omega),au.to 1 (by dsimp only;rw [hs1];unfold fT;rw [List.map_append];rfl) ⟨rfl,rfl,rfl,rfl,(by rw [hs1];dsimp only;rw [List.length_append];rfl),(by rw [hs1];rfl),bu (by simp),trivial⟩ (Nat.zero_le _) rfl (gX _ _)⟩
    ·have d4:=decide_eq_false hr
     rw [if_neg (fun h=>hr h.2.2)] at hs1
     repeat' (first |(refine Bk rfl rfl hk8 ?_) |(refine Bl rfl rfl ?_) |(refine Ki rfl rfl ?_) |refine u1 ?_ |refine u2 ?_ |fail)
     exact ⟨(k+1,aC,c),⟨hlt,by dsimp only;rw [hs1];exact hcap⟩,(by dsimp only;omega),au.to 1 (by dsimp only;rw [hs1];rfl) ⟨rfl,rfl,rfl,rfl,(by rw [hs1];rfl),(by rw [hs1];rfl),bu (by simp),trivial⟩ (Nat.zero_le _) rfl (gX _ _)⟩
   ·have d3:=decide_eq_false hm
    rw [if_neg (fun h=>hm h.2.1)] at hs1
    repeat' (first |(refine Bk rfl rfl hk8 ?_) |(refine Bl rfl rfl ?_) |(refine Ki rfl rfl ?_) |refine u1 ?_ |refine u2 ?_ |fail)
    exact ⟨(k+1,aC,c),⟨hlt,by dsimp only;rw [hs1];exact hcap⟩,(by dsimp only;omega),au.to 1 (by dsimp only;rw [hs1];rfl) ⟨rfl,rfl,rfl,rfl,(by rw [hs1];rfl),(by rw [hs1];rfl),bu (by simp),trivial⟩ (Nat.zero_le _) rfl (gX _ _)⟩
 ·have d1:decide ((k:Int) < (orders:Nat))=false:=decide_eq_false (by omega)
  have he:=hlst (by omega)
  subst he
  repeat' (first |refine u1 ?_ |refine u2 ?_ |fail)
  exact ⟨[_],⟨Fz.row (es:=1) rfl (by rw [List.length_map];omega) (by rw [List.length_map]) (fun el hel=>by obtain ⟨x,_,rfl⟩:=List.mem_map.1 hel;rfl) (by rw [je,List.drop_zero,List.take_of_length_le (by rw [List.length_map];omega)]) (by rw [je];exact rA _) (fun h=>Bool.noConfusion h),trivial⟩,rfl⟩
def nk (s:ak) (p:List Order):Bool:=decide (sY s p=4)
theorem C5 {s:ak} {p:List Order}:∃ a b c,hJ s p=.tp [a,aA b,aA c,aA (sY s p)]∧a.deep=true∧(a=.fl (.slice none 0 0)∨∃ l,a=.sl (ints l) false):=by
 unfold hJ sY
 by_cases h:(aO s p).2=0
 ·rw [if_neg (by omega),if_neg (by omega)]
  cases gM s p (cV s p) with
  | none=>exact ⟨_,_,_,rfl,rfl,.inl rfl⟩
  | some b=>exact ⟨_,_,_,rfl,rfl,.inr ⟨_,rfl⟩⟩
 ·rw [if_pos h,if_pos h]
  exact ⟨_,_,_,rfl,rfl,.inl rfl⟩
theorem rF (one:Bool) (s:ak) (hs:s.Ok) (p:List Order) (full:Bool) (hp:vQ p):Pu one 37 [.ag (ay s),.sl (p.map ai) full] (BB (nk s p)):=by
 have o1:=vC one s hs p full hp
 obtain ⟨a,b,c,e,h1,h2⟩:=C5 (s:=s) (p:=p)
 rw [e] at o1
 refine af.body (fn:=Tryd.f37) rfl rfl rfl rfl ?_
 rcases h2 with rfl|⟨l,rfl⟩
 ·refine aa (mu:=fun _=>false) ?_
  repeat' (first |refine u1 ?_ |((with_reducible show aj _ _ _ _ _ _ _ _);refine af.call o1 rfl rfl ?_) |refine u2 ?_ |fail)
  exact ⟨[_],⟨Fz.deep rfl,trivial⟩,rfl⟩
 ·refine aa (mu:=fun _=>false) ?_
  repeat' (first |refine u1 ?_ |((with_reducible show aj _ _ _ _ _ _ _ _);refine af.call o1 rfl rfl ?_) |refine u2 ?_ |fail)
  exact ⟨[_],⟨Fz.deep rfl,trivial⟩,rfl⟩
end Go.Proofs.YtpeogffeoehboaaDoor
open Go Go.RM
namespace Go.Proofs.YtpeogffeoehboaaDoor
set_option maxRecDepth 100000
theorem vD (f k:Nat):rowAt f (k+1)=if f.testBit k=true then rowAt f k+1 else 0:=rfl
end Go.Proofs.YtpeogffeoehboaaDoor
open Go Go.RM
namespace Go.Proofs.YtpeogffeoehboaaDoor
set_option maxRecDepth 100000
def sk (R most:Int) (raw:Nat):Nat→List Bool
 | 0=>[]
 | k+1=>sk R most raw k++[decide (raw.testBit k=true∧((cu R most raw k).1.length:Int) < most∧(cu R most raw k).2 < R)]
theorem C6 (R most:Int) (raw k:Nat):sk R most raw (k+1)=sk R most raw k++[decide (raw.testBit k=true∧((cu R most raw k).1.length:Int) < most∧(cu R most raw k).2 < R)]:=rfl
theorem C7 (R most:Int) (raw k:Nat):cu R most raw (k+1)=if raw.testBit k=true∧((cu R most raw k).1.length:Int) < most∧(cu R most raw k).2 < R then ((cu R most raw k).1++[((k:Nat):Int)],(cu R most raw k).2+1) else ((cu R most raw k).1,0):=rfl
theorem zK {α:Type} {l:List α} {i:Nat} {d:α} (h:i < l.length):l.getD i d=l[i]:=by rw [List.getD_eq_getElem?_getD,List.getElem?_eq_getElem h];rfl
def trail:Nat→List Bool→Nat
 | r,[]=>r
 | _,false :: l=>trail 0 l
 | r,true :: l=>trail (r+1) l
theorem nr:∀ (l:List Bool) (b:Bool),TeLaw.cnt (l++[b])=TeLaw.cnt l+if b=true then 1 else 0
 | [],b=>by cases b <;> rfl
 | true :: l,b=>by
  rw [List.cons_append,TeLaw.cnt,nr l b,TeLaw.cnt]
  omega
 | false :: l,b=>by
  rw [List.cons_append,TeLaw.cnt,nr l b,TeLaw.cnt]
theorem jJ:∀ (l:List Bool) (r:Nat) (b:Bool),trail r (l++[b])=if b=true then trail r l+1 else 0
 | [],r,b=>by cases b <;> rfl
 | true :: l,r,b=>by rw [List.cons_append,trail,jJ l,trail]
 | false :: l,r,b=>by rw [List.cons_append,trail,jJ l,trail]
theorem l6 {R:Nat}:∀ (l:List Bool) (r:Nat) (b:Bool),TeLaw.ej R r (l++[b])=(TeLaw.ej R r l && (!b || decide (trail r l < R)))
 | [],r,true=>by
  show (decide (r < R) && true)=(true && (false || decide (r < R)))
  rw [Bool.and_true,Bool.true_and,Bool.false_or]
 | [],r,false=>rfl
 | true :: l,r,b=>by rw [List.cons_append,TeLaw.ej,l6 l,TeLaw.ej,trail,Bool.and_assoc]
 | false :: l,r,b=>by rw [List.cons_append,TeLaw.ej,l6 l,TeLaw.ej,trail]
theorem nt {R:Nat}:∀ (l:List Bool) (r:Nat),r≤R→TeLaw.ej R r l=true→trail r l≤R
 | [],r,hr,_=>hr
 | true :: l,r,hr,h=>by
  rw [TeLaw.ej,Bool.and_eq_true,decide_eq_true_eq] at h
  exact nt l (r+1) h.1 h.2
 | false :: l,r,hr,h=>nt l 0 (Nat.zero_le _) (by rw [TeLaw.ej] at h;exact h)
theorem C8 (l:List Int) (x:Int):cD (l++[x])=cD l ||| 2 ^ x.toNat:=by
 unfold cD
 rw [List.foldl_append]
 rfl
theorem ld {R most raw:Nat}:∀ k:Nat,(sk R most raw k).length=k∧TeLaw.cnt (sk R most raw k)=(cu R most raw k).1.length∧((trail 0 (sk R most raw k):Nat):Int)=(cu R most raw k).2 ∧
  TeLaw.ej R 0 (sk R most raw k)=true∧(cu R most raw k).1.length≤most∧cD (cu R most raw k).1=fJ 0 0 (sk R most raw k)∧(∀ x ∈ (cu R most raw k).1,0≤x∧x < (k:Nat))∧(cu R most raw k).1.Pairwise (· < ·)
 | 0=>⟨rfl,rfl,rfl,rfl,Nat.zero_le _,rfl,(fun x hx=>by cases hx),.nil⟩
 | k+1=>by
  obtain ⟨h1,h2,h3,h4,h5,h6,h7,h8⟩:=ld (R:=R) (most:=most) (raw:=raw) k
  rw [C6,C7]
  by_cases hc:raw.testBit k=true∧((cu R most raw k).1.length:Int) < most∧(cu R most raw k).2 < R
  ·rw [decide_eq_true hc,if_pos hc]
   refine ⟨by rw [List.length_append,h1];rfl,?_,?_,?_,?_,?_,?_,?_⟩
   ·rw [nr,h2,if_pos rfl,List.length_append];rfl
   ·rw [jJ,if_pos rfl];dsimp only;omega
   ·rw [l6,h4,decide_eq_true (by omega)];rfl
   ·rw [List.length_append];simp only [List.length_singleton];omega
   ·rw [k7,if_pos rfl,C8,h6,h1,Int.toNat_natCast,Nat.zero_add]
   ·intro x hx
    rcases List.mem_append.1 hx with hx|hx
    ·have:=h7 x hx;omega
    ·rw [List.mem_singleton.1 hx];omega
   ·rw [List.pairwise_append]
    refine ⟨h8,List.pairwise_singleton _ _,fun a ha b hb=>?_⟩
    rw [List.mem_singleton.1 hb]
    exact (h7 a ha).2
  ·rw [decide_eq_false hc,if_neg hc]
   refine ⟨by rw [List.length_append,h1];rfl,?_,?_,?_,h5,?_,?_,h8⟩
   ·rw [nr,h2];rfl
   ·rw [jJ];rfl
   ·rw [l6,h4];rfl
   ·rw [k7];exact h6
   ·intro x hx
    have:=h7 x hx;omega
theorem lf {s:ak} (hg:Good s) {k most y:Nat}:y ∈ mC s k 0 0 (most:Int) ↔ ∃ b:List Bool,b.length=k∧TeLaw.cnt b≤most∧TeLaw.ej s.row.toNat 0 b=true∧fJ 0 0 b=y:=by
 rw [zE hg,List.mem_map]
 constructor
 ·rintro ⟨b,hb,rfl⟩
  obtain ⟨h1,h2,h3⟩:=TeLaw.gj.1 hb
  exact ⟨b,h1,h2,h3,rfl⟩
 ·rintro ⟨b,h1,h2,h3,rfl⟩
  exact ⟨b,TeLaw.gj.2 ⟨h1,h2,h3⟩,rfl⟩
theorem BK {s:ak} (hg:Good s) (most raw k:Nat):cD (cI s.row most raw k) ∈ mC s k 0 0 (most:Int):=by
 have hr:=hg.row
 have e:s.row=((s.row.toNat:Nat):Int):=by omega
 obtain ⟨h1,h2,_,h4,h5,h6,_⟩:=ld (R:=s.row.toNat) (most:=most) (raw:=raw) k
 rw [←e] at *
 exact (lf hg).2 ⟨_,h1,by omega,h4,h6.symm⟩
theorem xX {l:List Int} {many:Nat} (h1:∀ x ∈ l,0≤x∧x < (many:Nat)) (h2:l.Pairwise (· < ·)):gC l many=0:=by
 unfold gC
 rw [ey]
 intro i hi
 have hb:=h1 l[i] (List.getElem_mem hi)
 unfold eN
 rw [zK hi,bh,hG.2 ⟨hb.1,by omega⟩,if_neg (by simp),if_neg]
 unfold qg
 by_cases h0:i=0
 ·rw [if_pos h0];omega
 ·rw [if_neg h0,zK (by omega)]
  have:=List.pairwise_iff_getElem.1 h2 (i - 1) i (by omega) hi (by omega)
  omega
theorem BL {s:ak} {p:List Order} (hv:(aO s p).2=0) (most raw:Nat):iE s p (cI s.row most raw p.length)=0:=by
 have hg:=(dM hv).good
 have hr:=hg.row
 have e:s.row=((s.row.toNat:Nat):Int):=by omega
 obtain ⟨_,_,_,_,_,_,h7,h8⟩:=ld (R:=s.row.toNat) (most:=most) (raw:=raw) p.length
 rw [←e] at *
 unfold iE
 rw [if_pos hv]
 exact xX h7 h8
theorem vE:((List.range 256).all fun f=>cD (bx f) == f)=true:=by kernel_rfl
theorem C9 {f:Nat} (h:f < 256):cD (bx f)=f:=by simpa using List.all_eq_true.1 vE f (List.mem_range.2 h)
theorem xY {f:Nat} {x:Int}:x ∈ bx f ↔ ∃ m:Nat,m < 8∧f.testBit m=true∧x=(m:Nat):=by
 unfold bx
 simp only [List.mem_map,List.mem_filter,List.mem_range]
 constructor
 ·rintro ⟨m,⟨h1,h2⟩,rfl⟩;exact ⟨m,h1,h2,rfl⟩
 ·rintro ⟨m,h1,h2,rfl⟩;exact ⟨m,⟨h1,h2⟩,rfl⟩
theorem xZ (f:Nat):(bx f).Pairwise (· < ·):=by
 unfold bx
 rw [List.pairwise_map]
 exact (List.Pairwise.filter _ List.pairwise_lt_range).imp fun h=>by omega
theorem BM {f k:Nat} (hf:f < 2 ^ k):∀ x ∈ bx f,0≤x∧x < (k:Nat):=by
 intro x hx
 obtain ⟨m,h1,h2,rfl⟩:=xY.1 hx
 refine ⟨by omega,?_⟩
 by_cases hk:k≤m
 ·rw [Nat.testBit_lt_two_pow (Nat.lt_of_lt_of_le hf (Nat.pow_le_pow_right (by decide) hk))] at h2
  cases h2
 ·omega
def vF (f k:Nat):List Int:=((List.range k).filter fun i=>f.testBit i).map fun i:Nat=>((i:Nat):Int)
theorem vG (f k:Nat):vF f (k+1)=vF f k++if f.testBit k=true then [((k:Nat):Int)] else []:=by
 unfold vF
 rw [List.range_succ,List.filter_append,List.map_append]
 cases h:f.testBit k <;> simp [h]
theorem vH {f k:Nat} (hf:f < 2 ^ k):∀ n,k≤n→vF f n=vF f k
 | 0,h=>by rw [Nat.le_zero.1 h]
 | n+1,h=>by
  by_cases hk:k=n+1
  ·rw [hk]
  ·rw [vG,vH hf n (by omega),Nat.testBit_lt_two_pow (Nat.lt_of_lt_of_le hf (Nat.pow_le_pow_right (by decide) (show k≤n by omega)))]
   simp
theorem qq (b:List Bool) (k:Nat):(fJ 0 0 b).testBit k=b.getD k false:=by
 rw [jF b 0 0 (by decide) k]
 simp
theorem rG (b:List Bool):∀ k,k≤b.length→(vF (fJ 0 0 b) k).length=TeLaw.cnt (b.take k)∧rowAt (fJ 0 0 b) k=((trail 0 (b.take k):Nat):Int)
 | 0,_=>⟨rfl,rfl⟩
 | k+1,h=>by
  obtain ⟨h1,h2⟩:=rG b k (by omega)
  have hg:b.getD k false=b[k]:=zK (by omega)
  rw [vG,vD,List.take_add_one,List.getElem?_eq_getElem (by omega),qq,hg,h2,List.length_append,h1]
  show TeLaw.cnt (b.take k)+(if b[k]=true then [((k:Nat):Int)] else []).length=TeLaw.cnt (b.take k++[b[k]])∧(if b[k]=true then ((trail 0 (b.take k):Nat):Int)+1 else 0)=((trail 0 (b.take k++[b[k]]):Nat):Int)
  rw [nr,jJ]
  cases b[k] <;> simp
theorem oP {R:Nat}:∀ (l:List Bool) (r k:Nat),TeLaw.ej R r l=true→TeLaw.ej R r (l.take k)=true
 | [],r,k,_=>by rw [List.take_nil];rfl
 | b :: l,r,0,_=>rfl
 | true :: l,r,k+1,h=>by
  rw [TeLaw.ej,Bool.and_eq_true] at h
  rw [List.take_succ_cons,TeLaw.ej,h.1,oP l _ k h.2]
  rfl
 | false :: l,r,k+1,h=>by
  rw [TeLaw.ej] at h
  rw [List.take_succ_cons,TeLaw.ej,oP l _ k h]
theorem EZ {s:ak} (hg:Good s) {k most y:Nat} (hk:k≤8) (h:y ∈ mC s k 0 0 (most:Int)):y < 2 ^ k∧(bx y).length≤most∧(∀ m,m≤k→rowAt y m≤s.row)∧gC (bx y) k=0:=by
 have hlt:=sW hg (Nat.zero_le _) (by decide) h
 obtain ⟨b,h1,h2,h3,rfl⟩:=(lf hg).1 h
 have hr:=hg.row
 refine ⟨hlt,?_,fun m hm=>?_,xX (BM hlt) (xZ _)⟩
 ·show (vF (fJ 0 0 b) 8).length≤most
  rw [vH hlt 8 hk,(rG b k (by omega)).1,←h1,List.take_length]
  exact h2
 ·rw [(rG b m (by omega)).2]
  have:=nt (R:=s.row.toNat) (b.take m) 0 (Nat.zero_le _) (oP b 0 m h3)
  omega
def kA (a b:Int × Int):Prop:=a.1 < b.1∨(a.1=b.1∧a.2≤b.2)
theorem kA.refl (a:Int × Int):kA a a:=.inr ⟨rfl,Int.le_refl _⟩
theorem kA.trans {a b c:Int × Int} (h:kA a b) (k:kA b c):kA a c:=by unfold kA at *;omega
def fK.key (b:fK):Int × Int:=(b.day,b.need)
theorem E6 {b x:fK} (h:ez b x=true):kA b.key x.key:=by
 unfold ez at h
 unfold kA fK.key
 dsimp only
 split at h
 ·have:=of_decide_eq_true h;omega
 ·split at h
  ·have:=of_decide_eq_true h;omega
  ·omega
theorem Da {b x:fK} (h:ez b x=false):kA x.key b.key:=by
 unfold ez at h
 unfold kA fK.key
 dsimp only
 split at h
 ·have:=of_decide_eq_false h;omega
 ·split at h
  ·have:=of_decide_eq_false h;omega
  ·omega
theorem l7 {s:ak} {p:List Order}:∀ (L:List Nat) (o:Option fK),(L.foldl (di s p) o=none→o=none∧∀ y ∈ L,iN s p y=none) ∧
  ∀ b,L.foldl (di s p) o=some b→(o=some b∨∃ y ∈ L,iN s p y=some b)∧(∀ x,o=some x→kA b.key x.key)∧∀ y ∈ L,∀ c,iN s p y=some c→kA b.key c.key
 | [],o=>⟨fun h=>⟨h,fun y hy=>by cases hy⟩,fun b h=>⟨.inl h,fun x hx=>by have h:o=some b:=h;rw [h] at hx;cases hx;exact kA.refl _,fun y hy=>by cases hy⟩⟩
 | y :: L,o=>by
  obtain ⟨h1,h2⟩:=l7 (s:=s) (p:=p) L (di s p o y)
  rw [List.foldl_cons]
  unfold di at h1 h2 ⊢
  cases hy:iN s p y with
  | none =>
   rw [hy] at h1 h2
   dsimp only at h1 h2 ⊢
   refine ⟨fun h=>⟨(h1 h).1,fun z hz=>?_⟩,fun b h=>?_⟩
   ·rcases List.mem_cons.1 hz with rfl|hz
    ·exact hy
    ·exact (h1 h).2 z hz
   ·obtain ⟨q1,q2,q3⟩:=h2 b h
    refine ⟨q1.imp id fun ⟨z,hz,e⟩=>⟨z,List.mem_cons_of_mem _ hz,e⟩,q2,fun z hz c hc=>?_⟩
    rcases List.mem_cons.1 hz with rfl|hz
    ·rw [hy] at hc;cases hc
    ·exact q3 z hz c hc
  | some d =>
   rw [hy] at h1 h2
   cases o with
   | none =>
    dsimp only at h1 h2 ⊢
    refine ⟨fun h=>((nomatch (h1 h).1)),fun b h=>?_⟩
    obtain ⟨q1,q2,q3⟩:=h2 b h
    refine ⟨.inr ?_,fun x hx=>(nomatch hx),fun z hz c hc=>?_⟩
    ·rcases q1 with q1|⟨z,hz,e⟩
     ·cases q1;exact ⟨y,List.mem_cons_self,hy⟩
     ·exact ⟨z,List.mem_cons_of_mem _ hz,e⟩
    ·rcases List.mem_cons.1 hz with rfl|hz
     ·rw [hy] at hc;cases hc;exact q2 _ rfl
     ·exact q3 z hz c hc
   | some x =>
    dsimp only at h1 h2 ⊢
    cases hl:ez d x with
    | true =>
     rw [hl,if_pos rfl] at h1 h2
     rw [if_pos rfl]
     refine ⟨fun h=>((nomatch (h1 h).1)),fun b h=>?_⟩
     obtain ⟨q1,q2,q3⟩:=h2 b h
     refine ⟨.inr ?_,fun z hz=>?_,fun z hz c hc=>?_⟩
     ·rcases q1 with q1|⟨z,hz,e⟩
      ·cases q1;exact ⟨y,List.mem_cons_self,hy⟩
      ·exact ⟨z,List.mem_cons_of_mem _ hz,e⟩
     ·cases hz;exact (q2 _ rfl).trans (E6 hl)
     ·rcases List.mem_cons.1 hz with rfl|hz
      ·rw [hy] at hc;cases hc;exact q2 _ rfl
      ·exact q3 z hz c hc
    | false =>
     rw [hl,if_neg (by simp)] at h1 h2
     rw [if_neg (by simp)]
     refine ⟨fun h=>((nomatch (h1 h).1)),fun b h=>?_⟩
     obtain ⟨q1,q2,q3⟩:=h2 b h
     refine ⟨q1.imp id fun ⟨z,hz,e⟩=>⟨z,List.mem_cons_of_mem _ hz,e⟩,fun z hz=>q2 z hz,fun z hz c hc=>?_⟩
     rcases List.mem_cons.1 hz with rfl|hz
     ·rw [hy] at hc;cases hc;exact (q2 _ rfl).trans (Da hl)
     ·exact q3 z hz c hc
theorem vI {s:ak} {p:List Order} {y:Nat}:iN s p y=none ↔ iF s p y=none:=by unfold iN;rw [Option.map_eq_none_iff]
theorem x6 {s:ak} {p:List Order} {L:List Nat}:gM s p L=none ↔ ∀ y ∈ L,iF s p y=none:=by
 constructor
 ·exact fun h y hy=>vI.1 (((l7 L none).1 h).2 y hy)
 ·intro h
  cases hb:gM s p L with
  | none=>rfl
  | some b =>
   rcases ((l7 L none).2 b hb).1 with e|⟨y,hy,e⟩
   ·cases e
   ·rw [vI.2 (h y hy)] at e;cases e
theorem BN {s:ak} {p:List Order} {most:Int}:dA s p 0 0 most=true ↔ gM s p (mC s p.length 0 0 most)=none:=by
 rw [x6]
 unfold dA
 rw [List.all_eq_true]
 exact ⟨fun h y hy=>Option.isNone_iff_eq_none.1 (h y hy),fun h y hy=>Option.isNone_iff_eq_none.2 (h y hy)⟩
end Go.Proofs.YtpeogffeoehboaaDoor
