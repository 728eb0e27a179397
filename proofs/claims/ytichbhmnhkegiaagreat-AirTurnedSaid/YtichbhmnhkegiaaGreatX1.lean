/-
  Contracts of the program's functions and of the document's. Lemmas alone; their conditions stand in them.
-/
import Derived.Test.YtichbhmnhkegiaaGreatK20
import Derived.Test.YtichbhmnhkegiaaGreatK18
import Derived.Test.YtichbhmnhkegiaaGreatK21
import Derived.Test.YtichbhmnhkegiaaGreatK14
import Derived.Test.YtichbhmnhkegiaaGreatK15
import Derived.Test.YtichbhmnhkegiaaGreatK22
import Derived.Test.YtichbhmnhkegiaaGreatK16
open Go Go.RM Go.AirLaw
namespace Go.Proofs.YtichbhmnhkegiaaGreat
set_option maxRecDepth 100000
set_option maxHeartbeats 4000000
theorem lquarter_c (one:Bool) (p:Pt) (hx:-1000000≤p.x∧p.x≤1000000):Pu one 60 [.ag (oG p)] (.ag (oG ⟨p.y,-p.x⟩)):=by
 have e:IntKind.i64.wrap (0 - p.x)=-p.x:=by rw [IntWalk.i64_in _ (by omega)];omega
 show Pu one 60 [.ag (oG p)] (.ag [ai p.y,ai (-p.x)])
 rw [←e]
 refine af.body (fn:=Tryz.f60) rfl rfl rfl rfl ?_
 refine aa (mu:=fun _=>false) ?_
 repeat' (first |refine u1 ?_ |refine u2 ?_ |fail)
 exact ⟨[_],⟨Fz.deep rfl,trivial⟩,rfl⟩
end Go.Proofs.YtichbhmnhkegiaaGreat
open Go Go.RM
namespace Go.Proofs.YtichbhmnhkegiaaGreat
set_option maxRecDepth 100000
set_option maxHeartbeats 4000000
theorem tv2u {l:List AV} (h:TV (.arr 2 C9) l):∃ a b,((0≤a∧a≤65535)∧0≤b∧b≤65535)∧l=[ob a,ob b]:=by
 obtain ⟨els,hl,he,rfl⟩:=Mc h
 match els,hl with
 | [x,y],_ =>
  obtain ⟨a,ha,rfl⟩:=sZ (he x (by simp))
  obtain ⟨b,hb,rfl⟩:=sZ (he y (by simp))
  exact ⟨a,b,⟨ha,hb⟩,rfl⟩
abbrev shLied:Sh:=.cons IZ (.cons (.int .u8) .nil)
theorem tvLied {l:List AV} (h:TV shLied l):∃ (x:iA) (n:Int),x.Ok∧(0≤n∧n≤255)∧l=nZ x false++[U8 n]:=by
 obtain ⟨_,_,h1,k1,rfl⟩:=xw h
 obtain ⟨_,_,h2,k2,rfl⟩:=xw k1
 obtain ⟨x,hx,rfl⟩:=LF h1
 obtain ⟨n,hn,rfl⟩:=Np h2
 obtain rfl:=KG k2
 exact ⟨x,n,hx,hn,rfl⟩
abbrev shFurther:Sh:=.cons oV (.cons (.arr 2 C9) .nil)
theorem tvFurther {l:List AV} (h:TV shFurther l):∃ (r:av) (a b:Int),((0≤a∧a≤65535)∧0≤b∧b≤65535)∧l=aj r++[ob a,ob b]:=by
 obtain ⟨_,_,h1,k1,rfl⟩:=xw h
 obtain ⟨_,_,h2,k2,rfl⟩:=xw k1
 obtain ⟨x,rfl⟩:=IG h1
 obtain ⟨a,b,hn,rfl⟩:=tv2u h2
 obtain rfl:=KG k2
 exact ⟨x,a,b,hn,rfl⟩
end Go.Proofs.YtichbhmnhkegiaaGreat
open Go Go.RM Go.AirLaw
namespace Go.Proofs.YtichbhmnhkegiaaGreat
set_option maxRecDepth 100000
set_option maxHeartbeats 4000000
theorem of_withB {p:Pt} (h:fN p 30000=true):(-30000≤p.x∧p.x≤30000)∧-30000≤p.y∧p.y≤30000:=by
 unfold fN at h
 rw [Bool.and_eq_true,fF,fF] at h
 exact h
end Go.Proofs.YtichbhmnhkegiaaGreat
open Go Go.RM Go.AirLaw
namespace Go.Proofs.YtichbhmnhkegiaaGreat
set_option maxRecDepth 100000
set_option maxHeartbeats 4000000
theorem truths_more (s:au) (n:aA) (rs:List av) (p:Pt) (aB yes:Bool):aJ s n (rs++[⟨p,aB,yes⟩]) aB=(aJ s n rs aB).filter fun x=>jn n p x aB == yes:=by
 unfold aJ
 rw [List.filter_filter]
 refine List.filter_congr fun x _=>?_
 rw [List.all_append,Bool.and_comm]
 congr 1
 unfold sQ
 simp
theorem night_more {s:au} {n:aA} {rs:List av} {p:Pt} {aB yes:Bool} (h0:(aD s n rs).2=0) (h8:rs.length < 8) (hp:fN p 30000=true):(aD s n (rs++[⟨p,aB,yes⟩])).2=0:=by
 rw [GD] at h0 ⊢
 refine ⟨h0.1,by simp;omega,fun r hr=>?_⟩
 rcases List.mem_append.1 hr with h|h
 ·exact h0.2.2 r h
 ·rw [List.mem_singleton.1 h];exact hp
theorem many_may {c l:Nat} (h:nY c l=1):c ≠ 0∧c ≠ l:=by
 unfold nY at h
 split at h
 ·cases h
 ·split at h
  ·cases h
  ·exact ⟨by assumption,by assumption⟩
theorem cnt_some {p:Int × Int→Bool} {L:List (Int × Int)} (h:k6 p L ≠ 0):∃ x ∈ L,p x=true:=by
 refine Classical.byContradiction fun hno=>h ?_
 unfold k6
 rw [List.length_eq_zero_iff,List.filter_eq_nil_iff]
 exact fun x hx hp=>hno ⟨x,hx,hp⟩
theorem cnt_not {p:Int × Int→Bool} {L:List (Int × Int)} (h:k6 p L ≠ L.length):∃ x ∈ L,p x=false:=by
 refine Classical.byContradiction fun hno=>h ?_
 unfold k6
 rw [List.length_filter_eq_length_iff]
 intro x hx
 cases hp:p x with
 | true=>rfl
 | false=>exact (hno ⟨x,hx,hp⟩).elim
theorem could_reach {s:au} {n:aA} {rs:List av} {p:Pt} {aB:Bool} (h0:(aD s n rs).2=0) (h8:rs.length < 8) (hp:fN p 30000=true) (hne:aJ s n rs aB ≠ []) :
  ∃ k,iy s n rs p aB=(k,0)∧(k=2∧qd s n (rs++[⟨p,aB,false⟩]) aB=9∧qd s n (rs++[⟨p,aB,true⟩]) aB=0 ∨
   k=0∧qd s n (rs++[⟨p,aB,false⟩]) aB=0∧qd s n (rs++[⟨p,aB,true⟩]) aB=9∨k=1∧qd s n (rs++[⟨p,aB,false⟩]) aB=0∧qd s n (rs++[⟨p,aB,true⟩]) aB=0):=by
 rw [za h0 hp,if_neg hne]
 refine ⟨_,rfl,?_⟩
 have e9:∀ yes,(∀ x ∈ aJ s n rs aB,jn n p x aB ≠ yes)→qd s n (rs++[⟨p,aB,yes⟩]) aB=9:=by
  intro yes h
  unfold qd
  rw [if_neg (by rw [night_more h0 h8 hp];simp),truths_more,if_pos]
  rw [List.filter_eq_nil_iff]
  exact fun x hx=>by rw [beq_iff_eq];exact h x hx
 have e0:∀ yes,(∃ x ∈ aJ s n rs aB,jn n p x aB=yes)→qd s n (rs++[⟨p,aB,yes⟩]) aB=0:=by
  rintro yes ⟨x,hx,h⟩
  rw [zn,truths_more]
  refine ⟨night_more h0 h8 hp,fun hn=>?_⟩
  rw [List.filter_eq_nil_iff] at hn
  exact hn x hx (by rw [beq_iff_eq];exact h)
 obtain ⟨x0,hx0⟩:=List.exists_mem_of_ne_nil _ hne
 rcases Km (k6 (fun x=>jn n p x aB) (aJ s n rs aB)) (aJ s n rs aB).length with h|h|h
 ·have ha:=Kn (GG h)
  exact .inl ⟨h,e9 false fun x hx=>by rw [ha x hx];decide,e0 true ⟨x0,hx0,ha x0 hx0⟩⟩
 ·have ha:=Ja (Dd h)
  exact .inr (.inl ⟨h,e0 false ⟨x0,hx0,ha x0 hx0⟩,e9 true fun x hx=>by rw [ha x hx];decide⟩)
 ·have ⟨h1,h2⟩:=many_may h
  exact .inr (.inr ⟨h,e0 false (cnt_not h2),e0 true (cnt_some h1)⟩)
end Go.Proofs.YtichbhmnhkegiaaGreat
open Go Go.RM Go.AirLaw
namespace Go.Proofs.YtichbhmnhkegiaaGreat
set_option maxRecDepth 100000
set_option maxHeartbeats 4000000
theorem bin_shr8 {P:Program} {t:TypeId} {x y:Operand} {m j:Nat} (hj:j < 8):fe P .shr t x y (.int .u8 (m:Int)) (.int .i64 (j:Int))=some (.int .u8 ((m / 2 ^ j:Nat):Int),.none):=by
 have h:fe P .shr t x y (.int .u8 (m:Int)) (.int .i64 (j:Int))=some (.int .u8 ((m:Int).fdiv (2 ^ j)),.none):=by
  match j,hj with
  | 0,_|1,_|2,_|3,_|4,_|5,_|6,_|7,_=>rfl
 rw [h,Int.fdiv_eq_ediv_of_nonneg _ (Int.pow_nonneg (by decide)),Int.natCast_ediv,Int.natCast_pow]
 rfl
theorem bin_rem8 {P:Program} {t:TypeId} {x y:Operand} {m:Nat}:fe P .rem t x y (.int .u8 (m:Int)) (.int .u8 2)=some (.int .u8 ((m % 2:Nat):Int),.none):=by
 have h:fe P .rem t x y (.int .u8 (m:Int)) (.int .u8 2)=some (.int .u8 ((m:Int).tmod 2),.none):=by
  show cK P .rem t x y (.int .u8 (m:Int)) (.int .u8 2)=_
  unfold cK
  simp only [flat,bl,Bool.and_self,cond_true]
  have:(do eqGuard BinOp.rem t x y (Value.int IntKind.u8 (m:Int)) (Value.int IntKind.u8 2);binOp BinOp.rem t (Value.int IntKind.u8 (m:Int)) (Value.int IntKind.u8 2):Sem Value)=pure (.int .u8 ((m:Int).tmod 2)):=by
   show Op.intDiv .rem .u8 m 2=_
   unfold Op.intDiv
   rw [if_neg (by decide)]
  rw [this]
  rfl
 rw [h,Int.tmod_eq_emod_of_nonneg (by omega)]
 rfl
theorem bin_eq8 {P:Program} {t:TypeId} {x y:Operand} {m n:Int}:fe P .eql t x y (.int .u8 m) (.int .u8 n)=some (.bool (decide (m=n)),.none):=by
 show cK P .eql t x y (.int .u8 m) (.int .u8 n)=_
 unfold cK
 simp only [flat,bl,Bool.and_self,cond_true]
 rfl
section
variable {fr : Nat → AV} {hp : List AB} {K : AV → List AB → Prop} {x y : Operand} {m j : Nat} {n k : Int} {a b : AV} {t : TypeId}
theorem bshr8 (ha:a=U8 (m:Nat)) (hb:b=ai (j:Nat)) (h:j < 8) (k:K (U8 ((m / 2 ^ j:Nat):Int)) hp):cI TT .shr t x y a b hp K:=by
 subst ha hb
 exact ⟨_,_,rfl,rfl,_,bin_shr8 h,rfl,k⟩
theorem brem8 (ha:a=U8 (m:Nat)) (hb:b=U8 2) (k:K (U8 ((m % 2:Nat):Int)) hp):cI TT .rem t x y a b hp K:=by
 subst ha hb
 exact ⟨_,_,rfl,rfl,_,bin_rem8,rfl,k⟩
theorem beq8 (ha:a=U8 n) (hb:b=U8 k) (h:K (BB (decide (n=k))) hp):cI TT .eql t x y a b hp K:=by
 subst ha hb
 exact ⟨_,_,rfl,rfl,.bool (decide (n=k)),bin_eq8,rfl,h⟩
end
def bitU (o i:Nat):Bool:=decide (((o / 2 ^ i % 2:Nat):Int)=1)
theorem withoutB {s:au} {n:aA} {rs:List av} {o:List Int} (h0:(aD s n rs).2=0):(aD s n (aT 0 rs o)).2=0:=by
 rw [GD] at h0 ⊢
 exact ⟨h0.1,Nat.le_trans (lN rs 0 o) h0.2.1,fun r hr=>h0.2.2 r (jq hr)⟩
theorem errT_some {s:au} {n:aA} {rs:List av} {aB:Bool} (h0:(aD s n rs).2=0):qd s n rs aB=0 ↔ sX s n rs aB=true:=by
 rw [zn]
 unfold sX
 rw [List.any_eq_true]
 constructor
 ·rintro ⟨_,h⟩
  obtain ⟨x,hx⟩:=List.exists_mem_of_ne_nil _ h
  have hx:=List.mem_filter.1 hx
  exact ⟨x,hx.1,hx.2⟩
 ·rintro ⟨x,hx,h⟩
  exact ⟨h0,List.ne_nil_of_mem (List.mem_filter.2 ⟨hx,h⟩)⟩
theorem fewest_law {s:au} {n:aA} {rs:List av} {tl th:Int × Int} (h0:(aD s n rs).2=0) (hb:uF s n rs tl th) (p:Nat→Bool) :
  (qd s n (aT 0 rs (gJ n rs tl th)) false=0∧qd s n (aT 0 rs (gJ n rs tl th)) true=0) ∧
   (qd s n (aT 0 rs (aO p 0 rs.length)) false=0→qd s n (aT 0 rs (aO p 0 rs.length)) true=0→(gJ n rs tl th).length≤(aO p 0 rs.length).length):=by
 have hF:=Ef hb
 unfold mW at hF
 rw [Bool.and_eq_true] at hF
 refine ⟨⟨(errT_some (withoutB h0)).2 hF.1,(errT_some (withoutB h0)).2 hF.2⟩,fun h1 h2=>?_⟩
 have h1:=(errT_some (withoutB h0)).1 h1
 have h2:=(errT_some (withoutB h0)).1 h2
 have hn:=C3 hb p (by unfold mW;rw [h1,h2];rfl)
 unfold gv at hn
 omega
theorem falseL_bnd {n:aA} {rs:List av} {tl th:Int × Int} {i:Nat} (h:i < (gJ n rs tl th).length):0≤(gJ n rs tl th)[i]∧(gJ n rs tl th)[i] < rs.length:=by
 have hm:(gJ n rs tl th)[i] ∈ gJ n rs tl th:=List.getElem_mem h
 obtain ⟨k,hk,_,h2,_⟩:=pN.1 hm
 omega
theorem falseL_up {n:aA} {rs:List av} {tl th:Int × Int} {i:Nat} (h:i+1 < (gJ n rs tl th).length):(gJ n rs tl th)[i] < (gJ n rs tl th)[i+1] :=
 List.pairwise_iff_getElem.1 (qK _ rs.length 0) i (i+1) (show i < (gJ n rs tl th).length by omega) h (by omega)
end Go.Proofs.YtichbhmnhkegiaaGreat
open Go Go.RM Go.AirLaw
namespace Go.Proofs.YtichbhmnhkegiaaGreat
set_option maxRecDepth 100000
set_option maxHeartbeats 4000000
theorem n2_inb (n:aA) (L:List Int) (v:Nat):([.cells (aC n) 0 0,.cells (L.map ai) 1 v]:List AB).all (AB.cJ 2)=true:=by
 have h:AB.cJ 2 (.cells (L.map ai) 1 v)=true:=L3 2 L
 have h':AB.cJ 2 (.cells (aC n) 0 0)=true:=rfl
 simp only [List.all_cons,List.all_nil,h,h',Bool.and_true]
theorem fewests_c (s:au) (hs:s.Ok) (n:aA) (rs:List av) (f:Bool) (hr:rs.length≤maxLen) (o:Nat) :
  Pu false 13 [.ag (ay s),.ag (aC n++[.sl (rs.map aj) f]),U8 (o:Nat)] (BB true):=by
 have aw:=CR
 have c1:=IV false s hs n rs f hr
 have er:((rs.map aj).length:Int)=rs.length:=by simp
 dsimp only [aC,oG,List.cons_append,List.nil_append]
 by_cases h0:(aD s n rs).2=0
 ·rw [decide_eq_true h0] at c1
  have ho:=cc h0
  have h8:=ho.JL
  obtain ⟨tl,th,hb⟩:=zk ho
  have c2:=AZ s hs n rs f h0 tl th hb
  obtain ⟨⟨g1,g2⟩,g3⟩:=fewest_law h0 hb (bitU o)
  obtain ⟨W,c2,g1,g2,g3,b1,b2,hWl⟩:∃ W:List Int,Pu false 39 [.ag (ay s),.ag (aC n),.sl (rs.map aj) f] (.tp [.sl (W.map eI) false,ai 0])∧qd s n (aT 0 rs W) false=0∧qd s n (aT 0 rs W) true=0 ∧
    (qd s n (aT 0 rs (aO (bitU o) 0 rs.length)) false=0→qd s n (aT 0 rs (aO (bitU o) 0 rs.length)) true=0→W.length≤(aO (bitU o) 0 rs.length).length) ∧
    (∀ i (h:i < W.length),0≤W[i]∧W[i] < rs.length)∧(∀ i (h:i+1 < W.length),W[i] < W[i+1])∧W.length≤rs.length :=
   ⟨_,c2,g1,g2,g3,fun i h=>falseL_bnd h,fun i h=>falseL_up h,Eh n rs tl th⟩
  clear hb
  have ew:((W.map eI).length:Int)=W.length:=by simp
  refine af.body (fn:=Tryz.f13) rfl rfl rfl rfl ?_
  refine RM.fm (mu:=fun _=>false) ?_
  repeat' (first |refine u1 ?_ |refine u2 ?_ |fail)
  refine RM.fm (mu:=fun _=>false) ?_
  repeat' (first |refine u1 ?_ |refine u2 ?_ |fail)
  refine RM.fm (mu:=fun _=>false) ?_
  repeat' (first |refine u1 ?_ |refine u2 ?_ |fail)
  refine RM.fm (mu:=fun _=>false) ?_
  repeat' (first |refine u1 ?_ |refine u2 ?_ |fail)
  refine ax.seq ?_
  refine RM.fm (mu:=fun _=>false) ?_
  repeat' (first |refine u1 ?_ |refine u2 ?_ |fail)
  refine ax.aK (ah.to (l:=[(2,U8 (o:Nat)),(3,.pt (ay s) 0),(7,.ptr 0 0 0),(8,.sl (rs.map aj) f),(9,.sl (W.map eI) false),(10,ai 0),(11,ai (0:Nat))]) (hp:=[.cells (aC n) 0 0]) 1 rfl ⟨rfl,rfl,rfl,rfl,rfl,rfl,rfl,trivial⟩ (Nat.zero_le _) rfl rfl) ?_
  refine ax.block ?_
  refine ax.loop (fun i:Nat=>i≤W.length) (fun i=>⟨aF [(2,U8 (o:Nat)),(3,.pt (ay s) 0),(7,.ptr 0 0 0),(8,.sl (rs.map aj) f),(9,.sl (W.map eI) false),(10,ai 0),(11,ai (i:Nat))],[.cells (aC n) 0 0],aV.none,false,0⟩) (fun i=>W.length - i) ?_ 0 (Nat.zero_le _)
  intro i hi
  refine aa (mu:=fun _=>false) ?_
  by_cases hlt:i < W.length
  ·have d1:decide ((i:Int) < ((W.map eI).length:Int))=true:=decide_eq_true (by omega)
   have hat:(W.map eI)[((i:Nat):Int).toNat]?=some (eI W[i]):=bO hlt
   have hbi:=b1 i hlt
   have d2:decide (W[i] < 0)=false:=decide_eq_false (by omega)
   have d3:decide (((rs.map aj).length:Int)≤W[i])=false:=decide_eq_false (by omega)
   match i,hlt with
   | 0,hlt =>
    have d4:decide ((0:Int) < ((0:Nat):Int))=false:=by decide
    repeat' (first |refine u1 ?_ |refine u2 ?_ |fail)
    exact ⟨1,hlt,(by dsimp only;omega),ah.to 1 rfl ⟨rfl,rfl,rfl,rfl,rfl,rfl,rfl,trivial⟩ (Nat.zero_le _) rfl rfl⟩
   | i+1,hlt =>
    have d4:decide ((0:Int) < ((i+1:Nat):Int))=true:=decide_eq_true (by omega)
    have hat2:(W.map eI)[(((i+1:Nat):Int) - 1).toNat]?=some (eI W[i]):=by
     rw [show ((i+1:Nat):Int) - 1=(i:Int) by omega];exact bO (by omega)
    have hup:=b2 i hlt
    have d5:decide (W[i+1]≤W[i])=false:=decide_eq_false (by omega)
    repeat' (first |refine u1 ?_ |refine u2 ?_ |fail)
    exact ⟨i+2,hlt,(by dsimp only;omega),ah.to 1 rfl ⟨rfl,rfl,rfl,rfl,rfl,rfl,aR (by omega),trivial⟩ (Nat.zero_le _) rfl rfl⟩
  ·have d1:decide ((i:Int) < ((W.map eI).length:Int))=false:=decide_eq_false (by omega)
   repeat' (first |refine u1 ?_ |refine u2 ?_ |fail)
   refine RM.fm (mu:=fun _=>false) ?_
   repeat' (first |refine u1 ?_ |refine u2 ?_ |fail)
   refine ax.seq ?_
   refine RM.fm (mu:=fun _=>false) ?_
   repeat' (first |refine u1 ?_ |refine u2 ?_ |fail)
   refine ax.aK (ah.trans (ah.jw 1) (ah.GI (l:=[(2,U8 (o:Nat)),(3,.pt (ay s) 0),(7,.ptr 0 0 0),(8,.sl (rs.map aj) f),(9,.sl (W.map eI) false),(10,ai 0),(12,.bg 1 0 0 (aO (bitU o) 0 0).length 0),(13,ai (0:Nat))]) (hp:=[.cells (aC n) 0 0,.cells ((aO (bitU o) 0 0).map ai) 1 0]) 2 rfl ⟨bG.refl _,bG.refl _,bG.refl _,bG.refl _,bG.refl _,bG.refl _,bG.jv,bG.refl _,trivial⟩ (Nat.zero_le _) rfl (n2_inb _ _ _))) ?_
   refine ax.block ?_
   refine ax.loop (fun x:Nat × Nat × Nat=>x.1≤rs.length∧(x.2.2=(aO (bitU o) 0 x.1).length∨x.2.2=(aO (bitU o) 0 x.1).length+1)) (fun x=>⟨aF [(2,U8 (o:Nat)),(3,.pt (ay s) 0),(7,.ptr 0 0 0),(8,.sl (rs.map aj) f),(9,.sl (W.map eI) false),(10,ai 0),(12,.bg 1 x.2.1 0 (aO (bitU o) 0 x.1).length x.2.2),(13,ai (x.1:Nat))],[.cells (aC n) 0 0,.cells ((aO (bitU o) 0 x.1).map ai) 1 x.2.1],aV.none,false,0⟩) (fun x=>rs.length - x.1) ?_ (0,0,0) ⟨Nat.zero_le _,.inl rfl⟩
   rintro ⟨j,v,c⟩ ⟨hj,hcap⟩
   dsimp only at hj hcap
   show ax _ _ _ _ ⟨aF [(2,U8 (o:Nat)),(3,.pt (ay s) 0),(7,.ptr 0 0 0),(8,.sl (rs.map aj) f),(9,.sl (W.map eI) false),(10,ai 0),(12,.bg 1 v 0 (aO (bitU o) 0 j).length c),(13,ai (j:Nat))],[.cells (aC n) 0 0,.cells ((aO (bitU o) 0 j).map ai) 1 v],aV.none,false,0⟩ _
   refine aa (mu:=fun t=>Nat.beq t 104) ?_
   have hfl:=e8 (bitU o) 0 j
   by_cases hlj:j < rs.length
   ·have d2:decide ((j:Int) < ((rs.map aj).length:Int))=true:=decide_eq_true (by omega)
    cases hbit:bitU o j with
    | true =>
     have d3:decide (((o / 2 ^ j % 2:Nat):Int)=1)=true:=hbit
     have hs:=wK hbit
     have hml:((aO (bitU o) 0 j).map ai).length=(aO (bitU o) 0 j).length * 1:=by rw [List.length_map];omega
     repeat' (first |(refine bshr8 rfl rfl (by omega) ?_) |(refine brem8 rfl rfl ?_) |(refine beq8 rfl rfl ?_) |((with_reducible show RM.wpOp _ _ (.call _) _ _ _);refine RM.qJ (cs:=(aO (bitU o) 0 j).map ai) (n:=(aO (bitU o) 0 j).length) (els:=[eI (j:Int)]) rfl rfl rfl rfl rfl (fun el hel=>by rw [List.mem_singleton.1 hel];rfl) rfl rfl hml hcap (by simp only [List.length_singleton];omega) (fun v' c' hc'=>?_)) |refine u1 ?_ |refine u2 ?_ |fail)
     refine ⟨(j+1,v',c'),⟨hlj,by dsimp only;rw [hs,List.length_append];exact hc'⟩,(by dsimp only;omega),?_⟩
     show ah _ ⟨aF [(2,U8 (o:Nat)),(3,.pt (ay s) 0),(7,.ptr 0 0 0),(8,.sl (rs.map aj) f),(9,.sl (W.map eI) false),(10,ai 0),(12,.bg 1 v' 0 (aO (bitU o) 0 (j+1)).length c'),(13,ai ((j+1):Nat))],[.cells (aC n) 0 0,.cells ((aO (bitU o) 0 (j+1)).map ai) 1 v'],aV.none,false,0⟩
     rw [hs]
     exact ah.to 2 (by rw [List.map_append];rfl) ⟨rfl,rfl,rfl,rfl,rfl,rfl,(by rw [List.length_append];rfl),aR (by simp),trivial⟩ (Nat.zero_le _) rfl (n2_inb _ _ _)
    | false =>
     have d3:decide (((o / 2 ^ j % 2:Nat):Int)=1)=false:=hbit
     have hs:=wL hbit
     repeat' (first |(refine bshr8 rfl rfl (by omega) ?_) |(refine brem8 rfl rfl ?_) |(refine beq8 rfl rfl ?_) |refine u1 ?_ |refine u2 ?_ |fail)
     refine ⟨(j+1,v,c),⟨hlj,by dsimp only;rw [hs];exact hcap⟩,(by dsimp only;omega),?_⟩
     show ah _ ⟨aF [(2,U8 (o:Nat)),(3,.pt (ay s) 0),(7,.ptr 0 0 0),(8,.sl (rs.map aj) f),(9,.sl (W.map eI) false),(10,ai 0),(12,.bg 1 v 0 (aO (bitU o) 0 (j+1)).length c),(13,ai ((j+1):Nat))],[.cells (aC n) 0 0,.cells ((aO (bitU o) 0 (j+1)).map ai) 1 v],aV.none,false,0⟩
     rw [hs]
     exact ah.to 2 rfl ⟨rfl,rfl,rfl,rfl,rfl,rfl,rfl,aR (by simp),trivial⟩ (Nat.zero_le _) rfl (n2_inb _ _ _)
   ·have d2:decide ((j:Int) < ((rs.map aj).length:Int))=false:=decide_eq_false (by omega)
    have hjr:j=rs.length:=by omega
    subst hjr
    repeat' (first |refine u1 ?_ |refine u2 ?_ |fail)
    generalize aO (bitU o) 0 rs.length=V at *
    refine ax.aK (ah.giveUp 1 (l:=[(3,.pt (ay s) 0),(7,.ptr 0 0 0),(8,.sl (rs.map aj) f),(9,.sl (W.map eI) false),(10,ai 0),(12,.sl (V.map eI) false)]) (hp:=[.cells (aC n) 0 0,.gone]) rfl (Nat.zero_le _) (yT _) ⟨.same rfl,.same rfl,.same rfl,.same rfl,.same rfl,.row 1 (by rw [List.length_map];omega) (by rw [List.length_map]) (fun el hel=>by obtain ⟨x,_,rfl⟩:=List.mem_map.1 hel;rfl) (by rw [nW,List.drop_zero,List.take_of_length_le (by rw [List.length_map];omega)]) (fun h=>Bool.noConfusion h),trivial⟩ rfl rfl) ?_
    have w1:=zh false rs f W false (by omega) (by omega)
    have w2:=zh false rs f V false (by omega) (by omega)
    have hm1:(aT 0 rs W).length≤maxLen:=Nat.le_trans (lN rs 0 W) hr
    have hm2:(aT 0 rs V).length≤maxLen:=Nat.le_trans (lN rs 0 V) hr
    have k1:=AE false s hs n (aT 0 rs W) false hm1
    have k2:=AG false s hs n (aT 0 rs W) false hm1
    have k3:=AE false s hs n (aT 0 rs V) false hm2
    have k4:=AG false s hs n (aT 0 rs V) false hm2
    have z1:=(I7 s n (aT 0 rs W)).1
    have z2:=(I8 s n (aT 0 rs W)).1
    have z3:=(I7 s n (aT 0 rs V)).1
    have z4:=(I8 s n (aT 0 rs V)).1
    rw [g1] at z1
    rw [g2] at z2
    generalize qd s n (aT 0 rs V) false=e3 at *
    generalize qd s n (aT 0 rs V) true=e4 at *
    generalize iR s n (aT 0 rs W)=y1 at *
    generalize fy s n (aT 0 rs W)=y2 at *
    generalize iR s n (aT 0 rs V)=y3 at *
    generalize fy s n (aT 0 rs V)=y4 at *
    generalize aT 0 rs W=LW at *
    generalize aT 0 rs V=LV at *
    obtain ⟨⟨p1,p2⟩,⟨p3,p4⟩,p5⟩:=y1
    obtain ⟨⟨p6,p7⟩,p8,p9⟩:=y2
    obtain ⟨⟨q1,q2⟩,⟨q3,q4⟩,q5⟩:=y3
    obtain ⟨⟨q6,q7⟩,q8,q9⟩:=y4
    dsimp only at z1 z2 z3 z4 k1 k2 k3 k4
    subst z1 z2 z3 z4
    have ev:((V.map eI).length:Int)=V.length:=by simp
    have d0:decide ((0:Int)=0)=true:=rfl
    refine aa (mu:=fun _=>false) ?_
    by_cases t3:q5=0
    ·have d3:(!decide (q5=0))=false:=by rw [decide_eq_true t3];rfl
     by_cases t4:q9=0
     ·have d4:(!decide (q9=0))=false:=by rw [decide_eq_true t4];rfl
      have d5:decide (((W.map eI).length:Int)≤((V.map eI).length:Int))=true:=decide_eq_true (by have:=g3 t3 t4;omega)
      repeat' (first |refine u1 ?_ |refine u2 ?_ |fail)
      exact ⟨[_],⟨Fz.deep rfl,trivial⟩,rfl⟩
     ·have d4:(!decide (q9=0))=true:=by rw [decide_eq_false t4];rfl
      repeat' (first |refine u1 ?_ |refine u2 ?_ |fail)
      exact ⟨[_],⟨Fz.deep rfl,trivial⟩,rfl⟩
    ·have d3:(!decide (q5=0))=true:=by rw [decide_eq_false t3];rfl
     repeat' (first |refine u1 ?_ |refine u2 ?_ |fail)
     exact ⟨[_],⟨Fz.deep rfl,trivial⟩,rfl⟩
 ·rw [decide_eq_false h0] at c1
  have c2:=Gt false s hs n rs f hr h0
  generalize (aD s n rs).2=z at *
  have d0:(!decide (z=0))=true:=by rw [decide_eq_false h0];rfl
  refine af.body (fn:=Tryz.f13) rfl rfl rfl rfl ?_
  refine aa (mu:=fun _=>false) ?_
  repeat' (first |refine u1 ?_ |refine u2 ?_ |fail)
  exact ⟨[_],⟨Fz.deep rfl,trivial⟩,rfl⟩
end Go.Proofs.YtichbhmnhkegiaaGreat
