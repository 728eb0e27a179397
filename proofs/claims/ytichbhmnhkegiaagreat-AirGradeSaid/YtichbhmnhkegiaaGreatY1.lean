/-
  Contracts of the program's functions and of the document's. Lemmas alone; their conditions stand in them.
-/
import Derived.Test.YtichbhmnhkegiaaGreatK18
import Derived.Test.YtichbhmnhkegiaaGreatK21
import Derived.Test.YtichbhmnhkegiaaGreatK22
import Derived.Test.YtichbhmnhkegiaaGreatK17
open Go Go.RM
namespace Go.Proofs.YtichbhmnhkegiaaGreat
set_option maxRecDepth 100000
set_option maxHeartbeats 4000000
abbrev shWanted:Sh:=.cons C9 (.cons C9 (.cons C9 (.cons (.int .u8) .nil)))
theorem tvWanted {l:List AV} (h:TV shWanted l):∃ a b c d:Int,((0≤a∧a≤65535)∧(0≤b∧b≤65535)∧(0≤c∧c≤65535)∧0≤d∧d≤255)∧l=[ob a,ob b,ob c,U8 d]:=by
 obtain ⟨_,_,h1,k1,rfl⟩:=xw h
 obtain ⟨_,_,h2,k2,rfl⟩:=xw k1
 obtain ⟨_,_,h3,k3,rfl⟩:=xw k2
 obtain ⟨_,_,h4,k4,rfl⟩:=xw k3
 obtain ⟨a,ha,rfl⟩:=sZ h1
 obtain ⟨b,hb,rfl⟩:=sZ h2
 obtain ⟨c,hc,rfl⟩:=sZ h3
 obtain ⟨d,hd,rfl⟩:=Np h4
 obtain rfl:=KG k4
 exact ⟨a,b,c,d,⟨ha,hb,hc,hd⟩,rfl⟩
end Go.Proofs.YtichbhmnhkegiaaGreat
open Go Go.RM Go.AirLaw
namespace Go.Proofs.YtichbhmnhkegiaaGreat
set_option maxRecDepth 100000
set_option maxHeartbeats 4000000
end Go.Proofs.YtichbhmnhkegiaaGreat
open Go Go.RM Go.AirLaw
namespace Go.Proofs.YtichbhmnhkegiaaGreat
set_option maxRecDepth 100000
set_option maxHeartbeats 4000000
theorem grade_law {s:au} {n:aA} {rs:List av} {far:Int} (h0:(aD s n rs).2=0) (hf:0≤far∧far≤60000) :
  aJ s n rs false=[]∧nJ s n rs far=(0,9)∨aJ s n rs false ≠ []∧(nJ s n rs far=(0,9)∧(∀ k,k < s.ak.length→uE s n (aJ s n rs false) far k=false) ∨
   ∃ b:Nat,b < s.ak.length∧nJ s n rs far=((b:Int),0)∧uE s n (aJ s n rs false) far b=true∧∀ k,k < s.ak.length→uE s n (aJ s n rs false) far k=true→k=b∨dD s b < dD s k∨dD s b=dD s k∧b < k):=by
 have ho:aX 0 60000 [far]=false:=by simp [aX];omega
 unfold nJ
 rw [if_neg (by omega),ho,if_neg (by simp)]
 by_cases hL:aJ s n rs false=[]
 ·exact .inl ⟨hL,by rw [if_pos hL]⟩
 ·refine .inr ⟨hL,?_⟩
  rw [if_neg hL]
  rcases qS (dD s) (uE s n (aJ s n rs false) far) s.ak.length with ⟨h1,h2⟩|⟨b,h1,h2,h3,h4⟩
  ·exact .inl ⟨by rw [if_pos (by unfold Fk;rw [h1];decide)],h2⟩
  ·refine .inr ⟨b,h1,?_,h3,h4⟩
   have:Fk s n (aJ s n rs false) far=b:=h2
   rw [this,if_neg (by omega)]
theorem does_seen {s:au} {n:aA} {L:List (Int × Int)} {far:Int} {b:Nat} (hd:uE s n L far b=true) {y:Int × Int} (hy:y ∈ L) (hy2:0≤y.2) (hc:0≤(gr s b).cand.lo) {c:Int} (h:if (b:Int)=n.bK then c=y.1 else (gr s b).cand.lo≤c):bz far 0 c y.2=true:=by
 unfold uE at hd
 rw [List.all_eq_true] at hd
 have:=hd y hy
 unfold nI at this
 by_cases hb:(b:Int)=n.bK
 ·rw [if_pos hb] at h this
  rw [h];exact this
 ·rw [if_neg hb] at h this
  exact i6 hc h hy2 (Int.le_refl _) (Int.le_refl _) this
theorem grades_c (s:au) (hs:s.Ok) (n:aA) (rs:List av) (f:Bool) (hr:rs.length≤maxLen) (a b c d:Int) (ha:0≤a∧a≤65535) (hb:0≤b∧b≤65535) (hc:0≤c∧c≤65535) (hd:0≤d∧d≤255) :
  Pu false 12 [.ag (ay s),.ag (aC n++[.sl (rs.map aj) f]),.ag [ob a,ob b,ob c,U8 d]] (BB true):=by
 have aw:=CR
 have c1:=IV false s hs n rs f hr
 have c2:=A2 false s hs n rs f hr (a % 60001)
 have hf1:=Int.emod_nonneg a (b:=60001) (by decide)
 have hf2:=Int.emod_lt_of_pos a (b:=60001) (by decide)
 dsimp only [aC,oG,List.cons_append,List.nil_append]
 by_cases h0:(aD s n rs).2=0
 ·rw [decide_eq_true h0] at c1
  have ho:=cc h0
  have c3:=Gn false ho f false
  have hm:∀ x ∈ aJ s n rs false,(1≤x.1∧x.1≤5000)∧1≤x.2∧x.2≤300:=fun x hx=>ho.lb x (iV.1 hx).1
  have hlen:(aJ s n rs false).length≤100000:=by
   unfold aJ
   exact Nat.le_trans (List.length_filter_le _ _) (jQ ho false)
  have hg4:=ho.gU.len
  have eg:((s.ak.map aL).length:Int)=s.ak.length:=by simp
  have hdm1:=Int.emod_nonneg d (b:=((s.ak.map aL).length:Int)) (by omega)
  have hdm2:=Int.emod_lt_of_pos d (b:=((s.ak.map aL).length:Int)) (by omega)
  obtain ⟨g,hgd⟩:∃ g:Nat,d % ((s.ak.map aL).length:Int)=g:=⟨_,(Int.toNat_of_nonneg hdm1).symm⟩
  have hg:g < s.ak.length:=by omega
  rcases grade_law (n:=n) (rs:=rs) h0 (show 0≤a % 60001∧a % 60001≤60000 by omega) with ⟨h1,h2⟩|⟨h1,h2⟩
  ·rw [h2] at c2
   rw [h1] at c3
   refine af.body (fn:=Tryz.f12) rfl rfl rfl rfl ?_
   refine aa (mu:=fun _=>false) ?_
   repeat' (first |((with_reducible show RM.wpOp _ _ (.convert _ _ _) _ _ _);refine qc rfl ha ?_) |((with_reducible show RM.wpOp _ _ (.convert _ _ _) _ _ _);refine Nn rfl hd ?_) |refine u1 ?_ |refine u2 ?_ |fail)
   exact ⟨[_],⟨Fz.deep rfl,trivial⟩,rfl⟩
  ·have c4:=JV false n ho.gU (aJ s n rs false) (fun x hx=>by have:=hm x hx;omega) hlen g hg (a % 60001) (by omega)
   rw [←hgd] at c4
   obtain ⟨L,hL,hlen,hm,c3,c4,h2⟩:∃ L:List (Int × Int),L ≠ []∧L.length≤100000∧(∀ x ∈ L,(1≤x.1∧x.1≤5000)∧1≤x.2∧x.2≤300)∧Pu false 56 [.ag (ay s),.ag (aC n),.sl (rs.map aj) f,BB false] (.sl (L.map eP) false) ∧
     Pu false 57 [.ag (ay s),.ag (aC n),.sl (L.map eP) false,ai (d % ((s.ak.map aL).length:Int)),ai (a % 60001)] (BB (uE s n L (a % 60001) g))∧(nJ s n rs (a % 60001)=(0,9)∧(∀ k,k < s.ak.length→uE s n L (a % 60001) k=false) ∨
   ∃ b:Nat,b < s.ak.length∧nJ s n rs (a % 60001)=((b:Int),0)∧uE s n L (a % 60001) b=true∧∀ k,k < s.ak.length→uE s n L (a % 60001) k=true→k=b∨dD s b < dD s k∨dD s b=dD s k∧b < k) :=
    ⟨_,h1,hlen,hm,c3,c4,h2⟩
   have eL:((L.map eP).length:Int)=L.length:=by simp
   have hLp:0 < L.length:=List.length_pos_iff.2 hL
   have dL:decide (((L.map eP).length:Int)=0)=false:=decide_eq_false (by omega)
   rcases h2 with ⟨h2,h3⟩|⟨k,hk,h2,h3,h4⟩
   ·rw [h2] at c2
    rw [h3 g hg] at c4
    refine af.body (fn:=Tryz.f12) rfl rfl rfl rfl ?_
    refine aa (mu:=fun _=>false) ?_
    repeat' (first |((with_reducible show RM.wpOp _ _ (.convert _ _ _) _ _ _);refine qc rfl ha ?_) |((with_reducible show RM.wpOp _ _ (.convert _ _ _) _ _ _);refine Nn rfl hd ?_) |refine u1 ?_ |refine u2 ?_ |fail)
    exact ⟨[_],⟨Fz.deep rfl,trivial⟩,rfl⟩
   ·rw [h2] at c2
    have ebm1:=Int.emod_nonneg b (b:=((L.map eP).length:Int)) (by omega)
    have ebm2:=Int.emod_lt_of_pos b (b:=((L.map eP).length:Int)) (by omega)
    obtain ⟨j,hjd⟩:∃ j:Nat,b % ((L.map eP).length:Int)=j:=⟨_,(Int.toNat_of_nonneg ebm1).symm⟩
    have hj:j < L.length:=by omega
    have hatL:(L.map eP)[(b % ((L.map eP).length:Int)).toNat]?=some (eP L[j]):=by rw [hjd];exact bO hj
    have hatk:(s.ak.map aL)[((k:Nat):Int).toNat]?=some (aL (gr s k)):=zb hk
    have hatg:(s.ak.map aL)[(d % ((s.ak.map aL).length:Int)).toNat]?=some (aL (gr s g)):=by rw [hgd];exact zb hg
    have hy:=hm _ (List.getElem_mem hj)
    have hck:=ho.gU.cand _ (D9 hk)
    have hseen:=fun c=>does_seen (c:=c) h3 (List.getElem_mem hj) (by omega) (show 0≤(gr s k).cand.lo by omega)
    generalize L[j]=y at *
    have d1:decide ((k:Int) < 0)=false:=decide_eq_false (by omega)
    have d2:decide (((s.ak.map aL).length:Int)≤(k:Int))=false:=decide_eq_false (by omega)
    have c5:=A6 true (gr s k).cand c (by omega) hc
    have hai:=w9 (s:=(gr s k).cand) c (by omega)
    have c6:=Gu true (a % 60001) 0
    have hoil:=h4 g hg
    have e1:(dD s g:Int)=(gr s g).fE:=rfl
    have e2:(dD s k:Int)=(gr s k).fE:=rfl
    rw [e1,e2] at hoil
    have hgk:g=k→(gr s g).fE=(gr s k).fE:=fun e=>by rw [e]
    generalize uE s n L (a % 60001) g=D at *
    clear h4 h3 hm hs hr ebm1 ebm2 hdm1 hdm2 hlen
    generalize gr s g=G1 at *
    generalize gr s k=G2 at *
    obtain ⟨gn1,gc1,go1⟩:=G1
    obtain ⟨gn2,gc2,go2⟩:=G2
    dsimp only at hoil c5 hai hseen hgk hck
    have d00:(!decide ((0:Int)=0))=false:=rfl
    refine af.body (fn:=Tryz.f12) rfl rfl rfl rfl ?_
    refine RM.fm (mu:=fun _=>false) ?_
    repeat' (first |refine u1 ?_ |refine u2 ?_ |fail)
    refine RM.fm (mu:=fun _=>false) ?_
    repeat' (first |((with_reducible show RM.wpOp _ _ (.convert _ _ _) _ _ _);refine qc rfl ha ?_) |refine u1 ?_ |refine u2 ?_ |fail)
    refine RM.fm (mu:=fun _=>false) ?_
    repeat' (first |refine u1 ?_ |refine u2 ?_ |fail)
    refine RM.fm (mu:=fun _=>false) ?_
    repeat' (first |refine u1 ?_ |refine u2 ?_ |fail)
    refine RM.fm (mu:=fun _=>false) ?_
    repeat' (first |refine u1 ?_ |refine u2 ?_ |fail)
    refine RM.fm (mu:=fun _=>false) ?_
    repeat' (first |refine u1 ?_ |refine u2 ?_ |fail)
    refine RM.fm (mu:=fun _=>false) ?_
    repeat' (first |refine u1 ?_ |refine u2 ?_ |fail)
    refine RM.fm (mu:=fun _=>false) ?_
    repeat' (first |((with_reducible show RM.wpOp _ _ (.convert _ _ _) _ _ _);refine qc rfl hb ?_) |refine u1 ?_ |refine u2 ?_ |fail)
    refine RM.fm (mu:=fun _=>false) ?_
    repeat' (first |refine u1 ?_ |refine u2 ?_ |fail)
    refine ax.aK (ah.to (l:=[(3,.pt (ay s) 0),(5,.pt [ob a,ob b,ob c,U8 d] 0),(7,.ptr 0 0 0),(9,ai (a % 60001)),(10,ai (k:Nat)),(12,.sl (L.map eP) false),(14,.ptr 1 0 0),(15,ai y.1)]) (hp:=[.cells (aC n) 0 0,.cells (eP y) 0 0]) 2 rfl ⟨rfl,rfl,rfl,rfl,rfl,rfl,rfl,rfl,trivial⟩ (Nat.zero_le _) rfl rfl) ?_
    by_cases hkn:(k:Int)=n.bK
    ·have d3:(!decide ((k:Int)=n.bK))=false:=by rw [decide_eq_true hkn];rfl
     have hs1:=hseen y.1 (by rw [if_pos hkn])
     have c7:=qL true ⟨a % 60001,0⟩ y.1 y.2
     rw [C4 _ _ _ (by dsimp only;omega) (by dsimp only;omega) (by omega) (by omega),hs1] at c7
     clear hseen hs1
     refine RM.fm (mu:=fun _=>false) ?_
     repeat' (first |refine u1 ?_ |refine u2 ?_ |fail)
     refine ax.aK (ah.to (l:=[(3,.pt (ay s) 0),(5,.pt [ob a,ob b,ob c,U8 d] 0),(7,.ptr 0 0 0),(9,ai (a % 60001)),(10,ai (k:Nat)),(12,.sl (L.map eP) false),(14,.ptr 1 0 0),(15,ai y.1)]) (hp:=[.cells (aC n) 0 0,.cells (eP y) 0 0]) 2 rfl ⟨rfl,rfl,rfl,rfl,rfl,rfl,rfl,rfl,trivial⟩ (Nat.zero_le _) rfl rfl) ?_
     refine RM.fm (mu:=fun _=>false) ?_
     repeat' (first |refine u1 ?_ |refine u2 ?_ |fail)
     refine RM.fm (mu:=fun _=>false) ?_
     repeat' (first |((with_reducible show RM.wpOp _ _ (.convert _ _ _) _ _ _);refine Nn rfl hd ?_) |refine u1 ?_ |refine u2 ?_ |fail)
     clear c7 c6 c5 hai hck
     refine ax.aK (ah.to (l:=[(3,.pt (ay s) 0),(7,.ptr 0 0 0),(9,ai (a % 60001)),(10,ai (k:Nat)),(12,.sl (L.map eP) false),(16,BB true),(17,ai 0),(18,ai (d % ((s.ak.map aL).length:Int)))]) (hp:=[.cells (aC n) 0 0]) 1 rfl ⟨rfl,rfl,rfl,rfl,rfl,rfl,rfl,rfl,trivial⟩ (Nat.zero_le _) rfl rfl) ?_
     refine aa (mu:=fun _=>false) ?_
     by_cases hl:go1 < go2∨go1=go2∧g < k
     ·have hD:D=false:=by
       cases D with
       | false=>rfl
       | true =>
        rcases hoil rfl with e|e|e
        ·have:=hgk e;omega
        ·omega
        ·omega
      subst hD
      clear hoil
      rcases hl with hl|⟨hl,hl2⟩
      ·have d4:decide (go1 < go2)=true:=decide_eq_true hl
       repeat' (first |refine u1 ?_ |refine u2 ?_ |fail)
       exact ⟨[_],⟨Fz.deep rfl,trivial⟩,rfl⟩
      ·have d4:decide (go1 < go2)=false:=decide_eq_false (by omega)
       have d5:decide (go1=go2)=true:=decide_eq_true hl
       have d6:decide (d % ((s.ak.map aL).length:Int) < (k:Int))=true:=decide_eq_true (by omega)
       have d7:(!decide (d % ((s.ak.map aL).length:Int) < (k:Int)))=false:=by rw [d6];rfl
       repeat' (first |refine u1 ?_ |refine u2 ?_ |fail)
       exact ⟨[_],⟨Fz.deep rfl,trivial⟩,rfl⟩
     ·clear hoil
      have d4:decide (go1 < go2)=false:=decide_eq_false (by omega)
      by_cases hl2:go1=go2
      ·have d5:decide (go1=go2)=true:=decide_eq_true hl2
       have d6:decide (d % ((s.ak.map aL).length:Int) < (k:Int))=false:=decide_eq_false (by omega)
       have d7:(!decide (d % ((s.ak.map aL).length:Int) < (k:Int)))=true:=by rw [d6];rfl
       clear hl
       repeat' (first |refine u1 ?_ |refine u2 ?_ |fail)
       exact ⟨[_],⟨Fz.deep rfl,trivial⟩,rfl⟩
      ·have d5:decide (go1=go2)=false:=decide_eq_false hl2
       clear hl
       repeat' (first |refine u1 ?_ |refine u2 ?_ |fail)
       exact ⟨[_],⟨Fz.deep rfl,trivial⟩,rfl⟩
    ·have d3:(!decide ((k:Int)=n.bK))=true:=by rw [decide_eq_false hkn];rfl
     have hs1:=hseen (oX gc2 c) (by rw [if_neg hkn];exact hai.1)
     have c7:=qL true ⟨a % 60001,0⟩ (oX gc2 c) y.2
     rw [C4 _ _ _ (by dsimp only;omega) (by dsimp only;omega) (by omega) (by omega),hs1] at c7
     clear hseen hs1
     refine RM.fm (mu:=fun _=>false) ?_
     repeat' (first |((with_reducible show RM.wpOp _ _ (.convert _ _ _) _ _ _);refine qc rfl hc ?_) |refine u1 ?_ |refine u2 ?_ |fail)
     refine ax.aK (ah.to (l:=[(3,.pt (ay s) 0),(5,.pt [ob a,ob b,ob c,U8 d] 0),(7,.ptr 0 0 0),(9,ai (a % 60001)),(10,ai (k:Nat)),(12,.sl (L.map eP) false),(14,.ptr 1 0 0),(15,ai (oX gc2 c))]) (hp:=[.cells (aC n) 0 0,.cells (eP y) 0 0]) 2 rfl ⟨rfl,rfl,rfl,rfl,rfl,rfl,rfl,rfl,trivial⟩ (Nat.zero_le _) rfl rfl) ?_
     refine RM.fm (mu:=fun _=>false) ?_
     repeat' (first |refine u1 ?_ |refine u2 ?_ |fail)
     refine RM.fm (mu:=fun _=>false) ?_
     repeat' (first |((with_reducible show RM.wpOp _ _ (.convert _ _ _) _ _ _);refine Nn rfl hd ?_) |refine u1 ?_ |refine u2 ?_ |fail)
     clear c7 c6 c5 hai hck
     refine ax.aK (ah.to (l:=[(3,.pt (ay s) 0),(7,.ptr 0 0 0),(9,ai (a % 60001)),(10,ai (k:Nat)),(12,.sl (L.map eP) false),(16,BB true),(17,ai 0),(18,ai (d % ((s.ak.map aL).length:Int)))]) (hp:=[.cells (aC n) 0 0]) 1 rfl ⟨rfl,rfl,rfl,rfl,rfl,rfl,rfl,rfl,trivial⟩ (Nat.zero_le _) rfl rfl) ?_
     refine aa (mu:=fun _=>false) ?_
     by_cases hl:go1 < go2∨go1=go2∧g < k
     ·have hD:D=false:=by
       cases D with
       | false=>rfl
       | true =>
        rcases hoil rfl with e|e|e
        ·have:=hgk e;omega
        ·omega
        ·omega
      subst hD
      clear hoil
      rcases hl with hl|⟨hl,hl2⟩
      ·have d4:decide (go1 < go2)=true:=decide_eq_true hl
       repeat' (first |refine u1 ?_ |refine u2 ?_ |fail)
       exact ⟨[_],⟨Fz.deep rfl,trivial⟩,rfl⟩
      ·have d4:decide (go1 < go2)=false:=decide_eq_false (by omega)
       have d5:decide (go1=go2)=true:=decide_eq_true hl
       have d6:decide (d % ((s.ak.map aL).length:Int) < (k:Int))=true:=decide_eq_true (by omega)
       have d7:(!decide (d % ((s.ak.map aL).length:Int) < (k:Int)))=false:=by rw [d6];rfl
       repeat' (first |refine u1 ?_ |refine u2 ?_ |fail)
       exact ⟨[_],⟨Fz.deep rfl,trivial⟩,rfl⟩
     ·clear hoil
      have d4:decide (go1 < go2)=false:=decide_eq_false (by omega)
      by_cases hl2:go1=go2
      ·have d5:decide (go1=go2)=true:=decide_eq_true hl2
       have d6:decide (d % ((s.ak.map aL).length:Int) < (k:Int))=false:=decide_eq_false (by omega)
       have d7:(!decide (d % ((s.ak.map aL).length:Int) < (k:Int)))=true:=by rw [d6];rfl
       clear hl
       repeat' (first |refine u1 ?_ |refine u2 ?_ |fail)
       exact ⟨[_],⟨Fz.deep rfl,trivial⟩,rfl⟩
      ·have d5:decide (go1=go2)=false:=decide_eq_false hl2
       clear hl
       repeat' (first |refine u1 ?_ |refine u2 ?_ |fail)
       exact ⟨[_],⟨Fz.deep rfl,trivial⟩,rfl⟩
 ·rw [decide_eq_false h0] at c1
  have hg:nJ s n rs (a % 60001)=(0,(aD s n rs).2):=by unfold nJ;rw [if_pos h0]
  rw [hg] at c2
  generalize (aD s n rs).2=z at *
  have d0:(!decide (z=0))=true:=by rw [decide_eq_false h0];rfl
  refine af.body (fn:=Tryz.f12) rfl rfl rfl rfl ?_
  refine aa (mu:=fun _=>false) ?_
  repeat' (first |((with_reducible show RM.wpOp _ _ (.convert _ _ _) _ _ _);refine qc rfl ha ?_) |refine u1 ?_ |refine u2 ?_ |fail)
  exact ⟨[_],⟨Fz.deep rfl,trivial⟩,rfl⟩
end Go.Proofs.YtichbhmnhkegiaaGreat
