/-
  Contracts of the program's functions and of the document's. Lemmas alone; their conditions stand in them.
-/
import Derived.Test.YtichbhmnhkegiaaGreatK7
import Derived.Test.YtichbhmnhkegiaaGreatK9
import Derived.Test.YtichbhmnhkegiaaGreatK12
open Go Go.RM Go.AirLaw
namespace Go.Proofs.YtichbhmnhkegiaaGreat
set_option maxRecDepth 100000
set_option maxHeartbeats 4000000
def bL (aB:Bool) (n:aA) (rs:List av) (x:Int × Int) (i:Nat):Bool:=match rs[i]? with
 | some r=>!sQ aB n x r
 | none=>false
def jC (aB:Bool) (n:aA) (rs:List av) (x:Int × Int):Int:=(cP (bL aB n rs x) rs.length:Nat)
def nX (f:Int × Int→Int) (L:List (Int × Int)):oL:=L.foldl (fun E x=>uX (f x) E) []
theorem kQ (f:Int × Int→Int) (L:List (Int × Int)) (x:Int × Int):nX f (L++[x])=uX (f x) (nX f L):=by unfold nX;rw [List.foldl_append];rfl
theorem y5 (f:Int × Int→Int) (L:List (Int × Int)):AH (nX f L) L.length:=by
 induction hn:L.length generalizing L with
 | zero=>rw [List.length_eq_zero_iff.1 hn];intro x hx;cases hx
 | succ n ih =>
  have hL:L ≠ []:=fun h=>by rw [h] at hn;cases hn
  obtain ⟨l,x,rfl⟩:∃ l x,L=l++[x]:=⟨L.dropLast,L.getLast hL,(List.dropLast_concat_getLast hL).symm⟩
  rw [kQ]
  rw [List.length_append,List.length_singleton] at hn
  exact H7 (ih l (by omega)) _
theorem pW {f:Int × Int→Int}:∀ {L:List (Int × Int)} {x:Int × Int},x ∈ nX f L→∃ t ∈ L,f t=x.1:=by
 intro L
 induction hn:L.length generalizing L with
 | zero=>rw [List.length_eq_zero_iff.1 hn];intro x hx;cases hx
 | succ n ih =>
  have hL:L ≠ []:=fun h=>by rw [h] at hn;cases hn
  obtain ⟨l,y,rfl⟩:∃ l x,L=l++[x]:=⟨L.dropLast,L.getLast hL,(List.dropLast_concat_getLast hL).symm⟩
  rw [List.length_append,List.length_singleton] at hn
  intro x hx
  rw [kQ] at hx
  rcases CB hx with h|⟨h,_⟩
  ·obtain ⟨t,ht,e⟩:=ih (by omega) h
   exact ⟨t,List.mem_append_left _ ht,e⟩
  ·exact ⟨y,List.mem_append_right _ (by simp),h.symm⟩
theorem y6 {f:Int × Int→Int}:∀ {L:List (Int × Int)} {t:Int × Int},t ∈ L→∃ x ∈ nX f L,x.1=f t:=by
 intro L
 induction hn:L.length generalizing L with
 | zero=>rw [List.length_eq_zero_iff.1 hn];intro x hx;cases hx
 | succ n ih =>
  have hL:L ≠ []:=fun h=>by rw [h] at hn;cases hn
  obtain ⟨l,y,rfl⟩:∃ l x,L=l++[x]:=⟨L.dropLast,L.getLast hL,(List.dropLast_concat_getLast hL).symm⟩
  rw [List.length_append,List.length_singleton] at hn
  intro t ht
  rw [kQ]
  rcases List.mem_append.1 ht with h|h
  ·obtain ⟨x,hx,e⟩:=ih (by omega) h
   obtain ⟨z,hz,e'⟩:=D0 (k:=f y) hx
   exact ⟨z,hz,e'.trans e⟩
  ·rw [List.mem_singleton.1 h]
   exact CC _ _
theorem AS (E:oL):([mB E,mC]:List AB).all (AB.cJ 2)=true:=by
 have h:AB.cJ 2 (mB E)=true:=oO 2 E 0
 have h':AB.cJ 2 mC=true:=rfl
 simp only [List.all_cons,List.all_nil,h,h',Bool.and_true]
theorem jD (E:oL) (x:Int × Int):([mB E,mC,.cells [ai x.1,ai x.2] 0 0]:List AB).all (AB.cJ 3)=true:=by
 have h:AB.cJ 3 (mB E)=true:=oO 3 E 0
 have h':AB.cJ 3 mC=true:=rfl
 have h2:AB.cJ 3 (.cells [ai x.1,ai x.2] 0 0)=true:=rfl
 simp only [List.all_cons,List.all_nil,h,h',h2,Bool.and_true]
theorem AU {p:Nat→Bool} {k:Nat} (h:p k=true):cP p k ||| 2 ^ k=cP p (k+1):=by
 have h2:=Nat.two_pow_add_eq_or_of_lt (kL p k) 1
 rw [Nat.mul_one] at h2
 rw [Nat.or_comm,←h2]
 show 2 ^ k+cP p k=cP p k+if p k=true then 2 ^ k else 0
 rw [if_pos h,Nat.add_comm]
theorem tV {p:Nat→Bool} {k:Nat} (h:p k=false):cP p (k+1)=cP p k:=by
 show cP p k+(if p k=true then 2 ^ k else 0)=cP p k
 rw [if_neg (by simp [h]),Nat.add_zero]
theorem Gp (s:au) (n:aA) (rs:List av) (f:Bool) (h:jW s n rs) (gf:FuncId) (ga gb:List AV) (L:List (Int × Int)) (hgen:lX TT TB false (.fn gf ga gb) (L.map jP)) (hL:∀ x ∈ L,qQ false x) (hlen:L.length≤100000) (t:Int × Int) (ht:t ∈ L) (hmin:∀ u ∈ L,¬ gv (aO (bL false n rs u) 0 rs.length) (aO (bL false n rs t) 0 rs.length)):Pu false 101 [.ag (bS s n rs f),.fn gf ga gb,BB false] (.sl ((aO (bL false n rs t) 0 rs.length).map eI) false):=by
 obtain ⟨m,hm⟩:∃ m:Int,m=rs.length:=⟨_,rfl⟩
 have er:((rs.map aj).length:Int)=m:=by rw [hm];simp
 have h8:=h.JL
 refine af.body (fn:=Tryz.f101) rfl rfl rfl rfl ?_
 refine RM.fm (mu:=fun _=>false) ?_
 repeat' (first |refine u1 ?_ |fail)
 refine RM.fm (mu:=fun _=>false) ?_
 repeat' (first |refine u1 ?_ |refine u2 ?_ |fail)
 refine ax.seq ?_
 refine RM.fm (mu:=fun _=>false) ?_
 repeat' (first |refine u1 ?_ |fail)
 refine ax.block ?_
 refine ax.range (fun i=>[mB (nX (jC false n rs) (L.take i)),mC]) (fun _=>aV.none) (fun _=>True) rfl hgen rfl rfl trivial (fun i x hx _=>?_) (fun _=>?_)
 ·obtain ⟨x,hxi,rfl⟩:=wR hx
  have hil:=(List.getElem?_eq_some_iff.1 hxi).1
  have hxb:=hL x (List.mem_of_getElem? hxi)
  unfold qQ at hxb
  have hte:L.take (i+1)=L.take i++[x]:=eN hxi
  have hbd:=y5 (jC false n rs) (L.take i)
  have hll:(L.take i).length≤100000:=by rw [List.length_take];omega
  rw [hte,kQ]
  generalize nX (jC false n rs) (L.take i)=E at *
  refine ⟨rfl,?_⟩
  refine aa (mu:=fun _=>false) ?_
  repeat' (first |refine u1 ?_ |refine u2 ?_ |fail)
  refine aa (mu:=fun _=>false) ?_
  repeat' (first |refine u1 ?_ |fail)
  generalize hp:bL false n rs x=p
  have hmask:jC false n rs x=(cP p rs.length:Nat):=by rw [←hp];rfl
  refine ax.aK (ah.to (l:=[(3,.pt (bS s n rs f) 0),(5,.pt [BB false] 0),(7,.ptr 1 0 0),(8,.ptr 2 0 0),(9,ai (cP p 0:Nat)),(20,.sl (rs.map aj) f),(21,ai m),(22,ai (0:Nat))]) (hp:=[mB E,mC,.cells [ai x.1,ai x.2] 0 0]) 3 rfl ⟨rfl,rfl,rfl,rfl,rfl,rfl,aR er,rfl,trivial⟩ (Nat.le_of_ble_eq_true rfl) rfl (jD E x)) ?_
  refine ax.loop (fun k:Nat=>k≤rs.length) (fun k=>⟨aF [(3,.pt (bS s n rs f) 0),(5,.pt [BB false] 0),(7,.ptr 1 0 0),(8,.ptr 2 0 0),(9,ai (cP p k:Nat)),(20,.sl (rs.map aj) f),(21,ai m),(22,ai (k:Nat))],[mB E,mC,.cells [ai x.1,ai x.2] 0 0],aV.none,true,2⟩) (fun k=>rs.length - k) ?_ 0 (Nat.zero_le _)
  intro k hk
  refine aa (mu:=fun _=>false) ?_
  have hbl:=kL p k
  have h2k:2 ^ k≤2 ^ 8:=Nat.pow_le_pow_right (by decide) (by omega)
  by_cases hlt:k < rs.length
  ·have d1:decide ((k:Int) < m)=true:=decide_eq_true (by omega)
   have hat:(rs.map aj)[((k:Nat):Int).toNat]?=some (aj rs[k]):=bO hlt
   have hx1:=h.rx rs[k] (List.getElem_mem hlt)
   have hy1:=h.ry rs[k] (List.getElem_mem hlt)
   have hnx:=h.x
   have hny:=h.y
   have hpk:p k=!sQ false n x rs[k]:=by
    rw [←hp]
    unfold bL
    rw [List.getElem?_eq_getElem hlt]
   unfold sQ jn CI at hpk
   generalize rs[k]=r at *
   obtain ⟨⟨px,py⟩,hn,ys⟩:=r
   dsimp only at hx1 hy1 hpk
   cases hn with
   | true =>
    have hpf:p k=false:=by rw [hpk];rfl
    have hbt:=tV hpf
    repeat' (first |refine u1 ?_ |refine u2 ?_ |fail)
    refine ⟨k+1,hlt,(by dsimp only;omega),?_⟩
    show ah _ ⟨aF [(3,.pt (bS s n rs f) 0),(5,.pt [BB false] 0),(7,.ptr 1 0 0),(8,.ptr 2 0 0),(9,ai (cP p (k+1):Nat)),(20,.sl (rs.map aj) f),(21,ai m),(22,ai ((k+1):Nat))],[mB E,mC,.cells [ai x.1,ai x.2] 0 0],aV.none,true,2⟩
    rw [hbt]
    exact ah.to 3 rfl ⟨rfl,rfl,rfl,rfl,rfl,rfl,rfl,aR (by simp),trivial⟩ (Nat.le_of_ble_eq_true rfl) rfl (jD E x)
   | false =>
    have hnv:=mM true s n rs f ⟨px,py⟩ (by omega) (by dsimp only;omega)
    have hmt:=pR (a:=[.ag [ai x.1,ai x.2]]) (l:=[.ag [ai (px - n.pos.x),ai (py - n.pos.y)]]) (wQ true x.1 x.2 (px - n.pos.x) (py - n.pos.y) (by simp at hxb;omega) (by simp at hxb;omega) (by omega) (by omega))
    dsimp only at hnv
    rw [show (if false=true then aY else bz)=bz from rfl] at hpk
    generalize bz (px - n.pos.x) (py - n.pos.y) x.1 x.2=v at *
    cases v <;> cases ys
    ·have hpf:p k=false:=by rw [hpk];rfl
     have hbt:=tV hpf
     repeat' (first |((with_reducible show dN _ _ _ _ _ _ _ _ _ _);refine RM.nm hmt rfl rfl rfl rfl ?_) |refine u1 ?_ |refine u2 ?_ |fail)
     refine ⟨k+1,hlt,(by dsimp only;omega),?_⟩
     show ah _ ⟨aF [(3,.pt (bS s n rs f) 0),(5,.pt [BB false] 0),(7,.ptr 1 0 0),(8,.ptr 2 0 0),(9,ai (cP p (k+1):Nat)),(20,.sl (rs.map aj) f),(21,ai m),(22,ai ((k+1):Nat))],[mB E,mC,.cells [ai x.1,ai x.2] 0 0],aV.none,true,2⟩
     rw [hbt]
     exact ah.to 3 rfl ⟨rfl,rfl,rfl,rfl,rfl,rfl,rfl,aR (by simp),trivial⟩ (Nat.le_of_ble_eq_true rfl) rfl (jD E x)
    ·have hpt:p k=true:=by rw [hpk];rfl
     have hbt:=AU hpt
     repeat' (first |((with_reducible show dN _ _ _ _ _ _ _ _ _ _);refine RM.nm hmt rfl rfl rfl rfl ?_) |((with_reducible show cI _ _ _ _ _ _ _ _ _);first|refine RM.Aq rfl rfl (by omega) ?_|refine RM.Mh rfl rfl (by omega) (by omega) ?_) |refine u1 ?_ |refine u2 ?_ |fail)
     refine ⟨k+1,hlt,(by dsimp only;omega),?_⟩
     show ah _ ⟨aF [(3,.pt (bS s n rs f) 0),(5,.pt [BB false] 0),(7,.ptr 1 0 0),(8,.ptr 2 0 0),(9,ai (cP p (k+1):Nat)),(20,.sl (rs.map aj) f),(21,ai m),(22,ai ((k+1):Nat))],[mB E,mC,.cells [ai x.1,ai x.2] 0 0],aV.none,true,2⟩
     rw [←hbt]
     exact ah.to 3 rfl ⟨rfl,rfl,rfl,rfl,rfl,rfl,rfl,aR (by simp),trivial⟩ (Nat.le_of_ble_eq_true rfl) rfl (jD E x)
    ·have hpt:p k=true:=by rw [hpk];rfl
     have hbt:=AU hpt
     repeat' (first |((with_reducible show dN _ _ _ _ _ _ _ _ _ _);refine RM.nm hmt rfl rfl rfl rfl ?_) |((with_reducible show cI _ _ _ _ _ _ _ _ _);first|refine RM.Aq rfl rfl (by omega) ?_|refine RM.Mh rfl rfl (by omega) (by omega) ?_) |refine u1 ?_ |refine u2 ?_ |fail)
     refine ⟨k+1,hlt,(by dsimp only;omega),?_⟩
     show ah _ ⟨aF [(3,.pt (bS s n rs f) 0),(5,.pt [BB false] 0),(7,.ptr 1 0 0),(8,.ptr 2 0 0),(9,ai (cP p (k+1):Nat)),(20,.sl (rs.map aj) f),(21,ai m),(22,ai ((k+1):Nat))],[mB E,mC,.cells [ai x.1,ai x.2] 0 0],aV.none,true,2⟩
     rw [←hbt]
     exact ah.to 3 rfl ⟨rfl,rfl,rfl,rfl,rfl,rfl,rfl,aR (by simp),trivial⟩ (Nat.le_of_ble_eq_true rfl) rfl (jD E x)
    ·have hpf:p k=false:=by rw [hpk];rfl
     have hbt:=tV hpf
     repeat' (first |((with_reducible show dN _ _ _ _ _ _ _ _ _ _);refine RM.nm hmt rfl rfl rfl rfl ?_) |refine u1 ?_ |refine u2 ?_ |fail)
     refine ⟨k+1,hlt,(by dsimp only;omega),?_⟩
     show ah _ ⟨aF [(3,.pt (bS s n rs f) 0),(5,.pt [BB false] 0),(7,.ptr 1 0 0),(8,.ptr 2 0 0),(9,ai (cP p (k+1):Nat)),(20,.sl (rs.map aj) f),(21,ai m),(22,ai ((k+1):Nat))],[mB E,mC,.cells [ai x.1,ai x.2] 0 0],aV.none,true,2⟩
     rw [hbt]
     exact ah.to 3 rfl ⟨rfl,rfl,rfl,rfl,rfl,rfl,rfl,aR (by simp),trivial⟩ (Nat.le_of_ble_eq_true rfl) rfl (jD E x)
  ·have d1:decide ((k:Int) < m)=false:=decide_eq_false (by omega)
   have hkn:k=rs.length:=by omega
   subst hkn
   rw [hmask]
   have hmv:=qM hbd (cP p rs.length:Nat)
   repeat' (first |refine E9 rfl rfl rfl ?_ |refine H6 rfl rfl rfl rfl rfl ?_ |refine u1 ?_ |refine u2 ?_ |fail)
   exact ⟨_,ah.to (l:=[]) 2 rfl trivial (Nat.le_of_ble_eq_true rfl) rfl (AS _)⟩
 ·rw [List.length_map,List.take_length]
  refine ax.aK (ah.to (l:=[(3,.pt (bS s n rs f) 0),(6,.fl (.slice none 0 0)),(7,.ptr 1 0 0)]) (hp:=[mB (nX (jC false n rs) L),mC]) 2 rfl ⟨rfl,rfl,rfl,trivial⟩ (Nat.zero_le _) rfl (AS _)) ?_
  refine x8 h8 (fun x hx=>?_) ?_ (fun x hx=>?_)
  ·obtain ⟨u,_,e⟩:=pW hx
   have hl:=kL (bL false n rs u) rs.length
   have h2:2 ^ rs.length≤2 ^ 8:=Nat.pow_le_pow_right (by decide) h8
   exact ⟨_,by omega,e.symm⟩
  ·obtain ⟨x,hx,e⟩:=y6 (f:=jC false n rs) ht
   exact ⟨x,hx,by rw [e];exact sM _ _⟩
  ·obtain ⟨u,hu,e⟩:=pW hx
   rw [←e]
   show ¬ gv (oP rs.length (cP (bL false n rs u) rs.length:Nat)) _
   rw [sM]
   exact hmin u hu
theorem Gq (s:au) (n:aA) (rs:List av) (f:Bool) (h:jW s n rs) (gf:FuncId) (ga gb:List AV) (L:List (Int × Int)) (hgen:lX TT TB false (.fn gf ga gb) (L.map jP)) (hL:∀ x ∈ L,qQ true x) (hlen:L.length≤100000) (t:Int × Int) (ht:t ∈ L) (hmin:∀ u ∈ L,¬ gv (aO (bL true n rs u) 0 rs.length) (aO (bL true n rs t) 0 rs.length)):Pu false 102 [.ag (bS s n rs f),.fn gf ga gb,BB true] (.sl ((aO (bL true n rs t) 0 rs.length).map eI) false):=by
 obtain ⟨m,hm⟩:∃ m:Int,m=rs.length:=⟨_,rfl⟩
 have er:((rs.map aj).length:Int)=m:=by rw [hm];simp
 have h8:=h.JL
 refine af.body (fn:=Tryz.f102) rfl rfl rfl rfl ?_
 refine RM.fm (mu:=fun _=>false) ?_
 repeat' (first |refine u1 ?_ |fail)
 refine RM.fm (mu:=fun _=>false) ?_
 repeat' (first |refine u1 ?_ |refine u2 ?_ |fail)
 refine ax.seq ?_
 refine RM.fm (mu:=fun _=>false) ?_
 repeat' (first |refine u1 ?_ |fail)
 refine ax.block ?_
 refine ax.range (fun i=>[mB (nX (jC true n rs) (L.take i)),mC]) (fun _=>aV.none) (fun _=>True) rfl hgen rfl rfl trivial (fun i x hx _=>?_) (fun _=>?_)
 ·obtain ⟨x,hxi,rfl⟩:=wR hx
  have hil:=(List.getElem?_eq_some_iff.1 hxi).1
  have hxb:=hL x (List.mem_of_getElem? hxi)
  unfold qQ at hxb
  have hte:L.take (i+1)=L.take i++[x]:=eN hxi
  have hbd:=y5 (jC true n rs) (L.take i)
  have hll:(L.take i).length≤100000:=by rw [List.length_take];omega
  rw [hte,kQ]
  generalize nX (jC true n rs) (L.take i)=E at *
  refine ⟨rfl,?_⟩
  refine aa (mu:=fun _=>false) ?_
  repeat' (first |refine u1 ?_ |refine u2 ?_ |fail)
  refine aa (mu:=fun _=>false) ?_
  repeat' (first |refine u1 ?_ |fail)
  generalize hp:bL true n rs x=p
  have hmask:jC true n rs x=(cP p rs.length:Nat):=by rw [←hp];rfl
  refine ax.aK (ah.to (l:=[(3,.pt (bS s n rs f) 0),(5,.pt [BB true] 0),(7,.ptr 1 0 0),(8,.ptr 2 0 0),(9,ai (cP p 0:Nat)),(20,.sl (rs.map aj) f),(21,ai m),(22,ai (0:Nat))]) (hp:=[mB E,mC,.cells [ai x.1,ai x.2] 0 0]) 3 rfl ⟨rfl,rfl,rfl,rfl,rfl,rfl,aR er,rfl,trivial⟩ (Nat.le_of_ble_eq_true rfl) rfl (jD E x)) ?_
  refine ax.loop (fun k:Nat=>k≤rs.length) (fun k=>⟨aF [(3,.pt (bS s n rs f) 0),(5,.pt [BB true] 0),(7,.ptr 1 0 0),(8,.ptr 2 0 0),(9,ai (cP p k:Nat)),(20,.sl (rs.map aj) f),(21,ai m),(22,ai (k:Nat))],[mB E,mC,.cells [ai x.1,ai x.2] 0 0],aV.none,true,2⟩) (fun k=>rs.length - k) ?_ 0 (Nat.zero_le _)
  intro k hk
  refine aa (mu:=fun _=>false) ?_
  have hbl:=kL p k
  have h2k:2 ^ k≤2 ^ 8:=Nat.pow_le_pow_right (by decide) (by omega)
  by_cases hlt:k < rs.length
  ·have d1:decide ((k:Int) < m)=true:=decide_eq_true (by omega)
   have hat:(rs.map aj)[((k:Nat):Int).toNat]?=some (aj rs[k]):=bO hlt
   have hx1:=h.rx rs[k] (List.getElem_mem hlt)
   have hy1:=h.ry rs[k] (List.getElem_mem hlt)
   have hnx:=h.x
   have hny:=h.y
   have hpk:p k=!sQ true n x rs[k]:=by
    rw [←hp]
    unfold bL
    rw [List.getElem?_eq_getElem hlt]
   unfold sQ jn CI at hpk
   generalize rs[k]=r at *
   obtain ⟨⟨px,py⟩,hn,ys⟩:=r
   dsimp only at hx1 hy1 hpk
   cases hn with
   | false =>
    have hpf:p k=false:=by rw [hpk];rfl
    have hbt:=tV hpf
    repeat' (first |refine u1 ?_ |refine u2 ?_ |fail)
    refine ⟨k+1,hlt,(by dsimp only;omega),?_⟩
    show ah _ ⟨aF [(3,.pt (bS s n rs f) 0),(5,.pt [BB true] 0),(7,.ptr 1 0 0),(8,.ptr 2 0 0),(9,ai (cP p (k+1):Nat)),(20,.sl (rs.map aj) f),(21,ai m),(22,ai ((k+1):Nat))],[mB E,mC,.cells [ai x.1,ai x.2] 0 0],aV.none,true,2⟩
    rw [hbt]
    exact ah.to 3 rfl ⟨rfl,rfl,rfl,rfl,rfl,rfl,rfl,aR (by simp),trivial⟩ (Nat.le_of_ble_eq_true rfl) rfl (jD E x)
   | true =>
    have hnv:=mM true s n rs f ⟨px,py⟩ (by omega) (by dsimp only;omega)
    have hmt:=pR (a:=[.ag [ai x.1,ai x.2]]) (l:=[.ag [ai (px - n.pos.x),ai (py - n.pos.y)]]) (Ay true x.1 x.2 (px - n.pos.x) (py - n.pos.y) (by simp at hxb;omega) (by simp at hxb;omega) (by omega) (by omega))
    dsimp only at hnv
    rw [show (if true=true then aY else bz)=aY from rfl] at hpk
    generalize aY (px - n.pos.x) (py - n.pos.y) x.1 x.2=v at *
    cases v <;> cases ys
    ·have hpf:p k=false:=by rw [hpk];rfl
     have hbt:=tV hpf
     repeat' (first |((with_reducible show dN _ _ _ _ _ _ _ _ _ _);refine RM.nm hmt rfl rfl rfl rfl ?_) |refine u1 ?_ |refine u2 ?_ |fail)
     refine ⟨k+1,hlt,(by dsimp only;omega),?_⟩
     show ah _ ⟨aF [(3,.pt (bS s n rs f) 0),(5,.pt [BB true] 0),(7,.ptr 1 0 0),(8,.ptr 2 0 0),(9,ai (cP p (k+1):Nat)),(20,.sl (rs.map aj) f),(21,ai m),(22,ai ((k+1):Nat))],[mB E,mC,.cells [ai x.1,ai x.2] 0 0],aV.none,true,2⟩
     rw [hbt]
     exact ah.to 3 rfl ⟨rfl,rfl,rfl,rfl,rfl,rfl,rfl,aR (by simp),trivial⟩ (Nat.le_of_ble_eq_true rfl) rfl (jD E x)
    ·have hpt:p k=true:=by rw [hpk];rfl
     have hbt:=AU hpt
     repeat' (first |((with_reducible show dN _ _ _ _ _ _ _ _ _ _);refine RM.nm hmt rfl rfl rfl rfl ?_) |((with_reducible show cI _ _ _ _ _ _ _ _ _);first|refine RM.Aq rfl rfl (by omega) ?_|refine RM.Mh rfl rfl (by omega) (by omega) ?_) |refine u1 ?_ |refine u2 ?_ |fail)
     refine ⟨k+1,hlt,(by dsimp only;omega),?_⟩
     show ah _ ⟨aF [(3,.pt (bS s n rs f) 0),(5,.pt [BB true] 0),(7,.ptr 1 0 0),(8,.ptr 2 0 0),(9,ai (cP p (k+1):Nat)),(20,.sl (rs.map aj) f),(21,ai m),(22,ai ((k+1):Nat))],[mB E,mC,.cells [ai x.1,ai x.2] 0 0],aV.none,true,2⟩
     rw [←hbt]
     exact ah.to 3 rfl ⟨rfl,rfl,rfl,rfl,rfl,rfl,rfl,aR (by simp),trivial⟩ (Nat.le_of_ble_eq_true rfl) rfl (jD E x)
    ·have hpt:p k=true:=by rw [hpk];rfl
     have hbt:=AU hpt
     repeat' (first |((with_reducible show dN _ _ _ _ _ _ _ _ _ _);refine RM.nm hmt rfl rfl rfl rfl ?_) |((with_reducible show cI _ _ _ _ _ _ _ _ _);first|refine RM.Aq rfl rfl (by omega) ?_|refine RM.Mh rfl rfl (by omega) (by omega) ?_) |refine u1 ?_ |refine u2 ?_ |fail)
     refine ⟨k+1,hlt,(by dsimp only;omega),?_⟩
     show ah _ ⟨aF [(3,.pt (bS s n rs f) 0),(5,.pt [BB true] 0),(7,.ptr 1 0 0),(8,.ptr 2 0 0),(9,ai (cP p (k+1):Nat)),(20,.sl (rs.map aj) f),(21,ai m),(22,ai ((k+1):Nat))],[mB E,mC,.cells [ai x.1,ai x.2] 0 0],aV.none,true,2⟩
     rw [←hbt]
     exact ah.to 3 rfl ⟨rfl,rfl,rfl,rfl,rfl,rfl,rfl,aR (by simp),trivial⟩ (Nat.le_of_ble_eq_true rfl) rfl (jD E x)
    ·have hpf:p k=false:=by rw [hpk];rfl
     have hbt:=tV hpf
     repeat' (first |((with_reducible show dN _ _ _ _ _ _ _ _ _ _);refine RM.nm hmt rfl rfl rfl rfl ?_) |refine u1 ?_ |refine u2 ?_ |fail)
     refine ⟨k+1,hlt,(by dsimp only;omega),?_⟩
     show ah _ ⟨aF [(3,.pt (bS s n rs f) 0),(5,.pt [BB true] 0),(7,.ptr 1 0 0),(8,.ptr 2 0 0),(9,ai (cP p (k+1):Nat)),(20,.sl (rs.map aj) f),(21,ai m),(22,ai ((k+1):Nat))],[mB E,mC,.cells [ai x.1,ai x.2] 0 0],aV.none,true,2⟩
     rw [hbt]
     exact ah.to 3 rfl ⟨rfl,rfl,rfl,rfl,rfl,rfl,rfl,aR (by simp),trivial⟩ (Nat.le_of_ble_eq_true rfl) rfl (jD E x)
  ·have d1:decide ((k:Int) < m)=false:=decide_eq_false (by omega)
   have hkn:k=rs.length:=by omega
   subst hkn
   rw [hmask]
   have hmv:=qM hbd (cP p rs.length:Nat)
   repeat' (first |refine E9 rfl rfl rfl ?_ |refine H6 rfl rfl rfl rfl rfl ?_ |refine u1 ?_ |refine u2 ?_ |fail)
   exact ⟨_,ah.to (l:=[]) 2 rfl trivial (Nat.le_of_ble_eq_true rfl) rfl (AS _)⟩
 ·rw [List.length_map,List.take_length]
  refine ax.aK (ah.to (l:=[(3,.pt (bS s n rs f) 0),(6,.fl (.slice none 0 0)),(7,.ptr 1 0 0)]) (hp:=[mB (nX (jC true n rs) L),mC]) 2 rfl ⟨rfl,rfl,rfl,trivial⟩ (Nat.zero_le _) rfl (AS _)) ?_
  refine x9 h8 (fun x hx=>?_) ?_ (fun x hx=>?_)
  ·obtain ⟨u,_,e⟩:=pW hx
   have hl:=kL (bL true n rs u) rs.length
   have h2:2 ^ rs.length≤2 ^ 8:=Nat.pow_le_pow_right (by decide) h8
   exact ⟨_,by omega,e.symm⟩
  ·obtain ⟨x,hx,e⟩:=y6 (f:=jC true n rs) ht
   exact ⟨x,hx,by rw [e];exact sM _ _⟩
  ·obtain ⟨u,hu,e⟩:=pW hx
   rw [←e]
   show ¬ gv (oP rs.length (cP (bL true n rs u) rs.length:Nat)) _
   rw [sM]
   exact hmin u hu
end Go.Proofs.YtichbhmnhkegiaaGreat
open Go Go.RM Go.AirLaw
namespace Go.Proofs.YtichbhmnhkegiaaGreat
set_option maxRecDepth 100000
set_option maxHeartbeats 4000000
theorem CJ {v:Int × Int→Int} {A B:Int} (hA:A≤0) (hB:0≤B) {L:List (Int × Int)} (h:∀ x ∈ L,A≤v x∧v x≤B):(A≤(aH v L).1.lo∧(aH v L).1.lo≤B)∧A≤(aH v L).1.hi∧(aH v L).1.hi≤B:=by
 unfold aH
 have key:∀ (L:List (Int × Int)) (z:Span × Bool),(∀ x ∈ L,A≤v x∧v x≤B)→(A≤z.1.lo∧z.1.lo≤B)∧A≤z.1.hi∧z.1.hi≤B→(A≤(L.foldl (e9 v) z).1.lo∧(L.foldl (e9 v) z).1.lo≤B)∧A≤(L.foldl (e9 v) z).1.hi∧(L.foldl (e9 v) z).1.hi≤B:=by
  intro L
  induction L with
  | nil=>intro z _ hz;exact hz
  | cons x l ih =>
   intro z hl hz
   rw [List.foldl_cons]
   refine ih _ (fun y hy=>hl y (List.mem_cons_of_mem _ hy)) ?_
   have hx:=hl x List.mem_cons_self
   unfold e9
   obtain ⟨⟨lo,hi⟩,b⟩:=z
   cases b <;> dsimp only [Bool.false_eq_true,if_false,if_true] at * <;> simp only [Bool.false_eq_true,if_false,if_true] <;> omega
 exact key L _ h ⟨⟨hA,hB⟩,hA,hB⟩
def i7 (z:Span × Bool):Int × Int:=if z.2=false then (0,9) else (z.1.lo+z.1.hi,0)
def jE (seen:Int→Int→Int→Int→Bool) (x y:Int) (p:Int × Int):Int:=if seen x y p.1 p.2=true then 1 else 0
theorem Ik (one:Bool) {s:au} {n:aA} {rs:List av} (f:Bool) (h:jW s n rs) (x y:Int) (hx:-60000≤x∧x≤60000) (hy:-60000≤y∧y≤60000) :
  Pu one 92 [Mz s n rs f,.ag [ai x,ai y]] (.tp [ai (i7 (aH (jE bz x y) (cZ s n rs))).1,ai (i7 (aH (jE bz x y) (cZ s n rs))).2]):=by
 have he:=pS one 127 [] [.pt [ai x,ai y] 0] rfl _ _ _ (jE bz x y) _ (h.gl one f) (fun z hz=>by
  have hb:=gR h hz
  exact HV one z.1 z.2 x y hb.1 hb.2 hx hy)
 have hb:=CJ (v:=jE bz x y) (A:=0) (B:=1) (by decide) (by decide) (L:=cZ s n rs) (fun z _=>by unfold jE;split <;> omega)
 generalize aH (jE bz x y) (cZ s n rs)=z at *
 obtain ⟨z1,b⟩:=z
 dsimp only at hb he
 cases b with
 | false =>
  refine af.body (fn:=Tryz.f92) rfl rfl rfl rfl ?_
  refine aa (mu:=fun _=>false) ?_
  repeat' (first |refine u1 ?_ |refine u2 ?_ |refine af.call he rfl rfl ?_ |fail)
  exact ⟨[_,_],⟨Fz.deep rfl,Fz.deep rfl,trivial⟩,rfl⟩
 | true =>
  refine af.body (fn:=Tryz.f92) rfl rfl rfl rfl ?_
  refine aa (mu:=fun _=>false) ?_
  repeat' (first |refine u1 ?_ |refine u2 ?_ |refine af.call he rfl rfl ?_ |fail)
  exact ⟨[_,_],⟨Fz.deep rfl,Fz.deep rfl,trivial⟩,rfl⟩
theorem Il (one:Bool) {s:au} {n:aA} {rs:List av} (f:Bool) (h:jW s n rs) (x y:Int) (hx:-60000≤x∧x≤60000) (hy:-60000≤y∧y≤60000) :
  Pu one 90 [MA s n rs f,.ag [ai x,ai y]] (.tp [ai (i7 (aH (jE aY x y) (iq s n rs))).1,ai (i7 (aH (jE aY x y) (iq s n rs))).2]):=by
 have he:=E6 one 126 [] [.pt [ai x,ai y] 0] rfl _ _ _ (jE aY x y) _ (h.gh one f) (fun z hz=>by
  have hb:=Gh h hz
  exact HW one z.1 z.2 x y hb.1 hb.2 hx hy)
 have hb:=CJ (v:=jE aY x y) (A:=0) (B:=1) (by decide) (by decide) (L:=iq s n rs) (fun z _=>by unfold jE;split <;> omega)
 generalize aH (jE aY x y) (iq s n rs)=z at *
 obtain ⟨z1,b⟩:=z
 dsimp only at hb he
 cases b with
 | false =>
  refine af.body (fn:=Tryz.f90) rfl rfl rfl rfl ?_
  refine aa (mu:=fun _=>false) ?_
  repeat' (first |refine u1 ?_ |refine u2 ?_ |refine af.call he rfl rfl ?_ |fail)
  exact ⟨[_,_],⟨Fz.deep rfl,Fz.deep rfl,trivial⟩,rfl⟩
 | true =>
  refine af.body (fn:=Tryz.f90) rfl rfl rfl rfl ?_
  refine aa (mu:=fun _=>false) ?_
  repeat' (first |refine u1 ?_ |refine u2 ?_ |refine af.call he rfl rfl ?_ |fail)
  exact ⟨[_,_],⟨Fz.deep rfl,Fz.deep rfl,trivial⟩,rfl⟩
def iy (s:au) (n:aA) (rs:List av) (p:Pt) (aB:Bool):Int × Int :=
 if (aD s n rs).2 ≠ 0 then (0,(aD s n rs).2)
 else if aX (-30000) 30000 [p.x,p.y]=true then (0,7)
 else if aB=true then i7 (aH (jE aY (p.x - n.pos.x) (p.y - n.pos.y)) (iq s n rs))
 else i7 (aH (jE bz (p.x - n.pos.x) (p.y - n.pos.y)) (cZ s n rs))
theorem vj (one:Bool) (s:au) (h:s.Ok) (n:aA) (rs:List av) (f:Bool) (hr:rs.length≤maxLen) (p:Pt) (aB:Bool) :
  Pu one 33 [.ag (ay s),.ag (aC n),.sl (rs.map aj) f,.ag (oG p),BB aB] (.tp [ai (iy s n rs p aB).1,ai (iy s n rs p aB).2]):=by
 have hen:=nF one s h n rs f hr
 have o1:=pP one (-30000) 30000 p.x p.y
 unfold iy
 by_cases e0:(aD s n rs).2=0
 ·rw [if_neg (by omega)]
  have ho:=cc e0
  rw [e0] at hen
  cases e1:aX (-30000) 30000 [p.x,p.y] with
  | true =>
   rw [e1] at o1
   refine af.body (fn:=Tryz.f33) rfl rfl rfl rfl ?_
   refine aa (mu:=fun _=>false) ?_
   repeat' (first |refine u1 ?_ |refine u2 ?_ |refine af.call hen rfl rfl ?_ |refine af.call o1 rfl rfl ?_ |fail)
   exact ⟨[_,_],⟨Fz.deep rfl,Fz.deep rfl,trivial⟩,rfl⟩
  | false =>
   rw [e1] at o1
   have bx:=(aZ.1 e1) p.x (by simp)
   have by':=(aZ.1 e1) p.y (by simp)
   have hx:=ho.x
   have hy:=ho.y
   have hv:=mM true s n rs f p (by omega) (by omega)
   cases aB with
   | true =>
    have c1:=AA true f ho
    have c2:=ho.ch true f
    have c3:=Il true f ho (p.x - n.pos.x) (p.y - n.pos.y) (by omega) (by omega)
    simp only [Bool.false_eq_true,if_false,if_true]
    generalize i7 (aH (jE aY (p.x - n.pos.x) (p.y - n.pos.y)) (iq s n rs))=z at *
    refine af.body (fn:=Tryz.f33) rfl rfl rfl rfl ?_
    refine aa (mu:=fun _=>false) ?_
    repeat' (first |refine af.call hen rfl rfl ?_ |refine af.call o1 rfl rfl ?_ |refine ⟨_,_,.inl ⟨rfl,rfl⟩,c1,?_⟩ |refine ⟨_,_,.inl ⟨rfl,rfl⟩,c2,?_⟩ |refine ⟨_,_,.inl ⟨rfl,rfl⟩,hv,?_⟩ |refine ⟨_,_,.inl ⟨rfl,rfl⟩,c3,?_⟩ |refine u1 ?_ |refine u2 ?_ |fail)
    exact ⟨[_,_],⟨Fz.deep rfl,Fz.deep rfl,trivial⟩,rfl⟩
   | false =>
    have c1:=mP true f ho
    have c2:=ho.cl true f
    have c3:=Ik true f ho (p.x - n.pos.x) (p.y - n.pos.y) (by omega) (by omega)
    simp only [Bool.false_eq_true,if_false]
    generalize i7 (aH (jE bz (p.x - n.pos.x) (p.y - n.pos.y)) (cZ s n rs))=z at *
    refine af.body (fn:=Tryz.f33) rfl rfl rfl rfl ?_
    refine aa (mu:=fun _=>false) ?_
    repeat' (first |refine af.call hen rfl rfl ?_ |refine af.call o1 rfl rfl ?_ |refine ⟨_,_,.inl ⟨rfl,rfl⟩,c1,?_⟩ |refine ⟨_,_,.inl ⟨rfl,rfl⟩,c2,?_⟩ |refine ⟨_,_,.inl ⟨rfl,rfl⟩,hv,?_⟩ |refine ⟨_,_,.inl ⟨rfl,rfl⟩,c3,?_⟩ |refine u1 ?_ |refine u2 ?_ |fail)
    exact ⟨[_,_],⟨Fz.deep rfl,Fz.deep rfl,trivial⟩,rfl⟩
 ·rw [if_pos (by omega)]
  have d0:(!decide ((aD s n rs).2=0))=true:=by rw [decide_eq_false e0];rfl
  refine af.body (fn:=Tryz.f33) rfl rfl rfl rfl ?_
  refine aa (mu:=fun _=>false) ?_
  repeat' (first |refine u1 ?_ |refine u2 ?_ |refine af.call hen rfl rfl ?_ |fail)
  exact ⟨[_,_],⟨Fz.deep rfl,Fz.deep rfl,trivial⟩,rfl⟩
def Fg (z:Span × Bool):Int × Int × Int:=if z.2=false then (0,0,9) else (z.1.lo,z.1.hi,0)
def bE (x:Int × Int):Int:=gn x.1 x.2
def qR (s:au) (n:aA) (rs:List av):Int × Int × Int :=
 if (aD s n rs).2 ≠ 0 then (0,0,(aD s n rs).2) else Fg (aH bE (cZ s n rs))
theorem Fh (one:Bool) (s:au) (h:s.Ok) (n:aA) (rs:List av) (f:Bool) (hr:rs.length≤maxLen) :
  Pu one 35 [.ag (ay s),.ag (aC n),.sl (rs.map aj) f] (.tp [ai (qR s n rs).1,ai (qR s n rs).2.1,ai (qR s n rs).2.2]):=by
 have hen:=nF one s h n rs f hr
 unfold qR
 by_cases e0:(aD s n rs).2=0
 ·rw [if_neg (by omega)]
  have ho:=cc e0
  rw [e0] at hen
  have c1:=mP true f ho
  have c2:=ho.cl true f
  have e1:=pS true 94 [] [] rfl _ _ _ bE _ (ho.gl true f) (fun x hx=>AD true x.1 x.2 (gR ho hx).1 (gR ho hx).2)
  generalize aH bE (cZ s n rs)=z at *
  obtain ⟨z1,z2⟩:=z
  dsimp only at e1
  cases z2 with
  | false =>
   refine af.body (fn:=Tryz.f35) rfl rfl rfl rfl ?_
   refine aa (mu:=fun _=>false) ?_
   repeat' (first |refine af.call hen rfl rfl ?_ |refine ⟨_,_,.inl ⟨rfl,rfl⟩,c1,?_⟩ |refine ⟨_,_,.inl ⟨rfl,rfl⟩,c2,?_⟩ |refine ⟨_,_,.inl ⟨rfl,rfl⟩,e1,?_⟩ |refine u1 ?_ |refine u2 ?_ |refine ⟨fun _=>?_,fun h=>absurd h (by decide)⟩ |fail)
   exact ⟨[_,_,_],⟨Fz.deep rfl,Fz.deep rfl,Fz.deep rfl,trivial⟩,rfl⟩
  | true =>
   refine af.body (fn:=Tryz.f35) rfl rfl rfl rfl ?_
   refine aa (mu:=fun _=>false) ?_
   repeat' (first |refine af.call hen rfl rfl ?_ |refine ⟨_,_,.inl ⟨rfl,rfl⟩,c1,?_⟩ |refine ⟨_,_,.inl ⟨rfl,rfl⟩,c2,?_⟩ |refine ⟨_,_,.inl ⟨rfl,rfl⟩,e1,?_⟩ |refine u1 ?_ |refine u2 ?_ |refine ⟨fun h=>absurd h (by decide),fun _=>?_⟩ |fail)
   exact ⟨[_,_,_],⟨Fz.deep rfl,Fz.deep rfl,Fz.deep rfl,trivial⟩,rfl⟩
 ·rw [if_pos (by omega)]
  have d0:(!decide ((aD s n rs).2=0))=true:=by rw [decide_eq_false e0];rfl
  refine af.body (fn:=Tryz.f35) rfl rfl rfl rfl ?_
  refine aa (mu:=fun _=>false) ?_
  repeat' (first |refine u1 ?_ |refine u2 ?_ |refine af.call hen rfl rfl ?_ |fail)
  exact ⟨[_,_,_],⟨Fz.deep rfl,Fz.deep rfl,Fz.deep rfl,trivial⟩,rfl⟩
end Go.Proofs.YtichbhmnhkegiaaGreat
