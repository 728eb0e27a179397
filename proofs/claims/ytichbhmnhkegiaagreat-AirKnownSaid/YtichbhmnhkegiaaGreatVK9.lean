/-
  Contracts of the program's functions and of the document's. Lemmas alone; their conditions stand in them.
-/
import Derived.Test.YtichbhmnhkegiaaGreatVK8
open Go Go.RM Go.AirLaw
namespace Go.Proofs.YtichbhmnhkegiaaGreat
set_option maxRecDepth 100000
set_option maxHeartbeats 4000000
def CL (cN:Bool):Int→Int→Int→Int→Bool:=if cN=true then bA else ct
def zC (cN:Bool) (x:Int × Int):Prop:=if cN=true then (0≤x.1∧x.1≤300)∧0≤x.2∧x.2≤31 else (0≤x.1∧x.1≤5000)∧0≤x.2∧x.2≤300
def EJ (n:aE) (p:Pt) (x:Int × Int) (cN:Bool):Bool:=CL cN (p.x - n.pos.x) (p.y - n.pos.y) x.1 x.2
def EK (cN:Bool) (n:aE) (x:Int × Int) (r:aA):Bool:=!(r.cN == cN) || (EJ n r.pos x cN == r.yes)
structure GF (n:aE) (rs:List aA):Prop where
 x:∀ r ∈ rs,-60000≤r.pos.x - n.pos.x∧r.pos.x - n.pos.x≤60000
 y:∀ r ∈ rs,-60000≤r.pos.y - n.pos.y∧r.pos.y - n.pos.y≤60000
def EL (s:au) (n:aE) (cN:Bool):List (Int × Int):=if cN=true then kX s n else iw s n
def wE (s:au) (n:aE) (rs:List aA) (cN:Bool):List (Int × Int):=(EL s n cN).filter fun x=>rs.all (EK cN n x)
theorem CM (s:au) (n:aE) (rs:List aA):wE s n rs false=cC s n rs:=rfl
theorem nG.F8 {s:au} {n:aE} {rs:List aA} (h:nG s n rs) {cN:Bool} {x:Int × Int} (hx:x ∈ EL s n cN):zC cN x:=by
 cases cN with
 | true=>have:=h.hb x hx;unfold zC;rw [if_pos rfl];omega
 | false=>have:=h.lb x hx;unfold zC;rw [if_neg (by simp)];omega
theorem At {s:au} {n:aE} {rs:List aA} (h:nG s n rs) (cN:Bool):(EL s n cN).length≤100000:=by
 cases cN with
 | true =>
  show (kX s n).length≤_
  have h1:=h.mM.bW
  have h2:=h.eK
  unfold kX
  rw [kB,bV,bV]
  have a1:bU s.bW≤200:=by unfold bU;omega
  have a2:bU ⟨n.eT,n.eT+n.eK - 1⟩≤32:=by unfold bU;dsimp only;omega
  exact Nat.le_trans (Nat.mul_le_mul a1 a2) (by decide)
 | false =>
  show (iw s n).length≤_
  have h1:=h.mM.cand _ h.mem
  have h2:=h.mM.clear
  unfold iw
  rw [kB,bV,bV]
  have a1:bU (gr s n.cM).cand≤41:=by unfold bU;omega
  have a2:bU s.clear≤300:=by unfold bU;omega
  exact Nat.le_trans (Nat.mul_le_mul a1 a2) (by decide)
end Go.Proofs.YtichbhmnhkegiaaGreat
open Go Go.RM Go.AirLaw
namespace Go.Proofs.YtichbhmnhkegiaaGreat
set_option maxRecDepth 100000
set_option maxHeartbeats 4000000
def cu (cN:Bool) (n:aE) (rs:List aA) (x:Int × Int) (i:Nat):Bool:=match rs[i]? with
 | some r=>!EK cN n x r
 | none=>false
def gX (cN:Bool) (n:aE) (rs:List aA) (x:Int × Int):Int:=(cg (cu cN n rs x) rs.length:Nat)
def lz (f:Int × Int→Int) (L:List (Int × Int)):lS:=L.foldl (fun E x=>qT (f x) E) []
theorem je (f:Int × Int→Int) (L:List (Int × Int)) (x:Int × Int):lz f (L++[x])=qT (f x) (lz f L):=by unfold lz;rw [List.foldl_append];rfl
theorem vc (f:Int × Int→Int) (L:List (Int × Int)):wC (lz f L) L.length:=by
 induction hn:L.length generalizing L with
 | zero=>rw [List.length_eq_zero_iff.1 hn];intro x hx;cases hx
 | succ n ih =>
  have hL:L ≠ []:=fun h=>by rw [h] at hn;cases hn
  obtain ⟨l,x,rfl⟩:∃ l x,L=l++[x]:=⟨L.dropLast,L.getLast hL,(List.dropLast_concat_getLast hL).symm⟩
  rw [je]
  rw [List.length_append,List.length_singleton] at hn
  exact CI (ih l (by omega)) _
theorem mF {f:Int × Int→Int}:∀ {L:List (Int × Int)} {x:Int × Int},x ∈ lz f L→∃ t ∈ L,f t=x.1:=by
 intro L
 induction hn:L.length generalizing L with
 | zero=>rw [List.length_eq_zero_iff.1 hn];intro x hx;cases hx
 | succ n ih =>
  have hL:L ≠ []:=fun h=>by rw [h] at hn;cases hn
  obtain ⟨l,y,rfl⟩:∃ l x,L=l++[x]:=⟨L.dropLast,L.getLast hL,(List.dropLast_concat_getLast hL).symm⟩
  rw [List.length_append,List.length_singleton] at hn
  intro x hx
  rw [je] at hx
  rcases yx hx with h|⟨h,_⟩
  ·obtain ⟨t,ht,e⟩:=ih (by omega) h
   exact ⟨t,List.mem_append_left _ ht,e⟩
  ·exact ⟨y,List.mem_append_right _ (by simp),h.symm⟩
theorem ve {f:Int × Int→Int}:∀ {L:List (Int × Int)} {t:Int × Int},t ∈ L→∃ x ∈ lz f L,x.1=f t:=by
 intro L
 induction hn:L.length generalizing L with
 | zero=>rw [List.length_eq_zero_iff.1 hn];intro x hx;cases hx
 | succ n ih =>
  have hL:L ≠ []:=fun h=>by rw [h] at hn;cases hn
  obtain ⟨l,y,rfl⟩:∃ l x,L=l++[x]:=⟨L.dropLast,L.getLast hL,(List.dropLast_concat_getLast hL).symm⟩
  rw [List.length_append,List.length_singleton] at hn
  intro t ht
  rw [je]
  rcases List.mem_append.1 ht with h|h
  ·obtain ⟨x,hx,e⟩:=ih (by omega) h
   obtain ⟨z,hz,e'⟩:=zB (k:=f y) hx
   exact ⟨z,hz,e'.trans e⟩
  ·rw [List.mem_singleton.1 h]
   exact yy _ _
theorem wF (E:lS):([mB E,mC]:List AB).all (AB.cO 2)=true:=by
 have h:AB.cO 2 (mB E)=true:=lV 2 E 0
 have h':AB.cO 2 mC=true:=rfl
 simp only [List.all_cons,List.all_nil,h,h',Bool.and_true]
theorem gY (E:lS) (x:Int × Int):([mB E,mC,.cells [ah x.1,ah x.2] 0 0]:List AB).all (AB.cO 3)=true:=by
 have h:AB.cO 3 (mB E)=true:=lV 3 E 0
 have h':AB.cO 3 mC=true:=rfl
 have h2:AB.cO 3 (.cells [ah x.1,ah x.2] 0 0)=true:=rfl
 simp only [List.all_cons,List.all_nil,h,h',h2,Bool.and_true]
theorem wG {p:Nat→Bool} {k:Nat} (h:p k=true):cg p k ||| 2 ^ k=cg p (k+1):=by
 have h2:=Nat.two_pow_add_eq_or_of_lt (i9 p k) 1
 rw [Nat.mul_one] at h2
 rw [Nat.or_comm,←h2]
 show 2 ^ k+cg p k=cg p k+if p k=true then 2 ^ k else 0
 rw [if_pos h,Nat.add_comm]
theorem ql {p:Nat→Bool} {k:Nat} (h:p k=false):cg p (k+1)=cg p k:=by
 show cg p k+(if p k=true then 2 ^ k else 0)=cg p k
 rw [if_neg (by simp [h]),Nat.add_zero]
theorem Br (s:au) (n:aE) (rs:List aA) (f:Bool) (h:nG s n rs) (gf:FuncId) (ga gb:List AV) (L:List (Int × Int)) (hgen:jQ TT TB false (.fn gf ga gb) (L.map iu)) (hL:∀ x ∈ L,zC false x) (hlen:L.length≤100000) (t:Int × Int) (ht:t ∈ L) (hmin:∀ u ∈ L,¬ fW (aW (cu false n rs u) 0 rs.length) (aW (cu false n rs t) 0 rs.length)):Pu false 101 [.ag (bh s n rs f),.fn gf ga gb,BB false] (.sl ((aW (cu false n rs t) 0 rs.length).map eI) false):=by
 obtain ⟨m,hm⟩:∃ m:Int,m=rs.length:=⟨_,rfl⟩
 have er:((rs.map az).length:Int)=m:=by rw [hm];simp
 have h8:=h.Fm
 refine af.body (fn:=Tryz.f101) rfl rfl rfl rfl ?_
 refine RM.dA (mu:=fun _=>false) ?_
 repeat' (first |refine u1 ?_ |fail)
 refine RM.dA (mu:=fun _=>false) ?_
 repeat' (first |refine u1 ?_ |refine u2 ?_ |fail)
 refine av.seq ?_
 refine RM.dA (mu:=fun _=>false) ?_
 repeat' (first |refine u1 ?_ |fail)
 refine av.block ?_
 refine av.range (fun i=>[mB (lz (gX false n rs) (L.take i)),mC]) (fun _=>bq.none) (fun _=>True) rfl hgen rfl rfl trivial (fun i x hx _=>?_) (fun _=>?_)
 ·obtain ⟨x,hxi,rfl⟩:=tj hx
  have hil:=(List.getElem?_eq_some_iff.1 hxi).1
  have hxb:=hL x (List.mem_of_getElem? hxi)
  unfold zC at hxb
  have hte:L.take (i+1)=L.take i++[x]:=vb hxi
  have hbd:=vc (gX false n rs) (L.take i)
  have hll:(L.take i).length≤100000:=by rw [List.length_take];omega
  rw [hte,je]
  generalize lz (gX false n rs) (L.take i)=E at *
  refine ⟨rfl,?_⟩
  refine aa (mu:=fun _=>false) ?_
  repeat' (first |refine u1 ?_ |refine u2 ?_ |fail)
  refine aa (mu:=fun _=>false) ?_
  repeat' (first |refine u1 ?_ |fail)
  generalize hp:cu false n rs x=p
  have hmask:gX false n rs x=(cg p rs.length:Nat):=by rw [←hp];rfl
  refine av.aY (ai.to (l:=[(3,.pt (bh s n rs f) 0),(5,.pt [BB false] 0),(7,.ptr 1 0 0),(8,.ptr 2 0 0),(9,ah (cg p 0:Nat)),(20,.sl (rs.map az) f),(21,ah m),(22,ah (0:Nat))]) (hp:=[mB E,mC,.cells [ah x.1,ah x.2] 0 0]) 3 rfl ⟨rfl,rfl,rfl,rfl,rfl,rfl,cG er,rfl,trivial⟩ (Nat.le_of_ble_eq_true rfl) rfl (gY E x)) ?_
  refine av.loop (fun k:Nat=>k≤rs.length) (fun k=>⟨aP [(3,.pt (bh s n rs f) 0),(5,.pt [BB false] 0),(7,.ptr 1 0 0),(8,.ptr 2 0 0),(9,ah (cg p k:Nat)),(20,.sl (rs.map az) f),(21,ah m),(22,ah (k:Nat))],[mB E,mC,.cells [ah x.1,ah x.2] 0 0],bq.none,true,2⟩) (fun k=>rs.length - k) ?_ 0 (Nat.zero_le _)
  intro k hk
  refine aa (mu:=fun _=>false) ?_
  have hbl:=i9 p k
  have h2k:2 ^ k≤2 ^ 8:=Nat.pow_le_pow_right (by decide) (by omega)
  by_cases hlt:k < rs.length
  ·have d1:decide ((k:Int) < m)=true:=decide_eq_true (by omega)
   have hat:(rs.map az)[((k:Nat):Int).toNat]?=some (az rs[k]):=fm hlt
   have hx1:=h.rx rs[k] (List.getElem_mem hlt)
   have hy1:=h.ry rs[k] (List.getElem_mem hlt)
   have hnx:=h.x
   have hny:=h.y
   have hpk:p k=!EK false n x rs[k]:=by
    rw [←hp]
    unfold cu
    rw [List.getElem?_eq_getElem hlt]
   unfold EK EJ CL at hpk
   generalize rs[k]=r at *
   obtain ⟨⟨px,py⟩,hn,ys⟩:=r
   dsimp only at hx1 hy1 hpk
   cases hn with
   | true =>
    have hpf:p k=false:=by rw [hpk];rfl
    have hbt:=ql hpf
    repeat' (first |refine u1 ?_ |refine u2 ?_ |fail)
    refine ⟨k+1,hlt,(by dsimp only;omega),?_⟩
    show ai _ ⟨aP [(3,.pt (bh s n rs f) 0),(5,.pt [BB false] 0),(7,.ptr 1 0 0),(8,.ptr 2 0 0),(9,ah (cg p (k+1):Nat)),(20,.sl (rs.map az) f),(21,ah m),(22,ah ((k+1):Nat))],[mB E,mC,.cells [ah x.1,ah x.2] 0 0],bq.none,true,2⟩
    rw [hbt]
    exact ai.to 3 rfl ⟨rfl,rfl,rfl,rfl,rfl,rfl,rfl,cG (by simp),trivial⟩ (Nat.le_of_ble_eq_true rfl) rfl (gY E x)
   | false =>
    have hnv:=ku true s n rs f ⟨px,py⟩ (by omega) (by dsimp only;omega)
    have hmt:=mA (a:=[.ag [ah x.1,ah x.2]]) (l:=[.ag [ah (px - n.pos.x),ah (py - n.pos.y)]]) (tc true x.1 x.2 (px - n.pos.x) (py - n.pos.y) (by simp at hxb;omega) (by simp at hxb;omega) (by omega) (by omega))
    dsimp only at hnv
    rw [show (if false=true then bA else ct)=ct from rfl] at hpk
    generalize ct (px - n.pos.x) (py - n.pos.y) x.1 x.2=v at *
    cases v <;> cases ys
    ·have hpf:p k=false:=by rw [hpk];rfl
     have hbt:=ql hpf
     repeat' (first |((with_reducible show cT _ _ _ _ _ _ _ _ _ _);refine RM.nm hmt rfl rfl rfl rfl ?_) |refine u1 ?_ |refine u2 ?_ |fail)
     refine ⟨k+1,hlt,(by dsimp only;omega),?_⟩
     show ai _ ⟨aP [(3,.pt (bh s n rs f) 0),(5,.pt [BB false] 0),(7,.ptr 1 0 0),(8,.ptr 2 0 0),(9,ah (cg p (k+1):Nat)),(20,.sl (rs.map az) f),(21,ah m),(22,ah ((k+1):Nat))],[mB E,mC,.cells [ah x.1,ah x.2] 0 0],bq.none,true,2⟩
     rw [hbt]
     exact ai.to 3 rfl ⟨rfl,rfl,rfl,rfl,rfl,rfl,rfl,cG (by simp),trivial⟩ (Nat.le_of_ble_eq_true rfl) rfl (gY E x)
    ·have hpt:p k=true:=by rw [hpk];rfl
     have hbt:=wG hpt
     repeat' (first |((with_reducible show cT _ _ _ _ _ _ _ _ _ _);refine RM.nm hmt rfl rfl rfl rfl ?_) |((with_reducible show cI _ _ _ _ _ _ _ _ _);first|refine RM.wg rfl rfl (by omega) ?_|refine RM.FE rfl rfl (by omega) (by omega) ?_) |refine u1 ?_ |refine u2 ?_ |fail)
     refine ⟨k+1,hlt,(by dsimp only;omega),?_⟩
     show ai _ ⟨aP [(3,.pt (bh s n rs f) 0),(5,.pt [BB false] 0),(7,.ptr 1 0 0),(8,.ptr 2 0 0),(9,ah (cg p (k+1):Nat)),(20,.sl (rs.map az) f),(21,ah m),(22,ah ((k+1):Nat))],[mB E,mC,.cells [ah x.1,ah x.2] 0 0],bq.none,true,2⟩
     rw [←hbt]
     exact ai.to 3 rfl ⟨rfl,rfl,rfl,rfl,rfl,rfl,rfl,cG (by simp),trivial⟩ (Nat.le_of_ble_eq_true rfl) rfl (gY E x)
    ·have hpt:p k=true:=by rw [hpk];rfl
     have hbt:=wG hpt
     repeat' (first |((with_reducible show cT _ _ _ _ _ _ _ _ _ _);refine RM.nm hmt rfl rfl rfl rfl ?_) |((with_reducible show cI _ _ _ _ _ _ _ _ _);first|refine RM.wg rfl rfl (by omega) ?_|refine RM.FE rfl rfl (by omega) (by omega) ?_) |refine u1 ?_ |refine u2 ?_ |fail)
     refine ⟨k+1,hlt,(by dsimp only;omega),?_⟩
     show ai _ ⟨aP [(3,.pt (bh s n rs f) 0),(5,.pt [BB false] 0),(7,.ptr 1 0 0),(8,.ptr 2 0 0),(9,ah (cg p (k+1):Nat)),(20,.sl (rs.map az) f),(21,ah m),(22,ah ((k+1):Nat))],[mB E,mC,.cells [ah x.1,ah x.2] 0 0],bq.none,true,2⟩
     rw [←hbt]
     exact ai.to 3 rfl ⟨rfl,rfl,rfl,rfl,rfl,rfl,rfl,cG (by simp),trivial⟩ (Nat.le_of_ble_eq_true rfl) rfl (gY E x)
    ·have hpf:p k=false:=by rw [hpk];rfl
     have hbt:=ql hpf
     repeat' (first |((with_reducible show cT _ _ _ _ _ _ _ _ _ _);refine RM.nm hmt rfl rfl rfl rfl ?_) |refine u1 ?_ |refine u2 ?_ |fail)
     refine ⟨k+1,hlt,(by dsimp only;omega),?_⟩
     show ai _ ⟨aP [(3,.pt (bh s n rs f) 0),(5,.pt [BB false] 0),(7,.ptr 1 0 0),(8,.ptr 2 0 0),(9,ah (cg p (k+1):Nat)),(20,.sl (rs.map az) f),(21,ah m),(22,ah ((k+1):Nat))],[mB E,mC,.cells [ah x.1,ah x.2] 0 0],bq.none,true,2⟩
     rw [hbt]
     exact ai.to 3 rfl ⟨rfl,rfl,rfl,rfl,rfl,rfl,rfl,cG (by simp),trivial⟩ (Nat.le_of_ble_eq_true rfl) rfl (gY E x)
  ·have d1:decide ((k:Int) < m)=false:=decide_eq_false (by omega)
   have hkn:k=rs.length:=by omega
   subst hkn
   rw [hmask]
   have hmv:=nH hbd (cg p rs.length:Nat)
   repeat' (first |refine Ap rfl rfl rfl ?_ |refine CH rfl rfl rfl rfl rfl ?_ |refine u1 ?_ |refine u2 ?_ |fail)
   exact ⟨_,ai.to (l:=[]) 2 rfl trivial (Nat.le_of_ble_eq_true rfl) rfl (wF _)⟩
 ·rw [List.length_map,List.take_length]
  refine av.aY (ai.to (l:=[(3,.pt (bh s n rs f) 0),(6,.fl (.slice none 0 0)),(7,.ptr 1 0 0)]) (hp:=[mB (lz (gX false n rs) L),mC]) 2 rfl ⟨rfl,rfl,rfl,trivial⟩ (Nat.zero_le _) rfl (wF _)) ?_
  refine ur h8 (fun x hx=>?_) ?_ (fun x hx=>?_)
  ·obtain ⟨u,_,e⟩:=mF hx
   have hl:=i9 (cu false n rs u) rs.length
   have h2:2 ^ rs.length≤2 ^ 8:=Nat.pow_le_pow_right (by decide) h8
   exact ⟨_,by omega,e.symm⟩
  ·obtain ⟨x,hx,e⟩:=ve (f:=gX false n rs) ht
   exact ⟨x,hx,by rw [e];exact oX _ _⟩
  ·obtain ⟨u,hu,e⟩:=mF hx
   rw [←e]
   show ¬ fW (lW rs.length (cg (cu false n rs u) rs.length:Nat)) _
   rw [oX]
   exact hmin u hu
theorem Bs (s:au) (n:aE) (rs:List aA) (f:Bool) (h:nG s n rs) (gf:FuncId) (ga gb:List AV) (L:List (Int × Int)) (hgen:jQ TT TB false (.fn gf ga gb) (L.map iu)) (hL:∀ x ∈ L,zC true x) (hlen:L.length≤100000) (t:Int × Int) (ht:t ∈ L) (hmin:∀ u ∈ L,¬ fW (aW (cu true n rs u) 0 rs.length) (aW (cu true n rs t) 0 rs.length)):Pu false 102 [.ag (bh s n rs f),.fn gf ga gb,BB true] (.sl ((aW (cu true n rs t) 0 rs.length).map eI) false):=by
 obtain ⟨m,hm⟩:∃ m:Int,m=rs.length:=⟨_,rfl⟩
 have er:((rs.map az).length:Int)=m:=by rw [hm];simp
 have h8:=h.Fm
 refine af.body (fn:=Tryz.f102) rfl rfl rfl rfl ?_
 refine RM.dA (mu:=fun _=>false) ?_
 repeat' (first |refine u1 ?_ |fail)
 refine RM.dA (mu:=fun _=>false) ?_
 repeat' (first |refine u1 ?_ |refine u2 ?_ |fail)
 refine av.seq ?_
 refine RM.dA (mu:=fun _=>false) ?_
 repeat' (first |refine u1 ?_ |fail)
 refine av.block ?_
 refine av.range (fun i=>[mB (lz (gX true n rs) (L.take i)),mC]) (fun _=>bq.none) (fun _=>True) rfl hgen rfl rfl trivial (fun i x hx _=>?_) (fun _=>?_)
 ·obtain ⟨x,hxi,rfl⟩:=tj hx
  have hil:=(List.getElem?_eq_some_iff.1 hxi).1
  have hxb:=hL x (List.mem_of_getElem? hxi)
  unfold zC at hxb
  have hte:L.take (i+1)=L.take i++[x]:=vb hxi
  have hbd:=vc (gX true n rs) (L.take i)
  have hll:(L.take i).length≤100000:=by rw [List.length_take];omega
  rw [hte,je]
  generalize lz (gX true n rs) (L.take i)=E at *
  refine ⟨rfl,?_⟩
  refine aa (mu:=fun _=>false) ?_
  repeat' (first |refine u1 ?_ |refine u2 ?_ |fail)
  refine aa (mu:=fun _=>false) ?_
  repeat' (first |refine u1 ?_ |fail)
  generalize hp:cu true n rs x=p
  have hmask:gX true n rs x=(cg p rs.length:Nat):=by rw [←hp];rfl
  refine av.aY (ai.to (l:=[(3,.pt (bh s n rs f) 0),(5,.pt [BB true] 0),(7,.ptr 1 0 0),(8,.ptr 2 0 0),(9,ah (cg p 0:Nat)),(20,.sl (rs.map az) f),(21,ah m),(22,ah (0:Nat))]) (hp:=[mB E,mC,.cells [ah x.1,ah x.2] 0 0]) 3 rfl ⟨rfl,rfl,rfl,rfl,rfl,rfl,cG er,rfl,trivial⟩ (Nat.le_of_ble_eq_true rfl) rfl (gY E x)) ?_
  refine av.loop (fun k:Nat=>k≤rs.length) (fun k=>⟨aP [(3,.pt (bh s n rs f) 0),(5,.pt [BB true] 0),(7,.ptr 1 0 0),(8,.ptr 2 0 0),(9,ah (cg p k:Nat)),(20,.sl (rs.map az) f),(21,ah m),(22,ah (k:Nat))],[mB E,mC,.cells [ah x.1,ah x.2] 0 0],bq.none,true,2⟩) (fun k=>rs.length - k) ?_ 0 (Nat.zero_le _)
  intro k hk
  refine aa (mu:=fun _=>false) ?_
  have hbl:=i9 p k
  have h2k:2 ^ k≤2 ^ 8:=Nat.pow_le_pow_right (by decide) (by omega)
  by_cases hlt:k < rs.length
  ·have d1:decide ((k:Int) < m)=true:=decide_eq_true (by omega)
   have hat:(rs.map az)[((k:Nat):Int).toNat]?=some (az rs[k]):=fm hlt
   have hx1:=h.rx rs[k] (List.getElem_mem hlt)
   have hy1:=h.ry rs[k] (List.getElem_mem hlt)
   have hnx:=h.x
   have hny:=h.y
   have hpk:p k=!EK true n x rs[k]:=by
    rw [←hp]
    unfold cu
    rw [List.getElem?_eq_getElem hlt]
   unfold EK EJ CL at hpk
   generalize rs[k]=r at *
   obtain ⟨⟨px,py⟩,hn,ys⟩:=r
   dsimp only at hx1 hy1 hpk
   cases hn with
   | false =>
    have hpf:p k=false:=by rw [hpk];rfl
    have hbt:=ql hpf
    repeat' (first |refine u1 ?_ |refine u2 ?_ |fail)
    refine ⟨k+1,hlt,(by dsimp only;omega),?_⟩
    show ai _ ⟨aP [(3,.pt (bh s n rs f) 0),(5,.pt [BB true] 0),(7,.ptr 1 0 0),(8,.ptr 2 0 0),(9,ah (cg p (k+1):Nat)),(20,.sl (rs.map az) f),(21,ah m),(22,ah ((k+1):Nat))],[mB E,mC,.cells [ah x.1,ah x.2] 0 0],bq.none,true,2⟩
    rw [hbt]
    exact ai.to 3 rfl ⟨rfl,rfl,rfl,rfl,rfl,rfl,rfl,cG (by simp),trivial⟩ (Nat.le_of_ble_eq_true rfl) rfl (gY E x)
   | true =>
    have hnv:=ku true s n rs f ⟨px,py⟩ (by omega) (by dsimp only;omega)
    have hmt:=mA (a:=[.ag [ah x.1,ah x.2]]) (l:=[.ag [ah (px - n.pos.x),ah (py - n.pos.y)]]) (wm true x.1 x.2 (px - n.pos.x) (py - n.pos.y) (by simp at hxb;omega) (by simp at hxb;omega) (by omega) (by omega))
    dsimp only at hnv
    rw [show (if true=true then bA else ct)=bA from rfl] at hpk
    generalize bA (px - n.pos.x) (py - n.pos.y) x.1 x.2=v at *
    cases v <;> cases ys
    ·have hpf:p k=false:=by rw [hpk];rfl
     have hbt:=ql hpf
     repeat' (first |((with_reducible show cT _ _ _ _ _ _ _ _ _ _);refine RM.nm hmt rfl rfl rfl rfl ?_) |refine u1 ?_ |refine u2 ?_ |fail)
     refine ⟨k+1,hlt,(by dsimp only;omega),?_⟩
     show ai _ ⟨aP [(3,.pt (bh s n rs f) 0),(5,.pt [BB true] 0),(7,.ptr 1 0 0),(8,.ptr 2 0 0),(9,ah (cg p (k+1):Nat)),(20,.sl (rs.map az) f),(21,ah m),(22,ah ((k+1):Nat))],[mB E,mC,.cells [ah x.1,ah x.2] 0 0],bq.none,true,2⟩
     rw [hbt]
     exact ai.to 3 rfl ⟨rfl,rfl,rfl,rfl,rfl,rfl,rfl,cG (by simp),trivial⟩ (Nat.le_of_ble_eq_true rfl) rfl (gY E x)
    ·have hpt:p k=true:=by rw [hpk];rfl
     have hbt:=wG hpt
     repeat' (first |((with_reducible show cT _ _ _ _ _ _ _ _ _ _);refine RM.nm hmt rfl rfl rfl rfl ?_) |((with_reducible show cI _ _ _ _ _ _ _ _ _);first|refine RM.wg rfl rfl (by omega) ?_|refine RM.FE rfl rfl (by omega) (by omega) ?_) |refine u1 ?_ |refine u2 ?_ |fail)
     refine ⟨k+1,hlt,(by dsimp only;omega),?_⟩
     show ai _ ⟨aP [(3,.pt (bh s n rs f) 0),(5,.pt [BB true] 0),(7,.ptr 1 0 0),(8,.ptr 2 0 0),(9,ah (cg p (k+1):Nat)),(20,.sl (rs.map az) f),(21,ah m),(22,ah ((k+1):Nat))],[mB E,mC,.cells [ah x.1,ah x.2] 0 0],bq.none,true,2⟩
     rw [←hbt]
     exact ai.to 3 rfl ⟨rfl,rfl,rfl,rfl,rfl,rfl,rfl,cG (by simp),trivial⟩ (Nat.le_of_ble_eq_true rfl) rfl (gY E x)
    ·have hpt:p k=true:=by rw [hpk];rfl
     have hbt:=wG hpt
     repeat' (first |((with_reducible show cT _ _ _ _ _ _ _ _ _ _);refine RM.nm hmt rfl rfl rfl rfl ?_) |((with_reducible show cI _ _ _ _ _ _ _ _ _);first|refine RM.wg rfl rfl (by omega) ?_|refine RM.FE rfl rfl (by omega) (by omega) ?_) |refine u1 ?_ |refine u2 ?_ |fail)
     refine ⟨k+1,hlt,(by dsimp only;omega),?_⟩
     show ai _ ⟨aP [(3,.pt (bh s n rs f) 0),(5,.pt [BB true] 0),(7,.ptr 1 0 0),(8,.ptr 2 0 0),(9,ah (cg p (k+1):Nat)),(20,.sl (rs.map az) f),(21,ah m),(22,ah ((k+1):Nat))],[mB E,mC,.cells [ah x.1,ah x.2] 0 0],bq.none,true,2⟩
     rw [←hbt]
     exact ai.to 3 rfl ⟨rfl,rfl,rfl,rfl,rfl,rfl,rfl,cG (by simp),trivial⟩ (Nat.le_of_ble_eq_true rfl) rfl (gY E x)
    ·have hpf:p k=false:=by rw [hpk];rfl
     have hbt:=ql hpf
     repeat' (first |((with_reducible show cT _ _ _ _ _ _ _ _ _ _);refine RM.nm hmt rfl rfl rfl rfl ?_) |refine u1 ?_ |refine u2 ?_ |fail)
     refine ⟨k+1,hlt,(by dsimp only;omega),?_⟩
     show ai _ ⟨aP [(3,.pt (bh s n rs f) 0),(5,.pt [BB true] 0),(7,.ptr 1 0 0),(8,.ptr 2 0 0),(9,ah (cg p (k+1):Nat)),(20,.sl (rs.map az) f),(21,ah m),(22,ah ((k+1):Nat))],[mB E,mC,.cells [ah x.1,ah x.2] 0 0],bq.none,true,2⟩
     rw [hbt]
     exact ai.to 3 rfl ⟨rfl,rfl,rfl,rfl,rfl,rfl,rfl,cG (by simp),trivial⟩ (Nat.le_of_ble_eq_true rfl) rfl (gY E x)
  ·have d1:decide ((k:Int) < m)=false:=decide_eq_false (by omega)
   have hkn:k=rs.length:=by omega
   subst hkn
   rw [hmask]
   have hmv:=nH hbd (cg p rs.length:Nat)
   repeat' (first |refine Ap rfl rfl rfl ?_ |refine CH rfl rfl rfl rfl rfl ?_ |refine u1 ?_ |refine u2 ?_ |fail)
   exact ⟨_,ai.to (l:=[]) 2 rfl trivial (Nat.le_of_ble_eq_true rfl) rfl (wF _)⟩
 ·rw [List.length_map,List.take_length]
  refine av.aY (ai.to (l:=[(3,.pt (bh s n rs f) 0),(6,.fl (.slice none 0 0)),(7,.ptr 1 0 0)]) (hp:=[mB (lz (gX true n rs) L),mC]) 2 rfl ⟨rfl,rfl,rfl,trivial⟩ (Nat.zero_le _) rfl (wF _)) ?_
  refine uu h8 (fun x hx=>?_) ?_ (fun x hx=>?_)
  ·obtain ⟨u,_,e⟩:=mF hx
   have hl:=i9 (cu true n rs u) rs.length
   have h2:2 ^ rs.length≤2 ^ 8:=Nat.pow_le_pow_right (by decide) h8
   exact ⟨_,by omega,e.symm⟩
  ·obtain ⟨x,hx,e⟩:=ve (f:=gX true n rs) ht
   exact ⟨x,hx,by rw [e];exact oX _ _⟩
  ·obtain ⟨u,hu,e⟩:=mF hx
   rw [←e]
   show ¬ fW (lW rs.length (cg (cu true n rs u) rs.length:Nat)) _
   rw [oX]
   exact hmin u hu
end Go.Proofs.YtichbhmnhkegiaaGreat
