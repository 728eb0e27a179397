/-
  Contracts of the program's functions and of the document's. Lemmas alone; their conditions stand in them.
-/
import Derived.Test.YtalcbebjpgfnfaaGreatK19
open Go Go.RM Go.AirLaw
namespace Go.Proofs.YtalcbebjpgfnfaaGreat
set_option maxRecDepth 100000
set_option maxHeartbeats 4000000
def Jg (eu:Bool):Int→Int→Int→Int→Bool:=if eu=true then cF else dB
def Eg (eu:Bool) (x:Int × Int):Prop:=if eu=true then (0≤x.1∧x.1≤300)∧0≤x.2∧x.2≤31 else (0≤x.1∧x.1≤5000)∧0≤x.2∧x.2≤300
def Mh (n:bk) (p:Pt) (x:Int × Int) (eu:Bool):Bool:=Jg eu (p.x - n.pos.x) (p.y - n.pos.y) x.1 x.2
def Mi (eu:Bool) (n:bk) (x:Int × Int) (r:aP):Bool:=!(r.eu == eu) || (Mh n r.pos x eu == r.yes)
structure OS (n:bk) (rs:List aP):Prop where
 x:∀ r ∈ rs,-60000≤r.pos.x - n.pos.x∧r.pos.x - n.pos.x≤60000
 y:∀ r ∈ rs,-60000≤r.pos.y - n.pos.y∧r.pos.y - n.pos.y≤60000
def Mj (s:aC) (n:bk) (eu:Bool):List (Int × Int):=if eu=true then ou s n else kG s n
def Bm (s:aC) (n:bk) (rs:List aP) (eu:Bool):List (Int × Int):=(Mj s n eu).filter fun x=>rs.all (Mi eu n x)
theorem Jh (s:aC) (n:bk) (rs:List aP):Bm s n rs false=dO s n rs:=rfl
theorem rD.Ka {s:aC} {n:bk} {rs:List aP} (h:rD s n rs) {eu:Bool} {x:Int × Int} (hx:x ∈ Mj s n eu):Eg eu x:=by
 cases eu with
 | true=>have:=h.hb x hx;unfold Eg;rw [if_pos rfl];omega
 | false=>have:=h.lb x hx;unfold Eg;rw [if_neg (by simp)];omega
theorem Fu {s:aC} {n:bk} {rs:List aP} (h:rD s n rs) (eu:Bool):(Mj s n eu).length≤100000:=by
 cases eu with
 | true =>
  show (ou s n).length≤_
  have h1:=h.qv.bW
  have h2:=h.gK
  unfold ou
  rw [nD,cW,cW]
  have a1:av s.bW≤200:=by unfold av;omega
  have a2:av ⟨n.g8,n.g8+n.gK - 1⟩≤32:=by unfold av;dsimp only;omega
  exact Nat.le_trans (Nat.mul_le_mul a1 a2) (by decide)
 | false =>
  show (kG s n).length≤_
  have h1:=h.qv.cand _ h.mem
  have h2:=h.qv.clear
  unfold kG
  rw [nD,cW,cW]
  have a1:av (gr s n.ei).cand≤41:=by unfold av;omega
  have a2:av s.clear≤300:=by unfold av;omega
  exact Nat.le_trans (Nat.mul_le_mul a1 a2) (by decide)
end Go.Proofs.YtalcbebjpgfnfaaGreat
open Go Go.RM Go.AirLaw
namespace Go.Proofs.YtalcbebjpgfnfaaGreat
set_option maxRecDepth 100000
set_option maxHeartbeats 4000000
def dD (eu:Bool) (n:bk) (rs:List aP) (x:Int × Int) (i:Nat):Bool:=match rs[i]? with
 | some r=>!Mi eu n x r
 | none=>false
def j5 (eu:Bool) (n:bk) (rs:List aP) (x:Int × Int):Int:=(dn (dD eu n rs x) rs.length:Nat)
def oG (f:Int × Int→Int) (L:List (Int × Int)):oh:=L.foldl (fun E x=>vz (f x) E) []
theorem lT (f:Int × Int→Int) (L:List (Int × Int)) (x:Int × Int):oG f (L++[x])=vz (f x) (oG f L):=by unfold oG;rw [List.foldl_append];rfl
theorem zX (f:Int × Int→Int) (L:List (Int × Int)):Bk (oG f L) L.length:=by
 induction hn:L.length generalizing L with
 | zero=>rw [List.length_eq_zero_iff.1 hn];intro x hx;cases hx
 | succ n ih =>
  have hL:L ≠ []:=fun h=>by rw [h] at hn;cases hn
  obtain ⟨l,x,rfl⟩:∃ l x,L=l++[x]:=⟨L.dropLast,L.getLast hL,(List.dropLast_concat_getLast hL).symm⟩
  rw [lT]
  rw [List.length_append,List.length_singleton] at hn
  exact Jd (ih l (by omega)) _
theorem qm {f:Int × Int→Int}:∀ {L:List (Int × Int)} {x:Int × Int},x ∈ oG f L→∃ t ∈ L,f t=x.1:=by
 intro L
 induction hn:L.length generalizing L with
 | zero=>rw [List.length_eq_zero_iff.1 hn];intro x hx;cases hx
 | succ n ih =>
  have hL:L ≠ []:=fun h=>by rw [h] at hn;cases hn
  obtain ⟨l,y,rfl⟩:∃ l x,L=l++[x]:=⟨L.dropLast,L.getLast hL,(List.dropLast_concat_getLast hL).symm⟩
  rw [List.length_append,List.length_singleton] at hn
  intro x hx
  rw [lT] at hx
  rcases Da hx with h|⟨h,_⟩
  ·obtain ⟨t,ht,e⟩:=ih (by omega) h
   exact ⟨t,List.mem_append_left _ ht,e⟩
  ·exact ⟨y,List.mem_append_right _ (by simp),h.symm⟩
theorem zY {f:Int × Int→Int}:∀ {L:List (Int × Int)} {t:Int × Int},t ∈ L→∃ x ∈ oG f L,x.1=f t:=by
 intro L
 induction hn:L.length generalizing L with
 | zero=>rw [List.length_eq_zero_iff.1 hn];intro x hx;cases hx
 | succ n ih =>
  have hL:L ≠ []:=fun h=>by rw [h] at hn;cases hn
  obtain ⟨l,y,rfl⟩:∃ l x,L=l++[x]:=⟨L.dropLast,L.getLast hL,(List.dropLast_concat_getLast hL).symm⟩
  rw [List.length_append,List.length_singleton] at hn
  intro t ht
  rw [lT]
  rcases List.mem_append.1 ht with h|h
  ·obtain ⟨x,hx,e⟩:=ih (by omega) h
   obtain ⟨z,hz,e'⟩:=Ef (k:=f y) hx
   exact ⟨z,hz,e'.trans e⟩
  ·rw [List.mem_singleton.1 h]
   exact Db _ _
theorem Bn (E:oh):([mB E,mC]:List AB).all (AB.di 2)=true:=by
 have h:AB.di 2 (mB E)=true:=pM 2 E 0
 have h':AB.di 2 mC=true:=rfl
 simp only [List.all_cons,List.all_nil,h,h',Bool.and_true]
theorem j6 (E:oh) (x:Int × Int):([mB E,mC,.cells [ah x.1,ah x.2] 0 0]:List AB).all (AB.di 3)=true:=by
 have h:AB.di 3 (mB E)=true:=pM 3 E 0
 have h':AB.di 3 mC=true:=rfl
 have h2:AB.di 3 (.cells [ah x.1,ah x.2] 0 0)=true:=rfl
 simp only [List.all_cons,List.all_nil,h,h',h2,Bool.and_true]
theorem Bo {p:Nat→Bool} {k:Nat} (h:p k=true):dn p k ||| 2 ^ k=dn p (k+1):=by
 have h2:=Nat.two_pow_add_eq_or_of_lt (lP p k) 1
 rw [Nat.mul_one] at h2
 rw [Nat.or_comm,←h2]
 show 2 ^ k+dn p k=dn p k+if p k=true then 2 ^ k else 0
 rw [if_pos h,Nat.add_comm]
theorem uC {p:Nat→Bool} {k:Nat} (h:p k=false):dn p (k+1)=dn p k:=by
 show dn p k+(if p k=true then 2 ^ k else 0)=dn p k
 rw [if_neg (by simp [h]),Nat.add_zero]
theorem GU (s:aC) (n:bk) (rs:List aP) (f:Bool) (h:rD s n rs) (gf:FuncId) (ga gb:List AV) (L:List (Int × Int)) (hgen:lD TT TB false (.fn gf ga gb) (L.map kE)) (hL:∀ x ∈ L,Eg false x) (hlen:L.length≤100000) (t:Int × Int) (ht:t ∈ L) (hmin:∀ u ∈ L,¬ iq (bZ (dD false n rs u) 0 rs.length) (bZ (dD false n rs t) 0 rs.length)):Pu false 85 [.ag (cx s n rs f),.fn gf ga gb,BB false] (.sl ((bZ (dD false n rs t) 0 rs.length).map eI) false):=by
 obtain ⟨m,hm⟩:∃ m:Int,m=rs.length:=⟨_,rfl⟩
 have er:((rs.map aL).length:Int)=m:=by rw [hm];simp
 have h8:=h.MV
 refine af.body (fn:=Tryz.f85) rfl rfl rfl rfl ?_
 refine RM.de (mu:=fun _=>false) ?_
 repeat' (first |refine u1 ?_ |fail)
 refine RM.de (mu:=fun _=>false) ?_
 repeat' (first |refine u1 ?_ |refine u2 ?_ |fail)
 refine az.seq ?_
 refine RM.de (mu:=fun _=>false) ?_
 repeat' (first |refine u1 ?_ |fail)
 refine az.block ?_
 refine az.range (fun i=>[mB (oG (j5 false n rs) (L.take i)),mC]) (fun _=>bN.none) (fun _=>True) rfl hgen rfl rfl trivial (fun i x hx _=>?_) (fun _=>?_)
 ·obtain ⟨x,hxi,rfl⟩:=xF hx
  have hil:=(List.getElem?_eq_some_iff.1 hxi).1
  have hxb:=hL x (List.mem_of_getElem? hxi)
  unfold Eg at hxb
  have hte:L.take (i+1)=L.take i++[x]:=zW hxi
  have hbd:=zX (j5 false n rs) (L.take i)
  have hll:(L.take i).length≤100000:=by rw [List.length_take];omega
  rw [hte,lT]
  generalize oG (j5 false n rs) (L.take i)=E at *
  refine ⟨rfl,?_⟩
  refine aa (mu:=fun _=>false) ?_
  repeat' (first |refine u1 ?_ |refine u2 ?_ |fail)
  refine aa (mu:=fun _=>false) ?_
  repeat' (first |refine u1 ?_ |fail)
  generalize hp:dD false n rs x=p
  have hmask:j5 false n rs x=(dn p rs.length:Nat):=by rw [←hp];rfl
  refine az.aK (ai.to (l:=[(3,.pt (cx s n rs f) 0),(5,.pt [BB false] 0),(7,.ptr 1 0 0),(8,.ptr 2 0 0),(9,ah (dn p 0:Nat)),(20,.sl (rs.map aL) f),(21,ah m),(22,ah (0:Nat))]) (hp:=[mB E,mC,.cells [ah x.1,ah x.2] 0 0]) 3 rfl ⟨rfl,rfl,rfl,rfl,rfl,rfl,aH er,rfl,trivial⟩ (Nat.le_of_ble_eq_true rfl) rfl (j6 E x)) ?_
  refine az.loop (fun k:Nat=>k≤rs.length) (fun k=>⟨aX [(3,.pt (cx s n rs f) 0),(5,.pt [BB false] 0),(7,.ptr 1 0 0),(8,.ptr 2 0 0),(9,ah (dn p k:Nat)),(20,.sl (rs.map aL) f),(21,ah m),(22,ah (k:Nat))],[mB E,mC,.cells [ah x.1,ah x.2] 0 0],bN.none,true,2⟩) (fun k=>rs.length - k) ?_ 0 (Nat.zero_le _)
  intro k hk
  refine aa (mu:=fun _=>false) ?_
  have hbl:=lP p k
  have h2k:2 ^ k≤2 ^ 8:=Nat.pow_le_pow_right (by decide) (by omega)
  by_cases hlt:k < rs.length
  ·have d1:decide ((k:Int) < m)=true:=decide_eq_true (by omega)
   have hat:(rs.map aL)[((k:Nat):Int).toNat]?=some (aL rs[k]):=cq hlt
   have hx1:=h.rx rs[k] (List.getElem_mem hlt)
   have hy1:=h.ry rs[k] (List.getElem_mem hlt)
   have hnx:=h.x
   have hny:=h.y
   have hpk:p k=!Mi false n x rs[k]:=by
    rw [←hp]
    unfold dD
    rw [List.getElem?_eq_getElem hlt]
   unfold Mi Mh Jg at hpk
   generalize rs[k]=r at *
   obtain ⟨⟨px,py⟩,hn,ys⟩:=r
   dsimp only at hx1 hy1 hpk
   cases hn with
   | true =>
    have hpf:p k=false:=by rw [hpk];rfl
    have hbt:=uC hpf
    repeat' (first |refine u1 ?_ |refine u2 ?_ |fail)
    refine ⟨k+1,hlt,(by dsimp only;omega),?_⟩
    show ai _ ⟨aX [(3,.pt (cx s n rs f) 0),(5,.pt [BB false] 0),(7,.ptr 1 0 0),(8,.ptr 2 0 0),(9,ah (dn p (k+1):Nat)),(20,.sl (rs.map aL) f),(21,ah m),(22,ah ((k+1):Nat))],[mB E,mC,.cells [ah x.1,ah x.2] 0 0],bN.none,true,2⟩
    rw [hbt]
    exact ai.to 3 rfl ⟨rfl,rfl,rfl,rfl,rfl,rfl,rfl,aH (by simp),trivial⟩ (Nat.le_of_ble_eq_true rfl) rfl (j6 E x)
   | false =>
    have hnv:=nx true s n rs f ⟨px,py⟩ (by omega) (by dsimp only;omega)
    have hmt:=qh (a:=[.ag [ah x.1,ah x.2]]) (l:=[.ag [ah (px - n.pos.x),ah (py - n.pos.y)]]) (xj true x.1 x.2 (px - n.pos.x) (py - n.pos.y) (by simp at hxb;omega) (by simp at hxb;omega) (by omega) (by omega))
    dsimp only at hnv
    rw [show (if false=true then cF else dB)=dB from rfl] at hpk
    generalize dB (px - n.pos.x) (py - n.pos.y) x.1 x.2=v at *
    cases v <;> cases ys
    ·have hpf:p k=false:=by rw [hpk];rfl
     have hbt:=uC hpf
     repeat' (first |((with_reducible show eG _ _ _ _ _ _ _ _ _ _);refine RM.nm hmt rfl rfl rfl rfl ?_) |refine u1 ?_ |refine u2 ?_ |fail)
     refine ⟨k+1,hlt,(by dsimp only;omega),?_⟩
     show ai _ ⟨aX [(3,.pt (cx s n rs f) 0),(5,.pt [BB false] 0),(7,.ptr 1 0 0),(8,.ptr 2 0 0),(9,ah (dn p (k+1):Nat)),(20,.sl (rs.map aL) f),(21,ah m),(22,ah ((k+1):Nat))],[mB E,mC,.cells [ah x.1,ah x.2] 0 0],bN.none,true,2⟩
     rw [hbt]
     exact ai.to 3 rfl ⟨rfl,rfl,rfl,rfl,rfl,rfl,rfl,aH (by simp),trivial⟩ (Nat.le_of_ble_eq_true rfl) rfl (j6 E x)
    ·have hpt:p k=true:=by rw [hpk];rfl
     have hbt:=Bo hpt
     repeat' (first |((with_reducible show eG _ _ _ _ _ _ _ _ _ _);refine RM.nm hmt rfl rfl rfl rfl ?_) |((with_reducible show ee _ _ _ _ _ _ _ _ _);first|refine RM.AU rfl rfl (by omega) ?_|refine RM.NJ rfl rfl (by omega) (by omega) ?_) |refine u1 ?_ |refine u2 ?_ |fail)
     refine ⟨k+1,hlt,(by dsimp only;omega),?_⟩
     show ai _ ⟨aX [(3,.pt (cx s n rs f) 0),(5,.pt [BB false] 0),(7,.ptr 1 0 0),(8,.ptr 2 0 0),(9,ah (dn p (k+1):Nat)),(20,.sl (rs.map aL) f),(21,ah m),(22,ah ((k+1):Nat))],[mB E,mC,.cells [ah x.1,ah x.2] 0 0],bN.none,true,2⟩
     rw [←hbt]
     exact ai.to 3 rfl ⟨rfl,rfl,rfl,rfl,rfl,rfl,rfl,aH (by simp),trivial⟩ (Nat.le_of_ble_eq_true rfl) rfl (j6 E x)
    ·have hpt:p k=true:=by rw [hpk];rfl
     have hbt:=Bo hpt
     repeat' (first |((with_reducible show eG _ _ _ _ _ _ _ _ _ _);refine RM.nm hmt rfl rfl rfl rfl ?_) |((with_reducible show ee _ _ _ _ _ _ _ _ _);first|refine RM.AU rfl rfl (by omega) ?_|refine RM.NJ rfl rfl (by omega) (by omega) ?_) |refine u1 ?_ |refine u2 ?_ |fail)
     refine ⟨k+1,hlt,(by dsimp only;omega),?_⟩
     show ai _ ⟨aX [(3,.pt (cx s n rs f) 0),(5,.pt [BB false] 0),(7,.ptr 1 0 0),(8,.ptr 2 0 0),(9,ah (dn p (k+1):Nat)),(20,.sl (rs.map aL) f),(21,ah m),(22,ah ((k+1):Nat))],[mB E,mC,.cells [ah x.1,ah x.2] 0 0],bN.none,true,2⟩
     rw [←hbt]
     exact ai.to 3 rfl ⟨rfl,rfl,rfl,rfl,rfl,rfl,rfl,aH (by simp),trivial⟩ (Nat.le_of_ble_eq_true rfl) rfl (j6 E x)
    ·have hpf:p k=false:=by rw [hpk];rfl
     have hbt:=uC hpf
     repeat' (first |((with_reducible show eG _ _ _ _ _ _ _ _ _ _);refine RM.nm hmt rfl rfl rfl rfl ?_) |refine u1 ?_ |refine u2 ?_ |fail)
     refine ⟨k+1,hlt,(by dsimp only;omega),?_⟩
     show ai _ ⟨aX [(3,.pt (cx s n rs f) 0),(5,.pt [BB false] 0),(7,.ptr 1 0 0),(8,.ptr 2 0 0),(9,ah (dn p (k+1):Nat)),(20,.sl (rs.map aL) f),(21,ah m),(22,ah ((k+1):Nat))],[mB E,mC,.cells [ah x.1,ah x.2] 0 0],bN.none,true,2⟩
     rw [hbt]
     exact ai.to 3 rfl ⟨rfl,rfl,rfl,rfl,rfl,rfl,rfl,aH (by simp),trivial⟩ (Nat.le_of_ble_eq_true rfl) rfl (j6 E x)
  ·have d1:decide ((k:Int) < m)=false:=decide_eq_false (by omega)
   have hkn:k=rs.length:=by omega
   subst hkn
   rw [hmask]
   have hmv:=rF hbd (dn p rs.length:Nat)
   repeat' (first |refine Fp rfl rfl rfl ?_ |refine Jc rfl rfl rfl rfl rfl ?_ |refine u1 ?_ |refine u2 ?_ |fail)
   exact ⟨_,ai.to (l:=[]) 2 rfl trivial (Nat.le_of_ble_eq_true rfl) rfl (Bn _)⟩
 ·rw [List.length_map,List.take_length]
  refine az.aK (ai.to (l:=[(3,.pt (cx s n rs f) 0),(6,.fl (.slice none 0 0)),(7,.ptr 1 0 0)]) (hp:=[mB (oG (j5 false n rs) L),mC]) 2 rfl ⟨rfl,rfl,rfl,trivial⟩ (Nat.zero_le _) rfl (Bn _)) ?_
  refine yM h8 (fun x hx=>?_) ?_ (fun x hx=>?_)
  ·obtain ⟨u,_,e⟩:=qm hx
   have hl:=lP (dD false n rs u) rs.length
   have h2:2 ^ rs.length≤2 ^ 8:=Nat.pow_le_pow_right (by decide) h8
   exact ⟨_,by omega,e.symm⟩
  ·obtain ⟨x,hx,e⟩:=zY (f:=j5 false n rs) ht
   exact ⟨x,hx,by rw [e];exact tv _ _⟩
  ·obtain ⟨u,hu,e⟩:=qm hx
   rw [←e]
   show ¬ iq (pN rs.length (dn (dD false n rs u) rs.length:Nat)) _
   rw [tv]
   exact hmin u hu
theorem GV (s:aC) (n:bk) (rs:List aP) (f:Bool) (h:rD s n rs) (gf:FuncId) (ga gb:List AV) (L:List (Int × Int)) (hgen:lD TT TB false (.fn gf ga gb) (L.map kE)) (hL:∀ x ∈ L,Eg true x) (hlen:L.length≤100000) (t:Int × Int) (ht:t ∈ L) (hmin:∀ u ∈ L,¬ iq (bZ (dD true n rs u) 0 rs.length) (bZ (dD true n rs t) 0 rs.length)):Pu false 86 [.ag (cx s n rs f),.fn gf ga gb,BB true] (.sl ((bZ (dD true n rs t) 0 rs.length).map eI) false):=by
 obtain ⟨m,hm⟩:∃ m:Int,m=rs.length:=⟨_,rfl⟩
 have er:((rs.map aL).length:Int)=m:=by rw [hm];simp
 have h8:=h.MV
 refine af.body (fn:=Tryz.f86) rfl rfl rfl rfl ?_
 refine RM.de (mu:=fun _=>false) ?_
 repeat' (first |refine u1 ?_ |fail)
 refine RM.de (mu:=fun _=>false) ?_
 repeat' (first |refine u1 ?_ |refine u2 ?_ |fail)
 refine az.seq ?_
 refine RM.de (mu:=fun _=>false) ?_
 repeat' (first |refine u1 ?_ |fail)
 refine az.block ?_
 refine az.range (fun i=>[mB (oG (j5 true n rs) (L.take i)),mC]) (fun _=>bN.none) (fun _=>True) rfl hgen rfl rfl trivial (fun i x hx _=>?_) (fun _=>?_)
 ·obtain ⟨x,hxi,rfl⟩:=xF hx
  have hil:=(List.getElem?_eq_some_iff.1 hxi).1
  have hxb:=hL x (List.mem_of_getElem? hxi)
  unfold Eg at hxb
  have hte:L.take (i+1)=L.take i++[x]:=zW hxi
  have hbd:=zX (j5 true n rs) (L.take i)
  have hll:(L.take i).length≤100000:=by rw [List.length_take];omega
  rw [hte,lT]
  generalize oG (j5 true n rs) (L.take i)=E at *
  refine ⟨rfl,?_⟩
  refine aa (mu:=fun _=>false) ?_
  repeat' (first |refine u1 ?_ |refine u2 ?_ |fail)
  refine aa (mu:=fun _=>false) ?_
  repeat' (first |refine u1 ?_ |fail)
  generalize hp:dD true n rs x=p
  have hmask:j5 true n rs x=(dn p rs.length:Nat):=by rw [←hp];rfl
  refine az.aK (ai.to (l:=[(3,.pt (cx s n rs f) 0),(5,.pt [BB true] 0),(7,.ptr 1 0 0),(8,.ptr 2 0 0),(9,ah (dn p 0:Nat)),(20,.sl (rs.map aL) f),(21,ah m),(22,ah (0:Nat))]) (hp:=[mB E,mC,.cells [ah x.1,ah x.2] 0 0]) 3 rfl ⟨rfl,rfl,rfl,rfl,rfl,rfl,aH er,rfl,trivial⟩ (Nat.le_of_ble_eq_true rfl) rfl (j6 E x)) ?_
  refine az.loop (fun k:Nat=>k≤rs.length) (fun k=>⟨aX [(3,.pt (cx s n rs f) 0),(5,.pt [BB true] 0),(7,.ptr 1 0 0),(8,.ptr 2 0 0),(9,ah (dn p k:Nat)),(20,.sl (rs.map aL) f),(21,ah m),(22,ah (k:Nat))],[mB E,mC,.cells [ah x.1,ah x.2] 0 0],bN.none,true,2⟩) (fun k=>rs.length - k) ?_ 0 (Nat.zero_le _)
  intro k hk
  refine aa (mu:=fun _=>false) ?_
  have hbl:=lP p k
  have h2k:2 ^ k≤2 ^ 8:=Nat.pow_le_pow_right (by decide) (by omega)
  by_cases hlt:k < rs.length
  ·have d1:decide ((k:Int) < m)=true:=decide_eq_true (by omega)
   have hat:(rs.map aL)[((k:Nat):Int).toNat]?=some (aL rs[k]):=cq hlt
   have hx1:=h.rx rs[k] (List.getElem_mem hlt)
   have hy1:=h.ry rs[k] (List.getElem_mem hlt)
   have hnx:=h.x
   have hny:=h.y
   have hpk:p k=!Mi true n x rs[k]:=by
    rw [←hp]
    unfold dD
    rw [List.getElem?_eq_getElem hlt]
   unfold Mi Mh Jg at hpk
   generalize rs[k]=r at *
   obtain ⟨⟨px,py⟩,hn,ys⟩:=r
   dsimp only at hx1 hy1 hpk
   cases hn with
   | false =>
    have hpf:p k=false:=by rw [hpk];rfl
    have hbt:=uC hpf
    repeat' (first |refine u1 ?_ |refine u2 ?_ |fail)
    refine ⟨k+1,hlt,(by dsimp only;omega),?_⟩
    show ai _ ⟨aX [(3,.pt (cx s n rs f) 0),(5,.pt [BB true] 0),(7,.ptr 1 0 0),(8,.ptr 2 0 0),(9,ah (dn p (k+1):Nat)),(20,.sl (rs.map aL) f),(21,ah m),(22,ah ((k+1):Nat))],[mB E,mC,.cells [ah x.1,ah x.2] 0 0],bN.none,true,2⟩
    rw [hbt]
    exact ai.to 3 rfl ⟨rfl,rfl,rfl,rfl,rfl,rfl,rfl,aH (by simp),trivial⟩ (Nat.le_of_ble_eq_true rfl) rfl (j6 E x)
   | true =>
    have hnv:=nx true s n rs f ⟨px,py⟩ (by omega) (by dsimp only;omega)
    have hmt:=qh (a:=[.ag [ah x.1,ah x.2]]) (l:=[.ag [ah (px - n.pos.x),ah (py - n.pos.y)]]) (AY true x.1 x.2 (px - n.pos.x) (py - n.pos.y) (by simp at hxb;omega) (by simp at hxb;omega) (by omega) (by omega))
    dsimp only at hnv
    rw [show (if true=true then cF else dB)=cF from rfl] at hpk
    generalize cF (px - n.pos.x) (py - n.pos.y) x.1 x.2=v at *
    cases v <;> cases ys
    ·have hpf:p k=false:=by rw [hpk];rfl
     have hbt:=uC hpf
     repeat' (first |((with_reducible show eG _ _ _ _ _ _ _ _ _ _);refine RM.nm hmt rfl rfl rfl rfl ?_) |refine u1 ?_ |refine u2 ?_ |fail)
     refine ⟨k+1,hlt,(by dsimp only;omega),?_⟩
     show ai _ ⟨aX [(3,.pt (cx s n rs f) 0),(5,.pt [BB true] 0),(7,.ptr 1 0 0),(8,.ptr 2 0 0),(9,ah (dn p (k+1):Nat)),(20,.sl (rs.map aL) f),(21,ah m),(22,ah ((k+1):Nat))],[mB E,mC,.cells [ah x.1,ah x.2] 0 0],bN.none,true,2⟩
     rw [hbt]
     exact ai.to 3 rfl ⟨rfl,rfl,rfl,rfl,rfl,rfl,rfl,aH (by simp),trivial⟩ (Nat.le_of_ble_eq_true rfl) rfl (j6 E x)
    ·have hpt:p k=true:=by rw [hpk];rfl
     have hbt:=Bo hpt
     repeat' (first |((with_reducible show eG _ _ _ _ _ _ _ _ _ _);refine RM.nm hmt rfl rfl rfl rfl ?_) |((with_reducible show ee _ _ _ _ _ _ _ _ _);first|refine RM.AU rfl rfl (by omega) ?_|refine RM.NJ rfl rfl (by omega) (by omega) ?_) |refine u1 ?_ |refine u2 ?_ |fail)
     refine ⟨k+1,hlt,(by dsimp only;omega),?_⟩
     show ai _ ⟨aX [(3,.pt (cx s n rs f) 0),(5,.pt [BB true] 0),(7,.ptr 1 0 0),(8,.ptr 2 0 0),(9,ah (dn p (k+1):Nat)),(20,.sl (rs.map aL) f),(21,ah m),(22,ah ((k+1):Nat))],[mB E,mC,.cells [ah x.1,ah x.2] 0 0],bN.none,true,2⟩
     rw [←hbt]
     exact ai.to 3 rfl ⟨rfl,rfl,rfl,rfl,rfl,rfl,rfl,aH (by simp),trivial⟩ (Nat.le_of_ble_eq_true rfl) rfl (j6 E x)
    ·have hpt:p k=true:=by rw [hpk];rfl
     have hbt:=Bo hpt
     repeat' (first |((with_reducible show eG _ _ _ _ _ _ _ _ _ _);refine RM.nm hmt rfl rfl rfl rfl ?_) |((with_reducible show ee _ _ _ _ _ _ _ _ _);first|refine RM.AU rfl rfl (by omega) ?_|refine RM.NJ rfl rfl (by omega) (by omega) ?_) |refine u1 ?_ |refine u2 ?_ |fail)
     refine ⟨k+1,hlt,(by dsimp only;omega),?_⟩
     show ai _ ⟨aX [(3,.pt (cx s n rs f) 0),(5,.pt [BB true] 0),(7,.ptr 1 0 0),(8,.ptr 2 0 0),(9,ah (dn p (k+1):Nat)),(20,.sl (rs.map aL) f),(21,ah m),(22,ah ((k+1):Nat))],[mB E,mC,.cells [ah x.1,ah x.2] 0 0],bN.none,true,2⟩
     rw [←hbt]
     exact ai.to 3 rfl ⟨rfl,rfl,rfl,rfl,rfl,rfl,rfl,aH (by simp),trivial⟩ (Nat.le_of_ble_eq_true rfl) rfl (j6 E x)
    ·have hpf:p k=false:=by rw [hpk];rfl
     have hbt:=uC hpf
     repeat' (first |((with_reducible show eG _ _ _ _ _ _ _ _ _ _);refine RM.nm hmt rfl rfl rfl rfl ?_) |refine u1 ?_ |refine u2 ?_ |fail)
     refine ⟨k+1,hlt,(by dsimp only;omega),?_⟩
     show ai _ ⟨aX [(3,.pt (cx s n rs f) 0),(5,.pt [BB true] 0),(7,.ptr 1 0 0),(8,.ptr 2 0 0),(9,ah (dn p (k+1):Nat)),(20,.sl (rs.map aL) f),(21,ah m),(22,ah ((k+1):Nat))],[mB E,mC,.cells [ah x.1,ah x.2] 0 0],bN.none,true,2⟩
     rw [hbt]
     exact ai.to 3 rfl ⟨rfl,rfl,rfl,rfl,rfl,rfl,rfl,aH (by simp),trivial⟩ (Nat.le_of_ble_eq_true rfl) rfl (j6 E x)
  ·have d1:decide ((k:Int) < m)=false:=decide_eq_false (by omega)
   have hkn:k=rs.length:=by omega
   subst hkn
   rw [hmask]
   have hmv:=rF hbd (dn p rs.length:Nat)
   repeat' (first |refine Fp rfl rfl rfl ?_ |refine Jc rfl rfl rfl rfl rfl ?_ |refine u1 ?_ |refine u2 ?_ |fail)
   exact ⟨_,ai.to (l:=[]) 2 rfl trivial (Nat.le_of_ble_eq_true rfl) rfl (Bn _)⟩
 ·rw [List.length_map,List.take_length]
  refine az.aK (ai.to (l:=[(3,.pt (cx s n rs f) 0),(6,.fl (.slice none 0 0)),(7,.ptr 1 0 0)]) (hp:=[mB (oG (j5 true n rs) L),mC]) 2 rfl ⟨rfl,rfl,rfl,trivial⟩ (Nat.zero_le _) rfl (Bn _)) ?_
  refine yN h8 (fun x hx=>?_) ?_ (fun x hx=>?_)
  ·obtain ⟨u,_,e⟩:=qm hx
   have hl:=lP (dD true n rs u) rs.length
   have h2:2 ^ rs.length≤2 ^ 8:=Nat.pow_le_pow_right (by decide) h8
   exact ⟨_,by omega,e.symm⟩
  ·obtain ⟨x,hx,e⟩:=zY (f:=j5 true n rs) ht
   exact ⟨x,hx,by rw [e];exact tv _ _⟩
  ·obtain ⟨u,hu,e⟩:=qm hx
   rw [←e]
   show ¬ iq (pN rs.length (dn (dD true n rs u) rs.length:Nat)) _
   rw [tv]
   exact hmin u hu
end Go.Proofs.YtalcbebjpgfnfaaGreat
