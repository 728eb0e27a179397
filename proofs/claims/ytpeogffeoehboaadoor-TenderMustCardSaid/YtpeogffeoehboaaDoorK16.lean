/-
  Contracts of the program's functions and of the document's. Lemmas alone; their conditions stand in them.
-/
import Derived.Test.YtpeogffeoehboaaDoorK15
open Go Go.RM
namespace Go.Proofs.YtpeogffeoehboaaDoor
set_option maxRecDepth 100000
theorem K0 {s:ai} (hc:(i7 s).2.2=0) {days:List Int} (hdp:days.Pairwise (· < ·)) {q:List Order} (hq:(ey s q).2=0) (hd:∀ o ∈ q,o.day ∈ days) (hh:jV s q=true):iZ s days ≠ none:=by
 have hg:=kW hc
 have hpg:=jQ hq
 unfold iZ
 split
 ·exact fun h=>by cases h
 ·rename_i hn
  obtain ⟨q',f1,f2,f3,f4⟩:=yM hg q hpg.order
  have ha:=KR hpg
  have hz:(ey s q').2=0:=yN hc (by rw [f1];exact hpg.len) (fun o ho=>by
   have:o.day ∈ q.map (·.day):=by rw [←f2];exact List.mem_map.2 ⟨o,ho,rfl⟩
   obtain ⟨o',ho',e⟩:=List.mem_map.1 this
   rw [←e]
   exact (hpg.order o' ho').day) (by rw [f2];exact ha) f3
  have hh':=AA hq hz f1 f4 hh
  rw [oR hz] at hh'
  have hmem:∀ x ∈ q.map (·.day),∃ i,0≤i∧∃ h:i < days.length,days[i]=x:=fun x hx=>by
   obtain ⟨o,ho,rfl⟩:=List.mem_map.1 hx
   obtain ⟨i,hi,e⟩:=List.mem_iff_getElem.1 (hd o ho)
   exact ⟨i,Nat.zero_le _,hi,e⟩
  have hql:=qh hdp _ 0 (Nat.zero_le _) ha hmem
  rw [List.length_map] at hql
  cases hq0:q.length with
  | zero =>
   exfalso
   obtain rfl:q'=[]:=List.eq_nil_of_length_eq_zero (by omega)
   rw [yO hg] at hh'
   exact hn hh'
  | succ m =>
   intro hfs
   rw [List.findSome?_eq_none_iff] at hfs
   have hf:=hfs m (List.mem_range.2 (by omega))
   have h1:=wJ hdp (m+1) 0 [] hf _ (by rw [List.length_map];exact hq0) ha hmem
   rw [List.nil_append] at h1
   have:=wz h1 q' f2 f3
   rw [List.nil_append,hh'] at this
   cases this
theorem FJ {s:ai} (hc:(i7 s).2.2=0) {q:List Order} (hq:(ey s q).2=0) (hd:∀ o ∈ q,o.day ∈ s.possible) (hh:jV s q=true):∀ x ∈ lO s,x ∈ q.map (·.day):=by
 have hg:=kW hc
 obtain ⟨p1,p2⟩:=rF hg
 have hdp:s.possible.Pairwise (· < ·):=List.pairwise_iff_getElem.2 fun i j hi hj hij=>p2 i j hi hj hij
 have hdr:∀ x ∈ s.possible,0≤x∧x < s.days:=fun x hx=>by obtain ⟨i,hi,rfl⟩:=List.mem_iff_getElem.1 hx;exact p1 i hi
 intro x hx
 unfold lO at hx
 split at hx
 ·unfold hU at hx
  obtain ⟨i,hi,rfl⟩:=List.mem_map.1 hx
  obtain ⟨h1,h2⟩:=List.mem_filter.1 hi
  have h1:=List.mem_range.1 h1
  rw [FI h1]
  apply Classical.byContradiction
  intro hn
  refine K0 hc (tM (i:=i) hdp hdr).1 hq (fun o ho=>?_) hh (Option.isNone_iff_eq_none.1 h2)
  obtain ⟨j,hj,e⟩:=List.mem_iff_getElem.1 (hd o ho)
  refine List.mem_eraseIdx_iff_getElem.2 ⟨j,hj,fun hji=>?_,e⟩
  subst hji
  exact hn (by rw [e];exact List.mem_map.2 ⟨o,ho,rfl⟩)
 ·cases hx
theorem GN (s:ai):(lO s).length≤s.possible.length:=by
 unfold lO
 split
 ·exact yS s _
 ·exact Nat.zero_le _
set_option maxHeartbeats 4000000
theorem K1 {s:ai} {p:List Order} (h:jP s p):RW p:=by
 have h1:=h.len
 have h2:=h.good.len
 refine ⟨Nat.le_trans h1 (by decide),fun o ho=>?_⟩
 have:=(h.order o ho).len
 exact Nat.le_trans (show o.aO.length≤8 by omega) (by decide)
theorem K2 (s:ai) (hs:s.Ok) (a b c d e f:Nat):Pu false 11 [.ag (az s),.ag [U8 a,U8 b,U8 c,U8 d,U8 e,U8 f]] (BB true):=by
 have o1:=Qa false s hs
 have o2:=CO false s hs
 have o3:=J2 false s hs
 have aw:=Sl false
 have z0:decide ((([]:List (List AV)).length:Int)=0)=true:=rfl
 by_cases c1:(i7 s).2.2=0
 ·by_cases c2:rL s=0
  ·have hg:=kW c1
   have hm:=hg.many
   rw [ru c1] at o3
   have hL:=GN s
   have oc:=KT false hg [a,b,c,d,e,f] rfl
   obtain ⟨h1,h2,h3⟩:=KA c1 [a,b,c,d,e,f]
   have hin2:=fun h=>FJ c1 h1 h3 h
   have hc8:=jQ h1
   obtain ⟨p,hp⟩:∃ p,iZ s s.possible=some p:=by
    unfold rL at c2
    rw [if_pos c1] at c2
    cases hf:iZ s s.possible with
    | none=>rw [hf] at c2;cases c2
    | some p=>exact ⟨p,rfl⟩
   have hpe:CN s=p:=by
    unfold CN
    rw [if_pos c1,hp]
    rfl
   obtain ⟨k1,k2,k3,_⟩:=CM c1 hp
   have hin1:=fun h=>FJ c1 k1 k3 h
   have hp8:=jQ k1
   rw [hpe,c2] at o2
   rw [c2] at o1
   have oc:Pu false 36 [.ag (az s),.ag [U8 a,U8 b,U8 c,U8 d,U8 e,U8 f]] (.sl ((wo s [a,b,c,d,e,f]).map aD) false):=oc
   generalize wo s [a,b,c,d,e,f]=C at *
   have eL:((ints (lO s)).length:Int)=(lO s).length:=by simp
   have z1:(!decide ((0:Int)=0))=false:=by decide
   clear h1 h2 h3 k1 k2 k3 hp hpe c2
   generalize lO s=L at *
   generalize hPd:p=P at *
   clear hPd
   have rows:∀ k:Nat,k < 2→∃ q:List Order,([[.sl (P.map aD) false],[.sl (C.map aD) false]]:List (List AV))[((k:Nat):Int).toNat]?=some [.sl (q.map aD) false]∧jP s q∧(jV s q=true→∀ x ∈ L,x ∈ q.map (·.day)):=by
    intro k hk
    match k,hk with
    | 0,_=>exact ⟨P,rfl,hp8,hin1⟩
    | 1,_=>exact ⟨C,rfl,hc8,hin2⟩
   refine ah.body (fn:=Tryd.f11) rfl rfl rfl rfl ?_
   refine RM.cS (mu:=fun _=>false) ?_
   repeat' (first |(refine RM.Ro rfl rfl rfl rfl ?_) |refine u1 ?_ |refine u2 ?_ |fail)
   refine RM.cS (mu:=fun _=>false) ?_
   repeat' (first |(refine ah.call o1 rfl rfl ?_) |refine u1 ?_ |refine u2 ?_ |fail)
   refine RM.cS (mu:=fun _=>false) ?_
   repeat' (first |(refine ah.call o2 rfl rfl ?_) |refine u1 ?_ |refine u2 ?_ |fail)
   refine RM.cS (mu:=fun _=>false) ?_
   repeat' (first |(refine ah.call o3 rfl rfl ?_) |refine u1 ?_ |refine u2 ?_ |fail)
   refine RM.cS (mu:=fun _=>false) ?_
   repeat' (first |refine u1 ?_ |refine u2 ?_ |fail)
   refine RM.cS (mu:=fun _=>false) ?_
   repeat' (first |(refine ah.call oc rfl rfl ?_) |refine u1 ?_ |refine u2 ?_ |fail)
   refine aA.seq ?_
   refine RM.cS (mu:=fun _=>false) ?_
   repeat' (first |refine u1 ?_ |refine u2 ?_ |fail)
   refine aA.block ?_
   refine aA.aX (aj.to (l:=[(2,.pt (az s) 0),(5,.sl (ints L) false),(8,aC 0),(12,.sl [[.sl (P.map aD) false],[.sl (C.map aD) false]] true),(13,aC (0:Nat))]) (hp:=[]) 0 rfl ⟨rfl,rfl,rfl,rfl,rfl,trivial⟩ (Nat.zero_le _) rfl rfl) ?_
   refine aA.loop (fun k:Nat=>k≤2) (fun k=>⟨bx [(2,.pt (az s) 0),(5,.sl (ints L) false),(8,aC 0),(12,.sl [[.sl (P.map aD) false],[.sl (C.map aD) false]] true),(13,aC (k:Nat))],[],bG.none,false,0⟩) (fun k=>2 - k) ?_ 0 (Nat.zero_le _)
   intro k hk
   by_cases hlt:k < 2
   ·have d1:decide ((k:Int) < (([[.sl (P.map aD) false],[.sl (C.map aD) false]]:List (List AV)).length:Int))=true:=decide_eq_true (by show (k:Int) < 2;omega)
    obtain ⟨q,hat,hq,hqd⟩:=rows k hlt
    have hb2:(k:Int) < (([[.sl (P.map aD) false],[.sl (C.map aD) false]]:List (List AV)).length:Int):=by show (k:Int) < 2;omega
    have o4:=yL true s hs q false (K1 hq)
    have o5:=yL false s hs q false (K1 hq)
    refine RM.cS (mu:=fun _=>false) ?_
    repeat' (first |refine u1 ?_ |refine u2 ?_ |fail)
    refine aA.seq ?_
    refine aA.block ?_
    cases hh:jV s q with
    | false =>
     rw [hh] at o4 o5
     refine aa (mu:=fun _=>false) ?_
     repeat' (first |(refine ⟨_,o4,?_⟩) |refine u1 ?_ |(refine ⟨[.sl (q.map aD) false],⟨by omega,hat⟩,rfl,?_⟩) |refine u2 ?_ |fail)
     refine aa (mu:=fun _=>false) ?_
     repeat' (first |refine u1 ?_ |refine u2 ?_ |fail)
     exact ⟨k+1,hlt,(by dsimp only;omega),aj.to 0 rfl ⟨rfl,rfl,rfl,rfl,bW (by simp),trivial⟩ (Nat.zero_le _) rfl rfl⟩
    | true =>
     rw [hh] at o4 o5
     refine RM.cS (mu:=fun _=>false) ?_
     repeat' (first |(refine ⟨_,o4,?_⟩) |refine u1 ?_ |(refine ⟨[.sl (q.map aD) false],⟨by omega,hat⟩,rfl,?_⟩) |refine u2 ?_ |fail)
     have hqd:=hqd hh
     have hq8:=hq.len
     obtain ⟨Q,hQ⟩:∃ Q:List Int,Q=q.map (·.day):=⟨_,rfl⟩
     rw [←hQ] at hqd
     have hQl:Q.length=q.length:=by rw [hQ,List.length_map]
     clear o4 o5 hh
     refine RM.cS (mu:=fun _=>false) ?_
     repeat' (first |refine u1 ?_ |refine u2 ?_ |fail)
     refine aA.seq ?_
     refine RM.cS (mu:=fun _=>false) ?_
     repeat' (first |refine u1 ?_ |refine u2 ?_ |fail)
     refine aA.block ?_
     refine aA.aX (aj.trans (aj.qc 1) (aj.NC (l:=[(2,.pt (az s) 0),(5,.sl (ints L) false),(8,aC 0),(12,.sl [[.sl (P.map aD) false],[.sl (C.map aD) false]] true),(13,aC (k:Nat)),(14,.bI 0 0 0 (Q.take 0).length 0),(15,aC (0:Nat))]) (hp:=[.cells (dw (Q.take 0)) 1 0]) 1 rfl ⟨bO.refl _,bO.refl _,bO.refl _,bO.refl _,bO.refl _,bO.qb,bO.refl _,trivial⟩ (Nat.zero_le _) rfl (fu _ _))) ?_
     refine aA.loop (fun x:Nat × Nat × Nat=>x.1≤Q.length∧(x.2.2=(Q.take x.1).length∨x.2.2=(Q.take x.1).length+1)) (fun x=>⟨bx [(2,.pt (az s) 0),(5,.sl (ints L) false),(8,aC 0),(12,.sl [[.sl (P.map aD) false],[.sl (C.map aD) false]] true),(13,aC (k:Nat)),(14,.bI 0 x.2.1 0 (Q.take x.1).length x.2.2),(15,aC (x.1:Nat))],[.cells (dw (Q.take x.1)) 1 x.2.1],bG.none,false,0⟩) (fun x=>Q.length - x.1) ?_ (0,0,0) ⟨Nat.zero_le _,.inl rfl⟩
     rintro ⟨m,aB,cp⟩ ⟨hm1,hcap⟩
     dsimp only at hm1 hcap
     show aA _ _ _ _ ⟨bx [(2,.pt (az s) 0),(5,.sl (ints L) false),(8,aC 0),(12,.sl [[.sl (P.map aD) false],[.sl (C.map aD) false]] true),(13,aC (k:Nat)),(14,.bI 0 aB 0 (Q.take m).length cp),(15,aC (m:Nat))],[.cells (dw (Q.take m)) 1 aB],bG.none,false,0⟩ _
     by_cases hlm:m < Q.length
     ·have d2:decide ((m:Int) < ((q.map aD).length:Int))=true:=decide_eq_true (by rw [List.length_map];omega)
      have hbm:(m:Int) < ((q.map aD).length:Int):=by rw [List.length_map];omega
      have hmq:m < q.length:=by omega
      have hatm:(q.map aD)[((m:Nat):Int).toNat]?=some (aD q[m]):=cI hmq
      have hs1:Q.take (m+1)=Q.take m++[q[m].day]:=by
       rw [List.take_add_one,List.getElem?_eq_getElem hlm]
       simp only [hQ,List.getElem_map]
       rfl
      have htl:(Q.take m).length=m:=by rw [List.length_take];omega
      have hgl:(dw (Q.take m)).length=(Q.take m).length:=by rw [List.length_map]
      generalize q[m]=o at *
      refine RM.cS (mu:=fun _=>false) ?_
      repeat' (first |(refine RM.Qf rfl rfl rfl ?_) |refine u1 ?_ |(refine ⟨[.sl (q.map aD) false],⟨by omega,hat⟩,rfl,?_⟩) |(refine ⟨aD o,⟨by omega,hatm⟩,rfl,?_⟩) |refine u2 ?_ |fail)
      refine RM.cS (mu:=fun _=>false) ?_
      repeat' (first |(refine RM.DP (cs:=dw (Q.take m)) (n:=(Q.take m).length) (els:=[eI o.day]) rfl rfl rfl rfl rfl (fun el hel=>by rw [List.mem_singleton.1 hel];rfl) rfl rfl (by rw [hgl];exact (Nat.mul_one _).symm) hcap (by simp only [List.length_singleton];omega) (fun v' c' hc'=>?_)) |refine u1 ?_ |(refine ⟨[.sl (q.map aD) false],⟨by omega,hat⟩,rfl,?_⟩) |(refine ⟨aD o,⟨by omega,hatm⟩,rfl,?_⟩) |refine u2 ?_ |fail)
      refine aa (mu:=fun _=>false) ?_
      repeat' (first |refine u1 ?_ |refine u2 ?_ |fail)
      exact ⟨(m+1,v',c'),⟨hlm,by dsimp only;rw [hs1,List.length_append];exact hc'⟩,(by dsimp only;omega),aj.to 1 (by dsimp only;rw [hs1];unfold dw;rw [List.map_append];rfl) ⟨rfl,rfl,rfl,rfl,rfl,(by dsimp only;rw [hs1,List.length_append];rfl),bW (by simp),trivial⟩ (Nat.zero_le _) rfl (fu _ _)⟩
     ·obtain rfl:m=Q.length:=by omega
      have d2:decide ((Q.length:Int) < ((q.map aD).length:Int))=false:=decide_eq_false (by rw [List.length_map];omega)
      rw [List.take_length] at hcap ⊢
      refine aa (mu:=fun _=>false) ?_
      repeat' (first |(refine RM.Qf rfl rfl rfl ?_) |refine u1 ?_ |(refine ⟨[.sl (q.map aD) false],⟨by omega,hat⟩,rfl,?_⟩) |refine u2 ?_ |fail)
      refine RM.cS (mu:=fun _=>false) ?_
      repeat' (first |refine u1 ?_ |refine u2 ?_ |fail)
      refine aA.block ?_
      refine aA.aX (aj.to (l:=[(2,.pt (az s) 0),(5,.sl (ints L) false),(8,aC 0),(12,.sl [[.sl (P.map aD) false],[.sl (C.map aD) false]] true),(13,aC (k:Nat)),(14,.bI 0 aB 0 Q.length cp),(16,aC (0:Nat))]) (hp:=[.cells (dw Q) 1 aB]) 1 rfl ⟨rfl,rfl,rfl,rfl,rfl,rfl,rfl,trivial⟩ (Nat.zero_le _) rfl (fu _ _)) ?_
      refine aA.loop (fun m:Nat=>m≤L.length) (fun m=>⟨bx [(2,.pt (az s) 0),(5,.sl (ints L) false),(8,aC 0),(12,.sl [[.sl (P.map aD) false],[.sl (C.map aD) false]] true),(13,aC (k:Nat)),(14,.bI 0 aB 0 Q.length cp),(16,aC (m:Nat))],[.cells (dw Q) 1 aB],bG.none,false,0⟩) (fun m=>L.length - m) ?_ 0 (Nat.zero_le _)
      intro m hm2
      have hQ8:Q.length≤maxLen:=Nat.le_trans (show Q.length≤8 by omega) (by decide)
      have hrow:Fz [.cells (dw Q) 1 aB] (.bI 0 aB 0 Q.length cp) (.sl (ints Q) false):=Fz.row (es:=1) rfl (by rw [List.length_map];omega) (by rw [List.length_map]) (fun el hel=>by obtain ⟨x,_,rfl⟩:=List.mem_map.1 hel;rfl) (by rw [eV,List.drop_zero,List.take_of_length_le (by rw [List.length_map];omega)]) (by rw [eV];exact lG _) (fun h=>Bool.noConfusion h)
      by_cases hlm:m < L.length
      ·have d2:decide ((m:Int) < ((ints L).length:Int))=true:=decide_eq_true (by rw [List.length_map];omega)
       have hbm:(m:Int) < ((ints L).length:Int):=by rw [List.length_map];omega
       have hatm:(ints L)[((m:Nat):Int).toNat]?=some (eI L[m]):=cI hlm
       have oh:=Rr false Q false L[m] hQ8
       rw [jR.2 (hqd _ (List.getElem_mem hlm))] at oh
       generalize L[m]=z at *
       refine RM.cS (mu:=fun _=>false) ?_
       repeat' (first |refine u1 ?_ |refine u2 ?_ |fail)
       refine aa (mu:=fun _=>false) ?_
       repeat' (first |(refine ah.Lw oh rfl (nk.two hrow (Fz.deep rfl)) (fA.fl _) ?_) |refine u1 ?_ |(refine ⟨eI z,⟨by omega,hatm⟩,rfl,?_⟩) |refine u2 ?_ |fail)
       exact ⟨m+1,hlm,(by dsimp only;omega),aj.to 1 rfl ⟨rfl,rfl,rfl,rfl,rfl,rfl,bW (by simp),trivial⟩ (Nat.zero_le _) rfl (fu _ _)⟩
      ·obtain rfl:m=L.length:=by omega
       have d2:decide ((L.length:Int) < ((ints L).length:Int))=false:=decide_eq_false (by rw [List.length_map];omega)
       refine aa (mu:=fun _=>false) ?_
       repeat' (first |refine u1 ?_ |refine u2 ?_ |fail)
       refine aa (mu:=fun _=>false) ?_
       repeat' (first |refine u1 ?_ |refine u2 ?_ |fail)
       exact ⟨k+1,hlt,(by dsimp only;omega),aj.to 0 rfl ⟨rfl,rfl,rfl,rfl,bW (by simp),trivial⟩ (Nat.zero_le _) rfl rfl⟩
   ·obtain rfl:k=2:=by omega
    have d1:decide (((2:Nat):Int) < (([[.sl (P.map aD) false],[.sl (C.map aD) false]]:List (List AV)).length:Int))=false:=decide_eq_false (by show ¬ (2:Int) < 2;omega)
    refine aa (mu:=fun _=>false) ?_
    repeat' (first |refine u1 ?_ |refine u2 ?_ |fail)
    refine aa (mu:=fun _=>false) ?_
    repeat' (first |(refine ah.call aw rfl rfl ?_) |refine u1 ?_ |refine u2 ?_ |fail)
    exact ⟨[_],⟨Fz.deep rfl,trivial⟩,rfl⟩
  ·have e9:rL s=9:=by
    unfold rL at c2 ⊢
    rw [if_pos c1] at c2 ⊢
    cases hf:iZ s s.possible with
    | none=>rfl
    | some p=>rw [hf] at c2;exact absurd rfl c2
   have em:lO s=[]:=by unfold lO;rw [if_neg c2]
   have ep:CN s=[]:=by
    unfold CN rL at *
    rw [if_pos c1] at *
    cases hf:iZ s s.possible with
    | none=>rfl
    | some p=>rw [hf] at e9;cases e9
   rw [ru c1] at o3
   rw [em,e9] at o1
   rw [ep,e9] at o2
   have o1:Pu false 32 [.ag (az s)] (.tp [.sl [] false,aC 9]):=o1
   have o2:Pu false 31 [.ag (az s)] (.tp [.sl [] false,aC 9]):=o2
   refine ah.body (fn:=Tryd.f11) rfl rfl rfl rfl ?_
   refine aa (mu:=fun _=>false) ?_
   repeat' (first |(refine RM.Ro rfl rfl rfl rfl ?_) |(refine ah.call o1 rfl rfl ?_) |(refine ah.call o2 rfl rfl ?_) |(refine ah.call o3 rfl rfl ?_) |(refine ah.call aw rfl rfl ?_) |refine u1 ?_ |refine u2 ?_ |fail)
   exact ⟨[_],⟨Fz.deep rfl,trivial⟩,rfl⟩
 ·have ee:rL s=(i7 s).2.2:=by unfold rL;rw [if_neg c1]
  have em:lO s=[]:=by unfold lO;rw [ee,if_neg c1]
  have ep:CN s=[]:=by unfold CN;rw [if_neg c1]
  rw [em,ee] at o1
  rw [ep,ee] at o2
  have d1:(!decide ((i7 s).2.2=0))=true:=by rw [decide_eq_false c1];rfl
  have d2:decide ((i7 s).2.2=(i7 s).2.2)=true:=decide_eq_true rfl
  generalize (i7 s).2.2=r at *
  generalize (i7 s).1=r1 at *
  generalize (i7 s).2.1=r2 at *
  have o1:Pu false 32 [.ag (az s)] (.tp [.sl [] false,aC r]):=o1
  have o2:Pu false 31 [.ag (az s)] (.tp [.sl [] false,aC r]):=o2
  refine ah.body (fn:=Tryd.f11) rfl rfl rfl rfl ?_
  refine aa (mu:=fun _=>false) ?_
  repeat' (first |(refine RM.Ro rfl rfl rfl rfl ?_) |(refine ah.call o1 rfl rfl ?_) |(refine ah.call o2 rfl rfl ?_) |(refine ah.call o3 rfl rfl ?_) |(refine ah.call aw rfl rfl ?_) |refine u1 ?_ |refine u2 ?_ |fail)
  exact ⟨[_],⟨Fz.deep rfl,trivial⟩,rfl⟩
end Go.Proofs.YtpeogffeoehboaaDoor
