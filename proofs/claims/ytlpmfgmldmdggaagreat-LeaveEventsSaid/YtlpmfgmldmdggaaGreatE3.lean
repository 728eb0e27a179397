/-
  Contracts of the program's functions and of the document's. Lemmas alone; their conditions stand in them.
-/
import Derived.Test.YtlpmfgmldmdggaaGreatE2
open Go Go.RM
namespace Go.Proofs.YtlpmfgmldmdggaaGreat
set_option maxRecDepth 100000
set_option maxHeartbeats 4000000
theorem swapx_c (one:Bool) (c:ay) (l P:List Ev) (f f':Bool) (D:Int) (q0 q1 q2 q3:Nat) (i:Nat) (da ka ma oa db kb mb ob:Int) (hl20:l.length≤20) (hi:i+1 < l.length)
  (o1:da=db→touchV ⟨da,ka,ma,oa⟩ ⟨db,kb,mb,ob⟩=false→ka ≠ 1→kb ≠ 1→Pu one 43 [.ag (aF c),.sl (l.map cZ) f,.sl ((l.take i++⟨db,kb,mb,ob⟩ :: ⟨da,ka,ma,oa⟩ :: l.drop (i+2)).map cZ) false,ah D] (BB true))
  {K:Exit→aR→Prop}:aC TT TB one x11c ⟨bM [(1,.sl (l.map cZ) f),(3,.pt (aF c) 0),(5,.pt (eTn q0 q1 q2 q3) 0),(7,ah D),(8,.sl (P.map cZ) f'),(9,ah (i:Nat)),(10,.pt [ah da,ah ka,ah ma,ah oa] 0),(11,.pt [ah db,ah kb,ah mb,ah ob] 0),(12,BB (touchV ⟨da,ka,ma,oa⟩ ⟨db,kb,mb,ob⟩))],[],bw.none,false,0⟩ (yc (fun s=>As s ⟨bM [(1,.sl (l.map cZ) f),(3,.pt (aF c) 0),(5,.pt (eTn q0 q1 q2 q3) 0),(7,ah D),(8,.sl (P.map cZ) f')],[],bw.none,false,0⟩) K):=by
 generalize hT:touchV ⟨da,ka,ma,oa⟩ ⟨db,kb,mb,ob⟩=T at *
 cases d1:decide (da=db) with
 | false =>
  refine aa (mu:=fun _=>false) ?_
  show kE _ _ _ _ (.seq (.region _ _ false) _) _ _
  repeat' (first |refine u1 ?_ |refine u2 ?_ |fail)
  exact .is (aj.to (l:=[(1,.sl (l.map cZ) f),(3,.pt (aF c) 0),(5,.pt (eTn q0 q1 q2 q3) 0),(7,ah D),(8,.sl (P.map cZ) f')]) (hp:=[]) 0 rfl ⟨rfl,rfl,rfl,rfl,rfl,trivial⟩ (Nat.zero_le _) rfl rfl)
 | true =>
  cases T with
  | true =>
   refine aa (mu:=fun _=>false) ?_
   show kE _ _ _ _ (.seq (.region _ _ false) _) _ _
   repeat' (first |refine u1 ?_ |refine u2 ?_ |fail)
   exact .is (aj.to (l:=[(1,.sl (l.map cZ) f),(3,.pt (aF c) 0),(5,.pt (eTn q0 q1 q2 q3) 0),(7,ah D),(8,.sl (P.map cZ) f')]) (hp:=[]) 0 rfl ⟨rfl,rfl,rfl,rfl,rfl,trivial⟩ (Nat.zero_le _) rfl rfl)
  | false =>
   cases d2:decide (ka=1) with
   | true =>
    have d2':(!decide (ka=1))=false:=by rw [d2];rfl
    refine aa (mu:=fun _=>false) ?_
    show kE _ _ _ _ (.seq (.region _ _ false) _) _ _
    repeat' (first |refine u1 ?_ |refine u2 ?_ |fail)
    exact .is (aj.to (l:=[(1,.sl (l.map cZ) f),(3,.pt (aF c) 0),(5,.pt (eTn q0 q1 q2 q3) 0),(7,ah D),(8,.sl (P.map cZ) f')]) (hp:=[]) 0 rfl ⟨rfl,rfl,rfl,rfl,rfl,trivial⟩ (Nat.zero_le _) rfl rfl)
   | false =>
    have d2':(!decide (ka=1))=true:=by rw [d2];rfl
    cases d3:decide (kb=1) with
    | true =>
     have d3':(!decide (kb=1))=false:=by rw [d3];rfl
     refine aa (mu:=fun _=>false) ?_
     show kE _ _ _ _ (.seq (.region _ _ false) _) _ _
     repeat' (first |refine u1 ?_ |refine u2 ?_ |fail)
     exact .is (aj.to (l:=[(1,.sl (l.map cZ) f),(3,.pt (aF c) 0),(5,.pt (eTn q0 q1 q2 q3) 0),(7,ah D),(8,.sl (P.map cZ) f')]) (hp:=[]) 0 rfl ⟨rfl,rfl,rfl,rfl,rfl,trivial⟩ (Nat.zero_le _) rfl rfl)
    | false =>
     have d3':(!decide (kb=1))=true:=by rw [d3];rfl
     have o2:=o1 (of_decide_eq_true d1) rfl (of_decide_eq_false d2) (of_decide_eq_false d3)
     have hel:∀ el ∈ l.map cZ,el.length=4:=Dn l
     have eL:(l.map cZ).length=l.length:=List.length_map _
     have n1:(((l.map cZ).drop 0).take (i - 0)).length=i:=by rw [List.length_take,List.length_drop,eL];omega
     have n2:(((l.map cZ).drop (i+2)).take ((l.map cZ).length - (i+2))).length=l.length - (i+2):=by rw [List.length_take,List.length_drop,eL];omega
     have hk1:0≤i∧i≤(l.map cZ).length:=⟨Nat.zero_le _,by rw [eL];omega⟩
     have hk2:i+2≤(l.map cZ).length∧(l.map cZ).length≤(l.map cZ).length:=⟨by rw [eL];omega,Nat.le_refl _⟩
     have hb1:(0+(((l.map cZ).drop 0).take (i - 0)).length) * 32≤140737488355328∧0+(((l.map cZ).drop 0).take (i - 0)).length≤9223372036854775807:=by rw [n1];omega
     have hb2:(0+(((l.map cZ).drop 0).take (i - 0)).length+2) * 32≤140737488355328∧0+(((l.map cZ).drop 0).take (i - 0)).length+2≤9223372036854775807:=by rw [n1];omega
     have hb3:(0+(((l.map cZ).drop 0).take (i - 0)).length+2+(((l.map cZ).drop (i+2)).take ((l.map cZ).length - (i+2))).length) * 32≤140737488355328∧0+(((l.map cZ).drop 0).take (i - 0)).length+2+(((l.map cZ).drop (i+2)).take ((l.map cZ).length - (i+2))).length≤9223372036854775807:=by rw [n1,n2];omega
     have z0:(((l.map cZ).drop 0).take (i - 0)).flatten=K4 (l.take i):=by rw [evcut,List.drop_zero,Nat.sub_zero];rfl
     have z9:(((l.map cZ).drop (i+2)).take ((l.map cZ).length - (i+2))).flatten=K4 (l.drop (i+2)):=by rw [evcut,eL,List.take_of_length_le (by rw [List.length_drop];omega)];rfl
     have hz1:(([]:List AV)++(((l.map cZ).drop 0).take (i - 0)).flatten).length=(0+(((l.map cZ).drop 0).take (i - 0)).length) * 4:=by rw [List.nil_append,z0,evF_len,n1,List.length_take];omega
     have hz2:(([]:List AV)++(((l.map cZ).drop 0).take (i - 0)).flatten++[[ah db,ah kb,ah mb,ah ob],[ah da,ah ka,ah ma,ah oa]].flatten).length=(0+(((l.map cZ).drop 0).take (i - 0)).length+2) * 4:=by rw [List.length_append,hz1];show _+8=_;omega
     obtain ⟨other,hO⟩:∃ o:List Ev,o=l.take i++⟨db,kb,mb,ob⟩ :: ⟨da,ka,ma,oa⟩ :: l.drop (i+2):=⟨_,rfl⟩
     have hfl:([]:List AV)++(((l.map cZ).drop 0).take (i - 0)).flatten++[[ah db,ah kb,ah mb,ah ob],[ah da,ah ka,ah ma,ah oa]].flatten++(((l.map cZ).drop (i+2)).take ((l.map cZ).length - (i+2))).flatten=K4 other:=by
      rw [z0,z9,hO,List.nil_append,evF_app,List.append_assoc]
      rfl
     have hln:other.length=0+(((l.map cZ).drop 0).take (i - 0)).length+2+(((l.map cZ).drop (i+2)).take ((l.map cZ).length - (i+2))).length:=by rw [hO,n1,n2,List.length_append,List.length_take];simp only [List.length_cons,List.length_drop];omega
     rw [←hO] at o2
     clear hO o1 z0 z9
     show aC TT TB one (.seq (.region _ _ _) (.cond _ _ _)) _ _
     refine RM.qK (mu:=fun _=>false) ?_
     repeat' (first |refine u1 ?_ |refine u2 ?_ |fail)
     refine aC.cond (t:=true) (by show AV.fl (Value.bool (!decide (kb=1)))=_;rw [d3']) (fun _=>?_) (fun h=>nomatch h)
     refine RM.qK (mu:=fun t=>Nat.beq t 119 || (Nat.beq t 123 || (Nat.beq t 127 || Nat.beq t 133))) ?_
     repeat' (first |(refine ⟨0,i,rfl,rfl,hk1,(by decide),hel,?_⟩) |((with_reducible show RM.wpOp _ _ (.call _) _ _ _);refine RM.uS (cs:=[]) (n:=0) (c:=0) (els:=(((l.map cZ).drop 0).take (i - 0))) rfl rfl rfl rfl rfl (evcut_len _ _ _) (evcut_one _ _ _) rfl rfl (.inl rfl) hb1 (fun v c' hc'=>?_)) |((with_reducible show RM.wpOp _ _ (.call _) _ _ _);refine RM.uS (cs:=[]++(((l.map cZ).drop 0).take (i - 0)).flatten) (n:=0+(((l.map cZ).drop 0).take (i - 0)).length) (els:=[[ah db,ah kb,ah mb,ah ob],[ah da,ah ka,ah ma,ah oa]]) rfl rfl rfl rfl rfl (fun el hel=>by rcases List.mem_cons.1 hel with rfl|hel;rfl;rw [List.mem_singleton.1 hel];rfl) rfl rfl hz1 hc' hb2 (fun v' c'' hc''=>?_)) |refine u1 ?_ |refine u2 ?_ |fail)
     refine RM.qK (mu:=fun t=>Nat.beq t 119 || (Nat.beq t 123 || (Nat.beq t 127 || Nat.beq t 133))) ?_
     repeat' (first |(refine ⟨i+2,(l.map cZ).length,rfl,rfl,hk2,(by decide),hel,?_⟩) |((with_reducible show RM.wpOp _ _ (.call _) _ _ _);refine RM.uS (cs:=[]++(((l.map cZ).drop 0).take (i - 0)).flatten++[[ah db,ah kb,ah mb,ah ob],[ah da,ah ka,ah ma,ah oa]].flatten) (n:=0+(((l.map cZ).drop 0).take (i - 0)).length+2) (els:=(((l.map cZ).drop (i+2)).take ((l.map cZ).length - (i+2)))) rfl rfl rfl rfl rfl (evcut_len _ _ _) (evcut_one _ _ _) rfl hz2 hc'' hb3 (fun v3 c3 hc3=>?_)) |refine u1 ?_ |refine u2 ?_ |fail)
     refine aC.bx (aj.trans (aj.Ed 0 (cs:=K4 other) (l:=[(1,.sl (l.map cZ) f),(3,.pt (aF c) 0),(5,.pt (eTn q0 q1 q2 q3) 0),(7,ah D),(8,.sl (P.map cZ) f'),(13,.sl (other.map cZ) false)]) (hp':=[.gone]) (by show some (AB.cells _ 4 v3)=_;rw [hfl]) (Nat.zero_le _) (evF_deep _) ⟨.same rfl,.same rfl,.same rfl,.same rfl,.same rfl,ev_gv hln,trivial⟩ ⟨rfl,trivial⟩) (aj.to (l:=[(1,.sl (l.map cZ) f),(3,.pt (aF c) 0),(5,.pt (eTn q0 q1 q2 q3) 0),(7,ah D),(8,.sl (P.map cZ) f'),(13,.sl (other.map cZ) false)]) (hp:=[]) 0 rfl ⟨rfl,rfl,rfl,rfl,rfl,rfl,trivial⟩ (Nat.zero_le _) rfl rfl)) ?_
     refine aa (mu:=fun _=>false) ?_
     repeat' (first |refine u1 ?_ |((with_reducible show ai _ _ _ _ _ _ _ _);refine af.call o2 rfl rfl ?_) |refine u2 ?_ |fail)
     exact .is (aj.to (l:=[(1,.sl (l.map cZ) f),(3,.pt (aF c) 0),(5,.pt (eTn q0 q1 q2 q3) 0),(7,ah D),(8,.sl (P.map cZ) f')]) (hp:=[]) 0 rfl ⟨rfl,rfl,rfl,rfl,rfl,trivial⟩ (Nat.zero_le _) rfl rfl)
end Go.Proofs.YtlpmfgmldmdggaaGreat
open Go Go.RM
namespace Go.Proofs.YtlpmfgmldmdggaaGreat
set_option maxRecDepth 100000
set_option maxHeartbeats 4000000
theorem mid_c (one:Bool) (c:ay) (l P:List Ev) (f f':Bool) (D:Int) (q0 q1 q2 q3:Nat) (h0:q0≤255) (hl20:l.length≤20)
  (o1:∀ (p r:List Ev) (a b:Ev),l=p++a :: b :: r→a.day=b.day→touchV a b=false→a.kind ≠ 1→b.kind ≠ 1→Pu one 43 [.ag (aF c),.sl (l.map cZ) f,.sl ((p++b :: a :: r).map cZ) false,ah D] (BB true))
  {K:Exit→aR→Prop}:aC TT TB one (fs1 t11m) ⟨bM [(1,.sl (l.map cZ) f),(3,.pt (aF c) 0),(5,.pt (eTn q0 q1 q2 q3) 0),(7,ah D),(8,.sl (P.map cZ) f')],[],bw.none,false,0⟩ (yc (fun s=>As s ⟨bM [(1,.sl (l.map cZ) f),(3,.pt (aF c) 0),(5,.pt (eTn q0 q1 q2 q3) 0),(7,ah D),(8,.sl (P.map cZ) f')],[],bw.none,false,0⟩) K):=by
 have eL:((l.map cZ).length:Int)=l.length:=by simp
 by_cases h1:1 < l.length
 ·have d1:decide ((1:Int) < ((l.map cZ).length:Int))=true:=decide_eq_true (by omega)
  have hpos:(0:Int) < ((l.map cZ).length:Int) - 1:=by omega
  have b1:=Int.emod_nonneg (q0:Int) (show ((l.map cZ).length:Int) - 1 ≠ 0 by omega)
  have b2:=Int.emod_lt_of_pos (q0:Int) hpos
  obtain ⟨i,hI⟩:∃ i:Nat,(i:Int)=(q0:Int) % (((l.map cZ).length:Int) - 1):=⟨((q0:Int) % (((l.map cZ).length:Int) - 1)).toNat,Int.toNat_of_nonneg b1⟩
  have hi:i+1 < l.length:=by omega
  have hat1:(l.map cZ)[((i:Nat):Int).toNat]?=some (cZ l[i]):=bG (by omega)
  have hat2:(l.map cZ)[((i:Int)+1).toNat]?=some (cZ l[i+1]):=by
   rw [show ((i:Int)+1).toNat=(((i+1:Nat)):Int).toNat by omega]
   exact bG hi
  have hsp:l=l.take i++l[i] :: l[i+1] :: l.drop (i+2):=by
   rw [←List.drop_eq_getElem_cons hi,←List.drop_eq_getElem_cons (show i < l.length by omega),List.take_append_drop]
  have o2:=o1 (l.take i) (l.drop (i+2)) l[i] l[i+1] hsp
  clear o1 hsp
  generalize l[i]=a at *
  generalize l[i+1]=b at *
  obtain ⟨da,ka,ma,oa⟩:=a
  obtain ⟨db,kb,mb,ob⟩:=b
  dsimp only at o2
  show aC TT TB one (.seq (.region _ _ _) (.cond _ _ _)) _ _
  refine RM.qK (mu:=fun _=>false) ?_
  repeat' (first |refine u1 ?_ |refine u2 ?_ |fail)
  refine aC.cond (t:=true) (by show AV.fl (Value.bool (decide ((1:Int) < ((l.map cZ).length:Int))))=_;rw [d1]) (fun _=>?_) (fun h=>nomatch h)
  show aC TT TB one (.seq (.region _ _ _) (.seq (.region _ _ _) x11b)) _ _
  refine RM.qK (mu:=fun _=>false) ?_
  repeat' (first |refine u1 ?_ |((with_reducible show RM.wpOp _ _ (.convert _ _ _) _ _ _);refine cw8 rfl h0 ?_) |refine u2 ?_ |fail)
  rw [←hI]
  refine RM.qK (mu:=fun _=>false) ?_
  repeat' (first |refine u1 ?_ |(refine ⟨[ah da,ah ka,ah ma,ah oa],⟨by omega,hat1⟩,rfl,?_⟩) |(refine ⟨[ah db,ah kb,ah mb,ah ob],⟨by omega,hat2⟩,rfl,?_⟩) |refine u2 ?_ |fail)
  refine aC.bx (aj.trans (aj.giveUp 1 (l:=[(1,.sl (l.map cZ) f),(3,.pt (aF c) 0),(5,.pt (eTn q0 q1 q2 q3) 0),(7,ah D),(8,.sl (P.map cZ) f'),(9,ah (i:Nat)),(10,.ptr 0 0 0),(11,.pt [ah db,ah kb,ah mb,ah ob] 0)]) (hp:=[.cells [ah da,ah ka,ah ma,ah oa] 0 0,.gone]) rfl (Nat.zero_le _) rfl ⟨.same rfl,.same rfl,.same rfl,.same rfl,.same rfl,.same rfl,.same rfl,.ptr,trivial⟩ rfl rfl) (aj.trans (aj.giveUp 0 (l:=[(1,.sl (l.map cZ) f),(3,.pt (aF c) 0),(5,.pt (eTn q0 q1 q2 q3) 0),(7,ah D),(8,.sl (P.map cZ) f'),(9,ah (i:Nat)),(10,.pt [ah da,ah ka,ah ma,ah oa] 0),(11,.pt [ah db,ah kb,ah mb,ah ob] 0)]) (hp:=[.gone,.gone]) rfl (Nat.zero_le _) rfl ⟨.same rfl,.same rfl,.same rfl,.same rfl,.same rfl,.same rfl,.ptr,.same rfl,trivial⟩ rfl rfl) (aj.to (l:=[(1,.sl (l.map cZ) f),(3,.pt (aF c) 0),(5,.pt (eTn q0 q1 q2 q3) 0),(7,ah D),(8,.sl (P.map cZ) f'),(9,ah (i:Nat)),(10,.pt [ah da,ah ka,ah ma,ah oa] 0),(11,.pt [ah db,ah kb,ah mb,ah ob] 0)]) (hp:=[]) 0 rfl ⟨rfl,rfl,rfl,rfl,rfl,rfl,rfl,rfl,trivial⟩ (Nat.zero_le _) rfl rfl))) ?_
  exact touch_c one c l P f f' D q0 q1 q2 q3 i da ka ma oa db kb mb ob (swapx_c one c l P f f' D q0 q1 q2 q3 i da ka ma oa db kb mb ob hl20 hi o2)
 ·have d1:decide ((1:Int) < ((l.map cZ).length:Int))=false:=decide_eq_false (by omega)
  refine aa (mu:=fun _=>false) ?_
  show kE _ _ _ _ (.seq (.region _ _ _) _) _ _
  repeat' (first |refine u1 ?_ |refine u2 ?_ |fail)
  exact .is (aj.to (l:=[(1,.sl (l.map cZ) f),(3,.pt (aF c) 0),(5,.pt (eTn q0 q1 q2 q3) 0),(7,ah D),(8,.sl (P.map cZ) f')]) (hp:=[]) 0 rfl ⟨rfl,rfl,rfl,rfl,rfl,trivial⟩ (Nat.zero_le _) rfl rfl)
theorem tail_c (one:Bool) (c:ay) (l P:List Ev) (f f':Bool) (D:Int) (q0 q1 q2 q3:Nat) (h2:q2≤255) (h3:q3≤255) (hD:0≤D∧D≤40000) (hm5:1≤c.aG.length∧c.aG.length≤5) (hP:P.length≤20)
  (o1:∀ (m n:Nat),m < c.aG.length→n < c.aG.length→m ≠ n→P.length≤18→aD c P m=0→aD c P n=1→Pu one 43 [.ag (aF c),.sl (P.map cZ) f',.sl ((P++[swX D m n,swX D n m]).map cZ) false,ah (min 40000 (D+10))] (BB true)) :
  aC TT TB one t11t ⟨bM [(1,.sl (l.map cZ) f),(3,.pt (aF c) 0),(5,.pt (eTn q0 q1 q2 q3) 0),(7,ah D),(8,.sl (P.map cZ) f')],[],bw.none,false,0⟩ (wK TT Tryz.f11.results.toList (BB true)):=by
 have aw:=KY one
 have em:((c.aG.map bp).length:Int)=c.aG.length:=by simp
 have ep:((P.map cZ).length:Int)=P.length:=by simp
 have hmx:P.length≤maxLen:=by simp [maxLen];omega
 have hpos:(0:Int) < ((c.aG.map bp).length:Int):=by omega
 have b1:=Int.emod_nonneg (q2:Int) (show ((c.aG.map bp).length:Int) ≠ 0 by omega)
 have b2:=Int.emod_lt_of_pos (q2:Int) hpos
 have b3:=Int.emod_nonneg (q3:Int) (show ((c.aG.map bp).length:Int) ≠ 0 by omega)
 have b4:=Int.emod_lt_of_pos (q3:Int) hpos
 obtain ⟨m,hm⟩:∃ i:Nat,(i:Int)=(q2:Int) % ((c.aG.map bp).length:Int):=⟨((q2:Int) % ((c.aG.map bp).length:Int)).toNat,Int.toNat_of_nonneg b1⟩
 obtain ⟨n,hn⟩:∃ i:Nat,(i:Int)=(q3:Int) % ((c.aG.map bp).length:Int):=⟨((q3:Int) % ((c.aG.map bp).length:Int)).toNat,Int.toNat_of_nonneg b3⟩
 have hmn:m < c.aG.length:=by omega
 have hnn:n < c.aG.length:=by omega
 have p1:=tG one c P f' hmx m hmn
 have p2:=tG one c P f' hmx n hnn
 have o2:=o1 m n hmn hnn
 clear o1
 generalize aD c P m=pm at *
 generalize aD c P n=pn at *
 show aC TT TB one (.seq (.region _ _ _) (.seq (.seq (.region _ _ _) _) (.seq (.region _ _ _) (.seq (.region _ _ _) _)))) _ _
 refine RM.qK (mu:=fun _=>false) ?_
 repeat' (first |refine u1 ?_ |((with_reducible show RM.wpOp _ _ (.convert _ _ _) _ _ _);refine cw8 rfl h2 ?_) |((with_reducible show RM.wpOp _ _ (.convert _ _ _) _ _ _);refine cw8 rfl h3 ?_) |refine u2 ?_ |fail)
 rw [←hm,←hn]
 cases e1:decide ((m:Int)=(n:Int)) with
 | true =>
  refine aa (mu:=fun _=>false) ?_
  repeat' (first |refine u1 ?_ |((with_reducible show ai _ _ _ _ _ _ _ _);refine af.call aw rfl rfl ?_) |refine u2 ?_ |fail)
  exact ⟨[_],⟨Fz.deep rfl,trivial⟩,rfl⟩
 | false =>
  cases e2:decide ((20:Int) < ((P.map cZ).length:Int)+2) with
  | true =>
   refine aa (mu:=fun _=>false) ?_
   repeat' (first |refine u1 ?_ |((with_reducible show ai _ _ _ _ _ _ _ _);refine af.call aw rfl rfl ?_) |refine u2 ?_ |fail)
   exact ⟨[_],⟨Fz.deep rfl,trivial⟩,rfl⟩
  | false =>
   cases e3:decide (pm=0) with
   | false =>
    have e3':(!decide (pm=0))=true:=by rw [e3];rfl
    refine aa (mu:=fun _=>false) ?_
    repeat' (first |refine u1 ?_ |((with_reducible show ai _ _ _ _ _ _ _ _);refine af.call p1 rfl rfl ?_) |((with_reducible show ai _ _ _ _ _ _ _ _);refine af.call aw rfl rfl ?_) |refine u2 ?_ |fail)
    exact ⟨[_],⟨Fz.deep rfl,trivial⟩,rfl⟩
   | true =>
    have e3':(!decide (pm=0))=false:=by rw [e3];rfl
    cases e4:decide (pn=1) with
    | false =>
     have e4':(!decide (pn=1))=true:=by rw [e4];rfl
     refine aa (mu:=fun _=>false) ?_
     repeat' (first |refine u1 ?_ |((with_reducible show ai _ _ _ _ _ _ _ _);refine af.call p1 rfl rfl ?_) |((with_reducible show ai _ _ _ _ _ _ _ _);refine af.call p2 rfl rfl ?_) |((with_reducible show ai _ _ _ _ _ _ _ _);refine af.call aw rfl rfl ?_) |refine u2 ?_ |fail)
     exact ⟨[_],⟨Fz.deep rfl,trivial⟩,rfl⟩
    | true =>
     have e4':(!decide (pn=1))=false:=by rw [e4];rfl
     have h18:P.length≤18:=by have:=of_decide_eq_false e2;omega
     have o3:=o2 (by have:=of_decide_eq_false e1;omega) h18 (of_decide_eq_true e3) (of_decide_eq_true e4)
     have hel:∀ el ∈ P.map cZ,el.length=4:=Dn P
     have hb1:(0+(P.map cZ).length) * 32≤140737488355328∧0+(P.map cZ).length≤9223372036854775807:=by rw [List.length_map];omega
     have hb2:(0+(P.map cZ).length+2) * 32≤140737488355328∧0+(P.map cZ).length+2≤9223372036854775807:=by rw [List.length_map];omega
     have hz1:(([]:List AV)++(P.map cZ).flatten).length=(0+(P.map cZ).length) * 4:=by rw [List.nil_append,Nat.zero_add,List.length_map];exact evF_len P
     have hln:(P++[swX D m n,swX D n m]).length=0+(P.map cZ).length+2:=by rw [List.length_append,List.length_map,Nat.zero_add];rfl
     have hfl:([]:List AV)++(P.map cZ).flatten++[cZ (swX D m n),cZ (swX D n m)].flatten=K4 (P++[swX D m n,swX D n m]):=by rw [evF_app];rfl
     refine RM.qK (mu:=fun _=>false) ?_
     repeat' (first |refine u1 ?_ |((with_reducible show ai _ _ _ _ _ _ _ _);refine af.call p1 rfl rfl ?_) |((with_reducible show ai _ _ _ _ _ _ _ _);refine af.call p2 rfl rfl ?_) |refine u2 ?_ |fail)
     refine RM.qK (mu:=fun t=>Nat.beq t 180 || (Nat.beq t 182 || Nat.beq t 192)) ?_
     repeat' (first |((with_reducible show RM.wpOp _ _ (.call _) _ _ _);refine RM.uS (cs:=[]) (n:=0) (c:=0) (els:=P.map cZ) rfl rfl rfl rfl rfl hel (evF_one P) rfl rfl (.inl rfl) hb1 (fun v c' hc'=>?_)) |((with_reducible show RM.wpOp _ _ (.call _) _ _ _);refine RM.uS (cs:=[]++(P.map cZ).flatten) (n:=0+(P.map cZ).length) (els:=[cZ (swX D m n),cZ (swX D n m)]) rfl rfl rfl rfl rfl (fun el hel=>by rcases List.mem_cons.1 hel with rfl|hel;rfl;rw [List.mem_singleton.1 hel];rfl) rfl rfl hz1 hc' hb2 (fun v' c'' hc''=>?_)) |refine u1 ?_ |refine u2 ?_ |fail)
     refine aC.bx (aj.trans (aj.Ed 0 (cs:=K4 (P++[swX D m n,swX D n m])) (l:=[(1,.sl (l.map cZ) f),(3,.pt (aF c) 0),(5,.pt (eTn q0 q1 q2 q3) 0),(7,ah D),(8,.sl (P.map cZ) f'),(16,.sl ((P++[swX D m n,swX D n m]).map cZ) false)]) (hp':=[.gone]) (by show some (AB.cells _ 4 v')=_;rw [hfl]) (Nat.zero_le _) (evF_deep _) ⟨.same rfl,.same rfl,.same rfl,.same rfl,.same rfl,ev_gv hln,trivial⟩ ⟨rfl,trivial⟩) (aj.to (l:=[(1,.sl (l.map cZ) f),(3,.pt (aF c) 0),(5,.pt (eTn q0 q1 q2 q3) 0),(7,ah D),(8,.sl (P.map cZ) f'),(16,.sl ((P++[swX D m n,swX D n m]).map cZ) false)]) (hp:=[]) 0 rfl ⟨rfl,rfl,rfl,rfl,rfl,rfl,trivial⟩ (Nat.zero_le _) rfl rfl)) ?_
     generalize P++[swX D m n,swX D n m]=Q at *
     refine aa (mu:=fun _=>false) ?_
     repeat' (first |refine u1 ?_ |((with_reducible show ai _ _ _ _ _ _ _ _);refine af.call o3 rfl rfl ?_) |((with_reducible show ai _ _ _ _ _ _ _ _);refine af.call aw rfl rfl ?_) |refine u2 ?_ |fail)
     exact ⟨[_],⟨Fz.deep rfl,trivial⟩,rfl⟩
theorem eventsL_c (c:ay) (h:c.Ok) (l:List Ev) (f:Bool) (hl:l.length≤maxLen) (hd:∀ x ∈ l,x.day≤later) (q0 q1 q2 q3:Nat) (h0:q0≤255) (h1:q1≤65535) (h2:q2≤255) (h3:q3≤255):Pu false 11 [.ag (aF c),.sl (l.map cZ) f,.ag (eTn q0 q1 q2 q3)] (BB true):=by
 have o1:=good_c false c h l f hl hd
 have aw:=KY false
 by_cases hcl:(va c l).2=0
 ·rw [decide_eq_true hcl] at o1
  have hv:=J2 hd hcl
  have hm5:=hv.good.aG
  obtain ⟨D,hD⟩:∃ D:Int,D=((q1:Nat):Int) % 40001:=⟨_,rfl⟩
  have bD:0≤D∧D≤40000:=by omega
  obtain ⟨f',o3⟩:=ID false l f hl D
  have hu:=vd_until hv D
  have hc0:=clV_chk hcl
  have small:∀ {o:List Ev},Vd c o→o.length≤maxLen∧(∀ x ∈ o,x.day≤later)∧(va c o).2=0:=fun {o} hvo=>⟨by have:=hvo.len;simp [maxLen];omega,fun x hx=>by have:=(hvo.mono.day x hx).2;simp [later];omega,by rw [vd_clV hvo hc0]⟩
  have hu3:=small hu
  have o4:=same43_c false c h l (cE D l) f f' hl hu3.1 hd hu3.2.1 hcl hu3.2.2 D bD (past_law hv bD.1)
  have mid:=fun {K}=>mid_c false c l (cE D l) f f' D q0 q1 q2 q3 h0 hv.len (fun p r a b hab hday ht ka kb=>by
   have hno:NoT a b:=by
    unfold touchV at ht
    simp only [Bool.or_eq_false_iff,Bool.and_eq_false_iff,decide_eq_false_iff_not] at ht
    obtain ⟨t1,t2,t3,t4⟩:=ht
    exact ⟨t1,fun hk=>by rcases t2 with t|t;exact absurd hk t;exact t,fun hk=>by rcases t3 with t|t;exact absurd hk t;exact t,fun hk hk2=>by rcases t4 with (t|t)|t;exact absurd hk t;exact absurd hk2 t;exact t⟩
   have hs:=swp_law (hab ▸ hv) hno hday ka kb bD.1
   have hs3:=small hs.vd
   rw [←hab] at hs
   exact same43_c false c h l _ f false hl hs3.1 hd hs3.2.1 hcl hs3.2.2 D bD hs) (K:=K)
  have tail:=tail_c false c l (cE D l) f f' D q0 q1 q2 q3 h2 h3 bD hm5 hu.len (fun m n hm hn hmn h18 hp0 hp1=>by
   have bE:D≤min 40000 (D+10)∧min 40000 (D+10)≤40000:=by omega
   have hs:=twice_law hu bD (zh l) h18 hm hn hmn hp0 hp1 bE.1
   have hs3:=small hs.vd
   exact same43_c false c h (cE D l) _ f' false hu3.1 hs3.1 hu3.2.1 hs3.2.1 hu3.2.2 hs3.2.2 _ ⟨by omega,bE.2⟩ hs)
  generalize cE D l=P at *
  refine af.body (fn:=Tryz.f11) rfl rfl rfl rfl ?_
  show aC TT TB false (.seq (.region _ _ _) (.seq (.seq (.region _ _ _) _) (.seq (.region _ _ _) (.seq (.region _ _ _) (.seq (.seq (.region _ _ _) _) (.seq (fs1 t11m) t11t)))))) _ _
  refine RM.qK (mu:=fun _=>false) ?_
  repeat' (first |refine u1 ?_ |refine u2 ?_ |fail)
  refine RM.qK (mu:=fun _=>false) ?_
  repeat' (first |refine u1 ?_ |((with_reducible show ai _ _ _ _ _ _ _ _);refine af.call o1 rfl rfl ?_) |refine u2 ?_ |fail)
  refine RM.qK (mu:=fun _=>false) ?_
  repeat' (first |refine u1 ?_ |((with_reducible show RM.wpOp _ _ (.convert _ _ _) _ _ _);refine cw16 rfl h1 ?_) |refine u2 ?_ |fail)
  rw [←hD]
  refine RM.qK (mu:=fun _=>false) ?_
  repeat' (first |refine u1 ?_ |((with_reducible show ai _ _ _ _ _ _ _ _);refine af.call o3 rfl rfl ?_) |refine u2 ?_ |fail)
  refine RM.qK (mu:=fun _=>false) ?_
  repeat' (first |refine u1 ?_ |((with_reducible show ai _ _ _ _ _ _ _ _);refine af.call o4 rfl rfl ?_) |refine u2 ?_ |fail)
  refine aC.bx (aj.to (l:=[(1,.sl (l.map cZ) f),(3,.pt (aF c) 0),(5,.pt (eTn q0 q1 q2 q3) 0),(7,ah D),(8,.sl (P.map cZ) f')]) (hp:=[]) 0 rfl ⟨rfl,rfl,rfl,rfl,rfl,trivial⟩ (Nat.zero_le _) rfl rfl) ?_
  exact RM.cutAt mid tail
 ·rw [decide_eq_false hcl] at o1
  refine af.body (fn:=Tryz.f11) rfl rfl rfl rfl ?_
  refine aa (mu:=fun _=>false) ?_
  repeat' (first |refine u1 ?_ |((with_reducible show ai _ _ _ _ _ _ _ _);refine af.call o1 rfl rfl ?_) |((with_reducible show ai _ _ _ _ _ _ _ _);refine af.call aw rfl rfl ?_) |refine u2 ?_ |fail)
  exact ⟨[_],⟨Fz.deep rfl,trivial⟩,rfl⟩
end Go.Proofs.YtlpmfgmldmdggaaGreat
