/-
  Contracts of the program's functions and of the document's. Lemmas alone; their conditions stand in them.
-/
import Derived.Test.YtpeogffeoehboaaGreatDoorK19
open Go Go.RM
namespace Go.Proofs.YtpeogffeoehboaaGreatDoor
set_option maxRecDepth 100000
set_option maxHeartbeats 4000000
def lT (s:ai) (P l:List Int):Option (List Order):=bl s (iJ P l) []
theorem xK (one:Bool) {s:ai} (hg:Good s):Pu one 46 [.ag (ay s)] (.tp [.sl (((gO s s.possible).getD []).map aD) false,BB (gO s s.possible).isSome]):=by
 obtain ⟨p1,p2⟩:=sP hg;have hm:=hg.many;have hdp:s.possible.Pairwise (· < ·):=List.pairwise_iff_getElem.2 fun i j hi hj hij=>p2 i j hi hj hij;have hdr:∀ x ∈ s.possible,0≤x∧x < s.days:=fun x hx=>by obtain ⟨i,hi,rfl⟩:=List.mem_iff_getElem.1 hx;exact p1 i hi
 have oc:=FG one hg;have hdoc:=NI hg s.possible;have eP:((ints s.possible).length:Int)=s.possible.length:=by simp
 refine aj.body (fn:=Tryz.f46) rfl rfl rfl rfl ?_;refine qq2 ?_;repeat' first|refine RM.Hv rfl rfl rfl rfl ?_|refine u1 ?_|refine u2 ?_|fail
 refine qq2 ?_;repeat' first|((with_reducible refine qq3 ?_);refine aj.call oc rfl rfl ?_)|refine u1 ?_|refine u2 ?_|fail
 refine av.seq ?_;refine qq2 ?_;repeat' first|refine u1 ?_|refine u2 ?_|fail
 refine av.block ?_;refine av.aJ (ah.to (l:=[(1,.pt (ay s) 0),(4,.sl ((iu s).map eL) false),(5,aC (0:Nat))]) (hp:=[]) 0 rfl ⟨rfl,rfl,rfl,trivial⟩ (qq5 _) rfl rfl) ?_;refine av.loop (fun m:Nat=>m≤s.possible.length+1∧∀ j,j < m→(dQ s.possible.length j []).findSome? (lT s s.possible)=none) (fun m=>⟨aZ [(1,.pt (ay s) 0),(4,.sl ((iu s).map eL) false),(5,aC (m:Nat))],[],bA.none,false,0⟩) (fun m=>s.possible.length+1 - m) ?_ 0 ⟨qq5 _,fun j h=>absurd h (Nat.not_lt_zero _)⟩;rintro m ⟨hm1,hprev⟩;by_cases hlt:m≤s.possible.length
 ·have d1:decide (((m:Nat):Int)≤((ints s.possible).length:Int))=true:=decide_eq_true (by omega);have oc:=Bu one (below:=s.possible.length) (by omega) m [] (by omega) (by simp;omega) (fun x hx=>by cases hx);rw [←eP] at oc;have hLl:=jG (below:=s.possible.length) (by omega) m [] (Int.le_refl _);have hLm:=fun l (h:l ∈ dQ (s.possible.length:Nat) m [])=>kR.1 h;have hp8:=zN (m:=m) (by omega);have hfind:∀ q,(dQ (s.possible.length:Nat) m []).findSome? (lT s s.possible)=some q→gO s s.possible=some q:=fun q hq=>by rw [hdoc];exact nS (i:=m) (by simp;omega) (fun j hj hji=>by rw [List.getElem_range];exact hprev j hji) (by rw [List.getElem_range];exact hq)
  have hnext:(dQ (s.possible.length:Nat) m []).findSome? (lT s s.possible)=none→∀ j,j < m+1→(dQ s.possible.length j []).findSome? (lT s s.possible)=none:=fun h j hj=>by
   by_cases e:j < m
   ·exact hprev j e
   ·obtain rfl:j=m:=by omega
    exact h
  rw [eP] at oc;clear hprev hdoc
  generalize hLL:dQ (s.possible.length:Nat) m []=L at *
  rw [←eP] at oc;refine qq2 ?_;repeat' first|refine u1 ?_|refine u2 ?_|fail
  refine av.seq ?_;refine av.block ?_;refine qq2 ?_;repeat' first|(refine az.soft (cm.cons (aW.nil false) (cm.cons (aW.refl _) (cm.tO (aW.refl _)))) (aj.call oc rfl rfl ?_))|refine u1 ?_|refine u2 ?_|fail
  refine qq2 ?_;repeat' first|refine u1 ?_|refine u2 ?_|fail
  refine av.block ?_;refine av.aJ (ah.to (l:=[(1,.pt (ay s) 0),(4,.sl ((iu s).map eL) false),(5,aC (m:Nat)),(6,.sl (L.map eL) false),(7,aC (0:Nat))]) (hp:=[]) 0 rfl ⟨rfl,rfl,rfl,rfl,rfl,trivial⟩ (qq5 _) rfl rfl) ?_;refine av.loop (fun i:Nat=>i≤L.length∧∀ (j:Nat) (h:j < L.length),j < i→lT s s.possible L[j]=none) (fun i=>⟨aZ [(1,.pt (ay s) 0),(4,.sl ((iu s).map eL) false),(5,aC (m:Nat)),(6,.sl (L.map eL) false),(7,aC (i:Nat))],[],bA.none,false,0⟩) (fun i=>L.length - i) ?_ 0 ⟨qq5 _,fun j _ h=>absurd h (Nat.not_lt_zero _)⟩;rintro i ⟨hi,hpr⟩;have eLn:((L.map eL).length:Int)=L.length:=by simp
  by_cases hli:i < L.length
  ·have d2:decide ((i:Int) < ((L.map eL).length:Int))=true:=decide_eq_true (by omega);have hbi:(i:Int) < ((L.map eL).length:Int):=by omega
   have hat:(L.map eL)[((i:Nat):Int).toNat]?=some (eL L[i]):=bp hli;obtain ⟨cc,hcc,hln,hlp,hlb⟩:=hLm L[i] (List.getElem_mem hli);rw [List.nil_append] at hcc;rw [←hcc] at hln hlb hlp;have hlb:∀ x ∈ L[i],0≤x∧x < ((s.possible.length:Nat):Int):=hlb;have hfnd:∀ q,lT s s.possible L[i]=some q→L.findSome? (lT s s.possible)=some q:=fun q hq=>nS hli (fun j hj hji=>hpr j hj hji) hq
   have hnxt:lT s s.possible L[i]=none→∀ (j:Nat) (h:j < L.length),j < i+1→lT s s.possible L[j]=none:=fun h j hj hji=>by
    by_cases e:j < i
    ·exact hpr j hj e
    ·obtain rfl:j=i:=by omega
     exact h
   clear hpr hcc
   generalize L[i]=l at *
   refine qq2 ?_;repeat' first|refine u1 ?_|refine u2 ?_|fail
   refine av.seq ?_;refine av.block ?_;refine qq2 ?_;repeat' first|refine u1 ?_|refine u2 ?_|fail
   refine av.seq ?_;refine qq2 ?_;repeat' first|refine u1 ?_|refine u2 ?_|fail
   refine av.block ?_;refine av.aJ (ah.trans (ah.jl 1) (ah.Gi (l:=[(1,.pt (ay s) 0),(4,.sl ((iu s).map eL) false),(5,aC (m:Nat)),(6,.sl (L.map eL) false),(7,aC (i:Nat)),(8,.bg 0 0 0 0 0),(9,aC (0:Nat))]) (hp:=[.cells (bG (iJ s.possible (l.take 0))) 1 0]) 1 rfl ⟨aW.refl _,aW.refl _,aW.refl _,aW.refl _,aW.refl _,aW.jk,aW.refl _,trivial⟩ (qq5 _) rfl (dK _ _))) ?_;refine av.loop (fun x:Nat × Nat × Nat=>x.1≤m∧(x.2.2=x.1∨x.2.2=x.1+1)) (fun x=>⟨aZ [(1,.pt (ay s) 0),(4,.sl ((iu s).map eL) false),(5,aC (m:Nat)),(6,.sl (L.map eL) false),(7,aC (i:Nat)),(8,.bg 0 x.2.1 0 x.1 x.2.2),(9,aC (x.1:Nat))],[.cells (bG (iJ s.possible (l.take x.1))) 1 x.2.1],bA.none,false,0⟩) (fun x=>m - x.1) ?_ (0,0,0) ⟨qq5 _,.inl rfl⟩;rintro ⟨k,aA,c⟩ ⟨hk,hcap⟩;dsimp only at hk hcap;show av _ _ _ _ ⟨aZ [(1,.pt (ay s) 0),(4,.sl ((iu s).map eL) false),(5,aC (m:Nat)),(6,.sl (L.map eL) false),(7,aC (i:Nat)),(8,.bg 0 aA 0 k c),(9,aC (k:Nat))],[.cells (bG (iJ s.possible (l.take k))) 1 aA],bA.none,false,0⟩ _;by_cases hkm:k < m
   ·have hkl:k < l.length:=by omega
    have hv:=hlb l[k] (List.getElem_mem hkl);have hatk:(ints l)[((k:Nat):Int).toNat]?=some (eI l[k]):=bp hkl;have hbk:(k:Int) < ((ints l).length:Int):=by rw [show (ints l).length=l.length from List.length_map _];omega
    have d3:decide ((k:Int) < (m:Int))=true:=decide_eq_true (by omega);have hvl:l[k].toNat < s.possible.length:=by omega
    have hvb:l[k] < ((ints s.possible).length:Int):=by omega
    have hatv:(ints s.possible)[l[k].toNat]?=some (eI (s.possible.getD l[k].toNat 0)):=by rw [fT hvl];exact bp hvl
    have hdl:iJ s.possible (l.take (k+1))=iJ s.possible (l.take k)++[s.possible.getD l[k].toNat 0]:=by unfold iJ;rw [List.take_add_one,List.getElem?_eq_getElem hkl,List.map_append];rfl
    have hgl:(bG (iJ s.possible (l.take k))).length=k:=by unfold bG iJ;rw [List.length_map,List.length_map,List.length_take];omega
    have hv0:=hv.1
    generalize s.possible.getD l[k].toNat 0=d at *
    generalize l[k]=v at *
    generalize iJ s.possible (l.take k)=D0 at *
    refine qq2 ?_;repeat' first|refine u1 ?_|refine u2 ?_|fail
    refine qq2 ?_;repeat' first|((with_reducible show RM.wpOp _ _ (.call _) _ _ _);refine RM.l5 (cs:=bG D0) (n:=k) (els:=[eI d]) rfl rfl rfl rfl rfl (fun el hel=>by rw [List.mem_singleton.1 hel];rfl) rfl rfl (by rw [hgl];exact (Nat.mul_one _).symm) hcap (by simp only [List.length_singleton];omega) (fun v' c' hc'=>?_))|refine u1 ?_|((with_reducible refine qq4 ?_);refine ⟨eL l,⟨by omega,hat⟩,rfl,?_⟩)|((with_reducible refine qq4 ?_);refine ⟨eI v,⟨by omega,hatk⟩,rfl,?_⟩)|((with_reducible refine qq4 ?_);refine ⟨eI d,⟨by omega,hatv⟩,rfl,?_⟩)|refine u2 ?_|fail
    refine qq1 ?_;repeat' first|refine u1 ?_|refine u2 ?_|fail
    exact ⟨(k+1,v',c'),⟨hkm,hc'⟩,(by dsimp only;omega),ah.to 1 (by dsimp only;rw [hdl];unfold bG;rw [List.map_append];rfl) ⟨rfl,rfl,rfl,rfl,rfl,rfl,bq (by simp),trivial⟩ (qq5 _) rfl (dK _ _)⟩
   ·obtain rfl:m=k:=by omega
    have d3:decide ((m:Int) < (m:Int))=false:=decide_eq_false (by omega);have hgl:(iJ s.possible l).length=m:=by unfold iJ;rw [List.length_map];omega
    have hDp:(iJ s.possible l).Pairwise (· < ·):=by unfold iJ;rw [List.pairwise_map];refine List.Pairwise.imp_of_mem ?_ hlp;intro a b ha hb hab;have h1:=hlb a ha;have h2:=hlb b hb;rw [fT (by omega),fT (by omega)];exact p2 _ _ (by omega) (by omega) (by omega)
    have hDr:∀ x ∈ iJ s.possible l,0≤x∧x < s.days:=fun x hx=>by obtain ⟨a,ha,rfl⟩:=List.mem_map.1 hx;have h1:=hlb a ha;rw [fT (by omega)];exact p1 _ (by omega)
    have old:=Mq one hg (days:=iJ s.possible l) (by omega) hDp hDr m [] (by simp [hgl]) (ue hg) (by simp);rw [show bl s ((iJ s.possible l).drop ([]:List Order).length) []=lT s s.possible l from rfl] at old;have hldp:∀ q,lT s s.possible l=some q→Mo s (iJ s.possible l) []=q:=fun q hq=>by unfold Mo;rw [show bl s ((iJ s.possible l).drop ([]:List Order).length) []=lT s s.possible l from rfl,hq]
    rw [show l.take m=l from List.take_of_length_le (by omega)];refine qq1 ?_;repeat' first|refine u1 ?_|refine u2 ?_|fail
    generalize iJ s.possible l=D at *
    have hrow:=eu D;rw [hgl] at hrow;refine av.aJ (ah.trans (ah.giveUp 0 (l:=[(1,.pt (ay s) 0),(4,.sl ((iu s).map eL) false),(5,aC (m:Nat)),(6,.sl (L.map eL) false),(7,aC (i:Nat)),(8,.sl (ints D) false)]) (hp:=[.gone]) rfl (qq5 _) (fu _) ⟨.same rfl,.same rfl,.same rfl,.same rfl,.same rfl,.row 1 hrow.1 hrow.2.1 hrow.2.2.1 hrow.2.2.2 (fun h=>Bool.noConfusion h),trivial⟩ rfl rfl) (ah.to (l:=[(1,.pt (ay s) 0),(4,.sl ((iu s).map eL) false),(5,aC (m:Nat)),(6,.sl (L.map eL) false),(7,aC (i:Nat)),(8,.sl (ints D) false)]) (hp:=[]) 0 rfl ⟨rfl,rfl,rfl,rfl,rfl,rfl,trivial⟩ (qq5 _) rfl rfl)) ?_;refine qq2 ?_;repeat' first|(refine az.soft (cm.cons (aW.refl _) (cm.cons (aW.refl _) (cm.cons (aW.nil false) (cm.tO (aW.refl _))))) (aj.call old rfl rfl ?_))|refine u1 ?_|refine u2 ?_|fail
    cases hL:lT s s.possible l with
    | some q =>
     rw [hldp q hL,hfind q (hfnd q hL)];refine qq1 ?_;repeat' first|refine u1 ?_|refine u2 ?_|fail
     exact ⟨[_,_],⟨Fz.deep rfl,Fz.deep rfl,trivial⟩,rfl⟩
    | none =>
     refine qq1 ?_;repeat' first|refine u1 ?_|refine u2 ?_|fail
     refine qq1 ?_;repeat' first|refine u1 ?_|refine u2 ?_|fail
     exact ⟨i+1,⟨hli,hnxt hL⟩,(by dsimp only;omega),ah.to 0 rfl ⟨rfl,rfl,rfl,rfl,bq (by simp),trivial⟩ (qq5 _) rfl rfl⟩
  ·obtain rfl:i=L.length:=by omega
   have d2:decide ((L.length:Int) < ((L.map eL).length:Int))=false:=decide_eq_false (by omega);have hno:L.findSome? (lT s s.possible)=none:=by rw [List.findSome?_eq_none_iff];intro l hl;obtain ⟨j,hj,rfl⟩:=List.mem_iff_getElem.1 hl;exact hpr j hj hj
   refine qq1 ?_;repeat' first|refine u1 ?_|refine u2 ?_|fail
   refine qq1 ?_;repeat' first|refine u1 ?_|refine u2 ?_|fail
   exact ⟨m+1,⟨by omega,hnext hno⟩,(by dsimp only;omega),ah.to 0 rfl ⟨rfl,rfl,bq (by omega),trivial⟩ (qq5 _) rfl rfl⟩
 ·obtain rfl:m=s.possible.length+1:=by omega
  have d1:decide (((s.possible.length+1:Nat):Int)≤((ints s.possible).length:Int))=false:=decide_eq_false (by omega);have hno:gO s s.possible=none:=by rw [hdoc,List.findSome?_eq_none_iff];intro m hm;exact hprev m (List.mem_range.1 hm)
  rw [hno];refine qq1 ?_;repeat' first|refine u1 ?_|refine u2 ?_|fail
  refine qq1 ?_;repeat' first|refine u1 ?_|refine u2 ?_|fail
  exact ⟨[_,_],⟨Fz.nil,Fz.deep rfl,trivial⟩,rfl⟩
theorem Uo {T:bJ} {own:Bool} {fr:Nat→AV} {hp:List AB} {K:AV→List AB→Prop} {t:TypeId} {x hi:Operand} {inf:rB} {els els':List (List AV)} {h:Nat} (hx:aN fr x=.sl els false) (hh:aN fr hi=.fl (.int .i64 (h:Int))) (hi':elem? T t=some inf) (hb:h≤els.length) (h1:1≤inf.size)
  (hel:∀ el ∈ els,el.length=inf.size) (he:els.take h=els') (k:K (.sl els' false) hp):RM.wpOp T own (Op.slice t x none (some hi) none) fr hp K:=by
 subst he;show RM.jT T t (aN fr x) none (some (aN fr hi)) hp K;rw [hx,hh];unfold RM.jT;simp only [hi'];exact ⟨0,h,rfl,rfl,⟨qq5 _,hb⟩,h1,hel,k⟩
theorem Up {T:bJ} {own:Bool} {fr:Nat→AV} {hp:List AB} {K:AV→List AB→Prop} {t:TypeId} {x lo:Operand} {inf:rB} {els els':List (List AV)} {l:Nat} (hx:aN fr x=.sl els false) (hh:aN fr lo=.fl (.int .i64 (l:Int))) (hi':elem? T t=some inf) (hb:l≤els.length) (h1:1≤inf.size)
  (hel:∀ el ∈ els,el.length=inf.size) (he:els.drop l=els') (k:K (.sl els' false) hp):RM.wpOp T own (Op.slice t x (some lo) none none) fr hp K:=by
 subst he;show RM.jT T t (aN fr x) (some (aN fr lo)) none hp K;rw [hx,hh];unfold RM.jT;simp only [hi'];refine ⟨l,els.length,rfl,rfl,⟨hb,qq6 _⟩,h1,hel,?_⟩;rw [List.take_of_length_le (by rw [List.length_drop];exact qq6 _)];exact k
theorem kn:∀ l:List Int,(ints l).flatten=bG l
 | []=>rfl
 | _ :: l=>congrArg _ (kn l)
theorem Ib (one:Bool) {s:ai} {i:Nat} (hi:i < s.possible.length) (hm:s.possible.length≤6):Pu one 48 [.ag (ay s),aC (i:Nat)] (.ag (ay {s with possible:=s.possible.eraseIdx i})):=by
 have eP:((ints s.possible).length:Int)=s.possible.length:=by simp
 refine aj.body (fn:=Tryz.f48) rfl rfl rfl rfl ?_;refine RM.bx (mu:=fun t=>Nat.beq t 2 || Nat.beq t 4) ?_;repeat' first|refine RM.TN rfl rfl rfl ?_|refine u1 ?_|refine u2 ?_|fail
 have e1:(ints s.possible).take i=ints (s.possible.take i):=List.map_take.symm;have e2:(ints s.possible).drop (i+1)=ints (s.possible.drop (i+1)):=List.map_drop.symm;have l1:(ints (s.possible.take i)).length=i:=by rw [←e1,List.length_take];omega
 have l2:(ints (s.possible.drop (i+1))).length≤6:=by rw [←e2,List.length_drop];omega
 refine RM.bx (mu:=fun t=>Nat.beq t 5) ?_;repeat' first|((with_reducible show RM.wpOp _ _ (.call _) _ _ _);refine RM.l5 (cs:=[]) (n:=0) (c:=0) (els:=ints (s.possible.take i)) rfl rfl rfl rfl rfl (kW _) (ki _).1 rfl rfl (.inl rfl) (by exact ⟨by show (0+(ints (s.possible.take i)).length) * 8≤_;omega,by omega⟩) (fun v1 c1 hc1=>?_))|((with_reducible show RM.wpOp _ _ (.call _) _ _ _);refine RM.l5 (cs:=[]++(ints (s.possible.take i)).flatten) (n:=0+(ints (s.possible.take i)).length) (els:=ints (s.possible.drop (i+1))) rfl rfl rfl rfl rfl (kW _) (ki _).1 rfl (by rw [List.nil_append,kn,Nat.zero_add,Nat.mul_one];unfold bG;rw [List.length_map,List.length_map]) hc1 (by exact ⟨by show (0+(ints (s.possible.take i)).length+(ints (s.possible.drop (i+1))).length) * 8≤_;omega,by omega⟩) (fun v2 c2 hc2=>?_))|(refine Uo rfl rfl rfl (by omega) (by decide) (kW _) e1 ?_)|(refine Up (l:=i+1) rfl (bq (by omega)) rfl (by omega) (by decide) (kW _) e2 ?_)|refine u1 ?_|refine u2 ?_|fail
 have e3:bG (s.possible.eraseIdx i)=[]++(ints (s.possible.take i)).flatten++(ints (s.possible.drop (i+1))).flatten:=by rw [kn,kn,List.eraseIdx_eq_take_drop_succ];exact List.map_append
 have e4:0+(ints (s.possible.take i)).length+(ints (s.possible.drop (i+1))).length=(s.possible.eraseIdx i).length:=by rw [List.eraseIdx_eq_take_drop_succ,List.length_append,List.length_map,List.length_map];omega
 have hin:([.cells [aC s.days,.sl (s.needs.map aQ) false,aC s.load,aC s.fail,aC s.row,.bg 2 v2 0 (s.possible.eraseIdx i).length c2] 0 0,.cells [aC 0,.fl (.slice none 0 0),aC 0,aC 0,aC 0,.fl (.slice none 0 0)] 0 0,.cells (bG (s.possible.eraseIdx i)) 1 v2]:List AB).all (AB.gF 3)=true:=by have h:AB.gF 3 (.cells (bG (s.possible.eraseIdx i)) 1 v2)=true:=gM 3 (fun _=>rfl) _;rw [List.all_cons,List.all_cons,List.all_cons,h];rfl
 refine av.aJ (ah.to (l:=[(2,.ptr 0 0 0),(4,.ptr 1 0 0)]) (hp:=[.cells [aC s.days,.sl (s.needs.map aQ) false,aC s.load,aC s.fail,aC s.row,.bg 2 v2 0 (s.possible.eraseIdx i).length c2] 0 0,.cells [aC 0,.fl (.slice none 0 0),aC 0,aC 0,aC 0,.fl (.slice none 0 0)] 0 0,.cells (bG (s.possible.eraseIdx i)) 1 v2]) 3 (by rw [e3,←e4];rfl) ⟨rfl,rfl,trivial⟩ (qq5 _) rfl hin) ?_;refine qq1 ?_;repeat' first|refine u1 ?_|refine u2 ?_|fail
 refine ⟨[_],⟨Fz.ag (b:=ay {s with possible:=s.possible.eraseIdx i}) rfl fun j x y hx hy=>?_,trivial⟩,rfl⟩;have hrow:=eu (s.possible.eraseIdx i)
 match j,hx,hy with
 | 0,hx,hy=>cases hx;cases hy;exact Fz.deep rfl
 | 1,hx,hy=>cases hx;cases hy;exact Fz.deep rfl
 | 2,hx,hy=>cases hx;cases hy;exact Fz.deep rfl
 | 3,hx,hy=>cases hx;cases hy;exact Fz.deep rfl
 | 4,hx,hy=>cases hx;cases hy;exact Fz.deep rfl
 | 5,hx,hy =>cases hx;cases hy;exact Fz.row (es:=1) rfl hrow.1 hrow.2.1 hrow.2.2.1 hrow.2.2.2 (by rw [kn];exact fu _) (fun h=>Bool.noConfusion h)
 | n+6,hx,hy=>cases hx
theorem Rf {l:List Int} {many below:Int} (h1:∀ x ∈ l,0≤x∧x < many) (h2:l.Pairwise (· < ·)) (i:Nat) (hi:i < l.length):gp l many below i=0:=by
 have g:=h1 _ (List.getElem_mem hi);unfold gp;rw [fT hi,xy (by omega),if_neg (by simp),if_neg];unfold qF;by_cases h0:i=0
 ·rw [if_pos h0];omega
 ·rw [if_neg h0,fT (show i - 1 < l.length by omega)];have:=List.pairwise_iff_getElem.1 h2 (i - 1) i (by omega) hi (by omega);omega
theorem BI {s:ai} (hg:Good s) (i:Nat):Good {s with possible:=s.possible.eraseIdx i}:=by
 obtain ⟨p1,p2⟩:=sP hg;have hdp:s.possible.Pairwise (· < ·):=List.pairwise_iff_getElem.2 fun i j hi hj hij=>p2 i j hi hj hij;have hdr:∀ x ∈ s.possible,0≤x∧x < s.days:=fun x hx=>by obtain ⟨i,hi,rfl⟩:=List.mem_iff_getElem.1 hx;exact p1 i hi
 have hsub:List.Sublist (s.possible.eraseIdx i) s.possible:=List.eraseIdx_sublist _ _;exact ⟨hg.days,hg.load,hg.fail,hg.row,hg.len,hg.needs,Nat.le_trans hsub.length_le hg.many,fun j hj=>Rf (fun x hx=>hdr x (hsub.subset hx)) (hdp.sublist hsub) j hj⟩
theorem xL (s:ai) (q:List Int):∀ (ds:List Int) (b:List Order),bl {s with possible:=q} ds b=bl s ds b
 | [],b=>rfl
 | d :: ds,b=>by rw [bl,bl];refine find_congr fun f _=>?_;exact xL s q ds _
theorem xM (s:ai) (q days:List Int):∀ (m fr:Nat) (ds:List Int),cS {s with possible:=q} days m fr ds=cS s days m fr ds
 | 0,_,ds=>xL s q ds []
 | m+1,fr,ds=>by
  rw [cS,cS];refine find_congr fun i _=>?_;split
  ·rfl
  ·split
   ·exact xM s q days m _ _
   ·rfl
theorem Ic (s:ai) (q days:List Int):gO {s with possible:=q} days=gO s days:=by
 unfold gO;have h:cu {s with possible:=q} [] 0 0 0=cu s [] 0 0 0:=rfl;rw [h];by_cases c:cu s [] 0 0 0=true
 ·rw [if_pos c,if_pos c]
 ·rw [if_neg c,if_neg c];refine find_congr fun m _=>?_;exact xM s q days _ _ _
