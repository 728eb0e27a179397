/-
  Contracts of the program's functions and of the document's. Lemmas alone; their conditions stand in them.
-/
import Derived.Test.YtlpmfgmldmdggaaGreatK1
open Go Go.RM
namespace Go.Proofs.YtlpmfgmldmdggaaGreat
set_option maxRecDepth 100000
set_option maxHeartbeats 4000000
theorem GP (one:Bool) (lo hi:Int) (l:List Int) (h:l.length≤maxLen):Pu one 51 [af lo,af hi,.sl (l.map eI) true] (BB (fk lo hi l)):=by have:=EZ one lo hi (l.map eI) true (by rw [List.all_map,List.all_eq_true];intro x _;rfl) (by simpa using h);rw [show (l.map eI).map KQ=l by rw [List.map_map];exact List.map_id _] at this;exact this
theorem jO (one:Bool) (lo hi a:Int):Pu one 51 [af lo,af hi,.sl [eI a] true] (BB (fk lo hi [a])):=GP one lo hi [a] (by simp [maxLen])
theorem I5 (one:Bool) (lo hi a b c:Int):Pu one 51 [af lo,af hi,.sl [eI a,eI b,eI c] true] (BB (fk lo hi [a,b,c])):=GP one lo hi [a,b,c] (by simp [maxLen])
theorem jk {lo hi a:Int} (h:fk lo hi [a]=false):lo≤a∧a≤hi:=by
 rw [cO] at h
 have h2:jy a lo hi=true:=by cases e:jy a lo hi with|true=>rfl|false=>rw [e] at h;cases h
 exact fQ.1 h2
def cQ {α:Type} (nm:α→ByteArray) (err:α→Int) (l:List α) (i:Nat):Int:=match l[i]? with
 | some x=>if gO (nm x)=false then 6 else if ((l.take i).any fun y=>tY (nm y) (nm x))=true then 5 else err x
 | none=>0
def dB (r:fc):Int:=if (fk 0 1000 [r.Fy] || fk 0 1000 [r.leave,r.FA,r.rJ])=true then 7 else 0
def ee (n:Int) (m:ji):Int:=if fk 0 (n - 1) [m.jx]=true then 4 else if fk (-100000) 100000 [m.nu]=true then 7 else 0
theorem BI (one:Bool) (r:fc):Pu one 53 [.ag (aT r)] (ST r.name):=by
 refine ak.body (fn:=Tryz.f53) rfl rfl rfl rfl ?_;refine qq1 ?_;repeat' first|refine u1 ?_|refine u2 ?_|fail
 exact ⟨[_],⟨Fz.deep rfl,trivial⟩,rfl⟩
theorem BJ (one:Bool) (m:ji):Pu one 56 [.ag (aZ m)] (ST m.name):=by
 refine ak.body (fn:=Tryz.f56) rfl rfl rfl rfl ?_;refine qq1 ?_;repeat' first|refine u1 ?_|refine u2 ?_|fail
 exact ⟨[_],⟨Fz.deep rfl,trivial⟩,rfl⟩
theorem I6 (one:Bool) (r:fc):Pu one 54 [.ag (aT r)] (af (dB r)):=by
 have o1:=jO one 0 1000 r.Fy;have o2:=I5 one 0 1000 r.leave r.FA r.rJ;unfold dB;cases e1:fk 0 1000 [r.Fy] <;> cases e2:fk 0 1000 [r.leave,r.FA,r.rJ] <;> rw [e1] at o1 <;> rw [e2] at o2
 all_goals refine ak.body (fn:=Tryz.f54) rfl rfl rfl rfl ?_
 all_goals refine qq1 ?_
 all_goals
  repeat' first|refine u1 ?_|((with_reducible refine qq3 ?_);refine ak.call o1 rfl rfl ?_)|((with_reducible refine qq3 ?_);refine ak.call o2 rfl rfl ?_)|refine u2 ?_|fail
 all_goals exact ⟨[_],⟨Fz.deep rfl,trivial⟩,rfl⟩
theorem I7 (one:Bool) (c:aL) (hc:c.aC.length≤maxLen) (m:ji):ak TT TB one (.fn 57 [] [.pt (aI c) 0]) [.ag (aZ m)] (af (ee c.aC.length m)):=by
 have eg:((c.aC.map aT).length:Int)=c.aC.length:=by simp
 have ml:c.aC.length≤9223372036854775807:=Nat.le_trans hc (by simp [maxLen]);have o1:=jO one 0 (((c.aC.map aT).length:Int) - 1) m.jx;rw [eg] at o1;have o2:=jO one (-100000) 100000 m.nu;unfold ee;cases e1:fk 0 ((c.aC.length:Int) - 1) [m.jx] <;> cases e2:fk (-100000) 100000 [m.nu] <;> rw [e1,←eg] at o1 <;> rw [e2] at o2
 all_goals refine ak.body (fn:=Tryz.f57) rfl rfl rfl rfl ?_
 all_goals refine qq1 ?_
 all_goals
  repeat' first|refine u1 ?_|((with_reducible refine qq3 ?_);refine ak.call o1 rfl rfl ?_)|((with_reducible refine qq3 ?_);refine ak.call o2 rfl rfl ?_)|refine u2 ?_|fail
 all_goals exact ⟨[_],⟨Fz.deep rfl,trivial⟩,rfl⟩
theorem GQ (one:Bool) (s:ByteArray) (r:fc):ak TT TB one (.fn 99 [] [.pt [.fn 53 [] []] 0,.pt [ST s] 0]) [.ag (aT r)] (BB (tY r.name s)):=by
 have h1:=BI true r;refine ak.body (fn:=Tryz.f99) rfl rfl rfl rfl ?_;refine qq1 ?_;repeat' first|refine u1 ?_|(refine ⟨_,_,.inl ⟨rfl,rfl⟩,h1,?_⟩)|refine u2 ?_|fail
 exact ⟨[_],⟨Fz.deep rfl,trivial⟩,rfl⟩
theorem E8 (one:Bool) (s:ByteArray) (r:ji):ak TT TB one (.fn 101 [] [.pt [.fn 56 [] []] 0,.pt [ST s] 0]) [.ag (aZ r)] (BB (tY r.name s)):=by
 have h1:=BJ true r;refine ak.body (fn:=Tryz.f101) rfl rfl rfl rfl ?_;refine qq1 ?_;repeat' first|refine u1 ?_|(refine ⟨_,_,.inl ⟨rfl,rfl⟩,h1,?_⟩)|refine u2 ?_|fail
 exact ⟨[_],⟨Fz.deep rfl,trivial⟩,rfl⟩
end Go.Proofs.YtlpmfgmldmdggaaGreat
open Go Go.RM
namespace Go.Proofs.YtlpmfgmldmdggaaGreat
set_option maxRecDepth 100000
set_option maxHeartbeats 4000000
theorem E9 (one:Bool) (l:List fc) (hl:l.length≤maxLen) (hn:∀ x ∈ l,x.name.data.toList.length≤maxLen):Pu one 52 [.sl (l.map aT) false,.fn 53 [] [],.fn 54 [] []] (.tp [af (cm l.length (cQ fc.name dB l)).1,af (cm l.length (cQ fc.name dB l)).2]):=by
 have ml:l.length≤9223372036854775807:=Nat.le_trans hl (by simp [maxLen]);have eg:((l.map aT).length:Int)=l.length:=by simp
 obtain ⟨n,hnn⟩:∃ n:Int,n=l.length:=⟨_,rfl⟩;refine ak.body (fn:=Tryz.f52) rfl rfl rfl rfl ?_;refine qq1 ?_;repeat' first|refine u1 ?_|refine u2 ?_|fail
 refine aB.aO (ah.to (l:=[(0,.sl (l.map aT) false),(2,.fn 54 [] []),(4,.pt [.fn 53 [] []] 0),(12,.sl (l.map aT) false),(13,af n),(14,af (0:Nat))]) (hp:=[]) 0 rfl ⟨rfl,rfl,rfl,rfl,aE (by rw [hnn];exact eg),rfl,trivial⟩ (qq5 _) rfl rfl) ?_;refine aB.loop (fun k:Nat=>k≤l.length∧∀ i,i < k→cQ fc.name dB l i=0) (fun k=>⟨aM [(0,.sl (l.map aT) false),(2,.fn 54 [] []),(4,.pt [.fn 53 [] []] 0),(12,.sl (l.map aT) false),(13,af n),(14,af (k:Nat))],[],bq.none,false,0⟩) (fun k=>l.length - k) ?_ 0 ⟨qq5 _,fun i hi=>absurd hi (Nat.not_lt_zero _)⟩;rintro k ⟨hk,hprev⟩;refine qq1 ?_;by_cases hlt:k < l.length
 ·have d1:decide ((k:Int) < n)=true:=decide_eq_true (by omega);have hat:(l.map aT)[((k:Nat):Int).toNat]?=some (aT l[k]):=dN hlt;have hga:cQ fc.name dB l k=if gO l[k].name=false then 6 else if ((l.take k).any fun y=>tY y.name l[k].name)=true then 5 else dB l[k]:=by unfold cQ;rw [List.getElem?_eq_getElem hlt]
  have h1:=BI one l[k];have h2:=GN one l[k].name (hn _ (List.getElem_mem hlt));have h4:=I6 one l[k];have h3:∀ f,Pu one 98 [.sl ((l.take k).map aT) f,.fn 99 [] [.pt [.fn 53 [] []] 0,.pt [ST l[k].name] 0]] (BB ((l.take k).any fun y=>tY y.name l[k].name)):=fun f=>sW one 99 [] _ rfl (fun y=>tY y.name l[k].name) (l.take k) f (by rw [List.length_take];omega) (fun x _=>GQ one l[k].name x);have hsl:((l.map aT).drop 0).take (k - 0)=(l.take k).map aT:=by rw [List.drop_zero,Nat.sub_zero,List.map_take]
  rw [←hsl] at h3;have hkl:0≤k∧k≤(l.map aT).length:=⟨qq5 _,by rw [List.length_map];omega⟩;have hel:∀ el ∈ l.map aT,el.length=5:=fun el hel=>by obtain ⟨x,_,rfl⟩:=List.mem_map.1 hel;rfl
  have fin:∀ v,cQ fc.name dB l k=v→v ≠ 0→cm l.length (cQ fc.name dB l)=((k:Int),v):=fun v e hv=>by rw [k8 hlt hprev (by rw [e];exact hv),e]
  generalize l[k]=g at *
  cases q1:gO g.name with
  | false =>
   rw [q1] at h2;rw [fin 6 (by rw [hga,if_pos q1]) (by decide)];repeat' first|((with_reducible refine qq3 ?_);refine ak.call h1 rfl rfl ?_)|((with_reducible refine qq3 ?_);refine ak.call h2 rfl rfl ?_)|((with_reducible refine qq3 ?_);refine ak.call h4 rfl rfl ?_)|refine u1 ?_|((with_reducible refine qq4 ?_);refine ⟨aT g,⟨by omega,hat⟩,rfl,?_⟩)|(refine ⟨0,k,rfl,rfl,hkl,(by decide),hel,?_⟩)|((with_reducible refine qq3 ?_);refine ak.tX (h3 _) (Fq.deep rfl) (eN.cons (Fq.deep rfl) (eN.cons (eN.Ke eN.nil (eN.cons (Fq.deep rfl) (eN.cons (Fq.ptr rfl rfl) eN.nil))) eN.nil)) (mV.fl _) ?_)|refine u2 ?_|fail
   exact ⟨[_,_],⟨Fz.deep rfl,Fz.deep rfl,trivial⟩,rfl⟩
  | true =>
   rw [q1] at h2;have q1':¬ gO g.name=false:=by rw [q1];simp
   cases q2:(l.take k).any fun y=>tY y.name g.name with
   | true =>
    simp only [q2] at h3;rw [fin 5 (by rw [hga,if_neg q1',if_pos q2]) (by decide)];repeat' first|((with_reducible refine qq3 ?_);refine ak.call h1 rfl rfl ?_)|((with_reducible refine qq3 ?_);refine ak.call h2 rfl rfl ?_)|((with_reducible refine qq3 ?_);refine ak.call h4 rfl rfl ?_)|refine u1 ?_|((with_reducible refine qq4 ?_);refine ⟨aT g,⟨by omega,hat⟩,rfl,?_⟩)|(refine ⟨0,k,rfl,rfl,hkl,(by decide),hel,?_⟩)|((with_reducible refine qq3 ?_);refine ak.tX (h3 _) (Fq.deep rfl) (eN.cons (Fq.deep rfl) (eN.cons (eN.Ke eN.nil (eN.cons (Fq.deep rfl) (eN.cons (Fq.ptr rfl rfl) eN.nil))) eN.nil)) (mV.fl _) ?_)|refine u2 ?_|fail
    exact ⟨[_,_],⟨Fz.deep rfl,Fz.deep rfl,trivial⟩,rfl⟩
   | false =>
    simp only [q2] at h3;have q2':¬ ((l.take k).any fun y=>tY y.name g.name)=true:=by rw [q2];simp
    have hv:cQ fc.name dB l k=dB g:=by rw [hga,if_neg q1',if_neg q2']
    generalize dB g=v at *
    cases q3:decide (v=0) with
    | false =>
     have d3:(!decide (v=0))=true:=by rw [q3];rfl
     rw [fin v hv (of_decide_eq_false q3)];repeat' first|((with_reducible refine qq3 ?_);refine ak.call h1 rfl rfl ?_)|((with_reducible refine qq3 ?_);refine ak.call h2 rfl rfl ?_)|((with_reducible refine qq3 ?_);refine ak.call h4 rfl rfl ?_)|refine u1 ?_|((with_reducible refine qq4 ?_);refine ⟨aT g,⟨by omega,hat⟩,rfl,?_⟩)|(refine ⟨0,k,rfl,rfl,hkl,(by decide),hel,?_⟩)|((with_reducible refine qq3 ?_);refine ak.tX (h3 _) (Fq.deep rfl) (eN.cons (Fq.deep rfl) (eN.cons (eN.Ke eN.nil (eN.cons (Fq.deep rfl) (eN.cons (Fq.ptr rfl rfl) eN.nil))) eN.nil)) (mV.fl _) ?_)|refine u2 ?_|fail
     exact ⟨[_,_],⟨Fz.deep rfl,Fz.deep rfl,trivial⟩,rfl⟩
    | true =>
     have d3:(!decide (v=0))=false:=by rw [q3];rfl
     have e0:cQ fc.name dB l k=0:=hv.trans (of_decide_eq_true q3);repeat' first|((with_reducible refine qq3 ?_);refine ak.call h1 rfl rfl ?_)|((with_reducible refine qq3 ?_);refine ak.call h2 rfl rfl ?_)|((with_reducible refine qq3 ?_);refine ak.call h4 rfl rfl ?_)|refine u1 ?_|((with_reducible refine qq4 ?_);refine ⟨aT g,⟨by omega,hat⟩,rfl,?_⟩)|(refine ⟨0,k,rfl,rfl,hkl,(by decide),hel,?_⟩)|((with_reducible refine qq3 ?_);refine ak.tX (h3 _) (Fq.deep rfl) (eN.cons (Fq.deep rfl) (eN.cons (eN.Ke eN.nil (eN.cons (Fq.deep rfl) (eN.cons (Fq.ptr rfl rfl) eN.nil))) eN.nil)) (mV.fl _) ?_)|refine u2 ?_|fail
     refine ⟨k+1,⟨hlt,fun i hi=>?_⟩,(by dsimp only;omega),ah.to 0 rfl ⟨rfl,rfl,rfl,rfl,rfl,aE (by simp),trivial⟩ (qq5 _) rfl rfl⟩;by_cases hik:i=k
     ·subst hik;exact e0
     ·exact hprev i (by omega)
 ·have d1:decide ((k:Int) < n)=false:=decide_eq_false (by omega);rw [k9 (fun i hi=>hprev i (by omega))];repeat' first|refine u1 ?_|refine u2 ?_|fail
  exact ⟨[_,_],⟨Fz.deep rfl,Fz.deep rfl,trivial⟩,rfl⟩
theorem Fa (one:Bool) (c:aL) (hc:c.aC.length≤maxLen) (l:List ji) (hl:l.length≤maxLen) (hn:∀ x ∈ l,x.name.data.toList.length≤maxLen):Pu one 55 [.sl (l.map aZ) false,.fn 56 [] [],.fn 57 [] [.pt (aI c) 0]] (.tp [af (cm l.length (cQ ji.name (ee c.aC.length) l)).1,af (cm l.length (cQ ji.name (ee c.aC.length) l)).2]):=by
 have ml:l.length≤9223372036854775807:=Nat.le_trans hl (by simp [maxLen]);have eg:((l.map aZ).length:Int)=l.length:=by simp
 obtain ⟨n,hnn⟩:∃ n:Int,n=l.length:=⟨_,rfl⟩;refine ak.body (fn:=Tryz.f55) rfl rfl rfl rfl ?_;refine qq1 ?_;repeat' first|refine u1 ?_|refine u2 ?_|fail
 refine aB.aO (ah.to (l:=[(0,.sl (l.map aZ) false),(2,.fn 57 [] [.pt (aI c) 0]),(4,.pt [.fn 56 [] []] 0),(12,.sl (l.map aZ) false),(13,af n),(14,af (0:Nat))]) (hp:=[]) 0 rfl ⟨rfl,rfl,rfl,rfl,aE (by rw [hnn];exact eg),rfl,trivial⟩ (qq5 _) rfl rfl) ?_;refine aB.loop (fun k:Nat=>k≤l.length∧∀ i,i < k→cQ ji.name (ee c.aC.length) l i=0) (fun k=>⟨aM [(0,.sl (l.map aZ) false),(2,.fn 57 [] [.pt (aI c) 0]),(4,.pt [.fn 56 [] []] 0),(12,.sl (l.map aZ) false),(13,af n),(14,af (k:Nat))],[],bq.none,false,0⟩) (fun k=>l.length - k) ?_ 0 ⟨qq5 _,fun i hi=>absurd hi (Nat.not_lt_zero _)⟩;rintro k ⟨hk,hprev⟩;refine qq1 ?_;by_cases hlt:k < l.length
 ·have d1:decide ((k:Int) < n)=true:=decide_eq_true (by omega);have hat:(l.map aZ)[((k:Nat):Int).toNat]?=some (aZ l[k]):=dN hlt;have hga:cQ ji.name (ee c.aC.length) l k=if gO l[k].name=false then 6 else if ((l.take k).any fun y=>tY y.name l[k].name)=true then 5 else (ee c.aC.length) l[k]:=by unfold cQ;rw [List.getElem?_eq_getElem hlt]
  have h1:=BJ one l[k];have h2:=GN one l[k].name (hn _ (List.getElem_mem hlt));have h4:=I7 one c hc l[k];have h3:∀ f,Pu one 100 [.sl ((l.take k).map aZ) f,.fn 101 [] [.pt [.fn 56 [] []] 0,.pt [ST l[k].name] 0]] (BB ((l.take k).any fun y=>tY y.name l[k].name)):=fun f=>rK one 101 [] _ rfl (fun y=>tY y.name l[k].name) (l.take k) f (by rw [List.length_take];omega) (fun x _=>E8 one l[k].name x);have hsl:((l.map aZ).drop 0).take (k - 0)=(l.take k).map aZ:=by rw [List.drop_zero,Nat.sub_zero,List.map_take]
  rw [←hsl] at h3;have hkl:0≤k∧k≤(l.map aZ).length:=⟨qq5 _,by rw [List.length_map];omega⟩;have hel:∀ el ∈ l.map aZ,el.length=4:=fun el hel=>by obtain ⟨x,_,rfl⟩:=List.mem_map.1 hel;rfl
  have fin:∀ v,cQ ji.name (ee c.aC.length) l k=v→v ≠ 0→cm l.length (cQ ji.name (ee c.aC.length) l)=((k:Int),v):=fun v e hv=>by rw [k8 hlt hprev (by rw [e];exact hv),e]
  generalize l[k]=g at *
  cases q1:gO g.name with
  | false =>
   rw [q1] at h2;rw [fin 6 (by rw [hga,if_pos q1]) (by decide)];repeat' first|((with_reducible refine qq3 ?_);refine ak.call h1 rfl rfl ?_)|((with_reducible refine qq3 ?_);refine ak.call h2 rfl rfl ?_)|((with_reducible refine qq3 ?_);refine ak.call h4 rfl rfl ?_)|refine u1 ?_|((with_reducible refine qq4 ?_);refine ⟨aZ g,⟨by omega,hat⟩,rfl,?_⟩)|(refine ⟨0,k,rfl,rfl,hkl,(by decide),hel,?_⟩)|((with_reducible refine qq3 ?_);refine ak.tX (h3 _) (Fq.deep rfl) (eN.cons (Fq.deep rfl) (eN.cons (eN.Ke eN.nil (eN.cons (Fq.deep rfl) (eN.cons (Fq.ptr rfl rfl) eN.nil))) eN.nil)) (mV.fl _) ?_)|refine u2 ?_|fail
   exact ⟨[_,_],⟨Fz.deep rfl,Fz.deep rfl,trivial⟩,rfl⟩
  | true =>
   rw [q1] at h2;have q1':¬ gO g.name=false:=by rw [q1];simp
   cases q2:(l.take k).any fun y=>tY y.name g.name with
   | true =>
    simp only [q2] at h3;rw [fin 5 (by rw [hga,if_neg q1',if_pos q2]) (by decide)];repeat' first|((with_reducible refine qq3 ?_);refine ak.call h1 rfl rfl ?_)|((with_reducible refine qq3 ?_);refine ak.call h2 rfl rfl ?_)|((with_reducible refine qq3 ?_);refine ak.call h4 rfl rfl ?_)|refine u1 ?_|((with_reducible refine qq4 ?_);refine ⟨aZ g,⟨by omega,hat⟩,rfl,?_⟩)|(refine ⟨0,k,rfl,rfl,hkl,(by decide),hel,?_⟩)|((with_reducible refine qq3 ?_);refine ak.tX (h3 _) (Fq.deep rfl) (eN.cons (Fq.deep rfl) (eN.cons (eN.Ke eN.nil (eN.cons (Fq.deep rfl) (eN.cons (Fq.ptr rfl rfl) eN.nil))) eN.nil)) (mV.fl _) ?_)|refine u2 ?_|fail
    exact ⟨[_,_],⟨Fz.deep rfl,Fz.deep rfl,trivial⟩,rfl⟩
   | false =>
    simp only [q2] at h3;have q2':¬ ((l.take k).any fun y=>tY y.name g.name)=true:=by rw [q2];simp
    have hv:cQ ji.name (ee c.aC.length) l k=(ee c.aC.length) g:=by rw [hga,if_neg q1',if_neg q2']
    generalize (ee c.aC.length) g=v at *
    cases q3:decide (v=0) with
    | false =>
     have d3:(!decide (v=0))=true:=by rw [q3];rfl
     rw [fin v hv (of_decide_eq_false q3)];repeat' first|((with_reducible refine qq3 ?_);refine ak.call h1 rfl rfl ?_)|((with_reducible refine qq3 ?_);refine ak.call h2 rfl rfl ?_)|((with_reducible refine qq3 ?_);refine ak.call h4 rfl rfl ?_)|refine u1 ?_|((with_reducible refine qq4 ?_);refine ⟨aZ g,⟨by omega,hat⟩,rfl,?_⟩)|(refine ⟨0,k,rfl,rfl,hkl,(by decide),hel,?_⟩)|((with_reducible refine qq3 ?_);refine ak.tX (h3 _) (Fq.deep rfl) (eN.cons (Fq.deep rfl) (eN.cons (eN.Ke eN.nil (eN.cons (Fq.deep rfl) (eN.cons (Fq.ptr rfl rfl) eN.nil))) eN.nil)) (mV.fl _) ?_)|refine u2 ?_|fail
     exact ⟨[_,_],⟨Fz.deep rfl,Fz.deep rfl,trivial⟩,rfl⟩
    | true =>
     have d3:(!decide (v=0))=false:=by rw [q3];rfl
     have e0:cQ ji.name (ee c.aC.length) l k=0:=hv.trans (of_decide_eq_true q3);repeat' first|((with_reducible refine qq3 ?_);refine ak.call h1 rfl rfl ?_)|((with_reducible refine qq3 ?_);refine ak.call h2 rfl rfl ?_)|((with_reducible refine qq3 ?_);refine ak.call h4 rfl rfl ?_)|refine u1 ?_|((with_reducible refine qq4 ?_);refine ⟨aZ g,⟨by omega,hat⟩,rfl,?_⟩)|(refine ⟨0,k,rfl,rfl,hkl,(by decide),hel,?_⟩)|((with_reducible refine qq3 ?_);refine ak.tX (h3 _) (Fq.deep rfl) (eN.cons (Fq.deep rfl) (eN.cons (eN.Ke eN.nil (eN.cons (Fq.deep rfl) (eN.cons (Fq.ptr rfl rfl) eN.nil))) eN.nil)) (mV.fl _) ?_)|refine u2 ?_|fail
     refine ⟨k+1,⟨hlt,fun i hi=>?_⟩,(by dsimp only;omega),ah.to 0 rfl ⟨rfl,rfl,rfl,rfl,rfl,aE (by simp),trivial⟩ (qq5 _) rfl rfl⟩;by_cases hik:i=k
     ·subst hik;exact e0
     ·exact hprev i (by omega)
 ·have d1:decide ((k:Int) < n)=false:=decide_eq_false (by omega);rw [k9 (fun i hi=>hprev i (by omega))];repeat' first|refine u1 ?_|refine u2 ?_|fail
  exact ⟨[_,_],⟨Fz.deep rfl,Fz.deep rfl,trivial⟩,rfl⟩
end Go.Proofs.YtlpmfgmldmdggaaGreat
open Go Go.RM
namespace Go.Proofs.YtlpmfgmldmdggaaGreat
set_option maxRecDepth 100000
set_option maxHeartbeats 4000000
structure aL.Ok (c:aL):Prop where
 aC:c.aC.length≤maxLen
 CW:∀ x ∈ c.aC,x.name.data.toList.length≤maxLen
 aD:c.aD.length≤maxLen
 CX:∀ x ∈ c.aD,x.name.data.toList.length≤maxLen
def FB (c:aL):Nat→Int:=cQ fc.name dB c.aC
def Ag (c:aL):Nat→Int:=cQ ji.name (ee c.aC.length) c.aD
def nr (c:aL):Int × Int × Int :=
 if (fk 1 3 [(c.aC.length:Int)] || fk 1 5 [(c.aD.length:Int)])=true then (1,0,3)
 else if fk 0 5 [c.least]=true then (1,0,7)
 else if (cm c.aC.length (FB c)).2 ≠ 0 then (2,(cm c.aC.length (FB c)).1,(cm c.aC.length (FB c)).2)
 else if (cm c.aD.length (Ag c)).2 ≠ 0 then (3,(cm c.aD.length (Ag c)).1,(cm c.aD.length (Ag c)).2)
 else (0,0,0)
theorem I8 (one:Bool) (c:aL) (h:c.Ok):Pu one 16 [.ag (aI c)] (.tp [af (nr c).1,af (nr c).2.1,af (nr c).2.2]):=by
 have eg:((c.aC.map aT).length:Int)=c.aC.length:=by simp
 have em:((c.aD.map aZ).length:Int)=c.aD.length:=by simp
 have o1:=jO one 1 3 ((c.aC.map aT).length:Int);have o2:=jO one 1 5 ((c.aD.map aZ).length:Int);have o3:=jO one 0 5 c.least;have n1:=E9 one c.aC h.aC h.CW;have n2:=Fa one c h.aC c.aD h.aD h.CX;rw [eg] at o1;rw [em] at o2;unfold nr
 cases e1:fk 1 3 [(c.aC.length:Int)] with
 | true =>
  rw [e1,←eg] at o1;rw [if_pos (by rfl)];refine ak.body (fn:=Tryz.f16) rfl rfl rfl rfl ?_;refine qq1 ?_;repeat' first|refine u1 ?_|((with_reducible refine qq3 ?_);refine ak.call o1 rfl rfl ?_)|((with_reducible refine qq3 ?_);refine ak.call o2 rfl rfl ?_)|((with_reducible refine qq3 ?_);refine ak.call o3 rfl rfl ?_)|((with_reducible refine qq3 ?_);refine ak.call n1 rfl rfl ?_)|((with_reducible refine qq3 ?_);refine ak.call n2 rfl rfl ?_)|refine u2 ?_|fail
  exact ⟨[_,_,_],⟨Fz.deep rfl,Fz.deep rfl,Fz.deep rfl,trivial⟩,rfl⟩
 | false =>
  rw [e1,←eg] at o1
  cases e2:fk 1 5 [(c.aD.length:Int)] with
  | true =>
   rw [e2,←em] at o2;rw [if_pos (by rfl)];refine ak.body (fn:=Tryz.f16) rfl rfl rfl rfl ?_;refine qq1 ?_;repeat' first|refine u1 ?_|((with_reducible refine qq3 ?_);refine ak.call o1 rfl rfl ?_)|((with_reducible refine qq3 ?_);refine ak.call o2 rfl rfl ?_)|((with_reducible refine qq3 ?_);refine ak.call o3 rfl rfl ?_)|((with_reducible refine qq3 ?_);refine ak.call n1 rfl rfl ?_)|((with_reducible refine qq3 ?_);refine ak.call n2 rfl rfl ?_)|refine u2 ?_|fail
   exact ⟨[_,_,_],⟨Fz.deep rfl,Fz.deep rfl,Fz.deep rfl,trivial⟩,rfl⟩
  | false =>
   rw [e2,←em] at o2;rw [if_neg (by simp)]
   cases e3:fk 0 5 [c.least] with
   | true =>
    rw [e3] at o3;rw [if_pos (by rfl)];refine ak.body (fn:=Tryz.f16) rfl rfl rfl rfl ?_;refine qq1 ?_;repeat' first|refine u1 ?_|((with_reducible refine qq3 ?_);refine ak.call o1 rfl rfl ?_)|((with_reducible refine qq3 ?_);refine ak.call o2 rfl rfl ?_)|((with_reducible refine qq3 ?_);refine ak.call o3 rfl rfl ?_)|((with_reducible refine qq3 ?_);refine ak.call n1 rfl rfl ?_)|((with_reducible refine qq3 ?_);refine ak.call n2 rfl rfl ?_)|refine u2 ?_|fail
    exact ⟨[_,_,_],⟨Fz.deep rfl,Fz.deep rfl,Fz.deep rfl,trivial⟩,rfl⟩
   | false =>
    rw [e3] at o3;rw [if_neg (by simp)];unfold FB Ag
    generalize cm c.aC.length (cQ fc.name dB c.aC)=x at *
    generalize cm c.aD.length (cQ ji.name (ee c.aC.length) c.aD)=y at *
    obtain ⟨x1,x2⟩:=x;obtain ⟨y1,y2⟩:=y
    dsimp only at *
    cases e4:decide (x2=0) with
    | false =>
     have d4:(!decide (x2=0))=true:=by rw [e4];rfl
     rw [if_pos (of_decide_eq_false e4)];refine ak.body (fn:=Tryz.f16) rfl rfl rfl rfl ?_;refine qq1 ?_;repeat' first|refine u1 ?_|((with_reducible refine qq3 ?_);refine ak.call o1 rfl rfl ?_)|((with_reducible refine qq3 ?_);refine ak.call o2 rfl rfl ?_)|((with_reducible refine qq3 ?_);refine ak.call o3 rfl rfl ?_)|((with_reducible refine qq3 ?_);refine ak.call n1 rfl rfl ?_)|((with_reducible refine qq3 ?_);refine ak.call n2 rfl rfl ?_)|refine u2 ?_|fail
     exact ⟨[_,_,_],⟨Fz.deep rfl,Fz.deep rfl,Fz.deep rfl,trivial⟩,rfl⟩
    | true =>
     have d4:(!decide (x2=0))=false:=by rw [e4];rfl
     rw [if_neg (fun hh=>hh (of_decide_eq_true e4))]
     cases e5:decide (y2=0) with
     | false =>
      have d5:(!decide (y2=0))=true:=by rw [e5];rfl
      rw [if_pos (of_decide_eq_false e5)];refine ak.body (fn:=Tryz.f16) rfl rfl rfl rfl ?_;refine qq1 ?_;repeat' first|refine u1 ?_|((with_reducible refine qq3 ?_);refine ak.call o1 rfl rfl ?_)|((with_reducible refine qq3 ?_);refine ak.call o2 rfl rfl ?_)|((with_reducible refine qq3 ?_);refine ak.call o3 rfl rfl ?_)|((with_reducible refine qq3 ?_);refine ak.call n1 rfl rfl ?_)|((with_reducible refine qq3 ?_);refine ak.call n2 rfl rfl ?_)|refine u2 ?_|fail
      exact ⟨[_,_,_],⟨Fz.deep rfl,Fz.deep rfl,Fz.deep rfl,trivial⟩,rfl⟩
     | true =>
      have d5:(!decide (y2=0))=false:=by rw [e5];rfl
      rw [if_neg (fun hh=>hh (of_decide_eq_true e5))];refine ak.body (fn:=Tryz.f16) rfl rfl rfl rfl ?_;refine qq1 ?_;repeat' first|refine u1 ?_|((with_reducible refine qq3 ?_);refine ak.call o1 rfl rfl ?_)|((with_reducible refine qq3 ?_);refine ak.call o2 rfl rfl ?_)|((with_reducible refine qq3 ?_);refine ak.call o3 rfl rfl ?_)|((with_reducible refine qq3 ?_);refine ak.call n1 rfl rfl ?_)|((with_reducible refine qq3 ?_);refine ak.call n2 rfl rfl ?_)|refine u2 ?_|fail
      exact ⟨[_,_,_],⟨Fz.deep rfl,Fz.deep rfl,Fz.deep rfl,trivial⟩,rfl⟩
