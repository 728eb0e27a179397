/-
  Contracts of the program's functions and of the document's. Lemmas alone; their conditions stand in them.
-/
import Derived.Test.YtlpmfgmldmdggaaGreatK1
open Go Go.RM
namespace Go.Proofs.YtlpmfgmldmdggaaGreat
set_option maxRecDepth 100000
set_option maxHeartbeats 4000000
theorem Gd (one:Bool) (lo hi:Int) (l:List Int) (h:l.length≤maxLen):Pu one 51 [af lo,af hi,.sl (l.map eI) true] (BB (iy lo hi l)):=by have:=Er one lo hi (l.map eI) true (by rw [List.all_map,List.all_eq_true];intro x _;rfl) (by simpa using h);rw [show (l.map eI).map Kh=l by rw [List.map_map];exact List.map_id _] at this;exact this
theorem jJ (one:Bool) (lo hi a:Int):Pu one 51 [af lo,af hi,.sl [eI a] true] (BB (iy lo hi [a])):=Gd one lo hi [a] (by simp [maxLen])
theorem Iy (one:Bool) (lo hi a b c:Int):Pu one 51 [af lo,af hi,.sl [eI a,eI b,eI c] true] (BB (iy lo hi [a,b,c])):=Gd one lo hi [a,b,c] (by simp [maxLen])
theorem jk {lo hi a:Int} (h:iy lo hi [a]=false):lo≤a∧a≤hi:=by
 rw [cT] at h
 have h2:jP a lo hi=true:=by cases e:jP a lo hi with|true=>rfl|false=>rw [e] at h;cases h
 exact gh.1 h2
def dj {α:Type} (nm:α→ByteArray) (err:α→Int) (l:List α) (i:Nat):Int:=match l[i]? with
 | some x=>if iA (nm x)=false then 6 else if ((l.take i).any fun y=>w5 (nm y) (nm x))=true then 5 else err x
 | none=>0
def dO (r:fk):Int:=if (iy 0 1000 [r.EV] || iy 0 1000 [r.leave,r.EW,r.rL])=true then 7 else 0
def fo (n:Int) (m:nh):Int:=if iy 0 (n - 1) [m.kL]=true then 4 else if iy (-100000) 100000 [m.rM]=true then 7 else 0
theorem BA (one:Bool) (r:fk):Pu one 53 [.ag (aX r)] (ST r.name):=by
 refine ak.body (fn:=Tryz.f53) rfl rfl rfl rfl ?_;refine qq1 ?_;repeat' first|refine u1 ?_|refine u2 ?_|fail
 exact ⟨[_],⟨Fz.deep rfl,trivial⟩,rfl⟩
theorem BC (one:Bool) (m:nh):Pu one 56 [.ag (bq m)] (ST m.name):=by
 refine ak.body (fn:=Tryz.f56) rfl rfl rfl rfl ?_;refine qq1 ?_;repeat' first|refine u1 ?_|refine u2 ?_|fail
 exact ⟨[_],⟨Fz.deep rfl,trivial⟩,rfl⟩
theorem Iz (one:Bool) (r:fk):Pu one 54 [.ag (aX r)] (af (dO r)):=by
 have o1:=jJ one 0 1000 r.EV;have o2:=Iy one 0 1000 r.leave r.EW r.rL;unfold dO;cases e1:iy 0 1000 [r.EV] <;> cases e2:iy 0 1000 [r.leave,r.EW,r.rL] <;> rw [e1] at o1 <;> rw [e2] at o2
 all_goals refine ak.body (fn:=Tryz.f54) rfl rfl rfl rfl ?_
 all_goals refine qq1 ?_
 all_goals
  repeat' first|refine u1 ?_|((with_reducible refine qq3 ?_);refine ak.call o1 rfl rfl ?_)|((with_reducible refine qq3 ?_);refine ak.call o2 rfl rfl ?_)|refine u2 ?_|fail
 all_goals exact ⟨[_],⟨Fz.deep rfl,trivial⟩,rfl⟩
theorem IA (one:Bool) (c:aS) (hc:c.aE.length≤maxLen) (m:nh):ak TT TB one (.fn 57 [] [.pt (aM c) 0]) [.ag (bq m)] (af (fo c.aE.length m)):=by
 have eg:((c.aE.map aX).length:Int)=c.aE.length:=by simp
 have ml:c.aE.length≤9223372036854775807:=Nat.le_trans hc (by simp [maxLen]);have o1:=jJ one 0 (((c.aE.map aX).length:Int) - 1) m.kL;rw [eg] at o1;have o2:=jJ one (-100000) 100000 m.rM;unfold fo;cases e1:iy 0 ((c.aE.length:Int) - 1) [m.kL] <;> cases e2:iy (-100000) 100000 [m.rM] <;> rw [e1,←eg] at o1 <;> rw [e2] at o2
 all_goals refine ak.body (fn:=Tryz.f57) rfl rfl rfl rfl ?_
 all_goals refine qq1 ?_
 all_goals
  repeat' first|refine u1 ?_|((with_reducible refine qq3 ?_);refine ak.call o1 rfl rfl ?_)|((with_reducible refine qq3 ?_);refine ak.call o2 rfl rfl ?_)|refine u2 ?_|fail
 all_goals exact ⟨[_],⟨Fz.deep rfl,trivial⟩,rfl⟩
theorem Ge (one:Bool) (s:ByteArray) (r:fk):ak TT TB one (.fn 99 [] [.pt [.fn 53 [] []] 0,.pt [ST s] 0]) [.ag (aX r)] (BB (w5 r.name s)):=by
 have h1:=BA true r;refine ak.body (fn:=Tryz.f99) rfl rfl rfl rfl ?_;refine qq1 ?_;repeat' first|refine u1 ?_|(refine ⟨_,_,.inl ⟨rfl,rfl⟩,h1,?_⟩)|refine u2 ?_|fail
 exact ⟨[_],⟨Fz.deep rfl,trivial⟩,rfl⟩
theorem Ex (one:Bool) (s:ByteArray) (r:nh):ak TT TB one (.fn 101 [] [.pt [.fn 56 [] []] 0,.pt [ST s] 0]) [.ag (bq r)] (BB (w5 r.name s)):=by
 have h1:=BC true r;refine ak.body (fn:=Tryz.f101) rfl rfl rfl rfl ?_;refine qq1 ?_;repeat' first|refine u1 ?_|(refine ⟨_,_,.inl ⟨rfl,rfl⟩,h1,?_⟩)|refine u2 ?_|fail
 exact ⟨[_],⟨Fz.deep rfl,trivial⟩,rfl⟩
end Go.Proofs.YtlpmfgmldmdggaaGreat
open Go Go.RM
namespace Go.Proofs.YtlpmfgmldmdggaaGreat
set_option maxRecDepth 100000
set_option maxHeartbeats 4000000
theorem Ey (one:Bool) (l:List fk) (hl:l.length≤maxLen) (hn:∀ x ∈ l,x.name.data.toList.length≤maxLen):Pu one 52 [.sl (l.map aX) false,.fn 53 [] [],.fn 54 [] []] (.tp [af (cS l.length (dj fk.name dO l)).1,af (cS l.length (dj fk.name dO l)).2]):=by
 have ml:l.length≤9223372036854775807:=Nat.le_trans hl (by simp [maxLen]);have eg:((l.map aX).length:Int)=l.length:=by simp
 obtain ⟨n,hnn⟩:∃ n:Int,n=l.length:=⟨_,rfl⟩;refine ak.body (fn:=Tryz.f52) rfl rfl rfl rfl ?_;refine qq1 ?_;repeat' first|refine u1 ?_|refine u2 ?_|fail
 refine aB.aP (ah.to (l:=[(0,.sl (l.map aX) false),(2,.fn 54 [] []),(4,.pt [.fn 53 [] []] 0),(12,.sl (l.map aX) false),(13,af n),(14,af (0:Nat))]) (hp:=[]) 0 rfl ⟨rfl,rfl,rfl,rfl,aD (by rw [hnn];exact eg),rfl,trivial⟩ (qq5 _) rfl rfl) ?_;refine aB.loop (fun k:Nat=>k≤l.length∧∀ i,i < k→dj fk.name dO l i=0) (fun k=>⟨aL [(0,.sl (l.map aX) false),(2,.fn 54 [] []),(4,.pt [.fn 53 [] []] 0),(12,.sl (l.map aX) false),(13,af n),(14,af (k:Nat))],[],bp.none,false,0⟩) (fun k=>l.length - k) ?_ 0 ⟨qq5 _,fun i hi=>absurd hi (Nat.not_lt_zero _)⟩;rintro k ⟨hk,hprev⟩;refine qq1 ?_;by_cases hlt:k < l.length
 ·have d1:decide ((k:Int) < n)=true:=decide_eq_true (by omega);have hat:(l.map aX)[((k:Nat):Int).toNat]?=some (aX l[k]):=dB hlt;have hga:dj fk.name dO l k=if iA l[k].name=false then 6 else if ((l.take k).any fun y=>w5 y.name l[k].name)=true then 5 else dO l[k]:=by unfold dj;rw [List.getElem?_eq_getElem hlt]
  have h1:=BA one l[k];have h2:=F7 one l[k].name (hn _ (List.getElem_mem hlt));have h4:=Iz one l[k];have h3:∀ f,Pu one 98 [.sl ((l.take k).map aX) f,.fn 99 [] [.pt [.fn 53 [] []] 0,.pt [ST l[k].name] 0]] (BB ((l.take k).any fun y=>w5 y.name l[k].name)):=fun f=>s8 one 99 [] _ rfl (fun y=>w5 y.name l[k].name) (l.take k) f (by rw [List.length_take];omega) (fun x _=>Ge one l[k].name x);have hsl:((l.map aX).drop 0).take (k - 0)=(l.take k).map aX:=by rw [List.drop_zero,Nat.sub_zero,List.map_take]
  rw [←hsl] at h3;have hkl:0≤k∧k≤(l.map aX).length:=⟨qq5 _,by rw [List.length_map];omega⟩;have hel:∀ el ∈ l.map aX,el.length=5:=fun el hel=>by obtain ⟨x,_,rfl⟩:=List.mem_map.1 hel;rfl
  have fin:∀ v,dj fk.name dO l k=v→v ≠ 0→cS l.length (dj fk.name dO l)=((k:Int),v):=fun v e hv=>by rw [lu hlt hprev (by rw [e];exact hv),e]
  generalize l[k]=g at *
  cases q1:iA g.name with
  | false =>
   rw [q1] at h2;rw [fin 6 (by rw [hga,if_pos q1]) (by decide)];repeat' first|((with_reducible refine qq3 ?_);refine ak.call h1 rfl rfl ?_)|((with_reducible refine qq3 ?_);refine ak.call h2 rfl rfl ?_)|((with_reducible refine qq3 ?_);refine ak.call h4 rfl rfl ?_)|refine u1 ?_|((with_reducible refine qq4 ?_);refine ⟨aX g,⟨by omega,hat⟩,rfl,?_⟩)|(refine ⟨0,k,rfl,rfl,hkl,(by decide),hel,?_⟩)|((with_reducible refine qq3 ?_);refine ak.tY (h3 _) (Fq.deep rfl) (eX.cons (Fq.deep rfl) (eX.cons (eX.JK eX.nil (eX.cons (Fq.deep rfl) (eX.cons (Fq.ptr rfl rfl) eX.nil))) eX.nil)) (nU.fl _) ?_)|refine u2 ?_|fail
   exact ⟨[_,_],⟨Fz.deep rfl,Fz.deep rfl,trivial⟩,rfl⟩
  | true =>
   rw [q1] at h2;have q1':¬ iA g.name=false:=by rw [q1];simp
   cases q2:(l.take k).any fun y=>w5 y.name g.name with
   | true =>
    simp only [q2] at h3;rw [fin 5 (by rw [hga,if_neg q1',if_pos q2]) (by decide)];repeat' first|((with_reducible refine qq3 ?_);refine ak.call h1 rfl rfl ?_)|((with_reducible refine qq3 ?_);refine ak.call h2 rfl rfl ?_)|((with_reducible refine qq3 ?_);refine ak.call h4 rfl rfl ?_)|refine u1 ?_|((with_reducible refine qq4 ?_);refine ⟨aX g,⟨by omega,hat⟩,rfl,?_⟩)|(refine ⟨0,k,rfl,rfl,hkl,(by decide),hel,?_⟩)|((with_reducible refine qq3 ?_);refine ak.tY (h3 _) (Fq.deep rfl) (eX.cons (Fq.deep rfl) (eX.cons (eX.JK eX.nil (eX.cons (Fq.deep rfl) (eX.cons (Fq.ptr rfl rfl) eX.nil))) eX.nil)) (nU.fl _) ?_)|refine u2 ?_|fail
    exact ⟨[_,_],⟨Fz.deep rfl,Fz.deep rfl,trivial⟩,rfl⟩
   | false =>
    simp only [q2] at h3;have q2':¬ ((l.take k).any fun y=>w5 y.name g.name)=true:=by rw [q2];simp
    have hv:dj fk.name dO l k=dO g:=by rw [hga,if_neg q1',if_neg q2']
    generalize dO g=v at *
    cases q3:decide (v=0) with
    | false =>
     have d3:(!decide (v=0))=true:=by rw [q3];rfl
     rw [fin v hv (of_decide_eq_false q3)];repeat' first|((with_reducible refine qq3 ?_);refine ak.call h1 rfl rfl ?_)|((with_reducible refine qq3 ?_);refine ak.call h2 rfl rfl ?_)|((with_reducible refine qq3 ?_);refine ak.call h4 rfl rfl ?_)|refine u1 ?_|((with_reducible refine qq4 ?_);refine ⟨aX g,⟨by omega,hat⟩,rfl,?_⟩)|(refine ⟨0,k,rfl,rfl,hkl,(by decide),hel,?_⟩)|((with_reducible refine qq3 ?_);refine ak.tY (h3 _) (Fq.deep rfl) (eX.cons (Fq.deep rfl) (eX.cons (eX.JK eX.nil (eX.cons (Fq.deep rfl) (eX.cons (Fq.ptr rfl rfl) eX.nil))) eX.nil)) (nU.fl _) ?_)|refine u2 ?_|fail
     exact ⟨[_,_],⟨Fz.deep rfl,Fz.deep rfl,trivial⟩,rfl⟩
    | true =>
     have d3:(!decide (v=0))=false:=by rw [q3];rfl
     have e0:dj fk.name dO l k=0:=hv.trans (of_decide_eq_true q3);repeat' first|((with_reducible refine qq3 ?_);refine ak.call h1 rfl rfl ?_)|((with_reducible refine qq3 ?_);refine ak.call h2 rfl rfl ?_)|((with_reducible refine qq3 ?_);refine ak.call h4 rfl rfl ?_)|refine u1 ?_|((with_reducible refine qq4 ?_);refine ⟨aX g,⟨by omega,hat⟩,rfl,?_⟩)|(refine ⟨0,k,rfl,rfl,hkl,(by decide),hel,?_⟩)|((with_reducible refine qq3 ?_);refine ak.tY (h3 _) (Fq.deep rfl) (eX.cons (Fq.deep rfl) (eX.cons (eX.JK eX.nil (eX.cons (Fq.deep rfl) (eX.cons (Fq.ptr rfl rfl) eX.nil))) eX.nil)) (nU.fl _) ?_)|refine u2 ?_|fail
     refine ⟨k+1,⟨hlt,fun i hi=>?_⟩,(by dsimp only;omega),ah.to 0 rfl ⟨rfl,rfl,rfl,rfl,rfl,aD (by simp),trivial⟩ (qq5 _) rfl rfl⟩;by_cases hik:i=k
     ·subst hik;exact e0
     ·exact hprev i (by omega)
 ·have d1:decide ((k:Int) < n)=false:=decide_eq_false (by omega);rw [lz (fun i hi=>hprev i (by omega))];repeat' first|refine u1 ?_|refine u2 ?_|fail
  exact ⟨[_,_],⟨Fz.deep rfl,Fz.deep rfl,trivial⟩,rfl⟩
theorem Ez (one:Bool) (c:aS) (hc:c.aE.length≤maxLen) (l:List nh) (hl:l.length≤maxLen) (hn:∀ x ∈ l,x.name.data.toList.length≤maxLen):Pu one 55 [.sl (l.map bq) false,.fn 56 [] [],.fn 57 [] [.pt (aM c) 0]] (.tp [af (cS l.length (dj nh.name (fo c.aE.length) l)).1,af (cS l.length (dj nh.name (fo c.aE.length) l)).2]):=by
 have ml:l.length≤9223372036854775807:=Nat.le_trans hl (by simp [maxLen]);have eg:((l.map bq).length:Int)=l.length:=by simp
 obtain ⟨n,hnn⟩:∃ n:Int,n=l.length:=⟨_,rfl⟩;refine ak.body (fn:=Tryz.f55) rfl rfl rfl rfl ?_;refine qq1 ?_;repeat' first|refine u1 ?_|refine u2 ?_|fail
 refine aB.aP (ah.to (l:=[(0,.sl (l.map bq) false),(2,.fn 57 [] [.pt (aM c) 0]),(4,.pt [.fn 56 [] []] 0),(12,.sl (l.map bq) false),(13,af n),(14,af (0:Nat))]) (hp:=[]) 0 rfl ⟨rfl,rfl,rfl,rfl,aD (by rw [hnn];exact eg),rfl,trivial⟩ (qq5 _) rfl rfl) ?_;refine aB.loop (fun k:Nat=>k≤l.length∧∀ i,i < k→dj nh.name (fo c.aE.length) l i=0) (fun k=>⟨aL [(0,.sl (l.map bq) false),(2,.fn 57 [] [.pt (aM c) 0]),(4,.pt [.fn 56 [] []] 0),(12,.sl (l.map bq) false),(13,af n),(14,af (k:Nat))],[],bp.none,false,0⟩) (fun k=>l.length - k) ?_ 0 ⟨qq5 _,fun i hi=>absurd hi (Nat.not_lt_zero _)⟩;rintro k ⟨hk,hprev⟩;refine qq1 ?_;by_cases hlt:k < l.length
 ·have d1:decide ((k:Int) < n)=true:=decide_eq_true (by omega);have hat:(l.map bq)[((k:Nat):Int).toNat]?=some (bq l[k]):=dB hlt;have hga:dj nh.name (fo c.aE.length) l k=if iA l[k].name=false then 6 else if ((l.take k).any fun y=>w5 y.name l[k].name)=true then 5 else (fo c.aE.length) l[k]:=by unfold dj;rw [List.getElem?_eq_getElem hlt]
  have h1:=BC one l[k];have h2:=F7 one l[k].name (hn _ (List.getElem_mem hlt));have h4:=IA one c hc l[k];have h3:∀ f,Pu one 100 [.sl ((l.take k).map bq) f,.fn 101 [] [.pt [.fn 56 [] []] 0,.pt [ST l[k].name] 0]] (BB ((l.take k).any fun y=>w5 y.name l[k].name)):=fun f=>rN one 101 [] _ rfl (fun y=>w5 y.name l[k].name) (l.take k) f (by rw [List.length_take];omega) (fun x _=>Ex one l[k].name x);have hsl:((l.map bq).drop 0).take (k - 0)=(l.take k).map bq:=by rw [List.drop_zero,Nat.sub_zero,List.map_take]
  rw [←hsl] at h3;have hkl:0≤k∧k≤(l.map bq).length:=⟨qq5 _,by rw [List.length_map];omega⟩;have hel:∀ el ∈ l.map bq,el.length=4:=fun el hel=>by obtain ⟨x,_,rfl⟩:=List.mem_map.1 hel;rfl
  have fin:∀ v,dj nh.name (fo c.aE.length) l k=v→v ≠ 0→cS l.length (dj nh.name (fo c.aE.length) l)=((k:Int),v):=fun v e hv=>by rw [lu hlt hprev (by rw [e];exact hv),e]
  generalize l[k]=g at *
  cases q1:iA g.name with
  | false =>
   rw [q1] at h2;rw [fin 6 (by rw [hga,if_pos q1]) (by decide)];repeat' first|((with_reducible refine qq3 ?_);refine ak.call h1 rfl rfl ?_)|((with_reducible refine qq3 ?_);refine ak.call h2 rfl rfl ?_)|((with_reducible refine qq3 ?_);refine ak.call h4 rfl rfl ?_)|refine u1 ?_|((with_reducible refine qq4 ?_);refine ⟨bq g,⟨by omega,hat⟩,rfl,?_⟩)|(refine ⟨0,k,rfl,rfl,hkl,(by decide),hel,?_⟩)|((with_reducible refine qq3 ?_);refine ak.tY (h3 _) (Fq.deep rfl) (eX.cons (Fq.deep rfl) (eX.cons (eX.JK eX.nil (eX.cons (Fq.deep rfl) (eX.cons (Fq.ptr rfl rfl) eX.nil))) eX.nil)) (nU.fl _) ?_)|refine u2 ?_|fail
   exact ⟨[_,_],⟨Fz.deep rfl,Fz.deep rfl,trivial⟩,rfl⟩
  | true =>
   rw [q1] at h2;have q1':¬ iA g.name=false:=by rw [q1];simp
   cases q2:(l.take k).any fun y=>w5 y.name g.name with
   | true =>
    simp only [q2] at h3;rw [fin 5 (by rw [hga,if_neg q1',if_pos q2]) (by decide)];repeat' first|((with_reducible refine qq3 ?_);refine ak.call h1 rfl rfl ?_)|((with_reducible refine qq3 ?_);refine ak.call h2 rfl rfl ?_)|((with_reducible refine qq3 ?_);refine ak.call h4 rfl rfl ?_)|refine u1 ?_|((with_reducible refine qq4 ?_);refine ⟨bq g,⟨by omega,hat⟩,rfl,?_⟩)|(refine ⟨0,k,rfl,rfl,hkl,(by decide),hel,?_⟩)|((with_reducible refine qq3 ?_);refine ak.tY (h3 _) (Fq.deep rfl) (eX.cons (Fq.deep rfl) (eX.cons (eX.JK eX.nil (eX.cons (Fq.deep rfl) (eX.cons (Fq.ptr rfl rfl) eX.nil))) eX.nil)) (nU.fl _) ?_)|refine u2 ?_|fail
    exact ⟨[_,_],⟨Fz.deep rfl,Fz.deep rfl,trivial⟩,rfl⟩
   | false =>
    simp only [q2] at h3;have q2':¬ ((l.take k).any fun y=>w5 y.name g.name)=true:=by rw [q2];simp
    have hv:dj nh.name (fo c.aE.length) l k=(fo c.aE.length) g:=by rw [hga,if_neg q1',if_neg q2']
    generalize (fo c.aE.length) g=v at *
    cases q3:decide (v=0) with
    | false =>
     have d3:(!decide (v=0))=true:=by rw [q3];rfl
     rw [fin v hv (of_decide_eq_false q3)];repeat' first|((with_reducible refine qq3 ?_);refine ak.call h1 rfl rfl ?_)|((with_reducible refine qq3 ?_);refine ak.call h2 rfl rfl ?_)|((with_reducible refine qq3 ?_);refine ak.call h4 rfl rfl ?_)|refine u1 ?_|((with_reducible refine qq4 ?_);refine ⟨bq g,⟨by omega,hat⟩,rfl,?_⟩)|(refine ⟨0,k,rfl,rfl,hkl,(by decide),hel,?_⟩)|((with_reducible refine qq3 ?_);refine ak.tY (h3 _) (Fq.deep rfl) (eX.cons (Fq.deep rfl) (eX.cons (eX.JK eX.nil (eX.cons (Fq.deep rfl) (eX.cons (Fq.ptr rfl rfl) eX.nil))) eX.nil)) (nU.fl _) ?_)|refine u2 ?_|fail
     exact ⟨[_,_],⟨Fz.deep rfl,Fz.deep rfl,trivial⟩,rfl⟩
    | true =>
     have d3:(!decide (v=0))=false:=by rw [q3];rfl
     have e0:dj nh.name (fo c.aE.length) l k=0:=hv.trans (of_decide_eq_true q3);repeat' first|((with_reducible refine qq3 ?_);refine ak.call h1 rfl rfl ?_)|((with_reducible refine qq3 ?_);refine ak.call h2 rfl rfl ?_)|((with_reducible refine qq3 ?_);refine ak.call h4 rfl rfl ?_)|refine u1 ?_|((with_reducible refine qq4 ?_);refine ⟨bq g,⟨by omega,hat⟩,rfl,?_⟩)|(refine ⟨0,k,rfl,rfl,hkl,(by decide),hel,?_⟩)|((with_reducible refine qq3 ?_);refine ak.tY (h3 _) (Fq.deep rfl) (eX.cons (Fq.deep rfl) (eX.cons (eX.JK eX.nil (eX.cons (Fq.deep rfl) (eX.cons (Fq.ptr rfl rfl) eX.nil))) eX.nil)) (nU.fl _) ?_)|refine u2 ?_|fail
     refine ⟨k+1,⟨hlt,fun i hi=>?_⟩,(by dsimp only;omega),ah.to 0 rfl ⟨rfl,rfl,rfl,rfl,rfl,aD (by simp),trivial⟩ (qq5 _) rfl rfl⟩;by_cases hik:i=k
     ·subst hik;exact e0
     ·exact hprev i (by omega)
 ·have d1:decide ((k:Int) < n)=false:=decide_eq_false (by omega);rw [lz (fun i hi=>hprev i (by omega))];repeat' first|refine u1 ?_|refine u2 ?_|fail
  exact ⟨[_,_],⟨Fz.deep rfl,Fz.deep rfl,trivial⟩,rfl⟩
end Go.Proofs.YtlpmfgmldmdggaaGreat
open Go Go.RM
namespace Go.Proofs.YtlpmfgmldmdggaaGreat
set_option maxRecDepth 100000
set_option maxHeartbeats 4000000
structure aS.Ok (c:aS):Prop where
 aE:c.aE.length≤maxLen
 Gf:∀ x ∈ c.aE,x.name.data.toList.length≤maxLen
 aH:c.aH.length≤maxLen
 Gg:∀ x ∈ c.aH,x.name.data.toList.length≤maxLen
def Gh (c:aS):Nat→Int:=dj fk.name dO c.aE
def Dv (c:aS):Nat→Int:=dj nh.name (fo c.aE.length) c.aH
def oY (c:aS):Int × Int × Int :=
 if (iy 1 3 [(c.aE.length:Int)] || iy 1 5 [(c.aH.length:Int)])=true then (1,0,3)
 else if iy 0 5 [c.least]=true then (1,0,7)
 else if (cS c.aE.length (Gh c)).2 ≠ 0 then (2,(cS c.aE.length (Gh c)).1,(cS c.aE.length (Gh c)).2)
 else if (cS c.aH.length (Dv c)).2 ≠ 0 then (3,(cS c.aH.length (Dv c)).1,(cS c.aH.length (Dv c)).2)
 else (0,0,0)
theorem IB (one:Bool) (c:aS) (h:c.Ok):Pu one 16 [.ag (aM c)] (.tp [af (oY c).1,af (oY c).2.1,af (oY c).2.2]):=by
 have eg:((c.aE.map aX).length:Int)=c.aE.length:=by simp
 have em:((c.aH.map bq).length:Int)=c.aH.length:=by simp
 have o1:=jJ one 1 3 ((c.aE.map aX).length:Int);have o2:=jJ one 1 5 ((c.aH.map bq).length:Int);have o3:=jJ one 0 5 c.least;have n1:=Ey one c.aE h.aE h.Gf;have n2:=Ez one c h.aE c.aH h.aH h.Gg;rw [eg] at o1;rw [em] at o2;unfold oY
 cases e1:iy 1 3 [(c.aE.length:Int)] with
 | true =>
  rw [e1,←eg] at o1;rw [if_pos (by rfl)];refine ak.body (fn:=Tryz.f16) rfl rfl rfl rfl ?_;refine qq1 ?_;repeat' first|refine u1 ?_|((with_reducible refine qq3 ?_);refine ak.call o1 rfl rfl ?_)|((with_reducible refine qq3 ?_);refine ak.call o2 rfl rfl ?_)|((with_reducible refine qq3 ?_);refine ak.call o3 rfl rfl ?_)|((with_reducible refine qq3 ?_);refine ak.call n1 rfl rfl ?_)|((with_reducible refine qq3 ?_);refine ak.call n2 rfl rfl ?_)|refine u2 ?_|fail
  exact ⟨[_,_,_],⟨Fz.deep rfl,Fz.deep rfl,Fz.deep rfl,trivial⟩,rfl⟩
 | false =>
  rw [e1,←eg] at o1
  cases e2:iy 1 5 [(c.aH.length:Int)] with
  | true =>
   rw [e2,←em] at o2;rw [if_pos (by rfl)];refine ak.body (fn:=Tryz.f16) rfl rfl rfl rfl ?_;refine qq1 ?_;repeat' first|refine u1 ?_|((with_reducible refine qq3 ?_);refine ak.call o1 rfl rfl ?_)|((with_reducible refine qq3 ?_);refine ak.call o2 rfl rfl ?_)|((with_reducible refine qq3 ?_);refine ak.call o3 rfl rfl ?_)|((with_reducible refine qq3 ?_);refine ak.call n1 rfl rfl ?_)|((with_reducible refine qq3 ?_);refine ak.call n2 rfl rfl ?_)|refine u2 ?_|fail
   exact ⟨[_,_,_],⟨Fz.deep rfl,Fz.deep rfl,Fz.deep rfl,trivial⟩,rfl⟩
  | false =>
   rw [e2,←em] at o2;rw [if_neg (by simp)]
   cases e3:iy 0 5 [c.least] with
   | true =>
    rw [e3] at o3;rw [if_pos (by rfl)];refine ak.body (fn:=Tryz.f16) rfl rfl rfl rfl ?_;refine qq1 ?_;repeat' first|refine u1 ?_|((with_reducible refine qq3 ?_);refine ak.call o1 rfl rfl ?_)|((with_reducible refine qq3 ?_);refine ak.call o2 rfl rfl ?_)|((with_reducible refine qq3 ?_);refine ak.call o3 rfl rfl ?_)|((with_reducible refine qq3 ?_);refine ak.call n1 rfl rfl ?_)|((with_reducible refine qq3 ?_);refine ak.call n2 rfl rfl ?_)|refine u2 ?_|fail
    exact ⟨[_,_,_],⟨Fz.deep rfl,Fz.deep rfl,Fz.deep rfl,trivial⟩,rfl⟩
   | false =>
    rw [e3] at o3;rw [if_neg (by simp)];unfold Gh Dv
    generalize cS c.aE.length (dj fk.name dO c.aE)=x at *
    generalize cS c.aH.length (dj nh.name (fo c.aE.length) c.aH)=y at *
    obtain ⟨x1,x2⟩:=x;obtain ⟨y1,y2⟩:=y
    dsimp only at *
    cases e4:decide (x2=0) with
    | false =>
     have d4:(!decide (x2=0))=true:=by rw [e4];rfl
     rw [if_pos (of_decide_eq_false e4)];refine ak.body (fn:=Tryz.f16) rfl rfl rfl rfl ?_;refine qq1 ?_;repeat' first|refine u1 ?_|((with_reducible refine qq3 ?_);refine ak.call o1 rfl rfl ?_)|((with_reducible refine qq3 ?_);refine ak.call o2 rfl rfl ?_)|((with_reducible refine qq3 ?_);refine ak.call o3 rfl rfl ?_)|((with_reducible refine qq3 ?_);refine ak.call n1 rfl rfl ?_)|((with_reducible refine qq3 ?_);refine ak.call n2 rfl rfl ?_)|refine u2 ?_|fail
     exact ⟨[_,_,_],⟨Fz.deep rfl,Fz.deep rfl,Fz.deep rfl,trivial⟩,rfl⟩
    | true =>
     have d4:(!decide (x2=0))=false:=by rw [e4];rfl
     rw [if_neg (fun hh=>hh (of_decide_eq_true e4))]
     cases e5:decide (y2=0) with
     | false =>
      have d5:(!decide (y2=0))=true:=by rw [e5];rfl
      rw [if_pos (of_decide_eq_false e5)];refine ak.body (fn:=Tryz.f16) rfl rfl rfl rfl ?_;refine qq1 ?_;repeat' first|refine u1 ?_|((with_reducible refine qq3 ?_);refine ak.call o1 rfl rfl ?_)|((with_reducible refine qq3 ?_);refine ak.call o2 rfl rfl ?_)|((with_reducible refine qq3 ?_);refine ak.call o3 rfl rfl ?_)|((with_reducible refine qq3 ?_);refine ak.call n1 rfl rfl ?_)|((with_reducible refine qq3 ?_);refine ak.call n2 rfl rfl ?_)|refine u2 ?_|fail
      exact ⟨[_,_,_],⟨Fz.deep rfl,Fz.deep rfl,Fz.deep rfl,trivial⟩,rfl⟩
     | true =>
      have d5:(!decide (y2=0))=false:=by rw [e5];rfl
      rw [if_neg (fun hh=>hh (of_decide_eq_true e5))];refine ak.body (fn:=Tryz.f16) rfl rfl rfl rfl ?_;refine qq1 ?_;repeat' first|refine u1 ?_|((with_reducible refine qq3 ?_);refine ak.call o1 rfl rfl ?_)|((with_reducible refine qq3 ?_);refine ak.call o2 rfl rfl ?_)|((with_reducible refine qq3 ?_);refine ak.call o3 rfl rfl ?_)|((with_reducible refine qq3 ?_);refine ak.call n1 rfl rfl ?_)|((with_reducible refine qq3 ?_);refine ak.call n2 rfl rfl ?_)|refine u2 ?_|fail
      exact ⟨[_,_,_],⟨Fz.deep rfl,Fz.deep rfl,Fz.deep rfl,trivial⟩,rfl⟩
