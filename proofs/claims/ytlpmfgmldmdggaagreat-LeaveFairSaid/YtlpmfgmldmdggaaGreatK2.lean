/-
  Contracts of the program's functions and of the document's. Lemmas alone; their conditions stand in them.
-/
import Derived.Test.YtlpmfgmldmdggaaGreatK1
open Go Go.RM
namespace Go.Proofs.YtlpmfgmldmdggaaGreat
set_option maxRecDepth 100000
set_option maxHeartbeats 4000000
theorem F4 (one:Bool) (lo hi:Int) (l:List Int) (h:l.length≤maxLen):Pu one 51 [af lo,af hi,.sl (l.map eI) true] (BB (fU lo hi l)):=by have:=xX one lo hi (l.map eI) true (by rw [List.all_map,List.all_eq_true];intro x _;rfl) (by simpa using h);rw [show (l.map eI).map Jk=l by rw [List.map_map];exact List.map_id _] at this;exact this
theorem jE (one:Bool) (lo hi a:Int):Pu one 51 [af lo,af hi,.sl [eI a] true] (BB (fU lo hi [a])):=F4 one lo hi [a] (by simp [maxLen])
theorem H6 (one:Bool) (lo hi a b c:Int):Pu one 51 [af lo,af hi,.sl [eI a,eI b,eI c] true] (BB (fU lo hi [a,b,c])):=F4 one lo hi [a,b,c] (by simp [maxLen])
theorem i9 {lo hi a:Int} (h:fU lo hi [a]=false):lo≤a∧a≤hi:=by
 rw [cM] at h
 have h2:jK a lo hi=true:=by cases e:jK a lo hi with|true=>rfl|false=>rw [e] at h;cases h
 exact fO.1 h2
def cT {α:Type} (nm:α→ByteArray) (err:α→Int) (l:List α) (i:Nat):Int:=match l[i]? with
 | some x=>if ig (nm x)=false then 6 else if ((l.take i).any fun y=>wJ (nm y) (nm x))=true then 5 else err x
 | none=>0
def dB (r:eZ):Int:=if (fU 0 1000 [r.EH] || fU 0 1000 [r.leave,r.EI,r.qY])=true then 7 else 0
def e9 (n:Int) (m:m8):Int:=if fU 0 (n - 1) [m.kC]=true then 4 else if fU (-100000) 100000 [m.qZ]=true then 7 else 0
theorem Bh (one:Bool) (r:eZ):Pu one 53 [.ag (bE r)] (ST r.name):=by
 refine ah.body (fn:=Tryz.f53) rfl rfl rfl rfl ?_;refine qq1 ?_;repeat' first|refine u1 ?_|refine u2 ?_|fail
 exact ⟨[_],⟨Fz.deep rfl,trivial⟩,rfl⟩
theorem Bi (one:Bool) (m:m8):Pu one 56 [.ag (bS m)] (ST m.name):=by
 refine ah.body (fn:=Tryz.f56) rfl rfl rfl rfl ?_;refine qq1 ?_;repeat' first|refine u1 ?_|refine u2 ?_|fail
 exact ⟨[_],⟨Fz.deep rfl,trivial⟩,rfl⟩
theorem H7 (one:Bool) (r:eZ):Pu one 54 [.ag (bE r)] (af (dB r)):=by
 have o1:=jE one 0 1000 r.EH;have o2:=H6 one 0 1000 r.leave r.EI r.qY;unfold dB;cases e1:fU 0 1000 [r.EH] <;> cases e2:fU 0 1000 [r.leave,r.EI,r.qY] <;> rw [e1] at o1 <;> rw [e2] at o2
 all_goals refine ah.body (fn:=Tryz.f54) rfl rfl rfl rfl ?_
 all_goals refine qq1 ?_
 all_goals
  repeat' first|refine u1 ?_|((with_reducible refine qq3 ?_);refine ah.call o1 rfl rfl ?_)|((with_reducible refine qq3 ?_);refine ah.call o2 rfl rfl ?_)|refine u2 ?_|fail
 all_goals exact ⟨[_],⟨Fz.deep rfl,trivial⟩,rfl⟩
theorem H8 (one:Bool) (c:aP) (hc:c.aB.length≤maxLen) (m:m8):ah TT TB one (.fn 57 [] [.pt (aD c) 0]) [.ag (bS m)] (af (e9 c.aB.length m)):=by
 have eg:((c.aB.map bE).length:Int)=c.aB.length:=by simp
 have ml:c.aB.length≤9223372036854775807:=Nat.le_trans hc (by simp [maxLen]);have o1:=jE one 0 (((c.aB.map bE).length:Int) - 1) m.kC;rw [eg] at o1;have o2:=jE one (-100000) 100000 m.qZ;unfold e9;cases e1:fU 0 ((c.aB.length:Int) - 1) [m.kC] <;> cases e2:fU (-100000) 100000 [m.qZ] <;> rw [e1,←eg] at o1 <;> rw [e2] at o2
 all_goals refine ah.body (fn:=Tryz.f57) rfl rfl rfl rfl ?_
 all_goals refine qq1 ?_
 all_goals
  repeat' first|refine u1 ?_|((with_reducible refine qq3 ?_);refine ah.call o1 rfl rfl ?_)|((with_reducible refine qq3 ?_);refine ah.call o2 rfl rfl ?_)|refine u2 ?_|fail
 all_goals exact ⟨[_],⟨Fz.deep rfl,trivial⟩,rfl⟩
theorem F5 (one:Bool) (s:ByteArray) (r:eZ):ah TT TB one (.fn 99 [] [.pt [.fn 53 [] []] 0,.pt [ST s] 0]) [.ag (bE r)] (BB (wJ r.name s)):=by
 have h1:=Bh true r;refine ah.body (fn:=Tryz.f99) rfl rfl rfl rfl ?_;refine qq1 ?_;repeat' first|refine u1 ?_|(refine ⟨_,_,.inl ⟨rfl,rfl⟩,h1,?_⟩)|refine u2 ?_|fail
 exact ⟨[_],⟨Fz.deep rfl,trivial⟩,rfl⟩
theorem Ek (one:Bool) (s:ByteArray) (r:m8):ah TT TB one (.fn 101 [] [.pt [.fn 56 [] []] 0,.pt [ST s] 0]) [.ag (bS r)] (BB (wJ r.name s)):=by
 have h1:=Bi true r;refine ah.body (fn:=Tryz.f101) rfl rfl rfl rfl ?_;refine qq1 ?_;repeat' first|refine u1 ?_|(refine ⟨_,_,.inl ⟨rfl,rfl⟩,h1,?_⟩)|refine u2 ?_|fail
 exact ⟨[_],⟨Fz.deep rfl,trivial⟩,rfl⟩
end Go.Proofs.YtlpmfgmldmdggaaGreat
open Go Go.RM
namespace Go.Proofs.YtlpmfgmldmdggaaGreat
set_option maxRecDepth 100000
set_option maxHeartbeats 4000000
theorem El (one:Bool) (l:List eZ) (hl:l.length≤maxLen) (hn:∀ x ∈ l,x.name.data.toList.length≤maxLen):Pu one 52 [.sl (l.map bE) false,.fn 53 [] [],.fn 54 [] []] (.tp [af (cL l.length (cT eZ.name dB l)).1,af (cL l.length (cT eZ.name dB l)).2]):=by
 have ml:l.length≤9223372036854775807:=Nat.le_trans hl (by simp [maxLen]);have eg:((l.map bE).length:Int)=l.length:=by simp
 obtain ⟨n,hnn⟩:∃ n:Int,n=l.length:=⟨_,rfl⟩;refine ah.body (fn:=Tryz.f52) rfl rfl rfl rfl ?_;refine qq1 ?_;repeat' first|refine u1 ?_|refine u2 ?_|fail
 refine ay.aN (ak.to (l:=[(0,.sl (l.map bE) false),(2,.fn 54 [] []),(4,.pt [.fn 53 [] []] 0),(12,.sl (l.map bE) false),(13,af n),(14,af (0:Nat))]) (hp:=[]) 0 rfl ⟨rfl,rfl,rfl,rfl,aH (by rw [hnn];exact eg),rfl,trivial⟩ (qq5 _) rfl rfl) ?_;refine ay.loop (fun k:Nat=>k≤l.length∧∀ i,i < k→cT eZ.name dB l i=0) (fun k=>⟨aT [(0,.sl (l.map bE) false),(2,.fn 54 [] []),(4,.pt [.fn 53 [] []] 0),(12,.sl (l.map bE) false),(13,af n),(14,af (k:Nat))],[],bJ.none,false,0⟩) (fun k=>l.length - k) ?_ 0 ⟨qq5 _,fun i hi=>absurd hi (Nat.not_lt_zero _)⟩;rintro k ⟨hk,hprev⟩;refine qq1 ?_;by_cases hlt:k < l.length
 ·have d1:decide ((k:Int) < n)=true:=decide_eq_true (by omega);have hat:(l.map bE)[((k:Nat):Int).toNat]?=some (bE l[k]):=dm hlt;have hga:cT eZ.name dB l k=if ig l[k].name=false then 6 else if ((l.take k).any fun y=>wJ y.name l[k].name)=true then 5 else dB l[k]:=by unfold cT;rw [List.getElem?_eq_getElem hlt]
  have h1:=Bh one l[k];have h2:=F0 one l[k].name (hn _ (List.getElem_mem hlt));have h4:=H7 one l[k];have h3:∀ f,Pu one 98 [.sl ((l.take k).map bE) f,.fn 99 [] [.pt [.fn 53 [] []] 0,.pt [ST l[k].name] 0]] (BB ((l.take k).any fun y=>wJ y.name l[k].name)):=fun f=>sG one 99 [] _ rfl (fun y=>wJ y.name l[k].name) (l.take k) f (by rw [List.length_take];omega) (fun x _=>F5 one l[k].name x);have hsl:((l.map bE).drop 0).take (k - 0)=(l.take k).map bE:=by rw [List.drop_zero,Nat.sub_zero,List.map_take]
  rw [←hsl] at h3;have hkl:0≤k∧k≤(l.map bE).length:=⟨qq5 _,by rw [List.length_map];omega⟩;have hel:∀ el ∈ l.map bE,el.length=5:=fun el hel=>by obtain ⟨x,_,rfl⟩:=List.mem_map.1 hel;rfl
  have fin:∀ v,cT eZ.name dB l k=v→v ≠ 0→cL l.length (cT eZ.name dB l)=((k:Int),v):=fun v e hv=>by rw [kW hlt hprev (by rw [e];exact hv),e]
  generalize l[k]=g at *
  cases q1:ig g.name with
  | false =>
   rw [q1] at h2;rw [fin 6 (by rw [hga,if_pos q1]) (by decide)];repeat' first|((with_reducible refine qq3 ?_);refine ah.call h1 rfl rfl ?_)|((with_reducible refine qq3 ?_);refine ah.call h2 rfl rfl ?_)|((with_reducible refine qq3 ?_);refine ah.call h4 rfl rfl ?_)|refine u1 ?_|((with_reducible refine qq4 ?_);refine ⟨bE g,⟨by omega,hat⟩,rfl,?_⟩)|(refine ⟨0,k,rfl,rfl,hkl,(by decide),hel,?_⟩)|((with_reducible refine qq3 ?_);refine ah.tH (h3 _) (Fq.deep rfl) (eJ.cons (Fq.deep rfl) (eJ.cons (eJ.Ji eJ.nil (eJ.cons (Fq.deep rfl) (eJ.cons (Fq.ptr rfl rfl) eJ.nil))) eJ.nil)) (m7.fl _) ?_)|refine u2 ?_|fail
   exact ⟨[_,_],⟨Fz.deep rfl,Fz.deep rfl,trivial⟩,rfl⟩
  | true =>
   rw [q1] at h2;have q1':¬ ig g.name=false:=by rw [q1];simp
   cases q2:(l.take k).any fun y=>wJ y.name g.name with
   | true =>
    simp only [q2] at h3;rw [fin 5 (by rw [hga,if_neg q1',if_pos q2]) (by decide)];repeat' first|((with_reducible refine qq3 ?_);refine ah.call h1 rfl rfl ?_)|((with_reducible refine qq3 ?_);refine ah.call h2 rfl rfl ?_)|((with_reducible refine qq3 ?_);refine ah.call h4 rfl rfl ?_)|refine u1 ?_|((with_reducible refine qq4 ?_);refine ⟨bE g,⟨by omega,hat⟩,rfl,?_⟩)|(refine ⟨0,k,rfl,rfl,hkl,(by decide),hel,?_⟩)|((with_reducible refine qq3 ?_);refine ah.tH (h3 _) (Fq.deep rfl) (eJ.cons (Fq.deep rfl) (eJ.cons (eJ.Ji eJ.nil (eJ.cons (Fq.deep rfl) (eJ.cons (Fq.ptr rfl rfl) eJ.nil))) eJ.nil)) (m7.fl _) ?_)|refine u2 ?_|fail
    exact ⟨[_,_],⟨Fz.deep rfl,Fz.deep rfl,trivial⟩,rfl⟩
   | false =>
    simp only [q2] at h3;have q2':¬ ((l.take k).any fun y=>wJ y.name g.name)=true:=by rw [q2];simp
    have hv:cT eZ.name dB l k=dB g:=by rw [hga,if_neg q1',if_neg q2']
    generalize dB g=v at *
    cases q3:decide (v=0) with
    | false =>
     have d3:(!decide (v=0))=true:=by rw [q3];rfl
     rw [fin v hv (of_decide_eq_false q3)];repeat' first|((with_reducible refine qq3 ?_);refine ah.call h1 rfl rfl ?_)|((with_reducible refine qq3 ?_);refine ah.call h2 rfl rfl ?_)|((with_reducible refine qq3 ?_);refine ah.call h4 rfl rfl ?_)|refine u1 ?_|((with_reducible refine qq4 ?_);refine ⟨bE g,⟨by omega,hat⟩,rfl,?_⟩)|(refine ⟨0,k,rfl,rfl,hkl,(by decide),hel,?_⟩)|((with_reducible refine qq3 ?_);refine ah.tH (h3 _) (Fq.deep rfl) (eJ.cons (Fq.deep rfl) (eJ.cons (eJ.Ji eJ.nil (eJ.cons (Fq.deep rfl) (eJ.cons (Fq.ptr rfl rfl) eJ.nil))) eJ.nil)) (m7.fl _) ?_)|refine u2 ?_|fail
     exact ⟨[_,_],⟨Fz.deep rfl,Fz.deep rfl,trivial⟩,rfl⟩
    | true =>
     have d3:(!decide (v=0))=false:=by rw [q3];rfl
     have e0:cT eZ.name dB l k=0:=hv.trans (of_decide_eq_true q3);repeat' first|((with_reducible refine qq3 ?_);refine ah.call h1 rfl rfl ?_)|((with_reducible refine qq3 ?_);refine ah.call h2 rfl rfl ?_)|((with_reducible refine qq3 ?_);refine ah.call h4 rfl rfl ?_)|refine u1 ?_|((with_reducible refine qq4 ?_);refine ⟨bE g,⟨by omega,hat⟩,rfl,?_⟩)|(refine ⟨0,k,rfl,rfl,hkl,(by decide),hel,?_⟩)|((with_reducible refine qq3 ?_);refine ah.tH (h3 _) (Fq.deep rfl) (eJ.cons (Fq.deep rfl) (eJ.cons (eJ.Ji eJ.nil (eJ.cons (Fq.deep rfl) (eJ.cons (Fq.ptr rfl rfl) eJ.nil))) eJ.nil)) (m7.fl _) ?_)|refine u2 ?_|fail
     refine ⟨k+1,⟨hlt,fun i hi=>?_⟩,(by dsimp only;omega),ak.to 0 rfl ⟨rfl,rfl,rfl,rfl,rfl,aH (by simp),trivial⟩ (qq5 _) rfl rfl⟩;by_cases hik:i=k
     ·subst hik;exact e0
     ·exact hprev i (by omega)
 ·have d1:decide ((k:Int) < n)=false:=decide_eq_false (by omega);rw [kX (fun i hi=>hprev i (by omega))];repeat' first|refine u1 ?_|refine u2 ?_|fail
  exact ⟨[_,_],⟨Fz.deep rfl,Fz.deep rfl,trivial⟩,rfl⟩
theorem Em (one:Bool) (c:aP) (hc:c.aB.length≤maxLen) (l:List m8) (hl:l.length≤maxLen) (hn:∀ x ∈ l,x.name.data.toList.length≤maxLen):Pu one 55 [.sl (l.map bS) false,.fn 56 [] [],.fn 57 [] [.pt (aD c) 0]] (.tp [af (cL l.length (cT m8.name (e9 c.aB.length) l)).1,af (cL l.length (cT m8.name (e9 c.aB.length) l)).2]):=by
 have ml:l.length≤9223372036854775807:=Nat.le_trans hl (by simp [maxLen]);have eg:((l.map bS).length:Int)=l.length:=by simp
 obtain ⟨n,hnn⟩:∃ n:Int,n=l.length:=⟨_,rfl⟩;refine ah.body (fn:=Tryz.f55) rfl rfl rfl rfl ?_;refine qq1 ?_;repeat' first|refine u1 ?_|refine u2 ?_|fail
 refine ay.aN (ak.to (l:=[(0,.sl (l.map bS) false),(2,.fn 57 [] [.pt (aD c) 0]),(4,.pt [.fn 56 [] []] 0),(12,.sl (l.map bS) false),(13,af n),(14,af (0:Nat))]) (hp:=[]) 0 rfl ⟨rfl,rfl,rfl,rfl,aH (by rw [hnn];exact eg),rfl,trivial⟩ (qq5 _) rfl rfl) ?_;refine ay.loop (fun k:Nat=>k≤l.length∧∀ i,i < k→cT m8.name (e9 c.aB.length) l i=0) (fun k=>⟨aT [(0,.sl (l.map bS) false),(2,.fn 57 [] [.pt (aD c) 0]),(4,.pt [.fn 56 [] []] 0),(12,.sl (l.map bS) false),(13,af n),(14,af (k:Nat))],[],bJ.none,false,0⟩) (fun k=>l.length - k) ?_ 0 ⟨qq5 _,fun i hi=>absurd hi (Nat.not_lt_zero _)⟩;rintro k ⟨hk,hprev⟩;refine qq1 ?_;by_cases hlt:k < l.length
 ·have d1:decide ((k:Int) < n)=true:=decide_eq_true (by omega);have hat:(l.map bS)[((k:Nat):Int).toNat]?=some (bS l[k]):=dm hlt;have hga:cT m8.name (e9 c.aB.length) l k=if ig l[k].name=false then 6 else if ((l.take k).any fun y=>wJ y.name l[k].name)=true then 5 else (e9 c.aB.length) l[k]:=by unfold cT;rw [List.getElem?_eq_getElem hlt]
  have h1:=Bi one l[k];have h2:=F0 one l[k].name (hn _ (List.getElem_mem hlt));have h4:=H8 one c hc l[k];have h3:∀ f,Pu one 100 [.sl ((l.take k).map bS) f,.fn 101 [] [.pt [.fn 56 [] []] 0,.pt [ST l[k].name] 0]] (BB ((l.take k).any fun y=>wJ y.name l[k].name)):=fun f=>rj one 101 [] _ rfl (fun y=>wJ y.name l[k].name) (l.take k) f (by rw [List.length_take];omega) (fun x _=>Ek one l[k].name x);have hsl:((l.map bS).drop 0).take (k - 0)=(l.take k).map bS:=by rw [List.drop_zero,Nat.sub_zero,List.map_take]
  rw [←hsl] at h3;have hkl:0≤k∧k≤(l.map bS).length:=⟨qq5 _,by rw [List.length_map];omega⟩;have hel:∀ el ∈ l.map bS,el.length=4:=fun el hel=>by obtain ⟨x,_,rfl⟩:=List.mem_map.1 hel;rfl
  have fin:∀ v,cT m8.name (e9 c.aB.length) l k=v→v ≠ 0→cL l.length (cT m8.name (e9 c.aB.length) l)=((k:Int),v):=fun v e hv=>by rw [kW hlt hprev (by rw [e];exact hv),e]
  generalize l[k]=g at *
  cases q1:ig g.name with
  | false =>
   rw [q1] at h2;rw [fin 6 (by rw [hga,if_pos q1]) (by decide)];repeat' first|((with_reducible refine qq3 ?_);refine ah.call h1 rfl rfl ?_)|((with_reducible refine qq3 ?_);refine ah.call h2 rfl rfl ?_)|((with_reducible refine qq3 ?_);refine ah.call h4 rfl rfl ?_)|refine u1 ?_|((with_reducible refine qq4 ?_);refine ⟨bS g,⟨by omega,hat⟩,rfl,?_⟩)|(refine ⟨0,k,rfl,rfl,hkl,(by decide),hel,?_⟩)|((with_reducible refine qq3 ?_);refine ah.tH (h3 _) (Fq.deep rfl) (eJ.cons (Fq.deep rfl) (eJ.cons (eJ.Ji eJ.nil (eJ.cons (Fq.deep rfl) (eJ.cons (Fq.ptr rfl rfl) eJ.nil))) eJ.nil)) (m7.fl _) ?_)|refine u2 ?_|fail
   exact ⟨[_,_],⟨Fz.deep rfl,Fz.deep rfl,trivial⟩,rfl⟩
  | true =>
   rw [q1] at h2;have q1':¬ ig g.name=false:=by rw [q1];simp
   cases q2:(l.take k).any fun y=>wJ y.name g.name with
   | true =>
    simp only [q2] at h3;rw [fin 5 (by rw [hga,if_neg q1',if_pos q2]) (by decide)];repeat' first|((with_reducible refine qq3 ?_);refine ah.call h1 rfl rfl ?_)|((with_reducible refine qq3 ?_);refine ah.call h2 rfl rfl ?_)|((with_reducible refine qq3 ?_);refine ah.call h4 rfl rfl ?_)|refine u1 ?_|((with_reducible refine qq4 ?_);refine ⟨bS g,⟨by omega,hat⟩,rfl,?_⟩)|(refine ⟨0,k,rfl,rfl,hkl,(by decide),hel,?_⟩)|((with_reducible refine qq3 ?_);refine ah.tH (h3 _) (Fq.deep rfl) (eJ.cons (Fq.deep rfl) (eJ.cons (eJ.Ji eJ.nil (eJ.cons (Fq.deep rfl) (eJ.cons (Fq.ptr rfl rfl) eJ.nil))) eJ.nil)) (m7.fl _) ?_)|refine u2 ?_|fail
    exact ⟨[_,_],⟨Fz.deep rfl,Fz.deep rfl,trivial⟩,rfl⟩
   | false =>
    simp only [q2] at h3;have q2':¬ ((l.take k).any fun y=>wJ y.name g.name)=true:=by rw [q2];simp
    have hv:cT m8.name (e9 c.aB.length) l k=(e9 c.aB.length) g:=by rw [hga,if_neg q1',if_neg q2']
    generalize (e9 c.aB.length) g=v at *
    cases q3:decide (v=0) with
    | false =>
     have d3:(!decide (v=0))=true:=by rw [q3];rfl
     rw [fin v hv (of_decide_eq_false q3)];repeat' first|((with_reducible refine qq3 ?_);refine ah.call h1 rfl rfl ?_)|((with_reducible refine qq3 ?_);refine ah.call h2 rfl rfl ?_)|((with_reducible refine qq3 ?_);refine ah.call h4 rfl rfl ?_)|refine u1 ?_|((with_reducible refine qq4 ?_);refine ⟨bS g,⟨by omega,hat⟩,rfl,?_⟩)|(refine ⟨0,k,rfl,rfl,hkl,(by decide),hel,?_⟩)|((with_reducible refine qq3 ?_);refine ah.tH (h3 _) (Fq.deep rfl) (eJ.cons (Fq.deep rfl) (eJ.cons (eJ.Ji eJ.nil (eJ.cons (Fq.deep rfl) (eJ.cons (Fq.ptr rfl rfl) eJ.nil))) eJ.nil)) (m7.fl _) ?_)|refine u2 ?_|fail
     exact ⟨[_,_],⟨Fz.deep rfl,Fz.deep rfl,trivial⟩,rfl⟩
    | true =>
     have d3:(!decide (v=0))=false:=by rw [q3];rfl
     have e0:cT m8.name (e9 c.aB.length) l k=0:=hv.trans (of_decide_eq_true q3);repeat' first|((with_reducible refine qq3 ?_);refine ah.call h1 rfl rfl ?_)|((with_reducible refine qq3 ?_);refine ah.call h2 rfl rfl ?_)|((with_reducible refine qq3 ?_);refine ah.call h4 rfl rfl ?_)|refine u1 ?_|((with_reducible refine qq4 ?_);refine ⟨bS g,⟨by omega,hat⟩,rfl,?_⟩)|(refine ⟨0,k,rfl,rfl,hkl,(by decide),hel,?_⟩)|((with_reducible refine qq3 ?_);refine ah.tH (h3 _) (Fq.deep rfl) (eJ.cons (Fq.deep rfl) (eJ.cons (eJ.Ji eJ.nil (eJ.cons (Fq.deep rfl) (eJ.cons (Fq.ptr rfl rfl) eJ.nil))) eJ.nil)) (m7.fl _) ?_)|refine u2 ?_|fail
     refine ⟨k+1,⟨hlt,fun i hi=>?_⟩,(by dsimp only;omega),ak.to 0 rfl ⟨rfl,rfl,rfl,rfl,rfl,aH (by simp),trivial⟩ (qq5 _) rfl rfl⟩;by_cases hik:i=k
     ·subst hik;exact e0
     ·exact hprev i (by omega)
 ·have d1:decide ((k:Int) < n)=false:=decide_eq_false (by omega);rw [kX (fun i hi=>hprev i (by omega))];repeat' first|refine u1 ?_|refine u2 ?_|fail
  exact ⟨[_,_],⟨Fz.deep rfl,Fz.deep rfl,trivial⟩,rfl⟩
end Go.Proofs.YtlpmfgmldmdggaaGreat
open Go Go.RM
namespace Go.Proofs.YtlpmfgmldmdggaaGreat
set_option maxRecDepth 100000
set_option maxHeartbeats 4000000
structure aP.Ok (c:aP):Prop where
 aB:c.aB.length≤maxLen
 F6:∀ x ∈ c.aB,x.name.data.toList.length≤maxLen
 aA:c.aA.length≤maxLen
 F7:∀ x ∈ c.aA,x.name.data.toList.length≤maxLen
def F8 (c:aP):Nat→Int:=cT eZ.name dB c.aB
def Dh (c:aP):Nat→Int:=cT m8.name (e9 c.aB.length) c.aA
def oG (c:aP):Int × Int × Int :=
 if (fU 1 3 [(c.aB.length:Int)] || fU 1 5 [(c.aA.length:Int)])=true then (1,0,3)
 else if fU 0 5 [c.least]=true then (1,0,7)
 else if (cL c.aB.length (F8 c)).2 ≠ 0 then (2,(cL c.aB.length (F8 c)).1,(cL c.aB.length (F8 c)).2)
 else if (cL c.aA.length (Dh c)).2 ≠ 0 then (3,(cL c.aA.length (Dh c)).1,(cL c.aA.length (Dh c)).2)
 else (0,0,0)
theorem H9 (one:Bool) (c:aP) (h:c.Ok):Pu one 16 [.ag (aD c)] (.tp [af (oG c).1,af (oG c).2.1,af (oG c).2.2]):=by
 have eg:((c.aB.map bE).length:Int)=c.aB.length:=by simp
 have em:((c.aA.map bS).length:Int)=c.aA.length:=by simp
 have o1:=jE one 1 3 ((c.aB.map bE).length:Int);have o2:=jE one 1 5 ((c.aA.map bS).length:Int);have o3:=jE one 0 5 c.least;have n1:=El one c.aB h.aB h.F6;have n2:=Em one c h.aB c.aA h.aA h.F7;rw [eg] at o1;rw [em] at o2;unfold oG
 cases e1:fU 1 3 [(c.aB.length:Int)] with
 | true =>
  rw [e1,←eg] at o1;rw [if_pos (by rfl)];refine ah.body (fn:=Tryz.f16) rfl rfl rfl rfl ?_;refine qq1 ?_;repeat' first|refine u1 ?_|((with_reducible refine qq3 ?_);refine ah.call o1 rfl rfl ?_)|((with_reducible refine qq3 ?_);refine ah.call o2 rfl rfl ?_)|((with_reducible refine qq3 ?_);refine ah.call o3 rfl rfl ?_)|((with_reducible refine qq3 ?_);refine ah.call n1 rfl rfl ?_)|((with_reducible refine qq3 ?_);refine ah.call n2 rfl rfl ?_)|refine u2 ?_|fail
  exact ⟨[_,_,_],⟨Fz.deep rfl,Fz.deep rfl,Fz.deep rfl,trivial⟩,rfl⟩
 | false =>
  rw [e1,←eg] at o1
  cases e2:fU 1 5 [(c.aA.length:Int)] with
  | true =>
   rw [e2,←em] at o2;rw [if_pos (by rfl)];refine ah.body (fn:=Tryz.f16) rfl rfl rfl rfl ?_;refine qq1 ?_;repeat' first|refine u1 ?_|((with_reducible refine qq3 ?_);refine ah.call o1 rfl rfl ?_)|((with_reducible refine qq3 ?_);refine ah.call o2 rfl rfl ?_)|((with_reducible refine qq3 ?_);refine ah.call o3 rfl rfl ?_)|((with_reducible refine qq3 ?_);refine ah.call n1 rfl rfl ?_)|((with_reducible refine qq3 ?_);refine ah.call n2 rfl rfl ?_)|refine u2 ?_|fail
   exact ⟨[_,_,_],⟨Fz.deep rfl,Fz.deep rfl,Fz.deep rfl,trivial⟩,rfl⟩
  | false =>
   rw [e2,←em] at o2;rw [if_neg (by simp)]
   cases e3:fU 0 5 [c.least] with
   | true =>
    rw [e3] at o3;rw [if_pos (by rfl)];refine ah.body (fn:=Tryz.f16) rfl rfl rfl rfl ?_;refine qq1 ?_;repeat' first|refine u1 ?_|((with_reducible refine qq3 ?_);refine ah.call o1 rfl rfl ?_)|((with_reducible refine qq3 ?_);refine ah.call o2 rfl rfl ?_)|((with_reducible refine qq3 ?_);refine ah.call o3 rfl rfl ?_)|((with_reducible refine qq3 ?_);refine ah.call n1 rfl rfl ?_)|((with_reducible refine qq3 ?_);refine ah.call n2 rfl rfl ?_)|refine u2 ?_|fail
    exact ⟨[_,_,_],⟨Fz.deep rfl,Fz.deep rfl,Fz.deep rfl,trivial⟩,rfl⟩
   | false =>
    rw [e3] at o3;rw [if_neg (by simp)];unfold F8 Dh
    generalize cL c.aB.length (cT eZ.name dB c.aB)=x at *
    generalize cL c.aA.length (cT m8.name (e9 c.aB.length) c.aA)=y at *
    obtain ⟨x1,x2⟩:=x;obtain ⟨y1,y2⟩:=y
    dsimp only at *
    cases e4:decide (x2=0) with
    | false =>
     have d4:(!decide (x2=0))=true:=by rw [e4];rfl
     rw [if_pos (of_decide_eq_false e4)];refine ah.body (fn:=Tryz.f16) rfl rfl rfl rfl ?_;refine qq1 ?_;repeat' first|refine u1 ?_|((with_reducible refine qq3 ?_);refine ah.call o1 rfl rfl ?_)|((with_reducible refine qq3 ?_);refine ah.call o2 rfl rfl ?_)|((with_reducible refine qq3 ?_);refine ah.call o3 rfl rfl ?_)|((with_reducible refine qq3 ?_);refine ah.call n1 rfl rfl ?_)|((with_reducible refine qq3 ?_);refine ah.call n2 rfl rfl ?_)|refine u2 ?_|fail
     exact ⟨[_,_,_],⟨Fz.deep rfl,Fz.deep rfl,Fz.deep rfl,trivial⟩,rfl⟩
    | true =>
     have d4:(!decide (x2=0))=false:=by rw [e4];rfl
     rw [if_neg (fun hh=>hh (of_decide_eq_true e4))]
     cases e5:decide (y2=0) with
     | false =>
      have d5:(!decide (y2=0))=true:=by rw [e5];rfl
      rw [if_pos (of_decide_eq_false e5)];refine ah.body (fn:=Tryz.f16) rfl rfl rfl rfl ?_;refine qq1 ?_;repeat' first|refine u1 ?_|((with_reducible refine qq3 ?_);refine ah.call o1 rfl rfl ?_)|((with_reducible refine qq3 ?_);refine ah.call o2 rfl rfl ?_)|((with_reducible refine qq3 ?_);refine ah.call o3 rfl rfl ?_)|((with_reducible refine qq3 ?_);refine ah.call n1 rfl rfl ?_)|((with_reducible refine qq3 ?_);refine ah.call n2 rfl rfl ?_)|refine u2 ?_|fail
      exact ⟨[_,_,_],⟨Fz.deep rfl,Fz.deep rfl,Fz.deep rfl,trivial⟩,rfl⟩
     | true =>
      have d5:(!decide (y2=0))=false:=by rw [e5];rfl
      rw [if_neg (fun hh=>hh (of_decide_eq_true e5))];refine ah.body (fn:=Tryz.f16) rfl rfl rfl rfl ?_;refine qq1 ?_;repeat' first|refine u1 ?_|((with_reducible refine qq3 ?_);refine ah.call o1 rfl rfl ?_)|((with_reducible refine qq3 ?_);refine ah.call o2 rfl rfl ?_)|((with_reducible refine qq3 ?_);refine ah.call o3 rfl rfl ?_)|((with_reducible refine qq3 ?_);refine ah.call n1 rfl rfl ?_)|((with_reducible refine qq3 ?_);refine ah.call n2 rfl rfl ?_)|refine u2 ?_|fail
      exact ⟨[_,_,_],⟨Fz.deep rfl,Fz.deep rfl,Fz.deep rfl,trivial⟩,rfl⟩
