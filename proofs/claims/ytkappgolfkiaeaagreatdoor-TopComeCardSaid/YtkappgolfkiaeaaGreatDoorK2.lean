/-
  Contracts of the program's functions and of the document's. Lemmas alone; their conditions stand in them.
-/
import Derived.Test.YtkappgolfkiaeaaGreatDoorK1
open Go Go.RM
namespace Go.Proofs.YtkappgolfkiaeaaGreatDoor
set_option maxRecDepth 100000
set_option maxHeartbeats 4000000
theorem PY (one:Bool) (lo hi:Int) (l:List Int) (h:l.length≤maxLen):Pu one 72 [av lo,av hi,.sl (l.map eI) true] (BB (bS lo hi l)):=by have:=iy one lo hi (l.map eI) true (by rw [List.all_map,List.all_eq_true];intro x _;rfl) (by simpa using h);rw [show (l.map eI).map I3=l by rw [List.map_map];exact List.map_id _] at this;exact this
theorem jx (one:Bool) (lo hi a:Int):Pu one 72 [av lo,av hi,.sl [eI a] true] (BB (bS lo hi [a])):=PY one lo hi [a] (by simp [maxLen])
theorem cY {lo hi a:Int} (h:bS lo hi [a]=false):lo≤a∧a≤hi:=by
 rw [aX] at h
 have h2:iC a lo hi=true:=by cases e:iC a lo hi with|true=>rfl|false=>rw [e] at h;cases h
 exact dA.1 h2
def qq (l:List Int) (i:Nat):Int:=if i=0 then -1 else l.getD (i - 1) 0
def gh (l:List Int) (many below:Int) (i:Nat):Int :=
 if bS 0 (many - 1) [l.getD i 0]=true then below else if l.getD i 0≤qq l i then 2 else 0
theorem I6 (one:Bool) (l:List Int) (full:Bool) (many below:Int) (hl:l.length≤maxLen) (hm:-9223372036854775807≤many∧many≤9223372036854775807) (hb:below ≠ 0) :
  Pu one 90 [.sl (ints l) full,av many,av below] (.tp [av (bx l.length (gh l many below)).1,av (bx l.length (gh l many below)).2]):=by
 have ml:l.length≤9223372036854775807:=Nat.le_trans hl (by simp [maxLen]);have eg:((ints l).length:Int)=l.length:=by simp
 obtain ⟨n,hn⟩:∃ n:Int,n=l.length:=⟨_,rfl⟩;refine af.body (fn:=Tryz.f90) rfl rfl rfl rfl ?_;refine qq1 ?_;repeat' first|refine u1 ?_|refine u2 ?_|fail
 refine aE.aS (ai.to (l:=[(1,av many),(2,av below),(8,av (qq l 0)),(11,.sl (ints l) full),(12,av n),(13,av (0:Nat))]) (hp:=[]) 0 rfl ⟨rfl,rfl,rfl,rfl,aJ (by rw [hn];exact eg),rfl,trivial⟩ (qq5 _) rfl rfl) ?_;refine aE.loop (fun k:Nat=>k≤l.length∧∀ i,i < k→gh l many below i=0) (fun k=>⟨bA [(1,av many),(2,av below),(8,av (qq l k)),(11,.sl (ints l) full),(12,av n),(13,av (k:Nat))],[],cz.none,false,0⟩) (fun k=>l.length - k) ?_ 0 ⟨qq5 _,fun i hi=>absurd hi (Nat.not_lt_zero _)⟩;rintro k ⟨hk,hprev⟩;refine qq1 ?_;by_cases hlt:k < l.length
 ·have d1:decide ((k:Int) < n)=true:=decide_eq_true (by omega);have hat:(ints l)[((k:Nat):Int).toNat]?=some (eI l[k]):=bI hlt;have hg:l.getD k 0=l[k]:=by simp [List.getD,hlt]
  have hp:qq l (k+1)=l[k]:=by unfold qq;rw [if_neg (by omega),Nat.add_sub_cancel,hg]
  have hm1:-9223372036854775808≤many - 1∧many - 1≤9223372036854775807:=by omega
  have o1:=jx one 0 (many - 1) l[k];have hA:gh l many below k=if bS 0 (many - 1) [l[k]]=true then below else if l[k]≤qq l k then 2 else 0:=by unfold gh;rw [hg]
  have fin:∀ v,gh l many below k=v→v ≠ 0→bx l.length (gh l many below)=((k:Int),v):=fun v e hv=>by rw [eO hlt hprev (by rw [e];exact hv),e]
  generalize l[k]=g at *
  generalize qq l k=p at *
  cases q1:bS 0 (many - 1) [g] with
  | true =>
   rw [q1] at o1;rw [fin below (by rw [hA,if_pos q1]) hb];repeat' first|((with_reducible refine qq3 ?_);refine af.call o1 rfl rfl ?_)|refine u1 ?_|((with_reducible refine qq4 ?_);refine ⟨eI g,⟨by omega,hat⟩,rfl,?_⟩)|refine u2 ?_|fail
   exact ⟨[_,_],⟨Fz.deep rfl,Fz.deep rfl,trivial⟩,rfl⟩
  | false =>
   rw [q1] at o1
   cases q2:decide (g≤p) with
   | true =>
    rw [fin 2 (by rw [hA,if_neg (by rw [q1];simp),if_pos (of_decide_eq_true q2)]) (by decide)];repeat' first|((with_reducible refine qq3 ?_);refine af.call o1 rfl rfl ?_)|refine u1 ?_|((with_reducible refine qq4 ?_);refine ⟨eI g,⟨by omega,hat⟩,rfl,?_⟩)|refine u2 ?_|fail
    exact ⟨[_,_],⟨Fz.deep rfl,Fz.deep rfl,trivial⟩,rfl⟩
   | false =>
    have e0:gh l many below k=0:=by rw [hA,if_neg (by rw [q1];simp),if_neg (of_decide_eq_false q2)]
    repeat' first|((with_reducible refine qq3 ?_);refine af.call o1 rfl rfl ?_)|refine u1 ?_|((with_reducible refine qq4 ?_);refine ⟨eI g,⟨by omega,hat⟩,rfl,?_⟩)|refine u2 ?_|fail
    refine ⟨k+1,⟨hlt,fun i hi=>?_⟩,(by dsimp only;omega),ai.to 0 rfl ⟨rfl,rfl,aJ hp.symm,rfl,rfl,aJ (by simp),trivial⟩ (qq5 _) rfl rfl⟩;by_cases hik:i=k
    ·rw [hik];exact e0
    ·exact hprev i (by omega)
 ·have hke:k=l.length:=by omega
  have d1:decide ((k:Int) < n)=false:=decide_eq_false (by omega);rw [cu (fun i hi=>hprev i (by omega))];repeat' first|refine u1 ?_|refine u2 ?_|fail
  exact ⟨[_,_],⟨Fz.deep rfl,Fz.deep rfl,trivial⟩,rfl⟩
theorem w8 (one:Bool) (k x:hH):af TT TB one (.fn 120 [] [.pt (aU k) 0]) [.ag (aU x)] (BB (vl x.name k.name)):=by
 refine af.body (fn:=Tryz.f120) rfl rfl rfl rfl ?_;refine qq1 ?_;repeat' first|refine u1 ?_|refine u2 ?_|fail
 exact ⟨[_],⟨Fz.deep rfl,trivial⟩,rfl⟩
def fV (x:hH) (before:List hH):Int :=
 if i6 x.name=false then 6
 else if (before.any fun y=>vl y.name x.name)=true then 5
 else if (bS 1 60 [x.full] || bS 0 x.full [x.first] || bS 1 30 [x.weight])=true then 7
 else 0
def dP (s:aC) (i:Nat):Int:=match s.needs[i]? with
 | some x=>fV x (s.needs.take i)
 | none=>0
def cR (s:aC):Bool:=bS 1 60 [s.days] || bS 1 30 [s.load] || bS 0 8 [s.fail] || bS 1 8 [s.row]
def gv (s:aC):Int × Int × Int :=
 if cR s=true then (1,0,7)
 else if bS 1 3 [(s.needs.length:Int)]=true then (2,0,3)
 else if (bx s.needs.length (dP s)).2 ≠ 0 then (2,(bx s.needs.length (dP s)).1,(bx s.needs.length (dP s)).2)
 else if 6 < s.possible.length then (3,0,3)
 else if (bx s.possible.length (gh s.possible s.days 7)).2 ≠ 0 then (3,(bx s.possible.length (gh s.possible s.days 7)).1,(bx s.possible.length (gh s.possible s.days 7)).2)
 else (0,0,0)
structure aC.Ok (s:aC):Prop where
 needs:s.needs.length≤maxLen
 names:∀ x ∈ s.needs,x.name.data.toList.length≤maxLen
 possible:s.possible.length≤maxLen
theorem jH {s:aC} (h:cR s=true):gv s=(1,0,7):=by unfold gv;rw [if_pos h]
theorem CQ {s:aC} (h:cR s=false) (h1:bS 1 3 [(s.needs.length:Int)]=true):gv s=(2,0,3):=by unfold gv;rw [if_neg (by rw [h];simp),if_pos h1]
theorem Es {s:aC} (h:cR s=false) (h1:bS 1 3 [(s.needs.length:Int)]=false) {k:Nat} {v:Int} (hk:k < s.needs.length) (hprev:∀ i,i < k→dP s i=0) (hv:dP s k=v) (h0:v ≠ 0):gv s=(2,(k:Int),v):=by unfold gv;rw [if_neg (by rw [h];simp),if_neg (by rw [h1];simp),eO hk hprev (by rw [hv];exact h0),hv,if_pos h0]
theorem CR {s:aC} (h:cR s=false) (h1:bS 1 3 [(s.needs.length:Int)]=false) (hprev:∀ i,i < s.needs.length→dP s i=0) (h2:6 < s.possible.length):gv s=(3,0,3):=by unfold gv;rw [if_neg (by rw [h];simp),if_neg (by rw [h1];simp),cu hprev,if_neg (by simp),if_pos h2]
theorem w9 {s:aC} (h:cR s=false) (h1:bS 1 3 [(s.needs.length:Int)]=false) (hprev:∀ i,i < s.needs.length→dP s i=0) (h2:¬ 6 < s.possible.length) :
  gv s=if (bx s.possible.length (gh s.possible s.days 7)).2 ≠ 0 then (3,(bx s.possible.length (gh s.possible s.days 7)).1,(bx s.possible.length (gh s.possible s.days 7)).2) else (0,0,0):=by
 unfold gv;rw [if_neg (by rw [h];simp),if_neg (by rw [h1];simp),cu hprev,if_neg (by simp),if_neg h2]
theorem A3 (one:Bool) (s:aC) (h:s.Ok):Pu one 79 [.ag (aH s)] (.tp [av (gv s).1,av (gv s).2.1,av (gv s).2.2]):=by
 have eg:((s.needs.map aU).length:Int)=s.needs.length:=by simp
 have o1:=jx one 1 60 s.days;have o2:=jx one 1 30 s.load;have o3:=jx one 0 8 s.fail;have o4:=jx one 1 8 s.row;have o5:=jx one 1 3 ((s.needs.map aU).length:Int);rw [eg] at o5
 cases e1:bS 1 60 [s.days] with
 | true =>
  rw [e1] at o1;rw [jH (by unfold cR;rw [e1];simp)];refine af.body (fn:=Tryz.f79) rfl rfl rfl rfl ?_;refine qq1 ?_;repeat' first|refine u1 ?_|((with_reducible refine qq3 ?_);refine af.call o1 rfl rfl ?_)|refine u2 ?_|fail
  exact ⟨[_,_,_],⟨Fz.deep rfl,Fz.deep rfl,Fz.deep rfl,trivial⟩,rfl⟩
 | false =>
  rw [e1] at o1
  cases e2:bS 1 30 [s.load] with
  | true =>
   rw [e2] at o2;rw [jH (by unfold cR;rw [e1,e2];simp)];refine af.body (fn:=Tryz.f79) rfl rfl rfl rfl ?_;refine qq1 ?_;repeat' first|refine u1 ?_|((with_reducible refine qq3 ?_);refine af.call o1 rfl rfl ?_)|((with_reducible refine qq3 ?_);refine af.call o2 rfl rfl ?_)|refine u2 ?_|fail
   exact ⟨[_,_,_],⟨Fz.deep rfl,Fz.deep rfl,Fz.deep rfl,trivial⟩,rfl⟩
  | false =>
   rw [e2] at o2
   cases e3:bS 0 8 [s.fail] with
   | true =>
    rw [e3] at o3;rw [jH (by unfold cR;rw [e1,e2,e3];simp)];refine af.body (fn:=Tryz.f79) rfl rfl rfl rfl ?_;refine qq1 ?_;repeat' first|refine u1 ?_|((with_reducible refine qq3 ?_);refine af.call o1 rfl rfl ?_)|((with_reducible refine qq3 ?_);refine af.call o2 rfl rfl ?_)|((with_reducible refine qq3 ?_);refine af.call o3 rfl rfl ?_)|refine u2 ?_|fail
    exact ⟨[_,_,_],⟨Fz.deep rfl,Fz.deep rfl,Fz.deep rfl,trivial⟩,rfl⟩
   | false =>
    rw [e3] at o3
    cases e4:bS 1 8 [s.row] with
    | true =>
     rw [e4] at o4;rw [jH (by unfold cR;rw [e1,e2,e3,e4];simp)];refine af.body (fn:=Tryz.f79) rfl rfl rfl rfl ?_;refine qq1 ?_;repeat' first|refine u1 ?_|((with_reducible refine qq3 ?_);refine af.call o1 rfl rfl ?_)|((with_reducible refine qq3 ?_);refine af.call o2 rfl rfl ?_)|((with_reducible refine qq3 ?_);refine af.call o3 rfl rfl ?_)|((with_reducible refine qq3 ?_);refine af.call o4 rfl rfl ?_)|refine u2 ?_|fail
     exact ⟨[_,_,_],⟨Fz.deep rfl,Fz.deep rfl,Fz.deep rfl,trivial⟩,rfl⟩
    | false =>
     rw [e4] at o4;have hb:cR s=false:=by unfold cR;rw [e1,e2,e3,e4];rfl
     cases e5:bS 1 3 [(s.needs.length:Int)] with
     | true =>
      rw [CQ hb e5];rw [e5,←eg] at o5;refine af.body (fn:=Tryz.f79) rfl rfl rfl rfl ?_;refine qq1 ?_;repeat' first|refine u1 ?_|((with_reducible refine qq3 ?_);refine af.call o1 rfl rfl ?_)|((with_reducible refine qq3 ?_);refine af.call o2 rfl rfl ?_)|((with_reducible refine qq3 ?_);refine af.call o3 rfl rfl ?_)|((with_reducible refine qq3 ?_);refine af.call o4 rfl rfl ?_)|((with_reducible refine qq3 ?_);refine af.call o5 rfl rfl ?_)|refine u2 ?_|fail
      exact ⟨[_,_,_],⟨Fz.deep rfl,Fz.deep rfl,Fz.deep rfl,trivial⟩,rfl⟩
     | false =>
      rw [e5,←eg] at o5;have hn3:s.needs.length≤3:=by have:=cY e5;omega
      obtain ⟨n,hn⟩:∃ n:Int,n=s.needs.length:=⟨_,rfl⟩;refine af.body (fn:=Tryz.f79) rfl rfl rfl rfl ?_;refine qq1 ?_;repeat' first|refine u1 ?_|((with_reducible refine qq3 ?_);refine af.call o1 rfl rfl ?_)|((with_reducible refine qq3 ?_);refine af.call o2 rfl rfl ?_)|((with_reducible refine qq3 ?_);refine af.call o3 rfl rfl ?_)|((with_reducible refine qq3 ?_);refine af.call o4 rfl rfl ?_)|((with_reducible refine qq3 ?_);refine af.call o5 rfl rfl ?_)|refine u2 ?_|fail
      refine aE.aS (ai.to (l:=[(1,.pt (aH s) 0),(37,.sl (s.needs.map aU) false),(38,av n),(39,av (0:Nat))]) (hp:=[]) 0 rfl ⟨rfl,rfl,aJ (by rw [hn];exact eg),rfl,trivial⟩ (qq5 _) rfl rfl) ?_;refine aE.loop (fun k:Nat=>k≤s.needs.length∧∀ i,i < k→dP s i=0) (fun k=>⟨bA [(1,.pt (aH s) 0),(37,.sl (s.needs.map aU) false),(38,av n),(39,av (k:Nat))],[],cz.none,false,0⟩) (fun k=>s.needs.length - k) ?_ 0 ⟨qq5 _,fun i hi=>absurd hi (Nat.not_lt_zero _)⟩;rintro k ⟨hk,hprev⟩;refine qq1 ?_;by_cases hlt:k < s.needs.length
      ·have d1:decide ((k:Int) < n)=true:=decide_eq_true (by omega);have hat:(s.needs.map aU)[((k:Nat):Int).toNat]?=some (aU s.needs[k]):=bI hlt;have hga:dP s k=fV s.needs[k] (s.needs.take k):=by unfold dP;rw [List.getElem?_eq_getElem hlt]
       have hnm:=I4 one s.needs[k].name (h.names _ (List.getElem_mem hlt));have hcf:∀ f,Pu one 119 [.sl ((s.needs.take k).map aU) f,.fn 120 [] [.pt (aU s.needs[k]) 0]] (BB ((s.needs.take k).any fun x=>vl x.name s.needs[k].name)):=fun f=>tQ one 120 [] [.pt (aU s.needs[k]) 0] rfl (fun x=>vl x.name s.needs[k].name) (s.needs.take k) f (by simp [maxLen];omega) (fun x _=>w8 one s.needs[k] x);have hsl:((s.needs.map aU).drop 0).take (k - 0)=(s.needs.take k).map aU:=by rw [List.drop_zero,Nat.sub_zero,List.map_take]
       rw [←hsl] at hcf;have hkl:0≤k∧k≤(s.needs.map aU).length:=⟨qq5 _,by rw [List.length_map];omega⟩;have hel4:∀ el ∈ s.needs.map aU,el.length=4:=fun el hel=>by obtain ⟨x,_,rfl⟩:=List.mem_map.1 hel;rfl
       have fin:∀ v,dP s k=v→v ≠ 0→gv s=(2,(k:Int),v):=fun v e hv=>Es hb e5 hlt hprev e hv;have o6:=jx one 1 60 s.needs[k].full;have o7:=jx one 0 s.needs[k].full s.needs[k].first
       have o8:=jx one 1 30 s.needs[k].weight
       generalize s.needs[k]=g at *
       cases q1:i6 g.name with
       | false =>
        rw [q1] at hnm;rw [fin 6 (by rw [hga];unfold fV;rw [if_pos q1]) (by decide)];repeat' first|((with_reducible refine qq3 ?_);refine af.call hnm rfl rfl ?_)|((with_reducible refine qq3 ?_);refine af.call o6 rfl rfl ?_)|((with_reducible refine qq3 ?_);refine af.call o7 rfl rfl ?_)|((with_reducible refine qq3 ?_);refine af.call o8 rfl rfl ?_)|refine u1 ?_|((with_reducible refine qq4 ?_);refine ⟨aU g,⟨by omega,hat⟩,rfl,?_⟩)|(refine ⟨0,k,rfl,rfl,hkl,(by decide),hel4,?_⟩)|((with_reducible refine qq3 ?_);refine af.zq (hcf _) (Fq.deep rfl) (iV.cons (Fq.deep rfl) (iV.cons (iV.RG iV.nil (iV.cons (Fq.ptr rfl rfl) iV.nil)) iV.nil)) (gZ.fl _) ?_)|refine u2 ?_|fail
        exact ⟨[_,_,_],⟨Fz.deep rfl,Fz.deep rfl,Fz.deep rfl,trivial⟩,rfl⟩
       | true =>
        rw [q1] at hnm;have q1':¬ i6 g.name=false:=by rw [q1];simp
        cases q2:(s.needs.take k).any fun x=>vl x.name g.name with
        | true =>
         simp only [q2] at hcf;rw [fin 5 (by rw [hga];unfold fV;rw [if_neg q1',if_pos q2]) (by decide)];repeat' first|((with_reducible refine qq3 ?_);refine af.call hnm rfl rfl ?_)|((with_reducible refine qq3 ?_);refine af.call o6 rfl rfl ?_)|((with_reducible refine qq3 ?_);refine af.call o7 rfl rfl ?_)|((with_reducible refine qq3 ?_);refine af.call o8 rfl rfl ?_)|refine u1 ?_|((with_reducible refine qq4 ?_);refine ⟨aU g,⟨by omega,hat⟩,rfl,?_⟩)|(refine ⟨0,k,rfl,rfl,hkl,(by decide),hel4,?_⟩)|((with_reducible refine qq3 ?_);refine af.zq (hcf _) (Fq.deep rfl) (iV.cons (Fq.deep rfl) (iV.cons (iV.RG iV.nil (iV.cons (Fq.ptr rfl rfl) iV.nil)) iV.nil)) (gZ.fl _) ?_)|refine u2 ?_|fail
         exact ⟨[_,_,_],⟨Fz.deep rfl,Fz.deep rfl,Fz.deep rfl,trivial⟩,rfl⟩
        | false =>
         simp only [q2] at hcf;have q2':¬ ((s.needs.take k).any fun x=>vl x.name g.name)=true:=by rw [q2];simp
         cases q3:bS 1 60 [g.full] with
         | true =>
          rw [q3] at o6;rw [fin 7 (by rw [hga];unfold fV;rw [if_neg q1',if_neg q2',if_pos (by rw [q3];rfl)]) (by decide)];repeat' first|((with_reducible refine qq3 ?_);refine af.call hnm rfl rfl ?_)|((with_reducible refine qq3 ?_);refine af.call o6 rfl rfl ?_)|((with_reducible refine qq3 ?_);refine af.call o7 rfl rfl ?_)|((with_reducible refine qq3 ?_);refine af.call o8 rfl rfl ?_)|refine u1 ?_|((with_reducible refine qq4 ?_);refine ⟨aU g,⟨by omega,hat⟩,rfl,?_⟩)|(refine ⟨0,k,rfl,rfl,hkl,(by decide),hel4,?_⟩)|((with_reducible refine qq3 ?_);refine af.zq (hcf _) (Fq.deep rfl) (iV.cons (Fq.deep rfl) (iV.cons (iV.RG iV.nil (iV.cons (Fq.ptr rfl rfl) iV.nil)) iV.nil)) (gZ.fl _) ?_)|refine u2 ?_|fail
          exact ⟨[_,_,_],⟨Fz.deep rfl,Fz.deep rfl,Fz.deep rfl,trivial⟩,rfl⟩
         | false =>
          rw [q3] at o6
          cases q4:bS 0 g.full [g.first] with
          | true =>
           rw [q4] at o7;rw [fin 7 (by rw [hga];unfold fV;rw [if_neg q1',if_neg q2',if_pos (by rw [q3,q4];rfl)]) (by decide)];repeat' first|((with_reducible refine qq3 ?_);refine af.call hnm rfl rfl ?_)|((with_reducible refine qq3 ?_);refine af.call o6 rfl rfl ?_)|((with_reducible refine qq3 ?_);refine af.call o7 rfl rfl ?_)|((with_reducible refine qq3 ?_);refine af.call o8 rfl rfl ?_)|refine u1 ?_|((with_reducible refine qq4 ?_);refine ⟨aU g,⟨by omega,hat⟩,rfl,?_⟩)|(refine ⟨0,k,rfl,rfl,hkl,(by decide),hel4,?_⟩)|((with_reducible refine qq3 ?_);refine af.zq (hcf _) (Fq.deep rfl) (iV.cons (Fq.deep rfl) (iV.cons (iV.RG iV.nil (iV.cons (Fq.ptr rfl rfl) iV.nil)) iV.nil)) (gZ.fl _) ?_)|refine u2 ?_|fail
           exact ⟨[_,_,_],⟨Fz.deep rfl,Fz.deep rfl,Fz.deep rfl,trivial⟩,rfl⟩
          | false =>
           rw [q4] at o7
           cases q5:bS 1 30 [g.weight] with
           | true =>
            rw [q5] at o8;rw [fin 7 (by rw [hga];unfold fV;rw [if_neg q1',if_neg q2',if_pos (by rw [q3,q4,q5];rfl)]) (by decide)];repeat' first|((with_reducible refine qq3 ?_);refine af.call hnm rfl rfl ?_)|((with_reducible refine qq3 ?_);refine af.call o6 rfl rfl ?_)|((with_reducible refine qq3 ?_);refine af.call o7 rfl rfl ?_)|((with_reducible refine qq3 ?_);refine af.call o8 rfl rfl ?_)|refine u1 ?_|((with_reducible refine qq4 ?_);refine ⟨aU g,⟨by omega,hat⟩,rfl,?_⟩)|(refine ⟨0,k,rfl,rfl,hkl,(by decide),hel4,?_⟩)|((with_reducible refine qq3 ?_);refine af.zq (hcf _) (Fq.deep rfl) (iV.cons (Fq.deep rfl) (iV.cons (iV.RG iV.nil (iV.cons (Fq.ptr rfl rfl) iV.nil)) iV.nil)) (gZ.fl _) ?_)|refine u2 ?_|fail
            exact ⟨[_,_,_],⟨Fz.deep rfl,Fz.deep rfl,Fz.deep rfl,trivial⟩,rfl⟩
           | false =>
            rw [q5] at o8;have e0:dP s k=0:=by rw [hga];unfold fV;rw [if_neg q1',if_neg q2',if_neg (by rw [q3,q4,q5];simp)]
            repeat' first|((with_reducible refine qq3 ?_);refine af.call hnm rfl rfl ?_)|((with_reducible refine qq3 ?_);refine af.call o6 rfl rfl ?_)|((with_reducible refine qq3 ?_);refine af.call o7 rfl rfl ?_)|((with_reducible refine qq3 ?_);refine af.call o8 rfl rfl ?_)|refine u1 ?_|((with_reducible refine qq4 ?_);refine ⟨aU g,⟨by omega,hat⟩,rfl,?_⟩)|(refine ⟨0,k,rfl,rfl,hkl,(by decide),hel4,?_⟩)|((with_reducible refine qq3 ?_);refine af.zq (hcf _) (Fq.deep rfl) (iV.cons (Fq.deep rfl) (iV.cons (iV.RG iV.nil (iV.cons (Fq.ptr rfl rfl) iV.nil)) iV.nil)) (gZ.fl _) ?_)|refine u2 ?_|fail
            refine ⟨k+1,⟨hlt,fun i hi=>?_⟩,(by dsimp only;omega),ai.to 0 rfl ⟨rfl,rfl,rfl,aJ (by simp),trivial⟩ (qq5 _) rfl rfl⟩;by_cases hik:i=k
            ·subst hik;exact e0
            ·exact hprev i (by omega)
      ·have d1:decide ((k:Int) < n)=false:=decide_eq_false (by omega);have hkn:k=s.needs.length:=by omega
       subst hkn;have ep:((ints s.possible).length:Int)=s.possible.length:=by simp
       have mp:s.possible.length≤9223372036854775807:=Nat.le_trans h.possible (by simp [maxLen]);by_cases h6:6 < s.possible.length
       ·have d2:decide (6 < ((ints s.possible).length:Int))=true:=decide_eq_true (by rw [ep];omega);rw [CR hb e5 hprev h6];repeat' first|refine u1 ?_|refine u2 ?_|fail
        exact ⟨[_,_,_],⟨Fz.deep rfl,Fz.deep rfl,Fz.deep rfl,trivial⟩,rfl⟩
       ·have d2:decide (6 < ((ints s.possible).length:Int))=false:=decide_eq_false (by rw [ep];omega);rw [w9 hb e5 hprev h6];have hd:=cY e1;have ha:=I6 one s.possible false s.days 7 h.possible (by omega) (by decide)
        cases e6:decide ((bx s.possible.length (gh s.possible s.days 7)).2=0) with
        | true =>
         have e7:=of_decide_eq_true e6;rw [if_neg (by rw [e7];simp)];rw [e7] at ha;repeat' first|refine u1 ?_|((with_reducible refine qq3 ?_);refine af.call ha rfl rfl ?_)|refine u2 ?_|fail
         exact ⟨[_,_,_],⟨Fz.deep rfl,Fz.deep rfl,Fz.deep rfl,trivial⟩,rfl⟩
        | false =>
         have e7:=of_decide_eq_false e6;have d3:(!decide ((bx s.possible.length (gh s.possible s.days 7)).2=0))=true:=by rw [e6];rfl
         rw [if_pos e7];repeat' first|refine u1 ?_|((with_reducible refine qq3 ?_);refine af.call ha rfl rfl ?_)|refine u2 ?_|fail
         exact ⟨[_,_,_],⟨Fz.deep rfl,Fz.deep rfl,Fz.deep rfl,trivial⟩,rfl⟩
theorem CS {l:List Int} {many below:Int} {k:Nat} (hk:k < l.length) (h:iC l[k] 0 (many - 1)=false):gh l many below k=below:=by
 have h1:=aX l[k] 0 (many - 1);unfold gh;have hg:l.getD k 0=l[k]:=by simp [List.getD,hk]
 rw [hg,h1,h];rfl
theorem PZ {l:List Int} {many below:Int} (hk:0 < l.length) (h:iC l[0] 0 (many - 1)=true):gh l many below 0=0:=by
 have h1:=aX l[0] 0 (many - 1);have h2:=dA.1 h;unfold gh;have hg:l.getD 0 0=l[0]:=by simp [List.getD,hk]
 rw [hg,h1,h];show (if l[0]≤(-1:Int) then (2:Int) else 0)=0;rw [if_neg (by omega)]
theorem I7 {l:List Int} {many below:Int} {k:Nat} (hk:k+1 < l.length) (h:iC l[k+1] 0 (many - 1)=true):gh l many below (k+1)=if l[k+1]≤l[k] then 2 else 0:=by
 have h1:=aX l[k+1] 0 (many - 1);unfold gh;have hg:l.getD (k+1) 0=l[k+1]:=by simp [List.getD,hk]
 have hp:qq l (k+1)=l[k]:=by show l.getD k 0=l[k];simp [List.getD,(by omega:k < l.length)]
 rw [hg,hp,h1,h];rfl
def A4 (x:hH) (before:List hH):Int :=
 if gR x.name (before.map (·.name)) ≠ 0 then gR x.name (before.map (·.name))
 else if iC x.full 1 60=false∨iC x.first 0 x.full=false∨iC x.weight 1 30=false then 7 else 0
theorem M8 (x:hH) (before:List hH):fV x before=A4 x before:=by
 unfold fV A4 gR;rw [List.any_map];have e1:(List.any before ((fun y=>vl y x.name) ∘ fun y=>y.name))=before.any fun y=>vl y.name x.name:=rfl;rw [e1]
 cases i6 x.name with
 | false=>simp
 | true =>
  cases (before.any fun y=>vl y.name x.name) with
  | true=>simp
  | false =>rw [aX,aX,aX];cases iC x.full 1 60 <;> cases iC x.first 0 x.full <;> cases iC x.weight 1 30 <;> simp
def gw (l:List hH):List AV:=l.map fun x=>ST x.name
theorem CT {s:aC} {k:Nat} (h:k < s.needs.length):gw (s.needs.take (k+1))=gw (s.needs.take k)++[ST s.needs[k].name]:=by unfold gw;rw [List.take_add_one,List.getElem?_eq_getElem h,List.map_append];rfl
theorem kQ (l:List hH):((l.map (·.name)).map eS).flatten=gw l:=by
 induction l with
 | nil=>rfl
 | cons a l ih =>simp only [List.map_cons,List.flatten_cons,ih];rfl
theorem oP (l:List hH):bG (gw l)=true:=by
 induction l with
 | nil=>rfl
 | cons a l ih=>exact ih
theorem Et (n:Nat) (l:List hH):iA n (gw l)=true:=by
 induction l with
 | nil=>rfl
 | cons a l ih=>exact ih
theorem tR {B:List AB} (l:List hH) {n v c:Nat} (h:l.length=n):Fz (.cells (gw l) 1 v :: B) (.dw 0 v 0 n c) (.sl ((l.map (·.name)).map eS) false) :=
 Fz.row (es:=1) rfl (by unfold gw;simp;omega) (by simp;omega) (fun el hel=>by obtain ⟨x,_,rfl⟩:=List.mem_map.1 hel;rfl) (by rw [kQ,List.drop_zero,List.take_of_length_le (by unfold gw;simp;omega)]) (by rw [kQ];exact oP _) (fun h=>Bool.noConfusion h)
theorem zA (l:List hH) (v:Nat):([.cells (gw l) 1 v]:List AB).all (AB.jN 1)=true:=by have h:AB.jN 1 (.cells (gw l) 1 v)=true:=Et 1 l;simp only [List.all_cons,List.all_nil,h,Bool.and_true]
