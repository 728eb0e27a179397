/-
  Contracts of the program's functions and of the document's. Lemmas alone; their conditions stand in them.
-/
import Derived.Test.YtpeogffeoehboaaGreatDoorK1
open Go Go.RM
namespace Go.Proofs.YtpeogffeoehboaaGreatDoor
set_option maxRecDepth 100000
set_option maxHeartbeats 4000000
theorem QC (one:Bool) (lo hi:Int) (l:List Int) (h:l.length≤maxLen):Pu one 61 [aC lo,aC hi,.sl (l.map eI) true] (BB (gB lo hi l)):=by have:=Hw one lo hi (l.map eI) true (by rw [List.all_map,List.all_eq_true];intro x _;rfl) (by simpa using h);rw [show (l.map eI).map Qz=l by rw [List.map_map];exact List.map_id _] at this;exact this
theorem jU (one:Bool) (lo hi a:Int):Pu one 61 [aC lo,aC hi,.sl [eI a] true] (BB (gB lo hi [a])):=QC one lo hi [a] (by simp [maxLen])
theorem cZ {lo hi a:Int} (h:gB lo hi [a]=false):lo≤a∧a≤hi:=by
 rw [bY] at h
 have h2:qE a lo hi=true:=by cases e:qE a lo hi with|true=>rfl|false=>rw [e] at h;cases h
 exact nD.1 h2
def qF (l:List Int) (i:Nat):Int:=if i=0 then -1 else l.getD (i - 1) 0
def gp (l:List Int) (many below:Int) (i:Nat):Int :=
 if gB 0 (many - 1) [l.getD i 0]=true then below else if l.getD i 0≤qF l i then 2 else 0
theorem SG (one:Bool) (l:List Int) (full:Bool) (many below:Int) (hl:l.length≤maxLen) (hm:-9223372036854775807≤many∧many≤9223372036854775807) (hb:below ≠ 0) :
  Pu one 66 [.sl (ints l) full,aC many,aC below] (.tp [aC (eE l.length (gp l many below)).1,aC (eE l.length (gp l many below)).2]):=by
 have ml:l.length≤9223372036854775807:=Nat.le_trans hl (by simp [maxLen]);have eg:((ints l).length:Int)=l.length:=by simp
 obtain ⟨n,hn⟩:∃ n:Int,n=l.length:=⟨_,rfl⟩;refine aj.body (fn:=Tryz.f66) rfl rfl rfl rfl ?_;refine qq1 ?_;repeat' first|refine u1 ?_|refine u2 ?_|fail
 refine av.aJ (ah.to (l:=[(1,aC many),(2,aC below),(8,aC (qF l 0)),(11,.sl (ints l) full),(12,aC n),(13,aC (0:Nat))]) (hp:=[]) 0 rfl ⟨rfl,rfl,rfl,rfl,bq (by rw [hn];exact eg),rfl,trivial⟩ (qq5 _) rfl rfl) ?_;refine av.loop (fun k:Nat=>k≤l.length∧∀ i,i < k→gp l many below i=0) (fun k=>⟨aZ [(1,aC many),(2,aC below),(8,aC (qF l k)),(11,.sl (ints l) full),(12,aC n),(13,aC (k:Nat))],[],bA.none,false,0⟩) (fun k=>l.length - k) ?_ 0 ⟨qq5 _,fun i hi=>absurd hi (Nat.not_lt_zero _)⟩;rintro k ⟨hk,hprev⟩;refine qq1 ?_;by_cases hlt:k < l.length
 ·have d1:decide ((k:Int) < n)=true:=decide_eq_true (by omega);have hat:(ints l)[((k:Nat):Int).toNat]?=some (eI l[k]):=bp hlt;have hg:l.getD k 0=l[k]:=by simp [List.getD,hlt]
  have hp:qF l (k+1)=l[k]:=by unfold qF;rw [if_neg (by omega),Nat.add_sub_cancel,hg]
  have hm1:-9223372036854775808≤many - 1∧many - 1≤9223372036854775807:=by omega
  have o1:=jU one 0 (many - 1) l[k];have hA:gp l many below k=if gB 0 (many - 1) [l[k]]=true then below else if l[k]≤qF l k then 2 else 0:=by unfold gp;rw [hg]
  have fin:∀ v,gp l many below k=v→v ≠ 0→eE l.length (gp l many below)=((k:Int),v):=fun v e hv=>by rw [oW hlt hprev (by rw [e];exact hv),e]
  generalize l[k]=g at *
  generalize qF l k=p at *
  cases q1:gB 0 (many - 1) [g] with
  | true =>
   rw [q1] at o1;rw [fin below (by rw [hA,if_pos q1]) hb];repeat' first|((with_reducible refine qq3 ?_);refine aj.call o1 rfl rfl ?_)|refine u1 ?_|((with_reducible refine qq4 ?_);refine ⟨eI g,⟨by omega,hat⟩,rfl,?_⟩)|refine u2 ?_|fail
   exact ⟨[_,_],⟨Fz.deep rfl,Fz.deep rfl,trivial⟩,rfl⟩
  | false =>
   rw [q1] at o1
   cases q2:decide (g≤p) with
   | true =>
    rw [fin 2 (by rw [hA,if_neg (by rw [q1];simp),if_pos (of_decide_eq_true q2)]) (by decide)];repeat' first|((with_reducible refine qq3 ?_);refine aj.call o1 rfl rfl ?_)|refine u1 ?_|((with_reducible refine qq4 ?_);refine ⟨eI g,⟨by omega,hat⟩,rfl,?_⟩)|refine u2 ?_|fail
    exact ⟨[_,_],⟨Fz.deep rfl,Fz.deep rfl,trivial⟩,rfl⟩
   | false =>
    have e0:gp l many below k=0:=by rw [hA,if_neg (by rw [q1];simp),if_neg (of_decide_eq_false q2)]
    repeat' first|((with_reducible refine qq3 ?_);refine aj.call o1 rfl rfl ?_)|refine u1 ?_|((with_reducible refine qq4 ?_);refine ⟨eI g,⟨by omega,hat⟩,rfl,?_⟩)|refine u2 ?_|fail
    refine ⟨k+1,⟨hlt,fun i hi=>?_⟩,(by dsimp only;omega),ah.to 0 rfl ⟨rfl,rfl,bq hp.symm,rfl,rfl,bq (by simp),trivial⟩ (qq5 _) rfl rfl⟩;by_cases hik:i=k
    ·rw [hik];exact e0
    ·exact hprev i (by omega)
 ·have hke:k=l.length:=by omega
  have d1:decide ((k:Int) < n)=false:=decide_eq_false (by omega);rw [iq (fun i hi=>hprev i (by omega))];repeat' first|refine u1 ?_|refine u2 ?_|fail
  exact ⟨[_,_],⟨Fz.deep rfl,Fz.deep rfl,trivial⟩,rfl⟩
theorem Li (one:Bool) (k x:k8):aj TT TB one (.fn 65 [] [.pt (aQ k) 0]) [.ag (aQ x)] (BB (EV x.name k.name)):=by
 refine aj.body (fn:=Tryz.f65) rfl rfl rfl rfl ?_;refine qq1 ?_;repeat' first|refine u1 ?_|refine u2 ?_|fail
 exact ⟨[_],⟨Fz.deep rfl,trivial⟩,rfl⟩
def gU (x:k8) (before:List k8):Int :=
 if jM x.name=false then 6
 else if (before.any fun y=>EV y.name x.name)=true then 5
 else if (gB 1 60 [x.full] || gB 0 x.full [x.first] || gB 1 30 [x.weight])=true then 7
 else 0
def fQ (s:ai) (i:Nat):Int:=match s.needs[i]? with
 | some x=>gU x (s.needs.take i)
 | none=>0
def dA (s:ai):Bool:=gB 1 60 [s.days] || gB 1 30 [s.load] || gB 0 8 [s.fail] || gB 1 8 [s.row]
def l8 (s:ai):Int × Int × Int :=
 if dA s=true then (1,0,7)
 else if gB 1 3 [(s.needs.length:Int)]=true then (2,0,3)
 else if (eE s.needs.length (fQ s)).2 ≠ 0 then (2,(eE s.needs.length (fQ s)).1,(eE s.needs.length (fQ s)).2)
 else if 6 < s.possible.length then (3,0,3)
 else if (eE s.possible.length (gp s.possible s.days 7)).2 ≠ 0 then (3,(eE s.possible.length (gp s.possible s.days 7)).1,(eE s.possible.length (gp s.possible s.days 7)).2)
 else (0,0,0)
structure ai.Ok (s:ai):Prop where
 needs:s.needs.length≤maxLen
 names:∀ x ∈ s.needs,x.name.data.toList.length≤maxLen
 possible:s.possible.length≤maxLen
theorem jB {s:ai} (h:dA s=true):l8 s=(1,0,7):=by unfold l8;rw [if_pos h]
theorem C4 {s:ai} (h:dA s=false) (h1:gB 1 3 [(s.needs.length:Int)]=true):l8 s=(2,0,3):=by unfold l8;rw [if_neg (by rw [h];simp),if_pos h1]
theorem EW {s:ai} (h:dA s=false) (h1:gB 1 3 [(s.needs.length:Int)]=false) {k:Nat} {v:Int} (hk:k < s.needs.length) (hprev:∀ i,i < k→fQ s i=0) (hv:fQ s k=v) (h0:v ≠ 0):l8 s=(2,(k:Int),v):=by unfold l8;rw [if_neg (by rw [h];simp),if_neg (by rw [h1];simp),oW hk hprev (by rw [hv];exact h0),hv,if_pos h0]
theorem C5 {s:ai} (h:dA s=false) (h1:gB 1 3 [(s.needs.length:Int)]=false) (hprev:∀ i,i < s.needs.length→fQ s i=0) (h2:6 < s.possible.length):l8 s=(3,0,3):=by unfold l8;rw [if_neg (by rw [h];simp),if_neg (by rw [h1];simp),iq hprev,if_neg (by simp),if_pos h2]
theorem w7 {s:ai} (h:dA s=false) (h1:gB 1 3 [(s.needs.length:Int)]=false) (hprev:∀ i,i < s.needs.length→fQ s i=0) (h2:¬ 6 < s.possible.length) :
  l8 s=if (eE s.possible.length (gp s.possible s.days 7)).2 ≠ 0 then (3,(eE s.possible.length (gp s.possible s.days 7)).1,(eE s.possible.length (gp s.possible s.days 7)).2) else (0,0,0):=by
 unfold l8;rw [if_neg (by rw [h];simp),if_neg (by rw [h1];simp),iq hprev,if_neg (by simp),if_neg h2]
theorem Nf (one:Bool) (s:ai) (h:s.Ok):Pu one 43 [.ag (ay s)] (.tp [aC (l8 s).1,aC (l8 s).2.1,aC (l8 s).2.2]):=by
 have eg:((s.needs.map aQ).length:Int)=s.needs.length:=by simp
 have o1:=jU one 1 60 s.days;have o2:=jU one 1 30 s.load;have o3:=jU one 0 8 s.fail;have o4:=jU one 1 8 s.row;have o5:=jU one 1 3 ((s.needs.map aQ).length:Int);rw [eg] at o5
 cases e1:gB 1 60 [s.days] with
 | true =>
  rw [e1] at o1;rw [jB (by unfold dA;rw [e1];simp)];refine aj.body (fn:=Tryz.f43) rfl rfl rfl rfl ?_;refine qq1 ?_;repeat' first|refine u1 ?_|((with_reducible refine qq3 ?_);refine aj.call o1 rfl rfl ?_)|refine u2 ?_|fail
  exact ⟨[_,_,_],⟨Fz.deep rfl,Fz.deep rfl,Fz.deep rfl,trivial⟩,rfl⟩
 | false =>
  rw [e1] at o1
  cases e2:gB 1 30 [s.load] with
  | true =>
   rw [e2] at o2;rw [jB (by unfold dA;rw [e1,e2];simp)];refine aj.body (fn:=Tryz.f43) rfl rfl rfl rfl ?_;refine qq1 ?_;repeat' first|refine u1 ?_|((with_reducible refine qq3 ?_);refine aj.call o1 rfl rfl ?_)|((with_reducible refine qq3 ?_);refine aj.call o2 rfl rfl ?_)|refine u2 ?_|fail
   exact ⟨[_,_,_],⟨Fz.deep rfl,Fz.deep rfl,Fz.deep rfl,trivial⟩,rfl⟩
  | false =>
   rw [e2] at o2
   cases e3:gB 0 8 [s.fail] with
   | true =>
    rw [e3] at o3;rw [jB (by unfold dA;rw [e1,e2,e3];simp)];refine aj.body (fn:=Tryz.f43) rfl rfl rfl rfl ?_;refine qq1 ?_;repeat' first|refine u1 ?_|((with_reducible refine qq3 ?_);refine aj.call o1 rfl rfl ?_)|((with_reducible refine qq3 ?_);refine aj.call o2 rfl rfl ?_)|((with_reducible refine qq3 ?_);refine aj.call o3 rfl rfl ?_)|refine u2 ?_|fail
    exact ⟨[_,_,_],⟨Fz.deep rfl,Fz.deep rfl,Fz.deep rfl,trivial⟩,rfl⟩
   | false =>
    rw [e3] at o3
    cases e4:gB 1 8 [s.row] with
    | true =>
     rw [e4] at o4;rw [jB (by unfold dA;rw [e1,e2,e3,e4];simp)];refine aj.body (fn:=Tryz.f43) rfl rfl rfl rfl ?_;refine qq1 ?_;repeat' first|refine u1 ?_|((with_reducible refine qq3 ?_);refine aj.call o1 rfl rfl ?_)|((with_reducible refine qq3 ?_);refine aj.call o2 rfl rfl ?_)|((with_reducible refine qq3 ?_);refine aj.call o3 rfl rfl ?_)|((with_reducible refine qq3 ?_);refine aj.call o4 rfl rfl ?_)|refine u2 ?_|fail
     exact ⟨[_,_,_],⟨Fz.deep rfl,Fz.deep rfl,Fz.deep rfl,trivial⟩,rfl⟩
    | false =>
     rw [e4] at o4;have hb:dA s=false:=by unfold dA;rw [e1,e2,e3,e4];rfl
     cases e5:gB 1 3 [(s.needs.length:Int)] with
     | true =>
      rw [C4 hb e5];rw [e5,←eg] at o5;refine aj.body (fn:=Tryz.f43) rfl rfl rfl rfl ?_;refine qq1 ?_;repeat' first|refine u1 ?_|((with_reducible refine qq3 ?_);refine aj.call o1 rfl rfl ?_)|((with_reducible refine qq3 ?_);refine aj.call o2 rfl rfl ?_)|((with_reducible refine qq3 ?_);refine aj.call o3 rfl rfl ?_)|((with_reducible refine qq3 ?_);refine aj.call o4 rfl rfl ?_)|((with_reducible refine qq3 ?_);refine aj.call o5 rfl rfl ?_)|refine u2 ?_|fail
      exact ⟨[_,_,_],⟨Fz.deep rfl,Fz.deep rfl,Fz.deep rfl,trivial⟩,rfl⟩
     | false =>
      rw [e5,←eg] at o5;have hn3:s.needs.length≤3:=by have:=cZ e5;omega
      obtain ⟨n,hn⟩:∃ n:Int,n=s.needs.length:=⟨_,rfl⟩;refine aj.body (fn:=Tryz.f43) rfl rfl rfl rfl ?_;refine qq1 ?_;repeat' first|refine u1 ?_|((with_reducible refine qq3 ?_);refine aj.call o1 rfl rfl ?_)|((with_reducible refine qq3 ?_);refine aj.call o2 rfl rfl ?_)|((with_reducible refine qq3 ?_);refine aj.call o3 rfl rfl ?_)|((with_reducible refine qq3 ?_);refine aj.call o4 rfl rfl ?_)|((with_reducible refine qq3 ?_);refine aj.call o5 rfl rfl ?_)|refine u2 ?_|fail
      refine av.aJ (ah.to (l:=[(1,.pt (ay s) 0),(37,.sl (s.needs.map aQ) false),(38,aC n),(39,aC (0:Nat))]) (hp:=[]) 0 rfl ⟨rfl,rfl,bq (by rw [hn];exact eg),rfl,trivial⟩ (qq5 _) rfl rfl) ?_;refine av.loop (fun k:Nat=>k≤s.needs.length∧∀ i,i < k→fQ s i=0) (fun k=>⟨aZ [(1,.pt (ay s) 0),(37,.sl (s.needs.map aQ) false),(38,aC n),(39,aC (k:Nat))],[],bA.none,false,0⟩) (fun k=>s.needs.length - k) ?_ 0 ⟨qq5 _,fun i hi=>absurd hi (Nat.not_lt_zero _)⟩;rintro k ⟨hk,hprev⟩;refine qq1 ?_;by_cases hlt:k < s.needs.length
      ·have d1:decide ((k:Int) < n)=true:=decide_eq_true (by omega);have hat:(s.needs.map aQ)[((k:Nat):Int).toNat]?=some (aQ s.needs[k]):=bp hlt;have hga:fQ s k=gU s.needs[k] (s.needs.take k):=by unfold fQ;rw [List.getElem?_eq_getElem hlt]
       have hnm:=QA one s.needs[k].name (h.names _ (List.getElem_mem hlt));have hcf:∀ f,Pu one 64 [.sl ((s.needs.take k).map aQ) f,.fn 65 [] [.pt (aQ s.needs[k]) 0]] (BB ((s.needs.take k).any fun x=>EV x.name s.needs[k].name)):=fun f=>tQ one 65 [] [.pt (aQ s.needs[k]) 0] rfl (fun x=>EV x.name s.needs[k].name) (s.needs.take k) f (by simp [maxLen];omega) (fun x _=>Li one s.needs[k] x);have hsl:((s.needs.map aQ).drop 0).take (k - 0)=(s.needs.take k).map aQ:=by rw [List.drop_zero,Nat.sub_zero,List.map_take]
       rw [←hsl] at hcf;have hkl:0≤k∧k≤(s.needs.map aQ).length:=⟨qq5 _,by rw [List.length_map];omega⟩;have hel4:∀ el ∈ s.needs.map aQ,el.length=4:=fun el hel=>by obtain ⟨x,_,rfl⟩:=List.mem_map.1 hel;rfl
       have fin:∀ v,fQ s k=v→v ≠ 0→l8 s=(2,(k:Int),v):=fun v e hv=>EW hb e5 hlt hprev e hv;have o6:=jU one 1 60 s.needs[k].full;have o7:=jU one 0 s.needs[k].full s.needs[k].first
       have o8:=jU one 1 30 s.needs[k].weight
       generalize s.needs[k]=g at *
       cases q1:jM g.name with
       | false =>
        rw [q1] at hnm;rw [fin 6 (by rw [hga];unfold gU;rw [if_pos q1]) (by decide)];repeat' first|((with_reducible refine qq3 ?_);refine aj.call hnm rfl rfl ?_)|((with_reducible refine qq3 ?_);refine aj.call o6 rfl rfl ?_)|((with_reducible refine qq3 ?_);refine aj.call o7 rfl rfl ?_)|((with_reducible refine qq3 ?_);refine aj.call o8 rfl rfl ?_)|refine u1 ?_|((with_reducible refine qq4 ?_);refine ⟨aQ g,⟨by omega,hat⟩,rfl,?_⟩)|(refine ⟨0,k,rfl,rfl,hkl,(by decide),hel4,?_⟩)|((with_reducible refine qq3 ?_);refine aj.zw (hcf _) (Fq.deep rfl) (iL.cons (Fq.deep rfl) (iL.cons (iL.Rp iL.nil (iL.cons (Fq.ptr rfl rfl) iL.nil)) iL.nil)) (fA.fl _) ?_)|refine u2 ?_|fail
        exact ⟨[_,_,_],⟨Fz.deep rfl,Fz.deep rfl,Fz.deep rfl,trivial⟩,rfl⟩
       | true =>
        rw [q1] at hnm;have q1':¬ jM g.name=false:=by rw [q1];simp
        cases q2:(s.needs.take k).any fun x=>EV x.name g.name with
        | true =>
         simp only [q2] at hcf;rw [fin 5 (by rw [hga];unfold gU;rw [if_neg q1',if_pos q2]) (by decide)];repeat' first|((with_reducible refine qq3 ?_);refine aj.call hnm rfl rfl ?_)|((with_reducible refine qq3 ?_);refine aj.call o6 rfl rfl ?_)|((with_reducible refine qq3 ?_);refine aj.call o7 rfl rfl ?_)|((with_reducible refine qq3 ?_);refine aj.call o8 rfl rfl ?_)|refine u1 ?_|((with_reducible refine qq4 ?_);refine ⟨aQ g,⟨by omega,hat⟩,rfl,?_⟩)|(refine ⟨0,k,rfl,rfl,hkl,(by decide),hel4,?_⟩)|((with_reducible refine qq3 ?_);refine aj.zw (hcf _) (Fq.deep rfl) (iL.cons (Fq.deep rfl) (iL.cons (iL.Rp iL.nil (iL.cons (Fq.ptr rfl rfl) iL.nil)) iL.nil)) (fA.fl _) ?_)|refine u2 ?_|fail
         exact ⟨[_,_,_],⟨Fz.deep rfl,Fz.deep rfl,Fz.deep rfl,trivial⟩,rfl⟩
        | false =>
         simp only [q2] at hcf;have q2':¬ ((s.needs.take k).any fun x=>EV x.name g.name)=true:=by rw [q2];simp
         cases q3:gB 1 60 [g.full] with
         | true =>
          rw [q3] at o6;rw [fin 7 (by rw [hga];unfold gU;rw [if_neg q1',if_neg q2',if_pos (by rw [q3];rfl)]) (by decide)];repeat' first|((with_reducible refine qq3 ?_);refine aj.call hnm rfl rfl ?_)|((with_reducible refine qq3 ?_);refine aj.call o6 rfl rfl ?_)|((with_reducible refine qq3 ?_);refine aj.call o7 rfl rfl ?_)|((with_reducible refine qq3 ?_);refine aj.call o8 rfl rfl ?_)|refine u1 ?_|((with_reducible refine qq4 ?_);refine ⟨aQ g,⟨by omega,hat⟩,rfl,?_⟩)|(refine ⟨0,k,rfl,rfl,hkl,(by decide),hel4,?_⟩)|((with_reducible refine qq3 ?_);refine aj.zw (hcf _) (Fq.deep rfl) (iL.cons (Fq.deep rfl) (iL.cons (iL.Rp iL.nil (iL.cons (Fq.ptr rfl rfl) iL.nil)) iL.nil)) (fA.fl _) ?_)|refine u2 ?_|fail
          exact ⟨[_,_,_],⟨Fz.deep rfl,Fz.deep rfl,Fz.deep rfl,trivial⟩,rfl⟩
         | false =>
          rw [q3] at o6
          cases q4:gB 0 g.full [g.first] with
          | true =>
           rw [q4] at o7;rw [fin 7 (by rw [hga];unfold gU;rw [if_neg q1',if_neg q2',if_pos (by rw [q3,q4];rfl)]) (by decide)];repeat' first|((with_reducible refine qq3 ?_);refine aj.call hnm rfl rfl ?_)|((with_reducible refine qq3 ?_);refine aj.call o6 rfl rfl ?_)|((with_reducible refine qq3 ?_);refine aj.call o7 rfl rfl ?_)|((with_reducible refine qq3 ?_);refine aj.call o8 rfl rfl ?_)|refine u1 ?_|((with_reducible refine qq4 ?_);refine ⟨aQ g,⟨by omega,hat⟩,rfl,?_⟩)|(refine ⟨0,k,rfl,rfl,hkl,(by decide),hel4,?_⟩)|((with_reducible refine qq3 ?_);refine aj.zw (hcf _) (Fq.deep rfl) (iL.cons (Fq.deep rfl) (iL.cons (iL.Rp iL.nil (iL.cons (Fq.ptr rfl rfl) iL.nil)) iL.nil)) (fA.fl _) ?_)|refine u2 ?_|fail
           exact ⟨[_,_,_],⟨Fz.deep rfl,Fz.deep rfl,Fz.deep rfl,trivial⟩,rfl⟩
          | false =>
           rw [q4] at o7
           cases q5:gB 1 30 [g.weight] with
           | true =>
            rw [q5] at o8;rw [fin 7 (by rw [hga];unfold gU;rw [if_neg q1',if_neg q2',if_pos (by rw [q3,q4,q5];rfl)]) (by decide)];repeat' first|((with_reducible refine qq3 ?_);refine aj.call hnm rfl rfl ?_)|((with_reducible refine qq3 ?_);refine aj.call o6 rfl rfl ?_)|((with_reducible refine qq3 ?_);refine aj.call o7 rfl rfl ?_)|((with_reducible refine qq3 ?_);refine aj.call o8 rfl rfl ?_)|refine u1 ?_|((with_reducible refine qq4 ?_);refine ⟨aQ g,⟨by omega,hat⟩,rfl,?_⟩)|(refine ⟨0,k,rfl,rfl,hkl,(by decide),hel4,?_⟩)|((with_reducible refine qq3 ?_);refine aj.zw (hcf _) (Fq.deep rfl) (iL.cons (Fq.deep rfl) (iL.cons (iL.Rp iL.nil (iL.cons (Fq.ptr rfl rfl) iL.nil)) iL.nil)) (fA.fl _) ?_)|refine u2 ?_|fail
            exact ⟨[_,_,_],⟨Fz.deep rfl,Fz.deep rfl,Fz.deep rfl,trivial⟩,rfl⟩
           | false =>
            rw [q5] at o8;have e0:fQ s k=0:=by rw [hga];unfold gU;rw [if_neg q1',if_neg q2',if_neg (by rw [q3,q4,q5];simp)]
            repeat' first|((with_reducible refine qq3 ?_);refine aj.call hnm rfl rfl ?_)|((with_reducible refine qq3 ?_);refine aj.call o6 rfl rfl ?_)|((with_reducible refine qq3 ?_);refine aj.call o7 rfl rfl ?_)|((with_reducible refine qq3 ?_);refine aj.call o8 rfl rfl ?_)|refine u1 ?_|((with_reducible refine qq4 ?_);refine ⟨aQ g,⟨by omega,hat⟩,rfl,?_⟩)|(refine ⟨0,k,rfl,rfl,hkl,(by decide),hel4,?_⟩)|((with_reducible refine qq3 ?_);refine aj.zw (hcf _) (Fq.deep rfl) (iL.cons (Fq.deep rfl) (iL.cons (iL.Rp iL.nil (iL.cons (Fq.ptr rfl rfl) iL.nil)) iL.nil)) (fA.fl _) ?_)|refine u2 ?_|fail
            refine ⟨k+1,⟨hlt,fun i hi=>?_⟩,(by dsimp only;omega),ah.to 0 rfl ⟨rfl,rfl,rfl,bq (by simp),trivial⟩ (qq5 _) rfl rfl⟩;by_cases hik:i=k
            ·subst hik;exact e0
            ·exact hprev i (by omega)
      ·have d1:decide ((k:Int) < n)=false:=decide_eq_false (by omega);have hkn:k=s.needs.length:=by omega
       subst hkn;have ep:((ints s.possible).length:Int)=s.possible.length:=by simp
       have mp:s.possible.length≤9223372036854775807:=Nat.le_trans h.possible (by simp [maxLen]);by_cases h6:6 < s.possible.length
       ·have d2:decide (6 < ((ints s.possible).length:Int))=true:=decide_eq_true (by rw [ep];omega);rw [C5 hb e5 hprev h6];repeat' first|refine u1 ?_|refine u2 ?_|fail
        exact ⟨[_,_,_],⟨Fz.deep rfl,Fz.deep rfl,Fz.deep rfl,trivial⟩,rfl⟩
       ·have d2:decide (6 < ((ints s.possible).length:Int))=false:=decide_eq_false (by rw [ep];omega);rw [w7 hb e5 hprev h6];have hd:=cZ e1;have ha:=SG one s.possible false s.days 7 h.possible (by omega) (by decide)
        cases e6:decide ((eE s.possible.length (gp s.possible s.days 7)).2=0) with
        | true =>
         have e7:=of_decide_eq_true e6;rw [if_neg (by rw [e7];simp)];rw [e7] at ha;repeat' first|refine u1 ?_|((with_reducible refine qq3 ?_);refine aj.call ha rfl rfl ?_)|refine u2 ?_|fail
         exact ⟨[_,_,_],⟨Fz.deep rfl,Fz.deep rfl,Fz.deep rfl,trivial⟩,rfl⟩
        | false =>
         have e7:=of_decide_eq_false e6;have d3:(!decide ((eE s.possible.length (gp s.possible s.days 7)).2=0))=true:=by rw [e6];rfl
         rw [if_pos e7];repeat' first|refine u1 ?_|((with_reducible refine qq3 ?_);refine aj.call ha rfl rfl ?_)|refine u2 ?_|fail
         exact ⟨[_,_,_],⟨Fz.deep rfl,Fz.deep rfl,Fz.deep rfl,trivial⟩,rfl⟩
theorem C6 {l:List Int} {many below:Int} {k:Nat} (hk:k < l.length) (h:qE l[k] 0 (many - 1)=false):gp l many below k=below:=by
 have h1:=bY l[k] 0 (many - 1);unfold gp;have hg:l.getD k 0=l[k]:=by simp [List.getD,hk]
 rw [hg,h1,h];rfl
theorem QD {l:List Int} {many below:Int} (hk:0 < l.length) (h:qE l[0] 0 (many - 1)=true):gp l many below 0=0:=by
 have h1:=bY l[0] 0 (many - 1);have h2:=nD.1 h;unfold gp;have hg:l.getD 0 0=l[0]:=by simp [List.getD,hk]
 rw [hg,h1,h];show (if l[0]≤(-1:Int) then (2:Int) else 0)=0;rw [if_neg (by omega)]
theorem Lj {l:List Int} {many below:Int} {k:Nat} (hk:k+1 < l.length) (h:qE l[k+1] 0 (many - 1)=true):gp l many below (k+1)=if l[k+1]≤l[k] then 2 else 0:=by
 have h1:=bY l[k+1] 0 (many - 1);unfold gp;have hg:l.getD (k+1) 0=l[k+1]:=by simp [List.getD,hk]
 have hp:qF l (k+1)=l[k]:=by show l.getD k 0=l[k];simp [List.getD,(by omega:k < l.length)]
 rw [hg,hp,h1,h];rfl
def Bl (x:k8) (before:List k8):Int :=
 if mI x.name (before.map (·.name)) ≠ 0 then mI x.name (before.map (·.name))
 else if qE x.full 1 60=false∨qE x.first 0 x.full=false∨qE x.weight 1 30=false then 7 else 0
theorem Ng (x:k8) (before:List k8):gU x before=Bl x before:=by
 unfold gU Bl mI;rw [List.any_map];have e1:(List.any before ((fun y=>EV y x.name) ∘ fun y=>y.name))=before.any fun y=>EV y.name x.name:=rfl;rw [e1]
 cases jM x.name with
 | false=>simp
 | true =>
  cases (before.any fun y=>EV y.name x.name) with
  | true=>simp
  | false =>rw [bY,bY,bY];cases qE x.full 1 60 <;> cases qE x.first 0 x.full <;> cases qE x.weight 1 30 <;> simp
def gq (l:List k8):List AV:=l.map fun x=>ST x.name
theorem C7 {s:ai} {k:Nat} (h:k < s.needs.length):gq (s.needs.take (k+1))=gq (s.needs.take k)++[ST s.needs[k].name]:=by unfold gq;rw [List.take_add_one,List.getElem?_eq_getElem h,List.map_append];rfl
theorem w8 (l:List k8):((l.map (·.name)).map eS).flatten=gq l:=by
 induction l with
 | nil=>rfl
 | cons a l ih =>simp only [List.map_cons,List.flatten_cons,ih];rfl
theorem C8 (l:List k8):cC (gq l)=true:=by
 induction l with
 | nil=>rfl
 | cons a l ih=>exact ih
theorem EX (n:Nat) (l:List k8):qT n (gq l)=true:=by
 induction l with
 | nil=>rfl
 | cons a l ih=>exact ih
theorem Hz {B:List AB} (l:List k8) {n v c:Nat} (h:l.length=n):Fz (.cells (gq l) 1 v :: B) (.bg 0 v 0 n c) (.sl ((l.map (·.name)).map eS) false) :=
 Fz.row (es:=1) rfl (by unfold gq;simp;omega) (by simp;omega) (fun el hel=>by obtain ⟨x,_,rfl⟩:=List.mem_map.1 hel;rfl) (by rw [w8,List.drop_zero,List.take_of_length_le (by unfold gq;simp;omega)]) (by rw [w8];exact C8 _) (fun h=>Bool.noConfusion h)
theorem zB (l:List k8) (v:Nat):([.cells (gq l) 1 v]:List AB).all (AB.gF 1)=true:=by have h:AB.gF 1 (.cells (gq l) 1 v)=true:=EX 1 l;simp only [List.all_cons,List.all_nil,h,Bool.and_true]
