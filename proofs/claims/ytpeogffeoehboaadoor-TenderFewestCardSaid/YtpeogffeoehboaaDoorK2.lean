/-
  Contracts of the program's functions and of the document's. Lemmas alone; their conditions stand in them.
-/
import Derived.Test.YtpeogffeoehboaaDoorA3
import Derived.Test.YtpeogffeoehboaaDoorK1
open Go Go.RM
namespace Go.Proofs.YtpeogffeoehboaaDoor
set_option maxRecDepth 100000
set_option maxHeartbeats 4000000
theorem N9 (one:Bool) (lo hi:Int) (l:List Int) (h:l.length≤maxLen):Pu one 40 [aC lo,aC hi,.sl (l.map eI) true] (BB (fH lo hi l)):=by
 have:=Ft one lo hi (l.map eI) true (by rw [List.all_map,List.all_eq_true];intro x _;rfl) (by simpa using h)
 rw [show (l.map eI).map N6=l by rw [List.map_map];exact List.map_id _] at this
 exact this
theorem iq (one:Bool) (lo hi a:Int):Pu one 40 [aC lo,aC hi,.sl [eI a] true] (BB (fH lo hi [a])):=N9 one lo hi [a] (by simp [maxLen])
theorem cB {lo hi a:Int} (h:fH lo hi [a]=false):lo≤a∧a≤hi:=by
 rw [bD] at h
 have h2:nA a lo hi=true:=by cases e:nA a lo hi with|true=>rfl|false=>rw [e] at h;cases h
 exact ku.1 h2
def qy (l:List Int) (i:Nat):Int:=if i=0 then -1 else l.getD (i - 1) 0
def fo (l:List Int) (many below:Int) (i:Nat):Int :=
 if fH 0 (many - 1) [l.getD i 0]=true then below else if l.getD i 0≤qy l i then 2 else 0
theorem Mz (one:Bool) (l:List Int) (full:Bool) (many below:Int) (hl:l.length≤maxLen) (hm:-9223372036854775807≤many∧many≤9223372036854775807) (hb:below ≠ 0) :
  Pu one 44 [.sl (ints l) full,aC many,aC below] (.tp [aC (di l.length (fo l many below)).1,aC (di l.length (fo l many below)).2]):=by
 have ml:l.length≤9223372036854775807:=Nat.le_trans hl (by simp [maxLen])
 have eg:((ints l).length:Int)=l.length:=by simp
 obtain ⟨n,hn⟩:∃ n:Int,n=l.length:=⟨_,rfl⟩
 refine ah.body (fn:=Tryd.f44) rfl rfl rfl rfl ?_
 refine aa (mu:=fun _=>false) ?_
 repeat' (first |refine u1 ?_ |refine u2 ?_ |fail)
 refine aA.aU (ak.to (l:=[(1,aC many),(2,aC below),(8,aC (qy l 0)),(11,.sl (ints l) full),(12,aC n),(13,aC (0:Nat))]) (hp:=[]) 0 rfl ⟨rfl,rfl,rfl,rfl,bM (by rw [hn];exact eg),rfl,trivial⟩ (Nat.zero_le _) rfl rfl) ?_
 refine aA.loop (fun k:Nat=>k≤l.length∧∀ i,i < k→fo l many below i=0) (fun k=>⟨bu [(1,aC many),(2,aC below),(8,aC (qy l k)),(11,.sl (ints l) full),(12,aC n),(13,aC (k:Nat))],[],bR.none,false,0⟩) (fun k=>l.length - k) ?_ 0 ⟨Nat.zero_le _,fun i hi=>absurd hi (Nat.not_lt_zero _)⟩
 rintro k ⟨hk,hprev⟩
 refine aa (mu:=fun _=>false) ?_
 by_cases hlt:k < l.length
 ·have d1:decide ((k:Int) < n)=true:=decide_eq_true (by omega)
  have hat:(ints l)[((k:Nat):Int).toNat]?=some (eI l[k]):=bY hlt
  have hg:l.getD k 0=l[k]:=by simp [List.getD,hlt]
  have hp:qy l (k+1)=l[k]:=by unfold qy;rw [if_neg (by omega),Nat.add_sub_cancel,hg]
  have hm1:-9223372036854775808≤many - 1∧many - 1≤9223372036854775807:=by omega
  have o1:=iq one 0 (many - 1) l[k]
  have hA:fo l many below k=if fH 0 (many - 1) [l[k]]=true then below else if l[k]≤qy l k then 2 else 0:=by unfold fo;rw [hg]
  have fin:∀ v,fo l many below k=v→v ≠ 0→di l.length (fo l many below)=((k:Int),v):=fun v e hv=>by
   rw [gz hlt hprev (by rw [e];exact hv),e]
  generalize l[k]=g at *
  generalize qy l k=p at *
  cases q1:fH 0 (many - 1) [g] with
  | true =>
   rw [q1] at o1
   rw [fin below (by rw [hA,if_pos q1]) hb]
   repeat' (first |((with_reducible show av _ _ _ _ _ _ _ _);refine ah.call o1 rfl rfl ?_) |refine u1 ?_ |((with_reducible show RM.wpOp _ _ (.indexAddr _ _ _) _ _ _);refine ⟨eI g,⟨by omega,hat⟩,rfl,?_⟩) |refine u2 ?_ |fail)
   exact ⟨[_,_],⟨Fz.deep rfl,Fz.deep rfl,trivial⟩,rfl⟩
  | false =>
   rw [q1] at o1
   cases q2:decide (g≤p) with
   | true =>
    rw [fin 2 (by rw [hA,if_neg (by rw [q1];simp),if_pos (of_decide_eq_true q2)]) (by decide)]
    repeat' (first |((with_reducible show av _ _ _ _ _ _ _ _);refine ah.call o1 rfl rfl ?_) |refine u1 ?_ |((with_reducible show RM.wpOp _ _ (.indexAddr _ _ _) _ _ _);refine ⟨eI g,⟨by omega,hat⟩,rfl,?_⟩) |refine u2 ?_ |fail)
    exact ⟨[_,_],⟨Fz.deep rfl,Fz.deep rfl,trivial⟩,rfl⟩
   | false =>
    have e0:fo l many below k=0:=by rw [hA,if_neg (by rw [q1];simp),if_neg (of_decide_eq_false q2)]
    repeat' (first |((with_reducible show av _ _ _ _ _ _ _ _);refine ah.call o1 rfl rfl ?_) |refine u1 ?_ |((with_reducible show RM.wpOp _ _ (.indexAddr _ _ _) _ _ _);refine ⟨eI g,⟨by omega,hat⟩,rfl,?_⟩) |refine u2 ?_ |fail)
    refine ⟨k+1,⟨hlt,fun i hi=>?_⟩,(by dsimp only;omega),ak.to 0 rfl ⟨rfl,rfl,bM hp.symm,rfl,rfl,bM (by simp),trivial⟩ (Nat.zero_le _) rfl rfl⟩
    by_cases hik:i=k
    ·rw [hik];exact e0
    ·exact hprev i (by omega)
 ·have hke:k=l.length:=by omega
  have d1:decide ((k:Int) < n)=false:=decide_eq_false (by omega)
  rw [dX (fun i hi=>hprev i (by omega))]
  repeat' (first |refine u1 ?_ |refine u2 ?_ |fail)
  exact ⟨[_,_],⟨Fz.deep rfl,Fz.deep rfl,trivial⟩,rfl⟩
theorem Jf (one:Bool) (k x:jR):ah TT TB one (.fn 43 [] [.pt (aR k) 0]) [.ag (aR x)] (BB (Db x.name k.name)):=by
 refine ah.body (fn:=Tryd.f43) rfl rfl rfl rfl ?_
 refine aa (mu:=fun _=>false) ?_
 repeat' (first |refine u1 ?_ |refine u2 ?_ |fail)
 exact ⟨[_],⟨Fz.deep rfl,trivial⟩,rfl⟩
end Go.Proofs.YtpeogffeoehboaaDoor
open Go Go.RM
namespace Go.Proofs.YtpeogffeoehboaaDoor
set_option maxRecDepth 100000
set_option maxHeartbeats 4000000
def fX (x:jR) (before:List jR):Int :=
 if iV x.name=false then 6
 else if (before.any fun y=>Db y.name x.name)=true then 5
 else if (fH 1 60 [x.full] || fH 0 x.full [x.first] || fH 1 30 [x.weight])=true then 7
 else 0
def eW (s:ai) (i:Nat):Int:=match s.needs[i]? with
 | some x=>fX x (s.needs.take i)
 | none=>0
def cP (s:ai):Bool:=fH 1 60 [s.days] || fH 1 30 [s.load] || fH 0 8 [s.fail] || fH 1 8 [s.row]
def iM (s:ai):Int × Int × Int :=
 if cP s=true then (1,0,7)
 else if fH 1 3 [(s.needs.length:Int)]=true then (2,0,3)
 else if (di s.needs.length (eW s)).2 ≠ 0 then (2,(di s.needs.length (eW s)).1,(di s.needs.length (eW s)).2)
 else if 6 < s.possible.length then (3,0,3)
 else if (di s.possible.length (fo s.possible s.days 7)).2 ≠ 0 then (3,(di s.possible.length (fo s.possible s.days 7)).1,(di s.possible.length (fo s.possible s.days 7)).2)
 else (0,0,0)
structure ai.Ok (s:ai):Prop where
 needs:s.needs.length≤maxLen
 names:∀ x ∈ s.needs,x.name.data.toList.length≤maxLen
 possible:s.possible.length≤maxLen
theorem iK {s:ai} (h:cP s=true):iM s=(1,0,7):=by unfold iM;rw [if_pos h]
theorem Bz {s:ai} (h:cP s=false) (h1:fH 1 3 [(s.needs.length:Int)]=true):iM s=(2,0,3):=by unfold iM;rw [if_neg (by rw [h];simp),if_pos h1]
theorem Dc {s:ai} (h:cP s=false) (h1:fH 1 3 [(s.needs.length:Int)]=false) {k:Nat} {v:Int} (hk:k < s.needs.length) (hprev:∀ i,i < k→eW s i=0) (hv:eW s k=v) (h0:v ≠ 0):iM s=(2,(k:Int),v):=by
 unfold iM
 rw [if_neg (by rw [h];simp),if_neg (by rw [h1];simp),gz hk hprev (by rw [hv];exact h0),hv,if_pos h0]
theorem BA {s:ai} (h:cP s=false) (h1:fH 1 3 [(s.needs.length:Int)]=false) (hprev:∀ i,i < s.needs.length→eW s i=0) (h2:6 < s.possible.length):iM s=(3,0,3):=by
 unfold iM
 rw [if_neg (by rw [h];simp),if_neg (by rw [h1];simp),dX hprev,if_neg (by simp),if_pos h2]
theorem vp {s:ai} (h:cP s=false) (h1:fH 1 3 [(s.needs.length:Int)]=false) (hprev:∀ i,i < s.needs.length→eW s i=0) (h2:¬ 6 < s.possible.length) :
  iM s=if (di s.possible.length (fo s.possible s.days 7)).2 ≠ 0 then (3,(di s.possible.length (fo s.possible s.days 7)).1,(di s.possible.length (fo s.possible s.days 7)).2) else (0,0,0):=by
 unfold iM
 rw [if_neg (by rw [h];simp),if_neg (by rw [h1];simp),dX hprev,if_neg (by simp),if_neg h2]
theorem Et (one:Bool) (s:ai) (h:s.Ok):Pu one 13 [.ag (ay s)] (.tp [aC (iM s).1,aC (iM s).2.1,aC (iM s).2.2]):=by
 have eg:((s.needs.map aR).length:Int)=s.needs.length:=by simp
 have o1:=iq one 1 60 s.days
 have o2:=iq one 1 30 s.load
 have o3:=iq one 0 8 s.fail
 have o4:=iq one 1 8 s.row
 have o5:=iq one 1 3 ((s.needs.map aR).length:Int)
 rw [eg] at o5
 cases e1:fH 1 60 [s.days] with
 | true =>
  rw [e1] at o1
  rw [iK (by unfold cP;rw [e1];simp)]
  refine ah.body (fn:=Tryd.f13) rfl rfl rfl rfl ?_
  refine aa (mu:=fun _=>false) ?_
  repeat' (first |refine u1 ?_ |((with_reducible show av _ _ _ _ _ _ _ _);refine ah.call o1 rfl rfl ?_) |refine u2 ?_ |fail)
  exact ⟨[_,_,_],⟨Fz.deep rfl,Fz.deep rfl,Fz.deep rfl,trivial⟩,rfl⟩
 | false =>
  rw [e1] at o1
  cases e2:fH 1 30 [s.load] with
  | true =>
   rw [e2] at o2
   rw [iK (by unfold cP;rw [e1,e2];simp)]
   refine ah.body (fn:=Tryd.f13) rfl rfl rfl rfl ?_
   refine aa (mu:=fun _=>false) ?_
   repeat' (first |refine u1 ?_ |((with_reducible show av _ _ _ _ _ _ _ _);refine ah.call o1 rfl rfl ?_) |((with_reducible show av _ _ _ _ _ _ _ _);refine ah.call o2 rfl rfl ?_) |refine u2 ?_ |fail)
   exact ⟨[_,_,_],⟨Fz.deep rfl,Fz.deep rfl,Fz.deep rfl,trivial⟩,rfl⟩
  | false =>
   rw [e2] at o2
   cases e3:fH 0 8 [s.fail] with
   | true =>
    rw [e3] at o3
    rw [iK (by unfold cP;rw [e1,e2,e3];simp)]
    refine ah.body (fn:=Tryd.f13) rfl rfl rfl rfl ?_
    refine aa (mu:=fun _=>false) ?_
    repeat' (first |refine u1 ?_ |((with_reducible show av _ _ _ _ _ _ _ _);refine ah.call o1 rfl rfl ?_) |((with_reducible show av _ _ _ _ _ _ _ _);refine ah.call o2 rfl rfl ?_) |((with_reducible show av _ _ _ _ _ _ _ _);refine ah.call o3 rfl rfl ?_) |refine u2 ?_ |fail)
    exact ⟨[_,_,_],⟨Fz.deep rfl,Fz.deep rfl,Fz.deep rfl,trivial⟩,rfl⟩
   | false =>
    rw [e3] at o3
    cases e4:fH 1 8 [s.row] with
    | true =>
     rw [e4] at o4
     rw [iK (by unfold cP;rw [e1,e2,e3,e4];simp)]
     refine ah.body (fn:=Tryd.f13) rfl rfl rfl rfl ?_
     refine aa (mu:=fun _=>false) ?_
     repeat' (first |refine u1 ?_ |((with_reducible show av _ _ _ _ _ _ _ _);refine ah.call o1 rfl rfl ?_) |((with_reducible show av _ _ _ _ _ _ _ _);refine ah.call o2 rfl rfl ?_) |((with_reducible show av _ _ _ _ _ _ _ _);refine ah.call o3 rfl rfl ?_) |((with_reducible show av _ _ _ _ _ _ _ _);refine ah.call o4 rfl rfl ?_) |refine u2 ?_ |fail)
     exact ⟨[_,_,_],⟨Fz.deep rfl,Fz.deep rfl,Fz.deep rfl,trivial⟩,rfl⟩
    | false =>
     rw [e4] at o4
     have hb:cP s=false:=by unfold cP;rw [e1,e2,e3,e4];rfl
     cases e5:fH 1 3 [(s.needs.length:Int)] with
     | true =>
      rw [Bz hb e5]
      rw [e5,←eg] at o5
      refine ah.body (fn:=Tryd.f13) rfl rfl rfl rfl ?_
      refine aa (mu:=fun _=>false) ?_
      repeat' (first |refine u1 ?_ |((with_reducible show av _ _ _ _ _ _ _ _);refine ah.call o1 rfl rfl ?_) |((with_reducible show av _ _ _ _ _ _ _ _);refine ah.call o2 rfl rfl ?_) |((with_reducible show av _ _ _ _ _ _ _ _);refine ah.call o3 rfl rfl ?_) |((with_reducible show av _ _ _ _ _ _ _ _);refine ah.call o4 rfl rfl ?_) |((with_reducible show av _ _ _ _ _ _ _ _);refine ah.call o5 rfl rfl ?_) |refine u2 ?_ |fail)
      exact ⟨[_,_,_],⟨Fz.deep rfl,Fz.deep rfl,Fz.deep rfl,trivial⟩,rfl⟩
     | false =>
      rw [e5,←eg] at o5
      have hn3:s.needs.length≤3:=by
       have:=cB e5
       omega
      obtain ⟨n,hn⟩:∃ n:Int,n=s.needs.length:=⟨_,rfl⟩
      refine ah.body (fn:=Tryd.f13) rfl rfl rfl rfl ?_
      refine aa (mu:=fun _=>false) ?_
      repeat' (first |refine u1 ?_ |((with_reducible show av _ _ _ _ _ _ _ _);refine ah.call o1 rfl rfl ?_) |((with_reducible show av _ _ _ _ _ _ _ _);refine ah.call o2 rfl rfl ?_) |((with_reducible show av _ _ _ _ _ _ _ _);refine ah.call o3 rfl rfl ?_) |((with_reducible show av _ _ _ _ _ _ _ _);refine ah.call o4 rfl rfl ?_) |((with_reducible show av _ _ _ _ _ _ _ _);refine ah.call o5 rfl rfl ?_) |refine u2 ?_ |fail)
      refine aA.aU (ak.to (l:=[(1,.pt (ay s) 0),(37,.sl (s.needs.map aR) false),(38,aC n),(39,aC (0:Nat))]) (hp:=[]) 0 rfl ⟨rfl,rfl,bM (by rw [hn];exact eg),rfl,trivial⟩ (Nat.zero_le _) rfl rfl) ?_
      refine aA.loop (fun k:Nat=>k≤s.needs.length∧∀ i,i < k→eW s i=0) (fun k=>⟨bu [(1,.pt (ay s) 0),(37,.sl (s.needs.map aR) false),(38,aC n),(39,aC (k:Nat))],[],bR.none,false,0⟩) (fun k=>s.needs.length - k) ?_ 0 ⟨Nat.zero_le _,fun i hi=>absurd hi (Nat.not_lt_zero _)⟩
      rintro k ⟨hk,hprev⟩
      refine aa (mu:=fun _=>false) ?_
      by_cases hlt:k < s.needs.length
      ·have d1:decide ((k:Int) < n)=true:=decide_eq_true (by omega)
       have hat:(s.needs.map aR)[((k:Nat):Int).toNat]?=some (aR s.needs[k]):=bY hlt
       have hga:eW s k=fX s.needs[k] (s.needs.take k):=by unfold eW;rw [List.getElem?_eq_getElem hlt]
       have hnm:=N7 one s.needs[k].name (h.names _ (List.getElem_mem hlt))
       have hcf:∀ f,Pu one 42 [.sl ((s.needs.take k).map aR) f,.fn 43 [] [.pt (aR s.needs[k]) 0]] (BB ((s.needs.take k).any fun x=>Db x.name s.needs[k].name)):=fun f=>rM one 43 [] [.pt (aR s.needs[k]) 0] rfl (fun x=>Db x.name s.needs[k].name) (s.needs.take k) f (by simp [maxLen];omega) (fun x _=>Jf one s.needs[k] x)
       have hsl:((s.needs.map aR).drop 0).take (k - 0)=(s.needs.take k).map aR:=by
        rw [List.drop_zero,Nat.sub_zero,List.map_take]
       rw [←hsl] at hcf
       have hkl:0≤k∧k≤(s.needs.map aR).length:=⟨Nat.zero_le _,by rw [List.length_map];omega⟩
       have hel4:∀ el ∈ s.needs.map aR,el.length=4:=fun el hel=>by obtain ⟨x,_,rfl⟩:=List.mem_map.1 hel;rfl
       have fin:∀ v,eW s k=v→v ≠ 0→iM s=(2,(k:Int),v):=fun v e hv=>Dc hb e5 hlt hprev e hv
       have o6:=iq one 1 60 s.needs[k].full
       have o7:=iq one 0 s.needs[k].full s.needs[k].first
       have o8:=iq one 1 30 s.needs[k].weight
       generalize s.needs[k]=g at *
       cases q1:iV g.name with
       | false =>
        rw [q1] at hnm
        rw [fin 6 (by rw [hga];unfold fX;rw [if_pos q1]) (by decide)]
        repeat' (first |((with_reducible show av _ _ _ _ _ _ _ _);refine ah.call hnm rfl rfl ?_) |((with_reducible show av _ _ _ _ _ _ _ _);refine ah.call o6 rfl rfl ?_) |((with_reducible show av _ _ _ _ _ _ _ _);refine ah.call o7 rfl rfl ?_) |((with_reducible show av _ _ _ _ _ _ _ _);refine ah.call o8 rfl rfl ?_) |refine u1 ?_ |((with_reducible show RM.wpOp _ _ (.indexAddr _ _ _) _ _ _);refine ⟨aR g,⟨by omega,hat⟩,rfl,?_⟩) |(refine ⟨0,k,rfl,rfl,hkl,(by decide),hel4,?_⟩) |((with_reducible show av _ _ _ _ _ _ _ _);refine ah.xJ (hcf _) (Fq.deep rfl) (gR.cons (Fq.deep rfl) (gR.cons (gR.OZ gR.nil (gR.cons (Fq.ptr rfl rfl) gR.nil)) gR.nil)) (fm.fl _) ?_) |refine u2 ?_ |fail)
        exact ⟨[_,_,_],⟨Fz.deep rfl,Fz.deep rfl,Fz.deep rfl,trivial⟩,rfl⟩
       | true =>
        rw [q1] at hnm
        have q1':¬ iV g.name=false:=by rw [q1];simp
        cases q2:(s.needs.take k).any fun x=>Db x.name g.name with
        | true =>
         simp only [q2] at hcf
         rw [fin 5 (by rw [hga];unfold fX;rw [if_neg q1',if_pos q2]) (by decide)]
         repeat' (first |((with_reducible show av _ _ _ _ _ _ _ _);refine ah.call hnm rfl rfl ?_) |((with_reducible show av _ _ _ _ _ _ _ _);refine ah.call o6 rfl rfl ?_) |((with_reducible show av _ _ _ _ _ _ _ _);refine ah.call o7 rfl rfl ?_) |((with_reducible show av _ _ _ _ _ _ _ _);refine ah.call o8 rfl rfl ?_) |refine u1 ?_ |((with_reducible show RM.wpOp _ _ (.indexAddr _ _ _) _ _ _);refine ⟨aR g,⟨by omega,hat⟩,rfl,?_⟩) |(refine ⟨0,k,rfl,rfl,hkl,(by decide),hel4,?_⟩) |((with_reducible show av _ _ _ _ _ _ _ _);refine ah.xJ (hcf _) (Fq.deep rfl) (gR.cons (Fq.deep rfl) (gR.cons (gR.OZ gR.nil (gR.cons (Fq.ptr rfl rfl) gR.nil)) gR.nil)) (fm.fl _) ?_) |refine u2 ?_ |fail)
         exact ⟨[_,_,_],⟨Fz.deep rfl,Fz.deep rfl,Fz.deep rfl,trivial⟩,rfl⟩
        | false =>
         simp only [q2] at hcf
         have q2':¬ ((s.needs.take k).any fun x=>Db x.name g.name)=true:=by rw [q2];simp
         cases q3:fH 1 60 [g.full] with
         | true =>
          rw [q3] at o6
          rw [fin 7 (by rw [hga];unfold fX;rw [if_neg q1',if_neg q2',if_pos (by rw [q3];rfl)]) (by decide)]
          repeat' (first |((with_reducible show av _ _ _ _ _ _ _ _);refine ah.call hnm rfl rfl ?_) |((with_reducible show av _ _ _ _ _ _ _ _);refine ah.call o6 rfl rfl ?_) |((with_reducible show av _ _ _ _ _ _ _ _);refine ah.call o7 rfl rfl ?_) |((with_reducible show av _ _ _ _ _ _ _ _);refine ah.call o8 rfl rfl ?_) |refine u1 ?_ |((with_reducible show RM.wpOp _ _ (.indexAddr _ _ _) _ _ _);refine ⟨aR g,⟨by omega,hat⟩,rfl,?_⟩) |(refine ⟨0,k,rfl,rfl,hkl,(by decide),hel4,?_⟩) |((with_reducible show av _ _ _ _ _ _ _ _);refine ah.xJ (hcf _) (Fq.deep rfl) (gR.cons (Fq.deep rfl) (gR.cons (gR.OZ gR.nil (gR.cons (Fq.ptr rfl rfl) gR.nil)) gR.nil)) (fm.fl _) ?_) |refine u2 ?_ |fail)
          exact ⟨[_,_,_],⟨Fz.deep rfl,Fz.deep rfl,Fz.deep rfl,trivial⟩,rfl⟩
         | false =>
          rw [q3] at o6
          cases q4:fH 0 g.full [g.first] with
          | true =>
           rw [q4] at o7
           rw [fin 7 (by rw [hga];unfold fX;rw [if_neg q1',if_neg q2',if_pos (by rw [q3,q4];rfl)]) (by decide)]
           repeat' (first |((with_reducible show av _ _ _ _ _ _ _ _);refine ah.call hnm rfl rfl ?_) |((with_reducible show av _ _ _ _ _ _ _ _);refine ah.call o6 rfl rfl ?_) |((with_reducible show av _ _ _ _ _ _ _ _);refine ah.call o7 rfl rfl ?_) |((with_reducible show av _ _ _ _ _ _ _ _);refine ah.call o8 rfl rfl ?_) |refine u1 ?_ |((with_reducible show RM.wpOp _ _ (.indexAddr _ _ _) _ _ _);refine ⟨aR g,⟨by omega,hat⟩,rfl,?_⟩) |(refine ⟨0,k,rfl,rfl,hkl,(by decide),hel4,?_⟩) |((with_reducible show av _ _ _ _ _ _ _ _);refine ah.xJ (hcf _) (Fq.deep rfl) (gR.cons (Fq.deep rfl) (gR.cons (gR.OZ gR.nil (gR.cons (Fq.ptr rfl rfl) gR.nil)) gR.nil)) (fm.fl _) ?_) |refine u2 ?_ |fail)
           exact ⟨[_,_,_],⟨Fz.deep rfl,Fz.deep rfl,Fz.deep rfl,trivial⟩,rfl⟩
          | false =>
           rw [q4] at o7
           cases q5:fH 1 30 [g.weight] with
           | true =>
            rw [q5] at o8
            rw [fin 7 (by rw [hga];unfold fX;rw [if_neg q1',if_neg q2',if_pos (by rw [q3,q4,q5];rfl)]) (by decide)]
            repeat' (first |((with_reducible show av _ _ _ _ _ _ _ _);refine ah.call hnm rfl rfl ?_) |((with_reducible show av _ _ _ _ _ _ _ _);refine ah.call o6 rfl rfl ?_) |((with_reducible show av _ _ _ _ _ _ _ _);refine ah.call o7 rfl rfl ?_) |((with_reducible show av _ _ _ _ _ _ _ _);refine ah.call o8 rfl rfl ?_) |refine u1 ?_ |((with_reducible show RM.wpOp _ _ (.indexAddr _ _ _) _ _ _);refine ⟨aR g,⟨by omega,hat⟩,rfl,?_⟩) |(refine ⟨0,k,rfl,rfl,hkl,(by decide),hel4,?_⟩) |((with_reducible show av _ _ _ _ _ _ _ _);refine ah.xJ (hcf _) (Fq.deep rfl) (gR.cons (Fq.deep rfl) (gR.cons (gR.OZ gR.nil (gR.cons (Fq.ptr rfl rfl) gR.nil)) gR.nil)) (fm.fl _) ?_) |refine u2 ?_ |fail)
            exact ⟨[_,_,_],⟨Fz.deep rfl,Fz.deep rfl,Fz.deep rfl,trivial⟩,rfl⟩
           | false =>
            rw [q5] at o8
            have e0:eW s k=0:=by rw [hga];unfold fX;rw [if_neg q1',if_neg q2',if_neg (by rw [q3,q4,q5];simp)]
            repeat' (first |((with_reducible show av _ _ _ _ _ _ _ _);refine ah.call hnm rfl rfl ?_) |((with_reducible show av _ _ _ _ _ _ _ _);refine ah.call o6 rfl rfl ?_) |((with_reducible show av _ _ _ _ _ _ _ _);refine ah.call o7 rfl rfl ?_) |((with_reducible show av _ _ _ _ _ _ _ _);refine ah.call o8 rfl rfl ?_) |refine u1 ?_ |((with_reducible show RM.wpOp _ _ (.indexAddr _ _ _) _ _ _);refine ⟨aR g,⟨by omega,hat⟩,rfl,?_⟩) |(refine ⟨0,k,rfl,rfl,hkl,(by decide),hel4,?_⟩) |((with_reducible show av _ _ _ _ _ _ _ _);refine ah.xJ (hcf _) (Fq.deep rfl) (gR.cons (Fq.deep rfl) (gR.cons (gR.OZ gR.nil (gR.cons (Fq.ptr rfl rfl) gR.nil)) gR.nil)) (fm.fl _) ?_) |refine u2 ?_ |fail)
            refine ⟨k+1,⟨hlt,fun i hi=>?_⟩,(by dsimp only;omega),ak.to 0 rfl ⟨rfl,rfl,rfl,bM (by simp),trivial⟩ (Nat.zero_le _) rfl rfl⟩
            by_cases hik:i=k
            ·subst hik;exact e0
            ·exact hprev i (by omega)
      ·have d1:decide ((k:Int) < n)=false:=decide_eq_false (by omega)
       have hkn:k=s.needs.length:=by omega
       subst hkn
       have ep:((ints s.possible).length:Int)=s.possible.length:=by simp
       have mp:s.possible.length≤9223372036854775807:=Nat.le_trans h.possible (by simp [maxLen])
       by_cases h6:6 < s.possible.length
       ·have d2:decide (6 < ((ints s.possible).length:Int))=true:=decide_eq_true (by rw [ep];omega)
        rw [BA hb e5 hprev h6]
        repeat' (first |refine u1 ?_ |refine u2 ?_ |fail)
        exact ⟨[_,_,_],⟨Fz.deep rfl,Fz.deep rfl,Fz.deep rfl,trivial⟩,rfl⟩
       ·have d2:decide (6 < ((ints s.possible).length:Int))=false:=decide_eq_false (by rw [ep];omega)
        rw [vp hb e5 hprev h6]
        have hd:=cB e1
        have ha:=Mz one s.possible false s.days 7 h.possible (by omega) (by decide)
        cases e6:decide ((di s.possible.length (fo s.possible s.days 7)).2=0) with
        | true =>
         have e7:=of_decide_eq_true e6
         rw [if_neg (by rw [e7];simp)]
         rw [e7] at ha
         repeat' (first |refine u1 ?_ |((with_reducible show av _ _ _ _ _ _ _ _);refine ah.call ha rfl rfl ?_) |refine u2 ?_ |fail)
         exact ⟨[_,_,_],⟨Fz.deep rfl,Fz.deep rfl,Fz.deep rfl,trivial⟩,rfl⟩
        | false =>
         have e7:=of_decide_eq_false e6
         have d3:(!decide ((di s.possible.length (fo s.possible s.days 7)).2=0))=true:=by rw [e6];rfl
         rw [if_pos e7]
         repeat' (first |refine u1 ?_ |((with_reducible show av _ _ _ _ _ _ _ _);refine ah.call ha rfl rfl ?_) |refine u2 ?_ |fail)
         exact ⟨[_,_,_],⟨Fz.deep rfl,Fz.deep rfl,Fz.deep rfl,trivial⟩,rfl⟩
end Go.Proofs.YtpeogffeoehboaaDoor
open Go Go.RM
namespace Go.Proofs.YtpeogffeoehboaaDoor
set_option maxRecDepth 100000
theorem vq {l:List Int} {many below:Int} {k:Nat} (hk:k < l.length) (h:nA l[k] 0 (many - 1)=false):fo l many below k=below:=by
 have h1:=bD l[k] 0 (many - 1)
 unfold fo
 have hg:l.getD k 0=l[k]:=by simp [List.getD,hk]
 rw [hg,h1,h]
 rfl
theorem Jg {l:List Int} {many below:Int} (hk:0 < l.length) (h:nA l[0] 0 (many - 1)=true):fo l many below 0=0:=by
 have h1:=bD l[0] 0 (many - 1)
 have h2:=ku.1 h
 unfold fo
 have hg:l.getD 0 0=l[0]:=by simp [List.getD,hk]
 rw [hg,h1,h]
 show (if l[0]≤(-1:Int) then (2:Int) else 0)=0
 rw [if_neg (by omega)]
theorem Dd {l:List Int} {many below:Int} {k:Nat} (hk:k+1 < l.length) (h:nA l[k+1] 0 (many - 1)=true):fo l many below (k+1)=if l[k+1]≤l[k] then 2 else 0:=by
 have h1:=bD l[k+1] 0 (many - 1)
 unfold fo
 have hg:l.getD (k+1) 0=l[k+1]:=by simp [List.getD,hk]
 have hp:qy l (k+1)=l[k]:=by
  show l.getD k 0=l[k]
  simp [List.getD,(by omega:k < l.length)]
 rw [hg,hp,h1,h]
 rfl
def zA (x:jR) (before:List jR):Int :=
 if lz x.name (before.map (·.name)) ≠ 0 then lz x.name (before.map (·.name))
 else if nA x.full 1 60=false∨nA x.first 0 x.full=false∨nA x.weight 1 30=false then 7 else 0
theorem KK (x:jR) (before:List jR):fX x before=zA x before:=by
 unfold fX zA lz
 rw [List.any_map]
 have e1:(List.any before ((fun y=>Db y x.name) ∘ fun y=>y.name))=before.any fun y=>Db y.name x.name:=rfl
 rw [e1]
 cases iV x.name with
 | false=>simp
 | true =>
  cases (before.any fun y=>Db y.name x.name) with
  | true=>simp
  | false =>
   rw [bD,bD,bD]
   cases nA x.full 1 60 <;> cases nA x.first 0 x.full <;> cases nA x.weight 1 30 <;> simp
def fI (l:List jR):List AV:=l.map fun x=>ST x.name
theorem BC {s:ai} {k:Nat} (h:k < s.needs.length):fI (s.needs.take (k+1))=fI (s.needs.take k)++[ST s.needs[k].name]:=by
 unfold fI
 rw [List.take_add_one,List.getElem?_eq_getElem h,List.map_append]
 rfl
theorem vr (l:List jR):((l.map (·.name)).map eS).flatten=fI l:=by
 induction l with
 | nil=>rfl
 | cons a l ih =>
  simp only [List.map_cons,List.flatten_cons,ih]
  rfl
theorem BD (l:List jR):cK (fI l)=true:=by
 induction l with
 | nil=>rfl
 | cons a l ih=>exact ih
theorem De (n:Nat) (l:List jR):nu n (fI l)=true:=by
 induction l with
 | nil=>rfl
 | cons a l ih=>exact ih
theorem Fw {B:List AB} (l:List jR) {n v c:Nat} (h:l.length=n):Fz (.cells (fI l) 1 v :: B) (.bO 0 v 0 n c) (.sl ((l.map (·.name)).map eS) false) :=
 Fz.row (es:=1) rfl (by unfold fI;simp;omega) (by simp;omega) (fun el hel=>by obtain ⟨x,_,rfl⟩:=List.mem_map.1 hel;rfl) (by rw [vr,List.drop_zero,List.take_of_length_le (by unfold fI;simp;omega)]) (by rw [vr];exact BD _) (fun h=>Bool.noConfusion h)
theorem xO (l:List jR) (v:Nat):([.cells (fI l) 1 v]:List AB).all (AB.gS 1)=true:=by
 have h:AB.gS 1 (.cells (fI l) 1 v)=true:=De 1 l
 simp only [List.all_cons,List.all_nil,h,Bool.and_true]
end Go.Proofs.YtpeogffeoehboaaDoor
