/-
  Contracts of the program's functions and of the document's. Lemmas alone; their conditions stand in them.
-/
import Derived.Test.YtpeogffeoehboaaGreatDoorA3
import Derived.Test.YtpeogffeoehboaaGreatDoorK1
open Go Go.RM
namespace Go.Proofs.YtpeogffeoehboaaGreatDoor
set_option maxRecDepth 100000
set_option maxHeartbeats 4000000
theorem NP (one:Bool) (lo hi:Int) (l:List Int) (h:l.length≤maxLen):Pu one 61 [aA lo,aA hi,.sl (l.map eI) true] (BB (fH lo hi l)):=by
 have:=EW one lo hi (l.map eI) true (by rw [List.all_map,List.all_eq_true];intro x _;rfl) (by simpa using h)
 rw [show (l.map eI).map NL=l by rw [List.map_map];exact List.map_id _] at this
 exact this
theorem iu (one:Bool) (lo hi a:Int):Pu one 61 [aA lo,aA hi,.sl [eI a] true] (BB (fH lo hi [a])):=NP one lo hi [a] (by simp [maxLen])
theorem cD {lo hi a:Int} (h:fH lo hi [a]=false):lo≤a∧a≤hi:=by
 rw [bD] at h
 have h2:nD a lo hi=true:=by cases e:nD a lo hi with|true=>rfl|false=>rw [e] at h;cases h
 exact mz.1 h2
def sV (l:List Int) (i:Nat):Int:=if i=0 then -1 else l.getD (i - 1) 0
def fo (l:List Int) (many below:Int) (i:Nat):Int :=
 if fH 0 (many - 1) [l.getD i 0]=true then below else if l.getD i 0≤sV l i then 2 else 0
theorem Mj (one:Bool) (l:List Int) (full:Bool) (many below:Int) (hl:l.length≤maxLen) (hm:-9223372036854775807≤many∧many≤9223372036854775807) (hb:below ≠ 0) :
  Pu one 66 [.sl (ints l) full,aA many,aA below] (.tp [aA (cZ l.length (fo l many below)).1,aA (cZ l.length (fo l many below)).2]):=by
 have ml:l.length≤9223372036854775807:=Nat.le_trans hl (by simp [maxLen])
 have eg:((ints l).length:Int)=l.length:=by simp
 obtain ⟨n,hn⟩:∃ n:Int,n=l.length:=⟨_,rfl⟩
 refine ah.body (fn:=Tryz.f66) rfl rfl rfl rfl ?_
 refine aa (mu:=fun _=>false) ?_
 repeat' (first |refine u1 ?_ |refine u2 ?_ |fail)
 refine aB.aJ (ai.to (l:=[(1,aA many),(2,aA below),(8,aA (sV l 0)),(11,.sl (ints l) full),(12,aA n),(13,aA (0:Nat))]) (hp:=[]) 0 rfl ⟨rfl,rfl,rfl,rfl,aV (by rw [hn];exact eg),rfl,trivial⟩ (Nat.zero_le _) rfl rfl) ?_
 refine aB.loop (fun k:Nat=>k≤l.length∧∀ i,i < k→fo l many below i=0) (fun k=>⟨aS [(1,aA many),(2,aA below),(8,aA (sV l k)),(11,.sl (ints l) full),(12,aA n),(13,aA (k:Nat))],[],bJ.none,false,0⟩) (fun k=>l.length - k) ?_ 0 ⟨Nat.zero_le _,fun i hi=>absurd hi (Nat.not_lt_zero _)⟩
 rintro k ⟨hk,hprev⟩
 refine aa (mu:=fun _=>false) ?_
 by_cases hlt:k < l.length
 ·have d1:decide ((k:Int) < n)=true:=decide_eq_true (by omega)
  have hat:(ints l)[((k:Nat):Int).toNat]?=some (eI l[k]):=bl hlt
  have hg:l.getD k 0=l[k]:=by simp [List.getD,hlt]
  have hp:sV l (k+1)=l[k]:=by unfold sV;rw [if_neg (by omega),Nat.add_sub_cancel,hg]
  have hm1:-9223372036854775808≤many - 1∧many - 1≤9223372036854775807:=by omega
  have o1:=iu one 0 (many - 1) l[k]
  have hA:fo l many below k=if fH 0 (many - 1) [l[k]]=true then below else if l[k]≤sV l k then 2 else 0:=by unfold fo;rw [hg]
  have fin:∀ v,fo l many below k=v→v ≠ 0→cZ l.length (fo l many below)=((k:Int),v):=fun v e hv=>by
   rw [gw hlt hprev (by rw [e];exact hv),e]
  generalize l[k]=g at *
  generalize sV l k=p at *
  cases q1:fH 0 (many - 1) [g] with
  | true =>
   rw [q1] at o1
   rw [fin below (by rw [hA,if_pos q1]) hb]
   repeat' (first |((with_reducible show ax _ _ _ _ _ _ _ _);refine ah.call o1 rfl rfl ?_) |refine u1 ?_ |((with_reducible show RM.wpOp _ _ (.indexAddr _ _ _) _ _ _);refine ⟨eI g,⟨by omega,hat⟩,rfl,?_⟩) |refine u2 ?_ |fail)
   exact ⟨[_,_],⟨Fz.deep rfl,Fz.deep rfl,trivial⟩,rfl⟩
  | false =>
   rw [q1] at o1
   cases q2:decide (g≤p) with
   | true =>
    rw [fin 2 (by rw [hA,if_neg (by rw [q1];simp),if_pos (of_decide_eq_true q2)]) (by decide)]
    repeat' (first |((with_reducible show ax _ _ _ _ _ _ _ _);refine ah.call o1 rfl rfl ?_) |refine u1 ?_ |((with_reducible show RM.wpOp _ _ (.indexAddr _ _ _) _ _ _);refine ⟨eI g,⟨by omega,hat⟩,rfl,?_⟩) |refine u2 ?_ |fail)
    exact ⟨[_,_],⟨Fz.deep rfl,Fz.deep rfl,trivial⟩,rfl⟩
   | false =>
    have e0:fo l many below k=0:=by rw [hA,if_neg (by rw [q1];simp),if_neg (of_decide_eq_false q2)]
    repeat' (first |((with_reducible show ax _ _ _ _ _ _ _ _);refine ah.call o1 rfl rfl ?_) |refine u1 ?_ |((with_reducible show RM.wpOp _ _ (.indexAddr _ _ _) _ _ _);refine ⟨eI g,⟨by omega,hat⟩,rfl,?_⟩) |refine u2 ?_ |fail)
    refine ⟨k+1,⟨hlt,fun i hi=>?_⟩,(by dsimp only;omega),ai.to 0 rfl ⟨rfl,rfl,aV hp.symm,rfl,rfl,aV (by simp),trivial⟩ (Nat.zero_le _) rfl rfl⟩
    by_cases hik:i=k
    ·rw [hik];exact e0
    ·exact hprev i (by omega)
 ·have hke:k=l.length:=by omega
  have d1:decide ((k:Int) < n)=false:=decide_eq_false (by omega)
  rw [fm (fun i hi=>hprev i (by omega))]
  repeat' (first |refine u1 ?_ |refine u2 ?_ |fail)
  exact ⟨[_,_],⟨Fz.deep rfl,Fz.deep rfl,trivial⟩,rfl⟩
theorem IQ (one:Bool) (k x:jX):ah TT TB one (.fn 65 [] [.pt (aH k) 0]) [.ag (aH x)] (BB (C7 x.name k.name)):=by
 refine ah.body (fn:=Tryz.f65) rfl rfl rfl rfl ?_
 refine aa (mu:=fun _=>false) ?_
 repeat' (first |refine u1 ?_ |refine u2 ?_ |fail)
 exact ⟨[_],⟨Fz.deep rfl,trivial⟩,rfl⟩
def fV (x:jX) (before:List jX):Int :=
 if jc x.name=false then 6
 else if (before.any fun y=>C7 y.name x.name)=true then 5
 else if (fH 1 60 [x.full] || fH 0 x.full [x.first] || fH 1 30 [x.weight])=true then 7
 else 0
def eM (s:au) (i:Nat):Int:=match s.needs[i]? with
 | some x=>fV x (s.needs.take i)
 | none=>0
def cM (s:au):Bool:=fH 1 60 [s.days] || fH 1 30 [s.load] || fH 0 8 [s.fail] || fH 1 8 [s.row]
def nE (s:au):Int × Int × Int :=
 if cM s=true then (1,0,7)
 else if fH 1 3 [(s.needs.length:Int)]=true then (2,0,3)
 else if (cZ s.needs.length (eM s)).2 ≠ 0 then (2,(cZ s.needs.length (eM s)).1,(cZ s.needs.length (eM s)).2)
 else if 6 < s.possible.length then (3,0,3)
 else if (cZ s.possible.length (fo s.possible s.days 7)).2 ≠ 0 then (3,(cZ s.possible.length (fo s.possible s.days 7)).1,(cZ s.possible.length (fo s.possible s.days 7)).2)
 else (0,0,0)
structure au.Ok (s:au):Prop where
 needs:s.needs.length≤maxLen
 names:∀ x ∈ s.needs,x.name.data.toList.length≤maxLen
 possible:s.possible.length≤maxLen
theorem iJ {s:au} (h:cM s=true):nE s=(1,0,7):=by unfold nE;rw [if_pos h]
theorem BI {s:au} (h:cM s=false) (h1:fH 1 3 [(s.needs.length:Int)]=true):nE s=(2,0,3):=by unfold nE;rw [if_neg (by rw [h];simp),if_pos h1]
theorem C8 {s:au} (h:cM s=false) (h1:fH 1 3 [(s.needs.length:Int)]=false) {k:Nat} {v:Int} (hk:k < s.needs.length) (hprev:∀ i,i < k→eM s i=0) (hv:eM s k=v) (h0:v ≠ 0):nE s=(2,(k:Int),v):=by
 unfold nE
 rw [if_neg (by rw [h];simp),if_neg (by rw [h1];simp),gw hk hprev (by rw [hv];exact h0),hv,if_pos h0]
theorem BJ {s:au} (h:cM s=false) (h1:fH 1 3 [(s.needs.length:Int)]=false) (hprev:∀ i,i < s.needs.length→eM s i=0) (h2:6 < s.possible.length):nE s=(3,0,3):=by
 unfold nE
 rw [if_neg (by rw [h];simp),if_neg (by rw [h1];simp),fm hprev,if_neg (by simp),if_pos h2]
theorem vE {s:au} (h:cM s=false) (h1:fH 1 3 [(s.needs.length:Int)]=false) (hprev:∀ i,i < s.needs.length→eM s i=0) (h2:¬ 6 < s.possible.length) :
  nE s=if (cZ s.possible.length (fo s.possible s.days 7)).2 ≠ 0 then (3,(cZ s.possible.length (fo s.possible s.days 7)).1,(cZ s.possible.length (fo s.possible s.days 7)).2) else (0,0,0):=by
 unfold nE
 rw [if_neg (by rw [h];simp),if_neg (by rw [h1];simp),fm hprev,if_neg (by simp),if_neg h2]
theorem Ku (one:Bool) (s:au) (h:s.Ok):Pu one 43 [.ag (ak s)] (.tp [aA (nE s).1,aA (nE s).2.1,aA (nE s).2.2]):=by
 have eg:((s.needs.map aH).length:Int)=s.needs.length:=by simp
 have o1:=iu one 1 60 s.days
 have o2:=iu one 1 30 s.load
 have o3:=iu one 0 8 s.fail
 have o4:=iu one 1 8 s.row
 have o5:=iu one 1 3 ((s.needs.map aH).length:Int)
 rw [eg] at o5
 cases e1:fH 1 60 [s.days] with
 | true =>
  rw [e1] at o1
  rw [iJ (by unfold cM;rw [e1];simp)]
  refine ah.body (fn:=Tryz.f43) rfl rfl rfl rfl ?_
  refine aa (mu:=fun _=>false) ?_
  repeat' (first |refine u1 ?_ |((with_reducible show ax _ _ _ _ _ _ _ _);refine ah.call o1 rfl rfl ?_) |refine u2 ?_ |fail)
  exact ⟨[_,_,_],⟨Fz.deep rfl,Fz.deep rfl,Fz.deep rfl,trivial⟩,rfl⟩
 | false =>
  rw [e1] at o1
  cases e2:fH 1 30 [s.load] with
  | true =>
   rw [e2] at o2
   rw [iJ (by unfold cM;rw [e1,e2];simp)]
   refine ah.body (fn:=Tryz.f43) rfl rfl rfl rfl ?_
   refine aa (mu:=fun _=>false) ?_
   repeat' (first |refine u1 ?_ |((with_reducible show ax _ _ _ _ _ _ _ _);refine ah.call o1 rfl rfl ?_) |((with_reducible show ax _ _ _ _ _ _ _ _);refine ah.call o2 rfl rfl ?_) |refine u2 ?_ |fail)
   exact ⟨[_,_,_],⟨Fz.deep rfl,Fz.deep rfl,Fz.deep rfl,trivial⟩,rfl⟩
  | false =>
   rw [e2] at o2
   cases e3:fH 0 8 [s.fail] with
   | true =>
    rw [e3] at o3
    rw [iJ (by unfold cM;rw [e1,e2,e3];simp)]
    refine ah.body (fn:=Tryz.f43) rfl rfl rfl rfl ?_
    refine aa (mu:=fun _=>false) ?_
    repeat' (first |refine u1 ?_ |((with_reducible show ax _ _ _ _ _ _ _ _);refine ah.call o1 rfl rfl ?_) |((with_reducible show ax _ _ _ _ _ _ _ _);refine ah.call o2 rfl rfl ?_) |((with_reducible show ax _ _ _ _ _ _ _ _);refine ah.call o3 rfl rfl ?_) |refine u2 ?_ |fail)
    exact ⟨[_,_,_],⟨Fz.deep rfl,Fz.deep rfl,Fz.deep rfl,trivial⟩,rfl⟩
   | false =>
    rw [e3] at o3
    cases e4:fH 1 8 [s.row] with
    | true =>
     rw [e4] at o4
     rw [iJ (by unfold cM;rw [e1,e2,e3,e4];simp)]
     refine ah.body (fn:=Tryz.f43) rfl rfl rfl rfl ?_
     refine aa (mu:=fun _=>false) ?_
     repeat' (first |refine u1 ?_ |((with_reducible show ax _ _ _ _ _ _ _ _);refine ah.call o1 rfl rfl ?_) |((with_reducible show ax _ _ _ _ _ _ _ _);refine ah.call o2 rfl rfl ?_) |((with_reducible show ax _ _ _ _ _ _ _ _);refine ah.call o3 rfl rfl ?_) |((with_reducible show ax _ _ _ _ _ _ _ _);refine ah.call o4 rfl rfl ?_) |refine u2 ?_ |fail)
     exact ⟨[_,_,_],⟨Fz.deep rfl,Fz.deep rfl,Fz.deep rfl,trivial⟩,rfl⟩
    | false =>
     rw [e4] at o4
     have hb:cM s=false:=by unfold cM;rw [e1,e2,e3,e4];rfl
     cases e5:fH 1 3 [(s.needs.length:Int)] with
     | true =>
      rw [BI hb e5]
      rw [e5,←eg] at o5
      refine ah.body (fn:=Tryz.f43) rfl rfl rfl rfl ?_
      refine aa (mu:=fun _=>false) ?_
      repeat' (first |refine u1 ?_ |((with_reducible show ax _ _ _ _ _ _ _ _);refine ah.call o1 rfl rfl ?_) |((with_reducible show ax _ _ _ _ _ _ _ _);refine ah.call o2 rfl rfl ?_) |((with_reducible show ax _ _ _ _ _ _ _ _);refine ah.call o3 rfl rfl ?_) |((with_reducible show ax _ _ _ _ _ _ _ _);refine ah.call o4 rfl rfl ?_) |((with_reducible show ax _ _ _ _ _ _ _ _);refine ah.call o5 rfl rfl ?_) |refine u2 ?_ |fail)
      exact ⟨[_,_,_],⟨Fz.deep rfl,Fz.deep rfl,Fz.deep rfl,trivial⟩,rfl⟩
     | false =>
      rw [e5,←eg] at o5
      have hn3:s.needs.length≤3:=by
       have:=cD e5
       omega
      obtain ⟨n,hn⟩:∃ n:Int,n=s.needs.length:=⟨_,rfl⟩
      refine ah.body (fn:=Tryz.f43) rfl rfl rfl rfl ?_
      refine aa (mu:=fun _=>false) ?_
      repeat' (first |refine u1 ?_ |((with_reducible show ax _ _ _ _ _ _ _ _);refine ah.call o1 rfl rfl ?_) |((with_reducible show ax _ _ _ _ _ _ _ _);refine ah.call o2 rfl rfl ?_) |((with_reducible show ax _ _ _ _ _ _ _ _);refine ah.call o3 rfl rfl ?_) |((with_reducible show ax _ _ _ _ _ _ _ _);refine ah.call o4 rfl rfl ?_) |((with_reducible show ax _ _ _ _ _ _ _ _);refine ah.call o5 rfl rfl ?_) |refine u2 ?_ |fail)
      refine aB.aJ (ai.to (l:=[(1,.pt (ak s) 0),(37,.sl (s.needs.map aH) false),(38,aA n),(39,aA (0:Nat))]) (hp:=[]) 0 rfl ⟨rfl,rfl,aV (by rw [hn];exact eg),rfl,trivial⟩ (Nat.zero_le _) rfl rfl) ?_
      refine aB.loop (fun k:Nat=>k≤s.needs.length∧∀ i,i < k→eM s i=0) (fun k=>⟨aS [(1,.pt (ak s) 0),(37,.sl (s.needs.map aH) false),(38,aA n),(39,aA (k:Nat))],[],bJ.none,false,0⟩) (fun k=>s.needs.length - k) ?_ 0 ⟨Nat.zero_le _,fun i hi=>absurd hi (Nat.not_lt_zero _)⟩
      rintro k ⟨hk,hprev⟩
      refine aa (mu:=fun _=>false) ?_
      by_cases hlt:k < s.needs.length
      ·have d1:decide ((k:Int) < n)=true:=decide_eq_true (by omega)
       have hat:(s.needs.map aH)[((k:Nat):Int).toNat]?=some (aH s.needs[k]):=bl hlt
       have hga:eM s k=fV s.needs[k] (s.needs.take k):=by unfold eM;rw [List.getElem?_eq_getElem hlt]
       have hnm:=NM one s.needs[k].name (h.names _ (List.getElem_mem hlt))
       have hcf:∀ f,Pu one 64 [.sl ((s.needs.take k).map aH) f,.fn 65 [] [.pt (aH s.needs[k]) 0]] (BB ((s.needs.take k).any fun x=>C7 x.name s.needs[k].name)):=fun f=>rY one 65 [] [.pt (aH s.needs[k]) 0] rfl (fun x=>C7 x.name s.needs[k].name) (s.needs.take k) f (by simp [maxLen];omega) (fun x _=>IQ one s.needs[k] x)
       have hsl:((s.needs.map aH).drop 0).take (k - 0)=(s.needs.take k).map aH:=by
        rw [List.drop_zero,Nat.sub_zero,List.map_take]
       rw [←hsl] at hcf
       have hkl:0≤k∧k≤(s.needs.map aH).length:=⟨Nat.zero_le _,by rw [List.length_map];omega⟩
       have hel4:∀ el ∈ s.needs.map aH,el.length=4:=fun el hel=>by obtain ⟨x,_,rfl⟩:=List.mem_map.1 hel;rfl
       have fin:∀ v,eM s k=v→v ≠ 0→nE s=(2,(k:Int),v):=fun v e hv=>C8 hb e5 hlt hprev e hv
       have o6:=iu one 1 60 s.needs[k].full
       have o7:=iu one 0 s.needs[k].full s.needs[k].first
       have o8:=iu one 1 30 s.needs[k].weight
       generalize s.needs[k]=g at *
       cases q1:jc g.name with
       | false =>
        rw [q1] at hnm
        rw [fin 6 (by rw [hga];unfold fV;rw [if_pos q1]) (by decide)]
        repeat' (first |((with_reducible show ax _ _ _ _ _ _ _ _);refine ah.call hnm rfl rfl ?_) |((with_reducible show ax _ _ _ _ _ _ _ _);refine ah.call o6 rfl rfl ?_) |((with_reducible show ax _ _ _ _ _ _ _ _);refine ah.call o7 rfl rfl ?_) |((with_reducible show ax _ _ _ _ _ _ _ _);refine ah.call o8 rfl rfl ?_) |refine u1 ?_ |((with_reducible show RM.wpOp _ _ (.indexAddr _ _ _) _ _ _);refine ⟨aH g,⟨by omega,hat⟩,rfl,?_⟩) |(refine ⟨0,k,rfl,rfl,hkl,(by decide),hel4,?_⟩) |((with_reducible show ax _ _ _ _ _ _ _ _);refine ah.x6 (hcf _) (Fq.deep rfl) (gP.cons (Fq.deep rfl) (gP.cons (gP.Oq gP.nil (gP.cons (Fq.ptr rfl rfl) gP.nil)) gP.nil)) (gi.fl _) ?_) |refine u2 ?_ |fail)
        exact ⟨[_,_,_],⟨Fz.deep rfl,Fz.deep rfl,Fz.deep rfl,trivial⟩,rfl⟩
       | true =>
        rw [q1] at hnm
        have q1':¬ jc g.name=false:=by rw [q1];simp
        cases q2:(s.needs.take k).any fun x=>C7 x.name g.name with
        | true =>
         simp only [q2] at hcf
         rw [fin 5 (by rw [hga];unfold fV;rw [if_neg q1',if_pos q2]) (by decide)]
         repeat' (first |((with_reducible show ax _ _ _ _ _ _ _ _);refine ah.call hnm rfl rfl ?_) |((with_reducible show ax _ _ _ _ _ _ _ _);refine ah.call o6 rfl rfl ?_) |((with_reducible show ax _ _ _ _ _ _ _ _);refine ah.call o7 rfl rfl ?_) |((with_reducible show ax _ _ _ _ _ _ _ _);refine ah.call o8 rfl rfl ?_) |refine u1 ?_ |((with_reducible show RM.wpOp _ _ (.indexAddr _ _ _) _ _ _);refine ⟨aH g,⟨by omega,hat⟩,rfl,?_⟩) |(refine ⟨0,k,rfl,rfl,hkl,(by decide),hel4,?_⟩) |((with_reducible show ax _ _ _ _ _ _ _ _);refine ah.x6 (hcf _) (Fq.deep rfl) (gP.cons (Fq.deep rfl) (gP.cons (gP.Oq gP.nil (gP.cons (Fq.ptr rfl rfl) gP.nil)) gP.nil)) (gi.fl _) ?_) |refine u2 ?_ |fail)
         exact ⟨[_,_,_],⟨Fz.deep rfl,Fz.deep rfl,Fz.deep rfl,trivial⟩,rfl⟩
        | false =>
         simp only [q2] at hcf
         have q2':¬ ((s.needs.take k).any fun x=>C7 x.name g.name)=true:=by rw [q2];simp
         cases q3:fH 1 60 [g.full] with
         | true =>
          rw [q3] at o6
          rw [fin 7 (by rw [hga];unfold fV;rw [if_neg q1',if_neg q2',if_pos (by rw [q3];rfl)]) (by decide)]
          repeat' (first |((with_reducible show ax _ _ _ _ _ _ _ _);refine ah.call hnm rfl rfl ?_) |((with_reducible show ax _ _ _ _ _ _ _ _);refine ah.call o6 rfl rfl ?_) |((with_reducible show ax _ _ _ _ _ _ _ _);refine ah.call o7 rfl rfl ?_) |((with_reducible show ax _ _ _ _ _ _ _ _);refine ah.call o8 rfl rfl ?_) |refine u1 ?_ |((with_reducible show RM.wpOp _ _ (.indexAddr _ _ _) _ _ _);refine ⟨aH g,⟨by omega,hat⟩,rfl,?_⟩) |(refine ⟨0,k,rfl,rfl,hkl,(by decide),hel4,?_⟩) |((with_reducible show ax _ _ _ _ _ _ _ _);refine ah.x6 (hcf _) (Fq.deep rfl) (gP.cons (Fq.deep rfl) (gP.cons (gP.Oq gP.nil (gP.cons (Fq.ptr rfl rfl) gP.nil)) gP.nil)) (gi.fl _) ?_) |refine u2 ?_ |fail)
          exact ⟨[_,_,_],⟨Fz.deep rfl,Fz.deep rfl,Fz.deep rfl,trivial⟩,rfl⟩
         | false =>
          rw [q3] at o6
          cases q4:fH 0 g.full [g.first] with
          | true =>
           rw [q4] at o7
           rw [fin 7 (by rw [hga];unfold fV;rw [if_neg q1',if_neg q2',if_pos (by rw [q3,q4];rfl)]) (by decide)]
           repeat' (first |((with_reducible show ax _ _ _ _ _ _ _ _);refine ah.call hnm rfl rfl ?_) |((with_reducible show ax _ _ _ _ _ _ _ _);refine ah.call o6 rfl rfl ?_) |((with_reducible show ax _ _ _ _ _ _ _ _);refine ah.call o7 rfl rfl ?_) |((with_reducible show ax _ _ _ _ _ _ _ _);refine ah.call o8 rfl rfl ?_) |refine u1 ?_ |((with_reducible show RM.wpOp _ _ (.indexAddr _ _ _) _ _ _);refine ⟨aH g,⟨by omega,hat⟩,rfl,?_⟩) |(refine ⟨0,k,rfl,rfl,hkl,(by decide),hel4,?_⟩) |((with_reducible show ax _ _ _ _ _ _ _ _);refine ah.x6 (hcf _) (Fq.deep rfl) (gP.cons (Fq.deep rfl) (gP.cons (gP.Oq gP.nil (gP.cons (Fq.ptr rfl rfl) gP.nil)) gP.nil)) (gi.fl _) ?_) |refine u2 ?_ |fail)
           exact ⟨[_,_,_],⟨Fz.deep rfl,Fz.deep rfl,Fz.deep rfl,trivial⟩,rfl⟩
          | false =>
           rw [q4] at o7
           cases q5:fH 1 30 [g.weight] with
           | true =>
            rw [q5] at o8
            rw [fin 7 (by rw [hga];unfold fV;rw [if_neg q1',if_neg q2',if_pos (by rw [q3,q4,q5];rfl)]) (by decide)]
            repeat' (first |((with_reducible show ax _ _ _ _ _ _ _ _);refine ah.call hnm rfl rfl ?_) |((with_reducible show ax _ _ _ _ _ _ _ _);refine ah.call o6 rfl rfl ?_) |((with_reducible show ax _ _ _ _ _ _ _ _);refine ah.call o7 rfl rfl ?_) |((with_reducible show ax _ _ _ _ _ _ _ _);refine ah.call o8 rfl rfl ?_) |refine u1 ?_ |((with_reducible show RM.wpOp _ _ (.indexAddr _ _ _) _ _ _);refine ⟨aH g,⟨by omega,hat⟩,rfl,?_⟩) |(refine ⟨0,k,rfl,rfl,hkl,(by decide),hel4,?_⟩) |((with_reducible show ax _ _ _ _ _ _ _ _);refine ah.x6 (hcf _) (Fq.deep rfl) (gP.cons (Fq.deep rfl) (gP.cons (gP.Oq gP.nil (gP.cons (Fq.ptr rfl rfl) gP.nil)) gP.nil)) (gi.fl _) ?_) |refine u2 ?_ |fail)
            exact ⟨[_,_,_],⟨Fz.deep rfl,Fz.deep rfl,Fz.deep rfl,trivial⟩,rfl⟩
           | false =>
            rw [q5] at o8
            have e0:eM s k=0:=by rw [hga];unfold fV;rw [if_neg q1',if_neg q2',if_neg (by rw [q3,q4,q5];simp)]
            repeat' (first |((with_reducible show ax _ _ _ _ _ _ _ _);refine ah.call hnm rfl rfl ?_) |((with_reducible show ax _ _ _ _ _ _ _ _);refine ah.call o6 rfl rfl ?_) |((with_reducible show ax _ _ _ _ _ _ _ _);refine ah.call o7 rfl rfl ?_) |((with_reducible show ax _ _ _ _ _ _ _ _);refine ah.call o8 rfl rfl ?_) |refine u1 ?_ |((with_reducible show RM.wpOp _ _ (.indexAddr _ _ _) _ _ _);refine ⟨aH g,⟨by omega,hat⟩,rfl,?_⟩) |(refine ⟨0,k,rfl,rfl,hkl,(by decide),hel4,?_⟩) |((with_reducible show ax _ _ _ _ _ _ _ _);refine ah.x6 (hcf _) (Fq.deep rfl) (gP.cons (Fq.deep rfl) (gP.cons (gP.Oq gP.nil (gP.cons (Fq.ptr rfl rfl) gP.nil)) gP.nil)) (gi.fl _) ?_) |refine u2 ?_ |fail)
            refine ⟨k+1,⟨hlt,fun i hi=>?_⟩,(by dsimp only;omega),ai.to 0 rfl ⟨rfl,rfl,rfl,aV (by simp),trivial⟩ (Nat.zero_le _) rfl rfl⟩
            by_cases hik:i=k
            ·subst hik;exact e0
            ·exact hprev i (by omega)
      ·have d1:decide ((k:Int) < n)=false:=decide_eq_false (by omega)
       have hkn:k=s.needs.length:=by omega
       subst hkn
       have ep:((ints s.possible).length:Int)=s.possible.length:=by simp
       have mp:s.possible.length≤9223372036854775807:=Nat.le_trans h.possible (by simp [maxLen])
       by_cases h6:6 < s.possible.length
       ·have d2:decide (6 < ((ints s.possible).length:Int))=true:=decide_eq_true (by rw [ep];omega)
        rw [BJ hb e5 hprev h6]
        repeat' (first |refine u1 ?_ |refine u2 ?_ |fail)
        exact ⟨[_,_,_],⟨Fz.deep rfl,Fz.deep rfl,Fz.deep rfl,trivial⟩,rfl⟩
       ·have d2:decide (6 < ((ints s.possible).length:Int))=false:=decide_eq_false (by rw [ep];omega)
        rw [vE hb e5 hprev h6]
        have hd:=cD e1
        have ha:=Mj one s.possible false s.days 7 h.possible (by omega) (by decide)
        cases e6:decide ((cZ s.possible.length (fo s.possible s.days 7)).2=0) with
        | true =>
         have e7:=of_decide_eq_true e6
         rw [if_neg (by rw [e7];simp)]
         rw [e7] at ha
         repeat' (first |refine u1 ?_ |((with_reducible show ax _ _ _ _ _ _ _ _);refine ah.call ha rfl rfl ?_) |refine u2 ?_ |fail)
         exact ⟨[_,_,_],⟨Fz.deep rfl,Fz.deep rfl,Fz.deep rfl,trivial⟩,rfl⟩
        | false =>
         have e7:=of_decide_eq_false e6
         have d3:(!decide ((cZ s.possible.length (fo s.possible s.days 7)).2=0))=true:=by rw [e6];rfl
         rw [if_pos e7]
         repeat' (first |refine u1 ?_ |((with_reducible show ax _ _ _ _ _ _ _ _);refine ah.call ha rfl rfl ?_) |refine u2 ?_ |fail)
         exact ⟨[_,_,_],⟨Fz.deep rfl,Fz.deep rfl,Fz.deep rfl,trivial⟩,rfl⟩
theorem vF {l:List Int} {many below:Int} {k:Nat} (hk:k < l.length) (h:nD l[k] 0 (many - 1)=false):fo l many below k=below:=by
 have h1:=bD l[k] 0 (many - 1)
 unfold fo
 have hg:l.getD k 0=l[k]:=by simp [List.getD,hk]
 rw [hg,h1,h]
 rfl
theorem IU {l:List Int} {many below:Int} (hk:0 < l.length) (h:nD l[0] 0 (many - 1)=true):fo l many below 0=0:=by
 have h1:=bD l[0] 0 (many - 1)
 have h2:=mz.1 h
 unfold fo
 have hg:l.getD 0 0=l[0]:=by simp [List.getD,hk]
 rw [hg,h1,h]
 show (if l[0]≤(-1:Int) then (2:Int) else 0)=0
 rw [if_neg (by omega)]
theorem C9 {l:List Int} {many below:Int} {k:Nat} (hk:k+1 < l.length) (h:nD l[k+1] 0 (many - 1)=true):fo l many below (k+1)=if l[k+1]≤l[k] then 2 else 0:=by
 have h1:=bD l[k+1] 0 (many - 1)
 unfold fo
 have hg:l.getD (k+1) 0=l[k+1]:=by simp [List.getD,hk]
 have hp:sV l (k+1)=l[k]:=by
  show l.getD k 0=l[k]
  simp [List.getD,(by omega:k < l.length)]
 rw [hg,hp,h1,h]
 rfl
def zH (x:jX) (before:List jX):Int :=
 if lJ x.name (before.map (·.name)) ≠ 0 then lJ x.name (before.map (·.name))
 else if nD x.full 1 60=false∨nD x.first 0 x.full=false∨nD x.weight 1 30=false then 7 else 0
theorem Kv (x:jX) (before:List jX):fV x before=zH x before:=by
 unfold fV zH lJ
 rw [List.any_map]
 have e1:(List.any before ((fun y=>C7 y x.name) ∘ fun y=>y.name))=before.any fun y=>C7 y.name x.name:=rfl
 rw [e1]
 cases jc x.name with
 | false=>simp
 | true =>
  cases (before.any fun y=>C7 y.name x.name) with
  | true=>simp
  | false =>
   rw [bD,bD,bD]
   cases nD x.full 1 60 <;> cases nD x.first 0 x.full <;> cases nD x.weight 1 30 <;> simp
def fq (l:List jX):List AV:=l.map fun x=>ST x.name
theorem BK {s:au} {k:Nat} (h:k < s.needs.length):fq (s.needs.take (k+1))=fq (s.needs.take k)++[ST s.needs[k].name]:=by
 unfold fq
 rw [List.take_add_one,List.getElem?_eq_getElem h,List.map_append]
 rfl
theorem vG (l:List jX):((l.map (·.name)).map eS).flatten=fq l:=by
 induction l with
 | nil=>rfl
 | cons a l ih =>
  simp only [List.map_cons,List.flatten_cons,ih]
  rfl
theorem BL (l:List jX):cI (fq l)=true:=by
 induction l with
 | nil=>rfl
 | cons a l ih=>exact ih
theorem Da (n:Nat) (l:List jX):rR n (fq l)=true:=by
 induction l with
 | nil=>rfl
 | cons a l ih=>exact ih
theorem EZ {B:List AB} (l:List jX) {n v c:Nat} (h:l.length=n):Fz (.cells (fq l) 1 v :: B) (.bU 0 v 0 n c) (.sl ((l.map (·.name)).map eS) false) :=
 Fz.row (es:=1) rfl (by unfold fq;simp;omega) (by simp;omega) (fun el hel=>by obtain ⟨x,_,rfl⟩:=List.mem_map.1 hel;rfl) (by rw [vG,List.drop_zero,List.take_of_length_le (by unfold fq;simp;omega)]) (by rw [vG];exact BL _) (fun h=>Bool.noConfusion h)
theorem yb (l:List jX) (v:Nat):([.cells (fq l) 1 v]:List AB).all (AB.jb 1)=true:=by
 have h:AB.jb 1 (.cells (fq l) 1 v)=true:=Da 1 l
 simp only [List.all_cons,List.all_nil,h,Bool.and_true]
end Go.Proofs.YtpeogffeoehboaaGreatDoor
