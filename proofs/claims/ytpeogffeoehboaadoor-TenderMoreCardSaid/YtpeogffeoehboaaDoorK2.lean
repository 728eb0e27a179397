/-
  Contracts of the program's functions and of the document's. Lemmas alone; their conditions stand in them.
-/
import Derived.Test.YtpeogffeoehboaaDoorA3
import Derived.Test.YtpeogffeoehboaaDoorK1
open Go Go.RM
namespace Go.Proofs.YtpeogffeoehboaaDoor
set_option maxRecDepth 100000
set_option maxHeartbeats 4000000
theorem Nc (one:Bool) (lo hi:Int) (l:List Int) (h:l.length≤maxLen):Pu one 40 [aA lo,aA hi,.sl (l.map eI) true] (BB (eM lo hi l)):=by
 have:=EH one lo hi (l.map eI) true (by rw [List.all_map,List.all_eq_true];intro x _;rfl) (by simpa using h)
 rw [show (l.map eI).map M9=l by rw [List.map_map];exact List.map_id _] at this
 exact this
theorem gA (one:Bool) (lo hi a:Int):Pu one 40 [aA lo,aA hi,.sl [eI a] true] (BB (eM lo hi [a])):=Nc one lo hi [a] (by simp [maxLen])
theorem cc {lo hi a:Int} (h:eM lo hi [a]=false):lo≤a∧a≤hi:=by
 rw [bh] at h
 have h2:ng a lo hi=true:=by cases e:ng a lo hi with|true=>rfl|false=>rw [e] at h;cases h
 exact hG.1 h2
def qg (l:List Int) (i:Nat):Int:=if i=0 then -1 else l.getD (i - 1) 0
def eN (l:List Int) (many below:Int) (i:Nat):Int :=
 if eM 0 (many - 1) [l.getD i 0]=true then below else if l.getD i 0≤qg l i then 2 else 0
theorem Il (one:Bool) (l:List Int) (full:Bool) (many below:Int) (hl:l.length≤maxLen) (hm:-9223372036854775807≤many∧many≤9223372036854775807) (hb:below ≠ 0) :
  Pu one 44 [.sl (ints l) full,aA many,aA below] (.tp [aA (cN l.length (eN l many below)).1,aA (cN l.length (eN l many below)).2]):=by
 have ml:l.length≤9223372036854775807:=Nat.le_trans hl (by simp [maxLen])
 have eg:((ints l).length:Int)=l.length:=by simp
 obtain ⟨n,hn⟩:∃ n:Int,n=l.length:=⟨_,rfl⟩
 refine af.body (fn:=Tryd.f44) rfl rfl rfl rfl ?_
 refine aa (mu:=fun _=>false) ?_
 repeat' (first |refine u1 ?_ |refine u2 ?_ |fail)
 refine aB.aL (au.to (l:=[(1,aA many),(2,aA below),(8,aA (qg l 0)),(11,.sl (ints l) full),(12,aA n),(13,aA (0:Nat))]) (hp:=[]) 0 rfl ⟨rfl,rfl,rfl,rfl,bu (by rw [hn];exact eg),rfl,trivial⟩ (Nat.zero_le _) rfl rfl) ?_
 refine aB.loop (fun k:Nat=>k≤l.length∧∀ i,i < k→eN l many below i=0) (fun k=>⟨aU [(1,aA many),(2,aA below),(8,aA (qg l k)),(11,.sl (ints l) full),(12,aA n),(13,aA (k:Nat))],[],bP.none,false,0⟩) (fun k=>l.length - k) ?_ 0 ⟨Nat.zero_le _,fun i hi=>absurd hi (Nat.not_lt_zero _)⟩
 rintro k ⟨hk,hprev⟩
 refine aa (mu:=fun _=>false) ?_
 by_cases hlt:k < l.length
 ·have d1:decide ((k:Int) < n)=true:=decide_eq_true (by omega)
  have hat:(ints l)[((k:Nat):Int).toNat]?=some (eI l[k]):=bC hlt
  have hg:l.getD k 0=l[k]:=by simp [List.getD,hlt]
  have hp:qg l (k+1)=l[k]:=by unfold qg;rw [if_neg (by omega),Nat.add_sub_cancel,hg]
  have hm1:-9223372036854775808≤many - 1∧many - 1≤9223372036854775807:=by omega
  have o1:=gA one 0 (many - 1) l[k]
  have hA:eN l many below k=if eM 0 (many - 1) [l[k]]=true then below else if l[k]≤qg l k then 2 else 0:=by unfold eN;rw [hg]
  have fin:∀ v,eN l many below k=v→v ≠ 0→cN l.length (eN l many below)=((k:Int),v):=fun v e hv=>by
   rw [gi hlt hprev (by rw [e];exact hv),e]
  generalize l[k]=g at *
  generalize qg l k=p at *
  cases q1:eM 0 (many - 1) [g] with
  | true =>
   rw [q1] at o1
   rw [fin below (by rw [hA,if_pos q1]) hb]
   repeat' (first |((with_reducible show aj _ _ _ _ _ _ _ _);refine af.call o1 rfl rfl ?_) |refine u1 ?_ |((with_reducible show RM.wpOp _ _ (.indexAddr _ _ _) _ _ _);refine ⟨eI g,⟨by omega,hat⟩,rfl,?_⟩) |refine u2 ?_ |fail)
   exact ⟨[_,_],⟨Fz.deep rfl,Fz.deep rfl,trivial⟩,rfl⟩
  | false =>
   rw [q1] at o1
   cases q2:decide (g≤p) with
   | true =>
    rw [fin 2 (by rw [hA,if_neg (by rw [q1];simp),if_pos (of_decide_eq_true q2)]) (by decide)]
    repeat' (first |((with_reducible show aj _ _ _ _ _ _ _ _);refine af.call o1 rfl rfl ?_) |refine u1 ?_ |((with_reducible show RM.wpOp _ _ (.indexAddr _ _ _) _ _ _);refine ⟨eI g,⟨by omega,hat⟩,rfl,?_⟩) |refine u2 ?_ |fail)
    exact ⟨[_,_],⟨Fz.deep rfl,Fz.deep rfl,trivial⟩,rfl⟩
   | false =>
    have e0:eN l many below k=0:=by rw [hA,if_neg (by rw [q1];simp),if_neg (of_decide_eq_false q2)]
    repeat' (first |((with_reducible show aj _ _ _ _ _ _ _ _);refine af.call o1 rfl rfl ?_) |refine u1 ?_ |((with_reducible show RM.wpOp _ _ (.indexAddr _ _ _) _ _ _);refine ⟨eI g,⟨by omega,hat⟩,rfl,?_⟩) |refine u2 ?_ |fail)
    refine ⟨k+1,⟨hlt,fun i hi=>?_⟩,(by dsimp only;omega),au.to 0 rfl ⟨rfl,rfl,bu hp.symm,rfl,rfl,bu (by simp),trivial⟩ (Nat.zero_le _) rfl rfl⟩
    by_cases hik:i=k
    ·rw [hik];exact e0
    ·exact hprev i (by omega)
 ·have hke:k=l.length:=by omega
  have d1:decide ((k:Int) < n)=false:=decide_eq_false (by omega)
  rw [ey (fun i hi=>hprev i (by omega))]
  repeat' (first |refine u1 ?_ |refine u2 ?_ |fail)
  exact ⟨[_,_],⟨Fz.deep rfl,Fz.deep rfl,trivial⟩,rfl⟩
theorem Im (one:Bool) (k x:jO):af TT TB one (.fn 43 [] [.pt (aH k) 0]) [.ag (aH x)] (BB (CJ x.name k.name)):=by
 refine af.body (fn:=Tryd.f43) rfl rfl rfl rfl ?_
 refine aa (mu:=fun _=>false) ?_
 repeat' (first |refine u1 ?_ |refine u2 ?_ |fail)
 exact ⟨[_],⟨Fz.deep rfl,trivial⟩,rfl⟩
end Go.Proofs.YtpeogffeoehboaaDoor
open Go Go.RM
namespace Go.Proofs.YtpeogffeoehboaaDoor
set_option maxRecDepth 100000
set_option maxHeartbeats 4000000
def fN (x:jO) (before:List jO):Int :=
 if iL x.name=false then 6
 else if (before.any fun y=>CJ y.name x.name)=true then 5
 else if (eM 1 60 [x.full] || eM 0 x.full [x.first] || eM 1 30 [x.weight])=true then 7
 else 0
def eO (s:ak) (i:Nat):Int:=match s.needs[i]? with
 | some x=>fN x (s.needs.take i)
 | none=>0
def bT (s:ak):Bool:=eM 1 60 [s.days] || eM 1 30 [s.load] || eM 0 8 [s.fail] || eM 1 8 [s.row]
def lZ (s:ak):Int × Int × Int :=
 if bT s=true then (1,0,7)
 else if eM 1 3 [(s.needs.length:Int)]=true then (2,0,3)
 else if (cN s.needs.length (eO s)).2 ≠ 0 then (2,(cN s.needs.length (eO s)).1,(cN s.needs.length (eO s)).2)
 else if 6 < s.possible.length then (3,0,3)
 else if (cN s.possible.length (eN s.possible s.days 7)).2 ≠ 0 then (3,(cN s.possible.length (eN s.possible s.days 7)).1,(cN s.possible.length (eN s.possible s.days 7)).2)
 else (0,0,0)
structure ak.Ok (s:ak):Prop where
 needs:s.needs.length≤maxLen
 names:∀ x ∈ s.needs,x.name.data.toList.length≤maxLen
 possible:s.possible.length≤maxLen
theorem gB {s:ak} (h:bT s=true):lZ s=(1,0,7):=by unfold lZ;rw [if_pos h]
theorem Bo {s:ak} (h:bT s=false) (h1:eM 1 3 [(s.needs.length:Int)]=true):lZ s=(2,0,3):=by unfold lZ;rw [if_neg (by rw [h];simp),if_pos h1]
theorem CK {s:ak} (h:bT s=false) (h1:eM 1 3 [(s.needs.length:Int)]=false) {k:Nat} {v:Int} (hk:k < s.needs.length) (hprev:∀ i,i < k→eO s i=0) (hv:eO s k=v) (h0:v ≠ 0):lZ s=(2,(k:Int),v):=by
 unfold lZ
 rw [if_neg (by rw [h];simp),if_neg (by rw [h1];simp),gi hk hprev (by rw [hv];exact h0),hv,if_pos h0]
theorem Bp {s:ak} (h:bT s=false) (h1:eM 1 3 [(s.needs.length:Int)]=false) (hprev:∀ i,i < s.needs.length→eO s i=0) (h2:6 < s.possible.length):lZ s=(3,0,3):=by
 unfold lZ
 rw [if_neg (by rw [h];simp),if_neg (by rw [h1];simp),ey hprev,if_neg (by simp),if_pos h2]
theorem vj {s:ak} (h:bT s=false) (h1:eM 1 3 [(s.needs.length:Int)]=false) (hprev:∀ i,i < s.needs.length→eO s i=0) (h2:¬ 6 < s.possible.length) :
  lZ s=if (cN s.possible.length (eN s.possible s.days 7)).2 ≠ 0 then (3,(cN s.possible.length (eN s.possible s.days 7)).1,(cN s.possible.length (eN s.possible s.days 7)).2) else (0,0,0):=by
 unfold lZ
 rw [if_neg (by rw [h];simp),if_neg (by rw [h1];simp),ey hprev,if_neg (by simp),if_neg h2]
theorem JW (one:Bool) (s:ak) (h:s.Ok):Pu one 13 [.ag (ay s)] (.tp [aA (lZ s).1,aA (lZ s).2.1,aA (lZ s).2.2]):=by
 have eg:((s.needs.map aH).length:Int)=s.needs.length:=by simp
 have o1:=gA one 1 60 s.days
 have o2:=gA one 1 30 s.load
 have o3:=gA one 0 8 s.fail
 have o4:=gA one 1 8 s.row
 have o5:=gA one 1 3 ((s.needs.map aH).length:Int)
 rw [eg] at o5
 cases e1:eM 1 60 [s.days] with
 | true =>
  rw [e1] at o1
  rw [gB (by unfold bT;rw [e1];simp)]
  refine af.body (fn:=Tryd.f13) rfl rfl rfl rfl ?_
  refine aa (mu:=fun _=>false) ?_
  repeat' (first |refine u1 ?_ |((with_reducible show aj _ _ _ _ _ _ _ _);refine af.call o1 rfl rfl ?_) |refine u2 ?_ |fail)
  exact ⟨[_,_,_],⟨Fz.deep rfl,Fz.deep rfl,Fz.deep rfl,trivial⟩,rfl⟩
 | false =>
  rw [e1] at o1
  cases e2:eM 1 30 [s.load] with
  | true =>
   rw [e2] at o2
   rw [gB (by unfold bT;rw [e1,e2];simp)]
   refine af.body (fn:=Tryd.f13) rfl rfl rfl rfl ?_
   refine aa (mu:=fun _=>false) ?_
   repeat' (first |refine u1 ?_ |((with_reducible show aj _ _ _ _ _ _ _ _);refine af.call o1 rfl rfl ?_) |((with_reducible show aj _ _ _ _ _ _ _ _);refine af.call o2 rfl rfl ?_) |refine u2 ?_ |fail)
   exact ⟨[_,_,_],⟨Fz.deep rfl,Fz.deep rfl,Fz.deep rfl,trivial⟩,rfl⟩
  | false =>
   rw [e2] at o2
   cases e3:eM 0 8 [s.fail] with
   | true =>
    rw [e3] at o3
    rw [gB (by unfold bT;rw [e1,e2,e3];simp)]
    refine af.body (fn:=Tryd.f13) rfl rfl rfl rfl ?_
    refine aa (mu:=fun _=>false) ?_
    repeat' (first |refine u1 ?_ |((with_reducible show aj _ _ _ _ _ _ _ _);refine af.call o1 rfl rfl ?_) |((with_reducible show aj _ _ _ _ _ _ _ _);refine af.call o2 rfl rfl ?_) |((with_reducible show aj _ _ _ _ _ _ _ _);refine af.call o3 rfl rfl ?_) |refine u2 ?_ |fail)
    exact ⟨[_,_,_],⟨Fz.deep rfl,Fz.deep rfl,Fz.deep rfl,trivial⟩,rfl⟩
   | false =>
    rw [e3] at o3
    cases e4:eM 1 8 [s.row] with
    | true =>
     rw [e4] at o4
     rw [gB (by unfold bT;rw [e1,e2,e3,e4];simp)]
     refine af.body (fn:=Tryd.f13) rfl rfl rfl rfl ?_
     refine aa (mu:=fun _=>false) ?_
     repeat' (first |refine u1 ?_ |((with_reducible show aj _ _ _ _ _ _ _ _);refine af.call o1 rfl rfl ?_) |((with_reducible show aj _ _ _ _ _ _ _ _);refine af.call o2 rfl rfl ?_) |((with_reducible show aj _ _ _ _ _ _ _ _);refine af.call o3 rfl rfl ?_) |((with_reducible show aj _ _ _ _ _ _ _ _);refine af.call o4 rfl rfl ?_) |refine u2 ?_ |fail)
     exact ⟨[_,_,_],⟨Fz.deep rfl,Fz.deep rfl,Fz.deep rfl,trivial⟩,rfl⟩
    | false =>
     rw [e4] at o4
     have hb:bT s=false:=by unfold bT;rw [e1,e2,e3,e4];rfl
     cases e5:eM 1 3 [(s.needs.length:Int)] with
     | true =>
      rw [Bo hb e5]
      rw [e5,←eg] at o5
      refine af.body (fn:=Tryd.f13) rfl rfl rfl rfl ?_
      refine aa (mu:=fun _=>false) ?_
      repeat' (first |refine u1 ?_ |((with_reducible show aj _ _ _ _ _ _ _ _);refine af.call o1 rfl rfl ?_) |((with_reducible show aj _ _ _ _ _ _ _ _);refine af.call o2 rfl rfl ?_) |((with_reducible show aj _ _ _ _ _ _ _ _);refine af.call o3 rfl rfl ?_) |((with_reducible show aj _ _ _ _ _ _ _ _);refine af.call o4 rfl rfl ?_) |((with_reducible show aj _ _ _ _ _ _ _ _);refine af.call o5 rfl rfl ?_) |refine u2 ?_ |fail)
      exact ⟨[_,_,_],⟨Fz.deep rfl,Fz.deep rfl,Fz.deep rfl,trivial⟩,rfl⟩
     | false =>
      rw [e5,←eg] at o5
      have hn3:s.needs.length≤3:=by
       have:=cc e5
       omega
      obtain ⟨n,hn⟩:∃ n:Int,n=s.needs.length:=⟨_,rfl⟩
      refine af.body (fn:=Tryd.f13) rfl rfl rfl rfl ?_
      refine aa (mu:=fun _=>false) ?_
      repeat' (first |refine u1 ?_ |((with_reducible show aj _ _ _ _ _ _ _ _);refine af.call o1 rfl rfl ?_) |((with_reducible show aj _ _ _ _ _ _ _ _);refine af.call o2 rfl rfl ?_) |((with_reducible show aj _ _ _ _ _ _ _ _);refine af.call o3 rfl rfl ?_) |((with_reducible show aj _ _ _ _ _ _ _ _);refine af.call o4 rfl rfl ?_) |((with_reducible show aj _ _ _ _ _ _ _ _);refine af.call o5 rfl rfl ?_) |refine u2 ?_ |fail)
      refine aB.aL (au.to (l:=[(1,.pt (ay s) 0),(37,.sl (s.needs.map aH) false),(38,aA n),(39,aA (0:Nat))]) (hp:=[]) 0 rfl ⟨rfl,rfl,bu (by rw [hn];exact eg),rfl,trivial⟩ (Nat.zero_le _) rfl rfl) ?_
      refine aB.loop (fun k:Nat=>k≤s.needs.length∧∀ i,i < k→eO s i=0) (fun k=>⟨aU [(1,.pt (ay s) 0),(37,.sl (s.needs.map aH) false),(38,aA n),(39,aA (k:Nat))],[],bP.none,false,0⟩) (fun k=>s.needs.length - k) ?_ 0 ⟨Nat.zero_le _,fun i hi=>absurd hi (Nat.not_lt_zero _)⟩
      rintro k ⟨hk,hprev⟩
      refine aa (mu:=fun _=>false) ?_
      by_cases hlt:k < s.needs.length
      ·have d1:decide ((k:Int) < n)=true:=decide_eq_true (by omega)
       have hat:(s.needs.map aH)[((k:Nat):Int).toNat]?=some (aH s.needs[k]):=bC hlt
       have hga:eO s k=fN s.needs[k] (s.needs.take k):=by unfold eO;rw [List.getElem?_eq_getElem hlt]
       have hnm:=Na one s.needs[k].name (h.names _ (List.getElem_mem hlt))
       have hcf:∀ f,Pu one 42 [.sl ((s.needs.take k).map aH) f,.fn 43 [] [.pt (aH s.needs[k]) 0]] (BB ((s.needs.take k).any fun x=>CJ x.name s.needs[k].name)):=fun f=>ry one 43 [] [.pt (aH s.needs[k]) 0] rfl (fun x=>CJ x.name s.needs[k].name) (s.needs.take k) f (by simp [maxLen];omega) (fun x _=>Im one s.needs[k] x)
       have hsl:((s.needs.map aH).drop 0).take (k - 0)=(s.needs.take k).map aH:=by
        rw [List.drop_zero,Nat.sub_zero,List.map_take]
       rw [←hsl] at hcf
       have hkl:0≤k∧k≤(s.needs.map aH).length:=⟨Nat.zero_le _,by rw [List.length_map];omega⟩
       have hel4:∀ el ∈ s.needs.map aH,el.length=4:=fun el hel=>by obtain ⟨x,_,rfl⟩:=List.mem_map.1 hel;rfl
       have fin:∀ v,eO s k=v→v ≠ 0→lZ s=(2,(k:Int),v):=fun v e hv=>CK hb e5 hlt hprev e hv
       have o6:=gA one 1 60 s.needs[k].full
       have o7:=gA one 0 s.needs[k].full s.needs[k].first
       have o8:=gA one 1 30 s.needs[k].weight
       generalize s.needs[k]=g at *
       cases q1:iL g.name with
       | false =>
        rw [q1] at hnm
        rw [fin 6 (by rw [hga];unfold fN;rw [if_pos q1]) (by decide)]
        repeat' (first |((with_reducible show aj _ _ _ _ _ _ _ _);refine af.call hnm rfl rfl ?_) |((with_reducible show aj _ _ _ _ _ _ _ _);refine af.call o6 rfl rfl ?_) |((with_reducible show aj _ _ _ _ _ _ _ _);refine af.call o7 rfl rfl ?_) |((with_reducible show aj _ _ _ _ _ _ _ _);refine af.call o8 rfl rfl ?_) |refine u1 ?_ |((with_reducible show RM.wpOp _ _ (.indexAddr _ _ _) _ _ _);refine ⟨aH g,⟨by omega,hat⟩,rfl,?_⟩) |(refine ⟨0,k,rfl,rfl,hkl,(by decide),hel4,?_⟩) |((with_reducible show aj _ _ _ _ _ _ _ _);refine af.xL (hcf _) (Fq.deep rfl) (gI.cons (Fq.deep rfl) (gI.cons (gI.NI gI.nil (gI.cons (Fq.ptr rfl rfl) gI.nil)) gI.nil)) (gz.fl _) ?_) |refine u2 ?_ |fail)
        exact ⟨[_,_,_],⟨Fz.deep rfl,Fz.deep rfl,Fz.deep rfl,trivial⟩,rfl⟩
       | true =>
        rw [q1] at hnm
        have q1':¬ iL g.name=false:=by rw [q1];simp
        cases q2:(s.needs.take k).any fun x=>CJ x.name g.name with
        | true =>
         simp only [q2] at hcf
         rw [fin 5 (by rw [hga];unfold fN;rw [if_neg q1',if_pos q2]) (by decide)]
         repeat' (first |((with_reducible show aj _ _ _ _ _ _ _ _);refine af.call hnm rfl rfl ?_) |((with_reducible show aj _ _ _ _ _ _ _ _);refine af.call o6 rfl rfl ?_) |((with_reducible show aj _ _ _ _ _ _ _ _);refine af.call o7 rfl rfl ?_) |((with_reducible show aj _ _ _ _ _ _ _ _);refine af.call o8 rfl rfl ?_) |refine u1 ?_ |((with_reducible show RM.wpOp _ _ (.indexAddr _ _ _) _ _ _);refine ⟨aH g,⟨by omega,hat⟩,rfl,?_⟩) |(refine ⟨0,k,rfl,rfl,hkl,(by decide),hel4,?_⟩) |((with_reducible show aj _ _ _ _ _ _ _ _);refine af.xL (hcf _) (Fq.deep rfl) (gI.cons (Fq.deep rfl) (gI.cons (gI.NI gI.nil (gI.cons (Fq.ptr rfl rfl) gI.nil)) gI.nil)) (gz.fl _) ?_) |refine u2 ?_ |fail)
         exact ⟨[_,_,_],⟨Fz.deep rfl,Fz.deep rfl,Fz.deep rfl,trivial⟩,rfl⟩
        | false =>
         simp only [q2] at hcf
         have q2':¬ ((s.needs.take k).any fun x=>CJ x.name g.name)=true:=by rw [q2];simp
         cases q3:eM 1 60 [g.full] with
         | true =>
          rw [q3] at o6
          rw [fin 7 (by rw [hga];unfold fN;rw [if_neg q1',if_neg q2',if_pos (by rw [q3];rfl)]) (by decide)]
          repeat' (first |((with_reducible show aj _ _ _ _ _ _ _ _);refine af.call hnm rfl rfl ?_) |((with_reducible show aj _ _ _ _ _ _ _ _);refine af.call o6 rfl rfl ?_) |((with_reducible show aj _ _ _ _ _ _ _ _);refine af.call o7 rfl rfl ?_) |((with_reducible show aj _ _ _ _ _ _ _ _);refine af.call o8 rfl rfl ?_) |refine u1 ?_ |((with_reducible show RM.wpOp _ _ (.indexAddr _ _ _) _ _ _);refine ⟨aH g,⟨by omega,hat⟩,rfl,?_⟩) |(refine ⟨0,k,rfl,rfl,hkl,(by decide),hel4,?_⟩) |((with_reducible show aj _ _ _ _ _ _ _ _);refine af.xL (hcf _) (Fq.deep rfl) (gI.cons (Fq.deep rfl) (gI.cons (gI.NI gI.nil (gI.cons (Fq.ptr rfl rfl) gI.nil)) gI.nil)) (gz.fl _) ?_) |refine u2 ?_ |fail)
          exact ⟨[_,_,_],⟨Fz.deep rfl,Fz.deep rfl,Fz.deep rfl,trivial⟩,rfl⟩
         | false =>
          rw [q3] at o6
          cases q4:eM 0 g.full [g.first] with
          | true =>
           rw [q4] at o7
           rw [fin 7 (by rw [hga];unfold fN;rw [if_neg q1',if_neg q2',if_pos (by rw [q3,q4];rfl)]) (by decide)]
           repeat' (first |((with_reducible show aj _ _ _ _ _ _ _ _);refine af.call hnm rfl rfl ?_) |((with_reducible show aj _ _ _ _ _ _ _ _);refine af.call o6 rfl rfl ?_) |((with_reducible show aj _ _ _ _ _ _ _ _);refine af.call o7 rfl rfl ?_) |((with_reducible show aj _ _ _ _ _ _ _ _);refine af.call o8 rfl rfl ?_) |refine u1 ?_ |((with_reducible show RM.wpOp _ _ (.indexAddr _ _ _) _ _ _);refine ⟨aH g,⟨by omega,hat⟩,rfl,?_⟩) |(refine ⟨0,k,rfl,rfl,hkl,(by decide),hel4,?_⟩) |((with_reducible show aj _ _ _ _ _ _ _ _);refine af.xL (hcf _) (Fq.deep rfl) (gI.cons (Fq.deep rfl) (gI.cons (gI.NI gI.nil (gI.cons (Fq.ptr rfl rfl) gI.nil)) gI.nil)) (gz.fl _) ?_) |refine u2 ?_ |fail)
           exact ⟨[_,_,_],⟨Fz.deep rfl,Fz.deep rfl,Fz.deep rfl,trivial⟩,rfl⟩
          | false =>
           rw [q4] at o7
           cases q5:eM 1 30 [g.weight] with
           | true =>
            rw [q5] at o8
            rw [fin 7 (by rw [hga];unfold fN;rw [if_neg q1',if_neg q2',if_pos (by rw [q3,q4,q5];rfl)]) (by decide)]
            repeat' (first |((with_reducible show aj _ _ _ _ _ _ _ _);refine af.call hnm rfl rfl ?_) |((with_reducible show aj _ _ _ _ _ _ _ _);refine af.call o6 rfl rfl ?_) |((with_reducible show aj _ _ _ _ _ _ _ _);refine af.call o7 rfl rfl ?_) |((with_reducible show aj _ _ _ _ _ _ _ _);refine af.call o8 rfl rfl ?_) |refine u1 ?_ |((with_reducible show RM.wpOp _ _ (.indexAddr _ _ _) _ _ _);refine ⟨aH g,⟨by omega,hat⟩,rfl,?_⟩) |(refine ⟨0,k,rfl,rfl,hkl,(by decide),hel4,?_⟩) |((with_reducible show aj _ _ _ _ _ _ _ _);refine af.xL (hcf _) (Fq.deep rfl) (gI.cons (Fq.deep rfl) (gI.cons (gI.NI gI.nil (gI.cons (Fq.ptr rfl rfl) gI.nil)) gI.nil)) (gz.fl _) ?_) |refine u2 ?_ |fail)
            exact ⟨[_,_,_],⟨Fz.deep rfl,Fz.deep rfl,Fz.deep rfl,trivial⟩,rfl⟩
           | false =>
            rw [q5] at o8
            have e0:eO s k=0:=by rw [hga];unfold fN;rw [if_neg q1',if_neg q2',if_neg (by rw [q3,q4,q5];simp)]
            repeat' (first |((with_reducible show aj _ _ _ _ _ _ _ _);refine af.call hnm rfl rfl ?_) |((with_reducible show aj _ _ _ _ _ _ _ _);refine af.call o6 rfl rfl ?_) |((with_reducible show aj _ _ _ _ _ _ _ _);refine af.call o7 rfl rfl ?_) |((with_reducible show aj _ _ _ _ _ _ _ _);refine af.call o8 rfl rfl ?_) |refine u1 ?_ |((with_reducible show RM.wpOp _ _ (.indexAddr _ _ _) _ _ _);refine ⟨aH g,⟨by omega,hat⟩,rfl,?_⟩) |(refine ⟨0,k,rfl,rfl,hkl,(by decide),hel4,?_⟩) |((with_reducible show aj _ _ _ _ _ _ _ _);refine af.xL (hcf _) (Fq.deep rfl) (gI.cons (Fq.deep rfl) (gI.cons (gI.NI gI.nil (gI.cons (Fq.ptr rfl rfl) gI.nil)) gI.nil)) (gz.fl _) ?_) |refine u2 ?_ |fail)
            refine ⟨k+1,⟨hlt,fun i hi=>?_⟩,(by dsimp only;omega),au.to 0 rfl ⟨rfl,rfl,rfl,bu (by simp),trivial⟩ (Nat.zero_le _) rfl rfl⟩
            by_cases hik:i=k
            ·subst hik;exact e0
            ·exact hprev i (by omega)
      ·have d1:decide ((k:Int) < n)=false:=decide_eq_false (by omega)
       have hkn:k=s.needs.length:=by omega
       subst hkn
       have ep:((ints s.possible).length:Int)=s.possible.length:=by simp
       have mp:s.possible.length≤9223372036854775807:=Nat.le_trans h.possible (by simp [maxLen])
       by_cases h6:6 < s.possible.length
       ·have d2:decide (6 < ((ints s.possible).length:Int))=true:=decide_eq_true (by rw [ep];omega)
        rw [Bp hb e5 hprev h6]
        repeat' (first |refine u1 ?_ |refine u2 ?_ |fail)
        exact ⟨[_,_,_],⟨Fz.deep rfl,Fz.deep rfl,Fz.deep rfl,trivial⟩,rfl⟩
       ·have d2:decide (6 < ((ints s.possible).length:Int))=false:=decide_eq_false (by rw [ep];omega)
        rw [vj hb e5 hprev h6]
        have hd:=cc e1
        have ha:=Il one s.possible false s.days 7 h.possible (by omega) (by decide)
        cases e6:decide ((cN s.possible.length (eN s.possible s.days 7)).2=0) with
        | true =>
         have e7:=of_decide_eq_true e6
         rw [if_neg (by rw [e7];simp)]
         rw [e7] at ha
         repeat' (first |refine u1 ?_ |((with_reducible show aj _ _ _ _ _ _ _ _);refine af.call ha rfl rfl ?_) |refine u2 ?_ |fail)
         exact ⟨[_,_,_],⟨Fz.deep rfl,Fz.deep rfl,Fz.deep rfl,trivial⟩,rfl⟩
        | false =>
         have e7:=of_decide_eq_false e6
         have d3:(!decide ((cN s.possible.length (eN s.possible s.days 7)).2=0))=true:=by rw [e6];rfl
         rw [if_pos e7]
         repeat' (first |refine u1 ?_ |((with_reducible show aj _ _ _ _ _ _ _ _);refine af.call ha rfl rfl ?_) |refine u2 ?_ |fail)
         exact ⟨[_,_,_],⟨Fz.deep rfl,Fz.deep rfl,Fz.deep rfl,trivial⟩,rfl⟩
end Go.Proofs.YtpeogffeoehboaaDoor
open Go Go.RM
namespace Go.Proofs.YtpeogffeoehboaaDoor
set_option maxRecDepth 100000
theorem vk {l:List Int} {many below:Int} {k:Nat} (hk:k < l.length) (h:ng l[k] 0 (many - 1)=false):eN l many below k=below:=by
 have h1:=bh l[k] 0 (many - 1)
 unfold eN
 have hg:l.getD k 0=l[k]:=by simp [List.getD,hk]
 rw [hg,h1,h]
 rfl
theorem Ip {l:List Int} {many below:Int} (hk:0 < l.length) (h:ng l[0] 0 (many - 1)=true):eN l many below 0=0:=by
 have h1:=bh l[0] 0 (many - 1)
 have h2:=hG.1 h
 unfold eN
 have hg:l.getD 0 0=l[0]:=by simp [List.getD,hk]
 rw [hg,h1,h]
 show (if l[0]≤(-1:Int) then (2:Int) else 0)=0
 rw [if_neg (by omega)]
theorem CL {l:List Int} {many below:Int} {k:Nat} (hk:k+1 < l.length) (h:ng l[k+1] 0 (many - 1)=true):eN l many below (k+1)=if l[k+1]≤l[k] then 2 else 0:=by
 have h1:=bh l[k+1] 0 (many - 1)
 unfold eN
 have hg:l.getD (k+1) 0=l[k+1]:=by simp [List.getD,hk]
 have hp:qg l (k+1)=l[k]:=by
  show l.getD k 0=l[k]
  simp [List.getD,(by omega:k < l.length)]
 rw [hg,hp,h1,h]
 rfl
def zq (x:jO) (before:List jO):Int :=
 if kY x.name (before.map (·.name)) ≠ 0 then kY x.name (before.map (·.name))
 else if ng x.full 1 60=false∨ng x.first 0 x.full=false∨ng x.weight 1 30=false then 7 else 0
theorem JX (x:jO) (before:List jO):fN x before=zq x before:=by
 unfold fN zq kY
 rw [List.any_map]
 have e1:(List.any before ((fun y=>CJ y x.name) ∘ fun y=>y.name))=before.any fun y=>CJ y.name x.name:=rfl
 rw [e1]
 cases iL x.name with
 | false=>simp
 | true =>
  cases (before.any fun y=>CJ y.name x.name) with
  | true=>simp
  | false =>
   rw [bh,bh,bh]
   cases ng x.full 1 60 <;> cases ng x.first 0 x.full <;> cases ng x.weight 1 30 <;> simp
def fm (l:List jO):List AV:=l.map fun x=>ST x.name
theorem Bq {s:ak} {k:Nat} (h:k < s.needs.length):fm (s.needs.take (k+1))=fm (s.needs.take k)++[ST s.needs[k].name]:=by
 unfold fm
 rw [List.take_add_one,List.getElem?_eq_getElem h,List.map_append]
 rfl
theorem vl (l:List jO):((l.map (·.name)).map eS).flatten=fm l:=by
 induction l with
 | nil=>rfl
 | cons a l ih =>
  simp only [List.map_cons,List.flatten_cons,ih]
  rfl
theorem Br (l:List jO):cK (fm l)=true:=by
 induction l with
 | nil=>rfl
 | cons a l ih=>exact ih
theorem CM (n:Nat) (l:List jO):mY n (fm l)=true:=by
 induction l with
 | nil=>rfl
 | cons a l ih=>exact ih
theorem EK {B:List AB} (l:List jO) {n v c:Nat} (h:l.length=n):Fz (.cells (fm l) 1 v :: B) (.dc 0 v 0 n c) (.sl ((l.map (·.name)).map eS) false) :=
 Fz.row (es:=1) rfl (by unfold fm;simp;omega) (by simp;omega) (fun el hel=>by obtain ⟨x,_,rfl⟩:=List.mem_map.1 hel;rfl) (by rw [vl,List.drop_zero,List.take_of_length_le (by unfold fm;simp;omega)]) (by rw [vl];exact Br _) (fun h=>Bool.noConfusion h)
theorem xQ (l:List jO) (v:Nat):([.cells (fm l) 1 v]:List AB).all (AB.lg 1)=true:=by
 have h:AB.lg 1 (.cells (fm l) 1 v)=true:=CM 1 l
 simp only [List.all_cons,List.all_nil,h,Bool.and_true]
end Go.Proofs.YtpeogffeoehboaaDoor
