/-
  Contracts of the program's functions and of the document's. Lemmas alone; their conditions stand in them.
-/
import Derived.Test.YtpeogffeoehboaaDoorA3
import Derived.Test.YtpeogffeoehboaaDoorK1
open Go Go.RM
namespace Go.Proofs.YtpeogffeoehboaaDoor
set_option maxRecDepth 100000
set_option maxHeartbeats 4000000
theorem Pg (one:Bool) (lo hi:Int) (l:List Int) (h:l.length≤maxLen):Pu one 40 [aC lo,aC hi,.sl (l.map eI) true] (BB (fR lo hi l)):=by
 have:=Gh one lo hi (l.map eI) true (by rw [List.all_map,List.all_eq_true];intro x _;rfl) (by simpa using h)
 rw [show (l.map eI).map Pd=l by rw [List.map_map];exact List.map_id _] at this
 exact this
theorem iJ (one:Bool) (lo hi a:Int):Pu one 40 [aC lo,aC hi,.sl [eI a] true] (BB (fR lo hi [a])):=Pg one lo hi [a] (by simp [maxLen])
theorem cO {lo hi a:Int} (h:fR lo hi [a]=false):lo≤a∧a≤hi:=by
 rw [bR] at h
 have h2:pL a lo hi=true:=by cases e:pL a lo hi with|true=>rfl|false=>rw [e] at h;cases h
 exact mG.1 h2
def rq (l:List Int) (i:Nat):Int:=if i=0 then -1 else l.getD (i - 1) 0
def gi (l:List Int) (many below:Int) (i:Nat):Int :=
 if fR 0 (many - 1) [l.getD i 0]=true then below else if l.getD i 0≤rq l i then 2 else 0
theorem NF (one:Bool) (l:List Int) (full:Bool) (many below:Int) (hl:l.length≤maxLen) (hm:-9223372036854775807≤many∧many≤9223372036854775807) (hb:below ≠ 0) :
  Pu one 44 [.sl (ints l) full,aC many,aC below] (.tp [aC (dU l.length (gi l many below)).1,aC (dU l.length (gi l many below)).2]):=by
 have ml:l.length≤9223372036854775807:=Nat.le_trans hl (by simp [maxLen])
 have eg:((ints l).length:Int)=l.length:=by simp
 obtain ⟨n,hn⟩:∃ n:Int,n=l.length:=⟨_,rfl⟩
 refine ah.body (fn:=Tryd.f44) rfl rfl rfl rfl ?_
 refine aa (mu:=fun _=>false) ?_
 repeat' (first |refine u1 ?_ |refine u2 ?_ |fail)
 refine aA.aX (aj.to (l:=[(1,aC many),(2,aC below),(8,aC (rq l 0)),(11,.sl (ints l) full),(12,aC n),(13,aC (0:Nat))]) (hp:=[]) 0 rfl ⟨rfl,rfl,rfl,rfl,bW (by rw [hn];exact eg),rfl,trivial⟩ (Nat.zero_le _) rfl rfl) ?_
 refine aA.loop (fun k:Nat=>k≤l.length∧∀ i,i < k→gi l many below i=0) (fun k=>⟨bx [(1,aC many),(2,aC below),(8,aC (rq l k)),(11,.sl (ints l) full),(12,aC n),(13,aC (k:Nat))],[],bG.none,false,0⟩) (fun k=>l.length - k) ?_ 0 ⟨Nat.zero_le _,fun i hi=>absurd hi (Nat.not_lt_zero _)⟩
 rintro k ⟨hk,hprev⟩
 refine aa (mu:=fun _=>false) ?_
 by_cases hlt:k < l.length
 ·have d1:decide ((k:Int) < n)=true:=decide_eq_true (by omega)
  have hat:(ints l)[((k:Nat):Int).toNat]?=some (eI l[k]):=cI hlt
  have hg:l.getD k 0=l[k]:=by simp [List.getD,hlt]
  have hp:rq l (k+1)=l[k]:=by unfold rq;rw [if_neg (by omega),Nat.add_sub_cancel,hg]
  have hm1:-9223372036854775808≤many - 1∧many - 1≤9223372036854775807:=by omega
  have o1:=iJ one 0 (many - 1) l[k]
  have hA:gi l many below k=if fR 0 (many - 1) [l[k]]=true then below else if l[k]≤rq l k then 2 else 0:=by unfold gi;rw [hg]
  have fin:∀ v,gi l many below k=v→v ≠ 0→dU l.length (gi l many below)=((k:Int),v):=fun v e hv=>by
   rw [kE hlt hprev (by rw [e];exact hv),e]
  generalize l[k]=g at *
  generalize rq l k=p at *
  cases q1:fR 0 (many - 1) [g] with
  | true =>
   rw [q1] at o1
   rw [fin below (by rw [hA,if_pos q1]) hb]
   repeat' (first |((with_reducible show av _ _ _ _ _ _ _ _);refine ah.call o1 rfl rfl ?_) |refine u1 ?_ |((with_reducible show RM.wpOp _ _ (.indexAddr _ _ _) _ _ _);refine ⟨eI g,⟨by omega,hat⟩,rfl,?_⟩) |refine u2 ?_ |fail)
   exact ⟨[_,_],⟨Fz.deep rfl,Fz.deep rfl,trivial⟩,rfl⟩
  | false =>
   rw [q1] at o1
   cases q2:decide (g≤p) with
   | true =>
    rw [fin 2 (by rw [hA,if_neg (by rw [q1];simp),if_pos (of_decide_eq_true q2)]) (by decide)]
    repeat' (first |((with_reducible show av _ _ _ _ _ _ _ _);refine ah.call o1 rfl rfl ?_) |refine u1 ?_ |((with_reducible show RM.wpOp _ _ (.indexAddr _ _ _) _ _ _);refine ⟨eI g,⟨by omega,hat⟩,rfl,?_⟩) |refine u2 ?_ |fail)
    exact ⟨[_,_],⟨Fz.deep rfl,Fz.deep rfl,trivial⟩,rfl⟩
   | false =>
    have e0:gi l many below k=0:=by rw [hA,if_neg (by rw [q1];simp),if_neg (of_decide_eq_false q2)]
    repeat' (first |((with_reducible show av _ _ _ _ _ _ _ _);refine ah.call o1 rfl rfl ?_) |refine u1 ?_ |((with_reducible show RM.wpOp _ _ (.indexAddr _ _ _) _ _ _);refine ⟨eI g,⟨by omega,hat⟩,rfl,?_⟩) |refine u2 ?_ |fail)
    refine ⟨k+1,⟨hlt,fun i hi=>?_⟩,(by dsimp only;omega),aj.to 0 rfl ⟨rfl,rfl,bW hp.symm,rfl,rfl,bW (by simp),trivial⟩ (Nat.zero_le _) rfl rfl⟩
    by_cases hik:i=k
    ·rw [hik];exact e0
    ·exact hprev i (by omega)
 ·have hke:k=l.length:=by omega
  have d1:decide ((k:Int) < n)=false:=decide_eq_false (by omega)
  rw [fS (fun i hi=>hprev i (by omega))]
  repeat' (first |refine u1 ?_ |refine u2 ?_ |fail)
  exact ⟨[_,_],⟨Fz.deep rfl,Fz.deep rfl,trivial⟩,rfl⟩
theorem JX (one:Bool) (k x:jX):ah TT TB one (.fn 43 [] [.pt (aV k) 0]) [.ag (aV x)] (BB (DU x.name k.name)):=by
 refine ah.body (fn:=Tryd.f43) rfl rfl rfl rfl ?_
 refine aa (mu:=fun _=>false) ?_
 repeat' (first |refine u1 ?_ |refine u2 ?_ |fail)
 exact ⟨[_],⟨Fz.deep rfl,trivial⟩,rfl⟩
def gw (x:jX) (before:List jX):Int :=
 if je x.name=false then 6
 else if (before.any fun y=>DU y.name x.name)=true then 5
 else if (fR 1 60 [x.full] || fR 0 x.full [x.first] || fR 1 30 [x.weight])=true then 7
 else 0
def fB (s:ai) (i:Nat):Int:=match s.needs[i]? with
 | some x=>gw x (s.needs.take i)
 | none=>0
def cZ (s:ai):Bool:=fR 1 60 [s.days] || fR 1 30 [s.load] || fR 0 8 [s.fail] || fR 1 8 [s.row]
def i7 (s:ai):Int × Int × Int :=
 if cZ s=true then (1,0,7)
 else if fR 1 3 [(s.needs.length:Int)]=true then (2,0,3)
 else if (dU s.needs.length (fB s)).2 ≠ 0 then (2,(dU s.needs.length (fB s)).1,(dU s.needs.length (fB s)).2)
 else if 6 < s.possible.length then (3,0,3)
 else if (dU s.possible.length (gi s.possible s.days 7)).2 ≠ 0 then (3,(dU s.possible.length (gi s.possible s.days 7)).1,(dU s.possible.length (gi s.possible s.days 7)).2)
 else (0,0,0)
structure ai.Ok (s:ai):Prop where
 needs:s.needs.length≤maxLen
 names:∀ x ∈ s.needs,x.name.data.toList.length≤maxLen
 possible:s.possible.length≤maxLen
theorem iX {s:ai} (h:cZ s=true):i7 s=(1,0,7):=by unfold i7;rw [if_pos h]
theorem Cc {s:ai} (h:cZ s=false) (h1:fR 1 3 [(s.needs.length:Int)]=true):i7 s=(2,0,3):=by unfold i7;rw [if_neg (by rw [h];simp),if_pos h1]
theorem DV {s:ai} (h:cZ s=false) (h1:fR 1 3 [(s.needs.length:Int)]=false) {k:Nat} {v:Int} (hk:k < s.needs.length) (hprev:∀ i,i < k→fB s i=0) (hv:fB s k=v) (h0:v ≠ 0):i7 s=(2,(k:Int),v):=by
 unfold i7
 rw [if_neg (by rw [h];simp),if_neg (by rw [h1];simp),kE hk hprev (by rw [hv];exact h0),hv,if_pos h0]
theorem Cd {s:ai} (h:cZ s=false) (h1:fR 1 3 [(s.needs.length:Int)]=false) (hprev:∀ i,i < s.needs.length→fB s i=0) (h2:6 < s.possible.length):i7 s=(3,0,3):=by
 unfold i7
 rw [if_neg (by rw [h];simp),if_neg (by rw [h1];simp),fS hprev,if_neg (by simp),if_pos h2]
theorem vX {s:ai} (h:cZ s=false) (h1:fR 1 3 [(s.needs.length:Int)]=false) (hprev:∀ i,i < s.needs.length→fB s i=0) (h2:¬ 6 < s.possible.length) :
  i7 s=if (dU s.possible.length (gi s.possible s.days 7)).2 ≠ 0 then (3,(dU s.possible.length (gi s.possible s.days 7)).1,(dU s.possible.length (gi s.possible s.days 7)).2) else (0,0,0):=by
 unfold i7
 rw [if_neg (by rw [h];simp),if_neg (by rw [h1];simp),fS hprev,if_neg (by simp),if_neg h2]
theorem Fl (one:Bool) (s:ai) (h:s.Ok):Pu one 13 [.ag (az s)] (.tp [aC (i7 s).1,aC (i7 s).2.1,aC (i7 s).2.2]):=by
 have eg:((s.needs.map aV).length:Int)=s.needs.length:=by simp
 have o1:=iJ one 1 60 s.days
 have o2:=iJ one 1 30 s.load
 have o3:=iJ one 0 8 s.fail
 have o4:=iJ one 1 8 s.row
 have o5:=iJ one 1 3 ((s.needs.map aV).length:Int)
 rw [eg] at o5
 cases e1:fR 1 60 [s.days] with
 | true =>
  rw [e1] at o1
  rw [iX (by unfold cZ;rw [e1];simp)]
  refine ah.body (fn:=Tryd.f13) rfl rfl rfl rfl ?_
  refine aa (mu:=fun _=>false) ?_
  repeat' (first |refine u1 ?_ |((with_reducible show av _ _ _ _ _ _ _ _);refine ah.call o1 rfl rfl ?_) |refine u2 ?_ |fail)
  exact ⟨[_,_,_],⟨Fz.deep rfl,Fz.deep rfl,Fz.deep rfl,trivial⟩,rfl⟩
 | false =>
  rw [e1] at o1
  cases e2:fR 1 30 [s.load] with
  | true =>
   rw [e2] at o2
   rw [iX (by unfold cZ;rw [e1,e2];simp)]
   refine ah.body (fn:=Tryd.f13) rfl rfl rfl rfl ?_
   refine aa (mu:=fun _=>false) ?_
   repeat' (first |refine u1 ?_ |((with_reducible show av _ _ _ _ _ _ _ _);refine ah.call o1 rfl rfl ?_) |((with_reducible show av _ _ _ _ _ _ _ _);refine ah.call o2 rfl rfl ?_) |refine u2 ?_ |fail)
   exact ⟨[_,_,_],⟨Fz.deep rfl,Fz.deep rfl,Fz.deep rfl,trivial⟩,rfl⟩
  | false =>
   rw [e2] at o2
   cases e3:fR 0 8 [s.fail] with
   | true =>
    rw [e3] at o3
    rw [iX (by unfold cZ;rw [e1,e2,e3];simp)]
    refine ah.body (fn:=Tryd.f13) rfl rfl rfl rfl ?_
    refine aa (mu:=fun _=>false) ?_
    repeat' (first |refine u1 ?_ |((with_reducible show av _ _ _ _ _ _ _ _);refine ah.call o1 rfl rfl ?_) |((with_reducible show av _ _ _ _ _ _ _ _);refine ah.call o2 rfl rfl ?_) |((with_reducible show av _ _ _ _ _ _ _ _);refine ah.call o3 rfl rfl ?_) |refine u2 ?_ |fail)
    exact ⟨[_,_,_],⟨Fz.deep rfl,Fz.deep rfl,Fz.deep rfl,trivial⟩,rfl⟩
   | false =>
    rw [e3] at o3
    cases e4:fR 1 8 [s.row] with
    | true =>
     rw [e4] at o4
     rw [iX (by unfold cZ;rw [e1,e2,e3,e4];simp)]
     refine ah.body (fn:=Tryd.f13) rfl rfl rfl rfl ?_
     refine aa (mu:=fun _=>false) ?_
     repeat' (first |refine u1 ?_ |((with_reducible show av _ _ _ _ _ _ _ _);refine ah.call o1 rfl rfl ?_) |((with_reducible show av _ _ _ _ _ _ _ _);refine ah.call o2 rfl rfl ?_) |((with_reducible show av _ _ _ _ _ _ _ _);refine ah.call o3 rfl rfl ?_) |((with_reducible show av _ _ _ _ _ _ _ _);refine ah.call o4 rfl rfl ?_) |refine u2 ?_ |fail)
     exact ⟨[_,_,_],⟨Fz.deep rfl,Fz.deep rfl,Fz.deep rfl,trivial⟩,rfl⟩
    | false =>
     rw [e4] at o4
     have hb:cZ s=false:=by unfold cZ;rw [e1,e2,e3,e4];rfl
     cases e5:fR 1 3 [(s.needs.length:Int)] with
     | true =>
      rw [Cc hb e5]
      rw [e5,←eg] at o5
      refine ah.body (fn:=Tryd.f13) rfl rfl rfl rfl ?_
      refine aa (mu:=fun _=>false) ?_
      repeat' (first |refine u1 ?_ |((with_reducible show av _ _ _ _ _ _ _ _);refine ah.call o1 rfl rfl ?_) |((with_reducible show av _ _ _ _ _ _ _ _);refine ah.call o2 rfl rfl ?_) |((with_reducible show av _ _ _ _ _ _ _ _);refine ah.call o3 rfl rfl ?_) |((with_reducible show av _ _ _ _ _ _ _ _);refine ah.call o4 rfl rfl ?_) |((with_reducible show av _ _ _ _ _ _ _ _);refine ah.call o5 rfl rfl ?_) |refine u2 ?_ |fail)
      exact ⟨[_,_,_],⟨Fz.deep rfl,Fz.deep rfl,Fz.deep rfl,trivial⟩,rfl⟩
     | false =>
      rw [e5,←eg] at o5
      have hn3:s.needs.length≤3:=by
       have:=cO e5
       omega
      obtain ⟨n,hn⟩:∃ n:Int,n=s.needs.length:=⟨_,rfl⟩
      refine ah.body (fn:=Tryd.f13) rfl rfl rfl rfl ?_
      refine aa (mu:=fun _=>false) ?_
      repeat' (first |refine u1 ?_ |((with_reducible show av _ _ _ _ _ _ _ _);refine ah.call o1 rfl rfl ?_) |((with_reducible show av _ _ _ _ _ _ _ _);refine ah.call o2 rfl rfl ?_) |((with_reducible show av _ _ _ _ _ _ _ _);refine ah.call o3 rfl rfl ?_) |((with_reducible show av _ _ _ _ _ _ _ _);refine ah.call o4 rfl rfl ?_) |((with_reducible show av _ _ _ _ _ _ _ _);refine ah.call o5 rfl rfl ?_) |refine u2 ?_ |fail)
      refine aA.aX (aj.to (l:=[(1,.pt (az s) 0),(37,.sl (s.needs.map aV) false),(38,aC n),(39,aC (0:Nat))]) (hp:=[]) 0 rfl ⟨rfl,rfl,bW (by rw [hn];exact eg),rfl,trivial⟩ (Nat.zero_le _) rfl rfl) ?_
      refine aA.loop (fun k:Nat=>k≤s.needs.length∧∀ i,i < k→fB s i=0) (fun k=>⟨bx [(1,.pt (az s) 0),(37,.sl (s.needs.map aV) false),(38,aC n),(39,aC (k:Nat))],[],bG.none,false,0⟩) (fun k=>s.needs.length - k) ?_ 0 ⟨Nat.zero_le _,fun i hi=>absurd hi (Nat.not_lt_zero _)⟩
      rintro k ⟨hk,hprev⟩
      refine aa (mu:=fun _=>false) ?_
      by_cases hlt:k < s.needs.length
      ·have d1:decide ((k:Int) < n)=true:=decide_eq_true (by omega)
       have hat:(s.needs.map aV)[((k:Nat):Int).toNat]?=some (aV s.needs[k]):=cI hlt
       have hga:fB s k=gw s.needs[k] (s.needs.take k):=by unfold fB;rw [List.getElem?_eq_getElem hlt]
       have hnm:=Pe one s.needs[k].name (h.names _ (List.getElem_mem hlt))
       have hcf:∀ f,Pu one 42 [.sl ((s.needs.take k).map aV) f,.fn 43 [] [.pt (aV s.needs[k]) 0]] (BB ((s.needs.take k).any fun x=>DU x.name s.needs[k].name)):=fun f=>sJ one 43 [] [.pt (aV s.needs[k]) 0] rfl (fun x=>DU x.name s.needs[k].name) (s.needs.take k) f (by simp [maxLen];omega) (fun x _=>JX one s.needs[k] x)
       have hsl:((s.needs.map aV).drop 0).take (k - 0)=(s.needs.take k).map aV:=by
        rw [List.drop_zero,Nat.sub_zero,List.map_take]
       rw [←hsl] at hcf
       have hkl:0≤k∧k≤(s.needs.map aV).length:=⟨Nat.zero_le _,by rw [List.length_map];omega⟩
       have hel4:∀ el ∈ s.needs.map aV,el.length=4:=fun el hel=>by obtain ⟨x,_,rfl⟩:=List.mem_map.1 hel;rfl
       have fin:∀ v,fB s k=v→v ≠ 0→i7 s=(2,(k:Int),v):=fun v e hv=>DV hb e5 hlt hprev e hv
       have o6:=iJ one 1 60 s.needs[k].full
       have o7:=iJ one 0 s.needs[k].full s.needs[k].first
       have o8:=iJ one 1 30 s.needs[k].weight
       generalize s.needs[k]=g at *
       cases q1:je g.name with
       | false =>
        rw [q1] at hnm
        rw [fin 6 (by rw [hga];unfold gw;rw [if_pos q1]) (by decide)]
        repeat' (first |((with_reducible show av _ _ _ _ _ _ _ _);refine ah.call hnm rfl rfl ?_) |((with_reducible show av _ _ _ _ _ _ _ _);refine ah.call o6 rfl rfl ?_) |((with_reducible show av _ _ _ _ _ _ _ _);refine ah.call o7 rfl rfl ?_) |((with_reducible show av _ _ _ _ _ _ _ _);refine ah.call o8 rfl rfl ?_) |refine u1 ?_ |((with_reducible show RM.wpOp _ _ (.indexAddr _ _ _) _ _ _);refine ⟨aV g,⟨by omega,hat⟩,rfl,?_⟩) |(refine ⟨0,k,rfl,rfl,hkl,(by decide),hel4,?_⟩) |((with_reducible show av _ _ _ _ _ _ _ _);refine ah.yu (hcf _) (Fq.deep rfl) (ia.cons (Fq.deep rfl) (ia.cons (ia.Qe ia.nil (ia.cons (Fq.ptr rfl rfl) ia.nil)) ia.nil)) (fA.fl _) ?_) |refine u2 ?_ |fail)
        exact ⟨[_,_,_],⟨Fz.deep rfl,Fz.deep rfl,Fz.deep rfl,trivial⟩,rfl⟩
       | true =>
        rw [q1] at hnm
        have q1':¬ je g.name=false:=by rw [q1];simp
        cases q2:(s.needs.take k).any fun x=>DU x.name g.name with
        | true =>
         simp only [q2] at hcf
         rw [fin 5 (by rw [hga];unfold gw;rw [if_neg q1',if_pos q2]) (by decide)]
         repeat' (first |((with_reducible show av _ _ _ _ _ _ _ _);refine ah.call hnm rfl rfl ?_) |((with_reducible show av _ _ _ _ _ _ _ _);refine ah.call o6 rfl rfl ?_) |((with_reducible show av _ _ _ _ _ _ _ _);refine ah.call o7 rfl rfl ?_) |((with_reducible show av _ _ _ _ _ _ _ _);refine ah.call o8 rfl rfl ?_) |refine u1 ?_ |((with_reducible show RM.wpOp _ _ (.indexAddr _ _ _) _ _ _);refine ⟨aV g,⟨by omega,hat⟩,rfl,?_⟩) |(refine ⟨0,k,rfl,rfl,hkl,(by decide),hel4,?_⟩) |((with_reducible show av _ _ _ _ _ _ _ _);refine ah.yu (hcf _) (Fq.deep rfl) (ia.cons (Fq.deep rfl) (ia.cons (ia.Qe ia.nil (ia.cons (Fq.ptr rfl rfl) ia.nil)) ia.nil)) (fA.fl _) ?_) |refine u2 ?_ |fail)
         exact ⟨[_,_,_],⟨Fz.deep rfl,Fz.deep rfl,Fz.deep rfl,trivial⟩,rfl⟩
        | false =>
         simp only [q2] at hcf
         have q2':¬ ((s.needs.take k).any fun x=>DU x.name g.name)=true:=by rw [q2];simp
         cases q3:fR 1 60 [g.full] with
         | true =>
          rw [q3] at o6
          rw [fin 7 (by rw [hga];unfold gw;rw [if_neg q1',if_neg q2',if_pos (by rw [q3];rfl)]) (by decide)]
          repeat' (first |((with_reducible show av _ _ _ _ _ _ _ _);refine ah.call hnm rfl rfl ?_) |((with_reducible show av _ _ _ _ _ _ _ _);refine ah.call o6 rfl rfl ?_) |((with_reducible show av _ _ _ _ _ _ _ _);refine ah.call o7 rfl rfl ?_) |((with_reducible show av _ _ _ _ _ _ _ _);refine ah.call o8 rfl rfl ?_) |refine u1 ?_ |((with_reducible show RM.wpOp _ _ (.indexAddr _ _ _) _ _ _);refine ⟨aV g,⟨by omega,hat⟩,rfl,?_⟩) |(refine ⟨0,k,rfl,rfl,hkl,(by decide),hel4,?_⟩) |((with_reducible show av _ _ _ _ _ _ _ _);refine ah.yu (hcf _) (Fq.deep rfl) (ia.cons (Fq.deep rfl) (ia.cons (ia.Qe ia.nil (ia.cons (Fq.ptr rfl rfl) ia.nil)) ia.nil)) (fA.fl _) ?_) |refine u2 ?_ |fail)
          exact ⟨[_,_,_],⟨Fz.deep rfl,Fz.deep rfl,Fz.deep rfl,trivial⟩,rfl⟩
         | false =>
          rw [q3] at o6
          cases q4:fR 0 g.full [g.first] with
          | true =>
           rw [q4] at o7
           rw [fin 7 (by rw [hga];unfold gw;rw [if_neg q1',if_neg q2',if_pos (by rw [q3,q4];rfl)]) (by decide)]
           repeat' (first |((with_reducible show av _ _ _ _ _ _ _ _);refine ah.call hnm rfl rfl ?_) |((with_reducible show av _ _ _ _ _ _ _ _);refine ah.call o6 rfl rfl ?_) |((with_reducible show av _ _ _ _ _ _ _ _);refine ah.call o7 rfl rfl ?_) |((with_reducible show av _ _ _ _ _ _ _ _);refine ah.call o8 rfl rfl ?_) |refine u1 ?_ |((with_reducible show RM.wpOp _ _ (.indexAddr _ _ _) _ _ _);refine ⟨aV g,⟨by omega,hat⟩,rfl,?_⟩) |(refine ⟨0,k,rfl,rfl,hkl,(by decide),hel4,?_⟩) |((with_reducible show av _ _ _ _ _ _ _ _);refine ah.yu (hcf _) (Fq.deep rfl) (ia.cons (Fq.deep rfl) (ia.cons (ia.Qe ia.nil (ia.cons (Fq.ptr rfl rfl) ia.nil)) ia.nil)) (fA.fl _) ?_) |refine u2 ?_ |fail)
           exact ⟨[_,_,_],⟨Fz.deep rfl,Fz.deep rfl,Fz.deep rfl,trivial⟩,rfl⟩
          | false =>
           rw [q4] at o7
           cases q5:fR 1 30 [g.weight] with
           | true =>
            rw [q5] at o8
            rw [fin 7 (by rw [hga];unfold gw;rw [if_neg q1',if_neg q2',if_pos (by rw [q3,q4,q5];rfl)]) (by decide)]
            repeat' (first |((with_reducible show av _ _ _ _ _ _ _ _);refine ah.call hnm rfl rfl ?_) |((with_reducible show av _ _ _ _ _ _ _ _);refine ah.call o6 rfl rfl ?_) |((with_reducible show av _ _ _ _ _ _ _ _);refine ah.call o7 rfl rfl ?_) |((with_reducible show av _ _ _ _ _ _ _ _);refine ah.call o8 rfl rfl ?_) |refine u1 ?_ |((with_reducible show RM.wpOp _ _ (.indexAddr _ _ _) _ _ _);refine ⟨aV g,⟨by omega,hat⟩,rfl,?_⟩) |(refine ⟨0,k,rfl,rfl,hkl,(by decide),hel4,?_⟩) |((with_reducible show av _ _ _ _ _ _ _ _);refine ah.yu (hcf _) (Fq.deep rfl) (ia.cons (Fq.deep rfl) (ia.cons (ia.Qe ia.nil (ia.cons (Fq.ptr rfl rfl) ia.nil)) ia.nil)) (fA.fl _) ?_) |refine u2 ?_ |fail)
            exact ⟨[_,_,_],⟨Fz.deep rfl,Fz.deep rfl,Fz.deep rfl,trivial⟩,rfl⟩
           | false =>
            rw [q5] at o8
            have e0:fB s k=0:=by rw [hga];unfold gw;rw [if_neg q1',if_neg q2',if_neg (by rw [q3,q4,q5];simp)]
            repeat' (first |((with_reducible show av _ _ _ _ _ _ _ _);refine ah.call hnm rfl rfl ?_) |((with_reducible show av _ _ _ _ _ _ _ _);refine ah.call o6 rfl rfl ?_) |((with_reducible show av _ _ _ _ _ _ _ _);refine ah.call o7 rfl rfl ?_) |((with_reducible show av _ _ _ _ _ _ _ _);refine ah.call o8 rfl rfl ?_) |refine u1 ?_ |((with_reducible show RM.wpOp _ _ (.indexAddr _ _ _) _ _ _);refine ⟨aV g,⟨by omega,hat⟩,rfl,?_⟩) |(refine ⟨0,k,rfl,rfl,hkl,(by decide),hel4,?_⟩) |((with_reducible show av _ _ _ _ _ _ _ _);refine ah.yu (hcf _) (Fq.deep rfl) (ia.cons (Fq.deep rfl) (ia.cons (ia.Qe ia.nil (ia.cons (Fq.ptr rfl rfl) ia.nil)) ia.nil)) (fA.fl _) ?_) |refine u2 ?_ |fail)
            refine ⟨k+1,⟨hlt,fun i hi=>?_⟩,(by dsimp only;omega),aj.to 0 rfl ⟨rfl,rfl,rfl,bW (by simp),trivial⟩ (Nat.zero_le _) rfl rfl⟩
            by_cases hik:i=k
            ·subst hik;exact e0
            ·exact hprev i (by omega)
      ·have d1:decide ((k:Int) < n)=false:=decide_eq_false (by omega)
       have hkn:k=s.needs.length:=by omega
       subst hkn
       have ep:((ints s.possible).length:Int)=s.possible.length:=by simp
       have mp:s.possible.length≤9223372036854775807:=Nat.le_trans h.possible (by simp [maxLen])
       by_cases h6:6 < s.possible.length
       ·have d2:decide (6 < ((ints s.possible).length:Int))=true:=decide_eq_true (by rw [ep];omega)
        rw [Cd hb e5 hprev h6]
        repeat' (first |refine u1 ?_ |refine u2 ?_ |fail)
        exact ⟨[_,_,_],⟨Fz.deep rfl,Fz.deep rfl,Fz.deep rfl,trivial⟩,rfl⟩
       ·have d2:decide (6 < ((ints s.possible).length:Int))=false:=decide_eq_false (by rw [ep];omega)
        rw [vX hb e5 hprev h6]
        have hd:=cO e1
        have ha:=NF one s.possible false s.days 7 h.possible (by omega) (by decide)
        cases e6:decide ((dU s.possible.length (gi s.possible s.days 7)).2=0) with
        | true =>
         have e7:=of_decide_eq_true e6
         rw [if_neg (by rw [e7];simp)]
         rw [e7] at ha
         repeat' (first |refine u1 ?_ |((with_reducible show av _ _ _ _ _ _ _ _);refine ah.call ha rfl rfl ?_) |refine u2 ?_ |fail)
         exact ⟨[_,_,_],⟨Fz.deep rfl,Fz.deep rfl,Fz.deep rfl,trivial⟩,rfl⟩
        | false =>
         have e7:=of_decide_eq_false e6
         have d3:(!decide ((dU s.possible.length (gi s.possible s.days 7)).2=0))=true:=by rw [e6];rfl
         rw [if_pos e7]
         repeat' (first |refine u1 ?_ |((with_reducible show av _ _ _ _ _ _ _ _);refine ah.call ha rfl rfl ?_) |refine u2 ?_ |fail)
         exact ⟨[_,_,_],⟨Fz.deep rfl,Fz.deep rfl,Fz.deep rfl,trivial⟩,rfl⟩
theorem Ce {l:List Int} {many below:Int} {k:Nat} (hk:k < l.length) (h:pL l[k] 0 (many - 1)=false):gi l many below k=below:=by
 have h1:=bR l[k] 0 (many - 1)
 unfold gi
 have hg:l.getD k 0=l[k]:=by simp [List.getD,hk]
 rw [hg,h1,h]
 rfl
theorem Ph {l:List Int} {many below:Int} (hk:0 < l.length) (h:pL l[0] 0 (many - 1)=true):gi l many below 0=0:=by
 have h1:=bR l[0] 0 (many - 1)
 have h2:=mG.1 h
 unfold gi
 have hg:l.getD 0 0=l[0]:=by simp [List.getD,hk]
 rw [hg,h1,h]
 show (if l[0]≤(-1:Int) then (2:Int) else 0)=0
 rw [if_neg (by omega)]
theorem JY {l:List Int} {many below:Int} {k:Nat} (hk:k+1 < l.length) (h:pL l[k+1] 0 (many - 1)=true):gi l many below (k+1)=if l[k+1]≤l[k] then 2 else 0:=by
 have h1:=bR l[k+1] 0 (many - 1)
 unfold gi
 have hg:l.getD (k+1) 0=l[k+1]:=by simp [List.getD,hk]
 have hp:rq l (k+1)=l[k]:=by
  show l.getD k 0=l[k]
  simp [List.getD,(by omega:k < l.length)]
 rw [hg,hp,h1,h]
 rfl
def Af (x:jX) (before:List jX):Int :=
 if lE x.name (before.map (·.name)) ≠ 0 then lE x.name (before.map (·.name))
 else if pL x.full 1 60=false∨pL x.first 0 x.full=false∨pL x.weight 1 30=false then 7 else 0
theorem LM (x:jX) (before:List jX):gw x before=Af x before:=by
 unfold gw Af lE
 rw [List.any_map]
 have e1:(List.any before ((fun y=>DU y x.name) ∘ fun y=>y.name))=before.any fun y=>DU y.name x.name:=rfl
 rw [e1]
 cases je x.name with
 | false=>simp
 | true =>
  cases (before.any fun y=>DU y.name x.name) with
  | true=>simp
  | false =>
   rw [bR,bR,bR]
   cases pL x.full 1 60 <;> cases pL x.first 0 x.full <;> cases pL x.weight 1 30 <;> simp
def fT (l:List jX):List AV:=l.map fun x=>ST x.name
theorem Cf {s:ai} {k:Nat} (h:k < s.needs.length):fT (s.needs.take (k+1))=fT (s.needs.take k)++[ST s.needs[k].name]:=by
 unfold fT
 rw [List.take_add_one,List.getElem?_eq_getElem h,List.map_append]
 rfl
theorem vY (l:List jX):((l.map (·.name)).map eS).flatten=fT l:=by
 induction l with
 | nil=>rfl
 | cons a l ih =>
  simp only [List.map_cons,List.flatten_cons,ih]
  rfl
theorem Cg (l:List jX):cJ (fT l)=true:=by
 induction l with
 | nil=>rfl
 | cons a l ih=>exact ih
theorem DW (n:Nat) (l:List jX):nP n (fT l)=true:=by
 induction l with
 | nil=>rfl
 | cons a l ih=>exact ih
theorem Gk {B:List AB} (l:List jX) {n v c:Nat} (h:l.length=n):Fz (.cells (fT l) 1 v :: B) (.bI 0 v 0 n c) (.sl ((l.map (·.name)).map eS) false) :=
 Fz.row (es:=1) rfl (by unfold fT;simp;omega) (by simp;omega) (fun el hel=>by obtain ⟨x,_,rfl⟩:=List.mem_map.1 hel;rfl) (by rw [vY,List.drop_zero,List.take_of_length_le (by unfold fT;simp;omega)]) (by rw [vY];exact Cg _) (fun h=>Bool.noConfusion h)
theorem yA (l:List jX) (v:Nat):([.cells (fT l) 1 v]:List AB).all (AB.ic 1)=true:=by
 have h:AB.ic 1 (.cells (fT l) 1 v)=true:=DW 1 l
 simp only [List.all_cons,List.all_nil,h,Bool.and_true]
end Go.Proofs.YtpeogffeoehboaaDoor
