/-
  Contracts of the program's functions and of the document's. Lemmas alone; their conditions stand in them.
-/
import Derived.Test.YtpeogffeoehboaaDoorA3
import Derived.Test.YtpeogffeoehboaaDoorK1
open Go Go.RM
namespace Go.Proofs.YtpeogffeoehboaaDoor
set_option maxRecDepth 100000
set_option maxHeartbeats 4000000
theorem I7 (one:Bool) (lo hi:Int) (l:List Int) (h:l.length≤maxLen):Pu one 40 [aD lo,aD hi,.sl (l.map eI) true] (BB (ei lo hi l)):=by
 have:=BW one lo hi (l.map eI) true (by rw [List.all_map,List.all_eq_true];intro x _;rfl) (by simpa using h)
 rw [show (l.map eI).map I4=l by rw [List.map_map];exact List.map_id _] at this
 exact this
theorem fO (one:Bool) (lo hi a:Int):Pu one 40 [aD lo,aD hi,.sl [eI a] true] (BB (ei lo hi [a])):=I7 one lo hi [a] (by simp [maxLen])
theorem bA {lo hi a:Int} (h:ei lo hi [a]=false):lo≤a∧a≤hi:=by
 rw [aT] at h
 have h2:kQ a lo hi=true:=by cases e:kQ a lo hi with|true=>rfl|false=>rw [e] at h;cases h
 exact hJ.1 h2
def pS (l:List Int) (i:Nat):Int:=if i=0 then -1 else l.getD (i - 1) 0
def ej (l:List Int) (many below:Int) (i:Nat):Int :=
 if ei 0 (many - 1) [l.getD i 0]=true then below else if l.getD i 0≤pS l i then 2 else 0
theorem EP (one:Bool) (l:List Int) (full:Bool) (many below:Int) (hl:l.length≤maxLen) (hm:-9223372036854775807≤many∧many≤9223372036854775807) (hb:below ≠ 0) :
  Pu one 44 [.sl (ints l) full,aD many,aD below] (.tp [aD (cy l.length (ej l many below)).1,aD (cy l.length (ej l many below)).2]):=by
 have ml:l.length≤9223372036854775807:=Nat.le_trans hl (by simp [maxLen])
 have eg:((ints l).length:Int)=l.length:=by simp
 obtain ⟨n,hn⟩:∃ n:Int,n=l.length:=⟨_,rfl⟩
 refine af.body (fn:=Tryd.f44) rfl rfl rfl rfl ?_
 refine ah (mu:=fun _=>false) ?_
 repeat' (first |refine u1 ?_ |refine u2 ?_ |fail)
 refine aF.bf (ax.to (l:=[(1,aD many),(2,aD below),(8,aD (pS l 0)),(11,.sl (ints l) full),(12,aD n),(13,aD (0:Nat))]) (hp:=[]) 0 rfl ⟨rfl,rfl,rfl,rfl,bg (by rw [hn];exact eg),rfl,trivial⟩ (Nat.zero_le _) rfl rfl) ?_
 refine aF.loop (fun k:Nat=>k≤l.length∧∀ i,i < k→ej l many below i=0) (fun k=>⟨bZ [(1,aD many),(2,aD below),(8,aD (pS l k)),(11,.sl (ints l) full),(12,aD n),(13,aD (k:Nat))],[],cF.none,false,0⟩) (fun k=>l.length - k) ?_ 0 ⟨Nat.zero_le _,fun i hi=>absurd hi (Nat.not_lt_zero _)⟩
 rintro k ⟨hk,hprev⟩
 refine ah (mu:=fun _=>false) ?_
 by_cases hlt:k < l.length
 ·have d1:decide ((k:Int) < n)=true:=decide_eq_true (by omega)
  have hat:(ints l)[((k:Nat):Int).toNat]?=some (eI l[k]):=bq hlt
  have hg:l.getD k 0=l[k]:=by simp [List.getD,hlt]
  have hp:pS l (k+1)=l[k]:=by unfold pS;rw [if_neg (by omega),Nat.add_sub_cancel,hg]
  have hm1:-9223372036854775808≤many - 1∧many - 1≤9223372036854775807:=by omega
  have o1:=fO one 0 (many - 1) l[k]
  have hA:ej l many below k=if ei 0 (many - 1) [l[k]]=true then below else if l[k]≤pS l k then 2 else 0:=by unfold ej;rw [hg]
  have fin:∀ v,ej l many below k=v→v ≠ 0→cy l.length (ej l many below)=((k:Int),v):=fun v e hv=>by
   rw [fB hlt hprev (by rw [e];exact hv),e]
  generalize l[k]=g at *
  generalize pS l k=p at *
  cases q1:ei 0 (many - 1) [g] with
  | true =>
   rw [q1] at o1
   rw [fin below (by rw [hA,if_pos q1]) hb]
   repeat' (first |((with_reducible show ak _ _ _ _ _ _ _ _);refine af.call o1 rfl rfl ?_) |refine u1 ?_ |((with_reducible show RM.wpOp _ _ (.indexAddr _ _ _) _ _ _);refine ⟨eI g,⟨by omega,hat⟩,rfl,?_⟩) |refine u2 ?_ |fail)
   exact ⟨[_,_],⟨Fz.deep rfl,Fz.deep rfl,trivial⟩,rfl⟩
  | false =>
   rw [q1] at o1
   cases q2:decide (g≤p) with
   | true =>
    rw [fin 2 (by rw [hA,if_neg (by rw [q1];simp),if_pos (of_decide_eq_true q2)]) (by decide)]
    repeat' (first |((with_reducible show ak _ _ _ _ _ _ _ _);refine af.call o1 rfl rfl ?_) |refine u1 ?_ |((with_reducible show RM.wpOp _ _ (.indexAddr _ _ _) _ _ _);refine ⟨eI g,⟨by omega,hat⟩,rfl,?_⟩) |refine u2 ?_ |fail)
    exact ⟨[_,_],⟨Fz.deep rfl,Fz.deep rfl,trivial⟩,rfl⟩
   | false =>
    have e0:ej l many below k=0:=by rw [hA,if_neg (by rw [q1];simp),if_neg (of_decide_eq_false q2)]
    repeat' (first |((with_reducible show ak _ _ _ _ _ _ _ _);refine af.call o1 rfl rfl ?_) |refine u1 ?_ |((with_reducible show RM.wpOp _ _ (.indexAddr _ _ _) _ _ _);refine ⟨eI g,⟨by omega,hat⟩,rfl,?_⟩) |refine u2 ?_ |fail)
    refine ⟨k+1,⟨hlt,fun i hi=>?_⟩,(by dsimp only;omega),ax.to 0 rfl ⟨rfl,rfl,bg hp.symm,rfl,rfl,bg (by simp),trivial⟩ (Nat.zero_le _) rfl rfl⟩
    by_cases hik:i=k
    ·rw [hik];exact e0
    ·exact hprev i (by omega)
 ·have hke:k=l.length:=by omega
  have d1:decide ((k:Int) < n)=false:=decide_eq_false (by omega)
  rw [eD (fun i hi=>hprev i (by omega))]
  repeat' (first |refine u1 ?_ |refine u2 ?_ |fail)
  exact ⟨[_,_],⟨Fz.deep rfl,Fz.deep rfl,trivial⟩,rfl⟩
theorem ER (one:Bool) (k x:iT):af TT TB one (.fn 43 [] [.pt (aG k) 0]) [.ag (aG x)] (BB (zV x.name k.name)):=by
 refine af.body (fn:=Tryd.f43) rfl rfl rfl rfl ?_
 refine ah (mu:=fun _=>false) ?_
 repeat' (first |refine u1 ?_ |refine u2 ?_ |fail)
 exact ⟨[_],⟨Fz.deep rfl,trivial⟩,rfl⟩
end Go.Proofs.YtpeogffeoehboaaDoor
open Go Go.RM
namespace Go.Proofs.YtpeogffeoehboaaDoor
set_option maxRecDepth 100000
set_option maxHeartbeats 4000000
def eZ (x:iT) (before:List iT):Int :=
 if gT x.name=false then 6
 else if (before.any fun y=>zV y.name x.name)=true then 5
 else if (ei 1 60 [x.full] || ei 0 x.full [x.first] || ei 1 30 [x.weight])=true then 7
 else 0
def dW (s:ay) (i:Nat):Int:=match s.needs[i]? with
 | some x=>eZ x (s.needs.take i)
 | none=>0
def cm (s:ay):Bool:=ei 1 60 [s.days] || ei 1 30 [s.load] || ei 0 8 [s.fail] || ei 1 8 [s.row]
def kN (s:ay):Int × Int × Int :=
 if cm s=true then (1,0,7)
 else if ei 1 3 [(s.needs.length:Int)]=true then (2,0,3)
 else if (cy s.needs.length (dW s)).2 ≠ 0 then (2,(cy s.needs.length (dW s)).1,(cy s.needs.length (dW s)).2)
 else if 6 < s.possible.length then (3,0,3)
 else if (cy s.possible.length (ej s.possible s.days 7)).2 ≠ 0 then (3,(cy s.possible.length (ej s.possible s.days 7)).1,(cy s.possible.length (ej s.possible s.days 7)).2)
 else (0,0,0)
structure ay.Ok (s:ay):Prop where
 needs:s.needs.length≤maxLen
 names:∀ x ∈ s.needs,x.name.data.toList.length≤maxLen
 possible:s.possible.length≤maxLen
theorem gH {s:ay} (h:cm s=true):kN s=(1,0,7):=by unfold kN;rw [if_pos h]
theorem yu {s:ay} (h:cm s=false) (h1:ei 1 3 [(s.needs.length:Int)]=true):kN s=(2,0,3):=by unfold kN;rw [if_neg (by rw [h];simp),if_pos h1]
theorem zW {s:ay} (h:cm s=false) (h1:ei 1 3 [(s.needs.length:Int)]=false) {k:Nat} {v:Int} (hk:k < s.needs.length) (hprev:∀ i,i < k→dW s i=0) (hv:dW s k=v) (h0:v ≠ 0):kN s=(2,(k:Int),v):=by
 unfold kN
 rw [if_neg (by rw [h];simp),if_neg (by rw [h1];simp),fB hk hprev (by rw [hv];exact h0),hv,if_pos h0]
theorem yw {s:ay} (h:cm s=false) (h1:ei 1 3 [(s.needs.length:Int)]=false) (hprev:∀ i,i < s.needs.length→dW s i=0) (h2:6 < s.possible.length):kN s=(3,0,3):=by
 unfold kN
 rw [if_neg (by rw [h];simp),if_neg (by rw [h1];simp),eD hprev,if_neg (by simp),if_pos h2]
theorem sB {s:ay} (h:cm s=false) (h1:ei 1 3 [(s.needs.length:Int)]=false) (hprev:∀ i,i < s.needs.length→dW s i=0) (h2:¬ 6 < s.possible.length) :
  kN s=if (cy s.possible.length (ej s.possible s.days 7)).2 ≠ 0 then (3,(cy s.possible.length (ej s.possible s.days 7)).1,(cy s.possible.length (ej s.possible s.days 7)).2) else (0,0,0):=by
 unfold kN
 rw [if_neg (by rw [h];simp),if_neg (by rw [h1];simp),eD hprev,if_neg (by simp),if_neg h2]
theorem A7 (one:Bool) (s:ay) (h:s.Ok):Pu one 13 [.ag (az s)] (.tp [aD (kN s).1,aD (kN s).2.1,aD (kN s).2.2]):=by
 have eg:((s.needs.map aG).length:Int)=s.needs.length:=by simp
 have o1:=fO one 1 60 s.days
 have o2:=fO one 1 30 s.load
 have o3:=fO one 0 8 s.fail
 have o4:=fO one 1 8 s.row
 have o5:=fO one 1 3 ((s.needs.map aG).length:Int)
 rw [eg] at o5
 cases e1:ei 1 60 [s.days] with
 | true =>
  rw [e1] at o1
  rw [gH (by unfold cm;rw [e1];simp)]
  refine af.body (fn:=Tryd.f13) rfl rfl rfl rfl ?_
  refine ah (mu:=fun _=>false) ?_
  repeat' (first |refine u1 ?_ |((with_reducible show ak _ _ _ _ _ _ _ _);refine af.call o1 rfl rfl ?_) |refine u2 ?_ |fail)
  exact ⟨[_,_,_],⟨Fz.deep rfl,Fz.deep rfl,Fz.deep rfl,trivial⟩,rfl⟩
 | false =>
  rw [e1] at o1
  cases e2:ei 1 30 [s.load] with
  | true =>
   rw [e2] at o2
   rw [gH (by unfold cm;rw [e1,e2];simp)]
   refine af.body (fn:=Tryd.f13) rfl rfl rfl rfl ?_
   refine ah (mu:=fun _=>false) ?_
   repeat' (first |refine u1 ?_ |((with_reducible show ak _ _ _ _ _ _ _ _);refine af.call o1 rfl rfl ?_) |((with_reducible show ak _ _ _ _ _ _ _ _);refine af.call o2 rfl rfl ?_) |refine u2 ?_ |fail)
   exact ⟨[_,_,_],⟨Fz.deep rfl,Fz.deep rfl,Fz.deep rfl,trivial⟩,rfl⟩
  | false =>
   rw [e2] at o2
   cases e3:ei 0 8 [s.fail] with
   | true =>
    rw [e3] at o3
    rw [gH (by unfold cm;rw [e1,e2,e3];simp)]
    refine af.body (fn:=Tryd.f13) rfl rfl rfl rfl ?_
    refine ah (mu:=fun _=>false) ?_
    repeat' (first |refine u1 ?_ |((with_reducible show ak _ _ _ _ _ _ _ _);refine af.call o1 rfl rfl ?_) |((with_reducible show ak _ _ _ _ _ _ _ _);refine af.call o2 rfl rfl ?_) |((with_reducible show ak _ _ _ _ _ _ _ _);refine af.call o3 rfl rfl ?_) |refine u2 ?_ |fail)
    exact ⟨[_,_,_],⟨Fz.deep rfl,Fz.deep rfl,Fz.deep rfl,trivial⟩,rfl⟩
   | false =>
    rw [e3] at o3
    cases e4:ei 1 8 [s.row] with
    | true =>
     rw [e4] at o4
     rw [gH (by unfold cm;rw [e1,e2,e3,e4];simp)]
     refine af.body (fn:=Tryd.f13) rfl rfl rfl rfl ?_
     refine ah (mu:=fun _=>false) ?_
     repeat' (first |refine u1 ?_ |((with_reducible show ak _ _ _ _ _ _ _ _);refine af.call o1 rfl rfl ?_) |((with_reducible show ak _ _ _ _ _ _ _ _);refine af.call o2 rfl rfl ?_) |((with_reducible show ak _ _ _ _ _ _ _ _);refine af.call o3 rfl rfl ?_) |((with_reducible show ak _ _ _ _ _ _ _ _);refine af.call o4 rfl rfl ?_) |refine u2 ?_ |fail)
     exact ⟨[_,_,_],⟨Fz.deep rfl,Fz.deep rfl,Fz.deep rfl,trivial⟩,rfl⟩
    | false =>
     rw [e4] at o4
     have hb:cm s=false:=by unfold cm;rw [e1,e2,e3,e4];rfl
     cases e5:ei 1 3 [(s.needs.length:Int)] with
     | true =>
      rw [yu hb e5]
      rw [e5,←eg] at o5
      refine af.body (fn:=Tryd.f13) rfl rfl rfl rfl ?_
      refine ah (mu:=fun _=>false) ?_
      repeat' (first |refine u1 ?_ |((with_reducible show ak _ _ _ _ _ _ _ _);refine af.call o1 rfl rfl ?_) |((with_reducible show ak _ _ _ _ _ _ _ _);refine af.call o2 rfl rfl ?_) |((with_reducible show ak _ _ _ _ _ _ _ _);refine af.call o3 rfl rfl ?_) |((with_reducible show ak _ _ _ _ _ _ _ _);refine af.call o4 rfl rfl ?_) |((with_reducible show ak _ _ _ _ _ _ _ _);refine af.call o5 rfl rfl ?_) |refine u2 ?_ |fail)
      exact ⟨[_,_,_],⟨Fz.deep rfl,Fz.deep rfl,Fz.deep rfl,trivial⟩,rfl⟩
     | false =>
      rw [e5,←eg] at o5
      have hn3:s.needs.length≤3:=by
       have:=bA e5
       omega
      obtain ⟨n,hn⟩:∃ n:Int,n=s.needs.length:=⟨_,rfl⟩
      refine af.body (fn:=Tryd.f13) rfl rfl rfl rfl ?_
      refine ah (mu:=fun _=>false) ?_
      repeat' (first |refine u1 ?_ |((with_reducible show ak _ _ _ _ _ _ _ _);refine af.call o1 rfl rfl ?_) |((with_reducible show ak _ _ _ _ _ _ _ _);refine af.call o2 rfl rfl ?_) |((with_reducible show ak _ _ _ _ _ _ _ _);refine af.call o3 rfl rfl ?_) |((with_reducible show ak _ _ _ _ _ _ _ _);refine af.call o4 rfl rfl ?_) |((with_reducible show ak _ _ _ _ _ _ _ _);refine af.call o5 rfl rfl ?_) |refine u2 ?_ |fail)
      refine aF.bf (ax.to (l:=[(1,.pt (az s) 0),(37,.sl (s.needs.map aG) false),(38,aD n),(39,aD (0:Nat))]) (hp:=[]) 0 rfl ⟨rfl,rfl,bg (by rw [hn];exact eg),rfl,trivial⟩ (Nat.zero_le _) rfl rfl) ?_
      refine aF.loop (fun k:Nat=>k≤s.needs.length∧∀ i,i < k→dW s i=0) (fun k=>⟨bZ [(1,.pt (az s) 0),(37,.sl (s.needs.map aG) false),(38,aD n),(39,aD (k:Nat))],[],cF.none,false,0⟩) (fun k=>s.needs.length - k) ?_ 0 ⟨Nat.zero_le _,fun i hi=>absurd hi (Nat.not_lt_zero _)⟩
      rintro k ⟨hk,hprev⟩
      refine ah (mu:=fun _=>false) ?_
      by_cases hlt:k < s.needs.length
      ·have d1:decide ((k:Int) < n)=true:=decide_eq_true (by omega)
       have hat:(s.needs.map aG)[((k:Nat):Int).toNat]?=some (aG s.needs[k]):=bq hlt
       have hga:dW s k=eZ s.needs[k] (s.needs.take k):=by unfold dW;rw [List.getElem?_eq_getElem hlt]
       have hnm:=I5 one s.needs[k].name (h.names _ (List.getElem_mem hlt))
       have hcf:∀ f,Pu one 42 [.sl ((s.needs.take k).map aG) f,.fn 43 [] [.pt (aG s.needs[k]) 0]] (BB ((s.needs.take k).any fun x=>zV x.name s.needs[k].name)):=fun f=>oX one 43 [] [.pt (aG s.needs[k]) 0] rfl (fun x=>zV x.name s.needs[k].name) (s.needs.take k) f (by simp [maxLen];omega) (fun x _=>ER one s.needs[k] x)
       have hsl:((s.needs.map aG).drop 0).take (k - 0)=(s.needs.take k).map aG:=by
        rw [List.drop_zero,Nat.sub_zero,List.map_take]
       rw [←hsl] at hcf
       have hkl:0≤k∧k≤(s.needs.map aG).length:=⟨Nat.zero_le _,by rw [List.length_map];omega⟩
       have hel4:∀ el ∈ s.needs.map aG,el.length=4:=fun el hel=>by obtain ⟨x,_,rfl⟩:=List.mem_map.1 hel;rfl
       have fin:∀ v,dW s k=v→v ≠ 0→kN s=(2,(k:Int),v):=fun v e hv=>zW hb e5 hlt hprev e hv
       have o6:=fO one 1 60 s.needs[k].full
       have o7:=fO one 0 s.needs[k].full s.needs[k].first
       have o8:=fO one 1 30 s.needs[k].weight
       generalize s.needs[k]=g at *
       cases q1:gT g.name with
       | false =>
        rw [q1] at hnm
        rw [fin 6 (by rw [hga];unfold eZ;rw [if_pos q1]) (by decide)]
        repeat' (first |((with_reducible show ak _ _ _ _ _ _ _ _);refine af.call hnm rfl rfl ?_) |((with_reducible show ak _ _ _ _ _ _ _ _);refine af.call o6 rfl rfl ?_) |((with_reducible show ak _ _ _ _ _ _ _ _);refine af.call o7 rfl rfl ?_) |((with_reducible show ak _ _ _ _ _ _ _ _);refine af.call o8 rfl rfl ?_) |refine u1 ?_ |((with_reducible show RM.wpOp _ _ (.indexAddr _ _ _) _ _ _);refine ⟨aG g,⟨by omega,hat⟩,rfl,?_⟩) |(refine ⟨0,k,rfl,rfl,hkl,(by decide),hel4,?_⟩) |((with_reducible show ak _ _ _ _ _ _ _ _);refine af.uH (hcf _) (Fq.deep rfl) (fQ.cons (Fq.deep rfl) (fQ.cons (fQ.Jl fQ.nil (fQ.cons (Fq.ptr rfl rfl) fQ.nil)) fQ.nil)) (fR.fl _) ?_) |refine u2 ?_ |fail)
        exact ⟨[_,_,_],⟨Fz.deep rfl,Fz.deep rfl,Fz.deep rfl,trivial⟩,rfl⟩
       | true =>
        rw [q1] at hnm
        have q1':¬ gT g.name=false:=by rw [q1];simp
        cases q2:(s.needs.take k).any fun x=>zV x.name g.name with
        | true =>
         simp only [q2] at hcf
         rw [fin 5 (by rw [hga];unfold eZ;rw [if_neg q1',if_pos q2]) (by decide)]
         repeat' (first |((with_reducible show ak _ _ _ _ _ _ _ _);refine af.call hnm rfl rfl ?_) |((with_reducible show ak _ _ _ _ _ _ _ _);refine af.call o6 rfl rfl ?_) |((with_reducible show ak _ _ _ _ _ _ _ _);refine af.call o7 rfl rfl ?_) |((with_reducible show ak _ _ _ _ _ _ _ _);refine af.call o8 rfl rfl ?_) |refine u1 ?_ |((with_reducible show RM.wpOp _ _ (.indexAddr _ _ _) _ _ _);refine ⟨aG g,⟨by omega,hat⟩,rfl,?_⟩) |(refine ⟨0,k,rfl,rfl,hkl,(by decide),hel4,?_⟩) |((with_reducible show ak _ _ _ _ _ _ _ _);refine af.uH (hcf _) (Fq.deep rfl) (fQ.cons (Fq.deep rfl) (fQ.cons (fQ.Jl fQ.nil (fQ.cons (Fq.ptr rfl rfl) fQ.nil)) fQ.nil)) (fR.fl _) ?_) |refine u2 ?_ |fail)
         exact ⟨[_,_,_],⟨Fz.deep rfl,Fz.deep rfl,Fz.deep rfl,trivial⟩,rfl⟩
        | false =>
         simp only [q2] at hcf
         have q2':¬ ((s.needs.take k).any fun x=>zV x.name g.name)=true:=by rw [q2];simp
         cases q3:ei 1 60 [g.full] with
         | true =>
          rw [q3] at o6
          rw [fin 7 (by rw [hga];unfold eZ;rw [if_neg q1',if_neg q2',if_pos (by rw [q3];rfl)]) (by decide)]
          repeat' (first |((with_reducible show ak _ _ _ _ _ _ _ _);refine af.call hnm rfl rfl ?_) |((with_reducible show ak _ _ _ _ _ _ _ _);refine af.call o6 rfl rfl ?_) |((with_reducible show ak _ _ _ _ _ _ _ _);refine af.call o7 rfl rfl ?_) |((with_reducible show ak _ _ _ _ _ _ _ _);refine af.call o8 rfl rfl ?_) |refine u1 ?_ |((with_reducible show RM.wpOp _ _ (.indexAddr _ _ _) _ _ _);refine ⟨aG g,⟨by omega,hat⟩,rfl,?_⟩) |(refine ⟨0,k,rfl,rfl,hkl,(by decide),hel4,?_⟩) |((with_reducible show ak _ _ _ _ _ _ _ _);refine af.uH (hcf _) (Fq.deep rfl) (fQ.cons (Fq.deep rfl) (fQ.cons (fQ.Jl fQ.nil (fQ.cons (Fq.ptr rfl rfl) fQ.nil)) fQ.nil)) (fR.fl _) ?_) |refine u2 ?_ |fail)
          exact ⟨[_,_,_],⟨Fz.deep rfl,Fz.deep rfl,Fz.deep rfl,trivial⟩,rfl⟩
         | false =>
          rw [q3] at o6
          cases q4:ei 0 g.full [g.first] with
          | true =>
           rw [q4] at o7
           rw [fin 7 (by rw [hga];unfold eZ;rw [if_neg q1',if_neg q2',if_pos (by rw [q3,q4];rfl)]) (by decide)]
           repeat' (first |((with_reducible show ak _ _ _ _ _ _ _ _);refine af.call hnm rfl rfl ?_) |((with_reducible show ak _ _ _ _ _ _ _ _);refine af.call o6 rfl rfl ?_) |((with_reducible show ak _ _ _ _ _ _ _ _);refine af.call o7 rfl rfl ?_) |((with_reducible show ak _ _ _ _ _ _ _ _);refine af.call o8 rfl rfl ?_) |refine u1 ?_ |((with_reducible show RM.wpOp _ _ (.indexAddr _ _ _) _ _ _);refine ⟨aG g,⟨by omega,hat⟩,rfl,?_⟩) |(refine ⟨0,k,rfl,rfl,hkl,(by decide),hel4,?_⟩) |((with_reducible show ak _ _ _ _ _ _ _ _);refine af.uH (hcf _) (Fq.deep rfl) (fQ.cons (Fq.deep rfl) (fQ.cons (fQ.Jl fQ.nil (fQ.cons (Fq.ptr rfl rfl) fQ.nil)) fQ.nil)) (fR.fl _) ?_) |refine u2 ?_ |fail)
           exact ⟨[_,_,_],⟨Fz.deep rfl,Fz.deep rfl,Fz.deep rfl,trivial⟩,rfl⟩
          | false =>
           rw [q4] at o7
           cases q5:ei 1 30 [g.weight] with
           | true =>
            rw [q5] at o8
            rw [fin 7 (by rw [hga];unfold eZ;rw [if_neg q1',if_neg q2',if_pos (by rw [q3,q4,q5];rfl)]) (by decide)]
            repeat' (first |((with_reducible show ak _ _ _ _ _ _ _ _);refine af.call hnm rfl rfl ?_) |((with_reducible show ak _ _ _ _ _ _ _ _);refine af.call o6 rfl rfl ?_) |((with_reducible show ak _ _ _ _ _ _ _ _);refine af.call o7 rfl rfl ?_) |((with_reducible show ak _ _ _ _ _ _ _ _);refine af.call o8 rfl rfl ?_) |refine u1 ?_ |((with_reducible show RM.wpOp _ _ (.indexAddr _ _ _) _ _ _);refine ⟨aG g,⟨by omega,hat⟩,rfl,?_⟩) |(refine ⟨0,k,rfl,rfl,hkl,(by decide),hel4,?_⟩) |((with_reducible show ak _ _ _ _ _ _ _ _);refine af.uH (hcf _) (Fq.deep rfl) (fQ.cons (Fq.deep rfl) (fQ.cons (fQ.Jl fQ.nil (fQ.cons (Fq.ptr rfl rfl) fQ.nil)) fQ.nil)) (fR.fl _) ?_) |refine u2 ?_ |fail)
            exact ⟨[_,_,_],⟨Fz.deep rfl,Fz.deep rfl,Fz.deep rfl,trivial⟩,rfl⟩
           | false =>
            rw [q5] at o8
            have e0:dW s k=0:=by rw [hga];unfold eZ;rw [if_neg q1',if_neg q2',if_neg (by rw [q3,q4,q5];simp)]
            repeat' (first |((with_reducible show ak _ _ _ _ _ _ _ _);refine af.call hnm rfl rfl ?_) |((with_reducible show ak _ _ _ _ _ _ _ _);refine af.call o6 rfl rfl ?_) |((with_reducible show ak _ _ _ _ _ _ _ _);refine af.call o7 rfl rfl ?_) |((with_reducible show ak _ _ _ _ _ _ _ _);refine af.call o8 rfl rfl ?_) |refine u1 ?_ |((with_reducible show RM.wpOp _ _ (.indexAddr _ _ _) _ _ _);refine ⟨aG g,⟨by omega,hat⟩,rfl,?_⟩) |(refine ⟨0,k,rfl,rfl,hkl,(by decide),hel4,?_⟩) |((with_reducible show ak _ _ _ _ _ _ _ _);refine af.uH (hcf _) (Fq.deep rfl) (fQ.cons (Fq.deep rfl) (fQ.cons (fQ.Jl fQ.nil (fQ.cons (Fq.ptr rfl rfl) fQ.nil)) fQ.nil)) (fR.fl _) ?_) |refine u2 ?_ |fail)
            refine ⟨k+1,⟨hlt,fun i hi=>?_⟩,(by dsimp only;omega),ax.to 0 rfl ⟨rfl,rfl,rfl,bg (by simp),trivial⟩ (Nat.zero_le _) rfl rfl⟩
            by_cases hik:i=k
            ·subst hik;exact e0
            ·exact hprev i (by omega)
      ·have d1:decide ((k:Int) < n)=false:=decide_eq_false (by omega)
       have hkn:k=s.needs.length:=by omega
       subst hkn
       have ep:((ints s.possible).length:Int)=s.possible.length:=by simp
       have mp:s.possible.length≤9223372036854775807:=Nat.le_trans h.possible (by simp [maxLen])
       by_cases h6:6 < s.possible.length
       ·have d2:decide (6 < ((ints s.possible).length:Int))=true:=decide_eq_true (by rw [ep];omega)
        rw [yw hb e5 hprev h6]
        repeat' (first |refine u1 ?_ |refine u2 ?_ |fail)
        exact ⟨[_,_,_],⟨Fz.deep rfl,Fz.deep rfl,Fz.deep rfl,trivial⟩,rfl⟩
       ·have d2:decide (6 < ((ints s.possible).length:Int))=false:=decide_eq_false (by rw [ep];omega)
        rw [sB hb e5 hprev h6]
        have hd:=bA e1
        have ha:=EP one s.possible false s.days 7 h.possible (by omega) (by decide)
        cases e6:decide ((cy s.possible.length (ej s.possible s.days 7)).2=0) with
        | true =>
         have e7:=of_decide_eq_true e6
         rw [if_neg (by rw [e7];simp)]
         rw [e7] at ha
         repeat' (first |refine u1 ?_ |((with_reducible show ak _ _ _ _ _ _ _ _);refine af.call ha rfl rfl ?_) |refine u2 ?_ |fail)
         exact ⟨[_,_,_],⟨Fz.deep rfl,Fz.deep rfl,Fz.deep rfl,trivial⟩,rfl⟩
        | false =>
         have e7:=of_decide_eq_false e6
         have d3:(!decide ((cy s.possible.length (ej s.possible s.days 7)).2=0))=true:=by rw [e6];rfl
         rw [if_pos e7]
         repeat' (first |refine u1 ?_ |((with_reducible show ak _ _ _ _ _ _ _ _);refine af.call ha rfl rfl ?_) |refine u2 ?_ |fail)
         exact ⟨[_,_,_],⟨Fz.deep rfl,Fz.deep rfl,Fz.deep rfl,trivial⟩,rfl⟩
end Go.Proofs.YtpeogffeoehboaaDoor
open Go Go.RM
namespace Go.Proofs.YtpeogffeoehboaaDoor
set_option maxRecDepth 100000
theorem sC {l:List Int} {many below:Int} {k:Nat} (hk:k < l.length) (h:kQ l[k] 0 (many - 1)=false):ej l many below k=below:=by
 have h1:=aT l[k] 0 (many - 1)
 unfold ej
 have hg:l.getD k 0=l[k]:=by simp [List.getD,hk]
 rw [hg,h1,h]
 rfl
theorem ES {l:List Int} {many below:Int} (hk:0 < l.length) (h:kQ l[0] 0 (many - 1)=true):ej l many below 0=0:=by
 have h1:=aT l[0] 0 (many - 1)
 have h2:=hJ.1 h
 unfold ej
 have hg:l.getD 0 0=l[0]:=by simp [List.getD,hk]
 rw [hg,h1,h]
 show (if l[0]≤(-1:Int) then (2:Int) else 0)=0
 rw [if_neg (by omega)]
theorem zX {l:List Int} {many below:Int} {k:Nat} (hk:k+1 < l.length) (h:kQ l[k+1] 0 (many - 1)=true):ej l many below (k+1)=if l[k+1]≤l[k] then 2 else 0:=by
 have h1:=aT l[k+1] 0 (many - 1)
 unfold ej
 have hg:l.getD (k+1) 0=l[k+1]:=by simp [List.getD,hk]
 have hp:pS l (k+1)=l[k]:=by
  show l.getD k 0=l[k]
  simp [List.getD,(by omega:k < l.length)]
 rw [hg,hp,h1,h]
 rfl
def wj (x:iT) (before:List iT):Int :=
 if jP x.name (before.map (·.name)) ≠ 0 then jP x.name (before.map (·.name))
 else if kQ x.full 1 60=false∨kQ x.first 0 x.full=false∨kQ x.weight 1 30=false then 7 else 0
theorem FU (x:iT) (before:List iT):eZ x before=wj x before:=by
 unfold eZ wj jP
 rw [List.any_map]
 have e1:(List.any before ((fun y=>zV y x.name) ∘ fun y=>y.name))=before.any fun y=>zV y.name x.name:=rfl
 rw [e1]
 cases gT x.name with
 | false=>simp
 | true =>
  cases (before.any fun y=>zV y.name x.name) with
  | true=>simp
  | false =>
   rw [aT,aT,aT]
   cases kQ x.full 1 60 <;> cases kQ x.first 0 x.full <;> cases kQ x.weight 1 30 <;> simp
def eE (l:List iT):List AV:=l.map fun x=>ST x.name
theorem yx {s:ay} {k:Nat} (h:k < s.needs.length):eE (s.needs.take (k+1))=eE (s.needs.take k)++[ST s.needs[k].name]:=by
 unfold eE
 rw [List.take_add_one,List.getElem?_eq_getElem h,List.map_append]
 rfl
theorem sD (l:List iT):((l.map (·.name)).map eS).flatten=eE l:=by
 induction l with
 | nil=>rfl
 | cons a l ih =>
  simp only [List.map_cons,List.flatten_cons,ih]
  rfl
theorem yz (l:List iT):ct (eE l)=true:=by
 induction l with
 | nil=>rfl
 | cons a l ih=>exact ih
theorem zY (n:Nat) (l:List iT):oR n (eE l)=true:=by
 induction l with
 | nil=>rfl
 | cons a l ih=>exact ih
theorem B0 {B:List AB} (l:List iT) {n v c:Nat} (h:l.length=n):Fz (.cells (eE l) 1 v :: B) (.cQ 0 v 0 n c) (.sl ((l.map (·.name)).map eS) false) :=
 Fz.row (es:=1) rfl (by unfold eE;simp;omega) (by simp;omega) (fun el hel=>by obtain ⟨x,_,rfl⟩:=List.mem_map.1 hel;rfl) (by rw [sD,List.drop_zero,List.take_of_length_le (by unfold eE;simp;omega)]) (by rw [sD];exact yz _) (fun h=>Bool.noConfusion h)
theorem uL (l:List iT) (v:Nat):([.cells (eE l) 1 v]:List AB).all (AB.jQ 1)=true:=by
 have h:AB.jQ 1 (.cells (eE l) 1 v)=true:=zY 1 l
 simp only [List.all_cons,List.all_nil,h,Bool.and_true]
end Go.Proofs.YtpeogffeoehboaaDoor
