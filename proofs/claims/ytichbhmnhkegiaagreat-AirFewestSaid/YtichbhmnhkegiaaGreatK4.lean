/-
  Contracts of the program's functions and of the document's. Lemmas alone; their conditions stand in them.
-/
import Derived.Test.YtichbhmnhkegiaaGreatA3
import Derived.Test.YtichbhmnhkegiaaGreatK3
open Go Go.RM Go.AirLaw
namespace Go.Proofs.YtichbhmnhkegiaaGreat
set_option maxRecDepth 100000
set_option maxHeartbeats 4000000
def fo (g:eT) (before:List eT):Int :=
 if jl g.name=false then 6
 else if (before.any fun x=>Ba x.name g.name)=true then 5
 else if (aX 1 5000 [g.cand.lo,g.cand.hi] || aX 0 1000 [g.fE])=true then 7
 else if aX g.cand.lo (g.cand.lo+40) [g.cand.hi]=true then 2
 else 0
def cW (s:au) (i:Nat):Int:=match s.ak[i]? with
 | some g=>fo g (s.ak.take i)
 | none=>0
def jV (s:au):Int × Int × Int :=
 if aX 1 4 [(s.ak.length:Int)]=true then (1,0,3)
 else if (aX 1 200 [s.aN.lo,s.aN.hi] || aX 1 300 [s.clear.lo,s.clear.hi])=true then (1,0,7)
 else if (decide (s.aN.hi < s.aN.lo) || decide (s.clear.hi < s.clear.lo))=true then (1,0,2)
 else if (gI s.ak.length (cW s)).2=0 then (0,0,0) else (2,(gI s.ak.length (cW s)).1,(gI s.ak.length (cW s)).2)
structure au.Ok (s:au):Prop where
 len:s.ak.length≤maxLen
 names:∀ g ∈ s.ak,g.name.data.toList.length≤maxLen
theorem HN (one:Bool) (k x:eT):af TT TB one (.fn 73 [] [.pt (aL k) 0]) [.ag (aL x)] (BB (Ba x.name k.name)):=by
 refine af.body (fn:=Tryz.f73) rfl rfl rfl rfl ?_
 refine aa (mu:=fun _=>false) ?_
 repeat' (first |refine u1 ?_ |refine u2 ?_ |fail)
 exact ⟨[_],⟨Fz.deep rfl,trivial⟩,rfl⟩
theorem HO (one:Bool) (lo hi:Int) (l:List Int) (h:l.length≤maxLen):Pu one 61 [ai lo,ai hi,.sl (l.map eI) true] (BB (aX lo hi l)):=by
 have:=iN one lo hi (l.map eI) true (by rw [List.all_map,List.all_eq_true];intro x _;rfl) (by simpa using h)
 rw [show (l.map eI).map K2=l by rw [List.map_map];exact List.map_id _] at this
 exact this
theorem jO (one:Bool) (lo hi a:Int):Pu one 61 [ai lo,ai hi,.sl [eI a] true] (BB (aX lo hi [a])):=HO one lo hi [a] (by simp [maxLen])
theorem pP (one:Bool) (lo hi a b:Int):Pu one 61 [ai lo,ai hi,.sl [eI a,eI b] true] (BB (aX lo hi [a,b])):=HO one lo hi [a,b] (by simp [maxLen])
theorem Az (one:Bool) (s:au) (h:s.Ok):Pu one 24 [.ag (ay s)] (.tp [ai (jV s).1,ai (jV s).2.1,ai (jV s).2.2]):=by
 have eg:((s.ak.map aL).length:Int)=s.ak.length:=by simp
 have o1:=jO one 1 4 ((s.ak.map aL).length:Int)
 have o2:=pP one 1 200 s.aN.lo s.aN.hi
 have o3:=pP one 1 300 s.clear.lo s.clear.hi
 rw [eg] at o1
 unfold jV
 cases e1:aX 1 4 [(s.ak.length:Int)] with
 | true =>
  rw [e1,←eg] at o1
  refine af.body (fn:=Tryz.f24) rfl rfl rfl rfl ?_
  refine aa (mu:=fun _=>false) ?_
  repeat' (first |refine u1 ?_ |fail)
  exact ⟨[_,_,_],⟨Fz.deep rfl,Fz.deep rfl,Fz.deep rfl,trivial⟩,rfl⟩
 | false =>
  rw [e1,←eg] at o1
  cases e2:aX 1 200 [s.aN.lo,s.aN.hi] with
  | true =>
   rw [e2] at o2
   refine af.body (fn:=Tryz.f24) rfl rfl rfl rfl ?_
   refine aa (mu:=fun _=>false) ?_
   repeat' (first |refine u1 ?_ |fail)
   exact ⟨[_,_,_],⟨Fz.deep rfl,Fz.deep rfl,Fz.deep rfl,trivial⟩,rfl⟩
  | false =>
   rw [e2] at o2
   cases e3:aX 1 300 [s.clear.lo,s.clear.hi] with
   | true =>
    rw [e3] at o3
    refine af.body (fn:=Tryz.f24) rfl rfl rfl rfl ?_
    refine aa (mu:=fun _=>false) ?_
    repeat' (first |refine u1 ?_ |fail)
    exact ⟨[_,_,_],⟨Fz.deep rfl,Fz.deep rfl,Fz.deep rfl,trivial⟩,rfl⟩
   | false =>
    rw [e3] at o3
    cases e4:decide (s.aN.hi < s.aN.lo) with
    | true =>
     refine af.body (fn:=Tryz.f24) rfl rfl rfl rfl ?_
     refine aa (mu:=fun _=>false) ?_
     repeat' (first |refine u1 ?_ |fail)
     exact ⟨[_,_,_],⟨Fz.deep rfl,Fz.deep rfl,Fz.deep rfl,trivial⟩,rfl⟩
    | false =>
     cases e5:decide (s.clear.hi < s.clear.lo) with
     | true =>
      refine af.body (fn:=Tryz.f24) rfl rfl rfl rfl ?_
      refine aa (mu:=fun _=>false) ?_
      repeat' (first |refine u1 ?_ |fail)
      exact ⟨[_,_,_],⟨Fz.deep rfl,Fz.deep rfl,Fz.deep rfl,trivial⟩,rfl⟩
     | false =>
      have hn4:s.ak.length≤4:=by
       rw [aZ] at e1
       have:=e1 _ (List.mem_singleton_self _)
       omega
      obtain ⟨n,hn⟩:∃ n:Int,n=s.ak.length:=⟨_,rfl⟩
      refine af.body (fn:=Tryz.f24) rfl rfl rfl rfl ?_
      refine aa (mu:=fun _=>false) ?_
      repeat' (first |refine u1 ?_ |fail)
      refine ax.aK (ah.to (l:=[(1,.pt (ay s) 0),(50,.sl (s.ak.map aL) false),(51,ai n),(52,ai (0:Nat))]) (hp:=[]) 0 rfl ⟨rfl,rfl,aR (by rw [hn];exact eg),rfl,trivial⟩ (Nat.zero_le _) rfl rfl) ?_
      refine ax.loop (fun k:Nat=>k≤s.ak.length∧∀ i,i < k→cW s i=0) (fun k=>⟨aF [(1,.pt (ay s) 0),(50,.sl (s.ak.map aL) false),(51,ai n),(52,ai (k:Nat))],[],aV.none,false,0⟩) (fun k=>s.ak.length - k) ?_ 0 ⟨Nat.zero_le _,fun i hi=>absurd hi (Nat.not_lt_zero _)⟩
      rintro k ⟨hk,hprev⟩
      refine aa (mu:=fun _=>false) ?_
      by_cases hlt:k < s.ak.length
      ·have d1:decide ((k:Int) < n)=true:=decide_eq_true (by omega)
       have hat:(s.ak.map aL)[((k:Nat):Int).toNat]?=some (aL s.ak[k]):=bO hlt
       have hga:cW s k=fo s.ak[k] (s.ak.take k):=by unfold cW;rw [List.getElem?_eq_getElem hlt]
       have hnm:=K3 one s.ak[k].name (h.names _ (List.getElem_mem hlt))
       have hcf:∀ f,Pu one 72 [.sl ((s.ak.take k).map aL) f,.fn 73 [] [.pt (aL s.ak[k]) 0]] (BB ((s.ak.take k).any fun x=>Ba x.name s.ak[k].name)):=fun f=>tS one 73 [] [.pt (aL s.ak[k]) 0] rfl (fun x=>Ba x.name s.ak[k].name) (s.ak.take k) f (by simp [maxLen];omega) (fun x _=>HN one s.ak[k] x)
       have hsl:((s.ak.map aL).drop 0).take (k - 0)=(s.ak.take k).map aL:=by
        rw [List.drop_zero,Nat.sub_zero,List.map_take]
       rw [←hsl] at hcf
       have hkl:0≤k∧k≤(s.ak.map aL).length:=⟨Nat.zero_le _,by rw [List.length_map];omega⟩
       have hel4:∀ el ∈ s.ak.map aL,el.length=4:=fun el hel=>by obtain ⟨x,_,rfl⟩:=List.mem_map.1 hel;rfl
       have fin:∀ v,cW s k=v→v ≠ 0→gI s.ak.length (cW s)=((k:Int),v):=fun v e hv=>by
        rw [uA hlt hprev (by rw [e];exact hv),e]
       have o4:=pP one 1 5000 s.ak[k].cand.lo s.ak[k].cand.hi
       have o5:=jO one 0 1000 s.ak[k].fE
       have o6:=jO one s.ak[k].cand.lo (s.ak[k].cand.lo+40) s.ak[k].cand.hi
       generalize s.ak[k]=g at *
       cases q1:jl g.name with
       | false =>
        rw [q1] at hnm
        rw [fin 6 (by rw [hga];unfold fo;rw [if_pos q1]) (by decide)]
        repeat' (first |((with_reducible show aP _ _ _ _ _ _ _ _);refine af.call hnm rfl rfl ?_) |refine u1 ?_ |fail)
        exact ⟨[_,_,_],⟨Fz.deep rfl,Fz.deep rfl,Fz.deep rfl,trivial⟩,rfl⟩
       | true =>
        rw [q1] at hnm
        have q1':¬ jl g.name=false:=by rw [q1];simp
        cases q2:(s.ak.take k).any fun x=>Ba x.name g.name with
        | true =>
         simp only [q2] at hcf
         rw [fin 5 (by rw [hga];unfold fo;rw [if_neg q1',if_pos q2]) (by decide)]
         repeat' (first |((with_reducible show aP _ _ _ _ _ _ _ _);refine af.call hnm rfl rfl ?_) |refine u1 ?_ |refine ⟨0,k,rfl,rfl,hkl,(by decide),hel4,?_⟩ |((with_reducible show aP _ _ _ _ _ _ _ _);refine af.Cp (hcf _) (Fq.deep rfl) (jx.cons (Fq.deep rfl) (jx.cons (jx.LU jx.nil (jx.cons (Fq.ptr rfl rfl) jx.nil)) jx.nil)) (dY.fl _) ?_) |fail)
         exact ⟨[_,_,_],⟨Fz.deep rfl,Fz.deep rfl,Fz.deep rfl,trivial⟩,rfl⟩
        | false =>
         simp only [q2] at hcf
         have q2':¬ ((s.ak.take k).any fun x=>Ba x.name g.name)=true:=by rw [q2];simp
         cases q3:aX 1 5000 [g.cand.lo,g.cand.hi] with
         | true =>
          rw [q3] at o4
          rw [fin 7 (by rw [hga];unfold fo;rw [if_neg q1',if_neg q2',if_pos (by rw [q3];rfl)]) (by decide)]
          repeat' (first |((with_reducible show aP _ _ _ _ _ _ _ _);first|refine af.call hnm rfl rfl ?_|refine af.call o4 rfl rfl ?_) |refine u1 ?_ |refine ⟨0,k,rfl,rfl,hkl,(by decide),hel4,?_⟩ |((with_reducible show aP _ _ _ _ _ _ _ _);refine af.Cp (hcf _) (Fq.deep rfl) (jx.cons (Fq.deep rfl) (jx.cons (jx.LU jx.nil (jx.cons (Fq.ptr rfl rfl) jx.nil)) jx.nil)) (dY.fl _) ?_) |fail)
          exact ⟨[_,_,_],⟨Fz.deep rfl,Fz.deep rfl,Fz.deep rfl,trivial⟩,rfl⟩
         | false =>
          rw [q3] at o4
          cases q4:aX 0 1000 [g.fE] with
          | true =>
           rw [q4] at o5
           rw [fin 7 (by rw [hga];unfold fo;rw [if_neg q1',if_neg q2',if_pos (by rw [q3,q4];rfl)]) (by decide)]
           repeat' (first |((with_reducible show aP _ _ _ _ _ _ _ _);first|refine af.call hnm rfl rfl ?_|refine af.call o4 rfl rfl ?_|refine af.call o5 rfl rfl ?_) |refine u1 ?_ |refine ⟨0,k,rfl,rfl,hkl,(by decide),hel4,?_⟩ |((with_reducible show aP _ _ _ _ _ _ _ _);refine af.Cp (hcf _) (Fq.deep rfl) (jx.cons (Fq.deep rfl) (jx.cons (jx.LU jx.nil (jx.cons (Fq.ptr rfl rfl) jx.nil)) jx.nil)) (dY.fl _) ?_) |fail)
           exact ⟨[_,_,_],⟨Fz.deep rfl,Fz.deep rfl,Fz.deep rfl,trivial⟩,rfl⟩
          | false =>
           rw [q4] at o5
           have q34:¬ (aX 1 5000 [g.cand.lo,g.cand.hi] || aX 0 1000 [g.fE])=true:=by rw [q3,q4];simp
           have hc5:1≤g.cand.lo∧g.cand.lo≤5000:=by
            rw [aZ] at q3
            exact q3 _ (by simp)
           cases q5:aX g.cand.lo (g.cand.lo+40) [g.cand.hi] with
           | true =>
            rw [q5] at o6
            rw [fin 2 (by rw [hga];unfold fo;rw [if_neg q1',if_neg q2',if_neg q34,if_pos q5]) (by decide)]
            repeat' (first |((with_reducible show aP _ _ _ _ _ _ _ _);first|refine af.call hnm rfl rfl ?_|refine af.call o4 rfl rfl ?_|refine af.call o5 rfl rfl ?_|refine af.call o6 rfl rfl ?_) |refine u1 ?_ |refine ⟨0,k,rfl,rfl,hkl,(by decide),hel4,?_⟩ |((with_reducible show aP _ _ _ _ _ _ _ _);refine af.Cp (hcf _) (Fq.deep rfl) (jx.cons (Fq.deep rfl) (jx.cons (jx.LU jx.nil (jx.cons (Fq.ptr rfl rfl) jx.nil)) jx.nil)) (dY.fl _) ?_) |fail)
            exact ⟨[_,_,_],⟨Fz.deep rfl,Fz.deep rfl,Fz.deep rfl,trivial⟩,rfl⟩
           | false =>
            rw [q5] at o6
            have e0:cW s k=0:=by rw [hga];unfold fo;rw [if_neg q1',if_neg q2',if_neg q34,if_neg (by rw [q5];simp)]
            repeat' (first |((with_reducible show aP _ _ _ _ _ _ _ _);first|refine af.call hnm rfl rfl ?_|refine af.call o4 rfl rfl ?_|refine af.call o5 rfl rfl ?_|refine af.call o6 rfl rfl ?_) |refine u1 ?_ |refine ⟨0,k,rfl,rfl,hkl,(by decide),hel4,?_⟩ |((with_reducible show aP _ _ _ _ _ _ _ _);refine af.Cp (hcf _) (Fq.deep rfl) (jx.cons (Fq.deep rfl) (jx.cons (jx.LU jx.nil (jx.cons (Fq.ptr rfl rfl) jx.nil)) jx.nil)) (dY.fl _) ?_) |fail)
            refine ⟨k+1,⟨hlt,fun i hi=>?_⟩,(by dsimp only;omega),ah.to 0 rfl ⟨rfl,rfl,rfl,aR (by simp),trivial⟩ (Nat.zero_le _) rfl rfl⟩
            by_cases hik:i=k
            ·subst hik;exact e0
            ·exact hprev i (by omega)
      ·have d1:decide ((k:Int) < n)=false:=decide_eq_false (by omega)
       have hkn:k=s.ak.length:=by omega
       subst hkn
       have hf:=uB hprev
       rw [hf]
       repeat' (first |refine u1 ?_ |fail)
       exact ⟨[_,_,_],⟨Fz.deep rfl,Fz.deep rfl,Fz.deep rfl,trivial⟩,rfl⟩
end Go.Proofs.YtichbhmnhkegiaaGreat
open Go Go.RM Go.AirLaw
namespace Go.Proofs.YtichbhmnhkegiaaGreat
set_option maxRecDepth 100000
set_option maxHeartbeats 4000000
def mL (r:av):Bool:=aX (-30000) 30000 [r.pos.x,r.pos.y]
def aD (s:au) (n:aA) (rs:List av):Int × Int :=
 if (jV s).2.2 ≠ 0 then (0,(jV s).2.2)
 else if aX 0 ((s.ak.length:Int) - 1) [n.bK]=true then (0,4)
 else if (aX (-30000) 30000 [n.pos.x,n.pos.y] || aX 0 31 [n.dc] || aX 1 32 [n.bX])=true then (0,7)
 else if 8 < rs.length then (0,3)
 else if 0≤lY mL rs then (lY mL rs,7) else (0,0)
abbrev bS (s:au) (n:aA) (rs:List av) (f:Bool):List AV :=
 [.sl (s.ak.map aL) false,ai s.aN.lo,ai s.aN.hi,ai s.clear.lo,ai s.clear.hi,ai n.pos.x,ai n.pos.y,ai n.bK,ai n.dc,ai n.bX,.sl (rs.map aj) f]
theorem JJ (one:Bool) (r:av):af TT TB one (.fn 77 [] []) [.ag (aj r)] (BB (mL r)):=by
 have o1:=pP one (-30000) 30000 r.pos.x r.pos.y
 unfold mL
 refine af.body (fn:=Tryz.f77) rfl rfl rfl rfl ?_
 refine aa (mu:=fun _=>false) ?_
 repeat' (first |refine u1 ?_ |refine u2 ?_ |refine af.call o1 rfl rfl ?_ |fail)
 exact ⟨[_],⟨Fz.deep rfl,trivial⟩,rfl⟩
theorem EY (one:Bool) (s:au) (h:s.Ok) (n:aA) (rs:List av) (f:Bool) (hr:rs.length≤maxLen) :
  Pu one 26 [.ag (ay s),.ag (aC n),.sl (rs.map aj) f] (.tp [ai (aD s n rs).1,ai (aD s n rs).2]):=by
 have hc:=Az one s h
 have eg:((s.ak.map aL).length:Int)=s.ak.length:=by simp
 have o1:=jO one 0 ((s.ak.length:Int) - 1) n.bK
 have o2:=pP one (-30000) 30000 n.pos.x n.pos.y
 have o3:=jO one 0 31 n.dc
 have o4:=jO one 1 32 n.bX
 have o5:=wN one 77 [] [] rfl mL rs f hr (fun r _=>JJ one r)
 have ml:s.ak.length≤9223372036854775807:=Nat.le_trans h.len (by simp [maxLen])
 have ml':rs.length≤9223372036854775807:=Nat.le_trans hr (by simp [maxLen])
 have er:((rs.map aj).length:Int)=rs.length:=by simp
 rw [←eg] at o1
 unfold aD
 rw [←eg]
 by_cases e0:(jV s).2.2=0
 ·rw [if_neg (by omega)]
  have d0:decide ((jV s).2.2=0)=true:=decide_eq_true e0
  rw [e0] at hc d0
  cases e1:aX 0 (((s.ak.map aL).length:Int) - 1) [n.bK] with
  | true =>
   rw [e1] at o1
   refine af.body (fn:=Tryz.f26) rfl rfl rfl rfl ?_
   refine aa (mu:=fun _=>false) ?_
   repeat' (first |refine u1 ?_ |refine u2 ?_ |refine af.call hc rfl rfl ?_ |refine af.call o1 rfl rfl ?_ |fail)
   exact ⟨[_,_],⟨Fz.deep rfl,Fz.deep rfl,trivial⟩,rfl⟩
  | false =>
   rw [e1] at o1
   cases e2:aX (-30000) 30000 [n.pos.x,n.pos.y] with
   | true =>
    rw [e2] at o2
    refine af.body (fn:=Tryz.f26) rfl rfl rfl rfl ?_
    refine aa (mu:=fun _=>false) ?_
    repeat' (first |refine u1 ?_ |refine u2 ?_ |refine af.call hc rfl rfl ?_ |refine af.call o1 rfl rfl ?_ |refine af.call o2 rfl rfl ?_ |fail)
    exact ⟨[_,_],⟨Fz.deep rfl,Fz.deep rfl,trivial⟩,rfl⟩
   | false =>
    rw [e2] at o2
    cases e3:aX 0 31 [n.dc] with
    | true =>
     rw [e3] at o3
     refine af.body (fn:=Tryz.f26) rfl rfl rfl rfl ?_
     refine aa (mu:=fun _=>false) ?_
     repeat' (first |refine u1 ?_ |refine u2 ?_ |refine af.call hc rfl rfl ?_ |refine af.call o1 rfl rfl ?_ |refine af.call o2 rfl rfl ?_ |refine af.call o3 rfl rfl ?_ |fail)
     exact ⟨[_,_],⟨Fz.deep rfl,Fz.deep rfl,trivial⟩,rfl⟩
    | false =>
     rw [e3] at o3
     cases e4:aX 1 32 [n.bX] with
     | true =>
      rw [e4] at o4
      refine af.body (fn:=Tryz.f26) rfl rfl rfl rfl ?_
      refine aa (mu:=fun _=>false) ?_
      repeat' (first |refine u1 ?_ |refine u2 ?_ |refine af.call hc rfl rfl ?_ |refine af.call o1 rfl rfl ?_ |refine af.call o2 rfl rfl ?_ |refine af.call o3 rfl rfl ?_ |refine af.call o4 rfl rfl ?_ |fail)
      exact ⟨[_,_],⟨Fz.deep rfl,Fz.deep rfl,trivial⟩,rfl⟩
     | false =>
      rw [e4] at o4
      by_cases e5:8 < rs.length
      ·have d5:decide ((8:Int) < ((rs.map aj).length:Int))=true:=decide_eq_true (by rw [er];omega)
       simp only [Bool.or_self,Bool.false_eq_true,if_false,if_pos e5]
       refine af.body (fn:=Tryz.f26) rfl rfl rfl rfl ?_
       refine aa (mu:=fun _=>false) ?_
       repeat' (first |refine u1 ?_ |refine u2 ?_ |refine af.call hc rfl rfl ?_ |refine af.call o1 rfl rfl ?_ |refine af.call o2 rfl rfl ?_ |refine af.call o3 rfl rfl ?_ |refine af.call o4 rfl rfl ?_ |fail)
       exact ⟨[_,_],⟨Fz.deep rfl,Fz.deep rfl,trivial⟩,rfl⟩
      ·have d5:decide ((8:Int) < ((rs.map aj).length:Int))=false:=decide_eq_false (by rw [er];omega)
       simp only [Bool.or_self,Bool.false_eq_true,if_false,if_neg e5]
       by_cases e6:0≤lY mL rs
       ·have d6:decide (0≤lY mL rs)=true:=decide_eq_true e6
        rw [if_pos e6]
        refine af.body (fn:=Tryz.f26) rfl rfl rfl rfl ?_
        refine aa (mu:=fun _=>false) ?_
        repeat' (first |refine u1 ?_ |refine u2 ?_ |refine af.call hc rfl rfl ?_ |refine af.call o1 rfl rfl ?_ |refine af.call o2 rfl rfl ?_ |refine af.call o3 rfl rfl ?_ |refine af.call o4 rfl rfl ?_ |refine af.call o5 rfl rfl ?_ |fail)
        exact ⟨[_,_],⟨Fz.deep rfl,Fz.deep rfl,trivial⟩,rfl⟩
       ·have d6:decide (0≤lY mL rs)=false:=decide_eq_false e6
        rw [if_neg e6]
        refine af.body (fn:=Tryz.f26) rfl rfl rfl rfl ?_
        refine aa (mu:=fun _=>false) ?_
        repeat' (first |refine u1 ?_ |refine u2 ?_ |refine af.call hc rfl rfl ?_ |refine af.call o1 rfl rfl ?_ |refine af.call o2 rfl rfl ?_ |refine af.call o3 rfl rfl ?_ |refine af.call o4 rfl rfl ?_ |refine af.call o5 rfl rfl ?_ |fail)
        exact ⟨[_,_],⟨Fz.deep rfl,Fz.deep rfl,trivial⟩,rfl⟩
 ·rw [if_pos (by omega)]
  have d0:(!decide ((jV s).2.2=0))=true:=by rw [decide_eq_false e0];rfl
  refine af.body (fn:=Tryz.f26) rfl rfl rfl rfl ?_
  refine aa (mu:=fun _=>false) ?_
  repeat' (first |refine u1 ?_ |refine u2 ?_ |refine af.call hc rfl rfl ?_ |fail)
  exact ⟨[_,_],⟨Fz.deep rfl,Fz.deep rfl,trivial⟩,rfl⟩
theorem nF (one:Bool) (s:au) (h:s.Ok) (n:aA) (rs:List av) (f:Bool) (hr:rs.length≤maxLen) :
  Pu one 79 [.ag (ay s),.ag (aC n),.sl (rs.map aj) f] (.tp [.ag (bS s n rs f),ai (aD s n rs).2]):=by
 have hn:=EY one s h n rs f hr
 refine af.body (fn:=Tryz.f79) rfl rfl rfl rfl ?_
 refine aa (mu:=fun _=>false) ?_
 repeat' (first |refine u1 ?_ |refine u2 ?_ |refine af.call hn rfl rfl ?_ |fail)
 exact ⟨[_,_],⟨Fz.deep rfl,Fz.deep rfl,trivial⟩,rfl⟩
theorem mM (one:Bool) (s:au) (n:aA) (rs:List av) (f:Bool) (p:Pt) (hn:-100000≤n.pos.x∧n.pos.x≤100000∧-100000≤n.pos.y∧n.pos.y≤100000) (hp:-100000≤p.x∧p.x≤100000∧-100000≤p.y∧p.y≤100000) :
  Pu one 91 [.ag (bS s n rs f),.ag (oG p)] (.ag [ai (p.x - n.pos.x),ai (p.y - n.pos.y)]):=by
 obtain ⟨h1,h2,h3,h4⟩:=hn
 obtain ⟨h5,h6,h7,h8⟩:=hp
 refine af.body (fn:=Tryz.f91) rfl rfl rfl rfl ?_
 refine aa (mu:=fun _=>false) ?_
 repeat' (first |refine u1 ?_ |refine u2 ?_ |fail)
 exact ⟨[_],⟨Fz.deep rfl,trivial⟩,rfl⟩
def uW (s:au) (g m:Int):Int × Int :=
 if (jV s).2.2 ≠ 0 then (0,(jV s).2.2)
 else if aX 0 ((s.ak.length:Int) - 1) [g]=true then (0,4)
 else if aX 0 1440 [m]=true then (0,7)
 else (((s.ak.map eT.fE).getD g.toNat 0 * m+59) / 60,0)
structure au.JK (s:au):Prop where
 len:1≤s.ak.length∧s.ak.length≤4
 aN:1≤s.aN.lo∧s.aN.lo≤s.aN.hi∧s.aN.hi≤200
 clear:1≤s.clear.lo∧s.clear.lo≤s.clear.hi∧s.clear.hi≤300
 cand:∀ g ∈ s.ak,1≤g.cand.lo∧g.cand.lo≤g.cand.hi∧g.cand.hi≤g.cand.lo+40∧g.cand.hi≤5000
 fE:∀ g ∈ s.ak,0≤g.fE∧g.fE≤1000
 names:∀ i (hi:i < s.ak.length),jl s.ak[i].name=true∧(s.ak.take i).any (fun x=>Ba x.name s.ak[i].name)=false
theorem Cu {n:Nat} {e:Nat→Int}:(gI n e).2=0→∀ i,i < n→e i=0:=by
 unfold gI
 cases hf:(List.range n).find? (fun i=>e i != 0) with
 | none =>
  intro _ i hi
  have:=(List.find?_eq_none.1 hf) i (List.mem_range.2 hi)
  simpa using this
 | some k =>
  intro h0
  have:=List.find?_some hf
  simp at this
  exact absurd h0 this
theorem sI {s:au} (h:(jV s).2.2=0):s.JK:=by
 unfold jV at h
 by_cases e1:aX 1 4 [(s.ak.length:Int)]=true
 ·rw [if_pos e1] at h;exact absurd h (by decide)
 rw [if_neg e1] at h
 by_cases e2:(aX 1 200 [s.aN.lo,s.aN.hi] || aX 1 300 [s.clear.lo,s.clear.hi])=true
 ·rw [if_pos e2] at h;exact absurd h (by decide)
 rw [if_neg e2] at h
 by_cases e3:(decide (s.aN.hi < s.aN.lo) || decide (s.clear.hi < s.clear.lo))=true
 ·rw [if_pos e3] at h;exact absurd h (by decide)
 rw [if_neg e3] at h
 have hz:(gI s.ak.length (cW s)).2=0:=by
  by_cases e4:(gI s.ak.length (cW s)).2=0
  ·exact e4
  ·rw [if_neg e4] at h;exact h
 have ha:=Cu hz
 rw [Bool.not_eq_true] at e1 e2 e3
 rw [Bool.or_eq_false_iff] at e2 e3
 have b1:=(aZ.1 e1) _ (List.mem_singleton_self _)
 have b2:=(aZ.1 e2.1) s.aN.lo (by simp)
 have b3:=(aZ.1 e2.1) s.aN.hi (by simp)
 have b4:=(aZ.1 e2.2) s.clear.lo (by simp)
 have b5:=(aZ.1 e2.2) s.clear.hi (by simp)
 have b6:=of_decide_eq_false e3.1
 have b7:=of_decide_eq_false e3.2
 have each:∀ i (hi:i < s.ak.length),fo s.ak[i] (s.ak.take i)=0:=by
  intro i hi
  have:=ha i hi
  unfold cW at this
  rw [List.getElem?_eq_getElem hi] at this
  exact this
 have parts:∀ i (hi:i < s.ak.length),(jl s.ak[i].name=true∧(s.ak.take i).any (fun x=>Ba x.name s.ak[i].name)=false)∧(1≤s.ak[i].cand.lo∧s.ak[i].cand.lo≤s.ak[i].cand.hi∧s.ak[i].cand.hi≤s.ak[i].cand.lo+40∧s.ak[i].cand.hi≤5000)∧0≤s.ak[i].fE∧s.ak[i].fE≤1000:=by
  intro i hi
  have:=each i hi
  unfold fo at this
  generalize s.ak[i]=g at *
  by_cases q1:jl g.name=false
  ·rw [if_pos q1] at this;exact absurd this (by decide)
  rw [if_neg q1] at this
  by_cases q2:((s.ak.take i).any fun x=>Ba x.name g.name)=true
  ·rw [if_pos q2] at this;exact absurd this (by decide)
  rw [if_neg q2] at this
  by_cases q3:(aX 1 5000 [g.cand.lo,g.cand.hi] || aX 0 1000 [g.fE])=true
  ·rw [if_pos q3] at this;exact absurd this (by decide)
  rw [if_neg q3] at this
  by_cases q4:aX g.cand.lo (g.cand.lo+40) [g.cand.hi]=true
  ·rw [if_pos q4] at this;exact absurd this (by decide)
  rw [Bool.not_eq_true] at q2 q3 q4
  rw [Bool.or_eq_false_iff] at q3
  have c1:=(aZ.1 q3.1) g.cand.lo (by simp)
  have c2:=(aZ.1 q3.1) g.cand.hi (by simp)
  have c3:=(aZ.1 q3.2) g.fE (by simp)
  have c4:=(aZ.1 q4) g.cand.hi (by simp)
  refine ⟨⟨by simpa using q1,q2⟩,⟨?_,?_,?_,?_⟩,?_,?_⟩ <;> omega
 refine ⟨⟨?_,?_⟩,⟨?_,?_,?_⟩,⟨?_,?_,?_⟩,?_,?_,fun i hi=>(parts i hi).1⟩
 any_goals omega
 ·intro g hg
  obtain ⟨i,hi,rfl⟩:=List.getElem_of_mem hg
  exact (parts i hi).2.1
 ·intro g hg
  obtain ⟨i,hi,rfl⟩:=List.getElem_of_mem hg
  exact (parts i hi).2.2
theorem yQ (one:Bool) (s:au) (h:s.Ok) (g m:Int):Pu one 21 [.ag (ay s),ai g,ai m] (.tp [ai (uW s g m).1,ai (uW s g m).2]):=by
 have hc:=Az one s h
 have eg:((s.ak.map aL).length:Int)=s.ak.length:=by simp
 have o1:=jO one 0 ((s.ak.length:Int) - 1) g
 have o2:=jO one 0 1440 m
 have ml:s.ak.length≤9223372036854775807:=Nat.le_trans h.len (by simp [maxLen])
 rw [←eg] at o1
 unfold uW
 rw [←eg]
 by_cases e0:(jV s).2.2=0
 ·rw [if_neg (by omega)]
  have d0:decide ((jV s).2.2=0)=true:=decide_eq_true e0
  have hf:=sI e0
  rw [e0] at hc d0
  cases e1:aX 0 (((s.ak.map aL).length:Int) - 1) [g] with
  | true =>
   rw [e1] at o1
   refine af.body (fn:=Tryz.f21) rfl rfl rfl rfl ?_
   refine aa (mu:=fun _=>false) ?_
   repeat' (first |refine u1 ?_ |refine u2 ?_ |refine af.call hc rfl rfl ?_ |refine af.call o1 rfl rfl ?_ |fail)
   exact ⟨[_,_],⟨Fz.deep rfl,Fz.deep rfl,trivial⟩,rfl⟩
  | false =>
   rw [e1] at o1
   cases e2:aX 0 1440 [m] with
   | true =>
    rw [e2] at o2
    refine af.body (fn:=Tryz.f21) rfl rfl rfl rfl ?_
    refine aa (mu:=fun _=>false) ?_
    repeat' (first |refine u1 ?_ |refine u2 ?_ |refine af.call hc rfl rfl ?_ |refine af.call o1 rfl rfl ?_ |refine af.call o2 rfl rfl ?_ |fail)
    exact ⟨[_,_],⟨Fz.deep rfl,Fz.deep rfl,trivial⟩,rfl⟩
   | false =>
    rw [e2] at o2
    have b1:=(aZ.1 e1) g (by simp)
    have b2:=(aZ.1 e2) m (by simp)
    rw [eg] at b1
    obtain ⟨i,rfl⟩:∃ i:Nat,g=i:=⟨g.toNat,by omega⟩
    have hi:i < s.ak.length:=by omega
    have hat:(s.ak.map aL)[((i:Nat):Int).toNat]?=some (aL s.ak[i]):=bO hi
    have ho:=hf.fE _ (List.getElem_mem hi)
    have eo:(s.ak.map eT.fE).getD ((i:Int).toNat) 0=s.ak[i].fE:=by simp [List.getD,hi]
    simp only [Bool.false_eq_true,if_false]
    rw [eo]
    generalize s.ak[i]=gr at *
    have hb:=fZ (x:=gr.fE) (y:=m) (a:=1000) (b:=1440) (by omega) (by omega)
    have h0:0≤gr.fE * m:=Int.mul_nonneg ho.1 b2.1
    refine af.body (fn:=Tryz.f21) rfl rfl rfl rfl ?_
    refine aa (mu:=fun _=>false) ?_
    repeat' (first |refine af.call hc rfl rfl ?_ |refine af.call o1 rfl rfl ?_ |refine af.call o2 rfl rfl ?_ |refine u1 ?_ |refine u2 ?_ |refine ⟨aL gr,⟨by omega,hat⟩,rfl,?_⟩ |fail)
    exact ⟨[_,_],⟨Fz.deep rfl,Fz.deep rfl,trivial⟩,rfl⟩
 ·rw [if_pos (by omega)]
  have d0:(!decide ((jV s).2.2=0))=true:=by rw [decide_eq_false e0];rfl
  refine af.body (fn:=Tryz.f21) rfl rfl rfl rfl ?_
  refine aa (mu:=fun _=>false) ?_
  repeat' (first |refine u1 ?_ |refine u2 ?_ |refine af.call hc rfl rfl ?_ |fail)
  exact ⟨[_,_],⟨Fz.deep rfl,Fz.deep rfl,trivial⟩,rfl⟩
end Go.Proofs.YtichbhmnhkegiaaGreat
open Go Go.RM Go.AirLaw
namespace Go.Proofs.YtichbhmnhkegiaaGreat
set_option maxRecDepth 100000
set_option maxHeartbeats 4000000
def bh (s:Span):Nat:=(s.hi - s.lo+1).toNat
def dB (s:Span):List Int:=(List.range (bh s)).map fun i=>s.lo+(i:Nat)
theorem bp (s:Span):(dB s).length=bh s:=by simp [dB]
theorem pQ {s:Span} {i:Nat} (h:i < bh s):(dB s)[i]?=some (s.lo+(i:Nat)):=by simp [dB,h]
theorem mN (one:Bool) (s:Span):Pu one 97 [.ag (aG s)] (.fn 131 [] [.pt (aG s) 0]):=by
 refine af.body (fn:=Tryz.f97) rfl rfl rfl rfl ?_
 refine aa (mu:=fun _=>false) ?_
 repeat' (first |refine u1 ?_ |refine u2 ?_ |fail)
 exact ⟨[_],⟨Fz.deep rfl,trivial⟩,rfl⟩
theorem mO (one:Bool) (s:Span) (h:-1000000≤s.lo∧s.lo≤s.hi∧s.hi≤1000000):lX TT TB one (.fn 131 [] [.pt (aG s) 0]) ((dB s).map eI):=by
 have en:((bh s:Nat):Int)=s.hi - s.lo+1:=by unfold bh;omega
 refine lX.body (fn:=Tryz.f131) rfl rfl rfl rfl (fun x hx a ha=>?_) fun u J Stop hy=>?_
 ·obtain ⟨y,_,rfl⟩:=List.mem_map.1 hx
  simp only [List.mem_cons,List.not_mem_nil,or_false] at ha
  subst ha
  exact dY.fl _
 rw [List.length_map,bp]
 refine aa (mu:=fun _=>false) ?_
 repeat' (first |refine u1 ?_ |refine u2 ?_ |fail)
 rw [←en]
 refine ax.aK (ah.to (l:=[(0,.oq u),(1,.pt (aG s) 0),(9,ai (bh s)),(10,ai ((0:Nat):Int))]) (hp:=[]) 0 rfl ⟨rfl,rfl,rfl,rfl,trivial⟩ (Nat.zero_le _) rfl rfl) ?_
 refine ax.loop (fun m:Nat=>m≤bh s) (fun m=>⟨aF [(0,.oq u),(1,.pt (aG s) 0),(9,ai (bh s)),(10,ai (m:Int))],[],J m,false,0⟩) (fun m=>bh s - m) ?_ 0 (Nat.zero_le _)
 intro m hm
 refine RM.fm (mu:=fun _=>false) ?_
 repeat' (first |refine u1 ?_ |fail)
 refine RM.fm (mu:=fun _=>false) ?_
 refine RM.e1 rfl ⟨fun hc=>?_,fun hc=>?_⟩
 ·have hm1:m < bh s:=by simpa using hc
  have hyx:=hy m (eI (s.lo+(m:Nat))) (by rw [List.getElem?_map,pQ hm1];rfl)
  repeat' (first |refine u1 ?_ |fail)
  refine ax.seq ?_
  refine ax.block ?_
  refine RM.fm (mu:=fun _=>false) ?_
  repeat' (first |refine u1 ?_ |fail)
  refine RM.fm (mu:=fun _=>false) ?_
  repeat' (first |refine u1 ?_ |refine u2 ?_ |fail)
  refine aP.mono (hyx _) (fun a hp' amb' hq=>?_)
  obtain ⟨rfl,b,rfl,hb⟩:=hq
  rcases hb with ⟨rfl,rfl⟩|⟨rfl,hstop⟩
  ·repeat' (first |refine u1 ?_ |fail)
   refine aa (mu:=fun _=>false) ?_
   repeat' (first |refine u1 ?_ |fail)
   refine aa (mu:=fun _=>false) ?_
   repeat' (first |refine u1 ?_ |fail)
   refine ⟨m+1,hm1,(by dsimp only;omega),?_⟩
   exact ah.to 0 rfl ⟨rfl,rfl,rfl,aR (by simp),trivial⟩ (Nat.zero_le _) rfl rfl
  ·repeat' (first |refine u1 ?_ |fail)
   refine aa (mu:=fun _=>false) ?_
   repeat' (first |refine u1 ?_ |fail)
   exact Or.inr hstop
 ·have hm1:m=bh s:=(by have:¬ m < bh s:=(by simpa using hc);omega)
  subst hm1
  repeat' (first |refine u1 ?_ |fail)
  exact Or.inl rfl
end Go.Proofs.YtichbhmnhkegiaaGreat
