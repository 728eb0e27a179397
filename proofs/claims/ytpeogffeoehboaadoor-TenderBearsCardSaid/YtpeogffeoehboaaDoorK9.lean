/-
  Contracts of the program's functions and of the document's. Lemmas alone; their conditions stand in them.
-/
import Derived.Test.YtpeogffeoehboaaDoorK8
import Derived.Laws.StructEq
open Go Go.RM
namespace Go.Proofs.YtpeogffeoehboaaDoor
set_option maxRecDepth 100000
set_option maxHeartbeats 4000000
theorem BD {s:ak} (hg:Good s) {p:List Order} {known f n m:Nat} (h:n≤m) (hm:dA s p known f (m:Int)=true):dA s p known f (n:Int)=true:=by
 unfold dA at *
 rw [List.all_eq_true] at *
 intro y hy
 refine hm y ?_
 rw [zE hg] at *
 obtain ⟨b,hb,rfl⟩:=List.mem_map.1 hy
 exact List.mem_map.2 ⟨b,TeLaw.CP h hb,rfl⟩
def gW (s:ak) (p:List Order) (known f m:Nat):Int:=match (List.range (m+1)).find? (fun n=>!dA s p known f ((n:Nat):Int)) with
 | some k=>(k:Int) - 1
 | none=>(m:Int)
theorem vu {s:ak} (hg:Good s) {p:List Order} {known f m:Nat}:(-1≤gW s p known f m∧gW s p known f m≤m)∧∀ n:Nat,n≤m→dA s p known f (n:Int)=decide ((n:Int)≤gW s p known f m):=by
 unfold gW
 cases hf:(List.range (m+1)).find? (fun n=>!dA s p known f ((n:Nat):Int)) with
 | none =>
  rw [List.find?_eq_none] at hf
  refine ⟨⟨by dsimp only;omega,Int.le_refl _⟩,fun n hn=>?_⟩
  have:=hf n (by simp;omega)
  rw [decide_eq_true (by dsimp only;omega)]
  simpa using this
 | some k =>
  rw [List.find?_range_eq_some] at hf
  obtain ⟨h1,h2,h3⟩:=hf
  have h2:k < m+1:=by simpa using h2
  refine ⟨⟨by dsimp only;omega,by dsimp only;omega⟩,fun n hn=>?_⟩
  by_cases hlt:n < k
  ·have:=h3 n hlt
   rw [decide_eq_true (by dsimp only;omega)]
   simpa using this
  ·rw [decide_eq_false (by dsimp only;omega)]
   cases h:dA s p known f (n:Int) with
   | false=>rfl
   | true =>
    have:=BD hg (Nat.le_of_not_lt hlt) h
    rw [this] at h1
    cases h1
abbrev eB (b:Bool):List AV:=[BB b]
def iM (came:List Bool):Nat:=fJ 0 0 (came.map not)
theorem BF (came:List Bool):iM came < 2 ^ came.length:=by
 have:=sV (came.map not) 0 0 (by decide)
 rw [List.length_map,Nat.zero_add] at this
 exact this
theorem CY {came:List Bool} {k:Nat} (h:k < came.length):iM (came.take (k+1))=if came[k]=true then iM (came.take k) else iM (came.take k) ||| 2 ^ k:=by
 unfold iM
 rw [List.take_add_one,List.getElem?_eq_getElem h,List.map_append]
 show fJ 0 0 ((came.take k).map not++[!came[k]])=_
 rw [k7,List.length_map,List.length_take,Nat.min_eq_left (by omega),Nat.zero_add]
 cases came[k] <;> rfl
abbrev O5 (s:ak) (p:List Order) (full:Bool) (came:List Bool) (cf:Bool) (f:Nat):AV:=.fn 63 [] [.pt (ay s) 0,.pt [.sl (p.map ai) full] 0,.pt [.sl (came.map eB) cf] 0,.pt [fA f] 0]
theorem IM (one:Bool) {s:ak} {p:List Order} (hp:mz s p) (full:Bool) (came:List Bool) (cf:Bool) (f n:Nat) (hc:came.length≤p.length) (hf:f < 2 ^ came.length) (hn:n≤1000):af TT TB one (O5 s p full came cf f) [aA (n:Nat)] (BB (dA s p came.length f (n:Int))):=by
 have o1:Pu one 64 [.ag (ay s),.sl (p.map ai) full,aA ((came.map eB).length:Int),fA f,aA (n:Nat)] (BB (dA s p came.length f (n:Int))):=by
  rw [show ((came.map eB).length:Int)=came.length by simp]
  exact J9 one hp full came.length f n hc hf hn
 refine af.body (fn:=Tryd.f63) rfl rfl rfl rfl ?_
 refine aa (mu:=fun _=>false) ?_
 repeat' (first |refine u1 ?_ |((with_reducible show aj _ _ _ _ _ _ _ _);refine af.call o1 rfl rfl ?_) |refine u2 ?_ |fail)
 exact ⟨[_],⟨Fz.deep rfl,trivial⟩,rfl⟩
def iG (s:ak) (p:List Order) (came:List Bool):Int × Int :=
 if (aO s p).2 ≠ 0 then (0,(aO s p).2) else if p.length < came.length then (0,3)
 else if gW s p came.length (iM came) (p.length - came.length) < 0 then (0,9) else (gW s p came.length (iM came) (p.length - came.length),0)
theorem Ka (one:Bool) (s:ak) (hs:s.Ok) (p:List Order) (full:Bool) (hp:vQ p) (came:List Bool) (cf:Bool) (hcl:came.length≤maxLen) :
  Pu one 30 [.ag (ay s),.sl (p.map ai) full,.sl (came.map eB) cf] (.tp [aA (iG s p came).1,aA (iG s p came).2]):=by
 have o1:=zy one s hs p full hp
 have mc:came.length≤9223372036854775807:=Nat.le_trans hcl (by simp [maxLen])
 have mp:p.length≤9223372036854775807:=Nat.le_trans hp.len (by simp [maxLen])
 have ep:((p.map ai).length:Int)=p.length:=by simp
 have ec:((came.map eB).length:Int)=came.length:=by simp
 unfold iG
 by_cases c1:(aO s p).2=0
 ·have hpg:=dM c1
  have hg:=hpg.good
  have p8:=hpg.len
  rw [if_neg (by omega)]
  rw [c1] at o1
  generalize (aO s p).1=a at *
  have z1:(!decide ((0:Int)=0))=false:=by decide
  by_cases c2:p.length < came.length
  ·rw [if_pos c2]
   have d2:decide (((p.map ai).length:Int) < ((came.map eB).length:Int))=true:=decide_eq_true (by omega)
   refine af.body (fn:=Tryd.f30) rfl rfl rfl rfl ?_
   refine aa (mu:=fun _=>false) ?_
   repeat' (first |refine u1 ?_ |((with_reducible show aj _ _ _ _ _ _ _ _);refine af.call o1 rfl rfl ?_) |refine u2 ?_ |fail)
   exact ⟨[_,_],⟨Fz.deep rfl,Fz.deep rfl,trivial⟩,rfl⟩
  ·rw [if_neg c2]
   have d2:decide (((p.map ai).length:Int) < ((came.map eB).length:Int))=false:=decide_eq_false (by omega)
   obtain ⟨n,hn⟩:∃ n:Int,n=came.length:=⟨_,rfl⟩
   obtain ⟨hst,hsi⟩:=vu hg (p:=p) (known:=came.length) (f:=iM came) (m:=p.length - came.length)
   have hlt:=BF came
   have og:Pu one 62 [aA (((p.map ai).length:Int) - ((came.map eB).length:Int)),O5 s p full came cf (iM came)] (aA (gW s p came.length (iM came) (p.length - came.length))):=by
    rw [show (((p.map ai).length:Int) - ((came.map eB).length:Int))=((p.length - came.length:Nat):Int) by omega]
    refine CX one 63 [] _ rfl (p.length - came.length) (by omega) _ hst fun k hk=>?_
    rw [←hsi k hk]
    exact IM one hpg full came cf (iM came) k (by omega) hlt (by omega)
   generalize gW s p came.length (iM came) (p.length - came.length)=r at *
   refine af.body (fn:=Tryd.f30) rfl rfl rfl rfl ?_
   refine RM.cm (mu:=fun _=>false) ?_
   repeat' (first |refine u1 ?_ |refine u2 ?_ |fail)
   refine RM.cm (mu:=fun _=>false) ?_
   repeat' (first |refine u1 ?_ |((with_reducible show aj _ _ _ _ _ _ _ _);refine af.call o1 rfl rfl ?_) |refine u2 ?_ |fail)
   refine RM.cm (mu:=fun _=>false) ?_
   repeat' (first |refine u1 ?_ |refine u2 ?_ |fail)
   refine RM.cm (mu:=fun _=>false) ?_
   repeat' (first |refine u1 ?_ |refine u2 ?_ |fail)
   refine RM.cutAt (st':=⟨aU [(3,.pt (ay s) 0),(4,.pt [.sl (p.map ai) full] 0),(5,.pt [.sl (came.map eB) cf] 0),(10,.pt [fA (iM came)] 0)],[.gone],bP.none,false,0⟩) ?_ ?_
   ·refine RM.cm (mu:=fun _=>false) ?_
    repeat' (first |refine u1 ?_ |refine u2 ?_ |fail)
    refine aB.block ?_
    refine aB.aL (au.to (l:=[(3,.pt (ay s) 0),(4,.pt [.sl (p.map ai) full] 0),(5,.pt [.sl (came.map eB) cf] 0),(10,.ptr 0 0 0),(30,.sl (came.map eB) cf),(31,aA n),(32,aA (0:Nat))]) (hp:=[.cells [fA (iM (came.take 0))] 0 0]) 1 rfl ⟨rfl,rfl,rfl,rfl,rfl,bu (by rw [hn];exact ec),rfl,trivial⟩ (Nat.zero_le _) rfl rfl) ?_
    refine aB.loop (fun k:Nat=>k≤came.length) (fun k=>⟨aU [(3,.pt (ay s) 0),(4,.pt [.sl (p.map ai) full] 0),(5,.pt [.sl (came.map eB) cf] 0),(10,.ptr 0 0 0),(30,.sl (came.map eB) cf),(31,aA n),(32,aA (k:Nat))],[.cells [fA (iM (came.take k))] 0 0],bP.none,false,0⟩) (fun k=>came.length - k) ?_ 0 (Nat.zero_le _)
    intro k hk
    refine aa (mu:=fun _=>false) ?_
    by_cases hkl:k < came.length
    ·have d3:decide ((k:Int) < n)=true:=decide_eq_true (by omega)
     have hat:(came.map eB)[((k:Nat):Int).toNat]?=some (eB came[k]):=bC hkl
     have ht:=CY hkl
     have hb:=BF (came.take k)
     have k8:k < 8:=by omega
     have h2k:2 ^ k < 18446744073709551616:=Nat.lt_of_lt_of_le (Nat.pow_lt_pow_right (by decide) k8) (by decide)
     have hff:iM (came.take k) < 18446744073709551616:=by
      rw [List.length_take,Nat.min_eq_left (by omega)] at hb
      omega
     cases hck:came[k] with
     | true =>
      rw [hck] at hat ht
      rw [if_pos rfl] at ht
      repeat' (first |refine u1 ?_ |((with_reducible show RM.wpOp _ _ (.indexAddr _ _ _) _ _ _);refine ⟨eB true,⟨by omega,hat⟩,rfl,?_⟩) |refine u2 ?_ |fail)
      exact ⟨k+1,hkl,(by dsimp only;omega),au.to 1 (by dsimp only;rw [ht];rfl) ⟨rfl,rfl,rfl,rfl,rfl,rfl,bu (by simp),trivial⟩ (Nat.zero_le _) rfl rfl⟩
     | false =>
      rw [hck] at hat ht
      rw [if_neg (by simp)] at ht
      repeat' (first |((with_reducible show aN _ _ _ _ _ _ _ _ _);refine RM.IE rfl rfl k8 ?_) |((with_reducible show aN _ _ _ _ _ _ _ _ _);refine RM.Ni rfl rfl hff h2k ?_) |refine u1 ?_ |((with_reducible show RM.wpOp _ _ (.indexAddr _ _ _) _ _ _);refine ⟨eB false,⟨by omega,hat⟩,rfl,?_⟩) |refine u2 ?_ |fail)
      exact ⟨k+1,hkl,(by dsimp only;omega),au.to 1 (by dsimp only;rw [ht];rfl) ⟨rfl,rfl,rfl,rfl,rfl,rfl,bu (by simp),trivial⟩ (Nat.zero_le _) rfl rfl⟩
    ·have d3:decide ((k:Int) < n)=false:=decide_eq_false (by omega)
     have e:came.take k=came:=List.take_of_length_le (by omega)
     rw [e]
     repeat' (first |refine u1 ?_ |refine u2 ?_ |fail)
     exact .is (au.giveUp 0 rfl (Nat.zero_le _) rfl ⟨.same rfl,.same rfl,.same rfl,.ptr,trivial⟩ rfl rfl)
   ·by_cases c3:r < 0
    ·have d3:=decide_eq_true c3
     rw [if_pos c3]
     refine aa (mu:=fun _=>false) ?_
     repeat' (first |refine u1 ?_ |((with_reducible show aj _ _ _ _ _ _ _ _);refine af.call og rfl rfl ?_) |refine u2 ?_ |fail)
     exact ⟨[_,_],⟨Fz.deep rfl,Fz.deep rfl,trivial⟩,rfl⟩
    ·have d3:=decide_eq_false c3
     rw [if_neg c3]
     refine aa (mu:=fun _=>false) ?_
     repeat' (first |refine u1 ?_ |((with_reducible show aj _ _ _ _ _ _ _ _);refine af.call og rfl rfl ?_) |refine u2 ?_ |fail)
     exact ⟨[_,_],⟨Fz.deep rfl,Fz.deep rfl,trivial⟩,rfl⟩
 ·rw [if_pos c1]
  generalize (aO s p).1=a at *
  generalize (aO s p).2=b at *
  have d1:(!decide (b=0))=true:=by rw [decide_eq_false c1];rfl
  refine af.body (fn:=Tryd.f30) rfl rfl rfl rfl ?_
  refine aa (mu:=fun _=>false) ?_
  repeat' (first |refine u1 ?_ |((with_reducible show aj _ _ _ _ _ _ _ _);refine af.call o1 rfl rfl ?_) |refine u2 ?_ |fail)
  exact ⟨[_,_],⟨Fz.deep rfl,Fz.deep rfl,trivial⟩,rfl⟩
theorem Kc (one:Bool) (s:ak) (hs:s.Ok) (p:List Order) (full:Bool) (hp:vQ p):Pu one 28 [.ag (ay s),.sl (p.map ai) full] (.tp [aA (iG s p []).1,aA (iG s p []).2]):=by
 have o1:Pu one 30 [.ag (ay s),.sl (p.map ai) full,.fl (.slice none 0 0)] (.tp [aA (iG s p []).1,aA (iG s p []).2]):=xV (a:=[.ag (ay s),.sl (p.map ai) full]) (b:=false) (Ka one s hs p full hp [] false (Nat.zero_le _))
 refine af.body (fn:=Tryd.f28) rfl rfl rfl rfl ?_
 refine aa (mu:=fun _=>false) ?_
 repeat' (first |refine u1 ?_ |((with_reducible show aj _ _ _ _ _ _ _ _);refine af.call o1 rfl rfl ?_) |refine u2 ?_ |fail)
 exact ⟨[_,_],⟨Fz.deep rfl,Fz.deep rfl,trivial⟩,rfl⟩
end Go.Proofs.YtpeogffeoehboaaDoor
open Go Go.RM
namespace Go.Proofs.YtpeogffeoehboaaDoor
set_option maxRecDepth 100000
section
variable {P : Program}
theorem CZ {t : TypeId} {d : TypeDesc} (h : P.underlying t = some d) : aD P (underlying t) = some d := by
  unfold underlying
  rw [bH]
  show aD P (match P.underlying t with | some d => pure d | none => stuck "no such type") = some d
  rw [h]
  rfl
theorem nQ {e : TypeId} (he : P.underlying e = some (.int .i64)) (xs : Array Value) (off : Nat) (v : Value) (h : xs[off]? = some v) : aD P (part e xs off) = some v := by
  unfold part isAgg
  rw [bH, bH, CZ he]
  show aD P (match xs[off]? with | some v => pure v | none => stuck "part: no such cell") = some v
  rw [h]
  rfl
theorem Np (d:Nat) {e:TypeId} (he:P.underlying e=some (.int .i64)) (a b:Int):aD P (Op.equalIn (d+1) e (.int .i64 a) (.int .i64 b))=some (a == b):=by
 rw [Op.equalIn,bH,CZ he]
 rfl
theorem Nq (d:Nat) {t e:TypeId} (ht:P.underlying t=some (.array 3 e)) (he:P.underlying e=some (.int .i64)) (hs:aD P (sizeOf e)=some 1) (a0 a1 a2 b0 b1 b2:Int) :
  aD P (Op.equalIn (d+1+1) t (.agg #[.int .i64 a0,.int .i64 a1,.int .i64 a2]) (.agg #[.int .i64 b0,.int .i64 b1,.int .i64 b2]))=some (decide (a0=b0) && (decide (a1=b1) && decide (a2=b2))):=by
 have p0:=nQ he #[.int .i64 a0,.int .i64 a1,.int .i64 a2] 0 (.int .i64 a0) rfl
 have p1:=nQ he #[.int .i64 a0,.int .i64 a1,.int .i64 a2] 1 (.int .i64 a1) rfl
 have p2:=nQ he #[.int .i64 a0,.int .i64 a1,.int .i64 a2] 2 (.int .i64 a2) rfl
 have q0:=nQ he #[.int .i64 b0,.int .i64 b1,.int .i64 b2] 0 (.int .i64 b0) rfl
 have q1:=nQ he #[.int .i64 b0,.int .i64 b1,.int .i64 b2] 1 (.int .i64 b1) rfl
 have q2:=nQ he #[.int .i64 b0,.int .i64 b1,.int .i64 b2] 2 (.int .i64 b2) rfl
 have h3:=Np d he
 rw [Op.equalIn,bH,CZ ht]
 simp only [Option.bind_some]
 rw [bH,hs]
 simp only [Option.bind_some]
 simp only [Std.Legacy.Range.forIn_eq_forIn_range',Std.Legacy.Range.size,Nat.sub_zero,Nat.div_one,List.range'_succ,List.range'_zero,List.forIn_cons,List.forIn_nil,Nat.zero_add,Nat.mul_one,Nat.reduceAdd,bH,p0,q0,h3,Option.bind_some]
 by_cases e0:a0=b0 <;> by_cases e1:a1=b1 <;> by_cases e2:a2=b2 <;> simp [e0,e1,e2,q1,q2,h3,bH,iU]
 all_goals try simp_all
 all_goals try rfl
 all_goals
  show ((some (ForInStep.yield (none,()))).bind _).bind _=_
  simp only [Option.bind_some,bH,p2,q2,h3]
  rw [if_pos (by simp [e2])]
  rfl
end
theorem ES {x y:Operand} (a b:Nat→Int):dj TT.P .eql 86 x y (.agg #[.int .i64 (a 0),.int .i64 (a 1),.int .i64 (a 2)]) (.agg #[.int .i64 (b 0),.int .i64 (b 1),.int .i64 (b 2)])=some (.bool (decide (a 0=b 0) && (decide (a 1=b 1) && decide (a 2=b 2))),.none):=by
 have h1:dj TT.P .eql 86 x y (.agg #[.int .i64 (a 0),.int .i64 (a 1),.int .i64 (a 2)]) (.agg #[.int .i64 (b 0),.int .i64 (b 1),.int .i64 (b 2)])=cP (aD TT.P (do eqGuard .eql 86 x y (.agg #[.int .i64 (a 0),.int .i64 (a 1),.int .i64 (a 2)]) (.agg #[.int .i64 (b 0),.int .i64 (b 1),.int .i64 (b 2)]);binOp .eql 86 (.agg #[.int .i64 (a 0),.int .i64 (a 1),.int .i64 (a 2)]) (.agg #[.int .i64 (b 0),.int .i64 (b 1),.int .i64 (b 2)]))):=rfl
 have h2:aD TT.P (eqGuard .eql 86 x y (.agg #[.int .i64 (a 0),.int .i64 (a 1),.int .i64 (a 2)]) (.agg #[.int .i64 (b 0),.int .i64 (b 1),.int .i64 (b 2)]))=some ():=by kernel_rfl
 have h3:aD TT.P (Op.equal 86 (.agg #[.int .i64 (a 0),.int .i64 (a 1),.int .i64 (a 2)]) (.agg #[.int .i64 (b 0),.int .i64 (b 1),.int .i64 (b 2)]))=_:=Nq (P:=TT.P) 9998 (t:=86) (e:=3) Tryd.underlying86 Tryd.underlying3 (by kernel_rfl) (a 0) (a 1) (a 2) (b 0) (b 1) (b 2)
 rw [h1,bH,h2]
 show cP (aD TT.P (do pure (.bool (←Op.equal 86 _ _))))=_
 rw [bH,h3]
 rfl
end Go.Proofs.YtpeogffeoehboaaDoor
open Go Go.RM
namespace Go.Proofs.YtpeogffeoehboaaDoor
set_option maxRecDepth 100000
set_option maxHeartbeats 4000000
def wD (s:ak) (p:List Order) (f n:Nat) (w:Int) (d:Nat):Int:=(List.range d).foldl (fun w d=>min w (gm s p f n d)) w
theorem zF {s:ak} {p:List Order} {f n:Nat} {w:Int} {d:Nat}:wD s p f n w (d+1)=min (wD s p f n w d) (gm s p f n d):=by
 unfold wD
 rw [List.range_succ,List.foldl_append]
 rfl
def wL (s:ak) (p:List Order) (n:Nat) (L:List Nat):Int:=L.foldl (fun w f=>wD s p f n w s.days.toNat) (fG s n)
theorem Ke {s:ak} {p:List Order} {n:Nat} {L:List Nat} {i y:Nat} (h:L[i]?=some y):wL s p n (L.take (i+1))=wD s p y n (wL s p n (L.take i)) s.days.toNat:=by
 unfold wL
 rw [List.take_add_one,h,List.foldl_append]
 rfl
def iH (s:ak) (p:List Order) (L:List Nat):List Int:=(List.range s.needs.length).map fun n=>wL s p n L
theorem IP {s:ak} (hg:Good s) (p:List Order) (L:List Nat):(ints (iH s p L)).length=(s.needs.map aH).length∧(∀ el ∈ ints (iH s p L),el.length=1) ∧
  (ints (iH s p L)).flatten=((fP fun n=>wL s p n L).drop 0).take ((s.needs.map aH).length * 1):=by
 have h:=hg.len
 refine ⟨by rw [List.length_map,List.length_map];simp [iH],fun el hel=>by obtain ⟨x,_,rfl⟩:=List.mem_map.1 hel;rfl,?_⟩
 rw [List.length_map]
 unfold iH
 obtain e|e|e:s.needs.length=1∨s.needs.length=2∨s.needs.length=3:=by omega
 all_goals rw [e];rfl
def cV (s:ak) (p:List Order):List Nat:=mC s p.length 0 0 s.fail
def vv (s:ak) (p:List Order):Int:=(aO s p).2
def vw (s:ak) (p:List Order):AV:=if (aO s p).2=0 then .sl (ints (iH s p (cV s p))) false else .fl (.slice none 0 0)
theorem zG (one:Bool) (s:ak) (hs:s.Ok) (p:List Order) (full:Bool) (hp:vQ p):Pu one 27 [.ag (ay s),.sl (p.map ai) full] (.tp [vw s p,aA (vv s p)]):=by
 have o1:=zy one s hs p full hp
 unfold vw vv
 by_cases c1:(aO s p).2=0
 ·have hpg:=dM c1
  have hg:=hpg.good
  have hlen:=hg.len
  have hfail:=hg.fail
  have p8:=hpg.len
  rw [if_pos c1,c1]
  rw [c1] at o1
  generalize (aO s p).1=a at *
  have ep:((p.map ai).length:Int)=p.length:=by simp
  have eg:((s.needs.map aH).length:Int)=s.needs.length:=by simp
  obtain ⟨nn,hnn⟩:∃ n:Int,n=s.needs.length:=⟨_,rfl⟩
  have o2:Pu one 56 [.ag (ay s),aA ((p.map ai).length:Int),aA 0,fA 0,aA s.fail] (CV s (p.length:Nat) ((0:Nat):Int) s.fail 0):=by
   rw [ep];exact rB one s _ _ _ _
  have hgen:=rC one hg p.length 0 0 s.fail p8 (Nat.zero_le _) (by decide) (by omega)
  have hz1:(!decide ((0:Int)=0))=false:=by decide
  obtain ⟨L,hL⟩:∃ L,L=cV s p:=⟨_,rfl⟩
  have hgen:zg TT TB one (CV s (p.length:Nat) ((0:Nat):Int) s.fail 0) (L.map fun x=>[fA x]):=by rw [hL];exact hgen
  have hlt:∀ y ∈ L,y < 256:=fun y hy=>by
   rw [hL] at hy
   have e:s.fail=((s.fail.toNat:Nat):Int):=by omega
   unfold cV at hy
   rw [e] at hy
   exact Nat.lt_of_lt_of_le (sW hg (Nat.zero_le _) (by decide) hy) (show 2 ^ p.length≤2 ^ 8 from Nat.pow_le_pow_right (by decide) p8)
  rw [←hL]
  clear hL
  refine af.body (fn:=Tryd.f27) rfl rfl rfl rfl ?_
  refine RM.cm (mu:=fun _=>false) ?_
  repeat' (first |refine u1 ?_ |refine u2 ?_ |fail)
  refine RM.cm (mu:=fun _=>false) ?_
  repeat' (first |refine u1 ?_ |((with_reducible show aj _ _ _ _ _ _ _ _);refine af.call o1 rfl rfl ?_) |refine u2 ?_ |fail)
  refine RM.cm (mu:=fun _=>false) ?_
  repeat' (first |refine u1 ?_ |refine u2 ?_ |fail)
  refine RM.cm (mu:=fun _=>false) ?_
  repeat' (first |refine u1 ?_ |refine u2 ?_ |fail)
  refine RM.cutAt (st':=⟨aU [(2,.pt (ay s) 0),(3,.pt [.sl (p.map ai) full] 0),(8,.ptr 0 0 0),(9,.ptr 1 0 0)],[.cells (ay s) 0 0,.cells (fP fun n=>wL s p n (L.take 0)) 0 0],bP.none,false,0⟩) ?_ ?_
  ·refine RM.cm (mu:=fun _=>false) ?_
   repeat' (first |refine u1 ?_ |refine u2 ?_ |fail)
   refine aB.block ?_
   refine aB.aL (au.to (l:=[(2,.pt (ay s) 0),(3,.pt [.sl (p.map ai) full] 0),(8,.ptr 0 0 0),(9,.ptr 1 0 0),(28,.sl (s.needs.map aH) false),(29,aA nn),(30,aA (0:Nat))]) (hp:=[.cells (ay s) 0 0,.cells (fP fun n=>if n < 0 then fG s n else 0) 0 0]) 2 rfl ⟨rfl,rfl,rfl,rfl,rfl,bu (by rw [hnn];exact eg),rfl,trivial⟩ (Nat.zero_le _) rfl rfl) ?_
   refine aB.loop (fun k:Nat=>k≤s.needs.length) (fun k=>⟨aU [(2,.pt (ay s) 0),(3,.pt [.sl (p.map ai) full] 0),(8,.ptr 0 0 0),(9,.ptr 1 0 0),(28,.sl (s.needs.map aH) false),(29,aA nn),(30,aA (k:Nat))],[.cells (ay s) 0 0,.cells (fP fun n=>if n < k then fG s n else 0) 0 0],bP.none,false,0⟩) (fun k=>s.needs.length - k) ?_ 0 (Nat.zero_le _)
   intro k hk
   by_cases hkl:k < s.needs.length
   ·have d1:decide ((k:Int) < nn)=true:=decide_eq_true (by omega)
    have hat:(s.needs.map aH)[((k:Nat):Int).toNat]?=some (aH s.needs[k]):=bC hkl
    have hk3:k < 3:=by omega
    have hln:=qn (fun n=>if n < k then fG s n else 0) hk3
    have hst:=ni (c:=fun n=>if n < k then fG s n else 0) (c':=fun n=>if n < k+1 then fG s n else 0) (v:=s.needs[k].full) hk3 (fun n hn=>by
     by_cases e:n=k
     ·rw [if_pos e,if_pos (by omega),e,(J7 hkl).2]
     ·rw [if_neg e]
      by_cases e2:n < k
      ·rw [if_pos e2,if_pos (by omega)]
      ·rw [if_neg e2,if_neg (by omega)])
    generalize s.needs[k]=g at *
    refine aa (mu:=fun _=>false) ?_
    repeat' (first |((with_reducible show cM _ _ _ _ _ _);refine RM.NJ rfl rfl rfl rfl rfl rfl hln ?_) |refine u1 ?_ |((with_reducible show RM.wpOp _ _ (.indexAddr _ _ _) _ _ _);refine ⟨aH g,⟨by omega,hat⟩,rfl,?_⟩) |refine u2 ?_ |fail)
    exact ⟨k+1,hkl,(by dsimp only;omega),au.to 2 (by dsimp only;rw [hst];rfl) ⟨rfl,rfl,rfl,rfl,rfl,rfl,bu (by simp),trivial⟩ (Nat.zero_le _) rfl rfl⟩
   ·have d1:decide ((k:Int) < nn)=false:=decide_eq_false (by omega)
    have hall:(fP fun n=>if n < k then fG s n else 0)=fP fun n=>wL s p n (L.take 0):=dD fun n _=>by
     show _=fG s n
     by_cases e:n < k
     ·rw [if_pos e]
     ·rw [if_neg e]
      unfold fG
      rw [List.getElem?_eq_none (by omega)]
    rw [hall]
    refine aa (mu:=fun _=>false) ?_
    repeat' (first |refine u1 ?_ |refine u2 ?_ |fail)
    exact .is (au.to 2 rfl ⟨rfl,rfl,rfl,rfl,trivial⟩ (Nat.zero_le _) rfl rfl)
  ·refine aB.seq ?_
   refine RM.cm (mu:=fun _=>false) ?_
   repeat' (first |refine u1 ?_ |((with_reducible show aj _ _ _ _ _ _ _ _);refine af.call o2 rfl rfl ?_) |refine u2 ?_ |fail)
   refine aB.block ?_
   refine aB.range (fun i=>[.cells (ay s) 0 0,.cells (fP fun n=>wL s p n (L.take i)) 0 0]) (fun _=>bP.none) (fun _=>True) rfl hgen rfl rfl trivial (fun i x hx _=>?_) (fun _=>?_)
   ·obtain ⟨y,hy,rfl⟩:∃ y,L[i]?=some y∧x=[fA y]:=by
     rw [List.getElem?_map,Option.map_eq_some_iff] at hx
     obtain ⟨y,h1,h2⟩:=hx
     exact ⟨y,h1,h2.symm⟩
    have hy256:=hlt y (List.mem_of_getElem? hy)
    have hnx:(fP fun n=>wL s p n (L.take (i+1)))=fP fun n=>wD s p y n (wL s p n (L.take i)) s.days.toNat:=dD fun n _=>Ke hy
    have om:=oN one s p full y
    have hgm:=oO one hpg full y (by omega)
    refine ⟨rfl,?_⟩
    rw [hnx]
    refine aa (mu:=fun _=>false) ?_
    repeat' (first |refine u1 ?_ |refine u2 ?_ |fail)
    refine aB.block ?_
    refine RM.cm (mu:=fun _=>false) ?_
    repeat' (first |refine u1 ?_ |((with_reducible show aj _ _ _ _ _ _ _ _);refine af.call om rfl rfl ?_) |refine u2 ?_ |fail)
    refine aB.block ?_
    refine aB.range (fun d=>[.cells (ay s) 0 0,.cells (fP fun n=>wD s p y n (wL s p n (L.take i)) d) 0 0]) (fun _=>bP.none) (fun _=>True) rfl hgm rfl rfl trivial (fun d x hx _=>?_) (fun _=>?_)
    ·obtain ⟨hd,rfl⟩:=qm hx
     have hnd:(fP fun n=>wD s p y n (wL s p n (L.take i)) (d+1))=fP fun n=>min (wD s p y n (wL s p n (L.take i)) d) (gm s p y n d):=dD fun n _=>zF
     refine ⟨rfl,?_⟩
     rw [hnd]
     refine aa (mu:=fun _=>false) ?_
     repeat' (first |refine u1 ?_ |refine u2 ?_ |fail)
     refine aB.block ?_
     have heq:=fun x y'=>ES (x:=x) (y:=y') (fun n=>gm s p y n d) (fun n=>wD s p y n (wL s p n (L.take i)) d)
     cases hq:(decide (gm s p y 0 d=wD s p y 0 (wL s p 0 (L.take i)) d) && (decide (gm s p y 1 d=wD s p y 1 (wL s p 1 (L.take i)) d) && decide (gm s p y 2 d=wD s p y 2 (wL s p 2 (L.take i)) d))) with
     | true =>
      simp only [hq] at heq
      simp only [Bool.and_eq_true,decide_eq_true_eq] at hq
      have hsame:(fP fun n=>wD s p y n (wL s p n (L.take i)) d)=fP fun n=>min (wD s p y n (wL s p n (L.take i)) d) (gm s p y n d):=by
       unfold fP
       dsimp only
       rw [hq.1,hq.2.1,hq.2.2,Int.min_self,Int.min_self,Int.min_self]
      refine aa (mu:=fun _=>false) ?_
      repeat' (first |(refine ⟨_,_,rfl,rfl,_,heq _ _,rfl,?_⟩) |refine u1 ?_ |refine u2 ?_ |fail)
      exact ⟨_,au.to (l:=[]) 2 (by dsimp only;rw [←hsame];rfl) trivial (Nat.le_refl _) rfl rfl⟩
     | false =>
      simp only [hq] at heq
      clear hq
      refine RM.cm (mu:=fun _=>false) ?_
      repeat' (first |(refine ⟨_,_,rfl,rfl,_,heq _ _,rfl,?_⟩) |refine u1 ?_ |refine u2 ?_ |fail)
      refine RM.cm (mu:=fun _=>false) ?_
      repeat' (first |refine u1 ?_ |refine u2 ?_ |fail)
      refine aB.aL (au.to (l:=[(2,.pt (ay s) 0),(3,.pt [.sl (p.map ai) full] 0),(8,.ptr 0 0 0),(9,.ptr 1 0 0),(14,.ptr 2 0 0),(56,aA (0:Nat))]) (hp:=[.cells (ay s) 0 0,.cells (fP fun n=>if n < 0 then min (wD s p y n (wL s p n (L.take i)) d) (gm s p y n d) else wD s p y n (wL s p n (L.take i)) d) 0 0,.cells (fP fun n=>gm s p y n d) 0 0]) 3 rfl ⟨rfl,rfl,rfl,rfl,rfl,rfl,trivial⟩ (Nat.le_of_ble_eq_true rfl) rfl rfl) ?_
      refine aB.block ?_
      refine aB.loop (fun k:Nat=>k≤3) (fun k=>⟨aU [(2,.pt (ay s) 0),(3,.pt [.sl (p.map ai) full] 0),(8,.ptr 0 0 0),(9,.ptr 1 0 0),(14,.ptr 2 0 0),(56,aA (k:Nat))],[.cells (ay s) 0 0,.cells (fP fun n=>if n < k then min (wD s p y n (wL s p n (L.take i)) d) (gm s p y n d) else wD s p y n (wL s p n (L.take i)) d) 0 0,.cells (fP fun n=>gm s p y n d) 0 0],bP.none,true,2⟩) (fun k=>3 - k) ?_ 0 (Nat.zero_le _)
      intro k hk
      by_cases hk3:k < 3
      ·have d1:decide ((k:Int) < 3)=true:=decide_eq_true (by omega)
       have hat1:(fP fun n=>if n < k then min (wD s p y n (wL s p n (L.take i)) d) (gm s p y n d) else wD s p y n (wL s p n (L.take i)) d)[0+((k:Nat):Int).toNat * 1]?=some (aA (wD s p y k (wL s p k (L.take i)) d)):=by
        rw [zC _ hk3,if_neg (Nat.lt_irrefl _)]
       have hat2:=zC (fun n=>gm s p y n d) hk3
       have hln:=qn (fun n=>if n < k then min (wD s p y n (wL s p n (L.take i)) d) (gm s p y n d) else wD s p y n (wL s p n (L.take i)) d) hk3
       have hst:=ni (c:=fun n=>if n < k then min (wD s p y n (wL s p n (L.take i)) d) (gm s p y n d) else wD s p y n (wL s p n (L.take i)) d) (c':=fun n=>if n < k+1 then min (wD s p y n (wL s p n (L.take i)) d) (gm s p y n d) else wD s p y n (wL s p n (L.take i)) d) (v:=min (wD s p y k (wL s p k (L.take i)) d) (gm s p y k d)) hk3 (fun n hn=>by
        by_cases e:n=k
        ·subst e
         rw [if_pos rfl,if_pos (by omega)]
        ·rw [if_neg e]
         by_cases e2:n < k
         ·rw [if_pos e2,if_pos (by omega)]
         ·rw [if_neg e2,if_neg (by omega)])
       refine aa (mu:=fun _=>false) ?_
       repeat' (first |((with_reducible show RM.wpOp _ _ (.load _ _) _ _ _);refine RM.Pp rfl rfl rfl hat1 ?_) |((with_reducible show RM.wpOp _ _ (.load _ _) _ _ _);refine RM.Pp rfl rfl rfl hat2 ?_) |((with_reducible show cM _ _ _ _ _ _);refine RM.NJ rfl rfl rfl rfl rfl rfl hln ?_) |refine u1 ?_ |refine u2 ?_ |fail)
       exact ⟨k+1,hk3,(by dsimp only;omega),au.to 3 (by dsimp only;rw [hst];rfl) ⟨rfl,rfl,rfl,rfl,rfl,bu (by simp),trivial⟩ (Nat.le_of_ble_eq_true rfl) rfl rfl⟩
      ·have d1:decide ((k:Int) < 3)=false:=decide_eq_false (by omega)
       have hall:(fP fun n=>if n < k then min (wD s p y n (wL s p n (L.take i)) d) (gm s p y n d) else wD s p y n (wL s p n (L.take i)) d)=fP fun n=>min (wD s p y n (wL s p n (L.take i)) d) (gm s p y n d):=dD fun n hn=>if_pos (by omega)
       rw [hall]
       refine aa (mu:=fun _=>false) ?_
       repeat' (first |refine u1 ?_ |refine u2 ?_ |fail)
       exact ⟨_,au.to (l:=[]) 2 rfl trivial (Nat.le_refl _) rfl rfl⟩
    ·rw [kZ]
     exact And.intro trivial ⟨_,au.to (l:=[]) 2 rfl trivial (Nat.le_refl _) rfl rfl⟩
   ·have htl:L.take (L.map fun x=>[fA x]).length=L:=List.take_of_length_le (by rw [List.length_map];exact Nat.le_refl _)
    rw [htl]
    clear htl
    repeat' (first |refine u1 ?_ |refine u2 ?_ |fail)
    have hcut:=IP hg p L
    have hcb:(s.needs.map aH).length≤3∧0+(s.needs.map aH).length * 1≤(fP fun n=>wL s p n L).length:=by
     rw [List.length_map]
     exact ⟨hlen.2,by simpa using hlen.2⟩
    have hwl:(iH s p L).length=s.needs.length:=by simp [iH]
    have hne:iH s p L ≠ []:=fun e=>by
     rw [e] at hwl
     simp at hwl
     omega
    have hcl:=D4 one (iH s p L) (Nat.beq (s.needs.map aH).length 3) hne (by omega)
    refine aB.aL (au.giveUp 1 (l:=[(2,.pt (ay s) 0),(9,.pt (fP fun n=>wL s p n L) 0)]) (hp:=[.cells (ay s) 0 0,.gone]) rfl (Nat.zero_le _) rfl ⟨.same rfl,.ptr,trivial⟩ rfl rfl) ?_
    refine aa (mu:=fun _=>false) ?_
    repeat' (first |(refine RM.Pq rfl rfl rfl hcb (by decide) hcut ?_) |refine u1 ?_ |((with_reducible show aj _ _ _ _ _ _ _ _);refine af.call hcl rfl rfl ?_) |refine u2 ?_ |fail)
    exact ⟨[_,_],⟨Fz.deep rfl,Fz.deep rfl,trivial⟩,rfl⟩
 ·rw [if_neg c1]
  generalize (aO s p).1=a at *
  generalize (aO s p).2=b at *
  have d1:(!decide (b=0))=true:=by rw [decide_eq_false c1];rfl
  refine af.body (fn:=Tryd.f27) rfl rfl rfl rfl ?_
  refine aa (mu:=fun _=>false) ?_
  repeat' (first |refine u1 ?_ |((with_reducible show aj _ _ _ _ _ _ _ _);refine af.call o1 rfl rfl ?_) |refine u2 ?_ |fail)
  exact ⟨[_,_],⟨Fz.deep rfl,Fz.deep rfl,trivial⟩,rfl⟩
end Go.Proofs.YtpeogffeoehboaaDoor
