/-
  Contracts of the program's functions and of the document's. Lemmas alone; their conditions stand in them.
-/
import Derived.Test.YtpeogffeoehboaaDoorA3
import Derived.Test.YtpeogffeoehboaaDoorK4
import Derived.Test.YtpeogffeoehboaaDoorK5
open Go Go.RM
namespace Go.Proofs.YtpeogffeoehboaaDoor
set_option maxRecDepth 100000
set_option maxHeartbeats 4000000
theorem EA {l:List Int} (h:l ≠ []):ints l ≠ []:=by
 cases l with
 | nil=>exact absurd rfl h
 | cons=>simp
theorem rO:∀ l:List Int,(ints l).flatten.all AV.one=true∧cK (ints l).flatten=true
 | []=>⟨rfl,rfl⟩
 | _ :: l=>rO l
theorem KT (one:Bool) (l:List Int) (full:Bool) (h:l ≠ []) (hl:l.length≤8):Pu one 51 [.sl (ints l) full] (.sl (ints l) false):=by
 have hb:(([]:List (List AV)).length+(ints l).length) * 8≤140737488355328∧([]:List (List AV)).length+(ints l).length≤9223372036854775807:=by
  rw [List.length_map,List.length_nil]
  omega
 refine ah.body (fn:=Tryd.f51) rfl rfl rfl rfl ?_
 refine aa (mu:=fun _=>false) ?_
 repeat' (first |(refine RM.RO rfl (EA h) (by kernel_rfl) rfl ?_) |(refine RM.Of rfl rfl rfl rfl rfl (fun el hel=>nomatch hel) (fun el hel=>by obtain ⟨x,_,rfl⟩:=List.mem_map.1 hel;rfl) (rO l).1 (EA h) hb (rO l).2 ?_) |refine u1 ?_ |refine u2 ?_ |fail)
 exact ⟨[_],⟨Fz.deep rfl,trivial⟩,rfl⟩
theorem Fy (one:Bool) (a:Int) (l:List Int) (full:Bool) (hl:l.length≤maxLen):Pu one 76 [.sl (ints l) full,aC a] (aC (ny (fun x=>decide (a=x)) l)):=by
 have ml:l.length≤9223372036854775807:=Nat.le_trans hl (by simp [maxLen])
 have eg:((ints l).length:Int)=l.length:=by simp
 obtain ⟨n,hn⟩:∃ n:Int,n=l.length:=⟨_,rfl⟩
 refine ah.body (fn:=Tryd.f76) rfl rfl rfl rfl ?_
 refine aa (mu:=fun _=>false) ?_
 repeat' (first |refine u1 ?_ |refine u2 ?_ |fail)
 refine aA.aU (ak.to (l:=[(0,.sl (ints l) full),(1,aC a),(7,aC n),(8,aC (0:Nat))]) (hp:=[]) 0 rfl ⟨rfl,rfl,bM (by rw [hn];exact eg),rfl,trivial⟩ (Nat.zero_le _) rfl rfl) ?_
 refine aA.loop (fun k:Nat=>k≤l.length∧∀ i (h:i < l.length),i < k→decide (a=l[i])=false) (fun k=>⟨bu [(0,.sl (ints l) full),(1,aC a),(7,aC n),(8,aC (k:Nat))],[],bR.none,false,0⟩) (fun k=>l.length - k) ?_ 0 ⟨Nat.zero_le _,fun i _ hi=>absurd hi (Nat.not_lt_zero _)⟩
 rintro k ⟨hk,hprev⟩
 refine aa (mu:=fun _=>false) ?_
 by_cases hlt:k < l.length
 ·have d1:decide ((k:Int) < n)=true:=decide_eq_true (by omega)
  have hat:(ints l)[((k:Nat):Int).toNat]?=some (eI l[k]):=bY hlt
  cases hx:decide (a=l[k]) with
  | true =>
   rw [nY hlt hprev hx]
   generalize l[k]=x at *
   repeat' (first |refine u1 ?_ |((with_reducible show RM.wpOp _ _ (.indexAddr _ _ _) _ _ _);refine ⟨eI x,⟨by omega,hat⟩,rfl,?_⟩) |refine u2 ?_ |fail)
   exact ⟨[_],⟨Fz.deep rfl,trivial⟩,rfl⟩
  | false =>
   have hn':∀ i (h:i < l.length),i < k+1→decide (a=l[i])=false:=fun i hi hik=>by
    by_cases e:i=k
    ·subst e;exact hx
    ·exact hprev i hi (by omega)
   generalize l[k]=x at *
   repeat' (first |refine u1 ?_ |((with_reducible show RM.wpOp _ _ (.indexAddr _ _ _) _ _ _);refine ⟨eI x,⟨by omega,hat⟩,rfl,?_⟩) |refine u2 ?_ |fail)
   exact ⟨k+1,⟨hlt,hn'⟩,(by dsimp only;omega),ak.to 0 rfl ⟨rfl,rfl,rfl,bM (by simp),trivial⟩ (Nat.zero_le _) rfl rfl⟩
 ·have d1:decide ((k:Int) < n)=false:=decide_eq_false (by omega)
  rw [nZ (fun i hi=>hprev i hi (by omega))]
  repeat' (first |refine u1 ?_ |refine u2 ?_ |fail)
  exact ⟨[_],⟨Fz.deep rfl,trivial⟩,rfl⟩
def EB (s:ai) (p:List Order) (f d:Nat):List Int:=(List.range s.needs.length).map fun n=>kC s p f n d
theorem td {s:ai} {p:List Order} {f d:Nat}:(EB s p f d).length=s.needs.length:=by simp [EB]
theorem KU {s:ai} (hg:Good s) (p:List Order) (f d:Nat):(ints (EB s p f d)).length=(s.needs.map aR).length∧(∀ el ∈ ints (EB s p f d),el.length=1) ∧
  (ints (EB s p f d)).flatten=((mI fun n=>kC s p f n d).drop 0).take ((s.needs.map aR).length * 1):=by
 have h:=hg.len
 refine ⟨by rw [List.length_map,td,List.length_map],fun el hel=>by obtain ⟨x,_,rfl⟩:=List.mem_map.1 hel;rfl,?_⟩
 rw [List.length_map]
 unfold EB
 obtain e|e|e:s.needs.length=1∨s.needs.length=2∨s.needs.length=3:=by omega
 all_goals rw [e];rfl
def zeroAt (s:ai) (p:List Order) (f d:Nat):Int:=ny (fun x=>decide (0=x)) (EB s p f d)
def jT (s:ai) (p:List Order) (f:Nat):Option (Nat × Int):=((List.range s.days.toNat).find? fun d=>decide (0≤zeroAt s p f d)).map fun d=>(d,zeroAt s p f d)
theorem Jw {s:ai} {p:List Order} {f d:Nat} (hd:d < s.days.toNat) (hprev:∀ i,i < d→zeroAt s p f i < 0) (h:0≤zeroAt s p f d):jT s p f=some (d,zeroAt s p f d):=by
 unfold jT
 have:(List.range s.days.toNat).find? (fun d=>decide (0≤zeroAt s p f d))=some d:=by
  rw [List.find?_range_eq_some]
  refine ⟨decide_eq_true h,by simpa using hd,fun j hj=>?_⟩
  have:=hprev j hj
  simpa using this
 rw [this];rfl
theorem BO {s:ai} {p:List Order} {f:Nat} (hprev:∀ i,i < s.days.toNat→zeroAt s p f i < 0):jT s p f=none:=by
 unfold jT
 have:(List.range s.days.toNat).find? (fun d=>decide (0≤zeroAt s p f d))=none:=by
  rw [List.find?_eq_none]
  intro d hd
  have:=hprev d (by simpa using hd)
  simpa using this
 rw [this];rfl
def vB (s:ai) (p:List Order) (f:Nat):AV:=match jT s p f with
 | some (d,n)=>.tp [.ag [fU f,aC (d:Nat),aC n],BB true]
 | none=>.tp [.ag [fU 0,aC 0,aC 0],BB false]
theorem FA {s:ai} {p:List Order} {f:Nat}:(vB s p f).deep=true:=by
 unfold vB
 split <;> rfl
theorem vC (one:Bool) {s:ai} {p:List Order} (hp:kB s p) (full:Bool) (f:Nat) (hf:f < 18446744073709551616):Pu one 54 [.ag (ay s),.sl (p.map az) full,fU f] (vB s p f):=by
 have hg:=hp.good
 have hlen:=hg.len
 have hm:=Dm one s p full f
 have hgen:=Dp one hp full f hf
 refine ah.body (fn:=Tryd.f54) rfl rfl rfl FA ?_
 refine RM.dH (mu:=fun _=>false) ?_
 repeat' (first |refine u1 ?_ |refine u2 ?_ |fail)
 refine RM.dH (mu:=fun _=>false) ?_
 repeat' (first |refine u1 ?_ |((with_reducible show av _ _ _ _ _ _ _ _);refine ah.call hm rfl rfl ?_) |refine u2 ?_ |fail)
 refine aA.range (fun _=>[.cells [fU 0,aC 0,aC 0] 0 0,.cells [BB false] 0 0]) (fun _=>bR.none) (fun i=>∀ d,d < i→zeroAt s p f d < 0) rfl hgen rfl rfl (fun d hd=>absurd hd (Nat.not_lt_zero _)) (fun i x hx hprev=>?_) (fun hprev=>?_)
 ·obtain ⟨hi,rfl⟩:=BM hx
  refine ⟨rfl,?_⟩
  refine aa (mu:=fun _=>false) ?_
  repeat' (first |refine u1 ?_ |refine u2 ?_ |fail)
  refine aA.aU (ak.giveUp 2 (l:=[(3,.pt (ay s) 0),(5,.pt [fU f] 0),(6,.ptr 0 0 0),(7,.ptr 1 0 0),(8,aC (i:Nat)),(9,.pt (mI fun n=>kC s p f n i) 0)]) (hp:=[.cells [fU 0,aC 0,aC 0] 0 0,.cells [BB false] 0 0,.gone]) rfl (Nat.le_of_ble_eq_true rfl) rfl ⟨.same rfl,.same rfl,.same rfl,.same rfl,.same rfl,.ptr,trivial⟩ rfl rfl) ?_
  have hcut:=KU hg p f i
  have hcb:(s.needs.map aR).length≤3∧0+(s.needs.map aR).length * 1≤(mI fun n=>kC s p f n i).length:=by
   rw [List.length_map]
   exact ⟨hlen.2,by simpa using hlen.2⟩
  have hix:Pu one 76 [.sl (ints (EB s p f i)) (Nat.beq (s.needs.map aR).length 3),aC 0] (aC (zeroAt s p f i)):=Fy one 0 _ _ (by rw [td];exact Nat.le_trans hlen.2 (by simp [maxLen]))
  refine aa (mu:=fun _=>false) ?_
  by_cases hz:0≤zeroAt s p f i
  ·have d1:=decide_eq_true hz
   have e:vB s p f=.tp [.ag [fU f,aC (i:Nat),aC (zeroAt s p f i)],BB true]:=by unfold vB;rw [Jw hi hprev hz]
   rw [e]
   generalize zeroAt s p f i=z at *
   repeat' (first |(refine RM.Rh rfl rfl rfl hcb (by decide) hcut ?_) |refine u1 ?_ |((with_reducible show av _ _ _ _ _ _ _ _);refine ah.call hix rfl rfl ?_) |refine u2 ?_ |fail)
   exact ⟨[_,_],⟨Fz.deep rfl,Fz.deep rfl,trivial⟩,rfl⟩
  ·have d1:=decide_eq_false hz
   have hz':zeroAt s p f i < 0:=by omega
   repeat' (first |(refine RM.Rh rfl rfl rfl hcb (by decide) hcut ?_) |refine u1 ?_ |((with_reducible show av _ _ _ _ _ _ _ _);refine ah.call hix rfl rfl ?_) |refine u2 ?_ |fail)
   refine ⟨fun d hd=>?_,_,ak.to (l:=[]) 2 rfl trivial (Nat.le_refl _) rfl rfl⟩
   ·by_cases e:d=i
    ·subst e;exact hz'
    ·exact hprev d (by omega)
 ·rw [rN] at hprev
  have e:vB s p f=.tp [.ag [fU 0,aC 0,aC 0],BB false]:=by unfold vB;rw [BO hprev]
  rw [e]
  refine aa (mu:=fun _=>false) ?_
  repeat' (first |refine u1 ?_ |refine u2 ?_ |fail)
  exact ⟨[_,_],⟨Fz.deep rfl,Fz.deep rfl,trivial⟩,rfl⟩
end Go.Proofs.YtpeogffeoehboaaDoor
open Go Go.RM
namespace Go.Proofs.YtpeogffeoehboaaDoor
set_option maxRecDepth 100000
set_option maxHeartbeats 4000000
end Go.Proofs.YtpeogffeoehboaaDoor
open Go Go.RM
namespace Go.Proofs.YtpeogffeoehboaaDoor
set_option maxRecDepth 100000
set_option maxHeartbeats 4000000
theorem rP {α:Type} {g:α→AV} (h:∀ x,(g x).deep=true):∀ l:List α,cK (l.map g)=true
 | []=>rfl
 | x :: l=>by
  show ((g x).deep && cK (l.map g))=true
  rw [h x,rP h l]
  rfl
theorem qD {α:Type} (n:Nat) {g:α→AV} (h:∀ x,(g x).gS n=true):∀ l:List α,nu n (l.map g)=true
 | []=>rfl
 | x :: l=>by
  show ((g x).gS n && nu n (l.map g))=true
  rw [h x,qD n h l]
  rfl
abbrev jU (l:List Int):List AV:=l.map aC
theorem oe:∀ l:List Int,(ints l).flatten=jU l
 | []=>rfl
 | x :: l=>by
  show (eI x++(ints l).flatten)=_
  rw [oe l]
  rfl
theorem xS (l:List Int):cK (jU l)=true:=rP (fun _=>rfl) l
end Go.Proofs.YtpeogffeoehboaaDoor
open Go Go.RM
namespace Go.Proofs.YtpeogffeoehboaaDoor
set_option maxRecDepth 100000
set_option maxHeartbeats 4000000
theorem Qp (one:Bool) (s:ai) (o:Order) (hl:s.needs.length≤9223372036854775807) (hc:o.aG.length≤maxLen):Pu one 73 [.sl (ints o.aG) false,aC ((s.needs.map aR).length:Int)] (aC (jI o.aG s.needs.length)):=by
 rw [show ((s.needs.map aR).length:Int)=s.needs.length by simp]
 exact Fx one o.aG false s.needs.length hc hl
theorem FB (one:Bool) {s:ai} (hg:Good s) (p:List Order) (full:Bool) (hp:Ob p):Pu one 48 [.ag (ay s),.sl (p.map az) full] (.tp [aC (jc s p).1,aC (jc s p).2]):=by
 have ep:((p.map az).length:Int)=p.length:=by simp
 have mp:p.length≤9223372036854775807:=Nat.le_trans hp.len (by simp [maxLen])
 have hd:=hg.days
 have hl:=hg.len
 unfold jc
 by_cases c2:8 < p.length
 ·have d2:decide (8 < ((p.map az).length:Int))=true:=decide_eq_true (by rw [ep];omega)
  rw [if_pos c2]
  refine ah.body (fn:=Tryd.f48) rfl rfl rfl rfl ?_
  refine aa (mu:=fun _=>false) ?_
  repeat' (first |refine u1 ?_ |refine u2 ?_ |fail)
  exact ⟨[_,_],⟨Fz.deep rfl,Fz.deep rfl,trivial⟩,rfl⟩
 have d2:decide (8 < ((p.map az).length:Int))=false:=decide_eq_false (by rw [ep];omega)
 rw [if_neg c2]
 refine ah.body (fn:=Tryd.f48) rfl rfl rfl rfl ?_
 refine aa (mu:=fun _=>false) ?_
 repeat' (first |refine u1 ?_ |refine u2 ?_ |fail)
 refine aA.aU (ak.to (l:=[(1,.sl (p.map az) full),(2,.pt (ay s) 0),(6,aC (0:Nat))]) (hp:=[]) 0 rfl ⟨rfl,rfl,rfl,trivial⟩ (Nat.zero_le _) rfl rfl) ?_
 refine aA.loop (fun k:Nat=>k≤p.length∧∀ i,i < k→fO s p i=0) (fun k=>⟨bu [(1,.sl (p.map az) full),(2,.pt (ay s) 0),(6,aC (k:Nat))],[],bR.none,false,0⟩) (fun k=>p.length - k) ?_ 0 ⟨Nat.zero_le _,fun i hi=>absurd hi (Nat.not_lt_zero _)⟩
 rintro k ⟨hk,hprev⟩
 refine aa (mu:=fun _=>false) ?_
 by_cases hlt:k < p.length
 ·have d1:decide ((k:Int) < ((p.map az).length:Int))=true:=decide_eq_true (by omega)
  have hat:(p.map az)[((k:Nat):Int).toNat]?=some (az p[k]):=bY hlt
  have hA:fO s p k=gO s p[k] (iW p k):=by unfold fO;rw [List.getElem?_eq_getElem hlt]
  have bad:∀ v,fO s p k=v→v ≠ 0→di p.length (fO s p)=((k:Int),v):=fun v e hv=>by rw [gz hlt hprev (by rw [e];exact hv),e]
  have o1:=jH true p[k].day 0 (s.days - 1)
  have o2:=Qp true s p[k] (by omega) (hp.aG _ (List.getElem_mem hlt))
  have mc:p[k].aG.length≤9223372036854775807:=Nat.le_trans (hp.aG _ (List.getElem_mem hlt)) (by simp [maxLen])
  have ec:((ints p[k].aG).length:Int)=p[k].aG.length:=by simp
  unfold gO at hA
  rw [bD] at hA
  cases k with
  | zero =>
   have hpd:iW p 0=-1:=rfl
   rw [hpd] at hA
   generalize p[0]=o at *
   cases c1:nA o.day 0 (s.days - 1) with
   | false =>
    rw [c1] at o1 hA
    rw [bad 7 (by rw [hA];rfl) (by decide)]
    repeat' (first |refine u1 ?_ |((with_reducible show RM.wpOp _ _ (.indexAddr _ _ _) _ _ _);refine ⟨az o,⟨by omega,hat⟩,rfl,?_⟩) |refine u2 ?_ |fail)
    exact ⟨[_,_],⟨Fz.deep rfl,Fz.deep rfl,trivial⟩,rfl⟩
   | true =>
    have hin:=ku.1 c1
    rw [c1] at o1 hA
    rw [if_neg (by simp),if_neg (by omega)] at hA
    repeat' (first |refine u1 ?_ |((with_reducible show RM.wpOp _ _ (.indexAddr _ _ _) _ _ _);refine ⟨az o,⟨by omega,hat⟩,rfl,?_⟩) |refine u2 ?_ |fail)
    by_cases c3:o.aG.length=0
    ·have d3:decide (((ints o.aG).length:Int)=0)=true:=decide_eq_true (by rw [ec];omega)
     rw [bad 3 (by rw [hA,if_pos c3]) (by decide)]
     repeat' (first |refine u1 ?_ |((with_reducible show RM.wpOp _ _ (.indexAddr _ _ _) _ _ _);refine ⟨az o,⟨by omega,hat⟩,rfl,?_⟩) |((with_reducible show RM.wpOp _ _ (.indexAddr _ _ _) _ _ _);refine ⟨az o',⟨by omega,hbt⟩,rfl,?_⟩) |refine u2 ?_ |fail)
     exact ⟨[_,_],⟨Fz.deep rfl,Fz.deep rfl,trivial⟩,rfl⟩
    have d3:decide (((ints o.aG).length:Int)=0)=false:=decide_eq_false (by rw [ec];omega)
    rw [if_neg c3] at hA
    by_cases c4:jI o.aG s.needs.length=0
    ·rw [if_neg (by omega)] at hA
     rw [c4] at o2
     obtain ⟨q1,q2,_⟩:=tc c4
     have hw:=xP true hg o.aG false q2 q1
     have d4:decide ((0:Int)=0)=true:=by decide
     have d4':(!decide ((0:Int)=0))=false:=by decide
     have d4'':(!decide ((9:Int)=0))=true:=by decide
     by_cases c5:s.load < oO s o.aG
     ·have d5:=decide_eq_true c5
      rw [bad 9 (by rw [hA,if_pos c5]) (by decide)]
      repeat' (first |refine u1 ?_ |((with_reducible show RM.wpOp _ _ (.indexAddr _ _ _) _ _ _);refine ⟨az o,⟨by omega,hat⟩,rfl,?_⟩) |((with_reducible show RM.wpOp _ _ (.indexAddr _ _ _) _ _ _);refine ⟨az o',⟨by omega,hbt⟩,rfl,?_⟩) |(refine ⟨_,_,.inl ⟨rfl,rfl⟩,hw,?_⟩) |refine u2 ?_ |fail)
      exact ⟨[_,_],⟨Fz.deep rfl,Fz.deep rfl,trivial⟩,rfl⟩
     ·have d5:=decide_eq_false c5
      rw [if_neg c5] at hA
      repeat' (first |refine u1 ?_ |((with_reducible show RM.wpOp _ _ (.indexAddr _ _ _) _ _ _);refine ⟨az o,⟨by omega,hat⟩,rfl,?_⟩) |((with_reducible show RM.wpOp _ _ (.indexAddr _ _ _) _ _ _);refine ⟨az o',⟨by omega,hbt⟩,rfl,?_⟩) |(refine ⟨_,_,.inl ⟨rfl,rfl⟩,hw,?_⟩) |refine u2 ?_ |fail)
      refine ⟨0+1,⟨hlt,fun i hi=>?_⟩,(by dsimp only;omega),ak.to 0 rfl ⟨rfl,rfl,bM (by simp),trivial⟩ (Nat.zero_le _) rfl rfl⟩
      by_cases hik:i=0
      ·rw [hik];exact hA
      ·exact hprev i (by omega)
    ·rw [if_pos c4] at hA
     rw [bad _ hA c4]
     have d4:decide (jI o.aG s.needs.length=0)=false:=decide_eq_false c4
     have d4':(!decide (jI o.aG s.needs.length=0))=true:=by rw [d4];rfl
     generalize jI o.aG s.needs.length=e at *
     repeat' (first |refine u1 ?_ |((with_reducible show RM.wpOp _ _ (.indexAddr _ _ _) _ _ _);refine ⟨az o,⟨by omega,hat⟩,rfl,?_⟩) |((with_reducible show RM.wpOp _ _ (.indexAddr _ _ _) _ _ _);refine ⟨az o',⟨by omega,hbt⟩,rfl,?_⟩) |refine u2 ?_ |fail)
     exact ⟨[_,_],⟨Fz.deep rfl,Fz.deep rfl,trivial⟩,rfl⟩
  | succ m =>
   have hpd:iW p (m+1)=p[m].day:=vu (by omega)
   have d0:decide ((0:Int) < ((m+1:Nat):Int))=true:=decide_eq_true (by omega)
   have hbt:(p.map az)[(((m+1:Nat):Int) - 1).toNat]?=some (az p[m]):=by
    rw [show (((m+1:Nat):Int) - 1)=((m:Nat):Int) by omega]
    exact bY (by omega)
   rw [hpd] at hA
   generalize p[m+1]=o at *
   generalize p[m]=o' at *
   cases c1:nA o.day 0 (s.days - 1) with
   | false =>
    rw [c1] at o1 hA
    rw [bad 7 (by rw [hA];rfl) (by decide)]
    repeat' (first |refine u1 ?_ |((with_reducible show RM.wpOp _ _ (.indexAddr _ _ _) _ _ _);refine ⟨az o,⟨by omega,hat⟩,rfl,?_⟩) |((with_reducible show RM.wpOp _ _ (.indexAddr _ _ _) _ _ _);refine ⟨az o',⟨by omega,hbt⟩,rfl,?_⟩) |refine u2 ?_ |fail)
    exact ⟨[_,_],⟨Fz.deep rfl,Fz.deep rfl,trivial⟩,rfl⟩
   | true =>
    rw [c1] at o1 hA
    rw [if_neg (by simp)] at hA
    by_cases c6:o.day≤o'.day
    ·have d6:=decide_eq_true c6
     rw [bad 2 (by rw [hA,if_pos c6]) (by decide)]
     repeat' (first |refine u1 ?_ |((with_reducible show RM.wpOp _ _ (.indexAddr _ _ _) _ _ _);refine ⟨az o,⟨by omega,hat⟩,rfl,?_⟩) |((with_reducible show RM.wpOp _ _ (.indexAddr _ _ _) _ _ _);refine ⟨az o',⟨by omega,hbt⟩,rfl,?_⟩) |refine u2 ?_ |fail)
     exact ⟨[_,_],⟨Fz.deep rfl,Fz.deep rfl,trivial⟩,rfl⟩
    ·have d6:=decide_eq_false c6
     rw [if_neg c6] at hA
     repeat' (first |refine u1 ?_ |((with_reducible show RM.wpOp _ _ (.indexAddr _ _ _) _ _ _);refine ⟨az o,⟨by omega,hat⟩,rfl,?_⟩) |((with_reducible show RM.wpOp _ _ (.indexAddr _ _ _) _ _ _);refine ⟨az o',⟨by omega,hbt⟩,rfl,?_⟩) |refine u2 ?_ |fail)
     by_cases c3:o.aG.length=0
     ·have d3:decide (((ints o.aG).length:Int)=0)=true:=decide_eq_true (by rw [ec];omega)
      rw [bad 3 (by rw [hA,if_pos c3]) (by decide)]
      repeat' (first |refine u1 ?_ |((with_reducible show RM.wpOp _ _ (.indexAddr _ _ _) _ _ _);refine ⟨az o,⟨by omega,hat⟩,rfl,?_⟩) |((with_reducible show RM.wpOp _ _ (.indexAddr _ _ _) _ _ _);refine ⟨az o',⟨by omega,hbt⟩,rfl,?_⟩) |refine u2 ?_ |fail)
      exact ⟨[_,_],⟨Fz.deep rfl,Fz.deep rfl,trivial⟩,rfl⟩
     have d3:decide (((ints o.aG).length:Int)=0)=false:=decide_eq_false (by rw [ec];omega)
     rw [if_neg c3] at hA
     by_cases c4:jI o.aG s.needs.length=0
     ·rw [if_neg (by omega)] at hA
      rw [c4] at o2
      obtain ⟨q1,q2,_⟩:=tc c4
      have hw:=xP true hg o.aG false q2 q1
      have d4:decide ((0:Int)=0)=true:=by decide
      have d4':(!decide ((0:Int)=0))=false:=by decide
      have d4'':(!decide ((9:Int)=0))=true:=by decide
      by_cases c5:s.load < oO s o.aG
      ·have d5:=decide_eq_true c5
       rw [bad 9 (by rw [hA,if_pos c5]) (by decide)]
       repeat' (first |refine u1 ?_ |((with_reducible show RM.wpOp _ _ (.indexAddr _ _ _) _ _ _);refine ⟨az o,⟨by omega,hat⟩,rfl,?_⟩) |((with_reducible show RM.wpOp _ _ (.indexAddr _ _ _) _ _ _);refine ⟨az o',⟨by omega,hbt⟩,rfl,?_⟩) |(refine ⟨_,_,.inl ⟨rfl,rfl⟩,hw,?_⟩) |refine u2 ?_ |fail)
       exact ⟨[_,_],⟨Fz.deep rfl,Fz.deep rfl,trivial⟩,rfl⟩
      ·have d5:=decide_eq_false c5
       rw [if_neg c5] at hA
       repeat' (first |refine u1 ?_ |((with_reducible show RM.wpOp _ _ (.indexAddr _ _ _) _ _ _);refine ⟨az o,⟨by omega,hat⟩,rfl,?_⟩) |((with_reducible show RM.wpOp _ _ (.indexAddr _ _ _) _ _ _);refine ⟨az o',⟨by omega,hbt⟩,rfl,?_⟩) |(refine ⟨_,_,.inl ⟨rfl,rfl⟩,hw,?_⟩) |refine u2 ?_ |fail)
       refine ⟨m+1+1,⟨hlt,fun i hi=>?_⟩,(by dsimp only;omega),ak.to 0 rfl ⟨rfl,rfl,bM (by simp),trivial⟩ (Nat.zero_le _) rfl rfl⟩
       by_cases hik:i=m+1
       ·rw [hik];exact hA
       ·exact hprev i (by omega)
     ·rw [if_pos c4] at hA
      rw [bad _ hA c4]
      have d4:decide (jI o.aG s.needs.length=0)=false:=decide_eq_false c4
      have d4':(!decide (jI o.aG s.needs.length=0))=true:=by rw [d4];rfl
      generalize jI o.aG s.needs.length=e at *
      repeat' (first |refine u1 ?_ |((with_reducible show RM.wpOp _ _ (.indexAddr _ _ _) _ _ _);refine ⟨az o,⟨by omega,hat⟩,rfl,?_⟩) |((with_reducible show RM.wpOp _ _ (.indexAddr _ _ _) _ _ _);refine ⟨az o',⟨by omega,hbt⟩,rfl,?_⟩) |refine u2 ?_ |fail)
      exact ⟨[_,_],⟨Fz.deep rfl,Fz.deep rfl,trivial⟩,rfl⟩
 ·have d1:decide ((k:Int) < ((p.map az).length:Int))=false:=decide_eq_false (by omega)
  rw [dX (fun i hi=>hprev i (by omega))]
  repeat' (first |refine u1 ?_ |refine u2 ?_ |fail)
  exact ⟨[_,_],⟨Fz.deep rfl,Fz.deep rfl,trivial⟩,rfl⟩
end Go.Proofs.YtpeogffeoehboaaDoor
open Go Go.RM
namespace Go.Proofs.YtpeogffeoehboaaDoor
set_option maxRecDepth 100000
set_option maxHeartbeats 4000000
theorem KV (one:Bool) (s:ai) (hs:s.Ok) (p:List Order) (full:Bool) (hp:Ob p):Pu one 16 [.ag (ay s),.sl (p.map az) full] (.tp [aC (cU s p).1,aC (cU s p).2]):=by
 have o1:=BG one s hs
 unfold cU
 by_cases c1:(iM s).2.2=0
 ·rw [if_neg (by omega)]
  have o2:=FB one (mg c1) p full hp
  rw [qz c1] at o1
  generalize (jc s p).1=a at *
  generalize (jc s p).2=b at *
  refine ah.body (fn:=Tryd.f16) rfl rfl rfl rfl ?_
  refine aa (mu:=fun _=>false) ?_
  repeat' (first |refine u1 ?_ |((with_reducible show av _ _ _ _ _ _ _ _);refine ah.call o1 rfl rfl ?_) |((with_reducible show av _ _ _ _ _ _ _ _);refine ah.call o2 rfl rfl ?_) |refine u2 ?_ |fail)
  exact ⟨[_,_],⟨Fz.deep rfl,Fz.deep rfl,trivial⟩,rfl⟩
 ·rw [if_pos c1]
  generalize (iM s).1=a at *
  generalize (iM s).2.1=b at *
  generalize (iM s).2.2=e at *
  have d1:(!decide (e=0))=true:=by rw [decide_eq_false c1];rfl
  refine ah.body (fn:=Tryd.f16) rfl rfl rfl rfl ?_
  refine aa (mu:=fun _=>false) ?_
  repeat' (first |refine u1 ?_ |((with_reducible show av _ _ _ _ _ _ _ _);refine ah.call o1 rfl rfl ?_) |refine u2 ?_ |fail)
  exact ⟨[_,_],⟨Fz.deep rfl,Fz.deep rfl,trivial⟩,rfl⟩
end Go.Proofs.YtpeogffeoehboaaDoor
open Go Go.RM
namespace Go.Proofs.YtpeogffeoehboaaDoor
set_option maxRecDepth 100000
set_option maxHeartbeats 4000000
end Go.Proofs.YtpeogffeoehboaaDoor
