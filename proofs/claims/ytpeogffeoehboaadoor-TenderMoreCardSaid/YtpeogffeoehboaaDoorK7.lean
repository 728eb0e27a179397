/-
  Contracts of the program's functions and of the document's. Lemmas alone; their conditions stand in them.
-/
import Derived.Test.YtpeogffeoehboaaDoorA3
import Derived.Test.YtpeogffeoehboaaDoorK4
import Derived.Test.YtpeogffeoehboaaDoorK5
import Derived.Test.YtpeogffeoehboaaDoorK6
open Go Go.RM
namespace Go.Proofs.YtpeogffeoehboaaDoor
set_option maxRecDepth 100000
set_option maxHeartbeats 4000000
def jE (s:ak) (p:List Order) (f:List Int):Int × Int × Int :=
 if iE s p f ≠ 0 then (0,0,iE s p f) else match iF s p (cD f) with
 | some (d,n)=>((d:Nat),n,0)
 | none=>(0,0,4)
theorem zD {s:ak} {p:List Order} {f:List Int} (h:iE s p f=0):mz s p∧(∀ x ∈ f,0≤x∧x < p.length)∧(aO s p).2=0∧gC f p.length=0:=by
 unfold iE at h
 split at h
 ·rename_i h1
  exact ⟨dM h1,(nN h).1,h1,h⟩
 ·rename_i h1;exact absurd h h1
theorem sj {s:ak} {p:List Order} {f:List Int} (h:iE s p f=0):cD f < 256:=by
 obtain ⟨h1,h2,_⟩:=zD h
 exact Nat.lt_of_lt_of_le (Bv h2) (show 2 ^ p.length≤2 ^ 8 from Nat.pow_le_pow_right (by decide) h1.len)
theorem D6 (one:Bool) (s:ak) (hs:s.Ok) (p:List Order) (full:Bool) (hp:vQ p) (f:List Int) (ff:Bool) (hf:f.length≤maxLen):Pu one 20 [.ag (ay s),.sl (p.map ai) full,.sl (ints f) ff] (.tp [aA (jE s p f).1,aA (jE s p f).2.1,aA (jE s p f).2.2]):=by
 have o1:=D0 one s hs p full hp f ff hf
 unfold jE
 by_cases c1:iE s p f=0
 ·rw [if_neg (by omega)]
  obtain ⟨hpg,hin,_⟩:=zD c1
  have hfb:=sj c1
  rw [if_pos c1,c1] at o1
  have o2:=vq one hpg full (cD f) (by omega)
  have d0:(!decide ((0:Int)=0))=false:=by decide
  unfold wT at o2
  cases hb:iF s p (cD f) with
  | some x =>
   obtain ⟨d,n⟩:=x
   rw [hb] at o2
   generalize cD f=b at *
   refine af.body (fn:=Tryd.f20) rfl rfl rfl rfl ?_
   refine aa (mu:=fun _=>false) ?_
   repeat' (first |refine u1 ?_ |((with_reducible show aj _ _ _ _ _ _ _ _);refine af.call o1 rfl rfl ?_) |((with_reducible show aj _ _ _ _ _ _ _ _);refine af.call o2 rfl rfl ?_) |refine u2 ?_ |fail)
   exact ⟨[_,_,_],⟨Fz.deep rfl,Fz.deep rfl,Fz.deep rfl,trivial⟩,rfl⟩
  | none =>
   rw [hb] at o2
   generalize cD f=b at *
   refine af.body (fn:=Tryd.f20) rfl rfl rfl rfl ?_
   refine aa (mu:=fun _=>false) ?_
   repeat' (first |refine u1 ?_ |((with_reducible show aj _ _ _ _ _ _ _ _);refine af.call o1 rfl rfl ?_) |((with_reducible show aj _ _ _ _ _ _ _ _);refine af.call o2 rfl rfl ?_) |refine u2 ?_ |fail)
   exact ⟨[_,_,_],⟨Fz.deep rfl,Fz.deep rfl,Fz.deep rfl,trivial⟩,rfl⟩
 ·rw [if_pos c1]
  rw [if_neg c1] at o1
  generalize iE s p f=e at *
  have d1:(!decide (e=0))=true:=by rw [decide_eq_false c1];rfl
  refine af.body (fn:=Tryd.f20) rfl rfl rfl rfl ?_
  refine aa (mu:=fun _=>false) ?_
  repeat' (first |refine u1 ?_ |((with_reducible show aj _ _ _ _ _ _ _ _);refine af.call o1 rfl rfl ?_) |refine u2 ?_ |fail)
  exact ⟨[_,_,_],⟨Fz.deep rfl,Fz.deep rfl,Fz.deep rfl,trivial⟩,rfl⟩
def nj (s:ak) (p:List Order) (f:List Int) (day:Int):Int:=if iE s p f ≠ 0 then iE s p f else if eM 0 (s.days - 1) [day]=true then 7 else 0
def qo (s:ak) (p:List Order) (f:List Int) (day:Int):AV:=if nj s p f day=0 then .sl (ints (xT s p (cD f) day.toNat)) false else .fl (.slice none 0 0)
theorem Nl (one:Bool) (s:ak) (hs:s.Ok) (p:List Order) (full:Bool) (hp:vQ p) (f:List Int) (ff:Bool) (hf:f.length≤maxLen) (day:Int):Pu one 17 [.ag (ay s),.sl (p.map ai) full,.sl (ints f) ff,aA day] (.tp [qo s p f day,aA (nj s p f day)]):=by
 have o1:=D0 one s hs p full hp f ff hf
 by_cases c1:iE s p f=0
 ·obtain ⟨hpg,hin,_⟩:=zD c1
  have hg:=hpg.good
  have hdays:=hg.days
  have hlen:=hg.len
  have hfb:=sj c1
  rw [if_pos c1,c1] at o1
  have o3:=gA one 0 (s.days - 1) day
  have d0:(!decide ((0:Int)=0))=false:=by decide
  cases c2:eM 0 (s.days - 1) [day] with
  | true =>
   rw [c2] at o3
   have e1:nj s p f day=7:=by unfold nj;rw [if_neg (by omega),if_pos c2]
   have e2:qo s p f day=.fl (.slice none 0 0):=by unfold qo;rw [e1];rfl
   rw [e1,e2]
   refine af.body (fn:=Tryd.f17) rfl rfl rfl rfl ?_
   refine aa (mu:=fun _=>false) ?_
   repeat' (first |refine u1 ?_ |((with_reducible show aj _ _ _ _ _ _ _ _);refine af.call o1 rfl rfl ?_) |((with_reducible show aj _ _ _ _ _ _ _ _);refine af.call o3 rfl rfl ?_) |refine u2 ?_ |fail)
   exact ⟨[_,_],⟨Fz.deep rfl,Fz.deep rfl,trivial⟩,rfl⟩
  | false =>
   rw [c2] at o3
   have hday:=cc c2
   have e1:nj s p f day=0:=by unfold nj;rw [if_neg (by omega),if_neg (by rw [c2];simp)]
   have e2:qo s p f day=.sl (ints (xT s p (cD f) day.toNat)) false:=by unfold qo;rw [if_pos e1]
   rw [e1,e2]
   generalize cD f=b at *
   have hm:=oN one s p full b
   have hgen:=oO one hpg full b (by omega)
   refine af.body (fn:=Tryd.f17) rfl rfl rfl rfl ?_
   refine RM.cm (mu:=fun _=>false) ?_
   repeat' (first |refine u1 ?_ |refine u2 ?_ |fail)
   refine RM.cm (mu:=fun _=>false) ?_
   repeat' (first |refine u1 ?_ |((with_reducible show aj _ _ _ _ _ _ _ _);refine af.call o1 rfl rfl ?_) |refine u2 ?_ |fail)
   refine RM.cm (mu:=fun _=>false) ?_
   repeat' (first |refine u1 ?_ |((with_reducible show aj _ _ _ _ _ _ _ _);refine af.call o3 rfl rfl ?_) |refine u2 ?_ |fail)
   refine RM.cm (mu:=fun _=>false) ?_
   repeat' (first |refine u1 ?_ |((with_reducible show aj _ _ _ _ _ _ _ _);refine af.call hm rfl rfl ?_) |refine u2 ?_ |fail)
   refine aB.range (fun _=>[.cells [.fl (.slice none 0 0)] 0 0,.cells [aA 0] 0 0]) (fun _=>bP.none) (fun i=>i≤day.toNat) rfl hgen rfl rfl (Nat.zero_le _) (fun i x hx hprev=>?_) (fun hprev=>?_)
   ·obtain ⟨hi,rfl⟩:=qm hx
    refine ⟨rfl,?_⟩
    refine aa (mu:=fun _=>false) ?_
    repeat' (first |refine u1 ?_ |refine u2 ?_ |fail)
    refine aB.aL (au.giveUp 2 (l:=[(4,.pt (ay s) 0),(7,.pt [aA day] 0),(8,.ptr 0 0 0),(9,.ptr 1 0 0),(12,aA (i:Nat)),(13,.pt (fP fun n=>gm s p b n i) 0)]) (hp:=[.cells [.fl (.slice none 0 0)] 0 0,.cells [aA 0] 0 0,.gone]) rfl (Nat.le_of_ble_eq_true rfl) rfl ⟨.same rfl,.same rfl,.same rfl,.same rfl,.same rfl,.ptr,trivial⟩ rfl rfl) ?_
    refine aa (mu:=fun _=>false) ?_
    by_cases hz:(i:Int)=day
    ·have d1:=decide_eq_true hz
     have hit:day.toNat=i:=by omega
     rw [hit]
     have hcut:=D5 hg p b i
     have hcb:(s.needs.map aH).length≤3∧0+(s.needs.map aH).length * 1≤(fP fun n=>gm s p b n i).length:=by
      rw [List.length_map]
      exact ⟨hlen.2,by simpa using hlen.2⟩
     have hcl:=D4 one (xT s p b i) (Nat.beq (s.needs.map aH).length 3) (fun e=>by have:=nP (s:=s) (p:=p) (f:=b) (d:=i);rw [e] at this;simp at this;omega) (by rw [nP];omega)
     repeat' (first |(refine RM.Pq rfl rfl rfl hcb (by decide) hcut ?_) |refine u1 ?_ |((with_reducible show aj _ _ _ _ _ _ _ _);refine af.call hcl rfl rfl ?_) |refine u2 ?_ |fail)
     exact ⟨[_,_],⟨Fz.deep rfl,Fz.deep rfl,trivial⟩,rfl⟩
    ·have d1:=decide_eq_false hz
     repeat' (first |refine u1 ?_ |refine u2 ?_ |fail)
     exact ⟨_,au.to (l:=[]) 2 rfl trivial (Nat.le_refl _) rfl rfl⟩
   ·rw [kZ] at hprev
    omega
 ·have e1:nj s p f day=iE s p f:=by unfold nj;rw [if_pos c1]
  have e2:qo s p f day=.fl (.slice none 0 0):=by unfold qo;rw [e1,if_neg c1]
  rw [e1,e2]
  rw [if_neg c1] at o1
  generalize iE s p f=e at *
  have d1:(!decide (e=0))=true:=by rw [decide_eq_false c1];rfl
  refine af.body (fn:=Tryd.f17) rfl rfl rfl rfl ?_
  refine aa (mu:=fun _=>false) ?_
  repeat' (first |refine u1 ?_ |((with_reducible show aj _ _ _ _ _ _ _ _);refine af.call o1 rfl rfl ?_) |refine u2 ?_ |fail)
  exact ⟨[_,_],⟨Fz.deep rfl,Fz.deep rfl,trivial⟩,rfl⟩
end Go.Proofs.YtpeogffeoehboaaDoor
open Go Go.RM
namespace Go.Proofs.YtpeogffeoehboaaDoor
set_option maxRecDepth 100000
set_option maxHeartbeats 4000000
theorem xU {α:Type} {g:α→AV} (h:∀ x,(g x).deep=true):∀ l:List α,cK (l.map g)=true
 | []=>rfl
 | x :: l=>by
  show ((g x).deep && cK (l.map g))=true
  rw [h x,xU h l]
  rfl
theorem vr {α:Type} (n:Nat) {g:α→AV} (h:∀ x,(g x).lg n=true):∀ l:List α,mY n (l.map g)=true
 | []=>rfl
 | x :: l=>by
  show ((g x).lg n && mY n (l.map g))=true
  rw [h x,vr n h l]
  rfl
abbrev fT (l:List Int):List AV:=l.map aA
theorem je:∀ l:List Int,(ints l).flatten=fT l
 | []=>rfl
 | x :: l=>by
  show (eI x++(ints l).flatten)=_
  rw [je l]
  rfl
theorem rA (l:List Int):cK (fT l)=true:=xU (fun _=>rfl) l
theorem J7 {s:ak} {n:Nat} (h:n < s.needs.length):iY s n=s.needs[n].first∧fG s n=s.needs[n].full:=by
 unfold iY fG
 rw [List.getElem?_eq_getElem h]
 exact ⟨rfl,rfl⟩
end Go.Proofs.YtpeogffeoehboaaDoor
open Go Go.RM
namespace Go.Proofs.YtpeogffeoehboaaDoor
set_option maxRecDepth 100000
set_option maxHeartbeats 4000000
theorem O3 (one:Bool) (s:ak) (o:Order) (hl:s.needs.length≤9223372036854775807) (hc:o.aF.length≤maxLen):Pu one 73 [.sl (ints o.aF) false,aA ((s.needs.map aH).length:Int)] (aA (gC o.aF s.needs.length)):=by
 rw [show ((s.needs.map aH).length:Int)=s.needs.length by simp]
 exact EL one o.aF false s.needs.length hc hl
theorem ER (one:Bool) {s:ak} (hg:Good s) (p:List Order) (full:Bool) (hp:vQ p):Pu one 48 [.ag (ay s),.sl (p.map ai) full] (.tp [aA (kz s p).1,aA (kz s p).2]):=by
 have ep:((p.map ai).length:Int)=p.length:=by simp
 have mp:p.length≤9223372036854775807:=Nat.le_trans hp.len (by simp [maxLen])
 have hd:=hg.days
 have hl:=hg.len
 unfold kz
 by_cases c2:8 < p.length
 ·have d2:decide (8 < ((p.map ai).length:Int))=true:=decide_eq_true (by rw [ep];omega)
  rw [if_pos c2]
  refine af.body (fn:=Tryd.f48) rfl rfl rfl rfl ?_
  refine aa (mu:=fun _=>false) ?_
  repeat' (first |refine u1 ?_ |refine u2 ?_ |fail)
  exact ⟨[_,_],⟨Fz.deep rfl,Fz.deep rfl,trivial⟩,rfl⟩
 have d2:decide (8 < ((p.map ai).length:Int))=false:=decide_eq_false (by rw [ep];omega)
 rw [if_neg c2]
 refine af.body (fn:=Tryd.f48) rfl rfl rfl rfl ?_
 refine aa (mu:=fun _=>false) ?_
 repeat' (first |refine u1 ?_ |refine u2 ?_ |fail)
 refine aB.aL (au.to (l:=[(1,.sl (p.map ai) full),(2,.pt (ay s) 0),(6,aA (0:Nat))]) (hp:=[]) 0 rfl ⟨rfl,rfl,rfl,trivial⟩ (Nat.zero_le _) rfl rfl) ?_
 refine aB.loop (fun k:Nat=>k≤p.length∧∀ i,i < k→fO s p i=0) (fun k=>⟨aU [(1,.sl (p.map ai) full),(2,.pt (ay s) 0),(6,aA (k:Nat))],[],bP.none,false,0⟩) (fun k=>p.length - k) ?_ 0 ⟨Nat.zero_le _,fun i hi=>absurd hi (Nat.not_lt_zero _)⟩
 rintro k ⟨hk,hprev⟩
 refine aa (mu:=fun _=>false) ?_
 by_cases hlt:k < p.length
 ·have d1:decide ((k:Int) < ((p.map ai).length:Int))=true:=decide_eq_true (by omega)
  have hat:(p.map ai)[((k:Nat):Int).toNat]?=some (ai p[k]):=bC hlt
  have hA:fO s p k=iy s p[k] (ku p k):=by unfold fO;rw [List.getElem?_eq_getElem hlt]
  have bad:∀ v,fO s p k=v→v ≠ 0→cN p.length (fO s p)=((k:Int),v):=fun v e hv=>by rw [gi hlt hprev (by rw [e];exact hv),e]
  have o1:=jD true p[k].day 0 (s.days - 1)
  have o2:=O3 true s p[k] (by omega) (hp.aF _ (List.getElem_mem hlt))
  have mc:p[k].aF.length≤9223372036854775807:=Nat.le_trans (hp.aF _ (List.getElem_mem hlt)) (by simp [maxLen])
  have ec:((ints p[k].aF).length:Int)=p[k].aF.length:=by simp
  unfold iy at hA
  rw [bh] at hA
  cases k with
  | zero =>
   have hpd:ku p 0=-1:=rfl
   rw [hpd] at hA
   generalize p[0]=o at *
   cases c1:ng o.day 0 (s.days - 1) with
   | false =>
    rw [c1] at o1 hA
    rw [bad 7 (by rw [hA];rfl) (by decide)]
    repeat' (first |refine u1 ?_ |((with_reducible show RM.wpOp _ _ (.indexAddr _ _ _) _ _ _);refine ⟨ai o,⟨by omega,hat⟩,rfl,?_⟩) |refine u2 ?_ |fail)
    exact ⟨[_,_],⟨Fz.deep rfl,Fz.deep rfl,trivial⟩,rfl⟩
   | true =>
    have hin:=hG.1 c1
    rw [c1] at o1 hA
    rw [if_neg (by simp),if_neg (by omega)] at hA
    repeat' (first |refine u1 ?_ |((with_reducible show RM.wpOp _ _ (.indexAddr _ _ _) _ _ _);refine ⟨ai o,⟨by omega,hat⟩,rfl,?_⟩) |refine u2 ?_ |fail)
    by_cases c3:o.aF.length=0
    ·have d3:decide (((ints o.aF).length:Int)=0)=true:=decide_eq_true (by rw [ec];omega)
     rw [bad 3 (by rw [hA,if_pos c3]) (by decide)]
     repeat' (first |refine u1 ?_ |((with_reducible show RM.wpOp _ _ (.indexAddr _ _ _) _ _ _);refine ⟨ai o,⟨by omega,hat⟩,rfl,?_⟩) |((with_reducible show RM.wpOp _ _ (.indexAddr _ _ _) _ _ _);refine ⟨ai o',⟨by omega,hbt⟩,rfl,?_⟩) |refine u2 ?_ |fail)
     exact ⟨[_,_],⟨Fz.deep rfl,Fz.deep rfl,trivial⟩,rfl⟩
    have d3:decide (((ints o.aF).length:Int)=0)=false:=decide_eq_false (by rw [ec];omega)
    rw [if_neg c3] at hA
    by_cases c4:gC o.aF s.needs.length=0
    ·rw [if_neg (by omega)] at hA
     rw [c4] at o2
     obtain ⟨q1,q2,_⟩:=nN c4
     have hw:=xR true hg o.aF false q2 q1
     have d4:decide ((0:Int)=0)=true:=by decide
     have d4':(!decide ((0:Int)=0))=false:=by decide
     have d4'':(!decide ((9:Int)=0))=true:=by decide
     by_cases c5:s.load < zN s o.aF
     ·have d5:=decide_eq_true c5
      rw [bad 9 (by rw [hA,if_pos c5]) (by decide)]
      repeat' (first |refine u1 ?_ |((with_reducible show RM.wpOp _ _ (.indexAddr _ _ _) _ _ _);refine ⟨ai o,⟨by omega,hat⟩,rfl,?_⟩) |((with_reducible show RM.wpOp _ _ (.indexAddr _ _ _) _ _ _);refine ⟨ai o',⟨by omega,hbt⟩,rfl,?_⟩) |(refine ⟨_,_,.inl ⟨rfl,rfl⟩,hw,?_⟩) |refine u2 ?_ |fail)
      exact ⟨[_,_],⟨Fz.deep rfl,Fz.deep rfl,trivial⟩,rfl⟩
     ·have d5:=decide_eq_false c5
      rw [if_neg c5] at hA
      repeat' (first |refine u1 ?_ |((with_reducible show RM.wpOp _ _ (.indexAddr _ _ _) _ _ _);refine ⟨ai o,⟨by omega,hat⟩,rfl,?_⟩) |((with_reducible show RM.wpOp _ _ (.indexAddr _ _ _) _ _ _);refine ⟨ai o',⟨by omega,hbt⟩,rfl,?_⟩) |(refine ⟨_,_,.inl ⟨rfl,rfl⟩,hw,?_⟩) |refine u2 ?_ |fail)
      refine ⟨0+1,⟨hlt,fun i hi=>?_⟩,(by dsimp only;omega),au.to 0 rfl ⟨rfl,rfl,bu (by simp),trivial⟩ (Nat.zero_le _) rfl rfl⟩
      by_cases hik:i=0
      ·rw [hik];exact hA
      ·exact hprev i (by omega)
    ·rw [if_pos c4] at hA
     rw [bad _ hA c4]
     have d4:decide (gC o.aF s.needs.length=0)=false:=decide_eq_false c4
     have d4':(!decide (gC o.aF s.needs.length=0))=true:=by rw [d4];rfl
     generalize gC o.aF s.needs.length=e at *
     repeat' (first |refine u1 ?_ |((with_reducible show RM.wpOp _ _ (.indexAddr _ _ _) _ _ _);refine ⟨ai o,⟨by omega,hat⟩,rfl,?_⟩) |((with_reducible show RM.wpOp _ _ (.indexAddr _ _ _) _ _ _);refine ⟨ai o',⟨by omega,hbt⟩,rfl,?_⟩) |refine u2 ?_ |fail)
     exact ⟨[_,_],⟨Fz.deep rfl,Fz.deep rfl,trivial⟩,rfl⟩
  | succ m =>
   have hpd:ku p (m+1)=p[m].day:=vm (by omega)
   have d0:decide ((0:Int) < ((m+1:Nat):Int))=true:=decide_eq_true (by omega)
   have hbt:(p.map ai)[(((m+1:Nat):Int) - 1).toNat]?=some (ai p[m]):=by
    rw [show (((m+1:Nat):Int) - 1)=((m:Nat):Int) by omega]
    exact bC (by omega)
   rw [hpd] at hA
   generalize p[m+1]=o at *
   generalize p[m]=o' at *
   cases c1:ng o.day 0 (s.days - 1) with
   | false =>
    rw [c1] at o1 hA
    rw [bad 7 (by rw [hA];rfl) (by decide)]
    repeat' (first |refine u1 ?_ |((with_reducible show RM.wpOp _ _ (.indexAddr _ _ _) _ _ _);refine ⟨ai o,⟨by omega,hat⟩,rfl,?_⟩) |((with_reducible show RM.wpOp _ _ (.indexAddr _ _ _) _ _ _);refine ⟨ai o',⟨by omega,hbt⟩,rfl,?_⟩) |refine u2 ?_ |fail)
    exact ⟨[_,_],⟨Fz.deep rfl,Fz.deep rfl,trivial⟩,rfl⟩
   | true =>
    rw [c1] at o1 hA
    rw [if_neg (by simp)] at hA
    by_cases c6:o.day≤o'.day
    ·have d6:=decide_eq_true c6
     rw [bad 2 (by rw [hA,if_pos c6]) (by decide)]
     repeat' (first |refine u1 ?_ |((with_reducible show RM.wpOp _ _ (.indexAddr _ _ _) _ _ _);refine ⟨ai o,⟨by omega,hat⟩,rfl,?_⟩) |((with_reducible show RM.wpOp _ _ (.indexAddr _ _ _) _ _ _);refine ⟨ai o',⟨by omega,hbt⟩,rfl,?_⟩) |refine u2 ?_ |fail)
     exact ⟨[_,_],⟨Fz.deep rfl,Fz.deep rfl,trivial⟩,rfl⟩
    ·have d6:=decide_eq_false c6
     rw [if_neg c6] at hA
     repeat' (first |refine u1 ?_ |((with_reducible show RM.wpOp _ _ (.indexAddr _ _ _) _ _ _);refine ⟨ai o,⟨by omega,hat⟩,rfl,?_⟩) |((with_reducible show RM.wpOp _ _ (.indexAddr _ _ _) _ _ _);refine ⟨ai o',⟨by omega,hbt⟩,rfl,?_⟩) |refine u2 ?_ |fail)
     by_cases c3:o.aF.length=0
     ·have d3:decide (((ints o.aF).length:Int)=0)=true:=decide_eq_true (by rw [ec];omega)
      rw [bad 3 (by rw [hA,if_pos c3]) (by decide)]
      repeat' (first |refine u1 ?_ |((with_reducible show RM.wpOp _ _ (.indexAddr _ _ _) _ _ _);refine ⟨ai o,⟨by omega,hat⟩,rfl,?_⟩) |((with_reducible show RM.wpOp _ _ (.indexAddr _ _ _) _ _ _);refine ⟨ai o',⟨by omega,hbt⟩,rfl,?_⟩) |refine u2 ?_ |fail)
      exact ⟨[_,_],⟨Fz.deep rfl,Fz.deep rfl,trivial⟩,rfl⟩
     have d3:decide (((ints o.aF).length:Int)=0)=false:=decide_eq_false (by rw [ec];omega)
     rw [if_neg c3] at hA
     by_cases c4:gC o.aF s.needs.length=0
     ·rw [if_neg (by omega)] at hA
      rw [c4] at o2
      obtain ⟨q1,q2,_⟩:=nN c4
      have hw:=xR true hg o.aF false q2 q1
      have d4:decide ((0:Int)=0)=true:=by decide
      have d4':(!decide ((0:Int)=0))=false:=by decide
      have d4'':(!decide ((9:Int)=0))=true:=by decide
      by_cases c5:s.load < zN s o.aF
      ·have d5:=decide_eq_true c5
       rw [bad 9 (by rw [hA,if_pos c5]) (by decide)]
       repeat' (first |refine u1 ?_ |((with_reducible show RM.wpOp _ _ (.indexAddr _ _ _) _ _ _);refine ⟨ai o,⟨by omega,hat⟩,rfl,?_⟩) |((with_reducible show RM.wpOp _ _ (.indexAddr _ _ _) _ _ _);refine ⟨ai o',⟨by omega,hbt⟩,rfl,?_⟩) |(refine ⟨_,_,.inl ⟨rfl,rfl⟩,hw,?_⟩) |refine u2 ?_ |fail)
       exact ⟨[_,_],⟨Fz.deep rfl,Fz.deep rfl,trivial⟩,rfl⟩
      ·have d5:=decide_eq_false c5
       rw [if_neg c5] at hA
       repeat' (first |refine u1 ?_ |((with_reducible show RM.wpOp _ _ (.indexAddr _ _ _) _ _ _);refine ⟨ai o,⟨by omega,hat⟩,rfl,?_⟩) |((with_reducible show RM.wpOp _ _ (.indexAddr _ _ _) _ _ _);refine ⟨ai o',⟨by omega,hbt⟩,rfl,?_⟩) |(refine ⟨_,_,.inl ⟨rfl,rfl⟩,hw,?_⟩) |refine u2 ?_ |fail)
       refine ⟨m+1+1,⟨hlt,fun i hi=>?_⟩,(by dsimp only;omega),au.to 0 rfl ⟨rfl,rfl,bu (by simp),trivial⟩ (Nat.zero_le _) rfl rfl⟩
       by_cases hik:i=m+1
       ·rw [hik];exact hA
       ·exact hprev i (by omega)
     ·rw [if_pos c4] at hA
      rw [bad _ hA c4]
      have d4:decide (gC o.aF s.needs.length=0)=false:=decide_eq_false c4
      have d4':(!decide (gC o.aF s.needs.length=0))=true:=by rw [d4];rfl
      generalize gC o.aF s.needs.length=e at *
      repeat' (first |refine u1 ?_ |((with_reducible show RM.wpOp _ _ (.indexAddr _ _ _) _ _ _);refine ⟨ai o,⟨by omega,hat⟩,rfl,?_⟩) |((with_reducible show RM.wpOp _ _ (.indexAddr _ _ _) _ _ _);refine ⟨ai o',⟨by omega,hbt⟩,rfl,?_⟩) |refine u2 ?_ |fail)
      exact ⟨[_,_],⟨Fz.deep rfl,Fz.deep rfl,trivial⟩,rfl⟩
 ·have d1:decide ((k:Int) < ((p.map ai).length:Int))=false:=decide_eq_false (by omega)
  rw [ey (fun i hi=>hprev i (by omega))]
  repeat' (first |refine u1 ?_ |refine u2 ?_ |fail)
  exact ⟨[_,_],⟨Fz.deep rfl,Fz.deep rfl,trivial⟩,rfl⟩
end Go.Proofs.YtpeogffeoehboaaDoor
open Go Go.RM
namespace Go.Proofs.YtpeogffeoehboaaDoor
set_option maxRecDepth 100000
set_option maxHeartbeats 4000000
theorem J8 (one:Bool) (s:ak) (hs:s.Ok) (p:List Order) (full:Bool) (hp:vQ p):Pu one 16 [.ag (ay s),.sl (p.map ai) full] (.tp [aA (aO s p).1,aA (aO s p).2]):=by
 have o1:=Is one s hs
 unfold aO
 by_cases c1:(lZ s).2.2=0
 ·rw [if_neg (by omega)]
  have o2:=ER one (CN c1) p full hp
  rw [Bs c1] at o1
  generalize (kz s p).1=a at *
  generalize (kz s p).2=b at *
  refine af.body (fn:=Tryd.f16) rfl rfl rfl rfl ?_
  refine aa (mu:=fun _=>false) ?_
  repeat' (first |refine u1 ?_ |((with_reducible show aj _ _ _ _ _ _ _ _);refine af.call o1 rfl rfl ?_) |((with_reducible show aj _ _ _ _ _ _ _ _);refine af.call o2 rfl rfl ?_) |refine u2 ?_ |fail)
  exact ⟨[_,_],⟨Fz.deep rfl,Fz.deep rfl,trivial⟩,rfl⟩
 ·rw [if_pos c1]
  generalize (lZ s).1=a at *
  generalize (lZ s).2.1=b at *
  generalize (lZ s).2.2=e at *
  have d1:(!decide (e=0))=true:=by rw [decide_eq_false c1];rfl
  refine af.body (fn:=Tryd.f16) rfl rfl rfl rfl ?_
  refine aa (mu:=fun _=>false) ?_
  repeat' (first |refine u1 ?_ |((with_reducible show aj _ _ _ _ _ _ _ _);refine af.call o1 rfl rfl ?_) |refine u2 ?_ |fail)
  exact ⟨[_,_],⟨Fz.deep rfl,Fz.deep rfl,trivial⟩,rfl⟩
end Go.Proofs.YtpeogffeoehboaaDoor
open Go Go.RM
namespace Go.Proofs.YtpeogffeoehboaaDoor
set_option maxRecDepth 100000
set_option maxHeartbeats 4000000
end Go.Proofs.YtpeogffeoehboaaDoor
