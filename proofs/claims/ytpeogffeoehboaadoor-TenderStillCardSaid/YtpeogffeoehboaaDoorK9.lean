/-
  Contracts of the program's functions and of the document's. Lemmas alone; their conditions stand in them.
-/
import Derived.Test.YtpeogffeoehboaaDoorK8
open Go Go.RM
namespace Go.Proofs.YtpeogffeoehboaaDoor
set_option maxRecDepth 100000
set_option maxHeartbeats 4000000
theorem F9 (one:Bool) (s:ay) (hs:s.Ok) (p:List Order) (full:Bool) (hp:B1 p):Pu one 34 [.ag (az s),.sl (p.map av) full] (BB (decide ((dD s p).2=0))):=by
 have o1:=wB one s hs p full hp
 generalize (dD s p).1=a at *
 generalize (dD s p).2=b at *
 refine af.body (fn:=Tryd.f34) rfl rfl rfl rfl ?_
 refine ah (mu:=fun _=>false) ?_
 repeat' (first |refine u1 ?_ |((with_reducible show ak _ _ _ _ _ _ _ _);refine af.call o1 rfl rfl ?_) |refine u2 ?_ |fail)
 exact ⟨[_],⟨Fz.deep rfl,trivial⟩,rfl⟩
theorem Ag {s:ay} {p:List Order} {f d n:Nat} (h:n < s.needs.length):(ints (dI s p f d))[((n:Nat):Int).toNat]?=some (eI (iP s p f n d)):=by
 rw [Int.toNat_natCast,List.getElem?_map]
 unfold dI
 rw [List.getElem?_map,List.getElem?_range h]
 rfl
theorem yQ {s:ay} (hg:Good s) {p:List Order} {f n d:Nat} (h:n < s.needs.length):iP s p f n d≤gm s n:=by
 have h1:=Aa hg h
 have h2:=Ab hg h
 unfold iP
 rw [if_pos h]
 exact TeLaw.z8 h2.2 (by omega) _ d
theorem B6 {s:ay} {p:List Order} {f:List Int} {day:Int} (h:dF s p f day=0):gQ s p f=0∧0≤day∧day≤s.days - 1:=by
 unfold dF at h
 split at h
 ·rename_i h1;exact absurd h h1
 ·rename_i h1
  split at h
  ·cases h
  ·rename_i h2
   have:=bA (by simpa using h2)
   exact ⟨Classical.not_not.1 h1,this⟩
theorem Fg {s:ay} {p:List Order} {f:List Int} {day:Int} (h:gQ s p f=0) (h1:0≤day) (h2:day≤s.days - 1):dF s p f day=0:=by
 unfold dF
 rw [if_neg (by omega),if_neg]
 rw [aT,hJ.2 ⟨h1,h2⟩]
 simp
theorem yR {s:ay} {p:List Order} {f:List Int} {day:Int} (h:dF s p f day=0):dR s p f day=.sl (ints (dI s p (cc f) day.toNat)) false:=by unfold dR;rw [if_pos h]
theorem Fh {hp:List AB} {K:AV→List AB→Prop} (h:K (aD ((0:Nat):Int)) hp):kL TT 23 (.fl (.slice none 0 0)) hp K:=h
theorem Ga (s:ay) (hs:s.Ok) (p:List Order) (full:Bool) (hp:B1 p) (f:List Int) (hf:f.length≤maxLen) (day:Int):Pu false 12 [.ag (az s),.sl (p.map av) full,.ag (gv f day)] (BB true):=by
 have o1:=Ae false s hs p full hp f false hf day
 have o2:=F9 false s hs p full hp
 have aw:=KB false
 by_cases hE:dF s p f day=0
 ·obtain ⟨hask,hd1,hd2⟩:=B6 hE
  obtain ⟨hpg,hin,hpl,_⟩:=kC hask
  have hg:=hpg.good
  have hlen:=hg.len
  have hdays:=hg.days
  have p8:=hpg.len
  have hbit:=oY hin
  rw [hE,yR hE] at o1
  rw [hpl] at o2
  obtain ⟨D,rfl⟩:∃ D:Nat,day=(D:Int):=⟨day.toNat,by omega⟩
  rw [Int.toNat_natCast] at o1
  have ep:((p.map av).length:Int)=p.length:=by simp
  have eg:((s.needs.map aG).length:Int)=s.needs.length:=by simp
  have el:((ints (dI s p (cc f) D)).length:Int)=s.needs.length:=by rw [List.length_map,eO]
  have z0:decide ((0:Int)=0)=true:=by decide
  have z1:(!decide ((0:Int)=0))=false:=by decide
  have d7:decide ((D:Int) < 0)=false:=decide_eq_false (by omega)
  have d8:decide (s.days≤(D:Int))=false:=decide_eq_false (by omega)
  have d9:(!decide (((ints (dI s p (cc f) D)).length:Int)=((s.needs.map aG).length:Int)))=false:=by rw [el,eg,decide_eq_true rfl];rfl
  obtain ⟨g0,hg0⟩:∃ g0,s.needs[0]?=some g0:=⟨_,List.getElem?_eq_getElem (by omega)⟩
  have hn0:(s.needs.map aG)[(0:Int).toNat]?=some (aG g0):=by
   show (s.needs.map aG)[0]?=_
   rw [List.getElem?_map,hg0];rfl
  have onm:=A6 false g0.name (hs.names _ (List.mem_of_getElem? hg0))
  rw [(hg.needs _ (List.mem_of_getElem? hg0)).1] at onm
  rcases Nat.eq_zero_or_pos D with h0|h0
  ·subst h0
   have dz:decide ((0:Int) < ((0:Nat):Int))=false:=by decide
   generalize cc f=b at *
   refine af.body (fn:=Tryd.f12) rfl rfl rfl rfl ?_
   refine RM.qk (mu:=fun _=>false) ?_
   repeat' (first |refine u1 ?_ |refine u2 ?_ |fail)
   refine RM.qk (mu:=fun _=>false) ?_
   repeat' (first |refine u1 ?_ |((with_reducible show ak _ _ _ _ _ _ _ _);refine af.call o1 rfl rfl ?_) |refine u2 ?_ |fail)
   refine RM.qk (mu:=fun _=>false) ?_
   repeat' (first |refine u1 ?_ |((with_reducible show ak _ _ _ _ _ _ _ _);refine af.call o2 rfl rfl ?_) |refine u2 ?_ |fail)
   refine RM.qk (mu:=fun _=>false) ?_
   repeat' (first |refine u1 ?_ |refine u2 ?_ |fail)
   refine RM.qk (mu:=fun _=>false) ?_
   repeat' (first |refine u1 ?_ |refine u2 ?_ |fail)
   refine RM.qk (mu:=fun _=>false) ?_
   repeat' (first |refine u1 ?_ |refine u2 ?_ |fail)
   refine ah (mu:=fun _=>false) ?_
   repeat' (first |refine u1 ?_ |refine u2 ?_ |fail)
   refine aF.bf (ax.to (l:=[(1,.sl (p.map av) full),(3,.pt (az s) 0),(5,.pt (gv f ((0:Nat):Int)) 0),(7,.sl (ints (dI s p b (0:Nat))) false),(9,.fl (.slice none 0 0)),(12,aD (0:Nat))]) (hp:=[]) 0 rfl ⟨rfl,rfl,rfl,rfl,rfl,rfl,trivial⟩ (Nat.zero_le _) rfl rfl) ?_
   refine aF.loop (fun n:Nat=>n≤s.needs.length) (fun n=>⟨bZ [(1,.sl (p.map av) full),(3,.pt (az s) 0),(5,.pt (gv f ((0:Nat):Int)) 0),(7,.sl (ints (dI s p b (0:Nat))) false),(9,.fl (.slice none 0 0)),(12,aD (n:Nat))],[],cF.none,false,0⟩) (fun n=>s.needs.length - n) ?_ 0 (Nat.zero_le _)
   intro n hn
   refine ah (mu:=fun _=>false) ?_
   by_cases hnl:n < s.needs.length
   ·have d2:decide ((n:Int) < ((ints (dI s p b (0:Nat))).length:Int))=true:=decide_eq_true (by omega)
    have hnt:(s.needs.map aG)[((n:Nat):Int).toNat]?=some (aG s.needs[n]):=bq hnl
    have hlt:=Ag (s:=s) (p:=p) (f:=b) (d:=(0:Nat)) hnl
    obtain ⟨hfst,hful⟩:=wA hnl
    have hle:=yQ hg (p:=p) (f:=b) (d:=(0:Nat)) hnl
    have hlv:=oZ (s:=s) (p:=p) (f:=b) (d:=(0:Nat)) hnl
    generalize s.needs[n]=g at *
    repeat' (first |refine u1 ?_ |refine u2 ?_ |fail)
    refine aF.bf (ax.to (l:=[(1,.sl (p.map av) full),(3,.pt (az s) 0),(5,.pt (gv f ((0:Nat):Int)) 0),(7,.sl (ints (dI s p b (0:Nat))) false),(9,.fl (.slice none 0 0)),(12,aD (n:Nat)),(13,BB (nY p b n (0:Nat) 0)),(14,aD (0:Nat))]) (hp:=[]) 0 rfl ⟨rfl,rfl,rfl,rfl,rfl,rfl,rfl,rfl,trivial⟩ (Nat.zero_le _) rfl rfl) ?_
    refine aF.loop (fun i:Nat=>i≤p.length) (fun i=>⟨bZ [(1,.sl (p.map av) full),(3,.pt (az s) 0),(5,.pt (gv f ((0:Nat):Int)) 0),(7,.sl (ints (dI s p b (0:Nat))) false),(9,.fl (.slice none 0 0)),(12,aD (n:Nat)),(13,BB (nY p b n (0:Nat) i)),(14,aD (i:Nat))],[],cF.none,false,0⟩) (fun i=>p.length - i) ?_ 0 (Nat.zero_le _)
    intro i hi
    refine ah (mu:=fun _=>false) ?_
    by_cases hil:i < p.length
    ·have d3:decide ((i:Int) < ((p.map av).length:Int))=true:=decide_eq_true (by omega)
     have hat:(p.map av)[((i:Nat):Int).toNat]?=some (av p[i]):=bq hil
     have hsu:=sN (f:=b) (n:=n) (d:=(0:Nat)) hil
     have hor:=hpg.order _ (List.getElem_mem hil)
     generalize p[i]=o at *
     rw [hbit] at hsu
     have o1:=uN true f false (i:Int) hf
     have o2:=uN true o.aB false (n:Int) (Nat.le_trans hor.len (Nat.le_trans hlen.2 (by simp [maxLen])))
     cases q0:nY p b n (0:Nat) i with
     | true =>
      rw [q0] at hsu
      have hk:true=nY p b n (0:Nat) (i+1):=by rw [hsu];rfl
      repeat' (first |refine u1 ?_ |((with_reducible show RM.wpOp _ _ (.indexAddr _ _ _) _ _ _);refine ⟨av o,⟨by omega,hat⟩,rfl,?_⟩) |(refine ⟨_,_,.inl ⟨rfl,rfl⟩,o1,?_⟩) |(refine ⟨_,_,.inl ⟨rfl,rfl⟩,o2,?_⟩) |refine u2 ?_ |fail)
      exact ⟨i+1,hil,(by dsimp only;omega),ax.to 0 rfl ⟨rfl,rfl,rfl,rfl,rfl,rfl,wD hk,bg (by simp),trivial⟩ (Nat.zero_le _) rfl rfl⟩
     | false =>
      rw [q0,Bool.false_or] at hsu
      by_cases q1:o.day=((0:Nat):Int)
      ·have e1:=decide_eq_true q1
       cases q2:hasB f (i:Int) with
       | true =>
        rw [q2] at o1 hsu
        have hk:false=nY p b n (0:Nat) (i+1):=by rw [hsu];simp
        repeat' (first |refine u1 ?_ |((with_reducible show RM.wpOp _ _ (.indexAddr _ _ _) _ _ _);refine ⟨av o,⟨by omega,hat⟩,rfl,?_⟩) |(refine ⟨_,_,.inl ⟨rfl,rfl⟩,o1,?_⟩) |(refine ⟨_,_,.inl ⟨rfl,rfl⟩,o2,?_⟩) |refine u2 ?_ |fail)
        exact ⟨i+1,hil,(by dsimp only;omega),ax.to 0 rfl ⟨rfl,rfl,rfl,rfl,rfl,rfl,wD hk,bg (by simp),trivial⟩ (Nat.zero_le _) rfl rfl⟩
       | false =>
        rw [q2] at o1 hsu
        cases q3:hasB o.aB (n:Int) with
        | false =>
         rw [q3] at o2 hsu
         have hk:false=nY p b n (0:Nat) (i+1):=by rw [hsu];simp
         repeat' (first |refine u1 ?_ |((with_reducible show RM.wpOp _ _ (.indexAddr _ _ _) _ _ _);refine ⟨av o,⟨by omega,hat⟩,rfl,?_⟩) |(refine ⟨_,_,.inl ⟨rfl,rfl⟩,o1,?_⟩) |(refine ⟨_,_,.inl ⟨rfl,rfl⟩,o2,?_⟩) |refine u2 ?_ |fail)
         exact ⟨i+1,hil,(by dsimp only;omega),ax.to 0 rfl ⟨rfl,rfl,rfl,rfl,rfl,rfl,wD hk,bg (by simp),trivial⟩ (Nat.zero_le _) rfl rfl⟩
        | true =>
         rw [q3,e1] at hsu
         rw [q3] at o2
         have hk:true=nY p b n (0:Nat) (i+1):=by rw [hsu];rfl
         repeat' (first |refine u1 ?_ |((with_reducible show RM.wpOp _ _ (.indexAddr _ _ _) _ _ _);refine ⟨av o,⟨by omega,hat⟩,rfl,?_⟩) |(refine ⟨_,_,.inl ⟨rfl,rfl⟩,o1,?_⟩) |(refine ⟨_,_,.inl ⟨rfl,rfl⟩,o2,?_⟩) |refine u2 ?_ |fail)
         exact ⟨i+1,hil,(by dsimp only;omega),ax.to 0 rfl ⟨rfl,rfl,rfl,rfl,rfl,rfl,wD hk,bg (by simp),trivial⟩ (Nat.zero_le _) rfl rfl⟩
      ·have e1:=decide_eq_false q1
       rw [e1] at hsu
       have hk:false=nY p b n (0:Nat) (i+1):=by rw [hsu];simp
       repeat' (first |refine u1 ?_ |((with_reducible show RM.wpOp _ _ (.indexAddr _ _ _) _ _ _);refine ⟨av o,⟨by omega,hat⟩,rfl,?_⟩) |(refine ⟨_,_,.inl ⟨rfl,rfl⟩,o1,?_⟩) |(refine ⟨_,_,.inl ⟨rfl,rfl⟩,o2,?_⟩) |refine u2 ?_ |fail)
       exact ⟨i+1,hil,(by dsimp only;omega),ax.to 0 rfl ⟨rfl,rfl,rfl,rfl,rfl,rfl,wD hk,bg (by simp),trivial⟩ (Nat.zero_le _) rfl rfl⟩
    ·have d3:decide ((i:Int) < ((p.map av).length:Int))=false:=decide_eq_false (by omega)
     have hie:i=p.length:=by omega
     subst hie
     rw [Bj]
     have hdn:kR s p b n 0=g.first:=hfst
     cases hbr:Bc p b n (0:Nat) with
     | true =>
      rw [hbr,if_pos rfl] at hlv
      have hv2:iP s p b n (0:Nat)=g.full:=hlv.trans hful
      rw [hful] at hle
      generalize iP s p b n (0:Nat)=v at *
      have d5:decide (v=g.full)=true:=decide_eq_true hv2
      have d5':(!decide (v=g.full))=false:=by rw [d5];rfl
      have d6:decide (g.full < v)=false:=decide_eq_false (by omega)
      repeat' (first |refine u1 ?_ |((with_reducible show RM.wpOp _ _ (.indexAddr _ _ _) _ _ _);refine ⟨aG g,⟨by omega,hnt⟩,rfl,?_⟩) |((with_reducible show RM.wpOp _ _ (.indexAddr _ _ _) _ _ _);refine ⟨eI v,⟨by omega,hlt⟩,rfl,?_⟩) |refine u2 ?_ |fail)
      exact ⟨n+1,hnl,(by dsimp only;omega),ax.to 0 rfl ⟨rfl,rfl,rfl,rfl,rfl,bg (by simp),trivial⟩ (Nat.zero_le _) rfl rfl⟩
     | false =>
      rw [hbr,if_neg (by simp)] at hlv
      rw [hful] at hle
      rw [hdn] at hlv
      generalize iP s p b n (0:Nat)=v at *
      have d5:decide (v=g.first)=true:=decide_eq_true hlv
      have d5':(!decide (v=g.first))=false:=by rw [d5];rfl
      have d6:decide (g.full < v)=false:=decide_eq_false (by omega)
      repeat' (first |refine u1 ?_ |((with_reducible show RM.wpOp _ _ (.indexAddr _ _ _) _ _ _);refine ⟨aG g,⟨by omega,hnt⟩,rfl,?_⟩) |((with_reducible show RM.wpOp _ _ (.indexAddr _ _ _) _ _ _);refine ⟨eI v,⟨by omega,hlt⟩,rfl,?_⟩) |refine u2 ?_ |fail)
      exact ⟨n+1,hnl,(by dsimp only;omega),ax.to 0 rfl ⟨rfl,rfl,rfl,rfl,rfl,bg (by simp),trivial⟩ (Nat.zero_le _) rfl rfl⟩
   ·have d2:decide ((n:Int) < ((ints (dI s p b (0:Nat))).length:Int))=false:=decide_eq_false (by omega)
    repeat' (first |refine u1 ?_ |((with_reducible show RM.wpOp _ _ (.indexAddr _ _ _) _ _ _);refine ⟨aG g0,⟨by omega,hn0⟩,rfl,?_⟩) |((with_reducible show ak _ _ _ _ _ _ _ _);refine af.call onm rfl rfl ?_) |((with_reducible show ak _ _ _ _ _ _ _ _);refine af.call aw rfl rfl ?_) |refine u2 ?_ |fail)
    exact ⟨[_],⟨Fz.deep rfl,trivial⟩,rfl⟩
  ·obtain ⟨D',rfl⟩:∃ D',D=D'+1:=⟨D - 1,by omega⟩
   have dz:decide ((0:Int) < ((D'+1:Nat):Int))=true:=decide_eq_true (by omega)
   have hE':dF s p f (((D'+1:Nat):Int) - 1)=0:=Fg hask (by omega) (by omega)
   have o1':=Ae false s hs p full hp f false hf (((D'+1:Nat):Int) - 1)
   rw [hE',yR hE',show ((((D'+1:Nat):Int) - 1)).toNat=D' by omega] at o1'
   have dl:(!decide (((ints (dI s p (cc f) D')).length:Int)=((ints (dI s p (cc f) (D'+1))).length:Int)))=false:=by
    rw [List.length_map,List.length_map,eO,eO,decide_eq_true rfl];rfl
   generalize cc f=b at *
   refine af.body (fn:=Tryd.f12) rfl rfl rfl rfl ?_
   refine RM.qk (mu:=fun _=>false) ?_
   repeat' (first |refine u1 ?_ |refine u2 ?_ |fail)
   refine RM.qk (mu:=fun _=>false) ?_
   repeat' (first |refine u1 ?_ |((with_reducible show ak _ _ _ _ _ _ _ _);refine af.call o1 rfl rfl ?_) |refine u2 ?_ |fail)
   refine RM.qk (mu:=fun _=>false) ?_
   repeat' (first |refine u1 ?_ |((with_reducible show ak _ _ _ _ _ _ _ _);refine af.call o2 rfl rfl ?_) |refine u2 ?_ |fail)
   refine RM.qk (mu:=fun _=>false) ?_
   repeat' (first |refine u1 ?_ |refine u2 ?_ |fail)
   refine RM.qk (mu:=fun _=>false) ?_
   repeat' (first |refine u1 ?_ |refine u2 ?_ |fail)
   refine RM.qk (mu:=fun _=>false) ?_
   repeat' (first |refine u1 ?_ |((with_reducible show ak _ _ _ _ _ _ _ _);refine af.call o1' rfl rfl ?_) |refine u2 ?_ |fail)
   refine ah (mu:=fun _=>false) ?_
   repeat' (first |refine u1 ?_ |refine u2 ?_ |fail)
   refine aF.bf (ax.to (l:=[(1,.sl (p.map av) full),(3,.pt (az s) 0),(5,.pt (gv f ((D'+1:Nat):Int)) 0),(7,.sl (ints (dI s p b (D'+1))) false),(9,(.sl (ints (dI s p b D')) false)),(12,aD (0:Nat))]) (hp:=[]) 0 rfl ⟨rfl,rfl,rfl,rfl,rfl,rfl,trivial⟩ (Nat.zero_le _) rfl rfl) ?_
   refine aF.loop (fun n:Nat=>n≤s.needs.length) (fun n=>⟨bZ [(1,.sl (p.map av) full),(3,.pt (az s) 0),(5,.pt (gv f ((D'+1:Nat):Int)) 0),(7,.sl (ints (dI s p b (D'+1))) false),(9,(.sl (ints (dI s p b D')) false)),(12,aD (n:Nat))],[],cF.none,false,0⟩) (fun n=>s.needs.length - n) ?_ 0 (Nat.zero_le _)
   intro n hn
   refine ah (mu:=fun _=>false) ?_
   by_cases hnl:n < s.needs.length
   ·have d2:decide ((n:Int) < ((ints (dI s p b (D'+1))).length:Int))=true:=decide_eq_true (by omega)
    have hnt:(s.needs.map aG)[((n:Nat):Int).toNat]?=some (aG s.needs[n]):=bq hnl
    have hlt:=Ag (s:=s) (p:=p) (f:=b) (d:=(D'+1)) hnl
    obtain ⟨hfst,hful⟩:=wA hnl
    have hle:=yQ hg (p:=p) (f:=b) (d:=(D'+1)) hnl
    have hlv:=oZ (s:=s) (p:=p) (f:=b) (d:=(D'+1)) hnl
    generalize s.needs[n]=g at *
    repeat' (first |refine u1 ?_ |refine u2 ?_ |fail)
    refine aF.bf (ax.to (l:=[(1,.sl (p.map av) full),(3,.pt (az s) 0),(5,.pt (gv f ((D'+1:Nat):Int)) 0),(7,.sl (ints (dI s p b (D'+1))) false),(9,(.sl (ints (dI s p b D')) false)),(12,aD (n:Nat)),(13,BB (nY p b n (D'+1) 0)),(14,aD (0:Nat))]) (hp:=[]) 0 rfl ⟨rfl,rfl,rfl,rfl,rfl,rfl,rfl,rfl,trivial⟩ (Nat.zero_le _) rfl rfl) ?_
    refine aF.loop (fun i:Nat=>i≤p.length) (fun i=>⟨bZ [(1,.sl (p.map av) full),(3,.pt (az s) 0),(5,.pt (gv f ((D'+1:Nat):Int)) 0),(7,.sl (ints (dI s p b (D'+1))) false),(9,(.sl (ints (dI s p b D')) false)),(12,aD (n:Nat)),(13,BB (nY p b n (D'+1) i)),(14,aD (i:Nat))],[],cF.none,false,0⟩) (fun i=>p.length - i) ?_ 0 (Nat.zero_le _)
    intro i hi
    refine ah (mu:=fun _=>false) ?_
    by_cases hil:i < p.length
    ·have d3:decide ((i:Int) < ((p.map av).length:Int))=true:=decide_eq_true (by omega)
     have hat:(p.map av)[((i:Nat):Int).toNat]?=some (av p[i]):=bq hil
     have hsu:=sN (f:=b) (n:=n) (d:=(D'+1)) hil
     have hor:=hpg.order _ (List.getElem_mem hil)
     generalize p[i]=o at *
     rw [hbit] at hsu
     have o1:=uN true f false (i:Int) hf
     have o2:=uN true o.aB false (n:Int) (Nat.le_trans hor.len (Nat.le_trans hlen.2 (by simp [maxLen])))
     cases q0:nY p b n (D'+1) i with
     | true =>
      rw [q0] at hsu
      have hk:true=nY p b n (D'+1) (i+1):=by rw [hsu];rfl
      repeat' (first |refine u1 ?_ |((with_reducible show RM.wpOp _ _ (.indexAddr _ _ _) _ _ _);refine ⟨av o,⟨by omega,hat⟩,rfl,?_⟩) |(refine ⟨_,_,.inl ⟨rfl,rfl⟩,o1,?_⟩) |(refine ⟨_,_,.inl ⟨rfl,rfl⟩,o2,?_⟩) |refine u2 ?_ |fail)
      exact ⟨i+1,hil,(by dsimp only;omega),ax.to 0 rfl ⟨rfl,rfl,rfl,rfl,rfl,rfl,wD hk,bg (by simp),trivial⟩ (Nat.zero_le _) rfl rfl⟩
     | false =>
      rw [q0,Bool.false_or] at hsu
      by_cases q1:o.day=((D'+1:Nat):Int)
      ·have e1:=decide_eq_true q1
       cases q2:hasB f (i:Int) with
       | true =>
        rw [q2] at o1 hsu
        have hk:false=nY p b n (D'+1) (i+1):=by rw [hsu];simp
        repeat' (first |refine u1 ?_ |((with_reducible show RM.wpOp _ _ (.indexAddr _ _ _) _ _ _);refine ⟨av o,⟨by omega,hat⟩,rfl,?_⟩) |(refine ⟨_,_,.inl ⟨rfl,rfl⟩,o1,?_⟩) |(refine ⟨_,_,.inl ⟨rfl,rfl⟩,o2,?_⟩) |refine u2 ?_ |fail)
        exact ⟨i+1,hil,(by dsimp only;omega),ax.to 0 rfl ⟨rfl,rfl,rfl,rfl,rfl,rfl,wD hk,bg (by simp),trivial⟩ (Nat.zero_le _) rfl rfl⟩
       | false =>
        rw [q2] at o1 hsu
        cases q3:hasB o.aB (n:Int) with
        | false =>
         rw [q3] at o2 hsu
         have hk:false=nY p b n (D'+1) (i+1):=by rw [hsu];simp
         repeat' (first |refine u1 ?_ |((with_reducible show RM.wpOp _ _ (.indexAddr _ _ _) _ _ _);refine ⟨av o,⟨by omega,hat⟩,rfl,?_⟩) |(refine ⟨_,_,.inl ⟨rfl,rfl⟩,o1,?_⟩) |(refine ⟨_,_,.inl ⟨rfl,rfl⟩,o2,?_⟩) |refine u2 ?_ |fail)
         exact ⟨i+1,hil,(by dsimp only;omega),ax.to 0 rfl ⟨rfl,rfl,rfl,rfl,rfl,rfl,wD hk,bg (by simp),trivial⟩ (Nat.zero_le _) rfl rfl⟩
        | true =>
         rw [q3,e1] at hsu
         rw [q3] at o2
         have hk:true=nY p b n (D'+1) (i+1):=by rw [hsu];rfl
         repeat' (first |refine u1 ?_ |((with_reducible show RM.wpOp _ _ (.indexAddr _ _ _) _ _ _);refine ⟨av o,⟨by omega,hat⟩,rfl,?_⟩) |(refine ⟨_,_,.inl ⟨rfl,rfl⟩,o1,?_⟩) |(refine ⟨_,_,.inl ⟨rfl,rfl⟩,o2,?_⟩) |refine u2 ?_ |fail)
         exact ⟨i+1,hil,(by dsimp only;omega),ax.to 0 rfl ⟨rfl,rfl,rfl,rfl,rfl,rfl,wD hk,bg (by simp),trivial⟩ (Nat.zero_le _) rfl rfl⟩
      ·have e1:=decide_eq_false q1
       rw [e1] at hsu
       have hk:false=nY p b n (D'+1) (i+1):=by rw [hsu];simp
       repeat' (first |refine u1 ?_ |((with_reducible show RM.wpOp _ _ (.indexAddr _ _ _) _ _ _);refine ⟨av o,⟨by omega,hat⟩,rfl,?_⟩) |(refine ⟨_,_,.inl ⟨rfl,rfl⟩,o1,?_⟩) |(refine ⟨_,_,.inl ⟨rfl,rfl⟩,o2,?_⟩) |refine u2 ?_ |fail)
       exact ⟨i+1,hil,(by dsimp only;omega),ax.to 0 rfl ⟨rfl,rfl,rfl,rfl,rfl,rfl,wD hk,bg (by simp),trivial⟩ (Nat.zero_le _) rfl rfl⟩
    ·have d3:decide ((i:Int) < ((p.map av).length:Int))=false:=decide_eq_false (by omega)
     have hie:i=p.length:=by omega
     subst hie
     rw [Bj]
     have hlt':=Ag (s:=s) (p:=p) (f:=b) (d:=D') hnl
     have hdn:kR s p b n (D'+1)=max 0 (iP s p b n D' - 1):=rfl
     have hwb:=Be hg p b n D'
     generalize iP s p b n D'=w at *
     cases hbr:Bc p b n (D'+1) with
     | true =>
      rw [hbr,if_pos rfl] at hlv
      have hv2:iP s p b n (D'+1)=g.full:=hlv.trans hful
      rw [hful] at hle
      generalize iP s p b n (D'+1)=v at *
      have d5:decide (v=g.full)=true:=decide_eq_true hv2
      have d5':(!decide (v=g.full))=false:=by rw [d5];rfl
      have d6:decide (g.full < v)=false:=decide_eq_false (by omega)
      repeat' (first |refine u1 ?_ |((with_reducible show RM.wpOp _ _ (.indexAddr _ _ _) _ _ _);refine ⟨aG g,⟨by omega,hnt⟩,rfl,?_⟩) |((with_reducible show RM.wpOp _ _ (.indexAddr _ _ _) _ _ _);refine ⟨eI v,⟨by omega,hlt⟩,rfl,?_⟩) |((with_reducible show RM.wpOp _ _ (.indexAddr _ _ _) _ _ _);refine ⟨eI w,⟨by omega,hlt'⟩,rfl,?_⟩) |refine u2 ?_ |fail)
      exact ⟨n+1,hnl,(by dsimp only;omega),ax.to 0 rfl ⟨rfl,rfl,rfl,rfl,rfl,bg (by simp),trivial⟩ (Nat.zero_le _) rfl rfl⟩
     | false =>
      rw [hbr,if_neg (by simp)] at hlv
      rw [hful] at hle
      rw [hdn] at hlv
      generalize iP s p b n (D'+1)=v at *
      have d5:decide (v=(max 0 (w - 1)))=true:=decide_eq_true hlv
      have d5':(!decide (v=(max 0 (w - 1))))=false:=by rw [d5];rfl
      have d6:decide (g.full < v)=false:=decide_eq_false (by omega)
      repeat' (first |refine u1 ?_ |((with_reducible show RM.wpOp _ _ (.indexAddr _ _ _) _ _ _);refine ⟨aG g,⟨by omega,hnt⟩,rfl,?_⟩) |((with_reducible show RM.wpOp _ _ (.indexAddr _ _ _) _ _ _);refine ⟨eI v,⟨by omega,hlt⟩,rfl,?_⟩) |((with_reducible show RM.wpOp _ _ (.indexAddr _ _ _) _ _ _);refine ⟨eI w,⟨by omega,hlt'⟩,rfl,?_⟩) |refine u2 ?_ |fail)
      exact ⟨n+1,hnl,(by dsimp only;omega),ax.to 0 rfl ⟨rfl,rfl,rfl,rfl,rfl,bg (by simp),trivial⟩ (Nat.zero_le _) rfl rfl⟩
   ·have d2:decide ((n:Int) < ((ints (dI s p b (D'+1))).length:Int))=false:=decide_eq_false (by omega)
    repeat' (first |refine u1 ?_ |((with_reducible show RM.wpOp _ _ (.indexAddr _ _ _) _ _ _);refine ⟨aG g0,⟨by omega,hn0⟩,rfl,?_⟩) |((with_reducible show ak _ _ _ _ _ _ _ _);refine af.call onm rfl rfl ?_) |((with_reducible show ak _ _ _ _ _ _ _ _);refine af.call aw rfl rfl ?_) |refine u2 ?_ |fail)
    exact ⟨[_],⟨Fz.deep rfl,trivial⟩,rfl⟩
 ·have hnil:dR s p f day=.fl (.slice none 0 0):=by unfold dR;rw [if_neg hE]
  rw [hnil] at o1
  have d1:(!decide (dF s p f day=0))=true:=by rw [decide_eq_false hE];rfl
  have z9:decide (((0:Nat):Int)=0)=true:=by decide
  have d2:decide ((dD s p).2=0)=false∨decide ((dD s p).2=0)=true:=by cases decide ((dD s p).2=0) <;> simp
  generalize dF s p f day=e at *
  refine af.body (fn:=Tryd.f12) rfl rfl rfl rfl ?_
  rcases d2 with d2|d2
  ·rw [d2] at o2
   refine ah (mu:=fun _=>false) ?_
   repeat' (first |((with_reducible show kL _ _ _ _ _);refine Fh ?_) |refine u1 ?_ |((with_reducible show ak _ _ _ _ _ _ _ _);refine af.call o1 rfl rfl ?_) |((with_reducible show ak _ _ _ _ _ _ _ _);refine af.call o2 rfl rfl ?_) |((with_reducible show ak _ _ _ _ _ _ _ _);refine af.call aw rfl rfl ?_) |refine u2 ?_ |fail)
   exact ⟨[_],⟨Fz.deep rfl,trivial⟩,rfl⟩
  ·rw [d2] at o2
   refine ah (mu:=fun _=>false) ?_
   repeat' (first |((with_reducible show kL _ _ _ _ _);refine Fh ?_) |refine u1 ?_ |((with_reducible show ak _ _ _ _ _ _ _ _);refine af.call o1 rfl rfl ?_) |((with_reducible show ak _ _ _ _ _ _ _ _);refine af.call o2 rfl rfl ?_) |((with_reducible show ak _ _ _ _ _ _ _ _);refine af.call aw rfl rfl ?_) |refine u2 ?_ |fail)
   exact ⟨[_],⟨Fz.deep rfl,trivial⟩,rfl⟩
end Go.Proofs.YtpeogffeoehboaaDoor
