/-
  Contracts of the program's functions and of the document's. Lemmas alone; their conditions stand in them.
-/
import Derived.Test.YtpeogffeoehboaaGreatDoorK8
import Derived.Test.YtpeogffeoehboaaGreatDoorK16
import Derived.Test.YtpeogffeoehboaaGreatDoorK17
open Go Go.RM
namespace Go.Proofs.YtpeogffeoehboaaGreatDoor
set_option maxRecDepth 100000
set_option maxHeartbeats 4000000
theorem Cd (one:Bool) (s:au) (hs:s.Ok) (p:List Order) (full:Bool) (hp:E7 p) (came:List Bool) (cf:Bool) (hcl:came.length≤maxLen) :
  Pu one 13 [.ag (ak s),.sl (p.map ay) full,.sl (came.map eB) cf] (.tp [aA (cO s p came).1,aA (cO s p came).2]):=by
 have o1:=zT one s hs p full hp
 have ec:((came.map eB).length:Int)=came.length:=by simp
 have ep:((p.map ay).length:Int)=p.length:=by simp
 have mc:came.length≤9223372036854775807:=Nat.le_trans hcl (by simp [maxLen])
 have mp:p.length≤9223372036854775807:=Nat.le_trans hp.len (by simp [maxLen])
 unfold cO
 by_cases c1:(cz s p).2=0
 ·rw [if_neg (by simpa using c1)]
  rw [c1] at o1
  have hpg:=jP c1
  have hg:=hpg.good
  have h8:=hpg.len
  have z0:decide ((0:Int)=0)=true:=rfl
  have z1:(!decide ((0:Int)=0))=false:=rfl
  by_cases c2:p.length < came.length
  ·rw [if_pos c2]
   have d1:decide (((p.map ay).length:Int) < ((came.map eB).length:Int))=true:=decide_eq_true (by omega)
   have z3:decide ((3:Int)=0)=false:=rfl
   have z4:(!decide ((3:Int)=0))=true:=rfl
   refine ah.body (fn:=Tryz.f13) rfl rfl rfl rfl ?_
   refine aa (mu:=fun _=>false) ?_
   repeat' (first |(refine RM.Cf rfl rfl rfl rfl ?_) |((with_reducible show ax _ _ _ _ _ _ _ _);refine ah.call o1 rfl rfl ?_) |refine u1 ?_ |refine u2 ?_ |fail)
   exact ⟨[_,_],⟨Fz.deep rfl,Fz.deep rfl,trivial⟩,rfl⟩
  ·rw [if_neg c2]
   have d1:decide (((p.map ay).length:Int) < ((came.map eB).length:Int))=false:=decide_eq_false (by omega)
   have hN:came.length≤p.length:=by omega
   obtain ⟨⟨s1,s2⟩,s3⟩:=vO hg (p:=p) (known:=came.length) (f:=bE came) (m:=p.length - came.length)
   have h0:=s3 0 (Nat.zero_le _)
   have oh0:Pu one 37 [.ag (ak s),.sl (p.map ay) full,.sl (came.map eB) cf,aA 0] (BB (fy s p came.length (bE came) ((0:Nat):Int))):=Cc one hpg full came cf (most:=0) (by omega) hN
   have ohm:=fun m (h:m≤8)=>Cc one hpg full came cf (most:=m) h hN
   generalize mB s p came.length (bE came) (p.length - came.length)=S at *
   by_cases c3:S < 0
   ·rw [if_pos c3]
    rw [h0,decide_eq_false (by omega)] at oh0
    have z3:decide ((9:Int)=0)=false:=rfl
    have z4:(!decide ((9:Int)=0))=true:=rfl
    refine ah.body (fn:=Tryz.f13) rfl rfl rfl rfl ?_
    refine aa (mu:=fun _=>false) ?_
    repeat' (first |(refine RM.Cf rfl rfl rfl rfl ?_) |((with_reducible show ax _ _ _ _ _ _ _ _);refine ah.call o1 rfl rfl ?_) |((with_reducible show ax _ _ _ _ _ _ _ _);refine ah.call oh0 rfl rfl ?_) |refine u1 ?_ |refine u2 ?_ |fail)
    exact ⟨[_,_],⟨Fz.deep rfl,Fz.deep rfl,trivial⟩,rfl⟩
   ·rw [if_neg c3]
    rw [h0,decide_eq_true (by omega)] at oh0
    refine ah.body (fn:=Tryz.f13) rfl rfl rfl rfl ?_
    refine RM.cv (mu:=fun _=>false) ?_
    repeat' (first |(refine RM.Cf rfl rfl rfl rfl ?_) |refine u1 ?_ |refine u2 ?_ |fail)
    refine RM.cv (mu:=fun _=>false) ?_
    repeat' (first |((with_reducible show ax _ _ _ _ _ _ _ _);refine ah.call o1 rfl rfl ?_) |refine u1 ?_ |refine u2 ?_ |fail)
    refine RM.cv (mu:=fun _=>false) ?_
    repeat' (first |refine u1 ?_ |refine u2 ?_ |fail)
    refine RM.cv (mu:=fun _=>false) ?_
    repeat' (first |((with_reducible show ax _ _ _ _ _ _ _ _);refine ah.call oh0 rfl rfl ?_) |refine u1 ?_ |refine u2 ?_ |fail)
    refine RM.cv (mu:=fun _=>false) ?_
    repeat' (first |refine u1 ?_ |refine u2 ?_ |fail)
    refine RM.cv (mu:=fun _=>false) ?_
    repeat' (first |refine u1 ?_ |refine u2 ?_ |fail)
    refine aB.seq ?_
    refine aB.block ?_
    refine aB.aJ (ai.to (l:=[(1,.sl (p.map ay) full),(2,.sl (came.map eB) cf),(3,.pt (ak s) 0),(10,aA (0:Nat))]) (hp:=[]) 0 rfl ⟨rfl,rfl,rfl,rfl,trivial⟩ (Nat.zero_le _) rfl rfl) ?_
    refine aB.loop (fun m:Nat=>(m:Int)≤S) (fun m=>⟨aS [(1,.sl (p.map ay) full),(2,.sl (came.map eB) cf),(3,.pt (ak s) 0),(10,aA (m:Nat))],[],bJ.none,false,0⟩) (fun m=>p.length - came.length - m) ?_ 0 (by omega)
    intro m hm
    have hmp:m≤p.length - came.length:=by omega
    have e1:((p.length - came.length:Nat):Int)=(p.length:Int) - (came.length:Int):=by omega
    by_cases c4:m < p.length - came.length
    ·have d4:decide ((m:Int) < ((p.map ay).length:Int) - ((came.map eB).length:Int))=true:=decide_eq_true (by omega)
     have om:=ohm (m+1) (by omega)
     rw [s3 (m+1) (by omega),show ((m+1:Nat):Int)=(m:Int)+1 by omega] at om
     by_cases c5:(m:Int)+1≤S
     ·rw [decide_eq_true c5] at om
      refine RM.cv (mu:=fun _=>false) ?_
      repeat' (first |((with_reducible show ax _ _ _ _ _ _ _ _);refine ah.call om rfl rfl ?_) |refine u1 ?_ |refine u2 ?_ |fail)
      refine aa (mu:=fun _=>false) ?_
      repeat' (first |refine u1 ?_ |refine u2 ?_ |fail)
      exact ⟨m+1,(by dsimp only;omega),(by dsimp only;omega),ai.to 0 rfl ⟨rfl,rfl,rfl,aV (by simp),trivial⟩ (Nat.zero_le _) rfl rfl⟩
     ·rw [decide_eq_false c5] at om
      obtain rfl:S=(m:Int):=by omega
      refine aa (mu:=fun _=>false) ?_
      repeat' (first |((with_reducible show ax _ _ _ _ _ _ _ _);refine ah.call om rfl rfl ?_) |refine u1 ?_ |refine u2 ?_ |fail)
      refine aa (mu:=fun _=>false) ?_
      repeat' (first |refine u1 ?_ |refine u2 ?_ |fail)
      exact ⟨[_,_],⟨Fz.deep rfl,Fz.deep rfl,trivial⟩,rfl⟩
    ·have d4:decide ((m:Int) < ((p.map ay).length:Int) - ((came.map eB).length:Int))=false:=decide_eq_false (by omega)
     obtain rfl:S=(m:Int):=by omega
     refine aa (mu:=fun _=>false) ?_
     repeat' (first |refine u1 ?_ |refine u2 ?_ |fail)
     refine aa (mu:=fun _=>false) ?_
     repeat' (first |refine u1 ?_ |refine u2 ?_ |fail)
     exact ⟨[_,_],⟨Fz.deep rfl,Fz.deep rfl,trivial⟩,rfl⟩
 ·rw [if_pos (by simpa using c1)]
  have d0:(!decide ((cz s p).2=0))=true:=by rw [decide_eq_false c1];rfl
  have d1:decide ((cz s p).2=0)=false:=decide_eq_false c1
  generalize (cz s p).1=a at *
  generalize (cz s p).2=b at *
  refine ah.body (fn:=Tryz.f13) rfl rfl rfl rfl ?_
  refine aa (mu:=fun _=>false) ?_
  repeat' (first |(refine RM.Cf rfl rfl rfl rfl ?_) |((with_reducible show ax _ _ _ _ _ _ _ _);refine ah.call o1 rfl rfl ?_) |refine u1 ?_ |refine u2 ?_ |fail)
  exact ⟨[_,_],⟨Fz.deep rfl,Fz.deep rfl,trivial⟩,rfl⟩
theorem JT (one:Bool) (s:au) (hs:s.Ok) (p:List Order) (full:Bool) (hp:E7 p):Pu one 11 [.ag (ak s),.sl (p.map ay) full] (.tp [aA (cO s p []).1,aA (cO s p []).2]):=by
 have o1:Pu one 13 [.ag (ak s),.sl (p.map ay) full,.fl (.slice none 0 0)] (.tp [aA (cO s p []).1,aA (cO s p []).2]):=oA (a:=[.ag (ak s),.sl (p.map ay) full]) (b:=false) (Cd one s hs p full hp [] false (Nat.zero_le _))
 refine ah.body (fn:=Tryz.f11) rfl rfl rfl rfl ?_
 refine aa (mu:=fun _=>false) ?_
 repeat' (first |(refine RM.Cf rfl rfl rfl rfl ?_) |((with_reducible show ax _ _ _ _ _ _ _ _);refine ah.call o1 rfl rfl ?_) |refine u1 ?_ |refine u2 ?_ |fail)
 exact ⟨[_,_],⟨Fz.deep rfl,Fz.deep rfl,trivial⟩,rfl⟩
theorem sC {l:List Int} (h:l.length≤maxLen):Pu false 7 [.sl (ints l) false,.sl (ints l) false] (BB true):=by
 have:=NU false l l false false h h
 rw [decide_eq_true rfl] at this
 exact this
theorem Fv:Pu false 7 [.fl (.slice none 0 0),.fl (.slice none 0 0)] (BB true):=by
 have h:=sC (l:=[]) (Nat.zero_le _)
 have h1:Pu false 7 [.fl (.slice none 0 0),.sl [] false] (BB true):=oA (a:=[]) (c:=[.sl [] false]) (b:=false) h
 exact oA (a:=[.fl (.slice none 0 0)]) (c:=[]) (b:=false) h1
theorem Fw (s:au) (hs:s.Ok) (p:List Order) (full:Bool) (hp:E7 p) (came:List Bool) (hcl:came.length≤maxLen):Pu false 3 [.ag (ak s),.sl (p.map ay) full,.sl (came.map eB) false] (BB true):=by
 have o1:=Dp false s hs p full hp
 have o2:=Ft false s hs p full hp
 have o3:=KN false s hs p full hp
 have o4:=JS false s hs p full hp
 have o5:=KL false s hs p full hp
 have o6:=JT false s hs p full hp
 have o7:=Eh false s hs p full hp came false hcl
 have o8:=Cd false s hs p full hp came false hcl
 have on:=Fv
 have aw:=Qn false
 have z0:(!decide ((0:Int)=0))=false:=rfl
 have z4:(!decide ((4:Int)=4))=false:=rfl
 have e1:(!decide ((cO s p []).1=(cO s p []).1))=false:=by rw [decide_eq_true rfl];rfl
 have e2:(!decide ((cO s p []).2=(cO s p []).2))=false:=by rw [decide_eq_true rfl];rfl
 have e3:decide ((cO s p came).1=(cO s p came).1)=true:=decide_eq_true rfl
 have e4:decide ((cO s p came).2=(cO s p came).2)=true:=decide_eq_true rfl
 generalize (cO s p []).1=x1 at *
 generalize (cO s p []).2=x2 at *
 generalize (cO s p came).1=x3 at *
 generalize (cO s p came).2=x4 at *
 unfold iz at o1 o2
 unfold vR vQ at o3 o4
 by_cases c1:(cz s p).2=0
 ·rw [if_neg (by simpa using c1)] at o1 o2
  rw [if_pos c1,c1] at o3 o4
  have hg:=(jP c1).good
  have hw:=sC (l:=mC s p (jY s p)) (by
   have h3:=hg.len
   have:(mC s p (jY s p)).length=s.needs.length:=by simp [mC]
   rw [this]
   exact Nat.le_trans h3.2 (by decide))
  generalize mC s p (jY s p)=W at *
  cases hb:lM s p (jY s p) with
  | none =>
   rw [hb] at o1 o2
   have o1:Pu false 5 [.ag (ak s),.sl (p.map ay) full] (.tp [.fl (.slice none 0 0),aA 0,aA 0,aA 4]):=o1
   have o2:Pu false 6 [.ag (ak s),.sl (p.map ay) full] (.tp [.fl (.slice none 0 0),aA 0,aA 0,aA 4]):=o2
   refine ah.body (fn:=Tryz.f3) rfl rfl rfl rfl ?_
   refine aa (mu:=fun _=>false) ?_
   repeat' (first |(refine RM.Cf rfl rfl rfl rfl ?_) |((with_reducible show ax _ _ _ _ _ _ _ _);refine ah.call o1 rfl rfl ?_) |((with_reducible show ax _ _ _ _ _ _ _ _);refine ah.call o2 rfl rfl ?_) |((with_reducible show ax _ _ _ _ _ _ _ _);refine ah.call o3 rfl rfl ?_) |((with_reducible show ax _ _ _ _ _ _ _ _);refine ah.call o4 rfl rfl ?_) |((with_reducible show ax _ _ _ _ _ _ _ _);refine ah.call o5 rfl rfl ?_) |((with_reducible show ax _ _ _ _ _ _ _ _);refine ah.call o6 rfl rfl ?_) |((with_reducible show ax _ _ _ _ _ _ _ _);refine ah.call o7 rfl rfl ?_) |((with_reducible show ax _ _ _ _ _ _ _ _);refine ah.call o8 rfl rfl ?_) |((with_reducible show ax _ _ _ _ _ _ _ _);refine ah.call on rfl rfl ?_) |((with_reducible show ax _ _ _ _ _ _ _ _);refine ah.call hw rfl rfl ?_) |((with_reducible show ax _ _ _ _ _ _ _ _);refine ah.call aw rfl rfl ?_) |refine u1 ?_ |refine u2 ?_ |fail)
   exact ⟨[_],⟨Fz.deep rfl,trivial⟩,rfl⟩
  | some b =>
   rw [hb] at o1 o2
   have o1:Pu false 5 [.ag (ak s),.sl (p.map ay) full] (.tp [.sl (ints (bp b.f)) false,aA b.day,aA b.need,aA 0]):=o1
   have o2:Pu false 6 [.ag (ak s),.sl (p.map ay) full] (.tp [.sl (ints (bp b.f)) false,aA b.day,aA b.need,aA 0]):=o2
   have hl:=sC (l:=bp b.f) (Nat.le_trans (oC b.f) (by decide))
   have b1:(!decide (b.day=b.day))=false:=by rw [decide_eq_true rfl];rfl
   have b2:(!decide (b.need=b.need))=false:=by rw [decide_eq_true rfl];rfl
   generalize bp b.f=B at *
   generalize b.day=d at *
   generalize b.need=n at *
   refine ah.body (fn:=Tryz.f3) rfl rfl rfl rfl ?_
   refine aa (mu:=fun _=>false) ?_
   repeat' (first |(refine RM.Cf rfl rfl rfl rfl ?_) |((with_reducible show ax _ _ _ _ _ _ _ _);refine ah.call o1 rfl rfl ?_) |((with_reducible show ax _ _ _ _ _ _ _ _);refine ah.call o2 rfl rfl ?_) |((with_reducible show ax _ _ _ _ _ _ _ _);refine ah.call o3 rfl rfl ?_) |((with_reducible show ax _ _ _ _ _ _ _ _);refine ah.call o4 rfl rfl ?_) |((with_reducible show ax _ _ _ _ _ _ _ _);refine ah.call o5 rfl rfl ?_) |((with_reducible show ax _ _ _ _ _ _ _ _);refine ah.call o6 rfl rfl ?_) |((with_reducible show ax _ _ _ _ _ _ _ _);refine ah.call o7 rfl rfl ?_) |((with_reducible show ax _ _ _ _ _ _ _ _);refine ah.call o8 rfl rfl ?_) |((with_reducible show ax _ _ _ _ _ _ _ _);refine ah.call hl rfl rfl ?_) |((with_reducible show ax _ _ _ _ _ _ _ _);refine ah.call hw rfl rfl ?_) |((with_reducible show ax _ _ _ _ _ _ _ _);refine ah.call aw rfl rfl ?_) |refine u1 ?_ |refine u2 ?_ |fail)
   exact ⟨[_],⟨Fz.deep rfl,trivial⟩,rfl⟩
 ·rw [if_pos (by simpa using c1)] at o1 o2
  rw [if_neg c1] at o3 o4
  have b1:(!decide ((cz s p).2=(cz s p).2))=false:=by rw [decide_eq_true rfl];rfl
  generalize (cz s p).2=e at *
  refine ah.body (fn:=Tryz.f3) rfl rfl rfl rfl ?_
  refine aa (mu:=fun _=>false) ?_
  repeat' (first |(refine RM.Cf rfl rfl rfl rfl ?_) |((with_reducible show ax _ _ _ _ _ _ _ _);refine ah.call o1 rfl rfl ?_) |((with_reducible show ax _ _ _ _ _ _ _ _);refine ah.call o2 rfl rfl ?_) |((with_reducible show ax _ _ _ _ _ _ _ _);refine ah.call o3 rfl rfl ?_) |((with_reducible show ax _ _ _ _ _ _ _ _);refine ah.call o4 rfl rfl ?_) |((with_reducible show ax _ _ _ _ _ _ _ _);refine ah.call o5 rfl rfl ?_) |((with_reducible show ax _ _ _ _ _ _ _ _);refine ah.call o6 rfl rfl ?_) |((with_reducible show ax _ _ _ _ _ _ _ _);refine ah.call o7 rfl rfl ?_) |((with_reducible show ax _ _ _ _ _ _ _ _);refine ah.call o8 rfl rfl ?_) |((with_reducible show ax _ _ _ _ _ _ _ _);refine ah.call on rfl rfl ?_) |((with_reducible show ax _ _ _ _ _ _ _ _);refine ah.call aw rfl rfl ?_) |refine u1 ?_ |refine u2 ?_ |fail)
  exact ⟨[_],⟨Fz.deep rfl,trivial⟩,rfl⟩
end Go.Proofs.YtpeogffeoehboaaGreatDoor
