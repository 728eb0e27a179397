/-
  Contracts of the program's functions and of the document's. Lemmas alone; their conditions stand in them.
-/
import Derived.Test.YtpeogffeoehboaaGreatDoorA3
import Derived.Test.YtpeogffeoehboaaGreatDoorK9
open Go Go.RM
namespace Go.Proofs.YtpeogffeoehboaaGreatDoor
set_option maxRecDepth 100000
set_option maxHeartbeats 4000000
def wD (s:au) (p:List Order) (f n:Nat) (w:Int) (d:Nat):Int:=(List.range d).foldl (fun w d=>min w (gK s p f n d)) w
theorem Ei {s:au} {p:List Order} {f n:Nat} {w:Int} {d:Nat}:wD s p f n w (d+1)=min (wD s p f n w d) (gK s p f n d):=by
 unfold wD
 rw [List.range_succ,List.foldl_append]
 rfl
def wL (s:au) (p:List Order) (n:Nat) (L:List Nat):Int:=L.foldl (fun w f=>wD s p f n w s.days.toNat) (dP s n)
theorem Ej {s:au} {p:List Order} {n:Nat} {L:List Nat} {i y:Nat} (h:L[i]?=some y):wL s p n (L.take (i+1))=wD s p y n (wL s p n (L.take i)) s.days.toNat:=by
 unfold wL
 rw [List.take_add_one,h,List.foldl_append]
 rfl
def mC (s:au) (p:List Order) (L:List Nat):List Int:=(List.range s.needs.length).map fun n=>wL s p n L
theorem Jp {s:au} (hg:Good s) (p:List Order) (L:List Nat):(ints (mC s p L)).length=(s.needs.map aH).length∧(∀ el ∈ ints (mC s p L),el.length=1) ∧
  (ints (mC s p L)).flatten=((gy fun n=>wL s p n L).drop 0).take ((s.needs.map aH).length * 1):=by
 have h:=hg.len
 refine ⟨by rw [List.length_map,List.length_map];simp [mC],fun el hel=>by obtain ⟨x,_,rfl⟩:=List.mem_map.1 hel;rfl,?_⟩
 rw [List.length_map]
 unfold mC
 obtain e|e|e:s.needs.length=1∨s.needs.length=2∨s.needs.length=3:=by omega
 all_goals rw [e];rfl
def jY (s:au) (p:List Order):List Nat:=pN s p.length 0 0 s.fail
def vQ (s:au) (p:List Order):Int:=(cz s p).2
def vR (s:au) (p:List Order):AV:=if (cz s p).2=0 then .sl (ints (mC s p (jY s p))) false else .fl (.slice none 0 0)
theorem KN (one:Bool) (s:au) (hs:s.Ok) (p:List Order) (full:Bool) (hp:E7 p):Pu one 8 [.ag (ak s),.sl (p.map ay) full] (.tp [vR s p,aA (vQ s p)]):=by
 have o1:=Dc one s hs p full hp
 unfold vR vQ
 by_cases c1:(cz s p).2=0
 ·have hpg:=jP c1
  have hg:=hpg.good
  have hlen:=hg.len
  have hfail:=hg.fail
  have p8:=hpg.len
  rw [if_pos c1,c1]
  rw [c1] at o1
  generalize (cz s p).1=a at *
  have ep:((p.map ay).length:Int)=p.length:=by simp
  have eg:((s.needs.map aH).length:Int)=s.needs.length:=by simp
  obtain ⟨nn,hnn⟩:∃ n:Int,n=s.needs.length:=⟨_,rfl⟩
  have o2:Pu one 21 [.ag (ak s),aA ((p.map ay).length:Int),aA 0,fP 0,aA s.fail] (Dg s (p.length:Nat) ((0:Nat):Int) s.fail 0):=by
   rw [ep];exact r0 one s _ _ _ _
  have hgen:=sg one hg p.length 0 0 s.fail p8 (Nat.zero_le _) (by decide) (by omega)
  have hz1:(!decide ((0:Int)=0))=false:=by decide
  obtain ⟨L,hL⟩:∃ L,L=jY s p:=⟨_,rfl⟩
  have hgen:zA TT TB one (Dg s (p.length:Nat) ((0:Nat):Int) s.fail 0) (L.map fun x=>[fP x]):=by rw [hL];exact hgen
  have hlt:∀ y ∈ L,y < 256:=fun y hy=>by
   rw [hL] at hy
   have e:s.fail=((s.fail.toNat:Nat):Int):=by omega
   unfold jY at hy
   rw [e] at hy
   exact Nat.lt_of_lt_of_le (zV hg (Nat.zero_le _) (by decide) hy) (show 2 ^ p.length≤2 ^ 8 from Nat.pow_le_pow_right (by decide) p8)
  rw [←hL]
  clear hL
  refine ah.body (fn:=Tryz.f8) rfl rfl rfl rfl ?_
  refine RM.cv (mu:=fun _=>false) ?_
  repeat' (first |refine u1 ?_ |refine u2 ?_ |fail)
  refine RM.cv (mu:=fun _=>false) ?_
  repeat' (first |refine u1 ?_ |((with_reducible show ax _ _ _ _ _ _ _ _);refine ah.call o1 rfl rfl ?_) |refine u2 ?_ |fail)
  refine RM.cv (mu:=fun _=>false) ?_
  repeat' (first |refine u1 ?_ |refine u2 ?_ |fail)
  refine RM.cv (mu:=fun _=>false) ?_
  repeat' (first |refine u1 ?_ |refine u2 ?_ |fail)
  refine RM.cutAt (st':=⟨aS [(2,.pt (ak s) 0),(3,.pt [.sl (p.map ay) full] 0),(8,.ptr 0 0 0),(9,.ptr 1 0 0)],[.cells (ak s) 0 0,.cells (gy fun n=>wL s p n (L.take 0)) 0 0],bJ.none,false,0⟩) ?_ ?_
  ·refine RM.cv (mu:=fun _=>false) ?_
   repeat' (first |refine u1 ?_ |refine u2 ?_ |fail)
   refine aB.block ?_
   refine aB.aJ (ai.to (l:=[(2,.pt (ak s) 0),(3,.pt [.sl (p.map ay) full] 0),(8,.ptr 0 0 0),(9,.ptr 1 0 0),(28,.sl (s.needs.map aH) false),(29,aA nn),(30,aA (0:Nat))]) (hp:=[.cells (ak s) 0 0,.cells (gy fun n=>if n < 0 then dP s n else 0) 0 0]) 2 rfl ⟨rfl,rfl,rfl,rfl,rfl,aV (by rw [hnn];exact eg),rfl,trivial⟩ (Nat.zero_le _) rfl rfl) ?_
   refine aB.loop (fun k:Nat=>k≤s.needs.length) (fun k=>⟨aS [(2,.pt (ak s) 0),(3,.pt [.sl (p.map ay) full] 0),(8,.ptr 0 0 0),(9,.ptr 1 0 0),(28,.sl (s.needs.map aH) false),(29,aA nn),(30,aA (k:Nat))],[.cells (ak s) 0 0,.cells (gy fun n=>if n < k then dP s n else 0) 0 0],bJ.none,false,0⟩) (fun k=>s.needs.length - k) ?_ 0 (Nat.zero_le _)
   intro k hk
   by_cases hkl:k < s.needs.length
   ·have d1:decide ((k:Int) < nn)=true:=decide_eq_true (by omega)
    have hat:(s.needs.map aH)[((k:Nat):Int).toNat]?=some (aH s.needs[k]):=bl hkl
    have hk3:k < 3:=by omega
    have hln:=qN (fun n=>if n < k then dP s n else 0) hk3
    have hst:=nF (c:=fun n=>if n < k then dP s n else 0) (c':=fun n=>if n < k+1 then dP s n else 0) (v:=s.needs[k].full) hk3 (fun n hn=>by
     by_cases e:n=k
     ·rw [if_pos e,if_pos (by omega),e,(zS hkl).2]
     ·rw [if_neg e]
      by_cases e2:n < k
      ·rw [if_pos e2,if_pos (by omega)]
      ·rw [if_neg e2,if_neg (by omega)])
    generalize s.needs[k]=g at *
    refine aa (mu:=fun _=>false) ?_
    repeat' (first |((with_reducible show cK _ _ _ _ _ _);refine RM.NJ rfl rfl rfl rfl rfl rfl hln ?_) |refine u1 ?_ |((with_reducible show RM.wpOp _ _ (.indexAddr _ _ _) _ _ _);refine ⟨aH g,⟨by omega,hat⟩,rfl,?_⟩) |refine u2 ?_ |fail)
    exact ⟨k+1,hkl,(by dsimp only;omega),ai.to 2 (by dsimp only;rw [hst];rfl) ⟨rfl,rfl,rfl,rfl,rfl,rfl,aV (by simp),trivial⟩ (Nat.zero_le _) rfl rfl⟩
   ·have d1:decide ((k:Int) < nn)=false:=decide_eq_false (by omega)
    have hall:(gy fun n=>if n < k then dP s n else 0)=gy fun n=>wL s p n (L.take 0):=dF fun n _=>by
     show _=dP s n
     by_cases e:n < k
     ·rw [if_pos e]
     ·rw [if_neg e]
      unfold dP
      rw [List.getElem?_eq_none (by omega)]
    rw [hall]
    refine aa (mu:=fun _=>false) ?_
    repeat' (first |refine u1 ?_ |refine u2 ?_ |fail)
    exact .is (ai.to 2 rfl ⟨rfl,rfl,rfl,rfl,trivial⟩ (Nat.zero_le _) rfl rfl)
  ·refine aB.seq ?_
   refine RM.cv (mu:=fun _=>false) ?_
   repeat' (first |refine u1 ?_ |((with_reducible show ax _ _ _ _ _ _ _ _);refine ah.call o2 rfl rfl ?_) |refine u2 ?_ |fail)
   refine aB.block ?_
   refine aB.range (fun i=>[.cells (ak s) 0 0,.cells (gy fun n=>wL s p n (L.take i)) 0 0]) (fun _=>bJ.none) (fun _=>True) rfl hgen rfl rfl trivial (fun i x hx _=>?_) (fun _=>?_)
   ·obtain ⟨y,hy,rfl⟩:∃ y,L[i]?=some y∧x=[fP y]:=by
     rw [List.getElem?_map,Option.map_eq_some_iff] at hx
     obtain ⟨y,h1,h2⟩:=hx
     exact ⟨y,h1,h2.symm⟩
    have hy256:=hlt y (List.mem_of_getElem? hy)
    have hnx:(gy fun n=>wL s p n (L.take (i+1)))=gy fun n=>wD s p y n (wL s p n (L.take i)) s.days.toNat:=dF fun n _=>Ej hy
    have om:=vK one s p full y
    have hgm:=vL one hpg full y (by omega)
    refine ⟨rfl,?_⟩
    rw [hnx]
    refine aa (mu:=fun _=>false) ?_
    repeat' (first |refine u1 ?_ |refine u2 ?_ |fail)
    refine aB.block ?_
    refine RM.cv (mu:=fun _=>false) ?_
    repeat' (first |refine u1 ?_ |((with_reducible show ax _ _ _ _ _ _ _ _);refine ah.call om rfl rfl ?_) |refine u2 ?_ |fail)
    refine aB.block ?_
    refine aB.range (fun d=>[.cells (ak s) 0 0,.cells (gy fun n=>wD s p y n (wL s p n (L.take i)) d) 0 0]) (fun _=>bJ.none) (fun _=>True) rfl hgm rfl rfl trivial (fun d x hx _=>?_) (fun _=>?_)
    ·obtain ⟨hd,rfl⟩:=vJ hx
     have hnd:(gy fun n=>wD s p y n (wL s p n (L.take i)) (d+1))=gy fun n=>min (wD s p y n (wL s p n (L.take i)) d) (gK s p y n d):=dF fun n _=>Ei
     refine ⟨rfl,?_⟩
     rw [hnd]
     refine aa (mu:=fun _=>false) ?_
     repeat' (first |refine u1 ?_ |refine u2 ?_ |fail)
     refine aB.block ?_
     have heq:=fun x y'=>Fb (x:=x) (y:=y') (fun n=>gK s p y n d) (fun n=>wD s p y n (wL s p n (L.take i)) d)
     cases hq:(decide (gK s p y 0 d=wD s p y 0 (wL s p 0 (L.take i)) d) && (decide (gK s p y 1 d=wD s p y 1 (wL s p 1 (L.take i)) d) && decide (gK s p y 2 d=wD s p y 2 (wL s p 2 (L.take i)) d))) with
     | true =>
      simp only [hq] at heq
      simp only [Bool.and_eq_true,decide_eq_true_eq] at hq
      have hsame:(gy fun n=>wD s p y n (wL s p n (L.take i)) d)=gy fun n=>min (wD s p y n (wL s p n (L.take i)) d) (gK s p y n d):=by
       unfold gy
       dsimp only
       rw [hq.1,hq.2.1,hq.2.2,Int.min_self,Int.min_self,Int.min_self]
      refine aa (mu:=fun _=>false) ?_
      repeat' (first |(refine ⟨_,_,rfl,rfl,_,heq _ _,rfl,?_⟩) |refine u1 ?_ |refine u2 ?_ |fail)
      exact ⟨_,ai.to (l:=[]) 2 (by dsimp only;rw [←hsame];rfl) trivial (Nat.le_refl _) rfl rfl⟩
     | false =>
      simp only [hq] at heq
      clear hq
      refine RM.cv (mu:=fun _=>false) ?_
      repeat' (first |(refine ⟨_,_,rfl,rfl,_,heq _ _,rfl,?_⟩) |refine u1 ?_ |refine u2 ?_ |fail)
      refine RM.cv (mu:=fun _=>false) ?_
      repeat' (first |refine u1 ?_ |refine u2 ?_ |fail)
      refine aB.aJ (ai.to (l:=[(2,.pt (ak s) 0),(3,.pt [.sl (p.map ay) full] 0),(8,.ptr 0 0 0),(9,.ptr 1 0 0),(14,.ptr 2 0 0),(56,aA (0:Nat))]) (hp:=[.cells (ak s) 0 0,.cells (gy fun n=>if n < 0 then min (wD s p y n (wL s p n (L.take i)) d) (gK s p y n d) else wD s p y n (wL s p n (L.take i)) d) 0 0,.cells (gy fun n=>gK s p y n d) 0 0]) 3 rfl ⟨rfl,rfl,rfl,rfl,rfl,rfl,trivial⟩ (Nat.le_of_ble_eq_true rfl) rfl rfl) ?_
      refine aB.block ?_
      refine aB.loop (fun k:Nat=>k≤3) (fun k=>⟨aS [(2,.pt (ak s) 0),(3,.pt [.sl (p.map ay) full] 0),(8,.ptr 0 0 0),(9,.ptr 1 0 0),(14,.ptr 2 0 0),(56,aA (k:Nat))],[.cells (ak s) 0 0,.cells (gy fun n=>if n < k then min (wD s p y n (wL s p n (L.take i)) d) (gK s p y n d) else wD s p y n (wL s p n (L.take i)) d) 0 0,.cells (gy fun n=>gK s p y n d) 0 0],bJ.none,true,2⟩) (fun k=>3 - k) ?_ 0 (Nat.zero_le _)
      intro k hk
      by_cases hk3:k < 3
      ·have d1:decide ((k:Int) < 3)=true:=decide_eq_true (by omega)
       have hat1:(gy fun n=>if n < k then min (wD s p y n (wL s p n (L.take i)) d) (gK s p y n d) else wD s p y n (wL s p n (L.take i)) d)[0+((k:Nat):Int).toNat * 1]?=some (aA (wD s p y k (wL s p k (L.take i)) d)):=by
        rw [zO _ hk3,if_neg (Nat.lt_irrefl _)]
       have hat2:=zO (fun n=>gK s p y n d) hk3
       have hln:=qN (fun n=>if n < k then min (wD s p y n (wL s p n (L.take i)) d) (gK s p y n d) else wD s p y n (wL s p n (L.take i)) d) hk3
       have hst:=nF (c:=fun n=>if n < k then min (wD s p y n (wL s p n (L.take i)) d) (gK s p y n d) else wD s p y n (wL s p n (L.take i)) d) (c':=fun n=>if n < k+1 then min (wD s p y n (wL s p n (L.take i)) d) (gK s p y n d) else wD s p y n (wL s p n (L.take i)) d) (v:=min (wD s p y k (wL s p k (L.take i)) d) (gK s p y k d)) hk3 (fun n hn=>by
        by_cases e:n=k
        ·subst e
         rw [if_pos rfl,if_pos (by omega)]
        ·rw [if_neg e]
         by_cases e2:n < k
         ·rw [if_pos e2,if_pos (by omega)]
         ·rw [if_neg e2,if_neg (by omega)])
       refine aa (mu:=fun _=>false) ?_
       repeat' (first |((with_reducible show RM.wpOp _ _ (.load _ _) _ _ _);refine RM.Ot rfl rfl rfl hat1 ?_) |((with_reducible show RM.wpOp _ _ (.load _ _) _ _ _);refine RM.Ot rfl rfl rfl hat2 ?_) |((with_reducible show cK _ _ _ _ _ _);refine RM.NJ rfl rfl rfl rfl rfl rfl hln ?_) |refine u1 ?_ |refine u2 ?_ |fail)
       exact ⟨k+1,hk3,(by dsimp only;omega),ai.to 3 (by dsimp only;rw [hst];rfl) ⟨rfl,rfl,rfl,rfl,rfl,aV (by simp),trivial⟩ (Nat.le_of_ble_eq_true rfl) rfl rfl⟩
      ·have d1:decide ((k:Int) < 3)=false:=decide_eq_false (by omega)
       have hall:(gy fun n=>if n < k then min (wD s p y n (wL s p n (L.take i)) d) (gK s p y n d) else wD s p y n (wL s p n (L.take i)) d)=gy fun n=>min (wD s p y n (wL s p n (L.take i)) d) (gK s p y n d):=dF fun n hn=>if_pos (by omega)
       rw [hall]
       refine aa (mu:=fun _=>false) ?_
       repeat' (first |refine u1 ?_ |refine u2 ?_ |fail)
       exact ⟨_,ai.to (l:=[]) 2 rfl trivial (Nat.le_refl _) rfl rfl⟩
    ·rw [oy]
     exact And.intro trivial ⟨_,ai.to (l:=[]) 2 rfl trivial (Nat.le_refl _) rfl rfl⟩
   ·have htl:L.take (L.map fun x=>[fP x]).length=L:=List.take_of_length_le (by rw [List.length_map];exact Nat.le_refl _)
    rw [htl]
    clear htl
    repeat' (first |refine u1 ?_ |refine u2 ?_ |fail)
    have hcut:=Jp hg p L
    have hcb:(s.needs.map aH).length≤3∧0+(s.needs.map aH).length * 1≤(gy fun n=>wL s p n L).length:=by
     rw [List.length_map]
     exact ⟨hlen.2,by simpa using hlen.2⟩
    have hwl:(mC s p L).length=s.needs.length:=by simp [mC]
    have hne:mC s p L ≠ []:=fun e=>by
     rw [e] at hwl
     simp at hwl
     omega
    have hcl:=KI one (mC s p L) (Nat.beq (s.needs.map aH).length 3) hne (by omega)
    refine aB.aJ (ai.giveUp 1 (l:=[(2,.pt (ak s) 0),(9,.pt (gy fun n=>wL s p n L) 0)]) (hp:=[.cells (ak s) 0 0,.gone]) rfl (Nat.zero_le _) rfl ⟨.same rfl,.ptr,trivial⟩ rfl rfl) ?_
    refine aa (mu:=fun _=>false) ?_
    repeat' (first |(refine RM.Qm rfl rfl rfl hcb (by decide) hcut ?_) |refine u1 ?_ |((with_reducible show ax _ _ _ _ _ _ _ _);refine ah.call hcl rfl rfl ?_) |refine u2 ?_ |fail)
    exact ⟨[_,_],⟨Fz.deep rfl,Fz.deep rfl,trivial⟩,rfl⟩
 ·rw [if_neg c1]
  generalize (cz s p).1=a at *
  generalize (cz s p).2=b at *
  have d1:(!decide (b=0))=true:=by rw [decide_eq_false c1];rfl
  refine ah.body (fn:=Tryz.f8) rfl rfl rfl rfl ?_
  refine aa (mu:=fun _=>false) ?_
  repeat' (first |refine u1 ?_ |((with_reducible show ax _ _ _ _ _ _ _ _);refine ah.call o1 rfl rfl ?_) |refine u2 ?_ |fail)
  exact ⟨[_,_],⟨Fz.deep rfl,Fz.deep rfl,trivial⟩,rfl⟩
theorem Jq (k m:Nat) (H:Hp):lE (xz k) 80 [.int .u64 (m:Int)] H=bif Dx (k:Int) (m:Int) then some (.int .i64 (Lib.ctz 64 k),H) else none:=by
 have h:lC 0 (.int .u64 (k:Int)) (.int .u64 (m:Int)) .leaf=bif Dx (k:Int) (m:Int) then some .leaf else none:=by
  show (bif (IntKind.u64 == IntKind.u64) && Dx (k:Int) (m:Int) then some Tr.leaf else none)=_
  rfl
 show (match ((lC 0 (.int .u64 (k:Int)) (.int .u64 (m:Int)) .leaf).bind (gZ 0 [] [])) with
  | some φ=>match js 0 H.get [] 0 φ with
   | some _=>(nk 0 H.n (.int .i64 (Lib.ctz 64 k))).map fun v=>(v,dR H [])
   | none=>none
  | none=>none)=_
 rw [h]
 cases Dx (k:Int) (m:Int) <;> rfl
theorem Ek (m:Nat) (H:Hp):∀ l:List Nat,m ∈ l→RM.look (l.map xz) 80 [.int .u64 (m:Int)] H=some (.int .i64 (Lib.ctz 64 m),H)
 | [],h=>by cases h
 | k :: l,h=>by
  show (match lE (xz k) 80 [.int .u64 (m:Int)] H with
   | some r=>some r
   | none=>RM.look (l.map xz) 80 [.int .u64 (m:Int)] H)=_
  rw [Jq,FK]
  by_cases e:(k:Int)=(m:Int)
  ·rw [decide_eq_true e]
   have:k=m:=by omega
   subst this
   rfl
  ·rw [decide_eq_false e]
   show RM.look (l.map xz) 80 [.int .u64 (m:Int)] H=_
   refine Ek m H l ?_
   rcases List.mem_cons.1 h with rfl|h
   ·exact absurd rfl e
   ·exact h
theorem KO {m:Nat} (hm:m < 256) (H:Hp):RM.look TB 80 [.int .u64 (m:Int)] H=some (.int .i64 (Lib.ctz 64 m),H):=by
 show (match lE PI 80 [.int .u64 (m:Int)] H with
  | some r=>some r
  | none=>RM.look ((List.range 256).map xz) 80 [.int .u64 (m:Int)] H)=_
 show RM.look ((List.range 256).map xz) 80 [.int .u64 (m:Int)] H=_
 exact Ek m H _ (List.mem_range.2 hm)
theorem B2 {tab:List XE} {one:Bool} {f:FuncId} {a v:Value} (h:∀ H,RM.look tab f [a] H=some (v,H)) (hv:aN v=true):ah TT tab one (.fn f [] []) [.fl a] (.fl v):=by
 refine ⟨rfl,fun X H u us hwf hX hF ha=>?_⟩
 cases hF with
 | fn l1 l2 d1 d2 =>
  rename_i a' b'
  have h1:a'.toList=[]:=List.length_eq_zero_iff.1 l1.symm
  have h2:b'.toList=[]:=List.length_eq_zero_iff.1 l2.symm
  have h3:us=[a]:=by
   obtain ⟨hl,hg⟩:=ha
   match us,hl with
   | [w],_ =>
    have:=hg 0 (.fl a) w rfl rfl
    cases this
    rfl
  refine ⟨.fn f [a],by simp [cG,h1,h2,h3],0,[.ret v H],?_,fun _=>⟨_,rfl⟩,fun r hr=>?_⟩
  ·show rx tab (tu tab TT 0) (.call f [a] H)=_
   unfold rx
   simp only [h H]
  ·obtain rfl:=List.mem_singleton.1 hr
   exact ⟨v,H,rfl,Nat.le_refl _,hwf,fun _ _=>rfl,Nat.min_le_left _ _,.fl hv⟩
theorem N2 (one:Bool) {m:Nat} (hm:m < 256):Pu one 80 [fP m] (aA (Lib.ctz 64 m)):=B2 (fun H=>KO hm H) rfl
theorem PW {own:Bool} {fr:Nat→AV} {hp:List AB} {K:AV→List AB→Prop} {x:Operand} {n:Nat} (hx:aQ fr x=fP n) (h:n < 4611686018427387904) (k:K (aA (n:Nat)) hp):RM.wpOp TT own (.convert 121 3 x) fr hp K:=by
 show CV TT 121 3 (aQ fr x) hp K
 rw [hx]
 have e:di (aE TT.P (convert 121 3 (.int .u64 (n:Int))))=some (.int .i64 (IntKind.i64.wrap (n:Int)),.none):=rfl
 rw [wrap_i64 (by omega) (by omega)] at e
 exact ⟨_,rfl,_,e,rfl,k⟩
def jQ (m:Nat):Nat:=(m / 2 ^ 1 &&& 6148914691236517205)+(m &&& 6148914691236517205)
def oI (m:Nat):Nat:=(m / 2 ^ 2 &&& 3689348814741910323)+(m &&& 3689348814741910323)
def sj (m:Nat):Nat:=(m / 2 ^ 4+m) &&& 1085102592571150095
def jZ (m:Nat):Nat:=(let c:=sj (oI (jQ m));let d:=c+c / 2 ^ 8;let e:=d+d / 2 ^ 16;e+e / 2 ^ 32) &&& 127
theorem N3 {m:Nat} (h:m < 256):jQ m < 384:=by
 have h1:m / 2 ^ 1 &&& 6148914691236517205≤m / 2 ^ 1:=Nat.and_le_left
 have h2:m &&& 6148914691236517205≤m:=Nat.and_le_left
 unfold jQ
 omega
theorem N4 {m:Nat} (h:m < 384):oI m < 480:=by
 have h1:m / 2 ^ 2 &&& 3689348814741910323≤m / 2 ^ 2:=Nat.and_le_left
 have h2:m &&& 3689348814741910323≤m:=Nat.and_le_left
 unfold oI
 omega
theorem N5 {m:Nat} (h:m < 480):sj m < 512:=by
 have h1:(m / 2 ^ 4+m) &&& 1085102592571150095≤m / 2 ^ 4+m:=Nat.and_le_left
 unfold sj
 omega
theorem Ju (m:Nat):jZ m≤127:=Nat.and_le_right
theorem N6 (one:Bool) {m:Nat} (hm:m < 256):Pu one 77 [fP m] (aA (jZ m:Nat)):=by
 have b1:=N3 hm
 have b2:=N4 b1
 have b3:=N5 b2
 have a1:m / 2 ^ 1 &&& 6148914691236517205≤m / 2 ^ 1:=Nat.and_le_left
 have a2:m &&& 6148914691236517205≤m:=Nat.and_le_left
 have a3:jQ m / 2 ^ 2 &&& 3689348814741910323≤jQ m / 2 ^ 2:=Nat.and_le_left
 have a4:jQ m &&& 3689348814741910323≤jQ m:=Nat.and_le_left
 have e1:(m / 2 ^ 1 &&& 6148914691236517205)+(m &&& 6148914691236517205)=jQ m:=rfl
 have e2:(jQ m / 2 ^ 2 &&& 3689348814741910323)+(jQ m &&& 3689348814741910323)=oI (jQ m):=rfl
 have e3:(oI (jQ m) / 2 ^ 4+oI (jQ m)) &&& 1085102592571150095=sj (oI (jQ m)):=rfl
 refine ah.body (fn:=Tryz.f77) rfl rfl rfl rfl ?_
 refine RM.cv (mu:=fun _=>false) ?_
 repeat' (first |refine u1 ?_ |refine u2 ?_ |fail)
 refine RM.cv (mu:=fun _=>false) ?_
 repeat' (first |((with_reducible show aT _ _ _ _ _ _ _ _ _);refine RM.ye (j:=1) rfl rfl (by omega) ?_) |((with_reducible show aT _ _ _ _ _ _ _ _ _);refine RM.BQ (n:=6148914691236517205) rfl rfl (by omega) (by decide) ?_) |((with_reducible show aT _ _ _ _ _ _ _ _ _);refine RM.El rfl rfl (by omega) ?_) |refine u1 ?_ |refine u2 ?_ |fail)
 rw [e1]
 refine RM.cv (mu:=fun _=>false) ?_
 repeat' (first |((with_reducible show aT _ _ _ _ _ _ _ _ _);refine RM.ye (j:=2) rfl rfl (by omega) ?_) |((with_reducible show aT _ _ _ _ _ _ _ _ _);refine RM.BQ (n:=3689348814741910323) rfl rfl (by omega) (by decide) ?_) |((with_reducible show aT _ _ _ _ _ _ _ _ _);refine RM.El rfl rfl (by omega) ?_) |refine u1 ?_ |refine u2 ?_ |fail)
 rw [e2]
 refine RM.cv (mu:=fun _=>false) ?_
 repeat' (first |((with_reducible show aT _ _ _ _ _ _ _ _ _);refine RM.ye (j:=4) rfl rfl (by omega) ?_) |((with_reducible show aT _ _ _ _ _ _ _ _ _);refine RM.El rfl rfl (by omega) ?_) |((with_reducible show aT _ _ _ _ _ _ _ _ _);refine RM.BQ (n:=1085102592571150095) rfl rfl (by omega) (by decide) ?_) |refine u1 ?_ |refine u2 ?_ |fail)
 rw [e3]
 have e4:jZ m=(sj (oI (jQ m))+sj (oI (jQ m)) / 2 ^ 8+(sj (oI (jQ m))+sj (oI (jQ m)) / 2 ^ 8) / 2 ^ 16+(sj (oI (jQ m))+sj (oI (jQ m)) / 2 ^ 8+(sj (oI (jQ m))+sj (oI (jQ m)) / 2 ^ 8) / 2 ^ 16) / 2 ^ 32) &&& 127:=rfl
 rw [e4]
 generalize sj (oI (jQ m))=c at *
 refine aa (mu:=fun _=>false) ?_
 repeat' (first |((with_reducible show aT _ _ _ _ _ _ _ _ _);refine RM.ye (j:=8) rfl rfl (by omega) ?_) |((with_reducible show aT _ _ _ _ _ _ _ _ _);refine RM.ye (j:=16) rfl rfl (by omega) ?_) |((with_reducible show aT _ _ _ _ _ _ _ _ _);refine RM.ye (j:=32) rfl rfl (by omega) ?_) |((with_reducible show aT _ _ _ _ _ _ _ _ _);refine RM.El rfl rfl (by omega) ?_) |((with_reducible show RM.wpOp _ _ (.convert _ _ _) _ _ _);refine PW rfl (by omega) ?_) |((with_reducible show aT _ _ _ _ _ _ _ _ _);refine RM.PV (n:=127) rfl rfl (by omega) (by decide) ?_) |refine u1 ?_ |refine u2 ?_ |fail)
 exact ⟨[_],⟨Fz.deep rfl,trivial⟩,rfl⟩
end Go.Proofs.YtpeogffeoehboaaGreatDoor
