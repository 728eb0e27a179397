/-
  Contracts of the program's functions and of the document's. Lemmas alone; their conditions stand in them.
-/
import Derived.Test.YtpeogffeoehboaaGreatDoorA3
import Derived.Test.YtpeogffeoehboaaGreatDoorK6
open Go Go.RM
namespace Go.Proofs.YtpeogffeoehboaaGreatDoor
set_option maxRecDepth 100000
set_option maxHeartbeats 4000000
def Jh (p:List Order) (f n d i:Nat):Bool:=(List.range i).any fun i=>match p[i]? with
 | some o=>decide (o.day=(d:Int)) && !f.testBit i && hasB o.aG (n:Int)
 | none=>false
theorem Ji {p:List Order} {f n d i:Nat} (h:i < p.length):Jh p f n d (i+1)=(Jh p f n d i || (decide (p[i].day=(d:Int)) && !f.testBit i && hasB p[i].aG (n:Int))):=by
 unfold Jh
 rw [List.range_succ,List.any_append,List.any_cons,List.any_nil,Bool.or_false,List.getElem?_eq_getElem h]
def pS (s:au) (p:List Order) (f D:Nat):List AV:=(List.range D).map fun d=>AV.sl (ints (gQ s p f d)) false
def tH (s:au) (p:List Order) (f D:Nat):List (List AV):=(List.range D).map fun d=>[AV.sl (ints (gQ s p f d)) false]
theorem Jj {s:au} {p:List Order} {f D:Nat}:pS s p f (D+1)=pS s p f D++[AV.sl (ints (gQ s p f D)) false]:=by
 unfold pS
 rw [List.range_succ,List.map_append]
 rfl
theorem zQ {s:au} {p:List Order} {f D:Nat}:(pS s p f D).length=D:=by simp [pS]
theorem zR {s:au} {p:List Order} {f D:Nat}:(tH s p f D).length=D:=by simp [tH]
theorem NX {s:au} {p:List Order} {f D d:Nat} (h:d < D):(pS s p f D)[d]?=some (AV.sl (ints (gQ s p f d)) false):=by
 unfold pS
 rw [List.getElem?_map,List.getElem?_range h]
 rfl
theorem Jk {s:au} {p:List Order} {f D d:Nat} (h:d < D):(tH s p f D)[d]?=some [AV.sl (ints (gQ s p f d)) false]:=by
 unfold tH
 rw [List.getElem?_map,List.getElem?_range h]
 rfl
theorem Ee {s:au} {p:List Order} {f D:Nat}:(tH s p f D).flatten=pS s p f D:=by
 unfold tH pS
 induction (List.range D) with
 | nil=>rfl
 | cons a l ih=>simp only [List.map_cons,List.flatten_cons,ih];rfl
theorem oz {α:Type} {g:α→AV} (h:∀ x,(g x).deep=true):∀ l:List α,cI (l.map g)=true
 | []=>rfl
 | x :: l=>by
  show ((g x).deep && cI (l.map g))=true
  rw [h x,oz h l]
  rfl
theorem Jl {s:au} {p:List Order} {f D:Nat}:cI (pS s p f D)=true:=oz (fun _=>rfl) _
theorem gL {α:Type} (n:Nat) {g:α→AV} (h:∀ x,(g x).jb n=true):∀ l:List α,rR n (l.map g)=true
 | []=>rfl
 | x :: l=>by
  show ((g x).jb n && rR n (l.map g))=true
  rw [h x,gL n h l]
  rfl
abbrev dc (l:List Int):List AV:=l.map aA
theorem cR:∀ l:List Int,(ints l).flatten=dc l
 | []=>rfl
 | x :: l=>by
  show (eI x++(ints l).flatten)=_
  rw [cR l]
  rfl
theorem ic (l:List Int):cI (dc l)=true:=oz (fun _=>rfl) l
theorem Ef {s:au} {p:List Order} {f D v:Nat}:([.cells (pS s p f D) 1 v]:List AB).all (AB.jb 1)=true:=by
 have h:AB.jb 1 (.cells (pS s p f D) 1 v)=true:=gL 1 (fun _=>rfl) _
 simp only [List.all_cons,List.all_nil,h,Bool.and_true]
theorem iw {s:au} {p:List Order} {f D v w:Nat} {l:List Int}:([.cells (pS s p f D) 1 v,.cells (dc l) 1 w]:List AB).all (AB.jb 2)=true:=by
 have h:AB.jb 2 (.cells (pS s p f D) 1 v)=true:=gL 2 (fun _=>rfl) _
 have h2:AB.jb 2 (.cells (dc l) 1 w)=true:=gL 2 (fun _=>rfl) _
 simp only [List.all_cons,List.all_nil,h,h2,Bool.and_true]
theorem vM {α:Type} (j:Nat) {g:α→AV} (h:∀ x,(g x).kE j=true):∀ l:List α,vz j (l.map g)=true
 | []=>rfl
 | x :: l=>by
  show ((g x).kE j && vz j (l.map g))=true
  rw [h x,vM j h l]
  rfl
theorem NY {s:au} {p:List Order} {f D v w:Nat} {l:List Int}:pM 1 0 ([.cells (pS s p f D) 1 v,.cells (dc l) 1 w]:List AB)=true:=by
 have h:vz 1 (pS s p f D)=true:=vM 1 (fun _=>rfl) _
 simp only [pM,AB.kE,h,Nat.beq_refl,Bool.or_true,Bool.true_or,Bool.and_self]
theorem Jm {s:au} {p:List Order} {f d n:Nat} (h:n < s.needs.length):dc ((gQ s p f d).take (n+1))=dc ((gQ s p f d).take n)++[aA (gK s p f n d)]:=by
 have hl:n < (gQ s p f d).length:=by rw [jn];exact h
 unfold dc
 rw [List.take_add_one,List.getElem?_eq_getElem hl,List.map_append]
 simp [gQ]
theorem zS {s:au} {n:Nat} (h:n < s.needs.length):iL s n=s.needs[n].first∧dP s n=s.needs[n].full:=by
 unfold iL dP
 rw [List.getElem?_eq_getElem h]
 exact ⟨rfl,rfl⟩
theorem Eg (one:Bool) {s:au} {p:List Order} (hp:mO s p) (full:Bool) (f:List Int) (ff:Bool) (hf:f.length≤maxLen) (hin:∀ x ∈ f,0≤x∧x < p.length) :
  Pu one 33 [.ag (ak s),.sl (p.map ay) full,.sl (ints f) ff] (.sl (tH s p (aO f) s.days.toNat) false):=by
 have hg:=hp.good
 have hlen:=hg.len
 have hdays:=hg.days
 have p8:=hp.len
 have hbit:=jv hin
 have eg:((s.needs.map aH).length:Int)=s.needs.length:=by simp
 have ep:((p.map ay).length:Int)=p.length:=by simp
 generalize aO f=b at *
 refine ah.body (fn:=Tryz.f33) rfl rfl rfl rfl ?_
 refine aa (mu:=fun t=>Nat.beq t 81 || Nat.beq t 85) ?_
 repeat' (first |refine u1 ?_ |refine u2 ?_ |fail)
 refine aB.aJ (ai.trans (ai.nB 1) (ai.Mi (l:=[(1,.sl (p.map ay) full),(2,.sl (ints f) ff),(3,.pt (ak s) 0),(7,.bU 0 ((0:Nat),0,0).2.1 0 ((0:Nat),0,0).1 ((0:Nat),0,0).2.2),(8,aA (((0:Nat),0,0).1:Nat))]) (hp:=[.cells (pS s p b ((0:Nat),0,0).1) 1 ((0:Nat),0,0).2.1]) 1 rfl ⟨bT.refl _,bT.refl _,bT.refl _,bT.nA,bT.refl _,trivial⟩ (Nat.zero_le _) rfl Ef)) ?_
 refine aB.loop (fun x:Nat × Nat × Nat=>(x.1:Int)≤s.days∧(x.2.2=x.1∨x.2.2=x.1+1)) (fun x=>⟨aS [(1,.sl (p.map ay) full),(2,.sl (ints f) ff),(3,.pt (ak s) 0),(7,.bU 0 x.2.1 0 x.1 x.2.2),(8,aA (x.1:Nat))],[.cells (pS s p b x.1) 1 x.2.1],bJ.none,false,0⟩) (fun x=>s.days.toNat - x.1) ?_ (0,0,0) ⟨by dsimp only;omega,.inl rfl⟩
 rintro ⟨d,aC,c⟩ ⟨hd,hcap⟩
 dsimp only at hd hcap
 show aB _ _ _ _ ⟨aS [(1,.sl (p.map ay) full),(2,.sl (ints f) ff),(3,.pt (ak s) 0),(7,.bU 0 (d,aC,c).2.1 0 (d,aC,c).1 (d,aC,c).2.2),(8,aA ((d,aC,c).1:Nat))],[.cells (pS s p b (d,aC,c).1) 1 (d,aC,c).2.1],bJ.none,false,0⟩ _
 dsimp only
 by_cases hdl:(d:Int) < s.days
 ·have d1:=decide_eq_true hdl
  refine RM.cv (mu:=fun t=>Nat.beq t 81 || Nat.beq t 85) ?_
  repeat' (first |refine u1 ?_ |refine u2 ?_ |fail)
  refine aB.seq ?_
  refine aB.block ?_
  refine RM.cv (mu:=fun t=>Nat.beq t 81 || Nat.beq t 85) ?_
  repeat' (first |refine u1 ?_ |refine u2 ?_ |fail)
  refine aB.seq ?_
  refine RM.cv (mu:=fun t=>Nat.beq t 81 || Nat.beq t 85) ?_
  repeat' (first |refine u1 ?_ |refine u2 ?_ |fail)
  refine aB.aJ (ai.trans (ai.nB 1) (ai.Mi (l:=[(1,.sl (p.map ay) full),(2,.sl (ints f) ff),(3,.pt (ak s) 0),(7,.bU 0 (d,aC,c).2.1 0 (d,aC,c).1 (d,aC,c).2.2),(8,aA ((d,aC,c).1:Nat)),(9,.bU 1 ((0:Nat),0,0).2.1 0 ((0:Nat),0,0).1 ((0:Nat),0,0).2.2),(10,aA (((0:Nat),0,0).1:Nat))]) (hp:=[.cells (pS s p b (d,aC,c).1) 1 (d,aC,c).2.1,.cells (dc ((gQ s p b (d,aC,c).1).take ((0:Nat),0,0).1)) 1 ((0:Nat),0,0).2.1]) 2 rfl ⟨bT.refl _,bT.refl _,bT.refl _,bT.refl _,bT.refl _,bT.nA,bT.refl _,trivial⟩ (Nat.zero_le _) rfl iw)) ?_
  refine aB.block ?_
  refine aB.loop (fun y:Nat × Nat × Nat=>y.1≤s.needs.length∧(y.2.2=y.1∨y.2.2=y.1+1)) (fun y=>⟨aS [(1,.sl (p.map ay) full),(2,.sl (ints f) ff),(3,.pt (ak s) 0),(7,.bU 0 (d,aC,c).2.1 0 (d,aC,c).1 (d,aC,c).2.2),(8,aA ((d,aC,c).1:Nat)),(9,.bU 1 y.2.1 0 y.1 y.2.2),(10,aA (y.1:Nat))],[.cells (pS s p b (d,aC,c).1) 1 (d,aC,c).2.1,.cells (dc ((gQ s p b (d,aC,c).1).take y.1)) 1 y.2.1],bJ.none,false,0⟩) (fun y=>s.needs.length - y.1) ?_ (0,0,0) ⟨Nat.zero_le _,.inl rfl⟩
  rintro ⟨n,ver2,c2⟩ ⟨hn,hcap2⟩
  dsimp only at hn hcap2
  show aB _ _ _ _ ⟨aS [(1,.sl (p.map ay) full),(2,.sl (ints f) ff),(3,.pt (ak s) 0),(7,.bU 0 (d,aC,c).2.1 0 (d,aC,c).1 (d,aC,c).2.2),(8,aA ((d,aC,c).1:Nat)),(9,.bU 1 (n,ver2,c2).2.1 0 (n,ver2,c2).1 (n,ver2,c2).2.2),(10,aA ((n,ver2,c2).1:Nat))],[.cells (pS s p b (d,aC,c).1) 1 (d,aC,c).2.1,.cells (dc ((gQ s p b (d,aC,c).1).take (n,ver2,c2).1)) 1 (n,ver2,c2).2.1],bJ.none,false,0⟩ _
  dsimp only
  by_cases hnl:n < s.needs.length
  ·have d2:decide ((n:Int) < ((s.needs.map aH).length:Int))=true:=decide_eq_true (by omega)
   have hnt:(s.needs.map aH)[((n:Nat):Int).toNat]?=some (aH s.needs[n]):=bl hnl
   obtain ⟨hfst,hful⟩:=zS hnl
   have hlv:=zN (s:=s) (p:=p) (f:=b) (d:=d) hnl
   have htk:=Jm (s:=s) (p:=p) (f:=b) (d:=d) hnl
   have hgl:(dc ((gQ s p b d).take n)).length=n:=by rw [List.length_map,List.length_take,jn];omega
   generalize s.needs[n]=g at *
   have hb0:=PO hg p b n d
   have l4:gK s p b n d=if Jh p b n d p.length=true then dP s n else ox s p b n d:=hlv
   refine RM.cv (mu:=fun t=>Nat.beq t 81 || Nat.beq t 85) ?_
   repeat' (first |refine u1 ?_ |refine u2 ?_ |fail)
   refine aB.seq ?_
   refine aB.block ?_
   refine RM.cv (mu:=fun t=>Nat.beq t 81 || Nat.beq t 85) ?_
   repeat' (first |refine u1 ?_ |((with_reducible show RM.wpOp _ _ (.indexAddr _ _ _) _ _ _);refine ⟨aH g,⟨by omega,hnt⟩,rfl,?_⟩) |refine u2 ?_ |fail)
   refine RM.cutAt (st':=⟨aS [(1,.sl (p.map ay) full),(2,.sl (ints f) ff),(3,.pt (ak s) 0),(7,.bU 0 (d,aC,c).2.1 0 (d,aC,c).1 (d,aC,c).2.2),(8,aA ((d,aC,c).1:Nat)),(9,.bU 1 (n,ver2,c2).2.1 0 (n,ver2,c2).1 (n,ver2,c2).2.2),(10,aA ((n,ver2,c2).1:Nat)),(11,aA (ox s p b n d))],[.cells (pS s p b (d,aC,c).1) 1 (d,aC,c).2.1,.cells (dc ((gQ s p b (d,aC,c).1).take (n,ver2,c2).1)) 1 (n,ver2,c2).2.1],bJ.none,false,0⟩) ?_ ?_
   ·cases d with
    | zero =>
     have d3:decide ((0:Int) < ((0:Nat):Int))=false:=by decide
     have hbase:ox s p b n 0=g.first:=hfst
     rw [hbase]
     refine aa (mu:=fun t=>Nat.beq t 81 || Nat.beq t 85) ?_
     repeat' (first |refine u1 ?_ |refine u2 ?_ |fail)
     exact .is (ai.to 2 rfl ⟨rfl,rfl,rfl,rfl,rfl,rfl,rfl,rfl,trivial⟩ (Nat.zero_le _) rfl iw)
    | succ d' =>
     have d3:decide ((0:Int) < ((d'+1:Nat):Int))=true:=decide_eq_true (by omega)
     have hat0:(pS s p b (d'+1))[0+(((d'+1:Nat):Int) - 1).toNat * 1]?=some (AV.sl (ints (gQ s p b d')) false):=by
      rw [show 0+(((d'+1:Nat):Int) - 1).toNat * 1=d' by omega]
      exact NX (Nat.lt_succ_self _)
     have hlt:(ints (gQ s p b d'))[((n:Nat):Int).toNat]?=some (eI (gK s p b n d')):=by
      rw [Int.toNat_natCast,List.getElem?_map]
      unfold gQ
      rw [List.getElem?_map,List.getElem?_range hnl]
      rfl
     have hb:=Jf hg p b n d'
     have hbase:ox s p b n (d'+1)=max 0 (gK s p b n d' - 1):=rfl
     rw [hbase]
     generalize gK s p b n d'=v at *
     refine aa (mu:=fun t=>Nat.beq t 81 || Nat.beq t 85) ?_
     repeat' (first |((with_reducible show RM.wpOp _ _ (.load _ _) _ _ _);refine RM.Ot rfl rfl rfl hat0 ?_) |refine u1 ?_ |((with_reducible show RM.wpOp _ _ (.indexAddr _ _ _) _ _ _);refine ⟨eI v,⟨by omega,hlt⟩,rfl,?_⟩) |refine u2 ?_ |fail)
     exact .is (ai.to 2 rfl ⟨rfl,rfl,rfl,rfl,rfl,rfl,rfl,rfl,trivial⟩ (Nat.zero_le _) rfl iw)
   refine RM.cutAt (st':=⟨aS [(1,.sl (p.map ay) full),(2,.sl (ints f) ff),(3,.pt (ak s) 0),(7,.bU 0 (d,aC,c).2.1 0 (d,aC,c).1 (d,aC,c).2.2),(8,aA ((d,aC,c).1:Nat)),(9,.bU 1 (n,ver2,c2).2.1 0 (n,ver2,c2).1 (n,ver2,c2).2.2),(10,aA ((n,ver2,c2).1:Nat)),(11,aA (gK s p b n d))],[.cells (pS s p b (d,aC,c).1) 1 (d,aC,c).2.1,.cells (dc ((gQ s p b (d,aC,c).1).take (n,ver2,c2).1)) 1 (n,ver2,c2).2.1],bJ.none,false,0⟩) ?_ ?_
   ·refine RM.cv (mu:=fun t=>Nat.beq t 81 || Nat.beq t 85) ?_
    repeat' (first |refine u1 ?_ |refine u2 ?_ |fail)
    refine aB.aJ (ai.to (l:=[(1,.sl (p.map ay) full),(2,.sl (ints f) ff),(3,.pt (ak s) 0),(7,.bU 0 (d,aC,c).2.1 0 (d,aC,c).1 (d,aC,c).2.2),(8,aA ((d,aC,c).1:Nat)),(9,.bU 1 (n,ver2,c2).2.1 0 (n,ver2,c2).1 (n,ver2,c2).2.2),(10,aA ((n,ver2,c2).1:Nat)),(11,aA (if Jh p b (n,ver2,c2).1 (d,aC,c).1 0=true then dP s (n,ver2,c2).1 else ox s p b (n,ver2,c2).1 (d,aC,c).1)),(12,aA (0:Nat))]) (hp:=[.cells (pS s p b (d,aC,c).1) 1 (d,aC,c).2.1,.cells (dc ((gQ s p b (d,aC,c).1).take (n,ver2,c2).1)) 1 (n,ver2,c2).2.1]) 2 rfl ⟨rfl,rfl,rfl,rfl,rfl,rfl,rfl,rfl,rfl,trivial⟩ (Nat.zero_le _) rfl iw) ?_
    refine aB.block ?_
    refine aB.loop (fun i:Nat=>i≤p.length) (fun i=>⟨aS [(1,.sl (p.map ay) full),(2,.sl (ints f) ff),(3,.pt (ak s) 0),(7,.bU 0 (d,aC,c).2.1 0 (d,aC,c).1 (d,aC,c).2.2),(8,aA ((d,aC,c).1:Nat)),(9,.bU 1 (n,ver2,c2).2.1 0 (n,ver2,c2).1 (n,ver2,c2).2.2),(10,aA ((n,ver2,c2).1:Nat)),(11,aA (if Jh p b (n,ver2,c2).1 (d,aC,c).1 i=true then dP s (n,ver2,c2).1 else ox s p b (n,ver2,c2).1 (d,aC,c).1)),(12,aA (i:Nat))],[.cells (pS s p b (d,aC,c).1) 1 (d,aC,c).2.1,.cells (dc ((gQ s p b (d,aC,c).1).take (n,ver2,c2).1)) 1 (n,ver2,c2).2.1],bJ.none,false,0⟩) (fun i=>p.length - i) ?_ 0 (Nat.zero_le _)
    intro i hi
    by_cases hil:i < p.length
    ·have d3:decide ((i:Int) < ((p.map ay).length:Int))=true:=decide_eq_true (by omega)
     have hat:(p.map ay)[((i:Nat):Int).toNat]?=some (ay p[i]):=bl hil
     have hsu:=Ji (f:=b) (n:=n) (d:=d) hil
     have hor:=hp.order _ (List.getElem_mem hil)
     generalize p[i]=o at *
     rw [hbit] at hsu
     have o1:=IX one f ff (i:Int) hf
     have o2:=IX one o.aG false (n:Int) (Nat.le_trans hor.len (Nat.le_trans hlen.2 (by simp [maxLen])))
     have keep:∀ {x:Bool},Jh p b n d (i+1)=(Jh p b n d i || x)→x=false→(if Jh p b n d i=true then dP s n else ox s p b n d)=if Jh p b n d (i+1)=true then dP s n else ox s p b n d:=fun h1 h2=>by rw [h1,h2,Bool.or_false]
     by_cases q1:o.day=(d:Int)
     ·have e1:=decide_eq_true q1
      cases q2:hasB f (i:Int) with
      | true =>
       rw [q2] at o1 hsu
       have hk:=keep hsu (by simp)
       refine aa (mu:=fun t=>Nat.beq t 81 || Nat.beq t 85) ?_
       repeat' (first |refine u1 ?_ |((with_reducible show RM.wpOp _ _ (.indexAddr _ _ _) _ _ _);refine ⟨ay o,⟨by omega,hat⟩,rfl,?_⟩) |((with_reducible show ax _ _ _ _ _ _ _ _);refine ah.call o1 rfl rfl ?_) |((with_reducible show ax _ _ _ _ _ _ _ _);refine ah.call o2 rfl rfl ?_) |refine u2 ?_ |fail)
       exact ⟨i+1,hil,(by dsimp only;omega),ai.to 2 rfl ⟨rfl,rfl,rfl,rfl,rfl,rfl,rfl,aV hk,aV (by simp),trivial⟩ (Nat.zero_le _) rfl iw⟩
      | false =>
       rw [q2] at o1 hsu
       cases q3:hasB o.aG (n:Int) with
       | false =>
        rw [q3] at o2 hsu
        have hk:=keep hsu (by simp)
        refine aa (mu:=fun t=>Nat.beq t 81 || Nat.beq t 85) ?_
        repeat' (first |refine u1 ?_ |((with_reducible show RM.wpOp _ _ (.indexAddr _ _ _) _ _ _);refine ⟨ay o,⟨by omega,hat⟩,rfl,?_⟩) |((with_reducible show ax _ _ _ _ _ _ _ _);refine ah.call o1 rfl rfl ?_) |((with_reducible show ax _ _ _ _ _ _ _ _);refine ah.call o2 rfl rfl ?_) |refine u2 ?_ |fail)
        exact ⟨i+1,hil,(by dsimp only;omega),ai.to 2 rfl ⟨rfl,rfl,rfl,rfl,rfl,rfl,rfl,aV hk,aV (by simp),trivial⟩ (Nat.zero_le _) rfl iw⟩
       | true =>
        rw [q3,e1] at hsu
        rw [q3] at o2
        have hk:g.full=if Jh p b n d (i+1)=true then dP s n else ox s p b n d:=by
         rw [hsu,if_pos (by simp)]
         exact hful.symm
        refine aa (mu:=fun t=>Nat.beq t 81 || Nat.beq t 85) ?_
        repeat' (first |refine u1 ?_ |((with_reducible show RM.wpOp _ _ (.indexAddr _ _ _) _ _ _);refine ⟨ay o,⟨by omega,hat⟩,rfl,?_⟩) |((with_reducible show RM.wpOp _ _ (.indexAddr _ _ _) _ _ _);refine ⟨aH g,⟨by omega,hnt⟩,rfl,?_⟩) |((with_reducible show ax _ _ _ _ _ _ _ _);refine ah.call o1 rfl rfl ?_) |((with_reducible show ax _ _ _ _ _ _ _ _);refine ah.call o2 rfl rfl ?_) |refine u2 ?_ |fail)
        exact ⟨i+1,hil,(by dsimp only;omega),ai.to 2 rfl ⟨rfl,rfl,rfl,rfl,rfl,rfl,rfl,aV hk,aV (by simp),trivial⟩ (Nat.zero_le _) rfl iw⟩
     ·have e1:=decide_eq_false q1
      rw [e1] at hsu
      have hk:=keep hsu (by simp)
      refine aa (mu:=fun t=>Nat.beq t 81 || Nat.beq t 85) ?_
      repeat' (first |refine u1 ?_ |((with_reducible show RM.wpOp _ _ (.indexAddr _ _ _) _ _ _);refine ⟨ay o,⟨by omega,hat⟩,rfl,?_⟩) |((with_reducible show ax _ _ _ _ _ _ _ _);refine ah.call o1 rfl rfl ?_) |((with_reducible show ax _ _ _ _ _ _ _ _);refine ah.call o2 rfl rfl ?_) |refine u2 ?_ |fail)
      exact ⟨i+1,hil,(by dsimp only;omega),ai.to 2 rfl ⟨rfl,rfl,rfl,rfl,rfl,rfl,rfl,aV hk,aV (by simp),trivial⟩ (Nat.zero_le _) rfl iw⟩
    ·have d3:decide ((i:Int) < ((p.map ay).length:Int))=false:=decide_eq_false (by omega)
     have hie:i=p.length:=by omega
     subst hie
     rw [←l4]
     refine aa (mu:=fun t=>Nat.beq t 81 || Nat.beq t 85) ?_
     repeat' (first |refine u1 ?_ |refine u2 ?_ |fail)
     exact .is (ai.to 2 rfl ⟨rfl,rfl,rfl,rfl,rfl,rfl,rfl,rfl,trivial⟩ (Nat.zero_le _) rfl iw)
   ·refine aa (mu:=fun t=>Nat.beq t 81 || Nat.beq t 85) ?_
    repeat' (first |((with_reducible show RM.wpOp _ _ (.call _) _ _ _);refine RM.tB (cs:=dc ((gQ s p b d).take n)) (n:=n) (els:=[eI (gK s p b n d)]) rfl rfl rfl rfl rfl (fun el hel=>by rw [List.mem_singleton.1 hel];rfl) rfl rfl (by rw [hgl];exact (Nat.mul_one _).symm) hcap2 (by simp only [List.length_singleton];omega) (fun v' c' hc'=>?_)) |refine u1 ?_ |refine u2 ?_ |fail)
    refine aa (mu:=fun t=>Nat.beq t 81 || Nat.beq t 85) ?_
    repeat' (first |refine u1 ?_ |refine u2 ?_ |fail)
    refine ⟨(n+1,v',c'),⟨hnl,hc'⟩,(by dsimp only;omega),ai.to 2 (by dsimp only;rw [htk];rfl) ⟨rfl,rfl,rfl,rfl,rfl,rfl,aV (by simp),trivial⟩ (Nat.zero_le _) rfl iw⟩
  ·have d2:decide ((n:Int) < ((s.needs.map aH).length:Int))=false:=decide_eq_false (by omega)
   have hne:n=s.needs.length:=by omega
   have hall:(gQ s p b d).take n=gQ s p b d:=List.take_of_length_le (by rw [jn];omega)
   rw [hall]
   have hll:=jn (s:=s) (p:=p) (f:=b) (d:=d)
   have hgl:(pS s p b d).length=d:=zQ
   refine aa (mu:=fun t=>Nat.beq t 81 || Nat.beq t 85) ?_
   repeat' (first |refine u1 ?_ |refine u2 ?_ |fail)
   refine aB.aJ (ai.giveUp 1 (l:=[(1,.sl (p.map ay) full),(2,.sl (ints f) ff),(3,.pt (ak s) 0),(7,.bU 0 (d,aC,c).2.1 0 (d,aC,c).1 (d,aC,c).2.2),(8,aA ((d,aC,c).1:Nat)),(9,.sl (ints (gQ s p b d)) false)]) (hp:=[.cells (pS s p b (d,aC,c).1) 1 (d,aC,c).2.1,.gone]) rfl (Nat.zero_le _) (ic _) ⟨.same rfl,.same rfl,.same rfl,.same rfl,.same rfl,.row 1 (by rw [List.length_map,hll];omega) (by rw [List.length_map,hll];omega) (fun el hel=>by obtain ⟨x,_,rfl⟩:=List.mem_map.1 hel;rfl) (by rw [cR,List.drop_zero,List.take_of_length_le (by rw [List.length_map,hll];omega)]) (fun h=>Bool.noConfusion h),trivial⟩ NY rfl) ?_
   refine aa (mu:=fun t=>Nat.beq t 81 || Nat.beq t 85) ?_
   repeat' (first |((with_reducible show RM.wpOp _ _ (.call _) _ _ _);refine RM.tB (cs:=pS s p b d) (n:=d) (els:=[[AV.sl (ints (gQ s p b d)) false]]) rfl rfl rfl rfl rfl (fun el hel=>by rw [List.mem_singleton.1 hel];rfl) rfl rfl (by rw [hgl];exact (Nat.mul_one _).symm) hcap (by simp only [List.length_singleton];omega) (fun v' c' hc'=>?_)) |refine u1 ?_ |refine u2 ?_ |fail)
   refine aa (mu:=fun t=>Nat.beq t 81 || Nat.beq t 85) ?_
   repeat' (first |refine u1 ?_ |refine u2 ?_ |fail)
   refine ⟨(d+1,v',c'),⟨by dsimp only;omega,hc'⟩,(by dsimp only;omega),ai.to 1 (by dsimp only;rw [Jj];rfl) ⟨rfl,rfl,rfl,rfl,aV (by simp),trivial⟩ (Nat.zero_le _) rfl Ef⟩
 ·have d1:=decide_eq_false hdl
  have hde:d=s.days.toNat:=by omega
  refine aa (mu:=fun t=>Nat.beq t 81 || Nat.beq t 85) ?_
  repeat' (first |refine u1 ?_ |refine u2 ?_ |fail)
  subst hde
  exact ⟨[_],⟨Fz.row (es:=1) rfl (by rw [zQ];omega) zR (fun el hel=>by obtain ⟨x,_,rfl⟩:=List.mem_map.1 hel;rfl) (by rw [Ee,List.drop_zero,List.take_of_length_le (by rw [zQ];omega)]) (by rw [Ee];exact Jl) (fun h=>Bool.noConfusion h),trivial⟩,rfl⟩
end Go.Proofs.YtpeogffeoehboaaGreatDoor
