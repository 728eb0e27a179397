/-
  Contracts of the program's functions and of the document's. Lemmas alone; their conditions stand in them.
-/
import Derived.Test.YtkappgolfkiaeaaGreatDoorX4
import Derived.Test.YtkappgolfkiaeaaGreatDoorK19
open Go Go.RM
namespace Go.Proofs.YtkappgolfkiaeaaGreatDoor.St
set_option maxRecDepth 100000
set_option maxHeartbeats 4000000
section
variable {own : Bool} {fr : Nat → AV} {hp : List AB} {K : AV → List AB → Prop} {x : Operand} {n : Int}
theorem U4 (hx:bq fr x=.fl (.int .u8 n)) (h:0≤n∧n≤255) (k:K (av n) hp):RM.wpOp TT own (.convert 5 3 x) fr hp K:=by show AG TT 5 3 (bq fr x) hp K;rw [hx];exact ⟨_,rfl,_,T2 h,rfl,k⟩
end
abbrev nC (l:List hH):List AV:=(l.map aU).flatten
theorem Qy (l:List hH):(nC l).length=4 * l.length:=by
 induction l with
 | nil=>rfl
 | cons x l ih =>show (aU x++nC l).length=_;rw [List.length_append,ih,List.length_cons];show 4+4 * l.length=4 * (l.length+1);omega
theorem Qz (l:List hH):(nC l).all AV.one=true:=by
 induction l with
 | nil=>rfl
 | cons x l ih=>exact ih
theorem NZ (l:List hH):bG (nC l)=true:=by
 induction l with
 | nil=>rfl
 | cons x l ih =>show bG (aU x++nC l)=true;show (true && (true && (true && (true && bG (nC l)))))=true;rw [ih];rfl
theorem Kr (l:List hH):iA 3 (nC l)=true:=by
 induction l with
 | nil=>rfl
 | cons x l ih=>exact ih
theorem HN (t:aI) (ht:t.Ok) (s:aC) (hs:s.Ok) (kd a b q:Int) (x:List Int) (z1 z2 z3 z4 z5 z6 raw:Nat) (hkd:0≤kd∧kd≤255) (ha:qw a) (hb:qw b) (hq:qw q) (hx:∀ n ∈ x,0≤n∧n≤255) (hxl:x.length≤maxLen) :
  Pu false 3 [.ag (aN t),.ag (aH s),.ag (Kl kd a b q x [z1,z2,z3,z4,z5,z6] raw)] (BB true):=by
 have aw6:=Oo false;have aw7:=R1 false;obtain ⟨p0,i0,e,hsea,hgood⟩:=JM s hs;have o1:=xb t ht false;have o2:=hsea false;by_cases h1:(gv t).2.2=0
 ·by_cases h2:e=0
  ·subst h2;rw [h1] at o1;obtain ⟨hnl,hplan⟩:=hgood rfl;have hg0:=xH h1;have h8:=j6 hg0.sizes;have em:((t.ax.map eI).length:Int)=t.ax.length:=by simp
   have ek:(t.kinds.map cA).length=t.kinds.length:=by simp
   have d1:(!decide ((0:Int)=0))=false:=rfl;obtain ⟨i,hi,hki⟩:=Uj (a:=kd) (n:=(t.kinds.map cA).length) (by omega);rw [ek] at hi;obtain ⟨tr,l,L,n,sh,hnm,q1,q2,q3,q4,e1⟩:=Fb ht h1 hi (x:=x) (a:=a) (b:=b) (q:=q) ha hb hq hx hxl;obtain ⟨P,F,A,b',c',g,dd,xx,h,⟨hPl,hFl⟩,hAd,hPc,r1,r2,r3,r4,hg,hh,hgh,hcm⟩:=hplan n (by omega) [z1,z2,z3,z4,z5,z6] raw rfl;have hat:(t.kinds.map cA)[((i:Nat):Int).toNat]?=some (cA t.kinds[i]):=by rw [List.getElem?_map,Int.toNat_natCast,List.getElem?_eq_getElem hi];rfl
   generalize t.kinds[i]=kk at *
   have tailc:=NW t (bK s n) kd a b q x z1 z2 z3 z4 z5 z6 raw i n tr L sh P F A b' c' g dd xx h q4 e1 hPl hFl hPc r1 r2 r3 r4 hg hh hgh hcm;obtain ⟨dy,nd,ld,fl',rw',po⟩:=s;dsimp only at hnl;refine af.body (fn:=Tryz.f3) rfl rfl rfl rfl ?_;refine RM.iZ (mu:=fun t=>Nat.beq t 4 || Nat.beq t 94 || Nat.beq t 97) ?_;repeat' first|refine u1 ?_|refine u2 ?_|fail
   refine RM.iZ (mu:=fun t=>Nat.beq t 4 || Nat.beq t 94 || Nat.beq t 97) ?_;repeat' first|refine u1 ?_|((with_reducible refine qq3 ?_);refine af.call o1 rfl rfl ?_)|refine u2 ?_|fail
   refine RM.iZ (mu:=fun t=>Nat.beq t 4 || Nat.beq t 94 || Nat.beq t 97) ?_;repeat' first|refine u1 ?_|((with_reducible refine qq3 ?_);refine af.call o2 rfl rfl ?_)|refine u2 ?_|fail
   refine RM.cutAt (st':=⟨bA [(3,.pt (aN t) 0),(4,.ptr 0 0 0),(5,.pt (Kl kd a b q x [z1,z2,z3,z4,z5,z6] raw) 0)],[.cells [av dy,.sl (nd.map aU) false,av ld,av fl',av rw',.sl (ints po) false] 0 0],cz.none,false,0⟩) ?_ ?_
   ·refine aa (mu:=fun t=>Nat.beq t 4 || Nat.beq t 94 || Nat.beq t 97) ?_;repeat' first|refine u1 ?_|refine u2 ?_|fail
    exact .is (ai.to 1 rfl ⟨rfl,rfl,rfl,trivial⟩ (qq5 _) rfl rfl)
   refine RM.iZ (mu:=fun t=>Nat.beq t 4 || Nat.beq t 94 || Nat.beq t 97) ?_;repeat' first|refine u1 ?_|((with_reducible show RM.wpOp _ _ (.convert _ _ _) _ _ _);refine U4 rfl hkd ?_)|refine u2 ?_|fail
   refine aE.aS (ai.to (l:=[(3,.pt (aN t) 0),(4,.ptr 0 0 0),(5,.pt (Kl kd a b q x [z1,z2,z3,z4,z5,z6] raw) 0),(13,av (i:Nat))]) (hp:=[.cells [av dy,.sl (nd.map aU) false,av ld,av fl',av rw',.sl (ints po) false] 0 0]) 1 rfl ⟨rfl,rfl,rfl,aJ hki,trivial⟩ (qq5 _) rfl rfl) ?_;refine RM.iZ (mu:=fun t=>Nat.beq t 4 || Nat.beq t 94 || Nat.beq t 97) ?_;repeat' first|refine u1 ?_|(refine ⟨_,_,.inl ⟨rfl,rfl⟩,q1,?_⟩)|((with_reducible refine qq4 ?_);refine ⟨cA kk,⟨by omega,hat⟩,rfl,?_⟩)|refine u2 ?_|fail
   refine RM.iZ (mu:=fun t=>Nat.beq t 4 || Nat.beq t 94 || Nat.beq t 97) ?_;repeat' first|refine u1 ?_|(refine ⟨_,_,.inl ⟨rfl,rfl⟩,q2,?_⟩)|(refine ⟨_,_,.inl ⟨rfl,rfl⟩,q3,?_⟩)|refine u2 ?_|fail
   have d2:decide ((n:Int) < 0)=false:=decide_eq_false (by omega);have d3:decide (((t.ax.map eI).length:Int) < (n:Int))=false:=decide_eq_false (by omega);refine RM.cutAt (st':=⟨bA [(3,.pt (aN t) 0),(4,.ptr 0 0 0),(5,.pt (Kl kd a b q x [z1,z2,z3,z4,z5,z6] raw) 0),(13,av (i:Nat)),(14,.ptr 1 0 0),(15,av (n:Nat))],[.cells [av dy,.sl (nd.map aU) false,av ld,av fl',av rw',.sl (ints po) false] 0 0,.cells (bC tr) 0 0],cz.none,false,0⟩) ?_ ?_
   ·refine aa (mu:=fun t=>Nat.beq t 4 || Nat.beq t 94 || Nat.beq t 97) ?_;repeat' first|refine u1 ?_|refine u2 ?_|fail
    exact .is (ai.to 2 rfl ⟨rfl,rfl,rfl,rfl,rfl,rfl,trivial⟩ (qq5 _) rfl rfl)
   have hnl2:(nd.map aU).length=nd.length:=by simp
   refine RM.iZ (mu:=fun t=>Nat.beq t 4 || Nat.beq t 94 || Nat.beq t 97) ?_;repeat' first|refine u1 ?_|((with_reducible show RM.wpOp _ _ (.call _) _ _ _);refine RM.G2 (cs:=[]) (n:=0) (c:=0) (els:=nd.map aU) rfl rfl rfl rfl rfl (fun el hel=>by obtain ⟨y,_,rfl⟩:=List.mem_map.1 hel;rfl) (Qz nd) rfl rfl (.inl rfl) (by exact ⟨by show (0+(nd.map aU).length) * 40≤_;omega,by omega⟩) (fun v1 c1 hc1=>?_))|refine u2 ?_|fail
   refine aE.aS (ai.to (l:=[(3,.pt (aN t) 0),(4,.ptr 0 0 0),(5,.pt (Kl kd a b q x [z1,z2,z3,z4,z5,z6] raw) 0),(13,av (i:Nat)),(14,.ptr 1 0 0),(15,av (n:Nat))]) (hp:=[.cells [av dy,.dw 2 v1 0 (0+(nd.map aU).length) c1,av ld,av fl',av rw',.sl (ints po) false] 0 0,.cells (bC tr) 0 0,.cells (nC nd) 4 v1]) 3 rfl ⟨rfl,rfl,rfl,rfl,rfl,rfl,trivial⟩ (qq5 _) rfl (by show (_ && (_ && (iA 3 (nC (nd)) && true)))=true;rw [Kr];rfl)) ?_
   match nd,hnl with
   | [],hnl=>exact absurd hnl.1 (Nat.not_succ_le_zero 0)
   | ⟨nm,fu,fi,wt⟩ :: ys,hnl =>
   refine aE.seq ?_;refine aE.cells (mu:=fun _=>false) (n:=18) (by kernel_rfl) rfl ?_;have hat:(nC (⟨nm,fu,fi,wt⟩ :: ys))[1]?=some (av fu):=rfl;have hl4:Nat.ble 4 (nC (⟨nm,fu,fi,wt⟩ :: ys)).length=true:=rfl;repeat' first|refine u1 ?_|refine RM.U3 ?_|refine RM.U2 ?_|refine u2 ?_|fail
   refine aE.aS (ai.to (l:=[(3,.pt (aN t) 0),(4,.ptr 0 0 0),(5,.pt (Kl kd a b q x [z1,z2,z3,z4,z5,z6] raw) 0),(13,av (i:Nat)),(14,.ptr 1 0 0),(15,av (n:Nat))]) (hp:=[.cells [av dy,.dw 2 v1 0 (0+((⟨nm,fu,fi,wt⟩ :: ys).map aU).length) c1,av ld,av fl',av rw',.sl (ints po) false] 0 0,.cells (bC tr) 0 0,.cells (nC (qe n (⟨nm,fu,fi,wt⟩ :: ys))) 4 v1]) 3 rfl ⟨rfl,rfl,rfl,rfl,rfl,rfl,trivial⟩ (qq5 _) rfl (by show (_ && (_ && (iA 3 (nC (qe n (⟨nm,fu,fi,wt⟩ :: ys))) && true)))=true;rw [Kr];rfl)) ?_;have hkl:=Qy (qe n (⟨nm,fu,fi,wt⟩ :: ys));have hfl:=De n (⟨nm,fu,fi,wt⟩ :: ys);have hfl2:((⟨nm,fu,fi,wt⟩ :: ys).map aU).length=(qe n (⟨nm,fu,fi,wt⟩ :: ys)).length:=by rw [List.length_map,hfl]
   generalize hND:qe n (⟨nm,fu,fi,wt⟩ :: ys)=ND at *
   generalize ((⟨nm,fu,fi,wt⟩ :: ys).map aU).length=len at *
   subst hfl2
   refine aE.aS (ai.Su 2 (l:=[(3,.pt (aN t) 0),(4,.ptr 0 0 0),(5,.pt (Kl kd a b q x [z1,z2,z3,z4,z5,z6] raw) 0),(13,av (i:Nat)),(14,.ptr 1 0 0),(15,av (n:Nat))]) (hp':=[.cells [av dy,.sl (ND.map aU) false,av ld,av fl',av rw',.sl (ints po) false] 0 0,.cells (bC tr) 0 0,.gone]) rfl (qq5 _) (NZ ND) ⟨.same rfl,.same rfl,.same rfl,.same rfl,.same rfl,.same rfl,trivial⟩
    ⟨GB.cells ⟨.same rfl,.row 4 (by rw [hkl];omega) (by rw [List.length_map];omega) (fun el hel=>by obtain ⟨y,_,rfl⟩:=List.mem_map.1 hel;rfl) (by rw [List.drop_zero,List.take_of_length_le (by rw [hkl];omega)]) (fun h=>Bool.noConfusion h),.same rfl,.same rfl,.same rfl,.same rfl,trivial⟩,GB.cells ⟨.same rfl,.same rfl,.same rfl,trivial⟩,rfl,trivial⟩) ?_
   refine aE.aS (ai.giveUp 0 (l:=[(3,.pt (aN t) 0),(4,.pt [av dy,.sl (ND.map aU) false,av ld,av fl',av rw',.sl (ints po) false] 0),(5,.pt (Kl kd a b q x [z1,z2,z3,z4,z5,z6] raw) 0),(13,av (i:Nat)),(14,.ptr 1 0 0),(15,av (n:Nat))]) (hp:=[.gone,.cells (bC tr) 0 0,.gone]) rfl (qq5 _) rfl ⟨.same rfl,.ptr,.same rfl,.same rfl,.same rfl,.same rfl,trivial⟩ rfl rfl) ?_;refine aE.aS (ai.giveUp 1 (l:=[(3,.pt (aN t) 0),(4,.pt [av dy,.sl (ND.map aU) false,av ld,av fl',av rw',.sl (ints po) false] 0),(5,.pt (Kl kd a b q x [z1,z2,z3,z4,z5,z6] raw) 0),(13,av (i:Nat)),(14,.pt (bC tr) 0),(15,av (n:Nat))]) (hp:=[.gone,.gone,.gone]) rfl (qq5 _) rfl ⟨.same rfl,.same rfl,.same rfl,.same rfl,.ptr,.same rfl,trivial⟩ rfl rfl) ?_;refine aE.aS (ai.to (l:=[(3,.pt (aN t) 0),(4,.pt [av dy,.sl (ND.map aU) false,av ld,av fl',av rw',.sl (ints po) false] 0),(5,.pt (Kl kd a b q x [z1,z2,z3,z4,z5,z6] raw) 0),(13,av (i:Nat)),(14,.pt (bC tr) 0),(15,av (n:Nat))]) (hp:=[]) 0 rfl ⟨rfl,rfl,rfl,rfl,rfl,rfl,trivial⟩ (qq5 _) rfl rfl) ?_;subst hND;exact tailc
  ·have d1:(!decide ((0:Int)=0))=false:=rfl;have d2:(!decide (e=0))=true:=by rw [decide_eq_false h2];rfl
   rw [h1] at o1;refine af.body (fn:=Tryz.f3) rfl rfl rfl rfl ?_;refine aa (mu:=fun t=>Nat.beq t 4 || Nat.beq t 94 || Nat.beq t 97) ?_;repeat' first|refine u1 ?_|((with_reducible refine qq3 ?_);refine af.call o1 rfl rfl ?_)|((with_reducible refine qq3 ?_);refine af.call o2 rfl rfl ?_)|((with_reducible refine qq3 ?_);refine af.call aw6 rfl rfl ?_)|((with_reducible refine qq3 ?_);refine af.call aw7 rfl rfl ?_)|refine u2 ?_|fail
   exact ⟨[_],⟨Fz.deep rfl,trivial⟩,rfl⟩
 ·have d1:(!decide ((gv t).2.2=0))=true:=by rw [decide_eq_false h1];rfl
  generalize (gv t).2.2=f at *
  refine af.body (fn:=Tryz.f3) rfl rfl rfl rfl ?_;refine aa (mu:=fun t=>Nat.beq t 4 || Nat.beq t 94 || Nat.beq t 97) ?_;repeat' first|refine u1 ?_|((with_reducible refine qq3 ?_);refine af.call o1 rfl rfl ?_)|((with_reducible refine qq3 ?_);refine af.call o2 rfl rfl ?_)|((with_reducible refine qq3 ?_);refine af.call aw6 rfl rfl ?_)|((with_reducible refine qq3 ?_);refine af.call aw7 rfl rfl ?_)|refine u2 ?_|fail
  exact ⟨[_],⟨Fz.deep rfl,trivial⟩,rfl⟩
end Go.Proofs.YtkappgolfkiaeaaGreatDoor.St
open Go Go.RM
namespace Go.Proofs.YtkappgolfkiaeaaGreatDoor
set_option maxRecDepth 100000
theorem MF {l:List AV} (h:TV (.int .u8) l):∃ n:Nat,n≤255∧l=[U8 n]:=by obtain ⟨n,hn,rfl⟩:=Ug h;have h1:IntKind.u8.min=0:=rfl;have h2:IntKind.u8.max=255:=rfl;simp [Lit.wf] at hn;obtain ⟨m,rfl⟩:∃ m:Nat,n=(m:Int):=⟨n.toNat,by omega⟩;exact ⟨m,by omega,rfl⟩
theorem QA {l:List AV} (h:TV (.arr 6 (.int .u8)) l):∃ a b c d e f:Nat,l=[U8 a,U8 b,U8 c,U8 d,U8 e,U8 f]:=by
 obtain ⟨els,hl,he,rfl⟩:=Uy h
 match els,hl with
 | [u,v,w,x,y,z],_ =>obtain ⟨a,_,rfl⟩:=MF (he u (by simp));obtain ⟨b,_,rfl⟩:=MF (he v (by simp));obtain ⟨c,_,rfl⟩:=MF (he w (by simp));obtain ⟨d,_,rfl⟩:=MF (he x (by simp));obtain ⟨e,_,rfl⟩:=MF (he y (by simp));obtain ⟨f,_,rfl⟩:=MF (he z (by simp));exact ⟨a,b,c,d,e,f,rfl⟩
end Go.Proofs.YtkappgolfkiaeaaGreatDoor
namespace Go.Proofs.YtkappgolfkiaeaaGreatDoor.St
open Go.RM
set_option maxRecDepth 1000000
noncomputable def TR:List XE:=[Tv,Tx,Tz,TC,TE,TG,TM,TP]
theorem N4:∀ e ∈ TR,aj TT e:=by
 unfold TR;simp only [List.mem_cons,List.not_mem_nil,or_false];rintro e (rfl|rfl|rfl|rfl|rfl|rfl|rfl|rfl)
 ·exact Tw
 ·exact Ty
 ·exact TA
 ·exact TD
 ·exact TF
 ·exact TH
 ·exact TN
 ·exact TQ
theorem TS:aj TT RR:=ak aA ah N4 1000 (by kernel_rfl)
end Go.Proofs.YtkappgolfkiaeaaGreatDoor.St
open Go Go.RM
namespace Go.Proofs.YtkappgolfkiaeaaGreatDoor.St
open Go.ChangeShapes Go.WideShapes Go.ChangeAt Go.RowKit
theorem U5 {n:Int} (h:(Lit.int .u8 n).wf=true):0≤n∧n≤255:=by simp only [Lit.wf,qq7,decide_eq_true_eq] at h;exact h
theorem Uo {n:Int} (h:(Lit.int .u16 n).wf=true):0≤n∧n≤65535:=by simp only [Lit.wf,qq7,decide_eq_true_eq] at h;exact h
abbrev T3:Sh:=.int .u8
abbrev MC:Sh:=.cons T3 (.cons (.arr 3 Qh) (.cons (.slice T3) .nil))
theorem MF {l:List AV} (h:TV T3 l):∃ n,(0≤n∧n≤255)∧l=[.fl (.int .u8 n)]:=by obtain ⟨n,hn,rfl⟩:=Ug h;exact ⟨n,U5 hn,rfl⟩
theorem RA {l:List AV} (h:TV Qh l):∃ n,(0≤n∧n≤65535)∧l=[.fl (.int .u16 n)]:=by obtain ⟨n,hn,rfl⟩:=Ug h;exact ⟨n,Uo hn,rfl⟩
theorem Up {l:List AV} (h:TV (.arr 3 Qh) l):∃ a b c,((0≤a∧a≤65535)∧(0≤b∧b≤65535)∧(0≤c∧c≤65535))∧l=[.fl (.int .u16 a),.fl (.int .u16 b),.fl (.int .u16 c)]:=by
 obtain ⟨els,hl,he,rfl⟩:=Uy h
 match els,hl with
 | [x,y,z],_ =>obtain ⟨a,ha,rfl⟩:=RA (he x (by simp));obtain ⟨b,hb,rfl⟩:=RA (he y (by simp));obtain ⟨c,hc,rfl⟩:=RA (he z (by simp));exact ⟨a,b,c,⟨ha,hb,hc⟩,rfl⟩
theorem RB {l:List AV} (h:TV MC l):∃ (kd a b c:Int) (taken:List (List AV)),((0≤kd∧kd≤255)∧(0≤a∧a≤65535)∧(0≤b∧b≤65535)∧(0≤c∧c≤65535))∧(taken.length≤maxLen∧∀ el ∈ taken,TV T3 el)∧l=[.fl (.int .u8 kd),.fl (.int .u16 a),.fl (.int .u16 b),.fl (.int .u16 c),.sl taken false]:=by obtain ⟨_,_,h1,k1,rfl⟩:=qY h;obtain ⟨_,_,h2,k2,rfl⟩:=qY k1;obtain ⟨_,_,h3,k3,rfl⟩:=qY k2;obtain rfl:=Oi k3;obtain ⟨kd,hk,rfl⟩:=MF h1;obtain ⟨a,b,c,hh,rfl⟩:=Up h2;obtain ⟨els,hl,he,rfl⟩:=RH h3;exact ⟨kd,a,b,c,els,⟨hk,hh⟩,⟨hl,he⟩,rfl⟩
end Go.Proofs.YtkappgolfkiaeaaGreatDoor.St
