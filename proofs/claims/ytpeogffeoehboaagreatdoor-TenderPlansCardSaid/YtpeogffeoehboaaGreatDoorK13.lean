/-
  Contracts of the program's functions and of the document's. Lemmas alone; their conditions stand in them.
-/
import Derived.Test.YtpeogffeoehboaaGreatDoorK12
open Go Go.RM
namespace Go.Proofs.YtpeogffeoehboaaGreatDoor
set_option maxRecDepth 100000
set_option maxHeartbeats 4000000
theorem SV {a:AV} (n:Nat) (h:a=aC ((n:Nat)+1):=by rfl):a=.fl (.int .i64 ((n+1:Nat):Int)):=h
def Ta (N:Nat):Option (List Order)→AV
 | none=>.fl (.slice none 0 0)
 | some _=>.bg 5 0 0 N (N+1)
def Tb (l:List AB):Option (List Order)→List AB
 | none=>l
 | some p=>l++[fL p 0]
abbrev GK (E:List oy) (ck:Nat) (A1 A2 A3:AB) (P:List Order) (aA:Nat):List AB:=[.map (aK E) ck,A1,A2,A3,fL P aA]
theorem pH (n:Nat):∀ (E:List oy) (ck:Nat),AB.gF n (.map (aK E) ck)=true
 | [],_=>rfl
 | _ :: E,ck=>pH n E ck
theorem nQ {A1 A2 A3:AB} (h1:AB.gF 5 A1=true) (h2:AB.gF 5 A2=true) (h3:AB.gF 5 A3=true) (E:List oy) (ck:Nat) (P:List Order) (aA:Nat):(GK E ck A1 A2 A3 P aA).all (AB.gF 5)=true:=by have h:AB.gF 5 (fL P aA)=true:=sM 5 P;simp only [List.all_cons,List.all_nil,h1,h2,h3,h,pH,Bool.and_true]
theorem Q6 {R:List Nat} {i:Nat} (h:i < R.length):(ud R)[((i:Nat):Int).toNat]?=some [eF R[i]]:=by rw [Int.toNat_natCast,List.getElem?_map,List.getElem?_eq_getElem h];rfl
theorem DD (s:ai):(aI s).length≤7:=by unfold aI;exact Nat.le_trans (List.length_filter_le _ _) (by decide)
theorem Q7 (one:Bool) {s:ai} {D:List Int} (h1D:1≤D.length) (h8D:D.length≤6) (hDp:D.Pairwise (· < ·)) (hDr:∀ x ∈ D,0≤x∧x < s.days) {A1 A2 A3:AB} (hA1:AB.gF 5 A1=true) (hA2:AB.gF 5 A2=true) (hA3:AB.gF 5 A3=true) {N:Nat} (hN:D.length=N) :
  ∀ (r n:Nat) (_:n+r=N) (b P:List Order) (_:jC s b) (_:b.length=n) (_:P.take n=b) (_:P.map (·.day)=D) (E:List oy) (ck:Nat) (B:Int) (_:og B E) (_:0≤B∧B+8 ^ r≤1000000000000) (aA c:Nat) (aE:bA) (Q:AV→List AB→bA→Prop)
   (_:∀ (E':List oy) (ck':Nat) (P':List Order),P'.map (·.day)=D→P'.take n=b→og (B+8 ^ r) E'→Q (Ta N (bl s (D.drop n) b)) (Tb (GK E' ck' A1 A2 A3 P' aA) (bl s (D.drop n) b)) aE),
   az TT TB one (.fn 69 [] []) [.ag (ay s),.bg 4 aA 0 N c,aC (n:Nat),.sl (ud (aI s)) false,.om 0] (GK E ck A1 A2 A3 P aA) aE Q:=by
 intro r
 induction r with
 | zero =>
  intro n hnr b P hb hbl hPt hPd E ck B hB hB0 aA c aE Q hQ;obtain rfl:n=N:=by omega
  have hPl:P.length=n:=by rw [←hN,←hPd,List.length_map]
  have hPb:P=b:=by rw [←hPt,List.take_of_length_le (by omega)]
  subst hPb;subst hPl;have d0:decide ((P.length:Int)=(P.length:Int))=true:=decide_eq_true rfl;have hcut:=Bx P P.length (by omega);rw [hPt] at hcut;have hd0:D.drop P.length=[]:=List.drop_of_length_le (by omega);rw [hd0] at hQ;have hfail:=hb.good.fail;have oh:Pu one 36 [.ag (ay s),.sl (P.map aD) false,aC 0,kO 0,aC s.fail] (BB (cu s P 0 0 s.fail)):=by have:=Gy one hb false 0 0 s.fail.toNat (qq5 _) (by decide) (by omega);rw [show ((s.fail.toNat:Nat):Int)=s.fail by omega] at this;exact this
  have hrow:Fz (GK E ck A1 A2 A3 P aA) (.bg 4 aA 0 P.length c) (.sl (P.map aD) false):=Fz.row (es:=2) rfl hcut.1 hcut.2.1 hcut.2.2.1 hcut.2.2.2 (mJ P) (fun h=>Bool.noConfusion h);have hm:og (B+8 ^ 0) E:=hB.mono (by omega);have hQ:=hQ E ck P hPd hPt hm;unfold bl at hQ;refine az.body (fn:=Tryz.f69) rfl rfl rfl ?_
  cases hh:cu s P 0 0 s.fail with
  | true =>
   rw [hh] at oh hQ;rw [if_pos rfl] at hQ;refine qq1 ?_;repeat' first|((with_reducible refine qq3 ?_);refine aj.K9 oh rfl (l7.cons (Fz.deep rfl) (l7.cons hrow (l7.cons (Fz.deep rfl) (l7.cons (Fz.deep rfl) (l7.tO (Fz.deep rfl)))))) (fA.fl _) ?_)|(refine HU one (by omega) (by omega) ?_)|refine u1 ?_|refine u2 ?_|fail
   exact hQ
  | false =>
   rw [hh] at oh hQ;rw [if_neg (by simp)] at hQ;refine qq1 ?_;repeat' first|((with_reducible refine qq3 ?_);refine aj.K9 oh rfl (l7.cons (Fz.deep rfl) (l7.cons hrow (l7.cons (Fz.deep rfl) (l7.cons (Fz.deep rfl) (l7.tO (Fz.deep rfl)))))) (fA.fl _) ?_)|refine u1 ?_|refine u2 ?_|fail
   exact hQ
 | succ r ih =>
  intro n hnr b P hb hbl hPt hPd E ck B hB hB0 aA c aE Q hQ;have hnN:n < N:=by omega
  have hnD:n < D.length:=by omega
  have hdr:D.drop n=D[n] :: D.drop (n+1):=List.drop_eq_getElem_cons hnD
  have hlast:∀ x ∈ b,x.day < D[n]:=by
   intro x hx;obtain ⟨k,hk,rfl⟩:=List.mem_iff_getElem.1 hx
   have e:b[k].day=D[k]'(by omega):=by
    have h1:b[k]?=P[k]?:=by rw [←hPt,List.getElem?_take,if_pos (by omega)]
    have h2:(P.map (·.day))[k]?=D[k]?:=by rw [hPd]
    rw [List.getElem?_map,←h1,List.getElem?_eq_getElem hk,List.getElem?_eq_getElem (show k < D.length by omega)] at h2;exact Option.some.inj h2
   rw [e];exact List.pairwise_iff_getElem.1 hDp k n (by omega) hnD (by omega)
  have hdn:=hDr _ (List.getElem_mem hnD);obtain ⟨mm,hmm⟩:∃ m:Int,m=(aI s).length:=⟨_,rfl⟩;have em:((ud (aI s)).length:Int)=(aI s).length:=by simp
  have hc7:=DD s;have hlv:bl s (D.drop n) b=(aI s).findSome? fun f=>bl s (D.drop (n+1)) (b++[⟨D[n],aL f⟩]):=by rw [hdr,bl]
  have hp8:((8:Int) ^ (r+1))=8 ^ r * 8:=Int.pow_succ 8 r;have hp1:(0:Int) < 8 ^ r:=Int.pow_pos (by decide)
  generalize hX:(8:Int) ^ r=X at *
  refine az.body (fn:=Tryz.f69) rfl rfl rfl ?_;have d0:decide ((n:Int)=(N:Int))=false:=decide_eq_false (by omega);refine qq2 ?_;repeat' first|refine u1 ?_|refine u2 ?_|fail
  refine qq2 ?_;repeat' first|refine u1 ?_|refine u2 ?_|fail
  refine av.seq ?_;refine qq2 ?_;repeat' first|refine u1 ?_|refine u2 ?_|fail
  refine av.block ?_;refine av.aJ (ah.to (l:=[(1,.bg 4 aA 0 N c),(2,aC (n:Nat)),(3,.sl (ud (aI s)) false),(4,.om 0),(5,.pt (ay s) 0),(28,.sl (ud (aI s)) false),(29,aC mm),(30,aC (0:Nat))]) (hp:=GK E ck A1 A2 A3 P aA) 5 rfl ⟨rfl,rfl,rfl,rfl,rfl,rfl,bq (by rw [hmm];exact em),rfl,trivial⟩ (qq6 _) rfl (nQ hA1 hA2 hA3 _ _ _ _)) ?_;refine av.loop (fun x:Nat × List oy × Nat × List Order=>x.1≤(aI s).length∧x.2.2.2.map (·.day)=D∧x.2.2.2.take n=b∧og (B+x.1 * X) x.2.1∧∀ (k:Nat) (hk:k < (aI s).length),k < x.1→bl s (D.drop (n+1)) (b++[⟨D[n],aL (aI s)[k]⟩])=none) (fun x=>⟨aZ [(1,.bg 4 aA 0 N c),(2,aC (n:Nat)),(3,.sl (ud (aI s)) false),(4,.om 0),(5,.pt (ay s) 0),(28,.sl (ud (aI s)) false),(29,aC mm),(30,aC (x.1:Nat))],GK x.2.1 x.2.2.1 A1 A2 A3 x.2.2.2 aA,aE,false,5⟩) (fun x=>(aI s).length - x.1) ?_ (0,E,ck,P) ⟨qq5 _,hPd,hPt,by dsimp only;rw [show B+((0:Nat):Int) * X=B by simp];exact hB,fun k _ hk=>absurd hk (Nat.not_lt_zero _)⟩;rintro ⟨i,E1,ck1,P1⟩ ⟨hi,hP1d,hP1t,hB1,hprev⟩;dsimp only at hi hP1d hP1t hB1 hprev;have hP1l:P1.length=N:=by rw [←hN,←hP1d,List.length_map]
  show av _ _ _ _ ⟨aZ [(1,.bg 4 aA 0 N c),(2,aC (n:Nat)),(3,.sl (ud (aI s)) false),(4,.om 0),(5,.pt (ay s) 0),(28,.sl (ud (aI s)) false),(29,aC mm),(30,aC (i:Nat))],GK E1 ck1 A1 A2 A3 P1 aA,aE,false,5⟩ _;by_cases hlt:i < (aI s).length
  ·have d1:decide ((i:Int) < mm)=true:=decide_eq_true (by omega);have hat:=Q6 hlt;have hfc:=List.getElem_mem hlt
   have hprev':bl s (D.drop (n+1)) (b++[⟨D[n],aL (aI s)[i]⟩])=none→∀ (k:Nat) (hk:k < (aI s).length),k < i+1→bl s (D.drop (n+1)) (b++[⟨D[n],aL (aI s)[k]⟩])=none:=fun h k hk hki=>by
    by_cases e:k=i
    ·subst e;exact h
    ·exact hprev k hk (by omega)
   have hfind:∀ p,bl s (D.drop (n+1)) (b++[⟨D[n],aL (aI s)[i]⟩])=some p→bl s (D.drop n) b=some p:=fun p h=>by
    rw [hlv,List.findSome?_eq_some_iff];refine ⟨(aI s).take i,(aI s)[i],(aI s).drop (i+1),?_,h,fun x hx=>?_⟩
    ·rw [←List.drop_eq_getElem_cons hlt,List.take_append_drop]
    ·obtain ⟨k,hk,rfl⟩:=List.mem_iff_getElem.1 hx;rw [List.length_take] at hk;rw [List.getElem_take];exact hprev k (by omega) (by omega)
   generalize (aI s)[i]=f at *
   have hok:=xD hb.good hfc hdn;have hpg:=xE hb (by omega) hok hlast;obtain ⟨P2,hP2⟩:∃ P2,P2=Fu P1 n (aL f):=⟨_,rfl⟩
   have hdn1:P1[n].day=D[n]:=by
    have h2:(P1.map (·.day))[n]?=D[n]?:=by rw [hP1d]
    rw [List.getElem?_map,List.getElem?_eq_getElem (show n < P1.length by omega),List.getElem?_eq_getElem hnD] at h2;exact Option.some.inj h2
   have hP2d:P2.map (·.day)=D:=by rw [hP2,HS];exact hP1d
   have hP2t:P2.take (n+1)=b++[⟨D[n],aL f⟩]:=by rw [hP2,HT (by omega),hP1t,hdn1]
   have hP2n:P2.take n=b:=by
    have h1:(P2.take (n+1)).take n=P2.take n:=by rw [List.take_take,Nat.min_eq_left (by omega)]
    rw [←h1,hP2t,List.take_append_of_le_length (by omega),←hbl,List.take_length]
   have hP2l:P2.length=N:=by rw [←hN,←hP2d,List.length_map]
   have hset:=Bw (P:=P1) (n:=n) (l:=aL f) (by omega);rw [←hP2] at hset;have hsb:Nat.ble (0+((n:Nat):Int).toNat * 2+1+1) (kj P1).length=true:=Nat.ble_eq_true_of_le (by rw [lO,Int.toNat_natCast];omega);have hset':dy (kj P1) [eF f] (0+((n:Nat):Int).toNat * 2+1)=kj P2:=by rw [Int.toNat_natCast,Nat.zero_add];exact hset
   have hcut:=Bx P2 (n+1) (by omega);rw [hP2t] at hcut
   generalize hb2:b++[(⟨D[n],aL f⟩:Order)]=b2 at *
   have hb2l:b2.length=n+1:=by rw [←hb2,List.length_append,hbl];rfl
   have ob:=Dk true hpg false 0 (by decide);have hpr:=fun d m e h1 h2 h3=>prune (s:=s) hb.good (ds:=D.drop (n+1)) (b:=b2) (d:=d) (n:=m) (e:=e) h1 h2 h3;refine qq2 ?_;repeat' first|refine u1 ?_|refine u2 ?_|fail
   refine qq2 ?_;repeat' first|refine u1 ?_|refine u2 ?_|fail
   refine av.seq ?_;refine av.block ?_;refine qq2 ?_;repeat' first|(refine ⟨[eF f],⟨by omega,hat⟩,rfl,?_⟩)|refine u1 ?_|refine u2 ?_|fail
   refine qq2 ?_;repeat' first|((with_reducible show di _ _ _ _ _ _);refine RM.O5 rfl rfl rfl rfl rfl rfl hsb ?_)|refine u1 ?_|refine u2 ?_|fail
   refine av.aJ (ah.to (l:=[(1,.bg 4 aA 0 N c),(2,aC (n:Nat)),(3,.sl (ud (aI s)) false),(4,.om 0),(5,.pt (ay s) 0),(28,.sl (ud (aI s)) false),(29,aC mm),(30,aC (i:Nat))]) (hp:=GK E1 ck1 A1 A2 A3 P2 aA) 5 (by show _=[AB.map (aK E1) ck1,A1,A2,A3,AB.cells (kj P2) 2 aA];rw [←hset'];rfl) ⟨rfl,rfl,rfl,rfl,rfl,rfl,rfl,rfl,trivial⟩ (qq6 _) rfl (nQ hA1 hA2 hA3 _ _ _ _)) ?_;have hrow:Fz (GK E1 ck1 A1 A2 A3 P2 aA) (.bg 4 aA (0+0 * 2) (n+1 - 0) (n+1 - 0)) (.sl (b2.map aD) false):=Fz.row (es:=2) rfl hcut.1 hcut.2.1 hcut.2.2.1 hcut.2.2.2 (mJ b2) (fun h=>Bool.noConfusion h)
   obtain ⟨x,y,is,hbrk,hx⟩:∃ (x y:Int) (is:Bool),yC s b2 0=.tp [.ag [kO 0,aC x,aC y],BB is]∧(is=true→∃ d:Nat,x=(d:Nat)∧jV s b2 0=some (d,y)):=by
    unfold yC
    cases hbv:jV s b2 0 with
    | none=>exact ⟨0,0,false,rfl,fun h=>by cases h⟩
    | some v=>exact ⟨_,_,true,rfl,fun _=>⟨v.1,rfl,rfl⟩⟩
   rw [hbrk] at ob
   have hfr:fA (.tp [.ag [kO 0,aC x,aC y],BB is]):=fA.tp fun c hc=>by
    simp only [List.mem_cons,List.not_mem_nil,or_false] at hc
    rcases hc with rfl|rfl
    ·exact fA.ag fun c hc=>by simp only [List.mem_cons,List.not_mem_nil,or_false] at hc;rcases hc with rfl|rfl|rfl <;> exact fA.fl _
    ·exact fA.fl _
   have hs31:n+1≤N:=by omega
   refine qq2 ?_;repeat' first|(refine RM.Um rfl (SV n) (SV n) rfl hs31 (by decide) ?_)|(refine RM.n2 ob rfl rfl rfl (l7.cons (Fz.deep rfl) (l7.cons hrow (l7.tO (Fz.deep rfl)))) hfr ?_)|refine u1 ?_|refine u2 ?_|fail
   have hi7:(i:Int) * X≤6 * X:=Int.mul_le_mul_of_nonneg_right (by omega) (Int.le_of_lt hp1);have hi0:0≤(i:Int) * X:=Int.mul_nonneg (by omega) (Int.le_of_lt hp1);have hi1:((i+1:Nat):Int) * X=(i:Int) * X+X:=by rw [Int.natCast_add,Int.add_mul];simp
   obtain ⟨W,hW⟩:∃ W:Int,W=B+(i:Int) * X:=⟨_,rfl⟩;rw [←hW] at hB1;have hW0:0≤W∧W+X≤1000000000000∧B+((i+1:Nat):Int) * X=W+X∧W+X≤B+7 * X:=by omega
   clear hi7 hi0 hi1 hW;refine RM.cutAt (st':=⟨aZ [(1,.bg 4 aA 0 N c),(2,aC (n:Nat)),(3,.sl (ud (aI s)) false),(4,.om 0),(5,.pt (ay s) 0),(28,.sl (ud (aI s)) false),(29,aC mm),(30,aC (i:Nat))],GK E1 ck1 A1 A2 A3 P2 aA,aE,false,5⟩) ?_ ?_
   ·cases is with
    | false =>
     refine qq1 ?_;repeat' first|refine u1 ?_|refine u2 ?_|fail
     exact .is (ah.to 5 rfl ⟨rfl,rfl,rfl,rfl,rfl,rfl,rfl,rfl,trivial⟩ (qq6 _) rfl (nQ hA1 hA2 hA3 _ _ _ _))
    | true =>
     obtain ⟨dd,rfl,hbv⟩:=hx rfl;by_cases hn1:n+1 < N
     ·have d2:decide ((n:Int)+1 < (N:Int))=true:=decide_eq_true (by omega);have hday:=GH (P:=P2) (n:=n+1) (by omega);have hday':(kj P2)[0+((n:Int)+1).toNat * 2+0]?=some (aC P2[n+1].day):=by rw [show ((n:Int)+1).toNat=n+1 by omega,Nat.zero_add,Nat.add_zero];exact hday
      have heD:P2[n+1].day=D[n+1]'(by omega):=by
       have h2:(P2.map (·.day))[n+1]?=D[n+1]?:=by rw [hP2d]
       rw [List.getElem?_map,List.getElem?_eq_getElem (show n+1 < P2.length by omega),List.getElem?_eq_getElem (show n+1 < D.length by omega)] at h2;exact Option.some.inj h2
      have hds:∀ x ∈ D.drop (n+1),D[n+1]'(by omega)≤x:=by
       intro x hx;obtain ⟨k,hk,rfl⟩:=List.mem_iff_getElem.1 hx;rw [List.getElem_drop];by_cases e:k=0
       ·subst e;exact Int.le_refl _
       ·exact Int.le_of_lt (List.pairwise_iff_getElem.1 hDp (n+1) (n+1+k) (by omega) (by rw [List.length_drop] at hk;omega) (by omega))
      by_cases hpd:(dd:Int) < D[n+1]'(by omega)
      ·have d3:decide ((dd:Int) < P2[n+1].day)=true:=decide_eq_true (by rw [heD];exact hpd);have hno:=hprev' (hpr dd y _ hbv hpd hds);generalize P2[n+1].day=e at hday' d3;clear hpd hds heD hday;have hv9:=Q3 (0,(dd:Int),y) hB1 hW0.1;have hE2:=HW (0,(dd:Int),y) hB1 hW0.1 ck1;have hbm:=HX (0,(dd:Int),y) E1 ck1;have htv:=Fw (0,(dd:Int),y) E1 ck1;refine qq2 ?_;repeat' first|((with_reducible show RM.wpOp _ _ (.load _ _) _ _ _);refine RM.MA rfl rfl rfl hday' ?_)|refine u1 ?_|refine u2 ?_|fail
       refine av.cond rfl (fun _=>?_) (fun h=>absurd (d3.symm.trans h) (by simp));refine av.seq ?_;refine av.HZ rfl (by kernel_rfl) ?_;unfold Fx;repeat' first|(refine Pd (key:=(0,(dd:Int),y)) rfl rfl rfl ?_)|(refine Q4 (key:=(0,(dd:Int),y)) rfl rfl rfl ?_)|refine u1 ?_|refine u2 ?_|fail
       refine And.intro (Pd (key:=(0,(dd:Int),y)) (E:=nP (0,(dd:Int),y) E1 ck1) rfl rfl rfl (by rw [htv])) ?_;repeat' first|(refine Q5 rfl rfl rfl rfl hE2 (by omega) hbm (fun E3 hE3=>?_))|refine u1 ?_|refine u2 ?_|fail
       refine qq1 ?_;repeat' first|refine u1 ?_|refine u2 ?_|fail
       refine qq1 ?_;repeat' first|refine u1 ?_|refine u2 ?_|fail
       exact ⟨(i+1,E3,Fv (0,(dd:Int),y) E1 ck1,P2),⟨hlt,hP2d,hP2n,hE3.mono (by dsimp only;omega),hno⟩,(by dsimp only;omega),ah.to 5 rfl ⟨rfl,rfl,rfl,rfl,rfl,rfl,rfl,bq (by simp),trivial⟩ (qq6 _) rfl (nQ hA1 hA2 hA3 _ _ _ _)⟩
      ·have d3:decide ((dd:Int) < P2[n+1].day)=false:=decide_eq_false (by rw [heD];exact hpd);generalize P2[n+1].day=e at hday' d3;clear hpd hds heD hday;refine qq1 ?_;repeat' first|((with_reducible show RM.wpOp _ _ (.load _ _) _ _ _);refine RM.MA rfl rfl rfl hday' ?_)|refine u1 ?_|refine u2 ?_|fail
       exact .is (ah.to 5 rfl ⟨rfl,rfl,rfl,rfl,rfl,rfl,rfl,rfl,trivial⟩ (qq6 _) rfl (nQ hA1 hA2 hA3 _ _ _ _))
     ·have d2:decide ((n:Int)+1 < (N:Int))=false:=decide_eq_false (by omega);refine qq1 ?_;repeat' first|refine u1 ?_|refine u2 ?_|fail
      exact .is (ah.to 5 rfl ⟨rfl,rfl,rfl,rfl,rfl,rfl,rfl,rfl,trivial⟩ (qq6 _) rfl (nQ hA1 hA2 hA3 _ _ _ _))
   ·have ih':=ih (n+1) (by omega) b2 P2 hpg hb2l hP2t hP2d E1 ck1 W hB1 ⟨hW0.1,by omega⟩ aA c aE
    have hback:∀ P3:List Order,P3.take (n+1)=b2→P3.take n=b:=fun P3 h=>by
     have h1:(P3.take (n+1)).take n=P3.take n:=by rw [List.take_take,Nat.min_eq_left (by omega)]
     rw [←h1,h,←hb2,List.take_append_of_le_length (by omega),←hbl,List.take_length]
    have hN0:N ≠ 0:=by omega
    cases hld:bl s (D.drop (n+1)) b2 with
    | none =>
     rw [hld] at ih';have hno:=hprev' hld;refine qq2 ?_;repeat' first|(refine ih' _ (fun E2 ck2 P3 h1 h2 h3=>?_))|refine u1 ?_|refine u2 ?_|fail
     refine qq1 ?_;repeat' first|refine u1 ?_|refine u2 ?_|fail
     refine qq1 ?_;repeat' first|refine u1 ?_|refine u2 ?_|fail
     exact ⟨(i+1,E2,ck2,P3),⟨hlt,h1,hback P3 h2,h3.mono (by dsimp only;omega),hno⟩,(by dsimp only;omega),ah.to 5 rfl ⟨rfl,rfl,rfl,rfl,rfl,rfl,rfl,bq (by simp),trivial⟩ (qq6 _) rfl (nQ hA1 hA2 hA3 _ _ _ _)⟩
    | some p =>
     rw [hld] at ih';have hsome:=hfind p hld;rw [hsome] at hQ;refine qq2 ?_;repeat' first|(refine ih' _ (fun E2 ck2 P3 h1 h2 h3=>?_))|refine u1 ?_|refine u2 ?_|fail
     refine qq1 ?_;repeat' first|(refine RM.SL rfl hN0 (by kernel_rfl) rfl ?_)|refine u1 ?_|refine u2 ?_|fail
     exact hQ E2 ck2 P3 h1 (hback P3 h2) (h3.mono (by omega))
  ·have d1:decide ((i:Int) < mm)=false:=decide_eq_false (by omega);have hnone:bl s (D.drop n) b=none:=by rw [hlv,List.findSome?_eq_none_iff];intro x hx;obtain ⟨k,hk,rfl⟩:=List.mem_iff_getElem.1 hx;exact hprev k hk (by omega)
   have hi7:(i:Int) * X≤7 * X:=Int.mul_le_mul_of_nonneg_right (by omega) (Int.le_of_lt hp1);have hQ:=hQ E1 ck1 P1 hP1d hP1t (hB1.mono (by omega));rw [hnone] at hQ;refine qq1 ?_;repeat' first|refine u1 ?_|refine u2 ?_|fail
   refine qq1 ?_;repeat' first|refine u1 ?_|refine u2 ?_|fail
   exact hQ
abbrev bZ (d:Int):List AV:=[aC d,.fl (.slice none 0 0)]
def Rr (ds:List Int):List AV:=(ds.map bZ).flatten
def Td (ds:List Int):List Order:=ds.map fun d=>⟨d,[]⟩
theorem DE:∀ ds:List Int,cm (Rr ds) (kj (Td ds))
 | []=>trivial
 | _ :: ds=>⟨aW.refl _,aW.nil _,DE ds⟩
theorem Md (ds:List Int) (d:Int):Rr ds++[bZ d].flatten=Rr (ds++[d]):=by unfold Rr;rw [List.map_append,List.flatten_append];rfl
theorem Tz {n:Nat} (h:n≤6):(8:Int) ^ n≤262144:=by
 have h1:=Nat.pow_le_pow_right (show 0 < 8 by decide) h;have e:(8:Int) ^ n=((8 ^ n:Nat):Int):=by simp
 have e6:8 ^ 6=262144:=rfl;omega
theorem ue {s:ai} (hg:Good s):jC s []:=⟨hg,qq5 _,(fun o ho=>by cases ho),fun i j hi=>absurd hi (Nat.not_lt_zero _)⟩
abbrev Te (s:ai) (days:List Int) (df:Bool):List AV:=[.ptr 2 0 0,.pt (ay s) 0,.pt [.sl (ud (aI s)) false] 0,.pt [.sl (ints days) df] 0,.ptr 3 0 0]
abbrev yI:AB:=.cells [.om 0] 0 0
abbrev BD (s:ai) (days:List Int) (df:Bool):AB:=.cells [.fn 68 [] (Te s days df)] 0 0
theorem ND (one:Bool) {s:ai} (hg:Good s) {days:List Int} {df:Bool} {D:List Int} (h1D:1≤D.length) (h6D:D.length≤6) (hDp:D.Pairwise (· < ·)) (hDr:∀ x ∈ D,0≤x∧x < s.days) {E:List oy} {ck:Nat} {cs:List AV} (hcs:cs=Rr D) {aA c:Nat} {fr:Int} {aE:bA} {Q:AV→List AB→bA→Prop}
  (hQ:∀ (E':List oy) (ck':Nat) (P':List Order),Q (Ta D.length (bl s D [])) (Tb (GK E' ck' .gone yI (BD s days df) P' aA) (bl s D [])) aE) :
  az TT TB one (.fn 68 [] (Te s days df)) [.bg 4 aA 0 D.length c,aC fr,aC 0] [.map (aK E) ck,.gone,yI,BD s days df,.cells cs 2 aA] aE Q:=by
 subst hcs;have hp:=Tz h6D;have hld:=Q7 one h1D h6D hDp hDr (A1:=.gone) (A2:=yI) (A3:=BD s days df) rfl rfl rfl rfl D.length 0 (by omega) [] (Td D) (ue hg) rfl rfl (by unfold Td;rw [List.map_map];exact List.map_id' D);rw [List.drop_zero] at hld;have d0:decide ((0:Int)=0)=true:=by decide
 refine az.body (fn:=Tryz.f68) rfl rfl rfl ?_;refine av.aJ (ah.Qw 4 (ds:=kj (Td D)) rfl (DE D) rfl) ?_
 cases hl:bl s D [] with
 | none =>
  rw [hl] at hld hQ;refine qq1 ?_;repeat' first|refine RM.TW rfl rfl rfl ?_|(refine hld [] ck 0 (fun x hx=>by cases hx) ⟨Int.le_refl _,by omega⟩ _ _ _ _ (fun E' ck' P' h1 h2 h3=>?_))|refine u1 ?_|refine u2 ?_|fail
  exact hQ E' ck' P'
 | some p =>
  rw [hl] at hld hQ;refine qq1 ?_;repeat' first|refine RM.TW rfl rfl rfl ?_|(refine hld [] ck 0 (fun x hx=>by cases hx) ⟨Int.le_refl _,by omega⟩ _ _ _ _ (fun E' ck' P' h1 h2 h3=>?_))|refine u1 ?_|refine u2 ?_|fail
  exact hQ E' ck' P'
theorem SW {T:bJ} {fr:Nat→AV} {hp:List AB} {K:AV→List AB→Prop} {s x:Operand} {t u e:TypeId} {a1 a2 a3 a4 a5 a6} {els0 els:List (List AV)} {f:Bool} {inf:rB} (hs:aN fr s=.sl els0 true) (hx:aN fr x=.sl els f)
  (hu:T.ty.get u=some ⟨.slice e,a1,a2,a3,a4,a5,a6⟩) (hi:elem? T t=some inf) (hz:bD inf=true) (h0:∀ el ∈ els0,el.length=inf.size) (hel:∀ el ∈ els,el.length=inf.size) (h1:els.flatten.all AV.one=true) (hne:els ≠ [])
  (hb:(els0.length+els.length) * inf.bytes≤140737488355328∧els0.length+els.length≤9223372036854775807) (hk:K (.bg hp.length 0 0 (els0.length+els.length) (els0.length+els.length+1)) (hp++[.cells (els0.flatten++els.flatten) inf.size 0])) :
  RM.wpOp T true (.call ⟨.builtin .append,[s,x].toArray,[t,u].toArray⟩) fr hp K:=by
 show force (aN fr s) fun a=>force (aN fr x) fun b=>gA T true .append [a,b] [t,u] hp K;rw [hs,hx];show (match T.ty.get u with|some ⟨.slice _,_,_,_,_,_,_⟩=>gk T true t (.sl els0 true) (.sl els f) hp K|_=>False);rw [hu];show gk T true t (.sl els0 true) (.sl els f) hp K;unfold gk;rw [hi];exact ⟨hz,els,⟨hel,rfl⟩,h1,h0,hb,fun e=>absurd e hne,fun _=>hk⟩
def cS (s:ai) (days:List Int):Nat→Nat→List Int→Option (List Order)
 | 0,_,ds=>bl s ds []
 | m+1,fr,ds=>(List.range (days.length - m)).findSome? fun i=>if i < fr then none else match days[i]? with
  | some d=>cS s days m (i+1) (ds++[d])
  | none=>none
theorem nR {α:Type} {f:Nat→Option α} {a:α} {i:Nat}:∀ {n:Nat},i < n→f i=some a→(∀ j,j < i→f j=none)→(List.range n).findSome? f=some a
 | 0,h,_,_=>by omega
 | n+1,h,h1,h2=>by
  rw [List.range_succ,List.findSome?_append];by_cases e:i=n
  ·subst e;have:(List.range i).findSome? f=none:=by rw [List.findSome?_eq_none_iff];exact fun x hx=>h2 x (List.mem_range.1 hx)
   rw [this];simp [h1]
  ·rw [nR (by omega) h1 h2];rfl
theorem rz {α:Type} {f:Nat→Option α} {n:Nat} (h:∀ j,j < n→f j=none):(List.range n).findSome? f=none:=by rw [List.findSome?_eq_none_iff];exact fun x hx=>h x (List.mem_range.1 hx)
structure Me (s:ai) (days ds:List Int) (fr:Nat):Prop where
 len:ds.length≤fr
 HA:ds.Pairwise (· < ·)
 day:∀ x ∈ ds,0≤x∧x < s.days
 lt:∀ x ∈ ds,∀ (i:Nat) (h:i < days.length),fr≤i→x < days[i]
theorem Me.snoc {s:ai} {days ds:List Int} {fr i:Nat} (h:Me s days ds fr) (hp:days.Pairwise (· < ·)) (hr:∀ x ∈ days,0≤x∧x < s.days) (hi:fr≤i) (hl:i < days.length):Me s days (ds++[days[i]]) (i+1):=by
 refine ⟨by rw [List.length_append,List.length_singleton];have:=h.len;omega,?_,fun x hx=>?_,fun x hx j hj hij=>?_⟩
 ·rw [List.pairwise_append];refine ⟨h.HA,List.pairwise_singleton _ _,fun a ha b hb=>?_⟩;rw [List.mem_singleton.1 hb];exact h.lt a ha i hl hi
 ·rcases List.mem_append.1 hx with hx|hx
  ·exact h.day x hx
  ·rw [List.mem_singleton.1 hx];exact hr _ (List.getElem_mem hl)
 ·rcases List.mem_append.1 hx with hx|hx
  ·exact h.lt x hx j hj (by omega)
  ·rw [List.mem_singleton.1 hx];exact List.pairwise_iff_getElem.1 hp i j hl hj (by omega)
