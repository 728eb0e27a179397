/-
  Contracts of the program's functions and of the document's. Lemmas alone; their conditions stand in them.
-/
import Derived.Test.YtpeogffeoehboaaGreatDoorK20
import Derived.Test.YtpeogffeoehboaaGreatDoorK21
open Go Go.RM
namespace Go.Proofs.YtpeogffeoehboaaGreatDoor
set_option maxRecDepth 100000
set_option maxHeartbeats 4000000
theorem z7 (one:Bool) (s:ai) (hs:s.Ok):Pu one 16 [.ag (ay s)] (.tp [.sl ((DJ s).map aD) false,aC (oz s)]):=by
 have o1:=Lq one s hs;unfold DJ oz;by_cases c1:(l8 s).2.2=0
 ·rw [C9 c1] at o1;rw [if_pos c1,if_pos c1];have o2:=xK one (qX c1);have d0:(!decide ((0:Int)=0))=false:=by decide
  cases hF:gO s s.possible with
  | none =>
   rw [hF] at o2;refine aj.body (fn:=Tryz.f16) rfl rfl rfl rfl ?_;refine qq2 ?_;repeat' first|refine RM.Hv rfl rfl rfl rfl ?_|refine u1 ?_|refine u2 ?_|fail
   refine qq2 ?_;repeat' first|((with_reducible refine qq3 ?_);refine aj.call o1 rfl rfl ?_)|refine u1 ?_|refine u2 ?_|fail
   refine qq2 ?_;repeat' first|refine u1 ?_|refine u2 ?_|fail
   refine qq2 ?_;repeat' first|((with_reducible refine qq3 ?_);refine aj.call o2 rfl rfl ?_)|refine u1 ?_|refine u2 ?_|fail
   refine qq1 ?_;repeat' first|refine u1 ?_|refine u2 ?_|fail
   exact ⟨[_,_],⟨Fz.nil,Fz.deep rfl,trivial⟩,rfl⟩
  | some p =>
   rw [hF] at o2;refine aj.body (fn:=Tryz.f16) rfl rfl rfl rfl ?_;refine qq2 ?_;repeat' first|refine RM.Hv rfl rfl rfl rfl ?_|refine u1 ?_|refine u2 ?_|fail
   refine qq2 ?_;repeat' first|((with_reducible refine qq3 ?_);refine aj.call o1 rfl rfl ?_)|refine u1 ?_|refine u2 ?_|fail
   refine qq2 ?_;repeat' first|refine u1 ?_|refine u2 ?_|fail
   refine qq2 ?_;repeat' first|((with_reducible refine qq3 ?_);refine aj.call o2 rfl rfl ?_)|refine u1 ?_|refine u2 ?_|fail
   refine qq1 ?_;repeat' first|refine u1 ?_|refine u2 ?_|fail
   exact ⟨[_,_],⟨Fz.deep rfl,Fz.deep rfl,trivial⟩,rfl⟩
 ·rw [if_neg c1,if_neg c1];have d0:(!decide ((l8 s).2.2=0))=true:=by rw [decide_eq_false c1];rfl
  refine aj.body (fn:=Tryz.f16) rfl rfl rfl rfl ?_;refine qq2 ?_;repeat' first|refine RM.Hv rfl rfl rfl rfl ?_|refine u1 ?_|refine u2 ?_|fail
  refine qq1 ?_;repeat' first|((with_reducible refine qq3 ?_);refine aj.call o1 rfl rfl ?_)|refine u1 ?_|refine u2 ?_|fail
  exact ⟨[_,_],⟨Fz.nil,Fz.deep rfl,trivial⟩,rfl⟩
theorem NT (one:Bool) (s:ai) (hs:s.Ok):Pu one 19 [.ag (ay s)] (.tp [.sl (ints (uR s)) false,aC (oz s)]):=by
 have o1:=z7 one s hs;unfold uR;by_cases c1:oz s=0
 ·rw [if_pos c1];rw [c1] at o1 ⊢
  have c2:(l8 s).2.2=0:=by
   unfold oz at c1;by_cases h:(l8 s).2.2=0
   ·exact h
   ·rw [if_neg h] at c1;exact absurd c1 h
  have hg:=qX c2;have hm:=hg.many;have d0:(!decide ((0:Int)=0))=false:=by decide
  have ep:((ints s.possible).length:Int)=s.possible.length:=by simp
  refine aj.body (fn:=Tryz.f19) rfl rfl rfl rfl ?_;refine qq2 ?_;repeat' first|refine RM.Hv rfl rfl rfl rfl ?_|refine u1 ?_|refine u2 ?_|fail
  refine qq2 ?_;repeat' first|((with_reducible refine qq3 ?_);refine aj.call o1 rfl rfl ?_)|refine u1 ?_|refine u2 ?_|fail
  refine qq2 ?_;repeat' first|refine u1 ?_|refine u2 ?_|fail
  refine qq2 ?_;repeat' first|refine u1 ?_|refine u2 ?_|fail
  refine av.seq ?_;refine qq2 ?_;repeat' first|refine u1 ?_|refine u2 ?_|fail
  refine av.block ?_;refine av.aJ (ah.trans (ah.jl 1) (ah.Gi (l:=[(1,.pt (ay s) 0),(6,.bg 0 0 0 (ew s 0).length 0),(7,aC (0:Nat))]) (hp:=[.cells (bG (ew s 0)) 1 0]) 1 rfl ⟨aW.refl _,aW.jk,aW.refl _,trivial⟩ (qq5 _) rfl (dK _ _))) ?_;refine av.loop (fun x:Nat × Nat × Nat=>x.1≤s.possible.length∧(x.2.2=(ew s x.1).length∨x.2.2=(ew s x.1).length+1)) (fun x=>⟨aZ [(1,.pt (ay s) 0),(6,.bg 0 x.2.1 0 (ew s x.1).length x.2.2),(7,aC (x.1:Nat))],[.cells (bG (ew s x.1)) 1 x.2.1],bA.none,false,0⟩) (fun x=>s.possible.length - x.1) ?_ (0,0,0) ⟨qq5 _,.inl rfl⟩;rintro ⟨k,aA,c⟩ ⟨hk,hcap⟩;dsimp only at hk hcap;show av _ _ _ _ ⟨aZ [(1,.pt (ay s) 0),(6,.bg 0 aA 0 (ew s k).length c),(7,aC (k:Nat))],[.cells (bG (ew s k)) 1 aA],bA.none,false,0⟩ _;have hml:=uo s k;by_cases hlt:k < s.possible.length
  ·have d1:decide ((k:Int) < ((ints s.possible).length:Int))=true:=decide_eq_true (by omega);have hs1:=xO hlt;have hat:(ints s.possible)[((k:Nat):Int).toNat]?=some (eI s.possible[k]):=bp hlt;have hbk:(k:Int) < ((ints s.possible).length:Int):=by omega
   have ow:=Ib one hlt hm;have of:=xK one (BI hg k);rw [show ({s with possible:=s.possible.eraseIdx k}:ai).possible=s.possible.eraseIdx k from rfl,Ic] at of;have hgl:(bG (ew s k)).length=(ew s k).length:=by rw [List.length_map]
   generalize s.possible[k]=z at *
   generalize hR:gO s (s.possible.eraseIdx k)=R at *
   refine qq2 ?_;repeat' first|refine u1 ?_|refine u2 ?_|fail
   refine av.seq ?_;refine av.block ?_;refine qq2 ?_;repeat' first|((with_reducible refine qq3 ?_);refine aj.call ow rfl rfl ?_)|((with_reducible refine qq3 ?_);refine aj.call of rfl rfl ?_)|refine u1 ?_|refine u2 ?_|fail
   cases R with
   | some q =>
    rw [if_neg (by simp)] at hs1;refine qq1 ?_;repeat' first|refine u1 ?_|refine u2 ?_|fail
    refine qq1 ?_;repeat' first|refine u1 ?_|refine u2 ?_|fail
    exact ⟨(k+1,aA,c),⟨hlt,by dsimp only;rw [hs1,List.append_nil];exact hcap⟩,(by dsimp only;omega),ah.to 1 (by dsimp only;rw [hs1,List.append_nil];rfl) ⟨rfl,(by dsimp only;rw [hs1,List.append_nil];rfl),bq (by simp),trivial⟩ (qq5 _) rfl (dK _ _)⟩
   | none =>
    rw [if_pos (show (none:Option (List Order)).isNone=true from rfl)] at hs1;refine qq1 ?_;repeat' first|((with_reducible show RM.wpOp _ _ (.call _) _ _ _);refine RM.l5 (cs:=bG (ew s k)) (n:=(ew s k).length) (els:=[eI z]) rfl rfl rfl rfl rfl (fun el hel=>by rw [List.mem_singleton.1 hel];rfl) rfl rfl (by rw [hgl];exact (Nat.mul_one _).symm) hcap (by simp only [List.length_singleton];omega) (fun v' c' hc'=>?_))|refine u1 ?_|((with_reducible refine qq4 ?_);refine ⟨eI z,⟨by omega,hat⟩,rfl,?_⟩)|refine u2 ?_|fail
    refine qq1 ?_;repeat' first|refine u1 ?_|refine u2 ?_|fail
    exact ⟨(k+1,v',c'),⟨hlt,by dsimp only;rw [hs1,List.length_append];exact hc'⟩,(by dsimp only;omega),ah.to 1 (by dsimp only;rw [hs1];unfold bG;rw [List.map_append];rfl) ⟨rfl,(by dsimp only;rw [hs1,List.length_append];rfl),bq (by simp),trivial⟩ (qq5 _) rfl (dK _ _)⟩
  ·obtain rfl:k=s.possible.length:=by omega
   have d1:decide ((s.possible.length:Int) < ((ints s.possible).length:Int))=false:=decide_eq_false (by omega);have hrow:=eu (ew s s.possible.length);refine qq1 ?_;repeat' first|refine u1 ?_|refine u2 ?_|fail
   refine qq1 ?_;repeat' first|refine u1 ?_|refine u2 ?_|fail
   exact ⟨[_,_],⟨Fz.row (es:=1) rfl hrow.1 hrow.2.1 hrow.2.2.1 hrow.2.2.2 (by rw [kn];exact fu _) (fun h=>Bool.noConfusion h),Fz.deep rfl,trivial⟩,rfl⟩
 ·rw [if_neg c1];have d0:(!decide (oz s=0))=true:=by rw [decide_eq_false c1];rfl
  refine aj.body (fn:=Tryz.f19) rfl rfl rfl rfl ?_;refine qq2 ?_;repeat' first|refine RM.Hv rfl rfl rfl rfl ?_|refine u1 ?_|refine u2 ?_|fail
  refine qq1 ?_;repeat' first|((with_reducible refine qq3 ?_);refine aj.call o1 rfl rfl ?_)|refine u1 ?_|refine u2 ?_|fail
  exact ⟨[_,_],⟨Fz.nil,Fz.deep rfl,trivial⟩,rfl⟩
theorem Ie {l:List Int} (h:l.length≤maxLen):Pu false 7 [.sl (ints l) false,.sl (ints l) false] (BB true):=by have:=EZ false l l false false h h;rw [decide_eq_true rfl] at this;exact this
theorem Rl (one:Bool) {p:List Order} (hl:p.length≤1000) (hc:∀ o ∈ p,o.bw.length≤maxLen):Pu one 17 [.sl (p.map aD) false,.sl (p.map aD) false] (BB true):=by
 have el:((p.map aD).length:Int)=p.length:=by simp
 have d0:(!decide (((p.map aD).length:Int)=((p.map aD).length:Int)))=false:=by rw [decide_eq_true rfl];rfl
 refine aj.body (fn:=Tryz.f17) rfl rfl rfl rfl ?_;refine qq2 ?_;repeat' first|refine u1 ?_|refine u2 ?_|fail
 refine qq2 ?_;repeat' first|refine u1 ?_|refine u2 ?_|fail
 refine av.seq ?_;refine qq2 ?_;repeat' first|refine u1 ?_|refine u2 ?_|fail
 refine av.block ?_;refine av.aJ (ah.to (l:=[(0,.sl (p.map aD) false),(1,.sl (p.map aD) false),(5,aC (0:Nat))]) (hp:=[]) 0 rfl ⟨rfl,rfl,rfl,trivial⟩ (qq5 _) rfl rfl) ?_;refine av.loop (fun i:Nat=>i≤p.length) (fun i=>⟨aZ [(0,.sl (p.map aD) false),(1,.sl (p.map aD) false),(5,aC (i:Nat))],[],bA.none,false,0⟩) (fun i=>p.length - i) ?_ 0 (qq5 _);intro i hi;by_cases hlt:i < p.length
 ·have d1:decide ((i:Int) < ((p.map aD).length:Int))=true:=decide_eq_true (by omega);have hbi:(i:Int) < ((p.map aD).length:Int):=by omega
  have hat:(p.map aD)[((i:Nat):Int).toNat]?=some (aD p[i]):=bp hlt;have oi:=EZ true p[i].bw p[i].bw false false (hc _ (List.getElem_mem hlt)) (hc _ (List.getElem_mem hlt));rw [decide_eq_true rfl] at oi;have d2:(!decide (p[i].day=p[i].day))=false:=by rw [decide_eq_true rfl];rfl
  generalize p[i]=o at *
  refine qq2 ?_;repeat' first|refine u1 ?_|refine u2 ?_|fail
  refine qq2 ?_;repeat' first|(refine ⟨_,oi,?_⟩)|refine u1 ?_|((with_reducible refine qq4 ?_);refine ⟨aD o,⟨by omega,hat⟩,rfl,?_⟩)|refine u2 ?_|fail
  refine qq1 ?_;repeat' first|refine u1 ?_|refine u2 ?_|fail
  exact ⟨i+1,hlt,(by dsimp only;omega),ah.to 0 rfl ⟨rfl,rfl,bq (by simp),trivial⟩ (qq5 _) rfl rfl⟩
 ·obtain rfl:i=p.length:=by omega
  have d1:decide ((p.length:Int) < ((p.map aD).length:Int))=false:=decide_eq_false (by omega);refine qq1 ?_;repeat' first|refine u1 ?_|refine u2 ?_|fail
  refine qq1 ?_;repeat' first|refine u1 ?_|refine u2 ?_|fail
  exact ⟨[_],⟨Fz.deep rfl,trivial⟩,rfl⟩
theorem GP (s:ai):(DJ s).length≤6∧∀ o ∈ DJ s,o.bw.length≤maxLen:=by
 unfold DJ;by_cases c1:(l8 s).2.2=0
 ·rw [if_pos c1]
  cases hF:gO s s.possible with
  | none=>exact ⟨qq5 _,fun o ho=>by cases ho⟩
  | some p =>obtain ⟨h1,h2,_,_⟩:=DF c1 hF;refine ⟨h2,fun o ho=>?_⟩;have hp:=Dc h1;have:=(hp.order o ho).len;have h3:=hp.good.len;exact Nat.le_trans this (Nat.le_trans h3.2 (by decide))
 ·rw [if_neg c1];exact ⟨qq5 _,fun o ho=>by cases ho⟩
theorem Mu (s:ai) (hs:s.Ok):(uR s).length≤maxLen:=by
 unfold uR;split
 ·exact Nat.le_trans (uo s _) hs.possible
 ·exact qq5 _
theorem Ig (s:ai) (hs:s.Ok):Pu false 4 [.ag (ay s)] (BB true):=by
 have o1:=DK false s hs;have o2:=z7 false s hs;have o3:=Rk false s hs;have o4:=NT false s hs;have os:=Rl false (Nat.le_trans (GP s).1 (by decide)) (GP s).2;have om:=Ie (l:=uR s) (Mu s hs);have aw:=Tt false;have d0:(!decide (oz s=oz s))=false:=by rw [decide_eq_true rfl];rfl
 have d1:decide (oz s=oz s)=true:=decide_eq_true rfl
 generalize DJ s=P at *
 generalize oz s=e at *
 generalize uR s=M at *
 refine aj.body (fn:=Tryz.f4) rfl rfl rfl rfl ?_;refine qq1 ?_;repeat' first|refine RM.Hv rfl rfl rfl rfl ?_|((with_reducible refine qq3 ?_);refine aj.call o1 rfl rfl ?_)|((with_reducible refine qq3 ?_);refine aj.call o2 rfl rfl ?_)|((with_reducible refine qq3 ?_);refine aj.call o3 rfl rfl ?_)|((with_reducible refine qq3 ?_);refine aj.call o4 rfl rfl ?_)|((with_reducible refine qq3 ?_);refine aj.call os rfl rfl ?_)|((with_reducible refine qq3 ?_);refine aj.call om rfl rfl ?_)|((with_reducible refine qq3 ?_);refine aj.call aw rfl rfl ?_)|refine u1 ?_|refine u2 ?_|fail
 exact ⟨[_],⟨Fz.deep rfl,trivial⟩,rfl⟩
