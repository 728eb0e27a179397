/-
  Contracts of the program's functions and of the document's. Lemmas alone; their conditions stand in them.
-/
import Derived.Test.YtlpmfgmldmdggaaGreatK6
open Go Go.RM
namespace Go.Proofs.YtlpmfgmldmdggaaGreat
set_option maxRecDepth 100000
set_option maxHeartbeats 4000000
def zB:List Int→List Int→Int
 | [],[]=>0
 | [],_ :: _=>-1
 | _ :: _,[]=>1
 | x :: l,y :: m=>if rD x y ≠ 0 then rD x y else zB l m
theorem Ex {l m:List Int} {k:Nat} (hk:k < l.length) (hm:m.length≤k):zB (l.drop k) (m.drop k)=1:=by rw [List.drop_eq_getElem_cons hk,List.drop_of_length_le hm];rfl
theorem Ey {l m:List Int} {k:Nat} (hk:k < l.length) (hm:k < m.length):zB (l.drop k) (m.drop k)=if rD l[k] m[k] ≠ 0 then rD l[k] m[k] else zB (l.drop (k+1)) (m.drop (k+1)):=by rw [List.drop_eq_getElem_cons hk,List.drop_eq_getElem_cons hm];rfl
theorem Gt {l m:List Int}:zB (l.drop l.length) (m.drop l.length)=if l.length < m.length then -1 else 0:=by
 rw [List.drop_of_length_le (qq6 _)];by_cases h:l.length < m.length
 ·rw [if_pos h,List.drop_eq_getElem_cons h];rfl
 ·rw [if_neg h,List.drop_of_length_le (by omega)];rfl
theorem J0 (one:Bool) (l m:List Int) (fl fm:Bool) (hl:l.length≤maxLen) (_hm:m.length≤maxLen):Pu one 131 [.sl (ints l) fl,.sl (ints m) fm] (af (zB l m)):=by
 have el:((ints l).length:Int)=l.length:=by simp
 have em:((ints m).length:Int)=m.length:=by simp
 simp only [maxLen] at hl;refine ah.body (fn:=Tryz.f131) rfl rfl rfl rfl ?_;refine qq1 ?_;repeat' first|refine u1 ?_|refine u2 ?_|fail
 refine ay.aN (ak.to (l:=[(1,.sl (ints m) fm),(9,.sl (ints l) fl),(0,.sl (ints l) fl),(10,af (l.length:Int)),(11,af (0:Nat))]) (hp:=[]) 0 rfl ⟨rfl,rfl,rfl,aH el,rfl,trivial⟩ (qq5 _) rfl rfl) ?_;refine ay.loop (fun k:Nat=>k≤l.length∧zB (l.drop k) (m.drop k)=zB l m) (fun k=>⟨aT [(1,.sl (ints m) fm),(9,.sl (ints l) fl),(0,.sl (ints l) fl),(10,af (l.length:Int)),(11,af (k:Nat))],[],bJ.none,false,0⟩) (fun k=>l.length - k) ?_ 0 ⟨qq5 _,rfl⟩;rintro k ⟨hk,hc⟩;by_cases hlt:k < l.length
 ·have dl:decide ((k:Int) < (l.length:Int))=true:=decide_eq_true (by omega);have hat:(ints l)[((k:Nat):Int).toNat]?=some (eI l[k]):=dm hlt;by_cases hmt:k < m.length
  ·have d1:decide (((ints m).length:Int)≤(k:Int))=false:=decide_eq_false (by omega);have hat2:(ints m)[((k:Nat):Int).toNat]?=some (eI m[k]):=dm hmt;have hst:=Ey hlt hmt;have o1:=Ew one l[k] m[k];rw [hc] at hst
   generalize l[k]=x at *
   generalize m[k]=y at *
   by_cases h0:rD x y=0
   ·rw [if_neg (fun h=>h h0)] at hst;rw [h0] at o1;have d2:(!decide ((0:Int)=0))=false:=rfl;refine qq1 ?_;repeat' first|refine u1 ?_|(refine ⟨[af x],⟨by omega,hat⟩,rfl,?_⟩)|(refine ⟨[af y],⟨by omega,hat2⟩,rfl,?_⟩)|((with_reducible refine qq3 ?_);refine ah.call o1 rfl rfl ?_)|refine u2 ?_|fail
    exact ⟨k+1,⟨hlt,hst.symm⟩,(by dsimp only;omega),ak.to 0 rfl ⟨rfl,rfl,rfl,rfl,aH (by simp),trivial⟩ (qq5 _) rfl rfl⟩
   ·rw [if_pos h0] at hst;rw [hst];have d2:(!decide (rD x y=0))=true:=by rw [decide_eq_false h0];rfl
    generalize rD x y=z at *
    refine qq1 ?_;repeat' first|refine u1 ?_|(refine ⟨[af x],⟨by omega,hat⟩,rfl,?_⟩)|(refine ⟨[af y],⟨by omega,hat2⟩,rfl,?_⟩)|((with_reducible refine qq3 ?_);refine ah.call o1 rfl rfl ?_)|refine u2 ?_|fail
    exact ⟨[_],⟨Fz.deep rfl,trivial⟩,rfl⟩
  ·have d1:decide (((ints m).length:Int)≤(k:Int))=true:=decide_eq_true (by omega);have hz:=Ex hlt (Nat.not_lt.1 hmt);rw [hc] at hz;rw [hz]
   generalize l[k]=x at *
   refine qq1 ?_;repeat' first|refine u1 ?_|(refine ⟨[af x],⟨by omega,hat⟩,rfl,?_⟩)|refine u2 ?_|fail
   exact ⟨[_],⟨Fz.deep rfl,trivial⟩,rfl⟩
 ·have dl:decide ((k:Int) < (l.length:Int))=false:=decide_eq_false (by omega);have hkl:k=l.length:=by omega
  subst hkl;rw [Gt] at hc;rw [←hc];by_cases h3:l.length < m.length
  ·have d3:decide (((ints l).length:Int) < ((ints m).length:Int))=true:=decide_eq_true (by omega);rw [if_pos h3];refine qq1 ?_;repeat' first|refine u1 ?_|refine u2 ?_|fail
   exact ⟨[_],⟨Fz.deep rfl,trivial⟩,rfl⟩
  ·have d3:decide (((ints l).length:Int) < ((ints m).length:Int))=false:=decide_eq_false (by omega);rw [if_neg h3];refine qq1 ?_;repeat' first|refine u1 ?_|refine u2 ?_|fail
   exact ⟨[_],⟨Fz.deep rfl,trivial⟩,rfl⟩
def MW:List Int:=[0,1,17,2,25,10,18,3,29,14,22,7,26,11,19,4,31,16,24,9,28,13,21,6,30,15,23,8,27,12,20,5]
def cg (a:Int):Int:=MW.getD a.toNat 0
theorem J1:∀ a,a < 32→∀ b,b < 32→zB (fj a) (fj b)=rD (cg (a:Nat)) (cg (b:Nat)):=by decide
theorem J2:∀ a,a < 32→∀ b,b < 32→cg (a:Nat)=cg (b:Nat)→a=b:=by decide
theorem J3 (one:Bool) (a b:Nat) (ha:a < 32) (hb:b < 32):Pu one 130 [af (a:Nat),af (b:Nat)] (af (rD (cg (a:Nat)) (cg (b:Nat)))):=by
 have o1:=Ip one a ha;have o2:=Ip one b hb;have o3:=J0 one (fj a) (fj b) false false (by have:=oA a 5;unfold fj;simp only [maxLen];omega) (by have:=oA b 5;unfold fj;simp only [maxLen];omega);rw [J1 a ha b hb] at o3;refine ah.body (fn:=Tryz.f130) rfl rfl rfl rfl ?_;refine qq1 ?_;repeat' first|refine u1 ?_|((with_reducible refine qq3 ?_);refine ah.call o1 rfl rfl ?_)|((with_reducible refine qq3 ?_);refine ah.call o2 rfl rfl ?_)|((with_reducible refine qq3 ?_);refine ah.call o3 rfl rfl ?_)|refine u2 ?_|fail
 exact ⟨[_],⟨Fz.deep rfl,trivial⟩,rfl⟩
end Go.Proofs.YtlpmfgmldmdggaaGreat
open Go Go.RM
namespace Go.Proofs.YtlpmfgmldmdggaaGreat
set_option maxRecDepth 100000
set_option maxHeartbeats 4000000
abbrev eT (l:List Int):List AV:=[.sl (ints l) false]
def kD (c:aP) (w:Int):List Int→List (List Int)→Int
 | _,[]=>0
 | b,l :: T=>if ja c w b l ≠ 0 then ja c w b l else kD c w l T
def zN (T:List (List Int)):Nat→List Int
 | 0=>[]
 | k+1=>(T[k]?).getD []
theorem Gu {c:aP} {w:Int} {T:List (List Int)} {k:Nat} (h:k < T.length) (b:List Int):kD c w b (T.drop k)=if ja c w b T[k] ≠ 0 then ja c w b T[k] else kD c w T[k] (T.drop (k+1)):=by rw [List.drop_eq_getElem_cons h];rfl
def uB (c:aP) (p:bW) (T:List (List Int)):Int:=if nQ c p ≠ 0 then nQ c p else if (T.length:Int) ≠ p.turns then 3 else kD c p.aF [] T
structure Bt (T:List (List Int)):Prop where
 len:T.length≤maxLen
 each:∀ l ∈ T,l.length≤maxLen
theorem Iq {T:List (List Int)} (h:Bt T):∀ k,(zN T k).length≤maxLen
 | 0=>qq5 _
 | k+1=>by
  show ((T[k]?).getD []).length≤maxLen
  cases hk:T[k]? with
  | none=>exact qq5 _
  | some l=>exact h.each l (List.mem_of_getElem? hk)
noncomputable def Ir:Code:=rm (rm (rm (Tryz.f46.body.getD .skip)))
theorem pS (one:Bool) (c:aP) (p:bW) (T:List (List Int)) (fT:Bool) (hT:Bt T) (e0:Int) (h0:e0=0→Good c):ay TT TB one Ir ⟨aT [(2,.sl (T.map eT) fT),(3,.pt (aD c) 0),(4,.pt (bX p) 0),(7,af e0)],[],bJ.none,false,0⟩ (A9 TT Tryz.f46.results.toList (af (if e0=0 then kD c p.aF [] T else e0))):=by
 have el:((T.map eT).length:Int)=T.length:=by simp
 have hl':=hT.len;simp only [maxLen] at hl';have d00:decide ((0:Int)=0)=true:=rfl;refine qq1 ?_;show kA _ _ _ _ (.seq (.region _ _ _) (.seq (.seq (.region _ _ _) _) _)) _ _;repeat' first|refine u1 ?_|refine u2 ?_|fail
 refine ay.aN (ak.trans (ak.mP 1) (ak.trans (ak.HM (l:=[(2,.sl (T.map eT) fT),(3,.pt (aD c) 0),(4,.pt (bX p) 0),(7,af e0),(8,.aL 0 0 0 0 0),(9,af ((0:Nat):Int))]) (hp:=[.cells (av []) 1 0]) 1 rfl ⟨dI.refl _,dI.refl _,dI.refl _,dI.refl _,dI.mO,dI.refl _,trivial⟩ (qq5 _) rfl (ax _ _)) (ak.trans (ak.K8 0 (l:=[(2,.sl (T.map eT) fT),(3,.pt (aD c) 0),(4,.pt (bX p) 0),(7,af (e0)),(8,.sl (ints ([])) false),(9,af (0:Nat))]) (hp':=[.gone]) rfl (qq5 _) rfl ⟨.same rfl,.same rfl,.same rfl,.same rfl,Ib rfl,.same rfl,trivial⟩ ⟨rfl,trivial⟩) (ak.to (l:=[(2,.sl (T.map eT) fT),(3,.pt (aD c) 0),(4,.pt (bX p) 0),(7,af (e0)),(8,.sl (ints ([])) false),(9,af (0:Nat))]) (hp:=[]) 0 rfl ⟨rfl,rfl,rfl,rfl,rfl,rfl,trivial⟩ (qq5 _) rfl rfl)))) ?_
 refine ay.loop (fun x:Int × Nat=>x.2≤T.length∧((x.1=0∧e0=0∧kD c p.aF (zN T x.2) (T.drop x.2)=kD c p.aF [] T)∨(x.1 ≠ 0∧x.1=if e0=0 then kD c p.aF [] T else e0))) (fun x=>⟨aT [(2,.sl (T.map eT) fT),(3,.pt (aD c) 0),(4,.pt (bX p) 0),(7,af (x.1)),(8,.sl (ints (zN T x.2)) false),(9,af (x.2:Nat))],[],bJ.none,false,0⟩) (fun x=>T.length - x.2) ?_ (e0,0) ⟨qq5 _,by
  by_cases h:e0=0
  ·exact .inl ⟨h,h,rfl⟩
  ·exact .inr ⟨h,by rw [if_neg h]⟩⟩
 rintro ⟨e,k⟩ ⟨hk,hc⟩;dsimp only at hk hc;show ay _ _ _ _ ⟨aT [(2,.sl (T.map eT) fT),(3,.pt (aD c) 0),(4,.pt (bX p) 0),(7,af (e)),(8,.sl (ints (zN T k)) false),(9,af (k:Nat))],[],bJ.none,false,0⟩ _
 rcases hc with ⟨rfl,h00,hrest⟩|⟨hne,hv⟩
 ·rw [if_pos h00];by_cases hlt:k < T.length
  ·have dl:decide ((k:Int) < ((T.map eT).length:Int))=true:=decide_eq_true (by omega);have hat:(T.map eT)[((k:Nat):Int).toNat]?=some (eT T[k]):=dm hlt;have hst:=Gu (c:=c) (w:=p.aF) hlt (zN T k);have hnb:zN T (k+1)=T[k]:=by show (T[k]?).getD []=_;rw [List.getElem?_eq_getElem hlt];rfl
   have o1:=JX true c (h0 h00) p (zN T k) T[k] false false (Iq hT k) (hT.each _ (List.getElem_mem hlt));rw [hrest] at hst
   generalize hB:zN T k=B at *
   generalize T[k]=l at *
   generalize hE:ja c p.aF B l=E at *
   have hrow:.sl (ints (zN T (k+1))) false=AV.sl (ints l) false:=by rw [hnb]
   refine qq1 ?_;repeat' first|(refine ⟨_,_,.inl ⟨rfl,rfl⟩,o1,?_⟩)|refine u1 ?_|(refine ⟨[.sl (ints l) false],⟨by omega,hat⟩,rfl,?_⟩)|refine u2 ?_|fail
   refine ⟨(E,k+1),⟨hlt,?_⟩,(by dsimp only;omega),ak.to (l:=[(2,.sl (T.map eT) fT),(3,.pt (aD c) 0),(4,.pt (bX p) 0),(7,af (E)),(8,.sl (ints (zN T (k+1))) false),(9,af (k+1:Nat))]) 0 rfl ⟨rfl,rfl,rfl,rfl,hrow.symm,aH (by simp),trivial⟩ (qq5 _) rfl rfl⟩;by_cases hE0:E=0
   ·refine .inl ⟨hE0,h00,?_⟩;rw [hnb,hst,if_neg (fun h=>h hE0)]
   ·refine .inr ⟨hE0,?_⟩;rw [hst,if_pos hE0]
  ·have dl:decide ((k:Int) < ((T.map eT).length:Int))=false:=decide_eq_false (by omega);have hz:kD c p.aF [] T=0:=by rw [←hrest,List.drop_of_length_le (by omega)];rfl
   rw [hz];refine qq1 ?_;repeat' first|refine u1 ?_|refine u2 ?_|fail
   exact ⟨[_],⟨Fz.deep rfl,trivial⟩,rfl⟩
 ·rw [←hv];have dz:decide (e=0)=false:=decide_eq_false hne;by_cases hlt:k < T.length
  ·have dl:decide ((k:Int) < ((T.map eT).length:Int))=true:=decide_eq_true (by omega);refine qq1 ?_;repeat' first|refine u1 ?_|refine u2 ?_|fail
   exact ⟨[_],⟨Fz.deep rfl,trivial⟩,rfl⟩
  ·have dl:decide ((k:Int) < ((T.map eT).length:Int))=false:=decide_eq_false (by omega);refine qq1 ?_;repeat' first|refine u1 ?_|refine u2 ?_|fail
   exact ⟨[_],⟨Fz.deep rfl,trivial⟩,rfl⟩
theorem Ds (one:Bool) (c:aP) (h:c.Ok) (p:bW) (T:List (List Int)) (fT:Bool) (hT:Bt T):Pu one 46 [.ag (aD c),.ag (bX p),.sl (T.map eT) fT] (af (uB c p T)):=by
 have o1:=ru one c h p;have el:((T.map eT).length:Int)=T.length:=by simp
 have d00:decide ((0:Int)=0)=true:=rfl;by_cases h0:nQ c p=0
 ·obtain ⟨hg,hp⟩:=Bn h0;rw [h0] at o1;by_cases h1:(T.length:Int)=p.turns
  ·have d1:(!decide (((T.map eT).length:Int)=p.turns))=false:=by rw [decide_eq_true (by omega)];rfl
   have hv:uB c p T=if (0:Int)=0 then kD c p.aF [] T else 0:=by unfold uB;rw [if_neg (fun h=>h h0),if_neg (fun h=>h h1),if_pos rfl]
   rw [hv];refine ah.body (fn:=Tryz.f46) rfl rfl rfl rfl ?_;show ay TT TB one (.seq (.region _ _ _) (.seq (.region _ _ _) (.seq (.seq (.region _ _ _) _) Ir))) _ _;refine qq2 ?_;repeat' first|refine u1 ?_|refine u2 ?_|fail
   refine qq2 ?_;repeat' first|refine u1 ?_|((with_reducible refine qq3 ?_);refine ah.call o1 rfl rfl ?_)|refine u2 ?_|fail
   refine qq2 ?_;repeat' first|refine u1 ?_|refine u2 ?_|fail
   refine ay.aN (ak.to (l:=[(2,.sl (T.map eT) fT),(3,.pt (aD c) 0),(4,.pt (bX p) 0),(7,af 0)]) (hp:=[]) 0 rfl ⟨rfl,rfl,rfl,rfl,trivial⟩ (qq5 _) rfl rfl) ?_;exact pS one c p T fT hT 0 (fun _=>hg)
  ·have d1:(!decide (((T.map eT).length:Int)=p.turns))=true:=by rw [decide_eq_false (by omega)];rfl
   have hv:uB c p T=if (3:Int)=0 then kD c p.aF [] T else 3:=by unfold uB;rw [if_neg (fun h=>h h0),if_pos h1,if_neg (by decide)]
   rw [hv];refine ah.body (fn:=Tryz.f46) rfl rfl rfl rfl ?_;show ay TT TB one (.seq (.region _ _ _) (.seq (.region _ _ _) (.seq (.seq (.region _ _ _) _) Ir))) _ _;refine qq2 ?_;repeat' first|refine u1 ?_|refine u2 ?_|fail
   refine qq2 ?_;repeat' first|refine u1 ?_|((with_reducible refine qq3 ?_);refine ah.call o1 rfl rfl ?_)|refine u2 ?_|fail
   refine qq2 ?_;repeat' first|refine u1 ?_|refine u2 ?_|fail
   refine ay.aN (ak.to (l:=[(2,.sl (T.map eT) fT),(3,.pt (aD c) 0),(4,.pt (bX p) 0),(7,af 3)]) (hp:=[]) 0 rfl ⟨rfl,rfl,rfl,rfl,trivial⟩ (qq5 _) rfl rfl) ?_;exact pS one c p T fT hT 3 (fun h=>absurd h (by decide))
 ·have dz:decide (nQ c p=0)=false:=decide_eq_false h0;have hv:uB c p T=if nQ c p=0 then kD c p.aF [] T else nQ c p:=by unfold uB;rw [if_pos h0,if_neg h0]
  rw [hv];refine ah.body (fn:=Tryz.f46) rfl rfl rfl rfl ?_;show ay TT TB one (.seq (.region _ _ _) (.seq (.region _ _ _) (.seq (.seq (.region _ _ _) _) Ir))) _ _;refine qq2 ?_;repeat' first|refine u1 ?_|refine u2 ?_|fail
  refine qq2 ?_;repeat' first|refine u1 ?_|((with_reducible refine qq3 ?_);refine ah.call o1 rfl rfl ?_)|refine u2 ?_|fail
  refine qq2 ?_;repeat' first|refine u1 ?_|refine u2 ?_|fail
  refine ay.aN (ak.to (l:=[(2,.sl (T.map eT) fT),(3,.pt (aD c) 0),(4,.pt (bX p) 0),(7,af (nQ c p))]) (hp:=[]) 0 rfl ⟨rfl,rfl,rfl,rfl,trivial⟩ (qq5 _) rfl rfl) ?_;exact pS one c p T fT hT (nQ c p) (fun h=>absurd h h0)
def lA (T:List (List Int)) (m k:Nat):Nat:=(T.take k).countP fun l=>gL l (m:Nat)
theorem Bu {T:List (List Int)} {m k:Nat} (h:k < T.length):lA T m (k+1)=lA T m k+if gL T[k] (m:Nat)=true then 1 else 0:=by
 unfold lA;rw [List.take_add_one,List.getElem?_eq_getElem h,List.countP_append];by_cases hh:gL T[k] (m:Nat)=true
 ·rw [if_pos hh];simp [hh]
 ·rw [if_neg hh];simp [hh]
theorem CA (T:List (List Int)) (m k:Nat):lA T m k≤k:=by unfold lA;have:=List.countP_le_length (p:=fun l=>gL l (m:Nat)) (l:=T.take k);rw [List.length_take] at this;omega
def pT (c:aP) (p:bW) (T:List (List Int)) (k:Nat):List Int:=(List.range k).map fun m=>En c p m (lA T m T.length:Nat)
theorem Gw (c:aP) (p:bW) (T:List (List Int)) (k:Nat):pT c p T (k+1)=pT c p T k++[En c p k (lA T k T.length:Nat)]:=by unfold pT;rw [List.range_succ,List.map_append];rfl
theorem mS (c:aP) (p:bW) (T:List (List Int)) (k:Nat):(pT c p T k).length=k:=by unfold pT;simp
def L7 (c:aP) (p:bW) (T:List (List Int)):List Int:=if uB c p T=0 then pT c p T c.aA.length else []
theorem Lq {c:aP} {p:bW} {T:List (List Int)} (h:uB c p T=0):nQ c p=0∧(T.length:Int)=p.turns∧kD c p.aF [] T=0:=by
 unfold uB at h;split at h
 ·rename_i h1;exact absurd h h1
 rename_i h1;split at h
 ·cases h
 rename_i h2;exact ⟨Decidable.not_not.1 h1,Decidable.not_not.1 h2,h⟩
end Go.Proofs.YtlpmfgmldmdggaaGreat
open Go Go.RM
namespace Go.Proofs.YtlpmfgmldmdggaaGreat
set_option maxRecDepth 100000
set_option maxHeartbeats 4000000
theorem Gx (one:Bool) (l:List Int) (f:Bool) (h8:l.length * 8≤140737488355328) {M:AB} {aC:bJ} {Q:AV→List AB→bJ→Prop} (h1:l=[]→Q (.fl (.slice none 0 0)) [M] aC)
  (h2:∀ v c,(c=l.length∨c=l.length+1)→Q (.aL 1 v 0 l.length c) [M,.cells (av l) 1 v] aC):au TT TB one (.fn 77 [] []) [.sl (ints l) f] [M] aC Q:=by
 have e1:(ints l).length=l.length:=by simp
 have hb1:(0+(ints l).length) * 8≤140737488355328∧0+(ints l).length≤9223372036854775807:=by rw [e1];omega
 have hone:(ints l).flatten.all AV.one=true:=by rw [dJ];exact Gi l
 refine au.body (fn:=Tryz.f77) rfl rfl rfl ?_;show ay TT TB one (.seq (.region _ _ _) (.seq (.seq (.region _ _ _) _) _)) _ _;refine qq2 ?_;repeat' first|refine u1 ?_|refine u2 ?_|fail
 refine ay.seq (ay.seq (ay.F3 (id1:=0) (id2:=0) (l1:=[⟨some 3,.move (.tmp 0),36,_,_,none⟩]) rfl rfl ?_));refine qq2 ?_;repeat' first|refine u1 ?_|refine u2 ?_|fail
 refine ay.Mn rfl (JS (els:=ints l) rfl (by kernel_rfl) (by kernel_rfl) fun b hb=>?_)
 cases b with
 | true =>
  have hl:l=[]:=List.map_eq_nil_iff.1 (hb rfl);have h3:=h1 hl;refine qq1 ?_;repeat' first|refine u1 ?_|refine u2 ?_|fail
  exact h3
 | false =>
  refine qq1 ?_;repeat' first|refine u1 ?_|refine u2 ?_|fail
  refine aa (mu:=fun t=>Nat.beq t 5 || Nat.beq t 7) ?_;repeat' first|((with_reducible show RM.wpOp _ _ (.call _) _ _ _);refine RM.sD (cs:=[]) (n:=0) (c:=0) (els:=ints l) rfl rfl rfl rfl rfl (Bj l) hone rfl rfl (.inl rfl) hb1 (fun v c' hc'=>?_))|refine u1 ?_|refine u2 ?_|fail
  have h3:=h2 v c' (by rw [e1] at hc';omega);rw [←dJ,←e1,←Nat.zero_add (ints l).length] at h3;exact h3
theorem rE (W S:List Int) (e0 v0 v:Nat):([.cells (av W) e0 v0,.cells (av S) 1 v]:List AB).all (AB.gZ 2)=true:=by have h1:AB.gZ 2 (.cells (av W) e0 v0)=true:=eC 2 (fun _=>rfl) _;have h2:AB.gZ 2 (.cells (av S) 1 v)=true:=eC 2 (fun _=>rfl) _;simp only [List.all_cons,List.all_nil,h1,h2,Bool.and_true]
theorem oB {S:List Int} {k p:Nat} (h:k < S.length) (hp:p=k):(av S)[p]?=some (af (fG S k)):=by subst hp;rw [List.getElem?_map,ku h];rfl
def Ez (S:List Int):Prop:=∀ j,j+1 < S.length→fG S (j+1) ≠ fG S j
theorem CB (one:Bool) (S W:List Int) (h8:S.length * 8≤140737488355328) {e0 v0 v c:Nat} {aC:bJ} {Q:AV→List AB→bJ→Prop} (hq0:Ez S→Q (.aL 1 v 0 S.length c) [.cells (av W) e0 v0,.cells (av S) 1 v] aC)
  (hq1:¬ Ez S→∀ n' c' X,n' < S.length→Q (.aL 1 v 0 n' c') [.cells (av W) e0 v0,X] aC):au TT TB one (.fn 76 [] []) [.aL 1 v 0 S.length c] [.cells (av W) e0 v0,.cells (av S) 1 v] aC Q:=by
 refine au.body (fn:=Tryz.f76) rfl rfl rfl ?_;by_cases h2:S.length < 2
 ·have d2:decide ((S.length:Int) < 2)=true:=decide_eq_true (by omega);have h3:=hq0 fun j hj=>by omega
  refine qq1 ?_;repeat' first|refine u1 ?_|refine u2 ?_|fail
  exact h3
 have d2:decide ((S.length:Int) < 2)=false:=decide_eq_false (by omega);refine qq1 ?_;repeat' first|refine u1 ?_|refine u2 ?_|fail
 refine ay.aN (ak.to (l:=[(0,.aL 1 v 0 S.length c),(3,af ((0:Nat)+1))]) (hp:=[.cells (av W) e0 v0,.cells (av S) 1 v]) 2 rfl ⟨rfl,rfl,trivial⟩ (Nat.le_of_ble_eq_true rfl) rfl (rE _ _ _ _ _)) ?_;refine ay.loop (fun k:Nat=>k+1≤S.length∧∀ j,j < k→fG S (j+1) ≠ fG S j) (fun k=>⟨aT [(0,.aL 1 v 0 S.length c),(3,af ((k:Nat)+1))],[.cells (av W) e0 v0,.cells (av S) 1 v],aC,false,2⟩) (fun k=>S.length - k) ?_ 0 ⟨by omega,fun j hj=>absurd hj (Nat.not_lt_zero j)⟩;rintro k ⟨hk,hno⟩;by_cases hlt:k+1 < S.length
 ·have dl:decide ((k:Int)+1 < (S.length:Int))=true:=decide_eq_true (by omega);have g1:(av S)[0+((k:Int)+1).toNat * 1]?=some (af (fG S (k+1))):=oB hlt (by omega);have g2:(av S)[0+((k:Int)+1 - 1).toNat * 1]?=some (af (fG S k)):=oB (show k < S.length by omega) (by omega)
  have hnx:fG S (k+1) ≠ fG S k→∀ j,j < k+1→fG S (j+1) ≠ fG S j:=fun h j hj=>by
   by_cases e:j=k
   ·rw [e];exact h
   ·exact hno j (by omega)
  have hyes:fG S (k+1)=fG S k→¬ Ez S:=fun h hh=>hh k hlt h
  generalize fG S (k+1)=y at *
  generalize fG S k=z at *
  cases e:decide (y=z) with
  | false =>
   refine qq1 ?_;repeat' first|((with_reducible show RM.wpOp _ _ (.load _ _) _ _ _);refine RM.cU rfl rfl rfl g1 ?_)|((with_reducible show RM.wpOp _ _ (.load _ _) _ _ _);refine RM.cU rfl rfl rfl g2 ?_)|refine u1 ?_|refine u2 ?_|fail
   exact ⟨k+1,⟨by omega,hnx (of_decide_eq_false e)⟩,(by dsimp only;omega),ak.to (l:=[(0,.aL 1 v 0 S.length c),(3,af ((k+1:Nat)+1))]) (hp:=[.cells (av W) e0 v0,.cells (av S) 1 v]) 2 rfl ⟨rfl,aH (by simp),trivial⟩ (Nat.le_of_ble_eq_true rfl) rfl (rE _ _ _ _ _)⟩
  | true =>
   have h1:=hq1 (hyes (of_decide_eq_true e));show ay TT TB one (.seq (.seq (.region _ _ _) _) (.seq (.block _ (.seq (.region _ _ _) (.cond _ (.seq (.region _ _ _) (.seq (.seq (.region _ _ _) _) (.seq (.region _ _ _) _))) _))) _)) _ _;refine qq2 ?_;repeat' first|refine u1 ?_|refine u2 ?_|fail
   refine ay.seq (ay.block ?_);refine qq2 ?_;repeat' first|((with_reducible show RM.wpOp _ _ (.load _ _) _ _ _);refine RM.cU rfl rfl rfl g1 ?_)|((with_reducible show RM.wpOp _ _ (.load _ _) _ _ _);refine RM.cU rfl rfl rfl g2 ?_)|refine u1 ?_|refine u2 ?_|fail
   refine ay.cond (t:=true) (by show AV.fl (Value.bool (decide (y=z)))=_;rw [e]) (fun _=>?_) (fun h=>nomatch h);refine qq2 ?_;repeat' first|(refine ⟨k+1,S.length,rfl,rfl,⟨(by omega),qq6 _⟩,(by decide),?_⟩)|refine u1 ?_|refine u2 ?_|fail
   refine ay.seq ?_;refine qq1 ?_;repeat' first|refine u1 ?_|refine u2 ?_|fail
   refine ay.aN (ak.to (l:=[(0,.aL 1 v 0 S.length c),(3,af (((k+1,1,S):Nat × Nat × List Int).1:Nat)),(4,.aL 1 v (0+(k+1) * 1) (S.length - (k+1)) (bif Nat.beq S.length S.length && Nat.beq c S.length then S.length - (k+1) else bif Nat.beq S.length S.length then S.length - (k+1)+2 else bif Nat.ble (S.length+3) c then c - (k+1) else S.length - (k+1)+3+(S.length - S.length))),(5,af (((k+1,1,S):Nat × Nat × List Int).2.1:Nat))]) (hp:=[.cells (av W) e0 v0,.cells (av S) 1 v]) 2 rfl ⟨rfl,aH (by simp),rfl,rfl,trivial⟩ (Nat.le_of_ble_eq_true rfl) rfl (rE _ _ _ _ _)) ?_;refine ay.loop (fun x:Nat × Nat × List Int=>x.2.2.length=S.length∧k+1≤x.1∧x.1≤k+x.2.1∧1≤x.2.1∧x.2.1≤S.length - (k+1)) (fun x=>⟨aT [(0,.aL 1 v 0 S.length c),(3,af (x.1:Nat)),(4,.aL 1 v (0+(k+1) * 1) (S.length - (k+1)) (bif Nat.beq S.length S.length && Nat.beq c S.length then S.length - (k+1) else bif Nat.beq S.length S.length then S.length - (k+1)+2 else bif Nat.ble (S.length+3) c then c - (k+1) else S.length - (k+1)+3+(S.length - S.length))),(5,af (x.2.1:Nat))],[.cells (av W) e0 v0,.cells (av x.2.2) 1 v],aC,false,2⟩) (fun x=>S.length - x.2.1) ?_ (k+1,1,S) ⟨rfl,qq6 _,qq6 _,qq6 _,by dsimp only;omega⟩;rintro ⟨kk,k2,R⟩ ⟨hR,p1,p2,p3,p4⟩;dsimp only at hR p1 p2 p3 p4;show ay _ _ _ _ ⟨aT [(0,.aL 1 v 0 S.length c),(3,af (((kk,k2,R):Nat × Nat × List Int).1:Nat)),(4,.aL 1 v (0+(k+1) * 1) (S.length - (k+1)) (bif Nat.beq S.length S.length && Nat.beq c S.length then S.length - (k+1) else bif Nat.beq S.length S.length then S.length - (k+1)+2 else bif Nat.ble (S.length+3) c then c - (k+1) else S.length - (k+1)+3+(S.length - S.length))),(5,af (((kk,k2,R):Nat × Nat × List Int).2.1:Nat))],[.cells (av W) e0 v0,.cells (av R) 1 v],aC,false,2⟩ _;dsimp only;by_cases hl2:k2 < S.length - (k+1)
   ·have d3:decide ((k2:Int) < ((S.length - (k+1):Nat):Int))=true:=decide_eq_true (by omega);have g3:(av R)[0+(k+1) * 1+((k2:Nat):Int).toNat * 1]?=some (af (fG R (k+1+k2))):=oB (by omega) (by omega);have g4:(av R)[0+(k+1) * 1+((k2:Int) - 1).toNat * 1]?=some (af (fG R (k+k2))):=oB (by omega) (by omega);have hln:Nat.ble (0+((kk:Nat):Int).toNat * 1+1) (av R).length=true:=Nat.ble_eq_true_of_le (by rw [List.length_map];omega)
    generalize fG R (k+1+k2)=a at *
    generalize fG R (k+k2)=b at *
    have hset:=lU (S:=R) (k:=kk) (by omega) a
    cases e2:decide (a=b) with
    | true =>
     have e2':(!decide (a=b))=false:=by rw [e2];rfl
     refine qq1 ?_;repeat' first|((with_reducible show RM.wpOp _ _ (.load _ _) _ _ _);refine RM.cU rfl rfl rfl g3 ?_)|((with_reducible show RM.wpOp _ _ (.load _ _) _ _ _);refine RM.cU rfl rfl rfl g4 ?_)|refine u1 ?_|refine u2 ?_|fail
     exact ⟨(kk,k2+1,R),⟨hR,p1,by dsimp only;omega,by dsimp only;omega,by dsimp only;omega⟩,(by dsimp only;omega),ak.to (l:=[(0,.aL 1 v 0 S.length c),(3,af (((kk,k2+1,R):Nat × Nat × List Int).1:Nat)),(4,.aL 1 v (0+(k+1) * 1) (S.length - (k+1)) (bif Nat.beq S.length S.length && Nat.beq c S.length then S.length - (k+1) else bif Nat.beq S.length S.length then S.length - (k+1)+2 else bif Nat.ble (S.length+3) c then c - (k+1) else S.length - (k+1)+3+(S.length - S.length))),(5,af (((kk,k2+1,R):Nat × Nat × List Int).2.1:Nat))]) (hp:=[.cells (av W) e0 v0,.cells (av R) 1 v]) 2 rfl ⟨rfl,rfl,rfl,aH (by simp),trivial⟩ (Nat.le_of_ble_eq_true rfl) rfl (rE _ _ _ _ _)⟩
    | false =>
     have e2':(!decide (a=b))=true:=by rw [e2];rfl
     refine qq1 ?_;repeat' first|((with_reducible show RM.wpOp _ _ (.load _ _) _ _ _);refine RM.cU rfl rfl rfl g3 ?_)|((with_reducible show RM.wpOp _ _ (.load _ _) _ _ _);refine RM.cU rfl rfl rfl g4 ?_)|((with_reducible show aR _ _ _ _ _ _);refine RM.lY rfl rfl rfl rfl rfl rfl hln ?_)|refine u1 ?_|refine u2 ?_|fail
     exact ⟨(kk+1,k2+1,R.set kk a),⟨by dsimp only;rw [List.length_set];exact hR,by dsimp only;omega,by dsimp only;omega,by dsimp only;omega,by dsimp only;omega⟩,(by dsimp only;omega),ak.to (l:=[(0,.aL 1 v 0 S.length c),(3,af (((kk+1,k2+1,R.set kk a):Nat × Nat × List Int).1:Nat)),(4,.aL 1 v (0+(k+1) * 1) (S.length - (k+1)) (bif Nat.beq S.length S.length && Nat.beq c S.length then S.length - (k+1) else bif Nat.beq S.length S.length then S.length - (k+1)+2 else bif Nat.ble (S.length+3) c then c - (k+1) else S.length - (k+1)+3+(S.length - S.length))),(5,af (((kk+1,k2+1,R.set kk a):Nat × Nat × List Int).2.1:Nat))]) (hp:=[.cells (av W) e0 v0,.cells (av (R.set kk a)) 1 v]) 2 (by show _=[AB.cells (av W) e0 v0,AB.cells (av (R.set kk a)) 1 v];rw [←hset];rfl) ⟨rfl,aH (by simp),rfl,aH (by simp),trivial⟩ (Nat.le_of_ble_eq_true rfl) rfl (rE _ _ _ _ _)⟩
   ·have d3:decide ((k2:Int) < ((S.length - (k+1):Nat):Int))=false:=decide_eq_false (by omega);have hkk:kk < S.length:=by omega
    refine qq1 ?_;repeat' first|refine u1 ?_|refine u2 ?_|fail
    refine ay.seq (ay.F3 (id1:=0) (id2:=0) (l1:=[_,_,_]) (l2:=[_]) rfl rfl ?_);refine qq2 ?_;repeat' first|(refine ⟨kk,S.length,rfl,rfl,⟨(by omega),qq6 _⟩,(by decide),?_⟩)|refine u1 ?_|refine u2 ?_|fail
    refine ay.Mn rfl (JT rfl (show 1≤S.length - kk by omega) rfl rfl rfl rfl rfl rfl rfl (by show 0+kk * 1+(S.length - kk)≤_;rw [List.length_map];omega) ?_);refine qq1 ?_;repeat' first|(refine ⟨0,kk,rfl,rfl,⟨qq5 _,(by omega)⟩,(by decide),?_⟩)|refine u1 ?_|refine u2 ?_|fail
    exact h1 _ _ _ (by omega)
 ·have dl:decide ((k:Int)+1 < (S.length:Int))=false:=decide_eq_false (by omega);have h3:=hq0 fun j hj=>hno j (by omega);refine qq1 ?_;repeat' first|refine u1 ?_|refine u2 ?_|fail
  exact h3
