/-
  Contracts of the program's functions and of the document's. Lemmas alone; their conditions stand in them.
-/
import Derived.Test.YtlpmfgmldmdggaaGreatK6
open Go Go.RM
namespace Go.Proofs.YtlpmfgmldmdggaaGreat
set_option maxRecDepth 100000
set_option maxHeartbeats 4000000
def zT:List Int→List Int→Int
 | [],[]=>0
 | [],_ :: _=>-1
 | _ :: _,[]=>1
 | x :: l,y :: m=>if rP x y ≠ 0 then rP x y else zT l m
theorem Fl {l m:List Int} {k:Nat} (hk:k < l.length) (hm:m.length≤k):zT (l.drop k) (m.drop k)=1:=by rw [List.drop_eq_getElem_cons hk,List.drop_of_length_le hm];rfl
theorem Fm {l m:List Int} {k:Nat} (hk:k < l.length) (hm:k < m.length):zT (l.drop k) (m.drop k)=if rP l[k] m[k] ≠ 0 then rP l[k] m[k] else zT (l.drop (k+1)) (m.drop (k+1)):=by rw [List.drop_eq_getElem_cons hk,List.drop_eq_getElem_cons hm];rfl
theorem Hf {l m:List Int}:zT (l.drop l.length) (m.drop l.length)=if l.length < m.length then -1 else 0:=by
 rw [List.drop_of_length_le (qq6 _)];by_cases h:l.length < m.length
 ·rw [if_pos h,List.drop_eq_getElem_cons h];rfl
 ·rw [if_neg h,List.drop_of_length_le (by omega)];rfl
theorem K5 (one:Bool) (l m:List Int) (fl fm:Bool) (hl:l.length≤maxLen) (_hm:m.length≤maxLen):Pu one 131 [.sl (ints l) fl,.sl (ints m) fm] (af (zT l m)):=by
 have el:((ints l).length:Int)=l.length:=by simp
 have em:((ints m).length:Int)=m.length:=by simp
 simp only [maxLen] at hl;refine ak.body (fn:=Tryz.f131) rfl rfl rfl rfl ?_;refine qq1 ?_;repeat' first|refine u1 ?_|refine u2 ?_|fail
 refine aB.aO (ah.to (l:=[(1,.sl (ints m) fm),(9,.sl (ints l) fl),(0,.sl (ints l) fl),(10,af (l.length:Int)),(11,af (0:Nat))]) (hp:=[]) 0 rfl ⟨rfl,rfl,rfl,aE el,rfl,trivial⟩ (qq5 _) rfl rfl) ?_;refine aB.loop (fun k:Nat=>k≤l.length∧zT (l.drop k) (m.drop k)=zT l m) (fun k=>⟨aM [(1,.sl (ints m) fm),(9,.sl (ints l) fl),(0,.sl (ints l) fl),(10,af (l.length:Int)),(11,af (k:Nat))],[],bq.none,false,0⟩) (fun k=>l.length - k) ?_ 0 ⟨qq5 _,rfl⟩;rintro k ⟨hk,hc⟩;by_cases hlt:k < l.length
 ·have dl:decide ((k:Int) < (l.length:Int))=true:=decide_eq_true (by omega);have hat:(ints l)[((k:Nat):Int).toNat]?=some (eI l[k]):=dN hlt;by_cases hmt:k < m.length
  ·have d1:decide (((ints m).length:Int)≤(k:Int))=false:=decide_eq_false (by omega);have hat2:(ints m)[((k:Nat):Int).toNat]?=some (eI m[k]):=dN hmt;have hst:=Fm hlt hmt;have o1:=Fk one l[k] m[k];rw [hc] at hst
   generalize l[k]=x at *
   generalize m[k]=y at *
   by_cases h0:rP x y=0
   ·rw [if_neg (fun h=>h h0)] at hst;rw [h0] at o1;have d2:(!decide ((0:Int)=0))=false:=rfl;refine qq1 ?_;repeat' first|refine u1 ?_|(refine ⟨[af x],⟨by omega,hat⟩,rfl,?_⟩)|(refine ⟨[af y],⟨by omega,hat2⟩,rfl,?_⟩)|((with_reducible refine qq3 ?_);refine ak.call o1 rfl rfl ?_)|refine u2 ?_|fail
    exact ⟨k+1,⟨hlt,hst.symm⟩,(by dsimp only;omega),ah.to 0 rfl ⟨rfl,rfl,rfl,rfl,aE (by simp),trivial⟩ (qq5 _) rfl rfl⟩
   ·rw [if_pos h0] at hst;rw [hst];have d2:(!decide (rP x y=0))=true:=by rw [decide_eq_false h0];rfl
    generalize rP x y=z at *
    refine qq1 ?_;repeat' first|refine u1 ?_|(refine ⟨[af x],⟨by omega,hat⟩,rfl,?_⟩)|(refine ⟨[af y],⟨by omega,hat2⟩,rfl,?_⟩)|((with_reducible refine qq3 ?_);refine ak.call o1 rfl rfl ?_)|refine u2 ?_|fail
    exact ⟨[_],⟨Fz.deep rfl,trivial⟩,rfl⟩
  ·have d1:decide (((ints m).length:Int)≤(k:Int))=true:=decide_eq_true (by omega);have hz:=Fl hlt (Nat.not_lt.1 hmt);rw [hc] at hz;rw [hz]
   generalize l[k]=x at *
   refine qq1 ?_;repeat' first|refine u1 ?_|(refine ⟨[af x],⟨by omega,hat⟩,rfl,?_⟩)|refine u2 ?_|fail
   exact ⟨[_],⟨Fz.deep rfl,trivial⟩,rfl⟩
 ·have dl:decide ((k:Int) < (l.length:Int))=false:=decide_eq_false (by omega);have hkl:k=l.length:=by omega
  subst hkl;rw [Hf] at hc;rw [←hc];by_cases h3:l.length < m.length
  ·have d3:decide (((ints l).length:Int) < ((ints m).length:Int))=true:=decide_eq_true (by omega);rw [if_pos h3];refine qq1 ?_;repeat' first|refine u1 ?_|refine u2 ?_|fail
   exact ⟨[_],⟨Fz.deep rfl,trivial⟩,rfl⟩
  ·have d3:decide (((ints l).length:Int) < ((ints m).length:Int))=false:=decide_eq_false (by omega);rw [if_neg h3];refine qq1 ?_;repeat' first|refine u1 ?_|refine u2 ?_|fail
   exact ⟨[_],⟨Fz.deep rfl,trivial⟩,rfl⟩
def Oa:List Int:=[0,1,17,2,25,10,18,3,29,14,22,7,26,11,19,4,31,16,24,9,28,13,21,6,30,15,23,8,27,12,20,5]
def bZ (a:Int):Int:=Oa.getD a.toNat 0
theorem K6:∀ a,a < 32→∀ b,b < 32→zT (fo a) (fo b)=rP (bZ (a:Nat)) (bZ (b:Nat)):=by decide
theorem K7:∀ a,a < 32→∀ b,b < 32→bZ (a:Nat)=bZ (b:Nat)→a=b:=by decide
theorem K8 (one:Bool) (a b:Nat) (ha:a < 32) (hb:b < 32):Pu one 130 [af (a:Nat),af (b:Nat)] (af (rP (bZ (a:Nat)) (bZ (b:Nat)))):=by
 have o1:=Ji one a ha;have o2:=Ji one b hb;have o3:=K5 one (fo a) (fo b) false false (by have:=oR a 5;unfold fo;simp only [maxLen];omega) (by have:=oR b 5;unfold fo;simp only [maxLen];omega);rw [K6 a ha b hb] at o3;refine ak.body (fn:=Tryz.f130) rfl rfl rfl rfl ?_;refine qq1 ?_;repeat' first|refine u1 ?_|((with_reducible refine qq3 ?_);refine ak.call o1 rfl rfl ?_)|((with_reducible refine qq3 ?_);refine ak.call o2 rfl rfl ?_)|((with_reducible refine qq3 ?_);refine ak.call o3 rfl rfl ?_)|refine u2 ?_|fail
 exact ⟨[_],⟨Fz.deep rfl,trivial⟩,rfl⟩
end Go.Proofs.YtlpmfgmldmdggaaGreat
open Go Go.RM
namespace Go.Proofs.YtlpmfgmldmdggaaGreat
set_option maxRecDepth 100000
set_option maxHeartbeats 4000000
abbrev eT (l:List Int):List AV:=[.sl (ints l) false]
def od (c:aL) (w:Int):List Int→List (List Int)→Int
 | _,[]=>0
 | b,l :: T=>if jl c w b l ≠ 0 then jl c w b l else od c w l T
def Ir (T:List (List Int)):Nat→List Int
 | 0=>[]
 | k+1=>(T[k]?).getD []
theorem K9 {c:aL} {w:Int} {T:List (List Int)} {k:Nat} (h:k < T.length) (b:List Int):od c w b (T.drop k)=if jl c w b T[k] ≠ 0 then jl c w b T[k] else od c w T[k] (T.drop (k+1)):=by rw [List.drop_eq_getElem_cons h];rfl
def Cd (c:aL) (p:bE) (T:List (List Int)):Int:=if kJ c p ≠ 0 then kJ c p else if (T.length:Int) ≠ p.turns then 3 else od c p.aR [] T
structure Fo (T:List (List Int)):Prop where
 len:T.length≤maxLen
 each:∀ l ∈ T,l.length≤maxLen
theorem Jj {T:List (List Int)} (h:Fo T):∀ k,(Ir T k).length≤maxLen
 | 0=>qq5 _
 | k+1=>by
  show ((T[k]?).getD []).length≤maxLen
  cases hk:T[k]? with
  | none=>exact qq5 _
  | some l=>exact h.each l (List.mem_of_getElem? hk)
noncomputable def Jk:Code:=BK (BK (BK (Tryz.f46.body.getD .skip)))
theorem qm (one:Bool) (c:aL) (p:bE) (T:List (List Int)) (fT:Bool) (hT:Fo T) (e0:Int) (h0:e0=0→Good c):aB TT TB one Jk ⟨aM [(2,.sl (T.map eT) fT),(3,.pt (aI c) 0),(4,.pt (cV p) 0),(7,af e0)],[],bq.none,false,0⟩ (EO TT Tryz.f46.results.toList (af (if e0=0 then od c p.aR [] T else e0))):=by
 have el:((T.map eT).length:Int)=T.length:=by simp
 have hl':=hT.len;simp only [maxLen] at hl';have d00:decide ((0:Int)=0)=true:=rfl;refine qq1 ?_;show kC _ _ _ _ (.seq (.region _ _ _) (.seq (.seq (.region _ _ _) _) _)) _ _;repeat' first|refine u1 ?_|refine u2 ?_|fail
 refine aB.aO (ah.trans (ah.mZ 1) (ah.trans (ah.IL (l:=[(2,.sl (T.map eT) fT),(3,.pt (aI c) 0),(4,.pt (cV p) 0),(7,af e0),(8,.aJ 0 0 0 0 0),(9,af ((0:Nat):Int))]) (hp:=[.cells (ay []) 1 0]) 1 rfl ⟨dP.refl _,dP.refl _,dP.refl _,dP.refl _,dP.mY,dP.refl _,trivial⟩ (qq5 _) rfl (av _ _)) (ah.trans (ah.GV 0 (l:=[(2,.sl (T.map eT) fT),(3,.pt (aI c) 0),(4,.pt (cV p) 0),(7,af (e0)),(8,.sl (ints ([])) false),(9,af (0:Nat))]) (hp':=[.gone]) rfl (qq5 _) rfl ⟨.same rfl,.same rfl,.same rfl,.same rfl,Ja rfl,.same rfl,trivial⟩ ⟨rfl,trivial⟩) (ah.to (l:=[(2,.sl (T.map eT) fT),(3,.pt (aI c) 0),(4,.pt (cV p) 0),(7,af (e0)),(8,.sl (ints ([])) false),(9,af (0:Nat))]) (hp:=[]) 0 rfl ⟨rfl,rfl,rfl,rfl,rfl,rfl,trivial⟩ (qq5 _) rfl rfl)))) ?_
 refine aB.loop (fun x:Int × Nat=>x.2≤T.length∧((x.1=0∧e0=0∧od c p.aR (Ir T x.2) (T.drop x.2)=od c p.aR [] T)∨(x.1 ≠ 0∧x.1=if e0=0 then od c p.aR [] T else e0))) (fun x=>⟨aM [(2,.sl (T.map eT) fT),(3,.pt (aI c) 0),(4,.pt (cV p) 0),(7,af (x.1)),(8,.sl (ints (Ir T x.2)) false),(9,af (x.2:Nat))],[],bq.none,false,0⟩) (fun x=>T.length - x.2) ?_ (e0,0) ⟨qq5 _,by
  by_cases h:e0=0
  ·exact .inl ⟨h,h,rfl⟩
  ·exact .inr ⟨h,by rw [if_neg h]⟩⟩
 rintro ⟨e,k⟩ ⟨hk,hc⟩;dsimp only at hk hc;show aB _ _ _ _ ⟨aM [(2,.sl (T.map eT) fT),(3,.pt (aI c) 0),(4,.pt (cV p) 0),(7,af (e)),(8,.sl (ints (Ir T k)) false),(9,af (k:Nat))],[],bq.none,false,0⟩ _
 rcases hc with ⟨rfl,h00,hrest⟩|⟨hne,hv⟩
 ·rw [if_pos h00];by_cases hlt:k < T.length
  ·have dl:decide ((k:Int) < ((T.map eT).length:Int))=true:=decide_eq_true (by omega);have hat:(T.map eT)[((k:Nat):Int).toNat]?=some (eT T[k]):=dN hlt;have hst:=K9 (c:=c) (w:=p.aR) hlt (Ir T k);have hnb:Ir T (k+1)=T[k]:=by show (T[k]?).getD []=_;rw [List.getElem?_eq_getElem hlt];rfl
   have o1:=K1 true c (h0 h00) p (Ir T k) T[k] false false (Jj hT k) (hT.each _ (List.getElem_mem hlt));rw [hrest] at hst
   generalize hB:Ir T k=B at *
   generalize T[k]=l at *
   generalize hE:jl c p.aR B l=E at *
   have hrow:.sl (ints (Ir T (k+1))) false=AV.sl (ints l) false:=by rw [hnb]
   refine qq1 ?_;repeat' first|(refine ⟨_,_,.inl ⟨rfl,rfl⟩,o1,?_⟩)|refine u1 ?_|(refine ⟨[.sl (ints l) false],⟨by omega,hat⟩,rfl,?_⟩)|refine u2 ?_|fail
   refine ⟨(E,k+1),⟨hlt,?_⟩,(by dsimp only;omega),ah.to (l:=[(2,.sl (T.map eT) fT),(3,.pt (aI c) 0),(4,.pt (cV p) 0),(7,af (E)),(8,.sl (ints (Ir T (k+1))) false),(9,af (k+1:Nat))]) 0 rfl ⟨rfl,rfl,rfl,rfl,hrow.symm,aE (by simp),trivial⟩ (qq5 _) rfl rfl⟩;by_cases hE0:E=0
   ·refine .inl ⟨hE0,h00,?_⟩;rw [hnb,hst,if_neg (fun h=>h hE0)]
   ·refine .inr ⟨hE0,?_⟩;rw [hst,if_pos hE0]
  ·have dl:decide ((k:Int) < ((T.map eT).length:Int))=false:=decide_eq_false (by omega);have hz:od c p.aR [] T=0:=by rw [←hrest,List.drop_of_length_le (by omega)];rfl
   rw [hz];refine qq1 ?_;repeat' first|refine u1 ?_|refine u2 ?_|fail
   exact ⟨[_],⟨Fz.deep rfl,trivial⟩,rfl⟩
 ·rw [←hv];have dz:decide (e=0)=false:=decide_eq_false hne;by_cases hlt:k < T.length
  ·have dl:decide ((k:Int) < ((T.map eT).length:Int))=true:=decide_eq_true (by omega);refine qq1 ?_;repeat' first|refine u1 ?_|refine u2 ?_|fail
   exact ⟨[_],⟨Fz.deep rfl,trivial⟩,rfl⟩
  ·have dl:decide ((k:Int) < ((T.map eT).length:Int))=false:=decide_eq_false (by omega);refine qq1 ?_;repeat' first|refine u1 ?_|refine u2 ?_|fail
   exact ⟨[_],⟨Fz.deep rfl,trivial⟩,rfl⟩
theorem Jl (one:Bool) (c:aL) (h:c.Ok) (p:bE) (T:List (List Int)) (fT:Bool) (hT:Fo T):Pu one 46 [.ag (aI c),.ag (cV p),.sl (T.map eT) fT] (af (Cd c p T)):=by
 have o1:=rM one c h p;have el:((T.map eT).length:Int)=T.length:=by simp
 have d00:decide ((0:Int)=0)=true:=rfl;by_cases h0:kJ c p=0
 ·obtain ⟨hg,hp⟩:=pU h0;rw [h0] at o1;by_cases h1:(T.length:Int)=p.turns
  ·have d1:(!decide (((T.map eT).length:Int)=p.turns))=false:=by rw [decide_eq_true (by omega)];rfl
   have hv:Cd c p T=if (0:Int)=0 then od c p.aR [] T else 0:=by unfold Cd;rw [if_neg (fun h=>h h0),if_neg (fun h=>h h1),if_pos rfl]
   rw [hv];refine ak.body (fn:=Tryz.f46) rfl rfl rfl rfl ?_;show aB TT TB one (.seq (.region _ _ _) (.seq (.region _ _ _) (.seq (.seq (.region _ _ _) _) Jk))) _ _;refine qq2 ?_;repeat' first|refine u1 ?_|refine u2 ?_|fail
   refine qq2 ?_;repeat' first|refine u1 ?_|((with_reducible refine qq3 ?_);refine ak.call o1 rfl rfl ?_)|refine u2 ?_|fail
   refine qq2 ?_;repeat' first|refine u1 ?_|refine u2 ?_|fail
   refine aB.aO (ah.to (l:=[(2,.sl (T.map eT) fT),(3,.pt (aI c) 0),(4,.pt (cV p) 0),(7,af 0)]) (hp:=[]) 0 rfl ⟨rfl,rfl,rfl,rfl,trivial⟩ (qq5 _) rfl rfl) ?_;exact qm one c p T fT hT 0 (fun _=>hg)
  ·have d1:(!decide (((T.map eT).length:Int)=p.turns))=true:=by rw [decide_eq_false (by omega)];rfl
   have hv:Cd c p T=if (3:Int)=0 then od c p.aR [] T else 3:=by unfold Cd;rw [if_neg (fun h=>h h0),if_pos h1,if_neg (by decide)]
   rw [hv];refine ak.body (fn:=Tryz.f46) rfl rfl rfl rfl ?_;show aB TT TB one (.seq (.region _ _ _) (.seq (.region _ _ _) (.seq (.seq (.region _ _ _) _) Jk))) _ _;refine qq2 ?_;repeat' first|refine u1 ?_|refine u2 ?_|fail
   refine qq2 ?_;repeat' first|refine u1 ?_|((with_reducible refine qq3 ?_);refine ak.call o1 rfl rfl ?_)|refine u2 ?_|fail
   refine qq2 ?_;repeat' first|refine u1 ?_|refine u2 ?_|fail
   refine aB.aO (ah.to (l:=[(2,.sl (T.map eT) fT),(3,.pt (aI c) 0),(4,.pt (cV p) 0),(7,af 3)]) (hp:=[]) 0 rfl ⟨rfl,rfl,rfl,rfl,trivial⟩ (qq5 _) rfl rfl) ?_;exact qm one c p T fT hT 3 (fun h=>absurd h (by decide))
 ·have dz:decide (kJ c p=0)=false:=decide_eq_false h0;have hv:Cd c p T=if kJ c p=0 then od c p.aR [] T else kJ c p:=by unfold Cd;rw [if_pos h0,if_neg h0]
  rw [hv];refine ak.body (fn:=Tryz.f46) rfl rfl rfl rfl ?_;show aB TT TB one (.seq (.region _ _ _) (.seq (.region _ _ _) (.seq (.seq (.region _ _ _) _) Jk))) _ _;refine qq2 ?_;repeat' first|refine u1 ?_|refine u2 ?_|fail
  refine qq2 ?_;repeat' first|refine u1 ?_|((with_reducible refine qq3 ?_);refine ak.call o1 rfl rfl ?_)|refine u2 ?_|fail
  refine qq2 ?_;repeat' first|refine u1 ?_|refine u2 ?_|fail
  refine aB.aO (ah.to (l:=[(2,.sl (T.map eT) fT),(3,.pt (aI c) 0),(4,.pt (cV p) 0),(7,af (kJ c p))]) (hp:=[]) 0 rfl ⟨rfl,rfl,rfl,rfl,trivial⟩ (qq5 _) rfl rfl) ?_;exact qm one c p T fT hT (kJ c p) (fun h=>absurd h h0)
def m6 (T:List (List Int)) (m k:Nat):Nat:=(T.take k).countP fun l=>e7 l (m:Nat)
theorem Hg {T:List (List Int)} {m k:Nat} (h:k < T.length):m6 T m (k+1)=m6 T m k+if e7 T[k] (m:Nat)=true then 1 else 0:=by
 unfold m6;rw [List.take_add_one,List.getElem?_eq_getElem h,List.countP_append];by_cases hh:e7 T[k] (m:Nat)=true
 ·rw [if_pos hh];simp [hh]
 ·rw [if_neg hh];simp [hh]
theorem C8 (T:List (List Int)) (m k:Nat):m6 T m k≤k:=by unfold m6;have:=List.countP_le_length (p:=fun l=>e7 l (m:Nat)) (l:=T.take k);rw [List.length_take] at this;omega
def uR (c:aL) (p:bE) (T:List (List Int)) (k:Nat):List Int:=(List.range k).map fun m=>cU c p m (m6 T m T.length:Nat)
theorem rQ (c:aL) (p:bE) (T:List (List Int)) (k:Nat):(uR c p T k).length=k:=by unfold uR;simp
theorem Hh {c:aL} {p:bE} {T:List (List Int)} (h:Cd c p T=0):kJ c p=0∧(T.length:Int)=p.turns∧od c p.aR [] T=0:=by
 unfold Cd at h;split at h
 ·rename_i h1;exact absurd h h1
 rename_i h1;split at h
 ·cases h
 rename_i h2;exact ⟨Decidable.not_not.1 h1,Decidable.not_not.1 h2,h⟩
end Go.Proofs.YtlpmfgmldmdggaaGreat
open Go Go.RM
namespace Go.Proofs.YtlpmfgmldmdggaaGreat
set_option maxRecDepth 100000
set_option maxHeartbeats 4000000
end Go.Proofs.YtlpmfgmldmdggaaGreat
open Go Go.RM
namespace Go.Proofs.YtlpmfgmldmdggaaGreat
set_option maxRecDepth 100000
def dX (l:List Int):Nat:=l.foldl (fun a m=>a ||| 2 ^ m.toNat) 0
theorem Hi (l:List Int) (h:∀ x ∈ l,0≤x):∀ (a i:Nat),(l.foldl (fun a m=>a ||| 2 ^ m.toNat) a).testBit i=(a.testBit i || e7 l (i:Nat)):=by
 induction l with
 | nil=>intro a i;simp [e7]
 | cons x l ih =>intro a i;rw [List.foldl_cons,ih (fun y hy=>h y (List.mem_cons_of_mem _ hy)),Nat.testBit_or,Nat.testBit_two_pow];have hx:=h x (by simp);have e:decide (x.toNat=i)=decide (x=(i:Int)):=decide_eq_decide.2 (by omega);rw [e];unfold e7;rw [List.any_cons,Bool.or_assoc]
theorem jS {l:List Int} (h:∀ x ∈ l,0≤x) (i:Nat):(dX l).testBit i=e7 l (i:Nat):=by unfold dX;rw [Hi l h,Nat.zero_testBit,Bool.false_or]
theorem DZ:∀ (l:List Int) (a:Nat),a < 32→(∀ x ∈ l,x < 5)→l.foldl (fun a m=>a ||| 2 ^ m.toNat) a < 32
 | [],a,ha,_=>ha
 | x :: l,a,ha,h=>by rw [List.foldl_cons];refine DZ l _ (Nat.or_lt_two_pow (n:=5) ha ?_) fun y hy=>h y (List.mem_cons_of_mem _ hy);have:=h x (by simp);have:(2:Nat) ^ x.toNat≤2 ^ 4:=Nat.pow_le_pow_right (by decide) (by omega);omega
theorem Hj {l:List Int} (h:∀ x ∈ l,x < 5):dX l < 32:=DZ l 0 (by decide) h
theorem Hl {a b:Nat}:a &&& b ≠ 0 ↔ ∃ i,a.testBit i=true∧b.testBit i=true:=by
 constructor
 ·intro h;obtain ⟨i,hi⟩:=Nat.exists_testBit_of_ne_zero h;rw [Nat.testBit_and,qq7] at hi;exact ⟨i,hi⟩
 ·rintro ⟨i,h1,h2⟩ h0;have:(a &&& b).testBit i=true:=by rw [Nat.testBit_and,h1,h2];rfl
  rw [h0,Nat.zero_testBit] at this;cases this
theorem zU {l:List Int} {n:Int}:e7 l n=true ↔ n ∈ l:=by
 unfold e7;rw [List.any_eq_true];constructor
 ·rintro ⟨x,h1,h2⟩;rw [←of_decide_eq_true h2];exact h1
 ·intro h;exact ⟨n,h,decide_eq_true rfl⟩
theorem Ho {b l:List Int} (hb:∀ x ∈ b,0≤x) (hl:∀ x ∈ l,0≤x):(!decide (((dX l &&& dX b:Nat):Int)=0))=l.any fun x=>e7 b x:=by
 have key:(dX l &&& dX b ≠ 0) ↔ (l.any fun x=>e7 b x)=true:=by
  rw [Hl,List.any_eq_true];constructor
  ·rintro ⟨i,h1,h2⟩;rw [jS hl] at h1;rw [jS hb] at h2;exact ⟨(i:Int),zU.1 h1,h2⟩
  ·rintro ⟨x,h1,h2⟩;have hx:=hl x h1;refine ⟨x.toNat,?_,?_⟩
   ·rw [jS hl,Int.toNat_of_nonneg hx];exact zU.2 h1
   ·rw [jS hb,Int.toNat_of_nonneg hx];exact h2
 cases he:(l.any fun x=>e7 b x) with
 | true =>have:=key.2 he;rw [decide_eq_false (by omega)];rfl
 | false =>
  have:dX l &&& dX b=0:=Decidable.not_not.1 fun h=>by rw [key.1 h] at he;cases he
  rw [this];rfl
theorem D0 {a i:Nat} (ha:a < 32) (hi:i < 5):(18446744073709551615 - a).testBit i=!a.testBit i:=by
 have h:(18446744073709551615 - a)=2 ^ 64 - (a+1):=by omega
 rw [h,Nat.testBit_two_pow_sub_succ (by omega)];rw [decide_eq_true (show i < 64 by omega),Bool.true_and]
theorem s7 {c:aL} (hm:c.aD.length≤5) {l:List Int} (h0:∀ x ∈ l,0≤x∧x < 5) (r:Nat):kF (dX l) (bD c r c.aD.length)=kG c l r:=by
 have hl:dX l < 32:=Hj fun x hx=>(h0 x hx).2;have hbit:=fun i=>BO c r c.aD.length i
 have k1:(bD c r c.aD.length ≠ 0) ↔ 0 < lG c r c.aD.length:=by
  unfold lG;rw [List.countP_pos_iff];constructor
  ·intro h;obtain ⟨i,hi⟩:=Nat.exists_testBit_of_ne_zero h;rw [hbit,qq7] at hi;exact ⟨i,List.mem_range.2 (of_decide_eq_true hi.1),hi.2⟩
  ·rintro ⟨i,h1,h2⟩ h;have:=hbit i;rw [h,Nat.zero_testBit,decide_eq_true (List.mem_range.1 h1),h2] at this;cases this
 have k2:(bD c r c.aD.length &&& (18446744073709551615 - dX l)=0) ↔ ∀ i,i < c.aD.length→fR c i=r→e7 l (i:Nat)=true:=by
  rw [←Decidable.not_iff_not,←ne_eq,Hl];constructor
  ·rintro ⟨i,h1,h2⟩ h;rw [hbit,qq7] at h1;have hin:=of_decide_eq_true h1.1;rw [D0 hl (by omega),jS (fun x hx=>(h0 x hx).1),h i hin (of_decide_eq_true h1.2)] at h2;cases h2
  ·intro h;obtain ⟨i,h⟩:=Classical.not_forall.1 h;obtain ⟨hin,h⟩:=Classical.not_imp.1 h;obtain ⟨hr,h⟩:=Classical.not_imp.1 h;refine ⟨i,?_,?_⟩
   ·rw [hbit,decide_eq_true hin,decide_eq_true hr];rfl
   ·rw [D0 hl (by omega),jS (fun x hx=>(h0 x hx).1)]
    cases hv:e7 l (i:Nat) with
    | true=>exact absurd hv h
    | false=>rfl
 have k3:(oY c l r c.aD.length=lG c r c.aD.length) ↔ ∀ i,i < c.aD.length→fR c i=r→e7 l (i:Nat)=true:=by
  unfold oY lG
  have e:∀ L:List Nat,(L.countP (fun m=>decide (fR c m=r) && e7 l (m:Nat))=L.countP fun m=>decide (fR c m=r)) ↔ ∀ i ∈ L,fR c i=r→e7 l (i:Nat)=true:=by
   intro L
   induction L with
   | nil=>simp
   | cons a L ih =>
    have hle:L.countP (fun m=>decide (fR c m=r) && e7 l (m:Nat))≤L.countP fun m=>decide (fR c m=r):=List.countP_mono_left fun x _ hx=>by rw [qq7] at hx;exact hx.1
    rw [List.countP_cons,List.countP_cons,List.forall_mem_cons,←ih];by_cases hr:fR c a=r
    ·by_cases hv:e7 l (a:Nat)=true
     ·simp [hr,hv]
     ·have hv':e7 l (a:Nat)=false:=by simpa using hv
      simp only [hr,hv',decide_true,Bool.and_false,if_true,Bool.false_eq_true,if_false];constructor
      ·intro h;omega
      ·rintro ⟨h,_⟩;exact absurd h (by simp)
    ·simp [hr]
  rw [e];exact ⟨fun h i hi=>h i (List.mem_range.2 hi),fun h i hi=>h i (List.mem_range.1 hi)⟩
 have d1:(!decide ((bD c r c.aD.length:Int)=0))=decide (0 < lG c r c.aD.length):=by
  by_cases h:bD c r c.aD.length=0
  ·rw [h,decide_eq_false (fun h2=>k1.2 h2 h)];rfl
  ·rw [decide_eq_false (show ¬ ((bD c r c.aD.length:Int)=0) by omega),decide_eq_true (k1.1 h)];rfl
 have d2:decide (((bD c r c.aD.length &&& (18446744073709551615 - dX l):Nat):Int)=0)=decide (oY c l r c.aD.length=lG c r c.aD.length):=by
  rw [decide_eq_decide];constructor
  ·intro h;exact k3.2 (k2.1 (by omega))
  ·intro h;have:=k2.2 (k3.1 h);omega
 unfold kF kG;rw [d1,d2]
theorem C9 {c:aL} (hg:Good c) {l:List Int} {r:Nat} (hr:c.aC.length≤r):kG c l r=false:=by
 unfold kG
 have:lG c r c.aD.length=0:=by
  unfold lG;rw [List.countP_eq_zero];intro i hi;have hin:=List.mem_range.1 hi;have hm:=hg.M6 _ (List.getElem_mem hin);have:fR c i=c.aD[i].jx.toNat:=by unfold fR;rw [List.getElem?_eq_getElem hin];rfl
  rw [decide_eq_true_eq,this];omega
 rw [this];rfl
theorem BS {c:aL} (hg:Good c) {l:List Int} (h0:∀ x ∈ l,0≤x∧x < 5):xM (bD c 0 c.aD.length) (bD c 1 c.aD.length) (bD c 2 c.aD.length) (dX l)=!lf c l:=by
 have hm:=hg.aD.2;unfold xM;rw [s7 hm h0,s7 hm h0,s7 hm h0]
 congr 1
 unfold lf;have hr:=hg.aC;have big:=fun r (h:c.aC.length≤r)=>C9 hg (l:=l) h;obtain e|e|e:c.aC.length=1∨c.aC.length=2∨c.aC.length=3:=by omega
 ·rw [e,big 1 (by omega),big 2 (by omega)];simp [List.range_succ]
 ·rw [e,big 2 (by omega)];simp [List.range_succ]
 ·rw [e];simp [List.range_succ]
theorem Hq {l:List Int} (h:BQ l=false):∀ d j,j+d+1 < l.length→pV l j < pV l (j+d+1)
 | 0,j,hj=>by have:=List.any_eq_false.1 h j (List.mem_range.2 (by omega));simp only [decide_eq_true_eq] at this;show pV l j < pV l (j+1);omega
 | d+1,j,hj=>by have h1:=Hq h d j (by omega);have h2:=List.any_eq_false.1 h (j+d+1) (List.mem_range.2 (by omega));simp only [decide_eq_true_eq] at h2;show pV l j < pV l (j+d+1+1);omega
end Go.Proofs.YtlpmfgmldmdggaaGreat
open Go Go.RM
namespace Go.Proofs.YtlpmfgmldmdggaaGreat
set_option maxRecDepth 100000
set_option maxHeartbeats 4000000
theorem iw (one:Bool) (a b:Int):Pu one 110 [af a,af b] (BB (decide (a < b))):=by
 have o1:=He one a;refine ak.body (fn:=Tryz.f110) rfl rfl rfl rfl ?_;refine qq1 ?_;repeat' first|refine u1 ?_|((with_reducible refine qq3 ?_);refine ak.call o1 rfl rfl ?_)|refine u2 ?_|fail
 exact ⟨[_],⟨Fz.deep rfl,trivial⟩,rfl⟩
end Go.Proofs.YtlpmfgmldmdggaaGreat
open Go Go.RM
namespace Go.Proofs.YtlpmfgmldmdggaaGreat
set_option maxRecDepth 100000
set_option maxHeartbeats 4000000
theorem oS (W:List Int):([.cells (ay W) 0 0]:List AB).all (AB.ig 1)=true:=by have h1:AB.ig 1 (.cells (ay W) 0 0)=true:=fG 1 (fun _=>rfl) _;simp only [List.all_cons,List.all_nil,h1,Bool.and_true]
structure L7 (c:aL) (p:bE) (l:List Int):Prop where
 Mw:fk 0 ((c.aD.length:Int) - 1) l=false
 Ob:BQ l=false
 len:(l.length:Int)≤p.aR
theorem L7.mem {c:aL} {p:bE} {l:List Int} (h:L7 c p l):∀ x ∈ l,0≤x∧x < c.aD.length:=fun x hx=>by have:=List.any_eq_false.1 h.Mw x hx;simp only [Bool.or_eq_true,decide_eq_true_eq] at this;omega
theorem L7.err {c:aL} {p:bE} {l:List Int} (h:L7 c p l) (b:List Int):jl c p.aR b l=FC c b l:=by unfold jl C7 Fi;rw [if_neg (by rw [h.Mw];simp),if_neg (by rw [h.Ob];simp),if_neg (by have:=h.len;omega)]
end Go.Proofs.YtlpmfgmldmdggaaGreat
open Go Go.RM
namespace Go.Proofs.YtlpmfgmldmdggaaGreat
set_option maxRecDepth 100000
set_option maxHeartbeats 4000000
end Go.Proofs.YtlpmfgmldmdggaaGreat
open Go Go.RM
namespace Go.Proofs.YtlpmfgmldmdggaaGreat
set_option maxRecDepth 100000
set_option maxHeartbeats 4000000
