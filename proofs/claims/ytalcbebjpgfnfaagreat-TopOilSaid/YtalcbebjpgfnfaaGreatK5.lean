/-
  Contracts of the program's functions and of the document's. Lemmas alone; their conditions stand in them.
-/
import Derived.Test.YtalcbebjpgfnfaaGreatA2
import Derived.Test.YtalcbebjpgfnfaaGreatA3
import Derived.Test.YtalcbebjpgfnfaaGreatT1
import Derived.Test.YtalcbebjpgfnfaaGreatK1
import Derived.Test.YtalcbebjpgfnfaaGreatK3
import Derived.Test.YtalcbebjpgfnfaaGreatK4
import Derived.Test.YtalcbebjpgfnfaaGreatRows
open Go Go.RM
namespace Go.Proofs.YtalcbebjpgfnfaaGreat
abbrev JA:Sh:=.int .i64
abbrev rz:Sh:=.cons JA (.cons JA .nil)
abbrev EX:Sh:=.cons .str (.cons rz (.cons JA .nil))
abbrev zA:Sh:=.cons (.slice EX) (.cons rz (.cons rz .nil))
theorem J5 {l:List AV} (h:TV JA l):∃ n,(Lit.int .i64 n).wf=true∧l=eI n:=by
 cases h with
 | int h=>exact ⟨_,h,rfl⟩
theorem N3 {k:IntKind} {l:List AV} (h:TV (.int k) l):∃ n,(Lit.int k n).wf=true∧l=[.fl (.int k n)]:=by
 cases h with
 | int h=>exact ⟨_,h,rfl⟩
theorem Oj {l:List AV} (h:TV .str l):∃ s:ByteArray,s.size≤maxLen∧l=[ST s]:=by
 cases h with
 | str h=>exact ⟨_,h,rfl⟩
theorem uW {a b:Sh} {l:List AV} (h:TV (.cons a b) l):∃ x y,TV a x∧TV b y∧l=x++y:=by
 cases h with
 | cons h k=>exact ⟨_,_,h,k,rfl⟩
theorem K9 {l:List AV} (h:TV .nil l):l=[]:=by cases h;rfl
theorem MP {s:Sh} {l:List AV} (h:TV (.slice s) l):∃ els,els.length≤maxLen∧(∀ el ∈ els,TV s el)∧l=[.sl els false]:=by
 cases h with
 | slice h k=>exact ⟨_,h,k,rfl⟩
theorem Ol {n:Nat} {s:Sh} {l:List AV} (h:TV (.arr n s) l):∃ els:List (List AV),els.length=n∧(∀ el ∈ els,TV s el)∧l=els.flatten:=by
 cases h with
 | arr h k=>exact ⟨_,h,k,rfl⟩
theorem zB {α:Type} {e:α→List AV} {P:α→Prop}:∀ {els:List (List AV)},(∀ el ∈ els,∃ x,P x∧el=e x)→∃ l:List α,(∀ x ∈ l,P x)∧els=l.map e
 | [],_=>⟨[],⟨List.forall_mem_nil _,rfl⟩⟩
 | el :: els,h=>by
  obtain ⟨x,hx,rfl⟩:=h el (by simp)
  obtain ⟨l,hl,rfl⟩:=zB fun el hel=>h el (List.mem_cons_of_mem _ hel)
  exact ⟨x :: l,⟨List.forall_mem_cons.2 ⟨hx,hl⟩,rfl⟩⟩
theorem uj {l:List AV} (h:TV rz l):∃ s:Span,l=ck s:=by
 obtain ⟨_,_,h1,k1,rfl⟩:=uW h
 obtain ⟨_,_,h2,k2,rfl⟩:=uW k1
 obtain ⟨a,_,rfl⟩:=J5 h1
 obtain ⟨b,_,rfl⟩:=J5 h2
 obtain rfl:=K9 k2
 exact ⟨⟨a,b⟩,rfl⟩
theorem J6 {l:List AV} (h:TV EX l):∃ k:gj,k.name.data.toList.length≤maxLen∧l=bh k:=by
 obtain ⟨_,_,h1,k1,rfl⟩:=uW h
 obtain ⟨_,_,h2,k2,rfl⟩:=uW k1
 obtain ⟨_,_,h3,k3,rfl⟩:=uW k2
 obtain ⟨a,ha,rfl⟩:=Oj h1
 obtain ⟨b,rfl⟩:=uj h2
 obtain ⟨c,_,rfl⟩:=J5 h3
 obtain rfl:=K9 k3
 exact ⟨⟨a,b,c⟩,by simpa using ha,rfl⟩
theorem Gi {l:List AV} (h:TV zA l):∃ s:aC,s.Ok∧l=bf s:=by
 obtain ⟨_,_,h1,k1,rfl⟩:=uW h
 obtain ⟨_,_,h2,k2,rfl⟩:=uW k1
 obtain ⟨_,_,h3,k3,rfl⟩:=uW k2
 obtain rfl:=K9 k3
 obtain ⟨a,ha,ha',rfl⟩:=MP h1
 obtain ⟨b,rfl⟩:=uj h2
 obtain ⟨c,rfl⟩:=uj h3
 obtain ⟨a,hn,rfl⟩:=zB (e:=bh) fun el hel=>J6 (ha' el hel)
 exact ⟨⟨a,b,c⟩,⟨by simpa using ha,hn⟩,rfl⟩
open Go.ChangeShapes Go.WideShapes Go.ChangeAt Go.RowKit
theorem J7:ownKnob Tryz.prog.godebug=none:=by kernel_rfl
theorem Ij:laidOutB Tryz.prog=true:=by kernel_rfl
end Go.Proofs.YtalcbebjpgfnfaaGreat
open Go Go.RM
namespace Go.Proofs.YtalcbebjpgfnfaaGreat
abbrev G2 (n:Int):AV:=.fl (.int .u16 n)
end Go.Proofs.YtalcbebjpgfnfaaGreat
open Go Go.RM Go.AirLaw
namespace Go.Proofs.YtalcbebjpgfnfaaGreat
set_option maxRecDepth 100000
set_option maxHeartbeats 4000000
theorem Gj (s:aC) (h:s.Ok):∃ p q e:Int,(∀ one,Pu one 4 [.ag (bf s)] (.tp [ah p,ah q,ah e]))∧(e=0→(1≤s.ax.length∧s.ax.length≤4)∧∀ g:Int,0≤g→g < s.ax.length→∃ O:Int,(0≤O∧O≤1000) ∧
  ∀ m:Int,0≤m→m≤1440→∀ one,Pu one 8 [.ag (bf s),ah g,ah m] (.tp [ah ((O * m+59) / 60),ah 0])):=by
 refine ⟨_,_,_,fun one=>xp one s h,fun he=>?_⟩
 have hf:=xo he
 have hn:=hf.len
 refine ⟨by omega,fun g h0 h1=>?_⟩
 have hg:g.toNat < s.ax.length:=by omega
 have hO:=hf.i9 _ (List.getElem_mem hg)
 refine ⟨s.ax[g.toNat].i9,hO,fun m m0 m1 one=>?_⟩
 have o1:=K8 one s h g m
 rw [J4 _ _ he (by omega) (by omega)] at o1
 have ho:(s.ax.map gj.i9).getD g.toNat 0=s.ax[g.toNat].i9:=by
  rw [List.getD_eq_getElem?_getD,List.getElem?_map,List.getElem?_eq_getElem hg];rfl
 rw [ho] at o1
 exact o1
theorem DY {O x y:Int} (hO:0≤O) (h:x≤y):(O * x+59) / 60≤(O * y+59) / 60:=by
 have:=Int.mul_le_mul_of_nonneg_left h hO
 generalize O * x=p at *
 generalize O * y=q at *
 omega
theorem EY {O x:Int} (hO:0≤O∧O≤1000) (h:0≤x∧x≤1440):0≤(O * x+59) / 60∧(O * x+59) / 60≤24001:=by
 have b1:0≤O * x:=Int.mul_nonneg hO.1 h.1
 have b2:O * x≤1000 * 1440:=Int.mul_le_mul hO.2 h.2 h.1 (by omega)
 generalize O * x=p at *
 omega
end Go.Proofs.YtalcbebjpgfnfaaGreat
open Go Go.RM
namespace Go.Proofs.YtalcbebjpgfnfaaGreat.St
set_option maxRecDepth 100000
theorem ru (one:Bool) (n lo hi:Int):af TT TB one (.fn 100 [] [.pt [ah lo] 0,.pt [ah hi] 0]) [ah n] (BB (decide (n < lo) || decide (hi < n))):=by
 refine af.body (fn:=Tryz.f100) rfl rfl rfl rfl ?_
 refine aa (mu:=fun _=>false) ?_
 repeat' (first |(refine ⟨_,rfl,?_⟩) |(refine bC (by assumption) ?_) |(refine bS (by assumption) ?_) |(refine ⟨fun h=>?_,fun h=>?_⟩) |fail)
 all_goals refine ⟨[_],⟨Fz.deep rfl,trivial⟩,?_⟩
 all_goals simp_all [yI]
end Go.Proofs.YtalcbebjpgfnfaaGreat.St
open Go Go.RM
namespace Go.Proofs.YtalcbebjpgfnfaaGreat.St
set_option maxRecDepth 100000
structure Kind where
 name:ByteArray
 first:Span
 aR:Span
 ay:Span
 room:Int
 cJ:Int
structure iC where
 day:Int
 kind:Int
 cz:Int
structure Count where
 day:Int
 kind:Int
 cz:Span
structure aE where
 first:Int
 aR:Int
 ay:Int
structure aB where
 au:List Int
 kinds:List Kind
 aj:List iC
abbrev bG (k:Kind):List AV:=[ST k.name,ah k.first.lo,ah k.first.hi,ah k.aR.lo,ah k.aR.hi,ah k.ay.lo,ah k.ay.hi,ah k.room,ah k.cJ]
abbrev bM (c:iC):List AV:=[ah c.day,ah c.kind,ah c.cz]
abbrev aG (c:Count):List AV:=[ah c.day,ah c.kind,ah c.cz.lo,ah c.cz.hi]
abbrev aV (t:aE):List AV:=[ah t.first,ah t.aR,ah t.ay]
abbrev aO (s:aB):List AV:=[.sl (s.au.map eI) false,.sl (s.kinds.map bG) false,.sl (s.aj.map bM) false]
theorem lF (one:Bool) (g:FuncId) (fs cs:List AV) (hF:(AV.fn g fs cs).deep=true) (p:Kind→Bool) (l:List Kind) (full:Bool) (hl:l.length≤maxLen) (hp:∀ x ∈ l,af TT TB one (.fn g fs cs) [.ag (bG x)] (BB (p x))) :
  Pu one 171 [.sl (l.map bG) full,.fn g fs cs] (ah (lE p l)):=by
 unfold maxLen at hl
 refine af.body (fn:=Tryz.f171) rfl rfl rfl rfl ?_
 refine aa (mu:=fun _=>false) ?_
 skip
 refine az.aK (ai.to (l:=[(0,.sl (l.map bG) full),(1,.fn g fs cs),(7,ah l.length),(8,ah ((0:Nat):Int))]) 0 rfl ⟨rfl,rfl,aH (by simp),rfl,trivial⟩ (Nat.le_refl _) (by simp [dg,gw,bV 0 _ hF]) rfl) ?_
 refine az.loop (fun k:Nat=>k≤l.length∧∀ i (h:i < l.length),i < k→p l[i]=false) (fun k=>⟨aX [(0,.sl (l.map bG) full),(1,.fn g fs cs),(7,ah l.length),(8,ah (k:Int))],[],bN.none,false,0⟩) (fun k=>l.length - k) ?_ 0 ⟨Nat.zero_le _,fun i _ hi=>absurd hi (by omega)⟩
 intro k ⟨hk,hprev⟩
 refine aa (mu:=fun _=>false) ?_
 refine ⟨fun h=>?_,fun h=>?_⟩
 ·have hlt:k < l.length:=by simpa using h
  skip
  refine ⟨bG l[k],⟨by omega,by simp [hlt]⟩,rfl,?_⟩
  repeat' (first |refine u2 ?_ |fail)
  refine af.call (hp l[k] (List.getElem_mem _)) hF rfl ?_
  refine ⟨fun h2=>?_,fun h2=>?_⟩
  ·skip
   refine ⟨[_],⟨Fz.deep rfl,trivial⟩,?_⟩
   rw [iR hlt hprev h2];rfl
  ·repeat' (first |refine u2 ?_ |fail)
   refine ⟨k+1,⟨hlt,fun i hi hik=>?_⟩,(by dsimp only;omega),ai.to 0 rfl ⟨rfl,rfl,rfl,aH (by simp),trivial⟩ (Nat.le_refl _) (by simp [dg,gw,bV 0 _ hF]) rfl⟩
   by_cases hik':i=k
   ·subst hik';exact h2
   ·exact hprev i hi (by omega)
 ·skip
  refine ⟨[_],⟨Fz.deep rfl,trivial⟩,?_⟩
  have:k=l.length:=by simp at h;omega
  rw [iS fun i hi=>hprev i hi (by omega)];rfl
theorem jz (one:Bool) (g:FuncId) (fs cs:List AV) (hF:(AV.fn g fs cs).deep=true) (p:Kind→Bool) (l:List Kind) (full:Bool) (hl:l.length≤maxLen) (hp:∀ x ∈ l,af TT TB one (.fn g fs cs) [.ag (bG x)] (BB (p x))) :
  Pu one 161 [.sl (l.map bG) full,.fn g fs cs] (BB (l.any p)):=by
 refine af.body (fn:=Tryz.f161) rfl rfl rfl rfl ?_
 refine aa (mu:=fun _=>false) ?_
 skip
 refine af.call (lF one g fs cs hF p l full hl hp) rfl (by simp only [bw,AV.deep,Bool.and_true,Bool.true_and];exact hF) ?_
 skip
 refine ⟨[_],⟨Fz.deep rfl,trivial⟩,?_⟩
 rw [←mD];rfl
theorem lG (one:Bool) (g:FuncId) (fs cs:List AV) (hF:(AV.fn g fs cs).deep=true) (p:Count→Bool) (l:List Count) (full:Bool) (hl:l.length≤maxLen) (hp:∀ x ∈ l,af TT TB one (.fn g fs cs) [.ag (aG x)] (BB (p x))) :
  Pu one 163 [.sl (l.map aG) full,.fn g fs cs] (ah (lE p l)):=by
 unfold maxLen at hl
 refine af.body (fn:=Tryz.f163) rfl rfl rfl rfl ?_
 refine aa (mu:=fun _=>false) ?_
 skip
 refine az.aK (ai.to (l:=[(0,.sl (l.map aG) full),(1,.fn g fs cs),(7,ah l.length),(8,ah ((0:Nat):Int))]) 0 rfl ⟨rfl,rfl,aH (by simp),rfl,trivial⟩ (Nat.le_refl _) (by simp [dg,gw,bV 0 _ hF]) rfl) ?_
 refine az.loop (fun k:Nat=>k≤l.length∧∀ i (h:i < l.length),i < k→p l[i]=false) (fun k=>⟨aX [(0,.sl (l.map aG) full),(1,.fn g fs cs),(7,ah l.length),(8,ah (k:Int))],[],bN.none,false,0⟩) (fun k=>l.length - k) ?_ 0 ⟨Nat.zero_le _,fun i _ hi=>absurd hi (by omega)⟩
 intro k ⟨hk,hprev⟩
 refine aa (mu:=fun _=>false) ?_
 refine ⟨fun h=>?_,fun h=>?_⟩
 ·have hlt:k < l.length:=by simpa using h
  skip
  refine ⟨aG l[k],⟨by omega,by simp [hlt]⟩,rfl,?_⟩
  repeat' (first |refine u2 ?_ |fail)
  refine af.call (hp l[k] (List.getElem_mem _)) hF rfl ?_
  refine ⟨fun h2=>?_,fun h2=>?_⟩
  ·skip
   refine ⟨[_],⟨Fz.deep rfl,trivial⟩,?_⟩
   rw [iR hlt hprev h2];rfl
  ·repeat' (first |refine u2 ?_ |fail)
   refine ⟨k+1,⟨hlt,fun i hi hik=>?_⟩,(by dsimp only;omega),ai.to 0 rfl ⟨rfl,rfl,rfl,aH (by simp),trivial⟩ (Nat.le_refl _) (by simp [dg,gw,bV 0 _ hF]) rfl⟩
   by_cases hik':i=k
   ·subst hik';exact h2
   ·exact hprev i hi (by omega)
 ·skip
  refine ⟨[_],⟨Fz.deep rfl,trivial⟩,?_⟩
  have:k=l.length:=by simp at h;omega
  rw [iS fun i hi=>hprev i hi (by omega)];rfl
theorem ny (one:Bool) (g:FuncId) (fs cs:List AV) (hF:(AV.fn g fs cs).deep=true) (p:Count→Bool) (l:List Count) (full:Bool) (hl:l.length≤maxLen) (hp:∀ x ∈ l,af TT TB one (.fn g fs cs) [.ag (aG x)] (BB (p x))) :
  Pu one 135 [.sl (l.map aG) full,.fn g fs cs] (BB (l.any p)):=by
 refine af.body (fn:=Tryz.f135) rfl rfl rfl rfl ?_
 refine aa (mu:=fun _=>false) ?_
 skip
 refine af.call (lG one g fs cs hF p l full hl hp) rfl (by simp only [bw,AV.deep,Bool.and_true,Bool.true_and];exact hF) ?_
 skip
 refine ⟨[_],⟨Fz.deep rfl,trivial⟩,?_⟩
 rw [←mD];rfl
theorem xq (one:Bool) (g:FuncId) (fs cs:List AV) (hF:(AV.fn g fs cs).deep=true) (p:aE→Bool) (l:List aE) (full:Bool) (hl:l.length≤maxLen) (hp:∀ x ∈ l,af TT TB one (.fn g fs cs) [.ag (aV x)] (BB (p x))) :
  Pu one 141 [.sl (l.map aV) full,.fn g fs cs] (ah (lE p l)):=by
 unfold maxLen at hl
 refine af.body (fn:=Tryz.f141) rfl rfl rfl rfl ?_
 refine aa (mu:=fun _=>false) ?_
 skip
 refine az.aK (ai.to (l:=[(0,.sl (l.map aV) full),(1,.fn g fs cs),(7,ah l.length),(8,ah ((0:Nat):Int))]) 0 rfl ⟨rfl,rfl,aH (by simp),rfl,trivial⟩ (Nat.le_refl _) (by simp [dg,gw,bV 0 _ hF]) rfl) ?_
 refine az.loop (fun k:Nat=>k≤l.length∧∀ i (h:i < l.length),i < k→p l[i]=false) (fun k=>⟨aX [(0,.sl (l.map aV) full),(1,.fn g fs cs),(7,ah l.length),(8,ah (k:Int))],[],bN.none,false,0⟩) (fun k=>l.length - k) ?_ 0 ⟨Nat.zero_le _,fun i _ hi=>absurd hi (by omega)⟩
 intro k ⟨hk,hprev⟩
 refine aa (mu:=fun _=>false) ?_
 refine ⟨fun h=>?_,fun h=>?_⟩
 ·have hlt:k < l.length:=by simpa using h
  skip
  refine ⟨aV l[k],⟨by omega,by simp [hlt]⟩,rfl,?_⟩
  repeat' (first |refine u2 ?_ |fail)
  refine af.call (hp l[k] (List.getElem_mem _)) hF rfl ?_
  refine ⟨fun h2=>?_,fun h2=>?_⟩
  ·skip
   refine ⟨[_],⟨Fz.deep rfl,trivial⟩,?_⟩
   rw [iR hlt hprev h2];rfl
  ·repeat' (first |refine u2 ?_ |fail)
   refine ⟨k+1,⟨hlt,fun i hi hik=>?_⟩,(by dsimp only;omega),ai.to 0 rfl ⟨rfl,rfl,rfl,aH (by simp),trivial⟩ (Nat.le_refl _) (by simp [dg,gw,bV 0 _ hF]) rfl⟩
   by_cases hik':i=k
   ·subst hik';exact h2
   ·exact hprev i hi (by omega)
 ·skip
  refine ⟨[_],⟨Fz.deep rfl,trivial⟩,?_⟩
  have:k=l.length:=by simp at h;omega
  rw [iS fun i hi=>hprev i hi (by omega)];rfl
theorem s5 (one:Bool) (g:FuncId) (fs cs:List AV) (hF:(AV.fn g fs cs).deep=true) (p:aE→Bool) (l:List aE) (full:Bool) (hl:l.length≤maxLen) (hp:∀ x ∈ l,af TT TB one (.fn g fs cs) [.ag (aV x)] (BB (p x))) :
  Pu one 103 [.sl (l.map aV) full,.fn g fs cs] (BB (l.any p)):=by
 refine af.body (fn:=Tryz.f103) rfl rfl rfl rfl ?_
 refine aa (mu:=fun _=>false) ?_
 skip
 refine af.call (xq one g fs cs hF p l full hl hp) rfl (by simp only [bw,AV.deep,Bool.and_true,Bool.true_and];exact hF) ?_
 skip
 refine ⟨[_],⟨Fz.deep rfl,trivial⟩,?_⟩
 rw [←mD];rfl
end Go.Proofs.YtalcbebjpgfnfaaGreat.St
open Go Go.RM
namespace Go.Proofs.YtalcbebjpgfnfaaGreat.St
set_option maxRecDepth 100000
theorem cX (one:Bool) (lo hi:Int) (els:List (List AV)) (full:Bool) (h:els.all NL=true) (hl:els.length≤maxLen):Pu one 54 [ah lo,ah hi,.sl els full] (BB (aM lo hi (els.map Ga))):=by
 obtain ⟨l,hl'⟩:∃ l,els.map Ga=l:=⟨_,rfl⟩
 have he:els=ints l:=by rw [←hl'];exact allI h
 rw [hl']
 subst he
 refine af.body (fn:=Tryz.f54) rfl rfl rfl rfl ?_
 refine aa (mu:=fun _=>false) ?_
 repeat' (first |refine u2 ?_ |fail)
 refine af.call (jy one 100 [] _ rfl (fun n=>decide (n < lo) || decide (hi < n)) l full (by simpa using hl) (fun n _=>ru one n lo hi)) rfl rfl ?_
 skip
 refine ⟨[_],⟨Fz.deep rfl,trivial⟩,?_⟩
 rfl
end Go.Proofs.YtalcbebjpgfnfaaGreat.St
open Go Go.RM
namespace Go.Proofs.YtalcbebjpgfnfaaGreat.St
abbrev Ik:Sh:=.cons .str (.cons rz (.cons rz (.cons rz (.cons JA (.cons JA .nil)))))
abbrev EZ:Sh:=.cons JA (.cons JA (.cons JA .nil))
abbrev CK:Sh:=.cons (.slice JA) (.cons (.slice Ik) (.cons (.slice EZ) .nil))
theorem LQ {l:List AV} (h:TV Ik l):∃ k:Kind,k.name.data.toList.length≤maxLen∧l=bG k:=by
 obtain ⟨_,_,h1,k1,rfl⟩:=uW h
 obtain ⟨_,_,h2,k2,rfl⟩:=uW k1
 obtain ⟨_,_,h3,k3,rfl⟩:=uW k2
 obtain ⟨_,_,h4,k4,rfl⟩:=uW k3
 obtain ⟨_,_,h5,k5,rfl⟩:=uW k4
 obtain ⟨_,_,h6,k6,rfl⟩:=uW k5
 obtain ⟨a,ha,rfl⟩:=Oj h1
 obtain ⟨b,rfl⟩:=uj h2
 obtain ⟨c,rfl⟩:=uj h3
 obtain ⟨d,rfl⟩:=uj h4
 obtain ⟨e,_,rfl⟩:=J5 h5
 obtain ⟨f,_,rfl⟩:=J5 h6
 obtain rfl:=K9 k6
 exact ⟨⟨a,b,c,d,e,f⟩,by simpa using ha,rfl⟩
theorem J8 {l:List AV} (h:TV EZ l):∃ c:iC,l=bM c:=by
 obtain ⟨_,_,h1,k1,rfl⟩:=uW h
 obtain ⟨_,_,h2,k2,rfl⟩:=uW k1
 obtain ⟨_,_,h3,k3,rfl⟩:=uW k2
 obtain ⟨a,_,rfl⟩:=J5 h1
 obtain ⟨b,_,rfl⟩:=J5 h2
 obtain ⟨c,_,rfl⟩:=J5 h3
 obtain rfl:=K9 k3
 exact ⟨⟨a,b,c⟩,rfl⟩
structure aB.Ok (s:aB):Prop where
 au:s.au.length≤maxLen
 kinds:s.kinds.length≤maxLen
 aj:s.aj.length≤maxLen
 names:∀ k ∈ s.kinds,k.name.data.toList.length≤maxLen
theorem Il {l:List AV} (h:TV CK l):∃ s:aB,s.Ok∧l=aO s:=by
 obtain ⟨_,_,h1,k1,rfl⟩:=uW h
 obtain ⟨_,_,h2,k2,rfl⟩:=uW k1
 obtain ⟨_,_,h3,k3,rfl⟩:=uW k2
 obtain rfl:=K9 k3
 obtain ⟨a,ha,ha',rfl⟩:=MP h1
 obtain ⟨b,hb,hb',rfl⟩:=MP h2
 obtain ⟨c,hc,hc',rfl⟩:=MP h3
 obtain ⟨a,_,rfl⟩:=zB (e:=eI) (P:=fun _=>True) fun el hel=>by obtain ⟨n,_,h⟩:=J5 (ha' el hel);exact ⟨n,trivial,h⟩
 obtain ⟨b,hn,rfl⟩:=zB (e:=bG) fun el hel=>LQ (hb' el hel)
 obtain ⟨c,_,rfl⟩:=zB (e:=bM) (P:=fun _=>True) fun el hel=>by obtain ⟨n,h⟩:=J8 (hc' el hel);exact ⟨n,trivial,h⟩
 exact ⟨⟨a,b,c⟩,⟨by simpa using ha,by simpa using hb,by simpa using hc,hn⟩,rfl⟩
end Go.Proofs.YtalcbebjpgfnfaaGreat.St
open Go Go.RM
namespace Go.Proofs.YtalcbebjpgfnfaaGreat.St
set_option maxRecDepth 100000
def eY (k:Kind) (names:List ByteArray):Int :=
 if ja k.name=false then 6
 else if names.any (fun x=>vr x k.name) then 5
 else if aM 0 300 [k.first.lo,k.first.hi,k.room] || aM 0 6 [k.aR.lo,k.aR.hi] || aM 0 12 [k.ay.lo,k.ay.hi] || aM 0 1000 [k.cJ] then 7
 else if decide (k.first.hi < k.first.lo) || decide (k.aR.hi < k.aR.lo) || decide (k.ay.hi < k.ay.lo) then 2
 else 0
theorem s7 {v:Value}:(AV.fl v).cells=[AV.fl v]:=rfl
theorem A2 {n:Int}:Ga [AV.fl (.int .i64 n)]=n:=rfl
theorem xl (one:Bool) (n:Int):Pu one 126 [ah n] (BB (aM 0 12 [n])):=by
 refine af.body (fn:=Tryz.f126) rfl rfl rfl rfl ?_
 refine aa (mu:=fun _=>false) ?_
 repeat' (first |refine u2 ?_ |refine af.call (cX one _ _ _ _ rfl (Nat.le_of_ble_eq_true rfl)) rfl rfl ?_ |fail)
 exact ⟨[_],⟨Fz.deep rfl,trivial⟩,rfl⟩
theorem J9 (one:Bool) (k x:Kind):af TT TB one (.fn 162 [] [.pt (bG k) 0]) [.ag (bG x)] (BB (vr x.name k.name)):=by
 refine af.body (fn:=Tryz.f162) rfl rfl rfl rfl ?_
 refine aa (mu:=fun _=>false) ?_
 repeat' (first |refine u2 ?_ |fail)
 exact ⟨[_],⟨Fz.deep rfl,trivial⟩,rfl⟩
theorem LR (one:Bool) (k:Kind) (others:List Kind) (els:List (List AV)) (full:Bool) (he:els=others.map bG) (hk:k.name.data.toList.length≤maxLen) (ho:others.length≤maxLen):Pu one 129 [.ag (bG k),.sl els full] (ah (eY k (others.map (·.name)))):=by
 subst he
 have hany:(others.map (·.name)).any (fun x=>vr x k.name)=others.any (fun x=>vr x.name k.name):=by simp [List.any_map,Function.comp_def]
 have hc:=jz one 162 [] [.pt (bG k) 0] rfl (fun x=>vr x.name k.name) others full ho (fun x _=>J9 one k x)
 unfold eY
 rw [hany]
 generalize others.any (fun x=>vr x.name k.name)=b at hc
 refine af.body (fn:=Tryz.f129) rfl rfl rfl rfl ?_
 refine aa (mu:=fun _=>false) ?_
 repeat' (first |(refine ⟨_,rfl,?_⟩) |(refine bC (by assumption) ?_) |(refine bC rfl ?_) |(refine bS rfl ?_) |(refine bS (by assumption) ?_) |(refine ⟨_,_,rfl,by decide,?_⟩) |(refine ⟨rfl,rfl,rfl,?_⟩) |(refine ⟨rfl,rfl,?_⟩) |(refine af.call (cX one _ _ _ _ rfl (Nat.le_of_ble_eq_true rfl)) rfl rfl ?_) |(refine af.call (HZ one _ hk) rfl rfl ?_) |(refine af.call hc rfl rfl ?_) |(refine ⟨fun h=>?_,fun h=>?_⟩) |fail)
 all_goals refine ⟨[_],⟨Fz.deep rfl,trivial⟩,aH ?_⟩
 all_goals simp_all [s7,A2]
theorem Gk (one:Bool) (g:FuncId) (fs cs:List AV) (hF:(AV.fn g fs cs).deep=true) (e:Nat→Int) (l:List Kind) (full:Bool) (hl:l.length≤maxLen) (hp:∀ i (h:i < l.length),af TT TB one (.fn g fs cs) [ah i,.ag (bG l[i])] (ah (e i))) :
  Pu one 127 [.sl (l.map bG) full,.fn g fs cs] (.tp [ah (bT l.length e).1,ah (bT l.length e).2]):=by
 unfold maxLen at hl
 refine af.body (fn:=Tryz.f127) rfl rfl rfl rfl ?_
 refine aa (mu:=fun _=>false) ?_
 skip
 refine az.aK (ai.to (l:=[(1,.fn g fs cs),(9,.sl (l.map bG) full),(10,ah l.length),(11,ah ((0:Nat):Int))]) 0 rfl ⟨rfl,rfl,aH (by simp),rfl,trivial⟩ (Nat.le_refl _) (by simp [dg,gw,bV 0 _ hF]) rfl) ?_
 refine az.loop (fun k:Nat=>k≤l.length∧∀ i,i < k→e i=0) (fun k=>⟨aX [(1,.fn g fs cs),(9,.sl (l.map bG) full),(10,ah l.length),(11,ah (k:Int))],[],bN.none,false,0⟩) (fun k=>l.length - k) ?_ 0 ⟨Nat.zero_le _,fun i hi=>absurd hi (by omega)⟩
 intro k ⟨hk,hprev⟩
 refine aa (mu:=fun _=>false) ?_
 refine ⟨fun h=>?_,fun h=>?_⟩
 ·have hlt:k < l.length:=by simpa using h
  skip
  refine ⟨bG l[k],⟨by omega,by simp [hlt]⟩,rfl,?_⟩
  repeat' (first |refine u2 ?_ |fail)
  refine af.call (hp k hlt) hF rfl ?_
  skip
  refine ⟨fun h2=>?_,fun h2=>?_⟩
  ·skip
   refine ⟨[_,_],⟨Fz.deep rfl,Fz.deep rfl,trivial⟩,?_⟩
   rw [gM hlt hprev (by simpa using h2)];rfl
  ·repeat' (first |refine u2 ?_ |fail)
   refine ⟨k+1,⟨hlt,fun i hik=>?_⟩,(by dsimp only;omega),ai.to 0 rfl ⟨rfl,rfl,rfl,aH (by simp),trivial⟩ (Nat.le_refl _) (by simp [dg,gw,bV 0 _ hF]) rfl⟩
   by_cases hik':i=k
   ·subst hik';simpa using h2
   ·exact hprev i (by omega)
 ·skip
  refine ⟨[_,_],⟨Fz.deep rfl,Fz.deep rfl,trivial⟩,?_⟩
  have:k=l.length:=by simp at h;omega
  rw [eW fun i hi=>hprev i (by omega)];rfl
theorem Gl (one:Bool) (g:FuncId) (fs cs:List AV) (hF:(AV.fn g fs cs).deep=true) (e:Nat→Int) (l:List iC) (full:Bool) (hl:l.length≤maxLen) (hp:∀ i (h:i < l.length),af TT TB one (.fn g fs cs) [ah i,.ag (bM l[i])] (ah (e i))) :
  Pu one 130 [.sl (l.map bM) full,.fn g fs cs] (.tp [ah (bT l.length e).1,ah (bT l.length e).2]):=by
 unfold maxLen at hl
 refine af.body (fn:=Tryz.f130) rfl rfl rfl rfl ?_
 refine aa (mu:=fun _=>false) ?_
 skip
 refine az.aK (ai.to (l:=[(1,.fn g fs cs),(9,.sl (l.map bM) full),(10,ah l.length),(11,ah ((0:Nat):Int))]) 0 rfl ⟨rfl,rfl,aH (by simp),rfl,trivial⟩ (Nat.le_refl _) (by simp [dg,gw,bV 0 _ hF]) rfl) ?_
 refine az.loop (fun k:Nat=>k≤l.length∧∀ i,i < k→e i=0) (fun k=>⟨aX [(1,.fn g fs cs),(9,.sl (l.map bM) full),(10,ah l.length),(11,ah (k:Int))],[],bN.none,false,0⟩) (fun k=>l.length - k) ?_ 0 ⟨Nat.zero_le _,fun i hi=>absurd hi (by omega)⟩
 intro k ⟨hk,hprev⟩
 refine aa (mu:=fun _=>false) ?_
 refine ⟨fun h=>?_,fun h=>?_⟩
 ·have hlt:k < l.length:=by simpa using h
  skip
  refine ⟨bM l[k],⟨by omega,by simp [hlt]⟩,rfl,?_⟩
  repeat' (first |refine u2 ?_ |fail)
  refine af.call (hp k hlt) hF rfl ?_
  skip
  refine ⟨fun h2=>?_,fun h2=>?_⟩
  ·skip
   refine ⟨[_,_],⟨Fz.deep rfl,Fz.deep rfl,trivial⟩,?_⟩
   rw [gM hlt hprev (by simpa using h2)];rfl
  ·repeat' (first |refine u2 ?_ |fail)
   refine ⟨k+1,⟨hlt,fun i hik=>?_⟩,(by dsimp only;omega),ai.to 0 rfl ⟨rfl,rfl,rfl,aH (by simp),trivial⟩ (Nat.le_refl _) (by simp [dg,gw,bV 0 _ hF]) rfl⟩
   by_cases hik':i=k
   ·subst hik';simpa using h2
   ·exact hprev i (by omega)
 ·skip
  refine ⟨[_,_],⟨Fz.deep rfl,Fz.deep rfl,trivial⟩,?_⟩
  have:k=l.length:=by simp at h;omega
  rw [eW fun i hi=>hprev i (by omega)];rfl
theorem DZ (one:Bool) (g:FuncId) (fs cs:List AV) (hF:(AV.fn g fs cs).deep=true) (e:Nat→Int) (l:List Count) (full:Bool) (hl:l.length≤maxLen) (hp:∀ i (h:i < l.length),af TT TB one (.fn g fs cs) [ah i,.ag (aG l[i])] (ah (e i))) :
  Pu one 138 [.sl (l.map aG) full,.fn g fs cs] (.tp [ah (bT l.length e).1,ah (bT l.length e).2]):=by
 unfold maxLen at hl
 refine af.body (fn:=Tryz.f138) rfl rfl rfl rfl ?_
 refine aa (mu:=fun _=>false) ?_
 skip
 refine az.aK (ai.to (l:=[(1,.fn g fs cs),(9,.sl (l.map aG) full),(10,ah l.length),(11,ah ((0:Nat):Int))]) 0 rfl ⟨rfl,rfl,aH (by simp),rfl,trivial⟩ (Nat.le_refl _) (by simp [dg,gw,bV 0 _ hF]) rfl) ?_
 refine az.loop (fun k:Nat=>k≤l.length∧∀ i,i < k→e i=0) (fun k=>⟨aX [(1,.fn g fs cs),(9,.sl (l.map aG) full),(10,ah l.length),(11,ah (k:Int))],[],bN.none,false,0⟩) (fun k=>l.length - k) ?_ 0 ⟨Nat.zero_le _,fun i hi=>absurd hi (by omega)⟩
 intro k ⟨hk,hprev⟩
 refine aa (mu:=fun _=>false) ?_
 refine ⟨fun h=>?_,fun h=>?_⟩
 ·have hlt:k < l.length:=by simpa using h
  skip
  refine ⟨aG l[k],⟨by omega,by simp [hlt]⟩,rfl,?_⟩
  repeat' (first |refine u2 ?_ |fail)
  refine af.call (hp k hlt) hF rfl ?_
  skip
  refine ⟨fun h2=>?_,fun h2=>?_⟩
  ·skip
   refine ⟨[_,_],⟨Fz.deep rfl,Fz.deep rfl,trivial⟩,?_⟩
   rw [gM hlt hprev (by simpa using h2)];rfl
  ·repeat' (first |refine u2 ?_ |fail)
   refine ⟨k+1,⟨hlt,fun i hik=>?_⟩,(by dsimp only;omega),ai.to 0 rfl ⟨rfl,rfl,rfl,aH (by simp),trivial⟩ (Nat.le_refl _) (by simp [dg,gw,bV 0 _ hF]) rfl⟩
   by_cases hik':i=k
   ·subst hik';simpa using h2
   ·exact hprev i (by omega)
 ·skip
  refine ⟨[_,_],⟨Fz.deep rfl,Fz.deep rfl,trivial⟩,?_⟩
  have:k=l.length:=by simp at h;omega
  rw [eW fun i hi=>hprev i (by omega)];rfl
theorem Im (s:aB) (i:Nat) (k:Kind) (hi:i≤s.kinds.length) (hk:k.name.data.toList.length≤maxLen) (hs:s.kinds.length≤maxLen) (one:Bool):af TT TB one (.fn 128 [] [.pt (aO s) 0]) [ah i,.ag (bG k)] (ah (eY k ((s.kinds.take i).map (·.name)))):=by
 unfold maxLen at hs
 refine af.body (fn:=Tryz.f128) rfl rfl rfl rfl ?_
 refine aa (mu:=fun _=>false) ?_
 repeat' (first |refine u2 ?_ |fail)
 refine ⟨0,i,rfl,rfl,⟨by omega,by simpa using hi⟩,by decide,by simp,?_⟩
 repeat' (first |(refine EE rfl rfl ?_) |fail)
 refine ⟨_,LR true k (s.kinds.take i) _ _ (by simp) hk (by simp;unfold maxLen;omega),?_⟩
 repeat' (first |refine u2 ?_ |fail)
 exact ⟨[_],⟨Fz.deep rfl,trivial⟩,rfl⟩
def gO (s:aB) (c:iC):Int :=
 if aM 0 ((s.kinds.length:Int) - 1) [c.kind] then 4
 else if aM 0 ((s.au.length:Int) - 1) [c.day] || aM 0 300 [c.cz] then 7
 else 0
theorem Ip (s:aB) (i:Int) (c:iC) (hk:s.kinds.length≤maxLen) (hm:s.au.length≤maxLen) (one:Bool):af TT TB one (.fn 131 [] [.pt (aO s) 0]) [ah i,.ag (bM c)] (ah (gO s c)):=by
 unfold maxLen at hk hm
 unfold gO
 have e1:((s.kinds.map bG).length:Int)=s.kinds.length:=by simp
 have e2:((s.au.map eI).length:Int)=s.au.length:=by simp
 refine af.body (fn:=Tryz.f131) rfl rfl rfl rfl ?_
 refine aa (mu:=fun _=>false) ?_
 repeat' (first |(refine ⟨_,rfl,?_⟩) |(refine bC (by assumption) ?_) |(refine bC rfl ?_) |(refine bS (by assumption) ?_) |(refine ⟨_,_,rfl,by decide,?_⟩) |(refine ⟨rfl,rfl,rfl,?_⟩) |(refine ⟨rfl,rfl,?_⟩) |(refine And.intro (by omega) ?_) |(refine af.call (cX one _ _ _ _ rfl (Nat.le_of_ble_eq_true rfl)) rfl rfl ?_) |(refine ⟨fun h=>?_,fun h=>?_⟩) |fail)
 all_goals refine ⟨[_],⟨Fz.deep rfl,trivial⟩,aH ?_⟩
 all_goals simp_all [s7,A2]
def ir (s:aB):Int × Int × Int :=
 if aM 1 30 [(s.au.length:Int)] || aM 1 4 [(s.kinds.length:Int)] || decide (8 < (s.aj.length:Int)) then (1,0,3)
 else
  let i:=lE (fun n=>aM 0 12 [n]) s.au
  if 0≤i then (1,i,7)
  else
   let a:=bT s.kinds.length fun i=>match s.kinds[i]? with|some k=>eY k ((s.kinds.take i).map (·.name))|none=>0
   if a.2 ≠ 0 then (2,a.1,a.2)
   else
    let b:=bT s.aj.length fun i=>match s.aj[i]? with|some c=>gO s c|none=>0
    if b.2 ≠ 0 then (3,b.1,b.2) else (0,0,0)
theorem OP {a b c a' b' c':Int} (h1:a=a') (h2:b=b') (h3:c=c'):AV.tp [ah a,ah b,ah c]=AV.tp [ah a',ah b',ah c']:=by rw [h1,h2,h3]
theorem vF (s:aB) (h:s.Ok) (one:Bool):Pu one 88 [.ag (aO s)] (.tp [ah (ir s).1,ah (ir s).2.1,ah (ir s).2.2]):=by
 have hm:=h.au
 have hk:=h.kinds
 have hc:=h.aj
 have c1:=qK one 126 [] [] rfl (fun n=>aM 0 12 [n]) s.au false hm (fun n _=>xl one n)
 have c2:=Gk one 128 [] [.pt (aO s) 0] rfl (fun i=>match s.kinds[i]? with|some k=>eY k ((s.kinds.take i).map (·.name))|none=>0) s.kinds false hk (fun i hi=>by
  simp only [List.getElem?_eq_getElem hi]
  exact Im s i _ (by omega) (h.names _ (List.getElem_mem hi)) hk one)
 have c3:=Gl one 131 [] [.pt (aO s) 0] rfl (fun i=>match s.aj[i]? with|some c=>gO s c|none=>0) s.aj false hc (fun i hi=>by
  simp only [List.getElem?_eq_getElem hi]
  exact Ip s i _ hk hm one)
 unfold ir
 generalize lE (fun n=>aM 0 12 [n]) s.au=i at c1 ⊢
 generalize (bT s.kinds.length fun i=>match s.kinds[i]? with|some k=>eY k ((s.kinds.take i).map (·.name))|none=>0)=a at c2 ⊢
 generalize (bT s.aj.length fun i=>match s.aj[i]? with|some c=>gO s c|none=>0)=b at c3 ⊢
 unfold maxLen at hm hk hc
 refine af.body (fn:=Tryz.f88) rfl rfl rfl rfl ?_
 refine aa (mu:=fun _=>false) ?_
 repeat' (first |(refine ⟨_,rfl,?_⟩) |(refine bC (by assumption) ?_) |(refine bC rfl ?_) |(refine bS rfl ?_) |(refine bS (by assumption) ?_) |(refine ⟨_,_,rfl,by decide,?_⟩) |(refine ⟨rfl,rfl,rfl,?_⟩) |(refine ⟨rfl,rfl,?_⟩) |(refine af.call (cX one _ _ _ _ rfl (Nat.le_of_ble_eq_true rfl)) rfl rfl ?_) |(refine af.call c1 rfl rfl ?_) |(refine af.call c2 rfl rfl ?_) |(refine af.call c3 rfl rfl ?_) |(refine ⟨fun h=>?_,fun h=>?_⟩) |fail)
 all_goals refine ⟨[_,_,_],⟨Fz.deep rfl,Fz.deep rfl,Fz.deep rfl,trivial⟩,?_⟩
 all_goals refine OP ?_ ?_ ?_
 all_goals simp_all [s7,A2]
 all_goals (repeat' split) <;> first|rfl|omega|(simp_all <;> omega)
end Go.Proofs.YtalcbebjpgfnfaaGreat.St
open Go Go.RM
namespace Go.Proofs.YtalcbebjpgfnfaaGreat.St
set_option maxRecDepth 100000
theorem oY (one:Bool) (n lo hi:Int):Pu one 19 [ah n,ah lo,ah hi] (BB (kM n lo hi)):=by
 refine af.body (fn:=Tryz.f19) rfl rfl rfl rfl ?_
 refine aa (mu:=fun _=>false) ?_
 repeat' (first |(refine bC (by assumption) ?_) |(refine bS (by assumption) ?_) |(refine ⟨fun h=>?_,fun h=>?_⟩) |fail)
 all_goals refine ⟨[_],⟨Fz.deep rfl,trivial⟩,Bt ?_⟩
 all_goals simp_all [kM]
 all_goals omega
end Go.Proofs.YtalcbebjpgfnfaaGreat.St
