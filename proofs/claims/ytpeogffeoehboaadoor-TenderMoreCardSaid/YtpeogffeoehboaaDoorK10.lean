/-
  Contracts of the program's functions and of the document's. Lemmas alone; their conditions stand in them.
-/
import Derived.Test.YtpeogffeoehboaaDoorA3
import Derived.Test.YtpeogffeoehboaaDoorK4
import Derived.Test.YtpeogffeoehboaaDoorK7
import Derived.Test.YtpeogffeoehboaaDoorK9
open Go Go.RM
namespace Go.Proofs.YtpeogffeoehboaaDoor
set_option maxRecDepth 100000
theorem IQ (k m:Nat) (H:Hp):kV (xz k) 90 [.int .u64 (m:Int)] H=bif Dk (k:Int) (m:Int) then some (.int .i64 (Lib.ctz 64 k),H) else none:=by
 have h:kT 0 (.int .u64 (k:Int)) (.int .u64 (m:Int)) .leaf=bif Dk (k:Int) (m:Int) then some .leaf else none:=by
  show (bif (IntKind.u64 == IntKind.u64) && Dk (k:Int) (m:Int) then some Tr.leaf else none)=_
  rfl
 show (match ((kT 0 (.int .u64 (k:Int)) (.int .u64 (m:Int)) .leaf).bind (gR 0 [] [])) with
  | some φ=>match jb 0 H.get [] 0 φ with
   | some _=>(mR 0 H.n (.int .i64 (Lib.ctz 64 k))).map fun v=>(v,dQ H [])
   | none=>none
  | none=>none)=_
 rw [h]
 cases Dk (k:Int) (m:Int) <;> rfl
theorem D7 (m:Nat) (H:Hp):∀ l:List Nat,m ∈ l→RM.look (l.map xz) 90 [.int .u64 (m:Int)] H=some (.int .i64 (Lib.ctz 64 m),H)
 | [],h=>by cases h
 | k :: l,h=>by
  show (match kV (xz k) 90 [.int .u64 (m:Int)] H with
   | some r=>some r
   | none=>RM.look (l.map xz) 90 [.int .u64 (m:Int)] H)=_
  rw [IQ,Fs]
  by_cases e:(k:Int)=(m:Int)
  ·rw [decide_eq_true e]
   have:k=m:=by omega
   subst this
   rfl
  ·rw [decide_eq_false e]
   show RM.look (l.map xz) 90 [.int .u64 (m:Int)] H=_
   refine D7 m H l ?_
   rcases List.mem_cons.1 h with rfl|h
   ·exact absurd rfl e
   ·exact h
theorem Kf {m:Nat} (hm:m < 256) (H:Hp):RM.look TB 90 [.int .u64 (m:Int)] H=some (.int .i64 (Lib.ctz 64 m),H):=by
 show (match kV OW 90 [.int .u64 (m:Int)] H with
  | some r=>some r
  | none=>RM.look ((List.range 256).map xz) 90 [.int .u64 (m:Int)] H)=_
 show RM.look ((List.range 256).map xz) 90 [.int .u64 (m:Int)] H=_
 exact D7 m H _ (List.mem_range.2 hm)
theorem BG {tab:List XE} {one:Bool} {f:FuncId} {a v:Value} (h:∀ H,RM.look tab f [a] H=some (v,H)) (hv:aM v=true):af TT tab one (.fn f [] []) [.fl a] (.fl v):=by
 refine ⟨rfl,fun X H u us hwf hX hF ha=>?_⟩
 cases hF with
 | fn l1 l2 d1 d2 =>
  rename_i a' b'
  have h1:a'.toList=[]:=List.length_eq_zero_iff.1 l1.symm
  have h2:b'.toList=[]:=List.length_eq_zero_iff.1 l2.symm
  have h3:us=[a]:=by
   obtain ⟨hl,hg⟩:=ha
   match us,hl with
   | [w],_ =>
    have:=hg 0 (.fl a) w rfl rfl
    cases this
    rfl
  refine ⟨.fn f [a],by simp [cA,h1,h2,h3],0,[.ret v H],?_,fun _=>⟨_,rfl⟩,fun r hr=>?_⟩
  ·show rx tab (sH tab TT 0) (.call f [a] H)=_
   unfold rx
   simp only [h H]
  ·obtain rfl:=List.mem_singleton.1 hr
   exact ⟨v,H,rfl,Nat.le_refl _,hwf,fun _ _=>rfl,Nat.min_le_left _ _,.fl hv⟩
theorem Nr (one:Bool) {m:Nat} (hm:m < 256):Pu one 90 [fA m] (aA (Lib.ctz 64 m)):=BG (fun H=>Kf hm H) rfl
end Go.Proofs.YtpeogffeoehboaaDoor
open Go Go.RM
namespace Go.Proofs.YtpeogffeoehboaaDoor
set_option maxRecDepth 100000
set_option maxHeartbeats 4000000
theorem O7 {own:Bool} {fr:Nat→AV} {hp:List AB} {K:AV→List AB→Prop} {x:Operand} {n:Nat} (hx:aP fr x=fA n) (h:n < 4611686018427387904) (k:K (aA (n:Nat)) hp):RM.wpOp TT own (.convert 131 3 x) fr hp K:=by
 show y3 TT 131 3 (aP fr x) hp K
 rw [hx]
 have e:cP (aD TT.P (convert 131 3 (.int .u64 (n:Int))))=some (.int .i64 (IntKind.i64.wrap (n:Int)),.none):=rfl
 rw [wrap_i64 (by omega) (by omega)] at e
 exact ⟨_,rfl,_,e,rfl,k⟩
def jG (m:Nat):Nat:=(m / 2 ^ 1 &&& 6148914691236517205)+(m &&& 6148914691236517205)
def nT (m:Nat):Nat:=(m / 2 ^ 2 &&& 3689348814741910323)+(m &&& 3689348814741910323)
def rD (m:Nat):Nat:=(m / 2 ^ 4+m) &&& 1085102592571150095
def k9 (m:Nat):Nat:=(let c:=rD (nT (jG m));let d:=c+c / 2 ^ 8;let e:=d+d / 2 ^ 16;e+e / 2 ^ 32) &&& 127
theorem Ns {m:Nat} (h:m < 256):jG m < 384:=by
 have h1:m / 2 ^ 1 &&& 6148914691236517205≤m / 2 ^ 1:=Nat.and_le_left
 have h2:m &&& 6148914691236517205≤m:=Nat.and_le_left
 unfold jG
 omega
theorem Nt {m:Nat} (h:m < 384):nT m < 480:=by
 have h1:m / 2 ^ 2 &&& 3689348814741910323≤m / 2 ^ 2:=Nat.and_le_left
 have h2:m &&& 3689348814741910323≤m:=Nat.and_le_left
 unfold nT
 omega
theorem Nu {m:Nat} (h:m < 480):rD m < 512:=by
 have h1:(m / 2 ^ 4+m) &&& 1085102592571150095≤m / 2 ^ 4+m:=Nat.and_le_left
 unfold rD
 omega
theorem IX (m:Nat):k9 m≤127:=Nat.and_le_right
theorem Nv (one:Bool) {m:Nat} (hm:m < 256):Pu one 87 [fA m] (aA (k9 m:Nat)):=by
 have b1:=Ns hm
 have b2:=Nt b1
 have b3:=Nu b2
 have a1:m / 2 ^ 1 &&& 6148914691236517205≤m / 2 ^ 1:=Nat.and_le_left
 have a2:m &&& 6148914691236517205≤m:=Nat.and_le_left
 have a3:jG m / 2 ^ 2 &&& 3689348814741910323≤jG m / 2 ^ 2:=Nat.and_le_left
 have a4:jG m &&& 3689348814741910323≤jG m:=Nat.and_le_left
 have e1:(m / 2 ^ 1 &&& 6148914691236517205)+(m &&& 6148914691236517205)=jG m:=rfl
 have e2:(jG m / 2 ^ 2 &&& 3689348814741910323)+(jG m &&& 3689348814741910323)=nT (jG m):=rfl
 have e3:(nT (jG m) / 2 ^ 4+nT (jG m)) &&& 1085102592571150095=rD (nT (jG m)):=rfl
 refine af.body (fn:=Tryd.f87) rfl rfl rfl rfl ?_
 refine RM.cm (mu:=fun _=>false) ?_
 repeat' (first |refine u1 ?_ |refine u2 ?_ |fail)
 refine RM.cm (mu:=fun _=>false) ?_
 repeat' (first |((with_reducible show aN _ _ _ _ _ _ _ _ _);refine RM.xW (j:=1) rfl rfl (by omega) ?_) |((with_reducible show aN _ _ _ _ _ _ _ _ _);refine RM.Bu (n:=6148914691236517205) rfl rfl (by omega) (by decide) ?_) |((with_reducible show aN _ _ _ _ _ _ _ _ _);refine RM.D8 rfl rfl (by omega) ?_) |refine u1 ?_ |refine u2 ?_ |fail)
 rw [e1]
 refine RM.cm (mu:=fun _=>false) ?_
 repeat' (first |((with_reducible show aN _ _ _ _ _ _ _ _ _);refine RM.xW (j:=2) rfl rfl (by omega) ?_) |((with_reducible show aN _ _ _ _ _ _ _ _ _);refine RM.Bu (n:=3689348814741910323) rfl rfl (by omega) (by decide) ?_) |((with_reducible show aN _ _ _ _ _ _ _ _ _);refine RM.D8 rfl rfl (by omega) ?_) |refine u1 ?_ |refine u2 ?_ |fail)
 rw [e2]
 refine RM.cm (mu:=fun _=>false) ?_
 repeat' (first |((with_reducible show aN _ _ _ _ _ _ _ _ _);refine RM.xW (j:=4) rfl rfl (by omega) ?_) |((with_reducible show aN _ _ _ _ _ _ _ _ _);refine RM.D8 rfl rfl (by omega) ?_) |((with_reducible show aN _ _ _ _ _ _ _ _ _);refine RM.Bu (n:=1085102592571150095) rfl rfl (by omega) (by decide) ?_) |refine u1 ?_ |refine u2 ?_ |fail)
 rw [e3]
 have e4:k9 m=(rD (nT (jG m))+rD (nT (jG m)) / 2 ^ 8+(rD (nT (jG m))+rD (nT (jG m)) / 2 ^ 8) / 2 ^ 16+(rD (nT (jG m))+rD (nT (jG m)) / 2 ^ 8+(rD (nT (jG m))+rD (nT (jG m)) / 2 ^ 8) / 2 ^ 16) / 2 ^ 32) &&& 127:=rfl
 rw [e4]
 generalize rD (nT (jG m))=c at *
 refine aa (mu:=fun _=>false) ?_
 repeat' (first |((with_reducible show aN _ _ _ _ _ _ _ _ _);refine RM.xW (j:=8) rfl rfl (by omega) ?_) |((with_reducible show aN _ _ _ _ _ _ _ _ _);refine RM.xW (j:=16) rfl rfl (by omega) ?_) |((with_reducible show aN _ _ _ _ _ _ _ _ _);refine RM.xW (j:=32) rfl rfl (by omega) ?_) |((with_reducible show aN _ _ _ _ _ _ _ _ _);refine RM.D8 rfl rfl (by omega) ?_) |((with_reducible show RM.wpOp _ _ (.convert _ _ _) _ _ _);refine O7 rfl (by omega) ?_) |((with_reducible show aN _ _ _ _ _ _ _ _ _);refine RM.O6 (n:=127) rfl rfl (by omega) (by decide) ?_) |refine u1 ?_ |refine u2 ?_ |fail)
 exact ⟨[_],⟨Fz.deep rfl,trivial⟩,rfl⟩
end Go.Proofs.YtpeogffeoehboaaDoor
open Go Go.RM
namespace Go.Proofs.YtpeogffeoehboaaDoor
set_option maxRecDepth 100000
set_option maxHeartbeats 4000000
theorem BH (one:Bool) {m:Nat} (hm:m < 256):Pu one 79 [fA m] (aA (k9 m:Nat)):=by
 have o1:=Nv one hm
 refine af.body (fn:=Tryd.f79) rfl rfl rfl rfl ?_
 refine aa (mu:=fun _=>false) ?_
 repeat' (first |refine u1 ?_ |((with_reducible show aj _ _ _ _ _ _ _ _);refine af.call o1 rfl rfl ?_) |refine u2 ?_ |fail)
 exact ⟨[_],⟨Fz.deep rfl,trivial⟩,rfl⟩
theorem Nw (one:Bool) {m:Nat} (hm:m < 256):Pu one 81 [fA m] (aA (Lib.ctz 64 m)):=by
 have o1:=Nr one hm
 refine af.body (fn:=Tryd.f81) rfl rfl rfl rfl ?_
 refine aa (mu:=fun _=>false) ?_
 repeat' (first |refine u1 ?_ |((with_reducible show aj _ _ _ _ _ _ _ _);refine af.call o1 rfl rfl ?_) |refine u2 ?_ |fail)
 exact ⟨[_],⟨Fz.deep rfl,trivial⟩,rfl⟩
def bx (f:Nat):List Int:=((List.range 8).filter fun i=>f.testBit i).map fun i:Nat=>((i:Nat):Int)
theorem IY:((List.range 256).all fun f=>f == 0 || decide (bx f=(Lib.ctz 64 f:Int) :: bx (f &&& (f - 1))))=true:=by kernel_rfl
theorem ET {f:Nat} (h:f < 256) (h0:f ≠ 0):bx f=(Lib.ctz 64 f:Int) :: bx (f &&& (f - 1)):=by
 have:=List.all_eq_true.1 IY f (List.mem_range.2 h)
 rw [Bool.or_eq_true] at this
 rcases this with h1|h1
 ·exact absurd (by simpa using h1) h0
 ·exact of_decide_eq_true h1
theorem rE (f:Nat):(bx f).length≤8:=by
 unfold bx
 rw [List.length_map]
 exact Nat.le_trans (List.length_filter_le _ _) (by simp)
theorem gX (l:List Int) (v:Nat):([.cells (fT l) 1 v]:List AB).all (AB.lg 1)=true:=by
 have h:AB.lg 1 (.cells (fT l) 1 v)=true:=vr 1 (fun _=>rfl) _
 simp only [List.all_cons,List.all_nil,h,Bool.and_true]
theorem C1 (one:Bool) {f:Nat} (hf:f < 256):Pu one 61 [fA f] (.sl (ints (bx f)) false):=by
 have h8:=rE f
 refine af.body (fn:=Tryd.f61) rfl rfl rfl rfl ?_
 refine aa (mu:=fun t=>Nat.beq t 13) ?_
 repeat' (first |refine u1 ?_ |refine u2 ?_ |fail)
 refine aB.aL (au.trans (au.u7 1) (au.OT (l:=[(0,fA (f,([]:List Int),(0:Nat),(0:Nat)).1),(2,.dc 0 (f,([]:List Int),(0:Nat),(0:Nat)).2.2.1 0 (f,([]:List Int),(0:Nat),(0:Nat)).2.1.length (f,([]:List Int),(0:Nat),(0:Nat)).2.2.2)]) (hp:=[.cells (fT (f,([]:List Int),(0:Nat),(0:Nat)).2.1) 1 (f,([]:List Int),(0:Nat),(0:Nat)).2.2.1]) 1 rfl ⟨cH.refl _,cH.u6,trivial⟩ (Nat.zero_le _) rfl (gX _ _))) ?_
 refine aB.loop (fun x:Nat × List Int × Nat × Nat=>x.1 < 256∧x.2.1++bx x.1=bx f∧(x.2.2.2=x.2.1.length∨x.2.2.2=x.2.1.length+1)) (fun x=>⟨aU [(0,fA x.1),(2,.dc 0 x.2.2.1 0 x.2.1.length x.2.2.2)],[.cells (fT x.2.1) 1 x.2.2.1],bP.none,false,0⟩) (fun x=>(bx x.1).length) ?_ (f,[],0,0) ⟨hf,rfl,.inl rfl⟩
 rintro ⟨g,l,aC,c⟩ ⟨hg,hl,hcap⟩
 dsimp only at hg hl hcap
 show aB _ _ _ _ ⟨aU [(0,fA (g,l,aC,c).1),(2,.dc 0 (g,l,aC,c).2.2.1 0 (g,l,aC,c).2.1.length (g,l,aC,c).2.2.2)],[.cells (fT (g,l,aC,c).2.1) 1 (g,l,aC,c).2.2.1],bP.none,false,0⟩ _
 dsimp only
 refine aa (mu:=fun t=>Nat.beq t 13) ?_
 by_cases h0:g=0
 ·subst h0
  have d1:(!decide (((0:Nat):Int)=0))=false:=by decide
  have he:l=bx f:=by rw [←hl,show bx 0=[] from rfl,List.append_nil]
  rw [←he]
  repeat' (first |((with_reducible show aN _ _ _ _ _ _ _ _ _);refine RM.LC rfl rfl ?_) |refine u1 ?_ |refine u2 ?_ |fail)
  exact ⟨[_],⟨Fz.row (es:=1) rfl (by rw [List.length_map];omega) (by rw [List.length_map]) (fun el hel=>by obtain ⟨x,_,rfl⟩:=List.mem_map.1 hel;rfl) (by rw [je,List.drop_zero,List.take_of_length_le (by rw [List.length_map];omega)]) (by rw [je];exact rA _) (fun h=>Bool.noConfusion h),trivial⟩,rfl⟩
 ·have d1:(!decide ((g:Int)=0))=true:=by rw [decide_eq_false (by omega)];rfl
  have hs:=ET hg h0
  have ot:=Nw one hg
  have hle:g &&& (g - 1)≤g:=Nat.and_le_left
  have hgl:(fT l).length=l.length:=by rw [List.length_map]
  have hl8:l.length≤8:=by
   have:=congrArg List.length hl
   rw [List.length_append] at this
   omega
  generalize (Lib.ctz 64 g:Int)=z at *
  repeat' (first |((with_reducible show aN _ _ _ _ _ _ _ _ _);refine RM.LC rfl rfl ?_) |((with_reducible show aN _ _ _ _ _ _ _ _ _);refine RM.O0 rfl rfl (by omega) (by omega) ?_) |((with_reducible show aN _ _ _ _ _ _ _ _ _);refine RM.Bu rfl rfl (by omega) (by omega) ?_) |((with_reducible show RM.wpOp _ _ (.call _) _ _ _);refine RM.u9 (cs:=fT l) (n:=l.length) (els:=[eI z]) rfl rfl rfl rfl rfl (fun el hel=>by rw [List.mem_singleton.1 hel];rfl) rfl rfl (by rw [hgl];exact (Nat.mul_one _).symm) hcap (by simp only [List.length_singleton];omega) (fun v' c' hc'=>?_)) |refine u1 ?_ |((with_reducible show aj _ _ _ _ _ _ _ _);refine af.call ot rfl rfl ?_) |refine u2 ?_ |fail)
  refine ⟨(g &&& (g - 1),l++[z],v',c'),⟨by dsimp only;omega,?_,?_⟩,?_,?_⟩
  ·dsimp only
   rw [←hl,hs,List.append_assoc]
   rfl
  ·dsimp only
   rw [List.length_append]
   exact hc'
  ·dsimp only
   rw [hs]
   exact Nat.lt_succ_self _
  ·exact au.to 1 (by dsimp only;unfold fT;rw [List.map_append];rfl) ⟨rfl,(by rw [List.length_append];rfl),trivial⟩ (Nat.zero_le _) rfl (gX _ _)
def Kg (x y:Int):Int:=if x < y then -1 else if y < x then 1 else 0
def vz:List Int→List Int→Int
 | [],[]=>0
 | [],_ :: _=>-1
 | _ :: _,[]=>1
 | x :: a,y :: b=>if Kg x y ≠ 0 then Kg x y else vz a b
theorem EU (x y:Int) (a b:List Int):vz (x :: a) (y :: b)=if Kg x y ≠ 0 then Kg x y else vz a b:=rfl
theorem LF (one:Bool) (x:Int):Pu one 93 [aA x] (BB false):=by
 have d1:(!decide (x=x))=false:=by rw [decide_eq_true rfl];rfl
 refine af.body (fn:=Tryd.f93) rfl rfl rfl rfl ?_
 refine aa (mu:=fun _=>false) ?_
 repeat' (first |refine u1 ?_ |refine u2 ?_ |fail)
 exact ⟨[_],⟨Fz.deep rfl,trivial⟩,JR d1⟩
theorem O8 (one:Bool) (x y:Int):Pu one 88 [aA x,aA y] (aA (Kg x y)):=by
 have o1:=LF one x
 have o2:=LF one y
 unfold Kg
 by_cases h1:x < y
 ·have d1:=decide_eq_true h1
  rw [if_pos h1]
  refine af.body (fn:=Tryd.f88) rfl rfl rfl rfl ?_
  refine aa (mu:=fun _=>false) ?_
  repeat' (first |refine u1 ?_ |((with_reducible show aj _ _ _ _ _ _ _ _);refine af.call o1 rfl rfl ?_) |((with_reducible show aj _ _ _ _ _ _ _ _);refine af.call o2 rfl rfl ?_) |refine u2 ?_ |fail)
  exact ⟨[_],⟨Fz.deep rfl,trivial⟩,rfl⟩
 ·have d1:=decide_eq_false h1
  rw [if_neg h1]
  by_cases h2:y < x
  ·have d2:=decide_eq_true h2
   rw [if_pos h2]
   refine af.body (fn:=Tryd.f88) rfl rfl rfl rfl ?_
   refine aa (mu:=fun _=>false) ?_
   repeat' (first |refine u1 ?_ |((with_reducible show aj _ _ _ _ _ _ _ _);refine af.call o1 rfl rfl ?_) |((with_reducible show aj _ _ _ _ _ _ _ _);refine af.call o2 rfl rfl ?_) |refine u2 ?_ |fail)
   exact ⟨[_],⟨Fz.deep rfl,trivial⟩,rfl⟩
  ·have d2:=decide_eq_false h2
   rw [if_neg h2]
   refine af.body (fn:=Tryd.f88) rfl rfl rfl rfl ?_
   refine aa (mu:=fun _=>false) ?_
   repeat' (first |refine u1 ?_ |((with_reducible show aj _ _ _ _ _ _ _ _);refine af.call o1 rfl rfl ?_) |((with_reducible show aj _ _ _ _ _ _ _ _);refine af.call o2 rfl rfl ?_) |refine u2 ?_ |fail)
   exact ⟨[_],⟨Fz.deep rfl,trivial⟩,rfl⟩
theorem O9 (one:Bool) (a b:List Int) (fa fb:Bool) (ha:a.length≤maxLen) (hb:b.length≤maxLen):Pu one 80 [.sl (ints a) fa,.sl (ints b) fb] (aA (vz a b)):=by
 have ma:a.length≤9223372036854775807:=Nat.le_trans ha (by simp [maxLen])
 have mb:b.length≤9223372036854775807:=Nat.le_trans hb (by simp [maxLen])
 have ea:((ints a).length:Int)=a.length:=by simp
 have eb:((ints b).length:Int)=b.length:=by simp
 obtain ⟨n,hn⟩:∃ n:Int,n=a.length:=⟨_,rfl⟩
 refine af.body (fn:=Tryd.f80) rfl rfl rfl rfl ?_
 refine aa (mu:=fun _=>false) ?_
 repeat' (first |refine u1 ?_ |refine u2 ?_ |fail)
 refine aB.aL (au.to (l:=[(0,.sl (ints a) fa),(1,.sl (ints b) fb),(9,.sl (ints a) fa),(10,aA n),(11,aA (0:Nat))]) (hp:=[]) 0 rfl ⟨rfl,rfl,rfl,bu (by rw [hn];exact ea),rfl,trivial⟩ (Nat.zero_le _) rfl rfl) ?_
 refine aB.loop (fun k:Nat=>k≤a.length∧vz a b=vz (a.drop k) (b.drop k)) (fun k=>⟨aU [(0,.sl (ints a) fa),(1,.sl (ints b) fb),(9,.sl (ints a) fa),(10,aA n),(11,aA (k:Nat))],[],bP.none,false,0⟩) (fun k=>a.length - k) ?_ 0 ⟨Nat.zero_le _,rfl⟩
 rintro k ⟨hk,hrel⟩
 refine aa (mu:=fun _=>false) ?_
 by_cases hlt:k < a.length
 ·have d1:decide ((k:Int) < n)=true:=decide_eq_true (by omega)
  have hat:(ints a)[((k:Nat):Int).toNat]?=some (eI a[k]):=bC hlt
  by_cases hbt:k < b.length
  ·have d2:decide (((ints b).length:Int)≤(k:Int))=false:=decide_eq_false (by omega)
   have hat2:(ints b)[((k:Nat):Int).toNat]?=some (eI b[k]):=bC hbt
   rw [List.drop_eq_getElem_cons hlt,List.drop_eq_getElem_cons hbt] at hrel
   have os:=O8 one a[k] b[k]
   rw [EU] at hrel
   generalize a[k]=x at *
   generalize b[k]=y at *
   by_cases hs:Kg x y=0
   ·rw [if_neg (by omega)] at hrel
    rw [hs] at os
    have z0:(!decide ((0:Int)=0))=false:=by decide
    repeat' (first |refine u1 ?_ |((with_reducible show RM.wpOp _ _ (.indexAddr _ _ _) _ _ _);refine ⟨eI x,⟨by omega,hat⟩,rfl,?_⟩) |((with_reducible show RM.wpOp _ _ (.indexAddr _ _ _) _ _ _);refine ⟨eI y,⟨by omega,hat2⟩,rfl,?_⟩) |((with_reducible show aj _ _ _ _ _ _ _ _);refine af.call os rfl rfl ?_) |refine u2 ?_ |fail)
    exact ⟨k+1,⟨hlt,hrel⟩,(by dsimp only;omega),au.to 0 rfl ⟨rfl,rfl,rfl,rfl,bu (by simp),trivial⟩ (Nat.zero_le _) rfl rfl⟩
   ·rw [if_pos hs] at hrel
    rw [hrel]
    have z0:(!decide (Kg x y=0))=true:=by rw [decide_eq_false hs];rfl
    generalize Kg x y=w at *
    repeat' (first |refine u1 ?_ |((with_reducible show RM.wpOp _ _ (.indexAddr _ _ _) _ _ _);refine ⟨eI x,⟨by omega,hat⟩,rfl,?_⟩) |((with_reducible show RM.wpOp _ _ (.indexAddr _ _ _) _ _ _);refine ⟨eI y,⟨by omega,hat2⟩,rfl,?_⟩) |((with_reducible show aj _ _ _ _ _ _ _ _);refine af.call os rfl rfl ?_) |refine u2 ?_ |fail)
    exact ⟨[_],⟨Fz.deep rfl,trivial⟩,rfl⟩
  ·have d2:decide (((ints b).length:Int)≤(k:Int))=true:=decide_eq_true (by omega)
   rw [List.drop_eq_getElem_cons hlt,List.drop_eq_nil_of_le (by omega:b.length≤k)] at hrel
   rw [hrel]
   generalize a[k]=x at *
   repeat' (first |refine u1 ?_ |((with_reducible show RM.wpOp _ _ (.indexAddr _ _ _) _ _ _);refine ⟨eI x,⟨by omega,hat⟩,rfl,?_⟩) |refine u2 ?_ |fail)
   exact ⟨[_],⟨Fz.deep rfl,trivial⟩,rfl⟩
 ·have d1:decide ((k:Int) < n)=false:=decide_eq_false (by omega)
  rw [List.drop_eq_nil_of_le (by omega:a.length≤k)] at hrel
  by_cases hab:a.length < b.length
  ·have d3:decide (((ints a).length:Int) < ((ints b).length:Int))=true:=decide_eq_true (by omega)
   rw [List.drop_eq_getElem_cons (by omega:k < b.length)] at hrel
   rw [hrel]
   repeat' (first |refine u1 ?_ |refine u2 ?_ |fail)
   exact ⟨[_],⟨Fz.deep rfl,trivial⟩,rfl⟩
  ·have d3:decide (((ints a).length:Int) < ((ints b).length:Int))=false:=decide_eq_false (by omega)
   rw [List.drop_eq_nil_of_le (by omega:b.length≤k)] at hrel
   rw [hrel]
   repeat' (first |refine u1 ?_ |refine u2 ?_ |fail)
   exact ⟨[_],⟨Fz.deep rfl,trivial⟩,rfl⟩
structure fK where
 f:Nat
 day:Int
 need:Int
abbrev vR (b:fK):List AV:=[fA b.f,aA b.day,aA b.need]
structure fK.Ok (b:fK):Prop where
 f:b.f < 256
 day:0≤b.day∧b.day≤60
 need:0≤b.need∧b.need≤3
theorem Kh (one:Bool) {a b:fK} (ha:a.Ok) (hb:b.Ok):Pu one 57 [.ag (vR a),.ag (vR b)] (aA (a.day - b.day)):=by
 have h1:=ha.day
 have h2:=hb.day
 refine af.body (fn:=Tryd.f57) rfl rfl rfl rfl ?_
 refine aa (mu:=fun _=>false) ?_
 repeat' (first |refine u1 ?_ |refine u2 ?_ |fail)
 exact ⟨[_],⟨Fz.deep rfl,trivial⟩,rfl⟩
theorem IZ (one:Bool) {a b:fK} (ha:a.Ok) (hb:b.Ok):Pu one 58 [.ag (vR a),.ag (vR b)] (aA (a.need - b.need)):=by
 have h1:=ha.need
 have h2:=hb.need
 refine af.body (fn:=Tryd.f58) rfl rfl rfl rfl ?_
 refine aa (mu:=fun _=>false) ?_
 repeat' (first |refine u1 ?_ |refine u2 ?_ |fail)
 exact ⟨[_],⟨Fz.deep rfl,trivial⟩,rfl⟩
theorem I2 (one:Bool) {a b:fK} (ha:a.Ok) (hb:b.Ok):Pu one 59 [.ag (vR a),.ag (vR b)] (aA ((k9 a.f:Nat) - (k9 b.f:Nat))):=by
 have h1:=IX a.f
 have h2:=IX b.f
 have o1:=BH true ha.f
 have o2:=BH true hb.f
 generalize k9 a.f=x at *
 generalize k9 b.f=y at *
 refine af.body (fn:=Tryd.f59) rfl rfl rfl rfl ?_
 refine aa (mu:=fun _=>false) ?_
 repeat' (first |refine u1 ?_ |(refine ⟨_,o1,?_⟩) |(refine ⟨_,o2,?_⟩) |refine u2 ?_ |fail)
 exact ⟨[_],⟨Fz.deep rfl,trivial⟩,rfl⟩
theorem I3 (one:Bool) {a b:fK} (ha:a.Ok) (hb:b.Ok):Pu one 60 [.ag (vR a),.ag (vR b)] (aA (vz (bx a.f) (bx b.f))):=by
 have h1:=rE a.f
 have h2:=rE b.f
 have o1:=C1 true ha.f
 have o2:=C1 true hb.f
 have o3:=O9 true (bx a.f) (bx b.f) false false (by simp [maxLen];omega) (by simp [maxLen];omega)
 refine af.body (fn:=Tryd.f60) rfl rfl rfl rfl ?_
 refine aa (mu:=fun _=>false) ?_
 repeat' (first |refine u1 ?_ |(refine ⟨_,o1,?_⟩) |(refine ⟨_,o2,?_⟩) |(refine ⟨_,o3,?_⟩) |refine u2 ?_ |fail)
 exact ⟨[_],⟨Fz.deep rfl,trivial⟩,rfl⟩
end Go.Proofs.YtpeogffeoehboaaDoor
open Go Go.RM
namespace Go.Proofs.YtpeogffeoehboaaDoor
set_option maxRecDepth 100000
abbrev U8 (n:Nat):AV:=.fl (.int .u8 ((n:Nat):Int))
theorem vh {P:Program} {t:TypeId} {x y:Operand} {m:Nat}:dj P .rem t x y (.int .u8 (m:Int)) (.int .u8 2)=some (.int .u8 ((m % 2:Nat):Int),.none):=by
 have h:dj P .rem t x y (.int .u8 (m:Int)) (.int .u8 2)=some (.int .u8 ((m:Int).tmod 2),.none):=by
  show eP P .rem t x y (.int .u8 (m:Int)) (.int .u8 2)=_
  unfold eP
  simp only [flat,aM,Bool.and_self,cond_true]
  have:(do eqGuard BinOp.rem t x y (Value.int IntKind.u8 (m:Int)) (Value.int IntKind.u8 2);binOp BinOp.rem t (Value.int IntKind.u8 (m:Int)) (Value.int IntKind.u8 2):Sem Value)=pure (.int .u8 ((m:Int).tmod 2)):=by
   show Op.intDiv .rem .u8 m 2=_
   unfold Op.intDiv
   rw [if_neg (by decide)]
  rw [this]
  rfl
 rw [h,IntWalk.rem_in _ _ (by omega)]
 rfl
theorem vg {P:Program} {t:TypeId} {x y:Operand} {m j:Nat} (hj:j < 8):dj P .shr t x y (.int .u8 (m:Int)) (.int .i64 (j:Int))=some (.int .u8 ((m / 2 ^ j:Nat):Int),.none):=by
 have h:dj P .shr t x y (.int .u8 (m:Int)) (.int .i64 (j:Int))=some (.int .u8 ((m:Int).fdiv (2 ^ j)),.none):=by
  match j,hj with
  | 0,_|1,_|2,_|3,_|4,_|5,_|6,_|7,_=>rfl
 rw [h,Int.fdiv_eq_ediv_of_nonneg _ (Int.pow_nonneg (by decide)),Int.natCast_ediv,Int.natCast_pow]
 rfl
section
variable {x y : Operand} {t : TypeId} {a b : AV} {hp : List AB} {K : AV → List AB → Prop}
theorem Bl {m:Nat} (ha:a=U8 m) (hb:b=U8 2) (h:K (U8 (m % 2)) hp):aN TT .rem t x y a b hp K:=by
 subst ha hb
 exact ⟨_,_,rfl,rfl,.int .u8 ((m % 2:Nat):Int),vh,rfl,h⟩
theorem Bk {m j:Nat} (ha:a=U8 m) (hb:b=aA (j:Nat)) (hj:j < 8) (h:K (U8 (m / 2 ^ j)) hp):aN TT .shr t x y a b hp K:=by
 subst ha hb
 exact ⟨_,_,rfl,rfl,.int .u8 ((m / 2 ^ j:Nat):Int),vg hj,rfl,h⟩
theorem Ki {m n:Int} (ha:a=.fl (.int .u8 m)) (hb:b=.fl (.int .u8 n)) (h:K (.fl (.bool (decide (m=n)))) hp):aN TT .eql t x y a b hp K:=by
 subst ha hb
 exact ⟨_,_,rfl,rfl,.bool (decide (m=n)),rfl,rfl,h⟩
end
def mE (l:List Order):List AV:=(l.map ai).flatten
theorem iZ:∀ l:List Order,(mE l).length=l.length * 2
 | []=>rfl
 | o :: l=>by
  have:=iZ l
  show (ai o++mE l).length=_
  rw [List.length_append,this]
  show 2+l.length * 2=(l.length+1) * 2
  omega
theorem jH (l:List Order) (o:Order):mE l++[ai o].flatten=mE (l++[o]):=by
 unfold mE
 rw [List.map_append,List.flatten_append]
 rfl
theorem vA:∀ l:List Order,cK (mE l)=true
 | []=>rfl
 | _ :: l=>vA l
theorem D9 (j:Nat):∀ l:List Order,uY j (mE l)=true
 | []=>rfl
 | _ :: l=>D9 j l
theorem zH (n:Nat):∀ l:List Order,mY n (mE l)=true
 | []=>rfl
 | _ :: l=>zH n l
theorem jI (l:List Order) (v:Nat):([.cells (mE l) 2 v]:List AB).all (AB.lg 1)=true:=by
 show (mY 1 (mE l) && true)=true
 rw [zH]
 rfl
theorem qp (l:List Order) (v:Nat) (C:List Int) (w:Nat):([.cells (mE l) 2 v,.cells (fT C) 1 w]:List AB).all (AB.lg 2)=true:=by
 show (mY 2 (mE l) && (mY 2 (fT C) && true))=true
 rw [zH,vr 2 (fun _=>rfl) C]
 rfl
end Go.Proofs.YtpeogffeoehboaaDoor
open Go Go.RM
namespace Go.Proofs.YtpeogffeoehboaaDoor
set_option maxRecDepth 100000
theorem Pt {l:List AV} (h:TV (.int .u8) l):∃ n:Nat,n≤255∧l=[U8 n]:=by
 obtain ⟨n,hn,rfl⟩:=Qk h
 have h1:IntKind.u8.min=0:=rfl
 have h2:IntKind.u8.max=255:=rfl
 simp [Lit.wf] at hn
 obtain ⟨m,rfl⟩:∃ m:Nat,n=(m:Int):=⟨n.toNat,by omega⟩
 exact ⟨m,by omega,rfl⟩
theorem Ea {l:List AV} (h:TV (.arr 2 (.int .u8)) l):∃ a b:Nat,a≤255∧b≤255∧l=[U8 a,U8 b]:=by
 obtain ⟨els,hl,he,rfl⟩:=Qm h
 match els,hl with
 | [x,y],_ =>
  obtain ⟨a,ha,rfl⟩:=Pt (he x (by simp))
  obtain ⟨b,hb,rfl⟩:=Pt (he y (by simp))
  exact ⟨a,b,ha,hb,rfl⟩
end Go.Proofs.YtpeogffeoehboaaDoor
