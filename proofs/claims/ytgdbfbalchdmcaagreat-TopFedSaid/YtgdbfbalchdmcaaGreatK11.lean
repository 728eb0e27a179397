/-
  Contracts of the program's functions and of the document's. Lemmas alone; their conditions stand in them.
-/
import Derived.Test.YtgdbfbalchdmcaaGreatA2
import Derived.Test.YtgdbfbalchdmcaaGreatA3
import Derived.Test.YtgdbfbalchdmcaaGreatT1
import Derived.Test.YtgdbfbalchdmcaaGreatX1
import Derived.Test.YtgdbfbalchdmcaaGreatK1
import Derived.Test.YtgdbfbalchdmcaaGreatK7
import Derived.Test.YtgdbfbalchdmcaaGreatK10
import Derived.Test.YtgdbfbalchdmcaaGreatRows
import Derived.ProofKit
open Go Go.RM
namespace Go.Proofs.YtgdbfbalchdmcaaGreat
set_option maxRecDepth 100000
set_option maxHeartbeats 4000000
theorem Lm (one:Bool) (ls:List Acc) (f:Bool) (hl:ls.length≤maxLen):Pu one 9 [.sl (ls.map jH) f] (ak (jD ls:Int)):=by
 have el:((ls.map jH).length:Int)=ls.length:=by simp
 have ml:ls.length≤9223372036854775807:=Nat.le_trans hl (by simp [maxLen])
 refine af.body (fn:=Tryz.f9) rfl rfl rfl rfl ?_
 refine aa (mu:=fun _=>false) ?_
 repeat' (first |refine u1 ?_ |refine u2 ?_ |fail)
 refine aG.aU (aj.to (l:=[(0,.sl (ls.map jH) f),(3,ak (jD (ls.take 0):Int)),(4,ak (0:Nat))]) (hp:=[]) 0 rfl ⟨rfl,rfl,rfl,trivial⟩ (Nat.zero_le _) rfl rfl) ?_
 refine aG.loop (fun k:Nat=>k≤ls.length) (fun k=>⟨bT [(0,.sl (ls.map jH) f),(3,ak (jD (ls.take k):Int)),(4,ak (k:Nat))],[],bW.none,false,0⟩) (fun k=>ls.length - k) ?_ 0 (Nat.zero_le _)
 intro k hk
 have hbk:jD (ls.take k)≤k:=by
  have:=List.countP_le_length (p:=fun a:Acc=>decide (a.place=0)) (l:=ls.take k)
  unfold jD
  rw [List.length_take] at this
  omega
 by_cases hlt:k < ls.length
 ·have d1:decide ((k:Int) < ((ls.map jH).length:Int))=true:=decide_eq_true (by omega)
  have hat:(ls.map jH)[((k:Nat):Int).toNat]?=some (jH ls[k]):=bP hlt
  have hs:=yG hlt
  generalize ls[k]=a at *
  obtain ⟨p,o,x0,x1,x2⟩:=a
  dsimp only at hs
  cases ep:decide (p=0) with
  | true =>
   rw [if_pos (of_decide_eq_true ep)] at hs
   refine aa (mu:=fun _=>false) ?_
   repeat' (first |refine u1 ?_ |(refine ⟨[ak p,ak o,ak x0,ak x1,ak x2],⟨by omega,hat⟩,rfl,?_⟩) |refine u2 ?_ |fail)
   exact ⟨k+1,hlt,(by dsimp only;omega),aj.to 0 rfl ⟨rfl,aJ (by rw [hs];simp),aJ (by simp),trivial⟩ (Nat.zero_le _) rfl rfl⟩
  | false =>
   rw [if_neg (of_decide_eq_false ep)] at hs
   refine aa (mu:=fun _=>false) ?_
   repeat' (first |refine u1 ?_ |(refine ⟨[ak p,ak o,ak x0,ak x1,ak x2],⟨by omega,hat⟩,rfl,?_⟩) |refine u2 ?_ |fail)
   exact ⟨k+1,hlt,(by dsimp only;omega),aj.to 0 rfl ⟨rfl,by dsimp only;rw [hs];rfl,aJ (by simp),trivial⟩ (Nat.zero_le _) rfl rfl⟩
 ·have d1:decide ((k:Int) < ((ls.map jH).length:Int))=false:=decide_eq_false (by omega)
  have e:ls.take k=ls:=List.take_of_length_le (by omega)
  rw [e]
  refine aa (mu:=fun _=>false) ?_
  repeat' (first |refine u1 ?_ |refine u2 ?_ |fail)
  exact ⟨[_],⟨Fz.deep rfl,trivial⟩,rfl⟩
end Go.Proofs.YtgdbfbalchdmcaaGreat
open Go Go.RM
namespace Go.Proofs.YtgdbfbalchdmcaaGreat
set_option maxRecDepth 100000
set_option maxHeartbeats 4000000
def Gj (c:aH) (l:List Ev) (D:Int):Int:=(jD (Fc c l D):Nat)
abbrev NK (c:aH) (l:List Ev) (D:Int):List (List AV):=(Fc c l D).map jH
theorem NL (one:Bool):Pu one 7 [] (BB true):=af.closed (fun _=>rfl) rfl
theorem NM (c:aH) (h:c.Ok) (l:List Ev) (hl:l.length≤maxLen) (hd:∀ x ∈ l,x.day≤later):∃ p e:Int,(∀ one,Pu one 4 [.ag (bh c),.sl (l.map dZ) false] (.tp [ak p,ak e])) ∧
  (e=0→(1≤c.ah.length∧c.ah.length≤5)∧∀ D:Int,0≤D∧D≤40000→(∀ one,Pu one 8 [.ag (bh c),.sl (l.map dZ) false,ak D] (.tp [.sl (NK c l D) false,ak 0]))∧(NK c l D).length=c.ah.length∧(0≤Gj c l D∧Gj c l D≤5)∧∀ one,Pu one 9 [.sl (NK c l D) false] (ak (Gj c l D))):=by
 refine ⟨(Aw c l).1,(Aw c l).2,fun one=>DO one c h l false hl hd,fun he=>?_⟩
 have hv:=MY hd he
 have hg:Good c:=by
  have:=Mb he (D:=0) (by omega)
  exact (Jo hd this).1
 have hm:=hg.ah
 refine ⟨hm,fun D hD=>?_⟩
 have hon:=Mb he hD
 have hlen:(Fc c l D).length=c.ah.length:=by rw [NJ hv hD.1];simp
 have hb:jD (Fc c l D)≤(Fc c l D).length:=List.countP_le_length
 refine ⟨fun one=>?_,by rw [List.length_map];exact hlen,⟨by unfold Gj;omega,by unfold Gj;omega⟩,fun one=>Lm one (Fc c l D) false (by rw [hlen];simp only [maxLen];omega)⟩
 have:=Fe one c h l false hl hd D
 rw [hon,show MQ c l D=Fc c l D from if_pos hon] at this
 exact this
end Go.Proofs.YtgdbfbalchdmcaaGreat
open Go Go.RM
namespace Go.Proofs.YtgdbfbalchdmcaaGreat
open Go.ChangeShapes Go.WideShapes Go.ChangeAt Go.RowKit
set_option maxRecDepth 100000
theorem Ln:ownKnob Tryz.prog.godebug=none:=by kernel_rfl
theorem JF:laidOutB Tryz.prog=true:=by kernel_rfl
end Go.Proofs.YtgdbfbalchdmcaaGreat
open Go Go.RM
namespace Go.Proofs.YtgdbfbalchdmcaaGreat
set_option maxRecDepth 100000
abbrev AE:Sh:=.int .i64
abbrev Lo:Sh:=.int .u16
abbrev JG:Sh:=.cons .str (.cons AE (.cons AE (.cons AE (.cons AE .nil))))
abbrev Mc:Sh:=.cons .str (.cons AE (.cons AE (.cons .bool .nil)))
abbrev JH:Sh:=.cons (.slice JG) (.cons (.slice Mc) (.cons AE .nil))
abbrev MZ:Sh:=.cons AE (.cons AE (.cons AE (.cons AE .nil)))
theorem BZ {l:List AV} (h:TV AE l):∃ n,(Lit.int .i64 n).wf=true∧l=eI n:=by
 cases h with
 | int h=>exact ⟨_,h,rfl⟩
theorem OZ {k:IntKind} {l:List AV} (h:TV (.int k) l):∃ n,(Lit.int k n).wf=true∧l=[.fl (.int k n)]:=by
 cases h with
 | int h=>exact ⟨_,h,rfl⟩
theorem PO {l:List AV} (h:TV .bool l):∃ b,l=[BB b]:=by
 cases h with
 | bool=>exact ⟨_,rfl⟩
theorem O0 {l:List AV} (h:TV .str l):∃ s:ByteArray,s.size≤maxLen∧l=[ST s]:=by
 cases h with
 | str h=>exact ⟨_,h,rfl⟩
theorem qC {a b:Sh} {l:List AV} (h:TV (.cons a b) l):∃ x y,TV a x∧TV b y∧l=x++y:=by
 cases h with
 | cons h k=>exact ⟨_,_,h,k,rfl⟩
theorem Kl {l:List AV} (h:TV .nil l):l=[]:=by cases h;rfl
theorem M0 {s:Sh} {l:List AV} (h:TV (.slice s) l):∃ els,els.length≤maxLen∧(∀ el ∈ els,TV s el)∧l=[.sl els false]:=by
 cases h with
 | slice h k=>exact ⟨_,h,k,rfl⟩
theorem PR {n:Nat} {s:Sh} {l:List AV} (h:TV (.arr n s) l):∃ els:List (List AV),els.length=n∧(∀ el ∈ els,TV s el)∧l=els.flatten:=by
 cases h with
 | arr h k=>exact ⟨_,h,k,rfl⟩
theorem vV {α:Type} {e:α→List AV} {P:α→Prop}:∀ {els:List (List AV)},(∀ el ∈ els,∃ x,P x∧el=e x)→∃ l:List α,(∀ x ∈ l,P x)∧els=l.map e
 | [],_=>⟨[],⟨List.forall_mem_nil _,rfl⟩⟩
 | el :: els,h=>by
  obtain ⟨x,hx,rfl⟩:=h el (by simp)
  obtain ⟨l,hl,rfl⟩:=vV fun el hel=>h el (List.mem_cons_of_mem _ hel)
  exact ⟨x :: l,⟨List.forall_mem_cons.2 ⟨hx,hl⟩,rfl⟩⟩
theorem M1 {n:Int} (h:(Lit.int .i64 n).wf=true):n≤later:=by
 have h1:IntKind.i64.min=-9223372036854775808:=rfl
 have h2:IntKind.i64.max=9223372036854775807:=rfl
 simp [Lit.wf] at h
 show n≤9223372036854775807
 omega
theorem M4 {l:List AV} (h:TV JG l):∃ x:gL,x.name.data.toList.length≤maxLen∧l=cm x:=by
 obtain ⟨_,_,h1,k1,rfl⟩:=qC h
 obtain ⟨_,_,h2,k2,rfl⟩:=qC k1
 obtain ⟨_,_,h3,k3,rfl⟩:=qC k2
 obtain ⟨_,_,h4,k4,rfl⟩:=qC k3
 obtain ⟨_,_,h5,k5,rfl⟩:=qC k4
 obtain rfl:=Kl k5
 obtain ⟨a,ha,rfl⟩:=O0 h1
 obtain ⟨b,_,rfl⟩:=BZ h2
 obtain ⟨c,_,rfl⟩:=BZ h3
 obtain ⟨d,_,rfl⟩:=BZ h4
 obtain ⟨e,_,rfl⟩:=BZ h5
 exact ⟨⟨a,b,c,d,e⟩,by simpa using ha,rfl⟩
theorem N1 {l:List AV} (h:TV Mc l):∃ x:pO,x.name.data.toList.length≤maxLen∧l=cL x:=by
 obtain ⟨_,_,h1,k1,rfl⟩:=qC h
 obtain ⟨_,_,h2,k2,rfl⟩:=qC k1
 obtain ⟨_,_,h3,k3,rfl⟩:=qC k2
 obtain ⟨_,_,h4,k4,rfl⟩:=qC k3
 obtain rfl:=Kl k4
 obtain ⟨a,ha,rfl⟩:=O0 h1
 obtain ⟨b,_,rfl⟩:=BZ h2
 obtain ⟨c,_,rfl⟩:=BZ h3
 obtain ⟨d,rfl⟩:=PO h4
 exact ⟨⟨a,b,c,d⟩,by simpa using ha,rfl⟩
theorem M5 {l:List AV} (h:TV JH l):∃ c:aH,c.Ok∧l=bh c:=by
 obtain ⟨_,_,h1,k1,rfl⟩:=qC h
 obtain ⟨_,_,h2,k2,rfl⟩:=qC k1
 obtain ⟨_,_,h3,k3,rfl⟩:=qC k2
 obtain rfl:=Kl k3
 obtain ⟨a,ha,ha',rfl⟩:=M0 h1
 obtain ⟨a,hn,rfl⟩:=vV (e:=cm) fun el hel=>M4 (ha' el hel)
 obtain ⟨b,hb,hb',rfl⟩:=M0 h2
 obtain ⟨b,hm,rfl⟩:=vV (e:=cL) fun el hel=>N1 (hb' el hel)
 obtain ⟨d,_,rfl⟩:=BZ h3
 exact ⟨⟨a,b,d⟩,⟨by simpa using ha,hn,by simpa using hb,hm⟩,rfl⟩
theorem O1 {l:List AV} (h:TV MZ l):∃ x:Ev,x.day≤later∧l=dZ x:=by
 obtain ⟨_,_,h1,k1,rfl⟩:=qC h
 obtain ⟨_,_,h2,k2,rfl⟩:=qC k1
 obtain ⟨_,_,h3,k3,rfl⟩:=qC k2
 obtain ⟨_,_,h4,k4,rfl⟩:=qC k3
 obtain rfl:=Kl k4
 obtain ⟨a,ha,rfl⟩:=BZ h1
 obtain ⟨b,_,rfl⟩:=BZ h2
 obtain ⟨c,_,rfl⟩:=BZ h3
 obtain ⟨d,_,rfl⟩:=BZ h4
 exact ⟨⟨a,b,c,d⟩,M1 ha,rfl⟩
theorem N2 {l:List AV} (h:TV (.slice MZ) l):∃ p:List Ev,p.length≤maxLen∧(∀ x ∈ p,x.day≤later)∧l=[.sl (p.map dZ) false]:=by
 obtain ⟨a,ha,ha',rfl⟩:=M0 h
 obtain ⟨a,hc,rfl⟩:=vV (e:=dZ) fun el hel=>O1 (ha' el hel)
 exact ⟨a,by simpa using ha,hc,rfl⟩
theorem Lq {l:List AV} (h:TV Lo l):∃ n:Nat,n≤65535∧l=[.fl (.int .u16 ((n:Nat):Int))]:=by
 obtain ⟨n,hn,rfl⟩:=OZ h
 have h1:IntKind.u16.min=0:=rfl
 have h2:IntKind.u16.max=65535:=rfl
 simp [Lit.wf] at hn
 obtain ⟨m,rfl⟩:∃ m:Nat,n=(m:Int):=⟨n.toNat,by omega⟩
 exact ⟨m,by omega,rfl⟩
end Go.Proofs.YtgdbfbalchdmcaaGreat
open Go Go.RM
namespace Go.Proofs.YtgdbfbalchdmcaaGreat
set_option maxRecDepth 100000
end Go.Proofs.YtgdbfbalchdmcaaGreat
open Go Go.RM
namespace Go.Proofs.YtgdbfbalchdmcaaGreat.St
open Go.ChangeShapes Go.WideShapes Go.ChangeAt Go.RowKit
set_option maxRecDepth 100000
set_option maxHeartbeats 4000000
theorem rX (one:Bool) (g:FuncId) (fs cs:List AV) (hF:(AV.fn g fs cs).deep=true) (p:Int→Bool) (l:List Int) (full:Bool) (hl:l.length≤maxLen) (hp:∀ n ∈ l,af TT TB one (.fn g fs cs) [ak n] (BB (p n))) :
  Pu one 84 [.sl (ints l) full,.fn g fs cs] (ak (qw p l)):=by
 unfold maxLen at hl
 refine af.body (fn:=Tryz.f84) rfl rfl rfl rfl ?_
 refine aa (mu:=fun _=>false) ?_
 skip
 refine aG.aU (aj.to (l:=[(0,.sl (ints l) full),(1,.fn g fs cs),(7,ak l.length),(8,ak ((0:Nat):Int))]) 0 rfl ⟨rfl,rfl,aJ (by simp),rfl,trivial⟩ (Nat.le_refl _) (by simp [fq,gB,cK 0 _ hF]) rfl) ?_
 refine aG.loop (fun k:Nat=>k≤l.length∧∀ i (h:i < l.length),i < k→p l[i]=false) (fun k=>⟨bT [(0,.sl (ints l) full),(1,.fn g fs cs),(7,ak l.length),(8,ak (k:Int))],[],bW.none,false,0⟩) (fun k=>l.length - k) ?_ 0 ⟨Nat.zero_le _,fun i _ hi=>absurd hi (by omega)⟩
 intro k ⟨hk,hprev⟩
 refine aa (mu:=fun _=>false) ?_
 refine ⟨fun h=>?_,fun h=>?_⟩
 ·have hlt:k < l.length:=by simpa using h
  refine ⟨[ak l[k]],⟨by omega,by simp [hlt]⟩,rfl,?_⟩
  repeat' (first |refine u1 ?_ |fail)
  refine af.call (hp l[k] (List.getElem_mem _)) hF rfl ?_
  refine ⟨fun h2=>?_,fun h2=>?_⟩
  ·refine ⟨[_],⟨Fz.deep rfl,trivial⟩,?_⟩
   rw [jm hlt hprev h2];rfl
  ·repeat' (first |refine u2 ?_ |fail)
   refine ⟨k+1,⟨hlt,fun i hi hik=>?_⟩,(by dsimp only;omega),aj.to 0 rfl ⟨rfl,rfl,rfl,aJ (by simp),trivial⟩ (Nat.le_refl _) (by simp [fq,gB,cK 0 _ hF]) rfl⟩
   by_cases hik':i=k
   ·subst hik';exact h2
   ·exact hprev i hi (by omega)
 ·skip
  refine ⟨[_],⟨Fz.deep rfl,trivial⟩,?_⟩
  have:k=l.length:=by simp at h;omega
  rw [jn fun i hi=>hprev i hi (by omega)];rfl
def e9 (p:Nat→Bool) (a m:Nat):List Int:=((List.range' a m).filter p).map fun (i:Nat)=>(i:Int)
structure Span where
 lo:Int
 hi:Int
abbrev vW (s:Span):List AV:=[ak s.lo,ak s.hi]
theorem u9 (one:Bool) (g:FuncId) (fs cs:List AV) (hF:(AV.fn g fs cs).deep=true) (p:Int→Bool) (l:List Int) (full:Bool) (hl:l.length≤maxLen) (hp:∀ x ∈ l,af TT TB one (.fn g fs cs) [ak x] (BB (p x))) :
  Pu one 100 [.sl (l.map eI) full,.fn g fs cs] (BB (l.any p)):=by
 refine af.body (fn:=Tryz.f100) rfl rfl rfl rfl ?_
 refine aa (mu:=fun _=>false) ?_
 skip
 refine af.call (rX one g fs cs hF p l full hl hp) rfl (by simp only [bU,AV.deep,Bool.and_true,Bool.true_and];exact hF) ?_
 skip
 refine ⟨[_],⟨Fz.deep rfl,trivial⟩,?_⟩
 rw [←m7];rfl
theorem Ls (one:Bool) (n lo hi:Int):Pu one 134 [ak n,ak lo,ak hi] (BB (gY n lo hi)):=by
 refine af.body (fn:=Tryz.f134) rfl rfl rfl rfl ?_
 refine aa (mu:=fun _=>false) ?_
 repeat' (first |(refine bJ (by assumption) ?_) |(refine cu (by assumption) ?_) |(refine ⟨fun h=>?_,fun h=>?_⟩) |fail)
 all_goals refine ⟨[_],⟨Fz.deep rfl,trivial⟩,F6 ?_⟩
 all_goals simp_all [gY]
 all_goals omega
def fP (lo hi:Int) (s:Span):Int:=if !gY s.lo lo hi || !gY s.hi lo hi then 7 else if s.hi < s.lo then 2 else 0
def nY (lo hi:Int) (l:List Span):Int:=if l.any (fun s=>!gY s.lo lo hi || !gY s.hi lo hi) then 7 else if l.any (fun s=>decide (s.hi < s.lo)) then 2 else 0
theorem JI (one : Bool) (l : List Span) (full : Bool) (lo hi : Int) (hl : l.length ≤ maxLen) : Pu one 93 [.sl (l.map vW) full, ak lo, ak hi] (ak (nY lo hi l)) := by
  unfold maxLen at hl
  refine af.body (fn := Tryz.f93) rfl rfl rfl rfl ?_
  refine aa (mu := fun _ => false) ?_
  repeat' (first |with_reducible (first|refine bl ?_|refine bg ?_) |fail)
  refine aG.aU (aj.to (l := [(0, .sl (l.map vW) full), (1, ak lo), (2, ak hi), (7, ak 0), (8, ak ((0 : Nat) : Int))]) 0 rfl ⟨rfl, rfl, rfl, rfl, rfl, trivial⟩ (Nat.le_refl _) rfl rfl) ?_
  refine aG.loop (fun k : Nat => k ≤ l.length ∧ (l.take k).any (fun s => !gY s.lo lo hi || !gY s.hi lo hi) = false) (fun k => ⟨bT [(0, .sl (l.map vW) full), (1, ak lo), (2, ak hi), (7, ak (if (l.take k).any (fun s => decide (s.hi < s.lo)) then 2 else 0)), (8, ak (k : Int))], [], bW.none, false, 0⟩) (fun k => l.length - k) ?_ 0 ⟨Nat.zero_le _, rfl⟩
  intro k ⟨hk, hprev⟩
  refine aa (mu := fun _ => false) ?_
  repeat' (first |with_reducible (first|refine bl ?_|refine bg ?_) |fail)
  refine ⟨fun h => ?_, fun h => ?_⟩
  · have hlt : k < l.length := by simpa using h
    have htake : l.take (k + 1) = l.take k ++ [l[k]] := by rw [List.take_add_one, List.getElem?_eq_getElem hlt]; rfl
    repeat' (first |((with_reducible show kC _ _ _ _ (.region _ _ true) _ _);refine RM.c5 (by kernel_rfl) rfl rfl ?_) |with_reducible (first|refine bZ ?_|refine bl ?_|refine fN ?_|refine bg ?_|refine bf ?_) |(refine ⟨_, rfl, ?_⟩) |(refine bJ (by assumption) ?_) |(refine bJ rfl ?_) |(refine cu (by assumption) ?_) |(refine ⟨_, _, rfl, by decide, ?_⟩) |(refine And.intro (by omega) ?_) |(refine And.intro (by kernel_rfl) ?_) |(refine ⟨vW l[k], ⟨by omega, bP hlt⟩, rfl, ?_⟩) |(refine af.call (Ls one _ _ _) rfl rfl ?_) |(refine ⟨fun h => ?_, fun h => ?_⟩) |fail)
    all_goals first
      | (refine ⟨[_], ⟨Fz.deep rfl, trivial⟩, aJ ?_⟩
         have : l.any (fun s => !gY s.lo lo hi || !gY s.hi lo hi) = true := by
           rw [List.any_eq_true]
           exact ⟨l[k], List.getElem_mem hlt, by simp_all⟩
         simp only [nY, this]
         rfl)
      | (refine ⟨k + 1, ⟨hlt, by rw [htake, List.any_append, hprev]; simp_all⟩, (by dsimp only; omega), aj.to 0 rfl ⟨rfl, rfl, rfl, aJ ?_, aJ (by simp), trivial⟩ (Nat.le_refl _) rfl rfl⟩
         rw [htake, List.any_append]
         generalize (l.take k).any (fun s => decide (s.hi < s.lo)) = b
         cases b <;> simp_all)
  · skip
    refine ⟨[_], ⟨Fz.deep rfl, trivial⟩, aJ ?_⟩
    have : k = l.length := by simp at h; omega
    subst this
    rw [List.take_length] at hprev ⊢
    simp only [nY, hprev]
    rfl
theorem Fm {lo hi:Int} {s:Span}:nY lo hi [s]=fP lo hi s:=by
 simp [nY,fP]
theorem B0 (one:Bool) (s:Span) (lo hi:Int):Pu one 52 [.ag (vW s),ak lo,ak hi] (ak (fP lo hi s)):=by
 rw [←Fm]
 refine af.body (fn:=Tryz.f52) rfl rfl rfl rfl ?_
 refine aa (mu:=fun _=>false) ?_
 repeat' (first |with_reducible (first|refine bl ?_|refine bg ?_) |refine u2 ?_ |refine u1 ?_ |refine af.call (JI one [s] true lo hi (Nat.le_of_ble_eq_true rfl)) rfl rfl ?_ |fail)
 exact ⟨[_],⟨Fz.deep rfl,trivial⟩,rfl⟩
def ax (s:Span):Nat:=(s.hi - s.lo+1).toNat
theorem Hz {α β:Type} {g:β→α→β} {b:β} {L:List α} {i:Nat} {y:α} (h:L[i]?=some y):(L.take (i+1)).foldl g b=g ((L.take i).foldl g b) y:=by
 rw [List.take_add_one,h,List.foldl_append]
 rfl
theorem PS {n:Int} (h:0≤n∧n≤9223372036854775807):cZ (aD TT.P (convert 3 194 (.int .i64 n)))=some (.int .u64 n,.none):=by
 have:cZ (aD TT.P (convert 3 194 (.int .i64 n)))=some (.int .u64 (IntKind.u64.wrap n),.none):=rfl
 rw [this,IntWalk.u64_in n (by omega)]
theorem PT {n:Int} (h:0≤n∧n≤9223372036854775807):cZ (aD TT.P (convert 194 3 (.int .u64 n)))=some (.int .i64 n,.none):=by
 have:cZ (aD TT.P (convert 194 3 (.int .u64 n)))=some (.int .i64 (IntKind.i64.wrap n),.none):=rfl
 rw [this,IntWalk.i64_in n (by omega)]
def bs (p:Nat→Bool) (i j:Nat):Nat :=
 if i < j then (if p ((i+j) / 2) then bs p i ((i+j) / 2) else bs p ((i+j) / 2+1) j) else i
theorem tZ (p:Nat→Bool) (i j:Nat) (h:i≤j):i≤bs p i j∧bs p i j≤j:=by
 rw [bs]
 split
 ·split
  ·have:=tZ p i ((i+j) / 2) (by omega);omega
  ·have:=tZ p ((i+j) / 2+1) j (by omega);omega
 ·omega
theorem ua (p:Nat→Bool) (i j:Nat) (h:i≤j) (hm:∀ a b,i≤a→a≤b→b < j→p a=true→p b=true):(∀ a,i≤a→a < bs p i j→p a=false)∧(bs p i j < j→p (bs p i j)=true):=by
 rw [bs]
 split
 ·rename_i hlt
  split
  ·rename_i hp
   have hh:=tZ p i ((i+j) / 2) (by omega)
   have:=ua p i ((i+j) / 2) (by omega) fun a b h1 h2 h3=>hm a b h1 h2 (by omega)
   refine ⟨this.1,fun hl=>?_⟩
   by_cases he:bs p i ((i+j) / 2)=(i+j) / 2
   ·rw [he];exact hp
   ·exact this.2 (by omega)
  ·rename_i hp
   have:=ua p ((i+j) / 2+1) j (by omega) fun a b h1 h2 h3=>hm a b (by omega) h2 h3
   refine ⟨fun a h1 h2=>?_,this.2⟩
   by_cases ha:(i+j) / 2+1≤a
   ·exact this.1 a ha h2
   ·cases hpa:p a with
    | false=>rfl
    | true=>exact absurd (hm a ((i+j) / 2) h1 (by omega) (by omega) hpa) hp
 ·exact ⟨fun a h1 h2=>by omega,fun hl=>by omega⟩
theorem JJ (one:Bool) (g:FuncId) (fs cs:List AV) (hF:(AV.fn g fs cs).deep=true) (p:Nat→Bool) (n:Nat) (hn:n≤1000000000) (hp:∀ i,i < n→af TT TB one (.fn g fs cs) [ak i] (BB (p i))):Pu one 108 [ak n,.fn g fs cs] (ak (bs p 0 n)):=by
 refine af.body (fn:=Tryz.f108) rfl rfl rfl rfl ?_
 refine aa (mu:=fun _=>false) ?_
 repeat' (first |refine u1 ?_ |fail)
 refine aG.aU (aj.to (l:=[(1,.fn g fs cs),(5,ak ((0:Nat):Int)),(6,ak n)]) 0 rfl ⟨rfl,rfl,rfl,trivial⟩ (Nat.le_refl _) (by simp [fq,cK 0 _ hF]) rfl) ?_
 refine aG.loop (fun x:Nat × Nat=>x.1≤x.2∧x.2≤n∧bs p x.1 x.2=bs p 0 n) (fun x=>⟨bT [(1,.fn g fs cs),(5,ak (x.1:Int)),(6,ak (x.2:Int))],[],bW.none,false,0⟩) (fun x=>x.2 - x.1) ?_ (0,n) ⟨Nat.zero_le _,Nat.le_refl _,rfl⟩
 rintro ⟨i,j⟩ ⟨h1,h2,h3⟩
 dsimp only at h1 h2 h3
 change aG TT TB one _ ⟨bT [(1,.fn g fs cs),(5,ak (i:Int)),(6,ak (j:Int))],[],bW.none,false,0⟩ _
 refine aa (mu:=fun _=>false) ?_
 repeat' (first |refine u1 ?_ |fail)
 refine RM.e1 rfl ⟨fun hc=>?_,fun hc=>?_⟩
 ·have hlt:i < j:=by simpa using hc
  rw [bs,if_pos hlt] at h3
  have hm:(((i:Int)+j) / 2)=(((i+j) / 2:Nat):Int):=by omega
  repeat' (first |refine ⟨_,PS (by omega),rfl,?_⟩ |refine ⟨_,_,rfl,rfl,_,IW,rfl,?_⟩ |refine ⟨_,PT (by omega),rfl,?_⟩ |refine u1 ?_ |refine u2 ?_ |fail)
  rw [hm]
  repeat' (first |refine u1 ?_ |refine af.call (hp ((i+j) / 2) (by omega)) hF rfl ?_ |fail)
  cases hb:p ((i+j) / 2) with
  | true =>
   rw [if_pos hb] at h3
   repeat' (first |refine u1 ?_ |fail)
   exact ⟨(i,(i+j) / 2),⟨by dsimp only;omega,by dsimp only;omega,h3⟩,(by dsimp only;omega),aj.to 0 rfl ⟨rfl,rfl,rfl,trivial⟩ (Nat.le_refl _) (by simp [fq,cK 0 _ hF]) rfl⟩
  | false =>
   rw [if_neg (by simp [hb])] at h3
   repeat' (first |refine u1 ?_ |fail)
   exact ⟨((i+j) / 2+1,j),⟨by dsimp only;omega,by dsimp only;omega,h3⟩,(by dsimp only;omega),aj.to 0 rfl ⟨rfl,aJ (by simp),rfl,trivial⟩ (Nat.le_refl _) (by simp [fq,cK 0 _ hF]) rfl⟩
 ·rw [bs,if_neg (by simpa using hc)] at h3
  repeat' (first |refine u1 ?_ |fail)
  exact ⟨[_],⟨Fz.deep rfl,trivial⟩,by rw [←h3];rfl⟩
abbrev B1:Sh:=.cons AE (.cons AE .nil)
theorem Fo {l:List AV} (h:TV B1 l):∃ s:Span,l=vW s:=by
 obtain ⟨_,_,h1,k1,rfl⟩:=qC h
 obtain ⟨_,_,h2,k2,rfl⟩:=qC k1
 obtain ⟨a,_,rfl⟩:=BZ h1
 obtain ⟨b,_,rfl⟩:=BZ h2
 obtain rfl:=Kl k2
 exact ⟨⟨a,b⟩,rfl⟩
abbrev Lt (n:Int):AV:=.fl (.int .u16 n)
end Go.Proofs.YtgdbfbalchdmcaaGreat.St
open Go Go.RM
namespace Go.Proofs.YtgdbfbalchdmcaaGreat.St
set_option maxRecDepth 100000
theorem sF (one:Bool) (n lo hi:Int):af TT TB one (.fn 101 [] [.pt [ak lo] 0,.pt [ak hi] 0]) [ak n] (BB (decide (n < lo) || decide (hi < n))):=by
 refine af.body (fn:=Tryz.f101) rfl rfl rfl rfl ?_
 refine aa (mu:=fun _=>false) ?_
 repeat' (first |(refine ⟨_,rfl,?_⟩) |(refine bJ (by assumption) ?_) |(refine cu (by assumption) ?_) |(refine ⟨fun h=>?_,fun h=>?_⟩) |fail)
 all_goals refine ⟨[_],⟨Fz.deep rfl,trivial⟩,?_⟩
 all_goals simp_all [mL]
end Go.Proofs.YtgdbfbalchdmcaaGreat.St
open Go Go.RM
namespace Go.Proofs.YtgdbfbalchdmcaaGreat.St
set_option maxRecDepth 100000
structure Kind where
 name:ByteArray
 first:Span
 aR:Span
 ay:Span
 room:Int
 dK:Int
structure lE where
 day:Int
 kind:Int
 cE:Int
structure Count where
 day:Int
 kind:Int
 cE:Span
structure aN where
 first:Int
 aR:Int
 ay:Int
structure aC where
 ah:List Int
 kinds:List Kind
 ai:List lE
abbrev bD (k:Kind):List AV:=[ST k.name,ak k.first.lo,ak k.first.hi,ak k.aR.lo,ak k.aR.hi,ak k.ay.lo,ak k.ay.hi,ak k.room,ak k.dK]
abbrev cr (c:lE):List AV:=[ak c.day,ak c.kind,ak c.cE]
abbrev aM (c:Count):List AV:=[ak c.day,ak c.kind,ak c.cE.lo,ak c.cE.hi]
abbrev dg (t:aN):List AV:=[ak t.first,ak t.aR,ak t.ay]
abbrev aF (s:aC):List AV:=[.sl (s.ah.map eI) false,.sl (s.kinds.map bD) false,.sl (s.ai.map cr) false]
theorem yO (one:Bool) (g:FuncId) (fs cs:List AV) (hF:(AV.fn g fs cs).deep=true) (p:Kind→Bool) (l:List Kind) (full:Bool) (hl:l.length≤maxLen) (hp:∀ x ∈ l,af TT TB one (.fn g fs cs) [.ag (bD x)] (BB (p x))) :
  Pu one 164 [.sl (l.map bD) full,.fn g fs cs] (ak (qw p l)):=by
 unfold maxLen at hl
 refine af.body (fn:=Tryz.f164) rfl rfl rfl rfl ?_
 refine aa (mu:=fun _=>false) ?_
 skip
 refine aG.aU (aj.to (l:=[(0,.sl (l.map bD) full),(1,.fn g fs cs),(7,ak l.length),(8,ak ((0:Nat):Int))]) 0 rfl ⟨rfl,rfl,aJ (by simp),rfl,trivial⟩ (Nat.le_refl _) (by simp [fq,gB,cK 0 _ hF]) rfl) ?_
 refine aG.loop (fun k:Nat=>k≤l.length∧∀ i (h:i < l.length),i < k→p l[i]=false) (fun k=>⟨bT [(0,.sl (l.map bD) full),(1,.fn g fs cs),(7,ak l.length),(8,ak (k:Int))],[],bW.none,false,0⟩) (fun k=>l.length - k) ?_ 0 ⟨Nat.zero_le _,fun i _ hi=>absurd hi (by omega)⟩
 intro k ⟨hk,hprev⟩
 refine aa (mu:=fun _=>false) ?_
 refine ⟨fun h=>?_,fun h=>?_⟩
 ·have hlt:k < l.length:=by simpa using h
  skip
  refine ⟨bD l[k],⟨by omega,by simp [hlt]⟩,rfl,?_⟩
  repeat' (first |refine u2 ?_ |fail)
  refine af.call (hp l[k] (List.getElem_mem _)) hF rfl ?_
  refine ⟨fun h2=>?_,fun h2=>?_⟩
  ·skip
   refine ⟨[_],⟨Fz.deep rfl,trivial⟩,?_⟩
   rw [jm hlt hprev h2];rfl
  ·repeat' (first |refine u2 ?_ |fail)
   refine ⟨k+1,⟨hlt,fun i hi hik=>?_⟩,(by dsimp only;omega),aj.to 0 rfl ⟨rfl,rfl,rfl,aJ (by simp),trivial⟩ (Nat.le_refl _) (by simp [fq,gB,cK 0 _ hF]) rfl⟩
   by_cases hik':i=k
   ·subst hik';exact h2
   ·exact hprev i hi (by omega)
 ·skip
  refine ⟨[_],⟨Fz.deep rfl,trivial⟩,?_⟩
  have:k=l.length:=by simp at h;omega
  rw [jn fun i hi=>hprev i hi (by omega)];rfl
theorem va (one:Bool) (g:FuncId) (fs cs:List AV) (hF:(AV.fn g fs cs).deep=true) (p:Kind→Bool) (l:List Kind) (full:Bool) (hl:l.length≤maxLen) (hp:∀ x ∈ l,af TT TB one (.fn g fs cs) [.ag (bD x)] (BB (p x))) :
  Pu one 136 [.sl (l.map bD) full,.fn g fs cs] (BB (l.any p)):=by
 refine af.body (fn:=Tryz.f136) rfl rfl rfl rfl ?_
 refine aa (mu:=fun _=>false) ?_
 skip
 refine af.call (yO one g fs cs hF p l full hl hp) rfl (by simp only [bU,AV.deep,Bool.and_true,Bool.true_and];exact hF) ?_
 skip
 refine ⟨[_],⟨Fz.deep rfl,trivial⟩,?_⟩
 rw [←m7];rfl
theorem yP (one:Bool) (g:FuncId) (fs cs:List AV) (hF:(AV.fn g fs cs).deep=true) (p:Count→Bool) (l:List Count) (full:Bool) (hl:l.length≤maxLen) (hp:∀ x ∈ l,af TT TB one (.fn g fs cs) [.ag (aM x)] (BB (p x))) :
  Pu one 138 [.sl (l.map aM) full,.fn g fs cs] (ak (qw p l)):=by
 unfold maxLen at hl
 refine af.body (fn:=Tryz.f138) rfl rfl rfl rfl ?_
 refine aa (mu:=fun _=>false) ?_
 skip
 refine aG.aU (aj.to (l:=[(0,.sl (l.map aM) full),(1,.fn g fs cs),(7,ak l.length),(8,ak ((0:Nat):Int))]) 0 rfl ⟨rfl,rfl,aJ (by simp),rfl,trivial⟩ (Nat.le_refl _) (by simp [fq,gB,cK 0 _ hF]) rfl) ?_
 refine aG.loop (fun k:Nat=>k≤l.length∧∀ i (h:i < l.length),i < k→p l[i]=false) (fun k=>⟨bT [(0,.sl (l.map aM) full),(1,.fn g fs cs),(7,ak l.length),(8,ak (k:Int))],[],bW.none,false,0⟩) (fun k=>l.length - k) ?_ 0 ⟨Nat.zero_le _,fun i _ hi=>absurd hi (by omega)⟩
 intro k ⟨hk,hprev⟩
 refine aa (mu:=fun _=>false) ?_
 refine ⟨fun h=>?_,fun h=>?_⟩
 ·have hlt:k < l.length:=by simpa using h
  skip
  refine ⟨aM l[k],⟨by omega,by simp [hlt]⟩,rfl,?_⟩
  repeat' (first |refine u2 ?_ |fail)
  refine af.call (hp l[k] (List.getElem_mem _)) hF rfl ?_
  refine ⟨fun h2=>?_,fun h2=>?_⟩
  ·skip
   refine ⟨[_],⟨Fz.deep rfl,trivial⟩,?_⟩
   rw [jm hlt hprev h2];rfl
  ·repeat' (first |refine u2 ?_ |fail)
   refine ⟨k+1,⟨hlt,fun i hi hik=>?_⟩,(by dsimp only;omega),aj.to 0 rfl ⟨rfl,rfl,rfl,aJ (by simp),trivial⟩ (Nat.le_refl _) (by simp [fq,gB,cK 0 _ hF]) rfl⟩
   by_cases hik':i=k
   ·subst hik';exact h2
   ·exact hprev i hi (by omega)
 ·skip
  refine ⟨[_],⟨Fz.deep rfl,trivial⟩,?_⟩
  have:k=l.length:=by simp at h;omega
  rw [jn fun i hi=>hprev i hi (by omega)];rfl
theorem iB (one:Bool) (g:FuncId) (fs cs:List AV) (hF:(AV.fn g fs cs).deep=true) (p:Count→Bool) (l:List Count) (full:Bool) (hl:l.length≤maxLen) (hp:∀ x ∈ l,af TT TB one (.fn g fs cs) [.ag (aM x)] (BB (p x))) :
  Pu one 105 [.sl (l.map aM) full,.fn g fs cs] (BB (l.any p)):=by
 refine af.body (fn:=Tryz.f105) rfl rfl rfl rfl ?_
 refine aa (mu:=fun _=>false) ?_
 skip
 refine af.call (yP one g fs cs hF p l full hl hp) rfl (by simp only [bU,AV.deep,Bool.and_true,Bool.true_and];exact hF) ?_
 skip
 refine ⟨[_],⟨Fz.deep rfl,trivial⟩,?_⟩
 rw [←m7];rfl
end Go.Proofs.YtgdbfbalchdmcaaGreat.St
open Go Go.RM
namespace Go.Proofs.YtgdbfbalchdmcaaGreat.St
set_option maxRecDepth 100000
theorem jo (one:Bool) (lo hi:Int) (els:List (List AV)) (full:Bool) (h:els.all OG=true) (hl:els.length≤maxLen):Pu one 54 [ak lo,ak hi,.sl els full] (BB (bH lo hi (els.map I3))):=by
 obtain ⟨l,hl'⟩:∃ l,els.map I3=l:=⟨_,rfl⟩
 have he:els=ints l:=by rw [←hl'];exact allI h
 rw [hl']
 subst he
 refine af.body (fn:=Tryz.f54) rfl rfl rfl rfl ?_
 refine aa (mu:=fun _=>false) ?_
 repeat' (first |refine u2 ?_ |fail)
 refine af.call (u9 one 101 [] _ rfl (fun n=>decide (n < lo) || decide (hi < n)) l full (by simpa using hl) (fun n _=>sF one n lo hi)) rfl rfl ?_
 skip
 refine ⟨[_],⟨Fz.deep rfl,trivial⟩,?_⟩
 rfl
end Go.Proofs.YtgdbfbalchdmcaaGreat.St
