/-
  Contracts of the program's functions and of the document's. Lemmas alone; their conditions stand in them.
-/
import Derived.Test.YtkappgolfkiaeaaGreatDoorK10
import Derived.Test.YtkappgolfkiaeaaGreatDoorRows
open Go Go.RM
namespace Go.Proofs.YtkappgolfkiaeaaGreatDoor.St
open Go.ChangeShapes Go.WideShapes Go.ChangeAt Go.RowKit
set_option maxRecDepth 100000
set_option maxHeartbeats 4000000
theorem jw (one:Bool) (g:FuncId) (fs cs:List AV) (hF:(AV.fn g fs cs).deep=true) (p:Int→Bool) (l:List Int) (full:Bool) (hl:l.length≤maxLen) (hp:∀ n ∈ l,af TT TB one (.fn g fs cs) [av n] (BB (p n))) :
  Pu one 93 [.sl (ints l) full,.fn g fs cs] (av (l5 p l)):=by
 unfold maxLen at hl;refine af.body (fn:=Tryz.f93) rfl rfl rfl rfl ?_;refine qq1 ?_
 skip
 refine aE.aS (ai.to (l:=[(0,.sl (ints l) full),(1,.fn g fs cs),(7,av l.length),(8,av ((0:Nat):Int))]) 0 rfl ⟨rfl,rfl,aJ (by simp),rfl,trivial⟩ (qq6 _) (by simp [fK,gK,cQ 0 _ hF]) rfl) ?_;refine aE.loop (fun k:Nat=>k≤l.length∧∀ i (h:i < l.length),i < k→p l[i]=false) (fun k=>⟨bA [(0,.sl (ints l) full),(1,.fn g fs cs),(7,av l.length),(8,av (k:Int))],[],cz.none,false,0⟩) (fun k=>l.length - k) ?_ 0 ⟨qq5 _,fun i _ hi=>absurd hi (by omega)⟩;intro k ⟨hk,hprev⟩;refine qq1 ?_;refine ⟨fun h=>?_,fun h=>?_⟩
 ·have hlt:k < l.length:=by simpa using h
  refine ⟨[av l[k]],⟨by omega,by simp [hlt]⟩,rfl,?_⟩;repeat' first|refine u1 ?_|fail
  refine af.call (hp l[k] (List.getElem_mem _)) hF rfl ?_;refine ⟨fun h2=>?_,fun h2=>?_⟩
  ·refine ⟨[_],⟨Fz.deep rfl,trivial⟩,?_⟩;rw [iu hlt hprev h2];rfl
  ·repeat' first|refine u2 ?_|fail
   refine ⟨k+1,⟨hlt,fun i hi hik=>?_⟩,(by dsimp only;omega),ai.to 0 rfl ⟨rfl,rfl,rfl,aJ (by simp),trivial⟩ (qq6 _) (by simp [fK,gK,cQ 0 _ hF]) rfl⟩;by_cases hik':i=k
   ·subst hik';exact h2
   ·exact hprev i hi (by omega)
 ·skip
  refine ⟨[_],⟨Fz.deep rfl,trivial⟩,?_⟩;have:k=l.length:=by simp at h;omega
  rw [iw fun i hi=>hprev i hi (by omega)];rfl
def gM (p:Nat→Bool) (a m:Nat):List Int:=((List.range' a m).filter p).map fun (i:Nat)=>(i:Int)
structure Span where
 lo:Int
 hi:Int
abbrev uR (s:Span):List AV:=[av s.lo,av s.hi]
theorem ua (one:Bool) (g:FuncId) (fs cs:List AV) (hF:(AV.fn g fs cs).deep=true) (p:Int→Bool) (l:List Int) (full:Bool) (hl:l.length≤maxLen) (hp:∀ x ∈ l,af TT TB one (.fn g fs cs) [av x] (BB (p x))) :
  Pu one 100 [.sl (l.map eI) full,.fn g fs cs] (BB (l.any p)):=by
 refine af.body (fn:=Tryz.f100) rfl rfl rfl rfl ?_;refine qq1 ?_
 skip
 refine af.call (jw one g fs cs hF p l full hl hp) rfl (by simp only [bG,AV.deep,Bool.and_true,Bool.true_and];exact hF) ?_
 skip
 refine ⟨[_],⟨Fz.deep rfl,trivial⟩,?_⟩;rw [←nD];rfl
theorem Nx (one:Bool) (n lo hi:Int):Pu one 92 [av n,av lo,av hi] (BB (iC n lo hi)):=by
 refine af.body (fn:=Tryz.f92) rfl rfl rfl rfl ?_;refine qq1 ?_;repeat' first|(refine bD (by assumption) ?_)|(refine bV (by assumption) ?_)|(refine ⟨fun h=>?_,fun h=>?_⟩)|fail
 all_goals refine ⟨[_],⟨Fz.deep rfl,trivial⟩,Er ?_⟩
 all_goals simp_all [iC]
 all_goals omega
def fq (lo hi:Int) (s:Span):Int:=if !iC s.lo lo hi || !iC s.hi lo hi then 7 else if s.hi < s.lo then 2 else 0
def mP (lo hi:Int) (l:List Span):Int:=if l.any (fun s=>!iC s.lo lo hi || !iC s.hi lo hi) then 7 else if l.any (fun s=>decide (s.hi < s.lo)) then 2 else 0
theorem JQ (one : Bool) (l : List Span) (full : Bool) (lo hi : Int) (hl : l.length ≤ maxLen) : Pu one 91 [.sl (l.map uR) full, av lo, av hi] (av (mP lo hi l)) := by
  unfold maxLen at hl;refine af.body (fn := Tryz.f91) rfl rfl rfl rfl ?_;refine aa (mu := fun _ => false) ?_;repeat' first |with_reducible (first|refine bk ?_|refine bg ?_)|fail
  refine aE.aS (ai.to (l := [(0, .sl (l.map uR) full), (1, av lo), (2, av hi), (7, av 0), (8, av ((0 : Nat) : Int))]) 0 rfl ⟨rfl, rfl, rfl, rfl, rfl, trivial⟩ (qq6 _) rfl rfl) ?_;refine aE.loop (fun k : Nat => k ≤ l.length ∧ (l.take k).any (fun s => !iC s.lo lo hi || !iC s.hi lo hi) = false) (fun k => ⟨bA [(0, .sl (l.map uR) full), (1, av lo), (2, av hi), (7, av (if (l.take k).any (fun s => decide (s.hi < s.lo)) then 2 else 0)), (8, av (k : Int))], [], cz.none, false, 0⟩) (fun k => l.length - k) ?_ 0 ⟨qq5 _, rfl⟩;intro k ⟨hk, hprev⟩;refine aa (mu := fun _ => false) ?_;repeat' first |with_reducible (first|refine bk ?_|refine bg ?_)|fail
  refine ⟨fun h => ?_, fun h => ?_⟩
  · have hlt : k < l.length := by simpa using h
    have htake : l.take (k + 1) = l.take k ++ [l[k]] := by rw [List.take_add_one, List.getElem?_eq_getElem hlt]; rfl
    repeat' first|((with_reducible show me _ _ _ _ (.region _ _ true) _ _);refine RM.c5 (by kernel_rfl) rfl rfl ?_) |with_reducible (first|refine bQ ?_|refine bk ?_|refine fm ?_|refine bg ?_|refine aZ ?_)|(refine ⟨_, rfl, ?_⟩)|(refine bD (by assumption) ?_)|(refine bD rfl ?_)|(refine bV (by assumption) ?_)|(refine ⟨_, _, rfl, by decide, ?_⟩)|(refine And.intro (by omega) ?_)|(refine And.intro (by kernel_rfl) ?_)|(refine ⟨uR l[k], ⟨by omega, bI hlt⟩, rfl, ?_⟩)|(refine af.call (Nx one _ _ _) rfl rfl ?_)|(refine ⟨fun h => ?_, fun h => ?_⟩)|fail
    all_goals first
      | (refine ⟨[_], ⟨Fz.deep rfl, trivial⟩, aJ ?_⟩
         have : l.any (fun s => !iC s.lo lo hi || !iC s.hi lo hi) = true := by rw [List.any_eq_true];exact ⟨l[k], List.getElem_mem hlt, by simp_all⟩
         simp only [mP, this]
         rfl)
      | (refine ⟨k + 1, ⟨hlt, by rw [htake, List.any_append, hprev]; simp_all⟩, (by dsimp only; omega), ai.to 0 rfl ⟨rfl, rfl, rfl, aJ ?_, aJ (by simp), trivial⟩ (qq6 _) rfl rfl⟩
         rw [htake, List.any_append];generalize (l.take k).any (fun s => decide (s.hi < s.lo)) = b
         cases b <;> simp_all)
  · skip
    refine ⟨[_], ⟨Fz.deep rfl, trivial⟩, aJ ?_⟩;have : k = l.length := by simp at h; omega
    subst this;rw [List.take_length] at hprev ⊢;simp only [mP, hprev];rfl
theorem ER {lo hi:Int} {s:Span}:mP lo hi [s]=fq lo hi s:=by simp [mP,fq]
theorem Bj (one:Bool) (s:Span) (lo hi:Int):Pu one 56 [.ag (uR s),av lo,av hi] (av (fq lo hi s)):=by
 rw [←ER];refine af.body (fn:=Tryz.f56) rfl rfl rfl rfl ?_;refine qq1 ?_;repeat' first |with_reducible (first|refine bk ?_|refine bg ?_)|refine u2 ?_|refine u1 ?_|refine af.call (JQ one [s] true lo hi (Nat.le_of_ble_eq_true rfl)) rfl rfl ?_|fail
 exact ⟨[_],⟨Fz.deep rfl,trivial⟩,rfl⟩
def az (s:Span):Nat:=(s.hi - s.lo+1).toNat
theorem Hz {α β:Type} {g:β→α→β} {b:β} {L:List α} {i:Nat} {y:α} (h:L[i]?=some y):(L.take (i+1)).foldl g b=g ((L.take i).foldl g b) y:=by rw [List.take_add_one,h,List.foldl_append];rfl
theorem UZ {n:Int} (h:0≤n∧n≤9223372036854775807):cW (aK TT.P (convert 3 117 (.int .i64 n)))=some (.int .u64 n,.none):=by have:cW (aK TT.P (convert 3 117 (.int .i64 n)))=some (.int .u64 (IntKind.u64.wrap n),.none):=rfl;rw [this,IntWalk.u64_in n (by omega)]
theorem U0 {n:Int} (h:0≤n∧n≤9223372036854775807):cW (aK TT.P (convert 117 3 (.int .u64 n)))=some (.int .i64 n,.none):=by have:cW (aK TT.P (convert 117 3 (.int .u64 n)))=some (.int .i64 (IntKind.i64.wrap n),.none):=rfl;rw [this,IntWalk.i64_in n (by omega)]
def bs (p:Nat→Bool) (i j:Nat):Nat :=
 if i < j then (if p ((i+j) / 2) then bs p i ((i+j) / 2) else bs p ((i+j) / 2+1) j) else i
theorem sN (p:Nat→Bool) (i j:Nat) (h:i≤j):i≤bs p i j∧bs p i j≤j:=by
 rw [bs];split
 ·split
  ·have:=sN p i ((i+j) / 2) (by omega);omega
  ·have:=sN p ((i+j) / 2+1) j (by omega);omega
 ·omega
theorem sO (p:Nat→Bool) (i j:Nat) (h:i≤j) (hm:∀ a b,i≤a→a≤b→b < j→p a=true→p b=true):(∀ a,i≤a→a < bs p i j→p a=false)∧(bs p i j < j→p (bs p i j)=true):=by
 rw [bs];split
 ·rename_i hlt;split
  ·rename_i hp;have hh:=sN p i ((i+j) / 2) (by omega);have:=sO p i ((i+j) / 2) (by omega) fun a b h1 h2 h3=>hm a b h1 h2 (by omega);refine ⟨this.1,fun hl=>?_⟩;by_cases he:bs p i ((i+j) / 2)=(i+j) / 2
   ·rw [he];exact hp
   ·exact this.2 (by omega)
  ·rename_i hp;have:=sO p ((i+j) / 2+1) j (by omega) fun a b h1 h2 h3=>hm a b (by omega) h2 h3;refine ⟨fun a h1 h2=>?_,this.2⟩;by_cases ha:(i+j) / 2+1≤a
   ·exact this.1 a ha h2
   ·cases hpa:p a with
    | false=>rfl
    | true=>exact absurd (hm a ((i+j) / 2) h1 (by omega) (by omega) hpa) hp
 ·exact ⟨fun a h1 h2=>by omega,fun hl=>by omega⟩
theorem JR (one:Bool) (g:FuncId) (fs cs:List AV) (hF:(AV.fn g fs cs).deep=true) (p:Nat→Bool) (n:Nat) (hn:n≤1000000000) (hp:∀ i,i < n→af TT TB one (.fn g fs cs) [av i] (BB (p i))):Pu one 108 [av n,.fn g fs cs] (av (bs p 0 n)):=by
 refine af.body (fn:=Tryz.f108) rfl rfl rfl rfl ?_;refine qq1 ?_;repeat' first|refine u1 ?_|fail
 refine aE.aS (ai.to (l:=[(1,.fn g fs cs),(5,av ((0:Nat):Int)),(6,av n)]) 0 rfl ⟨rfl,rfl,rfl,trivial⟩ (qq6 _) (by simp [fK,cQ 0 _ hF]) rfl) ?_;refine aE.loop (fun x:Nat × Nat=>x.1≤x.2∧x.2≤n∧bs p x.1 x.2=bs p 0 n) (fun x=>⟨bA [(1,.fn g fs cs),(5,av (x.1:Int)),(6,av (x.2:Int))],[],cz.none,false,0⟩) (fun x=>x.2 - x.1) ?_ (0,n) ⟨qq5 _,qq6 _,rfl⟩;rintro ⟨i,j⟩ ⟨h1,h2,h3⟩;dsimp only at h1 h2 h3;change aE TT TB one _ ⟨bA [(1,.fn g fs cs),(5,av (i:Int)),(6,av (j:Int))],[],cz.none,false,0⟩ _;refine qq1 ?_;repeat' first|refine u1 ?_|fail
 refine RM.e1 rfl ⟨fun hc=>?_,fun hc=>?_⟩
 ·have hlt:i < j:=by simpa using hc
  rw [bs,if_pos hlt] at h3;have hm:(((i:Int)+j) / 2)=(((i+j) / 2:Nat):Int):=by omega
  repeat' first|refine ⟨_,UZ (by omega),rfl,?_⟩|refine ⟨_,_,rfl,rfl,_,IY,rfl,?_⟩|refine ⟨_,U0 (by omega),rfl,?_⟩|refine u1 ?_|refine u2 ?_|fail
  rw [hm];repeat' first|refine u1 ?_|refine af.call (hp ((i+j) / 2) (by omega)) hF rfl ?_|fail
  cases hb:p ((i+j) / 2) with
  | true =>
   rw [if_pos hb] at h3;repeat' first|refine u1 ?_|fail
   exact ⟨(i,(i+j) / 2),⟨by dsimp only;omega,by dsimp only;omega,h3⟩,(by dsimp only;omega),ai.to 0 rfl ⟨rfl,rfl,rfl,trivial⟩ (qq6 _) (by simp [fK,cQ 0 _ hF]) rfl⟩
  | false =>
   rw [if_neg (by simp [hb])] at h3;repeat' first|refine u1 ?_|fail
   exact ⟨((i+j) / 2+1,j),⟨by dsimp only;omega,by dsimp only;omega,h3⟩,(by dsimp only;omega),ai.to 0 rfl ⟨rfl,aJ (by simp),rfl,trivial⟩ (qq6 _) (by simp [fK,cQ 0 _ hF]) rfl⟩
 ·rw [bs,if_neg (by simpa using hc)] at h3;repeat' first|refine u1 ?_|fail
  exact ⟨[_],⟨Fz.deep rfl,trivial⟩,by rw [←h3];rfl⟩
abbrev Bk:Sh:=.cons BM (.cons BM .nil)
theorem ES {l:List AV} (h:TV Bk l):∃ s:Span,l=uR s:=by obtain ⟨_,_,h1,k1,rfl⟩:=qY h;obtain ⟨_,_,h2,k2,rfl⟩:=qY k1;obtain ⟨a,_,rfl⟩:=DL h1;obtain ⟨b,_,rfl⟩:=DL h2;obtain rfl:=Oi k2;exact ⟨⟨a,b⟩,rfl⟩
abbrev Ny (n:Int):AV:=.fl (.int .u16 n)
end Go.Proofs.YtkappgolfkiaeaaGreatDoor.St
open Go Go.RM
namespace Go.Proofs.YtkappgolfkiaeaaGreatDoor.St
set_option maxRecDepth 100000
theorem qQ (one:Bool) (n lo hi:Int):af TT TB one (.fn 101 [] [.pt [av lo] 0,.pt [av hi] 0]) [av n] (BB (decide (n < lo) || decide (hi < n))):=by
 refine af.body (fn:=Tryz.f101) rfl rfl rfl rfl ?_;refine qq1 ?_;repeat' first|(refine ⟨_,rfl,?_⟩)|(refine bD (by assumption) ?_)|(refine bV (by assumption) ?_)|(refine ⟨fun h=>?_,fun h=>?_⟩)|fail
 all_goals refine ⟨[_],⟨Fz.deep rfl,trivial⟩,?_⟩
 all_goals simp_all [AW]
structure Kind where
 name:ByteArray
 first:Span
 bp:Span
 aD:Span
 room:Int
 dh:Int
structure jS where
 day:Int
 kind:Int
 cC:Int
structure Count where
 day:Int
 kind:Int
 cC:Span
structure aR where
 first:Int
 bp:Int
 aD:Int
structure aI where
 ax:List Int
 kinds:List Kind
 au:List jS
abbrev cA (k:Kind):List AV:=[ST k.name,av k.first.lo,av k.first.hi,av k.bp.lo,av k.bp.hi,av k.aD.lo,av k.aD.hi,av k.room,av k.dh]
abbrev fL (c:jS):List AV:=[av c.day,av c.kind,av c.cC]
abbrev aP (c:Count):List AV:=[av c.day,av c.kind,av c.cC.lo,av c.cC.hi]
abbrev bC (t:aR):List AV:=[av t.first,av t.bp,av t.aD]
abbrev aN (s:aI):List AV:=[.sl (s.ax.map eI) false,.sl (s.kinds.map cA) false,.sl (s.au.map fL) false]
theorem xA (one:Bool) (g:FuncId) (fs cs:List AV) (hF:(AV.fn g fs cs).deep=true) (p:Kind→Bool) (l:List Kind) (full:Bool) (hl:l.length≤maxLen) (hp:∀ x ∈ l,af TT TB one (.fn g fs cs) [.ag (cA x)] (BB (p x))) :
  Pu one 149 [.sl (l.map cA) full,.fn g fs cs] (av (l5 p l)):=by
 unfold maxLen at hl;refine af.body (fn:=Tryz.f149) rfl rfl rfl rfl ?_;refine qq1 ?_
 skip
 refine aE.aS (ai.to (l:=[(0,.sl (l.map cA) full),(1,.fn g fs cs),(7,av l.length),(8,av ((0:Nat):Int))]) 0 rfl ⟨rfl,rfl,aJ (by simp),rfl,trivial⟩ (qq6 _) (by simp [fK,gK,cQ 0 _ hF]) rfl) ?_;refine aE.loop (fun k:Nat=>k≤l.length∧∀ i (h:i < l.length),i < k→p l[i]=false) (fun k=>⟨bA [(0,.sl (l.map cA) full),(1,.fn g fs cs),(7,av l.length),(8,av (k:Int))],[],cz.none,false,0⟩) (fun k=>l.length - k) ?_ 0 ⟨qq5 _,fun i _ hi=>absurd hi (by omega)⟩;intro k ⟨hk,hprev⟩;refine qq1 ?_;refine ⟨fun h=>?_,fun h=>?_⟩
 ·have hlt:k < l.length:=by simpa using h
  skip
  refine ⟨cA l[k],⟨by omega,by simp [hlt]⟩,rfl,?_⟩;repeat' first|refine u2 ?_|fail
  refine af.call (hp l[k] (List.getElem_mem _)) hF rfl ?_;refine ⟨fun h2=>?_,fun h2=>?_⟩
  ·skip
   refine ⟨[_],⟨Fz.deep rfl,trivial⟩,?_⟩;rw [iu hlt hprev h2];rfl
  ·repeat' first|refine u2 ?_|fail
   refine ⟨k+1,⟨hlt,fun i hi hik=>?_⟩,(by dsimp only;omega),ai.to 0 rfl ⟨rfl,rfl,rfl,aJ (by simp),trivial⟩ (qq6 _) (by simp [fK,gK,cQ 0 _ hF]) rfl⟩;by_cases hik':i=k
   ·subst hik';exact h2
   ·exact hprev i hi (by omega)
 ·skip
  refine ⟨[_],⟨Fz.deep rfl,trivial⟩,?_⟩;have:k=l.length:=by simp at h;omega
  rw [iw fun i hi=>hprev i hi (by omega)];rfl
theorem ud (one:Bool) (g:FuncId) (fs cs:List AV) (hF:(AV.fn g fs cs).deep=true) (p:Kind→Bool) (l:List Kind) (full:Bool) (hl:l.length≤maxLen) (hp:∀ x ∈ l,af TT TB one (.fn g fs cs) [.ag (cA x)] (BB (p x))) :
  Pu one 130 [.sl (l.map cA) full,.fn g fs cs] (BB (l.any p)):=by
 refine af.body (fn:=Tryz.f130) rfl rfl rfl rfl ?_;refine qq1 ?_
 skip
 refine af.call (xA one g fs cs hF p l full hl hp) rfl (by simp only [bG,AV.deep,Bool.and_true,Bool.true_and];exact hF) ?_
 skip
 refine ⟨[_],⟨Fz.deep rfl,trivial⟩,?_⟩;rw [←nD];rfl
theorem xB (one:Bool) (g:FuncId) (fs cs:List AV) (hF:(AV.fn g fs cs).deep=true) (p:Count→Bool) (l:List Count) (full:Bool) (hl:l.length≤maxLen) (hp:∀ x ∈ l,af TT TB one (.fn g fs cs) [.ag (aP x)] (BB (p x))) :
  Pu one 132 [.sl (l.map aP) full,.fn g fs cs] (av (l5 p l)):=by
 unfold maxLen at hl;refine af.body (fn:=Tryz.f132) rfl rfl rfl rfl ?_;refine qq1 ?_
 skip
 refine aE.aS (ai.to (l:=[(0,.sl (l.map aP) full),(1,.fn g fs cs),(7,av l.length),(8,av ((0:Nat):Int))]) 0 rfl ⟨rfl,rfl,aJ (by simp),rfl,trivial⟩ (qq6 _) (by simp [fK,gK,cQ 0 _ hF]) rfl) ?_;refine aE.loop (fun k:Nat=>k≤l.length∧∀ i (h:i < l.length),i < k→p l[i]=false) (fun k=>⟨bA [(0,.sl (l.map aP) full),(1,.fn g fs cs),(7,av l.length),(8,av (k:Int))],[],cz.none,false,0⟩) (fun k=>l.length - k) ?_ 0 ⟨qq5 _,fun i _ hi=>absurd hi (by omega)⟩;intro k ⟨hk,hprev⟩;refine qq1 ?_;refine ⟨fun h=>?_,fun h=>?_⟩
 ·have hlt:k < l.length:=by simpa using h
  skip
  refine ⟨aP l[k],⟨by omega,by simp [hlt]⟩,rfl,?_⟩;repeat' first|refine u2 ?_|fail
  refine af.call (hp l[k] (List.getElem_mem _)) hF rfl ?_;refine ⟨fun h2=>?_,fun h2=>?_⟩
  ·skip
   refine ⟨[_],⟨Fz.deep rfl,trivial⟩,?_⟩;rw [iu hlt hprev h2];rfl
  ·repeat' first|refine u2 ?_|fail
   refine ⟨k+1,⟨hlt,fun i hi hik=>?_⟩,(by dsimp only;omega),ai.to 0 rfl ⟨rfl,rfl,rfl,aJ (by simp),trivial⟩ (qq6 _) (by simp [fK,gK,cQ 0 _ hF]) rfl⟩;by_cases hik':i=k
   ·subst hik';exact h2
   ·exact hprev i hi (by omega)
 ·skip
  refine ⟨[_],⟨Fz.deep rfl,trivial⟩,?_⟩;have:k=l.length:=by simp at h;omega
  rw [iw fun i hi=>hprev i hi (by omega)];rfl
theorem mQ (one:Bool) (g:FuncId) (fs cs:List AV) (hF:(AV.fn g fs cs).deep=true) (p:Count→Bool) (l:List Count) (full:Bool) (hl:l.length≤maxLen) (hp:∀ x ∈ l,af TT TB one (.fn g fs cs) [.ag (aP x)] (BB (p x))) :
  Pu one 105 [.sl (l.map aP) full,.fn g fs cs] (BB (l.any p)):=by
 refine af.body (fn:=Tryz.f105) rfl rfl rfl rfl ?_;refine qq1 ?_
 skip
 refine af.call (xB one g fs cs hF p l full hl hp) rfl (by simp only [bG,AV.deep,Bool.and_true,Bool.true_and];exact hF) ?_
 skip
 refine ⟨[_],⟨Fz.deep rfl,trivial⟩,?_⟩;rw [←nD];rfl
theorem iy (one:Bool) (lo hi:Int) (els:List (List AV)) (full:Bool) (h:els.all TZ=true) (hl:els.length≤maxLen):Pu one 60 [av lo,av hi,.sl els full] (BB (bS lo hi (els.map I3))):=by
 obtain ⟨l,hl'⟩:∃ l,els.map I3=l:=⟨_,rfl⟩;have he:els=ints l:=by rw [←hl'];exact allI h
 rw [hl'];subst he;refine af.body (fn:=Tryz.f60) rfl rfl rfl rfl ?_;refine qq1 ?_;repeat' first|refine u2 ?_|fail
 refine af.call (ua one 101 [] _ rfl (fun n=>decide (n < lo) || decide (hi < n)) l full (by simpa using hl) (fun n _=>qQ one n lo hi)) rfl rfl ?_
 skip
 refine ⟨[_],⟨Fz.deep rfl,trivial⟩,?_⟩;rfl
abbrev JS:Sh:=.cons .str (.cons Bk (.cons Bk (.cons Bk (.cons BM (.cons BM .nil)))))
abbrev F6:Sh:=.cons BM (.cons BM (.cons BM .nil))
abbrev Di:Sh:=.cons (.slice BM) (.cons (.slice JS) (.cons (.slice F6) .nil))
theorem Qk {l:List AV} (h:TV JS l):∃ k:Kind,k.name.data.toList.length≤maxLen∧l=cA k:=by obtain ⟨_,_,h1,k1,rfl⟩:=qY h;obtain ⟨_,_,h2,k2,rfl⟩:=qY k1;obtain ⟨_,_,h3,k3,rfl⟩:=qY k2;obtain ⟨_,_,h4,k4,rfl⟩:=qY k3;obtain ⟨_,_,h5,k5,rfl⟩:=qY k4;obtain ⟨_,_,h6,k6,rfl⟩:=qY k5;obtain ⟨a,ha,rfl⟩:=Ux h1;obtain ⟨b,rfl⟩:=ES h2;obtain ⟨c,rfl⟩:=ES h3;obtain ⟨d,rfl⟩:=ES h4;obtain ⟨e,_,rfl⟩:=DL h5;obtain ⟨f,_,rfl⟩:=DL h6;obtain rfl:=Oi k6;exact ⟨⟨a,b,c,d,e,f⟩,by simpa using ha,rfl⟩
theorem Nz {l:List AV} (h:TV F6 l):∃ c:jS,l=fL c:=by obtain ⟨_,_,h1,k1,rfl⟩:=qY h;obtain ⟨_,_,h2,k2,rfl⟩:=qY k1;obtain ⟨_,_,h3,k3,rfl⟩:=qY k2;obtain ⟨a,_,rfl⟩:=DL h1;obtain ⟨b,_,rfl⟩:=DL h2;obtain ⟨c,_,rfl⟩:=DL h3;obtain rfl:=Oi k3;exact ⟨⟨a,b,c⟩,rfl⟩
structure aI.Ok (s:aI):Prop where
 ax:s.ax.length≤maxLen
 kinds:s.kinds.length≤maxLen
 au:s.au.length≤maxLen
 names:∀ k ∈ s.kinds,k.name.data.toList.length≤maxLen
theorem JT {l:List AV} (h:TV Di l):∃ s:aI,s.Ok∧l=aN s:=by
 obtain ⟨_,_,h1,k1,rfl⟩:=qY h;obtain ⟨_,_,h2,k2,rfl⟩:=qY k1;obtain ⟨_,_,h3,k3,rfl⟩:=qY k2;obtain rfl:=Oi k3;obtain ⟨a,ha,ha',rfl⟩:=RH h1;obtain ⟨b,hb,hb',rfl⟩:=RH h2;obtain ⟨c,hc,hc',rfl⟩:=RH h3;obtain ⟨a,_,rfl⟩:=xy (e:=eI) (P:=fun _=>True) fun el hel=>by obtain ⟨n,_,h⟩:=DL (ha' el hel);exact ⟨n,trivial,h⟩
 obtain ⟨b,hn,rfl⟩:=xy (e:=cA) fun el hel=>Qk (hb' el hel);obtain ⟨c,_,rfl⟩:=xy (e:=fL) (P:=fun _=>True) fun el hel=>by obtain ⟨n,h⟩:=Nz (hc' el hel);exact ⟨n,trivial,h⟩
 exact ⟨⟨a,b,c⟩,⟨by simpa using ha,by simpa using hb,by simpa using hc,hn⟩,rfl⟩
end Go.Proofs.YtkappgolfkiaeaaGreatDoor.St
