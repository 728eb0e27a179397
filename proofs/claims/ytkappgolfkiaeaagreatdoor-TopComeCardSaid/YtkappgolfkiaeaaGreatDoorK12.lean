/-
  Contracts of the program's functions and of the document's. Lemmas alone; their conditions stand in them.
-/
import Derived.Test.YtkappgolfkiaeaaGreatDoorK11
open Go Go.RM
namespace Go.Proofs.YtkappgolfkiaeaaGreatDoor.St
set_option maxRecDepth 100000
def fY (k:Kind) (names:List ByteArray):Int :=
 if i6 k.name=false then 6
 else if names.any (fun x=>vl x k.name) then 5
 else if bS 0 300 [k.first.lo,k.first.hi,k.room] || bS 0 6 [k.bp.lo,k.bp.hi] || bS 0 12 [k.aD.lo,k.aD.hi] || bS 0 1000 [k.dh] then 7
 else if decide (k.first.hi < k.first.lo) || decide (k.bp.hi < k.bp.lo) || decide (k.aD.hi < k.aD.lo) then 2
 else 0
theorem sP {v:Value}:(AV.fl v).cells=[AV.fl v]:=rfl
theorem Bl {n:Int}:I3 [AV.fl (.int .i64 n)]=n:=rfl
theorem w8 (one:Bool) (n:Int):Pu one 94 [av n] (BB (bS 0 12 [n])):=by
 refine af.body (fn:=Tryz.f94) rfl rfl rfl rfl ?_;refine qq1 ?_;repeat' first|refine u2 ?_|refine af.call (iy one _ _ _ _ rfl (Nat.le_of_ble_eq_true rfl)) rfl rfl ?_|fail
 exact ⟨[_],⟨Fz.deep rfl,trivial⟩,rfl⟩
theorem NA (one:Bool) (k x:Kind):af TT TB one (.fn 131 [] [.pt (cA k) 0]) [.ag (cA x)] (BB (vl x.name k.name)):=by
 refine af.body (fn:=Tryz.f131) rfl rfl rfl rfl ?_;refine qq1 ?_;repeat' first|refine u2 ?_|fail
 exact ⟨[_],⟨Fz.deep rfl,trivial⟩,rfl⟩
theorem Ql (one:Bool) (k:Kind) (others:List Kind) (els:List (List AV)) (full:Bool) (he:els=others.map cA) (hk:k.name.data.toList.length≤maxLen) (ho:others.length≤maxLen):Pu one 97 [.ag (cA k),.sl els full] (av (fY k (others.map (·.name)))):=by
 subst he;have hany:(others.map (·.name)).any (fun x=>vl x k.name)=others.any (fun x=>vl x.name k.name):=by simp [List.any_map,Function.comp_def]
 have hc:=ud one 131 [] [.pt (cA k) 0] rfl (fun x=>vl x.name k.name) others full ho (fun x _=>NA one k x);unfold fY;rw [hany];generalize others.any (fun x=>vl x.name k.name)=b at hc;refine af.body (fn:=Tryz.f97) rfl rfl rfl rfl ?_;refine qq1 ?_;repeat' first|(refine ⟨_,rfl,?_⟩)|(refine bD (by assumption) ?_)|(refine bD rfl ?_)|(refine bV rfl ?_)|(refine bV (by assumption) ?_)|(refine ⟨_,_,rfl,by decide,?_⟩)|(refine ⟨rfl,rfl,rfl,?_⟩)|(refine ⟨rfl,rfl,?_⟩)|(refine af.call (iy one _ _ _ _ rfl (Nat.le_of_ble_eq_true rfl)) rfl rfl ?_)|(refine af.call (I4 one _ hk) rfl rfl ?_)|(refine af.call hc rfl rfl ?_)|(refine ⟨fun h=>?_,fun h=>?_⟩)|fail
 all_goals refine ⟨[_],⟨Fz.deep rfl,trivial⟩,aJ ?_⟩
 all_goals simp_all [sP,Bl]
theorem HA (one:Bool) (g:FuncId) (fs cs:List AV) (hF:(AV.fn g fs cs).deep=true) (e:Nat→Int) (l:List Kind) (full:Bool) (hl:l.length≤maxLen) (hp:∀ i (h:i < l.length),af TT TB one (.fn g fs cs) [av i,.ag (cA l[i])] (av (e i))) :
  Pu one 95 [.sl (l.map cA) full,.fn g fs cs] (.tp [av (bx l.length e).1,av (bx l.length e).2]):=by
 unfold maxLen at hl;refine af.body (fn:=Tryz.f95) rfl rfl rfl rfl ?_;refine qq1 ?_
 skip
 refine aE.aS (ai.to (l:=[(1,.fn g fs cs),(9,.sl (l.map cA) full),(10,av l.length),(11,av ((0:Nat):Int))]) 0 rfl ⟨rfl,rfl,aJ (by simp),rfl,trivial⟩ (qq6 _) (by simp [fK,gK,cQ 0 _ hF]) rfl) ?_;refine aE.loop (fun k:Nat=>k≤l.length∧∀ i,i < k→e i=0) (fun k=>⟨bA [(1,.fn g fs cs),(9,.sl (l.map cA) full),(10,av l.length),(11,av (k:Int))],[],cz.none,false,0⟩) (fun k=>l.length - k) ?_ 0 ⟨qq5 _,fun i hi=>absurd hi (by omega)⟩;intro k ⟨hk,hprev⟩;refine qq1 ?_;refine ⟨fun h=>?_,fun h=>?_⟩
 ·have hlt:k < l.length:=by simpa using h
  skip
  refine ⟨cA l[k],⟨by omega,by simp [hlt]⟩,rfl,?_⟩;repeat' first|refine u2 ?_|fail
  refine af.call (hp k hlt) hF rfl ?_
  skip
  refine ⟨fun h2=>?_,fun h2=>?_⟩
  ·skip
   refine ⟨[_,_],⟨Fz.deep rfl,Fz.deep rfl,trivial⟩,?_⟩;rw [eO hlt hprev (by simpa using h2)];rfl
  ·repeat' first|refine u2 ?_|fail
   refine ⟨k+1,⟨hlt,fun i hik=>?_⟩,(by dsimp only;omega),ai.to 0 rfl ⟨rfl,rfl,rfl,aJ (by simp),trivial⟩ (qq6 _) (by simp [fK,gK,cQ 0 _ hF]) rfl⟩;by_cases hik':i=k
   ·subst hik';simpa using h2
   ·exact hprev i (by omega)
 ·skip
  refine ⟨[_,_],⟨Fz.deep rfl,Fz.deep rfl,trivial⟩,?_⟩;have:k=l.length:=by simp at h;omega
  rw [cu fun i hi=>hprev i (by omega)];rfl
theorem HB (one:Bool) (g:FuncId) (fs cs:List AV) (hF:(AV.fn g fs cs).deep=true) (e:Nat→Int) (l:List jS) (full:Bool) (hl:l.length≤maxLen) (hp:∀ i (h:i < l.length),af TT TB one (.fn g fs cs) [av i,.ag (fL l[i])] (av (e i))) :
  Pu one 98 [.sl (l.map fL) full,.fn g fs cs] (.tp [av (bx l.length e).1,av (bx l.length e).2]):=by
 unfold maxLen at hl;refine af.body (fn:=Tryz.f98) rfl rfl rfl rfl ?_;refine qq1 ?_
 skip
 refine aE.aS (ai.to (l:=[(1,.fn g fs cs),(9,.sl (l.map fL) full),(10,av l.length),(11,av ((0:Nat):Int))]) 0 rfl ⟨rfl,rfl,aJ (by simp),rfl,trivial⟩ (qq6 _) (by simp [fK,gK,cQ 0 _ hF]) rfl) ?_;refine aE.loop (fun k:Nat=>k≤l.length∧∀ i,i < k→e i=0) (fun k=>⟨bA [(1,.fn g fs cs),(9,.sl (l.map fL) full),(10,av l.length),(11,av (k:Int))],[],cz.none,false,0⟩) (fun k=>l.length - k) ?_ 0 ⟨qq5 _,fun i hi=>absurd hi (by omega)⟩;intro k ⟨hk,hprev⟩;refine qq1 ?_;refine ⟨fun h=>?_,fun h=>?_⟩
 ·have hlt:k < l.length:=by simpa using h
  skip
  refine ⟨fL l[k],⟨by omega,by simp [hlt]⟩,rfl,?_⟩;repeat' first|refine u2 ?_|fail
  refine af.call (hp k hlt) hF rfl ?_
  skip
  refine ⟨fun h2=>?_,fun h2=>?_⟩
  ·skip
   refine ⟨[_,_],⟨Fz.deep rfl,Fz.deep rfl,trivial⟩,?_⟩;rw [eO hlt hprev (by simpa using h2)];rfl
  ·repeat' first|refine u2 ?_|fail
   refine ⟨k+1,⟨hlt,fun i hik=>?_⟩,(by dsimp only;omega),ai.to 0 rfl ⟨rfl,rfl,rfl,aJ (by simp),trivial⟩ (qq6 _) (by simp [fK,gK,cQ 0 _ hF]) rfl⟩;by_cases hik':i=k
   ·subst hik';simpa using h2
   ·exact hprev i (by omega)
 ·skip
  refine ⟨[_,_],⟨Fz.deep rfl,Fz.deep rfl,trivial⟩,?_⟩;have:k=l.length:=by simp at h;omega
  rw [cu fun i hi=>hprev i (by omega)];rfl
theorem ET (one:Bool) (g:FuncId) (fs cs:List AV) (hF:(AV.fn g fs cs).deep=true) (e:Nat→Int) (l:List Count) (full:Bool) (hl:l.length≤maxLen) (hp:∀ i (h:i < l.length),af TT TB one (.fn g fs cs) [av i,.ag (aP l[i])] (av (e i))) :
  Pu one 112 [.sl (l.map aP) full,.fn g fs cs] (.tp [av (bx l.length e).1,av (bx l.length e).2]):=by
 unfold maxLen at hl;refine af.body (fn:=Tryz.f112) rfl rfl rfl rfl ?_;refine qq1 ?_
 skip
 refine aE.aS (ai.to (l:=[(1,.fn g fs cs),(9,.sl (l.map aP) full),(10,av l.length),(11,av ((0:Nat):Int))]) 0 rfl ⟨rfl,rfl,aJ (by simp),rfl,trivial⟩ (qq6 _) (by simp [fK,gK,cQ 0 _ hF]) rfl) ?_;refine aE.loop (fun k:Nat=>k≤l.length∧∀ i,i < k→e i=0) (fun k=>⟨bA [(1,.fn g fs cs),(9,.sl (l.map aP) full),(10,av l.length),(11,av (k:Int))],[],cz.none,false,0⟩) (fun k=>l.length - k) ?_ 0 ⟨qq5 _,fun i hi=>absurd hi (by omega)⟩;intro k ⟨hk,hprev⟩;refine qq1 ?_;refine ⟨fun h=>?_,fun h=>?_⟩
 ·have hlt:k < l.length:=by simpa using h
  skip
  refine ⟨aP l[k],⟨by omega,by simp [hlt]⟩,rfl,?_⟩;repeat' first|refine u2 ?_|fail
  refine af.call (hp k hlt) hF rfl ?_
  skip
  refine ⟨fun h2=>?_,fun h2=>?_⟩
  ·skip
   refine ⟨[_,_],⟨Fz.deep rfl,Fz.deep rfl,trivial⟩,?_⟩;rw [eO hlt hprev (by simpa using h2)];rfl
  ·repeat' first|refine u2 ?_|fail
   refine ⟨k+1,⟨hlt,fun i hik=>?_⟩,(by dsimp only;omega),ai.to 0 rfl ⟨rfl,rfl,rfl,aJ (by simp),trivial⟩ (qq6 _) (by simp [fK,gK,cQ 0 _ hF]) rfl⟩;by_cases hik':i=k
   ·subst hik';simpa using h2
   ·exact hprev i (by omega)
 ·skip
  refine ⟨[_,_],⟨Fz.deep rfl,Fz.deep rfl,trivial⟩,?_⟩;have:k=l.length:=by simp at h;omega
  rw [cu fun i hi=>hprev i (by omega)];rfl
theorem JU (s:aI) (i:Nat) (k:Kind) (hi:i≤s.kinds.length) (hk:k.name.data.toList.length≤maxLen) (hs:s.kinds.length≤maxLen) (one:Bool):af TT TB one (.fn 96 [] [.pt (aN s) 0]) [av i,.ag (cA k)] (av (fY k ((s.kinds.take i).map (·.name)))):=by
 unfold maxLen at hs;refine af.body (fn:=Tryz.f96) rfl rfl rfl rfl ?_;refine qq1 ?_;repeat' first|refine u2 ?_|fail
 refine ⟨0,i,rfl,rfl,⟨by omega,by simpa using hi⟩,by decide,by simp,?_⟩;repeat' first|(refine FM rfl rfl ?_)|fail
 refine ⟨_,Ql true k (s.kinds.take i) _ _ (by simp) hk (by simp;unfold maxLen;omega),?_⟩;repeat' first|refine u2 ?_|fail
 exact ⟨[_],⟨Fz.deep rfl,trivial⟩,rfl⟩
def gS (s:aI) (c:jS):Int :=
 if bS 0 ((s.kinds.length:Int) - 1) [c.kind] then 4
 else if bS 0 ((s.ax.length:Int) - 1) [c.day] || bS 0 300 [c.cC] then 7
 else 0
theorem JV (s:aI) (i:Int) (c:jS) (hk:s.kinds.length≤maxLen) (hm:s.ax.length≤maxLen) (one:Bool):af TT TB one (.fn 99 [] [.pt (aN s) 0]) [av i,.ag (fL c)] (av (gS s c)):=by
 unfold maxLen at hk hm;unfold gS;have e1:((s.kinds.map cA).length:Int)=s.kinds.length:=by simp
 have e2:((s.ax.map eI).length:Int)=s.ax.length:=by simp
 refine af.body (fn:=Tryz.f99) rfl rfl rfl rfl ?_;refine qq1 ?_;repeat' first|(refine ⟨_,rfl,?_⟩)|(refine bD (by assumption) ?_)|(refine bD rfl ?_)|(refine bV (by assumption) ?_)|(refine ⟨_,_,rfl,by decide,?_⟩)|(refine ⟨rfl,rfl,rfl,?_⟩)|(refine ⟨rfl,rfl,?_⟩)|(refine And.intro (by omega) ?_)|(refine af.call (iy one _ _ _ _ rfl (Nat.le_of_ble_eq_true rfl)) rfl rfl ?_)|(refine ⟨fun h=>?_,fun h=>?_⟩)|fail
 all_goals refine ⟨[_],⟨Fz.deep rfl,trivial⟩,aJ ?_⟩
 all_goals simp_all [sP,Bl]
def gv (s:aI):Int × Int × Int :=
 if bS 1 30 [(s.ax.length:Int)] || bS 1 4 [(s.kinds.length:Int)] || decide (8 < (s.au.length:Int)) then (1,0,3)
 else
  let i:=l5 (fun n=>bS 0 12 [n]) s.ax
  if 0≤i then (1,i,7)
  else
   let a:=bx s.kinds.length fun i=>match s.kinds[i]? with|some k=>fY k ((s.kinds.take i).map (·.name))|none=>0
   if a.2 ≠ 0 then (2,a.1,a.2)
   else
    let b:=bx s.au.length fun i=>match s.au[i]? with|some c=>gS s c|none=>0
    if b.2 ≠ 0 then (3,b.1,b.2) else (0,0,0)
theorem U1 {a b c a' b' c':Int} (h1:a=a') (h2:b=b') (h3:c=c'):AV.tp [av a,av b,av c]=AV.tp [av a',av b',av c']:=by rw [h1,h2,h3]
theorem A3 (s:aI) (h:s.Ok) (one:Bool):Pu one 59 [.ag (aN s)] (.tp [av (gv s).1,av (gv s).2.1,av (gv s).2.2]):=by
 have hm:=h.ax;have hk:=h.kinds;have hc:=h.au;have c1:=jw one 94 [] [] rfl (fun n=>bS 0 12 [n]) s.ax false hm (fun n _=>w8 one n)
 have c2:=HA one 96 [] [.pt (aN s) 0] rfl (fun i=>match s.kinds[i]? with|some k=>fY k ((s.kinds.take i).map (·.name))|none=>0) s.kinds false hk (fun i hi=>by
  simp only [List.getElem?_eq_getElem hi]
  exact JU s i _ (by omega) (h.names _ (List.getElem_mem hi)) hk one)
 have c3:=HB one 99 [] [.pt (aN s) 0] rfl (fun i=>match s.au[i]? with|some c=>gS s c|none=>0) s.au false hc (fun i hi=>by
  simp only [List.getElem?_eq_getElem hi]
  exact JV s i _ hk hm one)
 unfold gv;generalize l5 (fun n=>bS 0 12 [n]) s.ax=i at c1 ⊢;generalize (bx s.kinds.length fun i=>match s.kinds[i]? with|some k=>fY k ((s.kinds.take i).map (·.name))|none=>0)=a at c2 ⊢;generalize (bx s.au.length fun i=>match s.au[i]? with|some c=>gS s c|none=>0)=b at c3 ⊢;unfold maxLen at hm hk hc;refine af.body (fn:=Tryz.f59) rfl rfl rfl rfl ?_;refine qq1 ?_;repeat' first|(refine ⟨_,rfl,?_⟩)|(refine bD (by assumption) ?_)|(refine bD rfl ?_)|(refine bV rfl ?_)|(refine bV (by assumption) ?_)|(refine ⟨_,_,rfl,by decide,?_⟩)|(refine ⟨rfl,rfl,rfl,?_⟩)|(refine ⟨rfl,rfl,?_⟩)|(refine af.call (iy one _ _ _ _ rfl (Nat.le_of_ble_eq_true rfl)) rfl rfl ?_)|(refine af.call c1 rfl rfl ?_)|(refine af.call c2 rfl rfl ?_)|(refine af.call c3 rfl rfl ?_)|(refine ⟨fun h=>?_,fun h=>?_⟩)|fail
 all_goals refine ⟨[_,_,_],⟨Fz.deep rfl,Fz.deep rfl,Fz.deep rfl,trivial⟩,?_⟩
 all_goals refine U1 ?_ ?_ ?_
 all_goals simp_all [sP,Bl]
 all_goals (repeat' split) <;> first|rfl|omega|(simp_all <;> omega)
theorem Bm (one:Bool) (n lo hi:Int):Pu one 17 [av n,av lo,av hi] (BB (iC n lo hi)):=by
 refine af.body (fn:=Tryz.f17) rfl rfl rfl rfl ?_;refine qq1 ?_;repeat' first|(refine bD (by assumption) ?_)|(refine bV (by assumption) ?_)|(refine ⟨fun h=>?_,fun h=>?_⟩)|fail
 all_goals refine ⟨[_],⟨Fz.deep rfl,trivial⟩,Er ?_⟩
 all_goals simp_all [iC]
 all_goals omega
theorem HC (lo hi n:Int) (l:List Int):bS lo hi (n :: l)=(!iC n lo hi || bS lo hi l):=by rw [←aX];simp [bS]
theorem JW (lo hi:Int):bS lo hi []=false:=rfl
theorem EU : ∀ o1 b1 o2 b2 o3 b3 r t : Bool,
    (if (o1 || r) || o2 || o3 || t then (7 : Int) else if b1 || b2 || b3 then 2 else 0) =
    (let a : Int := if o1 then 7 else if b1 then 2 else 0
     let b : Int := if o2 then 7 else if b2 then 2 else 0
     let c : Int := if o3 then 7 else if b3 then 2 else 0
     if a = 7 ∨ b = 7 ∨ c = 7 ∨ r = true ∨ t = true then 7 else if a ≠ 0 ∨ b ≠ 0 ∨ c ≠ 0 then 2 else 0) := by decide
theorem EV (k:Kind) (names:List ByteArray):fY k names=if gR k.name names ≠ 0 then gR k.name names else
  if fq 0 300 k.first=7∨fq 0 6 k.bp=7∨fq 0 12 k.aD=7∨(!iC k.room 0 300)=true∨(!iC k.dh 0 1000)=true then 7
  else if fq 0 300 k.first ≠ 0∨fq 0 6 k.bp ≠ 0∨fq 0 12 k.aD ≠ 0 then 2 else 0:=by
 have h:=EU (!iC k.first.lo 0 300 || !iC k.first.hi 0 300) (decide (k.first.hi < k.first.lo)) (!iC k.bp.lo 0 6 || !iC k.bp.hi 0 6) (decide (k.bp.hi < k.bp.lo)) (!iC k.aD.lo 0 12 || !iC k.aD.hi 0 12) (decide (k.aD.hi < k.aD.lo)) (!iC k.room 0 300) (!iC k.dh 0 1000);simp only [decide_eq_true_eq] at h;unfold fq;rw [←h];unfold fY gR;simp only [HC,JW,Bool.or_false,Bool.or_assoc];by_cases h1:i6 k.name=false
 ·simp [h1]
 ·by_cases h2:(names.any fun x=>vl x k.name)=true
  ·simp [h1,h2]
  ·simp only [h1,h2];simp
theorem F7 (one:Bool) (k:Kind) (names:List ByteArray) (full:Bool) (hk:k.name.data.toList.length≤maxLen) (ho:names.length≤maxLen):Pu one 18 [.ag (cA k),.sl (names.map eS) full] (av (fY k names)):=by
 rw [EV];have c1:=FT one names full k.name hk ho;have c2:=Bj one k.first 0 300
 have c3:=Bj one k.bp 0 6;have c4:=Bj one k.aD 0 12;generalize gR k.name names=e at c1 ⊢;generalize fq 0 300 k.first=a at c2 ⊢
 generalize fq 0 6 k.bp=b at c3 ⊢;generalize fq 0 12 k.aD=c at c4 ⊢;refine af.body (fn:=Tryz.f18) rfl rfl rfl rfl ?_;refine qq1 ?_;repeat' first |with_reducible (first|refine bQ ?_|refine bk ?_|refine bg ?_|refine aZ ?_)|(refine ⟨_,rfl,?_⟩)|(refine bD (by assumption) ?_)|(refine bD rfl ?_)|(refine bV rfl ?_)|(refine bV (by assumption) ?_)|(refine ⟨_,_,rfl,by decide,?_⟩)|(refine ⟨rfl,rfl,rfl,?_⟩)|(refine And.intro (Nat.le_of_ble_eq_true rfl) ?_)|(refine af.call (Bm one _ _ _) rfl rfl ?_)|(refine af.call c1 rfl rfl ?_)|(refine af.call c2 rfl rfl ?_)|(refine af.call c3 rfl rfl ?_)|(refine af.call c4 rfl rfl ?_)|(refine ⟨fun h=>?_,fun h=>?_⟩)|fail
 all_goals refine ⟨[_],⟨Fz.deep rfl,trivial⟩,aJ ?_⟩
 all_goals simp_all
end Go.Proofs.YtkappgolfkiaeaaGreatDoor.St
