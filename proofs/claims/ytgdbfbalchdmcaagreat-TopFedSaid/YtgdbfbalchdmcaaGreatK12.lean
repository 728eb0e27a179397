/-
  Contracts of the program's functions and of the document's. Lemmas alone; their conditions stand in them.
-/
import Derived.Test.YtgdbfbalchdmcaaGreatA2
import Derived.Test.YtgdbfbalchdmcaaGreatA3
import Derived.Test.YtgdbfbalchdmcaaGreatK11
open Go Go.RM
namespace Go.Proofs.YtgdbfbalchdmcaaGreat.St
abbrev JK:Sh:=.cons .str (.cons B1 (.cons B1 (.cons B1 (.cons AE (.cons AE .nil)))))
abbrev Gk:Sh:=.cons AE (.cons AE (.cons AE .nil))
abbrev DQ:Sh:=.cons (.slice AE) (.cons (.slice JK) (.cons (.slice Gk) .nil))
theorem M6 {l:List AV} (h:TV JK l):∃ k:Kind,k.name.data.toList.length≤maxLen∧l=bD k:=by
 obtain ⟨_,_,h1,k1,rfl⟩:=qC h
 obtain ⟨_,_,h2,k2,rfl⟩:=qC k1
 obtain ⟨_,_,h3,k3,rfl⟩:=qC k2
 obtain ⟨_,_,h4,k4,rfl⟩:=qC k3
 obtain ⟨_,_,h5,k5,rfl⟩:=qC k4
 obtain ⟨_,_,h6,k6,rfl⟩:=qC k5
 obtain ⟨a,ha,rfl⟩:=O0 h1
 obtain ⟨b,rfl⟩:=Fo h2
 obtain ⟨c,rfl⟩:=Fo h3
 obtain ⟨d,rfl⟩:=Fo h4
 obtain ⟨e,_,rfl⟩:=BZ h5
 obtain ⟨f,_,rfl⟩:=BZ h6
 obtain rfl:=Kl k6
 exact ⟨⟨a,b,c,d,e,f⟩,by simpa using ha,rfl⟩
theorem Lu {l:List AV} (h:TV Gk l):∃ c:lE,l=cr c:=by
 obtain ⟨_,_,h1,k1,rfl⟩:=qC h
 obtain ⟨_,_,h2,k2,rfl⟩:=qC k1
 obtain ⟨_,_,h3,k3,rfl⟩:=qC k2
 obtain ⟨a,_,rfl⟩:=BZ h1
 obtain ⟨b,_,rfl⟩:=BZ h2
 obtain ⟨c,_,rfl⟩:=BZ h3
 obtain rfl:=Kl k3
 exact ⟨⟨a,b,c⟩,rfl⟩
structure aC.Ok (s:aC):Prop where
 ah:s.ah.length≤maxLen
 kinds:s.kinds.length≤maxLen
 ai:s.ai.length≤maxLen
 names:∀ k ∈ s.kinds,k.name.data.toList.length≤maxLen
theorem JL {l:List AV} (h:TV DQ l):∃ s:aC,s.Ok∧l=aF s:=by
 obtain ⟨_,_,h1,k1,rfl⟩:=qC h
 obtain ⟨_,_,h2,k2,rfl⟩:=qC k1
 obtain ⟨_,_,h3,k3,rfl⟩:=qC k2
 obtain rfl:=Kl k3
 obtain ⟨a,ha,ha',rfl⟩:=M0 h1
 obtain ⟨b,hb,hb',rfl⟩:=M0 h2
 obtain ⟨c,hc,hc',rfl⟩:=M0 h3
 obtain ⟨a,_,rfl⟩:=vV (e:=eI) (P:=fun _=>True) fun el hel=>by obtain ⟨n,_,h⟩:=BZ (ha' el hel);exact ⟨n,trivial,h⟩
 obtain ⟨b,hn,rfl⟩:=vV (e:=bD) fun el hel=>M6 (hb' el hel)
 obtain ⟨c,_,rfl⟩:=vV (e:=cr) (P:=fun _=>True) fun el hel=>by obtain ⟨n,h⟩:=Lu (hc' el hel);exact ⟨n,trivial,h⟩
 exact ⟨⟨a,b,c⟩,⟨by simpa using ha,by simpa using hb,by simpa using hc,hn⟩,rfl⟩
end Go.Proofs.YtgdbfbalchdmcaaGreat.St
open Go Go.RM
namespace Go.Proofs.YtgdbfbalchdmcaaGreat.St
set_option maxRecDepth 100000
def gI (k:Kind) (names:List ByteArray):Int :=
 if jq k.name=false then 6
 else if names.any (fun x=>tR x k.name) then 5
 else if bH 0 300 [k.first.lo,k.first.hi,k.room] || bH 0 6 [k.aR.lo,k.aR.hi] || bH 0 12 [k.ay.lo,k.ay.hi] || bH 0 1000 [k.dK] then 7
 else if decide (k.first.hi < k.first.lo) || decide (k.aR.hi < k.aR.lo) || decide (k.ay.hi < k.ay.lo) then 2
 else 0
theorem uc {v:Value}:(AV.fl v).cells=[AV.fl v]:=rfl
theorem B2 {n:Int}:I3 [AV.fl (.int .i64 n)]=n:=rfl
theorem JM (one:Bool) (n:Int):Pu one 94 [ak n] (BB (bH 0 12 [n])):=by
 refine af.body (fn:=Tryz.f94) rfl rfl rfl rfl ?_
 refine aa (mu:=fun _=>false) ?_
 repeat' (first |refine u2 ?_ |refine af.call (jo one _ _ _ _ rfl (Nat.le_of_ble_eq_true rfl)) rfl rfl ?_ |fail)
 exact ⟨[_],⟨Fz.deep rfl,trivial⟩,rfl⟩
theorem Lv (one:Bool) (k x:Kind):af TT TB one (.fn 137 [] [.pt (bD k) 0]) [.ag (bD x)] (BB (tR x.name k.name)):=by
 refine af.body (fn:=Tryz.f137) rfl rfl rfl rfl ?_
 refine aa (mu:=fun _=>false) ?_
 repeat' (first |refine u2 ?_ |fail)
 exact ⟨[_],⟨Fz.deep rfl,trivial⟩,rfl⟩
theorem M7 (one:Bool) (k:Kind) (others:List Kind) (els:List (List AV)) (full:Bool) (he:els=others.map bD) (hk:k.name.data.toList.length≤maxLen) (ho:others.length≤maxLen):Pu one 97 [.ag (bD k),.sl els full] (ak (gI k (others.map (·.name)))):=by
 subst he
 have hany:(others.map (·.name)).any (fun x=>tR x k.name)=others.any (fun x=>tR x.name k.name):=by simp [List.any_map,Function.comp_def]
 have hc:=va one 137 [] [.pt (bD k) 0] rfl (fun x=>tR x.name k.name) others full ho (fun x _=>Lv one k x)
 unfold gI
 rw [hany]
 generalize others.any (fun x=>tR x.name k.name)=b at hc
 refine af.body (fn:=Tryz.f97) rfl rfl rfl rfl ?_
 refine aa (mu:=fun _=>false) ?_
 repeat' (first |(refine ⟨_,rfl,?_⟩) |(refine bJ (by assumption) ?_) |(refine bJ rfl ?_) |(refine cu rfl ?_) |(refine cu (by assumption) ?_) |(refine ⟨_,_,rfl,by decide,?_⟩) |(refine ⟨rfl,rfl,rfl,?_⟩) |(refine ⟨rfl,rfl,?_⟩) |(refine af.call (jo one _ _ _ _ rfl (Nat.le_of_ble_eq_true rfl)) rfl rfl ?_) |(refine af.call (E6 one _ hk) rfl rfl ?_) |(refine af.call hc rfl rfl ?_) |(refine ⟨fun h=>?_,fun h=>?_⟩) |fail)
 all_goals refine ⟨[_],⟨Fz.deep rfl,trivial⟩,aJ ?_⟩
 all_goals simp_all [uc,B2]
theorem HA (one:Bool) (g:FuncId) (fs cs:List AV) (hF:(AV.fn g fs cs).deep=true) (e:Nat→Int) (l:List Kind) (full:Bool) (hl:l.length≤maxLen) (hp:∀ i (h:i < l.length),af TT TB one (.fn g fs cs) [ak i,.ag (bD l[i])] (ak (e i))) :
  Pu one 95 [.sl (l.map bD) full,.fn g fs cs] (.tp [ak (bq l.length e).1,ak (bq l.length e).2]):=by
 unfold maxLen at hl
 refine af.body (fn:=Tryz.f95) rfl rfl rfl rfl ?_
 refine aa (mu:=fun _=>false) ?_
 skip
 refine aG.aU (aj.to (l:=[(1,.fn g fs cs),(9,.sl (l.map bD) full),(10,ak l.length),(11,ak ((0:Nat):Int))]) 0 rfl ⟨rfl,rfl,aJ (by simp),rfl,trivial⟩ (Nat.le_refl _) (by simp [fq,gB,cK 0 _ hF]) rfl) ?_
 refine aG.loop (fun k:Nat=>k≤l.length∧∀ i,i < k→e i=0) (fun k=>⟨bT [(1,.fn g fs cs),(9,.sl (l.map bD) full),(10,ak l.length),(11,ak (k:Int))],[],bW.none,false,0⟩) (fun k=>l.length - k) ?_ 0 ⟨Nat.zero_le _,fun i hi=>absurd hi (by omega)⟩
 intro k ⟨hk,hprev⟩
 refine aa (mu:=fun _=>false) ?_
 refine ⟨fun h=>?_,fun h=>?_⟩
 ·have hlt:k < l.length:=by simpa using h
  skip
  refine ⟨bD l[k],⟨by omega,by simp [hlt]⟩,rfl,?_⟩
  repeat' (first |refine u2 ?_ |fail)
  refine af.call (hp k hlt) hF rfl ?_
  skip
  refine ⟨fun h2=>?_,fun h2=>?_⟩
  ·skip
   refine ⟨[_,_],⟨Fz.deep rfl,Fz.deep rfl,trivial⟩,?_⟩
   rw [fj hlt hprev (by simpa using h2)];rfl
  ·repeat' (first |refine u2 ?_ |fail)
   refine ⟨k+1,⟨hlt,fun i hik=>?_⟩,(by dsimp only;omega),aj.to 0 rfl ⟨rfl,rfl,rfl,aJ (by simp),trivial⟩ (Nat.le_refl _) (by simp [fq,gB,cK 0 _ hF]) rfl⟩
   by_cases hik':i=k
   ·subst hik';simpa using h2
   ·exact hprev i (by omega)
 ·skip
  refine ⟨[_,_],⟨Fz.deep rfl,Fz.deep rfl,trivial⟩,?_⟩
  have:k=l.length:=by simp at h;omega
  rw [dS fun i hi=>hprev i (by omega)];rfl
theorem HB (one:Bool) (g:FuncId) (fs cs:List AV) (hF:(AV.fn g fs cs).deep=true) (e:Nat→Int) (l:List lE) (full:Bool) (hl:l.length≤maxLen) (hp:∀ i (h:i < l.length),af TT TB one (.fn g fs cs) [ak i,.ag (cr l[i])] (ak (e i))) :
  Pu one 98 [.sl (l.map cr) full,.fn g fs cs] (.tp [ak (bq l.length e).1,ak (bq l.length e).2]):=by
 unfold maxLen at hl
 refine af.body (fn:=Tryz.f98) rfl rfl rfl rfl ?_
 refine aa (mu:=fun _=>false) ?_
 skip
 refine aG.aU (aj.to (l:=[(1,.fn g fs cs),(9,.sl (l.map cr) full),(10,ak l.length),(11,ak ((0:Nat):Int))]) 0 rfl ⟨rfl,rfl,aJ (by simp),rfl,trivial⟩ (Nat.le_refl _) (by simp [fq,gB,cK 0 _ hF]) rfl) ?_
 refine aG.loop (fun k:Nat=>k≤l.length∧∀ i,i < k→e i=0) (fun k=>⟨bT [(1,.fn g fs cs),(9,.sl (l.map cr) full),(10,ak l.length),(11,ak (k:Int))],[],bW.none,false,0⟩) (fun k=>l.length - k) ?_ 0 ⟨Nat.zero_le _,fun i hi=>absurd hi (by omega)⟩
 intro k ⟨hk,hprev⟩
 refine aa (mu:=fun _=>false) ?_
 refine ⟨fun h=>?_,fun h=>?_⟩
 ·have hlt:k < l.length:=by simpa using h
  skip
  refine ⟨cr l[k],⟨by omega,by simp [hlt]⟩,rfl,?_⟩
  repeat' (first |refine u2 ?_ |fail)
  refine af.call (hp k hlt) hF rfl ?_
  skip
  refine ⟨fun h2=>?_,fun h2=>?_⟩
  ·skip
   refine ⟨[_,_],⟨Fz.deep rfl,Fz.deep rfl,trivial⟩,?_⟩
   rw [fj hlt hprev (by simpa using h2)];rfl
  ·repeat' (first |refine u2 ?_ |fail)
   refine ⟨k+1,⟨hlt,fun i hik=>?_⟩,(by dsimp only;omega),aj.to 0 rfl ⟨rfl,rfl,rfl,aJ (by simp),trivial⟩ (Nat.le_refl _) (by simp [fq,gB,cK 0 _ hF]) rfl⟩
   by_cases hik':i=k
   ·subst hik';simpa using h2
   ·exact hprev i (by omega)
 ·skip
  refine ⟨[_,_],⟨Fz.deep rfl,Fz.deep rfl,trivial⟩,?_⟩
  have:k=l.length:=by simp at h;omega
  rw [dS fun i hi=>hprev i (by omega)];rfl
theorem Fp (one:Bool) (g:FuncId) (fs cs:List AV) (hF:(AV.fn g fs cs).deep=true) (e:Nat→Int) (l:List Count) (full:Bool) (hl:l.length≤maxLen) (hp:∀ i (h:i < l.length),af TT TB one (.fn g fs cs) [ak i,.ag (aM l[i])] (ak (e i))) :
  Pu one 112 [.sl (l.map aM) full,.fn g fs cs] (.tp [ak (bq l.length e).1,ak (bq l.length e).2]):=by
 unfold maxLen at hl
 refine af.body (fn:=Tryz.f112) rfl rfl rfl rfl ?_
 refine aa (mu:=fun _=>false) ?_
 skip
 refine aG.aU (aj.to (l:=[(1,.fn g fs cs),(9,.sl (l.map aM) full),(10,ak l.length),(11,ak ((0:Nat):Int))]) 0 rfl ⟨rfl,rfl,aJ (by simp),rfl,trivial⟩ (Nat.le_refl _) (by simp [fq,gB,cK 0 _ hF]) rfl) ?_
 refine aG.loop (fun k:Nat=>k≤l.length∧∀ i,i < k→e i=0) (fun k=>⟨bT [(1,.fn g fs cs),(9,.sl (l.map aM) full),(10,ak l.length),(11,ak (k:Int))],[],bW.none,false,0⟩) (fun k=>l.length - k) ?_ 0 ⟨Nat.zero_le _,fun i hi=>absurd hi (by omega)⟩
 intro k ⟨hk,hprev⟩
 refine aa (mu:=fun _=>false) ?_
 refine ⟨fun h=>?_,fun h=>?_⟩
 ·have hlt:k < l.length:=by simpa using h
  skip
  refine ⟨aM l[k],⟨by omega,by simp [hlt]⟩,rfl,?_⟩
  repeat' (first |refine u2 ?_ |fail)
  refine af.call (hp k hlt) hF rfl ?_
  skip
  refine ⟨fun h2=>?_,fun h2=>?_⟩
  ·skip
   refine ⟨[_,_],⟨Fz.deep rfl,Fz.deep rfl,trivial⟩,?_⟩
   rw [fj hlt hprev (by simpa using h2)];rfl
  ·repeat' (first |refine u2 ?_ |fail)
   refine ⟨k+1,⟨hlt,fun i hik=>?_⟩,(by dsimp only;omega),aj.to 0 rfl ⟨rfl,rfl,rfl,aJ (by simp),trivial⟩ (Nat.le_refl _) (by simp [fq,gB,cK 0 _ hF]) rfl⟩
   by_cases hik':i=k
   ·subst hik';simpa using h2
   ·exact hprev i (by omega)
 ·skip
  refine ⟨[_,_],⟨Fz.deep rfl,Fz.deep rfl,trivial⟩,?_⟩
  have:k=l.length:=by simp at h;omega
  rw [dS fun i hi=>hprev i (by omega)];rfl
theorem JN (s:aC) (i:Nat) (k:Kind) (hi:i≤s.kinds.length) (hk:k.name.data.toList.length≤maxLen) (hs:s.kinds.length≤maxLen) (one:Bool):af TT TB one (.fn 96 [] [.pt (aF s) 0]) [ak i,.ag (bD k)] (ak (gI k ((s.kinds.take i).map (·.name)))):=by
 unfold maxLen at hs
 refine af.body (fn:=Tryz.f96) rfl rfl rfl rfl ?_
 refine aa (mu:=fun _=>false) ?_
 repeat' (first |refine u2 ?_ |fail)
 refine ⟨0,i,rfl,rfl,⟨by omega,by simpa using hi⟩,by decide,by simp,?_⟩
 repeat' (first |(refine F0 rfl rfl ?_) |fail)
 refine ⟨_,M7 true k (s.kinds.take i) _ _ (by simp) hk (by simp;unfold maxLen;omega),?_⟩
 repeat' (first |refine u2 ?_ |fail)
 exact ⟨[_],⟨Fz.deep rfl,trivial⟩,rfl⟩
def ia (s:aC) (c:lE):Int :=
 if bH 0 ((s.kinds.length:Int) - 1) [c.kind] then 4
 else if bH 0 ((s.ah.length:Int) - 1) [c.day] || bH 0 300 [c.cE] then 7
 else 0
theorem JO (s:aC) (i:Int) (c:lE) (hk:s.kinds.length≤maxLen) (hm:s.ah.length≤maxLen) (one:Bool):af TT TB one (.fn 99 [] [.pt (aF s) 0]) [ak i,.ag (cr c)] (ak (ia s c)):=by
 unfold maxLen at hk hm
 unfold ia
 have e1:((s.kinds.map bD).length:Int)=s.kinds.length:=by simp
 have e2:((s.ah.map eI).length:Int)=s.ah.length:=by simp
 refine af.body (fn:=Tryz.f99) rfl rfl rfl rfl ?_
 refine aa (mu:=fun _=>false) ?_
 repeat' (first |(refine ⟨_,rfl,?_⟩) |(refine bJ (by assumption) ?_) |(refine bJ rfl ?_) |(refine cu (by assumption) ?_) |(refine ⟨_,_,rfl,by decide,?_⟩) |(refine ⟨rfl,rfl,rfl,?_⟩) |(refine ⟨rfl,rfl,?_⟩) |(refine And.intro (by omega) ?_) |(refine af.call (jo one _ _ _ _ rfl (Nat.le_of_ble_eq_true rfl)) rfl rfl ?_) |(refine ⟨fun h=>?_,fun h=>?_⟩) |fail)
 all_goals refine ⟨[_],⟨Fz.deep rfl,trivial⟩,aJ ?_⟩
 all_goals simp_all [uc,B2]
def iD (s:aC):Int × Int × Int :=
 if bH 1 30 [(s.ah.length:Int)] || bH 1 4 [(s.kinds.length:Int)] || decide (8 < (s.ai.length:Int)) then (1,0,3)
 else
  let i:=qw (fun n=>bH 0 12 [n]) s.ah
  if 0≤i then (1,i,7)
  else
   let a:=bq s.kinds.length fun i=>match s.kinds[i]? with|some k=>gI k ((s.kinds.take i).map (·.name))|none=>0
   if a.2 ≠ 0 then (2,a.1,a.2)
   else
    let b:=bq s.ai.length fun i=>match s.ai[i]? with|some c=>ia s c|none=>0
    if b.2 ≠ 0 then (3,b.1,b.2) else (0,0,0)
theorem PU {a b c a' b' c':Int} (h1:a=a') (h2:b=b') (h3:c=c'):AV.tp [ak a,ak b,ak c]=AV.tp [ak a',ak b',ak c']:=by rw [h1,h2,h3]
theorem BP (s:aC) (h:s.Ok) (one:Bool):Pu one 53 [.ag (aF s)] (.tp [ak (iD s).1,ak (iD s).2.1,ak (iD s).2.2]):=by
 have hm:=h.ah
 have hk:=h.kinds
 have hc:=h.ai
 have c1:=rX one 94 [] [] rfl (fun n=>bH 0 12 [n]) s.ah false hm (fun n _=>JM one n)
 have c2:=HA one 96 [] [.pt (aF s) 0] rfl (fun i=>match s.kinds[i]? with|some k=>gI k ((s.kinds.take i).map (·.name))|none=>0) s.kinds false hk (fun i hi=>by
  simp only [List.getElem?_eq_getElem hi]
  exact JN s i _ (by omega) (h.names _ (List.getElem_mem hi)) hk one)
 have c3:=HB one 99 [] [.pt (aF s) 0] rfl (fun i=>match s.ai[i]? with|some c=>ia s c|none=>0) s.ai false hc (fun i hi=>by
  simp only [List.getElem?_eq_getElem hi]
  exact JO s i _ hk hm one)
 unfold iD
 generalize qw (fun n=>bH 0 12 [n]) s.ah=i at c1 ⊢
 generalize (bq s.kinds.length fun i=>match s.kinds[i]? with|some k=>gI k ((s.kinds.take i).map (·.name))|none=>0)=a at c2 ⊢
 generalize (bq s.ai.length fun i=>match s.ai[i]? with|some c=>ia s c|none=>0)=b at c3 ⊢
 unfold maxLen at hm hk hc
 refine af.body (fn:=Tryz.f53) rfl rfl rfl rfl ?_
 refine aa (mu:=fun _=>false) ?_
 repeat' (first |(refine ⟨_,rfl,?_⟩) |(refine bJ (by assumption) ?_) |(refine bJ rfl ?_) |(refine cu rfl ?_) |(refine cu (by assumption) ?_) |(refine ⟨_,_,rfl,by decide,?_⟩) |(refine ⟨rfl,rfl,rfl,?_⟩) |(refine ⟨rfl,rfl,?_⟩) |(refine af.call (jo one _ _ _ _ rfl (Nat.le_of_ble_eq_true rfl)) rfl rfl ?_) |(refine af.call c1 rfl rfl ?_) |(refine af.call c2 rfl rfl ?_) |(refine af.call c3 rfl rfl ?_) |(refine ⟨fun h=>?_,fun h=>?_⟩) |fail)
 all_goals refine ⟨[_,_,_],⟨Fz.deep rfl,Fz.deep rfl,Fz.deep rfl,trivial⟩,?_⟩
 all_goals refine PU ?_ ?_ ?_
 all_goals simp_all [uc,B2]
 all_goals (repeat' split) <;> first|rfl|omega|(simp_all <;> omega)
end Go.Proofs.YtgdbfbalchdmcaaGreat.St
open Go Go.RM
namespace Go.Proofs.YtgdbfbalchdmcaaGreat.St
set_option maxRecDepth 100000
theorem gC (one:Bool) (n lo hi:Int):Pu one 16 [ak n,ak lo,ak hi] (BB (gY n lo hi)):=by
 refine af.body (fn:=Tryz.f16) rfl rfl rfl rfl ?_
 refine aa (mu:=fun _=>false) ?_
 repeat' (first |(refine bJ (by assumption) ?_) |(refine cu (by assumption) ?_) |(refine ⟨fun h=>?_,fun h=>?_⟩) |fail)
 all_goals refine ⟨[_],⟨Fz.deep rfl,trivial⟩,F6 ?_⟩
 all_goals simp_all [gY]
 all_goals omega
end Go.Proofs.YtgdbfbalchdmcaaGreat.St
open Go Go.RM
namespace Go.Proofs.YtgdbfbalchdmcaaGreat.St
set_option maxRecDepth 100000
theorem HC (lo hi n:Int) (l:List Int):bH lo hi (n :: l)=(!gY n lo hi || bH lo hi l):=by
 rw [←bp]
 simp [bH]
theorem JP (lo hi:Int):bH lo hi []=false:=rfl
theorem Fs : ∀ o1 b1 o2 b2 o3 b3 r t : Bool,
    (if (o1 || r) || o2 || o3 || t then (7 : Int) else if b1 || b2 || b3 then 2 else 0) =
    (let a : Int := if o1 then 7 else if b1 then 2 else 0
     let b : Int := if o2 then 7 else if b2 then 2 else 0
     let c : Int := if o3 then 7 else if b3 then 2 else 0
     if a = 7 ∨ b = 7 ∨ c = 7 ∨ r = true ∨ t = true then 7 else if a ≠ 0 ∨ b ≠ 0 ∨ c ≠ 0 then 2 else 0) := by decide
theorem Ft (k:Kind) (names:List ByteArray):gI k names=if gZ k.name names ≠ 0 then gZ k.name names else
  if fP 0 300 k.first=7∨fP 0 6 k.aR=7∨fP 0 12 k.ay=7∨(!gY k.room 0 300)=true∨(!gY k.dK 0 1000)=true then 7
  else if fP 0 300 k.first ≠ 0∨fP 0 6 k.aR ≠ 0∨fP 0 12 k.ay ≠ 0 then 2 else 0:=by
 have h:=Fs (!gY k.first.lo 0 300 || !gY k.first.hi 0 300) (decide (k.first.hi < k.first.lo)) (!gY k.aR.lo 0 6 || !gY k.aR.hi 0 6) (decide (k.aR.hi < k.aR.lo)) (!gY k.ay.lo 0 12 || !gY k.ay.hi 0 12) (decide (k.ay.hi < k.ay.lo)) (!gY k.room 0 300) (!gY k.dK 0 1000)
 simp only [decide_eq_true_eq] at h
 unfold fP
 rw [←h]
 unfold gI gZ
 simp only [HC,JP,Bool.or_false,Bool.or_assoc]
 by_cases h1:jq k.name=false
 ·simp [h1]
 ·by_cases h2:(names.any fun x=>tR x k.name)=true
  ·simp [h1,h2]
  ·simp only [h1,h2]
   simp
theorem Gl (one:Bool) (k:Kind) (names:List ByteArray) (full:Bool) (hk:k.name.data.toList.length≤maxLen) (ho:names.length≤maxLen):Pu one 17 [.ag (bD k),.sl (names.map eS) full] (ak (gI k names)):=by
 rw [Ft]
 have c1:=BO one names full k.name hk ho
 have c2:=B0 one k.first 0 300
 have c3:=B0 one k.aR 0 6
 have c4:=B0 one k.ay 0 12
 generalize gZ k.name names=e at c1 ⊢
 generalize fP 0 300 k.first=a at c2 ⊢
 generalize fP 0 6 k.aR=b at c3 ⊢
 generalize fP 0 12 k.ay=c at c4 ⊢
 refine af.body (fn:=Tryz.f17) rfl rfl rfl rfl ?_
 refine aa (mu:=fun _=>false) ?_
 repeat' (first |with_reducible (first|refine bZ ?_|refine bl ?_|refine bg ?_|refine bf ?_) |(refine ⟨_,rfl,?_⟩) |(refine bJ (by assumption) ?_) |(refine bJ rfl ?_) |(refine cu rfl ?_) |(refine cu (by assumption) ?_) |(refine ⟨_,_,rfl,by decide,?_⟩) |(refine ⟨rfl,rfl,rfl,?_⟩) |(refine And.intro (Nat.le_of_ble_eq_true rfl) ?_) |(refine af.call (gC one _ _ _) rfl rfl ?_) |(refine af.call c1 rfl rfl ?_) |(refine af.call c2 rfl rfl ?_) |(refine af.call c3 rfl rfl ?_) |(refine af.call c4 rfl rfl ?_) |(refine ⟨fun h=>?_,fun h=>?_⟩) |fail)
 all_goals refine ⟨[_],⟨Fz.deep rfl,trivial⟩,aJ ?_⟩
 all_goals simp_all
end Go.Proofs.YtgdbfbalchdmcaaGreat.St
