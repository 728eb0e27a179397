/-
  Contracts of the program's functions and of the document's. Lemmas alone; their conditions stand in them.
-/
import Derived.Test.YtgdbfbalchdmcaaGreatA3
import Derived.Test.YtgdbfbalchdmcaaGreatK6
open Go Go.RM
namespace Go.Proofs.YtgdbfbalchdmcaaGreat
set_option maxRecDepth 100000
set_option maxHeartbeats 4000000
def DD (m:pO):Acc:=⟨if m.EZ=true then 1 else 0,m.i4,0,0,0⟩
def dV (c:aH):List Acc:=c.ah.map DD
theorem yI {c:aH} (hg:Good c):Inv c 0 (dV c):=by
 refine ⟨by unfold dV;simp,fun a ha=>?_,by omega⟩
 obtain ⟨m,hm,rfl⟩:=List.mem_map.1 ha
 have:=(hg.aR m hm).2
 unfold DD
 refine ⟨?_,by dsimp only;omega,by dsimp only;omega,by dsimp only;omega,by dsimp only;omega⟩
 dsimp only
 split
 ·exact .inr (.inl rfl)
 ·exact .inl rfl
theorem Fa {c:aH} {k:Nat} (h:k < c.ah.length):(dV c).take (k+1)=(dV c).take k++[DD c.ah[k]]:=by
 unfold dV
 rw [List.take_add_one,List.getElem?_map,List.getElem?_eq_getElem h]
 rfl
def PM (c:aH) (aA:bW) (a:AV) (hp':List AB) (amb':bW):Prop :=
 amb'=aA∧a=.ptr 0 0 0∧∃ v cc,hp'=[fk c 0 v c.ah.length cc,iC (dV c) v]
theorem NA (c:aH) (d:Int) (v n cc:Nat) (ls:List Acc):([.cells (MK c d v n cc) 0 0,iC ls v]:List AB).all (AB.gM 2)=true:=by
 simp only [List.all_cons,List.all_nil,Bool.and_true,Bool.and_eq_true]
 exact ⟨ee _ _ _ _ _ _ (by decide),cY _ _ _⟩
theorem BV (one:Bool) {c:aH} (hg:Good c) {aA:bW}:au TT TB one (.fn 72 [] []) [.ag (bh c)] [] aA (PM c aA):=by
 have em:((c.ah.map cL).length:Int)=c.ah.length:=by simp
 obtain ⟨n,hn⟩:∃ n:Int,n=c.ah.length:=⟨_,rfl⟩
 have hm5:=hg.ah
 have hol:(dV c).length=c.ah.length:=by unfold dV;simp
 refine au.body (fn:=Tryz.f72) rfl rfl rfl ?_
 refine aa (mu:=fun t=>Nat.beq t 9) ?_
 repeat' (first |refine u1 ?_ |refine u2 ?_ |fail)
 refine aG.aU (aj.trans (aj.to (l:=[(1,.pt (bh c) 0),(3,.ptr 0 0 0),(11,.sl (c.ah.map cL) false),(12,ak n),(13,ak (0:Nat))]) (hp:=[.cells (bh c++[ak 0,.fl (.slice none 0 0)]) 0 0]) 1 rfl ⟨rfl,rfl,rfl,aJ (by rw [hn];exact em),rfl,trivial⟩ (Nat.zero_le _) rfl rfl) (aj.trans (aj.uS 5) (aj.EY 0 (es:=0) (aB:=0) (ds:=MK c 0 0 0 0) (hp:=[.cells (MK c 0 ((0,0,0):Nat × Nat × Nat).2.1 ((0,0,0):Nat × Nat × Nat).1 ((0,0,0):Nat × Nat × Nat).2.2) 0 0,iC ((dV c).take ((0,0,0):Nat × Nat × Nat).1) ((0,0,0):Nat × Nat × Nat).2.1]) rfl (kO.cons (iZ.refl _) (kO.cons (iZ.refl _) (kO.cons (iZ.refl _) (kO.cons (iZ.refl _) (kO.cons iZ.uR kO.nil))))) rfl))) ?_
 refine aG.loop (fun x:Nat × Nat × Nat=>x.1≤c.ah.length∧(x.2.2=x.1∨x.2.2=x.1+1)) (fun x=>⟨bT [(1,.pt (bh c) 0),(3,.ptr 0 0 0),(11,.sl (c.ah.map cL) false),(12,ak n),(13,ak (x.1:Nat))],[.cells (MK c 0 x.2.1 x.1 x.2.2) 0 0,iC ((dV c).take x.1) x.2.1],aA,false,0⟩) (fun x=>c.ah.length - x.1) ?_ (0,0,0) ⟨Nat.zero_le _,.inl rfl⟩
 rintro ⟨k,v,cc⟩ ⟨hk,hcap⟩
 dsimp only at hk hcap
 dsimp only
 by_cases hlt:k < c.ah.length
 ·have d1:decide ((k:Int) < n)=true:=decide_eq_true (by omega)
  have hat:(c.ah.map cL)[((k:Nat):Int).toNat]?=some (cL c.ah[k]):=bP hlt
  have hgl:(bX ((dV c).take k)).length=k * 5:=by rw [l6,List.length_take,hol];congr 1;omega
  have hst:=Fa hlt
  generalize c.ah[k]=m at *
  obtain ⟨nm,rk,ow,as'⟩:=m
  unfold DD at hst
  dsimp only at hst
  cases as' with
  | true =>
   rw [if_pos rfl] at hst
   have hst:bX ((dV c).take (k+1))=bX ((dV c).take k)++[ak 1,ak ow,ak 0,ak 0,ak 0]:=by rw [hst,yA]
   refine aa (mu:=fun t=>Nat.beq t 9) ?_
   repeat' (first |((with_reducible show RM.wpOp _ _ (.call _) _ _ _);refine RM.G9 (cs:=bX ((dV c).take k)) (n:=k) (els:=[[ak 1,ak ow,ak 0,ak 0,ak 0]]) rfl rfl rfl rfl rfl (fun el hel=>by rw [List.mem_singleton.1 hel];rfl) rfl rfl hgl hcap (by simp only [List.length_singleton];omega) (fun v' c' hc'=>?_)) |refine u1 ?_ |(refine ⟨[ST nm,ak rk,ak ow,BB true],⟨by omega,hat⟩,rfl,?_⟩) |refine u2 ?_ |fail)
   exact ⟨(k+1,v',c'),⟨hlt,hc'⟩,(by dsimp only;omega),aj.to (hp:=[.cells (MK c 0 ((k+1,v',c'):Nat × Nat × Nat).2.1 ((k+1,v',c'):Nat × Nat × Nat).1 ((k+1,v',c'):Nat × Nat × Nat).2.2) 0 0,iC ((dV c).take ((k+1,v',c'):Nat × Nat × Nat).1) ((k+1,v',c'):Nat × Nat × Nat).2.1]) 2 (by show _=[_,AB.cells (bX ((dV c).take (k+1))) 5 v'];rw [hst];rfl) ⟨rfl,rfl,rfl,rfl,aJ (by simp),trivial⟩ (Nat.zero_le _) rfl (NA _ _ _ _ _ _)⟩
  | false =>
   rw [if_neg (by simp)] at hst
   have hst:bX ((dV c).take (k+1))=bX ((dV c).take k)++[ak 0,ak ow,ak 0,ak 0,ak 0]:=by rw [hst,yA]
   refine aa (mu:=fun t=>Nat.beq t 9) ?_
   repeat' (first |((with_reducible show RM.wpOp _ _ (.call _) _ _ _);refine RM.G9 (cs:=bX ((dV c).take k)) (n:=k) (els:=[[ak 0,ak ow,ak 0,ak 0,ak 0]]) rfl rfl rfl rfl rfl (fun el hel=>by rw [List.mem_singleton.1 hel];rfl) rfl rfl hgl hcap (by simp only [List.length_singleton];omega) (fun v' c' hc'=>?_)) |refine u1 ?_ |(refine ⟨[ST nm,ak rk,ak ow,BB false],⟨by omega,hat⟩,rfl,?_⟩) |refine u2 ?_ |fail)
   exact ⟨(k+1,v',c'),⟨hlt,hc'⟩,(by dsimp only;omega),aj.to (hp:=[.cells (MK c 0 ((k+1,v',c'):Nat × Nat × Nat).2.1 ((k+1,v',c'):Nat × Nat × Nat).1 ((k+1,v',c'):Nat × Nat × Nat).2.2) 0 0,iC ((dV c).take ((k+1,v',c'):Nat × Nat × Nat).1) ((k+1,v',c'):Nat × Nat × Nat).2.1]) 2 (by show _=[_,AB.cells (bX ((dV c).take (k+1))) 5 v'];rw [hst];rfl) ⟨rfl,rfl,rfl,rfl,aJ (by simp),trivial⟩ (Nat.zero_le _) rfl (NA _ _ _ _ _ _)⟩
 ·have d1:decide ((k:Int) < n)=false:=decide_eq_false (by omega)
  have hkn:k=c.ah.length:=by omega
  have e:(dV c).take k=dV c:=List.take_of_length_le (by omega)
  rw [e]
  refine aa (mu:=fun t=>Nat.beq t 9) ?_
  repeat' (first |refine u1 ?_ |refine u2 ?_ |fail)
  exact ⟨v,cc,by rw [←hkn]⟩
end Go.Proofs.YtgdbfbalchdmcaaGreat
open Go Go.RM
namespace Go.Proofs.YtgdbfbalchdmcaaGreat
set_option maxRecDepth 100000
abbrev later:Int:=9223372036854775807
def Aw (c:aH) (l:List Ev):Int × Int :=
 if (iD c).2.2 ≠ 0 then (0,(iD c).2.2)
 else if 20 < l.length then (0,3)
 else match cz c later 0 0 (dV c) l with
  | .inl p=>((p.1:Int),p.2)
  | .inr _=>(0,0)
theorem Jm {c:aH} {i:Nat} {ls:List Acc} {e:Int} (h:yH c i ls=.inr e):e ≠ 0:=by
 have hm:∀ {i:Nat} {p q:Int} {ls:List Acc} {e:Int},iL i p q ls=.inr e→e ≠ 0:=by
  intro i p q ls e h
  unfold iL at h
  split at h
  ·split at h <;> cases h
   decide
  ·cases h;decide
 unfold yH at h
 split at h
 ·split at h
  ·split at h
   ·split at h <;> cases h
    decide
   ·cases h;decide
  ·cases h;decide
 ·rename_i e' he
  cases h
  exact hm he
theorem tS {i:Nat} {p q:Int} {ls:List Acc} {e:Int} (h:iL i p q ls=.inr e):e ≠ 0:=by
 unfold iL at h
 split at h
 ·split at h <;> cases h
  decide
 ·cases h;decide
theorem MO {c:aH} {x:Ev} {ls:List Acc} {e:Int} (h:K5 c x ls=.inr e):e ≠ 0:=by
 unfold K5 at h
 split at h
 ·exact Jm h
 ·split at h
  ·exact tS h
  ·split at h
   ·unfold At at h
    split at h
    ·split at h <;> cases h
     decide
    ·cases h;decide
   ·split at h
    ·exact tS h
    ·unfold Au at h
     split at h
     ·exact tS h
     ·rename_i e' he
      cases h
      exact tS he
theorem Hr {c:aH} {d:Int} {ls:List Acc} {x:Ev} {e:Int} (h:gF c d ls x=.inr e):e ≠ 0:=by
 unfold gF at h
 split at h
 ·cases h;decide
 ·split at h
  ·cases h;decide
  ·split at h
   ·cases h;decide
   ·exact MO h
theorem sH {c:aH} {D:Int}:∀ {l:List Ev} {i:Nat} {d:Int} {ls:List Acc} {p:Nat × Int},cz c D i d ls l=.inl p→p.2 ≠ 0
 | [],i,d,ls,p,h=>by cases h
 | x :: l,i,d,ls,p,h=>by
  rw [cD] at h
  split at h
  ·cases he:gF c d ls x with
   | inl l2=>rw [he] at h;exact sH h
   | inr e=>rw [he] at h;cases h;exact Hr he
  ·exact sH h
theorem Fb {c:aH} {d:Int} {ls ls':List Acc} {x:Ev} (h:gF c d ls x=.inl ls'):d≤x.day∧x.day≤40000:=by
 unfold gF at h
 split at h
 ·cases h
 ·split at h
  ·cases h
  ·split at h
   ·cases h
   ·rename_i h3
    exact dI (Bool.not_eq_true _ ▸ h3)
theorem jE {c:aH}:∀ {l:List Ev} {i:Nat} {d:Int} {ls:List Acc} {q:Int × List Acc},(∀ x ∈ l,x.day≤later)→cz c later i d ls l=.inr q→∀ x ∈ l,d≤x.day∧x.day≤40000
 | [],i,d,ls,q,_,h,x,hx=>by cases hx
 | y :: l,i,d,ls,q,hm,h,x,hx=>by
  rw [cD,if_pos (hm y (by simp))] at h
  cases he:gF c d ls y with
  | inr e=>rw [he] at h;cases h
  | inl l2 =>
   rw [he] at h
   have hd:=Fb he
   rcases List.mem_cons.1 hx with rfl|hx
   ·exact hd
   ·have:=jE (fun x hx=>hm x (List.mem_cons_of_mem _ hx)) h x hx
    omega
theorem oX {c:aH} {D:Int}:∀ {l:List Ev} {i:Nat} {d:Int} {ls:List Acc},(∀ x ∈ l,D < x.day)→cz c D i d ls l=.inr (d,ls)
 | [],i,d,ls,_=>rfl
 | y :: l,i,d,ls,h=>by
  rw [cD,if_neg (by have:=h y (by simp);omega)]
  exact oX fun x hx=>h x (List.mem_cons_of_mem _ hx)
theorem tT {c:aH} {D:Int}:∀ {l:List Ev} {i:Nat} {d:Int} {ls:List Acc} {q:Int × List Acc},(∀ x ∈ l,x.day≤later)→cz c later i d ls l=.inr q→d≤D→∃ q',cz c D i d ls l=.inr q'∧q'.1≤D
 | [],i,d,ls,q,_,h,hd=>⟨(d,ls),rfl,hd⟩
 | y :: l,i,d,ls,q,hm,h,hd=>by
  have hall:=jE hm h
  by_cases hy:y.day≤D
  ·rw [cD,if_pos (hm y (by simp))] at h
   rw [cD,if_pos hy]
   cases he:gF c d ls y with
   | inr e=>rw [he] at h;cases h
   | inl l2 =>
    rw [he] at h
    exact tT (fun x hx=>hm x (List.mem_cons_of_mem _ hx)) h hy
  ·rw [cD,if_neg hy]
   refine ⟨(d,ls),oX fun x hx=>?_,hd⟩
   rw [cD,if_pos (hm y (by simp))] at h
   cases he:gF c d ls y with
   | inr e=>rw [he] at h;cases h
   | inl l2 =>
    rw [he] at h
    have:=jE (fun x hx=>hm x (List.mem_cons_of_mem _ hx)) h x hx
    omega
def Fc (c:aH) (l:List Ev) (D:Int):List Acc :=
 match cz c D 0 0 (dV c) l with
 | .inr q=>jK c (D - q.1) q.2
 | .inl _=>[]
def Gf (c:aH) (l:List Ev) (D:Int):Int:=if (Aw c l).2 ≠ 0 then (Aw c l).2 else if bH 0 40000 [D]=true then 7 else 0
end Go.Proofs.YtgdbfbalchdmcaaGreat
open Go Go.RM
namespace Go.Proofs.YtgdbfbalchdmcaaGreat
set_option maxRecDepth 100000
set_option maxHeartbeats 4000000
theorem yJ (one:Bool) (c:aH) (h:c.Ok) (l:List Ev) (f:Bool) (hl:l.length≤maxLen):Pu one 33 [.ag (bh c),.sl (l.map dZ) f] (.tp [ak (Aw c l).1,ak (Aw c l).2]):=by
 have el:((l.map dZ).length:Int)=l.length:=by simp
 have ml:l.length≤9223372036854775807:=Nat.le_trans hl (by simp [maxLen])
 have o1:=BP one c h
 unfold Aw
 by_cases c1:(iD c).2.2=0
 ·have hg:=BT c1
  rw [if_neg (by rw [c1];simp)]
  rw [c1] at o1
  have d0:(!decide ((0:Int)=0))=false:=by decide
  generalize (iD c).1=a1 at *
  generalize (iD c).2.1=a2 at *
  by_cases c2:20 < l.length
  ·rw [if_pos c2]
   have d1:decide (20 < ((l.map dZ).length:Int))=true:=decide_eq_true (by omega)
   refine af.body (fn:=Tryz.f33) rfl rfl rfl rfl ?_
   refine aa (mu:=fun _=>false) ?_
   repeat' (first |refine u1 ?_ |((with_reducible show au _ _ _ _ _ _ _ _);refine af.call o1 rfl rfl ?_) |refine u2 ?_ |fail)
   exact ⟨[_,_],⟨Fz.deep rfl,Fz.deep rfl,trivial⟩,rfl⟩
  ·rw [if_neg c2]
   have d1:decide (20 < ((l.map dZ).length:Int))=false:=decide_eq_false (by omega)
   have hol:(dV c).length=c.ah.length:=by unfold dV;simp
   refine af.body (fn:=Tryz.f33) rfl rfl rfl (by rfl) ?_
   refine aa (mu:=fun _=>false) ?_
   repeat' (first |refine u1 ?_ |((with_reducible show au _ _ _ _ _ _ _ _);refine af.call o1 rfl rfl ?_) |refine u2 ?_ |fail)
   refine (BV one hg).mono ?_
   rintro a hp' amb' ⟨rfl,rfl,v,cc,rfl⟩
   repeat' (first |refine u1 ?_ |refine u2 ?_ |fail)
   refine (DC one hg (yI hg) hol l f (by omega) later).mono ?_
   rintro a hp' amb' ⟨rfl,hr⟩
   cases hq:cz c later 0 0 (dV c) l with
   | inl p =>
    rw [hq] at hr
    obtain ⟨rfl,b0,b1,hbb,rfl⟩:=hr
    repeat' (first |refine u1 ?_ |refine u2 ?_ |fail)
    exact ⟨[_,_],⟨Fz.deep rfl,Fz.deep rfl,trivial⟩,rfl⟩
   | inr q =>
    rw [hq] at hr
    obtain ⟨rfl,rfl⟩:=hr
    repeat' (first |refine u1 ?_ |refine u2 ?_ |fail)
    exact ⟨[_,_],⟨Fz.deep rfl,Fz.deep rfl,trivial⟩,rfl⟩
 ·rw [if_pos c1]
  have d1:(!decide ((iD c).2.2=0))=true:=by rw [decide_eq_false c1];rfl
  generalize (iD c).2.2=e at *
  refine af.body (fn:=Tryz.f33) rfl rfl rfl rfl ?_
  refine aa (mu:=fun _=>false) ?_
  repeat' (first |refine u1 ?_ |((with_reducible show au _ _ _ _ _ _ _ _);refine af.call o1 rfl rfl ?_) |refine u2 ?_ |fail)
  exact ⟨[_,_],⟨Fz.deep rfl,Fz.deep rfl,trivial⟩,rfl⟩
end Go.Proofs.YtgdbfbalchdmcaaGreat
open Go Go.RM
namespace Go.Proofs.YtgdbfbalchdmcaaGreat
set_option maxRecDepth 100000
set_option maxHeartbeats 4000000
abbrev Pe (c:aH) (day:Int) (ls:List Acc):List AV:=bh c++[ak day,.sl (ls.map jH) false]
abbrev Pf (c:aH) (l:List Ev) (D:Int):AV:=.pt (Pe c D (Fc c l D)) 0
theorem Jo {c:aH} {l:List Ev} {D:Int} (hm:∀ x ∈ l,x.day≤later) (h:Gf c l D=0):Good c∧l.length≤20∧(0≤D∧D≤40000)∧(∃ q,cz c later 0 0 (dV c) l=.inr q)∧∃ q,cz c D 0 0 (dV c) l=.inr q∧q.1≤D∧Fc c l D=jK c (D - q.1) q.2:=by
 unfold Gf at h
 split at h
 ·rename_i h1;exact absurd h h1
 ·rename_i h1
  split at h
  ·cases h
  ·rename_i h2
   have hD:=dI (Bool.not_eq_true _ ▸ h2)
   have h1:=Decidable.not_not.1 h1
   unfold Aw at h1
   split at h1
   ·rename_i h3;exact absurd h1 h3
   ·rename_i h3
    split at h1
    ·cases h1
    ·rename_i h4
     split at h1
     ·rename_i p hp
      exact absurd h1 (sH hp)
     ·rename_i q hq
      obtain ⟨q',e1,e2⟩:=tT hm hq hD.1
      refine ⟨BT (Decidable.not_not.1 h3),by omega,hD,⟨q,hq⟩,q',e1,e2,?_⟩
      unfold Fc
      rw [e1]
theorem Jp {ls:List Acc} {n cc:Nat} (v:Nat) (h:ls.length=n):Gv 1 v (bX ls) (.dM 1 v 0 n cc) (.sl (ls.map jH) false) :=
 .row 5 (by rw [l6];omega) (by simpa using h) (fun el hel=>by obtain ⟨x,_,rfl⟩:=List.mem_map.1 hel;rfl) (by rw [List.drop_zero,List.take_of_length_le (by rw [l6];omega)];rfl) (fun h=>Bool.noConfusion h)
theorem MP (one:Bool) (c:aH) (h:c.Ok) (l:List Ev) (f:Bool) (hl:l.length≤maxLen) (D:Int) (he:Gf c l D ≠ 0):Pu one 41 [.ag (bh c),.sl (l.map dZ) f,ak D] (.tp [.fl (.pointer none),ak (Gf c l D)]):=by
 have o1:=yJ one c h l f hl
 have o2:=kD one 0 40000 D
 unfold Gf at he ⊢
 generalize (Aw c l).1=a1 at *
 by_cases c1:(Aw c l).2=0
 ·rw [if_neg (by rw [c1];simp)] at he ⊢
  rw [c1] at o1
  have d0:(!decide ((0:Int)=0))=false:=by decide
  cases e2:bH 0 40000 [D] with
  | true =>
   rw [e2] at o2
   rw [if_pos rfl]
   refine af.body (fn:=Tryz.f41) rfl rfl rfl rfl ?_
   refine aa (mu:=fun _=>false) ?_
   repeat' (first |refine u1 ?_ |((with_reducible show au _ _ _ _ _ _ _ _);refine af.call o1 rfl rfl ?_) |((with_reducible show au _ _ _ _ _ _ _ _);refine af.call o2 rfl rfl ?_) |refine u2 ?_ |fail)
   exact ⟨[_,_],⟨Fz.deep rfl,Fz.deep rfl,trivial⟩,rfl⟩
  | false=>rw [e2] at he;exact absurd rfl he
 ·rw [if_pos c1]
  have d1:(!decide ((Aw c l).2=0))=true:=by rw [decide_eq_false c1];rfl
  generalize (Aw c l).2=e at *
  refine af.body (fn:=Tryz.f41) rfl rfl rfl rfl ?_
  refine aa (mu:=fun _=>false) ?_
  repeat' (first |refine u1 ?_ |((with_reducible show au _ _ _ _ _ _ _ _);refine af.call o1 rfl rfl ?_) |((with_reducible show au _ _ _ _ _ _ _ _);refine af.call o2 rfl rfl ?_) |refine u2 ?_ |fail)
  exact ⟨[_,_],⟨Fz.deep rfl,Fz.deep rfl,trivial⟩,rfl⟩
theorem NC (one:Bool) (c:aH) (h:c.Ok) (l:List Ev) (f:Bool) (hl:l.length≤maxLen) (hm:∀ x ∈ l,x.day≤later) (D:Int) (he:Gf c l D=0):Pu one 41 [.ag (bh c),.sl (l.map dZ) f,ak D] (.tp [Pf c l D,ak 0]):=by
 have o1:=yJ one c h l f hl
 have o2:=kD one 0 40000 D
 obtain ⟨hg,h20,hD,⟨qm,hqm⟩,q,hq,hqD,hat⟩:=Jo hm he
 have c1:(Aw c l).2=0:=by
  unfold Gf at he
  split at he
  ·rename_i h1;exact absurd he h1
  ·rename_i h1;exact Decidable.not_not.1 h1
 generalize (Aw c l).1=a1 at *
 rw [c1] at o1
 have d0:(!decide ((0:Int)=0))=false:=by decide
 have e2:bH 0 40000 [D]=false:=by rw [bp,bQ.2 hD];rfl
 rw [e2] at o2
 have hol:(dV c).length=c.ah.length:=by unfold dV;simp
 have hiq:=(qz hg (yI hg) hq).1
 have hit:=Dy hg hiq hqD hD.2
 rw [←hat] at hit
 refine af.body (fn:=Tryz.f41) rfl rfl rfl (by rfl) ?_
 refine RM.l5 (mu:=fun _=>false) ?_
 repeat' (first |refine u1 ?_ |refine u2 ?_ |fail)
 refine RM.l5 (mu:=fun _=>false) ?_
 repeat' (first |refine u1 ?_ |((with_reducible show au _ _ _ _ _ _ _ _);refine af.call o1 rfl rfl ?_) |refine u2 ?_ |fail)
 refine RM.l5 (mu:=fun _=>false) ?_
 repeat' (first |refine u1 ?_ |((with_reducible show au _ _ _ _ _ _ _ _);refine af.call o2 rfl rfl ?_) |refine u2 ?_ |fail)
 refine RM.l5 (mu:=fun _=>false) ?_
 repeat' (first |refine u1 ?_ |refine u2 ?_ |fail)
 refine (BV one hg).mono ?_
 rintro a hp' amb' ⟨rfl,rfl,v,cc,rfl⟩
 repeat' (first |refine u1 ?_ |refine u2 ?_ |fail)
 refine RM.l5 (mu:=fun _=>false) ?_
 repeat' (first |refine u1 ?_ |refine u2 ?_ |fail)
 refine (DC one hg (yI hg) hol l f h20 D).mono ?_
 rintro a hp' amb' ⟨rfl,hr⟩
 rw [hq] at hr
 obtain ⟨rfl,rfl⟩:=hr
 repeat' (first |refine u1 ?_ |refine u2 ?_ |fail)
 refine RM.l5 (mu:=fun _=>false) ?_
 repeat' (first |refine u1 ?_ |refine u2 ?_ |fail)
 refine (KX one hg hiq hqD hD.2 v c.ah.length cc hiq.len).mono ?_
 rintro a hp' amb' ⟨rfl,rfl,rfl⟩
 repeat' (first |refine u1 ?_ |refine u2 ?_ |fail)
 rw [←hat]
 refine aG.aU (aj.Jn 1 (l:=[(10,.ptr 0 0 0),(12,ak 0)]) (hp':=[.cells (Pe c D (Fc c l D)) 0 0,.gone]) rfl (Nat.zero_le _) (E8 _) ⟨.same rfl,.same rfl,trivial⟩ ⟨GB.cells ⟨.same rfl,.same rfl,.same rfl,.same rfl,Jp v hit.len,trivial⟩,rfl,trivial⟩) ?_
 refine aG.aU (aj.giveUp 0 (l:=[(10,Pf c l D),(12,ak 0)]) (hp:=[.gone,.gone]) rfl (Nat.zero_le _) rfl ⟨.ptr,.same rfl,trivial⟩ rfl rfl) ?_
 refine aa (mu:=fun _=>false) ?_
 repeat' (first |refine u1 ?_ |refine u2 ?_ |fail)
 exact ⟨[_,_],⟨Fz.deep rfl,Fz.deep rfl,trivial⟩,rfl⟩
def MQ (c:aH) (l:List Ev) (D:Int):List Acc:=if Gf c l D=0 then Fc c l D else []
theorem Fe (one:Bool) (c:aH) (h:c.Ok) (l:List Ev) (f:Bool) (hl:l.length≤maxLen) (hm:∀ x ∈ l,x.day≤later) (D:Int):Pu one 8 [.ag (bh c),.sl (l.map dZ) f,ak D] (.tp [.sl ((MQ c l D).map jH) false,ak (Gf c l D)]):=by
 unfold MQ
 by_cases he:Gf c l D=0
 ·have o1:=NC one c h l f hl hm D he
  rw [if_pos he,he]
  have d0:(!decide ((0:Int)=0))=false:=by decide
  refine af.body (fn:=Tryz.f8) rfl rfl rfl rfl ?_
  refine aa (mu:=fun _=>false) ?_
  repeat' (first |refine u1 ?_ |((with_reducible show au _ _ _ _ _ _ _ _);refine af.call o1 rfl rfl ?_) |refine u2 ?_ |fail)
  exact ⟨[_,_],⟨Fz.deep rfl,Fz.deep rfl,trivial⟩,rfl⟩
 ·have o1:=MP one c h l f hl D he
  rw [if_neg he]
  have d1:(!decide (Gf c l D=0))=true:=by rw [decide_eq_false he];rfl
  generalize Gf c l D=e at *
  refine af.body (fn:=Tryz.f8) rfl rfl rfl rfl ?_
  refine aa (mu:=fun _=>false) ?_
  repeat' (first |refine u1 ?_ |((with_reducible show au _ _ _ _ _ _ _ _);refine af.call o1 rfl rfl ?_) |refine u2 ?_ |fail)
  exact ⟨[_,_],⟨.nil,Fz.deep rfl,trivial⟩,rfl⟩
end Go.Proofs.YtgdbfbalchdmcaaGreat
