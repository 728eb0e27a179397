/-
  Contracts of the program's functions and of the document's. Lemmas alone; their conditions stand in them.
-/
import Derived.Test.YtlpmfgmldmdggaaGreatA4
import Derived.Test.YtlpmfgmldmdggaaGreatK6
open Go Go.RM
namespace Go.Proofs.YtlpmfgmldmdggaaGreat
set_option maxRecDepth 100000
set_option maxHeartbeats 4000000
def Bg (m:nE):Acc:=⟨if m.zm=true then 1 else 0,m.gI,0,0,0⟩
def cY (c:ay):List Acc:=c.aO.map Bg
theorem wk {c:ay} (hg:Good c):Inv c 0 (cY c):=by
 refine ⟨by unfold cY;simp,fun a ha=>?_,by omega⟩
 obtain ⟨m,hm,rfl⟩:=List.mem_map.1 ha
 have:=(hg.qp m hm).2
 unfold Bg
 refine ⟨?_,by dsimp only;omega,by dsimp only;omega,by dsimp only;omega,by dsimp only;omega⟩
 dsimp only
 split
 ·exact .inr (.inl rfl)
 ·exact .inl rfl
theorem Cn {c:ay} {k:Nat} (h:k < c.aO.length):(cY c).take (k+1)=(cY c).take k++[Bg c.aO[k]]:=by
 unfold cY
 rw [List.take_add_one,List.getElem?_map,List.getElem?_eq_getElem h]
 rfl
def Kr (c:ay) (au:bF) (a:AV) (hp':List AB) (amb':bF):Prop :=
 amb'=au∧a=.ptr 0 0 0∧∃ v cc,hp'=[ee c 0 v c.aO.length cc,gh (cY c) v]
theorem Jg (c:ay) (d:Int) (v n cc:Nat) (ls:List Acc):([.cells (Ie c d v n cc) 0 0,gh ls v]:List AB).all (AB.iE 2)=true:=by
 simp only [List.all_cons,List.all_nil,Bool.and_true,Bool.and_eq_true]
 exact ⟨di _ _ _ _ _ _ (by decide),ck _ _ _⟩
theorem FF (one:Bool) {c:ay} (hg:Good c) {au:bF}:ah TT TB one (.fn 60 [] []) [.ag (aX c)] [] au (Kr c au):=by
 have em:((c.aO.map bG).length:Int)=c.aO.length:=by simp
 obtain ⟨n,hn⟩:∃ n:Int,n=c.aO.length:=⟨_,rfl⟩
 have hm5:=hg.aO
 have hol:(cY c).length=c.aO.length:=by unfold cY;simp
 refine ah.body (fn:=Tryz.f60) rfl rfl rfl ?_
 refine aa (mu:=fun t=>Nat.beq t 9) ?_
 repeat' (first |refine u1 ?_ |refine u2 ?_ |fail)
 refine aL.cr (ai.trans (ai.to (l:=[(1,.pt (aX c) 0),(3,.ptr 0 0 0),(11,.sl (c.aO.map bG) false),(12,aj n),(13,aj (0:Nat))]) (hp:=[.cells (aX c++[aj 0,.fl (.slice none 0 0)]) 0 0]) 1 rfl ⟨rfl,rfl,rfl,cZ (by rw [hn];exact em),rfl,trivial⟩ (Nat.zero_le _) rfl rfl) (ai.trans (ai.Ce 5) (ai.HV 0 (es:=0) (av:=0) (ds:=Ie c 0 0 0 0) (hp:=[.cells (Ie c 0 ((0,0,0):Nat × Nat × Nat).2.1 ((0,0,0):Nat × Nat × Nat).1 ((0,0,0):Nat × Nat × Nat).2.2) 0 0,gh ((cY c).take ((0,0,0):Nat × Nat × Nat).1) ((0,0,0):Nat × Nat × Nat).2.1]) rfl (gY.cons (jJ.refl _) (gY.cons (jJ.refl _) (gY.cons (jJ.refl _) (gY.cons (jJ.refl _) (gY.cons jJ.Cd gY.nil))))) rfl))) ?_
 refine aL.loop (fun x:Nat × Nat × Nat=>x.1≤c.aO.length∧(x.2.2=x.1∨x.2.2=x.1+1)) (fun x=>⟨cz [(1,.pt (aX c) 0),(3,.ptr 0 0 0),(11,.sl (c.aO.map bG) false),(12,aj n),(13,aj (x.1:Nat))],[.cells (Ie c 0 x.2.1 x.1 x.2.2) 0 0,gh ((cY c).take x.1) x.2.1],au,false,0⟩) (fun x=>c.aO.length - x.1) ?_ (0,0,0) ⟨Nat.zero_le _,.inl rfl⟩
 rintro ⟨k,v,cc⟩ ⟨hk,hcap⟩
 dsimp only at hk hcap
 dsimp only
 by_cases hlt:k < c.aO.length
 ·have d1:decide ((k:Int) < n)=true:=decide_eq_true (by omega)
  have hat:(c.aO.map bG)[((k:Nat):Int).toNat]?=some (bG c.aO[k]):=cM hlt
  have hgl:(bl ((cY c).take k)).length=k * 5:=by rw [ku,List.length_take,hol];congr 1;omega
  have hst:=Cn hlt
  generalize c.aO[k]=m at *
  obtain ⟨nm,rk,ow,as'⟩:=m
  unfold Bg at hst
  dsimp only at hst
  cases as' with
  | true =>
   rw [if_pos rfl] at hst
   have hst:bl ((cY c).take (k+1))=bl ((cY c).take k)++[aj 1,aj ow,aj 0,aj 0,aj 0]:=by rw [hst,vZ]
   refine aa (mu:=fun t=>Nat.beq t 9) ?_
   repeat' (first |((with_reducible show RM.wpOp _ _ (.call _) _ _ _);refine RM.Gx (cs:=bl ((cY c).take k)) (n:=k) (els:=[[aj 1,aj ow,aj 0,aj 0,aj 0]]) rfl rfl rfl rfl rfl (fun el hel=>by rw [List.mem_singleton.1 hel];rfl) rfl rfl hgl hcap (by simp only [List.length_singleton];omega) (fun v' c' hc'=>?_)) |refine u1 ?_ |(refine ⟨[ST nm,aj rk,aj ow,BB true],⟨by omega,hat⟩,rfl,?_⟩) |refine u2 ?_ |fail)
   exact ⟨(k+1,v',c'),⟨hlt,hc'⟩,(by dsimp only;omega),ai.to (hp:=[.cells (Ie c 0 ((k+1,v',c'):Nat × Nat × Nat).2.1 ((k+1,v',c'):Nat × Nat × Nat).1 ((k+1,v',c'):Nat × Nat × Nat).2.2) 0 0,gh ((cY c).take ((k+1,v',c'):Nat × Nat × Nat).1) ((k+1,v',c'):Nat × Nat × Nat).2.1]) 2 (by show _=[_,AB.cells (bl ((cY c).take (k+1))) 5 v'];rw [hst];rfl) ⟨rfl,rfl,rfl,rfl,cZ (by simp),trivial⟩ (Nat.zero_le _) rfl (Jg _ _ _ _ _ _)⟩
  | false =>
   rw [if_neg (by simp)] at hst
   have hst:bl ((cY c).take (k+1))=bl ((cY c).take k)++[aj 0,aj ow,aj 0,aj 0,aj 0]:=by rw [hst,vZ]
   refine aa (mu:=fun t=>Nat.beq t 9) ?_
   repeat' (first |((with_reducible show RM.wpOp _ _ (.call _) _ _ _);refine RM.Gx (cs:=bl ((cY c).take k)) (n:=k) (els:=[[aj 0,aj ow,aj 0,aj 0,aj 0]]) rfl rfl rfl rfl rfl (fun el hel=>by rw [List.mem_singleton.1 hel];rfl) rfl rfl hgl hcap (by simp only [List.length_singleton];omega) (fun v' c' hc'=>?_)) |refine u1 ?_ |(refine ⟨[ST nm,aj rk,aj ow,BB false],⟨by omega,hat⟩,rfl,?_⟩) |refine u2 ?_ |fail)
   exact ⟨(k+1,v',c'),⟨hlt,hc'⟩,(by dsimp only;omega),ai.to (hp:=[.cells (Ie c 0 ((k+1,v',c'):Nat × Nat × Nat).2.1 ((k+1,v',c'):Nat × Nat × Nat).1 ((k+1,v',c'):Nat × Nat × Nat).2.2) 0 0,gh ((cY c).take ((k+1,v',c'):Nat × Nat × Nat).1) ((k+1,v',c'):Nat × Nat × Nat).2.1]) 2 (by show _=[_,AB.cells (bl ((cY c).take (k+1))) 5 v'];rw [hst];rfl) ⟨rfl,rfl,rfl,rfl,cZ (by simp),trivial⟩ (Nat.zero_le _) rfl (Jg _ _ _ _ _ _)⟩
 ·have d1:decide ((k:Int) < n)=false:=decide_eq_false (by omega)
  have hkn:k=c.aO.length:=by omega
  have e:(cY c).take k=cY c:=List.take_of_length_le (by omega)
  rw [e]
  refine aa (mu:=fun t=>Nat.beq t 9) ?_
  repeat' (first |refine u1 ?_ |refine u2 ?_ |fail)
  exact ⟨v,cc,by rw [←hkn]⟩
end Go.Proofs.YtlpmfgmldmdggaaGreat
open Go Go.RM
namespace Go.Proofs.YtlpmfgmldmdggaaGreat
set_option maxRecDepth 100000
abbrev later:Int:=9223372036854775807
def wC (c:ay) (l:List Ev):Int × Int :=
 if (oA c).2.2 ≠ 0 then (0,(oA c).2.2)
 else if 20 < l.length then (0,3)
 else match bH c later 0 0 (cY c) l with
  | .inl p=>((p.1:Int),p.2)
  | .inr _=>(0,0)
theorem FG {c:ay} {i:Nat} {ls:List Acc} {e:Int} (h:wj c i ls=.inr e):e ≠ 0:=by
 have hm:∀ {i:Nat} {p q:Int} {ls:List Acc} {e:Int},gv i p q ls=.inr e→e ≠ 0:=by
  intro i p q ls e h
  unfold gv at h
  split at h
  ·split at h <;> cases h
   decide
  ·cases h;decide
 unfold wj at h
 split at h
 ·split at h
  ·split at h
   ·split at h <;> cases h
    decide
   ·cases h;decide
  ·cases h;decide
 ·rename_i e' he
  cases h
  exact hm he
theorem rI {i:Nat} {p q:Int} {ls:List Acc} {e:Int} (h:gv i p q ls=.inr e):e ≠ 0:=by
 unfold gv at h
 split at h
 ·split at h <;> cases h
  decide
 ·cases h;decide
theorem Ij {c:ay} {x:Ev} {ls:List Acc} {e:Int} (h:GY c x ls=.inr e):e ≠ 0:=by
 unfold GY at h
 split at h
 ·exact FG h
 ·split at h
  ·exact rI h
  ·split at h
   ·unfold ya at h
    split at h
    ·split at h <;> cases h
     decide
    ·cases h;decide
   ·split at h
    ·exact rI h
    ·unfold yb at h
     split at h
     ·exact rI h
     ·rename_i e' he
      cases h
      exact rI he
theorem DY {c:ay} {d:Int} {ls:List Acc} {x:Ev} {e:Int} (h:fj c d ls x=.inr e):e ≠ 0:=by
 unfold fj at h
 split at h
 ·cases h;decide
 ·split at h
  ·cases h;decide
  ·split at h
   ·cases h;decide
   ·exact Ij h
theorem qn {c:ay} {D:Int}:∀ {l:List Ev} {i:Nat} {d:Int} {ls:List Acc} {p:Nat × Int},bH c D i d ls l=.inl p→p.2 ≠ 0
 | [],i,d,ls,p,h=>by cases h
 | x :: l,i,d,ls,p,h=>by
  rw [bM] at h
  split at h
  ·cases he:fj c d ls x with
   | inl l2=>rw [he] at h;exact qn h
   | inr e=>rw [he] at h;cases h;exact DY he
  ·exact qn h
theorem Co {c:ay} {d:Int} {ls ls':List Acc} {x:Ev} (h:fj c d ls x=.inl ls'):d≤x.day∧x.day≤40000:=by
 unfold fj at h
 split at h
 ·cases h
 ·split at h
  ·cases h
  ·split at h
   ·cases h
   ·rename_i h3
    exact cI (Bool.not_eq_true _ ▸ h3)
theorem iA {c:ay}:∀ {l:List Ev} {i:Nat} {d:Int} {ls:List Acc} {q:Int × List Acc},(∀ x ∈ l,x.day≤later)→bH c later i d ls l=.inr q→∀ x ∈ l,d≤x.day∧x.day≤40000
 | [],i,d,ls,q,_,h,x,hx=>by cases hx
 | y :: l,i,d,ls,q,hm,h,x,hx=>by
  rw [bM,if_pos (hm y (by simp))] at h
  cases he:fj c d ls y with
  | inr e=>rw [he] at h;cases h
  | inl l2 =>
   rw [he] at h
   have hd:=Co he
   rcases List.mem_cons.1 hx with rfl|hx
   ·exact hd
   ·have:=iA (fun x hx=>hm x (List.mem_cons_of_mem _ hx)) h x hx
    omega
theorem nk {c:ay} {D:Int}:∀ {l:List Ev} {i:Nat} {d:Int} {ls:List Acc},(∀ x ∈ l,D < x.day)→bH c D i d ls l=.inr (d,ls)
 | [],i,d,ls,_=>rfl
 | y :: l,i,d,ls,h=>by
  rw [bM,if_neg (by have:=h y (by simp);omega)]
  exact nk fun x hx=>h x (List.mem_cons_of_mem _ hx)
theorem rJ {c:ay} {D:Int}:∀ {l:List Ev} {i:Nat} {d:Int} {ls:List Acc} {q:Int × List Acc},(∀ x ∈ l,x.day≤later)→bH c later i d ls l=.inr q→d≤D→∃ q',bH c D i d ls l=.inr q'∧q'.1≤D
 | [],i,d,ls,q,_,h,hd=>⟨(d,ls),rfl,hd⟩
 | y :: l,i,d,ls,q,hm,h,hd=>by
  have hall:=iA hm h
  by_cases hy:y.day≤D
  ·rw [bM,if_pos (hm y (by simp))] at h
   rw [bM,if_pos hy]
   cases he:fj c d ls y with
   | inr e=>rw [he] at h;cases h
   | inl l2 =>
    rw [he] at h
    exact rJ (fun x hx=>hm x (List.mem_cons_of_mem _ hx)) h hy
  ·rw [bM,if_neg hy]
   refine ⟨(d,ls),nk fun x hx=>?_,hd⟩
   rw [bM,if_pos (hm y (by simp))] at h
   cases he:fj c d ls y with
   | inr e=>rw [he] at h;cases h
   | inl l2 =>
    rw [he] at h
    have:=iA (fun x hx=>hm x (List.mem_cons_of_mem _ hx)) h x hx
    omega
structure Ai (x:Ev):Prop where
 day:x.day≤later
def Cp (c:ay) (l:List Ev) (D:Int):List Acc :=
 match bH c D 0 0 (cY c) l with
 | .inr q=>iI c (D - q.1) q.2
 | .inl _=>[]
def C7 (c:ay) (l:List Ev) (D:Int):Int:=if (wC c l).2 ≠ 0 then (wC c l).2 else if dR 0 40000 [D]=true then 7 else 0
end Go.Proofs.YtlpmfgmldmdggaaGreat
open Go Go.RM
namespace Go.Proofs.YtlpmfgmldmdggaaGreat
set_option maxRecDepth 100000
set_option maxHeartbeats 4000000
theorem wm (one:Bool) (c:ay) (h:c.Ok) (l:List Ev) (f:Bool) (hl:l.length≤maxLen):Pu one 18 [.ag (aX c),.sl (l.map cO) f] (.tp [aj (wC c l).1,aj (wC c l).2]):=by
 have el:((l.map cO).length:Int)=l.length:=by simp
 have ml:l.length≤9223372036854775807:=Nat.le_trans hl (by simp [maxLen])
 have o1:=GJ one c h
 unfold wC
 by_cases c1:(oA c).2.2=0
 ·have hg:=zw c1
  rw [if_neg (by rw [c1];simp)]
  rw [c1] at o1
  have d0:(!decide ((0:Int)=0))=false:=by decide
  generalize (oA c).1=a1 at *
  generalize (oA c).2.1=a2 at *
  by_cases c2:20 < l.length
  ·rw [if_pos c2]
   have d1:decide (20 < ((l.map cO).length:Int))=true:=decide_eq_true (by omega)
   refine af.body (fn:=Tryz.f18) rfl rfl rfl rfl ?_
   refine aa (mu:=fun _=>false) ?_
   repeat' (first |refine u1 ?_ |((with_reducible show ah _ _ _ _ _ _ _ _);refine af.call o1 rfl rfl ?_) |refine u2 ?_ |fail)
   exact ⟨[_,_],⟨Fz.deep rfl,Fz.deep rfl,trivial⟩,rfl⟩
  ·rw [if_neg c2]
   have d1:decide (20 < ((l.map cO).length:Int))=false:=decide_eq_false (by omega)
   have hol:(cY c).length=c.aO.length:=by unfold cY;simp
   refine af.body (fn:=Tryz.f18) rfl rfl rfl (by rfl) ?_
   refine aa (mu:=fun _=>false) ?_
   repeat' (first |refine u1 ?_ |((with_reducible show ah _ _ _ _ _ _ _ _);refine af.call o1 rfl rfl ?_) |refine u2 ?_ |fail)
   refine (FF one hg).mono ?_
   rintro a hp' amb' ⟨rfl,rfl,v,cc,rfl⟩
   repeat' (first |refine u1 ?_ |refine u2 ?_ |fail)
   refine (Bf one hg (wk hg) hol l f (by omega) later).mono ?_
   rintro a hp' amb' ⟨rfl,hr⟩
   cases hq:bH c later 0 0 (cY c) l with
   | inl p =>
    rw [hq] at hr
    obtain ⟨rfl,b0,b1,hbb,rfl⟩:=hr
    repeat' (first |refine u1 ?_ |refine u2 ?_ |fail)
    exact ⟨[_,_],⟨Fz.deep rfl,Fz.deep rfl,trivial⟩,rfl⟩
   | inr q =>
    rw [hq] at hr
    obtain ⟨rfl,rfl⟩:=hr
    repeat' (first |refine u1 ?_ |refine u2 ?_ |fail)
    exact ⟨[_,_],⟨Fz.deep rfl,Fz.deep rfl,trivial⟩,rfl⟩
 ·rw [if_pos c1]
  have d1:(!decide ((oA c).2.2=0))=true:=by rw [decide_eq_false c1];rfl
  generalize (oA c).2.2=e at *
  refine af.body (fn:=Tryz.f18) rfl rfl rfl rfl ?_
  refine aa (mu:=fun _=>false) ?_
  repeat' (first |refine u1 ?_ |((with_reducible show ah _ _ _ _ _ _ _ _);refine af.call o1 rfl rfl ?_) |refine u2 ?_ |fail)
  exact ⟨[_,_],⟨Fz.deep rfl,Fz.deep rfl,trivial⟩,rfl⟩
end Go.Proofs.YtlpmfgmldmdggaaGreat
open Go Go.RM
namespace Go.Proofs.YtlpmfgmldmdggaaGreat
set_option maxRecDepth 100000
set_option maxHeartbeats 4000000
abbrev JW (c:ay) (day:Int) (ls:List Acc):List AV:=aX c++[aj day,.sl (ls.map iz) false]
abbrev JX (c:ay) (l:List Ev) (D:Int):AV:=.pt (JW c D (Cp c l D)) 0
theorem Ik {c:ay} {l:List Ev} {D:Int} (hm:∀ x ∈ l,x.day≤later) (h:C7 c l D=0):Good c∧l.length≤20∧(0≤D∧D≤40000)∧(∃ q,bH c later 0 0 (cY c) l=.inr q)∧∃ q,bH c D 0 0 (cY c) l=.inr q∧q.1≤D∧Cp c l D=iI c (D - q.1) q.2:=by
 unfold C7 at h
 split at h
 ·rename_i h1;exact absurd h h1
 ·rename_i h1
  split at h
  ·cases h
  ·rename_i h2
   have hD:=cI (Bool.not_eq_true _ ▸ h2)
   have h1:=Decidable.not_not.1 h1
   unfold wC at h1
   split at h1
   ·rename_i h3;exact absurd h1 h3
   ·rename_i h3
    split at h1
    ·cases h1
    ·rename_i h4
     split at h1
     ·rename_i p hp
      exact absurd h1 (qn hp)
     ·rename_i q hq
      obtain ⟨q',e1,e2⟩:=rJ hm hq hD.1
      refine ⟨zw (Decidable.not_not.1 h3),by omega,hD,⟨q,hq⟩,q',e1,e2,?_⟩
      unfold Cp
      rw [e1]
theorem FH {ls:List Acc} {n cc:Nat} (v:Nat) (h:ls.length=n):Gv 1 v (bl ls) (.dY 1 v 0 n cc) (.sl (ls.map iz) false) :=
 .row 5 (by rw [ku];omega) (by simpa using h) (fun el hel=>by obtain ⟨x,_,rfl⟩:=List.mem_map.1 hel;rfl) (by rw [List.drop_zero,List.take_of_length_le (by rw [ku];omega)];rfl) (fun h=>Bool.noConfusion h)
theorem Il (one:Bool) (c:ay) (h:c.Ok) (l:List Ev) (f:Bool) (hl:l.length≤maxLen) (D:Int) (he:C7 c l D ≠ 0):Pu one 63 [.ag (aX c),.sl (l.map cO) f,aj D] (.tp [.fl (.pointer none),aj (C7 c l D)]):=by
 have o1:=wm one c h l f hl
 have o2:=jn one 0 40000 D
 unfold C7 at he ⊢
 generalize (wC c l).1=a1 at *
 by_cases c1:(wC c l).2=0
 ·rw [if_neg (by rw [c1];simp)] at he ⊢
  rw [c1] at o1
  have d0:(!decide ((0:Int)=0))=false:=by decide
  cases e2:dR 0 40000 [D] with
  | true =>
   rw [e2] at o2
   rw [if_pos rfl]
   refine af.body (fn:=Tryz.f63) rfl rfl rfl rfl ?_
   refine aa (mu:=fun _=>false) ?_
   repeat' (first |refine u1 ?_ |((with_reducible show ah _ _ _ _ _ _ _ _);refine af.call o1 rfl rfl ?_) |((with_reducible show ah _ _ _ _ _ _ _ _);refine af.call o2 rfl rfl ?_) |refine u2 ?_ |fail)
   exact ⟨[_,_],⟨Fz.deep rfl,Fz.deep rfl,trivial⟩,rfl⟩
  | false=>rw [e2] at he;exact absurd rfl he
 ·rw [if_pos c1]
  have d1:(!decide ((wC c l).2=0))=true:=by rw [decide_eq_false c1];rfl
  generalize (wC c l).2=e at *
  refine af.body (fn:=Tryz.f63) rfl rfl rfl rfl ?_
  refine aa (mu:=fun _=>false) ?_
  repeat' (first |refine u1 ?_ |((with_reducible show ah _ _ _ _ _ _ _ _);refine af.call o1 rfl rfl ?_) |((with_reducible show ah _ _ _ _ _ _ _ _);refine af.call o2 rfl rfl ?_) |refine u2 ?_ |fail)
  exact ⟨[_,_],⟨Fz.deep rfl,Fz.deep rfl,trivial⟩,rfl⟩
theorem Ji (one:Bool) (c:ay) (h:c.Ok) (l:List Ev) (f:Bool) (hl:l.length≤maxLen) (hm:∀ x ∈ l,x.day≤later) (D:Int) (he:C7 c l D=0):Pu one 63 [.ag (aX c),.sl (l.map cO) f,aj D] (.tp [JX c l D,aj 0]):=by
 have o1:=wm one c h l f hl
 have o2:=jn one 0 40000 D
 obtain ⟨hg,h20,hD,⟨qm,hqm⟩,q,hq,hqD,hat⟩:=Ik hm he
 have c1:(wC c l).2=0:=by
  unfold C7 at he
  split at he
  ·rename_i h1;exact absurd he h1
  ·rename_i h1;exact Decidable.not_not.1 h1
 generalize (wC c l).1=a1 at *
 rw [c1] at o1
 have d0:(!decide ((0:Int)=0))=false:=by decide
 have e2:dR 0 40000 [D]=false:=by rw [bp,bL.2 hD];rfl
 rw [e2] at o2
 have hol:(cY c).length=c.aO.length:=by unfold cY;simp
 have hiq:=(oD hg (wk hg) hq).1
 have hit:=Ba hg hiq hqD hD.2
 rw [←hat] at hit
 refine af.body (fn:=Tryz.f63) rfl rfl rfl (by rfl) ?_
 refine RM.qk (mu:=fun _=>false) ?_
 repeat' (first |refine u1 ?_ |refine u2 ?_ |fail)
 refine RM.qk (mu:=fun _=>false) ?_
 repeat' (first |refine u1 ?_ |((with_reducible show ah _ _ _ _ _ _ _ _);refine af.call o1 rfl rfl ?_) |refine u2 ?_ |fail)
 refine RM.qk (mu:=fun _=>false) ?_
 repeat' (first |refine u1 ?_ |((with_reducible show ah _ _ _ _ _ _ _ _);refine af.call o2 rfl rfl ?_) |refine u2 ?_ |fail)
 refine RM.qk (mu:=fun _=>false) ?_
 repeat' (first |refine u1 ?_ |refine u2 ?_ |fail)
 refine (FF one hg).mono ?_
 rintro a hp' amb' ⟨rfl,rfl,v,cc,rfl⟩
 repeat' (first |refine u1 ?_ |refine u2 ?_ |fail)
 refine RM.qk (mu:=fun _=>false) ?_
 repeat' (first |refine u1 ?_ |refine u2 ?_ |fail)
 refine (Bf one hg (wk hg) hol l f h20 D).mono ?_
 rintro a hp' amb' ⟨rfl,hr⟩
 rw [hq] at hr
 obtain ⟨rfl,rfl⟩:=hr
 repeat' (first |refine u1 ?_ |refine u2 ?_ |fail)
 refine RM.qk (mu:=fun _=>false) ?_
 repeat' (first |refine u1 ?_ |refine u2 ?_ |fail)
 refine (GP one hg hiq hqD hD.2 v c.aO.length cc hiq.len).mono ?_
 rintro a hp' amb' ⟨rfl,rfl,rfl⟩
 repeat' (first |refine u1 ?_ |refine u2 ?_ |fail)
 rw [←hat]
 refine aL.cr (ai.Jh 1 (l:=[(10,.ptr 0 0 0),(12,aj 0)]) (hp':=[.cells (JW c D (Cp c l D)) 0 0,.gone]) rfl (Nat.zero_le _) (Ck _) ⟨.same rfl,.same rfl,trivial⟩ ⟨GB.cells ⟨.same rfl,.same rfl,.same rfl,.same rfl,FH v hit.len,trivial⟩,rfl,trivial⟩) ?_
 refine aL.cr (ai.giveUp 0 (l:=[(10,JX c l D),(12,aj 0)]) (hp:=[.gone,.gone]) rfl (Nat.zero_le _) rfl ⟨.ptr,.same rfl,trivial⟩ rfl rfl) ?_
 refine aa (mu:=fun _=>false) ?_
 repeat' (first |refine u1 ?_ |refine u2 ?_ |fail)
 exact ⟨[_,_],⟨Fz.deep rfl,Fz.deep rfl,trivial⟩,rfl⟩
def Im (c:ay) (l:List Ev) (D:Int):List Acc:=if C7 c l D=0 then Cp c l D else []
theorem Cq (one:Bool) (c:ay) (h:c.Ok) (l:List Ev) (f:Bool) (hl:l.length≤maxLen) (hm:∀ x ∈ l,x.day≤later) (D:Int):Pu one 20 [.ag (aX c),.sl (l.map cO) f,aj D] (.tp [.sl ((Im c l D).map iz) false,aj (C7 c l D)]):=by
 unfold Im
 by_cases he:C7 c l D=0
 ·have o1:=Ji one c h l f hl hm D he
  rw [if_pos he,he]
  have d0:(!decide ((0:Int)=0))=false:=by decide
  refine af.body (fn:=Tryz.f20) rfl rfl rfl rfl ?_
  refine aa (mu:=fun _=>false) ?_
  repeat' (first |refine u1 ?_ |((with_reducible show ah _ _ _ _ _ _ _ _);refine af.call o1 rfl rfl ?_) |refine u2 ?_ |fail)
  exact ⟨[_,_],⟨Fz.deep rfl,Fz.deep rfl,trivial⟩,rfl⟩
 ·have o1:=Il one c h l f hl D he
  rw [if_neg he]
  have d1:(!decide (C7 c l D=0))=true:=by rw [decide_eq_false he];rfl
  generalize C7 c l D=e at *
  refine af.body (fn:=Tryz.f20) rfl rfl rfl rfl ?_
  refine aa (mu:=fun _=>false) ?_
  repeat' (first |refine u1 ?_ |((with_reducible show ah _ _ _ _ _ _ _ _);refine af.call o1 rfl rfl ?_) |refine u2 ?_ |fail)
  exact ⟨[_,_],⟨.nil,Fz.deep rfl,trivial⟩,rfl⟩
end Go.Proofs.YtlpmfgmldmdggaaGreat
