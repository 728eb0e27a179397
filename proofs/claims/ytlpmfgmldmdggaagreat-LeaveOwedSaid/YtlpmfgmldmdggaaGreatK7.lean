/-
  Contracts of the program's functions and of the document's. Lemmas alone; their conditions stand in them.
-/
import Derived.Test.YtlpmfgmldmdggaaGreatA4
import Derived.Test.YtlpmfgmldmdggaaGreatK6
open Go Go.RM
namespace Go.Proofs.YtlpmfgmldmdggaaGreat
set_option maxRecDepth 100000
set_option maxHeartbeats 4000000
def B9 (m:nQ):Acc:=⟨if m.Dc=true then 1 else 0,m.fm,0,0,0⟩
def dj (c:ay):List Acc:=c.aG.map B9
theorem xq {c:ay} (hg:Good c):Inv c 0 (dj c):=by
 refine ⟨by unfold dj;simp,fun a ha=>?_,by omega⟩
 obtain ⟨m,hm,rfl⟩:=List.mem_map.1 ha
 have:=(hg.qT m hm).2
 unfold B9
 refine ⟨?_,by dsimp only;omega,by dsimp only;omega,by dsimp only;omega,by dsimp only;omega⟩
 dsimp only
 split
 ·exact .inr (.inl rfl)
 ·exact .inl rfl
theorem Di {c:ay} {k:Nat} (h:k < c.aG.length):(dj c).take (k+1)=(dj c).take k++[B9 c.aG[k]]:=by
 unfold dj
 rw [List.take_add_one,List.getElem?_map,List.getElem?_eq_getElem h]
 rfl
def Mc (c:ay) (av:bw) (a:AV) (hp':List AB) (amb':bw):Prop :=
 amb'=av∧a=.ptr 0 0 0∧∃ v cc,hp'=[eA c 0 v c.aG.length cc,fo (dj c) v]
theorem KR (c:ay) (d:Int) (v n cc:Nat) (ls:List Acc):([.cells (JO c d v n cc) 0 0,fo ls v]:List AB).all (AB.ig 2)=true:=by
 simp only [List.all_cons,List.all_nil,Bool.and_true,Bool.and_eq_true]
 exact ⟨dB _ _ _ _ _ _ (by decide),cg _ _ _⟩
theorem GV (one:Bool) {c:ay} (hg:Good c) {av:bw}:ai TT TB one (.fn 60 [] []) [.ag (aF c)] [] av (Mc c av):=by
 have em:((c.aG.map bp).length:Int)=c.aG.length:=by simp
 obtain ⟨n,hn⟩:∃ n:Int,n=c.aG.length:=⟨_,rfl⟩
 have hm5:=hg.aG
 have hol:(dj c).length=c.aG.length:=by unfold dj;simp
 refine ai.body (fn:=Tryz.f60) rfl rfl rfl ?_
 refine aa (mu:=fun t=>Nat.beq t 9) ?_
 repeat' (first |refine u1 ?_ |refine u2 ?_ |fail)
 refine aC.bx (aj.trans (aj.to (l:=[(1,.pt (aF c) 0),(3,.ptr 0 0 0),(11,.sl (c.aG.map bp) false),(12,ah n),(13,ah (0:Nat))]) (hp:=[.cells (aF c++[ah 0,.fl (.slice none 0 0)]) 0 0]) 1 rfl ⟨rfl,rfl,rfl,cK (by rw [hn];exact em),rfl,trivial⟩ (Nat.zero_le _) rfl rfl) (aj.trans (aj.tu 5) (aj.JC 0 (es:=0) (ax:=0) (ds:=JO c 0 0 0 0) (hp:=[.cells (JO c 0 ((0,0,0):Nat × Nat × Nat).2.1 ((0,0,0):Nat × Nat × Nat).1 ((0,0,0):Nat × Nat × Nat).2.2) 0 0,fo ((dj c).take ((0,0,0):Nat × Nat × Nat).1) ((0,0,0):Nat × Nat × Nat).2.1]) rfl (ir.cons (eW.refl _) (ir.cons (eW.refl _) (ir.cons (eW.refl _) (ir.cons (eW.refl _) (ir.cons eW.tq ir.nil))))) rfl))) ?_
 refine aC.loop (fun x:Nat × Nat × Nat=>x.1≤c.aG.length∧(x.2.2=x.1∨x.2.2=x.1+1)) (fun x=>⟨bM [(1,.pt (aF c) 0),(3,.ptr 0 0 0),(11,.sl (c.aG.map bp) false),(12,ah n),(13,ah (x.1:Nat))],[.cells (JO c 0 x.2.1 x.1 x.2.2) 0 0,fo ((dj c).take x.1) x.2.1],av,false,0⟩) (fun x=>c.aG.length - x.1) ?_ (0,0,0) ⟨Nat.zero_le _,.inl rfl⟩
 rintro ⟨k,v,cc⟩ ⟨hk,hcap⟩
 dsimp only at hk hcap
 dsimp only
 by_cases hlt:k < c.aG.length
 ·have d1:decide ((k:Int) < n)=true:=decide_eq_true (by omega)
  have hat:(c.aG.map bp)[((k:Nat):Int).toNat]?=some (bp c.aG[k]):=bG hlt
  have hgl:(bg ((dj c).take k)).length=k * 5:=by rw [gx,List.length_take,hol];congr 1;omega
  have hst:=Di hlt
  generalize c.aG[k]=m at *
  obtain ⟨nm,rk,ow,as'⟩:=m
  unfold B9 at hst
  dsimp only at hst
  cases as' with
  | true =>
   rw [if_pos rfl] at hst
   have hst:bg ((dj c).take (k+1))=bg ((dj c).take k)++[ah 1,ah ow,ah 0,ah 0,ah 0]:=by rw [hst,qL]
   refine aa (mu:=fun t=>Nat.beq t 9) ?_
   repeat' (first |((with_reducible show RM.wpOp _ _ (.call _) _ _ _);refine RM.uS (cs:=bg ((dj c).take k)) (n:=k) (els:=[[ah 1,ah ow,ah 0,ah 0,ah 0]]) rfl rfl rfl rfl rfl (fun el hel=>by rw [List.mem_singleton.1 hel];rfl) rfl rfl hgl hcap (by simp only [List.length_singleton];omega) (fun v' c' hc'=>?_)) |refine u1 ?_ |(refine ⟨[ST nm,ah rk,ah ow,BB true],⟨by omega,hat⟩,rfl,?_⟩) |refine u2 ?_ |fail)
   exact ⟨(k+1,v',c'),⟨hlt,hc'⟩,(by dsimp only;omega),aj.to (hp:=[.cells (JO c 0 ((k+1,v',c'):Nat × Nat × Nat).2.1 ((k+1,v',c'):Nat × Nat × Nat).1 ((k+1,v',c'):Nat × Nat × Nat).2.2) 0 0,fo ((dj c).take ((k+1,v',c'):Nat × Nat × Nat).1) ((k+1,v',c'):Nat × Nat × Nat).2.1]) 2 (by show _=[_,AB.cells (bg ((dj c).take (k+1))) 5 v'];rw [hst];rfl) ⟨rfl,rfl,rfl,rfl,cK (by simp),trivial⟩ (Nat.zero_le _) rfl (KR _ _ _ _ _ _)⟩
  | false =>
   rw [if_neg (by simp)] at hst
   have hst:bg ((dj c).take (k+1))=bg ((dj c).take k)++[ah 0,ah ow,ah 0,ah 0,ah 0]:=by rw [hst,qL]
   refine aa (mu:=fun t=>Nat.beq t 9) ?_
   repeat' (first |((with_reducible show RM.wpOp _ _ (.call _) _ _ _);refine RM.uS (cs:=bg ((dj c).take k)) (n:=k) (els:=[[ah 0,ah ow,ah 0,ah 0,ah 0]]) rfl rfl rfl rfl rfl (fun el hel=>by rw [List.mem_singleton.1 hel];rfl) rfl rfl hgl hcap (by simp only [List.length_singleton];omega) (fun v' c' hc'=>?_)) |refine u1 ?_ |(refine ⟨[ST nm,ah rk,ah ow,BB false],⟨by omega,hat⟩,rfl,?_⟩) |refine u2 ?_ |fail)
   exact ⟨(k+1,v',c'),⟨hlt,hc'⟩,(by dsimp only;omega),aj.to (hp:=[.cells (JO c 0 ((k+1,v',c'):Nat × Nat × Nat).2.1 ((k+1,v',c'):Nat × Nat × Nat).1 ((k+1,v',c'):Nat × Nat × Nat).2.2) 0 0,fo ((dj c).take ((k+1,v',c'):Nat × Nat × Nat).1) ((k+1,v',c'):Nat × Nat × Nat).2.1]) 2 (by show _=[_,AB.cells (bg ((dj c).take (k+1))) 5 v'];rw [hst];rfl) ⟨rfl,rfl,rfl,rfl,cK (by simp),trivial⟩ (Nat.zero_le _) rfl (KR _ _ _ _ _ _)⟩
 ·have d1:decide ((k:Int) < n)=false:=decide_eq_false (by omega)
  have hkn:k=c.aG.length:=by omega
  have e:(dj c).take k=dj c:=List.take_of_length_le (by omega)
  rw [e]
  refine aa (mu:=fun t=>Nat.beq t 9) ?_
  repeat' (first |refine u1 ?_ |refine u2 ?_ |fail)
  exact ⟨v,cc,by rw [←hkn]⟩
end Go.Proofs.YtlpmfgmldmdggaaGreat
open Go Go.RM
namespace Go.Proofs.YtlpmfgmldmdggaaGreat
set_option maxRecDepth 100000
abbrev later:Int:=9223372036854775807
def va (c:ay) (l:List Ev):Int × Int :=
 if (nS c).2.2 ≠ 0 then (0,(nS c).2.2)
 else if 20 < l.length then (0,3)
 else match bN c later 0 0 (dj c) l with
  | .inl p=>((p.1:Int),p.2)
  | .inr _=>(0,0)
theorem GW {c:ay} {i:Nat} {ls:List Acc} {e:Int} (h:xp c i ls=.inr e):e ≠ 0:=by
 have hm:∀ {i:Nat} {p q:Int} {ls:List Acc} {e:Int},gH i p q ls=.inr e→e ≠ 0:=by
  intro i p q ls e h
  unfold gH at h
  split at h
  ·split at h <;> cases h
   decide
  ·cases h;decide
 unfold xp at h
 split at h
 ·split at h
  ·split at h
   ·split at h <;> cases h
    decide
   ·cases h;decide
  ·cases h;decide
 ·rename_i e' he
  cases h
  exact hm he
theorem sA {i:Nat} {p q:Int} {ls:List Acc} {e:Int} (h:gH i p q ls=.inr e):e ≠ 0:=by
 unfold gH at h
 split at h
 ·split at h <;> cases h
  decide
 ·cases h;decide
theorem JS {c:ay} {x:Ev} {ls:List Acc} {e:Int} (h:Iy c x ls=.inr e):e ≠ 0:=by
 unfold Iy at h
 split at h
 ·exact GW h
 ·split at h
  ·exact sA h
  ·split at h
   ·unfold y9 at h
    split at h
    ·split at h <;> cases h
     decide
    ·cases h;decide
   ·split at h
    ·exact sA h
    ·unfold za at h
     split at h
     ·exact sA h
     ·rename_i e' he
      cases h
      exact sA he
theorem Ff {c:ay} {d:Int} {ls:List Acc} {x:Ev} {e:Int} (h:fF c d ls x=.inr e):e ≠ 0:=by
 unfold fF at h
 split at h
 ·cases h;decide
 ·split at h
  ·cases h;decide
  ·split at h
   ·cases h;decide
   ·exact JS h
theorem qN {c:ay} {D:Int}:∀ {l:List Ev} {i:Nat} {d:Int} {ls:List Acc} {p:Nat × Int},bN c D i d ls l=.inl p→p.2 ≠ 0
 | [],i,d,ls,p,h=>by cases h
 | x :: l,i,d,ls,p,h=>by
  rw [bR] at h
  split at h
  ·cases he:fF c d ls x with
   | inl l2=>rw [he] at h;exact qN h
   | inr e=>rw [he] at h;cases h;exact Ff he
  ·exact qN h
theorem Dj {c:ay} {d:Int} {ls ls':List Acc} {x:Ev} (h:fF c d ls x=.inl ls'):d≤x.day∧x.day≤40000:=by
 unfold fF at h
 split at h
 ·cases h
 ·split at h
  ·cases h
  ·split at h
   ·cases h
   ·rename_i h3
    exact cC (Bool.not_eq_true _ ▸ h3)
theorem iI {c:ay}:∀ {l:List Ev} {i:Nat} {d:Int} {ls:List Acc} {q:Int × List Acc},(∀ x ∈ l,x.day≤later)→bN c later i d ls l=.inr q→∀ x ∈ l,d≤x.day∧x.day≤40000
 | [],i,d,ls,q,_,h,x,hx=>by cases hx
 | y :: l,i,d,ls,q,hm,h,x,hx=>by
  rw [bR,if_pos (hm y (by simp))] at h
  cases he:fF c d ls y with
  | inr e=>rw [he] at h;cases h
  | inl l2 =>
   rw [he] at h
   have hd:=Dj he
   rcases List.mem_cons.1 hx with rfl|hx
   ·exact hd
   ·have:=iI (fun x hx=>hm x (List.mem_cons_of_mem _ hx)) h x hx
    omega
theorem nE {c:ay} {D:Int}:∀ {l:List Ev} {i:Nat} {d:Int} {ls:List Acc},(∀ x ∈ l,D < x.day)→bN c D i d ls l=.inr (d,ls)
 | [],i,d,ls,_=>rfl
 | y :: l,i,d,ls,h=>by
  rw [bR,if_neg (by have:=h y (by simp);omega)]
  exact nE fun x hx=>h x (List.mem_cons_of_mem _ hx)
theorem sB {c:ay} {D:Int}:∀ {l:List Ev} {i:Nat} {d:Int} {ls:List Acc} {q:Int × List Acc},(∀ x ∈ l,x.day≤later)→bN c later i d ls l=.inr q→d≤D→∃ q',bN c D i d ls l=.inr q'∧q'.1≤D
 | [],i,d,ls,q,_,h,hd=>⟨(d,ls),rfl,hd⟩
 | y :: l,i,d,ls,q,hm,h,hd=>by
  have hall:=iI hm h
  by_cases hy:y.day≤D
  ·rw [bR,if_pos (hm y (by simp))] at h
   rw [bR,if_pos hy]
   cases he:fF c d ls y with
   | inr e=>rw [he] at h;cases h
   | inl l2 =>
    rw [he] at h
    exact sB (fun x hx=>hm x (List.mem_cons_of_mem _ hx)) h hy
  ·rw [bR,if_neg hy]
   refine ⟨(d,ls),nE fun x hx=>?_,hd⟩
   rw [bR,if_pos (hm y (by simp))] at h
   cases he:fF c d ls y with
   | inr e=>rw [he] at h;cases h
   | inl l2 =>
    rw [he] at h
    have:=iI (fun x hx=>hm x (List.mem_cons_of_mem _ hx)) h x hx
    omega
structure Bf (x:Ev):Prop where
 day:x.day≤later
def Dk (c:ay) (l:List Ev) (D:Int):List Acc :=
 match bN c D 0 0 (dj c) l with
 | .inr q=>iS c (D - q.1) q.2
 | .inl _=>[]
def qO (c:ay) (l:List Ev) (D:Int):Int:=if (va c l).2 ≠ 0 then (va c l).2 else if ec 0 40000 [D]=true then 7 else 0
end Go.Proofs.YtlpmfgmldmdggaaGreat
open Go Go.RM
namespace Go.Proofs.YtlpmfgmldmdggaaGreat
set_option maxRecDepth 100000
set_option maxHeartbeats 4000000
theorem qP (one:Bool) (c:ay) (h:c.Ok) (l:List Ev) (f:Bool) (hl:l.length≤maxLen):Pu one 18 [.ag (aF c),.sl (l.map cZ) f] (.tp [ah (va c l).1,ah (va c l).2]):=by
 have el:((l.map cZ).length:Int)=l.length:=by simp
 have ml:l.length≤9223372036854775807:=Nat.le_trans hl (by simp [maxLen])
 have o1:=D5 one c h
 unfold va
 by_cases c1:(nS c).2.2=0
 ·have hg:=Ap c1
  rw [if_neg (by rw [c1];simp)]
  rw [c1] at o1
  have d0:(!decide ((0:Int)=0))=false:=by decide
  generalize (nS c).1=a1 at *
  generalize (nS c).2.1=a2 at *
  by_cases c2:20 < l.length
  ·rw [if_pos c2]
   have d1:decide (20 < ((l.map cZ).length:Int))=true:=decide_eq_true (by omega)
   refine af.body (fn:=Tryz.f18) rfl rfl rfl rfl ?_
   refine aa (mu:=fun _=>false) ?_
   repeat' (first |refine u1 ?_ |((with_reducible show ai _ _ _ _ _ _ _ _);refine af.call o1 rfl rfl ?_) |refine u2 ?_ |fail)
   exact ⟨[_,_],⟨Fz.deep rfl,Fz.deep rfl,trivial⟩,rfl⟩
  ·rw [if_neg c2]
   have d1:decide (20 < ((l.map cZ).length:Int))=false:=decide_eq_false (by omega)
   have hol:(dj c).length=c.aG.length:=by unfold dj;simp
   refine af.body (fn:=Tryz.f18) rfl rfl rfl (by rfl) ?_
   refine aa (mu:=fun _=>false) ?_
   repeat' (first |refine u1 ?_ |((with_reducible show ai _ _ _ _ _ _ _ _);refine af.call o1 rfl rfl ?_) |refine u2 ?_ |fail)
   refine (GV one hg).mono ?_
   rintro a hp' amb' ⟨rfl,rfl,v,cc,rfl⟩
   repeat' (first |refine u1 ?_ |refine u2 ?_ |fail)
   refine (B8 one hg (xq hg) hol l f (by omega) later).mono ?_
   rintro a hp' amb' ⟨rfl,hr⟩
   cases hq:bN c later 0 0 (dj c) l with
   | inl p =>
    rw [hq] at hr
    obtain ⟨rfl,b0,b1,hbb,rfl⟩:=hr
    repeat' (first |refine u1 ?_ |refine u2 ?_ |fail)
    exact ⟨[_,_],⟨Fz.deep rfl,Fz.deep rfl,trivial⟩,rfl⟩
   | inr q =>
    rw [hq] at hr
    obtain ⟨rfl,rfl⟩:=hr
    repeat' (first |refine u1 ?_ |refine u2 ?_ |fail)
    exact ⟨[_,_],⟨Fz.deep rfl,Fz.deep rfl,trivial⟩,rfl⟩
 ·rw [if_pos c1]
  have d1:(!decide ((nS c).2.2=0))=true:=by rw [decide_eq_false c1];rfl
  generalize (nS c).2.2=e at *
  refine af.body (fn:=Tryz.f18) rfl rfl rfl rfl ?_
  refine aa (mu:=fun _=>false) ?_
  repeat' (first |refine u1 ?_ |((with_reducible show ai _ _ _ _ _ _ _ _);refine af.call o1 rfl rfl ?_) |refine u2 ?_ |fail)
  exact ⟨[_,_],⟨Fz.deep rfl,Fz.deep rfl,trivial⟩,rfl⟩
end Go.Proofs.YtlpmfgmldmdggaaGreat
open Go Go.RM
namespace Go.Proofs.YtlpmfgmldmdggaaGreat
set_option maxRecDepth 100000
set_option maxHeartbeats 4000000
abbrev Je (c:ay) (day:Int) (ls:List Acc):List AV:=aF c++[ah day,.sl (ls.map bu) false]
abbrev Lq (c:ay) (l:List Ev) (D:Int):AV:=.pt (Je c D (Dk c l D)) 0
theorem JT {c:ay} {l:List Ev} {D:Int} (hm:∀ x ∈ l,x.day≤later) (h:qO c l D=0):Good c∧l.length≤20∧(0≤D∧D≤40000)∧(∃ q,bN c later 0 0 (dj c) l=.inr q)∧∃ q,bN c D 0 0 (dj c) l=.inr q∧q.1≤D∧Dk c l D=iS c (D - q.1) q.2:=by
 unfold qO at h
 split at h
 ·rename_i h1;exact absurd h h1
 ·rename_i h1
  split at h
  ·cases h
  ·rename_i h2
   have hD:=cC (Bool.not_eq_true _ ▸ h2)
   have h1:=Decidable.not_not.1 h1
   unfold va at h1
   split at h1
   ·rename_i h3;exact absurd h1 h3
   ·rename_i h3
    split at h1
    ·cases h1
    ·rename_i h4
     split at h1
     ·rename_i p hp
      exact absurd h1 (qN hp)
     ·rename_i q hq
      obtain ⟨q',e1,e2⟩:=sB hm hq hD.1
      refine ⟨Ap (Decidable.not_not.1 h3),by omega,hD,⟨q,hq⟩,q',e1,e2,?_⟩
      unfold Dk
      rw [e1]
theorem GX {ls:List Acc} {n cc:Nat} (v:Nat) (h:ls.length=n):Gv 1 v (bg ls) (.cS 1 v 0 n cc) (.sl (ls.map bu) false) :=
 .row 5 (by rw [gx];omega) (by simpa using h) (fun el hel=>by obtain ⟨x,_,rfl⟩:=List.mem_map.1 hel;rfl) (by rw [List.drop_zero,List.take_of_length_le (by rw [gx];omega)];rfl) (fun h=>Bool.noConfusion h)
theorem GY (one:Bool) (c:ay) (h:c.Ok) (l:List Ev) (f:Bool) (hl:l.length≤maxLen) (D:Int) (he:qO c l D ≠ 0):Pu one 63 [.ag (aF c),.sl (l.map cZ) f,ah D] (.tp [.fl (.pointer none),ah (qO c l D)]):=by
 have o1:=qP one c h l f hl
 have o2:=jt one 0 40000 D
 unfold qO at he ⊢
 generalize (va c l).1=a1 at *
 by_cases c1:(va c l).2=0
 ·rw [if_neg (by rw [c1];simp)] at he ⊢
  rw [c1] at o1
  have d0:(!decide ((0:Int)=0))=false:=by decide
  cases e2:ec 0 40000 [D] with
  | true =>
   rw [e2] at o2
   rw [if_pos rfl]
   refine af.body (fn:=Tryz.f63) rfl rfl rfl rfl ?_
   refine aa (mu:=fun _=>false) ?_
   repeat' (first |refine u1 ?_ |((with_reducible show ai _ _ _ _ _ _ _ _);refine af.call o1 rfl rfl ?_) |((with_reducible show ai _ _ _ _ _ _ _ _);refine af.call o2 rfl rfl ?_) |refine u2 ?_ |fail)
   exact ⟨[_,_],⟨Fz.deep rfl,Fz.deep rfl,trivial⟩,rfl⟩
  | false=>rw [e2] at he;exact absurd rfl he
 ·rw [if_pos c1]
  have d1:(!decide ((va c l).2=0))=true:=by rw [decide_eq_false c1];rfl
  generalize (va c l).2=e at *
  refine af.body (fn:=Tryz.f63) rfl rfl rfl rfl ?_
  refine aa (mu:=fun _=>false) ?_
  repeat' (first |refine u1 ?_ |((with_reducible show ai _ _ _ _ _ _ _ _);refine af.call o1 rfl rfl ?_) |((with_reducible show ai _ _ _ _ _ _ _ _);refine af.call o2 rfl rfl ?_) |refine u2 ?_ |fail)
  exact ⟨[_,_],⟨Fz.deep rfl,Fz.deep rfl,trivial⟩,rfl⟩
theorem Jf (one:Bool) (c:ay) (h:c.Ok) (l:List Ev) (f:Bool) (hl:l.length≤maxLen) (hm:∀ x ∈ l,x.day≤later) (D:Int) (he:qO c l D=0):Pu one 63 [.ag (aF c),.sl (l.map cZ) f,ah D] (.tp [Lq c l D,ah 0]):=by
 have o1:=qP one c h l f hl
 have o2:=jt one 0 40000 D
 obtain ⟨hg,h20,hD,⟨qm,hqm⟩,q,hq,hqD,hat⟩:=JT hm he
 have c1:(va c l).2=0:=by
  unfold qO at he
  split at he
  ·rename_i h1;exact absurd he h1
  ·rename_i h1;exact Decidable.not_not.1 h1
 generalize (va c l).1=a1 at *
 rw [c1] at o1
 have d0:(!decide ((0:Int)=0))=false:=by decide
 have e2:ec 0 40000 [D]=false:=by rw [bD,cM.2 hD];rfl
 rw [e2] at o2
 have hol:(dj c).length=c.aG.length:=by unfold dj;simp
 have hiq:=(oV hg (xq hg) hq).1
 have hit:=B4 hg hiq hqD hD.2
 rw [←hat] at hit
 refine af.body (fn:=Tryz.f63) rfl rfl rfl (by rfl) ?_
 refine RM.qK (mu:=fun _=>false) ?_
 repeat' (first |refine u1 ?_ |refine u2 ?_ |fail)
 refine RM.qK (mu:=fun _=>false) ?_
 repeat' (first |refine u1 ?_ |((with_reducible show ai _ _ _ _ _ _ _ _);refine af.call o1 rfl rfl ?_) |refine u2 ?_ |fail)
 refine RM.qK (mu:=fun _=>false) ?_
 repeat' (first |refine u1 ?_ |((with_reducible show ai _ _ _ _ _ _ _ _);refine af.call o2 rfl rfl ?_) |refine u2 ?_ |fail)
 refine RM.qK (mu:=fun _=>false) ?_
 repeat' (first |refine u1 ?_ |refine u2 ?_ |fail)
 refine (GV one hg).mono ?_
 rintro a hp' amb' ⟨rfl,rfl,v,cc,rfl⟩
 repeat' (first |refine u1 ?_ |refine u2 ?_ |fail)
 refine RM.qK (mu:=fun _=>false) ?_
 repeat' (first |refine u1 ?_ |refine u2 ?_ |fail)
 refine (B8 one hg (xq hg) hol l f h20 D).mono ?_
 rintro a hp' amb' ⟨rfl,hr⟩
 rw [hq] at hr
 obtain ⟨rfl,rfl⟩:=hr
 repeat' (first |refine u1 ?_ |refine u2 ?_ |fail)
 refine RM.qK (mu:=fun _=>false) ?_
 repeat' (first |refine u1 ?_ |refine u2 ?_ |fail)
 refine (Ip one hg hiq hqD hD.2 v c.aG.length cc hiq.len).mono ?_
 rintro a hp' amb' ⟨rfl,rfl,rfl⟩
 repeat' (first |refine u1 ?_ |refine u2 ?_ |fail)
 rw [←hat]
 refine aC.bx (aj.Ed 1 (l:=[(10,.ptr 0 0 0),(12,ah 0)]) (hp':=[.cells (Je c D (Dk c l D)) 0 0,.gone]) rfl (Nat.zero_le _) (w8 _) ⟨.same rfl,.same rfl,trivial⟩ ⟨GB.cells ⟨.same rfl,.same rfl,.same rfl,.same rfl,GX v hit.len,trivial⟩,rfl,trivial⟩) ?_
 refine aC.bx (aj.giveUp 0 (l:=[(10,Lq c l D),(12,ah 0)]) (hp:=[.gone,.gone]) rfl (Nat.zero_le _) rfl ⟨.ptr,.same rfl,trivial⟩ rfl rfl) ?_
 refine aa (mu:=fun _=>false) ?_
 repeat' (first |refine u1 ?_ |refine u2 ?_ |fail)
 exact ⟨[_,_],⟨Fz.deep rfl,Fz.deep rfl,trivial⟩,rfl⟩
def yf (c:ay) (l:List Ev) (D:Int):List Acc:=if qO c l D=0 then Dk c l D else []
theorem Dl (one:Bool) (c:ay) (h:c.Ok) (l:List Ev) (f:Bool) (hl:l.length≤maxLen) (hm:∀ x ∈ l,x.day≤later) (D:Int):Pu one 20 [.ag (aF c),.sl (l.map cZ) f,ah D] (.tp [.sl ((yf c l D).map bu) false,ah (qO c l D)]):=by
 unfold yf
 by_cases he:qO c l D=0
 ·have o1:=Jf one c h l f hl hm D he
  rw [if_pos he,he]
  have d0:(!decide ((0:Int)=0))=false:=by decide
  refine af.body (fn:=Tryz.f20) rfl rfl rfl rfl ?_
  refine aa (mu:=fun _=>false) ?_
  repeat' (first |refine u1 ?_ |((with_reducible show ai _ _ _ _ _ _ _ _);refine af.call o1 rfl rfl ?_) |refine u2 ?_ |fail)
  exact ⟨[_,_],⟨Fz.deep rfl,Fz.deep rfl,trivial⟩,rfl⟩
 ·have o1:=GY one c h l f hl D he
  rw [if_neg he]
  have d1:(!decide (qO c l D=0))=true:=by rw [decide_eq_false he];rfl
  generalize qO c l D=e at *
  refine af.body (fn:=Tryz.f20) rfl rfl rfl rfl ?_
  refine aa (mu:=fun _=>false) ?_
  repeat' (first |refine u1 ?_ |((with_reducible show ai _ _ _ _ _ _ _ _);refine af.call o1 rfl rfl ?_) |refine u2 ?_ |fail)
  exact ⟨[_,_],⟨.nil,Fz.deep rfl,trivial⟩,rfl⟩
end Go.Proofs.YtlpmfgmldmdggaaGreat
