/-
  Contracts of the program's functions and of the document's. Lemmas alone; their conditions stand in them.
-/
import Derived.Test.YtlpmfgmldmdggaaGreatA4
import Derived.Test.YtlpmfgmldmdggaaGreatK11
import Derived.Test.YtlpmfgmldmdggaaGreatK12
open Go Go.RM
namespace Go.Proofs.YtlpmfgmldmdggaaGreat
set_option maxRecDepth 100000
set_option maxHeartbeats 4000000
def Ej (c:ay) (l:List Ev) (D:Int) (k:Nat):List Acc:=(List.range k).map fun i=>qd c l i D
theorem Hu (c:ay) (l:List Ev) (D:Int) (k:Nat):Ej c l D (k+1)=Ej c l D k++[qd c l k D]:=by
 unfold Ej
 rw [List.range_succ,List.map_append]
 rfl
theorem Ek (c:ay) (l:List Ev) (D:Int) (k:Nat):(Ej c l D k).length=k:=by unfold Ej;simp
theorem IX {hp:List AB} {j v cc n:Nat} {P:List Acc} (hj:hp[j]?=some (.cells (bg P) 5 v)) (hn:P.length=n):Fz hp (.cS j v 0 n cc) (.sl (P.map bu) false) :=
 Fz.row (es:=5) hj (by rw [gx];omega) (by rw [List.length_map];exact hn) (fun el hel=>by obtain ⟨x,_,rfl⟩:=List.mem_map.1 hel;rfl) (by rw [List.drop_zero,List.take_of_length_le (by rw [gx];omega)];rfl) (w8 P) (fun h=>Bool.noConfusion h)
theorem Cs (l:List Acc) (v:Nat):([fo l v]:List AB).all (AB.ig 1)=true:=by
 simp only [List.all_cons,List.all_nil,cg,Bool.and_true]
theorem oZ (one:Bool) (c:ay) (h:c.Ok) (l:List Ev) (f:Bool) (hl:l.length≤maxLen) (hd:∀ x ∈ l,x.day≤later) (D:Int):Pu one 21 [.ag (aF c),.sl (l.map cZ) f,ah D] (.tp [.sl ((yf c l D).map bu) false,ah (qO c l D)]):=by
 have o1:=IQ one c h l f hl hd D
 unfold yf
 by_cases he:qO c l D=0
 ·obtain ⟨_,hv,hD⟩:=xz hd he
  have hm5:=hv.good.aG
  have em:((c.aG.map bp).length:Int)=c.aG.length:=by simp
  have q0:(!decide ((0:Int)=0))=false:=rfl
  rw [he] at o1 ⊢
  rw [if_pos rfl,Ji hv hD.1]
  refine af.body (fn:=Tryz.f21) rfl rfl rfl rfl ?_
  refine aa (mu:=fun t=>Nat.beq t 32) ?_
  repeat' (first |refine u1 ?_ |((with_reducible show ai _ _ _ _ _ _ _ _);refine af.call o1 rfl rfl ?_) |refine u2 ?_ |fail)
  refine aC.bx (aj.trans (aj.tu 5) (aj.KK (l:=[(1,.sl (l.map cZ) f),(2,ah D),(3,.pt (aF c) 0),(9,.cS 0 ((0,0,0):Nat × Nat × Nat).2.1 0 ((0,0,0):Nat × Nat × Nat).1 ((0,0,0):Nat × Nat × Nat).2.2),(10,ah (((0,0,0):Nat × Nat × Nat).1:Nat))]) (hp:=[fo (Ej c l D ((0,0,0):Nat × Nat × Nat).1) ((0,0,0):Nat × Nat × Nat).2.1]) 1 rfl ⟨eW.refl _,eW.refl _,eW.refl _,eW.tq,eW.refl _,trivial⟩ (Nat.zero_le _) rfl (Cs _ _))) ?_
  refine aC.loop (fun x:Nat × Nat × Nat=>x.1≤c.aG.length∧(x.2.2=x.1∨x.2.2=x.1+1)) (fun x=>⟨bM [(1,.sl (l.map cZ) f),(2,ah D),(3,.pt (aF c) 0),(9,.cS 0 x.2.1 0 x.1 x.2.2),(10,ah (x.1:Nat))],[fo (Ej c l D x.1) x.2.1],bw.none,false,0⟩) (fun x=>c.aG.length - x.1) ?_ (0,0,0) ⟨Nat.zero_le _,.inl rfl⟩
  rintro ⟨k,v,cc⟩ ⟨hk,hcap⟩
  dsimp only at hk hcap
  show aC _ _ _ _ ⟨bM [(1,.sl (l.map cZ) f),(2,ah D),(3,.pt (aF c) 0),(9,.cS 0 ((k,v,cc):Nat × Nat × Nat).2.1 0 ((k,v,cc):Nat × Nat × Nat).1 ((k,v,cc):Nat × Nat × Nat).2.2),(10,ah (((k,v,cc):Nat × Nat × Nat).1:Nat))],[fo (Ej c l D ((k,v,cc):Nat × Nat × Nat).1) ((k,v,cc):Nat × Nat × Nat).2.1],bw.none,false,0⟩ _
  dsimp only
  by_cases hlt:k < c.aG.length
  ·have dl:decide ((k:Int) < ((c.aG.map bp).length:Int))=true:=decide_eq_true (by omega)
   have p1:=ze one c hv.good l f hv.len hv.mono k hlt D hD.1 hD.2
   have hst:=Hu c l D k
   have hgl:(bg (Ej c l D k)).length=k * 5:=by rw [gx,Ek]
   generalize qd c l k D=a at *
   have hst:bg (Ej c l D (k+1))=bg (Ej c l D k)++bu a:=by rw [hst,qL]
   refine aa (mu:=fun t=>Nat.beq t 32) ?_
   repeat' (first |((with_reducible show RM.wpOp _ _ (.call _) _ _ _);refine RM.uS (cs:=bg (Ej c l D k)) (n:=k) (els:=[bu a]) rfl rfl rfl rfl rfl (fun el hel=>by rw [List.mem_singleton.1 hel];rfl) rfl rfl hgl hcap (by simp only [List.length_singleton];omega) (fun v' c' hc'=>?_)) |((with_reducible show ai _ _ _ _ _ _ _ _);refine af.call p1 rfl rfl ?_) |refine u1 ?_ |refine u2 ?_ |fail)
   exact ⟨(k+1,v',c'),⟨hlt,hc'⟩,(by dsimp only;omega),aj.to (hp:=[fo (Ej c l D ((k+1,v',c'):Nat × Nat × Nat).1) ((k+1,v',c'):Nat × Nat × Nat).2.1]) 1 (by show _=[AB.cells (bg (Ej c l D (k+1))) 5 v'];rw [hst];rfl) ⟨rfl,rfl,rfl,rfl,cK (by simp),trivial⟩ (Nat.zero_le _) rfl (Cs _ _)⟩
  ·have dl:decide ((k:Int) < ((c.aG.map bp).length:Int))=false:=decide_eq_false (by omega)
   have hkn:k=c.aG.length:=by omega
   subst hkn
   refine aa (mu:=fun _=>false) ?_
   repeat' (first |refine u1 ?_ |refine u2 ?_ |fail)
   exact ⟨[_,_],⟨IX rfl (Ek c l D _),Fz.deep rfl,trivial⟩,rfl⟩
 ·rw [if_neg he]
  have q1:(!decide (qO c l D=0))=true:=by rw [decide_eq_false he];rfl
  generalize qO c l D=e at *
  refine af.body (fn:=Tryz.f21) rfl rfl rfl rfl ?_
  refine aa (mu:=fun _=>false) ?_
  repeat' (first |refine u1 ?_ |((with_reducible show ai _ _ _ _ _ _ _ _);refine af.call o1 rfl rfl ?_) |refine u2 ?_ |fail)
  exact ⟨[_,_],⟨Fz.nil,Fz.deep rfl,trivial⟩,rfl⟩
end Go.Proofs.YtlpmfgmldmdggaaGreat
open Go Go.RM
namespace Go.Proofs.YtlpmfgmldmdggaaGreat
set_option maxRecDepth 100000
set_option maxHeartbeats 4000000
theorem IY (one:Bool) {c:ay} (hg:Good c) {A:List Acc} (f:Bool) (hA:A.length=c.aG.length) {x y:Nat} (hx:x < c.aG.length) (hy:y < c.aG.length):Pu one 70 [.ag (aF c),.sl (A.map bu) f,ah (x:Int),ah (y:Int)] (BB (decide (fy c A x < fy c A y))):=by
 have hm5:=hg.aG
 have br1:=pZ hg (m:=(x:Int)) (by omega)
 have br2:=pZ hg (m:=(y:Int)) (by omega)
 have h1:(A.map bu)[((x:Nat):Int).toNat]?=some (bu A[x]):=bG (by omega)
 have h2:(A.map bu)[((y:Nat):Int).toNat]?=some (bu A[y]):=bG (by omega)
 have h3:(c.aG.map bp)[((x:Nat):Int).toNat]?=some (bp c.aG[x]):=bG hx
 have h4:(c.aG.map bp)[((y:Nat):Int).toNat]?=some (bp c.aG[y]):=bG hy
 have e1:k8 A x=A[x].fm:=by unfold k8;rw [Int.toNat_natCast,List.getElem?_eq_getElem (by omega)];rfl
 have e2:k8 A y=A[y].fm:=by unfold k8;rw [Int.toNat_natCast,List.getElem?_eq_getElem (by omega)];rfl
 have e3:jY c x=c.aG[x].iN:=by unfold jY;rw [Int.toNat_natCast,List.getElem?_eq_getElem hx];rfl
 have e4:jY c y=c.aG[y].iN:=by unfold jY;rw [Int.toNat_natCast,List.getElem?_eq_getElem hy];rfl
 unfold fy
 rw [e3] at br1
 rw [e4] at br2
 rw [e1,e2,e3,e4]
 generalize A[x]=u1 at *
 generalize A[y]=u2 at *
 generalize c.aG[x]=u3 at *
 generalize c.aG[y]=u4 at *
 clear e1 e2 e3 e4
 obtain ⟨p1,o1,a1,b1,d1⟩:=u1
 obtain ⟨p2,o2,a2,b2,d2⟩:=u2
 obtain ⟨n1,r1,w1,s1⟩:=u3
 obtain ⟨n2,r2,w2,s2⟩:=u4
 dsimp only at br1 br2 ⊢
 have h1:(A.map bu)[((x:Nat):Int).toNat]?=some [ah p1,ah o1,ah a1,ah b1,ah d1]:=h1
 have h2:(A.map bu)[((y:Nat):Int).toNat]?=some [ah p2,ah o2,ah a2,ah b2,ah d2]:=h2
 have h3:(c.aG.map bp)[((x:Nat):Int).toNat]?=some [ST n1,ah r1,ah w1,BB s1]:=h3
 have h4:(c.aG.map bp)[((y:Nat):Int).toNat]?=some [ST n2,ah r2,ah w2,BB s2]:=h4
 by_cases ho:o1=o2
 ·have z1:(!decide (o1=o2))=false:=by rw [decide_eq_true ho];rfl
  by_cases hr:r1=r2
  ·have z2:(!decide (r1=r2))=false:=by rw [decide_eq_true hr];rfl
   have hd:decide (r1 * 10+(x:Int) - o1 * 100 < r2 * 10+(y:Int) - o2 * 100)=decide ((x:Int) < (y:Int)):=by rw [decide_eq_decide];omega
   rw [hd]
   refine af.body (fn:=Tryz.f70) rfl rfl rfl rfl ?_
   refine aa (mu:=fun _=>false) ?_
   repeat' (first |refine u1 ?_ |(refine ⟨[ah p1,ah o1,ah a1,ah b1,ah d1],⟨by omega,h1⟩,rfl,?_⟩) |(refine ⟨[ah p2,ah o2,ah a2,ah b2,ah d2],⟨by omega,h2⟩,rfl,?_⟩) |(refine ⟨[ST n1,ah r1,ah w1,BB s1],⟨by omega,h3⟩,rfl,?_⟩) |(refine ⟨[ST n2,ah r2,ah w2,BB s2],⟨by omega,h4⟩,rfl,?_⟩) |refine u2 ?_ |fail)
   exact ⟨[_],⟨Fz.deep rfl,trivial⟩,rfl⟩
  ·have z2:(!decide (r1=r2))=true:=by rw [decide_eq_false hr];rfl
   have hd:decide (r1 * 10+(x:Int) - o1 * 100 < r2 * 10+(y:Int) - o2 * 100)=decide (r1 < r2):=by rw [decide_eq_decide];omega
   rw [hd]
   refine af.body (fn:=Tryz.f70) rfl rfl rfl rfl ?_
   refine aa (mu:=fun _=>false) ?_
   repeat' (first |refine u1 ?_ |(refine ⟨[ah p1,ah o1,ah a1,ah b1,ah d1],⟨by omega,h1⟩,rfl,?_⟩) |(refine ⟨[ah p2,ah o2,ah a2,ah b2,ah d2],⟨by omega,h2⟩,rfl,?_⟩) |(refine ⟨[ST n1,ah r1,ah w1,BB s1],⟨by omega,h3⟩,rfl,?_⟩) |(refine ⟨[ST n2,ah r2,ah w2,BB s2],⟨by omega,h4⟩,rfl,?_⟩) |refine u2 ?_ |fail)
   exact ⟨[_],⟨Fz.deep rfl,trivial⟩,rfl⟩
 ·have z1:(!decide (o1=o2))=true:=by rw [decide_eq_false ho];rfl
  have hd:decide (r1 * 10+(x:Int) - o1 * 100 < r2 * 10+(y:Int) - o2 * 100)=decide (o2 < o1):=by rw [decide_eq_decide];omega
  rw [hd]
  refine af.body (fn:=Tryz.f70) rfl rfl rfl rfl ?_
  refine aa (mu:=fun _=>false) ?_
  repeat' (first |refine u1 ?_ |(refine ⟨[ah p1,ah o1,ah a1,ah b1,ah d1],⟨by omega,h1⟩,rfl,?_⟩) |(refine ⟨[ah p2,ah o2,ah a2,ah b2,ah d2],⟨by omega,h2⟩,rfl,?_⟩) |(refine ⟨[ST n1,ah r1,ah w1,BB s1],⟨by omega,h3⟩,rfl,?_⟩) |(refine ⟨[ST n2,ah r2,ah w2,BB s2],⟨by omega,h4⟩,rfl,?_⟩) |refine u2 ?_ |fail)
  exact ⟨[_],⟨Fz.deep rfl,trivial⟩,rfl⟩
end Go.Proofs.YtlpmfgmldmdggaaGreat
open Go Go.RM
namespace Go.Proofs.YtlpmfgmldmdggaaGreat
set_option maxRecDepth 100000
theorem qR {rk:Int→Int} {m:Int}:∀ {S:List Int} {i:Nat},i≤S.length→(∀ x ∈ S.take i,rk x < rk m)→(∀ x,S[i]?=some x→¬ rk x < rk m)→sI rk m S=S.take i++m :: S.drop i
 | [],i,hi,_,_=>by
  have:i=0:=by simpa using hi
  subst this
  rfl
 | y :: S,0,_,_,h2=>by
  unfold sI
  rw [if_neg (h2 y rfl)]
  rfl
 | y :: S,i+1,hi,h1,h2=>by
  unfold sI
  rw [if_pos (h1 y (by simp)),qR (by simpa using hi) (fun x hx=>h1 x (by rw [List.take_succ_cons];exact List.mem_cons_of_mem _ hx)) (fun x hx=>h2 x (by simpa using hx))]
  rfl
theorem Fs (c:ay) (A:List Acc) (k:Nat):lS (fy c A) (bE A (k+1))=if Jl A k=true then sI (fy c A) (k:Nat) (lS (fy c A) (bE A k)) else lS (fy c A) (bE A k):=by
 rw [qQ]
 split
 ·rw [Dw]
 ·rfl
theorem Hv {c:ay} {A:List Acc} {k:Nat}:∀ x ∈ lS (fy c A) (bE A k),0≤x∧x < k:=fun x hx=>mM x ((nH (fy c A) (bE A k)).1.mem_iff.1 hx)
theorem Hw (c:ay) (A:List Acc) (k:Nat):(lS (fy c A) (bE A k)).length≤k:=by
 rw [(nH (fy c A) (bE A k)).1.length_eq]
 exact tJ A k
end Go.Proofs.YtlpmfgmldmdggaaGreat
open Go Go.RM
namespace Go.Proofs.YtlpmfgmldmdggaaGreat
set_option maxRecDepth 100000
theorem Au {v cc n:Nat} {S:List Int} (h:S.length=n):Gv 0 v (gh S) (.cS 0 v 0 n cc) (.sl (ints S) false) :=
 .row 1 (by rw [List.length_map];omega) (by rw [List.length_map];exact h) (fun el hel=>by obtain ⟨x,_,rfl⟩:=List.mem_map.1 hel;rfl) (by rw [kF,List.drop_zero,List.take_of_length_le (by rw [List.length_map];omega)]) (fun h=>Bool.noConfusion h)
theorem xD (S:List Int) (a b:Nat):((ints S).drop a).take (b - a)=ints ((S.drop a).take (b - a)):=by rw [←List.map_drop,←List.map_take]
theorem Hx (S:List Int):∀ el ∈ ints S,el.length=1:=fun el hel=>by obtain ⟨x,_,rfl⟩:=List.mem_map.1 hel;rfl
theorem Hy (S:List Int):(gh S).all AV.one=true:=by
 induction S with
 | nil=>rfl
 | cons x S ih=>exact ih
theorem vh (S:List Int) (a b:Nat):∀ el ∈ ((ints S).drop a).take (b - a),el.length=1:=by rw [xD];exact Hx _
theorem vi (S:List Int) (a b:Nat):(((ints S).drop a).take (b - a)).flatten.all AV.one=true:=by rw [xD,kF];exact Hy _
theorem mN (S:List Int) (a b:Nat):(((ints S).drop a).take (b - a)).flatten=gh ((S.drop a).take (b - a)):=by rw [xD,kF]
end Go.Proofs.YtlpmfgmldmdggaaGreat
open Go Go.RM
namespace Go.Proofs.YtlpmfgmldmdggaaGreat
set_option maxRecDepth 100000
set_option maxHeartbeats 4000000
abbrev cR (c:ay) (A:List Acc) (k:Nat):List Int:=lS (fy c A) (bE A k)
theorem Hz (one:Bool) (c:ay) (h:c.Ok) (l:List Ev) (f:Bool) (hl:l.length≤maxLen) (hd:∀ x ∈ l,x.day≤later) (D:Int) (he:qO c l D=0):Pu one 24 [.ag (aF c),.sl (l.map cZ) f,ah D] (.tp [.sl (ints (Cr c (Dk c l D))) false,ah 0]):=by
 have o1:=oZ one c h l f hl hd D
 unfold yf at o1
 rw [if_pos he,he] at o1
 obtain ⟨_,hv,hD⟩:=xz hd he
 have hg:=hv.good
 have hm5:=hg.aG
 obtain ⟨hA,_⟩:=vg hv hD
 have em:((c.aG.map bp).length:Int)=c.aG.length:=by simp
 have q0:(!decide ((0:Int)=0))=false:=rfl
 generalize Dk c l D=A at *
 refine af.body (fn:=Tryz.f24) rfl rfl rfl rfl ?_
 refine aa (mu:=fun t=>Nat.beq t 60 || (Nat.beq t 64 || (Nat.beq t 67 || Nat.beq t 71))) ?_
 repeat' (first |refine u1 ?_ |((with_reducible show ai _ _ _ _ _ _ _ _);refine af.call o1 rfl rfl ?_) |refine u2 ?_ |fail)
 refine aC.bx (aj.trans (aj.tu 1) (aj.trans (aj.KK (l:=[(3,.pt (aF c) 0),(8,.sl (A.map bu) false),(10,.cS 0 0 0 0 0),(11,ah ((0:Nat):Int))]) (hp:=[.cells (gh []) 1 0]) 1 rfl ⟨eW.refl _,eW.refl _,eW.tq,eW.refl _,trivial⟩ (Nat.zero_le _) rfl (ey _ _)) (aj.trans (aj.Ed 0 (l:=[(3,.pt (aF c) 0),(8,.sl (A.map bu) false),(10,.sl (ints (cR c A 0)) false),(11,ah (0:Nat))]) (hp':=[.gone]) rfl (Nat.zero_le _) rfl ⟨.same rfl,.same rfl,Au rfl,.same rfl,trivial⟩ ⟨rfl,trivial⟩) (aj.to (l:=[(3,.pt (aF c) 0),(8,.sl (A.map bu) false),(10,.sl (ints (cR c A 0)) false),(11,ah (0:Nat))]) (hp:=[]) 0 rfl ⟨rfl,rfl,rfl,rfl,trivial⟩ (Nat.zero_le _) rfl rfl)))) ?_
 refine aC.loop (fun k:Nat=>k≤A.length) (fun k=>⟨bM [(3,.pt (aF c) 0),(8,.sl (A.map bu) false),(10,.sl (ints (cR c A k)) false),(11,ah (k:Nat))],[],bw.none,false,0⟩) (fun k=>A.length - k) ?_ 0 (Nat.zero_le _)
 intro k hk
 by_cases hlt:k < A.length
 ·have dl:decide ((k:Int) < ((c.aG.map bp).length:Int))=true:=decide_eq_true (by omega)
  have hat:(A.map bu)[((k:Nat):Int).toNat]?=some (bu A[k]):=bG hlt
  have hs:=Fs c A k
  have hok:Jl A k=(decide (A[k].place=0) && decide (1000≤A[k].fm)):=by
   unfold Jl
   rw [List.getElem?_eq_getElem hlt]
  have hSl:=Hw c A k
  generalize A[k]=a at *
  obtain ⟨p,o,d0',d1,d2⟩:=a
  dsimp only at hok
  have hat:(A.map bu)[((k:Nat):Int).toNat]?=some [ah p,ah o,ah d0',ah d1,ah d2]:=hat
  cases e1:decide (p=0) with
  | false =>
   have e1':(!decide (p=0))=true:=by rw [e1];rfl
   rw [e1] at hok
   rw [hok,if_neg (by simp)] at hs
   refine aa (mu:=fun t=>Nat.beq t 60 || (Nat.beq t 64 || (Nat.beq t 67 || Nat.beq t 71))) ?_
   repeat' (first |refine u1 ?_ |(refine ⟨[ah p,ah o,ah d0',ah d1,ah d2],⟨by omega,hat⟩,rfl,?_⟩) |refine u2 ?_ |fail)
   exact ⟨k+1,hlt,(by dsimp only;omega),aj.to 0 rfl ⟨rfl,rfl,by show _=AV.sl (ints (lS (fy c A) (bE A (k+1)))) false;rw [hs];rfl,cK (by simp),trivial⟩ (Nat.zero_le _) rfl rfl⟩
  | true =>
   have e1':(!decide (p=0))=false:=by rw [e1];rfl
   cases e2:decide (o < 1000) with
   | true =>
    have e3:decide (1000≤o)=false:=decide_eq_false (by have:=of_decide_eq_true e2;omega)
    rw [e1,e3] at hok
    rw [hok,if_neg (by simp)] at hs
    refine aa (mu:=fun t=>Nat.beq t 60 || (Nat.beq t 64 || (Nat.beq t 67 || Nat.beq t 71))) ?_
    repeat' (first |refine u1 ?_ |(refine ⟨[ah p,ah o,ah d0',ah d1,ah d2],⟨by omega,hat⟩,rfl,?_⟩) |refine u2 ?_ |fail)
    exact ⟨k+1,hlt,(by dsimp only;omega),aj.to 0 rfl ⟨rfl,rfl,by show _=AV.sl (ints (lS (fy c A) (bE A (k+1)))) false;rw [hs];rfl,cK (by simp),trivial⟩ (Nat.zero_le _) rfl rfl⟩
   | false =>
    have e3:decide (1000≤o)=true:=decide_eq_true (by have:=of_decide_eq_false e2;omega)
    rw [e1,e3] at hok
    rw [hok] at hs
    refine aa (mu:=fun t=>Nat.beq t 60 || (Nat.beq t 64 || (Nat.beq t 67 || Nat.beq t 71))) ?_
    repeat' (first |refine u1 ?_ |(refine ⟨[ah p,ah o,ah d0',ah d1,ah d2],⟨by omega,hat⟩,rfl,?_⟩) |refine u2 ?_ |fail)
    refine aC.bx (aj.to (l:=[(3,.pt (aF c) 0),(8,.sl (A.map bu) false),(10,.sl (ints (cR c A k)) false),(11,ah (k:Nat)),(12,ah (0:Nat))]) (hp:=[]) 0 rfl ⟨rfl,rfl,rfl,rfl,rfl,trivial⟩ (Nat.zero_le _) rfl rfl) ?_
    refine aC.loop (fun i:Nat=>i≤(cR c A k).length∧∀ x ∈ (cR c A k).take i,fy c A x < fy c A (k:Nat)) (fun i=>⟨bM [(3,.pt (aF c) 0),(8,.sl (A.map bu) false),(10,.sl (ints (cR c A k)) false),(11,ah (k:Nat)),(12,ah (i:Nat))],[],bw.none,false,0⟩) (fun i=>(cR c A k).length - i) ?_ 0 ⟨Nat.zero_le _,fun x hx=>nomatch hx⟩
    rintro i ⟨hi1,hpre⟩
    have hSe:((ints (cR c A k)).length:Int)=(cR c A k).length:=by simp
    have hq5:(cR c A k).length≤5:=by have:(cR c A k).length≤k:=hSl;omega
    have hi5:(i:Int)≤5:=by omega
    by_cases hil:i < (cR c A k).length
    ·have d4:decide ((i:Int) < ((ints (cR c A k)).length:Int))=true:=decide_eq_true (by omega)
     have hz:=Hv (c:=c) (A:=A) (k:=k) _ (List.getElem_mem hil)
     have hzt:(ints (cR c A k))[((i:Nat):Int).toNat]?=some (eI (cR c A k)[i]):=bG hil
     have htk:(cR c A k).take (i+1)=(cR c A k).take i++[(cR c A k)[i]]:=by rw [List.take_add_one,List.getElem?_eq_getElem hil];rfl
     have hge:=List.getElem?_eq_getElem hil
     generalize (cR c A k)[i]=z at *
     obtain ⟨y,rfl⟩:∃ y:Nat,z=(y:Int):=⟨z.toNat,by omega⟩
     have oa:=IY true hg false hA (x:=y) (y:=k) (by omega) (by omega)
     cases e4:decide (fy c A (y:Nat) < fy c A (k:Nat)) with
     | true =>
      rw [e4] at oa
      refine aa (mu:=fun t=>Nat.beq t 60 || (Nat.beq t 64 || (Nat.beq t 67 || Nat.beq t 71))) ?_
      repeat' (first |(refine ⟨_,oa,?_⟩) |(refine ⟨_,_,.inl ⟨rfl,rfl⟩,oa,?_⟩) |refine u1 ?_ |(refine ⟨[ah (y:Int)],⟨by omega,hzt⟩,rfl,?_⟩) |refine u2 ?_ |fail)
      exact ⟨i+1,⟨hil,fun x hx=>by
       rw [htk] at hx
       rcases List.mem_append.1 hx with hx|hx
       ·exact hpre x hx
       ·rw [List.mem_singleton.1 hx];exact of_decide_eq_true e4⟩,(by dsimp only;omega),aj.to 0 rfl ⟨rfl,rfl,rfl,rfl,cK (by simp),trivial⟩ (Nat.zero_le _) rfl rfl⟩
     | false =>
      rw [e4] at oa
      have hins:=qR hi1 hpre (fun x hx=>by rw [hge] at hx;obtain rfl:=Option.some.inj hx;exact of_decide_eq_false e4)
      have hs2:cR c A (k+1)=(cR c A k).take i++(k:Int) :: (cR c A k).drop i:=hs.trans hins
      have hcutA:∀ el ∈ ints (cR c A k),el.length=1:=fun el hel=>by obtain ⟨x,_,rfl⟩:=List.mem_map.1 hel;rfl
      have hk1:0≤i∧i≤(ints (cR c A k)).length:=⟨Nat.zero_le _,by rw [List.length_map];exact hi1⟩
      have hk2:i≤(ints (cR c A k)).length∧(ints (cR c A k)).length≤(ints (cR c A k)).length:=⟨by rw [List.length_map];exact hi1,Nat.le_refl _⟩
      have hlt1:(((ints (cR c A k)).drop 0).take (i - 0)).length=i:=by rw [List.length_take,List.length_drop,List.length_map];omega
      have hlt2:(((ints (cR c A k)).drop i).take ((ints (cR c A k)).length - i)).length=(cR c A k).length - i:=by rw [List.length_take,List.length_drop,List.length_map];omega
      have hb1:(0+(((ints (cR c A k)).drop 0).take (i - 0)).length) * 8≤140737488355328∧0+(((ints (cR c A k)).drop 0).take (i - 0)).length≤9223372036854775807:=by rw [hlt1];omega
      have hb2:(0+(((ints (cR c A k)).drop 0).take (i - 0)).length+1) * 8≤140737488355328∧0+(((ints (cR c A k)).drop 0).take (i - 0)).length+1≤9223372036854775807:=by rw [hlt1];omega
      have hb3:(0+(((ints (cR c A k)).drop 0).take (i - 0)).length+1+(((ints (cR c A k)).drop i).take ((ints (cR c A k)).length - i)).length) * 8≤140737488355328∧0+(((ints (cR c A k)).drop 0).take (i - 0)).length+1+(((ints (cR c A k)).drop i).take ((ints (cR c A k)).length - i)).length≤9223372036854775807:=by rw [hlt1,hlt2];omega
      have hz1:(([]:List AV)++(((ints (cR c A k)).drop 0).take (i - 0)).flatten).length=(0+(((ints (cR c A k)).drop 0).take (i - 0)).length) * 1:=by rw [List.nil_append,mN,List.length_map,hlt1,List.length_take,List.length_drop];omega
      have hz2:(([]:List AV)++(((ints (cR c A k)).drop 0).take (i - 0)).flatten++[eI (k:Nat)].flatten).length=(0+(((ints (cR c A k)).drop 0).take (i - 0)).length+1) * 1:=by rw [List.length_append,hz1];show _+1=_;omega
      have hfl:([]:List AV)++(((ints (cR c A k)).drop 0).take (i - 0)).flatten++[eI (k:Nat)].flatten++(((ints (cR c A k)).drop i).take ((ints (cR c A k)).length - i)).flatten=gh (cR c A (k+1)):=by
       rw [mN,mN,hs2,List.length_map]
       unfold gh
       rw [List.map_append,List.map_cons,List.nil_append,List.drop_zero,Nat.sub_zero,List.take_of_length_le (l:=(cR c A k).drop i) (by rw [List.length_drop];omega),List.append_assoc]
       rfl
      have hln:(cR c A (k+1)).length=0+(((ints (cR c A k)).drop 0).take (i - 0)).length+1+(((ints (cR c A k)).drop i).take ((ints (cR c A k)).length - i)).length:=by rw [hs2,hlt1,hlt2,List.length_append,List.length_cons,List.length_take,List.length_drop];omega
      refine aa (mu:=fun t=>Nat.beq t 60 || (Nat.beq t 64 || (Nat.beq t 67 || Nat.beq t 71))) ?_
      repeat' (first |(refine ⟨_,oa,?_⟩) |(refine ⟨_,_,.inl ⟨rfl,rfl⟩,oa,?_⟩) |((with_reducible show RM.wpOp _ _ (.call _) _ _ _);refine RM.uS (cs:=[]) (n:=0) (c:=0) (els:=((ints (cR c A k)).drop 0).take (i - 0)) rfl rfl rfl rfl rfl (vh _ _ _) (vi _ _ _) rfl rfl (.inl rfl) hb1 (fun v c' hc'=>?_)) |((with_reducible show RM.wpOp _ _ (.call _) _ _ _);refine RM.uS (cs:=[]++(((ints (cR c A k)).drop 0).take (i - 0)).flatten) (n:=0+(((ints (cR c A k)).drop 0).take (i - 0)).length) (els:=[eI k]) rfl rfl rfl rfl rfl (fun el hel=>by rw [List.mem_singleton.1 hel];rfl) rfl rfl hz1 hc' hb2 (fun v' c'' hc''=>?_)) |((with_reducible show RM.wpOp _ _ (.call _) _ _ _);refine RM.uS (cs:=[]++(((ints (cR c A k)).drop 0).take (i - 0)).flatten++[eI k].flatten) (n:=0+(((ints (cR c A k)).drop 0).take (i - 0)).length+1) (els:=((ints (cR c A k)).drop i).take ((ints (cR c A k)).length - i)) rfl rfl rfl rfl rfl (vh _ _ _) (vi _ _ _) rfl hz2 hc'' hb3 (fun v3 c3 hc3=>?_)) |refine u1 ?_ |(refine ⟨[ah (y:Int)],⟨by omega,hzt⟩,rfl,?_⟩) |(refine ⟨0,i,rfl,rfl,hk1,(by decide),hcutA,?_⟩) |(refine ⟨i,(ints (cR c A k)).length,rfl,rfl,hk2,(by decide),hcutA,?_⟩) |refine u2 ?_ |fail)
      exact ⟨k+1,hlt,(by dsimp only;omega),aj.trans (aj.Ed 0 (cs:=gh (cR c A (k+1))) (l:=[(3,.pt (aF c) 0),(8,.sl (A.map bu) false),(10,.sl (ints (cR c A (k+1))) false),(11,ah ((k:Int)+1))]) (hp':=[.gone]) (by show some (AB.cells _ 1 v3)=_;rw [hfl]) (Nat.zero_le _) (tH _) ⟨.same rfl,.same rfl,Au hln,.same rfl,trivial⟩ ⟨rfl,trivial⟩) (aj.to (l:=[(3,.pt (aF c) 0),(8,.sl (A.map bu) false),(10,.sl (ints (cR c A (k+1))) false),(11,ah ((k+1):Nat))]) (hp:=[]) 0 rfl ⟨rfl,rfl,rfl,cK (by simp),trivial⟩ (Nat.zero_le _) rfl rfl)⟩
    ·have d4:decide ((i:Int) < ((ints (cR c A k)).length:Int))=false:=decide_eq_false (by omega)
     have hins:=qR hi1 hpre (fun x hx=>by rw [List.getElem?_eq_none (by omega)] at hx;cases hx)
     have hs2:cR c A (k+1)=(cR c A k).take i++(k:Int) :: (cR c A k).drop i:=hs.trans hins
     have hcutA:∀ el ∈ ints (cR c A k),el.length=1:=fun el hel=>by obtain ⟨x,_,rfl⟩:=List.mem_map.1 hel;rfl
     have hk1:0≤i∧i≤(ints (cR c A k)).length:=⟨Nat.zero_le _,by rw [List.length_map];exact hi1⟩
     have hk2:i≤(ints (cR c A k)).length∧(ints (cR c A k)).length≤(ints (cR c A k)).length:=⟨by rw [List.length_map];exact hi1,Nat.le_refl _⟩
     have hlt1:(((ints (cR c A k)).drop 0).take (i - 0)).length=i:=by rw [List.length_take,List.length_drop,List.length_map];omega
     have hlt2:(((ints (cR c A k)).drop i).take ((ints (cR c A k)).length - i)).length=(cR c A k).length - i:=by rw [List.length_take,List.length_drop,List.length_map];omega
     have hb1:(0+(((ints (cR c A k)).drop 0).take (i - 0)).length) * 8≤140737488355328∧0+(((ints (cR c A k)).drop 0).take (i - 0)).length≤9223372036854775807:=by rw [hlt1];omega
     have hb2:(0+(((ints (cR c A k)).drop 0).take (i - 0)).length+1) * 8≤140737488355328∧0+(((ints (cR c A k)).drop 0).take (i - 0)).length+1≤9223372036854775807:=by rw [hlt1];omega
     have hb3:(0+(((ints (cR c A k)).drop 0).take (i - 0)).length+1+(((ints (cR c A k)).drop i).take ((ints (cR c A k)).length - i)).length) * 8≤140737488355328∧0+(((ints (cR c A k)).drop 0).take (i - 0)).length+1+(((ints (cR c A k)).drop i).take ((ints (cR c A k)).length - i)).length≤9223372036854775807:=by rw [hlt1,hlt2];omega
     have hz1:(([]:List AV)++(((ints (cR c A k)).drop 0).take (i - 0)).flatten).length=(0+(((ints (cR c A k)).drop 0).take (i - 0)).length) * 1:=by rw [List.nil_append,mN,List.length_map,hlt1,List.length_take,List.length_drop];omega
     have hz2:(([]:List AV)++(((ints (cR c A k)).drop 0).take (i - 0)).flatten++[eI (k:Nat)].flatten).length=(0+(((ints (cR c A k)).drop 0).take (i - 0)).length+1) * 1:=by rw [List.length_append,hz1];show _+1=_;omega
     have hfl:([]:List AV)++(((ints (cR c A k)).drop 0).take (i - 0)).flatten++[eI (k:Nat)].flatten++(((ints (cR c A k)).drop i).take ((ints (cR c A k)).length - i)).flatten=gh (cR c A (k+1)):=by
      rw [mN,mN,hs2,List.length_map]
      unfold gh
      rw [List.map_append,List.map_cons,List.nil_append,List.drop_zero,Nat.sub_zero,List.take_of_length_le (l:=(cR c A k).drop i) (by rw [List.length_drop];omega),List.append_assoc]
      rfl
     have hln:(cR c A (k+1)).length=0+(((ints (cR c A k)).drop 0).take (i - 0)).length+1+(((ints (cR c A k)).drop i).take ((ints (cR c A k)).length - i)).length:=by rw [hs2,hlt1,hlt2,List.length_append,List.length_cons,List.length_take,List.length_drop];omega
     refine aa (mu:=fun t=>Nat.beq t 60 || (Nat.beq t 64 || (Nat.beq t 67 || Nat.beq t 71))) ?_
     repeat' (first |(refine ⟨0,i,rfl,rfl,hk1,(by decide),hcutA,?_⟩) |(refine ⟨i,(ints (cR c A k)).length,rfl,rfl,hk2,(by decide),hcutA,?_⟩) |((with_reducible show RM.wpOp _ _ (.call _) _ _ _);refine RM.uS (cs:=[]) (n:=0) (c:=0) (els:=((ints (cR c A k)).drop 0).take (i - 0)) rfl rfl rfl rfl rfl (vh _ _ _) (vi _ _ _) rfl rfl (.inl rfl) hb1 (fun v c' hc'=>?_)) |((with_reducible show RM.wpOp _ _ (.call _) _ _ _);refine RM.uS (cs:=[]++(((ints (cR c A k)).drop 0).take (i - 0)).flatten) (n:=0+(((ints (cR c A k)).drop 0).take (i - 0)).length) (els:=[eI k]) rfl rfl rfl rfl rfl (fun el hel=>by rw [List.mem_singleton.1 hel];rfl) rfl rfl hz1 hc' hb2 (fun v' c'' hc''=>?_)) |((with_reducible show RM.wpOp _ _ (.call _) _ _ _);refine RM.uS (cs:=[]++(((ints (cR c A k)).drop 0).take (i - 0)).flatten++[eI k].flatten) (n:=0+(((ints (cR c A k)).drop 0).take (i - 0)).length+1) (els:=((ints (cR c A k)).drop i).take ((ints (cR c A k)).length - i)) rfl rfl rfl rfl rfl (vh _ _ _) (vi _ _ _) rfl hz2 hc'' hb3 (fun v3 c3 hc3=>?_)) |refine u1 ?_ |refine u2 ?_ |fail)
     exact ⟨k+1,hlt,(by dsimp only;omega),aj.trans (aj.Ed 0 (cs:=gh (cR c A (k+1))) (l:=[(3,.pt (aF c) 0),(8,.sl (A.map bu) false),(10,.sl (ints (cR c A (k+1))) false),(11,ah ((k:Int)+1))]) (hp':=[.gone]) (by show some (AB.cells _ 1 v3)=_;rw [hfl]) (Nat.zero_le _) (tH _) ⟨.same rfl,.same rfl,Au hln,.same rfl,trivial⟩ ⟨rfl,trivial⟩) (aj.to (l:=[(3,.pt (aF c) 0),(8,.sl (A.map bu) false),(10,.sl (ints (cR c A (k+1))) false),(11,ah ((k+1):Nat))]) (hp:=[]) 0 rfl ⟨rfl,rfl,rfl,cK (by simp),trivial⟩ (Nat.zero_le _) rfl rfl)⟩
 ·have dl:decide ((k:Int) < ((c.aG.map bp).length:Int))=false:=decide_eq_false (by omega)
  have hkn:k=A.length:=by omega
  subst hkn
  refine aa (mu:=fun t=>Nat.beq t 60 || (Nat.beq t 64 || (Nat.beq t 67 || Nat.beq t 71))) ?_
  repeat' (first |refine u1 ?_ |refine u2 ?_ |fail)
  exact ⟨[_,_],⟨Fz.deep rfl,Fz.deep rfl,trivial⟩,rfl⟩
end Go.Proofs.YtlpmfgmldmdggaaGreat
open Go Go.RM
namespace Go.Proofs.YtlpmfgmldmdggaaGreat
set_option maxRecDepth 100000
theorem HA (c:ay) (A:List Acc):(Cr c A).length≤A.length:=by
 have h1:=(nH (fy c A) (bE A A.length)).1.length_eq
 have:=tJ A A.length
 unfold Cr
 omega
end Go.Proofs.YtlpmfgmldmdggaaGreat
