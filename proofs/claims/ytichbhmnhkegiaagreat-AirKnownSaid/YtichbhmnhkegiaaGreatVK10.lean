/-
  Contracts of the program's functions and of the document's. Lemmas alone; their conditions stand in them.
-/
import Derived.Test.YtichbhmnhkegiaaGreatVA3
import Derived.Test.YtichbhmnhkegiaaGreatVK1
import Derived.Test.YtichbhmnhkegiaaGreatVK6
import Derived.Test.YtichbhmnhkegiaaGreatVK7
import Derived.Test.YtichbhmnhkegiaaGreatVK9
open Go Go.RM Go.AirLaw
namespace Go.Proofs.YtichbhmnhkegiaaGreat
set_option maxRecDepth 100000
set_option maxHeartbeats 4000000
theorem yA {v:Int × Int→Int} {A B:Int} (hA:A≤0) (hB:0≤B) {L:List (Int × Int)} (h:∀ x ∈ L,A≤v x∧v x≤B):(A≤(aG v L).1.lo∧(aG v L).1.lo≤B)∧A≤(aG v L).1.hi∧(aG v L).1.hi≤B:=by
 unfold aG
 have key:∀ (L:List (Int × Int)) (z:Span × Bool),(∀ x ∈ L,A≤v x∧v x≤B)→(A≤z.1.lo∧z.1.lo≤B)∧A≤z.1.hi∧z.1.hi≤B→(A≤(L.foldl (fU v) z).1.lo∧(L.foldl (fU v) z).1.lo≤B)∧A≤(L.foldl (fU v) z).1.hi∧(L.foldl (fU v) z).1.hi≤B:=by
  intro L
  induction L with
  | nil=>intro z _ hz;exact hz
  | cons x l ih =>
   intro z hl hz
   rw [List.foldl_cons]
   refine ih _ (fun y hy=>hl y (List.mem_cons_of_mem _ hy)) ?_
   have hx:=hl x List.mem_cons_self
   unfold fU
   obtain ⟨⟨lo,hi⟩,b⟩:=z
   cases b <;> dsimp only [Bool.false_eq_true,if_false,if_true] at * <;> simp only [Bool.false_eq_true,if_false,if_true] <;> omega
 exact key L _ h ⟨⟨hA,hB⟩,hA,hB⟩
def jG (z:Span × Bool):Int × Int:=if z.2=false then (0,9) else (z.1.lo+z.1.hi,0)
def g9 (seen:Int→Int→Int→Int→Bool) (x y:Int) (p:Int × Int):Int:=if seen x y p.1 p.2=true then 1 else 0
theorem CN (one:Bool) {s:au} {n:aE} {rs:List aA} (f:Bool) (h:nG s n rs) (x y:Int) (hx:-60000≤x∧x≤60000) (hy:-60000≤y∧y≤60000) :
  Pu one 92 [FY s n rs f,.ag [ah x,ah y]] (.tp [ah (jG (aG (g9 ct x y) (cC s n rs))).1,ah (jG (aG (g9 ct x y) (cC s n rs))).2]):=by
 have he:=mD one 127 [] [.pt [ah x,ah y] 0] rfl _ _ _ (g9 ct x y) _ (h.gl one f) (fun z hz=>by
  have hb:=iE h hz
  exact CB one z.1 z.2 x y hb.1 hb.2 hx hy)
 have hb:=yA (v:=g9 ct x y) (A:=0) (B:=1) (by decide) (by decide) (L:=cC s n rs) (fun z _=>by unfold g9;split <;> omega)
 generalize aG (g9 ct x y) (cC s n rs)=z at *
 obtain ⟨z1,b⟩:=z
 dsimp only at hb he
 cases b with
 | false =>
  refine af.body (fn:=Tryz.f92) rfl rfl rfl rfl ?_
  refine aa (mu:=fun _=>false) ?_
  repeat' (first |refine u1 ?_ |refine u2 ?_ |refine af.call he rfl rfl ?_ |fail)
  exact ⟨[_,_],⟨Fz.deep rfl,Fz.deep rfl,trivial⟩,rfl⟩
 | true =>
  refine af.body (fn:=Tryz.f92) rfl rfl rfl rfl ?_
  refine aa (mu:=fun _=>false) ?_
  repeat' (first |refine u1 ?_ |refine u2 ?_ |refine af.call he rfl rfl ?_ |fail)
  exact ⟨[_,_],⟨Fz.deep rfl,Fz.deep rfl,trivial⟩,rfl⟩
theorem CO (one:Bool) {s:au} {n:aE} {rs:List aA} (f:Bool) (h:nG s n rs) (x y:Int) (hx:-60000≤x∧x≤60000) (hy:-60000≤y∧y≤60000) :
  Pu one 90 [FZ s n rs f,.ag [ah x,ah y]] (.tp [ah (jG (aG (g9 bA x y) (gM s n rs))).1,ah (jG (aG (g9 bA x y) (gM s n rs))).2]):=by
 have he:=Al one 126 [] [.pt [ah x,ah y] 0] rfl _ _ _ (g9 bA x y) _ (h.gh one f) (fun z hz=>by
  have hb:=Bn h hz
  exact CC one z.1 z.2 x y hb.1 hb.2 hx hy)
 have hb:=yA (v:=g9 bA x y) (A:=0) (B:=1) (by decide) (by decide) (L:=gM s n rs) (fun z _=>by unfold g9;split <;> omega)
 generalize aG (g9 bA x y) (gM s n rs)=z at *
 obtain ⟨z1,b⟩:=z
 dsimp only at hb he
 cases b with
 | false =>
  refine af.body (fn:=Tryz.f90) rfl rfl rfl rfl ?_
  refine aa (mu:=fun _=>false) ?_
  repeat' (first |refine u1 ?_ |refine u2 ?_ |refine af.call he rfl rfl ?_ |fail)
  exact ⟨[_,_],⟨Fz.deep rfl,Fz.deep rfl,trivial⟩,rfl⟩
 | true =>
  refine af.body (fn:=Tryz.f90) rfl rfl rfl rfl ?_
  refine aa (mu:=fun _=>false) ?_
  repeat' (first |refine u1 ?_ |refine u2 ?_ |refine af.call he rfl rfl ?_ |fail)
  exact ⟨[_,_],⟨Fz.deep rfl,Fz.deep rfl,trivial⟩,rfl⟩
def tv (s:au) (n:aE) (rs:List aA) (p:Pt) (cN:Bool):Int × Int :=
 if (bT s n rs).2 ≠ 0 then (0,(bT s n rs).2)
 else if bg (-30000) 30000 [p.x,p.y]=true then (0,7)
 else if cN=true then jG (aG (g9 bA (p.x - n.pos.x) (p.y - n.pos.y)) (gM s n rs))
 else jG (aG (g9 ct (p.x - n.pos.x) (p.y - n.pos.y)) (cC s n rs))
theorem Au (one:Bool) (s:au) (h:s.Ok) (n:aE) (rs:List aA) (f:Bool) (hr:rs.length≤maxLen) (p:Pt) (cN:Bool) :
  Pu one 33 [.ag (bz s),.ag (gu n),.sl (rs.map az) f,.ag (FG p),BB cN] (.tp [ah (tv s n rs p cN).1,ah (tv s n rs p cN).2]):=by
 have hen:=mz one s h n rs f hr
 have o1:=mw one (-30000) 30000 p.x p.y
 unfold tv
 by_cases e0:(bT s n rs).2=0
 ·rw [if_neg (by omega)]
  have ho:=iD e0
  rw [e0] at hen
  cases e1:bg (-30000) 30000 [p.x,p.y] with
  | true =>
   rw [e1] at o1
   refine af.body (fn:=Tryz.f33) rfl rfl rfl rfl ?_
   refine aa (mu:=fun _=>false) ?_
   repeat' (first |refine u1 ?_ |refine u2 ?_ |refine af.call hen rfl rfl ?_ |refine af.call o1 rfl rfl ?_ |fail)
   exact ⟨[_,_],⟨Fz.deep rfl,Fz.deep rfl,trivial⟩,rfl⟩
  | false =>
   rw [e1] at o1
   have bx:=(aI.1 e1) p.x (by simp)
   have by':=(aI.1 e1) p.y (by simp)
   have hx:=ho.x
   have hy:=ho.y
   have hv:=ku true s n rs f p (by omega) (by omega)
   cases cN with
   | true =>
    have c1:=wv true f ho
    have c2:=ho.ch true f
    have c3:=CO true f ho (p.x - n.pos.x) (p.y - n.pos.y) (by omega) (by omega)
    simp only [Bool.false_eq_true,if_false,if_true]
    generalize jG (aG (g9 bA (p.x - n.pos.x) (p.y - n.pos.y)) (gM s n rs))=z at *
    refine af.body (fn:=Tryz.f33) rfl rfl rfl rfl ?_
    refine aa (mu:=fun _=>false) ?_
    repeat' (first |refine af.call hen rfl rfl ?_ |refine af.call o1 rfl rfl ?_ |refine ⟨_,_,.inl ⟨rfl,rfl⟩,c1,?_⟩ |refine ⟨_,_,.inl ⟨rfl,rfl⟩,c2,?_⟩ |refine ⟨_,_,.inl ⟨rfl,rfl⟩,hv,?_⟩ |refine ⟨_,_,.inl ⟨rfl,rfl⟩,c3,?_⟩ |refine u1 ?_ |refine u2 ?_ |fail)
    exact ⟨[_,_],⟨Fz.deep rfl,Fz.deep rfl,trivial⟩,rfl⟩
   | false =>
    have c1:=kC true f ho
    have c2:=ho.cl true f
    have c3:=CN true f ho (p.x - n.pos.x) (p.y - n.pos.y) (by omega) (by omega)
    simp only [Bool.false_eq_true,if_false]
    generalize jG (aG (g9 ct (p.x - n.pos.x) (p.y - n.pos.y)) (cC s n rs))=z at *
    refine af.body (fn:=Tryz.f33) rfl rfl rfl rfl ?_
    refine aa (mu:=fun _=>false) ?_
    repeat' (first |refine af.call hen rfl rfl ?_ |refine af.call o1 rfl rfl ?_ |refine ⟨_,_,.inl ⟨rfl,rfl⟩,c1,?_⟩ |refine ⟨_,_,.inl ⟨rfl,rfl⟩,c2,?_⟩ |refine ⟨_,_,.inl ⟨rfl,rfl⟩,hv,?_⟩ |refine ⟨_,_,.inl ⟨rfl,rfl⟩,c3,?_⟩ |refine u1 ?_ |refine u2 ?_ |fail)
    exact ⟨[_,_],⟨Fz.deep rfl,Fz.deep rfl,trivial⟩,rfl⟩
 ·rw [if_pos (by omega)]
  have d0:(!decide ((bT s n rs).2=0))=true:=by rw [decide_eq_false e0];rfl
  refine af.body (fn:=Tryz.f33) rfl rfl rfl rfl ?_
  refine aa (mu:=fun _=>false) ?_
  repeat' (first |refine u1 ?_ |refine u2 ?_ |refine af.call hen rfl rfl ?_ |fail)
  exact ⟨[_,_],⟨Fz.deep rfl,Fz.deep rfl,trivial⟩,rfl⟩
def Eb (z:Span × Bool):Int × Int × Int:=if z.2=false then (0,0,9) else (z.1.lo,z.1.hi,0)
def ek (x:Int × Int):Int:=jd x.1 x.2
def Bt (s:au) (n:aE) (rs:List aA):Int × Int × Int :=
 if (bT s n rs).2 ≠ 0 then (0,0,(bT s n rs).2) else Eb (aG ek (cC s n rs))
theorem Ft (one:Bool) (s:au) (h:s.Ok) (n:aE) (rs:List aA) (f:Bool) (hr:rs.length≤maxLen) :
  Pu one 35 [.ag (bz s),.ag (gu n),.sl (rs.map az) f] (.tp [ah (Bt s n rs).1,ah (Bt s n rs).2.1,ah (Bt s n rs).2.2]):=by
 have hen:=mz one s h n rs f hr
 unfold Bt
 by_cases e0:(bT s n rs).2=0
 ·rw [if_neg (by omega)]
  have ho:=iD e0
  rw [e0] at hen
  have c1:=kC true f ho
  have c2:=ho.cl true f
  have e1:=mD true 94 [] [] rfl _ _ _ ek _ (ho.gl true f) (fun x hx=>wz true x.1 x.2 (iE ho hx).1 (iE ho hx).2)
  generalize aG ek (cC s n rs)=z at *
  obtain ⟨z1,z2⟩:=z
  dsimp only at e1
  cases z2 with
  | false =>
   refine af.body (fn:=Tryz.f35) rfl rfl rfl rfl ?_
   refine aa (mu:=fun _=>false) ?_
   repeat' (first |refine af.call hen rfl rfl ?_ |refine ⟨_,_,.inl ⟨rfl,rfl⟩,c1,?_⟩ |refine ⟨_,_,.inl ⟨rfl,rfl⟩,c2,?_⟩ |refine ⟨_,_,.inl ⟨rfl,rfl⟩,e1,?_⟩ |refine u1 ?_ |refine u2 ?_ |refine ⟨fun _=>?_,fun h=>absurd h (by decide)⟩ |fail)
   exact ⟨[_,_,_],⟨Fz.deep rfl,Fz.deep rfl,Fz.deep rfl,trivial⟩,rfl⟩
  | true =>
   refine af.body (fn:=Tryz.f35) rfl rfl rfl rfl ?_
   refine aa (mu:=fun _=>false) ?_
   repeat' (first |refine af.call hen rfl rfl ?_ |refine ⟨_,_,.inl ⟨rfl,rfl⟩,c1,?_⟩ |refine ⟨_,_,.inl ⟨rfl,rfl⟩,c2,?_⟩ |refine ⟨_,_,.inl ⟨rfl,rfl⟩,e1,?_⟩ |refine u1 ?_ |refine u2 ?_ |refine ⟨fun h=>absurd h (by decide),fun _=>?_⟩ |fail)
   exact ⟨[_,_,_],⟨Fz.deep rfl,Fz.deep rfl,Fz.deep rfl,trivial⟩,rfl⟩
 ·rw [if_pos (by omega)]
  have d0:(!decide ((bT s n rs).2=0))=true:=by rw [decide_eq_false e0];rfl
  refine af.body (fn:=Tryz.f35) rfl rfl rfl rfl ?_
  refine aa (mu:=fun _=>false) ?_
  repeat' (first |refine u1 ?_ |refine u2 ?_ |refine af.call hen rfl rfl ?_ |fail)
  exact ⟨[_,_,_],⟨Fz.deep rfl,Fz.deep rfl,Fz.deep rfl,trivial⟩,rfl⟩
end Go.Proofs.YtichbhmnhkegiaaGreat
open Go Go.RM Go.AirLaw
namespace Go.Proofs.YtichbhmnhkegiaaGreat
set_option maxRecDepth 100000
set_option maxHeartbeats 4000000
theorem vg (v:Int × Int→Int) (L:List (Int × Int)) (x:Int × Int):aG v (L++[x])=fU v (aG v L) x:=by
 unfold aG
 rw [List.foldl_append]
 rfl
theorem CP (v:Int × Int→Int) (x:Int × Int):aG v [x]=(⟨v x,v x⟩,true):=by
 unfold aG fU
 simp
theorem qm (v:Int × Int→Int):∀ {L:List (Int × Int)},L ≠ []→(aG v L).2=true:=by
 intro L hL
 obtain ⟨l,x,rfl⟩:∃ l x,L=l++[x]:=⟨L.dropLast,L.getLast hL,(List.dropLast_concat_getLast hL).symm⟩
 rw [vg]
 rfl
end Go.Proofs.YtichbhmnhkegiaaGreat
open Go Go.RM Go.AirLaw
namespace Go.Proofs.YtichbhmnhkegiaaGreat
set_option maxRecDepth 100000
set_option maxHeartbeats 4000000
end Go.Proofs.YtichbhmnhkegiaaGreat
open Go Go.RM Go.AirLaw
namespace Go.Proofs.YtichbhmnhkegiaaGreat
set_option maxRecDepth 100000
set_option maxHeartbeats 4000000
def CQ (s:au) (n:aE) (g:Nat) (x:Int × Int):Int:=if (g:Int)=n.cM then x.1 else (gr s g).cand.lo
def Av (s:au) (n:aE) (L:List (Int × Int)) (far:Int) (g:Nat):Bool:=L.all fun x=>ct far 0 (CQ s n g x) x.2
theorem CR {s:au} {g:Nat} (h:g < s.aj.length):(s.aj.map aT)[((g:Nat):Int).toNat]?=some (aT (gr s g)):=by
 unfold gr
 rw [Int.toNat_natCast,List.getElem?_map,List.getD,List.getElem?_eq_getElem h]
 rfl
theorem CS {s:au} {g:Nat} (h:g < s.aj.length):gr s g ∈ s.aj:=by
 unfold gr
 rw [Int.toNat_natCast,List.getD,List.getElem?_eq_getElem h]
 exact List.getElem_mem h
def lA (iq:Nat→Int) (D:Nat→Bool):Nat→Int
 | 0=>-1
 | k+1=>if D k=true∧(lA iq D k < 0∨iq k < iq (lA iq D k).toNat) then (k:Nat) else lA iq D k
def hG (s:au) (k:Nat):Int:=(gr s k).iq
def CT (s:au) (n:aE) (L:List (Int × Int)) (far:Int):Int:=lA (hG s) (Av s n L far) s.aj.length
def tw (s:au) (n:aE) (rs:List aA) (far:Int):Int × Int :=
 if (bT s n rs).2 ≠ 0 then (0,(bT s n rs).2)
 else if bg 0 60000 [far]=true then (0,7)
 else if wE s n rs false=[] then (0,9)
 else if CT s n (wE s n rs false) far < 0 then (0,9)
 else (CT s n (wE s n rs false) far,0)
end Go.Proofs.YtichbhmnhkegiaaGreat
open Go Go.RM Go.AirLaw
namespace Go.Proofs.YtichbhmnhkegiaaGreat
set_option maxRecDepth 100000
set_option maxHeartbeats 4000000
def GG (A B C:AB) (L:List Int):Nat→List AB
 | 0=>[A,B,C,.cells [.fl (.slice none 0 0)] 0 0]
 | i+1=>[A,B,C,.cells [.bF 4 i 0 (i+1) (i+2)] 0 0,.cells ((L.take (i+1)).map ah) 1 i]
theorem EM {L:List Int} {i:Nat} {x:List AV} (h:(L.map eI)[i]?=some x):∃ y,L[i]?=some y∧x=eI y:=by
 rw [List.getElem?_map,Option.map_eq_some_iff] at h
 obtain ⟨y,h1,h2⟩:=h
 exact ⟨y,h1,h2.symm⟩
theorem CU {A B C:AB} (hA:AB.cO 5 A=true) (hB:AB.cO 5 B=true) (hC:AB.cO 5 C=true) (L:List Int) (i v a b:Nat):([A,B,C,.cells [.bF 4 i 0 a b] 0 0,.cells (L.map ah) 1 v]:List AB).all (AB.cO 5)=true:=by
 have h:AB.cO 5 (.cells (L.map ah) 1 v)=true:=by
  show mJ 5 (L.map ah)=true
  induction L with
  | nil=>rfl
  | cons a l ih=>exact ih
 have h':AB.cO 5 (.cells [.bF 4 i 0 a b] 0 0)=true:=rfl
 simp only [List.all_cons,List.all_nil,hA,hB,hC,h,h',Bool.and_true]
theorem CV (one:Bool) (A B C:AB) (hA:AB.cO 5 A=true) (hB:AB.cO 5 B=true) (hC:AB.cO 5 C=true) (n:Nat) (hn:1≤n∧n≤4) {ay:bq} {Q:AV→List AB→bq→Prop} (hQ:Q (.bF 4 (n - 1) 0 n (n+1)) [A,B,C,.cells [.bF 4 (n - 1) 0 n (n+1)] 0 0,.cells ((cU ⟨0,(n:Int) - 1⟩).map ah) 1 (n - 1)] ay) :
  aK TT TB one (.fn 130 [] []) [.fl (.slice none 0 0),zy ⟨0,(n:Int) - 1⟩] [A,B,C] ay Q:=by
 have hg:=kA one ⟨0,(n:Int) - 1⟩ (by dsimp only;omega)
 have hl:(cU ⟨0,(n:Int) - 1⟩).length=n:=by rw [bV];unfold bU;dsimp only;omega
 generalize cU ⟨0,(n:Int) - 1⟩=L at *
 refine aK.body (fn:=Tryz.f130) rfl rfl rfl ?_
 refine RM.dA (mu:=fun t=>Nat.beq t 2 || Nat.beq t 11) ?_
 repeat' (first |refine u1 ?_ |fail)
 refine av.seq ?_
 refine RM.dA (mu:=fun t=>Nat.beq t 2 || Nat.beq t 11) ?_
 repeat' (first |refine u1 ?_ |fail)
 refine av.block ?_
 refine av.range (GG A B C L) (fun _=>ay) (fun _=>True) rfl hg rfl rfl trivial (fun i x hx _=>?_) (fun _=>?_)
 ·obtain ⟨x,hxi,rfl⟩:=EM hx
  have hil:=(List.getElem?_eq_some_iff.1 hxi).1
  have hte:L.take (i+1)=L.take i++[x]:=by rw [List.take_add_one,hxi];rfl
  refine ⟨rfl,?_⟩
  cases i with
  | zero =>
   refine aa (mu:=fun t=>Nat.beq t 2 || Nat.beq t 11) ?_
   repeat' (first |refine u1 ?_ |refine u2 ?_ |fail)
   refine aa (mu:=fun t=>Nat.beq t 2 || Nat.beq t 11) ?_
   repeat' (first |((with_reducible show RM.wpOp _ _ (.call _) _ _ _);refine RM.FQ (els:=[eI x]) rfl rfl rfl rfl rfl rfl (fun el hel=>by rw [List.mem_singleton.1 hel];rfl) rfl rfl (by simp only [List.length_singleton];omega) ?_) |refine u1 ?_ |refine u2 ?_ |fail)
   exact ⟨_,ai.to (l:=[]) (hp:=[A,B,C,.cells [.bF 4 0 0 (0+1) (0+2)] 0 0,.cells ((L.take (0+1)).map ah) 1 0]) 5 (by rw [hte];rfl) trivial (Nat.le_of_ble_eq_true rfl) rfl (CU hA hB hC _ _ _ _ _)⟩
  | succ i =>
   have hll:((L.take (i+1)).map ah).length=i+1:=by rw [List.length_map,List.length_take];omega
   refine aa (mu:=fun t=>Nat.beq t 2 || Nat.beq t 11) ?_
   repeat' (first |refine u1 ?_ |refine u2 ?_ |fail)
   refine aa (mu:=fun t=>Nat.beq t 2 || Nat.beq t 11) ?_
   repeat' (first |((with_reducible show RM.wpOp _ _ (.call _) _ _ _);refine RM.FR (els:=[eI x]) rfl rfl rfl rfl rfl (fun el hel=>by rw [List.mem_singleton.1 hel];rfl) rfl rfl rfl (by rw [hll];exact (Nat.mul_one _).symm) (.inr rfl) (by simp only [List.length_singleton];omega) ?_) |refine u1 ?_ |refine u2 ?_ |fail)
   exact ⟨_,ai.to (l:=[]) (hp:=[A,B,C,.cells [.bF 4 (i+1) 0 (i+1+1) (i+1+2)] 0 0,.cells ((L.take (i+1+1)).map ah) 1 (i+1)]) 5 (by rw [hte,List.map_append];rfl) trivial (Nat.le_of_ble_eq_true rfl) rfl (CU hA hB hC _ _ _ _ _)⟩
 ·rw [List.length_map,hl]
  obtain ⟨m,rfl⟩:∃ m,n=m+1:=⟨n - 1,by omega⟩
  have htk:L.take (m+1)=L:=List.take_of_length_le (by omega)
  show gQ _ _ _ ⟨_,[A,B,C,.cells [.bF 4 m 0 (m+1) (m+2)] 0 0,.cells ((L.take (m+1)).map ah) 1 m],_,_,_⟩
  rw [htk]
  refine RM.d3 ?_
  refine RM.c9 ?_
  refine aa (mu:=fun t=>Nat.beq t 2 || Nat.beq t 11) ?_
  repeat' (first |refine u1 ?_ |fail)
  exact hQ
theorem Bu (one:Bool) (A B C:AB) (hA:AB.cO 5 A=true) (hB:AB.cO 5 B=true) (hC:AB.cO 5 C=true) (n:Nat) (hn:1≤n∧n≤4) {ay:bq} {Q:AV→List AB→bq→Prop} (hQ:Q (.bF 4 (n - 1) 0 n (n+1)) [A,B,C,.cells [.bF 4 (n - 1) 0 n (n+1)] 0 0,.cells ((cU ⟨0,(n:Int) - 1⟩).map ah) 1 (n - 1)] ay) :
  aK TT TB one (.fn 96 [] []) [zy ⟨0,(n:Int) - 1⟩] [A,B,C] ay Q:=by
 refine aK.body (fn:=Tryz.f96) rfl rfl rfl ?_
 refine aa (mu:=fun _=>false) ?_
 repeat' (first |refine CV one A B C hA hB hC n hn ?_ |refine u1 ?_ |fail)
 exact hQ
theorem EN (one:Bool) (s:au) (a b:Nat) (ha:a < s.aj.length) (hb:b < s.aj.length):af TT TB one (.fn 99 [] [.pt (bz s) 0]) [ah a,ah b] (ah (eJ (hG s a) (hG s b))):=by
 have hata:=CR ha
 have hatb:=CR hb
 have hv:=Ac true (hG s a) (hG s b)
 unfold hG at *
 refine af.body (fn:=Tryz.f99) rfl rfl rfl rfl ?_
 refine aa (mu:=fun _=>false) ?_
 repeat' (first |refine u1 ?_ |refine u2 ?_ |fail)
 exact ⟨[_],⟨Fz.deep rfl,trivial⟩,rfl⟩
section
variable (c : Int → Int → Int)
def Rb (a b:Int):Prop:=c a b < 0∨c a b=0∧a < b
def lZ (S:List Int) (m:Nat):Prop:=∀ p q:Nat,p < q→q < m→Rb c (S.getD p 0) (S.getD q 0)
end
def swapAt (S:List Int) (j:Nat):List Int:=(S.set j (S.getD (j - 1) 0)).set (j - 1) (S.getD j 0)
theorem CW (S:List Int) (j:Nat):(swapAt S j).length=S.length:=by unfold swapAt;simp
theorem swap_perm (S:List Int) {j:Nat} (hj:j < S.length):(swapAt S j).Perm S:=by
 unfold swapAt
 have h1:j - 1 < S.length:=by omega
 rw [List.getD_eq_getElem?_getD,List.getD_eq_getElem?_getD (i:=j),List.getElem?_eq_getElem h1,List.getElem?_eq_getElem hj]
 exact List.set_set_perm hj h1
theorem yB (S:List Int) {j:Nat} (hj:j < S.length) (h0:0 < j) (q:Nat):(swapAt S j).getD q 0=if q=j - 1 then S.getD j 0 else if q=j then S.getD (j - 1) 0 else S.getD q 0:=by
 unfold swapAt
 rw [List.getD_eq_getElem?_getD,List.getElem?_set,List.getElem?_set]
 by_cases h1:j - 1=q
 ·subst h1
  rw [if_pos rfl,if_pos (by rw [List.length_set];omega),if_pos rfl]
  rfl
 ·rw [if_neg h1,if_neg (show ¬ q=j - 1 from fun h=>h1 h.symm)]
  by_cases h2:j=q
  ·subst h2
   rw [if_pos rfl,if_pos hj,if_pos rfl]
   rfl
  ·rw [if_neg h2,if_neg (show ¬ q=j from fun h=>h2 h.symm),List.getD_eq_getElem?_getD]
structure tA (c:Int→Int→Int) (S:List Int) (i j:Nat):Prop where
 others:∀ p q:Nat,p < q→q≤i→p ≠ j→q ≠ j→Rb c (S.getD p 0) (S.getD q 0)
 above:∀ q:Nat,j < q→q≤i→Rb c (S.getD j 0) (S.getD q 0)
 here:S.getD j 0=i
 less:∀ q:Nat,q≤i→q ≠ j→S.getD q 0 < i
 rest:∀ q:Nat,i < q→q < S.length→S.getD q 0=q
structure tB (c:Int→Int→Int) (S:List Int) (i:Nat):Prop where
 sorted:lZ c S i
 less:∀ q:Nat,q < i→S.getD q 0 < i
 rest:∀ q:Nat,i≤q→q < S.length→S.getD q 0=q
theorem tB.start {c:Int→Int→Int} {S:List Int} {i:Nat} (h:tB c S i) (hi:i < S.length):tA c S i i :=
 ⟨fun p q h1 h2 h3 h4=>h.sorted p q h1 (by omega),fun q h1 h2=>by omega,h.rest i (Nat.le_refl _) hi,fun q h1 h2=>h.less q (by omega),fun q h1 h2=>h.rest q (by omega) h2⟩
theorem tA.swap {c:Int→Int→Int} {S:List Int} {i j:Nat} (h:tA c S i j) (hi:i < S.length) (hj:j≤i) (h0:0 < j) (hl:c (S.getD j 0) (S.getD (j - 1) 0) < 0):tA c (swapAt S j) i (j - 1):=by
 have hg:=fun q=>yB S (j:=j) (by omega) h0 q
 constructor
 ·intro p q h1 h2 h3 h4
  rw [hg p,hg q,if_neg h3,if_neg h4]
  by_cases hp:p=j
  ·rw [if_pos hp,if_neg (by omega)]
   exact h.others (j - 1) q (by omega) h2 (by omega) (by omega)
  ·rw [if_neg hp]
   by_cases hq:q=j
   ·rw [if_pos hq]
    exact h.others p (j - 1) (by omega) (by omega) hp (by omega)
   ·rw [if_neg hq]
    exact h.others p q h1 h2 hp hq
 ·intro q h1 h2
  rw [hg (j - 1),hg q,if_pos rfl,if_neg (by omega)]
  by_cases hq:q=j
  ·rw [if_pos hq];exact .inl hl
  ·rw [if_neg hq]
   exact h.above q (by omega) h2
 ·rw [hg (j - 1),if_pos rfl];exact h.here
 ·intro q h1 h2
  rw [hg q,if_neg h2]
  by_cases hq:q=j
  ·rw [if_pos hq];exact h.less (j - 1) (by omega) (by omega)
  ·rw [if_neg hq];exact h.less q h1 hq
 ·intro q h1 h2
  rw [CW] at h2
  rw [hg q,if_neg (by omega),if_neg (by omega)]
  exact h.rest q h1 h2
theorem tA.done {c:Int→Int→Int} {S:List Int} {i j:Nat} (h:tA c S i j) (hc:∀ a b,¬ c a b < 0→c b a < 0∨c b a=0) (htr:∀ a b d,Rb c a b→Rb c b d→Rb c a d) (hd:j=0∨¬ c (S.getD j 0) (S.getD (j - 1) 0) < 0):tB c S (i+1):=by
 refine ⟨?_,?_,fun q h1 h2=>h.rest q (by omega) h2⟩
 ·intro p q h1 h2
  by_cases hp:p=j
  ·rw [hp];exact h.above q (by omega) (by omega)
  ·by_cases hq:q=j
   ·rcases hd with hd|hd
    ·omega
    ·have hlast:Rb c (S.getD (j - 1) 0) (S.getD j 0):=by
      rcases hc _ _ hd with h'|h'
      ·exact .inl h'
      ·exact .inr ⟨h',by rw [h.here];exact h.less (j - 1) (by omega) (by omega)⟩
     rw [hq]
     by_cases hpj:p=j - 1
     ·rw [hpj];exact hlast
     ·exact htr _ _ _ (h.others p (j - 1) (by omega) (by omega) hp (by omega)) hlast
   ·exact h.others p q h1 (by omega) hp hq
 ·intro q hq
  by_cases hqj:q=j
  ·rw [hqj,h.here];omega
  ·have:=h.less q (by omega) hqj;omega
abbrev e9 (S:List Int) (ver:Nat):AB:=.cells (S.map ah) 1 ver
theorem oY {S:List Int} {q:Nat} (h:q < S.length):(S.map ah)[0+((q:Nat):Int).toNat * 1]?=some (ah (S.getD q 0)):=by
 rw [Int.toNat_natCast,Nat.zero_add,Nat.mul_one,List.getElem?_map,List.getD_eq_getElem?_getD,List.getElem?_eq_getElem h]
 rfl
theorem rm {S:List Int} {k:Nat} (h:k < S.length) (x:Int):dh (S.map ah) [ah x] (0+((k:Nat):Int).toNat * 1)=(S.set k x).map ah:=by
 rw [Int.toNat_natCast,Nat.zero_add,Nat.mul_one,List.map_set,List.set_eq_take_append_cons_drop,if_pos (by rw [List.length_map];exact h)]
 unfold dh
 simp
theorem jS {A B C D:AB} (hA:AB.cO 5 A=true) (hB:AB.cO 5 B=true) (hC:AB.cO 5 C=true) (hD:AB.cO 5 D=true) (L:List Int) (v:Nat):([A,B,C,D,.cells (L.map ah) 1 v]:List AB).all (AB.cO 5)=true:=by
 have h:AB.cO 5 (.cells (L.map ah) 1 v)=true:=by
  show mJ 5 (L.map ah)=true
  induction L with
  | nil=>rfl
  | cons a l ih=>exact ih
 simp only [List.all_cons,List.all_nil,hA,hB,hC,hD,h,Bool.and_true]
end Go.Proofs.YtichbhmnhkegiaaGreat
