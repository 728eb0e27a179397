/-
  Contracts of the program's functions and of the document's. Lemmas alone; their conditions stand in them.
-/
import Derived.Test.YtalcbebjpgfnfaaGreatA3
import Derived.Test.YtalcbebjpgfnfaaGreatK16
import Derived.Test.YtalcbebjpgfnfaaGreatK17
import Derived.Test.YtalcbebjpgfnfaaGreatK20
open Go Go.RM Go.AirLaw
namespace Go.Proofs.YtalcbebjpgfnfaaGreat
set_option maxRecDepth 100000
set_option maxHeartbeats 4000000
theorem Dd {v:Int × Int→Int} {A B:Int} (hA:A≤0) (hB:0≤B) {L:List (Int × Int)} (h:∀ x ∈ L,A≤v x∧v x≤B):(A≤(bz v L).1.lo∧(bz v L).1.lo≤B)∧A≤(bz v L).1.hi∧(bz v L).1.hi≤B:=by
 unfold bz
 have key:∀ (L:List (Int × Int)) (z:Span × Bool),(∀ x ∈ L,A≤v x∧v x≤B)→(A≤z.1.lo∧z.1.lo≤B)∧A≤z.1.hi∧z.1.hi≤B→(A≤(L.foldl (je v) z).1.lo∧(L.foldl (je v) z).1.lo≤B)∧A≤(L.foldl (je v) z).1.hi∧(L.foldl (je v) z).1.hi≤B:=by
  intro L
  induction L with
  | nil=>intro z _ hz;exact hz
  | cons x l ih =>
   intro z hl hz
   rw [List.foldl_cons]
   refine ih _ (fun y hy=>hl y (List.mem_cons_of_mem _ hy)) ?_
   have hx:=hl x List.mem_cons_self
   unfold je
   obtain ⟨⟨lo,hi⟩,b⟩:=z
   cases b <;> dsimp only [Bool.false_eq_true,if_false,if_true] at * <;> simp only [Bool.false_eq_true,if_false,if_true] <;> omega
 exact key L _ h ⟨⟨hA,hB⟩,hA,hB⟩
def mI (z:Span × Bool):Int × Int:=if z.2=false then (0,9) else (z.1.lo+z.1.hi,0)
def kg (seen:Int→Int→Int→Int→Bool) (x y:Int) (p:Int × Int):Int:=if seen x y p.1 p.2=true then 1 else 0
theorem Ji (one:Bool) {s:aC} {n:bk} {rs:List aP} (f:Bool) (h:rD s n rs) (x y:Int) (hx:-60000≤x∧x≤60000) (hy:-60000≤y∧y≤60000) :
  Pu one 77 [N8 s n rs f,.ag [ah x,ah y]] (.tp [ah (mI (bz (kg dB x y) (dO s n rs))).1,ah (mI (bz (kg dB x y) (dO s n rs))).2]):=by
 have he:=qi one 115 [] [.pt [ah x,ah y] 0] rfl _ _ _ (kg dB x y) _ (h.gl one f) (fun z hz=>by
  have hb:=kP h hz
  exact Iz one z.1 z.2 x y hb.1 hb.2 hx hy)
 have hb:=Dd (v:=kg dB x y) (A:=0) (B:=1) (by decide) (by decide) (L:=dO s n rs) (fun z _=>by unfold kg;split <;> omega)
 generalize bz (kg dB x y) (dO s n rs)=z at *
 obtain ⟨z1,b⟩:=z
 dsimp only at hb he
 cases b with
 | false =>
  refine af.body (fn:=Tryz.f77) rfl rfl rfl rfl ?_
  refine aa (mu:=fun _=>false) ?_
  repeat' (first |refine u1 ?_ |refine u2 ?_ |refine af.call he rfl rfl ?_ |fail)
  exact ⟨[_,_],⟨Fz.deep rfl,Fz.deep rfl,trivial⟩,rfl⟩
 | true =>
  refine af.body (fn:=Tryz.f77) rfl rfl rfl rfl ?_
  refine aa (mu:=fun _=>false) ?_
  repeat' (first |refine u1 ?_ |refine u2 ?_ |refine af.call he rfl rfl ?_ |fail)
  exact ⟨[_,_],⟨Fz.deep rfl,Fz.deep rfl,trivial⟩,rfl⟩
theorem Jj (one:Bool) {s:aC} {n:bk} {rs:List aP} (f:Bool) (h:rD s n rs) (x y:Int) (hx:-60000≤x∧x≤60000) (hy:-60000≤y∧y≤60000) :
  Pu one 75 [N9 s n rs f,.ag [ah x,ah y]] (.tp [ah (mI (bz (kg cF x y) (jR s n rs))).1,ah (mI (bz (kg cF x y) (jR s n rs))).2]):=by
 have he:=Fc one 114 [] [.pt [ah x,ah y] 0] rfl _ _ _ (kg cF x y) _ (h.gh one f) (fun z hz=>by
  have hb:=GP h hz
  exact IA one z.1 z.2 x y hb.1 hb.2 hx hy)
 have hb:=Dd (v:=kg cF x y) (A:=0) (B:=1) (by decide) (by decide) (L:=jR s n rs) (fun z _=>by unfold kg;split <;> omega)
 generalize bz (kg cF x y) (jR s n rs)=z at *
 obtain ⟨z1,b⟩:=z
 dsimp only at hb he
 cases b with
 | false =>
  refine af.body (fn:=Tryz.f75) rfl rfl rfl rfl ?_
  refine aa (mu:=fun _=>false) ?_
  repeat' (first |refine u1 ?_ |refine u2 ?_ |refine af.call he rfl rfl ?_ |fail)
  exact ⟨[_,_],⟨Fz.deep rfl,Fz.deep rfl,trivial⟩,rfl⟩
 | true =>
  refine af.body (fn:=Tryz.f75) rfl rfl rfl rfl ?_
  refine aa (mu:=fun _=>false) ?_
  repeat' (first |refine u1 ?_ |refine u2 ?_ |refine af.call he rfl rfl ?_ |fail)
  exact ⟨[_,_],⟨Fz.deep rfl,Fz.deep rfl,trivial⟩,rfl⟩
def Bp (s:aC) (n:bk) (rs:List aP) (p:Pt) (eu:Bool):Int × Int :=
 if (cV s n rs).2 ≠ 0 then (0,(cV s n rs).2)
 else if aM (-30000) 30000 [p.x,p.y]=true then (0,7)
 else if eu=true then mI (bz (kg cF (p.x - n.pos.x) (p.y - n.pos.y)) (jR s n rs))
 else mI (bz (kg dB (p.x - n.pos.x) (p.y - n.pos.y)) (dO s n rs))
theorem KK (one:Bool) (s:aC) (h:s.Ok) (n:bk) (rs:List aP) (f:Bool) (hr:rs.length≤maxLen) (p:Pt) (eu:Bool) :
  Pu one 31 [.ag (bf s),.ag (jW n),.sl (rs.map aL) f,.ag (NK p),BB eu] (.tp [ah (Bp s n rs p eu).1,ah (Bp s n rs p eu).2]):=by
 have hen:=qf one s h n rs f hr
 have o1:=qe one (-30000) 30000 p.x p.y
 unfold Bp
 by_cases e0:(cV s n rs).2=0
 ·rw [if_neg (by omega)]
  have ho:=kO e0
  rw [e0] at hen
  cases e1:aM (-30000) 30000 [p.x,p.y] with
  | true =>
   rw [e1] at o1
   refine af.body (fn:=Tryz.f31) rfl rfl rfl rfl ?_
   refine aa (mu:=fun _=>false) ?_
   repeat' (first |refine u1 ?_ |refine u2 ?_ |refine af.call hen rfl rfl ?_ |refine af.call o1 rfl rfl ?_ |fail)
   exact ⟨[_,_],⟨Fz.deep rfl,Fz.deep rfl,trivial⟩,rfl⟩
  | false =>
   rw [e1] at o1
   have bx:=(bH.1 e1) p.x (by simp)
   have by':=(bH.1 e1) p.y (by simp)
   have hx:=ho.x
   have hy:=ho.y
   have hv:=nx true s n rs f p (by omega) (by omega)
   cases eu with
   | true =>
    have c1:=Bh true f ho
    have c2:=ho.ch true f
    have c3:=Jj true f ho (p.x - n.pos.x) (p.y - n.pos.y) (by omega) (by omega)
    simp only [Bool.false_eq_true,if_false,if_true]
    generalize mI (bz (kg cF (p.x - n.pos.x) (p.y - n.pos.y)) (jR s n rs))=z at *
    refine af.body (fn:=Tryz.f31) rfl rfl rfl rfl ?_
    refine aa (mu:=fun _=>false) ?_
    repeat' (first |refine af.call hen rfl rfl ?_ |refine af.call o1 rfl rfl ?_ |refine ⟨_,_,.inl ⟨rfl,rfl⟩,c1,?_⟩ |refine ⟨_,_,.inl ⟨rfl,rfl⟩,c2,?_⟩ |refine ⟨_,_,.inl ⟨rfl,rfl⟩,hv,?_⟩ |refine ⟨_,_,.inl ⟨rfl,rfl⟩,c3,?_⟩ |refine u1 ?_ |refine u2 ?_ |fail)
    exact ⟨[_,_],⟨Fz.deep rfl,Fz.deep rfl,trivial⟩,rfl⟩
   | false =>
    have c1:=nE true f ho
    have c2:=ho.cl true f
    have c3:=Ji true f ho (p.x - n.pos.x) (p.y - n.pos.y) (by omega) (by omega)
    simp only [Bool.false_eq_true,if_false]
    generalize mI (bz (kg dB (p.x - n.pos.x) (p.y - n.pos.y)) (dO s n rs))=z at *
    refine af.body (fn:=Tryz.f31) rfl rfl rfl rfl ?_
    refine aa (mu:=fun _=>false) ?_
    repeat' (first |refine af.call hen rfl rfl ?_ |refine af.call o1 rfl rfl ?_ |refine ⟨_,_,.inl ⟨rfl,rfl⟩,c1,?_⟩ |refine ⟨_,_,.inl ⟨rfl,rfl⟩,c2,?_⟩ |refine ⟨_,_,.inl ⟨rfl,rfl⟩,hv,?_⟩ |refine ⟨_,_,.inl ⟨rfl,rfl⟩,c3,?_⟩ |refine u1 ?_ |refine u2 ?_ |fail)
    exact ⟨[_,_],⟨Fz.deep rfl,Fz.deep rfl,trivial⟩,rfl⟩
 ·rw [if_pos (by omega)]
  have d0:(!decide ((cV s n rs).2=0))=true:=by rw [decide_eq_false e0];rfl
  refine af.body (fn:=Tryz.f31) rfl rfl rfl rfl ?_
  refine aa (mu:=fun _=>false) ?_
  repeat' (first |refine u1 ?_ |refine u2 ?_ |refine af.call hen rfl rfl ?_ |fail)
  exact ⟨[_,_],⟨Fz.deep rfl,Fz.deep rfl,trivial⟩,rfl⟩
def Lo (z:Span × Bool):Int × Int × Int:=if z.2=false then (0,0,9) else (z.1.lo,z.1.hi,0)
def gx (x:Int × Int):Int:=lQ x.1 x.2
def GW (s:aC) (n:bk) (rs:List aP):Int × Int × Int :=
 if (cV s n rs).2 ≠ 0 then (0,0,(cV s n rs).2) else Lo (bz gx (dO s n rs))
theorem M8 (one:Bool) (s:aC) (h:s.Ok) (n:bk) (rs:List aP) (f:Bool) (hr:rs.length≤maxLen) :
  Pu one 32 [.ag (bf s),.ag (jW n),.sl (rs.map aL) f] (.tp [ah (GW s n rs).1,ah (GW s n rs).2.1,ah (GW s n rs).2.2]):=by
 have hen:=qf one s h n rs f hr
 unfold GW
 by_cases e0:(cV s n rs).2=0
 ·rw [if_neg (by omega)]
  have ho:=kO e0
  rw [e0] at hen
  have c1:=nE true f ho
  have c2:=ho.cl true f
  have e1:=qi true 78 [] [] rfl _ _ _ gx _ (ho.gl true f) (fun x hx=>A7 true x.1 x.2 (kP ho hx).1 (kP ho hx).2)
  generalize bz gx (dO s n rs)=z at *
  obtain ⟨z1,z2⟩:=z
  dsimp only at e1
  cases z2 with
  | false =>
   refine af.body (fn:=Tryz.f32) rfl rfl rfl rfl ?_
   refine aa (mu:=fun _=>false) ?_
   repeat' (first |refine af.call hen rfl rfl ?_ |refine ⟨_,_,.inl ⟨rfl,rfl⟩,c1,?_⟩ |refine ⟨_,_,.inl ⟨rfl,rfl⟩,c2,?_⟩ |refine ⟨_,_,.inl ⟨rfl,rfl⟩,e1,?_⟩ |refine u1 ?_ |refine u2 ?_ |refine ⟨fun _=>?_,fun h=>absurd h (by decide)⟩ |fail)
   exact ⟨[_,_,_],⟨Fz.deep rfl,Fz.deep rfl,Fz.deep rfl,trivial⟩,rfl⟩
  | true =>
   refine af.body (fn:=Tryz.f32) rfl rfl rfl rfl ?_
   refine aa (mu:=fun _=>false) ?_
   repeat' (first |refine af.call hen rfl rfl ?_ |refine ⟨_,_,.inl ⟨rfl,rfl⟩,c1,?_⟩ |refine ⟨_,_,.inl ⟨rfl,rfl⟩,c2,?_⟩ |refine ⟨_,_,.inl ⟨rfl,rfl⟩,e1,?_⟩ |refine u1 ?_ |refine u2 ?_ |refine ⟨fun h=>absurd h (by decide),fun _=>?_⟩ |fail)
   exact ⟨[_,_,_],⟨Fz.deep rfl,Fz.deep rfl,Fz.deep rfl,trivial⟩,rfl⟩
 ·rw [if_pos (by omega)]
  have d0:(!decide ((cV s n rs).2=0))=true:=by rw [decide_eq_false e0];rfl
  refine af.body (fn:=Tryz.f32) rfl rfl rfl rfl ?_
  refine aa (mu:=fun _=>false) ?_
  repeat' (first |refine u1 ?_ |refine u2 ?_ |refine af.call hen rfl rfl ?_ |fail)
  exact ⟨[_,_,_],⟨Fz.deep rfl,Fz.deep rfl,Fz.deep rfl,trivial⟩,rfl⟩
end Go.Proofs.YtalcbebjpgfnfaaGreat
open Go Go.RM Go.AirLaw
namespace Go.Proofs.YtalcbebjpgfnfaaGreat
set_option maxRecDepth 100000
set_option maxHeartbeats 4000000
theorem zZ (v:Int × Int→Int) (L:List (Int × Int)) (x:Int × Int):bz v (L++[x])=je v (bz v L) x:=by
 unfold bz
 rw [List.foldl_append]
 rfl
theorem Jk (v:Int × Int→Int) (x:Int × Int):bz v [x]=(⟨v x,v x⟩,true):=by
 unfold bz je
 simp
theorem uD (v:Int × Int→Int):∀ {L:List (Int × Int)},L ≠ []→(bz v L).2=true:=by
 intro L hL
 obtain ⟨l,x,rfl⟩:∃ l x,L=l++[x]:=⟨L.dropLast,L.getLast hL,(List.dropLast_concat_getLast hL).symm⟩
 rw [zZ]
 rfl
end Go.Proofs.YtalcbebjpgfnfaaGreat

open Go Go.RM Go.AirLaw
namespace Go.Proofs.YtalcbebjpgfnfaaGreat
set_option maxRecDepth 100000
set_option maxHeartbeats 4000000
def Jl (s:aC) (n:bk) (g:Nat) (x:Int × Int):Int:=if (g:Int)=n.ei then x.1 else (gr s g).cand.lo
def Fv (s:aC) (n:bk) (L:List (Int × Int)) (far:Int) (g:Nat):Bool:=L.all fun x=>dB far 0 (Jl s n g x) x.2
theorem Jm {s:aC} {g:Nat} (h:g < s.ax.length):(s.ax.map bh)[((g:Nat):Int).toNat]?=some (bh (gr s g)):=by
 unfold gr
 rw [Int.toNat_natCast,List.getElem?_map,List.getD,List.getElem?_eq_getElem h]
 rfl
theorem Jn {s:aC} {g:Nat} (h:g < s.ax.length):gr s g ∈ s.ax:=by
 unfold gr
 rw [Int.toNat_natCast,List.getD,List.getElem?_eq_getElem h]
 exact List.getElem_mem h
def oH (i9:Nat→Int) (D:Nat→Bool):Nat→Int
 | 0=>-1
 | k+1=>if D k=true∧(oH i9 D k < 0∨i9 k < i9 (oH i9 D k).toNat) then (k:Nat) else oH i9 D k
def ki (s:aC) (k:Nat):Int:=(gr s k).i9
def Jo (s:aC) (n:bk) (L:List (Int × Int)) (far:Int):Int:=oH (ki s) (Fv s n L far) s.ax.length
def xW (s:aC) (n:bk) (rs:List aP) (far:Int):Int × Int :=
 if (cV s n rs).2 ≠ 0 then (0,(cV s n rs).2)
 else if aM 0 60000 [far]=true then (0,7)
 else if Bm s n rs false=[] then (0,9)
 else if Jo s n (Bm s n rs false) far < 0 then (0,9)
 else (Jo s n (Bm s n rs false) far,0)
end Go.Proofs.YtalcbebjpgfnfaaGreat
open Go Go.RM Go.AirLaw
namespace Go.Proofs.YtalcbebjpgfnfaaGreat
set_option maxRecDepth 100000
set_option maxHeartbeats 4000000
def OT (A B C:AB) (L:List Int):Nat→List AB
 | 0=>[A,B,C,.cells [.fl (.slice none 0 0)] 0 0]
 | i+1=>[A,B,C,.cells [.bX 4 i 0 (i+1) (i+2)] 0 0,.cells ((L.take (i+1)).map ah) 1 i]
theorem Mk {L:List Int} {i:Nat} {x:List AV} (h:(L.map eI)[i]?=some x):∃ y,L[i]?=some y∧x=eI y:=by
 rw [List.getElem?_map,Option.map_eq_some_iff] at h
 obtain ⟨y,h1,h2⟩:=h
 exact ⟨y,h1,h2.symm⟩
theorem Jp {A B C:AB} (hA:AB.di 5 A=true) (hB:AB.di 5 B=true) (hC:AB.di 5 C=true) (L:List Int) (i v a b:Nat):([A,B,C,.cells [.bX 4 i 0 a b] 0 0,.cells (L.map ah) 1 v]:List AB).all (AB.di 5)=true:=by
 have h:AB.di 5 (.cells (L.map ah) 1 v)=true:=by
  show ig 5 (L.map ah)=true
  induction L with
  | nil=>rfl
  | cons a l ih=>exact ih
 have h':AB.di 5 (.cells [.bX 4 i 0 a b] 0 0)=true:=rfl
 simp only [List.all_cons,List.all_nil,hA,hB,hC,h,h',Bool.and_true]
theorem Jq (one : Bool) (A B C : AB) (hA : AB.di 5 A = true) (hB : AB.di 5 B = true) (hC : AB.di 5 C = true) (n : Nat) (hn : 1 ≤ n ∧ n ≤ 4) {aJ : bN} {Q : AV → List AB → bN → Prop} (hQ : Q (.bX 4 (n - 1) 0 n (n + 1)) [A, B, C, .cells [.bX 4 (n - 1) 0 n (n + 1)] 0 0, .cells ((eJ ⟨0, (n : Int) - 1⟩).map ah) 1 (n - 1)] aJ) :
   bl TT TB one (.fn 117 [] []) [.fl (.slice none 0 0), D6 ⟨0, (n : Int) - 1⟩] [A, B, C] aJ Q := by
  have hg := nC one ⟨0, (n : Int) - 1⟩ (by dsimp only; omega)
  have hl : (eJ ⟨0, (n : Int) - 1⟩).length = n := by rw [cW]; unfold av; dsimp only; omega
  generalize eJ ⟨0, (n : Int) - 1⟩ = L at *
  refine bl.body (fn := Tryz.f117) rfl rfl rfl ?_
  refine RM.de (mu := fun t => Nat.beq t 2 || Nat.beq t 11) ?_
  repeat' (first |refine u1 ?_ |fail)
  refine az.seq ?_
  refine RM.de (mu := fun t => Nat.beq t 2 || Nat.beq t 11) ?_
  repeat' (first |refine u1 ?_ |fail)
  refine az.block ?_
  refine az.range (OT A B C L) (fun _ => aJ) (fun _ => True) rfl hg rfl rfl trivial (fun i x hx _ => ?_) (fun _ => ?_)
  · obtain ⟨x, hxi, rfl⟩ := Mk hx
    have hil := (List.getElem?_eq_some_iff.1 hxi).1
    have hte : L.take (i + 1) = L.take i ++ [x] := by rw [List.take_add_one, hxi]; rfl
    refine ⟨rfl, ?_⟩
    cases i with
    | zero =>
      refine aa (mu := fun t => Nat.beq t 2 || Nat.beq t 11) ?_
      repeat' (first |refine u1 ?_ |refine u2 ?_ |fail)
      refine aa (mu := fun t => Nat.beq t 2 || Nat.beq t 11) ?_
      repeat' (first |((with_reducible show RM.wpOp _ _ (.call _) _ _ _);refine RM.NW (els := [eI x]) rfl rfl rfl rfl rfl rfl (fun el hel => by rw [List.mem_singleton.1 hel]; rfl) rfl rfl (by simp only [List.length_singleton]; omega) ?_) |refine u1 ?_ |refine u2 ?_ |fail)
      exact ⟨_, ai.to (l := []) (hp := [A, B, C, .cells [.bX 4 0 0 (0 + 1) (0 + 2)] 0 0, .cells ((L.take (0 + 1)).map ah) 1 0]) 5 (by rw [hte]; rfl) trivial (Nat.le_of_ble_eq_true rfl) rfl (Jp hA hB hC _ _ _ _ _)⟩
    | succ i =>
      have hll : ((L.take (i + 1)).map ah).length = i + 1 := by rw [List.length_map, List.length_take]; omega
      refine aa (mu := fun t => Nat.beq t 2 || Nat.beq t 11) ?_
      repeat' (first |refine u1 ?_ |refine u2 ?_ |fail)
      refine aa (mu := fun t => Nat.beq t 2 || Nat.beq t 11) ?_
      repeat' (first |((with_reducible show RM.wpOp _ _ (.call _) _ _ _);refine RM.NX (els := [eI x]) rfl rfl rfl rfl rfl (fun el hel => by rw [List.mem_singleton.1 hel]; rfl) rfl rfl rfl (by rw [hll]; exact (Nat.mul_one _).symm) (.inr rfl) (by simp only [List.length_singleton]; omega) ?_) |refine u1 ?_ |refine u2 ?_ |fail)
      exact ⟨_, ai.to (l := []) (hp := [A, B, C, .cells [.bX 4 (i + 1) 0 (i + 1 + 1) (i + 1 + 2)] 0 0, .cells ((L.take (i + 1 + 1)).map ah) 1 (i + 1)]) 5 (by rw [hte, List.map_append]; rfl) trivial (Nat.le_of_ble_eq_true rfl) rfl (Jp hA hB hC _ _ _ _ _)⟩
  · rw [List.length_map, hl]
    obtain ⟨m, rfl⟩ : ∃ m, n = m + 1 := ⟨n - 1, by omega⟩
    have htk : L.take (m + 1) = L := List.take_of_length_le (by omega)
    show jx _ _ _ ⟨_, [A, B, C, .cells [.bX 4 m 0 (m + 1) (m + 2)] 0 0, .cells ((L.take (m + 1)).map ah) 1 m], _, _, _⟩
    rw [htk]
    refine RM.d3 ?_
    refine RM.c9 ?_
    refine aa (mu := fun t => Nat.beq t 2 || Nat.beq t 11) ?_
    repeat' (first |refine u1 ?_ |fail)
    exact hQ
theorem GX (one:Bool) (A B C:AB) (hA:AB.di 5 A=true) (hB:AB.di 5 B=true) (hC:AB.di 5 C=true) (n:Nat) (hn:1≤n∧n≤4) {aJ:bN} {Q:AV→List AB→bN→Prop} (hQ:Q (.bX 4 (n - 1) 0 n (n+1)) [A,B,C,.cells [.bX 4 (n - 1) 0 n (n+1)] 0 0,.cells ((eJ ⟨0,(n:Int) - 1⟩).map ah) 1 (n - 1)] aJ) :
  bl TT TB one (.fn 80 [] []) [D6 ⟨0,(n:Int) - 1⟩] [A,B,C] aJ Q:=by
 refine bl.body (fn:=Tryz.f80) rfl rfl rfl ?_
 refine aa (mu:=fun _=>false) ?_
 repeat' (first |refine Jq one A B C hA hB hC n hn ?_ |refine u1 ?_ |fail)
 exact hQ
theorem Ml (one:Bool) (s:aC) (a b:Nat) (ha:a < s.ax.length) (hb:b < s.ax.length):af TT TB one (.fn 83 [] [.pt (bf s) 0]) [ah a,ah b] (ah (fj (ki s a) (ki s b))):=by
 have hata:=Jm ha
 have hatb:=Jm hb
 have hv:=Fm true (ki s a) (ki s b)
 unfold ki at *
 refine af.body (fn:=Tryz.f83) rfl rfl rfl rfl ?_
 refine aa (mu:=fun _=>false) ?_
 repeat' (first |refine u1 ?_ |refine u2 ?_ |fail)
 exact ⟨[_],⟨Fz.deep rfl,trivial⟩,rfl⟩
section
variable (c : Int → Int → Int)
def Rb (a b:Int):Prop:=c a b < 0∨c a b=0∧a < b
def pQ (S:List Int) (m:Nat):Prop:=∀ p q:Nat,p < q→q < m→Rb c (S.getD p 0) (S.getD q 0)
end
def swapAt (S:List Int) (j:Nat):List Int:=(S.set j (S.getD (j - 1) 0)).set (j - 1) (S.getD j 0)
theorem Jr (S:List Int) (j:Nat):(swapAt S j).length=S.length:=by unfold swapAt;simp
theorem swap_perm (S:List Int) {j:Nat} (hj:j < S.length):(swapAt S j).Perm S:=by
 unfold swapAt
 have h1:j - 1 < S.length:=by omega
 rw [List.getD_eq_getElem?_getD,List.getD_eq_getElem?_getD (i:=j),List.getElem?_eq_getElem h1,List.getElem?_eq_getElem hj]
 exact List.set_set_perm hj h1
theorem De (S:List Int) {j:Nat} (hj:j < S.length) (h0:0 < j) (q:Nat):(swapAt S j).getD q 0=if q=j - 1 then S.getD j 0 else if q=j then S.getD (j - 1) 0 else S.getD q 0:=by
 unfold swapAt
 rw [List.getD_eq_getElem?_getD,List.getElem?_set,List.getElem?_set]
 by_cases h1:j - 1=q
 ·subst h1
  rw [if_pos rfl,if_pos (by rw [List.length_set];omega),if_pos rfl]
  rfl
 ·rw [if_neg h1,if_neg (show ¬ q=j - 1 from fun h=>h1 h.symm)]
  by_cases h2:j=q
  ·subst h2
   rw [if_pos rfl,if_pos hj,if_pos rfl]
   rfl
  ·rw [if_neg h2,if_neg (show ¬ q=j from fun h=>h2 h.symm),List.getD_eq_getElem?_getD]
structure u9 (c:Int→Int→Int) (S:List Int) (i j:Nat):Prop where
 others:∀ p q:Nat,p < q→q≤i→p ≠ j→q ≠ j→Rb c (S.getD p 0) (S.getD q 0)
 above:∀ q:Nat,j < q→q≤i→Rb c (S.getD j 0) (S.getD q 0)
 here:S.getD j 0=i
 less:∀ q:Nat,q≤i→q ≠ j→S.getD q 0 < i
 rest:∀ q:Nat,i < q→q < S.length→S.getD q 0=q
structure xX (c:Int→Int→Int) (S:List Int) (i:Nat):Prop where
 sorted:pQ c S i
 less:∀ q:Nat,q < i→S.getD q 0 < i
 rest:∀ q:Nat,i≤q→q < S.length→S.getD q 0=q
theorem xX.start {c:Int→Int→Int} {S:List Int} {i:Nat} (h:xX c S i) (hi:i < S.length):u9 c S i i :=
 ⟨fun p q h1 h2 h3 h4=>h.sorted p q h1 (by omega),fun q h1 h2=>by omega,h.rest i (Nat.le_refl _) hi,fun q h1 h2=>h.less q (by omega),fun q h1 h2=>h.rest q (by omega) h2⟩
theorem u9.swap {c:Int→Int→Int} {S:List Int} {i j:Nat} (h:u9 c S i j) (hi:i < S.length) (hj:j≤i) (h0:0 < j) (hl:c (S.getD j 0) (S.getD (j - 1) 0) < 0):u9 c (swapAt S j) i (j - 1):=by
 have hg:=fun q=>De S (j:=j) (by omega) h0 q
 constructor
 ·intro p q h1 h2 h3 h4
  rw [hg p,hg q,if_neg h3,if_neg h4]
  by_cases hp:p=j
  ·rw [if_pos hp,if_neg (by omega)]
   exact h.others (j - 1) q (by omega) h2 (by omega) (by omega)
  ·rw [if_neg hp]
   by_cases hq:q=j
   ·rw [if_pos hq]
    exact h.others p (j - 1) (by omega) (by omega) hp (by omega)
   ·rw [if_neg hq]
    exact h.others p q h1 h2 hp hq
 ·intro q h1 h2
  rw [hg (j - 1),hg q,if_pos rfl,if_neg (by omega)]
  by_cases hq:q=j
  ·rw [if_pos hq];exact .inl hl
  ·rw [if_neg hq]
   exact h.above q (by omega) h2
 ·rw [hg (j - 1),if_pos rfl];exact h.here
 ·intro q h1 h2
  rw [hg q,if_neg h2]
  by_cases hq:q=j
  ·rw [if_pos hq];exact h.less (j - 1) (by omega) (by omega)
  ·rw [if_neg hq];exact h.less q h1 hq
 ·intro q h1 h2
  rw [Jr] at h2
  rw [hg q,if_neg (by omega),if_neg (by omega)]
  exact h.rest q h1 h2
theorem u9.done {c:Int→Int→Int} {S:List Int} {i j:Nat} (h:u9 c S i j) (hc:∀ a b,¬ c a b < 0→c b a < 0∨c b a=0) (htr:∀ a b d,Rb c a b→Rb c b d→Rb c a d) (hd:j=0∨¬ c (S.getD j 0) (S.getD (j - 1) 0) < 0):xX c S (i+1):=by
 refine ⟨?_,?_,fun q h1 h2=>h.rest q (by omega) h2⟩
 ·intro p q h1 h2
  by_cases hp:p=j
  ·rw [hp];exact h.above q (by omega) (by omega)
  ·by_cases hq:q=j
   ·rcases hd with hd|hd
    ·omega
    ·have hlast:Rb c (S.getD (j - 1) 0) (S.getD j 0):=by
      rcases hc _ _ hd with h'|h'
      ·exact .inl h'
      ·exact .inr ⟨h',by rw [h.here];exact h.less (j - 1) (by omega) (by omega)⟩
     rw [hq]
     by_cases hpj:p=j - 1
     ·rw [hpj];exact hlast
     ·exact htr _ _ _ (h.others p (j - 1) (by omega) (by omega) hp (by omega)) hlast
   ·exact h.others p q h1 (by omega) hp hq
 ·intro q hq
  by_cases hqj:q=j
  ·rw [hqj,h.here];omega
  ·have:=h.less q (by omega) hqj;omega
abbrev iD (S:List Int) (aD:Nat):AB:=.cells (S.map ah) 1 aD
theorem tw {S:List Int} {q:Nat} (h:q < S.length):(S.map ah)[0+((q:Nat):Int).toNat * 1]?=some (ah (S.getD q 0)):=by
 rw [Int.toNat_natCast,Nat.zero_add,Nat.mul_one,List.getElem?_map,List.getD_eq_getElem?_getD,List.getElem?_eq_getElem h]
 rfl
theorem vM {S:List Int} {k:Nat} (h:k < S.length) (x:Int):cw (S.map ah) [ah x] (0+((k:Nat):Int).toNat * 1)=(S.set k x).map ah:=by
 rw [Int.toNat_natCast,Nat.zero_add,Nat.mul_one,List.map_set,List.set_eq_take_append_cons_drop,if_pos (by rw [List.length_map];exact h)]
 unfold cw
 simp
theorem mX {A B C D:AB} (hA:AB.di 5 A=true) (hB:AB.di 5 B=true) (hC:AB.di 5 C=true) (hD:AB.di 5 D=true) (L:List Int) (v:Nat):([A,B,C,D,.cells (L.map ah) 1 v]:List AB).all (AB.di 5)=true:=by
 have h:AB.di 5 (.cells (L.map ah) 1 v)=true:=by
  show ig 5 (L.map ah)=true
  induction L with
  | nil=>rfl
  | cons a l ih=>exact ih
 simp only [List.all_cons,List.all_nil,hA,hB,hC,hD,h,Bool.and_true]
end Go.Proofs.YtalcbebjpgfnfaaGreat
