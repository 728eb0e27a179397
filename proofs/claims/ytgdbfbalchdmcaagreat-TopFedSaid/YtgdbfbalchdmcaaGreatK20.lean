/-
  Contracts of the program's functions and of the document's. Lemmas alone; their conditions stand in them.
-/
import Derived.Test.YtgdbfbalchdmcaaGreatA3
import Derived.Test.YtgdbfbalchdmcaaGreatX1
import Derived.Test.YtgdbfbalchdmcaaGreatK11
import Derived.Test.YtgdbfbalchdmcaaGreatK12
import Derived.Test.YtgdbfbalchdmcaaGreatK15
import Derived.Test.YtgdbfbalchdmcaaGreatK16
import Derived.Test.YtgdbfbalchdmcaaGreatK18
import Derived.Test.YtgdbfbalchdmcaaGreatK19
import Derived.Test.YtgdbfbalchdmcaaGreatRows
open Go Go.RM
namespace Go.Proofs.YtgdbfbalchdmcaaGreat.St
set_option maxRecDepth 100000
set_option maxHeartbeats 4000000
section
variable {own : Bool} {fr : Nat → AV} {hp : List AB} {K : AV → List AB → Prop} {x : Operand} {n : Int}
theorem PV (hx:bw fr x=.fl (.int .u8 n)) (h:0≤n∧n≤255) (k:K (ak n) hp):RM.wpOp TT own (.convert 5 3 x) fr hp K:=by
 show EM TT 5 3 (bw fr x) hp K
 rw [hx]
 exact ⟨_,rfl,_,OK h,rfl,k⟩
end
abbrev eX (l:List Ev) (kd a b q:Int) (x:List Int):List AV:=[.sl (l.map dZ) false,.fl (.int .u8 kd),Lt a,Lt b,Lt q,.sl (x.map e8) false]
def aK (c:aH) (l:List Ev) (k:Nat):List Int:=(List.range k).map fun d:Nat=>Gj c l (d:Int)
def bK (c:aH) (l:List Ev) (k:Nat):List Int:=(List.range k).map fun d:Nat=>Gj c l (d:Int)+1
theorem Kf (c:aH) (l:List Ev) (k:Nat):(aK c l k).length=k:=by unfold aK;simp
theorem Kg (c:aH) (l:List Ev) (k:Nat):(bK c l k).length=k:=by unfold bK;simp
theorem LN (c:aH) (l:List Ev) (k:Nat):aK c l (k+1)=aK c l k++[Gj c l (k:Int)]:=by unfold aK;rw [List.range_succ,List.map_append];rfl
theorem LO (c:aH) (l:List Ev) (k:Nat):bK c l (k+1)=bK c l k++[Gj c l (k:Int)+1]:=by unfold bK;rw [List.range_succ,List.map_append];rfl
abbrev kn (L:List Int):List AV:=L.map ak
theorem vi:∀ L:List Int,(L.map eI).flatten=kn L
 | []=>rfl
 | x :: L=>by
  rw [List.map_cons,List.flatten_cons,vi L]
  rfl
theorem vj:∀ L:List Int,bU (kn L)=true
 | []=>rfl
 | x :: L=>by
  show (_ && bU (kn L))=true
  rw [vj L]
  rfl
theorem yZ (k:Nat):∀ L:List Int,lP k (kn L)=true
 | []=>rfl
 | x :: L=>by
  show (_ && lP k (kn L))=true
  rw [yZ k L]
  rfl
theorem Eb (k:Nat):∀ L:List Int,zI k (kn L)=true
 | []=>rfl
 | x :: L=>by
  show (_ && zI k (kn L))=true
  rw [Eb k L]
  rfl
theorem FF (R1 R2:List (List AV)) (v w k cc dd:Nat) (A B:List Int):([.cells [.dM 2 v 0 k cc,.sl R1 false,.sl R2 false] 0 0,.cells [.dM 3 w 0 k dd,.sl R1 false,.sl R2 false] 0 0,.cells (kn A) 1 v,.cells (kn B) 1 w]:List AB).all (AB.gM 4)=true:=by
 have h1:AB.gM 4 (.cells (kn A) 1 v)=true:=yZ 4 A
 have h2:AB.gM 4 (.cells (kn B) 1 w)=true:=yZ 4 B
 simp only [List.all_cons,List.all_nil,h1,h2,Bool.and_true]
 rfl
theorem AS {one:Bool} {F v:AV} {a c:List AV} {b:Bool} (h:af TT TB one F (a++.sl [] b :: c) v):af TT TB one F (a++.fl (.slice none 0 0) :: c) v:=by
 refine ⟨h.1,fun X H u us hw hx hF hA=>h.2 X H u us hw hx hF ⟨?_,fun i x w hi hu=>?_⟩⟩
 ·have:=hA.1
  simp only [List.length_append,List.length_cons] at this ⊢
  exact this
 ·by_cases hlt:i < a.length
  ·rw [List.getElem?_append_left hlt] at hi
   exact hA.2 i x w (by rw [List.getElem?_append_left hlt];exact hi) hu
  ·have ha:=fun y=>hA.2 i y w
   rw [List.getElem?_append_right (by omega)] at hi ha
   cases hj:i - a.length with
   | zero =>
    rw [hj] at hi ha
    obtain rfl:=Option.some.inj hi
    have:=ha _ rfl hu
    cases this
    exact .nil
   | succ j =>
    rw [hj] at hi ha
    exact ha x hi hu
theorem HN {s:aC} {A B:List Int} (hFo:(e7 s A).Ok) (hMo:(e7 s B).Ok) (hF:(iD (e7 s A)).2.2=0) (hM:(iD (e7 s B)).2.2=0) {i:Nat} (hi:i < s.kinds.length) {a b q:Int} {x:List Int} (ha:rZ a) (hb:rZ b) (hq:rZ q) (hx:∀ n ∈ x,0≤n∧n≤255) (hxl:x.length≤maxLen) (hl:A.length=B.length) (hle:∀ i,A.getD i 0≤B.getD i 0) :
  ∃ (t:aN) (l:List Count) (L:List (List AV)) (n n0 nm sh:Int),Pu true 10 [.ag (bD s.kinds[i]),.ag [Lt a,Lt b,Lt q]] (.ag (dg t))∧Pu false 11 [.ag (aF (e7 s A)),ak i,.ag (dg t),.sl (x.map e8) false] (.sl (l.map aM) false) ∧
   Pu false 12 [.ag (aF (e7 s A)),.sl (l.map aM) false,ak i] (.tp [ak n,ak 0])∧Pu false 12 [.ag (aF (e7 s A)),.fl (.slice none 0 0),ak i] (.tp [ak n0,ak 0])∧Pu false 12 [.ag (aF (e7 s B)),.fl (.slice none 0 0),ak i] (.tp [ak nm,ak 0]) ∧
   Pu false 13 [.ag (aF (e7 s A)),ak i,.ag (dg t),ak (A.length:Int)] (.tp [.sl L false,ak sh])∧n≤sh∧n0≤n∧nm≤n0:=by
 have hg:=qF hF
 have hgM:=qF hM
 have hkg:=hg.kinds s.kinds[i] (List.getElem_mem hi)
 have hay:=N6 true s.kinds[i] hkg a b q ha hb hq
 have ht:=J7 hkg a b q
 have ht2:=ni.1 ht
 generalize Lz s.kinds[i] a b q=t at *
 have hh0:qI (e7 s A) s.kinds[i] (av i s.ai) []:=⟨hg,hkg,hg.row i,fun c hc=>(by cases hc),Nat.zero_le _⟩
 have hrn:=hh0.run ht2.1 ht2.2.1 ht2.2.2
 have hM2:=fun d=>Gu hrn d
 have hto:Pu false 11 [.ag (aF (e7 s A)),ak i,.ag (dg t),.sl (x.map e8) false] (.sl ((told A.length i (lvl A s.kinds[i] (av i s.ai) t) x).map aM) false):=Ng false (s:=e7 s A) hg (i:=i) hi hrn x hx hxl
 have hz:gv (e7 s A) (told A.length i (lvl A s.kinds[i] (av i s.ai) t) x)=0:=HM (s:=e7 s A) (x:=x) hF (i:=i) hi hM2 hx
 have hall:t ∈ yY (e7 s A) (told A.length i (lvl A s.kinds[i] (av i s.ai) t) x) i s.kinds[i]:=Ke (s:=e7 s A) (i:=i) hi ht hM2 hx
 generalize told A.length i (lvl A s.kinds[i] (av i s.ai) t) x=l at *
 have hz0:gv (e7 s A) []=0:=(vg).2 ⟨hF,Nat.zero_le _,fun c h=>by cases h⟩
 have hz1:gv (e7 s B) []=0:=(vg).2 ⟨hM,Nat.zero_le _,fun c h=>by cases h⟩
 have hru:=Na false (e7 s A) hg i hi t (e7 s A).ah.length hrn
 have hmn:∀ u ∈ yY (e7 s A) [] i s.kinds[i],0≤u.aR:=fun u hu=>by
  have h1:=ni.1 ((Cd).1 hu).1
  have:=hkg.aR
  omega
 rcases qK (e7 s A) hFo l hz i hi with ⟨h1,_⟩|⟨n,h1,_,⟨u,hu,hun⟩,h2⟩
 ·have hall:t ∈ yY (e7 s A) l i (e7 s A).kinds[i]:=hall
  rw [h1] at hall;cases hall
 have hu0:=all_nil hu A
 rcases qK (e7 s A) hFo [] hz0 i hi with ⟨h3,_⟩|⟨n0,h3,_,⟨u0,hu1,hun0⟩,h4⟩
 ·have hu0:u ∈ yY (e7 s A) [] i (e7 s A).kinds[i]:=hu0
  rw [h3] at hu0;cases hu0
 have hu2:=all_nil hu1 B
 rcases qK (e7 s B) hMo [] hz1 i hi with ⟨h5,_⟩|⟨nm,h5,_,_,h6⟩
 ·have hu2:u0 ∈ yY (e7 s B) [] i (e7 s B).kinds[i]:=hu2
  rw [h5] at hu2;cases hu2
 refine ⟨t,l,_,n,n0,nm,_,hay,hto,h1.weak,AS (a:=[.ag (aF (e7 s A))]) (c:=[ak i]) h3.weak,AS (a:=[.ag (aF (e7 s B))]) (c:=[ak i]) h5.weak,hru,h2 t hall,?_,?_⟩
 ·rw [hun]
  exact h4 u hu0
 ·have h7:=h6 u0 hu2
  have h8:=FE (A:=A) (B:=B) (k:=s.kinds[i]) (row:=av i s.ai) (t:=u0) hl hle (hmn u0 hu1)
  rw [hun0]
  exact Int.le_trans h7 h8
theorem Kh (c:aH) (hc:c.Ok) (s:aC) (hs:s.Ok) (l:List Ev) (hl:l.length≤maxLen) (hd:∀ x ∈ l,x.day≤later) (kd a b q:Int) (x:List Int) (hkd:0≤kd∧kd≤255) (ha:rZ a) (hb:rZ b) (hq:rZ q) (hx:∀ n ∈ x,0≤n∧n≤255) (hxl:x.length≤maxLen) :
  Pu false 3 [.ag (bh c),.ag (aF s),.ag (eX l kd a b q x)] (BB true):=by
 have aw6:=N5 false
 have aw7:=NL false
 obtain ⟨p0,e,hlog,hgood⟩:=NM c hc l hl hd
 have o1:=hlog false
 have o2:=yz s hs false
 by_cases h1:e=0
 ·subst h1
  obtain ⟨hm5,hday⟩:=hgood rfl
  by_cases h2:(iD s).2.2=0
  ·rw [h2] at o2
   have hg0:=qF h2
   have h8:=lW hg0.sizes
   have em:((s.ah.map eI).length:Int)=s.ah.length:=by simp
   have ek:(s.kinds.map bD).length=s.kinds.length:=by simp
   have d1:(!decide ((0:Int)=0))=false:=rfl
   have hAl:=Kf c l s.ah.length
   have hBl:=Kg c l s.ah.length
   have hbd:∀ d:Nat,d < s.ah.length→0≤Gj c l (d:Int)∧Gj c l (d:Int)≤5:=fun d hdl=>(hday d (by omega)).2.2.1
   have hAb:∀ n ∈ aK c l s.ah.length,0≤n∧n≤12:=fun n hn=>by
    obtain ⟨d,hdm,rfl⟩:=List.mem_map.1 hn
    have:=hbd d (List.mem_range.1 hdm)
    omega
   have hBb:∀ n ∈ bK c l s.ah.length,0≤n∧n≤12:=fun n hn=>by
    obtain ⟨d,hdm,rfl⟩:=List.mem_map.1 hn
    have:=hbd d (List.mem_range.1 hdm)
    omega
   have hle:∀ i,(aK c l s.ah.length).getD i 0≤(bK c l s.ah.length).getD i 0:=fun i=>by
    unfold aK bK
    rw [List.getD_eq_getElem?_getD,List.getD_eq_getElem?_getD,List.getElem?_map,List.getElem?_map]
    cases (List.range s.ah.length)[i]? with
    | none=>exact Int.le_refl _
    | some d =>
     show Gj c l (d:Int)≤Gj c l (d:Int)+1
     omega
   have hF:=Ea (M:=aK c l s.ah.length) hAl hAb h2
   have hM:=Ea (M:=bK c l s.ah.length) hBl hBb h2
   have hFo:=Gw hs (M:=aK c l s.ah.length) hAl
   have hMo:=Gw hs (M:=bK c l s.ah.length) hBl
   obtain ⟨i,hi,hki⟩:=O5 (a:=kd) (n:=(s.kinds.map bD).length) (by omega)
   rw [ek] at hi
   have hfacts:=HN hFo hMo hF hM hi (x:=x) (a:=a) (b:=b) (q:=q) ha hb hq hx hxl (by rw [hAl,hBl]) hle
   refine af.body (fn:=Tryz.f3) rfl rfl rfl rfl ?_
   refine RM.l5 (mu:=fun _=>false) ?_
   repeat' (first |refine u1 ?_ |refine u2 ?_ |fail)
   refine RM.l5 (mu:=fun _=>false) ?_
   repeat' (first |refine u1 ?_ |((with_reducible show au _ _ _ _ _ _ _ _);refine af.call o1 rfl rfl ?_) |refine u2 ?_ |fail)
   refine RM.l5 (mu:=fun _=>false) ?_
   repeat' (first |refine u1 ?_ |((with_reducible show au _ _ _ _ _ _ _ _);refine af.call o2 rfl rfl ?_) |refine u2 ?_ |fail)
   refine RM.cutAt (st':=⟨bT [(3,.pt (bh c) 0),(4,.pt (aF s) 0),(5,.pt (eX l kd a b q x) 0)],[],bW.none,false,0⟩) ?_ ?_
   ·refine aa (mu:=fun _=>false) ?_
    repeat' (first |refine u1 ?_ |refine u2 ?_ |fail)
    exact .is (aj.to 0 rfl ⟨rfl,rfl,rfl,trivial⟩ (Nat.zero_le _) rfl rfl)
   refine RM.l5 (mu:=fun _=>false) ?_
   repeat' (first |refine u1 ?_ |refine u2 ?_ |fail)
   refine RM.l5 (mu:=fun _=>false) ?_
   repeat' (first |refine u1 ?_ |refine u2 ?_ |fail)
   refine aG.aU (aj.trans (aj.to (l:=[(3,.pt (bh c) 0),(4,.pt (aF s) 0),(5,.pt (eX l kd a b q x) 0),(12,.ptr 0 0 0),(13,.ptr 1 0 0)]) (hp:=[.cells [.fl (.slice none 0 0),.sl (s.kinds.map bD) false,.sl (s.ai.map cr) false] 0 0,.cells [.fl (.slice none 0 0),.sl (s.kinds.map bD) false,.sl (s.ai.map cr) false] 0 0]) 2 rfl ⟨rfl,rfl,rfl,rfl,rfl,trivial⟩ (Nat.zero_le _) rfl rfl) (aj.trans (aj.uS 1) (aj.trans (aj.uS 1) (aj.trans (aj.EY 0 (ds:=[.dM 2 0 0 0 0,.sl (s.kinds.map bD) false,.sl (s.ai.map cr) false]) rfl ⟨iZ.uR,iZ.refl _,iZ.refl _,trivial⟩ rfl) (aj.trans (aj.EY 1 (ds:=[.dM 3 0 0 0 0,.sl (s.kinds.map bD) false,.sl (s.ai.map cr) false]) rfl ⟨iZ.uR,iZ.refl _,iZ.refl _,trivial⟩ rfl) (aj.to (l:=[(3,.pt (bh c) 0),(4,.pt (aF s) 0),(5,.pt (eX l kd a b q x) 0),(12,.ptr 0 0 0),(13,.ptr 1 0 0)]) (hp:=[.cells [.dM 2 0 0 0 0,.sl (s.kinds.map bD) false,.sl (s.ai.map cr) false] 0 0,.cells [.dM 3 0 0 0 0,.sl (s.kinds.map bD) false,.sl (s.ai.map cr) false] 0 0,.cells (kn (aK c l 0)) 1 0,.cells (kn (bK c l 0)) 1 0]) 4 rfl ⟨rfl,rfl,rfl,rfl,rfl,trivial⟩ (Nat.zero_le _) rfl (FF _ _ _ _ _ _ _ _ _))))))) ?_
   refine aG.seq ?_
   refine aa (mu:=fun _=>false) ?_
   repeat' (first |refine u1 ?_ |refine u2 ?_ |fail)
   refine aG.aU (aj.to (l:=[(3,.pt (bh c) 0),(4,.pt (aF s) 0),(5,.pt (eX l kd a b q x) 0),(12,.ptr 0 0 0),(13,.ptr 1 0 0),(14,ak (0:Nat))]) (hp:=[.cells [.dM 2 0 0 0 0,.sl (s.kinds.map bD) false,.sl (s.ai.map cr) false] 0 0,.cells [.dM 3 0 0 0 0,.sl (s.kinds.map bD) false,.sl (s.ai.map cr) false] 0 0,.cells (kn (aK c l 0)) 1 0,.cells (kn (bK c l 0)) 1 0]) 4 rfl ⟨rfl,rfl,rfl,rfl,rfl,rfl,trivial⟩ (Nat.zero_le _) rfl (FF _ _ _ _ _ _ _ _ _)) ?_
   refine aG.loop (fun y:Nat × Nat × Nat × Nat × Nat=>y.1≤s.ah.length∧(y.2.2.1=y.1∨y.2.2.1=y.1+1)∧(y.2.2.2.2=y.1∨y.2.2.2.2=y.1+1)) (fun y=>⟨bT [(3,.pt (bh c) 0),(4,.pt (aF s) 0),(5,.pt (eX l kd a b q x) 0),(12,.ptr 0 0 0),(13,.ptr 1 0 0),(14,ak (y.1:Nat))],[.cells [.dM 2 y.2.1 0 y.1 y.2.2.1,.sl (s.kinds.map bD) false,.sl (s.ai.map cr) false] 0 0,.cells [.dM 3 y.2.2.2.1 0 y.1 y.2.2.2.2,.sl (s.kinds.map bD) false,.sl (s.ai.map cr) false] 0 0,.cells (kn (aK c l y.1)) 1 y.2.1,.cells (kn (bK c l y.1)) 1 y.2.2.2.1],bW.none,false,0⟩) (fun y=>s.ah.length - y.1) ?_ (0,0,0,0,0) ⟨Nat.zero_le _,.inl rfl,.inl rfl⟩
   rintro ⟨k,v,cc,w,dd⟩ ⟨hk,hc1,hc2⟩
   dsimp only at hk hc1 hc2
   show aG _ _ _ _ ⟨bT [(3,.pt (bh c) 0),(4,.pt (aF s) 0),(5,.pt (eX l kd a b q x) 0),(12,.ptr 0 0 0),(13,.ptr 1 0 0),(14,ak (k:Nat))],[.cells [.dM 2 v 0 k cc,.sl (s.kinds.map bD) false,.sl (s.ai.map cr) false] 0 0,.cells [.dM 3 w 0 k dd,.sl (s.kinds.map bD) false,.sl (s.ai.map cr) false] 0 0,.cells (kn (aK c l k)) 1 v,.cells (kn (bK c l k)) 1 w],bW.none,false,0⟩ _
   by_cases hlt:k < s.ah.length
   ·have dl:decide ((k:Int) < ((s.ah.map eI).length:Int))=true:=decide_eq_true (by omega)
    obtain ⟨h8d,hrl,hb5,h9d⟩:=hday (k:Int) (by omega)
    have h8f:=h8d false
    have h9t:=h9d true
    have hA1:=LN c l k
    have hB1:=LO c l k
    have hga:(kn (aK c l k)).length=k * 1:=by rw [List.length_map,Kf];omega
    have hgb:(kn (bK c l k)).length=k * 1:=by rw [List.length_map,Kg];omega
    have d3:(!decide (((NK c l (k:Int)).length:Int)=((c.ah.map cL).length:Int)))=false:=by rw [decide_eq_true (by rw [hrl,List.length_map])];rfl
    generalize NK c l (k:Int)=R at *
    generalize Gj c l (k:Int)=z at *
    refine RM.l5 (mu:=fun _=>false) ?_
    repeat' (first |refine u1 ?_ |refine u2 ?_ |fail)
    refine aG.seq ?_
    refine aG.block ?_
    refine RM.l5 (mu:=fun _=>false) ?_
    repeat' (first |refine u1 ?_ |((with_reducible show au _ _ _ _ _ _ _ _);refine af.call h8f rfl rfl ?_) |refine u2 ?_ |fail)
    refine aa (mu:=fun _=>false) ?_
    repeat' (first |refine u1 ?_ |(refine ⟨_,_,.inl ⟨rfl,rfl⟩,h9t,?_⟩) |((with_reducible show RM.wpOp _ _ (.call _) _ _ _);refine RM.G9 (cs:=kn (aK c l k)) (n:=k) (els:=[[ak z]]) rfl rfl rfl rfl rfl (fun el hel=>by rw [List.mem_singleton.1 hel];rfl) rfl rfl hga hc1 (by simp only [List.length_singleton];exact ⟨by show (_+1) * 8≤_;omega,by omega⟩) (fun v1 c1 hc1'=>?_)) |((with_reducible show RM.wpOp _ _ (.call _) _ _ _);refine RM.G9 (cs:=kn (bK c l k)) (n:=k) (els:=[[ak (z+1)]]) rfl rfl rfl rfl rfl (fun el hel=>by rw [List.mem_singleton.1 hel];rfl) rfl rfl hgb hc2 (by simp only [List.length_singleton];exact ⟨by show (_+1) * 8≤_;omega,by omega⟩) (fun v2 c2 hc2'=>?_)) |refine u2 ?_ |fail)
    refine aa (mu:=fun _=>false) ?_
    repeat' (first |refine u1 ?_ |refine u2 ?_ |fail)
    exact ⟨(k+1,v1,c1,v2,c2),⟨hlt,hc1',hc2'⟩,(by dsimp only;omega),aj.to (l:=[(3,.pt (bh c) 0),(4,.pt (aF s) 0),(5,.pt (eX l kd a b q x) 0),(12,.ptr 0 0 0),(13,.ptr 1 0 0),(14,ak ((k+1):Nat))]) (hp:=[.cells [.dM 2 v1 0 (k+1) c1,.sl (s.kinds.map bD) false,.sl (s.ai.map cr) false] 0 0,.cells [.dM 3 v2 0 (k+1) c2,.sl (s.kinds.map bD) false,.sl (s.ai.map cr) false] 0 0,.cells (kn (aK c l (k+1))) 1 v1,.cells (kn (bK c l (k+1))) 1 v2]) 4 (by rw [hA1,hB1];unfold kn;rw [List.map_append,List.map_append];rfl) ⟨rfl,rfl,rfl,rfl,rfl,aJ (by omega),trivial⟩ (Nat.zero_le _) rfl (FF _ _ _ _ _ _ _ _ _)⟩
   ·have dl:decide ((k:Int) < ((s.ah.map eI).length:Int))=false:=decide_eq_false (by omega)
    have hkn:k=s.ah.length:=by omega
    subst hkn
    refine aa (mu:=fun _=>false) ?_
    repeat' (first |refine u1 ?_ |refine u2 ?_ |fail)
    generalize hA:aK c l s.ah.length=A at *
    generalize hB:bK c l s.ah.length=B at *
    obtain ⟨tr,cl,L,n,n0,nm,sh,q1,q2,q3,q4,q5,q6,e1,e2,e3⟩:=hfacts
    rw [←(show ((A.map eI).length:Int)=A.length by simp)] at q6
    have d4:decide (n≤sh)=true:=decide_eq_true e1
    have d5:decide (n0≤n)=true:=decide_eq_true e2
    have d6:decide (nm≤n0)=true:=decide_eq_true e3
    have d0:decide ((0:Int)=0)=true:=rfl
    refine aG.aU (aj.trans (aj.Jn 2 (l:=[(3,.pt (bh c) 0),(4,.pt (aF s) 0),(5,.pt (eX l kd a b q x) 0),(12,.ptr 0 0 0),(13,.ptr 1 0 0)]) (hp':=[.cells [.sl ((A).map eI) false,.sl (s.kinds.map bD) false,.sl (s.ai.map cr) false] 0 0,.cells [.dM 3 w 0 s.ah.length dd,.sl (s.kinds.map bD) false,.sl (s.ai.map cr) false] 0 0,.gone,.cells (kn B) 1 w]) rfl (Nat.zero_le _) (vj _) ⟨.same rfl,.same rfl,.same rfl,.same rfl,.same rfl,trivial⟩ ⟨GB.cells ⟨.row 1 (by rw [List.length_map,hAl];omega) (by rw [List.length_map,hAl]) (fun el hel=>by obtain ⟨y,_,rfl⟩:=List.mem_map.1 hel;rfl) (by rw [vi,List.drop_zero,List.take_of_length_le (by rw [List.length_map,hAl];omega)]) (fun hf=>Bool.noConfusion hf),.same rfl,.same rfl,trivial⟩,GB.same rfl,rfl,GB.same (Eb 2 B),trivial⟩) (aj.trans (aj.Jn 3 (l:=[(3,.pt (bh c) 0),(4,.pt (aF s) 0),(5,.pt (eX l kd a b q x) 0),(12,.ptr 0 0 0),(13,.ptr 1 0 0)]) (hp':=[.cells [.sl ((A).map eI) false,.sl (s.kinds.map bD) false,.sl (s.ai.map cr) false] 0 0,.cells [.sl ((B).map eI) false,.sl (s.kinds.map bD) false,.sl (s.ai.map cr) false] 0 0,.gone,.gone]) rfl (Nat.zero_le _) (vj _) ⟨.same rfl,.same rfl,.same rfl,.same rfl,.same rfl,trivial⟩ ⟨GB.same rfl,GB.cells ⟨.row 1 (by rw [List.length_map,hBl];omega) (by rw [List.length_map,hBl]) (fun el hel=>by obtain ⟨y,_,rfl⟩:=List.mem_map.1 hel;rfl) (by rw [vi,List.drop_zero,List.take_of_length_le (by rw [List.length_map,hBl];omega)]) (fun hf=>Bool.noConfusion hf),.same rfl,.same rfl,trivial⟩,GB.same rfl,rfl,trivial⟩) (aj.trans (aj.giveUp 0 (l:=[(3,.pt (bh c) 0),(4,.pt (aF s) 0),(5,.pt (eX l kd a b q x) 0),(12,.pt (aF (e7 s A)) 0),(13,.ptr 1 0 0)]) (hp:=[.gone,.cells [.sl ((B).map eI) false,.sl (s.kinds.map bD) false,.sl (s.ai.map cr) false] 0 0,.gone,.gone]) rfl (Nat.zero_le _) rfl ⟨.same rfl,.same rfl,.same rfl,.ptr,.same rfl,trivial⟩ rfl rfl) (aj.trans (aj.giveUp 1 (l:=[(3,.pt (bh c) 0),(4,.pt (aF s) 0),(5,.pt (eX l kd a b q x) 0),(12,.pt (aF (e7 s A)) 0),(13,.pt (aF (e7 s B)) 0)]) (hp:=[.gone,.gone,.gone,.gone]) rfl (Nat.zero_le _) rfl ⟨.same rfl,.same rfl,.same rfl,.same rfl,.ptr,trivial⟩ rfl rfl) (aj.to (l:=[(3,.pt (bh c) 0),(4,.pt (aF s) 0),(5,.pt (eX l kd a b q x) 0),(12,.pt (aF (e7 s A)) 0),(13,.pt (aF (e7 s B)) 0)]) (hp:=[]) 0 rfl ⟨rfl,rfl,rfl,rfl,rfl,trivial⟩ (Nat.zero_le _) rfl rfl))))) ?_
    refine RM.l5 (mu:=fun _=>false) ?_
    repeat' (first |refine u1 ?_ |((with_reducible show RM.wpOp _ _ (.convert _ _ _) _ _ _);refine PV rfl hkd ?_) |refine u2 ?_ |fail)
    refine aG.aU (aj.to (l:=[(3,.pt (bh c) 0),(4,.pt (aF s) 0),(5,.pt (eX l kd a b q x) 0),(12,.pt (aF (e7 s A)) 0),(13,.pt (aF (e7 s B)) 0),(17,ak (i:Nat))]) (hp:=[]) 0 rfl ⟨rfl,rfl,rfl,rfl,rfl,aJ hki,trivial⟩ (Nat.zero_le _) rfl rfl) ?_
    have hat:(s.kinds.map bD)[((i:Nat):Int).toNat]?=some (bD s.kinds[i]):=by rw [List.getElem?_map,Int.toNat_natCast,List.getElem?_eq_getElem hi];rfl
    generalize s.kinds[i]=K at *
    refine aa (mu:=fun _=>false) ?_
    repeat' (first |refine u1 ?_ |(refine ⟨_,_,.inl ⟨rfl,rfl⟩,q1,?_⟩) |((with_reducible show au _ _ _ _ _ _ _ _);refine af.call q2 rfl rfl ?_) |((with_reducible show au _ _ _ _ _ _ _ _);refine af.call q3 rfl rfl ?_) |((with_reducible show au _ _ _ _ _ _ _ _);refine af.call q4 rfl rfl ?_) |((with_reducible show au _ _ _ _ _ _ _ _);refine af.call q5 rfl rfl ?_) |((with_reducible show au _ _ _ _ _ _ _ _);refine af.call q6 rfl rfl ?_) |((with_reducible show au _ _ _ _ _ _ _ _);refine af.call aw6 rfl rfl ?_) |((with_reducible show au _ _ _ _ _ _ _ _);refine af.call aw7 rfl rfl ?_) |((with_reducible show RM.wpOp _ _ (.indexAddr _ _ _) _ _ _);refine ⟨bD K,⟨by omega,hat⟩,rfl,?_⟩) |refine u2 ?_ |fail)
    exact ⟨[_],⟨Fz.deep rfl,trivial⟩,rfl⟩
  ·have d1:(!decide ((0:Int)=0))=false:=rfl
   have d2:(!decide ((iD s).2.2=0))=true:=by rw [decide_eq_false h2];rfl
   generalize (iD s).2.2=f at *
   refine af.body (fn:=Tryz.f3) rfl rfl rfl rfl ?_
   refine aa (mu:=fun _=>false) ?_
   repeat' (first |refine u1 ?_ |((with_reducible show au _ _ _ _ _ _ _ _);refine af.call o1 rfl rfl ?_) |((with_reducible show au _ _ _ _ _ _ _ _);refine af.call o2 rfl rfl ?_) |((with_reducible show au _ _ _ _ _ _ _ _);refine af.call aw6 rfl rfl ?_) |((with_reducible show au _ _ _ _ _ _ _ _);refine af.call aw7 rfl rfl ?_) |refine u2 ?_ |fail)
   exact ⟨[_],⟨Fz.deep rfl,trivial⟩,rfl⟩
 ·have d1:(!decide (e=0))=true:=by rw [decide_eq_false h1];rfl
  refine af.body (fn:=Tryz.f3) rfl rfl rfl rfl ?_
  refine aa (mu:=fun _=>false) ?_
  repeat' (first |refine u1 ?_ |((with_reducible show au _ _ _ _ _ _ _ _);refine af.call o1 rfl rfl ?_) |((with_reducible show au _ _ _ _ _ _ _ _);refine af.call o2 rfl rfl ?_) |((with_reducible show au _ _ _ _ _ _ _ _);refine af.call aw6 rfl rfl ?_) |((with_reducible show au _ _ _ _ _ _ _ _);refine af.call aw7 rfl rfl ?_) |refine u2 ?_ |fail)
  exact ⟨[_],⟨Fz.deep rfl,trivial⟩,rfl⟩
end Go.Proofs.YtgdbfbalchdmcaaGreat.St
namespace Go.Proofs.YtgdbfbalchdmcaaGreat.St
open Go.RM
set_option maxRecDepth 1000000
noncomputable def OA:List XE:=[Oc,Oe,Og,Oi,Ol,On,Ow,Oy]
theorem LQ:∀ e ∈ OA,dJ TT e:=by
 unfold OA
 simp only [List.mem_cons,List.not_mem_nil,or_false]
 rintro e (rfl|rfl|rfl|rfl|rfl|rfl|rfl|rfl)
 ·exact Od
 ·exact Of
 ·exact Oh
 ·exact Oj
 ·exact Om
 ·exact Oo
 ·exact Ox
 ·exact Oz
theorem OB:dJ TT Nv:=gj jg dj LQ 1000 (by kernel_rfl)
end Go.Proofs.YtgdbfbalchdmcaaGreat.St
open Go Go.RM
namespace Go.Proofs.YtgdbfbalchdmcaaGreat.St
open Go.ChangeShapes Go.WideShapes Go.ChangeAt Go.RowKit
theorem PW {n:Int} (h:(Lit.int .u8 n).wf=true):0≤n∧n≤255:=by
 simp only [Lit.wf,Bool.and_eq_true,decide_eq_true_eq] at h
 exact h
theorem O6 {n:Int} (h:(Lit.int .u16 n).wf=true):0≤n∧n≤65535:=by
 simp only [Lit.wf,Bool.and_eq_true,decide_eq_true_eq] at h
 exact h
abbrev OL:Sh:=.int .u8
abbrev Ki:Sh:=.cons OL (.cons (.arr 3 Lo) (.cons (.slice OL) .nil))
theorem Pk {l:List AV} (h:TV OL l):∃ n,(0≤n∧n≤255)∧l=[.fl (.int .u8 n)]:=by
 obtain ⟨n,hn,rfl⟩:=OZ h
 exact ⟨n,PW hn,rfl⟩
theorem Lq {l:List AV} (h:TV Lo l):∃ n,(0≤n∧n≤65535)∧l=[.fl (.int .u16 n)]:=by
 obtain ⟨n,hn,rfl⟩:=OZ h
 exact ⟨n,O6 hn,rfl⟩
theorem O7 {l:List AV} (h:TV (.arr 3 Lo) l):∃ a b c,((0≤a∧a≤65535)∧(0≤b∧b≤65535)∧(0≤c∧c≤65535))∧l=[.fl (.int .u16 a),.fl (.int .u16 b),.fl (.int .u16 c)]:=by
 obtain ⟨els,hl,he,rfl⟩:=PR h
 match els,hl with
 | [x,y,z],_ =>
  obtain ⟨a,ha,rfl⟩:=Lq (he x (by simp))
  obtain ⟨b,hb,rfl⟩:=Lq (he y (by simp))
  obtain ⟨c,hc,rfl⟩:=Lq (he z (by simp))
  exact ⟨a,b,c,⟨ha,hb,hc⟩,rfl⟩
theorem Nh {l:List AV} (h:TV Ki l):∃ (kd a b c:Int) (taken:List (List AV)),((0≤kd∧kd≤255)∧(0≤a∧a≤65535)∧(0≤b∧b≤65535)∧(0≤c∧c≤65535))∧(taken.length≤maxLen∧∀ el ∈ taken,TV OL el)∧l=[.fl (.int .u8 kd),.fl (.int .u16 a),.fl (.int .u16 b),.fl (.int .u16 c),.sl taken false]:=by
 obtain ⟨_,_,h1,k1,rfl⟩:=qC h
 obtain ⟨_,_,h2,k2,rfl⟩:=qC k1
 obtain ⟨_,_,h3,k3,rfl⟩:=qC k2
 obtain rfl:=Kl k3
 obtain ⟨kd,hk,rfl⟩:=Pk h1
 obtain ⟨a,b,c,hh,rfl⟩:=O7 h2
 obtain ⟨els,hl,he,rfl⟩:=M0 h3
 exact ⟨kd,a,b,c,els,⟨hk,hh⟩,⟨hl,he⟩,rfl⟩
end Go.Proofs.YtgdbfbalchdmcaaGreat.St
