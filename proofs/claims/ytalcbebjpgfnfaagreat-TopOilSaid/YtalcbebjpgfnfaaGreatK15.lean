/-
  Contracts of the program's functions and of the document's. Lemmas alone; their conditions stand in them.
-/
import Derived.Test.YtalcbebjpgfnfaaGreatA1
import Derived.Test.YtalcbebjpgfnfaaGreatA3
import Derived.Test.YtalcbebjpgfnfaaGreatK5
import Derived.Test.YtalcbebjpgfnfaaGreatK8
import Derived.Test.YtalcbebjpgfnfaaGreatK13
import Derived.Test.YtalcbebjpgfnfaaGreatK14
open Go Go.RM
namespace Go.Proofs.YtalcbebjpgfnfaaGreat.St
set_option maxRecDepth 100000
theorem kN:∀ (x y:List Int),eN y x=- eN x y
 | [],[]=>by rw [od];rfl
 | [],_ :: _=>by rw [kD,hJ];rfl
 | _ :: _,[]=>by rw [kD,hJ]
 | a :: l,b :: m=>by
  rw [kB,kB]
  have ih:=kN l m
  unfold fj
  by_cases h1:a < b
  ·have h2:¬ b < a:=by omega
   simp [h1,h2]
  ·by_cases h2:b < a
   ·simp [h1,h2]
   ·simp [h1,h2,ih]
theorem lO:∀ {x y z:List Int},eN x y < 0→eN y z < 0→eN x z < 0
 | [],[],z,h,_=>by rw [od] at h;omega
 | [],_ :: _,[],_,h=>by rw [hJ] at h;omega
 | [],_ :: _,_ :: _,_,_=>by rw [kD];omega
 | _ :: _,[],z,h,_=>by rw [hJ] at h;omega
 | _ :: _,_ :: _,[],_,h=>by rw [hJ] at h;omega
 | a :: l,b :: m,c :: n,h,k=>by
  rw [kB] at h k ⊢
  have ih:=@lO l m n
  unfold fj at *
  by_cases h1:a < b
  ·by_cases h2:b < c
   ·have:a < c:=by omega
    simp [this]
   ·by_cases h3:c < b
    ·simp [h2,h3] at k
    ·have:a < c:=by omega
     simp [this]
  ·by_cases h2:b < a
   ·simp [h1,h2] at h
   ·obtain rfl:a=b:=by omega
    simp only [h1,if_false,if_true] at h
    by_cases h2:a < c
    ·simp [h2]
    ·by_cases h3:c < a
     ·simp [h2,h3] at k
     ·simp only [h2,h3,if_false,if_true] at k ⊢
      exact ih h k
def iq (x y:List Int):Prop:=x.length < y.length∨x.length=y.length∧eN x y < 0
instance (x y:List Int):Decidable (iq x y):=by unfold iq;infer_instance
theorem uq {x y z:List Int} (h:iq x y) (k:iq y z):iq x z:=by
 unfold iq at *
 rcases h with h|⟨h1,h2⟩
 ·left;omega
 ·rcases k with k|⟨k1,k2⟩
  ·left;omega
  ·exact .inr ⟨by omega,lO h2 k2⟩
theorem vH {x:List Int}:¬ iq x x:=by
 intro h
 unfold iq at h
 have:=kN x x
 omega
end Go.Proofs.YtalcbebjpgfnfaaGreat.St

open Go Go.RM
namespace Go.Proofs.YtalcbebjpgfnfaaGreat.St
set_option maxRecDepth 100000
set_option maxHeartbeats 4000000
abbrev oh:=List (List Int × Int)
section
variable {τ : Type} (key : τ → List Int)
variable {key}
structure N6 (T:List τ) (E:oh):Prop where
 all:∀ t ∈ T,∃ x ∈ E,x.1=key t
 some:∀ x ∈ E,∃ t ∈ T,x.1=key t
 cnt:∀ x ∈ E,0≤x.2∧x.2≤T.length
end
end Go.Proofs.YtalcbebjpgfnfaaGreat.St
open Go Go.RM
namespace Go.Proofs.YtalcbebjpgfnfaaGreat.St
set_option maxRecDepth 100000
set_option maxHeartbeats 4000000
def b2 (b:Bool):Int:=if b=true then 1 else 0
def NN (key:List Int):List Int:=bZ (fun i=>!decide (key.getD i 0=0)) 0 8
theorem Li (lo hi n:Int):aM lo hi [n]=!kM n lo hi:=by
 rw [dK]
end Go.Proofs.YtalcbebjpgfnfaaGreat.St

open Go Go.RM
namespace Go.Proofs.YtalcbebjpgfnfaaGreat.St
set_option maxRecDepth 100000
set_option maxHeartbeats 4000000
def ij (E:oh) (x:List Nat × Bool × List Int):Prop:=(x.2.1=false→x.1=[]∧x.2.2=[])∧(x.2.1=true→(∃ y ∈ E,NN y.1=x.2.2)∧∀ i ∈ x.1,∀ y,E[i]?=some y→¬ iq (NN y.1) x.2.2)
theorem ij.taken {E:oh} {seen:List Nat} {f:Bool} {bb:List Int} (h:ij E (seen,f,bb)) {i:Nat} {y:List Int × Int} (hy:E[i]?=some y) (hb:f=true→iq (NN y.1) bb):ij E (seen++[i],true,NN y.1):=by
 refine ⟨fun h=>(by cases h),fun _=>⟨⟨y,List.mem_of_getElem? hy,rfl⟩,fun j hj z hz=>?_⟩⟩
 rcases List.mem_append.1 hj with hj|hj
 ·cases f with
  | false =>
   have:=(h.1 rfl).1
   dsimp only at this
   rw [this] at hj
   cases hj
  | true=>exact fun hc=>(h.2 rfl).2 j hj z hz (uq hc (hb rfl))
 ·rw [List.mem_singleton.1 hj,hy] at hz
  cases hz
  exact vH
end Go.Proofs.YtalcbebjpgfnfaaGreat.St



open Go Go.RM
namespace Go.Proofs.YtalcbebjpgfnfaaGreat.St
set_option maxRecDepth 100000
theorem GI {s:aB} {l:List Count}:dY s l=0 ↔ ((ir s).2.2=0∧l.length≤8∧∀ c ∈ l,uw s c=0):=by
 unfold dY
 by_cases h1:(ir s).2.2=0
 ·rw [if_neg (by simpa using h1)]
  by_cases h2:8 < (l.length:Int)
  ·rw [if_pos h2]
   exact ⟨fun h=>absurd h (by decide),fun h=>by omega⟩
  ·rw [if_neg h2]
   constructor
   ·intro h
    refine ⟨h1,by omega,fun c hc=>?_⟩
    obtain ⟨i,hi,rfl⟩:=List.getElem_of_mem hc
    have:=fO h i hi
    unfold D8 at this
    simpa only [List.getElem?_eq_getElem hi] using this
   ·rintro ⟨_,_,h⟩
    rw [eW]
    intro i hi
    unfold D8
    simp only [List.getElem?_eq_getElem hi]
    exact h _ (List.getElem_mem hi)
 ·rw [if_pos h1]
  exact ⟨fun h=>absurd h h1,fun h=>absurd h.1 h1⟩
theorem C3 (s:aB) (h:s.Ok) (l:List Count) (h0:dY s l=0) (i:Nat) (hi:i < s.kinds.length) :
  (oK s l i s.kinds[i]=[]∧Pu true 12 [.ag (aO s),.sl (l.map aG) false,ah i] (.tp [ah 0,ah 9])) ∨
  ∃ n:Int,Pu true 12 [.ag (aO s),.sl (l.map aG) false,ah i] (.tp [ah n,ah 0])∧(0≤n∧n≤s.au.length)∧(∃ t ∈ oK s l i s.kinds[i],n=bA s.au s.kinds[i] (ak i s.aj) t) ∧
   ∀ u ∈ oK s l i s.kinds[i],n≤bA s.au s.kinds[i] (ak i s.aj) u:=by
 have hla:=IG true s h l h0 i hi
 unfold pG at hla
 rcases Ec (s:=s) (k:=s.kinds[i]) (row:=ak i s.aj) (l:=l) (i:=i) with ⟨hn,h9⟩|⟨v,n,hz,hv,hvn,hlow⟩
 ·rw [h9,if_neg (by decide)] at hla
  exact .inl ⟨hn,hla⟩
 ·rw [hz,if_pos rfl] at hla
  exact .inr ⟨n,hla,by rw [hvn];exact zR _ _ _ _,⟨v,hv,hvn⟩,hlow⟩
end Go.Proofs.YtalcbebjpgfnfaaGreat.St
open Go Go.RM
namespace Go.Proofs.YtalcbebjpgfnfaaGreat.St
set_option maxRecDepth 100000
theorem pI:∀ L:List Count,bw ((L.map aG).flatten)=true
 | []=>rfl
 | t :: L=>by
  rw [List.map_cons,List.flatten_cons]
  exact fW rfl (pI L)
theorem pJ (L:List Count):((L.map aG).flatten).length=L.length * 4:=by
 rw [dc (es:=4) fun el he=>by obtain ⟨t,_,rfl⟩:=List.mem_map.1 he;rfl,List.length_map]
end Go.Proofs.YtalcbebjpgfnfaaGreat.St
open Go Go.RM
namespace Go.Proofs.YtalcbebjpgfnfaaGreat.St
set_option maxRecDepth 100000
set_option maxHeartbeats 4000000
theorem IY (one:Bool) (a b:Int):Pu one 46 [ah a,ah b] (.ag (ck ⟨a,b⟩)):=by
 refine af.body (fn:=Tryz.f46) rfl rfl rfl rfl ?_
 refine aa (mu:=fun _=>false) ?_
 repeat' (first |refine u1 ?_ |refine u2 ?_ |fail)
 exact ⟨[_],⟨Fz.deep rfl,trivial⟩,rfl⟩
end Go.Proofs.YtalcbebjpgfnfaaGreat.St
open Go Go.RM
namespace Go.Proofs.YtalcbebjpgfnfaaGreat.St
set_option maxRecDepth 100000
set_option maxHeartbeats 4000000
abbrev e8 (n:Int):List AV:=[.fl (.int .u8 n)]
def uz (m:Nat) (i:Nat) (M x:List Int) (j:Nat):Count :=
 ⟨x.getD (3 * j) 0 % ((m:Int)+1),i,⟨max 0 (M.getD (x.getD (3 * j) 0 % ((m:Int)+1)).toNat 0 - x.getD (3 * j+1) 0 % 20),M.getD (x.getD (3 * j) 0 % ((m:Int)+1)).toNat 0+x.getD (3 * j+2) 0 % 20⟩⟩
def mH (m:Nat) (i:Nat) (M x:List Int) (n:Nat):List Count:=(List.range n).map (uz m i M x)
def told (m:Nat) (i:Nat) (M x:List Int):List Count:=mH m i M x (min 8 (x.length / 3))
theorem GJ (m i:Nat) (M x:List Int) (n:Nat):mH m i M x (n+1)=mH m i M x n++[uz m i M x n]:=by
 unfold mH
 rw [List.range_succ,List.map_append]
 rfl
theorem zS (m i:Nat) (M x:List Int) (n:Nat):(mH m i M x n).length=n:=by
 unfold mH
 simp
theorem Mb {x:List Int} {p:Nat} (h:p < x.length):(x.map e8)[p]?=some (e8 (x.getD p 0)):=by
 rw [List.getElem?_map,List.getD_eq_getElem?_getD,List.getElem?_eq_getElem h]
 rfl
theorem Lj {x:List Int} (hx:∀ n ∈ x,0≤n∧n≤255) (p:Nat):0≤x.getD p 0∧x.getD p 0≤255:=by
 rw [List.getD_eq_getElem?_getD]
 by_cases h:p < x.length
 ·rw [List.getElem?_eq_getElem h]
  exact hx _ (List.getElem_mem h)
 ·rw [List.getElem?_eq_none (by omega)]
  exact ⟨by decide,by decide⟩
theorem Fl {au:List Int} {k:Kind} {row:List Int} {t:aE} (h:eK au k row t) (d:Nat):0≤(lvl au k row t).getD d 0∧(lvl au k row t).getD d 0≤300:=by
 rw [List.getD_eq_getElem?_getD]
 unfold lvl
 rw [List.getElem?_map]
 by_cases hd:d < au.length+1
 ·rw [List.getElem?_range hd]
  exact h.zE _ _ (by omega)
 ·rw [List.getElem?_eq_none (by simp;omega)]
  exact ⟨Int.le_refl 0,Int.le_of_lt (show (0:Int) < 300 by decide)⟩
abbrev tB (L:List Count):AB:=.cells ((L.map aG).flatten) 4 L.length
abbrev tV (L:List Count):AV:=.bX 0 L.length 0 L.length (L.length+1)
theorem IZ (L:List Count):([tB L]:List AB).all (AB.di 1)=true:=by
 rw [List.all_cons,List.all_nil,Bool.and_true]
 exact bV 1 (.ag _) (pI L)
theorem Ll (L:List Count):Fz [tB L] (tV L) (.sl (L.map aG) false) :=
 Fz.row (es:=4) rfl (by rw [pJ];omega) (by simp) (fun el hel=>by obtain ⟨x,_,rfl⟩:=List.mem_map.1 hel;rfl) (by rw [List.drop_zero,List.take_of_length_le (by rw [pJ];omega)]) (pI L) (fun h=>Bool.noConfusion h)
theorem Kz (L:List Count) (c:Count):tB (L++[c])=.cells ((L.map aG).flatten++[aG c].flatten) 4 (L.length+1):=by
 show AB.cells _ _ _=_
 rw [List.map_append,List.flatten_append,List.length_append]
 rfl
theorem KA (L:List Count) (c:Count):tV (L++[c])=.bX 0 (L.length+1) 0 (L.length+1) (L.length+1+1):=by
 show AV.bX _ _ _ _ _=_
 rw [List.length_append]
 rfl
theorem Mc (one:Bool) {s:aB} (hg:Good s) {i:Nat} (hi:i < s.kinds.length) {t:aE} (h:eK s.au s.kinds[i] (ak i s.aj) t) (x:List Int) (hx:∀ n ∈ x,0≤n∧n≤255) (hxl:x.length≤maxLen) :
  Pu one 11 [.ag (aO s),ah i,.ag (aV t),.sl (x.map e8) false] (.sl ((told s.au.length i (lvl s.au s.kinds[i] (ak i s.aj) t) x).map aG) false):=by
 unfold maxLen at hxl
 have em:((s.au.map eI).length:Int)=s.au.length:=by simp
 have ex:((x.map e8).length:Int)=x.length:=by simp
 have h8:=fo hg.sizes
 obtain ⟨u,b,hfo⟩:=IX one hg hi h
 rw [←em] at hfo
 have hML:=vJ s.au s.kinds[i] (ak i s.aj) t
 have hMB:=fun d=>Fl h d
 unfold told
 generalize lvl s.au s.kinds[i] (ak i s.aj) t=M at *
 generalize bA s.au s.kinds[i] (ak i s.aj) t=sh at *
 refine af.body (fn:=Tryz.f11) rfl rfl rfl rfl ?_
 refine aa (mu:=fun t=>Nat.beq t 81) ?_
 repeat' (first |refine u1 ?_ |refine u2 ?_ |refine af.call hfo rfl rfl ?_ |fail)
 refine az.aK (ai.trans (ai.ue 4) (ai.MI (l:=[(1,ah i),(3,.sl (x.map e8) false),(4,.pt (aO s) 0),(9,.sl (M.map eI) false),(13,tV (([]:List Count))),(14,ah (3 * 0:Nat))]) (hp:=[tB []]) 1 rfl ⟨dR.refl _,dR.refl _,dR.refl _,dR.refl _,dR.ud,dR.refl _,trivial⟩ (Nat.zero_le _) rfl (IZ _))) ?_
 refine az.loop (fun j:Nat=>j≤min 8 (x.length / 3)) (fun j=>⟨aX [(1,ah i),(3,.sl (x.map e8) false),(4,.pt (aO s) 0),(9,.sl (M.map eI) false),(13,tV (mH s.au.length i M x j)),(14,ah (3 * j:Nat))],[tB (mH s.au.length i M x j)],bN.none,false,0⟩) (fun j=>x.length - j) ?_ 0 (Nat.zero_le _)
 intro j hj
 have hjl:=zS s.au.length i M x j
 have hj8:j≤8:=Nat.le_trans hj (Nat.min_le_left _ _)
 refine aa (mu:=fun t=>Nat.beq t 81) ?_
 by_cases hlt:j < min 8 (x.length / 3)
 ·have hsu:=GJ s.au.length i M x j
  unfold uz at hsu
  generalize hL:mH s.au.length i M x j=L at *
  have hq:3 * j+2 < x.length:=by omega
  have d1:decide (((3 * j:Nat):Int)+2 < ((x.map e8).length:Int))=true:=decide_eq_true (by omega)
  have d2:decide ((L.length:Int) < 8)=true:=decide_eq_true (by omega)
  have g0:=Mb (x:=x) (p:=((3 * j:Nat):Int).toNat) (by omega)
  have g1:=Mb (x:=x) (p:=(((3 * j:Nat):Int)+1).toNat) (by omega)
  have g2:=Mb (x:=x) (p:=(((3 * j:Nat):Int)+2).toNat) (by omega)
  rw [show x.getD ((3 * j:Nat):Int).toNat 0=x.getD (3 * j) 0 by congr 1] at g0
  rw [show x.getD (((3 * j:Nat):Int)+1).toNat 0=x.getD (3 * j+1) 0 by congr 1] at g1
  rw [show x.getD (((3 * j:Nat):Int)+2).toNat 0=x.getD (3 * j+2) 0 by congr 1] at g2
  have b0:=Lj hx (3 * j)
  have b1:=Lj hx (3 * j+1)
  have b2:=Lj hx (3 * j+2)
  generalize x.getD (3 * j) 0=x0 at *
  generalize x.getD (3 * j+1) 0=x1 at *
  generalize x.getD (3 * j+2) 0=x2 at *
  have m0:=Int.emod_nonneg x0 (b:=(s.au.length:Int)+1) (by omega)
  have m1:=Int.emod_lt_of_pos x0 (b:=(s.au.length:Int)+1) (by omega)
  have hmd:=hMB (x0 % ((s.au.length:Int)+1)).toNat
  have hgd:=A9 (L:=M) (d:=x0 % ((s.au.length:Int)+1)) (by omega)
  rw [←em] at hsu m0 m1 hmd hgd
  generalize M.getD (x0 % (((s.au.map eI).length:Int)+1)).toNat 0=md at *
  have hsp:=IY true (max 0 (md - x1 % 20)) (md+x2 % 20)
  repeat' (first |refine ⟨_,NM b0,rfl,?_⟩ |refine ⟨_,NM b1,rfl,?_⟩ |refine ⟨_,NM b2,rfl,?_⟩ |refine ⟨_,hsp,?_⟩ |refine u1 ?_ |with_reducible refine RM.EL rfl ?_ |refine u2 ?_ |refine ⟨e8 x0,⟨by omega,g0⟩,rfl,?_⟩ |refine ⟨e8 x1,⟨by omega,g1⟩,rfl,?_⟩ |refine ⟨e8 x2,⟨by omega,g2⟩,rfl,?_⟩ |refine ⟨eI md,⟨by omega,hgd⟩,rfl,?_⟩ |fail)
  refine ⟨[aG ⟨x0 % (((s.au.map eI).length:Int)+1),i,⟨max 0 (md - x1 % 20),md+x2 % 20⟩⟩],⟨(fun el hel=>by rw [List.mem_singleton.1 hel];rfl),rfl⟩,rfl,_,rfl,(by rw [pJ]),Or.inr rfl,And.intro (by dsimp only [List.length];omega) (by dsimp only [List.length];omega),fun hn=>absurd hn (by simp),fun _=>?_⟩
  repeat' (first |refine u1 ?_ |refine u2 ?_ |fail)
  refine ⟨j+1,by omega,(by dsimp only;omega),?_⟩
  show ai _ ⟨aX [(1,ah i),(3,.sl (x.map e8) false),(4,.pt (aO s) 0),(9,.sl (M.map eI) false),(13,tV (mH s.au.length i M x (j+1))),(14,ah (3 * (j+1):Nat))],[tB (mH s.au.length i M x (j+1))],bN.none,false,0⟩
  rw [hsu]
  exact ai.to 1 (by rw [Kz];rfl) ⟨rfl,rfl,rfl,rfl,(by rw [KA];rfl),aH (by omega),trivial⟩ (Nat.zero_le _) rfl (IZ _)
 ·have hjn:j=min 8 (x.length / 3):=by omega
  subst hjn
  have hd:decide (((3 * min 8 (x.length / 3):Nat):Int)+2 < ((x.map e8).length:Int))=false∨decide (((mH s.au.length i M x (min 8 (x.length / 3))).length:Int) < 8)=false:=by
   by_cases h1:3 * min 8 (x.length / 3)+2 < x.length
   ·exact .inr (decide_eq_false (by omega))
   ·exact .inl (decide_eq_false (by omega))
  generalize hL:mH s.au.length i M x (min 8 (x.length / 3))=L at *
  cases hd1:decide (((3 * min 8 (x.length / 3):Nat):Int)+2 < ((x.map e8).length:Int)) with
  | false =>
   repeat' (first |refine u1 ?_ |fail)
   exact ⟨[_],⟨Ll _,trivial⟩,rfl⟩
  | true =>
   have d2:decide ((L.length:Int) < 8)=false:=by
    rcases hd with hd|hd
    ·rw [hd1] at hd;cases hd
    ·exact hd
   repeat' (first |refine u1 ?_ |fail)
   exact ⟨[_],⟨Ll _,trivial⟩,rfl⟩
end Go.Proofs.YtalcbebjpgfnfaaGreat.St
open Go Go.RM
namespace Go.Proofs.YtalcbebjpgfnfaaGreat.St
set_option maxRecDepth 100000
set_option maxHeartbeats 4000000
theorem I2 (m i:Nat) (M x:List Int):(told m i M x).length≤8:=by
 unfold told
 rw [zS]
 exact Nat.min_le_left _ _
theorem C4 {m i:Nat} {M x:List Int} {c:Count} (h:c ∈ told m i M x):∃ j,c=uz m i M x j:=by
 unfold told mH at h
 obtain ⟨j,_,rfl⟩:=List.mem_map.1 h
 exact ⟨j,rfl⟩
theorem GK {s:aB} {i:Nat} {M x:List Int} (hc:(ir s).2.2=0) (hi:i < s.kinds.length) (hM:∀ d,0≤M.getD d 0∧M.getD d 0≤300) (hx:∀ n ∈ x,0≤n∧n≤255):dY s (told s.au.length i M x)=0:=by
 rw [GI]
 refine ⟨hc,I2 _ _ _ _,fun c h=>?_⟩
 obtain ⟨j,rfl⟩:=C4 h
 have b0:=Lj hx (3 * j)
 have b1:=Lj hx (3 * j+1)
 have b2:=Lj hx (3 * j+2)
 unfold uz
 generalize x.getD (3 * j) 0=x0 at *
 generalize x.getD (3 * j+1) 0=x1 at *
 generalize x.getD (3 * j+2) 0=x2 at *
 have m0:=Int.emod_nonneg x0 (b:=(s.au.length:Int)+1) (by omega)
 have m1:=Int.emod_lt_of_pos x0 (b:=(s.au.length:Int)+1) (by omega)
 generalize x0 % ((s.au.length:Int)+1)=d at *
 have hm:=hM d.toNat
 generalize M.getD d.toNat 0=md at *
 unfold uw
 have e1:aM 0 ((s.kinds.length:Int) - 1) [(i:Int)]=false:=by rw [Li,fm.2 (by omega)];rfl
 have e2:aM 0 (s.au.length:Int) [d]=false:=by rw [Li,fm.2 (by omega)];rfl
 have e3:aM 0 600 [max 0 (md - x1 % 20),md+x2 % 20]=false:=by
  rw [fX]
  intro n hn
  simp only [List.mem_cons,List.not_mem_nil,or_false] at hn
  omega
 have e4:decide (md+x2 % 20 < max 0 (md - x1 % 20))=false:=decide_eq_false (by omega)
 dsimp only
 rw [e1,e2,e3,e4]
 rfl
theorem KB {m i:Nat} {M x:List Int} (hM:∀ d,0≤M.getD d 0∧M.getD d 0≤300) (hx:∀ n ∈ x,0≤n∧n≤255) {c:Count} (h:c ∈ told m i M x):CU M c=true:=by
 obtain ⟨j,rfl⟩:=C4 h
 have b1:=Lj hx (3 * j+1)
 have b2:=Lj hx (3 * j+2)
 unfold uz CU
 dsimp only
 have hm:=hM (x.getD (3 * j) 0 % ((m:Int)+1)).toNat
 rw [fm]
 omega
theorem I3 {s:aB} {i:Nat} (hi:i < s.kinds.length) {t:aE} (ht:kF s.kinds[i] t=true) {x:List Int} (hM:∀ d,0≤(lvl s.au s.kinds[i] (ak i s.aj) t).getD d 0∧(lvl s.au s.kinds[i] (ak i s.aj) t).getD d 0≤300) (hx:∀ n ∈ x,0≤n∧n≤255) :
  t ∈ oK s (told s.au.length i (lvl s.au s.kinds[i] (ak i s.aj) t) x) i s.kinds[i]:=by
 rw [Ky]
 refine ⟨ht,?_⟩
 unfold L7
 rw [List.all_eq_true]
 intro c hc
 rw [KB hM hx hc]
 simp
end Go.Proofs.YtalcbebjpgfnfaaGreat.St
open Go Go.RM
namespace Go.Proofs.YtalcbebjpgfnfaaGreat.St
set_option maxRecDepth 100000
set_option maxHeartbeats 4000000
section
variable {own : Bool} {fr : Nat → AV} {hp : List AB} {K : AV → List AB → Prop} {x : Operand} {n : Int}
theorem vw (hx:aQ fr x=.fl (.int .u8 n)) (h:0≤n∧n≤255) (k:K (ah n) hp):RM.wpOp TT own (.convert 5 3 x) fr hp K:=by
 show Az TT 5 3 (aQ fr x) hp K
 rw [hx]
 exact ⟨_,rfl,_,NM h,rfl,k⟩
theorem tC (hx:aQ fr x=G2 n) (h:0≤n∧n≤65535) (k:K (ah n) hp):RM.wpOp TT own (.convert 32 3 x) fr hp K:=by
 show Az TT 32 3 (aQ fr x) hp K
 rw [hx]
 exact ⟨_,rfl,_,Kl h,rfl,k⟩
end
def tl:Nat→Code→Code
 | n+1,.seq _ b=>tl n b
 | _,c=>c
noncomputable def N7:Code:=tl 15 (Tryz.f3.body.getD .skip)
abbrev eX (g m0 m1 kd a b c:Int) (x:List Int):List AV:=[.fl (.int .u8 g),G2 m0,G2 m1,.fl (.int .u8 kd),G2 a,G2 b,G2 c,.sl (x.map e8) false]
theorem Md (st:aC) (s:aB) (h:s.Ok) (he:(ir s).2.2=0) (i:Nat) (hi:i < s.kinds.length) (g m0 m1 kd a b c:Int) (x:List Int) (ha:qO a) (hb:qO b) (hc:qO c) (_:0≤kd∧kd≤255) (hx:∀ n ∈ x,0≤n∧n≤255) (hxl:x.length≤maxLen) (G lv mv r:Int) (hlv:0≤lv∧lv≤mv∧mv≤1440)
  (o3:Pu true 8 [.ag (bf st),ah G,ah (lv+c % (mv - lv+1))] (.tp [ah r,ah 0])) (hr:s.kinds[i].ay.lo≤r∧r≤s.kinds[i].ay.hi) (aw6:Pu false 6 [] (BB true)) :
  az TT TB false N7 ⟨aX [(3,.pt (bf st) 0),(5,.pt (eX g m0 m1 kd a b c x) 0),(13,ah G),(14,ah lv),(15,ah mv),(20,ah i),(21,.pt (aO s) 0)],[],bN.none,false,0⟩ (JK TT Tryz.f3.results.toList (BB true)):=by
 have aw7:=Kj false
 have hg:=ta he
 have h8:=fo hg.sizes
 have em:((s.au.map eI).length:Int)=s.au.length:=by simp
 have ek:((s.kinds.map bG).length:Int)=s.kinds.length:=by simp
 have hkg:=hg.kinds _ (List.getElem_mem hi)
 have hay:=MX true s.kinds[i] hkg a b c ha hb hc
 have ht0:=jQ.1 (IW hkg a b c)
 generalize Km s.kinds[i] a b c=t0 at *
 have ht:kF s.kinds[i] ⟨t0.first,t0.aR,r⟩=true:=jQ.2 ⟨ht0.1,ht0.2.1,hr⟩
 have htr:=Kh true s.kinds[i] ⟨t0.first,t0.aR,r⟩
 rw [ht] at htr
 generalize ht1:(⟨t0.first,t0.aR,r⟩:aE)=t at *
 have ht2:=jQ.1 ht
 have hh0:lR s s.kinds[i] (ak i s.aj) []:=⟨hg,hkg,hg.row i,fun c hc=>(by cases hc),Nat.zero_le _⟩
 have hrn:=hh0.run ht2.1 ht2.2.1 ht2.2.2
 have hM:=fun d=>Fl hrn d
 have hto:=Mc false hg hi hrn x hx hxl
 have hz:=GK (x:=x) he hi hM hx
 have hall:=I3 hi ht hM hx
 have hc8:=IP hz
 generalize hl:told s.au.length i (lvl s.au s.kinds[i] (ak i s.aj) t) x=l at *
 obtain ⟨n,hla,hn⟩:∃ n:Int,Pu false 12 [.ag (aO s),.sl (l.map aG) false,ah i] (.tp [ah n,ah 0])∧n≤bA s.au s.kinds[i] (ak i s.aj) t:=by
  rcases C3 s h l hz i hi with ⟨h1,_⟩|⟨n,h1,_,_,h2⟩
  ·rw [h1] at hall;cases hall
  ·exact ⟨n,h1.weak,h2 t hall⟩
 obtain ⟨L,hru⟩:∃ L,Pu false 13 [.ag (aO s),ah i,.ag (aV t),ah ((s.au.map eI).length:Int)] (.tp [.sl L false,ah (bA s.au s.kinds[i] (ak i s.aj) t)]):=⟨_,by rw [em];exact Iw false s hg i hi t s.au.length hrn⟩
 have hwin:∀ m:Nat,m≤300→∃ L,Pu true 13 [.ag (aO (CZ s ⟨((0:Nat):Int),i,m⟩)),ah i,.ag (aV t),ah ((s.au.map eI).length:Int)] (.tp [.sl L false,ah (bD s.au s.kinds[i] ((ak i s.aj).set 0 ((ak i s.aj).getD 0 0+(m:Int))) t s.au.length s.au.length)]):=fun m hm=>by
  have key:=Iw true (CZ s ⟨((0:Nat):Int),i,m⟩) (GH hg hc8 (d:=0) (by omega) hi (by omega)) i hi t s.au.length (by rw [C1];exact hrn.more (M1 hz i) (by omega) (by omega))
  rw [C1] at key
  rw [em]
  exact ⟨_,key⟩
 have hcf:=C2 s h l hz i hi 0 (by omega)
 have hlw:∀ m:Int,bP s s.kinds[i] (ak i s.aj) (oK s l i s.kinds[i]) 0 m=true→(s.au.length:Int)=bD s.au s.kinds[i] ((ak i s.aj).set 0 ((ak i s.aj).getD 0 0+m)) t s.au.length s.au.length:=by
  intro m h1
  unfold bP at h1
  rw [Bool.not_eq_true',List.any_eq_false] at h1
  have h3:=h1 t hall
  unfold eO at h3
  rw [decide_eq_true_eq] at h3
  have h4:=Ed s.au s.kinds[i] ((ak i s.aj).set 0 ((ak i s.aj).getD 0 0+m)) t s.au.length
  omega
 have hwith:=fun m:Nat=>L9 true s ⟨((0:Nat):Int),i,m⟩ (by omega)
 have hidx:(s.kinds.map bG)[((i:Nat):Int).toNat]?=some (bG s.kinds[i]):=cq hi
 have q1:=Int.emod_nonneg c (b:=mv - lv+1) (by omega)
 have q2:=Int.emod_lt_of_pos c (b:=mv - lv+1) (by omega)
 have hc':0≤c∧c≤65535:=hc
 clear hM hh0 hrn hkg ht0 hr ht ht2 hx hz hall
 generalize bP s s.kinds[i] (ak i s.aj) (oK s l i s.kinds[i]) 0=Q at *
 generalize bA s.au s.kinds[i] (ak i s.aj) t=sh at *
 have d1:decide (sh < n)=false:=decide_eq_false (by omega)
 generalize s.kinds[i]=k at *
 rcases hcf with ⟨hca,_⟩|⟨m,hca,hm,_,hyes,_⟩
 ·have hca:=hca.weak
  clear hwin hlw hwith
  subst ht1
  refine aa (mu:=fun t=>Nat.beq t 24) ?_
  repeat' (first |((with_reducible show RM.wpOp _ _ (.convert _ _ _) _ _ _);refine tC rfl hc' ?_) |(refine ⟨_,_,.inl ⟨rfl,rfl⟩,o3,?_⟩) |(refine ⟨_,_,.inl ⟨rfl,rfl⟩,hay,?_⟩) |(refine ⟨_,_,.inl ⟨rfl,rfl⟩,htr,?_⟩) |refine u1 ?_ |refine u2 ?_ |fail)
  exact ⟨[_],⟨Fz.deep rfl,trivial⟩,rfl⟩
 ·have hca:=hca.weak
  obtain ⟨L2,hru2⟩:=hwin m hm
  have hwi:=hwith m
  have hsm:=hlw m hyes
  clear hwin hlw hwith
  generalize bD s.au k ((ak i s.aj).set 0 ((ak i s.aj).getD 0 0+(m:Int))) t s.au.length s.au.length=sm at *
  have d2:decide (sm=((s.au.map eI).length:Int))=true:=decide_eq_true (by omega)
  subst ht1
  refine aa (mu:=fun t=>Nat.beq t 24) ?_
  repeat' (first |((with_reducible show RM.wpOp _ _ (.convert _ _ _) _ _ _);refine tC rfl hc' ?_) |(refine ⟨_,_,.inl ⟨rfl,rfl⟩,o3,?_⟩) |(refine ⟨_,_,.inl ⟨rfl,rfl⟩,hay,?_⟩) |(refine ⟨_,_,.inl ⟨rfl,rfl⟩,htr,?_⟩) |(refine ⟨_,_,.inl ⟨rfl,rfl⟩,hwi,?_⟩) |(refine ⟨_,_,.inl ⟨rfl,rfl⟩,hru2,?_⟩) |refine u1 ?_ |refine u2 ?_ |fail)
  exact ⟨[_],⟨Fz.deep rfl,trivial⟩,rfl⟩
end Go.Proofs.YtalcbebjpgfnfaaGreat.St
open Go Go.RM
namespace Go.Proofs.YtalcbebjpgfnfaaGreat.St
set_option maxRecDepth 100000
set_option maxHeartbeats 4000000
abbrev kC (L:List Kind):List AV:=(L.map bG).flatten
theorem Bf:∀ L:List Kind,(kC L).length=L.length * 9
 | []=>rfl
 | k :: L=>by
  show (bG k++kC L).length=_
  rw [List.length_append,Bf L]
  show 9+L.length * 9=(L.length+1) * 9
  omega
theorem Bg:∀ L:List Kind,bw (kC L)=true
 | []=>rfl
 | _ :: L=>Bg L
theorem I4:∀ L:List Kind,(kC L).all AV.one=true
 | []=>rfl
 | k :: L=>by
  show (bG k++kC L).all AV.one=true
  rw [List.all_append,I4 L]
  rfl
theorem zT (A B:List Kind):kC (A++B)=kC A++kC B:=by
 show ((A++B).map bG).flatten=_
 rw [List.map_append,List.flatten_append]
theorem GL {α:Type} (A B:List α) (n:Nat):(A++B).take (A.length+n)=A++B.take n:=by
 rw [List.take_append,List.take_of_length_le (by omega)]
 congr 2
 omega
theorem GM {α:Type} (A B:List α) (n:Nat):(A++B).drop (A.length+n)=B.drop n:=by
 rw [List.drop_append,List.drop_eq_nil_of_le (by omega),List.nil_append]
 congr 1
 omega
theorem Me {L:List Kind} {i:Nat} (hi:i < L.length) (z:Span):cw ([]++kC L) [ah z.lo,ah z.hi] (0+((i:Nat):Int).toNat * 9+5)=kC (L.set i (g9 L[i] z)):=by
 obtain ⟨A,B,hAB,hA⟩:∃ A B,L=A++L[i] :: B∧A.length=i:=⟨L.take i,L.drop (i+1),by rw [List.getElem_cons_drop,List.take_append_drop],by rw [List.length_take];omega⟩
 generalize L[i]=k at *
 subst hAB
 subst hA
 rw [List.set_append_right _ _ (Nat.le_refl _),Nat.sub_self,List.set_cons_zero,zT,zT,List.nil_append]
 unfold cw
 have hA:=Bf A
 rw [show 0+((A.length:Nat):Int).toNat * 9+5=(kC A).length+5 by rw [hA];omega]
 rw [GL,show (kC A).length+5+([ah z.lo,ah z.hi]:List AV).length=(kC A).length+7 from rfl,GM,List.append_assoc,List.append_assoc]
 rfl
end Go.Proofs.YtalcbebjpgfnfaaGreat.St
