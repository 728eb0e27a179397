/-
  Contracts of the program's functions and of the document's. Lemmas alone; their conditions stand in them.
-/
import Derived.Test.YtkappgolfkiaeaaGreatDoorK18
open Go Go.RM
namespace Go.Proofs.YtkappgolfkiaeaaGreatDoor.St
set_option maxRecDepth 100000
set_option maxHeartbeats 4000000
abbrev e8 (n:Int):List AV:=[.fl (.int .u8 n)]
def uh (m:Nat) (i:Nat) (M x:List Int) (j:Nat):Count :=
 ⟨x.getD (3 * j) 0 % ((m:Int)+1),i,⟨max 0 (M.getD (x.getD (3 * j) 0 % ((m:Int)+1)).toNat 0 - x.getD (3 * j+1) 0 % 20),M.getD (x.getD (3 * j) 0 % ((m:Int)+1)).toNat 0+x.getD (3 * j+2) 0 % 20⟩⟩
def lT (m:Nat) (i:Nat) (M x:List Int) (n:Nat):List Count:=(List.range n).map (uh m i M x)
def told (m:Nat) (i:Nat) (M x:List Int):List Count:=lT m i M x (min 8 (x.length / 3))
theorem HL (m i:Nat) (M x:List Int) (n:Nat):lT m i M x (n+1)=lT m i M x n++[uh m i M x n]:=by unfold lT;rw [List.range_succ,List.map_append];rfl
theorem zM (m i:Nat) (M x:List Int) (n:Nat):(lT m i M x n).length=n:=by unfold lT;simp
theorem Qt {x:List Int} {p:Nat} (h:p < x.length):(x.map e8)[p]?=some (e8 (x.getD p 0)):=by rw [List.getElem?_map,List.getD_eq_getElem?_getD,List.getElem?_eq_getElem h];rfl
theorem Ou {x:List Int} (hx:∀ n ∈ x,0≤n∧n≤255) (p:Nat):0≤x.getD p 0∧x.getD p 0≤255:=by
 rw [List.getD_eq_getElem?_getD];by_cases h:p < x.length
 ·rw [List.getElem?_eq_getElem h];exact hx _ (List.getElem_mem h)
 ·rw [List.getElem?_eq_none (by omega)];exact ⟨by decide,by decide⟩
theorem Ge {ax:List Int} {k:Kind} {row:List Int} {t:aR} (h:gI ax k row t) (d:Nat):0≤(lvl ax k row t).getD d 0∧(lvl ax k row t).getD d 0≤300:=by
 rw [List.getD_eq_getElem?_getD];unfold lvl;rw [List.getElem?_map];by_cases hd:d < ax.length+1
 ·rw [List.getElem?_range hd];exact h.zF _ _ (by omega)
 ·rw [List.getElem?_eq_none (by simp;omega)];exact ⟨Int.le_refl 0,Int.le_of_lt (show (0:Int) < 300 by decide)⟩
abbrev tB (L:List Count):AB:=.cells ((L.map aP).flatten) 4 L.length
abbrev tV (L:List Count):AV:=.dw 0 L.length 0 L.length (L.length+1)
theorem Ki (L:List Count):([tB L]:List AB).all (AB.jN 1)=true:=by rw [List.all_cons,List.all_nil,Bool.and_true];exact cQ 1 (.ag _) (oY L)
theorem Ov (L:List Count):Fz [tB L] (tV L) (.sl (L.map aP) false) :=
 Fz.row (es:=4) rfl (by rw [oZ];omega) (by simp) (fun el hel=>by obtain ⟨x,_,rfl⟩:=List.mem_map.1 hel;rfl) (by rw [List.drop_zero,List.take_of_length_le (by rw [oZ];omega)]) (oY L) (fun h=>Bool.noConfusion h)
theorem NT (L:List Count) (c:Count):tB (L++[c])=.cells ((L.map aP).flatten++[aP c].flatten) 4 (L.length+1):=by show AB.cells _ _ _=_;rw [List.map_append,List.flatten_append,List.length_append];rfl
theorem NU (L:List Count) (c:Count):tV (L++[c])=.dw 0 (L.length+1) 0 (L.length+1) (L.length+1+1):=by show AV.dw _ _ _ _ _=_;rw [List.length_append];rfl
theorem Qu (one:Bool) {s:aI} (hg:Good s) {i:Nat} (hi:i < s.kinds.length) {t:aR} (h:gI s.ax s.kinds[i] (ay i s.au) t) (x:List Int) (hx:∀ n ∈ x,0≤n∧n≤255) (hxl:x.length≤maxLen) :
  Pu one 10 [.ag (aN s),av i,.ag (bC t),.sl (x.map e8) false] (.sl ((told s.ax.length i (lvl s.ax s.kinds[i] (ay i s.au) t) x).map aP) false):=by
 unfold maxLen at hxl;have em:((s.ax.map eI).length:Int)=s.ax.length:=by simp
 have ex:((x.map e8).length:Int)=x.length:=by simp
 have h8:=j6 hg.sizes;obtain ⟨u,b,hfo⟩:=Kg one hg hi h;rw [←em] at hfo;have hML:=vt s.ax s.kinds[i] (ay i s.au) t;have hMB:=fun d=>Ge h d;unfold told
 generalize lvl s.ax s.kinds[i] (ay i s.au) t=M at *
 generalize bJ s.ax s.kinds[i] (ay i s.au) t=sh at *
 refine af.body (fn:=Tryz.f10) rfl rfl rfl rfl ?_;refine aa (mu:=fun t=>Nat.beq t 81) ?_;repeat' first|refine u1 ?_|refine u2 ?_|refine af.call hfo rfl rfl ?_|fail
 refine aE.aS (ai.trans (ai.tO 4) (ai.RF (l:=[(1,av i),(3,.sl (x.map e8) false),(4,.pt (aN s) 0),(9,.sl (M.map eI) false),(13,tV (([]:List Count))),(14,av (3 * 0:Nat))]) (hp:=[tB []]) 1 rfl ⟨fJ.refl _,fJ.refl _,fJ.refl _,fJ.refl _,fJ.tN,fJ.refl _,trivial⟩ (qq5 _) rfl (Ki _))) ?_;refine aE.loop (fun j:Nat=>j≤min 8 (x.length / 3)) (fun j=>⟨bA [(1,av i),(3,.sl (x.map e8) false),(4,.pt (aN s) 0),(9,.sl (M.map eI) false),(13,tV (lT s.ax.length i M x j)),(14,av (3 * j:Nat))],[tB (lT s.ax.length i M x j)],cz.none,false,0⟩) (fun j=>x.length - j) ?_ 0 (qq5 _);intro j hj;have hjl:=zM s.ax.length i M x j;have hj8:j≤8:=Nat.le_trans hj (Nat.min_le_left _ _);refine aa (mu:=fun t=>Nat.beq t 81) ?_;by_cases hlt:j < min 8 (x.length / 3)
 ·have hsu:=HL s.ax.length i M x j;unfold uh at hsu
  generalize hL:lT s.ax.length i M x j=L at *
  have hq:3 * j+2 < x.length:=by omega
  have d1:decide (((3 * j:Nat):Int)+2 < ((x.map e8).length:Int))=true:=decide_eq_true (by omega);have d2:decide ((L.length:Int) < 8)=true:=decide_eq_true (by omega);have g0:=Qt (x:=x) (p:=((3 * j:Nat):Int).toNat) (by omega);have g1:=Qt (x:=x) (p:=(((3 * j:Nat):Int)+1).toNat) (by omega);have g2:=Qt (x:=x) (p:=(((3 * j:Nat):Int)+2).toNat) (by omega);rw [show x.getD ((3 * j:Nat):Int).toNat 0=x.getD (3 * j) 0 by congr 1] at g0;rw [show x.getD (((3 * j:Nat):Int)+1).toNat 0=x.getD (3 * j+1) 0 by congr 1] at g1;rw [show x.getD (((3 * j:Nat):Int)+2).toNat 0=x.getD (3 * j+2) 0 by congr 1] at g2;have b0:=Ou hx (3 * j);have b1:=Ou hx (3 * j+1);have b2:=Ou hx (3 * j+2)
  generalize x.getD (3 * j) 0=x0 at *
  generalize x.getD (3 * j+1) 0=x1 at *
  generalize x.getD (3 * j+2) 0=x2 at *
  have m0:=Int.emod_nonneg x0 (b:=(s.ax.length:Int)+1) (by omega);have m1:=Int.emod_lt_of_pos x0 (b:=(s.ax.length:Int)+1) (by omega);have hmd:=hMB (x0 % ((s.ax.length:Int)+1)).toNat;have hgd:=pV (L:=M) (d:=x0 % ((s.ax.length:Int)+1)) (by omega);rw [←em] at hsu m0 m1 hmd hgd
  generalize M.getD (x0 % (((s.ax.map eI).length:Int)+1)).toNat 0=md at *
  have hsp:=Kh true (max 0 (md - x1 % 20)) (md+x2 % 20);repeat' first|refine ⟨_,T2 b0,rfl,?_⟩|refine ⟨_,T2 b1,rfl,?_⟩|refine ⟨_,T2 b2,rfl,?_⟩|refine ⟨_,hsp,?_⟩|refine u1 ?_ |with_reducible refine RM.I2 rfl ?_|refine u2 ?_|refine ⟨e8 x0,⟨by omega,g0⟩,rfl,?_⟩|refine ⟨e8 x1,⟨by omega,g1⟩,rfl,?_⟩|refine ⟨e8 x2,⟨by omega,g2⟩,rfl,?_⟩|refine ⟨eI md,⟨by omega,hgd⟩,rfl,?_⟩|fail
  refine ⟨[aP ⟨x0 % (((s.ax.map eI).length:Int)+1),i,⟨max 0 (md - x1 % 20),md+x2 % 20⟩⟩],⟨(fun el hel=>by rw [List.mem_singleton.1 hel];rfl),rfl⟩,rfl,_,rfl,(by rw [oZ]),Or.inr rfl,And.intro (by dsimp only [List.length];omega) (by dsimp only [List.length];omega),fun hn=>absurd hn (by simp),fun _=>?_⟩;repeat' first|refine u1 ?_|refine u2 ?_|fail
  refine ⟨j+1,by omega,(by dsimp only;omega),?_⟩;show ai _ ⟨bA [(1,av i),(3,.sl (x.map e8) false),(4,.pt (aN s) 0),(9,.sl (M.map eI) false),(13,tV (lT s.ax.length i M x (j+1))),(14,av (3 * (j+1):Nat))],[tB (lT s.ax.length i M x (j+1))],cz.none,false,0⟩;rw [hsu];exact ai.to 1 (by rw [NT];rfl) ⟨rfl,rfl,rfl,rfl,(by rw [NU];rfl),aJ (by omega),trivial⟩ (qq5 _) rfl (Ki _)
 ·have hjn:j=min 8 (x.length / 3):=by omega
  subst hjn
  have hd:decide (((3 * min 8 (x.length / 3):Nat):Int)+2 < ((x.map e8).length:Int))=false∨decide (((lT s.ax.length i M x (min 8 (x.length / 3))).length:Int) < 8)=false:=by
   by_cases h1:3 * min 8 (x.length / 3)+2 < x.length
   ·exact .inr (decide_eq_false (by omega))
   ·exact .inl (decide_eq_false (by omega))
  generalize hL:lT s.ax.length i M x (min 8 (x.length / 3))=L at *
  cases hd1:decide (((3 * min 8 (x.length / 3):Nat):Int)+2 < ((x.map e8).length:Int)) with
  | false =>
   repeat' first|refine u1 ?_|fail
   exact ⟨[_],⟨Ov _,trivial⟩,rfl⟩
  | true =>
   have d2:decide ((L.length:Int) < 8)=false:=by
    rcases hd with hd|hd
    ·rw [hd1] at hd;cases hd
    ·exact hd
   repeat' first|refine u1 ?_|fail
   exact ⟨[_],⟨Ov _,trivial⟩,rfl⟩
theorem Kj (m i:Nat) (M x:List Int):(told m i M x).length≤8:=by unfold told;rw [zM];exact Nat.min_le_left _ _
theorem Dw {m i:Nat} {M x:List Int} {c:Count} (h:c ∈ told m i M x):∃ j,c=uh m i M x j:=by unfold told lT at h;obtain ⟨j,_,rfl⟩:=List.mem_map.1 h;exact ⟨j,rfl⟩
theorem HM {s:aI} {i:Nat} {M x:List Int} (hc:(gv s).2.2=0) (hi:i < s.kinds.length) (hM:∀ d,0≤M.getD d 0∧M.getD d 0≤300) (hx:∀ n ∈ x,0≤n∧n≤255):gV s (told s.ax.length i M x)=0:=by
 rw [HK];refine ⟨hc,Kj _ _ _ _,fun c h=>?_⟩;obtain ⟨j,rfl⟩:=Dw h;have b0:=Ou hx (3 * j);have b1:=Ou hx (3 * j+1);have b2:=Ou hx (3 * j+2);unfold uh
 generalize x.getD (3 * j) 0=x0 at *
 generalize x.getD (3 * j+1) 0=x1 at *
 generalize x.getD (3 * j+2) 0=x2 at *
 have m0:=Int.emod_nonneg x0 (b:=(s.ax.length:Int)+1) (by omega);have m1:=Int.emod_lt_of_pos x0 (b:=(s.ax.length:Int)+1) (by omega)
 generalize x0 % ((s.ax.length:Int)+1)=d at *
 have hm:=hM d.toNat
 generalize M.getD d.toNat 0=md at *
 unfold ug;have e1:bS 0 ((s.kinds.length:Int) - 1) [(i:Int)]=false:=by rw [Ot,dA.2 (by omega)];rfl
 have e2:bS 0 (s.ax.length:Int) [d]=false:=by rw [Ot,dA.2 (by omega)];rfl
 have e3:bS 0 600 [max 0 (md - x1 % 20),md+x2 % 20]=false:=by rw [jt];intro n hn;simp only [List.mem_cons,List.not_mem_nil,or_false] at hn;omega
 have e4:decide (md+x2 % 20 < max 0 (md - x1 % 20))=false:=decide_eq_false (by omega);dsimp only;rw [e1,e2,e3,e4];rfl
theorem NV {m i:Nat} {M x:List Int} (hM:∀ d,0≤M.getD d 0∧M.getD d 0≤300) (hx:∀ n ∈ x,0≤n∧n≤255) {c:Count} (h:c ∈ told m i M x):Dr M c=true:=by obtain ⟨j,rfl⟩:=Dw h;have b1:=Ou hx (3 * j+1);have b2:=Ou hx (3 * j+2);unfold uh Dr;dsimp only;have hm:=hM (x.getD (3 * j) 0 % ((m:Int)+1)).toNat;rw [dA];omega
theorem Kk {s:aI} {i:Nat} (hi:i < s.kinds.length) {t:aR} (ht:pX s.kinds[i] t=true) {x:List Int} (hM:∀ d,0≤(lvl s.ax s.kinds[i] (ay i s.au) t).getD d 0∧(lvl s.ax s.kinds[i] (ay i s.au) t).getD d 0≤300) (hx:∀ n ∈ x,0≤n∧n≤255) :
  t ∈ NN s (told s.ax.length i (lvl s.ax s.kinds[i] (ay i s.au) t) x) i s.kinds[i]:=by
 rw [NS];refine ⟨ht,?_⟩;unfold Qs;rw [List.all_eq_true];intro c hc;rw [NV hM hx hc];simp
theorem Fb {s:aI} (hs:s.Ok) (hF:(gv s).2.2=0) {i:Nat} (hi:i < s.kinds.length) {a b q:Int} {x:List Int} (ha:qw a) (hb:qw b) (hq:qw q) (hx:∀ n ∈ x,0≤n∧n≤255) (hxl:x.length≤maxLen) :
  ∃ (t:aR) (l:List Count) (L:List (List AV)) (n:Nat) (sh:Int),n≤s.ax.length∧Pu true 8 [.ag (cA s.kinds[i]),.ag [Ny a,Ny b,Ny q]] (.ag (bC t))∧Pu true 10 [.ag (aN s),av i,.ag (bC t),.sl (x.map e8) false] (.sl (l.map aP) false) ∧
   Pu true 9 [.ag (aN s),.sl (l.map aP) false,av i] (.tp [av (n:Nat),av 0]) ∧
   Pu false 16 [.ag (aN s),av i,.ag (bC t),av (s.ax.length:Int)] (.tp [.sl L false,av sh])∧(n:Int)≤sh:=by
 have hg:=xH hF;have hkg:=hg.kinds s.kinds[i] (List.getElem_mem hi);have hay:=Sl true s.kinds[i] hkg a b q ha hb hq;have ht:=Kf hkg a b q;have ht2:=oX.1 ht
 generalize NG s.kinds[i] a b q=t at *
 have hh0:oV s s.kinds[i] (ay i s.au) []:=⟨hg,hkg,hg.row i,fun c hc=>(by cases hc),qq5 _⟩;have hrn:=hh0.run ht2.1 ht2.2.1 ht2.2.2;have hM2:=fun d=>Ge hrn d;have hto:=Qu true hg hi hrn x hx hxl;have hz:=HM hF hi hM2 hx;have hall:=Kk hi ht hM2 hx
 generalize told s.ax.length i (lvl s.ax s.kinds[i] (ay i s.au) t) x=l at *
 have hru:=Qp false s hg i hi t s.ax.length hrn
 rcases Dv s hs l hz i hi with ⟨h1,_⟩|⟨n,h1,hn,_,h2⟩
 ·rw [h1] at hall;cases hall
 obtain ⟨m,rfl⟩:∃ m:Nat,n=(m:Int):=⟨n.toNat,by omega⟩;exact ⟨t,l,_,m,_,by omega,hay,hto,h1,hru,h2 t hall⟩
noncomputable def yQ:Code→Code
 | .seq _ b=>b
 | c=>c
noncomputable def Uk:Code:=yQ (yQ (yQ (yQ (yQ (yQ (yQ (yQ (yQ (yQ (Tryz.f3.body.getD .skip))))))))))
abbrev Kl (kd a b q:Int) (x:List Int) (o:List Nat) (raw:Nat):List AV:=[.fl (.int .u8 kd),Ny a,Ny b,Ny q,.sl (x.map e8) false]++(EO o++[U8 raw])
theorem NW (t:aI) (s:aC) (kd a b q:Int) (x:List Int) (z1 z2 z3 z4 z5 z6 raw i n:Nat) (tr:aR) (L:List (List AV)) (sh:Int) (P:List Order) (F:List Int) (A:AV) (b' c' g dd xx h:Int)
  (q4:Pu false 16 [.ag (aN t),av (i:Nat),.ag (bC tr),av (t.ax.length:Int)] (.tp [.sl L false,av sh])) (e1:(n:Int)≤sh)
  (hPl:P.length≤6) (hFl:F.length≤6) (hPc:∀ y ∈ P,y.bl.length≤3)
  (r1:Pu false 11 [.ag (aH s),.ag (EO [z1,z2,z3,z4,z5,z6])] (.sl (P.map aL) false)) (r2:Pu false 12 [.ag (aH s),av (P.length:Nat),U8 raw] (.sl (ints F) false))
  (r3:Pu false 13 [.ag (aH s),.sl (P.map aL) false] (.tp [A,av b',av c',av g])) (r4:Pu false 14 [.ag (aH s),.sl (P.map aL) false,.sl (ints F) false] (.tp [av dd,av xx,av h]))
  (hg:g=0∨g=4) (hh:h=0∨h=4) (hgh:g=4→h=4) (hcm:(n:Int) < oQ F s.days 0 P→h=0∧dd≤n∧0≤xx) :
  aE TT TB false Uk ⟨bA [(3,.pt (aN t) 0),(4,.pt (aH s) 0),(5,.pt (Kl kd a b q x [z1,z2,z3,z4,z5,z6] raw) 0),(13,av (i:Nat)),(14,.pt (bC tr) 0),(15,av (n:Nat))],[],cz.none,false,0⟩ (PR TT Tryz.f3.results.toList (BB true)):=by
 have aw6:=Oo false;have aw7:=R1 false;have ep:((P.map aL).length:Int)=P.length:=by simp
 have em:((t.ax.map eI).length:Int)=t.ax.length:=by simp
 rw [←ep] at r2;rw [←em] at q4;show aE _ _ _ (.seq (.region _ _ _) _) _ _;refine qq2 ?_;repeat' first|refine u1 ?_|((with_reducible refine qq3 ?_);refine af.call r1 rfl rfl ?_)|refine u2 ?_|fail
 refine qq2 ?_;repeat' first|refine u1 ?_|((with_reducible refine qq3 ?_);refine af.call r2 rfl rfl ?_)|refine u2 ?_|fail
 refine qq2 ?_;repeat' first|refine u1 ?_|((with_reducible refine qq3 ?_);refine af.call r3 rfl rfl ?_)|refine RM.sE ?_|refine u2 ?_|fail
 refine qq2 ?_;repeat' first|refine u1 ?_|((with_reducible refine qq3 ?_);refine af.call r4 rfl rfl ?_)|refine u2 ?_|fail
 refine RM.cutAt (st':=⟨bA [(3,.pt (aN t) 0),(13,av (i:Nat)),(14,.pt (bC tr) 0),(15,av (n:Nat)),(16,.sl (P.map aL) false),(17,.sl (ints F) false),(21,av g),(22,av dd),(23,av xx),(24,av h),(4,.pt (aH s) 0)],[],cz.none,false,0⟩) ?_ ?_
 ·rcases hg with rfl|rfl <;> rcases hh with rfl|rfl
  ·refine qq1 ?_;repeat' first|refine u1 ?_|refine u2 ?_|fail
   exact .is (ai.to 0 rfl ⟨rfl,rfl,rfl,rfl,rfl,rfl,rfl,rfl,rfl,rfl,rfl,trivial⟩ (qq5 _) rfl rfl)
  ·refine qq1 ?_;repeat' first|refine u1 ?_|refine u2 ?_|fail
   exact .is (ai.to 0 rfl ⟨rfl,rfl,rfl,rfl,rfl,rfl,rfl,rfl,rfl,rfl,rfl,trivial⟩ (qq5 _) rfl rfl)
  ·exact absurd (hgh rfl) (by decide)
  ·refine qq1 ?_;repeat' first|refine u1 ?_|refine u2 ?_|fail
   exact .is (ai.to 0 rfl ⟨rfl,rfl,rfl,rfl,rfl,rfl,rfl,rfl,rfl,rfl,rfl,trivial⟩ (qq5 _) rfl rfl)
 refine qq2 ?_;repeat' first|refine u1 ?_|refine u2 ?_|fail
 refine aE.seq ?_;refine qq2 ?_;repeat' first|refine u1 ?_|refine u2 ?_|fail
 refine aE.aS (ai.to (l:=[(3,.pt (aN t) 0),(13,av (i:Nat)),(14,.pt (bC tr) 0),(15,av (n:Nat)),(16,.sl (P.map aL) false),(17,.sl (ints F) false),(21,av g),(22,av dd),(23,av xx),(24,av h),(25,av (oQ F s.days P.length (P.drop P.length))),(26,av ((P.length:Nat) - 1:Int))]) (hp:=[]) 0 rfl ⟨rfl,rfl,rfl,rfl,rfl,rfl,rfl,rfl,rfl,rfl,aJ (by rw [List.drop_length];rfl),aJ (by rw [ep]),trivial⟩ (qq5 _) rfl rfl) ?_;refine aE.block ?_;refine aE.loop (fun k:Nat=>k≤P.length) (fun k=>⟨bA [(3,.pt (aN t) 0),(13,av (i:Nat)),(14,.pt (bC tr) 0),(15,av (n:Nat)),(16,.sl (P.map aL) false),(17,.sl (ints F) false),(21,av g),(22,av dd),(23,av xx),(24,av h),(25,av (oQ F s.days k (P.drop k))),(26,av ((k:Nat) - 1:Int))],[],cz.none,false,0⟩) (fun k=>k) ?_ P.length (qq6 _);intro k hk;show aE _ _ _ _ ⟨bA [(3,.pt (aN t) 0),(13,av (i:Nat)),(14,.pt (bC tr) 0),(15,av (n:Nat)),(16,.sl (P.map aL) false),(17,.sl (ints F) false),(21,av g),(22,av dd),(23,av xx),(24,av h),(25,av (oQ F s.days k (P.drop k))),(26,av ((k:Nat) - 1:Int))],[],cz.none,false,0⟩ _;obtain _|k:=k
 ·rw [List.drop_zero]
  generalize oQ F s.days 0 P=C at *
  have d1:decide (0≤(((0:Nat):Int) - 1))=false:=rfl;refine qq1 ?_;repeat' first|refine u1 ?_|refine u2 ?_|fail
  refine qq2 ?_;repeat' first|refine u1 ?_|((with_reducible refine qq3 ?_);refine af.call q4 rfl rfl ?_)|refine u2 ?_|fail
  have d2:decide (sh < (n:Int))=false:=decide_eq_false (by omega)
  rcases hg with rfl|rfl
  ·by_cases hc:C≤(n:Int)
   ·have d3:decide (C≤(n:Int))=true:=decide_eq_true hc;refine qq1 ?_;repeat' first|refine u1 ?_|((with_reducible refine qq3 ?_);refine af.call aw6 rfl rfl ?_)|((with_reducible refine qq3 ?_);refine af.call aw7 rfl rfl ?_)|refine u2 ?_|fail
    exact ⟨[_],⟨Fz.deep rfl,trivial⟩,rfl⟩
   ·obtain ⟨rfl,hd1,hx1⟩:=hcm (by omega);have d3:decide (C≤(n:Int))=false:=decide_eq_false hc;have d4:decide (dd≤(n:Int))=true:=decide_eq_true hd1;have d5:decide (0≤xx)=true:=decide_eq_true hx1;refine qq1 ?_;repeat' first|refine u1 ?_|((with_reducible refine qq3 ?_);refine af.call aw6 rfl rfl ?_)|((with_reducible refine qq3 ?_);refine af.call aw7 rfl rfl ?_)|refine u2 ?_|fail
    exact ⟨[_],⟨Fz.deep rfl,trivial⟩,rfl⟩
  ·obtain rfl:=hgh rfl;have hc:C≤(n:Int):=by apply Classical.byContradiction;intro hc;have:=(hcm (by omega)).1;omega
   have d3:decide (C≤(n:Int))=true:=decide_eq_true hc;have d4:decide ((n:Int) < C)=false:=decide_eq_false (by omega);have d5:decide (sh < min C ((t.ax.map eI).length:Int))=false:=decide_eq_false (by omega);refine qq1 ?_;repeat' first|refine u1 ?_|((with_reducible refine qq3 ?_);refine af.call aw6 rfl rfl ?_)|((with_reducible refine qq3 ?_);refine af.call aw7 rfl rfl ?_)|refine u2 ?_|fail
   exact ⟨[_],⟨Fz.deep rfl,trivial⟩,rfl⟩
 ·have d1:decide (0≤(((k+1:Nat):Int) - 1))=true:=decide_eq_true (by omega);have hat:(P.map aL)[(((k+1:Nat):Int) - 1).toNat]?=some (aL P[k]):=by rw [show (((k+1:Nat):Int) - 1).toNat=k by omega];exact bI hk
  have hst:=JI (f:=F) (last:=s.days) (p:=P) (k:=k) hk;have hce:Df F k P[k]=(!hasB F (((k+1:Nat):Int) - 1) && hasB P[k].bl 0):=by rw [show (((k+1:Nat):Int) - 1)=(k:Int) by omega];rfl
  have o1:=Oc false F false (((k+1:Nat):Int) - 1) (by simp only [maxLen];omega);have o2:=Oc false P[k].bl false 0 (by have:=hPc P[k] (List.getElem_mem _);simp only [maxLen];omega);rw [hce] at hst
  generalize P[k]=y at *
  generalize hasB F (((k+1:Nat):Int) - 1)=w1 at *
  generalize hasB y.bl 0=w2 at *
  cases w1
  ·cases w2
   ·refine qq1 ?_;repeat' first|refine u1 ?_|((with_reducible refine qq3 ?_);refine af.call o1 rfl rfl ?_)|((with_reducible refine qq3 ?_);refine af.call o2 rfl rfl ?_)|((with_reducible refine qq4 ?_);refine ⟨aL y,⟨by omega,hat⟩,rfl,?_⟩)|refine u2 ?_|fail
    exact ⟨k,Nat.le_of_succ_le hk,Nat.lt_succ_self _,ai.to (l:=[(3,.pt (aN t) 0),(13,av (i:Nat)),(14,.pt (bC tr) 0),(15,av (n:Nat)),(16,.sl (P.map aL) false),(17,.sl (ints F) false),(21,av g),(22,av dd),(23,av xx),(24,av h),(25,av (oQ F s.days k (P.drop k))),(26,av ((k:Nat) - 1:Int))]) (hp:=[]) 0 rfl ⟨rfl,rfl,rfl,rfl,rfl,rfl,rfl,rfl,rfl,rfl,aJ (by rw [hst];rfl),aJ (by omega),trivial⟩ (qq5 _) rfl rfl⟩
   ·refine qq1 ?_;repeat' first|refine u1 ?_|((with_reducible refine qq3 ?_);refine af.call o1 rfl rfl ?_)|((with_reducible refine qq3 ?_);refine af.call o2 rfl rfl ?_)|((with_reducible refine qq4 ?_);refine ⟨aL y,⟨by omega,hat⟩,rfl,?_⟩)|refine u2 ?_|fail
    exact ⟨k,Nat.le_of_succ_le hk,Nat.lt_succ_self _,ai.to (l:=[(3,.pt (aN t) 0),(13,av (i:Nat)),(14,.pt (bC tr) 0),(15,av (n:Nat)),(16,.sl (P.map aL) false),(17,.sl (ints F) false),(21,av g),(22,av dd),(23,av xx),(24,av h),(25,av (oQ F s.days k (P.drop k))),(26,av ((k:Nat) - 1:Int))]) (hp:=[]) 0 rfl ⟨rfl,rfl,rfl,rfl,rfl,rfl,rfl,rfl,rfl,rfl,aJ (by rw [hst];rfl),aJ (by omega),trivial⟩ (qq5 _) rfl rfl⟩
  ·refine qq1 ?_;repeat' first|refine u1 ?_|((with_reducible refine qq3 ?_);refine af.call o1 rfl rfl ?_)|((with_reducible refine qq3 ?_);refine af.call o2 rfl rfl ?_)|((with_reducible refine qq4 ?_);refine ⟨aL y,⟨by omega,hat⟩,rfl,?_⟩)|refine u2 ?_|fail
   exact ⟨k,Nat.le_of_succ_le hk,Nat.lt_succ_self _,ai.to (l:=[(3,.pt (aN t) 0),(13,av (i:Nat)),(14,.pt (bC tr) 0),(15,av (n:Nat)),(16,.sl (P.map aL) false),(17,.sl (ints F) false),(21,av g),(22,av dd),(23,av xx),(24,av h),(25,av (oQ F s.days k (P.drop k))),(26,av ((k:Nat) - 1:Int))]) (hp:=[]) 0 rfl ⟨rfl,rfl,rfl,rfl,rfl,rfl,rfl,rfl,rfl,rfl,aJ (by rw [hst];rfl),aJ (by omega),trivial⟩ (qq5 _) rfl rfl⟩
end Go.Proofs.YtkappgolfkiaeaaGreatDoor.St
