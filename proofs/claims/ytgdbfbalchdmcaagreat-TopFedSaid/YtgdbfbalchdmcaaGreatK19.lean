/-
  Contracts of the program's functions and of the document's. Lemmas alone; their conditions stand in them.
-/
import Derived.Test.YtgdbfbalchdmcaaGreatK4
import Derived.Test.YtgdbfbalchdmcaaGreatK13
import Derived.Test.YtgdbfbalchdmcaaGreatK18
open Go Go.RM
namespace Go.Proofs.YtgdbfbalchdmcaaGreat.St
set_option maxRecDepth 100000
set_option maxHeartbeats 4000000
abbrev e8 (n:Int):List AV:=[.fl (.int .u8 n)]
def vh (m:Nat) (i:Nat) (M x:List Int) (j:Nat):Count :=
 ⟨x.getD (3 * j) 0 % ((m:Int)+1),i,⟨max 0 (M.getD (x.getD (3 * j) 0 % ((m:Int)+1)).toNat 0 - x.getD (3 * j+1) 0 % 20),M.getD (x.getD (3 * j) 0 % ((m:Int)+1)).toNat 0+x.getD (3 * j+2) 0 % 20⟩⟩
def nj (m:Nat) (i:Nat) (M x:List Int) (n:Nat):List Count:=(List.range n).map (vh m i M x)
def told (m:Nat) (i:Nat) (M x:List Int):List Count:=nj m i M x (min 8 (x.length / 3))
theorem HL (m i:Nat) (M x:List Int) (n:Nat):nj m i M x (n+1)=nj m i M x n++[vh m i M x n]:=by
 unfold nj
 rw [List.range_succ,List.map_append]
 rfl
theorem AP (m i:Nat) (M x:List Int) (n:Nat):(nj m i M x n).length=n:=by
 unfold nj
 simp
theorem Nf {x:List Int} {p:Nat} (h:p < x.length):(x.map e8)[p]?=some (e8 (x.getD p 0)):=by
 rw [List.getElem?_map,List.getD_eq_getElem?_getD,List.getElem?_eq_getElem h]
 rfl
theorem Mj {x:List Int} (hx:∀ n ∈ x,0≤n∧n≤255) (p:Nat):0≤x.getD p 0∧x.getD p 0≤255:=by
 rw [List.getD_eq_getElem?_getD]
 by_cases h:p < x.length
 ·rw [List.getElem?_eq_getElem h]
  exact hx _ (List.getElem_mem h)
 ·rw [List.getElem?_eq_none (by omega)]
  exact ⟨by decide,by decide⟩
theorem Gu {ah:List Int} {k:Kind} {row:List Int} {t:aN} (h:iE ah k row t) (d:Nat):0≤(lvl ah k row t).getD d 0∧(lvl ah k row t).getD d 0≤300:=by
 rw [List.getD_eq_getElem?_getD]
 unfold lvl
 rw [List.getElem?_map]
 by_cases hd:d < ah.length+1
 ·rw [List.getElem?_range hd]
  exact h.AG _ _ (by omega)
 ·rw [List.getElem?_eq_none (by simp;omega)]
  exact ⟨Int.le_refl 0,Int.le_of_lt (show (0:Int) < 300 by decide)⟩
abbrev tB (L:List Count):AB:=.cells ((L.map aM).flatten) 4 L.length
abbrev tV (L:List Count):AV:=.dM 0 L.length 0 L.length (L.length+1)
theorem Ka (L:List Count):([tB L]:List AB).all (AB.gM 1)=true:=by
 rw [List.all_cons,List.all_nil,Bool.and_true]
 exact cK 1 (.ag _) (qL L)
theorem Mk (L:List Count):Fz [tB L] (tV L) (.sl (L.map aM) false) :=
 Fz.row (es:=4) rfl (by rw [qM];omega) (by simp) (fun el hel=>by obtain ⟨x,_,rfl⟩:=List.mem_map.1 hel;rfl) (by rw [List.drop_zero,List.take_of_length_le (by rw [qM];omega)]) (qL L) (fun h=>Bool.noConfusion h)
theorem LK (L:List Count) (c:Count):tB (L++[c])=.cells ((L.map aM).flatten++[aM c].flatten) 4 (L.length+1):=by
 show AB.cells _ _ _=_
 rw [List.map_append,List.flatten_append,List.length_append]
 rfl
theorem LL (L:List Count) (c:Count):tV (L++[c])=.dM 0 (L.length+1) 0 (L.length+1) (L.length+1+1):=by
 show AV.dM _ _ _ _ _=_
 rw [List.length_append]
 rfl
theorem Ng (one:Bool) {s:aC} (hg:Good s) {i:Nat} (hi:i < s.kinds.length) {t:aN} (h:iE s.ah s.kinds[i] (av i s.ai) t) (x:List Int) (hx:∀ n ∈ x,0≤n∧n≤255) (hxl:x.length≤maxLen) :
  Pu one 11 [.ag (aF s),ak i,.ag (dg t),.sl (x.map e8) false] (.sl ((told s.ah.length i (lvl s.ah s.kinds[i] (av i s.ai) t) x).map aM) false):=by
 unfold maxLen at hxl
 have em:((s.ah.map eI).length:Int)=s.ah.length:=by simp
 have ex:((x.map e8).length:Int)=x.length:=by simp
 have h8:=lW hg.sizes
 obtain ⟨u,b,hfo⟩:=J8 one hg hi h
 rw [←em] at hfo
 have hML:=wN s.ah s.kinds[i] (av i s.ai) t
 have hMB:=fun d=>Gu h d
 unfold told
 generalize lvl s.ah s.kinds[i] (av i s.ai) t=M at *
 generalize bI s.ah s.kinds[i] (av i s.ai) t=sh at *
 refine af.body (fn:=Tryz.f11) rfl rfl rfl rfl ?_
 refine aa (mu:=fun t=>Nat.beq t 81) ?_
 repeat' (first |refine u1 ?_ |refine u2 ?_ |refine af.call hfo rfl rfl ?_ |fail)
 refine aG.aU (aj.trans (aj.uS 4) (aj.OP (l:=[(1,ak i),(3,.sl (x.map e8) false),(4,.pt (aF s) 0),(9,.sl (M.map eI) false),(13,tV (([]:List Count))),(14,ak (3 * 0:Nat))]) (hp:=[tB []]) 1 rfl ⟨iZ.refl _,iZ.refl _,iZ.refl _,iZ.refl _,iZ.uR,iZ.refl _,trivial⟩ (Nat.zero_le _) rfl (Ka _))) ?_
 refine aG.loop (fun j:Nat=>j≤min 8 (x.length / 3)) (fun j=>⟨bT [(1,ak i),(3,.sl (x.map e8) false),(4,.pt (aF s) 0),(9,.sl (M.map eI) false),(13,tV (nj s.ah.length i M x j)),(14,ak (3 * j:Nat))],[tB (nj s.ah.length i M x j)],bW.none,false,0⟩) (fun j=>x.length - j) ?_ 0 (Nat.zero_le _)
 intro j hj
 have hjl:=AP s.ah.length i M x j
 have hj8:j≤8:=Nat.le_trans hj (Nat.min_le_left _ _)
 refine aa (mu:=fun t=>Nat.beq t 81) ?_
 by_cases hlt:j < min 8 (x.length / 3)
 ·have hsu:=HL s.ah.length i M x j
  unfold vh at hsu
  generalize hL:nj s.ah.length i M x j=L at *
  have hq:3 * j+2 < x.length:=by omega
  have d1:decide (((3 * j:Nat):Int)+2 < ((x.map e8).length:Int))=true:=decide_eq_true (by omega)
  have d2:decide ((L.length:Int) < 8)=true:=decide_eq_true (by omega)
  have g0:=Nf (x:=x) (p:=((3 * j:Nat):Int).toNat) (by omega)
  have g1:=Nf (x:=x) (p:=(((3 * j:Nat):Int)+1).toNat) (by omega)
  have g2:=Nf (x:=x) (p:=(((3 * j:Nat):Int)+2).toNat) (by omega)
  rw [show x.getD ((3 * j:Nat):Int).toNat 0=x.getD (3 * j) 0 by congr 1] at g0
  rw [show x.getD (((3 * j:Nat):Int)+1).toNat 0=x.getD (3 * j+1) 0 by congr 1] at g1
  rw [show x.getD (((3 * j:Nat):Int)+2).toNat 0=x.getD (3 * j+2) 0 by congr 1] at g2
  have b0:=Mj hx (3 * j)
  have b1:=Mj hx (3 * j+1)
  have b2:=Mj hx (3 * j+2)
  generalize x.getD (3 * j) 0=x0 at *
  generalize x.getD (3 * j+1) 0=x1 at *
  generalize x.getD (3 * j+2) 0=x2 at *
  have m0:=Int.emod_nonneg x0 (b:=(s.ah.length:Int)+1) (by omega)
  have m1:=Int.emod_lt_of_pos x0 (b:=(s.ah.length:Int)+1) (by omega)
  have hmd:=hMB (x0 % ((s.ah.length:Int)+1)).toNat
  have hgd:=B9 (L:=M) (d:=x0 % ((s.ah.length:Int)+1)) (by omega)
  rw [←em] at hsu m0 m1 hmd hgd
  generalize M.getD (x0 % (((s.ah.map eI).length:Int)+1)).toNat 0=md at *
  have hsp:=J9 true (max 0 (md - x1 % 20)) (md+x2 % 20)
  repeat' (first |refine ⟨_,OK b0,rfl,?_⟩ |refine ⟨_,OK b1,rfl,?_⟩ |refine ⟨_,OK b2,rfl,?_⟩ |refine ⟨_,hsp,?_⟩ |refine u1 ?_ |with_reducible refine RM.IY rfl ?_ |refine u2 ?_ |refine ⟨e8 x0,⟨by omega,g0⟩,rfl,?_⟩ |refine ⟨e8 x1,⟨by omega,g1⟩,rfl,?_⟩ |refine ⟨e8 x2,⟨by omega,g2⟩,rfl,?_⟩ |refine ⟨eI md,⟨by omega,hgd⟩,rfl,?_⟩ |fail)
  refine ⟨[aM ⟨x0 % (((s.ah.map eI).length:Int)+1),i,⟨max 0 (md - x1 % 20),md+x2 % 20⟩⟩],⟨(fun el hel=>by rw [List.mem_singleton.1 hel];rfl),rfl⟩,rfl,.inl ⟨rfl,_,rfl,(by rw [qM]),Or.inr rfl,And.intro (by dsimp only [List.length];omega) (by dsimp only [List.length];omega),fun hn=>absurd hn (by simp),fun _=>?_⟩⟩
  repeat' (first |refine u1 ?_ |refine u2 ?_ |fail)
  refine ⟨j+1,by omega,(by dsimp only;omega),?_⟩
  show aj _ ⟨bT [(1,ak i),(3,.sl (x.map e8) false),(4,.pt (aF s) 0),(9,.sl (M.map eI) false),(13,tV (nj s.ah.length i M x (j+1))),(14,ak (3 * (j+1):Nat))],[tB (nj s.ah.length i M x (j+1))],bW.none,false,0⟩
  rw [hsu]
  exact aj.to 1 (by rw [LK];rfl) ⟨rfl,rfl,rfl,rfl,(by rw [LL];rfl),aJ (by omega),trivial⟩ (Nat.zero_le _) rfl (Ka _)
 ·have hjn:j=min 8 (x.length / 3):=by omega
  subst hjn
  have hd:decide (((3 * min 8 (x.length / 3):Nat):Int)+2 < ((x.map e8).length:Int))=false∨decide (((nj s.ah.length i M x (min 8 (x.length / 3))).length:Int) < 8)=false:=by
   by_cases h1:3 * min 8 (x.length / 3)+2 < x.length
   ·exact .inr (decide_eq_false (by omega))
   ·exact .inl (decide_eq_false (by omega))
  generalize hL:nj s.ah.length i M x (min 8 (x.length / 3))=L at *
  cases hd1:decide (((3 * min 8 (x.length / 3):Nat):Int)+2 < ((x.map e8).length:Int)) with
  | false =>
   repeat' (first |refine u1 ?_ |fail)
   exact ⟨[_],⟨Mk _,trivial⟩,rfl⟩
  | true =>
   have d2:decide ((L.length:Int) < 8)=false:=by
    rcases hd with hd|hd
    ·rw [hd1] at hd;cases hd
    ·exact hd
   repeat' (first |refine u1 ?_ |fail)
   exact ⟨[_],⟨Mk _,trivial⟩,rfl⟩
end Go.Proofs.YtgdbfbalchdmcaaGreat.St
open Go Go.RM
namespace Go.Proofs.YtgdbfbalchdmcaaGreat.St
set_option maxRecDepth 100000
set_option maxHeartbeats 4000000
theorem Kc (m i:Nat) (M x:List Int):(told m i M x).length≤8:=by
 unfold told
 rw [AP]
 exact Nat.min_le_left _ _
theorem D9 {m i:Nat} {M x:List Int} {c:Count} (h:c ∈ told m i M x):∃ j,c=vh m i M x j:=by
 unfold told nj at h
 obtain ⟨j,_,rfl⟩:=List.mem_map.1 h
 exact ⟨j,rfl⟩
theorem HM {s:aC} {i:Nat} {M x:List Int} (hc:(iD s).2.2=0) (hi:i < s.kinds.length) (hM:∀ d,0≤M.getD d 0∧M.getD d 0≤300) (hx:∀ n ∈ x,0≤n∧n≤255):gv s (told s.ah.length i M x)=0:=by
 rw [vg]
 refine ⟨hc,Kc _ _ _ _,fun c h=>?_⟩
 obtain ⟨j,rfl⟩:=D9 h
 have b0:=Mj hx (3 * j)
 have b1:=Mj hx (3 * j+1)
 have b2:=Mj hx (3 * j+2)
 unfold vh
 generalize x.getD (3 * j) 0=x0 at *
 generalize x.getD (3 * j+1) 0=x1 at *
 generalize x.getD (3 * j+2) 0=x2 at *
 have m0:=Int.emod_nonneg x0 (b:=(s.ah.length:Int)+1) (by omega)
 have m1:=Int.emod_lt_of_pos x0 (b:=(s.ah.length:Int)+1) (by omega)
 generalize x0 % ((s.ah.length:Int)+1)=d at *
 have hm:=hM d.toNat
 generalize M.getD d.toNat 0=md at *
 unfold ve
 have e1:bH 0 ((s.kinds.length:Int) - 1) [(i:Int)]=false:=by rw [Mi,bQ.2 (by omega)];rfl
 have e2:bH 0 (s.ah.length:Int) [d]=false:=by rw [Mi,bQ.2 (by omega)];rfl
 have e3:bH 0 600 [max 0 (md - x1 % 20),md+x2 % 20]=false:=by
  rw [ic]
  intro n hn
  simp only [List.mem_cons,List.not_mem_nil,or_false] at hn
  omega
 have e4:decide (md+x2 % 20 < max 0 (md - x1 % 20))=false:=decide_eq_false (by omega)
 dsimp only
 rw [e1,e2,e3,e4]
 rfl
theorem LM {m i:Nat} {M x:List Int} (hM:∀ d,0≤M.getD d 0∧M.getD d 0≤300) (hx:∀ n ∈ x,0≤n∧n≤255) {c:Count} (h:c ∈ told m i M x):D5 M c=true:=by
 obtain ⟨j,rfl⟩:=D9 h
 have b1:=Mj hx (3 * j+1)
 have b2:=Mj hx (3 * j+2)
 unfold vh D5
 dsimp only
 have hm:=hM (x.getD (3 * j) 0 % ((m:Int)+1)).toNat
 rw [bQ]
 omega
theorem Ke {s:aC} {i:Nat} (hi:i < s.kinds.length) {t:aN} (ht:rC s.kinds[i] t=true) {x:List Int} (hM:∀ d,0≤(lvl s.ah s.kinds[i] (av i s.ai) t).getD d 0∧(lvl s.ah s.kinds[i] (av i s.ai) t).getD d 0≤300) (hx:∀ n ∈ x,0≤n∧n≤255) :
  t ∈ yY s (told s.ah.length i (lvl s.ah s.kinds[i] (av i s.ai) t) x) i s.kinds[i]:=by
 rw [Cd]
 refine ⟨ht,?_⟩
 unfold Nd
 rw [List.all_eq_true]
 intro c hc
 rw [LM hM hx hc]
 simp
end Go.Proofs.YtgdbfbalchdmcaaGreat.St
open Go Go.RM
namespace Go.Proofs.YtgdbfbalchdmcaaGreat.St
set_option maxRecDepth 100000
def e7 (s:aC) (M:List Int):aC:=⟨M,s.kinds,s.ai⟩
theorem Gw {s:aC} (h:s.Ok) {M:List Int} (hl:M.length=s.ah.length):(e7 s M).Ok:=⟨by show M.length≤_;rw [hl];exact h.ah,h.kinds,h.ai,h.names⟩
theorem Ea {s:aC} {M:List Int} (hl:M.length=s.ah.length) (hb:∀ n ∈ M,0≤n∧n≤12) (h:(iD s).2.2=0):(iD (e7 s M)).2.2=0:=by
 cases hz:dw s with
 | true=>rw [JQ hz] at h;exact absurd h (by decide)
 | false =>
  have hg:=qF h
  have hm:∀ j (hj:j < s.ah.length),bH 0 12 [s.ah[j]]=false:=fun j hj=>ic.2 fun n hn=>by rw [List.mem_singleton.1 hn];exact hg.ah _ (List.getElem_mem hj)
  have hm2:∀ j (hj:j < (e7 s M).ah.length),bH 0 12 [(e7 s M).ah[j]]=false:=fun j hj=>ic.2 fun n hn=>by rw [List.mem_singleton.1 hn];exact hb _ (List.getElem_mem hj)
  rw [ud hz hm] at h
  by_cases h1:(bq s.kinds.length (pe s)).2=0
  ·rw [if_neg (by simpa using h1)] at h
   by_cases h2:(bq s.ai.length (rH s)).2=0
   ·have hb2:dw (e7 s M)=false:=by unfold dw at hz ⊢;show (bH 1 30 [(M.length:Int)] || _ || _)=false;rw [hl];exact hz
    have:=Mf (s:=e7 s M) hb2 hm2 (fun j hj=>fV h1 j hj) (fun j hj=>by
     have h3:=fV h2 j hj
     unfold rH ia at h3 ⊢
     show (match s.ai[j]? with
      | some c=>if bH 0 ((s.kinds.length:Int) - 1) [c.kind]=true then (4:Int) else if (bH 0 ((M.length:Int) - 1) [c.day] || bH 0 300 [c.cE])=true then 7 else 0
      | none=>0)=0
     rw [hl]
     exact h3)
    rw [this]
   ·rw [if_pos h2] at h
    exact absurd h h2
  ·rw [if_pos h1] at h
   exact absurd h h1
theorem AQ {A B:List Int} {k:Kind} {row:List Int} {t:aN} (hl:A.length=B.length) (hle:∀ i,A.getD i 0≤B.getD i 0) (hm:0≤t.aR):∀ i,i≤A.length→bu B k row t B.length i≤bu A k row t A.length i∧ck B k row t B.length i≤ck A k row t A.length i
 | 0,_=>⟨Int.le_refl _,by show ((B.length:Nat):Int)≤((A.length:Nat):Int);omega⟩
 | i+1,hi=>by
  obtain ⟨h1,h2⟩:=AQ hl hle hm (k:=k) (row:=row) i (by omega)
  have hu:∀ L:List Int,L.length=A.length→qE k t L.length i (L.getD i 0)=L.getD i 0 * t.aR:=fun L hL=>by
   unfold qE
   rw [if_neg (by omega)]
  have hmul:A.getD i 0 * t.aR≤B.getD i 0 * t.aR:=Int.mul_le_mul_of_nonneg_right (hle i) hm
  have hraw:kR B k row t B.length i (bu B k row t B.length i)≤kR A k row t A.length i (bu A k row t A.length i):=by
   unfold kR
   rw [hu A rfl,hu B hl.symm]
   omega
  refine ⟨?_,?_⟩
  ·show max 0 _≤max 0 _
   omega
  ·show (if _ then _ else _)≤(if _ then _ else _)
   split
   ·split
    ·exact Int.le_min.2 ⟨Int.le_trans (Int.min_le_left _ _) h2,Int.min_le_right _ _⟩
    ·exact Int.le_trans (Int.min_le_left _ _) h2
   ·rw [if_neg (by omega)]
    exact h2
theorem FE {A B:List Int} {k:Kind} {row:List Int} {t:aN} (hl:A.length=B.length) (hle:∀ i,A.getD i 0≤B.getD i 0) (hm:0≤t.aR):bI B k row t≤bI A k row t:=by
 unfold bI
 have:=(AQ (k:=k) (row:=row) hl hle hm A.length (Nat.le_refl _)).2
 rw [←hl] at this ⊢
 exact this
theorem all_nil {s:aC} {l:List Count} {i:Nat} {k:Kind} {t:aN} (h:t ∈ yY s l i k):∀ M:List Int,t ∈ yY (e7 s M) [] i k:=fun M=>by
 rw [Cd] at h ⊢
 exact ⟨h.1,rfl⟩
end Go.Proofs.YtgdbfbalchdmcaaGreat.St
