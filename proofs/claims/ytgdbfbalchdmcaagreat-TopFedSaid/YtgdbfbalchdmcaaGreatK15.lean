/-
  Contracts of the program's functions and of the document's. Lemmas alone; their conditions stand in them.
-/
import Derived.Test.YtgdbfbalchdmcaaGreatA3
import Derived.Test.YtgdbfbalchdmcaaGreatK4
import Derived.Test.YtgdbfbalchdmcaaGreatK14
open Go Go.RM
namespace Go.Proofs.YtgdbfbalchdmcaaGreat.St
set_option maxRecDepth 100000
theorem ic {lo hi:Int} {l:List Int}:bH lo hi l=false ↔ ∀ n ∈ l,lo≤n∧n≤hi:=by
 unfold bH
 rw [List.any_eq_false]
 constructor
 ·intro h n hn
  have:=h n hn
  simp at this
  omega
 ·intro h n hn
  have:=h n hn
  simp
  omega
structure mH (k:Kind):Prop where
 first:0≤k.first.lo∧k.first.lo≤k.first.hi∧k.first.hi≤300
 aR:0≤k.aR.lo∧k.aR.lo≤k.aR.hi∧k.aR.hi≤6
 ay:0≤k.ay.lo∧k.ay.lo≤k.ay.hi∧k.ay.hi≤12
 room:0≤k.room∧k.room≤300
 dK:0≤k.dK∧k.dK≤1000
theorem B7 {k:Kind} {names:List ByteArray} (h:gI k names=0):mH k:=by
 unfold gI at h
 split at h
 ·exact absurd h (by decide)
 ·split at h
  ·exact absurd h (by decide)
  ·split at h
   ·exact absurd h (by decide)
   ·rename_i h7
    split at h
    ·exact absurd h (by decide)
    ·rename_i h2
     simp only [Bool.not_eq_true,Bool.or_eq_false_iff,ic,decide_eq_false_iff_not,List.mem_cons,List.not_mem_nil,or_false,forall_eq_or_imp,forall_eq] at h7 h2
     obtain ⟨⟨⟨a,b⟩,c⟩,d⟩:=h7
     constructor <;> omega
def Fx (s:aC):Prop:=(1≤s.ah.length∧s.ah.length≤30)∧(1≤s.kinds.length∧s.kinds.length≤4)∧s.ai.length≤9
theorem lW {s:aC} (h:Fx s):(1≤s.ah.length∧s.ah.length≤30)∧(1≤s.kinds.length∧s.kinds.length≤4)∧s.ai.length≤9:=h
structure Good (s:aC):Prop where
 sizes:Fx s
 ah:∀ n ∈ s.ah,0≤n∧n≤12
 kinds:∀ k ∈ s.kinds,mH k
 ai:∀ c ∈ s.ai,(0≤c.day∧c.day < s.ah.length)∧(0≤c.cE∧c.cE≤300)∧0≤c.kind∧c.kind < s.kinds.length
theorem zL {s:aC} {c:lE} (h:ia s c=0):(0≤c.day∧c.day < s.ah.length)∧(0≤c.cE∧c.cE≤300)∧0≤c.kind∧c.kind < s.kinds.length:=by
 unfold ia at h
 split at h
 ·exact absurd h (by decide)
 ·rename_i h4
  split at h
  ·exact absurd h (by decide)
  ·rename_i h7
   simp only [Bool.not_eq_true,Bool.or_eq_false_iff,ic,List.mem_cons,List.not_mem_nil,or_false,forall_eq] at h4 h7
   omega
theorem qF {s:aC} (h:(iD s).2.2=0):Good s:=by
 cases hb:dw s with
 | true=>rw [JQ hb] at h;exact absurd h (by decide)
 | false =>
  by_cases hi:0≤qw (fun n=>bH 0 12 [n]) s.ah
  ·exfalso
   unfold iD at h
   unfold dw at hb
   rw [if_neg (by rw [hb];decide)] at h
   simp only [if_pos hi] at h
   exact absurd h (by decide)
  ·have hany:=m7 (fun n=>bH 0 12 [n]) s.ah
   rw [decide_eq_false hi] at hany
   have hm:∀ n ∈ s.ah,0≤n∧n≤12:=fun n hn=>by
    have:=List.any_eq_false.1 hany.symm n hn
    rw [Bool.not_eq_true,ic] at this
    exact this n (by simp)
   rw [ud hb (fun i hi=>ic.2 fun n hn=>by rw [List.mem_singleton.1 hn];exact hm _ (List.getElem_mem _))] at h
   by_cases h1:(bq s.kinds.length (pe s)).2=0
   ·rw [if_neg (by simpa using h1)] at h
    by_cases h2:(bq s.ai.length (rH s)).2=0
    ·refine ⟨by have:=DS hb;unfold Fx;omega,hm,fun k hk=>?_,fun c hc=>?_⟩
     ·obtain ⟨i,hi,rfl⟩:=List.getElem_of_mem hk
      have:=fV h1 i hi
      rw [B3 hi] at this
      exact B7 this
     ·obtain ⟨i,hi,rfl⟩:=List.getElem_of_mem hc
      have:=fV h2 i hi
      rw [Gn hi] at this
      exact zL this
    ·rw [if_pos h2] at h
     exact absurd h h2
   ·rw [if_pos h1] at h
    exact absurd h h1
theorem Good.row {s:aC} (h:Good s) (k:Int):jF 9 (av k s.ai):=by
 have h8:=lW h.sizes
 have:=m9 (k:=k) (cs:=s.ai) (fun c hc=>by have:=h.ai c hc;omega)
 exact ⟨this.len,fun x hx=>by have:=this.OJ x hx;omega⟩
theorem AK {s:aC} {k:Kind} {row:List Int} {c:AV} (h:row.length=30) {z:List AV} (hz:z.length=43):dy z (AV.ag (aL s k row c)).cells 0=aL s k row c:=by
 show []++(aL s k row c)++z.drop (0+(aL s k row c).length)=_
 rw [eW h,List.drop_of_length_le (by omega),List.nil_append,List.append_nil]
end Go.Proofs.YtgdbfbalchdmcaaGreat.St
open Go Go.RM
namespace Go.Proofs.YtgdbfbalchdmcaaGreat.St
set_option maxRecDepth 100000
def rC (k:Kind) (t:aN):Bool:=gY t.first k.first.lo k.first.hi && (gY t.aR k.aR.lo k.aR.hi && gY t.ay k.ay.lo k.ay.hi)
theorem rY {k:Int} {l:List Int} {c:lE} {d:Nat} (hd:d < l.length) (hc:0≤c.day):(gx k l c).getD d 0=if c.day=(d:Int)∧c.kind=k then l.getD d 0+c.cE else l.getD d 0:=by
 unfold gx
 by_cases hk:c.kind=k
 ·rw [if_pos hk]
  by_cases he:c.day=(d:Int)
  ·rw [if_pos ⟨he,hk⟩,he,Int.toNat_natCast]
   rw [List.getD_eq_getElem?_getD,List.getElem?_set_self (by omega)]
   rfl
  ·rw [if_neg (fun h=>he h.1)]
   rw [List.getD_eq_getElem?_getD,List.getElem?_set_ne (by omega),←List.getD_eq_getElem?_getD]
 ·rw [if_neg hk,if_neg (fun h=>hk h.2)]
theorem Ly {a b c d a' b' c' d':AV} (h1:a=a') (h2:b=b') (h3:c=c') (h4:d=d'):AV.tp [a,b,c,d]=AV.tp [a',b',c',d']:=by rw [h1,h2,h3,h4]
def Gp (k:Kind) (row:List Int) (i:Nat) (hv:Int):Int:=max 0 (min (row.getD i 0) (hv+row.getD i 0 - k.room))
def JU (ah:List Int) (k:Kind) (row:List Int) (t:aN) (down:Int) (i:Nat) (hv:Int):Int :=
 if kR ah k row t down i hv < 0 then max hv (min (hv+row.getD i 0) k.room) else qE k t down i (ah.getD i 0)+t.ay
theorem N4 (one:Bool) (s:aC) (hg:Good s) (i:Nat) (hi:i < s.kinds.length) (t:aN) (down:Int) (h:iE s.ah s.kinds[i] (av i s.ai) t) (d:Nat) (hd:d < s.ah.length) (hv:Int) (hh:0≤hv∧hv≤300) :
  Pu one 46 [.ag (aF s),ak i,.ag (dg t),ak d,ak hv,BB (decide (down≤(d:Int)))] (.tp [ak (max 0 (kR s.ah s.kinds[i] (av i s.ai) t down d hv)),ak (Gp s.kinds[i] (av i s.ai) d hv),ak (JU s.ah s.kinds[i] (av i s.ai) t down d hv),BB (decide (kR s.ah s.kinds[i] (av i s.ai) t down d hv < 0))]):=by
 have ec:((s.ai.map cr).length:Int)=s.ai.length:=by simp
 have h8:=lW hg.sizes
 refine af.body (fn:=Tryz.f46) rfl rfl rfl rfl ?_
 refine aa (mu:=fun _=>false) ?_
 repeat' (first |with_reducible (first|refine bl ?_|refine bg ?_) |refine u2 ?_ |fail)
 refine aG.aU (aj.to (l:=[(1,ak i),(3,ak d),(4,ak hv),(5,BB (decide (down≤(d:Int)))),(6,.pt (aF s) 0),(8,.pt (dg t) 0),(16,ak ((av i (s.ai.take 0)).getD d 0)),(17,ak ((0:Nat):Int))]) 0 rfl ⟨rfl,rfl,rfl,rfl,rfl,rfl,aJ (by have:=(jF.zero (k:=(i:Int))).get (d:=d) (by omega);show 0=(av i []).getD d 0;omega),rfl,trivial⟩ (Nat.zero_le _) rfl rfl) ?_
 refine aG.loop (fun j:Nat=>j≤s.ai.length) (fun j=>⟨bT [(1,ak i),(3,ak d),(4,ak hv),(5,BB (decide (down≤(d:Int)))),(6,.pt (aF s) 0),(8,.pt (dg t) 0),(16,ak ((av i (s.ai.take j)).getD d 0)),(17,ak (j:Int))],[],bW.none,false,0⟩) (fun j=>s.ai.length - j) ?_ 0 (Nat.zero_le _)
 intro j hj
 have hrow:jF (s.ai.take j).length (av i (s.ai.take j)):=m9 fun c hx=>by have:=hg.ai c (List.mem_of_mem_take hx);omega
 have hrl:(s.ai.take j).length=j:=by simp;omega
 rw [hrl] at hrow
 have hget:=hrow.get (d:=d) (by omega)
 refine aa (mu:=fun _=>false) ?_
 repeat' (first |with_reducible (first|refine bl ?_|refine bg ?_) |refine u2 ?_ |fail)
 refine ⟨fun h2=>?_,fun h2=>?_⟩
 ·have hlt:j < s.ai.length:=by simpa only [ec,decide_eq_true_eq,Int.ofNat_lt] using h2
  have hcj:=hg.ai s.ai[j] (List.getElem_mem hlt)
  have hrow':(av i (s.ai.take (j+1))).getD d 0=if s.ai[j].day=(d:Int)∧s.ai[j].kind=(i:Int) then (av i (s.ai.take j)).getD d 0+s.ai[j].cE else (av i (s.ai.take j)).getD d 0:=by
   rw [List.take_add_one,List.getElem?_eq_getElem hlt]
   exact (congrArg (fun l=>l.getD d 0) (nB _ _ _)).trans (rY (by rw [hrow.len];omega) hcj.1.1)
  generalize (av i (s.ai.take j)).getD d 0=sum at hget hrow'
  repeat' (first |with_reducible (first|refine bZ ?_|refine bl ?_|refine fN ?_|refine bg ?_|refine bf ?_) |(refine ⟨_,rfl,?_⟩) |(refine bJ (by assumption) ?_) |(refine cu rfl ?_) |(refine cu (by assumption) ?_) |(refine ⟨_,_,rfl,by decide,?_⟩) |(refine And.intro (by omega) ?_) |(refine ⟨cr s.ai[j],⟨by omega,bP hlt⟩,rfl,?_⟩) |(refine ⟨fun h=>?_,fun h=>?_⟩) |fail)
  all_goals refine ⟨j+1,hlt,(by dsimp only;omega),aj.to 0 rfl ⟨rfl,rfl,rfl,rfl,rfl,rfl,aJ ?_,aJ (by simp),trivial⟩ (Nat.zero_le _) rfl rfl⟩
  all_goals rw [hrow']
  all_goals simp_all
 ·have hj:s.ai.take j=s.ai:=List.take_of_length_le (by rw [ec,decide_eq_false_iff_not] at h2;omega)
  rw [hj] at hget ⊢
  have b1:=h.n hd
  have b2:=nc b1 h.aR
  have b3:=nc b2 h.dK
  have b6:=h.room
  have b7:=h.ay
  have hgd:s.ah[d]=s.ah.getD d 0:=by rw [List.getD_eq_getElem?_getD,List.getElem?_eq_getElem hd];rfl
  have hget8:(av i s.ai).getD d 0≤2700:=by omega
  unfold JU Gp kR qE
  rw [←hgd] at b1 b2 b3 ⊢
  generalize (av i s.ai).getD d 0=c at hget hget8 ⊢
  have hq:IntKind.i64.wrap ((s.ah[d] * t.aR * s.kinds[i].dK+1000 - 1).tdiv 1000)=(s.ah[d] * t.aR * s.kinds[i].dK+1000 - 1) / 1000:=IntWalk.i64_quo _ 1000 (by omega)
  repeat' (first |with_reducible (first|refine bl ?_|refine bg ?_|refine bf ?_) |refine u2 ?_ |refine ⟨bD s.kinds[i],⟨by omega,bP hi⟩,rfl,?_⟩ |refine ⟨eI s.ah[d],⟨by omega,bP hd⟩,rfl,?_⟩ |fail)
  refine ⟨fun h3=>?_,fun h3=>?_⟩
  ·rw [if_pos (show down≤(d:Int) by simpa using h3)]
   repeat' (first |with_reducible refine bg ?_ |refine u2 ?_ |refine ⟨bD s.kinds[i],⟨by omega,bP hi⟩,rfl,?_⟩ |fail)
   rw [hq]
   have hu:0≤(s.ah[d] * t.aR * s.kinds[i].dK+1000 - 1) / 1000∧(s.ah[d] * t.aR * s.kinds[i].dK+1000 - 1) / 1000≤72:=by omega
   generalize (s.ah[d] * t.aR * s.kinds[i].dK+1000 - 1) / 1000=u at hu ⊢
   repeat' (first |with_reducible (first|refine bZ ?_|refine bl ?_|refine bg ?_|refine bf ?_) |refine u2 ?_ |refine ⟨fun h=>?_,fun h=>?_⟩ |fail)
   all_goals refine ⟨[_,_,_,_],⟨Fz.deep rfl,Fz.deep rfl,Fz.deep rfl,Fz.deep rfl,trivial⟩,?_⟩
   ·rw [decide_eq_true_eq] at h
    refine Ly (aJ ?_) (aJ ?_) (aJ ?_) (F6 ?_)
    ·omega
    ·rfl
    ·rw [if_pos (by omega)];omega
    ·rw [decide_eq_true (by omega)]
   ·rw [decide_eq_false_iff_not] at h
    refine Ly (aJ ?_) (aJ ?_) (aJ ?_) (F6 ?_)
    ·omega
    ·rfl
    ·rw [if_neg (by omega)]
    ·rw [decide_eq_false (by omega)]
  ·rw [if_neg (show ¬ down≤(d:Int) by simpa using h3)]
   clear hq
   have hu:0≤s.ah[d] * t.aR∧s.ah[d] * t.aR≤72:=by omega
   generalize s.ah[d] * t.aR=u at hu ⊢
   repeat' (first |with_reducible (first|refine bZ ?_|refine bl ?_|refine bg ?_|refine bf ?_) |refine u2 ?_ |refine ⟨fun h=>?_,fun h=>?_⟩ |fail)
   all_goals refine ⟨[_,_,_,_],⟨Fz.deep rfl,Fz.deep rfl,Fz.deep rfl,Fz.deep rfl,trivial⟩,?_⟩
   ·rw [decide_eq_true_eq] at h
    refine Ly (aJ ?_) (aJ ?_) (aJ ?_) (F6 ?_)
    ·omega
    ·rfl
    ·rw [if_pos (by omega)];omega
    ·rw [decide_eq_true (by omega)]
   ·rw [decide_eq_false_iff_not] at h
    refine Ly (aJ ?_) (aJ ?_) (aJ ?_) (F6 ?_)
    ·omega
    ·rfl
    ·rw [if_neg (by omega)]
    ·rw [decide_eq_false (by omega)]
end Go.Proofs.YtgdbfbalchdmcaaGreat.St
open Go Go.RM
namespace Go.Proofs.YtgdbfbalchdmcaaGreat.St
set_option maxRecDepth 100000
theorem sI (ah:List Int) (k:Kind) (row:List Int) (t:aN) (down:Int):∀ i:Nat,ck ah k row t down i=ah.length∨(0≤ck ah k row t down i∧ck ah k row t down i < i)
 | 0=>.inl rfl
 | i+1=>by
  have ih:=sI ah k row t down i
  unfold ck
  split
  ·by_cases h:ck ah k row t down i≤i
   ·rw [Int.min_eq_left h]
    omega
   ·rw [Int.min_eq_right (by omega)]
    omega
  ·omega
theorem Na (one:Bool) (s:aC) (hg:Good s) (i:Nat) (hi:i < s.kinds.length) (t:aN) (down:Int) (h:iE s.ah s.kinds[i] (av i s.ai) t) :
  Pu one 13 [.ag (aF s),ak i,.ag (dg t),ak down] (.tp [.sl ((List.range (s.ah.length+1)).map fun j=>eI (bu s.ah s.kinds[i] (av i s.ai) t down j)) false,ak (ck s.ah s.kinds[i] (av i s.ai) t down s.ah.length)]):=by
 have em:((s.ah.map eI).length:Int)=s.ah.length:=by simp
 have hday:=fun d hd hv hh=>N4 true s hg i hi t down h d hd hv hh
 have hhave:=h.AG down
 have h8:=lW hg.sizes
 generalize s.kinds[i]=k at h hday hhave ⊢
 generalize av i s.ai=row at h hday hhave ⊢
 refine af.body (fn:=Tryz.f13) rfl rfl rfl rfl ?_
 refine aa (mu:=fun t=>Nat.beq t 19 || Nat.beq t 59) ?_
 repeat' (first |with_reducible (first|refine bl ?_|refine bg ?_|refine bf ?_) |refine u2 ?_ |fail)
 refine aG.aU (aj.to (l:=[(1,ak i),(3,ak down),(4,.pt (aF s) 0),(6,.pt (dg t) 0),(10,.dM 0 0 0 1 1),(11,ak s.ah.length),(12,ak ((0:Nat):Int))]) (hp:=[wC s.ah k row t down 0]) 1 rfl ⟨rfl,rfl,rfl,rfl,rfl,aJ em,rfl,trivial⟩ (Nat.zero_le _) rfl rfl) ?_
 refine aG.loop (fun j:Nat=>j≤s.ah.length) (fun j=>⟨bT [(1,ak i),(3,ak down),(4,.pt (aF s) 0),(6,.pt (dg t) 0),(10,.dM 0 j 0 (j+1) (B6 j)),(11,ak (ck s.ah k row t down j)),(12,ak (j:Int))],[wC s.ah k row t down j],bW.none,false,0⟩) (fun j=>s.ah.length - j) ?_ 0 (Nat.zero_le _)
 intro j hj
 refine aa (mu:=fun t=>Nat.beq t 19 || Nat.beq t 59) ?_
 repeat' (first |with_reducible (first|refine bl ?_|refine bg ?_) |refine u2 ?_ |fail)
 refine ⟨fun h2=>?_,fun h2=>?_⟩
 ·have hlt:j < s.ah.length:=by simpa only [em,decide_eq_true_eq,Int.ofNat_lt] using h2
  have b4:=hhave j hj
  have hdj:=hday j hlt _ b4
  have hhv:bu s.ah k row t down (j+1)=max 0 (kR s.ah k row t down j (bu s.ah k row t down j)):=rfl
  have hsh:ck s.ah k row t down (j+1)=if kR s.ah k row t down j (bu s.ah k row t down j) < 0 then min (ck s.ah k row t down j) j else ck s.ah k row t down j:=rfl
  have hor:=sI s.ah k row t down j
  have hg:((List.range (j+1)).map fun i=>ak (bu s.ah k row t down i))[0+(j:Int).toNat * 1]?=some (ak (bu s.ah k row t down j)):=by
   rw [show 0+(j:Int).toNat * 1=j from by omega,List.getElem?_map,List.getElem?_range (by omega)]
   rfl
  generalize bu s.ah k row t down j=hv at hdj hhv hsh hg b4
  repeat' (first |with_reducible (first|refine bZ ?_|refine bl ?_|refine fN ?_|refine yh ?_|refine bf ?_) |(refine ⟨_,rfl,?_⟩) |(refine F0 rfl rfl ?_) |(refine And.intro (Nat.le_of_ble_eq_true rfl) ?_) |(refine And.intro (by omega) ?_) |(refine ⟨_,_,rfl,_,hg,?_⟩) |fail)
  refine ⟨_,hdj,?_⟩
  generalize kR s.ah k row t down j hv=raw at hhv hsh ⊢
  repeat' (first |with_reducible (first|refine bZ ?_|refine bl ?_|refine bg ?_|refine bf ?_) |(refine ⟨_,rfl,?_⟩) |(refine bJ (by assumption) ?_) |(refine cu rfl ?_) |(refine cu (by assumption) ?_) |(refine ⟨_,_,rfl,by decide,?_⟩) |(refine ⟨rfl,rfl,rfl,?_⟩) |(refine And.intro (by kernel_rfl) ?_) |(refine ⟨fun h=>?_,fun h=>?_⟩) |fail)
  all_goals refine ⟨[eI _],⟨fun el hel=>by rw [List.mem_singleton.1 hel];rfl,rfl⟩,rfl,.inl ⟨rfl,_,rfl,by simp,jG j,And.intro (by dsimp only [List.length];have:=h8.1;omega) (by dsimp only [List.length];have:=h8.1;omega),fun hn=>absurd hn (by simp),fun _=>?_⟩⟩
  ·repeat' (first |refine u2 ?_ |fail)
   have h1:raw < 0:=by simpa using ‹decide (raw < 0)=true›
   have h2:ck s.ah k row t down j=s.ah.length:=by simp_all
   rw [if_pos h1,h2,Int.min_eq_right (by omega)] at hsh
   refine ⟨j+1,hlt,(by dsimp only;omega),aj.to 1 (eL hhv) ⟨rfl,rfl,rfl,rfl,rfl,aJ hsh.symm,aJ (by simp),trivial⟩ (Nat.zero_le _) rfl (eY _ _ _ _ _ _)⟩
  ·repeat' (first |refine u2 ?_ |fail)
   have h1:raw < 0:=by simpa using ‹decide (raw < 0)=true›
   have h2:¬ ck s.ah k row t down j=s.ah.length:=by simp_all
   rw [if_pos h1,Int.min_eq_left (by omega)] at hsh
   refine ⟨j+1,hlt,(by dsimp only;omega),aj.to 1 (eL hhv) ⟨rfl,rfl,rfl,rfl,rfl,aJ hsh.symm,aJ (by simp),trivial⟩ (Nat.zero_le _) rfl (eY _ _ _ _ _ _)⟩
  ·repeat' (first |refine u2 ?_ |fail)
   have h1:¬ raw < 0:=by simpa using h
   rw [if_neg h1] at hsh
   refine ⟨j+1,hlt,(by dsimp only;omega),aj.to 1 (eL hhv) ⟨rfl,rfl,rfl,rfl,rfl,aJ hsh.symm,aJ (by simp),trivial⟩ (Nat.zero_le _) rfl (eY _ _ _ _ _ _)⟩
 ·have hi:j=s.ah.length:=by rw [em,decide_eq_false_iff_not] at h2;omega
  subst hi
  skip
  exact ⟨[_,_],⟨Fw _ _ _ _ _ _,Fz.deep rfl,trivial⟩,rfl⟩
end Go.Proofs.YtgdbfbalchdmcaaGreat.St
open Go Go.RM
namespace Go.Proofs.YtgdbfbalchdmcaaGreat.St
set_option maxRecDepth 100000
set_option maxHeartbeats 4000000
theorem N5 (one:Bool):Pu one 6 [] (BB true):=af.closed (fun _=>rfl) rfl
end Go.Proofs.YtgdbfbalchdmcaaGreat.St
