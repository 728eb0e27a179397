/-
  Contracts of the program's functions and of the document's. Lemmas alone; their conditions stand in them.
-/
import Derived.Test.YtkappgolfkiaeaaGreatDoorK14
open Go Go.RM
namespace Go.Proofs.YtkappgolfkiaeaaGreatDoor.St
set_option maxRecDepth 100000
theorem jt {lo hi:Int} {l:List Int}:bS lo hi l=false ↔ ∀ n ∈ l,lo≤n∧n≤hi:=by
 unfold bS;rw [List.any_eq_false];constructor
 ·intro h n hn;have:=h n hn;simp at this;omega
 ·intro h n hn;have:=h n hn;simp;omega
structure kV (k:Kind):Prop where
 first:0≤k.first.lo∧k.first.lo≤k.first.hi∧k.first.hi≤300
 bp:0≤k.bp.lo∧k.bp.lo≤k.bp.hi∧k.bp.hi≤6
 aD:0≤k.aD.lo∧k.aD.lo≤k.aD.hi∧k.aD.hi≤12
 room:0≤k.room∧k.room≤300
 dh:0≤k.dh∧k.dh≤1000
theorem Br {k:Kind} {names:List ByteArray} (h:fY k names=0):kV k:=by
 unfold fY at h;split at h
 ·exact absurd h (by decide)
 ·split at h
  ·exact absurd h (by decide)
  ·split at h
   ·exact absurd h (by decide)
   ·rename_i h7;split at h
    ·exact absurd h (by decide)
    ·rename_i h2;simp only [Bool.not_eq_true,Bool.or_eq_false_iff,jt,decide_eq_false_iff_not,List.mem_cons,List.not_mem_nil,or_false,forall_eq_or_imp,forall_eq] at h7 h2;obtain ⟨⟨⟨a,b⟩,c⟩,d⟩:=h7;constructor <;> omega
def EZ (s:aI):Prop:=(1≤s.ax.length∧s.ax.length≤30)∧(1≤s.kinds.length∧s.kinds.length≤4)∧s.au.length≤9
theorem j6 {s:aI} (h:EZ s):(1≤s.ax.length∧s.ax.length≤30)∧(1≤s.kinds.length∧s.kinds.length≤4)∧s.au.length≤9:=h
structure Good (s:aI):Prop where
 sizes:EZ s
 ax:∀ n ∈ s.ax,0≤n∧n≤12
 kinds:∀ k ∈ s.kinds,kV k
 au:∀ c ∈ s.au,(0≤c.day∧c.day < s.ax.length)∧(0≤c.cC∧c.cC≤300)∧0≤c.kind∧c.kind < s.kinds.length
theorem yP {s:aI} {c:jS} (h:gS s c=0):(0≤c.day∧c.day < s.ax.length)∧(0≤c.cC∧c.cC≤300)∧0≤c.kind∧c.kind < s.kinds.length:=by
 unfold gS at h;split at h
 ·exact absurd h (by decide)
 ·rename_i h4;split at h
  ·exact absurd h (by decide)
  ·rename_i h7;simp only [Bool.not_eq_true,Bool.or_eq_false_iff,jt,List.mem_cons,List.not_mem_nil,or_false,forall_eq] at h4 h7;omega
theorem xH {s:aI} (h:(gv s).2.2=0):Good s:=by
 cases hb:dI s with
 | true=>rw [Oj hb] at h;exact absurd h (by decide)
 | false =>
  by_cases hi:0≤l5 (fun n=>bS 0 12 [n]) s.ax
  ·exfalso;unfold gv at h;unfold dI at hb;rw [if_neg (by rw [hb];decide)] at h;simp only [if_pos hi] at h;exact absurd h (by decide)
  ·have hany:=nD (fun n=>bS 0 12 [n]) s.ax;rw [decide_eq_false hi] at hany;have hm:∀ n ∈ s.ax,0≤n∧n≤12:=fun n hn=>by have:=List.any_eq_false.1 hany.symm n hn;rw [Bool.not_eq_true,jt] at this;exact this n (by simp)
   rw [vr hb (fun i hi=>jt.2 fun n hn=>by rw [List.mem_singleton.1 hn];exact hm _ (List.getElem_mem _))] at h;by_cases h1:(bx s.kinds.length (nY s)).2=0
   ·rw [if_neg (by simpa using h1)] at h;by_cases h2:(bx s.au.length (sQ s)).2=0
    ·refine ⟨by have:=Dj hb;unfold EZ;omega,hm,fun k hk=>?_,fun c hc=>?_⟩
     ·obtain ⟨i,hi,rfl⟩:=List.getElem_of_mem hk;have:=eP h1 i hi;rw [Bn hi] at this;exact Br this
     ·obtain ⟨i,hi,rfl⟩:=List.getElem_of_mem hc;have:=eP h2 i hi;rw [F8 hi] at this;exact yP this
    ·rw [if_pos h2] at h;exact absurd h h2
   ·rw [if_pos h1] at h;exact absurd h h1
theorem Good.row {s:aI} (h:Good s) (k:Int):iR 9 (ay k s.au):=by have h8:=j6 h.sizes;have:=lO (k:=k) (cs:=s.au) (fun c hc=>by have:=h.au c hc;omega);exact ⟨this.len,fun x hx=>by have:=this.T1 x hx;omega⟩
theorem zH {s:aI} {k:Kind} {row:List Int} {c:AV} (h:row.length=30) {z:List AV} (hz:z.length=43):eX z (AV.ag (aM s k row c)).cells 0=aM s k row c:=by show []++(aM s k row c)++z.drop (0+(aM s k row c).length)=_;rw [ew h,List.drop_of_length_le (by omega),List.nil_append,List.append_nil]
def pX (k:Kind) (t:aR):Bool:=iC t.first k.first.lo k.first.hi && (iC t.bp k.bp.lo k.bp.hi && iC t.aD k.aD.lo k.aD.hi)
theorem qv {k:Int} {l:List Int} {c:jS} {d:Nat} (hd:d < l.length) (hc:0≤c.day):(fN k l c).getD d 0=if c.day=(d:Int)∧c.kind=k then l.getD d 0+c.cC else l.getD d 0:=by
 unfold fN;by_cases hk:c.kind=k
 ·rw [if_pos hk];by_cases he:c.day=(d:Int)
  ·rw [if_pos ⟨he,hk⟩,he,Int.toNat_natCast];rw [List.getD_eq_getElem?_getD,List.getElem?_set_self (by omega)];rfl
  ·rw [if_neg (fun h=>he h.1)];rw [List.getD_eq_getElem?_getD,List.getElem?_set_ne (by omega),←List.getD_eq_getElem?_getD]
 ·rw [if_neg hk,if_neg (fun h=>hk h.2)]
theorem NF {a b c d a' b' c' d':AV} (h1:a=a') (h2:b=b') (h3:c=c') (h4:d=d'):AV.tp [a,b,c,d]=AV.tp [a',b',c',d']:=by rw [h1,h2,h3,h4]
def F9 (k:Kind) (row:List Int) (i:Nat) (hv:Int):Int:=max 0 (min (row.getD i 0) (hv+row.getD i 0 - k.room))
def J0 (ax:List Int) (k:Kind) (row:List Int) (t:aR) (down:Int) (i:Nat) (hv:Int):Int :=
 if lP ax k row t down i hv < 0 then max hv (min (hv+row.getD i 0) k.room) else sR k t down i (ax.getD i 0)+t.aD
theorem Sk (one:Bool) (s:aI) (hg:Good s) (i:Nat) (hi:i < s.kinds.length) (t:aR) (down:Int) (h:gI s.ax s.kinds[i] (ay i s.au) t) (d:Nat) (hd:d < s.ax.length) (hv:Int) (hh:0≤hv∧hv≤300) :
  Pu one 55 [.ag (aN s),av i,.ag (bC t),av d,av hv,BB (decide (down≤(d:Int)))] (.tp [av (max 0 (lP s.ax s.kinds[i] (ay i s.au) t down d hv)),av (F9 s.kinds[i] (ay i s.au) d hv),av (J0 s.ax s.kinds[i] (ay i s.au) t down d hv),BB (decide (lP s.ax s.kinds[i] (ay i s.au) t down d hv < 0))]):=by
 have ec:((s.au.map fL).length:Int)=s.au.length:=by simp
 have h8:=j6 hg.sizes;refine af.body (fn:=Tryz.f55) rfl rfl rfl rfl ?_;refine qq1 ?_;repeat' first |with_reducible (first|refine bk ?_|refine bg ?_)|refine u2 ?_|fail
 refine aE.aS (ai.to (l:=[(1,av i),(3,av d),(4,av hv),(5,BB (decide (down≤(d:Int)))),(6,.pt (aN s) 0),(8,.pt (bC t) 0),(16,av ((ay i (s.au.take 0)).getD d 0)),(17,av ((0:Nat):Int))]) 0 rfl ⟨rfl,rfl,rfl,rfl,rfl,rfl,aJ (by have:=(iR.zero (k:=(i:Int))).get (d:=d) (by omega);show 0=(ay i []).getD d 0;omega),rfl,trivial⟩ (qq5 _) rfl rfl) ?_;refine aE.loop (fun j:Nat=>j≤s.au.length) (fun j=>⟨bA [(1,av i),(3,av d),(4,av hv),(5,BB (decide (down≤(d:Int)))),(6,.pt (aN s) 0),(8,.pt (bC t) 0),(16,av ((ay i (s.au.take j)).getD d 0)),(17,av (j:Int))],[],cz.none,false,0⟩) (fun j=>s.au.length - j) ?_ 0 (qq5 _);intro j hj;have hrow:iR (s.au.take j).length (ay i (s.au.take j)):=lO fun c hx=>by have:=hg.au c (List.mem_of_mem_take hx);omega
 have hrl:(s.au.take j).length=j:=by simp;omega
 rw [hrl] at hrow;have hget:=hrow.get (d:=d) (by omega);refine qq1 ?_;repeat' first |with_reducible (first|refine bk ?_|refine bg ?_)|refine u2 ?_|fail
 refine ⟨fun h2=>?_,fun h2=>?_⟩
 ·have hlt:j < s.au.length:=by simpa only [ec,decide_eq_true_eq,Int.ofNat_lt] using h2
  have hcj:=hg.au s.au[j] (List.getElem_mem hlt);have hrow':(ay i (s.au.take (j+1))).getD d 0=if s.au[j].day=(d:Int)∧s.au[j].kind=(i:Int) then (ay i (s.au.take j)).getD d 0+s.au[j].cC else (ay i (s.au.take j)).getD d 0:=by rw [List.take_add_one,List.getElem?_eq_getElem hlt];exact (congrArg (fun l=>l.getD d 0) (l7 _ _ _)).trans (qv (by rw [hrow.len];omega) hcj.1.1)
  generalize (ay i (s.au.take j)).getD d 0=sum at hget hrow';repeat' first |with_reducible (first|refine bQ ?_|refine bk ?_|refine fm ?_|refine bg ?_|refine aZ ?_)|(refine ⟨_,rfl,?_⟩)|(refine bD (by assumption) ?_)|(refine bV rfl ?_)|(refine bV (by assumption) ?_)|(refine ⟨_,_,rfl,by decide,?_⟩)|(refine And.intro (by omega) ?_)|(refine ⟨fL s.au[j],⟨by omega,bI hlt⟩,rfl,?_⟩)|(refine ⟨fun h=>?_,fun h=>?_⟩)|fail
  all_goals refine ⟨j+1,hlt,(by dsimp only;omega),ai.to 0 rfl ⟨rfl,rfl,rfl,rfl,rfl,rfl,aJ ?_,aJ (by simp),trivial⟩ (qq5 _) rfl rfl⟩
  all_goals rw [hrow']
  all_goals simp_all
 ·have hj:s.au.take j=s.au:=List.take_of_length_le (by rw [ec,decide_eq_false_iff_not] at h2;omega);rw [hj] at hget ⊢;have b1:=h.n hd;have b2:=lQ b1 h.bp;have b3:=lQ b2 h.dh;have b6:=h.room;have b7:=h.aD;have hgd:s.ax[d]=s.ax.getD d 0:=by rw [List.getD_eq_getElem?_getD,List.getElem?_eq_getElem hd];rfl
  have hget8:(ay i s.au).getD d 0≤2700:=by omega
  unfold J0 F9 lP sR;rw [←hgd] at b1 b2 b3 ⊢;generalize (ay i s.au).getD d 0=c at hget hget8 ⊢;have hq:IntKind.i64.wrap ((s.ax[d] * t.bp * s.kinds[i].dh+1000 - 1).tdiv 1000)=(s.ax[d] * t.bp * s.kinds[i].dh+1000 - 1) / 1000:=IntWalk.i64_quo _ 1000 (by omega);repeat' first |with_reducible (first|refine bk ?_|refine bg ?_|refine aZ ?_)|refine u2 ?_|refine ⟨cA s.kinds[i],⟨by omega,bI hi⟩,rfl,?_⟩|refine ⟨eI s.ax[d],⟨by omega,bI hd⟩,rfl,?_⟩|fail
  refine ⟨fun h3=>?_,fun h3=>?_⟩
  ·rw [if_pos (show down≤(d:Int) by simpa using h3)];repeat' first |with_reducible refine bg ?_|refine u2 ?_|refine ⟨cA s.kinds[i],⟨by omega,bI hi⟩,rfl,?_⟩|fail
   rw [hq];have hu:0≤(s.ax[d] * t.bp * s.kinds[i].dh+1000 - 1) / 1000∧(s.ax[d] * t.bp * s.kinds[i].dh+1000 - 1) / 1000≤72:=by omega
   generalize (s.ax[d] * t.bp * s.kinds[i].dh+1000 - 1) / 1000=u at hu ⊢;repeat' first |with_reducible (first|refine bQ ?_|refine bk ?_|refine bg ?_|refine aZ ?_)|refine u2 ?_|refine ⟨fun h=>?_,fun h=>?_⟩|fail
   all_goals refine ⟨[_,_,_,_],⟨Fz.deep rfl,Fz.deep rfl,Fz.deep rfl,Fz.deep rfl,trivial⟩,?_⟩
   ·rw [decide_eq_true_eq] at h;refine NF (aJ ?_) (aJ ?_) (aJ ?_) (Er ?_)
    ·omega
    ·rfl
    ·rw [if_pos (by omega)];omega
    ·rw [decide_eq_true (by omega)]
   ·rw [decide_eq_false_iff_not] at h;refine NF (aJ ?_) (aJ ?_) (aJ ?_) (Er ?_)
    ·omega
    ·rfl
    ·rw [if_neg (by omega)]
    ·rw [decide_eq_false (by omega)]
  ·rw [if_neg (show ¬ down≤(d:Int) by simpa using h3)];clear hq;have hu:0≤s.ax[d] * t.bp∧s.ax[d] * t.bp≤72:=by omega
   generalize s.ax[d] * t.bp=u at hu ⊢;repeat' first |with_reducible (first|refine bQ ?_|refine bk ?_|refine bg ?_|refine aZ ?_)|refine u2 ?_|refine ⟨fun h=>?_,fun h=>?_⟩|fail
   all_goals refine ⟨[_,_,_,_],⟨Fz.deep rfl,Fz.deep rfl,Fz.deep rfl,Fz.deep rfl,trivial⟩,?_⟩
   ·rw [decide_eq_true_eq] at h;refine NF (aJ ?_) (aJ ?_) (aJ ?_) (Er ?_)
    ·omega
    ·rfl
    ·rw [if_pos (by omega)];omega
    ·rw [decide_eq_true (by omega)]
   ·rw [decide_eq_false_iff_not] at h;refine NF (aJ ?_) (aJ ?_) (aJ ?_) (Er ?_)
    ·omega
    ·rfl
    ·rw [if_neg (by omega)]
    ·rw [decide_eq_false (by omega)]
theorem qU (ax:List Int) (k:Kind) (row:List Int) (t:aR) (down:Int):∀ i:Nat,cm ax k row t down i=ax.length∨(0≤cm ax k row t down i∧cm ax k row t down i < i)
 | 0=>.inl rfl
 | i+1=>by
  have ih:=qU ax k row t down i;unfold cm;split
  ·by_cases h:cm ax k row t down i≤i
   ·rw [Int.min_eq_left h];omega
   ·rw [Int.min_eq_right (by omega)];omega
  ·omega
theorem Qp (one:Bool) (s:aI) (hg:Good s) (i:Nat) (hi:i < s.kinds.length) (t:aR) (down:Int) (h:gI s.ax s.kinds[i] (ay i s.au) t) :
  Pu one 16 [.ag (aN s),av i,.ag (bC t),av down] (.tp [.sl ((List.range (s.ax.length+1)).map fun j=>eI (bz s.ax s.kinds[i] (ay i s.au) t down j)) false,av (cm s.ax s.kinds[i] (ay i s.au) t down s.ax.length)]):=by
 have em:((s.ax.map eI).length:Int)=s.ax.length:=by simp
 have hday:=fun d hd hv hh=>Sk true s hg i hi t down h d hd hv hh;have hhave:=h.zF down;have h8:=j6 hg.sizes;generalize s.kinds[i]=k at h hday hhave ⊢;generalize ay i s.au=row at h hday hhave ⊢;refine af.body (fn:=Tryz.f16) rfl rfl rfl rfl ?_;refine aa (mu:=fun t=>Nat.beq t 19 || Nat.beq t 59) ?_;repeat' first |with_reducible (first|refine bk ?_|refine bg ?_|refine aZ ?_)|refine u2 ?_|fail
 refine aE.aS (ai.to (l:=[(1,av i),(3,av down),(4,.pt (aN s) 0),(6,.pt (bC t) 0),(10,.dw 0 0 0 1 1),(11,av s.ax.length),(12,av ((0:Nat):Int))]) (hp:=[vi s.ax k row t down 0]) 1 rfl ⟨rfl,rfl,rfl,rfl,rfl,aJ em,rfl,trivial⟩ (qq5 _) rfl rfl) ?_;refine aE.loop (fun j:Nat=>j≤s.ax.length) (fun j=>⟨bA [(1,av i),(3,av down),(4,.pt (aN s) 0),(6,.pt (bC t) 0),(10,.dw 0 j 0 (j+1) (Bq j)),(11,av (cm s.ax k row t down j)),(12,av (j:Int))],[vi s.ax k row t down j],cz.none,false,0⟩) (fun j=>s.ax.length - j) ?_ 0 (qq5 _);intro j hj;refine aa (mu:=fun t=>Nat.beq t 19 || Nat.beq t 59) ?_;repeat' first |with_reducible (first|refine bk ?_|refine bg ?_)|refine u2 ?_|fail
 refine ⟨fun h2=>?_,fun h2=>?_⟩
 ·have hlt:j < s.ax.length:=by simpa only [em,decide_eq_true_eq,Int.ofNat_lt] using h2
  have b4:=hhave j hj;have hdj:=hday j hlt _ b4;have hhv:bz s.ax k row t down (j+1)=max 0 (lP s.ax k row t down j (bz s.ax k row t down j)):=rfl;have hsh:cm s.ax k row t down (j+1)=if lP s.ax k row t down j (bz s.ax k row t down j) < 0 then min (cm s.ax k row t down j) j else cm s.ax k row t down j:=rfl;have hor:=qU s.ax k row t down j;have hg:((List.range (j+1)).map fun i=>av (bz s.ax k row t down i))[0+(j:Int).toNat * 1]?=some (av (bz s.ax k row t down j)):=by rw [show 0+(j:Int).toNat * 1=j from by omega,List.getElem?_map,List.getElem?_range (by omega)];rfl
  generalize bz s.ax k row t down j=hv at hdj hhv hsh hg b4;repeat' first |with_reducible (first|refine bQ ?_|refine bk ?_|refine fm ?_|refine wV ?_|refine aZ ?_)|(refine ⟨_,rfl,?_⟩)|(refine FM rfl rfl ?_)|(refine And.intro (Nat.le_of_ble_eq_true rfl) ?_)|(refine And.intro (by omega) ?_)|(refine ⟨_,_,rfl,_,hg,?_⟩)|fail
  refine ⟨_,hdj,?_⟩;generalize lP s.ax k row t down j hv=raw at hhv hsh ⊢;repeat' first |with_reducible (first|refine bQ ?_|refine bk ?_|refine bg ?_|refine aZ ?_)|(refine ⟨_,rfl,?_⟩)|(refine bD (by assumption) ?_)|(refine bV rfl ?_)|(refine bV (by assumption) ?_)|(refine ⟨_,_,rfl,by decide,?_⟩)|(refine ⟨rfl,rfl,rfl,?_⟩)|(refine And.intro (by kernel_rfl) ?_)|(refine ⟨fun h=>?_,fun h=>?_⟩)|fail
  all_goals refine ⟨[eI _],⟨fun el hel=>by rw [List.mem_singleton.1 hel];rfl,rfl⟩,rfl,_,rfl,by simp,iT j,And.intro (by dsimp only [List.length];have:=h8.1;omega) (by dsimp only [List.length];have:=h8.1;omega),fun hn=>absurd hn (by simp),fun _=>?_⟩
  ·repeat' first|refine u2 ?_|fail
   have h1:raw < 0:=by simpa using ‹decide (raw < 0)=true›
   have h2:cm s.ax k row t down j=s.ax.length:=by simp_all
   rw [if_pos h1,h2,Int.min_eq_right (by omega)] at hsh;refine ⟨j+1,hlt,(by dsimp only;omega),ai.to 1 (dU hhv) ⟨rfl,rfl,rfl,rfl,rfl,aJ hsh.symm,aJ (by simp),trivial⟩ (qq5 _) rfl (ey _ _ _ _ _ _)⟩
  ·repeat' first|refine u2 ?_|fail
   have h1:raw < 0:=by simpa using ‹decide (raw < 0)=true›
   have h2:¬ cm s.ax k row t down j=s.ax.length:=by simp_all
   rw [if_pos h1,Int.min_eq_left (by omega)] at hsh;refine ⟨j+1,hlt,(by dsimp only;omega),ai.to 1 (dU hhv) ⟨rfl,rfl,rfl,rfl,rfl,aJ hsh.symm,aJ (by simp),trivial⟩ (qq5 _) rfl (ey _ _ _ _ _ _)⟩
  ·repeat' first|refine u2 ?_|fail
   have h1:¬ raw < 0:=by simpa using h
   rw [if_neg h1] at hsh;refine ⟨j+1,hlt,(by dsimp only;omega),ai.to 1 (dU hhv) ⟨rfl,rfl,rfl,rfl,rfl,aJ hsh.symm,aJ (by simp),trivial⟩ (qq5 _) rfl (ey _ _ _ _ _ _)⟩
 ·have hi:j=s.ax.length:=by rw [em,decide_eq_false_iff_not] at h2;omega
  subst hi
  skip
  exact ⟨[_,_],⟨EY _ _ _ _ _ _,Fz.deep rfl,trivial⟩,rfl⟩
set_option maxHeartbeats 4000000
theorem Oo (one:Bool):Pu one 6 [] (BB true):=af.closed (fun _=>rfl) rfl
end Go.Proofs.YtkappgolfkiaeaaGreatDoor.St
