/-
  Contracts of the program's functions and of the document's. Lemmas alone; their conditions stand in them.
-/
import Derived.Test.YtpeogffeoehboaaDoorA3
import Derived.Test.YtpeogffeoehboaaDoorK4
open Go Go.RM
namespace Go.Proofs.YtpeogffeoehboaaDoor
set_option maxRecDepth 100000
set_option maxHeartbeats 4000000
def iE (s:ak) (p:List Order) (f:List Int):Int:=if (aO s p).2=0 then gC f p.length else (aO s p).2
abbrev fA (n:Nat):AV:=.fl (.int .u64 ((n:Nat):Int))
def cD (l:List Int):Nat:=l.foldl (fun f i=>f ||| 2 ^ i.toNat) 0
theorem CO {l:List Int} {k:Nat} (h:k < l.length):cD (l.take (k+1))=cD (l.take k) ||| 2 ^ l[k].toNat:=by
 unfold cD
 rw [List.take_add_one,List.getElem?_eq_getElem h,List.foldl_append]
 rfl
theorem vn:∀ (l:List Int) (a k:Nat),(l.foldl (fun f i=>f ||| 2 ^ i.toNat) a).testBit k=(a.testBit k || l.any fun i=>i.toNat == k)
 | [],a,k=>by simp
 | x :: l,a,k=>by
  rw [List.foldl_cons,vn l,Nat.testBit_or,Nat.testBit_two_pow,List.any_cons,Bool.or_assoc]
  congr 1
theorem EM {l:List Int} {n:Nat} (h:∀ x ∈ l,0≤x∧x < n) (k:Nat):(cD l).testBit k=hasB l (k:Int):=by
 unfold cD
 rw [vn,Nat.zero_testBit,Bool.false_or,Bool.eq_iff_iff,gE,List.any_eq_true]
 constructor
 ·rintro ⟨x,hx,hk⟩
  have:=h x hx
  have e:x.toNat=k:=by simpa using hk
  rw [show (k:Int)=x by omega]
  exact hx
 ·intro hk
  exact ⟨(k:Int),hk,by simp⟩
theorem Bv {l:List Int} {n:Nat} (h:∀ x ∈ l,0≤x∧x < n):cD l < 2 ^ n:=by
 apply Nat.lt_pow_two_of_testBit
 intro i hi
 rw [EM h,←Bool.not_eq_true,gE]
 intro hm
 have:=h _ hm
 omega
theorem D0 (one:Bool) (s:ak) (hs:s.Ok) (p:List Order) (full:Bool) (hp:vQ p) (f:List Int) (ff:Bool) (hf:f.length≤maxLen):Pu one 49 [.ag (ay s),.sl (p.map ai) full,.sl (ints f) ff] (.tp [fA (if iE s p f=0 then cD f else 0),aA (iE s p f)]):=by
 have o1:=zy one s hs p full hp
 have mp:p.length≤9223372036854775807:=Nat.le_trans hp.len (by simp [maxLen])
 have mf:f.length≤9223372036854775807:=Nat.le_trans hf (by simp [maxLen])
 have ef:((ints f).length:Int)=f.length:=by simp
 obtain ⟨A,hA⟩:∃ A,A=(cN f.length (eN f (p.length:Int) 4)).1:=⟨_,rfl⟩
 have o2:Pu one 44 [.sl (ints f) ff,aA ((p.map ai).length:Int),aA 4] (.tp [aA A,aA (gC f p.length)]):=by
  rw [show ((p.map ai).length:Int)=p.length by simp,hA]
  exact Il one f ff (p.length:Int) 4 hf (by omega) (by decide)
 unfold iE
 by_cases c1:(aO s p).2=0
 ·have d0:decide ((0:Int)=0)=true:=by decide
  have d0':(!decide ((0:Int)=0))=false:=by decide
  have hp8:=(dM c1).len
  rw [if_pos c1]
  rw [c1] at o1
  generalize (aO s p).1=a at *
  by_cases c2:gC f p.length=0
  ·obtain ⟨q1,_,_⟩:=nN c2
   rw [if_pos c2,c2]
   rw [c2] at o2
   obtain ⟨n,hn⟩:∃ n:Int,n=f.length:=⟨_,rfl⟩
   refine af.body (fn:=Tryd.f49) rfl rfl rfl rfl ?_
   refine aa (mu:=fun _=>false) ?_
   repeat' (first |refine u1 ?_ |((with_reducible show aj _ _ _ _ _ _ _ _);refine af.call o1 rfl rfl ?_) |((with_reducible show aj _ _ _ _ _ _ _ _);refine af.call o2 rfl rfl ?_) |refine u2 ?_ |fail)
   refine aB.aL (au.to (l:=[(6,fA (cD (f.take 0))),(28,.sl (ints f) ff),(29,aA n),(30,aA (0:Nat))]) (hp:=[]) 0 rfl ⟨rfl,rfl,bu (by rw [hn];exact ef),rfl,trivial⟩ (Nat.zero_le _) rfl rfl) ?_
   refine aB.loop (fun k:Nat=>k≤f.length) (fun k=>⟨aU [(6,fA (cD (f.take k))),(28,.sl (ints f) ff),(29,aA n),(30,aA (k:Nat))],[],bP.none,false,0⟩) (fun k=>f.length - k) ?_ 0 (Nat.zero_le _)
   intro k hk
   refine aa (mu:=fun _=>false) ?_
   by_cases hlt:k < f.length
   ·have d1:decide ((k:Int) < n)=true:=decide_eq_true (by omega)
    have hat:(ints f)[((k:Nat):Int).toNat]?=some (aA f[k] :: []):=bC hlt
    have hx:=q1 _ (List.getElem_mem hlt)
    have ht:=CO hlt
    have hb:=Bv (l:=f.take k) (n:=p.length) (fun x hx=>q1 x (List.mem_of_mem_take hx))
    have h28:2 ^ p.length≤2 ^ 8:=Nat.pow_le_pow_right (by decide) hp8
    obtain ⟨j,hj⟩:∃ j:Nat,f[k]=(j:Int):=⟨f[k].toNat,by omega⟩
    rw [hj] at hat hx ht
    rw [Int.toNat_natCast] at ht
    have hj8:j < 8:=by omega
    have h2j:2 ^ j < 18446744073709551616:=Nat.lt_of_lt_of_le (Nat.pow_lt_pow_right (by decide) hj8) (by decide)
    have hbb:cD (f.take k) < 18446744073709551616:=by omega
    repeat' (first |((with_reducible show aN _ _ _ _ _ _ _ _ _);refine RM.IE rfl rfl hj8 ?_) |((with_reducible show aN _ _ _ _ _ _ _ _ _);refine RM.Ni rfl rfl hbb h2j ?_) |refine u1 ?_ |(refine ⟨aA (j:Int) :: [],⟨by omega,hat⟩,rfl,?_⟩) |refine u2 ?_ |fail)
    exact ⟨k+1,hlt,(by dsimp only;omega),au.to 0 rfl ⟨by dsimp only;rw [ht];rfl,rfl,rfl,bu (by simp),trivial⟩ (Nat.zero_le _) rfl rfl⟩
   ·have d1:decide ((k:Int) < n)=false:=decide_eq_false (by omega)
    have e:f.take k=f:=List.take_of_length_le (by omega)
    rw [e]
    repeat' (first |refine u1 ?_ |refine u2 ?_ |fail)
    exact ⟨[_,_],⟨Fz.deep rfl,Fz.deep rfl,trivial⟩,rfl⟩
  ·rw [if_neg c2]
   generalize gC f p.length=e at *
   have d1:(!decide (e=0))=true:=by rw [decide_eq_false c2];rfl
   refine af.body (fn:=Tryd.f49) rfl rfl rfl rfl ?_
   refine aa (mu:=fun _=>false) ?_
   repeat' (first |refine u1 ?_ |((with_reducible show aj _ _ _ _ _ _ _ _);refine af.call o1 rfl rfl ?_) |((with_reducible show aj _ _ _ _ _ _ _ _);refine af.call o2 rfl rfl ?_) |refine u2 ?_ |fail)
   exact ⟨[_,_],⟨Fz.deep rfl,Fz.deep rfl,trivial⟩,rfl⟩
 ·rw [if_neg c1,if_neg c1]
  generalize (aO s p).1=a at *
  generalize (aO s p).2=b at *
  have d1:decide (b=0)=false:=decide_eq_false c1
  have d2:(!decide (b=0))=true:=by rw [d1];rfl
  refine af.body (fn:=Tryd.f49) rfl rfl rfl rfl ?_
  refine aa (mu:=fun _=>false) ?_
  repeat' (first |refine u1 ?_ |((with_reducible show aj _ _ _ _ _ _ _ _);refine af.call o1 rfl rfl ?_) |((with_reducible show aj _ _ _ _ _ _ _ _);refine af.call o2 rfl rfl ?_) |refine u2 ?_ |fail)
  exact ⟨[_,_],⟨Fz.deep rfl,Fz.deep rfl,trivial⟩,rfl⟩
end Go.Proofs.YtpeogffeoehboaaDoor
namespace Go.TeLaw
def ox (R:Nat):Nat→Nat→Nat→List (List Bool)
 | 0,_,_=>[[]]
 | n+1,row,left=>(ox R n 0 left).map (false :: ·)++(if left=0∨R≤row then [] else (ox R n (row+1) (left - 1)).map (true :: ·))
def ej (R:Nat):Nat→List Bool→Bool
 | _,[]=>true
 | _,false :: l=>ej R 0 l
 | row,true :: l=>decide (row < R) && ej R (row+1) l
def cnt:List Bool→Nat
 | []=>0
 | false :: l=>cnt l
 | true :: l=>cnt l+1
theorem gj {R:Nat}:∀ {n row left:Nat} {b:List Bool},b ∈ ox R n row left ↔ (b.length=n∧cnt b≤left∧ej R row b=true)
 | 0,row,left,b=>by
  unfold ox
  rw [List.mem_singleton]
  constructor
  ·rintro rfl;exact ⟨rfl,Nat.zero_le _,rfl⟩
  ·rintro ⟨h,_⟩;exact List.length_eq_zero_iff.1 h
 | n+1,row,left,b=>by
  unfold ox
  rw [List.mem_append]
  constructor
  ·rintro (h|h)
   ·obtain ⟨c,hc,rfl⟩:=List.mem_map.1 h
    obtain ⟨h1,h2,h3⟩:=gj.1 hc
    exact ⟨by rw [List.length_cons,h1],h2,h3⟩
   ·split at h
    ·cases h
    ·rename_i hn
     obtain ⟨c,hc,rfl⟩:=List.mem_map.1 h
     obtain ⟨h1,h2,h3⟩:=gj.1 hc
     refine ⟨by rw [List.length_cons,h1],by unfold cnt;omega,?_⟩
     unfold ej
     rw [h3,decide_eq_true (by omega)]
     rfl
  ·rintro ⟨h1,h2,h3⟩
   match b,h1 with
   | false :: c,h1 =>
    exact .inl (List.mem_map.2 ⟨c,gj.2 ⟨by simpa using h1,h2,h3⟩,rfl⟩)
   | true :: c,h1 =>
    unfold cnt at h2
    unfold ej at h3
    rw [Bool.and_eq_true,decide_eq_true_eq] at h3
    right
    rw [if_neg (by omega)]
    exact List.mem_map.2 ⟨c,gj.2 ⟨by simpa using h1,by omega,h3.2⟩,rfl⟩
def sub:List Bool→List Bool→Bool
 | [],[]=>true
 | a :: l,b :: m=>(!a || b) && sub l m
 | _,_=>false
theorem CP {R n row left left':Nat} {b:List Bool} (h:left≤left') (hb:b ∈ ox R n row left):b ∈ ox R n row left':=by
 rw [gj] at *
 exact ⟨hb.1,by omega,hb.2.2⟩
def EN (full first:Int) (br:Nat→Bool):Nat→Int
 | 0=>if br 0 then full else first
 | d+1=>if br (d+1) then full else max 0 (EN full first br d - 1)
theorem CQ {full first:Int} (h:first≤full) (h0:0≤full) (br:Nat→Bool):∀ d,EN full first br d≤full
 | 0=>by unfold EN;split <;> omega
 | d+1=>by have:=CQ h h0 br d;unfold EN;split <;> omega
theorem Nj {full first:Int} (h:0≤first) (h0:0≤full) (br:Nat→Bool):∀ d,0≤EN full first br d
 | 0=>by unfold EN;split <;> omega
 | d+1=>by unfold EN;split <;> omega
theorem Bw {full first:Int} (h:first≤full) (h0:0≤full) {br br':Nat→Bool} (hb:∀ d,br d=true→br' d=true):∀ d,EN full first br d≤EN full first br' d
 | 0=>by
  unfold EN
  cases h1:br 0 with
  | true=>rw [hb 0 h1];exact Int.le_refl _
  | false=>rw [if_neg (by simp)];split <;> omega
 | d+1=>by
  have ih:=Bw h h0 hb d
  have hl:=CQ h h0 br d
  unfold EN
  cases h1:br (d+1) with
  | true=>rw [hb _ h1];exact Int.le_refl _
  | false=>rw [if_neg (by simp)];split <;> omega
end Go.TeLaw
open Go Go.RM
namespace Go.Proofs.YtpeogffeoehboaaDoor
set_option maxRecDepth 100000
def iY (s:ak) (n:Nat):Int:=match s.needs[n]? with
 | some x=>x.first
 | none=>0
def fG (s:ak) (n:Nat):Int:=match s.needs[n]? with
 | some x=>x.full
 | none=>0
def CR (p:List Order) (f n d:Nat):Bool:=(List.range p.length).any fun i=>match p[i]? with
 | some o=>decide (o.day=(d:Int)) && !f.testBit i && hasB o.aF (n:Int)
 | none=>false
theorem sS {p:List Order} {f n d:Nat}:CR p f n d=true ↔ ∃ i,∃ h:i < p.length,p[i].day=(d:Int)∧f.testBit i=false∧(n:Int) ∈ p[i].aF:=by
 unfold CR
 rw [List.any_eq_true]
 constructor
 ·rintro ⟨i,hi,h⟩
  have hi:=List.mem_range.1 hi
  rw [List.getElem?_eq_getElem hi] at h
  simp only [Bool.and_eq_true,decide_eq_true_eq,Bool.not_eq_true',gE] at h
  exact ⟨i,hi,h.1.1,h.1.2,h.2⟩
 ·rintro ⟨i,hi,h1,h2,h3⟩
  refine ⟨i,List.mem_range.2 hi,?_⟩
  rw [List.getElem?_eq_getElem hi]
  simp only [Bool.and_eq_true,decide_eq_true_eq,Bool.not_eq_true',gE]
  exact ⟨⟨h1,h2⟩,h3⟩
def gm (s:ak) (p:List Order) (f n d:Nat):Int:=if n < s.needs.length then TeLaw.EN (fG s n) (iY s n) (CR p f n) d else 0
def vo (s:ak) (p:List Order) (f n:Nat):Nat→Int
 | 0=>iY s n
 | d+1=>max 0 (gm s p f n d - 1)
theorem CS {s:ak} {p:List Order} {f n d:Nat} (h:n < s.needs.length):gm s p f n d=if CR p f n d=true then fG s n else vo s p f n d:=by
 unfold gm
 rw [if_pos h]
 cases d with
 | zero=>rfl
 | succ d =>
  have e:vo s p f n (d+1)=max 0 (TeLaw.EN (fG s n) (iY s n) (CR p f n) d - 1):=by
   show max 0 (gm s p f n d - 1)=_
   unfold gm
   rw [if_pos h]
  rw [e]
  rfl
theorem vp {s:ak} {n:Nat} (h:¬ n < s.needs.length):iY s n=0:=by unfold iY;rw [List.getElem?_eq_none (by omega)]
theorem zB {s:ak} (hg:Good s) {n:Nat} (h:n < s.needs.length):1≤fG s n∧fG s n≤60:=by
 unfold fG
 rw [List.getElem?_eq_getElem h]
 exact (hg.needs _ (List.getElem_mem h)).2.1
theorem IG {s:ak} (hg:Good s) {n:Nat} (h:n < s.needs.length):0≤iY s n∧iY s n≤fG s n:=by
 unfold iY fG
 rw [List.getElem?_eq_getElem h]
 exact (hg.needs _ (List.getElem_mem h)).2.2.1
theorem II {s:ak} (hg:Good s) (p:List Order) (f n d:Nat):0≤gm s p f n d∧gm s p f n d≤60:=by
 unfold gm
 split
 ·rename_i h
  have h1:=zB hg h
  have h2:=IG hg h
  have h3:=TeLaw.CQ (full:=fG s n) (first:=iY s n) h2.2 (by omega) (CR p f n) d
  have h4:=TeLaw.Nj (full:=fG s n) (first:=iY s n) h2.1 (by omega) (CR p f n) d
  omega
 ·omega
def ql (p:List Order) (d m:Nat):Prop:=m≤p.length∧(∀ i (h:i < p.length),i < m→p[i].day < (d:Int))∧∀ i (h:i < p.length),m≤i→(d:Int)≤p[i].day
theorem O1 {s:ak} {p:List Order} (hp:mz s p) {d m:Nat} (ha:ql p d m) (hm:m < p.length) (hd:p[m].day=(d:Int)) (f n:Nat):CR p f n d=(!f.testBit m && hasB p[m].aF (n:Int)):=by
 rw [Bool.eq_iff_iff,sS,Bool.and_eq_true,Bool.not_eq_true',gE]
 constructor
 ·rintro ⟨i,hi,h1,h2,h3⟩
  have:i=m:=by
   rcases Nat.lt_trichotomy i m with h|h|h
   ·have:=ha.2.1 i hi h;omega
   ·exact h
   ·have:=hp.OX m i hm hi h;omega
  subst this
  exact ⟨h2,h3⟩
 ·rintro ⟨h2,h3⟩
  exact ⟨m,hm,hd,h2,h3⟩
theorem IJ {s:ak} {p:List Order} (hp:mz s p) {d m:Nat} (ha:ql p d m) (hm:m < p.length) (hd:p[m].day=(d:Int)):ql p (d+1) (m+1):=by
 refine ⟨hm,fun i h hi=>?_,fun i h hi=>?_⟩
 ·by_cases e:i=m
  ·subst e;omega
  ·have:=ha.2.1 i h (by omega);omega
 ·have:=hp.OX m i hm h (by omega);omega
theorem D1 {s:ak} {p:List Order} (hp:mz s p) {d m:Nat} (ha:ql p d m) (hd:∀ h:m < p.length,p[m].day ≠ (d:Int)) (f n:Nat):CR p f n d=false∧ql p (d+1) m:=by
 have key:∀ i (h:i < p.length),m≤i→(d:Int) < p[i].day:=fun i h hi=>by
  by_cases e:i=m
  ·subst e
   have:=ha.2.2 i h hi
   have:=hd h
   omega
  ·have h1:=hp.OX m i (by omega) h (by omega)
   have h2:=ha.2.2 m (by omega) (Nat.le_refl _)
   omega
 refine ⟨?_,ha.1,fun i h hi=>?_,fun i h hi=>?_⟩
 ·rw [←Bool.not_eq_true,sS]
  rintro ⟨i,hi,h1,_⟩
  by_cases e:i < m
  ·have:=ha.2.1 i hi e;omega
  ·have:=key i hi (by omega);omega
 ·have:=ha.2.1 i h hi;omega
 ·have:=key i h hi;omega
theorem CT {s:ak} {p:List Order} (hp:mz s p):ql p 0 0:=⟨Nat.zero_le _,fun _ _ hi=>absurd hi (Nat.not_lt_zero _),fun _ h _=>(hp.order _ (List.getElem_mem h)).day.1⟩
abbrev fP (c:Nat→Int):List AV:=[aA (c 0),aA (c 1),aA (c 2)]
theorem J6 (c:Nat→Int) (v:Int):∀ {i:Nat},i < 3→j7 (fP c) [aA v] i=fP (fun n=>if n=i then v else c n)
 | 0,_=>rfl
 | 1,_=>rfl
 | 2,_=>rfl
theorem Nk (c:Nat→Int):∀ {i:Nat},i < 3→(fP c)[i]?=some (aA (c i))
 | 0,_=>rfl
 | 1,_=>rfl
 | 2,_=>rfl
theorem dD {c c':Nat→Int} (h:∀ n,n < 3→c n=c' n):fP c=fP c':=by unfold fP;rw [h 0 (by decide),h 1 (by decide),h 2 (by decide)]
abbrev PI (s:ak) (p:List Order) (f d:Nat):AV:=.ag (fP fun n=>gm s p f n d)
def xS (s:ak) (p:List Order) (f:Nat):List (List AV):=(List.range s.days.toNat).map fun d=>[aA (d:Nat),PI s p f d]
theorem kZ {s:ak} {p:List Order} {f:Nat}:(xS s p f).length=s.days.toNat:=by simp [xS]
theorem Bx {s:ak} {p:List Order} {f i:Nat} (h:i < s.days.toNat):(xS s p f)[i]?=some [aA (i:Nat),PI s p f i]:=by
 unfold xS
 rw [List.getElem?_map,List.getElem?_range h]
 rfl
theorem qm {s:ak} {p:List Order} {f i:Nat} {x:List AV} (h:(xS s p f)[i]?=some x):i < s.days.toNat∧x=[aA (i:Nat),PI s p f i]:=by
 have hi:i < s.days.toNat:=by
  have:=(List.getElem?_eq_some_iff.1 h).1
  rw [kZ] at this
  exact this
 rw [Bx hi] at h
 exact ⟨hi,(Option.some.inj h).symm⟩
end Go.Proofs.YtpeogffeoehboaaDoor
