/-
  Contracts of the program's functions and of the document's. Lemmas alone; their conditions stand in them.
-/
import Derived.Test.YtpeogffeoehboaaDoorA3
import Derived.Test.YtpeogffeoehboaaDoorK4
open Go Go.RM
namespace Go.Proofs.YtpeogffeoehboaaDoor
set_option maxRecDepth 100000
set_option maxHeartbeats 4000000
def gQ (s:ay) (p:List Order) (f:List Int):Int:=if (dD s p).2=0 then fS f p.length else (dD s p).2
abbrev sP (n:Nat):AV:=.fl (.int .u64 ((n:Nat):Int))
def cc (l:List Int):Nat:=l.foldl (fun f i=>f ||| 2 ^ i.toNat) 0
theorem z7 {l:List Int} {k:Nat} (h:k < l.length):cc (l.take (k+1))=cc (l.take k) ||| 2 ^ l[k].toNat:=by
 unfold cc
 rw [List.take_add_one,List.getElem?_eq_getElem h,List.foldl_append]
 rfl
theorem sH:∀ (l:List Int) (a k:Nat),(l.foldl (fun f i=>f ||| 2 ^ i.toNat) a).testBit k=(a.testBit k || l.any fun i=>i.toNat == k)
 | [],a,k=>by simp
 | x :: l,a,k=>by
  rw [List.foldl_cons,sH l,Nat.testBit_or,Nat.testBit_two_pow,List.any_cons,Bool.or_assoc]
  congr 1
theorem oY {l:List Int} {n:Nat} (h:∀ x ∈ l,0≤x∧x < n) (k:Nat):(cc l).testBit k=hasB l (k:Int):=by
 unfold cc
 rw [sH,Nat.zero_testBit,Bool.false_or,Bool.eq_iff_iff,gJ,List.any_eq_true]
 constructor
 ·rintro ⟨x,hx,hk⟩
  have:=h x hx
  have e:x.toNat=k:=by simpa using hk
  rw [show (k:Int)=x by omega]
  exact hx
 ·intro hk
  exact ⟨(k:Int),hk,by simp⟩
theorem yH {l:List Int} {n:Nat} (h:∀ x ∈ l,0≤x∧x < n):cc l < 2 ^ n:=by
 apply Nat.lt_pow_two_of_testBit
 intro i hi
 rw [oY h,←Bool.not_eq_true,gJ]
 intro hm
 have:=h _ hm
 omega
theorem Bb (one:Bool) (s:ay) (hs:s.Ok) (p:List Order) (full:Bool) (hp:B1 p) (f:List Int) (ff:Bool) (hf:f.length≤maxLen):Pu one 49 [.ag (az s),.sl (p.map av) full,.sl (ints f) ff] (.tp [sP (if gQ s p f=0 then cc f else 0),aD (gQ s p f)]):=by
 have o1:=EV one s hs p full hp
 have mp:p.length≤9223372036854775807:=Nat.le_trans hp.len (by simp [maxLen])
 have mf:f.length≤9223372036854775807:=Nat.le_trans hf (by simp [maxLen])
 have ef:((ints f).length:Int)=f.length:=by simp
 obtain ⟨A,hA⟩:∃ A,A=(cy f.length (ej f (p.length:Int) 4)).1:=⟨_,rfl⟩
 have o2:Pu one 44 [.sl (ints f) ff,aD ((p.map av).length:Int),aD 4] (.tp [aD A,aD (fS f p.length)]):=by
  rw [show ((p.map av).length:Int)=p.length by simp,hA]
  exact EP one f ff (p.length:Int) 4 hf (by omega) (by decide)
 unfold gQ
 by_cases c1:(dD s p).2=0
 ·have d0:decide ((0:Int)=0)=true:=by decide
  have d0':(!decide ((0:Int)=0))=false:=by decide
  have hp8:=(yC c1).len
  rw [if_pos c1]
  rw [c1] at o1
  generalize (dD s p).1=a at *
  by_cases c2:fS f p.length=0
  ·obtain ⟨q1,_,_⟩:=lQ c2
   rw [if_pos c2,c2]
   rw [c2] at o2
   obtain ⟨n,hn⟩:∃ n:Int,n=f.length:=⟨_,rfl⟩
   refine af.body (fn:=Tryd.f49) rfl rfl rfl rfl ?_
   refine ah (mu:=fun _=>false) ?_
   repeat' (first |refine u1 ?_ |((with_reducible show ak _ _ _ _ _ _ _ _);refine af.call o1 rfl rfl ?_) |((with_reducible show ak _ _ _ _ _ _ _ _);refine af.call o2 rfl rfl ?_) |refine u2 ?_ |fail)
   refine aF.bf (ax.to (l:=[(6,sP (cc (f.take 0))),(28,.sl (ints f) ff),(29,aD n),(30,aD (0:Nat))]) (hp:=[]) 0 rfl ⟨rfl,rfl,bg (by rw [hn];exact ef),rfl,trivial⟩ (Nat.zero_le _) rfl rfl) ?_
   refine aF.loop (fun k:Nat=>k≤f.length) (fun k=>⟨bZ [(6,sP (cc (f.take k))),(28,.sl (ints f) ff),(29,aD n),(30,aD (k:Nat))],[],cF.none,false,0⟩) (fun k=>f.length - k) ?_ 0 (Nat.zero_le _)
   intro k hk
   refine ah (mu:=fun _=>false) ?_
   by_cases hlt:k < f.length
   ·have d1:decide ((k:Int) < n)=true:=decide_eq_true (by omega)
    have hat:(ints f)[((k:Nat):Int).toNat]?=some (aD f[k] :: []):=bq hlt
    have hx:=q1 _ (List.getElem_mem hlt)
    have ht:=z7 hlt
    have hb:=yH (l:=f.take k) (n:=p.length) (fun x hx=>q1 x (List.mem_of_mem_take hx))
    have h28:2 ^ p.length≤2 ^ 8:=Nat.pow_le_pow_right (by decide) hp8
    obtain ⟨j,hj⟩:∃ j:Nat,f[k]=(j:Int):=⟨f[k].toNat,by omega⟩
    rw [hj] at hat hx ht
    rw [Int.toNat_natCast] at ht
    have hj8:j < 8:=by omega
    have h2j:2 ^ j < 18446744073709551616:=Nat.lt_of_lt_of_le (Nat.pow_lt_pow_right (by decide) hj8) (by decide)
    have hbb:cc (f.take k) < 18446744073709551616:=by omega
    repeat' (first |((with_reducible show cM _ _ _ _ _ _ _ _ _);refine RM.Kv rfl rfl hj8 ?_) |((with_reducible show cM _ _ _ _ _ _ _ _ _);refine RM.KX rfl rfl hbb h2j ?_) |refine u1 ?_ |(refine ⟨aD (j:Int) :: [],⟨by omega,hat⟩,rfl,?_⟩) |refine u2 ?_ |fail)
    exact ⟨k+1,hlt,(by dsimp only;omega),ax.to 0 rfl ⟨by dsimp only;rw [ht];rfl,rfl,rfl,bg (by simp),trivial⟩ (Nat.zero_le _) rfl rfl⟩
   ·have d1:decide ((k:Int) < n)=false:=decide_eq_false (by omega)
    have e:f.take k=f:=List.take_of_length_le (by omega)
    rw [e]
    repeat' (first |refine u1 ?_ |refine u2 ?_ |fail)
    exact ⟨[_,_],⟨Fz.deep rfl,Fz.deep rfl,trivial⟩,rfl⟩
  ·rw [if_neg c2]
   generalize fS f p.length=e at *
   have d1:(!decide (e=0))=true:=by rw [decide_eq_false c2];rfl
   refine af.body (fn:=Tryd.f49) rfl rfl rfl rfl ?_
   refine ah (mu:=fun _=>false) ?_
   repeat' (first |refine u1 ?_ |((with_reducible show ak _ _ _ _ _ _ _ _);refine af.call o1 rfl rfl ?_) |((with_reducible show ak _ _ _ _ _ _ _ _);refine af.call o2 rfl rfl ?_) |refine u2 ?_ |fail)
   exact ⟨[_,_],⟨Fz.deep rfl,Fz.deep rfl,trivial⟩,rfl⟩
 ·rw [if_neg c1,if_neg c1]
  generalize (dD s p).1=a at *
  generalize (dD s p).2=b at *
  have d1:decide (b=0)=false:=decide_eq_false c1
  have d2:(!decide (b=0))=true:=by rw [d1];rfl
  refine af.body (fn:=Tryd.f49) rfl rfl rfl rfl ?_
  refine ah (mu:=fun _=>false) ?_
  repeat' (first |refine u1 ?_ |((with_reducible show ak _ _ _ _ _ _ _ _);refine af.call o1 rfl rfl ?_) |((with_reducible show ak _ _ _ _ _ _ _ _);refine af.call o2 rfl rfl ?_) |refine u2 ?_ |fail)
  exact ⟨[_,_],⟨Fz.deep rfl,Fz.deep rfl,trivial⟩,rfl⟩
theorem E7 (one:Bool) (a b:List Int) (f g:Bool) (_:a.length≤maxLen) (hb:b.length≤maxLen):Pu one 19 [.sl (a.map eI) f,.sl (b.map eI) g] (BB (decide (a=b))):=by
 have mb:b.length≤9223372036854775807:=Nat.le_trans hb (by simp [maxLen])
 have ea:((a.map eI).length:Int)=a.length:=by simp
 have eb:((b.map eI).length:Int)=b.length:=by simp
 by_cases hl:a.length=b.length
 ·have d0:(!decide (((a.map eI).length:Int)=((b.map eI).length:Int)))=false:=by rw [decide_eq_true (by rw [ea,eb,hl])];rfl
  refine af.body (fn:=Tryd.f19) rfl rfl rfl rfl ?_
  refine ah (mu:=fun _=>false) ?_
  repeat' (first |refine u1 ?_ |refine u2 ?_ |fail)
  refine aF.bf (ax.to (l:=[(0,.sl (a.map eI) f),(1,.sl (b.map eI) g),(5,aD (0:Nat))]) 0 rfl ⟨rfl,rfl,rfl,trivial⟩ (Nat.le_refl _) rfl rfl) ?_
  refine aF.loop (fun k:Nat=>k≤a.length∧∀ i (h:i < a.length),i < k→a[i]=b[i]) (fun k=>⟨bZ [(0,.sl (a.map eI) f),(1,.sl (b.map eI) g),(5,aD (k:Nat))],[],cF.none,false,0⟩) (fun k=>a.length - k) ?_ 0 ⟨Nat.zero_le _,fun i _ hi=>absurd hi (by omega)⟩
  intro k ⟨hk,hprev⟩
  refine ah (mu:=fun _=>false) ?_
  by_cases hlt:k < a.length
  ·have d1:decide ((k:Int) < ((a.map eI).length:Int))=true:=decide_eq_true (by omega)
   have hltb:k < b.length:=by omega
   have hat:(a.map eI)[((k:Nat):Int).toNat]?=some (eI a[k]):=bq hlt
   have hbt:(b.map eI)[((k:Nat):Int).toNat]?=some (eI b[k]):=bq hltb
   by_cases hx:a[k]=b[k]
   ·have hn:∀ i (h:i < a.length),i < k+1→a[i]=b[i]:=fun i hi hik=>by
     by_cases e:i=k
     ·subst e;exact hx
     ·exact hprev i hi (by omega)
    have d2:(!decide (a[k]=b[k]))=false:=by rw [decide_eq_true hx];rfl
    generalize a[k]=x at *
    generalize b[k]=y at *
    repeat' (first |refine u1 ?_ |((with_reducible show RM.wpOp _ _ (.indexAddr _ _ _) _ _ _);refine ⟨eI x,⟨by omega,hat⟩,rfl,?_⟩) |((with_reducible show RM.wpOp _ _ (.indexAddr _ _ _) _ _ _);refine ⟨eI y,⟨by omega,hbt⟩,rfl,?_⟩) |refine u2 ?_ |fail)
    exact ⟨k+1,⟨hlt,hn⟩,(by dsimp only;omega),ax.to 0 rfl ⟨rfl,rfl,bg (by simp),trivial⟩ (Nat.le_refl _) rfl rfl⟩
   ·have hne:decide (a=b)=false:=by
     rw [decide_eq_false_iff_not]
     rintro rfl
     exact hx rfl
    rw [hne]
    have d2:(!decide (a[k]=b[k]))=true:=by rw [decide_eq_false hx];rfl
    generalize a[k]=x at *
    generalize b[k]=y at *
    repeat' (first |refine u1 ?_ |((with_reducible show RM.wpOp _ _ (.indexAddr _ _ _) _ _ _);refine ⟨eI x,⟨by omega,hat⟩,rfl,?_⟩) |((with_reducible show RM.wpOp _ _ (.indexAddr _ _ _) _ _ _);refine ⟨eI y,⟨by omega,hbt⟩,rfl,?_⟩) |refine u2 ?_ |fail)
    exact ⟨[_],⟨Fz.deep rfl,trivial⟩,rfl⟩
  ·have d1:decide ((k:Int) < ((a.map eI).length:Int))=false:=decide_eq_false (by omega)
   have he:decide (a=b)=true:=decide_eq_true (List.ext_getElem hl fun i h1 _=>hprev i h1 (by omega))
   rw [he]
   repeat' (first |refine u1 ?_ |refine u2 ?_ |fail)
   exact ⟨[_],⟨Fz.deep rfl,trivial⟩,rfl⟩
 ·have d0:(!decide (((a.map eI).length:Int)=((b.map eI).length:Int)))=true:=by rw [decide_eq_false (by rw [ea,eb];omega)];rfl
  have hne:decide (a=b)=false:=by
   rw [decide_eq_false_iff_not]
   rintro rfl
   exact hl rfl
  rw [hne]
  refine af.body (fn:=Tryd.f19) rfl rfl rfl rfl ?_
  refine ah (mu:=fun _=>false) ?_
  repeat' (first |refine u1 ?_ |refine u2 ?_ |fail)
  exact ⟨[_],⟨Fz.deep rfl,trivial⟩,rfl⟩
end Go.Proofs.YtpeogffeoehboaaDoor
namespace Go.TeLaw
def cnt:List Bool→Nat
 | []=>0
 | false :: l=>cnt l
 | true :: l=>cnt l+1
def sub:List Bool→List Bool→Bool
 | [],[]=>true
 | a :: l,b :: m=>(!a || b) && sub l m
 | _,_=>false
def F3 (full first:Int) (br:Nat→Bool):Nat→Int
 | 0=>if br 0 then full else first
 | d+1=>if br (d+1) then full else max 0 (F3 full first br d - 1)
theorem z8 {full first:Int} (h:first≤full) (h0:0≤full) (br:Nat→Bool):∀ d,F3 full first br d≤full
 | 0=>by unfold F3;split <;> omega
 | d+1=>by have:=z8 h h0 br d;unfold F3;split <;> omega
theorem Jc {full first:Int} (h:0≤first) (h0:0≤full) (br:Nat→Bool):∀ d,0≤F3 full first br d
 | 0=>by unfold F3;split <;> omega
 | d+1=>by unfold F3;split <;> omega
end Go.TeLaw
open Go Go.RM
namespace Go.Proofs.YtpeogffeoehboaaDoor
set_option maxRecDepth 100000
def gK (s:ay) (n:Nat):Int:=match s.needs[n]? with
 | some x=>x.first
 | none=>0
def gm (s:ay) (n:Nat):Int:=match s.needs[n]? with
 | some x=>x.full
 | none=>0
def Bc (p:List Order) (f n d:Nat):Bool:=(List.range p.length).any fun i=>match p[i]? with
 | some o=>decide (o.day=(d:Int)) && !f.testBit i && hasB o.aB (n:Int)
 | none=>false
theorem Bd {p:List Order} {f n d:Nat}:Bc p f n d=true ↔ ∃ i,∃ h:i < p.length,p[i].day=(d:Int)∧f.testBit i=false∧(n:Int) ∈ p[i].aB:=by
 unfold Bc
 rw [List.any_eq_true]
 constructor
 ·rintro ⟨i,hi,h⟩
  have hi:=List.mem_range.1 hi
  rw [List.getElem?_eq_getElem hi] at h
  simp only [Bool.and_eq_true,decide_eq_true_eq,Bool.not_eq_true',gJ] at h
  exact ⟨i,hi,h.1.1,h.1.2,h.2⟩
 ·rintro ⟨i,hi,h1,h2,h3⟩
  refine ⟨i,List.mem_range.2 hi,?_⟩
  rw [List.getElem?_eq_getElem hi]
  simp only [Bool.and_eq_true,decide_eq_true_eq,Bool.not_eq_true',gJ]
  exact ⟨⟨h1,h2⟩,h3⟩
def iP (s:ay) (p:List Order) (f n d:Nat):Int:=if n < s.needs.length then TeLaw.F3 (gm s n) (gK s n) (Bc p f n) d else 0
def kR (s:ay) (p:List Order) (f n:Nat):Nat→Int
 | 0=>gK s n
 | d+1=>max 0 (iP s p f n d - 1)
theorem oZ {s:ay} {p:List Order} {f n d:Nat} (h:n < s.needs.length):iP s p f n d=if Bc p f n d=true then gm s n else kR s p f n d:=by
 unfold iP
 rw [if_pos h]
 cases d with
 | zero=>rfl
 | succ d =>
  have e:kR s p f n (d+1)=max 0 (TeLaw.F3 (gm s n) (gK s n) (Bc p f n) d - 1):=by
   show max 0 (iP s p f n d - 1)=_
   unfold iP
   rw [if_pos h]
  rw [e]
  rfl
theorem nV {s:ay} {n:Nat} (h:¬ n < s.needs.length):gK s n=0:=by unfold gK;rw [List.getElem?_eq_none (by omega)]
theorem Aa {s:ay} (hg:Good s) {n:Nat} (h:n < s.needs.length):1≤gm s n∧gm s n≤60:=by
 unfold gm
 rw [List.getElem?_eq_getElem h]
 exact (hg.needs _ (List.getElem_mem h)).2.1
theorem Ab {s:ay} (hg:Good s) {n:Nat} (h:n < s.needs.length):0≤gK s n∧gK s n≤gm s n:=by
 unfold gK gm
 rw [List.getElem?_eq_getElem h]
 exact (hg.needs _ (List.getElem_mem h)).2.2.1
theorem Be {s:ay} (hg:Good s) (p:List Order) (f n d:Nat):0≤iP s p f n d∧iP s p f n d≤60:=by
 unfold iP
 split
 ·rename_i h
  have h1:=Aa hg h
  have h2:=Ab hg h
  have h3:=TeLaw.z8 (full:=gm s n) (first:=gK s n) h2.2 (by omega) (Bc p f n) d
  have h4:=TeLaw.Jc (full:=gm s n) (first:=gK s n) h2.1 (by omega) (Bc p f n) d
  omega
 ·omega
theorem Kx {s:ay} (hg:Good s) (p:List Order) (f n d:Nat):0≤kR s p f n d∧kR s p f n d≤60:=by
 cases d with
 | zero =>
  show 0≤gK s n∧gK s n≤60
  by_cases h:n < s.needs.length
  ·have h1:=Aa hg h
   have h2:=Ab hg h
   omega
  ·rw [nV h];omega
 | succ d =>
  have:=Be hg p f n d
  show 0≤max 0 (iP s p f n d - 1)∧max 0 (iP s p f n d - 1)≤60
  omega
def nW (p:List Order) (d m:Nat):Prop:=m≤p.length∧(∀ i (h:i < p.length),i < m→p[i].day < (d:Int))∧∀ i (h:i < p.length),m≤i→(d:Int)≤p[i].day
theorem Ky {s:ay} {p:List Order} (hp:mo s p) {d m:Nat} (ha:nW p d m) (hm:m < p.length) (hd:p[m].day=(d:Int)) (f n:Nat):Bc p f n d=(!f.testBit m && hasB p[m].aB (n:Int)):=by
 rw [Bool.eq_iff_iff,Bd,Bool.and_eq_true,Bool.not_eq_true',gJ]
 constructor
 ·rintro ⟨i,hi,h1,h2,h3⟩
  have:i=m:=by
   rcases Nat.lt_trichotomy i m with h|h|h
   ·have:=ha.2.1 i hi h;omega
   ·exact h
   ·have:=hp.Kr m i hm hi h;omega
  subst this
  exact ⟨h2,h3⟩
 ·rintro ⟨h2,h3⟩
  exact ⟨m,hm,hd,h2,h3⟩
theorem E8 {s:ay} {p:List Order} (hp:mo s p) {d m:Nat} (ha:nW p d m) (hm:m < p.length) (hd:p[m].day=(d:Int)):nW p (d+1) (m+1):=by
 refine ⟨hm,fun i h hi=>?_,fun i h hi=>?_⟩
 ·by_cases e:i=m
  ·subst e;omega
  ·have:=ha.2.1 i h (by omega);omega
 ·have:=hp.Kr m i hm h (by omega);omega
theorem Bf {s:ay} {p:List Order} (hp:mo s p) {d m:Nat} (ha:nW p d m) (hd:∀ h:m < p.length,p[m].day ≠ (d:Int)) (f n:Nat):Bc p f n d=false∧nW p (d+1) m:=by
 have key:∀ i (h:i < p.length),m≤i→(d:Int) < p[i].day:=fun i h hi=>by
  by_cases e:i=m
  ·subst e
   have:=ha.2.2 i h hi
   have:=hd h
   omega
  ·have h1:=hp.Kr m i (by omega) h (by omega)
   have h2:=ha.2.2 m (by omega) (Nat.le_refl _)
   omega
 refine ⟨?_,ha.1,fun i h hi=>?_,fun i h hi=>?_⟩
 ·rw [←Bool.not_eq_true,Bd]
  rintro ⟨i,hi,h1,_⟩
  by_cases e:i < m
  ·have:=ha.2.1 i hi e;omega
  ·have:=key i hi (by omega);omega
 ·have:=ha.2.1 i h hi;omega
 ·have:=key i h hi;omega
theorem Ac {s:ay} {p:List Order} (hp:mo s p):nW p 0 0:=⟨Nat.zero_le _,fun _ _ hi=>absurd hi (Nat.not_lt_zero _),fun _ h _=>(hp.order _ (List.getElem_mem h)).day.1⟩
abbrev jR (c:Nat→Int):List AV:=[aD (c 0),aD (c 1),aD (c 2)]
theorem F4 (c:Nat→Int) (v:Int):∀ {i:Nat},i < 3→jg (jR c) [aD v] i=jR (fun n=>if n=i then v else c n)
 | 0,_=>rfl
 | 1,_=>rfl
 | 2,_=>rfl
theorem Jd (c:Nat→Int):∀ {i:Nat},i < 3→(jR c)[i]?=some (aD (c i))
 | 0,_=>rfl
 | 1,_=>rfl
 | 2,_=>rfl
theorem fC {c c':Nat→Int} (h:∀ n,n < 3→c n=c' n):jR c=jR c':=by unfold jR;rw [h 0 (by decide),h 1 (by decide),h 2 (by decide)]
abbrev KZ (s:ay) (p:List Order) (f d:Nat):AV:=.ag (jR fun n=>iP s p f n d)
def uP (s:ay) (p:List Order) (f:Nat):List (List AV):=(List.range s.days.toNat).map fun d=>[aD (d:Nat),KZ s p f d]
theorem lR {s:ay} {p:List Order} {f:Nat}:(uP s p f).length=s.days.toNat:=by simp [uP]
theorem yI {s:ay} {p:List Order} {f i:Nat} (h:i < s.days.toNat):(uP s p f)[i]?=some [aD (i:Nat),KZ s p f i]:=by
 unfold uP
 rw [List.getElem?_map,List.getElem?_range h]
 rfl
theorem sI {s:ay} {p:List Order} {f i:Nat} {x:List AV} (h:(uP s p f)[i]?=some x):i < s.days.toNat∧x=[aD (i:Nat),KZ s p f i]:=by
 have hi:i < s.days.toNat:=by
  have:=(List.getElem?_eq_some_iff.1 h).1
  rw [lR] at this
  exact this
 rw [yI hi] at h
 exact ⟨hi,(Option.some.inj h).symm⟩
end Go.Proofs.YtpeogffeoehboaaDoor
