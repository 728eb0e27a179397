/-
  Contracts of the program's functions and of the document's. Lemmas alone; their conditions stand in them.
-/
import Derived.Test.YtpeogffeoehboaaGreatDoorK4
import Derived.Test.YtpeogffeoehboaaGreatDoorK8
import Derived.Laws.StructEq
open Go Go.RM
namespace Go.Proofs.YtpeogffeoehboaaGreatDoor
set_option maxRecDepth 100000
set_option maxHeartbeats 4000000
def gR:Nat→Nat→List Bool→Nat
 | f,_,[]=>f
 | f,i,true :: l=>gR (f ||| 2 ^ i) (i+1) l
 | f,i,false :: l=>gR f (i+1) l
theorem vN (R:Nat):∀ (n i f row left:Nat),gM (R:Int) n i f (row:Int) (left:Int)=(TeLaw.oW R n row left).map (gR f i)
 | 0,i,f,row,left=>rfl
 | n+1,i,f,row,left=>by
  have e1:=vN R n (i+1) f 0 left
  unfold gM TeLaw.oW
  rw [List.map_append,List.map_map]
  have e0:((0:Nat):Int)=0:=rfl
  rw [e0] at e1
  rw [e1]
  congr 1
  by_cases h:left=0∨R≤row
  ·rw [if_pos h,if_pos (by omega)];rfl
  ·rw [if_neg h,if_neg (by omega)]
   have e2:=vN R n (i+1) (f ||| 2 ^ i) (row+1) (left - 1)
   rw [List.map_map,show ((row:Int)+1)=((row+1:Nat):Int) by omega,show ((left:Int) - 1)=((left - 1:Nat):Int) by omega,e2]
   rfl
theorem qP:∀ (l:List Bool) (f i:Nat),f < 2 ^ i→gR f i l < 2 ^ (i+l.length)
 | [],f,i,h=>h
 | true :: l,f,i,h=>by
  have:=qP l (f ||| 2 ^ i) (i+1) (Nat.or_lt_two_pow (Nat.lt_of_lt_of_le h (Nat.pow_le_pow_right (by decide) (by omega))) (Nat.pow_lt_pow_right (by decide) (by omega)))
  rw [List.length_cons,show i+(l.length+1)=i+1+l.length by omega]
  exact this
 | false :: l,f,i,h=>by
  have:=qP l f (i+1) (Nat.lt_of_lt_of_le h (Nat.pow_le_pow_right (by decide) (by omega)))
  rw [List.length_cons,show i+(l.length+1)=i+1+l.length by omega]
  exact this
theorem gN:∀ (l:List Bool) (f i:Nat),f < 2 ^ i→∀ k,(gR f i l).testBit k=(f.testBit k || (decide (i≤k) && l.getD (k - i) false))
 | [],f,i,h,k=>by simp [gR]
 | b :: l,f,i,h,k=>by
  have h1:f < 2 ^ (i+1):=Nat.lt_of_lt_of_le h (Nat.pow_le_pow_right (by decide) (by omega))
  have hk:i≤k→f.testBit k=false:=fun hik=>Nat.testBit_lt_two_pow (Nat.lt_of_lt_of_le h (Nat.pow_le_pow_right (by decide) hik))
  have h2:f ||| 2 ^ i < 2 ^ (i+1):=Nat.or_lt_two_pow h1 (Nat.pow_lt_pow_right (by decide) (by omega))
  rcases Nat.lt_trichotomy k i with hc|hc|hc
  ·cases b
   ·rw [gR,gN l f (i+1) h1 k]
    simp [show ¬ i≤k by omega,show ¬ i+1≤k by omega]
   ·rw [gR,gN l _ (i+1) h2 k,Nat.testBit_or,Nat.testBit_two_pow]
    simp [show ¬ i≤k by omega,show ¬ i+1≤k by omega,show ¬ i=k by omega]
  ·subst hc
   cases b
   ·rw [gR,gN l f (k+1) h1 k]
    simp [show ¬ k+1≤k by omega]
   ·rw [gR,gN l _ (k+1) h2 k,Nat.testBit_or,Nat.testBit_two_pow]
    simp
  ·obtain ⟨m,hm⟩:∃ m,k - i=m+1:=⟨k - i - 1,by omega⟩
   have hm2:k - (i+1)=m:=by omega
   cases b
   ·rw [gR,gN l f (i+1) h1 k,hm,hm2]
    simp [show i≤k by omega,show i+1≤k by omega]
   ·rw [gR,gN l _ (i+1) h2 k,Nat.testBit_or,Nat.testBit_two_pow,hm,hm2]
    simp [show i≤k by omega,show i+1≤k by omega,show ¬ i=k by omega]
theorem si:∀ (l:List Bool) (f i:Nat) (b:Bool),gR f i (l++[b])=if b=true then gR f i l ||| 2 ^ (i+l.length) else gR f i l
 | [],f,i,b=>by cases b <;> simp [gR]
 | true :: l,f,i,b=>by
  rw [List.cons_append,gR,si l,gR,List.length_cons,show i+1+l.length=i+(l.length+1) by omega]
 | false :: l,f,i,b=>by
  rw [List.cons_append,gR,si l,gR,List.length_cons,show i+1+l.length=i+(l.length+1) by omega]
def xj (f k:Nat):Nat:=(rowAt f k).toNat
theorem zU {s:au} (hg:Good s) (orders known f most:Nat):pN s orders known f (most:Int)=(TeLaw.oW s.row.toNat (orders - known) (xj f known) most).map (gR f known):=by
 have h:=qO f known
 have hr:=hg.row
 unfold pN
 have e1:rowAt f known=((xj f known:Nat):Int):=by unfold xj;omega
 have e2:s.row=((s.row.toNat:Nat):Int):=by omega
 rw [e1]
 conv=>lhs;rw [e2]
 exact vN _ _ _ _ _ _
theorem zV {s:au} (hg:Good s) {orders known f most y:Nat} (hk:known≤orders) (hf:f < 2 ^ known) (hy:y ∈ pN s orders known f (most:Int)):y < 2 ^ orders:=by
 rw [zU hg] at hy
 obtain ⟨b,hb,rfl⟩:=List.mem_map.1 hy
 have hl:=(TeLaw.gx.1 hb).1
 have:=qP b f known hf
 rw [hl,Nat.add_sub_cancel' hk] at this
 exact this
def fy (s:au) (p:List Order) (known f:Nat) (most:Int):Bool:=(pN s p.length known f most).all fun y=>(gj s p y).isNone
theorem KK (one:Bool) {s:au} {p:List Order} (hp:mO s p) (full:Bool) (known f most:Nat) (hk:known≤p.length) (hf:f < 2 ^ known) (hm:most≤1000) :
  Pu one 36 [.ag (ak s),.sl (p.map ay) full,aA (known:Nat),fP f,aA (most:Nat)] (BB (fy s p known f (most:Int))):=by
 have hg:=hp.good
 have p8:=hp.len
 have ep:((p.map ay).length:Int)=p.length:=by simp
 have o1:Pu one 21 [.ag (ak s),aA ((p.map ay).length:Int),aA (known:Nat),fP f,aA (most:Nat)] (Dg s (p.length:Nat) (known:Nat) (most:Nat) f):=by
  rw [ep];exact r0 one s _ _ _ _
 have hgen:=sg one hg p.length known f (most:Nat) p8 hk hf (by omega)
 refine ah.body (fn:=Tryz.f36) rfl rfl rfl rfl ?_
 refine RM.cv (mu:=fun _=>false) ?_
 repeat' (first |refine u1 ?_ |refine u2 ?_ |fail)
 refine RM.cv (mu:=fun _=>false) ?_
 repeat' (first |refine u1 ?_ |((with_reducible show ax _ _ _ _ _ _ _ _);refine ah.call o1 rfl rfl ?_) |refine u2 ?_ |fail)
 refine aB.range (fun _=>[.cells [BB false] 0 0]) (fun _=>bJ.none) (fun i=>∀ j y,j < i→(pN s p.length known f (most:Nat))[j]?=some y→gj s p y=none) rfl hgen rfl rfl (fun j y hj=>absurd hj (Nat.not_lt_zero _)) (fun i x hx hprev=>?_) (fun hprev=>?_)
 ·obtain ⟨y,hy,rfl⟩:∃ y,(pN s p.length known f (most:Nat))[i]?=some y∧x=[fP y]:=by
   rw [List.getElem?_map,Option.map_eq_some_iff] at hx
   obtain ⟨y,h1,h2⟩:=hx
   exact ⟨y,h1,h2.symm⟩
  have hmem:y ∈ pN s p.length known f (most:Nat):=List.mem_of_getElem? hy
  have hlt:=zV hg hk hf hmem
  have h28:2 ^ p.length≤2 ^ 8:=Nat.pow_le_pow_right (by decide) p8
  have ob:=BW one hp full y (by omega)
  unfold zP at ob
  refine ⟨rfl,?_⟩
  refine aa (mu:=fun _=>false) ?_
  repeat' (first |refine u1 ?_ |refine u2 ?_ |fail)
  refine aa (mu:=fun _=>false) ?_
  cases hb:gj s p y with
  | some v =>
   obtain ⟨d,n⟩:=v
   rw [hb] at ob
   have e:fy s p known f (most:Int)=false:=by
    cases h:fy s p known f (most:Int) with
    | false=>rfl
    | true =>
     have:=List.all_eq_true.1 h y hmem
     rw [hb] at this
     cases this
   rw [e]
   repeat' (first |refine u1 ?_ |((with_reducible show ax _ _ _ _ _ _ _ _);refine ah.call ob rfl rfl ?_) |refine u2 ?_ |fail)
   exact ⟨[_],⟨Fz.deep rfl,trivial⟩,rfl⟩
  | none =>
   rw [hb] at ob
   repeat' (first |refine u1 ?_ |((with_reducible show ax _ _ _ _ _ _ _ _);refine ah.call ob rfl rfl ?_) |refine u2 ?_ |fail)
   refine ⟨fun j z hj hz=>?_,_,ai.to (l:=[]) 1 rfl trivial (Nat.le_refl _) rfl rfl⟩
   by_cases e:j=i
   ·subst e
    rw [hy] at hz
    cases hz
    exact hb
   ·exact hprev j z (by omega) hz
 ·rw [List.length_map] at hprev
  have e:fy s p known f (most:Int)=true:=by
   refine List.all_eq_true.2 fun y hy=>?_
   obtain ⟨j,hj,rfl⟩:=List.mem_iff_getElem.1 hy
   rw [hprev j _ hj (List.getElem?_eq_getElem hj)]
   rfl
  rw [e]
  refine aa (mu:=fun _=>false) ?_
  repeat' (first |refine u1 ?_ |refine u2 ?_ |fail)
  exact ⟨[_],⟨Fz.deep rfl,trivial⟩,rfl⟩
theorem Di (one:Bool) (g:FuncId) (fs cs:List AV) (hF:(AV.fn g fs cs).deep=true) (most:Nat) (hm:most≤1000) (r:Int) (hr:-1≤r∧r≤most) (hp:∀ n:Nat,n≤most→ah TT TB one (.fn g fs cs) [aA (n:Nat)] (BB (decide ((n:Int)≤r)))) :
  Pu one 34 [aA (most:Nat),.fn g fs cs] (aA r):=by
 have hinb:∀ a b:Int,([(1,AV.fn g fs cs),(5,aA a),(6,aA b)]:List (Nat × AV)).all (fun p=>p.2.jb 0)=true:=fun a b=>by simp [vD,nC 0 _ hF]
 refine ah.body (fn:=Tryz.f34) rfl rfl rfl rfl ?_
 refine aa (mu:=fun _=>false) ?_
 repeat' (first |refine u1 ?_ |refine u2 ?_ |fail)
 refine aB.aJ (ai.to (l:=[(1,.fn g fs cs),(5,aA ((-1:Int),((most:Nat):Int)).1),(6,aA ((-1:Int),((most:Nat):Int)).2)]) (hp:=[]) 0 rfl ⟨rfl,rfl,rfl,trivial⟩ (Nat.zero_le _) (hinb _ _) rfl) ?_
 refine aB.loop (fun x:Int × Int=>(-1≤x.1∧x.2≤most)∧x.1≤r∧r≤x.2) (fun x=>⟨aS [(1,.fn g fs cs),(5,aA x.1),(6,aA x.2)],[],bJ.none,false,0⟩) (fun x=>(x.2 - x.1).toNat) ?_ (-1,(most:Int)) ⟨⟨by dsimp only;omega,by dsimp only;omega⟩,hr.1,hr.2⟩
 rintro ⟨lo,hi⟩ ⟨⟨h1,h2⟩,h3,h4⟩
 dsimp only at h1 h2 h3 h4
 show aB _ _ _ _ ⟨aS [(1,.fn g fs cs),(5,aA (lo,hi).1),(6,aA (lo,hi).2)],[],bJ.none,false,0⟩ _
 dsimp only
 refine aa (mu:=fun _=>false) ?_
 by_cases hlt:lo < hi
 ·have d1:=decide_eq_true hlt
  obtain ⟨mid,hmid⟩:∃ mid:Nat,(lo+hi+1) / 2=(mid:Int):=⟨((lo+hi+1) / 2).toNat,by omega⟩
  have b1:lo < (mid:Int)∧(mid:Int)≤hi:=by omega
  have ho:=hp mid (by omega)
  by_cases hle:(mid:Int)≤r
  ·rw [decide_eq_true hle] at ho
   repeat' (first |(refine RM.r2 rfl rfl (by omega) ?_) |refine u1 ?_ |refine u2 ?_ |fail)
   rw [hmid]
   refine ah.call ho hF rfl ?_
   repeat' (first |refine u1 ?_ |refine u2 ?_ |fail)
   exact ⟨((mid:Int),hi),⟨⟨by dsimp only;omega,h2⟩,hle,h4⟩,(by dsimp only;omega),ai.to 0 rfl ⟨rfl,rfl,rfl,trivial⟩ (Nat.zero_le _) (hinb _ _) rfl⟩
  ·rw [decide_eq_false hle] at ho
   repeat' (first |(refine RM.r2 rfl rfl (by omega) ?_) |refine u1 ?_ |refine u2 ?_ |fail)
   rw [hmid]
   refine ah.call ho hF rfl ?_
   repeat' (first |refine u1 ?_ |refine u2 ?_ |fail)
   exact ⟨(lo,(mid:Int) - 1),⟨⟨h1,by dsimp only;omega⟩,h3,by dsimp only;omega⟩,(by dsimp only;omega),ai.to 0 rfl ⟨rfl,rfl,rfl,trivial⟩ (Nat.zero_le _) (hinb _ _) rfl⟩
 ·have d1:=decide_eq_false hlt
  have e:lo=r:=by omega
  repeat' (first |refine u1 ?_ |refine u2 ?_ |fail)
  exact ⟨[_],⟨Fz.deep rfl,trivial⟩,aV e⟩
theorem Qn (one:Bool):Pu one 14 [] (BB true):=ah.closed (fun _=>rfl) rfl
theorem oA {one:Bool} {F v:AV} {a c:List AV} {b:Bool} (h:ah TT TB one F (a++.sl [] b :: c) v):ah TT TB one F (a++.fl (.slice none 0 0) :: c) v:=by
 refine ⟨h.1,fun X H u us hw hx hF hA=>h.2 X H u us hw hx hF ⟨?_,fun i x w hi hu=>?_⟩⟩
 ·have:=hA.1
  simp only [List.length_append,List.length_cons] at this ⊢
  exact this
 ·by_cases hlt:i < a.length
  ·rw [List.getElem?_append_left hlt] at hi
   exact hA.2 i x w (by rw [List.getElem?_append_left hlt];exact hi) hu
  ·have ha:=fun y=>hA.2 i y w
   rw [List.getElem?_append_right (by omega)] at hi ha
   cases hj:i - a.length with
   | zero =>
    rw [hj] at hi ha
    obtain rfl:=Option.some.inj hi
    have:=ha _ rfl hu
    cases this
    exact .nil
   | succ j =>
    rw [hj] at hi ha
    exact ha x hi hu
theorem B1 {s:au} (hg:Good s) {p:List Order} {known f n m:Nat} (h:n≤m) (hm:fy s p known f (m:Int)=true):fy s p known f (n:Int)=true:=by
 unfold fy at *
 rw [List.all_eq_true] at *
 intro y hy
 refine hm y ?_
 rw [zU hg] at *
 obtain ⟨b,hb,rfl⟩:=List.mem_map.1 hy
 exact List.mem_map.2 ⟨b,TeLaw.Dd h hb,rfl⟩
def mB (s:au) (p:List Order) (known f m:Nat):Int:=match (List.range (m+1)).find? (fun n=>!fy s p known f ((n:Nat):Int)) with
 | some k=>(k:Int) - 1
 | none=>(m:Int)
theorem vO {s:au} (hg:Good s) {p:List Order} {known f m:Nat}:(-1≤mB s p known f m∧mB s p known f m≤m)∧∀ n:Nat,n≤m→fy s p known f (n:Int)=decide ((n:Int)≤mB s p known f m):=by
 unfold mB
 cases hf:(List.range (m+1)).find? (fun n=>!fy s p known f ((n:Nat):Int)) with
 | none =>
  rw [List.find?_eq_none] at hf
  refine ⟨⟨by dsimp only;omega,Int.le_refl _⟩,fun n hn=>?_⟩
  have:=hf n (by simp;omega)
  rw [decide_eq_true (by dsimp only;omega)]
  simpa using this
 | some k =>
  rw [List.find?_range_eq_some] at hf
  obtain ⟨h1,h2,h3⟩:=hf
  have h2:k < m+1:=by simpa using h2
  refine ⟨⟨by dsimp only;omega,by dsimp only;omega⟩,fun n hn=>?_⟩
  by_cases hlt:n < k
  ·have:=h3 n hlt
   rw [decide_eq_true (by dsimp only;omega)]
   simpa using this
  ·rw [decide_eq_false (by dsimp only;omega)]
   cases h:fy s p known f (n:Int) with
   | false=>rfl
   | true =>
    have:=B1 hg (Nat.le_of_not_lt hlt) h
    rw [this] at h1
    cases h1
abbrev eB (b:Bool):List AV:=[BB b]
def bE (came:List Bool):Nat:=gR 0 0 (came.map not)
theorem vP (came:List Bool):bE came < 2 ^ came.length:=by
 have:=qP (came.map not) 0 0 (by decide)
 rw [List.length_map,Nat.zero_add] at this
 exact this
theorem Dj {came:List Bool} {k:Nat} (h:k < came.length):bE (came.take (k+1))=if came[k]=true then bE (came.take k) else bE (came.take k) ||| 2 ^ k:=by
 unfold bE
 rw [List.take_add_one,List.getElem?_eq_getElem h,List.map_append]
 show gR 0 0 ((came.take k).map not++[!came[k]])=_
 rw [si,List.length_map,List.length_take,Nat.min_eq_left (by omega),Nat.zero_add]
 cases came[k] <;> rfl
abbrev PU (s:au) (p:List Order) (full:Bool) (came:List Bool) (cf:Bool) (f:Nat):AV:=.fn 35 [] [.pt (ak s) 0,.pt [.sl (p.map ay) full] 0,.pt [.sl (came.map eB) cf] 0,.pt [fP f] 0]
theorem Jo (one:Bool) {s:au} {p:List Order} (hp:mO s p) (full:Bool) (came:List Bool) (cf:Bool) (f n:Nat) (hc:came.length≤p.length) (hf:f < 2 ^ came.length) (hn:n≤1000):ah TT TB one (PU s p full came cf f) [aA (n:Nat)] (BB (fy s p came.length f (n:Int))):=by
 have o1:Pu one 36 [.ag (ak s),.sl (p.map ay) full,aA ((came.map eB).length:Int),fP f,aA (n:Nat)] (BB (fy s p came.length f (n:Int))):=by
  rw [show ((came.map eB).length:Int)=came.length by simp]
  exact KK one hp full came.length f n hc hf hn
 refine ah.body (fn:=Tryz.f35) rfl rfl rfl rfl ?_
 refine aa (mu:=fun _=>false) ?_
 repeat' (first |refine u1 ?_ |((with_reducible show ax _ _ _ _ _ _ _ _);refine ah.call o1 rfl rfl ?_) |refine u2 ?_ |fail)
 exact ⟨[_],⟨Fz.deep rfl,trivial⟩,rfl⟩
def cO (s:au) (p:List Order) (came:List Bool):Int × Int :=
 if (cz s p).2 ≠ 0 then (0,(cz s p).2) else if p.length < came.length then (0,3)
 else if mB s p came.length (bE came) (p.length - came.length) < 0 then (0,9) else (mB s p came.length (bE came) (p.length - came.length),0)
theorem Eh (one:Bool) (s:au) (hs:s.Ok) (p:List Order) (full:Bool) (hp:E7 p) (came:List Bool) (cf:Bool) (hcl:came.length≤maxLen) :
  Pu one 12 [.ag (ak s),.sl (p.map ay) full,.sl (came.map eB) cf] (.tp [aA (cO s p came).1,aA (cO s p came).2]):=by
 have o1:=Dc one s hs p full hp
 have mc:came.length≤9223372036854775807:=Nat.le_trans hcl (by simp [maxLen])
 have mp:p.length≤9223372036854775807:=Nat.le_trans hp.len (by simp [maxLen])
 have ep:((p.map ay).length:Int)=p.length:=by simp
 have ec:((came.map eB).length:Int)=came.length:=by simp
 unfold cO
 by_cases c1:(cz s p).2=0
 ·have hpg:=jP c1
  have hg:=hpg.good
  have p8:=hpg.len
  rw [if_neg (by omega)]
  rw [c1] at o1
  generalize (cz s p).1=a at *
  have z1:(!decide ((0:Int)=0))=false:=by decide
  by_cases c2:p.length < came.length
  ·rw [if_pos c2]
   have d2:decide (((p.map ay).length:Int) < ((came.map eB).length:Int))=true:=decide_eq_true (by omega)
   refine ah.body (fn:=Tryz.f12) rfl rfl rfl rfl ?_
   refine aa (mu:=fun _=>false) ?_
   repeat' (first |refine u1 ?_ |((with_reducible show ax _ _ _ _ _ _ _ _);refine ah.call o1 rfl rfl ?_) |refine u2 ?_ |fail)
   exact ⟨[_,_],⟨Fz.deep rfl,Fz.deep rfl,trivial⟩,rfl⟩
  ·rw [if_neg c2]
   have d2:decide (((p.map ay).length:Int) < ((came.map eB).length:Int))=false:=decide_eq_false (by omega)
   obtain ⟨n,hn⟩:∃ n:Int,n=came.length:=⟨_,rfl⟩
   obtain ⟨hst,hsi⟩:=vO hg (p:=p) (known:=came.length) (f:=bE came) (m:=p.length - came.length)
   have hlt:=vP came
   have og:Pu one 34 [aA (((p.map ay).length:Int) - ((came.map eB).length:Int)),PU s p full came cf (bE came)] (aA (mB s p came.length (bE came) (p.length - came.length))):=by
    rw [show (((p.map ay).length:Int) - ((came.map eB).length:Int))=((p.length - came.length:Nat):Int) by omega]
    refine Di one 35 [] _ rfl (p.length - came.length) (by omega) _ hst fun k hk=>?_
    rw [←hsi k hk]
    exact Jo one hpg full came cf (bE came) k (by omega) hlt (by omega)
   generalize mB s p came.length (bE came) (p.length - came.length)=r at *
   refine ah.body (fn:=Tryz.f12) rfl rfl rfl rfl ?_
   refine RM.cv (mu:=fun _=>false) ?_
   repeat' (first |refine u1 ?_ |refine u2 ?_ |fail)
   refine RM.cv (mu:=fun _=>false) ?_
   repeat' (first |refine u1 ?_ |((with_reducible show ax _ _ _ _ _ _ _ _);refine ah.call o1 rfl rfl ?_) |refine u2 ?_ |fail)
   refine RM.cv (mu:=fun _=>false) ?_
   repeat' (first |refine u1 ?_ |refine u2 ?_ |fail)
   refine RM.cv (mu:=fun _=>false) ?_
   repeat' (first |refine u1 ?_ |refine u2 ?_ |fail)
   refine RM.cutAt (st':=⟨aS [(3,.pt (ak s) 0),(4,.pt [.sl (p.map ay) full] 0),(5,.pt [.sl (came.map eB) cf] 0),(10,.pt [fP (bE came)] 0)],[.gone],bJ.none,false,0⟩) ?_ ?_
   ·refine RM.cv (mu:=fun _=>false) ?_
    repeat' (first |refine u1 ?_ |refine u2 ?_ |fail)
    refine aB.block ?_
    refine aB.aJ (ai.to (l:=[(3,.pt (ak s) 0),(4,.pt [.sl (p.map ay) full] 0),(5,.pt [.sl (came.map eB) cf] 0),(10,.ptr 0 0 0),(30,.sl (came.map eB) cf),(31,aA n),(32,aA (0:Nat))]) (hp:=[.cells [fP (bE (came.take 0))] 0 0]) 1 rfl ⟨rfl,rfl,rfl,rfl,rfl,aV (by rw [hn];exact ec),rfl,trivial⟩ (Nat.zero_le _) rfl rfl) ?_
    refine aB.loop (fun k:Nat=>k≤came.length) (fun k=>⟨aS [(3,.pt (ak s) 0),(4,.pt [.sl (p.map ay) full] 0),(5,.pt [.sl (came.map eB) cf] 0),(10,.ptr 0 0 0),(30,.sl (came.map eB) cf),(31,aA n),(32,aA (k:Nat))],[.cells [fP (bE (came.take k))] 0 0],bJ.none,false,0⟩) (fun k=>came.length - k) ?_ 0 (Nat.zero_le _)
    intro k hk
    refine aa (mu:=fun _=>false) ?_
    by_cases hkl:k < came.length
    ·have d3:decide ((k:Int) < n)=true:=decide_eq_true (by omega)
     have hat:(came.map eB)[((k:Nat):Int).toNat]?=some (eB came[k]):=bl hkl
     have ht:=Dj hkl
     have hb:=vP (came.take k)
     have k8:k < 8:=by omega
     have h2k:2 ^ k < 18446744073709551616:=Nat.lt_of_lt_of_le (Nat.pow_lt_pow_right (by decide) k8) (by decide)
     have hff:bE (came.take k) < 18446744073709551616:=by
      rw [List.length_take,Nat.min_eq_left (by omega)] at hb
      omega
     cases hck:came[k] with
     | true =>
      rw [hck] at hat ht
      rw [if_pos rfl] at ht
      repeat' (first |refine u1 ?_ |((with_reducible show RM.wpOp _ _ (.indexAddr _ _ _) _ _ _);refine ⟨eB true,⟨by omega,hat⟩,rfl,?_⟩) |refine u2 ?_ |fail)
      exact ⟨k+1,hkl,(by dsimp only;omega),ai.to 1 (by dsimp only;rw [ht];rfl) ⟨rfl,rfl,rfl,rfl,rfl,rfl,aV (by simp),trivial⟩ (Nat.zero_le _) rfl rfl⟩
     | false =>
      rw [hck] at hat ht
      rw [if_neg (by simp)] at ht
      repeat' (first |((with_reducible show aT _ _ _ _ _ _ _ _ _);refine RM.Mk rfl rfl k8 ?_) |((with_reducible show aT _ _ _ _ _ _ _ _ _);refine RM.PM rfl rfl hff h2k ?_) |refine u1 ?_ |((with_reducible show RM.wpOp _ _ (.indexAddr _ _ _) _ _ _);refine ⟨eB false,⟨by omega,hat⟩,rfl,?_⟩) |refine u2 ?_ |fail)
      exact ⟨k+1,hkl,(by dsimp only;omega),ai.to 1 (by dsimp only;rw [ht];rfl) ⟨rfl,rfl,rfl,rfl,rfl,rfl,aV (by simp),trivial⟩ (Nat.zero_le _) rfl rfl⟩
    ·have d3:decide ((k:Int) < n)=false:=decide_eq_false (by omega)
     have e:came.take k=came:=List.take_of_length_le (by omega)
     rw [e]
     repeat' (first |refine u1 ?_ |refine u2 ?_ |fail)
     exact .is (ai.giveUp 0 rfl (Nat.zero_le _) rfl ⟨.same rfl,.same rfl,.same rfl,.ptr,trivial⟩ rfl rfl)
   ·by_cases c3:r < 0
    ·have d3:=decide_eq_true c3
     rw [if_pos c3]
     refine aa (mu:=fun _=>false) ?_
     repeat' (first |refine u1 ?_ |((with_reducible show ax _ _ _ _ _ _ _ _);refine ah.call og rfl rfl ?_) |refine u2 ?_ |fail)
     exact ⟨[_,_],⟨Fz.deep rfl,Fz.deep rfl,trivial⟩,rfl⟩
    ·have d3:=decide_eq_false c3
     rw [if_neg c3]
     refine aa (mu:=fun _=>false) ?_
     repeat' (first |refine u1 ?_ |((with_reducible show ax _ _ _ _ _ _ _ _);refine ah.call og rfl rfl ?_) |refine u2 ?_ |fail)
     exact ⟨[_,_],⟨Fz.deep rfl,Fz.deep rfl,trivial⟩,rfl⟩
 ·rw [if_pos c1]
  generalize (cz s p).1=a at *
  generalize (cz s p).2=b at *
  have d1:(!decide (b=0))=true:=by rw [decide_eq_false c1];rfl
  refine ah.body (fn:=Tryz.f12) rfl rfl rfl rfl ?_
  refine aa (mu:=fun _=>false) ?_
  repeat' (first |refine u1 ?_ |((with_reducible show ax _ _ _ _ _ _ _ _);refine ah.call o1 rfl rfl ?_) |refine u2 ?_ |fail)
  exact ⟨[_,_],⟨Fz.deep rfl,Fz.deep rfl,trivial⟩,rfl⟩
theorem KL (one:Bool) (s:au) (hs:s.Ok) (p:List Order) (full:Bool) (hp:E7 p):Pu one 10 [.ag (ak s),.sl (p.map ay) full] (.tp [aA (cO s p []).1,aA (cO s p []).2]):=by
 have o1:Pu one 12 [.ag (ak s),.sl (p.map ay) full,.fl (.slice none 0 0)] (.tp [aA (cO s p []).1,aA (cO s p []).2]):=oA (a:=[.ag (ak s),.sl (p.map ay) full]) (b:=false) (Eh one s hs p full hp [] false (Nat.zero_le _))
 refine ah.body (fn:=Tryz.f10) rfl rfl rfl rfl ?_
 refine aa (mu:=fun _=>false) ?_
 repeat' (first |refine u1 ?_ |((with_reducible show ax _ _ _ _ _ _ _ _);refine ah.call o1 rfl rfl ?_) |refine u2 ?_ |fail)
 exact ⟨[_,_],⟨Fz.deep rfl,Fz.deep rfl,trivial⟩,rfl⟩
theorem KM {l:List AV} (h:TV (.slice .bool) l):∃ c:List Bool,c.length≤maxLen∧l=[.sl (c.map eB) false]:=by
 obtain ⟨a,ha,ha',rfl⟩:=P9 h
 obtain ⟨a,_,rfl⟩:=BP (e:=eB) (P:=fun _=>True) fun el hel=>by obtain ⟨b,h⟩:=QW (ha' el hel);exact ⟨b,trivial,h⟩
 exact ⟨a,by simpa using ha,rfl⟩
section
variable {P : Program}
theorem Dk {t : TypeId} {d : TypeDesc} (h : P.underlying t = some d) : aE P (underlying t) = some d := by
  unfold underlying
  rw [bL]
  show aE P (match P.underlying t with | some d => pure d | none => stuck "no such type") = some d
  rw [h]
  rfl
theorem oB {e : TypeId} (he : P.underlying e = some (.int .i64)) (xs : Array Value) (off : Nat) (v : Value) (h : xs[off]? = some v) : aE P (part e xs off) = some v := by
  unfold part isAgg
  rw [bL, bL, Dk he]
  show aE P (match xs[off]? with | some v => pure v | none => stuck "part: no such cell") = some v
  rw [h]
  rfl
theorem NZ (d:Nat) {e:TypeId} (he:P.underlying e=some (.int .i64)) (a b:Int):aE P (Op.equalIn (d+1) e (.int .i64 a) (.int .i64 b))=some (a == b):=by
 rw [Op.equalIn,bL,Dk he]
 rfl
theorem N1 (d:Nat) {t e:TypeId} (ht:P.underlying t=some (.array 3 e)) (he:P.underlying e=some (.int .i64)) (hs:aE P (sizeOf e)=some 1) (a0 a1 a2 b0 b1 b2:Int) :
  aE P (Op.equalIn (d+1+1) t (.agg #[.int .i64 a0,.int .i64 a1,.int .i64 a2]) (.agg #[.int .i64 b0,.int .i64 b1,.int .i64 b2]))=some (decide (a0=b0) && (decide (a1=b1) && decide (a2=b2))):=by
 have p0:=oB he #[.int .i64 a0,.int .i64 a1,.int .i64 a2] 0 (.int .i64 a0) rfl
 have p1:=oB he #[.int .i64 a0,.int .i64 a1,.int .i64 a2] 1 (.int .i64 a1) rfl
 have p2:=oB he #[.int .i64 a0,.int .i64 a1,.int .i64 a2] 2 (.int .i64 a2) rfl
 have q0:=oB he #[.int .i64 b0,.int .i64 b1,.int .i64 b2] 0 (.int .i64 b0) rfl
 have q1:=oB he #[.int .i64 b0,.int .i64 b1,.int .i64 b2] 1 (.int .i64 b1) rfl
 have q2:=oB he #[.int .i64 b0,.int .i64 b1,.int .i64 b2] 2 (.int .i64 b2) rfl
 have h3:=NZ d he
 rw [Op.equalIn,bL,Dk ht]
 simp only [Option.bind_some]
 rw [bL,hs]
 simp only [Option.bind_some]
 simp only [Std.Legacy.Range.forIn_eq_forIn_range',Std.Legacy.Range.size,Nat.sub_zero,Nat.div_one,List.range'_succ,List.range'_zero,List.forIn_cons,List.forIn_nil,Nat.zero_add,Nat.mul_one,Nat.reduceAdd,bL,p0,q0,h3,Option.bind_some]
 by_cases e0:a0=b0 <;> by_cases e1:a1=b1 <;> by_cases e2:a2=b2 <;> simp [e0,e1,e2,q1,q2,h3,bL,ji]
 all_goals try simp_all
 all_goals try rfl
 all_goals
  show ((some (ForInStep.yield (none,()))).bind _).bind _=_
  simp only [Option.bind_some,bL,p2,q2,h3]
  rw [if_pos (by simp [e2])]
  rfl
end
theorem Fb {x y:Operand} (a b:Nat→Int):eG TT.P .eql 65 x y (.agg #[.int .i64 (a 0),.int .i64 (a 1),.int .i64 (a 2)]) (.agg #[.int .i64 (b 0),.int .i64 (b 1),.int .i64 (b 2)])=some (.bool (decide (a 0=b 0) && (decide (a 1=b 1) && decide (a 2=b 2))),.none):=by
 have h1:eG TT.P .eql 65 x y (.agg #[.int .i64 (a 0),.int .i64 (a 1),.int .i64 (a 2)]) (.agg #[.int .i64 (b 0),.int .i64 (b 1),.int .i64 (b 2)])=di (aE TT.P (do eqGuard .eql 65 x y (.agg #[.int .i64 (a 0),.int .i64 (a 1),.int .i64 (a 2)]) (.agg #[.int .i64 (b 0),.int .i64 (b 1),.int .i64 (b 2)]);binOp .eql 65 (.agg #[.int .i64 (a 0),.int .i64 (a 1),.int .i64 (a 2)]) (.agg #[.int .i64 (b 0),.int .i64 (b 1),.int .i64 (b 2)]))):=rfl
 have h2:aE TT.P (eqGuard .eql 65 x y (.agg #[.int .i64 (a 0),.int .i64 (a 1),.int .i64 (a 2)]) (.agg #[.int .i64 (b 0),.int .i64 (b 1),.int .i64 (b 2)]))=some ():=by kernel_rfl
 have h3:aE TT.P (Op.equal 65 (.agg #[.int .i64 (a 0),.int .i64 (a 1),.int .i64 (a 2)]) (.agg #[.int .i64 (b 0),.int .i64 (b 1),.int .i64 (b 2)]))=_:=N1 (P:=TT.P) 9998 (t:=65) (e:=3) Tryz.underlying65 Tryz.underlying3 (by kernel_rfl) (a 0) (a 1) (a 2) (b 0) (b 1) (b 2)
 rw [h1,bL,h2]
 show di (aE TT.P (do pure (.bool (←Op.equal 65 _ _))))=_
 rw [bL,h3]
 rfl
end Go.Proofs.YtpeogffeoehboaaGreatDoor
