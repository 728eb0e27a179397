/-
  Contracts of the program's functions and of the document's. Lemmas alone; their conditions stand in them.
-/
import Derived.Test.YtpeogffeoehboaaGreatDoorK6
import Derived.Laws.StructEq
open Go Go.RM
namespace Go.Proofs.YtpeogffeoehboaaGreatDoor
set_option maxRecDepth 100000
set_option maxHeartbeats 4000000
def nH (s:ai) (p:List Order) (f:Nat):Int × Int:=match jV s p f with
 | some (d,n)=>((d:Nat),n)
 | none=>(-1,0)
theorem Dl {s:ai} {p:List Order} {f d:Nat} (hd:d < s.days.toNat) (hprev:∀ i,i < d→zeroAt s p f i < 0) {n:Nat} (h:zeroAt s p f d=(n:Int)):nH s p f=((d:Int),(n:Int)):=by unfold nH;rw [Di hd hprev (by omega),h]
theorem Dm {s:ai} {p:List Order} {f:Nat} (hprev:∀ i,i < s.days.toNat→zeroAt s p f i < 0):nH s p f=(-1,0):=by unfold nH;rw [Dj hprev]
theorem LU (one:Bool) {s:ai} {p:List Order} (hp:jC s p) (full:Bool) (f:List Int) (ff:Bool) (hf:f.length≤maxLen) (hin:∀ x ∈ f,0≤x∧x < p.length) :
  Pu one 30 [.ag (ay s),.sl (p.map aD) full,.sl (ints f) ff] (.tp [aC (nH s p (dc f)).1,aC (nH s p (dc f)).2]):=by
 have hg:=hp.good;have hlen:=hg.len;have hdays:=hg.days;have o1:=Nt one hp full f ff hf hin
 generalize dc f=b at *
 have er:((Fb s p b s.days.toNat).length:Int)=s.days:=by rw [Gu];omega
 refine aj.body (fn:=Tryz.f30) rfl rfl rfl rfl ?_;refine qq1 ?_;repeat' first|refine u1 ?_|((with_reducible refine qq3 ?_);refine aj.call o1 rfl rfl ?_)|refine u2 ?_|fail
 refine av.aJ (ah.to (l:=[(8,.sl (Fb s p b s.days.toNat) false),(9,aC (0:Nat))]) (hp:=[]) 0 rfl ⟨rfl,rfl,trivial⟩ (qq5 _) rfl rfl) ?_;refine av.loop (fun d:Nat=>d≤s.days.toNat∧∀ i,i < d→zeroAt s p b i < 0) (fun d=>⟨aZ [(8,.sl (Fb s p b s.days.toNat) false),(9,aC (d:Nat))],[],bA.none,false,0⟩) (fun d=>s.days.toNat - d) ?_ 0 ⟨qq5 _,fun i hi=>absurd hi (Nat.not_lt_zero _)⟩;rintro d ⟨hd,hprev⟩;refine qq1 ?_;by_cases hdl:d < s.days.toNat
 ·have d1:decide ((d:Int) < ((Fb s p b s.days.toNat).length:Int))=true:=decide_eq_true (by omega);have hat:(Fb s p b s.days.toNat)[((d:Nat):Int).toNat]?=some [AV.sl (ints (jo s p b d)) false]:=by rw [Int.toNat_natCast];exact QL hdl
  have hll:=lN (s:=s) (p:=p) (f:=b) (d:=d);have el:((ints (jo s p b d)).length:Int)=s.needs.length:=by rw [List.length_map,hll]
  repeat' first|refine u1 ?_|refine u2 ?_|fail
  refine av.aJ (ah.to (l:=[(8,.sl (Fb s p b s.days.toNat) false),(9,aC (d:Nat)),(10,aC (0:Nat))]) (hp:=[]) 0 rfl ⟨rfl,rfl,rfl,trivial⟩ (qq5 _) rfl rfl) ?_;refine av.loop (fun n:Nat=>n≤s.needs.length∧∀ i (h:i < (jo s p b d).length),i < n→decide (0=(jo s p b d)[i])=false) (fun n=>⟨aZ [(8,.sl (Fb s p b s.days.toNat) false),(9,aC (d:Nat)),(10,aC (n:Nat))],[],bA.none,false,0⟩) (fun n=>s.needs.length - n) ?_ 0 ⟨qq5 _,fun i _ hi=>absurd hi (Nat.not_lt_zero _)⟩;rintro n ⟨hn,hpn⟩;refine qq1 ?_;by_cases hnl:n < s.needs.length
  ·have d2:decide ((n:Int) < ((ints (jo s p b d)).length:Int))=true:=decide_eq_true (by omega);have hnl2:n < (jo s p b d).length:=by omega
   have hnt:(ints (jo s p b d))[((n:Nat):Int).toNat]?=some (eI (jo s p b d)[n]):=bp hnl2;by_cases hz:(jo s p b d)[n]=0
   ·have d3:=decide_eq_true hz;have e:=Dl hdl hprev (n:=n) (mG hnl2 hpn (decide_eq_true hz.symm));rw [e]
    generalize (jo s p b d)[n]=v at *
    repeat' first|refine u1 ?_|(refine ⟨[AV.sl (ints (jo s p b d)) false],⟨by omega,hat⟩,rfl,?_⟩)|((with_reducible refine qq4 ?_);refine ⟨eI v,⟨by omega,hnt⟩,rfl,?_⟩)|refine u2 ?_|fail
    exact ⟨[_,_],⟨Fz.deep rfl,Fz.deep rfl,trivial⟩,rfl⟩
   ·have d3:=decide_eq_false hz
    have hpn':∀ i (h:i < (jo s p b d).length),i < n+1→decide (0=(jo s p b d)[i])=false:=fun i hi hik=>by
     by_cases e:i=n
     ·subst e;exact decide_eq_false (fun h=>hz h.symm)
     ·exact hpn i hi (by omega)
    generalize hv:(jo s p b d)[n]=v at hnt d3;repeat' first|refine u1 ?_|(refine ⟨[AV.sl (ints (jo s p b d)) false],⟨by omega,hat⟩,rfl,?_⟩)|((with_reducible refine qq4 ?_);refine ⟨eI v,⟨by omega,hnt⟩,rfl,?_⟩)|refine u2 ?_|fail
    exact ⟨n+1,⟨hnl,hpn'⟩,(by dsimp only;omega),ah.to 0 rfl ⟨rfl,rfl,bq (by simp),trivial⟩ (qq5 _) rfl rfl⟩
  ·have d2:decide ((n:Int) < ((ints (jo s p b d)).length:Int))=false:=decide_eq_false (by omega);have hz:zeroAt s p b d=-1:=mH (fun i hi=>hpn i hi (by omega));repeat' first|refine u1 ?_|(refine ⟨[AV.sl (ints (jo s p b d)) false],⟨by omega,hat⟩,rfl,?_⟩)|refine u2 ?_|fail
   refine ⟨d+1,⟨hdl,fun i hi=>?_⟩,(by dsimp only;omega),ah.to 0 rfl ⟨rfl,bq (by simp),trivial⟩ (qq5 _) rfl rfl⟩;by_cases e:i=d
   ·subst e;omega
   ·exact hprev i (by omega)
 ·have d1:decide ((d:Int) < ((Fb s p b s.days.toNat).length:Int))=false:=decide_eq_false (by omega);rw [Dm (fun i hi=>hprev i (by omega))];repeat' first|refine u1 ?_|refine u2 ?_|fail
  exact ⟨[_,_],⟨Fz.deep rfl,Fz.deep rfl,trivial⟩,rfl⟩
abbrev QN (s:ai) (orders known most:Int) (f:Nat):AV:=.fn 50 [] [.pt [aC orders] 0,.pt (ay s) 0,.pt [aC known] 0,.pt [kO f] 0,.pt [aC most] 0]
theorem HG (one:Bool) (s:ai) (orders known most:Int) (f:Nat):Pu one 21 [.ag (ay s),aC orders,aC known,kO f,aC most] (QN s orders known most f):=by
 refine aj.body (fn:=Tryz.f21) rfl rfl rfl rfl ?_;refine qq1 ?_;repeat' first|refine u1 ?_|refine u2 ?_|fail
 exact ⟨[_],⟨Fz.deep rfl,trivial⟩,rfl⟩
def iH (R:Int):Nat→Nat→Nat→Int→Int→List Nat
 | 0,_,f,_,_=>[f]
 | n+1,i,f,row,left=>iH R n (i+1) f 0 left++(if left=0∨R≤row then [] else iH R n (i+1) (f ||| 2 ^ i) (row+1) (left - 1))
def rowAt (f:Nat):Nat→Int
 | 0=>0
 | k+1=>if f.testBit k=true then rowAt f k+1 else 0
def nI (s:ai) (orders known:Nat) (f:Nat) (most:Int):List Nat:=iH s.row (orders - known) known f (rowAt f known) most
abbrev SM (s:ai) (orders:Nat) (u:Value):List AV:=[.pt [aC (orders:Nat)] 0,.pt [.oq u] 0,.ptr 0 0 0,.pt (ay s) 0]
abbrev LV (s:ai) (orders:Nat) (u:Value):AB:=.cells [.fn 51 [] (SM s orders u)] 0 0
theorem Fc (one:Bool) {s:ai} (hg:Good s) (orders:Nat) (ho:orders≤8) (u:Value) (J:Nat→bA) (Stop:bA→Prop) (xs:List Nat)
  (hy:∀ (i:Nat) (x:List AV),(xs.map fun x=>[kO x])[i]?=some x→Be TT TB one u x (J i) (EP (J (i+1)) Stop)) :
  ∀ (n i f:Nat) (row left:Int) (k:Nat),i+n=orders→f < 2 ^ i→(0≤row∧row≤i)→(0≤left∧left≤1000)→(∀ j x,(iH s.row n i f row left)[j]?=some x→xs[k+j]?=some x) →
   az TT TB one (.fn 51 [] (SM s orders u)) [aC (i:Nat),kO f,aC row,aC left] [LV s orders u] (J k)
    fun v hp' a'=>hp'=[LV s orders u]∧∃ b,v=BB b∧EP (J (k+(iH s.row n i f row left).length)) Stop b a'
 | 0,i,f,row,left,k,hi,hf,hr,hl,hat=>by
  have d1:decide ((i:Int)=(orders:Int))=true:=decide_eq_true (by omega);have hx:(xs.map fun x=>[kO x])[k]?=some [kO f]:=by have:=hat 0 f rfl;rw [Nat.add_zero] at this;rw [List.getElem?_map,this];rfl
  have hyx:=hy k _ hx;refine az.body (fn:=Tryz.f51) rfl rfl rfl ?_;refine qq1 ?_;repeat' first|refine u1 ?_|refine u2 ?_|fail
  refine az.mono (hyx _) (fun a hp' amb' hq=>?_);obtain ⟨rfl,b,rfl,hb⟩:=hq;repeat' first|refine u1 ?_|refine u2 ?_|fail
  exact hb
 | n+1,i,f,row,left,k,hi,hf,hr,hl,hat=>by
  have d1:decide ((i:Int)=(orders:Int))=false:=decide_eq_false (by omega);have hrow:=hg.row;have e1:((i:Nat):Int)+1=((i+1:Nat):Int):=by omega
  have i8:i < 8:=by omega
  have h2i:2 ^ i < 18446744073709551616:=Nat.lt_of_lt_of_le (Nat.pow_lt_pow_right (by decide) i8) (by decide);have hff:f < 18446744073709551616:=by omega
  have hfi:f < 2 ^ (i+1):=Nat.lt_of_lt_of_le hf (Nat.pow_le_pow_right (by decide) (by omega));have hlen:(iH s.row (n+1) i f row left).length=(iH s.row n (i+1) f 0 left).length+(if left=0∨s.row≤row then [] else iH s.row n (i+1) (f ||| 2 ^ i) (row+1) (left - 1)).length:=by rw [iH,List.length_append]
  have hat1:∀ j x,(iH s.row n (i+1) f 0 left)[j]?=some x→xs[k+j]?=some x:=fun j x hj=>hat j x (by
   rw [iH,List.getElem?_append_left (List.getElem?_eq_some_iff.1 hj).1]
   exact hj)
  have c1:=Fc one hg orders ho u J Stop xs hy n (i+1) f 0 left k (by omega) hfi (by omega) hl hat1;have hb1:-9223372036854775808≤left - 1∧left - 1≤9223372036854775807:=by omega
  refine az.body (fn:=Tryz.f51) rfl rfl rfl ?_;refine qq2 ?_;repeat' first|refine u1 ?_|refine u2 ?_|fail
  refine qq2 ?_;repeat' first|refine u1 ?_|refine u2 ?_|fail
  refine qq2 ?_;repeat' first|refine u1 ?_|refine u2 ?_|fail
  rw [e1];refine az.mono c1 (fun a hp' amb' hq=>?_);obtain ⟨rfl,b,rfl,hb⟩:=hq
  rcases hb with ⟨rfl,rfl⟩|⟨rfl,hstop⟩
  ·repeat' first|refine u1 ?_|refine u2 ?_|fail
   by_cases hs:left=0∨s.row≤row
   ·rw [if_pos hs] at hlen;have hj:J (k+(iH s.row (n+1) i f row left).length)=J (k+(iH s.row n (i+1) f 0 left).length):=by rw [hlen];rfl
    rw [hj];by_cases q1:left=0
    ·have e2:=decide_eq_true q1;refine qq1 ?_;repeat' first|(refine RM.c5 (c:=21) (l1:=[_,_,_,_,_,_,_,_,_,_,_,_,_,_,_,_,_,_,_,_,_]) (l2:=[_,_,_]) (by kernel_rfl) rfl rfl ?_)|refine u1 ?_|refine u2 ?_|fail
     exact .inl ⟨rfl,rfl⟩
    ·have e2:=decide_eq_false q1;have e3:decide (s.row≤row)=true:=decide_eq_true (by omega);refine qq1 ?_;repeat' first|(refine RM.c5 (c:=21) (l1:=[_,_,_,_,_,_,_,_,_,_,_,_,_,_,_,_,_,_,_,_,_]) (l2:=[_,_,_]) (by kernel_rfl) rfl rfl ?_)|refine u1 ?_|refine u2 ?_|fail
     exact .inl ⟨rfl,rfl⟩
   ·have e2:decide (left=0)=false:=decide_eq_false (by omega);have e3:decide (s.row≤row)=false:=decide_eq_false (by omega);rw [if_neg hs] at hlen;have hat2:∀ j x,(iH s.row n (i+1) (f ||| 2 ^ i) (row+1) (left - 1))[j]?=some x→xs[k+(iH s.row n (i+1) f 0 left).length+j]?=some x:=fun j x hj=>by rw [Nat.add_assoc];refine hat _ x ?_;rw [iH,if_neg hs,List.getElem?_append_right (Nat.le_add_right _ _),Nat.add_sub_cancel_left];exact hj
    have hf2:f ||| 2 ^ i < 2 ^ (i+1):=Nat.or_lt_two_pow hfi (Nat.pow_lt_pow_right (by decide) (by omega));have c2:=Fc one hg orders ho u J Stop xs hy n (i+1) (f ||| 2 ^ i) (row+1) (left - 1) (k+(iH s.row n (i+1) f 0 left).length) (by omega) hf2 (by omega) (by omega) hat2;rw [Nat.add_assoc,←hlen] at c2;refine qq1 ?_;repeat' first|(refine RM.c5 (c:=21) (l1:=[_,_,_,_,_,_,_,_,_,_,_,_,_,_,_,_,_,_,_,_,_]) (l2:=[_,_,_]) (by kernel_rfl) rfl rfl ?_)|((with_reducible show bk _ _ _ _ _ _ _ _ _);refine RM.Gr rfl rfl i8 ?_)|((with_reducible show bk _ _ _ _ _ _ _ _ _);refine RM.Tq rfl rfl hff h2i ?_)|refine u1 ?_|refine u2 ?_|fail
    rw [e1];refine az.mono c2 (fun a hp' amb' hq=>?_);obtain ⟨rfl,b,rfl,hb⟩:=hq;repeat' first|refine u1 ?_|refine u2 ?_|fail
    exact hb
  ·repeat' first|refine u1 ?_|refine u2 ?_|fail
   exact .inr ⟨rfl,hstop⟩
theorem sL (f:Nat):∀ k:Nat,0≤rowAt f k∧rowAt f k≤k
 | 0=>⟨Int.le_refl _,Int.le_refl _⟩
 | k+1=>by have:=sL f k;unfold rowAt;split <;> omega
theorem HH (one:Bool) {s:ai} (hg:Good s) (orders known:Nat) (f:Nat) (most:Int) (ho:orders≤8) (hk:known≤orders) (hf:f < 2 ^ known) (hm:0≤most∧most≤1000):ER TT TB one (QN s (orders:Nat) (known:Nat) most f) ((nI s orders known f most).map fun x=>[kO x]):=by
 have hf256:f < 2 ^ 8:=Nat.lt_of_lt_of_le hf (Nat.pow_le_pow_right (by decide) (by omega));refine ER.body (fn:=Tryz.f50) rfl rfl rfl rfl (fun x hx a ha=>?_) fun u J Stop hy=>?_
 ·obtain ⟨i,_,rfl⟩:=List.mem_map.1 hx;simp only [List.mem_cons,List.not_mem_nil,or_false] at ha
  rcases ha with rfl
  exact fA.fl _
 rw [List.length_map];refine qq2 ?_;repeat' first|refine u1 ?_|refine u2 ?_|fail
 refine qq2 ?_;repeat' first|refine u1 ?_|refine u2 ?_|fail
 refine qq2 ?_;repeat' first|refine u1 ?_|refine u2 ?_|fail
 refine qq2 ?_;repeat' first|refine u1 ?_|refine u2 ?_|fail
 refine RM.cutAt (st':=⟨aZ [(3,.pt [aC (known:Nat)] 0),(4,.pt [kO f] 0),(5,.pt [aC most] 0),(7,.ptr 0 0 0),(8,aC (rowAt f known))],[LV s orders u],J 0,false,0⟩) ?_ ?_
 ·refine qq2 ?_;repeat' first|refine u1 ?_|refine u2 ?_|fail
  refine av.block ?_;refine av.aJ (ah.to (l:=[(3,.pt [aC (known:Nat)] 0),(4,.pt [kO f] 0),(5,.pt [aC most] 0),(7,.ptr 0 0 0),(8,aC ((known:Int) - (known:Nat))),(9,aC (((known:Nat):Int) - 1))]) (hp:=[LV s orders u]) 1 rfl ⟨rfl,rfl,rfl,rfl,bq (by omega),rfl,trivial⟩ (qq5 _) rfl rfl) ?_;refine av.loop (fun m:Nat=>m≤known∧rowAt f known=rowAt f m+((known:Int) - (m:Int))) (fun m=>⟨aZ [(3,.pt [aC (known:Nat)] 0),(4,.pt [kO f] 0),(5,.pt [aC most] 0),(7,.ptr 0 0 0),(8,aC ((known:Int) - (m:Nat))),(9,aC (((m:Nat):Int) - 1))],[LV s orders u],J 0,false,0⟩) (fun m=>m) ?_ known ⟨qq6 _,by omega⟩;rintro m ⟨hmk,hrow⟩;have fin:rowAt f m=0→(known:Int) - (m:Int)=rowAt f known:=fun h=>by omega
  cases m with
  | zero =>
   have d1:decide ((0:Int)≤((0:Nat):Int) - 1)=false:=by decide
   rw [fin rfl];refine qq1 ?_;repeat' first|refine u1 ?_|refine u2 ?_|fail
   exact .is (ah.to 1 rfl ⟨rfl,rfl,rfl,rfl,rfl,trivial⟩ (qq5 _) rfl rfl)
  | succ m =>
   have e1:((m+1:Nat):Int) - 1=(m:Int):=by omega
   rw [e1];have d1:decide ((0:Int)≤(m:Int))=true:=decide_eq_true (by omega);have m8:m < 8:=by omega
   have hfm:f / 2 ^ m < 18446744073709551616:=Nat.lt_of_le_of_lt (Nat.div_le_self _ _) (by omega)
   have hbit:f / 2 ^ m % 2=if f.testBit m=true then 1 else 0:=by
    rw [Nat.testBit_eq_decide_div_mod_eq];have:=Nat.mod_two_eq_zero_or_one (f / 2 ^ m)
    rcases this with e|e <;> rw [e] <;> simp
   cases hb:f.testBit m with
   | true =>
    rw [hb,if_pos rfl] at hbit;have d2:decide (((f / 2 ^ m % 2:Nat):Int)=1)=true:=decide_eq_true (by rw [hbit];decide);have hrs:rowAt f (m+1)=rowAt f m+1:=by show (if f.testBit m=true then rowAt f m+1 else 0)=_;rw [if_pos hb]
    refine qq1 ?_;repeat' first|((with_reducible show bk _ _ _ _ _ _ _ _ _);refine RM.w9 rfl rfl m8 ?_)|((with_reducible show bk _ _ _ _ _ _ _ _ _);refine RM.qY rfl rfl hfm ?_)|((with_reducible show bk _ _ _ _ _ _ _ _ _);refine RM.EY rfl rfl ?_)|refine u1 ?_|refine u2 ?_|fail
    exact ⟨m,⟨by omega,by omega⟩,Nat.lt_succ_self _,ah.to 1 rfl ⟨rfl,rfl,rfl,rfl,bq (by omega),rfl,trivial⟩ (qq5 _) rfl rfl⟩
   | false =>
    rw [hb,if_neg (by simp)] at hbit;have d2:decide (((f / 2 ^ m % 2:Nat):Int)=1)=false:=decide_eq_false (by rw [hbit];decide);rw [fin (by show (if f.testBit m=true then rowAt f m+1 else 0)=0;rw [hb];rfl)];refine qq1 ?_;repeat' first|((with_reducible show bk _ _ _ _ _ _ _ _ _);refine RM.w9 rfl rfl m8 ?_)|((with_reducible show bk _ _ _ _ _ _ _ _ _);refine RM.qY rfl rfl hfm ?_)|((with_reducible show bk _ _ _ _ _ _ _ _ _);refine RM.EY rfl rfl ?_)|refine u1 ?_|refine u2 ?_|fail
    exact .is (ah.to 1 rfl ⟨rfl,rfl,rfl,rfl,rfl,trivial⟩ (qq5 _) rfl rfl)
 ·have hb:=sL f known;have c1:=Fc one hg orders ho u J Stop (nI s orders known f most) hy (orders - known) known f (rowAt f known) most 0 (by omega) hf hb hm (fun j x hj=>by rw [Nat.zero_add];exact hj);refine qq1 ?_;repeat' first|refine u1 ?_|refine u2 ?_|fail
  refine az.mono c1 (fun a hp' amb' hq=>?_);obtain ⟨rfl,b,rfl,hb⟩:=hq;repeat' first|refine u1 ?_|refine u2 ?_|fail
  rcases hb with ⟨_,h⟩|⟨_,h⟩
  ·rw [Nat.zero_add] at h;exact Or.inl h
  ·exact Or.inr h
def jW:Nat→Nat→List Bool→Nat
 | f,_,[]=>f
 | f,i,true :: l=>jW (f ||| 2 ^ i) (i+1) l
 | f,i,false :: l=>jW f (i+1) l
theorem xg (R:Nat):∀ (n i f row left:Nat),iH (R:Int) n i f (row:Int) (left:Int)=(TeLaw.uL R n row left).map (jW f i)
 | 0,i,f,row,left=>rfl
 | n+1,i,f,row,left=>by
  have e1:=xg R n (i+1) f 0 left;unfold iH TeLaw.uL;rw [List.map_append,List.map_map];have e0:((0:Nat):Int)=0:=rfl;rw [e0] at e1;rw [e1]
  congr 1
  by_cases h:left=0∨R≤row
  ·rw [if_pos h,if_pos (by omega)];rfl
  ·rw [if_neg h,if_neg (by omega)];have e2:=xg R n (i+1) (f ||| 2 ^ i) (row+1) (left - 1);rw [List.map_map,show ((row:Int)+1)=((row+1:Nat):Int) by omega,show ((left:Int) - 1)=((left - 1:Nat):Int) by omega,e2];rfl
theorem qh:∀ (l:List Bool) (f i:Nat),f < 2 ^ i→jW f i l < 2 ^ (i+l.length)
 | [],f,i,h=>h
 | true :: l,f,i,h=>by have:=qh l (f ||| 2 ^ i) (i+1) (Nat.or_lt_two_pow (Nat.lt_of_lt_of_le h (Nat.pow_le_pow_right (by decide) (by omega))) (Nat.pow_lt_pow_right (by decide) (by omega)));rw [List.length_cons,show i+(l.length+1)=i+1+l.length by omega];exact this
 | false :: l,f,i,h=>by have:=qh l f (i+1) (Nat.lt_of_lt_of_le h (Nat.pow_le_pow_right (by decide) (by omega)));rw [List.length_cons,show i+(l.length+1)=i+1+l.length by omega];exact this
theorem gN:∀ (l:List Bool) (f i:Nat),f < 2 ^ i→∀ k,(jW f i l).testBit k=(f.testBit k || (decide (i≤k) && l.getD (k - i) false))
 | [],f,i,h,k=>by simp [jW]
 | b :: l,f,i,h,k=>by
  have h1:f < 2 ^ (i+1):=Nat.lt_of_lt_of_le h (Nat.pow_le_pow_right (by decide) (by omega));have hk:i≤k→f.testBit k=false:=fun hik=>Nat.testBit_lt_two_pow (Nat.lt_of_lt_of_le h (Nat.pow_le_pow_right (by decide) hik));have h2:f ||| 2 ^ i < 2 ^ (i+1):=Nat.or_lt_two_pow h1 (Nat.pow_lt_pow_right (by decide) (by omega))
  rcases Nat.lt_trichotomy k i with hc|hc|hc
  ·cases b
   ·rw [jW,gN l f (i+1) h1 k];simp [show ¬ i≤k by omega,show ¬ i+1≤k by omega]
   ·rw [jW,gN l _ (i+1) h2 k,Nat.testBit_or,Nat.testBit_two_pow];simp [show ¬ i≤k by omega,show ¬ i+1≤k by omega,show ¬ i=k by omega]
  ·subst hc;cases b
   ·rw [jW,gN l f (k+1) h1 k];simp [show ¬ k+1≤k by omega]
   ·rw [jW,gN l _ (k+1) h2 k,Nat.testBit_or,Nat.testBit_two_pow];simp
  ·obtain ⟨m,hm⟩:∃ m,k - i=m+1:=⟨k - i - 1,by omega⟩;have hm2:k - (i+1)=m:=by omega
   cases b
   ·rw [jW,gN l f (i+1) h1 k,hm,hm2];simp [show i≤k by omega,show i+1≤k by omega]
   ·rw [jW,gN l _ (i+1) h2 k,Nat.testBit_or,Nat.testBit_two_pow,hm,hm2];simp [show i≤k by omega,show i+1≤k by omega,show ¬ i=k by omega]
def yD (f k:Nat):Nat:=(rowAt f k).toNat
theorem vo {s:ai} (hg:Good s) (orders known f most:Nat):nI s orders known f (most:Int)=(TeLaw.uL s.row.toNat (orders - known) (yD f known) most).map (jW f known):=by
 have h:=sL f known;have hr:=hg.row;unfold nI;have e1:rowAt f known=((yD f known:Nat):Int):=by unfold yD;omega
 have e2:s.row=((s.row.toNat:Nat):Int):=by omega
 rw [e1]
 conv=>lhs;rw [e2]
 exact xg _ _ _ _ _ _
theorem Nu {s:ai} (hg:Good s) {orders known f most y:Nat} (hk:known≤orders) (hf:f < 2 ^ known) (hy:y ∈ nI s orders known f (most:Int)):y < 2 ^ orders:=by rw [vo hg] at hy;obtain ⟨b,hb,rfl⟩:=List.mem_map.1 hy;have hl:=(TeLaw.fO.1 hb).1;have:=qh b f known hf;rw [hl,Nat.add_sub_cancel' hk] at this;exact this
def cu (s:ai) (p:List Order) (known f:Nat) (most:Int):Bool:=(nI s p.length known f most).all fun y=>(jV s p y).isNone
theorem Gy (one:Bool) {s:ai} {p:List Order} (hp:jC s p) (full:Bool) (known f most:Nat) (hk:known≤p.length) (hf:f < 2 ^ known) (hm:most≤1000) :
  Pu one 36 [.ag (ay s),.sl (p.map aD) full,aC (known:Nat),kO f,aC (most:Nat)] (BB (cu s p known f (most:Int))):=by
 have hg:=hp.good;have p8:=hp.len;have ep:((p.map aD).length:Int)=p.length:=by simp
 have o1:Pu one 21 [.ag (ay s),aC ((p.map aD).length:Int),aC (known:Nat),kO f,aC (most:Nat)] (QN s (p.length:Nat) (known:Nat) (most:Nat) f):=by rw [ep];exact HG one s _ _ _ _
 have hgen:=HH one hg p.length known f (most:Nat) p8 hk hf (by omega);refine aj.body (fn:=Tryz.f36) rfl rfl rfl rfl ?_;refine qq2 ?_;repeat' first|refine u1 ?_|refine u2 ?_|fail
 refine qq2 ?_;repeat' first|refine u1 ?_|((with_reducible refine qq3 ?_);refine aj.call o1 rfl rfl ?_)|refine u2 ?_|fail
 refine av.range (fun _=>[.cells [BB false] 0 0]) (fun _=>bA.none) (fun i=>∀ j y,j < i→(nI s p.length known f (most:Nat))[j]?=some y→jV s p y=none) rfl hgen rfl rfl (fun j y hj=>absurd hj (Nat.not_lt_zero _)) (fun i x hx hprev=>?_) (fun hprev=>?_)
 ·obtain ⟨y,hy,rfl⟩:∃ y,(nI s p.length known f (most:Nat))[i]?=some y∧x=[kO y]:=by rw [List.getElem?_map,Option.map_eq_some_iff] at hx;obtain ⟨y,h1,h2⟩:=hx;exact ⟨y,h1,h2.symm⟩
  have hmem:y ∈ nI s p.length known f (most:Nat):=List.mem_of_getElem? hy;have hlt:=Nu hg hk hf hmem;have h28:2 ^ p.length≤2 ^ 8:=Nat.pow_le_pow_right (by decide) p8;have ob:=Dk one hp full y (by omega);unfold yC at ob;refine ⟨rfl,?_⟩;refine qq1 ?_;repeat' first|refine u1 ?_|refine u2 ?_|fail
  refine qq1 ?_
  cases hb:jV s p y with
  | some v =>
   obtain ⟨d,n⟩:=v;rw [hb] at ob
   have e:cu s p known f (most:Int)=false:=by
    cases h:cu s p known f (most:Int) with
    | false=>rfl
    | true =>have:=List.all_eq_true.1 h y hmem;rw [hb] at this;cases this
   rw [e];repeat' first|refine u1 ?_|((with_reducible refine qq3 ?_);refine aj.call ob rfl rfl ?_)|refine u2 ?_|fail
   exact ⟨[_],⟨Fz.deep rfl,trivial⟩,rfl⟩
  | none =>
   rw [hb] at ob;repeat' first|refine u1 ?_|((with_reducible refine qq3 ?_);refine aj.call ob rfl rfl ?_)|refine u2 ?_|fail
   refine ⟨fun j z hj hz=>?_,_,ah.to (l:=[]) 1 rfl trivial (qq6 _) rfl rfl⟩;by_cases e:j=i
   ·subst e;rw [hy] at hz;cases hz;exact hb
   ·exact hprev j z (by omega) hz
 ·rw [List.length_map] at hprev;have e:cu s p known f (most:Int)=true:=by refine List.all_eq_true.2 fun y hy=>?_;obtain ⟨j,hj,rfl⟩:=List.mem_iff_getElem.1 hy;rw [hprev j _ hj (List.getElem?_eq_getElem hj)];rfl
  rw [e];refine qq1 ?_;repeat' first|refine u1 ?_|refine u2 ?_|fail
  exact ⟨[_],⟨Fz.deep rfl,trivial⟩,rfl⟩
theorem Tt (one:Bool):Pu one 14 [] (BB true):=aj.closed (fun _=>rfl) rfl
abbrev eB (b:Bool):List AV:=[BB b]
def eo (came:List Bool):Nat:=jW 0 0 (came.map not)
theorem LW (came:List Bool):eo came < 2 ^ came.length:=by have:=qh (came.map not) 0 0 (by decide);rw [List.length_map,Nat.zero_add] at this;exact this
section
variable {P : Program}
theorem Bt {t : TypeId} {d : TypeDesc} (h : P.underlying t = some d) : aG P (underlying t) = some d := by
  unfold underlying;rw [bW]
  show aG P (match P.underlying t with | some d => pure d | none => stuck "no such type") = some d
  rw [h];rfl
end
def SN (s:ai) (p:List Order):List Nat:=nI s p.length 0 0 s.fail
theorem LX (k m:Nat) (H:Hp):mB (xz k) 80 [.int .u64 (m:Int)] H=bif DY (k:Int) (m:Int) then some (.int .i64 (Lib.ctz 64 k),H) else none:=by
 have h:mw 0 (.int .u64 (k:Int)) (.int .u64 (m:Int)) .leaf=bif DY (k:Int) (m:Int) then some .leaf else none:=by show (bif (IntKind.u64 == IntKind.u64) && DY (k:Int) (m:Int) then some Tr.leaf else none)=_;rfl
 show (match ((mw 0 (.int .u64 (k:Int)) (.int .u64 (m:Int)) .leaf).bind (jc 0 [] [])) with
  | some φ=>match j7 0 H.get [] 0 φ with
   | some _=>(oO 0 H.n (.int .i64 (Lib.ctz 64 k))).map fun v=>(v,eZ H [])
   | none=>none
  | none=>none)=_
 rw [h];cases DY (k:Int) (m:Int) <;> rfl
theorem Gz (m:Nat) (H:Hp):∀ l:List Nat,m ∈ l→RM.look (l.map xz) 80 [.int .u64 (m:Int)] H=some (.int .i64 (Lib.ctz 64 m),H)
 | [],h=>by cases h
 | k :: l,h=>by
  show (match mB (xz k) 80 [.int .u64 (m:Int)] H with
   | some r=>some r
   | none=>RM.look (l.map xz) 80 [.int .u64 (m:Int)] H)=_
  rw [LX,D3];by_cases e:(k:Int)=(m:Int)
  ·rw [decide_eq_true e];have:k=m:=by omega
   subst this;rfl
  ·rw [decide_eq_false e];show RM.look (l.map xz) 80 [.int .u64 (m:Int)] H=_;refine Gz m H l ?_
   rcases List.mem_cons.1 h with rfl|h
   ·exact absurd rfl e
   ·exact h
theorem Nv {m:Nat} (hm:m < 256) (H:Hp):RM.look TB 80 [.int .u64 (m:Int)] H=some (.int .i64 (Lib.ctz 64 m),H):=by
 show (match mB SF 80 [.int .u64 (m:Int)] H with
  | some r=>some r
  | none=>RM.look ((List.range 256).map xz) 80 [.int .u64 (m:Int)] H)=_
 show RM.look ((List.range 256).map xz) 80 [.int .u64 (m:Int)] H=_;exact Gz m H _ (List.mem_range.2 hm)
theorem Dn {tab:List XE} {one:Bool} {f:FuncId} {a v:Value} (h:∀ H,RM.look tab f [a] H=some (v,H)) (hv:aV v=true):aj TT tab one (.fn f [] []) [.fl a] (.fl v):=by
 refine ⟨rfl,fun X H u us hwf hX hF ha=>?_⟩
 cases hF with
 | fn l1 l2 d1 d2 =>
  rename_i a' b';have h1:a'.toList=[]:=List.length_eq_zero_iff.1 l1.symm;have h2:b'.toList=[]:=List.length_eq_zero_iff.1 l2.symm
  have h3:us=[a]:=by
   obtain ⟨hl,hg⟩:=ha
   match us,hl with
   | [w],_ =>have:=hg 0 (.fl a) w rfl rfl;cases this;rfl
  refine ⟨.fn f [a],by simp [cO,h1,h2,h3],0,[.ret v H],?_,fun _=>⟨_,rfl⟩,fun r hr=>?_⟩
  ·show rx tab (vc tab TT 0) (.call f [a] H)=_;unfold rx;simp only [h H]
  ·obtain rfl:=List.mem_singleton.1 hr;exact ⟨v,H,rfl,qq6 _,hwf,fun _ _=>rfl,Nat.min_le_left _ _,.fl hv⟩
theorem QO (one:Bool) {m:Nat} (hm:m < 256):Pu one 80 [kO m] (aC (Lib.ctz 64 m)):=Dn (fun H=>Nv hm H) rfl
def Tu (m:Nat):Nat:=(m / 2 ^ 1 &&& 6148914691236517205)+(m &&& 6148914691236517205)
def Tv (m:Nat):Nat:=(m / 2 ^ 2 &&& 3689348814741910323)+(m &&& 3689348814741910323)
def Tw (m:Nat):Nat:=(m / 2 ^ 4+m) &&& 1085102592571150095
def Nw (m:Nat):Nat:=(let c:=Tw (Tv (Tu m));let d:=c+c / 2 ^ 8;let e:=d+d / 2 ^ 16;e+e / 2 ^ 32) &&& 127
