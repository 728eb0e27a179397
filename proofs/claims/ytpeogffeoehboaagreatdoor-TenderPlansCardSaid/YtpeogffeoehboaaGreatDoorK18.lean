/-
  Contracts of the program's functions and of the document's. Lemmas alone; their conditions stand in them.
-/
import Derived.Test.YtpeogffeoehboaaGreatDoorK17
open Go Go.RM
namespace Go.Proofs.YtpeogffeoehboaaGreatDoor
set_option maxRecDepth 100000
set_option maxHeartbeats 4000000
theorem Rd (one:Bool) (L:List (List Int)) (full:Bool) (x:List Int) (hL:L.length≤1000) (hl:∀ l ∈ L,l.length≤maxLen) (hx:x.length≤maxLen):Pu one 90 [.sl (L.map eL) full,.sl (ints x) false] (BB (L.any fun l=>decide (l=x))):=by
 refine aj.body (fn:=Tryz.f90) rfl rfl rfl rfl ?_;refine qq2 ?_;repeat' first|refine u1 ?_|refine u2 ?_|fail
 refine av.seq ?_;refine qq2 ?_;repeat' first|refine u1 ?_|refine u2 ?_|fail
 refine av.block ?_;refine av.aJ (ah.to (l:=[(0,.sl (L.map eL) full),(1,.sl (ints x) false),(5,aC (0:Nat))]) (hp:=[]) 0 rfl ⟨rfl,rfl,rfl,trivial⟩ (qq5 _) rfl rfl) ?_;refine av.loop (fun i:Nat=>i≤L.length∧∀ (j:Nat) (h:j < L.length),j < i→L[j] ≠ x) (fun i=>⟨aZ [(0,.sl (L.map eL) full),(1,.sl (ints x) false),(5,aC (i:Nat))],[],bA.none,false,0⟩) (fun i=>L.length - i) ?_ 0 ⟨qq5 _,fun j _ h=>absurd h (Nat.not_lt_zero _)⟩;rintro i ⟨hi,hprev⟩;have eLn:((L.map eL).length:Int)=L.length:=by simp
 by_cases hlt:i < L.length
 ·have d1:decide ((i:Int) < ((L.map eL).length:Int))=true:=decide_eq_true (by omega);have hbi:(i:Int) < ((L.map eL).length:Int):=by omega
  have hat:(L.map eL)[((i:Nat):Int).toNat]?=some (eL L[i]):=bp hlt;have oi:=EZ one L[i] x false false (hl _ (List.getElem_mem hlt)) hx;by_cases he:L[i]=x
  ·have hres:(L.any fun l=>decide (l=x))=true:=List.any_eq_true.2 ⟨L[i],List.getElem_mem hlt,decide_eq_true he⟩;rw [hres];rw [decide_eq_true he] at oi
   generalize L[i]=F at *
   refine qq2 ?_;repeat' first|refine u1 ?_|refine u2 ?_|fail
   refine qq1 ?_;repeat' first|((with_reducible refine qq3 ?_);refine aj.call oi rfl rfl ?_)|refine u1 ?_|((with_reducible refine qq4 ?_);refine ⟨eL F,⟨by omega,hat⟩,rfl,?_⟩)|refine u2 ?_|fail
   exact ⟨[_],⟨Fz.deep rfl,trivial⟩,rfl⟩
  ·have hnx:∀ (j:Nat) (h:j < L.length),j < i+1→L[j] ≠ x:=fun j h hj=>by
    by_cases e:j < i
    ·exact hprev j h e
    ·obtain rfl:j=i:=by omega
     exact he
   rw [decide_eq_false he] at oi
   generalize L[i]=F at *
   refine qq2 ?_;repeat' first|refine u1 ?_|refine u2 ?_|fail
   refine qq2 ?_;repeat' first|((with_reducible refine qq3 ?_);refine aj.call oi rfl rfl ?_)|refine u1 ?_|((with_reducible refine qq4 ?_);refine ⟨eL F,⟨by omega,hat⟩,rfl,?_⟩)|refine u2 ?_|fail
   refine qq1 ?_;repeat' first|refine u1 ?_|refine u2 ?_|fail
   exact ⟨i+1,⟨hlt,hnx⟩,(by dsimp only;omega),ah.to 0 rfl ⟨rfl,rfl,bq (by simp),trivial⟩ (qq5 _) rfl rfl⟩
 ·have d1:decide ((i:Int) < ((L.map eL).length:Int))=false:=decide_eq_false (by omega);have hres:(L.any fun l=>decide (l=x))=false:=by rw [List.any_eq_false];intro l hm;obtain ⟨j,hj,rfl⟩:=List.mem_iff_getElem.1 hm;simpa using hprev j hj (by omega)
  rw [hres];refine qq1 ?_;repeat' first|refine u1 ?_|refine u2 ?_|fail
  refine qq1 ?_;repeat' first|refine u1 ?_|refine u2 ?_|fail
  exact ⟨[_],⟨Fz.deep rfl,trivial⟩,rfl⟩
theorem DP:∀ {a b:List Int} {i:Nat},i≤a.length→i≤b.length→a.take i=b.take i→nJ a b=nJ (a.drop i) (b.drop i)
 | _,_,0,_,_,_=>rfl
 | x :: a,y :: b,i+1,ha,hb,h=>by
  rw [List.take_succ_cons,List.take_succ_cons,List.cons.injEq] at h;obtain ⟨rfl,h⟩:=h;rw [tT,List.drop_succ_cons,List.drop_succ_cons];have:Ih x x=0:=by unfold Ih;rw [if_neg (by omega),if_neg (by omega)]
  rw [this,if_neg (by omega)];exact DP (by simpa using ha) (by simpa using hb) h
theorem Mr (one:Bool) (a b:List Int) (fa fb:Bool) (ha:a.length≤1000):Pu one 91 [.sl (ints a) fa,.sl (ints b) fb] (BB (decide (nJ a b < 0))):=by
 have ea:((ints a).length:Int)=a.length:=by simp
 have eb:((ints b).length:Int)=b.length:=by simp
 refine aj.body (fn:=Tryz.f91) rfl rfl rfl rfl ?_;refine qq2 ?_;repeat' first|refine u1 ?_|refine u2 ?_|fail
 refine av.seq ?_;refine qq2 ?_;repeat' first|refine u1 ?_|refine u2 ?_|fail
 refine av.block ?_;refine av.aJ (ah.to (l:=[(0,.sl (ints a) fa),(1,.sl (ints b) fb),(5,aC (0:Nat))]) (hp:=[]) 0 rfl ⟨rfl,rfl,rfl,trivial⟩ (qq5 _) rfl rfl) ?_;refine av.loop (fun i:Nat=>(i≤a.length∧i≤b.length)∧a.take i=b.take i) (fun i=>⟨aZ [(0,.sl (ints a) fa),(1,.sl (ints b) fb),(5,aC (i:Nat))],[],bA.none,false,0⟩) (fun i=>a.length - i) ?_ 0 ⟨⟨qq5 _,qq5 _⟩,rfl⟩;rintro i ⟨⟨hi1,hi2⟩,htk⟩;have hdr:=DP hi1 hi2 htk;by_cases h1:i < a.length
 ·have d1:decide ((i:Int) < ((ints a).length:Int))=true:=decide_eq_true (by omega);by_cases h2:i < b.length
  ·have d2:decide ((i:Int) < ((ints b).length:Int))=true:=decide_eq_true (by omega);have hat1:(ints a)[((i:Nat):Int).toNat]?=some (eI a[i]):=bp h1;have hat2:(ints b)[((i:Nat):Int).toNat]?=some (eI b[i]):=bp h2;have hb1:(i:Int) < ((ints a).length:Int):=by omega
   have hb2:(i:Int) < ((ints b).length:Int):=by omega
   rw [List.drop_eq_getElem_cons h1,List.drop_eq_getElem_cons h2,tT] at hdr;by_cases he:a[i]=b[i]
   ·have d3:(!decide (a[i]=b[i]))=false:=by rw [decide_eq_true he];rfl
    have hnx:a.take (i+1)=b.take (i+1):=by rw [List.take_add_one,List.take_add_one,List.getElem?_eq_getElem h1,List.getElem?_eq_getElem h2,htk,he]
    clear hdr
    generalize a[i]=x at *
    generalize b[i]=y at *
    refine qq2 ?_;repeat' first|refine u1 ?_|refine u2 ?_|fail
    refine qq2 ?_;repeat' first|refine u1 ?_|((with_reducible refine qq4 ?_);refine ⟨eI x,⟨by omega,hat1⟩,rfl,?_⟩)|((with_reducible refine qq4 ?_);refine ⟨eI y,⟨by omega,hat2⟩,rfl,?_⟩)|refine u2 ?_|fail
    refine qq1 ?_;repeat' first|refine u1 ?_|refine u2 ?_|fail
    exact ⟨i+1,⟨⟨h1,h2⟩,hnx⟩,(by dsimp only;omega),ah.to 0 rfl ⟨rfl,rfl,bq (by simp),trivial⟩ (qq5 _) rfl rfl⟩
   ·have d3:(!decide (a[i]=b[i]))=true:=by rw [decide_eq_false he];rfl
    have hres:decide (nJ a b < 0)=decide (a[i] < b[i]):=by
     rw [hdr];unfold Ih;by_cases hlt:a[i] < b[i]
     ·rw [if_pos hlt,if_pos (by omega),decide_eq_true hlt];rfl
     ·rw [if_neg hlt,if_pos (show b[i] < a[i] by omega),if_pos (by omega),decide_eq_false hlt];rfl
    rw [hres];clear hdr hres
    generalize a[i]=x at *
    generalize b[i]=y at *
    refine qq2 ?_;repeat' first|refine u1 ?_|refine u2 ?_|fail
    refine qq1 ?_;repeat' first|refine u1 ?_|((with_reducible refine qq4 ?_);refine ⟨eI x,⟨by omega,hat1⟩,rfl,?_⟩)|((with_reducible refine qq4 ?_);refine ⟨eI y,⟨by omega,hat2⟩,rfl,?_⟩)|refine u2 ?_|fail
    exact ⟨[_],⟨Fz.deep rfl,trivial⟩,rfl⟩
  ·have d2:decide ((i:Int) < ((ints b).length:Int))=false:=decide_eq_false (by omega);have d4:decide (((ints a).length:Int) < ((ints b).length:Int))=decide (nJ a b < 0):=by rw [hdr,List.drop_eq_nil_of_le (show b.length≤i by omega),List.drop_eq_getElem_cons h1,decide_eq_false (by omega)];rfl
   rw [←d4];refine qq1 ?_;repeat' first|refine u1 ?_|refine u2 ?_|fail
   refine qq1 ?_;repeat' first|refine u1 ?_|refine u2 ?_|fail
   exact ⟨[_],⟨Fz.deep rfl,trivial⟩,rfl⟩
 ·have d1:decide ((i:Int) < ((ints a).length:Int))=false:=decide_eq_false (by omega)
  have d4:decide (((ints a).length:Int) < ((ints b).length:Int))=decide (nJ a b < 0):=by
   rw [hdr,List.drop_eq_nil_of_le (show a.length≤i by omega)];by_cases h2:i < b.length
   ·rw [List.drop_eq_getElem_cons h2,decide_eq_true (by omega)];rfl
   ·rw [List.drop_eq_nil_of_le (show b.length≤i by omega),decide_eq_false (by omega)];rfl
  rw [←d4];refine qq1 ?_;repeat' first|refine u1 ?_|refine u2 ?_|fail
  refine qq1 ?_;repeat' first|refine u1 ?_|refine u2 ?_|fail
  exact ⟨[_],⟨Fz.deep rfl,trivial⟩,rfl⟩
def dG (s:ai) (l:List Int) (k:Nat):Bool:=decide (tR s l≤s.load) && (List.range k).all fun n=>hasB l (n:Nat) || decide (s.load < tR s l+DW s (n:Nat))
theorem FD {s:ai} {l:List Int} {k:Nat}:dG s l (k+1)=(dG s l k && (hasB l (k:Nat) || decide (s.load < tR s l+DW s (k:Nat)))):=by unfold dG;rw [List.range_succ,List.all_append];simp [Bool.and_assoc]
theorem zZ {f n:Nat} (hn:n < 8):hasB (aL f) (n:Nat)=f.testBit n:=by
 rw [Bool.eq_iff_iff,fM,zH];constructor
 ·rintro ⟨m,_,h,e⟩;obtain rfl:n=m:=by omega
  exact h
 ·intro h;exact ⟨n,hn,h,rfl⟩
theorem NP {s:ai} (hg:Good s) (f:Nat):dG s (aL f) s.needs.length=iU s f:=by
 have h3:=hg.len;unfold dG iU xB
 congr 1
 rw [Bool.eq_iff_iff,List.all_eq_true,List.all_eq_true];constructor
 ·intro h n hn;have:=h n hn;rw [zZ (by have:=List.mem_range.1 hn;omega)] at this;exact this
 ·intro h n hn;rw [zZ (by have:=List.mem_range.1 hn;omega)];exact h n hn
def gH (s:ai) (m:Nat):List (List Int):=(List.range m).flatMap fun i=>(dQ s.needs.length (i+1) []).filter fun l=>dG s l s.needs.length
theorem Ia (s:ai) (m:Nat):gH s (m+1)=gH s m++(dQ s.needs.length (m+1) []).filter fun l=>dG s l s.needs.length:=by unfold gH;rw [List.range_succ,List.flatMap_append,List.flatMap_cons,List.flatMap_nil,List.append_nil]
def FE (s:ai):List Nat:=([1,2,4,3,5,6,7]:List Nat).filter fun f=>decide (f < 2 ^ s.needs.length) && iU s f
theorem BH {s:ai} (hg:Good s):gH s s.needs.length=(FE s).map aL:=by
 have h3:=hg.len;have hfl:=NP hg;unfold gH FE
 have key:∀ P:List Int→Bool,(∀ f,P (aL f)=iU s f)→∀ L:List Nat,(L.map aL).filter P=(L.filter (iU s)).map aL:=by
  intro P hP L;rw [List.filter_map]
  congr 1
  refine List.filter_congr fun f _=>?_;exact hP f
 have k2:=key (fun l=>dG s l s.needs.length) hfl
 generalize (fun l=>dG s l s.needs.length)=P at *
 generalize s.needs.length=N at *
 have hN:N=1∨N=2∨N=3:=by omega
 rcases hN with rfl|rfl|rfl
 ·show (dQ 1 1 []).filter P++[]=_;rw [show dQ (1:Int) 1 []=[1].map aL from rfl,List.append_nil,k2]
  congr 1
 ·show (dQ 2 1 []).filter P++((dQ 2 2 []).filter P++[])=_;rw [show dQ (2:Int) 1 []=[1,2].map aL from rfl,show dQ (2:Int) 2 []=[3].map aL from rfl,List.append_nil,k2,k2,←List.map_append,←List.filter_append]
  congr 1
 ·show (dQ 3 1 []).filter P++((dQ 3 2 []).filter P++((dQ 3 3 []).filter P++[]))=_;rw [show dQ (3:Int) 1 []=[1,2,4].map aL from rfl,show dQ (3:Int) 2 []=[3,5,6].map aL from rfl,show dQ (3:Int) 3 []=[7].map aL from rfl,List.append_nil,k2,k2,k2,←List.map_append,←List.filter_append,←List.map_append,←List.filter_append]
  congr 1
def oA (L out:List (List Int)):Nat→Option Nat
 | 0=>none
 | i+1=>if !(out.any fun l=>decide (l=L.getD i [])) && (match oA L out i with
  | none=>true
  | some b=>decide (nJ (L.getD i []) (L.getD b []) < 0)) then some i else oA L out i
def jL (L:List (List Int)):Nat→List (List Int)
 | 0=>[]
 | k+1=>jL L k++[L.getD ((oA L (jL L k) L.length).getD 0) []]
def GN (L:List (List Int)):Bool:=(List.range L.length).all fun k=>match oA L (jL L k) L.length with
 | none=>false
 | some b=>decide (b < L.length)
theorem NQ:((List.range 256).all fun m=>GN ((([1,2,4,3,5,6,7]:List Nat).filter m.testBit).map aL) && (jL ((([1,2,4,3,5,6,7]:List Nat).filter m.testBit).map aL) ((([1,2,4,3,5,6,7]:List Nat).filter m.testBit).map aL).length == (([1,3,7,5,2,6,4]:List Nat).filter m.testBit).map aL))=true:=by kernel_rfl
theorem mask (P:Nat→Bool):∃ m,m < 256∧∀ f,f < 8→m.testBit f=P f:=by
 refine ⟨jW 0 0 ((List.range 8).map P),?_,fun f hf=>?_⟩
 ·have:=qh ((List.range 8).map P) 0 0 (by decide);simpa using this
 ·rw [L3,fT (by simpa using hf)];simp
theorem Re (s:ai):GN ((FE s).map aL)=true∧jL ((FE s).map aL) ((FE s).map aL).length=iu s:=by
 obtain ⟨m,hm,hb⟩:=mask fun f=>decide (f < 2 ^ s.needs.length) && iU s f;have e1:FE s=([1,2,4,3,5,6,7]:List Nat).filter m.testBit:=by unfold FE;refine List.filter_congr fun f hf=>?_;simp only [List.mem_cons,List.not_mem_nil,or_false] at hf;exact (hb f (by omega)).symm
 have e2:aI s=([1,3,7,5,2,6,4]:List Nat).filter m.testBit:=by unfold aI;refine List.filter_congr fun f hf=>?_;simp only [List.mem_cons,List.not_mem_nil,or_false] at hf;exact (hb f (by omega)).symm
 have h:=List.all_eq_true.1 NQ m (List.mem_range.2 hm);rw [qq7] at h;unfold iu;rw [e1,e2];exact ⟨h.1,eq_of_beq h.2⟩
