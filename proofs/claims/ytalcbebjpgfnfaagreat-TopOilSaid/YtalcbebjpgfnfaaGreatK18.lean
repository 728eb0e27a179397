/-
  Contracts of the program's functions and of the document's. Lemmas alone; their conditions stand in them.
-/
import Derived.Test.YtalcbebjpgfnfaaGreatA3
import Derived.Test.YtalcbebjpgfnfaaGreatK16
import Derived.Test.YtalcbebjpgfnfaaGreatK17
open Go Go.RM Go.AirLaw
namespace Go.Proofs.YtalcbebjpgfnfaaGreat
set_option maxRecDepth 100000
set_option maxHeartbeats 4000000
theorem zU (one:Bool) (a b:List Int) (f g:Bool) (ha:a.length≤1000) (hb:b.length≤1000):Pu one 122 [.sl (a.map eI) f,.sl (b.map eI) g] (ah (eN a b)):=by
 have ea:((a.map eI).length:Int)=a.length:=by simp
 have eb:((b.map eI).length:Int)=b.length:=by simp
 refine af.body (fn:=Tryz.f122) rfl rfl rfl rfl ?_
 refine aa (mu:=fun _=>false) ?_
 repeat' (first |refine u1 ?_ |fail)
 refine az.aK (ai.to (l:=[(0,.sl (a.map eI) f),(1,.sl (b.map eI) g),(9,.sl (a.map eI) f),(10,ah ((a.map eI).length:Int)),(11,ah (0:Nat))]) (hp:=[]) 0 rfl ⟨rfl,rfl,rfl,rfl,rfl,trivial⟩ (Nat.zero_le _) rfl rfl) ?_
 refine az.loop (fun j:Nat=>(j≤a.length∧j≤b.length)∧eN a b=eN (a.drop j) (b.drop j)) (fun j=>⟨aX [(0,.sl (a.map eI) f),(1,.sl (b.map eI) g),(9,.sl (a.map eI) f),(10,ah ((a.map eI).length:Int)),(11,ah (j:Nat))],[],bN.none,false,0⟩) (fun j=>a.length - j) ?_ 0 ⟨⟨Nat.zero_le _,Nat.zero_le _⟩,rfl⟩
 rintro j ⟨⟨hj,hjb⟩,hcm⟩
 refine aa (mu:=fun _=>false) ?_
 repeat' (first |refine u1 ?_ |fail)
 refine RM.e1 rfl ⟨fun hc=>?_,fun hc=>?_⟩
 ·have hlt:j < a.length:=by simpa only [ea,decide_eq_true_eq,Int.ofNat_lt] using hc
  have hda:=List.drop_eq_getElem_cons hlt
  have hata:(a.map eI)[((j:Nat):Int).toNat]?=some (eI a[j]):=cq hlt
  by_cases hl2:j < b.length
  ·have d1:decide (((b.map eI).length:Int)≤(j:Int))=false:=decide_eq_false (by omega)
   have hdb:=List.drop_eq_getElem_cons hl2
   have hatb:(b.map eI)[((j:Nat):Int).toNat]?=some (eI b[j]):=cq hl2
   have hcc:=Fm one a[j] b[j]
   rw [hda,hdb,kB] at hcm
   by_cases h0:fj a[j] b[j]=0
   ·have d2:(!decide (fj a[j] b[j]=0))=false:=by simpa using h0
    rw [if_pos h0] at hcm
    repeat' (first |refine u1 ?_ |fail)
    exact ⟨j+1,⟨⟨hlt,hl2⟩,hcm⟩,(by dsimp only;omega),ai.to 0 rfl ⟨rfl,rfl,rfl,rfl,aH (by simp),trivial⟩ (Nat.zero_le _) rfl rfl⟩
   ·have d2:(!decide (fj a[j] b[j]=0))=true:=by simpa using h0
    rw [if_neg h0] at hcm
    rw [hcm]
    repeat' (first |refine u1 ?_ |fail)
    exact ⟨[_],⟨Fz.deep rfl,trivial⟩,rfl⟩
  ·have d1:decide (((b.map eI).length:Int)≤(j:Int))=true:=decide_eq_true (by omega)
   rw [hda,List.drop_eq_nil_of_le (by omega:b.length≤j),hJ] at hcm
   rw [hcm]
   repeat' (first |refine u1 ?_ |fail)
   exact ⟨[_],⟨Fz.deep rfl,trivial⟩,rfl⟩
 ·have hjl:j=a.length:=by rw [ea,decide_eq_false_iff_not] at hc;omega
  subst hjl
  rw [List.drop_length] at hcm
  by_cases hl2:a.length < b.length
  ·have d1:decide (((a.map eI).length:Int) < ((b.map eI).length:Int))=true:=decide_eq_true (by omega)
   rw [List.drop_eq_getElem_cons hl2,kD] at hcm
   rw [hcm]
   repeat' (first |refine u1 ?_ |fail)
   exact ⟨[_],⟨Fz.deep rfl,trivial⟩,rfl⟩
  ·have d1:decide (((a.map eI).length:Int) < ((b.map eI).length:Int))=false:=decide_eq_false (by omega)
   rw [List.drop_eq_nil_of_le (by omega:b.length≤a.length),od] at hcm
   rw [hcm]
   repeat' (first |refine u1 ?_ |fail)
   exact ⟨[_],⟨Fz.deep rfl,trivial⟩,rfl⟩
theorem M7 (one:Bool) (a b:Int):Pu one 121 [.sl [eI a,eI b] true] (ah (if a ≠ 0 then a else b)):=by
 refine af.body (fn:=Tryz.f121) rfl rfl rfl rfl ?_
 refine aa (mu:=fun _=>false) ?_
 repeat' (first |refine u1 ?_ |fail)
 refine az.aK (ai.to (l:=[(3,ah 0),(6,.sl [eI a,eI b] true),(7,ah 2),(8,ah (0:Nat))]) (hp:=[]) 0 rfl ⟨rfl,rfl,rfl,rfl,trivial⟩ (Nat.zero_le _) rfl rfl) ?_
 refine az.loop (fun j:Nat=>j≤2∧(1≤j→a=0)∧(2≤j→b=0)) (fun j=>⟨aX [(3,ah 0),(6,.sl [eI a,eI b] true),(7,ah 2),(8,ah (j:Nat))],[],bN.none,false,0⟩) (fun j=>2 - j) ?_ 0 ⟨by decide,fun h=>absurd h (by decide),fun h=>absurd h (by decide)⟩
 rintro j ⟨hj,h1,h2⟩
 refine aa (mu:=fun _=>false) ?_
 match j,hj with
 | 0,_ =>
  have hat:[eI a,eI b][((0:Nat):Int).toNat]?=some (eI a):=rfl
  by_cases h0:a=0
  ·have d:(!decide (a=0))=false:=by rw [decide_eq_true h0];rfl
   repeat' (first |refine u1 ?_ |fail)
   exact ⟨1,⟨by decide,fun _=>h0,fun h=>absurd h (by decide)⟩,(by decide),ai.to 0 rfl ⟨rfl,rfl,rfl,rfl,trivial⟩ (Nat.zero_le _) rfl rfl⟩
  ·have d:(!decide (a=0))=true:=by rw [decide_eq_false h0];rfl
   rw [if_pos h0]
   repeat' (first |refine u1 ?_ |fail)
   exact ⟨[_],⟨Fz.deep rfl,trivial⟩,rfl⟩
 | 1,_ =>
  have hat:[eI a,eI b][((1:Nat):Int).toNat]?=some (eI b):=rfl
  rw [if_neg (fun h=>h (h1 (by decide)))]
  by_cases h0:b=0
  ·have d:(!decide (b=0))=false:=by rw [decide_eq_true h0];rfl
   repeat' (first |refine u1 ?_ |fail)
   exact ⟨2,⟨by decide,fun _=>h1 (by decide),fun _=>h0⟩,(by decide),ai.to 0 rfl ⟨rfl,rfl,rfl,rfl,trivial⟩ (Nat.zero_le _) rfl rfl⟩
  ·have d:(!decide (b=0))=true:=by rw [decide_eq_false h0];rfl
   repeat' (first |refine u1 ?_ |fail)
   exact ⟨[_],⟨Fz.deep rfl,trivial⟩,rfl⟩
 | 2,_ =>
  rw [if_neg (fun h=>h (h1 (by decide)))]
  repeat' (first |refine u1 ?_ |fail)
  exact ⟨[_],⟨Fz.deep rfl,trivial⟩,by rw [h2 (by decide)];rfl⟩
abbrev oh:=List (Int × Int)
def tu (k:Int) (E:oh):Option Nat:=E.findIdx? fun x=>decide (k=x.1)
def mW (k:Int) (E:oh):Int:=match tu k E with
 | some i=>match E[i]? with|some x=>x.2|none=>0
 | none=>0
def vz (k:Int) (E:oh):oh:=match tu k E with
 | some i=>E.set i (k,mW k E+1)
 | none=>E++[(k,mW k E+1)]
def eZ:Nat→oh→List (AV × AV × Nat)
 | _,[]=>[]
 | b,(k,c) :: E=>(ah k,ah c,b) :: eZ (b+1) E
theorem pK:∀ (b:Nat) (E:oh) (i:Nat) (x:Int × Int),E[i]?=some x→(eZ b E)[i]?=some (ah x.1,ah x.2,b+i)
 | _,[],i,x,h=>by cases h
 | b,(k,c) :: E,0,x,h=>by cases h;rfl
 | b,(k,c) :: E,i+1,x,h=>by
  unfold eZ
  rw [List.getElem?_cons_succ] at h ⊢
  rw [pK (b+1) E i x h,show b+1+i=b+(i+1) by omega]
theorem C7:∀ (b:Nat) (E:oh) (i:Nat) (k:Int) (c:Int),(eZ b E).set i (ah k,ah c,b+i)=eZ b (E.set i (k,c))
 | _,[],i,k,c=>rfl
 | b,(k',c') :: E,0,k,c=>rfl
 | b,(k',c') :: E,i+1,k,c=>by
  show (ah k',ah c',b) :: (eZ (b+1) E).set i _=(ah k',ah c',b) :: eZ (b+1) (E.set i (k,c))
  rw [←C7 (b+1) E i k c,show b+1+i=b+(i+1) by omega]
theorem C8:∀ (b:Nat) (E:oh) (k:Int) (c:Int),eZ b E++[(ah k,ah c,b+E.length)]=eZ b (E++[(k,c)])
 | _,[],k,c=>rfl
 | b,(k',c') :: E,k,c=>by
  show (ah k',ah c',b) :: (eZ (b+1) E++_)=(ah k',ah c',b) :: eZ (b+1) (E++[(k,c)])
  rw [←C8 (b+1) E k c,List.length_cons,show b+1+E.length=b+(E.length+1) by omega]
theorem uA:∀ (b:Nat) (E:oh),oX (eZ b E)=some ((E.map (·.1)).map vI)
 | _,[]=>rfl
 | b,(k,c) :: E=>by
  unfold eZ oX
  rw [show (ah k).iu=some (vI k) from rfl,uA (b+1) E]
  rfl
theorem C9 (b:Bool) (k:Int) (E:oh):Cq TT b 3 (vI k) ((E.map (·.1)).map vI) (tu k E):=by
 have:=Ja b k (E.map (·.1))
 rw [List.findIdx?_map] at this
 exact this
theorem pL {key:Int} {E:oh} {i:Nat} (h:tu key E=some i):∃ x,E[i]?=some x∧x.1=key:=by
 unfold tu at h
 rw [List.findIdx?_eq_some_iff_getElem] at h
 obtain ⟨hi,h1,_⟩:=h
 exact ⟨E[i],List.getElem?_eq_getElem hi,(of_decide_eq_true h1).symm⟩
section
variable {own : Bool} {fr : Nat → AV} {hp : List AB} {K : AV → List AB → Prop} {m k v : Operand} {j : Nat} {key : Int} {E : oh}
theorem Fp (hm:aQ fr m=.om j) (hk:aQ fr k=ah key) (hj:hp[j]?=some (.map (eZ 0 E) E.length)) (hK:K (ah (mW key E)) hp) :
  RM.wpOp TT own (.lookup 192 m k false) fr hp K:=by
 show sQ TT 192 (aQ fr m) (aQ fr k) false hp K
 rw [hm,hk]
 refine ⟨_,_,_,vI key,3,vI 0,tu key E,hj,uA 0 E,rfl,by kernel_rfl,C9 _ key E,?_⟩
 cases h:tu key E with
 | none =>
  refine ⟨rfl,?_⟩
  unfold mW at hK
  rw [h] at hK
  exact hK
 | some i =>
  obtain ⟨x,hx,_⟩:=pL h
  refine ⟨_,pK 0 E i x hx,?_⟩
  unfold mW at hK
  simp only [h,hx] at hK
  exact hK
theorem Jc {n:Int} (hm:aQ fr m=.om j) (hk:aQ fr k=ah key) (hv:aQ fr v=ah n) (hj:hp[j]?=some (.map (eZ 0 E) E.length)) (hn:n=mW key E+1) (hK:K .cv (hp.set j (.map (eZ 0 (vz key E)) (vz key E).length))) :
  RM.wpOp TT own (.mapUpdate 192 m k v) fr hp K:=by
 show force (aQ fr v) fun v=>mw TT 192 (aQ fr m) (aQ fr k) v hp K
 rw [hm,hk,hv]
 refine ⟨_,_,_,vI key,3,some (vI 0),tu key E,hj,uA 0 E,rfl,by kernel_rfl,C9 _ key E,?_⟩
 unfold vz at hK
 cases h:tu key E with
 | none =>
  simp only [h] at hK
  rw [←C8 0 E key _,Nat.zero_add,List.length_append,←hn] at hK
  exact hK
 | some i =>
  obtain ⟨x,hx,hxk⟩:=pL h
  have hg:=pK 0 E i x hx
  simp only [h] at hK
  rw [←C7 0 E i key _,List.length_set,←hn] at hK
  refine ⟨_,hg,⟨vI x.1,rfl,by rw [hxk];exact Jb key⟩,hK⟩
end
theorem Da {k:Int} {E:oh} {x:Int × Int} (hx:x ∈ vz k E):x ∈ E∨x.1=k∧x.2=mW k E+1:=by
 unfold vz at hx
 split at hx
 ·rcases List.mem_or_eq_of_mem_set hx with h|rfl
  ·exact .inl h
  ·exact .inr ⟨rfl,rfl⟩
 ·rcases List.mem_append.1 hx with h|h
  ·exact .inl h
  ·rw [List.mem_singleton.1 h];exact .inr ⟨rfl,rfl⟩
theorem Db (k:Int) (E:oh):∃ x ∈ vz k E,x.1=k:=by
 unfold vz
 split
 ·rename_i i h
  obtain ⟨x,hx,_⟩:=pL h
  exact ⟨_,List.mem_set (List.getElem?_eq_some_iff.1 hx).1 _,rfl⟩
 ·exact ⟨_,List.mem_append_right _ List.mem_cons_self,rfl⟩
theorem Ef {k:Int} {E:oh} {x:Int × Int} (hx:x ∈ E):∃ y ∈ vz k E,y.1=x.1:=by
 by_cases hk:x.1=k
 ·rw [hk];exact Db k E
 ·unfold vz
  split
  ·rename_i i h
   obtain ⟨y,hy,hyk⟩:=pL h
   obtain ⟨j,hj⟩:=List.getElem?_of_mem hx
   have hne:i ≠ j:=fun e=>by
    rw [e,hj] at hy
    cases hy
    exact hk hyk
   exact ⟨x,List.mem_of_getElem? (by rw [List.getElem?_set_ne hne];exact hj),rfl⟩
  ·exact ⟨x,List.mem_append_left _ hx,rfl⟩
def Bk (E:oh) (n:Nat):Prop:=∀ x ∈ E,0≤x.2∧x.2≤n
theorem rF {E:oh} {n:Nat} (h:Bk E n) (k:Int):0≤mW k E∧mW k E≤n:=by
 unfold mW
 split
 ·rename_i i h'
  obtain ⟨x,hx,_⟩:=pL h'
  rw [hx]
  exact h x (List.mem_of_getElem? hx)
 ·omega
theorem Jd {E:oh} {n:Nat} (h:Bk E n) (k:Int):Bk (vz k E) (n+1):=by
 intro x hx
 rcases Da hx with h1|⟨_,h1⟩
 ·have:=h x h1;omega
 ·have:=rF h k;omega
end Go.Proofs.YtalcbebjpgfnfaaGreat
