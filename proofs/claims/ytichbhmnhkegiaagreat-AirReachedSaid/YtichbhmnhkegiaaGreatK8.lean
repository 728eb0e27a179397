/-
  Contracts of the program's functions and of the document's. Lemmas alone; their conditions stand in them.
-/
import Derived.Test.YtichbhmnhkegiaaGreatA3
import Derived.Test.YtichbhmnhkegiaaGreatK2
import Derived.Test.YtichbhmnhkegiaaGreatK7
open Go Go.RM Go.AirLaw
namespace Go.Proofs.YtichbhmnhkegiaaGreat
set_option maxRecDepth 100000
set_option maxHeartbeats 4000000
theorem yU (one:Bool) (a b:List Int) (f g:Bool) (ha:a.length≤1000) (hb:b.length≤1000):Pu one 135 [.sl (a.map eI) f,.sl (b.map eI) g] (ai (gG a b)):=by
 have ea:((a.map eI).length:Int)=a.length:=by simp
 have eb:((b.map eI).length:Int)=b.length:=by simp
 refine af.body (fn:=Tryz.f135) rfl rfl rfl rfl ?_
 refine aa (mu:=fun _=>false) ?_
 repeat' (first |refine u1 ?_ |fail)
 refine ax.aK (ah.to (l:=[(0,.sl (a.map eI) f),(1,.sl (b.map eI) g),(9,.sl (a.map eI) f),(10,ai ((a.map eI).length:Int)),(11,ai (0:Nat))]) (hp:=[]) 0 rfl ⟨rfl,rfl,rfl,rfl,rfl,trivial⟩ (Nat.zero_le _) rfl rfl) ?_
 refine ax.loop (fun j:Nat=>(j≤a.length∧j≤b.length)∧gG a b=gG (a.drop j) (b.drop j)) (fun j=>⟨aF [(0,.sl (a.map eI) f),(1,.sl (b.map eI) g),(9,.sl (a.map eI) f),(10,ai ((a.map eI).length:Int)),(11,ai (j:Nat))],[],aV.none,false,0⟩) (fun j=>a.length - j) ?_ 0 ⟨⟨Nat.zero_le _,Nat.zero_le _⟩,rfl⟩
 rintro j ⟨⟨hj,hjb⟩,hcm⟩
 refine aa (mu:=fun _=>false) ?_
 repeat' (first |refine u1 ?_ |fail)
 refine RM.e1 rfl ⟨fun hc=>?_,fun hc=>?_⟩
 ·have hlt:j < a.length:=by simpa only [ea,decide_eq_true_eq,Int.ofNat_lt] using hc
  have hda:=List.drop_eq_getElem_cons hlt
  have hata:(a.map eI)[((j:Nat):Int).toNat]?=some (eI a[j]):=bO hlt
  by_cases hl2:j < b.length
  ·have d1:decide (((b.map eI).length:Int)≤(j:Int))=false:=decide_eq_false (by omega)
   have hdb:=List.drop_eq_getElem_cons hl2
   have hatb:(b.map eI)[((j:Nat):Int).toNat]?=some (eI b[j]):=bO hl2
   have hcc:=EV one a[j] b[j]
   rw [hda,hdb,iZ] at hcm
   by_cases h0:ek a[j] b[j]=0
   ·have d2:(!decide (ek a[j] b[j]=0))=false:=by simpa using h0
    rw [if_pos h0] at hcm
    repeat' (first |refine u1 ?_ |fail)
    exact ⟨j+1,⟨⟨hlt,hl2⟩,hcm⟩,(by dsimp only;omega),ah.to 0 rfl ⟨rfl,rfl,rfl,rfl,aR (by simp),trivial⟩ (Nat.zero_le _) rfl rfl⟩
   ·have d2:(!decide (ek a[j] b[j]=0))=true:=by simpa using h0
    rw [if_neg h0] at hcm
    rw [hcm]
    repeat' (first |refine u1 ?_ |fail)
    exact ⟨[_],⟨Fz.deep rfl,trivial⟩,rfl⟩
  ·have d1:decide (((b.map eI).length:Int)≤(j:Int))=true:=decide_eq_true (by omega)
   rw [hda,List.drop_eq_nil_of_le (by omega:b.length≤j),nA] at hcm
   rw [hcm]
   repeat' (first |refine u1 ?_ |fail)
   exact ⟨[_],⟨Fz.deep rfl,trivial⟩,rfl⟩
 ·have hjl:j=a.length:=by rw [ea,decide_eq_false_iff_not] at hc;omega
  subst hjl
  rw [List.drop_length] at hcm
  by_cases hl2:a.length < b.length
  ·have d1:decide (((a.map eI).length:Int) < ((b.map eI).length:Int))=true:=decide_eq_true (by omega)
   rw [List.drop_eq_getElem_cons hl2,sE] at hcm
   rw [hcm]
   repeat' (first |refine u1 ?_ |fail)
   exact ⟨[_],⟨Fz.deep rfl,trivial⟩,rfl⟩
  ·have d1:decide (((a.map eI).length:Int) < ((b.map eI).length:Int))=false:=decide_eq_false (by omega)
   rw [List.drop_eq_nil_of_le (by omega:b.length≤a.length),sF] at hcm
   rw [hcm]
   repeat' (first |refine u1 ?_ |fail)
   exact ⟨[_],⟨Fz.deep rfl,trivial⟩,rfl⟩
theorem L4 (one:Bool) (a b:Int):Pu one 134 [.sl [eI a,eI b] true] (ai (if a ≠ 0 then a else b)):=by
 refine af.body (fn:=Tryz.f134) rfl rfl rfl rfl ?_
 refine aa (mu:=fun _=>false) ?_
 repeat' (first |refine u1 ?_ |fail)
 refine ax.aK (ah.to (l:=[(3,ai 0),(6,.sl [eI a,eI b] true),(7,ai 2),(8,ai (0:Nat))]) (hp:=[]) 0 rfl ⟨rfl,rfl,rfl,rfl,trivial⟩ (Nat.zero_le _) rfl rfl) ?_
 refine ax.loop (fun j:Nat=>j≤2∧(1≤j→a=0)∧(2≤j→b=0)) (fun j=>⟨aF [(3,ai 0),(6,.sl [eI a,eI b] true),(7,ai 2),(8,ai (j:Nat))],[],aV.none,false,0⟩) (fun j=>2 - j) ?_ 0 ⟨by decide,fun h=>absurd h (by decide),fun h=>absurd h (by decide)⟩
 rintro j ⟨hj,h1,h2⟩
 refine aa (mu:=fun _=>false) ?_
 match j,hj with
 | 0,_ =>
  have hat:[eI a,eI b][((0:Nat):Int).toNat]?=some (eI a):=rfl
  by_cases h0:a=0
  ·have d:(!decide (a=0))=false:=by rw [decide_eq_true h0];rfl
   repeat' (first |refine u1 ?_ |fail)
   exact ⟨1,⟨by decide,fun _=>h0,fun h=>absurd h (by decide)⟩,(by decide),ah.to 0 rfl ⟨rfl,rfl,rfl,rfl,trivial⟩ (Nat.zero_le _) rfl rfl⟩
  ·have d:(!decide (a=0))=true:=by rw [decide_eq_false h0];rfl
   rw [if_pos h0]
   repeat' (first |refine u1 ?_ |fail)
   exact ⟨[_],⟨Fz.deep rfl,trivial⟩,rfl⟩
 | 1,_ =>
  have hat:[eI a,eI b][((1:Nat):Int).toNat]?=some (eI b):=rfl
  rw [if_neg (fun h=>h (h1 (by decide)))]
  by_cases h0:b=0
  ·have d:(!decide (b=0))=false:=by rw [decide_eq_true h0];rfl
   repeat' (first |refine u1 ?_ |fail)
   exact ⟨2,⟨by decide,fun _=>h1 (by decide),fun _=>h0⟩,(by decide),ah.to 0 rfl ⟨rfl,rfl,rfl,rfl,trivial⟩ (Nat.zero_le _) rfl rfl⟩
  ·have d:(!decide (b=0))=true:=by rw [decide_eq_false h0];rfl
   repeat' (first |refine u1 ?_ |fail)
   exact ⟨[_],⟨Fz.deep rfl,trivial⟩,rfl⟩
 | 2,_ =>
  rw [if_neg (fun h=>h (h1 (by decide)))]
  repeat' (first |refine u1 ?_ |fail)
  exact ⟨[_],⟨Fz.deep rfl,trivial⟩,by rw [h2 (by decide)];rfl⟩
abbrev oL:=List (Int × Int)
def sL (k:Int) (E:oL):Option Nat:=E.findIdx? fun x=>decide (k=x.1)
def l5 (k:Int) (E:oL):Int:=match sL k E with
 | some i=>match E[i]? with|some x=>x.2|none=>0
 | none=>0
def uX (k:Int) (E:oL):oL:=match sL k E with
 | some i=>E.set i (k,l5 k E+1)
 | none=>E++[(k,l5 k E+1)]
def dZ:Nat→oL→List (AV × AV × Nat)
 | _,[]=>[]
 | b,(k,c) :: E=>(ai k,ai c,b) :: dZ (b+1) E
theorem oM:∀ (b:Nat) (E:oL) (i:Nat) (x:Int × Int),E[i]?=some x→(dZ b E)[i]?=some (ai x.1,ai x.2,b+i)
 | _,[],i,x,h=>by cases h
 | b,(k,c) :: E,0,x,h=>by cases h;rfl
 | b,(k,c) :: E,i+1,x,h=>by
  unfold dZ
  rw [List.getElem?_cons_succ] at h ⊢
  rw [oM (b+1) E i x h,show b+1+i=b+(i+1) by omega]
theorem Cy:∀ (b:Nat) (E:oL) (i:Nat) (k:Int) (c:Int),(dZ b E).set i (ai k,ai c,b+i)=dZ b (E.set i (k,c))
 | _,[],i,k,c=>rfl
 | b,(k',c') :: E,0,k,c=>rfl
 | b,(k',c') :: E,i+1,k,c=>by
  show (ai k',ai c',b) :: (dZ (b+1) E).set i _=(ai k',ai c',b) :: dZ (b+1) (E.set i (k,c))
  rw [←Cy (b+1) E i k c,show b+1+i=b+(i+1) by omega]
theorem Cz:∀ (b:Nat) (E:oL) (k:Int) (c:Int),dZ b E++[(ai k,ai c,b+E.length)]=dZ b (E++[(k,c)])
 | _,[],k,c=>rfl
 | b,(k',c') :: E,k,c=>by
  show (ai k',ai c',b) :: (dZ (b+1) E++_)=(ai k',ai c',b) :: dZ (b+1) (E++[(k,c)])
  rw [←Cz (b+1) E k c,List.length_cons,show b+1+E.length=b+(E.length+1) by omega]
theorem tT:∀ (b:Nat) (E:oL),oD (dZ b E)=some ((E.map (·.1)).map vI)
 | _,[]=>rfl
 | b,(k,c) :: E=>by
  unfold dZ oD
  rw [show (ai k).gq=some (vI k) from rfl,tT (b+1) E]
  rfl
theorem CA (b:Bool) (k:Int) (E:oL):Ca TT b 3 (vI k) ((E.map (·.1)).map vI) (sL k E):=by
 have:=HY b k (E.map (·.1))
 rw [List.findIdx?_map] at this
 exact this
theorem oN {key:Int} {E:oL} {i:Nat} (h:sL key E=some i):∃ x,E[i]?=some x∧x.1=key:=by
 unfold sL at h
 rw [List.findIdx?_eq_some_iff_getElem] at h
 obtain ⟨hi,h1,_⟩:=h
 exact ⟨E[i],List.getElem?_eq_getElem hi,(of_decide_eq_true h1).symm⟩
section
variable {own : Bool} {fr : Nat → AV} {hp : List AB} {K : AV → List AB → Prop} {m k v : Operand} {j : Nat} {key : Int} {E : oL}
theorem E9 (hm:aM fr m=.om j) (hk:aM fr k=ai key) (hj:hp[j]?=some (.map (dZ 0 E) E.length)) (hK:K (ai (l5 key E)) hp) :
  RM.wpOp TT own (.lookup 188 m k false) fr hp K:=by
 show sk TT 188 (aM fr m) (aM fr k) false hp K
 rw [hm,hk]
 refine ⟨_,_,_,vI key,3,vI 0,sL key E,hj,tT 0 E,rfl,by kernel_rfl,CA _ key E,?_⟩
 cases h:sL key E with
 | none =>
  refine ⟨rfl,?_⟩
  unfold l5 at hK
  rw [h] at hK
  exact hK
 | some i =>
  obtain ⟨x,hx,_⟩:=oN h
  refine ⟨_,oM 0 E i x hx,?_⟩
  unfold l5 at hK
  simp only [h,hx] at hK
  exact hK
theorem H6 {n:Int} (hm:aM fr m=.om j) (hk:aM fr k=ai key) (hv:aM fr v=ai n) (hj:hp[j]?=some (.map (dZ 0 E) E.length)) (hn:n=l5 key E+1) (hK:K .bT (hp.set j (.map (dZ 0 (uX key E)) (uX key E).length))) :
  RM.wpOp TT own (.mapUpdate 188 m k v) fr hp K:=by
 show force (aM fr v) fun v=>lH TT 188 (aM fr m) (aM fr k) v hp K
 rw [hm,hk,hv]
 refine ⟨_,_,_,vI key,3,some (vI 0),sL key E,hj,tT 0 E,rfl,by kernel_rfl,CA _ key E,?_⟩
 unfold uX at hK
 cases h:sL key E with
 | none =>
  simp only [h] at hK
  rw [←Cz 0 E key _,Nat.zero_add,List.length_append,←hn] at hK
  exact hK
 | some i =>
  obtain ⟨x,hx,hxk⟩:=oN h
  have hg:=oM 0 E i x hx
  simp only [h] at hK
  rw [←Cy 0 E i key _,List.length_set,←hn] at hK
  refine ⟨_,hg,⟨vI x.1,rfl,by rw [hxk];exact HZ key⟩,hK⟩
end
theorem CB {k:Int} {E:oL} {x:Int × Int} (hx:x ∈ uX k E):x ∈ E∨x.1=k∧x.2=l5 k E+1:=by
 unfold uX at hx
 split at hx
 ·rcases List.mem_or_eq_of_mem_set hx with h|rfl
  ·exact .inl h
  ·exact .inr ⟨rfl,rfl⟩
 ·rcases List.mem_append.1 hx with h|h
  ·exact .inl h
  ·rw [List.mem_singleton.1 h];exact .inr ⟨rfl,rfl⟩
theorem CC (k:Int) (E:oL):∃ x ∈ uX k E,x.1=k:=by
 unfold uX
 split
 ·rename_i i h
  obtain ⟨x,hx,_⟩:=oN h
  exact ⟨_,List.mem_set (List.getElem?_eq_some_iff.1 hx).1 _,rfl⟩
 ·exact ⟨_,List.mem_append_right _ List.mem_cons_self,rfl⟩
theorem D0 {k:Int} {E:oL} {x:Int × Int} (hx:x ∈ E):∃ y ∈ uX k E,y.1=x.1:=by
 by_cases hk:x.1=k
 ·rw [hk];exact CC k E
 ·unfold uX
  split
  ·rename_i i h
   obtain ⟨y,hy,hyk⟩:=oN h
   obtain ⟨j,hj⟩:=List.getElem?_of_mem hx
   have hne:i ≠ j:=fun e=>by
    rw [e,hj] at hy
    cases hy
    exact hk hyk
   exact ⟨x,List.mem_of_getElem? (by rw [List.getElem?_set_ne hne];exact hj),rfl⟩
  ·exact ⟨x,List.mem_append_left _ hx,rfl⟩
def AH (E:oL) (n:Nat):Prop:=∀ x ∈ E,0≤x.2∧x.2≤n
theorem qM {E:oL} {n:Nat} (h:AH E n) (k:Int):0≤l5 k E∧l5 k E≤n:=by
 unfold l5
 split
 ·rename_i i h'
  obtain ⟨x,hx,_⟩:=oN h'
  rw [hx]
  exact h x (List.mem_of_getElem? hx)
 ·omega
theorem H7 {E:oL} {n:Nat} (h:AH E n) (k:Int):AH (uX k E) (n+1):=by
 intro x hx
 rcases CB hx with h1|⟨_,h1⟩
 ·have:=h x h1;omega
 ·have:=qM h k;omega
end Go.Proofs.YtichbhmnhkegiaaGreat
