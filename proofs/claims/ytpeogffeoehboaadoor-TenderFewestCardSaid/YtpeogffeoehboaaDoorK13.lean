/-
  Contracts of the program's functions and of the document's. Lemmas alone; their conditions stand in them.
-/
import Derived.Test.YtpeogffeoehboaaDoorA3
import Derived.Test.YtpeogffeoehboaaDoorA4
import Derived.Test.YtpeogffeoehboaaDoorK7
import Derived.Test.YtpeogffeoehboaaDoorK8
open Go Go.RM
namespace Go.Proofs.YtpeogffeoehboaaDoor
set_option maxRecDepth 100000
set_option maxHeartbeats 4000000
def eL (b x:gj):Bool :=
 if b.day - x.day ≠ 0 then decide (b.day - x.day < 0)
 else if b.need - x.need ≠ 0 then decide (b.need - x.need < 0)
 else if ((lA b.f:Nat):Int) - (lA x.f:Nat) ≠ 0 then decide (((lA b.f:Nat):Int) - (lA x.f:Nat) < 0)
 else decide (rR (aL b.f) (aL x.f) < 0)
def kG (s:ai) (p:List Order) (y:Nat):Option gj:=(jT s p y).map fun x=>⟨y,(x.1:Nat),x.2⟩
def dI (s:ai) (p:List Order) (best:Option gj) (y:Nat):Option gj:=match kG s p y with
 | none=>best
 | some b=>match best with
  | none=>some b
  | some x=>if eL b x=true then some b else some x
def kH (s:ai) (p:List Order) (L:List Nat):Option gj:=L.foldl (dI s p) none
theorem DE {s:ai} {p:List Order} {L:List Nat} {i y:Nat} (h:L[i]?=some y):kH s p (L.take (i+1))=dI s p (kH s p (L.take i)) y:=by
 unfold kH
 rw [List.take_add_one,h,List.foldl_append]
 rfl
theorem OL {s:ai} (_:Good s) {p:List Order} {y d:Nat} {n:Int} (h:jT s p y=some (d,n)):d < s.days.toNat∧0≤n∧n < s.needs.length∧n=zeroAt s p y d:=by
 unfold jT at h
 rw [Option.map_eq_some_iff] at h
 obtain ⟨d',h1,h2⟩:=h
 rw [List.find?_range_eq_some] at h1
 obtain ⟨q1,q2,_⟩:=h1
 simp only [Prod.mk.injEq] at h2
 obtain ⟨rfl,rfl⟩:=h2
 refine ⟨by simpa using q2,of_decide_eq_true q1,?_,rfl⟩
 have q1:=of_decide_eq_true q1
 unfold zeroAt ny at q1 ⊢
 cases hf:(EB s p y d').findIdx? fun x=>decide (0=x) with
 | none=>rw [hf] at q1;simp at q1
 | some i =>
  rw [List.findIdx?_eq_some_iff_getElem] at hf
  obtain ⟨hlt,_⟩:=hf
  rw [td] at hlt
  dsimp only
  omega
theorem Ca {s:ai} (hg:Good s) {p:List Order} {y:Nat} (hy:y < 256) {b:gj} (h:kG s p y=some b):b.Ok∧b.f=y:=by
 unfold kG at h
 rw [Option.map_eq_some_iff] at h
 obtain ⟨⟨d,n⟩,h1,rfl⟩:=h
 have:=OL hg h1
 have h2:=hg.days
 have h3:=hg.len
 exact ⟨⟨hy,⟨by dsimp only;omega,by dsimp only;omega⟩,⟨by dsimp only;omega,by dsimp only;omega⟩⟩,rfl⟩
theorem vL {s:ai} (hg:Good s) {p:List Order}:∀ (L:List Nat) (best:Option gj),(∀ y ∈ L,y < 256)→(∀ b,best=some b→b.Ok)→∀ b,L.foldl (dI s p) best=some b→b.Ok
 | [],best,_,hb,b,h=>hb b h
 | y :: L,best,hL,hb,b,h=>by
  refine vL hg L (dI s p best y) (fun z hz=>hL z (List.mem_cons_of_mem _ hz)) (fun c hc=>?_) b h
  unfold dI at hc
  cases ho:kG s p y with
  | none=>rw [ho] at hc;exact hb c hc
  | some d =>
   rw [ho] at hc
   have hd:=(Ca hg (hL y List.mem_cons_self) ho).1
   cases hbb:best with
   | none =>
    rw [hbb] at hc
    cases hc
    exact hd
   | some x =>
    rw [hbb] at hc
    dsimp only at hc
    split at hc
    ·cases hc;exact hd
    ·cases hc;exact hb _ hbb
theorem ep {T:bz} {t:TypeId} {hp:List AB} {K:AV→List AB→Prop} {o:BinOp} {x y:Operand} {a:AV} {j aB p:Nat} {b:Bool} (ha:a=.ptr j aB p) (ht:oR T.P t=true) (ho:gG o=some (.bool b,.none)) (k:K (.fl (.bool b)) hp):aJ T o t x y a (.fl (.pointer none)) hp K:=by
 subst ha
 exact ⟨ht,_,ho,k⟩
inductive RQ (P:Prop):Prop
 | is (h:P)
 | no (h:False)
def tq (s:ai) (p:List Order):Int:=if (cU s p).2 ≠ 0 then (cU s p).2 else if kH s p (nB s p)=none then 4 else 0
def je (s:ai) (p:List Order):AV:=if (cU s p).2 ≠ 0 then .tp [.fl (.slice none 0 0),aC 0,aC 0,aC (cU s p).2] else match kH s p (nB s p) with
 | none=>.tp [.fl (.slice none 0 0),aC 0,aC 0,aC 4]
 | some b=>.tp [.sl (ints (aL b.f)) false,aC b.day,aC b.need,aC 0]
theorem zP {s:ai} {p:List Order}:(je s p).deep=true:=by
 unfold je
 split
 ·rfl
 ·split <;> rfl
def mw (s:ai):Option gj→List AB
 | none=>[.cells (ay s) 0 0,.cells [.fl (.pointer none)] 0 0]
 | some b=>[.cells (ay s) 0 0,.cells [.ptr 2 0 0] 0 0,.cells (vR b) 0 0]
theorem FP {st:bF} {s:ai} {x b:gj} (h:st.hp=[.cells (ay s) 0 0,.cells [.ptr 3 0 0] 0 0,.cells (vR x) 0 0,.cells (vR b) 0 0]) (hf:st.fl≤2):ak st ⟨bu [],mw s (some b),st.aE,st.rd,st.fl⟩:=by
 refine ak.trans (ak.QC (l:=[]) 2 3 (x:=.cells (vR b) 0 0) (y:=.cells (vR x) 0 0) (hp:=[.cells (ay s) 0 0,.cells [.ptr 2 0 0] 0 0,.cells (vR b) 0 0,.gone]) (by decide) (by rw [h];rfl) (by rw [h];rfl) hf (by omega) trivial (by rw [h];rfl) (fun z hz=>?_) rfl (fun i z z' h1 h2 hz hz'=>?_)) (ak.to (l:=[]) 3 rfl trivial (by show st.fl≤3;omega) rfl rfl)
 ·cases hz
  exact .same rfl rfl
 ·rw [h] at hz
  match i,h1,h2 with
  | 0,_,_ =>
   cases hz;cases hz'
   exact .same rfl rfl
  | 1,_,_ =>
   cases hz;cases hz'
   refine .cells rfl fun i v w hv hw=>?_
   match i with
   | 0=>cases hv;cases hw;exact .ptr
   | i+1=>cases hv
  | i+4,_,_=>cases hz
theorem QD {b x:gj} (h:b.day - x.day ≠ 0):eL b x=decide (b.day - x.day < 0):=by unfold eL;rw [if_pos h]
theorem QE {b x:gj} (h:b.day - x.day=0) (h2:b.need - x.need ≠ 0):eL b x=decide (b.need - x.need < 0):=by unfold eL;rw [if_neg (by omega),if_pos h2]
theorem QF {b x:gj} (h:b.day - x.day=0) (h2:b.need - x.need=0) (h3:((lA b.f:Nat):Int) - (lA x.f:Nat) ≠ 0):eL b x=decide (((lA b.f:Nat):Int) - (lA x.f:Nat) < 0):=by unfold eL;rw [if_neg (by omega),if_neg (by omega),if_pos h3]
theorem MH {b x:gj} (h:b.day - x.day=0) (h2:b.need - x.need=0) (h3:((lA b.f:Nat):Int) - (lA x.f:Nat)=0):eL b x=decide (rR (aL b.f) (aL x.f) < 0):=by unfold eL;rw [if_neg (by omega),if_neg (by omega),if_neg (by omega)]
def zQ (b x:gj):Nat→Int
 | 0=>b.day - x.day
 | 1=>b.need - x.need
 | 2=>((lA b.f:Nat):Int) - (lA x.f:Nat)
 | _=>rR (aL b.f) (aL x.f)
theorem JS {b x:gj}:∀ k,k < 4→(∀ j,j < k→zQ b x j=0)→zQ b x k ≠ 0→eL b x=decide (zQ b x k < 0)
 | 0,_,_,h=>QD h
 | 1,_,hz,h=>QE (hz 0 (by decide)) h
 | 2,_,hz,h=>QF (hz 0 (by decide)) (hz 1 (by decide)) h
 | 3,_,hz,_=>MH (hz 0 (by decide)) (hz 1 (by decide)) (hz 2 (by decide))
theorem FQ {b x:gj} (hz:∀ j,j < 4→zQ b x j=0):eL b x=false:=by
 have h3:rR (aL b.f) (aL x.f)=0:=hz 3 (by decide)
 rw [MH (hz 0 (by decide)) (hz 1 (by decide)) (hz 2 (by decide)),h3]
 rfl
theorem K7 (one:Bool) {b x:gj} (hb:b.Ok) (hx:x.Ok):∀ k:Nat,k < 4→∃ F:FuncId,([[.fn 57 [] []],[.fn 58 [] []],[.fn 59 [] []],[.fn 60 [] []]]:List (List AV))[((k:Nat):Int).toNat]?=some [.fn F [] []]∧Pu one F [.ag (vR b),.ag (vR x)] (aC (zQ b x k))
 | 0,_=>⟨57,rfl,KY one hb hx⟩
 | 1,_=>⟨58,rfl,JG one hb hx⟩
 | 2,_=>⟨59,rfl,JH one hb hx⟩
 | 3,_=>⟨60,rfl,JI one hb hx⟩
noncomputable def FR:Code→Code
 | .seq _ b=>b
 | c=>c
noncomputable def Q9:Code→Code
 | .seq a _=>a
 | c=>c
noncomputable def Ra:Code→Code
 | .block _ (.rangeFunc _ _ _ b)=>b
 | c=>c
noncomputable def QG:Code:=FR (FR (FR (FR (Tryd.f25.body.getD .skip))))
noncomputable def Rb:Code:=FR QG
noncomputable def OM:Code:=Ra (FR (Q9 QG))
def OO:Option gj→AV
 | none=>.tp [.fl (.slice none 0 0),aC 0,aC 0,aC 4]
 | some b=>.tp [.sl (ints (aL b.f)) false,aC b.day,aC b.need,aC 0]
theorem JT (one:Bool) (s:ai) (best:Option gj) (hbok:∀ b,best=some b→b.Ok):aA TT TB one Rb ⟨bu [(9,.ptr 1 0 0)],mw s best,bR.none,false,0⟩ (Qe TT Tryd.f25.results.toList (OO best)):=by
 cases best with
 | none =>
  refine aa (mu:=fun _=>false) ?_
  repeat' (first |refine u1 ?_ |refine u2 ?_ |fail)
  exact ⟨[_,_,_,_],⟨Fz.deep rfl,Fz.deep rfl,Fz.deep rfl,Fz.deep rfl,trivial⟩,rfl⟩
 | some b =>
  have hb:=hbok b rfl
  have ol:=zI true hb.1
  refine RM.dH (mu:=fun _=>false) ?_
  repeat' (first |refine u1 ?_ |(refine ep rfl (by kernel_rfl) rfl ?_) |refine u2 ?_ |fail)
  refine aA.seq ?_
  refine aA.QA (mu:=fun _=>false) rfl rfl ?_
  repeat' (first |(refine RM.RP ?_) |refine u1 ?_ |(refine ⟨_,ol,?_⟩) |refine u2 ?_ |fail)
  refine aa (mu:=fun _=>false) ?_
  repeat' (first |refine u1 ?_ |refine u2 ?_ |fail)
  exact ⟨[_,_,_,_],⟨Fz.deep rfl,Fz.deep rfl,Fz.deep rfl,Fz.deep rfl,trivial⟩,rfl⟩
theorem OP (one:Bool) {s:ai} {p:List Order} {full:Bool} {y:Nat} {best:Option gj} (ob:Pu one 54 [.ag (ay s),.sl (p.map az) full,fU y] (.tp [.ag [fU 0,aC 0,aC 0],BB false])) {K:Exit→bF→Prop} (hK:∀ st,ak st ⟨bu [],mw s best,bR.none,st.rd,st.fl⟩→K .normal st) :
  aA TT TB one OM ⟨bu [(3,.pt [.sl (p.map az) full] 0),(8,.ptr 0 0 0),(9,.ptr 1 0 0),(10,fU y)],mw s best,bR.none,true,2⟩ K:=by
 cases best with
 | none =>
  refine aA.block ?_
  refine aa (mu:=fun _=>false) ?_
  repeat' (first |refine u1 ?_ |((with_reducible show av _ _ _ _ _ _ _ _);refine ah.call ob rfl rfl ?_) |refine u2 ?_ |fail)
  exact hK _ (ak.to (l:=[]) 2 rfl trivial (Nat.le_of_ble_eq_true rfl) rfl rfl)
 | some x =>
  refine aA.block ?_
  refine aa (mu:=fun _=>false) ?_
  repeat' (first |refine u1 ?_ |((with_reducible show av _ _ _ _ _ _ _ _);refine ah.call ob rfl rfl ?_) |refine u2 ?_ |fail)
  exact hK _ (ak.to (l:=[]) 3 rfl trivial (Nat.le_of_ble_eq_true rfl) rfl rfl)
theorem FT (one:Bool) {s:ai} {p:List Order} {full:Bool} {y d:Nat} {n:Int} (ob:Pu one 54 [.ag (ay s),.sl (p.map az) full,fU y] (.tp [.ag [fU y,aC (d:Nat),aC n],BB true])) {K:Exit→bF→Prop} (hK:∀ st,ak st ⟨bu [],mw s (some (⟨y,((d:Nat):Int),n⟩:gj)),bR.none,st.rd,st.fl⟩→K .normal st) :
  aA TT TB one OM ⟨bu [(3,.pt [.sl (p.map az) full] 0),(8,.ptr 0 0 0),(9,.ptr 1 0 0),(10,fU y)],mw s none,bR.none,true,2⟩ K:=by
 refine aA.block ?_
 refine RM.dH (mu:=fun _=>false) ?_
 repeat' (first |refine u1 ?_ |((with_reducible show av _ _ _ _ _ _ _ _);refine ah.call ob rfl rfl ?_) |refine u2 ?_ |fail)
 refine RM.dH (mu:=fun _=>false) ?_
 repeat' (first |refine u1 ?_ |refine u2 ?_ |fail)
 refine RM.dH (mu:=fun _=>false) ?_
 repeat' (first |refine u1 ?_ |refine u2 ?_ |fail)
 refine aA.aU (ak.to (l:=[(3,.pt [.sl (p.map az) full] 0),(8,.ptr 0 0 0),(9,.ptr 1 0 0),(11,.ptr 2 0 0),(43,.sl [[.fn 57 [] []],[.fn 58 [] []],[.fn 59 [] []],[.fn 60 [] []]] true),(44,aC 4),(45,aC (0:Nat))]) (hp:=[.cells (ay s) 0 0,.cells [.fl (.pointer none)] 0 0,.cells (vR (⟨y,((d:Nat):Int),n⟩:gj)) 0 0]) 3 rfl ⟨rfl,rfl,rfl,rfl,rfl,rfl,rfl,trivial⟩ (Nat.le_of_ble_eq_true rfl) rfl rfl) ?_
 refine aA.block ?_
 refine aA.loop (fun k:Nat=>k=0) (fun k=>⟨bu [(3,.pt [.sl (p.map az) full] 0),(8,.ptr 0 0 0),(9,.ptr 1 0 0),(11,.ptr 2 0 0),(43,.sl [[.fn 57 [] []],[.fn 58 [] []],[.fn 59 [] []],[.fn 60 [] []]] true),(44,aC 4),(45,aC (k:Nat))],[.cells (ay s) 0 0,.cells [.fl (.pointer none)] 0 0,.cells (vR (⟨y,((d:Nat):Int),n⟩:gj)) 0 0],bR.none,true,2⟩) (fun k=>k) ?_ 0 rfl
 rintro k rfl
 have e1:decide ((-1:Int) < 0)=true:=by decide
 have e2:(!decide ((-1:Int)=0))=true:=by decide
 have e3:decide (((0:Nat):Int) < 4)=true:=by decide
 refine aa (mu:=fun _=>false) ?_
 repeat' (first |refine u1 ?_ |(refine ⟨[.fn 57 [] []],⟨by omega,rfl⟩,rfl,?_⟩) |refine u2 ?_ |fail)
 exact hK _ (ak.to (l:=[]) 3 rfl trivial (Nat.le_of_ble_eq_true rfl) rfl rfl)
theorem JU (one:Bool) {s:ai} {p:List Order} {full:Bool} {y d:Nat} {n:Int} {x:gj} (hok:(⟨y,((d:Nat):Int),n⟩:gj).Ok) (hx:x.Ok) (ob:Pu one 54 [.ag (ay s),.sl (p.map az) full,fU y] (.tp [.ag [fU y,aC (d:Nat),aC n],BB true])) {K:Exit→bF→Prop} (hK:∀ st,ak st ⟨bu [],mw s (if eL (⟨y,((d:Nat):Int),n⟩:gj) x=true then some (⟨y,((d:Nat):Int),n⟩:gj) else some x),bR.none,st.rd,st.fl⟩→K .normal st) :
  aA TT TB one OM ⟨bu [(3,.pt [.sl (p.map az) full] 0),(8,.ptr 0 0 0),(9,.ptr 1 0 0),(10,fU y)],mw s (some x),bR.none,true,2⟩ K:=by
 have hcs:=K7 one hok hx
 have hls:=JS (b:=(⟨y,((d:Nat):Int),n⟩:gj)) (x:=x)
 have hl0:=FQ (b:=(⟨y,((d:Nat):Int),n⟩:gj)) (x:=x)
 have hnew:∀ r:gj,(if eL (⟨y,((d:Nat):Int),n⟩:gj) x=true then some (⟨y,((d:Nat):Int),n⟩:gj) else some x)=some r→(eL (⟨y,((d:Nat):Int),n⟩:gj) x=true∧r=(⟨y,((d:Nat):Int),n⟩:gj))∨(eL (⟨y,((d:Nat):Int),n⟩:gj) x=false∧r=x):=fun r h=>by
  cases hl:eL (⟨y,((d:Nat):Int),n⟩:gj) x with
  | true=>rw [hl,if_pos rfl] at h;exact .inl ⟨rfl,(Option.some.inj h).symm⟩
  | false=>rw [hl,if_neg (by simp)] at h;exact .inr ⟨rfl,(Option.some.inj h).symm⟩
 obtain ⟨r,hr⟩:∃ r,(if eL (⟨y,((d:Nat):Int),n⟩:gj) x=true then some (⟨y,((d:Nat):Int),n⟩:gj) else some x)=some r:=by
  cases eL (⟨y,((d:Nat):Int),n⟩:gj) x with
  | true=>exact ⟨_,rfl⟩
  | false=>exact ⟨_,rfl⟩
 have hrr:=hnew r hr
 rw [hr] at hK
 clear hr
 clear hnew hok hx
 refine aA.block ?_
 refine RM.dH (mu:=fun _=>false) ?_
 repeat' (first |refine u1 ?_ |((with_reducible show av _ _ _ _ _ _ _ _);refine ah.call ob rfl rfl ?_) |refine u2 ?_ |fail)
 refine RM.dH (mu:=fun _=>false) ?_
 repeat' (first |refine u1 ?_ |refine u2 ?_ |fail)
 refine RM.dH (mu:=fun _=>false) ?_
 repeat' (first |refine u1 ?_ |refine u2 ?_ |fail)
 refine aA.aU (ak.to (l:=[(3,.pt [.sl (p.map az) full] 0),(8,.ptr 0 0 0),(9,.ptr 1 0 0),(11,.ptr 3 0 0),(43,.sl [[.fn 57 [] []],[.fn 58 [] []],[.fn 59 [] []],[.fn 60 [] []]] true),(44,aC 4),(45,aC (0:Nat))]) (hp:=[.cells (ay s) 0 0,.cells [.ptr 2 0 0] 0 0,.cells (vR x) 0 0,.cells (vR (⟨y,((d:Nat):Int),n⟩:gj)) 0 0]) 4 rfl ⟨rfl,rfl,rfl,rfl,rfl,rfl,rfl,trivial⟩ (Nat.le_of_ble_eq_true rfl) rfl rfl) ?_
 refine aA.block ?_
 clear ob
 refine aA.loop (fun k:Nat=>k≤4∧∀ j,j < k→zQ (⟨y,((d:Nat):Int),n⟩:gj) x j=0) (fun k=>⟨bu [(3,.pt [.sl (p.map az) full] 0),(8,.ptr 0 0 0),(9,.ptr 1 0 0),(11,.ptr 3 0 0),(43,.sl [[.fn 57 [] []],[.fn 58 [] []],[.fn 59 [] []],[.fn 60 [] []]] true),(44,aC 4),(45,aC (k:Nat))],[.cells (ay s) 0 0,.cells [.ptr 2 0 0] 0 0,.cells (vR x) 0 0,.cells (vR (⟨y,((d:Nat):Int),n⟩:gj)) 0 0],bR.none,true,2⟩) (fun k=>4 - k) ?_ 0 ⟨Nat.zero_le _,fun j hj=>absurd hj (Nat.not_lt_zero _)⟩
 rintro k ⟨hk,hz⟩
 refine aa (mu:=fun _=>false) ?_
 by_cases hk4:k < 4
 ·have e3:decide ((k:Int) < 4)=true:=decide_eq_true (by omega)
  obtain ⟨F,hF,q⟩:=hcs k hk4
  have hls:=hls k hk4 hz
  have hz1:zQ (⟨y,((d:Nat):Int),n⟩:gj) x k=0→∀ j,j < k+1→zQ (⟨y,((d:Nat):Int),n⟩:gj) x j=0:=fun h j hj=>by
   by_cases e:j=k
   ·subst e;exact h
   ·exact hz j (by omega)
  clear hz hcs hl0
  generalize zQ (⟨y,((d:Nat):Int),n⟩:gj) x k=w at q hls hz1
  by_cases z:w=0
  ·subst z
   have e0:(!decide ((0:Int)=0))=false:=by decide
   have e9:decide ((0:Int) < 0)=false:=by decide
   have hz2:=hz1 rfl
   clear hls hz1 hrr
   repeat' (first |(refine RM.c5 (c:=5) (l1:=[_,_,_,_,_]) (l2:=[_,_]) (by kernel_rfl) rfl rfl ?_) |(refine ep rfl (by kernel_rfl) rfl ?_) |((with_reducible show av _ _ _ _ _ _ _ _);refine ah.call q rfl rfl ?_) |refine u1 ?_ |(refine ⟨[.fn F [] []],⟨by omega,hF⟩,rfl,?_⟩) |refine u2 ?_ |fail)
   exact ⟨k+1,⟨by omega,hz2⟩,(by dsimp only;omega),ak.to 4 rfl ⟨rfl,rfl,rfl,rfl,rfl,rfl,bM (by simp),trivial⟩ (Nat.le_of_ble_eq_true rfl) rfl rfl⟩
  ·have e2:(!decide (w=0))=true:=by rw [decide_eq_false z];rfl
   have hls:=hls z
   by_cases hn:w < 0
   ·have e1:=decide_eq_true hn
    rw [e1] at hls
    obtain ⟨_,rfl⟩:eL (⟨y,((d:Nat):Int),n⟩:gj) x=true∧r=(⟨y,((d:Nat):Int),n⟩:gj):=hrr.elim id (fun h=>by rw [hls] at h;cases h.1)
    clear hls hz1 hrr
    repeat' (first |(refine RM.c5 (c:=5) (l1:=[_,_,_,_,_]) (l2:=[_,_]) (by kernel_rfl) rfl rfl ?_) |(refine ep rfl (by kernel_rfl) rfl ?_) |((with_reducible show av _ _ _ _ _ _ _ _);refine ah.call q rfl rfl ?_) |refine u1 ?_ |(refine ⟨[.fn F [] []],⟨by omega,hF⟩,rfl,?_⟩) |refine u2 ?_ |fail)
    exact hK _ (FP rfl (Nat.le_refl _))
   ·have e1:=decide_eq_false hn
    rw [e1] at hls
    obtain ⟨_,rfl⟩:eL (⟨y,((d:Nat):Int),n⟩:gj) x=false∧r=x:=hrr.elim (fun h=>by rw [hls] at h;cases h.1) id
    clear hls hz1 hrr
    repeat' (first |(refine RM.c5 (c:=5) (l1:=[_,_,_,_,_]) (l2:=[_,_]) (by kernel_rfl) rfl rfl ?_) |(refine ep rfl (by kernel_rfl) rfl ?_) |((with_reducible show av _ _ _ _ _ _ _ _);refine ah.call q rfl rfl ?_) |refine u1 ?_ |(refine ⟨[.fn F [] []],⟨by omega,hF⟩,rfl,?_⟩) |refine u2 ?_ |fail)
    exact hK _ (ak.to (l:=[]) 3 rfl trivial (Nat.le_of_ble_eq_true rfl) rfl rfl)
 ·have e3:decide ((k:Int) < 4)=false:=decide_eq_false (by omega)
  have hls:=hl0 fun j hj=>hz j (by omega)
  obtain ⟨_,rfl⟩:eL (⟨y,((d:Nat):Int),n⟩:gj) x=false∧r=x:=hrr.elim (fun h=>by rw [hls] at h;cases h.1) id
  repeat' (first |refine u1 ?_ |(refine RM.c5 (c:=5) (l1:=[_,_,_,_,_]) (l2:=[_,_]) (by kernel_rfl) rfl rfl ?_) |refine u2 ?_ |fail)
  exact hK _ (ak.to (l:=[]) 3 rfl trivial (Nat.le_of_ble_eq_true rfl) rfl rfl)
theorem DF (one:Bool) (s:ai) (hs:s.Ok) (p:List Order) (full:Bool) (hp:Ob p):Pu one 25 [.ag (ay s),.sl (p.map az) full] (je s p):=by
 have o1:=Oc one s hs p full hp
 by_cases c1:(cU s p).2=0
 ·have hpg:=jJ c1
  have hg:=hpg.good
  have hfail:=hg.fail
  have p8:=hpg.len
  rw [c1] at o1
  generalize (cU s p).1=a at *
  have ep':((p.map az).length:Int)=p.length:=by simp
  have o2:Pu one 56 [.ag (ay s),aC ((p.map az).length:Int),aC 0,fU 0,aC s.fail] (Jx s (p.length:Nat) ((0:Nat):Int) s.fail 0):=by
   rw [ep'];exact xT one s _ _ _ _
  have hgen:=xU one hg p.length 0 0 s.fail p8 (Nat.zero_le _) (by decide) (by omega)
  have hz1:(!decide ((0:Int)=0))=false:=by decide
  have hval:je s p=match kH s p (nB s p) with
   | none=>.tp [.fl (.slice none 0 0),aC 0,aC 0,aC 4]
   | some b=>.tp [.sl (ints (aL b.f)) false,aC b.day,aC b.need,aC 0]:=by unfold je;rw [if_neg (by omega)]
  have hdp:=zP (s:=s) (p:=p)
  obtain ⟨L,hL⟩:∃ L,L=nB s p:=⟨_,rfl⟩
  have hgen:Bs TT TB one (Jx s (p.length:Nat) ((0:Nat):Int) s.fail 0) (L.map fun x=>[fU x]):=by rw [hL];exact hgen
  have hlt:∀ y ∈ L,y < 256:=fun y hy=>by
   rw [hL] at hy
   have e:s.fail=((s.fail.toNat:Nat):Int):=by omega
   unfold nB at hy
   rw [e] at hy
   exact Nat.lt_of_lt_of_le (EC hg (Nat.zero_le _) (by decide) hy) (show 2 ^ p.length≤2 ^ 8 from Nat.pow_le_pow_right (by decide) p8)
  rw [←hL] at hval
  clear hL
  refine ah.body (fn:=Tryd.f25) rfl rfl rfl hdp ?_
  rw [hval]
  refine RM.dH (mu:=fun _=>false) ?_
  repeat' (first |refine u1 ?_ |refine u2 ?_ |fail)
  refine RM.dH (mu:=fun _=>false) ?_
  repeat' (first |refine u1 ?_ |((with_reducible show av _ _ _ _ _ _ _ _);refine ah.call o1 rfl rfl ?_) |refine u2 ?_ |fail)
  refine RM.dH (mu:=fun _=>false) ?_
  repeat' (first |refine u1 ?_ |refine u2 ?_ |fail)
  refine RM.dH (mu:=fun _=>false) ?_
  repeat' (first |refine u1 ?_ |refine u2 ?_ |fail)
  refine aA.seq ?_
  refine RM.dH (mu:=fun _=>false) ?_
  repeat' (first |refine u1 ?_ |((with_reducible show av _ _ _ _ _ _ _ _);refine ah.call o2 rfl rfl ?_) |refine u2 ?_ |fail)
  refine aA.block ?_
  refine aA.range (fun i=>mw s (kH s p (L.take i))) (fun _=>bR.none) (fun _=>True) rfl hgen rfl rfl trivial (fun i x hx _=>?_) (fun _=>?_)
  ·obtain ⟨y,hy,rfl⟩:∃ y,L[i]?=some y∧x=[fU y]:=by
    rw [List.getElem?_map,Option.map_eq_some_iff] at hx
    obtain ⟨y,h1,h2⟩:=hx
    exact ⟨y,h1,h2.symm⟩
   have hy256:=hlt y (List.mem_of_getElem? hy)
   have hnx:=DE (s:=s) (p:=p) hy
   have hbok:=fun b h=>vL hg (p:=p) (L.take i) none (fun z hz=>hlt z (List.mem_of_mem_take hz)) (fun _ h=>nomatch h) b h
   have ob:=vC one hpg full y (by omega)
   unfold vB at ob
   refine ⟨rfl,?_⟩
   dsimp only
   rw [hnx]
   change ∀ b,kH s p (L.take i)=some b→b.Ok at hbok
   generalize kH s p (L.take i)=best at *
   refine aa (mu:=fun _=>false) ?_
   repeat' (first |refine u1 ?_ |refine u2 ?_ |fail)
   refine aA.aU (ak.soft (l:=[(3,.pt [.sl (p.map az) full] 0),(8,.ptr 0 0 0),(9,.ptr 1 0 0),(10,fU y)]) ⟨cw.refl _,cw.refl _,cw.refl _,cw.refl _,trivial⟩) ?_
   cases hb:jT s p y with
   | none =>
    have hbo:kG s p y=none:=by unfold kG;rw [hb];rfl
    rw [hb] at ob
    exact OP one ob (fun st h=>by first|exact ⟨_,by first|exact h|(unfold dI;rw [hbo];dsimp only;exact h)⟩|exact ⟨trivial,_,by first|exact h|(unfold dI;rw [hbo];dsimp only;exact h)⟩)
   | some v =>
    obtain ⟨d,n⟩:=v
    have hbo:kG s p y=some ⟨y,(d:Nat),n⟩:=by unfold kG;rw [hb];rfl
    have hok:=(Ca hg hy256 hbo).1
    rw [hb] at ob
    cases best with
    | none=>exact FT one ob (fun st h=>by first|exact ⟨_,by first|exact h|(unfold dI;rw [hbo];dsimp only;exact h)⟩|exact ⟨trivial,_,by first|exact h|(unfold dI;rw [hbo];dsimp only;exact h)⟩)
    | some x=>exact JU one hok (hbok x rfl) ob (fun st h=>by first|exact ⟨_,by first|exact h|(unfold dI;rw [hbo];dsimp only;exact h)⟩|exact ⟨trivial,_,by first|exact h|(unfold dI;rw [hbo];dsimp only;exact h)⟩)
  ·have htl:L.take (L.map fun x=>[fU x]).length=L:=List.take_of_length_le (by rw [List.length_map];exact Nat.le_refl _)
   rw [htl]
   clear htl
   have hbok:=fun b h=>vL hg (p:=p) L none hlt (fun _ h=>nomatch h) b h
   have tl:=JT one s (kH s p L) hbok
   repeat' (first |refine u1 ?_ |refine u2 ?_ |fail)
   refine aA.aU (ak.soft (l:=[(9,.ptr 1 0 0)]) ⟨cw.refl _,trivial⟩) ?_
   exact tl
 ·have hval:je s p=.tp [.fl (.slice none 0 0),aC 0,aC 0,aC (cU s p).2]:=by unfold je;rw [if_pos c1]
  rw [hval]
  generalize (cU s p).1=a at *
  generalize (cU s p).2=b at *
  have d1:(!decide (b=0))=true:=by rw [decide_eq_false c1];rfl
  refine ah.body (fn:=Tryd.f25) rfl rfl rfl rfl ?_
  refine aa (mu:=fun _=>false) ?_
  repeat' (first |refine u1 ?_ |((with_reducible show av _ _ _ _ _ _ _ _);refine ah.call o1 rfl rfl ?_) |refine u2 ?_ |fail)
  exact ⟨[_,_,_,_],⟨Fz.deep rfl,Fz.deep rfl,Fz.deep rfl,Fz.deep rfl,trivial⟩,rfl⟩
end Go.Proofs.YtpeogffeoehboaaDoor
open Go Go.RM
namespace Go.Proofs.YtpeogffeoehboaaDoor
set_option maxRecDepth 100000
set_option maxHeartbeats 4000000
def iR (s:ai) (p:List Order):Bool:=decide (tq s p=4)
theorem DG {s:ai} {p:List Order}:∃ a b c,je s p=.tp [a,aC b,aC c,aC (tq s p)]∧a.deep=true∧(a=.fl (.slice none 0 0)∨∃ l,a=.sl (ints l) false):=by
 unfold je tq
 by_cases h:(cU s p).2=0
 ·rw [if_neg (by omega),if_neg (by omega)]
  cases kH s p (nB s p) with
  | none=>exact ⟨_,_,_,rfl,rfl,.inl rfl⟩
  | some b=>exact ⟨_,_,_,rfl,rfl,.inr ⟨_,rfl⟩⟩
 ·rw [if_pos h,if_pos h]
  exact ⟨_,_,_,rfl,rfl,.inl rfl⟩
theorem x8 (one:Bool) (s:ai) (hs:s.Ok) (p:List Order) (full:Bool) (hp:Ob p):Pu one 37 [.ag (ay s),.sl (p.map az) full] (BB (iR s p)):=by
 have o1:=DF one s hs p full hp
 obtain ⟨a,b,c,e,h1,h2⟩:=DG (s:=s) (p:=p)
 rw [e] at o1
 refine ah.body (fn:=Tryd.f37) rfl rfl rfl rfl ?_
 rcases h2 with rfl|⟨l,rfl⟩
 ·refine aa (mu:=fun _=>false) ?_
  repeat' (first |refine u1 ?_ |((with_reducible show av _ _ _ _ _ _ _ _);refine ah.call o1 rfl rfl ?_) |refine u2 ?_ |fail)
  exact ⟨[_],⟨Fz.deep rfl,trivial⟩,rfl⟩
 ·refine aa (mu:=fun _=>false) ?_
  repeat' (first |refine u1 ?_ |((with_reducible show av _ _ _ _ _ _ _ _);refine ah.call o1 rfl rfl ?_) |refine u2 ?_ |fail)
  exact ⟨[_],⟨Fz.deep rfl,trivial⟩,rfl⟩
end Go.Proofs.YtpeogffeoehboaaDoor
open Go Go.RM
namespace Go.Proofs.YtpeogffeoehboaaDoor
set_option maxRecDepth 100000
end Go.Proofs.YtpeogffeoehboaaDoor
open Go Go.RM
namespace Go.Proofs.YtpeogffeoehboaaDoor
set_option maxRecDepth 100000
theorem JV {s:ai} (hg:Good s) {k most y:Nat}:y ∈ qE s k 0 0 (most:Int) ↔ ∃ b:List Bool,b.length=k∧TeLaw.cnt b≤most∧TeLaw.sI s.row.toNat 0 b=true∧BP 0 0 b=y:=by
 rw [zG hg,List.mem_map]
 constructor
 ·rintro ⟨b,hb,rfl⟩
  obtain ⟨h1,h2,h3⟩:=TeLaw.gA.1 hb
  exact ⟨b,h1,h2,h3,rfl⟩
 ·rintro ⟨b,h1,h2,h3,rfl⟩
  exact ⟨b,TeLaw.gA.2 ⟨h1,h2,h3⟩,rfl⟩
def kI (a b:Int × Int):Prop:=a.1 < b.1∨(a.1=b.1∧a.2≤b.2)
theorem kI.refl (a:Int × Int):kI a a:=.inr ⟨rfl,Int.le_refl _⟩
theorem kI.trans {a b c:Int × Int} (h:kI a b) (k:kI b c):kI a c:=by unfold kI at *;omega
def gj.key (b:gj):Int × Int:=(b.day,b.need)
theorem FU {b x:gj} (h:eL b x=true):kI b.key x.key:=by
 unfold eL at h
 unfold kI gj.key
 dsimp only
 split at h
 ·have:=of_decide_eq_true h;omega
 ·split at h
  ·have:=of_decide_eq_true h;omega
  ·omega
theorem DH {b x:gj} (h:eL b x=false):kI x.key b.key:=by
 unfold eL at h
 unfold kI gj.key
 dsimp only
 split at h
 ·have:=of_decide_eq_false h;omega
 ·split at h
  ·have:=of_decide_eq_false h;omega
  ·omega
theorem pH {s:ai} {p:List Order}:∀ (L:List Nat) (o:Option gj),(L.foldl (dI s p) o=none→o=none∧∀ y ∈ L,kG s p y=none) ∧
  ∀ b,L.foldl (dI s p) o=some b→(o=some b∨∃ y ∈ L,kG s p y=some b)∧(∀ x,o=some x→kI b.key x.key)∧∀ y ∈ L,∀ c,kG s p y=some c→kI b.key c.key
 | [],o=>⟨fun h=>⟨h,fun y hy=>by cases hy⟩,fun b h=>⟨.inl h,fun x hx=>by have h:o=some b:=h;rw [h] at hx;cases hx;exact kI.refl _,fun y hy=>by cases hy⟩⟩
 | y :: L,o=>by
  obtain ⟨h1,h2⟩:=pH (s:=s) (p:=p) L (dI s p o y)
  rw [List.foldl_cons]
  unfold dI at h1 h2 ⊢
  cases hy:kG s p y with
  | none =>
   rw [hy] at h1 h2
   dsimp only at h1 h2 ⊢
   refine ⟨fun h=>⟨(h1 h).1,fun z hz=>?_⟩,fun b h=>?_⟩
   ·rcases List.mem_cons.1 hz with rfl|hz
    ·exact hy
    ·exact (h1 h).2 z hz
   ·obtain ⟨q1,q2,q3⟩:=h2 b h
    refine ⟨q1.imp id fun ⟨z,hz,e⟩=>⟨z,List.mem_cons_of_mem _ hz,e⟩,q2,fun z hz c hc=>?_⟩
    rcases List.mem_cons.1 hz with rfl|hz
    ·rw [hy] at hc;cases hc
    ·exact q3 z hz c hc
  | some d =>
   rw [hy] at h1 h2
   cases o with
   | none =>
    dsimp only at h1 h2 ⊢
    refine ⟨fun h=>((nomatch (h1 h).1)),fun b h=>?_⟩
    obtain ⟨q1,q2,q3⟩:=h2 b h
    refine ⟨.inr ?_,fun x hx=>(nomatch hx),fun z hz c hc=>?_⟩
    ·rcases q1 with q1|⟨z,hz,e⟩
     ·cases q1;exact ⟨y,List.mem_cons_self,hy⟩
     ·exact ⟨z,List.mem_cons_of_mem _ hz,e⟩
    ·rcases List.mem_cons.1 hz with rfl|hz
     ·rw [hy] at hc;cases hc;exact q2 _ rfl
     ·exact q3 z hz c hc
   | some x =>
    dsimp only at h1 h2 ⊢
    cases hl:eL d x with
    | true =>
     rw [hl,if_pos rfl] at h1 h2
     rw [if_pos rfl]
     refine ⟨fun h=>((nomatch (h1 h).1)),fun b h=>?_⟩
     obtain ⟨q1,q2,q3⟩:=h2 b h
     refine ⟨.inr ?_,fun z hz=>?_,fun z hz c hc=>?_⟩
     ·rcases q1 with q1|⟨z,hz,e⟩
      ·cases q1;exact ⟨y,List.mem_cons_self,hy⟩
      ·exact ⟨z,List.mem_cons_of_mem _ hz,e⟩
     ·cases hz;exact (q2 _ rfl).trans (FU hl)
     ·rcases List.mem_cons.1 hz with rfl|hz
      ·rw [hy] at hc;cases hc;exact q2 _ rfl
      ·exact q3 z hz c hc
    | false =>
     rw [hl,if_neg (by simp)] at h1 h2
     rw [if_neg (by simp)]
     refine ⟨fun h=>((nomatch (h1 h).1)),fun b h=>?_⟩
     obtain ⟨q1,q2,q3⟩:=h2 b h
     refine ⟨q1.imp id fun ⟨z,hz,e⟩=>⟨z,List.mem_cons_of_mem _ hz,e⟩,fun z hz=>q2 z hz,fun z hz c hc=>?_⟩
     rcases List.mem_cons.1 hz with rfl|hz
     ·rw [hy] at hc;cases hc;exact (q2 _ rfl).trans (DH hl)
     ·exact q3 z hz c hc
theorem vM {s:ai} {p:List Order} {y:Nat}:kG s p y=none ↔ jT s p y=none:=by unfold kG;rw [Option.map_eq_none_iff]
theorem FV {s:ai} {p:List Order} {L:List Nat}:kH s p L=none ↔ ∀ y ∈ L,jT s p y=none:=by
 constructor
 ·exact fun h y hy=>vM.1 (((pH L none).1 h).2 y hy)
 ·intro h
  cases hb:kH s p L with
  | none=>rfl
  | some b =>
   rcases ((pH L none).2 b hb).1 with e|⟨y,hy,e⟩
   ·cases e
   ·rw [vM.2 (h y hy)] at e;cases e
theorem Cb {s:ai} {p:List Order} {most:Int}:eR s p 0 0 most=true ↔ kH s p (qE s p.length 0 0 most)=none:=by
 rw [FV]
 unfold eR
 rw [List.all_eq_true]
 exact ⟨fun h y hy=>Option.isNone_iff_eq_none.1 (h y hy),fun h y hy=>Option.isNone_iff_eq_none.2 (h y hy)⟩
end Go.Proofs.YtpeogffeoehboaaDoor
