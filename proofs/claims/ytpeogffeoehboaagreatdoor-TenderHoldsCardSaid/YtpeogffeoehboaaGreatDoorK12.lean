/-
  Contracts of the program's functions and of the document's. Lemmas alone; their conditions stand in them.
-/
import Derived.Test.YtpeogffeoehboaaGreatDoorA3
import Derived.Test.YtpeogffeoehboaaGreatDoorK7
import Derived.Test.YtpeogffeoehboaaGreatDoorK9
import Derived.Test.YtpeogffeoehboaaGreatDoorK11
open Go Go.RM
namespace Go.Proofs.YtpeogffeoehboaaGreatDoor
set_option maxRecDepth 100000
set_option maxHeartbeats 4000000
def eu (b x:fB):Bool :=
 if b.day - x.day ≠ 0 then decide (b.day - x.day < 0)
 else if b.need - x.need ≠ 0 then decide (b.need - x.need < 0)
 else if ((jZ b.f:Nat):Int) - (jZ x.f:Nat) ≠ 0 then decide (((jZ b.f:Nat):Int) - (jZ x.f:Nat) < 0)
 else decide (iY (bp b.f) (bp x.f) < 0)
def iM (s:au) (p:List Order) (y:Nat):Option fB:=(gj s p y).map fun x=>⟨y,(x.1:Nat),x.2⟩
def cu (s:au) (p:List Order) (best:Option fB) (y:Nat):Option fB:=match iM s p y with
 | none=>best
 | some b=>match best with
  | none=>some b
  | some x=>if eu b x=true then some b else some x
def lM (s:au) (p:List Order) (L:List Nat):Option fB:=L.foldl (cu s p) none
theorem Dn {s:au} {p:List Order} {L:List Nat} {i y:Nat} (h:L[i]?=some y):lM s p (L.take (i+1))=cu s p (lM s p (L.take i)) y:=by
 unfold lM
 rw [List.take_add_one,h,List.foldl_append]
 rfl
theorem N9 {s:au} (_:Good s) {p:List Order} {y d:Nat} {n:Int} (h:gj s p y=some (d,n)):d < s.days.toNat∧0≤n∧n < s.needs.length∧n=zeroAt s p y d:=by
 unfold gj at h
 rw [Option.map_eq_some_iff] at h
 obtain ⟨d',h1,h2⟩:=h
 rw [List.find?_range_eq_some] at h1
 obtain ⟨q1,q2,_⟩:=h1
 simp only [Prod.mk.injEq] at h2
 obtain ⟨rfl,rfl⟩:=h2
 refine ⟨by simpa using q2,of_decide_eq_true q1,?_,rfl⟩
 have q1:=of_decide_eq_true q1
 unfold zeroAt rW at q1 ⊢
 cases hf:(gQ s p y d').findIdx? fun x=>decide (0=x) with
 | none=>rw [hf] at q1;simp at q1
 | some i =>
  rw [List.findIdx?_eq_some_iff_getElem] at hf
  obtain ⟨hlt,_⟩:=hf
  rw [jn] at hlt
  dsimp only
  omega
theorem B4 {s:au} (hg:Good s) {p:List Order} {y:Nat} (hy:y < 256) {b:fB} (h:iM s p y=some b):b.Ok∧b.f=y:=by
 unfold iM at h
 rw [Option.map_eq_some_iff] at h
 obtain ⟨⟨d,n⟩,h1,rfl⟩:=h
 have:=N9 hg h1
 have h2:=hg.days
 have h3:=hg.len
 exact ⟨⟨hy,⟨by dsimp only;omega,by dsimp only;omega⟩,⟨by dsimp only;omega,by dsimp only;omega⟩⟩,rfl⟩
theorem vT {s:au} (hg:Good s) {p:List Order}:∀ (L:List Nat) (best:Option fB),(∀ y ∈ L,y < 256)→(∀ b,best=some b→b.Ok)→∀ b,L.foldl (cu s p) best=some b→b.Ok
 | [],best,_,hb,b,h=>hb b h
 | y :: L,best,hL,hb,b,h=>by
  refine vT hg L (cu s p best y) (fun z hz=>hL z (List.mem_cons_of_mem _ hz)) (fun c hc=>?_) b h
  unfold cu at hc
  cases ho:iM s p y with
  | none=>rw [ho] at hc;exact hb c hc
  | some d =>
   rw [ho] at hc
   have hd:=(B4 hg (hL y List.mem_cons_self) ho).1
   cases hbb:best with
   | none =>
    rw [hbb] at hc
    cases hc
    exact hd
   | some x =>
    rw [hbb] at hc
    dsimp only at hc
    split at hc
    ·cases hc;exact hd
    ·cases hc;exact hb _ hbb
theorem ep {T:bz} {t:TypeId} {hp:List AB} {K:AV→List AB→Prop} {o:BinOp} {x y:Operand} {a:AV} {j aC p:Nat} {b:Bool} (ha:a=.ptr j aC p) (ht:oZ T.P t=true) (ho:gS o=some (.bool b,.none)) (k:K (.fl (.bool b)) hp):aT T o t x y a (.fl (.pointer none)) hp K:=by
 subst ha
 exact ⟨ht,_,ho,k⟩
inductive Q0 (P:Prop):Prop
 | is (h:P)
 | no (h:False)
def iz (s:au) (p:List Order):AV:=if (cz s p).2 ≠ 0 then .tp [.fl (.slice none 0 0),aA 0,aA 0,aA (cz s p).2] else match lM s p (jY s p) with
 | none=>.tp [.fl (.slice none 0 0),aA 0,aA 0,aA 4]
 | some b=>.tp [.sl (ints (bp b.f)) false,aA b.day,aA b.need,aA 0]
theorem zW {s:au} {p:List Order}:(iz s p).deep=true:=by
 unfold iz
 split
 ·rfl
 ·split <;> rfl
def mD (s:au):Option fB→List AB
 | none=>[.cells (ak s) 0 0,.cells [.fl (.pointer none)] 0 0]
 | some b=>[.cells (ak s) 0 0,.cells [.ptr 2 0 0] 0 0,.cells (wv b) 0 0]
theorem Fe {st:bI} {s:au} {x b:fB} (h:st.hp=[.cells (ak s) 0 0,.cells [.ptr 3 0 0] 0 0,.cells (wv x) 0 0,.cells (wv b) 0 0]) (hf:st.fl≤2):ai st ⟨aS [],mD s (some b),st.aF,st.rd,st.fl⟩:=by
 refine ai.trans (ai.PZ (l:=[]) 2 3 (x:=.cells (wv b) 0 0) (y:=.cells (wv x) 0 0) (hp:=[.cells (ak s) 0 0,.cells [.ptr 2 0 0] 0 0,.cells (wv b) 0 0,.gone]) (by decide) (by rw [h];rfl) (by rw [h];rfl) hf (by omega) trivial (by rw [h];rfl) (fun z hz=>?_) rfl (fun i z z' h1 h2 hz hz'=>?_)) (ai.to (l:=[]) 3 rfl trivial (by show st.fl≤3;omega) rfl rfl)
 ·cases hz
  exact .same rfl rfl
 ·rw [h] at hz
  match i,h1,h2 with
  | 0,_,_ =>
   cases hz;cases hz'
   exact .same rfl rfl
  | 1,_,_ =>
   cases hz;cases hz'
   refine .cells rfl fun i v w hv hw=>?_
   match i with
   | 0=>cases hv;cases hw;exact .ptr
   | i+1=>cases hv
  | i+4,_,_=>cases hz
theorem P1 {b x:fB} (h:b.day - x.day ≠ 0):eu b x=decide (b.day - x.day < 0):=by unfold eu;rw [if_pos h]
theorem P3 {b x:fB} (h:b.day - x.day=0) (h2:b.need - x.need ≠ 0):eu b x=decide (b.need - x.need < 0):=by unfold eu;rw [if_neg (by omega),if_pos h2]
theorem P4 {b x:fB} (h:b.day - x.day=0) (h2:b.need - x.need=0) (h3:((jZ b.f:Nat):Int) - (jZ x.f:Nat) ≠ 0):eu b x=decide (((jZ b.f:Nat):Int) - (jZ x.f:Nat) < 0):=by unfold eu;rw [if_neg (by omega),if_neg (by omega),if_pos h3]
theorem Mo {b x:fB} (h:b.day - x.day=0) (h2:b.need - x.need=0) (h3:((jZ b.f:Nat):Int) - (jZ x.f:Nat)=0):eu b x=decide (iY (bp b.f) (bp x.f) < 0):=by unfold eu;rw [if_neg (by omega),if_neg (by omega),if_neg (by omega)]
def zX (b x:fB):Nat→Int
 | 0=>b.day - x.day
 | 1=>b.need - x.need
 | 2=>((jZ b.f:Nat):Int) - (jZ x.f:Nat)
 | _=>iY (bp b.f) (bp x.f)
theorem Jz {b x:fB}:∀ k,k < 4→(∀ j,j < k→zX b x j=0)→zX b x k ≠ 0→eu b x=decide (zX b x k < 0)
 | 0,_,_,h=>P1 h
 | 1,_,hz,h=>P3 (hz 0 (by decide)) h
 | 2,_,hz,h=>P4 (hz 0 (by decide)) (hz 1 (by decide)) h
 | 3,_,hz,_=>Mo (hz 0 (by decide)) (hz 1 (by decide)) (hz 2 (by decide))
theorem Ff {b x:fB} (hz:∀ j,j < 4→zX b x j=0):eu b x=false:=by
 have h3:iY (bp b.f) (bp x.f)=0:=hz 3 (by decide)
 rw [Mo (hz 0 (by decide)) (hz 1 (by decide)) (hz 2 (by decide)),h3]
 rfl
theorem KT (one:Bool) {b x:fB} (hb:b.Ok) (hx:x.Ok):∀ k:Nat,k < 4→∃ F:FuncId,([[.fn 23 [] []],[.fn 24 [] []],[.fn 25 [] []],[.fn 26 [] []]]:List (List AV))[((k:Nat):Int).toNat]?=some [.fn F [] []]∧Pu one F [.ag (wv b),.ag (wv x)] (aA (zX b x k))
 | 0,_=>⟨23,rfl,KP one hb hx⟩
 | 1,_=>⟨24,rfl,Jw one hb hx⟩
 | 2,_=>⟨25,rfl,Jx one hb hx⟩
 | 3,_=>⟨26,rfl,Jy one hb hx⟩
noncomputable def Fg:Code→Code
 | .seq _ b=>b
 | c=>c
noncomputable def Qo:Code→Code
 | .seq a _=>a
 | c=>c
noncomputable def Qp:Code→Code
 | .block _ (.rangeFunc _ _ _ b)=>b
 | c=>c
noncomputable def P5:Code:=Fg (Fg (Fg (Fg (Tryz.f5.body.getD .skip))))
noncomputable def Qq:Code:=Fg P5
noncomputable def Oa:Code:=Qp (Fg (Qo P5))
def Ob:Option fB→AV
 | none=>.tp [.fl (.slice none 0 0),aA 0,aA 0,aA 4]
 | some b=>.tp [.sl (ints (bp b.f)) false,aA b.day,aA b.need,aA 0]
theorem JA (one:Bool) (s:au) (best:Option fB) (hbok:∀ b,best=some b→b.Ok):aB TT TB one Qq ⟨aS [(9,.ptr 1 0 0)],mD s best,bJ.none,false,0⟩ (PD TT Tryz.f5.results.toList (Ob best)):=by
 cases best with
 | none =>
  refine aa (mu:=fun _=>false) ?_
  repeat' (first |refine u1 ?_ |refine u2 ?_ |fail)
  exact ⟨[_,_,_,_],⟨Fz.deep rfl,Fz.deep rfl,Fz.deep rfl,Fz.deep rfl,trivial⟩,rfl⟩
 | some b =>
  have hb:=hbok b rfl
  have ol:=Dl true hb.1
  refine RM.cv (mu:=fun _=>false) ?_
  repeat' (first |refine u1 ?_ |(refine ep rfl (by kernel_rfl) rfl ?_) |refine u2 ?_ |fail)
  refine aB.seq ?_
  refine aB.P0 (mu:=fun _=>false) rfl rfl ?_
  repeat' (first |(refine RM.QZ ?_) |refine u1 ?_ |(refine ⟨_,ol,?_⟩) |refine u2 ?_ |fail)
  refine aa (mu:=fun _=>false) ?_
  repeat' (first |refine u1 ?_ |refine u2 ?_ |fail)
  exact ⟨[_,_,_,_],⟨Fz.deep rfl,Fz.deep rfl,Fz.deep rfl,Fz.deep rfl,trivial⟩,rfl⟩
theorem Oc (one:Bool) {s:au} {p:List Order} {full:Bool} {y:Nat} {best:Option fB} (ob:Pu one 22 [.ag (ak s),.sl (p.map ay) full,fP y] (.tp [.ag [fP 0,aA 0,aA 0],BB false])) {K:Exit→bI→Prop} (hK:∀ st,ai st ⟨aS [],mD s best,bJ.none,st.rd,st.fl⟩→K .normal st) :
  aB TT TB one Oa ⟨aS [(3,.pt [.sl (p.map ay) full] 0),(8,.ptr 0 0 0),(9,.ptr 1 0 0),(10,fP y)],mD s best,bJ.none,true,2⟩ K:=by
 cases best with
 | none =>
  refine aB.block ?_
  refine aa (mu:=fun _=>false) ?_
  repeat' (first |refine u1 ?_ |((with_reducible show ax _ _ _ _ _ _ _ _);refine ah.call ob rfl rfl ?_) |refine u2 ?_ |fail)
  exact hK _ (ai.to (l:=[]) 2 rfl trivial (Nat.le_of_ble_eq_true rfl) rfl rfl)
 | some x =>
  refine aB.block ?_
  refine aa (mu:=fun _=>false) ?_
  repeat' (first |refine u1 ?_ |((with_reducible show ax _ _ _ _ _ _ _ _);refine ah.call ob rfl rfl ?_) |refine u2 ?_ |fail)
  exact hK _ (ai.to (l:=[]) 3 rfl trivial (Nat.le_of_ble_eq_true rfl) rfl rfl)
theorem Fh (one:Bool) {s:au} {p:List Order} {full:Bool} {y d:Nat} {n:Int} (ob:Pu one 22 [.ag (ak s),.sl (p.map ay) full,fP y] (.tp [.ag [fP y,aA (d:Nat),aA n],BB true])) {K:Exit→bI→Prop} (hK:∀ st,ai st ⟨aS [],mD s (some (⟨y,((d:Nat):Int),n⟩:fB)),bJ.none,st.rd,st.fl⟩→K .normal st) :
  aB TT TB one Oa ⟨aS [(3,.pt [.sl (p.map ay) full] 0),(8,.ptr 0 0 0),(9,.ptr 1 0 0),(10,fP y)],mD s none,bJ.none,true,2⟩ K:=by
 refine aB.block ?_
 refine RM.cv (mu:=fun _=>false) ?_
 repeat' (first |refine u1 ?_ |((with_reducible show ax _ _ _ _ _ _ _ _);refine ah.call ob rfl rfl ?_) |refine u2 ?_ |fail)
 refine RM.cv (mu:=fun _=>false) ?_
 repeat' (first |refine u1 ?_ |refine u2 ?_ |fail)
 refine RM.cv (mu:=fun _=>false) ?_
 repeat' (first |refine u1 ?_ |refine u2 ?_ |fail)
 refine aB.aJ (ai.to (l:=[(3,.pt [.sl (p.map ay) full] 0),(8,.ptr 0 0 0),(9,.ptr 1 0 0),(11,.ptr 2 0 0),(43,.sl [[.fn 23 [] []],[.fn 24 [] []],[.fn 25 [] []],[.fn 26 [] []]] true),(44,aA 4),(45,aA (0:Nat))]) (hp:=[.cells (ak s) 0 0,.cells [.fl (.pointer none)] 0 0,.cells (wv (⟨y,((d:Nat):Int),n⟩:fB)) 0 0]) 3 rfl ⟨rfl,rfl,rfl,rfl,rfl,rfl,rfl,trivial⟩ (Nat.le_of_ble_eq_true rfl) rfl rfl) ?_
 refine aB.block ?_
 refine aB.loop (fun k:Nat=>k=0) (fun k=>⟨aS [(3,.pt [.sl (p.map ay) full] 0),(8,.ptr 0 0 0),(9,.ptr 1 0 0),(11,.ptr 2 0 0),(43,.sl [[.fn 23 [] []],[.fn 24 [] []],[.fn 25 [] []],[.fn 26 [] []]] true),(44,aA 4),(45,aA (k:Nat))],[.cells (ak s) 0 0,.cells [.fl (.pointer none)] 0 0,.cells (wv (⟨y,((d:Nat):Int),n⟩:fB)) 0 0],bJ.none,true,2⟩) (fun k=>k) ?_ 0 rfl
 rintro k rfl
 have e1:decide ((-1:Int) < 0)=true:=by decide
 have e2:(!decide ((-1:Int)=0))=true:=by decide
 have e3:decide (((0:Nat):Int) < 4)=true:=by decide
 refine aa (mu:=fun _=>false) ?_
 repeat' (first |refine u1 ?_ |(refine ⟨[.fn 23 [] []],⟨by omega,rfl⟩,rfl,?_⟩) |refine u2 ?_ |fail)
 exact hK _ (ai.to (l:=[]) 3 rfl trivial (Nat.le_of_ble_eq_true rfl) rfl rfl)
theorem JB (one:Bool) {s:au} {p:List Order} {full:Bool} {y d:Nat} {n:Int} {x:fB} (hok:(⟨y,((d:Nat):Int),n⟩:fB).Ok) (hx:x.Ok) (ob:Pu one 22 [.ag (ak s),.sl (p.map ay) full,fP y] (.tp [.ag [fP y,aA (d:Nat),aA n],BB true])) {K:Exit→bI→Prop} (hK:∀ st,ai st ⟨aS [],mD s (if eu (⟨y,((d:Nat):Int),n⟩:fB) x=true then some (⟨y,((d:Nat):Int),n⟩:fB) else some x),bJ.none,st.rd,st.fl⟩→K .normal st) :
  aB TT TB one Oa ⟨aS [(3,.pt [.sl (p.map ay) full] 0),(8,.ptr 0 0 0),(9,.ptr 1 0 0),(10,fP y)],mD s (some x),bJ.none,true,2⟩ K:=by
 have hcs:=KT one hok hx
 have hls:=Jz (b:=(⟨y,((d:Nat):Int),n⟩:fB)) (x:=x)
 have hl0:=Ff (b:=(⟨y,((d:Nat):Int),n⟩:fB)) (x:=x)
 have hnew:∀ r:fB,(if eu (⟨y,((d:Nat):Int),n⟩:fB) x=true then some (⟨y,((d:Nat):Int),n⟩:fB) else some x)=some r→(eu (⟨y,((d:Nat):Int),n⟩:fB) x=true∧r=(⟨y,((d:Nat):Int),n⟩:fB))∨(eu (⟨y,((d:Nat):Int),n⟩:fB) x=false∧r=x):=fun r h=>by
  cases hl:eu (⟨y,((d:Nat):Int),n⟩:fB) x with
  | true=>rw [hl,if_pos rfl] at h;exact .inl ⟨rfl,(Option.some.inj h).symm⟩
  | false=>rw [hl,if_neg (by simp)] at h;exact .inr ⟨rfl,(Option.some.inj h).symm⟩
 obtain ⟨r,hr⟩:∃ r,(if eu (⟨y,((d:Nat):Int),n⟩:fB) x=true then some (⟨y,((d:Nat):Int),n⟩:fB) else some x)=some r:=by
  cases eu (⟨y,((d:Nat):Int),n⟩:fB) x with
  | true=>exact ⟨_,rfl⟩
  | false=>exact ⟨_,rfl⟩
 have hrr:=hnew r hr
 rw [hr] at hK
 clear hr
 clear hnew hok hx
 refine aB.block ?_
 refine RM.cv (mu:=fun _=>false) ?_
 repeat' (first |refine u1 ?_ |((with_reducible show ax _ _ _ _ _ _ _ _);refine ah.call ob rfl rfl ?_) |refine u2 ?_ |fail)
 refine RM.cv (mu:=fun _=>false) ?_
 repeat' (first |refine u1 ?_ |refine u2 ?_ |fail)
 refine RM.cv (mu:=fun _=>false) ?_
 repeat' (first |refine u1 ?_ |refine u2 ?_ |fail)
 refine aB.aJ (ai.to (l:=[(3,.pt [.sl (p.map ay) full] 0),(8,.ptr 0 0 0),(9,.ptr 1 0 0),(11,.ptr 3 0 0),(43,.sl [[.fn 23 [] []],[.fn 24 [] []],[.fn 25 [] []],[.fn 26 [] []]] true),(44,aA 4),(45,aA (0:Nat))]) (hp:=[.cells (ak s) 0 0,.cells [.ptr 2 0 0] 0 0,.cells (wv x) 0 0,.cells (wv (⟨y,((d:Nat):Int),n⟩:fB)) 0 0]) 4 rfl ⟨rfl,rfl,rfl,rfl,rfl,rfl,rfl,trivial⟩ (Nat.le_of_ble_eq_true rfl) rfl rfl) ?_
 refine aB.block ?_
 clear ob
 refine aB.loop (fun k:Nat=>k≤4∧∀ j,j < k→zX (⟨y,((d:Nat):Int),n⟩:fB) x j=0) (fun k=>⟨aS [(3,.pt [.sl (p.map ay) full] 0),(8,.ptr 0 0 0),(9,.ptr 1 0 0),(11,.ptr 3 0 0),(43,.sl [[.fn 23 [] []],[.fn 24 [] []],[.fn 25 [] []],[.fn 26 [] []]] true),(44,aA 4),(45,aA (k:Nat))],[.cells (ak s) 0 0,.cells [.ptr 2 0 0] 0 0,.cells (wv x) 0 0,.cells (wv (⟨y,((d:Nat):Int),n⟩:fB)) 0 0],bJ.none,true,2⟩) (fun k=>4 - k) ?_ 0 ⟨Nat.zero_le _,fun j hj=>absurd hj (Nat.not_lt_zero _)⟩
 rintro k ⟨hk,hz⟩
 refine aa (mu:=fun _=>false) ?_
 by_cases hk4:k < 4
 ·have e3:decide ((k:Int) < 4)=true:=decide_eq_true (by omega)
  obtain ⟨F,hF,q⟩:=hcs k hk4
  have hls:=hls k hk4 hz
  have hz1:zX (⟨y,((d:Nat):Int),n⟩:fB) x k=0→∀ j,j < k+1→zX (⟨y,((d:Nat):Int),n⟩:fB) x j=0:=fun h j hj=>by
   by_cases e:j=k
   ·subst e;exact h
   ·exact hz j (by omega)
  clear hz hcs hl0
  generalize zX (⟨y,((d:Nat):Int),n⟩:fB) x k=w at q hls hz1
  by_cases z:w=0
  ·subst z
   have e0:(!decide ((0:Int)=0))=false:=by decide
   have e9:decide ((0:Int) < 0)=false:=by decide
   have hz2:=hz1 rfl
   clear hls hz1 hrr
   repeat' (first |(refine RM.c5 (c:=5) (l1:=[_,_,_,_,_]) (l2:=[_,_]) (by kernel_rfl) rfl rfl ?_) |(refine ep rfl (by kernel_rfl) rfl ?_) |((with_reducible show ax _ _ _ _ _ _ _ _);refine ah.call q rfl rfl ?_) |refine u1 ?_ |(refine ⟨[.fn F [] []],⟨by omega,hF⟩,rfl,?_⟩) |refine u2 ?_ |fail)
   exact ⟨k+1,⟨by omega,hz2⟩,(by dsimp only;omega),ai.to 4 rfl ⟨rfl,rfl,rfl,rfl,rfl,rfl,aV (by simp),trivial⟩ (Nat.le_of_ble_eq_true rfl) rfl rfl⟩
  ·have e2:(!decide (w=0))=true:=by rw [decide_eq_false z];rfl
   have hls:=hls z
   by_cases hn:w < 0
   ·have e1:=decide_eq_true hn
    rw [e1] at hls
    obtain ⟨_,rfl⟩:eu (⟨y,((d:Nat):Int),n⟩:fB) x=true∧r=(⟨y,((d:Nat):Int),n⟩:fB):=hrr.elim id (fun h=>by rw [hls] at h;cases h.1)
    clear hls hz1 hrr
    repeat' (first |(refine RM.c5 (c:=5) (l1:=[_,_,_,_,_]) (l2:=[_,_]) (by kernel_rfl) rfl rfl ?_) |(refine ep rfl (by kernel_rfl) rfl ?_) |((with_reducible show ax _ _ _ _ _ _ _ _);refine ah.call q rfl rfl ?_) |refine u1 ?_ |(refine ⟨[.fn F [] []],⟨by omega,hF⟩,rfl,?_⟩) |refine u2 ?_ |fail)
    exact hK _ (Fe rfl (Nat.le_refl _))
   ·have e1:=decide_eq_false hn
    rw [e1] at hls
    obtain ⟨_,rfl⟩:eu (⟨y,((d:Nat):Int),n⟩:fB) x=false∧r=x:=hrr.elim (fun h=>by rw [hls] at h;cases h.1) id
    clear hls hz1 hrr
    repeat' (first |(refine RM.c5 (c:=5) (l1:=[_,_,_,_,_]) (l2:=[_,_]) (by kernel_rfl) rfl rfl ?_) |(refine ep rfl (by kernel_rfl) rfl ?_) |((with_reducible show ax _ _ _ _ _ _ _ _);refine ah.call q rfl rfl ?_) |refine u1 ?_ |(refine ⟨[.fn F [] []],⟨by omega,hF⟩,rfl,?_⟩) |refine u2 ?_ |fail)
    exact hK _ (ai.to (l:=[]) 3 rfl trivial (Nat.le_of_ble_eq_true rfl) rfl rfl)
 ·have e3:decide ((k:Int) < 4)=false:=decide_eq_false (by omega)
  have hls:=hl0 fun j hj=>hz j (by omega)
  obtain ⟨_,rfl⟩:eu (⟨y,((d:Nat):Int),n⟩:fB) x=false∧r=x:=hrr.elim (fun h=>by rw [hls] at h;cases h.1) id
  repeat' (first |refine u1 ?_ |(refine RM.c5 (c:=5) (l1:=[_,_,_,_,_]) (l2:=[_,_]) (by kernel_rfl) rfl rfl ?_) |refine u2 ?_ |fail)
  exact hK _ (ai.to (l:=[]) 3 rfl trivial (Nat.le_of_ble_eq_true rfl) rfl rfl)
theorem Dp (one:Bool) (s:au) (hs:s.Ok) (p:List Order) (full:Bool) (hp:E7 p):Pu one 5 [.ag (ak s),.sl (p.map ay) full] (iz s p):=by
 have o1:=Dc one s hs p full hp
 by_cases c1:(cz s p).2=0
 ·have hpg:=jP c1
  have hg:=hpg.good
  have hfail:=hg.fail
  have p8:=hpg.len
  rw [c1] at o1
  generalize (cz s p).1=a at *
  have ep':((p.map ay).length:Int)=p.length:=by simp
  have o2:Pu one 21 [.ag (ak s),aA ((p.map ay).length:Int),aA 0,fP 0,aA s.fail] (Dg s (p.length:Nat) ((0:Nat):Int) s.fail 0):=by
   rw [ep'];exact r0 one s _ _ _ _
  have hgen:=sg one hg p.length 0 0 s.fail p8 (Nat.zero_le _) (by decide) (by omega)
  have hz1:(!decide ((0:Int)=0))=false:=by decide
  have hval:iz s p=match lM s p (jY s p) with
   | none=>.tp [.fl (.slice none 0 0),aA 0,aA 0,aA 4]
   | some b=>.tp [.sl (ints (bp b.f)) false,aA b.day,aA b.need,aA 0]:=by unfold iz;rw [if_neg (by omega)]
  have hdp:=zW (s:=s) (p:=p)
  obtain ⟨L,hL⟩:∃ L,L=jY s p:=⟨_,rfl⟩
  have hgen:zA TT TB one (Dg s (p.length:Nat) ((0:Nat):Int) s.fail 0) (L.map fun x=>[fP x]):=by rw [hL];exact hgen
  have hlt:∀ y ∈ L,y < 256:=fun y hy=>by
   rw [hL] at hy
   have e:s.fail=((s.fail.toNat:Nat):Int):=by omega
   unfold jY at hy
   rw [e] at hy
   exact Nat.lt_of_lt_of_le (zV hg (Nat.zero_le _) (by decide) hy) (show 2 ^ p.length≤2 ^ 8 from Nat.pow_le_pow_right (by decide) p8)
  rw [←hL] at hval
  clear hL
  refine ah.body (fn:=Tryz.f5) rfl rfl rfl hdp ?_
  rw [hval]
  refine RM.cv (mu:=fun _=>false) ?_
  repeat' (first |refine u1 ?_ |refine u2 ?_ |fail)
  refine RM.cv (mu:=fun _=>false) ?_
  repeat' (first |refine u1 ?_ |((with_reducible show ax _ _ _ _ _ _ _ _);refine ah.call o1 rfl rfl ?_) |refine u2 ?_ |fail)
  refine RM.cv (mu:=fun _=>false) ?_
  repeat' (first |refine u1 ?_ |refine u2 ?_ |fail)
  refine RM.cv (mu:=fun _=>false) ?_
  repeat' (first |refine u1 ?_ |refine u2 ?_ |fail)
  refine aB.seq ?_
  refine RM.cv (mu:=fun _=>false) ?_
  repeat' (first |refine u1 ?_ |((with_reducible show ax _ _ _ _ _ _ _ _);refine ah.call o2 rfl rfl ?_) |refine u2 ?_ |fail)
  refine aB.block ?_
  refine aB.range (fun i=>mD s (lM s p (L.take i))) (fun _=>bJ.none) (fun _=>True) rfl hgen rfl rfl trivial (fun i x hx _=>?_) (fun _=>?_)
  ·obtain ⟨y,hy,rfl⟩:∃ y,L[i]?=some y∧x=[fP y]:=by
    rw [List.getElem?_map,Option.map_eq_some_iff] at hx
    obtain ⟨y,h1,h2⟩:=hx
    exact ⟨y,h1,h2.symm⟩
   have hy256:=hlt y (List.mem_of_getElem? hy)
   have hnx:=Dn (s:=s) (p:=p) hy
   have hbok:=fun b h=>vT hg (p:=p) (L.take i) none (fun z hz=>hlt z (List.mem_of_mem_take hz)) (fun _ h=>nomatch h) b h
   have ob:=BW one hpg full y (by omega)
   unfold zP at ob
   refine ⟨rfl,?_⟩
   dsimp only
   rw [hnx]
   change ∀ b,lM s p (L.take i)=some b→b.Ok at hbok
   generalize lM s p (L.take i)=best at *
   refine aa (mu:=fun _=>false) ?_
   repeat' (first |refine u1 ?_ |refine u2 ?_ |fail)
   refine aB.aJ (ai.soft (l:=[(3,.pt [.sl (p.map ay) full] 0),(8,.ptr 0 0 0),(9,.ptr 1 0 0),(10,fP y)]) ⟨bT.refl _,bT.refl _,bT.refl _,bT.refl _,trivial⟩) ?_
   cases hb:gj s p y with
   | none =>
    have hbo:iM s p y=none:=by unfold iM;rw [hb];rfl
    rw [hb] at ob
    exact Oc one ob (fun st h=>by first|exact ⟨_,by first|exact h|(unfold cu;rw [hbo];dsimp only;exact h)⟩|exact ⟨trivial,_,by first|exact h|(unfold cu;rw [hbo];dsimp only;exact h)⟩)
   | some v =>
    obtain ⟨d,n⟩:=v
    have hbo:iM s p y=some ⟨y,(d:Nat),n⟩:=by unfold iM;rw [hb];rfl
    have hok:=(B4 hg hy256 hbo).1
    rw [hb] at ob
    cases best with
    | none=>exact Fh one ob (fun st h=>by first|exact ⟨_,by first|exact h|(unfold cu;rw [hbo];dsimp only;exact h)⟩|exact ⟨trivial,_,by first|exact h|(unfold cu;rw [hbo];dsimp only;exact h)⟩)
    | some x=>exact JB one hok (hbok x rfl) ob (fun st h=>by first|exact ⟨_,by first|exact h|(unfold cu;rw [hbo];dsimp only;exact h)⟩|exact ⟨trivial,_,by first|exact h|(unfold cu;rw [hbo];dsimp only;exact h)⟩)
  ·have htl:L.take (L.map fun x=>[fP x]).length=L:=List.take_of_length_le (by rw [List.length_map];exact Nat.le_refl _)
   rw [htl]
   clear htl
   have hbok:=fun b h=>vT hg (p:=p) L none hlt (fun _ h=>nomatch h) b h
   have tl:=JA one s (lM s p L) hbok
   repeat' (first |refine u1 ?_ |refine u2 ?_ |fail)
   refine aB.aJ (ai.soft (l:=[(9,.ptr 1 0 0)]) ⟨bT.refl _,trivial⟩) ?_
   exact tl
 ·have hval:iz s p=.tp [.fl (.slice none 0 0),aA 0,aA 0,aA (cz s p).2]:=by unfold iz;rw [if_pos c1]
  rw [hval]
  generalize (cz s p).1=a at *
  generalize (cz s p).2=b at *
  have d1:(!decide (b=0))=true:=by rw [decide_eq_false c1];rfl
  refine ah.body (fn:=Tryz.f5) rfl rfl rfl rfl ?_
  refine aa (mu:=fun _=>false) ?_
  repeat' (first |refine u1 ?_ |((with_reducible show ax _ _ _ _ _ _ _ _);refine ah.call o1 rfl rfl ?_) |refine u2 ?_ |fail)
  exact ⟨[_,_,_,_],⟨Fz.deep rfl,Fz.deep rfl,Fz.deep rfl,Fz.deep rfl,trivial⟩,rfl⟩
theorem mE (f k:Nat):rowAt f (k+1)=if f.testBit k=true then rowAt f k+1 else 0:=rfl
theorem sW {f f':Nat}:∀ {k:Nat},(∀ i,i < k→f.testBit i=f'.testBit i)→rowAt f k=rowAt f' k
 | 0,_=>rfl
 | k+1,h=>by
  rw [mE,mE,h k (Nat.lt_succ_self _),sW (k:=k) fun i hi=>h i (by omega)]
theorem Fi {came:List Bool} {k:Nat} (h:k < came.length):(bE came).testBit k=!came[k]:=by
 unfold bE
 rw [gN _ 0 0 (by decide),Nat.zero_testBit,Nat.sub_zero,List.getD_eq_getElem?_getD,List.getElem?_map,List.getElem?_eq_getElem h]
 simp
theorem qQ {α:Type} {l:List α} {i:Nat} {d:α} (h:i < l.length):l.getD i d=l[i]:=by rw [List.getD_eq_getElem?_getD,List.getElem?_eq_getElem h];rfl
def trail:Nat→List Bool→Nat
 | r,[]=>r
 | _,false :: l=>trail 0 l
 | r,true :: l=>trail (r+1) l
theorem vU:∀ (l:List Bool) (b:Bool),TeLaw.cnt (l++[b])=TeLaw.cnt l+if b=true then 1 else 0
 | [],b=>by cases b <;> rfl
 | true :: l,b=>by
  rw [List.cons_append,TeLaw.cnt,vU l b,TeLaw.cnt]
  omega
 | false :: l,b=>by
  rw [List.cons_append,TeLaw.cnt,vU l b,TeLaw.cnt]
theorem jR:∀ (l:List Bool) (r:Nat) (b:Bool),trail r (l++[b])=if b=true then trail r l+1 else 0
 | [],r,b=>by cases b <;> rfl
 | true :: l,r,b=>by rw [List.cons_append,trail,jR l,trail]
 | false :: l,r,b=>by rw [List.cons_append,trail,jR l,trail]
theorem pO {R:Nat}:∀ (l:List Bool) (r:Nat) (b:Bool),TeLaw.mP R r (l++[b])=(TeLaw.mP R r l && (!b || decide (trail r l < R)))
 | [],r,true=>by
  show (decide (r < R) && true)=(true && (false || decide (r < R)))
  rw [Bool.and_true,Bool.true_and,Bool.false_or]
 | [],r,false=>rfl
 | true :: l,r,b=>by rw [List.cons_append,TeLaw.mP,pO l,TeLaw.mP,trail,Bool.and_assoc]
 | false :: l,r,b=>by rw [List.cons_append,TeLaw.mP,pO l,TeLaw.mP,trail]
theorem vV:((List.range 256).all fun f=>aO (bp f) == f)=true:=by kernel_rfl
theorem ig {f:Nat} (h:f < 256):aO (bp f)=f:=by simpa using List.all_eq_true.1 vV f (List.mem_range.2 h)
theorem Fj {f:Nat} {x:Int}:x ∈ bp f ↔ ∃ m:Nat,m < 8∧f.testBit m=true∧x=(m:Nat):=by
 unfold bp
 simp only [List.mem_map,List.mem_filter,List.mem_range]
 constructor
 ·rintro ⟨m,⟨h1,h2⟩,rfl⟩;exact ⟨m,h1,h2,rfl⟩
 ·rintro ⟨m,h1,h2,rfl⟩;exact ⟨m,⟨h1,h2⟩,rfl⟩
theorem Fk (f:Nat):(bp f).Pairwise (· < ·):=by
 unfold bp
 rw [List.pairwise_map]
 exact (List.Pairwise.filter _ List.pairwise_lt_range).imp fun h=>by omega
def bK (f k:Nat):List Int:=((List.range k).filter fun i=>f.testBit i).map fun i:Nat=>((i:Nat):Int)
theorem mF (f k:Nat):bK f (k+1)=bK f k++if f.testBit k=true then [((k:Nat):Int)] else []:=by
 unfold bK
 rw [List.range_succ,List.filter_append,List.map_append]
 cases h:f.testBit k <;> simp [h]
theorem vW {f k:Nat} (hf:f < 2 ^ k):∀ n,k≤n→bK f n=bK f k
 | 0,h=>by rw [Nat.le_zero.1 h]
 | n+1,h=>by
  by_cases hk:k=n+1
  ·rw [hk]
  ·rw [mF,vW hf n (by omega),Nat.testBit_lt_two_pow (Nat.lt_of_lt_of_le hf (Nat.pow_le_pow_right (by decide) (show k≤n by omega)))]
   simp
def vX (a b:Int × Int):Prop:=a.1 < b.1∨(a.1=b.1∧a.2≤b.2)
theorem vX.refl (a:Int × Int):vX a a:=.inr ⟨rfl,Int.le_refl _⟩
theorem vX.trans {a b c:Int × Int} (h:vX a b) (k:vX b c):vX a c:=by unfold vX at *;omega
def fB.key (b:fB):Int × Int:=(b.day,b.need)
end Go.Proofs.YtpeogffeoehboaaGreatDoor
