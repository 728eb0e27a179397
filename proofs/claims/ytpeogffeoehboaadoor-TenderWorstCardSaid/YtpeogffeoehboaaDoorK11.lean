/-
  Contracts of the program's functions and of the document's. Lemmas alone; their conditions stand in them.
-/
import Derived.Test.YtpeogffeoehboaaDoorA3
import Derived.Test.YtpeogffeoehboaaDoorK10
open Go Go.RM
namespace Go.Proofs.YtpeogffeoehboaaDoor
set_option maxRecDepth 100000
set_option maxHeartbeats 4000000
def ez (b x:fK):Bool :=
 if b.day - x.day ≠ 0 then decide (b.day - x.day < 0)
 else if b.need - x.need ≠ 0 then decide (b.need - x.need < 0)
 else if ((k9 b.f:Nat):Int) - (k9 x.f:Nat) ≠ 0 then decide (((k9 b.f:Nat):Int) - (k9 x.f:Nat) < 0)
 else decide (vz (bx b.f) (bx x.f) < 0)
def iN (s:ak) (p:List Order) (y:Nat):Option fK:=(iF s p y).map fun x=>⟨y,(x.1:Nat),x.2⟩
def di (s:ak) (p:List Order) (best:Option fK) (y:Nat):Option fK:=match iN s p y with
 | none=>best
 | some b=>match best with
  | none=>some b
  | some x=>if ez b x=true then some b else some x
def gM (s:ak) (p:List Order) (L:List Nat):Option fK:=L.foldl (di s p) none
theorem C3 {s:ak} {p:List Order} {L:List Nat} {i y:Nat} (h:L[i]?=some y):gM s p (L.take (i+1))=di s p (gM s p (L.take i)) y:=by
 unfold gM
 rw [List.take_add_one,h,List.foldl_append]
 rfl
theorem Ny {s:ak} (_:Good s) {p:List Order} {y d:Nat} {n:Int} (h:iF s p y=some (d,n)):d < s.days.toNat∧0≤n∧n < s.needs.length∧n=zeroAt s p y d:=by
 unfold iF at h
 rw [Option.map_eq_some_iff] at h
 obtain ⟨d',h1,h2⟩:=h
 rw [List.find?_range_eq_some] at h1
 obtain ⟨q1,q2,_⟩:=h1
 simp only [Prod.mk.injEq] at h2
 obtain ⟨rfl,rfl⟩:=h2
 refine ⟨by simpa using q2,of_decide_eq_true q1,?_,rfl⟩
 have q1:=of_decide_eq_true q1
 unfold zeroAt oM at q1 ⊢
 cases hf:(xT s p y d').findIdx? fun x=>decide (0=x) with
 | none=>rw [hf] at q1;simp at q1
 | some i =>
  rw [List.findIdx?_eq_some_iff_getElem] at hf
  obtain ⟨hlt,_⟩:=hf
  rw [nP] at hlt
  dsimp only
  omega
theorem BJ {s:ak} (hg:Good s) {p:List Order} {y:Nat} (hy:y < 256) {b:fK} (h:iN s p y=some b):b.Ok∧b.f=y:=by
 unfold iN at h
 rw [Option.map_eq_some_iff] at h
 obtain ⟨⟨d,n⟩,h1,rfl⟩:=h
 have:=Ny hg h1
 have h2:=hg.days
 have h3:=hg.len
 exact ⟨⟨hy,⟨by dsimp only;omega,by dsimp only;omega⟩,⟨by dsimp only;omega,by dsimp only;omega⟩⟩,rfl⟩
theorem vB {s:ak} (hg:Good s) {p:List Order}:∀ (L:List Nat) (best:Option fK),(∀ y ∈ L,y < 256)→(∀ b,best=some b→b.Ok)→∀ b,L.foldl (di s p) best=some b→b.Ok
 | [],best,_,hb,b,h=>hb b h
 | y :: L,best,hL,hb,b,h=>by
  refine vB hg L (di s p best y) (fun z hz=>hL z (List.mem_cons_of_mem _ hz)) (fun c hc=>?_) b h
  unfold di at hc
  cases ho:iN s p y with
  | none=>rw [ho] at hc;exact hb c hc
  | some d =>
   rw [ho] at hc
   have hd:=(BJ hg (hL y List.mem_cons_self) ho).1
   cases hbb:best with
   | none =>
    rw [hbb] at hc
    cases hc
    exact hd
   | some x =>
    rw [hbb] at hc
    dsimp only at hc
    split at hc
    ·cases hc;exact hd
    ·cases hc;exact hb _ hbb
theorem ep {T:bw} {t:TypeId} {hp:List AB} {K:AV→List AB→Prop} {o:BinOp} {x y:Operand} {a:AV} {j aC p:Nat} {b:Bool} (ha:a=.ptr j aC p) (ht:oA T.P t=true) (ho:gJ o=some (.bool b,.none)) (k:K (.fl (.bool b)) hp):aN T o t x y a (.fl (.pointer none)) hp K:=by
 subst ha
 exact ⟨ht,_,ho,k⟩
inductive Qp (P:Prop):Prop
 | is (h:P)
 | no (h:False)
def sY (s:ak) (p:List Order):Int:=if (aO s p).2 ≠ 0 then (aO s p).2 else if gM s p (cV s p)=none then 4 else 0
def hJ (s:ak) (p:List Order):AV:=if (aO s p).2 ≠ 0 then .tp [.fl (.slice none 0 0),aA 0,aA 0,aA (aO s p).2] else match gM s p (cV s p) with
 | none=>.tp [.fl (.slice none 0 0),aA 0,aA 0,aA 4]
 | some b=>.tp [.sl (ints (bx b.f)) false,aA b.day,aA b.need,aA 0]
theorem zI {s:ak} {p:List Order}:(hJ s p).deep=true:=by
 unfold hJ
 split
 ·rfl
 ·split <;> rfl
def l5 (s:ak):Option fK→List AB
 | none=>[.cells (ay s) 0 0,.cells [.fl (.pointer none)] 0 0]
 | some b=>[.cells (ay s) 0 0,.cells [.ptr 2 0 0] 0 0,.cells (vR b) 0 0]
theorem EV {st:bG} {s:ak} {x b:fK} (h:st.hp=[.cells (ay s) 0 0,.cells [.ptr 3 0 0] 0 0,.cells (vR x) 0 0,.cells (vR b) 0 0]) (hf:st.fl≤2):au st ⟨aU [],l5 s (some b),st.aG,st.rd,st.fl⟩:=by
 refine au.trans (au.Pb (l:=[]) 2 3 (x:=.cells (vR b) 0 0) (y:=.cells (vR x) 0 0) (hp:=[.cells (ay s) 0 0,.cells [.ptr 2 0 0] 0 0,.cells (vR b) 0 0,.gone]) (by decide) (by rw [h];rfl) (by rw [h];rfl) hf (by omega) trivial (by rw [h];rfl) (fun z hz=>?_) rfl (fun i z z' h1 h2 hz hz'=>?_)) (au.to (l:=[]) 3 rfl trivial (by show st.fl≤3;omega) rfl rfl)
 ·cases hz
  exact .same rfl rfl
 ·rw [h] at hz
  match i,h1,h2 with
  | 0,_,_ =>
   cases hz;cases hz'
   exact .same rfl rfl
  | 1,_,_ =>
   cases hz;cases hz'
   refine .cells rfl fun i v w hv hw=>?_
   match i with
   | 0=>cases hv;cases hw;exact .ptr
   | i+1=>cases hv
  | i+4,_,_=>cases hz
theorem Pe {b x:fK} (h:b.day - x.day ≠ 0):ez b x=decide (b.day - x.day < 0):=by unfold ez;rw [if_pos h]
theorem Pf {b x:fK} (h:b.day - x.day=0) (h2:b.need - x.need ≠ 0):ez b x=decide (b.need - x.need < 0):=by unfold ez;rw [if_neg (by omega),if_pos h2]
theorem Pg {b x:fK} (h:b.day - x.day=0) (h2:b.need - x.need=0) (h3:((k9 b.f:Nat):Int) - (k9 x.f:Nat) ≠ 0):ez b x=decide (((k9 b.f:Nat):Int) - (k9 x.f:Nat) < 0):=by unfold ez;rw [if_neg (by omega),if_neg (by omega),if_pos h3]
theorem LG {b x:fK} (h:b.day - x.day=0) (h2:b.need - x.need=0) (h3:((k9 b.f:Nat):Int) - (k9 x.f:Nat)=0):ez b x=decide (vz (bx b.f) (bx x.f) < 0):=by unfold ez;rw [if_neg (by omega),if_neg (by omega),if_neg (by omega)]
def zJ (b x:fK):Nat→Int
 | 0=>b.day - x.day
 | 1=>b.need - x.need
 | 2=>((k9 b.f:Nat):Int) - (k9 x.f:Nat)
 | _=>vz (bx b.f) (bx x.f)
theorem I4 {b x:fK}:∀ k,k < 4→(∀ j,j < k→zJ b x j=0)→zJ b x k ≠ 0→ez b x=decide (zJ b x k < 0)
 | 0,_,_,h=>Pe h
 | 1,_,hz,h=>Pf (hz 0 (by decide)) h
 | 2,_,hz,h=>Pg (hz 0 (by decide)) (hz 1 (by decide)) h
 | 3,_,hz,_=>LG (hz 0 (by decide)) (hz 1 (by decide)) (hz 2 (by decide))
theorem EW {b x:fK} (hz:∀ j,j < 4→zJ b x j=0):ez b x=false:=by
 have h3:vz (bx b.f) (bx x.f)=0:=hz 3 (by decide)
 rw [LG (hz 0 (by decide)) (hz 1 (by decide)) (hz 2 (by decide)),h3]
 rfl
theorem Kl (one:Bool) {b x:fK} (hb:b.Ok) (hx:x.Ok):∀ k:Nat,k < 4→∃ F:FuncId,([[.fn 57 [] []],[.fn 58 [] []],[.fn 59 [] []],[.fn 60 [] []]]:List (List AV))[((k:Nat):Int).toNat]?=some [.fn F [] []]∧Pu one F [.ag (vR b),.ag (vR x)] (aA (zJ b x k))
 | 0,_=>⟨57,rfl,Kh one hb hx⟩
 | 1,_=>⟨58,rfl,IZ one hb hx⟩
 | 2,_=>⟨59,rfl,I2 one hb hx⟩
 | 3,_=>⟨60,rfl,I3 one hb hx⟩
noncomputable def EX:Code→Code
 | .seq _ b=>b
 | c=>c
noncomputable def PJ:Code→Code
 | .seq a _=>a
 | c=>c
noncomputable def PK:Code→Code
 | .block _ (.rangeFunc _ _ _ b)=>b
 | c=>c
noncomputable def Ph:Code:=EX (EX (EX (EX (Tryd.f25.body.getD .skip))))
noncomputable def PL:Code:=EX Ph
noncomputable def Nz:Code:=PK (EX (PJ Ph))
def NA:Option fK→AV
 | none=>.tp [.fl (.slice none 0 0),aA 0,aA 0,aA 4]
 | some b=>.tp [.sl (ints (bx b.f)) false,aA b.day,aA b.need,aA 0]
theorem I5 (one:Bool) (s:ak) (best:Option fK) (hbok:∀ b,best=some b→b.Ok):aB TT TB one PL ⟨aU [(9,.ptr 1 0 0)],l5 s best,bP.none,false,0⟩ (sK TT Tryd.f25.results.toList (NA best)):=by
 cases best with
 | none =>
  refine aa (mu:=fun _=>false) ?_
  repeat' (first |refine u1 ?_ |refine u2 ?_ |fail)
  exact ⟨[_,_,_,_],⟨Fz.deep rfl,Fz.deep rfl,Fz.deep rfl,Fz.deep rfl,trivial⟩,rfl⟩
 | some b =>
  have hb:=hbok b rfl
  have ol:=C1 true hb.1
  refine RM.cm (mu:=fun _=>false) ?_
  repeat' (first |refine u1 ?_ |(refine ep rfl (by kernel_rfl) rfl ?_) |refine u2 ?_ |fail)
  refine aB.seq ?_
  refine aB.Pd (mu:=fun _=>false) rfl rfl ?_
  repeat' (first |(refine RM.Qo ?_) |refine u1 ?_ |(refine ⟨_,ol,?_⟩) |refine u2 ?_ |fail)
  refine aa (mu:=fun _=>false) ?_
  repeat' (first |refine u1 ?_ |refine u2 ?_ |fail)
  exact ⟨[_,_,_,_],⟨Fz.deep rfl,Fz.deep rfl,Fz.deep rfl,Fz.deep rfl,trivial⟩,rfl⟩
theorem NB (one:Bool) {s:ak} {p:List Order} {full:Bool} {y:Nat} {best:Option fK} (ob:Pu one 54 [.ag (ay s),.sl (p.map ai) full,fA y] (.tp [.ag [fA 0,aA 0,aA 0],BB false])) {K:Exit→bG→Prop} (hK:∀ st,au st ⟨aU [],l5 s best,bP.none,st.rd,st.fl⟩→K .normal st) :
  aB TT TB one Nz ⟨aU [(3,.pt [.sl (p.map ai) full] 0),(8,.ptr 0 0 0),(9,.ptr 1 0 0),(10,fA y)],l5 s best,bP.none,true,2⟩ K:=by
 cases best with
 | none =>
  refine aB.block ?_
  refine aa (mu:=fun _=>false) ?_
  repeat' (first |refine u1 ?_ |((with_reducible show aj _ _ _ _ _ _ _ _);refine af.call ob rfl rfl ?_) |refine u2 ?_ |fail)
  exact hK _ (au.to (l:=[]) 2 rfl trivial (Nat.le_of_ble_eq_true rfl) rfl rfl)
 | some x =>
  refine aB.block ?_
  refine aa (mu:=fun _=>false) ?_
  repeat' (first |refine u1 ?_ |((with_reducible show aj _ _ _ _ _ _ _ _);refine af.call ob rfl rfl ?_) |refine u2 ?_ |fail)
  exact hK _ (au.to (l:=[]) 3 rfl trivial (Nat.le_of_ble_eq_true rfl) rfl rfl)
theorem EY (one:Bool) {s:ak} {p:List Order} {full:Bool} {y d:Nat} {n:Int} (ob:Pu one 54 [.ag (ay s),.sl (p.map ai) full,fA y] (.tp [.ag [fA y,aA (d:Nat),aA n],BB true])) {K:Exit→bG→Prop} (hK:∀ st,au st ⟨aU [],l5 s (some (⟨y,((d:Nat):Int),n⟩:fK)),bP.none,st.rd,st.fl⟩→K .normal st) :
  aB TT TB one Nz ⟨aU [(3,.pt [.sl (p.map ai) full] 0),(8,.ptr 0 0 0),(9,.ptr 1 0 0),(10,fA y)],l5 s none,bP.none,true,2⟩ K:=by
 refine aB.block ?_
 refine RM.cm (mu:=fun _=>false) ?_
 repeat' (first |refine u1 ?_ |((with_reducible show aj _ _ _ _ _ _ _ _);refine af.call ob rfl rfl ?_) |refine u2 ?_ |fail)
 refine RM.cm (mu:=fun _=>false) ?_
 repeat' (first |refine u1 ?_ |refine u2 ?_ |fail)
 refine RM.cm (mu:=fun _=>false) ?_
 repeat' (first |refine u1 ?_ |refine u2 ?_ |fail)
 refine aB.aL (au.to (l:=[(3,.pt [.sl (p.map ai) full] 0),(8,.ptr 0 0 0),(9,.ptr 1 0 0),(11,.ptr 2 0 0),(43,.sl [[.fn 57 [] []],[.fn 58 [] []],[.fn 59 [] []],[.fn 60 [] []]] true),(44,aA 4),(45,aA (0:Nat))]) (hp:=[.cells (ay s) 0 0,.cells [.fl (.pointer none)] 0 0,.cells (vR (⟨y,((d:Nat):Int),n⟩:fK)) 0 0]) 3 rfl ⟨rfl,rfl,rfl,rfl,rfl,rfl,rfl,trivial⟩ (Nat.le_of_ble_eq_true rfl) rfl rfl) ?_
 refine aB.block ?_
 refine aB.loop (fun k:Nat=>k=0) (fun k=>⟨aU [(3,.pt [.sl (p.map ai) full] 0),(8,.ptr 0 0 0),(9,.ptr 1 0 0),(11,.ptr 2 0 0),(43,.sl [[.fn 57 [] []],[.fn 58 [] []],[.fn 59 [] []],[.fn 60 [] []]] true),(44,aA 4),(45,aA (k:Nat))],[.cells (ay s) 0 0,.cells [.fl (.pointer none)] 0 0,.cells (vR (⟨y,((d:Nat):Int),n⟩:fK)) 0 0],bP.none,true,2⟩) (fun k=>k) ?_ 0 rfl
 rintro k rfl
 have e1:decide ((-1:Int) < 0)=true:=by decide
 have e2:(!decide ((-1:Int)=0))=true:=by decide
 have e3:decide (((0:Nat):Int) < 4)=true:=by decide
 refine aa (mu:=fun _=>false) ?_
 repeat' (first |refine u1 ?_ |(refine ⟨[.fn 57 [] []],⟨by omega,rfl⟩,rfl,?_⟩) |refine u2 ?_ |fail)
 exact hK _ (au.to (l:=[]) 3 rfl trivial (Nat.le_of_ble_eq_true rfl) rfl rfl)
theorem I6 (one:Bool) {s:ak} {p:List Order} {full:Bool} {y d:Nat} {n:Int} {x:fK} (hok:(⟨y,((d:Nat):Int),n⟩:fK).Ok) (hx:x.Ok) (ob:Pu one 54 [.ag (ay s),.sl (p.map ai) full,fA y] (.tp [.ag [fA y,aA (d:Nat),aA n],BB true])) {K:Exit→bG→Prop} (hK:∀ st,au st ⟨aU [],l5 s (if ez (⟨y,((d:Nat):Int),n⟩:fK) x=true then some (⟨y,((d:Nat):Int),n⟩:fK) else some x),bP.none,st.rd,st.fl⟩→K .normal st) :
  aB TT TB one Nz ⟨aU [(3,.pt [.sl (p.map ai) full] 0),(8,.ptr 0 0 0),(9,.ptr 1 0 0),(10,fA y)],l5 s (some x),bP.none,true,2⟩ K:=by
 have hcs:=Kl one hok hx
 have hls:=I4 (b:=(⟨y,((d:Nat):Int),n⟩:fK)) (x:=x)
 have hl0:=EW (b:=(⟨y,((d:Nat):Int),n⟩:fK)) (x:=x)
 have hnew:∀ r:fK,(if ez (⟨y,((d:Nat):Int),n⟩:fK) x=true then some (⟨y,((d:Nat):Int),n⟩:fK) else some x)=some r→(ez (⟨y,((d:Nat):Int),n⟩:fK) x=true∧r=(⟨y,((d:Nat):Int),n⟩:fK))∨(ez (⟨y,((d:Nat):Int),n⟩:fK) x=false∧r=x):=fun r h=>by
  cases hl:ez (⟨y,((d:Nat):Int),n⟩:fK) x with
  | true=>rw [hl,if_pos rfl] at h;exact .inl ⟨rfl,(Option.some.inj h).symm⟩
  | false=>rw [hl,if_neg (by simp)] at h;exact .inr ⟨rfl,(Option.some.inj h).symm⟩
 obtain ⟨r,hr⟩:∃ r,(if ez (⟨y,((d:Nat):Int),n⟩:fK) x=true then some (⟨y,((d:Nat):Int),n⟩:fK) else some x)=some r:=by
  cases ez (⟨y,((d:Nat):Int),n⟩:fK) x with
  | true=>exact ⟨_,rfl⟩
  | false=>exact ⟨_,rfl⟩
 have hrr:=hnew r hr
 rw [hr] at hK
 clear hr
 clear hnew hok hx
 refine aB.block ?_
 refine RM.cm (mu:=fun _=>false) ?_
 repeat' (first |refine u1 ?_ |((with_reducible show aj _ _ _ _ _ _ _ _);refine af.call ob rfl rfl ?_) |refine u2 ?_ |fail)
 refine RM.cm (mu:=fun _=>false) ?_
 repeat' (first |refine u1 ?_ |refine u2 ?_ |fail)
 refine RM.cm (mu:=fun _=>false) ?_
 repeat' (first |refine u1 ?_ |refine u2 ?_ |fail)
 refine aB.aL (au.to (l:=[(3,.pt [.sl (p.map ai) full] 0),(8,.ptr 0 0 0),(9,.ptr 1 0 0),(11,.ptr 3 0 0),(43,.sl [[.fn 57 [] []],[.fn 58 [] []],[.fn 59 [] []],[.fn 60 [] []]] true),(44,aA 4),(45,aA (0:Nat))]) (hp:=[.cells (ay s) 0 0,.cells [.ptr 2 0 0] 0 0,.cells (vR x) 0 0,.cells (vR (⟨y,((d:Nat):Int),n⟩:fK)) 0 0]) 4 rfl ⟨rfl,rfl,rfl,rfl,rfl,rfl,rfl,trivial⟩ (Nat.le_of_ble_eq_true rfl) rfl rfl) ?_
 refine aB.block ?_
 clear ob
 refine aB.loop (fun k:Nat=>k≤4∧∀ j,j < k→zJ (⟨y,((d:Nat):Int),n⟩:fK) x j=0) (fun k=>⟨aU [(3,.pt [.sl (p.map ai) full] 0),(8,.ptr 0 0 0),(9,.ptr 1 0 0),(11,.ptr 3 0 0),(43,.sl [[.fn 57 [] []],[.fn 58 [] []],[.fn 59 [] []],[.fn 60 [] []]] true),(44,aA 4),(45,aA (k:Nat))],[.cells (ay s) 0 0,.cells [.ptr 2 0 0] 0 0,.cells (vR x) 0 0,.cells (vR (⟨y,((d:Nat):Int),n⟩:fK)) 0 0],bP.none,true,2⟩) (fun k=>4 - k) ?_ 0 ⟨Nat.zero_le _,fun j hj=>absurd hj (Nat.not_lt_zero _)⟩
 rintro k ⟨hk,hz⟩
 refine aa (mu:=fun _=>false) ?_
 by_cases hk4:k < 4
 ·have e3:decide ((k:Int) < 4)=true:=decide_eq_true (by omega)
  obtain ⟨F,hF,q⟩:=hcs k hk4
  have hls:=hls k hk4 hz
  have hz1:zJ (⟨y,((d:Nat):Int),n⟩:fK) x k=0→∀ j,j < k+1→zJ (⟨y,((d:Nat):Int),n⟩:fK) x j=0:=fun h j hj=>by
   by_cases e:j=k
   ·subst e;exact h
   ·exact hz j (by omega)
  clear hz hcs hl0
  generalize zJ (⟨y,((d:Nat):Int),n⟩:fK) x k=w at q hls hz1
  by_cases z:w=0
  ·subst z
   have e0:(!decide ((0:Int)=0))=false:=by decide
   have e9:decide ((0:Int) < 0)=false:=by decide
   have hz2:=hz1 rfl
   clear hls hz1 hrr
   repeat' (first |(refine RM.c5 (c:=5) (l1:=[_,_,_,_,_]) (l2:=[_,_]) (by kernel_rfl) rfl rfl ?_) |(refine ep rfl (by kernel_rfl) rfl ?_) |((with_reducible show aj _ _ _ _ _ _ _ _);refine af.call q rfl rfl ?_) |refine u1 ?_ |(refine ⟨[.fn F [] []],⟨by omega,hF⟩,rfl,?_⟩) |refine u2 ?_ |fail)
   exact ⟨k+1,⟨by omega,hz2⟩,(by dsimp only;omega),au.to 4 rfl ⟨rfl,rfl,rfl,rfl,rfl,rfl,bu (by simp),trivial⟩ (Nat.le_of_ble_eq_true rfl) rfl rfl⟩
  ·have e2:(!decide (w=0))=true:=by rw [decide_eq_false z];rfl
   have hls:=hls z
   by_cases hn:w < 0
   ·have e1:=decide_eq_true hn
    rw [e1] at hls
    obtain ⟨_,rfl⟩:ez (⟨y,((d:Nat):Int),n⟩:fK) x=true∧r=(⟨y,((d:Nat):Int),n⟩:fK):=hrr.elim id (fun h=>by rw [hls] at h;cases h.1)
    clear hls hz1 hrr
    repeat' (first |(refine RM.c5 (c:=5) (l1:=[_,_,_,_,_]) (l2:=[_,_]) (by kernel_rfl) rfl rfl ?_) |(refine ep rfl (by kernel_rfl) rfl ?_) |((with_reducible show aj _ _ _ _ _ _ _ _);refine af.call q rfl rfl ?_) |refine u1 ?_ |(refine ⟨[.fn F [] []],⟨by omega,hF⟩,rfl,?_⟩) |refine u2 ?_ |fail)
    exact hK _ (EV rfl (Nat.le_refl _))
   ·have e1:=decide_eq_false hn
    rw [e1] at hls
    obtain ⟨_,rfl⟩:ez (⟨y,((d:Nat):Int),n⟩:fK) x=false∧r=x:=hrr.elim (fun h=>by rw [hls] at h;cases h.1) id
    clear hls hz1 hrr
    repeat' (first |(refine RM.c5 (c:=5) (l1:=[_,_,_,_,_]) (l2:=[_,_]) (by kernel_rfl) rfl rfl ?_) |(refine ep rfl (by kernel_rfl) rfl ?_) |((with_reducible show aj _ _ _ _ _ _ _ _);refine af.call q rfl rfl ?_) |refine u1 ?_ |(refine ⟨[.fn F [] []],⟨by omega,hF⟩,rfl,?_⟩) |refine u2 ?_ |fail)
    exact hK _ (au.to (l:=[]) 3 rfl trivial (Nat.le_of_ble_eq_true rfl) rfl rfl)
 ·have e3:decide ((k:Int) < 4)=false:=decide_eq_false (by omega)
  have hls:=hl0 fun j hj=>hz j (by omega)
  obtain ⟨_,rfl⟩:ez (⟨y,((d:Nat):Int),n⟩:fK) x=false∧r=x:=hrr.elim (fun h=>by rw [hls] at h;cases h.1) id
  repeat' (first |refine u1 ?_ |(refine RM.c5 (c:=5) (l1:=[_,_,_,_,_]) (l2:=[_,_]) (by kernel_rfl) rfl rfl ?_) |refine u2 ?_ |fail)
  exact hK _ (au.to (l:=[]) 3 rfl trivial (Nat.le_of_ble_eq_true rfl) rfl rfl)
theorem vC (one:Bool) (s:ak) (hs:s.Ok) (p:List Order) (full:Bool) (hp:vQ p):Pu one 25 [.ag (ay s),.sl (p.map ai) full] (hJ s p):=by
 have o1:=zy one s hs p full hp
 by_cases c1:(aO s p).2=0
 ·have hpg:=dM c1
  have hg:=hpg.good
  have hfail:=hg.fail
  have p8:=hpg.len
  rw [c1] at o1
  generalize (aO s p).1=a at *
  have ep':((p.map ai).length:Int)=p.length:=by simp
  have o2:Pu one 56 [.ag (ay s),aA ((p.map ai).length:Int),aA 0,fA 0,aA s.fail] (CV s (p.length:Nat) ((0:Nat):Int) s.fail 0):=by
   rw [ep'];exact rB one s _ _ _ _
  have hgen:=rC one hg p.length 0 0 s.fail p8 (Nat.zero_le _) (by decide) (by omega)
  have hz1:(!decide ((0:Int)=0))=false:=by decide
  have hval:hJ s p=match gM s p (cV s p) with
   | none=>.tp [.fl (.slice none 0 0),aA 0,aA 0,aA 4]
   | some b=>.tp [.sl (ints (bx b.f)) false,aA b.day,aA b.need,aA 0]:=by unfold hJ;rw [if_neg (by omega)]
  have hdp:=zI (s:=s) (p:=p)
  obtain ⟨L,hL⟩:∃ L,L=cV s p:=⟨_,rfl⟩
  have hgen:zg TT TB one (CV s (p.length:Nat) ((0:Nat):Int) s.fail 0) (L.map fun x=>[fA x]):=by rw [hL];exact hgen
  have hlt:∀ y ∈ L,y < 256:=fun y hy=>by
   rw [hL] at hy
   have e:s.fail=((s.fail.toNat:Nat):Int):=by omega
   unfold cV at hy
   rw [e] at hy
   exact Nat.lt_of_lt_of_le (sW hg (Nat.zero_le _) (by decide) hy) (show 2 ^ p.length≤2 ^ 8 from Nat.pow_le_pow_right (by decide) p8)
  rw [←hL] at hval
  clear hL
  refine af.body (fn:=Tryd.f25) rfl rfl rfl hdp ?_
  rw [hval]
  refine RM.cm (mu:=fun _=>false) ?_
  repeat' (first |refine u1 ?_ |refine u2 ?_ |fail)
  refine RM.cm (mu:=fun _=>false) ?_
  repeat' (first |refine u1 ?_ |((with_reducible show aj _ _ _ _ _ _ _ _);refine af.call o1 rfl rfl ?_) |refine u2 ?_ |fail)
  refine RM.cm (mu:=fun _=>false) ?_
  repeat' (first |refine u1 ?_ |refine u2 ?_ |fail)
  refine RM.cm (mu:=fun _=>false) ?_
  repeat' (first |refine u1 ?_ |refine u2 ?_ |fail)
  refine aB.seq ?_
  refine RM.cm (mu:=fun _=>false) ?_
  repeat' (first |refine u1 ?_ |((with_reducible show aj _ _ _ _ _ _ _ _);refine af.call o2 rfl rfl ?_) |refine u2 ?_ |fail)
  refine aB.block ?_
  refine aB.range (fun i=>l5 s (gM s p (L.take i))) (fun _=>bP.none) (fun _=>True) rfl hgen rfl rfl trivial (fun i x hx _=>?_) (fun _=>?_)
  ·obtain ⟨y,hy,rfl⟩:∃ y,L[i]?=some y∧x=[fA y]:=by
    rw [List.getElem?_map,Option.map_eq_some_iff] at hx
    obtain ⟨y,h1,h2⟩:=hx
    exact ⟨y,h1,h2.symm⟩
   have hy256:=hlt y (List.mem_of_getElem? hy)
   have hnx:=C3 (s:=s) (p:=p) hy
   have hbok:=fun b h=>vB hg (p:=p) (L.take i) none (fun z hz=>hlt z (List.mem_of_mem_take hz)) (fun _ h=>nomatch h) b h
   have ob:=vq one hpg full y (by omega)
   unfold wT at ob
   refine ⟨rfl,?_⟩
   dsimp only
   rw [hnx]
   change ∀ b,gM s p (L.take i)=some b→b.Ok at hbok
   generalize gM s p (L.take i)=best at *
   refine aa (mu:=fun _=>false) ?_
   repeat' (first |refine u1 ?_ |refine u2 ?_ |fail)
   refine aB.aL (au.soft (l:=[(3,.pt [.sl (p.map ai) full] 0),(8,.ptr 0 0 0),(9,.ptr 1 0 0),(10,fA y)]) ⟨cH.refl _,cH.refl _,cH.refl _,cH.refl _,trivial⟩) ?_
   cases hb:iF s p y with
   | none =>
    have hbo:iN s p y=none:=by unfold iN;rw [hb];rfl
    rw [hb] at ob
    exact NB one ob (fun st h=>by first|exact ⟨_,by first|exact h|(unfold di;rw [hbo];dsimp only;exact h)⟩|exact ⟨trivial,_,by first|exact h|(unfold di;rw [hbo];dsimp only;exact h)⟩)
   | some v =>
    obtain ⟨d,n⟩:=v
    have hbo:iN s p y=some ⟨y,(d:Nat),n⟩:=by unfold iN;rw [hb];rfl
    have hok:=(BJ hg hy256 hbo).1
    rw [hb] at ob
    cases best with
    | none=>exact EY one ob (fun st h=>by first|exact ⟨_,by first|exact h|(unfold di;rw [hbo];dsimp only;exact h)⟩|exact ⟨trivial,_,by first|exact h|(unfold di;rw [hbo];dsimp only;exact h)⟩)
    | some x=>exact I6 one hok (hbok x rfl) ob (fun st h=>by first|exact ⟨_,by first|exact h|(unfold di;rw [hbo];dsimp only;exact h)⟩|exact ⟨trivial,_,by first|exact h|(unfold di;rw [hbo];dsimp only;exact h)⟩)
  ·have htl:L.take (L.map fun x=>[fA x]).length=L:=List.take_of_length_le (by rw [List.length_map];exact Nat.le_refl _)
   rw [htl]
   clear htl
   have hbok:=fun b h=>vB hg (p:=p) L none hlt (fun _ h=>nomatch h) b h
   have tl:=I5 one s (gM s p L) hbok
   repeat' (first |refine u1 ?_ |refine u2 ?_ |fail)
   refine aB.aL (au.soft (l:=[(9,.ptr 1 0 0)]) ⟨cH.refl _,trivial⟩) ?_
   exact tl
 ·have hval:hJ s p=.tp [.fl (.slice none 0 0),aA 0,aA 0,aA (aO s p).2]:=by unfold hJ;rw [if_pos c1]
  rw [hval]
  generalize (aO s p).1=a at *
  generalize (aO s p).2=b at *
  have d1:(!decide (b=0))=true:=by rw [decide_eq_false c1];rfl
  refine af.body (fn:=Tryd.f25) rfl rfl rfl rfl ?_
  refine aa (mu:=fun _=>false) ?_
  repeat' (first |refine u1 ?_ |((with_reducible show aj _ _ _ _ _ _ _ _);refine af.call o1 rfl rfl ?_) |refine u2 ?_ |fail)
  exact ⟨[_,_,_,_],⟨Fz.deep rfl,Fz.deep rfl,Fz.deep rfl,Fz.deep rfl,trivial⟩,rfl⟩
end Go.Proofs.YtpeogffeoehboaaDoor
