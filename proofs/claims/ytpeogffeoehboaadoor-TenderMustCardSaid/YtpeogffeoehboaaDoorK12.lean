/-
  Contracts of the program's functions and of the document's. Lemmas alone; their conditions stand in them.
-/
import Derived.Test.YtpeogffeoehboaaDoorA4
import Derived.Test.YtpeogffeoehboaaDoorK6
import Derived.Test.YtpeogffeoehboaaDoorK7
open Go Go.RM
namespace Go.Proofs.YtpeogffeoehboaaDoor
set_option maxRecDepth 100000
set_option maxHeartbeats 4000000
def eZ (b x:gE):Bool :=
 if b.day - x.day ≠ 0 then decide (b.day - x.day < 0)
 else if b.need - x.need ≠ 0 then decide (b.need - x.need < 0)
 else if ((lH b.f:Nat):Int) - (lH x.f:Nat) ≠ 0 then decide (((lH b.f:Nat):Int) - (lH x.f:Nat) < 0)
 else decide (sO (aP b.f) (aP x.f) < 0)
def kM (s:ai) (p:List Order) (y:Nat):Option gE:=(jZ s p y).map fun x=>⟨y,(x.1:Nat),x.2⟩
def dV (s:ai) (p:List Order) (best:Option gE) (y:Nat):Option gE:=match kM s p y with
 | none=>best
 | some b=>match best with
  | none=>some b
  | some x=>if eZ b x=true then some b else some x
def kN (s:ai) (p:List Order) (L:List Nat):Option gE:=L.foldl (dV s p) none
theorem El {s:ai} {p:List Order} {L:List Nat} {i y:Nat} (h:L[i]?=some y):kN s p (L.take (i+1))=dV s p (kN s p (L.take i)) y:=by
 unfold kN
 rw [List.take_add_one,h,List.foldl_append]
 rfl
theorem PW {s:ai} (_:Good s) {p:List Order} {y d:Nat} {n:Int} (h:jZ s p y=some (d,n)):d < s.days.toNat∧0≤n∧n < s.needs.length∧n=zeroAt s p y d:=by
 unfold jZ at h
 rw [Option.map_eq_some_iff] at h
 obtain ⟨d',h1,h2⟩:=h
 rw [List.find?_range_eq_some] at h1
 obtain ⟨q1,q2,_⟩:=h1
 simp only [Prod.mk.injEq] at h2
 obtain ⟨rfl,rfl⟩:=h2
 refine ⟨by simpa using q2,of_decide_eq_true q1,?_,rfl⟩
 have q1:=of_decide_eq_true q1
 unfold zeroAt nR at q1 ⊢
 cases hf:(Fv s p y d').findIdx? fun x=>decide (0=x) with
 | none=>rw [hf] at q1;simp at q1
 | some i =>
  rw [List.findIdx?_eq_some_iff_getElem] at hf
  obtain ⟨hlt,_⟩:=hf
  rw [uh] at hlt
  dsimp only
  omega
theorem CJ {s:ai} (hg:Good s) {p:List Order} {y:Nat} (hy:y < 256) {b:gE} (h:kM s p y=some b):b.Ok∧b.f=y:=by
 unfold kM at h
 rw [Option.map_eq_some_iff] at h
 obtain ⟨⟨d,n⟩,h1,rfl⟩:=h
 have:=PW hg h1
 have h2:=hg.days
 have h3:=hg.len
 exact ⟨⟨hy,⟨by dsimp only;omega,by dsimp only;omega⟩,⟨by dsimp only;omega,by dsimp only;omega⟩⟩,rfl⟩
theorem wG {s:ai} (hg:Good s) {p:List Order}:∀ (L:List Nat) (best:Option gE),(∀ y ∈ L,y < 256)→(∀ b,best=some b→b.Ok)→∀ b,L.foldl (dV s p) best=some b→b.Ok
 | [],best,_,hb,b,h=>hb b h
 | y :: L,best,hL,hb,b,h=>by
  refine wG hg L (dV s p best y) (fun z hz=>hL z (List.mem_cons_of_mem _ hz)) (fun c hc=>?_) b h
  unfold dV at hc
  cases ho:kM s p y with
  | none=>rw [ho] at hc;exact hb c hc
  | some d =>
   rw [ho] at hc
   have hd:=(CJ hg (hL y List.mem_cons_self) ho).1
   cases hbb:best with
   | none =>
    rw [hbb] at hc
    cases hc
    exact hd
   | some x =>
    rw [hbb] at hc
    dsimp only at hc
    split at hc
    ·cases hc;exact hd
    ·cases hc;exact hb _ hbb
theorem ep {T:bz} {t:TypeId} {hp:List AB} {K:AV→List AB→Prop} {o:BinOp} {x y:Operand} {a:AV} {j aB p:Nat} {b:Bool} (ha:a=.ptr j aB p) (ht:pN T.P t=true) (ho:gU o=some (.bool b,.none)) (k:K (.fl (.bool b)) hp):aL T o t x y a (.fl (.pointer none)) hp K:=by
 subst ha
 exact ⟨ht,_,ho,k⟩
inductive Ti (P:Prop):Prop
 | is (h:P)
 | no (h:False)
def uo (s:ai) (p:List Order):Int:=if (ey s p).2 ≠ 0 then (ey s p).2 else if kN s p (nS s p)=none then 4 else 0
def jo (s:ai) (p:List Order):AV:=if (ey s p).2 ≠ 0 then .tp [.fl (.slice none 0 0),aC 0,aC 0,aC (ey s p).2] else match kN s p (nS s p) with
 | none=>.tp [.fl (.slice none 0 0),aC 0,aC 0,aC 4]
 | some b=>.tp [.sl (ints (aP b.f)) false,aC b.day,aC b.need,aC 0]
theorem Ay {s:ai} {p:List Order}:(jo s p).deep=true:=by
 unfold jo
 split
 ·rfl
 ·split <;> rfl
def mN (s:ai):Option gE→List AB
 | none=>[.cells (az s) 0 0,.cells [.fl (.pointer none)] 0 0]
 | some b=>[.cells (az s) 0 0,.cells [.ptr 2 0 0] 0 0,.cells (wQ b) 0 0]
theorem GD {st:bK} {s:ai} {x b:gE} (h:st.hp=[.cells (az s) 0 0,.cells [.ptr 3 0 0] 0 0,.cells (wQ x) 0 0,.cells (wQ b) 0 0]) (hf:st.fl≤2):aj st ⟨bx [],mN s (some b),st.aE,st.rd,st.fl⟩:=by
 refine aj.trans (aj.RH (l:=[]) 2 3 (x:=.cells (wQ b) 0 0) (y:=.cells (wQ x) 0 0) (hp:=[.cells (az s) 0 0,.cells [.ptr 2 0 0] 0 0,.cells (wQ b) 0 0,.gone]) (by decide) (by rw [h];rfl) (by rw [h];rfl) hf (by omega) trivial (by rw [h];rfl) (fun z hz=>?_) rfl (fun i z z' h1 h2 hz hz'=>?_)) (aj.to (l:=[]) 3 rfl trivial (by show st.fl≤3;omega) rfl rfl)
 ·cases hz
  exact .same rfl rfl
 ·rw [h] at hz
  match i,h1,h2 with
  | 0,_,_ =>
   cases hz;cases hz'
   exact .same rfl rfl
  | 1,_,_ =>
   cases hz;cases hz'
   refine .cells rfl fun i v w hv hw=>?_
   match i with
   | 0=>cases hv;cases hw;exact .ptr
   | i+1=>cases hv
  | i+4,_,_=>cases hz
theorem RI {b x:gE} (h:b.day - x.day ≠ 0):eZ b x=decide (b.day - x.day < 0):=by unfold eZ;rw [if_pos h]
theorem RJ {b x:gE} (h:b.day - x.day=0) (h2:b.need - x.need ≠ 0):eZ b x=decide (b.need - x.need < 0):=by unfold eZ;rw [if_neg (by omega),if_pos h2]
theorem RK {b x:gE} (h:b.day - x.day=0) (h2:b.need - x.need=0) (h3:((lH b.f:Nat):Int) - (lH x.f:Nat) ≠ 0):eZ b x=decide (((lH b.f:Nat):Int) - (lH x.f:Nat) < 0):=by unfold eZ;rw [if_neg (by omega),if_neg (by omega),if_pos h3]
theorem NN {b x:gE} (h:b.day - x.day=0) (h2:b.need - x.need=0) (h3:((lH b.f:Nat):Int) - (lH x.f:Nat)=0):eZ b x=decide (sO (aP b.f) (aP x.f) < 0):=by unfold eZ;rw [if_neg (by omega),if_neg (by omega),if_neg (by omega)]
def Az (b x:gE):Nat→Int
 | 0=>b.day - x.day
 | 1=>b.need - x.need
 | 2=>((lH b.f:Nat):Int) - (lH x.f:Nat)
 | _=>sO (aP b.f) (aP x.f)
theorem KJ {b x:gE}:∀ k,k < 4→(∀ j,j < k→Az b x j=0)→Az b x k ≠ 0→eZ b x=decide (Az b x k < 0)
 | 0,_,_,h=>RI h
 | 1,_,hz,h=>RJ (hz 0 (by decide)) h
 | 2,_,hz,h=>RK (hz 0 (by decide)) (hz 1 (by decide)) h
 | 3,_,hz,_=>NN (hz 0 (by decide)) (hz 1 (by decide)) (hz 2 (by decide))
theorem GF {b x:gE} (hz:∀ j,j < 4→Az b x j=0):eZ b x=false:=by
 have h3:sO (aP b.f) (aP x.f)=0:=hz 3 (by decide)
 rw [NN (hz 0 (by decide)) (hz 1 (by decide)) (hz 2 (by decide)),h3]
 rfl
theorem Mf (one:Bool) {b x:gE} (hb:b.Ok) (hx:x.Ok):∀ k:Nat,k < 4→∃ F:FuncId,([[.fn 57 [] []],[.fn 58 [] []],[.fn 59 [] []],[.fn 60 [] []]]:List (List AV))[((k:Nat):Int).toNat]?=some [.fn F [] []]∧Pu one F [.ag (wQ b),.ag (wQ x)] (aC (Az b x k))
 | 0,_=>⟨57,rfl,L4 one hb hx⟩
 | 1,_=>⟨58,rfl,Kv one hb hx⟩
 | 2,_=>⟨59,rfl,Kw one hb hx⟩
 | 3,_=>⟨60,rfl,Kx one hb hx⟩
noncomputable def GG:Code→Code
 | .seq _ b=>b
 | c=>c
noncomputable def Sr:Code→Code
 | .seq a _=>a
 | c=>c
noncomputable def Su:Code→Code
 | .block _ (.rangeFunc _ _ _ b)=>b
 | c=>c
noncomputable def RL:Code:=GG (GG (GG (GG (Tryd.f25.body.getD .skip))))
noncomputable def Sv:Code:=GG RL
noncomputable def PX:Code:=Su (GG (Sr RL))
def PY:Option gE→AV
 | none=>.tp [.fl (.slice none 0 0),aC 0,aC 0,aC 4]
 | some b=>.tp [.sl (ints (aP b.f)) false,aC b.day,aC b.need,aC 0]
theorem KK (one:Bool) (s:ai) (best:Option gE) (hbok:∀ b,best=some b→b.Ok):aA TT TB one Sv ⟨bx [(9,.ptr 1 0 0)],mN s best,bG.none,false,0⟩ (Rl TT Tryd.f25.results.toList (PY best)):=by
 cases best with
 | none =>
  refine aa (mu:=fun _=>false) ?_
  repeat' (first |refine u1 ?_ |refine u2 ?_ |fail)
  exact ⟨[_,_,_,_],⟨Fz.deep rfl,Fz.deep rfl,Fz.deep rfl,Fz.deep rfl,trivial⟩,rfl⟩
 | some b =>
  have hb:=hbok b rfl
  have ol:=An true hb.1
  refine RM.cS (mu:=fun _=>false) ?_
  repeat' (first |refine u1 ?_ |(refine ep rfl (by kernel_rfl) rfl ?_) |refine u2 ?_ |fail)
  refine aA.seq ?_
  refine aA.CI (c:=17) (l1:=[_,_,_,_,_,_,_,_,_,_,_,_,_,_,_,_,_]) (l2:=[]) (mu:=fun _=>false) (by kernel_rfl) rfl rfl ?_
  repeat' (first |(refine RM.RG ?_) |refine u1 ?_ |(refine ⟨_,ol,?_⟩) |refine u2 ?_ |fail)
  refine aa (mu:=fun _=>false) ?_
  repeat' (first |refine u1 ?_ |refine u2 ?_ |fail)
  exact ⟨[_,_,_,_],⟨Fz.deep rfl,Fz.deep rfl,Fz.deep rfl,Fz.deep rfl,trivial⟩,rfl⟩
theorem PZ (one:Bool) {s:ai} {p:List Order} {full:Bool} {y:Nat} {best:Option gE} (ob:Pu one 54 [.ag (az s),.sl (p.map aD) full,gq y] (.tp [.ag [gq 0,aC 0,aC 0],BB false])) {K:Exit→bK→Prop} (hK:∀ st,aj st ⟨bx [],mN s best,bG.none,st.rd,st.fl⟩→K .normal st) :
  aA TT TB one PX ⟨bx [(3,.pt [.sl (p.map aD) full] 0),(8,.ptr 0 0 0),(9,.ptr 1 0 0),(10,gq y)],mN s best,bG.none,true,2⟩ K:=by
 cases best with
 | none =>
  refine aA.block ?_
  refine aa (mu:=fun _=>false) ?_
  repeat' (first |refine u1 ?_ |((with_reducible show av _ _ _ _ _ _ _ _);refine ah.call ob rfl rfl ?_) |refine u2 ?_ |fail)
  exact hK _ (aj.to (l:=[]) 2 rfl trivial (Nat.le_of_ble_eq_true rfl) rfl rfl)
 | some x =>
  refine aA.block ?_
  refine aa (mu:=fun _=>false) ?_
  repeat' (first |refine u1 ?_ |((with_reducible show av _ _ _ _ _ _ _ _);refine ah.call ob rfl rfl ?_) |refine u2 ?_ |fail)
  exact hK _ (aj.to (l:=[]) 3 rfl trivial (Nat.le_of_ble_eq_true rfl) rfl rfl)
theorem GH (one:Bool) {s:ai} {p:List Order} {full:Bool} {y d:Nat} {n:Int} (ob:Pu one 54 [.ag (az s),.sl (p.map aD) full,gq y] (.tp [.ag [gq y,aC (d:Nat),aC n],BB true])) {K:Exit→bK→Prop} (hK:∀ st,aj st ⟨bx [],mN s (some (⟨y,((d:Nat):Int),n⟩:gE)),bG.none,st.rd,st.fl⟩→K .normal st) :
  aA TT TB one PX ⟨bx [(3,.pt [.sl (p.map aD) full] 0),(8,.ptr 0 0 0),(9,.ptr 1 0 0),(10,gq y)],mN s none,bG.none,true,2⟩ K:=by
 refine aA.block ?_
 refine RM.cS (mu:=fun _=>false) ?_
 repeat' (first |refine u1 ?_ |((with_reducible show av _ _ _ _ _ _ _ _);refine ah.call ob rfl rfl ?_) |refine u2 ?_ |fail)
 refine RM.cS (mu:=fun _=>false) ?_
 repeat' (first |refine u1 ?_ |refine u2 ?_ |fail)
 refine RM.cS (mu:=fun _=>false) ?_
 repeat' (first |refine u1 ?_ |refine u2 ?_ |fail)
 refine aA.aX (aj.to (l:=[(3,.pt [.sl (p.map aD) full] 0),(8,.ptr 0 0 0),(9,.ptr 1 0 0),(11,.ptr 2 0 0),(43,.sl [[.fn 57 [] []],[.fn 58 [] []],[.fn 59 [] []],[.fn 60 [] []]] true),(44,aC 4),(45,aC (0:Nat))]) (hp:=[.cells (az s) 0 0,.cells [.fl (.pointer none)] 0 0,.cells (wQ (⟨y,((d:Nat):Int),n⟩:gE)) 0 0]) 3 rfl ⟨rfl,rfl,rfl,rfl,rfl,rfl,rfl,trivial⟩ (Nat.le_of_ble_eq_true rfl) rfl rfl) ?_
 refine aA.block ?_
 refine aA.loop (fun k:Nat=>k=0) (fun k=>⟨bx [(3,.pt [.sl (p.map aD) full] 0),(8,.ptr 0 0 0),(9,.ptr 1 0 0),(11,.ptr 2 0 0),(43,.sl [[.fn 57 [] []],[.fn 58 [] []],[.fn 59 [] []],[.fn 60 [] []]] true),(44,aC 4),(45,aC (k:Nat))],[.cells (az s) 0 0,.cells [.fl (.pointer none)] 0 0,.cells (wQ (⟨y,((d:Nat):Int),n⟩:gE)) 0 0],bG.none,true,2⟩) (fun k=>k) ?_ 0 rfl
 rintro k rfl
 have e1:decide ((-1:Int) < 0)=true:=by decide
 have e2:(!decide ((-1:Int)=0))=true:=by decide
 have e3:decide (((0:Nat):Int) < 4)=true:=by decide
 refine aa (mu:=fun _=>false) ?_
 repeat' (first |refine u1 ?_ |(refine ⟨[.fn 57 [] []],⟨by omega,rfl⟩,rfl,?_⟩) |refine u2 ?_ |fail)
 exact hK _ (aj.to (l:=[]) 3 rfl trivial (Nat.le_of_ble_eq_true rfl) rfl rfl)
theorem KL (one:Bool) {s:ai} {p:List Order} {full:Bool} {y d:Nat} {n:Int} {x:gE} (hok:(⟨y,((d:Nat):Int),n⟩:gE).Ok) (hx:x.Ok) (ob:Pu one 54 [.ag (az s),.sl (p.map aD) full,gq y] (.tp [.ag [gq y,aC (d:Nat),aC n],BB true])) {K:Exit→bK→Prop} (hK:∀ st,aj st ⟨bx [],mN s (if eZ (⟨y,((d:Nat):Int),n⟩:gE) x=true then some (⟨y,((d:Nat):Int),n⟩:gE) else some x),bG.none,st.rd,st.fl⟩→K .normal st) :
  aA TT TB one PX ⟨bx [(3,.pt [.sl (p.map aD) full] 0),(8,.ptr 0 0 0),(9,.ptr 1 0 0),(10,gq y)],mN s (some x),bG.none,true,2⟩ K:=by
 have hcs:=Mf one hok hx
 have hls:=KJ (b:=(⟨y,((d:Nat):Int),n⟩:gE)) (x:=x)
 have hl0:=GF (b:=(⟨y,((d:Nat):Int),n⟩:gE)) (x:=x)
 have hnew:∀ r:gE,(if eZ (⟨y,((d:Nat):Int),n⟩:gE) x=true then some (⟨y,((d:Nat):Int),n⟩:gE) else some x)=some r→(eZ (⟨y,((d:Nat):Int),n⟩:gE) x=true∧r=(⟨y,((d:Nat):Int),n⟩:gE))∨(eZ (⟨y,((d:Nat):Int),n⟩:gE) x=false∧r=x):=fun r h=>by
  cases hl:eZ (⟨y,((d:Nat):Int),n⟩:gE) x with
  | true=>rw [hl,if_pos rfl] at h;exact .inl ⟨rfl,(Option.some.inj h).symm⟩
  | false=>rw [hl,if_neg (by simp)] at h;exact .inr ⟨rfl,(Option.some.inj h).symm⟩
 obtain ⟨r,hr⟩:∃ r,(if eZ (⟨y,((d:Nat):Int),n⟩:gE) x=true then some (⟨y,((d:Nat):Int),n⟩:gE) else some x)=some r:=by
  cases eZ (⟨y,((d:Nat):Int),n⟩:gE) x with
  | true=>exact ⟨_,rfl⟩
  | false=>exact ⟨_,rfl⟩
 have hrr:=hnew r hr
 rw [hr] at hK
 clear hr
 clear hnew hok hx
 refine aA.block ?_
 refine RM.cS (mu:=fun _=>false) ?_
 repeat' (first |refine u1 ?_ |((with_reducible show av _ _ _ _ _ _ _ _);refine ah.call ob rfl rfl ?_) |refine u2 ?_ |fail)
 refine RM.cS (mu:=fun _=>false) ?_
 repeat' (first |refine u1 ?_ |refine u2 ?_ |fail)
 refine RM.cS (mu:=fun _=>false) ?_
 repeat' (first |refine u1 ?_ |refine u2 ?_ |fail)
 refine aA.aX (aj.to (l:=[(3,.pt [.sl (p.map aD) full] 0),(8,.ptr 0 0 0),(9,.ptr 1 0 0),(11,.ptr 3 0 0),(43,.sl [[.fn 57 [] []],[.fn 58 [] []],[.fn 59 [] []],[.fn 60 [] []]] true),(44,aC 4),(45,aC (0:Nat))]) (hp:=[.cells (az s) 0 0,.cells [.ptr 2 0 0] 0 0,.cells (wQ x) 0 0,.cells (wQ (⟨y,((d:Nat):Int),n⟩:gE)) 0 0]) 4 rfl ⟨rfl,rfl,rfl,rfl,rfl,rfl,rfl,trivial⟩ (Nat.le_of_ble_eq_true rfl) rfl rfl) ?_
 refine aA.block ?_
 clear ob
 refine aA.loop (fun k:Nat=>k≤4∧∀ j,j < k→Az (⟨y,((d:Nat):Int),n⟩:gE) x j=0) (fun k=>⟨bx [(3,.pt [.sl (p.map aD) full] 0),(8,.ptr 0 0 0),(9,.ptr 1 0 0),(11,.ptr 3 0 0),(43,.sl [[.fn 57 [] []],[.fn 58 [] []],[.fn 59 [] []],[.fn 60 [] []]] true),(44,aC 4),(45,aC (k:Nat))],[.cells (az s) 0 0,.cells [.ptr 2 0 0] 0 0,.cells (wQ x) 0 0,.cells (wQ (⟨y,((d:Nat):Int),n⟩:gE)) 0 0],bG.none,true,2⟩) (fun k=>4 - k) ?_ 0 ⟨Nat.zero_le _,fun j hj=>absurd hj (Nat.not_lt_zero _)⟩
 rintro k ⟨hk,hz⟩
 refine aa (mu:=fun _=>false) ?_
 by_cases hk4:k < 4
 ·have e3:decide ((k:Int) < 4)=true:=decide_eq_true (by omega)
  obtain ⟨F,hF,q⟩:=hcs k hk4
  have hls:=hls k hk4 hz
  have hz1:Az (⟨y,((d:Nat):Int),n⟩:gE) x k=0→∀ j,j < k+1→Az (⟨y,((d:Nat):Int),n⟩:gE) x j=0:=fun h j hj=>by
   by_cases e:j=k
   ·subst e;exact h
   ·exact hz j (by omega)
  clear hz hcs hl0
  generalize Az (⟨y,((d:Nat):Int),n⟩:gE) x k=w at q hls hz1
  by_cases z:w=0
  ·subst z
   have e0:(!decide ((0:Int)=0))=false:=by decide
   have e9:decide ((0:Int) < 0)=false:=by decide
   have hz2:=hz1 rfl
   clear hls hz1 hrr
   repeat' (first |(refine RM.c5 (c:=5) (l1:=[_,_,_,_,_]) (l2:=[_,_]) (by kernel_rfl) rfl rfl ?_) |(refine ep rfl (by kernel_rfl) rfl ?_) |((with_reducible show av _ _ _ _ _ _ _ _);refine ah.call q rfl rfl ?_) |refine u1 ?_ |(refine ⟨[.fn F [] []],⟨by omega,hF⟩,rfl,?_⟩) |refine u2 ?_ |fail)
   exact ⟨k+1,⟨by omega,hz2⟩,(by dsimp only;omega),aj.to 4 rfl ⟨rfl,rfl,rfl,rfl,rfl,rfl,bW (by simp),trivial⟩ (Nat.le_of_ble_eq_true rfl) rfl rfl⟩
  ·have e2:(!decide (w=0))=true:=by rw [decide_eq_false z];rfl
   have hls:=hls z
   by_cases hn:w < 0
   ·have e1:=decide_eq_true hn
    rw [e1] at hls
    obtain ⟨_,rfl⟩:eZ (⟨y,((d:Nat):Int),n⟩:gE) x=true∧r=(⟨y,((d:Nat):Int),n⟩:gE):=hrr.elim id (fun h=>by rw [hls] at h;cases h.1)
    clear hls hz1 hrr
    repeat' (first |(refine RM.c5 (c:=5) (l1:=[_,_,_,_,_]) (l2:=[_,_]) (by kernel_rfl) rfl rfl ?_) |(refine ep rfl (by kernel_rfl) rfl ?_) |((with_reducible show av _ _ _ _ _ _ _ _);refine ah.call q rfl rfl ?_) |refine u1 ?_ |(refine ⟨[.fn F [] []],⟨by omega,hF⟩,rfl,?_⟩) |refine u2 ?_ |fail)
    exact hK _ (GD rfl (Nat.le_refl _))
   ·have e1:=decide_eq_false hn
    rw [e1] at hls
    obtain ⟨_,rfl⟩:eZ (⟨y,((d:Nat):Int),n⟩:gE) x=false∧r=x:=hrr.elim (fun h=>by rw [hls] at h;cases h.1) id
    clear hls hz1 hrr
    repeat' (first |(refine RM.c5 (c:=5) (l1:=[_,_,_,_,_]) (l2:=[_,_]) (by kernel_rfl) rfl rfl ?_) |(refine ep rfl (by kernel_rfl) rfl ?_) |((with_reducible show av _ _ _ _ _ _ _ _);refine ah.call q rfl rfl ?_) |refine u1 ?_ |(refine ⟨[.fn F [] []],⟨by omega,hF⟩,rfl,?_⟩) |refine u2 ?_ |fail)
    exact hK _ (aj.to (l:=[]) 3 rfl trivial (Nat.le_of_ble_eq_true rfl) rfl rfl)
 ·have e3:decide ((k:Int) < 4)=false:=decide_eq_false (by omega)
  have hls:=hl0 fun j hj=>hz j (by omega)
  obtain ⟨_,rfl⟩:eZ (⟨y,((d:Nat):Int),n⟩:gE) x=false∧r=x:=hrr.elim (fun h=>by rw [hls] at h;cases h.1) id
  repeat' (first |refine u1 ?_ |(refine RM.c5 (c:=5) (l1:=[_,_,_,_,_]) (l2:=[_,_]) (by kernel_rfl) rfl rfl ?_) |refine u2 ?_ |fail)
  exact hK _ (aj.to (l:=[]) 3 rfl trivial (Nat.le_of_ble_eq_true rfl) rfl rfl)
theorem Em (one:Bool) (s:ai) (hs:s.Ok) (p:List Order) (full:Bool) (hp:RW p):Pu one 25 [.ag (az s),.sl (p.map aD) full] (jo s p):=by
 have o1:=Pk one s hs p full hp
 by_cases c1:(ey s p).2=0
 ·have hpg:=jQ c1
  have hg:=hpg.good
  have hfail:=hg.fail
  have p8:=hpg.len
  rw [c1] at o1
  generalize (ey s p).1=a at *
  have ep':((p.map aD).length:Int)=p.length:=by simp
  have o2:Pu one 56 [.ag (az s),aC ((p.map aD).length:Int),aC 0,gq 0,aC s.fail] (Kk s (p.length:Nat) ((0:Nat):Int) s.fail 0):=by
   rw [ep'];exact yD one s _ _ _ _
  have hgen:=yE one hg p.length 0 0 s.fail p8 (Nat.zero_le _) (by decide) (by omega)
  have hz1:(!decide ((0:Int)=0))=false:=by decide
  have hval:jo s p=match kN s p (nS s p) with
   | none=>.tp [.fl (.slice none 0 0),aC 0,aC 0,aC 4]
   | some b=>.tp [.sl (ints (aP b.f)) false,aC b.day,aC b.need,aC 0]:=by unfold jo;rw [if_neg (by omega)]
  have hdp:=Ay (s:=s) (p:=p)
  obtain ⟨L,hL⟩:∃ L,L=nS s p:=⟨_,rfl⟩
  have hgen:B6 TT TB one (Kk s (p.length:Nat) ((0:Nat):Int) s.fail 0) (L.map fun x=>[gq x]):=by rw [hL];exact hgen
  have hlt:∀ y ∈ L,y < 256:=fun y hy=>by
   rw [hL] at hy
   have e:s.fail=((s.fail.toNat:Nat):Int):=by omega
   unfold nS at hy
   rw [e] at hy
   exact Nat.lt_of_lt_of_le (Fw hg (Nat.zero_le _) (by decide) hy) (show 2 ^ p.length≤2 ^ 8 from Nat.pow_le_pow_right (by decide) p8)
  rw [←hL] at hval
  clear hL
  refine ah.body (fn:=Tryd.f25) rfl rfl rfl hdp ?_
  rw [hval]
  refine RM.cS (mu:=fun _=>false) ?_
  repeat' (first |refine u1 ?_ |refine u2 ?_ |fail)
  refine RM.cS (mu:=fun _=>false) ?_
  repeat' (first |refine u1 ?_ |((with_reducible show av _ _ _ _ _ _ _ _);refine ah.call o1 rfl rfl ?_) |refine u2 ?_ |fail)
  refine RM.cS (mu:=fun _=>false) ?_
  repeat' (first |refine u1 ?_ |refine u2 ?_ |fail)
  refine RM.cS (mu:=fun _=>false) ?_
  repeat' (first |refine u1 ?_ |refine u2 ?_ |fail)
  refine aA.seq ?_
  refine RM.cS (mu:=fun _=>false) ?_
  repeat' (first |refine u1 ?_ |((with_reducible show av _ _ _ _ _ _ _ _);refine ah.call o2 rfl rfl ?_) |refine u2 ?_ |fail)
  refine aA.block ?_
  refine aA.range (fun i=>mN s (kN s p (L.take i))) (fun _=>bG.none) (fun _=>True) rfl hgen rfl rfl trivial (fun i x hx _=>?_) (fun _=>?_)
  ·obtain ⟨y,hy,rfl⟩:∃ y,L[i]?=some y∧x=[gq y]:=by
    rw [List.getElem?_map,Option.map_eq_some_iff] at hx
    obtain ⟨y,h1,h2⟩:=hx
    exact ⟨y,h1,h2.symm⟩
   have hy256:=hlt y (List.mem_of_getElem? hy)
   have hnx:=El (s:=s) (p:=p) hy
   have hbok:=fun b h=>wG hg (p:=p) (L.take i) none (fun z hz=>hlt z (List.mem_of_mem_take hz)) (fun _ h=>nomatch h) b h
   have ob:=wj one hpg full y (by omega)
   unfold wh at ob
   refine ⟨rfl,?_⟩
   dsimp only
   rw [hnx]
   change ∀ b,kN s p (L.take i)=some b→b.Ok at hbok
   generalize kN s p (L.take i)=best at *
   refine aa (mu:=fun _=>false) ?_
   repeat' (first |refine u1 ?_ |refine u2 ?_ |fail)
   refine aA.aX (aj.soft (l:=[(3,.pt [.sl (p.map aD) full] 0),(8,.ptr 0 0 0),(9,.ptr 1 0 0),(10,gq y)]) ⟨bO.refl _,bO.refl _,bO.refl _,bO.refl _,trivial⟩) ?_
   cases hb:jZ s p y with
   | none =>
    have hbo:kM s p y=none:=by unfold kM;rw [hb];rfl
    rw [hb] at ob
    exact PZ one ob (fun st h=>by first|exact ⟨_,by first|exact h|(unfold dV;rw [hbo];dsimp only;exact h)⟩|exact ⟨trivial,_,by first|exact h|(unfold dV;rw [hbo];dsimp only;exact h)⟩)
   | some v =>
    obtain ⟨d,n⟩:=v
    have hbo:kM s p y=some ⟨y,(d:Nat),n⟩:=by unfold kM;rw [hb];rfl
    have hok:=(CJ hg hy256 hbo).1
    rw [hb] at ob
    cases best with
    | none=>exact GH one ob (fun st h=>by first|exact ⟨_,by first|exact h|(unfold dV;rw [hbo];dsimp only;exact h)⟩|exact ⟨trivial,_,by first|exact h|(unfold dV;rw [hbo];dsimp only;exact h)⟩)
    | some x=>exact KL one hok (hbok x rfl) ob (fun st h=>by first|exact ⟨_,by first|exact h|(unfold dV;rw [hbo];dsimp only;exact h)⟩|exact ⟨trivial,_,by first|exact h|(unfold dV;rw [hbo];dsimp only;exact h)⟩)
  ·have htl:L.take (L.map fun x=>[gq x]).length=L:=List.take_of_length_le (by rw [List.length_map];exact Nat.le_refl _)
   rw [htl]
   clear htl
   have hbok:=fun b h=>wG hg (p:=p) L none hlt (fun _ h=>nomatch h) b h
   have tl:=KK one s (kN s p L) hbok
   repeat' (first |refine u1 ?_ |refine u2 ?_ |fail)
   refine aA.aX (aj.soft (l:=[(9,.ptr 1 0 0)]) ⟨bO.refl _,trivial⟩) ?_
   exact tl
 ·have hval:jo s p=.tp [.fl (.slice none 0 0),aC 0,aC 0,aC (ey s p).2]:=by unfold jo;rw [if_pos c1]
  rw [hval]
  generalize (ey s p).1=a at *
  generalize (ey s p).2=b at *
  have d1:(!decide (b=0))=true:=by rw [decide_eq_false c1];rfl
  refine ah.body (fn:=Tryd.f25) rfl rfl rfl rfl ?_
  refine aa (mu:=fun _=>false) ?_
  repeat' (first |refine u1 ?_ |((with_reducible show av _ _ _ _ _ _ _ _);refine ah.call o1 rfl rfl ?_) |refine u2 ?_ |fail)
  exact ⟨[_,_,_,_],⟨Fz.deep rfl,Fz.deep rfl,Fz.deep rfl,Fz.deep rfl,trivial⟩,rfl⟩
def jV (s:ai) (p:List Order):Bool:=decide (uo s p=4)
theorem En {s:ai} {p:List Order}:∃ a b c,jo s p=.tp [a,aC b,aC c,aC (uo s p)]∧a.deep=true∧(a=.fl (.slice none 0 0)∨∃ l,a=.sl (ints l) false):=by
 unfold jo uo
 by_cases h:(ey s p).2=0
 ·rw [if_neg (by omega),if_neg (by omega)]
  cases kN s p (nS s p) with
  | none=>exact ⟨_,_,_,rfl,rfl,.inl rfl⟩
  | some b=>exact ⟨_,_,_,rfl,rfl,.inr ⟨_,rfl⟩⟩
 ·rw [if_pos h,if_pos h]
  exact ⟨_,_,_,rfl,rfl,.inl rfl⟩
theorem yL (one:Bool) (s:ai) (hs:s.Ok) (p:List Order) (full:Bool) (hp:RW p):Pu one 37 [.ag (az s),.sl (p.map aD) full] (BB (jV s p)):=by
 have o1:=Em one s hs p full hp
 obtain ⟨a,b,c,e,h1,h2⟩:=En (s:=s) (p:=p)
 rw [e] at o1
 refine ah.body (fn:=Tryd.f37) rfl rfl rfl rfl ?_
 rcases h2 with rfl|⟨l,rfl⟩
 ·refine aa (mu:=fun _=>false) ?_
  repeat' (first |refine u1 ?_ |((with_reducible show av _ _ _ _ _ _ _ _);refine ah.call o1 rfl rfl ?_) |refine u2 ?_ |fail)
  exact ⟨[_],⟨Fz.deep rfl,trivial⟩,rfl⟩
 ·refine aa (mu:=fun _=>false) ?_
  repeat' (first |refine u1 ?_ |((with_reducible show av _ _ _ _ _ _ _ _);refine ah.call o1 rfl rfl ?_) |refine u2 ?_ |fail)
  exact ⟨[_],⟨Fz.deep rfl,trivial⟩,rfl⟩
theorem FI {α:Type} {l:List α} {i:Nat} {d:α} (h:i < l.length):l.getD i d=l[i]:=by rw [List.getD_eq_getElem?_getD,List.getElem?_eq_getElem h];rfl
theorem KM {s:ai} (hg:Good s) {k most y:Nat}:y ∈ rC s k 0 0 (most:Int) ↔ ∃ b:List Bool,b.length=k∧TeLaw.cnt b≤most∧TeLaw.tF s.row.toNat 0 b=true∧Cq 0 0 b=y:=by
 rw [Al hg,List.mem_map]
 constructor
 ·rintro ⟨b,hb,rfl⟩
  obtain ⟨h1,h2,h3⟩:=TeLaw.gP.1 hb
  exact ⟨b,h1,h2,h3,rfl⟩
 ·rintro ⟨b,h1,h2,h3,rfl⟩
  exact ⟨b,TeLaw.gP.2 ⟨h1,h2,h3⟩,rfl⟩
def kO (a b:Int × Int):Prop:=a.1 < b.1∨(a.1=b.1∧a.2≤b.2)
theorem kO.refl (a:Int × Int):kO a a:=.inr ⟨rfl,Int.le_refl _⟩
theorem kO.trans {a b c:Int × Int} (h:kO a b) (k:kO b c):kO a c:=by unfold kO at *;omega
def gE.key (b:gE):Int × Int:=(b.day,b.need)
theorem GI {b x:gE} (h:eZ b x=true):kO b.key x.key:=by
 unfold eZ at h
 unfold kO gE.key
 dsimp only
 split at h
 ·have:=of_decide_eq_true h;omega
 ·split at h
  ·have:=of_decide_eq_true h;omega
  ·omega
theorem Eo {b x:gE} (h:eZ b x=false):kO x.key b.key:=by
 unfold eZ at h
 unfold kO gE.key
 dsimp only
 split at h
 ·have:=of_decide_eq_false h;omega
 ·split at h
  ·have:=of_decide_eq_false h;omega
  ·omega
theorem qg {s:ai} {p:List Order}:∀ (L:List Nat) (o:Option gE),(L.foldl (dV s p) o=none→o=none∧∀ y ∈ L,kM s p y=none) ∧
  ∀ b,L.foldl (dV s p) o=some b→(o=some b∨∃ y ∈ L,kM s p y=some b)∧(∀ x,o=some x→kO b.key x.key)∧∀ y ∈ L,∀ c,kM s p y=some c→kO b.key c.key
 | [],o=>⟨fun h=>⟨h,fun y hy=>by cases hy⟩,fun b h=>⟨.inl h,fun x hx=>by have h:o=some b:=h;rw [h] at hx;cases hx;exact kO.refl _,fun y hy=>by cases hy⟩⟩
 | y :: L,o=>by
  obtain ⟨h1,h2⟩:=qg (s:=s) (p:=p) L (dV s p o y)
  rw [List.foldl_cons]
  unfold dV at h1 h2 ⊢
  cases hy:kM s p y with
  | none =>
   rw [hy] at h1 h2
   dsimp only at h1 h2 ⊢
   refine ⟨fun h=>⟨(h1 h).1,fun z hz=>?_⟩,fun b h=>?_⟩
   ·rcases List.mem_cons.1 hz with rfl|hz
    ·exact hy
    ·exact (h1 h).2 z hz
   ·obtain ⟨q1,q2,q3⟩:=h2 b h
    refine ⟨q1.imp id fun ⟨z,hz,e⟩=>⟨z,List.mem_cons_of_mem _ hz,e⟩,q2,fun z hz c hc=>?_⟩
    rcases List.mem_cons.1 hz with rfl|hz
    ·rw [hy] at hc;cases hc
    ·exact q3 z hz c hc
  | some d =>
   rw [hy] at h1 h2
   cases o with
   | none =>
    dsimp only at h1 h2 ⊢
    refine ⟨fun h=>((nomatch (h1 h).1)),fun b h=>?_⟩
    obtain ⟨q1,q2,q3⟩:=h2 b h
    refine ⟨.inr ?_,fun x hx=>(nomatch hx),fun z hz c hc=>?_⟩
    ·rcases q1 with q1|⟨z,hz,e⟩
     ·cases q1;exact ⟨y,List.mem_cons_self,hy⟩
     ·exact ⟨z,List.mem_cons_of_mem _ hz,e⟩
    ·rcases List.mem_cons.1 hz with rfl|hz
     ·rw [hy] at hc;cases hc;exact q2 _ rfl
     ·exact q3 z hz c hc
   | some x =>
    dsimp only at h1 h2 ⊢
    cases hl:eZ d x with
    | true =>
     rw [hl,if_pos rfl] at h1 h2
     rw [if_pos rfl]
     refine ⟨fun h=>((nomatch (h1 h).1)),fun b h=>?_⟩
     obtain ⟨q1,q2,q3⟩:=h2 b h
     refine ⟨.inr ?_,fun z hz=>?_,fun z hz c hc=>?_⟩
     ·rcases q1 with q1|⟨z,hz,e⟩
      ·cases q1;exact ⟨y,List.mem_cons_self,hy⟩
      ·exact ⟨z,List.mem_cons_of_mem _ hz,e⟩
     ·cases hz;exact (q2 _ rfl).trans (GI hl)
     ·rcases List.mem_cons.1 hz with rfl|hz
      ·rw [hy] at hc;cases hc;exact q2 _ rfl
      ·exact q3 z hz c hc
    | false =>
     rw [hl,if_neg (by simp)] at h1 h2
     rw [if_neg (by simp)]
     refine ⟨fun h=>((nomatch (h1 h).1)),fun b h=>?_⟩
     obtain ⟨q1,q2,q3⟩:=h2 b h
     refine ⟨q1.imp id fun ⟨z,hz,e⟩=>⟨z,List.mem_cons_of_mem _ hz,e⟩,fun z hz=>q2 z hz,fun z hz c hc=>?_⟩
     rcases List.mem_cons.1 hz with rfl|hz
     ·rw [hy] at hc;cases hc;exact (q2 _ rfl).trans (Eo hl)
     ·exact q3 z hz c hc
theorem wH {s:ai} {p:List Order} {y:Nat}:kM s p y=none ↔ jZ s p y=none:=by unfold kM;rw [Option.map_eq_none_iff]
theorem GJ {s:ai} {p:List Order} {L:List Nat}:kN s p L=none ↔ ∀ y ∈ L,jZ s p y=none:=by
 constructor
 ·exact fun h y hy=>wH.1 (((qg L none).1 h).2 y hy)
 ·intro h
  cases hb:kN s p L with
  | none=>rfl
  | some b =>
   rcases ((qg L none).2 b hb).1 with e|⟨y,hy,e⟩
   ·cases e
   ·rw [wH.2 (h y hy)] at e;cases e
theorem CK {s:ai} {p:List Order} {most:Int}:fm s p 0 0 most=true ↔ kN s p (rC s p.length 0 0 most)=none:=by
 rw [GJ]
 unfold fm
 rw [List.all_eq_true]
 exact ⟨fun h y hy=>Option.isNone_iff_eq_none.1 (h y hy),fun h y hy=>Option.isNone_iff_eq_none.2 (h y hy)⟩
end Go.Proofs.YtpeogffeoehboaaDoor
