/-
  Contracts of the program's functions and of the document's. Lemmas alone; their conditions stand in them.
-/
import Derived.Test.YtkappgolfkiaeaaGreatDoorK7
open Go Go.RM
namespace Go.Proofs.YtkappgolfkiaeaaGreatDoor
set_option maxRecDepth 100000
set_option maxHeartbeats 4000000
def fB (b x:hJ):Bool :=
 if b.day - x.day ≠ 0 then decide (b.day - x.day < 0)
 else if b.need - x.need ≠ 0 then decide (b.need - x.need < 0)
 else if ((mO b.f:Nat):Int) - (mO x.f:Nat) ≠ 0 then decide (((mO b.f:Nat):Int) - (mO x.f:Nat) < 0)
 else decide (xl (fo b.f) (fo x.f) < 0)
def lM (s:aC) (p:List Order) (y:Nat):Option hJ:=(mM s p y).map fun x=>⟨y,(x.1:Nat),x.2⟩
def eu (s:aC) (p:List Order) (best:Option hJ) (y:Nat):Option hJ:=match lM s p y with
 | none=>best
 | some b=>match best with
  | none=>some b
  | some x=>if fB b x=true then some b else some x
def nV (s:aC) (p:List Order) (L:List Nat):Option hJ:=L.foldl (eu s p) none
theorem EH {s:aC} {p:List Order} {L:List Nat} {i y:Nat} (h:L[i]?=some y):nV s p (L.take (i+1))=eu s p (nV s p (L.take i)) y:=by unfold nV;rw [List.take_add_one,h,List.foldl_append];rfl
theorem Jw {s:aC} (_:Good s) {p:List Order} {y d:Nat} {n:Int} (h:mM s p y=some (d,n)):d < s.days.toNat∧0≤n∧n < s.needs.length∧n=zeroAt s p y d:=by
 unfold mM at h;rw [Option.map_eq_some_iff] at h;obtain ⟨d',h1,h2⟩:=h;rw [List.find?_range_eq_some] at h1;obtain ⟨q1,q2,_⟩:=h1;simp only [Prod.mk.injEq] at h2;obtain ⟨rfl,rfl⟩:=h2;refine ⟨by simpa using q2,of_decide_eq_true q1,?_,rfl⟩;have q1:=of_decide_eq_true q1;unfold zeroAt l5 at q1 ⊢
 cases hf:(ME s p y d').findIdx? fun x=>decide (0=x) with
 | none=>rw [hf] at q1;simp at q1
 | some i =>rw [List.findIdx?_eq_some_iff_getElem] at hf;obtain ⟨hlt,_⟩:=hf;rw [A9] at hlt;dsimp only;omega
theorem C8 {s:aC} (hg:Good s) {p:List Order} {y:Nat} (hy:y < 256) {b:hJ} (h:lM s p y=some b):b.Ok∧b.f=y:=by unfold lM at h;rw [Option.map_eq_some_iff] at h;obtain ⟨⟨d,n⟩,h1,rfl⟩:=h;have:=Jw hg h1;have h2:=hg.days;have h3:=hg.len;exact ⟨⟨hy,⟨by dsimp only;omega,by dsimp only;omega⟩,⟨by dsimp only;omega,by dsimp only;omega⟩⟩,rfl⟩
theorem xm {s:aC} (hg:Good s) {p:List Order}:∀ (L:List Nat) (best:Option hJ),(∀ y ∈ L,y < 256)→(∀ b,best=some b→b.Ok)→∀ b,L.foldl (eu s p) best=some b→b.Ok
 | [],best,_,hb,b,h=>hb b h
 | y :: L,best,hL,hb,b,h=>by
  refine xm hg L (eu s p best y) (fun z hz=>hL z (List.mem_cons_of_mem _ hz)) (fun c hc=>?_) b h;unfold eu at hc
  cases ho:lM s p y with
  | none=>rw [ho] at hc;exact hb c hc
  | some d =>
   rw [ho] at hc;have hd:=(C8 hg (hL y List.mem_cons_self) ho).1
   cases hbb:best with
   | none =>rw [hbb] at hc;cases hc;exact hd
   | some x =>
    rw [hbb] at hc;dsimp only at hc;split at hc
    ·cases hc;exact hd
    ·cases hc;exact hb _ hbb
theorem ep {T:bL} {t:TypeId} {hp:List AB} {K:AV→List AB→Prop} {o:BinOp} {x y:Operand} {a:AV} {j aF p:Nat} {b:Bool} (ha:a=.ptr j aF p) (ht:qA T.P t=true) (ho:jA o=some (.bool b,.none)) (k:K (.fl (.bool b)) hp):bw T o t x y a (.fl (.pointer none)) hp K:=by subst ha;exact ⟨ht,_,ho,k⟩
def jz (s:aC) (p:List Order):AV:=if (gx s p).2 ≠ 0 then .tp [.fl (.slice none 0 0),av 0,av 0,av (gx s p).2] else match nV s p (Hf s p) with
 | none=>.tp [.fl (.slice none 0 0),av 0,av 0,av 4]
 | some b=>.tp [.sl (ints (fo b.f)) false,av b.day,av b.need,av 0]
theorem Be {s:aC} {p:List Order}:(jz s p).deep=true:=by
 unfold jz;split
 ·rfl
 ·split <;> rfl
def nH (s:aC):Option hJ→List AB
 | none=>[.cells (aH s) 0 0,.cells [.fl (.pointer none)] 0 0]
 | some b=>[.cells (aH s) 0 0,.cells [.ptr 2 0 0] 0 0,.cells (x7 b) 0 0]
theorem Hj {st:cH} {s:aC} {x b:hJ} (h:st.hp=[.cells (aH s) 0 0,.cells [.ptr 3 0 0] 0 0,.cells (x7 x) 0 0,.cells (x7 b) 0 0]) (hf:st.fl≤2):ai st ⟨bA [],nH s (some b),st.aO,st.rd,st.fl⟩:=by
 refine ai.trans (ai.R7 (l:=[]) 2 3 (x:=.cells (x7 b) 0 0) (y:=.cells (x7 x) 0 0) (hp:=[.cells (aH s) 0 0,.cells [.ptr 2 0 0] 0 0,.cells (x7 b) 0 0,.gone]) (by decide) (by rw [h];rfl) (by rw [h];rfl) hf (by omega) trivial (by rw [h];rfl) (fun z hz=>?_) rfl (fun i z z' h1 h2 hz hz'=>?_)) (ai.to (l:=[]) 3 rfl trivial (by show st.fl≤3;omega) rfl rfl)
 ·cases hz;exact .same rfl rfl
 ·rw [h] at hz
  match i,h1,h2 with
  | 0,_,_ =>cases hz;cases hz';exact .same rfl rfl
  | 1,_,_ =>
   cases hz;cases hz';refine .cells rfl fun i v w hv hw=>?_
   match i with
   | 0=>cases hv;cases hw;exact .ptr
   | i+1=>cases hv
  | i+4,_,_=>cases hz
theorem R9 {b x:hJ} (h:b.day - x.day ≠ 0):fB b x=decide (b.day - x.day < 0):=by unfold fB;rw [if_pos h]
theorem Sa {b x:hJ} (h:b.day - x.day=0) (h2:b.need - x.need ≠ 0):fB b x=decide (b.need - x.need < 0):=by unfold fB;rw [if_neg (by omega),if_pos h2]
theorem Sb {b x:hJ} (h:b.day - x.day=0) (h2:b.need - x.need=0) (h3:((mO b.f:Nat):Int) - (mO x.f:Nat) ≠ 0):fB b x=decide (((mO b.f:Nat):Int) - (mO x.f:Nat) < 0):=by unfold fB;rw [if_neg (by omega),if_neg (by omega),if_pos h3]
theorem Oh {b x:hJ} (h:b.day - x.day=0) (h2:b.need - x.need=0) (h3:((mO b.f:Nat):Int) - (mO x.f:Nat)=0):fB b x=decide (xl (fo b.f) (fo x.f) < 0):=by unfold fB;rw [if_neg (by omega),if_neg (by omega),if_neg (by omega)]
def Bf (b x:hJ):Nat→Int
 | 0=>b.day - x.day
 | 1=>b.need - x.need
 | 2=>((mO b.f:Nat):Int) - (mO x.f:Nat)
 | _=>xl (fo b.f) (fo x.f)
theorem Jx {b x:hJ}:∀ k,k < 4→(∀ j,j < k→Bf b x j=0)→Bf b x k ≠ 0→fB b x=decide (Bf b x k < 0)
 | 0,_,_,h=>R9 h
 | 1,_,hz,h=>Sa (hz 0 (by decide)) h
 | 2,_,hz,h=>Sb (hz 0 (by decide)) (hz 1 (by decide)) h
 | 3,_,hz,_=>Oh (hz 0 (by decide)) (hz 1 (by decide)) (hz 2 (by decide))
theorem Hl {b x:hJ} (hz:∀ j,j < 4→Bf b x j=0):fB b x=false:=by have h3:xl (fo b.f) (fo x.f)=0:=hz 3 (by decide);rw [Oh (hz 0 (by decide)) (hz 1 (by decide)) (hz 2 (by decide)),h3];rfl
theorem Nt (one:Bool) {b x:hJ} (hb:b.Ok) (hx:x.Ok):∀ k:Nat,k < 4→∃ F:FuncId,([[.fn 49 [] []],[.fn 50 [] []],[.fn 51 [] []],[.fn 52 [] []]]:List (List AV))[((k:Nat):Int).toNat]?=some [.fn F [] []]∧Pu one F [.ag (x7 b),.ag (x7 x)] (av (Bf b x k))
 | 0,_=>⟨49,rfl,Nr one hb hx⟩
 | 1,_=>⟨50,rfl,Jt one hb hx⟩
 | 2,_=>⟨51,rfl,Ju one hb hx⟩
 | 3,_=>⟨52,rfl,Jv one hb hx⟩
noncomputable def Ho:Code→Code
 | .seq _ b=>b
 | c=>c
noncomputable def Ud:Code→Code
 | .seq a _=>a
 | c=>c
noncomputable def Ue:Code→Code
 | .block _ (.rangeFunc _ _ _ b)=>b
 | c=>c
noncomputable def Sc:Code:=Ho (Ho (Ho (Ho (Tryz.f13.body.getD .skip))))
noncomputable def Uf:Code:=Ho Sc
noncomputable def Qd:Code:=Ue (Ho (Ud Sc))
def Qe:Option hJ→AV
 | none=>.tp [.fl (.slice none 0 0),av 0,av 0,av 4]
 | some b=>.tp [.sl (ints (fo b.f)) false,av b.day,av b.need,av 0]
theorem Jy (one:Bool) (s:aC) (best:Option hJ) (hbok:∀ b,best=some b→b.Ok):aE TT TB one Uf ⟨bA [(9,.ptr 1 0 0)],nH s best,cz.none,false,0⟩ (PR TT Tryz.f13.results.toList (Qe best)):=by
 cases best with
 | none =>
  refine qq1 ?_;repeat' first|refine u1 ?_|refine u2 ?_|fail
  exact ⟨[_,_,_,_],⟨Fz.deep rfl,Fz.deep rfl,Fz.deep rfl,Fz.deep rfl,trivial⟩,rfl⟩
 | some b =>
  have hb:=hbok b rfl;have ol:=EF true hb.1;refine qq2 ?_;repeat' first|refine u1 ?_|(refine ep rfl (by kernel_rfl) rfl ?_)|refine u2 ?_|fail
  refine aE.seq ?_;refine aE.R8 (mu:=fun _=>false) rfl rfl ?_;repeat' first|refine RM.UX ?_|refine u1 ?_|(refine ⟨_,ol,?_⟩)|refine u2 ?_|fail
  refine qq1 ?_;repeat' first|refine u1 ?_|refine u2 ?_|fail
  exact ⟨[_,_,_,_],⟨Fz.deep rfl,Fz.deep rfl,Fz.deep rfl,Fz.deep rfl,trivial⟩,rfl⟩
theorem Qf (one:Bool) {s:aC} {p:List Order} {full:Bool} {y:Nat} {best:Option hJ} (ob:Pu one 48 [.ag (aH s),.sl (p.map aL) full,i7 y] (.tp [.ag [i7 0,av 0,av 0],BB false])) {K:Exit→cH→Prop} (hK:∀ st,ai st ⟨bA [],nH s best,cz.none,st.rd,st.fl⟩→K .normal st) :
  aE TT TB one Qd ⟨bA [(3,.pt [.sl (p.map aL) full] 0),(8,.ptr 0 0 0),(9,.ptr 1 0 0),(10,i7 y)],nH s best,cz.none,true,2⟩ K:=by
 cases best with
 | none =>
  refine aE.block ?_;refine qq1 ?_;repeat' first|refine u1 ?_|((with_reducible refine qq3 ?_);refine af.call ob rfl rfl ?_)|refine u2 ?_|fail
  exact hK _ (ai.to (l:=[]) 2 rfl trivial (Nat.le_of_ble_eq_true rfl) rfl rfl)
 | some x =>
  refine aE.block ?_;refine qq1 ?_;repeat' first|refine u1 ?_|((with_reducible refine qq3 ?_);refine af.call ob rfl rfl ?_)|refine u2 ?_|fail
  exact hK _ (ai.to (l:=[]) 3 rfl trivial (Nat.le_of_ble_eq_true rfl) rfl rfl)
theorem Hq (one:Bool) {s:aC} {p:List Order} {full:Bool} {y d:Nat} {n:Int} (ob:Pu one 48 [.ag (aH s),.sl (p.map aL) full,i7 y] (.tp [.ag [i7 y,av (d:Nat),av n],BB true])) {K:Exit→cH→Prop} (hK:∀ st,ai st ⟨bA [],nH s (some (⟨y,((d:Nat):Int),n⟩:hJ)),cz.none,st.rd,st.fl⟩→K .normal st) :
  aE TT TB one Qd ⟨bA [(3,.pt [.sl (p.map aL) full] 0),(8,.ptr 0 0 0),(9,.ptr 1 0 0),(10,i7 y)],nH s none,cz.none,true,2⟩ K:=by
 refine aE.block ?_;refine qq2 ?_;repeat' first|refine u1 ?_|((with_reducible refine qq3 ?_);refine af.call ob rfl rfl ?_)|refine u2 ?_|fail
 refine qq2 ?_;repeat' first|refine u1 ?_|refine u2 ?_|fail
 refine qq2 ?_;repeat' first|refine u1 ?_|refine u2 ?_|fail
 refine aE.aS (ai.to (l:=[(3,.pt [.sl (p.map aL) full] 0),(8,.ptr 0 0 0),(9,.ptr 1 0 0),(11,.ptr 2 0 0),(43,.sl [[.fn 49 [] []],[.fn 50 [] []],[.fn 51 [] []],[.fn 52 [] []]] true),(44,av 4),(45,av (0:Nat))]) (hp:=[.cells (aH s) 0 0,.cells [.fl (.pointer none)] 0 0,.cells (x7 (⟨y,((d:Nat):Int),n⟩:hJ)) 0 0]) 3 rfl ⟨rfl,rfl,rfl,rfl,rfl,rfl,rfl,trivial⟩ (Nat.le_of_ble_eq_true rfl) rfl rfl) ?_;refine aE.block ?_;refine aE.loop (fun k:Nat=>k=0) (fun k=>⟨bA [(3,.pt [.sl (p.map aL) full] 0),(8,.ptr 0 0 0),(9,.ptr 1 0 0),(11,.ptr 2 0 0),(43,.sl [[.fn 49 [] []],[.fn 50 [] []],[.fn 51 [] []],[.fn 52 [] []]] true),(44,av 4),(45,av (k:Nat))],[.cells (aH s) 0 0,.cells [.fl (.pointer none)] 0 0,.cells (x7 (⟨y,((d:Nat):Int),n⟩:hJ)) 0 0],cz.none,true,2⟩) (fun k=>k) ?_ 0 rfl;rintro k rfl;have e1:decide ((-1:Int) < 0)=true:=by decide
 have e2:(!decide ((-1:Int)=0))=true:=by decide
 have e3:decide (((0:Nat):Int) < 4)=true:=by decide
 refine qq1 ?_;repeat' first|refine u1 ?_|(refine ⟨[.fn 49 [] []],⟨by omega,rfl⟩,rfl,?_⟩)|refine u2 ?_|fail
 exact hK _ (ai.to (l:=[]) 3 rfl trivial (Nat.le_of_ble_eq_true rfl) rfl rfl)
theorem Jz (one:Bool) {s:aC} {p:List Order} {full:Bool} {y d:Nat} {n:Int} {x:hJ} (hok:(⟨y,((d:Nat):Int),n⟩:hJ).Ok) (hx:x.Ok) (ob:Pu one 48 [.ag (aH s),.sl (p.map aL) full,i7 y] (.tp [.ag [i7 y,av (d:Nat),av n],BB true])) {K:Exit→cH→Prop} (hK:∀ st,ai st ⟨bA [],nH s (if fB (⟨y,((d:Nat):Int),n⟩:hJ) x=true then some (⟨y,((d:Nat):Int),n⟩:hJ) else some x),cz.none,st.rd,st.fl⟩→K .normal st) :
  aE TT TB one Qd ⟨bA [(3,.pt [.sl (p.map aL) full] 0),(8,.ptr 0 0 0),(9,.ptr 1 0 0),(10,i7 y)],nH s (some x),cz.none,true,2⟩ K:=by
 have hcs:=Nt one hok hx;have hls:=Jx (b:=(⟨y,((d:Nat):Int),n⟩:hJ)) (x:=x);have hl0:=Hl (b:=(⟨y,((d:Nat):Int),n⟩:hJ)) (x:=x)
 have hnew:∀ r:hJ,(if fB (⟨y,((d:Nat):Int),n⟩:hJ) x=true then some (⟨y,((d:Nat):Int),n⟩:hJ) else some x)=some r→(fB (⟨y,((d:Nat):Int),n⟩:hJ) x=true∧r=(⟨y,((d:Nat):Int),n⟩:hJ))∨(fB (⟨y,((d:Nat):Int),n⟩:hJ) x=false∧r=x):=fun r h=>by
  cases hl:fB (⟨y,((d:Nat):Int),n⟩:hJ) x with
  | true=>rw [hl,if_pos rfl] at h;exact .inl ⟨rfl,(Option.some.inj h).symm⟩
  | false=>rw [hl,if_neg (by simp)] at h;exact .inr ⟨rfl,(Option.some.inj h).symm⟩
 obtain ⟨r,hr⟩:∃ r,(if fB (⟨y,((d:Nat):Int),n⟩:hJ) x=true then some (⟨y,((d:Nat):Int),n⟩:hJ) else some x)=some r:=by
  cases fB (⟨y,((d:Nat):Int),n⟩:hJ) x with
  | true=>exact ⟨_,rfl⟩
  | false=>exact ⟨_,rfl⟩
 have hrr:=hnew r hr;rw [hr] at hK;clear hr;clear hnew hok hx;refine aE.block ?_;refine qq2 ?_;repeat' first|refine u1 ?_|((with_reducible refine qq3 ?_);refine af.call ob rfl rfl ?_)|refine u2 ?_|fail
 refine qq2 ?_;repeat' first|refine u1 ?_|refine u2 ?_|fail
 refine qq2 ?_;repeat' first|refine u1 ?_|refine u2 ?_|fail
 refine aE.aS (ai.to (l:=[(3,.pt [.sl (p.map aL) full] 0),(8,.ptr 0 0 0),(9,.ptr 1 0 0),(11,.ptr 3 0 0),(43,.sl [[.fn 49 [] []],[.fn 50 [] []],[.fn 51 [] []],[.fn 52 [] []]] true),(44,av 4),(45,av (0:Nat))]) (hp:=[.cells (aH s) 0 0,.cells [.ptr 2 0 0] 0 0,.cells (x7 x) 0 0,.cells (x7 (⟨y,((d:Nat):Int),n⟩:hJ)) 0 0]) 4 rfl ⟨rfl,rfl,rfl,rfl,rfl,rfl,rfl,trivial⟩ (Nat.le_of_ble_eq_true rfl) rfl rfl) ?_;refine aE.block ?_;clear ob;refine aE.loop (fun k:Nat=>k≤4∧∀ j,j < k→Bf (⟨y,((d:Nat):Int),n⟩:hJ) x j=0) (fun k=>⟨bA [(3,.pt [.sl (p.map aL) full] 0),(8,.ptr 0 0 0),(9,.ptr 1 0 0),(11,.ptr 3 0 0),(43,.sl [[.fn 49 [] []],[.fn 50 [] []],[.fn 51 [] []],[.fn 52 [] []]] true),(44,av 4),(45,av (k:Nat))],[.cells (aH s) 0 0,.cells [.ptr 2 0 0] 0 0,.cells (x7 x) 0 0,.cells (x7 (⟨y,((d:Nat):Int),n⟩:hJ)) 0 0],cz.none,true,2⟩) (fun k=>4 - k) ?_ 0 ⟨qq5 _,fun j hj=>absurd hj (Nat.not_lt_zero _)⟩;rintro k ⟨hk,hz⟩;refine qq1 ?_;by_cases hk4:k < 4
 ·have e3:decide ((k:Int) < 4)=true:=decide_eq_true (by omega);obtain ⟨F,hF,q⟩:=hcs k hk4;have hls:=hls k hk4 hz
  have hz1:Bf (⟨y,((d:Nat):Int),n⟩:hJ) x k=0→∀ j,j < k+1→Bf (⟨y,((d:Nat):Int),n⟩:hJ) x j=0:=fun h j hj=>by
   by_cases e:j=k
   ·subst e;exact h
   ·exact hz j (by omega)
  clear hz hcs hl0;generalize Bf (⟨y,((d:Nat):Int),n⟩:hJ) x k=w at q hls hz1;by_cases z:w=0
  ·subst z;have e0:(!decide ((0:Int)=0))=false:=by decide
   have e9:decide ((0:Int) < 0)=false:=by decide
   have hz2:=hz1 rfl;clear hls hz1 hrr;repeat' first|(refine RM.c5 (c:=5) (l1:=[_,_,_,_,_]) (l2:=[_,_]) (by kernel_rfl) rfl rfl ?_)|(refine ep rfl (by kernel_rfl) rfl ?_)|((with_reducible refine qq3 ?_);refine af.call q rfl rfl ?_)|refine u1 ?_|(refine ⟨[.fn F [] []],⟨by omega,hF⟩,rfl,?_⟩)|refine u2 ?_|fail
   exact ⟨k+1,⟨by omega,hz2⟩,(by dsimp only;omega),ai.to 4 rfl ⟨rfl,rfl,rfl,rfl,rfl,rfl,aJ (by simp),trivial⟩ (Nat.le_of_ble_eq_true rfl) rfl rfl⟩
  ·have e2:(!decide (w=0))=true:=by rw [decide_eq_false z];rfl
   have hls:=hls z;by_cases hn:w < 0
   ·have e1:=decide_eq_true hn;rw [e1] at hls;obtain ⟨_,rfl⟩:fB (⟨y,((d:Nat):Int),n⟩:hJ) x=true∧r=(⟨y,((d:Nat):Int),n⟩:hJ):=hrr.elim id (fun h=>by rw [hls] at h;cases h.1);clear hls hz1 hrr;repeat' first|(refine RM.c5 (c:=5) (l1:=[_,_,_,_,_]) (l2:=[_,_]) (by kernel_rfl) rfl rfl ?_)|(refine ep rfl (by kernel_rfl) rfl ?_)|((with_reducible refine qq3 ?_);refine af.call q rfl rfl ?_)|refine u1 ?_|(refine ⟨[.fn F [] []],⟨by omega,hF⟩,rfl,?_⟩)|refine u2 ?_|fail
    exact hK _ (Hj rfl (qq6 _))
   ·have e1:=decide_eq_false hn;rw [e1] at hls;obtain ⟨_,rfl⟩:fB (⟨y,((d:Nat):Int),n⟩:hJ) x=false∧r=x:=hrr.elim (fun h=>by rw [hls] at h;cases h.1) id;clear hls hz1 hrr;repeat' first|(refine RM.c5 (c:=5) (l1:=[_,_,_,_,_]) (l2:=[_,_]) (by kernel_rfl) rfl rfl ?_)|(refine ep rfl (by kernel_rfl) rfl ?_)|((with_reducible refine qq3 ?_);refine af.call q rfl rfl ?_)|refine u1 ?_|(refine ⟨[.fn F [] []],⟨by omega,hF⟩,rfl,?_⟩)|refine u2 ?_|fail
    exact hK _ (ai.to (l:=[]) 3 rfl trivial (Nat.le_of_ble_eq_true rfl) rfl rfl)
 ·have e3:decide ((k:Int) < 4)=false:=decide_eq_false (by omega);have hls:=hl0 fun j hj=>hz j (by omega);obtain ⟨_,rfl⟩:fB (⟨y,((d:Nat):Int),n⟩:hJ) x=false∧r=x:=hrr.elim (fun h=>by rw [hls] at h;cases h.1) id;repeat' first|refine u1 ?_|(refine RM.c5 (c:=5) (l1:=[_,_,_,_,_]) (l2:=[_,_]) (by kernel_rfl) rfl rfl ?_)|refine u2 ?_|fail
  exact hK _ (ai.to (l:=[]) 3 rfl trivial (Nat.le_of_ble_eq_true rfl) rfl rfl)
theorem EI (one:Bool) (s:aC) (hs:s.Ok) (p:List Order) (full:Bool) (hp:RS p):Pu one 13 [.ag (aH s),.sl (p.map aL) full] (jz s p):=by
 have o1:=Jd one s hs p full hp;by_cases c1:(gx s p).2=0
 ·have hpg:=mK c1;have hg:=hpg.good;have hfail:=hg.fail;have p8:=hpg.len;rw [c1] at o1
  generalize (gx s p).1=a at *
  have ep':((p.map aL).length:Int)=p.length:=by simp
  have o2:Pu one 47 [.ag (aH s),av ((p.map aL).length:Int),av 0,i7 0,av s.fail] (Nl s (p.length:Nat) ((0:Nat):Int) s.fail 0):=by rw [ep'];exact G9 one s _ _ _ _
  have hgen:=He one hg p.length 0 0 s.fail p8 (qq5 _) (by decide) (by omega);have hz1:(!decide ((0:Int)=0))=false:=by decide
  have hval:jz s p=match nV s p (Hf s p) with
   | none=>.tp [.fl (.slice none 0 0),av 0,av 0,av 4]
   | some b=>.tp [.sl (ints (fo b.f)) false,av b.day,av b.need,av 0]:=by unfold jz;rw [if_neg (by omega)]
  have hdp:=Be (s:=s) (p:=p);obtain ⟨L,hL⟩:∃ L,L=Hf s p:=⟨_,rfl⟩;have hgen:yM TT TB one (Nl s (p.length:Nat) ((0:Nat):Int) s.fail 0) (L.map fun x=>[i7 x]):=by rw [hL];exact hgen
  have hlt:∀ y ∈ L,y < 256:=fun y hy=>by
   rw [hL] at hy;have e:s.fail=((s.fail.toNat:Nat):Int):=by omega
   unfold Hf at hy;rw [e] at hy;exact Nat.lt_of_lt_of_le (Nn hg (qq5 _) (by decide) hy) (show 2 ^ p.length≤2 ^ 8 from Nat.pow_le_pow_right (by decide) p8)
  rw [←hL] at hval;clear hL;refine af.body (fn:=Tryz.f13) rfl rfl rfl hdp ?_;rw [hval];refine qq2 ?_;repeat' first|refine u1 ?_|refine u2 ?_|fail
  refine qq2 ?_;repeat' first|refine u1 ?_|((with_reducible refine qq3 ?_);refine af.call o1 rfl rfl ?_)|refine u2 ?_|fail
  refine qq2 ?_;repeat' first|refine u1 ?_|refine u2 ?_|fail
  refine qq2 ?_;repeat' first|refine u1 ?_|refine u2 ?_|fail
  refine aE.seq ?_;refine qq2 ?_;repeat' first|refine u1 ?_|((with_reducible refine qq3 ?_);refine af.call o2 rfl rfl ?_)|refine u2 ?_|fail
  refine aE.block ?_;refine aE.range (fun i=>nH s (nV s p (L.take i))) (fun _=>cz.none) (fun _=>True) rfl hgen rfl rfl trivial (fun i x hx _=>?_) (fun _=>?_)
  ·obtain ⟨y,hy,rfl⟩:∃ y,L[i]?=some y∧x=[i7 y]:=by rw [List.getElem?_map,Option.map_eq_some_iff] at hx;obtain ⟨y,h1,h2⟩:=hx;exact ⟨y,h1,h2.symm⟩
   have hy256:=hlt y (List.mem_of_getElem? hy);have hnx:=EH (s:=s) (p:=p) hy;have hbok:=fun b h=>xm hg (p:=p) (L.take i) none (fun z hz=>hlt z (List.mem_of_mem_take hz)) (fun _ h=>nomatch h) b h;have ob:=C2 one hpg full y (by omega);unfold Ba at ob;refine ⟨rfl,?_⟩;dsimp only;rw [hnx];change ∀ b,nV s p (L.take i)=some b→b.Ok at hbok
   generalize nV s p (L.take i)=best at *
   refine qq1 ?_;repeat' first|refine u1 ?_|refine u2 ?_|fail
   refine aE.aS (ai.soft (l:=[(3,.pt [.sl (p.map aL) full] 0),(8,.ptr 0 0 0),(9,.ptr 1 0 0),(10,i7 y)]) ⟨fJ.refl _,fJ.refl _,fJ.refl _,fJ.refl _,trivial⟩) ?_
   cases hb:mM s p y with
   | none =>
    have hbo:lM s p y=none:=by unfold lM;rw [hb];rfl
    rw [hb] at ob;exact Qf one ob (fun st h=>by first|exact ⟨_,by first|exact h|(unfold eu;rw [hbo];dsimp only;exact h)⟩|exact ⟨trivial,_,by first|exact h|(unfold eu;rw [hbo];dsimp only;exact h)⟩)
   | some v =>
    obtain ⟨d,n⟩:=v;have hbo:lM s p y=some ⟨y,(d:Nat),n⟩:=by unfold lM;rw [hb];rfl
    have hok:=(C8 hg hy256 hbo).1;rw [hb] at ob
    cases best with
    | none=>exact Hq one ob (fun st h=>by first|exact ⟨_,by first|exact h|(unfold eu;rw [hbo];dsimp only;exact h)⟩|exact ⟨trivial,_,by first|exact h|(unfold eu;rw [hbo];dsimp only;exact h)⟩)
    | some x=>exact Jz one hok (hbok x rfl) ob (fun st h=>by first|exact ⟨_,by first|exact h|(unfold eu;rw [hbo];dsimp only;exact h)⟩|exact ⟨trivial,_,by first|exact h|(unfold eu;rw [hbo];dsimp only;exact h)⟩)
  ·have htl:L.take (L.map fun x=>[i7 x]).length=L:=List.take_of_length_le (by rw [List.length_map];exact qq6 _);rw [htl];clear htl;have hbok:=fun b h=>xm hg (p:=p) L none hlt (fun _ h=>nomatch h) b h;have tl:=Jy one s (nV s p L) hbok;repeat' first|refine u1 ?_|refine u2 ?_|fail
   refine aE.aS (ai.soft (l:=[(9,.ptr 1 0 0)]) ⟨fJ.refl _,trivial⟩) ?_;exact tl
 ·have hval:jz s p=.tp [.fl (.slice none 0 0),av 0,av 0,av (gx s p).2]:=by unfold jz;rw [if_pos c1]
  rw [hval]
  generalize (gx s p).1=a at *
  generalize (gx s p).2=b at *
  have d1:(!decide (b=0))=true:=by rw [decide_eq_false c1];rfl
  refine af.body (fn:=Tryz.f13) rfl rfl rfl rfl ?_;refine qq1 ?_;repeat' first|refine u1 ?_|((with_reducible refine qq3 ?_);refine af.call o1 rfl rfl ?_)|refine u2 ?_|fail
  exact ⟨[_,_,_,_],⟨Fz.deep rfl,Fz.deep rfl,Fz.deep rfl,Fz.deep rfl,trivial⟩,rfl⟩
abbrev U8 (n:Nat):AV:=.fl (.int .u8 ((n:Nat):Int))
theorem w7 {P:Program} {t:TypeId} {x y:Operand} {m:Nat}:eA P .rem t x y (.int .u8 (m:Int)) (.int .u8 2)=some (.int .u8 ((m % 2:Nat):Int),.none):=by
 have h:eA P .rem t x y (.int .u8 (m:Int)) (.int .u8 2)=some (.int .u8 ((m:Int).tmod 2),.none):=by
  show fS P .rem t x y (.int .u8 (m:Int)) (.int .u8 2)=_;unfold fS;simp only [flat,bh,Bool.and_self,cond_true];have:(do eqGuard BinOp.rem t x y (Value.int IntKind.u8 (m:Int)) (Value.int IntKind.u8 2);binOp BinOp.rem t (Value.int IntKind.u8 (m:Int)) (Value.int IntKind.u8 2):Sem Value)=pure (.int .u8 ((m:Int).tmod 2)):=by show Op.intDiv .rem .u8 m 2=_;unfold Op.intDiv;rw [if_neg (by decide)]
  rw [this];rfl
 rw [h,IntWalk.rem_in _ _ (by omega)];rfl
theorem w6 {P:Program} {t:TypeId} {x y:Operand} {m j:Nat} (hj:j < 8):eA P .shr t x y (.int .u8 (m:Int)) (.int .i64 (j:Int))=some (.int .u8 ((m / 2 ^ j:Nat):Int),.none):=by
 have h:eA P .shr t x y (.int .u8 (m:Int)) (.int .i64 (j:Int))=some (.int .u8 ((m:Int).fdiv (2 ^ j)),.none):=by
  match j,hj with
  | 0,_|1,_|2,_|3,_|4,_|5,_|6,_|7,_=>rfl
 rw [h,Int.fdiv_eq_ediv_of_nonneg _ (Int.pow_nonneg (by decide)),Int.natCast_ediv,Int.natCast_pow];rfl
section
variable {x y : Operand} {t : TypeId} {a b : AV} {hp : List AB} {K : AV → List AB → Prop}
theorem uM {m:Nat} (ha:a=U8 m) (hb:b=U8 2) (h:K (U8 (m % 2)) hp):bw TT .rem t x y a b hp K:=by subst ha hb;exact ⟨_,_,rfl,rfl,.int .u8 ((m % 2:Nat):Int),w7,rfl,h⟩
theorem uL {m j:Nat} (ha:a=U8 m) (hb:b=av (j:Nat)) (hj:j < 8) (h:K (U8 (m / 2 ^ j)) hp):bw TT .shr t x y a b hp K:=by subst ha hb;exact ⟨_,_,rfl,rfl,.int .u8 ((m / 2 ^ j:Nat):Int),w6 hj,rfl,h⟩
theorem EJ {m n:Int} (ha:a=.fl (.int .u8 m)) (hb:b=.fl (.int .u8 n)) (h:K (.fl (.bool (decide (m=n)))) hp):bw TT .eql t x y a b hp K:=by subst ha hb;exact ⟨_,_,rfl,rfl,.bool (decide (m=n)),rfl,rfl,h⟩
end
def vg (l:List Order):List AV:=(l.map aL).flatten
theorem vp:∀ l:List Order,(vg l).length=l.length * 2
 | []=>rfl
 | o :: l=>by have:=vp l;show (aL o++vg l).length=_;rw [List.length_append,this];show 2+l.length * 2=(l.length+1) * 2;omega
theorem JA (l:List Order) (o:Order):vg l++[aL o].flatten=vg (l++[o]):=by unfold vg;rw [List.map_append,List.flatten_append];rfl
theorem C9:∀ l:List Order,bG (vg l)=true
 | []=>rfl
 | _ :: l=>C9 l
theorem F5 (j:Nat):∀ l:List Order,wY j (vg l)=true
 | []=>rfl
 | _ :: l=>F5 j l
theorem Bg (n:Nat):∀ l:List Order,iA n (vg l)=true
 | []=>rfl
 | _ :: l=>Bg n l
theorem xo (l:List Order) (v:Nat):([.cells (vg l) 2 v]:List AB).all (AB.jN 1)=true:=by show (iA 1 (vg l) && true)=true;rw [Bg];rfl
theorem sJ (l:List Order) (v:Nat) (C:List Int) (w:Nat):([.cells (vg l) 2 v,.cells (iW C) 1 w]:List AB).all (AB.jN 2)=true:=by show (iA 2 (vg l) && (iA 2 (iW C) && true))=true;rw [Bg,mN 2 (fun _=>rfl) C];rfl
def cV (R most:Int) (raw:Nat):Nat→List Int × Int
 | 0=>([],0)
 | k+1=>if raw.testBit k=true∧((cV R most raw k).1.length:Int) < most∧(cV R most raw k).2 < R then ((cV R most raw k).1++[((k:Nat):Int)],(cV R most raw k).2+1) else ((cV R most raw k).1,0)
def kT (R most:Int) (raw k:Nat):List Int:=(cV R most raw k).1
theorem Bh {R most:Int} {raw:Nat}:∀ k:Nat,(cV R most raw k).1.length≤k∧0≤(cV R most raw k).2∧(cV R most raw k).2≤k
 | 0=>⟨qq6 _,Int.le_refl _,Int.le_refl _⟩
 | k+1=>by
  have ih:=Bh (R:=R) (most:=most) (raw:=raw) k;unfold cV;split
  ·refine ⟨?_,?_,?_⟩
   ·dsimp only;rw [List.length_append];have:=ih.1;simp only [List.length_singleton];omega
   ·dsimp only;omega
   ·dsimp only;omega
  ·exact ⟨by dsimp only;omega,Int.le_refl _,by dsimp only;omega⟩
