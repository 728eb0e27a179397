/-
  A layer of contracts over the abstract machine. Lemmas alone; no condition.
-/
import Derived.Test.YtgdbfbalchdmcaaGreatR4
import Derived.Test.YtgdbfbalchdmcaaGreatA1
import Derived.Test.YtgdbfbalchdmcaaGreatA2
import Derived.IntWalk
import Derived.ProofKit
import Derived.Carry
namespace Go.RM
open Go
theorem KG {P:Program} {t:TypeId} {x y:Operand} {m n:Int} (h0:0≤m) (h2:1≤n):mJ P .rem t x y (.int .i64 m) (.int .i64 n)=some (.int .i64 (m % n),.none):=by
 have hn:n ≠ 0:=by omega
 have h:mJ P .rem t x y (.int .i64 m) (.int .i64 n)=some (.int .i64 (m.tmod n),.none):=by
  show iN P .rem t x y (.int .i64 m) (.int .i64 n)=_
  unfold iN
  simp only [flat,bk,Bool.and_self,cond_true]
  have:(do eqGuard BinOp.rem t x y (Value.int IntKind.i64 m) (Value.int IntKind.i64 n);binOp BinOp.rem t (Value.int IntKind.i64 m) (Value.int IntKind.i64 n):Sem Value)=pure (.int .i64 (m.tmod n)):=by
   show Op.intDiv .rem .i64 m n=_
   unfold Op.intDiv
   rw [if_neg hn]
  rw [this]
  rfl
 rw [h,IntWalk.rem_in m n h0]
theorem KH {P:Program} {t:TypeId} {x y:Operand} {m n:Int} (h0:0≤m) (h1:m≤9223372036854775807) (h2:1≤n):mJ P .quo t x y (.int .i64 m) (.int .i64 n)=some (.int .i64 (m / n),.none):=by
 have hn:n ≠ 0:=by omega
 have h:mJ P .quo t x y (.int .i64 m) (.int .i64 n)=some (.int .i64 (IntKind.i64.wrap (m.tdiv n)),.none):=by
  show iN P .quo t x y (.int .i64 m) (.int .i64 n)=_
  unfold iN
  simp only [flat,bk,Bool.and_self,cond_true]
  have:(do eqGuard BinOp.quo t x y (Value.int IntKind.i64 m) (Value.int IntKind.i64 n);binOp BinOp.quo t (Value.int IntKind.i64 m) (Value.int IntKind.i64 n):Sem Value)=pure (.int .i64 (IntKind.i64.wrap (m.tdiv n))):=by
   show Op.intDiv .quo .i64 m n=_
   unfold Op.intDiv
   rw [if_neg hn]
  rw [this]
  rfl
 rw [h,IntWalk.i64_quo m n ⟨h0,h1,h2⟩]
section
variable {T : bM} {tab : List XE} {one : Bool} {mu : Tmp → Bool}
theorem vK {ops:List Oper} {j:Nat} {want:Bool} {fr:Nat→AV} {yes no:Prop} {d:Tmp} {a0 a1 a2 a3 a4} {b:Bool} (h1:ops[j]?=some ⟨some d,a0,a1,a2,a3,a4⟩) (h2:fr d=.fl (.bool b)) (h3:b=want) (y:yes):cX ops (some (j,want)) fr yes no:=by
 unfold cX
 simp only [h1,h2]
 exact bJ h3 y
theorem ym {ops:List Oper} {j:Nat} {want:Bool} {fr:Nat→AV} {yes no:Prop} {d:Tmp} {a0 a1 a2 a3 a4} {b:Bool} (h1:ops[j]?=some ⟨some d,a0,a1,a2,a3,a4⟩) (h2:fr d=.fl (.bool b)) (h3:b=!want) (n:no):cX ops (some (j,want)) fr yes no:=by
 unfold cX
 simp only [h1,h2]
 exact cu h3 n
theorem rU {ops:List Oper} {j:Nat} {want:Bool} {fr:Nat→AV} {yes no:Prop} {d:Tmp} {a0 a1 a2 a3 a4} {b:Bool} (h1:ops[j]?=some ⟨some d,a0,a1,a2,a3,a4⟩) (h2:fr d=.fl (.bool b)) (y:b=want→yes) (n:b=(!want)→no):cX ops (some (j,want)) fr yes no:=by
 unfold cX
 simp only [h1,h2]
 exact ⟨y,n⟩
theorem BK {ops:List Oper} {j:Nat} {want:Bool} {fr:Nat→AV} {yes no:Prop} {d:Tmp} {a0 a1 a2 a3 a4} {vs:List AV} (h1:ops[j]?=some ⟨some d,a0,a1,a2,a3,a4⟩) (h2:fr d=.tp vs) (n:no):cX ops (some (j,want)) fr yes no:=by
 unfold cX
 simp only [h1,h2]
 exact n
end
end Go.RM
namespace Go.RM
open Go
theorem IV {v:AV} {K:AV→Prop} (h:K v):force v K:=by cases v <;> exact h
section
variable {T : bM} {tab : List XE} {one : Bool} {mu : Tmp → Bool} {own : Bool} {fr : Nat → AV} {hp : List AB} {aA : bW} {rd : Bool} {fl : Nat} {K : AV → List AB → Prop} {KE : Exit → bz → Prop} {KS : bz → Prop} {st : bz} {dst : Option Tmp}
theorem c1 (h:KE .normal st):kC T tab one mu .skip st KE:=h
theorem c2 {a b:Code} (h:kC T tab one mu a st (yc (fun s=>kC T tab one mu b s KE) KE)):kC T tab one mu (.seq a b) st KE:=h
theorem c3 {id:Nat} {c:Code} (h:kC T tab one mu c st (k9 id KE)):kC T tab one mu (.block id c) st KE:=h
theorem c4 {id:Nat} {l:List Oper} (h:wpOps T tab one mu l l st (KE .normal)):kC T tab one mu (.region id l.toArray false) st KE:=h
theorem c5 {id:Nat} {l l1 l2:List Oper} {c:Nat} (hc:gQ l.toArray=c) (h1:l.take c=l1) (h2:l.drop c=l2) (h:j8 T tab mu l.toArray l1 0 (fun _=>0) [] st fun s=>wpOps T tab one mu l l2 s (KE .normal)):kC T tab one mu (.region id l.toArray true) st KE:=by
 subst hc h1 h2
 exact h
theorem c6 {id:Nat} (h:KE (.exit id) st):kC T tab one mu (.exit id) st KE:=h
theorem c7 (h:KE .ret st):kC T tab one mu .ret st KE:=h
theorem c8 {c:Code} (h:kC T tab one mu c st (uO KE)):kC T tab one mu (.scope c) st KE:=h
theorem c9 {Q:bz→Prop} (h:Q st):yc Q KE .normal st:=h
theorem d1 {Q:bz→Prop} (h:KE .ret st):yc Q KE .ret st:=h
theorem d2 {Q:bz→Prop} {id:Nat} (h:KE (.exit id) st):yc Q KE (.exit id) st:=h
theorem d3 {id:Nat} (h:KE .normal st):k9 id KE .normal st:=h
theorem d4 {id:Nat} (h:KE .ret st):k9 id KE .ret st:=h
theorem d5 {id id':Nat} (hb:Nat.beq id' id=true) (h:KE .normal st):k9 id KE (.exit id') st:=by unfold k9;simp only [hb,cond_true];exact h
theorem d6 {id id':Nat} (hb:Nat.beq id' id=false) (h:KE (.exit id') st):k9 id KE (.exit id') st:=by unfold k9;simp only [hb,cond_false];exact h
theorem d7 (h:KE .normal st):uO KE .normal st:=h
theorem d8 (h:KE .ret st):uO KE .ret st:=h
theorem d9 {id:Nat} (h:KE (.exit id) st):uO KE (.exit id) st:=h
theorem e1 {c:Operand} {a b:Code} {t:Bool} (hc:bw st.fr c=.fl (.bool t)) (h:(t=true→kC T tab one mu a st KE)∧(t=false→kC T tab one mu b st KE)):kC T tab one mu (.cond c a b) st KE:=by
 show (match bw st.fr c with|.fl (.bool t)=>_|_=>False)
 rw [hc];exact h
theorem e2 {c:Operand} {a b:Code} {t:Bool} (hc:bw st.fr c=.fl (.bool t)) (ht:t=true) (h:kC T tab one mu a st KE):kC T tab one mu (.cond c a b) st KE:=e1 hc (Kx ht h)
theorem e3 {c:Operand} {a b:Code} {t:Bool} (hc:bw st.fr c=.fl (.bool t)) (ht:t=false) (h:kC T tab one mu b st KE):kC T tab one mu (.cond c a b) st KE:=e1 hc (Mw ht h)
theorem o1 {ops:List Oper} (h:KS st):wpOps T tab one mu ops [] st KS:=h
theorem o2 {ops:List Oper} {op:Op} {a1 a2 a3 gd} {l:List Oper}
 (h:cX ops gd fr (tM T tab one mu dst op fr hp aA rd fl fun st'=>wpOps T tab one mu ops l st' KS) (iA dst fr (.tp []) fun fr'=>wpOps T tab one mu ops l ⟨fr',hp,aA,rd,fl⟩ KS)):wpOps T tab one mu ops (⟨dst,op,a1,a2,a3,gd⟩ :: l) ⟨fr,hp,aA,rd,fl⟩ KS:=h
theorem o3 {ops:Array Oper} {op:Op} {a1 a2 a3 gd} {l:List Oper} {i:Nat} {bt:Nat→Nat} {acc:List wI}
 (h:cX ops.toList gd fr (j7 T tab mu dst op i bt fr hp fun fr' hp' bt' x=>j8 T tab mu ops l (i+1) bt' (x :: acc) ⟨fr',hp',aA,rd,fl⟩ KS)
  (iA dst fr (.tp []) fun fr'=>j8 T tab mu ops l (i+1) (pN dst bt 0) (⟨i,[],false,false⟩ :: acc) ⟨fr',hp,aA,rd,fl⟩ KS)):j8 T tab mu ops (⟨dst,op,a1,a2,a3,gd⟩ :: l) i bt acc ⟨fr,hp,aA,rd,fl⟩ KS:=h
theorem o4 {ops:List Oper} {yes no:Prop} (h:yes):cX ops none fr yes no:=h
theorem o5 {d:Tmp} {v:AV} {P:(Nat→AV)→Prop} (h:P fun t=>bif Nat.beq t d then v else fr t):iA (some d) fr v P:=h
theorem o6 {v:AV} {P:(Nat→AV)→Prop} (h:P fr):iA none fr v P:=h
theorem o7 {f:Operand} {l:List Operand} {tys} (h:force (bw fr f) fun F=>fL (l.map (bw fr)) fun as=>au T tab one F as hp aA fun v hp' amb'=>iA dst fr v fun fr'=>KS ⟨fr',hp',amb',rd,fl⟩) :
 tM T tab one mu dst (.call ⟨.value f,l.toArray,tys⟩) fr hp aA rd fl KS:=h
theorem o8 {op:Op} (hk:dc op=.plain) (h:wpOp T (G2 mu dst) op fr hp fun v hp'=>force v fun v=>iA dst fr v fun fr'=>KS ⟨fr',hp',aA,rd,fl⟩):tM T tab one mu dst op fr hp aA rd fl KS:=by
 unfold tM;rw [hk];exact h
theorem o9 {x:Operand} {l:List Operand} {f:Operand→AV} {P:List AV→Prop} (h:force (f x) fun a=>fL (l.map f) fun l=>P (a :: l)):fL ((x :: l).map f) P:=h
theorem p1 {f:Operand→AV} {P:List AV→Prop} (h:P []):fL (([]:List Operand).map f) P:=h
theorem p2 {x:Operand} (h:K (bw fr x) hp):wpOp T own (.move x) fr hp K:=h
theorem p3 {x:Operand} (h:K (bw fr x) hp):wpOp T own (.assign x) fr hp K:=h
theorem p4 {c a b:Operand} (h:uJ (bw fr c) (bw fr a) (bw fr b) hp K):wpOp T own (.pick c a b) fr hp K:=h
theorem p5 {o:BinOp} {t e:TypeId} {x y:Operand} (h:lC T o t x y (bw fr x) (bw fr y) hp K):wpOp T own (.binOp o t x y e) fr hp K:=h
theorem p6 {x:Operand} {t:TypeId} (h:force (bw fr x) fun v=>tK T t v hp K):wpOp T own (.call ⟨.builtin .len,[x].toArray,[t].toArray⟩) fr hp K:=IV (eo h)
theorem p7 {f:FuncId} {a b:List Operand} (h:fL (a.map (bw fr)) fun a=>fL (b.map (bw fr)) fun b=>K (.fn f a b) hp):wpOp T own (.makeFunc (.func f) a.toArray b.toArray) fr hp K:=h
theorem p8 {x:Operand} (h:tJ (bw fr x) hp K):wpOp T own (.nilCheck x) fr hp K:=h
theorem p9 {op:Op} {i:Nat} {bt:Nat→Nat} {KD:(Nat→AV)→List AB→(Nat→Nat)→wI→Prop} (hk:dc op=.plain) (h:∃ a,IF op fr (G5 bt)=some a∧wpOp T (G2 mu dst) op fr hp fun v hp'=>force v fun v=>iA dst fr v fun fr'=>KD fr' hp' (pN dst bt (Af op fr bt i)) ⟨i,a,news? op,false⟩) :
  j7 T tab mu dst op i bt fr hp KD:=by
 unfold j7;rw [hk];exact h
theorem yp {v:AV} {P:AV→Prop} (h:P v):force v P:=by cases v <;> exact h
theorem uQ:∀ {l:List AV} {P:List AV→Prop},P l→fL l P
 | [],_,h=>h
 | _ :: _,_,h=>yp (uQ (P:=fun _=>_) h)
theorem F5 {f:Operand} {l:List Operand} {tys} {i:Nat} {bt:Nat→Nat} {KD:(Nat→AV)→List AB→(Nat→Nat)→wI→Prop} (h:(bw fr f).deep=true∧∃ vs v,Handed hp (l.map (bw fr)) vs v∧af T tab true (bw fr f) vs v∧iA dst fr v fun fr'=>KD fr' hp (pN dst bt (i+1)) ⟨i,[],true,true⟩) :
  j7 T tab mu dst (.call ⟨.value f,l.toArray,tys⟩) i bt fr hp KD:=by
 show force (bw fr f) fun F=>fL (l.map (bw fr)) fun as=>F.deep=true∧∃ vs v,Handed hp as vs v∧af T tab true F vs v∧iA dst fr v fun fr'=>KD fr' hp (pN dst bt (i+1)) ⟨i,[],true,true⟩
 generalize bw fr f=F at h ⊢
 generalize l.map (bw fr)=as at h ⊢
 exact yp (uQ (P:=fun as=>F.deep=true∧∃ vs v,Handed hp as vs v∧af T tab true F vs v∧iA dst fr v fun fr'=>KD fr' hp (pN dst bt (i+1)) ⟨i,[],true,true⟩) h)
theorem n1 {f:Operand} {l:List Operand} {tys} {i:Nat} {bt:Nat→Nat} {KD:(Nat→AV)→List AB→(Nat→Nat)→wI→Prop} (h:force (bw fr f) fun F=>fL (l.map (bw fr)) fun as=>F.deep=true∧bU as=true∧∃ v,af T tab true F as v∧iA dst fr v fun fr'=>KD fr' hp (pN dst bt (i+1)) ⟨i,[],true,true⟩) :
  j7 T tab mu dst (.call ⟨.value f,l.toArray,tys⟩) i bt fr hp KD:=by
 have h:=ji (eo h)
 obtain ⟨h1,h2,v,h3,h4⟩:=h
 exact F5 ⟨h1,_,v,.inl ⟨rfl,h2⟩,h3,h4⟩
theorem n2 {f:Operand} {l:List Operand} {tys} {i:Nat} {bt:Nat→Nat} {KD:(Nat→AV)→List AB→(Nat→Nat)→wI→Prop} {F v:AV} {as vs:List AV} (hp':af T tab true F vs v) (hf:bw fr f=F) (ha:l.map (bw fr)=as) (hF:F.deep=true) (hz:Dl hp as vs) (hv:js v) (h:iA dst fr v fun fr'=>KD fr' hp (pN dst bt (i+1)) ⟨i,[],true,true⟩) :
  j7 T tab mu dst (.call ⟨.value f,l.toArray,tys⟩) i bt fr hp KD:=by
 subst hf ha
 exact F5 ⟨hF,vs,v,.inr ⟨hz,hv⟩,hp',h⟩
theorem n3 {x:Operand} {t:TypeId} {b:Bool} (hb:bw fr x=.fl (.bool b)) (h:K (.fl (.bool (!b))) hp):wpOp T own (.unOp .not t x) fr hp K:=by
 show Kw T .not (bw fr x) hp K
 rw [hb];exact h
theorem n4 {x y:Operand} {tys:Array TypeId} {m n:Int} (hx:bw fr x=.fl (.int .i64 m)) (hy:bw fr y=.fl (.int .i64 n)) (h:K (.fl (.int .i64 (min m n))) hp):wpOp T own (.call ⟨.builtin .min,[x,y].toArray,tys⟩) fr hp K:=by
 show force (bw fr x) fun a=>force (bw fr y) fun b=>FU T [a,b] hp K
 rw [hx,hy];exact h
theorem n5 {x y:Operand} {tys:Array TypeId} {m n:Int} (hx:bw fr x=.fl (.int .i64 m)) (hy:bw fr y=.fl (.int .i64 n)) (h:K (.fl (.int .i64 (max m n))) hp):wpOp T own (.call ⟨.builtin .max,[x,y].toArray,tys⟩) fr hp K:=by
 show force (bw fr x) fun a=>force (bw fr y) fun b=>FV T [a,b] hp K
 rw [hx,hy];exact h
section
variable {v : AV} {P : AV → Prop}
theorem f1 {x:Value} (hv:v=.fl x) (h:P (.fl x)):force v P:=by subst hv;exact h
theorem f2 {a:List (List AV)} {b:Bool} (hv:v=.sl a b) (h:P (.sl a b)):force v P:=by subst hv;exact h
theorem f3 {a:List AV} {b:Nat} (hv:v=.pt a b) (h:P (.pt a b)):force v P:=by subst hv;exact h
theorem f4 {a:FuncId} {b c:List AV} (hv:v=.fn a b c) (h:P (.fn a b c)):force v P:=by subst hv;exact h
theorem f5 {a:List AV} (hv:v=.ag a) (h:P (.ag a)):force v P:=by subst hv;exact h
theorem f6 {a:List AV} (hv:v=.tp a) (h:P (.tp a)):force v P:=by subst hv;exact h
theorem f7 {a b c:Nat} (hv:v=.ptr a b c) (h:P (.ptr a b c)):force v P:=by subst hv;exact h
theorem f8 {a b c d e:Nat} (hv:v=.dM a b c d e) (h:P (.dM a b c d e)):force v P:=by subst hv;exact h
theorem f9 {a:Nat} (hv:v=.om a) (h:P (.om a)):force v P:=by subst hv;exact h
theorem g1 {a:Value} (hv:v=.oq a) (h:P (.oq a)):force v P:=by subst hv;exact h
theorem g2 (hv:v=.cJ) (h:P .cJ):force v P:=by subst hv;exact h
end
section
variable {c a b : AV} {t x y : Bool}
theorem k1 (hc:c=.fl (.bool t)) (h:lO t a b hp K):uJ c a b hp K:=by subst hc;exact h
theorem k2 (ht:t=true) (h:K a hp):lO t a b hp K:=by
 subst ht
 unfold lO
 split
 ·exact h
 ·exact And.intro (fun _=>h) (fun e=>Bool.noConfusion e)
theorem k3 (ht:t=false) (h:K b hp):lO t a b hp K:=by
 subst ht
 unfold lO
 split
 ·exact h
 ·exact And.intro (fun e=>Bool.noConfusion e) (fun _=>h)
theorem k4 (ha:a=.fl (.bool x)) (hb:b=.fl (.bool y)) (h:K (.fl (.bool (bif t then x else y))) hp):lO t a b hp K:=by subst ha hb;exact h
end
section
variable {a b : AV} {m n : Int} {t : TypeId} {x y : Operand}
theorem b1 (ha:a=.fl (.int .i64 m)) (hb:b=.fl (.int .i64 n)) (hh:-9223372036854775808≤m+n∧m+n≤9223372036854775807) (h:K (.fl (.int .i64 (m+n))) hp):lC T .add t x y a b hp K:=by subst ha hb;exact ⟨hh,h⟩
theorem b2 (ha:a=.fl (.int .i64 m)) (hb:b=.fl (.int .i64 n)) (hh:-9223372036854775808≤m - n∧m - n≤9223372036854775807) (h:K (.fl (.int .i64 (m - n))) hp):lC T .sub t x y a b hp K:=by subst ha hb;exact ⟨hh,h⟩
theorem b3 (ha:a=.fl (.int .i64 m)) (hb:b=.fl (.int .i64 n)) (hh:-9223372036854775808≤m * n∧m * n≤9223372036854775807) (h:K (.fl (.int .i64 (m * n))) hp):lC T .mul t x y a b hp K:=by subst ha hb;exact ⟨hh,h⟩
theorem b4 (ha:a=.fl (.int .i64 m)) (hb:b=.fl (.int .i64 n)) (h:K (.fl (.bool (decide (m=n)))) hp):lC T .eql t x y a b hp K:=by subst ha hb;exact h
theorem b5 (ha:a=.fl (.int .i64 m)) (hb:b=.fl (.int .i64 n)) (h:K (.fl (.bool (!decide (m=n)))) hp):lC T .neq t x y a b hp K:=by subst ha hb;exact h
theorem b6 (ha:a=.fl (.int .i64 m)) (hb:b=.fl (.int .i64 n)) (h:K (.fl (.bool (decide (m < n)))) hp):lC T .lss t x y a b hp K:=by subst ha hb;exact h
theorem b7 (ha:a=.fl (.int .i64 m)) (hb:b=.fl (.int .i64 n)) (h:K (.fl (.bool (decide (m≤n)))) hp):lC T .leq t x y a b hp K:=by subst ha hb;exact h
theorem b8 (ha:a=.fl (.int .i64 m)) (hb:b=.fl (.int .i64 n)) (h:K (.fl (.bool (decide (n < m)))) hp):lC T .gtr t x y a b hp K:=by subst ha hb;exact h
theorem b9 (ha:a=.fl (.int .i64 m)) (hb:b=.fl (.int .i64 n)) (h:K (.fl (.bool (decide (n≤m)))) hp):lC T .geq t x y a b hp K:=by subst ha hb;exact h
theorem r1 (ha:a=.fl (.int .i64 m)) (hb:b=.fl (.int .i64 n)) (h0:0≤m∧1≤n) (h:K (.fl (.int .i64 (m % n))) hp):lC T .rem t x y a b hp K:=by
 subst ha hb;exact ⟨_,KG h0.1 h0.2,rfl,h⟩
theorem r2 (ha:a=.fl (.int .i64 m)) (hb:b=.fl (.int .i64 n)) (h0:(0≤m∧m≤9223372036854775807)∧1≤n) (h:K (.fl (.int .i64 (m / n))) hp):lC T .quo t x y a b hp K:=by
 subst ha hb;exact ⟨_,KH h0.1.1 h0.1.2 h0.2,rfl,h⟩
end
section
variable {v : AV} {t : TypeId}
theorem l1 {e:TypeId} {a1 a2 a3 a4 a5 a6} {els:List (List AV)} {f:Bool} (ht:T.ty.get t=some ⟨.slice e,a1,a2,a3,a4,a5,a6⟩) (h:K (.fl (.int .i64 els.length)) hp):tK T t (.sl els f) hp K:=by
 unfold tK;rw [ht];exact h
theorem l2 {e:TypeId} {a1 a2 a3 a4 a5 a6} {j aB o n c:Nat} (ht:T.ty.get t=some ⟨.slice e,a1,a2,a3,a4,a5,a6⟩) (h:K (.fl (.int .i64 n)) hp):tK T t (.dM j aB o n c) hp K:=by
 unfold tK;rw [ht];exact h
theorem l3 {a:List AV} {b:Nat} (hv:v=.pt a b) (h:K (.pt a b) hp):tJ v hp K:=by subst hv;exact h
theorem l4 {a b c:Nat} (hv:v=.ptr a b c) (h:K (.ptr a b c) hp):tJ v hp K:=by subst hv;exact h
end
end
end Go.RM
namespace Go.RM
open Go
section
variable {T : bM} {tab : List XE} {one : Bool} {mu : Tmp → Bool} {base : Nat} {E : Env} {hp : List AB} {aA : bW} {H : Hp} {ρ : Nat → Nat → Option Nat} {g : aE} {O O' : Nat → Prop}
theorem l5 {a b:Code} {st:bz} {K:Exit→bz→Prop} (h:kC T tab one mu a st (yc (fun s=>aG T tab one b s K) K)):aG T tab one (.seq a b) st K:=.seq (aa h)
def aY (j:Nat) (ρ:Nat→Nat→Option Nat):Nat→Nat→Option Nat:=fun i v=>if i=j then none else ρ i v
mutual
def AV.uf (j:Nat):AV→Bool
 | .fl _=>true
 | .sl _ _=>true
 | .pt _ _=>true
 | .fn _ a b=>zI j a && zI j b
 | .ag a=>zI j a
 | .tp a=>zI j a
 | .oq _=>true
 | .cJ=>true
 | .ptr i _ _=>!Nat.beq i j
 | .dM i _ _ _ _=>!Nat.beq i j
 | .om i=>!Nat.beq i j
def zI (j:Nat):List AV→Bool
 | []=>true
 | a :: l=>a.uf j && zI j l
end
theorem mF {j:Nat}:∀ {l:List AV},zI j l=true→∀ (i:Nat) (a:AV),l[i]?=some a→a.uf j=true
 | [],_,i,a,h=>by cases h
 | x :: l,h,i,a,ha=>by
  simp only [zI,Bool.and_eq_true] at h
  cases i with
  | zero=>cases ha;exact h.1
  | succ i=>exact mF h.2 i a (by simpa using ha)
theorem tO {i j:Nat} (h:(!Nat.beq i j)=true):i ≠ j:=by
 intro e
 subst e
 rw [Nat.beq_refl] at h
 cases h
theorem AR.uf {j:Nat} (hO:∀ k,O' k→O k) {v:AV} {u:Value} (h:AR ρ g O v u):v.uf j=true→AR (aY j ρ) g O' v u:=by
 induction h with
 | d h=>intro _;exact .d (h.mono fun k b hk ho=>⟨hk,fun h=>ho (hO k h)⟩)
 | cJ=>intro _;exact .cJ
 | ptr h=>intro hd;simp only [AV.uf] at hd;exact .ptr (by rw [aY,if_neg (tO hd)];exact h)
 | dM h=>intro hd;simp only [AV.uf] at hd;exact .dM (by rw [aY,if_neg (tO hd)];exact h)
 | wq hc=>intro _;exact .wq hc
 | om h=>intro hd;simp only [AV.uf] at hd;exact .om (by rw [aY,if_neg (tO hd)];exact h)
 | fn ha hb h1 h2 ih1 ih2 =>
  intro hd
  simp only [AV.uf,Bool.and_eq_true] at hd
  exact .fn ha hb (fun i x u hx hu=>ih1 i x u hx hu (mF hd.1 i x hx)) (fun i x u hx hu=>ih2 i x u hx hu (mF hd.2 i x hx))
 | ag ha h1 ih=>intro hd;simp only [AV.uf] at hd;exact .ag ha (fun i x u hx hu=>ih i x u hx hu (mF hd i x hx))
 | tp ha h1 ih=>intro hd;simp only [AV.uf] at hd;exact .tp ha (fun i x u hx hu=>ih i x u hx hu (mF hd i x hx))
def AB.uf (j:Nat):AB→Bool
 | .cells cs _ _=>zI j cs
 | .eF _ _=>true
 | .map ents _=>ents.all fun p=>p.1.uf j && p.2.1.uf j
 | .iter i _ _ _=>!Nat.beq i j
 | .gone=>true
inductive Gv (j aB:Nat) (cs:List AV):AV→AV→Prop
 | same {a:AV}:a.uf j=true→Gv j aB cs a a
 | ptr {o:Nat}:Gv j aB cs (.ptr j aB o) (.pt cs o)
 | row {o n c:Nat} {els:List (List AV)} {b:Bool} (es:Nat):o+n * es≤cs.length→els.length=n→(∀ el ∈ els,el.length=es)→els.flatten=(cs.drop o).take (n * es)→(b=true→c=n)→Gv j aB cs (.dM j aB o n c) (.sl els b)
 | cJ {a:AV}:Gv j aB cs a .cJ
def yq (j aB:Nat) (cs:List AV) (fr:Nat→AV):List (Nat × AV)→Prop
 | []=>True
 | (i,v) :: l=>Gv j aB cs (fr i) v∧yq j aB cs fr l
theorem BL {j aB:Nat} {cs:List AV} {fr:Nat→AV}:∀ {l:List (Nat × AV)},yq j aB cs fr l→∀ t,Gv j aB cs (fr t) (bT l t)
 | [],_,t=>.cJ
 | (i,v) :: l,h,t=>by
  unfold bT
  rw [Tr.beq_eq]
  by_cases hti:t=i
  ·rw [decide_eq_true hti,hti]
   exact h.1
  ·rw [decide_eq_false hti]
   exact BL h.2 t
theorem aj.OR {st:bz} {l:List (Nat × AV)} {j aB es:Nat} {cs:List AV} (hj:st.hp[j]?=some (.cells cs es aB)) (hn:st.fl≤j) (hd:bU cs=true) (hs:yq j aB cs st.fr l) (hb:∀ (i:Nat) (b:AB),st.hp[i]?=some b→i ≠ j→b.uf j=true) :
  aj st ⟨bT l,st.hp.set j .gone,st.aA,st.rd,st.fl⟩:=by
 have hlt:j < st.hp.length:=(List.getElem?_eq_some_iff.1 hj).1
 refine ⟨rfl,fun E base s hs'=>?_⟩
 have hr:=hs'.h
 have hget:∀ (i:Nat) (b:AB) (aB:Nat),(st.hp.set j .gone)[i]?=some b→b.ver?=some aB→i ≠ j∧st.hp[i]?=some b:=by
  intro i b aB hi hv
  by_cases hij:i=j
  ·subst hij;rw [List.getElem?_set_self hlt] at hi;cases hi;cases hv
  ·rw [List.getElem?_set_ne (Ne.symm hij)] at hi;exact ⟨hij,hi⟩
 have hdr:∀ {i v k:Nat},aY j E.ρ i v=some k→i ≠ j∧E.ρ i v=some k:=by
  intro i v k h
  unfold aY at h
  split at h
  ·cases h
  ·rename_i hne;exact ⟨hne,h⟩
 have hown:∀ k,Own (aY j E.ρ) (st.hp.set j .gone) k→Own E.ρ st.hp k:=by
  rintro k ⟨i,b,v,h1,h2,h3⟩
  exact ⟨i,b,v,(hget i b v h1 h2).2,h2,(hdr h3).2⟩
 have hOs:∀ k,({E with ρ:=aY j E.ρ}:Env).O (st.hp.set j .gone) k→E.O st.hp k:=fun k h=>h.imp (hown k) id
 have hpt:∀ {o:Nat} {u:Value},AR E.ρ s.hp.get (E.O st.hp) (.ptr j aB o) u→AR (aY j E.ρ) s.hp.get (({E with ρ:=aY j E.ρ}:Env).O (st.hp.set j .gone)) (.pt cs o) u:=by
  intro o u h
  obtain ⟨k,hk,rfl⟩:=h.eB
  obtain ⟨cs',q1,q2⟩:=hr.cells hj hk
  have hnO:¬ ({E with ρ:=aY j E.ρ}:Env).O (st.hp.set j .gone) k:=by
   rintro (⟨i,b,v,h1,h2,h3⟩|hx)
   ·have:=hdr h3
    exact this.1 (hr.inj i j v aB k this.2 hk)
   ·exact hr.jX k ⟨j,_,aB,hj,rfl,hk⟩ hx
  have:=q2.deep hd
  refine .d (?_:DR _ _ (.pt cs o) (.pointer (some ⟨k,o,none⟩)))
  have h0:DR s.hp.get (({E with ρ:=aY j E.ρ}:Env).O (st.hp.set j .gone)) (.pt cs o) (.pointer (some ⟨k,0+o,none⟩)) :=
   .pt q1 hnO (by rw [Nat.zero_add,this.1];exact Nat.le_refl _) (fun i a u x y=>(this.2 i a u x (by rw [Nat.zero_add] at y;exact y)).mono fun k b hk ho=>⟨hk,fun h=>ho (hOs k h)⟩)
  rw [Nat.zero_add] at h0
  exact h0
 have hrow:∀ {o n c:Nat} {els:List (List AV)} {b:Bool} {u:Value} (es:Nat),o+n * es≤cs.length→els.length=n→(∀ el ∈ els,el.length=es)→els.flatten=(cs.drop o).take (n * es)→(b=true→c=n)→AR E.ρ s.hp.get (E.O st.hp) (.dM j aB o n c) u →
   AR (aY j E.ρ) s.hp.get (({E with ρ:=aY j E.ρ}:Env).O (st.hp.set j .gone)) (.sl els b) u:=by
  intro o n c els b u es g1 g2 g3 g4 g5 h
  rcases h.gp with ⟨k,hk,rfl⟩|⟨rfl,rfl,rfl⟩
  ·obtain ⟨cs',q1,q2⟩:=hr.cells hj hk
   have hnO:¬ ({E with ρ:=aY j E.ρ}:Env).O (st.hp.set j .gone) k:=by
    rintro (⟨i,b,v,h1,h2,h3⟩|hx)
    ·have:=hdr h3
     exact this.1 (hr.inj i j v aB k this.2 hk)
    ·exact hr.jX k ⟨j,_,aB,hj,rfl,hk⟩ hx
   have hdp:=q2.deep hd
   refine .d (.sl (es:=es) q1 hnO (by rw [←q2.1];exact g1) g2 (fun i el he=>g3 el (List.mem_of_getElem? he)) (fun i el jj a u he hx hu=>?_) g5)
   have hjj:jj < es:=by rw [←g3 el (List.mem_of_getElem? he)];exact (List.getElem?_eq_some_iff.1 hx).1
   have hat:=gq g3 i el jj he hjj
   have hi:i < n:=by rw [←g2];exact (List.getElem?_eq_some_iff.1 he).1
   rw [g4,List.getElem?_take,List.getElem?_drop] at hat
   have hlt:i * es+jj < n * es:=by
    have:(i+1) * es≤n * es:=Nat.mul_le_mul_right _ hi
    rw [Nat.add_mul,Nat.one_mul] at this
    omega
   rw [if_pos hlt,hx,←Nat.add_assoc] at hat
   exact (hdp.2 _ a u hat hu).mono fun k b hk ho=>⟨hk,fun h=>ho (hOs k h)⟩
  ·simp only [List.length_eq_zero_iff] at g2
   subst g2
   exact .d .nil
 have hgv:∀ {a b:AV} {u:Value},Gv j aB cs a b→AR E.ρ s.hp.get (E.O st.hp) a u→AR (aY j E.ρ) s.hp.get (({E with ρ:=aY j E.ρ}:Env).O (st.hp.set j .gone)) b u:=by
  intro a b u hg h
  cases hg with
  | same hn=>exact h.uf hOs hn
  | ptr=>exact hpt h
  | row es g1 g2 g3 g4 g5=>exact hrow es g1 g2 g3 g4 g5 h
  | cJ=>exact .cJ
 refine ⟨{E with ρ:=aY j E.ρ},⟨⟨hr.wf,fun i b v hi hv=>?_,fun i i' v v' k h1 h2=>hr.inj i i' v v' k (hdr h1).2 (hdr h2).2,fun i v k hk=>hr.rn i v k (hdr hk).2,fun i b v w h1 h2 h3=>?_,fun i v hi=>?_,fun k hk=>hr.sup k (hown k hk),fun k hk=>hr.jX k (hown k hk),hr.dx,hr.ds,hr.sn,hr.xn,fun k hk=>hr.sA k (hk.imp (hown k) id),hr.bn,hr.aA⟩,hs'.rd,fun t=>hgv (BL hs t) (hs'.fr t)⟩,
  ⟨Nat.le_refl _,fun i v k hi hk=>?_,fun k hk=>.inl (hown k hk),fun _ h=>.inl h,fun _ h=>.inl h,fun _ h=>h,fun _ h=>.inl h,fun _ _ _ _=>rfl,Nat.min_le_left _ _⟩⟩
 ·obtain ⟨hij,hi'⟩:=hget i b v hi hv
  have hbn:=hb i b hi' hij
  rcases hr.iQ i b v hi' hv with ⟨k,b',q1,q2,q3⟩|⟨q1,q2⟩
  ·refine .inl ⟨k,b',by show aY j E.ρ i v=_;rw [aY,if_neg hij];exact q1,q2,?_⟩
   cases b with
   | cells cs2 es2 ver2 =>
    obtain ⟨cs',rfl,h⟩:=q3
    exact ⟨cs',rfl,h.1,fun i a u ha hu=>(h.2 i a u ha hu).uf hOs (mF hbn i a ha)⟩
   | eF p q=>exact q3
   | map ents clock =>
    obtain ⟨es,rfl,h1,h2⟩:=q3
    refine ⟨es,rfl,h1,fun i k v born x hx hy=>?_⟩
    simp only [AB.uf,List.all_eq_true,Bool.and_eq_true] at hbn
    have:=hbn _ (List.mem_of_getElem? hx)
    exact ⟨(h2 i k v born x hx hy).1.uf hOs this.1,(h2 i k v born x hx hy).2.1.uf hOs this.2,(h2 i k v born x hx hy).2.2⟩
   | iter i2 since seen stepped =>
    obtain ⟨m,rfl,h⟩:=q3
    exact ⟨m,rfl,by show aY j E.ρ i2 0=_;rw [aY,if_neg (tO hbn)];exact h⟩
   | gone=>exact q3
  ·exact .inr ⟨by show aY j E.ρ i v=_;rw [aY,if_neg hij];exact q1,q2⟩
 ·obtain ⟨hij,h1⟩:=hget i b v h1 h2
  show aY j E.ρ i w=none
  rw [aY,if_neg hij];exact hr.fresh i b v w h1 h2 h3
 ·show aY j E.ρ i v=none
  unfold aY
  split
  ·rfl
  ·exact hr.new i v (by simpa using hi)
 ·show aY j E.ρ i v=some k
  rw [aY,if_neg (by omega)];exact hk
def BM (j:Nat):Nat→List AB→Bool
 | _,[]=>true
 | i,b :: l=>(Nat.beq i j || b.uf j) && BM j (i+1) l
theorem yu {j:Nat}:∀ {l:List AB} {i0:Nat},BM j i0 l=true→∀ (i:Nat) (b:AB),l[i]?=some b→i0+i ≠ j→b.uf j=true
 | [],_,_,i,b,h,_=>by cases h
 | x :: l,i0,h,i,b,hb,hne=>by
  simp only [BM,Bool.and_eq_true,Bool.or_eq_true] at h
  cases i with
  | zero =>
   cases hb
   rcases h.1 with h|h
   ·exact absurd (Nat.eq_of_beq_eq_true h) hne
   ·exact h
  | succ i=>exact yu h.2 i b (by simpa using hb) (by omega)
theorem aj.giveUp {st:bz} {l:List (Nat × AV)} (j:Nat) {aB es:Nat} {cs:List AV} {hp:List AB} (hj:st.hp[j]?=some (.cells cs es aB)) (hn:st.fl≤j) (hd:bU cs=true) (hs:yq j aB cs st.fr l) (hb:BM j 0 st.hp=true) (hh:st.hp.set j .gone=hp) :
  aj st ⟨bT l,hp,st.aA,st.rd,st.fl⟩:=by
 subst hh
 exact aj.OR hj hn hd hs fun i b h hne=>yu hb i b h (by omega)
theorem IW {P:Program} {t:TypeId} {x y:Operand} {n:Int}:mJ P .shr t x y (.int .u64 n) (.int .u64 1)=some (.int .u64 (n / 2),.none):=by
 have h:mJ P .shr t x y (.int .u64 n) (.int .u64 1)=some (.int .u64 (n.fdiv (2 ^ 1)),.none):=rfl
 rw [h,Int.fdiv_eq_ediv_of_nonneg n (by decide)]
 rfl
end
end Go.RM
namespace Go.RM
open Go
theorem iZ.uR {j aB c:Nat} (hc:c≤2:=by decide):iZ (.fl (.slice none 0 0)) (.dM j aB 0 0 c):=fun _ _ _ u h=>by
 rw [h.gm.1]
 exact .wq hc
theorem aj.uS {st:bz} (es:Nat):aj st ⟨st.fr,st.hp++[.cells [] es 0],st.aA,st.rd,st.fl⟩:=by
 refine ⟨rfl,fun E base s hs=>?_⟩
 have hr:=hs.h
 have hget:∀ (i:Nat) (b:AB),(st.hp++[AB.cells [] es 0])[i]?=some b→(i < st.hp.length∧st.hp[i]?=some b)∨(i=st.hp.length∧b=.cells [] es 0):=by
  intro i b hi
  by_cases hlt:i < st.hp.length
  ·rw [List.getElem?_append_left hlt] at hi;exact .inl ⟨hlt,hi⟩
  ·rw [List.getElem?_append_right (by omega)] at hi
   have h0:i - st.hp.length=0:=by
    apply Nat.eq_zero_of_not_pos
    intro hp0
    rw [List.getElem?_eq_none (by simp;omega)] at hi
    cases hi
   rw [h0] at hi
   cases hi
   exact .inr ⟨by omega,rfl⟩
 have hown:∀ k,Own E.ρ (st.hp++[.cells [] es 0]) k→Own E.ρ st.hp k:=by
  rintro k ⟨i,b,v,h1,h2,h3⟩
  rcases hget i b h1 with ⟨_,h1⟩|⟨rfl,rfl⟩
  ·exact ⟨i,b,v,h1,h2,h3⟩
  ·rw [hr.new _ v (Nat.le_refl _)] at h3;cases h3
 have hO:∀ k,E.O (st.hp++[.cells [] es 0]) k→E.O st.hp k:=fun k h=>h.imp (hown k) id
 have keep:∀ k b,s.hp.get k=some b→¬ E.O st.hp k→s.hp.get k=some b∧¬ E.O (st.hp++[.cells [] es 0]) k:=fun k b hk ho=>⟨hk,fun h=>ho (hO k h)⟩
 have har:∀ {v:AV} {u:Value},AR E.ρ s.hp.get (E.O st.hp) v u→AR E.ρ s.hp.get (E.O (st.hp++[.cells [] es 0])) v u:=fun h=>h.mono (fun _ _ _ h=>h) keep
 refine ⟨E,⟨⟨hr.wf,fun i b v hi hv=>?_,hr.inj,hr.rn,fun i b v w h1 h2 h3=>?_,fun i v hi=>hr.new i v (by simp at hi;omega),fun k hk=>hr.sup k (hown k hk),fun k hk=>hr.jX k (hown k hk),hr.dx,hr.ds,hr.sn,hr.xn,fun k hk=>hr.sA k (hk.imp (hown k) id),hr.bn,hr.aA⟩,hs.rd,fun t=>har (hs.fr t)⟩,
  ⟨Nat.le_refl _,fun _ _ _ _ h=>h,fun k hk=>.inl (hown k hk),fun _ h=>.inl h,fun _ h=>.inl h,fun _ h=>h,fun _ h=>.inl h,fun _ _ _ _=>rfl,Nat.min_le_left _ _⟩⟩
 ·rcases hget i b hi with ⟨_,hi'⟩|⟨rfl,rfl⟩
  ·rcases hr.iQ i b v hi' hv with ⟨k,b',q1,q2,q3⟩|q
   ·refine .inl ⟨k,b',q1,q2,?_⟩
    cases b with
    | cells cs2 es2 ver2 =>
     obtain ⟨cs',rfl,h⟩:=q3
     exact ⟨cs',rfl,h.1,fun i a u ha hu=>har (h.2 i a u ha hu)⟩
    | eF p q=>exact q3
    | map ents clock =>
     obtain ⟨es,rfl,h1,h2⟩:=q3
     exact ⟨es,rfl,h1,fun i k v born x hx hy=>⟨har (h2 i k v born x hx hy).1,har (h2 i k v born x hx hy).2.1,(h2 i k v born x hx hy).2.2⟩⟩
    | iter i2 since seen stepped=>exact q3
    | gone=>exact q3
   ·exact .inr q
  ·cases hv
   exact .inr ⟨hr.new _ _ (Nat.le_refl _),es,rfl⟩
 ·rcases hget i b h1 with ⟨_,h1⟩|⟨rfl,rfl⟩
  ·exact hr.fresh i b v w h1 h2 h3
  ·exact hr.new _ _ (Nat.le_refl _)
theorem q1 {σ:Type} {P:σ→Prop} {I:σ→bz} {m:σ→Nat} {K:Exit→bz→Prop} {x:σ} {s:bz} (h:K .ret s):IC P I m K x .ret s:=h
theorem q2 {σ:Type} {P:σ→Prop} {I:σ→bz} {m:σ→Nat} {K:Exit→bz→Prop} {x:σ} {s:bz} {id:Nat} (h:K (.exit id) s):IC P I m K x (.exit id) s:=h
end Go.RM
namespace Go.RM
open Go
theorem aj.EY {st:bz} (j:Nat) {es aB:Nat} {cs ds:List AV} {hp:List AB} (hj:st.hp[j]?=some (.cells cs es aB)) (hs:kO cs ds) (hh:st.hp.set j (.cells ds es aB)=hp):aj st ⟨st.fr,hp,st.aA,st.rd,st.fl⟩:=by
 subst hh
 refine ⟨rfl,fun E base s hs'=>?_⟩
 have hr:=hs'.h
 have hlt:j < st.hp.length:=(List.getElem?_eq_some_iff.1 hj).1
 have hget:∀ (i:Nat) (b:AB),(st.hp.set j (.cells ds es aB))[i]?=some b→(i ≠ j∧st.hp[i]?=some b)∨(i=j∧b=.cells ds es aB):=by
  intro i b hi
  by_cases he:i=j
  ·subst he
   rw [List.getElem?_set_self hlt] at hi
   cases hi
   exact .inr ⟨rfl,rfl⟩
  ·rw [List.getElem?_set_ne (Ne.symm he)] at hi
   exact .inl ⟨he,hi⟩
 have hown:∀ k,Own E.ρ (st.hp.set j (.cells ds es aB)) k→Own E.ρ st.hp k:=by
  rintro k ⟨i,b,v,h1,h2,h3⟩
  rcases hget i b h1 with ⟨_,h1⟩|⟨rfl,rfl⟩
  ·exact ⟨i,b,v,h1,h2,h3⟩
  ·cases h2
   exact ⟨i,_,_,hj,rfl,h3⟩
 have hO:∀ k,E.O (st.hp.set j (.cells ds es aB)) k→E.O st.hp k:=fun k h=>h.imp (hown k) id
 have keep:∀ k b,s.hp.get k=some b→¬ E.O st.hp k→s.hp.get k=some b∧¬ E.O (st.hp.set j (.cells ds es aB)) k:=fun k b hk ho=>⟨hk,fun h=>ho (hO k h)⟩
 have har:∀ {v:AV} {u:Value},AR E.ρ s.hp.get (E.O st.hp) v u→AR E.ρ s.hp.get (E.O (st.hp.set j (.cells ds es aB))) v u:=fun h=>h.mono (fun _ _ _ h=>h) keep
 refine ⟨E,⟨⟨hr.wf,fun i b v hi hv=>?_,hr.inj,hr.rn,fun i b v w h1 h2 h3=>?_,fun i v hi=>hr.new i v (by simpa using hi),fun k hk=>hr.sup k (hown k hk),fun k hk=>hr.jX k (hown k hk),hr.dx,hr.ds,hr.sn,hr.xn,fun k hk=>hr.sA k (hk.imp (hown k) id),hr.bn,hr.aA⟩,hs'.rd,fun t=>har (hs'.fr t)⟩,
  ⟨Nat.le_refl _,fun _ _ _ _ h=>h,fun k hk=>.inl (hown k hk),fun _ h=>.inl h,fun _ h=>.inl h,fun _ h=>h,fun _ h=>.inl h,fun _ _ _ _=>rfl,Nat.min_le_left _ _⟩⟩
 ·rcases hget i b hi with ⟨_,hi'⟩|⟨rfl,rfl⟩
  ·rcases hr.iQ i b v hi' hv with ⟨k,b',q1,q2,q3⟩|q
   ·refine .inl ⟨k,b',q1,q2,?_⟩
    cases b with
    | cells cs2 es2 ver2 =>
     obtain ⟨cs',rfl,h⟩:=q3
     exact ⟨cs',rfl,h.1,fun i a u ha hu=>har (h.2 i a u ha hu)⟩
    | eF p q=>exact q3
    | map ents clock =>
     obtain ⟨es,rfl,h1,h2⟩:=q3
     exact ⟨es,rfl,h1,fun i k v born x hx hy=>⟨har (h2 i k v born x hx hy).1,har (h2 i k v born x hx hy).2.1,(h2 i k v born x hx hy).2.2⟩⟩
    | iter i2 since seen stepped=>exact q3
    | gone=>exact q3
   ·exact .inr q
  ·cases hv
   rcases hr.iQ i _ aB hj rfl with ⟨k,b',q1,q2,q3⟩|⟨q1,es',q2⟩
   ·refine .inl ⟨k,b',q1,q2,?_⟩
    obtain ⟨cs',rfl,h⟩:=q3
    have h':=kO.C7 hs h
    exact ⟨cs',rfl,h'.1,fun i a u ha hu=>har (h'.2 i a u ha hu)⟩
   ·cases q2
    cases ds with
    | nil=>exact .inr ⟨q1,_,rfl⟩
    | cons a l=>exact hs.elim
 ·rcases hget i b h1 with ⟨_,h1⟩|⟨rfl,rfl⟩
  ·exact hr.fresh i b v w h1 h2 h3
  ·cases h2
   exact hr.fresh i _ _ w hj rfl h3
end Go.RM
namespace Go.RM
open Go
theorem IX {α:Type} {l:List α} {j:Nat} {a:α} (h:l[j]?=some a):l.set j a=l:=by
 apply List.ext_getElem?
 intro i
 rw [List.getElem?_set]
 split
 ·rename_i hij
  subst hij
  rw [h]
  split
  ·rfl
  ·rename_i hn
   exact absurd (List.getElem?_eq_some_iff.1 h).1 hn
 ·rfl
theorem KI {hp:List AB} {es bs:Nat} {x:AV} {els:List (List AV)} {j aB n c:Nat} {cs:List AV} {K:AV→List AB→Prop} (hx:Ac hp es x els) (h1:els.flatten.all AV.one=true) (hj:hp[j]?=some (.cells cs es aB)) (hl:cs.length=n * es) (hc:c=n∨c=n+1)
  (hb:(n+els.length) * bs≤140737488355328∧n+els.length≤9223372036854775807) (hk:∀ v c',(c'=n+els.length∨c'=n+els.length+1)→K (.dM j v 0 (n+els.length) c') (hp.set j (.cells (cs++els.flatten) es v))) :
  ∃ els,Ac hp es x els∧els.flatten.all AV.one=true∧∃ cs,hp[j]?=some (.cells cs es aB)∧cs.length=n * es∧(c=n∨c=n+1)∧((n+els.length) * bs≤140737488355328∧n+els.length≤9223372036854775807)∧(els=[]→K (.dM j aB 0 n c) hp) ∧
   (els ≠ []→K (.dM j (aB+1) 0 (n+els.length) (n+els.length+1)) (hp.set j (.cells (cs++els.flatten) es (aB+1)))):=by
 refine ⟨els,hx,h1,cs,hj,hl,hc,hb,fun he=>?_,fun _=>hk _ _ (.inr rfl)⟩
 subst he
 have h2:=hk aB c (by simpa using hc)
 rw [List.flatten_nil,List.append_nil,IX hj] at h2
 exact h2
theorem G9 {T:bM} {own:Bool} {fr:Nat→AV} {hp:List AB} {K:AV→List AB→Prop} {s x:Operand} {t u e:TypeId} {a1 a2 a3 a4 a5 a6} {j aB n c:Nat} {els:List (List AV)} {f:Bool} {cs:List AV} {inf:zM} (hs:bw fr s=.dM j aB 0 n c) (hx:bw fr x=.sl els f)
  (hu:T.ty.get u=some ⟨.slice e,a1,a2,a3,a4,a5,a6⟩) (hi:elem? T t=some inf) (hz:cx inf=true) (hel:∀ el ∈ els,el.length=inf.size) (h1:els.flatten.all AV.one=true) (hj:hp[j]?=some (.cells cs inf.size aB)) (hl:cs.length=n * inf.size) (hc:c=n∨c=n+1)
  (hb:(n+els.length) * inf.bytes≤140737488355328∧n+els.length≤9223372036854775807) (hk:∀ v c',(c'=n+els.length∨c'=n+els.length+1)→K (.dM j v 0 (n+els.length) c') (hp.set j (.cells (cs++els.flatten) inf.size v))) :
  RM.wpOp T own (.call ⟨.builtin .append,[s,x].toArray,[t,u].toArray⟩) fr hp K:=by
 show force (bw fr s) fun a=>force (bw fr x) fun b=>nS T own .append [a,b] [t,u] hp K
 rw [hs,hx]
 show (match T.ty.get u with|some ⟨.slice _,_,_,_,_,_,_⟩=>qv T own t (.dM j aB 0 n c) (.sl els f) hp K|_=>False)
 rw [hu]
 show qv T own t (.dM j aB 0 n c) (.sl els f) hp K
 unfold qv
 rw [hi]
 obtain ⟨els',q1,q2,q3⟩:=KI (hp:=hp) (K:=K) (x:=.sl els f) ⟨hel,rfl⟩ h1 hj hl hc hb hk
 exact ⟨hz,els',q1,q2,.inl ⟨rfl,q3⟩⟩
end Go.RM
namespace Go.RM
open Go
section
variable {T : bM} {tab : List XE} {one : Bool} {base : Nat} {E : Env} {hp : List AB} {aA : bW} {H : Hp} {ρ : Nat → Nat → Option Nat} {g : aE} {O O' : Nat → Prop}
def OS (T:bM) (rs:List ResultVar) (Q:AV→List AB→bW→Prop) (e:Exit) (s:bz):Prop :=
 match e with
 | .normal|.ret=>jk T s rs fun as=>Q (mL as) s.hp s.aA
 | _=>False
theorem BN {vs:List AV} {us:List Value} (h:gk ρ g O vs us):AR ρ g O (mL vs) (bE us):=by
 match vs,us,h with
 | [],[],_=>exact .tp rfl (fun i x u hx=>by cases hx)
 | [v],[u],h=>exact h.2 0 v u rfl rfl
 | a :: b :: l,c :: d :: m,h=>exact .tp (by simpa using h.1) (fun i x u hx hu=>h.2 i x u hx (by simpa using hu))
 | [],u :: us,h=>exact absurd h.1 (by simp)
 | v :: vs,[],h=>exact absurd h.1 (by simp)
 | [v],a :: b :: l,h=>exact absurd h.1 (by simp)
 | a :: b :: l,[v],h=>exact absurd h.1 (by simp)
theorem au.body {f:FuncId} {fn:Func} {c:Code} {first caps args:List AV} {Q:AV→List AB→bW→Prop} (hf:T.fn.get f=some fn) (hb:fn.body=some c) (hn:noEntry tab f=true)
  (hw:aG T tab one c ⟨vI (first++args++caps),hp,aA,false,hp.length⟩ (OS T fn.results.toList Q)):au T tab one (.fn f first caps) args hp aA Q:=by
 intro E base H u us hr hF ha
 obtain ⟨fs,cs,rfl,h1,h2⟩:∃ fs cs,u=.func (.func f) fs cs∧gk E.ρ H.get (E.O hp) first fs.toList∧gk E.ρ H.get (E.O hp) caps cs.toList:=by
  cases hF with
  | d h=>cases h with
   | fn ha hb h1 h2=>exact ⟨_,_,rfl,⟨ha,fun i x u hx hu=>.d (h1 i x u hx hu)⟩,⟨hb,fun i x u hx hu=>.d (h2 i x u hx hu)⟩⟩
  | fn ha hb h1 h2=>exact ⟨_,_,rfl,⟨ha,h1⟩,⟨hb,h2⟩⟩
 refine ⟨.fn f (fs.toList++us++cs.toList),rfl,?_⟩
 have hargs:=(h1.append ha).append h2
 obtain ⟨m,L,h1,h2,h3⟩:=hw E base ⟨setArgs .leaf 0 (fs.toList++us++cs.toList),H,false⟩ ⟨hr,rfl,nU hargs⟩
 obtain ⟨m',M,hm,q1,q2,q3⟩:=dn (one:=one) (L:=L) (f:=fun _ (p:Exit × St)=>fZ T fn.results.toList p)
  (P:=fun r=>∃ w H',r=.ret w H'∧∃ E' a hp' amb',Q a hp' amb'∧aV E' base hp' amb' H'∧AR E'.ρ H'.get (E'.O hp') a w∧jJ hp.length base E hp H E' hp' H')
  (fun _ _ _ _ _ h=>h) m h2 (fun p hp'=>by
   obtain ⟨E',st',k1,k0,k2,k3⟩:=h3 p hp'
   obtain ⟨e,s'⟩:=p
   have done:(e=.normal∨e=.ret)→(jk T st' fn.results.toList fun as=>Q (mL as) st'.hp st'.aA)→∃ (_:Nat) (M:List fQ),fZ T fn.results.toList (e,s')=some M ∧
     mK one M fun r=>∃ w H',r=.ret w H'∧∃ E' a hp' amb',Q a hp' amb'∧aV E' base hp' amb' H'∧AR E'.ρ H'.get (E'.O hp') a w∧jJ hp.length base E hp H E' hp' H':=by
    intro he hr
    obtain ⟨ws,as,r1,r2,r4⟩:=jl k2 hr
    refine ⟨0,[.ret (bE ws) s'.hp],?_,.single ⟨_,_,rfl,E',mL as,st'.hp,st'.aA,r2,k2.h,BN r4,k3⟩⟩
    unfold fZ
    rcases he with rfl|rfl <;> simp only [r1,Option.map_some]
   cases e with
   | normal=>exact done (.inl rfl) k1
   | ret=>exact done (.inr rfl) k1
   | _=>exact k1.elim)
 refine ⟨m'+1,M,?_,q2,q3⟩
 show RX T tab (m'+1) (.call f _ H)=_
 rw [tF,j6 _ _ hn]
 simp only
 rw [iW,hf]
 simp only [hb]
 rw [eR (eH hm) _ _ _ h1]
 exact q1
end
end Go.RM
namespace Go.RM
open Go
section
variable {T : bM} {tab : List XE} {one : Bool}
end
end Go.RM
namespace Go.RM
open Go
section
variable {T : bM} {tab : List XE} {one : Bool}
end
end Go.RM
namespace Go.RM
open Go
section
variable {T : bM} {tab : List XE} {one : Bool} {base : Nat} {E : Env} {hp : List AB} {aA : bW} {H : Hp}
end
end Go.RM
namespace Go.RM
open Go
end Go.RM
namespace Go.RM
open Go
section
variable {T : bM} {tab : List XE} {one : Bool} {fl base : Nat} {E E' E2 : Env} {hp hp' hp2 : List AB} {aA amb' : bW} {H H' H2 : Hp} {ρ ρ2 : Nat → Nat → Option Nat} {g g2 : aE} {O O2 : Nat → Prop}
end
end Go.RM
namespace Go.RM
open Go
section
variable {T : bM} {tab : List XE} {one : Bool} {base : Nat} {E : Env} {hp : List AB} {aA : bW} {H : Hp}
inductive Fq (hp:List AB):AV→AV→Prop
 | fz {a v:AV}:Fz hp a v→Fq hp a v
 | ptr {j aB o es:Nat} {cs:List AV}:hp[j]?=some (.cells cs es aB)→bU cs=true→Fq hp (.ptr j aB o) (.pt cs o)
 | fn {f:FuncId} {a b x y:List AV}:a.length=x.length→b.length=y.length→(∀ (i:Nat) (u v:AV),a[i]?=some u→x[i]?=some v→Fq hp u v)→(∀ (i:Nat) (u v:AV),b[i]?=some u→y[i]?=some v→Fq hp u v)→Fq hp (.fn f a b) (.fn f x y)
theorem AR.KJ {ρ:Nat→Nat→Option Nat} {g:aE} {O:Nat→Prop} {f:FuncId} {a b:List AV} {u:Value} (h:AR ρ g O (.fn f a b) u):∃ a' b',u=.func (.func f) a' b'∧gk ρ g O a a'.toList∧gk ρ g O b b'.toList:=by
 cases h with
 | d h=>cases h with
  | fn ha hb h1 h2=>exact ⟨_,_,rfl,⟨ha,fun i x u hx hu=>.d (h1 i x u hx hu)⟩,⟨hb,fun i x u hx hu=>.d (h2 i x u hx hu)⟩⟩
 | fn ha hb h1 h2=>exact ⟨_,_,rfl,⟨ha,h1⟩,⟨hb,h2⟩⟩
theorem Fq.dr {X:Nat→Prop} (h:aV E base hp aA H) (hX:∀ k,X k→E.X k) {r v:AV} (hf:Fq hp r v):∀ {u:Value},AR E.ρ H.get (E.O hp) r u→DR H.get X v u:=by
 have weak:∀ {v:AV} {u:Value},DR H.get (E.O hp) v u→DR H.get X v u:=fun h=>h.mono fun k b hk ho=>⟨hk,fun hx=>ho (.inr (hX k hx))⟩
 induction hf with
 | fz hz=>intro u ha;exact hz.dr h hX ha
 | ptr h1 hd =>
  rename_i j aB o es cs
  intro u ha
  obtain ⟨k,hk,rfl⟩:=ha.eB
  obtain ⟨cs',q1,q2⟩:=h.cells h1 hk
  have hok:Own E.ρ hp k:=⟨j,_,aB,h1,rfl,hk⟩
  have hnx:¬ X k:=fun hx=>h.jX k hok (hX k hx)
  have:=DR.pt (g:=H.get) (O:=X) (l:=cs) (k:=k) (d:=0) (o:=o) (cs:=cs') q1 hnx (by rw [Nat.zero_add,q2.1];exact Nat.le_refl _) (fun i a u hx hu=>by
   rw [Nat.zero_add] at hu
   exact weak ((q2.2 i a u hx hu).deep (iz hd i a hx)))
  rw [Nat.zero_add] at this
  exact this
 | @fn f a b x y h1 h2 _ _ ih1 ih2 =>
  intro u ha
  obtain ⟨a',b',rfl,p1,p2⟩:=ha.KJ
  refine .fn (by rw [←h1];exact p1.1) (by rw [←h2];exact p2.1) (fun i v w hv hw=>?_) (fun i v w hv hw=>?_)
  ·have hi:i < a.length:=by rw [h1];exact (List.getElem?_eq_some_iff.1 hv).1
   have hai:a[i]?=some a[i]:=List.getElem?_eq_getElem hi
   exact ih1 i _ v hai hv (p1.2 i _ w hai hw)
  ·have hi:i < b.length:=by rw [h2];exact (List.getElem?_eq_some_iff.1 hv).1
   have hai:b[i]?=some b[i]:=List.getElem?_eq_getElem hi
   exact ih2 i _ v hai hv (p2.2 i _ w hai hw)
def fU (hp:List AB):List AV→List AV→Prop
 | [],[]=>True
 | r :: rs,v :: vs=>Fq hp r v∧fU hp rs vs
 | _,_=>False
theorem fU.dr {X:Nat→Prop} (h:aV E base hp aA H) (hX:∀ k,X k→E.X k):∀ {rs vs:List AV} {us:List Value},fU hp rs vs→gk E.ρ H.get (E.O hp) rs us→uI H.get X vs us
 | [],[],us,_,ha=>⟨ha.1,fun i a u hx=>by cases hx⟩
 | r :: rs,v :: vs,[],_,ha=>absurd ha.1 (by simp)
 | r :: rs,v :: vs,u :: us,hf,ha=>by
  have:=fU.dr h hX hf.2 (us:=us) ⟨by simpa using ha.1,fun i a u x y=>ha.2 (i+1) a u (by simpa using x) (by simpa using y)⟩
  refine ⟨by simp [this.1],fun i a w hx hw=>?_⟩
  cases i with
  | zero=>cases hx;cases hw;exact hf.1.dr h hX (ha.2 0 r u rfl rfl)
  | succ i=>exact this.2 i a w (by simpa using hx) (by simpa using hw)
 | [],_ :: _,_,hf,_=>hf.elim
 | _ :: _,[],_,hf,_=>by simp [fU] at hf
theorem fU.L4 {f:FuncId} {a b x y:List AV} (h1:fU hp a x) (h2:fU hp b y):Fq hp (.fn f a b) (.fn f x y):=by
 have key:∀ {a x:List AV},fU hp a x→a.length=x.length∧∀ (i:Nat) (u v:AV),a[i]?=some u→x[i]?=some v→Fq hp u v:=by
  intro a
  induction a with
  | nil =>
   intro x h
   cases x with
   | nil=>exact ⟨rfl,fun i u v hu=>by cases hu⟩
   | cons=>exact h.elim
  | cons r rs ih =>
   intro x h
   cases x with
   | nil=>simp [fU] at h
   | cons v vs =>
    obtain ⟨l,k⟩:=ih h.2
    refine ⟨by simp [l],fun i u w hu hw=>?_⟩
    cases i with
    | zero=>cases hu;cases hw;exact h.1
    | succ i=>exact k i u w (by simpa using hu) (by simpa using hw)
 exact .fn (key h1).1 (key h2).1 (key h1).2 (key h2).2
theorem af.vL {F F':AV} {args vs:List AV} {v:AV} (h:af T tab one F' vs v) (hF:Fq hp F F') (hz:fU hp args vs) (hfree:js v) {Q:AV→List AB→bW→Prop} (hq:Q v hp aA):au T tab one F args hp aA Q:=by
 intro E base H u us hr hf ha
 obtain ⟨hd,h⟩:=h
 obtain ⟨goal,hg,m,L,h1,h2,h3⟩:=h E.X H u us hr.wf (fun k hk=>hr.xn k hk) (hF.dr hr (fun _ h=>h) hf) (hz.dr hr (fun _ h=>h) ha)
 refine ⟨goal,hg,m,L,h1,h2,fun r hm=>?_⟩
 obtain ⟨w,H',rfl,hn,hwf,hsame,hlo,hv⟩:=h3 r hm
 have e:Ext base E hp H E hp H':=⟨hn,rfl,rfl,rfl,fun _ _ _ h=>h,fun _ h=>.inl h,fun k hk _=>hsame k hk,by have:=hr.bn;omega⟩
 refine ⟨w,H',rfl,E,v,hp,aA,hq,⟨hwf,fun j x aB hj hvx=>?_,hr.inj,fun j v k hk=>Nat.lt_of_lt_of_le (hr.rn j v k hk) hn,hr.fresh,hr.new,hr.sup,hr.jX,hr.dx,hr.ds,fun k hk=>Nat.lt_of_lt_of_le (hr.sn k hk) hn,fun k hk=>Nat.lt_of_lt_of_le (hr.xn k hk) hn,hr.sA,Nat.le_trans hr.bn hn,aA.st hr.aA (fun k hk=>hsame k (hr.sn k hk)) hn⟩,.d (hfree.2 _ _ _ _ hv),e.FX⟩
 rcases hr.iQ j x aB hj hvx with ⟨k,b',q1,q2,q3⟩|q
 ·exact .inl ⟨k,b',q1,by rw [hsame k (hr.wf.lt q2)];exact q2,e.br hr.wf q3⟩
 ·exact .inr q
theorem fU.nil:fU hp [] []:=trivial
theorem fU.cons {a x:AV} {as xs:List AV} (h:Fq hp a x) (k:fU hp as xs):fU hp (a :: as) (x :: xs):=⟨h,k⟩
theorem Fq.deep {v:AV} (h:v.deep=true):Fq hp v v:=.fz (.deep h)
end
end Go.RM
namespace Go.RM
open Go
section
variable {T : bM} {tab : List XE} {one : Bool} {mu : Tmp → Bool} {dst : Option Tmp} {fr : Nat → AV} {hp : List AB} {aA : bW} {rd : Bool} {fl : Nat} {KS : bz → Prop}
theorem om {r:Operand} {name:String} {l:List Operand} {tys} {F:AV} (hF:Ae T.P (bw fr r) name=F) (h:force F fun F=>fL (l.map (bw fr)) fun as=>au T tab one F as hp aA fun v hp' amb'=>iA dst fr v fun fr'=>KS ⟨fr',hp',amb',rd,fl⟩) :
  tM T tab one mu dst (.call ⟨.invoke r name,l.toArray,tys⟩) fr hp aA rd fl KS:=by
 subst hF
 exact h
theorem nm {r:Operand} {name:String} {l:List Operand} {tys} {i:Nat} {bt:Nat→Nat} {KD:(Nat→AV)→List AB→(Nat→Nat)→wI→Prop} {F v:AV} {as:List AV} (hp':af T tab true F as v) (hF:Ae T.P (bw fr r) name=F) (ha:l.map (bw fr)=as) (hd:F.deep=true) (hda:bU as=true)
  (h:iA dst fr v fun fr'=>KD fr' hp (pN dst bt (i+1)) ⟨i,[],true,true⟩):j7 T tab mu dst (.call ⟨.invoke r name,l.toArray,tys⟩) i bt fr hp KD:=by
 show force (Ae T.P (bw fr r) name) fun F=>fL (l.map (bw fr)) fun as=>F.deep=true∧∃ vs v,Handed hp as vs v∧af T tab true F vs v∧iA dst fr v fun fr'=>KD fr' hp (pN dst bt (i+1)) ⟨i,[],true,true⟩
 rw [hF,ha]
 exact yp (uQ (P:=fun as=>F.deep=true∧∃ vs v,Handed hp as vs v∧af T tab true F vs v∧iA dst fr v fun fr'=>KD fr' hp (pN dst bt (i+1)) ⟨i,[],true,true⟩) ⟨hd,as,v,.inl ⟨rfl,hda⟩,hp',h⟩)
end
end Go.RM
namespace Go.RM
open Go
section
variable {T : bM} {tab : List XE} {one : Bool} {mu : Tmp → Bool} {KE : Exit → bz → Prop} {st : bz}
theorem He {l:List Oper} (hd:l.any zO=false):gQ l.toArray=l.length:=by
 unfold gQ
 have:l.findIdx? zO=none:=by
  rw [List.findIdx?_eq_none_iff]
  intro x hx
  rw [List.any_eq_false] at hd
  simpa using hd x hx
 simp only [this]
theorem IY {id:Nat} {l:List Oper} (hd:l.any zO=false) (h:j8 T tab mu l.toArray l 0 (fun _=>0) [] st (KE .normal)):kC T tab one mu (.region id l.toArray true) st KE:=by
 refine c5 (He hd) rfl rfl ?_
 rw [List.take_length,List.drop_length]
 exact h
end
end Go.RM
namespace Go.RM
open Go
section
variable {T : bM} {tab : List XE} {one : Bool} {mu : Tmp → Bool} {own : Bool} {fr : Nat → AV} {hp : List AB} {K : AV → List AB → Prop} {t : TypeId} {jI : TypeDesc} {s by' : Nat} {z : Option Value} {agg : Bool} {cy : List (Nat × Nat)} {dh : Nat}
theorem Pt {a:Operand} {cs:List AV} {o:Nat} (ha:bw fr a=.pt cs o) (ht:T.ty.get t=some ⟨jI,s,by',z,true,cy,dh⟩) (hl:Nat.ble (o+s) cs.length=true) (h:K (.ag ((cs.drop o).take s)) hp):wpOp T own (.load t a) fr hp K:=by
 show gn T t (bw fr a) hp K
 unfold gn
 simp only [ha,ht]
 exact ⟨Nat.le_of_ble_eq_true hl,h⟩
theorem Pv {a:Operand} {cs:List AV} {o:Nat} {v:AV} (ha:bw fr a=.pt cs o) (ht:T.ty.get t=some ⟨jI,s,by',z,false,cy,dh⟩) (hv:cs[o]?=some v) (h:K v hp):wpOp T own (.load t a) fr hp K:=by
 show gn T t (bw fr a) hp K
 unfold gn
 simp only [ha,ht]
 exact ⟨v,hv,h⟩
theorem Pa {a:Operand} {j aB o es:Nat} {cs:List AV} (ha:bw fr a=.ptr j aB o) (ht:T.ty.get t=some ⟨jI,s,by',z,true,cy,dh⟩) (hj:hp[j]?=some (.cells cs es aB)) (hl:Nat.ble (o+s) cs.length=true) (h:K (.ag ((cs.drop o).take s)) hp):wpOp T own (.load t a) fr hp K:=by
 show gn T t (bw fr a) hp K
 unfold gn
 simp only [ha,ht]
 exact ⟨cs,es,hj,Nat.le_of_ble_eq_true hl,h⟩
theorem Pb {a:Operand} {j aB o es:Nat} {cs:List AV} {v:AV} (ha:bw fr a=.ptr j aB o) (ht:T.ty.get t=some ⟨jI,s,by',z,false,cy,dh⟩) (hj:hp[j]?=some (.cells cs es aB)) (hv:cs[o]?=some v) (h:K v hp):wpOp T own (.load t a) fr hp K:=by
 show gn T t (bw fr a) hp K
 unfold gn
 simp only [ha,ht]
 exact ⟨cs,es,hj,v,hv,h⟩
theorem Pw {a:Operand} {i:Nat} {cs:List AV} {o off sz:Nat} {fs} (ha:bw fr a=.pt cs o) (ht:T.ty.get t=some ⟨.struct fs,s,by',z,agg,cy,dh⟩) (hf:cy[i]?=some (off,sz)) (h1:Nat.ble 1 sz=true) (h:K (.pt cs (o+off)) hp):wpOp T own (.fieldAddr t a i) fr hp K:=by
 show lN T t (bw fr a) i hp K
 unfold lN
 simp only [ha,ht]
 exact ⟨off,sz,hf,Nat.le_of_ble_eq_true h1,h⟩
theorem Px {a:Operand} {i:Nat} {j aB o off sz:Nat} {fs} (ha:bw fr a=.ptr j aB o) (ht:T.ty.get t=some ⟨.struct fs,s,by',z,agg,cy,dh⟩) (hf:cy[i]?=some (off,sz)) (h1:Nat.ble 1 sz=true) (h:K (.ptr j aB (o+off)) hp):wpOp T own (.fieldAddr t a i) fr hp K:=by
 show lN T t (bw fr a) i hp K
 unfold lN
 simp only [ha,ht]
 exact ⟨off,sz,hf,Nat.le_of_ble_eq_true h1,h⟩
theorem Py {v:Value} (ht:T.ty.get t=some ⟨jI,s,by',some v,agg,cy,dh⟩) (h1:v.cells.toList.all bk=true) (h:K (.ptr hp.length 0 0) (hp++[.cells (v.cells.toList.map .fl) 0 0])):wpOp T own (.alloc t) fr hp K:=by
 show tH T t hp K
 unfold tH
 simp only [ht]
 exact ⟨h1,h⟩
theorem OT {x:Operand} (h:force (bw fr x) fun v=>z9 own v hp K):wpOp T own (.box t x) fr hp K:=h
theorem Pz {v:AV} (ho:own=false) (h1:v.mD=true) (h2:v.cells.all AV.one=true) (h3:bU v.cells=true) (h:K (.pt v.cells 0) hp):z9 own v hp K:=by
 subst ho
 exact ⟨h1,h2,h3,h⟩
theorem PA {v:AV} (ho:own=true) (h1:v.mD=true) (h2:v.cells.all AV.one=true) (h:K (.ptr hp.length 0 0) (hp++[.cells v.cells 0 0])):z9 own v hp K:=by
 subst ho
 exact ⟨h1,h2,h⟩
theorem MC {a x:Operand} (h:force (bw fr x) fun v=>eZ T t (bw fr a) v hp K):wpOp T own (.store t a x) fr hp K:=h
theorem yw {a v:AV} {j aB o es:Nat} {cs:List AV} (ha:a=.ptr j aB o) (ht:T.ty.get t=some ⟨jI,s,by',z,agg,cy,dh⟩) (hj:hp[j]?=some (.cells cs es aB)) (h1:v.mD=true) (h2:v.cells.all AV.one=true) (h3:v.cells.length=s) (h4:Nat.ble (o+s) cs.length=true) (h:K .cJ (hp.set j (.cells (dy cs v.cells o) es aB))):eZ T t a v hp K:=by
 unfold eZ
 simp only [ha,ht]
 exact ⟨cs,es,hj,h1,h2,h3,Nat.le_of_ble_eq_true h4,h⟩
theorem MD {l:List (Nat × Operand)} (h:mE (l.map fun p=>(p.1,bw fr p.2)) fun ps=>oP T t ps hp K):wpOp T own (.build t l.toArray) fr hp K:=h
theorem KK {l:List (Nat × Operand)} {len:Nat} (h:mE (l.map fun p=>(p.1,bw fr p.2)) fun ps=>eD T own t len ps hp K):wpOp T own (.buildSlice t len l.toArray) fr hp K:=h
theorem PB {P:List (Nat × AV)→Prop} (h:P []):mE (([]:List (Nat × Operand)).map fun p=>(p.1,bw fr p.2)) P:=h
theorem PC {i:Nat} {x:Operand} {l:List (Nat × Operand)} {P:List (Nat × AV)→Prop} (h:force (bw fr x) fun a=>mE (l.map fun p=>(p.1,bw fr p.2)) fun l=>P ((i,a) :: l)):mE (((i,x) :: l).map fun p=>(p.1,bw fr p.2)) P:=h
theorem OM {v:Value} {parts:List (Nat × AV)} {cs:List AV} (ht:T.ty.get t=some ⟨jI,s,by',some v,true,cy,dh⟩) (h1:v.cells.toList.all bk=true) (h2:Df (iT jI cy dh) (v.cells.toList.map .fl) parts=some cs) (h:K (.ag cs) hp):oP T t parts hp K:=by
 unfold oP
 simp only [ht]
 exact ⟨h1,cs,h2,h⟩
theorem PD {len:Nat} {parts:List (Nat × AV)} {inf:zM} (ho:own=false) (hi:elem? T t=some inf) (h1:Nat.ble (len * inf.size) 65536=true) (h2:cx inf=true) (h3:m6 inf.size 0 parts=true) (h4:Nat.beq parts.length len=true) (h5:bU (parts.map (·.2.cells)).flatten=true) (h:K (.sl (parts.map (·.2.cells)) true) hp):eD T own t len parts hp K:=by
 subst ho
 unfold eD
 simp only [hi]
 exact ⟨h1,h2,h3,h4,h5,h⟩
theorem PE {len:Nat} {parts:List (Nat × AV)} {inf:zM} (ho:own=true) (hi:elem? T t=some inf) (h1:Nat.ble (len * inf.size) 65536=true) (h2:cx inf=true) (h3:m6 inf.size 0 parts=true) (h4:Nat.beq parts.length len=true) (h:K (.dM hp.length 0 0 len len) (hp++[.cells (parts.map (·.2.cells)).flatten inf.size 0])):eD T own t len parts hp K:=by
 subst ho
 unfold eD
 simp only [hi]
 exact ⟨h1,h2,h3,h4,h⟩
theorem PF {x:Operand} {i:Nat} {vs:List AV} {v:AV} (ha:bw fr x=.tp vs) (hv:vs[i]?=some v) (h:K v hp):wpOp T own (.extract x i) fr hp K:=by
 show lZ (bw fr x) i hp K
 rw [ha]
 exact ⟨v,hv,h⟩
theorem Pc {a x:Operand} {e:TypeId} {els:List (List AV)} {f:Bool} {j:Int} {el:List AV} (ha:bw fr a=.sl els f) (hx:bw fr x=.fl (.int .i64 j)) (ht:T.ty.get t=some ⟨.slice e,s,by',z,agg,cy,dh⟩) (hat:els[j.toNat]?=some el) (h0:0≤j) (hl:el.length=dh) (h:K (.pt el 0) hp):wpOp T own (.indexAddr t a x) fr hp K:=by
 show dm T t (bw fr a) (bw fr x) hp K
 rw [ha,hx]
 unfold dm
 simp only [asInt,ht]
 exact ⟨el,⟨h0,hat⟩,hl,h⟩
theorem PG {a x:Operand} {e:TypeId} {i aB o n c:Nat} {j:Int} (ha:bw fr a=.dM i aB o n c) (hx:bw fr x=.fl (.int .i64 j)) (ht:T.ty.get t=some ⟨.slice e,s,by',z,agg,cy,dh⟩) (h0:0≤j∧j < (n:Int)) (h:K (.ptr i aB (o+j.toNat * dh)) hp):wpOp T own (.indexAddr t a x) fr hp K:=by
 show dm T t (bw fr a) (bw fr x) hp K
 rw [ha,hx]
 unfold dm
 simp only [asInt,ht]
 exact ⟨h0,h⟩
theorem PI {a x:Operand} {e:TypeId} {len:Nat} {cs:List AV} {o:Nat} {j:Int} (ha:bw fr a=.pt cs o) (hx:bw fr x=.fl (.int .i64 j)) (ht:T.ty.get t=some ⟨.array len e,s,by',z,agg,cy,dh⟩) (h0:0≤j∧j < (len:Int)) (h:K (.pt cs (o+j.toNat * dh)) hp):wpOp T own (.indexAddr t a x) fr hp K:=by
 show dm T t (bw fr a) (bw fr x) hp K
 rw [ha,hx]
 unfold dm
 simp only [asInt,ht]
 exact ⟨h0,h⟩
theorem PJ {a x:Operand} {e:TypeId} {len:Nat} {i aB o:Nat} {j:Int} (ha:bw fr a=.ptr i aB o) (hx:bw fr x=.fl (.int .i64 j)) (ht:T.ty.get t=some ⟨.array len e,s,by',z,agg,cy,dh⟩) (h0:0≤j∧j < (len:Int)) (h:K (.ptr i aB (o+j.toNat * dh)) hp):wpOp T own (.indexAddr t a x) fr hp K:=by
 show dm T t (bw fr a) (bw fr x) hp K
 rw [ha,hx]
 unfold dm
 simp only [asInt,ht]
 exact ⟨h0,h⟩
end
end Go.RM
namespace Go.RM
open Go
section
variable {T : bM} {own : Bool} {fr : Nat → AV} {hp : List AB} {K : AV → List AB → Prop} {t : TypeId}
theorem PK {l c:Operand} {n:Nat} {inf:zM} (hi:elem? T t=some inf) (hl:bw fr l=.fl (.int .i64 (Int.ofNat n))) (hc:bw fr c=.fl (.int .i64 (Int.ofNat n))) (hb:inf.bytes * n≤140737488355328∧n≤9223372036854775807) (hz:cx inf=true) (h:K (.dM hp.length 0 0 n n) (hp++[.cells ((cH (zeroCells inf) (n * inf.size)).map .fl) inf.size 0])):wpOp T own (.makeSlice t l c) fr hp K:=by
 show x6 T t (bw fr l) (bw fr c) hp K
 unfold x6
 simp only [hi,hl,hc]
 refine ⟨n,n,rfl,rfl,⟨Nat.le_refl _,hb⟩,hz,?_⟩
 rw [show Nat.beq n n=true from Nat.beq_refl n]
 exact h
end
end Go.RM
namespace Go.RM
open Go
section
variable {T : bM} {own : Bool} {fr : Nat → AV} {hp : List AB} {K : AV → List AB → Prop} {s x : Operand} {t u e : TypeId} {a1 a2 a3 a4 a5 a6} {els : List (List AV)} {f : Bool} {inf : zM}
end
end Go.RM
namespace Go.RM
open Go
end Go.RM
namespace Go.RM
open Go
section
variable {T : bM} {tab : List XE} {one : Bool} {fl base : Nat} {E E' E2 : Env} {hp hp' hp2 : List AB} {aA amb' : bW} {H H' H2 : Hp} {ρ ρ2 : Nat → Nat → Option Nat} {g g2 : aE} {O O2 : Nat → Prop}
def OU (T:bM) (tab:List XE) (mu:Tmp→Bool) (ops:Array Oper) (c:Nat) (K:bz→Prop) (acc:List wI) (st:bz):Prop :=
 match ops.toList[c]? with
 | some o=>match dc o.op with
  | .call f args=>cX ops.toList o.guard st.fr (force (OE T.P st.fr f) fun F=>fL (args.map (bw st.fr)) fun as=>F.deep=true∧∃ vs v,Handed st.hp as vs v∧af T tab false F vs v∧rj (rI ops) (⟨c,[],true,true⟩ :: acc)=true ∧
   iA o.dst st.fr v fun fr'=>wpOps T tab false mu ops.toList (ops.toList.drop (c+1)) ⟨fr',st.hp,st.aA,st.rd,st.fl⟩ K) False
  | _=>False
 | none=>False
def tP (T:bM) (tab:List XE) (mu:Tmp→Bool) (ops:Array Oper) (c:Nat) (K:bz→Prop):List Oper→Nat→(Nat→Nat)→List wI→bz→Prop
 | [],i,_,acc,st=>i=c∧OU T tab mu ops c K acc st
 | ⟨dst,op,_,_,_,gd⟩ :: l,i,bt,acc,⟨fr,hp,aA,rd,fl⟩ =>
  cX ops.toList gd fr (j7 T tab mu dst op i bt fr hp fun fr' hp' bt' x=>tP T tab mu ops c K l (i+1) bt' (x :: acc) ⟨fr',hp',aA,rd,fl⟩)
   (iA dst fr (.tp []) fun fr'=>tP T tab mu ops c K l (i+1) (pN dst bt 0) (⟨i,[],false,false⟩ :: acc) ⟨fr',hp,aA,rd,fl⟩)
section
variable {mu : Tmp → Bool} {ops : Array Oper} {K : bz → Prop} {c i : Nat} {bt : Nat → Nat} {acc : List wI} {fr : Nat → AV} {rd : Bool}
theorem PL {dst:Option Tmp} {op:Op} {a1 a2 a3 gd} {l:List Oper} (h:cX ops.toList gd fr (j7 T tab mu dst op i bt fr hp fun fr' hp' bt' x=>tP T tab mu ops c K l (i+1) bt' (x :: acc) ⟨fr',hp',aA,rd,fl⟩)
 (iA dst fr (.tp []) fun fr'=>tP T tab mu ops c K l (i+1) (pN dst bt 0) (⟨i,[],false,false⟩ :: acc) ⟨fr',hp,aA,rd,fl⟩)):tP T tab mu ops c K (⟨dst,op,a1,a2,a3,gd⟩ :: l) i bt acc ⟨fr,hp,aA,rd,fl⟩:=h
end
end
end Go.RM
namespace Go.RM
open Go
end Go.RM
namespace Go.RM
structure Hd (h:Prop):Prop where
 x:h
theorem u1 {g h : Prop} (q : h) (k : Hd h → g := by
    intro hd
    first
    | with_reducible (first | refine RM.c1 ?_ | refine RM.c2 ?_ | refine RM.c3 ?_ | refine RM.c4 ?_ | refine RM.c6 ?_ | refine RM.c7 ?_ | refine RM.c8 ?_ | refine RM.c9 ?_ | refine RM.d1 ?_ | refine RM.d2 ?_ | refine RM.d3 ?_ | refine RM.d4 ?_ | refine RM.d7 ?_ | refine RM.d8 ?_ | refine RM.d9 ?_ | refine RM.o1 ?_ | refine RM.o2 ?_ | refine RM.o3 ?_ | refine RM.o4 ?_ | refine RM.o5 ?_ | refine RM.o6 ?_ | refine RM.o7 ?_ | refine RM.o9 ?_ | refine RM.p1 ?_ | refine RM.p2 ?_ | refine RM.p3 ?_ | refine RM.p4 ?_ | refine RM.p5 ?_ | refine RM.p6 ?_ | refine RM.p7 ?_ | refine RM.p8 ?_ | refine RM.q1 ?_ | refine RM.q2 ?_ | refine RM.OT ?_ | refine RM.MC ?_ | refine RM.MD ?_ | refine RM.KK ?_ | refine RM.PB ?_ | refine RM.PC ?_ | refine RM.PL ?_)
    | ((with_reducible show force _ _); first | refine RM.f1 rfl ?_ | refine RM.f2 rfl ?_ | refine RM.f3 rfl ?_ | refine RM.f4 rfl ?_ | refine RM.f5 rfl ?_ | refine RM.f6 rfl ?_ | refine RM.f7 rfl ?_ | refine RM.f8 rfl ?_ | refine RM.f9 rfl ?_ | refine RM.g1 rfl ?_ | refine RM.g2 rfl ?_)
    | ((with_reducible show RM.wpOp _ _ _ _ _ _); first
      | ((with_reducible show RM.wpOp _ _ (.load _ _) _ _ _); first | refine RM.Pv rfl rfl rfl ?_ | refine RM.Pt rfl rfl rfl ?_ | refine RM.Pb rfl rfl rfl rfl ?_ | refine RM.Pa rfl rfl rfl rfl ?_)
      | ((with_reducible show RM.wpOp _ _ (.fieldAddr _ _ _) _ _ _); first | refine RM.Pw rfl rfl rfl rfl ?_ | refine RM.Px rfl rfl rfl rfl ?_)
      | ((with_reducible show RM.wpOp _ _ (.alloc _) _ _ _); refine RM.Py rfl rfl ?_)
      | ((with_reducible show RM.wpOp _ _ (.extract _ _) _ _ _); refine RM.PF rfl rfl ?_)
      | ((with_reducible show RM.wpOp _ _ (.indexAddr _ _ _) _ _ _); first | refine RM.Pc rfl rfl rfl (by assumption) (by omega) rfl ?_ | refine RM.Pc rfl rfl rfl rfl (by omega) rfl ?_ | refine RM.PG rfl rfl rfl (by omega) ?_ | refine RM.PI rfl rfl rfl (by omega) ?_ | refine RM.PJ rfl rfl rfl (by omega) ?_)
      | ((with_reducible show RM.wpOp _ _ (.makeSlice _ _ _) _ _ _); refine RM.PK rfl rfl rfl (by decide) rfl ?_)
      | ((with_reducible show RM.wpOp _ _ (.unOp _ _ _) _ _ _); refine RM.n3 rfl ?_)
      | ((with_reducible show RM.wpOp _ _ (.call _) _ _ _); first | refine RM.n4 rfl rfl ?_ | refine RM.n5 rfl rfl ?_))
    | ((with_reducible show kC _ _ _ _ (.region _ _ true) _ _); first | refine RM.IY rfl ?_ | refine RM.c5 (by kernel_rfl) rfl rfl ?_)
    | ((with_reducible show tM _ _ _ _ _ _ _ _ _ _ _ _); refine RM.o8 rfl ?_)
    | ((with_reducible show j7 _ _ _ _ _ _ _ _ _ _); first | refine RM.p9 rfl ?_ | refine RM.n1 ?_)
    | ((with_reducible show cX _ _ _ _ _); first | refine vK rfl rfl rfl ?_ | refine ym rfl rfl rfl ?_ | refine BK rfl rfl ?_ | refine vK rfl rfl (by assumption) ?_ | refine ym rfl rfl (by assumption) ?_)
    | ((with_reducible show kC _ _ _ _ (.cond _ _ _) _ _); first | refine RM.e2 rfl rfl ?_ | refine RM.e3 rfl rfl ?_ | refine RM.e2 rfl (by assumption) ?_ | refine RM.e3 rfl (by assumption) ?_)
    | ((with_reducible show uJ _ _ _ _ _); refine RM.k1 rfl ?_)
    | ((with_reducible show lO _ _ _ _ _); first | refine RM.k2 rfl ?_ | refine RM.k3 rfl ?_ | refine RM.k2 (by assumption) ?_ | refine RM.k3 (by assumption) ?_ | refine RM.k4 rfl rfl ?_)
    | ((with_reducible show lC _ _ _ _ _ _ _ _ _); first | refine RM.b4 rfl rfl ?_ | refine RM.b5 rfl rfl ?_ | refine RM.b6 rfl rfl ?_ | refine RM.b7 rfl rfl ?_ | refine RM.b8 rfl rfl ?_ | refine RM.b9 rfl rfl ?_ | refine RM.b1 rfl rfl (by omega) ?_ | refine RM.b2 rfl rfl (by omega) ?_ | refine RM.b3 rfl rfl (by omega) ?_ | refine RM.r1 rfl rfl (by omega) ?_ | refine RM.r2 rfl rfl (by omega) ?_)
    | ((with_reducible show tK _ _ _ _ _); first | refine RM.l1 rfl ?_ | refine RM.l2 rfl ?_)
    | ((with_reducible show tJ _ _ _); first | refine RM.l3 rfl ?_ | refine RM.l4 rfl ?_)
    | ((with_reducible show k9 _ _ _ _); first | refine RM.d5 rfl ?_ | refine RM.d6 rfl ?_)
    | ((with_reducible show z9 _ _ _ _); first | refine RM.Pz rfl rfl rfl rfl ?_ | refine RM.PA rfl rfl rfl ?_)
    | ((with_reducible show eZ _ _ _ _ _ _); refine RM.yw rfl rfl rfl rfl rfl rfl rfl ?_)
    | ((with_reducible show oP _ _ _ _ _); refine RM.OM rfl rfl rfl ?_)
    | ((with_reducible show eD _ _ _ _ _ _ _); first | refine RM.PD rfl rfl rfl rfl rfl rfl rfl ?_ | refine RM.PE rfl rfl rfl rfl rfl rfl ?_)
    | ((with_reducible show au _ _ _ _ _ _ _ _); refine af.call (by assumption) rfl rfl ?_)
    | ((with_reducible show rj _ _ = true ∧ _); refine And.intro (by kernel_rfl) ?_)
    | ((with_reducible show ∃ _, IF _ _ _ = some _ ∧ _); refine ⟨_, rfl, ?_⟩)
    | ((with_reducible show AV.deep _ = true ∧ _); refine ⟨rfl, rfl, ?_⟩)
    | ((with_reducible show ∃ _, af _ _ _ _ _ _ ∧ _); refine ⟨_, by assumption, ?_⟩)
    exact hd.x) : g := k ⟨q⟩
theorem u2 {g h:Prop} (q:h) (k:Hd h→g:=by
 intro hd
 first
 | refine ⟨_,rfl,?_⟩
 | refine ⟨_,_,rfl,by decide,?_⟩
 | refine ⟨rfl,rfl,rfl,?_⟩
 | refine ⟨rfl,rfl,?_⟩
 | refine ⟨_,_,rfl,_,rfl,?_⟩
 | refine And.intro (Nat.le_of_ble_eq_true rfl) ?_
 | refine And.intro (by omega) ?_
 | refine ⟨_,_,rfl,rfl,_,rfl,rfl,?_⟩
 | refine And.intro (by kernel_rfl) ?_
 | refine ⟨rfl,rfl,rfl,rfl,rfl,?_⟩
 | refine ⟨_,_,rfl,rfl,rfl,rfl,Nat.le_of_ble_eq_true rfl,?_⟩
 | refine ⟨_,_,rfl,Nat.le_of_ble_eq_true rfl,?_⟩
 exact hd.x):g:=k ⟨q⟩
end Go.RM
namespace Go.RM
open Go
section
variable {T : bM} {tab : List XE} {one : Bool} {fl base : Nat} {E E' E2 : Env} {hp hp' hp2 : List AB} {aA amb' : bW} {H H' H2 : Hp} {ρ ρ2 : Nat → Nat → Option Nat} {g g2 : aE} {O O2 : Nat → Prop}
variable {mu : Tmp → Bool} {fr : Nat → AV} {KS : bz → Prop} {rd : Bool} {dst : Option Tmp}
end
end Go.RM
namespace Go.RM
open Go
section
variable {T : bM} {tab : List XE} {one : Bool} {fl base : Nat} {E E' E2 : Env} {hp hp' hp2 : List AB} {aA amb' : bW} {H H' H2 : Hp} {ρ ρ2 : Nat → Nat → Option Nat} {g g2 : aE} {O O2 : Nat → Prop}
variable {mu : Tmp → Bool} {fr : Nat → AV} {KS : bz → Prop} {rd : Bool} {dst : Option Tmp}
end
end Go.RM
namespace Go.RM
open Go
section
variable {T : bM} {tab : List XE} {one : Bool} {fl base : Nat} {E E' E2 : Env} {hp hp' hp2 : List AB} {aA amb' : bW} {H H' H2 : Hp} {ρ ρ2 : Nat → Nat → Option Nat} {g g2 : aE} {O O2 : Nat → Prop} {r : Rec}
theorem rq {α β:Type} (a:α) (l:List α) (f:α→Option (List β)) {x y:List β} (h1:f a=some x) (h2:aZ l f=some y):aZ (a :: l) f=some (x++y):=by
 cases l with
 | nil =>
  rw [lX] at h2
  cases h2
  rw [dN,h1,List.append_nil]
 | cons b l =>
  rw [fo,h1]
  simp only [h2,Option.map_some]
theorem uU {α β:Type} {a:α} {l:List α} {f:α→Option (List β)} {z:List β} (h:aZ (a :: l) f=some z):∃ x y,f a=some x∧aZ l f=some y∧z=x++y:=by
 cases l with
 | nil=>exact ⟨z,[],h,rfl,(List.append_nil _).symm⟩
 | cons b l =>
  rw [fo] at h
  cases hx:f a with
  | none=>rw [hx] at h;cases h
  | some x =>
   rw [hx] at h
   simp only [Option.map_eq_some_iff] at h
   obtain ⟨y,hy,rfl⟩:=h
   exact ⟨x,y,rfl,hy,rfl⟩
theorem Am {α β:Type} {f:α→Option (List β)}:∀ {a b:List α} {z:List β},aZ (a++b) f=some z→∃ x y,aZ a f=some x∧aZ b f=some y∧z=x++y
 | [],b,z,h=>⟨[],z,rfl,h,rfl⟩
 | c :: a,b,z,h=>by
  obtain ⟨x,y,h1,h2,rfl⟩:=uU (l:=a++b) h
  obtain ⟨u,v,h3,h4,rfl⟩:=Am h2
  exact ⟨x++u,v,rq _ _ _ h1 h3,h4,(List.append_assoc _ _ _).symm⟩
theorem vM {α β γ:Type} {f:α→Option (List β)} {k:β→Option (List γ)} {h:α→Option (List γ)} (hh:∀ x N M,f x=some N→aZ N k=some M→h x=some M):∀ {L0:List α} {L:List β} {M:List γ},aZ L0 f=some L→aZ L k=some M→aZ L0 h=some M
 | [],L,M,h1,h2=>by
  rw [lX] at h1
  cases h1
  exact h2
 | a :: l,L,M,h1,h2=>by
  obtain ⟨x,y,q1,q2,rfl⟩:=uU h1
  obtain ⟨u,v,q3,q4,rfl⟩:=Am h2
  exact rq _ _ _ (hh a x u q1 q3) (vM hh q2 q4)
end
end Go.RM
namespace Go.RM
open Go
section
variable {T : bM} {tab : List XE} {one : Bool} {fl base : Nat} {E E' E2 : Env} {hp hp' hp2 : List AB} {aA amb' : bW} {H H' H2 : Hp} {ρ ρ2 : Nat → Nat → Option Nat} {g g2 : aE} {O O2 : Nat → Prop} {r : Rec}
end
end Go.RM
namespace Go.RM
open Go
section
variable {T : bM} {tab : List XE} {one : Bool} {fl base : Nat} {E E' E2 : Env} {hp hp' hp2 : List AB} {aA amb' : bW} {H H' H2 : Hp} {ρ ρ2 : Nat → Nat → Option Nat} {g g2 : aE} {O O2 : Nat → Prop}
end
end Go.RM
namespace Go.RM
open Go
section
variable {T : bM} {tab : List XE} {one : Bool} {fl base : Nat} {E E' E2 : Env} {hp hp' hp2 : List AB} {aA amb' : bW} {H H' H2 : Hp} {r : Rec}
end
end Go.RM
namespace Go.RM
open Go
section
variable {T : bM} {tab : List XE} {one : Bool} {base : Nat} {E E' : Env} {st st' : bz} {s s' : St} {n n' : Nat}
inductive pS where
 | e (x:Exit)
 | fG (a:AV)
def Nw (E:Env) (hp:List AB) (H:Hp):kF→pS→Prop
 | .e x,y=>y=.e x
 | .fG v,y=>∃ a,y=.fG a∧AR E.ρ H.get (E.O hp) a v
def lD (E:Env) (base:Nat) (st:bz) (s:St) (K:pS→bz→Prop) (p:kF × St):Prop :=
 ∃ E' st' y,K y st'∧st'.fl=st.fl∧kN E' base st' p.2∧jJ st.fl base E st.hp s.hp E' st'.hp p.2.hp∧Nw E' st'.hp p.2.hp p.1 y
def az (T:bM) (tab:List XE) (one:Bool) (n:Nat) (c:Code) (st:bz) (K:pS→bz→Prop):Prop :=
 ∀ (E:Env) (base:Nat) (s:St),kN E base st s→∃ m L,cq T (RX T tab m) (gJ T (RX T tab m) n) c s=some L∧mK one L (lD E base st s K)
theorem uX {a:Rec}:∀ {n k:Nat},n≤k→qn (gJ T a n) (gJ T a k)
 | 0,_,_=>fun _ _ e=>by cases e
 | n+1,0,h=>by omega
 | n+1,k+1,h=>fun j L e=>C6 (fun _ _ h=>h) (uX (Nat.le_of_succ_le_succ h)) j L e
theorem az.fuel {c:Code} {K:pS→bz→Prop} (hn:n≤n') (h:az T tab one n c st K):az T tab one n' c st K:=by
 intro E base s hs
 obtain ⟨m,L,h1,h2⟩:=h E base s hs
 exact ⟨m,L,nR (fun _ _ h=>h) (uX hn) _ _ _ h1,h2⟩
theorem kP {m m':Nat} (hm:m≤m') {c:Code} {s:St} {L:List (kF × St)} (h:cq T (RX T tab m) (gJ T (RX T tab m) n) c s=some L):cq T (RX T tab m') (gJ T (RX T tab m') n) c s=some L :=
 nR (eH hm) (oL (eH hm) n) _ _ _ h
theorem lD.from {K:pS→bz→Prop} {E1:Env} {yw:bz} {s1:St} {p:kF × St} (hfl:yw.fl=st.fl) (hf:jJ st.fl base E st.hp s.hp E1 yw.hp s1.hp) (h:lD E1 base yw s1 K p):lD E base st s K p:=by
 obtain ⟨E',st',y,k1,k0,k2,k3,k4⟩:=h
 rw [hfl] at k3
 exact ⟨E',st',y,k1,k0.trans hfl,k2,hf.trans k3,k4⟩
theorem az.aU {c:Code} {K:pS→bz→Prop} (hw:aj st st') (h:az T tab one n c st' K):az T tab one n c st K:=by
 intro E base s hs
 obtain ⟨E1,hs1,hf⟩:=hw.2 E base s hs
 obtain ⟨m,L,h1,h2,h3⟩:=h E1 base s hs1
 exact ⟨m,L,h1,h2,fun p hp=>lD.from hw.1 hf (h3 p hp)⟩
def Jd (Kb:bz→Prop) (K:pS→bz→Prop) (y:pS) (s:bz):Prop :=
 match y with
 | .e .normal=>Kb s
 | y=>K y s
theorem az.seq {a b:Code} {K:pS→bz→Prop} (h:az T tab one n a st (Jd (fun s=>az T tab one n b s K) K)):az T tab one n (.seq a b) st K:=by
 intro E base s hs
 obtain ⟨m0,L0,h1,h2,h3⟩:=h E base s hs
 obtain ⟨m,M,hm,q1,q2⟩:=dn (one:=one) (L:=L0) (f:=fun m (p:kF × St)=>sO (cq T (RX T tab m) (gJ T (RX T tab m) n) b) p) (P:=lD E base st s K) (fun i j x M hij hx=>by
   rcases oC hx with ⟨e1,e2⟩|⟨e1,rfl⟩
   ·obtain ⟨z,s2⟩:=x
    simp only at e1
    subst e1
    exact kP hij e2
   ·obtain ⟨z,s2⟩:=x
    unfold sO at hx ⊢
    simp only at hx ⊢ e1) m0 h2 (fun p hp=>by
  obtain ⟨E',st',y,k1,k0,k2,k3,k4⟩:=h3 p hp
  obtain ⟨z,s'⟩:=p
  cases z with
  | fG v =>
   obtain ⟨a,rfl,ha⟩:=k4
   exact ⟨0,[(.fG v,s')],rfl,.single ⟨E',st',_,k1,k0,k2,k3,a,rfl,ha⟩⟩
  | e x =>
   obtain rfl:y=.e x:=k4
   cases x with
   | normal =>
    obtain ⟨m,M,r1,r2,r3⟩:=k1 E' base s' k2
    exact ⟨m,M,r1,r2,fun q hq=>lD.from k0 k3 (r3 q hq)⟩
   | _=>exact ⟨0,[(_,s')],rfl,.single ⟨E',st',_,k1,k0,k2,k3,rfl⟩⟩)
 refine ⟨m,M,?_,q2⟩
 rw [jR,kP hm h1]
 exact q1
theorem az.cond {c:Operand} {a b:Code} {K:pS→bz→Prop} {t:Bool} (hc:bw st.fr c=.fl (.bool t)) (h1:t=true→az T tab one n a st K) (h2:t=false→az T tab one n b st K):az T tab one n (.cond c a b) st K:=by
 intro E base s hs
 have:=iX hs.fr c
 rw [hc] at this
 have hv:=this.gm.1
 cases t with
 | true =>
  obtain ⟨m,L,q1,q2⟩:=h1 rfl E base s hs
  exact ⟨m,L,by rw [jb,hv];exact q1,q2⟩
 | false =>
  obtain ⟨m,L,q1,q2⟩:=h2 rfl E base s hs
  exact ⟨m,L,by rw [jb,hv];exact q1,q2⟩
def Gb (id:Nat) (K:pS→bz→Prop) (y:pS) (s:bz):Prop :=
 match y with
 | .e (.exit id')=>bif Nat.beq id' id then K (.e .normal) s else K (.e (.exit id')) s
 | y=>K y s
theorem az.block {id:Nat} {c:Code} {K:pS→bz→Prop} (h:az T tab one n c st (Gb id K)):az T tab one n (.block id c) st K:=by
 intro E base s hs
 obtain ⟨m,L,q1,q2,q3⟩:=h E base s hs
 refine ⟨m,L.map (gw id),by rw [jy,q1],fun h1=>?_,fun p hp=>?_⟩
 ·obtain ⟨p,hp⟩:=q2 h1
  exact ⟨_,by rw [hp];rfl⟩
 ·obtain ⟨p0,hm,rfl⟩:=List.mem_map.1 hp
  obtain ⟨E',st',y,k1,k0,k2,k3,k4⟩:=q3 p0 hm
  obtain ⟨z,s'⟩:=p0
  cases z with
  | fG v =>
   obtain ⟨a,rfl,ha⟩:=k4
   exact ⟨E',st',_,k1,k0,k2,k3,a,rfl,ha⟩
  | e x =>
   obtain rfl:y=.e x:=k4
   unfold Gb at k1
   cases x with
   | exit id' =>
    simp only at k1
    unfold gw
    simp only
    cases hb:Nat.beq id' id with
    | true=>rw [hb] at k1;exact ⟨E',st',_,k1,k0,k2,k3,rfl⟩
    | false=>rw [hb] at k1;exact ⟨E',st',_,k1,k0,k2,k3,rfl⟩
   | _=>exact ⟨E',st',_,k1,k0,k2,k3,rfl⟩
theorem az.here {c:Code} {e:Exit} {K:pS→bz→Prop} (hc:∀ rec recP s,cq T rec recP c s=some [(.e e,s)]) (h:K (.e e) st):az T tab one n c st K :=
 fun E _ s hs=>⟨0,[(.e e,s)],hc _ _ s,.single ⟨E,st,_,h,rfl,hs,.refl,rfl⟩⟩
def vP (T:bM) (tab:List XE):Prop:=∀ g fn,T.Ec.get g=some fn→T.fn.get g=none∧T.Ee.get g=none∧noEntry tab g=true
theorem MF (hT:vP T tab) {g:FuncId} {fn:Func} (hg:T.Ec.get g=some fn) (args:List Value) (H:Hp):∀ m,RX T tab m (.call g args H)=none
 | 0=>by
  obtain ⟨_,_,h3⟩:=hT g fn hg
  show (match look tab g args H with
   | some (v,H')=>some [fQ.ret v H']
   | none=>wo tab T 0 (.call g args H))=none
  rw [j6 _ _ h3]
  rfl
 | m+1=>by
  obtain ⟨h1,h2,h3⟩:=hT g fn hg
  rw [tF,j6 _ _ h3]
  simp only
  rw [iW,h1]
  simp only
  unfold pG
  rw [h2]
theorem KU (hT:vP T tab) {m:Nat} {recP:od→Option (List ey)} {o:Op} {st:St} {M:List (Value × Hp)} (h:fh T (RX T tab m) o st=some M):fH T (RX T tab m) recP o st=some (M.map fun p=>.ret p.1 p.2):=by
 unfold fH
 split
 ·rename_i x hx
  unfold mP at hx
  split at hx
  ·cases h
  ·cases hx
 ·split
  ·rename_i g as hg
   obtain ⟨f,args,hk,hgo⟩:=ta hg
   have hp:∃ fn,T.Ec.get g=some fn:=by
    unfold oe at hg
    rw [hk] at hg
    simp only at hg
    rw [hgo] at hg
    simp only at hg
    cases hq:T.Ec.get g with
    | none=>rw [hq] at hg;cases hg
    | some fn=>exact ⟨fn,rfl⟩
   obtain ⟨fn,hp⟩:=hp
   unfold fh at h
   rw [hk] at h
   simp only at h
   rw [hgo] at h
   simp only at h
   have:=MF hT hp as st.hp m
   rw [show lz st.hp (.fn g as)=.call g as st.hp from rfl,this] at h
   cases h
  ·rw [h]
   rfl
theorem ru {α β γ:Type} (f:α→β) (g:β→Option (List γ)):∀ L:List α,aZ (L.map f) g=aZ L fun x=>g (f x)
 | []=>rfl
 | [_]=>rfl
 | a :: b :: l=>by
  have ih:=ru f g (b :: l)
  rw [List.map_cons,List.map_cons,fo,fo]
  rw [List.map_cons] at ih
  rw [ih]
theorem sG {α β γ:Type} {f:α→Option (List β)} {g:α→Option (List γ)} (k:β→γ) (h:∀ x M,f x=some M→g x=some (M.map k)):∀ {L:List α} {M:List β},aZ L f=some M→aZ L g=some (M.map k)
 | [],M,e=>by rw [lX] at e ⊢;cases e;rfl
 | [x],M,e=>by rw [dN] at e ⊢;exact h _ _ e
 | x :: y :: l,M,e=>by
  rw [fo] at e ⊢
  cases hx:f x with
  | none=>rw [hx] at e;cases e
  | some X =>
   rw [hx] at e
   simp only [Option.map_eq_some_iff] at e
   obtain ⟨Y,hY,rfl⟩:=e
   rw [h _ _ hx]
   simp only [sG k h hY,Option.map_some,List.map_append]
theorem uY (hT:vP T tab) {m:Nat} {recP:od→Option (List ey)} (ops:List Oper):∀ (l:List Oper) (st:St) (L:List St),bL T (RX T tab m) ops l st=some L→aS T (RX T tab m) recP ops l st=some (L.map fun s=>(none,s)):=by
 intro l
 induction l with
 | nil=>intro st L h;rw [i9] at h;cases h;rfl
 | cons o l ih =>
  intro st L h
  rw [dP] at h
  rw [cT]
  cases hg:bx ops st.fr o.guard with
  | false=>rw [hg] at h;exact ih ⟨dR st.fr o.dst undef,st.hp,st.rd⟩ L h
  | true =>
   rw [hg] at h
   simp only [cond_true] at h ⊢
   cases ha:fh T (RX T tab m) o.op st with
   | none=>rw [ha] at h;cases h
   | some A =>
    rw [ha] at h
    rw [KU hT ha]
    simp only at h ⊢
    rw [ru]
    exact sG _ (fun p M hp=>ih _ _ hp) h
theorem az.ops (hT:vP T tab) {id:Nat} {ops:Array Oper} {mu:Tmp→Bool} {K:pS→bz→Prop} (h:wpOps T tab one mu ops.toList ops.toList st (K (.e .normal))):az T tab one n (.region id ops false) st K:=by
 intro E base s hs
 obtain ⟨m,L,q1,q2,q3⟩:=gX h hs
 refine ⟨m,(L.map fun s=>((none:Option Value),s)).map fR,by rw [cU];simp only [cond_false,uY hT _ _ _ _ q1],fun h1=>?_,fun p hp=>?_⟩
 ·obtain ⟨p,hp⟩:=q2 h1
  exact ⟨_,by rw [hp];rfl⟩
 ·obtain ⟨q,hq,rfl⟩:=List.mem_map.1 hp
  obtain ⟨s',hm,rfl⟩:=List.mem_map.1 hq
  obtain ⟨E',st',k1,k0,k2,k3⟩:=q3 s' hm
  exact ⟨E',st',.e .normal,k1,k0,k2,k3,rfl⟩
def MG {σ:Type} (P:σ→Prop) (I:σ→bz) (mz:σ→Nat) (K:pS→bz→Prop) (x:σ) (y:pS) (s:bz):Prop :=
 match y with
 | .e .normal=>∃ z,P z∧mz z < mz x∧aj s (I z)
 | y=>K y s
theorem az.loop {σ:Type} {body:Code} {K:pS→bz→Prop} (P:σ→Prop) (I:σ→bz) (mz:σ→Nat) (h:∀ x,P x→az T tab one n body (I x) (MG P I mz K x)) (x:σ) (hx:P x):az T tab one (n+mz x+1) (.loop body) (I x) K:=by
 have key:∀ (k:Nat) (x:σ),P x→mz x < k→∀ (E:Env) (base:Nat) (s:St),kN E base (I x) s→∃ m L,gJ T (RX T tab m) (n+k) (.loop body s)=some L∧mK one L fun r=>∃ q:kF × St,r=.out q.1 q.2∧lD E base (I x) s K q:=by
  intro k
  induction k with
  | zero=>intro x _ hx;omega
  | succ k ih =>
   intro x hP hx E base s hs
   obtain ⟨k0,L0,h1,h2,h3⟩:=(h x hP).fuel (Nat.le_add_right n k) E base s hs
   obtain ⟨m,M,hk,q1,q2⟩:=dn (one:=one) (L:=L0) (f:=fun m (p:kF × St)=>gR (gJ T (RX T tab m) (n+k)) body p) (P:=fun r=>∃ q:kF × St,r=.out q.1 q.2∧lD E base (I x) s K q) (fun a b p M hab hp=>by
     obtain ⟨z,s2⟩:=p
     unfold gR at hp ⊢
     simp only at hp ⊢
     split at hp
     ·exact oL (eH hab) _ _ _ hp
     ·exact hp) k0 h2 (fun p hp=>by
    obtain ⟨E',st',y,k1,kf,k2,k3,k4⟩:=h3 p hp
    obtain ⟨z,s'⟩:=p
    cases z with
    | fG v =>
     obtain ⟨a,rfl,ha⟩:=k4
     exact ⟨0,[.out (.fG v) s'],rfl,.single ⟨(.fG v,s'),rfl,E',st',_,k1,kf,k2,k3,a,rfl,ha⟩⟩
    | e e =>
     obtain rfl:y=.e e:=k4
     cases e with
     | normal =>
      obtain ⟨z,hPz,hz,hw⟩:=k1
      obtain ⟨E1,hs1,hf1⟩:=hw.2 E' base s' k2
      obtain ⟨m,L,r1,r2,r3⟩:=ih z hPz (by omega) E1 base s' hs1
      refine ⟨m,L,r1,r2,fun r hr=>?_⟩
      obtain ⟨q,rfl,hq⟩:=r3 r hr
      rw [kf] at hf1
      exact ⟨q,rfl,lD.from (hw.1.trans kf) (k3.trans hf1) hq⟩
     | _=>exact ⟨0,[.out (.e _) s'],rfl,.single ⟨(.e _,s'),rfl,E',st',_,k1,kf,k2,k3,rfl⟩⟩)
   refine ⟨m,M,?_,q2⟩
   show lA T (RX T tab m) (gJ T (RX T tab m) (n+k)) (.loop body s)=_
   unfold lA
   simp only [kP hk h1]
   exact q1
 intro E base s hs
 obtain ⟨m,L,h1,h2,h3⟩:=key (mz x+1) x hx (Nat.lt_succ_self _) E base s hs
 obtain ⟨m',M,hm,q1,q2⟩:=dn (one:=one) (L:=L) (f:=fun _ (r:ey)=>AZ r) (P:=lD E base (I x) s K) (fun _ _ _ _ _ h=>h) m h2 (fun r hr=>by
  obtain ⟨q,rfl,hq⟩:=h3 r hr
  exact ⟨0,_,rfl,.single hq⟩)
 refine ⟨m',M,?_,q2⟩
 rw [mU,show n+mz x+1=n+(mz x+1) from rfl,oL (eH hm) _ _ _ h1]
 exact q1
inductive zK where
 | ret (a:AV)
 | fG (a:AV)
def MH (E:Env) (hp:List AB):ey→zK→Prop
 | .ret v H,y=>∃ a,y=.ret a∧AR E.ρ H.get (E.O hp) a v
 | .fG v H,y=>∃ a,y=.fG a∧AR E.ρ H.get (E.O hp) a v
 | .out ..,_=>False
def eT (T:bM) (tab:List XE) (one:Bool) (n:Nat) (F:AV) (args:List AV) (hp:List AB) (aA:bW) (Q:zK→List AB→bW→Prop):Prop :=
 ∀ (E:Env) (base:Nat) (H:Hp) (u:Value) (us:List Value),aV E base hp aA H→AR E.ρ H.get (E.O hp) F u→gk E.ρ H.get (E.O hp) args us→∃ g as fn,cC u us=some (.fn g as)∧T.Ec.get g=some fn ∧
  ∃ m L,gJ T (RX T tab m) n (.call g as H)=some L∧(one=true→∃ r,L=[r])∧∀ r ∈ L,∃ E' y hp' amb',Q y hp' amb'∧aV E' base hp' amb' r.hp∧MH E' hp' r y∧jJ hp.length base E hp H E' hp' r.hp
def Nx (T:bM) (rs:List ResultVar) (Q:zK→List AB→bW→Prop) (y:pS) (st:bz):Prop :=
 match y with
 | .e .normal=>jk T st rs fun as=>Q (.ret (mL as)) st.hp st.aA
 | .e .ret=>jk T st rs fun as=>Q (.ret (mL as)) st.hp st.aA
 | .fG a=>Q (.fG a) st.hp st.aA
 | _=>False
theorem eT.body {hp:List AB} {aA:bW} {f:FuncId} {fn:Func} {c:Code} {first caps args:List AV} {Q:zK→List AB→bW→Prop} (hf:T.Ec.get f=some fn) (hb:fn.body=some c)
  (hw:az T tab one n c ⟨vI (first++args++caps),hp,aA,false,hp.length⟩ (Nx T fn.results.toList Q)):eT T tab one (n+1) (.fn f first caps) args hp aA Q:=by
 intro E base H u us hr hF ha
 obtain ⟨fs,cs,rfl,h1,h2⟩:∃ fs cs,u=.func (.func f) fs cs∧gk E.ρ H.get (E.O hp) first fs.toList∧gk E.ρ H.get (E.O hp) caps cs.toList:=by
  cases hF with
  | d h=>cases h with
   | fn ha hb h1 h2=>exact ⟨_,_,rfl,⟨ha,fun i x u hx hu=>.d (h1 i x u hx hu)⟩,⟨hb,fun i x u hx hu=>.d (h2 i x u hx hu)⟩⟩
  | fn ha hb h1 h2=>exact ⟨_,_,rfl,⟨ha,h1⟩,⟨hb,h2⟩⟩
 refine ⟨f,fs.toList++us++cs.toList,fn,rfl,hf,?_⟩
 have hargs:=(h1.append ha).append h2
 obtain ⟨m,L,h1,h2,h3⟩:=hw E base ⟨setArgs .leaf 0 (fs.toList++us++cs.toList),H,false⟩ ⟨hr,rfl,nU hargs⟩
 obtain ⟨m',M,hm,q1,q2,q3⟩:=dn (one:=one) (L:=L) (f:=fun _ (p:kF × St)=>kG T fn.results.toList p)
  (P:=fun r=>∃ E' y hp' amb',Q y hp' amb'∧aV E' base hp' amb' r.hp∧MH E' hp' r y∧jJ hp.length base E hp H E' hp' r.hp)
  (fun _ _ _ _ _ h=>h) m h2 (fun p hp'=>by
   obtain ⟨E',st',y,k1,k0,k2,k3,k4⟩:=h3 p hp'
   obtain ⟨z,s'⟩:=p
   cases z with
   | fG v =>
    obtain ⟨a,rfl,hav⟩:=k4
    exact ⟨0,[.fG v s'.hp],rfl,.single ⟨E',.fG a,st'.hp,st'.aA,k1,k2.h,⟨a,rfl,hav⟩,k3⟩⟩
   | e x =>
    obtain rfl:y=.e x:=k4
    have done:(x=.normal∨x=.ret)→(jk T st' fn.results.toList fun as=>Q (.ret (mL as)) st'.hp st'.aA)→∃ (_:Nat) (M:List ey),kG T fn.results.toList (.e x,s')=some M ∧
      mK one M fun r=>∃ E' y hp' amb',Q y hp' amb'∧aV E' base hp' amb' r.hp∧MH E' hp' r y∧jJ hp.length base E hp H E' hp' r.hp:=by
     intro he hr
     obtain ⟨ws,as,r1,r2,r4⟩:=jl k2 hr
     refine ⟨0,[.ret (bE ws) s'.hp],?_,.single ⟨E',.ret (mL as),st'.hp,st'.aA,r2,k2.h,⟨mL as,rfl,BN r4⟩,k3⟩⟩
     unfold kG
     rcases he with rfl|rfl <;> simp only [r1,Option.map_some]
    cases x with
    | normal=>exact done (.inl rfl) k1
    | ret=>exact done (.inr rfl) k1
    | _=>exact k1.elim)
 refine ⟨m',M,?_,q2,q3⟩
 show lA T (RX T tab m') (gJ T (RX T tab m') n) (.call f _ H)=_
 unfold lA
 simp only [hf,hb,kP hm h1]
 exact q1
theorem az.MI {id:Nat} {dst:Option Tmp} {x:Operand} {ty:TypeId} {pos:String} {after:Array Edge} {K:pS→bz→Prop} {t:TypeId} {v:Value} (hx:bw st.fr x=.fl (.iface t v)) (hk:K (.fG (.fl (.iface t v))) st) :
  az T tab one n (.region id #[⟨dst,.panic x,ty,pos,after,none⟩] false) st K:=by
 intro E base s hs
 have h1:=iX hs.fr x
 have h2:=h1
 rw [hx] at h1
 have hv:aX s.fr x=.iface t v:=h1.gm.1
 refine ⟨0,[(.fG (.iface t v),⟨s.fr,s.hp,s.rd⟩)],?_,.single ⟨E,st,.fG (.fl (.iface t v)),hk,rfl,hs,.refl,_,rfl,by rw [hx,hv] at h2;exact h2⟩⟩
 rw [cU]
 simp only [cond_false]
 show (match aS T (RX T tab 0) (gJ T (RX T tab 0) n) [⟨dst,.panic x,ty,pos,after,none⟩] [⟨dst,.panic x,ty,pos,after,none⟩] s with
  | some L=>some (L.map fR)
  | none=>none)=_
 have he:aS T (RX T tab 0) (gJ T (RX T tab 0) n) [⟨dst,.panic x,ty,pos,after,none⟩] [⟨dst,.panic x,ty,pos,after,none⟩] s=some [(some (.iface t v),⟨s.fr,s.hp,s.rd⟩)]:=by
  rw [cT]
  show _root_.cond true _ _=_
  have ha:fH T (RX T tab 0) (gJ T (RX T tab 0) n) (.panic x) s=some [.fG (.iface t v) s.hp]:=by
   unfold fH
   rw [show mP (.panic x)=some x from rfl]
   simp only
   rw [hv]
   rfl
  simp only [cond_true,ha]
  rfl
 rw [he]
 rfl
def Je (k:St→Option (List (Option Value × St))) (p:Option Value × St):Option (List (Option Value × St)) :=
 match p.1 with
 | none=>k p.2
 | some v=>some [(some v,p.2)]
theorem oV {rec:Rec} {recP:od→Option (List ey)} {ops ops':List Oper}:∀ (l:List Oper),(l.all fun o=>o.guard.isNone)=true→∀ st,aS T rec recP ops l st=aS T rec recP ops' l st
 | [],_,_=>rfl
 | o :: l,h,st=>by
  simp only [List.all_cons,Bool.and_eq_true] at h
  have hg:o.guard=none:=by simpa using h.1
  rw [cT,cT,hg]
  show _root_.cond true _ _=_root_.cond true _ _
  simp only [cond_true]
  have:aS T rec recP ops l=aS T rec recP ops' l:=funext fun s=>oV l h.2 s
  rw [this]
theorem lR {rec:Rec} {recP:od→Option (List ey)} {ops:List Oper}:∀ (a b:List Oper) (st:St) {L M:List (Option Value × St)},aS T rec recP ops a st=some L→aZ L (Je (aS T rec recP ops b))=some M→aS T rec recP ops (a++b) st=some M
 | [],b,st,L,M,h1,h2=>by
  rw [lJ] at h1
  cases h1
  exact h2
 | o :: a,b,st,L,M,h1,h2=>by
  rw [cT] at h1
  rw [List.cons_append,cT]
  cases hg:bx ops st.fr o.guard with
  | false =>
   rw [hg] at h1
   exact lR a b _ h1 h2
  | true =>
   rw [hg] at h1
   simp only [cond_true] at h1 ⊢
   cases ho:fH T rec recP o.op st with
   | none=>rw [ho] at h1;cases h1
   | some L0 =>
    rw [ho] at h1
    refine vM (fun x N M q1 q2=>?_) h1 h2
    rcases qf q1 with ⟨v,h3,rfl,h4⟩|⟨v,h3,rfl,rfl⟩
    ·exact lR a b _ h4 q2
    ·exact q2
theorem Ar {k:St→Option (List (Option Value × St))} {ψ:kF × St→Option (List (kF × St))} (h1:∀ s,ψ (.e .normal,s)=(k s).map (List.map fR)) (h2:∀ v s,ψ (.fG v,s)=some [(.fG v,s)]):∀ {M:List (Option Value × St)} {L:List (kF × St)},aZ (M.map fR) ψ=some L→∃ N,aZ M (Je k)=some N∧L=N.map fR
 | [],L,h=>by
  rw [List.map_nil,lX] at h
  cases h
  exact ⟨[],rfl,rfl⟩
 | p :: M,L,h=>by
  rw [List.map_cons] at h
  obtain ⟨x,y,q1,q2,rfl⟩:=uU h
  obtain ⟨v,q3,rfl⟩:=Ar h1 h2 q2
  obtain ⟨z,s⟩:=p
  cases z with
  | none =>
   rw [show fR (none,s)=(.e .normal,s) from rfl,h1,Option.map_eq_some_iff] at q1
   obtain ⟨u,q1,rfl⟩:=q1
   exact ⟨u++v,rq _ _ _ q1 q3,by rw [List.map_append]⟩
  | some w =>
   rw [show fR (some w,s)=(.fG w,s) from rfl,h2] at q1
   cases q1
   exact ⟨[(some w,s)]++v,rq _ _ _ rfl q3,by rw [List.map_append];rfl⟩
theorem az.MJ {id id1 id2:Nat} {l l1 l2:List Oper} {K:pS→bz→Prop} (hl:l=l1++l2) (hg:(l.all fun o=>o.guard.isNone)=true)
  (h:az T tab one n (.seq (.region id1 l1.toArray false) (.region id2 l2.toArray false)) st K):az T tab one n (.region id l.toArray false) st K:=by
 subst hl
 intro E base s hs
 obtain ⟨m,L,h1,h2⟩:=h E base s hs
 refine ⟨m,L,?_,h2⟩
 rw [List.all_append,Bool.and_eq_true] at hg
 rw [jR,cU] at h1
 simp only [cond_false] at h1
 cases he:aS T (RX T tab m) (gJ T (RX T tab m) n) l1 l1 s with
 | none=>rw [he] at h1;cases h1
 | some M =>
  rw [he] at h1
  obtain ⟨N,q1,rfl⟩:=Ar (k:=aS T (RX T tab m) (gJ T (RX T tab m) n) l2 l2) (fun s=>by
   show (match aS T (RX T tab m) (gJ T (RX T tab m) n) l2 l2 s with
    | some L=>some (L.map fR)
    | none=>none)=_
   cases aS T (RX T tab m) (gJ T (RX T tab m) n) l2 l2 s <;> rfl) (fun v s=>rfl) h1
  rw [cU]
  have:aS T (RX T tab m) (gJ T (RX T tab m) n) (l1++l2) (l1++l2) s=some N:=by
   refine lR l1 l2 s (L:=M) ?_ ?_
   ·rw [oV (ops':=l1) l1 hg.1,he]
   ·rw [←q1]
    congr 1
    exact congrArg Je (funext fun s=>oV l2 hg.2 s)
  simp only [cond_false,this]
theorem az.draw {id:Nat} {ops:Array Oper} {K:pS→bz→Prop} (hno:sP T ops=none) (h:aG T tab one (.region id ops true) st fun e s=>K (.e e) s):az T tab one n (.region id ops true) st K:=by
 intro E base s hs
 obtain ⟨m,L,q1,q2,q3⟩:=h E base s hs
 rw [gh] at q1
 simp only [cond_true] at q1
 cases hd:cS T (RX T tab m) ops s with
 | none=>rw [hd] at q1;cases q1
 | some M =>
  rw [hd] at q1
  simp only [Option.some.injEq] at q1
  subst q1
  refine ⟨m,M.map fun s=>(.e .normal,s),by
   rw [cU]
   unfold di
   simp only [cond_true,hno,hd,List.map_map]
   rfl,fun h1=>?_,fun p hp=>?_⟩
  ·obtain ⟨p,hp⟩:=q2 h1
   cases M with
   | nil=>cases hp
   | cons a l =>
    cases l with
    | nil=>exact ⟨_,rfl⟩
    | cons b l=>cases hp
  ·obtain ⟨s',hm,rfl⟩:=List.mem_map.1 hp
   obtain ⟨E',st',k1,k0,k2,k3⟩:=q3 (.normal,s') (List.mem_map.2 ⟨s',hm,rfl⟩)
   exact ⟨E',st',.e .normal,k1,k0,k2,k3,rfl⟩
end
end Go.RM
namespace Go.RM
open Go
section
variable {T : bM} {tab : List XE} {one : Bool} {base : Nat} {E E' : Env} {st st' : bz} {s s' : St} {n n' : Nat}
def KV (E:Env) (hp:List AB) (H:Hp):Option Value→Option AV→Prop
 | none,y=>y=none
 | some v,y=>∃ a,y=some a∧AR E.ρ H.get (E.O hp) a v
def rV (E:Env) (base:Nat) (st:bz) (s:St) (K:Exit→bz→Option AV→Prop) (p:Exit × St × Option Value):Prop :=
 ∃ E' st' y,K p.1 st' y∧st'.fl=st.fl∧kN E' base st' p.2.1∧jJ st.fl base E st.hp s.hp E' st'.hp p.2.1.hp∧KV E' st'.hp p.2.1.hp p.2.2 y
def jC (T:bM) (c:Code) (st:bz) (pv:Option AV) (K:Exit→bz→Option AV→Prop):Prop :=
 ∀ (E:Env) (base:Nat) (s:St) (v:Option Value),kN E base st s→KV E st.hp s.hp v pv→∃ p,kS T c s v=some p∧rV E base st s K p
theorem rV.from {K:Exit→bz→Option AV→Prop} {E1:Env} {yw:bz} {s1:St} {p:Exit × St × Option Value} (hfl:yw.fl=st.fl) (hf:jJ st.fl base E st.hp s.hp E1 yw.hp s1.hp) (h:rV E1 base yw s1 K p):rV E base st s K p:=by
 obtain ⟨E',st',y,k1,k0,k2,k3,k4⟩:=h
 rw [hfl] at k3
 exact ⟨E',st',y,k1,k0.trans hfl,k2,hf.trans k3,k4⟩
def Jf (T:bM) (mu:Tmp→Bool) (dst:Option Tmp) (op:Op) (st:bz) (pv:Option AV) (K:bz→Option AV→Prop):Prop :=
 match op with
 | .call ⟨.builtin .recover,_,_⟩=>iA dst st.fr (match pv with|some a=>a|none=>.fl .nilIface) fun fr'=>K ⟨fr',st.hp,st.aA,st.rd,st.fl⟩ none
 | op=>dc op=.plain∧wpOp T (G2 mu dst) op st.fr st.hp fun v hp'=>force v fun v=>iA dst st.fr v fun fr'=>K ⟨fr',hp',st.aA,st.rd,st.fl⟩ pv
def wpOpsS (T:bM) (mu:Tmp→Bool) (ops:List Oper):List Oper→bz→Option AV→(bz→Option AV→Prop)→Prop
 | [],st,pv,K=>K st pv
 | ⟨dst,op,_,_,_,gd⟩ :: l,st,pv,K=>cX ops gd st.fr (Jf T mu dst op st pv fun st' pv'=>wpOpsS T mu ops l st' pv' K) (iA dst st.fr (.tp []) fun fr'=>wpOpsS T mu ops l ⟨fr',st.hp,st.aA,st.rd,st.fl⟩ pv K)
theorem KV.FX {v:Option Value} {pv:Option AV} (h:KV E st.hp s.hp v pv) (hs:kN E base st s) {hp':List AB} {H':Hp} (k:jJ st.hp.length base E st.hp s.hp E' hp' H'):KV E' hp' H' v pv:=by
 cases v with
 | none=>exact h
 | some v =>
  obtain ⟨a,rfl,ha⟩:=h
  exact ⟨a,rfl,k.ar hs.h ha⟩
theorem oW {mu:Tmp→Bool} {ops:List Oper}:∀ {l:List Oper} {st:bz} {pv:Option AV} {K:bz→Option AV→Prop},wpOpsS T mu ops l st pv K→∀ {E:Env} {base:Nat} {s:St} {v:Option Value},kN E base st s→KV E st.hp s.hp v pv →
  ∃ p,gS T ops l s v=some p∧rV E base st s (fun _=>K) (.normal,p.1,p.2)
 | [],st,pv,K,h,E,base,s,v,hs,hv=>⟨(s,v),rfl,E,st,pv,h,rfl,hs,.refl,hv⟩
 | o :: l,st,pv,K,h,E,base,s,v,hs,hv=>by
  have h:cX ops o.guard st.fr (Jf T mu o.dst o.op st pv fun st' pv'=>wpOpsS T mu ops l st' pv' K) (iA o.dst st.fr (.tp []) fun fr'=>wpOpsS T mu ops l ⟨fr',st.hp,st.aA,st.rd,st.fl⟩ pv K):=h
  rw [nt]
  rcases yb hs.fr h with ⟨hg,h⟩|⟨hg,h⟩
  ·rw [hg]
   simp only [cond_true]
   have rest:∀ {E':Env} {st':bz} {s':St} {pv':Option AV} {v':Option Value},st'.fl=st.fl→jJ st.fl base E st.hp s.hp E' st'.hp s'.hp→kN E' base st' s'→KV E' st'.hp s'.hp v' pv'→wpOpsS T mu ops l st' pv' K→∃ p,gS T ops l s' v'=some p∧rV E base st s (fun _=>K) (.normal,p.1,p.2):=by
    intro E' st' s' pv' v' hfl hfm hs' hv' hw
    obtain ⟨p,h1,h2⟩:=oW hw hs' hv'
    exact ⟨p,h1,rV.from hfl hfm h2⟩
   have plain:dc o.op=.plain→(wpOp T (G2 mu o.dst) o.op st.fr st.hp fun v hp'=>force v fun v=>iA o.dst st.fr v fun fr'=>wpOpsS T mu ops l ⟨fr',hp',st.aA,st.rd,st.fl⟩ pv K)→∃ u e,lu T s.hp.n o.op (aX s.fr) s.hp.get=some (u,e)∧∃ p,gS T ops l ⟨dR s.fr o.dst u,s.hp.app e,s.rd⟩ v=some p∧rV E base st s (fun _=>K) (.normal,p.1,p.2):=by
    intro hk h
    obtain ⟨u,e,E',a,hp',r1,r2,r3,r4,r5⟩:=sD hs.h hs.fr h
    refine ⟨u,e,r1,?_⟩
    exact rest (st':=⟨wA st.fr o.dst a,hp',st.aA,st.rd,st.fl⟩) rfl r4.FX ⟨r3,hs.rd,kB (r4.FX.fr hs.h hs.fr) r5 o.dst⟩ (hv.FX hs r4.FX) (iR (eo r2))
   unfold Jf at h
   split at h
   ·rename_i hop
    have hS:Kk T o.op s v=some (v.getD .nilIface,s.hp,none):=by
     unfold Kk
     rw [hop]
     cases v <;> rfl
    rw [hS]
    simp only
    cases v with
    | none =>
     obtain rfl:pv=none:=hv
     exact rest (st':=⟨wA st.fr o.dst (.fl .nilIface),st.hp,st.aA,st.rd,st.fl⟩) (s':=⟨dR s.fr o.dst .nilIface,s.hp,s.rd⟩) rfl .refl ⟨hs.h,hs.rd,kB hs.fr (.d (.fl rfl)) o.dst⟩ rfl (iR h)
    | some v =>
     obtain ⟨a,rfl,ha⟩:=hv
     exact rest (st':=⟨wA st.fr o.dst a,st.hp,st.aA,st.rd,st.fl⟩) (s':=⟨dR s.fr o.dst v,s.hp,s.rd⟩) rfl .refl ⟨hs.h,hs.rd,kB hs.fr ha o.dst⟩ rfl (iR h)
   ·rename_i op hne
    obtain ⟨u,e,q1,q2⟩:=plain h.1 h.2
    have hS:Kk T o.op s v=some (u,s.hp.app e,v):=by
     unfold Kk
     split
     ·rename_i hop
      exact absurd hop (hne _ _)
     ·simp only [h.1,q1]
    rw [hS]
    exact q2
  ·rw [hg]
   simp only [cond_false]
   obtain ⟨p,h1,h2⟩:=oW (iR h) (E:=E) (base:=base) (s:=⟨dR s.fr o.dst undef,s.hp,s.rd⟩) (v:=v) ⟨hs.h,hs.rd,kB hs.fr ya o.dst⟩ hv
   exact ⟨p,h1,h2⟩
theorem jC.ops {id:Nat} {ops:Array Oper} {pv:Option AV} {mu:Tmp→Bool} {K:Exit→bz→Option AV→Prop} (h:wpOpsS T mu ops.toList ops.toList st pv (K .normal)):jC T (.region id ops false) st pv K:=by
 intro E base s v hs hv
 obtain ⟨p,h1,E',st',y,k1,k2⟩:=oW h hs hv
 refine ⟨(.normal,p.1,p.2),?_,E',st',y,k1,k2⟩
 rw [nu]
 simp only [cond_false,h1]
def Ny (Kb:bz→Option AV→Prop) (K:Exit→bz→Option AV→Prop) (e:Exit) (s:bz) (y:Option AV):Prop :=
 match e with
 | .normal=>Kb s y
 | e=>K e s y
theorem jC.seq {a b:Code} {pv:Option AV} {K:Exit→bz→Option AV→Prop} (h:jC T a st pv (Ny (fun s y=>jC T b s y K) K)):jC T (.seq a b) st pv K:=by
 intro E base s v hs hv
 obtain ⟨⟨e,s1,v1⟩,h1,E1,yw,y1,k1,k0,k2,k3,k4⟩:=h E base s v hs hv
 rw [sv,h1]
 have other:(∀ x,e ≠ x→True)→K e yw y1→rV E base st s K (e,s1,v1):=fun _ k=>⟨E1,yw,y1,k,k0,k2,k3,k4⟩
 cases e with
 | normal =>
  obtain ⟨p,r1,r2⟩:=k1 E1 base s1 v1 k2 k4
  exact ⟨p,r1,rV.from k0 k3 r2⟩
 | _=>exact ⟨_,rfl,other (fun _ _=>trivial) k1⟩
theorem jC.cond {c:Operand} {a b:Code} {pv:Option AV} {K:Exit→bz→Option AV→Prop} {t:Bool} (hc:bw st.fr c=.fl (.bool t)) (h1:t=true→jC T a st pv K) (h2:t=false→jC T b st pv K):jC T (.cond c a b) st pv K:=by
 intro E base s v hs hv
 have:=iX hs.fr c
 rw [hc] at this
 have hv':=this.gm.1
 rw [qg,hv']
 cases t with
 | true=>exact h1 rfl E base s v hs hv
 | false=>exact h2 rfl E base s v hs hv
theorem jC.skip {pv:Option AV} {K:Exit→bz→Option AV→Prop} (h:K .normal st pv):jC T .skip st pv K:=fun E _ s v hs hv=>⟨(.normal,s,v),rfl,E,st,pv,h,rfl,hs,.refl,hv⟩
def yE (E:Env) (base:Nat) (st:bz) (s:St) (K:pS→bz→AV→Prop) (p:kF × St × Value):Prop :=
 ∃ E' st' y F,K y st' F∧st'.fl=st.fl∧kN E' base st' p.2.1∧jJ st.fl base E st.hp s.hp E' st'.hp p.2.1.hp∧Nw E' st'.hp p.2.1.hp p.1 y∧AR E'.ρ p.2.1.hp.get (E'.O st'.hp) F p.2.2
def Dz (T:bM) (tab:List XE) (one:Bool) (c:Code) (st:bz) (K:pS→bz→AV→Prop):Prop :=
 ∀ (E:Env) (base:Nat) (s:St),kN E base st s→∃ m L,pF T (RX T tab m) c s=some L∧mK one L (yE E base st s K)
theorem yE.from {K:pS→bz→AV→Prop} {E1:Env} {yw:bz} {s1:St} {p:kF × St × Value} (hfl:yw.fl=st.fl) (hf:jJ st.fl base E st.hp s.hp E1 yw.hp s1.hp) (h:yE E1 base yw s1 K p):yE E base st s K p:=by
 obtain ⟨E',st',y,F,k1,k0,k2,k3,k4⟩:=h
 rw [hfl] at k3
 exact ⟨E',st',y,F,k1,k0.trans hfl,k2,hf.trans k3,k4⟩
theorem Dz.OW {a b:Code} {K:pS→bz→AV→Prop} (ha:qO a=none) (h:aG T tab one a st (fun e s=>e=.normal∧Dz T tab one b s K)):Dz T tab one (.seq a b) st K:=by
 intro E base s hs
 obtain ⟨m0,L0,h1,h2,h3⟩:=h E base s hs
 obtain ⟨m,M,hm,q1,q2⟩:=dn (one:=one) (L:=L0) (f:=fun m (p:Exit × St)=>(match p.1 with
   | .normal=>pF T (RX T tab m) b p.2
   | _=>none:Option (List (kF × St × Value)))) (P:=yE E base st s K) (fun i j x M hij hx=>by
   obtain ⟨z,s2⟩:=x
   cases z with
   | normal=>exact xQ (eH hij) _ _ _ hx
   | _=>cases hx) m0 h2 (fun p hp=>by
  obtain ⟨E',st',⟨k1,k1'⟩,k0,k2,k3⟩:=h3 p hp
  obtain ⟨z,s'⟩:=p
  obtain rfl:z=.normal:=k1
  obtain ⟨m,M,r1,r2,r3⟩:=k1' E' base s' k2
  exact ⟨m,M,r1,r2,fun q hq=>yE.from k0 k3 (r3 q hq)⟩)
 refine ⟨m,M,?_,q2⟩
 rw [nM,ha]
 simp only
 rw [eR (eH hm) _ _ _ h1]
 exact q1
theorem Dz.defer {a b:Code} {l:List Oper} {x:Operand} {mu:Tmp→Bool} {K:pS→bz→AV→Prop} (ha:qO a=some (l,x)) (h:wpOps T tab one mu (Eh a) l st (fun st'=>∃ F,bw st'.fr x=F∧az T tab one 1000 b ⟨st'.fr,st'.hp,st'.aA,st'.rd,st'.hp.length⟩ fun y s=>K y ⟨s.fr,s.hp,s.aA,s.rd,st.fl⟩ F)):Dz T tab one (.seq a b) st K:=by
 intro E base s hs
 obtain ⟨m0,L0,h1,h2,h3⟩:=gX h hs
 obtain ⟨m,M,hm,q1,q2⟩:=dn (one:=one) (L:=L0) (f:=fun m (s:St)=>(cq T (RX T tab m) (gJ T (RX T tab m) 1000) b s).map fun M=>M.map fun p=>(p.1,p.2,aX s.fr x)) (P:=yE E base st s K) (fun i j y M hij hx=>by
   cases hq:cq T (RX T tab i) (gJ T (RX T tab i) 1000) b y with
   | none=>rw [hq] at hx;cases hx
   | some N =>
    rw [hq] at hx
    rw [kP hij hq]
    exact hx) m0 h2 (fun s' hp=>by
  obtain ⟨E',st',⟨F,hF,k1⟩,k0,k2,k3⟩:=h3 s' hp
  obtain ⟨m,M,r1,r2,r3⟩:=k1 E' base s' ⟨k2.h,k2.rd,k2.fr⟩
  refine ⟨m,M.map fun p=>(p.1,p.2,aX s'.fr x),by rw [r1];rfl,fun h1=>?_,fun q hq=>?_⟩
  ·obtain ⟨p,hp⟩:=r2 h1
   exact ⟨_,by rw [hp];rfl⟩
  ·obtain ⟨p,hp,rfl⟩:=List.mem_map.1 hq
   obtain ⟨E2,st2,y,j1,j0,j2,j3,j4⟩:=r3 p hp
   have hfr:AR E'.ρ s'.hp.get (E'.O st'.hp) F (aX s'.fr x):=by rw [←hF];exact iX k2.fr x
   exact ⟨E2,⟨st2.fr,st2.hp,st2.aA,st2.rd,st.fl⟩,y,F,j1,rfl,⟨j2.h,j2.rd,j2.fr⟩,k3.trans (j3.low k2.h _),j4,j3.ar k2.h hfr⟩)
 refine ⟨m,M,?_,q2⟩
 rw [nM,ha]
 simp only
 rw [gW (eH hm) _ _ _ _ h1]
 exact q1
def BU (T:bM) (F:AV) (pv:Option AV) (hp:List AB) (aA:bW) (Q:List AB→bW→Prop):Prop :=
 ∃ g fn c fs cs,F=.fn g fs cs∧T.Ee.get g=some fn∧fn.body=some c∧fn.results.toList=[]∧jC T c ⟨vI (fs++cs),hp,aA,false,hp.length⟩ pv fun e s y=>(e=.normal∨e=.ret)∧y=none∧Q s.hp s.aA
def KW (T:bM) (rs:List ResultVar) (Q:AV→List AB→bW→Prop) (y:pS) (st:bz) (F:AV):Prop :=
 match y with
 | .e .normal=>BU T F none st.hp st.aA fun hp' amb'=>jk T ⟨st.fr,hp',amb',st.rd,st.fl⟩ rs fun as=>Q (mL as) hp' amb'
 | .e .ret=>BU T F none st.hp st.aA fun hp' amb'=>jk T ⟨st.fr,hp',amb',st.rd,st.fl⟩ rs fun as=>Q (mL as) hp' amb'
 | .fG a=>BU T F (some a) st.hp st.aA fun hp' amb'=>jk T ⟨st.fr,hp',amb',st.rd,st.fl⟩ rs fun as=>Q (mL as) hp' amb'
 | _=>False
theorem Ho {rs:List ResultVar} {F:AV} {pv:Option AV} {Q:AV→List AB→bW→Prop} {clo:Value} {v:Option Value} (hs:kN E base st s) (hF:AR E.ρ s.hp.get (E.O st.hp) F clo) (hv:KV E st.hp s.hp v pv)
  (hd:BU T F pv st.hp st.aA fun hp' amb'=>jk T ⟨st.fr,hp',amb',st.rd,st.fl⟩ rs fun as=>Q (mL as) hp' amb') :
  ∃ H' vs,kT T clo s.hp v=some (H',none)∧fY T s.fr H' rs=some vs∧∃ E' a hp' amb',Q a hp' amb'∧aV E' base hp' amb' H'∧AR E'.ρ H'.get (E'.O hp') a (bE vs)∧jJ st.hp.length base E st.hp s.hp E' hp' H':=by
 obtain ⟨g,fn,c,fs,cs,rfl,q1,q2,q3,q4⟩:=hd
 obtain ⟨fs',cs',rfl,h1,h2⟩:∃ fs' cs',clo=.func (.func g) fs' cs'∧gk E.ρ s.hp.get (E.O st.hp) fs fs'.toList∧gk E.ρ s.hp.get (E.O st.hp) cs cs'.toList:=by
  cases hF with
  | d h=>cases h with
   | fn ha hb h1 h2=>exact ⟨_,_,rfl,⟨ha,fun i x u hx hu=>.d (h1 i x u hx hu)⟩,⟨hb,fun i x u hx hu=>.d (h2 i x u hx hu)⟩⟩
  | fn ha hb h1 h2=>exact ⟨_,_,rfl,⟨ha,h1⟩,⟨hb,h2⟩⟩
 obtain ⟨⟨e,s1,v1⟩,r1,E1,yw,y1,⟨k1,k2,k3⟩,k4,k5,k6,k7⟩:=q4 E base ⟨setArgs .leaf 0 (fs'.toList++cs'.toList),s.hp,false⟩ v ⟨hs.h,rfl,nU (h1.append h2)⟩ hv
 obtain rfl:v1=none:=by
  cases v1 with
  | none=>rfl
  | some w =>
   obtain ⟨a,ha,_⟩:=k7
   rw [k2] at ha
   cases ha
 have hrun:kT T (.func (.func g) fs' cs') s.hp v=some (s1.hp,none):=by
  unfold kT
  rw [show cC (.func (.func g) fs' cs') []=some (.fn g (fs'.toList++[]++cs'.toList)) from rfl]
  simp only [q1,q2,q3,List.append_nil]
  rw [r1]
  rcases k1 with k1|k1
  ·simp only at k1;subst k1;rfl
  ·simp only at k1;subst k1;rfl
 obtain ⟨us,as,j1,j2,j3⟩:=jl (E:=E1) (base:=base) (st:=⟨st.fr,yw.hp,yw.aA,st.rd,st.fl⟩) (s:=⟨s.fr,s1.hp,s.rd⟩) ⟨k5.h,hs.rd,k6.fr hs.h hs.fr⟩ k3
 exact ⟨s1.hp,us,hrun,j1,E1,mL as,yw.hp,yw.aA,j2,k5.h,BN j3,k6⟩
theorem au.Nz {hp:List AB} {aA:bW} {f:FuncId} {fn:Func} {c:Code} {first caps args:List AV} {Q:AV→List AB→bW→Prop} (hf:T.fn.get f=none) (hd:T.Ee.get f=some fn) (hb:fn.body=some c) (hn:noEntry tab f=true)
  (hw:Dz T tab one c ⟨vI (first++args++caps),hp,aA,false,hp.length⟩ (KW T fn.results.toList Q)):au T tab one (.fn f first caps) args hp aA Q:=by
 intro E base H u us hr hF ha
 obtain ⟨fs,cs,rfl,h1,h2⟩:∃ fs cs,u=.func (.func f) fs cs∧gk E.ρ H.get (E.O hp) first fs.toList∧gk E.ρ H.get (E.O hp) caps cs.toList:=by
  cases hF with
  | d h=>cases h with
   | fn ha hb h1 h2=>exact ⟨_,_,rfl,⟨ha,fun i x u hx hu=>.d (h1 i x u hx hu)⟩,⟨hb,fun i x u hx hu=>.d (h2 i x u hx hu)⟩⟩
  | fn ha hb h1 h2=>exact ⟨_,_,rfl,⟨ha,h1⟩,⟨hb,h2⟩⟩
 refine ⟨.fn f (fs.toList++us++cs.toList),rfl,?_⟩
 have hargs:=(h1.append ha).append h2
 obtain ⟨m,L,h1,h2,h3⟩:=hw E base ⟨setArgs .leaf 0 (fs.toList++us++cs.toList),H,false⟩ ⟨hr,rfl,nU hargs⟩
 obtain ⟨m',M,hm,q1,q2,q3⟩:=dn (one:=one) (L:=L) (f:=fun _ (p:kF × St × Value)=>mj T fn.results.toList p)
  (P:=fun r=>∃ w H',r=.ret w H'∧∃ E' a hp' amb',Q a hp' amb'∧aV E' base hp' amb' H'∧AR E'.ρ H'.get (E'.O hp') a w∧jJ hp.length base E hp H E' hp' H')
  (fun _ _ _ _ _ h=>h) m h2 (fun p hp'=>by
   obtain ⟨E',st',y,F,k1,k0,k2,k3,k4,k5⟩:=h3 p hp'
   obtain ⟨x,s',clo⟩:=p
   have fin:∀ {v:Option Value} {pv:Option AV},KV E' st'.hp s'.hp v pv→(∀ H' vs,kT T clo s'.hp v=some (H',none)→fY T s'.fr H' fn.results.toList=some vs→mj T fn.results.toList (x,s',clo)=some [.ret (bE vs) H'])→(BU T F pv st'.hp st'.aA fun hp' amb'=>jk T ⟨st'.fr,hp',amb',st'.rd,st'.fl⟩ fn.results.toList fun as=>Q (mL as) hp' amb') →
     ∃ (_:Nat) (M:List fQ),mj T fn.results.toList (x,s',clo)=some M∧mK one M fun r=>∃ w H',r=.ret w H'∧∃ E' a hp' amb',Q a hp' amb'∧aV E' base hp' amb' H'∧AR E'.ρ H'.get (E'.O hp') a w∧jJ hp.length base E hp H E' hp' H':=by
    intro v pv hpv hx hd
    obtain ⟨H',vs,r1,r2,E2,a,hp2,amb2,r3,r4,r5,r6⟩:=Ho k2 k5 hpv hd
    exact ⟨0,[.ret (bE vs) H'],hx H' vs r1 r2,.single ⟨_,_,rfl,E2,a,hp2,amb2,r3,r4,r5,k3.trans (r6.low k2.h _)⟩⟩
   cases x with
   | fG v =>
    obtain ⟨a,rfl,hav⟩:=k4
    exact fin (v:=some v) (pv:=some a) ⟨a,rfl,hav⟩ (fun H' vs h1 h2=>by unfold mj;simp only [h1,h2,Option.map_some]) k1
   | e e =>
    obtain rfl:y=.e e:=k4
    cases e with
    | normal=>exact fin (v:=none) (pv:=none) rfl (fun H' vs h1 h2=>by unfold mj;simp only [h1,h2,Option.map_some]) k1
    | ret=>exact fin (v:=none) (pv:=none) rfl (fun H' vs h1 h2=>by unfold mj;simp only [h1,h2,Option.map_some]) k1
    | _=>exact k1.elim)
 refine ⟨m'+1,M,?_,q2,q3⟩
 show RX T tab (m'+1) (.call f _ H)=_
 rw [tF,j6 _ _ hn]
 simp only
 rw [iW,hf]
 simp only
 unfold pG
 simp only [hd,hb]
 rw [xQ (eH hm) _ _ _ h1]
 exact q1
end
end Go.RM
namespace Go.RM
open Go
section
variable {T : bM} {tab : List XE} {one : Bool} {base : Nat} {E E' : Env} {st st' : bz} {s s' : St} {n n' : Nat}
theorem eT.fuel {F:AV} {args:List AV} {hp:List AB} {aA:bW} {Q:zK→List AB→bW→Prop} (hn:n≤n') (h:eT T tab one n F args hp aA Q):eT T tab one n' F args hp aA Q:=by
 intro E base H u us hr hF ha
 obtain ⟨g,as,fn,h1,h2,m,L,h3,h4⟩:=h E base H u us hr hF ha
 exact ⟨g,as,fn,h1,h2,m,L,uX hn _ _ h3,h4⟩
def DA (T:bM) (tab:List XE) (one:Bool) (n:Nat) (dst:Option Tmp) (f:Operand) (l:List Operand) (K:pS→bz→Prop) (st:bz):Prop :=
 ∃ Q,eT T tab one n (bw st.fr f) (l.map (bw st.fr)) st.hp st.aA Q∧(∀ a hp' amb',Q (.ret a) hp' amb'→K (.e .normal) ⟨wA st.fr dst a,hp',amb',st.rd,st.fl⟩)∧∀ a hp' amb',Q (.fG a) hp' amb'→K (.fG a) ⟨st.fr,hp',amb',st.rd,st.fl⟩
theorem DA.run {ops:List Oper} {dst:Option Tmp} {f:Operand} {l:List Operand} {tys:Array TypeId} {ty:TypeId} {pos:String} {after:Array Edge} {K:pS→bz→Prop} (h:DA T tab one n dst f l K st) (hs:kN E base st s) :
  ∃ m M,aS T (RX T tab m) (gJ T (RX T tab m) n) ops [⟨dst,.call ⟨.value f,l.toArray,tys⟩,ty,pos,after,none⟩] s=some M∧mK one M fun p=>lD E base st s K (fR p):=by
 obtain ⟨Q,h,hret,hpan⟩:=h
 obtain ⟨g,gas,fn,hgo,hg,m,L,q1,q2,q3⟩:=h E base s.hp _ _ hs.h (iX hs.fr f) (jA hs.fr l)
 have hpc:oe T (.call ⟨.value f,l.toArray,tys⟩) s=some (g,gas):=by
  unfold oe
  show (match cC (aX s.fr f) (l.map (aX s.fr)) with
   | some (.fn g as)=>match T.Ec.get g with
    | some _=>some (g,as)
    | none=>none
   | _=>none)=_
  rw [hgo]
  simp only [hg]
 obtain ⟨m',M,hm,r1,r2⟩:=dn (one:=one) (L:=L) (f:=fun _ (r:ey)=>Nk dst s (fun st=>some [(none,st)]) r) (P:=fun p:Option Value × St=>lD E base st s K (fR p)) (fun _ _ _ _ _ h=>h) m q2 (fun r hr=>by
  obtain ⟨E',y,hp',amb',k1,k2,k3,k4⟩:=q3 r hr
  cases r with
  | ret v H' =>
   obtain ⟨a,rfl,hav⟩:=k3
   exact ⟨0,[(none,⟨dR s.fr dst v,H',s.rd⟩)],rfl,.single ⟨E',⟨wA st.fr dst a,hp',amb',st.rd,st.fl⟩,.e .normal,hret a hp' amb' k1,rfl,⟨k2,hs.rd,kB (k4.fr hs.h hs.fr) hav dst⟩,k4.low hs.h _,rfl⟩⟩
  | fG v H' =>
   obtain ⟨a,rfl,hav⟩:=k3
   exact ⟨0,[(some v,⟨s.fr,H',s.rd⟩)],rfl,.single ⟨E',⟨st.fr,hp',amb',st.rd,st.fl⟩,.fG a,hpan a hp' amb' k1,rfl,⟨k2,hs.rd,k4.fr hs.h hs.fr⟩,k4.low hs.h _,a,rfl,hav⟩⟩
  | out x z=>exact k3.elim)
 refine ⟨m',M,?_,r2⟩
 have hany:fH T (RX T tab m') (gJ T (RX T tab m') n) (.call ⟨.value f,l.toArray,tys⟩) s=some L:=by
  unfold fH
  rw [show mP (.call ⟨.value f,l.toArray,tys⟩)=none from rfl]
  simp only [hpc]
  exact oL (eH hm) _ _ _ q1
 rw [cT]
 show _root_.cond true _ _=_
 simp only [cond_true,hany]
 exact r1
theorem DA.after {ops:List Oper} {dst:Option Tmp} {f:Operand} {l:List Operand} {tys:Array TypeId} {ty:TypeId} {pos:String} {after:Array Edge} {K:pS→bz→Prop} {m0:Nat} {L0:List St}
  (h1:one=true→∃ p,L0=[p]) (h2:∀ p ∈ L0,sE E base st s (DA T tab one n dst f l K) p) :
  ∃ m M,m0≤m∧aZ L0 (fun s=>aS T (RX T tab m) (gJ T (RX T tab m) n) ops [⟨dst,.call ⟨.value f,l.toArray,tys⟩,ty,pos,after,none⟩] s)=some M∧mK one M fun p=>lD E base st s K (fR p) :=
 dn (one:=one) (L:=L0) (f:=fun m s=>aS T (RX T tab m) (gJ T (RX T tab m) n) ops [⟨dst,.call ⟨.value f,l.toArray,tys⟩,ty,pos,after,none⟩] s) (P:=fun p=>lD E base st s K (fR p)) (fun i j x M hij hx=>qo (eH hij) (oL (eH hij) n) _ _ _ _ hx) m0 h1 (fun p hp=>by
  obtain ⟨E',st',k1,k0,k2,k3⟩:=h2 p hp
  obtain ⟨m,M,r1,r2,r3⟩:=k1.run (ops:=ops) (tys:=tys) (ty:=ty) (pos:=pos) (after:=after) k2
  exact ⟨m,M,r1,r2,fun q hq=>lD.from k0 k3 (r3 q hq)⟩)
theorem az.lS (hT:vP T tab) {id:Nat} {L A:List Oper} {mu:Tmp→Bool} {dst:Option Tmp} {f:Operand} {l:List Operand} {tys:Array TypeId} {ty:TypeId} {pos:String} {after:Array Edge} {K:pS→bz→Prop}
  (hl:L=A++[⟨dst,.call ⟨.value f,l.toArray,tys⟩,ty,pos,after,none⟩]) (h:wpOps T tab one mu L A st (DA T tab one n dst f l K)):az T tab one n (.region id L.toArray false) st K:=by
 intro E base s hs
 obtain ⟨m0,L0,h1,h2,h3⟩:=gX h hs
 obtain ⟨m,M,hm,q1,q2,q3⟩:=DA.after (ops:=L) (tys:=tys) (ty:=ty) (pos:=pos) (after:=after) (m0:=m0) h2 h3
 refine ⟨m,M.map fR,?_,fun h1=>?_,fun p hp=>?_⟩
 ·rw [cU]
  simp only [cond_false]
  have:aS T (RX T tab m) (gJ T (RX T tab m) n) L L s=some M:=by
   have e:=uY (recP:=gJ T (RX T tab m) n) hT L A s _ (gW (eH hm) _ _ _ _ h1)
   have:=lR (T:=T) (rec:=RX T tab m) (recP:=gJ T (RX T tab m) n) (ops:=L) A [⟨dst,.call ⟨.value f,l.toArray,tys⟩,ty,pos,after,none⟩] s (M:=M) e (by rw [ru];exact q1)
   rw [hl] at this ⊢
   exact this
  rw [this]
 ·obtain ⟨p,hp⟩:=q2 h1
  exact ⟨_,by rw [hp];rfl⟩
 ·obtain ⟨q,hq,rfl⟩:=List.mem_map.1 hp
  exact q3 q hq
theorem az.hH {id:Nat} {L A:List Oper} {mu:Tmp→Bool} {dst:Option Tmp} {f:Operand} {l:List Operand} {tys:Array TypeId} {ty:TypeId} {pos:String} {after:Array Edge} {K:pS→bz→Prop} {c:Nat}
  (hl:L=A++[⟨dst,.call ⟨.value f,l.toArray,tys⟩,ty,pos,after,none⟩]) (hA:A.length=c) (hc:sP T L.toArray=some c) (h:j8 T tab mu L.toArray A 0 (fun _=>0) [] st (DA T tab one n dst f l K)):az T tab one n (.region id L.toArray true) st K:=by
 intro E base s hs
 obtain ⟨m0,s',r1,E',st',r2,r3,r4,r5⟩:=lQ (base:=base) (tr:=fun _=>⟨E,st.hp,s.hp⟩) (evs:=[]) h ⟨fun _ _=>hs.h,fun _ _ _ _=>.refl⟩ rfl rfl hs.rd (fun t=>⟨Nat.le_refl _,hs.fr t⟩) .nil
 obtain ⟨m,M,hm,q1,q2,q3⟩:=DA.after (E:=E) (base:=base) (s:=s) (st:=st) (ops:=L) (tys:=tys) (ty:=ty) (pos:=pos) (after:=after) (m0:=m0) (L0:=[s']) (K:=K) (one:=one) (tab:=tab) (n:=n) (dst:=dst) (f:=f) (l:=l) (fun _=>⟨_,rfl⟩) (fun p hp=>by
  obtain rfl:=List.mem_singleton.1 hp
  exact ⟨E',st',r2,r3,r4,r5.FX⟩)
 rw [dN] at q1
 refine ⟨m,M.map fR,?_,fun h1=>?_,fun p hp=>?_⟩
 ·rw [cU]
  simp only [cond_true]
  have:di T (RX T tab m) (gJ T (RX T tab m) n) L.toArray s=some M:=by
   unfold di
   rw [hc]
   simp only
   have e1:L.take c=A:=by rw [hl,←hA];simp
   have e2:L.drop c=[⟨dst,.call ⟨.value f,l.toArray,tys⟩,ty,pos,after,none⟩]:=by rw [hl,←hA];simp
   rw [e1,e2,jh (eH hm) _ _ _ _ _ _ r1]
   simp only [dN]
   exact q1
  rw [this]
 ·obtain ⟨p,hp⟩:=q2 h1
  exact ⟨_,by rw [hp];rfl⟩
 ·obtain ⟨q,hq,rfl⟩:=List.mem_map.1 hp
  exact q3 q hq
theorem cg {Kb:bz→Prop} {K:pS→bz→Prop} {s:bz} (h:Kb s):Jd Kb K (.e .normal) s:=h
theorem Gc {Kb:bz→Prop} {K:pS→bz→Prop} {s:bz} {a:AV} (h:K (.fG a) s):Jd Kb K (.fG a) s:=h
end
end Go.RM
namespace Go.RM
open Go
end Go.RM
namespace Go.RM
open Go
section
variable {T : bM} {tab : List XE} {one : Bool} {n : Nat}
noncomputable def qx (T:bM):Code→Bool
 | .skip=>true
 | .label _=>true
 | .region _ _ false=>true
 | .region _ ops true=>match sP T ops with
  | none=>true
  | some _=>false
 | .seq a b=>qx T a && qx T b
 | .cond _ a b=>qx T a && qx T b
 | .block _ c=>qx T c
 | .exit _=>true
 | .ret=>true
 | _=>false
def eP (p:Exit × St):kF × St:=(.e p.1,p.2)
theorem K2 (hT:vP T tab) {m:Nat} {recP:od→Option (List ey)}:∀ (c:Code),qx T c=true→∀ (s:St) (L:List (Exit × St)),bN T (RX T tab m) c s=some L→cq T (RX T tab m) recP c s=some (L.map eP):=by
 intro c
 induction c with
 | skip=>intro _ s L h;cases h;rfl
 | label l=>intro _ s L h;cases h;rfl
 | exit id=>intro _ s L h;cases h;rfl
 | ret=>intro _ s L h;cases h;rfl
 | region id ops draw =>
  intro hf s L h
  rw [gh] at h
  rw [cU]
  cases draw with
  | false =>
   simp only [cond_false] at h ⊢
   cases hx:bL T (RX T tab m) ops.toList ops.toList s with
   | none=>rw [hx] at h;cases h
   | some R =>
    rw [hx] at h
    simp only [Option.some.injEq] at h
    subst h
    rw [uY hT _ _ _ _ hx]
    simp only [List.map_map]
    rfl
  | true =>
   simp only [cond_true] at h ⊢
   cases hx:cS T (RX T tab m) ops s with
   | none=>rw [hx] at h;cases h
   | some R =>
    rw [hx] at h
    simp only [Option.some.injEq] at h
    subst h
    have hno:sP T ops=none:=by
     unfold qx at hf
     split at hf
     ·assumption
     ·cases hf
    unfold di
    rw [hno]
    simp only [hx,List.map_map]
    rfl
 | seq a b iha ihb =>
  intro hf s L h
  unfold qx at hf
  rw [Bool.and_eq_true] at hf
  rw [nK] at h
  rw [jR]
  cases hx:bN T (RX T tab m) a s with
  | none=>rw [hx] at h;cases h
  | some R =>
   rw [hx] at h
   rw [iha hf.1 s R hx]
   simp only at h ⊢
   rw [ru]
   refine sG _ (fun p M hp=>?_) h
   unfold v5 at hp
   unfold sO eP
   split at hp
   ·rename_i he
    simp only [he]
    exact ihb hf.2 _ _ hp
   ·rename_i he
    cases hp
    obtain ⟨e,s'⟩:=p
    cases e <;> first|rfl|exact absurd rfl he
 | cond c a b iha ihb =>
  intro hf s L h
  unfold qx at hf
  rw [Bool.and_eq_true] at hf
  rw [jP] at h
  rw [jb]
  split at h
  ·rename_i t hv
   cases t with
   | true=>exact iha hf.1 s L h
   | false=>exact ihb hf.2 s L h
  ·cases h
 | block id c ih =>
  intro hf s L h
  unfold qx at hf
  rw [kJ] at h
  rw [jy]
  cases hx:bN T (RX T tab m) c s with
  | none=>rw [hx] at h;cases h
  | some R =>
   rw [hx] at h
   simp only [Option.some.injEq] at h
   subst h
   rw [ih hf s R hx]
   simp only [List.map_map,Option.some.injEq]
   apply List.map_congr_left
   intro p _
   obtain ⟨e,s'⟩:=p
   cases e <;> rfl
 | _=>intro hf;cases hf
theorem az.flat (hT:vP T tab) {c:Code} {st:bz} {K:pS→bz→Prop} (hf:qx T c=true) (h:aG T tab one c st fun e s=>K (.e e) s):az T tab one n c st K:=by
 intro E base s hs
 obtain ⟨m,L,q1,q2,q3⟩:=h E base s hs
 refine ⟨m,L.map eP,K2 hT c hf s L q1,fun h1=>?_,fun p hp=>?_⟩
 ·obtain ⟨p,hp⟩:=q2 h1
  exact ⟨_,by rw [hp];rfl⟩
 ·obtain ⟨q,hq,rfl⟩:=List.mem_map.1 hp
  obtain ⟨E',st',k1,k0,k2,k3⟩:=q3 q hq
  exact ⟨E',st',.e q.1,k1,k0,k2,k3,rfl⟩
end
end Go.RM
namespace Go.RM
open Go
section
variable {T : bM} {tab : List XE} {one : Bool}
theorem au.cut {F:AV} {args:List AV} {hp:List AB} {aA:bW} {Q:AV→List AB→bW→Prop} (h:au T tab one F args hp aA Q) (hc:∀ a hp' amb',Q a hp' amb'→a.gM hp.length=true∧(hp'.take hp.length).all (AB.gM hp.length)=true) :
  au T tab one F args hp aA fun a hp2 amb'=>∃ hp',hp2=hp'.take hp.length∧Q a hp' amb':=by
 intro E base H u us hr hf ha
 obtain ⟨goal,hg,m,L,h1,h2,h3⟩:=h E base H u us hr hf ha
 refine ⟨goal,hg,m,L,h1,h2,fun r hm=>?_⟩
 obtain ⟨w,H',rfl,E',a,hp',amb',q1,q2,q3,q4⟩:=h3 r hm
 obtain ⟨c1,c2⟩:=hc a hp' amb' q1
 have hw:aj (⟨bT [(0,a)],hp',amb',false,hp.length⟩:bz) ⟨bT [(0,a)],hp'.take hp.length,amb',false,hp.length⟩ :=
  aj.to hp.length rfl ⟨rfl,trivial⟩ (Nat.le_refl _) (by simp [c1]) c2
 have hs:kN E' base (⟨bT [(0,a)],hp',amb',false,hp.length⟩:bz) ⟨(.leaf:Tr Value).set 0 w,H',false⟩:=by
  refine ⟨q2,rfl,fun t=>?_⟩
  show AR _ _ _ (bT [(0,a)] t) ((((.leaf:Tr Value).set 0 w).get t).getD undef)
  rw [Tr.iP]
  by_cases ht:t=0
  ·subst ht;exact q3
  ·rw [if_neg ht]
   have:bT [(0,a)] t=.cJ:=by
    unfold bT
    rw [Tr.beq_eq,decide_eq_false ht]
    rfl
   rw [this]
   exact .cJ
 obtain ⟨E2,k1,k2⟩:=hw.2 E' base _ hs
 have h0:=k1.fr 0
 refine ⟨w,H',rfl,E2,a,_,amb',⟨hp',rfl,q1⟩,k1.h,?_,q4.trans k2⟩
 have e:(((.leaf:Tr Value).set 0 w).get 0).getD undef=w:=by rw [Tr.iP,if_pos rfl];rfl
 have h0:AR E2.ρ H'.get (E2.O (hp'.take hp.length)) (bT [(0,a)] 0) ((((.leaf:Tr Value).set 0 w).get 0).getD undef):=h0
 rw [e] at h0
 exact h0
end
end Go.RM
namespace Go.RM
open Go
section
variable {T : bM} {tab : List XE} {one : Bool} {mu : Tmp → Bool} {base : Nat} {E : Env} {hp : List AB} {aA : bW} {H : Hp} {ρ : Nat → Nat → Option Nat} {g : aE} {O O' : Nat → Prop}
def L6 (j aB:Nat) (cs:List AV):List AV→List AV→Prop
 | [],[]=>True
 | a :: l,b :: m=>Gv j aB cs a b∧L6 j aB cs l m
 | _,_=>False
theorem L6.len {j aB:Nat} {cs:List AV}:∀ {l m:List AV},L6 j aB cs l m→l.length=m.length
 | [],[],_=>rfl
 | _ :: _,_ :: _,h=>by simp only [List.length_cons];rw [L6.len h.2]
 | [],_ :: _,h=>h.elim
 | _ :: _,[],h=>h.elim
theorem L6.get {j aB:Nat} {cs:List AV}:∀ {l m:List AV},L6 j aB cs l m→∀ (i:Nat) (a b:AV),l[i]?=some a→m[i]?=some b→Gv j aB cs a b
 | [],[],_,i,a,b,ha,_=>by cases ha
 | x :: l,y :: m,h,i,a,b,ha,hb=>by
  cases i with
  | zero=>cases ha;cases hb;exact h.1
  | succ i=>exact L6.get h.2 i a b (by simpa using ha) (by simpa using hb)
 | [],_ :: _,h,_,_,_,_,_=>h.elim
 | _ :: _,[],h,_,_,_,_,_=>h.elim
inductive GB (j aB:Nat) (cs:List AV):AB→AB→Prop
 | cells {l m:List AV} {es v:Nat}:L6 j aB cs l m→GB j aB cs (.cells l es v) (.cells m es v)
 | same {b:AB}:b.uf j=true→GB j aB cs b b
theorem GB.aB {j aB:Nat} {cs:List AV} {b b':AB} (h:GB j aB cs b b'):b'.ver?=b.ver?:=by
 cases h with
 | cells=>rfl
 | same=>rfl
def L7 (j aB:Nat) (cs:List AV):Nat→List AB→List AB→Prop
 | _,[],[]=>True
 | i,b :: l,b' :: m=>(if Nat.beq i j then b'=.gone else GB j aB cs b b')∧L7 j aB cs (i+1) l m
 | _,_,_=>False
theorem L7.len {j aB:Nat} {cs:List AV}:∀ {l m:List AB} {i:Nat},L7 j aB cs i l m→l.length=m.length
 | [],[],_,_=>rfl
 | _ :: _,_ :: _,_,h=>by simp only [List.length_cons];rw [L7.len h.2]
 | [],_ :: _,_,h=>h.elim
 | _ :: _,[],_,h=>h.elim
theorem L7.get {j aB:Nat} {cs:List AV}:∀ {l m:List AB} {i0:Nat},L7 j aB cs i0 l m→∀ (i:Nat) (b':AB),m[i]?=some b'→(i0+i=j∧b'=.gone)∨(i0+i ≠ j∧∃ b,l[i]?=some b∧GB j aB cs b b')
 | [],[],_,_,i,b',hb=>by cases hb
 | x :: l,y :: m,i0,h,i,b',hb=>by
  cases i with
  | zero =>
   cases hb
   have h1:=h.1
   split at h1
   ·rename_i hb
    exact .inl ⟨Nat.eq_of_beq_eq_true hb,h1⟩
   ·rename_i hb
    exact .inr ⟨fun e=>hb (by subst e;exact Nat.beq_refl _),x,rfl,h1⟩
  | succ i =>
   rcases L7.get h.2 i b' (by simpa using hb) with ⟨h1,h2⟩|⟨h1,b,h2,h3⟩
   ·exact .inl ⟨by omega,h2⟩
   ·exact .inr ⟨by omega,b,by simpa using h2,h3⟩
 | [],_ :: _,_,h,_,_,_=>h.elim
 | _ :: _,[],_,h,_,_,_=>h.elim
theorem aj.Jn {st:bz} {l:List (Nat × AV)} (j:Nat) {aB es:Nat} {cs:List AV} {hp':List AB} (hj:st.hp[j]?=some (.cells cs es aB)) (hn:st.fl≤j) (hd:bU cs=true) (hs:yq j aB cs st.fr l) (hb:L7 j aB cs 0 st.hp hp') :
  aj st ⟨bT l,hp',st.aA,st.rd,st.fl⟩:=by
 have hlt:j < st.hp.length:=(List.getElem?_eq_some_iff.1 hj).1
 have hlen:=hb.len
 refine ⟨rfl,fun E base s hs'=>?_⟩
 have hr:=hs'.h
 have hget:∀ (i:Nat) (b:AB) (aB:Nat),hp'[i]?=some b→b.ver?=some aB→i ≠ j∧∃ b0,st.hp[i]?=some b0∧b0.ver?=some aB:=by
  intro i b v hi hv
  rcases hb.get i b hi with ⟨_,h2⟩|⟨h1,b0,h2,h3⟩
  ·subst h2;cases hv
  ·exact ⟨by omega,b0,h2,by rw [←h3.aB];exact hv⟩
 have hdr:∀ {i v k:Nat},aY j E.ρ i v=some k→i ≠ j∧E.ρ i v=some k:=by
  intro i v k h
  unfold aY at h
  split at h
  ·cases h
  ·rename_i hne;exact ⟨hne,h⟩
 have hown:∀ k,Own (aY j E.ρ) hp' k→Own E.ρ st.hp k:=by
  rintro k ⟨i,b,v,h1,h2,h3⟩
  obtain ⟨_,b0,g1,g2⟩:=hget i b v h1 h2
  exact ⟨i,b0,v,g1,g2,(hdr h3).2⟩
 have hOs:∀ k,({E with ρ:=aY j E.ρ}:Env).O hp' k→E.O st.hp k:=fun k h=>h.imp (hown k) id
 have hpt:∀ {o:Nat} {u:Value},AR E.ρ s.hp.get (E.O st.hp) (.ptr j aB o) u→AR (aY j E.ρ) s.hp.get (({E with ρ:=aY j E.ρ}:Env).O hp') (.pt cs o) u:=by
  intro o u h
  obtain ⟨k,hk,rfl⟩:=h.eB
  obtain ⟨cs',q1,q2⟩:=hr.cells hj hk
  have hnO:¬ ({E with ρ:=aY j E.ρ}:Env).O hp' k:=by
   rintro (⟨i,b,v,h1,h2,h3⟩|hx)
   ·have:=hdr h3
    exact this.1 (hr.inj i j v aB k this.2 hk)
   ·exact hr.jX k ⟨j,_,aB,hj,rfl,hk⟩ hx
  have:=q2.deep hd
  refine .d (?_:DR _ _ (.pt cs o) (.pointer (some ⟨k,o,none⟩)))
  have h0:DR s.hp.get (({E with ρ:=aY j E.ρ}:Env).O hp') (.pt cs o) (.pointer (some ⟨k,0+o,none⟩)) :=
   .pt q1 hnO (by rw [Nat.zero_add,this.1];exact Nat.le_refl _) (fun i a u x y=>(this.2 i a u x (by rw [Nat.zero_add] at y;exact y)).mono fun k b hk ho=>⟨hk,fun h=>ho (hOs k h)⟩)
  rw [Nat.zero_add] at h0
  exact h0
 have hrow:∀ {o n c:Nat} {els:List (List AV)} {b:Bool} {u:Value} (es:Nat),o+n * es≤cs.length→els.length=n→(∀ el ∈ els,el.length=es)→els.flatten=(cs.drop o).take (n * es)→(b=true→c=n)→AR E.ρ s.hp.get (E.O st.hp) (.dM j aB o n c) u →
   AR (aY j E.ρ) s.hp.get (({E with ρ:=aY j E.ρ}:Env).O hp') (.sl els b) u:=by
  intro o n c els b u es g1 g2 g3 g4 g5 h
  rcases h.gp with ⟨k,hk,rfl⟩|⟨rfl,rfl,rfl⟩
  ·obtain ⟨cs',q1,q2⟩:=hr.cells hj hk
   have hnO:¬ ({E with ρ:=aY j E.ρ}:Env).O hp' k:=by
    rintro (⟨i,b,v,h1,h2,h3⟩|hx)
    ·have:=hdr h3
     exact this.1 (hr.inj i j v aB k this.2 hk)
    ·exact hr.jX k ⟨j,_,aB,hj,rfl,hk⟩ hx
   have hdp:=q2.deep hd
   refine .d (.sl (es:=es) q1 hnO (by rw [←q2.1];exact g1) g2 (fun i el he=>g3 el (List.mem_of_getElem? he)) (fun i el jj a u he hx hu=>?_) g5)
   have hjj:jj < es:=by rw [←g3 el (List.mem_of_getElem? he)];exact (List.getElem?_eq_some_iff.1 hx).1
   have hat:=gq g3 i el jj he hjj
   have hi:i < n:=by rw [←g2];exact (List.getElem?_eq_some_iff.1 he).1
   rw [g4,List.getElem?_take,List.getElem?_drop] at hat
   have hlt:i * es+jj < n * es:=by
    have:(i+1) * es≤n * es:=Nat.mul_le_mul_right _ hi
    rw [Nat.add_mul,Nat.one_mul] at this
    omega
   rw [if_pos hlt,hx,←Nat.add_assoc] at hat
   exact (hdp.2 _ a u hat hu).mono fun k b hk ho=>⟨hk,fun h=>ho (hOs k h)⟩
  ·simp only [List.length_eq_zero_iff] at g2
   subst g2
   exact .d .nil
 have hgv:∀ {a b:AV} {u:Value},Gv j aB cs a b→AR E.ρ s.hp.get (E.O st.hp) a u→AR (aY j E.ρ) s.hp.get (({E with ρ:=aY j E.ρ}:Env).O hp') b u:=by
  intro a b u hg h
  cases hg with
  | same hn=>exact h.uf hOs hn
  | ptr=>exact hpt h
  | row es g1 g2 g3 g4 g5=>exact hrow es g1 g2 g3 g4 g5 h
  | cJ=>exact .cJ
 refine ⟨{E with ρ:=aY j E.ρ},⟨⟨hr.wf,fun i b v hi hv=>?_,fun i i' v v' k h1 h2=>hr.inj i i' v v' k (hdr h1).2 (hdr h2).2,fun i v k hk=>hr.rn i v k (hdr hk).2,fun i b v w h1 h2 h3=>?_,fun i v hi=>?_,fun k hk=>hr.sup k (hown k hk),fun k hk=>hr.jX k (hown k hk),hr.dx,hr.ds,hr.sn,hr.xn,fun k hk=>hr.sA k (hk.imp (hown k) id),hr.bn,hr.aA⟩,hs'.rd,fun t=>hgv (BL hs t) (hs'.fr t)⟩,
  ⟨Nat.le_refl _,fun i v k hi hk=>?_,fun k hk=>.inl (hown k hk),fun _ h=>.inl h,fun _ h=>.inl h,fun _ h=>h,fun _ h=>.inl h,fun _ _ _ _=>rfl,Nat.min_le_left _ _⟩⟩
 ·rcases hb.get i b hi with ⟨_,h2⟩|⟨hij,b0,hi',hG⟩
  ·subst h2;cases hv
  ·have hij:i ≠ j:=by omega
   have hv':b0.ver?=some v:=by rw [←hG.aB];exact hv
   rcases hr.iQ i b0 v hi' hv' with ⟨k,b',q1,q2,q3⟩|⟨q1,q2⟩
   ·refine .inl ⟨k,b',by show aY j E.ρ i v=_;rw [aY,if_neg hij];exact q1,q2,?_⟩
    cases hG with
    | @cells l0 m0 es0 v0 hL =>
     obtain ⟨cs',rfl,h⟩:=q3
     refine ⟨cs',rfl,by rw [←hL.len];exact h.1,fun i a u ha hu=>?_⟩
     have hli:i < l0.length:=by rw [hL.len];exact (List.getElem?_eq_some_iff.1 ha).1
     exact hgv (hL.get i l0[i] a (List.getElem?_eq_getElem hli) ha) (h.2 i l0[i] u (List.getElem?_eq_getElem hli) hu)
    | same hbn =>
     cases b with
     | cells cs2 es2 ver2 =>
      obtain ⟨cs',rfl,h⟩:=q3
      exact ⟨cs',rfl,h.1,fun i a u ha hu=>(h.2 i a u ha hu).uf hOs (mF hbn i a ha)⟩
     | eF p q=>exact q3
     | map ents clock =>
      obtain ⟨es,rfl,h1,h2⟩:=q3
      refine ⟨es,rfl,h1,fun i k v born x hx hy=>?_⟩
      simp only [AB.uf,List.all_eq_true,Bool.and_eq_true] at hbn
      have:=hbn _ (List.mem_of_getElem? hx)
      exact ⟨(h2 i k v born x hx hy).1.uf hOs this.1,(h2 i k v born x hx hy).2.1.uf hOs this.2,(h2 i k v born x hx hy).2.2⟩
     | iter i2 since seen stepped =>
      obtain ⟨m,rfl,h⟩:=q3
      exact ⟨m,rfl,by show aY j E.ρ i2 0=_;rw [aY,if_neg (tO hbn)];exact h⟩
     | gone=>exact q3
   ·refine .inr ⟨by show aY j E.ρ i v=_;rw [aY,if_neg hij];exact q1,?_⟩
    cases hG with
    | @cells l0 m0 es0 v0 hL =>
     obtain ⟨es1,h1⟩:=q2
     cases h1
     have h2:=hL.len
     cases m0 with
     | nil=>exact ⟨_,rfl⟩
     | cons _ _=>cases h2
    | same _=>exact q2
 ·obtain ⟨hij,b0,h1,h2⟩:=hget i b v h1 h2
  show aY j E.ρ i w=none
  rw [aY,if_neg hij];exact hr.fresh i b0 v w h1 h2 h3
 ·show aY j E.ρ i v=none
  unfold aY
  split
  ·rfl
  ·exact hr.new i v (by rw [hlen];exact hi)
 ·show aY j E.ρ i v=some k
  rw [aY,if_neg (by omega)];exact hk
end
end Go.RM
namespace Go.RM
open Go Go.ChangeShapes Go.WideShapes Go.ChangeAt Go.RowKit
section
variable {P : Program} {D : Type} {enc : TypeId × Value → D}
theorem rW (hl:laidOutB P=true) {W W':World} (hb:Below W.heap.size W W'):∀ {ts:List TypeId} {vs:List Value} {ds:List (DataW D)} {ps:List MemPlace},(ts.all fun t=>P.readableRec t && decide (t < P.types.size))=true →
  DataW.TrodAll enc P W 0 (fun _=>true) true ts vs ds ps→(∀ p ∈ ps,p.block < W.heap.size)→∀ sp:Nat→Bool,(∀ p ∈ ps,sp p.block=true)→DataW.TrodAll enc P W' 0 sp true ts vs ds ps
 | [],[],[],ps,_,h,_,sp,_=>h
 | t :: ts,v :: vs,d :: ds,ps,hr,h,hlt,sp,hs=>by
  obtain ⟨p,q,h1,h2,rfl⟩:=h
  simp only [List.all_cons,Bool.and_eq_true,decide_eq_true_eq] at hr
  refine ⟨p,q,WideElems.Trod_stays hl hr.1.1 hr.1.2 h1 (fun x hx=>hb.same (hlt x (List.mem_append_left _ hx))) (fun x hx=>hs x (List.mem_append_left _ hx)),?_,rfl⟩
  exact rW hl hb hr.2 h2 (fun x hx=>hlt x (List.mem_append_right _ hx)) sp (fun x hx=>hs x (List.mem_append_right _ hx))
 | [],_ :: _,_,_,_,h,_,_,_=>by simp [DataW.TrodAll] at h
 | [],[],_ :: _,_,_,h,_,_,_=>by simp [DataW.TrodAll] at h
 | _ :: _,[],_,_,_,h,_,_,_=>by simp [DataW.TrodAll] at h
 | _ :: _,_ :: _,[],_,_,h,_,_,_=>by simp [DataW.TrodAll] at h
theorem vU {W:World} {base:Nat} {spare:Nat→Bool} {held:Bool}:∀ {ts:List TypeId} {vs:List Value} {ds:List (DataW D)} {ps:List MemPlace},DataW.TrodAll enc P W base spare held ts vs ds ps→ds.length=ts.length
 | [],[],[],_,_=>rfl
 | _ :: _,_ :: _,_ :: _,_,h=>by
  obtain ⟨p,q,_,h2,_⟩:=h
  simp [vU h2]
 | [],_ :: _,_,_,h=>by simp [DataW.TrodAll] at h
 | [],[],_ :: _,_,h=>by simp [DataW.TrodAll] at h
 | _ :: _,[],_,_,h=>by simp [DataW.TrodAll] at h
 | _ :: _,_ :: _,[],_,h=>by simp [DataW.TrodAll] at h
theorem JE (hl:laidOutB P=true) {f:FuncId} {fn:Func} {s:ChangeSpec} {tb:TypeId} (hr:(fn.params.toList.all fun t=>P.readableRec t && decide (t < P.types.size))=true) (hres:fn.resultTypes=#[tb])
  (hb:P.underlying tb=some .bool) (hv:s.vars=[]) (hs:∀ (ds:List (DataW D)),ds.length=fn.params.toList.length→s.fn D ds={results:=[.lit (.bool true)],args:=ds})
  {W:World} {args:Array Value} {ds gs:List (DataW D)} {before:List MemPlace} (hW:DataW.Whole enc P fn.params.toList s.vars false W args.toList ds gs before)
  (hc:Calls P f args W fun e w'=>e=.returned (.bool true)∧Below W.heap.size W w') :
  Calls P f args W fun e W'=>∃ v,e=.returned v∧s.post enc P fn false true false false W args v W':=by
 have hlt:=hW.lt
 have hW':=hW
 obtain ⟨p,q,hA,hV,rfl,hfz,hnd⟩:=hW
 rw [hv] at hV
 obtain ⟨rfl,rfl⟩:=trodVars_none hV
 have hds:=hs ds (vU hA)
 refine hc.mono fun e W' ⟨he,hw⟩=>?_
 subst he
 have hp:∀ x ∈ p,x.block < W.heap.size:=fun x hx=>hlt x (List.mem_append_left _ hx)
 have hold:∀ x ∈ p,(fun b=>decide (b < W.heap.size)) x.block=true:=fun x hx=>by simpa using hp x hx
 have hone:DataW.TrodAll enc P W' 0 (fun _=>false) false fn.resultTypes.toList ((Value.bool true).resultList fn.resultTypes.size) [.lit (.bool true)] []:=by
  rw [hres]
  exact trodAll_mk1 (shut_bool hb true)
 have hone':DataW.TrodAll enc P W' 0 (fun _=>true) true fn.resultTypes.toList ((Value.bool true).resultList fn.resultTypes.size) [.lit (.bool true)] []:=by
  rw [hres]
  exact trodAll_mk1 (shut_bool hb true)
 have hnow:=rW hl hw hr hA hp
 simp only [List.append_nil] at hW' hfz hnd
 refine ⟨_,rfl,ds,[],p,[],p,[],by simpa using hW',?_,?_,?_,hw.frame _,fun _=>⟨ok_one hres rfl (okWide_bool_mk hb true),_,[],([]++p)++[],⟨[]++p,[],trodAll_append (hnow _ (fun _ _=>rfl)) hone',?_,rfl,?_,?_⟩,?_⟩⟩
 ·rw [List.append_nil,hds,hres]
  exact trodAll_mk1 (shut_bool hb true)
 ·rw [List.append_nil,hds]
  exact hnow _ hold
 ·rw [List.append_nil,hds,hv]
  rfl
 ·rw [hv]
  rfl
 ·intro b off hx
  have hx':MemPlace.cell b off ∈ p:=by simpa using hx
  have hb':b < W.heap.size:=hp _ hx'
  rw [hw.frozen hb']
  exact hfz b off hx'
 ·intro ha
  cases ha
 ·intro x hx _
  simpa using hx
end
end Go.RM
namespace Go.RM
open Go
section
variable {T : bM} {own : Bool} {fr : Nat → AV} {hp : List AB} {K : AV → List AB → Prop} {t : TypeId} {s by' dh : Nat} {z : Option Value} {agg : Bool} {cy : List (Nat × Nat)}
end
end Go.RM
namespace Go.RM
open Go
inductive As (s st:bz):Prop
 | is (h:aj s st)
 | no (h:False)
theorem As.aU {s st:bz}:As s st→aj s st
 | .is h=>h
 | .no h=>h.elim
theorem cutAt {T:bM} {tab:List XE} {one:Bool} {a b:Code} {st st':bz} {K:Exit→bz→Prop} (h1:aG T tab one a st (yc (fun s=>As s st') K)) (h2:aG T tab one b st' K):aG T tab one (.seq a b) st K :=
 .seq (h1.mono fun e s h=>by cases e <;> first|exact .aU h.aU h2|exact h)
end Go.RM
namespace Go.RM
open Go
end Go.RM
namespace Go.RM
open Go
end Go.RM
