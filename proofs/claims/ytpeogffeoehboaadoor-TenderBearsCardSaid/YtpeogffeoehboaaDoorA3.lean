/-
  A layer of contracts over the abstract machine. Lemmas alone; no condition.
-/
import Derived.Test.YtpeogffeoehboaaDoorA1
import Derived.Test.YtpeogffeoehboaaDoorA2
import Derived.IntWalk
namespace Go.RM
open Go
theorem JK {P:Program} {t:TypeId} {x y:Operand} {m n:Int} (h0:0≤m) (h2:1≤n):dj P .rem t x y (.int .i64 m) (.int .i64 n)=some (.int .i64 (m % n),.none):=by
 have hn:n ≠ 0:=by omega
 have h:dj P .rem t x y (.int .i64 m) (.int .i64 n)=some (.int .i64 (m.tmod n),.none):=by
  show eP P .rem t x y (.int .i64 m) (.int .i64 n)=_
  unfold eP
  simp only [flat,aM,Bool.and_self,cond_true]
  have:(do eqGuard BinOp.rem t x y (Value.int IntKind.i64 m) (Value.int IntKind.i64 n);binOp BinOp.rem t (Value.int IntKind.i64 m) (Value.int IntKind.i64 n):Sem Value)=pure (.int .i64 (m.tmod n)):=by
   show Op.intDiv .rem .i64 m n=_
   unfold Op.intDiv
   rw [if_neg hn]
  rw [this]
  rfl
 rw [h,IntWalk.rem_in m n h0]
theorem JL {P:Program} {t:TypeId} {x y:Operand} {m n:Int} (h0:0≤m) (h1:m≤9223372036854775807) (h2:1≤n):dj P .quo t x y (.int .i64 m) (.int .i64 n)=some (.int .i64 (m / n),.none):=by
 have hn:n ≠ 0:=by omega
 have h:dj P .quo t x y (.int .i64 m) (.int .i64 n)=some (.int .i64 (IntKind.i64.wrap (m.tdiv n)),.none):=by
  show eP P .quo t x y (.int .i64 m) (.int .i64 n)=_
  unfold eP
  simp only [flat,aM,Bool.and_self,cond_true]
  have:(do eqGuard BinOp.quo t x y (Value.int IntKind.i64 m) (Value.int IntKind.i64 n);binOp BinOp.quo t (Value.int IntKind.i64 m) (Value.int IntKind.i64 n):Sem Value)=pure (.int .i64 (IntKind.i64.wrap (m.tdiv n))):=by
   show Op.intDiv .quo .i64 m n=_
   unfold Op.intDiv
   rw [if_neg hn]
  rw [this]
  rfl
 rw [h,IntWalk.i64_quo m n ⟨h0,h1,h2⟩]
section
variable {T : bw} {tab : List XE} {one : Bool} {mu : Tmp → Bool}
theorem si {ops:List Oper} {j:Nat} {want:Bool} {fr:Nat→AV} {yes no:Prop} {d:Tmp} {a0 a1 a2 a3 a4} {b:Bool} (h1:ops[j]?=some ⟨some d,a0,a1,a2,a3,a4⟩) (h2:fr d=.fl (.bool b)) (h3:b=want) (y:yes):ct ops (some (j,want)) fr yes no:=by
 unfold ct
 simp only [h1,h2]
 exact fk h3 y
theorem uX {ops:List Oper} {j:Nat} {want:Bool} {fr:Nat→AV} {yes no:Prop} {d:Tmp} {a0 a1 a2 a3 a4} {b:Bool} (h1:ops[j]?=some ⟨some d,a0,a1,a2,a3,a4⟩) (h2:fr d=.fl (.bool b)) (h3:b=!want) (n:no):ct ops (some (j,want)) fr yes no:=by
 unfold ct
 simp only [h1,h2]
 exact fL h3 n
theorem zh {ops:List Oper} {j:Nat} {want:Bool} {fr:Nat→AV} {yes no:Prop} {d:Tmp} {a0 a1 a2 a3 a4} {vs:List AV} (h1:ops[j]?=some ⟨some d,a0,a1,a2,a3,a4⟩) (h2:fr d=.tp vs) (n:no):ct ops (some (j,want)) fr yes no:=by
 unfold ct
 simp only [h1,h2]
 exact n
end
end Go.RM
namespace Go.RM
open Go
theorem Ii {v:AV} {K:AV→Prop} (h:K v):force v K:=by cases v <;> exact h
section
variable {T : bw} {tab : List XE} {one : Bool} {mu : Tmp → Bool} {own : Bool} {fr : Nat → AV} {hp : List AB} {aG : bP} {rd : Bool} {fl : Nat} {K : AV → List AB → Prop} {KE : Exit → bG → Prop} {KS : bG → Prop} {st : bG} {dst : Option Tmp}
theorem c1 (h:KE .normal st):mD T tab one mu .skip st KE:=h
theorem c2 {a b:Code} (h:mD T tab one mu a st (uQ (fun s=>mD T tab one mu b s KE) KE)):mD T tab one mu (.seq a b) st KE:=h
theorem c3 {id:Nat} {c:Code} (h:mD T tab one mu c st (jB id KE)):mD T tab one mu (.block id c) st KE:=h
theorem c4 {id:Nat} {l:List Oper} (h:wpOps T tab one mu l l st (KE .normal)):mD T tab one mu (.region id l.toArray false) st KE:=h
theorem c5 {id:Nat} {l l1 l2:List Oper} {c:Nat} (hc:fC l.toArray=c) (h1:l.take c=l1) (h2:l.drop c=l2) (h:iD T tab mu l.toArray l1 0 (fun _=>0) [] st fun s=>wpOps T tab one mu l l2 s (KE .normal)):mD T tab one mu (.region id l.toArray true) st KE:=by
 subst hc h1 h2
 exact h
theorem c6 {id:Nat} (h:KE (.exit id) st):mD T tab one mu (.exit id) st KE:=h
theorem c7 (h:KE .ret st):mD T tab one mu .ret st KE:=h
theorem c8 {c:Code} (h:mD T tab one mu c st (qZ KE)):mD T tab one mu (.scope c) st KE:=h
theorem c9 {Q:bG→Prop} (h:Q st):uQ Q KE .normal st:=h
theorem d1 {Q:bG→Prop} (h:KE .ret st):uQ Q KE .ret st:=h
theorem d2 {Q:bG→Prop} {id:Nat} (h:KE (.exit id) st):uQ Q KE (.exit id) st:=h
theorem d3 {id:Nat} (h:KE .normal st):jB id KE .normal st:=h
theorem d4 {id:Nat} (h:KE .ret st):jB id KE .ret st:=h
theorem d5 {id id':Nat} (hb:Nat.beq id' id=true) (h:KE .normal st):jB id KE (.exit id') st:=by unfold jB;simp only [hb,cond_true];exact h
theorem d6 {id id':Nat} (hb:Nat.beq id' id=false) (h:KE (.exit id') st):jB id KE (.exit id') st:=by unfold jB;simp only [hb,cond_false];exact h
theorem d7 (h:KE .normal st):qZ KE .normal st:=h
theorem d8 (h:KE .ret st):qZ KE .ret st:=h
theorem d9 {id:Nat} (h:KE (.exit id) st):qZ KE (.exit id) st:=h
theorem e1 {c:Operand} {a b:Code} {t:Bool} (hc:aP st.fr c=.fl (.bool t)) (h:(t=true→mD T tab one mu a st KE)∧(t=false→mD T tab one mu b st KE)):mD T tab one mu (.cond c a b) st KE:=by
 show (match aP st.fr c with|.fl (.bool t)=>_|_=>False)
 rw [hc];exact h
theorem e2 {c:Operand} {a b:Code} {t:Bool} (hc:aP st.fr c=.fl (.bool t)) (ht:t=true) (h:mD T tab one mu a st KE):mD T tab one mu (.cond c a b) st KE:=e1 hc (JD ht h)
theorem e3 {c:Operand} {a b:Code} {t:Bool} (hc:aP st.fr c=.fl (.bool t)) (ht:t=false) (h:mD T tab one mu b st KE):mD T tab one mu (.cond c a b) st KE:=e1 hc (MZ ht h)
theorem o1 {ops:List Oper} (h:KS st):wpOps T tab one mu ops [] st KS:=h
theorem o2 {ops:List Oper} {op:Op} {a1 a2 a3 gd} {l:List Oper}
 (h:ct ops gd fr (qd T tab one mu dst op fr hp aG rd fl fun st'=>wpOps T tab one mu ops l st' KS) (gk dst fr (.tp []) fun fr'=>wpOps T tab one mu ops l ⟨fr',hp,aG,rd,fl⟩ KS)):wpOps T tab one mu ops (⟨dst,op,a1,a2,a3,gd⟩ :: l) ⟨fr,hp,aG,rd,fl⟩ KS:=h
theorem o3 {ops:Array Oper} {op:Op} {a1 a2 a3 gd} {l:List Oper} {i:Nat} {bt:Nat→Nat} {acc:List jM}
 (h:ct ops.toList gd fr (eL T tab mu dst op i bt fr hp fun fr' hp' bt' x=>iD T tab mu ops l (i+1) bt' (x :: acc) ⟨fr',hp',aG,rd,fl⟩ KS)
  (gk dst fr (.tp []) fun fr'=>iD T tab mu ops l (i+1) (kI dst bt 0) (⟨i,[],false,false⟩ :: acc) ⟨fr',hp,aG,rd,fl⟩ KS)):iD T tab mu ops (⟨dst,op,a1,a2,a3,gd⟩ :: l) i bt acc ⟨fr,hp,aG,rd,fl⟩ KS:=h
theorem o4 {ops:List Oper} {yes no:Prop} (h:yes):ct ops none fr yes no:=h
theorem o5 {d:Tmp} {v:AV} {P:(Nat→AV)→Prop} (h:P fun t=>bif Nat.beq t d then v else fr t):gk (some d) fr v P:=h
theorem o6 {v:AV} {P:(Nat→AV)→Prop} (h:P fr):gk none fr v P:=h
theorem o7 {f:Operand} {l:List Operand} {tys} (h:force (aP fr f) fun F=>eG (l.map (aP fr)) fun as=>aj T tab one F as hp aG fun v hp' amb'=>gk dst fr v fun fr'=>KS ⟨fr',hp',amb',rd,fl⟩) :
 qd T tab one mu dst (.call ⟨.value f,l.toArray,tys⟩) fr hp aG rd fl KS:=h
theorem o8 {op:Op} (hk:dO op=.plain) (h:wpOp T (JC mu dst) op fr hp fun v hp'=>force v fun v=>gk dst fr v fun fr'=>KS ⟨fr',hp',aG,rd,fl⟩):qd T tab one mu dst op fr hp aG rd fl KS:=by
 unfold qd;rw [hk];exact h
theorem o9 {x:Operand} {l:List Operand} {f:Operand→AV} {P:List AV→Prop} (h:force (f x) fun a=>eG (l.map f) fun l=>P (a :: l)):eG ((x :: l).map f) P:=h
theorem p1 {f:Operand→AV} {P:List AV→Prop} (h:P []):eG (([]:List Operand).map f) P:=h
theorem p2 {x:Operand} (h:K (aP fr x) hp):wpOp T own (.move x) fr hp K:=h
theorem p3 {x:Operand} (h:K (aP fr x) hp):wpOp T own (.assign x) fr hp K:=h
theorem p4 {c a b:Operand} (h:qU (aP fr c) (aP fr a) (aP fr b) hp K):wpOp T own (.pick c a b) fr hp K:=h
theorem p5 {o:BinOp} {t e:TypeId} {x y:Operand} (h:aN T o t x y (aP fr x) (aP fr y) hp K):wpOp T own (.binOp o t x y e) fr hp K:=h
theorem p6 {x:Operand} {t:TypeId} (h:force (aP fr x) fun v=>kW T t v hp K):wpOp T own (.call ⟨.builtin .len,[x].toArray,[t].toArray⟩) fr hp K:=Ii (bK h)
theorem p7 {f:FuncId} {a b:List Operand} (h:eG (a.map (aP fr)) fun a=>eG (b.map (aP fr)) fun b=>K (.fn f a b) hp):wpOp T own (.makeFunc (.func f) a.toArray b.toArray) fr hp K:=h
theorem p8 {x:Operand} (h:pY (aP fr x) hp K):wpOp T own (.nilCheck x) fr hp K:=h
theorem p9 {op:Op} {i:Nat} {bt:Nat→Nat} {KD:(Nat→AV)→List AB→(Nat→Nat)→jM→Prop} (hk:dO op=.plain) (h:∃ a,ED op fr (rj bt)=some a∧wpOp T (JC mu dst) op fr hp fun v hp'=>force v fun v=>gk dst fr v fun fr'=>KD fr' hp' (kI dst bt (kj op fr bt i)) ⟨i,a,news? op,false⟩) :
  eL T tab mu dst op i bt fr hp KD:=by
 unfold eL;rw [hk];exact h
theorem Bj {v:AV} {P:AV→Prop} (h:P v):force v P:=by cases v <;> exact h
theorem xK:∀ {l:List AV} {P:List AV→Prop},P l→eG l P
 | [],_,h=>h
 | _ :: _,_,h=>Bj (xK (P:=fun _=>_) h)
theorem DU {f:Operand} {l:List Operand} {tys} {i:Nat} {bt:Nat→Nat} {KD:(Nat→AV)→List AB→(Nat→Nat)→jM→Prop} (h:(aP fr f).deep=true∧∃ vs v,Handed hp (l.map (aP fr)) vs v∧af T tab true (aP fr f) vs v∧gk dst fr v fun fr'=>KD fr' hp (kI dst bt (i+1)) ⟨i,[],true,true⟩) :
  eL T tab mu dst (.call ⟨.value f,l.toArray,tys⟩) i bt fr hp KD:=by
 show force (aP fr f) fun F=>eG (l.map (aP fr)) fun as=>F.deep=true∧∃ vs v,Handed hp as vs v∧af T tab true F vs v∧gk dst fr v fun fr'=>KD fr' hp (kI dst bt (i+1)) ⟨i,[],true,true⟩
 generalize aP fr f=F at h ⊢
 generalize l.map (aP fr)=as at h ⊢
 exact Bj (xK (P:=fun as=>F.deep=true∧∃ vs v,Handed hp as vs v∧af T tab true F vs v∧gk dst fr v fun fr'=>KD fr' hp (kI dst bt (i+1)) ⟨i,[],true,true⟩) h)
theorem n1 {f:Operand} {l:List Operand} {tys} {i:Nat} {bt:Nat→Nat} {KD:(Nat→AV)→List AB→(Nat→Nat)→jM→Prop} (h:force (aP fr f) fun F=>eG (l.map (aP fr)) fun as=>F.deep=true∧cK as=true∧∃ v,af T tab true F as v∧gk dst fr v fun fr'=>KD fr' hp (kI dst bt (i+1)) ⟨i,[],true,true⟩) :
  eL T tab mu dst (.call ⟨.value f,l.toArray,tys⟩) i bt fr hp KD:=by
 have h:=ee (bK h)
 obtain ⟨h1,h2,v,h3,h4⟩:=h
 exact DU ⟨h1,_,v,.inl ⟨rfl,h2⟩,h3,h4⟩
theorem n2 {f:Operand} {l:List Operand} {tys} {i:Nat} {bt:Nat→Nat} {KD:(Nat→AV)→List AB→(Nat→Nat)→jM→Prop} {F v:AV} {as vs:List AV} (hp':af T tab true F vs v) (hf:aP fr f=F) (ha:l.map (aP fr)=as) (hF:F.deep=true) (hz:zM hp as vs) (hv:gz v) (h:gk dst fr v fun fr'=>KD fr' hp (kI dst bt (i+1)) ⟨i,[],true,true⟩) :
  eL T tab mu dst (.call ⟨.value f,l.toArray,tys⟩) i bt fr hp KD:=by
 subst hf ha
 exact DU ⟨hF,vs,v,.inr ⟨hz,hv⟩,hp',h⟩
theorem n3 {x:Operand} {t:TypeId} {b:Bool} (hb:aP fr x=.fl (.bool b)) (h:K (.fl (.bool (!b))) hp):wpOp T own (.unOp .not t x) fr hp K:=by
 show JB T .not (aP fr x) hp K
 rw [hb];exact h
theorem n4 {x y:Operand} {tys:Array TypeId} {m n:Int} (hx:aP fr x=.fl (.int .i64 m)) (hy:aP fr y=.fl (.int .i64 n)) (h:K (.fl (.int .i64 (min m n))) hp):wpOp T own (.call ⟨.builtin .min,[x,y].toArray,tys⟩) fr hp K:=by
 show force (aP fr x) fun a=>force (aP fr y) fun b=>DK T [a,b] hp K
 rw [hx,hy];exact h
theorem n5 {x y:Operand} {tys:Array TypeId} {m n:Int} (hx:aP fr x=.fl (.int .i64 m)) (hy:aP fr y=.fl (.int .i64 n)) (h:K (.fl (.int .i64 (max m n))) hp):wpOp T own (.call ⟨.builtin .max,[x,y].toArray,tys⟩) fr hp K:=by
 show force (aP fr x) fun a=>force (aP fr y) fun b=>DL T [a,b] hp K
 rw [hx,hy];exact h
section
variable {v : AV} {P : AV → Prop}
theorem f1 {x:Value} (hv:v=.fl x) (h:P (.fl x)):force v P:=by subst hv;exact h
theorem f2 {a:List (List AV)} {b:Bool} (hv:v=.sl a b) (h:P (.sl a b)):force v P:=by subst hv;exact h
theorem f3 {a:List AV} {b:Nat} (hv:v=.pt a b) (h:P (.pt a b)):force v P:=by subst hv;exact h
theorem f4 {a:FuncId} {b c:List AV} (hv:v=.fn a b c) (h:P (.fn a b c)):force v P:=by subst hv;exact h
theorem f5 {a:List AV} (hv:v=.ag a) (h:P (.ag a)):force v P:=by subst hv;exact h
theorem f6 {a:List AV} (hv:v=.tp a) (h:P (.tp a)):force v P:=by subst hv;exact h
theorem f7 {a b c:Nat} (hv:v=.ptr a b c) (h:P (.ptr a b c)):force v P:=by subst hv;exact h
theorem f8 {a b c d e:Nat} (hv:v=.dc a b c d e) (h:P (.dc a b c d e)):force v P:=by subst hv;exact h
theorem f9 {a:Nat} (hv:v=.om a) (h:P (.om a)):force v P:=by subst hv;exact h
theorem g1 {a:Value} (hv:v=.oq a) (h:P (.oq a)):force v P:=by subst hv;exact h
theorem g2 (hv:v=.bJ) (h:P .bJ):force v P:=by subst hv;exact h
end
section
variable {c a b : AV} {t x y : Bool}
theorem k1 (hc:c=.fl (.bool t)) (h:iX t a b hp K):qU c a b hp K:=by subst hc;exact h
theorem k2 (ht:t=true) (h:K a hp):iX t a b hp K:=by
 subst ht
 unfold iX
 split
 ·exact h
 ·exact And.intro (fun _=>h) (fun e=>Bool.noConfusion e)
theorem k3 (ht:t=false) (h:K b hp):iX t a b hp K:=by
 subst ht
 unfold iX
 split
 ·exact h
 ·exact And.intro (fun e=>Bool.noConfusion e) (fun _=>h)
theorem k4 (ha:a=.fl (.bool x)) (hb:b=.fl (.bool y)) (h:K (.fl (.bool (bif t then x else y))) hp):iX t a b hp K:=by subst ha hb;exact h
end
section
variable {a b : AV} {m n : Int} {t : TypeId} {x y : Operand}
theorem b1 (ha:a=.fl (.int .i64 m)) (hb:b=.fl (.int .i64 n)) (hh:-9223372036854775808≤m+n∧m+n≤9223372036854775807) (h:K (.fl (.int .i64 (m+n))) hp):aN T .add t x y a b hp K:=by subst ha hb;exact ⟨hh,h⟩
theorem b2 (ha:a=.fl (.int .i64 m)) (hb:b=.fl (.int .i64 n)) (hh:-9223372036854775808≤m - n∧m - n≤9223372036854775807) (h:K (.fl (.int .i64 (m - n))) hp):aN T .sub t x y a b hp K:=by subst ha hb;exact ⟨hh,h⟩
theorem b3 (ha:a=.fl (.int .i64 m)) (hb:b=.fl (.int .i64 n)) (hh:-9223372036854775808≤m * n∧m * n≤9223372036854775807) (h:K (.fl (.int .i64 (m * n))) hp):aN T .mul t x y a b hp K:=by subst ha hb;exact ⟨hh,h⟩
theorem b4 (ha:a=.fl (.int .i64 m)) (hb:b=.fl (.int .i64 n)) (h:K (.fl (.bool (decide (m=n)))) hp):aN T .eql t x y a b hp K:=by subst ha hb;exact h
theorem b5 (ha:a=.fl (.int .i64 m)) (hb:b=.fl (.int .i64 n)) (h:K (.fl (.bool (!decide (m=n)))) hp):aN T .neq t x y a b hp K:=by subst ha hb;exact h
theorem b6 (ha:a=.fl (.int .i64 m)) (hb:b=.fl (.int .i64 n)) (h:K (.fl (.bool (decide (m < n)))) hp):aN T .lss t x y a b hp K:=by subst ha hb;exact h
theorem b7 (ha:a=.fl (.int .i64 m)) (hb:b=.fl (.int .i64 n)) (h:K (.fl (.bool (decide (m≤n)))) hp):aN T .leq t x y a b hp K:=by subst ha hb;exact h
theorem b8 (ha:a=.fl (.int .i64 m)) (hb:b=.fl (.int .i64 n)) (h:K (.fl (.bool (decide (n < m)))) hp):aN T .gtr t x y a b hp K:=by subst ha hb;exact h
theorem b9 (ha:a=.fl (.int .i64 m)) (hb:b=.fl (.int .i64 n)) (h:K (.fl (.bool (decide (n≤m)))) hp):aN T .geq t x y a b hp K:=by subst ha hb;exact h
theorem r1 (ha:a=.fl (.int .i64 m)) (hb:b=.fl (.int .i64 n)) (h0:0≤m∧1≤n) (h:K (.fl (.int .i64 (m % n))) hp):aN T .rem t x y a b hp K:=by
 subst ha hb;exact ⟨_,JK h0.1 h0.2,rfl,h⟩
theorem r2 (ha:a=.fl (.int .i64 m)) (hb:b=.fl (.int .i64 n)) (h0:(0≤m∧m≤9223372036854775807)∧1≤n) (h:K (.fl (.int .i64 (m / n))) hp):aN T .quo t x y a b hp K:=by
 subst ha hb;exact ⟨_,JL h0.1.1 h0.1.2 h0.2,rfl,h⟩
end
section
variable {v : AV} {t : TypeId}
theorem l1 {e:TypeId} {a1 a2 a3 a4 a5 a6} {els:List (List AV)} {f:Bool} (ht:T.ty.get t=some ⟨.slice e,a1,a2,a3,a4,a5,a6⟩) (h:K (.fl (.int .i64 els.length)) hp):kW T t (.sl els f) hp K:=by
 unfold kW;rw [ht];exact h
theorem l2 {e:TypeId} {a1 a2 a3 a4 a5 a6} {j aC o n c:Nat} (ht:T.ty.get t=some ⟨.slice e,a1,a2,a3,a4,a5,a6⟩) (h:K (.fl (.int .i64 n)) hp):kW T t (.dc j aC o n c) hp K:=by
 unfold kW;rw [ht];exact h
theorem l3 {a:List AV} {b:Nat} (hv:v=.pt a b) (h:K (.pt a b) hp):pY v hp K:=by subst hv;exact h
theorem l4 {a b c:Nat} (hv:v=.ptr a b c) (h:K (.ptr a b c) hp):pY v hp K:=by subst hv;exact h
end
end
end Go.RM
namespace Go.RM
open Go
section
variable {T : bw} {tab : List XE} {one : Bool} {mu : Tmp → Bool} {base : Nat} {E : Env} {hp : List AB} {aG : bP} {H : Hp} {ρ : Nat → Nat → Option Nat} {g : aE} {O O' : Nat → Prop}
theorem cm {a b:Code} {st:bG} {K:Exit→bG→Prop} (h:mD T tab one mu a st (uQ (fun s=>aB T tab one b s K) K)):aB T tab one (.seq a b) st K:=.seq (aa h)
def cq (j:Nat) (ρ:Nat→Nat→Option Nat):Nat→Nat→Option Nat:=fun i v=>if i=j then none else ρ i v
mutual
def AV.lX (j:Nat):AV→Bool
 | .fl _=>true
 | .sl _ _=>true
 | .pt _ _=>true
 | .fn _ a b=>uY j a && uY j b
 | .ag a=>uY j a
 | .tp a=>uY j a
 | .oq _=>true
 | .bJ=>true
 | .ptr i _ _=>!Nat.beq i j
 | .dc i _ _ _ _=>!Nat.beq i j
 | .om i=>!Nat.beq i j
def uY (j:Nat):List AV→Bool
 | []=>true
 | a :: l=>a.lX j && uY j l
end
theorem cz {j:Nat}:∀ {l:List AV},uY j l=true→∀ (i:Nat) (a:AV),l[i]?=some a→a.lX j=true
 | [],_,i,a,h=>by cases h
 | x :: l,h,i,a,ha=>by
  simp only [uY,Bool.and_eq_true] at h
  cases i with
  | zero=>cases ha;exact h.1
  | succ i=>exact cz h.2 i a (by simpa using ha)
theorem eU {i j:Nat} (h:(!Nat.beq i j)=true):i ≠ j:=by
 intro e
 subst e
 rw [Nat.beq_refl] at h
 cases h
theorem AR.lX {j:Nat} (hO:∀ k,O' k→O k) {v:AV} {u:Value} (h:AR ρ g O v u):v.lX j=true→AR (cq j ρ) g O' v u:=by
 induction h with
 | d h=>intro _;exact .d (h.mono fun k b hk ho=>⟨hk,fun h=>ho (hO k h)⟩)
 | bJ=>intro _;exact .bJ
 | ptr h=>intro hd;simp only [AV.lX] at hd;exact .ptr (by rw [cq,if_neg (eU hd)];exact h)
 | dc h=>intro hd;simp only [AV.lX] at hd;exact .dc (by rw [cq,if_neg (eU hd)];exact h)
 | oI=>intro _;exact .oI
 | om h=>intro hd;simp only [AV.lX] at hd;exact .om (by rw [cq,if_neg (eU hd)];exact h)
 | fn ha hb h1 h2 ih1 ih2 =>
  intro hd
  simp only [AV.lX,Bool.and_eq_true] at hd
  exact .fn ha hb (fun i x u hx hu=>ih1 i x u hx hu (cz hd.1 i x hx)) (fun i x u hx hu=>ih2 i x u hx hu (cz hd.2 i x hx))
 | ag ha h1 ih=>intro hd;simp only [AV.lX] at hd;exact .ag ha (fun i x u hx hu=>ih i x u hx hu (cz hd i x hx))
 | tp ha h1 ih=>intro hd;simp only [AV.lX] at hd;exact .tp ha (fun i x u hx hu=>ih i x u hx hu (cz hd i x hx))
def AB.lX (j:Nat):AB→Bool
 | .cells cs _ _=>uY j cs
 | .cO _ _=>true
 | .map ents _=>ents.all fun p=>p.1.lX j && p.2.1.lX j
 | .iter i _ _ _=>!Nat.beq i j
 | .gone=>true
inductive Gv (j aC:Nat) (cs:List AV):AV→AV→Prop
 | same {a:AV}:a.lX j=true→Gv j aC cs a a
 | ptr {o:Nat}:Gv j aC cs (.ptr j aC o) (.pt cs o)
 | row {o n c:Nat} {els:List (List AV)} {b:Bool} (es:Nat):o+n * es≤cs.length→els.length=n→(∀ el ∈ els,el.length=es)→els.flatten=(cs.drop o).take (n * es)→(b=true→c=n)→Gv j aC cs (.dc j aC o n c) (.sl els b)
 | bJ {a:AV}:Gv j aC cs a .bJ
def zj (j aC:Nat) (cs:List AV) (fr:Nat→AV):List (Nat × AV)→Prop
 | []=>True
 | (i,v) :: l=>Gv j aC cs (fr i) v∧zj j aC cs fr l
theorem DV {j aC:Nat} {cs:List AV} {fr:Nat→AV}:∀ {l:List (Nat × AV)},zj j aC cs fr l→∀ t,Gv j aC cs (fr t) (aU l t)
 | [],_,t=>.bJ
 | (i,v) :: l,h,t=>by
  unfold aU
  rw [Tr.beq_eq]
  by_cases hti:t=i
  ·rw [decide_eq_true hti,hti]
   exact h.1
  ·rw [decide_eq_false hti]
   exact DV h.2 t
theorem au.PA {st:bG} {l:List (Nat × AV)} {j aC es:Nat} {cs:List AV} (hj:st.hp[j]?=some (.cells cs es aC)) (hn:st.fl≤j) (hd:cK cs=true) (hs:zj j aC cs st.fr l) (hb:∀ (i:Nat) (b:AB),st.hp[i]?=some b→i ≠ j→b.lX j=true) :
  au st ⟨aU l,st.hp.set j .gone,st.aG,st.rd,st.fl⟩:=by
 have hlt:j < st.hp.length:=(List.getElem?_eq_some_iff.1 hj).1
 refine ⟨rfl,fun E base s hs'=>?_⟩
 have hr:=hs'.h
 have hget:∀ (i:Nat) (b:AB) (aC:Nat),(st.hp.set j .gone)[i]?=some b→b.ver?=some aC→i ≠ j∧st.hp[i]?=some b:=by
  intro i b aC hi hv
  by_cases hij:i=j
  ·subst hij;rw [List.getElem?_set_self hlt] at hi;cases hi;cases hv
  ·rw [List.getElem?_set_ne (Ne.symm hij)] at hi;exact ⟨hij,hi⟩
 have hdr:∀ {i v k:Nat},cq j E.ρ i v=some k→i ≠ j∧E.ρ i v=some k:=by
  intro i v k h
  unfold cq at h
  split at h
  ·cases h
  ·rename_i hne;exact ⟨hne,h⟩
 have hown:∀ k,Own (cq j E.ρ) (st.hp.set j .gone) k→Own E.ρ st.hp k:=by
  rintro k ⟨i,b,v,h1,h2,h3⟩
  exact ⟨i,b,v,(hget i b v h1 h2).2,h2,(hdr h3).2⟩
 have hOs:∀ k,({E with ρ:=cq j E.ρ}:Env).O (st.hp.set j .gone) k→E.O st.hp k:=fun k h=>h.imp (hown k) id
 have hpt:∀ {o:Nat} {u:Value},AR E.ρ s.hp.get (E.O st.hp) (.ptr j aC o) u→AR (cq j E.ρ) s.hp.get (({E with ρ:=cq j E.ρ}:Env).O (st.hp.set j .gone)) (.pt cs o) u:=by
  intro o u h
  obtain ⟨k,hk,rfl⟩:=h.cE
  obtain ⟨cs',q1,q2⟩:=hr.cells hj hk
  have hnO:¬ ({E with ρ:=cq j E.ρ}:Env).O (st.hp.set j .gone) k:=by
   rintro (⟨i,b,v,h1,h2,h3⟩|hx)
   ·have:=hdr h3
    exact this.1 (hr.inj i j v aC k this.2 hk)
   ·exact hr.iu k ⟨j,_,aC,hj,rfl,hk⟩ hx
  have:=q2.deep hd
  refine .d (?_:DR _ _ (.pt cs o) (.pointer (some ⟨k,o,none⟩)))
  have h0:DR s.hp.get (({E with ρ:=cq j E.ρ}:Env).O (st.hp.set j .gone)) (.pt cs o) (.pointer (some ⟨k,0+o,none⟩)) :=
   .pt q1 hnO (by rw [Nat.zero_add,this.1];exact Nat.le_refl _) (fun i a u x y=>(this.2 i a u x (by rw [Nat.zero_add] at y;exact y)).mono fun k b hk ho=>⟨hk,fun h=>ho (hOs k h)⟩)
  rw [Nat.zero_add] at h0
  exact h0
 have hrow:∀ {o n c:Nat} {els:List (List AV)} {b:Bool} {u:Value} (es:Nat),o+n * es≤cs.length→els.length=n→(∀ el ∈ els,el.length=es)→els.flatten=(cs.drop o).take (n * es)→(b=true→c=n)→AR E.ρ s.hp.get (E.O st.hp) (.dc j aC o n c) u →
   AR (cq j E.ρ) s.hp.get (({E with ρ:=cq j E.ρ}:Env).O (st.hp.set j .gone)) (.sl els b) u:=by
  intro o n c els b u es g1 g2 g3 g4 g5 h
  rcases h.eR with ⟨k,hk,rfl⟩|⟨rfl,rfl,rfl⟩
  ·obtain ⟨cs',q1,q2⟩:=hr.cells hj hk
   have hnO:¬ ({E with ρ:=cq j E.ρ}:Env).O (st.hp.set j .gone) k:=by
    rintro (⟨i,b,v,h1,h2,h3⟩|hx)
    ·have:=hdr h3
     exact this.1 (hr.inj i j v aC k this.2 hk)
    ·exact hr.iu k ⟨j,_,aC,hj,rfl,hk⟩ hx
   have hdp:=q2.deep hd
   refine .d (.sl (es:=es) q1 hnO (by rw [←q2.1];exact g1) g2 (fun i el he=>g3 el (List.mem_of_getElem? he)) (fun i el jj a u he hx hu=>?_) g5)
   have hjj:jj < es:=by rw [←g3 el (List.mem_of_getElem? he)];exact (List.getElem?_eq_some_iff.1 hx).1
   have hat:=fj g3 i el jj he hjj
   have hi:i < n:=by rw [←g2];exact (List.getElem?_eq_some_iff.1 he).1
   rw [g4,List.getElem?_take,List.getElem?_drop] at hat
   have hlt:i * es+jj < n * es:=by
    have:(i+1) * es≤n * es:=Nat.mul_le_mul_right _ hi
    rw [Nat.add_mul,Nat.one_mul] at this
    omega
   rw [if_pos hlt,hx,←Nat.add_assoc] at hat
   exact (hdp.2 _ a u hat hu).mono fun k b hk ho=>⟨hk,fun h=>ho (hOs k h)⟩
  ·simp only [List.length_eq_zero_iff] at g2
   subst g2
   exact .d .nil
 have hgv:∀ {a b:AV} {u:Value},Gv j aC cs a b→AR E.ρ s.hp.get (E.O st.hp) a u→AR (cq j E.ρ) s.hp.get (({E with ρ:=cq j E.ρ}:Env).O (st.hp.set j .gone)) b u:=by
  intro a b u hg h
  cases hg with
  | same hn=>exact h.lX hOs hn
  | ptr=>exact hpt h
  | row es g1 g2 g3 g4 g5=>exact hrow es g1 g2 g3 g4 g5 h
  | bJ=>exact .bJ
 refine ⟨{E with ρ:=cq j E.ρ},⟨⟨hr.wf,fun i b v hi hv=>?_,fun i i' v v' k h1 h2=>hr.inj i i' v v' k (hdr h1).2 (hdr h2).2,fun i v k hk=>hr.rn i v k (hdr hk).2,fun i b v w h1 h2 h3=>?_,fun i v hi=>?_,fun k hk=>hr.sup k (hown k hk),fun k hk=>hr.iu k (hown k hk),hr.dx,hr.ds,hr.sn,hr.xn,fun k hk=>hr.od k (hk.imp (hown k) id),hr.bn,hr.aG⟩,hs'.rd,fun t=>hgv (DV hs t) (hs'.fr t)⟩,
  ⟨Nat.le_refl _,fun i v k hi hk=>?_,fun k hk=>.inl (hown k hk),fun _ h=>.inl h,fun _ h=>.inl h,fun _ h=>h,fun _ h=>.inl h,fun _ _ _ _=>rfl,Nat.min_le_left _ _⟩⟩
 ·obtain ⟨hij,hi'⟩:=hget i b v hi hv
  have hbn:=hb i b hi' hij
  rcases hr.fE i b v hi' hv with ⟨k,b',q1,q2,q3⟩|⟨q1,q2⟩
  ·refine .inl ⟨k,b',by show cq j E.ρ i v=_;rw [cq,if_neg hij];exact q1,q2,?_⟩
   cases b with
   | cells cs2 es2 ver2 =>
    obtain ⟨cs',rfl,h⟩:=q3
    exact ⟨cs',rfl,h.1,fun i a u ha hu=>(h.2 i a u ha hu).lX hOs (cz hbn i a ha)⟩
   | cO p q=>exact q3
   | map ents clock =>
    obtain ⟨es,rfl,h1,h2⟩:=q3
    refine ⟨es,rfl,h1,fun i k v born x hx hy=>?_⟩
    simp only [AB.lX,List.all_eq_true,Bool.and_eq_true] at hbn
    have:=hbn _ (List.mem_of_getElem? hx)
    exact ⟨(h2 i k v born x hx hy).1.lX hOs this.1,(h2 i k v born x hx hy).2.1.lX hOs this.2,(h2 i k v born x hx hy).2.2⟩
   | iter i2 since seen stepped =>
    obtain ⟨m,rfl,h⟩:=q3
    exact ⟨m,rfl,by show cq j E.ρ i2 0=_;rw [cq,if_neg (eU hbn)];exact h⟩
   | gone=>exact q3
  ·exact .inr ⟨by show cq j E.ρ i v=_;rw [cq,if_neg hij];exact q1,q2⟩
 ·obtain ⟨hij,h1⟩:=hget i b v h1 h2
  show cq j E.ρ i w=none
  rw [cq,if_neg hij];exact hr.fresh i b v w h1 h2 h3
 ·show cq j E.ρ i v=none
  unfold cq
  split
  ·rfl
  ·exact hr.new i v (by simpa using hi)
 ·show cq j E.ρ i v=some k
  rw [cq,if_neg (by omega)];exact hk
def uZ (j:Nat):Nat→List AB→Bool
 | _,[]=>true
 | i,b :: l=>(Nat.beq i j || b.lX j) && uZ j (i+1) l
theorem u0 {j:Nat}:∀ {l:List AB} {i0:Nat},uZ j i0 l=true→∀ (i:Nat) (b:AB),l[i]?=some b→i0+i ≠ j→b.lX j=true
 | [],_,_,i,b,h,_=>by cases h
 | x :: l,i0,h,i,b,hb,hne=>by
  simp only [uZ,Bool.and_eq_true,Bool.or_eq_true] at h
  cases i with
  | zero =>
   cases hb
   rcases h.1 with h|h
   ·exact absurd (Nat.eq_of_beq_eq_true h) hne
   ·exact h
  | succ i=>exact u0 h.2 i b (by simpa using hb) (by omega)
theorem au.giveUp {st:bG} {l:List (Nat × AV)} (j:Nat) {aC es:Nat} {cs:List AV} {hp:List AB} (hj:st.hp[j]?=some (.cells cs es aC)) (hn:st.fl≤j) (hd:cK cs=true) (hs:zj j aC cs st.fr l) (hb:uZ j 0 st.hp=true) (hh:st.hp.set j .gone=hp) :
  au st ⟨aU l,hp,st.aG,st.rd,st.fl⟩:=by
 subst hh
 exact au.PA hj hn hd hs fun i b h hne=>u0 hb i b h (by omega)
end
end Go.RM
namespace Go.RM
open Go
theorem cH.u6 {j aC c:Nat}:cH (.fl (.slice none 0 0)) (.dc j aC 0 0 c):=fun _ _ _ u h=>by
 rw [h.eW.1]
 exact .oI
theorem au.u7 {st:bG} (es:Nat):au st ⟨st.fr,st.hp++[.cells [] es 0],st.aG,st.rd,st.fl⟩:=by
 refine ⟨rfl,fun E base s hs=>?_⟩
 have hr:=hs.h
 have hget:∀ (i:Nat) (b:AB),(st.hp++[AB.cells [] es 0])[i]?=some b→(i < st.hp.length∧st.hp[i]?=some b)∨(i=st.hp.length∧b=.cells [] es 0):=by
  intro i b hi
  by_cases hlt:i < st.hp.length
  ·rw [List.getElem?_append_left hlt] at hi;exact .inl ⟨hlt,hi⟩
  ·rw [List.getElem?_append_right (by omega)] at hi
   have h0:i - st.hp.length=0:=by
    apply Nat.eq_zero_of_not_pos
    intro hp0
    rw [List.getElem?_eq_none (by simp;omega)] at hi
    cases hi
   rw [h0] at hi
   cases hi
   exact .inr ⟨by omega,rfl⟩
 have hown:∀ k,Own E.ρ (st.hp++[.cells [] es 0]) k→Own E.ρ st.hp k:=by
  rintro k ⟨i,b,v,h1,h2,h3⟩
  rcases hget i b h1 with ⟨_,h1⟩|⟨rfl,rfl⟩
  ·exact ⟨i,b,v,h1,h2,h3⟩
  ·rw [hr.new _ v (Nat.le_refl _)] at h3;cases h3
 have hO:∀ k,E.O (st.hp++[.cells [] es 0]) k→E.O st.hp k:=fun k h=>h.imp (hown k) id
 have keep:∀ k b,s.hp.get k=some b→¬ E.O st.hp k→s.hp.get k=some b∧¬ E.O (st.hp++[.cells [] es 0]) k:=fun k b hk ho=>⟨hk,fun h=>ho (hO k h)⟩
 have har:∀ {v:AV} {u:Value},AR E.ρ s.hp.get (E.O st.hp) v u→AR E.ρ s.hp.get (E.O (st.hp++[.cells [] es 0])) v u:=fun h=>h.mono (fun _ _ _ h=>h) keep
 refine ⟨E,⟨⟨hr.wf,fun i b v hi hv=>?_,hr.inj,hr.rn,fun i b v w h1 h2 h3=>?_,fun i v hi=>hr.new i v (by simp at hi;omega),fun k hk=>hr.sup k (hown k hk),fun k hk=>hr.iu k (hown k hk),hr.dx,hr.ds,hr.sn,hr.xn,fun k hk=>hr.od k (hk.imp (hown k) id),hr.bn,hr.aG⟩,hs.rd,fun t=>har (hs.fr t)⟩,
  ⟨Nat.le_refl _,fun _ _ _ _ h=>h,fun k hk=>.inl (hown k hk),fun _ h=>.inl h,fun _ h=>.inl h,fun _ h=>h,fun _ h=>.inl h,fun _ _ _ _=>rfl,Nat.min_le_left _ _⟩⟩
 ·rcases hget i b hi with ⟨_,hi'⟩|⟨rfl,rfl⟩
  ·rcases hr.fE i b v hi' hv with ⟨k,b',q1,q2,q3⟩|q
   ·refine .inl ⟨k,b',q1,q2,?_⟩
    cases b with
    | cells cs2 es2 ver2 =>
     obtain ⟨cs',rfl,h⟩:=q3
     exact ⟨cs',rfl,h.1,fun i a u ha hu=>har (h.2 i a u ha hu)⟩
    | cO p q=>exact q3
    | map ents clock =>
     obtain ⟨es,rfl,h1,h2⟩:=q3
     exact ⟨es,rfl,h1,fun i k v born x hx hy=>⟨har (h2 i k v born x hx hy).1,har (h2 i k v born x hx hy).2.1,(h2 i k v born x hx hy).2.2⟩⟩
    | iter i2 since seen stepped=>exact q3
    | gone=>exact q3
   ·exact .inr q
  ·cases hv
   exact .inr ⟨hr.new _ _ (Nat.le_refl _),es,rfl⟩
 ·rcases hget i b h1 with ⟨_,h1⟩|⟨rfl,rfl⟩
  ·exact hr.fresh i b v w h1 h2 h3
  ·exact hr.new _ _ (Nat.le_refl _)
theorem q1 {σ:Type} {P:σ→Prop} {I:σ→bG} {m:σ→Nat} {K:Exit→bG→Prop} {x:σ} {s:bG} (h:K .ret s):H7 P I m K x .ret s:=h
theorem q2 {σ:Type} {P:σ→Prop} {I:σ→bG} {m:σ→Nat} {K:Exit→bG→Prop} {x:σ} {s:bG} {id:Nat} (h:K (.exit id) s):H7 P I m K x (.exit id) s:=h
end Go.RM
namespace Go.RM
open Go
theorem au.M6 {st:bG} (j:Nat) {es aC:Nat} {cs ds:List AV} {hp:List AB} (hj:st.hp[j]?=some (.cells cs es aC)) (hs:jC cs ds) (hh:st.hp.set j (.cells ds es aC)=hp):au st ⟨st.fr,hp,st.aG,st.rd,st.fl⟩:=by
 subst hh
 refine ⟨rfl,fun E base s hs'=>?_⟩
 have hr:=hs'.h
 have hlt:j < st.hp.length:=(List.getElem?_eq_some_iff.1 hj).1
 have hget:∀ (i:Nat) (b:AB),(st.hp.set j (.cells ds es aC))[i]?=some b→(i ≠ j∧st.hp[i]?=some b)∨(i=j∧b=.cells ds es aC):=by
  intro i b hi
  by_cases he:i=j
  ·subst he
   rw [List.getElem?_set_self hlt] at hi
   cases hi
   exact .inr ⟨rfl,rfl⟩
  ·rw [List.getElem?_set_ne (Ne.symm he)] at hi
   exact .inl ⟨he,hi⟩
 have hown:∀ k,Own E.ρ (st.hp.set j (.cells ds es aC)) k→Own E.ρ st.hp k:=by
  rintro k ⟨i,b,v,h1,h2,h3⟩
  rcases hget i b h1 with ⟨_,h1⟩|⟨rfl,rfl⟩
  ·exact ⟨i,b,v,h1,h2,h3⟩
  ·cases h2
   exact ⟨i,_,_,hj,rfl,h3⟩
 have hO:∀ k,E.O (st.hp.set j (.cells ds es aC)) k→E.O st.hp k:=fun k h=>h.imp (hown k) id
 have keep:∀ k b,s.hp.get k=some b→¬ E.O st.hp k→s.hp.get k=some b∧¬ E.O (st.hp.set j (.cells ds es aC)) k:=fun k b hk ho=>⟨hk,fun h=>ho (hO k h)⟩
 have har:∀ {v:AV} {u:Value},AR E.ρ s.hp.get (E.O st.hp) v u→AR E.ρ s.hp.get (E.O (st.hp.set j (.cells ds es aC))) v u:=fun h=>h.mono (fun _ _ _ h=>h) keep
 refine ⟨E,⟨⟨hr.wf,fun i b v hi hv=>?_,hr.inj,hr.rn,fun i b v w h1 h2 h3=>?_,fun i v hi=>hr.new i v (by simpa using hi),fun k hk=>hr.sup k (hown k hk),fun k hk=>hr.iu k (hown k hk),hr.dx,hr.ds,hr.sn,hr.xn,fun k hk=>hr.od k (hk.imp (hown k) id),hr.bn,hr.aG⟩,hs'.rd,fun t=>har (hs'.fr t)⟩,
  ⟨Nat.le_refl _,fun _ _ _ _ h=>h,fun k hk=>.inl (hown k hk),fun _ h=>.inl h,fun _ h=>.inl h,fun _ h=>h,fun _ h=>.inl h,fun _ _ _ _=>rfl,Nat.min_le_left _ _⟩⟩
 ·rcases hget i b hi with ⟨_,hi'⟩|⟨rfl,rfl⟩
  ·rcases hr.fE i b v hi' hv with ⟨k,b',q1,q2,q3⟩|q
   ·refine .inl ⟨k,b',q1,q2,?_⟩
    cases b with
    | cells cs2 es2 ver2 =>
     obtain ⟨cs',rfl,h⟩:=q3
     exact ⟨cs',rfl,h.1,fun i a u ha hu=>har (h.2 i a u ha hu)⟩
    | cO p q=>exact q3
    | map ents clock =>
     obtain ⟨es,rfl,h1,h2⟩:=q3
     exact ⟨es,rfl,h1,fun i k v born x hx hy=>⟨har (h2 i k v born x hx hy).1,har (h2 i k v born x hx hy).2.1,(h2 i k v born x hx hy).2.2⟩⟩
    | iter i2 since seen stepped=>exact q3
    | gone=>exact q3
   ·exact .inr q
  ·cases hv
   rcases hr.fE i _ aC hj rfl with ⟨k,b',q1,q2,q3⟩|⟨q1,es',q2⟩
   ·refine .inl ⟨k,b',q1,q2,?_⟩
    obtain ⟨cs',rfl,h⟩:=q3
    have h':=jC.zL hs h
    exact ⟨cs',rfl,h'.1,fun i a u ha hu=>har (h'.2 i a u ha hu)⟩
   ·cases q2
    cases ds with
    | nil=>exact .inr ⟨q1,_,rfl⟩
    | cons a l=>exact hs.elim
 ·rcases hget i b h1 with ⟨_,h1⟩|⟨rfl,rfl⟩
  ·exact hr.fresh i b v w h1 h2 h3
  ·cases h2
   exact hr.fresh i _ _ w hj rfl h3
end Go.RM
namespace Go.RM
open Go
theorem Ij {α:Type} {l:List α} {j:Nat} {a:α} (h:l[j]?=some a):l.set j a=l:=by
 apply List.ext_getElem?
 intro i
 rw [List.getElem?_set]
 split
 ·rename_i hij
  subst hij
  rw [h]
  split
  ·rfl
  ·rename_i hn
   exact absurd (List.getElem?_eq_some_iff.1 h).1 hn
 ·rfl
theorem JM {hp:List AB} {es bs:Nat} {x:AV} {els:List (List AV)} {j aC n c:Nat} {cs:List AV} {K:AV→List AB→Prop} (hx:A7 hp es x els) (h1:els.flatten.all AV.one=true) (hj:hp[j]?=some (.cells cs es aC)) (hl:cs.length=n * es) (hc:c=n∨c=n+1)
  (hb:(n+els.length) * bs≤140737488355328∧n+els.length≤9223372036854775807) (hk:∀ v c',(c'=n+els.length∨c'=n+els.length+1)→K (.dc j v 0 (n+els.length) c') (hp.set j (.cells (cs++els.flatten) es v))) :
  ∃ els,A7 hp es x els∧els.flatten.all AV.one=true∧∃ cs,hp[j]?=some (.cells cs es aC)∧cs.length=n * es∧(c=n∨c=n+1)∧((n+els.length) * bs≤140737488355328∧n+els.length≤9223372036854775807)∧(els=[]→K (.dc j aC 0 n c) hp) ∧
   (els ≠ []→K (.dc j (aC+1) 0 (n+els.length) (n+els.length+1)) (hp.set j (.cells (cs++els.flatten) es (aC+1)))):=by
 refine ⟨els,hx,h1,cs,hj,hl,hc,hb,fun he=>?_,fun _=>hk _ _ (.inr rfl)⟩
 subst he
 have h2:=hk aC c (by simpa using hc)
 rw [List.flatten_nil,List.append_nil,Ij hj] at h2
 exact h2
theorem u9 {T:bw} {own:Bool} {fr:Nat→AV} {hp:List AB} {K:AV→List AB→Prop} {s x:Operand} {t u e:TypeId} {a1 a2 a3 a4 a5 a6} {j aC n c:Nat} {els:List (List AV)} {f:Bool} {cs:List AV} {inf:vS} (hs:aP fr s=.dc j aC 0 n c) (hx:aP fr x=.sl els f)
  (hu:T.ty.get u=some ⟨.slice e,a1,a2,a3,a4,a5,a6⟩) (hi:elem? T t=some inf) (hz:bq inf=true) (hel:∀ el ∈ els,el.length=inf.size) (h1:els.flatten.all AV.one=true) (hj:hp[j]?=some (.cells cs inf.size aC)) (hl:cs.length=n * inf.size) (hc:c=n∨c=n+1)
  (hb:(n+els.length) * inf.bytes≤140737488355328∧n+els.length≤9223372036854775807) (hk:∀ v c',(c'=n+els.length∨c'=n+els.length+1)→K (.dc j v 0 (n+els.length) c') (hp.set j (.cells (cs++els.flatten) inf.size v))) :
  RM.wpOp T own (.call ⟨.builtin .append,[s,x].toArray,[t,u].toArray⟩) fr hp K:=by
 show force (aP fr s) fun a=>force (aP fr x) fun b=>jd T own .append [a,b] [t,u] hp K
 rw [hs,hx]
 show (match T.ty.get u with|some ⟨.slice _,_,_,_,_,_,_⟩=>kg T own t (.dc j aC 0 n c) (.sl els f) hp K|_=>False)
 rw [hu]
 show kg T own t (.dc j aC 0 n c) (.sl els f) hp K
 unfold kg
 rw [hi]
 exact ⟨hz,JM (hp:=hp) (K:=K) ⟨hel,rfl⟩ h1 hj hl hc hb hk⟩
end Go.RM
namespace Go.RM
open Go
section
variable {T : bw} {tab : List XE} {one : Bool} {base : Nat} {E : Env} {hp : List AB} {aG : bP} {H : Hp} {ρ : Nat → Nat → Option Nat} {g : aE} {O O' : Nat → Prop}
def aQ (a b:Nat) (ρ:Nat→Nat→Option Nat):Nat→Nat→Option Nat:=fun i v=>if i=a then ρ b v else if i=b then none else ρ i v
theorem AR.move {a b:Nat} (hO:∀ k,O' k→O k) {v:AV} {u:Value} (h:AR ρ g O v u):v.lX a=true→v.lX b=true→AR (aQ a b ρ) g O' v u:=by
 have hm:∀ {i w:Nat},i ≠ a→i ≠ b→aQ a b ρ i w=ρ i w:=fun {i w} h1 h2=>by unfold aQ;rw [if_neg h1,if_neg h2]
 induction h with
 | d h=>intro _ _;exact .d (h.mono fun k b hk ho=>⟨hk,fun hx=>ho (hO k hx)⟩)
 | bJ=>intro _ _;exact .bJ
 | ptr h=>intro h1 h2;exact .ptr (by rw [hm (eU h1) (eU h2)];exact h)
 | dc h=>intro h1 h2;exact .dc (by rw [hm (eU h1) (eU h2)];exact h)
 | oI=>intro _ _;exact .oI
 | om h=>intro h1 h2;exact .om (by rw [hm (eU h1) (eU h2)];exact h)
 | fn ha hb h1 h2 ih1 ih2 =>
  intro n1 n2
  simp only [AV.lX,Bool.and_eq_true] at n1 n2
  exact .fn ha hb (fun i x u hx hu=>ih1 i x u hx hu (cz n1.1 i x hx) (cz n2.1 i x hx)) (fun i x u hx hu=>ih2 i x u hx hu (cz n1.2 i x hx) (cz n2.2 i x hx))
 | ag ha h1 ih=>intro n1 n2;simp only [AV.lX] at n1 n2;exact .ag ha (fun i x u hx hu=>ih i x u hx hu (cz n1 i x hx) (cz n2 i x hx))
 | tp ha h1 ih=>intro n1 n2;simp only [AV.lX] at n1 n2;exact .tp ha (fun i x u hx hu=>ih i x u hx hu (cz n1 i x hx) (cz n2 i x hx))
inductive Mv (a b:Nat):AV→AV→Prop
 | same {v:AV}:v.lX a=true→v.lX b=true→Mv a b v v
 | ptr {aC o:Nat}:Mv a b (.ptr b aC o) (.ptr a aC o)
 | dc {aC o n c:Nat}:Mv a b (.dc b aC o n c) (.dc a aC o n c)
 | bJ {v:AV}:Mv a b v .bJ
def zk (a b:Nat) (fr:Nat→AV):List (Nat × AV)→Prop
 | []=>True
 | (i,v) :: l=>Mv a b (fr i) v∧zk a b fr l
theorem zl {a b:Nat} {fr:Nat→AV}:∀ {l:List (Nat × AV)},zk a b fr l→∀ t,Mv a b (fr t) (aU l t)
 | [],_,t=>.bJ
 | (i,v) :: l,h,t=>by
  unfold aU
  rw [Tr.beq_eq]
  by_cases hti:t=i
  ·rw [decide_eq_true hti,hti]
   exact h.1
  ·rw [decide_eq_false hti]
   exact zl h.2 t
theorem au.move {st:bG} {l:List (Nat × AV)} (a b:Nat) {x y:AB} (hab:a ≠ b) (hja:st.hp[a]?=some y) (hjb:st.hp[b]?=some x) (hn:st.fl≤a) (hn2:st.fl≤b) (hs:zk a b st.fr l)
  (hb:∀ (i:Nat) (z:AB),st.hp[i]?=some z→i ≠ a→z.lX a=true∧z.lX b=true) :
  au st ⟨aU l,(st.hp.set a x).set b .gone,st.aG,st.rd,st.fl⟩:=by
 have hla:a < st.hp.length:=(List.getElem?_eq_some_iff.1 hja).1
 have hlb:b < st.hp.length:=(List.getElem?_eq_some_iff.1 hjb).1
 refine ⟨rfl,fun E base s hs'=>?_⟩
 have hr:=hs'.h
 have hget:∀ (i:Nat) (z:AB) (aC:Nat),((st.hp.set a x).set b .gone)[i]?=some z→z.ver?=some aC→(i=a∧z=x)∨(i ≠ a∧i ≠ b∧st.hp[i]?=some z):=by
  intro i z aC hi hv
  by_cases hib:i=b
  ·subst hib
   rw [List.getElem?_set_self (by rw [List.length_set];exact hlb)] at hi
   cases hi;cases hv
  ·rw [List.getElem?_set_ne (Ne.symm hib)] at hi
   by_cases hia:i=a
   ·subst hia
    rw [List.getElem?_set_self hla] at hi
    cases hi;exact .inl ⟨rfl,rfl⟩
   ·rw [List.getElem?_set_ne (Ne.symm hia)] at hi
    exact .inr ⟨hia,hib,hi⟩
 have hma:∀ {v:Nat},aQ a b E.ρ a v=E.ρ b v:=fun {v}=>by unfold aQ;rw [if_pos rfl]
 have hmo:∀ {i v:Nat},i ≠ a→i ≠ b→aQ a b E.ρ i v=E.ρ i v:=fun {i v} h1 h2=>by unfold aQ;rw [if_neg h1,if_neg h2]
 have hmi:∀ {i v k:Nat},aQ a b E.ρ i v=some k→(i=a∧E.ρ b v=some k)∨(i ≠ a∧i ≠ b∧E.ρ i v=some k):=by
  intro i v k h
  unfold aQ at h
  split at h
  ·rename_i h1;exact .inl ⟨h1,h⟩
  ·split at h
   ·cases h
   ·rename_i h1 h2;exact .inr ⟨h1,h2,h⟩
 have hown:∀ k,Own (aQ a b E.ρ) ((st.hp.set a x).set b .gone) k→Own E.ρ st.hp k:=by
  rintro k ⟨i,z,v,h1,h2,h3⟩
  rcases hget i z v h1 h2 with ⟨rfl,rfl⟩|⟨n1,n2,h4⟩
  ·rw [hma] at h3;exact ⟨b,_,v,hjb,h2,h3⟩
  ·rw [hmo n1 n2] at h3;exact ⟨i,z,v,h4,h2,h3⟩
 have hOs:∀ k,({E with ρ:=aQ a b E.ρ}:Env).O ((st.hp.set a x).set b .gone) k→E.O st.hp k:=fun k h=>h.imp (hown k) id
 have hmv:∀ {v w:AV} {u:Value},Mv a b v w→AR E.ρ s.hp.get (E.O st.hp) v u→AR (aQ a b E.ρ) s.hp.get (({E with ρ:=aQ a b E.ρ}:Env).O ((st.hp.set a x).set b .gone)) w u:=by
  intro v w u hm h
  cases hm with
  | same n1 n2=>exact h.move hOs n1 n2
  | ptr =>
   obtain ⟨k,hk,rfl⟩:=h.cE
   exact .ptr (by rw [hma];exact hk)
  | dc =>
   rcases h.eR with ⟨k,hk,rfl⟩|⟨rfl,rfl,rfl⟩
   ·exact .dc (by rw [hma];exact hk)
   ·exact .oI
  | bJ=>exact .bJ
 have hbr:∀ (z:AB) (z':aR),z.lX a=true→z.lX b=true→BR E.ρ s.hp.get (E.O st.hp) z z'→BR (aQ a b E.ρ) s.hp.get (({E with ρ:=aQ a b E.ρ}:Env).O ((st.hp.set a x).set b .gone)) z z':=by
  intro z z' n1 n2 q3
  cases z with
  | cells cs2 es2 ver2 =>
   obtain ⟨cs',rfl,h⟩:=q3
   exact ⟨cs',rfl,h.1,fun i v u ha hu=>(h.2 i v u ha hu).move hOs (cz n1 i v ha) (cz n2 i v ha)⟩
  | cO p q=>exact q3
  | map ents clock =>
   obtain ⟨es,rfl,h1,h2⟩:=q3
   refine ⟨es,rfl,h1,fun i k v born e hx hy=>?_⟩
   simp only [AB.lX,List.all_eq_true,Bool.and_eq_true] at n1 n2
   have m1:=n1 _ (List.mem_of_getElem? hx)
   have m2:=n2 _ (List.mem_of_getElem? hx)
   exact ⟨(h2 i k v born e hx hy).1.move hOs m1.1 m2.1,(h2 i k v born e hx hy).2.1.move hOs m1.2 m2.2,(h2 i k v born e hx hy).2.2⟩
  | iter i2 since seen stepped =>
   obtain ⟨m,rfl,h⟩:=q3
   exact ⟨m,rfl,by show aQ a b E.ρ i2 0=_;rw [hmo (eU n1) (eU n2)];exact h⟩
  | gone=>exact q3
 refine ⟨{E with ρ:=aQ a b E.ρ},⟨⟨hr.wf,fun i z v hi hv=>?_,fun i i' v v' k h1 h2=>?_,fun i v k hk=>?_,fun i z v w h1 h2 h3=>?_,fun i v hi=>?_,fun k hk=>hr.sup k (hown k hk),fun k hk=>hr.iu k (hown k hk),hr.dx,hr.ds,hr.sn,hr.xn,fun k hk=>hr.od k (hk.imp (hown k) id),hr.bn,hr.aG⟩,hs'.rd,fun t=>hmv (zl hs t) (hs'.fr t)⟩,
  ⟨Nat.le_refl _,fun i v k hi hk=>?_,fun k hk=>.inl (hown k hk),fun _ h=>.inl h,fun _ h=>.inl h,fun _ h=>h,fun _ h=>.inl h,fun _ _ _ _=>rfl,Nat.min_le_left _ _⟩⟩
 ·rcases hget i z v hi hv with ⟨rfl,rfl⟩|⟨n1,n2,h4⟩
  ·have hz:=hb b _ hjb (Ne.symm hab)
   rcases hr.fE b _ v hjb hv with ⟨k,b',q1,q2,q3⟩|⟨q1,q2⟩
   ·exact .inl ⟨k,b',by show aQ _ b E.ρ _ v=_;rw [hma];exact q1,q2,hbr _ _ hz.1 hz.2 q3⟩
   ·exact .inr ⟨by show aQ _ b E.ρ _ v=_;rw [hma];exact q1,q2⟩
  ·have hz:=hb i z h4 n1
   rcases hr.fE i z v h4 hv with ⟨k,b',q1,q2,q3⟩|⟨q1,q2⟩
   ·exact .inl ⟨k,b',by show aQ a b E.ρ i v=_;rw [hmo n1 n2];exact q1,q2,hbr _ _ hz.1 hz.2 q3⟩
   ·exact .inr ⟨by show aQ a b E.ρ i v=_;rw [hmo n1 n2];exact q1,q2⟩
 ·rcases hmi h1 with ⟨e1,p1⟩|⟨n1,n2,p1⟩
  ·rcases hmi h2 with ⟨e2,p2⟩|⟨m1,m2,p2⟩
   ·rw [e1,e2]
   ·exact absurd (hr.inj b i' v v' k p1 p2).symm m2
  ·rcases hmi h2 with ⟨e2,p2⟩|⟨m1,m2,p2⟩
   ·exact absurd (hr.inj i b v v' k p1 p2) n2
   ·exact hr.inj i i' v v' k p1 p2
 ·rcases hmi hk with ⟨rfl,h⟩|⟨_,_,h⟩
  ·exact hr.rn b v k h
  ·exact hr.rn i v k h
 ·rcases hget i z v h1 h2 with ⟨rfl,rfl⟩|⟨n1,n2,h4⟩
  ·show aQ _ b E.ρ _ w=none
   rw [hma];exact hr.fresh b _ v w hjb h2 h3
  ·show aQ a b E.ρ i w=none
   rw [hmo n1 n2];exact hr.fresh i z v w h4 h2 h3
 ·show aQ a b E.ρ i v=none
  have hi:st.hp.length≤i:=by simpa using hi
  rw [hmo (by omega) (by omega)]
  exact hr.new i v hi
 ·show aQ a b E.ρ i v=some k
  rw [hmo (by omega) (by omega)];exact hk
def PB (T:bw) (rs:List ResultVar) (Q:AV→List AB→bP→Prop) (e:Exit) (s:bG):Prop :=
 match e with
 | .normal|.ret=>ou T s rs fun as=>Q (Bb as) s.hp s.aG
 | _=>False
theorem JN {vs:List AV} {us:List Value} (h:fh ρ g O vs us):AR ρ g O (Bb vs) (cB us):=by
 match vs,us,h with
 | [],[],_=>exact .tp rfl (fun i x u hx=>by cases hx)
 | [v],[u],h=>exact h.2 0 v u rfl rfl
 | a :: b :: l,c :: d :: m,h=>exact .tp (by simpa using h.1) (fun i x u hx hu=>h.2 i x u hx (by simpa using hu))
 | [],u :: us,h=>exact absurd h.1 (by simp)
 | v :: vs,[],h=>exact absurd h.1 (by simp)
 | [v],a :: b :: l,h=>exact absurd h.1 (by simp)
 | a :: b :: l,[v],h=>exact absurd h.1 (by simp)
theorem aj.body {f:FuncId} {fn:Func} {c:Code} {first caps args:List AV} {Q:AV→List AB→bP→Prop} (hf:T.fn.get f=some fn) (hb:fn.body=some c) (hn:noEntry tab f=true)
  (hw:aB T tab one c ⟨Bc (first++args++caps),hp,aG,false,hp.length⟩ (PB T fn.results.toList Q)):aj T tab one (.fn f first caps) args hp aG Q:=by
 intro E base H u us hr hF ha
 obtain ⟨fs,cs,rfl,h1,h2⟩:∃ fs cs,u=.func (.func f) fs cs∧fh E.ρ H.get (E.O hp) first fs.toList∧fh E.ρ H.get (E.O hp) caps cs.toList:=by
  cases hF with
  | d h=>cases h with
   | fn ha hb h1 h2=>exact ⟨_,_,rfl,⟨ha,fun i x u hx hu=>.d (h1 i x u hx hu)⟩,⟨hb,fun i x u hx hu=>.d (h2 i x u hx hu)⟩⟩
  | fn ha hb h1 h2=>exact ⟨_,_,rfl,⟨ha,h1⟩,⟨hb,h2⟩⟩
 refine ⟨.fn f (fs.toList++us++cs.toList),rfl,?_⟩
 have hargs:=(h1.append ha).append h2
 obtain ⟨m,L,h1,h2,h3⟩:=hw E base ⟨setArgs .leaf 0 (fs.toList++us++cs.toList),H,false⟩ ⟨hr,rfl,uS hargs⟩
 obtain ⟨m',M,hm,q1,q2,q3⟩:=ei (one:=one) (L:=L) (f:=fun _ (p:Exit × St)=>eA T fn.results.toList p)
  (P:=fun r=>∃ w H',r=.ret w H'∧∃ E' a hp' amb',Q a hp' amb'∧aK E' base hp' amb' H'∧AR E'.ρ H'.get (E'.O hp') a w∧jK hp.length base E hp H E' hp' H')
  (fun _ _ _ _ _ h=>h) m h2 (fun p hp'=>by
   obtain ⟨E',st',k1,k0,k2,k3⟩:=h3 p hp'
   obtain ⟨e,s'⟩:=p
   have done:(e=.normal∨e=.ret)→(ou T st' fn.results.toList fun as=>Q (Bb as) st'.hp st'.aG)→∃ (_:Nat) (M:List fB),eA T fn.results.toList (e,s')=some M ∧
     oL one M fun r=>∃ w H',r=.ret w H'∧∃ E' a hp' amb',Q a hp' amb'∧aK E' base hp' amb' H'∧AR E'.ρ H'.get (E'.O hp') a w∧jK hp.length base E hp H E' hp' H':=by
    intro he hr
    obtain ⟨ws,as,r1,r2,r4⟩:=ki k2 hr
    refine ⟨0,[.ret (cB ws) s'.hp],?_,.single ⟨_,_,rfl,E',Bb as,st'.hp,st'.aG,r2,k2.h,JN r4,k3⟩⟩
    unfold eA
    rcases he with rfl|rfl <;> simp only [r1,Option.map_some]
   cases e with
   | normal=>exact done (.inl rfl) k1
   | ret=>exact done (.inr rfl) k1
   | _=>exact k1.elim)
 refine ⟨m'+1,M,?_,q2,q3⟩
 show RX T tab (m'+1) (.call f _ H)=_
 rw [yX,nI _ _ hn]
 simp only
 rw [jq,hf]
 simp only [hb]
 rw [dY (eu hm) _ _ _ h1]
 exact q1
end
end Go.RM
namespace Go.RM
open Go
section
variable {T : bw} {tab : List XE} {one : Bool}
end
end Go.RM
namespace Go.RM
open Go
section
variable {T : bw} {tab : List XE} {one : Bool}
def vc (a b:AV):Prop:=∀ (g:aE) (O:Nat→Prop) (u:Value),DR g O a u→DR g O b u
theorem vc.refl (a:AV):vc a a:=fun _ _ _ h=>h
theorem vc.nil (b:Bool):vc (.fl (.slice none 0 0)) (.sl [] b):=fun _ _ u h=>by
 cases h with
 | fl=>exact .nil
theorem vc.full {els:List (List AV)}:vc (.sl els true) (.sl els false):=fun _ _ u h=>by
 cases h with
 | nil=>exact .nil
 | sl q1 q2 q3 q4 q5 q6 q7=>exact .sl q1 q2 q3 q4 q5 q6 (fun h=>Bool.noConfusion h)
def ve:List AV→List AV→Prop
 | [],[]=>True
 | a :: l,b :: m=>vc a b∧ve l m
 | _,_=>False
theorem ve.NH {g:aE} {O:Nat→Prop}:∀ {as bs:List AV} {us:List Value},ve as bs→pU g O as us→pU g O bs us
 | [],[],us,_,h=>h
 | a :: l,b :: m,[],_,h=>absurd h.1 (by simp)
 | a :: l,b :: m,u :: us,hs,h=>by
  have ih:=ve.NH (g:=g) (O:=O) (us:=us) hs.2 ⟨by simpa using h.1,fun i a v x y=>h.2 (i+1) a v (by simpa using x) (by simpa using y)⟩
  refine ⟨by simpa using ih.1,fun i x v hx hv=>?_⟩
  cases i with
  | zero=>cases hx;cases hv;exact hs.1 _ _ _ (h.2 0 a u rfl rfl)
  | succ i=>exact ih.2 i x v (by simpa using hx) (by simpa using hv)
 | [],_ :: _,_,hs,_=>hs.elim
 | _ :: _,[],_,hs,_=>hs.elim
theorem af.soft {F:AV} {args args':List AV} {v:AV} (h:af T tab one F args v) (hs:ve args' args):af T tab one F args' v :=
 ⟨h.1,fun X H u us hw hX hF ha=>h.2 X H u us hw hX hF (hs.NH ha)⟩
end
end Go.RM
namespace Go.RM
open Go
section
variable {T : bw} {tab : List XE} {one : Bool} {base : Nat} {E : Env} {hp : List AB} {aG : bP} {H : Hp}
end
end Go.RM
namespace Go.RM
open Go
theorem wrap_i64 {n:Int} (h0:0≤n) (h1:n < 9223372036854775808):IntKind.wrap .i64 n=n:=by
 have hm:n % 18446744073709551616=n:=Int.emod_eq_of_lt h0 (by omega)
 show (if (true && decide (n % 18446744073709551616 ≥ 9223372036854775808))=true then n % 18446744073709551616 - 18446744073709551616 else n % 18446744073709551616)=n
 rw [hm,if_neg (by simp;omega)]
theorem JO {w m n:Nat} (hm:m < 2 ^ w) (hn:n < 2 ^ w):(BitVec.ofInt w (m:Int) ||| BitVec.ofInt w (n:Int)).toNat=m ||| n:=by
 rw [BitVec.toNat_or,BitVec.ofInt_natCast,BitVec.ofInt_natCast,BitVec.toNat_ofNat,BitVec.toNat_ofNat,Nat.mod_eq_of_lt hm,Nat.mod_eq_of_lt hn]
theorem vg {P:Program} {t:TypeId} {x y:Operand} {m j:Nat} (hj:j < 8):dj P .shr t x y (.int .u8 (m:Int)) (.int .i64 (j:Int))=some (.int .u8 ((m / 2 ^ j:Nat):Int),.none):=by
 have h:dj P .shr t x y (.int .u8 (m:Int)) (.int .i64 (j:Int))=some (.int .u8 ((m:Int).fdiv (2 ^ j)),.none):=by
  match j,hj with
  | 0,_|1,_|2,_|3,_|4,_|5,_|6,_|7,_=>rfl
 rw [h,Int.fdiv_eq_ediv_of_nonneg _ (Int.pow_nonneg (by decide)),Int.natCast_ediv,Int.natCast_pow]
 rfl
theorem vh {P:Program} {t:TypeId} {x y:Operand} {m:Nat}:dj P .rem t x y (.int .u8 (m:Int)) (.int .u8 2)=some (.int .u8 ((m % 2:Nat):Int),.none):=by
 have h:dj P .rem t x y (.int .u8 (m:Int)) (.int .u8 2)=some (.int .u8 ((m:Int).tmod 2),.none):=rfl
 rw [h]
 rfl
section
variable {T : bw} {a b : AV} {t : TypeId} {x y : Operand} {hp : List AB} {K : AV → List AB → Prop}
theorem Bk {m j:Nat} (ha:a=.fl (.int .u8 (m:Int))) (hb:b=.fl (.int .i64 (j:Int))) (hj:j < 8) (h:K (.fl (.int .u8 ((m / 2 ^ j:Nat):Int))) hp):aN T .shr t x y a b hp K:=by
 subst ha hb
 exact ⟨_,_,rfl,rfl,.int .u8 ((m / 2 ^ j:Nat):Int),vg hj,rfl,h⟩
theorem Bl {m:Nat} (ha:a=.fl (.int .u8 (m:Int))) (hb:b=.fl (.int .u8 2)) (h:K (.fl (.int .u8 ((m % 2:Nat):Int))) hp):aN T .rem t x y a b hp K:=by
 subst ha hb
 exact ⟨_,_,rfl,rfl,.int .u8 ((m % 2:Nat):Int),vh,rfl,h⟩
end
end Go.RM
namespace Go.RM
open Go
section
variable {T : bw} {tab : List XE} {one : Bool} {fl base : Nat} {E E' E2 : Env} {hp hp' hp2 : List AB} {aG amb' : bP} {H H' H2 : Hp} {ρ ρ2 : Nat → Nat → Option Nat} {g g2 : aE} {O O2 : Nat → Prop}
end
end Go.RM
namespace Go.RM
open Go
section
variable {T : bw} {tab : List XE} {one : Bool} {base : Nat} {E : Env} {hp : List AB} {aG : bP} {H : Hp}
inductive Fq (hp:List AB):AV→AV→Prop
 | fz {a v:AV}:Fz hp a v→Fq hp a v
 | ptr {j aC o es:Nat} {cs:List AV}:hp[j]?=some (.cells cs es aC)→cK cs=true→Fq hp (.ptr j aC o) (.pt cs o)
 | fn {f:FuncId} {a b x y:List AV}:a.length=x.length→b.length=y.length→(∀ (i:Nat) (u v:AV),a[i]?=some u→x[i]?=some v→Fq hp u v)→(∀ (i:Nat) (u v:AV),b[i]?=some u→y[i]?=some v→Fq hp u v)→Fq hp (.fn f a b) (.fn f x y)
theorem AR.JP {ρ:Nat→Nat→Option Nat} {g:aE} {O:Nat→Prop} {f:FuncId} {a b:List AV} {u:Value} (h:AR ρ g O (.fn f a b) u):∃ a' b',u=.func (.func f) a' b'∧fh ρ g O a a'.toList∧fh ρ g O b b'.toList:=by
 cases h with
 | d h=>cases h with
  | fn ha hb h1 h2=>exact ⟨_,_,rfl,⟨ha,fun i x u hx hu=>.d (h1 i x u hx hu)⟩,⟨hb,fun i x u hx hu=>.d (h2 i x u hx hu)⟩⟩
 | fn ha hb h1 h2=>exact ⟨_,_,rfl,⟨ha,h1⟩,⟨hb,h2⟩⟩
theorem Fq.dr {X:Nat→Prop} (h:aK E base hp aG H) (hX:∀ k,X k→E.X k) {r v:AV} (hf:Fq hp r v):∀ {u:Value},AR E.ρ H.get (E.O hp) r u→DR H.get X v u:=by
 have weak:∀ {v:AV} {u:Value},DR H.get (E.O hp) v u→DR H.get X v u:=fun h=>h.mono fun k b hk ho=>⟨hk,fun hx=>ho (.inr (hX k hx))⟩
 induction hf with
 | fz hz=>intro u ha;exact hz.dr h hX ha
 | ptr h1 hd =>
  rename_i j aC o es cs
  intro u ha
  obtain ⟨k,hk,rfl⟩:=ha.cE
  obtain ⟨cs',q1,q2⟩:=h.cells h1 hk
  have hok:Own E.ρ hp k:=⟨j,_,aC,h1,rfl,hk⟩
  have hnx:¬ X k:=fun hx=>h.iu k hok (hX k hx)
  have:=DR.pt (g:=H.get) (O:=X) (l:=cs) (k:=k) (d:=0) (o:=o) (cs:=cs') q1 hnx (by rw [Nat.zero_add,q2.1];exact Nat.le_refl _) (fun i a u hx hu=>by
   rw [Nat.zero_add] at hu
   exact weak ((q2.2 i a u hx hu).deep (gh hd i a hx)))
  rw [Nat.zero_add] at this
  exact this
 | @fn f a b x y h1 h2 _ _ ih1 ih2 =>
  intro u ha
  obtain ⟨a',b',rfl,p1,p2⟩:=ha.JP
  refine .fn (by rw [←h1];exact p1.1) (by rw [←h2];exact p2.1) (fun i v w hv hw=>?_) (fun i v w hv hw=>?_)
  ·have hi:i < a.length:=by rw [h1];exact (List.getElem?_eq_some_iff.1 hv).1
   have hai:a[i]?=some a[i]:=List.getElem?_eq_getElem hi
   exact ih1 i _ v hai hv (p1.2 i _ w hai hw)
  ·have hi:i < b.length:=by rw [h2];exact (List.getElem?_eq_some_iff.1 hv).1
   have hai:b[i]?=some b[i]:=List.getElem?_eq_getElem hi
   exact ih2 i _ v hai hv (p2.2 i _ w hai hw)
def gI (hp:List AB):List AV→List AV→Prop
 | [],[]=>True
 | r :: rs,v :: vs=>Fq hp r v∧gI hp rs vs
 | _,_=>False
theorem gI.dr {X:Nat→Prop} (h:aK E base hp aG H) (hX:∀ k,X k→E.X k):∀ {rs vs:List AV} {us:List Value},gI hp rs vs→fh E.ρ H.get (E.O hp) rs us→pU H.get X vs us
 | [],[],us,_,ha=>⟨ha.1,fun i a u hx=>by cases hx⟩
 | r :: rs,v :: vs,[],_,ha=>absurd ha.1 (by simp)
 | r :: rs,v :: vs,u :: us,hf,ha=>by
  have:=gI.dr h hX hf.2 (us:=us) ⟨by simpa using ha.1,fun i a u x y=>ha.2 (i+1) a u (by simpa using x) (by simpa using y)⟩
  refine ⟨by simp [this.1],fun i a w hx hw=>?_⟩
  cases i with
  | zero=>cases hx;cases hw;exact hf.1.dr h hX (ha.2 0 r u rfl rfl)
  | succ i=>exact this.2 i a w (by simpa using hx) (by simpa using hw)
 | [],_ :: _,_,hf,_=>hf.elim
 | _ :: _,[],_,hf,_=>by simp [gI] at hf
theorem gI.NI {f:FuncId} {a b x y:List AV} (h1:gI hp a x) (h2:gI hp b y):Fq hp (.fn f a b) (.fn f x y):=by
 have key:∀ {a x:List AV},gI hp a x→a.length=x.length∧∀ (i:Nat) (u v:AV),a[i]?=some u→x[i]?=some v→Fq hp u v:=by
  intro a
  induction a with
  | nil =>
   intro x h
   cases x with
   | nil=>exact ⟨rfl,fun i u v hu=>by cases hu⟩
   | cons=>exact h.elim
  | cons r rs ih =>
   intro x h
   cases x with
   | nil=>simp [gI] at h
   | cons v vs =>
    obtain ⟨l,k⟩:=ih h.2
    refine ⟨by simp [l],fun i u w hu hw=>?_⟩
    cases i with
    | zero=>cases hu;cases hw;exact h.1
    | succ i=>exact k i u w (by simpa using hu) (by simpa using hw)
 exact .fn (key h1).1 (key h2).1 (key h1).2 (key h2).2
theorem af.xL {F F':AV} {args vs:List AV} {v:AV} (h:af T tab one F' vs v) (hF:Fq hp F F') (hz:gI hp args vs) (hfree:gz v) {Q:AV→List AB→bP→Prop} (hq:Q v hp aG):aj T tab one F args hp aG Q:=by
 intro E base H u us hr hf ha
 obtain ⟨hd,h⟩:=h
 obtain ⟨goal,hg,m,L,h1,h2,h3⟩:=h E.X H u us hr.wf (fun k hk=>hr.xn k hk) (hF.dr hr (fun _ h=>h) hf) (hz.dr hr (fun _ h=>h) ha)
 refine ⟨goal,hg,m,L,h1,h2,fun r hm=>?_⟩
 obtain ⟨w,H',rfl,hn,hwf,hsame,hlo,hv⟩:=h3 r hm
 have e:Ext base E hp H E hp H':=⟨hn,rfl,rfl,rfl,fun _ _ _ h=>h,fun _ h=>.inl h,fun k hk _=>hsame k hk,by have:=hr.bn;omega⟩
 refine ⟨w,H',rfl,E,v,hp,aG,hq,⟨hwf,fun j x aC hj hvx=>?_,hr.inj,fun j v k hk=>Nat.lt_of_lt_of_le (hr.rn j v k hk) hn,hr.fresh,hr.new,hr.sup,hr.iu,hr.dx,hr.ds,fun k hk=>Nat.lt_of_lt_of_le (hr.sn k hk) hn,fun k hk=>Nat.lt_of_lt_of_le (hr.xn k hk) hn,hr.od,Nat.le_trans hr.bn hn,aG.st hr.aG (fun k hk=>hsame k (hr.sn k hk)) hn⟩,.d (hfree.2 _ _ _ _ hv),e.Jq⟩
 rcases hr.fE j x aC hj hvx with ⟨k,b',q1,q2,q3⟩|q
 ·exact .inl ⟨k,b',q1,by rw [hsame k (hr.wf.lt q2)];exact q2,e.br hr.wf q3⟩
 ·exact .inr q
theorem gI.nil:gI hp [] []:=trivial
theorem gI.cons {a x:AV} {as xs:List AV} (h:Fq hp a x) (k:gI hp as xs):gI hp (a :: as) (x :: xs):=⟨h,k⟩
theorem Fq.deep {v:AV} (h:v.deep=true):Fq hp v v:=.fz (.deep h)
end
end Go.RM
namespace Go.RM
open Go
section
variable {T : bw} {tab : List XE} {one : Bool} {mu : Tmp → Bool} {dst : Option Tmp} {fr : Nat → AV} {hp : List AB} {aG : bP} {rd : Bool} {fl : Nat} {KS : bG → Prop}
theorem om {r:Operand} {name:String} {l:List Operand} {tys} {F:AV} (hF:DN T.P (aP fr r) name=F) (h:force F fun F=>eG (l.map (aP fr)) fun as=>aj T tab one F as hp aG fun v hp' amb'=>gk dst fr v fun fr'=>KS ⟨fr',hp',amb',rd,fl⟩) :
  qd T tab one mu dst (.call ⟨.invoke r name,l.toArray,tys⟩) fr hp aG rd fl KS:=by
 subst hF
 exact h
end
end Go.RM
namespace Go.RM
open Go
section
variable {T : bw} {tab : List XE} {one : Bool} {mu : Tmp → Bool} {KE : Exit → bG → Prop} {st : bG}
theorem xM {l:List Oper} (hd:l.any s9=false):fC l.toArray=l.length:=by
 unfold fC
 have:l.findIdx? s9=none:=by
  rw [List.findIdx?_eq_none_iff]
  intro x hx
  rw [List.any_eq_false] at hd
  simpa using hd x hx
 simp only [this]
theorem P0 {id:Nat} {l:List Oper} (hd:l.any s9=false) (h:iD T tab mu l.toArray l 0 (fun _=>0) [] st (KE .normal)):mD T tab one mu (.region id l.toArray true) st KE:=by
 refine c5 (xM hd) rfl rfl ?_
 rw [List.take_length,List.drop_length]
 exact h
end
end Go.RM
namespace Go.RM
open Go
section
variable {T : bw} {tab : List XE} {one : Bool} {mu : Tmp → Bool} {own : Bool} {fr : Nat → AV} {hp : List AB} {K : AV → List AB → Prop} {t : TypeId} {und : TypeDesc} {s by' : Nat} {z : Option Value} {agg : Bool} {bQ : List (Nat × Nat)} {cg : Nat}
theorem P1 {a:Operand} {cs:List AV} {o:Nat} (ha:aP fr a=.pt cs o) (ht:T.ty.get t=some ⟨und,s,by',z,true,bQ,cg⟩) (hl:Nat.ble (o+s) cs.length=true) (h:K (.ag ((cs.drop o).take s)) hp):wpOp T own (.load t a) fr hp K:=by
 show dZ T t (aP fr a) hp K
 unfold dZ
 simp only [ha,ht]
 exact ⟨Nat.le_of_ble_eq_true hl,h⟩
theorem P3 {a:Operand} {cs:List AV} {o:Nat} {v:AV} (ha:aP fr a=.pt cs o) (ht:T.ty.get t=some ⟨und,s,by',z,false,bQ,cg⟩) (hv:cs[o]?=some v) (h:K v hp):wpOp T own (.load t a) fr hp K:=by
 show dZ T t (aP fr a) hp K
 unfold dZ
 simp only [ha,ht]
 exact ⟨v,hv,h⟩
theorem P4 {a:Operand} {j aC o es:Nat} {cs:List AV} (ha:aP fr a=.ptr j aC o) (ht:T.ty.get t=some ⟨und,s,by',z,true,bQ,cg⟩) (hj:hp[j]?=some (.cells cs es aC)) (hl:Nat.ble (o+s) cs.length=true) (h:K (.ag ((cs.drop o).take s)) hp):wpOp T own (.load t a) fr hp K:=by
 show dZ T t (aP fr a) hp K
 unfold dZ
 simp only [ha,ht]
 exact ⟨cs,es,hj,Nat.le_of_ble_eq_true hl,h⟩
theorem Pp {a:Operand} {j aC o es:Nat} {cs:List AV} {v:AV} (ha:aP fr a=.ptr j aC o) (ht:T.ty.get t=some ⟨und,s,by',z,false,bQ,cg⟩) (hj:hp[j]?=some (.cells cs es aC)) (hv:cs[o]?=some v) (h:K v hp):wpOp T own (.load t a) fr hp K:=by
 show dZ T t (aP fr a) hp K
 unfold dZ
 simp only [ha,ht]
 exact ⟨cs,es,hj,v,hv,h⟩
theorem P5 {a:Operand} {i:Nat} {cs:List AV} {o off sz:Nat} {fs} (ha:aP fr a=.pt cs o) (ht:T.ty.get t=some ⟨.struct fs,s,by',z,agg,bQ,cg⟩) (hf:bQ[i]?=some (off,sz)) (h1:Nat.ble 1 sz=true) (h:K (.pt cs (o+off)) hp):wpOp T own (.fieldAddr t a i) fr hp K:=by
 show iW T t (aP fr a) i hp K
 unfold iW
 simp only [ha,ht]
 exact ⟨off,sz,hf,Nat.le_of_ble_eq_true h1,h⟩
theorem P6 {a:Operand} {i:Nat} {j aC o off sz:Nat} {fs} (ha:aP fr a=.ptr j aC o) (ht:T.ty.get t=some ⟨.struct fs,s,by',z,agg,bQ,cg⟩) (hf:bQ[i]?=some (off,sz)) (h1:Nat.ble 1 sz=true) (h:K (.ptr j aC (o+off)) hp):wpOp T own (.fieldAddr t a i) fr hp K:=by
 show iW T t (aP fr a) i hp K
 unfold iW
 simp only [ha,ht]
 exact ⟨off,sz,hf,Nat.le_of_ble_eq_true h1,h⟩
theorem P7 {v:Value} (ht:T.ty.get t=some ⟨und,s,by',some v,agg,bQ,cg⟩) (h1:v.cells.toList.all aM=true) (h:K (.ptr hp.length 0 0) (hp++[.cells (v.cells.toList.map .fl) 0 0])):wpOp T own (.alloc t) fr hp K:=by
 show pW T t hp K
 unfold pW
 simp only [ht]
 exact ⟨h1,h⟩
theorem PC {x:Operand} (h:force (aP fr x) fun v=>xC own v hp K):wpOp T own (.box t x) fr hp K:=h
theorem P8 {v:AV} (ho:own=false) (h1:v.jx=true) (h2:v.cells.all AV.one=true) (h3:cK v.cells=true) (h:K (.pt v.cells 0) hp):xC own v hp K:=by
 subst ho
 exact ⟨h1,h2,h3,h⟩
theorem P9 {v:AV} (ho:own=true) (h1:v.jx=true) (h2:v.cells.all AV.one=true) (h:K (.ptr hp.length 0 0) (hp++[.cells v.cells 0 0])):xC own v hp K:=by
 subst ho
 exact ⟨h1,h2,h⟩
theorem M7 {a x:Operand} (h:force (aP fr x) fun v=>cM T t (aP fr a) v hp K):wpOp T own (.store t a x) fr hp K:=h
theorem NJ {a v:AV} {j aC o es:Nat} {cs:List AV} (ha:a=.ptr j aC o) (ht:T.ty.get t=some ⟨und,s,by',z,agg,bQ,cg⟩) (hj:hp[j]?=some (.cells cs es aC)) (h1:v.jx=true) (h2:v.cells.all AV.one=true) (h3:v.cells.length=s) (h4:Nat.ble (o+s) cs.length=true) (h:K .bJ (hp.set j (.cells (j7 cs v.cells o) es aC))):cM T t a v hp K:=by
 unfold cM
 simp only [ha,ht]
 exact ⟨cs,es,hj,h1,h2,h3,Nat.le_of_ble_eq_true h4,h⟩
theorem M8 {l:List (Nat × Operand)} (h:jA (l.map fun p=>(p.1,aP fr p.2)) fun ps=>lS T t ps hp K):wpOp T own (.build t l.toArray) fr hp K:=h
theorem JQ {l:List (Nat × Operand)} {len:Nat} (h:jA (l.map fun p=>(p.1,aP fr p.2)) fun ps=>cU T own t len ps hp K):wpOp T own (.buildSlice t len l.toArray) fr hp K:=h
theorem Qa {P:List (Nat × AV)→Prop} (h:P []):jA (([]:List (Nat × Operand)).map fun p=>(p.1,aP fr p.2)) P:=h
theorem Qb {i:Nat} {x:Operand} {l:List (Nat × Operand)} {P:List (Nat × AV)→Prop} (h:force (aP fr x) fun a=>jA (l.map fun p=>(p.1,aP fr p.2)) fun l=>P ((i,a) :: l)):jA (((i,x) :: l).map fun p=>(p.1,aP fr p.2)) P:=h
theorem Pv {v:Value} {parts:List (Nat × AV)} {cs:List AV} (ht:T.ty.get t=some ⟨und,s,by',some v,true,bQ,cg⟩) (h1:v.cells.toList.all aM=true) (h2:A3 (fQ und bQ cg) (v.cells.toList.map .fl) parts=some cs) (h:K (.ag cs) hp):lS T t parts hp K:=by
 unfold lS
 simp only [ht]
 exact ⟨h1,cs,h2,h⟩
theorem Qc {len:Nat} {parts:List (Nat × AV)} {inf:vS} (ho:own=false) (hi:elem? T t=some inf) (h1:Nat.ble (len * inf.size) 65536=true) (h2:bq inf=true) (h3:j9 inf.size 0 parts=true) (h4:Nat.beq parts.length len=true) (h5:cK (parts.map (·.2.cells)).flatten=true) (h:K (.sl (parts.map (·.2.cells)) true) hp):cU T own t len parts hp K:=by
 subst ho
 unfold cU
 simp only [hi]
 exact ⟨h1,h2,h3,h4,h5,h⟩
theorem Qd {len:Nat} {parts:List (Nat × AV)} {inf:vS} (ho:own=true) (hi:elem? T t=some inf) (h1:Nat.ble (len * inf.size) 65536=true) (h2:bq inf=true) (h3:j9 inf.size 0 parts=true) (h4:Nat.beq parts.length len=true) (h:K (.dc hp.length 0 0 len len) (hp++[.cells (parts.map (·.2.cells)).flatten inf.size 0])):cU T own t len parts hp K:=by
 subst ho
 unfold cU
 simp only [hi]
 exact ⟨h1,h2,h3,h4,h⟩
theorem Qe {x:Operand} {i:Nat} {vs:List AV} {v:AV} (ha:aP fr x=.tp vs) (hv:vs[i]?=some v) (h:K v hp):wpOp T own (.extract x i) fr hp K:=by
 show jc (aP fr x) i hp K
 rw [ha]
 exact ⟨v,hv,h⟩
theorem PS {a x:Operand} {e:TypeId} {els:List (List AV)} {f:Bool} {j:Int} {el:List AV} (ha:aP fr a=.sl els f) (hx:aP fr x=.fl (.int .i64 j)) (ht:T.ty.get t=some ⟨.slice e,s,by',z,agg,bQ,cg⟩) (hat:els[j.toNat]?=some el) (h0:0≤j) (hl:el.length=cg) (h:K (.pt el 0) hp):wpOp T own (.indexAddr t a x) fr hp K:=by
 show bZ T t (aP fr a) (aP fr x) hp K
 rw [ha,hx]
 unfold bZ
 simp only [asInt,ht]
 exact ⟨el,⟨h0,hat⟩,hl,h⟩
theorem Qf {a x:Operand} {e:TypeId} {i aC o n c:Nat} {j:Int} (ha:aP fr a=.dc i aC o n c) (hx:aP fr x=.fl (.int .i64 j)) (ht:T.ty.get t=some ⟨.slice e,s,by',z,agg,bQ,cg⟩) (h0:0≤j∧j < (n:Int)) (h:K (.ptr i aC (o+j.toNat * cg)) hp):wpOp T own (.indexAddr t a x) fr hp K:=by
 show bZ T t (aP fr a) (aP fr x) hp K
 rw [ha,hx]
 unfold bZ
 simp only [asInt,ht]
 exact ⟨h0,h⟩
theorem Qg {a x:Operand} {e:TypeId} {len:Nat} {cs:List AV} {o:Nat} {j:Int} (ha:aP fr a=.pt cs o) (hx:aP fr x=.fl (.int .i64 j)) (ht:T.ty.get t=some ⟨.array len e,s,by',z,agg,bQ,cg⟩) (h0:0≤j∧j < (len:Int)) (h:K (.pt cs (o+j.toNat * cg)) hp):wpOp T own (.indexAddr t a x) fr hp K:=by
 show bZ T t (aP fr a) (aP fr x) hp K
 rw [ha,hx]
 unfold bZ
 simp only [asInt,ht]
 exact ⟨h0,h⟩
theorem Qh {a x:Operand} {e:TypeId} {len:Nat} {i aC o:Nat} {j:Int} (ha:aP fr a=.ptr i aC o) (hx:aP fr x=.fl (.int .i64 j)) (ht:T.ty.get t=some ⟨.array len e,s,by',z,agg,bQ,cg⟩) (h0:0≤j∧j < (len:Int)) (h:K (.ptr i aC (o+j.toNat * cg)) hp):wpOp T own (.indexAddr t a x) fr hp K:=by
 show bZ T t (aP fr a) (aP fr x) hp K
 rw [ha,hx]
 unfold bZ
 simp only [asInt,ht]
 exact ⟨h0,h⟩
end
end Go.RM
namespace Go.RM
open Go
section
variable {T : bw} {own : Bool} {fr : Nat → AV} {hp : List AB} {K : AV → List AB → Prop} {t : TypeId}
theorem Qi {l c:Operand} {n:Nat} {inf:vS} (hi:elem? T t=some inf) (hl:aP fr l=.fl (.int .i64 (Int.ofNat n))) (hc:aP fr c=.fl (.int .i64 (Int.ofNat n))) (hb:inf.bytes * n≤140737488355328∧n≤9223372036854775807) (hz:bq inf=true) (h:K (.dc hp.length 0 0 n n) (hp++[.cells ((bE (zeroCells inf) (n * inf.size)).map .fl) inf.size 0])):wpOp T own (.makeSlice t l c) fr hp K:=by
 show uL T t (aP fr l) (aP fr c) hp K
 unfold uL
 simp only [hi,hl,hc]
 refine ⟨n,n,rfl,rfl,⟨Nat.le_refl _,hb⟩,hz,?_⟩
 rw [show Nat.beq n n=true from Nat.beq_refl n]
 exact h
end
end Go.RM
namespace Go.RM
open Go
section
variable {T : bw} {own : Bool} {fr : Nat → AV} {hp : List AB} {K : AV → List AB → Prop} {s x : Operand} {t u e : TypeId} {a1 a2 a3 a4 a5 a6} {els : List (List AV)} {f : Bool} {inf : vS}
end
end Go.RM
namespace Go.RM
open Go
theorem Bm {w m n:Nat} (hm:m < 2 ^ w) (hn:n < 2 ^ w):(BitVec.ofInt w (m:Int) &&& BitVec.ofInt w (n:Int)).toNat=m &&& n:=by
 rw [BitVec.toNat_and,BitVec.ofInt_natCast,BitVec.ofInt_natCast,BitVec.toNat_ofNat,BitVec.toNat_ofNat,Nat.mod_eq_of_lt hm,Nat.mod_eq_of_lt hn]
end Go.RM
namespace Go.RM
open Go
section
variable {T : bw} {tab : List XE} {one : Bool} {fl base : Nat} {E E' E2 : Env} {hp hp' hp2 : List AB} {aG amb' : bP} {H H' H2 : Hp} {ρ ρ2 : Nat → Nat → Option Nat} {g g2 : aE} {O O2 : Nat → Prop}
abbrev DW (T:bw) (tab:List XE) (base:Nat) (ops:Array Oper) (c:Nat) (K:bG→Prop) (l:List Oper) (i:Nat) (evs:List Ev) (st:bG) (tr:Nat→cC) (s:St):Prop :=
 ∃ m L,dS T (RX T tab m) ops l (oV T (RX T tab m) ops c) i s evs=some L∧∀ s' ∈ L,∃ E' st',K st'∧st'.fl=st.fl∧mB E' base st' s'∧jK st.fl base (tr 0).E (tr 0).hp (tr 0).H E' st'.hp s'.hp
theorem CH {mu:Tmp→Bool} {ops:Array Oper} {o:Oper} {l:List Oper} {i:Nat} {bt:Nat→Nat} {acc:List jM} {evs:List Ev} {st:bG} {K:bG→Prop} {tr:Nat→cC} {s:St} {c:Nat} {X:List Oper→Nat→(Nat→Nat)→List jM→bG→Prop}
  (hX:∀ {bt:Nat→Nat} {acc:List jM} {evs:List Ev} {st:bG} {tr:Nat→cC} {s:St},X l (i+1) bt acc st→mZ base st.aG tr (i+1)→(tr (i+1)).hp=st.hp→(tr (i+1)).H=s.hp→s.rd=st.rd→fM tr (i+1) bt st.fr s.fr→nS tr (i+1) acc evs→DW T tab base ops c K l (i+1) evs st tr s)
  (h:ct ops.toList o.guard st.fr (eL T tab mu o.dst o.op i bt st.fr st.hp fun fr' hp' bt' x=>X l (i+1) bt' (x :: acc) ⟨fr',hp',st.aG,st.rd,st.fl⟩)
   (gk o.dst st.fr (.tp []) fun fr'=>X l (i+1) (kI o.dst bt 0) (⟨i,[],false,false⟩ :: acc) ⟨fr',st.hp,st.aG,st.rd,st.fl⟩))
  (ht:mZ base st.aG tr i) (h1:(tr i).hp=st.hp) (h2:(tr i).H=s.hp) (h3:s.rd=st.rd) (hb:fM tr i bt st.fr s.fr) (he:nS tr i acc evs):DW T tab base ops c K (o :: l) i evs st tr s:=by
 have hrel:=ht.rel i (Nat.le_refl _)
 have hfr:jL (tr i).E.ρ (tr i).H.get ((tr i).E.O (tr i).hp) st.fr s.fr:=fun t=>(ht.ext _ i (hb t).1 (Nat.le_refl _)).ar (ht.rel _ (hb t).1).wf (hb t).2
 have hz0:(snoc tr i (tr i) 0)=tr 0:=aV (Nat.zero_le _)
 rcases mX hfr h with ⟨hg,h⟩|⟨hg,h⟩
 ·
  have go:∀ (z:cC) (v:AV) (u:Value) (b:Nat) (x:jM) (t:Tc) (m0:Nat),aK z.E base z.hp st.aG z.H→Ext base (tr i).E (tr i).hp (tr i).H z.E z.hp z.H→b≤i+1→(snoc tr i z b).ar v u→x.i=i→H9 (snoc tr i z) x t →
    (∀ m,m0≤m→aY T (RX T tab m) o.op i s=some (u,z.H,t))→X l (i+1) (kI o.dst bt b) (x :: acc) ⟨wO st.fr o.dst v,z.hp,st.aG,st.rd,st.fl⟩ →
    DW T tab base ops c K (o :: l) i evs st tr s:=by
   intro z v u b x t m0 hz he' hbi hv hxi hx hd hw
   obtain ⟨m,L,r1,r2⟩:=hX (s:=⟨ek s.fr o.dst u,z.H,s.rd⟩) (evs:=⟨o,s,u,z.H,t⟩ :: evs) hw (ht.snoc hz he') (by rw [aW (Nat.lt_succ_self _)]) (by rw [aW (Nat.lt_succ_self _)]) h3 (hb.put hbi hv o.dst) (.cons (he.snoc (Nat.le_refl _)) hxi hx)
   rw [aV (Nat.zero_le _)] at r2
   refine ⟨max m0 m,L,?_,r2⟩
   rw [dX,hg]
   simp only [cond_true,hd _ (Nat.le_max_left _ _)]
   exact lQ (eu (Nat.le_max_right m0 m)) ops (fun _ _ _=>AU (eu (Nat.le_max_right m0 m))) _ _ _ _ _ r1
  unfold eL at h
  split at h
  ·rename_i f args hk
   have h:=ee (bK h)
   obtain ⟨hF,vs,v,hhand,⟨hvd,hpure⟩,h⟩:=h
   have hF':=(uP hfr f).deep hF
   have hget:({s.hp with lo:=s.hp.n}:Hp).get=(tr i).H.get:=by rw [h2];rfl
   obtain ⟨goal,hgo,m0,L,q1,q2,q3⟩:∃ goal,cA (jQ T.P s.fr f) (args.map (aS s.fr))=some goal ∧
     ∃ m L,RX T tab m (gK {s.hp with lo:=s.hp.n} goal)=some L∧(true=true→∃ r,L=[r])∧∀ r ∈ L,∃ w H',r=.ret w H' ∧
      ({s.hp with lo:=s.hp.n}:Hp).n≤H'.n∧Wf H'∧(∀ k,k < ({s.hp with lo:=s.hp.n}:Hp).n→H'.get k=({s.hp with lo:=s.hp.n}:Hp).get k)∧min ({s.hp with lo:=s.hp.n}:Hp).lo ({s.hp with lo:=s.hp.n}:Hp).n≤H'.lo∧DR H'.get ((tr i).E.O (tr i).hp) v w:=by
    rcases hhand with ⟨rfl,hA⟩|⟨hz,hfree⟩
    ·have hA':=(dK hfr args).deep hA
     exact hpure ((tr i).E.O (tr i).hp) {s.hp with lo:=s.hp.n} _ _ (by rw [h2] at hrel;exact hrel.wf) (fun k hk=>by
      have:k < (tr i).H.n:=hk.elim (fun h=>hrel.jy h) (hrel.xn k)
      rw [h2] at this;exact this) (by rw [hget];exact hF') (by rw [hget];exact hA')
    ·obtain ⟨goal,hgo,m0,L,q1,q2,q3⟩:=hpure (tr i).E.X {s.hp with lo:=s.hp.n} _ _ (by rw [h2] at hrel;exact hrel.wf) (fun k hk=>by
      have:k < (tr i).H.n:=hrel.xn k hk
      rw [h2] at this;exact this) (by rw [hget];exact hF'.mono fun k b hk ho=>⟨hk,fun hx=>ho (.inr hx)⟩) (by
       rw [hget]
       rw [←h1] at hz
       exact hz.dr hrel (fun _ h=>h) (dK hfr args))
     refine ⟨goal,hgo,m0,L,q1,q2,fun r hm=>?_⟩
     obtain ⟨w,H',e1,e2,e3,e4,e5,e6⟩:=q3 r hm
     exact ⟨w,H',e1,e2,e3,e4,e5,hfree.2 _ _ _ _ e6⟩
   obtain ⟨r,hr⟩:=q2 rfl
   subst hr
   obtain ⟨w,H',rfl,hn,hwf,hsame,hlo,hdr⟩:=q3 r (by simp)
   obtain ⟨g1,g2⟩:=hrel.grow (H':={H' with lo:=s.hp.lo}) (by rw [h2];exact hn) hwf (fun k hk=>by
    have:=hsame k (by rw [←h2];exact hk)
    rw [h2];exact this) (by rw [h2];exact Nat.min_le_left _ _)
   refine go ⟨(tr i).E,st.hp,{H' with lo:=s.hp.lo}⟩ v w (i+1) ⟨i,[],true,true⟩ ⟨i,[],[],true,s.hp.n,H'.n⟩ m0 (by rw [←h1];exact g1) (by rw [←h1];exact g2) (Nat.le_refl _) ?_ rfl ?_ (fun m hm=>?_) (dL h)
   ·rw [aW (Nat.lt_succ_self _)]
    refine .d ?_
    show DR H'.get ((tr i).E.O st.hp) v w
    rw [←h1];exact hdr
   ·refine ⟨rfl,by rw [aV (Nat.le_refl _),h2],by rw [aW (Nat.lt_succ_self _)],fun h=>Bool.noConfusion h,rfl,fun k hk=>(by cases hk),fun k hk=>(by cases hk)⟩
   ·unfold aY
    simp only [hk,hgo,eu hm _ _ q1]
    have:Nat.ble s.hp.n H'.lo=true:=Nat.ble_eq_true_of_le (by
     have:min s.hp.n s.hp.n≤H'.lo:=hlo
     omega)
    rw [nC this]
  ·exact h.elim
  ·rename_i hk
   obtain ⟨a,hacc,hw⟩:=h
   have hw':=hw
   rw [←h1] at hw'
   obtain ⟨r,w,ht1,ht2,ht3⟩:=sQ ht hb hacc hw'
   have evr:∀ (z:cC) (u:Value) (e:bL),iJ T s.hp.n o.op (aS s.fr) s.hp.get=some (u,e)→z.H=s.hp.app e→H9 (snoc tr i z) ⟨i,a,news? o.op,false⟩ ⟨i,r,w,false,s.hp.n,(s.hp.app e).n⟩:=by
    intro z u e hop hz
    refine ⟨rfl,by rw [aV (Nat.le_refl _),h2],by rw [aW (Nat.lt_succ_self _),hz],fun hal _=>(rm (uU hop hal)).symm,rfl,fun k hk=>?_,fun k hk=>?_⟩
    ·obtain ⟨p,p1,p2,p3⟩:=ht2 k hk;exact ⟨p,p1,p2,p3.snoc (Nat.le_refl _)⟩
    ·obtain ⟨p,p1,p2,p3⟩:=ht3 k hk;exact ⟨p,p1,p2,p3.snoc (Nat.le_refl _)⟩
   have drw:∀ (u:Value) (e:bL) (m:Nat),iJ T s.hp.n o.op (aS s.fr) s.hp.get=some (u,e)→aY T (RX T tab m) o.op i s=some (u,s.hp.app e,⟨i,r,w,false,s.hp.n,(s.hp.app e).n⟩):=by
    intro u e m hop
    unfold aY
    simp only [hk,ht1,hop]
   by_cases hm:∃ x,xG o.op st.fr=some [x]
   ·obtain ⟨x,hm⟩:=hm
    have hbirth:kj o.op st.fr bt i=rj bt x:=by unfold kj;rw [hm]
    have hbx:=hb.eval x
    have eb:=ht.ext _ i hbx.1 (Nat.le_refl _)
    obtain ⟨u,v,r1,r2,r3,r4⟩:=uT (ρ2:=(tr (rj bt x)).E.ρ) (g2:=(tr (rj bt x)).H.get) (O2:=(tr (rj bt x)).E.O (tr (rj bt x)).hp) (n:=s.hp.n) hfr hm (fun y hy=>by
     obtain rfl:=List.mem_singleton.1 hy;exact hbx.2) (fun k b hk ho=>(eb.keep (ht.rel _ hbx.1).wf k b hk ho).1) hw
    rw [h2] at r1
    have hz:(tr i).H=s.hp.app .none:=h2
    rw [hbirth] at r2
    refine go (tr i) v u (rj bt x) ⟨i,a,news? o.op,false⟩ ⟨i,r,w,false,s.hp.n,(s.hp.app .none).n⟩ 0 hrel .refl (by omega) (by rw [aV hbx.1];exact r4) rfl (evr _ u .none r1 hz) (fun m _=>by rw [hz];exact drw u .none m r1) (by rw [h1];exact dL (bK r2))
   ·have hbirth:kj o.op st.fr bt i=i+1:=by
     unfold kj
     split
     ·rename_i x hx;exact absurd ⟨x,hx⟩ hm
     ·rfl
    obtain ⟨u,e,E',v,hp',r1,r2,r3,r4,r5⟩:=lU hrel hfr hw'
    rw [h2] at r1 r3 r4 r5
    rw [hbirth] at r2
    refine go ⟨E',hp',s.hp.app e⟩ v u (i+1) ⟨i,a,news? o.op,false⟩ ⟨i,r,w,false,s.hp.n,(s.hp.app e).n⟩ 0 r3 (by rw [h2];exact r4) (Nat.le_refl _) (by rw [aW (Nat.lt_succ_self _)];exact r5) rfl (evr _ u e r1 rfl) (fun m _=>drw u e m r1) (dL (bK r2))
 ·obtain ⟨m,L,r1,r2⟩:=hX (s:=⟨ek s.fr o.dst undef,s.hp,s.rd⟩) (evs:=⟨o,s,undef,s.hp,⟨i,[],[],false,s.hp.n,s.hp.n⟩⟩ :: evs) (dL h) (ht.snoc (z:=tr i) hrel .refl) (by rw [aW (Nat.lt_succ_self _)];exact h1) (by rw [aW (Nat.lt_succ_self _)];exact h2) h3
   (hb.put (Nat.zero_le _) qc o.dst) (.cons (he.snoc (Nat.le_refl _)) rfl ⟨rfl,by rw [aV (Nat.le_refl _),h2],by rw [aW (Nat.lt_succ_self _),h2],fun _ _=>rfl,rfl,fun k hk=>(by cases hk),fun k hk=>(by cases hk)⟩)
  rw [hz0] at r2
  refine ⟨m,L,?_,r2⟩
  rw [dX,hg]
  exact r1
def OV (T:bw) (tab:List XE) (mu:Tmp→Bool) (ops:Array Oper) (c:Nat) (K:bG→Prop) (acc:List jM) (st:bG):Prop :=
 match ops.toList[c]? with
 | some o=>match dO o.op with
  | .call f args=>ct ops.toList o.guard st.fr (force (Po T.P st.fr f) fun F=>eG (args.map (aP st.fr)) fun as=>F.deep=true∧∃ vs v,Handed st.hp as vs v∧af T tab false F vs v∧nJ (sw ops) (⟨c,[],true,true⟩ :: acc)=true ∧
   gk o.dst st.fr v fun fr'=>wpOps T tab false mu ops.toList (ops.toList.drop (c+1)) ⟨fr',st.hp,st.aG,st.rd,st.fl⟩ K) False
  | _=>False
 | none=>False
def kn (T:bw) (tab:List XE) (mu:Tmp→Bool) (ops:Array Oper) (c:Nat) (K:bG→Prop):List Oper→Nat→(Nat→Nat)→List jM→bG→Prop
 | [],i,_,acc,st=>i=c∧OV T tab mu ops c K acc st
 | ⟨dst,op,_,_,_,gd⟩ :: l,i,bt,acc,⟨fr,hp,aG,rd,fl⟩ =>
  ct ops.toList gd fr (eL T tab mu dst op i bt fr hp fun fr' hp' bt' x=>kn T tab mu ops c K l (i+1) bt' (x :: acc) ⟨fr',hp',aG,rd,fl⟩)
   (gk dst fr (.tp []) fun fr'=>kn T tab mu ops c K l (i+1) (kI dst bt 0) (⟨i,[],false,false⟩ :: acc) ⟨fr',hp,aG,rd,fl⟩)
theorem ow {mu:Tmp→Bool} {ops:Array Oper} {c:Nat} {K:bG→Prop}:∀ {l:List Oper} {i:Nat} {bt:Nat→Nat} {acc:List jM} {evs:List Ev} {st:bG} {tr:Nat→cC} {s:St},kn T tab mu ops c K l i bt acc st →
  mZ base st.aG tr i→(tr i).hp=st.hp→(tr i).H=s.hp→s.rd=st.rd→fM tr i bt st.fr s.fr→nS tr i acc evs→DW T tab base ops c K l i evs st tr s
 | o :: l,i,bt,acc,evs,st,tr,s,h,ht,h1,h2,h3,hb,he=>CH (X:=fun l i bt acc st=>kn T tab mu ops c K l i bt acc st) (fun h=>ow h) h ht h1 h2 h3 hb he
 | [],i,bt,acc,evs,st,tr,s,h,ht,h1,h2,h3,hb,he=>by
  obtain ⟨rfl,h⟩:=h
  have hrel:=ht.rel i (Nat.le_refl _)
  have hfr:jL (tr i).E.ρ (tr i).H.get ((tr i).E.O (tr i).hp) st.fr s.fr:=fun t=>(ht.ext _ i (hb t).1 (Nat.le_refl _)).ar (ht.rel _ (hb t).1).wf (hb t).2
  unfold OV at h
  split at h
  ·rename_i o ho
   split at h
   ·rename_i f args hk
    rcases mX hfr h with ⟨hg,h⟩|⟨_,h⟩
    case inr=>exact h.elim
    have h:=ee (bK h)
    obtain ⟨hF,vs,v,hhand,⟨hvd,hpure⟩,hchk,h⟩:=h
    have h:=dL h
    have hF':=(uP hfr f).deep hF
    have hget:({s.hp with lo:=s.hp.n}:Hp).get=(tr i).H.get:=by rw [h2];rfl
    obtain ⟨goal,hgo,m0,R,q1,q2,q3⟩:∃ goal,cA (jQ T.P s.fr f) (args.map (aS s.fr))=some goal ∧
      ∃ m L,RX T tab m (gK {s.hp with lo:=s.hp.n} goal)=some L∧(false=true→∃ r,L=[r])∧∀ r ∈ L,∃ w H',r=.ret w H' ∧
       ({s.hp with lo:=s.hp.n}:Hp).n≤H'.n∧Wf H'∧(∀ k,k < ({s.hp with lo:=s.hp.n}:Hp).n→H'.get k=({s.hp with lo:=s.hp.n}:Hp).get k)∧min ({s.hp with lo:=s.hp.n}:Hp).lo ({s.hp with lo:=s.hp.n}:Hp).n≤H'.lo∧DR H'.get ((tr i).E.O (tr i).hp) v w:=by
     rcases hhand with ⟨rfl,hA⟩|⟨hz,hfree⟩
     ·have hA':=(dK hfr args).deep hA
      exact hpure ((tr i).E.O (tr i).hp) {s.hp with lo:=s.hp.n} _ _ (by rw [h2] at hrel;exact hrel.wf) (fun k hk=>by
       have:k < (tr i).H.n:=hk.elim (fun h=>hrel.jy h) (hrel.xn k)
       rw [h2] at this;exact this) (by rw [hget];exact hF') (by rw [hget];exact hA')
     ·obtain ⟨goal,hgo,m0,L,q1,q2,q3⟩:=hpure (tr i).E.X {s.hp with lo:=s.hp.n} _ _ (by rw [h2] at hrel;exact hrel.wf) (fun k hk=>by
        have:k < (tr i).H.n:=hrel.xn k hk
        rw [h2] at this;exact this) (by rw [hget];exact hF'.mono fun k b hk ho=>⟨hk,fun hx=>ho (.inr hx)⟩) (by
        rw [hget]
        rw [←h1] at hz
        exact hz.dr hrel (fun _ h=>h) (dK hfr args))
      refine ⟨goal,hgo,m0,L,q1,q2,fun r hm=>?_⟩
      obtain ⟨w,H',e1,e2,e3,e4,e5,e6⟩:=q3 r hm
      exact ⟨w,H',e1,e2,e3,e4,e5,hfree.2 _ _ _ _ e6⟩
    have hone:∀ r ∈ R,∃ w H',r=.ret w H'∧tc i s r=some [(w,({H' with lo:=s.hp.lo}:Hp),(⟨i,[],[],true,s.hp.n,H'.n⟩:Tc))] ∧
      cS T ops (⟨o,s,w,{H' with lo:=s.hp.lo},⟨i,[],[],true,s.hp.n,H'.n⟩⟩ :: evs)=true ∧
      mB (tr i).E base ⟨wO st.fr o.dst v,st.hp,st.aG,st.rd,st.fl⟩ ⟨ek s.fr o.dst w,{H' with lo:=s.hp.lo},s.rd⟩∧Ext base (tr 0).E (tr 0).hp (tr 0).H (tr i).E st.hp {H' with lo:=s.hp.lo}:=fun r hr=>by
     obtain ⟨w,H',rfl,hn,hwf,hsame,hlo,hdr⟩:=q3 r hr
     obtain ⟨g1,g2⟩:=hrel.grow (H':={H' with lo:=s.hp.lo}) (by rw [h2];exact hn) hwf (fun k hk=>by
      have:=hsame k (by rw [←h2];exact hk)
      rw [h2];exact this) (by rw [h2];exact Nat.min_le_left _ _)
     rw [h1] at g1 g2
     have hble:Nat.ble s.hp.n H'.lo=true:=Nat.ble_eq_true_of_le (by
      have:min s.hp.n s.hp.n≤H'.lo:=hlo
      omega)
     let z:cC:=⟨(tr i).E,st.hp,{H' with lo:=s.hp.lo}⟩
     have htz:mZ base st.aG (snoc tr i z) (i+1):=ht.snoc (z:=z) g1 (by rw [h1];exact g2)
     have hev:nS (snoc tr i z) (i+1) (⟨i,[],true,true⟩ :: acc) (⟨o,s,w,{H' with lo:=s.hp.lo},⟨i,[],[],true,s.hp.n,H'.n⟩⟩ :: evs) :=
      .cons (he.snoc (Nat.le_refl _)) rfl ⟨rfl,by rw [aV (Nat.le_refl _),h2],by rw [aW (Nat.lt_succ_self _)],fun h=>Bool.noConfusion h,rfl,fun k hk=>(by cases hk),fun k hk=>(by cases hk)⟩
     refine ⟨w,H',rfl,?_,?_,⟨g1,h3,fun t=>?_⟩,?_⟩
     ·show some [iK i s w H']=_
      rw [nC hble]
     ·unfold cS
      generalize hE:((⟨o,s,w,{H' with lo:=s.hp.lo},⟨i,[],[],true,s.hp.n,H'.n⟩⟩:Ev) :: evs)=evs' at *
      cases (evs'.all fun e=>e.t.wr.isEmpty && Nat.beq e.t.a e.t.b) with
      | true=>rfl
      | false=>exact hev.pairs htz (Nat.le_refl _) hchk
     ·have hb':=(hb.put (z:=z) (v:=v) (u:=w) (Nat.le_refl _) (by
       rw [aW (Nat.lt_succ_self _)]
       refine .d ?_
       show DR H'.get ((tr i).E.O st.hp) v w
       rw [←h1];exact hdr) o.dst) t
      have:=(htz.ext _ (i+1) hb'.1 (Nat.le_refl _)).ar (htz.rel _ hb'.1).wf hb'.2
      rw [aW (Nat.lt_succ_self _)] at this
      exact this
     ·have:=htz.ext 0 (i+1) (Nat.zero_le _) (Nat.le_refl _)
      rw [aV (Nat.zero_le _),aW (Nat.lt_succ_self _)] at this
      exact this
    obtain ⟨P,hP⟩:∃ P,cw R (tc i s)=some P:=by
     obtain ⟨_,M,_,hM,_⟩:=ei (one:=false) (L:=R) (f:=fun _ r=>tc i s r) (P:=fun _=>True) (fun _ _ _ _ _ h=>h) 0 (fun h=>Bool.noConfusion h) (fun r hr=>by
      obtain ⟨w,H',_,e,_⟩:=hone r hr
      exact ⟨0,_,e,fun h=>Bool.noConfusion h,fun _ _=>trivial⟩)
     exact ⟨M,hM⟩
    have hPr:∀ p ∈ P,∃ w H',p=(w,({H' with lo:=s.hp.lo}:Hp),(⟨i,[],[],true,s.hp.n,H'.n⟩:Tc))∧fB.ret w H' ∈ R:=fun p hp=>by
     obtain ⟨r,hr,Pr,e1,e2⟩:=fR hP p hp
     obtain ⟨w,H',rfl,e3,_⟩:=hone r hr
     rw [e3] at e1
     cases e1
     exact ⟨w,H',List.mem_singleton.1 e2,hr⟩
    obtain ⟨m,L,hm,hL,_,hLs⟩:=ei (one:=false) (L:=P) (f:=fun m (p:Value × Hp × Tc)=>bl T (RX T tab m) ops.toList (ops.toList.drop (i+1)) ⟨ek s.fr o.dst p.1,p.2.1,s.rd⟩)
     (P:=fun s'=>∃ E' st',K st'∧st'.fl=st.fl∧mB E' base st' s'∧jK st.fl base (tr 0).E (tr 0).hp (tr 0).H E' st'.hp s'.hp) (fun a b x M hab hx=>gS (eu hab) _ _ _ _ hx) m0 (fun h=>Bool.noConfusion h) (fun p hp=>by
      obtain ⟨w,H',rfl,hr⟩:=hPr p hp
      obtain ⟨w',H'',e0,_,_,hrel2,hext⟩:=hone _ hr
      cases e0
      obtain ⟨m2,L2,k1,k2,k3⟩:=iw h hrel2
      refine ⟨m2,L2,k1,fun h=>Bool.noConfusion h,fun s' hs'=>?_⟩
      obtain ⟨E2,st2,j1,j2,j3,j4⟩:=k3 s' hs'
      exact ⟨E2,st2,j1,j2,j3,hext.Jq.trans j4⟩)
    refine ⟨m,L,?_,hLs⟩
    rw [wh]
    unfold oV
    have hdm:hU T (RX T tab m) ops o i s=some P:=by
     unfold hU
     rw [hg,cond_true]
     unfold dG
     simp only [hk,hgo,eu hm _ _ q1]
     exact hP
    simp only [ho,hdm]
    have hall:(P.all fun p=>cS T ops (⟨o,s,p.1,p.2.1,p.2.2⟩ :: evs))=true:=by
     rw [List.all_eq_true]
     intro p hp
     obtain ⟨w,H',rfl,hr⟩:=hPr p hp
     obtain ⟨w',H'',e0,_,hd,_⟩:=hone _ hr
     cases e0
     exact hd
    rw [hall]
    exact hL
   ·exact h.elim
  ·exact h.elim
theorem aB.nd {id:Nat} (c:Nat) {l:List Oper} {mu:Tmp→Bool} {st:bG} {K:Exit→bG→Prop} (hc:td l.toArray=some c) (h:kn T tab mu l.toArray c (K .normal) (l.take c) 0 (fun _=>0) [] st):aB T tab false (.region id l.toArray true) st K:=by
 intro E base s hs
 obtain ⟨m,L,r1,r2⟩:=ow (base:=base) (tr:=fun _=>⟨E,st.hp,s.hp⟩) (evs:=[]) h ⟨fun _ _=>hs.h,fun _ _ _ _=>.refl⟩ rfl rfl hs.rd (fun t=>⟨Nat.le_refl _,hs.fr t⟩) .nil
 refine ⟨m,L.map fun s=>(.normal,s),?_,fun h1=>Bool.noConfusion h1,fun p hp=>?_⟩
 ·rw [eE]
  have:bW T (RX T tab m) l.toArray s=some L:=by
   unfold bW
   rw [hc]
   exact r1
  simp only [cond_true,this]
 ·obtain ⟨s2,hm,rfl⟩:=List.mem_map.1 hp
  obtain ⟨E2,st2,k1,k2,k3,k4⟩:=r2 s2 hm
  exact ⟨E2,st2,k1,k2,k3,k4⟩
section
variable {mu : Tmp → Bool} {ops : Array Oper} {K : bG → Prop} {c i : Nat} {bt : Nat → Nat} {acc : List jM} {fr : Nat → AV} {rd : Bool}
theorem Qj {dst:Option Tmp} {op:Op} {a1 a2 a3 gd} {l:List Oper} (h:ct ops.toList gd fr (eL T tab mu dst op i bt fr hp fun fr' hp' bt' x=>kn T tab mu ops c K l (i+1) bt' (x :: acc) ⟨fr',hp',aG,rd,fl⟩)
 (gk dst fr (.tp []) fun fr'=>kn T tab mu ops c K l (i+1) (kI dst bt 0) (⟨i,[],false,false⟩ :: acc) ⟨fr',hp,aG,rd,fl⟩)):kn T tab mu ops c K (⟨dst,op,a1,a2,a3,gd⟩ :: l) i bt acc ⟨fr,hp,aG,rd,fl⟩:=h
end
end
end Go.RM
namespace Go.RM
open Go
end Go.RM
namespace Go.RM
structure Hd (h:Prop):Prop where
 x:h
theorem u1 {g h : Prop} (q : h) (k : Hd h → g := by
    intro hd
    first
    | with_reducible (first | refine RM.c1 ?_ | refine RM.c2 ?_ | refine RM.c3 ?_ | refine RM.c4 ?_ | refine RM.c6 ?_ | refine RM.c7 ?_ | refine RM.c8 ?_ | refine RM.c9 ?_ | refine RM.d1 ?_ | refine RM.d2 ?_ | refine RM.d3 ?_ | refine RM.d4 ?_ | refine RM.d7 ?_ | refine RM.d8 ?_ | refine RM.d9 ?_ | refine RM.o1 ?_ | refine RM.o2 ?_ | refine RM.o3 ?_ | refine RM.o4 ?_ | refine RM.o5 ?_ | refine RM.o6 ?_ | refine RM.o7 ?_ | refine RM.o9 ?_ | refine RM.p1 ?_ | refine RM.p2 ?_ | refine RM.p3 ?_ | refine RM.p4 ?_ | refine RM.p5 ?_ | refine RM.p6 ?_ | refine RM.p7 ?_ | refine RM.p8 ?_ | refine RM.q1 ?_ | refine RM.q2 ?_ | refine RM.PC ?_ | refine RM.M7 ?_ | refine RM.M8 ?_ | refine RM.JQ ?_ | refine RM.Qa ?_ | refine RM.Qb ?_ | refine RM.Qj ?_)
    | ((with_reducible show force _ _); first | refine RM.f1 rfl ?_ | refine RM.f2 rfl ?_ | refine RM.f3 rfl ?_ | refine RM.f4 rfl ?_ | refine RM.f5 rfl ?_ | refine RM.f6 rfl ?_ | refine RM.f7 rfl ?_ | refine RM.f8 rfl ?_ | refine RM.f9 rfl ?_ | refine RM.g1 rfl ?_ | refine RM.g2 rfl ?_)
    | ((with_reducible show RM.wpOp _ _ _ _ _ _); first
      | ((with_reducible show RM.wpOp _ _ (.load _ _) _ _ _); first | refine RM.P3 rfl rfl rfl ?_ | refine RM.P1 rfl rfl rfl ?_ | refine RM.Pp rfl rfl rfl rfl ?_ | refine RM.P4 rfl rfl rfl rfl ?_)
      | ((with_reducible show RM.wpOp _ _ (.fieldAddr _ _ _) _ _ _); first | refine RM.P5 rfl rfl rfl rfl ?_ | refine RM.P6 rfl rfl rfl rfl ?_)
      | ((with_reducible show RM.wpOp _ _ (.alloc _) _ _ _); refine RM.P7 rfl rfl ?_)
      | ((with_reducible show RM.wpOp _ _ (.extract _ _) _ _ _); refine RM.Qe rfl rfl ?_)
      | ((with_reducible show RM.wpOp _ _ (.indexAddr _ _ _) _ _ _); first | refine RM.PS rfl rfl rfl (by assumption) (by omega) rfl ?_ | refine RM.PS rfl rfl rfl rfl (by omega) rfl ?_ | refine RM.Qf rfl rfl rfl (by omega) ?_ | refine RM.Qg rfl rfl rfl (by omega) ?_ | refine RM.Qh rfl rfl rfl (by omega) ?_)
      | ((with_reducible show RM.wpOp _ _ (.makeSlice _ _ _) _ _ _); refine RM.Qi rfl rfl rfl (by decide) rfl ?_)
      | ((with_reducible show RM.wpOp _ _ (.unOp _ _ _) _ _ _); refine RM.n3 rfl ?_)
      | ((with_reducible show RM.wpOp _ _ (.call _) _ _ _); first | refine RM.n4 rfl rfl ?_ | refine RM.n5 rfl rfl ?_))
    | ((with_reducible show mD _ _ _ _ (.region _ _ true) _ _); first | refine RM.P0 rfl ?_ | refine RM.c5 (by kernel_rfl) rfl rfl ?_)
    | ((with_reducible show qd _ _ _ _ _ _ _ _ _ _ _ _); refine RM.o8 rfl ?_)
    | ((with_reducible show eL _ _ _ _ _ _ _ _ _ _); first | refine RM.p9 rfl ?_ | refine RM.n1 ?_)
    | ((with_reducible show ct _ _ _ _ _); first | refine si rfl rfl rfl ?_ | refine uX rfl rfl rfl ?_ | refine zh rfl rfl ?_ | refine si rfl rfl (by assumption) ?_ | refine uX rfl rfl (by assumption) ?_)
    | ((with_reducible show mD _ _ _ _ (.cond _ _ _) _ _); first | refine RM.e2 rfl rfl ?_ | refine RM.e3 rfl rfl ?_ | refine RM.e2 rfl (by assumption) ?_ | refine RM.e3 rfl (by assumption) ?_)
    | ((with_reducible show qU _ _ _ _ _); refine RM.k1 rfl ?_)
    | ((with_reducible show iX _ _ _ _ _); first | refine RM.k2 rfl ?_ | refine RM.k3 rfl ?_ | refine RM.k2 (by assumption) ?_ | refine RM.k3 (by assumption) ?_ | refine RM.k4 rfl rfl ?_)
    | ((with_reducible show aN _ _ _ _ _ _ _ _ _); first | refine RM.b4 rfl rfl ?_ | refine RM.b5 rfl rfl ?_ | refine RM.b6 rfl rfl ?_ | refine RM.b7 rfl rfl ?_ | refine RM.b8 rfl rfl ?_ | refine RM.b9 rfl rfl ?_ | refine RM.b1 rfl rfl (by omega) ?_ | refine RM.b2 rfl rfl (by omega) ?_ | refine RM.b3 rfl rfl (by omega) ?_ | refine RM.r1 rfl rfl (by omega) ?_ | refine RM.r2 rfl rfl (by omega) ?_)
    | ((with_reducible show kW _ _ _ _ _); first | refine RM.l1 rfl ?_ | refine RM.l2 rfl ?_)
    | ((with_reducible show pY _ _ _); first | refine RM.l3 rfl ?_ | refine RM.l4 rfl ?_)
    | ((with_reducible show jB _ _ _ _); first | refine RM.d5 rfl ?_ | refine RM.d6 rfl ?_)
    | ((with_reducible show xC _ _ _ _); first | refine RM.P8 rfl rfl rfl rfl ?_ | refine RM.P9 rfl rfl rfl ?_)
    | ((with_reducible show cM _ _ _ _ _ _); refine RM.NJ rfl rfl rfl rfl rfl rfl rfl ?_)
    | ((with_reducible show lS _ _ _ _ _); refine RM.Pv rfl rfl rfl ?_)
    | ((with_reducible show cU _ _ _ _ _ _ _); first | refine RM.Qc rfl rfl rfl rfl rfl rfl rfl ?_ | refine RM.Qd rfl rfl rfl rfl rfl rfl ?_)
    | ((with_reducible show aj _ _ _ _ _ _ _ _); refine af.call (by assumption) rfl rfl ?_)
    | ((with_reducible show nJ _ _ = true ∧ _); refine And.intro (by kernel_rfl) ?_)
    | ((with_reducible show ∃ _, ED _ _ _ = some _ ∧ _); refine ⟨_, rfl, ?_⟩)
    | ((with_reducible show AV.deep _ = true ∧ _); refine ⟨rfl, rfl, ?_⟩)
    | ((with_reducible show ∃ _, af _ _ _ _ _ _ ∧ _); refine ⟨_, by assumption, ?_⟩)
    exact hd.x) : g := k ⟨q⟩
theorem u2 {g h:Prop} (q:h) (k:Hd h→g:=by
 intro hd
 first
 | refine ⟨_,rfl,?_⟩
 | refine ⟨_,_,rfl,by decide,?_⟩
 | refine ⟨rfl,rfl,rfl,?_⟩
 | refine ⟨rfl,rfl,?_⟩
 | refine ⟨_,_,rfl,_,rfl,?_⟩
 | refine And.intro (Nat.le_of_ble_eq_true rfl) ?_
 | refine And.intro (by omega) ?_
 | refine ⟨_,_,rfl,rfl,_,rfl,rfl,?_⟩
 | refine And.intro (by kernel_rfl) ?_
 | refine ⟨rfl,rfl,rfl,rfl,rfl,?_⟩
 | refine ⟨_,_,rfl,rfl,rfl,rfl,Nat.le_of_ble_eq_true rfl,?_⟩
 | refine ⟨_,_,rfl,Nat.le_of_ble_eq_true rfl,?_⟩
 exact hd.x):g:=k ⟨q⟩
end Go.RM
namespace Go.RM
open Go
theorem wrap_u64 {n:Nat} (h:n < 18446744073709551616):IntKind.wrap .u64 (n:Int)=(n:Int):=by
 show ((BitVec.ofInt 64 (n:Int)).toNat:Int)=_
 rw [BitVec.ofInt_natCast,BitVec.toNat_ofNat,Nat.mod_eq_of_lt h]
theorem Iy {P:Program} {t:TypeId} {x y:Operand} {m n:Nat} (hm:m < 18446744073709551616) (hn:n < 18446744073709551616):dj P .and t x y (.int .u64 (m:Int)) (.int .u64 (n:Int))=some (.int .u64 ((m &&& n:Nat):Int),.none):=by
 have h:dj P .and t x y (.int .u64 (m:Int)) (.int .u64 (n:Int))=some (.int .u64 (IntKind.wrap .u64 ((BitVec.ofInt 64 (m:Int) &&& BitVec.ofInt 64 (n:Int)).toNat:Int)),.none):=rfl
 rw [h,Bm (by omega) (by omega),wrap_u64 (Nat.lt_of_le_of_lt Nat.and_le_left hm)]
theorem J3 {P:Program} {t:TypeId} {x y:Operand} {m n:Nat} (hm:m < 18446744073709551616) (hn:n < 18446744073709551616):dj P .or t x y (.int .u64 (m:Int)) (.int .u64 (n:Int))=some (.int .u64 ((m ||| n:Nat):Int),.none):=by
 have h:dj P .or t x y (.int .u64 (m:Int)) (.int .u64 (n:Int))=some (.int .u64 (IntKind.wrap .u64 ((BitVec.ofInt 64 (m:Int) ||| BitVec.ofInt 64 (n:Int)).toNat:Int)),.none):=rfl
 rw [h,JO (by omega) (by omega),wrap_u64 (Nat.or_lt_two_pow (n:=64) hm hn)]
theorem Iz {P:Program} {t:TypeId} {x y:Operand} {j:Nat} (hj:j < 8):dj P .shl t x y (.int .u64 1) (.int .i64 (j:Int))=some (.int .u64 ((2 ^ j:Nat):Int),.none):=by
 match j,hj with
 | 0,_|1,_|2,_|3,_|4,_|5,_|6,_|7,_=>rfl
theorem IA {P:Program} {t:TypeId} {x y:Operand} {m j:Nat} (hj:j < 8):dj P .shr t x y (.int .u64 (m:Int)) (.int .i64 (j:Int))=some (.int .u64 ((m / 2 ^ j:Nat):Int),.none):=by
 have h:dj P .shr t x y (.int .u64 (m:Int)) (.int .i64 (j:Int))=some (.int .u64 ((m:Int).fdiv (2 ^ j)),.none):=by
  match j,hj with
  | 0,_|1,_|2,_|3,_|4,_|5,_|6,_|7,_=>rfl
 rw [h,Int.fdiv_eq_ediv_of_nonneg _ (Int.pow_nonneg (by decide)),Int.natCast_ediv,Int.natCast_pow]
 rfl
theorem J4 {P:Program} {t:TypeId} {x y:Operand} {m n:Int}:dj P .eql t x y (.int .u64 m) (.int .u64 n)=some (.bool (decide (m=n)),.none):=rfl
theorem IB {P:Program} {t:TypeId} {x y:Operand} {m n:Int}:dj P .neq t x y (.int .u64 m) (.int .u64 n)=some (.bool (!decide (m=n)),.none):=rfl
theorem IC {P:Program} {t:TypeId} {x y:Operand} {m:Nat} (h1:1≤m) (hm:m < 18446744073709551616):dj P .sub t x y (.int .u64 (m:Int)) (.int .u64 1)=some (.int .u64 ((m - 1:Nat):Int),.none):=by
 have h:dj P .sub t x y (.int .u64 (m:Int)) (.int .u64 1)=some (.int .u64 (IntKind.wrap .u64 ((m:Int) - 1)),.none):=rfl
 rw [h,show (m:Int) - 1=((m - 1:Nat):Int) by omega,wrap_u64 (by omega)]
section
variable {T : bw} {a b : AV} {t : TypeId} {x y : Operand} {hp : List AB} {K : AV → List AB → Prop}
theorem Bu {m n:Nat} (ha:a=.fl (.int .u64 (m:Int))) (hb:b=.fl (.int .u64 (n:Int))) (hm:m < 18446744073709551616) (hn:n < 18446744073709551616) (h:K (.fl (.int .u64 ((m &&& n:Nat):Int))) hp):aN T .and t x y a b hp K:=by
 subst ha hb
 exact ⟨_,_,rfl,rfl,.int .u64 ((m &&& n:Nat):Int),Iy hm hn,rfl,h⟩
theorem Ni {m n:Nat} (ha:a=.fl (.int .u64 (m:Int))) (hb:b=.fl (.int .u64 (n:Int))) (hm:m < 18446744073709551616) (hn:n < 18446744073709551616) (h:K (.fl (.int .u64 ((m ||| n:Nat):Int))) hp):aN T .or t x y a b hp K:=by
 subst ha hb
 exact ⟨_,_,rfl,rfl,.int .u64 ((m ||| n:Nat):Int),J3 hm hn,rfl,h⟩
theorem IE {j:Nat} (ha:a=.fl (.int .u64 1)) (hb:b=.fl (.int .i64 (j:Int))) (hj:j < 8) (h:K (.fl (.int .u64 ((2 ^ j:Nat):Int))) hp):aN T .shl t x y a b hp K:=by
 subst ha hb
 exact ⟨_,_,rfl,rfl,.int .u64 ((2 ^ j:Nat):Int),Iz hj,rfl,h⟩
theorem DZ {m j:Nat} (ha:a=.fl (.int .u64 (m:Int))) (hb:b=.fl (.int .i64 (j:Int))) (hj:j < 8) (h:K (.fl (.int .u64 ((m / 2 ^ j:Nat):Int))) hp):aN T .shr t x y a b hp K:=by
 subst ha hb
 exact ⟨_,_,rfl,rfl,.int .u64 ((m / 2 ^ j:Nat):Int),IA hj,rfl,h⟩
theorem J5 {m n:Int} (ha:a=.fl (.int .u64 m)) (hb:b=.fl (.int .u64 n)) (h:K (.fl (.bool (decide (m=n)))) hp):aN T .eql t x y a b hp K:=by
 subst ha hb
 exact ⟨_,_,rfl,rfl,.bool (decide (m=n)),J4,rfl,h⟩
theorem LC {m n:Int} (ha:a=.fl (.int .u64 m)) (hb:b=.fl (.int .u64 n)) (h:K (.fl (.bool (!decide (m=n)))) hp):aN T .neq t x y a b hp K:=by
 subst ha hb
 exact ⟨_,_,rfl,rfl,.bool (!decide (m=n)),IB,rfl,h⟩
theorem O0 {m:Nat} (ha:a=.fl (.int .u64 (m:Int))) (hb:b=.fl (.int .u64 1)) (h1:1≤m) (hm:m < 18446744073709551616) (h:K (.fl (.int .u64 ((m - 1:Nat):Int))) hp):aN T .sub t x y a b hp K:=by
 subst ha hb
 exact ⟨_,_,rfl,rfl,.int .u64 ((m - 1:Nat):Int),IC h1 hm,rfl,h⟩
theorem zA {m:Nat} (ha:a=.fl (.int .u64 (m:Int))) (hb:b=.fl (.int .u64 1)) (hm:m < 18446744073709551616) (h:K (.fl (.int .u64 ((m % 2:Nat):Int))) hp):aN T .and t x y a b hp K:=by
 rw [←Nat.and_one_is_mod] at h
 exact Bu (n:=1) ha hb hm (by decide) h
end
theorem PG {T:bw} {fr:Nat→AV} {hp:List AB} {K:AV→List AB→Prop} {s x:Operand} {t u e:TypeId} {a1 a2 a3 a4 a5 a6} {els0 els:List (List AV)} {f:Bool} {inf:vS} (hs:aP fr s=.sl els0 true) (hx:aP fr x=.sl els f)
  (hu:T.ty.get u=some ⟨.slice e,a1,a2,a3,a4,a5,a6⟩) (hi:elem? T t=some inf) (hz:bq inf=true) (h0:∀ el ∈ els0,el.length=inf.size) (hel:∀ el ∈ els,el.length=inf.size) (h1:els.flatten.all AV.one=true) (hne:els ≠ [])
  (hb:(els0.length+els.length) * inf.bytes≤140737488355328∧els0.length+els.length≤9223372036854775807) (hd:cK els.flatten=true) (hk:K (.sl (els0++els) false) hp) :
  RM.wpOp T false (.call ⟨.builtin .append,[s,x].toArray,[t,u].toArray⟩) fr hp K:=by
 show force (aP fr s) fun a=>force (aP fr x) fun b=>jd T false .append [a,b] [t,u] hp K
 rw [hs,hx]
 show (match T.ty.get u with|some ⟨.slice _,_,_,_,_,_,_⟩=>kg T false t (.sl els0 true) (.sl els f) hp K|_=>False)
 rw [hu]
 show kg T false t (.sl els0 true) (.sl els f) hp K
 unfold kg
 rw [hi]
 exact ⟨hz,els,⟨hel,rfl⟩,h1,h0,hb,fun e=>absurd e hne,fun _=>⟨hd,hk⟩⟩
end Go.RM
namespace Go.RM
open Go
section
variable {T : bw} {own : Bool} {fr : Nat → AV} {hp : List AB} {K : AV → List AB → Prop} {t : TypeId} {s by' cg : Nat} {z : Option Value} {agg : Bool} {bQ : List (Nat × Nat)}
theorem Pq {x hi:Operand} {cs:List AV} {o len h:Nat} {e:TypeId} {els:List (List AV)} (hx:aP fr x=.pt cs o) (hh:aP fr hi=.fl (.int .i64 (h:Int))) (ht:T.ty.get t=some ⟨.array len e,s,by',z,agg,bQ,cg⟩)
  (hb:h≤len∧o+h * cg≤cs.length) (h1:1≤cg) (he:els.length=h∧(∀ el ∈ els,el.length=cg)∧els.flatten=(cs.drop o).take (h * cg)) (k:K (.sl els (Nat.beq h len)) hp):wpOp T own (.slice t x none (some hi) none) fr hp K:=by
 show pZ T t (aP fr x) none (some (aP fr hi)) hp K
 rw [hx,hh]
 unfold pZ
 simp only [ht]
 refine ⟨0,h,els,rfl,rfl,⟨Nat.zero_le _,hb.1,hb.2⟩,h1,?_,k⟩
 rw [Nat.zero_mul,Nat.add_zero,Nat.sub_zero]
 exact he
theorem Qn {o:BinOp} {x y:Operand} {a:AV} {els:List (List AV)} {f b:Bool} (ha:a=.sl els f) (hne:els ≠ []) (ht:ji T.P t=true) (ho:gJ o=some (.bool b,.none)) (k:K (.fl (.bool b)) hp):aN T o t x y a (.fl (.slice none 0 0)) hp K:=by
 subst ha
 exact ⟨hne,ht,_,ho,k⟩
end
end Go.RM
namespace Go.RM
open Go
inductive As (s st:bG):Prop
 | is (h:au s st)
 | no (h:False)
theorem As.aL {s st:bG}:As s st→au s st
 | .is h=>h
 | .no h=>h.elim
theorem cutAt {T:bw} {tab:List XE} {one:Bool} {a b:Code} {st st':bG} {K:Exit→bG→Prop} (h1:aB T tab one a st (uQ (fun s=>As s st') K)) (h2:aB T tab one b st' K):aB T tab one (.seq a b) st K :=
 .seq (h1.mono fun e s h=>by cases e <;> first|exact .aL h.aL h2|exact h)
end Go.RM
namespace Go.RM
open Go
theorem IU {P:Program} {t:TypeId} {x y:Operand} {m j:Nat} (hj:j=1∨j=2∨j=4∨j=8∨j=16∨j=32):dj P .shr t x y (.int .u64 (m:Int)) (.int .u64 (j:Int))=some (.int .u64 ((m / 2 ^ j:Nat):Int),.none):=by
 have h:dj P .shr t x y (.int .u64 (m:Int)) (.int .u64 (j:Int))=some (.int .u64 ((m:Int).fdiv (2 ^ j)),.none):=by
  rcases hj with rfl|rfl|rfl|rfl|rfl|rfl <;> rfl
 rw [h,Int.fdiv_eq_ediv_of_nonneg _ (Int.pow_nonneg (by decide)),Int.natCast_ediv,Int.natCast_pow]
 rfl
theorem IV {P:Program} {t:TypeId} {x y:Operand} {m n:Nat} (hm:m+n < 18446744073709551616):dj P .add t x y (.int .u64 (m:Int)) (.int .u64 (n:Int))=some (.int .u64 ((m+n:Nat):Int),.none):=by
 have h:dj P .add t x y (.int .u64 (m:Int)) (.int .u64 (n:Int))=some (.int .u64 (IntKind.wrap .u64 ((m:Int)+(n:Int))),.none):=rfl
 rw [h,show (m:Int)+(n:Int)=((m+n:Nat):Int) by omega,wrap_u64 hm]
theorem IW {P:Program} {t:TypeId} {x y:Operand} {m n:Nat} (hm:m < 4611686018427387904) (hn:n < 4611686018427387904):dj P .and t x y (.int .i64 (m:Int)) (.int .i64 (n:Int))=some (.int .i64 ((m &&& n:Nat):Int),.none):=by
 have h:dj P .and t x y (.int .i64 (m:Int)) (.int .i64 (n:Int))=some (.int .i64 (IntKind.wrap .i64 ((BitVec.ofInt 64 (m:Int) &&& BitVec.ofInt 64 (n:Int)).toNat:Int)),.none):=rfl
 have hle:m &&& n≤m:=Nat.and_le_left
 rw [h,Bm (by omega) (by omega),wrap_i64 (by omega) (by omega)]
section
variable {T : bw} {a b : AV} {t : TypeId} {x y : Operand} {hp : List AB} {K : AV → List AB → Prop}
theorem xW {m j:Nat} (ha:a=.fl (.int .u64 (m:Int))) (hb:b=.fl (.int .u64 (j:Int))) (hj:j=1∨j=2∨j=4∨j=8∨j=16∨j=32) (h:K (.fl (.int .u64 ((m / 2 ^ j:Nat):Int))) hp):aN T .shr t x y a b hp K:=by
 subst ha hb
 exact ⟨_,_,rfl,rfl,.int .u64 ((m / 2 ^ j:Nat):Int),IU hj,rfl,h⟩
theorem D8 {m n:Nat} (ha:a=.fl (.int .u64 (m:Int))) (hb:b=.fl (.int .u64 (n:Int))) (hm:m+n < 18446744073709551616) (h:K (.fl (.int .u64 ((m+n:Nat):Int))) hp):aN T .add t x y a b hp K:=by
 subst ha hb
 exact ⟨_,_,rfl,rfl,.int .u64 ((m+n:Nat):Int),IV hm,rfl,h⟩
theorem O6 {m n:Nat} (ha:a=.fl (.int .i64 (m:Int))) (hb:b=.fl (.int .i64 (n:Int))) (hm:m < 4611686018427387904) (hn:n < 4611686018427387904) (h:K (.fl (.int .i64 ((m &&& n:Nat):Int))) hp):aN T .and t x y a b hp K:=by
 subst ha hb
 exact ⟨.int .i64 ((m &&& n:Nat):Int),IW hm hn,rfl,h⟩
end
end Go.RM
namespace Go.RM
open Go
section
variable {T : bw} {tab : List XE} {one : Bool} {base : Nat} {E : Env} {hp : List AB} {aG : bP} {H : Hp} {ρ : Nat → Nat → Option Nat} {g : aE} {O O' : Nat → Prop}
inductive MB (a b:Nat):AB→AB→Prop
 | same {z:AB}:z.lX a=true→z.lX b=true→MB a b z z
 | cells {cs cs':List AV} {es aC:Nat}:cs.length=cs'.length→(∀ (i:Nat) (v w:AV),cs[i]?=some v→cs'[i]?=some w→Mv a b v w)→MB a b (.cells cs es aC) (.cells cs' es aC)
theorem MB.empty {a b v:Nat} {z z':AB} (h:MB a b z z') (hz:∃ es,z=.cells [] es v):∃ es,z'=.cells [] es v:=by
 cases h with
 | same _ _=>exact hz
 | cells hl _ =>
  obtain ⟨es,he⟩:=hz
  cases he
  exact ⟨_,by rw [List.length_eq_zero_iff.1 hl.symm]⟩
theorem MB.aC {a b:Nat} {z z':AB} (h:MB a b z z'):z.ver?=z'.ver?:=by cases h <;> rfl
theorem au.Pb {st:bG} {l:List (Nat × AV)} (a b:Nat) {x y:AB} {hp:List AB} (hab:a ≠ b) (hja:st.hp[a]?=some y) (hjb:st.hp[b]?=some x) (hn:st.fl≤a) (hn2:st.fl≤b) (hs:zk a b st.fr l)
  (hl:hp.length=st.hp.length) (hA:∀ z,hp[a]?=some z→MB a b x z) (hB:hp[b]?=some .gone)
  (hO:∀ (i:Nat) (z z':AB),i ≠ a→i ≠ b→st.hp[i]?=some z→hp[i]?=some z'→MB a b z z') :
  au st ⟨aU l,hp,st.aG,st.rd,st.fl⟩:=by
 have hla:a < st.hp.length:=(List.getElem?_eq_some_iff.1 hja).1
 have hlb:b < st.hp.length:=(List.getElem?_eq_some_iff.1 hjb).1
 refine ⟨rfl,fun E base s hs'=>?_⟩
 have hr:=hs'.h
 have hget:∀ (i:Nat) (z:AB) (aC:Nat),hp[i]?=some z→z.ver?=some aC→(i=a∧MB a b x z)∨(i ≠ a∧i ≠ b∧∃ z0,st.hp[i]?=some z0∧MB a b z0 z):=by
  intro i z aC hi hv
  by_cases hib:i=b
  ·subst hib
   rw [hB] at hi
   cases hi;cases hv
  ·by_cases hia:i=a
   ·subst hia
    exact .inl ⟨rfl,hA z hi⟩
   ·have hlt:i < st.hp.length:=by
     have:=(List.getElem?_eq_some_iff.1 hi).1
     omega
    exact .inr ⟨hia,hib,_,List.getElem?_eq_getElem hlt,hO i _ z hia hib (List.getElem?_eq_getElem hlt) hi⟩
 have hma:∀ {v:Nat},aQ a b E.ρ a v=E.ρ b v:=fun {v}=>by unfold aQ;rw [if_pos rfl]
 have hmo:∀ {i v:Nat},i ≠ a→i ≠ b→aQ a b E.ρ i v=E.ρ i v:=fun {i v} h1 h2=>by unfold aQ;rw [if_neg h1,if_neg h2]
 have hmi:∀ {i v k:Nat},aQ a b E.ρ i v=some k→(i=a∧E.ρ b v=some k)∨(i ≠ a∧i ≠ b∧E.ρ i v=some k):=by
  intro i v k h
  unfold aQ at h
  split at h
  ·rename_i h1;exact .inl ⟨h1,h⟩
  ·split at h
   ·cases h
   ·rename_i h1 h2;exact .inr ⟨h1,h2,h⟩
 have hown:∀ k,Own (aQ a b E.ρ) hp k→Own E.ρ st.hp k:=by
  rintro k ⟨i,z,v,h1,h2,h3⟩
  rcases hget i z v h1 h2 with ⟨rfl,hm⟩|⟨n1,n2,z0,h4,hm⟩
  ·rw [hma] at h3;exact ⟨b,_,v,hjb,hm.aC.trans h2,h3⟩
  ·rw [hmo n1 n2] at h3;exact ⟨i,z0,v,h4,hm.aC.trans h2,h3⟩
 have hOs:∀ k,({E with ρ:=aQ a b E.ρ}:Env).O hp k→E.O st.hp k:=fun k h=>h.imp (hown k) id
 have hmv:∀ {v w:AV} {u:Value},Mv a b v w→AR E.ρ s.hp.get (E.O st.hp) v u→AR (aQ a b E.ρ) s.hp.get (({E with ρ:=aQ a b E.ρ}:Env).O hp) w u:=by
  intro v w u hm h
  cases hm with
  | same n1 n2=>exact h.move hOs n1 n2
  | ptr =>
   obtain ⟨k,hk,rfl⟩:=h.cE
   exact .ptr (by rw [hma];exact hk)
  | dc =>
   rcases h.eR with ⟨k,hk,rfl⟩|⟨rfl,rfl,rfl⟩
   ·exact .dc (by rw [hma];exact hk)
   ·exact .oI
  | bJ=>exact .bJ
 have hbr:∀ (z:AB) (z':aR),z.lX a=true→z.lX b=true→BR E.ρ s.hp.get (E.O st.hp) z z'→BR (aQ a b E.ρ) s.hp.get (({E with ρ:=aQ a b E.ρ}:Env).O hp) z z':=by
  intro z z' n1 n2 q3
  cases z with
  | cells cs2 es2 ver2 =>
   obtain ⟨cs',rfl,h⟩:=q3
   exact ⟨cs',rfl,h.1,fun i v u ha hu=>(h.2 i v u ha hu).move hOs (cz n1 i v ha) (cz n2 i v ha)⟩
  | cO p q=>exact q3
  | map ents clock =>
   obtain ⟨es,rfl,h1,h2⟩:=q3
   refine ⟨es,rfl,h1,fun i k v born e hx hy=>?_⟩
   simp only [AB.lX,List.all_eq_true,Bool.and_eq_true] at n1 n2
   have m1:=n1 _ (List.mem_of_getElem? hx)
   have m2:=n2 _ (List.mem_of_getElem? hx)
   exact ⟨(h2 i k v born e hx hy).1.move hOs m1.1 m2.1,(h2 i k v born e hx hy).2.1.move hOs m1.2 m2.2,(h2 i k v born e hx hy).2.2⟩
  | iter i2 since seen stepped =>
   obtain ⟨m,rfl,h⟩:=q3
   exact ⟨m,rfl,by show aQ a b E.ρ i2 0=_;rw [hmo (eU n1) (eU n2)];exact h⟩
  | gone=>exact q3
 have hmb:∀ (z w:AB) (z':aR),MB a b z w→BR E.ρ s.hp.get (E.O st.hp) z z'→BR (aQ a b E.ρ) s.hp.get (({E with ρ:=aQ a b E.ρ}:Env).O hp) w z':=by
  intro z w z' hm q3
  cases hm with
  | same n1 n2=>exact hbr z z' n1 n2 q3
  | cells hcl hcm =>
   obtain ⟨cs',rfl,h⟩:=q3
   refine ⟨cs',rfl,hcl ▸ h.1,fun i v u ha hu=>?_⟩
   have hlt:=(List.getElem?_eq_some_iff.1 ha).1
   exact hmv (hcm i _ v (List.getElem?_eq_getElem (by omega)) ha) (h.2 i _ u (List.getElem?_eq_getElem (by omega)) hu)
 refine ⟨{E with ρ:=aQ a b E.ρ},⟨⟨hr.wf,fun i z v hi hv=>?_,fun i i' v v' k h1 h2=>?_,fun i v k hk=>?_,fun i z v w h1 h2 h3=>?_,fun i v hi=>?_,fun k hk=>hr.sup k (hown k hk),fun k hk=>hr.iu k (hown k hk),hr.dx,hr.ds,hr.sn,hr.xn,fun k hk=>hr.od k (hk.imp (hown k) id),hr.bn,hr.aG⟩,hs'.rd,fun t=>hmv (zl hs t) (hs'.fr t)⟩,
  ⟨Nat.le_refl _,fun i v k hi hk=>?_,fun k hk=>.inl (hown k hk),fun _ h=>.inl h,fun _ h=>.inl h,fun _ h=>h,fun _ h=>.inl h,fun _ _ _ _=>rfl,Nat.min_le_left _ _⟩⟩
 ·rcases hget i z v hi hv with ⟨rfl,hm⟩|⟨n1,n2,z0,h4,hm⟩
  ·rcases hr.fE b _ v hjb (hm.aC.trans hv) with ⟨k,b',q1,q2,q3⟩|⟨q1,q2⟩
   ·exact .inl ⟨k,b',by show aQ _ b E.ρ _ v=_;rw [hma];exact q1,q2,hmb _ _ _ hm q3⟩
   ·exact .inr ⟨by show aQ _ b E.ρ _ v=_;rw [hma];exact q1,hm.empty q2⟩
  ·rcases hr.fE i z0 v h4 (hm.aC.trans hv) with ⟨k,b',q1,q2,q3⟩|⟨q1,q2⟩
   ·exact .inl ⟨k,b',by show aQ a b E.ρ i v=_;rw [hmo n1 n2];exact q1,q2,hmb _ _ _ hm q3⟩
   ·exact .inr ⟨by show aQ a b E.ρ i v=_;rw [hmo n1 n2];exact q1,hm.empty q2⟩
 ·rcases hmi h1 with ⟨e1,p1⟩|⟨n1,n2,p1⟩
  ·rcases hmi h2 with ⟨e2,p2⟩|⟨m1,m2,p2⟩
   ·rw [e1,e2]
   ·exact absurd (hr.inj b i' v v' k p1 p2).symm m2
  ·rcases hmi h2 with ⟨e2,p2⟩|⟨m1,m2,p2⟩
   ·exact absurd (hr.inj i b v v' k p1 p2) n2
   ·exact hr.inj i i' v v' k p1 p2
 ·rcases hmi hk with ⟨rfl,h⟩|⟨_,_,h⟩
  ·exact hr.rn b v k h
  ·exact hr.rn i v k h
 ·rcases hget i z v h1 h2 with ⟨rfl,hm⟩|⟨n1,n2,z0,h4,hm⟩
  ·show aQ _ b E.ρ _ w=none
   rw [hma];exact hr.fresh b _ v w hjb (hm.aC.trans h2) h3
  ·show aQ a b E.ρ i w=none
   rw [hmo n1 n2];exact hr.fresh i z0 v w h4 (hm.aC.trans h2) h3
 ·show aQ a b E.ρ i v=none
  have hi:st.hp.length≤i:=by rw [←hl];exact hi
  rw [hmo (by omega) (by omega)]
  exact hr.new i v hi
 ·show aQ a b E.ρ i v=some k
  rw [hmo (by omega) (by omega)];exact hk
end
end Go.RM
namespace Go.RM
open Go
section
variable {T : bw} {tab : List XE} {one : Bool} {fl base : Nat} {E E' E2 : Env} {hp hp' hp2 : List AB} {aG amb' : bP} {H H' H2 : Hp} {ρ ρ2 : Nat → Nat → Option Nat} {g g2 : aE} {O O2 : Nat → Prop}
structure BI (tr:Nat→cC) (x:jM) (t:Tc):Prop where
 ev:H9 tr x t
 PT:∀ k ∈ t.rd,∃ p ∈ x.acc,p.wr=false∧eH tr x.i p k∧(p.own.isSome=true→Own (tr x.i).E.ρ (tr x.i).hp k)
 keep:x.call=true→(tr (x.i+1)).E=(tr x.i).E∧(tr (x.i+1)).hp=(tr x.i).hp
theorem BI.snoc {tr:Nat→cC} {i:Nat} {z:cC} {x:jM} {t:Tc} (h:BI tr x t) (hi:x.i < i):BI (snoc tr i z) x t :=
 ⟨h.ev.snoc hi,fun k hk=>by
  obtain ⟨p,a,b,c,d⟩:=h.PT k hk
  exact ⟨p,a,b,c.snoc (by omega),fun ho=>by rw [aV (by omega)];exact d ho⟩,
  fun hc=>by rw [aV (by omega),aV (by omega)];exact h.keep hc⟩
theorem eH.Pc {tr:Nat→cC} {i:Nat} {p:Acc} {k:Nat} (h:eH tr i p k) (ho:p.own.isSome=true) (hw:p.wr=true):Own (tr i).E.ρ (tr i).hp k:=by
 obtain ⟨_,_,h3⟩:=h
 cases hp:p.own with
 | none=>rw [hp] at ho;cases ho
 | some j =>
  rw [hp] at h3
  obtain ⟨_,_,h4⟩:=h3
  exact h4 hw
def Nx (o:Op):Bool :=
 match o with
 | .lookup ..=>false
 | .call ⟨.builtin .append,_,_⟩=>false
 | .call ⟨.builtin .len,_,_⟩=>false
 | _=>true
theorem Kj {tr:Nat→cC} {i:Nat} (ht:mZ base aG tr i) {bt:Nat→Nat} {fr:Nat→AV} {tm:Tr Value} (hb:fM tr i bt fr tm) {own:Bool} {o:Op} (hro:Nx o=true) {l:List Acc} (h:ED o fr (rj bt)=some l)
  {K:AV→List AB→Prop} (hw:wpOp T own o fr (tr i).hp K) {r w:List Nat} (hto:kN o (aS tm)=some (r,w)):∀ k ∈ r,∃ p ∈ l,p.wr=false∧eH tr i p k∧(p.own.isSome=true→Own (tr i).E.ρ (tr i).hp k):=by
 intro k hk
 obtain ⟨r',w',e1,e2,_⟩:=sQ ht hb h hw
 rw [hto] at e1
 simp only [Option.some.injEq,Prod.mk.injEq] at e1
 obtain ⟨rfl,rfl⟩:=e1
 by_cases hl:∃ t a,o=.load t a
 ·obtain ⟨t,a,rfl⟩:=hl
  have now:(tr i).ar (aP fr a) (aS tm a):=(ht.ext _ i (hb.eval a).1 (Nat.le_refl _)).ar (ht.rel _ (hb.eval a).1).wf (hb.eval a).2
  obtain ⟨p,p1,p2,p3⟩:=e2 k hk
  refine ⟨p,p1,p2,p3,fun ho=>?_⟩
  have hw:dZ T t (aP fr a) (tr i).hp K:=hw
  have h:ri (aP fr a) (rj bt a) false=some l:=h
  have hk:k ∈ bU (aS tm a):=by
   simp only [kN,Option.some.injEq,Prod.mk.injEq] at hto
   rw [hto.1];exact hk
  cases hv:aP fr a with
  | ptr j aC o =>
   rw [hv] at now hw
   obtain ⟨k',q1,q2⟩:=now.cE
   rw [q2] at hk
   obtain rfl:k=k':=by simpa [bU] using hk
   unfold dZ at hw
   split at hw
   ·rename_i e _
    cases e
   ·rename_i e _
    cases e
    obtain ⟨cs,es,h1,_⟩:=hw
    exact ⟨j,_,aC,h1,rfl,q1⟩
   ·exact hw.elim
  | pt =>
   rw [hv] at h
   simp only [ri,Option.some.injEq] at h
   subst h
   obtain rfl:=List.mem_singleton.1 p1
   cases ho
  | _ =>
   rw [hv] at hw
   unfold dZ at hw
   split at hw
   ·rename_i e _
    cases e
   ·rename_i e _
    cases e
   ·exact hw.elim
 ·exfalso
  revert hto hk
  unfold kN
  split
  ·rename_i t a
   exact absurd ⟨t,a,rfl⟩ hl
  ·intro h hk;cases h;cases hk
  ·cases hro
  ·intro h hk;cases h;cases hk
  ·intro h hk;cases h;cases hk
  ·intro h hk;cases h;cases hk
  ·intro h _;cases h
  ·intro h _;cases h
  ·intro h _;cases h
  ·cases hro
  ·cases hro
  ·intro h _;cases h
  ·intro h hk;cases h;cases hk
def sX (x y:jM):Bool :=
 x.acc.all (fun p=>y.acc.all (sP x.i p)) && ((!x.al && !x.call) || y.acc.all (fun q=>Nat.ble q.b x.i || (x.call && q.own.isSome))) && (!x.call || y.acc.all (fun q=>!q.wr)) && (!y.call || x.acc.all (fun p=>!p.wr))
def Kk (b:List Nat):List jM→Bool
 | []=>true
 | y :: l=>l.all (fun x=>(b.getD y.i 0).testBit x.i || sX x y) && Kk b l
theorem C2 {tr:Nat→cC} {n:Nat} (ht:mZ base aG tr n) {x y:jM} {s t:Tc} (hs:BI tr x s) (hy:BI tr y t) (hxy:x.i < y.i) (hn:y.i≤n) (hf:sX x y=true):conflict s t=false:=by
 cases hc:conflict s t with
 | false=>rfl
 | true =>
  exfalso
  unfold sX at hf
  simp only [Bool.and_eq_true,List.all_eq_true,Bool.or_eq_true,Bool.not_eq_true'] at hf
  obtain ⟨⟨⟨f1,f2⟩,f3⟩,f4⟩:=hf
  have two:∀ {k:Nat} {p q:Acc},p ∈ x.acc→q ∈ y.acc→eH tr x.i p k→eH tr y.i q k→(p.wr=true∨q.wr=true)→False:=fun hp hq ap aq hw=>uV ht hxy hn ap aq hw (f1 _ hp _ hq)
  have inn:∀ {k:Nat} {q:Acc},q ∈ y.acc→eH tr y.i q k→(q.own.isSome=true→Own (tr y.i).E.ρ (tr y.i).hp k)→s.a≤k→k < s.b→False:=by
   intro k q hq aq lq h1 h2
   rcases f2 with h|h
   ·have:=hs.ev.al h.1 h.2;omega
   ·rcases h q hq with h|⟨hcl,hos⟩
    ·have:=Nat.le_of_ble_eq_true h
     have:=(ht.ext q.b x.i this (by omega)).n
     have:=aq.2.1
     rw [hs.ev.a] at h1
     omega
    ·have hk:=hs.keep hcl
     rw [hs.ev.b] at h2
     rw [hs.ev.a] at h1
     rcases (ht.ext (x.i+1) y.i (by omega) hn).own k (lq hos) with h|h
     ·rw [hk.1,hk.2] at h
      have:=(ht.rel x.i (by omega)).jy h
      omega
     ·omega
  have out:∀ {k:Nat} {p:Acc},eH tr x.i p k→t.a≤k→False:=by
   intro k p ap h1
   have:=(ht.ext p.b x.i ap.1 (by omega)).n
   have:=(ht.ext x.i y.i (by omega) hn).n
   have:=ap.2.1
   rw [hy.ev.a] at h1
   omega
  unfold conflict at hc
  simp only [Bool.or_eq_true,Bool.and_eq_true,Bool.not_eq_true'] at hc
  rcases hc with (((((((hc|hc)|hc)|hc)|hc)|hc)|hc)|hc)|hc
  ·obtain ⟨k,k1,k2⟩:=fY.1 hc
   obtain ⟨p,p1,p2,p3⟩:=hs.ev.wr k k1
   obtain ⟨q,q1,q2,q3⟩:=hy.ev.rd k k2
   exact two p1 q1 p3 q3 (.inl p2)
  ·obtain ⟨k,k1,k2⟩:=fY.1 hc
   obtain ⟨p,p1,p2,p3⟩:=hs.ev.wr k k1
   obtain ⟨q,q1,q2,q3⟩:=hy.ev.wr k k2
   exact two p1 q1 p3 q3 (.inl p2)
  ·obtain ⟨k,k1,k2⟩:=fY.1 hc
   obtain ⟨q,q1,q2,q3⟩:=hy.ev.wr k k1
   obtain ⟨p,p1,p2,p3⟩:=hs.ev.rd k k2
   exact two p1 q1 p3 q3 (.inr q2)
  ·rw [hs.ev.call] at hc
   cases hw:t.wr with
   | nil=>rw [hw] at hc;simp at hc
   | cons k l =>
    obtain ⟨q,q1,q2,q3⟩:=hy.ev.wr k (by rw [hw];simp)
    rcases f3 with h|h
    ·rw [hc.1] at h;cases h
    ·rw [h q q1] at q2;cases q2
  ·rw [hy.ev.call] at hc
   cases hw:s.wr with
   | nil=>rw [hw] at hc;simp at hc
   | cons k l =>
    obtain ⟨p,p1,p2,p3⟩:=hs.ev.wr k (by rw [hw];simp)
    rcases f4 with h|h
    ·rw [hc.1] at h;cases h
    ·rw [h p p1] at p2;cases p2
  ·obtain ⟨k,k1,k2,k3⟩:=within_iff.1 hc
   obtain ⟨q,q1,q2,q3,q4⟩:=hy.PT k k1
   exact inn q1 q3 q4 k2 k3
  ·obtain ⟨k,k1,k2,k3⟩:=within_iff.1 hc
   obtain ⟨q,q1,q2,q3⟩:=hy.ev.wr k k1
   exact inn q1 q3 (fun ho=>q3.Pc ho q2) k2 k3
  ·obtain ⟨k,k1,k2,k3⟩:=within_iff.1 hc
   obtain ⟨p,p1,p2,p3⟩:=hs.ev.rd k k1
   exact out p3 k2
  ·obtain ⟨k,k1,k2,k3⟩:=within_iff.1 hc
   obtain ⟨p,p1,p2,p3⟩:=hs.ev.wr k k1
   exact out p3 k2
inductive mA (tr:Nat→cC):Nat→List jM→List Ev→Prop
 | nil:mA tr 0 [] []
 | cons {i:Nat} {x:jM} {ev:Ev} {l:List jM} {m:List Ev}:mA tr i l m→x.i=i→BI tr x ev.t→mA tr (i+1) (x :: l) (ev :: m)
theorem mA.lt {tr:Nat→cC} {i:Nat} {l:List jM} {m:List Ev} (h:mA tr i l m):∀ x ∈ l,x.i < i:=by
 induction h with
 | nil=>intro x hx;cases hx
 | cons _ hi _ ih =>
  intro y hy
  rcases List.mem_cons.1 hy with rfl|hy
  ·omega
  ·have:=ih y hy;omega
theorem mA.snoc {tr:Nat→cC} {i:Nat} {z:cC} {l:List jM} {m:List Ev}:∀ {j:Nat},mA tr j l m→j≤i→mA (snoc tr i z) j l m:=by
 intro j h
 induction h with
 | nil=>intro _;exact .nil
 | cons _ hi he ih=>intro hj;exact .cons (ih (by omega)) hi (he.snoc (by omega))
theorem mA.pairs {tr:Nat→cC} {n:Nat} (ht:mZ base aG tr n) {b:List Nat} {i:Nat} {l:List jM} {m:List Ev} (h:mA tr i l m):i≤n→Kk b l=true→dF T b m=true:=by
 induction h with
 | nil=>intro _ _;rfl
 | cons hl hi he ih =>
  rename_i i y ev l m
  intro hn hc
  simp only [Kk,Bool.and_eq_true,List.all_eq_true] at hc
  simp only [dF,Bool.and_eq_true,List.all_eq_true]
  refine ⟨?_,ih (by omega) hc.2⟩
  have hc1:=hc.1
  clear ih hc
  have key:∀ {j:Nat} {l:List jM} {m:List Ev},mA tr j l m→(∀ x ∈ l,(b.getD y.i 0).testBit x.i=true∨sX x y=true)→j≤y.i→∀ s ∈ m,(!conflict s.t ev.t || (b.getD ev.t.idx 0).testBit s.t.idx || spare T s ev)=true:=by
   intro j l m h
   induction h with
   | nil=>intro _ _ s hs;cases hs
   | cons hl' hi' he' ih' =>
    rename_i x ev' _ _
    intro hx hj s hs
    rcases List.mem_cons.1 hs with rfl|hs
    ·rcases hx x (by simp) with h|h
     ·rw [he.ev.idx,he'.ev.idx,h];simp
     ·rw [C2 ht he' he (by omega) (by omega) h];simp
    ·exact ih' (fun z hz=>hx z (List.mem_cons_of_mem _ hz)) (by omega) s hs
  exact key hl (fun x hx=>by simpa using hc1 x hx) (by omega)
def hH (T:bw) (tab:List XE) (mu:Tmp→Bool) (ops:Array Oper):List Oper→Nat→(Nat→Nat)→List jM→bG→(bG→Prop)→Prop
 | [],_,_,acc,st,K=>Kk (sw ops) acc=true∧K st
 | ⟨dst,op,_,_,_,gd⟩ :: l,i,bt,acc,⟨fr,hp,aG,rd,fl⟩,K =>
  ct ops.toList gd fr (eL T tab mu dst op i bt fr hp fun fr' hp' bt' x=>hH T tab mu ops l (i+1) bt' (x :: acc) ⟨fr',hp',aG,rd,fl⟩ K)
   (gk dst fr (.tp []) fun fr'=>hH T tab mu ops l (i+1) (kI dst bt 0) (⟨i,[],false,false⟩ :: acc) ⟨fr',hp,aG,rd,fl⟩ K)
theorem kJ {mu:Tmp→Bool} {ops:Array Oper}:∀ {l:List Oper} {i:Nat} {bt:Nat→Nat} {acc:List jM} {evs:List Ev} {st:bG} {K:bG→Prop} {tr:Nat→cC} {s:St},(l.all fun o=>Nx o.op)=true→hH T tab mu ops l i bt acc st K →
  mZ base st.aG tr i→(tr i).hp=st.hp→(tr i).H=s.hp→s.rd=st.rd→fM tr i bt st.fr s.fr→mA tr i acc evs →
  ∃ m s',bR T (RX T tab m) ops l i s evs=some [s']∧∃ E' st',K st'∧st'.fl=st.fl∧mB E' base st' s'∧Ext base (tr 0).E (tr 0).hp (tr 0).H E' st'.hp s'.hp
 | [],i,bt,acc,evs,st,K,tr,s,_,h,ht,h1,h2,h3,hb,he=>by
  obtain ⟨hc,hk⟩:=h
  have hrel:=ht.rel i (Nat.le_refl _)
  have hok:cS T ops evs=true:=by
   unfold cS
   cases hq:(evs.all fun e=>e.t.wr.isEmpty && Nat.beq e.t.a e.t.b) with
   | true=>rfl
   | false=>exact he.pairs ht (Nat.le_refl _) hc
  refine ⟨0,s,by rw [eD,hok];rfl,(tr i).E,st,hk,rfl,⟨by rw [←h1,←h2];exact hrel,h3,fun t=>?_⟩,by rw [←h1,←h2];exact ht.ext 0 i (Nat.zero_le _) (Nat.le_refl _)⟩
  have:=(ht.ext _ i (hb t).1 (Nat.le_refl _)).ar (ht.rel _ (hb t).1).wf (hb t).2
  rw [←h1,←h2]
  exact this
 | o :: l,i,bt,acc,evs,st,K,tr,s,hro,h,ht,h1,h2,h3,hb,he=>by
  have h:ct ops.toList o.guard st.fr (eL T tab mu o.dst o.op i bt st.fr st.hp fun fr' hp' bt' x=>hH T tab mu ops l (i+1) bt' (x :: acc) ⟨fr',hp',st.aG,st.rd,st.fl⟩ K)
   (gk o.dst st.fr (.tp []) fun fr'=>hH T tab mu ops l (i+1) (kI o.dst bt 0) (⟨i,[],false,false⟩ :: acc) ⟨fr',st.hp,st.aG,st.rd,st.fl⟩ K):=h
  rw [List.all_cons,Bool.and_eq_true] at hro
  obtain ⟨hro1,hro2⟩:=hro
  have hrel:=ht.rel i (Nat.le_refl _)
  have hfr:jL (tr i).E.ρ (tr i).H.get ((tr i).E.O (tr i).hp) st.fr s.fr:=fun t=>(ht.ext _ i (hb t).1 (Nat.le_refl _)).ar (ht.rel _ (hb t).1).wf (hb t).2
  have hz0:(snoc tr i (tr i) 0)=tr 0:=aV (Nat.zero_le _)
  rcases mX hfr h with ⟨hg,h⟩|⟨hg,h⟩
  ·
   have go:∀ (z:cC) (v:AV) (u:Value) (b:Nat) (x:jM) (t:Tc) (m0:Nat),aK z.E base z.hp st.aG z.H→Ext base (tr i).E (tr i).hp (tr i).H z.E z.hp z.H→b≤i+1→(snoc tr i z b).ar v u→x.i=i→BI (snoc tr i z) x t →
     (∀ m,m0≤m→aY T (RX T tab m) o.op i s=some (u,z.H,t))→hH T tab mu ops l (i+1) (kI o.dst bt b) (x :: acc) ⟨wO st.fr o.dst v,z.hp,st.aG,st.rd,st.fl⟩ K →
     ∃ m s',bR T (RX T tab m) ops (o :: l) i s evs=some [s']∧∃ E' st',K st'∧st'.fl=st.fl∧mB E' base st' s'∧Ext base (tr 0).E (tr 0).hp (tr 0).H E' st'.hp s'.hp:=by
    intro z v u b x t m0 hz he' hbi hv hxi hx hd hw
    obtain ⟨m,s',r1,r2⟩:=kJ (s:=⟨ek s.fr o.dst u,z.H,s.rd⟩) (evs:=⟨o,s,u,z.H,t⟩ :: evs) hro2 hw (ht.snoc hz he') (by rw [aW (Nat.lt_succ_self _)]) (by rw [aW (Nat.lt_succ_self _)]) h3 (hb.put hbi hv o.dst) (.cons (he.snoc (Nat.le_refl _)) hxi hx)
    rw [aV (Nat.zero_le _)] at r2
    refine ⟨max m0 m,s',?_,r2⟩
    rw [bF,hg]
    simp only [cond_true,hd _ (Nat.le_max_left _ _)]
    exact ir (eu (Nat.le_max_right _ _)) _ _ _ _ _ _ r1
   unfold eL at h
   split at h
   ·rename_i f args hk
    have h:=ee (bK h)
    obtain ⟨hF,vs,v,hhand,⟨hvd,hpure⟩,h⟩:=h
    have hF':=(uP hfr f).deep hF
    have hget:({s.hp with lo:=s.hp.n}:Hp).get=(tr i).H.get:=by rw [h2];rfl
    obtain ⟨goal,hgo,m0,L,q1,q2,q3⟩:∃ goal,cA (jQ T.P s.fr f) (args.map (aS s.fr))=some goal ∧
      ∃ m L,RX T tab m (gK {s.hp with lo:=s.hp.n} goal)=some L∧(true=true→∃ r,L=[r])∧∀ r ∈ L,∃ w H',r=.ret w H' ∧
       ({s.hp with lo:=s.hp.n}:Hp).n≤H'.n∧Wf H'∧(∀ k,k < ({s.hp with lo:=s.hp.n}:Hp).n→H'.get k=({s.hp with lo:=s.hp.n}:Hp).get k)∧min ({s.hp with lo:=s.hp.n}:Hp).lo ({s.hp with lo:=s.hp.n}:Hp).n≤H'.lo∧DR H'.get ((tr i).E.O (tr i).hp) v w:=by
     rcases hhand with ⟨rfl,hA⟩|⟨hz,hfree⟩
     ·have hA':=(dK hfr args).deep hA
      exact hpure ((tr i).E.O (tr i).hp) {s.hp with lo:=s.hp.n} _ _ (by rw [h2] at hrel;exact hrel.wf) (fun k hk=>by
       have:k < (tr i).H.n:=hk.elim (fun h=>hrel.jy h) (hrel.xn k)
       rw [h2] at this;exact this) (by rw [hget];exact hF') (by rw [hget];exact hA')
     ·obtain ⟨goal,hgo,m0,L,q1,q2,q3⟩:=hpure (tr i).E.X {s.hp with lo:=s.hp.n} _ _ (by rw [h2] at hrel;exact hrel.wf) (fun k hk=>by
       have:k < (tr i).H.n:=hrel.xn k hk
       rw [h2] at this;exact this) (by rw [hget];exact hF'.mono fun k b hk ho=>⟨hk,fun hx=>ho (.inr hx)⟩) (by
        rw [hget]
        rw [←h1] at hz
        exact hz.dr hrel (fun _ h=>h) (dK hfr args))
      refine ⟨goal,hgo,m0,L,q1,q2,fun r hm=>?_⟩
      obtain ⟨w,H',e1,e2,e3,e4,e5,e6⟩:=q3 r hm
      exact ⟨w,H',e1,e2,e3,e4,e5,hfree.2 _ _ _ _ e6⟩
    obtain ⟨r,hr⟩:=q2 rfl
    subst hr
    obtain ⟨w,H',rfl,hn,hwf,hsame,hlo,hdr⟩:=q3 r (by simp)
    obtain ⟨g1,g2⟩:=hrel.grow (H':={H' with lo:=s.hp.lo}) (by rw [h2];exact hn) hwf (fun k hk=>by
     have:=hsame k (by rw [←h2];exact hk)
     rw [h2];exact this) (by rw [h2];exact Nat.min_le_left _ _)
    refine go ⟨(tr i).E,st.hp,{H' with lo:=s.hp.lo}⟩ v w (i+1) ⟨i,[],true,true⟩ ⟨i,[],[],true,s.hp.n,H'.n⟩ m0 (by rw [←h1];exact g1) (by rw [←h1];exact g2) (Nat.le_refl _) ?_ rfl ?_ (fun m hm=>?_) (dL h)
    ·rw [aW (Nat.lt_succ_self _)]
     refine .d ?_
     show DR H'.get ((tr i).E.O st.hp) v w
     rw [←h1];exact hdr
    ·refine ⟨⟨rfl,by rw [aV (Nat.le_refl _),h2],by rw [aW (Nat.lt_succ_self _)],fun h=>Bool.noConfusion h,rfl,fun k hk=>(by cases hk),fun k hk=>(by cases hk)⟩,fun k hk=>(by cases hk),fun _=>?_⟩
     rw [aW (Nat.lt_succ_self _),aV (Nat.le_refl _)]
     exact ⟨rfl,h1.symm⟩
    ·unfold aY
     simp only [hk,hgo,eu hm _ _ q1]
     have:Nat.ble s.hp.n H'.lo=true:=Nat.ble_eq_true_of_le (by
      have:min s.hp.n s.hp.n≤H'.lo:=hlo
      omega)
     rw [nC this]
   ·exact h.elim
   ·rename_i hk
    obtain ⟨a,hacc,hw⟩:=h
    have hw':=hw
    rw [←h1] at hw'
    obtain ⟨r,w,ht1,ht2,ht3⟩:=sQ ht hb hacc hw'
    have evr:∀ (z:cC) (u:Value) (e:bL),iJ T s.hp.n o.op (aS s.fr) s.hp.get=some (u,e)→z.H=s.hp.app e→BI (snoc tr i z) ⟨i,a,news? o.op,false⟩ ⟨i,r,w,false,s.hp.n,(s.hp.app e).n⟩:=by
     intro z u e hop hz
     refine ⟨⟨rfl,by rw [aV (Nat.le_refl _),h2],by rw [aW (Nat.lt_succ_self _),hz],fun hal _=>(rm (uU hop hal)).symm,rfl,fun k hk=>?_,fun k hk=>?_⟩,fun k hk=>?_,fun h=>Bool.noConfusion h⟩
     ·obtain ⟨p,p1,p2,p3⟩:=ht2 k hk;exact ⟨p,p1,p2,p3.snoc (Nat.le_refl _)⟩
     ·obtain ⟨p,p1,p2,p3⟩:=ht3 k hk;exact ⟨p,p1,p2,p3.snoc (Nat.le_refl _)⟩
     ·obtain ⟨p,p1,p2,p3,p4⟩:=Kj ht hb hro1 hacc hw' ht1 k hk
      exact ⟨p,p1,p2,p3.snoc (Nat.le_refl _),fun ho=>by rw [aV (Nat.le_refl _)];exact p4 ho⟩
    have drw:∀ (u:Value) (e:bL) (m:Nat),iJ T s.hp.n o.op (aS s.fr) s.hp.get=some (u,e)→aY T (RX T tab m) o.op i s=some (u,s.hp.app e,⟨i,r,w,false,s.hp.n,(s.hp.app e).n⟩):=by
     intro u e m hop
     unfold aY
     simp only [hk,ht1,hop]
    by_cases hm:∃ x,xG o.op st.fr=some [x]
    ·obtain ⟨x,hm⟩:=hm
     have hbirth:kj o.op st.fr bt i=rj bt x:=by unfold kj;rw [hm]
     have hbx:=hb.eval x
     have eb:=ht.ext _ i hbx.1 (Nat.le_refl _)
     obtain ⟨u,v,r1,r2,r3,r4⟩:=uT (ρ2:=(tr (rj bt x)).E.ρ) (g2:=(tr (rj bt x)).H.get) (O2:=(tr (rj bt x)).E.O (tr (rj bt x)).hp) (n:=s.hp.n) hfr hm (fun y hy=>by
      obtain rfl:=List.mem_singleton.1 hy;exact hbx.2) (fun k b hk ho=>(eb.keep (ht.rel _ hbx.1).wf k b hk ho).1) hw
     rw [h2] at r1
     have hz:(tr i).H=s.hp.app .none:=h2
     rw [hbirth] at r2
     refine go (tr i) v u (rj bt x) ⟨i,a,news? o.op,false⟩ ⟨i,r,w,false,s.hp.n,(s.hp.app .none).n⟩ 0 hrel .refl (by omega) (by rw [aV hbx.1];exact r4) rfl (evr _ u .none r1 hz) (fun m _=>by rw [hz];exact drw u .none m r1) (by rw [h1];exact dL (bK r2))
    ·have hbirth:kj o.op st.fr bt i=i+1:=by
      unfold kj
      split
      ·rename_i x hx;exact absurd ⟨x,hx⟩ hm
      ·rfl
     obtain ⟨u,e,E',v,hp',r1,r2,r3,r4,r5⟩:=lU hrel hfr hw'
     rw [h2] at r1 r3 r4 r5
     rw [hbirth] at r2
     refine go ⟨E',hp',s.hp.app e⟩ v u (i+1) ⟨i,a,news? o.op,false⟩ ⟨i,r,w,false,s.hp.n,(s.hp.app e).n⟩ 0 r3 (by rw [h2];exact r4) (Nat.le_refl _) (by rw [aW (Nat.lt_succ_self _)];exact r5) rfl (evr _ u e r1 rfl) (fun m _=>drw u e m r1) (dL (bK r2))
  ·obtain ⟨m,s',r1,r2⟩:=kJ (s:=⟨ek s.fr o.dst undef,s.hp,s.rd⟩) (evs:=⟨o,s,undef,s.hp,⟨i,[],[],false,s.hp.n,s.hp.n⟩⟩ :: evs) hro2 (dL h) (ht.snoc (z:=tr i) hrel .refl) (by rw [aW (Nat.lt_succ_self _)];exact h1) (by rw [aW (Nat.lt_succ_self _)];exact h2) h3
    (hb.put (Nat.zero_le _) qc o.dst) (.cons (he.snoc (Nat.le_refl _)) rfl ⟨⟨rfl,by rw [aV (Nat.le_refl _),h2],by rw [aW (Nat.lt_succ_self _),h2],fun _ _=>rfl,rfl,fun k hk=>(by cases hk),fun k hk=>(by cases hk)⟩,fun k hk=>(by cases hk),fun h=>Bool.noConfusion h⟩)
   rw [hz0] at r2
   refine ⟨m,s',?_,r2⟩
   rw [bF,hg]
   exact r1
theorem aB.Pd {id:Nat} {l:List Oper} {mu:Tmp→Bool} {st:bG} {K:Exit→bG→Prop} (hd:l.any s9=false) (hr:(l.all fun o=>Nx o.op)=true) (h:hH T tab mu l.toArray l 0 (fun _=>0) [] st (K .normal)):aB T tab one (.region id l.toArray true) st K:=by
 intro E base s hs
 obtain ⟨m,s',r1,E',st',r2,r3,r4,r5⟩:=kJ (base:=base) (tr:=fun _=>⟨E,st.hp,s.hp⟩) (evs:=[]) hr h ⟨fun _ _=>hs.h,fun _ _ _ _=>.refl⟩ rfl rfl hs.rd (fun t=>⟨Nat.le_refl _,hs.fr t⟩) .nil
 refine ⟨m,[(.normal,s')],?_,fun _=>⟨_,rfl⟩,fun p hp=>?_⟩
 ·rw [eE]
  have:bW T (RX T tab m) l.toArray s=some [s']:=rY (by rw [xM hd]) (by
   simpa using r1)
  simp only [cond_true,this]
  rfl
 ·obtain rfl:=List.mem_singleton.1 hp
  exact ⟨E',st',r2,r3,r4,r5.Jq⟩
variable {mu : Tmp → Bool} {fr : Nat → AV} {KS : bG → Prop} {rd : Bool} {dst : Option Tmp}
theorem Qo {ops:Array Oper} {op:Op} {a1 a2 a3 gd} {l:List Oper} {i:Nat} {bt:Nat→Nat} {acc:List jM}
 (h:ct ops.toList gd fr (eL T tab mu dst op i bt fr hp fun fr' hp' bt' x=>hH T tab mu ops l (i+1) bt' (x :: acc) ⟨fr',hp',aG,rd,fl⟩ KS)
  (gk dst fr (.tp []) fun fr'=>hH T tab mu ops l (i+1) (kI dst bt 0) (⟨i,[],false,false⟩ :: acc) ⟨fr',hp,aG,rd,fl⟩ KS)):hH T tab mu ops (⟨dst,op,a1,a2,a3,gd⟩ :: l) i bt acc ⟨fr,hp,aG,rd,fl⟩ KS:=h
end
end Go.RM
