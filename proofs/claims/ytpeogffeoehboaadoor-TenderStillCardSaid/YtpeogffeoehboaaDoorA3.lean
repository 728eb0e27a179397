/-
  A layer of contracts over the abstract machine. Lemmas alone; no condition.
-/
import Derived.Test.YtpeogffeoehboaaDoorA1
import Derived.Test.YtpeogffeoehboaaDoorA2
import Derived.IntWalk
namespace Go.RM
open Go
theorem FJ {P:Program} {t:TypeId} {x y:Operand} {m n:Int} (h0:0≤m) (h2:1≤n):fV P .rem t x y (.int .i64 m) (.int .i64 n)=some (.int .i64 (m % n),.none):=by
 have hn:n ≠ 0:=by omega
 have h:fV P .rem t x y (.int .i64 m) (.int .i64 n)=some (.int .i64 (m.tmod n),.none):=by
  show eV P .rem t x y (.int .i64 m) (.int .i64 n)=_
  unfold eV
  simp only [flat,aK,Bool.and_self,cond_true]
  have:(do eqGuard BinOp.rem t x y (Value.int IntKind.i64 m) (Value.int IntKind.i64 n);binOp BinOp.rem t (Value.int IntKind.i64 m) (Value.int IntKind.i64 n):Sem Value)=pure (.int .i64 (m.tmod n)):=by
   show Op.intDiv .rem .i64 m n=_
   unfold Op.intDiv
   rw [if_neg hn]
  rw [this]
  rfl
 rw [h,IntWalk.rem_in m n h0]
theorem FK {P:Program} {t:TypeId} {x y:Operand} {m n:Int} (h0:0≤m) (h1:m≤9223372036854775807) (h2:1≤n):fV P .quo t x y (.int .i64 m) (.int .i64 n)=some (.int .i64 (m / n),.none):=by
 have hn:n ≠ 0:=by omega
 have h:fV P .quo t x y (.int .i64 m) (.int .i64 n)=some (.int .i64 (IntKind.i64.wrap (m.tdiv n)),.none):=by
  show eV P .quo t x y (.int .i64 m) (.int .i64 n)=_
  unfold eV
  simp only [flat,aK,Bool.and_self,cond_true]
  have:(do eqGuard BinOp.quo t x y (Value.int IntKind.i64 m) (Value.int IntKind.i64 n);binOp BinOp.quo t (Value.int IntKind.i64 m) (Value.int IntKind.i64 n):Sem Value)=pure (.int .i64 (IntKind.i64.wrap (m.tdiv n))):=by
   show Op.intDiv .quo .i64 m n=_
   unfold Op.intDiv
   rw [if_neg hn]
  rw [this]
  rfl
 rw [h,IntWalk.i64_quo m n ⟨h0,h1,h2⟩]
section
variable {T : bk} {tab : List XE} {one : Bool} {mu : Tmp → Bool}
theorem pR {ops:List Oper} {j:Nat} {want:Bool} {fr:Nat→AV} {yes no:Prop} {d:Tmp} {a0 a1 a2 a3 a4} {b:Bool} (h1:ops[j]?=some ⟨some d,a0,a1,a2,a3,a4⟩) (h2:fr d=.fl (.bool b)) (h3:b=want) (y:yes):cv ops (some (j,want)) fr yes no:=by
 unfold cv
 simp only [h1,h2]
 exact eC h3 y
theorem sv {ops:List Oper} {j:Nat} {want:Bool} {fr:Nat→AV} {yes no:Prop} {d:Tmp} {a0 a1 a2 a3 a4} {b:Bool} (h1:ops[j]?=some ⟨some d,a0,a1,a2,a3,a4⟩) (h2:fr d=.fl (.bool b)) (h3:b=!want) (n:no):cv ops (some (j,want)) fr yes no:=by
 unfold cv
 simp only [h1,h2]
 exact eX h3 n
theorem v7 {ops:List Oper} {j:Nat} {want:Bool} {fr:Nat→AV} {yes no:Prop} {d:Tmp} {a0 a1 a2 a3 a4} {vs:List AV} (h1:ops[j]?=some ⟨some d,a0,a1,a2,a3,a4⟩) (h2:fr d=.tp vs) (n:no):cv ops (some (j,want)) fr yes no:=by
 unfold cv
 simp only [h1,h2]
 exact n
end
end Go.RM
namespace Go.RM
open Go
theorem EL {v:AV} {K:AV→Prop} (h:K v):force v K:=by cases v <;> exact h
section
variable {T : bk} {tab : List XE} {one : Bool} {mu : Tmp → Bool} {own : Bool} {fr : Nat → AV} {hp : List AB} {aE : cF} {rd : Bool} {fl : Nat} {K : AV → List AB → Prop} {KE : Exit → bI → Prop} {KS : bI → Prop} {st : bI} {dst : Option Tmp}
theorem c1 (h:KE .normal st):kP T tab one mu .skip st KE:=h
theorem c2 {a b:Code} (h:kP T tab one mu a st (r0 (fun s=>kP T tab one mu b s KE) KE)):kP T tab one mu (.seq a b) st KE:=h
theorem c3 {id:Nat} {c:Code} (h:kP T tab one mu c st (iN id KE)):kP T tab one mu (.block id c) st KE:=h
theorem c4 {id:Nat} {l:List Oper} (h:wpOps T tab one mu l l st (KE .normal)):kP T tab one mu (.region id l.toArray false) st KE:=h
theorem c5 {id:Nat} {l l1 l2:List Oper} {c:Nat} (hc:eR l.toArray=c) (h1:l.take c=l1) (h2:l.drop c=l2) (h:gO T tab mu l.toArray l1 0 (fun _=>0) [] st fun s=>wpOps T tab one mu l l2 s (KE .normal)):kP T tab one mu (.region id l.toArray true) st KE:=by
 subst hc h1 h2
 exact h
theorem c6 {id:Nat} (h:KE (.exit id) st):kP T tab one mu (.exit id) st KE:=h
theorem c7 (h:KE .ret st):kP T tab one mu .ret st KE:=h
theorem c8 {c:Code} (h:kP T tab one mu c st (oQ KE)):kP T tab one mu (.scope c) st KE:=h
theorem c9 {Q:bI→Prop} (h:Q st):r0 Q KE .normal st:=h
theorem d1 {Q:bI→Prop} (h:KE .ret st):r0 Q KE .ret st:=h
theorem d2 {Q:bI→Prop} {id:Nat} (h:KE (.exit id) st):r0 Q KE (.exit id) st:=h
theorem d3 {id:Nat} (h:KE .normal st):iN id KE .normal st:=h
theorem d4 {id:Nat} (h:KE .ret st):iN id KE .ret st:=h
theorem d5 {id id':Nat} (hb:Nat.beq id' id=true) (h:KE .normal st):iN id KE (.exit id') st:=by unfold iN;simp only [hb,cond_true];exact h
theorem d6 {id id':Nat} (hb:Nat.beq id' id=false) (h:KE (.exit id') st):iN id KE (.exit id') st:=by unfold iN;simp only [hb,cond_false];exact h
theorem d7 (h:KE .normal st):oQ KE .normal st:=h
theorem d8 (h:KE .ret st):oQ KE .ret st:=h
theorem d9 {id:Nat} (h:KE (.exit id) st):oQ KE (.exit id) st:=h
theorem e1 {c:Operand} {a b:Code} {t:Bool} (hc:aL st.fr c=.fl (.bool t)) (h:(t=true→kP T tab one mu a st KE)∧(t=false→kP T tab one mu b st KE)):kP T tab one mu (.cond c a b) st KE:=by
 show (match aL st.fr c with|.fl (.bool t)=>_|_=>False)
 rw [hc];exact h
theorem e2 {c:Operand} {a b:Code} {t:Bool} (hc:aL st.fr c=.fl (.bool t)) (ht:t=true) (h:kP T tab one mu a st KE):kP T tab one mu (.cond c a b) st KE:=e1 hc (FC ht h)
theorem e3 {c:Operand} {a b:Code} {t:Bool} (hc:aL st.fr c=.fl (.bool t)) (ht:t=false) (h:kP T tab one mu b st KE):kP T tab one mu (.cond c a b) st KE:=e1 hc (IV ht h)
theorem o1 {ops:List Oper} (h:KS st):wpOps T tab one mu ops [] st KS:=h
theorem o2 {ops:List Oper} {op:Op} {a1 a2 a3 gd} {l:List Oper}
 (h:cv ops gd fr (nN T tab one mu dst op fr hp aE rd fl fun st'=>wpOps T tab one mu ops l st' KS) (gk dst fr (.tp []) fun fr'=>wpOps T tab one mu ops l ⟨fr',hp,aE,rd,fl⟩ KS)):wpOps T tab one mu ops (⟨dst,op,a1,a2,a3,gd⟩ :: l) ⟨fr,hp,aE,rd,fl⟩ KS:=h
theorem o3 {ops:Array Oper} {op:Op} {a1 a2 a3 gd} {l:List Oper} {i:Nat} {bt:Nat→Nat} {acc:List nQ}
 (h:cv ops.toList gd fr (fM T tab mu dst op i bt fr hp fun fr' hp' bt' x=>gO T tab mu ops l (i+1) bt' (x :: acc) ⟨fr',hp',aE,rd,fl⟩ KS)
  (gk dst fr (.tp []) fun fr'=>gO T tab mu ops l (i+1) (lA dst bt 0) (⟨i,[],false,false⟩ :: acc) ⟨fr',hp,aE,rd,fl⟩ KS)):gO T tab mu ops (⟨dst,op,a1,a2,a3,gd⟩ :: l) i bt acc ⟨fr,hp,aE,rd,fl⟩ KS:=h
theorem o4 {ops:List Oper} {yes no:Prop} (h:yes):cv ops none fr yes no:=h
theorem o5 {d:Tmp} {v:AV} {P:(Nat→AV)→Prop} (h:P fun t=>bif Nat.beq t d then v else fr t):gk (some d) fr v P:=h
theorem o6 {v:AV} {P:(Nat→AV)→Prop} (h:P fr):gk none fr v P:=h
theorem o7 {f:Operand} {l:List Operand} {tys} (h:force (aL fr f) fun F=>dO (l.map (aL fr)) fun as=>ak T tab one F as hp aE fun v hp' amb'=>gk dst fr v fun fr'=>KS ⟨fr',hp',amb',rd,fl⟩) :
 nN T tab one mu dst (.call ⟨.value f,l.toArray,tys⟩) fr hp aE rd fl KS:=h
theorem o8 {op:Op} (hk:cZ op=.plain) (h:wpOp T (FB mu dst) op fr hp fun v hp'=>force v fun v=>gk dst fr v fun fr'=>KS ⟨fr',hp',aE,rd,fl⟩):nN T tab one mu dst op fr hp aE rd fl KS:=by
 unfold nN;rw [hk];exact h
theorem o9 {x:Operand} {l:List Operand} {f:Operand→AV} {P:List AV→Prop} (h:force (f x) fun a=>dO (l.map f) fun l=>P (a :: l)):dO ((x :: l).map f) P:=h
theorem p1 {f:Operand→AV} {P:List AV→Prop} (h:P []):dO (([]:List Operand).map f) P:=h
theorem p2 {x:Operand} (h:K (aL fr x) hp):wpOp T own (.move x) fr hp K:=h
theorem p3 {x:Operand} (h:K (aL fr x) hp):wpOp T own (.assign x) fr hp K:=h
theorem p4 {c a b:Operand} (h:oL (aL fr c) (aL fr a) (aL fr b) hp K):wpOp T own (.pick c a b) fr hp K:=h
theorem p5 {o:BinOp} {t e:TypeId} {x y:Operand} (h:cM T o t x y (aL fr x) (aL fr y) hp K):wpOp T own (.binOp o t x y e) fr hp K:=h
theorem p6 {x:Operand} {t:TypeId} (h:force (aL fr x) fun v=>kL T t v hp K):wpOp T own (.call ⟨.builtin .len,[x].toArray,[t].toArray⟩) fr hp K:=EL (bV h)
theorem p7 {f:FuncId} {a b:List Operand} (h:dO (a.map (aL fr)) fun a=>dO (b.map (aL fr)) fun b=>K (.fn f a b) hp):wpOp T own (.makeFunc (.func f) a.toArray b.toArray) fr hp K:=h
theorem p8 {x:Operand} (h:nJ (aL fr x) hp K):wpOp T own (.nilCheck x) fr hp K:=h
theorem p9 {op:Op} {i:Nat} {bt:Nat→Nat} {KD:(Nat→AV)→List AB→(Nat→Nat)→nQ→Prop} (hk:cZ op=.plain) (h:∃ a,EC op fr (vY bt)=some a∧wpOp T (FB mu dst) op fr hp fun v hp'=>force v fun v=>gk dst fr v fun fr'=>KD fr' hp' (lA dst bt (mh op fr bt i)) ⟨i,a,news? op,false⟩) :
  fM T tab mu dst op i bt fr hp KD:=by
 unfold fM;rw [hk];exact h
theorem yp {v:AV} {P:AV→Prop} (h:P v):force v P:=by cases v <;> exact h
theorem uG:∀ {l:List AV} {P:List AV→Prop},P l→dO l P
 | [],_,h=>h
 | _ :: _,_,h=>yp (uG (P:=fun _=>_) h)
theorem A2 {f:Operand} {l:List Operand} {tys} {i:Nat} {bt:Nat→Nat} {KD:(Nat→AV)→List AB→(Nat→Nat)→nQ→Prop} (h:(aL fr f).deep=true∧∃ vs v,Handed hp (l.map (aL fr)) vs v∧af T tab true (aL fr f) vs v∧gk dst fr v fun fr'=>KD fr' hp (lA dst bt (i+1)) ⟨i,[],true,true⟩) :
  fM T tab mu dst (.call ⟨.value f,l.toArray,tys⟩) i bt fr hp KD:=by
 show force (aL fr f) fun F=>dO (l.map (aL fr)) fun as=>F.deep=true∧∃ vs v,Handed hp as vs v∧af T tab true F vs v∧gk dst fr v fun fr'=>KD fr' hp (lA dst bt (i+1)) ⟨i,[],true,true⟩
 generalize aL fr f=F at h ⊢
 generalize l.map (aL fr)=as at h ⊢
 exact yp (uG (P:=fun as=>F.deep=true∧∃ vs v,Handed hp as vs v∧af T tab true F vs v∧gk dst fr v fun fr'=>KD fr' hp (lA dst bt (i+1)) ⟨i,[],true,true⟩) h)
theorem n1 {f:Operand} {l:List Operand} {tys} {i:Nat} {bt:Nat→Nat} {KD:(Nat→AV)→List AB→(Nat→Nat)→nQ→Prop} (h:force (aL fr f) fun F=>dO (l.map (aL fr)) fun as=>F.deep=true∧ct as=true∧∃ v,af T tab true F as v∧gk dst fr v fun fr'=>KD fr' hp (lA dst bt (i+1)) ⟨i,[],true,true⟩) :
  fM T tab mu dst (.call ⟨.value f,l.toArray,tys⟩) i bt fr hp KD:=by
 have h:=dV (bV h)
 obtain ⟨h1,h2,v,h3,h4⟩:=h
 exact A2 ⟨h1,_,v,.inl ⟨rfl,h2⟩,h3,h4⟩
theorem n2 {f:Operand} {l:List Operand} {tys} {i:Nat} {bt:Nat→Nat} {KD:(Nat→AV)→List AB→(Nat→Nat)→nQ→Prop} {F v:AV} {as vs:List AV} (hp':af T tab true F vs v) (hf:aL fr f=F) (ha:l.map (aL fr)=as) (hF:F.deep=true) (hz:wC hp as vs) (hv:fR v) (h:gk dst fr v fun fr'=>KD fr' hp (lA dst bt (i+1)) ⟨i,[],true,true⟩) :
  fM T tab mu dst (.call ⟨.value f,l.toArray,tys⟩) i bt fr hp KD:=by
 subst hf ha
 exact A2 ⟨hF,vs,v,.inr ⟨hz,hv⟩,hp',h⟩
theorem n3 {x:Operand} {t:TypeId} {b:Bool} (hb:aL fr x=.fl (.bool b)) (h:K (.fl (.bool (!b))) hp):wpOp T own (.unOp .not t x) fr hp K:=by
 show Fy T .not (aL fr x) hp K
 rw [hb];exact h
theorem n4 {x y:Operand} {tys:Array TypeId} {m n:Int} (hx:aL fr x=.fl (.int .i64 m)) (hy:aL fr y=.fl (.int .i64 n)) (h:K (.fl (.int .i64 (min m n))) hp):wpOp T own (.call ⟨.builtin .min,[x,y].toArray,tys⟩) fr hp K:=by
 show force (aL fr x) fun a=>force (aL fr y) fun b=>AO T [a,b] hp K
 rw [hx,hy];exact h
theorem n5 {x y:Operand} {tys:Array TypeId} {m n:Int} (hx:aL fr x=.fl (.int .i64 m)) (hy:aL fr y=.fl (.int .i64 n)) (h:K (.fl (.int .i64 (max m n))) hp):wpOp T own (.call ⟨.builtin .max,[x,y].toArray,tys⟩) fr hp K:=by
 show force (aL fr x) fun a=>force (aL fr y) fun b=>AP T [a,b] hp K
 rw [hx,hy];exact h
section
variable {v : AV} {P : AV → Prop}
theorem f1 {x:Value} (hv:v=.fl x) (h:P (.fl x)):force v P:=by subst hv;exact h
theorem f2 {a:List (List AV)} {b:Bool} (hv:v=.sl a b) (h:P (.sl a b)):force v P:=by subst hv;exact h
theorem f3 {a:List AV} {b:Nat} (hv:v=.pt a b) (h:P (.pt a b)):force v P:=by subst hv;exact h
theorem f4 {a:FuncId} {b c:List AV} (hv:v=.fn a b c) (h:P (.fn a b c)):force v P:=by subst hv;exact h
theorem f5 {a:List AV} (hv:v=.ag a) (h:P (.ag a)):force v P:=by subst hv;exact h
theorem f6 {a:List AV} (hv:v=.tp a) (h:P (.tp a)):force v P:=by subst hv;exact h
theorem f7 {a b c:Nat} (hv:v=.ptr a b c) (h:P (.ptr a b c)):force v P:=by subst hv;exact h
theorem f8 {a b c d e:Nat} (hv:v=.cQ a b c d e) (h:P (.cQ a b c d e)):force v P:=by subst hv;exact h
theorem f9 {a:Nat} (hv:v=.om a) (h:P (.om a)):force v P:=by subst hv;exact h
theorem g1 {a:Value} (hv:v=.oq a) (h:P (.oq a)):force v P:=by subst hv;exact h
theorem g2 (hv:v=.bD) (h:P .bD):force v P:=by subst hv;exact h
end
section
variable {c a b : AV} {t x y : Bool}
theorem k1 (hc:c=.fl (.bool t)) (h:hH t a b hp K):oL c a b hp K:=by subst hc;exact h
theorem k2 (ht:t=true) (h:K a hp):hH t a b hp K:=by
 subst ht
 unfold hH
 split
 ·exact h
 ·exact And.intro (fun _=>h) (fun e=>Bool.noConfusion e)
theorem k3 (ht:t=false) (h:K b hp):hH t a b hp K:=by
 subst ht
 unfold hH
 split
 ·exact h
 ·exact And.intro (fun e=>Bool.noConfusion e) (fun _=>h)
theorem k4 (ha:a=.fl (.bool x)) (hb:b=.fl (.bool y)) (h:K (.fl (.bool (bif t then x else y))) hp):hH t a b hp K:=by subst ha hb;exact h
end
section
variable {a b : AV} {m n : Int} {t : TypeId} {x y : Operand}
theorem b1 (ha:a=.fl (.int .i64 m)) (hb:b=.fl (.int .i64 n)) (hh:-9223372036854775808≤m+n∧m+n≤9223372036854775807) (h:K (.fl (.int .i64 (m+n))) hp):cM T .add t x y a b hp K:=by subst ha hb;exact ⟨hh,h⟩
theorem b2 (ha:a=.fl (.int .i64 m)) (hb:b=.fl (.int .i64 n)) (hh:-9223372036854775808≤m - n∧m - n≤9223372036854775807) (h:K (.fl (.int .i64 (m - n))) hp):cM T .sub t x y a b hp K:=by subst ha hb;exact ⟨hh,h⟩
theorem b3 (ha:a=.fl (.int .i64 m)) (hb:b=.fl (.int .i64 n)) (hh:-9223372036854775808≤m * n∧m * n≤9223372036854775807) (h:K (.fl (.int .i64 (m * n))) hp):cM T .mul t x y a b hp K:=by subst ha hb;exact ⟨hh,h⟩
theorem b4 (ha:a=.fl (.int .i64 m)) (hb:b=.fl (.int .i64 n)) (h:K (.fl (.bool (decide (m=n)))) hp):cM T .eql t x y a b hp K:=by subst ha hb;exact h
theorem b5 (ha:a=.fl (.int .i64 m)) (hb:b=.fl (.int .i64 n)) (h:K (.fl (.bool (!decide (m=n)))) hp):cM T .neq t x y a b hp K:=by subst ha hb;exact h
theorem b6 (ha:a=.fl (.int .i64 m)) (hb:b=.fl (.int .i64 n)) (h:K (.fl (.bool (decide (m < n)))) hp):cM T .lss t x y a b hp K:=by subst ha hb;exact h
theorem b7 (ha:a=.fl (.int .i64 m)) (hb:b=.fl (.int .i64 n)) (h:K (.fl (.bool (decide (m≤n)))) hp):cM T .leq t x y a b hp K:=by subst ha hb;exact h
theorem b8 (ha:a=.fl (.int .i64 m)) (hb:b=.fl (.int .i64 n)) (h:K (.fl (.bool (decide (n < m)))) hp):cM T .gtr t x y a b hp K:=by subst ha hb;exact h
theorem b9 (ha:a=.fl (.int .i64 m)) (hb:b=.fl (.int .i64 n)) (h:K (.fl (.bool (decide (n≤m)))) hp):cM T .geq t x y a b hp K:=by subst ha hb;exact h
theorem r1 (ha:a=.fl (.int .i64 m)) (hb:b=.fl (.int .i64 n)) (h0:0≤m∧1≤n) (h:K (.fl (.int .i64 (m % n))) hp):cM T .rem t x y a b hp K:=by
 subst ha hb;exact ⟨_,FJ h0.1 h0.2,rfl,h⟩
theorem r2 (ha:a=.fl (.int .i64 m)) (hb:b=.fl (.int .i64 n)) (h0:(0≤m∧m≤9223372036854775807)∧1≤n) (h:K (.fl (.int .i64 (m / n))) hp):cM T .quo t x y a b hp K:=by
 subst ha hb;exact ⟨_,FK h0.1.1 h0.1.2 h0.2,rfl,h⟩
end
section
variable {v : AV} {t : TypeId}
theorem l1 {e:TypeId} {a1 a2 a3 a4 a5 a6} {els:List (List AV)} {f:Bool} (ht:T.ty.get t=some ⟨.slice e,a1,a2,a3,a4,a5,a6⟩) (h:K (.fl (.int .i64 els.length)) hp):kL T t (.sl els f) hp K:=by
 unfold kL;rw [ht];exact h
theorem l2 {e:TypeId} {a1 a2 a3 a4 a5 a6} {j ver o n c:Nat} (ht:T.ty.get t=some ⟨.slice e,a1,a2,a3,a4,a5,a6⟩) (h:K (.fl (.int .i64 n)) hp):kL T t (.cQ j ver o n c) hp K:=by
 unfold kL;rw [ht];exact h
theorem l3 {a:List AV} {b:Nat} (hv:v=.pt a b) (h:K (.pt a b) hp):nJ v hp K:=by subst hv;exact h
theorem l4 {a b c:Nat} (hv:v=.ptr a b c) (h:K (.ptr a b c) hp):nJ v hp K:=by subst hv;exact h
end
end
end Go.RM
namespace Go.RM
open Go
section
variable {T : bk} {tab : List XE} {one : Bool} {mu : Tmp → Bool} {base : Nat} {E : Env} {hp : List AB} {aE : cF} {H : Hp} {ρ : Nat → Nat → Option Nat} {g : aA} {O O' : Nat → Prop}
theorem qk {a b:Code} {st:bI} {K:Exit→bI→Prop} (h:kP T tab one mu a st (r0 (fun s=>aF T tab one b s K) K)):aF T tab one (.seq a b) st K:=.seq (ah h)
def bQ (j:Nat) (ρ:Nat→Nat→Option Nat):Nat→Nat→Option Nat:=fun i v=>if i=j then none else ρ i v
mutual
def AV.kO (j:Nat):AV→Bool
 | .fl _=>true
 | .sl _ _=>true
 | .pt _ _=>true
 | .fn _ a b=>sw j a && sw j b
 | .ag a=>sw j a
 | .tp a=>sw j a
 | .oq _=>true
 | .bD=>true
 | .ptr i _ _=>!Nat.beq i j
 | .cQ i _ _ _ _=>!Nat.beq i j
 | .om i=>!Nat.beq i j
def sw (j:Nat):List AV→Bool
 | []=>true
 | a :: l=>a.kO j && sw j l
end
theorem cA {j:Nat}:∀ {l:List AV},sw j l=true→∀ (i:Nat) (a:AV),l[i]?=some a→a.kO j=true
 | [],_,i,a,h=>by cases h
 | x :: l,h,i,a,ha=>by
  simp only [sw,Bool.and_eq_true] at h
  cases i with
  | zero=>cases ha;exact h.1
  | succ i=>exact cA h.2 i a (by simpa using ha)
theorem eY {i j:Nat} (h:(!Nat.beq i j)=true):i ≠ j:=by
 intro e
 subst e
 rw [Nat.beq_refl] at h
 cases h
theorem AR.kO {j:Nat} (hO:∀ k,O' k→O k) {v:AV} {u:Value} (h:AR ρ g O v u):v.kO j=true→AR (bQ j ρ) g O' v u:=by
 induction h with
 | d h=>intro _;exact .d (h.mono fun k b hk ho=>⟨hk,fun h=>ho (hO k h)⟩)
 | bD=>intro _;exact .bD
 | ptr h=>intro hd;simp only [AV.kO] at hd;exact .ptr (by rw [bQ,if_neg (eY hd)];exact h)
 | cQ h=>intro hd;simp only [AV.kO] at hd;exact .cQ (by rw [bQ,if_neg (eY hd)];exact h)
 | nE=>intro _;exact .nE
 | om h=>intro hd;simp only [AV.kO] at hd;exact .om (by rw [bQ,if_neg (eY hd)];exact h)
 | fn ha hb h1 h2 ih1 ih2 =>
  intro hd
  simp only [AV.kO,Bool.and_eq_true] at hd
  exact .fn ha hb (fun i x u hx hu=>ih1 i x u hx hu (cA hd.1 i x hx)) (fun i x u hx hu=>ih2 i x u hx hu (cA hd.2 i x hx))
 | ag ha h1 ih=>intro hd;simp only [AV.kO] at hd;exact .ag ha (fun i x u hx hu=>ih i x u hx hu (cA hd i x hx))
 | tp ha h1 ih=>intro hd;simp only [AV.kO] at hd;exact .tp ha (fun i x u hx hu=>ih i x u hx hu (cA hd i x hx))
def AB.kO (j:Nat):AB→Bool
 | .cells cs _ _=>sw j cs
 | .cG _ _=>true
 | .map ents _=>ents.all fun p=>p.1.kO j && p.2.1.kO j
 | .iter i _ _ _=>!Nat.beq i j
 | .gone=>true
inductive Gv (j ver:Nat) (cs:List AV):AV→AV→Prop
 | same {a:AV}:a.kO j=true→Gv j ver cs a a
 | ptr {o:Nat}:Gv j ver cs (.ptr j ver o) (.pt cs o)
 | row {o n c:Nat} {els:List (List AV)} {b:Bool} (es:Nat):o+n * es≤cs.length→els.length=n→(∀ el ∈ els,el.length=es)→els.flatten=(cs.drop o).take (n * es)→(b=true→c=n)→Gv j ver cs (.cQ j ver o n c) (.sl els b)
 | bD {a:AV}:Gv j ver cs a .bD
def v8 (j ver:Nat) (cs:List AV) (fr:Nat→AV):List (Nat × AV)→Prop
 | []=>True
 | (i,v) :: l=>Gv j ver cs (fr i) v∧v8 j ver cs fr l
theorem A3 {j ver:Nat} {cs:List AV} {fr:Nat→AV}:∀ {l:List (Nat × AV)},v8 j ver cs fr l→∀ t,Gv j ver cs (fr t) (bZ l t)
 | [],_,t=>.bD
 | (i,v) :: l,h,t=>by
  unfold bZ
  rw [Tr.beq_eq]
  by_cases hti:t=i
  ·rw [decide_eq_true hti,hti]
   exact h.1
  ·rw [decide_eq_false hti]
   exact A3 h.2 t
theorem ax.KP {st:bI} {l:List (Nat × AV)} {j ver es:Nat} {cs:List AV} (hj:st.hp[j]?=some (.cells cs es ver)) (hn:st.fl≤j) (hd:ct cs=true) (hs:v8 j ver cs st.fr l) (hb:∀ (i:Nat) (b:AB),st.hp[i]?=some b→i ≠ j→b.kO j=true) :
  ax st ⟨bZ l,st.hp.set j .gone,st.aE,st.rd,st.fl⟩:=by
 have hlt:j < st.hp.length:=(List.getElem?_eq_some_iff.1 hj).1
 refine ⟨rfl,fun E base s hs'=>?_⟩
 have hr:=hs'.h
 have hget:∀ (i:Nat) (b:AB) (ver:Nat),(st.hp.set j .gone)[i]?=some b→b.ver?=some ver→i ≠ j∧st.hp[i]?=some b:=by
  intro i b ver hi hv
  by_cases hij:i=j
  ·subst hij;rw [List.getElem?_set_self hlt] at hi;cases hi;cases hv
  ·rw [List.getElem?_set_ne (Ne.symm hij)] at hi;exact ⟨hij,hi⟩
 have hdr:∀ {i v k:Nat},bQ j E.ρ i v=some k→i ≠ j∧E.ρ i v=some k:=by
  intro i v k h
  unfold bQ at h
  split at h
  ·cases h
  ·rename_i hne;exact ⟨hne,h⟩
 have hown:∀ k,Own (bQ j E.ρ) (st.hp.set j .gone) k→Own E.ρ st.hp k:=by
  rintro k ⟨i,b,v,h1,h2,h3⟩
  exact ⟨i,b,v,(hget i b v h1 h2).2,h2,(hdr h3).2⟩
 have hOs:∀ k,({E with ρ:=bQ j E.ρ}:Env).O (st.hp.set j .gone) k→E.O st.hp k:=fun k h=>h.imp (hown k) id
 have hpt:∀ {o:Nat} {u:Value},AR E.ρ s.hp.get (E.O st.hp) (.ptr j ver o) u→AR (bQ j E.ρ) s.hp.get (({E with ρ:=bQ j E.ρ}:Env).O (st.hp.set j .gone)) (.pt cs o) u:=by
  intro o u h
  obtain ⟨k,hk,rfl⟩:=h.cD
  obtain ⟨cs',q1,q2⟩:=hr.cells hj hk
  have hnO:¬ ({E with ρ:=bQ j E.ρ}:Env).O (st.hp.set j .gone) k:=by
   rintro (⟨i,b,v,h1,h2,h3⟩|hx)
   ·have:=hdr h3
    exact this.1 (hr.inj i j v ver k this.2 hk)
   ·exact hr.gZ k ⟨j,_,ver,hj,rfl,hk⟩ hx
  have:=q2.deep hd
  refine .d (?_:DR _ _ (.pt cs o) (.pointer (some ⟨k,o,none⟩)))
  have h0:DR s.hp.get (({E with ρ:=bQ j E.ρ}:Env).O (st.hp.set j .gone)) (.pt cs o) (.pointer (some ⟨k,0+o,none⟩)) :=
   .pt q1 hnO (by rw [Nat.zero_add,this.1];exact Nat.le_refl _) (fun i a u x y=>(this.2 i a u x (by rw [Nat.zero_add] at y;exact y)).mono fun k b hk ho=>⟨hk,fun h=>ho (hOs k h)⟩)
  rw [Nat.zero_add] at h0
  exact h0
 have hrow:∀ {o n c:Nat} {els:List (List AV)} {b:Bool} {u:Value} (es:Nat),o+n * es≤cs.length→els.length=n→(∀ el ∈ els,el.length=es)→els.flatten=(cs.drop o).take (n * es)→(b=true→c=n)→AR E.ρ s.hp.get (E.O st.hp) (.cQ j ver o n c) u →
   AR (bQ j E.ρ) s.hp.get (({E with ρ:=bQ j E.ρ}:Env).O (st.hp.set j .gone)) (.sl els b) u:=by
  intro o n c els b u es g1 g2 g3 g4 g5 h
  rcases h.eM with ⟨k,hk,rfl⟩|⟨rfl,rfl,rfl⟩
  ·obtain ⟨cs',q1,q2⟩:=hr.cells hj hk
   have hnO:¬ ({E with ρ:=bQ j E.ρ}:Env).O (st.hp.set j .gone) k:=by
    rintro (⟨i,b,v,h1,h2,h3⟩|hx)
    ·have:=hdr h3
     exact this.1 (hr.inj i j v ver k this.2 hk)
    ·exact hr.gZ k ⟨j,_,ver,hj,rfl,hk⟩ hx
   have hdp:=q2.deep hd
   refine .d (.sl (es:=es) q1 hnO (by rw [←q2.1];exact g1) g2 (fun i el he=>g3 el (List.mem_of_getElem? he)) (fun i el jj a u he hx hu=>?_) g5)
   have hjj:jj < es:=by rw [←g3 el (List.mem_of_getElem? he)];exact (List.getElem?_eq_some_iff.1 hx).1
   have hat:=eB g3 i el jj he hjj
   have hi:i < n:=by rw [←g2];exact (List.getElem?_eq_some_iff.1 he).1
   rw [g4,List.getElem?_take,List.getElem?_drop] at hat
   have hlt:i * es+jj < n * es:=by
    have:(i+1) * es≤n * es:=Nat.mul_le_mul_right _ hi
    rw [Nat.add_mul,Nat.one_mul] at this
    omega
   rw [if_pos hlt,hx,←Nat.add_assoc] at hat
   exact (hdp.2 _ a u hat hu).mono fun k b hk ho=>⟨hk,fun h=>ho (hOs k h)⟩
  ·simp only [List.length_eq_zero_iff] at g2
   subst g2
   exact .d .nil
 have hgv:∀ {a b:AV} {u:Value},Gv j ver cs a b→AR E.ρ s.hp.get (E.O st.hp) a u→AR (bQ j E.ρ) s.hp.get (({E with ρ:=bQ j E.ρ}:Env).O (st.hp.set j .gone)) b u:=by
  intro a b u hg h
  cases hg with
  | same hn=>exact h.kO hOs hn
  | ptr=>exact hpt h
  | row es g1 g2 g3 g4 g5=>exact hrow es g1 g2 g3 g4 g5 h
  | bD=>exact .bD
 refine ⟨{E with ρ:=bQ j E.ρ},⟨⟨hr.wf,fun i b v hi hv=>?_,fun i i' v v' k h1 h2=>hr.inj i i' v v' k (hdr h1).2 (hdr h2).2,fun i v k hk=>hr.rn i v k (hdr hk).2,fun i b v w h1 h2 h3=>?_,fun i v hi=>?_,fun k hk=>hr.sup k (hown k hk),fun k hk=>hr.gZ k (hown k hk),hr.dx,hr.ds,hr.sn,hr.xn,fun k hk=>hr.mK k (hk.imp (hown k) id),hr.bn,hr.aE⟩,hs'.rd,fun t=>hgv (A3 hs t) (hs'.fr t)⟩,
  ⟨Nat.le_refl _,fun i v k hi hk=>?_,fun k hk=>.inl (hown k hk),fun _ h=>.inl h,fun _ h=>.inl h,fun _ h=>h,fun _ h=>.inl h,fun _ _ _ _=>rfl,Nat.min_le_left _ _⟩⟩
 ·obtain ⟨hij,hi'⟩:=hget i b v hi hv
  have hbn:=hb i b hi' hij
  rcases hr.fh i b v hi' hv with ⟨k,b',q1,q2,q3⟩|⟨q1,q2⟩
  ·refine .inl ⟨k,b',by show bQ j E.ρ i v=_;rw [bQ,if_neg hij];exact q1,q2,?_⟩
   cases b with
   | cells cs2 es2 ver2 =>
    obtain ⟨cs',rfl,h⟩:=q3
    exact ⟨cs',rfl,h.1,fun i a u ha hu=>(h.2 i a u ha hu).kO hOs (cA hbn i a ha)⟩
   | cG p q=>exact q3
   | map ents clock =>
    obtain ⟨es,rfl,h1,h2⟩:=q3
    refine ⟨es,rfl,h1,fun i k v born x hx hy=>?_⟩
    simp only [AB.kO,List.all_eq_true,Bool.and_eq_true] at hbn
    have:=hbn _ (List.mem_of_getElem? hx)
    exact ⟨(h2 i k v born x hx hy).1.kO hOs this.1,(h2 i k v born x hx hy).2.1.kO hOs this.2,(h2 i k v born x hx hy).2.2⟩
   | iter i2 since seen stepped =>
    obtain ⟨m,rfl,h⟩:=q3
    exact ⟨m,rfl,by show bQ j E.ρ i2 0=_;rw [bQ,if_neg (eY hbn)];exact h⟩
   | gone=>exact q3
  ·exact .inr ⟨by show bQ j E.ρ i v=_;rw [bQ,if_neg hij];exact q1,q2⟩
 ·obtain ⟨hij,h1⟩:=hget i b v h1 h2
  show bQ j E.ρ i w=none
  rw [bQ,if_neg hij];exact hr.fresh i b v w h1 h2 h3
 ·show bQ j E.ρ i v=none
  unfold bQ
  split
  ·rfl
  ·exact hr.new i v (by simpa using hi)
 ·show bQ j E.ρ i v=some k
  rw [bQ,if_neg (by omega)];exact hk
def oV (j:Nat):Nat→List AB→Bool
 | _,[]=>true
 | i,b :: l=>(Nat.beq i j || b.kO j) && oV j (i+1) l
theorem sx {j:Nat}:∀ {l:List AB} {i0:Nat},oV j i0 l=true→∀ (i:Nat) (b:AB),l[i]?=some b→i0+i ≠ j→b.kO j=true
 | [],_,_,i,b,h,_=>by cases h
 | x :: l,i0,h,i,b,hb,hne=>by
  simp only [oV,Bool.and_eq_true,Bool.or_eq_true] at h
  cases i with
  | zero =>
   cases hb
   rcases h.1 with h|h
   ·exact absurd (Nat.eq_of_beq_eq_true h) hne
   ·exact h
  | succ i=>exact sx h.2 i b (by simpa using hb) (by omega)
theorem ax.giveUp {st:bI} {l:List (Nat × AV)} (j:Nat) {ver es:Nat} {cs:List AV} {hp:List AB} (hj:st.hp[j]?=some (.cells cs es ver)) (hn:st.fl≤j) (hd:ct cs=true) (hs:v8 j ver cs st.fr l) (hb:oV j 0 st.hp=true) (hh:st.hp.set j .gone=hp) :
  ax st ⟨bZ l,hp,st.aE,st.rd,st.fl⟩:=by
 subst hh
 exact ax.KP hj hn hd hs fun i b h hne=>sx hb i b h (by omega)
end
end Go.RM
namespace Go.RM
open Go
theorem fN.zQ {j ver c:Nat}:fN (.fl (.slice none 0 0)) (.cQ j ver 0 0 c):=fun _ _ _ u h=>by
 rw [h.ee.1]
 exact .nE
theorem ax.zR {st:bI} (es:Nat):ax st ⟨st.fr,st.hp++[.cells [] es 0],st.aE,st.rd,st.fl⟩:=by
 refine ⟨rfl,fun E base s hs=>?_⟩
 have hr:=hs.h
 have hget:∀ (i:Nat) (b:AB),(st.hp++[AB.cells [] es 0])[i]?=some b→(i < st.hp.length∧st.hp[i]?=some b)∨(i=st.hp.length∧b=.cells [] es 0):=by
  intro i b hi
  by_cases hlt:i < st.hp.length
  ·rw [List.getElem?_append_left hlt] at hi;exact .inl ⟨hlt,hi⟩
  ·rw [List.getElem?_append_right (by omega)] at hi
   have h0:i - st.hp.length=0:=by
    apply Nat.eq_zero_of_not_pos
    intro hp0
    rw [List.getElem?_eq_none (by simp;omega)] at hi
    cases hi
   rw [h0] at hi
   cases hi
   exact .inr ⟨by omega,rfl⟩
 have hown:∀ k,Own E.ρ (st.hp++[.cells [] es 0]) k→Own E.ρ st.hp k:=by
  rintro k ⟨i,b,v,h1,h2,h3⟩
  rcases hget i b h1 with ⟨_,h1⟩|⟨rfl,rfl⟩
  ·exact ⟨i,b,v,h1,h2,h3⟩
  ·rw [hr.new _ v (Nat.le_refl _)] at h3;cases h3
 have hO:∀ k,E.O (st.hp++[.cells [] es 0]) k→E.O st.hp k:=fun k h=>h.imp (hown k) id
 have keep:∀ k b,s.hp.get k=some b→¬ E.O st.hp k→s.hp.get k=some b∧¬ E.O (st.hp++[.cells [] es 0]) k:=fun k b hk ho=>⟨hk,fun h=>ho (hO k h)⟩
 have har:∀ {v:AV} {u:Value},AR E.ρ s.hp.get (E.O st.hp) v u→AR E.ρ s.hp.get (E.O (st.hp++[.cells [] es 0])) v u:=fun h=>h.mono (fun _ _ _ h=>h) keep
 refine ⟨E,⟨⟨hr.wf,fun i b v hi hv=>?_,hr.inj,hr.rn,fun i b v w h1 h2 h3=>?_,fun i v hi=>hr.new i v (by simp at hi;omega),fun k hk=>hr.sup k (hown k hk),fun k hk=>hr.gZ k (hown k hk),hr.dx,hr.ds,hr.sn,hr.xn,fun k hk=>hr.mK k (hk.imp (hown k) id),hr.bn,hr.aE⟩,hs.rd,fun t=>har (hs.fr t)⟩,
  ⟨Nat.le_refl _,fun _ _ _ _ h=>h,fun k hk=>.inl (hown k hk),fun _ h=>.inl h,fun _ h=>.inl h,fun _ h=>h,fun _ h=>.inl h,fun _ _ _ _=>rfl,Nat.min_le_left _ _⟩⟩
 ·rcases hget i b hi with ⟨_,hi'⟩|⟨rfl,rfl⟩
  ·rcases hr.fh i b v hi' hv with ⟨k,b',q1,q2,q3⟩|q
   ·refine .inl ⟨k,b',q1,q2,?_⟩
    cases b with
    | cells cs2 es2 ver2 =>
     obtain ⟨cs',rfl,h⟩:=q3
     exact ⟨cs',rfl,h.1,fun i a u ha hu=>har (h.2 i a u ha hu)⟩
    | cG p q=>exact q3
    | map ents clock =>
     obtain ⟨es,rfl,h1,h2⟩:=q3
     exact ⟨es,rfl,h1,fun i k v born x hx hy=>⟨har (h2 i k v born x hx hy).1,har (h2 i k v born x hx hy).2.1,(h2 i k v born x hx hy).2.2⟩⟩
    | iter i2 since seen stepped=>exact q3
    | gone=>exact q3
   ·exact .inr q
  ·cases hv
   exact .inr ⟨hr.new _ _ (Nat.le_refl _),es,rfl⟩
 ·rcases hget i b h1 with ⟨_,h1⟩|⟨rfl,rfl⟩
  ·exact hr.fresh i b v w h1 h2 h3
  ·exact hr.new _ _ (Nat.le_refl _)
theorem q1 {σ:Type} {P:σ→Prop} {I:σ→bI} {m:σ→Nat} {K:Exit→bI→Prop} {x:σ} {s:bI} (h:K .ret s):EA P I m K x .ret s:=h
theorem q2 {σ:Type} {P:σ→Prop} {I:σ→bI} {m:σ→Nat} {K:Exit→bI→Prop} {x:σ} {s:bI} {id:Nat} (h:K (.exit id) s):EA P I m K x (.exit id) s:=h
end Go.RM
namespace Go.RM
open Go
end Go.RM
namespace Go.RM
open Go
theorem EM {α:Type} {l:List α} {j:Nat} {a:α} (h:l[j]?=some a):l.set j a=l:=by
 apply List.ext_getElem?
 intro i
 rw [List.getElem?_set]
 split
 ·rename_i hij
  subst hij
  rw [h]
  split
  ·rfl
  ·rename_i hn
   exact absurd (List.getElem?_eq_some_iff.1 h).1 hn
 ·rfl
theorem FL {hp:List AB} {es bs:Nat} {x:AV} {els:List (List AV)} {j ver n c:Nat} {cs:List AV} {K:AV→List AB→Prop} (hx:xZ hp es x els) (h1:els.flatten.all AV.one=true) (hj:hp[j]?=some (.cells cs es ver)) (hl:cs.length=n * es) (hc:c=n∨c=n+1)
  (hb:(n+els.length) * bs≤140737488355328∧n+els.length≤9223372036854775807) (hk:∀ v c',(c'=n+els.length∨c'=n+els.length+1)→K (.cQ j v 0 (n+els.length) c') (hp.set j (.cells (cs++els.flatten) es v))) :
  ∃ els,xZ hp es x els∧els.flatten.all AV.one=true∧∃ cs,hp[j]?=some (.cells cs es ver)∧cs.length=n * es∧(c=n∨c=n+1)∧((n+els.length) * bs≤140737488355328∧n+els.length≤9223372036854775807)∧(els=[]→K (.cQ j ver 0 n c) hp) ∧
   (els ≠ []→K (.cQ j (ver+1) 0 (n+els.length) (n+els.length+1)) (hp.set j (.cells (cs++els.flatten) es (ver+1)))):=by
 refine ⟨els,hx,h1,cs,hj,hl,hc,hb,fun he=>?_,fun _=>hk _ _ (.inr rfl)⟩
 subst he
 have h2:=hk ver c (by simpa using hc)
 rw [List.flatten_nil,List.append_nil,EM hj] at h2
 exact h2
theorem IZ {T:bk} {own:Bool} {fr:Nat→AV} {hp:List AB} {K:AV→List AB→Prop} {s x:Operand} {t u e:TypeId} {a1 a2 a3 a4 a5 a6} {j ver n c:Nat} {els:List (List AV)} {f:Bool} {cs:List AV} {inf:sQ} (hs:aL fr s=.cQ j ver 0 n c) (hx:aL fr x=.sl els f)
  (hu:T.ty.get u=some ⟨.slice e,a1,a2,a3,a4,a5,a6⟩) (hi:elem? T t=some inf) (hz:aX inf=true) (hel:∀ el ∈ els,el.length=inf.size) (h1:els.flatten.all AV.one=true) (hj:hp[j]?=some (.cells cs inf.size ver)) (hl:cs.length=n * inf.size) (hc:c=n∨c=n+1)
  (hb:(n+els.length) * inf.bytes≤140737488355328∧n+els.length≤9223372036854775807) (hk:∀ v c',(c'=n+els.length∨c'=n+els.length+1)→K (.cQ j v 0 (n+els.length) c') (hp.set j (.cells (cs++els.flatten) inf.size v))) :
  RM.wpOp T own (.call ⟨.builtin .append,[s,x].toArray,[t,u].toArray⟩) fr hp K:=by
 show force (aL fr s) fun a=>force (aL fr x) fun b=>iq T own .append [a,b] [t,u] hp K
 rw [hs,hx]
 show (match T.ty.get u with|some ⟨.slice _,_,_,_,_,_,_⟩=>jk T own t (.cQ j ver 0 n c) (.sl els f) hp K|_=>False)
 rw [hu]
 show jk T own t (.cQ j ver 0 n c) (.sl els f) hp K
 unfold jk
 rw [hi]
 exact ⟨hz,FL (hp:=hp) (K:=K) ⟨hel,rfl⟩ h1 hj hl hc hb hk⟩
end Go.RM
namespace Go.RM
open Go
section
variable {T : bk} {tab : List XE} {one : Bool} {base : Nat} {E : Env} {hp : List AB} {aE : cF} {H : Hp} {ρ : Nat → Nat → Option Nat} {g : aA} {O O' : Nat → Prop}
def cx (a b:Nat) (ρ:Nat→Nat→Option Nat):Nat→Nat→Option Nat:=fun i v=>if i=a then ρ b v else if i=b then none else ρ i v
theorem AR.move {a b:Nat} (hO:∀ k,O' k→O k) {v:AV} {u:Value} (h:AR ρ g O v u):v.kO a=true→v.kO b=true→AR (cx a b ρ) g O' v u:=by
 have hm:∀ {i w:Nat},i ≠ a→i ≠ b→cx a b ρ i w=ρ i w:=fun {i w} h1 h2=>by unfold cx;rw [if_neg h1,if_neg h2]
 induction h with
 | d h=>intro _ _;exact .d (h.mono fun k b hk ho=>⟨hk,fun hx=>ho (hO k hx)⟩)
 | bD=>intro _ _;exact .bD
 | ptr h=>intro h1 h2;exact .ptr (by rw [hm (eY h1) (eY h2)];exact h)
 | cQ h=>intro h1 h2;exact .cQ (by rw [hm (eY h1) (eY h2)];exact h)
 | nE=>intro _ _;exact .nE
 | om h=>intro h1 h2;exact .om (by rw [hm (eY h1) (eY h2)];exact h)
 | fn ha hb h1 h2 ih1 ih2 =>
  intro n1 n2
  simp only [AV.kO,Bool.and_eq_true] at n1 n2
  exact .fn ha hb (fun i x u hx hu=>ih1 i x u hx hu (cA n1.1 i x hx) (cA n2.1 i x hx)) (fun i x u hx hu=>ih2 i x u hx hu (cA n1.2 i x hx) (cA n2.2 i x hx))
 | ag ha h1 ih=>intro n1 n2;simp only [AV.kO] at n1 n2;exact .ag ha (fun i x u hx hu=>ih i x u hx hu (cA n1 i x hx) (cA n2 i x hx))
 | tp ha h1 ih=>intro n1 n2;simp only [AV.kO] at n1 n2;exact .tp ha (fun i x u hx hu=>ih i x u hx hu (cA n1 i x hx) (cA n2 i x hx))
inductive Mv (a b:Nat):AV→AV→Prop
 | same {v:AV}:v.kO a=true→v.kO b=true→Mv a b v v
 | ptr {ver o:Nat}:Mv a b (.ptr b ver o) (.ptr a ver o)
 | cQ {ver o n c:Nat}:Mv a b (.cQ b ver o n c) (.cQ a ver o n c)
 | bD {v:AV}:Mv a b v .bD
def zS (a b:Nat) (fr:Nat→AV):List (Nat × AV)→Prop
 | []=>True
 | (i,v) :: l=>Mv a b (fr i) v∧zS a b fr l
theorem A4 {a b:Nat} {fr:Nat→AV}:∀ {l:List (Nat × AV)},zS a b fr l→∀ t,Mv a b (fr t) (bZ l t)
 | [],_,t=>.bD
 | (i,v) :: l,h,t=>by
  unfold bZ
  rw [Tr.beq_eq]
  by_cases hti:t=i
  ·rw [decide_eq_true hti,hti]
   exact h.1
  ·rw [decide_eq_false hti]
   exact A4 h.2 t
theorem ax.move {st:bI} {l:List (Nat × AV)} (a b:Nat) {x y:AB} (hab:a ≠ b) (hja:st.hp[a]?=some y) (hjb:st.hp[b]?=some x) (hn:st.fl≤a) (hn2:st.fl≤b) (hs:zS a b st.fr l)
  (hb:∀ (i:Nat) (z:AB),st.hp[i]?=some z→i ≠ a→z.kO a=true∧z.kO b=true) :
  ax st ⟨bZ l,(st.hp.set a x).set b .gone,st.aE,st.rd,st.fl⟩:=by
 have hla:a < st.hp.length:=(List.getElem?_eq_some_iff.1 hja).1
 have hlb:b < st.hp.length:=(List.getElem?_eq_some_iff.1 hjb).1
 refine ⟨rfl,fun E base s hs'=>?_⟩
 have hr:=hs'.h
 have hget:∀ (i:Nat) (z:AB) (ver:Nat),((st.hp.set a x).set b .gone)[i]?=some z→z.ver?=some ver→(i=a∧z=x)∨(i ≠ a∧i ≠ b∧st.hp[i]?=some z):=by
  intro i z ver hi hv
  by_cases hib:i=b
  ·subst hib
   rw [List.getElem?_set_self (by rw [List.length_set];exact hlb)] at hi
   cases hi;cases hv
  ·rw [List.getElem?_set_ne (Ne.symm hib)] at hi
   by_cases hia:i=a
   ·subst hia
    rw [List.getElem?_set_self hla] at hi
    cases hi;exact .inl ⟨rfl,rfl⟩
   ·rw [List.getElem?_set_ne (Ne.symm hia)] at hi
    exact .inr ⟨hia,hib,hi⟩
 have hma:∀ {v:Nat},cx a b E.ρ a v=E.ρ b v:=fun {v}=>by unfold cx;rw [if_pos rfl]
 have hmo:∀ {i v:Nat},i ≠ a→i ≠ b→cx a b E.ρ i v=E.ρ i v:=fun {i v} h1 h2=>by unfold cx;rw [if_neg h1,if_neg h2]
 have hmi:∀ {i v k:Nat},cx a b E.ρ i v=some k→(i=a∧E.ρ b v=some k)∨(i ≠ a∧i ≠ b∧E.ρ i v=some k):=by
  intro i v k h
  unfold cx at h
  split at h
  ·rename_i h1;exact .inl ⟨h1,h⟩
  ·split at h
   ·cases h
   ·rename_i h1 h2;exact .inr ⟨h1,h2,h⟩
 have hown:∀ k,Own (cx a b E.ρ) ((st.hp.set a x).set b .gone) k→Own E.ρ st.hp k:=by
  rintro k ⟨i,z,v,h1,h2,h3⟩
  rcases hget i z v h1 h2 with ⟨rfl,rfl⟩|⟨n1,n2,h4⟩
  ·rw [hma] at h3;exact ⟨b,_,v,hjb,h2,h3⟩
  ·rw [hmo n1 n2] at h3;exact ⟨i,z,v,h4,h2,h3⟩
 have hOs:∀ k,({E with ρ:=cx a b E.ρ}:Env).O ((st.hp.set a x).set b .gone) k→E.O st.hp k:=fun k h=>h.imp (hown k) id
 have hmv:∀ {v w:AV} {u:Value},Mv a b v w→AR E.ρ s.hp.get (E.O st.hp) v u→AR (cx a b E.ρ) s.hp.get (({E with ρ:=cx a b E.ρ}:Env).O ((st.hp.set a x).set b .gone)) w u:=by
  intro v w u hm h
  cases hm with
  | same n1 n2=>exact h.move hOs n1 n2
  | ptr =>
   obtain ⟨k,hk,rfl⟩:=h.cD
   exact .ptr (by rw [hma];exact hk)
  | cQ =>
   rcases h.eM with ⟨k,hk,rfl⟩|⟨rfl,rfl,rfl⟩
   ·exact .cQ (by rw [hma];exact hk)
   ·exact .nE
  | bD=>exact .bD
 have hbr:∀ (z:AB) (z':aM),z.kO a=true→z.kO b=true→BR E.ρ s.hp.get (E.O st.hp) z z'→BR (cx a b E.ρ) s.hp.get (({E with ρ:=cx a b E.ρ}:Env).O ((st.hp.set a x).set b .gone)) z z':=by
  intro z z' n1 n2 q3
  cases z with
  | cells cs2 es2 ver2 =>
   obtain ⟨cs',rfl,h⟩:=q3
   exact ⟨cs',rfl,h.1,fun i v u ha hu=>(h.2 i v u ha hu).move hOs (cA n1 i v ha) (cA n2 i v ha)⟩
  | cG p q=>exact q3
  | map ents clock =>
   obtain ⟨es,rfl,h1,h2⟩:=q3
   refine ⟨es,rfl,h1,fun i k v born e hx hy=>?_⟩
   simp only [AB.kO,List.all_eq_true,Bool.and_eq_true] at n1 n2
   have m1:=n1 _ (List.mem_of_getElem? hx)
   have m2:=n2 _ (List.mem_of_getElem? hx)
   exact ⟨(h2 i k v born e hx hy).1.move hOs m1.1 m2.1,(h2 i k v born e hx hy).2.1.move hOs m1.2 m2.2,(h2 i k v born e hx hy).2.2⟩
  | iter i2 since seen stepped =>
   obtain ⟨m,rfl,h⟩:=q3
   exact ⟨m,rfl,by show cx a b E.ρ i2 0=_;rw [hmo (eY n1) (eY n2)];exact h⟩
  | gone=>exact q3
 refine ⟨{E with ρ:=cx a b E.ρ},⟨⟨hr.wf,fun i z v hi hv=>?_,fun i i' v v' k h1 h2=>?_,fun i v k hk=>?_,fun i z v w h1 h2 h3=>?_,fun i v hi=>?_,fun k hk=>hr.sup k (hown k hk),fun k hk=>hr.gZ k (hown k hk),hr.dx,hr.ds,hr.sn,hr.xn,fun k hk=>hr.mK k (hk.imp (hown k) id),hr.bn,hr.aE⟩,hs'.rd,fun t=>hmv (A4 hs t) (hs'.fr t)⟩,
  ⟨Nat.le_refl _,fun i v k hi hk=>?_,fun k hk=>.inl (hown k hk),fun _ h=>.inl h,fun _ h=>.inl h,fun _ h=>h,fun _ h=>.inl h,fun _ _ _ _=>rfl,Nat.min_le_left _ _⟩⟩
 ·rcases hget i z v hi hv with ⟨rfl,rfl⟩|⟨n1,n2,h4⟩
  ·have hz:=hb b _ hjb (Ne.symm hab)
   rcases hr.fh b _ v hjb hv with ⟨k,b',q1,q2,q3⟩|⟨q1,q2⟩
   ·exact .inl ⟨k,b',by show cx _ b E.ρ _ v=_;rw [hma];exact q1,q2,hbr _ _ hz.1 hz.2 q3⟩
   ·exact .inr ⟨by show cx _ b E.ρ _ v=_;rw [hma];exact q1,q2⟩
  ·have hz:=hb i z h4 n1
   rcases hr.fh i z v h4 hv with ⟨k,b',q1,q2,q3⟩|⟨q1,q2⟩
   ·exact .inl ⟨k,b',by show cx a b E.ρ i v=_;rw [hmo n1 n2];exact q1,q2,hbr _ _ hz.1 hz.2 q3⟩
   ·exact .inr ⟨by show cx a b E.ρ i v=_;rw [hmo n1 n2];exact q1,q2⟩
 ·rcases hmi h1 with ⟨e1,p1⟩|⟨n1,n2,p1⟩
  ·rcases hmi h2 with ⟨e2,p2⟩|⟨m1,m2,p2⟩
   ·rw [e1,e2]
   ·exact absurd (hr.inj b i' v v' k p1 p2).symm m2
  ·rcases hmi h2 with ⟨e2,p2⟩|⟨m1,m2,p2⟩
   ·exact absurd (hr.inj i b v v' k p1 p2) n2
   ·exact hr.inj i i' v v' k p1 p2
 ·rcases hmi hk with ⟨rfl,h⟩|⟨_,_,h⟩
  ·exact hr.rn b v k h
  ·exact hr.rn i v k h
 ·rcases hget i z v h1 h2 with ⟨rfl,rfl⟩|⟨n1,n2,h4⟩
  ·show cx _ b E.ρ _ w=none
   rw [hma];exact hr.fresh b _ v w hjb h2 h3
  ·show cx a b E.ρ i w=none
   rw [hmo n1 n2];exact hr.fresh i z v w h4 h2 h3
 ·show cx a b E.ρ i v=none
  have hi:st.hp.length≤i:=by simpa using hi
  rw [hmo (by omega) (by omega)]
  exact hr.new i v hi
 ·show cx a b E.ρ i v=some k
  rw [hmo (by omega) (by omega)];exact hk
def KQ (T:bk) (rs:List ResultVar) (Q:AV→List AB→cF→Prop) (e:Exit) (s:bI):Prop :=
 match e with
 | .normal|.ret=>mg T s rs fun as=>Q (x9 as) s.hp s.aE
 | _=>False
theorem FM {vs:List AV} {us:List Value} (h:ez ρ g O vs us):AR ρ g O (x9 vs) (cg us):=by
 match vs,us,h with
 | [],[],_=>exact .tp rfl (fun i x u hx=>by cases hx)
 | [v],[u],h=>exact h.2 0 v u rfl rfl
 | a :: b :: l,c :: d :: m,h=>exact .tp (by simpa using h.1) (fun i x u hx hu=>h.2 i x u hx (by simpa using hu))
 | [],u :: us,h=>exact absurd h.1 (by simp)
 | v :: vs,[],h=>exact absurd h.1 (by simp)
 | [v],a :: b :: l,h=>exact absurd h.1 (by simp)
 | a :: b :: l,[v],h=>exact absurd h.1 (by simp)
theorem ak.body {f:FuncId} {fn:Func} {c:Code} {first caps args:List AV} {Q:AV→List AB→cF→Prop} (hf:T.fn.get f=some fn) (hb:fn.body=some c) (hn:noEntry tab f=true)
  (hw:aF T tab one c ⟨ya (first++args++caps),hp,aE,false,hp.length⟩ (KQ T fn.results.toList Q)):ak T tab one (.fn f first caps) args hp aE Q:=by
 intro E base H u us hr hF ha
 obtain ⟨fs,cs,rfl,h1,h2⟩:∃ fs cs,u=.func (.func f) fs cs∧ez E.ρ H.get (E.O hp) first fs.toList∧ez E.ρ H.get (E.O hp) caps cs.toList:=by
  cases hF with
  | d h=>cases h with
   | fn ha hb h1 h2=>exact ⟨_,_,rfl,⟨ha,fun i x u hx hu=>.d (h1 i x u hx hu)⟩,⟨hb,fun i x u hx hu=>.d (h2 i x u hx hu)⟩⟩
  | fn ha hb h1 h2=>exact ⟨_,_,rfl,⟨ha,h1⟩,⟨hb,h2⟩⟩
 refine ⟨.fn f (fs.toList++us++cs.toList),rfl,?_⟩
 have hargs:=(h1.append ha).append h2
 obtain ⟨m,L,h1,h2,h3⟩:=hw E base ⟨setArgs .leaf 0 (fs.toList++us++cs.toList),H,false⟩ ⟨hr,rfl,si hargs⟩
 obtain ⟨m',M,hm,q1,q2,q3⟩:=dA (one:=one) (L:=L) (f:=fun _ (p:Exit × St)=>dK T fn.results.toList p)
  (P:=fun r=>∃ w H',r=.ret w H'∧∃ E' a hp' amb',Q a hp' amb'∧aJ E' base hp' amb' H'∧AR E'.ρ H'.get (E'.O hp') a w∧iQ hp.length base E hp H E' hp' H')
  (fun _ _ _ _ _ h=>h) m h2 (fun p hp'=>by
   obtain ⟨E',st',k1,k0,k2,k3⟩:=h3 p hp'
   obtain ⟨e,s'⟩:=p
   have done:(e=.normal∨e=.ret)→(mg T st' fn.results.toList fun as=>Q (x9 as) st'.hp st'.aE)→∃ (_:Nat) (M:List eP),dK T fn.results.toList (e,s')=some M ∧
     mI one M fun r=>∃ w H',r=.ret w H'∧∃ E' a hp' amb',Q a hp' amb'∧aJ E' base hp' amb' H'∧AR E'.ρ H'.get (E'.O hp') a w∧iQ hp.length base E hp H E' hp' H':=by
    intro he hr
    obtain ⟨ws,as,r1,r2,r4⟩:=jl k2 hr
    refine ⟨0,[.ret (cg ws) s'.hp],?_,.single ⟨_,_,rfl,E',x9 as,st'.hp,st'.aE,r2,k2.h,FM r4,k3⟩⟩
    unfold dK
    rcases he with rfl|rfl <;> simp only [r1,Option.map_some]
   cases e with
   | normal=>exact done (.inl rfl) k1
   | ret=>exact done (.inr rfl) k1
   | _=>exact k1.elim)
 refine ⟨m'+1,M,?_,q2,q3⟩
 show RX T tab (m'+1) (.call f _ H)=_
 rw [vJ,lN _ _ hn]
 simp only
 rw [iD,hf]
 simp only [hb]
 rw [dy (dX hm) _ _ _ h1]
 exact q1
end
end Go.RM
namespace Go.RM
open Go
section
variable {T : bk} {tab : List XE} {one : Bool}
end
end Go.RM
namespace Go.RM
open Go
section
variable {T : bk} {tab : List XE} {one : Bool}
def sy (a b:AV):Prop:=∀ (g:aA) (O:Nat→Prop) (u:Value),DR g O a u→DR g O b u
theorem sy.refl (a:AV):sy a a:=fun _ _ _ h=>h
theorem sy.nil (b:Bool):sy (.fl (.slice none 0 0)) (.sl [] b):=fun _ _ u h=>by
 cases h with
 | fl=>exact .nil
theorem sy.full {els:List (List AV)}:sy (.sl els true) (.sl els false):=fun _ _ u h=>by
 cases h with
 | nil=>exact .nil
 | sl q1 q2 q3 q4 q5 q6 q7=>exact .sl q1 q2 q3 q4 q5 q6 (fun h=>Bool.noConfusion h)
def sA:List AV→List AV→Prop
 | [],[]=>True
 | a :: l,b :: m=>sy a b∧sA l m
 | _,_=>False
theorem sA.Jk {g:aA} {O:Nat→Prop}:∀ {as bs:List AV} {us:List Value},sA as bs→nF g O as us→nF g O bs us
 | [],[],us,_,h=>h
 | a :: l,b :: m,[],_,h=>absurd h.1 (by simp)
 | a :: l,b :: m,u :: us,hs,h=>by
  have ih:=sA.Jk (g:=g) (O:=O) (us:=us) hs.2 ⟨by simpa using h.1,fun i a v x y=>h.2 (i+1) a v (by simpa using x) (by simpa using y)⟩
  refine ⟨by simpa using ih.1,fun i x v hx hv=>?_⟩
  cases i with
  | zero=>cases hx;cases hv;exact hs.1 _ _ _ (h.2 0 a u rfl rfl)
  | succ i=>exact ih.2 i x v (by simpa using hx) (by simpa using hv)
 | [],_ :: _,_,hs,_=>hs.elim
 | _ :: _,[],_,hs,_=>hs.elim
theorem af.soft {F:AV} {args args':List AV} {v:AV} (h:af T tab one F args v) (hs:sA args' args):af T tab one F args' v :=
 ⟨h.1,fun X H u us hw hX hF ha=>h.2 X H u us hw hX hF (hs.Jk ha)⟩
end
end Go.RM
namespace Go.RM
open Go
section
variable {T : bk} {tab : List XE} {one : Bool} {base : Nat} {E : Env} {hp : List AB} {aE : cF} {H : Hp}
end
end Go.RM
namespace Go.RM
open Go
theorem FN {w m n:Nat} (hm:m < 2 ^ w) (hn:n < 2 ^ w):(BitVec.ofInt w (m:Int) ||| BitVec.ofInt w (n:Int)).toNat=m ||| n:=by
 rw [BitVec.toNat_or,BitVec.ofInt_natCast,BitVec.ofInt_natCast,BitVec.toNat_ofNat,BitVec.toNat_ofNat,Nat.mod_eq_of_lt hm,Nat.mod_eq_of_lt hn]
end Go.RM
namespace Go.RM
open Go
section
variable {T : bk} {tab : List XE} {one : Bool} {fl base : Nat} {E E' E2 : Env} {hp hp' hp2 : List AB} {aE amb' : cF} {H H' H2 : Hp} {ρ ρ2 : Nat → Nat → Option Nat} {g g2 : aA} {O O2 : Nat → Prop}
end
end Go.RM
namespace Go.RM
open Go
section
variable {T : bk} {tab : List XE} {one : Bool} {base : Nat} {E : Env} {hp : List AB} {aE : cF} {H : Hp}
inductive Fq (hp:List AB):AV→AV→Prop
 | fz {a v:AV}:Fz hp a v→Fq hp a v
 | ptr {j ver o es:Nat} {cs:List AV}:hp[j]?=some (.cells cs es ver)→ct cs=true→Fq hp (.ptr j ver o) (.pt cs o)
 | fn {f:FuncId} {a b x y:List AV}:a.length=x.length→b.length=y.length→(∀ (i:Nat) (u v:AV),a[i]?=some u→x[i]?=some v→Fq hp u v)→(∀ (i:Nat) (u v:AV),b[i]?=some u→y[i]?=some v→Fq hp u v)→Fq hp (.fn f a b) (.fn f x y)
theorem AR.FO {ρ:Nat→Nat→Option Nat} {g:aA} {O:Nat→Prop} {f:FuncId} {a b:List AV} {u:Value} (h:AR ρ g O (.fn f a b) u):∃ a' b',u=.func (.func f) a' b'∧ez ρ g O a a'.toList∧ez ρ g O b b'.toList:=by
 cases h with
 | d h=>cases h with
  | fn ha hb h1 h2=>exact ⟨_,_,rfl,⟨ha,fun i x u hx hu=>.d (h1 i x u hx hu)⟩,⟨hb,fun i x u hx hu=>.d (h2 i x u hx hu)⟩⟩
 | fn ha hb h1 h2=>exact ⟨_,_,rfl,⟨ha,h1⟩,⟨hb,h2⟩⟩
theorem Fq.dr {X:Nat→Prop} (h:aJ E base hp aE H) (hX:∀ k,X k→E.X k) {r v:AV} (hf:Fq hp r v):∀ {u:Value},AR E.ρ H.get (E.O hp) r u→DR H.get X v u:=by
 have weak:∀ {v:AV} {u:Value},DR H.get (E.O hp) v u→DR H.get X v u:=fun h=>h.mono fun k b hk ho=>⟨hk,fun hx=>ho (.inr (hX k hx))⟩
 induction hf with
 | fz hz=>intro u ha;exact hz.dr h hX ha
 | ptr h1 hd =>
  rename_i j ver o es cs
  intro u ha
  obtain ⟨k,hk,rfl⟩:=ha.cD
  obtain ⟨cs',q1,q2⟩:=h.cells h1 hk
  have hok:Own E.ρ hp k:=⟨j,_,ver,h1,rfl,hk⟩
  have hnx:¬ X k:=fun hx=>h.gZ k hok (hX k hx)
  have:=DR.pt (g:=H.get) (O:=X) (l:=cs) (k:=k) (d:=0) (o:=o) (cs:=cs') q1 hnx (by rw [Nat.zero_add,q2.1];exact Nat.le_refl _) (fun i a u hx hu=>by
   rw [Nat.zero_add] at hu
   exact weak ((q2.2 i a u hx hu).deep (fA hd i a hx)))
  rw [Nat.zero_add] at this
  exact this
 | @fn f a b x y h1 h2 _ _ ih1 ih2 =>
  intro u ha
  obtain ⟨a',b',rfl,p1,p2⟩:=ha.FO
  refine .fn (by rw [←h1];exact p1.1) (by rw [←h2];exact p2.1) (fun i v w hv hw=>?_) (fun i v w hv hw=>?_)
  ·have hi:i < a.length:=by rw [h1];exact (List.getElem?_eq_some_iff.1 hv).1
   have hai:a[i]?=some a[i]:=List.getElem?_eq_getElem hi
   exact ih1 i _ v hai hv (p1.2 i _ w hai hw)
  ·have hi:i < b.length:=by rw [h2];exact (List.getElem?_eq_some_iff.1 hv).1
   have hai:b[i]?=some b[i]:=List.getElem?_eq_getElem hi
   exact ih2 i _ v hai hv (p2.2 i _ w hai hw)
def fQ (hp:List AB):List AV→List AV→Prop
 | [],[]=>True
 | r :: rs,v :: vs=>Fq hp r v∧fQ hp rs vs
 | _,_=>False
theorem fQ.dr {X:Nat→Prop} (h:aJ E base hp aE H) (hX:∀ k,X k→E.X k):∀ {rs vs:List AV} {us:List Value},fQ hp rs vs→ez E.ρ H.get (E.O hp) rs us→nF H.get X vs us
 | [],[],us,_,ha=>⟨ha.1,fun i a u hx=>by cases hx⟩
 | r :: rs,v :: vs,[],_,ha=>absurd ha.1 (by simp)
 | r :: rs,v :: vs,u :: us,hf,ha=>by
  have:=fQ.dr h hX hf.2 (us:=us) ⟨by simpa using ha.1,fun i a u x y=>ha.2 (i+1) a u (by simpa using x) (by simpa using y)⟩
  refine ⟨by simp [this.1],fun i a w hx hw=>?_⟩
  cases i with
  | zero=>cases hx;cases hw;exact hf.1.dr h hX (ha.2 0 r u rfl rfl)
  | succ i=>exact this.2 i a w (by simpa using hx) (by simpa using hw)
 | [],_ :: _,_,hf,_=>hf.elim
 | _ :: _,[],_,hf,_=>by simp [fQ] at hf
theorem fQ.Jl {f:FuncId} {a b x y:List AV} (h1:fQ hp a x) (h2:fQ hp b y):Fq hp (.fn f a b) (.fn f x y):=by
 have key:∀ {a x:List AV},fQ hp a x→a.length=x.length∧∀ (i:Nat) (u v:AV),a[i]?=some u→x[i]?=some v→Fq hp u v:=by
  intro a
  induction a with
  | nil =>
   intro x h
   cases x with
   | nil=>exact ⟨rfl,fun i u v hu=>by cases hu⟩
   | cons=>exact h.elim
  | cons r rs ih =>
   intro x h
   cases x with
   | nil=>simp [fQ] at h
   | cons v vs =>
    obtain ⟨l,k⟩:=ih h.2
    refine ⟨by simp [l],fun i u w hu hw=>?_⟩
    cases i with
    | zero=>cases hu;cases hw;exact h.1
    | succ i=>exact k i u w (by simpa using hu) (by simpa using hw)
 exact .fn (key h1).1 (key h2).1 (key h1).2 (key h2).2
theorem af.uH {F F':AV} {args vs:List AV} {v:AV} (h:af T tab one F' vs v) (hF:Fq hp F F') (hz:fQ hp args vs) (hfree:fR v) {Q:AV→List AB→cF→Prop} (hq:Q v hp aE):ak T tab one F args hp aE Q:=by
 intro E base H u us hr hf ha
 obtain ⟨hd,h⟩:=h
 obtain ⟨goal,hg,m,L,h1,h2,h3⟩:=h E.X H u us hr.wf (fun k hk=>hr.xn k hk) (hF.dr hr (fun _ h=>h) hf) (hz.dr hr (fun _ h=>h) ha)
 refine ⟨goal,hg,m,L,h1,h2,fun r hm=>?_⟩
 obtain ⟨w,H',rfl,hn,hwf,hsame,hlo,hv⟩:=h3 r hm
 have e:Ext base E hp H E hp H':=⟨hn,rfl,rfl,rfl,fun _ _ _ h=>h,fun _ h=>.inl h,fun k hk _=>hsame k hk,by have:=hr.bn;omega⟩
 refine ⟨w,H',rfl,E,v,hp,aE,hq,⟨hwf,fun j x ver hj hvx=>?_,hr.inj,fun j v k hk=>Nat.lt_of_lt_of_le (hr.rn j v k hk) hn,hr.fresh,hr.new,hr.sup,hr.gZ,hr.dx,hr.ds,fun k hk=>Nat.lt_of_lt_of_le (hr.sn k hk) hn,fun k hk=>Nat.lt_of_lt_of_le (hr.xn k hk) hn,hr.mK,Nat.le_trans hr.bn hn,aE.st hr.aE (fun k hk=>hsame k (hr.sn k hk)) hn⟩,.d (hfree.2 _ _ _ _ hv),e.FA⟩
 rcases hr.fh j x ver hj hvx with ⟨k,b',q1,q2,q3⟩|q
 ·exact .inl ⟨k,b',q1,by rw [hsame k (hr.wf.lt q2)];exact q2,e.br hr.wf q3⟩
 ·exact .inr q
theorem fQ.nil:fQ hp [] []:=trivial
theorem fQ.cons {a x:AV} {as xs:List AV} (h:Fq hp a x) (k:fQ hp as xs):fQ hp (a :: as) (x :: xs):=⟨h,k⟩
theorem Fq.deep {v:AV} (h:v.deep=true):Fq hp v v:=.fz (.deep h)
end
end Go.RM
namespace Go.RM
open Go
section
variable {T : bk} {tab : List XE} {one : Bool} {mu : Tmp → Bool} {dst : Option Tmp} {fr : Nat → AV} {hp : List AB} {aE : cF} {rd : Bool} {fl : Nat} {KS : bI → Prop}
theorem om {r:Operand} {name:String} {l:List Operand} {tys} {F:AV} (hF:AU T.P (aL fr r) name=F) (h:force F fun F=>dO (l.map (aL fr)) fun as=>ak T tab one F as hp aE fun v hp' amb'=>gk dst fr v fun fr'=>KS ⟨fr',hp',amb',rd,fl⟩) :
  nN T tab one mu dst (.call ⟨.invoke r name,l.toArray,tys⟩) fr hp aE rd fl KS:=by
 subst hF
 exact h
end
end Go.RM
namespace Go.RM
open Go
section
variable {T : bk} {tab : List XE} {one : Bool} {mu : Tmp → Bool} {KE : Exit → bI → Prop} {st : bI}
theorem BV {l:List Oper} (hd:l.any tO=false):eR l.toArray=l.length:=by
 unfold eR
 have:l.findIdx? tO=none:=by
  rw [List.findIdx?_eq_none_iff]
  intro x hx
  rw [List.any_eq_false] at hd
  simpa using hd x hx
 simp only [this]
theorem La {id:Nat} {l:List Oper} (hd:l.any tO=false) (h:gO T tab mu l.toArray l 0 (fun _=>0) [] st (KE .normal)):kP T tab one mu (.region id l.toArray true) st KE:=by
 refine c5 (BV hd) rfl rfl ?_
 rw [List.take_length,List.drop_length]
 exact h
end
end Go.RM
namespace Go.RM
open Go
section
variable {T : bk} {tab : List XE} {one : Bool} {mu : Tmp → Bool} {own : Bool} {fr : Nat → AV} {hp : List AB} {K : AV → List AB → Prop} {t : TypeId} {und : TypeDesc} {s by' : Nat} {z : Option Value} {agg : Bool} {bE : List (Nat × Nat)} {bN : Nat}
theorem Lc {a:Operand} {cs:List AV} {o:Nat} (ha:aL fr a=.pt cs o) (ht:T.ty.get t=some ⟨und,s,by',z,true,bE,bN⟩) (hl:Nat.ble (o+s) cs.length=true) (h:K (.ag ((cs.drop o).take s)) hp):wpOp T own (.load t a) fr hp K:=by
 show eA T t (aL fr a) hp K
 unfold eA
 simp only [ha,ht]
 exact ⟨Nat.le_of_ble_eq_true hl,h⟩
theorem Ld {a:Operand} {cs:List AV} {o:Nat} {v:AV} (ha:aL fr a=.pt cs o) (ht:T.ty.get t=some ⟨und,s,by',z,false,bE,bN⟩) (hv:cs[o]?=some v) (h:K v hp):wpOp T own (.load t a) fr hp K:=by
 show eA T t (aL fr a) hp K
 unfold eA
 simp only [ha,ht]
 exact ⟨v,hv,h⟩
theorem Lf {a:Operand} {j ver o es:Nat} {cs:List AV} (ha:aL fr a=.ptr j ver o) (ht:T.ty.get t=some ⟨und,s,by',z,true,bE,bN⟩) (hj:hp[j]?=some (.cells cs es ver)) (hl:Nat.ble (o+s) cs.length=true) (h:K (.ag ((cs.drop o).take s)) hp):wpOp T own (.load t a) fr hp K:=by
 show eA T t (aL fr a) hp K
 unfold eA
 simp only [ha,ht]
 exact ⟨cs,es,hj,Nat.le_of_ble_eq_true hl,h⟩
theorem KR {a:Operand} {j ver o es:Nat} {cs:List AV} {v:AV} (ha:aL fr a=.ptr j ver o) (ht:T.ty.get t=some ⟨und,s,by',z,false,bE,bN⟩) (hj:hp[j]?=some (.cells cs es ver)) (hv:cs[o]?=some v) (h:K v hp):wpOp T own (.load t a) fr hp K:=by
 show eA T t (aL fr a) hp K
 unfold eA
 simp only [ha,ht]
 exact ⟨cs,es,hj,v,hv,h⟩
theorem Lg {a:Operand} {i:Nat} {cs:List AV} {o off sz:Nat} {fs} (ha:aL fr a=.pt cs o) (ht:T.ty.get t=some ⟨.struct fs,s,by',z,agg,bE,bN⟩) (hf:bE[i]?=some (off,sz)) (h1:Nat.ble 1 sz=true) (h:K (.pt cs (o+off)) hp):wpOp T own (.fieldAddr t a i) fr hp K:=by
 show hG T t (aL fr a) i hp K
 unfold hG
 simp only [ha,ht]
 exact ⟨off,sz,hf,Nat.le_of_ble_eq_true h1,h⟩
theorem Lh {a:Operand} {i:Nat} {j ver o off sz:Nat} {fs} (ha:aL fr a=.ptr j ver o) (ht:T.ty.get t=some ⟨.struct fs,s,by',z,agg,bE,bN⟩) (hf:bE[i]?=some (off,sz)) (h1:Nat.ble 1 sz=true) (h:K (.ptr j ver (o+off)) hp):wpOp T own (.fieldAddr t a i) fr hp K:=by
 show hG T t (aL fr a) i hp K
 unfold hG
 simp only [ha,ht]
 exact ⟨off,sz,hf,Nat.le_of_ble_eq_true h1,h⟩
theorem Li {v:Value} (ht:T.ty.get t=some ⟨und,s,by',some v,agg,bE,bN⟩) (h1:v.cells.toList.all aK=true) (h:K (.ptr hp.length 0 0) (hp++[.cells (v.cells.toList.map .fl) 0 0])):wpOp T own (.alloc t) fr hp K:=by
 show nH T t hp K
 unfold nH
 simp only [ht]
 exact ⟨h1,h⟩
theorem KT {x:Operand} (h:force (aL fr x) fun v=>uy own v hp K):wpOp T own (.box t x) fr hp K:=h
theorem Lj {v:AV} (ho:own=false) (h1:v.iK=true) (h2:v.cells.all AV.one=true) (h3:ct v.cells=true) (h:K (.pt v.cells 0) hp):uy own v hp K:=by
 subst ho
 exact ⟨h1,h2,h3,h⟩
theorem Ll {v:AV} (ho:own=true) (h1:v.iK=true) (h2:v.cells.all AV.one=true) (h:K (.ptr hp.length 0 0) (hp++[.cells v.cells 0 0])):uy own v hp K:=by
 subst ho
 exact ⟨h1,h2,h⟩
theorem I2 {a x:Operand} (h:force (aL fr x) fun v=>cN T t (aL fr a) v hp K):wpOp T own (.store t a x) fr hp K:=h
theorem KG {a v:AV} {j ver o es:Nat} {cs:List AV} (ha:a=.ptr j ver o) (ht:T.ty.get t=some ⟨und,s,by',z,agg,bE,bN⟩) (hj:hp[j]?=some (.cells cs es ver)) (h1:v.iK=true) (h2:v.cells.all AV.one=true) (h3:v.cells.length=s) (h4:Nat.ble (o+s) cs.length=true) (h:K .bD (hp.set j (.cells (jg cs v.cells o) es ver))):cN T t a v hp K:=by
 unfold cN
 simp only [ha,ht]
 exact ⟨cs,es,hj,h1,h2,h3,Nat.le_of_ble_eq_true h4,h⟩
theorem I3 {l:List (Nat × Operand)} (h:iM (l.map fun p=>(p.1,aL fr p.2)) fun ps=>ku T t ps hp K):wpOp T own (.build t l.toArray) fr hp K:=h
theorem FP {l:List (Nat × Operand)} {len:Nat} (h:iM (l.map fun p=>(p.1,aL fr p.2)) fun ps=>cE T own t len ps hp K):wpOp T own (.buildSlice t len l.toArray) fr hp K:=h
theorem Lm {P:List (Nat × AV)→Prop} (h:P []):iM (([]:List (Nat × Operand)).map fun p=>(p.1,aL fr p.2)) P:=h
theorem Ln {i:Nat} {x:Operand} {l:List (Nat × Operand)} {P:List (Nat × AV)→Prop} (h:force (aL fr x) fun a=>iM (l.map fun p=>(p.1,aL fr p.2)) fun l=>P ((i,a) :: l)):iM (((i,x) :: l).map fun p=>(p.1,aL fr p.2)) P:=h
theorem KI {v:Value} {parts:List (Nat × AV)} {cs:List AV} (ht:T.ty.get t=some ⟨und,s,by',some v,true,bE,bN⟩) (h1:v.cells.toList.all aK=true) (h2:xV (fe und bE bN) (v.cells.toList.map .fl) parts=some cs) (h:K (.ag cs) hp):ku T t parts hp K:=by
 unfold ku
 simp only [ht]
 exact ⟨h1,cs,h2,h⟩
theorem Lq {len:Nat} {parts:List (Nat × AV)} {inf:sQ} (ho:own=false) (hi:elem? T t=some inf) (h1:Nat.ble (len * inf.size) 65536=true) (h2:aX inf=true) (h3:ji inf.size 0 parts=true) (h4:Nat.beq parts.length len=true) (h5:ct (parts.map (·.2.cells)).flatten=true) (h:K (.sl (parts.map (·.2.cells)) true) hp):cE T own t len parts hp K:=by
 subst ho
 unfold cE
 simp only [hi]
 exact ⟨h1,h2,h3,h4,h5,h⟩
theorem Ls {len:Nat} {parts:List (Nat × AV)} {inf:sQ} (ho:own=true) (hi:elem? T t=some inf) (h1:Nat.ble (len * inf.size) 65536=true) (h2:aX inf=true) (h3:ji inf.size 0 parts=true) (h4:Nat.beq parts.length len=true) (h:K (.cQ hp.length 0 0 len len) (hp++[.cells (parts.map (·.2.cells)).flatten inf.size 0])):cE T own t len parts hp K:=by
 subst ho
 unfold cE
 simp only [hi]
 exact ⟨h1,h2,h3,h4,h⟩
theorem Lt {x:Operand} {i:Nat} {vs:List AV} {v:AV} (ha:aL fr x=.tp vs) (hv:vs[i]?=some v) (h:K v hp):wpOp T own (.extract x i) fr hp K:=by
 show ij (aL fr x) i hp K
 rw [ha]
 exact ⟨v,hv,h⟩
theorem K3 {a x:Operand} {e:TypeId} {els:List (List AV)} {f:Bool} {j:Int} {el:List AV} (ha:aL fr a=.sl els f) (hx:aL fr x=.fl (.int .i64 j)) (ht:T.ty.get t=some ⟨.slice e,s,by',z,agg,bE,bN⟩) (hat:els[j.toNat]?=some el) (h0:0≤j) (hl:el.length=bN) (h:K (.pt el 0) hp):wpOp T own (.indexAddr t a x) fr hp K:=by
 show bL T t (aL fr a) (aL fr x) hp K
 rw [ha,hx]
 unfold bL
 simp only [asInt,ht]
 exact ⟨el,⟨h0,hat⟩,hl,h⟩
theorem Lu {a x:Operand} {e:TypeId} {i ver o n c:Nat} {j:Int} (ha:aL fr a=.cQ i ver o n c) (hx:aL fr x=.fl (.int .i64 j)) (ht:T.ty.get t=some ⟨.slice e,s,by',z,agg,bE,bN⟩) (h0:0≤j∧j < (n:Int)) (h:K (.ptr i ver (o+j.toNat * bN)) hp):wpOp T own (.indexAddr t a x) fr hp K:=by
 show bL T t (aL fr a) (aL fr x) hp K
 rw [ha,hx]
 unfold bL
 simp only [asInt,ht]
 exact ⟨h0,h⟩
theorem Lv {a x:Operand} {e:TypeId} {len:Nat} {cs:List AV} {o:Nat} {j:Int} (ha:aL fr a=.pt cs o) (hx:aL fr x=.fl (.int .i64 j)) (ht:T.ty.get t=some ⟨.array len e,s,by',z,agg,bE,bN⟩) (h0:0≤j∧j < (len:Int)) (h:K (.pt cs (o+j.toNat * bN)) hp):wpOp T own (.indexAddr t a x) fr hp K:=by
 show bL T t (aL fr a) (aL fr x) hp K
 rw [ha,hx]
 unfold bL
 simp only [asInt,ht]
 exact ⟨h0,h⟩
theorem Lw {a x:Operand} {e:TypeId} {len:Nat} {i ver o:Nat} {j:Int} (ha:aL fr a=.ptr i ver o) (hx:aL fr x=.fl (.int .i64 j)) (ht:T.ty.get t=some ⟨.array len e,s,by',z,agg,bE,bN⟩) (h0:0≤j∧j < (len:Int)) (h:K (.ptr i ver (o+j.toNat * bN)) hp):wpOp T own (.indexAddr t a x) fr hp K:=by
 show bL T t (aL fr a) (aL fr x) hp K
 rw [ha,hx]
 unfold bL
 simp only [asInt,ht]
 exact ⟨h0,h⟩
end
end Go.RM
namespace Go.RM
open Go
section
variable {T : bk} {own : Bool} {fr : Nat → AV} {hp : List AB} {K : AV → List AB → Prop} {t : TypeId}
theorem Lx {l c:Operand} {n:Nat} {inf:sQ} (hi:elem? T t=some inf) (hl:aL fr l=.fl (.int .i64 (Int.ofNat n))) (hc:aL fr c=.fl (.int .i64 (Int.ofNat n))) (hb:inf.bytes * n≤140737488355328∧n≤9223372036854775807) (hz:aX inf=true) (h:K (.cQ hp.length 0 0 n n) (hp++[.cells ((bp (zeroCells inf) (n * inf.size)).map .fl) inf.size 0])):wpOp T own (.makeSlice t l c) fr hp K:=by
 show rV T t (aL fr l) (aL fr c) hp K
 unfold rV
 simp only [hi,hl,hc]
 refine ⟨n,n,rfl,rfl,⟨Nat.le_refl _,hb⟩,hz,?_⟩
 rw [show Nat.beq n n=true from Nat.beq_refl n]
 exact h
end
end Go.RM
namespace Go.RM
open Go
section
variable {T : bk} {own : Bool} {fr : Nat → AV} {hp : List AB} {K : AV → List AB → Prop} {s x : Operand} {t u e : TypeId} {a1 a2 a3 a4 a5 a6} {els : List (List AV)} {f : Bool} {inf : sQ}
end
end Go.RM
namespace Go.RM
open Go
theorem EN {w m n:Nat} (hm:m < 2 ^ w) (hn:n < 2 ^ w):(BitVec.ofInt w (m:Int) &&& BitVec.ofInt w (n:Int)).toNat=m &&& n:=by
 rw [BitVec.toNat_and,BitVec.ofInt_natCast,BitVec.ofInt_natCast,BitVec.toNat_ofNat,BitVec.toNat_ofNat,Nat.mod_eq_of_lt hm,Nat.mod_eq_of_lt hn]
end Go.RM
namespace Go.RM
open Go
section
variable {T : bk} {tab : List XE} {one : Bool} {fl base : Nat} {E E' E2 : Env} {hp hp' hp2 : List AB} {aE amb' : cF} {H H' H2 : Hp} {ρ ρ2 : Nat → Nat → Option Nat} {g g2 : aA} {O O2 : Nat → Prop}
abbrev A5 (T:bk) (tab:List XE) (base:Nat) (ops:Array Oper) (c:Nat) (K:bI→Prop) (l:List Oper) (i:Nat) (evs:List Ev) (st:bI) (tr:Nat→dB) (s:St):Prop :=
 ∃ m L,di T (RX T tab m) ops l (mP T (RX T tab m) ops c) i s evs=some L∧∀ s' ∈ L,∃ E' st',K st'∧st'.fl=st.fl∧lT E' base st' s'∧iQ st.fl base (tr 0).E (tr 0).hp (tr 0).H E' st'.hp s'.hp
theorem zT {mu:Tmp→Bool} {ops:Array Oper} {o:Oper} {l:List Oper} {i:Nat} {bt:Nat→Nat} {acc:List nQ} {evs:List Ev} {st:bI} {K:bI→Prop} {tr:Nat→dB} {s:St} {c:Nat} {X:List Oper→Nat→(Nat→Nat)→List nQ→bI→Prop}
  (hX:∀ {bt:Nat→Nat} {acc:List nQ} {evs:List Ev} {st:bI} {tr:Nat→dB} {s:St},X l (i+1) bt acc st→oT base st.aE tr (i+1)→(tr (i+1)).hp=st.hp→(tr (i+1)).H=s.hp→s.rd=st.rd→gq tr (i+1) bt st.fr s.fr→lU tr (i+1) acc evs→A5 T tab base ops c K l (i+1) evs st tr s)
  (h:cv ops.toList o.guard st.fr (fM T tab mu o.dst o.op i bt st.fr st.hp fun fr' hp' bt' x=>X l (i+1) bt' (x :: acc) ⟨fr',hp',st.aE,st.rd,st.fl⟩)
   (gk o.dst st.fr (.tp []) fun fr'=>X l (i+1) (lA o.dst bt 0) (⟨i,[],false,false⟩ :: acc) ⟨fr',st.hp,st.aE,st.rd,st.fl⟩))
  (ht:oT base st.aE tr i) (h1:(tr i).hp=st.hp) (h2:(tr i).H=s.hp) (h3:s.rd=st.rd) (hb:gq tr i bt st.fr s.fr) (he:lU tr i acc evs):A5 T tab base ops c K (o :: l) i evs st tr s:=by
 have hrel:=ht.rel i (Nat.le_refl _)
 have hfr:jx (tr i).E.ρ (tr i).H.get ((tr i).E.O (tr i).hp) st.fr s.fr:=fun t=>(ht.ext _ i (hb t).1 (Nat.le_refl _)).ar (ht.rel _ (hb t).1).wf (hb t).2
 have hz0:(snoc tr i (tr i) 0)=tr 0:=bM (Nat.zero_le _)
 rcases nP hfr h with ⟨hg,h⟩|⟨hg,h⟩
 ·
  have go:∀ (z:dB) (v:AV) (u:Value) (b:Nat) (x:nQ) (t:Tc) (m0:Nat),aJ z.E base z.hp st.aE z.H→Ext base (tr i).E (tr i).hp (tr i).H z.E z.hp z.H→b≤i+1→(snoc tr i z b).ar v u→x.i=i→Fj (snoc tr i z) x t →
    (∀ m,m0≤m→aY T (RX T tab m) o.op i s=some (u,z.H,t))→X l (i+1) (lA o.dst bt b) (x :: acc) ⟨vU st.fr o.dst v,z.hp,st.aE,st.rd,st.fl⟩ →
    A5 T tab base ops c K (o :: l) i evs st tr s:=by
   intro z v u b x t m0 hz he' hbi hv hxi hx hd hw
   obtain ⟨m,L,r1,r2⟩:=hX (s:=⟨dP s.fr o.dst u,z.H,s.rd⟩) (evs:=⟨o,s,u,z.H,t⟩ :: evs) hw (ht.snoc hz he') (by rw [bG (Nat.lt_succ_self _)]) (by rw [bG (Nat.lt_succ_self _)]) h3 (hb.put hbi hv o.dst) (.cons (he.snoc (Nat.le_refl _)) hxi hx)
   rw [bM (Nat.zero_le _)] at r2
   refine ⟨max m0 m,L,?_,r2⟩
   rw [dw,hg]
   simp only [cond_true,hd _ (Nat.le_max_left _ _)]
   exact kq (dX (Nat.le_max_right m0 m)) ops (fun _ _ _=>xL (dX (Nat.le_max_right m0 m))) _ _ _ _ _ r1
  unfold fM at h
  split at h
  ·rename_i f args hk
   have h:=dV (bV h)
   obtain ⟨hF,vs,v,hhand,⟨hvd,hpure⟩,h⟩:=h
   have hF':=(vV hfr f).deep hF
   have hget:({s.hp with lo:=s.hp.n}:Hp).get=(tr i).H.get:=by rw [h2];rfl
   obtain ⟨goal,hgo,m0,L,q1,q2,q3⟩:∃ goal,cw (jC T.P s.fr f) (args.map (aP s.fr))=some goal ∧
     ∃ m L,RX T tab m (gx {s.hp with lo:=s.hp.n} goal)=some L∧(true=true→∃ r,L=[r])∧∀ r ∈ L,∃ w H',r=.ret w H' ∧
      ({s.hp with lo:=s.hp.n}:Hp).n≤H'.n∧Wf H'∧(∀ k,k < ({s.hp with lo:=s.hp.n}:Hp).n→H'.get k=({s.hp with lo:=s.hp.n}:Hp).get k)∧min ({s.hp with lo:=s.hp.n}:Hp).lo ({s.hp with lo:=s.hp.n}:Hp).n≤H'.lo∧DR H'.get ((tr i).E.O (tr i).hp) v w:=by
    rcases hhand with ⟨rfl,hA⟩|⟨hz,hfree⟩
    ·have hA':=(dQ hfr args).deep hA
     exact hpure ((tr i).E.O (tr i).hp) {s.hp with lo:=s.hp.n} _ _ (by rw [h2] at hrel;exact hrel.wf) (fun k hk=>by
      have:k < (tr i).H.n:=hk.elim (fun h=>hrel.jL h) (hrel.xn k)
      rw [h2] at this;exact this) (by rw [hget];exact hF') (by rw [hget];exact hA')
    ·obtain ⟨goal,hgo,m0,L,q1,q2,q3⟩:=hpure (tr i).E.X {s.hp with lo:=s.hp.n} _ _ (by rw [h2] at hrel;exact hrel.wf) (fun k hk=>by
      have:k < (tr i).H.n:=hrel.xn k hk
      rw [h2] at this;exact this) (by rw [hget];exact hF'.mono fun k b hk ho=>⟨hk,fun hx=>ho (.inr hx)⟩) (by
       rw [hget]
       rw [←h1] at hz
       exact hz.dr hrel (fun _ h=>h) (dQ hfr args))
     refine ⟨goal,hgo,m0,L,q1,q2,fun r hm=>?_⟩
     obtain ⟨w,H',e1,e2,e3,e4,e5,e6⟩:=q3 r hm
     exact ⟨w,H',e1,e2,e3,e4,e5,hfree.2 _ _ _ _ e6⟩
   obtain ⟨r,hr⟩:=q2 rfl
   subst hr
   obtain ⟨w,H',rfl,hn,hwf,hsame,hlo,hdr⟩:=q3 r (by simp)
   obtain ⟨g1,g2⟩:=hrel.grow (H':={H' with lo:=s.hp.lo}) (by rw [h2];exact hn) hwf (fun k hk=>by
    have:=hsame k (by rw [←h2];exact hk)
    rw [h2];exact this) (by rw [h2];exact Nat.min_le_left _ _)
   refine go ⟨(tr i).E,st.hp,{H' with lo:=s.hp.lo}⟩ v w (i+1) ⟨i,[],true,true⟩ ⟨i,[],[],true,s.hp.n,H'.n⟩ m0 (by rw [←h1];exact g1) (by rw [←h1];exact g2) (Nat.le_refl _) ?_ rfl ?_ (fun m hm=>?_) (eN h)
   ·rw [bG (Nat.lt_succ_self _)]
    refine .d ?_
    show DR H'.get ((tr i).E.O st.hp) v w
    rw [←h1];exact hdr
   ·refine ⟨rfl,by rw [bM (Nat.le_refl _),h2],by rw [bG (Nat.lt_succ_self _)],fun h=>Bool.noConfusion h,rfl,fun k hk=>(by cases hk),fun k hk=>(by cases hk)⟩
   ·unfold aY
    simp only [hk,hgo,dX hm _ _ q1]
    have:Nat.ble s.hp.n H'.lo=true:=Nat.ble_eq_true_of_le (by
     have:min s.hp.n s.hp.n≤H'.lo:=hlo
     omega)
    rw [oy this]
  ·exact h.elim
  ·rename_i hk
   obtain ⟨a,hacc,hw⟩:=h
   have hw':=hw
   rw [←h1] at hw'
   obtain ⟨r,w,ht1,ht2,ht3⟩:=AX ht hb hacc hw'
   have evr:∀ (z:dB) (u:Value) (e:bC),hU T s.hp.n o.op (aP s.fr) s.hp.get=some (u,e)→z.H=s.hp.app e→Fj (snoc tr i z) ⟨i,a,news? o.op,false⟩ ⟨i,r,w,false,s.hp.n,(s.hp.app e).n⟩:=by
    intro z u e hop hz
    refine ⟨rfl,by rw [bM (Nat.le_refl _),h2],by rw [bG (Nat.lt_succ_self _),hz],fun hal _=>(uC (ye hop hal)).symm,rfl,fun k hk=>?_,fun k hk=>?_⟩
    ·obtain ⟨p,p1,p2,p3⟩:=ht2 k hk;exact ⟨p,p1,p2,p3.snoc (Nat.le_refl _)⟩
    ·obtain ⟨p,p1,p2,p3⟩:=ht3 k hk;exact ⟨p,p1,p2,p3.snoc (Nat.le_refl _)⟩
   have drw:∀ (u:Value) (e:bC) (m:Nat),hU T s.hp.n o.op (aP s.fr) s.hp.get=some (u,e)→aY T (RX T tab m) o.op i s=some (u,s.hp.app e,⟨i,r,w,false,s.hp.n,(s.hp.app e).n⟩):=by
    intro u e m hop
    unfold aY
    simp only [hk,ht1,hop]
   by_cases hm:∃ x,yc o.op st.fr=some [x]
   ·obtain ⟨x,hm⟩:=hm
    have hbirth:mh o.op st.fr bt i=vY bt x:=by unfold mh;rw [hm]
    have hbx:=hb.eval x
    have eb:=ht.ext _ i hbx.1 (Nat.le_refl _)
    obtain ⟨u,v,r1,r2,r3,r4⟩:=yd (ρ2:=(tr (vY bt x)).E.ρ) (g2:=(tr (vY bt x)).H.get) (O2:=(tr (vY bt x)).E.O (tr (vY bt x)).hp) (n:=s.hp.n) hfr hm (fun y hy=>by
     obtain rfl:=List.mem_singleton.1 hy;exact hbx.2) (fun k b hk ho=>(eb.keep (ht.rel _ hbx.1).wf k b hk ho).1) hw
    rw [h2] at r1
    have hz:(tr i).H=s.hp.app .none:=h2
    rw [hbirth] at r2
    refine go (tr i) v u (vY bt x) ⟨i,a,news? o.op,false⟩ ⟨i,r,w,false,s.hp.n,(s.hp.app .none).n⟩ 0 hrel .refl (by omega) (by rw [bM hbx.1];exact r4) rfl (evr _ u .none r1 hz) (fun m _=>by rw [hz];exact drw u .none m r1) (by rw [h1];exact eN (bV r2))
   ·have hbirth:mh o.op st.fr bt i=i+1:=by
     unfold mh
     split
     ·rename_i x hx;exact absurd ⟨x,hx⟩ hm
     ·rfl
    obtain ⟨u,e,E',v,hp',r1,r2,r3,r4,r5⟩:=mH hrel hfr hw'
    rw [h2] at r1 r3 r4 r5
    rw [hbirth] at r2
    refine go ⟨E',hp',s.hp.app e⟩ v u (i+1) ⟨i,a,news? o.op,false⟩ ⟨i,r,w,false,s.hp.n,(s.hp.app e).n⟩ 0 r3 (by rw [h2];exact r4) (Nat.le_refl _) (by rw [bG (Nat.lt_succ_self _)];exact r5) rfl (evr _ u e r1 rfl) (fun m _=>drw u e m r1) (eN (bV r2))
 ·obtain ⟨m,L,r1,r2⟩:=hX (s:=⟨dP s.fr o.dst undef,s.hp,s.rd⟩) (evs:=⟨o,s,undef,s.hp,⟨i,[],[],false,s.hp.n,s.hp.n⟩⟩ :: evs) (eN h) (ht.snoc (z:=tr i) hrel .refl) (by rw [bG (Nat.lt_succ_self _)];exact h1) (by rw [bG (Nat.lt_succ_self _)];exact h2) h3
   (hb.put (Nat.zero_le _) rZ o.dst) (.cons (he.snoc (Nat.le_refl _)) rfl ⟨rfl,by rw [bM (Nat.le_refl _),h2],by rw [bG (Nat.lt_succ_self _),h2],fun _ _=>rfl,rfl,fun k hk=>(by cases hk),fun k hk=>(by cases hk)⟩)
  rw [hz0] at r2
  refine ⟨m,L,?_,r2⟩
  rw [dw,hg]
  exact r1
def Kq (T:bk) (tab:List XE) (mu:Tmp→Bool) (ops:Array Oper) (c:Nat) (K:bI→Prop) (acc:List nQ) (st:bI):Prop :=
 match ops.toList[c]? with
 | some o=>match cZ o.op with
  | .call f args=>cv ops.toList o.guard st.fr (force (KF T.P st.fr f) fun F=>dO (args.map (aL st.fr)) fun as=>F.deep=true∧∃ vs v,Handed st.hp as vs v∧af T tab false F vs v∧lO (qg ops) (⟨c,[],true,true⟩ :: acc)=true ∧
   gk o.dst st.fr v fun fr'=>wpOps T tab false mu ops.toList (ops.toList.drop (c+1)) ⟨fr',st.hp,st.aE,st.rd,st.fl⟩ K) False
  | _=>False
 | none=>False
def jm (T:bk) (tab:List XE) (mu:Tmp→Bool) (ops:Array Oper) (c:Nat) (K:bI→Prop):List Oper→Nat→(Nat→Nat)→List nQ→bI→Prop
 | [],i,_,acc,st=>i=c∧Kq T tab mu ops c K acc st
 | ⟨dst,op,_,_,_,gd⟩ :: l,i,bt,acc,⟨fr,hp,aE,rd,fl⟩ =>
  cv ops.toList gd fr (fM T tab mu dst op i bt fr hp fun fr' hp' bt' x=>jm T tab mu ops c K l (i+1) bt' (x :: acc) ⟨fr',hp',aE,rd,fl⟩)
   (gk dst fr (.tp []) fun fr'=>jm T tab mu ops c K l (i+1) (lA dst bt 0) (⟨i,[],false,false⟩ :: acc) ⟨fr',hp,aE,rd,fl⟩)
theorem mj {mu:Tmp→Bool} {ops:Array Oper} {c:Nat} {K:bI→Prop}:∀ {l:List Oper} {i:Nat} {bt:Nat→Nat} {acc:List nQ} {evs:List Ev} {st:bI} {tr:Nat→dB} {s:St},jm T tab mu ops c K l i bt acc st →
  oT base st.aE tr i→(tr i).hp=st.hp→(tr i).H=s.hp→s.rd=st.rd→gq tr i bt st.fr s.fr→lU tr i acc evs→A5 T tab base ops c K l i evs st tr s
 | o :: l,i,bt,acc,evs,st,tr,s,h,ht,h1,h2,h3,hb,he=>zT (X:=fun l i bt acc st=>jm T tab mu ops c K l i bt acc st) (fun h=>mj h) h ht h1 h2 h3 hb he
 | [],i,bt,acc,evs,st,tr,s,h,ht,h1,h2,h3,hb,he=>by
  obtain ⟨rfl,h⟩:=h
  have hrel:=ht.rel i (Nat.le_refl _)
  have hfr:jx (tr i).E.ρ (tr i).H.get ((tr i).E.O (tr i).hp) st.fr s.fr:=fun t=>(ht.ext _ i (hb t).1 (Nat.le_refl _)).ar (ht.rel _ (hb t).1).wf (hb t).2
  unfold Kq at h
  split at h
  ·rename_i o ho
   split at h
   ·rename_i f args hk
    rcases nP hfr h with ⟨hg,h⟩|⟨_,h⟩
    case inr=>exact h.elim
    have h:=dV (bV h)
    obtain ⟨hF,vs,v,hhand,⟨hvd,hpure⟩,hchk,h⟩:=h
    have h:=eN h
    have hF':=(vV hfr f).deep hF
    have hget:({s.hp with lo:=s.hp.n}:Hp).get=(tr i).H.get:=by rw [h2];rfl
    obtain ⟨goal,hgo,m0,R,q1,q2,q3⟩:∃ goal,cw (jC T.P s.fr f) (args.map (aP s.fr))=some goal ∧
      ∃ m L,RX T tab m (gx {s.hp with lo:=s.hp.n} goal)=some L∧(false=true→∃ r,L=[r])∧∀ r ∈ L,∃ w H',r=.ret w H' ∧
       ({s.hp with lo:=s.hp.n}:Hp).n≤H'.n∧Wf H'∧(∀ k,k < ({s.hp with lo:=s.hp.n}:Hp).n→H'.get k=({s.hp with lo:=s.hp.n}:Hp).get k)∧min ({s.hp with lo:=s.hp.n}:Hp).lo ({s.hp with lo:=s.hp.n}:Hp).n≤H'.lo∧DR H'.get ((tr i).E.O (tr i).hp) v w:=by
     rcases hhand with ⟨rfl,hA⟩|⟨hz,hfree⟩
     ·have hA':=(dQ hfr args).deep hA
      exact hpure ((tr i).E.O (tr i).hp) {s.hp with lo:=s.hp.n} _ _ (by rw [h2] at hrel;exact hrel.wf) (fun k hk=>by
       have:k < (tr i).H.n:=hk.elim (fun h=>hrel.jL h) (hrel.xn k)
       rw [h2] at this;exact this) (by rw [hget];exact hF') (by rw [hget];exact hA')
     ·obtain ⟨goal,hgo,m0,L,q1,q2,q3⟩:=hpure (tr i).E.X {s.hp with lo:=s.hp.n} _ _ (by rw [h2] at hrel;exact hrel.wf) (fun k hk=>by
        have:k < (tr i).H.n:=hrel.xn k hk
        rw [h2] at this;exact this) (by rw [hget];exact hF'.mono fun k b hk ho=>⟨hk,fun hx=>ho (.inr hx)⟩) (by
        rw [hget]
        rw [←h1] at hz
        exact hz.dr hrel (fun _ h=>h) (dQ hfr args))
      refine ⟨goal,hgo,m0,L,q1,q2,fun r hm=>?_⟩
      obtain ⟨w,H',e1,e2,e3,e4,e5,e6⟩:=q3 r hm
      exact ⟨w,H',e1,e2,e3,e4,e5,hfree.2 _ _ _ _ e6⟩
    have hone:∀ r ∈ R,∃ w H',r=.ret w H'∧qq i s r=some [(w,({H' with lo:=s.hp.lo}:Hp),(⟨i,[],[],true,s.hp.n,H'.n⟩:Tc))] ∧
      cO T ops (⟨o,s,w,{H' with lo:=s.hp.lo},⟨i,[],[],true,s.hp.n,H'.n⟩⟩ :: evs)=true ∧
      lT (tr i).E base ⟨vU st.fr o.dst v,st.hp,st.aE,st.rd,st.fl⟩ ⟨dP s.fr o.dst w,{H' with lo:=s.hp.lo},s.rd⟩∧Ext base (tr 0).E (tr 0).hp (tr 0).H (tr i).E st.hp {H' with lo:=s.hp.lo}:=fun r hr=>by
     obtain ⟨w,H',rfl,hn,hwf,hsame,hlo,hdr⟩:=q3 r hr
     obtain ⟨g1,g2⟩:=hrel.grow (H':={H' with lo:=s.hp.lo}) (by rw [h2];exact hn) hwf (fun k hk=>by
      have:=hsame k (by rw [←h2];exact hk)
      rw [h2];exact this) (by rw [h2];exact Nat.min_le_left _ _)
     rw [h1] at g1 g2
     have hble:Nat.ble s.hp.n H'.lo=true:=Nat.ble_eq_true_of_le (by
      have:min s.hp.n s.hp.n≤H'.lo:=hlo
      omega)
     let z:dB:=⟨(tr i).E,st.hp,{H' with lo:=s.hp.lo}⟩
     have htz:oT base st.aE (snoc tr i z) (i+1):=ht.snoc (z:=z) g1 (by rw [h1];exact g2)
     have hev:lU (snoc tr i z) (i+1) (⟨i,[],true,true⟩ :: acc) (⟨o,s,w,{H' with lo:=s.hp.lo},⟨i,[],[],true,s.hp.n,H'.n⟩⟩ :: evs) :=
      .cons (he.snoc (Nat.le_refl _)) rfl ⟨rfl,by rw [bM (Nat.le_refl _),h2],by rw [bG (Nat.lt_succ_self _)],fun h=>Bool.noConfusion h,rfl,fun k hk=>(by cases hk),fun k hk=>(by cases hk)⟩
     refine ⟨w,H',rfl,?_,?_,⟨g1,h3,fun t=>?_⟩,?_⟩
     ·show some [gS i s w H']=_
      rw [oy hble]
     ·unfold cO
      generalize hE:((⟨o,s,w,{H' with lo:=s.hp.lo},⟨i,[],[],true,s.hp.n,H'.n⟩⟩:Ev) :: evs)=evs' at *
      cases (evs'.all fun e=>e.t.wr.isEmpty && Nat.beq e.t.a e.t.b) with
      | true=>rfl
      | false=>exact hev.pairs htz (Nat.le_refl _) hchk
     ·have hb':=(hb.put (z:=z) (v:=v) (u:=w) (Nat.le_refl _) (by
       rw [bG (Nat.lt_succ_self _)]
       refine .d ?_
       show DR H'.get ((tr i).E.O st.hp) v w
       rw [←h1];exact hdr) o.dst) t
      have:=(htz.ext _ (i+1) hb'.1 (Nat.le_refl _)).ar (htz.rel _ hb'.1).wf hb'.2
      rw [bG (Nat.lt_succ_self _)] at this
      exact this
     ·have:=htz.ext 0 (i+1) (Nat.zero_le _) (Nat.le_refl _)
      rw [bM (Nat.zero_le _),bG (Nat.lt_succ_self _)] at this
      exact this
    obtain ⟨P,hP⟩:∃ P,bW R (qq i s)=some P:=by
     obtain ⟨_,M,_,hM,_⟩:=dA (one:=false) (L:=R) (f:=fun _ r=>qq i s r) (P:=fun _=>True) (fun _ _ _ _ _ h=>h) 0 (fun h=>Bool.noConfusion h) (fun r hr=>by
      obtain ⟨w,H',_,e,_⟩:=hone r hr
      exact ⟨0,_,e,fun h=>Bool.noConfusion h,fun _ _=>trivial⟩)
     exact ⟨M,hM⟩
    have hPr:∀ p ∈ P,∃ w H',p=(w,({H' with lo:=s.hp.lo}:Hp),(⟨i,[],[],true,s.hp.n,H'.n⟩:Tc))∧eP.ret w H' ∈ R:=fun p hp=>by
     obtain ⟨r,hr,Pr,e1,e2⟩:=fj hP p hp
     obtain ⟨w,H',rfl,e3,_⟩:=hone r hr
     rw [e3] at e1
     cases e1
     exact ⟨w,H',List.mem_singleton.1 e2,hr⟩
    obtain ⟨m,L,hm,hL,_,hLs⟩:=dA (one:=false) (L:=P) (f:=fun m (p:Value × Hp × Tc)=>aV T (RX T tab m) ops.toList (ops.toList.drop (i+1)) ⟨dP s.fr o.dst p.1,p.2.1,s.rd⟩)
     (P:=fun s'=>∃ E' st',K st'∧st'.fl=st.fl∧lT E' base st' s'∧iQ st.fl base (tr 0).E (tr 0).hp (tr 0).H E' st'.hp s'.hp) (fun a b x M hab hx=>fZ (dX hab) _ _ _ _ hx) m0 (fun h=>Bool.noConfusion h) (fun p hp=>by
      obtain ⟨w,H',rfl,hr⟩:=hPr p hp
      obtain ⟨w',H'',e0,_,_,hrel2,hext⟩:=hone _ hr
      cases e0
      obtain ⟨m2,L2,k1,k2,k3⟩:=gF h hrel2
      refine ⟨m2,L2,k1,fun h=>Bool.noConfusion h,fun s' hs'=>?_⟩
      obtain ⟨E2,st2,j1,j2,j3,j4⟩:=k3 s' hs'
      exact ⟨E2,st2,j1,j2,j3,hext.FA.trans j4⟩)
    refine ⟨m,L,?_,hLs⟩
    rw [s8]
    unfold mP
    have hdm:gy T (RX T tab m) ops o i s=some P:=by
     unfold gy
     rw [hg,cond_true]
     unfold cU
     simp only [hk,hgo,dX hm _ _ q1]
     exact hP
    simp only [ho,hdm]
    have hall:(P.all fun p=>cO T ops (⟨o,s,p.1,p.2.1,p.2.2⟩ :: evs))=true:=by
     rw [List.all_eq_true]
     intro p hp
     obtain ⟨w,H',rfl,hr⟩:=hPr p hp
     obtain ⟨w',H'',e0,_,hd,_⟩:=hone _ hr
     cases e0
     exact hd
    rw [hall]
    exact hL
   ·exact h.elim
  ·exact h.elim
theorem aF.nd {id:Nat} (c:Nat) {l:List Oper} {mu:Tmp→Bool} {st:bI} {K:Exit→bI→Prop} (hc:qt l.toArray=some c) (h:jm T tab mu l.toArray c (K .normal) (l.take c) 0 (fun _=>0) [] st):aF T tab false (.region id l.toArray true) st K:=by
 intro E base s hs
 obtain ⟨m,L,r1,r2⟩:=mj (base:=base) (tr:=fun _=>⟨E,st.hp,s.hp⟩) (evs:=[]) h ⟨fun _ _=>hs.h,fun _ _ _ _=>.refl⟩ rfl rfl hs.rd (fun t=>⟨Nat.le_refl _,hs.fr t⟩) .nil
 refine ⟨m,L.map fun s=>(.normal,s),?_,fun h1=>Bool.noConfusion h1,fun p hp=>?_⟩
 ·rw [eL]
  have:bT T (RX T tab m) l.toArray s=some L:=by
   unfold bT
   rw [hc]
   exact r1
  simp only [cond_true,this]
 ·obtain ⟨s2,hm,rfl⟩:=List.mem_map.1 hp
  obtain ⟨E2,st2,k1,k2,k3,k4⟩:=r2 s2 hm
  exact ⟨E2,st2,k1,k2,k3,k4⟩
section
variable {mu : Tmp → Bool} {ops : Array Oper} {K : bI → Prop} {c i : Nat} {bt : Nat → Nat} {acc : List nQ} {fr : Nat → AV} {rd : Bool}
theorem Ly {dst:Option Tmp} {op:Op} {a1 a2 a3 gd} {l:List Oper} (h:cv ops.toList gd fr (fM T tab mu dst op i bt fr hp fun fr' hp' bt' x=>jm T tab mu ops c K l (i+1) bt' (x :: acc) ⟨fr',hp',aE,rd,fl⟩)
 (gk dst fr (.tp []) fun fr'=>jm T tab mu ops c K l (i+1) (lA dst bt 0) (⟨i,[],false,false⟩ :: acc) ⟨fr',hp,aE,rd,fl⟩)):jm T tab mu ops c K (⟨dst,op,a1,a2,a3,gd⟩ :: l) i bt acc ⟨fr,hp,aE,rd,fl⟩:=h
end
end
end Go.RM
namespace Go.RM
open Go
end Go.RM
namespace Go.RM
structure Hd (h:Prop):Prop where
 x:h
theorem u1 {g h : Prop} (q : h) (k : Hd h → g := by
    intro hd
    first
    | with_reducible (first | refine RM.c1 ?_ | refine RM.c2 ?_ | refine RM.c3 ?_ | refine RM.c4 ?_ | refine RM.c6 ?_ | refine RM.c7 ?_ | refine RM.c8 ?_ | refine RM.c9 ?_ | refine RM.d1 ?_ | refine RM.d2 ?_ | refine RM.d3 ?_ | refine RM.d4 ?_ | refine RM.d7 ?_ | refine RM.d8 ?_ | refine RM.d9 ?_ | refine RM.o1 ?_ | refine RM.o2 ?_ | refine RM.o3 ?_ | refine RM.o4 ?_ | refine RM.o5 ?_ | refine RM.o6 ?_ | refine RM.o7 ?_ | refine RM.o9 ?_ | refine RM.p1 ?_ | refine RM.p2 ?_ | refine RM.p3 ?_ | refine RM.p4 ?_ | refine RM.p5 ?_ | refine RM.p6 ?_ | refine RM.p7 ?_ | refine RM.p8 ?_ | refine RM.q1 ?_ | refine RM.q2 ?_ | refine RM.KT ?_ | refine RM.I2 ?_ | refine RM.I3 ?_ | refine RM.FP ?_ | refine RM.Lm ?_ | refine RM.Ln ?_ | refine RM.Ly ?_)
    | ((with_reducible show force _ _); first | refine RM.f1 rfl ?_ | refine RM.f2 rfl ?_ | refine RM.f3 rfl ?_ | refine RM.f4 rfl ?_ | refine RM.f5 rfl ?_ | refine RM.f6 rfl ?_ | refine RM.f7 rfl ?_ | refine RM.f8 rfl ?_ | refine RM.f9 rfl ?_ | refine RM.g1 rfl ?_ | refine RM.g2 rfl ?_)
    | ((with_reducible show RM.wpOp _ _ _ _ _ _); first
      | ((with_reducible show RM.wpOp _ _ (.load _ _) _ _ _); first | refine RM.Ld rfl rfl rfl ?_ | refine RM.Lc rfl rfl rfl ?_ | refine RM.KR rfl rfl rfl rfl ?_ | refine RM.Lf rfl rfl rfl rfl ?_)
      | ((with_reducible show RM.wpOp _ _ (.fieldAddr _ _ _) _ _ _); first | refine RM.Lg rfl rfl rfl rfl ?_ | refine RM.Lh rfl rfl rfl rfl ?_)
      | ((with_reducible show RM.wpOp _ _ (.alloc _) _ _ _); refine RM.Li rfl rfl ?_)
      | ((with_reducible show RM.wpOp _ _ (.extract _ _) _ _ _); refine RM.Lt rfl rfl ?_)
      | ((with_reducible show RM.wpOp _ _ (.indexAddr _ _ _) _ _ _); first | refine RM.K3 rfl rfl rfl (by assumption) (by omega) rfl ?_ | refine RM.K3 rfl rfl rfl rfl (by omega) rfl ?_ | refine RM.Lu rfl rfl rfl (by omega) ?_ | refine RM.Lv rfl rfl rfl (by omega) ?_ | refine RM.Lw rfl rfl rfl (by omega) ?_)
      | ((with_reducible show RM.wpOp _ _ (.makeSlice _ _ _) _ _ _); refine RM.Lx rfl rfl rfl (by decide) rfl ?_)
      | ((with_reducible show RM.wpOp _ _ (.unOp _ _ _) _ _ _); refine RM.n3 rfl ?_)
      | ((with_reducible show RM.wpOp _ _ (.call _) _ _ _); first | refine RM.n4 rfl rfl ?_ | refine RM.n5 rfl rfl ?_))
    | ((with_reducible show kP _ _ _ _ (.region _ _ true) _ _); first | refine RM.La rfl ?_ | refine RM.c5 (by kernel_rfl) rfl rfl ?_)
    | ((with_reducible show nN _ _ _ _ _ _ _ _ _ _ _ _); refine RM.o8 rfl ?_)
    | ((with_reducible show fM _ _ _ _ _ _ _ _ _ _); first | refine RM.p9 rfl ?_ | refine RM.n1 ?_)
    | ((with_reducible show cv _ _ _ _ _); first | refine pR rfl rfl rfl ?_ | refine sv rfl rfl rfl ?_ | refine v7 rfl rfl ?_ | refine pR rfl rfl (by assumption) ?_ | refine sv rfl rfl (by assumption) ?_)
    | ((with_reducible show kP _ _ _ _ (.cond _ _ _) _ _); first | refine RM.e2 rfl rfl ?_ | refine RM.e3 rfl rfl ?_ | refine RM.e2 rfl (by assumption) ?_ | refine RM.e3 rfl (by assumption) ?_)
    | ((with_reducible show oL _ _ _ _ _); refine RM.k1 rfl ?_)
    | ((with_reducible show hH _ _ _ _ _); first | refine RM.k2 rfl ?_ | refine RM.k3 rfl ?_ | refine RM.k2 (by assumption) ?_ | refine RM.k3 (by assumption) ?_ | refine RM.k4 rfl rfl ?_)
    | ((with_reducible show cM _ _ _ _ _ _ _ _ _); first | refine RM.b4 rfl rfl ?_ | refine RM.b5 rfl rfl ?_ | refine RM.b6 rfl rfl ?_ | refine RM.b7 rfl rfl ?_ | refine RM.b8 rfl rfl ?_ | refine RM.b9 rfl rfl ?_ | refine RM.b1 rfl rfl (by omega) ?_ | refine RM.b2 rfl rfl (by omega) ?_ | refine RM.b3 rfl rfl (by omega) ?_ | refine RM.r1 rfl rfl (by omega) ?_ | refine RM.r2 rfl rfl (by omega) ?_)
    | ((with_reducible show kL _ _ _ _ _); first | refine RM.l1 rfl ?_ | refine RM.l2 rfl ?_)
    | ((with_reducible show nJ _ _ _); first | refine RM.l3 rfl ?_ | refine RM.l4 rfl ?_)
    | ((with_reducible show iN _ _ _ _); first | refine RM.d5 rfl ?_ | refine RM.d6 rfl ?_)
    | ((with_reducible show uy _ _ _ _); first | refine RM.Lj rfl rfl rfl rfl ?_ | refine RM.Ll rfl rfl rfl ?_)
    | ((with_reducible show cN _ _ _ _ _ _); refine RM.KG rfl rfl rfl rfl rfl rfl rfl ?_)
    | ((with_reducible show ku _ _ _ _ _); refine RM.KI rfl rfl rfl ?_)
    | ((with_reducible show cE _ _ _ _ _ _ _); first | refine RM.Lq rfl rfl rfl rfl rfl rfl rfl ?_ | refine RM.Ls rfl rfl rfl rfl rfl rfl ?_)
    | ((with_reducible show ak _ _ _ _ _ _ _ _); refine af.call (by assumption) rfl rfl ?_)
    | ((with_reducible show lO _ _ = true ∧ _); refine And.intro (by kernel_rfl) ?_)
    | ((with_reducible show ∃ _, EC _ _ _ = some _ ∧ _); refine ⟨_, rfl, ?_⟩)
    | ((with_reducible show AV.deep _ = true ∧ _); refine ⟨rfl, rfl, ?_⟩)
    | ((with_reducible show ∃ _, af _ _ _ _ _ _ ∧ _); refine ⟨_, by assumption, ?_⟩)
    exact hd.x) : g := k ⟨q⟩
theorem u2 {g h:Prop} (q:h) (k:Hd h→g:=by
 intro hd
 first
 | refine ⟨_,rfl,?_⟩
 | refine ⟨_,_,rfl,by decide,?_⟩
 | refine ⟨rfl,rfl,rfl,?_⟩
 | refine ⟨rfl,rfl,?_⟩
 | refine ⟨_,_,rfl,_,rfl,?_⟩
 | refine And.intro (Nat.le_of_ble_eq_true rfl) ?_
 | refine And.intro (by omega) ?_
 | refine ⟨_,_,rfl,rfl,_,rfl,rfl,?_⟩
 | refine And.intro (by kernel_rfl) ?_
 | refine ⟨rfl,rfl,rfl,rfl,rfl,?_⟩
 | refine ⟨_,_,rfl,rfl,rfl,rfl,Nat.le_of_ble_eq_true rfl,?_⟩
 | refine ⟨_,_,rfl,Nat.le_of_ble_eq_true rfl,?_⟩
 exact hd.x):g:=k ⟨q⟩
end Go.RM
namespace Go.RM
open Go
theorem wrap_u64 {n:Nat} (h:n < 18446744073709551616):IntKind.wrap .u64 (n:Int)=(n:Int):=by
 show ((BitVec.ofInt 64 (n:Int)).toNat:Int)=_
 rw [BitVec.ofInt_natCast,BitVec.toNat_ofNat,Nat.mod_eq_of_lt h]
theorem EX {P:Program} {t:TypeId} {x y:Operand} {m n:Nat} (hm:m < 18446744073709551616) (hn:n < 18446744073709551616):fV P .and t x y (.int .u64 (m:Int)) (.int .u64 (n:Int))=some (.int .u64 ((m &&& n:Nat):Int),.none):=by
 have h:fV P .and t x y (.int .u64 (m:Int)) (.int .u64 (n:Int))=some (.int .u64 (IntKind.wrap .u64 ((BitVec.ofInt 64 (m:Int) &&& BitVec.ofInt 64 (n:Int)).toNat:Int)),.none):=rfl
 rw [h,EN (by omega) (by omega),wrap_u64 (Nat.lt_of_le_of_lt Nat.and_le_left hm)]
theorem F0 {P:Program} {t:TypeId} {x y:Operand} {m n:Nat} (hm:m < 18446744073709551616) (hn:n < 18446744073709551616):fV P .or t x y (.int .u64 (m:Int)) (.int .u64 (n:Int))=some (.int .u64 ((m ||| n:Nat):Int),.none):=by
 have h:fV P .or t x y (.int .u64 (m:Int)) (.int .u64 (n:Int))=some (.int .u64 (IntKind.wrap .u64 ((BitVec.ofInt 64 (m:Int) ||| BitVec.ofInt 64 (n:Int)).toNat:Int)),.none):=rfl
 rw [h,FN (by omega) (by omega),wrap_u64 (Nat.or_lt_two_pow (n:=64) hm hn)]
theorem EY {P:Program} {t:TypeId} {x y:Operand} {j:Nat} (hj:j < 8):fV P .shl t x y (.int .u64 1) (.int .i64 (j:Int))=some (.int .u64 ((2 ^ j:Nat):Int),.none):=by
 match j,hj with
 | 0,_|1,_|2,_|3,_|4,_|5,_|6,_|7,_=>rfl
theorem EZ {P:Program} {t:TypeId} {x y:Operand} {m j:Nat} (hj:j < 8):fV P .shr t x y (.int .u64 (m:Int)) (.int .i64 (j:Int))=some (.int .u64 ((m / 2 ^ j:Nat):Int),.none):=by
 have h:fV P .shr t x y (.int .u64 (m:Int)) (.int .i64 (j:Int))=some (.int .u64 ((m:Int).fdiv (2 ^ j)),.none):=by
  match j,hj with
  | 0,_|1,_|2,_|3,_|4,_|5,_|6,_|7,_=>rfl
 rw [h,Int.fdiv_eq_ediv_of_nonneg _ (Int.pow_nonneg (by decide)),Int.natCast_ediv,Int.natCast_pow]
 rfl
theorem F2 {P:Program} {t:TypeId} {x y:Operand} {m n:Int}:fV P .eql t x y (.int .u64 m) (.int .u64 n)=some (.bool (decide (m=n)),.none):=rfl
section
variable {T : bk} {a b : AV} {t : TypeId} {x y : Operand} {hp : List AB} {K : AV → List AB → Prop}
theorem Ku {m n:Nat} (ha:a=.fl (.int .u64 (m:Int))) (hb:b=.fl (.int .u64 (n:Int))) (hm:m < 18446744073709551616) (hn:n < 18446744073709551616) (h:K (.fl (.int .u64 ((m &&& n:Nat):Int))) hp):cM T .and t x y a b hp K:=by
 subst ha hb
 exact ⟨_,_,rfl,rfl,.int .u64 ((m &&& n:Nat):Int),EX hm hn,rfl,h⟩
theorem KX {m n:Nat} (ha:a=.fl (.int .u64 (m:Int))) (hb:b=.fl (.int .u64 (n:Int))) (hm:m < 18446744073709551616) (hn:n < 18446744073709551616) (h:K (.fl (.int .u64 ((m ||| n:Nat):Int))) hp):cM T .or t x y a b hp K:=by
 subst ha hb
 exact ⟨_,_,rfl,rfl,.int .u64 ((m ||| n:Nat):Int),F0 hm hn,rfl,h⟩
theorem Kv {j:Nat} (ha:a=.fl (.int .u64 1)) (hb:b=.fl (.int .i64 (j:Int))) (hj:j < 8) (h:K (.fl (.int .u64 ((2 ^ j:Nat):Int))) hp):cM T .shl t x y a b hp K:=by
 subst ha hb
 exact ⟨_,_,rfl,rfl,.int .u64 ((2 ^ j:Nat):Int),EY hj,rfl,h⟩
theorem Hu {m j:Nat} (ha:a=.fl (.int .u64 (m:Int))) (hb:b=.fl (.int .i64 (j:Int))) (hj:j < 8) (h:K (.fl (.int .u64 ((m / 2 ^ j:Nat):Int))) hp):cM T .shr t x y a b hp K:=by
 subst ha hb
 exact ⟨_,_,rfl,rfl,.int .u64 ((m / 2 ^ j:Nat):Int),EZ hj,rfl,h⟩
theorem Kw {m n:Int} (ha:a=.fl (.int .u64 m)) (hb:b=.fl (.int .u64 n)) (h:K (.fl (.bool (decide (m=n)))) hp):cM T .eql t x y a b hp K:=by
 subst ha hb
 exact ⟨_,_,rfl,rfl,.bool (decide (m=n)),F2,rfl,h⟩
theorem E6 {m:Nat} (ha:a=.fl (.int .u64 (m:Int))) (hb:b=.fl (.int .u64 1)) (hm:m < 18446744073709551616) (h:K (.fl (.int .u64 ((m % 2:Nat):Int))) hp):cM T .and t x y a b hp K:=by
 rw [←Nat.and_one_is_mod] at h
 exact Ku (n:=1) ha hb hm (by decide) h
end
theorem KY {T:bk} {fr:Nat→AV} {hp:List AB} {K:AV→List AB→Prop} {s x:Operand} {t u e:TypeId} {a1 a2 a3 a4 a5 a6} {els0 els:List (List AV)} {f:Bool} {inf:sQ} (hs:aL fr s=.sl els0 true) (hx:aL fr x=.sl els f)
  (hu:T.ty.get u=some ⟨.slice e,a1,a2,a3,a4,a5,a6⟩) (hi:elem? T t=some inf) (hz:aX inf=true) (h0:∀ el ∈ els0,el.length=inf.size) (hel:∀ el ∈ els,el.length=inf.size) (h1:els.flatten.all AV.one=true) (hne:els ≠ [])
  (hb:(els0.length+els.length) * inf.bytes≤140737488355328∧els0.length+els.length≤9223372036854775807) (hd:ct els.flatten=true) (hk:K (.sl (els0++els) false) hp) :
  RM.wpOp T false (.call ⟨.builtin .append,[s,x].toArray,[t,u].toArray⟩) fr hp K:=by
 show force (aL fr s) fun a=>force (aL fr x) fun b=>iq T false .append [a,b] [t,u] hp K
 rw [hs,hx]
 show (match T.ty.get u with|some ⟨.slice _,_,_,_,_,_,_⟩=>jk T false t (.sl els0 true) (.sl els f) hp K|_=>False)
 rw [hu]
 show jk T false t (.sl els0 true) (.sl els f) hp K
 unfold jk
 rw [hi]
 exact ⟨hz,els,⟨hel,rfl⟩,h1,h0,hb,fun e=>absurd e hne,fun _=>⟨hd,hk⟩⟩
end Go.RM
namespace Go.RM
open Go
section
variable {T : bk} {own : Bool} {fr : Nat → AV} {hp : List AB} {K : AV → List AB → Prop} {t : TypeId} {s by' bN : Nat} {z : Option Value} {agg : Bool} {bE : List (Nat × Nat)}
theorem K0 {x hi:Operand} {cs:List AV} {o len h:Nat} {e:TypeId} {els:List (List AV)} (hx:aL fr x=.pt cs o) (hh:aL fr hi=.fl (.int .i64 (h:Int))) (ht:T.ty.get t=some ⟨.array len e,s,by',z,agg,bE,bN⟩)
  (hb:h≤len∧o+h * bN≤cs.length) (h1:1≤bN) (he:els.length=h∧(∀ el ∈ els,el.length=bN)∧els.flatten=(cs.drop o).take (h * bN)) (k:K (.sl els (Nat.beq h len)) hp):wpOp T own (.slice t x none (some hi) none) fr hp K:=by
 show nK T t (aL fr x) none (some (aL fr hi)) hp K
 rw [hx,hh]
 unfold nK
 simp only [ht]
 refine ⟨0,h,els,rfl,rfl,⟨Nat.zero_le _,hb.1,hb.2⟩,h1,?_,k⟩
 rw [Nat.zero_mul,Nat.add_zero,Nat.sub_zero]
 exact he
theorem LA {o:BinOp} {x y:Operand} {a:AV} {els:List (List AV)} {f b:Bool} (ha:a=.sl els f) (hne:els ≠ []) (ht:iw T.P t=true) (ho:gw o=some (.bool b,.none)) (k:K (.fl (.bool b)) hp):cM T o t x y a (.fl (.slice none 0 0)) hp K:=by
 subst ha
 exact ⟨hne,ht,_,ho,k⟩
end
end Go.RM
namespace Go.RM
open Go
inductive As (s st:bI):Prop
 | is (h:ax s st)
 | no (h:False)
theorem As.bf {s st:bI}:As s st→ax s st
 | .is h=>h
 | .no h=>h.elim
theorem cutAt {T:bk} {tab:List XE} {one:Bool} {a b:Code} {st st':bI} {K:Exit→bI→Prop} (h1:aF T tab one a st (r0 (fun s=>As s st') K)) (h2:aF T tab one b st' K):aF T tab one (.seq a b) st K :=
 .seq (h1.mono fun e s h=>by cases e <;> first|exact .bf h.bf h2|exact h)
end Go.RM
