/-
  A layer of contracts over the abstract machine. Lemmas alone; no condition.
-/
import Derived.Test.YtpeogffeoehboaaGreatDoorA1
import Derived.Test.YtpeogffeoehboaaGreatDoorA2
import Derived.IntWalk
namespace Go.RM
open Go
theorem Kg {P:Program} {t:TypeId} {x y:Operand} {m n:Int} (h0:0≤m) (h2:1≤n):eG P .rem t x y (.int .i64 m) (.int .i64 n)=some (.int .i64 (m % n),.none):=by
 have hn:n ≠ 0:=by omega
 have h:eG P .rem t x y (.int .i64 m) (.int .i64 n)=some (.int .i64 (m.tmod n),.none):=by
  show fQ P .rem t x y (.int .i64 m) (.int .i64 n)=_
  unfold fQ
  simp only [flat,aN,Bool.and_self,cond_true]
  have:(do eqGuard BinOp.rem t x y (Value.int IntKind.i64 m) (Value.int IntKind.i64 n);binOp BinOp.rem t (Value.int IntKind.i64 m) (Value.int IntKind.i64 n):Sem Value)=pure (.int .i64 (m.tmod n)):=by
   show Op.intDiv .rem .i64 m n=_
   unfold Op.intDiv
   rw [if_neg hn]
  rw [this]
  rfl
 rw [h,IntWalk.rem_in m n h0]
theorem Kh {P:Program} {t:TypeId} {x y:Operand} {m n:Int} (h0:0≤m) (h1:m≤9223372036854775807) (h2:1≤n):eG P .quo t x y (.int .i64 m) (.int .i64 n)=some (.int .i64 (m / n),.none):=by
 have hn:n ≠ 0:=by omega
 have h:eG P .quo t x y (.int .i64 m) (.int .i64 n)=some (.int .i64 (IntKind.i64.wrap (m.tdiv n)),.none):=by
  show fQ P .quo t x y (.int .i64 m) (.int .i64 n)=_
  unfold fQ
  simp only [flat,aN,Bool.and_self,cond_true]
  have:(do eqGuard BinOp.quo t x y (Value.int IntKind.i64 m) (Value.int IntKind.i64 n);binOp BinOp.quo t (Value.int IntKind.i64 m) (Value.int IntKind.i64 n):Sem Value)=pure (.int .i64 (IntKind.i64.wrap (m.tdiv n))):=by
   show Op.intDiv .quo .i64 m n=_
   unfold Op.intDiv
   rw [if_neg hn]
  rw [this]
  rfl
 rw [h,IntWalk.i64_quo m n ⟨h0,h1,h2⟩]
section
variable {T : bz} {tab : List XE} {one : Bool} {mu : Tmp → Bool}
theorem sU {ops:List Oper} {j:Nat} {want:Bool} {fr:Nat→AV} {yes no:Prop} {d:Tmp} {a0 a1 a2 a3 a4} {b:Bool} (h1:ops[j]?=some ⟨some d,a0,a1,a2,a3,a4⟩) (h2:fr d=.fl (.bool b)) (h3:b=want) (y:yes):cB ops (some (j,want)) fr yes no:=by
 unfold cB
 simp only [h1,h2]
 exact fk h3 y
theorem vw {ops:List Oper} {j:Nat} {want:Bool} {fr:Nat→AV} {yes no:Prop} {d:Tmp} {a0 a1 a2 a3 a4} {b:Bool} (h1:ops[j]?=some ⟨some d,a0,a1,a2,a3,a4⟩) (h2:fr d=.fl (.bool b)) (h3:b=!want) (n:no):cB ops (some (j,want)) fr yes no:=by
 unfold cB
 simp only [h1,h2]
 exact fT h3 n
theorem zB {ops:List Oper} {j:Nat} {want:Bool} {fr:Nat→AV} {yes no:Prop} {d:Tmp} {a0 a1 a2 a3 a4} {vs:List AV} (h1:ops[j]?=some ⟨some d,a0,a1,a2,a3,a4⟩) (h2:fr d=.tp vs) (n:no):cB ops (some (j,want)) fr yes no:=by
 unfold cB
 simp only [h1,h2]
 exact n
end
theorem IL {v:AV} {K:AV→Prop} (h:K v):force v K:=by cases v <;> exact h
section
variable {T : bz} {tab : List XE} {one : Bool} {mu : Tmp → Bool} {own : Bool} {fr : Nat → AV} {hp : List AB} {aF : bJ} {rd : Bool} {fl : Nat} {K : AV → List AB → Prop} {KE : Exit → bI → Prop} {KS : bI → Prop} {st : bI} {dst : Option Tmp}
theorem c1 (h:KE .normal st):mS T tab one mu .skip st KE:=h
theorem c2 {a b:Code} (h:mS T tab one mu a st (vp (fun s=>mS T tab one mu b s KE) KE)):mS T tab one mu (.seq a b) st KE:=h
theorem c3 {id:Nat} {c:Code} (h:mS T tab one mu c st (jN id KE)):mS T tab one mu (.block id c) st KE:=h
theorem c4 {id:Nat} {l:List Oper} (h:wpOps T tab one mu l l st (KE .normal)):mS T tab one mu (.region id l.toArray false) st KE:=h
theorem c5 {id:Nat} {l l1 l2:List Oper} {c:Nat} (hc:fK l.toArray=c) (h1:l.take c=l1) (h2:l.drop c=l2) (h:iX T tab mu l.toArray l1 0 (fun _=>0) [] st fun s=>wpOps T tab one mu l l2 s (KE .normal)):mS T tab one mu (.region id l.toArray true) st KE:=by
 subst hc h1 h2
 exact h
theorem c6 {id:Nat} (h:KE (.exit id) st):mS T tab one mu (.exit id) st KE:=h
theorem c7 (h:KE .ret st):mS T tab one mu .ret st KE:=h
theorem c8 {c:Code} (h:mS T tab one mu c st (rQ KE)):mS T tab one mu (.scope c) st KE:=h
theorem c9 {Q:bI→Prop} (h:Q st):vp Q KE .normal st:=h
theorem d1 {Q:bI→Prop} (h:KE .ret st):vp Q KE .ret st:=h
theorem d2 {Q:bI→Prop} {id:Nat} (h:KE (.exit id) st):vp Q KE (.exit id) st:=h
theorem d3 {id:Nat} (h:KE .normal st):jN id KE .normal st:=h
theorem d4 {id:Nat} (h:KE .ret st):jN id KE .ret st:=h
theorem d5 {id id':Nat} (hb:Nat.beq id' id=true) (h:KE .normal st):jN id KE (.exit id') st:=by unfold jN;simp only [hb,cond_true];exact h
theorem d6 {id id':Nat} (hb:Nat.beq id' id=false) (h:KE (.exit id') st):jN id KE (.exit id') st:=by unfold jN;simp only [hb,cond_false];exact h
theorem d7 (h:KE .normal st):rQ KE .normal st:=h
theorem d8 (h:KE .ret st):rQ KE .ret st:=h
theorem d9 {id:Nat} (h:KE (.exit id) st):rQ KE (.exit id) st:=h
theorem e1 {c:Operand} {a b:Code} {t:Bool} (hc:aQ st.fr c=.fl (.bool t)) (h:(t=true→mS T tab one mu a st KE)∧(t=false→mS T tab one mu b st KE)):mS T tab one mu (.cond c a b) st KE:=by
 show (match aQ st.fr c with|.fl (.bool t)=>_|_=>False)
 rw [hc];exact h
theorem e2 {c:Operand} {a b:Code} {t:Bool} (hc:aQ st.fr c=.fl (.bool t)) (ht:t=true) (h:mS T tab one mu a st KE):mS T tab one mu (.cond c a b) st KE:=e1 hc (J7 ht h)
theorem e3 {c:Operand} {a b:Code} {t:Bool} (hc:aQ st.fr c=.fl (.bool t)) (ht:t=false) (h:mS T tab one mu b st KE):mS T tab one mu (.cond c a b) st KE:=e1 hc (NB ht h)
theorem o1 {ops:List Oper} (h:KS st):wpOps T tab one mu ops [] st KS:=h
theorem o2 {ops:List Oper} {op:Op} {a1 a2 a3 gd} {l:List Oper}
 (h:cB ops gd fr (qG T tab one mu dst op fr hp aF rd fl fun st'=>wpOps T tab one mu ops l st' KS) (gA dst fr (.tp []) fun fr'=>wpOps T tab one mu ops l ⟨fr',hp,aF,rd,fl⟩ KS)):wpOps T tab one mu ops (⟨dst,op,a1,a2,a3,gd⟩ :: l) ⟨fr,hp,aF,rd,fl⟩ KS:=h
theorem o3 {ops:Array Oper} {op:Op} {a1 a2 a3 gd} {l:List Oper} {i:Nat} {bt:Nat→Nat} {acc:List ia}
 (h:cB ops.toList gd fr (eK T tab mu dst op i bt fr hp fun fr' hp' bt' x=>iX T tab mu ops l (i+1) bt' (x :: acc) ⟨fr',hp',aF,rd,fl⟩ KS)
  (gA dst fr (.tp []) fun fr'=>iX T tab mu ops l (i+1) (kT dst bt 0) (⟨i,[],false,false⟩ :: acc) ⟨fr',hp,aF,rd,fl⟩ KS)):iX T tab mu ops (⟨dst,op,a1,a2,a3,gd⟩ :: l) i bt acc ⟨fr,hp,aF,rd,fl⟩ KS:=h
theorem o4 {ops:List Oper} {yes no:Prop} (h:yes):cB ops none fr yes no:=h
theorem o5 {d:Tmp} {v:AV} {P:(Nat→AV)→Prop} (h:P fun t=>bif Nat.beq t d then v else fr t):gA (some d) fr v P:=h
theorem o6 {v:AV} {P:(Nat→AV)→Prop} (h:P fr):gA none fr v P:=h
theorem o7 {f:Operand} {l:List Operand} {tys} (h:force (aQ fr f) fun F=>eF (l.map (aQ fr)) fun as=>ax T tab one F as hp aF fun v hp' amb'=>gA dst fr v fun fr'=>KS ⟨fr',hp',amb',rd,fl⟩) :
 qG T tab one mu dst (.call ⟨.value f,l.toArray,tys⟩) fr hp aF rd fl KS:=h
theorem o8 {op:Op} (hk:dN op=.plain) (h:wpOp T (J6 mu dst) op fr hp fun v hp'=>force v fun v=>gA dst fr v fun fr'=>KS ⟨fr',hp',aF,rd,fl⟩):qG T tab one mu dst op fr hp aF rd fl KS:=by
 unfold qG;rw [hk];exact h
theorem o9 {x:Operand} {l:List Operand} {f:Operand→AV} {P:List AV→Prop} (h:force (f x) fun a=>eF (l.map f) fun l=>P (a :: l)):eF ((x :: l).map f) P:=h
theorem p1 {f:Operand→AV} {P:List AV→Prop} (h:P []):eF (([]:List Operand).map f) P:=h
theorem p2 {x:Operand} (h:K (aQ fr x) hp):wpOp T own (.move x) fr hp K:=h
theorem p3 {x:Operand} (h:K (aQ fr x) hp):wpOp T own (.assign x) fr hp K:=h
theorem p4 {c a b:Operand} (h:rL (aQ fr c) (aQ fr a) (aQ fr b) hp K):wpOp T own (.pick c a b) fr hp K:=h
theorem p5 {o:BinOp} {t e:TypeId} {x y:Operand} (h:aT T o t x y (aQ fr x) (aQ fr y) hp K):wpOp T own (.binOp o t x y e) fr hp K:=h
theorem p6 {x:Operand} {t:TypeId} (h:force (aQ fr x) fun v=>qC T t v hp K):wpOp T own (.call ⟨.builtin .len,[x].toArray,[t].toArray⟩) fr hp K:=IL (bO h)
theorem p7 {f:FuncId} {a b:List Operand} (h:eF (a.map (aQ fr)) fun a=>eF (b.map (aQ fr)) fun b=>K (.fn f a b) hp):wpOp T own (.makeFunc (.func f) a.toArray b.toArray) fr hp K:=h
theorem p8 {x:Operand} (h:qA (aQ fr x) hp K):wpOp T own (.nilCheck x) fr hp K:=h
theorem p9 {op:Op} {i:Nat} {bt:Nat→Nat} {KD:(Nat→AV)→List AB→(Nat→Nat)→ia→Prop} (hk:dN op=.plain) (h:∃ a,ES op fr (rT bt)=some a∧wpOp T (J6 mu dst) op fr hp fun v hp'=>force v fun v=>gA dst fr v fun fr'=>KD fr' hp' (kT dst bt (kD op fr bt i)) ⟨i,a,news? op,false⟩) :
  eK T tab mu dst op i bt fr hp KD:=by
 unfold eK;rw [hk];exact h
theorem BF {v:AV} {P:AV→Prop} (h:P v):force v P:=by cases v <;> exact h
theorem xZ:∀ {l:List AV} {P:List AV→Prop},P l→eF l P
 | [],_,h=>h
 | _ :: _,_,h=>BF (xZ (P:=fun _=>_) h)
theorem D6 {f:Operand} {l:List Operand} {tys} {i:Nat} {bt:Nat→Nat} {KD:(Nat→AV)→List AB→(Nat→Nat)→ia→Prop} (h:(aQ fr f).deep=true∧∃ vs v,Handed hp (l.map (aQ fr)) vs v∧ah T tab true (aQ fr f) vs v∧gA dst fr v fun fr'=>KD fr' hp (kT dst bt (i+1)) ⟨i,[],true,true⟩) :
  eK T tab mu dst (.call ⟨.value f,l.toArray,tys⟩) i bt fr hp KD:=by
 show force (aQ fr f) fun F=>eF (l.map (aQ fr)) fun as=>F.deep=true∧∃ vs v,Handed hp as vs v∧ah T tab true F vs v∧gA dst fr v fun fr'=>KD fr' hp (kT dst bt (i+1)) ⟨i,[],true,true⟩
 generalize aQ fr f=F at h ⊢
 generalize l.map (aQ fr)=as at h ⊢
 exact BF (xZ (P:=fun as=>F.deep=true∧∃ vs v,Handed hp as vs v∧ah T tab true F vs v∧gA dst fr v fun fr'=>KD fr' hp (kT dst bt (i+1)) ⟨i,[],true,true⟩) h)
theorem n1 {f:Operand} {l:List Operand} {tys} {i:Nat} {bt:Nat→Nat} {KD:(Nat→AV)→List AB→(Nat→Nat)→ia→Prop} (h:force (aQ fr f) fun F=>eF (l.map (aQ fr)) fun as=>F.deep=true∧cI as=true∧∃ v,ah T tab true F as v∧gA dst fr v fun fr'=>KD fr' hp (kT dst bt (i+1)) ⟨i,[],true,true⟩) :
  eK T tab mu dst (.call ⟨.value f,l.toArray,tys⟩) i bt fr hp KD:=by
 have h:=ek (bO h)
 obtain ⟨h1,h2,v,h3,h4⟩:=h
 exact D6 ⟨h1,_,v,.inl ⟨rfl,h2⟩,h3,h4⟩
theorem n2 {f:Operand} {l:List Operand} {tys} {i:Nat} {bt:Nat→Nat} {KD:(Nat→AV)→List AB→(Nat→Nat)→ia→Prop} {F v:AV} {as vs:List AV} (hp':ah T tab true F vs v) (hf:aQ fr f=F) (ha:l.map (aQ fr)=as) (hF:F.deep=true) (hz:wq hp as vs) (hv:gi v) (h:gA dst fr v fun fr'=>KD fr' hp (kT dst bt (i+1)) ⟨i,[],true,true⟩) :
  eK T tab mu dst (.call ⟨.value f,l.toArray,tys⟩) i bt fr hp KD:=by
 subst hf ha
 exact D6 ⟨hF,vs,v,.inr ⟨hz,hv⟩,hp',h⟩
theorem n3 {x:Operand} {t:TypeId} {b:Bool} (hb:aQ fr x=.fl (.bool b)) (h:K (.fl (.bool (!b))) hp):wpOp T own (.unOp .not t x) fr hp K:=by
 show J5 T .not (aQ fr x) hp K
 rw [hb];exact h
theorem n4 {x y:Operand} {tys:Array TypeId} {m n:Int} (hx:aQ fr x=.fl (.int .i64 m)) (hy:aQ fr y=.fl (.int .i64 n)) (h:K (.fl (.int .i64 (min m n))) hp):wpOp T own (.call ⟨.builtin .min,[x,y].toArray,tys⟩) fr hp K:=by
 show force (aQ fr x) fun a=>force (aQ fr y) fun b=>DX T [a,b] hp K
 rw [hx,hy];exact h
theorem n5 {x y:Operand} {tys:Array TypeId} {m n:Int} (hx:aQ fr x=.fl (.int .i64 m)) (hy:aQ fr y=.fl (.int .i64 n)) (h:K (.fl (.int .i64 (max m n))) hp):wpOp T own (.call ⟨.builtin .max,[x,y].toArray,tys⟩) fr hp K:=by
 show force (aQ fr x) fun a=>force (aQ fr y) fun b=>DY T [a,b] hp K
 rw [hx,hy];exact h
section
variable {v : AV} {P : AV → Prop}
theorem f1 {x:Value} (hv:v=.fl x) (h:P (.fl x)):force v P:=by subst hv;exact h
theorem f2 {a:List (List AV)} {b:Bool} (hv:v=.sl a b) (h:P (.sl a b)):force v P:=by subst hv;exact h
theorem f3 {a:List AV} {b:Nat} (hv:v=.pt a b) (h:P (.pt a b)):force v P:=by subst hv;exact h
theorem f4 {a:FuncId} {b c:List AV} (hv:v=.fn a b c) (h:P (.fn a b c)):force v P:=by subst hv;exact h
theorem f5 {a:List AV} (hv:v=.ag a) (h:P (.ag a)):force v P:=by subst hv;exact h
theorem f6 {a:List AV} (hv:v=.tp a) (h:P (.tp a)):force v P:=by subst hv;exact h
theorem f7 {a b c:Nat} (hv:v=.ptr a b c) (h:P (.ptr a b c)):force v P:=by subst hv;exact h
theorem f8 {a b c d e:Nat} (hv:v=.bU a b c d e) (h:P (.bU a b c d e)):force v P:=by subst hv;exact h
theorem f9 {a:Nat} (hv:v=.om a) (h:P (.om a)):force v P:=by subst hv;exact h
theorem g1 {a:Value} (hv:v=.oq a) (h:P (.oq a)):force v P:=by subst hv;exact h
theorem g2 (hv:v=.bN) (h:P .bN):force v P:=by subst hv;exact h
end
section
variable {c a b : AV} {t x y : Bool}
theorem k1 (hc:c=.fl (.bool t)) (h:jm t a b hp K):rL c a b hp K:=by subst hc;exact h
theorem k2 (ht:t=true) (h:K a hp):jm t a b hp K:=by
 subst ht
 unfold jm
 split
 ·exact h
 ·exact And.intro (fun _=>h) (fun e=>Bool.noConfusion e)
theorem k3 (ht:t=false) (h:K b hp):jm t a b hp K:=by
 subst ht
 unfold jm
 split
 ·exact h
 ·exact And.intro (fun e=>Bool.noConfusion e) (fun _=>h)
theorem k4 (ha:a=.fl (.bool x)) (hb:b=.fl (.bool y)) (h:K (.fl (.bool (bif t then x else y))) hp):jm t a b hp K:=by subst ha hb;exact h
end
section
variable {a b : AV} {m n : Int} {t : TypeId} {x y : Operand}
theorem b1 (ha:a=.fl (.int .i64 m)) (hb:b=.fl (.int .i64 n)) (hh:-9223372036854775808≤m+n∧m+n≤9223372036854775807) (h:K (.fl (.int .i64 (m+n))) hp):aT T .add t x y a b hp K:=by subst ha hb;exact ⟨hh,h⟩
theorem b2 (ha:a=.fl (.int .i64 m)) (hb:b=.fl (.int .i64 n)) (hh:-9223372036854775808≤m - n∧m - n≤9223372036854775807) (h:K (.fl (.int .i64 (m - n))) hp):aT T .sub t x y a b hp K:=by subst ha hb;exact ⟨hh,h⟩
theorem b3 (ha:a=.fl (.int .i64 m)) (hb:b=.fl (.int .i64 n)) (hh:-9223372036854775808≤m * n∧m * n≤9223372036854775807) (h:K (.fl (.int .i64 (m * n))) hp):aT T .mul t x y a b hp K:=by subst ha hb;exact ⟨hh,h⟩
theorem b4 (ha:a=.fl (.int .i64 m)) (hb:b=.fl (.int .i64 n)) (h:K (.fl (.bool (decide (m=n)))) hp):aT T .eql t x y a b hp K:=by subst ha hb;exact h
theorem b5 (ha:a=.fl (.int .i64 m)) (hb:b=.fl (.int .i64 n)) (h:K (.fl (.bool (!decide (m=n)))) hp):aT T .neq t x y a b hp K:=by subst ha hb;exact h
theorem b6 (ha:a=.fl (.int .i64 m)) (hb:b=.fl (.int .i64 n)) (h:K (.fl (.bool (decide (m < n)))) hp):aT T .lss t x y a b hp K:=by subst ha hb;exact h
theorem b7 (ha:a=.fl (.int .i64 m)) (hb:b=.fl (.int .i64 n)) (h:K (.fl (.bool (decide (m≤n)))) hp):aT T .leq t x y a b hp K:=by subst ha hb;exact h
theorem b8 (ha:a=.fl (.int .i64 m)) (hb:b=.fl (.int .i64 n)) (h:K (.fl (.bool (decide (n < m)))) hp):aT T .gtr t x y a b hp K:=by subst ha hb;exact h
theorem b9 (ha:a=.fl (.int .i64 m)) (hb:b=.fl (.int .i64 n)) (h:K (.fl (.bool (decide (n≤m)))) hp):aT T .geq t x y a b hp K:=by subst ha hb;exact h
theorem r1 (ha:a=.fl (.int .i64 m)) (hb:b=.fl (.int .i64 n)) (h0:0≤m∧1≤n) (h:K (.fl (.int .i64 (m % n))) hp):aT T .rem t x y a b hp K:=by
 subst ha hb;exact ⟨_,Kg h0.1 h0.2,rfl,h⟩
theorem r2 (ha:a=.fl (.int .i64 m)) (hb:b=.fl (.int .i64 n)) (h0:(0≤m∧m≤9223372036854775807)∧1≤n) (h:K (.fl (.int .i64 (m / n))) hp):aT T .quo t x y a b hp K:=by
 subst ha hb;exact ⟨_,Kh h0.1.1 h0.1.2 h0.2,rfl,h⟩
end
section
variable {v : AV} {t : TypeId}
theorem l1 {e:TypeId} {a1 a2 a3 a4 a5 a6} {els:List (List AV)} {f:Bool} (ht:T.ty.get t=some ⟨.slice e,a1,a2,a3,a4,a5,a6⟩) (h:K (.fl (.int .i64 els.length)) hp):qC T t (.sl els f) hp K:=by
 unfold qC;rw [ht];exact h
theorem l2 {e:TypeId} {a1 a2 a3 a4 a5 a6} {j aC o n c:Nat} (ht:T.ty.get t=some ⟨.slice e,a1,a2,a3,a4,a5,a6⟩) (h:K (.fl (.int .i64 n)) hp):qC T t (.bU j aC o n c) hp K:=by
 unfold qC;rw [ht];exact h
theorem l3 {a:List AV} {b:Nat} (hv:v=.pt a b) (h:K (.pt a b) hp):qA v hp K:=by subst hv;exact h
theorem l4 {a b c:Nat} (hv:v=.ptr a b c) (h:K (.ptr a b c) hp):qA v hp K:=by subst hv;exact h
end
end
section
variable {T : bz} {tab : List XE} {one : Bool} {mu : Tmp → Bool} {base : Nat} {E : Env} {hp : List AB} {aF : bJ} {H : Hp} {ρ : Nat → Nat → Option Nat} {g : aD} {O O' : Nat → Prop}
theorem cv {a b:Code} {st:bI} {K:Exit→bI→Prop} (h:mS T tab one mu a st (vp (fun s=>aB T tab one b s K) K)):aB T tab one (.seq a b) st K:=.seq (aa h)
def cy (j:Nat) (ρ:Nat→Nat→Option Nat):Nat→Nat→Option Nat:=fun i v=>if i=j then none else ρ i v
mutual
def AV.kE (j:Nat):AV→Bool
 | .fl _=>true
 | .sl _ _=>true
 | .pt _ _=>true
 | .fn _ a b=>vz j a && vz j b
 | .ag a=>vz j a
 | .tp a=>vz j a
 | .oq _=>true
 | .bN=>true
 | .ptr i _ _=>!Nat.beq i j
 | .bU i _ _ _ _=>!Nat.beq i j
 | .om i=>!Nat.beq i j
def vz (j:Nat):List AV→Bool
 | []=>true
 | a :: l=>a.kE j && vz j l
end
theorem cF {j:Nat}:∀ {l:List AV},vz j l=true→∀ (i:Nat) (a:AV),l[i]?=some a→a.kE j=true
 | [],_,i,a,h=>by cases h
 | x :: l,h,i,a,ha=>by
  simp only [vz,Bool.and_eq_true] at h
  cases i with
  | zero=>cases ha;exact h.1
  | succ i=>exact cF h.2 i a (by simpa using ha)
theorem eT {i j:Nat} (h:(!Nat.beq i j)=true):i ≠ j:=by
 intro e
 subst e
 rw [Nat.beq_refl] at h
 cases h
theorem AR.kE {j:Nat} (hO:∀ k,O' k→O k) {v:AV} {u:Value} (h:AR ρ g O v u):v.kE j=true→AR (cy j ρ) g O' v u:=by
 induction h with
 | d h=>intro _;exact .d (h.mono fun k b hk ho=>⟨hk,fun h=>ho (hO k h)⟩)
 | bN=>intro _;exact .bN
 | ptr h=>intro hd;simp only [AV.kE] at hd;exact .ptr (by rw [cy,if_neg (eT hd)];exact h)
 | bU h=>intro hd;simp only [AV.kE] at hd;exact .bU (by rw [cy,if_neg (eT hd)];exact h)
 | pG=>intro _;exact .pG
 | om h=>intro hd;simp only [AV.kE] at hd;exact .om (by rw [cy,if_neg (eT hd)];exact h)
 | fn ha hb h1 h2 ih1 ih2 =>
  intro hd
  simp only [AV.kE,Bool.and_eq_true] at hd
  exact .fn ha hb (fun i x u hx hu=>ih1 i x u hx hu (cF hd.1 i x hx)) (fun i x u hx hu=>ih2 i x u hx hu (cF hd.2 i x hx))
 | ag ha h1 ih=>intro hd;simp only [AV.kE] at hd;exact .ag ha (fun i x u hx hu=>ih i x u hx hu (cF hd i x hx))
 | tp ha h1 ih=>intro hd;simp only [AV.kE] at hd;exact .tp ha (fun i x u hx hu=>ih i x u hx hu (cF hd i x hx))
def AB.kE (j:Nat):AB→Bool
 | .cells cs _ _=>vz j cs
 | .dh _ _=>true
 | .map ents _=>ents.all fun p=>p.1.kE j && p.2.1.kE j
 | .iter i _ _ _=>!Nat.beq i j
 | .gone=>true
inductive Gv (j aC:Nat) (cs:List AV):AV→AV→Prop
 | same {a:AV}:a.kE j=true→Gv j aC cs a a
 | ptr {o:Nat}:Gv j aC cs (.ptr j aC o) (.pt cs o)
 | row {o n c:Nat} {els:List (List AV)} {b:Bool} (es:Nat):o+n * es≤cs.length→els.length=n→(∀ el ∈ els,el.length=es)→els.flatten=(cs.drop o).take (n * es)→(b=true→c=n)→Gv j aC cs (.bU j aC o n c) (.sl els b)
 | bN {a:AV}:Gv j aC cs a .bN
def zC (j aC:Nat) (cs:List AV) (fr:Nat→AV):List (Nat × AV)→Prop
 | []=>True
 | (i,v) :: l=>Gv j aC cs (fr i) v∧zC j aC cs fr l
theorem D7 {j aC:Nat} {cs:List AV} {fr:Nat→AV}:∀ {l:List (Nat × AV)},zC j aC cs fr l→∀ t,Gv j aC cs (fr t) (aS l t)
 | [],_,t=>.bN
 | (i,v) :: l,h,t=>by
  unfold aS
  rw [Tr.beq_eq]
  by_cases hti:t=i
  ·rw [decide_eq_true hti,hti]
   exact h.1
  ·rw [decide_eq_false hti]
   exact D7 h.2 t
theorem ai.Qf {st:bI} {l:List (Nat × AV)} {j aC es:Nat} {cs:List AV} (hj:st.hp[j]?=some (.cells cs es aC)) (hn:st.fl≤j) (hd:cI cs=true) (hs:zC j aC cs st.fr l) (hb:∀ (i:Nat) (b:AB),st.hp[i]?=some b→i ≠ j→b.kE j=true) :
  ai st ⟨aS l,st.hp.set j .gone,st.aF,st.rd,st.fl⟩:=by
 have hlt:j < st.hp.length:=(List.getElem?_eq_some_iff.1 hj).1
 refine ⟨rfl,fun E base s hs'=>?_⟩
 have hr:=hs'.h
 have hget:∀ (i:Nat) (b:AB) (aC:Nat),(st.hp.set j .gone)[i]?=some b→b.ver?=some aC→i ≠ j∧st.hp[i]?=some b:=by
  intro i b aC hi hv
  by_cases hij:i=j
  ·subst hij;rw [List.getElem?_set_self hlt] at hi;cases hi;cases hv
  ·rw [List.getElem?_set_ne (Ne.symm hij)] at hi;exact ⟨hij,hi⟩
 have hdr:∀ {i v k:Nat},cy j E.ρ i v=some k→i ≠ j∧E.ρ i v=some k:=by
  intro i v k h
  unfold cy at h
  split at h
  ·cases h
  ·rename_i hne;exact ⟨hne,h⟩
 have hown:∀ k,Own (cy j E.ρ) (st.hp.set j .gone) k→Own E.ρ st.hp k:=by
  rintro k ⟨i,b,v,h1,h2,h3⟩
  exact ⟨i,b,v,(hget i b v h1 h2).2,h2,(hdr h3).2⟩
 have hOs:∀ k,({E with ρ:=cy j E.ρ}:Env).O (st.hp.set j .gone) k→E.O st.hp k:=fun k h=>h.imp (hown k) id
 have hpt:∀ {o:Nat} {u:Value},AR E.ρ s.hp.get (E.O st.hp) (.ptr j aC o) u→AR (cy j E.ρ) s.hp.get (({E with ρ:=cy j E.ρ}:Env).O (st.hp.set j .gone)) (.pt cs o) u:=by
  intro o u h
  obtain ⟨k,hk,rfl⟩:=h.cJ
  obtain ⟨cs',q1,q2⟩:=hr.cells hj hk
  have hnO:¬ ({E with ρ:=cy j E.ρ}:Env).O (st.hp.set j .gone) k:=by
   rintro (⟨i,b,v,h1,h2,h3⟩|hx)
   ·have:=hdr h3
    exact this.1 (hr.inj i j v aC k this.2 hk)
   ·exact hr.iV k ⟨j,_,aC,hj,rfl,hk⟩ hx
  have:=q2.deep hd
  refine .d (?_:DR _ _ (.pt cs o) (.pointer (some ⟨k,o,none⟩)))
  have h0:DR s.hp.get (({E with ρ:=cy j E.ρ}:Env).O (st.hp.set j .gone)) (.pt cs o) (.pointer (some ⟨k,0+o,none⟩)) :=
   .pt q1 hnO (by rw [Nat.zero_add,this.1];exact Nat.le_refl _) (fun i a u x y=>(this.2 i a u x (by rw [Nat.zero_add] at y;exact y)).mono fun k b hk ho=>⟨hk,fun h=>ho (hOs k h)⟩)
  rw [Nat.zero_add] at h0
  exact h0
 have hrow:∀ {o n c:Nat} {els:List (List AV)} {b:Bool} {u:Value} (es:Nat),o+n * es≤cs.length→els.length=n→(∀ el ∈ els,el.length=es)→els.flatten=(cs.drop o).take (n * es)→(b=true→c=n)→AR E.ρ s.hp.get (E.O st.hp) (.bU j aC o n c) u →
   AR (cy j E.ρ) s.hp.get (({E with ρ:=cy j E.ρ}:Env).O (st.hp.set j .gone)) (.sl els b) u:=by
  intro o n c els b u es g1 g2 g3 g4 g5 h
  rcases h.eP with ⟨k,hk,rfl⟩|⟨rfl,rfl,rfl⟩
  ·obtain ⟨cs',q1,q2⟩:=hr.cells hj hk
   have hnO:¬ ({E with ρ:=cy j E.ρ}:Env).O (st.hp.set j .gone) k:=by
    rintro (⟨i,b,v,h1,h2,h3⟩|hx)
    ·have:=hdr h3
     exact this.1 (hr.inj i j v aC k this.2 hk)
    ·exact hr.iV k ⟨j,_,aC,hj,rfl,hk⟩ hx
   have hdp:=q2.deep hd
   refine .d (.sl (es:=es) q1 hnO (by rw [←q2.1];exact g1) g2 (fun i el he=>g3 el (List.mem_of_getElem? he)) (fun i el jj a u he hx hu=>?_) g5)
   have hjj:jj < es:=by rw [←g3 el (List.mem_of_getElem? he)];exact (List.getElem?_eq_some_iff.1 hx).1
   have hat:=fj g3 i el jj he hjj
   have hi:i < n:=by rw [←g2];exact (List.getElem?_eq_some_iff.1 he).1
   rw [g4,List.getElem?_take,List.getElem?_drop] at hat
   have hlt:i * es+jj < n * es:=by
    have:(i+1) * es≤n * es:=Nat.mul_le_mul_right _ hi
    rw [Nat.add_mul,Nat.one_mul] at this
    omega
   rw [if_pos hlt,hx,←Nat.add_assoc] at hat
   exact (hdp.2 _ a u hat hu).mono fun k b hk ho=>⟨hk,fun h=>ho (hOs k h)⟩
  ·simp only [List.length_eq_zero_iff] at g2
   subst g2
   exact .d .nil
 have hgv:∀ {a b:AV} {u:Value},Gv j aC cs a b→AR E.ρ s.hp.get (E.O st.hp) a u→AR (cy j E.ρ) s.hp.get (({E with ρ:=cy j E.ρ}:Env).O (st.hp.set j .gone)) b u:=by
  intro a b u hg h
  cases hg with
  | same hn=>exact h.kE hOs hn
  | ptr=>exact hpt h
  | row es g1 g2 g3 g4 g5=>exact hrow es g1 g2 g3 g4 g5 h
  | bN=>exact .bN
 refine ⟨{E with ρ:=cy j E.ρ},⟨⟨hr.wf,fun i b v hi hv=>?_,fun i i' v v' k h1 h2=>hr.inj i i' v v' k (hdr h1).2 (hdr h2).2,fun i v k hk=>hr.rn i v k (hdr hk).2,fun i b v w h1 h2 h3=>?_,fun i v hi=>?_,fun k hk=>hr.sup k (hown k hk),fun k hk=>hr.iV k (hown k hk),hr.dx,hr.ds,hr.sn,hr.xn,fun k hk=>hr.pH k (hk.imp (hown k) id),hr.bn,hr.aF⟩,hs'.rd,fun t=>hgv (D7 hs t) (hs'.fr t)⟩,
  ⟨Nat.le_refl _,fun i v k hi hk=>?_,fun k hk=>.inl (hown k hk),fun _ h=>.inl h,fun _ h=>.inl h,fun _ h=>h,fun _ h=>.inl h,fun _ _ _ _=>rfl,Nat.min_le_left _ _⟩⟩
 ·obtain ⟨hij,hi'⟩:=hget i b v hi hv
  have hbn:=hb i b hi' hij
  rcases hr.fM i b v hi' hv with ⟨k,b',q1,q2,q3⟩|⟨q1,q2⟩
  ·refine .inl ⟨k,b',by show cy j E.ρ i v=_;rw [cy,if_neg hij];exact q1,q2,?_⟩
   cases b with
   | cells cs2 es2 ver2 =>
    obtain ⟨cs',rfl,h⟩:=q3
    exact ⟨cs',rfl,h.1,fun i a u ha hu=>(h.2 i a u ha hu).kE hOs (cF hbn i a ha)⟩
   | dh p q=>exact q3
   | map ents clock =>
    obtain ⟨es,rfl,h1,h2⟩:=q3
    refine ⟨es,rfl,h1,fun i k v born x hx hy=>?_⟩
    simp only [AB.kE,List.all_eq_true,Bool.and_eq_true] at hbn
    have:=hbn _ (List.mem_of_getElem? hx)
    exact ⟨(h2 i k v born x hx hy).1.kE hOs this.1,(h2 i k v born x hx hy).2.1.kE hOs this.2,(h2 i k v born x hx hy).2.2⟩
   | iter i2 since seen stepped =>
    obtain ⟨m,rfl,h⟩:=q3
    exact ⟨m,rfl,by show cy j E.ρ i2 0=_;rw [cy,if_neg (eT hbn)];exact h⟩
   | gone=>exact q3
  ·exact .inr ⟨by show cy j E.ρ i v=_;rw [cy,if_neg hij];exact q1,q2⟩
 ·obtain ⟨hij,h1⟩:=hget i b v h1 h2
  show cy j E.ρ i w=none
  rw [cy,if_neg hij];exact hr.fresh i b v w h1 h2 h3
 ·show cy j E.ρ i v=none
  unfold cy
  split
  ·rfl
  ·exact hr.new i v (by simpa using hi)
 ·show cy j E.ρ i v=some k
  rw [cy,if_neg (by omega)];exact hk
def pM (j:Nat):Nat→List AB→Bool
 | _,[]=>true
 | i,b :: l=>(Nat.beq i j || b.kE j) && pM j (i+1) l
theorem vA {j:Nat}:∀ {l:List AB} {i0:Nat},pM j i0 l=true→∀ (i:Nat) (b:AB),l[i]?=some b→i0+i ≠ j→b.kE j=true
 | [],_,_,i,b,h,_=>by cases h
 | x :: l,i0,h,i,b,hb,hne=>by
  simp only [pM,Bool.and_eq_true,Bool.or_eq_true] at h
  cases i with
  | zero =>
   cases hb
   rcases h.1 with h|h
   ·exact absurd (Nat.eq_of_beq_eq_true h) hne
   ·exact h
  | succ i=>exact vA h.2 i b (by simpa using hb) (by omega)
theorem ai.giveUp {st:bI} {l:List (Nat × AV)} (j:Nat) {aC es:Nat} {cs:List AV} {hp:List AB} (hj:st.hp[j]?=some (.cells cs es aC)) (hn:st.fl≤j) (hd:cI cs=true) (hs:zC j aC cs st.fr l) (hb:pM j 0 st.hp=true) (hh:st.hp.set j .gone=hp) :
  ai st ⟨aS l,hp,st.aF,st.rd,st.fl⟩:=by
 subst hh
 exact ai.Qf hj hn hd hs fun i b h hne=>vA hb i b h (by omega)
end
theorem bT.nA {j aC c:Nat}:bT (.fl (.slice none 0 0)) (.bU j aC 0 0 c):=fun _ _ _ u h=>by
 rw [h.eV.1]
 exact .pG
theorem ai.nB {st:bI} (es:Nat):ai st ⟨st.fr,st.hp++[.cells [] es 0],st.aF,st.rd,st.fl⟩:=by
 refine ⟨rfl,fun E base s hs=>?_⟩
 have hr:=hs.h
 have hget:∀ (i:Nat) (b:AB),(st.hp++[AB.cells [] es 0])[i]?=some b→(i < st.hp.length∧st.hp[i]?=some b)∨(i=st.hp.length∧b=.cells [] es 0):=by
  intro i b hi
  by_cases hlt:i < st.hp.length
  ·rw [List.getElem?_append_left hlt] at hi;exact .inl ⟨hlt,hi⟩
  ·rw [List.getElem?_append_right (by omega)] at hi
   have h0:i - st.hp.length=0:=by
    apply Nat.eq_zero_of_not_pos
    intro hp0
    rw [List.getElem?_eq_none (by simp;omega)] at hi
    cases hi
   rw [h0] at hi
   cases hi
   exact .inr ⟨by omega,rfl⟩
 have hown:∀ k,Own E.ρ (st.hp++[.cells [] es 0]) k→Own E.ρ st.hp k:=by
  rintro k ⟨i,b,v,h1,h2,h3⟩
  rcases hget i b h1 with ⟨_,h1⟩|⟨rfl,rfl⟩
  ·exact ⟨i,b,v,h1,h2,h3⟩
  ·rw [hr.new _ v (Nat.le_refl _)] at h3;cases h3
 have hO:∀ k,E.O (st.hp++[.cells [] es 0]) k→E.O st.hp k:=fun k h=>h.imp (hown k) id
 have keep:∀ k b,s.hp.get k=some b→¬ E.O st.hp k→s.hp.get k=some b∧¬ E.O (st.hp++[.cells [] es 0]) k:=fun k b hk ho=>⟨hk,fun h=>ho (hO k h)⟩
 have har:∀ {v:AV} {u:Value},AR E.ρ s.hp.get (E.O st.hp) v u→AR E.ρ s.hp.get (E.O (st.hp++[.cells [] es 0])) v u:=fun h=>h.mono (fun _ _ _ h=>h) keep
 refine ⟨E,⟨⟨hr.wf,fun i b v hi hv=>?_,hr.inj,hr.rn,fun i b v w h1 h2 h3=>?_,fun i v hi=>hr.new i v (by simp at hi;omega),fun k hk=>hr.sup k (hown k hk),fun k hk=>hr.iV k (hown k hk),hr.dx,hr.ds,hr.sn,hr.xn,fun k hk=>hr.pH k (hk.imp (hown k) id),hr.bn,hr.aF⟩,hs.rd,fun t=>har (hs.fr t)⟩,
  ⟨Nat.le_refl _,fun _ _ _ _ h=>h,fun k hk=>.inl (hown k hk),fun _ h=>.inl h,fun _ h=>.inl h,fun _ h=>h,fun _ h=>.inl h,fun _ _ _ _=>rfl,Nat.min_le_left _ _⟩⟩
 ·rcases hget i b hi with ⟨_,hi'⟩|⟨rfl,rfl⟩
  ·rcases hr.fM i b v hi' hv with ⟨k,b',q1,q2,q3⟩|q
   ·refine .inl ⟨k,b',q1,q2,?_⟩
    cases b with
    | cells cs2 es2 ver2 =>
     obtain ⟨cs',rfl,h⟩:=q3
     exact ⟨cs',rfl,h.1,fun i a u ha hu=>har (h.2 i a u ha hu)⟩
    | dh p q=>exact q3
    | map ents clock =>
     obtain ⟨es,rfl,h1,h2⟩:=q3
     exact ⟨es,rfl,h1,fun i k v born x hx hy=>⟨har (h2 i k v born x hx hy).1,har (h2 i k v born x hx hy).2.1,(h2 i k v born x hx hy).2.2⟩⟩
    | iter i2 since seen stepped=>exact q3
    | gone=>exact q3
   ·exact .inr q
  ·cases hv
   exact .inr ⟨hr.new _ _ (Nat.le_refl _),es,rfl⟩
 ·rcases hget i b h1 with ⟨_,h1⟩|⟨rfl,rfl⟩
  ·exact hr.fresh i b v w h1 h2 h3
  ·exact hr.new _ _ (Nat.le_refl _)
theorem q1 {σ:Type} {P:σ→Prop} {I:σ→bI} {m:σ→Nat} {K:Exit→bI→Prop} {x:σ} {s:bI} (h:K .ret s):Iz P I m K x .ret s:=h
theorem q2 {σ:Type} {P:σ→Prop} {I:σ→bI} {m:σ→Nat} {K:Exit→bI→Prop} {x:σ} {s:bI} {id:Nat} (h:K (.exit id) s):Iz P I m K x (.exit id) s:=h
theorem IM {α:Type} {l:List α} {j:Nat} {a:α} (h:l[j]?=some a):l.set j a=l:=by
 apply List.ext_getElem?
 intro i
 rw [List.getElem?_set]
 split
 ·rename_i hij
  subst hij
  rw [h]
  split
  ·rfl
  ·rename_i hn
   exact absurd (List.getElem?_eq_some_iff.1 h).1 hn
 ·rfl
theorem Ki {hp:List AB} {es bs:Nat} {x:AV} {els:List (List AV)} {j aC n c:Nat} {cs:List AV} {K:AV→List AB→Prop} (hx:Bq hp es x els) (h1:els.flatten.all AV.one=true) (hj:hp[j]?=some (.cells cs es aC)) (hl:cs.length=n * es) (hc:c=n∨c=n+1)
  (hb:(n+els.length) * bs≤140737488355328∧n+els.length≤9223372036854775807) (hk:∀ v c',(c'=n+els.length∨c'=n+els.length+1)→K (.bU j v 0 (n+els.length) c') (hp.set j (.cells (cs++els.flatten) es v))) :
  ∃ els,Bq hp es x els∧els.flatten.all AV.one=true∧∃ cs,hp[j]?=some (.cells cs es aC)∧cs.length=n * es∧(c=n∨c=n+1)∧((n+els.length) * bs≤140737488355328∧n+els.length≤9223372036854775807)∧(els=[]→K (.bU j aC 0 n c) hp) ∧
   (els ≠ []→K (.bU j (aC+1) 0 (n+els.length) (n+els.length+1)) (hp.set j (.cells (cs++els.flatten) es (aC+1)))):=by
 refine ⟨els,hx,h1,cs,hj,hl,hc,hb,fun he=>?_,fun _=>hk _ _ (.inr rfl)⟩
 subst he
 have h2:=hk aC c (by simpa using hc)
 rw [List.flatten_nil,List.append_nil,IM hj] at h2
 exact h2
theorem tB {T:bz} {own:Bool} {fr:Nat→AV} {hp:List AB} {K:AV→List AB→Prop} {s x:Operand} {t u e:TypeId} {a1 a2 a3 a4 a5 a6} {j aC n c:Nat} {els:List (List AV)} {f:Bool} {cs:List AV} {inf:wz} (hs:aQ fr s=.bU j aC 0 n c) (hx:aQ fr x=.sl els f)
  (hu:T.ty.get u=some ⟨.slice e,a1,a2,a3,a4,a5,a6⟩) (hi:elem? T t=some inf) (hz:bx inf=true) (hel:∀ el ∈ els,el.length=inf.size) (h1:els.flatten.all AV.one=true) (hj:hp[j]?=some (.cells cs inf.size aC)) (hl:cs.length=n * inf.size) (hc:c=n∨c=n+1)
  (hb:(n+els.length) * inf.bytes≤140737488355328∧n+els.length≤9223372036854775807) (hk:∀ v c',(c'=n+els.length∨c'=n+els.length+1)→K (.bU j v 0 (n+els.length) c') (hp.set j (.cells (cs++els.flatten) inf.size v))) :
  RM.wpOp T own (.call ⟨.builtin .append,[s,x].toArray,[t,u].toArray⟩) fr hp K:=by
 show force (aQ fr s) fun a=>force (aQ fr x) fun b=>ju T own .append [a,b] [t,u] hp K
 rw [hs,hx]
 show (match T.ty.get u with|some ⟨.slice _,_,_,_,_,_,_⟩=>kB T own t (.bU j aC 0 n c) (.sl els f) hp K|_=>False)
 rw [hu]
 show kB T own t (.bU j aC 0 n c) (.sl els f) hp K
 unfold kB
 rw [hi]
 exact ⟨hz,Ki (hp:=hp) (K:=K) ⟨hel,rfl⟩ h1 hj hl hc hb hk⟩
section
variable {T : bz} {tab : List XE} {one : Bool} {base : Nat} {E : Env} {hp : List AB} {aF : bJ} {H : Hp} {ρ : Nat → Nat → Option Nat} {g : aD} {O O' : Nat → Prop}
def aP (a b:Nat) (ρ:Nat→Nat→Option Nat):Nat→Nat→Option Nat:=fun i v=>if i=a then ρ b v else if i=b then none else ρ i v
theorem AR.move {a b:Nat} (hO:∀ k,O' k→O k) {v:AV} {u:Value} (h:AR ρ g O v u):v.kE a=true→v.kE b=true→AR (aP a b ρ) g O' v u:=by
 have hm:∀ {i w:Nat},i ≠ a→i ≠ b→aP a b ρ i w=ρ i w:=fun {i w} h1 h2=>by unfold aP;rw [if_neg h1,if_neg h2]
 induction h with
 | d h=>intro _ _;exact .d (h.mono fun k b hk ho=>⟨hk,fun hx=>ho (hO k hx)⟩)
 | bN=>intro _ _;exact .bN
 | ptr h=>intro h1 h2;exact .ptr (by rw [hm (eT h1) (eT h2)];exact h)
 | bU h=>intro h1 h2;exact .bU (by rw [hm (eT h1) (eT h2)];exact h)
 | pG=>intro _ _;exact .pG
 | om h=>intro h1 h2;exact .om (by rw [hm (eT h1) (eT h2)];exact h)
 | fn ha hb h1 h2 ih1 ih2 =>
  intro n1 n2
  simp only [AV.kE,Bool.and_eq_true] at n1 n2
  exact .fn ha hb (fun i x u hx hu=>ih1 i x u hx hu (cF n1.1 i x hx) (cF n2.1 i x hx)) (fun i x u hx hu=>ih2 i x u hx hu (cF n1.2 i x hx) (cF n2.2 i x hx))
 | ag ha h1 ih=>intro n1 n2;simp only [AV.kE] at n1 n2;exact .ag ha (fun i x u hx hu=>ih i x u hx hu (cF n1 i x hx) (cF n2 i x hx))
 | tp ha h1 ih=>intro n1 n2;simp only [AV.kE] at n1 n2;exact .tp ha (fun i x u hx hu=>ih i x u hx hu (cF n1 i x hx) (cF n2 i x hx))
inductive Mv (a b:Nat):AV→AV→Prop
 | same {v:AV}:v.kE a=true→v.kE b=true→Mv a b v v
 | ptr {aC o:Nat}:Mv a b (.ptr b aC o) (.ptr a aC o)
 | bU {aC o n c:Nat}:Mv a b (.bU b aC o n c) (.bU a aC o n c)
 | bN {v:AV}:Mv a b v .bN
def zD (a b:Nat) (fr:Nat→AV):List (Nat × AV)→Prop
 | []=>True
 | (i,v) :: l=>Mv a b (fr i) v∧zD a b fr l
theorem zE {a b:Nat} {fr:Nat→AV}:∀ {l:List (Nat × AV)},zD a b fr l→∀ t,Mv a b (fr t) (aS l t)
 | [],_,t=>.bN
 | (i,v) :: l,h,t=>by
  unfold aS
  rw [Tr.beq_eq]
  by_cases hti:t=i
  ·rw [decide_eq_true hti,hti]
   exact h.1
  ·rw [decide_eq_false hti]
   exact zE h.2 t
theorem ai.move {st:bI} {l:List (Nat × AV)} (a b:Nat) {x y:AB} (hab:a ≠ b) (hja:st.hp[a]?=some y) (hjb:st.hp[b]?=some x) (hn:st.fl≤a) (hn2:st.fl≤b) (hs:zD a b st.fr l)
  (hb:∀ (i:Nat) (z:AB),st.hp[i]?=some z→i ≠ a→z.kE a=true∧z.kE b=true) :
  ai st ⟨aS l,(st.hp.set a x).set b .gone,st.aF,st.rd,st.fl⟩:=by
 have hla:a < st.hp.length:=(List.getElem?_eq_some_iff.1 hja).1
 have hlb:b < st.hp.length:=(List.getElem?_eq_some_iff.1 hjb).1
 refine ⟨rfl,fun E base s hs'=>?_⟩
 have hr:=hs'.h
 have hget:∀ (i:Nat) (z:AB) (aC:Nat),((st.hp.set a x).set b .gone)[i]?=some z→z.ver?=some aC→(i=a∧z=x)∨(i ≠ a∧i ≠ b∧st.hp[i]?=some z):=by
  intro i z aC hi hv
  by_cases hib:i=b
  ·subst hib
   rw [List.getElem?_set_self (by rw [List.length_set];exact hlb)] at hi
   cases hi;cases hv
  ·rw [List.getElem?_set_ne (Ne.symm hib)] at hi
   by_cases hia:i=a
   ·subst hia
    rw [List.getElem?_set_self hla] at hi
    cases hi;exact .inl ⟨rfl,rfl⟩
   ·rw [List.getElem?_set_ne (Ne.symm hia)] at hi
    exact .inr ⟨hia,hib,hi⟩
 have hma:∀ {v:Nat},aP a b E.ρ a v=E.ρ b v:=fun {v}=>by unfold aP;rw [if_pos rfl]
 have hmo:∀ {i v:Nat},i ≠ a→i ≠ b→aP a b E.ρ i v=E.ρ i v:=fun {i v} h1 h2=>by unfold aP;rw [if_neg h1,if_neg h2]
 have hmi:∀ {i v k:Nat},aP a b E.ρ i v=some k→(i=a∧E.ρ b v=some k)∨(i ≠ a∧i ≠ b∧E.ρ i v=some k):=by
  intro i v k h
  unfold aP at h
  split at h
  ·rename_i h1;exact .inl ⟨h1,h⟩
  ·split at h
   ·cases h
   ·rename_i h1 h2;exact .inr ⟨h1,h2,h⟩
 have hown:∀ k,Own (aP a b E.ρ) ((st.hp.set a x).set b .gone) k→Own E.ρ st.hp k:=by
  rintro k ⟨i,z,v,h1,h2,h3⟩
  rcases hget i z v h1 h2 with ⟨rfl,rfl⟩|⟨n1,n2,h4⟩
  ·rw [hma] at h3;exact ⟨b,_,v,hjb,h2,h3⟩
  ·rw [hmo n1 n2] at h3;exact ⟨i,z,v,h4,h2,h3⟩
 have hOs:∀ k,({E with ρ:=aP a b E.ρ}:Env).O ((st.hp.set a x).set b .gone) k→E.O st.hp k:=fun k h=>h.imp (hown k) id
 have hmv:∀ {v w:AV} {u:Value},Mv a b v w→AR E.ρ s.hp.get (E.O st.hp) v u→AR (aP a b E.ρ) s.hp.get (({E with ρ:=aP a b E.ρ}:Env).O ((st.hp.set a x).set b .gone)) w u:=by
  intro v w u hm h
  cases hm with
  | same n1 n2=>exact h.move hOs n1 n2
  | ptr =>
   obtain ⟨k,hk,rfl⟩:=h.cJ
   exact .ptr (by rw [hma];exact hk)
  | bU =>
   rcases h.eP with ⟨k,hk,rfl⟩|⟨rfl,rfl,rfl⟩
   ·exact .bU (by rw [hma];exact hk)
   ·exact .pG
  | bN=>exact .bN
 have hbr:∀ (z:AB) (z':aR),z.kE a=true→z.kE b=true→BR E.ρ s.hp.get (E.O st.hp) z z'→BR (aP a b E.ρ) s.hp.get (({E with ρ:=aP a b E.ρ}:Env).O ((st.hp.set a x).set b .gone)) z z':=by
  intro z z' n1 n2 q3
  cases z with
  | cells cs2 es2 ver2 =>
   obtain ⟨cs',rfl,h⟩:=q3
   exact ⟨cs',rfl,h.1,fun i v u ha hu=>(h.2 i v u ha hu).move hOs (cF n1 i v ha) (cF n2 i v ha)⟩
  | dh p q=>exact q3
  | map ents clock =>
   obtain ⟨es,rfl,h1,h2⟩:=q3
   refine ⟨es,rfl,h1,fun i k v born e hx hy=>?_⟩
   simp only [AB.kE,List.all_eq_true,Bool.and_eq_true] at n1 n2
   have m1:=n1 _ (List.mem_of_getElem? hx)
   have m2:=n2 _ (List.mem_of_getElem? hx)
   exact ⟨(h2 i k v born e hx hy).1.move hOs m1.1 m2.1,(h2 i k v born e hx hy).2.1.move hOs m1.2 m2.2,(h2 i k v born e hx hy).2.2⟩
  | iter i2 since seen stepped =>
   obtain ⟨m,rfl,h⟩:=q3
   exact ⟨m,rfl,by show aP a b E.ρ i2 0=_;rw [hmo (eT n1) (eT n2)];exact h⟩
  | gone=>exact q3
 refine ⟨{E with ρ:=aP a b E.ρ},⟨⟨hr.wf,fun i z v hi hv=>?_,fun i i' v v' k h1 h2=>?_,fun i v k hk=>?_,fun i z v w h1 h2 h3=>?_,fun i v hi=>?_,fun k hk=>hr.sup k (hown k hk),fun k hk=>hr.iV k (hown k hk),hr.dx,hr.ds,hr.sn,hr.xn,fun k hk=>hr.pH k (hk.imp (hown k) id),hr.bn,hr.aF⟩,hs'.rd,fun t=>hmv (zE hs t) (hs'.fr t)⟩,
  ⟨Nat.le_refl _,fun i v k hi hk=>?_,fun k hk=>.inl (hown k hk),fun _ h=>.inl h,fun _ h=>.inl h,fun _ h=>h,fun _ h=>.inl h,fun _ _ _ _=>rfl,Nat.min_le_left _ _⟩⟩
 ·rcases hget i z v hi hv with ⟨rfl,rfl⟩|⟨n1,n2,h4⟩
  ·have hz:=hb b _ hjb (Ne.symm hab)
   rcases hr.fM b _ v hjb hv with ⟨k,b',q1,q2,q3⟩|⟨q1,q2⟩
   ·exact .inl ⟨k,b',by show aP _ b E.ρ _ v=_;rw [hma];exact q1,q2,hbr _ _ hz.1 hz.2 q3⟩
   ·exact .inr ⟨by show aP _ b E.ρ _ v=_;rw [hma];exact q1,q2⟩
  ·have hz:=hb i z h4 n1
   rcases hr.fM i z v h4 hv with ⟨k,b',q1,q2,q3⟩|⟨q1,q2⟩
   ·exact .inl ⟨k,b',by show aP a b E.ρ i v=_;rw [hmo n1 n2];exact q1,q2,hbr _ _ hz.1 hz.2 q3⟩
   ·exact .inr ⟨by show aP a b E.ρ i v=_;rw [hmo n1 n2];exact q1,q2⟩
 ·rcases hmi h1 with ⟨e1,p1⟩|⟨n1,n2,p1⟩
  ·rcases hmi h2 with ⟨e2,p2⟩|⟨m1,m2,p2⟩
   ·rw [e1,e2]
   ·exact absurd (hr.inj b i' v v' k p1 p2).symm m2
  ·rcases hmi h2 with ⟨e2,p2⟩|⟨m1,m2,p2⟩
   ·exact absurd (hr.inj i b v v' k p1 p2) n2
   ·exact hr.inj i i' v v' k p1 p2
 ·rcases hmi hk with ⟨rfl,h⟩|⟨_,_,h⟩
  ·exact hr.rn b v k h
  ·exact hr.rn i v k h
 ·rcases hget i z v h1 h2 with ⟨rfl,rfl⟩|⟨n1,n2,h4⟩
  ·show aP _ b E.ρ _ w=none
   rw [hma];exact hr.fresh b _ v w hjb h2 h3
  ·show aP a b E.ρ i w=none
   rw [hmo n1 n2];exact hr.fresh i z v w h4 h2 h3
 ·show aP a b E.ρ i v=none
  have hi:st.hp.length≤i:=by simpa using hi
  rw [hmo (by omega) (by omega)]
  exact hr.new i v hi
 ·show aP a b E.ρ i v=some k
  rw [hmo (by omega) (by omega)];exact hk
def Qg (T:bz) (rs:List ResultVar) (Q:AV→List AB→bJ→Prop) (e:Exit) (s:bI):Prop :=
 match e with
 | .normal|.ret=>oU T s rs fun as=>Q (Bu as) s.hp s.aF
 | _=>False
theorem Kj {vs:List AV} {us:List Value} (h:fh ρ g O vs us):AR ρ g O (Bu vs) (cH us):=by
 match vs,us,h with
 | [],[],_=>exact .tp rfl (fun i x u hx=>by cases hx)
 | [v],[u],h=>exact h.2 0 v u rfl rfl
 | a :: b :: l,c :: d :: m,h=>exact .tp (by simpa using h.1) (fun i x u hx hu=>h.2 i x u hx (by simpa using hu))
 | [],u :: us,h=>exact absurd h.1 (by simp)
 | v :: vs,[],h=>exact absurd h.1 (by simp)
 | [v],a :: b :: l,h=>exact absurd h.1 (by simp)
 | a :: b :: l,[v],h=>exact absurd h.1 (by simp)
theorem ax.body {f:FuncId} {fn:Func} {c:Code} {first caps args:List AV} {Q:AV→List AB→bJ→Prop} (hf:T.fn.get f=some fn) (hb:fn.body=some c) (hn:noEntry tab f=true)
  (hw:aB T tab one c ⟨Bv (first++args++caps),hp,aF,false,hp.length⟩ (Qg T fn.results.toList Q)):ax T tab one (.fn f first caps) args hp aF Q:=by
 intro E base H u us hr hF ha
 obtain ⟨fs,cs,rfl,h1,h2⟩:∃ fs cs,u=.func (.func f) fs cs∧fh E.ρ H.get (E.O hp) first fs.toList∧fh E.ρ H.get (E.O hp) caps cs.toList:=by
  cases hF with
  | d h=>cases h with
   | fn ha hb h1 h2=>exact ⟨_,_,rfl,⟨ha,fun i x u hx hu=>.d (h1 i x u hx hu)⟩,⟨hb,fun i x u hx hu=>.d (h2 i x u hx hu)⟩⟩
  | fn ha hb h1 h2=>exact ⟨_,_,rfl,⟨ha,h1⟩,⟨hb,h2⟩⟩
 refine ⟨.fn f (fs.toList++us++cs.toList),rfl,?_⟩
 have hargs:=(h1.append ha).append h2
 obtain ⟨m,L,h1,h2,h3⟩:=hw E base ⟨setArgs .leaf 0 (fs.toList++us++cs.toList),H,false⟩ ⟨hr,rfl,vr hargs⟩
 obtain ⟨m',M,hm,q1,q2,q3⟩:=eo (one:=one) (L:=L) (f:=fun _ (p:Exit × St)=>eA T fn.results.toList p)
  (P:=fun r=>∃ w H',r=.ret w H'∧∃ E' a hp' amb',Q a hp' amb'∧aL E' base hp' amb' H'∧AR E'.ρ H'.get (E'.O hp') a w∧jU hp.length base E hp H E' hp' H')
  (fun _ _ _ _ _ h=>h) m h2 (fun p hp'=>by
   obtain ⟨E',st',k1,k0,k2,k3⟩:=h3 p hp'
   obtain ⟨e,s'⟩:=p
   have done:(e=.normal∨e=.ret)→(oU T st' fn.results.toList fun as=>Q (Bu as) st'.hp st'.aF)→∃ (_:Nat) (M:List fJ),eA T fn.results.toList (e,s')=some M ∧
     pK one M fun r=>∃ w H',r=.ret w H'∧∃ E' a hp' amb',Q a hp' amb'∧aL E' base hp' amb' H'∧AR E'.ρ H'.get (E'.O hp') a w∧jU hp.length base E hp H E' hp' H':=by
    intro he hr
    obtain ⟨ws,as,r1,r2,r4⟩:=kC k2 hr
    refine ⟨0,[.ret (cH ws) s'.hp],?_,.single ⟨_,_,rfl,E',Bu as,st'.hp,st'.aF,r2,k2.h,Kj r4,k3⟩⟩
    unfold eA
    rcases he with rfl|rfl <;> simp only [r1,Option.map_some]
   cases e with
   | normal=>exact done (.inl rfl) k1
   | ret=>exact done (.inr rfl) k1
   | _=>exact k1.elim)
 refine ⟨m'+1,M,?_,q2,q3⟩
 show RX T tab (m'+1) (.call f _ H)=_
 rw [ze,od _ _ hn]
 simp only
 rw [jD,hf]
 simp only [hb]
 rw [ei (ey hm) _ _ _ h1]
 exact q1
end
section
variable {T : bz} {tab : List XE} {one : Bool}
end
section
variable {T : bz} {tab : List XE} {one : Bool}
def vB (a b:AV):Prop:=∀ (g:aD) (O:Nat→Prop) (u:Value),DR g O a u→DR g O b u
theorem vB.refl (a:AV):vB a a:=fun _ _ _ h=>h
theorem vB.nil (b:Bool):vB (.fl (.slice none 0 0)) (.sl [] b):=fun _ _ u h=>by
 cases h with
 | fl=>exact .nil
theorem vB.full {els:List (List AV)}:vB (.sl els true) (.sl els false):=fun _ _ u h=>by
 cases h with
 | nil=>exact .nil
 | sl q1 q2 q3 q4 q5 q6 q7=>exact .sl q1 q2 q3 q4 q5 q6 (fun h=>Bool.noConfusion h)
def vC:List AV→List AV→Prop
 | [],[]=>True
 | a :: l,b :: m=>vB a b∧vC l m
 | _,_=>False
theorem vC.Oo {g:aD} {O:Nat→Prop}:∀ {as bs:List AV} {us:List Value},vC as bs→qw g O as us→qw g O bs us
 | [],[],us,_,h=>h
 | a :: l,b :: m,[],_,h=>absurd h.1 (by simp)
 | a :: l,b :: m,u :: us,hs,h=>by
  have ih:=vC.Oo (g:=g) (O:=O) (us:=us) hs.2 ⟨by simpa using h.1,fun i a v x y=>h.2 (i+1) a v (by simpa using x) (by simpa using y)⟩
  refine ⟨by simpa using ih.1,fun i x v hx hv=>?_⟩
  cases i with
  | zero=>cases hx;cases hv;exact hs.1 _ _ _ (h.2 0 a u rfl rfl)
  | succ i=>exact ih.2 i x v (by simpa using hx) (by simpa using hv)
 | [],_ :: _,_,hs,_=>hs.elim
 | _ :: _,[],_,hs,_=>hs.elim
theorem ah.soft {F:AV} {args args':List AV} {v:AV} (h:ah T tab one F args v) (hs:vC args' args):ah T tab one F args' v :=
 ⟨h.1,fun X H u us hw hX hF ha=>h.2 X H u us hw hX hF (hs.Oo ha)⟩
end
section
variable {T : bz} {tab : List XE} {one : Bool} {base : Nat} {E : Env} {hp : List AB} {aF : bJ} {H : Hp}
end
theorem wrap_i64 {n:Int} (h0:0≤n) (h1:n < 9223372036854775808):IntKind.wrap .i64 n=n:=by
 have hm:n % 18446744073709551616=n:=Int.emod_eq_of_lt h0 (by omega)
 show (if (true && decide (n % 18446744073709551616 ≥ 9223372036854775808))=true then n % 18446744073709551616 - 18446744073709551616 else n % 18446744073709551616)=n
 rw [hm,if_neg (by simp;omega)]
theorem Kk {w m n:Nat} (hm:m < 2 ^ w) (hn:n < 2 ^ w):(BitVec.ofInt w (m:Int) ||| BitVec.ofInt w (n:Int)).toNat=m ||| n:=by
 rw [BitVec.toNat_or,BitVec.ofInt_natCast,BitVec.ofInt_natCast,BitVec.toNat_ofNat,BitVec.toNat_ofNat,Nat.mod_eq_of_lt hm,Nat.mod_eq_of_lt hn]
section
variable {T : bz} {tab : List XE} {one : Bool} {fl base : Nat} {E E' E2 : Env} {hp hp' hp2 : List AB} {aF amb' : bJ} {H H' H2 : Hp} {ρ ρ2 : Nat → Nat → Option Nat} {g g2 : aD} {O O2 : Nat → Prop}
end
section
variable {T : bz} {tab : List XE} {one : Bool} {base : Nat} {E : Env} {hp : List AB} {aF : bJ} {H : Hp}
inductive Fq (hp:List AB):AV→AV→Prop
 | fz {a v:AV}:Fz hp a v→Fq hp a v
 | ptr {j aC o es:Nat} {cs:List AV}:hp[j]?=some (.cells cs es aC)→cI cs=true→Fq hp (.ptr j aC o) (.pt cs o)
 | fn {f:FuncId} {a b x y:List AV}:a.length=x.length→b.length=y.length→(∀ (i:Nat) (u v:AV),a[i]?=some u→x[i]?=some v→Fq hp u v)→(∀ (i:Nat) (u v:AV),b[i]?=some u→y[i]?=some v→Fq hp u v)→Fq hp (.fn f a b) (.fn f x y)
theorem AR.Kl {ρ:Nat→Nat→Option Nat} {g:aD} {O:Nat→Prop} {f:FuncId} {a b:List AV} {u:Value} (h:AR ρ g O (.fn f a b) u):∃ a' b',u=.func (.func f) a' b'∧fh ρ g O a a'.toList∧fh ρ g O b b'.toList:=by
 cases h with
 | d h=>cases h with
  | fn ha hb h1 h2=>exact ⟨_,_,rfl,⟨ha,fun i x u hx hu=>.d (h1 i x u hx hu)⟩,⟨hb,fun i x u hx hu=>.d (h2 i x u hx hu)⟩⟩
 | fn ha hb h1 h2=>exact ⟨_,_,rfl,⟨ha,h1⟩,⟨hb,h2⟩⟩
theorem Fq.dr {X:Nat→Prop} (h:aL E base hp aF H) (hX:∀ k,X k→E.X k) {r v:AV} (hf:Fq hp r v):∀ {u:Value},AR E.ρ H.get (E.O hp) r u→DR H.get X v u:=by
 have weak:∀ {v:AV} {u:Value},DR H.get (E.O hp) v u→DR H.get X v u:=fun h=>h.mono fun k b hk ho=>⟨hk,fun hx=>ho (.inr (hX k hx))⟩
 induction hf with
 | fz hz=>intro u ha;exact hz.dr h hX ha
 | ptr h1 hd =>
  rename_i j aC o es cs
  intro u ha
  obtain ⟨k,hk,rfl⟩:=ha.cJ
  obtain ⟨cs',q1,q2⟩:=h.cells h1 hk
  have hok:Own E.ρ hp k:=⟨j,_,aC,h1,rfl,hk⟩
  have hnx:¬ X k:=fun hx=>h.iV k hok (hX k hx)
  have:=DR.pt (g:=H.get) (O:=X) (l:=cs) (k:=k) (d:=0) (o:=o) (cs:=cs') q1 hnx (by rw [Nat.zero_add,q2.1];exact Nat.le_refl _) (fun i a u hx hu=>by
   rw [Nat.zero_add] at hu
   exact weak ((q2.2 i a u hx hu).deep (gv hd i a hx)))
  rw [Nat.zero_add] at this
  exact this
 | @fn f a b x y h1 h2 _ _ ih1 ih2 =>
  intro u ha
  obtain ⟨a',b',rfl,p1,p2⟩:=ha.Kl
  refine .fn (by rw [←h1];exact p1.1) (by rw [←h2];exact p2.1) (fun i v w hv hw=>?_) (fun i v w hv hw=>?_)
  ·have hi:i < a.length:=by rw [h1];exact (List.getElem?_eq_some_iff.1 hv).1
   have hai:a[i]?=some a[i]:=List.getElem?_eq_getElem hi
   exact ih1 i _ v hai hv (p1.2 i _ w hai hw)
  ·have hi:i < b.length:=by rw [h2];exact (List.getElem?_eq_some_iff.1 hv).1
   have hai:b[i]?=some b[i]:=List.getElem?_eq_getElem hi
   exact ih2 i _ v hai hv (p2.2 i _ w hai hw)
def gP (hp:List AB):List AV→List AV→Prop
 | [],[]=>True
 | r :: rs,v :: vs=>Fq hp r v∧gP hp rs vs
 | _,_=>False
theorem gP.dr {X:Nat→Prop} (h:aL E base hp aF H) (hX:∀ k,X k→E.X k):∀ {rs vs:List AV} {us:List Value},gP hp rs vs→fh E.ρ H.get (E.O hp) rs us→qw H.get X vs us
 | [],[],us,_,ha=>⟨ha.1,fun i a u hx=>by cases hx⟩
 | r :: rs,v :: vs,[],_,ha=>absurd ha.1 (by simp)
 | r :: rs,v :: vs,u :: us,hf,ha=>by
  have:=gP.dr h hX hf.2 (us:=us) ⟨by simpa using ha.1,fun i a u x y=>ha.2 (i+1) a u (by simpa using x) (by simpa using y)⟩
  refine ⟨by simp [this.1],fun i a w hx hw=>?_⟩
  cases i with
  | zero=>cases hx;cases hw;exact hf.1.dr h hX (ha.2 0 r u rfl rfl)
  | succ i=>exact this.2 i a w (by simpa using hx) (by simpa using hw)
 | [],_ :: _,_,hf,_=>hf.elim
 | _ :: _,[],_,hf,_=>by simp [gP] at hf
theorem gP.Oq {f:FuncId} {a b x y:List AV} (h1:gP hp a x) (h2:gP hp b y):Fq hp (.fn f a b) (.fn f x y):=by
 have key:∀ {a x:List AV},gP hp a x→a.length=x.length∧∀ (i:Nat) (u v:AV),a[i]?=some u→x[i]?=some v→Fq hp u v:=by
  intro a
  induction a with
  | nil =>
   intro x h
   cases x with
   | nil=>exact ⟨rfl,fun i u v hu=>by cases hu⟩
   | cons=>exact h.elim
  | cons r rs ih =>
   intro x h
   cases x with
   | nil=>simp [gP] at h
   | cons v vs =>
    obtain ⟨l,k⟩:=ih h.2
    refine ⟨by simp [l],fun i u w hu hw=>?_⟩
    cases i with
    | zero=>cases hu;cases hw;exact h.1
    | succ i=>exact k i u w (by simpa using hu) (by simpa using hw)
 exact .fn (key h1).1 (key h2).1 (key h1).2 (key h2).2
theorem ah.x6 {F F':AV} {args vs:List AV} {v:AV} (h:ah T tab one F' vs v) (hF:Fq hp F F') (hz:gP hp args vs) (hfree:gi v) {Q:AV→List AB→bJ→Prop} (hq:Q v hp aF):ax T tab one F args hp aF Q:=by
 intro E base H u us hr hf ha
 obtain ⟨hd,h⟩:=h
 obtain ⟨goal,hg,m,L,h1,h2,h3⟩:=h E.X H u us hr.wf (fun k hk=>hr.xn k hk) (hF.dr hr (fun _ h=>h) hf) (hz.dr hr (fun _ h=>h) ha)
 refine ⟨goal,hg,m,L,h1,h2,fun r hm=>?_⟩
 obtain ⟨w,H',rfl,hn,hwf,hsame,hlo,hv⟩:=h3 r hm
 have e:Ext base E hp H E hp H':=⟨hn,rfl,rfl,rfl,fun _ _ _ h=>h,fun _ h=>.inl h,fun k hk _=>hsame k hk,by have:=hr.bn;omega⟩
 refine ⟨w,H',rfl,E,v,hp,aF,hq,⟨hwf,fun j x aC hj hvx=>?_,hr.inj,fun j v k hk=>Nat.lt_of_lt_of_le (hr.rn j v k hk) hn,hr.fresh,hr.new,hr.sup,hr.iV,hr.dx,hr.ds,fun k hk=>Nat.lt_of_lt_of_le (hr.sn k hk) hn,fun k hk=>Nat.lt_of_lt_of_le (hr.xn k hk) hn,hr.pH,Nat.le_trans hr.bn hn,aF.st hr.aF (fun k hk=>hsame k (hr.sn k hk)) hn⟩,.d (hfree.2 _ _ _ _ hv),e.ir⟩
 rcases hr.fM j x aC hj hvx with ⟨k,b',q1,q2,q3⟩|q
 ·exact .inl ⟨k,b',q1,by rw [hsame k (hr.wf.lt q2)];exact q2,e.br hr.wf q3⟩
 ·exact .inr q
theorem gP.nil:gP hp [] []:=trivial
theorem gP.cons {a x:AV} {as xs:List AV} (h:Fq hp a x) (k:gP hp as xs):gP hp (a :: as) (x :: xs):=⟨h,k⟩
theorem Fq.deep {v:AV} (h:v.deep=true):Fq hp v v:=.fz (.deep h)
end
section
variable {T : bz} {tab : List XE} {one : Bool} {mu : Tmp → Bool} {dst : Option Tmp} {fr : Nat → AV} {hp : List AB} {aF : bJ} {rd : Bool} {fl : Nat} {KS : bI → Prop}
theorem om {r:Operand} {name:String} {l:List Operand} {tys} {F:AV} (hF:D0 T.P (aQ fr r) name=F) (h:force F fun F=>eF (l.map (aQ fr)) fun as=>ax T tab one F as hp aF fun v hp' amb'=>gA dst fr v fun fr'=>KS ⟨fr',hp',amb',rd,fl⟩) :
  qG T tab one mu dst (.call ⟨.invoke r name,l.toArray,tys⟩) fr hp aF rd fl KS:=by
 subst hF
 exact h
end
section
variable {T : bz} {tab : List XE} {one : Bool} {mu : Tmp → Bool} {KE : Exit → bI → Prop} {st : bI}
theorem x7 {l:List Oper} (hd:l.any tQ=false):fK l.toArray=l.length:=by
 unfold fK
 have:l.findIdx? tQ=none:=by
  rw [List.findIdx?_eq_none_iff]
  intro x hx
  rw [List.any_eq_false] at hd
  simpa using hd x hx
 simp only [this]
theorem QB {id:Nat} {l:List Oper} (hd:l.any tQ=false) (h:iX T tab mu l.toArray l 0 (fun _=>0) [] st (KE .normal)):mS T tab one mu (.region id l.toArray true) st KE:=by
 refine c5 (x7 hd) rfl rfl ?_
 rw [List.take_length,List.drop_length]
 exact h
end
section
variable {T : bz} {tab : List XE} {one : Bool} {mu : Tmp → Bool} {own : Bool} {fr : Nat → AV} {hp : List AB} {K : AV → List AB → Prop} {t : TypeId} {und : TypeDesc} {s by' : Nat} {z : Option Value} {agg : Bool} {bV : List (Nat × Nat)} {cw : Nat}
theorem QC {a:Operand} {cs:List AV} {o:Nat} (ha:aQ fr a=.pt cs o) (ht:T.ty.get t=some ⟨und,s,by',z,true,bV,cw⟩) (hl:Nat.ble (o+s) cs.length=true) (h:K (.ag ((cs.drop o).take s)) hp):wpOp T own (.load t a) fr hp K:=by
 show ej T t (aQ fr a) hp K
 unfold ej
 simp only [ha,ht]
 exact ⟨Nat.le_of_ble_eq_true hl,h⟩
theorem QD {a:Operand} {cs:List AV} {o:Nat} {v:AV} (ha:aQ fr a=.pt cs o) (ht:T.ty.get t=some ⟨und,s,by',z,false,bV,cw⟩) (hv:cs[o]?=some v) (h:K v hp):wpOp T own (.load t a) fr hp K:=by
 show ej T t (aQ fr a) hp K
 unfold ej
 simp only [ha,ht]
 exact ⟨v,hv,h⟩
theorem QE {a:Operand} {j aC o es:Nat} {cs:List AV} (ha:aQ fr a=.ptr j aC o) (ht:T.ty.get t=some ⟨und,s,by',z,true,bV,cw⟩) (hj:hp[j]?=some (.cells cs es aC)) (hl:Nat.ble (o+s) cs.length=true) (h:K (.ag ((cs.drop o).take s)) hp):wpOp T own (.load t a) fr hp K:=by
 show ej T t (aQ fr a) hp K
 unfold ej
 simp only [ha,ht]
 exact ⟨cs,es,hj,Nat.le_of_ble_eq_true hl,h⟩
theorem Ot {a:Operand} {j aC o es:Nat} {cs:List AV} {v:AV} (ha:aQ fr a=.ptr j aC o) (ht:T.ty.get t=some ⟨und,s,by',z,false,bV,cw⟩) (hj:hp[j]?=some (.cells cs es aC)) (hv:cs[o]?=some v) (h:K v hp):wpOp T own (.load t a) fr hp K:=by
 show ej T t (aQ fr a) hp K
 unfold ej
 simp only [ha,ht]
 exact ⟨cs,es,hj,v,hv,h⟩
theorem QF {a:Operand} {i:Nat} {cs:List AV} {o off sz:Nat} {fs} (ha:aQ fr a=.pt cs o) (ht:T.ty.get t=some ⟨.struct fs,s,by',z,agg,bV,cw⟩) (hf:bV[i]?=some (off,sz)) (h1:Nat.ble 1 sz=true) (h:K (.pt cs (o+off)) hp):wpOp T own (.fieldAddr t a i) fr hp K:=by
 show jl T t (aQ fr a) i hp K
 unfold jl
 simp only [ha,ht]
 exact ⟨off,sz,hf,Nat.le_of_ble_eq_true h1,h⟩
theorem QG {a:Operand} {i:Nat} {j aC o off sz:Nat} {fs} (ha:aQ fr a=.ptr j aC o) (ht:T.ty.get t=some ⟨.struct fs,s,by',z,agg,bV,cw⟩) (hf:bV[i]?=some (off,sz)) (h1:Nat.ble 1 sz=true) (h:K (.ptr j aC (o+off)) hp):wpOp T own (.fieldAddr t a i) fr hp K:=by
 show jl T t (aQ fr a) i hp K
 unfold jl
 simp only [ha,ht]
 exact ⟨off,sz,hf,Nat.le_of_ble_eq_true h1,h⟩
theorem QH {v:Value} (ht:T.ty.get t=some ⟨und,s,by',some v,agg,bV,cw⟩) (h1:v.cells.toList.all aN=true) (h:K (.ptr hp.length 0 0) (hp++[.cells (v.cells.toList.map .fl) 0 0])):wpOp T own (.alloc t) fr hp K:=by
 show qy T t hp K
 unfold qy
 simp only [ht]
 exact ⟨h1,h⟩
theorem Qh {x:Operand} (h:force (aQ fr x) fun v=>xR own v hp K):wpOp T own (.box t x) fr hp K:=h
theorem Cf {v:AV} (ho:own=false) (h1:v.jK=true) (h2:v.cells.all AV.one=true) (h3:cI v.cells=true) (h:K (.pt v.cells 0) hp):xR own v hp K:=by
 subst ho
 exact ⟨h1,h2,h3,h⟩
theorem QI {v:AV} (ho:own=true) (h1:v.jK=true) (h2:v.cells.all AV.one=true) (h:K (.ptr hp.length 0 0) (hp++[.cells v.cells 0 0])):xR own v hp K:=by
 subst ho
 exact ⟨h1,h2,h⟩
theorem NI {a x:Operand} (h:force (aQ fr x) fun v=>cK T t (aQ fr a) v hp K):wpOp T own (.store t a x) fr hp K:=h
theorem NJ {a v:AV} {j aC o es:Nat} {cs:List AV} (ha:a=.ptr j aC o) (ht:T.ty.get t=some ⟨und,s,by',z,agg,bV,cw⟩) (hj:hp[j]?=some (.cells cs es aC)) (h1:v.jK=true) (h2:v.cells.all AV.one=true) (h3:v.cells.length=s) (h4:Nat.ble (o+s) cs.length=true) (h:K .bN (hp.set j (.cells (fS cs v.cells o) es aC))):cK T t a v hp K:=by
 unfold cK
 simp only [ha,ht]
 exact ⟨cs,es,hj,h1,h2,h3,Nat.le_of_ble_eq_true h4,h⟩
theorem NK {l:List (Nat × Operand)} (h:jM (l.map fun p=>(p.1,aQ fr p.2)) fun ps=>mj T t ps hp K):wpOp T own (.build t l.toArray) fr hp K:=h
theorem Km {l:List (Nat × Operand)} {len:Nat} (h:jM (l.map fun p=>(p.1,aQ fr p.2)) fun ps=>cY T own t len ps hp K):wpOp T own (.buildSlice t len l.toArray) fr hp K:=h
theorem QJ {P:List (Nat × AV)→Prop} (h:P []):jM (([]:List (Nat × Operand)).map fun p=>(p.1,aQ fr p.2)) P:=h
theorem QK {i:Nat} {x:Operand} {l:List (Nat × Operand)} {P:List (Nat × AV)→Prop} (h:force (aQ fr x) fun a=>jM (l.map fun p=>(p.1,aQ fr p.2)) fun l=>P ((i,a) :: l)):jM (((i,x) :: l).map fun p=>(p.1,aQ fr p.2)) P:=h
theorem Qb {v:Value} {parts:List (Nat × AV)} {cs:List AV} (ht:T.ty.get t=some ⟨und,s,by',some v,true,bV,cw⟩) (h1:v.cells.toList.all aN=true) (h2:Bm (fX und bV cw) (v.cells.toList.map .fl) parts=some cs) (h:K (.ag cs) hp):mj T t parts hp K:=by
 unfold mj
 simp only [ht]
 exact ⟨h1,cs,h2,h⟩
theorem QL {len:Nat} {parts:List (Nat × AV)} {inf:wz} (ho:own=false) (hi:elem? T t=some inf) (h1:Nat.ble (len * inf.size) 65536=true) (h2:bx inf=true) (h3:kA inf.size 0 parts=true) (h4:Nat.beq parts.length len=true) (h5:cI (parts.map (·.2.cells)).flatten=true) (h:K (.sl (parts.map (·.2.cells)) true) hp):cY T own t len parts hp K:=by
 subst ho
 unfold cY
 simp only [hi]
 exact ⟨h1,h2,h3,h4,h5,h⟩
theorem QM {len:Nat} {parts:List (Nat × AV)} {inf:wz} (ho:own=true) (hi:elem? T t=some inf) (h1:Nat.ble (len * inf.size) 65536=true) (h2:bx inf=true) (h3:kA inf.size 0 parts=true) (h4:Nat.beq parts.length len=true) (h:K (.bU hp.length 0 0 len len) (hp++[.cells (parts.map (·.2.cells)).flatten inf.size 0])):cY T own t len parts hp K:=by
 subst ho
 unfold cY
 simp only [hi]
 exact ⟨h1,h2,h3,h4,h⟩
theorem QN {x:Operand} {i:Nat} {vs:List AV} {v:AV} (ha:aQ fr x=.tp vs) (hv:vs[i]?=some v) (h:K v hp):wpOp T own (.extract x i) fr hp K:=by
 show jt (aQ fr x) i hp K
 rw [ha]
 exact ⟨v,hv,h⟩
theorem Qu {a x:Operand} {e:TypeId} {els:List (List AV)} {f:Bool} {j:Int} {el:List AV} (ha:aQ fr a=.sl els f) (hx:aQ fr x=.fl (.int .i64 j)) (ht:T.ty.get t=some ⟨.slice e,s,by',z,agg,bV,cw⟩) (hat:els[j.toNat]?=some el) (h0:0≤j) (hl:el.length=cw) (h:K (.pt el 0) hp):wpOp T own (.indexAddr t a x) fr hp K:=by
 show cr T t (aQ fr a) (aQ fr x) hp K
 rw [ha,hx]
 unfold cr
 simp only [asInt,ht]
 exact ⟨el,⟨h0,hat⟩,hl,h⟩
theorem QO {a x:Operand} {e:TypeId} {i aC o n c:Nat} {j:Int} (ha:aQ fr a=.bU i aC o n c) (hx:aQ fr x=.fl (.int .i64 j)) (ht:T.ty.get t=some ⟨.slice e,s,by',z,agg,bV,cw⟩) (h0:0≤j∧j < (n:Int)) (h:K (.ptr i aC (o+j.toNat * cw)) hp):wpOp T own (.indexAddr t a x) fr hp K:=by
 show cr T t (aQ fr a) (aQ fr x) hp K
 rw [ha,hx]
 unfold cr
 simp only [asInt,ht]
 exact ⟨h0,h⟩
theorem QS {a x:Operand} {e:TypeId} {len:Nat} {cs:List AV} {o:Nat} {j:Int} (ha:aQ fr a=.pt cs o) (hx:aQ fr x=.fl (.int .i64 j)) (ht:T.ty.get t=some ⟨.array len e,s,by',z,agg,bV,cw⟩) (h0:0≤j∧j < (len:Int)) (h:K (.pt cs (o+j.toNat * cw)) hp):wpOp T own (.indexAddr t a x) fr hp K:=by
 show cr T t (aQ fr a) (aQ fr x) hp K
 rw [ha,hx]
 unfold cr
 simp only [asInt,ht]
 exact ⟨h0,h⟩
theorem QT {a x:Operand} {e:TypeId} {len:Nat} {i aC o:Nat} {j:Int} (ha:aQ fr a=.ptr i aC o) (hx:aQ fr x=.fl (.int .i64 j)) (ht:T.ty.get t=some ⟨.array len e,s,by',z,agg,bV,cw⟩) (h0:0≤j∧j < (len:Int)) (h:K (.ptr i aC (o+j.toNat * cw)) hp):wpOp T own (.indexAddr t a x) fr hp K:=by
 show cr T t (aQ fr a) (aQ fr x) hp K
 rw [ha,hx]
 unfold cr
 simp only [asInt,ht]
 exact ⟨h0,h⟩
end
section
variable {T : bz} {own : Bool} {fr : Nat → AV} {hp : List AB} {K : AV → List AB → Prop} {t : TypeId}
theorem QU {l c:Operand} {n:Nat} {inf:wz} (hi:elem? T t=some inf) (hl:aQ fr l=.fl (.int .i64 (Int.ofNat n))) (hc:aQ fr c=.fl (.int .i64 (Int.ofNat n))) (hb:inf.bytes * n≤140737488355328∧n≤9223372036854775807) (hz:bx inf=true) (h:K (.bU hp.length 0 0 n n) (hp++[.cells ((bG (zeroCells inf) (n * inf.size)).map .fl) inf.size 0])):wpOp T own (.makeSlice t l c) fr hp K:=by
 show vk T t (aQ fr l) (aQ fr c) hp K
 unfold vk
 simp only [hi,hl,hc]
 refine ⟨n,n,rfl,rfl,⟨Nat.le_refl _,hb⟩,hz,?_⟩
 rw [show Nat.beq n n=true from Nat.beq_refl n]
 exact h
end
section
variable {T : bz} {own : Bool} {fr : Nat → AV} {hp : List AB} {K : AV → List AB → Prop} {s x : Operand} {t u e : TypeId} {a1 a2 a3 a4 a5 a6} {els : List (List AV)} {f : Bool} {inf : wz}
end
theorem BG {w m n:Nat} (hm:m < 2 ^ w) (hn:n < 2 ^ w):(BitVec.ofInt w (m:Int) &&& BitVec.ofInt w (n:Int)).toNat=m &&& n:=by
 rw [BitVec.toNat_and,BitVec.ofInt_natCast,BitVec.ofInt_natCast,BitVec.toNat_ofNat,BitVec.toNat_ofNat,Nat.mod_eq_of_lt hm,Nat.mod_eq_of_lt hn]
section
variable {T : bz} {tab : List XE} {one : Bool} {fl base : Nat} {E E' E2 : Env} {hp hp' hp2 : List AB} {aF amb' : bJ} {H H' H2 : Hp} {ρ ρ2 : Nat → Nat → Option Nat} {g g2 : aD} {O O2 : Nat → Prop}
abbrev D8 (T:bz) (tab:List XE) (base:Nat) (ops:Array Oper) (c:Nat) (K:bI→Prop) (l:List Oper) (i:Nat) (evs:List Ev) (st:bI) (tr:Nat→ct) (s:St):Prop :=
 ∃ m L,dU T (RX T tab m) ops l (pX T (RX T tab m) ops c) i s evs=some L∧∀ s' ∈ L,∃ E' st',K st'∧st'.fl=st.fl∧mR E' base st' s'∧jU st.fl base (tr 0).E (tr 0).hp (tr 0).H E' st'.hp s'.hp
theorem C5 {mu:Tmp→Bool} {ops:Array Oper} {o:Oper} {l:List Oper} {i:Nat} {bt:Nat→Nat} {acc:List ia} {evs:List Ev} {st:bI} {K:bI→Prop} {tr:Nat→ct} {s:St} {c:Nat} {X:List Oper→Nat→(Nat→Nat)→List ia→bI→Prop}
  (hX:∀ {bt:Nat→Nat} {acc:List ia} {evs:List Ev} {st:bI} {tr:Nat→ct} {s:St},X l (i+1) bt acc st→lG base st.aF tr (i+1)→(tr (i+1)).hp=st.hp→(tr (i+1)).H=s.hp→s.rd=st.rd→fU tr (i+1) bt st.fr s.fr→oH tr (i+1) acc evs→D8 T tab base ops c K l (i+1) evs st tr s)
  (h:cB ops.toList o.guard st.fr (eK T tab mu o.dst o.op i bt st.fr st.hp fun fr' hp' bt' x=>X l (i+1) bt' (x :: acc) ⟨fr',hp',st.aF,st.rd,st.fl⟩)
   (gA o.dst st.fr (.tp []) fun fr'=>X l (i+1) (kT o.dst bt 0) (⟨i,[],false,false⟩ :: acc) ⟨fr',st.hp,st.aF,st.rd,st.fl⟩))
  (ht:lG base st.aF tr i) (h1:(tr i).hp=st.hp) (h2:(tr i).H=s.hp) (h3:s.rd=st.rd) (hb:fU tr i bt st.fr s.fr) (he:oH tr i acc evs):D8 T tab base ops c K (o :: l) i evs st tr s:=by
 have hrel:=ht.rel i (Nat.le_refl _)
 have hfr:jV (tr i).E.ρ (tr i).H.get ((tr i).E.O (tr i).hp) st.fr s.fr:=fun t=>(ht.ext _ i (hb t).1 (Nat.le_refl _)).ar (ht.rel _ (hb t).1).wf (hb t).2
 have hz0:(snoc tr i (tr i) 0)=tr 0:=aX (Nat.zero_le _)
 rcases ny hfr h with ⟨hg,h⟩|⟨hg,h⟩
 ·
  have go:∀ (z:ct) (v:AV) (u:Value) (b:Nat) (x:ia) (t:Tc) (m0:Nat),aL z.E base z.hp st.aF z.H→Ext base (tr i).E (tr i).hp (tr i).H z.E z.hp z.H→b≤i+1→(snoc tr i z b).ar v u→x.i=i→IB (snoc tr i z) x t →
    (∀ m,m0≤m→bf T (RX T tab m) o.op i s=some (u,z.H,t))→X l (i+1) (kT o.dst bt b) (x :: acc) ⟨xb st.fr o.dst v,z.hp,st.aF,st.rd,st.fl⟩ →
    D8 T tab base ops c K (o :: l) i evs st tr s:=by
   intro z v u b x t m0 hz he' hbi hv hxi hx hd hw
   obtain ⟨m,L,r1,r2⟩:=hX (s:=⟨dQ s.fr o.dst u,z.H,s.rd⟩) (evs:=⟨o,s,u,z.H,t⟩ :: evs) hw (ht.snoc hz he') (by rw [aY (Nat.lt_succ_self _)]) (by rw [aY (Nat.lt_succ_self _)]) h3 (hb.put hbi hv o.dst) (.cons (he.snoc (Nat.le_refl _)) hxi hx)
   rw [aX (Nat.zero_le _)] at r2
   refine ⟨max m0 m,L,?_,r2⟩
   rw [dZ,hg]
   simp only [cond_true,hd _ (Nat.le_max_left _ _)]
   exact mg (ey (Nat.le_max_right m0 m)) ops (fun _ _ _=>Bd (ey (Nat.le_max_right m0 m))) _ _ _ _ _ r1
  unfold eK at h
  split at h
  ·rename_i f args hk
   have h:=ek (bO h)
   obtain ⟨hF,vs,v,hhand,⟨hvd,hpure⟩,h⟩:=h
   have hF':=(vo hfr f).deep hF
   have hget:({s.hp with lo:=s.hp.n}:Hp).get=(tr i).H.get:=by rw [h2];rfl
   obtain ⟨goal,hgo,m0,L,q1,q2,q3⟩:∃ goal,cG (j6 T.P s.fr f) (args.map (aU s.fr))=some goal ∧
     ∃ m L,RX T tab m (gT {s.hp with lo:=s.hp.n} goal)=some L∧(true=true→∃ r,L=[r])∧∀ r ∈ L,∃ w H',r=.ret w H' ∧
      ({s.hp with lo:=s.hp.n}:Hp).n≤H'.n∧Wf H'∧(∀ k,k < ({s.hp with lo:=s.hp.n}:Hp).n→H'.get k=({s.hp with lo:=s.hp.n}:Hp).get k)∧min ({s.hp with lo:=s.hp.n}:Hp).lo ({s.hp with lo:=s.hp.n}:Hp).n≤H'.lo∧DR H'.get ((tr i).E.O (tr i).hp) v w:=by
    rcases hhand with ⟨rfl,hA⟩|⟨hz,hfree⟩
    ·have hA':=(dK hfr args).deep hA
     exact hpure ((tr i).E.O (tr i).hp) {s.hp with lo:=s.hp.n} _ _ (by rw [h2] at hrel;exact hrel.wf) (fun k hk=>by
      have:k < (tr i).H.n:=hk.elim (fun h=>hrel.ja h) (hrel.xn k)
      rw [h2] at this;exact this) (by rw [hget];exact hF') (by rw [hget];exact hA')
    ·obtain ⟨goal,hgo,m0,L,q1,q2,q3⟩:=hpure (tr i).E.X {s.hp with lo:=s.hp.n} _ _ (by rw [h2] at hrel;exact hrel.wf) (fun k hk=>by
      have:k < (tr i).H.n:=hrel.xn k hk
      rw [h2] at this;exact this) (by rw [hget];exact hF'.mono fun k b hk ho=>⟨hk,fun hx=>ho (.inr hx)⟩) (by
       rw [hget]
       rw [←h1] at hz
       exact hz.dr hrel (fun _ h=>h) (dK hfr args))
     refine ⟨goal,hgo,m0,L,q1,q2,fun r hm=>?_⟩
     obtain ⟨w,H',e1,e2,e3,e4,e5,e6⟩:=q3 r hm
     exact ⟨w,H',e1,e2,e3,e4,e5,hfree.2 _ _ _ _ e6⟩
   obtain ⟨r,hr⟩:=q2 rfl
   subst hr
   obtain ⟨w,H',rfl,hn,hwf,hsame,hlo,hdr⟩:=q3 r (by simp)
   obtain ⟨g1,g2⟩:=hrel.grow (H':={H' with lo:=s.hp.lo}) (by rw [h2];exact hn) hwf (fun k hk=>by
    have:=hsame k (by rw [←h2];exact hk)
    rw [h2];exact this) (by rw [h2];exact Nat.min_le_left _ _)
   refine go ⟨(tr i).E,st.hp,{H' with lo:=s.hp.lo}⟩ v w (i+1) ⟨i,[],true,true⟩ ⟨i,[],[],true,s.hp.n,H'.n⟩ m0 (by rw [←h1];exact g1) (by rw [←h1];exact g2) (Nat.le_refl _) ?_ rfl ?_ (fun m hm=>?_) (dL h)
   ·rw [aY (Nat.lt_succ_self _)]
    refine .d ?_
    show DR H'.get ((tr i).E.O st.hp) v w
    rw [←h1];exact hdr
   ·refine ⟨rfl,by rw [aX (Nat.le_refl _),h2],by rw [aY (Nat.lt_succ_self _)],fun h=>Bool.noConfusion h,rfl,fun k hk=>(by cases hk),fun k hk=>(by cases hk)⟩
   ·unfold bf
    simp only [hk,hgo,ey hm _ _ q1]
    have:Nat.ble s.hp.n H'.lo=true:=Nat.ble_eq_true_of_le (by
     have:min s.hp.n s.hp.n≤H'.lo:=hlo
     omega)
    rw [nW this]
  ·exact h.elim
  ·rename_i hk
   obtain ⟨a,hacc,hw⟩:=h
   have hw':=hw
   rw [←h1] at hw'
   obtain ⟨r,w,ht1,ht2,ht3⟩:=tE ht hb hacc hw'
   have evr:∀ (z:ct) (u:Value) (e:bP),i6 T s.hp.n o.op (aU s.fr) s.hp.get=some (u,e)→z.H=s.hp.app e→IB (snoc tr i z) ⟨i,a,news? o.op,false⟩ ⟨i,r,w,false,s.hp.n,(s.hp.app e).n⟩:=by
    intro z u e hop hz
    refine ⟨rfl,by rw [aX (Nat.le_refl _),h2],by rw [aY (Nat.lt_succ_self _),hz],fun hal _=>(rU (vu hop hal)).symm,rfl,fun k hk=>?_,fun k hk=>?_⟩
    ·obtain ⟨p,p1,p2,p3⟩:=ht2 k hk;exact ⟨p,p1,p2,p3.snoc (Nat.le_refl _)⟩
    ·obtain ⟨p,p1,p2,p3⟩:=ht3 k hk;exact ⟨p,p1,p2,p3.snoc (Nat.le_refl _)⟩
   have drw:∀ (u:Value) (e:bP) (m:Nat),i6 T s.hp.n o.op (aU s.fr) s.hp.get=some (u,e)→bf T (RX T tab m) o.op i s=some (u,s.hp.app e,⟨i,r,w,false,s.hp.n,(s.hp.app e).n⟩):=by
    intro u e m hop
    unfold bf
    simp only [hk,ht1,hop]
   by_cases hm:∃ x,xV o.op st.fr=some [x]
   ·obtain ⟨x,hm⟩:=hm
    have hbirth:kD o.op st.fr bt i=rT bt x:=by unfold kD;rw [hm]
    have hbx:=hb.eval x
    have eb:=ht.ext _ i hbx.1 (Nat.le_refl _)
    obtain ⟨u,v,r1,r2,r3,r4⟩:=vt (ρ2:=(tr (rT bt x)).E.ρ) (g2:=(tr (rT bt x)).H.get) (O2:=(tr (rT bt x)).E.O (tr (rT bt x)).hp) (n:=s.hp.n) hfr hm (fun y hy=>by
     obtain rfl:=List.mem_singleton.1 hy;exact hbx.2) (fun k b hk ho=>(eb.keep (ht.rel _ hbx.1).wf k b hk ho).1) hw
    rw [h2] at r1
    have hz:(tr i).H=s.hp.app .none:=h2
    rw [hbirth] at r2
    refine go (tr i) v u (rT bt x) ⟨i,a,news? o.op,false⟩ ⟨i,r,w,false,s.hp.n,(s.hp.app .none).n⟩ 0 hrel .refl (by omega) (by rw [aX hbx.1];exact r4) rfl (evr _ u .none r1 hz) (fun m _=>by rw [hz];exact drw u .none m r1) (by rw [h1];exact dL (bO r2))
   ·have hbirth:kD o.op st.fr bt i=i+1:=by
     unfold kD
     split
     ·rename_i x hx;exact absurd ⟨x,hx⟩ hm
     ·rfl
    obtain ⟨u,e,E',v,hp',r1,r2,r3,r4,r5⟩:=mq hrel hfr hw'
    rw [h2] at r1 r3 r4 r5
    rw [hbirth] at r2
    refine go ⟨E',hp',s.hp.app e⟩ v u (i+1) ⟨i,a,news? o.op,false⟩ ⟨i,r,w,false,s.hp.n,(s.hp.app e).n⟩ 0 r3 (by rw [h2];exact r4) (Nat.le_refl _) (by rw [aY (Nat.lt_succ_self _)];exact r5) rfl (evr _ u e r1 rfl) (fun m _=>drw u e m r1) (dL (bO r2))
 ·obtain ⟨m,L,r1,r2⟩:=hX (s:=⟨dQ s.fr o.dst undef,s.hp,s.rd⟩) (evs:=⟨o,s,undef,s.hp,⟨i,[],[],false,s.hp.n,s.hp.n⟩⟩ :: evs) (dL h) (ht.snoc (z:=tr i) hrel .refl) (by rw [aY (Nat.lt_succ_self _)];exact h1) (by rw [aY (Nat.lt_succ_self _)];exact h2) h3
   (hb.put (Nat.zero_le _) qF o.dst) (.cons (he.snoc (Nat.le_refl _)) rfl ⟨rfl,by rw [aX (Nat.le_refl _),h2],by rw [aY (Nat.lt_succ_self _),h2],fun _ _=>rfl,rfl,fun k hk=>(by cases hk),fun k hk=>(by cases hk)⟩)
  rw [hz0] at r2
  refine ⟨m,L,?_,r2⟩
  rw [dZ,hg]
  exact r1
def PG (T:bz) (tab:List XE) (mu:Tmp→Bool) (ops:Array Oper) (c:Nat) (K:bI→Prop) (acc:List ia) (st:bI):Prop :=
 match ops.toList[c]? with
 | some o=>match dN o.op with
  | .call f args=>cB ops.toList o.guard st.fr (force (P8 T.P st.fr f) fun F=>eF (args.map (aQ st.fr)) fun as=>F.deep=true∧∃ vs v,Handed st.hp as vs v∧ah T tab false F vs v∧ou (s5 ops) (⟨c,[],true,true⟩ :: acc)=true ∧
   gA o.dst st.fr v fun fr'=>wpOps T tab false mu ops.toList (ops.toList.drop (c+1)) ⟨fr',st.hp,st.aF,st.rd,st.fl⟩ K) False
  | _=>False
 | none=>False
def kF (T:bz) (tab:List XE) (mu:Tmp→Bool) (ops:Array Oper) (c:Nat) (K:bI→Prop):List Oper→Nat→(Nat→Nat)→List ia→bI→Prop
 | [],i,_,acc,st=>i=c∧PG T tab mu ops c K acc st
 | ⟨dst,op,_,_,_,gd⟩ :: l,i,bt,acc,⟨fr,hp,aF,rd,fl⟩ =>
  cB ops.toList gd fr (eK T tab mu dst op i bt fr hp fun fr' hp' bt' x=>kF T tab mu ops c K l (i+1) bt' (x :: acc) ⟨fr',hp',aF,rd,fl⟩)
   (gA dst fr (.tp []) fun fr'=>kF T tab mu ops c K l (i+1) (kT dst bt 0) (⟨i,[],false,false⟩ :: acc) ⟨fr',hp,aF,rd,fl⟩)
theorem oV {mu:Tmp→Bool} {ops:Array Oper} {c:Nat} {K:bI→Prop}:∀ {l:List Oper} {i:Nat} {bt:Nat→Nat} {acc:List ia} {evs:List Ev} {st:bI} {tr:Nat→ct} {s:St},kF T tab mu ops c K l i bt acc st →
  lG base st.aF tr i→(tr i).hp=st.hp→(tr i).H=s.hp→s.rd=st.rd→fU tr i bt st.fr s.fr→oH tr i acc evs→D8 T tab base ops c K l i evs st tr s
 | o :: l,i,bt,acc,evs,st,tr,s,h,ht,h1,h2,h3,hb,he=>C5 (X:=fun l i bt acc st=>kF T tab mu ops c K l i bt acc st) (fun h=>oV h) h ht h1 h2 h3 hb he
 | [],i,bt,acc,evs,st,tr,s,h,ht,h1,h2,h3,hb,he=>by
  obtain ⟨rfl,h⟩:=h
  have hrel:=ht.rel i (Nat.le_refl _)
  have hfr:jV (tr i).E.ρ (tr i).H.get ((tr i).E.O (tr i).hp) st.fr s.fr:=fun t=>(ht.ext _ i (hb t).1 (Nat.le_refl _)).ar (ht.rel _ (hb t).1).wf (hb t).2
  unfold PG at h
  split at h
  ·rename_i o ho
   split at h
   ·rename_i f args hk
    rcases ny hfr h with ⟨hg,h⟩|⟨_,h⟩
    case inr=>exact h.elim
    have h:=ek (bO h)
    obtain ⟨hF,vs,v,hhand,⟨hvd,hpure⟩,hchk,h⟩:=h
    have h:=dL h
    have hF':=(vo hfr f).deep hF
    have hget:({s.hp with lo:=s.hp.n}:Hp).get=(tr i).H.get:=by rw [h2];rfl
    obtain ⟨goal,hgo,m0,R,q1,q2,q3⟩:∃ goal,cG (j6 T.P s.fr f) (args.map (aU s.fr))=some goal ∧
      ∃ m L,RX T tab m (gT {s.hp with lo:=s.hp.n} goal)=some L∧(false=true→∃ r,L=[r])∧∀ r ∈ L,∃ w H',r=.ret w H' ∧
       ({s.hp with lo:=s.hp.n}:Hp).n≤H'.n∧Wf H'∧(∀ k,k < ({s.hp with lo:=s.hp.n}:Hp).n→H'.get k=({s.hp with lo:=s.hp.n}:Hp).get k)∧min ({s.hp with lo:=s.hp.n}:Hp).lo ({s.hp with lo:=s.hp.n}:Hp).n≤H'.lo∧DR H'.get ((tr i).E.O (tr i).hp) v w:=by
     rcases hhand with ⟨rfl,hA⟩|⟨hz,hfree⟩
     ·have hA':=(dK hfr args).deep hA
      exact hpure ((tr i).E.O (tr i).hp) {s.hp with lo:=s.hp.n} _ _ (by rw [h2] at hrel;exact hrel.wf) (fun k hk=>by
       have:k < (tr i).H.n:=hk.elim (fun h=>hrel.ja h) (hrel.xn k)
       rw [h2] at this;exact this) (by rw [hget];exact hF') (by rw [hget];exact hA')
     ·obtain ⟨goal,hgo,m0,L,q1,q2,q3⟩:=hpure (tr i).E.X {s.hp with lo:=s.hp.n} _ _ (by rw [h2] at hrel;exact hrel.wf) (fun k hk=>by
        have:k < (tr i).H.n:=hrel.xn k hk
        rw [h2] at this;exact this) (by rw [hget];exact hF'.mono fun k b hk ho=>⟨hk,fun hx=>ho (.inr hx)⟩) (by
        rw [hget]
        rw [←h1] at hz
        exact hz.dr hrel (fun _ h=>h) (dK hfr args))
      refine ⟨goal,hgo,m0,L,q1,q2,fun r hm=>?_⟩
      obtain ⟨w,H',e1,e2,e3,e4,e5,e6⟩:=q3 r hm
      exact ⟨w,H',e1,e2,e3,e4,e5,hfree.2 _ _ _ _ e6⟩
    have hone:∀ r ∈ R,∃ w H',r=.ret w H'∧tR i s r=some [(w,({H' with lo:=s.hp.lo}:Hp),(⟨i,[],[],true,s.hp.n,H'.n⟩:Tc))] ∧
      cV T ops (⟨o,s,w,{H' with lo:=s.hp.lo},⟨i,[],[],true,s.hp.n,H'.n⟩⟩ :: evs)=true ∧
      mR (tr i).E base ⟨xb st.fr o.dst v,st.hp,st.aF,st.rd,st.fl⟩ ⟨dQ s.fr o.dst w,{H' with lo:=s.hp.lo},s.rd⟩∧Ext base (tr 0).E (tr 0).hp (tr 0).H (tr i).E st.hp {H' with lo:=s.hp.lo}:=fun r hr=>by
     obtain ⟨w,H',rfl,hn,hwf,hsame,hlo,hdr⟩:=q3 r hr
     obtain ⟨g1,g2⟩:=hrel.grow (H':={H' with lo:=s.hp.lo}) (by rw [h2];exact hn) hwf (fun k hk=>by
      have:=hsame k (by rw [←h2];exact hk)
      rw [h2];exact this) (by rw [h2];exact Nat.min_le_left _ _)
     rw [h1] at g1 g2
     have hble:Nat.ble s.hp.n H'.lo=true:=Nat.ble_eq_true_of_le (by
      have:min s.hp.n s.hp.n≤H'.lo:=hlo
      omega)
     let z:ct:=⟨(tr i).E,st.hp,{H' with lo:=s.hp.lo}⟩
     have htz:lG base st.aF (snoc tr i z) (i+1):=ht.snoc (z:=z) g1 (by rw [h1];exact g2)
     have hev:oH (snoc tr i z) (i+1) (⟨i,[],true,true⟩ :: acc) (⟨o,s,w,{H' with lo:=s.hp.lo},⟨i,[],[],true,s.hp.n,H'.n⟩⟩ :: evs) :=
      .cons (he.snoc (Nat.le_refl _)) rfl ⟨rfl,by rw [aX (Nat.le_refl _),h2],by rw [aY (Nat.lt_succ_self _)],fun h=>Bool.noConfusion h,rfl,fun k hk=>(by cases hk),fun k hk=>(by cases hk)⟩
     refine ⟨w,H',rfl,?_,?_,⟨g1,h3,fun t=>?_⟩,?_⟩
     ·show some [i7 i s w H']=_
      rw [nW hble]
     ·unfold cV
      generalize hE:((⟨o,s,w,{H' with lo:=s.hp.lo},⟨i,[],[],true,s.hp.n,H'.n⟩⟩:Ev) :: evs)=evs' at *
      cases (evs'.all fun e=>e.t.wr.isEmpty && Nat.beq e.t.a e.t.b) with
      | true=>rfl
      | false=>exact hev.pairs htz (Nat.le_refl _) hchk
     ·have hb':=(hb.put (z:=z) (v:=v) (u:=w) (Nat.le_refl _) (by
       rw [aY (Nat.lt_succ_self _)]
       refine .d ?_
       show DR H'.get ((tr i).E.O st.hp) v w
       rw [←h1];exact hdr) o.dst) t
      have:=(htz.ext _ (i+1) hb'.1 (Nat.le_refl _)).ar (htz.rel _ hb'.1).wf hb'.2
      rw [aY (Nat.lt_succ_self _)] at this
      exact this
     ·have:=htz.ext 0 (i+1) (Nat.zero_le _) (Nat.le_refl _)
      rw [aX (Nat.zero_le _),aY (Nat.lt_succ_self _)] at this
      exact this
    obtain ⟨P,hP⟩:∃ P,bu R (tR i s)=some P:=by
     obtain ⟨_,M,_,hM,_⟩:=eo (one:=false) (L:=R) (f:=fun _ r=>tR i s r) (P:=fun _=>True) (fun _ _ _ _ _ h=>h) 0 (fun h=>Bool.noConfusion h) (fun r hr=>by
      obtain ⟨w,H',_,e,_⟩:=hone r hr
      exact ⟨0,_,e,fun h=>Bool.noConfusion h,fun _ _=>trivial⟩)
     exact ⟨M,hM⟩
    have hPr:∀ p ∈ P,∃ w H',p=(w,({H' with lo:=s.hp.lo}:Hp),(⟨i,[],[],true,s.hp.n,H'.n⟩:Tc))∧fJ.ret w H' ∈ R:=fun p hp=>by
     obtain ⟨r,hr,Pr,e1,e2⟩:=fZ hP p hp
     obtain ⟨w,H',rfl,e3,_⟩:=hone r hr
     rw [e3] at e1
     cases e1
     exact ⟨w,H',List.mem_singleton.1 e2,hr⟩
    obtain ⟨m,L,hm,hL,_,hLs⟩:=eo (one:=false) (L:=P) (f:=fun m (p:Value × Hp × Tc)=>aM T (RX T tab m) ops.toList (ops.toList.drop (i+1)) ⟨dQ s.fr o.dst p.1,p.2.1,s.rd⟩)
     (P:=fun s'=>∃ E' st',K st'∧st'.fl=st.fl∧mR E' base st' s'∧jU st.fl base (tr 0).E (tr 0).hp (tr 0).H E' st'.hp s'.hp) (fun a b x M hab hx=>hH (ey hab) _ _ _ _ hx) m0 (fun h=>Bool.noConfusion h) (fun p hp=>by
      obtain ⟨w,H',rfl,hr⟩:=hPr p hp
      obtain ⟨w',H'',e0,_,_,hrel2,hext⟩:=hone _ hr
      cases e0
      obtain ⟨m2,L2,k1,k2,k3⟩:=iI h hrel2
      refine ⟨m2,L2,k1,fun h=>Bool.noConfusion h,fun s' hs'=>?_⟩
      obtain ⟨E2,st2,j1,j2,j3,j4⟩:=k3 s' hs'
      exact ⟨E2,st2,j1,j2,j3,hext.ir.trans j4⟩)
    refine ⟨m,L,?_,hLs⟩
    rw [wN]
    unfold pX
    have hdm:iA T (RX T tab m) ops o i s=some P:=by
     unfold iA
     rw [hg,cond_true]
     unfold dG
     simp only [hk,hgo,ey hm _ _ q1]
     exact hP
    simp only [ho,hdm]
    have hall:(P.all fun p=>cV T ops (⟨o,s,p.1,p.2.1,p.2.2⟩ :: evs))=true:=by
     rw [List.all_eq_true]
     intro p hp
     obtain ⟨w,H',rfl,hr⟩:=hPr p hp
     obtain ⟨w',H'',e0,_,hd,_⟩:=hone _ hr
     cases e0
     exact hd
    rw [hall]
    exact hL
   ·exact h.elim
  ·exact h.elim
theorem aB.nd {id:Nat} (c:Nat) {l:List Oper} {mu:Tmp→Bool} {st:bI} {K:Exit→bI→Prop} (hc:tS l.toArray=some c) (h:kF T tab mu l.toArray c (K .normal) (l.take c) 0 (fun _=>0) [] st):aB T tab false (.region id l.toArray true) st K:=by
 intro E base s hs
 obtain ⟨m,L,r1,r2⟩:=oV (base:=base) (tr:=fun _=>⟨E,st.hp,s.hp⟩) (evs:=[]) h ⟨fun _ _=>hs.h,fun _ _ _ _=>.refl⟩ rfl rfl hs.rd (fun t=>⟨Nat.le_refl _,hs.fr t⟩) .nil
 refine ⟨m,L.map fun s=>(.normal,s),?_,fun h1=>Bool.noConfusion h1,fun p hp=>?_⟩
 ·rw [cX]
  have:ck T (RX T tab m) l.toArray s=some L:=by
   unfold ck
   rw [hc]
   exact r1
  simp only [cond_true,this]
 ·obtain ⟨s2,hm,rfl⟩:=List.mem_map.1 hp
  obtain ⟨E2,st2,k1,k2,k3,k4⟩:=r2 s2 hm
  exact ⟨E2,st2,k1,k2,k3,k4⟩
section
variable {mu : Tmp → Bool} {ops : Array Oper} {K : bI → Prop} {c i : Nat} {bt : Nat → Nat} {acc : List ia} {fr : Nat → AV} {rd : Bool}
theorem QV {dst:Option Tmp} {op:Op} {a1 a2 a3 gd} {l:List Oper} (h:cB ops.toList gd fr (eK T tab mu dst op i bt fr hp fun fr' hp' bt' x=>kF T tab mu ops c K l (i+1) bt' (x :: acc) ⟨fr',hp',aF,rd,fl⟩)
 (gA dst fr (.tp []) fun fr'=>kF T tab mu ops c K l (i+1) (kT dst bt 0) (⟨i,[],false,false⟩ :: acc) ⟨fr',hp,aF,rd,fl⟩)):kF T tab mu ops c K (⟨dst,op,a1,a2,a3,gd⟩ :: l) i bt acc ⟨fr,hp,aF,rd,fl⟩:=h
end
end
end Go.RM
namespace Go.RM
structure Hd (h:Prop):Prop where
 x:h
theorem u1 {g h : Prop} (q : h) (k : Hd h → g := by
    intro hd
    first
    | with_reducible (first | refine RM.c1 ?_ | refine RM.c2 ?_ | refine RM.c3 ?_ | refine RM.c4 ?_ | refine RM.c6 ?_ | refine RM.c7 ?_ | refine RM.c8 ?_ | refine RM.c9 ?_ | refine RM.d1 ?_ | refine RM.d2 ?_ | refine RM.d3 ?_ | refine RM.d4 ?_ | refine RM.d7 ?_ | refine RM.d8 ?_ | refine RM.d9 ?_ | refine RM.o1 ?_ | refine RM.o2 ?_ | refine RM.o3 ?_ | refine RM.o4 ?_ | refine RM.o5 ?_ | refine RM.o6 ?_ | refine RM.o7 ?_ | refine RM.o9 ?_ | refine RM.p1 ?_ | refine RM.p2 ?_ | refine RM.p3 ?_ | refine RM.p4 ?_ | refine RM.p5 ?_ | refine RM.p6 ?_ | refine RM.p7 ?_ | refine RM.p8 ?_ | refine RM.q1 ?_ | refine RM.q2 ?_ | refine RM.Qh ?_ | refine RM.NI ?_ | refine RM.NK ?_ | refine RM.Km ?_ | refine RM.QJ ?_ | refine RM.QK ?_ | refine RM.QV ?_)
    | ((with_reducible show force _ _); first | refine RM.f1 rfl ?_ | refine RM.f2 rfl ?_ | refine RM.f3 rfl ?_ | refine RM.f4 rfl ?_ | refine RM.f5 rfl ?_ | refine RM.f6 rfl ?_ | refine RM.f7 rfl ?_ | refine RM.f8 rfl ?_ | refine RM.f9 rfl ?_ | refine RM.g1 rfl ?_ | refine RM.g2 rfl ?_)
    | ((with_reducible show RM.wpOp _ _ _ _ _ _); first
      | ((with_reducible show RM.wpOp _ _ (.load _ _) _ _ _); first | refine RM.QD rfl rfl rfl ?_ | refine RM.QC rfl rfl rfl ?_ | refine RM.Ot rfl rfl rfl rfl ?_ | refine RM.QE rfl rfl rfl rfl ?_)
      | ((with_reducible show RM.wpOp _ _ (.fieldAddr _ _ _) _ _ _); first | refine RM.QF rfl rfl rfl rfl ?_ | refine RM.QG rfl rfl rfl rfl ?_)
      | ((with_reducible show RM.wpOp _ _ (.alloc _) _ _ _); refine RM.QH rfl rfl ?_)
      | ((with_reducible show RM.wpOp _ _ (.extract _ _) _ _ _); refine RM.QN rfl rfl ?_)
      | ((with_reducible show RM.wpOp _ _ (.indexAddr _ _ _) _ _ _); first | refine RM.Qu rfl rfl rfl (by assumption) (by omega) rfl ?_ | refine RM.Qu rfl rfl rfl rfl (by omega) rfl ?_ | refine RM.QO rfl rfl rfl (by omega) ?_ | refine RM.QS rfl rfl rfl (by omega) ?_ | refine RM.QT rfl rfl rfl (by omega) ?_)
      | ((with_reducible show RM.wpOp _ _ (.makeSlice _ _ _) _ _ _); refine RM.QU rfl rfl rfl (by decide) rfl ?_)
      | ((with_reducible show RM.wpOp _ _ (.unOp _ _ _) _ _ _); refine RM.n3 rfl ?_)
      | ((with_reducible show RM.wpOp _ _ (.call _) _ _ _); first | refine RM.n4 rfl rfl ?_ | refine RM.n5 rfl rfl ?_))
    | ((with_reducible show mS _ _ _ _ (.region _ _ true) _ _); first | refine RM.QB rfl ?_ | refine RM.c5 (by kernel_rfl) rfl rfl ?_)
    | ((with_reducible show qG _ _ _ _ _ _ _ _ _ _ _ _); refine RM.o8 rfl ?_)
    | ((with_reducible show eK _ _ _ _ _ _ _ _ _ _); first | refine RM.p9 rfl ?_ | refine RM.n1 ?_)
    | ((with_reducible show cB _ _ _ _ _); first | refine sU rfl rfl rfl ?_ | refine vw rfl rfl rfl ?_ | refine zB rfl rfl ?_ | refine sU rfl rfl (by assumption) ?_ | refine vw rfl rfl (by assumption) ?_)
    | ((with_reducible show mS _ _ _ _ (.cond _ _ _) _ _); first | refine RM.e2 rfl rfl ?_ | refine RM.e3 rfl rfl ?_ | refine RM.e2 rfl (by assumption) ?_ | refine RM.e3 rfl (by assumption) ?_)
    | ((with_reducible show rL _ _ _ _ _); refine RM.k1 rfl ?_)
    | ((with_reducible show jm _ _ _ _ _); first | refine RM.k2 rfl ?_ | refine RM.k3 rfl ?_ | refine RM.k2 (by assumption) ?_ | refine RM.k3 (by assumption) ?_ | refine RM.k4 rfl rfl ?_)
    | ((with_reducible show aT _ _ _ _ _ _ _ _ _); first | refine RM.b4 rfl rfl ?_ | refine RM.b5 rfl rfl ?_ | refine RM.b6 rfl rfl ?_ | refine RM.b7 rfl rfl ?_ | refine RM.b8 rfl rfl ?_ | refine RM.b9 rfl rfl ?_ | refine RM.b1 rfl rfl (by omega) ?_ | refine RM.b2 rfl rfl (by omega) ?_ | refine RM.b3 rfl rfl (by omega) ?_ | refine RM.r1 rfl rfl (by omega) ?_ | refine RM.r2 rfl rfl (by omega) ?_)
    | ((with_reducible show qC _ _ _ _ _); first | refine RM.l1 rfl ?_ | refine RM.l2 rfl ?_)
    | ((with_reducible show qA _ _ _); first | refine RM.l3 rfl ?_ | refine RM.l4 rfl ?_)
    | ((with_reducible show jN _ _ _ _); first | refine RM.d5 rfl ?_ | refine RM.d6 rfl ?_)
    | ((with_reducible show xR _ _ _ _); first | refine RM.Cf rfl rfl rfl rfl ?_ | refine RM.QI rfl rfl rfl ?_)
    | ((with_reducible show cK _ _ _ _ _ _); refine RM.NJ rfl rfl rfl rfl rfl rfl rfl ?_)
    | ((with_reducible show mj _ _ _ _ _); refine RM.Qb rfl rfl rfl ?_)
    | ((with_reducible show cY _ _ _ _ _ _ _); first | refine RM.QL rfl rfl rfl rfl rfl rfl rfl ?_ | refine RM.QM rfl rfl rfl rfl rfl rfl ?_)
    | ((with_reducible show ax _ _ _ _ _ _ _ _); refine ah.call (by assumption) rfl rfl ?_)
    | ((with_reducible show ou _ _ = true ∧ _); refine And.intro (by kernel_rfl) ?_)
    | ((with_reducible show ∃ _, ES _ _ _ = some _ ∧ _); refine ⟨_, rfl, ?_⟩)
    | ((with_reducible show AV.deep _ = true ∧ _); refine ⟨rfl, rfl, ?_⟩)
    | ((with_reducible show ∃ _, ah _ _ _ _ _ _ ∧ _); refine ⟨_, by assumption, ?_⟩)
    exact hd.x) : g := k ⟨q⟩
theorem u2 {g h:Prop} (q:h) (k:Hd h→g:=by
 intro hd
 first
 | refine ⟨_,rfl,?_⟩
 | refine ⟨_,_,rfl,by decide,?_⟩
 | refine ⟨rfl,rfl,rfl,?_⟩
 | refine ⟨rfl,rfl,?_⟩
 | refine ⟨_,_,rfl,_,rfl,?_⟩
 | refine And.intro (Nat.le_of_ble_eq_true rfl) ?_
 | refine And.intro (by omega) ?_
 | refine ⟨_,_,rfl,rfl,_,rfl,rfl,?_⟩
 | refine And.intro (by kernel_rfl) ?_
 | refine ⟨rfl,rfl,rfl,rfl,rfl,?_⟩
 | refine ⟨_,_,rfl,rfl,rfl,rfl,Nat.le_of_ble_eq_true rfl,?_⟩
 | refine ⟨_,_,rfl,Nat.le_of_ble_eq_true rfl,?_⟩
 exact hd.x):g:=k ⟨q⟩
open Go
theorem wrap_u64 {n:Nat} (h:n < 18446744073709551616):IntKind.wrap .u64 (n:Int)=(n:Int):=by
 show ((BitVec.ofInt 64 (n:Int)).toNat:Int)=_
 rw [BitVec.ofInt_natCast,BitVec.toNat_ofNat,Nat.mod_eq_of_lt h]
theorem I5 {P:Program} {t:TypeId} {x y:Operand} {m n:Nat} (hm:m < 18446744073709551616) (hn:n < 18446744073709551616):eG P .and t x y (.int .u64 (m:Int)) (.int .u64 (n:Int))=some (.int .u64 ((m &&& n:Nat):Int),.none):=by
 have h:eG P .and t x y (.int .u64 (m:Int)) (.int .u64 (n:Int))=some (.int .u64 (IntKind.wrap .u64 ((BitVec.ofInt 64 (m:Int) &&& BitVec.ofInt 64 (n:Int)).toNat:Int)),.none):=rfl
 rw [h,BG (by omega) (by omega),wrap_u64 (Nat.lt_of_le_of_lt Nat.and_le_left hm)]
theorem KB {P:Program} {t:TypeId} {x y:Operand} {m n:Nat} (hm:m < 18446744073709551616) (hn:n < 18446744073709551616):eG P .or t x y (.int .u64 (m:Int)) (.int .u64 (n:Int))=some (.int .u64 ((m ||| n:Nat):Int),.none):=by
 have h:eG P .or t x y (.int .u64 (m:Int)) (.int .u64 (n:Int))=some (.int .u64 (IntKind.wrap .u64 ((BitVec.ofInt 64 (m:Int) ||| BitVec.ofInt 64 (n:Int)).toNat:Int)),.none):=rfl
 rw [h,Kk (by omega) (by omega),wrap_u64 (Nat.or_lt_two_pow (n:=64) hm hn)]
theorem I6 {P:Program} {t:TypeId} {x y:Operand} {j:Nat} (hj:j < 8):eG P .shl t x y (.int .u64 1) (.int .i64 (j:Int))=some (.int .u64 ((2 ^ j:Nat):Int),.none):=by
 match j,hj with
 | 0,_|1,_|2,_|3,_|4,_|5,_|6,_|7,_=>rfl
theorem I7 {P:Program} {t:TypeId} {x y:Operand} {m j:Nat} (hj:j < 8):eG P .shr t x y (.int .u64 (m:Int)) (.int .i64 (j:Int))=some (.int .u64 ((m / 2 ^ j:Nat):Int),.none):=by
 have h:eG P .shr t x y (.int .u64 (m:Int)) (.int .i64 (j:Int))=some (.int .u64 ((m:Int).fdiv (2 ^ j)),.none):=by
  match j,hj with
  | 0,_|1,_|2,_|3,_|4,_|5,_|6,_|7,_=>rfl
 rw [h,Int.fdiv_eq_ediv_of_nonneg _ (Int.pow_nonneg (by decide)),Int.natCast_ediv,Int.natCast_pow]
 rfl
theorem KC {P:Program} {t:TypeId} {x y:Operand} {m n:Int}:eG P .eql t x y (.int .u64 m) (.int .u64 n)=some (.bool (decide (m=n)),.none):=rfl
theorem I8 {P:Program} {t:TypeId} {x y:Operand} {m n:Int}:eG P .neq t x y (.int .u64 m) (.int .u64 n)=some (.bool (!decide (m=n)),.none):=rfl
theorem I9 {P:Program} {t:TypeId} {x y:Operand} {m:Nat} (h1:1≤m) (hm:m < 18446744073709551616):eG P .sub t x y (.int .u64 (m:Int)) (.int .u64 1)=some (.int .u64 ((m - 1:Nat):Int),.none):=by
 have h:eG P .sub t x y (.int .u64 (m:Int)) (.int .u64 1)=some (.int .u64 (IntKind.wrap .u64 ((m:Int) - 1)),.none):=rfl
 rw [h,show (m:Int) - 1=((m - 1:Nat):Int) by omega,wrap_u64 (by omega)]
section
variable {T : bz} {a b : AV} {t : TypeId} {x y : Operand} {hp : List AB} {K : AV → List AB → Prop}
theorem BQ {m n:Nat} (ha:a=.fl (.int .u64 (m:Int))) (hb:b=.fl (.int .u64 (n:Int))) (hm:m < 18446744073709551616) (hn:n < 18446744073709551616) (h:K (.fl (.int .u64 ((m &&& n:Nat):Int))) hp):aT T .and t x y a b hp K:=by
 subst ha hb
 exact ⟨_,_,rfl,rfl,.int .u64 ((m &&& n:Nat):Int),I5 hm hn,rfl,h⟩
theorem PM {m n:Nat} (ha:a=.fl (.int .u64 (m:Int))) (hb:b=.fl (.int .u64 (n:Int))) (hm:m < 18446744073709551616) (hn:n < 18446744073709551616) (h:K (.fl (.int .u64 ((m ||| n:Nat):Int))) hp):aT T .or t x y a b hp K:=by
 subst ha hb
 exact ⟨_,_,rfl,rfl,.int .u64 ((m ||| n:Nat):Int),KB hm hn,rfl,h⟩
theorem Mk {j:Nat} (ha:a=.fl (.int .u64 1)) (hb:b=.fl (.int .i64 (j:Int))) (hj:j < 8) (h:K (.fl (.int .u64 ((2 ^ j:Nat):Int))) hp):aT T .shl t x y a b hp K:=by
 subst ha hb
 exact ⟨_,_,rfl,rfl,.int .u64 ((2 ^ j:Nat):Int),I6 hj,rfl,h⟩
theorem D9 {m j:Nat} (ha:a=.fl (.int .u64 (m:Int))) (hb:b=.fl (.int .i64 (j:Int))) (hj:j < 8) (h:K (.fl (.int .u64 ((m / 2 ^ j:Nat):Int))) hp):aT T .shr t x y a b hp K:=by
 subst ha hb
 exact ⟨_,_,rfl,rfl,.int .u64 ((m / 2 ^ j:Nat):Int),I7 hj,rfl,h⟩
theorem KF {m n:Int} (ha:a=.fl (.int .u64 m)) (hb:b=.fl (.int .u64 n)) (h:K (.fl (.bool (decide (m=n)))) hp):aT T .eql t x y a b hp K:=by
 subst ha hb
 exact ⟨_,_,rfl,rfl,.bool (decide (m=n)),KC,rfl,h⟩
theorem Ml {m n:Int} (ha:a=.fl (.int .u64 m)) (hb:b=.fl (.int .u64 n)) (h:K (.fl (.bool (!decide (m=n)))) hp):aT T .neq t x y a b hp K:=by
 subst ha hb
 exact ⟨_,_,rfl,rfl,.bool (!decide (m=n)),I8,rfl,h⟩
theorem PN {m:Nat} (ha:a=.fl (.int .u64 (m:Int))) (hb:b=.fl (.int .u64 1)) (h1:1≤m) (hm:m < 18446744073709551616) (h:K (.fl (.int .u64 ((m - 1:Nat):Int))) hp):aT T .sub t x y a b hp K:=by
 subst ha hb
 exact ⟨_,_,rfl,rfl,.int .u64 ((m - 1:Nat):Int),I9 h1 hm,rfl,h⟩
theorem zM {m:Nat} (ha:a=.fl (.int .u64 (m:Int))) (hb:b=.fl (.int .u64 1)) (hm:m < 18446744073709551616) (h:K (.fl (.int .u64 ((m % 2:Nat):Int))) hp):aT T .and t x y a b hp K:=by
 rw [←Nat.and_one_is_mod] at h
 exact BQ (n:=1) ha hb hm (by decide) h
end
theorem Qk {T:bz} {fr:Nat→AV} {hp:List AB} {K:AV→List AB→Prop} {s x:Operand} {t u e:TypeId} {a1 a2 a3 a4 a5 a6} {els0 els:List (List AV)} {f:Bool} {inf:wz} (hs:aQ fr s=.sl els0 true) (hx:aQ fr x=.sl els f)
  (hu:T.ty.get u=some ⟨.slice e,a1,a2,a3,a4,a5,a6⟩) (hi:elem? T t=some inf) (hz:bx inf=true) (h0:∀ el ∈ els0,el.length=inf.size) (hel:∀ el ∈ els,el.length=inf.size) (h1:els.flatten.all AV.one=true) (hne:els ≠ [])
  (hb:(els0.length+els.length) * inf.bytes≤140737488355328∧els0.length+els.length≤9223372036854775807) (hd:cI els.flatten=true) (hk:K (.sl (els0++els) false) hp) :
  RM.wpOp T false (.call ⟨.builtin .append,[s,x].toArray,[t,u].toArray⟩) fr hp K:=by
 show force (aQ fr s) fun a=>force (aQ fr x) fun b=>ju T false .append [a,b] [t,u] hp K
 rw [hs,hx]
 show (match T.ty.get u with|some ⟨.slice _,_,_,_,_,_,_⟩=>kB T false t (.sl els0 true) (.sl els f) hp K|_=>False)
 rw [hu]
 show kB T false t (.sl els0 true) (.sl els f) hp K
 unfold kB
 rw [hi]
 exact ⟨hz,els,⟨hel,rfl⟩,h1,h0,hb,fun e=>absurd e hne,fun _=>⟨hd,hk⟩⟩
section
variable {T : bz} {own : Bool} {fr : Nat → AV} {hp : List AB} {K : AV → List AB → Prop} {t : TypeId} {s by' cw : Nat} {z : Option Value} {agg : Bool} {bV : List (Nat × Nat)}
theorem Qm {x hi:Operand} {cs:List AV} {o len h:Nat} {e:TypeId} {els:List (List AV)} (hx:aQ fr x=.pt cs o) (hh:aQ fr hi=.fl (.int .i64 (h:Int))) (ht:T.ty.get t=some ⟨.array len e,s,by',z,agg,bV,cw⟩)
  (hb:h≤len∧o+h * cw≤cs.length) (h1:1≤cw) (he:els.length=h∧(∀ el ∈ els,el.length=cw)∧els.flatten=(cs.drop o).take (h * cw)) (k:K (.sl els (Nat.beq h len)) hp):wpOp T own (.slice t x none (some hi) none) fr hp K:=by
 show qB T t (aQ fr x) none (some (aQ fr hi)) hp K
 rw [hx,hh]
 unfold qB
 simp only [ht]
 refine ⟨0,h,els,rfl,rfl,⟨Nat.zero_le _,hb.1,hb.2⟩,h1,?_,k⟩
 rw [Nat.zero_mul,Nat.add_zero,Nat.sub_zero]
 exact he
theorem QY {o:BinOp} {x y:Operand} {a:AV} {els:List (List AV)} {f b:Bool} (ha:a=.sl els f) (hne:els ≠ []) (ht:jy T.P t=true) (ho:gS o=some (.bool b,.none)) (k:K (.fl (.bool b)) hp):aT T o t x y a (.fl (.slice none 0 0)) hp K:=by
 subst ha
 exact ⟨hne,ht,_,ho,k⟩
end
inductive As (s st:bI):Prop
 | is (h:ai s st)
 | no (h:False)
theorem As.aJ {s st:bI}:As s st→ai s st
 | .is h=>h
 | .no h=>h.elim
theorem cutAt {T:bz} {tab:List XE} {one:Bool} {a b:Code} {st st':bI} {K:Exit→bI→Prop} (h1:aB T tab one a st (vp (fun s=>As s st') K)) (h2:aB T tab one b st' K):aB T tab one (.seq a b) st K :=
 .seq (h1.mono fun e s h=>by cases e <;> first|exact .aJ h.aJ h2|exact h)
theorem Jr {P:Program} {t:TypeId} {x y:Operand} {m j:Nat} (hj:j=1∨j=2∨j=4∨j=8∨j=16∨j=32):eG P .shr t x y (.int .u64 (m:Int)) (.int .u64 (j:Int))=some (.int .u64 ((m / 2 ^ j:Nat):Int),.none):=by
 have h:eG P .shr t x y (.int .u64 (m:Int)) (.int .u64 (j:Int))=some (.int .u64 ((m:Int).fdiv (2 ^ j)),.none):=by
  rcases hj with rfl|rfl|rfl|rfl|rfl|rfl <;> rfl
 rw [h,Int.fdiv_eq_ediv_of_nonneg _ (Int.pow_nonneg (by decide)),Int.natCast_ediv,Int.natCast_pow]
 rfl
theorem Js {P:Program} {t:TypeId} {x y:Operand} {m n:Nat} (hm:m+n < 18446744073709551616):eG P .add t x y (.int .u64 (m:Int)) (.int .u64 (n:Int))=some (.int .u64 ((m+n:Nat):Int),.none):=by
 have h:eG P .add t x y (.int .u64 (m:Int)) (.int .u64 (n:Int))=some (.int .u64 (IntKind.wrap .u64 ((m:Int)+(n:Int))),.none):=rfl
 rw [h,show (m:Int)+(n:Int)=((m+n:Nat):Int) by omega,wrap_u64 hm]
theorem Jt {P:Program} {t:TypeId} {x y:Operand} {m n:Nat} (hm:m < 4611686018427387904) (hn:n < 4611686018427387904):eG P .and t x y (.int .i64 (m:Int)) (.int .i64 (n:Int))=some (.int .i64 ((m &&& n:Nat):Int),.none):=by
 have h:eG P .and t x y (.int .i64 (m:Int)) (.int .i64 (n:Int))=some (.int .i64 (IntKind.wrap .i64 ((BitVec.ofInt 64 (m:Int) &&& BitVec.ofInt 64 (n:Int)).toNat:Int)),.none):=rfl
 have hle:m &&& n≤m:=Nat.and_le_left
 rw [h,BG (by omega) (by omega),wrap_i64 (by omega) (by omega)]
section
variable {T : bz} {a b : AV} {t : TypeId} {x y : Operand} {hp : List AB} {K : AV → List AB → Prop}
theorem ye {m j:Nat} (ha:a=.fl (.int .u64 (m:Int))) (hb:b=.fl (.int .u64 (j:Int))) (hj:j=1∨j=2∨j=4∨j=8∨j=16∨j=32) (h:K (.fl (.int .u64 ((m / 2 ^ j:Nat):Int))) hp):aT T .shr t x y a b hp K:=by
 subst ha hb
 exact ⟨_,_,rfl,rfl,.int .u64 ((m / 2 ^ j:Nat):Int),Jr hj,rfl,h⟩
theorem El {m n:Nat} (ha:a=.fl (.int .u64 (m:Int))) (hb:b=.fl (.int .u64 (n:Int))) (hm:m+n < 18446744073709551616) (h:K (.fl (.int .u64 ((m+n:Nat):Int))) hp):aT T .add t x y a b hp K:=by
 subst ha hb
 exact ⟨_,_,rfl,rfl,.int .u64 ((m+n:Nat):Int),Js hm,rfl,h⟩
theorem PV {m n:Nat} (ha:a=.fl (.int .i64 (m:Int))) (hb:b=.fl (.int .i64 (n:Int))) (hm:m < 4611686018427387904) (hn:n < 4611686018427387904) (h:K (.fl (.int .i64 ((m &&& n:Nat):Int))) hp):aT T .and t x y a b hp K:=by
 subst ha hb
 exact ⟨.int .i64 ((m &&& n:Nat):Int),Jt hm hn,rfl,h⟩
end
section
variable {T : bz} {tab : List XE} {one : Bool} {base : Nat} {E : Env} {hp : List AB} {aF : bJ} {H : Hp} {ρ : Nat → Nat → Option Nat} {g : aD} {O O' : Nat → Prop}
inductive MB (a b:Nat):AB→AB→Prop
 | same {z:AB}:z.kE a=true→z.kE b=true→MB a b z z
 | cells {cs cs':List AV} {es aC:Nat}:cs.length=cs'.length→(∀ (i:Nat) (v w:AV),cs[i]?=some v→cs'[i]?=some w→Mv a b v w)→MB a b (.cells cs es aC) (.cells cs' es aC)
theorem MB.empty {a b v:Nat} {z z':AB} (h:MB a b z z') (hz:∃ es,z=.cells [] es v):∃ es,z'=.cells [] es v:=by
 cases h with
 | same _ _=>exact hz
 | cells hl _ =>
  obtain ⟨es,he⟩:=hz
  cases he
  exact ⟨_,by rw [List.length_eq_zero_iff.1 hl.symm]⟩
theorem MB.aC {a b:Nat} {z z':AB} (h:MB a b z z'):z.ver?=z'.ver?:=by cases h <;> rfl
theorem ai.PZ {st:bI} {l:List (Nat × AV)} (a b:Nat) {x y:AB} {hp:List AB} (hab:a ≠ b) (hja:st.hp[a]?=some y) (hjb:st.hp[b]?=some x) (hn:st.fl≤a) (hn2:st.fl≤b) (hs:zD a b st.fr l)
  (hl:hp.length=st.hp.length) (hA:∀ z,hp[a]?=some z→MB a b x z) (hB:hp[b]?=some .gone)
  (hO:∀ (i:Nat) (z z':AB),i ≠ a→i ≠ b→st.hp[i]?=some z→hp[i]?=some z'→MB a b z z') :
  ai st ⟨aS l,hp,st.aF,st.rd,st.fl⟩:=by
 have hla:a < st.hp.length:=(List.getElem?_eq_some_iff.1 hja).1
 have hlb:b < st.hp.length:=(List.getElem?_eq_some_iff.1 hjb).1
 refine ⟨rfl,fun E base s hs'=>?_⟩
 have hr:=hs'.h
 have hget:∀ (i:Nat) (z:AB) (aC:Nat),hp[i]?=some z→z.ver?=some aC→(i=a∧MB a b x z)∨(i ≠ a∧i ≠ b∧∃ z0,st.hp[i]?=some z0∧MB a b z0 z):=by
  intro i z aC hi hv
  by_cases hib:i=b
  ·subst hib
   rw [hB] at hi
   cases hi;cases hv
  ·by_cases hia:i=a
   ·subst hia
    exact .inl ⟨rfl,hA z hi⟩
   ·have hlt:i < st.hp.length:=by
     have:=(List.getElem?_eq_some_iff.1 hi).1
     omega
    exact .inr ⟨hia,hib,_,List.getElem?_eq_getElem hlt,hO i _ z hia hib (List.getElem?_eq_getElem hlt) hi⟩
 have hma:∀ {v:Nat},aP a b E.ρ a v=E.ρ b v:=fun {v}=>by unfold aP;rw [if_pos rfl]
 have hmo:∀ {i v:Nat},i ≠ a→i ≠ b→aP a b E.ρ i v=E.ρ i v:=fun {i v} h1 h2=>by unfold aP;rw [if_neg h1,if_neg h2]
 have hmi:∀ {i v k:Nat},aP a b E.ρ i v=some k→(i=a∧E.ρ b v=some k)∨(i ≠ a∧i ≠ b∧E.ρ i v=some k):=by
  intro i v k h
  unfold aP at h
  split at h
  ·rename_i h1;exact .inl ⟨h1,h⟩
  ·split at h
   ·cases h
   ·rename_i h1 h2;exact .inr ⟨h1,h2,h⟩
 have hown:∀ k,Own (aP a b E.ρ) hp k→Own E.ρ st.hp k:=by
  rintro k ⟨i,z,v,h1,h2,h3⟩
  rcases hget i z v h1 h2 with ⟨rfl,hm⟩|⟨n1,n2,z0,h4,hm⟩
  ·rw [hma] at h3;exact ⟨b,_,v,hjb,hm.aC.trans h2,h3⟩
  ·rw [hmo n1 n2] at h3;exact ⟨i,z0,v,h4,hm.aC.trans h2,h3⟩
 have hOs:∀ k,({E with ρ:=aP a b E.ρ}:Env).O hp k→E.O st.hp k:=fun k h=>h.imp (hown k) id
 have hmv:∀ {v w:AV} {u:Value},Mv a b v w→AR E.ρ s.hp.get (E.O st.hp) v u→AR (aP a b E.ρ) s.hp.get (({E with ρ:=aP a b E.ρ}:Env).O hp) w u:=by
  intro v w u hm h
  cases hm with
  | same n1 n2=>exact h.move hOs n1 n2
  | ptr =>
   obtain ⟨k,hk,rfl⟩:=h.cJ
   exact .ptr (by rw [hma];exact hk)
  | bU =>
   rcases h.eP with ⟨k,hk,rfl⟩|⟨rfl,rfl,rfl⟩
   ·exact .bU (by rw [hma];exact hk)
   ·exact .pG
  | bN=>exact .bN
 have hbr:∀ (z:AB) (z':aR),z.kE a=true→z.kE b=true→BR E.ρ s.hp.get (E.O st.hp) z z'→BR (aP a b E.ρ) s.hp.get (({E with ρ:=aP a b E.ρ}:Env).O hp) z z':=by
  intro z z' n1 n2 q3
  cases z with
  | cells cs2 es2 ver2 =>
   obtain ⟨cs',rfl,h⟩:=q3
   exact ⟨cs',rfl,h.1,fun i v u ha hu=>(h.2 i v u ha hu).move hOs (cF n1 i v ha) (cF n2 i v ha)⟩
  | dh p q=>exact q3
  | map ents clock =>
   obtain ⟨es,rfl,h1,h2⟩:=q3
   refine ⟨es,rfl,h1,fun i k v born e hx hy=>?_⟩
   simp only [AB.kE,List.all_eq_true,Bool.and_eq_true] at n1 n2
   have m1:=n1 _ (List.mem_of_getElem? hx)
   have m2:=n2 _ (List.mem_of_getElem? hx)
   exact ⟨(h2 i k v born e hx hy).1.move hOs m1.1 m2.1,(h2 i k v born e hx hy).2.1.move hOs m1.2 m2.2,(h2 i k v born e hx hy).2.2⟩
  | iter i2 since seen stepped =>
   obtain ⟨m,rfl,h⟩:=q3
   exact ⟨m,rfl,by show aP a b E.ρ i2 0=_;rw [hmo (eT n1) (eT n2)];exact h⟩
  | gone=>exact q3
 have hmb:∀ (z w:AB) (z':aR),MB a b z w→BR E.ρ s.hp.get (E.O st.hp) z z'→BR (aP a b E.ρ) s.hp.get (({E with ρ:=aP a b E.ρ}:Env).O hp) w z':=by
  intro z w z' hm q3
  cases hm with
  | same n1 n2=>exact hbr z z' n1 n2 q3
  | cells hcl hcm =>
   obtain ⟨cs',rfl,h⟩:=q3
   refine ⟨cs',rfl,hcl ▸ h.1,fun i v u ha hu=>?_⟩
   have hlt:=(List.getElem?_eq_some_iff.1 ha).1
   exact hmv (hcm i _ v (List.getElem?_eq_getElem (by omega)) ha) (h.2 i _ u (List.getElem?_eq_getElem (by omega)) hu)
 refine ⟨{E with ρ:=aP a b E.ρ},⟨⟨hr.wf,fun i z v hi hv=>?_,fun i i' v v' k h1 h2=>?_,fun i v k hk=>?_,fun i z v w h1 h2 h3=>?_,fun i v hi=>?_,fun k hk=>hr.sup k (hown k hk),fun k hk=>hr.iV k (hown k hk),hr.dx,hr.ds,hr.sn,hr.xn,fun k hk=>hr.pH k (hk.imp (hown k) id),hr.bn,hr.aF⟩,hs'.rd,fun t=>hmv (zE hs t) (hs'.fr t)⟩,
  ⟨Nat.le_refl _,fun i v k hi hk=>?_,fun k hk=>.inl (hown k hk),fun _ h=>.inl h,fun _ h=>.inl h,fun _ h=>h,fun _ h=>.inl h,fun _ _ _ _=>rfl,Nat.min_le_left _ _⟩⟩
 ·rcases hget i z v hi hv with ⟨rfl,hm⟩|⟨n1,n2,z0,h4,hm⟩
  ·rcases hr.fM b _ v hjb (hm.aC.trans hv) with ⟨k,b',q1,q2,q3⟩|⟨q1,q2⟩
   ·exact .inl ⟨k,b',by show aP _ b E.ρ _ v=_;rw [hma];exact q1,q2,hmb _ _ _ hm q3⟩
   ·exact .inr ⟨by show aP _ b E.ρ _ v=_;rw [hma];exact q1,hm.empty q2⟩
  ·rcases hr.fM i z0 v h4 (hm.aC.trans hv) with ⟨k,b',q1,q2,q3⟩|⟨q1,q2⟩
   ·exact .inl ⟨k,b',by show aP a b E.ρ i v=_;rw [hmo n1 n2];exact q1,q2,hmb _ _ _ hm q3⟩
   ·exact .inr ⟨by show aP a b E.ρ i v=_;rw [hmo n1 n2];exact q1,hm.empty q2⟩
 ·rcases hmi h1 with ⟨e1,p1⟩|⟨n1,n2,p1⟩
  ·rcases hmi h2 with ⟨e2,p2⟩|⟨m1,m2,p2⟩
   ·rw [e1,e2]
   ·exact absurd (hr.inj b i' v v' k p1 p2).symm m2
  ·rcases hmi h2 with ⟨e2,p2⟩|⟨m1,m2,p2⟩
   ·exact absurd (hr.inj i b v v' k p1 p2) n2
   ·exact hr.inj i i' v v' k p1 p2
 ·rcases hmi hk with ⟨rfl,h⟩|⟨_,_,h⟩
  ·exact hr.rn b v k h
  ·exact hr.rn i v k h
 ·rcases hget i z v h1 h2 with ⟨rfl,hm⟩|⟨n1,n2,z0,h4,hm⟩
  ·show aP _ b E.ρ _ w=none
   rw [hma];exact hr.fresh b _ v w hjb (hm.aC.trans h2) h3
  ·show aP a b E.ρ i w=none
   rw [hmo n1 n2];exact hr.fresh i z0 v w h4 (hm.aC.trans h2) h3
 ·show aP a b E.ρ i v=none
  have hi:st.hp.length≤i:=by rw [←hl];exact hi
  rw [hmo (by omega) (by omega)]
  exact hr.new i v hi
 ·show aP a b E.ρ i v=some k
  rw [hmo (by omega) (by omega)];exact hk
end
section
variable {T : bz} {tab : List XE} {one : Bool} {fl base : Nat} {E E' E2 : Env} {hp hp' hp2 : List AB} {aF amb' : bJ} {H H' H2 : Hp} {ρ ρ2 : Nat → Nat → Option Nat} {g g2 : aD} {O O2 : Nat → Prop}
structure vS (tr:Nat→ct) (x:ia) (t:Tc):Prop where
 ev:IB tr x t
 Qa:∀ k ∈ t.rd,∃ p ∈ x.acc,p.wr=false∧dz tr x.i p k∧(p.own.isSome=true→Own (tr x.i).E.ρ (tr x.i).hp k)
 keep:x.call=true→(tr (x.i+1)).E=(tr x.i).E∧(tr (x.i+1)).hp=(tr x.i).hp
theorem vS.snoc {tr:Nat→ct} {i:Nat} {z:ct} {x:ia} {t:Tc} (h:vS tr x t) (hi:x.i < i):vS (snoc tr i z) x t :=
 ⟨h.ev.snoc hi,fun k hk=>by
  obtain ⟨p,a,b,c,d⟩:=h.Qa k hk
  exact ⟨p,a,b,c.snoc (by omega),fun ho=>by rw [aX (by omega)];exact d ho⟩,
  fun hc=>by rw [aX (by omega),aX (by omega)];exact h.keep hc⟩
theorem dz.Em {tr:Nat→ct} {i:Nat} {p:Acc} {k:Nat} (h:dz tr i p k) (ho:p.own.isSome=true) (hw:p.wr=true):Own (tr i).E.ρ (tr i).hp k:=by
 obtain ⟨_,_,h3⟩:=h
 cases hp:p.own with
 | none=>rw [hp] at ho;cases ho
 | some j =>
  rw [hp] at h3
  obtain ⟨_,_,h4⟩:=h3
  exact h4 hw
def N8 (o:Op):Bool :=
 match o with
 | .lookup ..=>false
 | .call ⟨.builtin .append,_,_⟩=>false
 | .call ⟨.builtin .len,_,_⟩=>false
 | _=>true
theorem KQ {tr:Nat→ct} {i:Nat} (ht:lG base aF tr i) {bt:Nat→Nat} {fr:Nat→AV} {tm:Tr Value} (hb:fU tr i bt fr tm) {own:Bool} {o:Op} (hro:N8 o=true) {l:List Acc} (h:ES o fr (rT bt)=some l)
  {K:AV→List AB→Prop} (hw:wpOp T own o fr (tr i).hp K) {r w:List Nat} (hto:k9 o (aU tm)=some (r,w)):∀ k ∈ r,∃ p ∈ l,p.wr=false∧dz tr i p k∧(p.own.isSome=true→Own (tr i).E.ρ (tr i).hp k):=by
 intro k hk
 obtain ⟨r',w',e1,e2,_⟩:=tE ht hb h hw
 rw [hto] at e1
 simp only [Option.some.injEq,Prod.mk.injEq] at e1
 obtain ⟨rfl,rfl⟩:=e1
 by_cases hl:∃ t a,o=.load t a
 ·obtain ⟨t,a,rfl⟩:=hl
  have now:(tr i).ar (aQ fr a) (aU tm a):=(ht.ext _ i (hb.eval a).1 (Nat.le_refl _)).ar (ht.rel _ (hb.eval a).1).wf (hb.eval a).2
  obtain ⟨p,p1,p2,p3⟩:=e2 k hk
  refine ⟨p,p1,p2,p3,fun ho=>?_⟩
  have hw:ej T t (aQ fr a) (tr i).hp K:=hw
  have h:rS (aQ fr a) (rT bt a) false=some l:=h
  have hk:k ∈ bZ (aU tm a):=by
   simp only [k9,Option.some.injEq,Prod.mk.injEq] at hto
   rw [hto.1];exact hk
  cases hv:aQ fr a with
  | ptr j aC o =>
   rw [hv] at now hw
   obtain ⟨k',q1,q2⟩:=now.cJ
   rw [q2] at hk
   obtain rfl:k=k':=by simpa [bZ] using hk
   unfold ej at hw
   split at hw
   ·rename_i e _
    cases e
   ·rename_i e _
    cases e
    obtain ⟨cs,es,h1,_⟩:=hw
    exact ⟨j,_,aC,h1,rfl,q1⟩
   ·exact hw.elim
  | pt =>
   rw [hv] at h
   simp only [rS,Option.some.injEq] at h
   subst h
   obtain rfl:=List.mem_singleton.1 p1
   cases ho
  | _ =>
   rw [hv] at hw
   unfold ej at hw
   split at hw
   ·rename_i e _
    cases e
   ·rename_i e _
    cases e
   ·exact hw.elim
 ·exfalso
  revert hto hk
  unfold k9
  split
  ·rename_i t a
   exact absurd ⟨t,a,rfl⟩ hl
  ·intro h hk;cases h;cases hk
  ·cases hro
  ·intro h hk;cases h;cases hk
  ·intro h hk;cases h;cases hk
  ·intro h hk;cases h;cases hk
  ·intro h _;cases h
  ·intro h _;cases h
  ·intro h _;cases h
  ·cases hro
  ·cases hro
  ·intro h _;cases h
  ·intro h hk;cases h;cases hk
def tI (x y:ia):Bool :=
 x.acc.all (fun p=>y.acc.all (oe x.i p)) && ((!x.al && !x.call) || y.acc.all (fun q=>Nat.ble q.b x.i || (x.call && q.own.isSome))) && (!x.call || y.acc.all (fun q=>!q.wr)) && (!y.call || x.acc.all (fun p=>!p.wr))
def KR (b:List Nat):List ia→Bool
 | []=>true
 | y :: l=>l.all (fun x=>(b.getD y.i 0).testBit x.i || tI x y) && KR b l
theorem Dm {tr:Nat→ct} {n:Nat} (ht:lG base aF tr n) {x y:ia} {s t:Tc} (hs:vS tr x s) (hy:vS tr y t) (hxy:x.i < y.i) (hn:y.i≤n) (hf:tI x y=true):conflict s t=false:=by
 cases hc:conflict s t with
 | false=>rfl
 | true =>
  exfalso
  unfold tI at hf
  simp only [Bool.and_eq_true,List.all_eq_true,Bool.or_eq_true,Bool.not_eq_true'] at hf
  obtain ⟨⟨⟨f1,f2⟩,f3⟩,f4⟩:=hf
  have two:∀ {k:Nat} {p q:Acc},p ∈ x.acc→q ∈ y.acc→dz tr x.i p k→dz tr y.i q k→(p.wr=true∨q.wr=true)→False:=fun hp hq ap aq hw=>pL ht hxy hn ap aq hw (f1 _ hp _ hq)
  have inn:∀ {k:Nat} {q:Acc},q ∈ y.acc→dz tr y.i q k→(q.own.isSome=true→Own (tr y.i).E.ρ (tr y.i).hp k)→s.a≤k→k < s.b→False:=by
   intro k q hq aq lq h1 h2
   rcases f2 with h|h
   ·have:=hs.ev.al h.1 h.2;omega
   ·rcases h q hq with h|⟨hcl,hos⟩
    ·have:=Nat.le_of_ble_eq_true h
     have:=(ht.ext q.b x.i this (by omega)).n
     have:=aq.2.1
     rw [hs.ev.a] at h1
     omega
    ·have hk:=hs.keep hcl
     rw [hs.ev.b] at h2
     rw [hs.ev.a] at h1
     rcases (ht.ext (x.i+1) y.i (by omega) hn).own k (lq hos) with h|h
     ·rw [hk.1,hk.2] at h
      have:=(ht.rel x.i (by omega)).ja h
      omega
     ·omega
  have out:∀ {k:Nat} {p:Acc},dz tr x.i p k→t.a≤k→False:=by
   intro k p ap h1
   have:=(ht.ext p.b x.i ap.1 (by omega)).n
   have:=(ht.ext x.i y.i (by omega) hn).n
   have:=ap.2.1
   rw [hy.ev.a] at h1
   omega
  unfold conflict at hc
  simp only [Bool.or_eq_true,Bool.and_eq_true,Bool.not_eq_true'] at hc
  rcases hc with (((((((hc|hc)|hc)|hc)|hc)|hc)|hc)|hc)|hc
  ·obtain ⟨k,k1,k2⟩:=ee.1 hc
   obtain ⟨p,p1,p2,p3⟩:=hs.ev.wr k k1
   obtain ⟨q,q1,q2,q3⟩:=hy.ev.rd k k2
   exact two p1 q1 p3 q3 (.inl p2)
  ·obtain ⟨k,k1,k2⟩:=ee.1 hc
   obtain ⟨p,p1,p2,p3⟩:=hs.ev.wr k k1
   obtain ⟨q,q1,q2,q3⟩:=hy.ev.wr k k2
   exact two p1 q1 p3 q3 (.inl p2)
  ·obtain ⟨k,k1,k2⟩:=ee.1 hc
   obtain ⟨q,q1,q2,q3⟩:=hy.ev.wr k k1
   obtain ⟨p,p1,p2,p3⟩:=hs.ev.rd k k2
   exact two p1 q1 p3 q3 (.inr q2)
  ·rw [hs.ev.call] at hc
   cases hw:t.wr with
   | nil=>rw [hw] at hc;simp at hc
   | cons k l =>
    obtain ⟨q,q1,q2,q3⟩:=hy.ev.wr k (by rw [hw];simp)
    rcases f3 with h|h
    ·rw [hc.1] at h;cases h
    ·rw [h q q1] at q2;cases q2
  ·rw [hy.ev.call] at hc
   cases hw:s.wr with
   | nil=>rw [hw] at hc;simp at hc
   | cons k l =>
    obtain ⟨p,p1,p2,p3⟩:=hs.ev.wr k (by rw [hw];simp)
    rcases f4 with h|h
    ·rw [hc.1] at h;cases h
    ·rw [h p p1] at p2;cases p2
  ·obtain ⟨k,k1,k2,k3⟩:=within_iff.1 hc
   obtain ⟨q,q1,q2,q3,q4⟩:=hy.Qa k k1
   exact inn q1 q3 q4 k2 k3
  ·obtain ⟨k,k1,k2,k3⟩:=within_iff.1 hc
   obtain ⟨q,q1,q2,q3⟩:=hy.ev.wr k k1
   exact inn q1 q3 (fun ho=>q3.Em ho q2) k2 k3
  ·obtain ⟨k,k1,k2,k3⟩:=within_iff.1 hc
   obtain ⟨p,p1,p2,p3⟩:=hs.ev.rd k k1
   exact out p3 k2
  ·obtain ⟨k,k1,k2,k3⟩:=within_iff.1 hc
   obtain ⟨p,p1,p2,p3⟩:=hs.ev.wr k k1
   exact out p3 k2
inductive mQ (tr:Nat→ct):Nat→List ia→List Ev→Prop
 | nil:mQ tr 0 [] []
 | cons {i:Nat} {x:ia} {ev:Ev} {l:List ia} {m:List Ev}:mQ tr i l m→x.i=i→vS tr x ev.t→mQ tr (i+1) (x :: l) (ev :: m)
theorem mQ.lt {tr:Nat→ct} {i:Nat} {l:List ia} {m:List Ev} (h:mQ tr i l m):∀ x ∈ l,x.i < i:=by
 induction h with
 | nil=>intro x hx;cases hx
 | cons _ hi _ ih =>
  intro y hy
  rcases List.mem_cons.1 hy with rfl|hy
  ·omega
  ·have:=ih y hy;omega
theorem mQ.snoc {tr:Nat→ct} {i:Nat} {z:ct} {l:List ia} {m:List Ev}:∀ {j:Nat},mQ tr j l m→j≤i→mQ (snoc tr i z) j l m:=by
 intro j h
 induction h with
 | nil=>intro _;exact .nil
 | cons _ hi he ih=>intro hj;exact .cons (ih (by omega)) hi (he.snoc (by omega))
theorem mQ.pairs {tr:Nat→ct} {n:Nat} (ht:lG base aF tr n) {b:List Nat} {i:Nat} {l:List ia} {m:List Ev} (h:mQ tr i l m):i≤n→KR b l=true→cU T b m=true:=by
 induction h with
 | nil=>intro _ _;rfl
 | cons hl hi he ih =>
  rename_i i y ev l m
  intro hn hc
  simp only [KR,Bool.and_eq_true,List.all_eq_true] at hc
  simp only [cU,Bool.and_eq_true,List.all_eq_true]
  refine ⟨?_,ih (by omega) hc.2⟩
  have hc1:=hc.1
  clear ih hc
  have key:∀ {j:Nat} {l:List ia} {m:List Ev},mQ tr j l m→(∀ x ∈ l,(b.getD y.i 0).testBit x.i=true∨tI x y=true)→j≤y.i→∀ s ∈ m,(!conflict s.t ev.t || (b.getD ev.t.idx 0).testBit s.t.idx || spare T s ev)=true:=by
   intro j l m h
   induction h with
   | nil=>intro _ _ s hs;cases hs
   | cons hl' hi' he' ih' =>
    rename_i x ev' _ _
    intro hx hj s hs
    rcases List.mem_cons.1 hs with rfl|hs
    ·rcases hx x (by simp) with h|h
     ·rw [he.ev.idx,he'.ev.idx,h];simp
     ·rw [Dm ht he' he (by omega) (by omega) h];simp
    ·exact ih' (fun z hz=>hx z (List.mem_cons_of_mem _ hz)) (by omega) s hs
  exact key hl (fun x hx=>by simpa using hc1 x hx) (by omega)
def iy (T:bz) (tab:List XE) (mu:Tmp→Bool) (ops:Array Oper):List Oper→Nat→(Nat→Nat)→List ia→bI→(bI→Prop)→Prop
 | [],_,_,acc,st,K=>KR (s5 ops) acc=true∧K st
 | ⟨dst,op,_,_,_,gd⟩ :: l,i,bt,acc,⟨fr,hp,aF,rd,fl⟩,K =>
  cB ops.toList gd fr (eK T tab mu dst op i bt fr hp fun fr' hp' bt' x=>iy T tab mu ops l (i+1) bt' (x :: acc) ⟨fr',hp',aF,rd,fl⟩ K)
   (gA dst fr (.tp []) fun fr'=>iy T tab mu ops l (i+1) (kT dst bt 0) (⟨i,[],false,false⟩ :: acc) ⟨fr',hp,aF,rd,fl⟩ K)
theorem kV {mu:Tmp→Bool} {ops:Array Oper}:∀ {l:List Oper} {i:Nat} {bt:Nat→Nat} {acc:List ia} {evs:List Ev} {st:bI} {K:bI→Prop} {tr:Nat→ct} {s:St},(l.all fun o=>N8 o.op)=true→iy T tab mu ops l i bt acc st K →
  lG base st.aF tr i→(tr i).hp=st.hp→(tr i).H=s.hp→s.rd=st.rd→fU tr i bt st.fr s.fr→mQ tr i acc evs →
  ∃ m s',bW T (RX T tab m) ops l i s evs=some [s']∧∃ E' st',K st'∧st'.fl=st.fl∧mR E' base st' s'∧Ext base (tr 0).E (tr 0).hp (tr 0).H E' st'.hp s'.hp
 | [],i,bt,acc,evs,st,K,tr,s,_,h,ht,h1,h2,h3,hb,he=>by
  obtain ⟨hc,hk⟩:=h
  have hrel:=ht.rel i (Nat.le_refl _)
  have hok:cV T ops evs=true:=by
   unfold cV
   cases hq:(evs.all fun e=>e.t.wr.isEmpty && Nat.beq e.t.a e.t.b) with
   | true=>rfl
   | false=>exact he.pairs ht (Nat.le_refl _) hc
  refine ⟨0,s,by rw [eD,hok];rfl,(tr i).E,st,hk,rfl,⟨by rw [←h1,←h2];exact hrel,h3,fun t=>?_⟩,by rw [←h1,←h2];exact ht.ext 0 i (Nat.zero_le _) (Nat.le_refl _)⟩
  have:=(ht.ext _ i (hb t).1 (Nat.le_refl _)).ar (ht.rel _ (hb t).1).wf (hb t).2
  rw [←h1,←h2]
  exact this
 | o :: l,i,bt,acc,evs,st,K,tr,s,hro,h,ht,h1,h2,h3,hb,he=>by
  have h:cB ops.toList o.guard st.fr (eK T tab mu o.dst o.op i bt st.fr st.hp fun fr' hp' bt' x=>iy T tab mu ops l (i+1) bt' (x :: acc) ⟨fr',hp',st.aF,st.rd,st.fl⟩ K)
   (gA o.dst st.fr (.tp []) fun fr'=>iy T tab mu ops l (i+1) (kT o.dst bt 0) (⟨i,[],false,false⟩ :: acc) ⟨fr',st.hp,st.aF,st.rd,st.fl⟩ K):=h
  rw [List.all_cons,Bool.and_eq_true] at hro
  obtain ⟨hro1,hro2⟩:=hro
  have hrel:=ht.rel i (Nat.le_refl _)
  have hfr:jV (tr i).E.ρ (tr i).H.get ((tr i).E.O (tr i).hp) st.fr s.fr:=fun t=>(ht.ext _ i (hb t).1 (Nat.le_refl _)).ar (ht.rel _ (hb t).1).wf (hb t).2
  have hz0:(snoc tr i (tr i) 0)=tr 0:=aX (Nat.zero_le _)
  rcases ny hfr h with ⟨hg,h⟩|⟨hg,h⟩
  ·
   have go:∀ (z:ct) (v:AV) (u:Value) (b:Nat) (x:ia) (t:Tc) (m0:Nat),aL z.E base z.hp st.aF z.H→Ext base (tr i).E (tr i).hp (tr i).H z.E z.hp z.H→b≤i+1→(snoc tr i z b).ar v u→x.i=i→vS (snoc tr i z) x t →
     (∀ m,m0≤m→bf T (RX T tab m) o.op i s=some (u,z.H,t))→iy T tab mu ops l (i+1) (kT o.dst bt b) (x :: acc) ⟨xb st.fr o.dst v,z.hp,st.aF,st.rd,st.fl⟩ K →
     ∃ m s',bW T (RX T tab m) ops (o :: l) i s evs=some [s']∧∃ E' st',K st'∧st'.fl=st.fl∧mR E' base st' s'∧Ext base (tr 0).E (tr 0).hp (tr 0).H E' st'.hp s'.hp:=by
    intro z v u b x t m0 hz he' hbi hv hxi hx hd hw
    obtain ⟨m,s',r1,r2⟩:=kV (s:=⟨dQ s.fr o.dst u,z.H,s.rd⟩) (evs:=⟨o,s,u,z.H,t⟩ :: evs) hro2 hw (ht.snoc hz he') (by rw [aY (Nat.lt_succ_self _)]) (by rw [aY (Nat.lt_succ_self _)]) h3 (hb.put hbi hv o.dst) (.cons (he.snoc (Nat.le_refl _)) hxi hx)
    rw [aX (Nat.zero_le _)] at r2
    refine ⟨max m0 m,s',?_,r2⟩
    rw [bH,hg]
    simp only [cond_true,hd _ (Nat.le_max_left _ _)]
    exact iH (ey (Nat.le_max_right _ _)) _ _ _ _ _ _ r1
   unfold eK at h
   split at h
   ·rename_i f args hk
    have h:=ek (bO h)
    obtain ⟨hF,vs,v,hhand,⟨hvd,hpure⟩,h⟩:=h
    have hF':=(vo hfr f).deep hF
    have hget:({s.hp with lo:=s.hp.n}:Hp).get=(tr i).H.get:=by rw [h2];rfl
    obtain ⟨goal,hgo,m0,L,q1,q2,q3⟩:∃ goal,cG (j6 T.P s.fr f) (args.map (aU s.fr))=some goal ∧
      ∃ m L,RX T tab m (gT {s.hp with lo:=s.hp.n} goal)=some L∧(true=true→∃ r,L=[r])∧∀ r ∈ L,∃ w H',r=.ret w H' ∧
       ({s.hp with lo:=s.hp.n}:Hp).n≤H'.n∧Wf H'∧(∀ k,k < ({s.hp with lo:=s.hp.n}:Hp).n→H'.get k=({s.hp with lo:=s.hp.n}:Hp).get k)∧min ({s.hp with lo:=s.hp.n}:Hp).lo ({s.hp with lo:=s.hp.n}:Hp).n≤H'.lo∧DR H'.get ((tr i).E.O (tr i).hp) v w:=by
     rcases hhand with ⟨rfl,hA⟩|⟨hz,hfree⟩
     ·have hA':=(dK hfr args).deep hA
      exact hpure ((tr i).E.O (tr i).hp) {s.hp with lo:=s.hp.n} _ _ (by rw [h2] at hrel;exact hrel.wf) (fun k hk=>by
       have:k < (tr i).H.n:=hk.elim (fun h=>hrel.ja h) (hrel.xn k)
       rw [h2] at this;exact this) (by rw [hget];exact hF') (by rw [hget];exact hA')
     ·obtain ⟨goal,hgo,m0,L,q1,q2,q3⟩:=hpure (tr i).E.X {s.hp with lo:=s.hp.n} _ _ (by rw [h2] at hrel;exact hrel.wf) (fun k hk=>by
       have:k < (tr i).H.n:=hrel.xn k hk
       rw [h2] at this;exact this) (by rw [hget];exact hF'.mono fun k b hk ho=>⟨hk,fun hx=>ho (.inr hx)⟩) (by
        rw [hget]
        rw [←h1] at hz
        exact hz.dr hrel (fun _ h=>h) (dK hfr args))
      refine ⟨goal,hgo,m0,L,q1,q2,fun r hm=>?_⟩
      obtain ⟨w,H',e1,e2,e3,e4,e5,e6⟩:=q3 r hm
      exact ⟨w,H',e1,e2,e3,e4,e5,hfree.2 _ _ _ _ e6⟩
    obtain ⟨r,hr⟩:=q2 rfl
    subst hr
    obtain ⟨w,H',rfl,hn,hwf,hsame,hlo,hdr⟩:=q3 r (by simp)
    obtain ⟨g1,g2⟩:=hrel.grow (H':={H' with lo:=s.hp.lo}) (by rw [h2];exact hn) hwf (fun k hk=>by
     have:=hsame k (by rw [←h2];exact hk)
     rw [h2];exact this) (by rw [h2];exact Nat.min_le_left _ _)
    refine go ⟨(tr i).E,st.hp,{H' with lo:=s.hp.lo}⟩ v w (i+1) ⟨i,[],true,true⟩ ⟨i,[],[],true,s.hp.n,H'.n⟩ m0 (by rw [←h1];exact g1) (by rw [←h1];exact g2) (Nat.le_refl _) ?_ rfl ?_ (fun m hm=>?_) (dL h)
    ·rw [aY (Nat.lt_succ_self _)]
     refine .d ?_
     show DR H'.get ((tr i).E.O st.hp) v w
     rw [←h1];exact hdr
    ·refine ⟨⟨rfl,by rw [aX (Nat.le_refl _),h2],by rw [aY (Nat.lt_succ_self _)],fun h=>Bool.noConfusion h,rfl,fun k hk=>(by cases hk),fun k hk=>(by cases hk)⟩,fun k hk=>(by cases hk),fun _=>?_⟩
     rw [aY (Nat.lt_succ_self _),aX (Nat.le_refl _)]
     exact ⟨rfl,h1.symm⟩
    ·unfold bf
     simp only [hk,hgo,ey hm _ _ q1]
     have:Nat.ble s.hp.n H'.lo=true:=Nat.ble_eq_true_of_le (by
      have:min s.hp.n s.hp.n≤H'.lo:=hlo
      omega)
     rw [nW this]
   ·exact h.elim
   ·rename_i hk
    obtain ⟨a,hacc,hw⟩:=h
    have hw':=hw
    rw [←h1] at hw'
    obtain ⟨r,w,ht1,ht2,ht3⟩:=tE ht hb hacc hw'
    have evr:∀ (z:ct) (u:Value) (e:bP),i6 T s.hp.n o.op (aU s.fr) s.hp.get=some (u,e)→z.H=s.hp.app e→vS (snoc tr i z) ⟨i,a,news? o.op,false⟩ ⟨i,r,w,false,s.hp.n,(s.hp.app e).n⟩:=by
     intro z u e hop hz
     refine ⟨⟨rfl,by rw [aX (Nat.le_refl _),h2],by rw [aY (Nat.lt_succ_self _),hz],fun hal _=>(rU (vu hop hal)).symm,rfl,fun k hk=>?_,fun k hk=>?_⟩,fun k hk=>?_,fun h=>Bool.noConfusion h⟩
     ·obtain ⟨p,p1,p2,p3⟩:=ht2 k hk;exact ⟨p,p1,p2,p3.snoc (Nat.le_refl _)⟩
     ·obtain ⟨p,p1,p2,p3⟩:=ht3 k hk;exact ⟨p,p1,p2,p3.snoc (Nat.le_refl _)⟩
     ·obtain ⟨p,p1,p2,p3,p4⟩:=KQ ht hb hro1 hacc hw' ht1 k hk
      exact ⟨p,p1,p2,p3.snoc (Nat.le_refl _),fun ho=>by rw [aX (Nat.le_refl _)];exact p4 ho⟩
    have drw:∀ (u:Value) (e:bP) (m:Nat),i6 T s.hp.n o.op (aU s.fr) s.hp.get=some (u,e)→bf T (RX T tab m) o.op i s=some (u,s.hp.app e,⟨i,r,w,false,s.hp.n,(s.hp.app e).n⟩):=by
     intro u e m hop
     unfold bf
     simp only [hk,ht1,hop]
    by_cases hm:∃ x,xV o.op st.fr=some [x]
    ·obtain ⟨x,hm⟩:=hm
     have hbirth:kD o.op st.fr bt i=rT bt x:=by unfold kD;rw [hm]
     have hbx:=hb.eval x
     have eb:=ht.ext _ i hbx.1 (Nat.le_refl _)
     obtain ⟨u,v,r1,r2,r3,r4⟩:=vt (ρ2:=(tr (rT bt x)).E.ρ) (g2:=(tr (rT bt x)).H.get) (O2:=(tr (rT bt x)).E.O (tr (rT bt x)).hp) (n:=s.hp.n) hfr hm (fun y hy=>by
      obtain rfl:=List.mem_singleton.1 hy;exact hbx.2) (fun k b hk ho=>(eb.keep (ht.rel _ hbx.1).wf k b hk ho).1) hw
     rw [h2] at r1
     have hz:(tr i).H=s.hp.app .none:=h2
     rw [hbirth] at r2
     refine go (tr i) v u (rT bt x) ⟨i,a,news? o.op,false⟩ ⟨i,r,w,false,s.hp.n,(s.hp.app .none).n⟩ 0 hrel .refl (by omega) (by rw [aX hbx.1];exact r4) rfl (evr _ u .none r1 hz) (fun m _=>by rw [hz];exact drw u .none m r1) (by rw [h1];exact dL (bO r2))
    ·have hbirth:kD o.op st.fr bt i=i+1:=by
      unfold kD
      split
      ·rename_i x hx;exact absurd ⟨x,hx⟩ hm
      ·rfl
     obtain ⟨u,e,E',v,hp',r1,r2,r3,r4,r5⟩:=mq hrel hfr hw'
     rw [h2] at r1 r3 r4 r5
     rw [hbirth] at r2
     refine go ⟨E',hp',s.hp.app e⟩ v u (i+1) ⟨i,a,news? o.op,false⟩ ⟨i,r,w,false,s.hp.n,(s.hp.app e).n⟩ 0 r3 (by rw [h2];exact r4) (Nat.le_refl _) (by rw [aY (Nat.lt_succ_self _)];exact r5) rfl (evr _ u e r1 rfl) (fun m _=>drw u e m r1) (dL (bO r2))
  ·obtain ⟨m,s',r1,r2⟩:=kV (s:=⟨dQ s.fr o.dst undef,s.hp,s.rd⟩) (evs:=⟨o,s,undef,s.hp,⟨i,[],[],false,s.hp.n,s.hp.n⟩⟩ :: evs) hro2 (dL h) (ht.snoc (z:=tr i) hrel .refl) (by rw [aY (Nat.lt_succ_self _)];exact h1) (by rw [aY (Nat.lt_succ_self _)];exact h2) h3
    (hb.put (Nat.zero_le _) qF o.dst) (.cons (he.snoc (Nat.le_refl _)) rfl ⟨⟨rfl,by rw [aX (Nat.le_refl _),h2],by rw [aY (Nat.lt_succ_self _),h2],fun _ _=>rfl,rfl,fun k hk=>(by cases hk),fun k hk=>(by cases hk)⟩,fun k hk=>(by cases hk),fun h=>Bool.noConfusion h⟩)
   rw [hz0] at r2
   refine ⟨m,s',?_,r2⟩
   rw [bH,hg]
   exact r1
theorem aB.P0 {id:Nat} {l:List Oper} {mu:Tmp→Bool} {st:bI} {K:Exit→bI→Prop} (hd:l.any tQ=false) (hr:(l.all fun o=>N8 o.op)=true) (h:iy T tab mu l.toArray l 0 (fun _=>0) [] st (K .normal)):aB T tab one (.region id l.toArray true) st K:=by
 intro E base s hs
 obtain ⟨m,s',r1,E',st',r2,r3,r4,r5⟩:=kV (base:=base) (tr:=fun _=>⟨E,st.hp,s.hp⟩) (evs:=[]) hr h ⟨fun _ _=>hs.h,fun _ _ _ _=>.refl⟩ rfl rfl hs.rd (fun t=>⟨Nat.le_refl _,hs.fr t⟩) .nil
 refine ⟨m,[(.normal,s')],?_,fun _=>⟨_,rfl⟩,fun p hp=>?_⟩
 ·rw [cX]
  have:ck T (RX T tab m) l.toArray s=some [s']:=sP (by rw [x7 hd]) (by
   simpa using r1)
  simp only [cond_true,this]
  rfl
 ·obtain rfl:=List.mem_singleton.1 hp
  exact ⟨E',st',r2,r3,r4,r5.ir⟩
variable {mu : Tmp → Bool} {fr : Nat → AV} {KS : bI → Prop} {rd : Bool} {dst : Option Tmp}
theorem QZ {ops:Array Oper} {op:Op} {a1 a2 a3 gd} {l:List Oper} {i:Nat} {bt:Nat→Nat} {acc:List ia}
 (h:cB ops.toList gd fr (eK T tab mu dst op i bt fr hp fun fr' hp' bt' x=>iy T tab mu ops l (i+1) bt' (x :: acc) ⟨fr',hp',aF,rd,fl⟩ KS)
  (gA dst fr (.tp []) fun fr'=>iy T tab mu ops l (i+1) (kT dst bt 0) (⟨i,[],false,false⟩ :: acc) ⟨fr',hp,aF,rd,fl⟩ KS)):iy T tab mu ops (⟨dst,op,a1,a2,a3,gd⟩ :: l) i bt acc ⟨fr,hp,aF,rd,fl⟩ KS:=h
end
section
variable {T : bz} {tab : List XE} {one : Bool} {fl base : Nat} {E E' E2 : Env} {hp hp' hp2 : List AB} {aF amb' : bJ} {H H' H2 : Hp} {ρ ρ2 : Nat → Nat → Option Nat} {g g2 : aD} {O O2 : Nat → Prop}
def vZ (i:Nat) (p q:Acc):Bool :=
 (!p.wr && !q.wr) || (match p.own,q.own with
  | some j,some j'=>!Nat.beq j j'
  | some _,none=>Nat.ble q.b i
  | none,some _=>!p.wr
  | none,none=>false)
theorem B8 {tr:Nat→ct} {n:Nat} (ht:lG base aF tr n) {i l:Nat} (hil:i < l) (hl:l≤n) {p q:Acc} {k:Nat} (hp:dz tr i p k) (hpo:p.own.isSome=true→Own (tr i).E.ρ (tr i).hp k) (hq:dz tr l q k) (hw:p.wr=true∨q.wr=true) (hf:vZ i p q=true):False:=by
 by_cases h:oe i p q=true
 ·exact pL ht hil hl hp hq hw h
 ·obtain ⟨p1,p2,p3⟩:=hp
  obtain ⟨q1,q2,q3⟩:=hq
  have back:∀ {b c:Nat},b≤c→c≤n→Own (tr c).E.ρ (tr c).hp k→k < (tr b).H.n→Own (tr b).E.ρ (tr b).hp k:=fun hbc hcn ho hk=>((ht.ext _ _ hbc hcn).own k ho).elim id (fun h=>by omega)
  unfold vZ at hf
  unfold oe at h
  rw [Bool.or_eq_true] at hf
  rw [Bool.or_eq_true,not_or] at h
  rcases hf with hf|hf
  ·exact h.1 hf
  ·cases hpo':p.own with
   | some j =>
    rw [hpo'] at hf h hpo
    cases hqo:q.own with
    | some j'=>rw [hqo] at hf h;exact h.2 hf
    | none =>
     rw [hqo] at hf q3
     have hb:=Nat.le_of_ble_eq_true hf
     exact q3 (.inl (back hb (by omega) (hpo rfl) q2))
   | none =>
    rw [hpo'] at hf h
    cases hqo:q.own with
    | some j'=>rw [hqo] at hf h;exact h.2 hf
    | none=>rw [hqo] at hf;cases hf
def tJ (x y:ia):Bool :=
 x.acc.all (fun p=>y.acc.all (vZ x.i p)) && ((!x.al && !x.call) || y.acc.all (fun q=>Nat.ble q.b x.i || (x.call && q.own.isSome))) && (!x.call || y.acc.all (fun q=>!q.wr)) && (!y.call || x.acc.all (fun p=>!p.wr))
def Od (b:List Nat):List ia→Bool
 | []=>true
 | y :: l=>l.all (fun x=>(b.getD y.i 0).testBit x.i || tJ x y) && Od b l
theorem Dr {tr:Nat→ct} {n:Nat} (ht:lG base aF tr n) {x y:ia} {s t:Tc} (hs:vS tr x s) (hy:vS tr y t) (hxy:x.i < y.i) (hn:y.i≤n) (hf:tJ x y=true):conflict s t=false:=by
 cases hc:conflict s t with
 | false=>rfl
 | true =>
  exfalso
  unfold tJ at hf
  simp only [Bool.and_eq_true,List.all_eq_true,Bool.or_eq_true,Bool.not_eq_true'] at hf
  obtain ⟨⟨⟨f1,f2⟩,f3⟩,f4⟩:=hf
  have two:∀ {k:Nat} {p q:Acc},p ∈ x.acc→q ∈ y.acc→dz tr x.i p k→dz tr y.i q k→(p.own.isSome=true→Own (tr x.i).E.ρ (tr x.i).hp k)→(p.wr=true∨q.wr=true)→False:=fun hp hq ap aq ho hw=>B8 ht hxy hn ap ho aq hw (f1 _ hp _ hq)
  have inn:∀ {k:Nat} {q:Acc},q ∈ y.acc→dz tr y.i q k→(q.own.isSome=true→Own (tr y.i).E.ρ (tr y.i).hp k)→s.a≤k→k < s.b→False:=by
   intro k q hq aq lq h1 h2
   rcases f2 with h|h
   ·have:=hs.ev.al h.1 h.2;omega
   ·rcases h q hq with h|⟨hcl,hos⟩
    ·have:=Nat.le_of_ble_eq_true h
     have:=(ht.ext q.b x.i this (by omega)).n
     have:=aq.2.1
     rw [hs.ev.a] at h1
     omega
    ·have hk:=hs.keep hcl
     rw [hs.ev.b] at h2
     rw [hs.ev.a] at h1
     rcases (ht.ext (x.i+1) y.i (by omega) hn).own k (lq hos) with h|h
     ·rw [hk.1,hk.2] at h
      have:=(ht.rel x.i (by omega)).ja h
      omega
     ·omega
  have out:∀ {k:Nat} {p:Acc},dz tr x.i p k→t.a≤k→False:=by
   intro k p ap h1
   have:=(ht.ext p.b x.i ap.1 (by omega)).n
   have:=(ht.ext x.i y.i (by omega) hn).n
   have:=ap.2.1
   rw [hy.ev.a] at h1
   omega
  unfold conflict at hc
  simp only [Bool.or_eq_true,Bool.and_eq_true,Bool.not_eq_true'] at hc
  rcases hc with (((((((hc|hc)|hc)|hc)|hc)|hc)|hc)|hc)|hc
  ·obtain ⟨k,k1,k2⟩:=ee.1 hc
   obtain ⟨p,p1,p2,p3⟩:=hs.ev.wr k k1
   obtain ⟨q,q1,q2,q3⟩:=hy.ev.rd k k2
   exact two p1 q1 p3 q3 (fun ho=>p3.Em ho p2) (.inl p2)
  ·obtain ⟨k,k1,k2⟩:=ee.1 hc
   obtain ⟨p,p1,p2,p3⟩:=hs.ev.wr k k1
   obtain ⟨q,q1,q2,q3⟩:=hy.ev.wr k k2
   exact two p1 q1 p3 q3 (fun ho=>p3.Em ho p2) (.inl p2)
  ·obtain ⟨k,k1,k2⟩:=ee.1 hc
   obtain ⟨q,q1,q2,q3⟩:=hy.ev.wr k k1
   obtain ⟨p,p1,p2,p3,p4⟩:=hs.Qa k k2
   exact two p1 q1 p3 q3 p4 (.inr q2)
  ·rw [hs.ev.call] at hc
   cases hw:t.wr with
   | nil=>rw [hw] at hc;simp at hc
   | cons k l =>
    obtain ⟨q,q1,q2,q3⟩:=hy.ev.wr k (by rw [hw];simp)
    rcases f3 with h|h
    ·rw [hc.1] at h;cases h
    ·rw [h q q1] at q2;cases q2
  ·rw [hy.ev.call] at hc
   cases hw:s.wr with
   | nil=>rw [hw] at hc;simp at hc
   | cons k l =>
    obtain ⟨p,p1,p2,p3⟩:=hs.ev.wr k (by rw [hw];simp)
    rcases f4 with h|h
    ·rw [hc.1] at h;cases h
    ·rw [h p p1] at p2;cases p2
  ·obtain ⟨k,k1,k2,k3⟩:=within_iff.1 hc
   obtain ⟨q,q1,q2,q3,q4⟩:=hy.Qa k k1
   exact inn q1 q3 q4 k2 k3
  ·obtain ⟨k,k1,k2,k3⟩:=within_iff.1 hc
   obtain ⟨q,q1,q2,q3⟩:=hy.ev.wr k k1
   exact inn q1 q3 (fun ho=>q3.Em ho q2) k2 k3
  ·obtain ⟨k,k1,k2,k3⟩:=within_iff.1 hc
   obtain ⟨p,p1,p2,p3⟩:=hs.ev.rd k k1
   exact out p3 k2
  ·obtain ⟨k,k1,k2,k3⟩:=within_iff.1 hc
   obtain ⟨p,p1,p2,p3⟩:=hs.ev.wr k k1
   exact out p3 k2
inductive nK (tr:Nat→ct):Nat→List ia→List Ev→Prop
 | nil:nK tr 0 [] []
 | cons {i:Nat} {x:ia} {ev:Ev} {l:List ia} {m:List Ev}:nK tr i l m→x.i=i→vS tr x ev.t→nK tr (i+1) (x :: l) (ev :: m)
theorem nK.lt {tr:Nat→ct} {i:Nat} {l:List ia} {m:List Ev} (h:nK tr i l m):∀ x ∈ l,x.i < i:=by
 induction h with
 | nil=>intro x hx;cases hx
 | cons _ hi _ ih =>
  intro y hy
  rcases List.mem_cons.1 hy with rfl|hy
  ·omega
  ·have:=ih y hy;omega
theorem nK.snoc {tr:Nat→ct} {i:Nat} {z:ct} {l:List ia} {m:List Ev}:∀ {j:Nat},nK tr j l m→j≤i→nK (snoc tr i z) j l m:=by
 intro j h
 induction h with
 | nil=>intro _;exact .nil
 | cons _ hi he ih=>intro hj;exact .cons (ih (by omega)) hi (he.snoc (by omega))
theorem nK.pairs {tr:Nat→ct} {n:Nat} (ht:lG base aF tr n) {b:List Nat} {i:Nat} {l:List ia} {m:List Ev} (h:nK tr i l m):i≤n→Od b l=true→cU T b m=true:=by
 induction h with
 | nil=>intro _ _;rfl
 | cons hl hi he ih =>
  rename_i i y ev l m
  intro hn hc
  simp only [Od,Bool.and_eq_true,List.all_eq_true] at hc
  simp only [cU,Bool.and_eq_true,List.all_eq_true]
  refine ⟨?_,ih (by omega) hc.2⟩
  have hc1:=hc.1
  clear ih hc
  have key:∀ {j:Nat} {l:List ia} {m:List Ev},nK tr j l m→(∀ x ∈ l,(b.getD y.i 0).testBit x.i=true∨tJ x y=true)→j≤y.i→∀ s ∈ m,(!conflict s.t ev.t || (b.getD ev.t.idx 0).testBit s.t.idx || spare T s ev)=true:=by
   intro j l m h
   induction h with
   | nil=>intro _ _ s hs;cases hs
   | cons hl' hi' he' ih' =>
    rename_i x ev' _ _
    intro hx hj s hs
    rcases List.mem_cons.1 hs with rfl|hs
    ·rcases hx x (by simp) with h|h
     ·rw [he.ev.idx,he'.ev.idx,h];simp
     ·rw [Dr ht he' he (by omega) (by omega) h];simp
    ·exact ih' (fun z hz=>hx z (List.mem_cons_of_mem _ hz)) (by omega) s hs
  exact key hl (fun x hx=>by simpa using hc1 x hx) (by omega)
variable {mu : Tmp → Bool} {fr : Nat → AV} {KS : bI → Prop} {rd : Bool} {dst : Option Tmp}
end
section
variable {T : bz} {tab : List XE} {one : Bool} {fl base : Nat} {E E' E2 : Env} {hp hp' hp2 : List AB} {aF amb' : bJ} {H H' H2 : Hp} {ρ ρ2 : Nat → Nat → Option Nat} {g g2 : aD} {O O2 : Nat → Prop} {r : Rec}
theorem sx {α β:Type} (a:α) (l:List α) (f:α→Option (List β)) {x y:List β} (h1:f a=some x) (h2:bu l f=some y):bu (a :: l) f=some (x++y):=by
 cases l with
 | nil =>
  rw [lf] at h2
  cases h2
  rw [dY,h1,List.append_nil]
 | cons b l =>
  rw [fY,h1]
  simp only [h2,Option.map_some]
theorem sy {α β:Type} {a:α} {l:List α} {f:α→Option (List β)} {z:List β} (h:bu (a :: l) f=some z):∃ x y,f a=some x∧bu l f=some y∧z=x++y:=by
 cases l with
 | nil=>exact ⟨z,[],h,rfl,(List.append_nil _).symm⟩
 | cons b l =>
  rw [fY] at h
  cases hx:f a with
  | none=>rw [hx] at h;cases h
  | some x =>
   rw [hx] at h
   simp only [Option.map_eq_some_iff] at h
   obtain ⟨y,hy,rfl⟩:=h
   exact ⟨x,y,rfl,hy,rfl⟩
theorem yl {α β:Type} {f:α→Option (List β)}:∀ {a b:List α} {z:List β},bu (a++b) f=some z→∃ x y,bu a f=some x∧bu b f=some y∧z=x++y
 | [],b,z,h=>⟨[],z,rfl,h,rfl⟩
 | c :: a,b,z,h=>by
  obtain ⟨x,y,h1,h2,rfl⟩:=sy (l:=a++b) h
  obtain ⟨u,v,h3,h4,rfl⟩:=yl h2
  exact ⟨x++u,v,sx _ _ _ h1 h3,h4,(List.append_assoc _ _ _).symm⟩
theorem sY {α β γ:Type} {f:α→Option (List β)} {k:β→Option (List γ)} {h:α→Option (List γ)} (hh:∀ x N M,f x=some N→bu N k=some M→h x=some M):∀ {L0:List α} {L:List β} {M:List γ},bu L0 f=some L→bu L k=some M→bu L0 h=some M
 | [],L,M,h1,h2=>by
  rw [lf] at h1
  cases h1
  exact h2
 | a :: l,L,M,h1,h2=>by
  obtain ⟨x,y,q1,q2,rfl⟩:=sy h1
  obtain ⟨u,v,q3,q4,rfl⟩:=yl h2
  exact sx _ _ _ (hh a x u q1 q3) (sY hh q2 q4)
theorem kL {ops ops':List Oper}:∀ (l:List Oper) (st:St),(l.all fun o=>o.guard.isNone)=true→aM T r ops l st=aM T r ops' l st
 | [],_,_=>rfl
 | o :: l,st,h=>by
  rw [List.all_cons,Bool.and_eq_true] at h
  have hg:o.guard=none:=Option.isNone_iff_eq_none.1 h.1
  have e:(fun p:Value × Hp=>aM T r ops l ⟨dQ st.fr o.dst p.1,p.2,st.rd⟩)=fun p=>aM T r ops' l ⟨dQ st.fr o.dst p.1,p.2,st.rd⟩:=funext fun p=>kL l _ h.2
  rw [bY,bY,hg,e,kL l _ h.2]
  rfl
theorem nL {ops:List Oper}:∀ (a b:List Oper) (st:St) {L M:List St},aM T r ops a st=some L→bu L (aM T r ops b)=some M→aM T r ops (a++b) st=some M
 | [],b,st,L,M,h1,h2=>by
  rw [iE] at h1
  cases h1
  exact h2
 | o :: a,b,st,L,M,h1,h2=>by
  rw [bY] at h1
  rw [List.cons_append,bY]
  cases hg:bA ops st.fr o.guard with
  | false =>
   rw [hg] at h1
   exact nL a b _ h1 h2
  | true =>
   rw [hg] at h1
   simp only [cond_true] at h1 ⊢
   cases ho:eO T r o.op st with
   | none=>rw [ho] at h1;cases h1
   | some L0 =>
    rw [ho] at h1
    exact sY (fun x N M q1 q2=>nL a b _ q1 q2) h1 h2
theorem v7 {f:St→Option (List St)} {ψ:Exit × St→Option (List (Exit × St))} (hψ:∀ s,ψ (.normal,s)=(f s).map (List.map fun s=>(.normal,s))):∀ {M:List St} {L:List (Exit × St)},bu (M.map fun s=>(Exit.normal,s)) ψ=some L→∃ N,bu M f=some N∧L=N.map fun s=>(.normal,s)
 | [],L,h=>by
  rw [List.map_nil,lf] at h
  cases h
  exact ⟨[],rfl,rfl⟩
 | s :: M,L,h=>by
  rw [List.map_cons] at h
  obtain ⟨x,y,q1,q2,rfl⟩:=sy h
  rw [hψ,Option.map_eq_some_iff] at q1
  obtain ⟨u,q1,rfl⟩:=q1
  obtain ⟨v,q3,rfl⟩:=v7 hψ q2
  exact ⟨u++v,sx _ _ _ q1 q3,by rw [List.map_append]⟩
theorem aB.Oe {id id1 id2:Nat} {l l1 l2:List Oper} {st:bI} {K:Exit→bI→Prop} (hl:l=l1++l2) (hg:(l.all fun o=>o.guard.isNone)=true)
  (h:aB T tab one (.seq (.region id1 l1.toArray false) (.region id2 l2.toArray false)) st K):aB T tab one (.region id l.toArray false) st K:=by
 subst hl
 intro E base s hs
 obtain ⟨m,L,h1,h2⟩:=h E base s hs
 refine ⟨m,L,?_,h2⟩
 rw [List.all_append,Bool.and_eq_true] at hg
 rw [lg,cX] at h1
 simp only [cond_false] at h1
 cases he:aM T (RX T tab m) l1 l1 s with
 | none=>rw [he] at h1;cases h1
 | some M =>
  rw [he] at h1
  obtain ⟨N,q1,rfl⟩:=v7 (f:=aM T (RX T tab m) l2 l2) (fun s=>by
   show (match _root_.cond false _ (aM T (RX T tab m) l2 l2 s) with
    | some L=>some (L.map fun s=>(Exit.normal,s))
    | none=>none)=_
   simp only [cond_false]
   cases aM T (RX T tab m) l2 l2 s <;> rfl) h1
  rw [cX]
  have:aM T (RX T tab m) (l1++l2) (l1++l2) s=some N:=by
   refine nL l1 l2 s (L:=M) ?_ ?_
   ·rw [kL l1 s hg.1,he]
   ·rw [←q1]
    congr 1
    exact funext fun s=>kL l2 s hg.2
  simp only [cond_false,this]
end
end Go.RM
