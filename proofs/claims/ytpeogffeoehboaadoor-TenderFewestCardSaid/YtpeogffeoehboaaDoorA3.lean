/-
  A layer of contracts over the abstract machine. Lemmas alone; no condition.
-/
import Derived.Test.YtpeogffeoehboaaDoorA1
import Derived.Test.YtpeogffeoehboaaDoorA2
import Derived.IntWalk
namespace Go.RM
open Go
theorem Ku {P:Program} {t:TypeId} {x y:Operand} {m n:Int} (h0:0≤m) (h2:1≤n):dz P .rem t x y (.int .i64 m) (.int .i64 n)=some (.int .i64 (m % n),.none):=by
 have hn:n ≠ 0:=by omega
 have h:dz P .rem t x y (.int .i64 m) (.int .i64 n)=some (.int .i64 (m.tmod n),.none):=by
  show eX P .rem t x y (.int .i64 m) (.int .i64 n)=_
  unfold eX
  simp only [flat,aV,Bool.and_self,cond_true]
  have:(do eqGuard BinOp.rem t x y (Value.int IntKind.i64 m) (Value.int IntKind.i64 n);binOp BinOp.rem t (Value.int IntKind.i64 m) (Value.int IntKind.i64 n):Sem Value)=pure (.int .i64 (m.tmod n)):=by
   show Op.intDiv .rem .i64 m n=_
   unfold Op.intDiv
   rw [if_neg hn]
  rw [this]
  rfl
 rw [h,IntWalk.rem_in m n h0]
theorem Kv {P:Program} {t:TypeId} {x y:Operand} {m n:Int} (h0:0≤m) (h1:m≤9223372036854775807) (h2:1≤n):dz P .quo t x y (.int .i64 m) (.int .i64 n)=some (.int .i64 (m / n),.none):=by
 have hn:n ≠ 0:=by omega
 have h:dz P .quo t x y (.int .i64 m) (.int .i64 n)=some (.int .i64 (IntKind.i64.wrap (m.tdiv n)),.none):=by
  show eX P .quo t x y (.int .i64 m) (.int .i64 n)=_
  unfold eX
  simp only [flat,aV,Bool.and_self,cond_true]
  have:(do eqGuard BinOp.quo t x y (Value.int IntKind.i64 m) (Value.int IntKind.i64 n);binOp BinOp.quo t (Value.int IntKind.i64 m) (Value.int IntKind.i64 n):Sem Value)=pure (.int .i64 (IntKind.i64.wrap (m.tdiv n))):=by
   show Op.intDiv .quo .i64 m n=_
   unfold Op.intDiv
   rw [if_neg hn]
  rw [this]
  rfl
 rw [h,IntWalk.i64_quo m n ⟨h0,h1,h2⟩]
section
variable {T : bz} {tab : List XE} {one : Bool} {mu : Tmp → Bool}
theorem sE {ops:List Oper} {j:Nat} {want:Bool} {fr:Nat→AV} {yes no:Prop} {d:Tmp} {a0 a1 a2 a3 a4} {b:Bool} (h1:ops[j]?=some ⟨some d,a0,a1,a2,a3,a4⟩) (h2:fr d=.fl (.bool b)) (h3:b=want) (y:yes):bV ops (some (j,want)) fr yes no:=by
 unfold bV
 simp only [h1,h2]
 exact fG h3 y
theorem vc {ops:List Oper} {j:Nat} {want:Bool} {fr:Nat→AV} {yes no:Prop} {d:Tmp} {a0 a1 a2 a3 a4} {b:Bool} (h1:ops[j]?=some ⟨some d,a0,a1,a2,a3,a4⟩) (h2:fr d=.fl (.bool b)) (h3:b=!want) (n:no):bV ops (some (j,want)) fr yes no:=by
 unfold bV
 simp only [h1,h2]
 exact fW h3 n
theorem zn {ops:List Oper} {j:Nat} {want:Bool} {fr:Nat→AV} {yes no:Prop} {d:Tmp} {a0 a1 a2 a3 a4} {vs:List AV} (h1:ops[j]?=some ⟨some d,a0,a1,a2,a3,a4⟩) (h2:fr d=.tp vs) (n:no):bV ops (some (j,want)) fr yes no:=by
 unfold bV
 simp only [h1,h2]
 exact n
end
end Go.RM
namespace Go.RM
open Go
theorem Jb {v:AV} {K:AV→Prop} (h:K v):force v K:=by cases v <;> exact h
section
variable {T : bz} {tab : List XE} {one : Bool} {mu : Tmp → Bool} {own : Bool} {fr : Nat → AV} {hp : List AB} {aE : bR} {rd : Bool} {fl : Nat} {K : AV → List AB → Prop} {KE : Exit → bF → Prop} {KS : bF → Prop} {st : bF} {dst : Option Tmp}
theorem c1 (h:KE .normal st):mN T tab one mu .skip st KE:=h
theorem c2 {a b:Code} (h:mN T tab one mu a st (uX (fun s=>mN T tab one mu b s KE) KE)):mN T tab one mu (.seq a b) st KE:=h
theorem c3 {id:Nat} {c:Code} (h:mN T tab one mu c st (jF id KE)):mN T tab one mu (.block id c) st KE:=h
theorem c4 {id:Nat} {l:List Oper} (h:wpOps T tab one mu l l st (KE .normal)):mN T tab one mu (.region id l.toArray false) st KE:=h
theorem c5 {id:Nat} {l l1 l2:List Oper} {c:Nat} (hc:eM l.toArray=c) (h1:l.take c=l1) (h2:l.drop c=l2) (h:iQ T tab mu l.toArray l1 0 (fun _=>0) [] st fun s=>wpOps T tab one mu l l2 s (KE .normal)):mN T tab one mu (.region id l.toArray true) st KE:=by
 subst hc h1 h2
 exact h
theorem c6 {id:Nat} (h:KE (.exit id) st):mN T tab one mu (.exit id) st KE:=h
theorem c7 (h:KE .ret st):mN T tab one mu .ret st KE:=h
theorem c8 {c:Code} (h:mN T tab one mu c st (rI KE)):mN T tab one mu (.scope c) st KE:=h
theorem c9 {Q:bF→Prop} (h:Q st):uX Q KE .normal st:=h
theorem d1 {Q:bF→Prop} (h:KE .ret st):uX Q KE .ret st:=h
theorem d2 {Q:bF→Prop} {id:Nat} (h:KE (.exit id) st):uX Q KE (.exit id) st:=h
theorem d3 {id:Nat} (h:KE .normal st):jF id KE .normal st:=h
theorem d4 {id:Nat} (h:KE .ret st):jF id KE .ret st:=h
theorem d5 {id id':Nat} (hb:Nat.beq id' id=true) (h:KE .normal st):jF id KE (.exit id') st:=by unfold jF;simp only [hb,cond_true];exact h
theorem d6 {id id':Nat} (hb:Nat.beq id' id=false) (h:KE (.exit id') st):jF id KE (.exit id') st:=by unfold jF;simp only [hb,cond_false];exact h
theorem d7 (h:KE .normal st):rI KE .normal st:=h
theorem d8 (h:KE .ret st):rI KE .ret st:=h
theorem d9 {id:Nat} (h:KE (.exit id) st):rI KE (.exit id) st:=h
theorem e1 {c:Operand} {a b:Code} {t:Bool} (hc:aO st.fr c=.fl (.bool t)) (h:(t=true→mN T tab one mu a st KE)∧(t=false→mN T tab one mu b st KE)):mN T tab one mu (.cond c a b) st KE:=by
 show (match aO st.fr c with|.fl (.bool t)=>_|_=>False)
 rw [hc];exact h
theorem e2 {c:Operand} {a b:Code} {t:Bool} (hc:aO st.fr c=.fl (.bool t)) (ht:t=true) (h:mN T tab one mu a st KE):mN T tab one mu (.cond c a b) st KE:=e1 hc (Kl ht h)
theorem e3 {c:Operand} {a b:Code} {t:Bool} (hc:aO st.fr c=.fl (.bool t)) (ht:t=false) (h:mN T tab one mu b st KE):mN T tab one mu (.cond c a b) st KE:=e1 hc (NX ht h)
theorem o1 {ops:List Oper} (h:KS st):wpOps T tab one mu ops [] st KS:=h
theorem o2 {ops:List Oper} {op:Op} {a1 a2 a3 gd} {l:List Oper}
 (h:bV ops gd fr (qt T tab one mu dst op fr hp aE rd fl fun st'=>wpOps T tab one mu ops l st' KS) (ee dst fr (.tp []) fun fr'=>wpOps T tab one mu ops l ⟨fr',hp,aE,rd,fl⟩ KS)):wpOps T tab one mu ops (⟨dst,op,a1,a2,a3,gd⟩ :: l) ⟨fr,hp,aE,rd,fl⟩ KS:=h
theorem o3 {ops:Array Oper} {op:Op} {a1 a2 a3 gd} {l:List Oper} {i:Nat} {bt:Nat→Nat} {acc:List gC}
 (h:bV ops.toList gd fr (dN T tab mu dst op i bt fr hp fun fr' hp' bt' x=>iQ T tab mu ops l (i+1) bt' (x :: acc) ⟨fr',hp',aE,rd,fl⟩ KS)
  (ee dst fr (.tp []) fun fr'=>iQ T tab mu ops l (i+1) (gT dst bt 0) (⟨i,[],false,false⟩ :: acc) ⟨fr',hp,aE,rd,fl⟩ KS)):iQ T tab mu ops (⟨dst,op,a1,a2,a3,gd⟩ :: l) i bt acc ⟨fr,hp,aE,rd,fl⟩ KS:=h
theorem o4 {ops:List Oper} {yes no:Prop} (h:yes):bV ops none fr yes no:=h
theorem o5 {d:Tmp} {v:AV} {P:(Nat→AV)→Prop} (h:P fun t=>bif Nat.beq t d then v else fr t):ee (some d) fr v P:=h
theorem o6 {v:AV} {P:(Nat→AV)→Prop} (h:P fr):ee none fr v P:=h
theorem o7 {f:Operand} {l:List Operand} {tys} (h:force (aO fr f) fun F=>eP (l.map (aO fr)) fun as=>av T tab one F as hp aE fun v hp' amb'=>ee dst fr v fun fr'=>KS ⟨fr',hp',amb',rd,fl⟩) :
 qt T tab one mu dst (.call ⟨.value f,l.toArray,tys⟩) fr hp aE rd fl KS:=h
theorem o8 {op:Op} (hk:dK op=.plain) (h:wpOp T (Kk mu dst) op fr hp fun v hp'=>force v fun v=>ee dst fr v fun fr'=>KS ⟨fr',hp',aE,rd,fl⟩):qt T tab one mu dst op fr hp aE rd fl KS:=by
 unfold qt;rw [hk];exact h
theorem o9 {x:Operand} {l:List Operand} {f:Operand→AV} {P:List AV→Prop} (h:force (f x) fun a=>eP (l.map f) fun l=>P (a :: l)):eP ((x :: l).map f) P:=h
theorem p1 {f:Operand→AV} {P:List AV→Prop} (h:P []):eP (([]:List Operand).map f) P:=h
theorem p2 {x:Operand} (h:K (aO fr x) hp):wpOp T own (.move x) fr hp K:=h
theorem p3 {x:Operand} (h:K (aO fr x) hp):wpOp T own (.assign x) fr hp K:=h
theorem p4 {c a b:Operand} (h:rD (aO fr c) (aO fr a) (aO fr b) hp K):wpOp T own (.pick c a b) fr hp K:=h
theorem p5 {o:BinOp} {t e:TypeId} {x y:Operand} (h:aJ T o t x y (aO fr x) (aO fr y) hp K):wpOp T own (.binOp o t x y e) fr hp K:=h
theorem p6 {x:Operand} {t:TypeId} (h:force (aO fr x) fun v=>qp T t v hp K):wpOp T own (.call ⟨.builtin .len,[x].toArray,[t].toArray⟩) fr hp K:=Jb (aY h)
theorem p7 {f:FuncId} {a b:List Operand} (h:eP (a.map (aO fr)) fun a=>eP (b.map (aO fr)) fun b=>K (.fn f a b) hp):wpOp T own (.makeFunc (.func f) a.toArray b.toArray) fr hp K:=h
theorem p8 {x:Operand} (h:qn (aO fr x) hp K):wpOp T own (.nilCheck x) fr hp K:=h
theorem p9 {op:Op} {i:Nat} {bt:Nat→Nat} {KD:(Nat→AV)→List AB→(Nat→Nat)→gC→Prop} (hk:dK op=.plain) (h:∃ a,CZ op fr (l6 bt)=some a∧wpOp T (Kk mu dst) op fr hp fun v hp'=>force v fun v=>ee dst fr v fun fr'=>KD fr' hp' (gT dst bt (gW op fr bt i)) ⟨i,a,news? op,false⟩) :
  dN T tab mu dst op i bt fr hp KD:=by
 unfold dN;rw [hk];exact h
theorem Bu {v:AV} {P:AV→Prop} (h:P v):force v P:=by cases v <;> exact h
theorem xI:∀ {l:List AV} {P:List AV→Prop},P l→eP l P
 | [],_,h=>h
 | _ :: _,_,h=>Bu (xI (P:=fun _=>_) h)
theorem En {f:Operand} {l:List Operand} {tys} {i:Nat} {bt:Nat→Nat} {KD:(Nat→AV)→List AB→(Nat→Nat)→gC→Prop} (h:(aO fr f).deep=true∧∃ vs v,Handed hp (l.map (aO fr)) vs v∧ah T tab true (aO fr f) vs v∧ee dst fr v fun fr'=>KD fr' hp (gT dst bt (i+1)) ⟨i,[],true,true⟩) :
  dN T tab mu dst (.call ⟨.value f,l.toArray,tys⟩) i bt fr hp KD:=by
 show force (aO fr f) fun F=>eP (l.map (aO fr)) fun as=>F.deep=true∧∃ vs v,Handed hp as vs v∧ah T tab true F vs v∧ee dst fr v fun fr'=>KD fr' hp (gT dst bt (i+1)) ⟨i,[],true,true⟩
 generalize aO fr f=F at h ⊢
 generalize l.map (aO fr)=as at h ⊢
 exact Bu (xI (P:=fun as=>F.deep=true∧∃ vs v,Handed hp as vs v∧ah T tab true F vs v∧ee dst fr v fun fr'=>KD fr' hp (gT dst bt (i+1)) ⟨i,[],true,true⟩) h)
theorem n1 {f:Operand} {l:List Operand} {tys} {i:Nat} {bt:Nat→Nat} {KD:(Nat→AV)→List AB→(Nat→Nat)→gC→Prop} (h:force (aO fr f) fun F=>eP (l.map (aO fr)) fun as=>F.deep=true∧cK as=true∧∃ v,ah T tab true F as v∧ee dst fr v fun fr'=>KD fr' hp (gT dst bt (i+1)) ⟨i,[],true,true⟩) :
  dN T tab mu dst (.call ⟨.value f,l.toArray,tys⟩) i bt fr hp KD:=by
 have h:=dP (aY h)
 obtain ⟨h1,h2,v,h3,h4⟩:=h
 exact En ⟨h1,_,v,.inl ⟨rfl,h2⟩,h3,h4⟩
theorem n2 {f:Operand} {l:List Operand} {tys} {i:Nat} {bt:Nat→Nat} {KD:(Nat→AV)→List AB→(Nat→Nat)→gC→Prop} {F v:AV} {as vs:List AV} (hp':ah T tab true F vs v) (hf:aO fr f=F) (ha:l.map (aO fr)=as) (hF:F.deep=true) (hz:nw hp as vs) (hv:fm v) (h:ee dst fr v fun fr'=>KD fr' hp (gT dst bt (i+1)) ⟨i,[],true,true⟩) :
  dN T tab mu dst (.call ⟨.value f,l.toArray,tys⟩) i bt fr hp KD:=by
 subst hf ha
 exact En ⟨hF,vs,v,.inr ⟨hz,hv⟩,hp',h⟩
theorem n3 {x:Operand} {t:TypeId} {b:Bool} (hb:aO fr x=.fl (.bool b)) (h:K (.fl (.bool (!b))) hp):wpOp T own (.unOp .not t x) fr hp K:=by
 show Kj T .not (aO fr x) hp K
 rw [hb];exact h
theorem n4 {x y:Operand} {tys:Array TypeId} {m n:Int} (hx:aO fr x=.fl (.int .i64 m)) (hy:aO fr y=.fl (.int .i64 n)) (h:K (.fl (.int .i64 (min m n))) hp):wpOp T own (.call ⟨.builtin .min,[x,y].toArray,tys⟩) fr hp K:=by
 show force (aO fr x) fun a=>force (aO fr y) fun b=>Ed T [a,b] hp K
 rw [hx,hy];exact h
theorem n5 {x y:Operand} {tys:Array TypeId} {m n:Int} (hx:aO fr x=.fl (.int .i64 m)) (hy:aO fr y=.fl (.int .i64 n)) (h:K (.fl (.int .i64 (max m n))) hp):wpOp T own (.call ⟨.builtin .max,[x,y].toArray,tys⟩) fr hp K:=by
 show force (aO fr x) fun a=>force (aO fr y) fun b=>Ee T [a,b] hp K
 rw [hx,hy];exact h
section
variable {v : AV} {P : AV → Prop}
theorem f1 {x:Value} (hv:v=.fl x) (h:P (.fl x)):force v P:=by subst hv;exact h
theorem f2 {a:List (List AV)} {b:Bool} (hv:v=.sl a b) (h:P (.sl a b)):force v P:=by subst hv;exact h
theorem f3 {a:List AV} {b:Nat} (hv:v=.pt a b) (h:P (.pt a b)):force v P:=by subst hv;exact h
theorem f4 {a:FuncId} {b c:List AV} (hv:v=.fn a b c) (h:P (.fn a b c)):force v P:=by subst hv;exact h
theorem f5 {a:List AV} (hv:v=.ag a) (h:P (.ag a)):force v P:=by subst hv;exact h
theorem f6 {a:List AV} (hv:v=.tp a) (h:P (.tp a)):force v P:=by subst hv;exact h
theorem f7 {a b c:Nat} (hv:v=.ptr a b c) (h:P (.ptr a b c)):force v P:=by subst hv;exact h
theorem f8 {a b c d e:Nat} (hv:v=.bO a b c d e) (h:P (.bO a b c d e)):force v P:=by subst hv;exact h
theorem f9 {a:Nat} (hv:v=.om a) (h:P (.om a)):force v P:=by subst hv;exact h
theorem g1 {a:Value} (hv:v=.oq a) (h:P (.oq a)):force v P:=by subst hv;exact h
theorem g2 (hv:v=.bP) (h:P .bP):force v P:=by subst hv;exact h
end
section
variable {c a b : AV} {t x y : Bool}
theorem k1 (hc:c=.fl (.bool t)) (h:jb t a b hp K):rD c a b hp K:=by subst hc;exact h
theorem k2 (ht:t=true) (h:K a hp):jb t a b hp K:=by
 subst ht
 unfold jb
 split
 ·exact h
 ·exact And.intro (fun _=>h) (fun e=>Bool.noConfusion e)
theorem k3 (ht:t=false) (h:K b hp):jb t a b hp K:=by
 subst ht
 unfold jb
 split
 ·exact h
 ·exact And.intro (fun e=>Bool.noConfusion e) (fun _=>h)
theorem k4 (ha:a=.fl (.bool x)) (hb:b=.fl (.bool y)) (h:K (.fl (.bool (bif t then x else y))) hp):jb t a b hp K:=by subst ha hb;exact h
end
section
variable {a b : AV} {m n : Int} {t : TypeId} {x y : Operand}
theorem b1 (ha:a=.fl (.int .i64 m)) (hb:b=.fl (.int .i64 n)) (hh:-9223372036854775808≤m+n∧m+n≤9223372036854775807) (h:K (.fl (.int .i64 (m+n))) hp):aJ T .add t x y a b hp K:=by subst ha hb;exact ⟨hh,h⟩
theorem b2 (ha:a=.fl (.int .i64 m)) (hb:b=.fl (.int .i64 n)) (hh:-9223372036854775808≤m - n∧m - n≤9223372036854775807) (h:K (.fl (.int .i64 (m - n))) hp):aJ T .sub t x y a b hp K:=by subst ha hb;exact ⟨hh,h⟩
theorem b3 (ha:a=.fl (.int .i64 m)) (hb:b=.fl (.int .i64 n)) (hh:-9223372036854775808≤m * n∧m * n≤9223372036854775807) (h:K (.fl (.int .i64 (m * n))) hp):aJ T .mul t x y a b hp K:=by subst ha hb;exact ⟨hh,h⟩
theorem b4 (ha:a=.fl (.int .i64 m)) (hb:b=.fl (.int .i64 n)) (h:K (.fl (.bool (decide (m=n)))) hp):aJ T .eql t x y a b hp K:=by subst ha hb;exact h
theorem b5 (ha:a=.fl (.int .i64 m)) (hb:b=.fl (.int .i64 n)) (h:K (.fl (.bool (!decide (m=n)))) hp):aJ T .neq t x y a b hp K:=by subst ha hb;exact h
theorem b6 (ha:a=.fl (.int .i64 m)) (hb:b=.fl (.int .i64 n)) (h:K (.fl (.bool (decide (m < n)))) hp):aJ T .lss t x y a b hp K:=by subst ha hb;exact h
theorem b7 (ha:a=.fl (.int .i64 m)) (hb:b=.fl (.int .i64 n)) (h:K (.fl (.bool (decide (m≤n)))) hp):aJ T .leq t x y a b hp K:=by subst ha hb;exact h
theorem b8 (ha:a=.fl (.int .i64 m)) (hb:b=.fl (.int .i64 n)) (h:K (.fl (.bool (decide (n < m)))) hp):aJ T .gtr t x y a b hp K:=by subst ha hb;exact h
theorem b9 (ha:a=.fl (.int .i64 m)) (hb:b=.fl (.int .i64 n)) (h:K (.fl (.bool (decide (n≤m)))) hp):aJ T .geq t x y a b hp K:=by subst ha hb;exact h
theorem r1 (ha:a=.fl (.int .i64 m)) (hb:b=.fl (.int .i64 n)) (h0:0≤m∧1≤n) (h:K (.fl (.int .i64 (m % n))) hp):aJ T .rem t x y a b hp K:=by
 subst ha hb;exact ⟨_,Ku h0.1 h0.2,rfl,h⟩
theorem r2 (ha:a=.fl (.int .i64 m)) (hb:b=.fl (.int .i64 n)) (h0:(0≤m∧m≤9223372036854775807)∧1≤n) (h:K (.fl (.int .i64 (m / n))) hp):aJ T .quo t x y a b hp K:=by
 subst ha hb;exact ⟨_,Kv h0.1.1 h0.1.2 h0.2,rfl,h⟩
end
section
variable {v : AV} {t : TypeId}
theorem l1 {e:TypeId} {a1 a2 a3 a4 a5 a6} {els:List (List AV)} {f:Bool} (ht:T.ty.get t=some ⟨.slice e,a1,a2,a3,a4,a5,a6⟩) (h:K (.fl (.int .i64 els.length)) hp):qp T t (.sl els f) hp K:=by
 unfold qp;rw [ht];exact h
theorem l2 {e:TypeId} {a1 a2 a3 a4 a5 a6} {j aB o n c:Nat} (ht:T.ty.get t=some ⟨.slice e,a1,a2,a3,a4,a5,a6⟩) (h:K (.fl (.int .i64 n)) hp):qp T t (.bO j aB o n c) hp K:=by
 unfold qp;rw [ht];exact h
theorem l3 {a:List AV} {b:Nat} (hv:v=.pt a b) (h:K (.pt a b) hp):qn v hp K:=by subst hv;exact h
theorem l4 {a b c:Nat} (hv:v=.ptr a b c) (h:K (.ptr a b c) hp):qn v hp K:=by subst hv;exact h
end
end
end Go.RM
namespace Go.RM
open Go
section
variable {T : bz} {tab : List XE} {one : Bool} {mu : Tmp → Bool} {base : Nat} {E : Env} {hp : List AB} {aE : bR} {H : Hp} {ρ : Nat → Nat → Option Nat} {g : aF} {O O' : Nat → Prop}
theorem dH {a b:Code} {st:bF} {K:Exit→bF→Prop} (h:mN T tab one mu a st (uX (fun s=>aA T tab one b s K) K)):aA T tab one (.seq a b) st K:=.seq (aa h)
def cx (j:Nat) (ρ:Nat→Nat→Option Nat):Nat→Nat→Option Nat:=fun i v=>if i=j then none else ρ i v
mutual
def AV.gy (j:Nat):AV→Bool
 | .fl _=>true
 | .sl _ _=>true
 | .pt _ _=>true
 | .fn _ a b=>ve j a && ve j b
 | .ag a=>ve j a
 | .tp a=>ve j a
 | .oq _=>true
 | .bP=>true
 | .ptr i _ _=>!Nat.beq i j
 | .bO i _ _ _ _=>!Nat.beq i j
 | .om i=>!Nat.beq i j
def ve (j:Nat):List AV→Bool
 | []=>true
 | a :: l=>a.gy j && ve j l
end
theorem cI {j:Nat}:∀ {l:List AV},ve j l=true→∀ (i:Nat) (a:AV),l[i]?=some a→a.gy j=true
 | [],_,i,a,h=>by cases h
 | x :: l,h,i,a,ha=>by
  simp only [ve,Bool.and_eq_true] at h
  cases i with
  | zero=>cases ha;exact h.1
  | succ i=>exact cI h.2 i a (by simpa using ha)
theorem fe {i j:Nat} (h:(!Nat.beq i j)=true):i ≠ j:=by
 intro e
 subst e
 rw [Nat.beq_refl] at h
 cases h
theorem AR.gy {j:Nat} (hO:∀ k,O' k→O k) {v:AV} {u:Value} (h:AR ρ g O v u):v.gy j=true→AR (cx j ρ) g O' v u:=by
 induction h with
 | d h=>intro _;exact .d (h.mono fun k b hk ho=>⟨hk,fun h=>ho (hO k h)⟩)
 | bP=>intro _;exact .bP
 | ptr h=>intro hd;simp only [AV.gy] at hd;exact .ptr (by rw [cx,if_neg (fe hd)];exact h)
 | bO h=>intro hd;simp only [AV.gy] at hd;exact .bO (by rw [cx,if_neg (fe hd)];exact h)
 | pe=>intro _;exact .pe
 | om h=>intro hd;simp only [AV.gy] at hd;exact .om (by rw [cx,if_neg (fe hd)];exact h)
 | fn ha hb h1 h2 ih1 ih2 =>
  intro hd
  simp only [AV.gy,Bool.and_eq_true] at hd
  exact .fn ha hb (fun i x u hx hu=>ih1 i x u hx hu (cI hd.1 i x hx)) (fun i x u hx hu=>ih2 i x u hx hu (cI hd.2 i x hx))
 | ag ha h1 ih=>intro hd;simp only [AV.gy] at hd;exact .ag ha (fun i x u hx hu=>ih i x u hx hu (cI hd i x hx))
 | tp ha h1 ih=>intro hd;simp only [AV.gy] at hd;exact .tp ha (fun i x u hx hu=>ih i x u hx hu (cI hd i x hx))
def AB.gy (j:Nat):AB→Bool
 | .cells cs _ _=>ve j cs
 | .cV _ _=>true
 | .map aH _=>aH.all fun p=>p.1.gy j && p.2.1.gy j
 | .iter i _ _ _=>!Nat.beq i j
 | .gone=>true
inductive Gv (j aB:Nat) (cs:List AV):AV→AV→Prop
 | same {a:AV}:a.gy j=true→Gv j aB cs a a
 | ptr {o:Nat}:Gv j aB cs (.ptr j aB o) (.pt cs o)
 | row {o n c:Nat} {els:List (List AV)} {b:Bool} (es:Nat):o+n * es≤cs.length→els.length=n→(∀ el ∈ els,el.length=es)→els.flatten=(cs.drop o).take (n * es)→(b=true→c=n)→Gv j aB cs (.bO j aB o n c) (.sl els b)
 | bP {a:AV}:Gv j aB cs a .bP
def zq (j aB:Nat) (cs:List AV) (fr:Nat→AV):List (Nat × AV)→Prop
 | []=>True
 | (i,v) :: l=>Gv j aB cs (fr i) v∧zq j aB cs fr l
theorem Eo {j aB:Nat} {cs:List AV} {fr:Nat→AV}:∀ {l:List (Nat × AV)},zq j aB cs fr l→∀ t,Gv j aB cs (fr t) (bu l t)
 | [],_,t=>.bP
 | (i,v) :: l,h,t=>by
  unfold bu
  rw [Tr.beq_eq]
  by_cases hti:t=i
  ·rw [decide_eq_true hti,hti]
   exact h.1
  ·rw [decide_eq_false hti]
   exact Eo h.2 t
theorem ak.QZ {st:bF} {l:List (Nat × AV)} {j aB es:Nat} {cs:List AV} (hj:st.hp[j]?=some (.cells cs es aB)) (hn:st.fl≤j) (hd:cK cs=true) (hs:zq j aB cs st.fr l) (hb:∀ (i:Nat) (b:AB),st.hp[i]?=some b→i ≠ j→b.gy j=true) :
  ak st ⟨bu l,st.hp.set j .gone,st.aE,st.rd,st.fl⟩:=by
 have hlt:j < st.hp.length:=(List.getElem?_eq_some_iff.1 hj).1
 refine ⟨rfl,fun E base s hs'=>?_⟩
 have hr:=hs'.h
 have hget:∀ (i:Nat) (b:AB) (aB:Nat),(st.hp.set j .gone)[i]?=some b→b.ver?=some aB→i ≠ j∧st.hp[i]?=some b:=by
  intro i b aB hi hv
  by_cases hij:i=j
  ·subst hij;rw [List.getElem?_set_self hlt] at hi;cases hi;cases hv
  ·rw [List.getElem?_set_ne (Ne.symm hij)] at hi;exact ⟨hij,hi⟩
 have hdr:∀ {i v k:Nat},cx j E.ρ i v=some k→i ≠ j∧E.ρ i v=some k:=by
  intro i v k h
  unfold cx at h
  split at h
  ·cases h
  ·rename_i hne;exact ⟨hne,h⟩
 have hown:∀ k,Own (cx j E.ρ) (st.hp.set j .gone) k→Own E.ρ st.hp k:=by
  rintro k ⟨i,b,v,h1,h2,h3⟩
  exact ⟨i,b,v,(hget i b v h1 h2).2,h2,(hdr h3).2⟩
 have hOs:∀ k,({E with ρ:=cx j E.ρ}:Env).O (st.hp.set j .gone) k→E.O st.hp k:=fun k h=>h.imp (hown k) id
 have hpt:∀ {o:Nat} {u:Value},AR E.ρ s.hp.get (E.O st.hp) (.ptr j aB o) u→AR (cx j E.ρ) s.hp.get (({E with ρ:=cx j E.ρ}:Env).O (st.hp.set j .gone)) (.pt cs o) u:=by
  intro o u h
  obtain ⟨k,hk,rfl⟩:=h.cM
  obtain ⟨cs',q1,q2⟩:=hr.cells hj hk
  have hnO:¬ ({E with ρ:=cx j E.ρ}:Env).O (st.hp.set j .gone) k:=by
   rintro (⟨i,b,v,h1,h2,h3⟩|hx)
   ·have:=hdr h3
    exact this.1 (hr.inj i j v aB k this.2 hk)
   ·exact hr.iH k ⟨j,_,aB,hj,rfl,hk⟩ hx
  have:=q2.deep hd
  refine .d (?_:DR _ _ (.pt cs o) (.pointer (some ⟨k,o,none⟩)))
  have h0:DR s.hp.get (({E with ρ:=cx j E.ρ}:Env).O (st.hp.set j .gone)) (.pt cs o) (.pointer (some ⟨k,0+o,none⟩)) :=
   .pt q1 hnO (by rw [Nat.zero_add,this.1];exact Nat.le_refl _) (fun i a u x y=>(this.2 i a u x (by rw [Nat.zero_add] at y;exact y)).mono fun k b hk ho=>⟨hk,fun h=>ho (hOs k h)⟩)
  rw [Nat.zero_add] at h0
  exact h0
 have hrow:∀ {o n c:Nat} {els:List (List AV)} {b:Bool} {u:Value} (es:Nat),o+n * es≤cs.length→els.length=n→(∀ el ∈ els,el.length=es)→els.flatten=(cs.drop o).take (n * es)→(b=true→c=n)→AR E.ρ s.hp.get (E.O st.hp) (.bO j aB o n c) u →
   AR (cx j E.ρ) s.hp.get (({E with ρ:=cx j E.ρ}:Env).O (st.hp.set j .gone)) (.sl els b) u:=by
  intro o n c els b u es g1 g2 g3 g4 g5 h
  rcases h.eY with ⟨k,hk,rfl⟩|⟨rfl,rfl,rfl⟩
  ·obtain ⟨cs',q1,q2⟩:=hr.cells hj hk
   have hnO:¬ ({E with ρ:=cx j E.ρ}:Env).O (st.hp.set j .gone) k:=by
    rintro (⟨i,b,v,h1,h2,h3⟩|hx)
    ·have:=hdr h3
     exact this.1 (hr.inj i j v aB k this.2 hk)
    ·exact hr.iH k ⟨j,_,aB,hj,rfl,hk⟩ hx
   have hdp:=q2.deep hd
   refine .d (.sl (es:=es) q1 hnO (by rw [←q2.1];exact g1) g2 (fun i el he=>g3 el (List.mem_of_getElem? he)) (fun i el jj a u he hx hu=>?_) g5)
   have hjj:jj < es:=by rw [←g3 el (List.mem_of_getElem? he)];exact (List.getElem?_eq_some_iff.1 hx).1
   have hat:=fE g3 i el jj he hjj
   have hi:i < n:=by rw [←g2];exact (List.getElem?_eq_some_iff.1 he).1
   rw [g4,List.getElem?_take,List.getElem?_drop] at hat
   have hlt:i * es+jj < n * es:=by
    have:(i+1) * es≤n * es:=Nat.mul_le_mul_right _ hi
    rw [Nat.add_mul,Nat.one_mul] at this
    omega
   rw [if_pos hlt,hx,←Nat.add_assoc] at hat
   exact (hdp.2 _ a u hat hu).mono fun k b hk ho=>⟨hk,fun h=>ho (hOs k h)⟩
  ·simp only [List.length_eq_zero_iff] at g2
   subst g2
   exact .d .nil
 have hgv:∀ {a b:AV} {u:Value},Gv j aB cs a b→AR E.ρ s.hp.get (E.O st.hp) a u→AR (cx j E.ρ) s.hp.get (({E with ρ:=cx j E.ρ}:Env).O (st.hp.set j .gone)) b u:=by
  intro a b u hg h
  cases hg with
  | same hn=>exact h.gy hOs hn
  | ptr=>exact hpt h
  | row es g1 g2 g3 g4 g5=>exact hrow es g1 g2 g3 g4 g5 h
  | bP=>exact .bP
 refine ⟨{E with ρ:=cx j E.ρ},⟨⟨hr.wf,fun i b v hi hv=>?_,fun i i' v v' k h1 h2=>hr.inj i i' v v' k (hdr h1).2 (hdr h2).2,fun i v k hk=>hr.rn i v k (hdr hk).2,fun i b v w h1 h2 h3=>?_,fun i v hi=>?_,fun k hk=>hr.sup k (hown k hk),fun k hk=>hr.iH k (hown k hk),hr.dx,hr.ds,hr.sn,hr.xn,fun k hk=>hr.oK k (hk.imp (hown k) id),hr.bn,hr.aE⟩,hs'.rd,fun t=>hgv (Eo hs t) (hs'.fr t)⟩,
  ⟨Nat.le_refl _,fun i v k hi hk=>?_,fun k hk=>.inl (hown k hk),fun _ h=>.inl h,fun _ h=>.inl h,fun _ h=>h,fun _ h=>.inl h,fun _ _ _ _=>rfl,Nat.min_le_left _ _⟩⟩
 ·obtain ⟨hij,hi'⟩:=hget i b v hi hv
  have hbn:=hb i b hi' hij
  rcases hr.fQ i b v hi' hv with ⟨k,b',q1,q2,q3⟩|⟨q1,q2⟩
  ·refine .inl ⟨k,b',by show cx j E.ρ i v=_;rw [cx,if_neg hij];exact q1,q2,?_⟩
   cases b with
   | cells cs2 es2 ver2 =>
    obtain ⟨cs',rfl,h⟩:=q3
    exact ⟨cs',rfl,h.1,fun i a u ha hu=>(h.2 i a u ha hu).gy hOs (cI hbn i a ha)⟩
   | cV p q=>exact q3
   | map aH clock =>
    obtain ⟨es,rfl,h1,h2⟩:=q3
    refine ⟨es,rfl,h1,fun i k v born x hx hy=>?_⟩
    simp only [AB.gy,List.all_eq_true,Bool.and_eq_true] at hbn
    have:=hbn _ (List.mem_of_getElem? hx)
    exact ⟨(h2 i k v born x hx hy).1.gy hOs this.1,(h2 i k v born x hx hy).2.1.gy hOs this.2,(h2 i k v born x hx hy).2.2⟩
   | iter i2 since seen stepped =>
    obtain ⟨m,rfl,h⟩:=q3
    exact ⟨m,rfl,by show cx j E.ρ i2 0=_;rw [cx,if_neg (fe hbn)];exact h⟩
   | gone=>exact q3
  ·exact .inr ⟨by show cx j E.ρ i v=_;rw [cx,if_neg hij];exact q1,q2⟩
 ·obtain ⟨hij,h1⟩:=hget i b v h1 h2
  show cx j E.ρ i w=none
  rw [cx,if_neg hij];exact hr.fresh i b v w h1 h2 h3
 ·show cx j E.ρ i v=none
  unfold cx
  split
  ·rfl
  ·exact hr.new i v (by simpa using hi)
 ·show cx j E.ρ i v=some k
  rw [cx,if_neg (by omega)];exact hk
def vg (j:Nat):Nat→List AB→Bool
 | _,[]=>true
 | i,b :: l=>(Nat.beq i j || b.gy j) && vg j (i+1) l
theorem vh {j:Nat}:∀ {l:List AB} {i0:Nat},vg j i0 l=true→∀ (i:Nat) (b:AB),l[i]?=some b→i0+i ≠ j→b.gy j=true
 | [],_,_,i,b,h,_=>by cases h
 | x :: l,i0,h,i,b,hb,hne=>by
  simp only [vg,Bool.and_eq_true,Bool.or_eq_true] at h
  cases i with
  | zero =>
   cases hb
   rcases h.1 with h|h
   ·exact absurd (Nat.eq_of_beq_eq_true h) hne
   ·exact h
  | succ i=>exact vh h.2 i b (by simpa using hb) (by omega)
theorem ak.giveUp {st:bF} {l:List (Nat × AV)} (j:Nat) {aB es:Nat} {cs:List AV} {hp:List AB} (hj:st.hp[j]?=some (.cells cs es aB)) (hn:st.fl≤j) (hd:cK cs=true) (hs:zq j aB cs st.fr l) (hb:vg j 0 st.hp=true) (hh:st.hp.set j .gone=hp) :
  ak st ⟨bu l,hp,st.aE,st.rd,st.fl⟩:=by
 subst hh
 exact ak.QZ hj hn hd hs fun i b h hne=>vh hb i b h (by omega)
end
end Go.RM
namespace Go.RM
open Go
theorem cw.vi {j aB c:Nat}:cw (.fl (.slice none 0 0)) (.bO j aB 0 0 c):=fun _ _ _ u h=>by
 rw [h.eG.1]
 exact .pe
theorem ak.vj {st:bF} (es:Nat):ak st ⟨st.fr,st.hp++[.cells [] es 0],st.aE,st.rd,st.fl⟩:=by
 refine ⟨rfl,fun E base s hs=>?_⟩
 have hr:=hs.h
 have hget:∀ (i:Nat) (b:AB),(st.hp++[AB.cells [] es 0])[i]?=some b→(i < st.hp.length∧st.hp[i]?=some b)∨(i=st.hp.length∧b=.cells [] es 0):=by
  intro i b hi
  by_cases hlt:i < st.hp.length
  ·rw [List.getElem?_append_left hlt] at hi;exact .inl ⟨hlt,hi⟩
  ·rw [List.getElem?_append_right (by omega)] at hi
   have h0:i - st.hp.length=0:=by
    apply Nat.eq_zero_of_not_pos
    intro hp0
    rw [List.getElem?_eq_none (by simp;omega)] at hi
    cases hi
   rw [h0] at hi
   cases hi
   exact .inr ⟨by omega,rfl⟩
 have hown:∀ k,Own E.ρ (st.hp++[.cells [] es 0]) k→Own E.ρ st.hp k:=by
  rintro k ⟨i,b,v,h1,h2,h3⟩
  rcases hget i b h1 with ⟨_,h1⟩|⟨rfl,rfl⟩
  ·exact ⟨i,b,v,h1,h2,h3⟩
  ·rw [hr.new _ v (Nat.le_refl _)] at h3;cases h3
 have hO:∀ k,E.O (st.hp++[.cells [] es 0]) k→E.O st.hp k:=fun k h=>h.imp (hown k) id
 have keep:∀ k b,s.hp.get k=some b→¬ E.O st.hp k→s.hp.get k=some b∧¬ E.O (st.hp++[.cells [] es 0]) k:=fun k b hk ho=>⟨hk,fun h=>ho (hO k h)⟩
 have har:∀ {v:AV} {u:Value},AR E.ρ s.hp.get (E.O st.hp) v u→AR E.ρ s.hp.get (E.O (st.hp++[.cells [] es 0])) v u:=fun h=>h.mono (fun _ _ _ h=>h) keep
 refine ⟨E,⟨⟨hr.wf,fun i b v hi hv=>?_,hr.inj,hr.rn,fun i b v w h1 h2 h3=>?_,fun i v hi=>hr.new i v (by simp at hi;omega),fun k hk=>hr.sup k (hown k hk),fun k hk=>hr.iH k (hown k hk),hr.dx,hr.ds,hr.sn,hr.xn,fun k hk=>hr.oK k (hk.imp (hown k) id),hr.bn,hr.aE⟩,hs.rd,fun t=>har (hs.fr t)⟩,
  ⟨Nat.le_refl _,fun _ _ _ _ h=>h,fun k hk=>.inl (hown k hk),fun _ h=>.inl h,fun _ h=>.inl h,fun _ h=>h,fun _ h=>.inl h,fun _ _ _ _=>rfl,Nat.min_le_left _ _⟩⟩
 ·rcases hget i b hi with ⟨_,hi'⟩|⟨rfl,rfl⟩
  ·rcases hr.fQ i b v hi' hv with ⟨k,b',q1,q2,q3⟩|q
   ·refine .inl ⟨k,b',q1,q2,?_⟩
    cases b with
    | cells cs2 es2 ver2 =>
     obtain ⟨cs',rfl,h⟩:=q3
     exact ⟨cs',rfl,h.1,fun i a u ha hu=>har (h.2 i a u ha hu)⟩
    | cV p q=>exact q3
    | map aH clock =>
     obtain ⟨es,rfl,h1,h2⟩:=q3
     exact ⟨es,rfl,h1,fun i k v born x hx hy=>⟨har (h2 i k v born x hx hy).1,har (h2 i k v born x hx hy).2.1,(h2 i k v born x hx hy).2.2⟩⟩
    | iter i2 since seen stepped=>exact q3
    | gone=>exact q3
   ·exact .inr q
  ·cases hv
   exact .inr ⟨hr.new _ _ (Nat.le_refl _),es,rfl⟩
 ·rcases hget i b h1 with ⟨_,h1⟩|⟨rfl,rfl⟩
  ·exact hr.fresh i b v w h1 h2 h3
  ·exact hr.new _ _ (Nat.le_refl _)
theorem q1 {σ:Type} {P:σ→Prop} {I:σ→bF} {m:σ→Nat} {K:Exit→bF→Prop} {x:σ} {s:bF} (h:K .ret s):I2 P I m K x .ret s:=h
theorem q2 {σ:Type} {P:σ→Prop} {I:σ→bF} {m:σ→Nat} {K:Exit→bF→Prop} {x:σ} {s:bF} {id:Nat} (h:K (.exit id) s):I2 P I m K x (.exit id) s:=h
end Go.RM
namespace Go.RM
open Go
theorem ak.N3 {st:bF} (j:Nat) {es aB:Nat} {cs ds:List AV} {hp:List AB} (hj:st.hp[j]?=some (.cells cs es aB)) (hs:dG cs ds) (hh:st.hp.set j (.cells ds es aB)=hp):ak st ⟨st.fr,hp,st.aE,st.rd,st.fl⟩:=by
 subst hh
 refine ⟨rfl,fun E base s hs'=>?_⟩
 have hr:=hs'.h
 have hlt:j < st.hp.length:=(List.getElem?_eq_some_iff.1 hj).1
 have hget:∀ (i:Nat) (b:AB),(st.hp.set j (.cells ds es aB))[i]?=some b→(i ≠ j∧st.hp[i]?=some b)∨(i=j∧b=.cells ds es aB):=by
  intro i b hi
  by_cases he:i=j
  ·subst he
   rw [List.getElem?_set_self hlt] at hi
   cases hi
   exact .inr ⟨rfl,rfl⟩
  ·rw [List.getElem?_set_ne (Ne.symm he)] at hi
   exact .inl ⟨he,hi⟩
 have hown:∀ k,Own E.ρ (st.hp.set j (.cells ds es aB)) k→Own E.ρ st.hp k:=by
  rintro k ⟨i,b,v,h1,h2,h3⟩
  rcases hget i b h1 with ⟨_,h1⟩|⟨rfl,rfl⟩
  ·exact ⟨i,b,v,h1,h2,h3⟩
  ·cases h2
   exact ⟨i,_,_,hj,rfl,h3⟩
 have hO:∀ k,E.O (st.hp.set j (.cells ds es aB)) k→E.O st.hp k:=fun k h=>h.imp (hown k) id
 have keep:∀ k b,s.hp.get k=some b→¬ E.O st.hp k→s.hp.get k=some b∧¬ E.O (st.hp.set j (.cells ds es aB)) k:=fun k b hk ho=>⟨hk,fun h=>ho (hO k h)⟩
 have har:∀ {v:AV} {u:Value},AR E.ρ s.hp.get (E.O st.hp) v u→AR E.ρ s.hp.get (E.O (st.hp.set j (.cells ds es aB))) v u:=fun h=>h.mono (fun _ _ _ h=>h) keep
 refine ⟨E,⟨⟨hr.wf,fun i b v hi hv=>?_,hr.inj,hr.rn,fun i b v w h1 h2 h3=>?_,fun i v hi=>hr.new i v (by simpa using hi),fun k hk=>hr.sup k (hown k hk),fun k hk=>hr.iH k (hown k hk),hr.dx,hr.ds,hr.sn,hr.xn,fun k hk=>hr.oK k (hk.imp (hown k) id),hr.bn,hr.aE⟩,hs'.rd,fun t=>har (hs'.fr t)⟩,
  ⟨Nat.le_refl _,fun _ _ _ _ h=>h,fun k hk=>.inl (hown k hk),fun _ h=>.inl h,fun _ h=>.inl h,fun _ h=>h,fun _ h=>.inl h,fun _ _ _ _=>rfl,Nat.min_le_left _ _⟩⟩
 ·rcases hget i b hi with ⟨_,hi'⟩|⟨rfl,rfl⟩
  ·rcases hr.fQ i b v hi' hv with ⟨k,b',q1,q2,q3⟩|q
   ·refine .inl ⟨k,b',q1,q2,?_⟩
    cases b with
    | cells cs2 es2 ver2 =>
     obtain ⟨cs',rfl,h⟩:=q3
     exact ⟨cs',rfl,h.1,fun i a u ha hu=>har (h.2 i a u ha hu)⟩
    | cV p q=>exact q3
    | map aH clock =>
     obtain ⟨es,rfl,h1,h2⟩:=q3
     exact ⟨es,rfl,h1,fun i k v born x hx hy=>⟨har (h2 i k v born x hx hy).1,har (h2 i k v born x hx hy).2.1,(h2 i k v born x hx hy).2.2⟩⟩
    | iter i2 since seen stepped=>exact q3
    | gone=>exact q3
   ·exact .inr q
  ·cases hv
   rcases hr.fQ i _ aB hj rfl with ⟨k,b',q1,q2,q3⟩|⟨q1,es',q2⟩
   ·refine .inl ⟨k,b',q1,q2,?_⟩
    obtain ⟨cs',rfl,h⟩:=q3
    have h':=dG.zS hs h
    exact ⟨cs',rfl,h'.1,fun i a u ha hu=>har (h'.2 i a u ha hu)⟩
   ·cases q2
    cases ds with
    | nil=>exact .inr ⟨q1,_,rfl⟩
    | cons a l=>exact hs.elim
 ·rcases hget i b h1 with ⟨_,h1⟩|⟨rfl,rfl⟩
  ·exact hr.fresh i b v w h1 h2 h3
  ·cases h2
   exact hr.fresh i _ _ w hj rfl h3
end Go.RM
namespace Go.RM
open Go
theorem Bv {α:Type} {l:List α} {j:Nat} {a:α} (h:l[j]?=some a):l.set j a=l:=by
 apply List.ext_getElem?
 intro i
 rw [List.getElem?_set]
 split
 ·rename_i hij
  subst hij
  rw [h]
  split
  ·rfl
  ·rename_i hn
   exact absurd (List.getElem?_eq_some_iff.1 h).1 hn
 ·rfl
theorem Kw {hp:List AB} {es bs:Nat} {x:AV} {els:List (List AV)} {j aB n c:Nat} {cs:List AV} {K:AV→List AB→Prop} (hx:Bh hp es x els) (h1:els.flatten.all AV.one=true) (hj:hp[j]?=some (.cells cs es aB)) (hl:cs.length=n * es) (hc:c=n∨c=n+1)
  (hb:(n+els.length) * bs≤140737488355328∧n+els.length≤9223372036854775807) (hk:∀ v c',(c'=n+els.length∨c'=n+els.length+1)→K (.bO j v 0 (n+els.length) c') (hp.set j (.cells (cs++els.flatten) es v))) :
  ∃ els,Bh hp es x els∧els.flatten.all AV.one=true∧∃ cs,hp[j]?=some (.cells cs es aB)∧cs.length=n * es∧(c=n∨c=n+1)∧((n+els.length) * bs≤140737488355328∧n+els.length≤9223372036854775807)∧(els=[]→K (.bO j aB 0 n c) hp) ∧
   (els ≠ []→K (.bO j (aB+1) 0 (n+els.length) (n+els.length+1)) (hp.set j (.cells (cs++els.flatten) es (aB+1)))):=by
 refine ⟨els,hx,h1,cs,hj,hl,hc,hb,fun he=>?_,fun _=>hk _ _ (.inr rfl)⟩
 subst he
 have h2:=hk aB c (by simpa using hc)
 rw [List.flatten_nil,List.append_nil,Bv hj] at h2
 exact h2
theorem Jc {T:bz} {own:Bool} {fr:Nat→AV} {hp:List AB} {K:AV→List AB→Prop} {s x:Operand} {t u e:TypeId} {a1 a2 a3 a4 a5 a6} {j aB n c:Nat} {els:List (List AV)} {f:Bool} {cs:List AV} {inf:rX} (hs:aO fr s=.bO j aB 0 n c) (hx:aO fr x=.sl els f)
  (hu:T.ty.get u=some ⟨.slice e,a1,a2,a3,a4,a5,a6⟩) (hi:elem? T t=some inf) (hz:bk inf=true) (hel:∀ el ∈ els,el.length=inf.size) (h1:els.flatten.all AV.one=true) (hj:hp[j]?=some (.cells cs inf.size aB)) (hl:cs.length=n * inf.size) (hc:c=n∨c=n+1)
  (hb:(n+els.length) * inf.bytes≤140737488355328∧n+els.length≤9223372036854775807) (hk:∀ v c',(c'=n+els.length∨c'=n+els.length+1)→K (.bO j v 0 (n+els.length) c') (hp.set j (.cells (cs++els.flatten) inf.size v))) :
  RM.wpOp T own (.call ⟨.builtin .append,[s,x].toArray,[t,u].toArray⟩) fr hp K:=by
 show force (aO fr s) fun a=>force (aO fr x) fun b=>gw T own .append [a,b] [t,u] hp K
 rw [hs,hx]
 show (match T.ty.get u with|some ⟨.slice _,_,_,_,_,_,_⟩=>gv T own t (.bO j aB 0 n c) (.sl els f) hp K|_=>False)
 rw [hu]
 show gv T own t (.bO j aB 0 n c) (.sl els f) hp K
 unfold gv
 rw [hi]
 exact ⟨hz,Kw (hp:=hp) (K:=K) ⟨hel,rfl⟩ h1 hj hl hc hb hk⟩
end Go.RM
namespace Go.RM
open Go
section
variable {T : bz} {tab : List XE} {one : Bool} {base : Nat} {E : Env} {hp : List AB} {aE : bR} {H : Hp} {ρ : Nat → Nat → Option Nat} {g : aF} {O O' : Nat → Prop}
def aX (a b:Nat) (ρ:Nat→Nat→Option Nat):Nat→Nat→Option Nat:=fun i v=>if i=a then ρ b v else if i=b then none else ρ i v
theorem AR.move {a b:Nat} (hO:∀ k,O' k→O k) {v:AV} {u:Value} (h:AR ρ g O v u):v.gy a=true→v.gy b=true→AR (aX a b ρ) g O' v u:=by
 have hm:∀ {i w:Nat},i ≠ a→i ≠ b→aX a b ρ i w=ρ i w:=fun {i w} h1 h2=>by unfold aX;rw [if_neg h1,if_neg h2]
 induction h with
 | d h=>intro _ _;exact .d (h.mono fun k b hk ho=>⟨hk,fun hx=>ho (hO k hx)⟩)
 | bP=>intro _ _;exact .bP
 | ptr h=>intro h1 h2;exact .ptr (by rw [hm (fe h1) (fe h2)];exact h)
 | bO h=>intro h1 h2;exact .bO (by rw [hm (fe h1) (fe h2)];exact h)
 | pe=>intro _ _;exact .pe
 | om h=>intro h1 h2;exact .om (by rw [hm (fe h1) (fe h2)];exact h)
 | fn ha hb h1 h2 ih1 ih2 =>
  intro n1 n2
  simp only [AV.gy,Bool.and_eq_true] at n1 n2
  exact .fn ha hb (fun i x u hx hu=>ih1 i x u hx hu (cI n1.1 i x hx) (cI n2.1 i x hx)) (fun i x u hx hu=>ih2 i x u hx hu (cI n1.2 i x hx) (cI n2.2 i x hx))
 | ag ha h1 ih=>intro n1 n2;simp only [AV.gy] at n1 n2;exact .ag ha (fun i x u hx hu=>ih i x u hx hu (cI n1 i x hx) (cI n2 i x hx))
 | tp ha h1 ih=>intro n1 n2;simp only [AV.gy] at n1 n2;exact .tp ha (fun i x u hx hu=>ih i x u hx hu (cI n1 i x hx) (cI n2 i x hx))
inductive Mv (a b:Nat):AV→AV→Prop
 | same {v:AV}:v.gy a=true→v.gy b=true→Mv a b v v
 | ptr {aB o:Nat}:Mv a b (.ptr b aB o) (.ptr a aB o)
 | bO {aB o n c:Nat}:Mv a b (.bO b aB o n c) (.bO a aB o n c)
 | bP {v:AV}:Mv a b v .bP
def vk (a b:Nat) (fr:Nat→AV):List (Nat × AV)→Prop
 | []=>True
 | (i,v) :: l=>Mv a b (fr i) v∧vk a b fr l
theorem zu {a b:Nat} {fr:Nat→AV}:∀ {l:List (Nat × AV)},vk a b fr l→∀ t,Mv a b (fr t) (bu l t)
 | [],_,t=>.bP
 | (i,v) :: l,h,t=>by
  unfold bu
  rw [Tr.beq_eq]
  by_cases hti:t=i
  ·rw [decide_eq_true hti,hti]
   exact h.1
  ·rw [decide_eq_false hti]
   exact zu h.2 t
theorem ak.move {st:bF} {l:List (Nat × AV)} (a b:Nat) {x y:AB} (hab:a ≠ b) (hja:st.hp[a]?=some y) (hjb:st.hp[b]?=some x) (hn:st.fl≤a) (hn2:st.fl≤b) (hs:vk a b st.fr l)
  (hb:∀ (i:Nat) (z:AB),st.hp[i]?=some z→i ≠ a→z.gy a=true∧z.gy b=true) :
  ak st ⟨bu l,(st.hp.set a x).set b .gone,st.aE,st.rd,st.fl⟩:=by
 have hla:a < st.hp.length:=(List.getElem?_eq_some_iff.1 hja).1
 have hlb:b < st.hp.length:=(List.getElem?_eq_some_iff.1 hjb).1
 refine ⟨rfl,fun E base s hs'=>?_⟩
 have hr:=hs'.h
 have hget:∀ (i:Nat) (z:AB) (aB:Nat),((st.hp.set a x).set b .gone)[i]?=some z→z.ver?=some aB→(i=a∧z=x)∨(i ≠ a∧i ≠ b∧st.hp[i]?=some z):=by
  intro i z aB hi hv
  by_cases hib:i=b
  ·subst hib
   rw [List.getElem?_set_self (by rw [List.length_set];exact hlb)] at hi
   cases hi;cases hv
  ·rw [List.getElem?_set_ne (Ne.symm hib)] at hi
   by_cases hia:i=a
   ·subst hia
    rw [List.getElem?_set_self hla] at hi
    cases hi;exact .inl ⟨rfl,rfl⟩
   ·rw [List.getElem?_set_ne (Ne.symm hia)] at hi
    exact .inr ⟨hia,hib,hi⟩
 have hma:∀ {v:Nat},aX a b E.ρ a v=E.ρ b v:=fun {v}=>by unfold aX;rw [if_pos rfl]
 have hmo:∀ {i v:Nat},i ≠ a→i ≠ b→aX a b E.ρ i v=E.ρ i v:=fun {i v} h1 h2=>by unfold aX;rw [if_neg h1,if_neg h2]
 have hmi:∀ {i v k:Nat},aX a b E.ρ i v=some k→(i=a∧E.ρ b v=some k)∨(i ≠ a∧i ≠ b∧E.ρ i v=some k):=by
  intro i v k h
  unfold aX at h
  split at h
  ·rename_i h1;exact .inl ⟨h1,h⟩
  ·split at h
   ·cases h
   ·rename_i h1 h2;exact .inr ⟨h1,h2,h⟩
 have hown:∀ k,Own (aX a b E.ρ) ((st.hp.set a x).set b .gone) k→Own E.ρ st.hp k:=by
  rintro k ⟨i,z,v,h1,h2,h3⟩
  rcases hget i z v h1 h2 with ⟨rfl,rfl⟩|⟨n1,n2,h4⟩
  ·rw [hma] at h3;exact ⟨b,_,v,hjb,h2,h3⟩
  ·rw [hmo n1 n2] at h3;exact ⟨i,z,v,h4,h2,h3⟩
 have hOs:∀ k,({E with ρ:=aX a b E.ρ}:Env).O ((st.hp.set a x).set b .gone) k→E.O st.hp k:=fun k h=>h.imp (hown k) id
 have hmv:∀ {v w:AV} {u:Value},Mv a b v w→AR E.ρ s.hp.get (E.O st.hp) v u→AR (aX a b E.ρ) s.hp.get (({E with ρ:=aX a b E.ρ}:Env).O ((st.hp.set a x).set b .gone)) w u:=by
  intro v w u hm h
  cases hm with
  | same n1 n2=>exact h.move hOs n1 n2
  | ptr =>
   obtain ⟨k,hk,rfl⟩:=h.cM
   exact .ptr (by rw [hma];exact hk)
  | bO =>
   rcases h.eY with ⟨k,hk,rfl⟩|⟨rfl,rfl,rfl⟩
   ·exact .bO (by rw [hma];exact hk)
   ·exact .pe
  | bP=>exact .bP
 have hbr:∀ (z:AB) (z':aZ),z.gy a=true→z.gy b=true→BR E.ρ s.hp.get (E.O st.hp) z z'→BR (aX a b E.ρ) s.hp.get (({E with ρ:=aX a b E.ρ}:Env).O ((st.hp.set a x).set b .gone)) z z':=by
  intro z z' n1 n2 q3
  cases z with
  | cells cs2 es2 ver2 =>
   obtain ⟨cs',rfl,h⟩:=q3
   exact ⟨cs',rfl,h.1,fun i v u ha hu=>(h.2 i v u ha hu).move hOs (cI n1 i v ha) (cI n2 i v ha)⟩
  | cV p q=>exact q3
  | map aH clock =>
   obtain ⟨es,rfl,h1,h2⟩:=q3
   refine ⟨es,rfl,h1,fun i k v born e hx hy=>?_⟩
   simp only [AB.gy,List.all_eq_true,Bool.and_eq_true] at n1 n2
   have m1:=n1 _ (List.mem_of_getElem? hx)
   have m2:=n2 _ (List.mem_of_getElem? hx)
   exact ⟨(h2 i k v born e hx hy).1.move hOs m1.1 m2.1,(h2 i k v born e hx hy).2.1.move hOs m1.2 m2.2,(h2 i k v born e hx hy).2.2⟩
  | iter i2 since seen stepped =>
   obtain ⟨m,rfl,h⟩:=q3
   exact ⟨m,rfl,by show aX a b E.ρ i2 0=_;rw [hmo (fe n1) (fe n2)];exact h⟩
  | gone=>exact q3
 refine ⟨{E with ρ:=aX a b E.ρ},⟨⟨hr.wf,fun i z v hi hv=>?_,fun i i' v v' k h1 h2=>?_,fun i v k hk=>?_,fun i z v w h1 h2 h3=>?_,fun i v hi=>?_,fun k hk=>hr.sup k (hown k hk),fun k hk=>hr.iH k (hown k hk),hr.dx,hr.ds,hr.sn,hr.xn,fun k hk=>hr.oK k (hk.imp (hown k) id),hr.bn,hr.aE⟩,hs'.rd,fun t=>hmv (zu hs t) (hs'.fr t)⟩,
  ⟨Nat.le_refl _,fun i v k hi hk=>?_,fun k hk=>.inl (hown k hk),fun _ h=>.inl h,fun _ h=>.inl h,fun _ h=>h,fun _ h=>.inl h,fun _ _ _ _=>rfl,Nat.min_le_left _ _⟩⟩
 ·rcases hget i z v hi hv with ⟨rfl,rfl⟩|⟨n1,n2,h4⟩
  ·have hz:=hb b _ hjb (Ne.symm hab)
   rcases hr.fQ b _ v hjb hv with ⟨k,b',q1,q2,q3⟩|⟨q1,q2⟩
   ·exact .inl ⟨k,b',by show aX _ b E.ρ _ v=_;rw [hma];exact q1,q2,hbr _ _ hz.1 hz.2 q3⟩
   ·exact .inr ⟨by show aX _ b E.ρ _ v=_;rw [hma];exact q1,q2⟩
  ·have hz:=hb i z h4 n1
   rcases hr.fQ i z v h4 hv with ⟨k,b',q1,q2,q3⟩|⟨q1,q2⟩
   ·exact .inl ⟨k,b',by show aX a b E.ρ i v=_;rw [hmo n1 n2];exact q1,q2,hbr _ _ hz.1 hz.2 q3⟩
   ·exact .inr ⟨by show aX a b E.ρ i v=_;rw [hmo n1 n2];exact q1,q2⟩
 ·rcases hmi h1 with ⟨e1,p1⟩|⟨n1,n2,p1⟩
  ·rcases hmi h2 with ⟨e2,p2⟩|⟨m1,m2,p2⟩
   ·rw [e1,e2]
   ·exact absurd (hr.inj b i' v v' k p1 p2).symm m2
  ·rcases hmi h2 with ⟨e2,p2⟩|⟨m1,m2,p2⟩
   ·exact absurd (hr.inj i b v v' k p1 p2) n2
   ·exact hr.inj i i' v v' k p1 p2
 ·rcases hmi hk with ⟨rfl,h⟩|⟨_,_,h⟩
  ·exact hr.rn b v k h
  ·exact hr.rn i v k h
 ·rcases hget i z v h1 h2 with ⟨rfl,rfl⟩|⟨n1,n2,h4⟩
  ·show aX _ b E.ρ _ w=none
   rw [hma];exact hr.fresh b _ v w hjb h2 h3
  ·show aX a b E.ρ i w=none
   rw [hmo n1 n2];exact hr.fresh i z v w h4 h2 h3
 ·show aX a b E.ρ i v=none
  have hi:st.hp.length≤i:=by simpa using hi
  rw [hmo (by omega) (by omega)]
  exact hr.new i v hi
 ·show aX a b E.ρ i v=some k
  rw [hmo (by omega) (by omega)];exact hk
def l8 (a b:Nat):Nat→List AB→Bool
 | _,[]=>true
 | i,z :: l=>(Nat.beq i a || (z.gy a && z.gy b)) && l8 a b (i+1) l
theorem sF {a b:Nat}:∀ {l:List AB} {i0:Nat},l8 a b i0 l=true→∀ (i:Nat) (z:AB),l[i]?=some z→i0+i ≠ a→z.gy a=true∧z.gy b=true
 | [],_,_,i,z,h,_=>by cases h
 | x :: l,i0,h,i,z,hb,hne=>by
  simp only [l8,Bool.and_eq_true,Bool.or_eq_true] at h
  cases i with
  | zero =>
   cases hb
   rcases h.1 with h|h
   ·exact absurd (Nat.eq_of_beq_eq_true h) hne
   ·exact h
  | succ i=>exact sF h.2 i z (by simpa using hb) (by omega)
theorem ak.C8 {st:bF} {l:List (Nat × AV)} (a b:Nat) {x y:AB} {hp:List AB} (hab:a ≠ b) (hja:st.hp[a]?=some y) (hjb:st.hp[b]?=some x) (hn:st.fl≤a) (hn2:st.fl≤b) (hs:vk a b st.fr l) (hb:l8 a b 0 st.hp=true) (hh:(st.hp.set a x).set b .gone=hp) :
  ak st ⟨bu l,hp,st.aE,st.rd,st.fl⟩:=by
 subst hh
 exact ak.move a b hab hja hjb hn hn2 hs fun i z h hne=>sF hb i z h (by omega)
def Q0 (T:bz) (rs:List ResultVar) (Q:AV→List AB→bR→Prop) (e:Exit) (s:bF):Prop :=
 match e with
 | .normal|.ret=>oM T s rs fun as=>Q (Bl as) s.hp s.aE
 | _=>False
theorem Kx {vs:List AV} {us:List Value} (h:fC ρ g O vs us):AR ρ g O (Bl vs) (cJ us):=by
 match vs,us,h with
 | [],[],_=>exact .tp rfl (fun i x u hx=>by cases hx)
 | [v],[u],h=>exact h.2 0 v u rfl rfl
 | a :: b :: l,c :: d :: m,h=>exact .tp (by simpa using h.1) (fun i x u hx hu=>h.2 i x u hx (by simpa using hu))
 | [],u :: us,h=>exact absurd h.1 (by simp)
 | v :: vs,[],h=>exact absurd h.1 (by simp)
 | [v],a :: b :: l,h=>exact absurd h.1 (by simp)
 | a :: b :: l,[v],h=>exact absurd h.1 (by simp)
theorem av.body {f:FuncId} {fn:Func} {c:Code} {first caps args:List AV} {Q:AV→List AB→bR→Prop} (hf:T.fn.get f=some fn) (hb:fn.body=some c) (hn:noEntry tab f=true)
  (hw:aA T tab one c ⟨Bm (first++args++caps),hp,aE,false,hp.length⟩ (Q0 T fn.results.toList Q)):av T tab one (.fn f first caps) args hp aE Q:=by
 intro E base H u us hr hF ha
 obtain ⟨fs,cs,rfl,h1,h2⟩:∃ fs cs,u=.func (.func f) fs cs∧fC E.ρ H.get (E.O hp) first fs.toList∧fC E.ρ H.get (E.O hp) caps cs.toList:=by
  cases hF with
  | d h=>cases h with
   | fn ha hb h1 h2=>exact ⟨_,_,rfl,⟨ha,fun i x u hx hu=>.d (h1 i x u hx hu)⟩,⟨hb,fun i x u hx hu=>.d (h2 i x u hx hu)⟩⟩
  | fn ha hb h1 h2=>exact ⟨_,_,rfl,⟨ha,h1⟩,⟨hb,h2⟩⟩
 refine ⟨.fn f (fs.toList++us++cs.toList),rfl,?_⟩
 have hargs:=(h1.append ha).append h2
 obtain ⟨m,L,h1,h2,h3⟩:=hw E base ⟨setArgs .leaf 0 (fs.toList++us++cs.toList),H,false⟩ ⟨hr,rfl,uZ hargs⟩
 obtain ⟨m',M,hm,q1,q2,q3⟩:=eD (one:=one) (L:=L) (f:=fun _ (p:Exit × St)=>eN T fn.results.toList p)
  (P:=fun r=>∃ w H',r=.ret w H'∧∃ E' a hp' amb',Q a hp' amb'∧aS E' base hp' amb' H'∧AR E'.ρ H'.get (E'.O hp') a w∧jO hp.length base E hp H E' hp' H')
  (fun _ _ _ _ _ h=>h) m h2 (fun p hp'=>by
   obtain ⟨E',st',k1,k0,k2,k3⟩:=h3 p hp'
   obtain ⟨e,s'⟩:=p
   have done:(e=.normal∨e=.ret)→(oM T st' fn.results.toList fun as=>Q (Bl as) st'.hp st'.aE)→∃ (_:Nat) (M:List fP),eN T fn.results.toList (e,s')=some M ∧
     pz one M fun r=>∃ w H',r=.ret w H'∧∃ E' a hp' amb',Q a hp' amb'∧aS E' base hp' amb' H'∧AR E'.ρ H'.get (E'.O hp') a w∧jO hp.length base E hp H E' hp' H':=by
    intro he hr
    obtain ⟨ws,as,r1,r2,r4⟩:=kq k2 hr
    refine ⟨0,[.ret (cJ ws) s'.hp],?_,.single ⟨_,_,rfl,E',Bl as,st'.hp,st'.aE,r2,k2.h,Kx r4,k3⟩⟩
    unfold eN
    rcases he with rfl|rfl <;> simp only [r1,Option.map_some]
   cases e with
   | normal=>exact done (.inl rfl) k1
   | ret=>exact done (.inr rfl) k1
   | _=>exact k1.elim)
 refine ⟨m'+1,M,?_,q2,q3⟩
 show RX T tab (m'+1) (.call f _ H)=_
 rw [y8,nT _ _ hn]
 simp only
 rw [jv,hf]
 simp only [hb]
 rw [eA (dD hm) _ _ _ h1]
 exact q1
end
end Go.RM
namespace Go.RM
open Go
section
variable {T : bz} {tab : List XE} {one : Bool}
end
end Go.RM
namespace Go.RM
open Go
section
variable {T : bz} {tab : List XE} {one : Bool}
def vl (a b:AV):Prop:=∀ (g:aF) (O:Nat→Prop) (u:Value),DR g O a u→DR g O b u
theorem vl.refl (a:AV):vl a a:=fun _ _ _ h=>h
theorem vl.nil (b:Bool):vl (.fl (.slice none 0 0)) (.sl [] b):=fun _ _ u h=>by
 cases h with
 | fl=>exact .nil
theorem vl.full {els:List (List AV)}:vl (.sl els true) (.sl els false):=fun _ _ u h=>by
 cases h with
 | nil=>exact .nil
 | sl q1 q2 q3 q4 q5 q6 q7=>exact .sl q1 q2 q3 q4 q5 q6 (fun h=>Bool.noConfusion h)
def vm:List AV→List AV→Prop
 | [],[]=>True
 | a :: l,b :: m=>vl a b∧vm l m
 | _,_=>False
theorem vm.OX {g:aF} {O:Nat→Prop}:∀ {as bs:List AV} {us:List Value},vm as bs→qj g O as us→qj g O bs us
 | [],[],us,_,h=>h
 | a :: l,b :: m,[],_,h=>absurd h.1 (by simp)
 | a :: l,b :: m,u :: us,hs,h=>by
  have ih:=vm.OX (g:=g) (O:=O) (us:=us) hs.2 ⟨by simpa using h.1,fun i a v x y=>h.2 (i+1) a v (by simpa using x) (by simpa using y)⟩
  refine ⟨by simpa using ih.1,fun i x v hx hv=>?_⟩
  cases i with
  | zero=>cases hx;cases hv;exact hs.1 _ _ _ (h.2 0 a u rfl rfl)
  | succ i=>exact ih.2 i x v (by simpa using hx) (by simpa using hv)
 | [],_ :: _,_,hs,_=>hs.elim
 | _ :: _,[],_,hs,_=>hs.elim
theorem ah.soft {F:AV} {args args':List AV} {v:AV} (h:ah T tab one F args v) (hs:vm args' args):ah T tab one F args' v :=
 ⟨h.1,fun X H u us hw hX hF ha=>h.2 X H u us hw hX hF (hs.OX ha)⟩
end
end Go.RM
namespace Go.RM
open Go
section
variable {T : bz} {tab : List XE} {one : Bool} {base : Nat} {E : Env} {hp : List AB} {aE : bR} {H : Hp}
theorem sG (a:Nat) (l:List Nat):within a a l=false:=by
 unfold within
 rw [List.any_eq_false]
 intro k _ h
 rw [Bool.and_eq_true] at h
 have h1:=Nat.le_of_ble_eq_true h.1
 have h2:Nat.ble (k+1) a=true:=h.2
 have h2:=Nat.le_of_ble_eq_true h2
 omega
theorem dn {B S:Bool} {i j n:Nat} {r r' w:List Nat} (h:w=[]∨r=[]):(!conflict ⟨i,r,[],false,n,n⟩ ⟨j,r',w,false,n,n⟩ || B || S)=true:=by
 have:conflict ⟨i,r,[],false,n,n⟩ ⟨j,r',w,false,n,n⟩=false:=by
  unfold conflict
  rcases h with rfl|rfl
  ·simp [sG,meets]
  ·simp [sG,meets]
 rw [this];rfl
theorem jG {B S C:Bool} (h:B=true):(!C || B || S)=true:=by
 rw [h,Bool.or_true,Bool.true_or]
theorem Ky {B S C:Bool} (h:S=true):(!C || B || S)=true:=by
 rw [h,Bool.or_true]
theorem l9 {rec:oT→Option (List fP)} {o:Op} {fr:Nat→AV} {tm:Tr Value} {i:Nat} {rd:Bool} {r w:List Nat} {d:Option Tmp} {K:AV→List AB→Prop} (hr:aS E base hp aE H) (hf:iJ E.ρ H.get (E.O hp) fr tm) (hk:dK o=.plain) (hn:news? o=false) (ht:iT o (aP tm)=some (r,w))
  (hw:wpOp T false o fr hp K):∃ u e E' v hp',aW T rec o i ⟨tm,H,rd⟩=some (u,H.app e,⟨i,r,w,false,H.n,H.n⟩)∧K v hp'∧aS E' base hp' aE (H.app e)∧Ext base E hp H E' hp' (H.app e)∧AR E'.ρ (H.app e).get (E'.O hp') v u ∧
   iJ E'.ρ (H.app e).get (E'.O hp') (s5 fr d v) (dm tm d u)∧(H.app e).n=H.n∧gU T H.n o (aP tm) H.get=some (u,e):=by
 obtain ⟨u,e,E',v,hp',r1,r2,r3,r4,r5⟩:=gi hr hf hw
 have hnn:(H.app e).n=H.n:=lu (nx r1 hn)
 refine ⟨u,e,E',v,hp',?_,r2,r3,r4,r5,nS (fun t=>r4.ar hr.wf (hf t)) r5 d,hnn,r1⟩
 unfold aW
 simp only [hk,ht,r1,hnn]
def Jd (b:List Nat):Bool:=(b.getD 4 0).testBit 0 && ((b.getD 6 0).testBit 0 && ((b.getD 4 0).testBit 1 && ((b.getD 6 0).testBit 1 && ((b.getD 6 0).testBit 2 && ((b.getD 5 0).testBit 4 && (b.getD 6 0).testBit 4)))))
theorem Fs {mt:TypeId} {m k:Operand} {fr:Nat→AV} {K:AV→List AB→Prop} {own:Bool} (hw:wpOp T own (.lookup mt m k false) fr hp K):∃ j,aO fr m=.om j:=by
 have hw:k9 T mt (aO fr m) (aO fr k) false hp K:=hw
 unfold k9 at hw
 split at hw
 ·rename_i j h;exact ⟨j,h⟩
 ·exact hw.elim
end
end Go.RM
namespace Go.RM
open Go
theorem wrap_i64 {n:Int} (h0:0≤n) (h1:n < 9223372036854775808):IntKind.wrap .i64 n=n:=by
 have hm:n % 18446744073709551616=n:=Int.emod_eq_of_lt h0 (by omega)
 show (if (true && decide (n % 18446744073709551616 ≥ 9223372036854775808))=true then n % 18446744073709551616 - 18446744073709551616 else n % 18446744073709551616)=n
 rw [hm,if_neg (by simp;omega)]
theorem Kz {w m n:Nat} (hm:m < 2 ^ w) (hn:n < 2 ^ w):(BitVec.ofInt w (m:Int) ||| BitVec.ofInt w (n:Int)).toNat=m ||| n:=by
 rw [BitVec.toNat_or,BitVec.ofInt_natCast,BitVec.ofInt_natCast,BitVec.toNat_ofNat,BitVec.toNat_ofNat,Nat.mod_eq_of_lt hm,Nat.mod_eq_of_lt hn]
theorem vn {P:Program} {t:TypeId} {x y:Operand} {m j:Nat} (hj:j < 8):dz P .shr t x y (.int .u8 (m:Int)) (.int .i64 (j:Int))=some (.int .u8 ((m / 2 ^ j:Nat):Int),.none):=by
 have h:dz P .shr t x y (.int .u8 (m:Int)) (.int .i64 (j:Int))=some (.int .u8 ((m:Int).fdiv (2 ^ j)),.none):=by
  match j,hj with
  | 0,_|1,_|2,_|3,_|4,_|5,_|6,_|7,_=>rfl
 rw [h,Int.fdiv_eq_ediv_of_nonneg _ (Int.pow_nonneg (by decide)),Int.natCast_ediv,Int.natCast_pow]
 rfl
theorem vo {P:Program} {t:TypeId} {x y:Operand} {m:Nat}:dz P .rem t x y (.int .u8 (m:Int)) (.int .u8 2)=some (.int .u8 ((m % 2:Nat):Int),.none):=by
 have h:dz P .rem t x y (.int .u8 (m:Int)) (.int .u8 2)=some (.int .u8 ((m:Int).tmod 2),.none):=rfl
 rw [h]
 rfl
section
variable {T : bz} {a b : AV} {t : TypeId} {x y : Operand} {hp : List AB} {K : AV → List AB → Prop}
theorem Ep {m j:Nat} (ha:a=.fl (.int .u8 (m:Int))) (hb:b=.fl (.int .i64 (j:Int))) (hj:j < 8) (h:K (.fl (.int .u8 ((m / 2 ^ j:Nat):Int))) hp):aJ T .shr t x y a b hp K:=by
 subst ha hb
 exact ⟨_,_,rfl,rfl,.int .u8 ((m / 2 ^ j:Nat):Int),vn hj,rfl,h⟩
theorem Er {m:Nat} (ha:a=.fl (.int .u8 (m:Int))) (hb:b=.fl (.int .u8 2)) (h:K (.fl (.int .u8 ((m % 2:Nat):Int))) hp):aJ T .rem t x y a b hp K:=by
 subst ha hb
 exact ⟨_,_,rfl,rfl,.int .u8 ((m % 2:Nat):Int),vo,rfl,h⟩
end
end Go.RM
namespace Go.RM
open Go
section
variable {T : bz} {tab : List XE} {one : Bool} {fl base : Nat} {E E' E2 : Env} {hp hp' hp2 : List AB} {aE amb' : bR} {H H' H2 : Hp} {ρ ρ2 : Nat → Nat → Option Nat} {g g2 : aF} {O O2 : Nat → Prop}
end
end Go.RM
namespace Go.RM
open Go
section
variable {T : bz} {tab : List XE} {one : Bool} {base : Nat} {E : Env} {hp : List AB} {aE : bR} {H : Hp}
inductive Fq (hp:List AB):AV→AV→Prop
 | fz {a v:AV}:Fz hp a v→Fq hp a v
 | ptr {j aB o es:Nat} {cs:List AV}:hp[j]?=some (.cells cs es aB)→cK cs=true→Fq hp (.ptr j aB o) (.pt cs o)
 | fn {f:FuncId} {a b x y:List AV}:a.length=x.length→b.length=y.length→(∀ (i:Nat) (u v:AV),a[i]?=some u→x[i]?=some v→Fq hp u v)→(∀ (i:Nat) (u v:AV),b[i]?=some u→y[i]?=some v→Fq hp u v)→Fq hp (.fn f a b) (.fn f x y)
theorem AR.KA {ρ:Nat→Nat→Option Nat} {g:aF} {O:Nat→Prop} {f:FuncId} {a b:List AV} {u:Value} (h:AR ρ g O (.fn f a b) u):∃ a' b',u=.func (.func f) a' b'∧fC ρ g O a a'.toList∧fC ρ g O b b'.toList:=by
 cases h with
 | d h=>cases h with
  | fn ha hb h1 h2=>exact ⟨_,_,rfl,⟨ha,fun i x u hx hu=>.d (h1 i x u hx hu)⟩,⟨hb,fun i x u hx hu=>.d (h2 i x u hx hu)⟩⟩
 | fn ha hb h1 h2=>exact ⟨_,_,rfl,⟨ha,h1⟩,⟨hb,h2⟩⟩
theorem Fq.dr {X:Nat→Prop} (h:aS E base hp aE H) (hX:∀ k,X k→E.X k) {r v:AV} (hf:Fq hp r v):∀ {u:Value},AR E.ρ H.get (E.O hp) r u→DR H.get X v u:=by
 have weak:∀ {v:AV} {u:Value},DR H.get (E.O hp) v u→DR H.get X v u:=fun h=>h.mono fun k b hk ho=>⟨hk,fun hx=>ho (.inr (hX k hx))⟩
 induction hf with
 | fz hz=>intro u ha;exact hz.dr h hX ha
 | ptr h1 hd =>
  rename_i j aB o es cs
  intro u ha
  obtain ⟨k,hk,rfl⟩:=ha.cM
  obtain ⟨cs',q1,q2⟩:=h.cells h1 hk
  have hok:Own E.ρ hp k:=⟨j,_,aB,h1,rfl,hk⟩
  have hnx:¬ X k:=fun hx=>h.iH k hok (hX k hx)
  have:=DR.pt (g:=H.get) (O:=X) (l:=cs) (k:=k) (d:=0) (o:=o) (cs:=cs') q1 hnx (by rw [Nat.zero_add,q2.1];exact Nat.le_refl _) (fun i a u hx hu=>by
   rw [Nat.zero_add] at hu
   exact weak ((q2.2 i a u hx hu).deep (gu hd i a hx)))
  rw [Nat.zero_add] at this
  exact this
 | @fn f a b x y h1 h2 _ _ ih1 ih2 =>
  intro u ha
  obtain ⟨a',b',rfl,p1,p2⟩:=ha.KA
  refine .fn (by rw [←h1];exact p1.1) (by rw [←h2];exact p2.1) (fun i v w hv hw=>?_) (fun i v w hv hw=>?_)
  ·have hi:i < a.length:=by rw [h1];exact (List.getElem?_eq_some_iff.1 hv).1
   have hai:a[i]?=some a[i]:=List.getElem?_eq_getElem hi
   exact ih1 i _ v hai hv (p1.2 i _ w hai hw)
  ·have hi:i < b.length:=by rw [h2];exact (List.getElem?_eq_some_iff.1 hv).1
   have hai:b[i]?=some b[i]:=List.getElem?_eq_getElem hi
   exact ih2 i _ v hai hv (p2.2 i _ w hai hw)
def gR (hp:List AB):List AV→List AV→Prop
 | [],[]=>True
 | r :: rs,v :: vs=>Fq hp r v∧gR hp rs vs
 | _,_=>False
theorem gR.dr {X:Nat→Prop} (h:aS E base hp aE H) (hX:∀ k,X k→E.X k):∀ {rs vs:List AV} {us:List Value},gR hp rs vs→fC E.ρ H.get (E.O hp) rs us→qj H.get X vs us
 | [],[],us,_,ha=>⟨ha.1,fun i a u hx=>by cases hx⟩
 | r :: rs,v :: vs,[],_,ha=>absurd ha.1 (by simp)
 | r :: rs,v :: vs,u :: us,hf,ha=>by
  have:=gR.dr h hX hf.2 (us:=us) ⟨by simpa using ha.1,fun i a u x y=>ha.2 (i+1) a u (by simpa using x) (by simpa using y)⟩
  refine ⟨by simp [this.1],fun i a w hx hw=>?_⟩
  cases i with
  | zero=>cases hx;cases hw;exact hf.1.dr h hX (ha.2 0 r u rfl rfl)
  | succ i=>exact this.2 i a w (by simpa using hx) (by simpa using hw)
 | [],_ :: _,_,hf,_=>hf.elim
 | _ :: _,[],_,hf,_=>by simp [gR] at hf
theorem gR.OZ {f:FuncId} {a b x y:List AV} (h1:gR hp a x) (h2:gR hp b y):Fq hp (.fn f a b) (.fn f x y):=by
 have key:∀ {a x:List AV},gR hp a x→a.length=x.length∧∀ (i:Nat) (u v:AV),a[i]?=some u→x[i]?=some v→Fq hp u v:=by
  intro a
  induction a with
  | nil =>
   intro x h
   cases x with
   | nil=>exact ⟨rfl,fun i u v hu=>by cases hu⟩
   | cons=>exact h.elim
  | cons r rs ih =>
   intro x h
   cases x with
   | nil=>simp [gR] at h
   | cons v vs =>
    obtain ⟨l,k⟩:=ih h.2
    refine ⟨by simp [l],fun i u w hu hw=>?_⟩
    cases i with
    | zero=>cases hu;cases hw;exact h.1
    | succ i=>exact k i u w (by simpa using hu) (by simpa using hw)
 exact .fn (key h1).1 (key h2).1 (key h1).2 (key h2).2
theorem ah.xJ {F F':AV} {args vs:List AV} {v:AV} (h:ah T tab one F' vs v) (hF:Fq hp F F') (hz:gR hp args vs) (hfree:fm v) {Q:AV→List AB→bR→Prop} (hq:Q v hp aE):av T tab one F args hp aE Q:=by
 intro E base H u us hr hf ha
 obtain ⟨hd,h⟩:=h
 obtain ⟨goal,hg,m,L,h1,h2,h3⟩:=h E.X H u us hr.wf (fun k hk=>hr.xn k hk) (hF.dr hr (fun _ h=>h) hf) (hz.dr hr (fun _ h=>h) ha)
 refine ⟨goal,hg,m,L,h1,h2,fun r hm=>?_⟩
 obtain ⟨w,H',rfl,hn,hwf,hsame,hlo,hv⟩:=h3 r hm
 have e:Ext base E hp H E hp H':=⟨hn,rfl,rfl,rfl,fun _ _ _ h=>h,fun _ h=>.inl h,fun k hk _=>hsame k hk,by have:=hr.bn;omega⟩
 refine ⟨w,H',rfl,E,v,hp,aE,hq,⟨hwf,fun j x aB hj hvx=>?_,hr.inj,fun j v k hk=>Nat.lt_of_lt_of_le (hr.rn j v k hk) hn,hr.fresh,hr.new,hr.sup,hr.iH,hr.dx,hr.ds,fun k hk=>Nat.lt_of_lt_of_le (hr.sn k hk) hn,fun k hk=>Nat.lt_of_lt_of_le (hr.xn k hk) hn,hr.oK,Nat.le_trans hr.bn hn,aE.st hr.aE (fun k hk=>hsame k (hr.sn k hk)) hn⟩,.d (hfree.2 _ _ _ _ hv),e.FY⟩
 rcases hr.fQ j x aB hj hvx with ⟨k,b',q1,q2,q3⟩|q
 ·exact .inl ⟨k,b',q1,by rw [hsame k (hr.wf.lt q2)];exact q2,e.br hr.wf q3⟩
 ·exact .inr q
theorem gR.nil:gR hp [] []:=trivial
theorem gR.cons {a x:AV} {as xs:List AV} (h:Fq hp a x) (k:gR hp as xs):gR hp (a :: as) (x :: xs):=⟨h,k⟩
theorem Fq.deep {v:AV} (h:v.deep=true):Fq hp v v:=.fz (.deep h)
end
end Go.RM
namespace Go.RM
open Go
section
variable {T : bz} {tab : List XE} {one : Bool} {mu : Tmp → Bool} {dst : Option Tmp} {fr : Nat → AV} {hp : List AB} {aE : bR} {rd : Bool} {fl : Nat} {KS : bF → Prop}
theorem om {r:Operand} {name:String} {l:List Operand} {tys} {F:AV} (hF:Eh T.P (aO fr r) name=F) (h:force F fun F=>eP (l.map (aO fr)) fun as=>av T tab one F as hp aE fun v hp' amb'=>ee dst fr v fun fr'=>KS ⟨fr',hp',amb',rd,fl⟩) :
  qt T tab one mu dst (.call ⟨.invoke r name,l.toArray,tys⟩) fr hp aE rd fl KS:=by
 subst hF
 exact h
end
end Go.RM
namespace Go.RM
open Go
section
variable {T : bz} {tab : List XE} {one : Bool} {mu : Tmp → Bool} {KE : Exit → bF → Prop} {st : bF}
theorem xK {l:List Oper} (hd:l.any r0=false):eM l.toArray=l.length:=by
 unfold eM
 have:l.findIdx? r0=none:=by
  rw [List.findIdx?_eq_none_iff]
  intro x hx
  rw [List.any_eq_false] at hd
  simpa using hd x hx
 simp only [this]
theorem Rt {id:Nat} {l:List Oper} (hd:l.any r0=false) (h:iQ T tab mu l.toArray l 0 (fun _=>0) [] st (KE .normal)):mN T tab one mu (.region id l.toArray true) st KE:=by
 refine c5 (xK hd) rfl rfl ?_
 rw [List.take_length,List.drop_length]
 exact h
end
end Go.RM
namespace Go.RM
open Go
section
variable {T : bz} {tab : List XE} {one : Bool} {mu : Tmp → Bool} {own : Bool} {fr : Nat → AV} {hp : List AB} {K : AV → List AB → Prop} {t : TypeId} {und : TypeDesc} {s by' : Nat} {z : Option Value} {agg : Bool} {bW : List (Nat × Nat)} {cu : Nat}
theorem Ru {a:Operand} {cs:List AV} {o:Nat} (ha:aO fr a=.pt cs o) (ht:T.ty.get t=some ⟨und,s,by',z,true,bW,cu⟩) (hl:Nat.ble (o+s) cs.length=true) (h:K (.ag ((cs.drop o).take s)) hp):wpOp T own (.load t a) fr hp K:=by
 show eB T t (aO fr a) hp K
 unfold eB
 simp only [ha,ht]
 exact ⟨Nat.le_of_ble_eq_true hl,h⟩
theorem QK {a:Operand} {cs:List AV} {o:Nat} {v:AV} (ha:aO fr a=.pt cs o) (ht:T.ty.get t=some ⟨und,s,by',z,false,bW,cu⟩) (hv:cs[o]?=some v) (h:K v hp):wpOp T own (.load t a) fr hp K:=by
 show eB T t (aO fr a) hp K
 unfold eB
 simp only [ha,ht]
 exact ⟨v,hv,h⟩
theorem Rv {a:Operand} {j aB o es:Nat} {cs:List AV} (ha:aO fr a=.ptr j aB o) (ht:T.ty.get t=some ⟨und,s,by',z,true,bW,cu⟩) (hj:hp[j]?=some (.cells cs es aB)) (hl:Nat.ble (o+s) cs.length=true) (h:K (.ag ((cs.drop o).take s)) hp):wpOp T own (.load t a) fr hp K:=by
 show eB T t (aO fr a) hp K
 unfold eB
 simp only [ha,ht]
 exact ⟨cs,es,hj,Nat.le_of_ble_eq_true hl,h⟩
theorem KB {a:Operand} {j aB o es:Nat} {cs:List AV} {v:AV} (ha:aO fr a=.ptr j aB o) (ht:T.ty.get t=some ⟨und,s,by',z,false,bW,cu⟩) (hj:hp[j]?=some (.cells cs es aB)) (hv:cs[o]?=some v) (h:K v hp):wpOp T own (.load t a) fr hp K:=by
 show eB T t (aO fr a) hp K
 unfold eB
 simp only [ha,ht]
 exact ⟨cs,es,hj,v,hv,h⟩
theorem Rw {a:Operand} {i:Nat} {cs:List AV} {o off sz:Nat} {fs} (ha:aO fr a=.pt cs o) (ht:T.ty.get t=some ⟨.struct fs,s,by',z,agg,bW,cu⟩) (hf:bW[i]?=some (off,sz)) (h1:Nat.ble 1 sz=true) (h:K (.pt cs (o+off)) hp):wpOp T own (.fieldAddr t a i) fr hp K:=by
 show ja T t (aO fr a) i hp K
 unfold ja
 simp only [ha,ht]
 exact ⟨off,sz,hf,Nat.le_of_ble_eq_true h1,h⟩
theorem Rx {a:Operand} {i:Nat} {j aB o off sz:Nat} {fs} (ha:aO fr a=.ptr j aB o) (ht:T.ty.get t=some ⟨.struct fs,s,by',z,agg,bW,cu⟩) (hf:bW[i]?=some (off,sz)) (h1:Nat.ble 1 sz=true) (h:K (.ptr j aB (o+off)) hp):wpOp T own (.fieldAddr t a i) fr hp K:=by
 show ja T t (aO fr a) i hp K
 unfold ja
 simp only [ha,ht]
 exact ⟨off,sz,hf,Nat.le_of_ble_eq_true h1,h⟩
theorem Ry {v:Value} (ht:T.ty.get t=some ⟨und,s,by',some v,agg,bW,cu⟩) (h1:v.cells.toList.all aV=true) (h:K (.ptr hp.length 0 0) (hp++[.cells (v.cells.toList.map .fl) 0 0])):wpOp T own (.alloc t) fr hp K:=by
 show ql T t hp K
 unfold ql
 simp only [ht]
 exact ⟨h1,h⟩
theorem Q1 {x:Operand} (h:force (aO fr x) fun v=>xB own v hp K):wpOp T own (.box t x) fr hp K:=h
theorem Qh {v:AV} (ho:own=false) (h1:v.jC=true) (h2:v.cells.all AV.one=true) (h3:cK v.cells=true) (h:K (.pt v.cells 0) hp):xB own v hp K:=by
 subst ho
 exact ⟨h1,h2,h3,h⟩
theorem Rz {v:AV} (ho:own=true) (h1:v.jC=true) (h2:v.cells.all AV.one=true) (h:K (.ptr hp.length 0 0) (hp++[.cells v.cells 0 0])):xB own v hp K:=by
 subst ho
 exact ⟨h1,h2,h⟩
theorem N4 {a x:Operand} (h:force (aO fr x) fun v=>cG T t (aO fr a) v hp K):wpOp T own (.store t a x) fr hp K:=h
theorem Mw {a v:AV} {j aB o es:Nat} {cs:List AV} (ha:a=.ptr j aB o) (ht:T.ty.get t=some ⟨und,s,by',z,agg,bW,cu⟩) (hj:hp[j]?=some (.cells cs es aB)) (h1:v.jC=true) (h2:v.cells.all AV.one=true) (h3:v.cells.length=s) (h4:Nat.ble (o+s) cs.length=true) (h:K .bP (hp.set j (.cells (cN cs v.cells o) es aB))):cG T t a v hp K:=by
 unfold cG
 simp only [ha,ht]
 exact ⟨cs,es,hj,h1,h2,h3,Nat.le_of_ble_eq_true h4,h⟩
theorem N5 {l:List (Nat × Operand)} (h:jE (l.map fun p=>(p.1,aO fr p.2)) fun ps=>lY T t ps hp K):wpOp T own (.build t l.toArray) fr hp K:=h
theorem KC {l:List (Nat × Operand)} {len:Nat} (h:jE (l.map fun p=>(p.1,aO fr p.2)) fun ps=>dh T own t len ps hp K):wpOp T own (.buildSlice t len l.toArray) fr hp K:=h
theorem RA {P:List (Nat × AV)→Prop} (h:P []):jE (([]:List (Nat × Operand)).map fun p=>(p.1,aO fr p.2)) P:=h
theorem RB {i:Nat} {x:Operand} {l:List (Nat × Operand)} {P:List (Nat × AV)→Prop} (h:force (aO fr x) fun a=>jE (l.map fun p=>(p.1,aO fr p.2)) fun l=>P ((i,a) :: l)):jE (((i,x) :: l).map fun p=>(p.1,aO fr p.2)) P:=h
theorem QV {v:Value} {parts:List (Nat × AV)} {cs:List AV} (ht:T.ty.get t=some ⟨und,s,by',some v,true,bW,cu⟩) (h1:v.cells.toList.all aV=true) (h2:cH (fY und bW cu) (v.cells.toList.map .fl) parts=some cs) (h:K (.ag cs) hp):lY T t parts hp K:=by
 unfold lY
 simp only [ht]
 exact ⟨h1,cs,h2,h⟩
theorem RC {len:Nat} {parts:List (Nat × AV)} {inf:rX} (ho:own=false) (hi:elem? T t=some inf) (h1:Nat.ble (len * inf.size) 65536=true) (h2:bk inf=true) (h3:kn inf.size 0 parts=true) (h4:Nat.beq parts.length len=true) (h5:cK (parts.map (·.2.cells)).flatten=true) (h:K (.sl (parts.map (·.2.cells)) true) hp):dh T own t len parts hp K:=by
 subst ho
 unfold dh
 simp only [hi]
 exact ⟨h1,h2,h3,h4,h5,h⟩
theorem RD {len:Nat} {parts:List (Nat × AV)} {inf:rX} (ho:own=true) (hi:elem? T t=some inf) (h1:Nat.ble (len * inf.size) 65536=true) (h2:bk inf=true) (h3:kn inf.size 0 parts=true) (h4:Nat.beq parts.length len=true) (h:K (.bO hp.length 0 0 len len) (hp++[.cells (parts.map (·.2.cells)).flatten inf.size 0])):dh T own t len parts hp K:=by
 subst ho
 unfold dh
 simp only [hi]
 exact ⟨h1,h2,h3,h4,h⟩
theorem Q2 {x:Operand} {i:Nat} {vs:List AV} {v:AV} (ha:aO fr x=.tp vs) (hv:vs[i]?=some v) (h:K v hp):wpOp T own (.extract x i) fr hp K:=by
 show jl (aO fr x) i hp K
 rw [ha]
 exact ⟨v,hv,h⟩
theorem Re {a x:Operand} {e:TypeId} {els:List (List AV)} {f:Bool} {j:Int} {el:List AV} (ha:aO fr a=.sl els f) (hx:aO fr x=.fl (.int .i64 j)) (ht:T.ty.get t=some ⟨.slice e,s,by',z,agg,bW,cu⟩) (hat:els[j.toNat]?=some el) (h0:0≤j) (hl:el.length=cu) (h:K (.pt el 0) hp):wpOp T own (.indexAddr t a x) fr hp K:=by
 show cr T t (aO fr a) (aO fr x) hp K
 rw [ha,hx]
 unfold cr
 simp only [asInt,ht]
 exact ⟨el,⟨h0,hat⟩,hl,h⟩
theorem RE {a x:Operand} {e:TypeId} {i aB o n c:Nat} {j:Int} (ha:aO fr a=.bO i aB o n c) (hx:aO fr x=.fl (.int .i64 j)) (ht:T.ty.get t=some ⟨.slice e,s,by',z,agg,bW,cu⟩) (h0:0≤j∧j < (n:Int)) (h:K (.ptr i aB (o+j.toNat * cu)) hp):wpOp T own (.indexAddr t a x) fr hp K:=by
 show cr T t (aO fr a) (aO fr x) hp K
 rw [ha,hx]
 unfold cr
 simp only [asInt,ht]
 exact ⟨h0,h⟩
theorem RF {a x:Operand} {e:TypeId} {len:Nat} {cs:List AV} {o:Nat} {j:Int} (ha:aO fr a=.pt cs o) (hx:aO fr x=.fl (.int .i64 j)) (ht:T.ty.get t=some ⟨.array len e,s,by',z,agg,bW,cu⟩) (h0:0≤j∧j < (len:Int)) (h:K (.pt cs (o+j.toNat * cu)) hp):wpOp T own (.indexAddr t a x) fr hp K:=by
 show cr T t (aO fr a) (aO fr x) hp K
 rw [ha,hx]
 unfold cr
 simp only [asInt,ht]
 exact ⟨h0,h⟩
theorem RG {a x:Operand} {e:TypeId} {len:Nat} {i aB o:Nat} {j:Int} (ha:aO fr a=.ptr i aB o) (hx:aO fr x=.fl (.int .i64 j)) (ht:T.ty.get t=some ⟨.array len e,s,by',z,agg,bW,cu⟩) (h0:0≤j∧j < (len:Int)) (h:K (.ptr i aB (o+j.toNat * cu)) hp):wpOp T own (.indexAddr t a x) fr hp K:=by
 show cr T t (aO fr a) (aO fr x) hp K
 rw [ha,hx]
 unfold cr
 simp only [asInt,ht]
 exact ⟨h0,h⟩
end
end Go.RM
namespace Go.RM
open Go
section
variable {T : bz} {own : Bool} {fr : Nat → AV} {hp : List AB} {K : AV → List AB → Prop} {t : TypeId}
theorem RH {l c:Operand} {n:Nat} {inf:rX} (hi:elem? T t=some inf) (hl:aO fr l=.fl (.int .i64 (Int.ofNat n))) (hc:aO fr c=.fl (.int .i64 (Int.ofNat n))) (hb:inf.bytes * n≤140737488355328∧n≤9223372036854775807) (hz:bk inf=true) (h:K (.bO hp.length 0 0 n n) (hp++[.cells ((bK (zeroCells inf) (n * inf.size)).map .fl) inf.size 0])):wpOp T own (.makeSlice t l c) fr hp K:=by
 show uU T t (aO fr l) (aO fr c) hp K
 unfold uU
 simp only [hi,hl,hc]
 refine ⟨n,n,rfl,rfl,⟨Nat.le_refl _,hb⟩,hz,?_⟩
 rw [show Nat.beq n n=true from Nat.beq_refl n]
 exact h
end
end Go.RM
namespace Go.RM
open Go
section
variable {T : bz} {own : Bool} {fr : Nat → AV} {hp : List AB} {K : AV → List AB → Prop} {s x : Operand} {t u e : TypeId} {a1 a2 a3 a4 a5 a6} {els : List (List AV)} {f : Bool} {inf : rX}
end
end Go.RM
namespace Go.RM
open Go
theorem Bw {w m n:Nat} (hm:m < 2 ^ w) (hn:n < 2 ^ w):(BitVec.ofInt w (m:Int) &&& BitVec.ofInt w (n:Int)).toNat=m &&& n:=by
 rw [BitVec.toNat_and,BitVec.ofInt_natCast,BitVec.ofInt_natCast,BitVec.toNat_ofNat,BitVec.toNat_ofNat,Nat.mod_eq_of_lt hm,Nat.mod_eq_of_lt hn]
end Go.RM
namespace Go.RM
open Go
section
variable {T : bz} {tab : List XE} {one : Bool} {fl base : Nat} {E E' E2 : Env} {hp hp' hp2 : List AB} {aE amb' : bR} {H H' H2 : Hp} {ρ ρ2 : Nat → Nat → Option Nat} {g g2 : aF} {O O2 : Nat → Prop}
abbrev Es (T:bz) (tab:List XE) (base:Nat) (ops:Array Oper) (c:Nat) (K:bF→Prop) (l:List Oper) (i:Nat) (evs:List Ev) (st:bF) (tr:Nat→bX) (s:St):Prop :=
 ∃ m L,ek T (RX T tab m) ops l (pM T (RX T tab m) ops c) i s evs=some L∧∀ s' ∈ L,∃ E' st',K st'∧st'.fl=st.fl∧ld E' base st' s'∧jO st.fl base (tr 0).E (tr 0).hp (tr 0).H E' st'.hp s'.hp
theorem C9 {mu:Tmp→Bool} {ops:Array Oper} {o:Oper} {l:List Oper} {i:Nat} {bt:Nat→Nat} {acc:List gC} {evs:List Ev} {st:bF} {K:bF→Prop} {tr:Nat→bX} {s:St} {c:Nat} {X:List Oper→Nat→(Nat→Nat)→List gC→bF→Prop}
  (hX:∀ {bt:Nat→Nat} {acc:List gC} {evs:List Ev} {st:bF} {tr:Nat→bX} {s:St},X l (i+1) bt acc st→jP base st.aE tr (i+1)→(tr (i+1)).hp=st.hp→(tr (i+1)).H=s.hp→s.rd=st.rd→fc tr (i+1) bt st.fr s.fr→oz tr (i+1) acc evs→Es T tab base ops c K l (i+1) evs st tr s)
  (h:bV ops.toList o.guard st.fr (dN T tab mu o.dst o.op i bt st.fr st.hp fun fr' hp' bt' x=>X l (i+1) bt' (x :: acc) ⟨fr',hp',st.aE,st.rd,st.fl⟩)
   (ee o.dst st.fr (.tp []) fun fr'=>X l (i+1) (gT o.dst bt 0) (⟨i,[],false,false⟩ :: acc) ⟨fr',st.hp,st.aE,st.rd,st.fl⟩))
  (ht:jP base st.aE tr i) (h1:(tr i).hp=st.hp) (h2:(tr i).H=s.hp) (h3:s.rd=st.rd) (hb:fc tr i bt st.fr s.fr) (he:oz tr i acc evs):Es T tab base ops c K (o :: l) i evs st tr s:=by
 have hrel:=ht.rel i (Nat.le_refl _)
 have hfr:iJ (tr i).E.ρ (tr i).H.get ((tr i).E.O (tr i).hp) st.fr s.fr:=fun t=>(ht.ext _ i (hb t).1 (Nat.le_refl _)).ar (ht.rel _ (hb t).1).wf (hb t).2
 have hz0:(snoc tr i (tr i) 0)=tr 0:=aQ (Nat.zero_le _)
 rcases lf hfr h with ⟨hg,h⟩|⟨hg,h⟩
 ·
  have go:∀ (z:bX) (v:AV) (u:Value) (b:Nat) (x:gC) (t:Tc) (m0:Nat),aS z.E base z.hp st.aE z.H→Ext base (tr i).E (tr i).hp (tr i).H z.E z.hp z.H→b≤i+1→(snoc tr i z b).ar v u→x.i=i→I4 (snoc tr i z) x t →
    (∀ m,m0≤m→aW T (RX T tab m) o.op i s=some (u,z.H,t))→X l (i+1) (gT o.dst bt b) (x :: acc) ⟨s5 st.fr o.dst v,z.hp,st.aE,st.rd,st.fl⟩ →
    Es T tab base ops c K (o :: l) i evs st tr s:=by
   intro z v u b x t m0 hz he' hbi hv hxi hx hd hw
   obtain ⟨m,L,r1,r2⟩:=hX (s:=⟨dm s.fr o.dst u,z.H,s.rd⟩) (evs:=⟨o,s,u,z.H,t⟩ :: evs) hw (ht.snoc hz he') (by rw [aM (Nat.lt_succ_self _)]) (by rw [aM (Nat.lt_succ_self _)]) h3 (hb.put hbi hv o.dst) (.cons (he.snoc (Nat.le_refl _)) hxi hx)
   rw [aQ (Nat.zero_le _)] at r2
   refine ⟨max m0 m,L,?_,r2⟩
   rw [ey,hg]
   simp only [cond_true,hd _ (Nat.le_max_left _ _)]
   exact lW (dD (Nat.le_max_right m0 m)) ops (fun _ _ _=>A6 (dD (Nat.le_max_right m0 m))) _ _ _ _ _ r1
  unfold dN at h
  split at h
  ·rename_i f args hk
   have h:=dP (aY h)
   obtain ⟨hF,vs,v,hhand,⟨hvd,hpure⟩,h⟩:=h
   have hF':=(rH hfr f).deep hF
   have hget:({s.hp with lo:=s.hp.n}:Hp).get=(tr i).H.get:=by rw [h2];rfl
   obtain ⟨goal,hgo,m0,L,q1,q2,q3⟩:∃ goal,cD (jr T.P s.fr f) (args.map (aP s.fr))=some goal ∧
     ∃ m L,RX T tab m (gI {s.hp with lo:=s.hp.n} goal)=some L∧(true=true→∃ r,L=[r])∧∀ r ∈ L,∃ w H',r=.ret w H' ∧
      ({s.hp with lo:=s.hp.n}:Hp).n≤H'.n∧Wf H'∧(∀ k,k < ({s.hp with lo:=s.hp.n}:Hp).n→H'.get k=({s.hp with lo:=s.hp.n}:Hp).get k)∧min ({s.hp with lo:=s.hp.n}:Hp).lo ({s.hp with lo:=s.hp.n}:Hp).n≤H'.lo∧DR H'.get ((tr i).E.O (tr i).hp) v w:=by
    rcases hhand with ⟨rfl,hA⟩|⟨hz,hfree⟩
    ·have hA':=(cX hfr args).deep hA
     exact hpure ((tr i).E.O (tr i).hp) {s.hp with lo:=s.hp.n} _ _ (by rw [h2] at hrel;exact hrel.wf) (fun k hk=>by
      have:k < (tr i).H.n:=hk.elim (fun h=>hrel.iI h) (hrel.xn k)
      rw [h2] at this;exact this) (by rw [hget];exact hF') (by rw [hget];exact hA')
    ·obtain ⟨goal,hgo,m0,L,q1,q2,q3⟩:=hpure (tr i).E.X {s.hp with lo:=s.hp.n} _ _ (by rw [h2] at hrel;exact hrel.wf) (fun k hk=>by
      have:k < (tr i).H.n:=hrel.xn k hk
      rw [h2] at this;exact this) (by rw [hget];exact hF'.mono fun k b hk ho=>⟨hk,fun hx=>ho (.inr hx)⟩) (by
       rw [hget]
       rw [←h1] at hz
       exact hz.dr hrel (fun _ h=>h) (cX hfr args))
     refine ⟨goal,hgo,m0,L,q1,q2,fun r hm=>?_⟩
     obtain ⟨w,H',e1,e2,e3,e4,e5,e6⟩:=q3 r hm
     exact ⟨w,H',e1,e2,e3,e4,e5,hfree.2 _ _ _ _ e6⟩
   obtain ⟨r,hr⟩:=q2 rfl
   subst hr
   obtain ⟨w,H',rfl,hn,hwf,hsame,hlo,hdr⟩:=q3 r (by simp)
   obtain ⟨g1,g2⟩:=hrel.grow (H':={H' with lo:=s.hp.lo}) (by rw [h2];exact hn) hwf (fun k hk=>by
    have:=hsame k (by rw [←h2];exact hk)
    rw [h2];exact this) (by rw [h2];exact Nat.min_le_left _ _)
   refine go ⟨(tr i).E,st.hp,{H' with lo:=s.hp.lo}⟩ v w (i+1) ⟨i,[],true,true⟩ ⟨i,[],[],true,s.hp.n,H'.n⟩ m0 (by rw [←h1];exact g1) (by rw [←h1];exact g2) (Nat.le_refl _) ?_ rfl ?_ (fun m hm=>?_) (bE h)
   ·rw [aM (Nat.lt_succ_self _)]
    refine .d ?_
    show DR H'.get ((tr i).E.O st.hp) v w
    rw [←h1];exact hdr
   ·refine ⟨rfl,by rw [aQ (Nat.le_refl _),h2],by rw [aM (Nat.lt_succ_self _)],fun h=>Bool.noConfusion h,rfl,fun k hk=>(by cases hk),fun k hk=>(by cases hk)⟩
   ·unfold aW
    simp only [hk,hgo,dD hm _ _ q1]
    have:Nat.ble s.hp.n H'.lo=true:=Nat.ble_eq_true_of_le (by
     have:min s.hp.n s.hp.n≤H'.lo:=hlo
     omega)
    rw [kU this]
  ·exact h.elim
  ·rename_i hk
   obtain ⟨a,hacc,hw⟩:=h
   have hw':=hw
   rw [←h1] at hw'
   obtain ⟨r,w,ht1,ht2,ht3⟩:=nW ht hb hacc hw'
   have evr:∀ (z:bX) (u:Value) (e:bN),gU T s.hp.n o.op (aP s.fr) s.hp.get=some (u,e)→z.H=s.hp.app e→I4 (snoc tr i z) ⟨i,a,news? o.op,false⟩ ⟨i,r,w,false,s.hp.n,(s.hp.app e).n⟩:=by
    intro z u e hop hz
    refine ⟨rfl,by rw [aQ (Nat.le_refl _),h2],by rw [aM (Nat.lt_succ_self _),hz],fun hal _=>(lu (nx hop hal)).symm,rfl,fun k hk=>?_,fun k hk=>?_⟩
    ·obtain ⟨p,p1,p2,p3⟩:=ht2 k hk;exact ⟨p,p1,p2,p3.snoc (Nat.le_refl _)⟩
    ·obtain ⟨p,p1,p2,p3⟩:=ht3 k hk;exact ⟨p,p1,p2,p3.snoc (Nat.le_refl _)⟩
   have drw:∀ (u:Value) (e:bN) (m:Nat),gU T s.hp.n o.op (aP s.fr) s.hp.get=some (u,e)→aW T (RX T tab m) o.op i s=some (u,s.hp.app e,⟨i,r,w,false,s.hp.n,(s.hp.app e).n⟩):=by
    intro u e m hop
    unfold aW
    simp only [hk,ht1,hop]
   by_cases hm:∃ x,u7 o.op st.fr=some [x]
   ·obtain ⟨x,hm⟩:=hm
    have hbirth:gW o.op st.fr bt i=l6 bt x:=by unfold gW;rw [hm]
    have hbx:=hb.eval x
    have eb:=ht.ext _ i hbx.1 (Nat.le_refl _)
    obtain ⟨u,v,r1,r2,r3,r4⟩:=qv (ρ2:=(tr (l6 bt x)).E.ρ) (g2:=(tr (l6 bt x)).H.get) (O2:=(tr (l6 bt x)).E.O (tr (l6 bt x)).hp) (n:=s.hp.n) hfr hm (fun y hy=>by
     obtain rfl:=List.mem_singleton.1 hy;exact hbx.2) (fun k b hk ho=>(eb.keep (ht.rel _ hbx.1).wf k b hk ho).1) hw
    rw [h2] at r1
    have hz:(tr i).H=s.hp.app .none:=h2
    rw [hbirth] at r2
    refine go (tr i) v u (l6 bt x) ⟨i,a,news? o.op,false⟩ ⟨i,r,w,false,s.hp.n,(s.hp.app .none).n⟩ 0 hrel .refl (by omega) (by rw [aQ hbx.1];exact r4) rfl (evr _ u .none r1 hz) (fun m _=>by rw [hz];exact drw u .none m r1) (by rw [h1];exact bE (aY r2))
   ·have hbirth:gW o.op st.fr bt i=i+1:=by
     unfold gW
     split
     ·rename_i x hx;exact absurd ⟨x,hx⟩ hm
     ·rfl
    obtain ⟨u,e,E',v,hp',r1,r2,r3,r4,r5⟩:=gi hrel hfr hw'
    rw [h2] at r1 r3 r4 r5
    rw [hbirth] at r2
    refine go ⟨E',hp',s.hp.app e⟩ v u (i+1) ⟨i,a,news? o.op,false⟩ ⟨i,r,w,false,s.hp.n,(s.hp.app e).n⟩ 0 r3 (by rw [h2];exact r4) (Nat.le_refl _) (by rw [aM (Nat.lt_succ_self _)];exact r5) rfl (evr _ u e r1 rfl) (fun m _=>drw u e m r1) (bE (aY r2))
 ·obtain ⟨m,L,r1,r2⟩:=hX (s:=⟨dm s.fr o.dst undef,s.hp,s.rd⟩) (evs:=⟨o,s,undef,s.hp,⟨i,[],[],false,s.hp.n,s.hp.n⟩⟩ :: evs) (bE h) (ht.snoc (z:=tr i) hrel .refl) (by rw [aM (Nat.lt_succ_self _)];exact h1) (by rw [aM (Nat.lt_succ_self _)];exact h2) h3
   (hb.put (Nat.zero_le _) nt o.dst) (.cons (he.snoc (Nat.le_refl _)) rfl ⟨rfl,by rw [aQ (Nat.le_refl _),h2],by rw [aM (Nat.lt_succ_self _),h2],fun _ _=>rfl,rfl,fun k hk=>(by cases hk),fun k hk=>(by cases hk)⟩)
  rw [hz0] at r2
  refine ⟨m,L,?_,r2⟩
  rw [ey,hg]
  exact r1
def Qi (T:bz) (tab:List XE) (mu:Tmp→Bool) (ops:Array Oper) (c:Nat) (K:bF→Prop) (acc:List gC) (st:bF):Prop :=
 match ops.toList[c]? with
 | some o=>match dK o.op with
  | .call f args=>bV ops.toList o.guard st.fr (force (QJ T.P st.fr f) fun F=>eP (args.map (aO st.fr)) fun as=>F.deep=true∧∃ vs v,Handed st.hp as vs v∧ah T tab false F vs v∧nV (qN ops) (⟨c,[],true,true⟩ :: acc)=true ∧
   ee o.dst st.fr v fun fr'=>wpOps T tab false mu ops.toList (ops.toList.drop (c+1)) ⟨fr',st.hp,st.aE,st.rd,st.fl⟩ K) False
  | _=>False
 | none=>False
def kr (T:bz) (tab:List XE) (mu:Tmp→Bool) (ops:Array Oper) (c:Nat) (K:bF→Prop):List Oper→Nat→(Nat→Nat)→List gC→bF→Prop
 | [],i,_,acc,st=>i=c∧Qi T tab mu ops c K acc st
 | ⟨dst,op,_,_,_,gd⟩ :: l,i,bt,acc,⟨fr,hp,aE,rd,fl⟩ =>
  bV ops.toList gd fr (dN T tab mu dst op i bt fr hp fun fr' hp' bt' x=>kr T tab mu ops c K l (i+1) bt' (x :: acc) ⟨fr',hp',aE,rd,fl⟩)
   (ee dst fr (.tp []) fun fr'=>kr T tab mu ops c K l (i+1) (gT dst bt 0) (⟨i,[],false,false⟩ :: acc) ⟨fr',hp,aE,rd,fl⟩)
theorem oN {mu:Tmp→Bool} {ops:Array Oper} {c:Nat} {K:bF→Prop}:∀ {l:List Oper} {i:Nat} {bt:Nat→Nat} {acc:List gC} {evs:List Ev} {st:bF} {tr:Nat→bX} {s:St},kr T tab mu ops c K l i bt acc st →
  jP base st.aE tr i→(tr i).hp=st.hp→(tr i).H=s.hp→s.rd=st.rd→fc tr i bt st.fr s.fr→oz tr i acc evs→Es T tab base ops c K l i evs st tr s
 | o :: l,i,bt,acc,evs,st,tr,s,h,ht,h1,h2,h3,hb,he=>C9 (X:=fun l i bt acc st=>kr T tab mu ops c K l i bt acc st) (fun h=>oN h) h ht h1 h2 h3 hb he
 | [],i,bt,acc,evs,st,tr,s,h,ht,h1,h2,h3,hb,he=>by
  obtain ⟨rfl,h⟩:=h
  have hrel:=ht.rel i (Nat.le_refl _)
  have hfr:iJ (tr i).E.ρ (tr i).H.get ((tr i).E.O (tr i).hp) st.fr s.fr:=fun t=>(ht.ext _ i (hb t).1 (Nat.le_refl _)).ar (ht.rel _ (hb t).1).wf (hb t).2
  unfold Qi at h
  split at h
  ·rename_i o ho
   split at h
   ·rename_i f args hk
    rcases lf hfr h with ⟨hg,h⟩|⟨_,h⟩
    case inr=>exact h.elim
    have h:=dP (aY h)
    obtain ⟨hF,vs,v,hhand,⟨hvd,hpure⟩,hchk,h⟩:=h
    have h:=bE h
    have hF':=(rH hfr f).deep hF
    have hget:({s.hp with lo:=s.hp.n}:Hp).get=(tr i).H.get:=by rw [h2];rfl
    obtain ⟨goal,hgo,m0,R,q1,q2,q3⟩:∃ goal,cD (jr T.P s.fr f) (args.map (aP s.fr))=some goal ∧
      ∃ m L,RX T tab m (gI {s.hp with lo:=s.hp.n} goal)=some L∧(false=true→∃ r,L=[r])∧∀ r ∈ L,∃ w H',r=.ret w H' ∧
       ({s.hp with lo:=s.hp.n}:Hp).n≤H'.n∧Wf H'∧(∀ k,k < ({s.hp with lo:=s.hp.n}:Hp).n→H'.get k=({s.hp with lo:=s.hp.n}:Hp).get k)∧min ({s.hp with lo:=s.hp.n}:Hp).lo ({s.hp with lo:=s.hp.n}:Hp).n≤H'.lo∧DR H'.get ((tr i).E.O (tr i).hp) v w:=by
     rcases hhand with ⟨rfl,hA⟩|⟨hz,hfree⟩
     ·have hA':=(cX hfr args).deep hA
      exact hpure ((tr i).E.O (tr i).hp) {s.hp with lo:=s.hp.n} _ _ (by rw [h2] at hrel;exact hrel.wf) (fun k hk=>by
       have:k < (tr i).H.n:=hk.elim (fun h=>hrel.iI h) (hrel.xn k)
       rw [h2] at this;exact this) (by rw [hget];exact hF') (by rw [hget];exact hA')
     ·obtain ⟨goal,hgo,m0,L,q1,q2,q3⟩:=hpure (tr i).E.X {s.hp with lo:=s.hp.n} _ _ (by rw [h2] at hrel;exact hrel.wf) (fun k hk=>by
        have:k < (tr i).H.n:=hrel.xn k hk
        rw [h2] at this;exact this) (by rw [hget];exact hF'.mono fun k b hk ho=>⟨hk,fun hx=>ho (.inr hx)⟩) (by
        rw [hget]
        rw [←h1] at hz
        exact hz.dr hrel (fun _ h=>h) (cX hfr args))
      refine ⟨goal,hgo,m0,L,q1,q2,fun r hm=>?_⟩
      obtain ⟨w,H',e1,e2,e3,e4,e5,e6⟩:=q3 r hm
      exact ⟨w,H',e1,e2,e3,e4,e5,hfree.2 _ _ _ _ e6⟩
    have hone:∀ r ∈ R,∃ w H',r=.ret w H'∧tD i s r=some [(w,({H' with lo:=s.hp.lo}:Hp),(⟨i,[],[],true,s.hp.n,H'.n⟩:Tc))] ∧
      cE T ops (⟨o,s,w,{H' with lo:=s.hp.lo},⟨i,[],[],true,s.hp.n,H'.n⟩⟩ :: evs)=true ∧
      ld (tr i).E base ⟨s5 st.fr o.dst v,st.hp,st.aE,st.rd,st.fl⟩ ⟨dm s.fr o.dst w,{H' with lo:=s.hp.lo},s.rd⟩∧Ext base (tr 0).E (tr 0).hp (tr 0).H (tr i).E st.hp {H' with lo:=s.hp.lo}:=fun r hr=>by
     obtain ⟨w,H',rfl,hn,hwf,hsame,hlo,hdr⟩:=q3 r hr
     obtain ⟨g1,g2⟩:=hrel.grow (H':={H' with lo:=s.hp.lo}) (by rw [h2];exact hn) hwf (fun k hk=>by
      have:=hsame k (by rw [←h2];exact hk)
      rw [h2];exact this) (by rw [h2];exact Nat.min_le_left _ _)
     rw [h1] at g1 g2
     have hble:Nat.ble s.hp.n H'.lo=true:=Nat.ble_eq_true_of_le (by
      have:min s.hp.n s.hp.n≤H'.lo:=hlo
      omega)
     let z:bX:=⟨(tr i).E,st.hp,{H' with lo:=s.hp.lo}⟩
     have htz:jP base st.aE (snoc tr i z) (i+1):=ht.snoc (z:=z) g1 (by rw [h1];exact g2)
     have hev:oz (snoc tr i z) (i+1) (⟨i,[],true,true⟩ :: acc) (⟨o,s,w,{H' with lo:=s.hp.lo},⟨i,[],[],true,s.hp.n,H'.n⟩⟩ :: evs) :=
      .cons (he.snoc (Nat.le_refl _)) rfl ⟨rfl,by rw [aQ (Nat.le_refl _),h2],by rw [aM (Nat.lt_succ_self _)],fun h=>Bool.noConfusion h,rfl,fun k hk=>(by cases hk),fun k hk=>(by cases hk)⟩
     refine ⟨w,H',rfl,?_,?_,⟨g1,h3,fun t=>?_⟩,?_⟩
     ·show some [iU i s w H']=_
      rw [kU hble]
     ·unfold cE
      generalize hE:((⟨o,s,w,{H' with lo:=s.hp.lo},⟨i,[],[],true,s.hp.n,H'.n⟩⟩:Ev) :: evs)=evs' at *
      cases (evs'.all fun e=>e.t.wr.isEmpty && Nat.beq e.t.a e.t.b) with
      | true=>rfl
      | false=>exact hev.pairs htz (Nat.le_refl _) hchk
     ·have hb':=(hb.put (z:=z) (v:=v) (u:=w) (Nat.le_refl _) (by
       rw [aM (Nat.lt_succ_self _)]
       refine .d ?_
       show DR H'.get ((tr i).E.O st.hp) v w
       rw [←h1];exact hdr) o.dst) t
      have:=(htz.ext _ (i+1) hb'.1 (Nat.le_refl _)).ar (htz.rel _ hb'.1).wf hb'.2
      rw [aM (Nat.lt_succ_self _)] at this
      exact this
     ·have:=htz.ext 0 (i+1) (Nat.zero_le _) (Nat.le_refl _)
      rw [aQ (Nat.zero_le _),aM (Nat.lt_succ_self _)] at this
      exact this
    obtain ⟨P,hP⟩:∃ P,cz R (tD i s)=some P:=by
     obtain ⟨_,M,_,hM,_⟩:=eD (one:=false) (L:=R) (f:=fun _ r=>tD i s r) (P:=fun _=>True) (fun _ _ _ _ _ h=>h) 0 (fun h=>Bool.noConfusion h) (fun r hr=>by
      obtain ⟨w,H',_,e,_⟩:=hone r hr
      exact ⟨0,_,e,fun h=>Bool.noConfusion h,fun _ _=>trivial⟩)
     exact ⟨M,hM⟩
    have hPr:∀ p ∈ P,∃ w H',p=(w,({H' with lo:=s.hp.lo}:Hp),(⟨i,[],[],true,s.hp.n,H'.n⟩:Tc))∧fP.ret w H' ∈ R:=fun p hp=>by
     obtain ⟨r,hr,Pr,e1,e2⟩:=fZ hP p hp
     obtain ⟨w,H',rfl,e3,_⟩:=hone r hr
     rw [e3] at e1
     cases e1
     exact ⟨w,H',List.mem_singleton.1 e2,hr⟩
    obtain ⟨m,L,hm,hL,_,hLs⟩:=eD (one:=false) (L:=P) (f:=fun m (p:Value × Hp × Tc)=>bw T (RX T tab m) ops.toList (ops.toList.drop (i+1)) ⟨dm s.fr o.dst p.1,p.2.1,s.rd⟩)
     (P:=fun s'=>∃ E' st',K st'∧st'.fl=st.fl∧ld E' base st' s'∧jO st.fl base (tr 0).E (tr 0).hp (tr 0).H E' st'.hp s'.hp) (fun a b x M hab hx=>gh (dD hab) _ _ _ _ hx) m0 (fun h=>Bool.noConfusion h) (fun p hp=>by
      obtain ⟨w,H',rfl,hr⟩:=hPr p hp
      obtain ⟨w',H'',e0,_,_,hrel2,hext⟩:=hone _ hr
      cases e0
      obtain ⟨m2,L2,k1,k2,k3⟩:=gx h hrel2
      refine ⟨m2,L2,k1,fun h=>Bool.noConfusion h,fun s' hs'=>?_⟩
      obtain ⟨E2,st2,j1,j2,j3,j4⟩:=k3 s' hs'
      exact ⟨E2,st2,j1,j2,j3,hext.FY.trans j4⟩)
    refine ⟨m,L,?_,hLs⟩
    rw [we]
    unfold pM
    have hdm:iA T (RX T tab m) ops o i s=some P:=by
     unfold iA
     rw [hg,cond_true]
     unfold dQ
     simp only [hk,hgo,dD hm _ _ q1]
     exact hP
    simp only [ho,hdm]
    have hall:(P.all fun p=>cE T ops (⟨o,s,p.1,p.2.1,p.2.2⟩ :: evs))=true:=by
     rw [List.all_eq_true]
     intro p hp
     obtain ⟨w,H',rfl,hr⟩:=hPr p hp
     obtain ⟨w',H'',e0,_,hd,_⟩:=hone _ hr
     cases e0
     exact hd
    rw [hall]
    exact hL
   ·exact h.elim
  ·exact h.elim
theorem aA.nd {id:Nat} (c:Nat) {l:List Oper} {mu:Tmp→Bool} {st:bF} {K:Exit→bF→Prop} (hc:sM l.toArray=some c) (h:kr T tab mu l.toArray c (K .normal) (l.take c) 0 (fun _=>0) [] st):aA T tab false (.region id l.toArray true) st K:=by
 intro E base s hs
 obtain ⟨m,L,r1,r2⟩:=oN (base:=base) (tr:=fun _=>⟨E,st.hp,s.hp⟩) (evs:=[]) h ⟨fun _ _=>hs.h,fun _ _ _ _=>.refl⟩ rfl rfl hs.rd (fun t=>⟨Nat.le_refl _,hs.fr t⟩) .nil
 refine ⟨m,L.map fun s=>(.normal,s),?_,fun h1=>Bool.noConfusion h1,fun p hp=>?_⟩
 ·rw [dc]
  have:bL T (RX T tab m) l.toArray s=some L:=by
   unfold bL
   rw [hc]
   exact r1
  simp only [cond_true,this]
 ·obtain ⟨s2,hm,rfl⟩:=List.mem_map.1 hp
  obtain ⟨E2,st2,k1,k2,k3,k4⟩:=r2 s2 hm
  exact ⟨E2,st2,k1,k2,k3,k4⟩
section
variable {mu : Tmp → Bool} {ops : Array Oper} {K : bF → Prop} {c i : Nat} {bt : Nat → Nat} {acc : List gC} {fr : Nat → AV} {rd : Bool}
theorem RI {dst:Option Tmp} {op:Op} {a1 a2 a3 gd} {l:List Oper} (h:bV ops.toList gd fr (dN T tab mu dst op i bt fr hp fun fr' hp' bt' x=>kr T tab mu ops c K l (i+1) bt' (x :: acc) ⟨fr',hp',aE,rd,fl⟩)
 (ee dst fr (.tp []) fun fr'=>kr T tab mu ops c K l (i+1) (gT dst bt 0) (⟨i,[],false,false⟩ :: acc) ⟨fr',hp,aE,rd,fl⟩)):kr T tab mu ops c K (⟨dst,op,a1,a2,a3,gd⟩ :: l) i bt acc ⟨fr,hp,aE,rd,fl⟩:=h
end
end
end Go.RM
namespace Go.RM
open Go
end Go.RM
namespace Go.RM
structure Hd (h:Prop):Prop where
 x:h
theorem u1 {g h : Prop} (q : h) (k : Hd h → g := by
    intro hd
    first
    | with_reducible (first | refine RM.c1 ?_ | refine RM.c2 ?_ | refine RM.c3 ?_ | refine RM.c4 ?_ | refine RM.c6 ?_ | refine RM.c7 ?_ | refine RM.c8 ?_ | refine RM.c9 ?_ | refine RM.d1 ?_ | refine RM.d2 ?_ | refine RM.d3 ?_ | refine RM.d4 ?_ | refine RM.d7 ?_ | refine RM.d8 ?_ | refine RM.d9 ?_ | refine RM.o1 ?_ | refine RM.o2 ?_ | refine RM.o3 ?_ | refine RM.o4 ?_ | refine RM.o5 ?_ | refine RM.o6 ?_ | refine RM.o7 ?_ | refine RM.o9 ?_ | refine RM.p1 ?_ | refine RM.p2 ?_ | refine RM.p3 ?_ | refine RM.p4 ?_ | refine RM.p5 ?_ | refine RM.p6 ?_ | refine RM.p7 ?_ | refine RM.p8 ?_ | refine RM.q1 ?_ | refine RM.q2 ?_ | refine RM.Q1 ?_ | refine RM.N4 ?_ | refine RM.N5 ?_ | refine RM.KC ?_ | refine RM.RA ?_ | refine RM.RB ?_ | refine RM.RI ?_)
    | ((with_reducible show force _ _); first | refine RM.f1 rfl ?_ | refine RM.f2 rfl ?_ | refine RM.f3 rfl ?_ | refine RM.f4 rfl ?_ | refine RM.f5 rfl ?_ | refine RM.f6 rfl ?_ | refine RM.f7 rfl ?_ | refine RM.f8 rfl ?_ | refine RM.f9 rfl ?_ | refine RM.g1 rfl ?_ | refine RM.g2 rfl ?_)
    | ((with_reducible show RM.wpOp _ _ _ _ _ _); first
      | ((with_reducible show RM.wpOp _ _ (.load _ _) _ _ _); first | refine RM.QK rfl rfl rfl ?_ | refine RM.Ru rfl rfl rfl ?_ | refine RM.KB rfl rfl rfl rfl ?_ | refine RM.Rv rfl rfl rfl rfl ?_)
      | ((with_reducible show RM.wpOp _ _ (.fieldAddr _ _ _) _ _ _); first | refine RM.Rw rfl rfl rfl rfl ?_ | refine RM.Rx rfl rfl rfl rfl ?_)
      | ((with_reducible show RM.wpOp _ _ (.alloc _) _ _ _); refine RM.Ry rfl rfl ?_)
      | ((with_reducible show RM.wpOp _ _ (.extract _ _) _ _ _); refine RM.Q2 rfl rfl ?_)
      | ((with_reducible show RM.wpOp _ _ (.indexAddr _ _ _) _ _ _); first | refine RM.Re rfl rfl rfl (by assumption) (by omega) rfl ?_ | refine RM.Re rfl rfl rfl rfl (by omega) rfl ?_ | refine RM.RE rfl rfl rfl (by omega) ?_ | refine RM.RF rfl rfl rfl (by omega) ?_ | refine RM.RG rfl rfl rfl (by omega) ?_)
      | ((with_reducible show RM.wpOp _ _ (.makeSlice _ _ _) _ _ _); refine RM.RH rfl rfl rfl (by decide) rfl ?_)
      | ((with_reducible show RM.wpOp _ _ (.unOp _ _ _) _ _ _); refine RM.n3 rfl ?_)
      | ((with_reducible show RM.wpOp _ _ (.call _) _ _ _); first | refine RM.n4 rfl rfl ?_ | refine RM.n5 rfl rfl ?_))
    | ((with_reducible show mN _ _ _ _ (.region _ _ true) _ _); first | refine RM.Rt rfl ?_ | refine RM.c5 (by kernel_rfl) rfl rfl ?_)
    | ((with_reducible show qt _ _ _ _ _ _ _ _ _ _ _ _); refine RM.o8 rfl ?_)
    | ((with_reducible show dN _ _ _ _ _ _ _ _ _ _); first | refine RM.p9 rfl ?_ | refine RM.n1 ?_)
    | ((with_reducible show bV _ _ _ _ _); first | refine sE rfl rfl rfl ?_ | refine vc rfl rfl rfl ?_ | refine zn rfl rfl ?_ | refine sE rfl rfl (by assumption) ?_ | refine vc rfl rfl (by assumption) ?_)
    | ((with_reducible show mN _ _ _ _ (.cond _ _ _) _ _); first | refine RM.e2 rfl rfl ?_ | refine RM.e3 rfl rfl ?_ | refine RM.e2 rfl (by assumption) ?_ | refine RM.e3 rfl (by assumption) ?_)
    | ((with_reducible show rD _ _ _ _ _); refine RM.k1 rfl ?_)
    | ((with_reducible show jb _ _ _ _ _); first | refine RM.k2 rfl ?_ | refine RM.k3 rfl ?_ | refine RM.k2 (by assumption) ?_ | refine RM.k3 (by assumption) ?_ | refine RM.k4 rfl rfl ?_)
    | ((with_reducible show aJ _ _ _ _ _ _ _ _ _); first | refine RM.b4 rfl rfl ?_ | refine RM.b5 rfl rfl ?_ | refine RM.b6 rfl rfl ?_ | refine RM.b7 rfl rfl ?_ | refine RM.b8 rfl rfl ?_ | refine RM.b9 rfl rfl ?_ | refine RM.b1 rfl rfl (by omega) ?_ | refine RM.b2 rfl rfl (by omega) ?_ | refine RM.b3 rfl rfl (by omega) ?_ | refine RM.r1 rfl rfl (by omega) ?_ | refine RM.r2 rfl rfl (by omega) ?_)
    | ((with_reducible show qp _ _ _ _ _); first | refine RM.l1 rfl ?_ | refine RM.l2 rfl ?_)
    | ((with_reducible show qn _ _ _); first | refine RM.l3 rfl ?_ | refine RM.l4 rfl ?_)
    | ((with_reducible show jF _ _ _ _); first | refine RM.d5 rfl ?_ | refine RM.d6 rfl ?_)
    | ((with_reducible show xB _ _ _ _); first | refine RM.Qh rfl rfl rfl rfl ?_ | refine RM.Rz rfl rfl rfl ?_)
    | ((with_reducible show cG _ _ _ _ _ _); refine RM.Mw rfl rfl rfl rfl rfl rfl rfl ?_)
    | ((with_reducible show lY _ _ _ _ _); refine RM.QV rfl rfl rfl ?_)
    | ((with_reducible show dh _ _ _ _ _ _ _); first | refine RM.RC rfl rfl rfl rfl rfl rfl rfl ?_ | refine RM.RD rfl rfl rfl rfl rfl rfl ?_)
    | ((with_reducible show av _ _ _ _ _ _ _ _); refine ah.call (by assumption) rfl rfl ?_)
    | ((with_reducible show nV _ _ = true ∧ _); refine And.intro (by kernel_rfl) ?_)
    | ((with_reducible show ∃ _, CZ _ _ _ = some _ ∧ _); refine ⟨_, rfl, ?_⟩)
    | ((with_reducible show AV.deep _ = true ∧ _); refine ⟨rfl, rfl, ?_⟩)
    | ((with_reducible show ∃ _, ah _ _ _ _ _ _ ∧ _); refine ⟨_, by assumption, ?_⟩)
    exact hd.x) : g := k ⟨q⟩
theorem u2 {g h:Prop} (q:h) (k:Hd h→g:=by
 intro hd
 first
 | refine ⟨_,rfl,?_⟩
 | refine ⟨_,_,rfl,by decide,?_⟩
 | refine ⟨rfl,rfl,rfl,?_⟩
 | refine ⟨rfl,rfl,?_⟩
 | refine ⟨_,_,rfl,_,rfl,?_⟩
 | refine And.intro (Nat.le_of_ble_eq_true rfl) ?_
 | refine And.intro (by omega) ?_
 | refine ⟨_,_,rfl,rfl,_,rfl,rfl,?_⟩
 | refine And.intro (by kernel_rfl) ?_
 | refine ⟨rfl,rfl,rfl,rfl,rfl,?_⟩
 | refine ⟨_,_,rfl,rfl,rfl,rfl,Nat.le_of_ble_eq_true rfl,?_⟩
 | refine ⟨_,_,rfl,Nat.le_of_ble_eq_true rfl,?_⟩
 exact hd.x):g:=k ⟨q⟩
end Go.RM
namespace Go.RM
open Go
theorem wrap_u64 {n:Nat} (h:n < 18446744073709551616):IntKind.wrap .u64 (n:Int)=(n:Int):=by
 show ((BitVec.ofInt 64 (n:Int)).toNat:Int)=_
 rw [BitVec.ofInt_natCast,BitVec.toNat_ofNat,Nat.mod_eq_of_lt h]
theorem Jl {P:Program} {t:TypeId} {x y:Operand} {m n:Nat} (hm:m < 18446744073709551616) (hn:n < 18446744073709551616):dz P .and t x y (.int .u64 (m:Int)) (.int .u64 (n:Int))=some (.int .u64 ((m &&& n:Nat):Int),.none):=by
 have h:dz P .and t x y (.int .u64 (m:Int)) (.int .u64 (n:Int))=some (.int .u64 (IntKind.wrap .u64 ((BitVec.ofInt 64 (m:Int) &&& BitVec.ofInt 64 (n:Int)).toNat:Int)),.none):=rfl
 rw [h,Bw (by omega) (by omega),wrap_u64 (Nat.lt_of_le_of_lt Nat.and_le_left hm)]
theorem KO {P:Program} {t:TypeId} {x y:Operand} {m n:Nat} (hm:m < 18446744073709551616) (hn:n < 18446744073709551616):dz P .or t x y (.int .u64 (m:Int)) (.int .u64 (n:Int))=some (.int .u64 ((m ||| n:Nat):Int),.none):=by
 have h:dz P .or t x y (.int .u64 (m:Int)) (.int .u64 (n:Int))=some (.int .u64 (IntKind.wrap .u64 ((BitVec.ofInt 64 (m:Int) ||| BitVec.ofInt 64 (n:Int)).toNat:Int)),.none):=rfl
 rw [h,Kz (by omega) (by omega),wrap_u64 (Nat.or_lt_two_pow (n:=64) hm hn)]
theorem Jm {P:Program} {t:TypeId} {x y:Operand} {j:Nat} (hj:j < 8):dz P .shl t x y (.int .u64 1) (.int .i64 (j:Int))=some (.int .u64 ((2 ^ j:Nat):Int),.none):=by
 match j,hj with
 | 0,_|1,_|2,_|3,_|4,_|5,_|6,_|7,_=>rfl
theorem Jn {P:Program} {t:TypeId} {x y:Operand} {m j:Nat} (hj:j < 8):dz P .shr t x y (.int .u64 (m:Int)) (.int .i64 (j:Int))=some (.int .u64 ((m / 2 ^ j:Nat):Int),.none):=by
 have h:dz P .shr t x y (.int .u64 (m:Int)) (.int .i64 (j:Int))=some (.int .u64 ((m:Int).fdiv (2 ^ j)),.none):=by
  match j,hj with
  | 0,_|1,_|2,_|3,_|4,_|5,_|6,_|7,_=>rfl
 rw [h,Int.fdiv_eq_ediv_of_nonneg _ (Int.pow_nonneg (by decide)),Int.natCast_ediv,Int.natCast_pow]
 rfl
theorem KP {P:Program} {t:TypeId} {x y:Operand} {m n:Int}:dz P .eql t x y (.int .u64 m) (.int .u64 n)=some (.bool (decide (m=n)),.none):=rfl
theorem Jo {P:Program} {t:TypeId} {x y:Operand} {m n:Int}:dz P .neq t x y (.int .u64 m) (.int .u64 n)=some (.bool (!decide (m=n)),.none):=rfl
theorem Jp {P:Program} {t:TypeId} {x y:Operand} {m n:Int}:dz P .lss t x y (.int .u64 m) (.int .u64 n)=some (.bool (decide (m < n)),.none):=rfl
theorem Jq {P:Program} {t:TypeId} {x y:Operand} {m:Nat} (h1:1≤m) (hm:m < 18446744073709551616):dz P .sub t x y (.int .u64 (m:Int)) (.int .u64 1)=some (.int .u64 ((m - 1:Nat):Int),.none):=by
 have h:dz P .sub t x y (.int .u64 (m:Int)) (.int .u64 1)=some (.int .u64 (IntKind.wrap .u64 ((m:Int) - 1)),.none):=rfl
 rw [h,show (m:Int) - 1=((m - 1:Nat):Int) by omega,wrap_u64 (by omega)]
theorem Jr {P:Program} {t:TypeId} {x y:Operand} {m:Nat} (hm:m < 18446744073709551615):dz P .add t x y (.int .u64 (m:Int)) (.int .u64 1)=some (.int .u64 ((m+1:Nat):Int),.none):=by
 have h:dz P .add t x y (.int .u64 (m:Int)) (.int .u64 1)=some (.int .u64 (IntKind.wrap .u64 ((m:Int)+1)),.none):=rfl
 rw [h,show (m:Int)+1=((m+1:Nat):Int) by omega,wrap_u64 (by omega)]
section
variable {T : bz} {a b : AV} {t : TypeId} {x y : Operand} {hp : List AB} {K : AV → List AB → Prop}
theorem BI {m n:Nat} (ha:a=.fl (.int .u64 (m:Int))) (hb:b=.fl (.int .u64 (n:Int))) (hm:m < 18446744073709551616) (hn:n < 18446744073709551616) (h:K (.fl (.int .u64 ((m &&& n:Nat):Int))) hp):aJ T .and t x y a b hp K:=by
 subst ha hb
 exact ⟨_,_,rfl,rfl,.int .u64 ((m &&& n:Nat):Int),Jl hm hn,rfl,h⟩
theorem Q4 {m n:Nat} (ha:a=.fl (.int .u64 (m:Int))) (hb:b=.fl (.int .u64 (n:Int))) (hm:m < 18446744073709551616) (hn:n < 18446744073709551616) (h:K (.fl (.int .u64 ((m ||| n:Nat):Int))) hp):aJ T .or t x y a b hp K:=by
 subst ha hb
 exact ⟨_,_,rfl,rfl,.int .u64 ((m ||| n:Nat):Int),KO hm hn,rfl,h⟩
theorem Ex {j:Nat} (ha:a=.fl (.int .u64 1)) (hb:b=.fl (.int .i64 (j:Int))) (hj:j < 8) (h:K (.fl (.int .u64 ((2 ^ j:Nat):Int))) hp):aJ T .shl t x y a b hp K:=by
 subst ha hb
 exact ⟨_,_,rfl,rfl,.int .u64 ((2 ^ j:Nat):Int),Jm hj,rfl,h⟩
theorem vv {m j:Nat} (ha:a=.fl (.int .u64 (m:Int))) (hb:b=.fl (.int .i64 (j:Int))) (hj:j < 8) (h:K (.fl (.int .u64 ((m / 2 ^ j:Nat):Int))) hp):aJ T .shr t x y a b hp K:=by
 subst ha hb
 exact ⟨_,_,rfl,rfl,.int .u64 ((m / 2 ^ j:Nat):Int),Jn hj,rfl,h⟩
theorem Dg {m n:Int} (ha:a=.fl (.int .u64 m)) (hb:b=.fl (.int .u64 n)) (h:K (.fl (.bool (decide (m=n)))) hp):aJ T .eql t x y a b hp K:=by
 subst ha hb
 exact ⟨_,_,rfl,rfl,.bool (decide (m=n)),KP,rfl,h⟩
theorem MC {m n:Int} (ha:a=.fl (.int .u64 m)) (hb:b=.fl (.int .u64 n)) (h:K (.fl (.bool (!decide (m=n)))) hp):aJ T .neq t x y a b hp K:=by
 subst ha hb
 exact ⟨_,_,rfl,rfl,.bool (!decide (m=n)),Jo,rfl,h⟩
theorem Js {m n:Int} (ha:a=.fl (.int .u64 m)) (hb:b=.fl (.int .u64 n)) (h:K (.fl (.bool (decide (m < n)))) hp):aJ T .lss t x y a b hp K:=by
 subst ha hb
 exact ⟨_,_,rfl,rfl,.bool (decide (m < n)),Jp,rfl,h⟩
theorem Qm {m:Nat} (ha:a=.fl (.int .u64 (m:Int))) (hb:b=.fl (.int .u64 1)) (h1:1≤m) (hm:m < 18446744073709551616) (h:K (.fl (.int .u64 ((m - 1:Nat):Int))) hp):aJ T .sub t x y a b hp K:=by
 subst ha hb
 exact ⟨_,_,rfl,rfl,.int .u64 ((m - 1:Nat):Int),Jq h1 hm,rfl,h⟩
theorem Jt {m:Nat} (ha:a=.fl (.int .u64 (m:Int))) (hb:b=.fl (.int .u64 1)) (hm:m < 18446744073709551615) (h:K (.fl (.int .u64 ((m+1:Nat):Int))) hp):aJ T .add t x y a b hp K:=by
 subst ha hb
 exact ⟨_,_,rfl,rfl,.int .u64 ((m+1:Nat):Int),Jr hm,rfl,h⟩
theorem pF {m:Nat} (ha:a=.fl (.int .u64 (m:Int))) (hb:b=.fl (.int .u64 1)) (hm:m < 18446744073709551616) (h:K (.fl (.int .u64 ((m % 2:Nat):Int))) hp):aJ T .and t x y a b hp K:=by
 rw [←Nat.and_one_is_mod] at h
 exact BI (n:=1) ha hb hm (by decide) h
end
theorem Of {T:bz} {fr:Nat→AV} {hp:List AB} {K:AV→List AB→Prop} {s x:Operand} {t u e:TypeId} {a1 a2 a3 a4 a5 a6} {els0 els:List (List AV)} {f:Bool} {inf:rX} (hs:aO fr s=.sl els0 true) (hx:aO fr x=.sl els f)
  (hu:T.ty.get u=some ⟨.slice e,a1,a2,a3,a4,a5,a6⟩) (hi:elem? T t=some inf) (hz:bk inf=true) (h0:∀ el ∈ els0,el.length=inf.size) (hel:∀ el ∈ els,el.length=inf.size) (h1:els.flatten.all AV.one=true) (hne:els ≠ [])
  (hb:(els0.length+els.length) * inf.bytes≤140737488355328∧els0.length+els.length≤9223372036854775807) (hd:cK els.flatten=true) (hk:K (.sl (els0++els) false) hp) :
  RM.wpOp T false (.call ⟨.builtin .append,[s,x].toArray,[t,u].toArray⟩) fr hp K:=by
 show force (aO fr s) fun a=>force (aO fr x) fun b=>gw T false .append [a,b] [t,u] hp K
 rw [hs,hx]
 show (match T.ty.get u with|some ⟨.slice _,_,_,_,_,_,_⟩=>gv T false t (.sl els0 true) (.sl els f) hp K|_=>False)
 rw [hu]
 show gv T false t (.sl els0 true) (.sl els f) hp K
 unfold gv
 rw [hi]
 exact ⟨hz,els,⟨hel,rfl⟩,h1,h0,hb,fun e=>absurd e hne,fun _=>⟨hd,hk⟩⟩
end Go.RM
namespace Go.RM
open Go
section
variable {T : bz} {own : Bool} {fr : Nat → AV} {hp : List AB} {K : AV → List AB → Prop} {t : TypeId} {s by' cu : Nat} {z : Option Value} {agg : Bool} {bW : List (Nat × Nat)}
theorem Rh {x hi:Operand} {cs:List AV} {o len h:Nat} {e:TypeId} {els:List (List AV)} (hx:aO fr x=.pt cs o) (hh:aO fr hi=.fl (.int .i64 (h:Int))) (ht:T.ty.get t=some ⟨.array len e,s,by',z,agg,bW,cu⟩)
  (hb:h≤len∧o+h * cu≤cs.length) (h1:1≤cu) (he:els.length=h∧(∀ el ∈ els,el.length=cu)∧els.flatten=(cs.drop o).take (h * cu)) (k:K (.sl els (Nat.beq h len)) hp):wpOp T own (.slice t x none (some hi) none) fr hp K:=by
 show qo T t (aO fr x) none (some (aO fr hi)) hp K
 rw [hx,hh]
 unfold qo
 simp only [ht]
 refine ⟨0,h,els,rfl,rfl,⟨Nat.zero_le _,hb.1,hb.2⟩,h1,?_,k⟩
 rw [Nat.zero_mul,Nat.add_zero,Nat.sub_zero]
 exact he
theorem RN {x hi mx:Operand} {inf:rX} {j aB o n c h:Nat} (hx:aO fr x=.bO j aB o n c) (hh:aO fr hi=.fl (.int .i64 (h:Int))) (hm:aO fr mx=.fl (.int .i64 (h:Int))) (hi':elem? T t=some inf) (hb:h≤n) (h1:1≤inf.size)
  (k:K (.bO j aB (o+0 * inf.size) (h - 0) (h - 0)) hp):wpOp T own (.slice t x none (some hi) (some mx)) fr hp K:=by
 show nj T t (aO fr x) none (aO fr hi) (aO fr mx) hp K
 rw [hx,hh,hm]
 unfold nj
 simp only [hi']
 exact ⟨0,h,rfl,rfl,rfl,⟨Nat.zero_le _,hb⟩,h1,k⟩
theorem RO {o:BinOp} {x y:Operand} {a:AV} {els:List (List AV)} {f b:Bool} (ha:a=.sl els f) (hne:els ≠ []) (ht:iz T.P t=true) (ho:gG o=some (.bool b,.none)) (k:K (.fl (.bool b)) hp):aJ T o t x y a (.fl (.slice none 0 0)) hp K:=by
 subst ha
 exact ⟨hne,ht,_,ho,k⟩
theorem Qo {o:BinOp} {x y:Operand} {a:AV} {j aB p n c:Nat} {b:Bool} (ha:a=.bO j aB p n c) (hne:n ≠ 0) (ht:iz T.P t=true) (ho:gG o=some (.bool b,.none)) (k:K (.fl (.bool b)) hp):aJ T o t x y a (.fl (.slice none 0 0)) hp K:=by
 subst ha
 exact ⟨hne,ht,_,ho,k⟩
theorem Ri {x:Operand} {kt et:TypeId} {j clock:Nat} {aH:List (AV × AV × Nat)} (hx:aO fr x=.om j) (ht:T.ty.get t=some ⟨.map kt et,s,by',z,agg,bW,cu⟩) (hj:hp[j]?=some (.map aH clock)) (k:K (.tp []) (hp.set j (.map [] clock))) :
  wpOp T own (.call ⟨.builtin .clear,[x].toArray,[t].toArray⟩) fr hp K:=by
 show force (aO fr x) fun a=>nR T t a hp K
 rw [hx]
 show nR T t (.om j) hp K
 unfold nR
 simp only [ht]
 exact ⟨aH,clock,hj,k⟩
end
end Go.RM
namespace Go.RM
open Go
inductive As (s st:bF):Prop
 | is (h:ak s st)
 | no (h:False)
theorem As.aU {s st:bF}:As s st→ak s st
 | .is h=>h
 | .no h=>h.elim
theorem cutAt {T:bz} {tab:List XE} {one:Bool} {a b:Code} {st st':bF} {K:Exit→bF→Prop} (h1:aA T tab one a st (uX (fun s=>As s st') K)) (h2:aA T tab one b st' K):aA T tab one (.seq a b) st K :=
 .seq (h1.mono fun e s h=>by cases e <;> first|exact .aU h.aU h2|exact h)
end Go.RM
namespace Go.RM
open Go
theorem JA {P:Program} {t:TypeId} {x y:Operand} {m j:Nat} (hj:j=1∨j=2∨j=4∨j=8∨j=16∨j=32):dz P .shr t x y (.int .u64 (m:Int)) (.int .u64 (j:Int))=some (.int .u64 ((m / 2 ^ j:Nat):Int),.none):=by
 have h:dz P .shr t x y (.int .u64 (m:Int)) (.int .u64 (j:Int))=some (.int .u64 ((m:Int).fdiv (2 ^ j)),.none):=by
  rcases hj with rfl|rfl|rfl|rfl|rfl|rfl <;> rfl
 rw [h,Int.fdiv_eq_ediv_of_nonneg _ (Int.pow_nonneg (by decide)),Int.natCast_ediv,Int.natCast_pow]
 rfl
theorem JB {P:Program} {t:TypeId} {x y:Operand} {m n:Nat} (hm:m+n < 18446744073709551616):dz P .add t x y (.int .u64 (m:Int)) (.int .u64 (n:Int))=some (.int .u64 ((m+n:Nat):Int),.none):=by
 have h:dz P .add t x y (.int .u64 (m:Int)) (.int .u64 (n:Int))=some (.int .u64 (IntKind.wrap .u64 ((m:Int)+(n:Int))),.none):=rfl
 rw [h,show (m:Int)+(n:Int)=((m+n:Nat):Int) by omega,wrap_u64 hm]
theorem JC {P:Program} {t:TypeId} {x y:Operand} {m n:Nat} (hm:m < 4611686018427387904) (hn:n < 4611686018427387904):dz P .and t x y (.int .i64 (m:Int)) (.int .i64 (n:Int))=some (.int .i64 ((m &&& n:Nat):Int),.none):=by
 have h:dz P .and t x y (.int .i64 (m:Int)) (.int .i64 (n:Int))=some (.int .i64 (IntKind.wrap .i64 ((BitVec.ofInt 64 (m:Int) &&& BitVec.ofInt 64 (n:Int)).toNat:Int)),.none):=rfl
 have hle:m &&& n≤m:=Nat.and_le_left
 rw [h,Bw (by omega) (by omega),wrap_i64 (by omega) (by omega)]
section
variable {T : bz} {a b : AV} {t : TypeId} {x y : Operand} {hp : List AB} {K : AV → List AB → Prop}
theorem xV {m j:Nat} (ha:a=.fl (.int .u64 (m:Int))) (hb:b=.fl (.int .u64 (j:Int))) (hj:j=1∨j=2∨j=4∨j=8∨j=16∨j=32) (h:K (.fl (.int .u64 ((m / 2 ^ j:Nat):Int))) hp):aJ T .shr t x y a b hp K:=by
 subst ha hb
 exact ⟨_,_,rfl,rfl,.int .u64 ((m / 2 ^ j:Nat):Int),JA hj,rfl,h⟩
theorem EG {m n:Nat} (ha:a=.fl (.int .u64 (m:Int))) (hb:b=.fl (.int .u64 (n:Int))) (hm:m+n < 18446744073709551616) (h:K (.fl (.int .u64 ((m+n:Nat):Int))) hp):aJ T .add t x y a b hp K:=by
 subst ha hb
 exact ⟨_,_,rfl,rfl,.int .u64 ((m+n:Nat):Int),JB hm,rfl,h⟩
theorem Qr {m n:Nat} (ha:a=.fl (.int .i64 (m:Int))) (hb:b=.fl (.int .i64 (n:Int))) (hm:m < 4611686018427387904) (hn:n < 4611686018427387904) (h:K (.fl (.int .i64 ((m &&& n:Nat):Int))) hp):aJ T .and t x y a b hp K:=by
 subst ha hb
 exact ⟨.int .i64 ((m &&& n:Nat):Int),JC hm hn,rfl,h⟩
end
end Go.RM
namespace Go.RM
open Go
section
variable {T : bz} {tab : List XE} {one : Bool} {base : Nat} {E : Env} {hp : List AB} {aE : bR} {H : Hp}
def DB (T:bz) (t2 mt t3 t4:TypeId) (p0 p1 q:Operand) (x0 x1 x2 x3 x4 x5:Tmp) (st:bF) (K:bF→Prop):Prop :=
 wpOp T false (.move p0) st.fr st.hp fun v0 h0=>force v0 fun v0=>ee (some x0) st.fr v0 fun f0 =>
 wpOp T false (.load t2 p1) f0 h0 fun v1 h1=>force v1 fun v1=>ee (some x1) f0 v1 fun f1 =>
 wpOp T false (.lookup mt (.tmp x0) (.tmp x1) false) f1 h1 fun v2 h2=>∃ c:Int,v2=.fl (.int .i64 c)∧ee (some x2) f1 (.fl (.int .i64 c)) fun f2 =>
 wpOp T false (.binOp .add t3 (.tmp x2) q t4) f2 h2 fun v3 h3=>force v3 fun v3=>ee (some x3) f2 v3 fun f3 =>
 wpOp T false (.mapEntry mt (.tmp x0) (.tmp x1)) f3 h3 fun v4 h4=>wpOp T false (.lookup mt (.tmp x0) (.tmp x1) false) f1 h4 (fun v _=>v=.fl (.int .i64 c))∧(force v4 fun v4=>ee (some x4) f3 v4 fun f4 =>
 wpOp T false (.extract (.tmp x4) 1) f4 h4 fun v5 h5=>force v5 fun v5=>ee (some x5) f4 v5 fun f5 =>
 wpOp T false (.entryStore mt (.tmp x0) (.tmp x5) (.tmp x3)) f5 h5 fun _ h6=>K ⟨f5,h6,st.aE,st.rd,st.fl⟩)
theorem aA.FN {id:Nat} {ops:Array Oper} {t2 mt t3 t4:TypeId} {p0 p1 q:Operand} {x0 x1 x2 x3 x4 x5:Tmp} {y0 z0 w0 y1 z1 w1 y2 z2 w2 y3 z3 w3 y4 z4 w4 y5 z5 w5 y6 z6 w6} {st:bF} {K:Exit→bF→Prop}
  (hops:ops.toList=[⟨some x0,.move p0,y0,z0,w0,none⟩,⟨some x1,.load t2 p1,y1,z1,w1,none⟩,⟨some x2,.lookup mt (.tmp x0) (.tmp x1) false,y2,z2,w2,none⟩,⟨some x3,.binOp .add t3 (.tmp x2) q t4,y3,z3,w3,none⟩,
   ⟨some x4,.mapEntry mt (.tmp x0) (.tmp x1),y4,z4,w4,none⟩,⟨some x5,.extract (.tmp x4) 1,y5,z5,w5,none⟩,⟨none,.entryStore mt (.tmp x0) (.tmp x5) (.tmp x3),y6,z6,w6,none⟩])
  (hb:Jd (qN ops)=true) (hw:DB T t2 mt t3 t4 p0 p1 q x0 x1 x2 x3 x4 x5 st (K .normal)):aA T tab one (.region id ops true) st K:=by
 intro E base s hs
 obtain ⟨sfr,shp,srd⟩:=s
 unfold DB at hw
 obtain ⟨u0,e0,E0,v0,h0,d0,k0,g0,ex0,a0,f0,n0,_⟩:=l9 (rec:=RX T tab 0) (i:=0) (rd:=srd) (d:=some x0) hs.h hs.fr rfl rfl rfl hw
 have k0:=bE (aY k0)
 obtain ⟨u1,e1,E1,v1,h1,d1,k1,g1,Q2,a1,f1,n1,_⟩:=l9 (rec:=RX T tab 0) (i:=1) (rd:=srd) (d:=some x1) g0 f0 rfl rfl rfl k0
 have k1:=bE (aY k1)
 obtain ⟨j,hj⟩:=Fs k1
 obtain ⟨km,_,hkm⟩:∃ km,E1.ρ j 0=some km∧aP (dm (dm sfr (some x0) u0) (some x1) u1) (.tmp x0)=.map (some km):=by
  have:=h9 f1 (.tmp x0)
  rw [hj] at this
  exact this.lZ
 obtain ⟨u2,e2,E2,v2,h2,d2,k2,g2,ex2,a2,f2,n2,o2⟩:=l9 (rec:=RX T tab 0) (i:=2) (rd:=srd) (d:=some x2) g1 f1 rfl rfl rfl k1
 obtain ⟨c,hc,k2⟩:=k2
 rw [←hc] at k2
 have k2:=bE k2
 obtain ⟨u3,e3,E3,v3,h3,d3,k3,g3,ex3,a3,f3,n3,_⟩:=l9 (rec:=RX T tab 0) (i:=3) (rd:=srd) (d:=some x3) g2 f2 rfl rfl rfl k2
 have k3:=bE (aY k3)
 obtain ⟨u4,e4,E4,v4,h4,d4,k4,g4,ex4,a4,f4,n4,_⟩:=l9 (rec:=RX T tab 0) (i:=4) (rd:=srd) (d:=some x4) g3 f3 rfl rfl rfl k3
 obtain ⟨hlook,k4⟩:=k4
 have k4:=bE (aY k4)
 obtain ⟨u5,e5,E5,v5,h5,d5,k5,g5,ex5,a5,f5,n5,_⟩:=l9 (rec:=RX T tab 0) (i:=5) (rd:=srd) (d:=some x5) g4 f4 rfl rfl rfl k4
 have k5:=bE (aY k5)
 obtain ⟨u6,e6,E6,v6,h6,d6,k6,g6,ex6,a6,f6,n6,_⟩:=l9 (rec:=RX T tab 0) (i:=6) (rd:=srd) (d:=none) g5 f5 rfl rfl rfl k5
 have ex24:=(ex2.trans ex3).trans ex4
 have f1':iJ E4.ρ ((((((shp.app e0).app e1).app e2).app e3).app e4)).get (E4.O h4) _ _:=fun t=>ex24.ar g1.wf (f1 t)
 obtain ⟨u',e',E',v',hp',q1,q2,q3,q4,q5⟩:=gi g4 f1' hlook
 have hu2:u2=.int .i64 c:=by rw [hc] at a2;exact a2.eG.1
 have hu':u'=.int .i64 c:=by rw [q2,hc] at q5;exact q5.eG.1
 have he':e'=.none:=by
  have q1:(iX T mt _ _ false _).map (fun v=>(v,bN.none))=some (u',e'):=q1
  rw [Option.map_eq_some_iff] at q1
  obtain ⟨_,_,h⟩:=q1
  cases h;rfl
 rw [hu',he'] at q1
 simp only [Jd,Bool.and_eq_true] at hb
 obtain ⟨b04,b06,b14,b16,b26,b45,b46⟩:=hb
 rw [n0] at d1 n1
 rw [n1] at d2 n2
 rw [n2] at d3 n3
 rw [n3] at d4 n4
 rw [n4] at d5 n5
 rw [n5] at d6 n6
 rw [n4] at q1
 refine ⟨0,[(.normal,⟨_,_,srd⟩)],?_,.single ⟨E6,_,k6,rfl,⟨g6,hs.rd,f6⟩,((((((ex0.trans Q2).trans ex2).trans ex3).trans ex4).trans ex5).trans ex6).FY⟩⟩
 rw [dc]
 have htl:eM ops=ops.toList.length:=by
  unfold eM
  rw [show ops.toList.findIdx? r0=none by rw [hops];rfl]
 have hdt:∀ X,bC T (RX T tab 0) ops ops.toList 0 ⟨sfr,shp,srd⟩ []=some [X]→bL T (RX T tab 0) ops ⟨sfr,shp,srd⟩=some [X]:=fun X h=>j9 htl h
 simp only [cond_true]
 rw [hdt]
 ·rfl
 simp only [hops]
 rw [aK]
 simp only [bf,cond_true]
 rw [d0]
 simp only
 rw [aK]
 simp only [bf,cond_true]
 rw [d1]
 simp only
 rw [aK]
 simp only [bf,cond_true]
 rw [d2]
 simp only
 rw [aK]
 simp only [bf,cond_true]
 rw [d3]
 simp only
 rw [aK]
 simp only [bf,cond_true]
 rw [d4]
 simp only
 rw [aK]
 simp only [bf,cond_true]
 rw [d5]
 simp only
 rw [aK]
 simp only [bf,cond_true]
 rw [d6]
 simp only
 rw [cZ]
 have hd:∀ evs,cL T (qN ops) evs=true→cE T ops evs=true:=fun evs h=>by
  unfold cE
  cases evs.all fun e=>e.t.wr.isEmpty && Nat.beq e.t.a e.t.b with
  | true=>rfl
  | false=>exact h
 rw [hd _ ?_]
 ·rfl
 ·simp only [cL,List.all_cons,List.all_nil,Bool.and_true,Bool.and_eq_true]
  refine ⟨⟨dn (.inr rfl),jG b46,dn (.inr rfl),jG b26,jG b16,jG b06⟩,
   ⟨jG b45,dn (.inl rfl),dn (.inl rfl),dn (.inl rfl),dn (.inl rfl)⟩,
   ⟨dn (.inr rfl),Ky ?_,jG b14,jG b04⟩,
   ⟨dn (.inl rfl),dn (.inl rfl),dn (.inl rfl)⟩,⟨dn (.inl rfl),dn (.inl rfl)⟩,dn (.inl rfl)⟩
  unfold spare
  simp only [hkm,cc,hu2]
  have hq:gU T ((shp.app e0).app e1).n (Op.lookup mt (Operand.tmp x0) (Operand.tmp x1) false) (aP (dm (dm sfr (some x0) u0) (some x1) u1)) (((((shp.app e0).app e1).app e2).app e3).app e4).get=some (Value.int IntKind.i64 c,bN.none):=by
   rw [show ((shp.app e0).app e1).n=shp.n from n1];exact q1
  rw [hq]
  have hn:shp.n.beq shp.n=true:=Nat.beq_refl _
  have hi:Cg c c=true:=by rw [Ck];simp
  simp only [hn,Ch,hi]
  rfl
end
end Go.RM
namespace Go.RM
open Go
section
variable {T : bz} {tab : List XE} {one : Bool} {fl base : Nat} {E E' E2 : Env} {hp hp' hp2 : List AB} {aE amb' : bR} {H H' H2 : Hp} {ρ ρ2 : Nat → Nat → Option Nat} {g g2 : aF} {O O2 : Nat → Prop}
structure rW (tr:Nat→bX) (x:gC) (t:Tc):Prop where
 ev:I4 tr x t
 QS:∀ k ∈ t.rd,∃ p ∈ x.acc,p.wr=false∧dj tr x.i p k∧(p.own.isSome=true→Own (tr x.i).E.ρ (tr x.i).hp k)
 keep:x.call=true→(tr (x.i+1)).E=(tr x.i).E∧(tr (x.i+1)).hp=(tr x.i).hp
theorem rW.snoc {tr:Nat→bX} {i:Nat} {z:bX} {x:gC} {t:Tc} (h:rW tr x t) (hi:x.i < i):rW (snoc tr i z) x t :=
 ⟨h.ev.snoc hi,fun k hk=>by
  obtain ⟨p,a,b,c,d⟩:=h.QS k hk
  exact ⟨p,a,b,c.snoc (by omega),fun ho=>by rw [aQ (by omega)];exact d ho⟩,
  fun hc=>by rw [aQ (by omega),aQ (by omega)];exact h.keep hc⟩
theorem dj.EM {tr:Nat→bX} {i:Nat} {p:Acc} {k:Nat} (h:dj tr i p k) (ho:p.own.isSome=true) (hw:p.wr=true):Own (tr i).E.ρ (tr i).hp k:=by
 obtain ⟨_,_,h3⟩:=h
 cases hp:p.own with
 | none=>rw [hp] at ho;cases ho
 | some j =>
  rw [hp] at h3
  obtain ⟨_,_,h4⟩:=h3
  exact h4 hw
def B8 (o:Op):Bool :=
 match o with
 | .lookup ..=>false
 | .call ⟨.builtin .append,_,_⟩=>false
 | .call ⟨.builtin .len,_,_⟩=>false
 | _=>true
theorem EN {tr:Nat→bX} {i:Nat} (ht:jP base aE tr i) {bt:Nat→Nat} {fr:Nat→AV} {tm:Tr Value} (hb:fc tr i bt fr tm) {own:Bool} {o:Op} (hro:B8 o=true) {l:List Acc} (h:CZ o fr (l6 bt)=some l)
  {K:AV→List AB→Prop} (hw:wpOp T own o fr (tr i).hp K) {r w:List Nat} (hto:iT o (aP tm)=some (r,w)):∀ k ∈ r,∃ p ∈ l,p.wr=false∧dj tr i p k∧(p.own.isSome=true→Own (tr i).E.ρ (tr i).hp k):=by
 intro k hk
 obtain ⟨r',w',e1,e2,_⟩:=nW ht hb h hw
 rw [hto] at e1
 simp only [Option.some.injEq,Prod.mk.injEq] at e1
 obtain ⟨rfl,rfl⟩:=e1
 by_cases hl:∃ t a,o=.load t a
 ·obtain ⟨t,a,rfl⟩:=hl
  have now:(tr i).ar (aO fr a) (aP tm a):=(ht.ext _ i (hb.eval a).1 (Nat.le_refl _)).ar (ht.rel _ (hb.eval a).1).wf (hb.eval a).2
  obtain ⟨p,p1,p2,p3⟩:=e2 k hk
  refine ⟨p,p1,p2,p3,fun ho=>?_⟩
  have hw:eB T t (aO fr a) (tr i).hp K:=hw
  have h:rJ (aO fr a) (l6 bt a) false=some l:=h
  have hk:k ∈ cc (aP tm a):=by
   simp only [iT,Option.some.injEq,Prod.mk.injEq] at hto
   rw [hto.1];exact hk
  cases hv:aO fr a with
  | ptr j aB o =>
   rw [hv] at now hw
   obtain ⟨k',q1,q2⟩:=now.cM
   rw [q2] at hk
   obtain rfl:k=k':=by simpa [cc] using hk
   unfold eB at hw
   split at hw
   ·rename_i e _
    cases e
   ·rename_i e _
    cases e
    obtain ⟨cs,es,h1,_⟩:=hw
    exact ⟨j,_,aB,h1,rfl,q1⟩
   ·exact hw.elim
  | pt =>
   rw [hv] at h
   simp only [rJ,Option.some.injEq] at h
   subst h
   obtain rfl:=List.mem_singleton.1 p1
   cases ho
  | _ =>
   rw [hv] at hw
   unfold eB at hw
   split at hw
   ·rename_i e _
    cases e
   ·rename_i e _
    cases e
   ·exact hw.elim
 ·exfalso
  revert hto hk
  unfold iT
  split
  ·rename_i t a
   exact absurd ⟨t,a,rfl⟩ hl
  ·intro h hk;cases h;cases hk
  ·cases hro
  ·intro h hk;cases h;cases hk
  ·intro h hk;cases h;cases hk
  ·intro h hk;cases h;cases hk
  ·intro h _;cases h
  ·intro h _;cases h
  ·intro h _;cases h
  ·cases hro
  ·cases hro
  ·intro h _;cases h
  ·intro h hk;cases h;cases hk
def th (x y:gC):Bool :=
 x.acc.all (fun p=>y.acc.all (nU x.i p)) && ((!x.al && !x.call) || y.acc.all (fun q=>Nat.ble q.b x.i || (x.call && q.own.isSome))) && (!x.call || y.acc.all (fun q=>!q.wr)) && (!y.call || x.acc.all (fun p=>!p.wr))
def K2 (b:List Nat):List gC→Bool
 | []=>true
 | y :: l=>l.all (fun x=>(b.getD y.i 0).testBit x.i || th x y) && K2 b l
theorem DC {tr:Nat→bX} {n:Nat} (ht:jP base aE tr n) {x y:gC} {s t:Tc} (hs:rW tr x s) (hy:rW tr y t) (hxy:x.i < y.i) (hn:y.i≤n) (hf:th x y=true):conflict s t=false:=by
 cases hc:conflict s t with
 | false=>rfl
 | true =>
  exfalso
  unfold th at hf
  simp only [Bool.and_eq_true,List.all_eq_true,Bool.or_eq_true,Bool.not_eq_true'] at hf
  obtain ⟨⟨⟨f1,f2⟩,f3⟩,f4⟩:=hf
  have two:∀ {k:Nat} {p q:Acc},p ∈ x.acc→q ∈ y.acc→dj tr x.i p k→dj tr y.i q k→(p.wr=true∨q.wr=true)→False:=fun hp hq ap aq hw=>pE ht hxy hn ap aq hw (f1 _ hp _ hq)
  have inn:∀ {k:Nat} {q:Acc},q ∈ y.acc→dj tr y.i q k→(q.own.isSome=true→Own (tr y.i).E.ρ (tr y.i).hp k)→s.a≤k→k < s.b→False:=by
   intro k q hq aq lq h1 h2
   rcases f2 with h|h
   ·have:=hs.ev.al h.1 h.2;omega
   ·rcases h q hq with h|⟨hcl,hos⟩
    ·have:=Nat.le_of_ble_eq_true h
     have:=(ht.ext q.b x.i this (by omega)).n
     have:=aq.2.1
     rw [hs.ev.a] at h1
     omega
    ·have hk:=hs.keep hcl
     rw [hs.ev.b] at h2
     rw [hs.ev.a] at h1
     rcases (ht.ext (x.i+1) y.i (by omega) hn).own k (lq hos) with h|h
     ·rw [hk.1,hk.2] at h
      have:=(ht.rel x.i (by omega)).iI h
      omega
     ·omega
  have out:∀ {k:Nat} {p:Acc},dj tr x.i p k→t.a≤k→False:=by
   intro k p ap h1
   have:=(ht.ext p.b x.i ap.1 (by omega)).n
   have:=(ht.ext x.i y.i (by omega) hn).n
   have:=ap.2.1
   rw [hy.ev.a] at h1
   omega
  unfold conflict at hc
  simp only [Bool.or_eq_true,Bool.and_eq_true,Bool.not_eq_true'] at hc
  rcases hc with (((((((hc|hc)|hc)|hc)|hc)|hc)|hc)|hc)|hc
  ·obtain ⟨k,k1,k2⟩:=ez.1 hc
   obtain ⟨p,p1,p2,p3⟩:=hs.ev.wr k k1
   obtain ⟨q,q1,q2,q3⟩:=hy.ev.rd k k2
   exact two p1 q1 p3 q3 (.inl p2)
  ·obtain ⟨k,k1,k2⟩:=ez.1 hc
   obtain ⟨p,p1,p2,p3⟩:=hs.ev.wr k k1
   obtain ⟨q,q1,q2,q3⟩:=hy.ev.wr k k2
   exact two p1 q1 p3 q3 (.inl p2)
  ·obtain ⟨k,k1,k2⟩:=ez.1 hc
   obtain ⟨q,q1,q2,q3⟩:=hy.ev.wr k k1
   obtain ⟨p,p1,p2,p3⟩:=hs.ev.rd k k2
   exact two p1 q1 p3 q3 (.inr q2)
  ·rw [hs.ev.call] at hc
   cases hw:t.wr with
   | nil=>rw [hw] at hc;simp at hc
   | cons k l =>
    obtain ⟨q,q1,q2,q3⟩:=hy.ev.wr k (by rw [hw];simp)
    rcases f3 with h|h
    ·rw [hc.1] at h;cases h
    ·rw [h q q1] at q2;cases q2
  ·rw [hy.ev.call] at hc
   cases hw:s.wr with
   | nil=>rw [hw] at hc;simp at hc
   | cons k l =>
    obtain ⟨p,p1,p2,p3⟩:=hs.ev.wr k (by rw [hw];simp)
    rcases f4 with h|h
    ·rw [hc.1] at h;cases h
    ·rw [h p p1] at p2;cases p2
  ·obtain ⟨k,k1,k2,k3⟩:=within_iff.1 hc
   obtain ⟨q,q1,q2,q3,q4⟩:=hy.QS k k1
   exact inn q1 q3 q4 k2 k3
  ·obtain ⟨k,k1,k2,k3⟩:=within_iff.1 hc
   obtain ⟨q,q1,q2,q3⟩:=hy.ev.wr k k1
   exact inn q1 q3 (fun ho=>q3.EM ho q2) k2 k3
  ·obtain ⟨k,k1,k2,k3⟩:=within_iff.1 hc
   obtain ⟨p,p1,p2,p3⟩:=hs.ev.rd k k1
   exact out p3 k2
  ·obtain ⟨k,k1,k2,k3⟩:=within_iff.1 hc
   obtain ⟨p,p1,p2,p3⟩:=hs.ev.wr k k1
   exact out p3 k2
inductive mK (tr:Nat→bX):Nat→List gC→List Ev→Prop
 | nil:mK tr 0 [] []
 | cons {i:Nat} {x:gC} {ev:Ev} {l:List gC} {m:List Ev}:mK tr i l m→x.i=i→rW tr x ev.t→mK tr (i+1) (x :: l) (ev :: m)
theorem mK.lt {tr:Nat→bX} {i:Nat} {l:List gC} {m:List Ev} (h:mK tr i l m):∀ x ∈ l,x.i < i:=by
 induction h with
 | nil=>intro x hx;cases hx
 | cons _ hi _ ih =>
  intro y hy
  rcases List.mem_cons.1 hy with rfl|hy
  ·omega
  ·have:=ih y hy;omega
theorem mK.snoc {tr:Nat→bX} {i:Nat} {z:bX} {l:List gC} {m:List Ev}:∀ {j:Nat},mK tr j l m→j≤i→mK (snoc tr i z) j l m:=by
 intro j h
 induction h with
 | nil=>intro _;exact .nil
 | cons _ hi he ih=>intro hj;exact .cons (ih (by omega)) hi (he.snoc (by omega))
theorem mK.pairs {tr:Nat→bX} {n:Nat} (ht:jP base aE tr n) {b:List Nat} {i:Nat} {l:List gC} {m:List Ev} (h:mK tr i l m):i≤n→K2 b l=true→cL T b m=true:=by
 induction h with
 | nil=>intro _ _;rfl
 | cons hl hi he ih =>
  rename_i i y ev l m
  intro hn hc
  simp only [K2,Bool.and_eq_true,List.all_eq_true] at hc
  simp only [cL,Bool.and_eq_true,List.all_eq_true]
  refine ⟨?_,ih (by omega) hc.2⟩
  have hc1:=hc.1
  clear ih hc
  have key:∀ {j:Nat} {l:List gC} {m:List Ev},mK tr j l m→(∀ x ∈ l,(b.getD y.i 0).testBit x.i=true∨th x y=true)→j≤y.i→∀ s ∈ m,(!conflict s.t ev.t || (b.getD ev.t.idx 0).testBit s.t.idx || spare T s ev)=true:=by
   intro j l m h
   induction h with
   | nil=>intro _ _ s hs;cases hs
   | cons hl' hi' he' ih' =>
    rename_i x ev' _ _
    intro hx hj s hs
    rcases List.mem_cons.1 hs with rfl|hs
    ·rcases hx x (by simp) with h|h
     ·rw [he.ev.idx,he'.ev.idx,h];simp
     ·rw [DC ht he' he (by omega) (by omega) h];simp
    ·exact ih' (fun z hz=>hx z (List.mem_cons_of_mem _ hz)) (by omega) s hs
  exact key hl (fun x hx=>by simpa using hc1 x hx) (by omega)
def iu (T:bz) (tab:List XE) (mu:Tmp→Bool) (ops:Array Oper):List Oper→Nat→(Nat→Nat)→List gC→bF→(bF→Prop)→Prop
 | [],_,_,acc,st,K=>K2 (qN ops) acc=true∧K st
 | ⟨dst,op,_,_,_,gd⟩ :: l,i,bt,acc,⟨fr,hp,aE,rd,fl⟩,K =>
  bV ops.toList gd fr (dN T tab mu dst op i bt fr hp fun fr' hp' bt' x=>iu T tab mu ops l (i+1) bt' (x :: acc) ⟨fr',hp',aE,rd,fl⟩ K)
   (ee dst fr (.tp []) fun fr'=>iu T tab mu ops l (i+1) (gT dst bt 0) (⟨i,[],false,false⟩ :: acc) ⟨fr',hp,aE,rd,fl⟩ K)
theorem kP {mu:Tmp→Bool} {ops:Array Oper}:∀ {l:List Oper} {i:Nat} {bt:Nat→Nat} {acc:List gC} {evs:List Ev} {st:bF} {K:bF→Prop} {tr:Nat→bX} {s:St},(l.all fun o=>B8 o.op)=true→iu T tab mu ops l i bt acc st K →
  jP base st.aE tr i→(tr i).hp=st.hp→(tr i).H=s.hp→s.rd=st.rd→fc tr i bt st.fr s.fr→mK tr i acc evs →
  ∃ m s',bC T (RX T tab m) ops l i s evs=some [s']∧∃ E' st',K st'∧st'.fl=st.fl∧ld E' base st' s'∧Ext base (tr 0).E (tr 0).hp (tr 0).H E' st'.hp s'.hp
 | [],i,bt,acc,evs,st,K,tr,s,_,h,ht,h1,h2,h3,hb,he=>by
  obtain ⟨hc,hk⟩:=h
  have hrel:=ht.rel i (Nat.le_refl _)
  have hok:cE T ops evs=true:=by
   unfold cE
   cases hq:(evs.all fun e=>e.t.wr.isEmpty && Nat.beq e.t.a e.t.b) with
   | true=>rfl
   | false=>exact he.pairs ht (Nat.le_refl _) hc
  refine ⟨0,s,by rw [cZ,hok];rfl,(tr i).E,st,hk,rfl,⟨by rw [←h1,←h2];exact hrel,h3,fun t=>?_⟩,by rw [←h1,←h2];exact ht.ext 0 i (Nat.zero_le _) (Nat.le_refl _)⟩
  have:=(ht.ext _ i (hb t).1 (Nat.le_refl _)).ar (ht.rel _ (hb t).1).wf (hb t).2
  rw [←h1,←h2]
  exact this
 | o :: l,i,bt,acc,evs,st,K,tr,s,hro,h,ht,h1,h2,h3,hb,he=>by
  have h:bV ops.toList o.guard st.fr (dN T tab mu o.dst o.op i bt st.fr st.hp fun fr' hp' bt' x=>iu T tab mu ops l (i+1) bt' (x :: acc) ⟨fr',hp',st.aE,st.rd,st.fl⟩ K)
   (ee o.dst st.fr (.tp []) fun fr'=>iu T tab mu ops l (i+1) (gT o.dst bt 0) (⟨i,[],false,false⟩ :: acc) ⟨fr',st.hp,st.aE,st.rd,st.fl⟩ K):=h
  rw [List.all_cons,Bool.and_eq_true] at hro
  obtain ⟨hro1,hro2⟩:=hro
  have hrel:=ht.rel i (Nat.le_refl _)
  have hfr:iJ (tr i).E.ρ (tr i).H.get ((tr i).E.O (tr i).hp) st.fr s.fr:=fun t=>(ht.ext _ i (hb t).1 (Nat.le_refl _)).ar (ht.rel _ (hb t).1).wf (hb t).2
  have hz0:(snoc tr i (tr i) 0)=tr 0:=aQ (Nat.zero_le _)
  rcases lf hfr h with ⟨hg,h⟩|⟨hg,h⟩
  ·
   have go:∀ (z:bX) (v:AV) (u:Value) (b:Nat) (x:gC) (t:Tc) (m0:Nat),aS z.E base z.hp st.aE z.H→Ext base (tr i).E (tr i).hp (tr i).H z.E z.hp z.H→b≤i+1→(snoc tr i z b).ar v u→x.i=i→rW (snoc tr i z) x t →
     (∀ m,m0≤m→aW T (RX T tab m) o.op i s=some (u,z.H,t))→iu T tab mu ops l (i+1) (gT o.dst bt b) (x :: acc) ⟨s5 st.fr o.dst v,z.hp,st.aE,st.rd,st.fl⟩ K →
     ∃ m s',bC T (RX T tab m) ops (o :: l) i s evs=some [s']∧∃ E' st',K st'∧st'.fl=st.fl∧ld E' base st' s'∧Ext base (tr 0).E (tr 0).hp (tr 0).H E' st'.hp s'.hp:=by
    intro z v u b x t m0 hz he' hbi hv hxi hx hd hw
    obtain ⟨m,s',r1,r2⟩:=kP (s:=⟨dm s.fr o.dst u,z.H,s.rd⟩) (evs:=⟨o,s,u,z.H,t⟩ :: evs) hro2 hw (ht.snoc hz he') (by rw [aM (Nat.lt_succ_self _)]) (by rw [aM (Nat.lt_succ_self _)]) h3 (hb.put hbi hv o.dst) (.cons (he.snoc (Nat.le_refl _)) hxi hx)
    rw [aQ (Nat.zero_le _)] at r2
    refine ⟨max m0 m,s',?_,r2⟩
    rw [aK,hg]
    simp only [cond_true,hd _ (Nat.le_max_left _ _)]
    exact eJ (dD (Nat.le_max_right _ _)) _ _ _ _ _ _ r1
   unfold dN at h
   split at h
   ·rename_i f args hk
    have h:=dP (aY h)
    obtain ⟨hF,vs,v,hhand,⟨hvd,hpure⟩,h⟩:=h
    have hF':=(rH hfr f).deep hF
    have hget:({s.hp with lo:=s.hp.n}:Hp).get=(tr i).H.get:=by rw [h2];rfl
    obtain ⟨goal,hgo,m0,L,q1,q2,q3⟩:∃ goal,cD (jr T.P s.fr f) (args.map (aP s.fr))=some goal ∧
      ∃ m L,RX T tab m (gI {s.hp with lo:=s.hp.n} goal)=some L∧(true=true→∃ r,L=[r])∧∀ r ∈ L,∃ w H',r=.ret w H' ∧
       ({s.hp with lo:=s.hp.n}:Hp).n≤H'.n∧Wf H'∧(∀ k,k < ({s.hp with lo:=s.hp.n}:Hp).n→H'.get k=({s.hp with lo:=s.hp.n}:Hp).get k)∧min ({s.hp with lo:=s.hp.n}:Hp).lo ({s.hp with lo:=s.hp.n}:Hp).n≤H'.lo∧DR H'.get ((tr i).E.O (tr i).hp) v w:=by
     rcases hhand with ⟨rfl,hA⟩|⟨hz,hfree⟩
     ·have hA':=(cX hfr args).deep hA
      exact hpure ((tr i).E.O (tr i).hp) {s.hp with lo:=s.hp.n} _ _ (by rw [h2] at hrel;exact hrel.wf) (fun k hk=>by
       have:k < (tr i).H.n:=hk.elim (fun h=>hrel.iI h) (hrel.xn k)
       rw [h2] at this;exact this) (by rw [hget];exact hF') (by rw [hget];exact hA')
     ·obtain ⟨goal,hgo,m0,L,q1,q2,q3⟩:=hpure (tr i).E.X {s.hp with lo:=s.hp.n} _ _ (by rw [h2] at hrel;exact hrel.wf) (fun k hk=>by
       have:k < (tr i).H.n:=hrel.xn k hk
       rw [h2] at this;exact this) (by rw [hget];exact hF'.mono fun k b hk ho=>⟨hk,fun hx=>ho (.inr hx)⟩) (by
        rw [hget]
        rw [←h1] at hz
        exact hz.dr hrel (fun _ h=>h) (cX hfr args))
      refine ⟨goal,hgo,m0,L,q1,q2,fun r hm=>?_⟩
      obtain ⟨w,H',e1,e2,e3,e4,e5,e6⟩:=q3 r hm
      exact ⟨w,H',e1,e2,e3,e4,e5,hfree.2 _ _ _ _ e6⟩
    obtain ⟨r,hr⟩:=q2 rfl
    subst hr
    obtain ⟨w,H',rfl,hn,hwf,hsame,hlo,hdr⟩:=q3 r (by simp)
    obtain ⟨g1,g2⟩:=hrel.grow (H':={H' with lo:=s.hp.lo}) (by rw [h2];exact hn) hwf (fun k hk=>by
     have:=hsame k (by rw [←h2];exact hk)
     rw [h2];exact this) (by rw [h2];exact Nat.min_le_left _ _)
    refine go ⟨(tr i).E,st.hp,{H' with lo:=s.hp.lo}⟩ v w (i+1) ⟨i,[],true,true⟩ ⟨i,[],[],true,s.hp.n,H'.n⟩ m0 (by rw [←h1];exact g1) (by rw [←h1];exact g2) (Nat.le_refl _) ?_ rfl ?_ (fun m hm=>?_) (bE h)
    ·rw [aM (Nat.lt_succ_self _)]
     refine .d ?_
     show DR H'.get ((tr i).E.O st.hp) v w
     rw [←h1];exact hdr
    ·refine ⟨⟨rfl,by rw [aQ (Nat.le_refl _),h2],by rw [aM (Nat.lt_succ_self _)],fun h=>Bool.noConfusion h,rfl,fun k hk=>(by cases hk),fun k hk=>(by cases hk)⟩,fun k hk=>(by cases hk),fun _=>?_⟩
     rw [aM (Nat.lt_succ_self _),aQ (Nat.le_refl _)]
     exact ⟨rfl,h1.symm⟩
    ·unfold aW
     simp only [hk,hgo,dD hm _ _ q1]
     have:Nat.ble s.hp.n H'.lo=true:=Nat.ble_eq_true_of_le (by
      have:min s.hp.n s.hp.n≤H'.lo:=hlo
      omega)
     rw [kU this]
   ·exact h.elim
   ·rename_i hk
    obtain ⟨a,hacc,hw⟩:=h
    have hw':=hw
    rw [←h1] at hw'
    obtain ⟨r,w,ht1,ht2,ht3⟩:=nW ht hb hacc hw'
    have evr:∀ (z:bX) (u:Value) (e:bN),gU T s.hp.n o.op (aP s.fr) s.hp.get=some (u,e)→z.H=s.hp.app e→rW (snoc tr i z) ⟨i,a,news? o.op,false⟩ ⟨i,r,w,false,s.hp.n,(s.hp.app e).n⟩:=by
     intro z u e hop hz
     refine ⟨⟨rfl,by rw [aQ (Nat.le_refl _),h2],by rw [aM (Nat.lt_succ_self _),hz],fun hal _=>(lu (nx hop hal)).symm,rfl,fun k hk=>?_,fun k hk=>?_⟩,fun k hk=>?_,fun h=>Bool.noConfusion h⟩
     ·obtain ⟨p,p1,p2,p3⟩:=ht2 k hk;exact ⟨p,p1,p2,p3.snoc (Nat.le_refl _)⟩
     ·obtain ⟨p,p1,p2,p3⟩:=ht3 k hk;exact ⟨p,p1,p2,p3.snoc (Nat.le_refl _)⟩
     ·obtain ⟨p,p1,p2,p3,p4⟩:=EN ht hb hro1 hacc hw' ht1 k hk
      exact ⟨p,p1,p2,p3.snoc (Nat.le_refl _),fun ho=>by rw [aQ (Nat.le_refl _)];exact p4 ho⟩
    have drw:∀ (u:Value) (e:bN) (m:Nat),gU T s.hp.n o.op (aP s.fr) s.hp.get=some (u,e)→aW T (RX T tab m) o.op i s=some (u,s.hp.app e,⟨i,r,w,false,s.hp.n,(s.hp.app e).n⟩):=by
     intro u e m hop
     unfold aW
     simp only [hk,ht1,hop]
    by_cases hm:∃ x,u7 o.op st.fr=some [x]
    ·obtain ⟨x,hm⟩:=hm
     have hbirth:gW o.op st.fr bt i=l6 bt x:=by unfold gW;rw [hm]
     have hbx:=hb.eval x
     have eb:=ht.ext _ i hbx.1 (Nat.le_refl _)
     obtain ⟨u,v,r1,r2,r3,r4⟩:=qv (ρ2:=(tr (l6 bt x)).E.ρ) (g2:=(tr (l6 bt x)).H.get) (O2:=(tr (l6 bt x)).E.O (tr (l6 bt x)).hp) (n:=s.hp.n) hfr hm (fun y hy=>by
      obtain rfl:=List.mem_singleton.1 hy;exact hbx.2) (fun k b hk ho=>(eb.keep (ht.rel _ hbx.1).wf k b hk ho).1) hw
     rw [h2] at r1
     have hz:(tr i).H=s.hp.app .none:=h2
     rw [hbirth] at r2
     refine go (tr i) v u (l6 bt x) ⟨i,a,news? o.op,false⟩ ⟨i,r,w,false,s.hp.n,(s.hp.app .none).n⟩ 0 hrel .refl (by omega) (by rw [aQ hbx.1];exact r4) rfl (evr _ u .none r1 hz) (fun m _=>by rw [hz];exact drw u .none m r1) (by rw [h1];exact bE (aY r2))
    ·have hbirth:gW o.op st.fr bt i=i+1:=by
      unfold gW
      split
      ·rename_i x hx;exact absurd ⟨x,hx⟩ hm
      ·rfl
     obtain ⟨u,e,E',v,hp',r1,r2,r3,r4,r5⟩:=gi hrel hfr hw'
     rw [h2] at r1 r3 r4 r5
     rw [hbirth] at r2
     refine go ⟨E',hp',s.hp.app e⟩ v u (i+1) ⟨i,a,news? o.op,false⟩ ⟨i,r,w,false,s.hp.n,(s.hp.app e).n⟩ 0 r3 (by rw [h2];exact r4) (Nat.le_refl _) (by rw [aM (Nat.lt_succ_self _)];exact r5) rfl (evr _ u e r1 rfl) (fun m _=>drw u e m r1) (bE (aY r2))
  ·obtain ⟨m,s',r1,r2⟩:=kP (s:=⟨dm s.fr o.dst undef,s.hp,s.rd⟩) (evs:=⟨o,s,undef,s.hp,⟨i,[],[],false,s.hp.n,s.hp.n⟩⟩ :: evs) hro2 (bE h) (ht.snoc (z:=tr i) hrel .refl) (by rw [aM (Nat.lt_succ_self _)];exact h1) (by rw [aM (Nat.lt_succ_self _)];exact h2) h3
    (hb.put (Nat.zero_le _) nt o.dst) (.cons (he.snoc (Nat.le_refl _)) rfl ⟨⟨rfl,by rw [aQ (Nat.le_refl _),h2],by rw [aM (Nat.lt_succ_self _),h2],fun _ _=>rfl,rfl,fun k hk=>(by cases hk),fun k hk=>(by cases hk)⟩,fun k hk=>(by cases hk),fun h=>Bool.noConfusion h⟩)
   rw [hz0] at r2
   refine ⟨m,s',?_,r2⟩
   rw [aK,hg]
   exact r1
theorem aA.QA {id:Nat} {l:List Oper} {mu:Tmp→Bool} {st:bF} {K:Exit→bF→Prop} (hd:l.any r0=false) (hr:(l.all fun o=>B8 o.op)=true) (h:iu T tab mu l.toArray l 0 (fun _=>0) [] st (K .normal)):aA T tab one (.region id l.toArray true) st K:=by
 intro E base s hs
 obtain ⟨m,s',r1,E',st',r2,r3,r4,r5⟩:=kP (base:=base) (tr:=fun _=>⟨E,st.hp,s.hp⟩) (evs:=[]) hr h ⟨fun _ _=>hs.h,fun _ _ _ _=>.refl⟩ rfl rfl hs.rd (fun t=>⟨Nat.le_refl _,hs.fr t⟩) .nil
 refine ⟨m,[(.normal,s')],?_,fun _=>⟨_,rfl⟩,fun p hp=>?_⟩
 ·rw [dc]
  have:bL T (RX T tab m) l.toArray s=some [s']:=j9 (by rw [xK hd]) (by
   simpa using r1)
  simp only [cond_true,this]
  rfl
 ·obtain rfl:=List.mem_singleton.1 hp
  exact ⟨E',st',r2,r3,r4,r5.FY⟩
variable {mu : Tmp → Bool} {fr : Nat → AV} {KS : bF → Prop} {rd : Bool} {dst : Option Tmp}
theorem RP {ops:Array Oper} {op:Op} {a1 a2 a3 gd} {l:List Oper} {i:Nat} {bt:Nat→Nat} {acc:List gC}
 (h:bV ops.toList gd fr (dN T tab mu dst op i bt fr hp fun fr' hp' bt' x=>iu T tab mu ops l (i+1) bt' (x :: acc) ⟨fr',hp',aE,rd,fl⟩ KS)
  (ee dst fr (.tp []) fun fr'=>iu T tab mu ops l (i+1) (gT dst bt 0) (⟨i,[],false,false⟩ :: acc) ⟨fr',hp,aE,rd,fl⟩ KS)):iu T tab mu ops (⟨dst,op,a1,a2,a3,gd⟩ :: l) i bt acc ⟨fr,hp,aE,rd,fl⟩ KS:=h
end
end Go.RM
namespace Go.RM
open Go
section
variable {T : bz} {tab : List XE} {one : Bool} {fl base : Nat} {E E' E2 : Env} {hp hp' hp2 : List AB} {aE amb' : bR} {H H' H2 : Hp} {ρ ρ2 : Nat → Nat → Option Nat} {g g2 : aF} {O O2 : Nat → Prop}
def vK (i:Nat) (p q:Acc):Bool :=
 (!p.wr && !q.wr) || (match p.own,q.own with
  | some j,some j'=>!Nat.beq j j'
  | some _,none=>Nat.ble q.b i
  | none,some _=>!p.wr
  | none,none=>false)
theorem B9 {tr:Nat→bX} {n:Nat} (ht:jP base aE tr n) {i l:Nat} (hil:i < l) (hl:l≤n) {p q:Acc} {k:Nat} (hp:dj tr i p k) (hpo:p.own.isSome=true→Own (tr i).E.ρ (tr i).hp k) (hq:dj tr l q k) (hw:p.wr=true∨q.wr=true) (hf:vK i p q=true):False:=by
 by_cases h:nU i p q=true
 ·exact pE ht hil hl hp hq hw h
 ·obtain ⟨p1,p2,p3⟩:=hp
  obtain ⟨q1,q2,q3⟩:=hq
  have back:∀ {b c:Nat},b≤c→c≤n→Own (tr c).E.ρ (tr c).hp k→k < (tr b).H.n→Own (tr b).E.ρ (tr b).hp k:=fun hbc hcn ho hk=>((ht.ext _ _ hbc hcn).own k ho).elim id (fun h=>by omega)
  unfold vK at hf
  unfold nU at h
  rw [Bool.or_eq_true] at hf
  rw [Bool.or_eq_true,not_or] at h
  rcases hf with hf|hf
  ·exact h.1 hf
  ·cases hpo':p.own with
   | some j =>
    rw [hpo'] at hf h hpo
    cases hqo:q.own with
    | some j'=>rw [hqo] at hf h;exact h.2 hf
    | none =>
     rw [hqo] at hf q3
     have hb:=Nat.le_of_ble_eq_true hf
     exact q3 (.inl (back hb (by omega) (hpo rfl) q2))
   | none =>
    rw [hpo'] at hf h
    cases hqo:q.own with
    | some j'=>rw [hqo] at hf h;exact h.2 hf
    | none=>rw [hqo] at hf;cases hf
theorem JR {tr:Nat→bX} {i:Nat} (ht:jP base aE tr i) {bt:Nat→Nat} {fr:Nat→AV} {tm:Tr Value} (hb:fc tr i bt fr tm) {own:Bool} {o:Op} {l:List Acc} (hro:(B8 o || l.all fun p=>p.wr || p.own.isNone)=true) (h:CZ o fr (l6 bt)=some l)
  {K:AV→List AB→Prop} (hw:wpOp T own o fr (tr i).hp K) {r w:List Nat} (hto:iT o (aP tm)=some (r,w)):∀ k ∈ r,∃ p ∈ l,p.wr=false∧dj tr i p k∧(p.own.isSome=true→Own (tr i).E.ρ (tr i).hp k):=by
 rw [Bool.or_eq_true] at hro
 rcases hro with hro|hro
 ·exact EN ht hb hro h hw hto
 ·intro k hk
  obtain ⟨r',w',e1,e2,_⟩:=nW ht hb h hw
  rw [hto] at e1
  simp only [Option.some.injEq,Prod.mk.injEq] at e1
  obtain ⟨rfl,rfl⟩:=e1
  obtain ⟨p,p1,p2,p3⟩:=e2 k hk
  refine ⟨p,p1,p2,p3,fun ho=>?_⟩
  have:=List.all_eq_true.1 hro p p1
  rw [p2,Bool.false_or] at this
  cases hpo:p.own with
  | none=>rw [hpo] at ho;cases ho
  | some j=>rw [hpo] at this;cases this
def tj (x y:gC):Bool :=
 x.acc.all (fun p=>y.acc.all (vK x.i p)) && ((!x.al && !x.call) || y.acc.all (fun q=>Nat.ble q.b x.i || (x.call && q.own.isSome))) && (!x.call || y.acc.all (fun q=>!q.wr)) && (!y.call || x.acc.all (fun p=>!p.wr))
def K3 (b:List Nat):List gC→Bool
 | []=>true
 | y :: l=>l.all (fun x=>(b.getD y.i 0).testBit x.i || tj x y) && K3 b l
theorem DD {tr:Nat→bX} {n:Nat} (ht:jP base aE tr n) {x y:gC} {s t:Tc} (hs:rW tr x s) (hy:rW tr y t) (hxy:x.i < y.i) (hn:y.i≤n) (hf:tj x y=true):conflict s t=false:=by
 cases hc:conflict s t with
 | false=>rfl
 | true =>
  exfalso
  unfold tj at hf
  simp only [Bool.and_eq_true,List.all_eq_true,Bool.or_eq_true,Bool.not_eq_true'] at hf
  obtain ⟨⟨⟨f1,f2⟩,f3⟩,f4⟩:=hf
  have two:∀ {k:Nat} {p q:Acc},p ∈ x.acc→q ∈ y.acc→dj tr x.i p k→dj tr y.i q k→(p.own.isSome=true→Own (tr x.i).E.ρ (tr x.i).hp k)→(p.wr=true∨q.wr=true)→False:=fun hp hq ap aq ho hw=>B9 ht hxy hn ap ho aq hw (f1 _ hp _ hq)
  have inn:∀ {k:Nat} {q:Acc},q ∈ y.acc→dj tr y.i q k→(q.own.isSome=true→Own (tr y.i).E.ρ (tr y.i).hp k)→s.a≤k→k < s.b→False:=by
   intro k q hq aq lq h1 h2
   rcases f2 with h|h
   ·have:=hs.ev.al h.1 h.2;omega
   ·rcases h q hq with h|⟨hcl,hos⟩
    ·have:=Nat.le_of_ble_eq_true h
     have:=(ht.ext q.b x.i this (by omega)).n
     have:=aq.2.1
     rw [hs.ev.a] at h1
     omega
    ·have hk:=hs.keep hcl
     rw [hs.ev.b] at h2
     rw [hs.ev.a] at h1
     rcases (ht.ext (x.i+1) y.i (by omega) hn).own k (lq hos) with h|h
     ·rw [hk.1,hk.2] at h
      have:=(ht.rel x.i (by omega)).iI h
      omega
     ·omega
  have out:∀ {k:Nat} {p:Acc},dj tr x.i p k→t.a≤k→False:=by
   intro k p ap h1
   have:=(ht.ext p.b x.i ap.1 (by omega)).n
   have:=(ht.ext x.i y.i (by omega) hn).n
   have:=ap.2.1
   rw [hy.ev.a] at h1
   omega
  unfold conflict at hc
  simp only [Bool.or_eq_true,Bool.and_eq_true,Bool.not_eq_true'] at hc
  rcases hc with (((((((hc|hc)|hc)|hc)|hc)|hc)|hc)|hc)|hc
  ·obtain ⟨k,k1,k2⟩:=ez.1 hc
   obtain ⟨p,p1,p2,p3⟩:=hs.ev.wr k k1
   obtain ⟨q,q1,q2,q3⟩:=hy.ev.rd k k2
   exact two p1 q1 p3 q3 (fun ho=>p3.EM ho p2) (.inl p2)
  ·obtain ⟨k,k1,k2⟩:=ez.1 hc
   obtain ⟨p,p1,p2,p3⟩:=hs.ev.wr k k1
   obtain ⟨q,q1,q2,q3⟩:=hy.ev.wr k k2
   exact two p1 q1 p3 q3 (fun ho=>p3.EM ho p2) (.inl p2)
  ·obtain ⟨k,k1,k2⟩:=ez.1 hc
   obtain ⟨q,q1,q2,q3⟩:=hy.ev.wr k k1
   obtain ⟨p,p1,p2,p3,p4⟩:=hs.QS k k2
   exact two p1 q1 p3 q3 p4 (.inr q2)
  ·rw [hs.ev.call] at hc
   cases hw:t.wr with
   | nil=>rw [hw] at hc;simp at hc
   | cons k l =>
    obtain ⟨q,q1,q2,q3⟩:=hy.ev.wr k (by rw [hw];simp)
    rcases f3 with h|h
    ·rw [hc.1] at h;cases h
    ·rw [h q q1] at q2;cases q2
  ·rw [hy.ev.call] at hc
   cases hw:s.wr with
   | nil=>rw [hw] at hc;simp at hc
   | cons k l =>
    obtain ⟨p,p1,p2,p3⟩:=hs.ev.wr k (by rw [hw];simp)
    rcases f4 with h|h
    ·rw [hc.1] at h;cases h
    ·rw [h p p1] at p2;cases p2
  ·obtain ⟨k,k1,k2,k3⟩:=within_iff.1 hc
   obtain ⟨q,q1,q2,q3,q4⟩:=hy.QS k k1
   exact inn q1 q3 q4 k2 k3
  ·obtain ⟨k,k1,k2,k3⟩:=within_iff.1 hc
   obtain ⟨q,q1,q2,q3⟩:=hy.ev.wr k k1
   exact inn q1 q3 (fun ho=>q3.EM ho q2) k2 k3
  ·obtain ⟨k,k1,k2,k3⟩:=within_iff.1 hc
   obtain ⟨p,p1,p2,p3⟩:=hs.ev.rd k k1
   exact out p3 k2
  ·obtain ⟨k,k1,k2,k3⟩:=within_iff.1 hc
   obtain ⟨p,p1,p2,p3⟩:=hs.ev.wr k k1
   exact out p3 k2
inductive mL (tr:Nat→bX):Nat→List gC→List Ev→Prop
 | nil:mL tr 0 [] []
 | cons {i:Nat} {x:gC} {ev:Ev} {l:List gC} {m:List Ev}:mL tr i l m→x.i=i→rW tr x ev.t→mL tr (i+1) (x :: l) (ev :: m)
theorem mL.lt {tr:Nat→bX} {i:Nat} {l:List gC} {m:List Ev} (h:mL tr i l m):∀ x ∈ l,x.i < i:=by
 induction h with
 | nil=>intro x hx;cases hx
 | cons _ hi _ ih =>
  intro y hy
  rcases List.mem_cons.1 hy with rfl|hy
  ·omega
  ·have:=ih y hy;omega
theorem mL.snoc {tr:Nat→bX} {i:Nat} {z:bX} {l:List gC} {m:List Ev}:∀ {j:Nat},mL tr j l m→j≤i→mL (snoc tr i z) j l m:=by
 intro j h
 induction h with
 | nil=>intro _;exact .nil
 | cons _ hi he ih=>intro hj;exact .cons (ih (by omega)) hi (he.snoc (by omega))
theorem mL.pairs {tr:Nat→bX} {n:Nat} (ht:jP base aE tr n) {b:List Nat} {i:Nat} {l:List gC} {m:List Ev} (h:mL tr i l m):i≤n→K3 b l=true→cL T b m=true:=by
 induction h with
 | nil=>intro _ _;rfl
 | cons hl hi he ih =>
  rename_i i y ev l m
  intro hn hc
  simp only [K3,Bool.and_eq_true,List.all_eq_true] at hc
  simp only [cL,Bool.and_eq_true,List.all_eq_true]
  refine ⟨?_,ih (by omega) hc.2⟩
  have hc1:=hc.1
  clear ih hc
  have key:∀ {j:Nat} {l:List gC} {m:List Ev},mL tr j l m→(∀ x ∈ l,(b.getD y.i 0).testBit x.i=true∨tj x y=true)→j≤y.i→∀ s ∈ m,(!conflict s.t ev.t || (b.getD ev.t.idx 0).testBit s.t.idx || spare T s ev)=true:=by
   intro j l m h
   induction h with
   | nil=>intro _ _ s hs;cases hs
   | cons hl' hi' he' ih' =>
    rename_i x ev' _ _
    intro hx hj s hs
    rcases List.mem_cons.1 hs with rfl|hs
    ·rcases hx x (by simp) with h|h
     ·rw [he.ev.idx,he'.ev.idx,h];simp
     ·rw [DD ht he' he (by omega) (by omega) h];simp
    ·exact ih' (fun z hz=>hx z (List.mem_cons_of_mem _ hz)) (by omega) s hs
  exact key hl (fun x hx=>by simpa using hc1 x hx) (by omega)
def fj (T:bz) (tab:List XE) (mu:Tmp→Bool) (ops:Array Oper):List Oper→Nat→(Nat→Nat)→List gC→bF→(bF→Prop)→Prop
 | [],_,_,acc,st,K=>K3 (qN ops) acc=true∧K st
 | ⟨dst,op,_,_,_,gd⟩ :: l,i,bt,acc,⟨fr,hp,aE,rd,fl⟩,K =>
  bV ops.toList gd fr (dN T tab mu dst op i bt fr hp fun fr' hp' bt' x=>(B8 op || x.acc.all fun p=>p.wr || p.own.isNone)=true∧fj T tab mu ops l (i+1) bt' (x :: acc) ⟨fr',hp',aE,rd,fl⟩ K)
   (ee dst fr (.tp []) fun fr'=>fj T tab mu ops l (i+1) (gT dst bt 0) (⟨i,[],false,false⟩ :: acc) ⟨fr',hp,aE,rd,fl⟩ K) ∨
  (gd=none∧∃ t x hi mx els f inf,op=.slice t x none (some hi) (some mx)∧aO fr x=.sl els f∧aO fr hi=.fl (.int .i64 (els.length:Int))∧aO fr mx=.fl (.int .i64 (els.length:Int))∧elem? T t=some inf∧1≤inf.size∧(∀ el ∈ els,el.length=inf.size) ∧
   ee dst fr (.sl els true) fun fr'=>fj T tab mu ops l (i+1) (gT dst bt (l6 bt x)) (⟨i,[],false,false⟩ :: acc) ⟨fr',hp,aE,rd,fl⟩ K)
theorem FO {t:TypeId} {u:Value} {els:List (List AV)} {f:Bool} {inf:rX} (hx:AR E.ρ H.get (E.O hp) (.sl els f) u) (hi:elem? T t=some inf) (h1:1≤inf.size) (hel:∀ el ∈ els,el.length=inf.size) :
  ∃ v,fK T t u none (.int .i64 (els.length:Int)) (.int .i64 (els.length:Int))=some v∧AR E.ρ H.get (E.O hp) (.sl els true) v:=by
 have n1:iy (.int .i64 (els.length:Int))=some els.length:=by
  show (bif decide ((els.length:Int) < 0) then none else some (els.length:Int).toNat)=_
  rw [decide_eq_false (by omega)]
  rfl
 cases hx.ia with
 | nil =>
  refine ⟨.slice none 0 0,?_,.d .nil⟩
  unfold fK
  simp only [hi,cQ,n1]
  rw [show Nat.ble 1 inf.size=true from Nat.ble_eq_true_of_le h1]
  rfl
 | sl q1 q2 q3 q4 q5 q6 q7 =>
  rename_i k o n c es cs own e
  subst q4
  refine ⟨.slice (some ⟨k,o,none⟩) els.length els.length,?_,.d (.sl q1 q2 q3 rfl q5 q6 fun _=>rfl)⟩
  unfold fK
  simp only [hi,cQ,n1]
  rw [show Nat.ble 1 inf.size=true from Nat.ble_eq_true_of_le h1,show Nat.ble 0 els.length=true from Nat.ble_eq_true_of_le (Nat.zero_le _),show Nat.ble els.length els.length=true from Nat.ble_eq_true_of_le (Nat.le_refl _),Nat.beq_refl]
  simp only [Bool.and_self,cond_true,Nat.zero_mul,Nat.add_zero,Nat.sub_zero]
theorem iw {mu:Tmp→Bool} {ops:Array Oper}:∀ {l:List Oper} {i:Nat} {bt:Nat→Nat} {acc:List gC} {evs:List Ev} {st:bF} {K:bF→Prop} {tr:Nat→bX} {s:St},fj T tab mu ops l i bt acc st K →
  jP base st.aE tr i→(tr i).hp=st.hp→(tr i).H=s.hp→s.rd=st.rd→fc tr i bt st.fr s.fr→mL tr i acc evs →
  ∃ m s',bC T (RX T tab m) ops l i s evs=some [s']∧∃ E' st',K st'∧st'.fl=st.fl∧ld E' base st' s'∧Ext base (tr 0).E (tr 0).hp (tr 0).H E' st'.hp s'.hp
 | [],i,bt,acc,evs,st,K,tr,s,h,ht,h1,h2,h3,hb,he=>by
  obtain ⟨hc,hk⟩:=h
  have hrel:=ht.rel i (Nat.le_refl _)
  have hok:cE T ops evs=true:=by
   unfold cE
   cases hq:(evs.all fun e=>e.t.wr.isEmpty && Nat.beq e.t.a e.t.b) with
   | true=>rfl
   | false=>exact he.pairs ht (Nat.le_refl _) hc
  refine ⟨0,s,by rw [cZ,hok];rfl,(tr i).E,st,hk,rfl,⟨by rw [←h1,←h2];exact hrel,h3,fun t=>?_⟩,by rw [←h1,←h2];exact ht.ext 0 i (Nat.zero_le _) (Nat.le_refl _)⟩
  have:=(ht.ext _ i (hb t).1 (Nat.le_refl _)).ar (ht.rel _ (hb t).1).wf (hb t).2
  rw [←h1,←h2]
  exact this
 | o :: l,i,bt,acc,evs,st,K,tr,s,h,ht,h1,h2,h3,hb,he=>by
  have h:bV ops.toList o.guard st.fr (dN T tab mu o.dst o.op i bt st.fr st.hp fun fr' hp' bt' x=>(B8 o.op || x.acc.all fun p=>p.wr || p.own.isNone)=true∧fj T tab mu ops l (i+1) bt' (x :: acc) ⟨fr',hp',st.aE,st.rd,st.fl⟩ K)
   (ee o.dst st.fr (.tp []) fun fr'=>fj T tab mu ops l (i+1) (gT o.dst bt 0) (⟨i,[],false,false⟩ :: acc) ⟨fr',st.hp,st.aE,st.rd,st.fl⟩ K) ∨
   (o.guard=none∧∃ t x hi mx els f inf,o.op=.slice t x none (some hi) (some mx)∧aO st.fr x=.sl els f∧aO st.fr hi=.fl (.int .i64 (els.length:Int))∧aO st.fr mx=.fl (.int .i64 (els.length:Int))∧elem? T t=some inf∧1≤inf.size∧(∀ el ∈ els,el.length=inf.size) ∧
    ee o.dst st.fr (.sl els true) fun fr'=>fj T tab mu ops l (i+1) (gT o.dst bt (l6 bt x)) (⟨i,[],false,false⟩ :: acc) ⟨fr',st.hp,st.aE,st.rd,st.fl⟩ K):=h
  have hrel:=ht.rel i (Nat.le_refl _)
  have hfr:iJ (tr i).E.ρ (tr i).H.get ((tr i).E.O (tr i).hp) st.fr s.fr:=fun t=>(ht.ext _ i (hb t).1 (Nat.le_refl _)).ar (ht.rel _ (hb t).1).wf (hb t).2
  have hz0:(snoc tr i (tr i) 0)=tr 0:=aQ (Nat.zero_le _)
  rcases h with h|⟨hgd,t,x,hi,mx,els,f,inf,hop,hx,hhi,hmx,hinf,h1s,hel,h⟩
  rotate_left
  ·have hbx:=hb.eval x
   rw [hx] at hbx
   have hfx:(tr (l6 bt x)).ar (.sl els f) (aP s.fr x):=hbx.2
   obtain ⟨v,hv1,hv2⟩:=FO (T:=T) (t:=t) hfx hinf h1s hel
   have e1:aP s.fr hi=.int .i64 (els.length:Int):=by
    have:=h9 hfr hi
    rw [hhi] at this
    exact this.eG.1
   have e2:aP s.fr mx=.int .i64 (els.length:Int):=by
    have:=h9 hfr mx
    rw [hmx] at this
    exact this.eG.1
   have hd:∀ m,aW T (RX T tab m) o.op i s=some (v,s.hp,⟨i,[],[],false,s.hp.n,s.hp.n⟩):=by
    intro m
    unfold aW
    rw [hop]
    have:gU T s.hp.n (.slice t x none (some hi) (some mx)) (aP s.fr) s.hp.get=some (v,.none):=by
     show (fK T t (aP s.fr x) none (aP s.fr hi) (aP s.fr mx)).map (fun v=>(v,bN.none))=_
     rw [e1,e2,hv1]
     rfl
    show (match iT (.slice t x none (some hi) (some mx)) (aP s.fr),gU T s.hp.n (.slice t x none (some hi) (some mx)) (aP s.fr) s.hp.get with
     | some (r,w),some (v,e)=>some (v,s.hp.app e,(⟨i,r,w,false,s.hp.n,(s.hp.app e).n⟩:Tc))
     | _,_=>none)=_
    rw [this]
    rfl
   obtain ⟨m,s',r1,r2⟩:=iw (s:=⟨dm s.fr o.dst v,s.hp,s.rd⟩) (evs:=⟨o,s,v,s.hp,⟨i,[],[],false,s.hp.n,s.hp.n⟩⟩ :: evs) (bE h) (ht.snoc (z:=tr i) hrel .refl) (by rw [aM (Nat.lt_succ_self _)];exact h1) (by rw [aM (Nat.lt_succ_self _)];exact h2) h3
    (hb.put (show l6 bt x≤i+1 by have:=hbx.1;omega) (by rw [aQ hbx.1];exact hv2) o.dst) (.cons (he.snoc (Nat.le_refl _)) rfl ⟨⟨rfl,by rw [aQ (Nat.le_refl _),h2],by rw [aM (Nat.lt_succ_self _),h2],fun _ _=>rfl,rfl,fun k hk=>(by cases hk),fun k hk=>(by cases hk)⟩,fun k hk=>(by cases hk),fun h=>Bool.noConfusion h⟩)
   have hz0:(snoc tr i (tr i) 0)=tr 0:=aQ (Nat.zero_le _)
   rw [hz0] at r2
   refine ⟨m,s',?_,r2⟩
   rw [aK,show bf ops.toList s.fr o.guard=true by rw [hgd];rfl]
   simp only [cond_true,hd]
   exact r1
  rcases lf hfr h with ⟨hg,h⟩|⟨hg,h⟩
  ·
   have go:∀ (z:bX) (v:AV) (u:Value) (b:Nat) (x:gC) (t:Tc) (m0:Nat),aS z.E base z.hp st.aE z.H→Ext base (tr i).E (tr i).hp (tr i).H z.E z.hp z.H→b≤i+1→(snoc tr i z b).ar v u→x.i=i→rW (snoc tr i z) x t →
     (∀ m,m0≤m→aW T (RX T tab m) o.op i s=some (u,z.H,t))→fj T tab mu ops l (i+1) (gT o.dst bt b) (x :: acc) ⟨s5 st.fr o.dst v,z.hp,st.aE,st.rd,st.fl⟩ K →
     ∃ m s',bC T (RX T tab m) ops (o :: l) i s evs=some [s']∧∃ E' st',K st'∧st'.fl=st.fl∧ld E' base st' s'∧Ext base (tr 0).E (tr 0).hp (tr 0).H E' st'.hp s'.hp:=by
    intro z v u b x t m0 hz he' hbi hv hxi hx hd hw
    obtain ⟨m,s',r1,r2⟩:=iw (s:=⟨dm s.fr o.dst u,z.H,s.rd⟩) (evs:=⟨o,s,u,z.H,t⟩ :: evs) hw (ht.snoc hz he') (by rw [aM (Nat.lt_succ_self _)]) (by rw [aM (Nat.lt_succ_self _)]) h3 (hb.put hbi hv o.dst) (.cons (he.snoc (Nat.le_refl _)) hxi hx)
    rw [aQ (Nat.zero_le _)] at r2
    refine ⟨max m0 m,s',?_,r2⟩
    rw [aK,hg]
    simp only [cond_true,hd _ (Nat.le_max_left _ _)]
    exact eJ (dD (Nat.le_max_right _ _)) _ _ _ _ _ _ r1
   unfold dN at h
   split at h
   ·rename_i f args hk
    have h:=dP (aY h)
    obtain ⟨hF,vs,v,hhand,⟨hvd,hpure⟩,h⟩:=h
    have hF':=(rH hfr f).deep hF
    have hget:({s.hp with lo:=s.hp.n}:Hp).get=(tr i).H.get:=by rw [h2];rfl
    obtain ⟨goal,hgo,m0,L,q1,q2,q3⟩:∃ goal,cD (jr T.P s.fr f) (args.map (aP s.fr))=some goal ∧
      ∃ m L,RX T tab m (gI {s.hp with lo:=s.hp.n} goal)=some L∧(true=true→∃ r,L=[r])∧∀ r ∈ L,∃ w H',r=.ret w H' ∧
       ({s.hp with lo:=s.hp.n}:Hp).n≤H'.n∧Wf H'∧(∀ k,k < ({s.hp with lo:=s.hp.n}:Hp).n→H'.get k=({s.hp with lo:=s.hp.n}:Hp).get k)∧min ({s.hp with lo:=s.hp.n}:Hp).lo ({s.hp with lo:=s.hp.n}:Hp).n≤H'.lo∧DR H'.get ((tr i).E.O (tr i).hp) v w:=by
     rcases hhand with ⟨rfl,hA⟩|⟨hz,hfree⟩
     ·have hA':=(cX hfr args).deep hA
      exact hpure ((tr i).E.O (tr i).hp) {s.hp with lo:=s.hp.n} _ _ (by rw [h2] at hrel;exact hrel.wf) (fun k hk=>by
       have:k < (tr i).H.n:=hk.elim (fun h=>hrel.iI h) (hrel.xn k)
       rw [h2] at this;exact this) (by rw [hget];exact hF') (by rw [hget];exact hA')
     ·obtain ⟨goal,hgo,m0,L,q1,q2,q3⟩:=hpure (tr i).E.X {s.hp with lo:=s.hp.n} _ _ (by rw [h2] at hrel;exact hrel.wf) (fun k hk=>by
       have:k < (tr i).H.n:=hrel.xn k hk
       rw [h2] at this;exact this) (by rw [hget];exact hF'.mono fun k b hk ho=>⟨hk,fun hx=>ho (.inr hx)⟩) (by
        rw [hget]
        rw [←h1] at hz
        exact hz.dr hrel (fun _ h=>h) (cX hfr args))
      refine ⟨goal,hgo,m0,L,q1,q2,fun r hm=>?_⟩
      obtain ⟨w,H',e1,e2,e3,e4,e5,e6⟩:=q3 r hm
      exact ⟨w,H',e1,e2,e3,e4,e5,hfree.2 _ _ _ _ e6⟩
    obtain ⟨r,hr⟩:=q2 rfl
    subst hr
    obtain ⟨w,H',rfl,hn,hwf,hsame,hlo,hdr⟩:=q3 r (by simp)
    obtain ⟨g1,g2⟩:=hrel.grow (H':={H' with lo:=s.hp.lo}) (by rw [h2];exact hn) hwf (fun k hk=>by
     have:=hsame k (by rw [←h2];exact hk)
     rw [h2];exact this) (by rw [h2];exact Nat.min_le_left _ _)
    refine go ⟨(tr i).E,st.hp,{H' with lo:=s.hp.lo}⟩ v w (i+1) ⟨i,[],true,true⟩ ⟨i,[],[],true,s.hp.n,H'.n⟩ m0 (by rw [←h1];exact g1) (by rw [←h1];exact g2) (Nat.le_refl _) ?_ rfl ?_ (fun m hm=>?_) (bE h).2
    ·rw [aM (Nat.lt_succ_self _)]
     refine .d ?_
     show DR H'.get ((tr i).E.O st.hp) v w
     rw [←h1];exact hdr
    ·refine ⟨⟨rfl,by rw [aQ (Nat.le_refl _),h2],by rw [aM (Nat.lt_succ_self _)],fun h=>Bool.noConfusion h,rfl,fun k hk=>(by cases hk),fun k hk=>(by cases hk)⟩,fun k hk=>(by cases hk),fun _=>?_⟩
     rw [aM (Nat.lt_succ_self _),aQ (Nat.le_refl _)]
     exact ⟨rfl,h1.symm⟩
    ·unfold aW
     simp only [hk,hgo,dD hm _ _ q1]
     have:Nat.ble s.hp.n H'.lo=true:=Nat.ble_eq_true_of_le (by
      have:min s.hp.n s.hp.n≤H'.lo:=hlo
      omega)
     rw [kU this]
   ·exact h.elim
   ·rename_i hk
    obtain ⟨a,hacc,hw⟩:=h
    have hw':=hw
    rw [←h1] at hw'
    obtain ⟨r,w,ht1,ht2,ht3⟩:=nW ht hb hacc hw'
    have evr:∀ (z:bX) (u:Value) (e:bN),(B8 o.op || a.all fun p=>p.wr || p.own.isNone)=true→gU T s.hp.n o.op (aP s.fr) s.hp.get=some (u,e)→z.H=s.hp.app e→rW (snoc tr i z) ⟨i,a,news? o.op,false⟩ ⟨i,r,w,false,s.hp.n,(s.hp.app e).n⟩:=by
     intro z u e hro hop hz
     refine ⟨⟨rfl,by rw [aQ (Nat.le_refl _),h2],by rw [aM (Nat.lt_succ_self _),hz],fun hal _=>(lu (nx hop hal)).symm,rfl,fun k hk=>?_,fun k hk=>?_⟩,fun k hk=>?_,fun h=>Bool.noConfusion h⟩
     ·obtain ⟨p,p1,p2,p3⟩:=ht2 k hk;exact ⟨p,p1,p2,p3.snoc (Nat.le_refl _)⟩
     ·obtain ⟨p,p1,p2,p3⟩:=ht3 k hk;exact ⟨p,p1,p2,p3.snoc (Nat.le_refl _)⟩
     ·obtain ⟨p,p1,p2,p3,p4⟩:=JR ht hb hro hacc hw' ht1 k hk
      exact ⟨p,p1,p2,p3.snoc (Nat.le_refl _),fun ho=>by rw [aQ (Nat.le_refl _)];exact p4 ho⟩
    have drw:∀ (u:Value) (e:bN) (m:Nat),gU T s.hp.n o.op (aP s.fr) s.hp.get=some (u,e)→aW T (RX T tab m) o.op i s=some (u,s.hp.app e,⟨i,r,w,false,s.hp.n,(s.hp.app e).n⟩):=by
     intro u e m hop
     unfold aW
     simp only [hk,ht1,hop]
    by_cases hm:∃ x,u7 o.op st.fr=some [x]
    ·obtain ⟨x,hm⟩:=hm
     have hbirth:gW o.op st.fr bt i=l6 bt x:=by unfold gW;rw [hm]
     have hbx:=hb.eval x
     have eb:=ht.ext _ i hbx.1 (Nat.le_refl _)
     obtain ⟨u,v,r1,r2,r3,r4⟩:=qv (ρ2:=(tr (l6 bt x)).E.ρ) (g2:=(tr (l6 bt x)).H.get) (O2:=(tr (l6 bt x)).E.O (tr (l6 bt x)).hp) (n:=s.hp.n) hfr hm (fun y hy=>by
      obtain rfl:=List.mem_singleton.1 hy;exact hbx.2) (fun k b hk ho=>(eb.keep (ht.rel _ hbx.1).wf k b hk ho).1) hw
     rw [h2] at r1
     have hz:(tr i).H=s.hp.app .none:=h2
     rw [hbirth] at r2
     refine go (tr i) v u (l6 bt x) ⟨i,a,news? o.op,false⟩ ⟨i,r,w,false,s.hp.n,(s.hp.app .none).n⟩ 0 hrel .refl (by omega) (by rw [aQ hbx.1];exact r4) rfl (evr _ u .none (bE (aY r2)).1 r1 hz) (fun m _=>by rw [hz];exact drw u .none m r1) (by rw [h1];exact (bE (aY r2)).2)
    ·have hbirth:gW o.op st.fr bt i=i+1:=by
      unfold gW
      split
      ·rename_i x hx;exact absurd ⟨x,hx⟩ hm
      ·rfl
     obtain ⟨u,e,E',v,hp',r1,r2,r3,r4,r5⟩:=gi hrel hfr hw'
     rw [h2] at r1 r3 r4 r5
     rw [hbirth] at r2
     refine go ⟨E',hp',s.hp.app e⟩ v u (i+1) ⟨i,a,news? o.op,false⟩ ⟨i,r,w,false,s.hp.n,(s.hp.app e).n⟩ 0 r3 (by rw [h2];exact r4) (Nat.le_refl _) (by rw [aM (Nat.lt_succ_self _)];exact r5) rfl (evr _ u e (bE (aY r2)).1 r1 rfl) (fun m _=>drw u e m r1) (bE (aY r2)).2
  ·obtain ⟨m,s',r1,r2⟩:=iw (s:=⟨dm s.fr o.dst undef,s.hp,s.rd⟩) (evs:=⟨o,s,undef,s.hp,⟨i,[],[],false,s.hp.n,s.hp.n⟩⟩ :: evs) (bE h) (ht.snoc (z:=tr i) hrel .refl) (by rw [aM (Nat.lt_succ_self _)];exact h1) (by rw [aM (Nat.lt_succ_self _)];exact h2) h3
    (hb.put (Nat.zero_le _) nt o.dst) (.cons (he.snoc (Nat.le_refl _)) rfl ⟨⟨rfl,by rw [aQ (Nat.le_refl _),h2],by rw [aM (Nat.lt_succ_self _),h2],fun _ _=>rfl,rfl,fun k hk=>(by cases hk),fun k hk=>(by cases hk)⟩,fun k hk=>(by cases hk),fun h=>Bool.noConfusion h⟩)
   rw [hz0] at r2
   refine ⟨m,s',?_,r2⟩
   rw [aK,hg]
   exact r1
theorem aA.EO {id:Nat} {l l1 l2:List Oper} {c:Nat} {mu:Tmp→Bool} {st:bF} {K:Exit→bF→Prop} (hc:eM l.toArray=c) (h1:l.take c=l1) (h2:l.drop c=l2)
  (h:fj T tab mu l.toArray l1 0 (fun _=>0) [] st fun s=>wpOps T tab one mu l l2 s (K .normal)):aA T tab one (.region id l.toArray true) st K:=by
 subst hc h1 h2
 intro E base s hs
 obtain ⟨m,s',r1,E',st',r2,r3,r4,r5⟩:=iw (base:=base) (tr:=fun _=>⟨E,st.hp,s.hp⟩) (evs:=[]) h ⟨fun _ _=>hs.h,fun _ _ _ _=>.refl⟩ rfl rfl hs.rd (fun t=>⟨Nat.le_refl _,hs.fr t⟩) .nil
 obtain ⟨m2,L,q1,q2,q3⟩:=gx r2 r4
 refine ⟨max m m2,L.map fun s=>(.normal,s),?_,fun h1=>?_,fun p hp=>?_⟩
 ·rw [dc]
  have:bL T (RX T tab (max m m2)) l.toArray s=some L:=by
   cases hn:sM l.toArray with
   | none =>
    unfold bL
    simp only [hn,eJ (dD (Nat.le_max_left m m2)) _ _ _ _ _ _ r1]
    exact gh (dD (Nat.le_max_right _ _)) _ _ _ _ q1
   | some c =>
    have ht:=xA hn
    rw [ht] at r1 q1
    have r1':bC T (RX T tab m) l.toArray l 0 s []=some [s']:=by simpa using r1
    have q1':bw T (RX T tab m2) l [] s'=some L:=by simpa using q1
    rw [iE] at q1'
    cases q1'
    exact j9 (by rw [ht]) (eJ (dD (Nat.le_max_left m m2)) _ _ _ _ _ _ (by simpa using r1'))
  simp only [cond_true,this]
 ·obtain ⟨p,hp⟩:=q2 h1
  exact ⟨_,by rw [hp];rfl⟩
 ·obtain ⟨s3,hm,rfl⟩:=List.mem_map.1 hp
  obtain ⟨E2,st2,k1,k2,k3,k4⟩:=q3 s3 hm
  rw [r3] at k2 k4
  exact ⟨E2,st2,k1,k2,k3,r5.FY.trans k4⟩
variable {mu : Tmp → Bool} {fr : Nat → AV} {KS : bF → Prop} {rd : Bool} {dst : Option Tmp}
theorem QT {ops:Array Oper} {op:Op} {a1 a2 a3 gd} {l:List Oper} {i:Nat} {bt:Nat→Nat} {acc:List gC}
 (h:bV ops.toList gd fr (dN T tab mu dst op i bt fr hp fun fr' hp' bt' x=>(B8 op || x.acc.all fun p=>p.wr || p.own.isNone)=true∧fj T tab mu ops l (i+1) bt' (x :: acc) ⟨fr',hp',aE,rd,fl⟩ KS)
  (ee dst fr (.tp []) fun fr'=>fj T tab mu ops l (i+1) (gT dst bt 0) (⟨i,[],false,false⟩ :: acc) ⟨fr',hp,aE,rd,fl⟩ KS)):fj T tab mu ops (⟨dst,op,a1,a2,a3,gd⟩ :: l) i bt acc ⟨fr,hp,aE,rd,fl⟩ KS:=.inl h
theorem QU {ops:Array Oper} {a1 a2 a3} {l:List Oper} {i:Nat} {bt:Nat→Nat} {acc:List gC} {t:TypeId} {x hi mx:Operand} {els:List (List AV)} {f:Bool} {inf:rX} (hx:aO fr x=.sl els f) (hh:aO fr hi=.fl (.int .i64 (els.length:Int))) (hm:aO fr mx=.fl (.int .i64 (els.length:Int))) (hi':elem? T t=some inf) (h1:1≤inf.size) (hel:∀ el ∈ els,el.length=inf.size)
  (h:ee dst fr (.sl els true) fun fr'=>fj T tab mu ops l (i+1) (gT dst bt (l6 bt x)) (⟨i,[],false,false⟩ :: acc) ⟨fr',hp,aE,rd,fl⟩ KS):fj T tab mu ops (⟨dst,.slice t x none (some hi) (some mx),a1,a2,a3,none⟩ :: l) i bt acc ⟨fr,hp,aE,rd,fl⟩ KS :=
 .inr ⟨rfl,t,x,hi,mx,els,f,inf,rfl,hx,hh,hm,hi',h1,hel,h⟩
end
end Go.RM
