/-
  A layer of contracts over the abstract machine. Lemmas alone; no condition.
-/
import Derived.Test.YtkappgolfkiaeaaGreatDoorA2
import Derived.ProofKit
import Derived.Carry
namespace Go.RM
open Go
theorem IX {v:AV} {K:AV→Prop} (h:K v):force v K:=by cases v <;> exact h
section
variable {T : bL} {tab : List XE} {one : Bool} {mu : Tmp → Bool} {own : Bool} {fr : Nat → AV} {hp : List AB} {aO : cz} {rd : Bool} {fl : Nat} {K : AV → List AB → Prop} {KE : Exit → cH → Prop} {KS : cH → Prop} {st : cH} {dst : Option Tmp}
theorem c1 (h:KE .normal st):me T tab one mu .skip st KE:=h
theorem c2 {a b:Code} (h:me T tab one mu a st (wQ (fun s=>me T tab one mu b s KE) KE)):me T tab one mu (.seq a b) st KE:=h
theorem c3 {id:Nat} {c:Code} (h:me T tab one mu c st (jM id KE)):me T tab one mu (.block id c) st KE:=h
theorem c4 {id:Nat} {l:List Oper} (h:wpOps T tab one mu l l st (KE .normal)):me T tab one mu (.region id l.toArray false) st KE:=h
theorem c5 {id:Nat} {l l1 l2:List Oper} {c:Nat} (hc:fR l.toArray=c) (h1:l.take c=l1) (h2:l.drop c=l2) (h:jP T tab mu l.toArray l1 0 (fun _=>0) [] st fun s=>wpOps T tab one mu l l2 s (KE .normal)):me T tab one mu (.region id l.toArray true) st KE:=by subst hc h1 h2;exact h
theorem c6 {id:Nat} (h:KE (.exit id) st):me T tab one mu (.exit id) st KE:=h
theorem c7 (h:KE .ret st):me T tab one mu .ret st KE:=h
theorem c8 {c:Code} (h:me T tab one mu c st (tJ KE)):me T tab one mu (.scope c) st KE:=h
theorem c9 {Q:cH→Prop} (h:Q st):wQ Q KE .normal st:=h
theorem d1 {Q:cH→Prop} (h:KE .ret st):wQ Q KE .ret st:=h
theorem d2 {Q:cH→Prop} {id:Nat} (h:KE (.exit id) st):wQ Q KE (.exit id) st:=h
theorem d3 {id:Nat} (h:KE .normal st):jM id KE .normal st:=h
theorem d4 {id:Nat} (h:KE .ret st):jM id KE .ret st:=h
theorem d5 {id id':Nat} (hb:Nat.beq id' id=true) (h:KE .normal st):jM id KE (.exit id') st:=by unfold jM;simp only [hb,cond_true];exact h
theorem d6 {id id':Nat} (hb:Nat.beq id' id=false) (h:KE (.exit id') st):jM id KE (.exit id') st:=by unfold jM;simp only [hb,cond_false];exact h
theorem d7 (h:KE .normal st):tJ KE .normal st:=h
theorem d8 (h:KE .ret st):tJ KE .ret st:=h
theorem d9 {id:Nat} (h:KE (.exit id) st):tJ KE (.exit id) st:=h
theorem e1 {c:Operand} {a b:Code} {t:Bool} (hc:bq st.fr c=.fl (.bool t)) (h:(t=true→me T tab one mu a st KE)∧(t=false→me T tab one mu b st KE)):me T tab one mu (.cond c a b) st KE:=by show (match bq st.fr c with|.fl (.bool t)=>_|_=>False);rw [hc];exact h
theorem e2 {c:Operand} {a b:Code} {t:Bool} (hc:bq st.fr c=.fl (.bool t)) (ht:t=true) (h:me T tab one mu a st KE):me T tab one mu (.cond c a b) st KE:=e1 hc (MP ht h)
theorem e3 {c:Operand} {a b:Code} {t:Bool} (hc:bq st.fr c=.fl (.bool t)) (ht:t=false) (h:me T tab one mu b st KE):me T tab one mu (.cond c a b) st KE:=e1 hc (PN ht h)
theorem o1 {ops:List Oper} (h:KS st):wpOps T tab one mu ops [] st KS:=h
theorem o2 {ops:List Oper} {op:Op} {a1 a2 a3 gd} {l:List Oper}
 (h:cG ops gd fr (sy T tab one mu dst op fr hp aO rd fl fun st'=>wpOps T tab one mu ops l st' KS) (gQ dst fr (.tp []) fun fr'=>wpOps T tab one mu ops l ⟨fr',hp,aO,rd,fl⟩ KS)):wpOps T tab one mu ops (⟨dst,op,a1,a2,a3,gd⟩ :: l) ⟨fr,hp,aO,rd,fl⟩ KS:=h
theorem o3 {ops:Array Oper} {op:Op} {a1 a2 a3 gd} {l:List Oper} {i:Nat} {bt:Nat→Nat} {acc:List kj}
 (h:cG ops.toList gd fr (eU T tab mu dst op i bt fr hp fun fr' hp' bt' x=>jP T tab mu ops l (i+1) bt' (x :: acc) ⟨fr',hp',aO,rd,fl⟩ KS)
  (gQ dst fr (.tp []) fun fr'=>jP T tab mu ops l (i+1) (jO dst bt 0) (⟨i,[],false,false⟩ :: acc) ⟨fr',hp,aO,rd,fl⟩ KS)):jP T tab mu ops (⟨dst,op,a1,a2,a3,gd⟩ :: l) i bt acc ⟨fr,hp,aO,rd,fl⟩ KS:=h
theorem o4 {ops:List Oper} {yes no:Prop} (h:yes):cG ops none fr yes no:=h
theorem o5 {d:Tmp} {v:AV} {P:(Nat→AV)→Prop} (h:P fun t=>bif Nat.beq t d then v else fr t):gQ (some d) fr v P:=h
theorem o6 {v:AV} {P:(Nat→AV)→Prop} (h:P fr):gQ none fr v P:=h
theorem o7 {f:Operand} {l:List Operand} {tys} (h:force (bq fr f) fun F=>fk (l.map (bq fr)) fun as=>aB T tab one F as hp aO fun v hp' amb'=>gQ dst fr v fun fr'=>KS ⟨fr',hp',amb',rd,fl⟩) :
 sy T tab one mu dst (.call ⟨.value f,l.toArray,tys⟩) fr hp aO rd fl KS:=h
theorem o8 {op:Op} (hk:dF op=.plain) (h:wpOp T (MO mu dst) op fr hp fun v hp'=>force v fun v=>gQ dst fr v fun fr'=>KS ⟨fr',hp',aO,rd,fl⟩):sy T tab one mu dst op fr hp aO rd fl KS:=by unfold sy;rw [hk];exact h
theorem o9 {x:Operand} {l:List Operand} {f:Operand→AV} {P:List AV→Prop} (h:force (f x) fun a=>fk (l.map f) fun l=>P (a :: l)):fk ((x :: l).map f) P:=h
theorem p1 {f:Operand→AV} {P:List AV→Prop} (h:P []):fk (([]:List Operand).map f) P:=h
theorem p2 {x:Operand} (h:K (bq fr x) hp):wpOp T own (.move x) fr hp K:=h
theorem p3 {x:Operand} (h:K (bq fr x) hp):wpOp T own (.assign x) fr hp K:=h
theorem p4 {c a b:Operand} (h:tE (bq fr c) (bq fr a) (bq fr b) hp K):wpOp T own (.pick c a b) fr hp K:=h
theorem p5 {o:BinOp} {t e:TypeId} {x y:Operand} (h:bw T o t x y (bq fr x) (bq fr y) hp K):wpOp T own (.binOp o t x y e) fr hp K:=h
theorem p6 {x:Operand} {t:TypeId} (h:force (bq fr x) fun v=>sv T t v hp K):wpOp T own (.call ⟨.builtin .len,[x].toArray,[t].toArray⟩) fr hp K:=IX (ct h)
theorem p7 {f:FuncId} {a b:List Operand} (h:fk (a.map (bq fr)) fun a=>fk (b.map (bq fr)) fun b=>K (.fn f a b) hp):wpOp T own (.makeFunc (.func f) a.toArray b.toArray) fr hp K:=h
theorem p8 {x:Operand} (h:sk (bq fr x) hp K):wpOp T own (.nilCheck x) fr hp K:=h
theorem p9 {op:Op} {i:Nat} {bt:Nat→Nat} {KD:(Nat→AV)→List AB→(Nat→Nat)→kj→Prop} (hk:dF op=.plain) (h:∃ a,Eh op fr (sV bt)=some a∧wpOp T (MO mu dst) op fr hp fun v hp'=>force v fun v=>gQ dst fr v fun fr'=>KD fr' hp' (jO dst bt (lI op fr bt i)) ⟨i,a,news? op,false⟩) :
  eU T tab mu dst op i bt fr hp KD:=by
 unfold eU;rw [hk];exact h
theorem sE {v:AV} {P:AV→Prop} (h:P v):force v P:=by cases v <;> exact h
theorem tM:∀ {l:List AV} {P:List AV→Prop},P l→fk l P
 | [],_,h=>h
 | _ :: _,_,h=>sE (tM (P:=fun _=>_) h)
theorem FQ {f:Operand} {l:List Operand} {tys} {i:Nat} {bt:Nat→Nat} {KD:(Nat→AV)→List AB→(Nat→Nat)→kj→Prop} (h:(bq fr f).deep=true∧∃ vs v,Handed hp (l.map (bq fr)) vs v∧af T tab true (bq fr f) vs v∧gQ dst fr v fun fr'=>KD fr' hp (jO dst bt (i+1)) ⟨i,[],true,true⟩) :
  eU T tab mu dst (.call ⟨.value f,l.toArray,tys⟩) i bt fr hp KD:=by
 show force (bq fr f) fun F=>fk (l.map (bq fr)) fun as=>F.deep=true∧∃ vs v,Handed hp as vs v∧af T tab true F vs v∧gQ dst fr v fun fr'=>KD fr' hp (jO dst bt (i+1)) ⟨i,[],true,true⟩;generalize bq fr f=F at h ⊢;generalize l.map (bq fr)=as at h ⊢;exact sE (tM (P:=fun as=>F.deep=true∧∃ vs v,Handed hp as vs v∧af T tab true F vs v∧gQ dst fr v fun fr'=>KD fr' hp (jO dst bt (i+1)) ⟨i,[],true,true⟩) h)
theorem n1 {f:Operand} {l:List Operand} {tys} {i:Nat} {bt:Nat→Nat} {KD:(Nat→AV)→List AB→(Nat→Nat)→kj→Prop} (h:force (bq fr f) fun F=>fk (l.map (bq fr)) fun as=>F.deep=true∧bG as=true∧∃ v,af T tab true F as v∧gQ dst fr v fun fr'=>KD fr' hp (jO dst bt (i+1)) ⟨i,[],true,true⟩) :
  eU T tab mu dst (.call ⟨.value f,l.toArray,tys⟩) i bt fr hp KD:=by
 have h:=fQ (ct h);obtain ⟨h1,h2,v,h3,h4⟩:=h;exact FQ ⟨h1,_,v,.inl ⟨rfl,h2⟩,h3,h4⟩
theorem n2 {f:Operand} {l:List Operand} {tys} {i:Nat} {bt:Nat→Nat} {KD:(Nat→AV)→List AB→(Nat→Nat)→kj→Prop} {F v:AV} {as vs:List AV} (hp':af T tab true F vs v) (hf:bq fr f=F) (ha:l.map (bq fr)=as) (hF:F.deep=true) (hz:DK hp as vs) (hv:gZ v) (h:gQ dst fr v fun fr'=>KD fr' hp (jO dst bt (i+1)) ⟨i,[],true,true⟩) :
  eU T tab mu dst (.call ⟨.value f,l.toArray,tys⟩) i bt fr hp KD:=by
 subst hf ha;exact FQ ⟨hF,vs,v,.inr ⟨hz,hv⟩,hp',h⟩
theorem n3 {x:Operand} {t:TypeId} {b:Bool} (hb:bq fr x=.fl (.bool b)) (h:K (.fl (.bool (!b))) hp):wpOp T own (.unOp .not t x) fr hp K:=by show MN T .not (bq fr x) hp K;rw [hb];exact h
theorem n4 {x y:Operand} {tys:Array TypeId} {m n:Int} (hx:bq fr x=.fl (.int .i64 m)) (hy:bq fr y=.fl (.int .i64 n)) (h:K (.fl (.int .i64 (min m n))) hp):wpOp T own (.call ⟨.builtin .min,[x,y].toArray,tys⟩) fr hp K:=by show force (bq fr x) fun a=>force (bq fr y) fun b=>FI T [a,b] hp K;rw [hx,hy];exact h
theorem n5 {x y:Operand} {tys:Array TypeId} {m n:Int} (hx:bq fr x=.fl (.int .i64 m)) (hy:bq fr y=.fl (.int .i64 n)) (h:K (.fl (.int .i64 (max m n))) hp):wpOp T own (.call ⟨.builtin .max,[x,y].toArray,tys⟩) fr hp K:=by show force (bq fr x) fun a=>force (bq fr y) fun b=>FJ T [a,b] hp K;rw [hx,hy];exact h
section
variable {v : AV} {P : AV → Prop}
theorem f1 {x:Value} (hv:v=.fl x) (h:P (.fl x)):force v P:=by subst hv;exact h
theorem f2 {a:List (List AV)} {b:Bool} (hv:v=.sl a b) (h:P (.sl a b)):force v P:=by subst hv;exact h
theorem f3 {a:List AV} {b:Nat} (hv:v=.pt a b) (h:P (.pt a b)):force v P:=by subst hv;exact h
theorem f4 {a:FuncId} {b c:List AV} (hv:v=.fn a b c) (h:P (.fn a b c)):force v P:=by subst hv;exact h
theorem f5 {a:List AV} (hv:v=.ag a) (h:P (.ag a)):force v P:=by subst hv;exact h
theorem f6 {a:List AV} (hv:v=.tp a) (h:P (.tp a)):force v P:=by subst hv;exact h
theorem f7 {a b c:Nat} (hv:v=.ptr a b c) (h:P (.ptr a b c)):force v P:=by subst hv;exact h
theorem f8 {a b c d e:Nat} (hv:v=.dw a b c d e) (h:P (.dw a b c d e)):force v P:=by subst hv;exact h
theorem f9 {a:Nat} (hv:v=.om a) (h:P (.om a)):force v P:=by subst hv;exact h
theorem g1 {a:Value} (hv:v=.oq a) (h:P (.oq a)):force v P:=by subst hv;exact h
theorem g2 (hv:v=.cw) (h:P .cw):force v P:=by subst hv;exact h
end
section
variable {c a b : AV} {t x y : Bool}
theorem k1 (hc:c=.fl (.bool t)) (h:jZ t a b hp K):tE c a b hp K:=by subst hc;exact h
theorem k2 (ht:t=true) (h:K a hp):jZ t a b hp K:=by
 subst ht;unfold jZ;split
 ·exact h
 ·exact And.intro (fun _=>h) (fun e=>Bool.noConfusion e)
theorem k3 (ht:t=false) (h:K b hp):jZ t a b hp K:=by
 subst ht;unfold jZ;split
 ·exact h
 ·exact And.intro (fun e=>Bool.noConfusion e) (fun _=>h)
theorem k4 (ha:a=.fl (.bool x)) (hb:b=.fl (.bool y)) (h:K (.fl (.bool (bif t then x else y))) hp):jZ t a b hp K:=by subst ha hb;exact h
end
section
variable {a b : AV} {m n : Int} {t : TypeId} {x y : Operand}
theorem b1 (ha:a=.fl (.int .i64 m)) (hb:b=.fl (.int .i64 n)) (hh:-9223372036854775808≤m+n∧m+n≤9223372036854775807) (h:K (.fl (.int .i64 (m+n))) hp):bw T .add t x y a b hp K:=by subst ha hb;exact ⟨hh,h⟩
theorem b2 (ha:a=.fl (.int .i64 m)) (hb:b=.fl (.int .i64 n)) (hh:-9223372036854775808≤m - n∧m - n≤9223372036854775807) (h:K (.fl (.int .i64 (m - n))) hp):bw T .sub t x y a b hp K:=by subst ha hb;exact ⟨hh,h⟩
theorem b3 (ha:a=.fl (.int .i64 m)) (hb:b=.fl (.int .i64 n)) (hh:-9223372036854775808≤m * n∧m * n≤9223372036854775807) (h:K (.fl (.int .i64 (m * n))) hp):bw T .mul t x y a b hp K:=by subst ha hb;exact ⟨hh,h⟩
theorem b4 (ha:a=.fl (.int .i64 m)) (hb:b=.fl (.int .i64 n)) (h:K (.fl (.bool (decide (m=n)))) hp):bw T .eql t x y a b hp K:=by subst ha hb;exact h
theorem b5 (ha:a=.fl (.int .i64 m)) (hb:b=.fl (.int .i64 n)) (h:K (.fl (.bool (!decide (m=n)))) hp):bw T .neq t x y a b hp K:=by subst ha hb;exact h
theorem b6 (ha:a=.fl (.int .i64 m)) (hb:b=.fl (.int .i64 n)) (h:K (.fl (.bool (decide (m < n)))) hp):bw T .lss t x y a b hp K:=by subst ha hb;exact h
theorem b7 (ha:a=.fl (.int .i64 m)) (hb:b=.fl (.int .i64 n)) (h:K (.fl (.bool (decide (m≤n)))) hp):bw T .leq t x y a b hp K:=by subst ha hb;exact h
theorem b8 (ha:a=.fl (.int .i64 m)) (hb:b=.fl (.int .i64 n)) (h:K (.fl (.bool (decide (n < m)))) hp):bw T .gtr t x y a b hp K:=by subst ha hb;exact h
theorem b9 (ha:a=.fl (.int .i64 m)) (hb:b=.fl (.int .i64 n)) (h:K (.fl (.bool (decide (n≤m)))) hp):bw T .geq t x y a b hp K:=by subst ha hb;exact h
theorem r1 (ha:a=.fl (.int .i64 m)) (hb:b=.fl (.int .i64 n)) (h0:0≤m∧1≤n) (h:K (.fl (.int .i64 (m % n))) hp):bw T .rem t x y a b hp K:=by subst ha hb;exact ⟨_,MV h0.1 h0.2,rfl,h⟩
theorem r2 (ha:a=.fl (.int .i64 m)) (hb:b=.fl (.int .i64 n)) (h0:(0≤m∧m≤9223372036854775807)∧1≤n) (h:K (.fl (.int .i64 (m / n))) hp):bw T .quo t x y a b hp K:=by subst ha hb;exact ⟨_,MW h0.1.1 h0.1.2 h0.2,rfl,h⟩
end
section
variable {v : AV} {t : TypeId}
theorem l1 {e:TypeId} {a1 a2 a3 a4 a5 a6} {els:List (List AV)} {f:Bool} (ht:T.ty.get t=some ⟨.slice e,a1,a2,a3,a4,a5,a6⟩) (h:K (.fl (.int .i64 els.length)) hp):sv T t (.sl els f) hp K:=by unfold sv;rw [ht];exact h
theorem l2 {e:TypeId} {a1 a2 a3 a4 a5 a6} {j aF o n c:Nat} (ht:T.ty.get t=some ⟨.slice e,a1,a2,a3,a4,a5,a6⟩) (h:K (.fl (.int .i64 n)) hp):sv T t (.dw j aF o n c) hp K:=by unfold sv;rw [ht];exact h
theorem l3 {a:List AV} {b:Nat} (hv:v=.pt a b) (h:K (.pt a b) hp):sk v hp K:=by subst hv;exact h
theorem l4 {a b c:Nat} (hv:v=.ptr a b c) (h:K (.ptr a b c) hp):sk v hp K:=by subst hv;exact h
end
end
section
variable {T : bL} {tab : List XE} {one : Bool} {mu : Tmp → Bool} {base : Nat} {E : Env} {hp : List AB} {aO : cz} {H : Hp} {ρ : Nat → Nat → Option Nat} {g : aG} {O O' : Nat → Prop}
theorem iZ {a b:Code} {st:cH} {K:Exit→cH→Prop} (h:me T tab one mu a st (wQ (fun s=>aE T tab one b s K) K)):aE T tab one (.seq a b) st K:=.seq (aa h)
def aW (j:Nat) (ρ:Nat→Nat→Option Nat):Nat→Nat→Option Nat:=fun i v=>if i=j then none else ρ i v
mutual
def AV.mS (j:Nat):AV→Bool
 | .fl _=>true
 | .sl _ _=>true
 | .pt _ _=>true
 | .fn _ a b=>wY j a && wY j b
 | .ag a=>wY j a
 | .tp a=>wY j a
 | .oq _=>true
 | .cw=>true
 | .ptr i _ _=>!Nat.beq i j
 | .dw i _ _ _ _=>!Nat.beq i j
 | .om i=>!Nat.beq i j
def wY (j:Nat):List AV→Bool
 | []=>true
 | a :: l=>a.mS j && wY j l
end
theorem dH {j:Nat}:∀ {l:List AV},wY j l=true→∀ (i:Nat) (a:AV),l[i]?=some a→a.mS j=true
 | [],_,i,a,h=>by cases h
 | x :: l,h,i,a,ha=>by
  simp only [wY,qq7] at h
  cases i with
  | zero=>cases ha;exact h.1
  | succ i=>exact dH h.2 i a (by simpa using ha)
theorem gG {i j:Nat} (h:(!Nat.beq i j)=true):i ≠ j:=by intro e;subst e;rw [Nat.beq_refl] at h;cases h
theorem AR.mS {j:Nat} (hO:∀ k,O' k→O k) {v:AV} {u:Value} (h:AR ρ g O v u):v.mS j=true→AR (aW j ρ) g O' v u:=by
 induction h with
 | d h=>intro _;exact .d (h.mono fun k b hk ho=>⟨hk,fun h=>ho (hO k h)⟩)
 | cw=>intro _;exact .cw
 | ptr h=>intro hd;simp only [AV.mS] at hd;exact .ptr (by rw [aW,if_neg (gG hd)];exact h)
 | dw h=>intro hd;simp only [AV.mS] at hd;exact .dw (by rw [aW,if_neg (gG hd)];exact h)
 | rZ=>intro _;exact .rZ
 | om h=>intro hd;simp only [AV.mS] at hd;exact .om (by rw [aW,if_neg (gG hd)];exact h)
 | fn ha hb h1 h2 ih1 ih2 =>intro hd;simp only [AV.mS,qq7] at hd;exact .fn ha hb (fun i x u hx hu=>ih1 i x u hx hu (dH hd.1 i x hx)) (fun i x u hx hu=>ih2 i x u hx hu (dH hd.2 i x hx))
 | ag ha h1 ih=>intro hd;simp only [AV.mS] at hd;exact .ag ha (fun i x u hx hu=>ih i x u hx hu (dH hd i x hx))
 | tp ha h1 ih=>intro hd;simp only [AV.mS] at hd;exact .tp ha (fun i x u hx hu=>ih i x u hx hu (dH hd i x hx))
def AB.mS (j:Nat):AB→Bool
 | .cells cs _ _=>wY j cs
 | .dQ _ _=>true
 | .map ents _=>ents.all fun p=>p.1.mS j && p.2.1.mS j
 | .iter i _ _ _=>!Nat.beq i j
 | .gone=>true
inductive Gv (j aF:Nat) (cs:List AV):AV→AV→Prop
 | same {a:AV}:a.mS j=true→Gv j aF cs a a
 | ptr {o:Nat}:Gv j aF cs (.ptr j aF o) (.pt cs o)
 | row {o n c:Nat} {els:List (List AV)} {b:Bool} (es:Nat):o+n * es≤cs.length→els.length=n→(∀ el ∈ els,el.length=es)→els.flatten=(cs.drop o).take (n * es)→(b=true→c=n)→Gv j aF cs (.dw j aF o n c) (.sl els b)
 | cw {a:AV}:Gv j aF cs a .cw
def wZ (j aF:Nat) (cs:List AV) (fr:Nat→AV):List (Nat × AV)→Prop
 | []=>True
 | (i,v) :: l=>Gv j aF cs (fr i) v∧wZ j aF cs fr l
theorem A2 {j aF:Nat} {cs:List AV} {fr:Nat→AV}:∀ {l:List (Nat × AV)},wZ j aF cs fr l→∀ t,Gv j aF cs (fr t) (bA l t)
 | [],_,t=>.cw
 | (i,v) :: l,h,t=>by
  unfold bA;rw [Tr.beq_eq];by_cases hti:t=i
  ·rw [decide_eq_true hti,hti];exact h.1
  ·rw [decide_eq_false hti];exact A2 h.2 t
theorem ai.T8 {st:cH} {l:List (Nat × AV)} {j aF es:Nat} {cs:List AV} (hj:st.hp[j]?=some (.cells cs es aF)) (hn:st.fl≤j) (hd:bG cs=true) (hs:wZ j aF cs st.fr l) (hb:∀ (i:Nat) (b:AB),st.hp[i]?=some b→i ≠ j→b.mS j=true) :
  ai st ⟨bA l,st.hp.set j .gone,st.aO,st.rd,st.fl⟩:=by
 have hlt:j < st.hp.length:=(List.getElem?_eq_some_iff.1 hj).1;refine ⟨rfl,fun E base s hs'=>?_⟩;have hr:=hs'.h
 have hget:∀ (i:Nat) (b:AB) (aF:Nat),(st.hp.set j .gone)[i]?=some b→b.ver?=some aF→i ≠ j∧st.hp[i]?=some b:=by
  intro i b aF hi hv;by_cases hij:i=j
  ·subst hij;rw [List.getElem?_set_self hlt] at hi;cases hi;cases hv
  ·rw [List.getElem?_set_ne (Ne.symm hij)] at hi;exact ⟨hij,hi⟩
 have hdr:∀ {i v k:Nat},aW j E.ρ i v=some k→i ≠ j∧E.ρ i v=some k:=by
  intro i v k h;unfold aW at h;split at h
  ·cases h
  ·rename_i hne;exact ⟨hne,h⟩
 have hown:∀ k,Own (aW j E.ρ) (st.hp.set j .gone) k→Own E.ρ st.hp k:=by rintro k ⟨i,b,v,h1,h2,h3⟩;exact ⟨i,b,v,(hget i b v h1 h2).2,h2,(hdr h3).2⟩
 have hOs:∀ k,({E with ρ:=aW j E.ρ}:Env).O (st.hp.set j .gone) k→E.O st.hp k:=fun k h=>h.imp (hown k) id
 have hpt:∀ {o:Nat} {u:Value},AR E.ρ s.hp.get (E.O st.hp) (.ptr j aF o) u→AR (aW j E.ρ) s.hp.get (({E with ρ:=aW j E.ρ}:Env).O (st.hp.set j .gone)) (.pt cs o) u:=by
  intro o u h;obtain ⟨k,hk,rfl⟩:=h.di;obtain ⟨cs',q1,q2⟩:=hr.cells hj hk
  have hnO:¬ ({E with ρ:=aW j E.ρ}:Env).O (st.hp.set j .gone) k:=by
   rintro (⟨i,b,v,h1,h2,h3⟩|hx)
   ·have:=hdr h3;exact this.1 (hr.inj i j v aF k this.2 hk)
   ·exact hr.jm k ⟨j,_,aF,hj,rfl,hk⟩ hx
  have:=q2.deep hd;refine .d (?_:DR _ _ (.pt cs o) (.pointer (some ⟨k,o,none⟩)))
  have h0:DR s.hp.get (({E with ρ:=aW j E.ρ}:Env).O (st.hp.set j .gone)) (.pt cs o) (.pointer (some ⟨k,0+o,none⟩)) :=
   .pt q1 hnO (by rw [Nat.zero_add,this.1];exact qq6 _) (fun i a u x y=>(this.2 i a u x (by rw [Nat.zero_add] at y;exact y)).mono fun k b hk ho=>⟨hk,fun h=>ho (hOs k h)⟩)
  rw [Nat.zero_add] at h0;exact h0
 have hrow:∀ {o n c:Nat} {els:List (List AV)} {b:Bool} {u:Value} (es:Nat),o+n * es≤cs.length→els.length=n→(∀ el ∈ els,el.length=es)→els.flatten=(cs.drop o).take (n * es)→(b=true→c=n)→AR E.ρ s.hp.get (E.O st.hp) (.dw j aF o n c) u →
   AR (aW j E.ρ) s.hp.get (({E with ρ:=aW j E.ρ}:Env).O (st.hp.set j .gone)) (.sl els b) u:=by
  intro o n c els b u es g1 g2 g3 g4 g5 h
  rcases h.fT with ⟨k,hk,rfl⟩|⟨rfl,rfl,rfl⟩
  ·obtain ⟨cs',q1,q2⟩:=hr.cells hj hk
   have hnO:¬ ({E with ρ:=aW j E.ρ}:Env).O (st.hp.set j .gone) k:=by
    rintro (⟨i,b,v,h1,h2,h3⟩|hx)
    ·have:=hdr h3;exact this.1 (hr.inj i j v aF k this.2 hk)
    ·exact hr.jm k ⟨j,_,aF,hj,rfl,hk⟩ hx
   have hdp:=q2.deep hd;refine .d (.sl (es:=es) q1 hnO (by rw [←q2.1];exact g1) g2 (fun i el he=>g3 el (List.mem_of_getElem? he)) (fun i el jj a u he hx hu=>?_) g5);have hjj:jj < es:=by rw [←g3 el (List.mem_of_getElem? he)];exact (List.getElem?_eq_some_iff.1 hx).1
   have hat:=fH g3 i el jj he hjj;have hi:i < n:=by rw [←g2];exact (List.getElem?_eq_some_iff.1 he).1
   rw [g4,List.getElem?_take,List.getElem?_drop] at hat;have hlt:i * es+jj < n * es:=by have:(i+1) * es≤n * es:=Nat.mul_le_mul_right _ hi;rw [Nat.add_mul,Nat.one_mul] at this;omega
   rw [if_pos hlt,hx,←Nat.add_assoc] at hat;exact (hdp.2 _ a u hat hu).mono fun k b hk ho=>⟨hk,fun h=>ho (hOs k h)⟩
  ·simp only [List.length_eq_zero_iff] at g2;subst g2;exact .d .nil
 have hgv:∀ {a b:AV} {u:Value},Gv j aF cs a b→AR E.ρ s.hp.get (E.O st.hp) a u→AR (aW j E.ρ) s.hp.get (({E with ρ:=aW j E.ρ}:Env).O (st.hp.set j .gone)) b u:=by
  intro a b u hg h
  cases hg with
  | same hn=>exact h.mS hOs hn
  | ptr=>exact hpt h
  | row es g1 g2 g3 g4 g5=>exact hrow es g1 g2 g3 g4 g5 h
  | cw=>exact .cw
 refine ⟨{E with ρ:=aW j E.ρ},⟨⟨hr.wf,fun i b v hi hv=>?_,fun i i' v v' k h1 h2=>hr.inj i i' v v' k (hdr h1).2 (hdr h2).2,fun i v k hk=>hr.rn i v k (hdr hk).2,fun i b v w h1 h2 h3=>?_,fun i v hi=>?_,fun k hk=>hr.sup k (hown k hk),fun k hk=>hr.jm k (hown k hk),hr.dx,hr.ds,hr.sn,hr.xn,fun k hk=>hr.qK k (hk.imp (hown k) id),hr.bn,hr.aO⟩,hs'.rd,fun t=>hgv (A2 hs t) (hs'.fr t)⟩,
  ⟨qq6 _,fun i v k hi hk=>?_,fun k hk=>.inl (hown k hk),fun _ h=>.inl h,fun _ h=>.inl h,fun _ h=>h,fun _ h=>.inl h,fun _ _ _ _=>rfl,Nat.min_le_left _ _⟩⟩
 ·obtain ⟨hij,hi'⟩:=hget i b v hi hv;have hbn:=hb i b hi' hij
  rcases hr.gT i b v hi' hv with ⟨k,b',q1,q2,q3⟩|⟨q1,q2⟩
  ·refine .inl ⟨k,b',by show aW j E.ρ i v=_;rw [aW,if_neg hij];exact q1,q2,?_⟩
   cases b with
   | cells cs2 es2 ver2 =>obtain ⟨cs',rfl,h⟩:=q3;exact ⟨cs',rfl,h.1,fun i a u ha hu=>(h.2 i a u ha hu).mS hOs (dH hbn i a ha)⟩
   | dQ p q=>exact q3
   | map ents clock =>obtain ⟨es,rfl,h1,h2⟩:=q3;refine ⟨es,rfl,h1,fun i k v born x hx hy=>?_⟩;simp only [AB.mS,List.all_eq_true,qq7] at hbn;have:=hbn _ (List.mem_of_getElem? hx);exact ⟨(h2 i k v born x hx hy).1.mS hOs this.1,(h2 i k v born x hx hy).2.1.mS hOs this.2,(h2 i k v born x hx hy).2.2⟩
   | iter i2 since seen stepped =>obtain ⟨m,rfl,h⟩:=q3;exact ⟨m,rfl,by show aW j E.ρ i2 0=_;rw [aW,if_neg (gG hbn)];exact h⟩
   | gone=>exact q3
  ·exact .inr ⟨by show aW j E.ρ i v=_;rw [aW,if_neg hij];exact q1,q2⟩
 ·obtain ⟨hij,h1⟩:=hget i b v h1 h2;show aW j E.ρ i w=none;rw [aW,if_neg hij];exact hr.fresh i b v w h1 h2 h3
 ·show aW j E.ρ i v=none;unfold aW;split
  ·rfl
  ·exact hr.new i v (by simpa using hi)
 ·show aW j E.ρ i v=some k;rw [aW,if_neg (by omega)];exact hk
def w4 (j:Nat):Nat→List AB→Bool
 | _,[]=>true
 | i,b :: l=>(Nat.beq i j || b.mS j) && w4 j (i+1) l
theorem w5 {j:Nat}:∀ {l:List AB} {i0:Nat},w4 j i0 l=true→∀ (i:Nat) (b:AB),l[i]?=some b→i0+i ≠ j→b.mS j=true
 | [],_,_,i,b,h,_=>by cases h
 | x :: l,i0,h,i,b,hb,hne=>by
  simp only [w4,qq7,Bool.or_eq_true] at h
  cases i with
  | zero =>
   cases hb
   rcases h.1 with h|h
   ·exact absurd (Nat.eq_of_beq_eq_true h) hne
   ·exact h
  | succ i=>exact w5 h.2 i b (by simpa using hb) (by omega)
theorem ai.giveUp {st:cH} {l:List (Nat × AV)} (j:Nat) {aF es:Nat} {cs:List AV} {hp:List AB} (hj:st.hp[j]?=some (.cells cs es aF)) (hn:st.fl≤j) (hd:bG cs=true) (hs:wZ j aF cs st.fr l) (hb:w4 j 0 st.hp=true) (hh:st.hp.set j .gone=hp) :
  ai st ⟨bA l,hp,st.aO,st.rd,st.fl⟩:=by
 subst hh;exact ai.T8 hj hn hd hs fun i b h hne=>w5 hb i b h (by omega)
theorem IY {P:Program} {t:TypeId} {x y:Operand} {n:Int}:eA P .shr t x y (.int .u64 n) (.int .u64 1)=some (.int .u64 (n / 2),.none):=by have h:eA P .shr t x y (.int .u64 n) (.int .u64 1)=some (.int .u64 (n.fdiv (2 ^ 1)),.none):=rfl;rw [h,Int.fdiv_eq_ediv_of_nonneg n (by decide)];rfl
end
theorem fJ.tN {j aF c:Nat}:fJ (.fl (.slice none 0 0)) (.dw j aF 0 0 c):=fun _ _ _ u h=>by rw [h.gq.1];exact .rZ
theorem ai.tO {st:cH} (es:Nat):ai st ⟨st.fr,st.hp++[.cells [] es 0],st.aO,st.rd,st.fl⟩:=by
 refine ⟨rfl,fun E base s hs=>?_⟩;have hr:=hs.h
 have hget:∀ (i:Nat) (b:AB),(st.hp++[AB.cells [] es 0])[i]?=some b→(i < st.hp.length∧st.hp[i]?=some b)∨(i=st.hp.length∧b=.cells [] es 0):=by
  intro i b hi;by_cases hlt:i < st.hp.length
  ·rw [List.getElem?_append_left hlt] at hi;exact .inl ⟨hlt,hi⟩
  ·rw [List.getElem?_append_right (by omega)] at hi;have h0:i - st.hp.length=0:=by apply Nat.eq_zero_of_not_pos;intro hp0;rw [List.getElem?_eq_none (by simp;omega)] at hi;cases hi
   rw [h0] at hi;cases hi;exact .inr ⟨by omega,rfl⟩
 have hown:∀ k,Own E.ρ (st.hp++[.cells [] es 0]) k→Own E.ρ st.hp k:=by
  rintro k ⟨i,b,v,h1,h2,h3⟩
  rcases hget i b h1 with ⟨_,h1⟩|⟨rfl,rfl⟩
  ·exact ⟨i,b,v,h1,h2,h3⟩
  ·rw [hr.new _ v (qq6 _)] at h3;cases h3
 have hO:∀ k,E.O (st.hp++[.cells [] es 0]) k→E.O st.hp k:=fun k h=>h.imp (hown k) id;have keep:∀ k b,s.hp.get k=some b→¬ E.O st.hp k→s.hp.get k=some b∧¬ E.O (st.hp++[.cells [] es 0]) k:=fun k b hk ho=>⟨hk,fun h=>ho (hO k h)⟩;have har:∀ {v:AV} {u:Value},AR E.ρ s.hp.get (E.O st.hp) v u→AR E.ρ s.hp.get (E.O (st.hp++[.cells [] es 0])) v u:=fun h=>h.mono (fun _ _ _ h=>h) keep
 refine ⟨E,⟨⟨hr.wf,fun i b v hi hv=>?_,hr.inj,hr.rn,fun i b v w h1 h2 h3=>?_,fun i v hi=>hr.new i v (by simp at hi;omega),fun k hk=>hr.sup k (hown k hk),fun k hk=>hr.jm k (hown k hk),hr.dx,hr.ds,hr.sn,hr.xn,fun k hk=>hr.qK k (hk.imp (hown k) id),hr.bn,hr.aO⟩,hs.rd,fun t=>har (hs.fr t)⟩,
  ⟨qq6 _,fun _ _ _ _ h=>h,fun k hk=>.inl (hown k hk),fun _ h=>.inl h,fun _ h=>.inl h,fun _ h=>h,fun _ h=>.inl h,fun _ _ _ _=>rfl,Nat.min_le_left _ _⟩⟩
 ·rcases hget i b hi with ⟨_,hi'⟩|⟨rfl,rfl⟩
  ·rcases hr.gT i b v hi' hv with ⟨k,b',q1,q2,q3⟩|q
   ·refine .inl ⟨k,b',q1,q2,?_⟩
    cases b with
    | cells cs2 es2 ver2 =>obtain ⟨cs',rfl,h⟩:=q3;exact ⟨cs',rfl,h.1,fun i a u ha hu=>har (h.2 i a u ha hu)⟩
    | dQ p q=>exact q3
    | map ents clock =>obtain ⟨es,rfl,h1,h2⟩:=q3;exact ⟨es,rfl,h1,fun i k v born x hx hy=>⟨har (h2 i k v born x hx hy).1,har (h2 i k v born x hx hy).2.1,(h2 i k v born x hx hy).2.2⟩⟩
    | iter i2 since seen stepped=>exact q3
    | gone=>exact q3
   ·exact .inr q
  ·cases hv;exact .inr ⟨hr.new _ _ (qq6 _),es,rfl⟩
 ·rcases hget i b h1 with ⟨_,h1⟩|⟨rfl,rfl⟩
  ·exact hr.fresh i b v w h1 h2 h3
  ·exact hr.new _ _ (qq6 _)
theorem q1 {σ:Type} {P:σ→Prop} {I:σ→cH} {m:σ→Nat} {K:Exit→cH→Prop} {x:σ} {s:cH} (h:K .ret s):IK P I m K x .ret s:=h
theorem q2 {σ:Type} {P:σ→Prop} {I:σ→cH} {m:σ→Nat} {K:Exit→cH→Prop} {x:σ} {s:cH} {id:Nat} (h:K (.exit id) s):IK P I m K x (.exit id) s:=h
theorem IZ {α:Type} {l:List α} {j:Nat} {a:α} (h:l[j]?=some a):l.set j a=l:=by
 apply List.ext_getElem?;intro i;rw [List.getElem?_set];split
 ·rename_i hij;subst hij;rw [h];split
  ·rfl
  ·rename_i hn;exact absurd (List.getElem?_eq_some_iff.1 h).1 hn
 ·rfl
theorem MX {hp:List AB} {es bs:Nat} {x:AV} {els:List (List AV)} {j aF n c:Nat} {cs:List AV} {K:AV→List AB→Prop} (hx:CF hp es x els) (h1:els.flatten.all AV.one=true) (hj:hp[j]?=some (.cells cs es aF)) (hl:cs.length=n * es) (hc:c=n∨c=n+1)
  (hb:(n+els.length) * bs≤140737488355328∧n+els.length≤9223372036854775807) (hk:∀ v c',(c'=n+els.length∨c'=n+els.length+1)→K (.dw j v 0 (n+els.length) c') (hp.set j (.cells (cs++els.flatten) es v))) :
  ∃ els,CF hp es x els∧els.flatten.all AV.one=true∧∃ cs,hp[j]?=some (.cells cs es aF)∧cs.length=n * es∧(c=n∨c=n+1)∧((n+els.length) * bs≤140737488355328∧n+els.length≤9223372036854775807)∧(els=[]→K (.dw j aF 0 n c) hp) ∧
   (els ≠ []→K (.dw j (aF+1) 0 (n+els.length) (n+els.length+1)) (hp.set j (.cells (cs++els.flatten) es (aF+1)))):=by
 refine ⟨els,hx,h1,cs,hj,hl,hc,hb,fun he=>?_,fun _=>hk _ _ (.inr rfl)⟩;subst he;have h2:=hk aF c (by simpa using hc);rw [List.flatten_nil,List.append_nil,IZ hj] at h2;exact h2
theorem G2 {T:bL} {own:Bool} {fr:Nat→AV} {hp:List AB} {K:AV→List AB→Prop} {s x:Operand} {t u e:TypeId} {a1 a2 a3 a4 a5 a6} {j aF n c:Nat} {els:List (List AV)} {f:Bool} {cs:List AV} {inf:yR} (hs:bq fr s=.dw j aF 0 n c) (hx:bq fr x=.sl els f)
  (hu:T.ty.get u=some ⟨.slice e,a1,a2,a3,a4,a5,a6⟩) (hi:elem? T t=some inf) (hz:bZ inf=true) (hel:∀ el ∈ els,el.length=inf.size) (h1:els.flatten.all AV.one=true) (hj:hp[j]?=some (.cells cs inf.size aF)) (hl:cs.length=n * inf.size) (hc:c=n∨c=n+1)
  (hb:(n+els.length) * inf.bytes≤140737488355328∧n+els.length≤9223372036854775807) (hk:∀ v c',(c'=n+els.length∨c'=n+els.length+1)→K (.dw j v 0 (n+els.length) c') (hp.set j (.cells (cs++els.flatten) inf.size v))) :
  RM.wpOp T own (.call ⟨.builtin .append,[s,x].toArray,[t,u].toArray⟩) fr hp K:=by
 show force (bq fr s) fun a=>force (bq fr x) fun b=>mG T own .append [a,b] [t,u] hp K;rw [hs,hx];show (match T.ty.get u with|some ⟨.slice _,_,_,_,_,_,_⟩=>oO T own t (.dw j aF 0 n c) (.sl els f) hp K|_=>False);rw [hu];show oO T own t (.dw j aF 0 n c) (.sl els f) hp K;unfold oO;rw [hi];exact ⟨hz,MX (hp:=hp) (K:=K) ⟨hel,rfl⟩ h1 hj hl hc hb hk⟩
section
variable {T : bL} {tab : List XE} {one : Bool} {base : Nat} {E : Env} {hp : List AB} {aO : cz} {H : Hp} {ρ : Nat → Nat → Option Nat} {g : aG} {O O' : Nat → Prop}
def dn (a b:Nat) (ρ:Nat→Nat→Option Nat):Nat→Nat→Option Nat:=fun i v=>if i=a then ρ b v else if i=b then none else ρ i v
theorem AR.move {a b:Nat} (hO:∀ k,O' k→O k) {v:AV} {u:Value} (h:AR ρ g O v u):v.mS a=true→v.mS b=true→AR (dn a b ρ) g O' v u:=by
 have hm:∀ {i w:Nat},i ≠ a→i ≠ b→dn a b ρ i w=ρ i w:=fun {i w} h1 h2=>by unfold dn;rw [if_neg h1,if_neg h2]
 induction h with
 | d h=>intro _ _;exact .d (h.mono fun k b hk ho=>⟨hk,fun hx=>ho (hO k hx)⟩)
 | cw=>intro _ _;exact .cw
 | ptr h=>intro h1 h2;exact .ptr (by rw [hm (gG h1) (gG h2)];exact h)
 | dw h=>intro h1 h2;exact .dw (by rw [hm (gG h1) (gG h2)];exact h)
 | rZ=>intro _ _;exact .rZ
 | om h=>intro h1 h2;exact .om (by rw [hm (gG h1) (gG h2)];exact h)
 | fn ha hb h1 h2 ih1 ih2 =>intro n1 n2;simp only [AV.mS,qq7] at n1 n2;exact .fn ha hb (fun i x u hx hu=>ih1 i x u hx hu (dH n1.1 i x hx) (dH n2.1 i x hx)) (fun i x u hx hu=>ih2 i x u hx hu (dH n1.2 i x hx) (dH n2.2 i x hx))
 | ag ha h1 ih=>intro n1 n2;simp only [AV.mS] at n1 n2;exact .ag ha (fun i x u hx hu=>ih i x u hx hu (dH n1 i x hx) (dH n2 i x hx))
 | tp ha h1 ih=>intro n1 n2;simp only [AV.mS] at n1 n2;exact .tp ha (fun i x u hx hu=>ih i x u hx hu (dH n1 i x hx) (dH n2 i x hx))
inductive Mv (a b:Nat):AV→AV→Prop
 | same {v:AV}:v.mS a=true→v.mS b=true→Mv a b v v
 | ptr {aF o:Nat}:Mv a b (.ptr b aF o) (.ptr a aF o)
 | dw {aF o n c:Nat}:Mv a b (.dw b aF o n c) (.dw a aF o n c)
 | cw {v:AV}:Mv a b v .cw
def Ep (a b:Nat) (fr:Nat→AV):List (Nat × AV)→Prop
 | []=>True
 | (i,v) :: l=>Mv a b (fr i) v∧Ep a b fr l
theorem FR {a b:Nat} {fr:Nat→AV}:∀ {l:List (Nat × AV)},Ep a b fr l→∀ t,Mv a b (fr t) (bA l t)
 | [],_,t=>.cw
 | (i,v) :: l,h,t=>by
  unfold bA;rw [Tr.beq_eq];by_cases hti:t=i
  ·rw [decide_eq_true hti,hti];exact h.1
  ·rw [decide_eq_false hti];exact FR h.2 t
def T9 (T:bL) (rs:List ResultVar) (Q:AV→List AB→cz→Prop) (e:Exit) (s:cH):Prop :=
 match e with
 | .normal|.ret=>qo T s rs fun as=>Q (AW as) s.hp s.aO
 | _=>False
theorem MY {vs:List AV} {us:List Value} (h:gE ρ g O vs us):AR ρ g O (AW vs) (dm us):=by
 match vs,us,h with
 | [],[],_=>exact .tp rfl (fun i x u hx=>by cases hx)
 | [v],[u],h=>exact h.2 0 v u rfl rfl
 | a :: b :: l,c :: d :: m,h=>exact .tp (by simpa using h.1) (fun i x u hx hu=>h.2 i x u hx (by simpa using hu))
 | [],u :: us,h=>exact absurd h.1 (by simp)
 | v :: vs,[],h=>exact absurd h.1 (by simp)
 | [v],a :: b :: l,h=>exact absurd h.1 (by simp)
 | a :: b :: l,[v],h=>exact absurd h.1 (by simp)
theorem aB.body {f:FuncId} {fn:Func} {c:Code} {first caps args:List AV} {Q:AV→List AB→cz→Prop} (hf:T.fn.get f=some fn) (hb:fn.body=some c) (hn:noEntry tab f=true)
  (hw:aE T tab one c ⟨CJ (first++args++caps),hp,aO,false,hp.length⟩ (T9 T fn.results.toList Q)):aB T tab one (.fn f first caps) args hp aO Q:=by
 intro E base H u us hr hF ha
 obtain ⟨fs,cs,rfl,h1,h2⟩:∃ fs cs,u=.func (.func f) fs cs∧gE E.ρ H.get (E.O hp) first fs.toList∧gE E.ρ H.get (E.O hp) caps cs.toList:=by
  cases hF with
  | d h=>cases h with
   | fn ha hb h1 h2=>exact ⟨_,_,rfl,⟨ha,fun i x u hx hu=>.d (h1 i x u hx hu)⟩,⟨hb,fun i x u hx hu=>.d (h2 i x u hx hu)⟩⟩
  | fn ha hb h1 h2=>exact ⟨_,_,rfl,⟨ha,h1⟩,⟨hb,h2⟩⟩
 refine ⟨.fn f (fs.toList++us++cs.toList),rfl,?_⟩;have hargs:=(h1.append ha).append h2;obtain ⟨m,L,h1,h2,h3⟩:=hw E base ⟨setArgs .leaf 0 (fs.toList++us++cs.toList),H,false⟩ ⟨hr,rfl,wS hargs⟩
 obtain ⟨m',M,hm,q1,q2,q3⟩:=gu (one:=one) (L:=L) (f:=fun _ (p:Exit × St)=>fE T fn.results.toList p)
  (P:=fun r=>∃ w H',r=.ret w H'∧∃ E' a hp' amb',Q a hp' amb'∧aY E' base hp' amb' H'∧AR E'.ρ H'.get (E'.O hp') a w∧l9 hp.length base E hp H E' hp' H')
  (fun _ _ _ _ _ h=>h) m h2 (fun p hp'=>by
   obtain ⟨E',st',k1,k0,k2,k3⟩:=h3 p hp';obtain ⟨e,s'⟩:=p
   have done:(e=.normal∨e=.ret)→(qo T st' fn.results.toList fun as=>Q (AW as) st'.hp st'.aO)→∃ (_:Nat) (M:List gL),fE T fn.results.toList (e,s')=some M ∧
     qO one M fun r=>∃ w H',r=.ret w H'∧∃ E' a hp' amb',Q a hp' amb'∧aY E' base hp' amb' H'∧AR E'.ρ H'.get (E'.O hp') a w∧l9 hp.length base E hp H E' hp' H':=by
    intro he hr;obtain ⟨ws,as,r1,r2,r4⟩:=lH k2 hr;refine ⟨0,[.ret (dm ws) s'.hp],?_,.single ⟨_,_,rfl,E',AW as,st'.hp,st'.aO,r2,k2.h,MY r4,k3⟩⟩;unfold fE
    rcases he with rfl|rfl <;> simp only [r1,Option.map_some]
   cases e with
   | normal=>exact done (.inl rfl) k1
   | ret=>exact done (.inr rfl) k1
   | _=>exact k1.elim)
 refine ⟨m'+1,M,?_,q2,q3⟩;show RX T tab (m'+1) (.call f _ H)=_;rw [AD,pO _ _ hn];simp only;rw [kG,hf];simp only [hb];rw [fj (gH hm) _ _ _ h1];exact q1
end
section
variable {T : bL} {tab : List XE} {one : Bool}
end
section
variable {T : bL} {tab : List XE} {one : Bool}
end
section
variable {T : bL} {tab : List XE} {one : Bool} {base : Nat} {E : Env} {hp : List AB} {aO : cz} {H : Hp}
end
theorem wrap_i64 {n:Int} (h0:0≤n) (h1:n < 9223372036854775808):IntKind.wrap .i64 n=n:=by have hm:n % 18446744073709551616=n:=Int.emod_eq_of_lt h0 (by omega);show (if (true && decide (n % 18446744073709551616 ≥ 9223372036854775808))=true then n % 18446744073709551616 - 18446744073709551616 else n % 18446744073709551616)=n;rw [hm,if_neg (by simp;omega)]
theorem MZ {w m n:Nat} (hm:m < 2 ^ w) (hn:n < 2 ^ w):(BitVec.ofInt w (m:Int) ||| BitVec.ofInt w (n:Int)).toNat=m ||| n:=by rw [BitVec.toNat_or,BitVec.ofInt_natCast,BitVec.ofInt_natCast,BitVec.toNat_ofNat,BitVec.toNat_ofNat,Nat.mod_eq_of_lt hm,Nat.mod_eq_of_lt hn]
theorem w6 {P:Program} {t:TypeId} {x y:Operand} {m j:Nat} (hj:j < 8):eA P .shr t x y (.int .u8 (m:Int)) (.int .i64 (j:Int))=some (.int .u8 ((m / 2 ^ j:Nat):Int),.none):=by
 have h:eA P .shr t x y (.int .u8 (m:Int)) (.int .i64 (j:Int))=some (.int .u8 ((m:Int).fdiv (2 ^ j)),.none):=by
  match j,hj with
  | 0,_|1,_|2,_|3,_|4,_|5,_|6,_|7,_=>rfl
 rw [h,Int.fdiv_eq_ediv_of_nonneg _ (Int.pow_nonneg (by decide)),Int.natCast_ediv,Int.natCast_pow];rfl
theorem w7 {P:Program} {t:TypeId} {x y:Operand} {m:Nat}:eA P .rem t x y (.int .u8 (m:Int)) (.int .u8 2)=some (.int .u8 ((m % 2:Nat):Int),.none):=by have h:eA P .rem t x y (.int .u8 (m:Int)) (.int .u8 2)=some (.int .u8 ((m:Int).tmod 2),.none):=rfl;rw [h];rfl
section
variable {T : bL} {a b : AV} {t : TypeId} {x y : Operand} {hp : List AB} {K : AV → List AB → Prop}
theorem uL {m j:Nat} (ha:a=.fl (.int .u8 (m:Int))) (hb:b=.fl (.int .i64 (j:Int))) (hj:j < 8) (h:K (.fl (.int .u8 ((m / 2 ^ j:Nat):Int))) hp):bw T .shr t x y a b hp K:=by subst ha hb;exact ⟨_,_,rfl,rfl,.int .u8 ((m / 2 ^ j:Nat):Int),w6 hj,rfl,h⟩
theorem uM {m:Nat} (ha:a=.fl (.int .u8 (m:Int))) (hb:b=.fl (.int .u8 2)) (h:K (.fl (.int .u8 ((m % 2:Nat):Int))) hp):bw T .rem t x y a b hp K:=by subst ha hb;exact ⟨_,_,rfl,rfl,.int .u8 ((m % 2:Nat):Int),w7,rfl,h⟩
end
section
variable {T : bL} {tab : List XE} {one : Bool} {fl base : Nat} {E E' E2 : Env} {hp hp' hp2 : List AB} {aO amb' : cz} {H H' H2 : Hp} {ρ ρ2 : Nat → Nat → Option Nat} {g g2 : aG} {O O2 : Nat → Prop}
end
section
variable {T : bL} {tab : List XE} {one : Bool} {base : Nat} {E : Env} {hp : List AB} {aO : cz} {H : Hp}
inductive Fq (hp:List AB):AV→AV→Prop
 | fz {a v:AV}:Fz hp a v→Fq hp a v
 | ptr {j aF o es:Nat} {cs:List AV}:hp[j]?=some (.cells cs es aF)→bG cs=true→Fq hp (.ptr j aF o) (.pt cs o)
 | fn {f:FuncId} {a b x y:List AV}:a.length=x.length→b.length=y.length→(∀ (i:Nat) (u v:AV),a[i]?=some u→x[i]?=some v→Fq hp u v)→(∀ (i:Nat) (u v:AV),b[i]?=some u→y[i]?=some v→Fq hp u v)→Fq hp (.fn f a b) (.fn f x y)
theorem AR.M0 {ρ:Nat→Nat→Option Nat} {g:aG} {O:Nat→Prop} {f:FuncId} {a b:List AV} {u:Value} (h:AR ρ g O (.fn f a b) u):∃ a' b',u=.func (.func f) a' b'∧gE ρ g O a a'.toList∧gE ρ g O b b'.toList:=by
 cases h with
 | d h=>cases h with
  | fn ha hb h1 h2=>exact ⟨_,_,rfl,⟨ha,fun i x u hx hu=>.d (h1 i x u hx hu)⟩,⟨hb,fun i x u hx hu=>.d (h2 i x u hx hu)⟩⟩
 | fn ha hb h1 h2=>exact ⟨_,_,rfl,⟨ha,h1⟩,⟨hb,h2⟩⟩
theorem Fq.dr {X:Nat→Prop} (h:aY E base hp aO H) (hX:∀ k,X k→E.X k) {r v:AV} (hf:Fq hp r v):∀ {u:Value},AR E.ρ H.get (E.O hp) r u→DR H.get X v u:=by
 have weak:∀ {v:AV} {u:Value},DR H.get (E.O hp) v u→DR H.get X v u:=fun h=>h.mono fun k b hk ho=>⟨hk,fun hx=>ho (.inr (hX k hx))⟩
 induction hf with
 | fz hz=>intro u ha;exact hz.dr h hX ha
 | ptr h1 hd =>
  rename_i j aF o es cs;intro u ha;obtain ⟨k,hk,rfl⟩:=ha.di;obtain ⟨cs',q1,q2⟩:=h.cells h1 hk;have hok:Own E.ρ hp k:=⟨j,_,aF,h1,rfl,hk⟩;have hnx:¬ X k:=fun hx=>h.jm k hok (hX k hx)
  have:=DR.pt (g:=H.get) (O:=X) (l:=cs) (k:=k) (d:=0) (o:=o) (cs:=cs') q1 hnx (by rw [Nat.zero_add,q2.1];exact qq6 _) (fun i a u hx hu=>by
   rw [Nat.zero_add] at hu
   exact weak ((q2.2 i a u hx hu).deep (gF hd i a hx)))
  rw [Nat.zero_add] at this;exact this
 | @fn f a b x y h1 h2 _ _ ih1 ih2 =>
  intro u ha;obtain ⟨a',b',rfl,p1,p2⟩:=ha.M0;refine .fn (by rw [←h1];exact p1.1) (by rw [←h2];exact p2.1) (fun i v w hv hw=>?_) (fun i v w hv hw=>?_)
  ·have hi:i < a.length:=by rw [h1];exact (List.getElem?_eq_some_iff.1 hv).1
   have hai:a[i]?=some a[i]:=List.getElem?_eq_getElem hi;exact ih1 i _ v hai hv (p1.2 i _ w hai hw)
  ·have hi:i < b.length:=by rw [h2];exact (List.getElem?_eq_some_iff.1 hv).1
   have hai:b[i]?=some b[i]:=List.getElem?_eq_getElem hi;exact ih2 i _ v hai hv (p2.2 i _ w hai hw)
def iV (hp:List AB):List AV→List AV→Prop
 | [],[]=>True
 | r :: rs,v :: vs=>Fq hp r v∧iV hp rs vs
 | _,_=>False
theorem iV.dr {X:Nat→Prop} (h:aY E base hp aO H) (hX:∀ k,X k→E.X k):∀ {rs vs:List AV} {us:List Value},iV hp rs vs→gE E.ρ H.get (E.O hp) rs us→tD H.get X vs us
 | [],[],us,_,ha=>⟨ha.1,fun i a u hx=>by cases hx⟩
 | r :: rs,v :: vs,[],_,ha=>absurd ha.1 (by simp)
 | r :: rs,v :: vs,u :: us,hf,ha=>by
  have:=iV.dr h hX hf.2 (us:=us) ⟨by simpa using ha.1,fun i a u x y=>ha.2 (i+1) a u (by simpa using x) (by simpa using y)⟩;refine ⟨by simp [this.1],fun i a w hx hw=>?_⟩
  cases i with
  | zero=>cases hx;cases hw;exact hf.1.dr h hX (ha.2 0 r u rfl rfl)
  | succ i=>exact this.2 i a w (by simpa using hx) (by simpa using hw)
 | [],_ :: _,_,hf,_=>hf.elim
 | _ :: _,[],_,hf,_=>by simp [iV] at hf
theorem iV.RG {f:FuncId} {a b x y:List AV} (h1:iV hp a x) (h2:iV hp b y):Fq hp (.fn f a b) (.fn f x y):=by
 have key:∀ {a x:List AV},iV hp a x→a.length=x.length∧∀ (i:Nat) (u v:AV),a[i]?=some u→x[i]?=some v→Fq hp u v:=by
  intro a
  induction a with
  | nil =>
   intro x h
   cases x with
   | nil=>exact ⟨rfl,fun i u v hu=>by cases hu⟩
   | cons=>exact h.elim
  | cons r rs ih =>
   intro x h
   cases x with
   | nil=>simp [iV] at h
   | cons v vs =>
    obtain ⟨l,k⟩:=ih h.2;refine ⟨by simp [l],fun i u w hu hw=>?_⟩
    cases i with
    | zero=>cases hu;cases hw;exact h.1
    | succ i=>exact k i u w (by simpa using hu) (by simpa using hw)
 exact .fn (key h1).1 (key h2).1 (key h1).2 (key h2).2
theorem af.zq {F F':AV} {args vs:List AV} {v:AV} (h:af T tab one F' vs v) (hF:Fq hp F F') (hz:iV hp args vs) (hfree:gZ v) {Q:AV→List AB→cz→Prop} (hq:Q v hp aO):aB T tab one F args hp aO Q:=by
 intro E base H u us hr hf ha;obtain ⟨hd,h⟩:=h;obtain ⟨goal,hg,m,L,h1,h2,h3⟩:=h E.X H u us hr.wf (fun k hk=>hr.xn k hk) (hF.dr hr (fun _ h=>h) hf) (hz.dr hr (fun _ h=>h) ha);refine ⟨goal,hg,m,L,h1,h2,fun r hm=>?_⟩;obtain ⟨w,H',rfl,hn,hwf,hsame,hlo,hv⟩:=h3 r hm;have e:Ext base E hp H E hp H':=⟨hn,rfl,rfl,rfl,fun _ _ _ h=>h,fun _ h=>.inl h,fun k hk _=>hsame k hk,by have:=hr.bn;omega⟩;refine ⟨w,H',rfl,E,v,hp,aO,hq,⟨hwf,fun j x aF hj hvx=>?_,hr.inj,fun j v k hk=>Nat.lt_of_lt_of_le (hr.rn j v k hk) hn,hr.fresh,hr.new,hr.sup,hr.jm,hr.dx,hr.ds,fun k hk=>Nat.lt_of_lt_of_le (hr.sn k hk) hn,fun k hk=>Nat.lt_of_lt_of_le (hr.xn k hk) hn,hr.qK,Nat.le_trans hr.bn hn,aO.st hr.aO (fun k hk=>hsame k (hr.sn k hk)) hn⟩,.d (hfree.2 _ _ _ _ hv),e.MD⟩
 rcases hr.gT j x aF hj hvx with ⟨k,b',q1,q2,q3⟩|q
 ·exact .inl ⟨k,b',q1,by rw [hsame k (hr.wf.lt q2)];exact q2,e.br hr.wf q3⟩
 ·exact .inr q
theorem iV.nil:iV hp [] []:=trivial
theorem iV.cons {a x:AV} {as xs:List AV} (h:Fq hp a x) (k:iV hp as xs):iV hp (a :: as) (x :: xs):=⟨h,k⟩
theorem Fq.deep {v:AV} (h:v.deep=true):Fq hp v v:=.fz (.deep h)
end
section
variable {T : bL} {tab : List XE} {one : Bool} {mu : Tmp → Bool} {dst : Option Tmp} {fr : Nat → AV} {hp : List AB} {aO : cz} {rd : Bool} {fl : Nat} {KS : cH → Prop}
theorem om {r:Operand} {name:String} {l:List Operand} {tys} {F:AV} (hF:zj T.P (bq fr r) name=F) (h:force F fun F=>fk (l.map (bq fr)) fun as=>aB T tab one F as hp aO fun v hp' amb'=>gQ dst fr v fun fr'=>KS ⟨fr',hp',amb',rd,fl⟩) :
  sy T tab one mu dst (.call ⟨.invoke r name,l.toArray,tys⟩) fr hp aO rd fl KS:=by
 subst hF;exact h
theorem nm {r:Operand} {name:String} {l:List Operand} {tys} {i:Nat} {bt:Nat→Nat} {KD:(Nat→AV)→List AB→(Nat→Nat)→kj→Prop} {F v:AV} {as:List AV} (hp':af T tab true F as v) (hF:zj T.P (bq fr r) name=F) (ha:l.map (bq fr)=as) (hd:F.deep=true) (hda:bG as=true)
  (h:gQ dst fr v fun fr'=>KD fr' hp (jO dst bt (i+1)) ⟨i,[],true,true⟩):eU T tab mu dst (.call ⟨.invoke r name,l.toArray,tys⟩) i bt fr hp KD:=by
 show force (zj T.P (bq fr r) name) fun F=>fk (l.map (bq fr)) fun as=>F.deep=true∧∃ vs v,Handed hp as vs v∧af T tab true F vs v∧gQ dst fr v fun fr'=>KD fr' hp (jO dst bt (i+1)) ⟨i,[],true,true⟩;rw [hF,ha];exact sE (tM (P:=fun as=>F.deep=true∧∃ vs v,Handed hp as vs v∧af T tab true F vs v∧gQ dst fr v fun fr'=>KD fr' hp (jO dst bt (i+1)) ⟨i,[],true,true⟩) ⟨hd,as,v,.inl ⟨rfl,hda⟩,hp',h⟩)
end
section
variable {T : bL} {tab : List XE} {one : Bool} {mu : Tmp → Bool} {KE : Exit → cH → Prop} {st : cH}
theorem zu {l:List Oper} (hd:l.any vA=false):fR l.toArray=l.length:=by
 unfold fR;have:l.findIdx? vA=none:=by rw [List.findIdx?_eq_none_iff];intro x hx;rw [List.any_eq_false] at hd;simpa using hd x hx
 simp only [this]
theorem I2 {id:Nat} {l:List Oper} (hd:l.any vA=false) (h:jP T tab mu l.toArray l 0 (fun _=>0) [] st (KE .normal)):me T tab one mu (.region id l.toArray true) st KE:=by refine c5 (zu hd) rfl rfl ?_;rw [List.take_length,List.drop_length];exact h
end
section
variable {T : bL} {tab : List XE} {one : Bool} {mu : Tmp → Bool} {own : Bool} {fr : Nat → AV} {hp : List AB} {K : AV → List AB → Prop} {t : TypeId} {und : TypeDesc} {s by' : Nat} {z : Option Value} {agg : Bool} {cJ : List (Nat × Nat)} {cS : Nat}
theorem UG {a:Operand} {cs:List AV} {o:Nat} (ha:bq fr a=.pt cs o) (ht:T.ty.get t=some ⟨und,s,by',z,true,cJ,cS⟩) (hl:Nat.ble (o+s) cs.length=true) (h:K (.ag ((cs.drop o).take s)) hp):wpOp T own (.load t a) fr hp K:=by show eF T t (bq fr a) hp K;unfold eF;simp only [ha,ht];exact ⟨Nat.le_of_ble_eq_true hl,h⟩
theorem TX {a:Operand} {cs:List AV} {o:Nat} {v:AV} (ha:bq fr a=.pt cs o) (ht:T.ty.get t=some ⟨und,s,by',z,false,cJ,cS⟩) (hv:cs[o]?=some v) (h:K v hp):wpOp T own (.load t a) fr hp K:=by show eF T t (bq fr a) hp K;unfold eF;simp only [ha,ht];exact ⟨v,hv,h⟩
theorem UH {a:Operand} {j aF o es:Nat} {cs:List AV} (ha:bq fr a=.ptr j aF o) (ht:T.ty.get t=some ⟨und,s,by',z,true,cJ,cS⟩) (hj:hp[j]?=some (.cells cs es aF)) (hl:Nat.ble (o+s) cs.length=true) (h:K (.ag ((cs.drop o).take s)) hp):wpOp T own (.load t a) fr hp K:=by show eF T t (bq fr a) hp K;unfold eF;simp only [ha,ht];exact ⟨cs,es,hj,Nat.le_of_ble_eq_true hl,h⟩
theorem Ut {a:Operand} {j aF o es:Nat} {cs:List AV} {v:AV} (ha:bq fr a=.ptr j aF o) (ht:T.ty.get t=some ⟨und,s,by',z,false,cJ,cS⟩) (hj:hp[j]?=some (.cells cs es aF)) (hv:cs[o]?=some v) (h:K v hp):wpOp T own (.load t a) fr hp K:=by show eF T t (bq fr a) hp K;unfold eF;simp only [ha,ht];exact ⟨cs,es,hj,v,hv,h⟩
theorem UI {a:Operand} {i:Nat} {cs:List AV} {o off sz:Nat} {fs} (ha:bq fr a=.pt cs o) (ht:T.ty.get t=some ⟨.struct fs,s,by',z,agg,cJ,cS⟩) (hf:cJ[i]?=some (off,sz)) (h1:Nat.ble 1 sz=true) (h:K (.pt cs (o+off)) hp):wpOp T own (.fieldAddr t a i) fr hp K:=by show jY T t (bq fr a) i hp K;unfold jY;simp only [ha,ht];exact ⟨off,sz,hf,Nat.le_of_ble_eq_true h1,h⟩
theorem UJ {a:Operand} {i:Nat} {j aF o off sz:Nat} {fs} (ha:bq fr a=.ptr j aF o) (ht:T.ty.get t=some ⟨.struct fs,s,by',z,agg,cJ,cS⟩) (hf:cJ[i]?=some (off,sz)) (h1:Nat.ble 1 sz=true) (h:K (.ptr j aF (o+off)) hp):wpOp T own (.fieldAddr t a i) fr hp K:=by show jY T t (bq fr a) i hp K;unfold jY;simp only [ha,ht];exact ⟨off,sz,hf,Nat.le_of_ble_eq_true h1,h⟩
theorem UK {v:Value} (ht:T.ty.get t=some ⟨und,s,by',some v,agg,cJ,cS⟩) (h1:v.cells.toList.all bh=true) (h:K (.ptr hp.length 0 0) (hp++[.cells (v.cells.toList.map .fl) 0 0])):wpOp T own (.alloc t) fr hp K:=by show si T t hp K;unfold si;simp only [ht];exact ⟨h1,h⟩
theorem Ua {x:Operand} (h:force (bq fr x) fun v=>ze own v hp K):wpOp T own (.box t x) fr hp K:=h
theorem Uu {v:AV} (ho:own=false) (h1:v.kM=true) (h2:v.cells.all AV.one=true) (h3:bG v.cells=true) (h:K (.pt v.cells 0) hp):ze own v hp K:=by subst ho;exact ⟨h1,h2,h3,h⟩
theorem UL {v:AV} (ho:own=true) (h1:v.kM=true) (h2:v.cells.all AV.one=true) (h:K (.ptr hp.length 0 0) (hp++[.cells v.cells 0 0])):ze own v hp K:=by subst ho;exact ⟨h1,h2,h⟩
theorem PV {a x:Operand} (h:force (bq fr x) fun v=>dN T t (bq fr a) v hp K):wpOp T own (.store t a x) fr hp K:=h
theorem TY {a v:AV} {j aF o es:Nat} {cs:List AV} (ha:a=.ptr j aF o) (ht:T.ty.get t=some ⟨und,s,by',z,agg,cJ,cS⟩) (hj:hp[j]?=some (.cells cs es aF)) (h1:v.kM=true) (h2:v.cells.all AV.one=true) (h3:v.cells.length=s) (h4:Nat.ble (o+s) cs.length=true) (h:K .cw (hp.set j (.cells (eX cs v.cells o) es aF))):dN T t a v hp K:=by unfold dN;simp only [ha,ht];exact ⟨cs,es,hj,h1,h2,h3,Nat.le_of_ble_eq_true h4,h⟩
theorem PW {l:List (Nat × Operand)} (h:kP (l.map fun p=>(p.1,bq fr p.2)) fun ps=>nx T t ps hp K):wpOp T own (.build t l.toArray) fr hp K:=h
theorem M4 {l:List (Nat × Operand)} {len:Nat} (h:kP (l.map fun p=>(p.1,bq fr p.2)) fun ps=>dO T own t len ps hp K):wpOp T own (.buildSlice t len l.toArray) fr hp K:=h
theorem UM {P:List (Nat × AV)→Prop} (h:P []):kP (([]:List (Nat × Operand)).map fun p=>(p.1,bq fr p.2)) P:=h
theorem UN {i:Nat} {x:Operand} {l:List (Nat × Operand)} {P:List (Nat × AV)→Prop} (h:force (bq fr x) fun a=>kP (l.map fun p=>(p.1,bq fr p.2)) fun l=>P ((i,a) :: l)):kP (((i,x) :: l).map fun p=>(p.1,bq fr p.2)) P:=h
theorem T4 {v:Value} {parts:List (Nat × AV)} {cs:List AV} (ht:T.ty.get t=some ⟨und,s,by',some v,true,cJ,cS⟩) (h1:v.cells.toList.all bh=true) (h2:CB (gW und cJ cS) (v.cells.toList.map .fl) parts=some cs) (h:K (.ag cs) hp):nx T t parts hp K:=by unfold nx;simp only [ht];exact ⟨h1,cs,h2,h⟩
theorem UO {len:Nat} {parts:List (Nat × AV)} {inf:yR} (ho:own=false) (hi:elem? T t=some inf) (h1:Nat.ble (len * inf.size) 65536=true) (h2:bZ inf=true) (h3:lF inf.size 0 parts=true) (h4:Nat.beq parts.length len=true) (h5:bG (parts.map (·.2.cells)).flatten=true) (h:K (.sl (parts.map (·.2.cells)) true) hp):dO T own t len parts hp K:=by subst ho;unfold dO;simp only [hi];exact ⟨h1,h2,h3,h4,h5,h⟩
theorem UP {len:Nat} {parts:List (Nat × AV)} {inf:yR} (ho:own=true) (hi:elem? T t=some inf) (h1:Nat.ble (len * inf.size) 65536=true) (h2:bZ inf=true) (h3:lF inf.size 0 parts=true) (h4:Nat.beq parts.length len=true) (h:K (.dw hp.length 0 0 len len) (hp++[.cells (parts.map (·.2.cells)).flatten inf.size 0])):dO T own t len parts hp K:=by subst ho;unfold dO;simp only [hi];exact ⟨h1,h2,h3,h4,h⟩
theorem UQ {x:Operand} {i:Nat} {vs:List AV} {v:AV} (ha:bq fr x=.tp vs) (hv:vs[i]?=some v) (h:K v hp):wpOp T own (.extract x i) fr hp K:=by show ki (bq fr x) i hp K;rw [ha];exact ⟨v,hv,h⟩
theorem Uv {a x:Operand} {e:TypeId} {els:List (List AV)} {f:Bool} {j:Int} {el:List AV} (ha:bq fr a=.sl els f) (hx:bq fr x=.fl (.int .i64 j)) (ht:T.ty.get t=some ⟨.slice e,s,by',z,agg,cJ,cS⟩) (hat:els[j.toNat]?=some el) (h0:0≤j) (hl:el.length=cS) (h:K (.pt el 0) hp):wpOp T own (.indexAddr t a x) fr hp K:=by show cP T t (bq fr a) (bq fr x) hp K;rw [ha,hx];unfold cP;simp only [asInt,ht];exact ⟨el,⟨h0,hat⟩,hl,h⟩
theorem UR {a x:Operand} {e:TypeId} {i aF o n c:Nat} {j:Int} (ha:bq fr a=.dw i aF o n c) (hx:bq fr x=.fl (.int .i64 j)) (ht:T.ty.get t=some ⟨.slice e,s,by',z,agg,cJ,cS⟩) (h0:0≤j∧j < (n:Int)) (h:K (.ptr i aF (o+j.toNat * cS)) hp):wpOp T own (.indexAddr t a x) fr hp K:=by show cP T t (bq fr a) (bq fr x) hp K;rw [ha,hx];unfold cP;simp only [asInt,ht];exact ⟨h0,h⟩
theorem US {a x:Operand} {e:TypeId} {len:Nat} {cs:List AV} {o:Nat} {j:Int} (ha:bq fr a=.pt cs o) (hx:bq fr x=.fl (.int .i64 j)) (ht:T.ty.get t=some ⟨.array len e,s,by',z,agg,cJ,cS⟩) (h0:0≤j∧j < (len:Int)) (h:K (.pt cs (o+j.toNat * cS)) hp):wpOp T own (.indexAddr t a x) fr hp K:=by show cP T t (bq fr a) (bq fr x) hp K;rw [ha,hx];unfold cP;simp only [asInt,ht];exact ⟨h0,h⟩
theorem UT {a x:Operand} {e:TypeId} {len:Nat} {i aF o:Nat} {j:Int} (ha:bq fr a=.ptr i aF o) (hx:bq fr x=.fl (.int .i64 j)) (ht:T.ty.get t=some ⟨.array len e,s,by',z,agg,cJ,cS⟩) (h0:0≤j∧j < (len:Int)) (h:K (.ptr i aF (o+j.toNat * cS)) hp):wpOp T own (.indexAddr t a x) fr hp K:=by show cP T t (bq fr a) (bq fr x) hp K;rw [ha,hx];unfold cP;simp only [asInt,ht];exact ⟨h0,h⟩
end
section
variable {T : bL} {own : Bool} {fr : Nat → AV} {hp : List AB} {K : AV → List AB → Prop} {t : TypeId}
theorem UU {l c:Operand} {n:Nat} {inf:yR} (hi:elem? T t=some inf) (hl:bq fr l=.fl (.int .i64 (Int.ofNat n))) (hc:bq fr c=.fl (.int .i64 (Int.ofNat n))) (hb:inf.bytes * n≤140737488355328∧n≤9223372036854775807) (hz:bZ inf=true) (h:K (.dw hp.length 0 0 n n) (hp++[.cells ((cr (zeroCells inf) (n * inf.size)).map .fl) inf.size 0])):wpOp T own (.makeSlice t l c) fr hp K:=by show wJ T t (bq fr l) (bq fr c) hp K;unfold wJ;simp only [hi,hl,hc];refine ⟨n,n,rfl,rfl,⟨qq6 _,hb⟩,hz,?_⟩;rw [show Nat.beq n n=true from Nat.beq_refl n];exact h
end
section
variable {T : bL} {own : Bool} {fr : Nat → AV} {hp : List AB} {K : AV → List AB → Prop} {s x : Operand} {t u e : TypeId} {a1 a2 a3 a4 a5 a6} {els : List (List AV)} {f : Bool} {inf : yR}
end
theorem CO {w m n:Nat} (hm:m < 2 ^ w) (hn:n < 2 ^ w):(BitVec.ofInt w (m:Int) &&& BitVec.ofInt w (n:Int)).toNat=m &&& n:=by rw [BitVec.toNat_and,BitVec.ofInt_natCast,BitVec.ofInt_natCast,BitVec.toNat_ofNat,BitVec.toNat_ofNat,Nat.mod_eq_of_lt hm,Nat.mod_eq_of_lt hn]
section
variable {T : bL} {tab : List XE} {one : Bool} {fl base : Nat} {E E' E2 : Env} {hp hp' hp2 : List AB} {aO amb' : cz} {H H' H2 : Hp} {ρ ρ2 : Nat → Nat → Option Nat} {g g2 : aG} {O O2 : Nat → Prop}
def Ub (T:bL) (tab:List XE) (mu:Tmp→Bool) (ops:Array Oper) (c:Nat) (K:cH→Prop) (acc:List kj) (st:cH):Prop :=
 match ops.toList[c]? with
 | some o=>match dF o.op with
  | .call f args=>cG ops.toList o.guard st.fr (force (TW T.P st.fr f) fun F=>fk (args.map (bq st.fr)) fun as=>F.deep=true∧∃ vs v,Handed st.hp as vs v∧af T tab false F vs v∧pQ (oc ops) (⟨c,[],true,true⟩ :: acc)=true ∧
   gQ o.dst st.fr v fun fr'=>wpOps T tab false mu ops.toList (ops.toList.drop (c+1)) ⟨fr',st.hp,st.aO,st.rd,st.fl⟩ K) False
  | _=>False
 | none=>False
def sF (T:bL) (tab:List XE) (mu:Tmp→Bool) (ops:Array Oper) (c:Nat) (K:cH→Prop):List Oper→Nat→(Nat→Nat)→List kj→cH→Prop
 | [],i,_,acc,st=>i=c∧Ub T tab mu ops c K acc st
 | ⟨dst,op,_,_,_,gd⟩ :: l,i,bt,acc,⟨fr,hp,aO,rd,fl⟩ =>
  cG ops.toList gd fr (eU T tab mu dst op i bt fr hp fun fr' hp' bt' x=>sF T tab mu ops c K l (i+1) bt' (x :: acc) ⟨fr',hp',aO,rd,fl⟩)
   (gQ dst fr (.tp []) fun fr'=>sF T tab mu ops c K l (i+1) (jO dst bt 0) (⟨i,[],false,false⟩ :: acc) ⟨fr',hp,aO,rd,fl⟩)
section
variable {mu : Tmp → Bool} {ops : Array Oper} {K : cH → Prop} {c i : Nat} {bt : Nat → Nat} {acc : List kj} {fr : Nat → AV} {rd : Bool}
theorem UW {dst:Option Tmp} {op:Op} {a1 a2 a3 gd} {l:List Oper} (h:cG ops.toList gd fr (eU T tab mu dst op i bt fr hp fun fr' hp' bt' x=>sF T tab mu ops c K l (i+1) bt' (x :: acc) ⟨fr',hp',aO,rd,fl⟩)
 (gQ dst fr (.tp []) fun fr'=>sF T tab mu ops c K l (i+1) (jO dst bt 0) (⟨i,[],false,false⟩ :: acc) ⟨fr',hp,aO,rd,fl⟩)):sF T tab mu ops c K (⟨dst,op,a1,a2,a3,gd⟩ :: l) i bt acc ⟨fr,hp,aO,rd,fl⟩:=h
end
end
end Go.RM
namespace Go.RM
structure Hd (h:Prop):Prop where
 x:h
theorem u1 {g h : Prop} (q : h) (k : Hd h → g := by
    intro hd;first
    | with_reducible (first | refine RM.c1 ?_ | refine RM.c2 ?_ | refine RM.c3 ?_ | refine RM.c4 ?_ | refine RM.c6 ?_ | refine RM.c7 ?_ | refine RM.c8 ?_ | refine RM.c9 ?_ | refine RM.d1 ?_ | refine RM.d2 ?_ | refine RM.d3 ?_ | refine RM.d4 ?_ | refine RM.d7 ?_ | refine RM.d8 ?_ | refine RM.d9 ?_ | refine RM.o1 ?_ | refine RM.o2 ?_ | refine RM.o3 ?_ | refine RM.o4 ?_ | refine RM.o5 ?_ | refine RM.o6 ?_ | refine RM.o7 ?_ | refine RM.o9 ?_ | refine RM.p1 ?_ | refine RM.p2 ?_ | refine RM.p3 ?_ | refine RM.p4 ?_ | refine RM.p5 ?_ | refine RM.p6 ?_ | refine RM.p7 ?_ | refine RM.p8 ?_ | refine RM.q1 ?_ | refine RM.q2 ?_ | refine RM.Ua ?_ | refine RM.PV ?_ | refine RM.PW ?_ | refine RM.M4 ?_ | refine RM.UM ?_ | refine RM.UN ?_ | refine RM.UW ?_)
    | ((with_reducible show force _ _); first | refine RM.f1 rfl ?_ | refine RM.f2 rfl ?_ | refine RM.f3 rfl ?_ | refine RM.f4 rfl ?_ | refine RM.f5 rfl ?_ | refine RM.f6 rfl ?_ | refine RM.f7 rfl ?_ | refine RM.f8 rfl ?_ | refine RM.f9 rfl ?_ | refine RM.g1 rfl ?_ | refine RM.g2 rfl ?_)
    | ((with_reducible show RM.wpOp _ _ _ _ _ _); first
      | ((with_reducible show RM.wpOp _ _ (.load _ _) _ _ _); first | refine RM.TX rfl rfl rfl ?_ | refine RM.UG rfl rfl rfl ?_ | refine RM.Ut rfl rfl rfl rfl ?_ | refine RM.UH rfl rfl rfl rfl ?_)
      | ((with_reducible show RM.wpOp _ _ (.fieldAddr _ _ _) _ _ _); first | refine RM.UI rfl rfl rfl rfl ?_ | refine RM.UJ rfl rfl rfl rfl ?_)
      | ((with_reducible show RM.wpOp _ _ (.alloc _) _ _ _); refine RM.UK rfl rfl ?_)
      | ((with_reducible show RM.wpOp _ _ (.extract _ _) _ _ _); refine RM.UQ rfl rfl ?_)
      | ((with_reducible show RM.wpOp _ _ (.indexAddr _ _ _) _ _ _); first | refine RM.Uv rfl rfl rfl (by assumption) (by omega) rfl ?_ | refine RM.Uv rfl rfl rfl rfl (by omega) rfl ?_ | refine RM.UR rfl rfl rfl (by omega) ?_ | refine RM.US rfl rfl rfl (by omega) ?_ | refine RM.UT rfl rfl rfl (by omega) ?_)
      | ((with_reducible show RM.wpOp _ _ (.makeSlice _ _ _) _ _ _); refine RM.UU rfl rfl rfl (by decide) rfl ?_)
      | ((with_reducible show RM.wpOp _ _ (.unOp _ _ _) _ _ _); refine RM.n3 rfl ?_)
      | ((with_reducible show RM.wpOp _ _ (.call _) _ _ _); first | refine RM.n4 rfl rfl ?_ | refine RM.n5 rfl rfl ?_))
    | ((with_reducible show me _ _ _ _ (.region _ _ true) _ _); first | refine RM.I2 rfl ?_ | refine RM.c5 (by kernel_rfl) rfl rfl ?_)
    | ((with_reducible show sy _ _ _ _ _ _ _ _ _ _ _ _); refine RM.o8 rfl ?_)
    | ((with_reducible show eU _ _ _ _ _ _ _ _ _ _); first | refine RM.p9 rfl ?_ | refine RM.n1 ?_)
    | ((with_reducible show cG _ _ _ _ _); first | refine uK rfl rfl rfl ?_ | refine wX rfl rfl rfl ?_ | refine A1 rfl rfl ?_ | refine uK rfl rfl (by assumption) ?_ | refine wX rfl rfl (by assumption) ?_)
    | ((with_reducible show me _ _ _ _ (.cond _ _ _) _ _); first | refine RM.e2 rfl rfl ?_ | refine RM.e3 rfl rfl ?_ | refine RM.e2 rfl (by assumption) ?_ | refine RM.e3 rfl (by assumption) ?_)
    | ((with_reducible show tE _ _ _ _ _); refine RM.k1 rfl ?_)
    | ((with_reducible show jZ _ _ _ _ _); first | refine RM.k2 rfl ?_ | refine RM.k3 rfl ?_ | refine RM.k2 (by assumption) ?_ | refine RM.k3 (by assumption) ?_ | refine RM.k4 rfl rfl ?_)
    | ((with_reducible show bw _ _ _ _ _ _ _ _ _); first | refine RM.b4 rfl rfl ?_ | refine RM.b5 rfl rfl ?_ | refine RM.b6 rfl rfl ?_ | refine RM.b7 rfl rfl ?_ | refine RM.b8 rfl rfl ?_ | refine RM.b9 rfl rfl ?_ | refine RM.b1 rfl rfl (by omega) ?_ | refine RM.b2 rfl rfl (by omega) ?_ | refine RM.b3 rfl rfl (by omega) ?_ | refine RM.r1 rfl rfl (by omega) ?_ | refine RM.r2 rfl rfl (by omega) ?_)
    | ((with_reducible show sv _ _ _ _ _); first | refine RM.l1 rfl ?_ | refine RM.l2 rfl ?_)
    | ((with_reducible show sk _ _ _); first | refine RM.l3 rfl ?_ | refine RM.l4 rfl ?_)
    | ((with_reducible show jM _ _ _ _); first | refine RM.d5 rfl ?_ | refine RM.d6 rfl ?_)
    | ((with_reducible show ze _ _ _ _); first | refine RM.Uu rfl rfl rfl rfl ?_ | refine RM.UL rfl rfl rfl ?_)
    | ((with_reducible show dN _ _ _ _ _ _); refine RM.TY rfl rfl rfl rfl rfl rfl rfl ?_)
    | ((with_reducible show nx _ _ _ _ _); refine RM.T4 rfl rfl rfl ?_)
    | ((with_reducible show dO _ _ _ _ _ _ _); first | refine RM.UO rfl rfl rfl rfl rfl rfl rfl ?_ | refine RM.UP rfl rfl rfl rfl rfl rfl ?_)
    | ((with_reducible show aB _ _ _ _ _ _ _ _); refine af.call (by assumption) rfl rfl ?_)
    | ((with_reducible show pQ _ _ = true ∧ _); refine And.intro (by kernel_rfl) ?_)
    | ((with_reducible show ∃ _, Eh _ _ _ = some _ ∧ _); refine ⟨_, rfl, ?_⟩)
    | ((with_reducible show AV.deep _ = true ∧ _); refine ⟨rfl, rfl, ?_⟩)
    | ((with_reducible show ∃ _, af _ _ _ _ _ _ ∧ _); refine ⟨_, by assumption, ?_⟩)
    exact hd.x) : g := k ⟨q⟩
theorem u2 {g h:Prop} (q:h) (k:Hd h→g:=by
 intro hd;first
 | refine ⟨_,rfl,?_⟩
 | refine ⟨_,_,rfl,by decide,?_⟩
 | refine ⟨rfl,rfl,rfl,?_⟩
 | refine ⟨rfl,rfl,?_⟩
 | refine ⟨_,_,rfl,_,rfl,?_⟩
 | refine And.intro (Nat.le_of_ble_eq_true rfl) ?_
 | refine And.intro (by omega) ?_
 | refine ⟨_,_,rfl,rfl,_,rfl,rfl,?_⟩
 | refine And.intro (by kernel_rfl) ?_
 | refine ⟨rfl,rfl,rfl,rfl,rfl,?_⟩
 | refine ⟨_,_,rfl,rfl,rfl,rfl,Nat.le_of_ble_eq_true rfl,?_⟩
 | refine ⟨_,_,rfl,Nat.le_of_ble_eq_true rfl,?_⟩
 exact hd.x):g:=k ⟨q⟩
open Go
theorem wrap_u64 {n:Nat} (h:n < 18446744073709551616):IntKind.wrap .u64 (n:Int)=(n:Int):=by show ((BitVec.ofInt 64 (n:Int)).toNat:Int)=_;rw [BitVec.ofInt_natCast,BitVec.toNat_ofNat,Nat.mod_eq_of_lt h]
theorem Je {P:Program} {t:TypeId} {x y:Operand} {m n:Nat} (hm:m < 18446744073709551616) (hn:n < 18446744073709551616):eA P .and t x y (.int .u64 (m:Int)) (.int .u64 (n:Int))=some (.int .u64 ((m &&& n:Nat):Int),.none):=by have h:eA P .and t x y (.int .u64 (m:Int)) (.int .u64 (n:Int))=some (.int .u64 (IntKind.wrap .u64 ((BitVec.ofInt 64 (m:Int) &&& BitVec.ofInt 64 (n:Int)).toNat:Int)),.none):=rfl;rw [h,CO (by omega) (by omega),wrap_u64 (Nat.lt_of_le_of_lt Nat.and_le_left hm)]
theorem Nd {P:Program} {t:TypeId} {x y:Operand} {m n:Nat} (hm:m < 18446744073709551616) (hn:n < 18446744073709551616):eA P .or t x y (.int .u64 (m:Int)) (.int .u64 (n:Int))=some (.int .u64 ((m ||| n:Nat):Int),.none):=by have h:eA P .or t x y (.int .u64 (m:Int)) (.int .u64 (n:Int))=some (.int .u64 (IntKind.wrap .u64 ((BitVec.ofInt 64 (m:Int) ||| BitVec.ofInt 64 (n:Int)).toNat:Int)),.none):=rfl;rw [h,MZ (by omega) (by omega),wrap_u64 (Nat.or_lt_two_pow (n:=64) hm hn)]
theorem Jf {P:Program} {t:TypeId} {x y:Operand} {j:Nat} (hj:j < 8):eA P .shl t x y (.int .u64 1) (.int .i64 (j:Int))=some (.int .u64 ((2 ^ j:Nat):Int),.none):=by
 match j,hj with
 | 0,_|1,_|2,_|3,_|4,_|5,_|6,_|7,_=>rfl
theorem Jg {P:Program} {t:TypeId} {x y:Operand} {m j:Nat} (hj:j < 8):eA P .shr t x y (.int .u64 (m:Int)) (.int .i64 (j:Int))=some (.int .u64 ((m / 2 ^ j:Nat):Int),.none):=by
 have h:eA P .shr t x y (.int .u64 (m:Int)) (.int .i64 (j:Int))=some (.int .u64 ((m:Int).fdiv (2 ^ j)),.none):=by
  match j,hj with
  | 0,_|1,_|2,_|3,_|4,_|5,_|6,_|7,_=>rfl
 rw [h,Int.fdiv_eq_ediv_of_nonneg _ (Int.pow_nonneg (by decide)),Int.natCast_ediv,Int.natCast_pow];rfl
theorem Nf {P:Program} {t:TypeId} {x y:Operand} {m n:Int}:eA P .eql t x y (.int .u64 m) (.int .u64 n)=some (.bool (decide (m=n)),.none):=rfl
theorem Jh {P:Program} {t:TypeId} {x y:Operand} {m n:Int}:eA P .neq t x y (.int .u64 m) (.int .u64 n)=some (.bool (!decide (m=n)),.none):=rfl
theorem Ji {P:Program} {t:TypeId} {x y:Operand} {m:Nat} (h1:1≤m) (hm:m < 18446744073709551616):eA P .sub t x y (.int .u64 (m:Int)) (.int .u64 1)=some (.int .u64 ((m - 1:Nat):Int),.none):=by have h:eA P .sub t x y (.int .u64 (m:Int)) (.int .u64 1)=some (.int .u64 (IntKind.wrap .u64 ((m:Int) - 1)),.none):=rfl;rw [h,show (m:Int) - 1=((m - 1:Nat):Int) by omega,wrap_u64 (by omega)]
section
variable {T : bL} {a b : AV} {t : TypeId} {x y : Operand} {hp : List AB} {K : AV → List AB → Prop}
theorem CV {m n:Nat} (ha:a=.fl (.int .u64 (m:Int))) (hb:b=.fl (.int .u64 (n:Int))) (hm:m < 18446744073709551616) (hn:n < 18446744073709551616) (h:K (.fl (.int .u64 ((m &&& n:Nat):Int))) hp):bw T .and t x y a b hp K:=by subst ha hb;exact ⟨_,_,rfl,rfl,.int .u64 ((m &&& n:Nat):Int),Je hm hn,rfl,h⟩
theorem RT {m n:Nat} (ha:a=.fl (.int .u64 (m:Int))) (hb:b=.fl (.int .u64 (n:Int))) (hm:m < 18446744073709551616) (hn:n < 18446744073709551616) (h:K (.fl (.int .u64 ((m ||| n:Nat):Int))) hp):bw T .or t x y a b hp K:=by subst ha hb;exact ⟨_,_,rfl,rfl,.int .u64 ((m ||| n:Nat):Int),Nd hm hn,rfl,h⟩
theorem Od {j:Nat} (ha:a=.fl (.int .u64 1)) (hb:b=.fl (.int .i64 (j:Int))) (hj:j < 8) (h:K (.fl (.int .u64 ((2 ^ j:Nat):Int))) hp):bw T .shl t x y a b hp K:=by subst ha hb;exact ⟨_,_,rfl,rfl,.int .u64 ((2 ^ j:Nat):Int),Jf hj,rfl,h⟩
theorem FV {m j:Nat} (ha:a=.fl (.int .u64 (m:Int))) (hb:b=.fl (.int .i64 (j:Int))) (hj:j < 8) (h:K (.fl (.int .u64 ((m / 2 ^ j:Nat):Int))) hp):bw T .shr t x y a b hp K:=by subst ha hb;exact ⟨_,_,rfl,rfl,.int .u64 ((m / 2 ^ j:Nat):Int),Jg hj,rfl,h⟩
theorem Ng {m n:Int} (ha:a=.fl (.int .u64 m)) (hb:b=.fl (.int .u64 n)) (h:K (.fl (.bool (decide (m=n)))) hp):bw T .eql t x y a b hp K:=by subst ha hb;exact ⟨_,_,rfl,rfl,.bool (decide (m=n)),Nf,rfl,h⟩
theorem Oe {m n:Int} (ha:a=.fl (.int .u64 m)) (hb:b=.fl (.int .u64 n)) (h:K (.fl (.bool (!decide (m=n)))) hp):bw T .neq t x y a b hp K:=by subst ha hb;exact ⟨_,_,rfl,rfl,.bool (!decide (m=n)),Jh,rfl,h⟩
theorem RU {m:Nat} (ha:a=.fl (.int .u64 (m:Int))) (hb:b=.fl (.int .u64 1)) (h1:1≤m) (hm:m < 18446744073709551616) (h:K (.fl (.int .u64 ((m - 1:Nat):Int))) hp):bw T .sub t x y a b hp K:=by subst ha hb;exact ⟨_,_,rfl,rfl,.int .u64 ((m - 1:Nat):Int),Ji h1 hm,rfl,h⟩
theorem A6 {m:Nat} (ha:a=.fl (.int .u64 (m:Int))) (hb:b=.fl (.int .u64 1)) (hm:m < 18446744073709551616) (h:K (.fl (.int .u64 ((m % 2:Nat):Int))) hp):bw T .and t x y a b hp K:=by rw [←Nat.and_one_is_mod] at h;exact CV (n:=1) ha hb hm (by decide) h
end
section
variable {T : bL} {own : Bool} {fr : Nat → AV} {hp : List AB} {K : AV → List AB → Prop} {t : TypeId} {s by' cS : Nat} {z : Option Value} {agg : Bool} {cJ : List (Nat × Nat)}
theorem Uw {x hi:Operand} {cs:List AV} {o len h:Nat} {e:TypeId} {els:List (List AV)} (hx:bq fr x=.pt cs o) (hh:bq fr hi=.fl (.int .i64 (h:Int))) (ht:T.ty.get t=some ⟨.array len e,s,by',z,agg,cJ,cS⟩)
  (hb:h≤len∧o+h * cS≤cs.length) (h1:1≤cS) (he:els.length=h∧(∀ el ∈ els,el.length=cS)∧els.flatten=(cs.drop o).take (h * cS)) (k:K (.sl els (Nat.beq h len)) hp):wpOp T own (.slice t x none (some hi) none) fr hp K:=by
 show sq T t (bq fr x) none (some (bq fr hi)) hp K;rw [hx,hh];unfold sq;simp only [ht];refine ⟨0,h,els,rfl,rfl,⟨qq5 _,hb.1,hb.2⟩,h1,?_,k⟩;rw [Nat.zero_mul,Nat.add_zero,Nat.sub_zero];exact he
end
inductive As (s st:cH):Prop
 | is (h:ai s st)
 | no (h:False)
theorem As.aS {s st:cH}:As s st→ai s st
 | .is h=>h
 | .no h=>h.elim
theorem cutAt {T:bL} {tab:List XE} {one:Bool} {a b:Code} {st st':cH} {K:Exit→cH→Prop} (h1:aE T tab one a st (wQ (fun s=>As s st') K)) (h2:aE T tab one b st' K):aE T tab one (.seq a b) st K :=
 .seq (h1.mono fun e s h=>by cases e <;> first|exact .aS h.aS h2|exact h)
theorem Jo {P:Program} {t:TypeId} {x y:Operand} {m j:Nat} (hj:j=1∨j=2∨j=4∨j=8∨j=16∨j=32):eA P .shr t x y (.int .u64 (m:Int)) (.int .u64 (j:Int))=some (.int .u64 ((m / 2 ^ j:Nat):Int),.none):=by
 have h:eA P .shr t x y (.int .u64 (m:Int)) (.int .u64 (j:Int))=some (.int .u64 ((m:Int).fdiv (2 ^ j)),.none):=by rcases hj with rfl|rfl|rfl|rfl|rfl|rfl <;> rfl
 rw [h,Int.fdiv_eq_ediv_of_nonneg _ (Int.pow_nonneg (by decide)),Int.natCast_ediv,Int.natCast_pow];rfl
theorem Jp {P:Program} {t:TypeId} {x y:Operand} {m n:Nat} (hm:m+n < 18446744073709551616):eA P .add t x y (.int .u64 (m:Int)) (.int .u64 (n:Int))=some (.int .u64 ((m+n:Nat):Int),.none):=by have h:eA P .add t x y (.int .u64 (m:Int)) (.int .u64 (n:Int))=some (.int .u64 (IntKind.wrap .u64 ((m:Int)+(n:Int))),.none):=rfl;rw [h,show (m:Int)+(n:Int)=((m+n:Nat):Int) by omega,wrap_u64 hm]
theorem Jq {P:Program} {t:TypeId} {x y:Operand} {m n:Nat} (hm:m < 4611686018427387904) (hn:n < 4611686018427387904):eA P .and t x y (.int .i64 (m:Int)) (.int .i64 (n:Int))=some (.int .i64 ((m &&& n:Nat):Int),.none):=by have h:eA P .and t x y (.int .i64 (m:Int)) (.int .i64 (n:Int))=some (.int .i64 (IntKind.wrap .i64 ((BitVec.ofInt 64 (m:Int) &&& BitVec.ofInt 64 (n:Int)).toNat:Int)),.none):=rfl;have hle:m &&& n≤m:=Nat.and_le_left;rw [h,CO (by omega) (by omega),wrap_i64 (by omega) (by omega)]
section
variable {T : bL} {a b : AV} {t : TypeId} {x y : Operand} {hp : List AB} {K : AV → List AB → Prop}
theorem zD {m j:Nat} (ha:a=.fl (.int .u64 (m:Int))) (hb:b=.fl (.int .u64 (j:Int))) (hj:j=1∨j=2∨j=4∨j=8∨j=16∨j=32) (h:K (.fl (.int .u64 ((m / 2 ^ j:Nat):Int))) hp):bw T .shr t x y a b hp K:=by subst ha hb;exact ⟨_,_,rfl,rfl,.int .u64 ((m / 2 ^ j:Nat):Int),Jo hj,rfl,h⟩
theorem F2 {m n:Nat} (ha:a=.fl (.int .u64 (m:Int))) (hb:b=.fl (.int .u64 (n:Int))) (hm:m+n < 18446744073709551616) (h:K (.fl (.int .u64 ((m+n:Nat):Int))) hp):bw T .add t x y a b hp K:=by subst ha hb;exact ⟨_,_,rfl,rfl,.int .u64 ((m+n:Nat):Int),Jp hm,rfl,h⟩
theorem R3 {m n:Nat} (ha:a=.fl (.int .i64 (m:Int))) (hb:b=.fl (.int .i64 (n:Int))) (hm:m < 4611686018427387904) (hn:n < 4611686018427387904) (h:K (.fl (.int .i64 ((m &&& n:Nat):Int))) hp):bw T .and t x y a b hp K:=by subst ha hb;exact ⟨.int .i64 ((m &&& n:Nat):Int),Jq hm hn,rfl,h⟩
end
section
variable {T : bL} {tab : List XE} {one : Bool} {base : Nat} {E : Env} {hp : List AB} {aO : cz} {H : Hp} {ρ : Nat → Nat → Option Nat} {g : aG} {O O' : Nat → Prop}
inductive MB (a b:Nat):AB→AB→Prop
 | same {z:AB}:z.mS a=true→z.mS b=true→MB a b z z
 | cells {cs cs':List AV} {es aF:Nat}:cs.length=cs'.length→(∀ (i:Nat) (v w:AV),cs[i]?=some v→cs'[i]?=some w→Mv a b v w)→MB a b (.cells cs es aF) (.cells cs' es aF)
theorem MB.empty {a b v:Nat} {z z':AB} (h:MB a b z z') (hz:∃ es,z=.cells [] es v):∃ es,z'=.cells [] es v:=by
 cases h with
 | same _ _=>exact hz
 | cells hl _ =>obtain ⟨es,he⟩:=hz;cases he;exact ⟨_,by rw [List.length_eq_zero_iff.1 hl.symm]⟩
theorem MB.aF {a b:Nat} {z z':AB} (h:MB a b z z'):z.ver?=z'.ver?:=by cases h <;> rfl
theorem ai.R7 {st:cH} {l:List (Nat × AV)} (a b:Nat) {x y:AB} {hp:List AB} (hab:a ≠ b) (hja:st.hp[a]?=some y) (hjb:st.hp[b]?=some x) (hn:st.fl≤a) (hn2:st.fl≤b) (hs:Ep a b st.fr l)
  (hl:hp.length=st.hp.length) (hA:∀ z,hp[a]?=some z→MB a b x z) (hB:hp[b]?=some .gone)
  (hO:∀ (i:Nat) (z z':AB),i ≠ a→i ≠ b→st.hp[i]?=some z→hp[i]?=some z'→MB a b z z') :
  ai st ⟨bA l,hp,st.aO,st.rd,st.fl⟩:=by
 have hla:a < st.hp.length:=(List.getElem?_eq_some_iff.1 hja).1;have hlb:b < st.hp.length:=(List.getElem?_eq_some_iff.1 hjb).1;refine ⟨rfl,fun E base s hs'=>?_⟩;have hr:=hs'.h
 have hget:∀ (i:Nat) (z:AB) (aF:Nat),hp[i]?=some z→z.ver?=some aF→(i=a∧MB a b x z)∨(i ≠ a∧i ≠ b∧∃ z0,st.hp[i]?=some z0∧MB a b z0 z):=by
  intro i z aF hi hv;by_cases hib:i=b
  ·subst hib;rw [hB] at hi;cases hi;cases hv
  ·by_cases hia:i=a
   ·subst hia;exact .inl ⟨rfl,hA z hi⟩
   ·have hlt:i < st.hp.length:=by have:=(List.getElem?_eq_some_iff.1 hi).1;omega
    exact .inr ⟨hia,hib,_,List.getElem?_eq_getElem hlt,hO i _ z hia hib (List.getElem?_eq_getElem hlt) hi⟩
 have hma:∀ {v:Nat},dn a b E.ρ a v=E.ρ b v:=fun {v}=>by unfold dn;rw [if_pos rfl]
 have hmo:∀ {i v:Nat},i ≠ a→i ≠ b→dn a b E.ρ i v=E.ρ i v:=fun {i v} h1 h2=>by unfold dn;rw [if_neg h1,if_neg h2]
 have hmi:∀ {i v k:Nat},dn a b E.ρ i v=some k→(i=a∧E.ρ b v=some k)∨(i ≠ a∧i ≠ b∧E.ρ i v=some k):=by
  intro i v k h;unfold dn at h;split at h
  ·rename_i h1;exact .inl ⟨h1,h⟩
  ·split at h
   ·cases h
   ·rename_i h1 h2;exact .inr ⟨h1,h2,h⟩
 have hown:∀ k,Own (dn a b E.ρ) hp k→Own E.ρ st.hp k:=by
  rintro k ⟨i,z,v,h1,h2,h3⟩
  rcases hget i z v h1 h2 with ⟨rfl,hm⟩|⟨n1,n2,z0,h4,hm⟩
  ·rw [hma] at h3;exact ⟨b,_,v,hjb,hm.aF.trans h2,h3⟩
  ·rw [hmo n1 n2] at h3;exact ⟨i,z0,v,h4,hm.aF.trans h2,h3⟩
 have hOs:∀ k,({E with ρ:=dn a b E.ρ}:Env).O hp k→E.O st.hp k:=fun k h=>h.imp (hown k) id
 have hmv:∀ {v w:AV} {u:Value},Mv a b v w→AR E.ρ s.hp.get (E.O st.hp) v u→AR (dn a b E.ρ) s.hp.get (({E with ρ:=dn a b E.ρ}:Env).O hp) w u:=by
  intro v w u hm h
  cases hm with
  | same n1 n2=>exact h.move hOs n1 n2
  | ptr =>obtain ⟨k,hk,rfl⟩:=h.di;exact .ptr (by rw [hma];exact hk)
  | dw =>
   rcases h.fT with ⟨k,hk,rfl⟩|⟨rfl,rfl,rfl⟩
   ·exact .dw (by rw [hma];exact hk)
   ·exact .rZ
  | cw=>exact .cw
 have hbr:∀ (z:AB) (z':bf),z.mS a=true→z.mS b=true→BR E.ρ s.hp.get (E.O st.hp) z z'→BR (dn a b E.ρ) s.hp.get (({E with ρ:=dn a b E.ρ}:Env).O hp) z z':=by
  intro z z' n1 n2 q3
  cases z with
  | cells cs2 es2 ver2 =>obtain ⟨cs',rfl,h⟩:=q3;exact ⟨cs',rfl,h.1,fun i v u ha hu=>(h.2 i v u ha hu).move hOs (dH n1 i v ha) (dH n2 i v ha)⟩
  | dQ p q=>exact q3
  | map ents clock =>obtain ⟨es,rfl,h1,h2⟩:=q3;refine ⟨es,rfl,h1,fun i k v born e hx hy=>?_⟩;simp only [AB.mS,List.all_eq_true,qq7] at n1 n2;have m1:=n1 _ (List.mem_of_getElem? hx);have m2:=n2 _ (List.mem_of_getElem? hx);exact ⟨(h2 i k v born e hx hy).1.move hOs m1.1 m2.1,(h2 i k v born e hx hy).2.1.move hOs m1.2 m2.2,(h2 i k v born e hx hy).2.2⟩
  | iter i2 since seen stepped =>obtain ⟨m,rfl,h⟩:=q3;exact ⟨m,rfl,by show dn a b E.ρ i2 0=_;rw [hmo (gG n1) (gG n2)];exact h⟩
  | gone=>exact q3
 have hmb:∀ (z w:AB) (z':bf),MB a b z w→BR E.ρ s.hp.get (E.O st.hp) z z'→BR (dn a b E.ρ) s.hp.get (({E with ρ:=dn a b E.ρ}:Env).O hp) w z':=by
  intro z w z' hm q3
  cases hm with
  | same n1 n2=>exact hbr z z' n1 n2 q3
  | cells hcl hcm =>obtain ⟨cs',rfl,h⟩:=q3;refine ⟨cs',rfl,hcl ▸ h.1,fun i v u ha hu=>?_⟩;have hlt:=(List.getElem?_eq_some_iff.1 ha).1;exact hmv (hcm i _ v (List.getElem?_eq_getElem (by omega)) ha) (h.2 i _ u (List.getElem?_eq_getElem (by omega)) hu)
 refine ⟨{E with ρ:=dn a b E.ρ},⟨⟨hr.wf,fun i z v hi hv=>?_,fun i i' v v' k h1 h2=>?_,fun i v k hk=>?_,fun i z v w h1 h2 h3=>?_,fun i v hi=>?_,fun k hk=>hr.sup k (hown k hk),fun k hk=>hr.jm k (hown k hk),hr.dx,hr.ds,hr.sn,hr.xn,fun k hk=>hr.qK k (hk.imp (hown k) id),hr.bn,hr.aO⟩,hs'.rd,fun t=>hmv (FR hs t) (hs'.fr t)⟩,
  ⟨qq6 _,fun i v k hi hk=>?_,fun k hk=>.inl (hown k hk),fun _ h=>.inl h,fun _ h=>.inl h,fun _ h=>h,fun _ h=>.inl h,fun _ _ _ _=>rfl,Nat.min_le_left _ _⟩⟩
 ·rcases hget i z v hi hv with ⟨rfl,hm⟩|⟨n1,n2,z0,h4,hm⟩
  ·rcases hr.gT b _ v hjb (hm.aF.trans hv) with ⟨k,b',q1,q2,q3⟩|⟨q1,q2⟩
   ·exact .inl ⟨k,b',by show dn _ b E.ρ _ v=_;rw [hma];exact q1,q2,hmb _ _ _ hm q3⟩
   ·exact .inr ⟨by show dn _ b E.ρ _ v=_;rw [hma];exact q1,hm.empty q2⟩
  ·rcases hr.gT i z0 v h4 (hm.aF.trans hv) with ⟨k,b',q1,q2,q3⟩|⟨q1,q2⟩
   ·exact .inl ⟨k,b',by show dn a b E.ρ i v=_;rw [hmo n1 n2];exact q1,q2,hmb _ _ _ hm q3⟩
   ·exact .inr ⟨by show dn a b E.ρ i v=_;rw [hmo n1 n2];exact q1,hm.empty q2⟩
 ·rcases hmi h1 with ⟨e1,p1⟩|⟨n1,n2,p1⟩
  ·rcases hmi h2 with ⟨e2,p2⟩|⟨m1,m2,p2⟩
   ·rw [e1,e2]
   ·exact absurd (hr.inj b i' v v' k p1 p2).symm m2
  ·rcases hmi h2 with ⟨e2,p2⟩|⟨m1,m2,p2⟩
   ·exact absurd (hr.inj i b v v' k p1 p2) n2
   ·exact hr.inj i i' v v' k p1 p2
 ·rcases hmi hk with ⟨rfl,h⟩|⟨_,_,h⟩
  ·exact hr.rn b v k h
  ·exact hr.rn i v k h
 ·rcases hget i z v h1 h2 with ⟨rfl,hm⟩|⟨n1,n2,z0,h4,hm⟩
  ·show dn _ b E.ρ _ w=none;rw [hma];exact hr.fresh b _ v w hjb (hm.aF.trans h2) h3
  ·show dn a b E.ρ i w=none;rw [hmo n1 n2];exact hr.fresh i z0 v w h4 (hm.aF.trans h2) h3
 ·show dn a b E.ρ i v=none;have hi:st.hp.length≤i:=by rw [←hl];exact hi
  rw [hmo (by omega) (by omega)];exact hr.new i v hi
 ·show dn a b E.ρ i v=some k;rw [hmo (by omega) (by omega)];exact hk
end
section
variable {T : bL} {tab : List XE} {one : Bool} {fl base : Nat} {E E' E2 : Env} {hp hp' hp2 : List AB} {aO amb' : cz} {H H' H2 : Hp} {ρ ρ2 : Nat → Nat → Option Nat} {g g2 : aG} {O O2 : Nat → Prop}
structure qd (tr:Nat→cI) (x:kj) (t:Tc):Prop where
 ev:MS tr x t
 T0:∀ k ∈ t.rd,∃ p ∈ x.acc,p.wr=false∧dS tr x.i p k∧(p.own.isSome=true→Own (tr x.i).E.ρ (tr x.i).hp k)
 keep:x.call=true→(tr (x.i+1)).E=(tr x.i).E∧(tr (x.i+1)).hp=(tr x.i).hp
theorem qd.snoc {tr:Nat→cI} {i:Nat} {z:cI} {x:kj} {t:Tc} (h:qd tr x t) (hi:x.i < i):qd (snoc tr i z) x t :=
 ⟨h.ev.snoc hi,fun k hk=>by
  obtain ⟨p,a,b,c,d⟩:=h.T0 k hk
  exact ⟨p,a,b,c.snoc (by omega),fun ho=>by rw [bF (by omega)];exact d ho⟩,
  fun hc=>by rw [bF (by omega),bF (by omega)];exact h.keep hc⟩
theorem dS.F3 {tr:Nat→cI} {i:Nat} {p:Acc} {k:Nat} (h:dS tr i p k) (ho:p.own.isSome=true) (hw:p.wr=true):Own (tr i).E.ρ (tr i).hp k:=by
 obtain ⟨_,_,h3⟩:=h
 cases hp:p.own with
 | none=>rw [hp] at ho;cases ho
 | some j =>rw [hp] at h3;obtain ⟨_,_,h4⟩:=h3;exact h4 hw
def C7 (o:Op):Bool :=
 match o with
 | .lookup ..=>false
 | .call ⟨.builtin .append,_,_⟩=>false
 | .call ⟨.builtin .len,_,_⟩=>false
 | _=>true
theorem F4 {tr:Nat→cI} {i:Nat} (ht:mI base aO tr i) {bt:Nat→Nat} {fr:Nat→AV} {tm:Tr Value} (hb:gU tr i bt fr tm) {own:Bool} {o:Op} (hro:C7 o=true) {l:List Acc} (h:Eh o fr (sV bt)=some l)
  {K:AV→List AB→Prop} (hw:wpOp T own o fr (tr i).hp K) {r w:List Nat} (hto:iX o (aQ tm)=some (r,w)):∀ k ∈ r,∃ p ∈ l,p.wr=false∧dS tr i p k∧(p.own.isSome=true→Own (tr i).E.ρ (tr i).hp k):=by
 intro k hk;obtain ⟨r',w',e1,e2,_⟩:=sD ht hb h hw;rw [hto] at e1;simp only [qq9,Prod.mk.injEq] at e1;obtain ⟨rfl,rfl⟩:=e1;by_cases hl:∃ t a,o=.load t a
 ·obtain ⟨t,a,rfl⟩:=hl;have now:(tr i).ar (bq fr a) (aQ tm a):=(ht.ext _ i (hb.eval a).1 (qq6 _)).ar (ht.rel _ (hb.eval a).1).wf (hb.eval a).2;obtain ⟨p,p1,p2,p3⟩:=e2 k hk;refine ⟨p,p1,p2,p3,fun ho=>?_⟩;have hw:eF T t (bq fr a) (tr i).hp K:=hw;have h:sB (bq fr a) (sV bt a) false=some l:=h;have hk:k ∈ cB (aQ tm a):=by simp only [iX,qq9,Prod.mk.injEq] at hto;rw [hto.1];exact hk
  cases hv:bq fr a with
  | ptr j aF o =>
   rw [hv] at now hw;obtain ⟨k',q1,q2⟩:=now.di;rw [q2] at hk;obtain rfl:k=k':=by simpa [cB] using hk
   unfold eF at hw;split at hw
   ·rename_i e _;cases e
   ·rename_i e _;cases e;obtain ⟨cs,es,h1,_⟩:=hw;exact ⟨j,_,aF,h1,rfl,q1⟩
   ·exact hw.elim
  | pt =>rw [hv] at h;simp only [sB,qq9] at h;subst h;obtain rfl:=List.mem_singleton.1 p1;cases ho
  | _ =>
   rw [hv] at hw;unfold eF at hw;split at hw
   ·rename_i e _;cases e
   ·rename_i e _;cases e
   ·exact hw.elim
 ·exfalso;revert hto hk;unfold iX;split
  ·rename_i t a;exact absurd ⟨t,a,rfl⟩ hl
  ·intro h hk;cases h;cases hk
  ·cases hro
  ·intro h hk;cases h;cases hk
  ·intro h hk;cases h;cases hk
  ·intro h hk;cases h;cases hk
  ·intro h _;cases h
  ·intro h _;cases h
  ·intro h _;cases h
  ·cases hro
  ·cases hro
  ·intro h _;cases h
  ·intro h hk;cases h;cases hk
def vo (x y:kj):Bool :=
 x.acc.all (fun p=>y.acc.all (pP x.i p)) && ((!x.al && !x.call) || y.acc.all (fun q=>Nat.ble q.b x.i || (x.call && q.own.isSome))) && (!x.call || y.acc.all (fun q=>!q.wr)) && (!y.call || x.acc.all (fun p=>!p.wr))
def Ns (b:List Nat):List kj→Bool
 | []=>true
 | y :: l=>l.all (fun x=>(b.getD y.i 0).testBit x.i || vo x y) && Ns b l
theorem EG {tr:Nat→cI} {n:Nat} (ht:mI base aO tr n) {x y:kj} {s t:Tc} (hs:qd tr x s) (hy:qd tr y t) (hxy:x.i < y.i) (hn:y.i≤n) (hf:vo x y=true):conflict s t=false:=by
 cases hc:conflict s t with
 | false=>rfl
 | true =>
  exfalso;unfold vo at hf;simp only [qq7,List.all_eq_true,Bool.or_eq_true,Bool.not_eq_true'] at hf;obtain ⟨⟨⟨f1,f2⟩,f3⟩,f4⟩:=hf;have two:∀ {k:Nat} {p q:Acc},p ∈ x.acc→q ∈ y.acc→dS tr x.i p k→dS tr y.i q k→(p.wr=true∨q.wr=true)→False:=fun hp hq ap aq hw=>qP ht hxy hn ap aq hw (f1 _ hp _ hq)
  have inn:∀ {k:Nat} {q:Acc},q ∈ y.acc→dS tr y.i q k→(q.own.isSome=true→Own (tr y.i).E.ρ (tr y.i).hp k)→s.a≤k→k < s.b→False:=by
   intro k q hq aq lq h1 h2
   rcases f2 with h|h
   ·have:=hs.ev.al h.1 h.2;omega
   ·rcases h q hq with h|⟨hcl,hos⟩
    ·have:=Nat.le_of_ble_eq_true h;have:=(ht.ext q.b x.i this (by omega)).n;have:=aq.2.1;rw [hs.ev.a] at h1;omega
    ·have hk:=hs.keep hcl;rw [hs.ev.b] at h2;rw [hs.ev.a] at h1
     rcases (ht.ext (x.i+1) y.i (by omega) hn).own k (lq hos) with h|h
     ·rw [hk.1,hk.2] at h;have:=(ht.rel x.i (by omega)).kN h;omega
     ·omega
  have out:∀ {k:Nat} {p:Acc},dS tr x.i p k→t.a≤k→False:=by intro k p ap h1;have:=(ht.ext p.b x.i ap.1 (by omega)).n;have:=(ht.ext x.i y.i (by omega) hn).n;have:=ap.2.1;rw [hy.ev.a] at h1;omega
  unfold conflict at hc;simp only [Bool.or_eq_true,qq7,Bool.not_eq_true'] at hc
  rcases hc with (((((((hc|hc)|hc)|hc)|hc)|hc)|hc)|hc)|hc
  ·obtain ⟨k,k1,k2⟩:=eG.1 hc;obtain ⟨p,p1,p2,p3⟩:=hs.ev.wr k k1;obtain ⟨q,q1,q2,q3⟩:=hy.ev.rd k k2;exact two p1 q1 p3 q3 (.inl p2)
  ·obtain ⟨k,k1,k2⟩:=eG.1 hc;obtain ⟨p,p1,p2,p3⟩:=hs.ev.wr k k1;obtain ⟨q,q1,q2,q3⟩:=hy.ev.wr k k2;exact two p1 q1 p3 q3 (.inl p2)
  ·obtain ⟨k,k1,k2⟩:=eG.1 hc;obtain ⟨q,q1,q2,q3⟩:=hy.ev.wr k k1;obtain ⟨p,p1,p2,p3⟩:=hs.ev.rd k k2;exact two p1 q1 p3 q3 (.inr q2)
  ·rw [hs.ev.call] at hc
   cases hw:t.wr with
   | nil=>rw [hw] at hc;simp at hc
   | cons k l =>
    obtain ⟨q,q1,q2,q3⟩:=hy.ev.wr k (by rw [hw];simp)
    rcases f3 with h|h
    ·rw [hc.1] at h;cases h
    ·rw [h q q1] at q2;cases q2
  ·rw [hy.ev.call] at hc
   cases hw:s.wr with
   | nil=>rw [hw] at hc;simp at hc
   | cons k l =>
    obtain ⟨p,p1,p2,p3⟩:=hs.ev.wr k (by rw [hw];simp)
    rcases f4 with h|h
    ·rw [hc.1] at h;cases h
    ·rw [h p p1] at p2;cases p2
  ·obtain ⟨k,k1,k2,k3⟩:=within_iff.1 hc;obtain ⟨q,q1,q2,q3,q4⟩:=hy.T0 k k1;exact inn q1 q3 q4 k2 k3
  ·obtain ⟨k,k1,k2,k3⟩:=within_iff.1 hc;obtain ⟨q,q1,q2,q3⟩:=hy.ev.wr k k1;exact inn q1 q3 (fun ho=>q3.F3 ho q2) k2 k3
  ·obtain ⟨k,k1,k2,k3⟩:=within_iff.1 hc;obtain ⟨p,p1,p2,p3⟩:=hs.ev.rd k k1;exact out p3 k2
  ·obtain ⟨k,k1,k2,k3⟩:=within_iff.1 hc;obtain ⟨p,p1,p2,p3⟩:=hs.ev.wr k k1;exact out p3 k2
inductive qt (tr:Nat→cI):Nat→List kj→List Ev→Prop
 | nil:qt tr 0 [] []
 | cons {i:Nat} {x:kj} {ev:Ev} {l:List kj} {m:List Ev}:qt tr i l m→x.i=i→qd tr x ev.t→qt tr (i+1) (x :: l) (ev :: m)
theorem qt.snoc {tr:Nat→cI} {i:Nat} {z:cI} {l:List kj} {m:List Ev}:∀ {j:Nat},qt tr j l m→j≤i→qt (snoc tr i z) j l m:=by
 intro j h
 induction h with
 | nil=>intro _;exact .nil
 | cons _ hi he ih=>intro hj;exact .cons (ih (by omega)) hi (he.snoc (by omega))
theorem qt.pairs {tr:Nat→cI} {n:Nat} (ht:mI base aO tr n) {b:List Nat} {i:Nat} {l:List kj} {m:List Ev} (h:qt tr i l m):i≤n→Ns b l=true→ez T b m=true:=by
 induction h with
 | nil=>intro _ _;rfl
 | cons hl hi he ih =>
  rename_i i y ev l m;intro hn hc;simp only [Ns,qq7,List.all_eq_true] at hc;refine lB ?_;refine ⟨?_,ih (by omega) hc.2⟩;have hc1:=hc.1;clear ih hc
  have key:∀ {j:Nat} {l:List kj} {m:List Ev},qt tr j l m→(∀ x ∈ l,(b.getD y.i 0).testBit x.i=true∨vo x y=true)→j≤y.i→∀ s ∈ m,(!conflict s.t ev.t || (b.getD ev.t.idx 0).testBit s.t.idx)=true:=by
   intro j l m h
   induction h with
   | nil=>intro _ _ s hs;cases hs
   | cons hl' hi' he' ih' =>
    rename_i x ev' _ _;intro hx hj s hs
    rcases List.mem_cons.1 hs with rfl|hs
    ·rcases hx x (by simp) with h|h
     ·rw [he.ev.idx,he'.ev.idx,h];simp
     ·rw [EG ht he' he (by omega) (by omega) h];simp
    ·exact ih' (fun z hz=>hx z (List.mem_cons_of_mem _ hz)) (by omega) s hs
  exact key hl (fun x hx=>by simpa using hc1 x hx) (by omega)
def jy (T:bL) (tab:List XE) (mu:Tmp→Bool) (ops:Array Oper):List Oper→Nat→(Nat→Nat)→List kj→cH→(cH→Prop)→Prop
 | [],_,_,acc,st,K=>Ns (oc ops) acc=true∧K st
 | ⟨dst,op,_,_,_,gd⟩ :: l,i,bt,acc,⟨fr,hp,aO,rd,fl⟩,K =>
  cG ops.toList gd fr (eU T tab mu dst op i bt fr hp fun fr' hp' bt' x=>jy T tab mu ops l (i+1) bt' (x :: acc) ⟨fr',hp',aO,rd,fl⟩ K)
   (gQ dst fr (.tp []) fun fr'=>jy T tab mu ops l (i+1) (jO dst bt 0) (⟨i,[],false,false⟩ :: acc) ⟨fr',hp,aO,rd,fl⟩ K)
theorem l6 {mu:Tmp→Bool} {ops:Array Oper}:∀ {l:List Oper} {i:Nat} {bt:Nat→Nat} {acc:List kj} {evs:List Ev} {st:cH} {K:cH→Prop} {tr:Nat→cI} {s:St},(l.all fun o=>C7 o.op)=true→jy T tab mu ops l i bt acc st K →
  mI base st.aO tr i→(tr i).hp=st.hp→(tr i).H=s.hp→s.rd=st.rd→gU tr i bt st.fr s.fr→qt tr i acc evs →
  ∃ m s',cg T (RX T tab m) ops l i s evs=some [s']∧∃ E' st',K st'∧st'.fl=st.fl∧qN E' base st' s'∧Ext base (tr 0).E (tr 0).hp (tr 0).H E' st'.hp s'.hp
 | [],i,bt,acc,evs,st,K,tr,s,_,h,ht,h1,h2,h3,hb,he=>by
  obtain ⟨hc,hk⟩:=h;have hrel:=ht.rel i (qq6 _)
  have hok:dX T ops evs=true:=by
   unfold dX
   cases hq:(evs.all fun e=>e.t.wr.isEmpty && Nat.beq e.t.a e.t.b) with
   | true=>rfl
   | false=>exact he.pairs ht (qq6 _) hc
  refine ⟨0,s,by rw [eK,hok];rfl,(tr i).E,st,hk,rfl,⟨by rw [←h1,←h2];exact hrel,h3,fun t=>?_⟩,by rw [←h1,←h2];exact ht.ext 0 i (qq5 _) (qq6 _)⟩;have:=(ht.ext _ i (hb t).1 (qq6 _)).ar (ht.rel _ (hb t).1).wf (hb t).2;rw [←h1,←h2];exact this
 | o :: l,i,bt,acc,evs,st,K,tr,s,hro,h,ht,h1,h2,h3,hb,he=>by
  have h:cG ops.toList o.guard st.fr (eU T tab mu o.dst o.op i bt st.fr st.hp fun fr' hp' bt' x=>jy T tab mu ops l (i+1) bt' (x :: acc) ⟨fr',hp',st.aO,st.rd,st.fl⟩ K)
   (gQ o.dst st.fr (.tp []) fun fr'=>jy T tab mu ops l (i+1) (jO o.dst bt 0) (⟨i,[],false,false⟩ :: acc) ⟨fr',st.hp,st.aO,st.rd,st.fl⟩ K):=h
  rw [List.all_cons,qq7] at hro;obtain ⟨hro1,hro2⟩:=hro;have hrel:=ht.rel i (qq6 _);have hfr:jX (tr i).E.ρ (tr i).H.get ((tr i).E.O (tr i).hp) st.fr s.fr:=fun t=>(ht.ext _ i (hb t).1 (qq6 _)).ar (ht.rel _ (hb t).1).wf (hb t).2;have hz0:(snoc tr i (tr i) 0)=tr 0:=bF (qq5 _)
  rcases wP hfr h with ⟨hg,h⟩|⟨hg,h⟩
  ·
   have go:∀ (z:cI) (v:AV) (u:Value) (b:Nat) (x:kj) (t:Tc) (m0:Nat),aY z.E base z.hp st.aO z.H→Ext base (tr i).E (tr i).hp (tr i).H z.E z.hp z.H→b≤i+1→(snoc tr i z b).ar v u→x.i=i→qd (snoc tr i z) x t →
     (∀ m,m0≤m→bu T (RX T tab m) o.op i s=some (u,z.H,t))→jy T tab mu ops l (i+1) (jO o.dst bt b) (x :: acc) ⟨wN st.fr o.dst v,z.hp,st.aO,st.rd,st.fl⟩ K →
     ∃ m s',cg T (RX T tab m) ops (o :: l) i s evs=some [s']∧∃ E' st',K st'∧st'.fl=st.fl∧qN E' base st' s'∧Ext base (tr 0).E (tr 0).hp (tr 0).H E' st'.hp s'.hp:=by
    intro z v u b x t m0 hz he' hbi hv hxi hx hd hw;obtain ⟨m,s',r1,r2⟩:=l6 (s:=⟨fC s.fr o.dst u,z.H,s.rd⟩) (evs:=⟨o,s,u,z.H,t⟩ :: evs) hro2 hw (ht.snoc hz he') (by rw [ck (Nat.lt_succ_self _)]) (by rw [ck (Nat.lt_succ_self _)]) h3 (hb.put hbi hv o.dst) (.cons (he.snoc (qq6 _)) hxi hx);rw [bF (qq5 _)] at r2;refine ⟨max m0 m,s',?_,r2⟩;rw [bW,hg];simp only [cond_true,hd _ (Nat.le_max_left _ _)];exact jG (gH (Nat.le_max_right _ _)) _ _ _ _ _ _ r1
   unfold eU at h;split at h
   ·rename_i f args hk;have h:=fQ (ct h);obtain ⟨hF,vs,v,hhand,⟨hvd,hpure⟩,h⟩:=h;have hF':=(AU hfr f).deep hF;have hget:({s.hp with lo:=s.hp.n}:Hp).get=(tr i).H.get:=by rw [h2];rfl
    obtain ⟨goal,hgo,m0,L,q1,q2,q3⟩:∃ goal,dD (mq T.P s.fr f) (args.map (aQ s.fr))=some goal ∧
      ∃ m L,RX T tab m (jB {s.hp with lo:=s.hp.n} goal)=some L∧(true=true→∃ r,L=[r])∧∀ r ∈ L,∃ w H',r=.ret w H' ∧
       ({s.hp with lo:=s.hp.n}:Hp).n≤H'.n∧Wf H'∧(∀ k,k < ({s.hp with lo:=s.hp.n}:Hp).n→H'.get k=({s.hp with lo:=s.hp.n}:Hp).get k)∧min ({s.hp with lo:=s.hp.n}:Hp).lo ({s.hp with lo:=s.hp.n}:Hp).n≤H'.lo∧DR H'.get ((tr i).E.O (tr i).hp) v w:=by
     rcases hhand with ⟨rfl,hA⟩|⟨hz,hfree⟩
     ·have hA':=(fM hfr args).deep hA
      exact hpure ((tr i).E.O (tr i).hp) {s.hp with lo:=s.hp.n} _ _ (by rw [h2] at hrel;exact hrel.wf) (fun k hk=>by
       have:k < (tr i).H.n:=hk.elim (fun h=>hrel.kN h) (hrel.xn k)
       rw [h2] at this;exact this) (by rw [hget];exact hF') (by rw [hget];exact hA')
     ·obtain ⟨goal,hgo,m0,L,q1,q2,q3⟩:=hpure (tr i).E.X {s.hp with lo:=s.hp.n} _ _ (by rw [h2] at hrel;exact hrel.wf) (fun k hk=>by
       have:k < (tr i).H.n:=hrel.xn k hk
       rw [h2] at this;exact this) (by rw [hget];exact hF'.mono fun k b hk ho=>⟨hk,fun hx=>ho (.inr hx)⟩) (by
        rw [hget];rw [←h1] at hz
        exact hz.dr hrel (fun _ h=>h) (fM hfr args))
      refine ⟨goal,hgo,m0,L,q1,q2,fun r hm=>?_⟩;obtain ⟨w,H',e1,e2,e3,e4,e5,e6⟩:=q3 r hm;exact ⟨w,H',e1,e2,e3,e4,e5,hfree.2 _ _ _ _ e6⟩
    obtain ⟨r,hr⟩:=q2 rfl;subst hr;obtain ⟨w,H',rfl,hn,hwf,hsame,hlo,hdr⟩:=q3 r (by simp)
    obtain ⟨g1,g2⟩:=hrel.grow (H':={H' with lo:=s.hp.lo}) (by rw [h2];exact hn) hwf (fun k hk=>by
     have:=hsame k (by rw [←h2];exact hk)
     rw [h2];exact this) (by rw [h2];exact Nat.min_le_left _ _)
    refine go ⟨(tr i).E,st.hp,{H' with lo:=s.hp.lo}⟩ v w (i+1) ⟨i,[],true,true⟩ ⟨i,[],[],true,s.hp.n,H'.n⟩ m0 (by rw [←h1];exact g1) (by rw [←h1];exact g2) (qq6 _) ?_ rfl ?_ (fun m hm=>?_) (eN h)
    ·rw [ck (Nat.lt_succ_self _)];refine .d ?_;show DR H'.get ((tr i).E.O st.hp) v w;rw [←h1];exact hdr
    ·refine ⟨⟨rfl,by rw [bF (qq6 _),h2],by rw [ck (Nat.lt_succ_self _)],fun h=>Bool.noConfusion h,rfl,fun k hk=>(by cases hk),fun k hk=>(by cases hk)⟩,fun k hk=>(by cases hk),fun _=>?_⟩;rw [ck (Nat.lt_succ_self _),bF (qq6 _)];exact ⟨rfl,h1.symm⟩
    ·unfold bu;simp only [hk,hgo,gH hm _ _ q1]
     have:Nat.ble s.hp.n H'.lo=true:=Nat.ble_eq_true_of_le (by
      have:min s.hp.n s.hp.n≤H'.lo:=hlo
      omega)
     rw [tj this]
   ·exact h.elim
   ·rename_i hk;obtain ⟨a,hacc,hw⟩:=h;have hw':=hw;rw [←h1] at hw';obtain ⟨r,w,ht1,ht2,ht3⟩:=sD ht hb hacc hw'
    have evr:∀ (z:cI) (u:Value) (e:cv),iU T s.hp.n o.op (aQ s.fr) s.hp.get=some (u,e)→z.H=s.hp.app e→qd (snoc tr i z) ⟨i,a,news? o.op,false⟩ ⟨i,r,w,false,s.hp.n,(s.hp.app e).n⟩:=by
     intro z u e hop hz;refine ⟨⟨rfl,by rw [bF (qq6 _),h2],by rw [ck (Nat.lt_succ_self _),hz],fun hal _=>(tK (wU hop hal)).symm,rfl,fun k hk=>?_,fun k hk=>?_⟩,fun k hk=>?_,fun h=>Bool.noConfusion h⟩
     ·obtain ⟨p,p1,p2,p3⟩:=ht2 k hk;exact ⟨p,p1,p2,p3.snoc (qq6 _)⟩
     ·obtain ⟨p,p1,p2,p3⟩:=ht3 k hk;exact ⟨p,p1,p2,p3.snoc (qq6 _)⟩
     ·obtain ⟨p,p1,p2,p3,p4⟩:=F4 ht hb hro1 hacc hw' ht1 k hk;exact ⟨p,p1,p2,p3.snoc (qq6 _),fun ho=>by rw [bF (qq6 _)];exact p4 ho⟩
    have drw:∀ (u:Value) (e:cv) (m:Nat),iU T s.hp.n o.op (aQ s.fr) s.hp.get=some (u,e)→bu T (RX T tab m) o.op i s=some (u,s.hp.app e,⟨i,r,w,false,s.hp.n,(s.hp.app e).n⟩):=by intro u e m hop;unfold bu;simp only [hk,ht1,hop]
    by_cases hm:∃ x,zk o.op st.fr=some [x]
    ·obtain ⟨x,hm⟩:=hm;have hbirth:lI o.op st.fr bt i=sV bt x:=by unfold lI;rw [hm]
     have hbx:=hb.eval x;have eb:=ht.ext _ i hbx.1 (qq6 _);obtain ⟨u,v,r1,r2,r3,r4⟩:=wT (ρ2:=(tr (sV bt x)).E.ρ) (g2:=(tr (sV bt x)).H.get) (O2:=(tr (sV bt x)).E.O (tr (sV bt x)).hp) (n:=s.hp.n) hfr hm (fun y hy=>by obtain rfl:=List.mem_singleton.1 hy;exact hbx.2) (fun k b hk ho=>(eb.keep (ht.rel _ hbx.1).wf k b hk ho).1) hw;rw [h2] at r1;have hz:(tr i).H=s.hp.app .none:=h2;rw [hbirth] at r2;refine go (tr i) v u (sV bt x) ⟨i,a,news? o.op,false⟩ ⟨i,r,w,false,s.hp.n,(s.hp.app .none).n⟩ 0 hrel .refl (by omega) (by rw [bF hbx.1];exact r4) rfl (evr _ u .none r1 hz) (fun m _=>by rw [hz];exact drw u .none m r1) (by rw [h1];exact eN (ct r2))
    ·have hbirth:lI o.op st.fr bt i=i+1:=by
      unfold lI;split
      ·rename_i x hx;exact absurd ⟨x,hx⟩ hm
      ·rfl
     obtain ⟨u,e,E',v,hp',r1,r2,r3,r4,r5⟩:=nA hrel hfr hw';rw [h2] at r1 r3 r4 r5;rw [hbirth] at r2;refine go ⟨E',hp',s.hp.app e⟩ v u (i+1) ⟨i,a,news? o.op,false⟩ ⟨i,r,w,false,s.hp.n,(s.hp.app e).n⟩ 0 r3 (by rw [h2];exact r4) (qq6 _) (by rw [ck (Nat.lt_succ_self _)];exact r5) rfl (evr _ u e r1 rfl) (fun m _=>drw u e m r1) (eN (ct r2))
  ·obtain ⟨m,s',r1,r2⟩:=l6 (s:=⟨fC s.fr o.dst undef,s.hp,s.rd⟩) (evs:=⟨o,s,undef,s.hp,⟨i,[],[],false,s.hp.n,s.hp.n⟩⟩ :: evs) hro2 (eN h) (ht.snoc (z:=tr i) hrel .refl) (by rw [ck (Nat.lt_succ_self _)];exact h1) (by rw [ck (Nat.lt_succ_self _)];exact h2) h3
    (hb.put (qq5 _) wO o.dst) (.cons (he.snoc (qq6 _)) rfl ⟨⟨rfl,by rw [bF (qq6 _),h2],by rw [ck (Nat.lt_succ_self _),h2],fun _ _=>rfl,rfl,fun k hk=>(by cases hk),fun k hk=>(by cases hk)⟩,fun k hk=>(by cases hk),fun h=>Bool.noConfusion h⟩)
   rw [hz0] at r2;refine ⟨m,s',?_,r2⟩;rw [bW,hg];exact r1
theorem aE.R8 {id:Nat} {l:List Oper} {mu:Tmp→Bool} {st:cH} {K:Exit→cH→Prop} (hd:l.any vA=false) (hr:(l.all fun o=>C7 o.op)=true) (h:jy T tab mu l.toArray l 0 (fun _=>0) [] st (K .normal)):aE T tab one (.region id l.toArray true) st K:=by
 intro E base s hs;obtain ⟨m,s',r1,E',st',r2,r3,r4,r5⟩:=l6 (base:=base) (tr:=fun _=>⟨E,st.hp,s.hp⟩) (evs:=[]) hr h ⟨fun _ _=>hs.h,fun _ _ _ _=>.refl⟩ rfl rfl hs.rd (fun t=>⟨qq6 _,hs.fr t⟩) .nil;refine ⟨m,[(.normal,s')],?_,fun _=>⟨_,rfl⟩,fun p hp=>?_⟩
 ·rw [fG]
  have:cM T (RX T tab m) l.toArray s=some [s']:=oJ (by rw [zu hd]) (by
   simpa using r1)
  simp only [cond_true,this];rfl
 ·obtain rfl:=List.mem_singleton.1 hp;exact ⟨E',st',r2,r3,r4,r5.MD⟩
variable {mu : Tmp → Bool} {fr : Nat → AV} {KS : cH → Prop} {rd : Bool} {dst : Option Tmp}
theorem UX {ops:Array Oper} {op:Op} {a1 a2 a3 gd} {l:List Oper} {i:Nat} {bt:Nat→Nat} {acc:List kj}
 (h:cG ops.toList gd fr (eU T tab mu dst op i bt fr hp fun fr' hp' bt' x=>jy T tab mu ops l (i+1) bt' (x :: acc) ⟨fr',hp',aO,rd,fl⟩ KS)
  (gQ dst fr (.tp []) fun fr'=>jy T tab mu ops l (i+1) (jO dst bt 0) (⟨i,[],false,false⟩ :: acc) ⟨fr',hp,aO,rd,fl⟩ KS)):jy T tab mu ops (⟨dst,op,a1,a2,a3,gd⟩ :: l) i bt acc ⟨fr,hp,aO,rd,fl⟩ KS:=h
end
end Go.RM
namespace Go.RM
open Go Go.ChangeShapes Go.WideShapes Go.ChangeAt Go.RowKit
section
variable {P : Program} {D : Type} {enc : TypeId × Value → D}
theorem qu (hl:laidOutB P=true) {W W':World} (hb:Below W.heap.size W W'):∀ {ts:List TypeId} {vs:List Value} {ds:List (DataW D)} {ps:List MemPlace},(ts.all fun t=>P.readableRec t && decide (t < P.types.size))=true →
  DataW.TrodAll enc P W 0 (fun _=>true) true ts vs ds ps→(∀ p ∈ ps,p.block < W.heap.size)→∀ sp:Nat→Bool,(∀ p ∈ ps,sp p.block=true)→DataW.TrodAll enc P W' 0 sp true ts vs ds ps
 | [],[],[],ps,_,h,_,sp,_=>h
 | t :: ts,v :: vs,d :: ds,ps,hr,h,hlt,sp,hs=>by obtain ⟨p,q,h1,h2,rfl⟩:=h;simp only [List.all_cons,qq7,decide_eq_true_eq] at hr;refine ⟨p,q,WideElems.Trod_stays hl hr.1.1 hr.1.2 h1 (fun x hx=>hb.same (hlt x (List.mem_append_left _ hx))) (fun x hx=>hs x (List.mem_append_left _ hx)),?_,rfl⟩;exact qu hl hb hr.2 h2 (fun x hx=>hlt x (List.mem_append_right _ hx)) sp (fun x hx=>hs x (List.mem_append_right _ hx))
 | [],_ :: _,_,_,_,h,_,_,_=>by simp [DataW.TrodAll] at h
 | [],[],_ :: _,_,_,h,_,_,_=>by simp [DataW.TrodAll] at h
 | _ :: _,[],_,_,_,h,_,_,_=>by simp [DataW.TrodAll] at h
 | _ :: _,_ :: _,[],_,_,h,_,_,_=>by simp [DataW.TrodAll] at h
theorem uQ {W:World} {base:Nat} {spare:Nat→Bool} {held:Bool}:∀ {ts:List TypeId} {vs:List Value} {ds:List (DataW D)} {ps:List MemPlace},DataW.TrodAll enc P W base spare held ts vs ds ps→ds.length=ts.length
 | [],[],[],_,_=>rfl
 | _ :: _,_ :: _,_ :: _,_,h=>by obtain ⟨p,q,_,h2,_⟩:=h;simp [uQ h2]
 | [],_ :: _,_,_,h=>by simp [DataW.TrodAll] at h
 | [],[],_ :: _,_,h=>by simp [DataW.TrodAll] at h
 | _ :: _,[],_,_,h=>by simp [DataW.TrodAll] at h
 | _ :: _,_ :: _,[],_,h=>by simp [DataW.TrodAll] at h
theorem JN (hl:laidOutB P=true) {f:FuncId} {fn:Func} {s:ChangeSpec} {tb:TypeId} (hr:(fn.params.toList.all fun t=>P.readableRec t && decide (t < P.types.size))=true) (hres:fn.resultTypes=#[tb])
  (hb:P.underlying tb=some .bool) (hv:s.vars=[]) (hs:∀ (ds:List (DataW D)),ds.length=fn.params.toList.length→s.fn D ds={results:=[.lit (.bool true)],args:=ds})
  {W:World} {args:Array Value} {ds gs:List (DataW D)} {before:List MemPlace} (hW:DataW.Whole enc P fn.params.toList s.vars false W args.toList ds gs before)
  (hc:Calls P f args W fun e w'=>e=.returned (.bool true)∧Below W.heap.size W w') :
  Calls P f args W fun e W'=>∃ v,e=.returned v∧s.post enc P fn false true false false W args v W':=by
 have hlt:=hW.lt;have hW':=hW;obtain ⟨p,q,hA,hV,rfl,hfz,hnd⟩:=hW;rw [hv] at hV;obtain ⟨rfl,rfl⟩:=trodVars_none hV;have hds:=hs ds (uQ hA);refine hc.mono fun e W' ⟨he,hw⟩=>?_;subst he;have hp:∀ x ∈ p,x.block < W.heap.size:=fun x hx=>hlt x (List.mem_append_left _ hx);have hold:∀ x ∈ p,(fun b=>decide (b < W.heap.size)) x.block=true:=fun x hx=>by simpa using hp x hx
 have hone:DataW.TrodAll enc P W' 0 (fun _=>false) false fn.resultTypes.toList ((Value.bool true).resultList fn.resultTypes.size) [.lit (.bool true)] []:=by rw [hres];exact trodAll_mk1 (shut_bool hb true)
 have hone':DataW.TrodAll enc P W' 0 (fun _=>true) true fn.resultTypes.toList ((Value.bool true).resultList fn.resultTypes.size) [.lit (.bool true)] []:=by rw [hres];exact trodAll_mk1 (shut_bool hb true)
 have hnow:=qu hl hw hr hA hp;simp only [List.append_nil] at hW' hfz hnd;refine ⟨_,rfl,ds,[],p,[],p,[],by simpa using hW',?_,?_,?_,hw.frame _,fun _=>⟨ok_one hres rfl (okWide_bool_mk hb true),_,[],([]++p)++[],⟨[]++p,[],trodAll_append (hnow _ (fun _ _=>rfl)) hone',?_,rfl,?_,?_⟩,?_⟩⟩
 ·rw [List.append_nil,hds,hres];exact trodAll_mk1 (shut_bool hb true)
 ·rw [List.append_nil,hds];exact hnow _ hold
 ·rw [List.append_nil,hds,hv];rfl
 ·rw [hv];rfl
 ·intro b off hx;have hx':MemPlace.cell b off ∈ p:=by simpa using hx
  have hb':b < W.heap.size:=hp _ hx';rw [hw.frozen hb'];exact hfz b off hx'
 ·intro ha;cases ha
 ·intro x hx _;simpa using hx
end
end Go.RM
namespace Go.RM
open Go
section
variable {T : bL} {tab : List XE} {one : Bool} {mu : Tmp → Bool} {base : Nat} {E : Env} {hp : List AB} {aO : cz} {H : Hp} {ρ : Nat → Nat → Option Nat} {g : aG} {O O' : Nat → Prop}
def Ow (j aF:Nat) (cs:List AV):List AV→List AV→Prop
 | [],[]=>True
 | a :: l,b :: m=>Gv j aF cs a b∧Ow j aF cs l m
 | _,_=>False
theorem Ow.len {j aF:Nat} {cs:List AV}:∀ {l m:List AV},Ow j aF cs l m→l.length=m.length
 | [],[],_=>rfl
 | _ :: _,_ :: _,h=>by simp only [List.length_cons];rw [Ow.len h.2]
 | [],_ :: _,h=>h.elim
 | _ :: _,[],h=>h.elim
theorem Ow.get {j aF:Nat} {cs:List AV}:∀ {l m:List AV},Ow j aF cs l m→∀ (i:Nat) (a b:AV),l[i]?=some a→m[i]?=some b→Gv j aF cs a b
 | [],[],_,i,a,b,ha,_=>by cases ha
 | x :: l,y :: m,h,i,a,b,ha,hb=>by
  cases i with
  | zero=>cases ha;cases hb;exact h.1
  | succ i=>exact Ow.get h.2 i a b (by simpa using ha) (by simpa using hb)
 | [],_ :: _,h,_,_,_,_,_=>h.elim
 | _ :: _,[],h,_,_,_,_,_=>h.elim
inductive GB (j aF:Nat) (cs:List AV):AB→AB→Prop
 | cells {l m:List AV} {es v:Nat}:Ow j aF cs l m→GB j aF cs (.cells l es v) (.cells m es v)
 | same {b:AB}:b.mS j=true→GB j aF cs b b
theorem GB.aF {j aF:Nat} {cs:List AV} {b b':AB} (h:GB j aF cs b b'):b'.ver?=b.ver?:=by
 cases h with
 | cells=>rfl
 | same=>rfl
def Ox (j aF:Nat) (cs:List AV):Nat→List AB→List AB→Prop
 | _,[],[]=>True
 | i,b :: l,b' :: m=>(if Nat.beq i j then b'=.gone else GB j aF cs b b')∧Ox j aF cs (i+1) l m
 | _,_,_=>False
theorem Ox.len {j aF:Nat} {cs:List AV}:∀ {l m:List AB} {i:Nat},Ox j aF cs i l m→l.length=m.length
 | [],[],_,_=>rfl
 | _ :: _,_ :: _,_,h=>by simp only [List.length_cons];rw [Ox.len h.2]
 | [],_ :: _,_,h=>h.elim
 | _ :: _,[],_,h=>h.elim
theorem Ox.get {j aF:Nat} {cs:List AV}:∀ {l m:List AB} {i0:Nat},Ox j aF cs i0 l m→∀ (i:Nat) (b':AB),m[i]?=some b'→(i0+i=j∧b'=.gone)∨(i0+i ≠ j∧∃ b,l[i]?=some b∧GB j aF cs b b')
 | [],[],_,_,i,b',hb=>by cases hb
 | x :: l,y :: m,i0,h,i,b',hb=>by
  cases i with
  | zero =>
   cases hb;have h1:=h.1;split at h1
   ·rename_i hb;exact .inl ⟨Nat.eq_of_beq_eq_true hb,h1⟩
   ·rename_i hb;exact .inr ⟨fun e=>hb (by subst e;exact Nat.beq_refl _),x,rfl,h1⟩
  | succ i =>
   rcases Ox.get h.2 i b' (by simpa using hb) with ⟨h1,h2⟩|⟨h1,b,h2,h3⟩
   ·exact .inl ⟨by omega,h2⟩
   ·exact .inr ⟨by omega,b,by simpa using h2,h3⟩
 | [],_ :: _,_,h,_,_,_=>h.elim
 | _ :: _,[],_,h,_,_,_=>h.elim
theorem ai.Su {st:cH} {l:List (Nat × AV)} (j:Nat) {aF es:Nat} {cs:List AV} {hp':List AB} (hj:st.hp[j]?=some (.cells cs es aF)) (hn:st.fl≤j) (hd:bG cs=true) (hs:wZ j aF cs st.fr l) (hb:Ox j aF cs 0 st.hp hp') :
  ai st ⟨bA l,hp',st.aO,st.rd,st.fl⟩:=by
 have hlt:j < st.hp.length:=(List.getElem?_eq_some_iff.1 hj).1;have hlen:=hb.len;refine ⟨rfl,fun E base s hs'=>?_⟩;have hr:=hs'.h
 have hget:∀ (i:Nat) (b:AB) (aF:Nat),hp'[i]?=some b→b.ver?=some aF→i ≠ j∧∃ b0,st.hp[i]?=some b0∧b0.ver?=some aF:=by
  intro i b v hi hv
  rcases hb.get i b hi with ⟨_,h2⟩|⟨h1,b0,h2,h3⟩
  ·subst h2;cases hv
  ·exact ⟨by omega,b0,h2,by rw [←h3.aF];exact hv⟩
 have hdr:∀ {i v k:Nat},aW j E.ρ i v=some k→i ≠ j∧E.ρ i v=some k:=by
  intro i v k h;unfold aW at h;split at h
  ·cases h
  ·rename_i hne;exact ⟨hne,h⟩
 have hown:∀ k,Own (aW j E.ρ) hp' k→Own E.ρ st.hp k:=by rintro k ⟨i,b,v,h1,h2,h3⟩;obtain ⟨_,b0,g1,g2⟩:=hget i b v h1 h2;exact ⟨i,b0,v,g1,g2,(hdr h3).2⟩
 have hOs:∀ k,({E with ρ:=aW j E.ρ}:Env).O hp' k→E.O st.hp k:=fun k h=>h.imp (hown k) id
 have hpt:∀ {o:Nat} {u:Value},AR E.ρ s.hp.get (E.O st.hp) (.ptr j aF o) u→AR (aW j E.ρ) s.hp.get (({E with ρ:=aW j E.ρ}:Env).O hp') (.pt cs o) u:=by
  intro o u h;obtain ⟨k,hk,rfl⟩:=h.di;obtain ⟨cs',q1,q2⟩:=hr.cells hj hk
  have hnO:¬ ({E with ρ:=aW j E.ρ}:Env).O hp' k:=by
   rintro (⟨i,b,v,h1,h2,h3⟩|hx)
   ·have:=hdr h3;exact this.1 (hr.inj i j v aF k this.2 hk)
   ·exact hr.jm k ⟨j,_,aF,hj,rfl,hk⟩ hx
  have:=q2.deep hd;refine .d (?_:DR _ _ (.pt cs o) (.pointer (some ⟨k,o,none⟩)))
  have h0:DR s.hp.get (({E with ρ:=aW j E.ρ}:Env).O hp') (.pt cs o) (.pointer (some ⟨k,0+o,none⟩)) :=
   .pt q1 hnO (by rw [Nat.zero_add,this.1];exact qq6 _) (fun i a u x y=>(this.2 i a u x (by rw [Nat.zero_add] at y;exact y)).mono fun k b hk ho=>⟨hk,fun h=>ho (hOs k h)⟩)
  rw [Nat.zero_add] at h0;exact h0
 have hrow:∀ {o n c:Nat} {els:List (List AV)} {b:Bool} {u:Value} (es:Nat),o+n * es≤cs.length→els.length=n→(∀ el ∈ els,el.length=es)→els.flatten=(cs.drop o).take (n * es)→(b=true→c=n)→AR E.ρ s.hp.get (E.O st.hp) (.dw j aF o n c) u →
   AR (aW j E.ρ) s.hp.get (({E with ρ:=aW j E.ρ}:Env).O hp') (.sl els b) u:=by
  intro o n c els b u es g1 g2 g3 g4 g5 h
  rcases h.fT with ⟨k,hk,rfl⟩|⟨rfl,rfl,rfl⟩
  ·obtain ⟨cs',q1,q2⟩:=hr.cells hj hk
   have hnO:¬ ({E with ρ:=aW j E.ρ}:Env).O hp' k:=by
    rintro (⟨i,b,v,h1,h2,h3⟩|hx)
    ·have:=hdr h3;exact this.1 (hr.inj i j v aF k this.2 hk)
    ·exact hr.jm k ⟨j,_,aF,hj,rfl,hk⟩ hx
   have hdp:=q2.deep hd;refine .d (.sl (es:=es) q1 hnO (by rw [←q2.1];exact g1) g2 (fun i el he=>g3 el (List.mem_of_getElem? he)) (fun i el jj a u he hx hu=>?_) g5);have hjj:jj < es:=by rw [←g3 el (List.mem_of_getElem? he)];exact (List.getElem?_eq_some_iff.1 hx).1
   have hat:=fH g3 i el jj he hjj;have hi:i < n:=by rw [←g2];exact (List.getElem?_eq_some_iff.1 he).1
   rw [g4,List.getElem?_take,List.getElem?_drop] at hat;have hlt:i * es+jj < n * es:=by have:(i+1) * es≤n * es:=Nat.mul_le_mul_right _ hi;rw [Nat.add_mul,Nat.one_mul] at this;omega
   rw [if_pos hlt,hx,←Nat.add_assoc] at hat;exact (hdp.2 _ a u hat hu).mono fun k b hk ho=>⟨hk,fun h=>ho (hOs k h)⟩
  ·simp only [List.length_eq_zero_iff] at g2;subst g2;exact .d .nil
 have hgv:∀ {a b:AV} {u:Value},Gv j aF cs a b→AR E.ρ s.hp.get (E.O st.hp) a u→AR (aW j E.ρ) s.hp.get (({E with ρ:=aW j E.ρ}:Env).O hp') b u:=by
  intro a b u hg h
  cases hg with
  | same hn=>exact h.mS hOs hn
  | ptr=>exact hpt h
  | row es g1 g2 g3 g4 g5=>exact hrow es g1 g2 g3 g4 g5 h
  | cw=>exact .cw
 refine ⟨{E with ρ:=aW j E.ρ},⟨⟨hr.wf,fun i b v hi hv=>?_,fun i i' v v' k h1 h2=>hr.inj i i' v v' k (hdr h1).2 (hdr h2).2,fun i v k hk=>hr.rn i v k (hdr hk).2,fun i b v w h1 h2 h3=>?_,fun i v hi=>?_,fun k hk=>hr.sup k (hown k hk),fun k hk=>hr.jm k (hown k hk),hr.dx,hr.ds,hr.sn,hr.xn,fun k hk=>hr.qK k (hk.imp (hown k) id),hr.bn,hr.aO⟩,hs'.rd,fun t=>hgv (A2 hs t) (hs'.fr t)⟩,
  ⟨qq6 _,fun i v k hi hk=>?_,fun k hk=>.inl (hown k hk),fun _ h=>.inl h,fun _ h=>.inl h,fun _ h=>h,fun _ h=>.inl h,fun _ _ _ _=>rfl,Nat.min_le_left _ _⟩⟩
 ·rcases hb.get i b hi with ⟨_,h2⟩|⟨hij,b0,hi',hG⟩
  ·subst h2;cases hv
  ·have hij:i ≠ j:=by omega
   have hv':b0.ver?=some v:=by rw [←hG.aF];exact hv
   rcases hr.gT i b0 v hi' hv' with ⟨k,b',q1,q2,q3⟩|⟨q1,q2⟩
   ·refine .inl ⟨k,b',by show aW j E.ρ i v=_;rw [aW,if_neg hij];exact q1,q2,?_⟩
    cases hG with
    | @cells l0 m0 es0 v0 hL =>
     obtain ⟨cs',rfl,h⟩:=q3;refine ⟨cs',rfl,by rw [←hL.len];exact h.1,fun i a u ha hu=>?_⟩;have hli:i < l0.length:=by rw [hL.len];exact (List.getElem?_eq_some_iff.1 ha).1
     exact hgv (hL.get i l0[i] a (List.getElem?_eq_getElem hli) ha) (h.2 i l0[i] u (List.getElem?_eq_getElem hli) hu)
    | same hbn =>
     cases b with
     | cells cs2 es2 ver2 =>obtain ⟨cs',rfl,h⟩:=q3;exact ⟨cs',rfl,h.1,fun i a u ha hu=>(h.2 i a u ha hu).mS hOs (dH hbn i a ha)⟩
     | dQ p q=>exact q3
     | map ents clock =>obtain ⟨es,rfl,h1,h2⟩:=q3;refine ⟨es,rfl,h1,fun i k v born x hx hy=>?_⟩;simp only [AB.mS,List.all_eq_true,qq7] at hbn;have:=hbn _ (List.mem_of_getElem? hx);exact ⟨(h2 i k v born x hx hy).1.mS hOs this.1,(h2 i k v born x hx hy).2.1.mS hOs this.2,(h2 i k v born x hx hy).2.2⟩
     | iter i2 since seen stepped =>obtain ⟨m,rfl,h⟩:=q3;exact ⟨m,rfl,by show aW j E.ρ i2 0=_;rw [aW,if_neg (gG hbn)];exact h⟩
     | gone=>exact q3
   ·refine .inr ⟨by show aW j E.ρ i v=_;rw [aW,if_neg hij];exact q1,?_⟩
    cases hG with
    | @cells l0 m0 es0 v0 hL =>
     obtain ⟨es1,h1⟩:=q2;cases h1;have h2:=hL.len
     cases m0 with
     | nil=>exact ⟨_,rfl⟩
     | cons _ _=>cases h2
    | same _=>exact q2
 ·obtain ⟨hij,b0,h1,h2⟩:=hget i b v h1 h2;show aW j E.ρ i w=none;rw [aW,if_neg hij];exact hr.fresh i b0 v w h1 h2 h3
 ·show aW j E.ρ i v=none;unfold aW;split
  ·rfl
  ·exact hr.new i v (by rw [hlen];exact hi)
 ·show aW j E.ρ i v=some k;rw [aW,if_neg (by omega)];exact hk
end
section
variable {T : bL} {tab : List XE} {one : Bool} {fl base : Nat} {E E' E2 : Env} {hp hp' hp2 : List AB} {aO amb' : cz} {H H' H2 : Hp} {ρ ρ2 : Nat → Nat → Option Nat} {g g2 : aG} {O O2 : Nat → Prop}
def xJ (i:Nat) (p q:Acc):Bool :=
 (!p.wr && !q.wr) || (match p.own,q.own with
  | some j,some j'=>!Nat.beq j j'
  | some _,none=>Nat.ble q.b i
  | none,some _=>!p.wr
  | none,none=>false)
theorem Dx {tr:Nat→cI} {n:Nat} (ht:mI base aO tr n) {i l:Nat} (hil:i < l) (hl:l≤n) {p q:Acc} {k:Nat} (hp:dS tr i p k) (hpo:p.own.isSome=true→Own (tr i).E.ρ (tr i).hp k) (hq:dS tr l q k) (hw:p.wr=true∨q.wr=true) (hf:xJ i p q=true):False:=by
 by_cases h:pP i p q=true
 ·exact qP ht hil hl hp hq hw h
 ·obtain ⟨p1,p2,p3⟩:=hp;obtain ⟨q1,q2,q3⟩:=hq;have back:∀ {b c:Nat},b≤c→c≤n→Own (tr c).E.ρ (tr c).hp k→k < (tr b).H.n→Own (tr b).E.ρ (tr b).hp k:=fun hbc hcn ho hk=>((ht.ext _ _ hbc hcn).own k ho).elim id (fun h=>by omega);unfold xJ at hf;unfold pP at h;rw [Bool.or_eq_true] at hf;rw [Bool.or_eq_true,not_or] at h
  rcases hf with hf|hf
  ·exact h.1 hf
  ·cases hpo':p.own with
   | some j =>
    rw [hpo'] at hf h hpo
    cases hqo:q.own with
    | some j'=>rw [hqo] at hf h;exact h.2 hf
    | none =>rw [hqo] at hf q3;have hb:=Nat.le_of_ble_eq_true hf;exact q3 (.inl (back hb (by omega) (hpo rfl) q2))
   | none =>
    rw [hpo'] at hf h
    cases hqo:q.own with
    | some j'=>rw [hqo] at hf h;exact h.2 hf
    | none=>rw [hqo] at hf;cases hf
theorem Km {tr:Nat→cI} {i:Nat} (ht:mI base aO tr i) {bt:Nat→Nat} {fr:Nat→AV} {tm:Tr Value} (hb:gU tr i bt fr tm) {own:Bool} {o:Op} {l:List Acc} (hro:(C7 o || l.all fun p=>p.wr || p.own.isNone)=true) (h:Eh o fr (sV bt)=some l)
  {K:AV→List AB→Prop} (hw:wpOp T own o fr (tr i).hp K) {r w:List Nat} (hto:iX o (aQ tm)=some (r,w)):∀ k ∈ r,∃ p ∈ l,p.wr=false∧dS tr i p k∧(p.own.isSome=true→Own (tr i).E.ρ (tr i).hp k):=by
 rw [Bool.or_eq_true] at hro
 rcases hro with hro|hro
 ·exact F4 ht hb hro h hw hto
 ·intro k hk;obtain ⟨r',w',e1,e2,_⟩:=sD ht hb h hw;rw [hto] at e1;simp only [qq9,Prod.mk.injEq] at e1;obtain ⟨rfl,rfl⟩:=e1;obtain ⟨p,p1,p2,p3⟩:=e2 k hk;refine ⟨p,p1,p2,p3,fun ho=>?_⟩;have:=List.all_eq_true.1 hro p p1;rw [p2,Bool.false_or] at this
  cases hpo:p.own with
  | none=>rw [hpo] at ho;cases ho
  | some j=>rw [hpo] at this;cases this
def Bw (x y:kj):Bool :=
 x.acc.all (fun p=>y.acc.all (xJ x.i p)) && ((!x.al && !x.call) || y.acc.all (fun q=>Nat.ble q.b x.i || (x.call && q.own.isSome))) && (!x.call || y.acc.all (fun q=>!q.wr)) && (!y.call || x.acc.all (fun p=>!p.wr))
theorem Fc {tr:Nat→cI} {n:Nat} (ht:mI base aO tr n) {x y:kj} {s t:Tc} (hs:qd tr x s) (hy:qd tr y t) (hxy:x.i < y.i) (hn:y.i≤n) (hf:Bw x y=true):conflict s t=false:=by
 cases hc:conflict s t with
 | false=>rfl
 | true =>
  exfalso;unfold Bw at hf;simp only [qq7,List.all_eq_true,Bool.or_eq_true,Bool.not_eq_true'] at hf;obtain ⟨⟨⟨f1,f2⟩,f3⟩,f4⟩:=hf;have two:∀ {k:Nat} {p q:Acc},p ∈ x.acc→q ∈ y.acc→dS tr x.i p k→dS tr y.i q k→(p.own.isSome=true→Own (tr x.i).E.ρ (tr x.i).hp k)→(p.wr=true∨q.wr=true)→False:=fun hp hq ap aq ho hw=>Dx ht hxy hn ap ho aq hw (f1 _ hp _ hq)
  have inn:∀ {k:Nat} {q:Acc},q ∈ y.acc→dS tr y.i q k→(q.own.isSome=true→Own (tr y.i).E.ρ (tr y.i).hp k)→s.a≤k→k < s.b→False:=by
   intro k q hq aq lq h1 h2
   rcases f2 with h|h
   ·have:=hs.ev.al h.1 h.2;omega
   ·rcases h q hq with h|⟨hcl,hos⟩
    ·have:=Nat.le_of_ble_eq_true h;have:=(ht.ext q.b x.i this (by omega)).n;have:=aq.2.1;rw [hs.ev.a] at h1;omega
    ·have hk:=hs.keep hcl;rw [hs.ev.b] at h2;rw [hs.ev.a] at h1
     rcases (ht.ext (x.i+1) y.i (by omega) hn).own k (lq hos) with h|h
     ·rw [hk.1,hk.2] at h;have:=(ht.rel x.i (by omega)).kN h;omega
     ·omega
  have out:∀ {k:Nat} {p:Acc},dS tr x.i p k→t.a≤k→False:=by intro k p ap h1;have:=(ht.ext p.b x.i ap.1 (by omega)).n;have:=(ht.ext x.i y.i (by omega) hn).n;have:=ap.2.1;rw [hy.ev.a] at h1;omega
  unfold conflict at hc;simp only [Bool.or_eq_true,qq7,Bool.not_eq_true'] at hc
  rcases hc with (((((((hc|hc)|hc)|hc)|hc)|hc)|hc)|hc)|hc
  ·obtain ⟨k,k1,k2⟩:=eG.1 hc;obtain ⟨p,p1,p2,p3⟩:=hs.ev.wr k k1;obtain ⟨q,q1,q2,q3⟩:=hy.ev.rd k k2;exact two p1 q1 p3 q3 (fun ho=>p3.F3 ho p2) (.inl p2)
  ·obtain ⟨k,k1,k2⟩:=eG.1 hc;obtain ⟨p,p1,p2,p3⟩:=hs.ev.wr k k1;obtain ⟨q,q1,q2,q3⟩:=hy.ev.wr k k2;exact two p1 q1 p3 q3 (fun ho=>p3.F3 ho p2) (.inl p2)
  ·obtain ⟨k,k1,k2⟩:=eG.1 hc;obtain ⟨q,q1,q2,q3⟩:=hy.ev.wr k k1;obtain ⟨p,p1,p2,p3,p4⟩:=hs.T0 k k2;exact two p1 q1 p3 q3 p4 (.inr q2)
  ·rw [hs.ev.call] at hc
   cases hw:t.wr with
   | nil=>rw [hw] at hc;simp at hc
   | cons k l =>
    obtain ⟨q,q1,q2,q3⟩:=hy.ev.wr k (by rw [hw];simp)
    rcases f3 with h|h
    ·rw [hc.1] at h;cases h
    ·rw [h q q1] at q2;cases q2
  ·rw [hy.ev.call] at hc
   cases hw:s.wr with
   | nil=>rw [hw] at hc;simp at hc
   | cons k l =>
    obtain ⟨p,p1,p2,p3⟩:=hs.ev.wr k (by rw [hw];simp)
    rcases f4 with h|h
    ·rw [hc.1] at h;cases h
    ·rw [h p p1] at p2;cases p2
  ·obtain ⟨k,k1,k2,k3⟩:=within_iff.1 hc;obtain ⟨q,q1,q2,q3,q4⟩:=hy.T0 k k1;exact inn q1 q3 q4 k2 k3
  ·obtain ⟨k,k1,k2,k3⟩:=within_iff.1 hc;obtain ⟨q,q1,q2,q3⟩:=hy.ev.wr k k1;exact inn q1 q3 (fun ho=>q3.F3 ho q2) k2 k3
  ·obtain ⟨k,k1,k2,k3⟩:=within_iff.1 hc;obtain ⟨p,p1,p2,p3⟩:=hs.ev.rd k k1;exact out p3 k2
  ·obtain ⟨k,k1,k2,k3⟩:=within_iff.1 hc;obtain ⟨p,p1,p2,p3⟩:=hs.ev.wr k k1;exact out p3 k2
variable {mu : Tmp → Bool} {fr : Nat → AV} {KS : cH → Prop} {rd : Bool} {dst : Option Tmp}
end
section
variable {T : bL} {tab : List XE} {one : Bool} {fl base : Nat} {E E' E2 : Env} {hp hp' hp2 : List AB} {aO amb' : cz} {H H' H2 : Hp} {ρ ρ2 : Nat → Nat → Option Nat} {g g2 : aG} {O O2 : Nat → Prop} {r : Rec}
theorem zN (a:Nat) (l:List Nat):within a a l=false:=by unfold within;rw [List.any_eq_false];intro k _ hk;simp only [qq7] at hk;have h1:=Nat.le_of_ble_eq_true hk.1;have h2:Nat.ble (k+1) a=true:=hk.2;have h2:=Nat.le_of_ble_eq_true h2;omega
theorem Fe (l:List Nat):meets l []=false:=by unfold meets;rw [List.any_eq_false];intro k _ h;cases h
theorem xK (a b:Nat):within a b []=false:=rfl
end
section
variable {T : bL} {tab : List XE} {one : Bool} {fl base : Nat} {E E' E2 : Env} {hp hp' hp2 : List AB} {aO amb' : cz} {H H' H2 : Hp} {ρ ρ2 : Nat → Nat → Option Nat} {g g2 : aG} {O O2 : Nat → Prop} {r : Rec}
end
section
variable {T : bL} {tab : List XE} {one : Bool} {fl base : Nat} {E E' E2 : Env} {hp hp' hp2 : List AB} {aO amb' : cz} {H H' H2 : Hp} {ρ ρ2 : Nat → Nat → Option Nat} {g g2 : aG} {O O2 : Nat → Prop}
theorem Dy {mu:Tmp→Bool} {dst:Option Tmp} {op:Op} {i:Nat} {bt:Nat→Nat} {fr:Nat→AV} {K:(Nat→AV)→List AB→(Nat→Nat)→kj→Prop} {tr:Nat→cI} {s:St} (h:eU T tab mu dst op i bt fr hp fun fr' hp' bt' x=>(C7 op || x.acc.all fun p=>p.wr || p.own.isNone)=true∧K fr' hp' bt' x)
  (ht:mI base aO tr i) (h1:(tr i).hp=hp) (h2:(tr i).H=s.hp) (hb:gU tr i bt fr s.fr) :
  ∃ (z:cI) (v:AV) (u:Value) (b:Nat) (x:kj) (t:Tc) (m0:Nat),aY z.E base z.hp aO z.H∧Ext base (tr i).E (tr i).hp (tr i).H z.E z.hp z.H∧b≤i+1∧(snoc tr i z b).ar v u∧x.i=i∧qd (snoc tr i z) x t ∧
   (∀ m,m0≤m→bu T (RX T tab m) op i s=some (u,z.H,t))∧K (wN fr dst v) z.hp (jO dst bt b) x:=by
 have hrel:=ht.rel i (qq6 _);have hfr:jX (tr i).E.ρ (tr i).H.get ((tr i).E.O (tr i).hp) fr s.fr:=fun t=>(ht.ext _ i (hb t).1 (qq6 _)).ar (ht.rel _ (hb t).1).wf (hb t).2
 have go:∀ (z:cI) (v:AV) (u:Value) (b:Nat) (x:kj) (t:Tc) (m0:Nat),aY z.E base z.hp aO z.H→Ext base (tr i).E (tr i).hp (tr i).H z.E z.hp z.H→b≤i+1→(snoc tr i z b).ar v u→x.i=i→qd (snoc tr i z) x t →
   (∀ m,m0≤m→bu T (RX T tab m) op i s=some (u,z.H,t))→K (wN fr dst v) z.hp (jO dst bt b) x →
   ∃ (z:cI) (v:AV) (u:Value) (b:Nat) (x:kj) (t:Tc) (m0:Nat),aY z.E base z.hp aO z.H∧Ext base (tr i).E (tr i).hp (tr i).H z.E z.hp z.H∧b≤i+1∧(snoc tr i z b).ar v u∧x.i=i∧qd (snoc tr i z) x t ∧
    (∀ m,m0≤m→bu T (RX T tab m) op i s=some (u,z.H,t))∧K (wN fr dst v) z.hp (jO dst bt b) x :=
  fun z v u b x t m0 q1 q2 q3 q4 q5 q6 q7 q8=>⟨z,v,u,b,x,t,m0,q1,q2,q3,q4,q5,q6,q7,q8⟩
 unfold eU at h;split at h
 ·rename_i f args hk;have h:=fQ (ct h);obtain ⟨hF,vs,v,hhand,⟨hvd,hpure⟩,h⟩:=h;have hF':=(AU hfr f).deep hF;have hget:({s.hp with lo:=s.hp.n}:Hp).get=(tr i).H.get:=by rw [h2];rfl
  obtain ⟨goal,hgo,m0,L,q1,q2,q3⟩:∃ goal,dD (mq T.P s.fr f) (args.map (aQ s.fr))=some goal ∧
    ∃ m L,RX T tab m (jB {s.hp with lo:=s.hp.n} goal)=some L∧(true=true→∃ r,L=[r])∧∀ r ∈ L,∃ w H',r=.ret w H' ∧
     ({s.hp with lo:=s.hp.n}:Hp).n≤H'.n∧Wf H'∧(∀ k,k < ({s.hp with lo:=s.hp.n}:Hp).n→H'.get k=({s.hp with lo:=s.hp.n}:Hp).get k)∧min ({s.hp with lo:=s.hp.n}:Hp).lo ({s.hp with lo:=s.hp.n}:Hp).n≤H'.lo∧DR H'.get ((tr i).E.O (tr i).hp) v w:=by
   rcases hhand with ⟨rfl,hA⟩|⟨hz,hfree⟩
   ·have hA':=(fM hfr args).deep hA
    exact hpure ((tr i).E.O (tr i).hp) {s.hp with lo:=s.hp.n} _ _ (by rw [h2] at hrel;exact hrel.wf) (fun k hk=>by
     have:k < (tr i).H.n:=hk.elim (fun h=>hrel.kN h) (hrel.xn k)
     rw [h2] at this;exact this) (by rw [hget];exact hF') (by rw [hget];exact hA')
   ·obtain ⟨goal,hgo,m0,L,q1,q2,q3⟩:=hpure (tr i).E.X {s.hp with lo:=s.hp.n} _ _ (by rw [h2] at hrel;exact hrel.wf) (fun k hk=>by
     have:k < (tr i).H.n:=hrel.xn k hk
     rw [h2] at this;exact this) (by rw [hget];exact hF'.mono fun k b hk ho=>⟨hk,fun hx=>ho (.inr hx)⟩) (by
      rw [hget];rw [←h1] at hz
      exact hz.dr hrel (fun _ h=>h) (fM hfr args))
    refine ⟨goal,hgo,m0,L,q1,q2,fun r hm=>?_⟩;obtain ⟨w,H',e1,e2,e3,e4,e5,e6⟩:=q3 r hm;exact ⟨w,H',e1,e2,e3,e4,e5,hfree.2 _ _ _ _ e6⟩
  obtain ⟨r,hr⟩:=q2 rfl;subst hr;obtain ⟨w,H',rfl,hn,hwf,hsame,hlo,hdr⟩:=q3 r (by simp)
  obtain ⟨g1,g2⟩:=hrel.grow (H':={H' with lo:=s.hp.lo}) (by rw [h2];exact hn) hwf (fun k hk=>by
   have:=hsame k (by rw [←h2];exact hk)
   rw [h2];exact this) (by rw [h2];exact Nat.min_le_left _ _)
  refine go ⟨(tr i).E,hp,{H' with lo:=s.hp.lo}⟩ v w (i+1) ⟨i,[],true,true⟩ ⟨i,[],[],true,s.hp.n,H'.n⟩ m0 (by rw [←h1];exact g1) (by rw [←h1];exact g2) (qq6 _) ?_ rfl ?_ (fun m hm=>?_) (eN h).2
  ·rw [ck (Nat.lt_succ_self _)];refine .d ?_;show DR H'.get ((tr i).E.O hp) v w;rw [←h1];exact hdr
  ·refine ⟨⟨rfl,by rw [bF (qq6 _),h2],by rw [ck (Nat.lt_succ_self _)],fun h=>Bool.noConfusion h,rfl,fun k hk=>(by cases hk),fun k hk=>(by cases hk)⟩,fun k hk=>(by cases hk),fun _=>?_⟩;rw [ck (Nat.lt_succ_self _),bF (qq6 _)];exact ⟨rfl,h1.symm⟩
  ·unfold bu;simp only [hk,hgo,gH hm _ _ q1]
   have:Nat.ble s.hp.n H'.lo=true:=Nat.ble_eq_true_of_le (by
    have:min s.hp.n s.hp.n≤H'.lo:=hlo
    omega)
   rw [tj this]
 ·exact h.elim
 ·rename_i hk;obtain ⟨a,hacc,hw⟩:=h;have hw':=hw;rw [←h1] at hw';obtain ⟨r,w,ht1,ht2,ht3⟩:=sD ht hb hacc hw'
  have evr:∀ (z:cI) (u:Value) (e:cv),(C7 op || a.all fun p=>p.wr || p.own.isNone)=true→iU T s.hp.n op (aQ s.fr) s.hp.get=some (u,e)→z.H=s.hp.app e→qd (snoc tr i z) ⟨i,a,news? op,false⟩ ⟨i,r,w,false,s.hp.n,(s.hp.app e).n⟩:=by
   intro z u e hro hop hz;refine ⟨⟨rfl,by rw [bF (qq6 _),h2],by rw [ck (Nat.lt_succ_self _),hz],fun hal _=>(tK (wU hop hal)).symm,rfl,fun k hk=>?_,fun k hk=>?_⟩,fun k hk=>?_,fun h=>Bool.noConfusion h⟩
   ·obtain ⟨p,p1,p2,p3⟩:=ht2 k hk;exact ⟨p,p1,p2,p3.snoc (qq6 _)⟩
   ·obtain ⟨p,p1,p2,p3⟩:=ht3 k hk;exact ⟨p,p1,p2,p3.snoc (qq6 _)⟩
   ·obtain ⟨p,p1,p2,p3,p4⟩:=Km ht hb hro hacc hw' ht1 k hk;exact ⟨p,p1,p2,p3.snoc (qq6 _),fun ho=>by rw [bF (qq6 _)];exact p4 ho⟩
  have drw:∀ (u:Value) (e:cv) (m:Nat),iU T s.hp.n op (aQ s.fr) s.hp.get=some (u,e)→bu T (RX T tab m) op i s=some (u,s.hp.app e,⟨i,r,w,false,s.hp.n,(s.hp.app e).n⟩):=by intro u e m hop;unfold bu;simp only [hk,ht1,hop]
  by_cases hm:∃ x,zk op fr=some [x]
  ·obtain ⟨x,hm⟩:=hm;have hbirth:lI op fr bt i=sV bt x:=by unfold lI;rw [hm]
   have hbx:=hb.eval x;have eb:=ht.ext _ i hbx.1 (qq6 _);obtain ⟨u,v,r1,r2,r3,r4⟩:=wT (ρ2:=(tr (sV bt x)).E.ρ) (g2:=(tr (sV bt x)).H.get) (O2:=(tr (sV bt x)).E.O (tr (sV bt x)).hp) (n:=s.hp.n) hfr hm (fun y hy=>by obtain rfl:=List.mem_singleton.1 hy;exact hbx.2) (fun k b hk ho=>(eb.keep (ht.rel _ hbx.1).wf k b hk ho).1) hw;rw [h2] at r1;have hz:(tr i).H=s.hp.app .none:=h2;rw [hbirth] at r2;refine go (tr i) v u (sV bt x) ⟨i,a,news? op,false⟩ ⟨i,r,w,false,s.hp.n,(s.hp.app .none).n⟩ 0 hrel .refl (by omega) (by rw [bF hbx.1];exact r4) rfl (evr _ u .none (eN (ct r2)).1 r1 hz) (fun m _=>by rw [hz];exact drw u .none m r1) (by rw [h1];exact (eN (ct r2)).2)
  ·have hbirth:lI op fr bt i=i+1:=by
    unfold lI;split
    ·rename_i x hx;exact absurd ⟨x,hx⟩ hm
    ·rfl
   obtain ⟨u,e,E',v,hp',r1,r2,r3,r4,r5⟩:=nA hrel hfr hw';rw [h2] at r1 r3 r4 r5;rw [hbirth] at r2;refine go ⟨E',hp',s.hp.app e⟩ v u (i+1) ⟨i,a,news? op,false⟩ ⟨i,r,w,false,s.hp.n,(s.hp.app e).n⟩ 0 r3 (by rw [h2];exact r4) (qq6 _) (by rw [ck (Nat.lt_succ_self _)];exact r5) rfl (evr _ u e (eN (ct r2)).1 r1 rfl) (fun m _=>drw u e m r1) (eN (ct r2)).2
inductive qZ where
 | pl (x:kj)
 | quiet (i:Nat)
 | span (i i0 i1:Nat)
def qZ.i:qZ→Nat
 | .pl x=>x.i
 | .quiet i=>i
 | .span i _ _=>i
inductive xL (tr:Nat→cI):qZ→Tc→Prop
 | pl {x:kj} {t:Tc}:qd tr x t→xL tr (.pl x) t
 | quiet {i:Nat} {t:Tc}:t.idx=i→t.rd=[]→t.wr=[]→t.call=false→t.a=t.b→xL tr (.quiet i) t
 | span {i i0 i1:Nat} {t:Tc}:t.idx=i→t.rd=[]→t.call=true→i0≤i→(∀ k ∈ t.wr,(tr i0).H.n≤k)→(tr i0).H.n≤t.a→t.b≤(tr i1).H.n→xL tr (.span i i0 i1) t
theorem xL.idx {tr:Nat→cI} {x:qZ} {t:Tc} (h:xL tr x t):t.idx=x.i:=by
 cases h with
 | pl h=>exact h.ev.idx
 | quiet h=>exact h
 | span h=>exact h
def qZ.top:qZ→Nat
 | .pl x=>x.i+1
 | .quiet i=>i+1
 | .span i _ i1=>max (i+1) i1
theorem xL.snoc {tr:Nat→cI} {i:Nat} {z:cI} {x:qZ} {t:Tc} (h:xL tr x t) (hi:x.top≤i):xL (snoc tr i z) x t:=by
 cases h with
 | pl h=>exact .pl (h.snoc (by have:_+1≤i:=hi;omega))
 | quiet a b c d e=>exact .quiet a b c d e
 | span a b c d f g k =>
  rename_i i' i0 i1;have hi:max (i'+1) i1≤i:=hi;refine .span a b c d ?_ ?_ ?_
  ·rw [bF (by omega)];exact f
  ·rw [bF (by omega)];exact g
  ·rw [bF (by omega)];exact k
def Gf:qZ→qZ→Bool
 | .quiet _,_=>true
 | _,.quiet _=>true
 | .pl x,.pl y=>Bw x y
 | .pl x,.span _ i0 _=>x.acc.all (fun p=>Nat.ble p.b i0 && !p.wr) && !x.call && !x.al
 | .span _ _ _,.pl y=>y.acc.isEmpty && !y.call && !y.al
 | .span _ _ _,.span _ _ _=>false
theorem nN {s t:Tc} (h:t.rd=[]∧t.wr=[]∧t.call=false∧t.a=t.b):conflict s t=false∧conflict t s=false:=by obtain ⟨h1,h2,h3,h4⟩:=h;have mn:∀ l,meets [] l=false:=fun _=>rfl;unfold conflict;rw [h1,h2,h3,h4];constructor <;> simp [mn,Fe,xK,zN]
theorem Kn {tr:Nat→cI} {n:Nat} (ht:mI base aO tr n) {x y:qZ} {s t:Tc} (hs:xL tr x s) (hy:xL tr y t) (hxy:x.i < y.i) (hn:y.top≤n) (hf:Gf x y=true):conflict s t=false:=by
 have emp:∀ {y:kj} {t:Tc},qd tr y t→y.acc.isEmpty=true→y.call=false→y.al=false→t.rd=[]∧t.wr=[]∧t.call=false∧t.a=t.b:=by
  intro y t h h1 h2 h3;have h1:y.acc=[]:=List.isEmpty_iff.1 h1;refine ⟨List.eq_nil_iff_forall_not_mem.2 fun k hk=>?_,List.eq_nil_iff_forall_not_mem.2 fun k hk=>?_,by rw [h.ev.call];exact h2,h.ev.al h3 h2⟩
  ·obtain ⟨p,hp,_⟩:=h.ev.rd k hk;rw [h1] at hp;cases hp
  ·obtain ⟨p,hp,_⟩:=h.ev.wr k hk;rw [h1] at hp;cases hp
 cases hs with
 | quiet a b c d e=>exact (nN ⟨b,c,d,e⟩).2
 | pl hx =>
  cases hy with
  | quiet a b c d e=>exact (nN ⟨b,c,d,e⟩).1
  | pl hy=>exact Fc ht hx hy hxy (by have:_+1≤n:=hn;omega) hf
  | span a b c d f g k =>
   rename_i x i i0 i1;have hxy:x.i < i:=hxy;have hn:max (i+1) i1≤n:=hn;simp only [Gf,qq7,List.all_eq_true,Bool.not_eq_true'] at hf;obtain ⟨⟨f1,f2⟩,f3⟩:=hf;have hw:s.wr=[]:=List.eq_nil_iff_forall_not_mem.2 fun q hq=>by obtain ⟨p,hp,h1,_⟩:=hx.ev.wr q hq;have:=(f1 p hp).2;rw [h1] at this;cases this
   have hr:∀ q ∈ s.rd,q < (tr i0).H.n:=fun q hq=>by obtain ⟨p,hp,_,h2⟩:=hx.ev.rd q hq;have h3:=Nat.le_of_ble_eq_true (f1 p hp).1;have:=(ht.ext p.b i0 h3 (by omega)).n;have:=h2.2.1;omega
   have hc:s.call=false:=by rw [hx.ev.call];exact f2
   have hab:=hx.ev.al f3 f2
   cases hcf:conflict s t with
   | false=>rfl
   | true =>
    exfalso;unfold conflict at hcf;rw [hw,hc,b,hab] at hcf;have mn:∀ l,meets [] l=false:=fun _=>rfl;simp only [mn,xK,zN,Bool.false_and,Bool.false_or,Bool.or_false,List.isEmpty_nil,Bool.not_true,Bool.and_false,Bool.or_eq_true] at hcf
    rcases hcf with hcf|hcf
    ·obtain ⟨q,q1,q2⟩:=eG.1 hcf;have:=f q q1;have:=hr q q2;omega
    ·obtain ⟨q,q1,q2,_⟩:=within_iff.1 hcf;have:=hr q q1;omega
 | span a b c d f g k =>
  cases hy with
  | quiet a b c d e=>exact (nN ⟨b,c,d,e⟩).1
  | pl hy =>simp only [Gf,qq7,Bool.not_eq_true'] at hf;exact (nN (emp hy hf.1.1 hf.1.2 hf.2)).1
  | span=>cases hf
inductive sU (tr:Nat→cI) (n:Nat):Nat→List qZ→List Ev→Prop
 | nil:sU tr n 0 [] []
 | cons {i:Nat} {x:qZ} {ev:Ev} {l:List qZ} {m:List Ev}:sU tr n i l m→x.i=i→x.top≤n→xL tr x ev.t→sU tr n (i+1) (x :: l) (ev :: m)
theorem sU.snoc {tr:Nat→cI} {n n':Nat} {z:cI} {i:Nat} {l:List qZ} {m:List Ev} (h:sU tr n i l m) (hn:n≤n'):sU (snoc tr n z) n' i l m:=by
 induction h with
 | nil=>exact .nil
 | cons _ hi ht he ih=>exact .cons ih hi (by omega) (he.snoc ht)
def pZ (T:bL) (tab:List XE) (mu:Tmp→Bool) (ops:Array Oper) (aO:cz) (rd:Bool) (fl:Nat):List Oper→Nat→(Nat→Nat)→List qZ→(Nat→AV)→List AB→(Nat→(Nat→Nat)→List qZ→(Nat→AV)→List AB→Prop)→Prop
 | [],i,bt,acc,fr,hp,K=>K i bt acc fr hp
 | ⟨dst,op,_,_,_,gd⟩ :: l,i,bt,acc,fr,hp,K=>gd=none ∧
  eU T tab mu dst op i bt fr hp fun fr' hp' bt' x=>(C7 op || x.acc.all fun p=>p.wr || p.own.isNone)=true∧pZ T tab mu ops aO rd fl l (i+1) bt' (.pl x :: acc) fr' hp' K
structure Ko (T:bL) (base:Nat) (aO:cz) (tr:Nat→cI) (i:Nat) (bt:Nat→Nat) (acc:List qZ) (fr:Nat→AV) (hp:List AB) (s:St) (evs:List Ev):Prop where
 ht:mI base aO tr i
 h1:(tr i).hp=hp
 h2:(tr i).H=s.hp
 hb:gU tr i bt fr s.fr
 he:sU tr i i acc evs
theorem U2 {mu:Tmp→Bool} {ops:Array Oper} {rd:Bool} {i:Nat} {bt:Nat→Nat} {acc:List qZ} {fr:Nat→AV} {K:Nat→(Nat→Nat)→List qZ→(Nat→AV)→List AB→Prop} (h:K i bt acc fr hp):pZ T tab mu ops aO rd fl [] i bt acc fr hp K:=h
theorem U3 {mu:Tmp→Bool} {ops:Array Oper} {rd:Bool} {dst:Option Tmp} {op:Op} {a1 a2 a3} {l:List Oper} {i:Nat} {bt:Nat→Nat} {acc:List qZ} {fr:Nat→AV} {K:Nat→(Nat→Nat)→List qZ→(Nat→AV)→List AB→Prop}
 (h:eU T tab mu dst op i bt fr hp fun fr' hp' bt' x=>(C7 op || x.acc.all fun p=>p.wr || p.own.isNone)=true∧pZ T tab mu ops aO rd fl l (i+1) bt' (.pl x :: acc) fr' hp' K) :
 pZ T tab mu ops aO rd fl (⟨dst,op,a1,a2,a3,none⟩ :: l) i bt acc fr hp K:=⟨rfl,h⟩
end
section
variable {T : bL} {tab : List XE} {one : Bool} {fl base : Nat} {E E' E2 : Env} {hp hp' hp2 : List AB} {aO amb' : cz} {H H' H2 : Hp} {r : Rec}
end
section
variable {T : bL} {tab : List XE} {one : Bool} {base : Nat} {aO : cz} {hp : List AB}
inductive RI (T:bL) (tab:List XE):St→List Oper→List Ev→Prop
 | nil {s:St}:RI T tab s [] []
 | cons {s:St} {ev:Ev} {ol:List Oper} {l:List Ev}:RI T tab ev.st ol l→s.fr=fC ev.st.fr ev.o.dst ev.v→(∃ m i,bu T (RX T tab m) ev.o.op i ev.st=some (ev.v,ev.hp,ev.t))→RI T tab s (ev.o :: ol) (ev :: l)
theorem qx {mu:Tmp→Bool} {ops:Array Oper} {rd:Bool} {fl:Nat}:∀ {l:List Oper} {i:Nat} {bt:Nat→Nat} {acc:List qZ} {evs:List Ev} {ol:List Oper} {fr:Nat→AV} {hp:List AB} {K:Nat→(Nat→Nat)→List qZ→(Nat→AV)→List AB→Prop} {tr:Nat→cI} {s:St},
  pZ T tab mu ops aO rd fl l i bt acc fr hp K→Ko T base aO tr i bt acc fr hp s evs→RI T tab s ol evs →
  ∃ (m0 i':Nat) (bt':Nat→Nat) (acc':List qZ) (fr':Nat→AV) (hp':List AB) (tr':Nat→cI) (s':St) (evs':List Ev),K i' bt' acc' fr' hp'∧Ko T base aO tr' i' bt' acc' fr' hp' s' evs'∧RI T tab s' (l.reverse++ol) evs'∧tr' 0=tr 0∧s'.rd=s.rd ∧
   ∀ m,m0≤m→∀ rest,cg T (RX T tab m) ops (l++rest) i s evs=cg T (RX T tab m) ops rest i' s' evs'
 | [],i,bt,acc,evs,ol,fr,hp,K,tr,s,h,hw,hc=>⟨0,i,bt,acc,fr,hp,tr,s,evs,h,hw,hc,rfl,rfl,fun _ _ _=>rfl⟩
 | ⟨dst,op,a1,a2,a3,gd⟩ :: l,i,bt,acc,evs,ol,fr,hp,K,tr,s,h,hw,hc=>by
  obtain ⟨hgd,h⟩:=h;subst hgd;obtain ⟨z,v,u,b,x,t,m0,q1,q2,q3,q4,q5,q6,q7,q8⟩:=Dy h hw.ht hw.h1 hw.h2 hw.hb;have hx:(qZ.pl x).top≤i+1:=by show x.i+1≤i+1;omega
  obtain ⟨m1,i',bt',acc',fr',hp',tr',s',evs',r1,r2,r6,r3,r4,r5⟩:=qx (s:=⟨fC s.fr dst u,z.H,s.rd⟩) (evs:=⟨⟨dst,op,a1,a2,a3,none⟩,s,u,z.H,t⟩ :: evs) q8
   ⟨hw.ht.snoc q1 q2,by rw [ck (Nat.lt_succ_self _)],by rw [ck (Nat.lt_succ_self _)],hw.hb.put q3 q4 dst,.cons (hw.he.snoc (Nat.le_succ _)) q5 hx (.pl q6)⟩
   (.cons (ev:=⟨⟨dst,op,a1,a2,a3,none⟩,s,u,z.H,t⟩) hc rfl ⟨m0,i,q7 m0 (qq6 _)⟩)
  rw [bF (qq5 _)] at r3;refine ⟨max m0 m1,i',bt',acc',fr',hp',tr',s',evs',r1,r2,by simpa using r6,r3,r4,fun m hm rest=>?_⟩;rw [List.cons_append,bW];simp only [bX,cond_true,q7 m (by omega)];exact r5 m (by omega) rest
def wrote (a:Tmp) (w:List (Option Tmp)):Bool:=w.any fun d=>match d with|some d=>Nat.beq d a|none=>false
noncomputable def Ul (T:bL) (fr:Nat→AV) (w:List (Option Tmp)) (o:Oper):Option (Nat × Nat) :=
 match o.op with
 | .store t (.tmp a) _=>bif wrote a w then none else (match fr a,T.ty.get t with
  | .ptr _ _ o,some ⟨_,s,_,_,_,_,_⟩=>some (o,s)
  | _,_=>none)
 | .load t (.tmp a)=>bif wrote a w then none else (match fr a,T.ty.get t with
  | .ptr _ _ o,some ⟨_,s,_,_,agg,_,_⟩=>some (o,bif agg then s else 1)
  | _,_=>none)
 | _=>none
noncomputable def Um (T:bL) (fr:Nat→AV):List Oper→List (Option Tmp)→List (Option (Nat × Nat))
 | [],_=>[]
 | o :: ol,w=>Ul T fr (o.dst :: w) o :: Um T fr ol (o.dst :: w)
def UA (r q:Option (Nat × Nat)):Bool :=
 match r,q with
 | some (o,n),some (p,m)=>Nat.ble (o+n) p || Nat.ble (p+m) o
 | _,_=>false
def NX (b:List Nat) (y:qZ) (ry:Option (Nat × Nat)):List qZ→List (Option (Nat × Nat))→Bool
 | x :: l,r :: rs=>((b.getD y.i 0).testBit x.i || Gf x y || UA r ry) && NX b y ry l rs
 | [],_=>true
 | _,_=>false
def NY (b:List Nat):List qZ→List (Option (Nat × Nat))→Bool
 | y :: l,r :: rs=>NX b y r l rs && NY b l rs
 | [],_=>true
 | _,_=>false
theorem Kq {a:Tmp} {d:Option Tmp} {w:List (Option Tmp)} (h:wrote a (d :: w)=false):d ≠ some a∧wrote a w=false:=by unfold wrote at h;rw [List.any_cons,Bool.or_eq_false_iff] at h;refine ⟨fun e=>?_,h.2⟩;subst e;simp only [Nat.beq_refl,Bool.true_eq_false] at h;exact h.1
theorem Qv {fr:Nat→AV} {w:List (Option Tmp)} {ev:Ev} {s:St} {ρ:Nat→Nat→Option Nat} {g:aG} {O:Nat→Prop} (hfr:jX ρ g O fr s.fr) (hsame:∀ a,wrote a w=false→ev.st.fr.get a=s.fr.get a)
  (hd:∃ m i,bu T (RX T tab m) ev.o.op i ev.st=some (ev.v,ev.hp,ev.t)) {o n:Nat} (h:Ul T fr w ev.o=some (o,n)):∃ k,mw T ev=some (k,o,n):=by
 have key:∀ {a:Tmp} {j aF o:Nat},wrote a w=false→fr a=.ptr j aF o→∃ k,aQ ev.st.fr (.tmp a)=.pointer (some ⟨k,o,none⟩):=by intro a j aF o h1 h2;have h3:=hfr a;rw [h2,←hsame a h1] at h3;obtain ⟨k,_,h4⟩:=h3.di;exact ⟨k,h4⟩
 unfold Ul at h;split at h
 ·rename_i t a x hop
  cases hw:wrote a w with
  | true=>rw [hw] at h;cases h
  | false =>
   rw [hw] at h;simp only [cond_false] at h;split at h
   ·rename_i j aF o' u s' b' z agg fl es hv hty;cases h;obtain ⟨k,hk⟩:=key hw hv;obtain ⟨m,i,hd⟩:=hd;unfold bu at hd;have hkd:dF ev.o.op=.plain:=by rw [hop];rfl
    rw [hkd,hop] at hd;simp only [iX] at hd;have hopA:iU T ev.st.hp.n (.store t (.tmp a) x) (aQ ev.st.fr) ev.st.hp.get=eB T t (aQ ev.st.fr (.tmp a)) (aQ ev.st.fr x) ev.st.hp.get:=rfl;rw [hopA,hk] at hd;refine ⟨k,?_⟩;unfold mw;rw [hop];simp only [hk]
    have hlen:(aQ ev.st.fr x).cells.toList.length=n:=by
     unfold eB at hd;have ha:addr? (.pointer (some ⟨k,o,none⟩))=some (k,o):=rfl;simp only [ha,hty] at hd
     cases hc:cells? (ev.st.hp.get k) with
     | none=>rw [hc] at hd;cases hd
     | some p =>
      obtain ⟨cs,own,e2⟩:=p;rw [hc] at hd;simp only at hd
      cases hb:(own && Nat.beq (aQ ev.st.fr x).cells.toList.length n && Nat.ble (o+n) cs.length && (aQ ev.st.fr x).cells.toList.all bH) with
      | false=>rw [hb] at hd;cases hd
      | true =>simp only [qq7] at hb;exact Nat.eq_of_beq_eq_true hb.1.1.2
    rw [hlen]
   ·cases h
 ·rename_i t a hop
  cases hw:wrote a w with
  | true=>rw [hw] at h;cases h
  | false =>
   rw [hw] at h;simp only [cond_false] at h;split at h
   ·rename_i j aF o' u s' b' z agg fl es hv hty;cases h;obtain ⟨k,hk⟩:=key hw hv;refine ⟨k,?_⟩;unfold mw;rw [hop];simp only [hk,hty]
   ·cases h
 ·cases h
inductive RJ (T:bL):List Ev→List (Option (Nat × Nat))→Prop
 | nil:RJ T [] []
 | cons {ev:Ev} {r:Option (Nat × Nat)} {l:List Ev} {rs:List (Option (Nat × Nat))}:RJ T l rs→(∀ o n,r=some (o,n)→∃ k,mw T ev=some (k,o,n))→RJ T (ev :: l) (r :: rs)
theorem Qw {fr:Nat→AV} {s:St} {ρ:Nat→Nat→Option Nat} {g:aG} {O:Nat→Prop} (hfr:jX ρ g O fr s.fr):∀ {ol:List Oper} {evs:List Ev} {s1:St} {w:List (Option Tmp)},RI T tab s1 ol evs→(∀ a,wrote a w=false→s1.fr.get a=s.fr.get a)→RJ T evs (Um T fr ol w):=by
 intro ol evs s1 w h
 induction h generalizing w with
 | nil=>intro _;exact .nil
 | cons hc hs hd ih =>
  rename_i s1 ev ol l;intro hsame
  have hback:∀ a,wrote a (ev.o.dst :: w)=false→ev.st.fr.get a=s.fr.get a:=by
   intro a ha;obtain ⟨h1,h2⟩:=Kq ha;rw [←hsame a h2,hs];unfold fC
   cases hdst:ev.o.dst with
   | none=>rfl
   | some d =>rw [hdst] at h1;rw [Tr.iG,if_neg (fun e=>h1 (by rw [e]))]
  exact .cons (ih hback) fun o n hr=>Qv hfr hback hd hr
theorem Qx {tr:Nat→cI} {n:Nat} (ht:mI base aO tr n) {b:List Nat} {i:Nat} {l:List qZ} {m:List Ev} {rs:List (Option (Nat × Nat))} (h:sU tr n i l m) (hr:RJ T m rs):NY b l rs=true→oh T b m=true:=by
 induction h generalizing rs with
 | nil=>intro _;rfl
 | cons hl hi htop he ih =>
  rename_i i y ev l m;intro hc
  cases hr with
  | cons hr1 hr2 =>
   rename_i r rs;simp only [NY,qq7] at hc;simp only [oh,qq7,List.all_eq_true];refine ⟨?_,ih hr1 hc.2⟩;have hc1:=hc.1;clear ih hc
   have key:∀ {j:Nat} {l:List qZ} {m:List Ev} {rs:List (Option (Nat × Nat))},sU tr n j l m→RJ T m rs→NX b y r l rs=true→j≤y.i→∀ s ∈ m,(!conflict s.t ev.t || (b.getD ev.t.idx 0).testBit s.t.idx || gX T s ev)=true:=by
    intro j l m rs h
    induction h generalizing rs with
    | nil=>intro _ _ _ s hs;cases hs
    | cons hl' hi' htop' he' ih' =>
     rename_i x ev' _ _;intro hr' hx hj s hs
     cases hr' with
     | cons hr3 hr4 =>
      rename_i r' rs';simp only [NX,qq7,Bool.or_eq_true] at hx
      rcases List.mem_cons.1 hs with rfl|hs
      ·rcases hx.1 with (h|h)|h
       ·rw [he.idx,he'.idx,h];simp
       ·rw [Kn ht he' he (by omega) htop h];simp
       ·have:gX T s ev=true:=by
         unfold UA at h;split at h
         ·rename_i o n p q;obtain ⟨k1,e1⟩:=hr4 _ _ rfl;obtain ⟨k2,e2⟩:=hr2 _ _ rfl;unfold gX;rw [e1,e2];exact h
         ·cases h
        rw [this];simp
      ·exact ih' hr3 hx.2 (by omega) s hs
   exact key hl hr1 hc1 (by omega)
theorem aE.cells {id n:Nat} {mu:Tmp→Bool} {l:List Oper} {st:cH} {K:Exit→cH→Prop} (ht:fR l.toArray=n) (hn:l.length=n)
  (h:pZ T tab mu l.toArray st.aO st.rd st.fl l 0 (fun _=>0) [] st.fr st.hp fun _ _ acc fr hp=>NY (oc l.toArray) acc (Um T fr l.reverse [])=true∧K .normal ⟨fr,hp,st.aO,st.rd,st.fl⟩):aE T tab one (.region id l.toArray true) st K:=by
 intro E base s hs;obtain ⟨m1,i1,bt1,sB,fr1,hp1,tr1,s1,evs1,⟨hc,h⟩,w1,c1,z1,r1,x1⟩:=qx (base:=base) (tr:=fun _=>⟨E,st.hp,s.hp⟩) (evs:=[]) (ol:=[]) h ⟨⟨fun _ _=>hs.h,fun _ _ _ _=>.refl⟩,rfl,rfl,fun t=>⟨qq6 _,hs.fr t⟩,.nil⟩ .nil;have hfr:jX (tr1 i1).E.ρ (tr1 i1).H.get ((tr1 i1).E.O (tr1 i1).hp) fr1 s1.fr:=fun t=>(w1.ht.ext _ i1 (w1.hb t).1 (qq6 _)).ar (w1.ht.rel _ (w1.hb t).1).wf (w1.hb t).2;rw [List.append_nil] at c1;have hrg:=Qw hfr (w:=[]) c1 fun _ _=>rfl
 have hd:dX T l.toArray evs1=true:=by
  unfold dX
  cases (evs1.all fun e=>e.t.wr.isEmpty && Nat.beq e.t.a e.t.b) with
  | true=>rfl
  | false =>show ez T _ evs1=true;unfold ez;rw [Qx w1.ht w1.he hrg hc,Bool.or_true]
 have run:∀ m,m1≤m→cg T (RX T tab m) l.toArray l 0 s []=some [s1]:=by intro m hm;have y1:=x1 m hm [];rw [List.append_nil] at y1;rw [y1,eK,hd];rfl
 have hrel:=w1.ht.rel i1 (qq6 _);have hext:=w1.ht.ext 0 i1 (qq5 _) (qq6 _);rw [z1] at hext;rw [w1.h1,w1.h2] at hrel;have hext:Ext base E st.hp s.hp (tr1 i1).E hp1 s1.hp:=by have:=hext;rw [w1.h1,w1.h2] at this;exact this
 refine ⟨m1,[(.normal,s1)],?_,.single ⟨(tr1 i1).E,_,h,rfl,⟨hrel,by rw [r1];exact hs.rd,fun t=>?_⟩,hext.MD⟩⟩
 ·rw [fG];have hr:=run _ (qq6 _)
  have:cM T (RX T tab m1) l.toArray s=some [s1]:=by
   cases hnd:vB l.toArray with
   | none =>unfold cM;simp only [hnd,ht];rw [←hn,List.take_length,hr,List.drop_length];rfl
   | some c=>exact oJ (by rw [ht,hn]) hr
  simp only [cond_true,this,List.map_cons,List.map_nil]
 ·have:=hfr t;rw [w1.h1,w1.h2] at this;exact this
end
theorem qq1 {T tab one c st K} (h:me T tab one (fun _=>false) c st K):aE T tab one c st K:=aa h
theorem qq2 {T tab one a b st K} (h:me T tab one (fun _=>false) a st (wQ (fun s=>aE T tab one b s K) K)):aE T tab one (.seq a b) st K:=iZ h
theorem qq3 {T tab one F l hp a Q} (h:aB T tab one F l hp a Q):aB T tab one F l hp a Q:=h
theorem qq4 {T own t x i fr hp K} (h:RM.wpOp T own (.indexAddr t x i) fr hp K):RM.wpOp T own (.indexAddr t x i) fr hp K:=h
end Go.RM
