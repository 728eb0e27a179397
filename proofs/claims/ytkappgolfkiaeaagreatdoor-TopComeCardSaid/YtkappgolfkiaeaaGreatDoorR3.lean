/-
  An abstract machine, and that its runs are the model's. Lemmas alone; no condition.
-/
import Derived.Test.YtkappgolfkiaeaaGreatDoorR2
import Derived.LoopNIn
import Derived.RangeFuncNested
namespace Go.RM
open Go
theorem Cb {n m:Nat} (h:n≤m):∀ {c:Code},codeOk n c=true→codeOk m c=true:=by
 intro c
 induction c with
 | region id ops draw =>
  intro hc;simp only [codeOk,qq7,List.all_eq_true] at hc ⊢;refine ⟨hc.1,fun o ho=>⟨(hc.2 o ho).1,?_⟩⟩;have:=(hc.2 o ho).2
  cases hd:o.dst with
  | none=>rfl
  | some d =>rw [hd] at this;simp only at this ⊢;have h1:=Nat.le_of_ble_eq_true this;exact Nat.ble_eq_true_of_le (Nat.le_trans h1 h)
 | seq a b iha ihb=>intro hc;simp only [codeOk,qq7] at hc ⊢;exact ⟨iha hc.1,ihb hc.2⟩
 | cond x a b iha ihb=>intro hc;simp only [codeOk,qq7] at hc ⊢;exact ⟨⟨hc.1.1,iha hc.1.2⟩,ihb hc.2⟩
 | block id c ih=>intro hc;simp only [codeOk] at hc ⊢;exact ih hc
 | loop c ih=>intro hc;simp only [codeOk] at hc ⊢;exact ih hc
 | scope c ih=>intro hc;simp only [codeOk] at hc ⊢;exact ih hc
 | rangeFunc f ps a b iha ihb =>intro hc;simp only [codeOk,qq7,List.all_eq_true] at hc ⊢;exact ⟨⟨⟨hc.1.1.1,fun p hp=>Nat.ble_eq_true_of_le (Nat.le_trans (Nat.le_of_ble_eq_true (hc.1.1.2 p hp)) h)⟩,iha hc.1.2⟩,ihb hc.2⟩
 | _=>intro _;rfl
structure Pre (γ:Gm) (st:St) (a:Act) (w:World) (rr:Option Nat) (N0:Nat):Prop where
 fr:x6 γ st.fr a.tmps
 hr:HR γ st.hp.get w
 rd:st.rd=rr.isSome
 df:Am γ w N0 a.defers
 wf:Wf st.hp
 lp:∀ b,rr=some b→∃ l,γ.loc l=some (b,0)∧oA (st.hp.get l)=true
def tq (γ:Gm) (H:Hp) (w:World) (L:List gL) (e:Ending) (w':World):Prop :=
 ∃ v hp v' γ',gL.ret v hp ∈ L∧e=.returned v'∧VR γ' v v'∧Step γ H w γ' hp w'
def jF (γ:Gm) (H:Hp) (w:World) (sz:Nat) (rd:Option Nat) (N0:Nat) (L:List (Exit × St)) (e:Exit) (a':Act) (w':World):Prop :=
 ∃ p ∈ L,∃ γ',e=p.1∧Pre γ' p.2 a' w' rd N0∧a'.tmps.size=sz∧Step γ H w γ' p.2.hp w'
theorem jF.trans {γ γ1:Gm} {H H1:Hp} {w w1 w2:World} {sz:Nat} {rd:Option Nat} {N0:Nat} {L M:List (Exit × St)} {e:Exit} {a:Act}
  (s:Step γ H w γ1 H1 w1) (h:jF γ1 H1 w1 sz rd N0 M e a w2) (hs:∀ p ∈ M,p ∈ L):jF γ H w sz rd N0 L e a w2:=by
 obtain ⟨p,hp,γ',h1,h2,h3,h4⟩:=h;exact ⟨p,hs p hp,γ',h1,h2,h3,s.trans h4⟩
structure cO (T : bL) (rec : qW → Option (List gL)) (m : Nat) : Prop where
  call : ∀ f args hp L, rec (.call f args hp) = some L → (∃ fn c, T.P.funcs[f]? = some fn ∧ (fn.name == "runtime.NumGoroutine") = false ∧ fn.body = some c) ∧
    ∀ γ w args' N, Wf hp → HR γ hp.get w → fy γ hp.n N → (∀ r ∈ L, r.hp.n ≤ N) → cy γ args args' → CallsIn (FW none) 0 T.P f args'.toArray w (tq γ hp w L)
  round : ∀ l args hp L, rec (.round l args hp) = some L → ∀ γ w args' N b, Wf hp → γ.loc l = some (b, 0) → HR γ hp.get w → fy γ hp.n N → (∀ r ∈ L, r.hp.n ≤ N) → cy γ args args' →
    ∃ r : Loop, w.heap[b]? = some (.loop r) ∧ args'.length = r.params.size ∧
      RoundIn (FW none) 0 T.P b r.fn ((r.params.zip args'.toArray).foldl (fun tmps (t, a) => tmps.setIfInBounds t a) r.tmps) r.assign r.body w (tq γ hp w L)
  loop : ∀ c st Lr, rec (.loop c st) = some Lr → ∀ L, (∀ r ∈ Lr, ∃ p ∈ L, r = .out p.1 p.2) → ∀ γ w a rd N0 N, Pre γ st a w rd N0 → codeOk a.tmps.size c = true → fy γ st.hp.n N → (∀ r ∈ Lr, r.hp.n ≤ N) →
    N0 ≤ w.heap.size → Code.roundsIn (FW rd) 0 T.P c (jF γ st.hp w a.tmps.size rd N0 L) m a w
def j9 (T:bL) (rec:qW→Option (List gL)):Prop :=
 ∀ id ops st L,cM T rec ops st=some L→∀ γ w a rd N0 N,Pre γ st a w rd N0→codeOk a.tmps.size (.region id ops true)=true→fy γ st.hp.n N→(∀ s ∈ L,s.hp.n≤N) →
  (Code.region id ops true).wpIn (FW rd) 0 T.P (jF γ st.hp w a.tmps.size rd N0 (L.map fun s=>(.normal,s))) a w
section
variable {T : bL} {rec : qW → Option (List gL)} {m : Nat}
theorem VR.oF {γ:Gm} {f:FuncId} {fs cs:Array Value} {v:Value} (h:VR γ (.func (.func f) fs cs) v):∃ fs' cs',v=.func (.func f) fs' cs'∧cy γ fs.toList fs'.toList∧cy γ cs.toList cs'.toList:=by
 cases h with
 | flat h=>cases h
 | func h1 h2 hf hc=>exact ⟨_,_,rfl,.mV h1 hf,.mV h2 hc⟩
theorem VR.tu {γ:Gm} {l:Nat} {fs cs:Array Value} {v:Value} (h:VR γ (.func (.yield l) fs cs) v):fs=#[]∧∃ b,v=.func (.yield b) #[] #[]∧γ.loc l=some (b,0):=by
 cases h with
 | flat h=>cases h
 | yield h=>exact ⟨rfl,_,rfl,h⟩
theorem mB {v:Value} {args:List Value} {f:FuncId} {as:List Value} (h:dD v args=some (.fn f as)):∃ fs cs,v=.func (.func f) fs cs∧as=fs.toList++args++cs.toList:=by
 unfold dD at h;split at h
 ·simp only [qq9,Goal.fn.injEq] at h;obtain ⟨rfl,rfl⟩:=h;exact ⟨_,_,rfl,rfl⟩
 ·simp at h
 ·cases h
theorem ni {v:Value} {args:List Value} {l:Nat} {as:List Value} (h:dD v args=some (.yield l as)):∃ fs cs,v=.func (.yield l) fs cs∧as=fs.toList++args:=by
 unfold dD at h;split at h
 ·simp at h
 ·simp only [qq9,Goal.yield.injEq] at h;obtain ⟨rfl,rfl⟩:=h;exact ⟨_,_,rfl,rfl⟩
 ·cases h
theorem rL {P : Program} {f : FuncId} {fn : Func} {c : Code} (h : P.funcs[f]? = some fn) (hn : (fn.name == "runtime.NumGoroutine") = false) (hb : fn.body = some c) (args : Array Value) (w : World) :
    (callFunc f args).run P w = .ok (.enter f args) w := by
  unfold callFunc
  have hn' : ¬ fn.name = "runtime.NumGoroutine" := by simpa using hn
  simp [program, Sem.run, h, hn', hb]
theorem vX (hS:cO T rec m) {γ:Gm} {H:Hp} {w:World} {v v':Value} {args args':List Value} {g:Goal} {L:List gL} {N:Nat} (hg:dD v args=some g) (hv:VR γ v v') (ha:cy γ args args')
  (hr:rec (jB H g)=some L) (hw:Wf H) (hh:HR γ H.get w) (hf:fy γ H.n N) (hN:∀ r ∈ L,r.hp.n≤N) {d:Deferred} (hd:(Deferred.ofValue v' args'.toArray).run T.P w=.ok d w) :
  (∃ f as,(invoke d.target d.args).run T.P w=.ok (.enter f as) w∧CallsIn (FW none) 0 T.P f as w (tq γ H w L)) ∨
  (∃ l f tm asg bd,(invoke d.target d.args).run T.P w=.ok (.round l f tm asg bd) w∧RoundIn (FW none) 0 T.P l f tm asg bd w (tq γ H w L)):=by
 cases g with
 | fn f as =>
  obtain ⟨fs,cs,rfl,rfl⟩:=mB hg;obtain ⟨fs',cs',rfl,e1,e2⟩:=hv.oF;obtain ⟨⟨fn,c,h1,h2,h3⟩,hcall⟩:=hS.call _ _ _ _ hr;have hd':d={target:=.fn (.func f) cs',args:=fs'++args'.toArray}:=by simp only [Deferred.ofValue] at hd;cases hd;rfl
  subst hd';refine .inl ⟨f,fs'++args'.toArray++cs',rL h1 h2 h3 _ w,?_⟩;have:=hcall γ w (fs'.toList++args'++cs'.toList) N hw hh hf hN ((e1.append ha).append e2);have he:(fs'.toList++args'++cs'.toList).toArray=fs'++args'.toArray++cs':=by apply Array.ext';simp
  rw [he] at this;exact this
 | yield l as =>
  obtain ⟨fs,cs,rfl,rfl⟩:=ni hg;obtain ⟨rfl,b,rfl,hl⟩:=hv.tu;have hd':d={target:=.fn (.yield b) #[],args:=#[]++args'.toArray}:=by simp only [Deferred.ofValue] at hd;cases hd;rfl
  subst hd';obtain ⟨r,h1,h2,h3⟩:=hS.round _ _ _ _ hr γ w args' N b hw hl hh hf hN (by simpa using ha);refine .inr ⟨b,r.fn,_,r.assign,r.body,?_,h3⟩;show (Instr.yield b (#[]++args'.toArray)).run T.P w=_;rw [Array.empty_append];exact run_yield h1 (by simpa using h2)
theorem Cc {o:Op} {f:RC} {as:List Operand} (h:dF o=.call f as):(∃ x args tys,o=.call ⟨.value x,args,tys⟩∧f=.op x∧as=args.toList)∨∃ r name args tys,o=.call ⟨.invoke r name,args,tys⟩∧f=.Gy r name∧as=args.toList:=by
 unfold dF at h;split at h
 ·simp only [Kind.call.injEq] at h;obtain ⟨rfl,rfl⟩:=h;exact .inl ⟨_,_,_,rfl,rfl,rfl⟩
 ·simp only [Kind.call.injEq] at h;obtain ⟨rfl,rfl⟩:=h;exact .inr ⟨_,_,_,_,rfl,rfl,rfl⟩
 ·cases h
 ·cases h
theorem D0 {P:Program} {v:Value} {name:String} {vs:List Value} {g:Goal} (h:dD (vz P v name) vs=some g):∃ t x f r,v=.iface t x∧aK P (method (P.types.size+Made.depth) t x name)=some (f,r)∧flat r=true∧vz P v name=.func (.func f) #[r] #[]:=by
 unfold vz at h ⊢;split at h
 ·rename_i t x;split at h
  ·rename_i f r hp
   cases hr:flat r with
   | true=>exact ⟨t,x,f,r,rfl,hp,hr,by simp only [cond_true]⟩
   | false=>rw [hr] at h;cases h
  ·cases h
 ·cases h
theorem UB {α:Type} (x:α) (b:Array α):(#[x]++b)[0]?=some x:=by rw [←Array.getElem?_toList,Array.toList_append];rfl
theorem UC {α:Type} (x:α) (b:Array α):(#[x]++b).extract 1 (#[x]++b).size=b:=by apply Array.ext';rw [Array.toList_extract,Array.toList_append,Array.size_append];show (x :: b.toList).extract 1 _=_;simp [List.extract];rw [show b.size=b.toList.length from Array.length_toList.symm];rw [List.take_of_length_le (by omega)]
theorem Ap {T:bL} {γ:Gm} {o:Oper} {f:RC} {as:List Operand} (hk:dF o.op=.call f as) {fr:Tr Value} {a:Act} (hev:∀ x ∈ o.op.operands,VR γ (aQ fr x) (a.eval x)) {vs:List Value} {g:Goal} (hg:dD (mq T.P fr f) vs=some g) (w:World) :
  (∀ c,o.op ≠ .defer c)∧cy γ (as.map (aQ fr)) (as.map a.eval)∧∃ vf',VR γ (mq T.P fr f) vf'∧∀ d,(Deferred.ofValue vf' (as.map a.eval).toArray).run T.P w=.ok d w→(execOp a.eval o).run T.P w=(invoke d.target d.args).run T.P w:=by
 rcases Cc hk with ⟨x,args,tys,hop,rfl,rfl⟩|⟨r,name,args,tys,hop,rfl,rfl⟩
 ·refine ⟨(by rw [hop];intro c hc;cases hc),cy.map fun x hx=>hev x (by rw [hop];simp [Op.operands,Call.operands];exact .inr (by simpa using hx)),a.eval x,hev x (by rw [hop];simp [Op.operands,Call.operands]),fun d hd=>?_⟩;obtain ⟨dst,op,ty,pos,after,guard⟩:=o;simp only at hop;subst hop;show (do let d ←resolve a.eval ⟨.value x,args,tys⟩ ty;invoke d.target d.args:Sem Next).run T.P w=_;refine eL ?_;have e2:(args.toList.map a.eval).toArray=args.map a.eval:=by apply Array.ext';simp
  rw [e2] at hd;exact hd
 ·obtain ⟨t,x,f0,rv,hv,hp,hfl,hm⟩:=D0 hg
  have hr:a.eval r=.iface t x:=by
   have:=hev r (by rw [hop];simp [Op.operands,Call.operands]);rw [hv] at this;generalize a.eval r=y at this
   cases this with
   | flat=>rfl
  have hvr:VR γ (mq T.P fr (.Gy r name)) (.func (.func f0) #[rv] #[]):=by
   show VR γ (vz T.P (aQ fr r) name) _;rw [hm]
   exact .func rfl rfl (fun i h1 h2=>by
    have:i=0:=by simpa using h1
    subst this
    exact VR.of_flat hfl) (fun i h1=>absurd h1 (by simp))
  refine ⟨(by rw [hop];intro c hc;cases hc),cy.map fun x hx=>hev x (by rw [hop];simp [Op.operands,Call.operands];exact .inr (by simpa using hx)),_,hvr,fun d hd=>?_⟩;obtain ⟨dst,op,ty,pos,after,guard⟩:=o;simp only at hop;subst hop;have e2:(args.toList.map a.eval).toArray=args.map a.eval:=by apply Array.ext';simp
  rw [e2] at hd;have hd':d={target:=.fn (.func f0) #[],args:=#[rv]++args.map a.eval}:=by have:(Deferred.ofValue (.func (.func f0) #[rv] #[]) (args.map a.eval)).run T.P w=.ok {target:=.fn (.func f0) #[],args:=#[rv]++args.map a.eval} w:=rfl;rw [this] at hd;cases hd;rfl
  subst hd';have hmr:=gm T.P hp w;have h1:(resolve a.eval ⟨.invoke r name,args,tys⟩ ty).run T.P w=.ok {target:=.fn (.method name) #[],args:=#[a.eval r]++args.map a.eval} w:=rfl;refine (eL h1:(do let d ←resolve a.eval ⟨.invoke r name,args,tys⟩ ty;invoke d.target d.args:Sem Next).run T.P w=_).trans ?_;have h0:(#[a.eval r]++args.map a.eval)[0]?=some (a.eval r):=UB _ _;show (invoke (.fn (.method name) #[]) (#[a.eval r]++args.map a.eval)).run T.P w=(callFunc f0 ((#[rv]++args.map a.eval)++#[])).run T.P w;have h2:invoke (.fn (.method name) #[]) (#[a.eval r]++args.map a.eval)=callMethod (a.eval r) name ((#[a.eval r]++args.map a.eval).extract 1 (#[a.eval r]++args.map a.eval).size):=by unfold invoke;simp only [h0]
  rw [h2];rw [hr];have e3:(#[Value.iface t x]++args.map a.eval).extract 1 (#[Value.iface t x]++args.map a.eval).size=args.map a.eval:=UC _ _;rw [e3];show (do let p ←method ((←program).types.size+Made.depth) t x name;callFunc p.1 (#[p.2]++args.map a.eval):Sem Next).run T.P w=_;rw [Array.append_empty];have hq:(do method ((←program).types.size+Made.depth) t x name:Sem (FuncId × Value)).run T.P w=.ok (f0,rv) w:=hmr;exact eL hq
theorem Cd {o:Op} {it:Operand} (h:dF o=.next it):o=.next it false:=by
 unfold dF at h;split at h
 ·cases h
 ·cases h
 ·simp only [Kind.next.injEq] at h;rw [h]
 ·cases h
theorem pG {n:Nat} {o:Op} {ρ:Operand→Value} {g:aG} {v:Value} {e:cv} (h:iU T n o ρ g=some (v,e)):∀ c,o ≠ .defer c:=by intro c hc;subst hc;cases h
theorem Oper.rM {rd:Option Nat} {P:Program} {o:Oper} {a:Act} {w w':World} {next:Act→World→Prop} {Q:Exit→Act→World→Prop} {v':Value} (hp:∀ c,o.op ≠ .defer c)
  (hr:(execOp a.eval o).run P w=.ok (.value v') w'∨((execOp a.eval o).run P w=.ok .skip w'∧v'=undef)) (h:next (a.put o.dst v') w'):o.wpIn (FW rd) 0 P a w next Q:=by
 refine ⟨fun _ _=>trivial,?_⟩;have he:o.semAt rd a.eval=execOp a.eval o:=Oper.semAt_plain (FW rd) _ _ hp;show o.uponIn _ _ _ _ _ _ ((o.semAt rd a.eval).run P w);rw [he]
 rcases hr with hr|⟨hr,rfl⟩
 ·rw [hr];exact h
 ·rw [hr];exact h
theorem uC (hT:cE T) (hS:cO T rec m) {o:Oper} {st:St} {L:List (Value × Hp)} (ho:gk T rec o.op st=some L) {γ:Gm} {w:World} {a:Act} {rd:Option Nat} {N:Nat}
  (hfr:x6 γ st.fr a.tmps) (hw:Wf st.hp) (hh:HR γ st.hp.get w) (hops:o.op.operands.toList.all ux=true) (hf:fy γ st.hp.n N) (hN:∀ p ∈ L,p.2.n≤N) {next:Act→World→Prop} {Q:Exit→Act→World→Prop}
  (hnext:∀ v hp v' γ' w',(v,hp) ∈ L→VR γ' v v'→Step γ st.hp w γ' hp w'→next (a.put o.dst v') w'):o.wpIn (FW rd) 0 T.P a w next Q:=by
 have hev:∀ x ∈ o.op.operands,VR γ (aQ st.fr x) (a.eval x):=fun x hx=>Ic hfr (List.all_eq_true.1 hops x (by simpa using hx));unfold gk at ho;split at ho
 ·rename_i f as hk;split at ho
  ·rename_i g hg;obtain ⟨hnd,ha,vf',hv,hx⟩:=Ap hk hev hg w
   cases hr:rec (jB st.hp g) with
   | none=>rw [hr] at ho;cases ho
   | some R =>
    rw [hr] at ho;simp only at ho
    have hmem:∀ r ∈ R,∃ v hp,r=.ret v hp∧(v,hp) ∈ L:=by
     intro r hrm;obtain ⟨Ma,h1,h2⟩:=cN ho r hrm
     cases r with
     | ret v hp=>simp only [valOf,qq9] at h1;subst h1;exact ⟨v,hp,rfl,h2 _ (by simp)⟩
     | out e s=>cases h1
    have hN':∀ r ∈ R,r.hp.n≤N:=fun r hrm=>by obtain ⟨v,hp,rfl,hm⟩:=hmem r hrm;exact hN _ hm
    have hd:∃ d,(Deferred.ofValue vf' (as.map a.eval).toArray).run T.P w=.ok d w:=by
     cases g with
     | fn f' as' =>obtain ⟨fs,cs,e,_⟩:=mB hg;rw [e] at hv;obtain ⟨fs',cs',e',_,_⟩:=hv.oF;rw [e'];exact ⟨_,rfl⟩
     | yield l as' =>obtain ⟨fs,cs,e,_⟩:=ni hg;rw [e] at hv;obtain ⟨_,b,e',_⟩:=hv.tu;rw [e'];exact ⟨_,rfl⟩
    obtain ⟨d,hd⟩:=hd
    have hback:∀ e w',tq γ st.hp w R e w'→(match e with
      | .returned v=>next (a.put o.dst v) w'
      | .panicked chain=>Q (.panic chain) a w'
      | .outgrown=>LetsOut Q):=by
     intro e w' ⟨v,hp,v',γ',hm,he,hv',hs⟩;subst he;obtain ⟨v0,hp0,e0,hm0⟩:=hmem _ hm;cases e0;exact hnext v hp v' γ' w' hm0 hv' hs
    refine ⟨fun _ _=>trivial,?_⟩;have he:o.semAt rd a.eval=execOp a.eval o:=Oper.semAt_plain (FW rd) _ _ hnd;show o.uponIn _ _ _ _ _ _ ((o.semAt rd a.eval).run T.P w);rw [he];have hx:=hx d hd;rw [hx]
    rcases vX hS hg hv ha hr hw hh hf hN' hd with ⟨f',as',h1,h2⟩|⟨l,f',tm,asg,bd,h1,h2⟩
    ·rw [h1];refine ⟨fun h=>Bool.noConfusion h,?_⟩;exact CallsIn.mono (F:=FW none) h2 fun e w' he=>by have:=hback e w' he;cases e <;> exact this
    ·rw [h1];refine ⟨fun h=>Bool.noConfusion h,?_⟩;exact RoundIn.mono (F:=FW none) h2 fun e w' he=>by have:=hback e w' he;cases e <;> exact this
  ·cases ho
 ·rename_i it hk;have hop:=Cd hk;simp only [Option.map_eq_some_iff] at ho;obtain ⟨M,hM,rfl⟩:=ho;obtain ⟨v,e,hm,hg⟩:=DQ (T:=T) (n:=st.hp.n) (ty:=o.type) hh hM (hev it (by rw [hop];simp [Op.operands]));obtain ⟨v',w',γ',h1,h2,h3⟩:=hg.step;refine Oper.rM (w':=w') (v':=v') (by rw [hop];intro c hc;cases hc) ?_ (hnext v _ v' γ' w' (List.mem_map.2 ⟨(v,e),hm,rfl⟩) h2 h3);obtain ⟨dst,op,ty,pos,after,guard⟩:=o;simp only at hop;subst hop;exact h1
 ·split at ho
  ·rename_i v e hop;simp only [qq9] at ho;subst ho
   have hn:e.news=true→γ.loc st.hp.n=none:=fun he=>hf _ (qq6 _) (by
    have:=hN (v,st.hp.app e) (by simp);simp only [qg,he,if_true] at this
    omega)
   obtain ⟨v',w',γ',h1,h2,h3⟩:=(rF (n:=st.hp.n) hT hh hn hop hev).step;exact Oper.rM (w':=w') (v':=v') (pG hop) h1 (hnext v _ v' γ' w' (by simp) h2 h3)
  ·cases ho
theorem Good.le {β:Type} {H:Hp} {f:β→Hp} {M:List β} (h:Good H f M) {N:Nat} (hN:∀ b ∈ M,(f b).n≤N):H.n≤N:=by
 obtain ⟨h1,h2⟩:=h
 cases M with
 | nil=>exact absurd rfl h1
 | cons b l=>exact Nat.le_trans (h2 b (by simp)).n (hN b (by simp))
theorem Pre.put {γ γ':Gm} {st:St} {a:Act} {w w':World} {rd:Option Nat} {N0:Nat} (h:Pre γ st a w rd N0) {hp:Hp} {v v':Value} {dst:Option Tmp} (hv:VR γ' v v') (hs:Step γ st.hp w γ' hp w')
  (hd:∀ d,dst=some d→d < a.tmps.size) (hk:dZ st.hp hp):Pre γ' ⟨fC st.fr dst v,hp,st.rd⟩ (a.put dst v') w' rd N0 :=
 ⟨(h.fr.mono hs.le).put hv hd,hs.hr,h.rd,by rw [put_defers];exact h.df.step hs,hk.wf h.wf,fun b hb=>let ⟨l,h1,h2⟩:=h.lp b hb;⟨l,hs.le.loc _ _ h1,hk.loop h.wf l h2⟩⟩
def gn (n:Nat) (o:Oper):Bool:=o.op.operands.toList.all ux && (match o.dst with|some d=>Nat.blt d n|none=>true)
theorem nj {n:Nat} {o:Oper} (h:gn n o=true):∀ d,o.dst=some d→d < n:=by intro d hd;simp only [gn,qq7,hd] at h;exact Nat.le_of_ble_eq_true h.2
theorem yp (hT:cE T) (hK:bE rec) (hS:cO T rec m) (ops:Array Oper) {γ0:Gm} {H0:Hp} {w0:World} {sz:Nat} {rd:Option Nat} {N0 N:Nat} {Lb:List (Exit × St)} :
  ∀ (l:List Oper) (st:St) (L:List St),bU T rec ops.toList l st=some L→∀ γ a w,Pre γ st a w rd N0→a.tmps.size=sz→Step γ0 H0 w0 γ st.hp w→l.all (gn sz)=true→fy γ st.hp.n N →
   (∀ s ∈ L,s.hp.n≤N)→(∀ s ∈ L,(Exit.normal,s) ∈ Lb)→wpListIn (FW rd) 0 T.P ops (jF γ0 H0 w0 sz rd N0 Lb) l a w:=by
 intro l
 induction l with
 | nil =>intro st L h γ a w hp hsz hs _ _ _ hb;rw [k9] at h;cases h;exact ⟨_,hb st (by simp),γ,rfl,hp,hsz,hs⟩
 | cons o l ih =>
  intro st L h γ a w hp hsz hs hok hf hN hb;rw [eJ] at h;simp only [List.all_cons,qq7] at hok;have hdst:∀ d,o.dst=some d→d < a.tmps.size:=by rw [hsz];exact nj hok.1
  rw [wpListIn,Ie hp.fr]
  cases hg:bX ops.toList st.fr o.guard with
  | false =>rw [hg] at h;simp only [cond_false] at h;refine ⟨fun _ _=>trivial,?_⟩;have hr:=Step.refl hp.hr;exact ih _ L h γ _ w (hp.put (VR.undef γ) hr hdst (.refl _)) ((gO _ _ _).trans hsz) hs hok.2 hf hN hb
  | true =>
   rw [hg] at h;simp only [cond_true] at h;simp only [if_true]
   cases ha:gk T rec o.op st with
   | none=>rw [ha] at h;cases h
   | some A =>
    rw [ha] at h;simp only at h;have hsub:∀ p ∈ A,∃ M,bU T rec ops.toList l ⟨fC st.fr o.dst p.1,p.2,st.rd⟩=some M∧∀ s ∈ M,s ∈ L:=fun p hpm=>cN h p hpm;have hle:∀ p ∈ A,p.2.n≤N:=fun p hpm=>by obtain ⟨M,h1,h2⟩:=hsub p hpm;exact Good.le (fF hK _ _ _ _ h1).1 (fun s hsm=>hN s (h2 s hsm))
    have hops:o.op.operands.toList.all ux=true:=by have:=hok.1;simp only [gn,qq7] at this;exact this.1
    refine uC hT hS ha hp.fr hp.wf hp.hr hops hf hle fun v hp' v' γ' w' hm hv hst=>?_;obtain ⟨M,h1,h2⟩:=hsub _ hm;exact ih _ M h1 γ' _ w' (hp.put hv hst hdst ((qE hK ha).2 _ hm)) ((gO _ _ _).trans hsz) (hs.trans hst) hok.2 (hst.fresh hf) (fun s hsm=>hN s (h2 s hsm)) fun s hsm=>hb s (h2 s hsm)
theorem HR.rN {γ:Gm} {g:aG} {w:World} (h:HR γ g w) {l b o:Nat} {s:LoopState} {pend:Option Code} {fr:Tr Value} {ps:Array Tmp} {as bd:Code} (hg:g l=some (.loop s pend fr ps as bd)) (hl:γ.loc l=some (b,o)) :
  o=0∧∃ r:Loop,w.heap[b]?=some (.loop r)∧r.state=s∧r.pending=pend∧r.params=ps∧r.assign=as∧r.body=bd ∧
   x6 γ fr r.tmps∧codeOk r.tmps.size as=true∧codeOk r.tmps.size bd=true∧(∀ p ∈ ps,p < r.tmps.size):=by
 obtain ⟨h0,_,fn,tm,df',h1,h2,h3,h4,h5⟩:=h.gT l b o _ hg hl;exact ⟨h0,_,h1,rfl,rfl,rfl,rfl,rfl,h2,h3,h4,h5⟩
theorem Step.Aq {γ:Gm} {H:Hp} {w:World} (h:HR γ H.get w) {l b:Nat} {s s':LoopState} {pend pend':Option Code} {fr:Tr Value} {ps:Array Tmp} {as bd:Code} (hg:H.get l=some (.loop s pend fr ps as bd)) (hl:γ.loc l=some (b,0))
  {r:Loop} (hr:w.heap[b]?=some (.loop r)):Step γ H w γ (H.put l (.loop s' pend' fr ps as bd)) (w.putObj b (.loop {r with state:=s',pending:=pend'})):=by
 obtain ⟨_,_,fn,tm,df',h1,h2,h3⟩:=h.gT l b 0 _ hg hl;rw [hr] at h1;cases h1;have hlt:=h.lt _ _ _ hl;have hoth:∀ i,i ≠ b→(w.putObj b (.loop {state:=s',pending:=pend',fn,tmps:=tm,params:=ps,assign:=as,body:=bd,defers:=df'})).heap[i]?=w.heap[i]?:=fun i hi=>World.putObj_heap_other hi;have hB:γ.B≤b:=(h.gT l b 0 _ hg hl).2.1;refine ⟨qq6 _,Gm.Le.refl γ,fun _ _=>rfl,?_,?_⟩
 ·rw [Hp.k8];exact h.put hg rfl hl World.putObj_size hoth (.inl rfl) ⟨rfl,hB,fn,tm,df',World.putObj_heap_same hlt,h2,h3⟩
 ·rw [Hp.k8];exact j7.put hg rfl hl rfl rfl rfl World.putObj_size hoth
theorem Ce {v:Value} {args:List Value} {f:FuncId} {as:List Value} (h:dD v args=some (.fn f as)) {γ:Gm} {v':Value} (hv:VR γ v v') (args':Array Value) (P:Program) (w:World) :
  ∃ d,(Deferred.ofValue v' args').run P w=.ok d w:=by
 obtain ⟨fs,cs,e,_⟩:=mB h;rw [e] at hv;obtain ⟨fs',cs',e',_,_⟩:=hv.oF;rw [e'];exact ⟨_,rfl⟩
theorem GK {ps:Array Tmp} {as bd:Code} {_f:Operand} {st:St} {γ:Gm} {w:World} {a:Act} {rd:Option Nat} {N0:Nat} (hp:Pre γ st a w rd N0) (h0:N0≤w.heap.size) (_hnone:γ.loc st.hp.n=none):∃ (w1:World) (D:Nat) (ds:List Deferred),
  HR γ st.hp.get w1∧w.heap.size≤w1.heap.size∧j7 γ st.hp.get w γ st.hp.get w1 ∧
  (∀ fn,(Instr.enterLoop fn a.tmps ps as bd rd).run T.P w=.ok (w1.heap.size,ds) (w1.alloc (.loop {state:=.ready,pending:=none,fn,tmps:=a.tmps,params:=ps,assign:=as,body:=bd,defers:=D}))) ∧
  ∀ (o:Obj) (H1:Hp),Step γ st.hp w (γ.add st.hp.n w1.heap.size 0) H1 (w1.alloc o)→Am (γ.add st.hp.n w1.heap.size 0) (w1.alloc o) N0 (ds++a.defers):=by
 cases rd with
 | some b =>
  obtain ⟨l,hl,hlp⟩:=hp.lp b rfl
  obtain ⟨r,hr⟩:∃ r,w.heap[b]?=some (.loop r):=by
   cases hg:st.hp.get l with
   | none=>rw [hg] at hlp;cases hlp
   | some x =>
    cases x with
    | loop s pend fr ps as bd =>obtain ⟨_,r,h,_⟩:=hp.hr.rN hg hl;exact ⟨r,h⟩
    | _=>rw [hg] at hlp;cases hlp
  exact ⟨w,r.defers,[],hp.hr,qq6 _,.refl _ _ _,fun fn=>run_enterLoop_inner hr fn a.tmps ps as bd,fun o H1 hs=>hp.df.step hs⟩
 | none =>
  let w1:=w.alloc (.deferred (some []))
  have hh1:HR γ st.hp.get w1:=hp.hr.off (by show _≤(w.heap.push _).size;simp) (fun k b o hl=>by
   show (w.heap.push _)[b]?=_
   rw [Array.getElem?_push,if_neg (by have:=hp.hr.lt _ _ _ hl;omega)]) (fun b hb=>by
   show (w.heap.push _)[b]?=_
   rw [Array.getElem?_push,if_neg (by have:=hp.hr.base;omega)])
  have hsz1:w1.heap.size=w.heap.size+1:=by show (w.heap.push _).size=_;simp
  have hu1:j7 γ st.hp.get w γ st.hp.get w1:=(j7.refl _ _ _).off rfl rfl rfl (by omega) fun b hb=>by show (w.heap.push _)[b]?=_;rw [Array.getElem?_push,if_neg (by omega)]
  refine ⟨w1,w.heap.size,[{target:=.collected w.heap.size,args:=#[]}],hh1,by omega,hu1,fun fn=>by rw [hsz1];exact run_enterLoop_outer fn a.tmps ps as bd,fun o H1 hs1=>?_⟩;have hl1:(γ.add st.hp.n w1.heap.size 0).loc st.hp.n=some (w.heap.size+1,0):=by rw [←hsz1];exact Gm.cD _ _ _ _
  obtain ⟨rs,e1,e2,e3⟩:=hp.df.step hs1;refine ⟨w.heap.size :: rs,by rw [e1];rfl,List.nodup_cons.2 ⟨fun hmem=>?_,e2⟩,fun r hrm=>?_⟩
  ·obtain ⟨rs0,q1,q2,q3⟩:=hp.df
   have hrr:rs0=rs:=by
    have hinj:∀ (l l':List Nat),l.map (fun r=>({target:=.collected r,args:=#[]}:Deferred))=l'.map (fun r=>({target:=.collected r,args:=#[]}:Deferred))→l=l':=by
     intro l
     induction l with
     | nil=>intro l' he;cases l' with
      | nil=>rfl
      | cons=>cases he
     | cons x l ih=>intro l' he;cases l' with
      | nil=>cases he
      | cons y l' =>simp only [List.map_cons,List.cons.injEq,Deferred.mk.injEq,Target.collected.injEq,and_true] at he;rw [he.1,ih l' he.2]
    exact hinj _ _ (q1.symm.trans e1)
   subst hrr;have:=(Array.getElem?_eq_some_iff.1 (q3 _ hmem).2.1).1;omega
  ·rcases List.mem_cons.1 hrm with rfl|hrm
   ·refine ⟨h0,?_,fun k o hl=>?_⟩
    ·show (w1.heap.push _)[w.heap.size]?=_;rw [Array.getElem?_push,if_neg (by omega)];show (w.heap.push _)[w.heap.size]?=_;simp
    ·by_cases hk:k=st.hp.n
     ·subst hk;rw [hl1] at hl;simp at hl
     ·have:=hp.hr.lt k _ o (by rw [←hl];exact (Gm.bO _ _ _ hk).symm);omega
   ·exact e3 r hrm
theorem Cf (hK:bE rec) (hS:cO T rec m) {f:Operand} {ps:Array Tmp} {as bd:Code} {st:St} {L:List (Exit × St)} (h:mU rec f ps as bd st=some L)
  {γ:Gm} {w:World} {a:Act} {rd:Option Nat} {N0 N:Nat} (hp:Pre γ st a w rd N0) (hc:codeOk a.tmps.size (.rangeFunc f ps as bd)=true) (hf:fy γ st.hp.n N) (hN:∀ p ∈ L,p.2.hp.n≤N) (h0:N0≤w.heap.size) :
  (Code.rangeFunc f ps as bd).wpIn (FW rd) 0 T.P (jF γ st.hp w a.tmps.size rd N0 L) a w:=by
 simp only [codeOk,qq7,List.all_eq_true] at hc;obtain ⟨⟨⟨hc1,hc2⟩,hc3⟩,hc4⟩:=hc;unfold mU at h;split at h
 ·rename_i g args hg
  cases hr:rec (.call g args (st.hp.push (.loop .ready none st.fr ps as bd))) with
  | none=>rw [hr] at h;cases h
  | some R =>
   rw [hr] at h;simp only at h;have hsub:∀ r ∈ R,∃ M,jC st.hp.n st.fr st.rd r=some M∧∀ q ∈ M,q ∈ L:=fun r hrm=>cN h r hrm
   have hNR:∀ r ∈ R,r.hp.n≤N:=by
    intro r hrm;obtain ⟨M,h1,h2⟩:=hsub r hrm;obtain ⟨v,hp',s,pend,fr0,ps0,as0,bd0,rfl,_,_,h3⟩:=lW h1
    rcases h3 with ⟨_,rfl⟩|⟨_,rfl⟩|⟨id,_,rfl⟩ <;> exact hN _ (h2 _ (List.mem_singleton_self _))
   have hn1:st.hp.n < N:=by have:=Good.le (hK _ _ hr) hNR;exact this
   have hnone:γ.loc st.hp.n=none:=hf _ (qq6 _) hn1;obtain ⟨w1,D,ds,hh1,hsz1,hu1,hent,hdf⟩:=GK (T:=T) (_f:=f) (ps:=ps) (as:=as) (bd:=bd) hp h0 hnone;refine wpIn_rangeFunc fun fn _=>?_
   let rcd:Loop:={state:=.ready,pending:=none,fn,tmps:=a.tmps,params:=ps,assign:=as,body:=bd,defers:=D}
   let w2:=w1.alloc (.loop rcd)
   let γ1:=γ.add st.hp.n w1.heap.size 0
   have hle:γ.Le γ1:=Gm.mW hnone;have hh2:HR γ1 (st.hp.push (.loop .ready none st.fr ps as bd)).get w2:=by rw [Hp.jV];refine hh1.new hnone (obj:=.loop rcd) rfl ⟨rfl,by rw [hle.B];exact hh1.base,fn,a.tmps,D,?_,hp.fr.mono hle,hc3,hc4,fun p hpp=>Nat.le_of_ble_eq_true (hc2 p (by simpa using hpp))⟩;show (w1.heap.push _)[w1.heap.size]?=_;simp [rcd]
   have hs1:Step γ st.hp w γ1 (st.hp.push (.loop .ready none st.fr ps as bd)) w2 :=
    ⟨Nat.le_succ _,hle,fun k hk=>Gm.bO _ _ _ (by
     have:(st.hp.push (.loop .ready none st.fr ps as bd)).n=st.hp.n+1:=rfl
     omega),hh2,by
     rw [Hp.jV]
     exact hu1.trans (j7.new (obj:=.loop rcd) rfl rfl rfl rfl)⟩
   have hf1:fy γ1 (st.hp.push (.loop .ready none st.fr ps as bd)).n N:=hs1.fresh hf;have hl1:γ1.loc st.hp.n=some (w1.heap.size,0):=Gm.cD _ _ _ _;have hw1:Wf (st.hp.push (.loop .ready none st.fr ps as bd)):=(dZ.push _ _).wf hp.wf;have hv:=(Ic hp.fr hc1).mono hle;have ha:cy γ1 [.func (.yield st.hp.n) #[] #[]] [.func (.yield w1.heap.size) #[] #[]]:=.cons (.yield hl1) (cy.nil _);obtain ⟨d,hd⟩:=Ce hg hv #[.func (.yield w1.heap.size) #[] #[]] T.P w2
   have hcall:∃ f' as',(invoke d.target d.args).run T.P w2=.ok (.enter f' as') w2∧CallsIn (FW none) 0 T.P f' as' w2 (tq γ1 (st.hp.push (.loop .ready none st.fr ps as bd)) w2 R):=by
    rcases vX hS (g:=.fn g args) hg hv ha hr hw1 hh2 hf1 hNR hd with x|⟨l',f',tm,asg,bd',h1,_⟩
    ·exact x
    ·exfalso;obtain ⟨fs,cs,e,_⟩:=mB hg;rw [e] at hv;obtain ⟨fs',cs',e',_,_⟩:=hv.oF;rw [e'] at hd;simp only [Deferred.ofValue] at hd;cases hd;obtain ⟨⟨fn',c',q1,q2,q3⟩,_⟩:=hS.call _ _ _ _ hr;have:=rL q1 q2 q3 (fs'++#[Value.func (.yield w1.heap.size) #[] #[]]++cs') w2;have h1':(callFunc g (fs'++#[Value.func (.yield w1.heap.size) #[] #[]]++cs')).run T.P w2=_:=h1;rw [this] at h1';cases h1'
   obtain ⟨f',as',hinv,hcl⟩:=hcall;refine ⟨w1.heap.size,ds,w2,d,w2,f',as',w2,hent fn,?_,fun _ _=>trivial,hinv,fun h=>Bool.noConfusion h,?_⟩
   ·have hres0:resolve a.eval (rangeCall f w1.heap.size) 0=Deferred.ofValue (a.eval f) #[.func (.yield w1.heap.size) #[] #[]]:=by simp [resolve,Act.eval]
    rw [hres0];exact hd
   refine CallsIn.mono (F:=FW none) hcl fun e w3 hR=>?_;obtain ⟨v,hp',v',γ',hm,rfl,_,hs2⟩:=hR;obtain ⟨M,h1,h2⟩:=hsub _ hm;obtain ⟨v0,hp0,s,pend,fr0,ps0,as0,bd0,e0,hget,hbusy,hres⟩:=lW h1;cases e0;have hl3:γ'.loc st.hp.n=some (w1.heap.size,0):=hs2.le.loc _ _ hl1;obtain ⟨_,r,hr1,hr2,hr3,_⟩:=hs2.hr.rN hget hl3;have hs3:=Step.Aq (s':=.exhausted) (pend':=pend) hs2.hr hget hl3 hr1;have hend:=run_endLoop (P:=T.P) hr1 (by rw [hr2];exact hbusy);have hsall:=(hs1.trans hs2).trans hs3;have hwe:w3.putObj w1.heap.size (.loop {r with state:=.exhausted})=w3.putObj w1.heap.size (.loop {r with state:=.exhausted,pending:=pend}):=by rw [←hr3]
   rw [hwe] at hend;rw [hr3] at hend
   let st':St:=⟨st.fr,hp'.put st.hp.n (.loop .exhausted pend fr0 ps0 as0 bd0),st.rd⟩
   have hkeep:dZ st.hp st'.hp:=((dZ.push _ _).trans ((hK _ _ hr).2 _ hm)).trans (dZ.put hp' _ _ (by rw [hget];simp) (fun _=>rfl))
   have hpre:Pre γ' st' {a with defers:=ds++a.defers} (w3.putObj w1.heap.size (.loop {r with state:=.exhausted,pending:=pend})) rd N0 :=
    ⟨hp.fr.mono hsall.le,hsall.hr,hp.rd,((hdf _ _ hs1).step hs2).step hs3,hkeep.wf hp.wf,fun b hb=>let ⟨l,q1,q2⟩:=hp.lp b hb;⟨l,hsall.le.loc _ _ q1,hkeep.loop hp.wf l q2⟩⟩
   refine ⟨pend,_,hend,?_⟩
   rcases hres with ⟨e,rfl⟩|⟨e,rfl⟩|⟨id,e,rfl⟩
   ·subst e;exact ⟨_,h2 _ (List.mem_singleton_self _),γ',rfl,hpre,rfl,hsall⟩
   ·subst e;exact wpIn_ret ⟨_,h2 _ (List.mem_singleton_self _),γ',rfl,hpre,rfl,hsall⟩
   ·subst e;exact wpIn_exit ⟨_,h2 _ (List.mem_singleton_self _),γ',rfl,hpre,rfl,hsall⟩
 ·cases h
end
theorem D1 {F:Fence} {n:Nat} {P:Program} {c:Code} {Q:Exit→Act→World→Prop} {a:Act} {w:World} (h:c.wpIn F n P Q a w) (hq:∀ l a w,¬ Q (.goto l) a w):(Code.scope c).wpIn F n P Q a w:=by
 intro b k cs hro hb hr;have h0:(lone (b.atR a (.code (.scope c) :: k)) cs w).fenced P F:=fenced_calm hb hr rfl;have s1:step P (lone (b.atR a (.code (.scope c) :: k)) cs w)=.next (lone (b.atR a (.code c :: .inScope c :: k)) cs w):=step_lone_go (by simp [stepG,stepG.exec,Frame.atR]);have s2:∀ a w,step P (lone (b.atR a (.inScope c :: k)) cs w)=.next (lone (b.atR a k) cs w):=fun a w=>step_lone_go (by simp [stepG,stepG.exec,Frame.atR]);obtain ⟨e,a₁,w₁,hq1,harr⟩:=h b (.inScope c :: k) cs hro hb hr
 cases e with
 | normal=>exact ⟨.normal,a₁,w₁,hq1,.head h0 s1 (StepsIn.trans harr (.one (fenced_calm hb hr rfl) (s2 a₁ w₁)))⟩
 | exit id =>
  have hx:exitTo id (.inScope c :: k)=exitTo id k:=by simp [exitTo]
  exact ⟨.exit id,a₁,w₁,hq1,fun k' hk=>.head h0 s1 (harr.1 k' (by rw [hx];exact hk)),fun hr' hk=>let ⟨k₁,h1,h2⟩:=harr.2 hr' (by rw [hx];exact hk);⟨k₁,h1,.head h0 s1 h2⟩⟩
 | goto l=>exact absurd hq1 (hq l a₁ w₁)
 | ret=>exact ⟨_,a₁,w₁,hq1,.of_steps (.one h0 s1) harr⟩
 | panic ch=>exact ⟨_,a₁,w₁,hq1,.of_steps (.one h0 s1) harr⟩
 | outgrown=>exact ⟨_,a₁,w₁,hq1,.of_steps (.one h0 s1) harr⟩
section
variable {T : bL} {rec : qW → Option (List gL)} {m : Nat}
theorem lA (hT:cE T) (hK:bE rec) (hS:cO T rec m) (hD:j9 T rec):∀ (c:Code) (st:St) (L:List (Exit × St)),bM T rec c st=some L →
  ∀ {γ:Gm} {w:World} {a:Act} {rd:Option Nat} {N0 N:Nat},Pre γ st a w rd N0→codeOk a.tmps.size c=true→fy γ st.hp.n N→(∀ p ∈ L,p.2.hp.n≤N)→N0≤w.heap.size →
  c.wpIn (FW rd) 0 T.P (jF γ st.hp w a.tmps.size rd N0 L) a w:=by
 intro c
 induction c with
 | skip =>intro st L h γ w a rd N0 N hp hc hf hN h0;rw [vS] at h;cases h;exact wpIn_skip ⟨_,List.mem_singleton_self _,γ,rfl,hp,rfl,Step.refl hp.hr⟩
 | label l =>intro st L h γ w a rd N0 N hp hc hf hN h0;rw [uz] at h;cases h;exact wpIn_label ⟨_,List.mem_singleton_self _,γ,rfl,hp,rfl,Step.refl hp.hr⟩
 | exit id =>intro st L h γ w a rd N0 N hp hc hf hN h0;rw [vV] at h;cases h;exact wpIn_exit ⟨_,List.mem_singleton_self _,γ,rfl,hp,rfl,Step.refl hp.hr⟩
 | ret =>intro st L h γ w a rd N0 N hp hc hf hN h0;rw [yZ] at h;cases h;exact wpIn_ret ⟨_,List.mem_singleton_self _,γ,rfl,hp,rfl,Step.refl hp.hr⟩
 | region id ops draw =>
  intro st L h γ w a rd N0 N hp hc hf hN h0;rw [fG] at h
  cases draw with
  | false =>
   simp only [cond_false] at h
   cases hx:bU T rec ops.toList ops.toList st with
   | none=>rw [hx] at h;cases h
   | some M =>rw [hx] at h;simp only [qq9] at h;subst h;simp only [codeOk,qq7] at hc;exact wpIn_region_list (yp hT hK hS ops ops.toList st M hx γ a w hp rfl (Step.refl hp.hr) hc.2 hf (fun s hs=>hN (.normal,s) (List.mem_map.2 ⟨s,hs,rfl⟩)) fun s hs=>List.mem_map.2 ⟨s,hs,rfl⟩)
  | true =>
   simp only [cond_true] at h
   cases hx:cM T rec ops st with
   | none=>rw [hx] at h;cases h
   | some M =>rw [hx] at h;simp only [qq9] at h;subst h;exact hD id ops st M hx γ w a rd N0 N hp hc hf fun s hs=>hN (.normal,s) (List.mem_map.2 ⟨s,hs,rfl⟩)
 | seq x y ihx ihy =>
  intro st L h γ w a rd N0 N hp hc hf hN h0;simp only [codeOk,qq7] at hc;rw [pF] at h
  cases hx:bM T rec x st with
  | none=>rw [hx] at h;cases h
  | some A =>
   rw [hx] at h;simp only at h;have hsub:∀ p ∈ A,∃ M,vD (bM T rec y) p=some M∧∀ q ∈ M,q ∈ L:=fun p hpm=>cN h p hpm
   have hA:∀ p ∈ A,p.2.hp.n≤N:=by
    intro p hpm;obtain ⟨M,h1,h2⟩:=hsub p hpm;obtain ⟨e,s⟩:=p;unfold vD at h1
    cases e with
    | normal=>exact Good.le (je hK y s M h1) fun q hq=>hN q (h2 q hq)
    | _=>simp only [qq9] at h1;subst h1;exact hN _ (h2 _ (List.mem_singleton_self _))
   refine wpIn_seq (Go.wpIn_mono (ihx st A hx hp hc.1 hf hA h0) fun e a1 w1 hq=>?_);obtain ⟨p,hpm,γ1,he,hp1,hsz,hs⟩:=hq;obtain ⟨M,h1,h2⟩:=hsub p hpm;obtain ⟨e',s⟩:=p;simp only at he hp1 hs;subst he;unfold vD at h1
   cases e with
   | normal =>refine Go.wpIn_mono (ihy s M h1 hp1 (by rw [hsz];exact hc.2) (hs.fresh hf) (fun q hq=>hN q (h2 q hq)) (Nat.le_trans h0 hs.iB.size)) fun e a2 w2 hq=>?_;rw [hsz] at hq;exact hq.trans hs h2
   | _=>simp only [qq9] at h1;subst h1;exact ⟨_,h2 _ (List.mem_singleton_self _),γ1,rfl,hp1,hsz,hs⟩
 | cond x y z ihy ihz =>
  intro st L h γ w a rd N0 N hp hc hf hN h0;simp only [codeOk,qq7] at hc;rw [kF] at h
  cases hv:aQ st.fr x with
  | bool t =>
   rw [hv] at h;simp only at h;have he:=(Ic hp.fr hc.1.1);rw [hv] at he;refine wpIn_cond (he.cU rfl) ?_
   cases t with
   | true=>exact ihy st L h hp hc.1.2 hf hN h0
   | false=>exact ihz st L h hp hc.2 hf hN h0
  | _=>rw [hv] at h;cases h
 | block id x ih =>
  intro st L h γ w a rd N0 N hp hc hf hN h0;rw [lg] at h
  cases hx:bM T rec x st with
  | none=>rw [hx] at h;cases h
  | some A =>
   rw [hx] at h;simp only [qq9] at h;subst h;have hhp:∀ p:Exit × St,(gA id p).2=p.2:=by intro p;obtain ⟨e,s⟩:=p;unfold gA;cases e <;> rfl
   refine wpIn_block (Go.wpIn_mono (ih st A hx hp hc hf (fun p hpm=>by
    have:=hN _ (List.mem_map.2 ⟨p,hpm,rfl⟩);rw [hhp] at this
    exact this) h0) fun e a1 w1 hq=>?_)
   obtain ⟨p,hpm,γ1,he,hp1,hsz,hs⟩:=hq;have hm:gA id p ∈ A.map (gA id):=List.mem_map.2 ⟨p,hpm,rfl⟩;obtain ⟨e',s⟩:=p;simp only at he hp1 hs;subst he
   cases e with
   | exit i =>
    show if i=id then _ else _;by_cases hi:i=id
    ·subst hi;rw [if_pos rfl];have hb:gA i (.exit i,s)=(.normal,s):=by unfold gA;simp
     rw [hb] at hm;exact ⟨_,hm,γ1,rfl,hp1,hsz,hs⟩
    ·rw [if_neg hi]
     have hb:gA id (.exit i,s)=(.exit i,s):=by
      unfold gA;have:Nat.beq i id=false:=by rw [Tr.beq_eq];simpa using hi
      simp only [this,cond_false]
     rw [hb] at hm;exact ⟨_,hm,γ1,rfl,hp1,hsz,hs⟩
   | _=>exact ⟨_,hm,γ1,rfl,hp1,hsz,hs⟩
 | loop x ih =>
  intro st L h γ w a rd N0 N hp hc hf hN h0;rw [ng] at h
  cases hx:rec (.loop x st) with
  | none=>rw [hx] at h;cases h
  | some R =>
   rw [hx] at h;simp only at h
   have hm:∀ r ∈ R,∃ p ∈ L,r=.out p.1 p.2:=by
    intro r hrm;obtain ⟨M,h1,h2⟩:=cN h r hrm
    cases r with
    | ret v hp=>cases h1
    | out e s=>simp only [BP,qq9] at h1;subst h1;exact ⟨(e,s),h2 _ (List.mem_singleton_self _),rfl⟩
   exact wpIn_loop_rounds m (hS.loop x st R hx L hm γ w a rd N0 N hp hc hf (fun r hrm=>by
    obtain ⟨p,h1,rfl⟩:=hm r hrm
    exact hN p h1) h0)
 | rangeFunc f ps as bd _ _ =>intro st L h γ w a rd N0 N hp hc hf hN h0;rw [lu] at h;exact Cf hK hS h hp hc hf hN h0
 | goto l=>intro st L h;rw [vW] at h;cases h
 | scope c ih =>intro st L h γ w a rd N0 N hp hc hf hN h0;rw [lz] at h;obtain ⟨h1,h2⟩:=oC h;refine D1 (ih st L h1 hp hc hf hN h0) fun l a w hq=>?_;obtain ⟨p,hpm,_,he,_⟩:=hq;exact h2 p hpm l he.symm
 | refuse y=>intro st L h;rw [rK] at h;cases h
theorem Ar {P:Program} {fn:Func} {tmps:Array Value} {R:Ending→World→Prop} {γ:Gm}:∀ (rs:List Nat) (w:World),rs.Nodup →
  (∀ r ∈ rs,w.heap[r]?=some (.deferred (some []))∧∀ k o,γ.loc k ≠ some (r,o)) →
  (∀ w',w'.os=w.os→w'.tape=w.tape→w'.output=w.output→w'.heap.size=w.heap.size→(∀ i,i ∉ rs→w'.heap[i]?=w.heap[i]?)→LeavesIn (FW none) 0 P fn tmps R [] .returning w') →
  LeavesInM (FW none) 0 P fn tmps R (rs.map fun r=>{target:=.collected r,args:=#[]}) .returning w:=by
 intro rs
 induction rs with
 | nil=>intro w _ _ h;exact h w rfl rfl rfl rfl (fun _ _=>rfl)
 | cons r rs ih =>
  intro w hnd hr h;refine ⟨by simp,.inl ⟨r,w.putObj r (.deferred none),rfl,run_takeDeferred (hr r (by simp)).1,?_⟩⟩;have hnd':=List.nodup_cons.1 hnd;refine ih _ hnd'.2 (fun r' hr'=>?_) fun w' h1 h2 h3 h4 h5=>?_
  ·have hne:r' ≠ r:=fun e=>by subst e;exact hnd'.1 hr'
   rw [World.putObj_heap_other hne];exact hr r' (List.mem_cons_of_mem _ hr')
  ·refine h w' h1 h2 h3 (h4.trans World.putObj_size) fun i hi=>?_;have h6:i ≠ r∧i ∉ rs:=⟨fun e=>hi (by rw [e];simp),fun e=>hi (List.mem_cons_of_mem _ e)⟩;rw [h5 i h6.2,World.putObj_heap_other h6.1]
theorem D2 (hT : cE T) (hK : bE rec) (hS : cO T rec m) (hD : j9 T rec) {f : FuncId} {args : List Value} {hp : Hp} {L : List gL} (h : iF T rec (.call f args hp) = some L) :
    (∃ fn c, T.P.funcs[f]? = some fn ∧ (fn.name == "runtime.NumGoroutine") = false ∧ fn.body = some c) ∧
    ∀ γ w args' N, Wf hp → HR γ hp.get w → fy γ hp.n N → (∀ r ∈ L, r.hp.n ≤ N) → cy γ args args' → CallsIn (FW none) 0 T.P f args'.toArray w (tq γ hp w L) := by
  obtain ⟨fn, c, R, h1, h2, h3, h4⟩ := nS h;obtain ⟨q1, q2, q3⟩ := hT.fn f fn h1;refine ⟨⟨fn, c, q1, q2, h2⟩, fun γ w args' N hw hh hf hN ha => ?_⟩;refine callsIn_of_wp_marks (F := FW none) q1 h2 trivial ?_ rfl;have hsub : ∀ p ∈ R, ∃ M, fE T fn.results.toList p = some M ∧ ∀ q ∈ M, q ∈ L := fun p hpm => cN h4 p hpm;have hR : ∀ p ∈ R, p.2.hp.n ≤ N := by intro p hpm;obtain ⟨M, e1, e2⟩ := hsub p hpm;obtain ⟨_, vs, _, rfl⟩ := nh e1;exact hN _ (e2 _ (List.mem_singleton_self _))
  have hok : codeOk (args'.toArray ++ Array.replicate (fn.ntmps - args'.toArray.size) undef).size c = true := Cb (by simp; omega) (q3 c h2)
  have hpre : Pre γ ⟨setArgs .leaf 0 args, hp, false⟩ { tmps := args'.toArray ++ Array.replicate (fn.ntmps - args'.toArray.size) undef, defers := [] } w none w.heap.size :=
    ⟨x6.args ha _, hh, rfl, Am.nil _ _ _, hw, fun b hb => (by cases hb)⟩
  refine Go.wpIn_mono (lA hT hK hS hD c _ R h3 hpre hok hf hR (qq6 _)) fun e a' w' hq => ?_;obtain ⟨p, hpm, γ', he, hp', hsz, hs⟩ := hq;obtain ⟨M, e1, e2⟩ := hsub p hpm;obtain ⟨hne, vs, hvs, rfl⟩ := nh e1;have hmem := e2 _ (List.mem_singleton.2 rfl)
  have key : LeavesInM (FW none) 0 T.P fn a'.tmps (tq γ hp w L) a'.defers .returning w' := by
    obtain ⟨rs, d1, d2, d3⟩ := hp'.df;rw [d1];refine Ar (γ := γ') rs w' d2 (fun r hr => ⟨(d3 r hr).2.1, (d3 r hr).2.2⟩) fun w2 k1 k2 k3 k4 k5 => ?_
    have hh2 : HR γ' p.2.hp.get w2 := hp'.hr.off (by omega) (fun k b o hl => k5 b fun hb => (d3 b hb).2.2 k o hl) (fun b hb => k5 b fun hbm => by
      have h1 := (d3 b hbm).1;have h2 := hs.le.B;have h3 := hh.base
      omega)
    obtain ⟨v', r1, r2⟩ := GJ hT hh2 hp'.fr hvs;refine ⟨v', r1, dm vs, p.2.hp, v', γ', hmem, rfl, r2, hs.n, hs.le, hs.out, hh2, hs.iB.off k1 k2 k3 (by omega) fun b hb => k5 b fun hbm => ?_⟩;have := (d3 b hbm).1;omega
  obtain ⟨e', s⟩ := p;simp only at he hne;subst he
  rcases hne with rfl | rfl
  · exact key
  · exact key
theorem Cg (hT:cE T) (hK:bE rec) (hS:cO T rec m) (hD:j9 T rec) {l:Nat} {args:List Value} {hp:Hp} {L:List gL} (h:iF T rec (.round l args hp)=some L)
  (γ:Gm) (w:World) (args':List Value) (N b:Nat) (hw:Wf hp) (hl:γ.loc l=some (b,0)) (hh:HR γ hp.get w) (hf:fy γ hp.n N) (hN:∀ r ∈ L,r.hp.n≤N) (ha:cy γ args args') :
  ∃ r:Loop,w.heap[b]?=some (.loop r)∧args'.length=r.params.size ∧
   RoundIn (FW none) 0 T.P b r.fn ((r.params.zip args'.toArray).foldl (fun tmps (t,a)=>tmps.setIfInBounds t a) r.tmps) r.assign r.body w (tq γ hp w L):=by
 obtain ⟨pend,fr,ps,as,bd,R,h1,h2,h3,h4⟩:=mA h;obtain ⟨_,r,r1,r2,r3,r4,r5,r6,r7,r8,r9,r10⟩:=hh.rN h1 hl;subst r4 r5 r6;refine ⟨r,r1,ha.1.symm.trans h2,?_⟩;refine roundIn_of_wpIn (F:=FW none) trivial ?_;have hz:(r.params.zip args'.toArray).foldl (fun tmps (t,a)=>tmps.setIfInBounds t a) r.tmps=(r.params.toList.zip args').foldl (fun tmps (t,a)=>tmps.setIfInBounds t a) r.tmps:=by rw [←Array.foldl_toList,Array.toList_zip]
 rw [hz];have hlen:r.params.toList.length=args'.length:=by rw [Array.length_toList];exact (ha.1.symm.trans h2).symm
 obtain ⟨f1,f2⟩:=B9 (γ:=γ) (r.params.toList.zip args) (r.params.toList.zip args') fr r.tmps r7 (by simp [ha.1]) fun i p p' x y=>by rw [List.getElem?_zip_eq_some] at x y;obtain ⟨x1,x2⟩:=x;obtain ⟨y1,y2⟩:=y;rw [x1] at y1;simp only [qq9] at y1;exact ⟨y1,ha.2 i _ _ x2 y2,by rw [←y1];exact r10 _ (by have:=List.mem_of_getElem? x1;simpa using this)⟩
 have hsub:∀ p ∈ R,∃ M,cX T rec l r.body p=some M∧∀ q ∈ M,q ∈ L:=fun p hpm=>cN h4 p hpm
 have endN:∀ {q:Exit × St} {M:List gL},gB l q=some M→(∀ x ∈ M,x ∈ L)→q.2.hp.n≤N:=by
  intro q M e1 e2;obtain ⟨_,_,_,_,_,_,_,e3⟩:=kH e1
  rcases e3 with ⟨_,rfl⟩|⟨_,rfl⟩|⟨_,_,rfl⟩ <;> exact hN _ (e2 _ (List.mem_singleton_self _))
 have hR:∀ p ∈ R,p.2.hp.n≤N:=by
  intro p hpm;obtain ⟨M,e1,e2⟩:=hsub p hpm;obtain ⟨_,_,_,_,_,_,R2,_,e4,e5⟩:=jg e1;have hg:=je hK _ _ _ e4;have:(p.2.hp.put l _).n≤N:=Good.le hg fun q hq=>by obtain ⟨M',x1,x2⟩:=cN e5 q hq;exact endN x1 fun x hx=>e2 x (x2 x hx)
  exact this
 have hpre:Pre γ ⟨fc fr (r.params.toList.zip args),hp,true⟩ {tmps:=(r.params.toList.zip args').foldl (fun tmps (t,a)=>tmps.setIfInBounds t a) r.tmps,defers:=[]} w (some b) w.heap.size:=⟨f1,hh,rfl,Am.nil _ _ _,hw,fun b hb=>(by cases hb;exact ⟨l,hl,by rw [h1];rfl⟩)⟩;refine Go.wpIn_mono (lA hT hK hS hD r.assign _ R h3 hpre (by rw [f2];exact r8) hf hR (qq6 _)) fun e a1 w1 hq=>?_;obtain ⟨p,hpm,γ1,he,hp1,hsz,hs⟩:=hq;obtain ⟨M,e1,e2⟩:=hsub p hpm;obtain ⟨hn,pend1,fr1,ps1,as1,T4,R2,e3,e4,e5⟩:=jg e1;rw [hn] at he;subst he;have hl1:=hs.le.loc _ _ hl;obtain ⟨_,q,q1,q2,q3,_⟩:=hp1.hr.rN e3 hl1;have hs2:=Step.Aq (s':=.busy) (pend':=pend1) hp1.hr e3 hl1 q1;have hbr:=run_beginRound (P:=T.P) q1 q2;have hweq:w1.putObj b (.loop {q with state:=.busy})=w1.putObj b (.loop {q with state:=.busy,pending:=pend1}):=by rw [←q3]
 rw [hweq] at hbr;refine ⟨_,hbr,?_⟩;have hs12:=hs.trans hs2
 have hpre2:Pre γ1 ⟨p.2.fr,p.2.hp.put l (.loop .busy pend1 fr1 ps1 as1 T4),true⟩ a1 (w1.putObj b (.loop {q with state:=.busy,pending:=pend1})) (some b) w.heap.size :=
  ⟨hp1.fr,hs2.hr,rfl,hp1.df.step hs2,(dZ.put p.2.hp _ _ (by rw [e3];simp) (fun _=>rfl)).wf hp1.wf,fun b hb=>(by cases hb;exact ⟨l,hl1,by rw [Hp.ju,if_pos rfl];rfl⟩)⟩
 have hsz':a1.tmps.size=r.tmps.size:=hsz.trans f2
 refine Go.wpIn_mono (lA hT hK hS hD r.body _ R2 e4 hpre2 (by rw [hsz'];exact r9) (hs12.fresh hf) (fun x hx=>by
  obtain ⟨M',x1,x2⟩:=cN e5 x hx
  exact endN x1 fun y hy=>e2 y (x2 y hy)) hs12.iB.size) fun e a2 w2 hq2=>?_
 obtain ⟨p2,hpm2,γ2,he2,hp2,hsz2,hs3⟩:=hq2;obtain ⟨M2,x1,x2⟩:=cN e5 p2 hpm2;obtain ⟨st4,pend4,fr4,ps4,as4,bd4,y1,y2⟩:=kH x1;have hl2:=hs3.le.loc _ _ hl1;obtain ⟨_,t,t1,_⟩:=hp2.hr.rN y1 hl2;obtain ⟨e6,s6⟩:=p2;simp only at he2 y2;subst he2
 have fin:∀ (jump:Option Code) (s':LoopState) (bo:Bool),s'=(if jump.isNone then .ready else .done)→bo=jump.isNone→(gL.ret (.bool bo) (s6.hp.put l (.loop s' jump fr4 ps4 as4 bd4))) ∈ L →
   ∃ v w',(Instr.endRound b jump).run T.P w2=.ok v w'∧tq γ hp w L (.returned v) w':=by
  intro jump s' bo hs' hbo hmem;subst hs' hbo;refine ⟨_,_,run_endRound jump t1,.bool jump.isNone,_,.bool jump.isNone,γ2,hmem,rfl,.flat rfl,?_⟩;exact (hs12.trans hs3).trans (Step.Aq hp2.hr y1 hl2 t1)
 rcases y2 with ⟨rfl,rfl⟩|⟨rfl,rfl⟩|⟨id,rfl,rfl⟩
 ·exact fin none .ready true rfl rfl (e2 _ (x2 _ (List.mem_singleton_self _)))
 ·exact fin (some .ret) .done false rfl rfl (e2 _ (x2 _ (List.mem_singleton_self _)))
 ·exact fin (some (.exit id)) .done false rfl rfl (e2 _ (x2 _ (List.mem_singleton_self _)))
theorem D3 (hT:cE T) (hK:bE rec) (hS:cO T rec m) (hD:j9 T rec) {c:Code} {st:St} {Lr:List gL} (h:iF T rec (.loop c st)=some Lr)
  (L:List (Exit × St)) (hL:∀ r ∈ Lr,∃ p ∈ L,r=.out p.1 p.2) (γ:Gm) (w:World) (a:Act) (rd:Option Nat) (N0 N:Nat) (hp:Pre γ st a w rd N0) (hc:codeOk a.tmps.size c=true) (hf:fy γ st.hp.n N)
  (hN:∀ r ∈ Lr,r.hp.n≤N) (h0:N0≤w.heap.size):Code.roundsIn (FW rd) 0 T.P c (jF γ st.hp w a.tmps.size rd N0 L) (m+1) a w:=by
 obtain ⟨R,h1,h2⟩:=nT h;have hsub:∀ p ∈ R,∃ M,fe rec c p=some M∧∀ q ∈ M,q ∈ Lr:=fun p hpm=>cN h2 p hpm
 have hR:∀ p ∈ R,p.2.hp.n≤N:=by
  intro p hpm;obtain ⟨M,e1,e2⟩:=hsub p hpm
  rcases kI e1 with ⟨_,e3⟩|⟨_,rfl⟩
  ·exact Good.le (hK _ _ e3) fun q hq=>hN q (e2 q hq)
  ·exact hN _ (e2 _ (List.mem_singleton_self _))
 rw [roundsIn_succ];refine Go.wpIn_mono (lA hT hK hS hD c st R h1 hp hc hf hR h0) fun e a1 w1 hq=>?_;obtain ⟨p,hpm,γ1,he,hp1,hsz,hs⟩:=hq;obtain ⟨M,e1,e2⟩:=hsub p hpm
 rcases kI e1 with ⟨e3,e4⟩|⟨e3,rfl⟩
 ·rw [e3] at he;subst he;have:=hS.loop c p.2 M e4 L (fun r hr=>hL r (e2 r hr)) γ1 w1 a1 rd N0 N hp1 (by rw [hsz];exact hc) (hs.fresh hf) (fun r hr=>hN r (e2 r hr)) (Nat.le_trans h0 hs.iB.size);rw [hsz] at this;show Code.roundsIn _ _ _ _ _ _ _ _
  have mono:∀ k a' w',Code.roundsIn (FW rd) 0 T.P c (jF γ1 p.2.hp w1 a.tmps.size rd N0 L) k a' w'→Code.roundsIn (FW rd) 0 T.P c (jF γ st.hp w a.tmps.size rd N0 L) k a' w':=by
   intro k
   induction k with
   | zero=>intro a' w' h;exact h
   | succ k ih =>
    intro a' w' h;rw [roundsIn_succ] at h ⊢;refine Go.wpIn_mono h fun e a2 w2 hq=>?_
    cases e with
    | normal=>exact ih _ _ hq
    | _=>exact jF.trans hs hq fun _ h=>h
  exact mono _ _ _ this
 ·obtain ⟨q,hq,hqe⟩:=hL _ (e2 _ (List.mem_singleton_self _));obtain ⟨e',s⟩:=p;simp only at he e3 hqe;subst he;cases hqe;have:jF γ st.hp w a.tmps.size rd N0 L q.1 a1 w1:=⟨q,hq,γ1,rfl,hp1,hsz,hs⟩;revert e3;generalize q.1=e0 at this;intro e3;cases e0 <;> first|exact absurd rfl e3|exact this
theorem D4 (hT:cE T) (hK:bE rec) (hS:cO T rec m) (hD:j9 T rec):cO T (iF T rec) (m+1) :=
 ⟨fun _ _ _ _ h=>D2 hT hK hS hD h,fun _ _ _ _ h=>Cg hT hK hS hD h,fun _ _ _ h=>D3 hT hK hS hD h⟩
end
abbrev ord (b:List Nat) (i j:Nat):Prop:=(b.getD j 0).testBit i=true
def Cl (l:List Oper) (D:Nat→Bool):Prop:=∀ (j:Nat) (o:Oper),l[j]?=some o→D j=true→∀ e ∈ o.after.toList,Region.binds .any e=true→D e.on=true
theorem GM {acc:List Nat} {D:Nat→Bool} (hacc:∀ j,D j=true→∀ i,(acc.getD j 0).testBit i=true→D i=true):∀ (l:List Edge),(∀ e ∈ l,Region.binds .any e=true→D e.on=true) →
  ∀ i,(vw acc l).testBit i=true→D i=true:=by
 intro l
 induction l with
 | nil=>intro _ i h;simp [vw] at h
 | cons e l ih =>
  intro hl i h;have ih':=ih (fun e he=>hl e (List.mem_cons_of_mem _ he)) i;have hp:vw acc (e :: l)=cond (Region.binds .any e) (vw acc l ||| 2 ^ e.on ||| acc.getD e.on 0) (vw acc l):=rfl;rw [hp] at h
  cases hb:Region.binds .any e with
  | false=>rw [hb] at h;exact ih' h
  | true =>
   rw [hb] at h;simp only [cond_true,Nat.testBit_or,Bool.or_eq_true,Nat.testBit_two_pow,decide_eq_true_eq] at h;have hd:=hl e (by simp) hb
   rcases h with (h|h)|h
   ·exact ih' h
   ·rw [←h];exact hd
   ·exact hacc _ hd i h
theorem Ig {D:Nat→Bool}:∀ (l:List Oper) (acc:List Nat),(∀ (j:Nat) (o:Oper),l[j]?=some o→D (acc.length+j)=true→∀ e ∈ o.after.toList,Region.binds .any e=true→D e.on=true) →
  (∀ j,D j=true→∀ i,(acc.getD j 0).testBit i=true→D i=true)→∀ j,D j=true→∀ i,((PE l acc).getD j 0).testBit i=true→D i=true:=by
 intro l
 induction l with
 | nil=>intro acc _ h;exact h
 | cons o l ih =>
  intro acc hcl hacc;refine ih _ (fun j o' ho' hD=>hcl (j+1) o' ho' (by rw [List.length_append] at hD;rw [show acc.length+(j+1)=acc.length+[vw acc o.after.toList].length+j by simp;omega];exact hD)) fun j hD i hi=>?_;rw [List.getD_eq_getElem?_getD,List.getElem?_append] at hi;split at hi
  ·rw [←List.getD_eq_getElem?_getD] at hi;exact hacc j hD i hi
  ·rename_i hlt;by_cases hj:j=acc.length
   ·subst hj;simp only [Nat.sub_self,List.getElem?_cons_zero,Option.getD_some] at hi;exact GM hacc _ (fun e he=>hcl 0 o rfl hD e he) i hi
   ·rw [List.getElem?_eq_none (by simp;omega)] at hi;simp at hi
theorem gp {ops:Array Oper} {D:Nat→Bool} (h:Cl ops.toList D) {i j:Nat} (ho:ord (oc ops) i j) (hj:D j=true):D i=true :=
 Ig ops.toList [] (fun j o hjo hD=>h j o hjo (by simpa using hD)) (fun j _ i hi=>by simp at hi) j hj i ho
theorem GN {ops:Array Oper} {b:List Nat}:∀ {l:List (Oper × Nat)},Fv ops b l=true→∀ (i j:Nat) (x y:Oper × Nat),i < j→l[i]?=some x→l[j]?=some y→x.1.apart ops y.1=true∨ord b x.2 y.2:=by
 intro l
 induction l with
 | nil=>intro _ i j x y _ h;cases h
 | cons z l ih =>
  intro h i j x y hij hi hj;obtain ⟨zo,zi⟩:=z;simp only [Fv,qq7,List.all_eq_true] at h
  cases j with
  | zero=>omega
  | succ j =>
   cases i with
   | zero =>cases hi;have:=h.1 y (List.mem_of_getElem? hj);obtain ⟨yo,yj⟩:=y;simp only [Bool.or_eq_true] at this;exact this
   | succ i=>exact ih h.2 i j x y (by omega) hi hj
theorem Ch {T:bL} {b:List Nat} {l:List Ev} (h:ez T b l=true) :
  (∀ (i j:Nat) (t s:Ev),i < j→l[i]?=some t→l[j]?=some s→conflict s.t t.t=true→ord b s.t.idx t.t.idx∨spare T s t=true)∨∀ (i j:Nat) (t s:Ev),i < j→l[i]?=some t→l[j]?=some s→conflict s.t t.t=true→ord b s.t.idx t.t.idx∨gX T s t=true:=by
 have key:∀ (p:Ev→Ev→Bool) (q:List Ev→Bool),(∀ t l,q (t :: l)=true→l.all (fun s=>!conflict s.t t.t || (b.getD t.t.idx 0).testBit s.t.idx || p s t)=true∧q l=true)→∀ l,q l=true →
   ∀ (i j:Nat) (t s:Ev),i < j→l[i]?=some t→l[j]?=some s→conflict s.t t.t=true→ord b s.t.idx t.t.idx∨p s t=true:=by
  intro p q hq l
  induction l with
  | nil=>intro _ i j x y _ h;cases h
  | cons z l ih =>
   intro h i j t s hij hi hj hc;have h:=hq _ _ h;rw [List.all_eq_true] at h
   cases j with
   | zero=>omega
   | succ j =>
    cases i with
    | zero =>cases hi;have:=h.1 s (List.mem_of_getElem? hj);rw [hc] at this;simp only [Bool.not_true,Bool.false_or,Bool.or_eq_true] at this;exact this
    | succ i=>exact ih h.2 i j t s (by omega) hi hj hc
 unfold ez at h;rw [Bool.or_eq_true] at h;refine h.imp (fun h=>?_) (fun h=>?_)
 ·exact key (spare T) (sZ T b) (fun t l h=>by simpa only [sZ,qq7] using h) l h
 ·exact key (gX T) (oh T b) (fun t l h=>by simpa only [oh,qq7] using h) l h
theorem rO {T:bL} {b:List Nat} {t:Ev} {l:List Ev} (h:ez T b (t :: l)=true):ez T b l=true:=by
 unfold ez at h ⊢;rw [Bool.or_eq_true] at h ⊢;refine h.imp (fun h=>?_) (fun h=>?_)
 ·simp only [sZ,qq7] at h;exact h.2
 ·simp only [oh,qq7] at h;exact h.2
theorem lB {T:bL} {b:List Nat} {t:Ev} {l:List Ev} (h:(∀ s ∈ l,(!conflict s.t t.t || (b.getD t.t.idx 0).testBit s.t.idx)=true)∧ez T b l=true):ez T b (t :: l)=true:=by
 have h2:=h.2;unfold ez at h2 ⊢;rw [Bool.or_eq_true] at h2 ⊢;refine h2.imp (fun h2=>?_) (fun h2=>?_)
 ·simp only [sZ,qq7,List.all_eq_true];exact ⟨fun s hs=>by rw [h.1 s hs];rfl,h2⟩
 ·simp only [oh,qq7,List.all_eq_true];exact ⟨fun s hs=>by rw [h.1 s hs];rfl,h2⟩
def iJ {β:Type} (f:Ev→β→β):List Ev→(Nat→Bool)→Nat→β→β
 | [],_,_,x=>x
 | ev :: es,D,i,x=>iJ f es D (i+1) (if D i=true then f ev x else x)
section
variable {β : Type} {f : Ev → β → β}
theorem jh:∀ (es:List Ev) (D D':Nat→Bool) (i:Nat) (x:β),(∀ j ev,es[j]?=some ev→D (i+j) ≠ D' (i+j)→∀ x,f ev x=x)→iJ f es D i x=iJ f es D' i x:=by
 intro es
 induction es with
 | nil=>intros;rfl
 | cons ev es ih =>
  intro D D' i x h
  have e:(if D i=true then f ev x else x)=(if D' i=true then f ev x else x):=by
   by_cases hd:D i=D' i
   ·rw [hd]
   ·rw [h 0 ev rfl hd x];simp
  rw [iJ,iJ,e];exact ih D D' (i+1) _ fun j ev' hj hd=>h (j+1) ev' hj (by rw [show i+(j+1)=i+1+j by omega];exact hd)
theorem qH (es:List Ev) (D:Nat→Bool) (i:Nat) (x:β) (h:∀ j ev,es[j]?=some ev→D (i+j)=true→∀ x,f ev x=x):iJ f es D i x=x:=by
 have:iJ f es D i x=iJ f es (fun _=>false) i x:=jh es _ _ i x fun j ev hj hd=>h j ev hj (by simpa using hd);rw [this];clear this h
 induction es generalizing i with
 | nil=>rfl
 | cons ev es ih=>rw [iJ];simpa using ih (i+1)
theorem Fy:∀ (es:List Ev) (D D':Nat→Bool) (i j:Nat) (ev:Ev) (x:β),es[j]?=some ev→D (i+j)=false→D' (i+j)=true→(∀ m,m ≠ i+j→D' m=D m) →
  (∀ m ev',j < m→es[m]?=some ev'→D (i+m)=true→∀ x,f ev' x=x)→iJ f es D' i x=f ev (iJ f es D i x):=by
 intro es
 induction es with
 | nil=>intro D D' i j ev x h;cases h
 | cons z es ih =>
  intro D D' i j ev x hj h1 h2 h3 h4
  cases j with
  | zero =>cases hj;rw [Nat.add_zero] at h1 h2;rw [iJ,iJ,h1,h2];simp only [if_true,Bool.false_eq_true,if_false];rw [qH es D (i+1) x fun m ev' hm hd=>h4 (m+1) ev' (by omega) hm (by rw [show i+(m+1)=i+1+m by omega];exact hd)];refine qH es D' (i+1) _ fun m ev' hm hd=>h4 (m+1) ev' (by omega) hm ?_;rw [show i+(m+1)=i+1+m by omega,←h3 _ (by omega)];exact hd
  | succ j =>rw [iJ,iJ,h3 i (by omega)];refine ih D D' (i+1) j ev _ hj (by rw [show i+1+j=i+(j+1) by omega];exact h1) (by rw [show i+1+j=i+(j+1) by omega];exact h2) (fun m hm=>h3 m (by omega)) fun m ev' hm hm' hd=>h4 (m+1) ev' (by omega) hm' ?_;rw [show i+(m+1)=i+1+m by omega];exact hd
theorem vY (es:List Ev) (D D':Nat→Bool) (i j:Nat) (ev:Ev) (x:β) (hj:es[j]?=some ev) (h3:∀ m,m ≠ i+j→D' m=D m) (hf:∀ x,f ev x=x):iJ f es D' i x=iJ f es D i x :=
 jh es D' D i x fun m ev' hm hd=>by
  by_cases hmj:m=j
  ·subst hmj;rw [hj] at hm;cases hm;exact hf
  ·exact absurd (h3 (i+m) (by omega)) hd
end
section
variable {T : bL} {rec : qW → Option (List gL)}
def qI (T:bL) (_rec:qW→Option (List gL)) (ops:Array Oper) (i:Nat) (ev:Ev):Prop :=
 (bX ops.toList ev.st.fr ev.o.guard=false∧ev.v=undef∧ev.hp=ev.st.hp∧ev.t=⟨i,[],[],false,ev.st.hp.n,ev.st.hp.n⟩) ∨
 (bX ops.toList ev.st.fr ev.o.guard=true∧∃ rec',bE rec'∧bu T rec' ev.o.op i ev.st=some (ev.v,ev.hp,ev.t))
def RE (T:bL) (rec:qW→Option (List gL)) (ops:Array Oper) (i:Nat) (ev:Ev):Prop:=bX ops.toList ev.st.fr ev.o.guard=true→bu T rec ev.o.op i ev.st=some (ev.v,ev.hp,ev.t)
noncomputable def Ev.after (ev:Ev):St:=⟨fC ev.st.fr ev.o.dst ev.v,ev.hp,ev.st.rd⟩
def dG (T:bL) (rec:qW→Option (List gL)) (ops:Array Oper):List Ev→Nat→St→St→Prop
 | [],_,st,st'=>st'=st
 | ev :: es,i,st,st'=>ev.st=st∧qI T rec ops i ev∧dG T rec ops es (i+1) ev.after st'
theorem vZ (hK:bE rec) (ops:Array Oper):∀ (l:List Oper) (i:Nat) (st:St) (acc:List Ev) (L:List St),cg T rec ops l i st acc=some L →
  ∃ es st',L=[st']∧dG T rec ops es i st st'∧es.map (·.o)=l∧dX T ops (es.reverse++acc)=true∧∀ j ev,es[j]?=some ev→RE T rec ops (i+j) ev:=by
 intro l
 induction l with
 | nil =>
  intro i st acc L h;rw [eK] at h
  cases hc:dX T ops acc with
  | false=>rw [hc] at h;cases h
  | true=>rw [hc] at h;simp at h;exact ⟨[],st,h.symm,rfl,rfl,hc,fun j ev hj=>by cases hj⟩
 | cons o l ih =>
  intro i st acc L h;rw [bW] at h
  cases hg:bX ops.toList st.fr o.guard with
  | false =>
   rw [hg] at h;simp only [cond_false] at h;obtain ⟨es,st',h1,h2,h3,h4,h5⟩:=ih _ _ _ _ h;refine ⟨⟨o,st,undef,st.hp,⟨i,[],[],false,st.hp.n,st.hp.n⟩⟩ :: es,st',h1,⟨rfl,.inl ⟨hg,rfl,rfl,rfl⟩,h2⟩,by simp [h3],by simpa using h4,fun j ev hj=>?_⟩
   cases j with
   | zero=>cases hj;intro hg';rw [hg] at hg';cases hg'
   | succ j=>rw [show i+(j+1)=i+1+j by omega];exact h5 j ev hj
  | true =>
   rw [hg] at h;simp only [cond_true] at h
   cases hd:bu T rec o.op i st with
   | none=>rw [hd] at h;cases h
   | some p =>
    obtain ⟨v,hp,t⟩:=p;rw [hd] at h;obtain ⟨es,st',h1,h2,h3,h4,h5⟩:=ih _ _ _ _ h;refine ⟨⟨o,st,v,hp,t⟩ :: es,st',h1,⟨rfl,.inr ⟨hg,rec,hK,hd⟩,h2⟩,by simp [h3],by simpa using h4,fun j ev hj=>?_⟩
    cases j with
    | zero=>cases hj;exact fun _=>hd
    | succ j=>rw [show i+(j+1)=i+1+j by omega];exact h5 j ev hj
theorem u7 (hK:bE rec) (ops:Array Oper) (K:St→List Ev→Option (List St)):∀ (l:List Oper) (i:Nat) (st:St) (acc:List Ev) (L:List St),gz T rec ops l K i st acc=some L →
  ∃ es st',K st' (es.reverse++acc)=some L∧dG T rec ops es i st st'∧es.map (·.o)=l∧dZ st.hp st'.hp∧∀ j ev,es[j]?=some ev→RE T rec ops (i+j) ev:=by
 intro l
 induction l with
 | nil =>intro i st acc L h;exact ⟨[],st,h,rfl,rfl,.refl _,fun j ev hj=>by cases hj⟩
 | cons o l ih =>
  intro i st acc L h;rw [iI] at h
  cases hg:bX ops.toList st.fr o.guard with
  | false =>
   rw [hg] at h;simp only [cond_false] at h;obtain ⟨es,st',h1,h2,h3,hkk,h5⟩:=ih _ _ _ _ h;refine ⟨⟨o,st,undef,st.hp,⟨i,[],[],false,st.hp.n,st.hp.n⟩⟩ :: es,st',by simpa using h1,⟨rfl,.inl ⟨hg,rfl,rfl,rfl⟩,h2⟩,by simp [h3],hkk,fun j ev hj=>?_⟩
   cases j with
   | zero=>cases hj;intro hg';rw [hg] at hg';cases hg'
   | succ j=>rw [show i+(j+1)=i+1+j by omega];exact h5 j ev hj
  | true =>
   rw [hg] at h;simp only [cond_true] at h
   cases hd:bu T rec o.op i st with
   | none=>rw [hd] at h;cases h
   | some p =>
    obtain ⟨v,hp,t⟩:=p;rw [hd] at h;obtain ⟨es,st',h1,h2,h3,hkk,h5⟩:=ih _ _ _ _ h;refine ⟨⟨o,st,v,hp,t⟩ :: es,st',by simpa using h1,⟨rfl,.inr ⟨hg,rec,hK,hd⟩,h2⟩,by simp [h3],(lf hK hd).trans hkk,fun j ev hj=>?_⟩
    cases j with
    | zero=>cases hj;exact fun _=>hd
    | succ j=>rw [show i+(j+1)=i+1+j by omega];exact h5 j ev hj
noncomputable def nX (o:Nat) (vs:List Value) (x:Option bf):Option bf :=
 match x with
 | some (.cells cs own es)=>if o+vs.length≤cs.length then some (.cells (splice cs vs o) own es) else x
 | _=>x
noncomputable def Ev.at (k:Nat) (ev:Ev) (x:Option bf):Option bf:=if k ∈ ev.t.wr∨(ev.t.a≤k∧k < ev.t.b) then (match kX ev with|some (_,o,vs)=>nX o vs x|none=>ev.hp.get k) else x
def Ev.tm (t:Tmp) (ev:Ev) (x:Option Value):Option Value:=if ev.o.dst=some t then some ev.v else x
theorem qI.facts {ops:Array Oper} {i:Nat} {ev:Ev} (h:qI T rec ops i ev) (_hK:bE rec) (hw:Wf ev.st.hp) :
  ev.t.idx=i∧ev.t.a=ev.st.hp.n∧ev.t.b=ev.hp.n∧ev.st.hp.n≤ev.hp.n∧Wf ev.hp∧∀ k,k ∉ ev.t.wr→¬ (ev.t.a≤k∧k < ev.t.b)→ev.hp.get k=ev.st.hp.get k:=by
 rcases h with ⟨_,_,h2,h3⟩|⟨_,rec',hK,h⟩
 ·rw [h3,h2];exact ⟨rfl,rfl,rfl,qq6 _,hw,fun _ _ _=>rfl⟩
 ·have hk:=lf hK h;refine ⟨?_,?_,?_,hk.n,hk.wf hw,?_⟩;all_goals (unfold bu at h;split at h)
  ·split at h
   ·split at h
    ·rename_i v' hp' hj;have e:=Option.some.inj h;simp only [kB,Prod.mk.injEq] at e;rw [←e.2.2]
    ·cases h
   ·cases h
  ·cases h
  ·split at h
   ·simp only [qq9,Prod.mk.injEq] at h;rw [←h.2.2]
   ·cases h
  ·split at h
   ·split at h
    ·rename_i v' hp' hj;have e:=Option.some.inj h;simp only [kB,Prod.mk.injEq] at e;rw [←e.2.2]
    ·cases h
   ·cases h
  ·cases h
  ·split at h
   ·simp only [qq9,Prod.mk.injEq] at h;rw [←h.2.2]
   ·cases h
  ·split at h
   ·split at h
    ·rename_i v' hp' hj;have e:=Option.some.inj h;simp only [kB,Prod.mk.injEq] at e;rw [←e.2.2,←e.2.1]
    ·cases h
   ·cases h
  ·cases h
  ·split at h
   ·simp only [qq9,Prod.mk.injEq] at h;rw [←h.2.2,←h.2.1]
   ·cases h
  ·split at h
   ·rename_i g _;split at h
    ·rename_i v' hp' hj;have e:=Option.some.inj h;simp only [kB,Prod.mk.injEq] at e
     ·have hkk:=hK _ _ hj;rw [rJ] at hkk;have hkk:=hkk.2 _ (List.mem_singleton.2 rfl);intro k hwr hnr;rw [←e.2.2] at hnr hwr;rw [←e.2.1];simp only at hnr hwr;by_cases hlt:k < ev.st.hp.n
      ·exact hkk.same k hlt (MG hwr hlt)
      ·have e1:hp'.get k=none:=hkk.wf hw k (show hp'.n≤k by omega);have e2:ev.st.hp.get k=none:=hw k (by omega);rw [e2];exact e1
    ·cases h
   ·cases h
  ·cases h
  ·split at h
   ·rename_i r wr v' e htch hop;simp only [qq9,Prod.mk.injEq] at h;intro k hwr hnr;rw [←h.2.2] at hwr hnr;rw [←h.2.1];simp only at hwr hnr;obtain ⟨q1,q2⟩:=vQ htch;have hin:=(rH hop).2 q1;rw [q2] at hin
    cases e with
    | none=>rfl
    | new b=>rw [show ev.st.hp.app (.new b)=ev.st.hp.push b from rfl,Hp.fh,if_neg (fun e=>hnr ⟨by omega,by rw [qg];simp [cv.news];omega⟩)]
    | put k' b=>rw [show ev.st.hp.app (.put k' b)=ev.st.hp.put k' b from rfl,Hp.ju,if_neg (fun e=>hwr (by rw [e];exact hin))]
    | app k' b =>
     rw [show ev.st.hp.app (.app k' b)=(ev.st.hp.put k' .dead).push b from rfl,Hp.fh,if_neg (fun e=>hnr ⟨by
      have:(ev.st.hp.put k' .dead).n=ev.st.hp.n:=rfl
      omega,by
      have:(ev.st.hp.put k' .dead).n=ev.st.hp.n:=rfl
      rw [qg];simp [cv.news];omega⟩),Hp.ju,if_neg (fun e=>hwr (by rw [e];exact hin))]
   ·cases h
theorem pH {ev:Ev} {k o:Nat} {vs:List Value} (h:kX ev=some (k,o,vs)):∃ t a x,ev.o.op=.store t a x∧aQ ev.st.fr a=.pointer (some ⟨k,o,none⟩)∧vs=(aQ ev.st.fr x).cells.toList:=by
 unfold kX at h;split at h
 ·rename_i t a x hop;split at h
  ·rename_i k' o' he;cases h;exact ⟨t,a,x,hop,he,rfl⟩
  ·cases h
 ·cases h
theorem oG {t:TypeId} {k o:Nat} {v y:Value} {g:aG} {e:cv} (h:eB T t (.pointer (some ⟨k,o,none⟩)) v g=some (y,e)) :
  y=undef∧∃ cs es,g k=some (.cells cs true es)∧o+v.cells.toList.length≤cs.length∧e=.put k (.cells (splice cs v.cells.toList o) true es) ∧
   ∀ (g':aG) (cs':List Value),g' k=some (.cells cs' true es)→cs'.length=cs.length→eB T t (.pointer (some ⟨k,o,none⟩)) v g'=some (undef,.put k (.cells (splice cs' v.cells.toList o) true es)):=by
 unfold eB at h;have ha:addr? (.pointer (some ⟨k,o,none⟩))=some (k,o):=rfl;rw [ha] at h;simp only at h;split at h
 ·rename_i cs own es u s by' z ag fl es' hc ht
  have hg:g k=some (.cells cs own es):=by
   revert hc
   cases hgk:g k with
   | none=>intro hc;cases hc
   | some b=>cases b <;> intro hc <;> first|(cases hc;rfl)|cases hc
  cases hb:(own && Nat.beq v.cells.toList.length s && Nat.ble (o+s) cs.length && v.cells.toList.all bH) with
  | false=>rw [hb] at h;cases h
  | true =>
   rw [hb] at h;cases h;have hb0:=hb;simp only [qq7] at hb;obtain ⟨⟨⟨rfl,h2⟩,h3⟩,h4⟩:=hb;have h2:=Nat.eq_of_beq_eq_true h2;have h3:=Nat.le_of_ble_eq_true h3;refine ⟨rfl,cs,es,hg,by omega,rfl,fun g' cs' hg' hl=>?_⟩;have hc':cells? (g' k)=some (cs',true,es):=by rw [hg'];rfl
   unfold eB;simp only [ha,hc',ht,hl,hb0,cond_true]
 ·cases h
theorem qI.store {ops:Array Oper} {i:Nat} {ev:Ev} (h:qI T rec ops i ev) {k o:Nat} {vs:List Value} (hs:kX ev=some (k,o,vs)):ev.t.call=false∧ev.t.rd=[]∧ev.t.a=ev.t.b∧∀ q ∈ ev.t.wr,q=k:=by
 obtain ⟨t,a,x,hop,ha,rfl⟩:=pH hs
 rcases h with ⟨_,_,h2,h3⟩|⟨_,rec',hK',h⟩
 ·rw [h3];exact ⟨rfl,rfl,rfl,fun q hq=>by cases hq⟩
 ·unfold bu at h;have hkd:dF ev.o.op=.plain:=by rw [hop];rfl
  rw [hkd,hop] at h;simp only [iX] at h;have hopA:iU T ev.st.hp.n (.store t a x) (aQ ev.st.fr) ev.st.hp.get=eB T t (aQ ev.st.fr a) (aQ ev.st.fr x) ev.st.hp.get:=rfl;rw [hopA,ha] at h
  cases hst:eB T t (.pointer (some ⟨k,o,none⟩)) (aQ ev.st.fr x) ev.st.hp.get with
  | none=>rw [hst] at h;cases h
  | some p =>obtain ⟨y,e⟩:=p;rw [hst] at h;obtain ⟨_,cs,es,hg,hle,rfl,_⟩:=oG hst;simp only [qq9,Prod.mk.injEq] at h;obtain ⟨_,h2,h3⟩:=h;rw [←h3];exact ⟨rfl,rfl,rfl,fun q hq=>by simpa [cB] using hq⟩
theorem nk {ev:Ev} {k o n:Nat} (h:mw T ev=some (k,o,n)):(∃ vs,kX ev=some (k,o,vs)∧vs.length=n) ∨
  (kX ev=none∧∃ t a u s by' z agg fl es,ev.o.op=.load t a∧aQ ev.st.fr a=.pointer (some ⟨k,o,none⟩)∧T.ty.get t=some ⟨u,s,by',z,agg,fl,es⟩∧n=bif agg then s else 1):=by
 unfold mw at h;split at h
 ·rename_i t a x hop;split at h
  ·rename_i k' o' ha;cases h;refine .inl ⟨(aQ ev.st.fr x).cells.toList,?_,rfl⟩;unfold kX;rw [hop];simp only [ha]
  ·cases h
 ·rename_i t a hop;split at h
  ·rename_i k' o' u s b z agg fl es ha ht;cases h;refine .inr ⟨?_,t,a,u,s,b,z,agg,fl,es,hop,ha,ht,rfl⟩;unfold kX;rw [hop]
  ·cases h
 ·cases h
theorem D5 {t:TypeId} {k o s b' es:Nat} {u:TypeDesc} {z:Option Value} {agg:Bool} {fl:List (Nat × Nat)} {g:aG} {v:Value} {e:cv} (ht:T.ty.get t=some ⟨u,s,b',z,agg,fl,es⟩) (h:eV T t (.pointer (some ⟨k,o,none⟩)) g=some (v,e)) :
  e=.none∧∃ cs own e2,g k=some (.cells cs own e2)∧∀ (g':aG) (cs':List Value),g' k=some (.cells cs' own e2)→cs'.length=cs.length→(∀ i,o≤i→i < o+(bif agg then s else 1)→cs'[i]?=cs[i]?)→eV T t (.pointer (some ⟨k,o,none⟩)) g'=some (v,.none):=by
 unfold eV at h;have ha:addr? (.pointer (some ⟨k,o,none⟩))=some (k,o):=rfl;simp only [ha,ht] at h
 cases hc:cells? (g k) with
 | none=>rw [hc] at h;cases h
 | some p =>
  obtain ⟨cs,own,e2⟩:=p;rw [hc] at h;simp only at h
  have hg:g k=some (.cells cs own e2):=by
   revert hc
   cases hgk:g k with
   | none=>intro hc;cases hc
   | some b=>cases b <;> intro hc <;> first|(cases hc;rfl)|cases hc
  have he:e=.none:=by
   cases agg with
   | true =>simp only [cond_true,Option.map_eq_some_iff,Prod.mk.injEq] at h;obtain ⟨_,_,_,rfl⟩:=h;rfl
   | false =>simp only [cond_false,Option.map_eq_some_iff,Prod.mk.injEq] at h;obtain ⟨_,_,_,rfl⟩:=h;rfl
  subst he;refine ⟨rfl,cs,own,e2,hg,fun g' cs' hg' hl hag=>?_⟩;have hc':cells? (g' k)=some (cs',own,e2):=by rw [hg'];rfl
  unfold eV;simp only [ha,hc',ht];rw [←h]
  cases agg with
  | true =>
   simp only [cond_true] at hag ⊢
   congr 1
   unfold cut;rw [hl]
   cases hb:Nat.ble (o+s) cs.length with
   | false=>rfl
   | true =>
    have hb:=Nat.le_of_ble_eq_true hb;show some _=some _
    congr 1
    apply List.ext_getElem?;intro i;by_cases hi:i < s
    ·rw [List.getElem?_take_of_lt hi,List.getElem?_take_of_lt hi,List.getElem?_drop,List.getElem?_drop];exact hag (o+i) (by omega) (by omega)
    ·rw [List.getElem?_eq_none (by rw [List.length_take];omega),List.getElem?_eq_none (by rw [List.length_take];omega)]
  | false =>simp only [cond_false] at hag ⊢;rw [hag o (qq6 _) (by omega)]
theorem qI.GO {ops:Array Oper} {i:Nat} {ev:Ev} (h:qI T rec ops i ev) {t:TypeId} {a:Operand} (hop:ev.o.op=.load t a):ev.t.call=false:=by
 rcases h with ⟨_,_,h2,h3⟩|⟨_,rec',hK',h⟩
 ·rw [h3]
 ·unfold bu at h;have hkd:dF ev.o.op=.plain:=by rw [hop];rfl
  rw [hkd] at h;simp only at h;split at h
  ·simp only [qq9,Prod.mk.injEq] at h;rw [←h.2.2]
  ·cases h
theorem qI.load {ops : Array Oper} {i : Nat} {ev : Ev} (h : qI T rec ops i ev) {t : TypeId} {a : Operand} (hop : ev.o.op = .load t a) : ev.t.wr = [] ∧ ev.t.a = ev.t.b := by
  rcases h with ⟨_, _, h2, h3⟩ | ⟨_, rec', hK', h⟩
  · rw [h3]; exact ⟨rfl, rfl⟩
  · unfold bu at h;have hkd : dF ev.o.op = .plain := by rw [hop]; rfl
    rw [hkd, hop] at h;simp only [iX] at h;have hopA : iU T ev.st.hp.n (.load t a) (aQ ev.st.fr) ev.st.hp.get = eV T t (aQ ev.st.fr a) ev.st.hp.get := rfl;rw [hopA] at h
    cases hst : eV T t (aQ ev.st.fr a) ev.st.hp.get with
    | none => rw [hst] at h; cases h
    | some p =>
      obtain ⟨y, e⟩ := p;rw [hst] at h;simp only [qq9, Prod.mk.injEq] at h;obtain ⟨_, h2, h3⟩ := h
      have he : e = .none := by
        unfold eV at hst;split at hst
        · split at hst
          · rename_i agg _ _ _ _ _;revert hst;intro hst
            first
              | (rw [cond_eq_ite] at hst
                 split at hst
                 · simp only [Option.map_eq_some_iff, Prod.mk.injEq] at hst; obtain ⟨_, _, _, rfl⟩ := hst; rfl
                 · simp only [Option.map_eq_some_iff, Prod.mk.injEq] at hst; obtain ⟨_, _, _, rfl⟩ := hst; rfl)
          · cases hst
        · cases hst
      subst he;rw [← h3];exact ⟨rfl, rfl⟩
theorem qI.Au {ops:Array Oper} {i:Nat} {ev:Ev} (h:qI T rec ops i ev) (hK:bE rec) (hw:Wf ev.st.hp) (k:Nat):ev.at k (ev.st.hp.get k)=ev.hp.get k:=by
 obtain ⟨f1,f2,f3,f4,f5,f6⟩:=h.facts hK hw;unfold Ev.at;split
 ·rename_i hk
  cases hs:kX ev with
  | none=>rfl
  | some q =>
   obtain ⟨k0,o,vs⟩:=q;obtain ⟨t,a,x,hop,ha,rfl⟩:=pH hs
   rcases h with ⟨_,_,h2,h3⟩|⟨_,rec',hK',h⟩
   ·rw [h3] at hk
    rcases hk with hk|hk
    ·cases hk
    ·simp only at hk;omega
   ·unfold bu at h;have hkd:dF ev.o.op=.plain:=by rw [hop];rfl
    rw [hkd,hop] at h;simp only [iX] at h;have hopA:iU T ev.st.hp.n (.store t a x) (aQ ev.st.fr) ev.st.hp.get=eB T t (aQ ev.st.fr a) (aQ ev.st.fr x) ev.st.hp.get:=rfl;rw [hopA,ha] at h
    cases hst:eB T t (.pointer (some ⟨k0,o,none⟩)) (aQ ev.st.fr x) ev.st.hp.get with
    | none=>rw [hst] at h;cases h
    | some p =>
     obtain ⟨y,e⟩:=p;rw [hst] at h;obtain ⟨_,cs,es,hg,hle,rfl,_⟩:=oG hst;simp only [qq9,Prod.mk.injEq] at h;obtain ⟨_,h2,h3⟩:=h
     have hk0:k=k0:=by
      rw [←h3] at hk
      rcases hk with hk|hk
      ·simpa [cB] using hk
      ·have e1:(ev.st.hp.app (.put k0 (.cells (splice cs (aQ ev.st.fr x).cells.toList o) true es))).n=ev.st.hp.n:=rfl;simp only [e1] at hk;omega
     subst hk0;rw [←h2];show nX o _ _=(ev.st.hp.put k _).get k;rw [Hp.ju,if_pos rfl,hg];show (if _ then _ else _)=_;rw [if_pos hle]
 ·rename_i hn;exact (f6 k (fun h=>hn (.inl h)) (fun h=>hn (.inr h))).symm
theorem dG.get {ops:Array Oper} (hK:bE rec):∀ {es:List Ev} {i:Nat} {st st':St},dG T rec ops es i st st'→Wf st.hp→∀ (j:Nat) (ev:Ev),es[j]?=some ev →
  qI T rec ops (i+j) ev∧Wf ev.st.hp∧st.hp.n≤ev.st.hp.n∧ev.hp.n≤st'.hp.n∧ev.st.rd=st.rd ∧
   (∀ k,ev.st.hp.get k=iJ (Ev.at k) es (fun m=>decide (m < i+j)) i (st.hp.get k))∧(∀ t,ev.st.fr.get t=iJ (Ev.tm t) es (fun m=>decide (m < i+j)) i (st.fr.get t)):=by
 intro es
 induction es with
 | nil=>intro i st st' _ _ j ev h;cases h
 | cons z es ih =>
  intro i st st' hc hw j ev hj;obtain ⟨rfl,h2,h3⟩:=hc;obtain ⟨f1,f2,f3,f4,f5,f6⟩:=h2.facts hK hw
  have hn':∀ {es:List Ev} {i:Nat} {st st':St},dG T rec ops es i st st'→Wf st.hp→st.hp.n≤st'.hp.n:=by
   intro es
   induction es with
   | nil=>intro i st st' h _;rw [show st'=st from h];exact qq6 _
   | cons z es ih =>intro i st st' h hw;obtain ⟨rfl,h2,h3⟩:=h;obtain ⟨_,_,_,q4,q5,_⟩:=h2.facts hK hw;exact Nat.le_trans q4 (ih h3 q5)
  cases j with
  | zero =>
   cases hj;refine ⟨h2,hw,qq6 _,hn' h3 f5,rfl,fun k=>?_,fun t=>?_⟩
   ·exact (qH _ _ _ _ fun m ev' hm hd=>by have:=of_decide_eq_true hd;omega).symm
   ·exact (qH _ _ _ _ fun m ev' hm hd=>by have:=of_decide_eq_true hd;omega).symm
  | succ j =>
   obtain ⟨g1,g2,g3,g4,g5,g6,g7⟩:=ih h3 f5 j ev hj;rw [show i+1+j=i+(j+1) by omega] at g1 g6 g7;refine ⟨g1,g2,Nat.le_trans f4 g3,g4,g5,fun k=>?_,fun t=>?_⟩
   ·rw [g6 k,iJ];have:decide (i < i+(j+1))=true:=by simp
    rw [if_pos this]
    congr 1
    exact (h2.Au hK hw k).symm
   ·rw [g7 t,iJ];have:decide (i < i+(j+1))=true:=by simp
    rw [if_pos this]
    congr 1
    show (fC z.st.fr z.o.dst z.v).get t=z.tm t (z.st.fr.get t);unfold Ev.tm fC
    cases z.o.dst with
    | none=>rfl
    | some d =>
     rw [Tr.iG];by_cases htd:t=d
     ·subst htd;simp
     ·rw [if_neg htd,if_neg (fun e=>htd (by cases e;rfl))]
theorem dG.last {ops:Array Oper} (hK:bE rec):∀ {es:List Ev} {i:Nat} {st st':St},dG T rec ops es i st st'→Wf st.hp→∀ (D:Nat→Bool),(∀ j,j < es.length→D (i+j)=true) →
  (∀ k,st'.hp.get k=iJ (Ev.at k) es D i (st.hp.get k))∧(∀ t,st'.fr.get t=iJ (Ev.tm t) es D i (st.fr.get t))∧st'.rd=st.rd∧st.hp.n≤st'.hp.n∧Wf st'.hp:=by
 intro es
 induction es with
 | nil=>intro i st st' h hw D _;rw [show st'=st from h];exact ⟨fun _=>rfl,fun _=>rfl,rfl,qq6 _,hw⟩
 | cons z es ih =>
  intro i st st' hc hw D hD;obtain ⟨rfl,h2,h3⟩:=hc;obtain ⟨f1,f2,f3,f4,f5,f6⟩:=h2.facts hK hw;obtain ⟨g1,g2,g3,g4,g5⟩:=ih h3 f5 D fun j hj=>by rw [show i+1+j=i+(j+1) by omega];exact hD (j+1) (by simp;omega)
  have h0:D i=true:=hD 0 (by simp);refine ⟨fun k=>?_,fun t=>?_,g3,Nat.le_trans f4 g4,g5⟩
  ·rw [g1 k,iJ,if_pos h0]
   congr 1
   exact (h2.Au hK hw k).symm
  ·rw [g2 t,iJ,if_pos h0]
   congr 1
   show (fC z.st.fr z.o.dst z.v).get t=z.tm t (z.st.fr.get t);unfold Ev.tm fC
   cases z.o.dst with
   | none=>rfl
   | some d =>
    rw [Tr.iG];by_cases htd:t=d
    ·subst htd;simp
    ·rw [if_neg htd,if_neg (fun e=>htd (by cases e;rfl))]
theorem dG.mono {ops:Array Oper} (hK:bE rec):∀ {es:List Ev} {i:Nat} {st st':St},dG T rec ops es i st st'→Wf st.hp→∀ (j m:Nat) (ev ev':Ev),j < m→es[j]?=some ev→es[m]?=some ev'→ev.hp.n≤ev'.st.hp.n:=by
 intro es
 induction es with
 | nil=>intro i st st' _ _ j m ev ev' _ h;cases h
 | cons z es ih =>
  intro i st st' hc hw j m ev ev' hjm hj hm;obtain ⟨rfl,h2,h3⟩:=hc;obtain ⟨f1,f2,f3,f4,f5,f6⟩:=h2.facts hK hw
  cases m with
  | zero=>omega
  | succ m =>
   cases j with
   | zero =>cases hj;exact (dG.get hK h3 f5 m ev' hm).2.2.1
   | succ j=>exact ih h3 f5 j m ev ev' (by omega) hj hm
end
section
variable {T : bL} {rec : qW → Option (List gL)} {m : Nat}
theorem Ih (hS:cO T rec m) {γ:Gm} {w:World} {a:Act} {rd:Option Nat} {o:Oper} (hnd:∀ c,o.op ≠ .defer c) {vf vf':Value} {vs args':List Value}
  {g:Goal} {H:Hp} {R:List gL} {N:Nat} (hg:dD vf vs=some g) (hr:rec (jB H g)=some R) (hw:Wf H) (hh:HR γ H.get w) (hf:fy γ H.n N) (hN:∀ r ∈ R,r.hp.n≤N)
  (hv:VR γ vf vf') (ha:cy γ vs args') (hx:∀ d,(Deferred.ofValue vf' args'.toArray).run T.P w=.ok d w→(execOp a.eval o).run T.P w=(invoke d.target d.args).run T.P w) {next:Act→World→Prop} {Q:Exit→Act→World→Prop}
  (hback:∀ v w',tq γ H w R (.returned v) w'→next (a.put o.dst v) w'):o.wpIn (FW rd) 0 T.P a w next Q:=by
 have hd:∃ d,(Deferred.ofValue vf' args'.toArray).run T.P w=.ok d w:=by
  cases g with
  | fn f' as' =>obtain ⟨fs,cs,e,_⟩:=mB hg;rw [e] at hv;obtain ⟨fs',cs',e',_,_⟩:=hv.oF;rw [e'];exact ⟨_,rfl⟩
  | yield l as' =>obtain ⟨fs,cs,e,_⟩:=ni hg;rw [e] at hv;obtain ⟨_,b,e',_⟩:=hv.tu;rw [e'];exact ⟨_,rfl⟩
 obtain ⟨d,hd⟩:=hd
 have hback':∀ e w',tq γ H w R e w'→(match e with
   | .returned v=>next (a.put o.dst v) w'
   | .panicked chain=>Q (.panic chain) a w'
   | .outgrown=>LetsOut Q):=by
  intro e w' hR;have hR':=hR;obtain ⟨v,hp,v',γ',hm,he,hv',hs⟩:=hR;subst he;exact hback v' w' hR'
 refine ⟨fun _ _=>trivial,?_⟩;have he:o.semAt rd a.eval=execOp a.eval o:=Oper.semAt_plain (FW rd) _ _ hnd;show o.uponIn _ _ _ _ _ _ ((o.semAt rd a.eval).run T.P w);rw [he];have hx:=hx d hd;rw [hx]
 rcases vX hS hg hv ha hr hw hh hf hN hd with ⟨f',as',h1,h2⟩|⟨l,f',tm,asg,bd,h1,h2⟩
 ·rw [h1];refine ⟨fun h=>Bool.noConfusion h,?_⟩;exact CallsIn.mono (F:=FW none) h2 fun e w' he=>by have:=hback' e w' he;cases e <;> exact this
 ·rw [h1];refine ⟨fun h=>Bool.noConfusion h,?_⟩;exact RoundIn.mono (F:=FW none) h2 fun e w' he=>by have:=hback' e w' he;cases e <;> exact this
noncomputable def gD (es:List Ev) (st0:St) (D:Nat→Bool) (k:Nat):Option bf:=iJ (Ev.at k) es D 0 (st0.hp.get k)
noncomputable def fD (es:List Ev) (st0:St) (D:Nat→Bool) (t:Tmp):Option Value:=iJ (Ev.tm t) es D 0 (st0.fr.get t)
structure Ctx (T:bL) (rec:qW→Option (List gL)) (m:Nat) (ops:Array Oper) (es:List Ev) (st0 stF:St):Prop where
 hT:cE T
 hK:bE rec
 hS:cO T rec m
 ch:dG T rec ops es 0 st0 stF
 wf:Wf st0.hp
 os:es.map (·.o)=ops.toList.take es.length
 sep:∀ i j x y,i < j→ops.toList[i]?=some x→ops.toList[j]?=some y→x.apart ops y=true∨ord (oc ops) i j
 cnf:(∀ i j ev ev',i < j→es[i]?=some ev→es[j]?=some ev'→conflict ev.t ev'.t=true→ord (oc ops) i j∨spare T ev ev'=true)∨∀ i j ev ev',i < j→es[i]?=some ev→es[j]?=some ev'→conflict ev.t ev'.t=true→ord (oc ops) i j∨gX T ev ev'=true
structure Inv (es:List Ev) (st0 stF:St) (γ0:Gm) (w0:World) (a0:Act) (D:Nat→Bool) (γ:Gm) (a:Act) (w:World):Prop where
 le:γ0.Le γ
 out:∀ k,(k < st0.hp.n∨stF.hp.n≤k)→γ.loc k=γ0.loc k
 fresh:∀ j ev,es[j]?=some ev→D j=false→∀ k,ev.t.a≤k→k < ev.t.b→γ.loc k=none
 hr:HR γ (gD es st0 D) w
 iB:j7 γ0 st0.hp.get w0 γ (gD es st0 D) w
 tm:∀ t,VR γ ((fD es st0 D t).getD undef) (a.tmps.getD t undef)
 sz:a.tmps.size=a0.tmps.size
 df:a.defers=a0.defers
theorem eG {a b:List Nat}:meets a b=true ↔ ∃ k,k ∈ a∧k ∈ b:=by
 simp only [meets,List.any_eq_true];constructor
 ·rintro ⟨x,hx,y,hy,h⟩;obtain rfl:=Nat.eq_of_beq_eq_true h;exact ⟨x,hx,hy⟩
 ·rintro ⟨k,h1,h2⟩;exact ⟨k,h1,k,h2,Nat.beq_refl k⟩
theorem within_iff {a b:Nat} {l:List Nat}:within a b l=true ↔ ∃ k ∈ l,a≤k∧k < b:=by
 simp only [within,List.any_eq_true,qq7];constructor
 ·rintro ⟨k,h1,h2,h3⟩;exact ⟨k,h1,Nat.le_of_ble_eq_true h2,Nat.le_of_ble_eq_true h3⟩
 ·rintro ⟨k,h1,h2,h3⟩;exact ⟨k,h1,Nat.ble_eq_true_of_le h2,Nat.ble_eq_true_of_le h3⟩
def Ev.turns (ev:Ev) (k:Nat):Prop:=k ∈ ev.t.wr∨(ev.t.a≤k∧k < ev.t.b)
theorem Ev.qh {ev:Ev} {k:Nat} (h:¬ ev.turns k) (x:Option bf):ev.at k x=x:=if_neg h
theorem Ev.rP {ev:Ev} {k:Nat} (h:ev.turns k) (hs:kX ev=none) (x:Option bf):ev.at k x=ev.hp.get k:=by unfold Ev.at;rw [if_pos (show k ∈ ev.t.wr∨(ev.t.a≤k∧k < ev.t.b) from h),hs]
theorem Ev.iK {ev:Ev} {k k0 o:Nat} {vs:List Value} (h:ev.turns k) (hs:kX ev=some (k0,o,vs)) (x:Option bf):ev.at k x=nX o vs x:=by unfold Ev.at;rw [if_pos (show k ∈ ev.t.wr∨(ev.t.a≤k∧k < ev.t.b) from h),hs]
theorem iq {s t:Ev} (h:gX T s t=true):∃ k o n k' p m,mw T s=some (k,o,n)∧mw T t=some (k',p,m)∧(o+n≤p∨p+m≤o):=by
 unfold gX at h;split at h
 ·rename_i k o n k' p m h1 h2;simp only [Bool.or_eq_true] at h;exact ⟨k,o,n,k',p,m,h1,h2,h.imp Nat.le_of_ble_eq_true Nat.le_of_ble_eq_true⟩
 ·cases h
theorem y4 {s t:Ev} (h:gX T s t=true) (hn:mw T s=none∨mw T t=none):False:=by
 obtain ⟨k,o,v,k',p,w,h1,h2,_⟩:=iq h
 rcases hn with hn|hn
 ·rw [hn] at h1;cases h1
 ·rw [hn] at h2;cases h2
def Ci (x y:Option bf):Prop:=x=y∨∃ cs cs' own es,x=some (.cells cs own es)∧y=some (.cells cs' own es)∧cs.length=cs'.length
theorem Ci.refl (x:Option bf):Ci x x:=.inl rfl
theorem ee {cs vs:List Value} {o:Nat} (h:o+vs.length≤cs.length):(splice cs vs o).length=cs.length:=by unfold splice;simp only [List.length_append,List.length_take,List.length_drop];omega
theorem Ci.nX {x y:Option bf} (h:Ci x y) (o:Nat) (vs:List Value):Ci (nX o vs x) (nX o vs y):=by
 rcases h with rfl|⟨cs,cs',own,es,rfl,rfl,hl⟩
 ·exact .inl rfl
 ·show Ci (if _ then _ else _) (if _ then _ else _);rw [hl];split
  ·rename_i hle;exact .inr ⟨_,_,own,es,rfl,rfl,by rw [ee (by omega),ee hle,hl]⟩
  ·exact .inr ⟨cs,cs',own,es,rfl,rfl,hl⟩
theorem Ci.on {x y:Option bf} (h:Ci x y) (o:Nat) (vs:List Value):Ci (RM.nX o vs x) y:=by
 rcases h with rfl|⟨cs,cs',own,es,rfl,rfl,hl⟩
 ·cases x with
  | none=>exact .inl rfl
  | some b =>
   cases b with
   | cells cs own es =>
    show Ci (if _ then _ else _) _;split
    ·rename_i hle;exact .inr ⟨_,_,own,es,rfl,rfl,ee hle⟩
    ·exact .inl rfl
   | _=>exact .inl rfl
 ·show Ci (if _ then _ else _) _;split
  ·rename_i hle;exact .inr ⟨_,_,own,es,rfl,rfl,by rw [ee hle,hl]⟩
  ·exact .inr ⟨cs,cs',own,es,rfl,rfl,hl⟩
theorem Ci.symm {x y:Option bf} (h:Ci x y):Ci y x:=by
 rcases h with rfl|⟨cs,cs',own,es,rfl,rfl,hl⟩
 ·exact .inl rfl
 ·exact .inr ⟨cs',cs,own,es,rfl,rfl,hl.symm⟩
theorem qJ (cs vs:List Value) (o i:Nat) (hl:o+vs.length≤cs.length):(splice cs vs o)[i]?=if i < o then cs[i]? else if i < o+vs.length then vs[i - o]? else cs[i]?:=by
 unfold splice;have e1:(cs.take o).length=o:=by rw [List.length_take];omega
 by_cases h1:i < o
 ·rw [if_pos h1,List.append_assoc,List.getElem?_append_left (by omega),List.getElem?_take_of_lt h1]
 ·rw [if_neg h1];by_cases h2:i < o+vs.length
  ·rw [if_pos h2,List.getElem?_append_left (by simp only [List.length_append,e1];omega),List.getElem?_append_right (by omega),e1]
  ·rw [if_neg h2,List.getElem?_append_right (by simp only [List.length_append,e1];omega),List.getElem?_drop];simp only [List.length_append,e1]
   congr 1
   omega
def D6 (o n:Nat) (x y:Option bf):Prop:=x=y∨∃ cs cs' own es,x=some (.cells cs own es)∧y=some (.cells cs' own es)∧cs.length=cs'.length∧∀ i,o≤i→i < o+n→cs[i]?=cs'[i]?
theorem D6.symm {o n:Nat} {x y:Option bf} (h:D6 o n x y):D6 o n y x:=by
 rcases h with rfl|⟨cs,cs',own,es,rfl,rfl,hl,hi⟩
 ·exact .inl rfl
 ·exact .inr ⟨cs',cs,own,es,rfl,rfl,hl.symm,fun i h1 h2=>(hi i h1 h2).symm⟩
theorem D6.both {o n:Nat} {x y:Option bf} (h:D6 o n x y) (p:Nat) (vs:List Value):D6 o n (nX p vs x) (nX p vs y):=by
 rcases h with rfl|⟨cs,cs',own,es,rfl,rfl,hl,hi⟩
 ·exact .inl rfl
 ·show D6 o n (if _ then _ else _) (if _ then _ else _);rw [hl];split
  ·rename_i hle;refine .inr ⟨_,_,own,es,rfl,rfl,by rw [ee (by omega),ee hle,hl],fun i h1 h2=>?_⟩;rw [qJ _ _ _ _ (by omega),qJ _ _ _ _ hle,hi i h1 h2]
  ·exact .inr ⟨cs,cs',own,es,rfl,rfl,hl,hi⟩
theorem D6.on {o n:Nat} {x y:Option bf} (h:D6 o n x y) {p:Nat} {vs:List Value} (hd:p+vs.length≤o∨o+n≤p):D6 o n (nX p vs x) y:=by
 have self:∀ x,D6 o n (nX p vs x) x:=by
  intro x
  cases x with
  | none=>exact .inl rfl
  | some b =>
   cases b with
   | cells cs own es =>
    show D6 o n (if _ then _ else _) _;split
    ·rename_i hle;refine .inr ⟨_,_,own,es,rfl,rfl,ee hle,fun i h1 h2=>?_⟩;rw [qJ _ _ _ _ hle];by_cases h3:i < p
     ·rw [if_pos h3]
     ·rw [if_neg h3,if_neg (by omega)]
    ·exact .inl rfl
   | _=>exact .inl rfl
 rcases h with rfl|⟨cs,cs',own,es,rfl,rfl,hl,hi⟩
 ·exact self x
 ·rcases self (some (.cells cs own es)) with e|⟨c1,c2,ow,e2,h1,h2,h3,h4⟩
  ·rw [e];exact .inr ⟨cs,cs',own,es,rfl,rfl,hl,hi⟩
  ·cases h2;rw [h1];exact .inr ⟨c1,cs',own,es,rfl,rfl,h3.trans hl,fun i a b=>(h4 i a b).trans (hi i a b)⟩
theorem Cj {cs v w:List Value} {o p:Nat} (h:o+v.length≤p) (hb:p+w.length≤cs.length):splice (splice cs v o) w p=splice (splice cs w p) v o:=by
 have get:∀ (cs vs:List Value) (o i:Nat),o+vs.length≤cs.length→(splice cs vs o)[i]?=if i < o then cs[i]? else if i < o+vs.length then vs[i - o]? else cs[i]?:=by
  intro cs vs o i hl;unfold splice;have e1:(cs.take o).length=o:=by rw [List.length_take];omega
  by_cases h1:i < o
  ·rw [if_pos h1,List.append_assoc,List.getElem?_append_left (by omega),List.getElem?_take_of_lt h1]
  ·rw [if_neg h1];by_cases h2:i < o+vs.length
   ·rw [if_pos h2,List.getElem?_append_left (by simp only [List.length_append,e1];omega),List.getElem?_append_right (by omega),e1]
   ·rw [if_neg h2,List.getElem?_append_right (by simp only [List.length_append,e1];omega),List.getElem?_drop];simp only [List.length_append,e1]
    congr 1
    omega
 apply List.ext_getElem?;intro i;have l1:(splice cs v o).length=cs.length:=ee (by omega);have l2:(splice cs w p).length=cs.length:=ee hb;rw [get (splice cs v o) w p i (by rw [l1];exact hb),get (splice cs w p) v o i (by rw [l2];omega),get cs v o i (by omega),get cs w p i hb];by_cases h1:i < o
 ·rw [if_pos (by omega:i < p),if_pos h1,if_pos h1,if_pos (by omega:i < p)]
 ·by_cases h2:i < o+v.length
  ·rw [if_pos (by omega:i < p),if_neg h1,if_pos h2,if_neg h1,if_pos h2]
  ·by_cases h3:i < p
   ·rw [if_pos h3,if_neg h1,if_neg h2,if_neg h1,if_neg h2,if_pos h3]
   ·by_cases h4:i < p+w.length
    ·simp only [h1,h2,h3,h4,if_true,if_false]
    ·simp only [h1,h2,h3,h4,if_false]
theorem y5 {o p:Nat} {v w:List Value} (h:o+v.length≤p) (x:Option bf):nX p w (nX o v x)=nX o v (nX p w x):=by
 cases x with
 | none=>rfl
 | some b =>
  cases b with
  | cells cs own es =>
   show nX p w (if _ then _ else _)=nX o v (if _ then _ else _);by_cases h1:o+v.length≤cs.length
   ·rw [if_pos h1];show (if _ then _ else _)=_;rw [ee h1];by_cases h2:p+w.length≤cs.length
    ·rw [if_pos h2,if_pos h2];show _=(if _ then _ else _);rw [ee h2,if_pos h1,Cj h h2]
    ·rw [if_neg h2,if_neg h2];show _=(if _ then _ else _);rw [if_pos h1]
   ·rw [if_neg h1];have h2:¬ p+w.length≤cs.length:=by omega
    show (if _ then _ else _)=_;rw [if_neg h2];show _=(if _ then _ else _);rw [if_neg h1]
  | _=>rfl
theorem gP {s t:Tc} {k:Nat} (hs:k ∈ s.wr∨(s.a≤k∧k < s.b)) (ht:k ∈ t.rd∨k ∈ t.wr):conflict s t=true:=by
 simp only [conflict,Bool.or_eq_true,eG,within_iff]
 rcases hs with h|h <;> rcases ht with h'|h'
 ·exact .inl (.inl (.inl (.inl (.inl (.inl (.inl (.inl ⟨k,h,h'⟩)))))))
 ·exact .inl (.inl (.inl (.inl (.inl (.inl (.inl (.inr ⟨k,h,h'⟩)))))))
 ·exact .inl (.inl (.inl (.inr ⟨k,h',h⟩)))
 ·exact .inl (.inl (.inr ⟨k,h',h⟩))
theorem ei {s t:Tc} {k:Nat} (ht:k ∈ t.wr∨(t.a≤k∧k < t.b)) (hs:k ∈ s.rd∨k ∈ s.wr):conflict s t=true:=by
 simp only [conflict,Bool.or_eq_true,eG,within_iff]
 rcases ht with h|h <;> rcases hs with h'|h'
 ·exact .inl (.inl (.inl (.inl (.inl (.inl (.inr ⟨k,h,h'⟩))))))
 ·exact .inl (.inl (.inl (.inl (.inl (.inl (.inl (.inr ⟨k,h',h⟩)))))))
 ·exact .inl (.inr ⟨k,h',h⟩)
 ·exact .inr ⟨k,h',h⟩
theorem qi {s t:Tc} {k:Nat} (hc:s.call=true) (h:k ∈ t.wr):conflict s t=true∧conflict t s=true:=by
 have:t.wr.isEmpty=false:=by cases hh:t.wr with
  | nil=>rw [hh] at h;cases h
  | cons=>rfl
 simp [conflict,hc,this]
theorem nr {ev ev':Ev} (h:spare T ev ev'=true):∃ r,ev.t.rd=[r]∧ev.t.wr=[]∧ev.t.a=ev.t.b∧ev.t.call=false∧ev'.t.call=false∧iU T ev.st.hp.n ev.o.op (aQ ev.st.fr) ev'.hp.get=some (ev.v,.none):=by
 unfold spare at h;split at h
 ·rename_i r h1 h2;simp only [qq7,Bool.not_eq_true'] at h;obtain ⟨⟨⟨h3,h4⟩,h5⟩,h6⟩:=h;split at h6
  ·rename_i v ho;obtain ⟨rfl,_⟩:=Al h6;exact ⟨r,h1,h2,Nat.eq_of_beq_eq_true h3,h4,h5,ho⟩
  ·cases h6
 ·cases h
theorem eM {ev ev':Ev} (h:spare T ev ev'=true) (k:Nat):¬ ev.turns k:=by
 obtain ⟨r,_,h2,h3,_⟩:=nr h;intro ht
 rcases ht with ht|ht
 ·rw [h2] at ht;cases ht
 ·omega
theorem Ii (k:Nat):∀ (es:List Ev) (D:Nat→Bool) (i:Nat) (x:Option bf),(∀ j ev,es[j]?=some ev→D (i+j)=true→¬ ev.turns k) ∨
  ∃ j ev,es[j]?=some ev∧D (i+j)=true∧ev.turns k∧(∃ y,iJ (Ev.at k) es D i x=ev.at k y∧y=iJ (Ev.at k) es (fun m=>D m && decide (m < i+j)) i x)∧∀ j' ev',j < j'→es[j']?=some ev'→D (i+j')=true→¬ ev'.turns k:=by
 intro es
 induction es with
 | nil=>intro D i x;exact .inl fun j ev h=>by cases h
 | cons z es ih =>
  intro D i x
  rcases ih D (i+1) (if D i=true then z.at k x else x) with h|⟨j,ev,h1,h2,h3,h4,h5⟩
  ·by_cases hz:D i=true∧z.turns k
   ·refine .inr ⟨0,z,rfl,hz.1,hz.2,⟨x,?_,?_⟩,fun j' ev' hj he hD=>?_⟩
    ·rw [iJ,if_pos hz.1,qH es D (i+1) _ fun j ev hj hD x=>Ev.qh (h j ev hj hD) x]
    ·refine (qH (z :: es) _ i x fun j ev _ hD=>?_).symm;simp only [qq7,decide_eq_true_eq] at hD;omega
    ·cases j' with
     | zero=>omega
     | succ j'=>exact h j' ev' he (by rw [show i+1+j'=i+(j'+1) by omega];exact hD)
   ·refine .inl fun j ev hj hD=>?_
    cases j with
    | zero=>cases hj;exact fun ht=>hz ⟨hD,ht⟩
    | succ j=>exact h j ev hj (by rw [show i+1+j=i+(j+1) by omega];exact hD)
  ·obtain ⟨y,h4,h6⟩:=h4;refine .inr ⟨j+1,ev,h1,by rw [show i+(j+1)=i+1+j by omega];exact h2,h3,⟨y,h4,?_⟩,fun j' ev' hj he hD=>?_⟩
   ·rw [h6,iJ,show i+(j+1)=i+1+j by omega];have e:(D i && decide (i < i+1+j))=D i:=by rw [decide_eq_true (by omega),Bool.and_true]
    rw [e]
   cases j' with
   | zero=>omega
   | succ j'=>exact h5 j' ev' (by omega) he (by rw [show i+1+j'=i+(j'+1) by omega];exact hD)
theorem PI (k:Nat):∀ (es:List Ev) (D D':Nat→Bool) (i:Nat) (x y:Option bf),Ci x y→(∀ j ev,es[j]?=some ev→D (i+j) ≠ D' (i+j)→ev.turns k→∃ q,kX ev=some q)→Ci (iJ (Ev.at k) es D i x) (iJ (Ev.at k) es D' i y):=by
 intro es
 induction es with
 | nil=>intro D D' i x y h _;exact h
 | cons z es ih =>
  intro D D' i x y h hd;refine ih D D' (i+1) _ _ ?_ fun j ev hj hne ht=>hd (j+1) ev hj (by rw [show i+(j+1)=i+1+j by omega];exact hne) ht;have h0:=hd 0 z rfl;rw [Nat.add_zero] at h0;by_cases ht:z.turns k
  ·cases hs:kX z with
   | none =>
    have hDD:D i=D' i:=Classical.byContradiction fun hne=>by obtain ⟨q,hq⟩:=h0 hne ht;rw [hs] at hq;cases hq
    rw [hDD];split
    ·rw [Ev.rP ht hs,Ev.rP ht hs];exact .refl _
    ·exact h
   | some q =>
    obtain ⟨k0,o,vs⟩:=q;simp only [Ev.iK ht hs];split <;> split
    ·exact h.nX o vs
    ·exact h.on o vs
    ·exact (h.symm.on o vs).symm
    ·exact h
  ·simp only [Ev.qh ht,ite_self];exact h
theorem PJ (k:Nat) {o n:Nat}:∀ (es:List Ev) (D D':Nat→Bool) (i:Nat) (x y:Option bf),D6 o n x y→(∀ j ev,es[j]?=some ev→D (i+j) ≠ D' (i+j)→ev.turns k→∃ k' p vs,kX ev=some (k',p,vs)∧(p+vs.length≤o∨o+n≤p))→D6 o n (iJ (Ev.at k) es D i x) (iJ (Ev.at k) es D' i y):=by
 intro es
 induction es with
 | nil=>intro D D' i x y h _;exact h
 | cons z es ih =>
  intro D D' i x y h hd;refine ih D D' (i+1) _ _ ?_ fun j ev hj hne ht=>hd (j+1) ev hj (by rw [show i+(j+1)=i+1+j by omega];exact hne) ht;have h0:=hd 0 z rfl;rw [Nat.add_zero] at h0;by_cases ht:z.turns k
  ·by_cases hDD:D i=D' i
   ·rw [hDD];split
    ·cases hs:kX z with
     | none=>rw [Ev.rP ht hs,Ev.rP ht hs];exact .inl rfl
     | some q =>obtain ⟨k0,p,vs⟩:=q;rw [Ev.iK ht hs,Ev.iK ht hs];exact h.both p vs
    ·exact h
   ·obtain ⟨k0,p,vs,hs,hdj⟩:=h0 hDD ht;simp only [Ev.iK ht hs];split <;> split
    ·exact h.both p vs
    ·exact h.on hdj
    ·exact (h.symm.on hdj).symm
    ·exact h
  ·simp only [Ev.qh ht,ite_self];exact h
theorem Ij {β:Type} {f:Ev→β→β}:∀ (es:List Ev) (D D':Nat→Bool) (i j:Nat) (ev:Ev) (x:β),es[j]?=some ev→D (i+j)=false→D' (i+j)=true→(∀ m,m ≠ i+j→D' m=D m) →
  (∀ m ev',j < m→es[m]?=some ev'→D (i+m)=true→∀ x,f ev' (f ev x)=f ev (f ev' x))→iJ f es D' i x=f ev (iJ f es D i x):=by
 have pull:∀ (es:List Ev) (D:Nat→Bool) (i:Nat) (ev:Ev) (x:β),(∀ m ev',es[m]?=some ev'→D (i+m)=true→∀ x,f ev' (f ev x)=f ev (f ev' x))→iJ f es D i (f ev x)=f ev (iJ f es D i x):=by
  intro es
  induction es with
  | nil=>intro D i ev x _;rfl
  | cons z es ih =>
   intro D i ev x h
   have e:(if D i=true then f z (f ev x) else f ev x)=f ev (if D i=true then f z x else x):=by
    split
    ·rename_i hd;exact h 0 z rfl hd x
    ·rfl
   rw [iJ,iJ,e];exact ih D (i+1) ev _ fun m ev' hm hd=>h (m+1) ev' hm (by rw [show i+(m+1)=i+1+m by omega];exact hd)
 intro es
 induction es with
 | nil=>intro D D' i j ev x h;cases h
 | cons z es ih =>
  intro D D' i j ev x hj h1 h2 h3 h4
  cases j with
  | zero =>cases hj;rw [Nat.add_zero] at h1 h2;rw [iJ,iJ,if_pos h2,if_neg (by rw [h1];simp)];have e:iJ f es D' (i+1) (f z x)=iJ f es D (i+1) (f z x):=jh es _ _ _ _ fun m ev' _ hd=>absurd (h3 (i+1+m) (by omega)) hd;rw [e];exact pull es D (i+1) z x fun m ev' hm hd=>h4 (m+1) ev' (by omega) hm (by rw [show i+(m+1)=i+1+m by omega];exact hd)
  | succ j =>
   rw [iJ,iJ,h3 i (by omega)]
   exact ih D D' (i+1) j ev _ hj (by rw [show i+1+j=i+(j+1) by omega];exact h1) (by rw [show i+1+j=i+(j+1) by omega];exact h2) (fun m hm=>h3 m (by omega))
    fun m ev' hm he hd=>h4 (m+1) ev' (by omega) he (by rw [show i+(m+1)=i+1+m by omega];exact hd)
section
variable {ops : Array Oper} {es : List Ev} {st0 stF : St} {γ0 : Gm} {w0 : World} {a0 : Act} {D D' : Nat → Bool} {γ : Gm} {a : Act} {w : World} {j : Nat} {ev : Ev}
structure BL (ops:Array Oper) (es:List Ev) (D D':Nat→Bool) (j:Nat) (ev:Ev):Prop where
 hj:es[j]?=some ev
 d:D j=false
 d':D' j=true
 same:∀ m,m ≠ j→D' m=D m
 cl:Cl ops.toList D
 UD:Cl ops.toList D'
theorem BL.before (n:BL ops es D D' j ev) {i:Nat} (hi:i ≠ j) (h:ord (oc ops) i j):D i=true:=by rw [←n.same i hi];exact gp n.UD h n.d'
theorem BL.behind (n:BL ops es D D' j ev) {i:Nat} (h:ord (oc ops) j i) (hD:D i=true):False:=by have:=gp n.cl h hD;rw [n.d] at this;cases this
theorem Ctx.FA (C:Ctx T rec m ops es st0 stF) {i j:Nat} {ev ev':Ev} (hij:i < j) (hi:es[i]?=some ev) (hj:es[j]?=some ev') (hc:conflict ev.t ev'.t=true):ord (oc ops) i j∨spare T ev ev'=true∨gX T ev ev'=true:=by
 rcases C.cnf with h|h
 ·exact (h i j ev ev' hij hi hj hc).imp id .inl
 ·exact (h i j ev ev' hij hi hj hc).imp id .inr
def Whole (T:bL) (ops:Array Oper) (es:List Ev) (ev:Ev):Prop:=kX ev=none∧(mw T ev=none∨∀ i j ev ev',i < j→es[i]?=some ev→es[j]?=some ev'→conflict ev.t ev'.t=true→ord (oc ops) i j∨spare T ev ev'=true)
theorem Ctx.D7 (C:Ctx T rec m ops es st0 stF) (i j:Nat) (ev ev':Ev) (hij:i < j) (hi:es[i]?=some ev) (hj:es[j]?=some ev') (hc:conflict ev.t ev'.t=true) (hn:Whole T ops es ev∨Whole T ops es ev'):ord (oc ops) i j∨spare T ev ev'=true:=by
 have two:(mw T ev=none∨mw T ev'=none)∨(∀ i j ev ev',i < j→es[i]?=some ev→es[j]?=some ev'→conflict ev.t ev'.t=true→ord (oc ops) i j∨spare T ev ev'=true):=by
  rcases hn with ⟨_,h|h⟩|⟨_,h|h⟩
  ·exact .inl (.inl h)
  ·exact .inr h
  ·exact .inl (.inr h)
  ·exact .inr h
 rcases two with h|h
 ·rcases C.FA hij hi hj hc with h'|h'|h'
  ·exact .inl h'
  ·exact .inr h'
  ·exact (y4 h' h).elim
 ·exact h i j ev ev' hij hi hj hc
theorem Ctx.oper (C:Ctx T rec m ops es st0 stF) {i:Nat} {e:Ev} (h:es[i]?=some e):ops.toList[i]?=some e.o:=by
 have h1:(es.map (·.o))[i]?=some e.o:=by rw [List.getElem?_map,h];rfl
 rw [C.os,List.getElem?_take] at h1;split at h1
 ·exact h1
 ·cases h1
theorem Ctx.at (C:Ctx T rec m ops es st0 stF) {i:Nat} {e:Ev} (h:es[i]?=some e) :
  qI T rec ops i e∧Wf e.st.hp∧st0.hp.n≤e.st.hp.n∧e.hp.n≤stF.hp.n∧e.st.rd=st0.rd ∧
   (∀ k,e.st.hp.get k=gD es st0 (fun q=>decide (q < i)) k)∧(∀ t,e.st.fr.get t=fD es st0 (fun q=>decide (q < i)) t):=by
 have:=dG.get C.hK C.ch C.wf i e h;rw [Nat.zero_add] at this;exact this
theorem Ctx.facts (C:Ctx T rec m ops es st0 stF) {i:Nat} {e:Ev} (h:es[i]?=some e) :
 e.t.idx=i∧e.t.a=e.st.hp.n∧e.t.b=e.hp.n∧e.st.hp.n≤e.hp.n∧Wf e.hp∧∀ k,k ∉ e.t.wr→¬ (e.t.a≤k∧k < e.t.b)→e.hp.get k=e.st.hp.get k:=(C.at h).1.facts C.hK (C.at h).2.1
theorem Ctx.v7 (C:Ctx T rec m ops es st0 stF) (n:BL ops es D D' j ev) {t:Tmp} (ht:t ∈ ev.o.looksAt ops):fD es st0 D t=ev.st.fr.get t:=by
 rw [(C.at n.hj).2.2.2.2.2.2 t];refine jh es _ _ 0 _ fun i e hi hd x=>?_;rw [Nat.zero_add] at hd;unfold Ev.tm;by_cases hdst:e.o.dst=some t
 ·exfalso
  rcases Nat.lt_trichotomy i j with hlt|rfl|hgt
  ·have hDi:D i=false:=by
    cases h:D i with
    | false=>rfl
    | true=>rw [h] at hd;simp [hlt] at hd
   rcases C.sep i j _ _ hlt (C.oper hi) (C.oper n.hj) with hap|ho
   ·exact (Oper.apart_spec hap).1 t hdst ht
   ·rw [n.before (by omega) ho] at hDi;cases hDi
  ·rw [n.d] at hd;simp at hd
  ·have hDi:D i=true:=by
    cases h:D i with
    | true=>rfl
    | false=>rw [h] at hd;simp at hd;omega
   rcases C.sep j i _ _ hgt (C.oper n.hj) (C.oper hi) with hap|ho
   ·exact (Oper.apart_spec hap).2.2 t hdst ht
   ·exact n.behind ho hDi
 ·rw [if_neg hdst]
theorem Ctx.MH (C:Ctx T rec m ops es st0 stF) (n:BL ops es D D' j ev) (t:Tmp):fD es st0 D' t=if ev.o.dst=some t then some ev.v else fD es st0 D t:=by
 by_cases hdst:ev.o.dst=some t
 ·rw [if_pos hdst]
  have:=Fy (f:=Ev.tm t) es D D' 0 j ev (st0.fr.get t) n.hj (by rw [Nat.zero_add];exact n.d) (by rw [Nat.zero_add];exact n.d') (fun q hq=>n.same q (by omega)) fun i e hi he hD x=>by
   rw [Nat.zero_add] at hD;unfold Ev.tm;refine if_neg fun hd=>?_
   rcases C.sep j i _ _ hi (C.oper n.hj) (C.oper he) with hap|ho
   ·exact (Oper.apart_spec hap).2.1 t hdst hd
   ·exact n.behind ho hD
  show iJ (Ev.tm t) es D' 0 _=_;rw [this];exact if_pos hdst
 ·rw [if_neg hdst];exact vY es D D' 0 j ev _ n.hj (fun q hq=>n.same q (by omega)) fun x=>if_neg hdst
theorem Ctx.v8 (C:Ctx T rec m ops es st0 stF) (n:BL ops es D D' j ev) {k:Nat} (hk:k ∈ ev.t.rd∨k ∈ ev.t.wr) (hlast:∀ i e,j < i→es[i]?=some e→D i=true→¬ e.turns k) (hnx:Whole T ops es ev):gD es st0 D k=ev.st.hp.get k:=by
 rw [(C.at n.hj).2.2.2.2.2.1 k];refine jh es _ _ 0 _ fun i e hi hd x=>?_;rw [Nat.zero_add] at hd;by_cases ht:e.turns k
 ·exfalso
  rcases Nat.lt_trichotomy i j with hlt|rfl|hgt
  ·have hDi:D i=false:=by
    cases h:D i with
    | false=>rfl
    | true=>rw [h] at hd;simp [hlt] at hd
   rcases C.D7 i j _ _ hlt hi n.hj (gP ht hk) (.inr hnx) with ho|hsp
   ·rw [n.before (by omega) ho] at hDi;cases hDi
   ·exact eM hsp k ht
  ·rw [n.d] at hd;simp at hd
  ·have hDi:D i=true:=by
    cases h:D i with
    | true=>rfl
    | false=>rw [h] at hd;simp at hd;omega
   exact hlast i e hgt hi hDi ht
 ·exact Ev.qh ht x
theorem Ctx.Ck (C:Ctx T rec m ops es st0 stF) (n:BL ops es D D' j ev) {k:Nat} (hk:ev.turns k) (hnx:Whole T ops es ev) {i:Nat} {e:Ev} (hi:j < i) (he:es[i]?=some e) (hD:D i=true):¬ e.turns k:=by
 intro ht;obtain ⟨_,f2,f3,f4,_⟩:=C.facts n.hj;obtain ⟨_,g2,g3,g4,_⟩:=C.facts he;have hm:=dG.mono C.hK C.ch C.wf j i ev e hi n.hj he;have hk0:=hk
 rcases hk with hk|hk
 ·rcases C.D7 j i _ _ hi n.hj he (ei ht (.inr hk)) (.inl hnx) with ho|hsp
  ·exact n.behind ho hD
  ·exact eM hsp k hk0
 ·rcases ht with ht|ht
  ·rcases C.D7 j i _ _ hi n.hj he (gP (.inr hk) (.inr ht)) (.inl hnx) with ho|hsp
   ·exact n.behind ho hD
   ·exact eM hsp k hk0
  ·omega
theorem Ctx.Av (C:Ctx T rec m ops es st0 stF) (n:BL ops es D D' j ev) {k:Nat} (hk:ev.turns k) (hnx:Whole T ops es ev):gD es st0 D' k=ev.hp.get k:=by
 have:=Fy (f:=Ev.at k) es D D' 0 j ev (st0.hp.get k) n.hj (by rw [Nat.zero_add];exact n.d) (by rw [Nat.zero_add];exact n.d') (fun q hq=>n.same q (by omega)) fun i e hi he hD x=>by rw [Nat.zero_add] at hD;exact Ev.qh (C.Ck n hk hnx hi he hD) x
 show iJ (Ev.at k) es D' 0 _=_;rw [this];exact Ev.rP hk hnx.1 _
theorem Ctx.ji (_C:Ctx T rec m ops es st0 stF) (n:BL ops es D D' j ev) {k:Nat} (hk:¬ ev.turns k):gD es st0 D' k=gD es st0 D k :=
 vY es D D' 0 j ev _ n.hj (fun q hq=>n.same q (by omega)) fun x=>Ev.qh hk x
theorem Inv.pI (C:Ctx T rec m ops es st0 stF) (n:BL ops es D D' j ev) (I:Inv es st0 stF γ0 w0 a0 D γ a w) {γ':Gm} (hle:γ.Le γ') {v':Value} (hv:VR γ' ev.v v') (hd:∀ d,ev.o.dst=some d→d < a.tmps.size) (t:Tmp) :
  VR γ' ((fD es st0 D' t).getD undef) ((a.put ev.o.dst v').tmps.getD t undef):=by
 rw [C.MH n t]
 cases hdst:ev.o.dst with
 | none=>simp only [reduceCtorEq,if_false,Act.put];exact (I.tm t).mono hle
 | some d =>
  show VR γ' _ ((a.tmps.setIfInBounds d v').getD t undef);rw [B7 (hd d hdst)];by_cases htd:t=d
  ·subst htd;rw [if_pos rfl,if_pos rfl];exact hv
  ·rw [if_neg htd,if_neg (fun e=>htd (by cases e;rfl))];exact (I.tm t).mono hle
theorem Inv.jk (C:Ctx T rec m ops es st0 stF) (n:BL ops es D D' j ev) (I:Inv es st0 stF γ0 w0 a0 D γ a w) {γ':Gm} (hout:∀ k,(k < ev.st.hp.n∨ev.hp.n≤k)→γ'.loc k=γ.loc k) :
  ∀ i e,es[i]?=some e→D' i=false→∀ k,e.t.a≤k→k < e.t.b→γ'.loc k=none:=by
 intro i e he hD k h1 h2;have hij:i ≠ j:=fun h=>by subst h;rw [n.d'] at hD;cases hD
 rw [n.same i hij] at hD;obtain ⟨_,f2,f3,f4,_⟩:=C.facts n.hj;obtain ⟨_,g2,g3,g4,_⟩:=C.facts he;rw [hout k,I.fresh i e he hD k h1 h2]
 rcases Nat.lt_or_gt_of_ne hij with h|h
 ·have:=dG.mono C.hK C.ch C.wf i j e ev h he n.hj;omega
 ·have:=dG.mono C.hK C.ch C.wf j i ev e h n.hj he;omega
theorem Cm {o:Oper} {t:Tmp} (h:Operand.tmp t ∈ o.op.operands):t ∈ o.looksAt ops:=by unfold Oper.looksAt;refine List.mem_append.2 (.inl (List.mem_filterMap.2 ⟨.tmp t,by simpa using h,rfl⟩))
theorem qj {o q:Oper} {g:Nat} {want:Bool} {d:Tmp} (h:o.guard=some (g,want)) (hq:ops[g]?=some q) (hd:q.dst=some d):d ∈ o.looksAt ops:=by unfold Oper.looksAt;refine List.mem_append.2 (.inr ?_);rw [h];simp [hq,hd]
theorem Inv.eval (C:Ctx T rec m ops es st0 stF) (n:BL ops es D D' j ev) (I:Inv es st0 stF γ0 w0 a0 D γ a w) (hok:gn a.tmps.size ev.o=true):∀ x ∈ ev.o.op.operands,VR γ (aQ ev.st.fr x) (a.eval x):=by
 intro x hx;simp only [gn,qq7,List.all_eq_true] at hok;have hxo:=hok.1 x (by simpa using hx)
 cases x with
 | tmp t =>have:=I.tm t;rw [C.v7 n (Cm hx)] at this;exact this
 | const v=>exact VR.of_flat hxo
 | global g=>cases hxo
 | func f=>exact .func rfl rfl (fun i a _=>absurd a (by simp)) (fun i a _=>absurd a (by simp))
theorem Ctx.pJ (C:Ctx T rec m ops es st0 stF) {i:Nat} {z:Ev} (hz:es[i]?=some z) {k k' o n:Nat} (ht:z.turns k) (hr:mw T z=some (k',o,n)):∃ vs,kX z=some (k',o,vs)∧vs.length=n:=by
 rcases nk hr with h|⟨_,t,a,_,_,_,_,_,_,_,hop,_⟩
 ·exact h
 ·obtain ⟨h1,h2⟩:=(C.at hz).1.load hop
  rcases ht with ht|ht
  ·rw [h1] at ht;cases ht
  ·omega
theorem Inv.GP (C:Ctx T rec m ops es st0 stF) (n:BL ops es D D' j ev) (I:Inv es st0 stF γ0 w0 a0 D γ a w) (hB:∀ i j ev ev',i < j→es[i]?=some ev→es[j]?=some ev'→conflict ev.t ev'.t=true→ord (oc ops) i j∨gX T ev ev'=true)
  {k0 o nn:Nat} (hns:kX ev=none) (hs:mw T ev=some (k0,o,nn)) {v:Value} {e:cv} {rd:Option Nat} {next:Act→World→Prop} {Q:Exit→Act→World→Prop}
  (hop:iU T ev.st.hp.n ev.o.op (aQ ev.st.fr) ev.st.hp.get=some (v,e)) (hrd:ev.t.rd=cB (.pointer (some ⟨k0,o,none⟩))) (hv:ev.v=v) (hdst:∀ d,ev.o.dst=some d→d < a.tmps.size)
  (heval:∀ x ∈ ev.o.op.operands,VR γ (aQ ev.st.fr x) (a.eval x)) (hnext:∀ v' w' γ',Inv es st0 stF γ0 w0 a0 D' γ' (a.put ev.o.dst v') w'→next (a.put ev.o.dst v') w'):ev.o.wpIn (FW rd) 0 T.P a w next Q:=by
 obtain ⟨hevo,wf,_,_,_,hsel,_⟩:=C.at n.hj;have hrd:ev.t.rd=[k0]:=hrd
 rcases nk hs with ⟨vs,h,_⟩|⟨_,t,ad,u,s,b',z,agg,fl,es',hopE,had,hty,hnn⟩
 ·rw [hns] at h;cases h
 obtain ⟨hw0,hab⟩:=hevo.load hopE
 have hnt:∀ k,¬ ev.turns k:=fun k ht=>by
  rcases ht with ht|ht
  ·rw [hw0] at ht;cases ht
  ·omega
 have hopA:∀ (g:aG),iU T ev.st.hp.n ev.o.op (aQ ev.st.fr) g=eV T t (.pointer (some ⟨k0,o,none⟩)) g:=fun g=>by rw [hopE,←had];rfl
 rw [hopA] at hop;obtain ⟨rfl,cs,own,e2,hg,hre⟩:=D5 hty hop;rw [←hnn] at hre
 have hag:D6 o nn (gD es st0 D k0) (ev.st.hp.get k0):=by
  rw [hsel k0];refine PJ k0 es _ _ 0 _ _ (.inl rfl) fun i z hz hd htz=>?_;rw [Nat.zero_add] at hd;have hij:i ≠ j:=fun h=>by subst h;obtain rfl:=Option.some.inj (hz.symm.trans n.hj);exact hnt k0 htz
  rcases Nat.lt_or_gt_of_ne hij with hlt|hgt
  ·have hDi:D i=false:=by
    cases h:D i with
    | false=>rfl
    | true=>rw [h] at hd;simp [hlt] at hd
   rcases hB i j _ _ hlt hz n.hj (gP htz (.inl (by rw [hrd];simp))) with ho|h
   ·rw [n.before hij ho] at hDi;cases hDi
   ·obtain ⟨k1,o1,n1,k2,o2,n2,e1,e2,hor⟩:=iq h;obtain ⟨v1,f1,rfl⟩:=C.pJ hz htz e1;rw [hs] at e2;cases e2;exact ⟨k1,o1,v1,f1,hor⟩
  ·have hDi:D i=true:=by
    cases h:D i with
    | true=>rfl
    | false=>rw [h] at hd;simp at hd;omega
   rcases hB j i _ _ hgt n.hj hz (ei htz (.inl (by rw [hrd];simp))) with ho|h
   ·exact (n.behind ho hDi).elim
   ·obtain ⟨k1,o1,n1,k2,o2,n2,e1,e2,hor⟩:=iq h;obtain ⟨v2,f2,rfl⟩:=C.pJ hz htz e2;rw [hs] at e1;cases e1;exact ⟨k2,o2,v2,f2,hor.symm⟩
 have hop':eV T t (.pointer (some ⟨k0,o,none⟩)) (gD es st0 D)=some (v,.none):=by
  rcases hag with h|⟨c1,c2,ow,e3,h1,h2,h3,h4⟩
  ·exact hre _ cs (by rw [h];exact hg) rfl fun _ _ _=>rfl
  ·rw [hg] at h2;cases h2;exact hre _ c1 h1 h3 h4
 rw [←hopA] at hop';obtain ⟨v',w',γ',h1,h2,h3,h4,h5,h6⟩:=rF (n:=ev.st.hp.n) C.hT I.hr (fun h=>by cases h) hop' heval;have hsame:(cv.none).on ev.st.hp.n (gD es st0 D)=gD es st0 D':=(funext fun k=>C.ji n (hnt k)).symm;rw [hsame] at h4 h6;have hout:∀ k,γ'.loc k=γ.loc k:=fun k=>h3 k fun _=>rfl;refine Oper.rM (w':=w') (v':=v') (pG hop') h1 (hnext v' w' γ' ⟨I.le.trans h2,fun k hk=>?_,I.jk C n (fun k _=>hout k),h4,I.iB.trans h6,fun t=>I.pI C n h2 (by rw [hv];exact h5) hdst t,(gO _ _ _).trans I.sz,(put_defers _ _ _).trans I.df⟩);rw [hout k,I.out k hk]
theorem Inv.D8 (C:Ctx T rec m ops es st0 stF) (n:BL ops es D D' j ev) (I:Inv es st0 stF γ0 w0 a0 D γ a w) {k0 o:Nat} {vs:List Value} (hs:kX ev=some (k0,o,vs)) {v:Value} {e:cv} {rd:Option Nat} {next:Act→World→Prop} {Q:Exit→Act→World→Prop}
  (hop:iU T ev.st.hp.n ev.o.op (aQ ev.st.fr) ev.st.hp.get=some (v,e)) (hwr:ev.t.wr=cB (.pointer (some ⟨k0,o,none⟩))) (hv:ev.v=v) (hdst:∀ d,ev.o.dst=some d→d < a.tmps.size)
  (heval:∀ x ∈ ev.o.op.operands,VR γ (aQ ev.st.fr x) (a.eval x)) (hnext:∀ v' w' γ',Inv es st0 stF γ0 w0 a0 D' γ' (a.put ev.o.dst v') w'→next (a.put ev.o.dst v') w'):ev.o.wpIn (FW rd) 0 T.P a w next Q:=by
 obtain ⟨hevo,wf,_,_,_,hsel,_⟩:=C.at n.hj;obtain ⟨hcl,hrd,hab,_⟩:=hevo.store hs;have hwr:ev.t.wr=[k0]:=hwr
 have hturn:∀ k,ev.turns k ↔ k=k0:=fun k=>by
  constructor
  ·rintro (h|h)
   ·rw [hwr] at h;exact List.mem_singleton.1 h
   ·omega
  ·rintro rfl;exact .inl (by rw [hwr];simp)
 obtain ⟨t,ad,x,hopE,had,rfl⟩:=pH hs;have hopA:∀ (g:aG),iU T ev.st.hp.n ev.o.op (aQ ev.st.fr) g=eB T t (.pointer (some ⟨k0,o,none⟩)) (aQ ev.st.fr x) g:=fun g=>by rw [hopE,←had];rfl
 rw [hopA] at hop;obtain ⟨rfl,cs,eb,hg,hle,rfl,hre⟩:=oG hop
 have hoth:∀ i z,es[i]?=some z→i ≠ j→D i ≠ decide (i < j)→z.turns k0→(i < j∧gX T z ev=true)∨(j < i∧D i=true∧gX T ev z=true):=by
  intro i z hz hij hd htz
  rcases Nat.lt_or_gt_of_ne hij with hlt|hgt
  ·have hDi:D i=false:=by
    cases h:D i with
    | false=>rfl
    | true=>rw [h] at hd;simp [hlt] at hd
   rcases C.FA hlt hz n.hj (gP htz (.inr (by rw [hwr];simp))) with ho|hs'|hs'
   ·rw [n.before hij ho] at hDi;cases hDi
   ·exact (eM hs' k0 htz).elim
   ·exact .inl ⟨hlt,hs'⟩
  ·have hDi:D i=true:=by
    cases h:D i with
    | true=>rfl
    | false=>rw [h] at hd;simp at hd;omega
   rcases C.FA hgt n.hj hz (ei htz (.inr (by rw [hwr];simp))) with ho|hs'|hs'
   ·exact (n.behind ho hDi).elim
   ·exact (eM hs' k0 ((hturn k0).2 rfl)).elim
   ·exact .inr ⟨hgt,hDi,hs'⟩
 have hsh:Ci (gD es st0 D k0) (ev.st.hp.get k0):=by
  rw [hsel k0];refine PI k0 es _ _ 0 _ _ (.refl _) fun i z hz hd htz=>?_;rw [Nat.zero_add] at hd;by_cases hij:i=j
  ·subst hij;obtain rfl:=Option.some.inj (hz.symm.trans n.hj);exact ⟨_,hs⟩
  ·rcases hoth i z hz hij hd htz with ⟨_,h⟩|⟨_,_,h⟩
   ·obtain ⟨_,_,_,_,_,_,h1,_⟩:=iq h;obtain ⟨vs,h2,_⟩:=C.pJ hz htz h1;exact ⟨_,h2⟩
   ·obtain ⟨_,_,_,_,_,_,_,h1,_⟩:=iq h;obtain ⟨vs,h2,_⟩:=C.pJ hz htz h1;exact ⟨_,h2⟩
 obtain ⟨cs',hgD,hlen⟩:∃ cs',gD es st0 D k0=some (.cells cs' true eb)∧cs'.length=cs.length:=by
  rcases hsh with h|⟨c1,c2,own,es2,h1,h2,h3⟩
  ·exact ⟨cs,by rw [h,hg],rfl⟩
  ·rw [hg] at h2;cases h2;exact ⟨c1,h1,h3⟩
 have hop':=hre (gD es st0 D) cs' hgD hlen;rw [←hopA] at hop';obtain ⟨v',w',γ',h1,h2,h3,h4,h5,h6⟩:=rF (n:=ev.st.hp.n) C.hT I.hr (fun h=>by cases h) hop' heval
 have hnew:gD es st0 D' k0=some (.cells (splice cs' (aQ ev.st.fr x).cells.toList o) true eb):=by
  have:=Ij (f:=Ev.at k0) es D D' 0 j ev (st0.hp.get k0) n.hj (by rw [Nat.zero_add];exact n.d) (by rw [Nat.zero_add];exact n.d') (fun q hq=>n.same q (by omega)) fun i z hij hz hD x=>by
   rw [Nat.zero_add] at hD;by_cases htz:z.turns k0
   ·have hd:D i ≠ decide (i < j):=by rw [hD,decide_eq_false (by omega)];simp
    rcases hoth i z hz (by omega) hd htz with ⟨h,_⟩|⟨_,_,h⟩
    ·omega
    ·obtain ⟨k1,o1,n1,k2,o2,n2,e1,e2,hor⟩:=iq h;obtain ⟨v1,f1,rfl⟩:=C.pJ n.hj ((hturn k0).2 rfl) e1;obtain ⟨v2,f2,rfl⟩:=C.pJ hz htz e2;rw [Ev.iK htz f2,Ev.iK htz f2,Ev.iK ((hturn k0).2 rfl) f1,Ev.iK ((hturn k0).2 rfl) f1]
     rcases hor with hor|hor
     ·exact y5 hor x
     ·exact (y5 hor x).symm
   ·rw [Ev.qh htz,Ev.qh htz]
  show iJ (Ev.at k0) es D' 0 _=_;rw [this];show ev.at k0 (gD es st0 D k0)=_;rw [Ev.iK ((hturn k0).2 rfl) hs,hgD];show (if _ then _ else _)=_;rw [if_pos (by omega)]
 have hget:(cv.put k0 (.cells (splice cs' (aQ ev.st.fr x).cells.toList o) true eb)).on ev.st.hp.n (gD es st0 D)=gD es st0 D':=by
  funext k
  by_cases hk:k=k0
  ·subst hk;rw [hnew];show (if k=k then _ else _)=_;rw [if_pos rfl]
  ·rw [C.ji n (fun h=>hk ((hturn k).1 h))];show (if k=k0 then _ else _)=_;rw [if_neg hk]
 rw [hget] at h4 h6;have hout:∀ k,γ'.loc k=γ.loc k:=fun k=>h3 k fun _=>rfl;refine Oper.rM (w':=w') (v':=v') (pG hop') h1 (hnext v' w' γ' ⟨I.le.trans h2,fun k hk=>?_,I.jk C n (fun k _=>hout k),h4,I.iB.trans h6,fun t=>I.pI C n h2 (by rw [hv];exact h5) hdst t,(gO _ _ _).trans I.sz,(put_defers _ _ _).trans I.df⟩);rw [hout k,I.out k hk]
theorem Inv.tv (C:Ctx T rec m ops es st0 stF) (n:BL ops es D D' j ev) (I:Inv es st0 stF γ0 w0 a0 D γ a w) (hcall:ev.t.call=true) (hwr:∀ k ∈ ev.t.wr,k < ev.st.hp.n) :
  HR γ ev.st.hp.get w∧(∀ {γ':Gm} {w':World} {H H':Hp},H.get=ev.st.hp.get→H.n=ev.st.hp.n→H'.get=ev.hp.get→H'.n=ev.hp.n→Step γ H w γ' H' w'→HR γ' (gD es st0 D') w'∧j7 γ (gD es st0 D) w γ' (gD es st0 D') w'):=by
 obtain ⟨f1,f2,f3,f4,f5,f6⟩:=C.facts n.hj;obtain ⟨hevo,wf,_,_,_,hsel,_⟩:=C.at n.hj
 have hnx:Whole T ops es ev:=by
  have h1:kX ev=none:=by
   cases hs:kX ev with
   | none=>rfl
   | some q=>rw [(hevo.store hs).1] at hcall;cases hcall
  refine ⟨h1,.inl ?_⟩
  cases hr:mw T ev with
  | none=>rfl
  | some q =>
   obtain ⟨k,o,n⟩:=q
   rcases nk hr with ⟨vs,h2,_⟩|⟨_,t,a,_,_,_,_,_,_,_,hop,_⟩
   ·rw [h1] at h2;cases h2
   ·rw [hevo.GO hop] at hcall;cases hcall
 have agree:∀ k,γ.loc k ≠ none→k < ev.st.hp.n→gD es st0 D k=ev.st.hp.get k:=by
  intro k hl hlt;rw [hsel k];refine jh es _ _ 0 _ fun i e hi hd x=>?_;rw [Nat.zero_add] at hd;by_cases ht:e.turns k
  ·exfalso;obtain ⟨_,g2,g3,g4,_⟩:=C.facts hi
   rcases Nat.lt_trichotomy i j with hij|rfl|hij
   ·have hDi:D i=false:=by
     cases h:D i with
     | false=>rfl
     | true=>rw [h] at hd;simp [hij] at hd
    rcases ht with ht|ht
    ·rcases C.D7 i j _ _ hij hi n.hj (qi hcall ht).2 (.inr hnx) with ho|hsp
     ·rw [n.before (by omega) ho] at hDi;cases hDi
     ·exact eM hsp k (.inl ht)
    ·exact hl (I.fresh i e hi hDi k ht.1 ht.2)
   ·rw [n.d] at hd;simp at hd
   ·have hDi:D i=true:=by
     cases h:D i with
     | true=>rfl
     | false=>rw [h] at hd;simp at hd;omega
    rcases ht with ht|ht
    ·rcases C.D7 j i _ _ hij n.hj hi (qi hcall ht).1 (.inl hnx) with ho|hsp
     ·exact n.behind ho hDi
     ·obtain ⟨_,_,_,_,hnc,_⟩:=nr hsp;rw [hcall] at hnc;cases hnc
    ·have:=dG.mono C.hK C.ch C.wf j i ev e hij n.hj hi;omega
  ·exact Ev.qh ht x
 have there:∀ k a,ev.st.hp.get k=some a→k < ev.st.hp.n:=fun k a h=>by apply Nat.lt_of_not_le;intro hle;rw [wf k hle] at h;cases h
 have hr0:HR γ ev.st.hp.get w:=by
  refine ⟨fun k b o x hx hl=>?_,fun k k' b o o' x x' hx ho hx' hd hne hl hl'=>?_,I.hr.lt,I.hr.base,I.hr.gl⟩
  ·exact I.hr.gT k b o x (by rw [agree k (by rw [hl];simp) (there k x hx)];exact hx) hl
  ·exact I.hr.inj k k' b o o' x x' (by rw [agree k (by rw [hl];simp) (there k x hx)];exact hx) ho (by rw [agree k' (by rw [hl'];simp) (there k' x' hx')];exact hx') hd hne hl hl'
 refine ⟨hr0,fun {γ' w' H H'} e1 e2 e3 e4 s=>?_⟩;have sn:=s.n;have hout:∀ k,(k < ev.st.hp.n∨ev.hp.n≤k)→γ'.loc k=γ.loc k:=fun k hk=>s.out k (by rw [e2,e4];exact hk);have shr:=s.hr;have su:=s.iB;rw [e3] at shr su;rw [e1] at su;have new:∀ k,ev.st.hp.n≤k→k < ev.hp.n→gD es st0 D' k=ev.hp.get k:=fun k h1 h2=>C.Av n (.inr ⟨by omega,by omega⟩) hnx
 have old:∀ k,ev.hp.n≤k→gD es st0 D' k=gD es st0 D k:=fun k hk=>C.ji n fun ht=>by
  rcases ht with ht|ht
  ·have:=hwr k ht;omega
  ·omega
 have low:∀ k,γ.loc k ≠ none→k < ev.st.hp.n→gD es st0 D' k=ev.hp.get k:=fun k hl hk=>by
  by_cases hw:k ∈ ev.t.wr
  ·exact C.Av n (.inl hw) hnx
  ·have hnt:¬ ev.turns k:=fun ht=>by
    rcases ht with ht|ht
    ·exact hw ht
    ·omega
   rw [C.ji n hnt,agree k hl hk,f6 k hw (by omega)]
 have apart:∀ {k k1 b o o1:Nat} {x x1:bf},ev.hp.n≤k→gD es st0 D k=some x→γ.loc k=some (b,o)→ev.st.hp.get k1=some x1→γ.loc k1=some (b,o1)→(x.own=true∧x1 ≠ .dead)∨(x1.own=true∧x ≠ .dead)→False:=by
  intro k k1 b o o1 x x1 hk hx hl hx1 hl1 hoo;have hlt:=there k1 x1 hx1;have hx1':gD es st0 D k1=some x1:=by rw [agree k1 (by rw [hl1];simp) hlt];exact hx1
  rcases hoo with ⟨h1,h2⟩|⟨h1,h2⟩
  ·exact I.hr.inj k k1 b o o1 x x1 hx h1 hx1' h2 (by omega) hl hl1
  ·exact I.hr.inj k1 k b o1 o x1 x hx1' h1 hx h2 (by omega) hl1 hl
 constructor
 ·refine ⟨fun k b o x hx hl=>?_,fun k k' b o o' x x' hx ho hx' hd hne hl hl'=>?_,shr.lt,shr.base,shr.gl⟩
  ·by_cases h1:k < ev.st.hp.n
   ·rw [low k (by rw [←hout k (.inl h1),hl];simp) h1] at hx;exact shr.gT k b o x hx hl
   ·by_cases h2:k < ev.hp.n
    ·rw [new k (by omega) h2] at hx;exact shr.gT k b o x hx hl
    ·rw [old k (by omega)] at hx;have hl0:=hl;rw [hout k (.inr (by omega))] at hl0;by_cases hd:x=.dead
     ·subst hd;trivial
     ·refine (I.hr.gT k b o x hx hl0).mono s.le hl0 (su.same b (I.hr.lt k b o hl0) fun k1 o1 x1 hx1 ho1 hl1=>?_);exact apart (by omega) hx hl0 hx1 hl1 (.inr ⟨ho1,hd⟩)
  ·have hcls:∀ q,q < ev.hp.n→∀ b o,γ'.loc q=some (b,o)→gD es st0 D' q=ev.hp.get q:=fun q hq b o hlq=>by
    by_cases h1:q < ev.st.hp.n
    ·exact low q (by rw [←hout q (.inl h1),hlq];simp) h1
    ·exact new q (by omega) hq
   by_cases hk:k < ev.hp.n
   ·by_cases hk':k' < ev.hp.n
    ·rw [hcls k hk b o hl] at hx;rw [hcls k' hk' b o' hl'] at hx';exact shr.inj k k' b o o' x x' hx ho hx' hd hne hl hl'
    ·have hl0':=hl';rw [hout k' (.inr (by omega))] at hl0';have hx0':=hx';rw [old k' (by omega)] at hx0';rw [hcls k hk b o hl] at hx;obtain ⟨k1,o1,x1,q1,q2,q3⟩:=su.uy k b o x hx ho hl (I.hr.lt k' b o' hl0');exact apart (by omega) hx0' hl0' q1 q3 (.inr ⟨q2,hd⟩)
   ·have hl0:=hl;rw [hout k (.inr (by omega))] at hl0;have hx0:=hx;rw [old k (by omega)] at hx0;by_cases hk':k' < ev.hp.n
    ·rw [hcls k' hk' b o' hl'] at hx';obtain ⟨k1,o1,x1,q1,q2,q3⟩:=su.live k' b o' x' hx' hd hl' (I.hr.lt k b o hl0);exact apart (by omega) hx0 hl0 q1 q3 (.inl ⟨ho,q2⟩)
    ·rw [hout k' (.inr (by omega))] at hl';rw [old k' (by omega)] at hx';exact I.hr.inj k k' b o o' x x' hx0 ho hx' hd hne hl0 hl'
 ·have up:∀ {k1 o1 b:Nat} {x1:bf},ev.st.hp.get k1=some x1→γ.loc k1=some (b,o1)→gD es st0 D k1=some x1:=fun {k1 o1 b x1} h1 h2=>by rw [agree k1 (by rw [h2];simp) (there k1 x1 h1)];exact h1
  refine ⟨su.os,su.tape,su.output,su.size,fun b hb hn=>su.same b hb fun k1 o1 x1 h1 h2 h3=>hn k1 o1 x1 (up h1 h3) h2 h3,fun k b o x hx ho hl hb=>?_,fun k b o x hx hd hl hb=>?_,su.s7⟩
  ·by_cases h:k < ev.hp.n
   ·have hx':ev.hp.get k=some x:=by
     by_cases h1:k < ev.st.hp.n
     ·rw [←low k (by rw [←hout k (.inl h1),hl];simp) h1];exact hx
     ·rw [←new k (by omega) h];exact hx
    obtain ⟨k1,o1,x1,q1,q2,q3⟩:=su.uy k b o x hx' ho hl hb;exact ⟨k1,o1,x1,up q1 q3,q2,q3⟩
   ·rw [old k (by omega)] at hx;rw [hout k (by omega)] at hl;exact ⟨k,o,x,hx,ho,hl⟩
  ·by_cases h:k < ev.hp.n
   ·have hx':ev.hp.get k=some x:=by
     by_cases h1:k < ev.st.hp.n
     ·rw [←low k (by rw [←hout k (.inl h1),hl];simp) h1];exact hx
     ·rw [←new k (by omega) h];exact hx
    obtain ⟨k1,o1,x1,q1,q2,q3⟩:=su.live k b o x hx' hd hl hb;exact ⟨k1,o1,x1,up q1 q3,q2,q3⟩
   ·rw [old k (by omega)] at hx;rw [hout k (by omega)] at hl;exact ⟨k,o,x,hx,hd,hl⟩
theorem we (C:Ctx T rec m ops es st0 stF) (n:BL ops es D D' j ev) (hdet:RE T rec ops j ev) (I:Inv es st0 stF γ0 w0 a0 D γ a w) (hok:gn a.tmps.size ev.o=true) {rd:Option Nat} {next:Act→World→Prop} {Q:Exit→Act→World→Prop}
  (hnext:∀ γ' a' w',Inv es st0 stF γ0 w0 a0 D' γ' a' w'→next a' w'):wpOpIn (FW rd) 0 T.P ops Q j next a w:=by
 have ho:ops[j]?=some ev.o:=by rw [←Array.getElem?_toList];exact C.oper n.hj
 obtain ⟨f1,f2,f3,f4,f5,f6⟩:=C.facts n.hj;obtain ⟨hev,wf,b1,b2,_,_,_⟩:=C.at n.hj;have hdst:∀ d,ev.o.dst=some d→d < a.tmps.size:=nj hok;unfold wpOpIn;rw [ho];simp only
 rw [An (γ:=γ) (fr:=ev.st.fr) ops ev.o fun g want q d h1 h2 h3=>by
  have:=I.tm d;rw [C.v7 n (qj h1 h2 h3)] at this
  exact this]
 rcases hev with ⟨hg,hv,hhp,htc⟩|⟨hg,_⟩
 ·rw [hg];refine ⟨fun _ _=>trivial,hnext γ _ w ?_⟩
  have hnt:∀ k,¬ ev.turns k:=fun k ht=>by
   unfold Ev.turns at ht;rw [htc] at ht
   rcases ht with ht|ht
   ·cases ht
   ·simp only at ht;omega
  have hsame:gD es st0 D'=gD es st0 D:=funext fun k=>C.ji n (hnt k);exact ⟨I.le,I.out,I.jk C n (fun _ _=>rfl),by rw [hsame];exact I.hr,by rw [hsame];exact I.iB,fun t=>I.pI C n (Gm.Le.refl γ) (by rw [hv];exact VR.undef γ) hdst t,(gO _ _ _).trans I.sz,(put_defers _ _ _).trans I.df⟩
 ·have hd:=hdet hg;rw [hg];simp only [if_true];have heval:=I.eval C n hok;unfold bu at hd;split at hd
  ·
   rename_i f as hk;split at hd
   ·rename_i g hgo;obtain ⟨hnd,ha,vf',hv,hx⟩:=Ap hk heval hgo w;split at hd
    ·rename_i v hp hrec;have hd:=Option.some.inj hd;simp only [kB,Prod.mk.injEq] at hd
     ·obtain ⟨d1,d2,d3⟩:=hd;obtain ⟨hr0,hstep⟩:=I.tv C n (by rw [←d3]) (by rw [←d3];exact fun k hk=>(DW hk).2);have hnn:hp.n=ev.hp.n:=by rw [←d2]
      have hfr:fy γ ev.st.hp.n hp.n:=fun k h1 h2=>I.fresh j ev n.hj n.d k (by omega) (by omega);refine Ih C.hS hnd (H:={ev.st.hp with lo:=ev.st.hp.n}) hgo hrec wf hr0 hfr (fun r hr=>by rw [List.mem_singleton.1 hr];exact qq6 _) hv ha hx fun v' w' hR=>?_;obtain ⟨v0,hp0,v1,γ',hm,he,hv',hs⟩:=hR;cases he;have hm':=List.mem_singleton.1 hm;cases hm';have hg1:ev.hp.get=hp.get:=by rw [←d2];rfl
      obtain ⟨r1,r2⟩:=hstep (H:={ev.st.hp with lo:=ev.st.hp.n}) (H':=hp) rfl rfl hg1.symm hnn hs;have hout:∀ k,(k < ev.st.hp.n∨ev.hp.n≤k)→γ'.loc k=γ.loc k:=fun k hk=>hs.out k (by rw [hnn];exact hk);refine hnext γ' _ w' ⟨I.le.trans hs.le,fun k hk=>?_,I.jk C n hout,r1,I.iB.trans r2,fun t=>I.pI C n hs.le (by rw [←d1];exact hv') hdst t,(gO _ _ _).trans I.sz,(put_defers _ _ _).trans I.df⟩;rw [hout k (by omega),I.out k hk]
    ·cases hd
   ·cases hd
  ·cases hd
  ·split at hd
   ·rename_i r wr v e htch hop;simp only [qq9,Prod.mk.injEq] at hd;obtain ⟨d1,d2,d3⟩:=hd;have hrd:ev.t.rd=r:=by rw [←d3]
    have hwrr:ev.t.wr=wr:=by rw [←d3]
    cases hnx:kX ev with
    | some q =>obtain ⟨k0,o,vs⟩:=q;obtain ⟨t0,a0',x0,q1,q2,_⟩:=pH hnx;refine I.D8 C n hnx hop ?_ d1.symm hdst heval (fun v' w' γ'=>hnext γ' _ w');rw [q1] at htch;rw [hwrr,←q2];cases htch;rfl
    | none =>
    have hwh:Whole T ops es ev∨∃ k o nn,mw T ev=some (k,o,nn)∧∀ i j ev ev',i < j→es[i]?=some ev→es[j]?=some ev'→conflict ev.t ev'.t=true→ord (oc ops) i j∨gX T ev ev'=true:=by
     rcases C.cnf with h|h
     ·exact .inl ⟨hnx,.inr h⟩
     ·cases hr:mw T ev with
      | none=>exact .inl ⟨hnx,.inl hr⟩
      | some q=>obtain ⟨k,o,nn⟩:=q;exact .inr ⟨k,o,nn,rfl,h⟩
    rcases hwh with hwh|⟨k0,o,nn,hrg,hB⟩
    case inr =>
     rcases nk hrg with ⟨vs,h,_⟩|⟨_,t,ad,_,_,_,_,_,_,_,q1,q2,_⟩
     ·rw [hnx] at h;cases h
     refine I.GP C n hB hnx hrg hop ?_ d1.symm hdst heval (fun v' w' γ'=>hnext γ' _ w');rw [q1] at htch;rw [hrd,←q2];cases htch;rfl
    case inl =>
    have hnx:=hwh;have hwlast:∀ k,k ∈ ev.t.wr→∀ i e',j < i→es[i]?=some e'→D i=true→¬ e'.turns k:=fun k hk i e' hji he hD=>C.Ck n (.inl hk) hnx hji he hD
    have hop':iU T ev.st.hp.n ev.o.op (aQ ev.st.fr) (gD es st0 D)=some (v,e):=by
     by_cases hsp:∃ i e',j < i∧es[i]?=some e'∧D i=true∧spare T ev e'=true∧∃ k ∈ ev.t.rd,e'.turns k
     ·
      obtain ⟨i0,e0,hji0,he0,hD0,hs0,k,hk,ht0⟩:=hsp;obtain ⟨r,s1,s2,s3,s4,_,_⟩:=nr hs0;rw [s1] at hk;obtain rfl:=List.mem_singleton.1 hk
      rcases Ii k es D 0 (st0.hp.get k) with hn|⟨i,e',h1,h2,h3,h4,h5⟩
      ·exact absurd ht0 (hn i0 e0 he0 (by rw [Nat.zero_add];exact hD0))
      ·obtain ⟨y,h4,hy⟩:=h4;rw [Nat.zero_add] at h2 hy;have hji:j < i:=by apply Nat.lt_of_not_le;intro hle;exact h5 i0 e0 (by omega) he0 (by rw [Nat.zero_add];exact hD0) ht0
       have hsi:spare T ev e'=true:=by
        rcases C.D7 j i _ _ hji n.hj h1 (ei h3 (.inl (by rw [s1];simp))) (.inl hnx) with ho|hsp
        ·exact absurd (n.behind ho h2) id
        ·exact hsp
       obtain ⟨_,_,_,_,_,_,hope⟩:=nr hsi
       have h4':gD es st0 D k=e'.hp.get k:=by
        have hall:∀ l z,l < i→es[l]?=some z→z.turns k→D l=true:=by
         intro l z hli hz htz
         have hcf:conflict z.t e'.t=true:=by
          rcases h3 with hw|hw
          ·exact gP htz (.inr hw)
          ·rcases htz with hz1|hz1
           ·exact ei (.inr hw) (.inr hz1)
           ·obtain ⟨_,a2,a3,a4,_⟩:=C.facts hz;obtain ⟨_,b2,b3,b4,_⟩:=C.facts h1;have:=dG.mono C.hK C.ch C.wf l i z e' hli hz h1;omega
         rcases C.FA hli hz h1 hcf with ho|hs|hs
         ·exact gp n.cl ho h2
         ·exact (eM hs k htz).elim
         ·rcases C.cnf with hA|hB
          ·rcases hA l i _ _ hli hz h1 hcf with ho|hs
           ·exact gp n.cl ho h2
           ·exact (eM hs k htz).elim
          ·rcases hB j i _ _ hji n.hj h1 (ei h3 (.inl (by rw [s1];simp))) with ho|hs'
           ·exact (n.behind ho h2).elim
           ·rcases hwh.2 with hr|hA
            ·exact (y4 hs' (.inl hr)).elim
            ·rcases hA l i _ _ hli hz h1 hcf with ho|hs
             ·exact gp n.cl ho h2
             ·exact (eM hs k htz).elim
        obtain ⟨c1,c2,_,_,_,c6,_⟩:=C.at h1;show iJ (Ev.at k) es D 0 _=_;rw [h4,hy]
        have:iJ (Ev.at k) es (fun m=>D m && decide (m < i)) 0 (st0.hp.get k)=e'.st.hp.get k:=by
         rw [c6 k];refine jh es _ _ 0 _ fun l z hz hd x=>?_;simp only [Nat.zero_add] at hd;by_cases htz:z.turns k
         ·exfalso;by_cases hli:l < i
          ·rw [hall l z hli hz htz,Bool.true_and] at hd;exact hd rfl
          ·rw [decide_eq_false hli,Bool.and_false] at hd;exact hd rfl
         ·exact Ev.qh htz x
        rw [this];exact c1.Au C.hK c2 k
       have hcong:iU T ev.st.hp.n ev.o.op (aQ ev.st.fr) (gD es st0 D)=iU T ev.st.hp.n ev.o.op (aQ ev.st.fr) e'.hp.get :=
        yX htch (fun q hq=>by
         rw [←hrd,s1] at hq;obtain rfl:=List.mem_singleton.1 hq
         exact h4') (fun q hq=>by rw [←hwrr,s2] at hq;cases hq)
       rw [hcong,hope,←d1]
       have he:e=.none:=by
        obtain ⟨q1,q2⟩:=vQ htch;have hin:=(rH hop).2 q1;rw [q2,←hwrr,s2] at hin;have hab:ev.t.a=ev.t.b:=s3;rw [f2,f3,←d2,qg] at hab
        cases e with
        | none=>rfl
        | new b=>simp [cv.news] at hab
        | put q b=>cases hin
        | app q b=>cases hin
       rw [he]
     ·have hrl:∀ k,k ∈ ev.t.rd→∀ i e',j < i→es[i]?=some e'→D i=true→¬ e'.turns k:=fun k hk i e' hji he hD ht=>by
       rcases C.D7 j i _ _ hji n.hj he (ei ht (.inl hk)) (.inl hnx) with ho|hs
       ·exact n.behind ho hD
       ·exact hsp ⟨i,e',hji,he,hD,hs,k,hk,ht⟩
      rw [yX htch (fun k hk=>C.v8 n (.inl (by rw [hrd];exact hk)) (hrl k (by rw [hrd];exact hk)) hnx) (fun k hk=>C.v8 n (.inr (by rw [hwrr];exact hk)) (hwlast k (by rw [hwrr];exact hk)) hnx)];exact hop
    have hn:e.news=true→γ.loc ev.st.hp.n=none:=fun he=>I.fresh j ev n.hj n.d _ (by omega) (by
     rw [f3,←d2,qg,if_pos he];omega)
    obtain ⟨v',w',γ',h1,h2,h3,h4,h5,h6⟩:=rF (n:=ev.st.hp.n) C.hT I.hr hn hop' heval
    have hget:e.on ev.st.hp.n (gD es st0 D)=gD es st0 D':=by
     funext k
     have hget0:ev.hp.get=e.on ev.st.hp.n ev.st.hp.get:=by rw [←d2,Hp.z8]
     by_cases ht:ev.turns k
     ·rw [C.Av n ht hnx,hget0]
      rcases ht with ht|ht
      ·have:=C.v8 n (.inr ht) (hwlast k ht) hnx;cases e <;> simp only [cv.on,iB] <;> (repeat' split) <;> first|rfl|exact this
      ·have hk:k=ev.st.hp.n∧e.news=true:=by
        rw [f2,f3,←d2,qg] at ht;split at ht
        ·rename_i hne;exact ⟨by omega,hne⟩
        ·omega
       obtain ⟨rfl,hne⟩:=hk
       cases e with
       | none=>cases hne
       | put=>cases hne
       | new b=>simp [cv.on,iB]
       | app q b=>simp [cv.on,iB]
     ·rw [C.ji n ht];obtain ⟨q1,q2⟩:=vQ htch;have hin:=(rH hop).2 q1;rw [q2] at hin;have hnk:e.news=true→k ≠ ev.st.hp.n:=fun hne hk=>ht (.inr ⟨by omega,by rw [f3,←d2,qg,if_pos hne];omega⟩)
      cases e with
      | none=>rfl
      | new b=>simp [cv.on,iB,hnk rfl]
      | put q b =>have:k ≠ q:=fun hk=>ht (.inl (by rw [hwrr,hk];exact hin));simp [cv.on,iB,this]
      | app q b =>have:k ≠ q:=fun hk=>ht (.inl (by rw [hwrr,hk];exact hin));simp [cv.on,iB,this,hnk rfl]
    rw [hget] at h4 h6
    have hout:∀ k,(k < ev.st.hp.n∨ev.hp.n≤k)→γ'.loc k=γ.loc k:=fun k hk=>h3 k fun hkn=>by
     cases hne:e.news with
     | false=>rfl
     | true =>rw [←d2,qg,if_pos hne] at hk;omega
    refine Oper.rM (w':=w') (v':=v') (pG hop) h1 (hnext γ' _ w' ⟨I.le.trans h2,fun k hk=>?_,I.jk C n hout,h4,I.iB.trans h6,fun t=>I.pI C n h2 (by rw [←d1];exact h5) hdst t,(gO _ _ _).trans I.sz,(put_defers _ _ _).trans I.df⟩);rw [hout k (by omega),I.out k hk]
   ·cases hd
end
end
end Go.RM
